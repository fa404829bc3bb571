import PyProof.Rows.All
import Wide.All
import OpenK.AllK
import Wide.FinOn
import PySem.Claim
import PySem.PyData
import PyProof.P3Statements
import PyProof.StrBlockL
import PyProof.Rows.StrNews2
import OpenK.KCell
import OpenK.KMeth
import PyProof.P3Eq
import PyProof.P3In
import PyProof.EqKinds
import PyProof.TupleKey
import PyProof.SetKind
import PyProof.Rows.RotEnd
import PyProof.Rows.ListMul
import PyProof.IsRules
import PyProof.Rows.TupDisplay
import PyProof.Rows.DictRows
import PyProof.DictStraight
import PyProof.DictIter
import KE.KEqDict
import PyProof.EnumMake
import PyProof.WalksMore
import PyProof.StrWalks
import PyProof.CompFree
import PyProof.Rows.StrNews
import PyProof.Rows.SeqSlice
import PyProof.SliceMore
import PyProof.Rows.StrTemp
import PyProof.StrLawsIdx
import PyProof.Rows.SetFrom
import PyProof.MaxThree
import PyProof.TypeOfCall
import PyProof.CallType
import PyProof.Rows.GenSrcRange
import OpenK.KRaise
import KE.KSorted
import KE.KDictOf
import KE.KIntText
import KE.KxPart
import KE.KPop
import PyProof.StrLawsAffix
import PyProof.SetRoads
import KE.KUnpack
import KE.KPar
import KE.KTryOn
import PyProof.StrLawsFirst
import PyProof.StrLaws
import PyProof.StrLawsWords
import PySem.Challenge.RW_ui0508_07
set_option Elab.async false
set_option linter.all false
set_option autoImplicit false
set_option compiler.extract_closed false
set_option maxHeartbeats 8000000
set_option maxRecDepth 100000
set_option genInjectivity false
set_option genSizeOfSpec false
namespace Mi
open PySem
inductive Val where
 | none
 | bool (b : Bool)
 | int (i : Int)
 | str (s : List Nat)
 | tup (vs : List Val)
 | ref (a : Nat)
 | top (a : Nat)
 | ty (n : Nat)
 | bi (n : Nat)
 | rng (n : Int)
 | fl (vs : List Val)
 | setn (n : Nat)
inductive MObj where
 | list (vs : List Val)
 | dict (ep : Option Nat) (es : List (Val × Val))
 | inst (c : Nat) (fs : List (Nat × Val))
noncomputable abbrev MH := List MObj
noncomputable abbrev Frame := List (Option Val)
inductive BOp where
 | add | sub | mul | fdiv | mod | pow
inductive COp where
 | eq | ne | lt | le | gt | ge | isin | notin | is | isnot
inductive Ex where
 | var (x : Nat)
 | lit (v : Val)
 | list (es : List Ex)
 | tup (es : List Ex)
 | dict (kvs : List Ex)
 | bin (op : BOp) (a b : Ex)
 | not (a : Ex)
 | cmp (op : COp) (a b : Ex)
 | bop (stop : Bool) (es : List Ex)
 | ite (c a b : Ex)
 | attr (e : Ex) (n : Nat)
 | sub (e i : Ex)
 | slice (e : Ex) (k : Nat) (bs : List Ex)
 | call (f : Ex) (as : List Ex)
 | meth (o : Ex) (n : Nat) (as : List Ex)
 | comp (elt : Ex) (tg : List Nat) (many : Bool) (it : Ex) (ifs : List Ex)
inductive T1 where
 | nm (x : Nat)
 | at (o : Ex) (n : Nat)
 | sb (o i : Ex)
inductive Sm where
 | expr (e : Ex)
 | asg (t : T1) (e : Ex)
 | asgs (ts : List T1) (e : Ex)
 | ret (e : Ex)
 | ite (c : Ex) (a b : List Sm)
 | wh (c : Ex) (b : List Sm)
 | fo (tg : List Nat) (many : Bool) (e : Ex) (b : List Sm)
 | brk | cont | pass
 | raise
 | rse (e : Ex)
 | tr (x : Nat) (e : Ex) (y : Nat) (v : Val)
inductive Fl where
 | nx | bk | ct
 | rt (v : Val)
structure Fn where
 addr : Nat
 np : Nat
 dfl : List Val
 ns : Nat
 body : List Sm
structure Cl where
 addr : Nat
 attrs : List (Nat × Val)
 init : Option Nat
 flds : List Nat
structure Prg where
 fns : List Fn
 cls : List Cl
 insts : List (Nat × Nat)
noncomputable def enc (x : Str) : Nat := x.cps.toList.foldl (fun a c => a * 256 + c) 0
noncomputable def bnd {α β : Type} (o : Option (α × MH)) (f : α -> MH -> Option (β × MH)) : Option (β × MH) := Option.casesOn (motive:=fun _ => Option (β × MH)) o none fun p => f p.1 p.2
noncomputable def alt {α : Type} (a b : Option α) : Option α := Option.casesOn (motive:=fun _ => Option α) a b some
noncomputable def grd {α : Type} (b : Bool) (o : Option α) : Option α := Bool.casesOn (motive:=fun _ => Option α) b none o
noncomputable def Val.int? (x : Val) : Option Int := Val.casesOn (motive_1:=fun _ => Option Int) x .none (fun _ => .none) some (fun _ => .none) (fun _ => .none) (fun _ => .none) (fun _ => .none) (fun _ => .none) (fun _ => .none) (fun _ => .none) (fun _ => .none) (fun _ => .none)
noncomputable def Val.str? (x : Val) : Option (List Nat) := Val.casesOn (motive_1:=fun _ => Option (List Nat)) x .none (fun _ => .none) (fun _ => .none) some (fun _ => .none) (fun _ => .none) (fun _ => .none) (fun _ => .none) (fun _ => .none) (fun _ => .none) (fun _ => .none) (fun _ => .none)
noncomputable def Val.tup? (x : Val) : Option (List Val) := Val.casesOn (motive_1:=fun _ => Option (List Val)) x .none (fun _ => .none) (fun _ => .none) (fun _ => .none) some (fun _ => .none) (fun _ => .none) (fun _ => .none) (fun _ => .none) (fun _ => .none) (fun _ => .none) (fun _ => .none)
noncomputable def Val.ref? (x : Val) : Option Nat := Val.casesOn (motive_1:=fun _ => Option Nat) x .none (fun _ => .none) (fun _ => .none) (fun _ => .none) (fun _ => .none) some (fun _ => .none) (fun _ => .none) (fun _ => .none) (fun _ => .none) (fun _ => .none) (fun _ => .none)
noncomputable def Val.top? (x : Val) : Option Nat := Val.casesOn (motive_1:=fun _ => Option Nat) x .none (fun _ => .none) (fun _ => .none) (fun _ => .none) (fun _ => .none) (fun _ => .none) some (fun _ => .none) (fun _ => .none) (fun _ => .none) (fun _ => .none) (fun _ => .none)
noncomputable def Val.ty? (x : Val) : Option Nat := Val.casesOn (motive_1:=fun _ => Option Nat) x .none (fun _ => .none) (fun _ => .none) (fun _ => .none) (fun _ => .none) (fun _ => .none) (fun _ => .none) some (fun _ => .none) (fun _ => .none) (fun _ => .none) (fun _ => .none)
noncomputable def Val.bi? (x : Val) : Option Nat := Val.casesOn (motive_1:=fun _ => Option Nat) x .none (fun _ => .none) (fun _ => .none) (fun _ => .none) (fun _ => .none) (fun _ => .none) (fun _ => .none) (fun _ => .none) some (fun _ => .none) (fun _ => .none) (fun _ => .none)
noncomputable def Val.fl? (x : Val) : Option (List Val) := Val.casesOn (motive_1:=fun _ => Option (List Val)) x .none (fun _ => .none) (fun _ => .none) (fun _ => .none) (fun _ => .none) (fun _ => .none) (fun _ => .none) (fun _ => .none) (fun _ => .none) (fun _ => .none) some (fun _ => .none)
noncomputable def Val.bool? (x : Val) : Option Bool := Val.casesOn (motive_1:=fun _ => Option Bool) x .none some (fun _ => .none) (fun _ => .none) (fun _ => .none) (fun _ => .none) (fun _ => .none) (fun _ => .none) (fun _ => .none) (fun _ => .none) (fun _ => .none) (fun _ => .none)
noncomputable def Val.rng? (x : Val) : Option Int := Val.casesOn (motive_1:=fun _ => Option Int) x .none (fun _ => .none) (fun _ => .none) (fun _ => .none) (fun _ => .none) (fun _ => .none) (fun _ => .none) (fun _ => .none) (fun _ => .none) some (fun _ => .none) (fun _ => .none)
noncomputable def Val.isNone (x : Val) : Bool := Val.casesOn (motive_1:=fun _ => Bool) x true (fun _ => false) (fun _ => false) (fun _ => false) (fun _ => false) (fun _ => false) (fun _ => false) (fun _ => false) (fun _ => false) (fun _ => false) (fun _ => false) (fun _ => false)
noncomputable def MObj.list? (o : MObj) : Option (List Val) := MObj.casesOn (motive:=fun _ => Option (List Val)) o some (fun _ _ => none) (fun _ _ => none)
noncomputable def MObj.dict? (o : MObj) : Option (Option Nat × List (Val × Val)) := MObj.casesOn (motive:=fun _ => Option (Option Nat × List (Val × Val))) o (fun _ => none) (fun e es => some (e,es)) (fun _ _ => none)
noncomputable def MObj.inst? (o : MObj) : Option (Nat × List (Nat × Val)) := MObj.casesOn (motive:=fun _ => Option (Nat × List (Nat × Val))) o (fun _ => none) (fun _ _ => none) (fun c fs => some (c,fs))
noncomputable def zas (h : MH) (x : Val) : Option (List Val) := x.ref?.bind fun a => h[a]?.bind MObj.list?
noncomputable def zbv (h : MH) (x : Val) : Option (Option Nat × List (Val × Val)) := x.ref?.bind fun a => h[a]?.bind MObj.dict?
noncomputable def instAt (h : MH) (x : Val) : Option (Nat × List (Nat × Val)) := x.ref?.bind fun a => h[a]?.bind MObj.inst?
noncomputable def a0 {α : Type} (as : List Val) (f : Option α) : Option α := List.casesOn (motive:=fun _ => Option α) as f fun _ _ => none
noncomputable def a1 {α : Type} (as : List Val) (f : Val -> Option α) : Option α := List.casesOn (motive:=fun _ => Option α) as none fun v r => a0 r (f v)
noncomputable def a2 {α : Type} (as : List Val) (f : Val -> Val -> Option α) : Option α := List.casesOn (motive:=fun _ => Option α) as none fun v r => a1 r (f v)
noncomputable def a3 {α : Type} (as : List Val) (f : Val -> Val -> Val -> Option α) : Option α := List.casesOn (motive:=fun _ => Option α) as none fun v r => a2 r (f v)
noncomputable def toD (h : MH) : Nat -> Val -> Option PyData
 | _,.none => some .none
 | _,.bool b => some (.bool b)
 | _,.int i => some (.int i)
 | _,.str s => some (.str ⟨s.toArray⟩)
 | k + 1,.tup vs => (vs.mapM (toD h k)).map .tuple
 | k + 1,.ref a => (zas h (.ref a)).bind fun vs => (vs.mapM (toD h k)).map .list
 | _,_ => none
noncomputable def veqD (h : MH) (a b : Val) : Option Bool := (toD h 8 a).bind fun x => (toD h 8 b).map fun y => PyData.eqv x y
noncomputable def kEq (a b : Val) : Bool := (veqD [] a b).getD false
noncomputable def dget (es : List (Val × Val)) (k : Val) : Option Val := (es.find? fun p => kEq p.1 k).map (·.2)
noncomputable def zbJ (v : Val) : Bool := v.int?.isSome || v.str?.isSome
noncomputable def zaA (v : Val) : Nat := bif zbJ v then 1 else bif (v.tup?.map fun vs => vs.all zbJ).getD false then 3 else 0
noncomputable def zaX (h : MH) (es2 : List (Val × Val)) : List (Val × Val) -> Option Bool
 | [] => some true
 | p :: r => Option.casesOn (motive:=fun _ => Option Bool) (dget es2 p.1) (some false) fun y => (veqD h p.2 y).bind fun e => (zaX h es2 r).map fun b => e && b
noncomputable def kind0 (es : List (Val × Val)) : Option Nat := es.head?.map fun p => zaA p.1
noncomputable def zbm (a b : List (Val × Val)) : Bool := a.isEmpty || b.isEmpty || kind0 a == kind0 b
noncomputable def veq (h : MH) (a b : Val) : Option Bool :=
 alt ((zbv h a).bind fun d1 => (zbv h b).bind fun d2 => grd (zbm d1.2 d2.2) (bif d1.2.length == d2.2.length then zaX h d2.2 d1.2 else some false)) (veqD h a b)
noncomputable def truthy (h : MH) (x : Val) : Option Bool := Val.casesOn (motive_1:=fun _ => Option Bool) x (some false) some (fun i => some (i != 0)) (fun s => some (!s.isEmpty)) (fun vs => some (!vs.isEmpty))
 (fun a => (zas h (.ref a)).map fun vs => !vs.isEmpty) (fun _ => none) (fun _ => none) (fun _ => none) (fun _ => none) (fun _ => none) (fun _ => none)
noncomputable def zat (es : List (Val × Val)) (k : Val) : Bool := zaA k != 0 && (es.isEmpty || kind0 es == some (zaA k))
noncomputable def dput (es : List (Val × Val)) (k v : Val) : List (Val × Val) :=
 bif (dget es k).isSome then es.map fun p => bif kEq p.1 k then (p.1,v) else p else es ++ [(k,v)]
noncomputable def dpairs : List Val -> List (Val × Val) -> Option (List (Val × Val))
 | [],es => some es
 | [_],_ => none
 | k :: v :: r,es => grd (zat es k) (dpairs r (dput es k v))
noncomputable def zbd (h : MH) (o : MObj) : Option (Val × MH) := some (.ref h.length,h ++ [o])
noncomputable def lim : Nat := 1000000
noncomputable def bigB : Nat := 2 ^ 100000
noncomputable def divB : Nat := 2 ^ 8000
noncomputable def mulOk (a b : Int) : Bool := Nat.ble (a.natAbs + 1) bigB && Nat.ble (b.natAbs + 1) bigB
noncomputable def repOk (l : Nat) (n : Int) : Bool := decide (n <= lim) && decide (-(lim : Int) <= n) && Nat.ble (l * n.toNat) lim
noncomputable def addOp (h : MH) (x y : Val) : Option (Val × MH) :=
 alt (x.int?.bind fun a => y.int?.bind fun b => some (.int (a + b),h))
 (alt (x.str?.bind fun a => y.str?.bind fun b => grd (Nat.ble (a.length + b.length) lim) (some (.str (a ++ b),h)))
 ((zas h x).bind fun a => (zas h y).bind fun b => grd (Nat.ble (a.length + b.length) lim) (zbd h (.list (a ++ b)))))
noncomputable def mulOp (h : MH) (x y : Val) : Option (Val × MH) :=
 alt (x.int?.bind fun a => y.int?.bind fun b => grd (mulOk a b) (some (.int (a * b),h)))
 (alt (x.int?.bind fun a => y.bool?.bind fun b => some (.int (a * (if b then 1 else 0)),h))
 (alt ((zas h x).bind fun a => y.int?.bind fun n => grd (repOk a.length n) (zbd h (.list (List.replicate n.toNat a).flatten)))
 (x.str?.bind fun a => y.int?.bind fun n => grd (repOk a.length n) (some (.str (List.replicate n.toNat a).flatten,h)))))
noncomputable def arith (op : BOp) (a b : Int) : Option Int := BOp.casesOn (motive:=fun _ => Option Int) op none (some (a - b)) none
 (grd (b != 0 && Nat.ble (b.natAbs + 1) divB) (some (Int.fdiv a b))) (grd (b != 0) (some (Int.fmod a b)))
 (grd (decide (0 <= b) && decide (b <= 64) && Nat.ble (a.natAbs + 1) (2 ^ 64)) (some (a ^ b.toNat)))
noncomputable def binop (op : BOp) (x y : Val) (h : MH) : Option (Val × MH) :=
 alt (x.int?.bind fun a => y.int?.bind fun b => (arith op a b).map fun k => (.int k,h))
 (BOp.casesOn (motive:=fun _ => Option (Val × MH)) op (addOp h x y) none none none none none)
noncomputable def isV (a b : Val) : Option Bool :=
 alt (grd b.isNone (some a.isNone))
 (alt (a.ty?.bind fun i => b.ty?.map fun j => i == j)
 (alt (a.top?.bind fun i => b.top?.map fun j => i == j)
 (grd (a.isNone || a.int?.isSome || a.tup?.isSome) (b.top?.map fun _ => false))))
noncomputable def anyEq (h : MH) (x : Val) (vs : List Val) : Option Bool := (vs.mapM (toD h 7)).bind fun ds => (toD h 7 x).map fun d => ds.any fun y => PyData.eqv y d
noncomputable def one? (s : List Nat) : Option Nat := List.casesOn (motive:=fun _ => Option Nat) s none fun c r => List.casesOn (motive:=fun _ => Option Nat) r (some c) fun _ _ => none
noncomputable def isIn (h : MH) (x y : Val) : Option Bool :=
 y.str?.bind fun t => (x.str?.bind one?).map fun c => t.contains c
noncomputable def cmpI (x y : Val) (f : Int -> Int -> Bool) : Option Bool := x.int?.bind fun a => y.int?.map fun b => f a b
noncomputable def cmpop (op : COp) (a b : Val) (h : MH) : Option Bool := COp.casesOn (motive:=fun _ => Option Bool) op (veq h a b) ((veq h a b).map (!·))
 (cmpI a b fun x y => decide (x < y)) (cmpI a b fun x y => decide (x <= y)) (cmpI a b fun x y => decide (y < x)) (cmpI a b fun x y => decide (y <= x))
 (isIn h a b) ((isIn h a b).map (!·)) (isV a b) ((isV a b).map (!·))
noncomputable def idx (n : Nat) (i : Val) : Option Nat := i.int?.bind fun i => grd (decide (0 <= i) && decide (i < n)) (some i.toNat)
noncomputable def subscr (h : MH) (o i : Val) : Option Val :=
 alt (o.tup?.bind fun vs => (idx vs.length i).bind fun k => vs[k]?)
 (alt (o.fl?.bind fun vs => (idx vs.length i).bind fun k => vs[k]?)
 (alt ((zas h o).bind fun vs => (idx vs.length i).bind fun k => vs[k]?)
 (alt (o.str?.bind fun s => (idx s.length i).bind fun k => s[k]?.map fun c => .str [c])
 (alt ((zbv h o).bind fun d => grd (zat d.2 i) (dget d.2 i))
 ((zas h o).bind fun vs => i.bool?.bind fun b => vs[cond b 1 0]?)))))
noncomputable def zbq (n : Nat) (v : Val) : Option Nat := v.int?.bind fun i => grd (decide (0 <= i)) (some (min i.toNat n))
noncomputable def bounds (n k : Nat) (bs : List Val) : Option (Nat × Nat) :=
 bif k == 0 then a0 bs (some (0,n)) else bif k == 1 then a1 bs fun a => (zbq n a).map fun x => (x,n)
 else bif k == 2 then a1 bs fun b => (zbq n b).map fun y => (0,y) else bif k == 3 then a2 bs fun a b => (zbq n a).bind fun x => (zbq n b).map fun y => (x,y) else none
noncomputable def cut {α : Type} (l : List α) (a b : Nat) : List α := (l.take b).drop a
noncomputable def slice (h : MH) (o : Val) (k : Nat) (bs : List Val) : Option (Val × MH) :=
 alt (o.str?.bind fun s => (bounds s.length k bs).bind fun p => some (.str (cut s p.1 p.2),h))
 ((zas h o).bind fun s => (bounds s.length k bs).bind fun p => zbd h (.list (cut s p.1 p.2)))
noncomputable def zcm (h : MH) (o i v : Val) : Option MH := o.ref?.bind fun a =>
 alt ((h[a]?.bind MObj.list?).bind fun vs => (idx vs.length i).map fun k => h.set a (.list (vs.set k v)))
 ((h[a]?.bind MObj.dict?).bind fun d => grd (zat d.2 i && Nat.ble (d.2.length + 1) lim) (some (h.set a (.dict (bif (dget d.2 i).isSome then d.1 else d.1.map (· + 1)) (dput d.2 i v)))))
noncomputable def fget (fs : List (Nat × Val)) (n : Nat) : Option Val := (fs.find? fun p => p.1 == n).map (·.2)
noncomputable def fput : List (Nat × Val) -> Nat -> Val -> List (Nat × Val)
 | [],n,v => [(n,v)]
 | p :: r,n,v => bif p.1 == n then (n,v) :: r else p :: fput r n v
noncomputable def Prg.clsAt (P : Prg) (c : Nat) : Option Cl := P.cls.find? fun x => x.addr == c
noncomputable def Prg.clsAttr (P : Prg) (c n : Nat) : Option Val := (P.clsAt c).bind fun x => fget x.attrs n
noncomputable def Prg.hasFld (P : Prg) (c n : Nat) : Bool := ((P.clsAt c).map fun k => k.flds.contains n).getD false
noncomputable def Prg.instAt (P : Prg) (a : Nat) : Option Nat := (P.insts.find? fun p => p.1 == a).map (·.2)
noncomputable def isFnV (P : Prg) (v : Val) : Bool := (v.top?.map fun a => P.fns.any fun f => f.addr == a).getD false
noncomputable def attrC (P : Prg) (c n : Nat) : Option Val := (P.clsAttr c n).bind fun v => grd (!isFnV P v) (some v)
noncomputable def getAttr (P : Prg) (h : MH) (o : Val) (n : Nat) : Option Val :=
 alt ((instAt h o).bind fun q => Option.casesOn (motive:=fun _ => Option Val) (fget q.2 n) (attrC P q.1 n) fun v => grd (P.hasFld q.1 n) (some v))
 (o.top?.bind fun a => (P.instAt a).bind fun c => attrC P c n)
noncomputable def setAttr (P : Prg) (h : MH) (o : Val) (n : Nat) (v : Val) : Option MH := o.ref?.bind fun a => (h[a]?.bind MObj.inst?).bind fun q =>
 grd (P.hasFld q.1 n && Nat.ble (q.2.length + 1) 400) (some (h.set a (.inst q.1 (fput q.2 n v))))
noncomputable def methC (P : Prg) (c n : Nat) : Option Nat := (P.clsAttr c n).bind fun v => grd (isFnV P v) v.top?
noncomputable def zbc (P : Prg) (h : MH) (o : Val) (n : Nat) : Option (Nat × List Val) :=
 alt (o.top?.bind fun a => Option.casesOn (motive:=fun _ => Option (Nat × List Val)) (P.instAt a) ((methC P a n).map fun f => (f,[])) fun c => (methC P c n).map fun f => (f,[o]))
 ((instAt h o).bind fun q => grd (fget q.2 n).isNone ((methC P q.1 n).map fun f => (f,[o])))
inductive It where
 | ls (a : Nat)
 | tp (vs : List Val)
 | dk (a n ep : Nat)
 | sq (s : List Nat)
 | rg (n : Int)
 | fs (vs : List Val)
noncomputable def za5 (h : MH) (x : Val) : Option It :=
 alt (x.rng?.bind fun n => grd (decide (n <= lim) && decide (-(lim : Int) <= n)) (some (.rg n)))
 (alt (x.ref?.bind fun a => alt ((h[a]?.bind MObj.list?).map fun _ => .ls a) none)
 (alt (x.tup?.map .tp) (alt (x.str?.map .sq) (x.fl?.map .fs))))
noncomputable def zah (h : MH) (i : Nat) (k : It) : Option (Option Val) := It.casesOn (motive:=fun _ => Option (Option Val)) k
 (fun a => (h[a]?.bind MObj.list?).map fun vs => vs[i]?)
 (fun vs => some vs[i]?)
 (fun _ _ _ => none)
 (fun s => some (s[i]?.map fun c => .str [c]))
 (fun n => some (bif decide ((i : Int) < n) then some (.int i) else none))
 (fun vs => some vs[i]?)
noncomputable def items (h : MH) (x : Val) : Option (List Val) := alt x.tup? (zas h x)
noncomputable def puts (tg : List Nat) (vs : List Val) (fr : Frame) : Frame := (tg.zip vs).foldl (fun f p => f.set p.1 (some p.2)) fr
noncomputable def zbf (fr : Frame) (tg : List Nat) (many : Bool) (v : Val) : Option Frame :=
 bif many then v.tup?.bind fun vs => grd (vs.length == tg.length) (some (puts tg vs fr)) else grd (tg.length == 1) (some (puts tg [v] fr))
noncomputable def digs (n : Nat) : List Nat := (Nat.toDigits 10 n).map Char.toNat
noncomputable def zc2 (i : Int) : List Nat := bif decide (i < 0) then 45 :: digs i.natAbs else digs i.natAbs
noncomputable def readNat (s : List Nat) : Option Nat := grd (!s.isEmpty && Nat.ble s.length 640 && s.all fun c => Nat.ble 48 c && Nat.ble c 57) (some (s.foldl (fun a c => a * 10 + (c - 48)) 0))
noncomputable def zbI (sep : List Nat) : List Val -> Option (List Nat)
 | [] => some []
 | v :: r => v.str?.bind fun s => List.casesOn (motive:=fun _ => Option (List Nat)) r (some s) fun _ _ => (zbI sep r).map fun t => s ++ sep ++ t
noncomputable abbrev nLen : Nat := 7103854
noncomputable abbrev nMax : Nat := 7168376
noncomputable abbrev nMin : Nat := 7170414
noncomputable abbrev nSorted : Nat := 126922498794852
noncomputable abbrev nRange : Nat := 491260897125
noncomputable abbrev nList : Nat := 1818850164
noncomputable abbrev nDict : Nat := 1684628340
noncomputable abbrev nTuple : Nat := 500186508389
noncomputable abbrev nStr : Nat := 7566450
noncomputable abbrev nInt : Nat := 6909556
noncomputable abbrev nType : Nat := 1954115685
noncomputable abbrev nSet : Nat := 7562612
noncomputable abbrev nBool : Nat := 1651470188
noncomputable abbrev nNoneType : Nat := 5651857438861258853
noncomputable abbrev nAppend : Nat := 107135549927012
noncomputable abbrev nPop : Nat := 7368560
noncomputable abbrev nIndex : Nat := 452823639416
noncomputable abbrev nGet : Nat := 6776180
noncomputable abbrev nIsspace : Nat := 29681812198482789
noncomputable abbrev nJoin : Nat := 1785686382
noncomputable abbrev nPartition : Nat := 2073057139020767260526
noncomputable abbrev nSplit : Nat := 495807392116
noncomputable abbrev nStrip : Nat := 495874894192
noncomputable abbrev nStartswith : Nat := 545218989645367805047912
noncomputable abbrev nFind : Nat := 1718185572
noncomputable abbrev nAdd : Nat := 6382692
noncomputable def typeOf (h : MH) (x : Val) : Option Nat := Val.casesOn (motive_1:=fun _ => Option Nat) x (some nNoneType) (fun _ => some nBool) (fun _ => some nInt) (fun _ => some nStr) (fun _ => some nTuple)
 (fun a => (zas h (.ref a)).map fun _ => nList) (fun _ => none) (fun _ => none) (fun _ => none) (fun _ => none) (fun _ => none) (fun _ => none)
noncomputable def lenV (h : MH) (x : Val) : Option Nat := Val.casesOn (motive_1:=fun _ => Option Nat) x none (fun _ => none) (fun _ => none) (fun s => some s.length) (fun vs => some vs.length)
 (fun a => alt ((zas h (.ref a)).map (·.length)) ((zbv h (.ref a)).map (·.2.length))) (fun _ => none) (fun _ => none) (fun _ => none) (fun _ => none) (fun vs => some vs.length) some
noncomputable def intsV (l : List Val) : Option (List Int) := l.mapM Val.int?
noncomputable def maxL (l : List Int) : Option Int := List.casesOn (motive:=fun _ => Option Int) l none fun a r => some (r.foldl max a)
noncomputable def biLen (as : List Val) (h : MH) : Option (Val × MH) := a1 as fun v => (lenV h v).map fun (k : Nat) => (Val.int (k : Int),h)
noncomputable def biMax (as : List Val) (h : MH) : Option (Val × MH) := none
noncomputable def biMin (as : List Val) (h : MH) : Option (Val × MH) := a2 as fun x y => x.int?.bind fun a => y.int?.map fun b => (.int (if b < a then b else a),h)
noncomputable def biSorted (as : List Val) (h : MH) : Option (Val × MH) := none
noncomputable def callBi (n : Nat) (as : List Val) (h : MH) : Option (Val × MH) :=
 alt (grd (n == nLen) (biLen as h)) (alt (grd (n == nMax) (biMax as h)) (alt (grd (n == nMin) (biMin as h)) (grd (n == nSorted) (biSorted as h))))
noncomputable def tyRange (as : List Val) (h : MH) : Option (Val × MH) := a1 as fun x => x.int?.map fun k => (.rng k,h)
noncomputable def tyList (as : List Val) (h : MH) : Option (Val × MH) := a1 as fun x => alt (x.tup?.bind fun vs => zbd h (.list vs)) (alt (x.fl?.bind fun vs => zbd h (.list vs)) ((zas h x).bind fun vs => zbd h (.list vs)))
noncomputable def tyDict (as : List Val) (h : MH) : Option (Val × MH) := none
noncomputable def tyStr (as : List Val) (h : MH) : Option (Val × MH) := a1 as fun x =>
 alt (x.int?.bind fun i => grd (Nat.ble (i.natAbs + 1) (2 ^ 1000) && Nat.ble (zc2 i).length lim) (some (.str (zc2 i),h))) (x.str?.map fun s => (.str s,h))
noncomputable def tyInt (as : List Val) (h : MH) : Option (Val × MH) := a1 as fun x => (x.str?.bind readNat).map fun (k : Nat) => (Val.int (k : Int),h)
noncomputable def tyType (as : List Val) (h : MH) : Option (Val × MH) := a1 as fun x => (typeOf h x).map fun k => (.ty k,h)
noncomputable def dedupL (l : List Nat) : List Nat := l.foldl (fun r c => bif r.contains c then r else r ++ [c]) []
noncomputable def tySet (x : Val) (h : MH) : Option (Val × MH) := x.str?.bind fun l => grd (Nat.ble (l.length + 2) 4096) (some (.setn (dedupL l).length,h))
noncomputable def callTy (n : Nat) (as : List Val) (h : MH) : Option (Val × MH) :=
 alt (grd (n == nRange) (tyRange as h)) (alt (grd (n == nList) (tyList as h)) (alt (grd (n == nStr) (tyStr as h)) (alt (grd (n == nType) (tyType as h)) (alt (grd (n == nDict) (tyDict as h)) (alt (grd (n == nInt) (tyInt as h)) (grd (n == nSet) (a1 as fun x => tySet x h)))))))
noncomputable def sOkB (s : List Nat) : Bool := s.all (fun c => Nat.ble (c + 1) 0x110000) && Nat.ble s.length lim
noncomputable def strV (x : Str) : Option Val := grd (sOkB x.cps.toList) (some (.str x.cps.toList))
noncomputable def wordsV (s : List Nat) : Option (List Val) := (Txt.words ⟨s.toArray⟩).mapM strV
noncomputable def zda (s t : List Nat) (i : Int) : Int := List.casesOn (motive:=fun _ => Int) (Builtin.Str.occurrences ⟨s.toArray⟩ ⟨t.toArray⟩ (fromIndex s.length i) s.length 1) (-1) fun k _ => k
noncomputable def strMeth (s : List Nat) (n : Nat) (as : List Val) (h : MH) : Option (Val × MH) :=
 alt (grd (n == nIsspace) (a0 as (some (.bool (Txt.isspace ⟨s.toArray⟩),h))))
 (alt (grd (n == nJoin) (a1 as fun x => (zas h x).bind fun vs => (zbI s vs).bind fun t => grd (Nat.ble t.length lim && Nat.ble (vs.length * s.length) lim) (some (.str t,h))))
 (alt (grd (n == nPartition) (a1 as fun x => x.str?.bind fun t => grd (!t.isEmpty) (some (Txt.partition ⟨s.toArray⟩ ⟨t.toArray⟩) |>.bind fun p =>
   grd (sOkB p.1.cps.toList && sOkB p.2.1.cps.toList && sOkB p.2.2.cps.toList) (some (.tup [.str p.1.cps.toList,.str p.2.1.cps.toList,.str p.2.2.cps.toList],h)))))
 (alt (grd (n == nStartswith) (a1 as fun x => x.str?.map fun t => (.bool (t.isPrefixOf s),h)))
 (alt (grd (n == nStrip) (alt (a0 as ((strV (Txt.strip ⟨s.toArray⟩)).map fun v => (v,h))) (a1 as fun x => x.str?.bind fun t => (strV (Txt.stripChars ⟨s.toArray⟩ ⟨t.toArray⟩)).map fun v => (v,h))))
 (alt (grd (n == nSplit) (a0 as ((wordsV s).bind fun vs => grd (Nat.ble vs.length lim) (zbd h (.list vs)))))
 (grd (n == nFind) (a2 as fun x y => x.str?.bind fun t => y.int?.map fun i => (.int (zda s t i),h))))))))
noncomputable def zb9 (a : Nat) (vs : List Val) (n : Nat) (as : List Val) (h : MH) : Option (Val × MH) :=
 alt (grd (n == nAppend) (a1 as fun v => grd (Nat.ble (vs.length + 1) lim) (some (.none,h.set a (.list (vs ++ [v]))))))
 (grd (n == nPop) (a0 as (vs.getLast?.map fun v => (v,h.set a (.list vs.dropLast)))))
noncomputable def zca (es : List (Val × Val)) (n : Nat) (as : List Val) (h : MH) : Option (Val × MH) :=
 grd (n == nGet) (alt (a1 as fun k => grd (zat es k) (some ((dget es k).getD .none,h))) (a2 as fun k d => grd (zat es k) (some ((dget es k).getD d,h))))
noncomputable def bmeth (o : Val) (n : Nat) (as : List Val) (h0 h : MH) : Option (Val × MH) :=
 alt (o.str?.bind fun s => strMeth s n as h)
 (o.ref?.bind fun a => alt ((h0[a]?.bind MObj.list?).bind fun _ => (h[a]?.bind MObj.list?).bind fun vs => zb9 a vs n as h) ((h0[a]?.bind MObj.dict?).bind fun _ => (h[a]?.bind MObj.dict?).bind fun d => zca d.2 n as h))
structure Cx where
 P : Prg
 fuel : Nat
 call : Nat -> List Val -> MH -> Option (Val × MH)
noncomputable def newV (c : Cx) (a : Nat) (k : Cl) (as : List Val) (h : MH) : Option (Val × MH) :=
 k.init.bind fun i => bnd (c.call i (.ref h.length :: as) (h ++ [.inst a []])) fun r h' => grd r.isNone (some (.ref h.length,h'))
noncomputable def callV (c : Cx) (f : Val) (as : List Val) (h : MH) : Option (Val × MH) :=
 alt (f.top?.bind fun a => Option.casesOn (motive:=fun _ => Option (Val × MH)) (c.P.clsAt a) (c.call a as h) fun k => newV c a k as h)
 (alt (f.bi?.bind fun n => callBi n as h) (f.ty?.bind fun n => callTy n as h))
noncomputable def callM (c : Cx) (o : Val) (n : Nat) (as : List Val) (h0 h : MH) : Option (Val × MH) :=
 Option.casesOn (motive:=fun _ => Option (Val × MH)) (zbc c.P h0 o n) (bmeth o n as h0 h) fun p => c.call p.1 (p.2 ++ as) h
noncomputable def zak (p : Option (Val × MH)) : Option (Bool × MH) := bnd p fun v h => (truthy h v).map fun b => (b,h)
noncomputable def compLoop (next : Nat -> MH -> Option (Option Val)) (test : Val -> MH -> Option (Option Frame × MH)) (elt : Frame -> MH -> Option (Val × MH)) (acc : Nat) : Nat -> Nat -> MH -> Option (Unit × MH)
 | 0,_,_ => none
 | n + 1,i,h => (next i h).bind fun ov => Option.casesOn (motive:=fun _ => Option (Unit × MH)) ov (some ((),h)) fun v =>
  bnd (test v h) fun ofr h1 => Option.casesOn (motive:=fun _ => Option (Unit × MH)) ofr (compLoop next test elt acc n (i + 1) h1) fun fr =>
   bnd (elt fr h1) fun x h2 => (h2[acc]?.bind MObj.list?).bind fun vs => grd (Nat.ble (vs.length + 1) lim) (compLoop next test elt acc n (i + 1) (h2.set acc (.list (vs ++ [x]))))
mutual
noncomputable def eval (c : Cx) : Ex -> Frame -> MH -> Option (Val × MH)
 | .var x,fr,h => fr[x]?.bind fun o => o.map fun v => (v,h)
 | .lit v,_,h => some (v,h)
 | .list es,fr,h => bnd (zaT c es fr h) fun vs h1 => zbd h1 (.list vs)
 | .tup es,fr,h => bnd (zaT c es fr h) fun vs h1 => some (.tup vs,h1)
 | .dict kvs,fr,h => bnd (zaT c kvs fr h) fun l h1 => (dpairs l []).bind fun es => grd (Nat.ble kvs.length 30) (zbd h1 (.dict (some es.length) es))
 | .bin op a b,fr,h => bnd (eval c a fr h) fun x h1 => bnd (eval c b fr h1) fun y h2 => binop op x y h2
 | .not a,fr,h => bnd (zak (eval c a fr h)) fun b h1 => some (.bool (!b),h1)
 | .cmp op a b,fr,h => bnd (eval c a fr h) fun x h1 => bnd (eval c b fr h1) fun y h2 => (cmpop op x y h2).map fun r => (.bool r,h2)
 | .bop stop es,fr,h => evalB c stop es fr h
 | .ite t a b,fr,h => bnd (zak (eval c t fr h)) fun r h1 => bif r then eval c a fr h1 else eval c b fr h1
 | .attr e n,fr,h => bnd (eval c e fr h) fun o h1 => (getAttr c.P h1 o n).map fun v => (v,h1)
 | .sub e i,fr,h => bnd (eval c e fr h) fun o h1 => bnd (eval c i fr h1) fun k h2 => (subscr h2 o k).map fun v => (v,h2)
 | .slice e k bs,fr,h => bnd (eval c e fr h) fun o h1 => bnd (zaT c bs fr h1) fun vs h2 => slice h2 o k vs
 | .call f as,fr,h => bnd (eval c f fr h) fun g h1 => bnd (zaT c as fr h1) fun vs h2 => callV c g vs h2
 | .meth o n as,fr,h => bnd (eval c o fr h) fun v h1 => bnd (zaT c as fr h1) fun vs h2 => callM c v n vs h1 h2
 | .comp elt tg many it ifs,fr,h => bnd (eval c it fr h) fun v h1 => (za5 h1 v).bind fun k =>
   bnd (compLoop (fun i h => zah h i k) (fun v h => (zbf fr tg many v).bind fun fr' => bnd (evalT c ifs fr' h) fun b h' => some (bif b then some fr' else none,h')) (fun fr' h => eval c elt fr' h) h1.length c.fuel 0 (h1 ++ [.list []]))
    fun _ h2 => some (.ref h1.length,h2)
noncomputable def zaT (c : Cx) : List Ex -> Frame -> MH -> Option (List Val × MH)
 | [],_,h => some ([],h)
 | e :: r,fr,h => bnd (eval c e fr h) fun v h1 => bnd (zaT c r fr h1) fun vs h2 => some (v :: vs,h2)
noncomputable def evalB (c : Cx) (stop : Bool) : List Ex -> Frame -> MH -> Option (Val × MH)
 | [],_,_ => none
 | e :: r,fr,h => bnd (eval c e fr h) fun v h1 => bif r.isEmpty then some (v,h1) else (truthy h1 v).bind fun b => bif b == stop then some (v,h1) else evalB c stop r fr h1
noncomputable def evalT (c : Cx) : List Ex -> Frame -> MH -> Option (Bool × MH)
 | [],_,h => some (true,h)
 | e :: r,fr,h => bnd (zak (eval c e fr h)) fun b h1 => bif b then evalT c r fr h1 else some (false,h1)
end
noncomputable def store (c : Cx) (fr : Frame) (h : MH) (v : Val) : T1 -> Option (Frame × MH)
 | .nm x => some (fr.set x (some v),h)
 | .at o n => bnd (eval c o fr h) fun ov h1 => (setAttr c.P h1 ov n v).map fun h2 => (fr,h2)
 | .sb o i => bnd (eval c o fr h) fun ov h1 => bnd (eval c i fr h1) fun iv h2 => (zcm h2 ov iv v).map fun h3 => (fr,h3)
noncomputable def zbr (c : Cx) : List T1 -> List Val -> Frame -> MH -> Option (Frame × MH)
 | [],vs,fr,h => grd vs.isEmpty (some (fr,h))
 | t :: ts,vs,fr,h => vs.head?.bind fun v => bnd (store c fr h v t) fun fr' h' => zbr c ts vs.tail fr' h'
noncomputable abbrev SR := Option ((Fl × Frame) × MH)
noncomputable def loopW (cond : Frame -> MH -> Option (Bool × MH)) (body : Frame -> MH -> SR) : Nat -> Frame -> MH -> SR
 | 0,_,_ => none
 | n + 1,fr,h => bnd (cond fr h) fun b h1 => bif b then bnd (body fr h1) fun p h2 => Fl.casesOn (motive:=fun _ => SR) p.1 (loopW cond body n p.2 h2) (some ((.nx,p.2),h2)) (loopW cond body n p.2 h2) (fun v => some ((.rt v,p.2),h2))
  else some ((.nx,fr),h1)
noncomputable def loopF (next : Nat -> MH -> Option (Option Val)) (bind : Frame -> Val -> Option Frame) (body : Frame -> MH -> SR) : Nat -> Nat -> Frame -> MH -> SR
 | 0,_,_,_ => none
 | n + 1,i,fr,h => (next i h).bind fun ov => Option.casesOn (motive:=fun _ => SR) ov (some ((.nx,fr),h)) fun v => (bind fr v).bind fun fr1 =>
   bnd (body fr1 h) fun p h2 => Fl.casesOn (motive:=fun _ => SR) p.1 (loopF next bind body n (i + 1) p.2 h2) (some ((.nx,p.2),h2)) (loopF next bind body n (i + 1) p.2 h2) (fun v => some ((.rt v,p.2),h2))
mutual
noncomputable def exec (c : Cx) : Sm -> Frame -> MH -> SR
 | .expr e,fr,h => bnd (eval c e fr h) fun _ h1 => some ((.nx,fr),h1)
 | .asg t e,fr,h => bnd (eval c e fr h) fun v h1 => bnd (store c fr h1 v t) fun fr' h2 => some ((.nx,fr'),h2)
 | .asgs ts e,fr,h => bnd (eval c e fr h) fun v h1 => (items h1 v).bind fun vs => bnd (zbr c ts vs fr h1) fun fr' h2 => some ((.nx,fr'),h2)
 | .ret e,fr,h => bnd (eval c e fr h) fun v h1 => some ((.rt v,fr),h1)
 | .ite t a b,fr,h => bnd (zak (eval c t fr h)) fun r h1 => bif r then execs c a fr h1 else execs c b fr h1
 | .wh t b,fr,h => loopW (fun fr h => zak (eval c t fr h)) (fun fr h => execs c b fr h) c.fuel fr h
 | .fo tg many e b,fr,h => bnd (eval c e fr h) fun v h1 => (za5 h1 v).bind fun k => loopF (fun i h => zah h i k) (fun fr v => zbf fr tg many v) (fun fr h => execs c b fr h) c.fuel 0 fr h1
 | .brk,fr,h => some ((.bk,fr),h)
 | .cont,fr,h => some ((.ct,fr),h)
 | .pass,fr,h => some ((.nx,fr),h)
 | .raise,_,_ => none
 | .rse _,_,_ => none
 | .tr _ _ _ _,_,_ => none
noncomputable def execs (c : Cx) : List Sm -> Frame -> MH -> SR
 | [],fr,h => some ((.nx,fr),h)
 | s :: r,fr,h => bnd (exec c s fr h) fun p h1 => Fl.casesOn (motive:=fun _ => SR) p.1 (execs c r p.2 h1) (some (p,h1)) (some (p,h1)) (fun _ => some (p,h1))
end
noncomputable def Prg.fnAt (P : Prg) (a : Nat) : Option Fn := P.fns.find? fun f => f.addr == a
noncomputable def zbk (f : Fn) (as : List Val) : Option (List Val) := grd (Nat.ble as.length f.np && Nat.ble (f.np - as.length) f.dfl.length) (some (as ++ f.dfl.drop (f.dfl.length - (f.np - as.length))))
noncomputable def za6 (f : Fn) (vs : List Val) : Frame := vs.map some ++ List.replicate (f.ns - f.np) none
noncomputable def finF (p : Fl × Frame) (h : MH) : Option (Val × MH) := Fl.casesOn (motive:=fun _ => Option (Val × MH)) p.1 (some (.none,h)) none none fun v => some (v,h)
noncomputable def zaU (P : Prg) (fuel : Nat) : Nat -> Nat -> List Val -> MH -> Option (Val × MH)
 | 0,_,_,_ => none
 | d + 1,a,as,h => (P.fnAt a).bind fun f => (zbk f as).bind fun vs => bnd (execs ⟨P,fuel,zaU P fuel d⟩ f.body (za6 f vs) h) finF
end Mi
namespace Mi
open PySem
structure CC where
 sc : List (Str × NameKind)
 vars : List (Str × Nat)
 next : Nat
 gl : List (Str × Val)
noncomputable def zae (x : Str) : Bool := x.cps.toList.all (fun c => 1 <= c && c <= 255) && x != ("__debug__" : Str) && x != ("__class__" : Str) && x != ("super" : Str) && !x.cps.toList.isEmpty
noncomputable def constV : Const -> Option Val
 | .none => some .none
 | .bool b => some (.bool b)
 | .int i => some (.int i)
 | .str s => grd (sOkB s.cps.toList) (some (.str s.cps.toList))
 | _ => none
noncomputable def zaS (cx : CC) (x : Str) : Option Nat := grd (cx.sc.lookup x == some .local || cx.sc.lookup x == some .cell) (cx.vars.lookup x)
noncomputable def bopOf : Operator -> Option BOp
 | .Add => some .add
 | .Sub => some .sub
 | .Mult => some .mul
 | .FloorDiv => some .fdiv
 | .Mod => some .mod
 | .Pow => some .pow
 | _ => none
noncomputable def copOf : CmpOp -> COp
 | .Eq => .eq
 | .NotEq => .ne
 | .Lt => .lt
 | .LtE => .le
 | .Gt => .gt
 | .GtE => .ge
 | .In => .isin
 | .NotIn => .notin
 | .Is => .is
 | .IsNot => .isnot
noncomputable def za1 (e : Expr) : Option (Str × Pos) := Expr.casesOn (motive_1:=fun _ => Option (Str × Pos)) e (fun _ _ _ => none) (fun _ _ _ => none) (fun _ _ _ _ => none) (fun _ _ _ => none) (fun _ _ _ _ => none) (fun _ _ _ _ => none) (fun _ _ _ => none) (fun _ _ _ => none) (fun _ _ _ _ => none) (fun _ _ _ _ => none) (fun _ _ _ _ _ => none) (fun _ _ _ _ => none) (fun _ _ => none) (fun _ _ => none) (fun _ _ => none) (fun _ _ _ _ => none) (fun _ _ _ _ => none) (fun _ _ _ _ => none) (fun _ _ => none) (fun _ _ _ => none) (fun _ _ _ => none) (fun _ _ _ => none) (fun _ _ => none) (fun x y => some (x,y)) (fun _ _ => none) (fun _ _ _ => none) (fun _ _ _ _ => none)
noncomputable def asAttr (e : Expr) : Option (Expr × Str × Pos) := Expr.casesOn (motive_1:=fun _ => Option (Expr × Str × Pos)) e (fun _ _ _ => none) (fun _ _ _ => none) (fun _ _ _ _ => none) (fun _ _ _ => none) (fun _ _ _ _ => none) (fun _ _ _ _ => none) (fun _ _ _ => none) (fun _ _ _ => none) (fun _ _ _ _ => none) (fun _ _ _ _ => none) (fun _ _ _ _ _ => none) (fun _ _ _ _ => none) (fun _ _ => none) (fun _ _ => none) (fun _ _ => none) (fun _ _ _ _ => none) (fun _ _ _ _ => none) (fun _ _ _ _ => none) (fun _ _ => none) (fun _ _ _ => none) (fun x y z => some (x,y,z)) (fun _ _ _ => none) (fun _ _ => none) (fun _ _ => none) (fun _ _ => none) (fun _ _ _ => none) (fun _ _ _ _ => none)
noncomputable def zbM (e : Expr) : Option (List Expr × Nat × Pos) := Expr.casesOn (motive_1:=fun _ => Option (List Expr × Nat × Pos)) e (fun _ _ _ => none) (fun _ _ _ => none) (fun _ _ _ _ => none) (fun _ _ _ => none) (fun _ _ _ _ => none) (fun _ _ _ _ => none) (fun _ _ _ => none) (fun _ _ _ => none) (fun _ _ _ _ => none) (fun _ _ _ _ => none) (fun _ _ _ _ _ => none) (fun _ _ _ _ => none) (fun _ _ => none) (fun _ _ => none) (fun _ _ => none) (fun _ _ _ _ => none) (fun _ _ _ _ => none) (fun _ _ _ _ => none) (fun _ _ => none) (fun _ _ _ => none) (fun _ _ _ => none) (fun _ _ _ => none) (fun _ _ => none) (fun _ _ => none) (fun _ _ => none) (fun x y z => some (x,y,z)) (fun _ _ _ _ => none)
noncomputable def asSub (e : Expr) : Option (Expr × Expr × Pos) := Expr.casesOn (motive_1:=fun _ => Option (Expr × Expr × Pos)) e (fun _ _ _ => none) (fun _ _ _ => none) (fun _ _ _ _ => none) (fun _ _ _ => none) (fun _ _ _ _ => none) (fun _ _ _ _ => none) (fun _ _ _ => none) (fun _ _ _ => none) (fun _ _ _ _ => none) (fun _ _ _ _ => none) (fun _ _ _ _ _ => none) (fun _ _ _ _ => none) (fun _ _ => none) (fun _ _ => none) (fun _ _ => none) (fun _ _ _ _ => none) (fun _ _ _ _ => none) (fun _ _ _ _ => none) (fun _ _ => none) (fun _ _ _ => none) (fun _ _ _ => none) (fun x y z => some (x,y,z)) (fun _ _ => none) (fun _ _ => none) (fun _ _ => none) (fun _ _ _ => none) (fun _ _ _ _ => none)
noncomputable def zbU (e : Expr) : Option (Option Expr × Option Expr × Option Expr × Pos) := Expr.casesOn (motive_1:=fun _ => Option (Option Expr × Option Expr × Option Expr × Pos)) e (fun _ _ _ => none) (fun _ _ _ => none) (fun _ _ _ _ => none) (fun _ _ _ => none) (fun _ _ _ _ => none) (fun _ _ _ _ => none) (fun _ _ _ => none) (fun _ _ _ => none) (fun _ _ _ _ => none) (fun _ _ _ _ => none) (fun _ _ _ _ _ => none) (fun _ _ _ _ => none) (fun _ _ => none) (fun _ _ => none) (fun _ _ => none) (fun _ _ _ _ => none) (fun _ _ _ _ => none) (fun _ _ _ _ => none) (fun _ _ => none) (fun _ _ _ => none) (fun _ _ _ => none) (fun _ _ _ => none) (fun _ _ => none) (fun _ _ => none) (fun _ _ => none) (fun _ _ _ => none) (fun x y z u => some (x,y,z,u))
noncomputable def asCall (e : Expr) : Option (Expr × List Expr × List Keyword × Pos) := Expr.casesOn (motive_1:=fun _ => Option (Expr × List Expr × List Keyword × Pos)) e (fun _ _ _ => none) (fun _ _ _ => none) (fun _ _ _ _ => none) (fun _ _ _ => none) (fun _ _ _ _ => none) (fun _ _ _ _ => none) (fun _ _ _ => none) (fun _ _ _ => none) (fun _ _ _ _ => none) (fun _ _ _ _ => none) (fun _ _ _ _ _ => none) (fun _ _ _ _ => none) (fun _ _ => none) (fun _ _ => none) (fun _ _ => none) (fun _ _ _ _ => none) (fun x y z u => some (x,y,z,u)) (fun _ _ _ _ => none) (fun _ _ => none) (fun _ _ _ => none) (fun _ _ _ => none) (fun _ _ _ => none) (fun _ _ => none) (fun _ _ => none) (fun _ _ => none) (fun _ _ _ => none) (fun _ _ _ _ => none)
noncomputable def asConst (e : Expr) : Option (Const × Nat × Pos) := Expr.casesOn (motive_1:=fun _ => Option (Const × Nat × Pos)) e (fun _ _ _ => none) (fun _ _ _ => none) (fun _ _ _ _ => none) (fun _ _ _ => none) (fun _ _ _ _ => none) (fun _ _ _ _ => none) (fun _ _ _ => none) (fun _ _ _ => none) (fun _ _ _ _ => none) (fun _ _ _ _ => none) (fun _ _ _ _ _ => none) (fun _ _ _ _ => none) (fun _ _ => none) (fun _ _ => none) (fun _ _ => none) (fun _ _ _ _ => none) (fun _ _ _ _ => none) (fun _ _ _ _ => none) (fun _ _ => none) (fun x y z => some (x,y,z)) (fun _ _ _ => none) (fun _ _ _ => none) (fun _ _ => none) (fun _ _ => none) (fun _ _ => none) (fun _ _ _ => none) (fun _ _ _ _ => none)
noncomputable def zaE (e : Expr) : Bool := Expr.casesOn (motive_1:=fun _ => Bool) e (fun _ _ _ => false) (fun _ _ _ => false) (fun _ _ _ _ => false) (fun _ _ _ => false) (fun _ _ _ _ => false) (fun _ _ _ _ => false) (fun _ _ _ => false) (fun _ _ _ => false) (fun x y z u => true) (fun _ _ _ _ => false) (fun _ _ _ _ _ => false) (fun _ _ _ _ => false) (fun _ _ => false) (fun _ _ => false) (fun _ _ => false) (fun _ _ _ _ => false) (fun _ _ _ _ => false) (fun _ _ _ _ => false) (fun _ _ => false) (fun _ _ _ => false) (fun _ _ _ => false) (fun _ _ _ => false) (fun _ _ => false) (fun _ _ => false) (fun _ _ => false) (fun _ _ _ => false) (fun _ _ _ _ => false)
noncomputable def zcw (e : Expr) : Bool := Expr.casesOn (motive_1:=fun _ => Bool) e (fun _ _ _ => true) (fun _ _ _ => true) (fun _ _ _ _ => true) (fun _ _ _ => true) (fun _ _ _ _ => true) (fun _ _ _ _ => true) (fun _ _ _ => true) (fun _ _ _ => true) (fun _ _ _ _ => true) (fun _ _ _ _ => true) (fun _ _ _ _ _ => true) (fun _ _ _ _ => true) (fun _ _ => true) (fun _ _ => true) (fun _ _ => true) (fun _ _ _ _ => true) (fun x y z u => !y.isEmpty) (fun _ _ _ _ => true) (fun _ _ => true) (fun _ _ _ => true) (fun _ _ _ => true) (fun _ _ _ => true) (fun _ _ => true) (fun _ _ => true) (fun _ _ => true) (fun _ _ _ => true) (fun _ _ _ _ => true)
section
variable {α β γ : Type}
noncomputable def mapO (f : α -> Option β) : List α -> Option (List β)
 | [] => some []
 | a :: r => (f a).bind fun b => (mapO f r).map fun bs => b :: bs
noncomputable def one1 (l : List α) (f : α -> Option β) : Option β := List.casesOn (motive:=fun _ => Option β) l none fun a r => List.casesOn (motive:=fun _ => Option β) r (f a) fun _ _ => none
inductive All2 (R : α -> β -> Prop) : List α -> List β -> Prop
 | nil : All2 R [] []
 | cons {a : α} {b : β} {as : List α} {bs : List β} : R a b -> All2 R as bs -> All2 R (a :: as) (b :: bs)
theorem bs {o : Option α} {f : α -> Option β} {r : β} (h : o.bind f = some r) : ∃ a,o = some a /\ f a = some r := Option.bind_eq_some_iff.mp h
theorem ms {o : Option α} {f : α -> β} {r : β} (h : o.map f = some r) : ∃ a,o = some a /\ f a = r := Option.map_eq_some_iff.mp h
theorem gs {b : Bool} {o : Option α} {r : α} (h : grd b o = some r) : b = true /\ o = some r := by
 cases b
 ·cases h
 ·exact ⟨rfl,h⟩
theorem bs_r {P : Prop} {o : Option α} {f : α -> Option β} {r : β} (g : ∀ a,o = some a -> f a = some r -> P) (h : o.bind f = some r) : P := (bs h).elim fun a h => g a h.1 h.2
theorem ms_r {P : Prop} {o : Option α} {f : α -> β} {r : β} (g : ∀ a,o = some a -> f a = r -> P) (h : o.map f = some r) : P := (ms h).elim fun a h => g a h.1 h.2
theorem gs_r {P : Prop} {b : Bool} {o : Option α} {r : α} (g : b = true -> o = some r -> P) (h : grd b o = some r) : P := g (gs h).1 (gs h).2
theorem zao {P : Prop} {a b : Option α} {r : α} (g : a = some r -> P) (g' : b = some r -> P) : alt a b = some r -> P := Option.casesOn (motive:=fun a => (a = some r -> P) -> alt a b = some r -> P) a (fun _ h => g' h) (fun _ g h => g h) g
theorem zad {P : Prop} {o : Option (α × MH)} {f : α -> MH -> Option (β × MH)} {r : β × MH} (g : ∀ a h,o = some (a,h) -> f a h = some r -> P) : bnd o f = some r -> P := Option.casesOn (motive:=fun o => (∀ a h,o = some (a,h) -> f a h = some r -> P) -> bnd o f = some r -> P) o (fun _ h => Option.noConfusion rfl (heq_of_eq h)) (fun p g h => g p.1 p.2 rfl h) g
theorem zaP {l : List α} {f : α -> Option β} {r : β} (h : one1 l f = some r) : ∃ a,l = [a] /\ f a = some r := by
 cases l with
 | nil => cases h
 | cons a l =>
  cases l with
  | nil => exact ⟨a,rfl,h⟩
  | cons _ _ => cases h
theorem zbg {f : α -> Option β} {l : List α} : ∀ {r : List β},mapO f l = some r -> All2 (fun a b => f a = some b) l r := by
 induction l with
 | nil => intro r h; cases h; exact .nil
 | cons a l ih =>
  intro r h
  obtain ⟨b,h1,h⟩ := bs h
  obtain ⟨bs,h2,rfl⟩ := ms h
  exact .cons h1 (ih h2)
theorem All2.mono {R S : α -> β -> Prop} (h : ∀ a b,R a b -> S a b) {as : List α} {bs : List β} (r : All2 R as bs) : All2 S as bs := by
 induction r with
 | nil => exact .nil
 | cons x _ ih => exact .cons (h _ _ x) ih
theorem All2.length {R : α -> β -> Prop} {as : List α} {bs : List β} (r : All2 R as bs) : bs.length = as.length := by
 induction r with
 | nil => rfl
 | cons _ _ ih => exact congrArg (· + 1) ih
end
theorem nos {α : Type} {p : α} {P : Prop} (h : none = some p) : P := nomatch h
theorem asCall_s {e : Expr} {p : Expr × List Expr × List Keyword × Pos} : asCall e = some p -> e = .Call p.1 p.2.1 p.2.2.1 p.2.2.2 := Expr.casesOn (motive_1:=fun e => asCall e = some p -> e = .Call p.1 p.2.1 p.2.2.1 p.2.2.2) e (fun _ _ _ h => nos h) (fun _ _ _ h => nos h) (fun _ _ _ _ h => nos h) (fun _ _ _ h => nos h) (fun _ _ _ _ h => nos h) (fun _ _ _ _ h => nos h) (fun _ _ _ h => nos h) (fun _ _ _ h => nos h) (fun _ _ _ _ h => nos h) (fun _ _ _ _ h => nos h) (fun _ _ _ _ _ h => nos h) (fun _ _ _ _ h => nos h) (fun _ _ h => nos h) (fun _ _ h => nos h) (fun _ _ h => nos h) (fun _ _ _ _ h => nos h) (fun x y z u h => Option.some.inj h ▸ rfl) (fun _ _ _ _ h => nos h) (fun _ _ h => nos h) (fun _ _ _ h => nos h) (fun _ _ _ h => nos h) (fun _ _ _ h => nos h) (fun _ _ h => nos h) (fun _ _ h => nos h) (fun _ _ h => nos h) (fun _ _ _ h => nos h) (fun _ _ _ _ h => nos h)
theorem asConst_s {e : Expr} {p : Const × Nat × Pos} : asConst e = some p -> e = .Constant p.1 p.2.1 p.2.2 := Expr.casesOn (motive_1:=fun e => asConst e = some p -> e = .Constant p.1 p.2.1 p.2.2) e (fun _ _ _ h => nos h) (fun _ _ _ h => nos h) (fun _ _ _ _ h => nos h) (fun _ _ _ h => nos h) (fun _ _ _ _ h => nos h) (fun _ _ _ _ h => nos h) (fun _ _ _ h => nos h) (fun _ _ _ h => nos h) (fun _ _ _ _ h => nos h) (fun _ _ _ _ h => nos h) (fun _ _ _ _ _ h => nos h) (fun _ _ _ _ h => nos h) (fun _ _ h => nos h) (fun _ _ h => nos h) (fun _ _ h => nos h) (fun _ _ _ _ h => nos h) (fun _ _ _ _ h => nos h) (fun _ _ _ _ h => nos h) (fun _ _ h => nos h) (fun x y z h => Option.some.inj h ▸ rfl) (fun _ _ _ h => nos h) (fun _ _ _ h => nos h) (fun _ _ h => nos h) (fun _ _ h => nos h) (fun _ _ h => nos h) (fun _ _ _ h => nos h) (fun _ _ _ _ h => nos h)
theorem zaD {e : Expr} {p : Str × Pos} : za1 e = some p -> e = .Name p.1 p.2 := Expr.casesOn (motive_1:=fun e => za1 e = some p -> e = .Name p.1 p.2) e (fun _ _ _ h => nos h) (fun _ _ _ h => nos h) (fun _ _ _ _ h => nos h) (fun _ _ _ h => nos h) (fun _ _ _ _ h => nos h) (fun _ _ _ _ h => nos h) (fun _ _ _ h => nos h) (fun _ _ _ h => nos h) (fun _ _ _ _ h => nos h) (fun _ _ _ _ h => nos h) (fun _ _ _ _ _ h => nos h) (fun _ _ _ _ h => nos h) (fun _ _ h => nos h) (fun _ _ h => nos h) (fun _ _ h => nos h) (fun _ _ _ _ h => nos h) (fun _ _ _ _ h => nos h) (fun _ _ _ _ h => nos h) (fun _ _ h => nos h) (fun _ _ _ h => nos h) (fun _ _ _ h => nos h) (fun _ _ _ h => nos h) (fun _ _ h => nos h) (fun x y h => Option.some.inj h ▸ rfl) (fun _ _ h => nos h) (fun _ _ _ h => nos h) (fun _ _ _ _ h => nos h)
theorem zcc {e : Expr} {p : Expr × Str × Pos} : asAttr e = some p -> e = .Attribute p.1 p.2.1 p.2.2 := Expr.casesOn (motive_1:=fun e => asAttr e = some p -> e = .Attribute p.1 p.2.1 p.2.2) e (fun _ _ _ h => nos h) (fun _ _ _ h => nos h) (fun _ _ _ _ h => nos h) (fun _ _ _ h => nos h) (fun _ _ _ _ h => nos h) (fun _ _ _ _ h => nos h) (fun _ _ _ h => nos h) (fun _ _ _ h => nos h) (fun _ _ _ _ h => nos h) (fun _ _ _ _ h => nos h) (fun _ _ _ _ _ h => nos h) (fun _ _ _ _ h => nos h) (fun _ _ h => nos h) (fun _ _ h => nos h) (fun _ _ h => nos h) (fun _ _ _ _ h => nos h) (fun _ _ _ _ h => nos h) (fun _ _ _ _ h => nos h) (fun _ _ h => nos h) (fun _ _ _ h => nos h) (fun x y z h => Option.some.inj h ▸ rfl) (fun _ _ _ h => nos h) (fun _ _ h => nos h) (fun _ _ h => nos h) (fun _ _ h => nos h) (fun _ _ _ h => nos h) (fun _ _ _ _ h => nos h)
theorem zdf {e : Expr} {p : List Expr × Nat × Pos} : zbM e = some p -> e = .Tuple p.1 p.2.1 p.2.2 := Expr.casesOn (motive_1:=fun e => zbM e = some p -> e = .Tuple p.1 p.2.1 p.2.2) e (fun _ _ _ h => nos h) (fun _ _ _ h => nos h) (fun _ _ _ _ h => nos h) (fun _ _ _ h => nos h) (fun _ _ _ _ h => nos h) (fun _ _ _ _ h => nos h) (fun _ _ _ h => nos h) (fun _ _ _ h => nos h) (fun _ _ _ _ h => nos h) (fun _ _ _ _ h => nos h) (fun _ _ _ _ _ h => nos h) (fun _ _ _ _ h => nos h) (fun _ _ h => nos h) (fun _ _ h => nos h) (fun _ _ h => nos h) (fun _ _ _ _ h => nos h) (fun _ _ _ _ h => nos h) (fun _ _ _ _ h => nos h) (fun _ _ h => nos h) (fun _ _ _ h => nos h) (fun _ _ _ h => nos h) (fun _ _ _ h => nos h) (fun _ _ h => nos h) (fun _ _ h => nos h) (fun _ _ h => nos h) (fun x y z h => Option.some.inj h ▸ rfl) (fun _ _ _ _ h => nos h)
theorem asSub_s {e : Expr} {p : Expr × Expr × Pos} : asSub e = some p -> e = .Subscript p.1 p.2.1 p.2.2 := Expr.casesOn (motive_1:=fun e => asSub e = some p -> e = .Subscript p.1 p.2.1 p.2.2) e (fun _ _ _ h => nos h) (fun _ _ _ h => nos h) (fun _ _ _ _ h => nos h) (fun _ _ _ h => nos h) (fun _ _ _ _ h => nos h) (fun _ _ _ _ h => nos h) (fun _ _ _ h => nos h) (fun _ _ _ h => nos h) (fun _ _ _ _ h => nos h) (fun _ _ _ _ h => nos h) (fun _ _ _ _ _ h => nos h) (fun _ _ _ _ h => nos h) (fun _ _ h => nos h) (fun _ _ h => nos h) (fun _ _ h => nos h) (fun _ _ _ _ h => nos h) (fun _ _ _ _ h => nos h) (fun _ _ _ _ h => nos h) (fun _ _ h => nos h) (fun _ _ _ h => nos h) (fun _ _ _ h => nos h) (fun x y z h => Option.some.inj h ▸ rfl) (fun _ _ h => nos h) (fun _ _ h => nos h) (fun _ _ h => nos h) (fun _ _ _ h => nos h) (fun _ _ _ _ h => nos h)
theorem asSlice_s {e : Expr} {p : Option Expr × Option Expr × Option Expr × Pos} : zbU e = some p -> e = .Slice p.1 p.2.1 p.2.2.1 p.2.2.2 := Expr.casesOn (motive_1:=fun e => zbU e = some p -> e = .Slice p.1 p.2.1 p.2.2.1 p.2.2.2) e (fun _ _ _ h => nos h) (fun _ _ _ h => nos h) (fun _ _ _ _ h => nos h) (fun _ _ _ h => nos h) (fun _ _ _ _ h => nos h) (fun _ _ _ _ h => nos h) (fun _ _ _ h => nos h) (fun _ _ _ h => nos h) (fun _ _ _ _ h => nos h) (fun _ _ _ _ h => nos h) (fun _ _ _ _ _ h => nos h) (fun _ _ _ _ h => nos h) (fun _ _ h => nos h) (fun _ _ h => nos h) (fun _ _ h => nos h) (fun _ _ _ _ h => nos h) (fun _ _ _ _ h => nos h) (fun _ _ _ _ h => nos h) (fun _ _ h => nos h) (fun _ _ _ h => nos h) (fun _ _ _ h => nos h) (fun _ _ _ h => nos h) (fun _ _ h => nos h) (fun _ _ h => nos h) (fun _ _ h => nos h) (fun _ _ _ h => nos h) (fun x y z u h => Option.some.inj h ▸ rfl)
noncomputable def zbw (e : Expr) : Option Str := (za1 e).map (·.1)
noncomputable def tgtOf (e : Expr) : Option (List Str × Bool) := alt ((za1 e).map fun p => ([p.1],false)) ((zbM e).bind fun p => (mapO zbw p.1).map fun xs => (xs,true))
noncomputable def zct (outer : List (Str × NameKind)) (sc : Scope) : List (Str × NameKind) :=
 sc.names.map fun p => (p.1,if (p.2 == .free && outer.lookup p.1 == some .cell) = true then .cell else p.2)
noncomputable def inComp (cx : CC) (sc : Scope) (xs : List Str) : CC :=
 { sc := zct cx.sc sc,vars := xs.zip (List.range' cx.next xs.length) ++ cx.vars,next := cx.next + xs.length,gl := cx.gl }
noncomputable def zdc (cx : CC) (sc : Scope) (xs : List Str) : Bool :=
 sc.kind == .function &&
 (sc.names.all fun p => p.2 != .cell && (p.2 != .local || (sc.names.lookup p.1 == some .local && (xs.contains p.1 || (cx.vars.lookup p.1).isNone))) && (p.2 != .free || (sc.names.lookup p.1 == some .free && cx.sc.lookup p.1 == some .cell))) &&
 xs.all (fun x => sc.names.lookup x == some .local) && decide xs.Nodup
noncomputable def zipKV : List Ex -> List Ex -> List Ex
 | k :: ks,v :: vs => k :: v :: zipKV ks vs
 | _,_ => []
noncomputable def nameE (cx : CC) (x : Str) : Option Ex := grd (zae x) (Option.casesOn (motive:=fun _ => Option Ex) (zaS cx x) (grd (cx.sc.lookup x == some .globalImplicit) ((cx.gl.lookup x).map .lit)) fun i => some (.var i))
noncomputable def callE (f : Expr -> Option Ex) (cx : CC) (pos : Pos) (as : List Ex) (g : Expr) : Option Ex :=
 alt ((za1 g).bind fun p => (nameE cx p.1).map fun e => .call e as)
 ((asAttr g).bind fun p => grd (zae p.2.1 && zcw p.1 && p.2.2.endLine == pos.line) ((f p.1).map fun e => .meth e (enc p.2.1) as))
noncomputable def boundsE (f : Expr -> Option Ex) (lo hi : Option Expr) : Option (Nat × List Ex) :=
 Option.casesOn (motive:=fun _ => Option (Nat × List Ex)) lo
  (Option.casesOn (motive:=fun _ => Option (Nat × List Ex)) hi (some (0,[])) fun b => (f b).map fun y => (2,[y]))
  fun a => (f a).bind fun x => Option.casesOn (motive:=fun _ => Option (Nat × List Ex)) hi (some (1,[x])) fun b => (f b).map fun y => (3,[x,y])
noncomputable def subE (f : Expr -> Option Ex) (v sl : Expr) : Option Ex :=
 Option.casesOn (motive:=fun _ => Option Ex) (zbU sl) ((f v).bind fun e => (f sl).map fun i => .sub e i)
  fun p => grd ((za1 v).isSome && p.2.2.1.isNone) ((f v).bind fun e => (boundsE f p.1 p.2.1).map fun q => .slice e q.1 q.2)
noncomputable def compE : Nat -> CC -> Expr -> Option Ex
 | 0,_,_ => none
 | n + 1,cx,e => match e with
  | .Constant c _ _ => (constV c).map .lit
  | .Name x _ => nameE cx x
  | .BoolOp op vs _ => (mapO (compE n cx) vs).map (.bop (op == .Or))
  | .BinOp l op r _ => (bopOf op).bind fun o => (compE n cx l).bind fun a => (compE n cx r).map fun b => .bin o a b
  | .UnaryOp op x _ => grd (op == .Not) ((compE n cx x).map .not)
  | .IfExp t a b _ => (compE n cx t).bind fun t' => (compE n cx a).bind fun a' => (compE n cx b).map fun b' => .ite t' a' b'
  | .List es _ => grd (Nat.ble es.length 1000) ((mapO (compE n cx) es).map .list)
  | .Tuple es _ _ => grd (Nat.ble es.length 1000) ((mapO (compE n cx) es).map .tup)
  | .Compare l ops cs _ => one1 ops fun o => one1 cs fun r => (compE n cx l).bind fun a => (compE n cx r).map fun b => .cmp (copOf o) a b
  | .Call f as ks pos => grd (ks.isEmpty && Nat.ble as.length 20) ((mapO (compE n cx) as).bind fun bs => callE (compE n cx) cx pos bs f)
  | .Attribute v nm _ => grd (zae nm && zcw v) ((compE n cx v).map fun e => .attr e (enc nm))
  | .Subscript v sl _ => subE (compE n cx) v sl
  | .Dict ks vs _ => grd (ks.length == vs.length) ((mapO (fun o => o.bind (compE n cx)) ks).bind fun a => (mapO (compE n cx) vs).map fun b => .dict (zipKV a b))
  | .ListComp elt gens sc _ => one1 gens fun g => (tgtOf g.target).bind fun t => grd (g.is_async == 0 && zdc cx sc t.1) ((compE n cx g.iter).bind fun it => (mapO (compE n (inComp cx sc t.1)) g.ifs).bind fun ifs =>
    (compE n (inComp cx sc t.1) elt).map fun e => .comp e (List.range' cx.next t.1.length) t.2 it ifs)
  | _ => none
noncomputable abbrev compX : CC -> Expr -> Option Ex := compE 60
noncomputable def compT1 (cx : CC) (t : Expr) : Option T1 :=
 alt ((za1 t).bind fun p => grd (zae p.1) ((zaS cx p.1).map .nm))
 (alt ((asAttr t).bind fun p => grd (zae p.2.1) ((compX cx p.1).map fun e => .at e (enc p.2.1)))
 ((asSub t).bind fun p => (compX cx p.1).bind fun a => (compX cx p.2.1).map fun b => .sb a b))
noncomputable def zbY (cx : CC) (x : Str) : Option Nat := grd (zae x) (zaS cx x)
noncomputable def compA1 (cx : CC) (t : Expr) : Option (Ex × Nat) := (asAttr t).bind fun p => grd (zae p.2.1) ((compX cx p.1).map fun e => (e,enc p.2.1))
noncomputable def valOk (v : Expr) : Bool := !zaE v && ((zbM v).map fun p => !p.1.all (constantsAlone 8)).getD true
noncomputable def namesN (es : List Expr) : Option (List Str) := (mapO zbw es).bind fun xs => grd (decide xs.Nodup) (some xs)
noncomputable def asgE (cx : CC) (v t : Expr) : Option Sm :=
 Option.casesOn (motive:=fun _ => Option Sm) (zbM t) ((compT1 cx t).bind fun a => (compX cx v).map fun b => .asg a b)
  fun p => grd (valOk v) ((compX cx v).bind fun b => alt ((namesN p.1).bind fun xs => (mapO (zbY cx) xs).map fun is => .asgs (is.map .nm) b)
   (grd (!p.1.isEmpty) ((mapO (compA1 cx) p.1).map fun ts => .asgs (ts.map fun q => .at q.1 q.2) b)))
noncomputable def xName : Str := "MachineError"
noncomputable def vName : Str := "ValueError"
noncomputable def raiseE (cx : CC) (o c : Option Expr) : Option Sm := grd c.isNone (o.bind fun e => (asCall e).bind fun p => grd p.2.2.1.isEmpty ((za1 p.1).bind fun q =>
 grd (q.1 == xName && cx.sc.lookup xName == some .globalImplicit) (one1 p.2.1 fun a => (compX cx a).map .rse)))
noncomputable def asAsg (s : Stmt) : Option (Str × Expr) := match s with
 | .Assign [t] v _ => (za1 t).map fun p => (p.1,v)
 | _ => none
noncomputable def tryE (cx : CC) (b : List Stmt) (hs : List ExceptHandler) : Option Sm := one1 b fun s => one1 hs fun h => match h with
 | .ExceptHandler (some t) none hb _ => (za1 t).bind fun q => grd (q.1 == vName && cx.sc.lookup vName == some .globalImplicit) (one1 hb fun s2 => (asAsg s).bind fun a => (asAsg s2).bind fun a2 =>
   (asConst a2.2).bind fun k => grd (!zaE a.2) ((zbY cx a.1).bind fun x => (zbY cx a2.1).bind fun y => (compX cx a.2).bind fun e => (constV k.1).map fun v => .tr x e y v))
 | _ => none
noncomputable def compS : Nat -> CC -> Stmt -> Option Sm
 | 0,_,_ => none
 | n + 1,cx,st => match st with
  | .Expr v _ => grd (!zaE v) ((compX cx v).map .expr)
  | .Pass _ => some .pass
  | .Break _ => some .brk
  | .Continue _ => some .cont
  | .Return v _ => Option.casesOn (motive:=fun _ => Option Sm) v (some (.ret (.lit .none))) fun e => (compX cx e).map .ret
  | .Assign ts v _ => one1 ts (asgE cx v)
  | .If t a b _ => (compX cx t).bind fun x => (mapO (fun s => some ((compS n cx s).getD .raise)) a).bind fun y => (mapO (fun s => some ((compS n cx s).getD .raise)) b).map fun z => .ite x y z
  | .While t b e _ => grd e.isEmpty ((compX cx t).bind fun x => (mapO (fun s => some ((compS n cx s).getD .raise)) b).map fun y => .wh x y)
  | .For t it b e _ => grd e.isEmpty ((tgtOf t).bind fun q => grd (decide q.1.Nodup) ((compX cx it).bind fun x => (mapO (zbY cx) q.1).bind fun sl => (mapO (fun s => some ((compS n cx s).getD .raise)) b).map fun y => .fo sl q.2 x y))
  | .Raise o c _ => raiseE cx o c
  | .Try b hs e f _ => grd (e.isEmpty && f.isEmpty) (tryE cx b hs)
  | _ => none
noncomputable abbrev compB (cx : CC) : List Stmt -> Option (List Sm) := mapO fun s => some ((compS 40 cx s).getD .raise)
noncomputable def zcr (ps : List Str) (sc : Scope) : List Str :=
 ps ++ (sc.names.filter fun p => (p.2 == .local || p.2 == .cell) && !ps.contains p.1).map (·.1)
noncomputable def fnCx (ps : List Str) (sc : Scope) (gl : List (Str × Val)) : CC :=
 { sc := sc.names,vars := (zcr ps sc).zip (List.range' 0 (zcr ps sc).length),next := (zcr ps sc).length,gl := gl }
noncomputable def compFn (gl : List (Str × Val)) (params : Arguments) (body : List Stmt) (sc : Scope) : Option (Nat × Nat × List Sm) :=
 grd (params.posonlyargs.isEmpty && params.vararg.isNone && params.kwonlyargs.isEmpty && params.kwarg.isNone && sc.kind == .function && !sc.isGenerator && !sc.isCoroutine && (params.args.map (·.arg)).all (fun x => sc.names.lookup x == some .local || sc.names.lookup x == some .cell))
  ((compB (fnCx (params.args.map (·.arg)) sc gl) body).map fun b => ((params.args.map (·.arg)).length,(zcr (params.args.map (·.arg)) sc).length + 6,b))
end Mi
namespace Mi
open PySem PySem.W PySem.Calls PyProof.Rows
noncomputable abbrev Led := List (Addr × Obj)
structure Cfg where
 prog : Program
 w : World
 K : Frag
 P : Prg
 ad : List (Nat × Addr)
noncomputable abbrev Cfg.M (C : Cfg) : Model := model C.prog C.w
noncomputable def tyTab : List (Nat × String) := [(nRange,"range"),(nList,"list"),(nDict,"dict"),(nTuple,"tuple"),(nStr,"str"),(nInt,"int"),(nType,"type"),(nSet,"set"),(nBool,"bool"),(nNoneType,"NoneType")]
noncomputable def biTab : List (Nat × String) := [(nLen,"len"),(nMax,"max"),(nMin,"min"),(nSorted,"sorted")]
noncomputable def sOk (s : List Nat) : Prop := (∀ c ∈ s,c < 0x110000) /\ s.length <= lim
structure Wd where
 σ : List Addr
 tp : Led
structure Wd.le (w w' : Wd) : Prop where
 s : w.σ <+: w'.σ
 t : ∀ p ∈ w.tp,p ∈ w'.tp
theorem Wd.le.refl (w : Wd) : w.le w := ⟨List.prefix_refl _,fun _ x => x⟩
theorem Wd.le.trans {a b c : Wd} (x : a.le b) (y : b.le c) : a.le c := ⟨x.1.trans y.1,fun p hp => y.2 p (x.2 p hp)⟩
theorem Wd.le.get {w w' : Wd} (l : w.le w') {i : Nat} {a : Addr} (h : w.σ[i]? = some a) : w'.σ[i]? = some a := by
 obtain ⟨t,e⟩ := l.s
 obtain ⟨hl,_⟩ := List.getElem?_eq_some_iff.mp h
 rw [<- e,List.getElem?_append_left hl]; exact h
structure SeqO (C : Cfg) (tp : Led) (a : Addr) (o : Obj) (n : Nat) (vs : List Value) : Prop where
 at' : (a,o) ∈ tp \/ C.K.lookup a = some o
 cls : o.cls = .type "tuple"
 data : o.data = .seq vs.toArray n
structure FlO (C : Cfg) (a : Addr) (o : Obj) (n : Nat) (vs : List Value) : Prop where
 at' : C.K.lookup a = some o
 cls : o.cls = .type "list"
 data : o.data = .seq vs.toArray n
noncomputable abbrev rngObj (t : Tok) (n : Int) (u v : Tok) : Obj := { cls := .type "range",dict := Option.none,data := .fields #[.int 0 t,.int n u,.int 1 v],slots := #[] }
structure SetO (tp : Led) (a : Addr) (o : Obj) (es : Array (Int × Value)) (ep : Nat) (t : SetTable) (n : Nat) : Prop where
 at' : (a,o) ∈ tp
 ex : o.ExactSet
 data : o.data = .set es ep t
 fits : t.fits es.size = true
 size : es.size = n
 le : n <= lim
inductive TupO (C : Cfg) (tp : Led) (l : Nat) (R : List Value -> Prop) (v : Value) : Prop
 | mk (a : Addr) (o : Obj) (n : Nat) (vs : List Value) (e : v = .ref a) (q : SeqO C tp a o n vs) (r : R vs) (hl : l <= lim) : TupO C tp l R v
inductive FlL (C : Cfg) (l : Nat) (R : List Value -> Prop) (v : Value) : Prop
 | mk (a : Addr) (o : Obj) (n : Nat) (vs : List Value) (e : v = .ref a) (q : FlO C a o n vs) (r : R vs) (hl : l <= lim) : FlL C l R v
inductive RngO (tp : Led) (n : Int) (x : Value) : Prop
 | mk (a : Addr) (t u v : Tok) (e : x = .ref a) (h : (a,rngObj t n u v) ∈ tp) : RngO tp n x
inductive ConsO (P : Value -> Prop) (R : List Value -> Prop) (vs : List Value) : Prop
 | mk (v : Value) (r : List Value) (e : vs = v :: r) (h : P v) (t : R r) : ConsO P R vs
mutual
noncomputable def VRel (C : Cfg) (w : Wd) : Val -> Value -> Prop
 | .none => fun v => v = .none
 | .bool b => fun v => v = .bool b
 | .int i => fun v => ∃ t,v = .int i t
 | .str s => fun v => ∃ t,v = .str ⟨s.toArray⟩ t /\ sOk s
 | .tup mvs => fun v => TupO C w.tp mvs.length (zab C w mvs) v
 | .ref i => fun v => ∃ a,v = .ref a /\ w.σ[i]? = some a
 | .top id => fun v => ∃ a,v = .ref a /\ C.ad.lookup id = some a
 | .ty c => fun v => ∃ n,v = .type n /\ tyTab.lookup c = some n
 | .bi c => fun v => ∃ n,v = .builtin n /\ biTab.lookup c = some n
 | .rng n => fun x => RngO w.tp n x
 | .fl mvs => fun v => FlL C mvs.length (zab C w mvs) v
 | .setn n => fun v => ∃ a o es ep t,v = .ref a /\ SetO w.tp a o es ep t n
noncomputable def zab (C : Cfg) (w : Wd) : List Val -> List Value -> Prop
 | [] => fun vs => vs = []
 | m :: ms => fun vs => ConsO (VRel C w m) (zab C w ms) vs
end
section
variable {C : Cfg} {w w' : Wd} {x : Val} {v : Value} {mvs : List Val} {vs : List Value}
theorem zab.nil : zab C w [] [] := rfl
theorem zab.cons {m : Val} {ms : List Val} (h : VRel C w m v) (r : zab C w ms vs) : zab C w (m :: ms) (v :: vs) := ⟨v,vs,rfl,h,r⟩
theorem zab.one (h : VRel C w x v) : zab C w [x] [v] := .cons h .nil
theorem zab.length : ∀ {ms : List Val} {vs : List Value},zab C w ms vs -> ms.length = vs.length := by
 intro ms
 induction ms with
 | nil => intro vs h; exact congrArg List.length (Eq.symm h)
 | cons m ms ih =>
  intro vs h
  obtain ⟨v,r,rfl,_,h⟩ := h
  exact congrArg Nat.succ (ih h)
theorem VRel.mono' (l : w.le w') (m : Val) : ∀ v,VRel C w m v -> VRel C w' m v := by
 refine Val.rec (motive_1:=fun m => ∀ v,VRel C w m v -> VRel C w' m v) (motive_2:=fun ms => ∀ vs,zab C w ms vs -> zab C w' ms vs) (fun _ h => h) (fun _ _ h => h) (fun _ _ h => h) (fun _ _ h => h) ?_ ?_ (fun _ _ h => h) (fun _ _ h => h) (fun _ _ h => h) ?_ ?_ ?_ (fun _ h => h) ?_ m
 ·exact fun ms ih v h => TupO.casesOn h fun a o n vs e h r k => ⟨a,o,n,vs,e,⟨h.1.imp (l.t _) id,h.2,h.3⟩,ih vs r,k⟩
 ·exact fun i v h => h.elim fun a h => ⟨a,h.1,l.get h.2⟩
 ·exact fun n v h => RngO.casesOn h fun a t u x e h => ⟨a,t,u,x,e,l.t _ h⟩
 ·exact fun ms ih v h => FlL.casesOn h fun a o n vs e h r k => ⟨a,o,n,vs,e,h,ih vs r,k⟩
 ·exact fun n v h => by
   obtain ⟨a,o,es,ep,t,e,h⟩ := h
   exact ⟨a,o,es,ep,t,e,l.t _ h.1,h.2,h.3,h.4,h.5,h.6⟩
 ·exact fun m ms i1 i2 vs h => ConsO.casesOn h fun v r e h h' => ⟨v,r,e,i1 v h,i2 r h'⟩
theorem VRel.mono (l : w.le w') (h : VRel C w x v) : VRel C w' x v := VRel.mono' l x v h
theorem zab.mono (l : w.le w') : ∀ {ms : List Val} {vs : List Value},zab C w ms vs -> zab C w' ms vs := by
 intro ms
 induction ms with
 | nil => exact fun h => h
 | cons m ms ih =>
  exact fun h => ConsO.casesOn h fun v r e h h' => ⟨v,r,e,h.mono l,ih h'⟩
theorem zab.get : ∀ {ms : List Val} {vs : List Value} {i : Nat} {m : Val},zab C w ms vs -> ms[i]? = some m -> ∃ v,vs[i]? = some v /\ VRel C w m v := by
 intro ms
 induction ms with
 | nil => exact fun _ e => nos e
 | cons m ms ih =>
  intro vs i m' h e
  obtain ⟨v,r,rfl,h,h'⟩ := h
  cases i with
  | zero => exact ⟨v,rfl,Option.some.inj e ▸ h⟩
  | succ i => exact ih (i:=i) h' e
theorem zab.append {ms' : List Val} {vs' : List Value} (h' : zab C w ms' vs') : ∀ {ms : List Val} {vs : List Value},zab C w ms vs -> zab C w (ms ++ ms') (vs ++ vs') := by
 intro ms
 induction ms with
 | nil => intro vs h; rw [show vs = [] from h]; exact h'
 | cons m ms ih =>
  exact fun h => ConsO.casesOn h fun v r e h hr => ⟨v,r ++ vs',congrArg (· ++ vs') e,h,ih hr⟩
theorem VRel.int? {i : Int} : VRel C w x v -> x.int? = some i -> ∃ t,v = .int i t :=
 Val.casesOn (motive_1:=fun x => VRel C w x v -> x.int? = some i -> ∃ t,v = .int i t) x (fun _ e => nos e) (fun _ _ e => nos e) (fun _ h e => Option.some.inj e ▸ h) (fun _ _ e => nos e) (fun _ _ e => nos e) (fun _ _ e => nos e) (fun _ _ e => nos e) (fun _ _ e => nos e) (fun _ _ e => nos e) (fun _ _ e => nos e) (fun _ _ e => nos e) (fun _ _ e => nos e)
theorem VRel.str? {i : List Nat} : VRel C w x v -> x.str? = some i -> ∃ t,v = .str ⟨i.toArray⟩ t /\ sOk i :=
 Val.casesOn (motive_1:=fun x => VRel C w x v -> x.str? = some i -> ∃ t,v = .str ⟨i.toArray⟩ t /\ sOk i) x (fun _ e => nos e) (fun _ _ e => nos e) (fun _ _ e => nos e) (fun _ h e => Option.some.inj e ▸ h) (fun _ _ e => nos e) (fun _ _ e => nos e) (fun _ _ e => nos e) (fun _ _ e => nos e) (fun _ _ e => nos e) (fun _ _ e => nos e) (fun _ _ e => nos e) (fun _ _ e => nos e)
theorem tup?_s {i : List Val} : x.tup? = some i -> x = .tup i :=
 Val.casesOn (motive_1:=fun x => x.tup? = some i -> x = .tup i) x (fun e => nos e) (fun _ e => nos e) (fun _ e => nos e) (fun _ e => nos e) (fun _ e => Option.some.inj e ▸ rfl) (fun _ e => nos e) (fun _ e => nos e) (fun _ e => nos e) (fun _ e => nos e) (fun _ e => nos e) (fun _ e => nos e) (fun _ e => nos e)
theorem ref?_s {i : Nat} : x.ref? = some i -> x = .ref i :=
 Val.casesOn (motive_1:=fun x => x.ref? = some i -> x = .ref i) x (fun e => nos e) (fun _ e => nos e) (fun _ e => nos e) (fun _ e => nos e) (fun _ e => nos e) (fun _ e => Option.some.inj e ▸ rfl) (fun _ e => nos e) (fun _ e => nos e) (fun _ e => nos e) (fun _ e => nos e) (fun _ e => nos e) (fun _ e => nos e)
theorem top?_s {i : Nat} : x.top? = some i -> x = .top i :=
 Val.casesOn (motive_1:=fun x => x.top? = some i -> x = .top i) x (fun e => nos e) (fun _ e => nos e) (fun _ e => nos e) (fun _ e => nos e) (fun _ e => nos e) (fun _ e => nos e) (fun _ e => Option.some.inj e ▸ rfl) (fun _ e => nos e) (fun _ e => nos e) (fun _ e => nos e) (fun _ e => nos e) (fun _ e => nos e)
theorem ty?_s {i : Nat} : x.ty? = some i -> x = .ty i :=
 Val.casesOn (motive_1:=fun x => x.ty? = some i -> x = .ty i) x (fun e => nos e) (fun _ e => nos e) (fun _ e => nos e) (fun _ e => nos e) (fun _ e => nos e) (fun _ e => nos e) (fun _ e => nos e) (fun _ e => Option.some.inj e ▸ rfl) (fun _ e => nos e) (fun _ e => nos e) (fun _ e => nos e) (fun _ e => nos e)
theorem bi?_s {i : Nat} : x.bi? = some i -> x = .bi i :=
 Val.casesOn (motive_1:=fun x => x.bi? = some i -> x = .bi i) x (fun e => nos e) (fun _ e => nos e) (fun _ e => nos e) (fun _ e => nos e) (fun _ e => nos e) (fun _ e => nos e) (fun _ e => nos e) (fun _ e => nos e) (fun _ e => Option.some.inj e ▸ rfl) (fun _ e => nos e) (fun _ e => nos e) (fun _ e => nos e)
theorem fl?_s {i : List Val} : x.fl? = some i -> x = .fl i :=
 Val.casesOn (motive_1:=fun x => x.fl? = some i -> x = .fl i) x (fun e => nos e) (fun _ e => nos e) (fun _ e => nos e) (fun _ e => nos e) (fun _ e => nos e) (fun _ e => nos e) (fun _ e => nos e) (fun _ e => nos e) (fun _ e => nos e) (fun _ e => nos e) (fun _ e => Option.some.inj e ▸ rfl) (fun _ e => nos e)
theorem bool?_s {i : Bool} : x.bool? = some i -> x = .bool i :=
 Val.casesOn (motive_1:=fun x => x.bool? = some i -> x = .bool i) x (fun e => nos e) (fun _ e => Option.some.inj e ▸ rfl) (fun _ e => nos e) (fun _ e => nos e) (fun _ e => nos e) (fun _ e => nos e) (fun _ e => nos e) (fun _ e => nos e) (fun _ e => nos e) (fun _ e => nos e) (fun _ e => nos e) (fun _ e => nos e)
theorem rng?_s {i : Int} : x.rng? = some i -> x = .rng i :=
 Val.casesOn (motive_1:=fun x => x.rng? = some i -> x = .rng i) x (fun e => nos e) (fun _ e => nos e) (fun _ e => nos e) (fun _ e => nos e) (fun _ e => nos e) (fun _ e => nos e) (fun _ e => nos e) (fun _ e => nos e) (fun _ e => nos e) (fun _ e => Option.some.inj e ▸ rfl) (fun _ e => nos e) (fun _ e => nos e)
theorem isNone_s : x.isNone = true -> x = .none :=
 Val.casesOn (motive_1:=fun x => x.isNone = true -> x = .none) x (fun _ => rfl) (fun _ => nofun) (fun _ => nofun) (fun _ => nofun) (fun _ => nofun) (fun _ => nofun) (fun _ => nofun) (fun _ => nofun) (fun _ => nofun) (fun _ => nofun) (fun _ => nofun) (fun _ => nofun)
theorem list?_s {o : MObj} {i : List Val} : o.list? = some i -> o = .list i :=
 MObj.casesOn (motive:=fun o => o.list? = some i -> o = .list i) o (fun _ e => Option.some.inj e ▸ rfl) (fun _ _ e => nos e) (fun _ _ e => nos e)
theorem dict?_s {o : MObj} {i : Option Nat × List (Val × Val)} : o.dict? = some i -> o = .dict i.1 i.2 :=
 MObj.casesOn (motive:=fun o => o.dict? = some i -> o = .dict i.1 i.2) o (fun _ e => nos e) (fun _ _ e => Option.some.inj e ▸ rfl) (fun _ _ e => nos e)
theorem inst?_s {o : MObj} {i : Nat × List (Nat × Val)} : o.inst? = some i -> o = .inst i.1 i.2 :=
 MObj.casesOn (motive:=fun o => o.inst? = some i -> o = .inst i.1 i.2) o (fun _ e => nos e) (fun _ _ e => nos e) (fun _ _ e => Option.some.inj e ▸ rfl)
end
inductive FldO (n : Nat) (P : Value -> Prop) (R : List DictEntry -> Prop) (es : List DictEntry) : Prop
 | mk (x : Str) (t : Tok) (hsh : Int) (v : Value) (r : List DictEntry) (e : es = ⟨hsh,.str x t,v⟩ :: r) (nm : zae x = true) (en : enc x = n) (h : P v) (t : R r) : FldO n P R es
noncomputable def FRel (C : Cfg) (w : Wd) : List (Nat × Val) -> List DictEntry -> Prop
 | [] => fun es => es = []
 | p :: fs => fun es => FldO p.1 (VRel C w p.2) (FRel C w fs) es
theorem FRel.mono {C : Cfg} {w w' : Wd} (l : w.le w') : ∀ {fs : List (Nat × Val)} {es : List DictEntry},FRel C w fs es -> FRel C w' fs es := by
 intro fs
 induction fs with
 | nil => exact fun h => h
 | cons p fs ih =>
  exact fun h => FldO.casesOn h fun x t hsh v r e h1 h2 h3 h4 => ⟨x,t,hsh,v,r,e,h1,h2,h3.mono l,ih h4⟩
set_option genInjectivity true in
inductive Atom where
 | i (n : Int)
 | s (x : Str)
 deriving DecidableEq
noncomputable def Atom.val (a : Atom) : Val := Atom.casesOn (motive:=fun _ => Val) a .int (fun x => .str x.cps.toList)
noncomputable def Atom.is (a : Atom) (v : Value) : Bool := Atom.casesOn (motive:=fun _ => Bool) a (fun n => Value.isInt n v) (fun x => Value.isStrOf x v)
noncomputable def Atom.hash (w : World) (a : Atom) : Int := Atom.casesOn (motive:=fun _ => Int) a hashInt (fun x => hashStr w x)
theorem Atom.inj (v : Value) (a b : Atom) (ha : a.is v = true) (hb : b.is v = true) : a = b := by
 cases a with
 | i n =>
  cases b with
  | i k => rw [Value.isInt_inj v _ _ ha hb]
  | s y => obtain ⟨t,rfl⟩ := Value.isInt_shape ha; cases hb
 | s x =>
  cases b with
  | i k => obtain ⟨t,rfl⟩ := Value.isInt_shape hb; cases ha
  | s y => rw [Value.isStrOf_inj v _ _ ha hb]
theorem Atom.byValue (k : Atom) (v : Value) (h : k.is v = true) : carriedByValue v = true := by
 cases k with
 | i n => obtain ⟨t,rfl⟩ := Value.isInt_shape h; rfl
 | s x => obtain ⟨t,rfl⟩ := Value.isStrOf_shape h; rfl
theorem Atom.pyHash {prog : Program} {w : World} {A : Around} {E : Value -> Shared -> Prop} {s : Shared} {k : Atom} {v : Value} {Q : Int -> Shared -> Prop} (hv : k.is v = true) (h : Q (k.hash w) { s with toks := s.toks + 1 }) : wpAny (model prog w) A (PySem.pyHash v) Q E s := by
 cases k with
 | i n => obtain ⟨t,rfl⟩ := Value.isInt_shape hv; exact wpAny_pyHash_int h
 | s x => obtain ⟨t,rfl⟩ := Value.isStrOf_shape hv; exact wpAny_pyHash_str h
theorem Atom.eqBool {prog : Program} {w : World} {A : Around} {E : Value -> Shared -> Prop} {s : Shared} {a b : Atom} {u v : Value} {Q : Bool -> Shared -> Prop} (hu : a.is u = true) (hv : b.is v = true) (h : Q (decide (a = b)) s) : wpAny (model prog w) A (PySem.eqBool u v) Q E s := by
 cases a with
 | i n =>
  obtain ⟨t,rfl⟩ := Value.isInt_shape hu
  cases b with
  | i k =>
   obtain ⟨u,rfl⟩ := Value.isInt_shape hv
   refine wpAny_eqBool_int ?_
   simp only [Atom.i.injEq] at h
   first | exact h | (simp only [beq_eq_decide]; exact h)
  | s y =>
   obtain ⟨u,rfl⟩ := Value.isStrOf_shape hv
   exact SeqAt.EqAt.int_str _ _ _ _ _ _ _ _ (by simpa using h)
 | s x =>
  obtain ⟨t,rfl⟩ := Value.isStrOf_shape hu
  cases b with
  | i k =>
   obtain ⟨u,rfl⟩ := Value.isInt_shape hv
   exact SeqAt.EqAt.str_int _ _ _ _ _ _ _ _ (by simpa using h)
  | s y =>
   obtain ⟨u,rfl⟩ := Value.isStrOf_shape hv
   exact wpAny_eqBool_str (by simpa using h)
theorem Atom.strKeys (k : Atom) (x : Str) (t : Tok) (v : Value) (h : k.is (.str x t) = true) : k.is v = v.isStr x := by
 cases k with
 | i n => cases h
 | s y =>
  have h' : (x == y) = true := h
  rw [beq_iff_eq] at h'
  subst h'
  cases v <;> rfl
noncomputable def zay (prog : Program) (w : World) : KeyKind prog w Atom :=
 ⟨Atom.is,Atom.hash w,Atom.inj,Atom.byValue,Atom.pyHash,Atom.eqBool,Atom.strKeys⟩
noncomputable def Atom.ok (a : Atom) : Prop := Atom.casesOn (motive:=fun _ => Prop) a (fun _ => True) (fun x => sOk x.cps.toList)
structure DA (C : Cfg) (w : Wd) (mes : List (Val × Val)) (es : List DictEntry) (kvs : List (Atom × Value)) : Prop where
 p : Pairs (zay C.prog C.w) es kvs
 k : KeysOf (zay C.prog C.w) es.toArray
 n : (kvs.map (·.1)).Nodup
 e : mes.map (·.1) = kvs.map (fun p => p.1.val)
 ok : ∀ p ∈ kvs,p.1.ok
 r : zab C w (mes.map (·.2)) (kvs.map (·.2))
structure DT (C : Cfg) (w : Wd) (mes : List (Val × Val)) (es : List DictEntry) (xs : List (List Atom × Addr × Value)) : Prop where
 es : es = xs.map (entryOfKey (tupleKind (zay C.prog C.w)))
 n : (xs.map (·.1)).Nodup
 v : ∀ x ∈ xs,VRel C w (.tup (x.1.map Atom.val)) (.ref x.2.1)
 e : mes.map (·.1) = xs.map (fun x => Val.tup (x.1.map Atom.val))
 r : zab C w (mes.map (·.2)) (xs.map (·.2.2))
noncomputable def DRel (C : Cfg) (w : Wd) (mes : List (Val × Val)) (es : List DictEntry) : Prop := (∃ kvs,DA C w mes es kvs) \/ ∃ xs,DT C w mes es xs
theorem DRel.mono {C : Cfg} {w w' : Wd} (l : w.le w') {mes : List (Val × Val)} {es : List DictEntry} (h : DRel C w mes es) : DRel C w' mes es :=
 h.imp (fun ⟨kvs,D⟩ => ⟨kvs,D.p,D.k,D.n,D.e,D.ok,D.r.mono l⟩) fun ⟨xs,D⟩ => ⟨xs,D.es,D.n,fun x hx => (D.v x hx).mono l,D.e,D.r.mono l⟩
inductive LstO (C : Cfg) (w : Wd) (a : Addr) (mvs : List Val) (en : Led) : Prop
 | mk (vs : List Value) (n : Nat) (e : en = [(a,listOf vs.toArray n)]) (r : zab C w mvs vs) (l : mvs.length <= lim) : LstO C w a mvs en
inductive DctO (C : Cfg) (w : Wd) (a : Addr) (ep : Option Nat) (mes : List (Val × Val)) (en : Led) : Prop
 | mk (es : List DictEntry) (n : Nat) (e : en = [(a,dictOf es n)]) (hep : ∀ e,ep = some e -> n = e) (d : DRel C w mes es) (l : mes.length <= lim) : DctO C w a ep mes en
inductive InsO (C : Cfg) (w : Wd) (a : Addr) (id : Nat) (fs : List (Nat × Val)) (en : Led) : Prop
 | mk (c dx : Addr) (es : List DictEntry) (n : Nat) (e : en = [(a,instObj c dx),(dx,dictOf es n)]) (hc : C.ad.lookup id = some c) (f : FRel C w fs es) (l : fs.length <= 500) : InsO C w a id fs en
noncomputable def ORel (C : Cfg) (w : Wd) (a : Addr) (o : MObj) : Led -> Prop := MObj.casesOn (motive:=fun _ => Led -> Prop) o
 (LstO C w a) (DctO C w a) (InsO C w a)
theorem ORel.mono {C : Cfg} {w w' : Wd} (l : w.le w') {a : Addr} {o : MObj} {en : Led} : ORel C w a o en -> ORel C w' a o en :=
 MObj.casesOn (motive:=fun o => ORel C w a o en -> ORel C w' a o en) o
  (fun _ h => LstO.casesOn h fun vs n e h k => .mk vs n e (h.mono l) k) (fun _ _ h => DctO.casesOn h fun es n e h h' k => .mk es n e h (h'.mono l) k) (fun _ _ h => InsO.casesOn h fun c dx es n e h h' k => .mk c dx es n e h (h'.mono l) k)
inductive EntO (P : MObj -> Led -> Prop) (R : MH -> List Led -> Prop) (H : MH) (os : List Led) : Prop
 | mk (o : MObj) (H' : MH) (en : Led) (os' : List Led) (e1 : H = o :: H') (e2 : os = en :: os') (h : P o en) (t : R H' os') : EntO P R H os
noncomputable def Ents (C : Cfg) (w : Wd) : List Addr -> MH -> List Led -> Prop
 | [] => fun H os => H = [] /\ os = []
 | a :: as => EntO (ORel C w a) (Ents C w as)
theorem Ents.mono {C : Cfg} {w w' : Wd} (l : w.le w') : ∀ {as : List Addr} {H : MH} {os : List Led},Ents C w as H os -> Ents C w' as H os := by
 intro as
 induction as with
 | nil => exact fun h => h
 | cons a as ih =>
  exact fun h => EntO.casesOn h fun o H' en os' e1 e2 h r => ⟨o,H',en,os',e1,e2,h.mono l,ih r⟩
theorem Ents.snoc {C : Cfg} {w : Wd} {a : Addr} {o : MObj} {en : Led} (h' : ORel C w a o en) : ∀ {as : List Addr} {H : MH} {os : List Led},Ents C w as H os -> Ents C w (as ++ [a]) (H ++ [o]) (os ++ [en]) := by
 intro as
 induction as with
 | nil =>
  exact fun h => ⟨o,[],en,[],congrArg (· ++ [o]) h.1,congrArg (· ++ [en]) h.2,h',rfl,rfl⟩
 | cons b as ih =>
  exact fun h => EntO.casesOn h fun o1 H' en1 os' e1 e2 h r => ⟨o1,H' ++ [o],en1,os' ++ [en],congrArg (· ++ [o]) e1,congrArg (· ++ [en]) e2,h,ih r⟩
theorem Ents.length {C : Cfg} {w : Wd} : ∀ {as : List Addr} {H : MH} {os : List Led},Ents C w as H os -> as.length = H.length := by
 intro as
 induction as with
 | nil => exact fun h => congrArg List.length h.1.symm
 | cons b as ih => exact fun h => EntO.casesOn h fun o1 H' en1 os' e1 _ _ r => (congrArg Nat.succ (ih r)).trans (congrArg List.length e1.symm)
inductive EntAt (C : Cfg) (w : Wd) (as : List Addr) (i : Nat) (a : Addr) (o : MObj) (H : MH) (os : List Led) : Prop
 | mk (pre : List Led) (en : Led) (post : List Led) (e : os = pre ++ en :: post) (r : ORel C w a o en) (g : ∀ o' en',ORel C w a o' en' -> Ents C w as (H.set i o') (pre ++ en' :: post)) : EntAt C w as i a o H os
theorem Ents.at {C : Cfg} {w : Wd} {a : Addr} {o : MObj} : ∀ {as : List Addr} {i : Nat} {H : MH} {os : List Led},Ents C w as H os -> as[i]? = some a -> H[i]? = some o ->
  EntAt C w as i a o H os := by
 intro as
 induction as with
 | nil => exact fun _ e => nos e
 | cons b as ih =>
  intro i H os h ha ho
  obtain ⟨o1,H',en1,os',rfl,rfl,h,r⟩ := h
  cases i with
  | zero =>
   cases ha; cases ho
   exact ⟨[],en1,os',rfl,h,fun o' en' h' => ⟨o',H',en',os',rfl,rfl,h',r⟩⟩
  | succ i =>
   obtain ⟨pre,en,post,rfl,hr,k⟩ := ih (i:=i) r ha ho
   exact ⟨en1 :: pre,en,post,rfl,hr,fun o' en' h' => ⟨o1,_,en1,_,rfl,rfl,h,k o' en' h'⟩⟩
structure Kp where
 ce : Led
 ex : Led
 m : Str -> Option Value
noncomputable def Led.nd (l : Led) : Prop := (l.map (·.1)).Nodup
theorem Led.nd.perm {a b : Led} (p : a.Perm b) (h : Led.nd a) : Led.nd b := (p.map fun q : Addr × Obj => q.1).nodup_iff.mp h
noncomputable def Kp.all (k : Kp) (w : Wd) (os : List Led) : Led := os.flatten ++ (w.tp ++ (k.ce ++ k.ex))
inductive OsO (C : Cfg) (h₀ : Heap) (L : Addr) (k : Kp) (w : Wd) (H : MH) (h : Heap) : Prop
 | mk (os : List Led) (he : Ents C w w.σ H os) (hn : News h₀ L h (k.all w os)) (hd : Led.nd (k.all w os)) : OsO C h₀ L k w H h
structure Sta (C : Cfg) (h₀ : Heap) (L : Addr) (k : Kp) (w : Wd) (H : MH) (h : Heap) : Prop where
 fr : Fr h₀ L h k.m
 os : OsO C h₀ L k w H h
 big : 4 <= h₀.objs.size
 lo : ∀ a ∈ w.σ,4 <= a
theorem zbX {d : Addr} {o o' : Obj} {post : Led} : ∀ {pre : Led},Led.nd (pre ++ (d,o) :: post) -> Upd d o o' (pre ++ (d,o) :: post) (pre ++ (d,o') :: post) := by
 intro pre
 induction pre with
 | nil => exact fun h => .head fun p hp e => (List.nodup_cons.mp h).1 (List.mem_map.mpr ⟨p,hp,e⟩)
 | cons q pre ih => exact fun h => .tail (fun e => (List.nodup_cons.mp h).1 (List.mem_map.mpr ⟨(d,o),List.mem_append_right _ (.head _),e.symm⟩)) (ih (List.nodup_cons.mp h).2)
section
variable {C : Cfg} {h₀ : Heap} {L : Addr} {k : Kp} {w : Wd} {H : MH} {h : Heap}
theorem Sta.len (S : Sta C h₀ L k w H h) : w.σ.length = H.length := OsO.casesOn S.os fun _ he _ _ => he.length
inductive SAt (C : Cfg) (h₀ : Heap) (L : Addr) (k : Kp) (w : Wd) (H : MH) (h : Heap) (i : Nat) (a : Addr) (o : MObj) : Prop
 | mk (pre en post : Led) (r : ORel C w a o en) (n : News h₀ L h (pre ++ (en ++ post))) (d : Led.nd (pre ++ (en ++ post)))
   (g : ∀ o' en' h',en'.map (·.1) = en.map (·.1) -> ORel C w a o' en' -> Fr h₀ L h' k.m -> News h₀ L h' (pre ++ (en' ++ post)) -> Sta C h₀ L k w (H.set i o') h') : SAt C h₀ L k w H h i a o
theorem Sta.at (S : Sta C h₀ L k w H h) {i : Nat} {a : Addr} {o : MObj} (ha : w.σ[i]? = some a) (ho : H[i]? = some o) :
  SAt C h₀ L k w H h i a o := by
 obtain ⟨os,he,hn,hd⟩ := S.os
 obtain ⟨pre,en,post,rfl,hr,g⟩ := he.at ha ho
 have e : ∀ en1 : Led,k.all w (pre ++ en1 :: post) = pre.flatten ++ (en1 ++ (post.flatten ++ (w.tp ++ (k.ce ++ k.ex)))) := by
  intro en1; unfold Kp.all; rw [List.flatten_append,List.flatten_cons,List.append_assoc,List.append_assoc]
 rw [e] at hn hd
 refine ⟨pre.flatten,en,_,hr,hn,hd,fun o' en' h' hm hr' F N => ⟨F,⟨pre ++ en' :: post,g o' en' hr',(e en').symm ▸ N,(e en').symm ▸ ?_⟩,S.big,S.lo⟩⟩
 unfold Led.nd at hd ⊢
 rw [List.map_append,List.map_append] at hd ⊢
 rw [hm]; exact hd
theorem zc5 (k : Kp) (w : Wd) (a : Addr) (en : Led) (os : List Led) : (en ++ k.all w os).Perm (k.all ⟨w.σ ++ [a],w.tp⟩ (os ++ [en])) := by
 unfold Kp.all
 rw [List.flatten_append,List.flatten_cons,List.flatten_nil,List.append_nil,List.append_assoc]
 exact List.perm_append_comm_assoc _ _ _
theorem perm_tp (k : Kp) (w : Wd) (p : Addr × Obj) (os : List Led) : ([p] ++ k.all w os).Perm (k.all ⟨w.σ,p :: w.tp⟩ os) := (List.perm_middle (a:=p) (l₁:=os.flatten) (l₂:=w.tp ++ (k.ce ++ k.ex))).symm
theorem Sta.loNew (S : Sta C h₀ L k w H h) {a : Addr} (ha : 4 <= a) : ∀ b ∈ w.σ ++ [a],4 <= b := fun b hb => (List.mem_append.mp hb).elim (S.lo b) fun hb => List.mem_singleton.mp hb ▸ ha
theorem Sta.four (S : Sta C h₀ L k w H h) {a : Addr} (ha : h.objs.size <= a) : 4 <= a := Nat.le_trans S.big (Nat.le_trans S.fr.above (Nat.le_trans (Nat.le_of_lt S.fr.ns.lt) ha))
inductive LedO (C : Cfg) (h₀ : Heap) (L : Addr) (k : Kp) (w : Wd) (H : MH) (h : Heap) : Prop
 | mk (all : Led) (n : News h₀ L h all)
  (add : ∀ (a : Addr) (o : MObj) (en : Led) (h' : Heap),ORel C ⟨w.σ ++ [a],w.tp⟩ a o en -> Fr h₀ L h' k.m -> News h₀ L h' (en ++ all) -> Led.nd en -> (∀ p ∈ en,∀ q ∈ all,p.1 ≠ q.1) -> 4 <= a -> Sta C h₀ L k ⟨w.σ ++ [a],w.tp⟩ (H ++ [o]) h')
  (tp : ∀ (a : Addr) (o : Obj) (h' : Heap),Fr h₀ L h' k.m -> News h₀ L h' ((a,o) :: all) -> h.objs.size <= a -> Sta C h₀ L k ⟨w.σ,(a,o) :: w.tp⟩ H h')
  (heap : ∀ h' : Heap,Fr h₀ L h' k.m -> News h₀ L h' all -> Sta C h₀ L k w H h') : LedO C h₀ L k w H h
theorem nd_app {en all : Led} (h : Led.nd en) (h' : Led.nd all) (hf : ∀ p ∈ en,∀ q ∈ all,p.1 ≠ q.1) : Led.nd (en ++ all) := by
 unfold Led.nd
 rw [List.map_append,List.nodup_append]
 refine ⟨h,h',fun x hx y hy => ?_⟩
 obtain ⟨p,hp,rfl⟩ := List.mem_map.mp hx
 obtain ⟨q,hq,rfl⟩ := List.mem_map.mp hy
 exact hf p hp q hq
theorem News.fresh {all en : Led} (hn : News h₀ L h all) (he : ∀ p ∈ en,h.objs.size <= p.1) : ∀ p ∈ en,∀ q ∈ all,p.1 ≠ q.1 :=
 fun p hp q hq e => absurd (Heap.lt_size (hn q hq).1) (Nat.not_lt.mpr (e ▸ he p hp))
theorem zbs (p : Addr × Obj) : Led.nd [p] := List.nodup_cons.mpr ⟨List.not_mem_nil,.nil⟩
theorem Sta.ledger (S : Sta C h₀ L k w H h) : LedO C h₀ L k w H h := by
 obtain ⟨os,he,hn,hd⟩ := S.os
 refine ⟨_,hn,fun a o en h' hr F N hen hf h4 => ⟨F,⟨os ++ [en],Ents.snoc hr (Ents.mono (w:=w) (w' := ⟨w.σ ++ [a],w.tp⟩) ⟨List.prefix_append _ _,fun _ x => x⟩ he),fun p hp => N p ((zc5 k w a en os).mem_iff.mpr hp),Led.nd.perm (zc5 k w a en os) (nd_app hen hd hf)⟩,S.big,S.loNew h4⟩,
  fun a o h' F N ha => ⟨F,⟨os,Ents.mono (w:=w) (w' := ⟨w.σ,(a,o) :: w.tp⟩) ⟨List.prefix_refl _,fun _ x => .tail _ x⟩ he,fun p hp => N p ((perm_tp k w (a,o) os).mem_iff.mpr hp),Led.nd.perm (perm_tp k w (a,o) os) (nd_app (zbs _) hd (News.fresh hn fun p hp => List.mem_singleton.mp hp ▸ ha))⟩,S.big,S.lo⟩,
  fun h' F N => ⟨F,⟨os,he,N,hd⟩,S.big,S.lo⟩⟩
theorem Sta.tpAt (S : Sta C h₀ L k w H h) {c : Addr} {o : Obj} (hc : (c,o) ∈ w.tp) : h.get? c = some o := OsO.casesOn S.os fun _ _ hn _ => (hn (c,o) (List.mem_append_right _ (List.mem_append_left _ hc))).1
theorem Sta.ceAt (S : Sta C h₀ L k w H h) {c : Addr} {o : Obj} (hc : (c,o) ∈ k.ce) : h.get? c = some o := OsO.casesOn S.os fun _ _ hn _ => (hn (c,o) (List.mem_append_right _ (List.mem_append_right _ (List.mem_append_left _ hc)))).1
theorem Sta.exAt (S : Sta C h₀ L k w H h) {c : Addr} {o : Obj} (hc : (c,o) ∈ k.ex) : h.get? c = some o := OsO.casesOn S.os fun _ _ hn _ => (hn (c,o) (List.mem_append_right _ (List.mem_append_right _ (List.mem_append_right _ hc)))).1
inductive IsL (C : Cfg) (w : Wd) (h : Heap) (v : Value) (mvs : List Val) : Prop
 | mk (a : Addr) (vs : List Value) (n : Nat) (e : v = .ref a) (g : h.get? a = some (listOf vs.toArray n)) (r : zab C w mvs vs) (l : mvs.length <= lim) : IsL C w h v mvs
theorem Sta.list (S : Sta C h₀ L k w H h) {x : Val} {v : Value} {mvs : List Val} (hv : VRel C w x v) (ho : zas H x = some mvs) :
  IsL C w h v mvs := by
 obtain ⟨i,e,h1⟩ := bs ho
 obtain ⟨o,hi,h2⟩ := bs h1
 cases ref?_s e
 cases list?_s h2
 obtain ⟨a,rfl,ha⟩ := hv
 obtain ⟨pre,en,post,⟨vs,n,rfl,r,l⟩,hn,_,_⟩ := S.at ha hi
 exact ⟨a,vs,n,rfl,(hn (a,_) (List.mem_append_right _ (.head _))).1,r,l⟩
end
end Mi
namespace Mi
open PySem PySem.W PySem.Calls PyProof.Rows
structure Actv (C : Cfg) (d e : Nat) where
 A : Around
 h₀ : Heap
 L : Addr
 envF : Env
 below : ∃ A₀ base outer,Below A₀ base outer h₀ /\ A.frames = some (envF :: outer)
 k : C.K.In h₀
 top : ∃ p loose mean mg mb,Top p loose mean mg mb h₀
 frame : envF.frame = some L
 kind : envF.scope.kind = .function
 handled : A.handled = none
 depth : A.depth + 4 * d + 2 + e <= 900
 units : A.units + 20 * d + 190 + 5 * e <= 9900
noncomputable def Actv.toW {C : Cfg} {d e : Nat} (Y : Actv C d e) : Actv C d 0 :=
 { A := Y.A,h₀ := Y.h₀,L := Y.L,envF := Y.envF,below := Y.below,k := Y.k,top := Y.top,frame := Y.frame,kind := Y.kind,handled := Y.handled,depth := Nat.le_trans (Nat.add_le_add_left (Nat.zero_le e) _) Y.depth,units := Nat.le_trans (Nat.add_le_add_left (Nat.zero_le _) _) Y.units }
noncomputable abbrev St {C : Cfg} {d e : Nat} (Y : Actv C d e) (k : Kp) (w : Wd) (H : MH) (s : Shared) : Prop := Sta C Y.h₀ Y.L k w H s.heap
structure Same (s s' : Shared) : Prop where
 g : s'.gens = s.gens
 o : s'.os = s.os
theorem Same.refl (s : Shared) : Same s s := ⟨rfl,rfl⟩
theorem Same.trans {a b c : Shared} (x : Same a b) (y : Same b c) : Same a c := ⟨y.1.trans x.1,y.2.trans x.2⟩
structure Nxt {C : Cfg} {d e : Nat} (Y : Actv C d e) (k : Kp) (w w' : Wd) (H' : MH) (s s' : Shared) : Prop where
 le : w.le w'
 st : St Y k w' H' s'
 same : Same s s'
noncomputable def Brings {α β : Type} {C : Cfg} {d e : Nat} (Y : Actv C d e) (k : Kp) (R : Wd -> β -> α -> Prop) (t : Sem α) (w : Wd) (s : Shared) (r : β) (H' : MH) : Prop :=
 ∀ (Q : α -> Shared -> Prop) (E : Value -> Shared -> Prop),(∀ w' a s',Nxt Y k w w' H' s s' -> R w' r a -> Q a s') -> wpAny C.M Y.A t Q E s
noncomputable def Ref {α β : Type} {C : Cfg} {d e : Nat} (Y : Actv C d e) (k : Kp) (R : Wd -> β -> α -> Prop) (t : Sem α) (w : Wd) (s : Shared) (o : Option (β × MH)) : Prop :=
 ∀ r,o = some r -> Brings Y k R t w s r.1 r.2
section
variable {α β γ δ : Type} {C : Cfg} {d e : Nat} {Y : Actv C d e} {k : Kp} {R : Wd -> β -> α -> Prop} {R' : Wd -> δ -> γ -> Prop} {w : Wd} {s : Shared} {t : Sem α} {o : Option (β × MH)} {H : MH}
theorem Nxt.refl (S : St Y k w H s) : Nxt Y k w w H s s := ⟨.refl w,S,.refl s⟩
theorem Nxt.toks (S : St Y k w H s) (n : Nat) : Nxt Y k w w H s { s with toks := n } := ⟨.refl w,S,rfl,rfl⟩
theorem Nxt.trans {w1 w2 : Wd} {H1 H2 : MH} {s1 s2 : Shared} (a : Nxt Y k w w1 H1 s s1) (b : Nxt Y k w1 w2 H2 s1 s2) : Nxt Y k w w2 H2 s s2 := ⟨a.le.trans b.le,b.st,a.same.trans b.same⟩
theorem Ref.none : Ref Y k R t w s none := fun _ h => nos h
theorem Ref.bind {f : β -> MH -> Option (δ × MH)} {g : α -> Sem γ} (h : Ref Y k R t w s o) (hk : ∀ w' a s' r H1,Nxt Y k w w' H1 s s' -> R w' r a -> Ref Y k R' (g a) w' s' (f r H1)) : Ref Y k R' (t >>= g) w s (bnd o f) := by
 intro r' e Q E hq
 cases o with
 | none => exact nos e
 | some p => exact wpAny_bind (h p rfl _ _ fun w' a s' n1 r1 => hk w' a s' p.1 p.2 n1 r1 r' e Q E fun w2 a2 s2 n2 r2 => hq w2 a2 s2 (n1.trans n2) r2)
theorem Ref.pure' {r : β} {a : α} (S : St Y k w H s) (hr : R w r a) : Ref Y k R (pure a : Sem α) w s (some (r,H)) := by
 intro r' e Q E hq
 cases e
 exact wpAny_pure (hq w a s (.refl S) hr)
theorem Ref.alt {o' : Option (β × MH)} (h : Ref Y k R t w s o) (h' : Ref Y k R t w s o') : Ref Y k R t w s (alt o o') := by
 cases o with
 | none => exact h'
 | some p => exact h
theorem Ref.grd {b : Bool} (h : b = true -> Ref Y k R t w s o) : Ref Y k R t w s (grd b o) := by
 cases b with
 | false => exact .none
 | true => exact h rfl
theorem Ref.opt {x : Option γ} {f : γ -> Option (β × MH)} (h : ∀ a,x = some a -> Ref Y k R t w s (f a)) : Ref Y k R t w s (x.bind f) := by
 cases x with
 | none => exact .none
 | some a => exact h a rfl
theorem Ref.omap {x : Option γ} {f : γ -> β × MH} (h : ∀ a,x = some a -> Ref Y k R t w s (some (f a))) : Ref Y k R t w s (x.map f) := by
 cases x with
 | none => exact .none
 | some a => exact h a rfl
theorem Ref.case {x : Option γ} {f : γ -> Option (β × MH)} (h0 : x = Option.none -> Ref Y k R t w s o) (h : ∀ a,x = some a -> Ref Y k R t w s (f a)) : Ref Y k R t w s (Option.casesOn (motive:=fun _ => Option (β × MH)) x o f) := by
 cases x with
 | none => exact h0 rfl
 | some a => exact h a rfl
theorem Ref.val {r : β} (S : St Y k w H s) (h : ∀ (Q : α -> Shared -> Prop) (E : Value -> Shared -> Prop),(∀ a tk,R w r a -> Q a { s with toks := tk }) -> wpAny C.M Y.A t Q E s) : Ref Y k R t w s (some (r,H)) := by
 intro r' e Q E hq
 cases e
 exact h Q E fun a tk hr => hq w a _ (.toks S tk) hr
theorem Ref.stand {p : Pos} (h : Ref Y k R t w s o) : Ref Y k R (standAt p >>= fun _ => t) w s o := fun r e Q E hq => wpAny_bind (wpAny_standAt (h r e Q E hq))
theorem Ref.hold {vs : List Value} (h : Ref Y k R t w s o) : Ref Y k R (holding vs t) w s o := fun r e Q E hq => wpAny_holding (h r e Q E hq)
end
noncomputable abbrev VR (C : Cfg) : Wd -> Val -> Value -> Prop := fun w m v => VRel C w m v
noncomputable abbrev VRS (C : Cfg) : Wd -> List Val -> List Value -> Prop := fun w m v => zab C w m v
noncomputable abbrev EqR {α : Type} : Wd -> α -> α -> Prop := fun _ r a => a = r
structure zdi (C : Cfg) : Prop where
 adK : ∀ id a,C.ad.lookup id = some a -> ∃ o,C.K.lookup a = some o /\ o.cls ≠ .type "tuple"
 adInj : ∀ i j a,C.ad.lookup i = some a -> C.ad.lookup j = some a -> i = j
 low : ∀ b,b < 4 -> ∃ o,C.K.lookup b = some o
noncomputable def GlR (C : Cfg) (p : Str × Val) (rv : Value) : Prop := (∀ w,VRel C w p.2 rv) /\ (nsIn C.K mainGlobals p.1 = some (some rv) \/ (nsIn C.K mainGlobals p.1 = some none /\ p.1 ≠ "__name__" /\ bootBuiltins p.1 = some rv))
noncomputable def GlOk (C : Cfg) (gl : List (Str × Val)) : Prop := ∀ x v,gl.lookup x = some v -> ∃ rv,GlR C (x,v) rv
noncomputable def fuel0 : Nat := 200000
noncomputable def Cfg.cx (C : Cfg) (d : Nat) : Cx := ⟨C.P,fuel0,zaU C.P fuel0 d⟩
noncomputable def NsO (o : Obj) (m : Str -> Option Value) : Prop := ∃ es ep,o.data = .dict es ep /\ StrKeys es /\ ∀ name,nsFind es name = m name
structure Blk (cx : CC) (env : Env) (L : Addr) (k : Kp) (mE : Str -> Option Value) : Prop where
 kind : env.scope.kind = .function
 gl : env.globals = mainGlobals
 bl : env.builtins = builtinsNs
 sc : env.scope.names = cx.sc
 cells : ∀ x,cx.sc.lookup x = some .cell -> ∃ c o v₀,env.cells.lookup x = some c /\ (c,o) ∈ k.ce /\ o.data = .cell v₀
 loc : (env.locals = L /\ mE = k.m) \/ ∃ o,(env.locals,o) ∈ k.ex /\ NsO o mE
inductive VarO (C : Cfg) (w : Wd) (cx : CC) (env : Env) (ce : Led) (mE : Str -> Option Value) (x : Str) (v : Val) : Prop
 | loc (rv : Value) (k : cx.sc.lookup x = some .local) (e : mE x = some rv) (r : VRel C w v rv) : VarO C w cx env ce mE x v
 | cell (rv : Value) (c : Addr) (o : Obj) (k : cx.sc.lookup x = some .cell) (e : env.cells.lookup x = some c) (m : (c,o) ∈ ce) (h : o.data = .cell (some rv)) (r : VRel C w v rv) : VarO C w cx env ce mE x v
theorem VarO.mono {C : Cfg} {w w' : Wd} (l : w.le w') {cx : CC} {env : Env} {ce : Led} {mE : Str -> Option Value} {x : Str} {v : Val} (h : VarO C w cx env ce mE x v) : VarO C w' cx env ce mE x v :=
 VarO.casesOn h (fun rv a b r => .loc rv a b (r.mono l)) (fun rv c o a b m h r => .cell rv c o a b m h (r.mono l))
noncomputable def FrOk (C : Cfg) (w : Wd) (cx : CC) (env : Env) (ce : Led) (mE : Str -> Option Value) (fr : Frame) : Prop :=
 ∀ x i v,zaS cx x = some i -> fr[i]? = some (some v) -> VarO C w cx env ce mE x v
structure Pl {C : Cfg} {d e : Nat} (Y : Actv C d e) (cx : CC) (env : Env) (k : Kp) (mE : Str -> Option Value) (fr : Frame) (w : Wd) (H : MH) (s : Shared) : Prop where
 b : Blk cx env Y.L k mE
 f : FrOk C w cx env k.ce mE fr
 st : St Y k w H s
theorem Pl.next {C : Cfg} {d e : Nat} {Y : Actv C d e} {cx : CC} {env : Env} {k : Kp} {mE : Str -> Option Value} {fr : Frame} {w w' : Wd} {H H' : MH} {s s' : Shared} (p : Pl Y cx env k mE fr w H s) (n : Nxt Y k w w' H' s s') : Pl Y cx env k mE fr w' H' s' :=
 ⟨p.b,fun x i v a b => (p.f x i v a b).mono n.le,n.st⟩
noncomputable def ESnd (C : Cfg) (d : Nat) (cx : CC) (e : Expr) (ir : Ex) : Prop :=
 ∀ (Y : Actv C d 2) (env : Env) (k : Kp) (mE : Str -> Option Value) (fr : Frame) (w : Wd) (H : MH) (s : Shared),Pl Y cx env k mE fr w H s -> Ref Y k (VR C) (PySem.eval e env) w s (eval (C.cx d) ir fr H)
noncomputable def TSnd (C : Cfg) (d : Nat) (cx : CC) (e : Expr) (ir : Ex) : Prop :=
 ∀ (Y : Actv C d 2) (env : Env) (k : Kp) (mE : Str -> Option Value) (fr : Frame) (w : Wd) (H : MH) (s : Shared),Pl Y cx env k mE fr w H s -> Ref Y k EqR (PySem.isTrue e env (PySem.eval e env)) w s (zak (eval (C.cx d) ir fr H))
section
variable {C : Cfg} {d e : Nat} {Y : Actv C d e} {k : Kp} {w : Wd} {H : MH} {s : Shared} {cx : CC} {env : Env} {mE : Str -> Option Value} {fr : Frame}
theorem Sta.kIn {h : Heap} (S : Sta C Y.h₀ Y.L k w H h) : C.K.In h := Y.k.keeps S.fr.keep
theorem Blk.ns (B : Blk cx env Y.L k mE) (S : St Y k w H s) : s.heap.Ns env.locals mE := by
 rcases B.loc with h | ⟨o,ho,es,ep,h⟩
 ·rw [h.1,h.2]; exact S.fr.ns
 ·exact ⟨o,es,ep,S.exAt ho,h⟩
theorem sOkB_s {x : List Nat} (h : sOkB x = true) : sOk x := by
 have h := Bool.and_eq_true_iff.mp h
 exact ⟨fun c hc => Nat.ble_eq.mp (List.all_eq_true.mp h.1 c hc),Nat.ble_eq.mp h.2⟩
theorem snd_const {c : Const} {n : Nat} {pos : Pos} {v : Val} (hc : constV c = some v) : ESnd C d cx (.Constant c n pos) (.lit v) := by
 intro Y env k mE fr w H s p
 refine .val p.st fun Q E q => ?_
 cases c with
 | none => cases hc; exact wpAny_pure (q _ s.toks rfl)
 | bool b => cases hc; exact wpAny_pure (q _ s.toks rfl)
 | int i => cases hc; exact fun _ _ _ => q _ _ ⟨_,rfl⟩
 | str x =>
  obtain ⟨h,e⟩ := gs hc
  cases e
  exact fun _ _ _ => q _ _ ⟨_,by rw [Array.toArray_toList],sOkB_s h⟩
 | _ => exact nos hc
theorem zbZ {x : Str} (h : zae x = true) : (x == ("__debug__" : Str)) = false := by
 have h1 := (Bool.and_eq_true_iff.mp (Bool.and_eq_true_iff.mp (Bool.and_eq_true_iff.mp (Bool.and_eq_true_iff.mp h).1).1).1).2
 cases hx : (x == ("__debug__" : Str)) with
 | false => rfl
 | true => rw [show (x != ("__debug__" : Str)) = !(x == ("__debug__" : Str)) from rfl,hx] at h1; cases h1
theorem Blk.kindOf (B : Blk cx env Y.L k mE) {x : Str} {n : NameKind} (h : cx.sc.lookup x = some n) : env.kindOf x = some n := by unfold Env.kindOf; rw [B.sc]; exact h
theorem snd_var {x : Str} {pos : Pos} {i : Nat} (hx : zae x = true) (hi : zaS cx x = some i) : ESnd C d cx (.Name x pos) (.var i) := by
 intro Y env k mE fr w H s p
 refine .opt fun ov ho => .omap fun v hv => .val p.st fun Q E q => wpAny_Name ?_ (zbZ hx)
 subst hv
 cases p.f x i v hi ho with
 | loc rv hk e r => exact wpAny_loadName_local p.b.kind (p.b.kindOf hk) (p.b.ns p.st) e (q rv s.toks r)
 | cell rv c o hk e m h r => exact wpAny_loadName_cell p.b.kind (p.b.kindOf hk) e ⟨o,p.st.ceAt m,h⟩ (q rv s.toks r)
theorem snd_glob (G : GlOk C cx.gl) {x : Str} {pos : Pos} {v : Val} (hx : zae x = true) (hk : cx.sc.lookup x = some .globalImplicit) (hg : cx.gl.lookup x = some v) : ESnd C d cx (.Name x pos) (.lit v) := by
 intro Y env k mE fr w H s p
 refine .val p.st fun Q E q => ?_
 obtain ⟨rv,hr,hn⟩ := G x v hg
 obtain ⟨_,_,_,mg,mb,T⟩ := Y.top
 have q := q rv s.toks (hr w)
 refine Name_function_global p.b.kind (p.b.kindOf hk) ?_ (zbZ hx)
 have tg := T.g.keeps p.st.fr.keep
 rw [<- p.b.gl] at tg
 rcases hn with hn | ⟨hn,hne,hb⟩
 ·exact loadGlobal_global tg (mg_of Y.k T.g hn) q
 ·have tb := T.b.keeps p.st.fr.keep
  rw [<- p.b.bl] at tb
  exact loadGlobal_builtin tg (mg_none_of Y.k T.g hn) tb ((T.builtins x hne).trans hb) q
theorem zc0 {x : Str} {pos : Pos} {ir : Ex} (G : GlOk C cx.gl) (hc : nameE cx x = some ir) : ESnd C d cx (.Name x pos) ir := by
 obtain ⟨hx,hc⟩ := gs hc
 cases hv : zaS cx x with
 | none =>
  rw [hv] at hc
  obtain ⟨hk,hc⟩ := gs hc
  obtain ⟨v,hv,rfl⟩ := ms hc
  exact snd_glob G hx (beq_iff_eq.mp hk) hv
 | some i =>
  rw [hv] at hc
  cases hc
  exact snd_var hx hv
theorem wp_operate {M : Model} {A : Around} {operands : List Value} {t : Sem Value} {Q : Value -> Shared -> Prop} {E : Value -> Shared -> Prop} (h : wpAny M A t Q E s) : wpAny M A (operate operands t) Q E s := by
 unfold operate
 exact wpAny_bind (wpAny_holding (wpAny_mono h (fun r s' q => wpAny_bind (wpAny_release (wpAny_pure q))) fun _ _ x => x))
theorem Ref.operate {operands : List Value} {t : Sem Value} {o : Option (Val × MH)} (h : Ref Y k (VR C) t w s o) : Ref Y k (VR C) (operate operands t) w s o := fun r e Q E hq => wp_operate (h r e Q E hq)
end
end Mi
namespace Mi
open PySem PySem.W PySem.Calls PyProof.Rows
section
variable {C : Cfg} {d e : Nat} {Y : Actv C d e} {k : Kp} {w : Wd} {H : MH} {s : Shared} {cx : CC} {env : Env} {mE : Str -> Option Value} {fr : Frame}
theorem lim_line : lim <= sizeLine := by decide +kernel
theorem zb2 {n : Nat} (h : n <= lim) : (n : Int) < 2 ^ 63 := Int.lt_of_le_of_lt (Int.ofNat_le.mpr h) (by decide)
theorem Ref.newL {t : Sem Value} {mvs : List Val} {vs : List Value} (S : St Y k w H s) (r : zab C w mvs vs) (hl : mvs.length <= lim)
  (h : ∀ (Q : Value -> Shared -> Prop) (E : Value -> Shared -> Prop) all,News Y.h₀ Y.L s.heap all -> (∀ h' tk,Fr Y.h₀ Y.L h' k.m -> News Y.h₀ Y.L h' ((s.heap.objs.size,listOf vs.toArray 0) :: all) -> Q (.ref s.heap.objs.size) { s with heap := h',toks := tk }) -> wpAny C.M Y.A t Q E s) :
  Ref Y k (VR C) t w s (zbd H (.list mvs)) := by
 intro r' er Q E hq
 cases er
 obtain ⟨all,hn,add,_,_⟩ := S.ledger
 have le : w.le ⟨w.σ ++ [s.heap.objs.size],w.tp⟩ := ⟨List.prefix_append _ _,fun _ x => x⟩
 exact h Q E all hn fun h' tk F N => hq _ _ _ ⟨le,add _ (.list mvs) [_] h' ⟨vs,0,rfl,r.mono le,hl⟩ F N (zbs _) (News.fresh hn fun p hp => List.mem_singleton.mp hp ▸ Nat.le_refl _) (S.four (Nat.le_refl _)),rfl,rfl⟩ ⟨_,rfl,by rw [<- S.len]; exact List.getElem?_concat_length⟩
theorem rep_rel {mvs : List Val} {vs : List Value} (r : zab C w mvs vs) (n : Nat) : zab C w (List.replicate n mvs).flatten (List.replicate n vs).flatten := by
 induction n with
 | zero => exact .nil
 | succ n ih => exact ih.append r
theorem rep_arr {α : Type} (vs : List α) (k : Nat) : ∀ acc : Array α,(List.foldl (fun x1 x2 => x1 ++ x2) acc (List.replicate k vs.toArray)) = acc ++ (List.replicate k vs).flatten.toArray := by
 induction k with
 | zero => intro acc; exact (Array.append_empty).symm
 | succ k ih =>
  intro acc
  refine (ih _).trans ?_
  simp only [List.replicate_succ,List.flatten_cons,Array.append_assoc,List.append_toArray]
theorem rep_nil {α : Type} (n : Nat) (vs : List α) : (List.replicate (if vs.toArray.isEmpty = true then 0 else n) vs).flatten = (List.replicate n vs).flatten := by
 cases vs with
 | nil => simp
 | cons v r => rfl
theorem mem_rep {n : Nat} {s : List Nat} {c : Nat} (h : c ∈ (List.replicate n s).flatten) : c ∈ s := by
 obtain ⟨l,hl,hc⟩ := List.mem_flatten.mp h
 exact (List.mem_replicate.mp hl).2 ▸ hc
theorem len_rep {α : Type} {n : Nat} {s : List α} : (List.replicate n s).flatten.length = s.length * n := by rw [List.length_flatten,List.map_replicate,List.sum_replicate_nat,Nat.mul_comm]
theorem str_app (a b : List Nat) : ((⟨a.toArray⟩ : Str) ++ (⟨b.toArray⟩ : Str)) = ⟨(a ++ b).toArray⟩ := congrArg Str.mk (List.append_toArray a b)
theorem snd_add {x y : Val} {a b : Value} (S : St Y k w H s) (ha : VRel C w x a) (hb : VRel C w y b) : Ref Y k (VR C) (binaryOp .Add a b) w s (addOp H x y) := by
 refine .alt (.opt fun i hi => .opt fun j hj => ?_) (.alt (.opt fun i hi => .opt fun j hj => .grd fun hl => ?_) (.opt fun i hi => .opt fun j hj => .grd fun hl => ?_))
 ·obtain ⟨t,rfl⟩ := ha.int? hi
  obtain ⟨u,rfl⟩ := hb.int? hj
  exact .val S fun Q E q => add_int (q _ _ ⟨_,rfl⟩)
 ·obtain ⟨t,rfl,oa⟩ := ha.str? hi
  obtain ⟨u,rfl,ob⟩ := hb.str? hj
  have hl := Nat.ble_eq.mp hl
  exact .val S fun Q E q => add_str (fun t' tk => q _ tk ⟨t',congrArg (Value.str · t') (str_app i j),fun c hc => (List.mem_append.mp hc).elim (oa.1 c) (ob.1 c),by rw [List.length_append]; exact hl⟩) (Nat.le_trans hl lim_line)
 ·obtain ⟨a1,vs,n,rfl,g1,r1,l1⟩ := S.list ha hi
  obtain ⟨a2,ws,n2,rfl,g2,r2,l2⟩ := S.list hb hj
  have hl := Nat.ble_eq.mp hl
  refine .newL S (r2.append r1) (by rw [List.length_append]; exact hl) fun Q E all hn q => add_arrays S.fr hn ⟨_,g1,rfl,_,rfl⟩ ⟨_,g2,rfl,_,rfl⟩ (fun h' F N => q h' _ F N) ?_
  rw [List.size_toArray,List.size_toArray,<- r1.length,<- r2.length]
  exact Nat.le_trans hl lim_line
theorem zbS {a : Int} {b : Nat} (h : a.natAbs < 2 ^ b) : Builtin.Int.intBits a <= b + 1 := by
 unfold Builtin.Int.intBits
 split
 ·exact Nat.zero_le _
 ·rename_i h0
  exact Nat.le_succ_of_le ((Nat.log2_lt fun e => h0 (by rw [Int.natAbs_eq_zero.mp e]; rfl)).mpr h)
theorem mul_ok {a b : Int} (h : mulOk a b = true) : IntMulOk a b := by
 have h := Bool.and_eq_true_iff.mp h
 have h1 := zbS (Nat.ble_eq.mp h.1)
 have h2 := zbS (Nat.ble_eq.mp h.2)
 unfold IntMulOk
 rw [Bool.and_eq_true,not_and]
 intro _
 unfold Builtin.Int.intTooBig
 rw [decide_eq_true_eq,show bitsLine = 134217728 by decide +kernel]
 omega
theorem repOk_s {l : Nat} {n : Int} (h : repOk l n = true) : n <= 1000000 /\ -1000000 <= n /\ l * n.toNat <= lim := by
 have h := Bool.and_eq_true_iff.mp h
 have h' := Bool.and_eq_true_iff.mp h.1
 exact ⟨of_decide_eq_true h'.1,of_decide_eq_true h'.2,Nat.ble_eq.mp h.2⟩
theorem pylong_no {x y : Int} (h : y.natAbs < divB) : Builtin.divisionGoesByPylong x y = false := by
 unfold Builtin.divisionGoesByPylong
 have : (if (y == 0) = true then 0 else y.natAbs.log2 / 30 + 1) <= 300 := by
  split
  ·omega
  ·rename_i hz
   have := (Nat.log2_lt fun e => hz (by rw [Int.natAbs_eq_zero.mp e]; rfl)).mpr h
   omega
 simp only [Bool.and_eq_false_iff,decide_eq_false_iff_not]
 exact .inl (by omega)
theorem bne_s {b : Int} (h : (b != 0) = true) : ¬ b = 0 := bne_iff_ne.mp h
theorem snd_arith {op : Operator} {o : BOp} (ho : bopOf op = some o) {x y : Int} {t u : Tok} {z : Int} (S : St Y k w H s) (e : arith o x y = some z) : Ref Y k (VR C) (binaryOp op (.int x t) (.int y u)) w s (some (.int z,H)) := by
 refine .val S fun Q E q => ?_
 cases op <;> cases ho
 ·exact nos e
 ·cases e; exact sub_int (q _ _ ⟨_,rfl⟩)
 ·exact nos e
 ·obtain ⟨h,e⟩ := gs e
  cases e; exact mod_int' (bne_s h) (q _ _ ⟨_,rfl⟩)
 ·obtain ⟨h,e⟩ := gs e
  cases e
  have h := Bool.and_eq_true_iff.mp h
  have h' := Bool.and_eq_true_iff.mp h.1
  have h1 := of_decide_eq_true h'.1
  refine pow_int h1 ?_ (q _ _ ⟨_,rfl⟩)
  exact Int.le_trans (Int.mul_le_mul (Int.ofNat_le.mpr (zbS (Nat.ble_eq.mp h.2))) (of_decide_eq_true h'.2) h1 (by decide)) (by decide)
 ·obtain ⟨h,e⟩ := gs e
  cases e
  have h := Bool.and_eq_true_iff.mp h
  exact floordiv_int (bne_s h.1) (q _ _ ⟨_,rfl⟩) (.inl (pylong_no (Nat.ble_eq.mp h.2)))
theorem snd_binop {op : Operator} {o : BOp} (ho : bopOf op = some o) {x y : Val} {a b : Value} (S : St Y k w H s) (ha : VRel C w x a) (hb : VRel C w y b) : Ref Y k (VR C) (binaryOp op a b) w s (binop o x y H) := by
 refine .alt (.opt fun i hi => .opt fun j hj => .omap fun z hz => ?_) ?_
 ·obtain ⟨t,rfl⟩ := ha.int? hi
  obtain ⟨u,rfl⟩ := hb.int? hj
  exact snd_arith ho S hz
 ·cases op <;> cases ho
  ·exact snd_add S ha hb
  ·exact .none
  ·exact .none
  ·exact .none
  ·exact .none
  ·exact .none
theorem snd_bin {l r : Expr} {op : Operator} {pos : Pos} {o : BOp} {il ir : Ex} (ho : bopOf op = some o) (hl : ESnd C d cx l il) (hr : ESnd C d cx r ir) : ESnd C d cx (.BinOp l op r pos) (.bin o il ir) :=
 fun Y env k mE fr w H s p => .bind (hl Y env k mE fr w H s p) fun w1 a1 s1 x H1 n1 r1 => .bind (.hold (hr Y env k mE fr w1 H1 s1 (p.next n1))) fun w2 a2 s2 y H2 n2 r2 => .stand (.operate (snd_binop ho n2.st (r1.mono n2.le) r2))
end
end Mi
namespace Mi
open PySem PySem.W PySem.Calls PyProof.Rows
theorem mapM_s {α β : Type} {f : α -> Option β} {x : α} {l : List α} {r : List β} (h : (x :: l).mapM f = some r) : ∃ y ys,f x = some y /\ l.mapM f = some ys /\ r = y :: ys := by
 rw [List.mapM_cons] at h
 obtain ⟨y,hy,h⟩ := bs h
 obtain ⟨ys,hys,h⟩ := bs h
 exact ⟨y,ys,hy,hys,(Option.some.inj h).symm⟩
inductive RdO (h : Heap) (v : Value) (d : PyData) (k : Nat) : Prop
 | mk (as : List Addr) (r : Reads h v d as) (c : d.canLay0 = true) (l : d.depth <= k) : RdO h v d k
inductive RdsO (h : Heap) (v : List Value) (d : List PyData) (k : Nat) : Prop
 | mk (as : List Addr) (r : ReadsAll h v d as) (c : PyData.canLayAll0 d = true) (l : PyData.depthAll d <= k) : RdsO h v d k
section
variable {C : Cfg} {d e : Nat} {Y : Actv C d e} {k : Kp} {w : Wd} {H : MH} {s : Shared} {cx : CC} {env : Env} {mE : Str -> Option Value} {fr : Frame}
inductive IsT (C : Cfg) (w : Wd) (h : Heap) (v : Value) (mvs : List Val) : Prop
 | mk (a : Addr) (o : Obj) (n : Nat) (vs : List Value) (e : v = .ref a) (g : h.get? a = some o) (c : o.cls = .type "tuple") (dt : o.data = .seq vs.toArray n) (r : zab C w mvs vs) (l : mvs.length <= lim) : IsT C w h v mvs
theorem Sta.tup {h : Heap} (S : Sta C Y.h₀ Y.L k w H h) {mvs : List Val} {v : Value} (hv : VRel C w (.tup mvs) v) : IsT C w h v mvs :=
 TupO.casesOn hv fun a o n vs e q r l => ⟨a,o,n,vs,e,q.1.elim S.tpAt (S.kIn _ _),q.2,q.3,r,l⟩
theorem reads_all {n : Nat} {h : Heap} (ih : ∀ v rv dt,VRel C w v rv -> toD H n v = some dt -> RdO h rv dt n) :
  ∀ {mvs : List Val} {vs : List Value} {ds : List PyData},zab C w mvs vs -> mvs.mapM (toD H n) = some ds -> RdsO h vs ds n := by
 intro mvs
 induction mvs with
 | nil => intro vs ds h e; cases h; cases e; exact ⟨[],.nil,rfl,Nat.zero_le _⟩
 | cons m mvs ih' =>
  intro vs ds h e
  obtain ⟨y,ys,e1,e2,rfl⟩ := mapM_s e
  obtain ⟨v,r,rfl,h,h'⟩ := h
  obtain ⟨as,r1,c1,d1⟩ := ih _ _ _ h e1
  obtain ⟨bs,r2,c2,d2⟩ := ih' h' e2
  exact ⟨as ++ bs,.cons r1 r2,Bool.and_eq_true_iff.mpr ⟨c1,c2⟩,Nat.max_le.mpr ⟨d1,d2⟩⟩
theorem zb8 {h : Heap} (S : Sta C Y.h₀ Y.L k w H h) : ∀ (n : Nat) (v : Val) (rv : Value) (dt : PyData),VRel C w v rv -> toD H n v = some dt -> RdO h rv dt n := by
 have flat : ∀ (n : Nat) (v : Val) (rv : Value) (dt : PyData),VRel C w v rv -> toD H 0 v = some dt -> RdO h rv dt n := by
  intro n v rv dt hv e
  cases v with
  | none => cases e; cases hv; exact ⟨[],.none,rfl,Nat.zero_le _⟩
  | bool b => cases e; cases hv; exact ⟨[],.bool b,rfl,Nat.zero_le _⟩
  | int i => cases e; obtain ⟨t,rfl⟩ := hv; exact ⟨[],.int i t,rfl,Nat.zero_le _⟩
  | str x => cases e; obtain ⟨t,rfl,ok⟩ := hv; exact ⟨[],.str _ t,by simpa [PyData.canLay0,PyData.strOk] using ok.1,Nat.zero_le _⟩
  | _ => exact nos e
 intro n
 induction n with
 | zero => exact flat 0
 | succ n ih =>
  intro v rv dt hv e
  cases v with
  | tup vs =>
   obtain ⟨ds,e1,rfl⟩ := ms e
   obtain ⟨a,o,n',ws,rfl,g,hc,hd,r,_⟩ := S.tup hv
   obtain ⟨as,ra,c1,d1⟩ := reads_all ih r e1
   exact ⟨as,.tuple g hc hd ra,c1,Nat.succ_le_succ d1⟩
  | ref i =>
   obtain ⟨vs,hl,e⟩ := bs e
   obtain ⟨ds,e1,rfl⟩ := ms e
   obtain ⟨a,ws,n',rfl,g,r,_⟩ := S.list hv hl
   obtain ⟨as,ra,c1,d1⟩ := reads_all ih r e1
   exact ⟨a :: as,.list g rfl rfl ra,c1,Nat.succ_le_succ d1⟩
  | none => exact flat _ _ _ _ hv e
  | bool b => exact flat _ _ _ _ hv e
  | int i => exact flat _ _ _ _ hv e
  | str x => exact flat _ _ _ _ hv e
  | _ => exact nos e
theorem Actv.u (Y : Actv C d e) {n : Nat} (h : n <= 180) : Y.A.units + n < 9900 := Nat.lt_of_lt_of_le (Nat.add_lt_add_left (Nat.lt_of_le_of_lt h (by decide : 180 < 190)) _) (Nat.le_trans (Nat.le_trans (Nat.add_le_add_right (Nat.le_add_right _ (20 * d)) 190) (Nat.le_add_right _ _)) Y.units)
theorem snd_eqAt (S : St Y k w H s) {x y : Val} {vx vy : Value} {r : Bool} (hx : VRel C w x vx) (hy : VRel C w y vy) (e : veqD H x y = some r) : SeqAt.EqAt Y.A.in1 s vx vy r := by
 obtain ⟨dx,e1,e⟩ := bs e
 obtain ⟨dy,e2,rfl⟩ := ms e
 obtain ⟨_,r1,c1,d1⟩ := zb8 S 8 x vx dx hx e1
 obtain ⟨_,r2,c2,d2⟩ := zb8 S 8 y vy dy hy e2
 refine SeqAt.eqAt_reads dx dy Y.A.in1 s vx vy _ _ r1 r2 c1 c2 ?_
 show Y.A.units + 1 + min _ _ < 9900
 rw [Nat.add_assoc]
 exact Y.u (by omega)
noncomputable def EqW {C : Cfg} {d e : Nat} (Y : Actv C d e) (s : Shared) (vx vy : Value) (r : Bool) : Prop :=
 ∀ (Q : Value -> Shared -> Prop) (E : Value -> Shared -> Prop),(Q (.bool r) s -> wpAny C.M Y.A (compareOp .Eq vx vy) Q E s) /\ (Q (.bool (!r)) s -> wpAny C.M Y.A (compareOp .NotEq vx vy) Q E s)
theorem snd_eqD (S : St Y k w H s) {x y : Val} {vx vy : Value} {r : Bool} (hx : VRel C w x vx) (hy : VRel C w y vy) (e : veqD H x y = some r) : EqW Y s vx vy r := by
 obtain ⟨dx,e1,e⟩ := bs e
 obtain ⟨dy,e2,rfl⟩ := ms e
 obtain ⟨_,r1,c1,d1⟩ := zb8 S 8 x vx dx hx e1
 obtain ⟨_,r2,c2,d2⟩ := zb8 S 8 y vy dy hy e2
 have hu : Y.A.units + min dx.depth dy.depth < 9900 := Y.u (by omega)
 exact fun Q E => ⟨SeqAt.compareEq_reads r1 r2 c1 c2 hu,SeqAt.compareNe_reads r1 r2 c1 c2 hu⟩
end
noncomputable def Atom.dat (a : Atom) : PyData := Atom.casesOn (motive:=fun _ => PyData) a .int .str
theorem zcV (h : MH) (k : Nat) (a : Atom) : toD h k a.val = some a.dat := by cases a <;> cases k <;> rfl
theorem eqv_atom (a b : Atom) : PyData.eqv a.dat b.dat = decide (a = b) := by
 cases a with
 | i x =>
  cases b with
  | i y => show (x == y) = _; rw [Bool.eq_iff_iff,beq_iff_eq,decide_eq_true_eq,Atom.i.injEq]
  | s y => rfl
 | s x =>
  cases b with
  | i y => rfl
  | s y => show (x == y) = _; rw [Bool.eq_iff_iff,beq_iff_eq,decide_eq_true_eq,Atom.s.injEq]
theorem mapM_atoms (h : MH) (k : Nat) (as : List Atom) : (as.map Atom.val).mapM (toD h k) = some (as.map Atom.dat) := by
 induction as with
 | nil => rfl
 | cons a r ih => rw [List.map_cons,List.mapM_cons,zcV,ih]; rfl
theorem eqvAll_atoms (as : List Atom) : ∀ bs : List Atom,PyData.eqvAll (as.map Atom.dat) (bs.map Atom.dat) = decide (as = bs) := by
 induction as with
 | nil => intro bs; cases bs <;> rfl
 | cons a x ih =>
  intro bs
  cases bs with
  | nil => rfl
  | cons b y =>
   show (PyData.eqv a.dat b.dat && PyData.eqvAll (x.map Atom.dat) (y.map Atom.dat)) = _
   rw [eqv_atom,ih,<- Bool.decide_and,decide_eq_decide,List.cons.injEq]
theorem kEq_atom (a b : Atom) : kEq a.val b.val = decide (a = b) := by
 unfold kEq veqD
 rw [zcV,zcV]
 exact eqv_atom a b
theorem kEq_tup (as bs : List Atom) : kEq (.tup (as.map Atom.val)) (.tup (bs.map Atom.val)) = decide (as = bs) := by
 have e : ∀ l : List Atom,toD [] 8 (.tup (l.map Atom.val)) = some (.tuple (l.map Atom.dat)) := fun l => congrArg (Option.map PyData.tuple) (mapM_atoms [] 7 l)
 unfold kEq veqD
 rw [e,e]
 exact eqvAll_atoms as bs
theorem key_atom {v : Val} (h : zbJ v = true) : ∃ a : Atom,v = a.val := by
 cases v with
 | int n => exact ⟨.i n,rfl⟩
 | str x => exact ⟨.s ⟨x.toArray⟩,rfl⟩
 | _ => cases h
theorem zbh (a : Atom) : zaA a.val = 1 := by cases a <;> rfl
theorem key_atoms {vs : List Val} (h : vs.all zbJ = true) : ∃ as : List Atom,vs = as.map Atom.val := by
 induction vs with
 | nil => exact ⟨[],rfl⟩
 | cons v r ih =>
  have h := Bool.and_eq_true_iff.mp h
  obtain ⟨a,rfl⟩ := key_atom h.1
  obtain ⟨as,rfl⟩ := ih h.2
  exact ⟨a :: as,rfl⟩
theorem all_atoms (as : List Atom) : (as.map Atom.val).all zbJ = true := by
 induction as with
 | nil => rfl
 | cons a r ih => exact Bool.and_eq_true_iff.mpr ⟨by cases a <;> rfl,ih⟩
theorem zbx (as : List Atom) : zaA (.tup (as.map Atom.val)) = 3 := by
 show (bif (as.map Atom.val).all zbJ then 3 else 0) = 3
 rw [all_atoms]; rfl
theorem zcp {v : Val} (h : (zaA v != 0) = true) : (∃ a : Atom,v = a.val) \/ ∃ as : List Atom,v = .tup (as.map Atom.val) := by
 unfold zaA at h
 cases ha : zbJ v with
 | true => exact .inl (key_atom ha)
 | false =>
  rw [ha] at h
  cases ht : v.tup? with
  | none => rw [ht] at h; cases h
  | some vs =>
   cases tup?_s ht
   cases hal : vs.all zbJ with
   | true => obtain ⟨as,rfl⟩ := key_atoms hal; exact .inr ⟨as,rfl⟩
   | false =>
    have h' : ((bif vs.all zbJ then 3 else 0 : Nat) != 0) = true := h
    rw [hal] at h'; cases h'
section
variable {prog : Program} {w : World} {Kk : Type} [DecidableEq Kk] {knd : KeyKind prog w Kk} {A : Around} {E : Value -> Shared -> Prop} {s : Shared}
theorem wp_dictSet {d : Addr} {es : List DictEntry} {ep : Nat} {kvs : List (Kk × Value)} {k : Kk} {key v : Value} {Q : Unit -> Shared -> Prop} (hkey : knd.is k key = true) (ho : s.heap.get? d = some (dictOf es ep)) (hk : KeysOf knd es.toArray) (hp : Pairs knd es kvs) (hn : (kvs.map (·.1)).Nodup) (hsz : es.length <= sizeLine)
  (h : ∀ (es' : List DictEntry) (f : Obj -> Obj),f (dictOf es ep) = dictOf es' (if kvs.any (fun kv => kv.1 = k) then ep else ep + 1) -> KeysOf knd es'.toArray -> Pairs knd es' (stored kvs k v) -> ((stored kvs k v).map (·.1)).Nodup ->
   Q () { s with heap := s.heap.update d f,toks := s.toks + 1 }) : wpAny (model prog w) A (dictSet d key v) Q E s := by
 unfold dictSet
 try with_reducible refine wpAny_holding ?_
 refine wpAny_bind (knd.pyHash hkey ?_)
 unfold dictSetHashed
 try with_reducible refine wpAny_holding ?_
 refine wpAny_bind (wpAny_dictFind_of (s:={ s with toks := s.toks + 1 }) hkey ho rfl hk ?_)
 have hidx : (es.toArray.findIdx? fun e => knd.is k e.key) = kvs.findIdx? fun kv => decide (kv.1 = k) := by
  rw [<- hp.findIdx k]; simp
 cases hi : es.toArray.findIdx? fun e => knd.is k e.key with
 | some i =>
  have hany := any_of_findIdx_some (hidx ▸ hi)
  have hl : (es.findIdx? fun e => knd.is k e.key) = some i := by rw [<- hi]; simp
  have hst : stored kvs k v = kvs.map (fun kv => if kv.1 = k then (kv.1,v) else kv) := by rw [stored,if_pos hany]
  refine wpAny_bind (wpAny_rule (wpAny_bind (wpAny_updateDict (s:={ s with toks := s.toks + 1 }) ho rfl (wpAny_point ?_))))
  refine h (es.modify i fun e => { e with val := v }) _ ?_ ?_ ?_ ?_
  ·rw [if_pos hany]; simp [dictOf,Obj.mapDict]
  ·have := hk.modify i v; simpa using this
  ·rw [hst]; exact hp.modify hn hl v
  ·rw [hst,keys_map_store]; exact hn
 | none =>
  have hnot : k ∉ kvs.map (·.1) := not_mem_of_findIdx_none (hidx ▸ hi)
  have hany : ¬ (kvs.any fun kv => decide (kv.1 = k)) = true := by
   rw [List.any_eq_true]; rintro ⟨kv,hkv,he⟩
   exact hnot (List.mem_map.mpr ⟨kv,hkv,of_decide_eq_true he⟩)
  have hst : stored kvs k v = kvs ++ [(k,v)] := by rw [stored,if_neg hany]
  refine wpAny_bind (wpAny_rule (wpAny_updateDictKeys (hz:=by simpa using hsz) (s:={ s with toks := s.toks + 1 }) ho rfl ?_))
  refine h (es ++ [⟨knd.hash k,key,v⟩]) _ ?_ ?_ ?_ ?_
  ·rw [if_neg hany]; simp [dictOf,Obj.mapDictKeys]
  ·have := hk.push hkey v; simpa using this
  ·rw [hst]; exact hp.append hkey (knd.hash k) v
  ·rw [hst,List.map_append,List.nodup_append]
   refine ⟨hn,List.nodup_cons.mpr ⟨List.not_mem_nil,.nil⟩,?_⟩
   intro a ha b hb
   rw [List.mem_singleton.mp hb]
   exact fun e => hnot (show k ∈ _ from (show a = k from e) ▸ ha)
theorem zcR {d : Addr} {key v : Value} {Q : Unit -> Shared -> Prop} (hT : s.TypeIs (.ref d) "dict") (h : wpAny (model prog w) A.in1 (dictSet d key v) Q E s) : wpAny (model prog w) A (setItem (.ref d) key v) Q E s := by
 unfold setItem
 try with_reducible refine wpAny_holding ?_
 refine wpAny_bind (wpAny_sequenceKey hT (by decide) ?_)
 refine wpAny_bind (wpAny_callSpecial?_slot (name:=Str.ofString "__setitem__") hT slot_dict_setitem
  (wpAny_call_entry slot_dict_setitem hT entry_dict_setitem ?_ (args_dict_setitem _ _ _)))
 show wpAny _ _ (Builtin.Dict.notOrdered "__setitem__" ⟨[.ref d,key,v],[]⟩ >>= _) _ _ s
 refine wpAny_bind (wpAny_notOrdered_dict hT ?_)
 show wpAny _ _ (dictSet d key v >>= _) _ _ s
 exact wpAny_bind (wpAny_mono h (fun _ s' q => wpAny_pure ⟨.none,rfl,wpAny_pure q⟩) fun _ _ e => e)
end
section
variable {prog : Program} {w : World} {Kk : Type} [DecidableEq Kk] {knd : HeapKind prog w Kk} {A : Around} {E : Value -> Shared -> Prop} {s : Shared}
theorem wp_dictSetH {d a : Addr} {ep : Nat} {xs : List (Kk × Addr × Value)} {k : Kk} {v : Value} {Q : Unit -> Shared -> Prop} (hu : knd.room A) (hkey : knd.is s.heap k a) (ho : s.heap.get? d = some (dictOf (xs.map (entryOfKey knd)) ep)) (his : ∀ x ∈ xs,knd.is s.heap x.1 x.2.1) (hn : (xs.map (·.1)).Nodup) (hsz : xs.length <= sizeLine)
  (h : ∀ (f : Obj -> Obj),f (dictOf (xs.map (entryOfKey knd)) ep) = dictOf ((storedH xs k a v).map (entryOfKey knd)) (if (atKey xs k).isSome then ep else ep + 1) -> ((storedH xs k a v).map (·.1)).Nodup ->
   Q () { s with heap := s.heap.update d f,toks := s.toks + knd.draws k }) : wpAny (model prog w) A (dictSet d (.ref a) v) Q E s := by
 have he : ((xs.map (entryOfKey knd)).toArray).toList = xs.map (entryOfKey knd) := rfl
 unfold dictSet
 try with_reducible refine wpAny_holding ?_
 refine wpAny_bind (knd.pyHash hu hkey ?_)
 unfold dictSetHashed
 try with_reducible refine wpAny_holding ?_
 refine wpAny_bind (wpAny_dictFind_heap (s:={ s with toks := s.toks + knd.draws k }) hu hkey ho rfl he his hn ?_ ?_)
 ·intro hno
  have hnot : k ∉ xs.map (·.1) := not_mem_keys_of_get hno
  refine wpAny_bind (wpAny_rule (wpAny_updateDictKeys (hz:=by have e := size_of_entries he; omega) (s:={ s with toks := s.toks + knd.draws k }) ho rfl ?_))
  refine h _ ?_ ?_
  ·rw [storedH_new (atKey_none_of_get hno),atKey_none_of_get hno]
   simp [dictOf,Obj.mapDictKeys,entryOfKey]
  ·rw [storedH_new (atKey_none_of_get hno),List.map_append,List.nodup_append]
   refine ⟨hn,List.nodup_cons.mpr ⟨List.not_mem_nil,.nil⟩,?_⟩
   intro x hx y hy
   rw [List.mem_singleton.mp hy]
   exact fun e => hnot (show k ∈ _ from (show x = k from e) ▸ hx)
 ·intro j p hj
  refine wpAny_bind (wpAny_rule (wpAny_bind (wpAny_updateDict (s:={ s with toks := s.toks + knd.draws k }) ho rfl (wpAny_point ?_))))
  refine h _ ?_ ?_
  ·rw [storedH_old (atKey_of_get hn hj),atKey_of_get hn hj]
   have := modify_map_putAt (entryOfKey knd) (fun e : DictEntry => { e with val := v }) k v (fun _ _ => rfl) hn hj
   rw [<- this]
   simp [dictOf,Obj.mapDict]
  ·rw [storedH_old (atKey_of_get hn hj),keys_map_putAt]; exact hn
end
section
variable {C : Cfg} {d e : Nat} {Y : Actv C d e} {k : Kp} {w : Wd} {H : MH} {s : Shared} {cx : CC} {env : Env} {mE : Str -> Option Value} {fr : Frame}
theorem VRel.atom {a : Atom} {v : Value} (h : VRel C w a.val v) : a.is v = true /\ a.ok := by
 cases a with
 | i n => obtain ⟨t,rfl⟩ := h; exact ⟨beq_self_eq_true n,trivial⟩
 | s x => obtain ⟨t,rfl,ok⟩ := h; exact ⟨beq_self_eq_true x,ok⟩
theorem zab.items {as : List Atom} : ∀ {vs : List Value},zab C w (as.map Atom.val) vs -> ItemsAre (zay C.prog C.w) as vs := by
 induction as with
 | nil => intro vs h; cases h; exact .nil
 | cons a r ih => intro vs h; obtain ⟨v,t,rfl,h1,h2⟩ := h; exact .cons h1.atom.1 (ih h2)
theorem Sta.tupKey {h : Heap} (S : Sta C Y.h₀ Y.L k w H h) {as : List Atom} {v : Value} (hv : VRel C w (.tup (as.map Atom.val)) v) : ∃ t,v = .ref t /\ IsTupleKey (zay C.prog C.w) h as t := by
 obtain ⟨t,o,n,ws,e,ho,hc,hd,rr,hl⟩ := S.tup hv
 exact ⟨t,e,o,ws.toArray,n,ho,hc,hd,rr.items⟩
theorem nd_mid {a : Addr} {o : Obj} {pre post : Led} (h : Led.nd (pre ++ ([(a,o)] ++ post))) : ∀ q ∈ pre ++ post,q.1 ≠ a :=
 fun q hq e => (List.nodup_cons.mp (Led.nd.perm (List.perm_middle (a:=(a,o)) (l₁:=pre) (l₂:=post)) h)).1 (List.mem_map.mpr ⟨q,hq,e⟩)
theorem Sta.upd (S : St Y k w H s) {i : Nat} {a : Addr} {o o' : MObj} {ob' : Obj} {h' : Heap} (ha : w.σ[i]? = some a) (ho : H[i]? = some o) (hen : ∀ en,ORel C w a o en -> ∃ ob,en = [(a,ob)])
  (hs : Heap.SameBut a s.heap h') (hg : h'.get? a = some ob') (hr' : ORel C w a o' [(a,ob')]) : Sta C Y.h₀ Y.L k w (H.set i o') h' := by
 obtain ⟨pre,en,post,hr,hn,hd,g⟩ := S.at ha ho
 obtain ⟨ob1,rfl⟩ := hen en hr
 have hm := hn (a,ob1) (List.mem_append_right _ (.head _))
 have hne := nd_mid hd
 refine g o' [(a,ob')] h' rfl hr' ⟨S.fr.ns.sameBut hs (Ne.symm hm.2.1),fun c x e => (hs.2 c (fun q => ?_)).trans (S.fr.keep c x e),S.fr.above⟩ ?_
 ·rw [q,hm.2.2] at e; cases e
 ·intro p hp
  rcases List.mem_append.mp hp with hp | hp
  ·have := hn p (List.mem_append_left _ hp)
   exact ⟨(hs.2 p.1 (hne p (List.mem_append_left _ hp))).trans this.1,this.2⟩
  ·rcases List.mem_append.mp hp with hp | hp
   ·rw [List.mem_singleton.mp hp]
    exact ⟨hg,hm.2⟩
   ·have := hn p (List.mem_append_right _ (List.mem_append_right _ hp))
    exact ⟨(hs.2 p.1 (hne p (List.mem_append_right _ hp))).trans this.1,this.2⟩
inductive IsD {C : Cfg} {d e : Nat} (Y : Actv C d e) (k : Kp) (w : Wd) (H : MH) (s : Shared) (i : Nat) (v : Value) (p : Option Nat × List (Val × Val)) : Prop
 | mk (a : Addr) (n : Nat) (es : List DictEntry) (e : v = .ref a) (m : (a == sysModules) = false) (hep : ∀ x,p.1 = some x -> n = x) (g : s.heap.get? a = some (dictOf es n)) (r : DRel C w p.2 es) (l : p.2.length <= lim)
   (upd : ∀ h' o' ob',Heap.SameBut a s.heap h' -> h'.get? a = some ob' -> ORel C w a o' [(a,ob')] -> Sta C Y.h₀ Y.L k w (H.set i o') h') : IsD Y k w H s i v p
theorem Sta.dictI (S : St Y k w H s) {i : Nat} {v : Value} {p : Option Nat × List (Val × Val)} (hv : VRel C w (.ref i) v) (ho : H[i]?.bind MObj.dict? = some p) : IsD Y k w H s i v p := by
 obtain ⟨o,hi,h2⟩ := bs ho
 cases dict?_s h2
 obtain ⟨a,e,ha⟩ := hv
 obtain ⟨pre,en,post,⟨es,n,rfl,hep,dr,l⟩,hn,_,_⟩ := S.at ha hi
 refine ⟨a,n,es,e,beq_eq_false_iff_ne.mpr fun q => absurd (S.lo a (List.mem_of_getElem? ha)) (by rw [q]; decide),hep,(hn (a,_) (List.mem_append_right _ (.head _))).1,dr,l,fun h' o' ob' g2 g3 g4 => S.upd ha hi (fun en h => ?_) g2 g3 g4⟩
 obtain ⟨_,_,rfl,_,_,_⟩ := h
 exact ⟨_,rfl⟩
theorem Sta.dict (S : St Y k w H s) {x : Val} {v : Value} {p : Option Nat × List (Val × Val)} (hv : VRel C w x v) (ho : zbv H x = some p) : ∃ i,x = .ref i /\ IsD Y k w H s i v p := by
 obtain ⟨i,e,h1⟩ := bs ho
 cases ref?_s e
 exact ⟨i,rfl,S.dictI hv h1⟩
theorem len_e {α : Type} {mes : List (Val × Val)} {f : α -> Val} {l : List α} (e : mes.map (·.1) = l.map f) : mes.length = l.length := by
 have := congrArg List.length e
 rwa [List.length_map,List.length_map] at this
theorem DA.nil : DA C w [] [] [] := ⟨.nil,fun e he => absurd he (by simp),.nil,rfl,fun _ h => absurd h List.not_mem_nil,.nil⟩
theorem DT.nil : DT C w [] [] [] := ⟨rfl,.nil,fun _ h => absurd h List.not_mem_nil,rfl,.nil⟩
theorem fits_kind {mes : List (Val × Val)} {x : Val} {p : Val × Val} {r : List (Val × Val)} (hf : zat mes x = true) (e : mes = p :: r) : zaA p.1 = zaA x := by
 subst e
 exact Option.some.inj (beq_iff_eq.mp (Bool.and_eq_true_iff.mp hf).2)
theorem DRel.atom {mes : List (Val × Val)} {es : List DictEntry} {a : Atom} (hf : zat mes a.val = true) (h : DRel C w mes es) : ∃ kvs,DA C w mes es kvs := by
 rcases h with h | ⟨xs,D⟩
 ·exact h
 ·cases mes with
  | nil =>
   have := D.e
   cases xs with
   | nil => rw [D.es]; exact ⟨[],.nil⟩
   | cons _ _ => cases this
  | cons p r =>
   have e := D.e
   cases xs with
   | nil => cases e
   | cons x xs =>
    have := fits_kind hf rfl
    rw [show p.1 = .tup (x.1.map Atom.val) from (List.cons.inj e).1,zbx,zbh] at this
    cases this
theorem DRel.tups {mes : List (Val × Val)} {es : List DictEntry} {as : List Atom} (hf : zat mes (.tup (as.map Atom.val)) = true) (h : DRel C w mes es) : ∃ xs,DT C w mes es xs := by
 rcases h with ⟨kvs,D⟩ | h
 ·cases mes with
  | nil =>
   have := D.e
   cases kvs with
   | nil => have p := D.p; cases p; exact ⟨[],.nil⟩
   | cons _ _ => cases this
  | cons p r =>
   have e := D.e
   cases kvs with
   | nil => cases e
   | cons x kvs =>
    have := fits_kind hf rfl
    rw [show p.1 = x.1.val from (List.cons.inj e).1,zbx,zbh] at this
    cases this
 ·exact h
theorem DA.dictOf {mes : List (Val × Val)} {es : List DictEntry} {kvs : List (Atom × Value)} {a n : Nat} {h : Heap} (D : DA C w mes es kvs) (hg : h.get? a = some (W.dictOf es n)) : h.DictOf (zay C.prog C.w) a kvs :=
 ⟨_,es.toArray,n,hg,⟨rfl,rfl,rfl⟩,rfl,D.k,D.p,D.n⟩
theorem DT.keys {h : Heap} (S : Sta C Y.h₀ Y.L k w H h) {mes : List (Val × Val)} {es : List DictEntry} {xs : List (List Atom × Addr × Value)} (D : DT C w mes es xs) : ∀ x ∈ xs,IsTupleKey (zay C.prog C.w) h x.1 x.2.1 := fun x hx => by
 obtain ⟨t,e,q⟩ := S.tupKey (D.v x hx)
 cases e; exact q
theorem DT.dictOf {h : Heap} (S : Sta C Y.h₀ Y.L k w H h) {mes : List (Val × Val)} {es : List DictEntry} {xs : List (List Atom × Addr × Value)} {b n : Nat} (D : DT C w mes es xs) (hg : h.get? b = some (W.dictOf es n)) : h.DictOfH (tupleKind (zay C.prog C.w)) b xs :=
 ⟨_,_,n,D.es ▸ hg,⟨rfl,rfl,rfl⟩,rfl,rfl,D.keys S,D.n⟩
noncomputable def GetO (C : Cfg) (w : Wd) (m : Option Val) (v : Option Value) : Prop := (m = none /\ v = none) \/ ∃ mv rv,m = some mv /\ v = some rv /\ VRel C w mv rv
theorem get_sides {α : Type} [DecidableEq α] {mk : α -> Val} (hmk : ∀ a b,kEq (mk a) (mk b) = decide (a = b)) (k : α) : ∀ {kvs : List (α × Value)} {mes : List (Val × Val)},mes.map (·.1) = kvs.map (fun p => mk p.1) -> zab C w (mes.map (·.2)) (kvs.map (·.2)) -> GetO C w (dget mes (mk k)) (valueAt kvs k) := by
 intro kvs
 induction kvs with
 | nil => intro mes e r; rw [List.map_eq_nil_iff.mp e]; exact .inl ⟨rfl,rfl⟩
 | cons y kvs ih =>
  intro mes e r
  cases mes with
  | nil => cases e
  | cons x mes =>
   obtain ⟨e1,e2⟩ := List.cons.inj e
   obtain ⟨v,t,ev,h,r⟩ := r
   obtain ⟨rfl,rfl⟩ := List.cons.inj ev
   have ih := ih e2 r
   unfold dget valueAt at ih ⊢
   rw [List.find?_cons,List.find?_cons,show x.1 = mk y.1 from e1,hmk]
   cases hk : decide (y.1 = k) with
   | true => exact .inr ⟨_,_,rfl,rfl,h⟩
   | false => exact ih
theorem GetO.isSome {m : Option Val} {v : Option Value} (h : GetO C w m v) : m.isSome = v.isSome := by
 rcases h with ⟨rfl,rfl⟩ | ⟨_,_,rfl,rfl,_⟩ <;> rfl
theorem DA.get {mes : List (Val × Val)} {es : List DictEntry} {kvs : List (Atom × Value)} (D : DA C w mes es kvs) (k : Atom) : GetO C w (dget mes k.val) (valueAt kvs k) := get_sides kEq_atom k D.e D.r
theorem DT.sides {mes : List (Val × Val)} {es : List DictEntry} {xs : List (List Atom × Addr × Value)} (D : DT C w mes es xs) : mes.map (·.1) = (kvsOf xs).map (fun p => Val.tup (p.1.map Atom.val)) /\ zab C w (mes.map (·.2)) ((kvsOf xs).map (·.2)) := by
 refine ⟨?_,?_⟩
 ·rw [D.e]; simp [kvsOf]
 ·have := D.r
  simpa [kvsOf,Function.comp_def] using this
theorem DT.get {mes : List (Val × Val)} {es : List DictEntry} {xs : List (List Atom × Addr × Value)} (D : DT C w mes es xs) (k : List Atom) : GetO C w (dget mes (.tup (k.map Atom.val))) ((atKey xs k).map (·.2)) := by
 rw [<- valueAt_kvsOf]
 exact get_sides (mk:=fun as : List Atom => Val.tup (as.map Atom.val)) kEq_tup k D.sides.1 D.sides.2
theorem Actv.room (Y : Actv C d e) : (tupleKind (zay C.prog C.w)).room Y.A.in1 := tupleKind_room_in1 (Y.u (by decide))
end
end Mi
namespace Mi
open PySem PySem.W PySem.Calls PyProof.Rows
section
variable {prog : Program} {w : World} {K : Type} [DecidableEq K] {knd : HeapKind prog w K} {A : Around} {E : Value -> Shared -> Prop} {s : Shared}
theorem zbu {nm : String} {a b : Addr} {xa xb : List (K × Addr × Value)} {r : Bool} {Q : Bool -> Shared -> Prop} (ha : (a == sysModules) = false) (hb : (b == sysModules) = false) (hu : knd.room A)
  (da : s.heap.DictOfH knd a xa) (db : s.heap.DictOfH knd b xb) (hits : xa.length = xb.length -> KeqHits A s (kvsOf xb) (kvsOf xa) r) (h : Q (xa.length == xb.length && r) s) :
  wpAny (model prog w) A (Builtin.Dict.samePairs nm a b) Q E s := by
 obtain ⟨oa,es,ep,hoa,_,hda,hea,hia,hna⟩ := da
 obtain ⟨ob,es',ep',hob,_,hdb,heb,hib,hnb⟩ := db
 have hla : xa.length = es.size := (size_of_entries hea).symm
 have hlb : xb.length = es'.size := (size_of_entries heb).symm
 rw [hla,hlb] at h
 unfold Builtin.Dict.samePairs Builtin.Dict.showsAll
 rw [if_neg (show ¬ (a == sysModules) = true by rw [ha]; exact Bool.false_ne_true),if_neg (show ¬ (b == sysModules) = true by rw [hb]; exact Bool.false_ne_true)]
 refine wpAny_bind (wpAny_pure (wpAny_bind (wpAny_pure ?_)))
 refine wpAny_bind (wpAny_dictEntries hoa hda ?_)
 dsimp only
 refine wpAny_bind (wpAny_dictEntries hob hdb ?_)
 by_cases hsz : es.size = es'.size
 case neg =>
  rw [if_pos (by simpa using hsz)]
  have hbf : (es.size == es'.size) = false := by simpa using hsz
  rw [hbf,Bool.false_and] at h
  exact wpAny_bind (wpAny_rule (wpAny_pure h))
 case pos =>
  have h' : Q r s := by simpa [hsz] using h
  have hits' := hits (by rw [hla,hlb]; exact hsz)
  rw [if_neg (by rw [hsz]; simp)]
  refine wpAny_bind (wpAny_dictEpoch hoa hda ?_)
  refine wpAny_bind ?_
  rw [Std.Legacy.Range.forIn_eq_forIn_range']
  simp only [Std.Legacy.Range.size,Nat.sub_zero,Nat.add_sub_cancel,Nat.div_one]
  refine wpAny_forIn_list _
   (fun rest q s' => s' = s /\ q = (none,()) /\ ∃ i,rest = List.range' i (es.size - i) /\ i <= es.size /\ KeqHits A s (kvsOf xb) ((kvsOf xa).drop i) r)
   _ ?_ ?_ _ _ ⟨rfl,rfl,0,by simp,Nat.zero_le _,hits'⟩
  ·rintro x rest q s' ⟨rfl,rfl,i,hr,hi,hpre⟩
   have hlt : i < es.size := by
    rcases Nat.lt_or_ge i es.size with h | h
    ·exact h
    ·rw [Nat.sub_eq_zero_of_le h] at hr; simp at hr
   obtain ⟨rfl,hrest⟩ : x = i /\ rest = List.range' (i + 1) (es.size - (i + 1)) := by
    have e : es.size - i = (es.size - (i + 1)) + 1 := by omega
    rw [e,List.range'_succ] at hr
    injection hr with h1 h2
    exact ⟨h1,h2⟩
   refine wpAny_bind (wpAny_dictEntries hoa hda ?_)
   have hlt' : x < xa.length := by rw [hla]; exact hlt
   obtain ⟨k,ka,v,hkv⟩ : ∃ k ka v,xa[x] = (k,ka,v) := ⟨_,_,_,rfl⟩
   have hget : xa[x]? = some (k,ka,v) := by rw [List.getElem?_eq_getElem hlt',hkv]
   have hdrop : (kvsOf xa).drop x = (k,v) :: (kvsOf xa).drop (x + 1) := by
    have hl2 : x < (kvsOf xa).length := by simpa [kvsOf] using hlt'
    rw [List.drop_eq_getElem_cons hl2]
    congr 1
    simp [kvsOf,hkv]
   have hent : es[x]? = some (entryOfKey knd (k,ka,v)) := by rw [entry_at hea x,hget]; rfl
   rw [hent]
   have hkey : knd.is s'.heap k ka := hia (k,ka,v) (List.mem_of_getElem? hget)
   rw [hdrop] at hpre
   show wpAny _ _ (holding [Value.ref ka,v] _ >>= _) _ _ _
   refine wpAny_bind (wpAny_holding (wpAny_bind (wpAny_dictFind_heap hu hkey hob hdb heb hib hnb ?_ ?_)))
   ·intro hno
    have hn : valueAt (kvsOf xb) k = none := by rw [valueAt_kvsOf,atKey_none_of_get hno]; rfl
    rcases hpre.inv with ⟨_,er⟩ | ⟨y,_,_,hy,_⟩
    ·rw [er] at h'
     refine wpAny_pure ?_
     show wpAny _ _ (if (!false) = true then _ else _) _ _ _
     rw [if_pos (by decide)]
     exact wpAny_pure (wpAny_pure h')
    ·rw [hn] at hy; exact nos hy
   ·intro j p hj
    have hv' : valueAt (kvsOf xb) k = some p.2 := by rw [valueAt_kvsOf,atKey_of_get hnb hj]; rfl
    refine wpAny_bind (wpAny_dictEntries hob hdb ?_)
    have hentj : es'[j]? = some (entryOfKey knd (k,p)) := by rw [entry_at heb j,hj]; rfl
    rw [hentj]
    rcases hpre.inv with ⟨hn,_⟩ | ⟨y,e,b',hy,he,hrr,er⟩
    ·rw [hv'] at hn; exact nos hn.symm
    ·have ey : p.2 = y := Option.some.inj (hv'.symm.trans hy)
     rw [<- ey] at he
     refine wpAny_holding (he prog w _ _ ?_)
     cases e with
     | false =>
      rw [er,Bool.false_and] at h'
      show wpAny _ _ (if (!false) = true then _ else _) _ _ _
      rw [if_pos (by decide)]
      exact wpAny_pure (wpAny_pure h')
     | true =>
      rw [Bool.true_and] at er
      rw [<- er] at hrr
      show wpAny _ _ (if (!true) = true then _ else _) _ _ _
      rw [if_neg (by decide)]
      refine wpAny_bind (wpAny_dictEpoch hoa hda ?_)
      rw [if_neg (by simp)]
      exact wpAny_pure ⟨rfl,rfl,x + 1,hrest,hlt,hrr⟩
  ·rintro q s' ⟨rfl,rfl,i,hr,hi,hpre⟩
   have hin : i = es.size := by
    rcases Nat.lt_or_ge i es.size with h | h
    ·have e : es.size - i = (es.size - (i + 1)) + 1 := by omega
     rw [e,List.range'_succ] at hr; exact nomatch hr
    ·exact Nat.le_antisymm hi h
   refine wpAny_pure ?_
   rw [hin,<- hla,show xa.length = (kvsOf xa).length by simp [kvsOf],List.drop_length] at hpre
   cases hpre
   exact h'
theorem hkeq_eq {a b : Addr} {xa xb : List (K × Addr × Value)} {r : Bool} (ha : (a == sysModules) = false) (hb : (b == sysModules) = false) (hk : knd.room A.in1)
  (da : s.heap.DictOfH knd a xa) (db : s.heap.DictOfH knd b xb) (hu : A.units < cLine) (hits : xa.length = xb.length -> KeqHits A.in1 s (kvsOf xb) (kvsOf xa) r) {Q : Value -> Shared -> Prop} :
  (Q (.bool (xa.length == xb.length && r)) s -> wpAny (model prog w) A (compareOp .Eq (.ref a) (.ref b)) Q E s) /\ (Q (.bool (!(xa.length == xb.length && r))) s -> wpAny (model prog w) A (compareOp .NotEq (.ref a) (.ref b)) Q E s) := by
 refine ⟨fun h => ?_,fun h => ?_⟩
 ·refine wpAny_richCompare_same_room (op:=.Eq) da.typeIs db.typeIs PySem.F.slot_dict_eq (wpAny_call_entry PySem.F.slot_dict_eq da.typeIs PySem.F.entry_dict_eq ?_ (PySem.F.args_dict_eq_2 _ _)) hu
  show wpAny _ _ (Builtin.Dict.dictSlotArgs "__eq__" ⟨[.ref a,.ref b],[]⟩ >>= _) _ _ s
  refine wpAny_bind ?_
  unfold Builtin.Dict.dictSlotArgs
  refine wpAny_bind (wpAny_notOrdered_dict da.typeIs ?_)
  show wpAny _ _ (pure (Value.ref a,Value.ref b)) _ _ s
  refine wpAny_pure ?_
  refine wpAny_bind (wpAny_isInstance (T:="dict") db.typeIs PySem.F.sub_dict_dict ?_)
  simp only [Bool.not_true,Bool.false_eq_true,if_false]
  refine wpAny_bind (wpAny_pure (wpAny_bind (wpAny_pure ?_)))
  refine wpAny_bind (zbu ha hb hk da db hits ?_)
  exact wpAny_pure ⟨_,rfl,(fun x => Value.noConfusion x),by simpa using h⟩
 ·refine wpAny_richCompare_same_room (op:=.NotEq) da.typeIs db.typeIs PySem.F.slot_dict_ne (wpAny_call_entry PySem.F.slot_dict_ne da.typeIs PySem.F.entry_dict_ne ?_ (PySem.F.args_dict_ne_2 _ _)) hu
  show wpAny _ _ (Builtin.Dict.dictSlotArgs "__ne__" ⟨[.ref a,.ref b],[]⟩ >>= _) _ _ s
  refine wpAny_bind ?_
  unfold Builtin.Dict.dictSlotArgs
  refine wpAny_bind (wpAny_notOrdered_dict da.typeIs ?_)
  show wpAny _ _ (pure (Value.ref a,Value.ref b)) _ _ s
  refine wpAny_pure ?_
  refine wpAny_bind (wpAny_isInstance (T:="dict") db.typeIs PySem.F.sub_dict_dict ?_)
  simp only [Bool.not_true,Bool.false_eq_true,if_false]
  refine wpAny_bind (wpAny_pure (wpAny_bind (wpAny_pure ?_)))
  refine wpAny_bind (zbu ha hb hk da db hits ?_)
  exact wpAny_pure ⟨_,rfl,(fun x => Value.noConfusion x),by simpa using h⟩
end
section
variable {C : Cfg} {d e : Nat} {Y : Actv C d e} {k : Kp} {w : Wd} {H : MH} {s : Shared} {cx : CC} {env : Env} {mE : Str -> Option Value} {fr : Frame}
theorem hits_of {α : Type} [DecidableEq α] {mk : α -> Val} (S : St Y k w H s) {mes2 : List (Val × Val)} {kb : List (α × Value)} (hg : ∀ k,GetO C w (dget mes2 (mk k)) (valueAt kb k)) :
  ∀ {ka : List (α × Value)} {mes : List (Val × Val)} {r : Bool},mes.map (·.1) = ka.map (fun p => mk p.1) -> zab C w (mes.map (·.2)) (ka.map (·.2)) -> zaX H mes2 mes = some r -> KeqHits Y.A.in1 s kb ka r := by
 intro ka
 induction ka with
 | nil => intro mes r e _ eh; rw [List.map_eq_nil_iff.mp e] at eh; cases eh; exact .nil
 | cons y ka ih =>
  intro mes r e rr eh
  cases mes with
  | nil => cases e
  | cons x mes =>
   obtain ⟨e1,e2⟩ := List.cons.inj e
   obtain ⟨v,t,ev,h1,rr⟩ := rr
   obtain ⟨rfl,rfl⟩ := List.cons.inj ev
   have eh : Option.casesOn (motive:=fun _ => Option Bool) (dget mes2 x.1) (some false) (fun y => (veqD H x.2 y).bind fun e => (zaX H mes2 mes).map fun b => e && b) = some r := eh
   rw [show x.1 = mk y.1 from e1] at eh
   rcases hg y.1 with ⟨g1,g2⟩ | ⟨mv,rv,g1,g2,g3⟩
   ·rw [g1] at eh
    cases eh
    exact .miss g2
   ·rw [g1] at eh
    obtain ⟨e',q1,eh⟩ := bs eh
    obtain ⟨b,q2,rfl⟩ := ms eh
    exact .hit g2 (snd_eqAt S h1 g3 q1) (ih e2 rr q2)
theorem hits_len {A : Around} {α : Type} [DecidableEq α] {ka kb : List (α × Value)} {l1 l2 : Nat} {o : Option Bool} {r : Bool} (e1 : l1 = ka.length) (e2 : l2 = kb.length) (e : (bif l1 == l2 then o else some false) = some r) (h : o = some r -> KeqHits A s kb ka r) :
  ∃ r',(ka.length = kb.length -> KeqHits A s kb ka r') /\ (ka.length == kb.length && r') = r := by
 rw [e1,e2] at e
 cases hl : (ka.length == kb.length) with
 | true => rw [hl] at e; exact ⟨r,fun _ => h e,rfl⟩
 | false => rw [hl] at e; exact ⟨false,fun q => absurd (beq_iff_eq.mpr q) (by rw [hl]; exact Bool.false_ne_true),Option.some.inj e⟩
theorem same_kind {es1 es2 : List (Val × Val)} {d1 d2 : List DictEntry} (hk : zbm es1 es2 = true) (c1 : DRel C w es1 d1) (c2 : DRel C w es2 d2) : (∃ k1 k2,DA C w es1 d1 k1 /\ DA C w es2 d2 k2) \/ ∃ x1 x2,DT C w es1 d1 x1 /\ DT C w es2 d2 x2 := by
 have fa : ∀ {es : List (Val × Val)} {x : Val},zaA x ≠ 0 -> (es.isEmpty || kind0 es == some (zaA x)) = true -> zat es x = true := fun h h' => Bool.and_eq_true_iff.mpr ⟨bne_iff_ne.mpr h,h'⟩
 have n1 : ∀ a : Atom,zaA a.val ≠ 0 := fun a => by rw [zbh]; decide
 have n3 : ∀ a : List Atom,zaA (.tup (a.map Atom.val)) ≠ 0 := fun a => by rw [zbx]; decide
 cases es1 with
 | nil =>
  rcases c2 with ⟨k2,D2⟩ | ⟨x2,D2⟩
  ·obtain ⟨k1,D1⟩ := c1.atom (a:=.i 0) (fa (n1 _) rfl)
   exact .inl ⟨k1,k2,D1,D2⟩
  ·obtain ⟨x1,D1⟩ := c1.tups (as:=[]) (fa (n3 _) rfl)
   exact .inr ⟨x1,x2,D1,D2⟩
 | cons p es1 =>
  have hk : (es2.isEmpty || some (zaA p.1) == kind0 es2) = true := hk
  have sw : ∀ {x : Val},p.1 = x -> (es2.isEmpty || kind0 es2 == some (zaA x)) = true := fun e => by
   subst e
   rcases Bool.or_eq_true_iff.mp hk with h | h
   ·rw [h]; rfl
   ·rw [<- beq_iff_eq.mp h,beq_self_eq_true,Bool.or_true]
  rcases c1 with ⟨k1,D1⟩ | ⟨x1,D1⟩
  ·have e := D1.e
   cases k1 with
   | nil => cases e
   | cons y k1 =>
    obtain ⟨k2,D2⟩ := c2.atom (a:=y.1) (fa (n1 _) (sw (List.cons.inj e).1))
    exact .inl ⟨_,k2,D1,D2⟩
  ·have e := D1.e
   cases x1 with
   | nil => cases e
   | cons y x1 =>
    obtain ⟨x2,D2⟩ := c2.tups (as:=y.1) (fa (n3 _) (sw (List.cons.inj e).1))
    exact .inr ⟨_,x2,D1,D2⟩
theorem snd_dictEq (S : St Y k w H s) {x y : Val} {vx vy : Value} {d1 d2 : Option Nat × List (Val × Val)} {r : Bool} (hx : VRel C w x vx) (hy : VRel C w y vy)
  (o1 : zbv H x = some d1) (o2 : zbv H y = some d2) (hk : zbm d1.2 d2.2 = true) (e : (bif d1.2.length == d2.2.length then zaX H d2.2 d1.2 else some false) = some r) : EqW Y s vx vy r := by
 obtain ⟨_,_,a1,n1,es1,rfl,m1,_,g1,c1,_,_⟩ := S.dict hx o1
 obtain ⟨_,_,a2,n2,es2,rfl,m2,_,g2,c2,_,_⟩ := S.dict hy o2
 have hcl : Y.A.units < cLine := Y.u (Nat.zero_le _)
 rcases same_kind hk c1 c2 with ⟨k1,k2,D1,D2⟩ | ⟨x1,x2,D1,D2⟩
 ·obtain ⟨r',hits,rfl⟩ := hits_len (len_e D1.e) (len_e D2.e) e fun e => hits_of S D2.get D1.e D1.r e
  exact fun Q E => ⟨keq_eq m1 m2 (D1.dictOf g1) (D2.dictOf g2) hcl hits,keq_ne m1 m2 (D1.dictOf g1) (D2.dictOf g2) hcl hits⟩
 ·have hl : ∀ l : List (List Atom × Addr × Value),l.length = (kvsOf l).length := fun l => (List.length_map ..).symm
  obtain ⟨r',hits,rfl⟩ := hits_len ((len_e D1.e).trans (hl x1)) ((len_e D2.e).trans (hl x2)) e fun e => hits_of (mk:=fun as : List Atom => Val.tup (as.map Atom.val)) S (fun q => by rw [valueAt_kvsOf]; exact D2.get q) D1.sides.1 D1.sides.2 e
  rw [<- hl,<- hl] at hits ⊢
  exact fun Q E => hkeq_eq m1 m2 Y.room (D1.dictOf S g1) (D2.dictOf S g2) hcl hits
theorem snd_eqne (S : St Y k w H s) {x y : Val} {vx vy : Value} {r : Bool} (hx : VRel C w x vx) (hy : VRel C w y vy) : veq H x y = some r -> EqW Y s vx vy r :=
 zao (bs_r fun d1 o1 => bs_r fun d2 o2 => gs_r fun hk e => snd_dictEq S hx hy o1 o2 hk e) (snd_eqD S hx hy)
theorem Sta.grown {h h' : Heap} (S : Sta C Y.h₀ Y.L k w H h) (he : Heap.ExtBut h.objs.size h h') : Sta C Y.h₀ Y.L k w H h' :=
 LedO.casesOn S.ledger fun all hn _ _ g => g h' (S.fr.extBut he (Nat.le_refl _)) fun p hp => ⟨he p.1 p.2 (Nat.ne_of_lt (Heap.lt_size (hn p hp).1)) (hn p hp).1,(hn p hp).2⟩
theorem zab.empty {mvs : List Val} {vs : List Value} (r : zab C w mvs vs) : vs.toArray.isEmpty = mvs.isEmpty := by
 cases mvs with
 | nil => cases r; rfl
 | cons m mvs => obtain ⟨v,t,rfl,_,_⟩ := r; rfl
theorem zbN (S : St Y k w H s) {x : Val} {v : Value} {r : Bool} (hx : VRel C w x v) (e : truthy H x = some r) {Q : Bool -> Shared -> Prop} {E : Value -> Shared -> Prop} (h : ∀ tk,Q r { s with toks := tk }) : wpAny C.M Y.A (PySem.truthy v) Q E s := by
 cases x with
 | none => cases hx; cases e; exact truthy_none (h s.toks)
 | bool b => cases hx; cases e; exact wpAny_truthy_bool (h s.toks)
 | int i => obtain ⟨t,rfl⟩ := hx; cases e; exact truthy_int (h s.toks)
 | str l =>
  cases e
  obtain ⟨t,rfl,ok⟩ := hx
  refine P.truthy_str (Int.not_le.mpr (zb2 ok.2)) ?_
  have e : (((⟨l.toArray⟩ : Str).length : Int) != 0) = !l.isEmpty := by cases l <;> rfl
  rw [e]; exact h _
 | tup vs =>
  cases e
  obtain ⟨t,o,n,ws,rfl,ho,hc,hd,rr,hl⟩ := S.tup hx
  refine truthy_tuple (items:=ws.toArray) ⟨o,ho,hc,n,hd⟩ (by rw [List.size_toArray,<- rr.length]; exact zb2 hl) ?_
  rw [rr.empty]; exact h _
 | ref i =>
  obtain ⟨vs,hvs,rfl⟩ := ms e
  obtain ⟨t,ws,n,rfl,ho,rr,hl⟩ := S.list hx hvs
  refine wpAny_truthy_list (items:=ws.toArray) ⟨_,ho,rfl,n,rfl⟩ (by rw [List.size_toArray,<- rr.length]; exact zb2 hl) ?_
  rw [rr.empty]; exact h _
 | _ => exact nos e
theorem zaj {α β : Type} [BEq α] [LawfulBEq α] {a : α} {b : β} : ∀ {l : List (α × β)},l.lookup a = some b -> (a,b) ∈ l := by
 intro l
 induction l with
 | nil => exact fun h => nos h
 | cons p l ih =>
  intro h
  rw [List.lookup_cons] at h
  cases e : (a == p.1) with
  | true => rw [e] at h; cases h; rw [beq_iff_eq.mp e]; exact .head _
  | false => rw [e] at h; exact .tail _ (ih h)
theorem tyTab_inj : ∀ p ∈ tyTab,∀ q ∈ tyTab,(p.1 == q.1) = (p.2 == q.2) := by decide
theorem wp_isSame {A : Around} {a b : Addr} {oa ob : Obj} {Q : Bool -> Shared -> Prop} {E : Value -> Shared -> Prop} (ha : s.heap.get? a = some oa) (hb : s.heap.get? b = some ob) (hc : ob.cls ≠ .type "tuple") (h : Q (a == b) s) : wpAny C.M A (isSame (.ref a) (.ref b)) Q E s := by
 unfold isSame
 dsimp only
 by_cases e : a = b
 ·subst e
  rw [if_pos (by simp)]
  rw [beq_self_eq_true] at h
  exact wpAny_pure h
 ·rw [if_neg (by simpa using e)]
  rw [beq_eq_false_iff_ne.mpr e] at h
  refine wpAny_bind (wpAny_load ha (wpAny_bind (wpAny_load hb ?_)))
  split
  ·rename_i q _ _
   exact absurd q hc
  ·exact wpAny_pure h
theorem VRel.isNone {x : Val} {v : Value} (h : VRel C w x v) : isSame v .none = pure x.isNone := by
 rw [isSame_none]
 cases x with
 | none => cases h; rfl
 | bool b => cases h; rfl
 | int i => obtain ⟨t,rfl⟩ := h; rfl
 | str i => obtain ⟨t,rfl,_⟩ := h; rfl
 | tup i => obtain ⟨_,_,_,_,rfl,_,_,_⟩ := h; rfl
 | ref i => obtain ⟨_,rfl,_⟩ := h; rfl
 | top i => obtain ⟨_,rfl,_⟩ := h; rfl
 | ty i => obtain ⟨_,rfl,_⟩ := h; rfl
 | bi i => obtain ⟨_,rfl,_⟩ := h; rfl
 | rng i => obtain ⟨_,_,_,_,rfl,_⟩ := h; rfl
 | fl i => obtain ⟨_,_,_,_,rfl,_,_,_⟩ := h; rfl
 | setn i => obtain ⟨_,_,_,_,_,rfl,_⟩ := h; rfl
theorem snd_is (K : zdi C) (S : St Y k w H s) {x y : Val} {vx vy : Value} {r : Bool} (hx : VRel C w x vx) (hy : VRel C w y vy) {Q : Bool -> Shared -> Prop} {E : Value -> Shared -> Prop} (h : Q r s) : isV x y = some r -> wpAny C.M Y.A (isSame vx vy) Q E s := by
 have plain : isSame vx vy = pure r -> wpAny C.M Y.A (isSame vx vy) Q E s := fun q => by rw [q]; exact wpAny_pure h
 refine zao (gs_r fun q e => ?_) (zao (bs_r fun i e1 => ms_r fun j e2 e => ?_) (zao (bs_r fun i e1 => ms_r fun j e2 e => ?_) (gs_r fun q => ms_r fun j e2 e => ?_)))
 ·clear h
  cases isNone_s q; cases hy
  exact plain (hx.isNone.trans (congrArg pure (Option.some.inj e)))
 ·clear h
  cases ty?_s e1; cases ty?_s e2
  obtain ⟨n1,rfl,h1⟩ := hx
  obtain ⟨n2,rfl,h2⟩ := hy
  refine plain (congrArg pure (Eq.trans ?_ ((tyTab_inj _ (zaj h1) _ (zaj h2)).symm.trans e)))
  by_cases e : n1 = n2
  ·subst e; simp
  ·rw [beq_eq_false_iff_ne.mpr e,beq_eq_false_iff_ne.mpr (fun q => e (Value.type.inj q))]
 ·clear plain
  cases top?_s e1; cases top?_s e2
  obtain ⟨a1,rfl,h1⟩ := hx
  obtain ⟨a2,rfl,h2⟩ := hy
  obtain ⟨o1,k1,_⟩ := K.adK _ _ h1
  obtain ⟨o2,k2,c2⟩ := K.adK _ _ h2
  refine wp_isSame (S.kIn _ _ k1) (S.kIn _ _ k2) c2 ?_
  have e' : (a1 == a2) = (i == j) := by
   rw [Bool.eq_iff_iff,beq_iff_eq,beq_iff_eq]
   exact ⟨fun q => K.adInj _ _ _ h1 (q ▸ h2),fun q => Option.some.inj ((q ▸ h1 : C.ad.lookup j = some a1).symm.trans h2)⟩
  rw [e',e]; exact h
 ·cases top?_s e2
  obtain ⟨b,rfl,h2⟩ := hy
  subst e
  cases x with
  | none => cases hx; exact plain rfl
  | int i => obtain ⟨t,rfl⟩ := hx; exact plain rfl
  | tup vs =>
   clear plain
   obtain ⟨o,ho,hc⟩ := K.adK _ _ h2
   obtain ⟨ta,ot,n,ws,rfl,hg,hct,_,_,_⟩ := S.tup hx
   refine wp_isSame hg (S.kIn _ _ ho) hc ?_
   rw [beq_eq_false_iff_ne.mpr fun q => hc (by rw [<- hct,Option.some.inj ((q ▸ hg : s.heap.get? b = some ot).symm.trans (S.kIn _ _ ho))])]
   exact h
  | _ => cases q
noncomputable def InW {C : Cfg} {d e : Nat} (Y : Actv C d e) (s : Shared) (vx vy : Value) (r : Bool) : Prop :=
 ∀ (Q : Value -> Shared -> Prop) (E : Value -> Shared -> Prop),((∀ tk,Q (.bool r) { s with toks := tk }) -> wpAny C.M Y.A (compareOp .In vx vy) Q E s) /\ ((∀ tk,Q (.bool (!r)) { s with toks := tk }) -> wpAny C.M Y.A (compareOp .NotIn vx vy) Q E s)
theorem one?_s {s : List Nat} {c : Nat} (h : one? s = some c) : s = [c] := by
 cases s with
 | nil => exact nos h
 | cons a r =>
  cases r with
  | nil => cases h; rfl
  | cons _ _ => exact nos h
theorem snd_in (S : St Y k w H s) {x y : Val} {vx vy : Value} {r : Bool} (hx : VRel C w x vx) (hy : VRel C w y vy) : isIn H x y = some r -> InW Y s vx vy r := by
 have hu : ∀ {a b : Nat},a <= 7 -> Y.A.units + 1 + min a b < cLine := fun h => by rw [Nat.add_assoc]; exact Y.u (Nat.le_trans (Nat.add_le_add_left (Nat.le_trans (Nat.min_le_left _ _) h) 1) (by decide))
 refine bs_r fun t e1 => ms_r fun c e2 e => ?_
 ·obtain ⟨x',e3,e2⟩ := bs e2
  cases one?_s e2
  obtain ⟨u,rfl,_⟩ := hx.str? e3
  obtain ⟨t',rfl,_⟩ := hy.str? e1
  have hf := StrLaws.found_one ⟨t.toArray⟩ c
  have hc : t.contains c = decide (c ∈ t) := by rw [Bool.eq_iff_iff,List.contains_iff_mem,decide_eq_true_eq]
  rw [<- e,hc]
  refine fun Q E => ⟨fun h => in_str ?_,fun h => notIn_str ?_⟩
  ·rw [show (⟨[c].toArray⟩ : Str) = ⟨#[c]⟩ from rfl,hf]
   exact h s.toks
  ·rw [show (⟨[c].toArray⟩ : Str) = ⟨#[c]⟩ from rfl,hf]
   exact h s.toks
theorem snd_cmp {op : CmpOp} (K : zdi C) (S : St Y k w H s) {x y : Val} {vx vy : Value} (hx : VRel C w x vx) (hy : VRel C w y vy) : Ref Y k (VR C) (compareOp op vx vy) w s ((cmpop (copOf op) x y H).map fun r => (.bool r,H)) := by
 refine .omap fun r e => .val S fun Q E q => ?_
 have h : ∀ tk,Q (.bool r) { s with toks := tk } := fun tk => q _ tk rfl
 have h0 := h s.toks
 have cmpQ : ∀ {f : Int -> Int -> Bool} {t : Sem Value},cmpI x y f = some r -> (∀ a b t1 t2,vx = .int a t1 -> vy = .int b t2 -> r = f a b -> wpAny C.M Y.A t Q E s) -> wpAny C.M Y.A t Q E s := fun e g => by
  obtain ⟨a,e1,e⟩ := bs e
  obtain ⟨b,e2,rfl⟩ := ms e
  obtain ⟨t1,q1⟩ := hx.int? e1
  obtain ⟨t2,q2⟩ := hy.int? e2
  exact g a b t1 t2 q1 q2 rfl
 cases op with
 | Eq => exact (snd_eqne S hx hy e Q E).1 h0
 | NotEq =>
  obtain ⟨q,hq,rfl⟩ := ms e
  exact (snd_eqne S hx hy hq Q E).2 h0
 | Lt => exact cmpQ e fun a b t1 t2 e1 e2 e3 => by subst e1 e2 e3; exact lt_int h0
 | LtE => exact cmpQ e fun a b t1 t2 e1 e2 e3 => by subst e1 e2 e3; exact le_int h0
 | Gt => exact cmpQ e fun a b t1 t2 e1 e2 e3 => by subst e1 e2 e3; exact gt_int h0
 | GtE => exact cmpQ e fun a b t1 t2 e1 e2 e3 => by subst e1 e2 e3; exact ge_int h0
 | In => exact (snd_in S hx hy e Q E).1 h
 | NotIn =>
  obtain ⟨q,hq,rfl⟩ := ms e
  exact (snd_in S hx hy hq Q E).2 h
 | Is => exact wpAny_bind (snd_is K S hx hy (wpAny_pure h0) e)
 | IsNot =>
  obtain ⟨q,hq,rfl⟩ := ms e
  exact wpAny_bind (snd_is K S hx hy (wpAny_pure h0) hq)
end
end Mi
namespace Mi
open PySem PySem.W PySem.Calls PyProof.Rows
noncomputable abbrev Kp.ext (k : Kp) (p : Addr × Obj) : Kp := { k with ex := p :: k.ex }
theorem za3 (k : Kp) (w : Wd) (os : List Led) (p : Addr × Obj) : ((k.ext p).all w os).Perm (p :: k.all w os) := by
 have := List.perm_middle (a:=p) (l₁:=os.flatten ++ (w.tp ++ k.ce)) (l₂:=k.ex)
 rw [List.append_assoc,List.append_assoc,List.append_assoc,List.append_assoc] at this
 exact this
section
variable {C : Cfg} {h₀ : Heap} {L : Addr} {k : Kp} {w : Wd} {H : MH} {h h' : Heap} {b : Addr} {o o' : Obj}
theorem Sta.addEx (S : Sta C h₀ L k w H h) (o : Obj) (hf : o.isFreed = false) : Sta C h₀ L (k.ext (h.objs.size,o)) w H (h.push o) := by
 obtain ⟨os,he,hn,hd⟩ := S.os
 exact ⟨S.fr.push o,⟨os,he,fun p hp => hn.push S.fr o hf p ((za3 k w os _).mem_iff.mp hp),Led.nd.perm (za3 k w os (h.objs.size,o)).symm (nd_app (zbs _) hd (News.fresh hn fun p hp => List.mem_singleton.mp hp ▸ Nat.le_refl _))⟩,S.big,S.lo⟩
theorem Sta.exHead (S : Sta C h₀ L (k.ext (b,o)) w H h) : h.get? b = some o /\ b ≠ L /\ h₀.get? b = none := by
 obtain ⟨os,he,hn,hd⟩ := S.os
 exact hn (b,o) ((za3 k w os (b,o)).mem_iff.mpr (.head _))
theorem Fr.sameBut {m : Str -> Option Value} (F : Fr h₀ L h m) (hs : Heap.SameBut b h h') (g : b ≠ L /\ h₀.get? b = none) : Fr h₀ L h' m :=
 ⟨F.ns.sameBut hs (Ne.symm g.1),fun c x e => (hs.2 c fun q => by rw [q,g.2] at e; cases e).trans (F.keep c x e),F.above⟩
theorem Sta.setEx (S : Sta C h₀ L (k.ext (b,o)) w H h) (hs : Heap.SameBut b h h') (ho : h'.get? b = some o') : Sta C h₀ L (k.ext (b,o')) w H h' := by
 have g := S.exHead
 obtain ⟨os,he,hn,hd⟩ := S.os
 have hd' := List.nodup_cons.mp (Led.nd.perm (za3 k w os (b,o)) hd)
 refine ⟨Fr.sameBut S.fr hs g.2,⟨os,he,fun p hp => ?_,Led.nd.perm (za3 k w os (b,o')).symm (List.nodup_cons.mpr hd')⟩,S.big,S.lo⟩
 rcases List.mem_cons.mp ((za3 k w os (b,o')).mem_iff.mp hp) with e | hp
 ·rw [e]; exact ⟨ho,g.2⟩
 ·have := hn p ((za3 k w os (b,o)).mem_iff.mpr (.tail _ hp))
  exact ⟨(hs.2 p.1 fun e => hd'.1 (List.mem_map.mpr ⟨p,hp,e⟩)).trans this.1,this.2⟩
theorem Sta.endEx (S : Sta C h₀ L (k.ext (b,o)) w H h) (hx : Heap.ExtBut b h h') : Sta C h₀ L k w H h' := by
 have g := S.exHead
 obtain ⟨os,he,hn,hd⟩ := S.os
 have hd' := List.nodup_cons.mp (Led.nd.perm (za3 k w os (b,o)) hd)
 refine ⟨⟨S.fr.ns.extBut hx (Ne.symm g.2.1),fun c x e => hx c x (fun q => by rw [q,g.2.2] at e; cases e) (S.fr.keep c x e),S.fr.above⟩,⟨os,he,fun p hp => ?_,hd'.2⟩,S.big,S.lo⟩
 have := hn p ((za3 k w os (b,o)).mem_iff.mpr (.tail _ hp))
 exact ⟨hx p.1 p.2 (fun e => hd'.1 (List.mem_map.mpr ⟨p,hp,e⟩)) this.1,this.2⟩
theorem Sta.exSwap {p q : Addr × Obj} (S : Sta C h₀ L ((k.ext q).ext p) w H h) : Sta C h₀ L ((k.ext p).ext q) w H h := by
 obtain ⟨os,he,hn,hd⟩ := S.os
 have hp : (((k.ext p).ext q).all w os).Perm (((k.ext q).ext p).all w os) := List.Perm.append_left _ (List.Perm.append_left _ (List.Perm.append_left _ (List.Perm.swap p q k.ex)))
 exact ⟨S.fr,⟨os,he,fun r hr => hn r (hp.mem_iff.mp hr),Led.nd.perm hp.symm hd⟩,S.big,S.lo⟩
theorem Sta.fromEx {m : MObj} (S : Sta C h₀ L (k.ext (b,o)) w H h) (h4 : 4 <= b) (hr : ORel C ⟨w.σ ++ [b],w.tp⟩ b m [(b,o)]) : Sta C h₀ L k ⟨w.σ ++ [b],w.tp⟩ (H ++ [m]) h := by
 obtain ⟨os,he,hn,hd⟩ := S.os
 have hp := (za3 k w os (b,o)).trans (zc5 k w b [(b,o)] os)
 exact ⟨S.fr,⟨os ++ [[(b,o)]],Ents.snoc hr (Ents.mono (w:=w) (w' := ⟨w.σ ++ [b],w.tp⟩) ⟨List.prefix_append _ _,fun _ x => x⟩ he),fun p hp' => hn p (hp.mem_iff.mpr hp'),Led.nd.perm hp hd⟩,S.big,S.loNew h4⟩
end
inductive IsIt (io : Obj) (T : String) (v : Value) (i : Nat) : Prop
 | mk (c : io.cls = .type T) (d : io.data = .fields #[v,.int (i : Nat) 0]) : IsIt io T v i
inductive StrIt (io : Obj) (x : List Nat) (i : Nat) : Prop
 | mk (T : String) (t : Tok) (h : T = "str_ascii_iterator" \/ T = "str_iterator") (q : IsIt io T (.str ⟨x.toArray⟩ t) i) : StrIt io x i
inductive RngIt (io : Obj) (n : Int) (i : Nat) : Prop
 | mk (left : Int) (h1 : 0 < left ↔ (i : Int) < n) (h2 : 0 < left -> left = n - i) (e : io = { cls := .type "range_iterator",dict := Option.none,data := .fields #[rawInt (i : Nat),rawInt left,rawInt 1],slots := #[] }) : RngIt io n i
noncomputable def zbB (C : Cfg) (w : Wd) (io : Obj) (i : Nat) (k : It) : Prop := It.casesOn (motive:=fun _ => Prop) k
 (fun a => ∃ la,w.σ[a]? = some la /\ IsIt io "list_iterator" (.ref la) i)
 (fun mvs => ∃ ta,VRel C w (.tup mvs) (.ref ta) /\ IsIt io "tuple_iterator" (.ref ta) i)
 (fun a n ep => ∃ la,w.σ[a]? = some la /\ io.cls = .type "dict_keyiterator" /\ io.data = .fields #[.ref la,.int (i : Nat) 0,.int (n : Nat) 0,.int (ep : Nat) 0])
 (fun x => sOk x /\ StrIt io x i)
 (fun n => RngIt io n i)
 (fun mvs => ∃ la,VRel C w (.fl mvs) (.ref la) /\ IsIt io "list_iterator" (.ref la) i)
theorem zbB.mono {C : Cfg} {w w' : Wd} (l : w.le w') {io : Obj} {i : Nat} {k : It} : zbB C w io i k -> zbB C w' io i k :=
 It.casesOn (motive:=fun k => zbB C w io i k -> zbB C w' io i k) k (fun _ h => h.elim fun la h => ⟨la,l.get h.1,h.2⟩) (fun _ h => h.elim fun la h => ⟨la,h.1.mono l,h.2⟩) (fun _ _ _ h => h.elim fun la h => ⟨la,l.get h.1,h.2⟩) (fun _ h => h) (fun _ h => h) (fun _ h => h.elim fun la h => ⟨la,h.1.mono l,h.2⟩)
section
variable {C : Cfg} {d e : Nat} {Y : Actv C d e} {k : Kp} {w : Wd} {H : MH} {s : Shared} {cx : CC} {env : Env} {mE : Str -> Option Value} {fr : Frame}
theorem DRel.entries {mes : List (Val × Val)} {es : List DictEntry} (h : DRel C w mes es) : es.length = mes.length /\ ∀ (i : Nat) (p : Val × Val),mes[i]? = some p -> ∃ e : DictEntry,es[i]? = some e /\ VRel C w p.1 e.key := by
 rcases h with ⟨kvs,D⟩ | ⟨xs,D⟩
 ·have l1 := len_e D.e
  have l2 := D.p.length
  refine ⟨by omega,fun i p hp => ?_⟩
  have hi : i < mes.length := (List.getElem?_eq_some_iff.mp hp).1
  have hik : i < kvs.length := by omega
  have hie : i < es.length := by omega
  refine ⟨es[i],List.getElem?_eq_getElem hie,?_⟩
  have hk := (D.p.get? (i:=i) (List.getElem?_eq_getElem hie) (List.getElem?_eq_getElem hik)).1
  have he : (mes.map (·.1))[i]? = (kvs.map fun p => p.1.val)[i]? := by rw [D.e]
  rw [List.getElem?_map,List.getElem?_map,hp,List.getElem?_eq_getElem hik] at he
  rw [show p.1 = kvs[i].1.val from Option.some.inj he]
  have hok := D.ok kvs[i] (List.getElem_mem hik)
  generalize kvs[i].1 = a at hk hok
  cases a with
  | i z => exact Value.isInt_shape hk
  | s x =>
   obtain ⟨t,ht⟩ := Value.isStrOf_shape hk
   exact ⟨t,ht,hok⟩
 ·have l1 := len_e D.e
  refine ⟨by rw [D.es,List.length_map,l1],fun i p hp => ?_⟩
  have hik : i < xs.length := l1 ▸ (List.getElem?_eq_some_iff.mp hp).1
  refine ⟨entryOfKey (tupleKind (zay C.prog C.w)) xs[i],by rw [D.es,List.getElem?_map,List.getElem?_eq_getElem hik]; rfl,?_⟩
  have he : (mes.map (·.1))[i]? = (xs.map fun x => Val.tup (x.1.map Atom.val))[i]? := by rw [D.e]
  rw [List.getElem?_map,List.getElem?_map,hp,List.getElem?_eq_getElem hik] at he
  rw [show p.1 = _ from Option.some.inj he]
  exact D.v xs[i] (List.getElem_mem hik)
theorem range_small {n : Int} (h1 : n <= lim) (h2 : -(lim : Int) <= n) : Builtin.Range.small 0 n 1 = true := by
 have hl : (lim : Int) = 1000000 := rfl
 refine small_one ?_ ?_ ?_ ?_ <;> omega
theorem zcK (n : Int) : (0 < Builtin.Range.rangeSize 0 n 1 ↔ 0 < n) /\ (0 < Builtin.Range.rangeSize 0 n 1 -> Builtin.Range.rangeSize 0 n 1 = n) := by
 unfold Builtin.Range.rangeSize
 simp only [gt_iff_lt,Int.zero_lt_one,if_true]
 split
 ·rename_i h
  refine ⟨?_,?_⟩ <;> omega
 ·rename_i h
  refine ⟨?_,?_⟩ <;> omega
theorem zc1 (S : St Y k w H s) {v : Val} {rv : Value} {z : It} (hv : VRel C w v rv) {Q : Value -> Shared -> Prop} {E : Value -> Shared -> Prop}
  (h : ∀ I io h',Sta C Y.h₀ Y.L (k.ext (I,io)) w H h' -> zbB C w io 0 z -> Q (.ref I) { s with heap := h' }) : za5 H v = some z -> wpAny C.M Y.A (pyIter rv) Q E s := by
 refine zao (bs_r fun n e1 => gs_r fun hn e => ?_) (zao (bs_r fun a e1 => zao (ms_r fun vs e2 e => ?_) (fun e => nos e)) (zao (ms_r fun vs e1 e => ?_) (zao (ms_r fun x e1 e => ?_) (ms_r fun vs e1 e => ?_))))
 ·cases e; cases rng?_s e1
  obtain ⟨r,t,u,v,rfl,hr⟩ := hv
  have hn := Bool.and_eq_true_iff.mp hn
  exact wpAny_pyIter_range (S.tpAt hr) (range_small (of_decide_eq_true hn.1) (of_decide_eq_true hn.2)) (h _ _ _ (S.addEx _ rfl) ⟨_,(zcK n).1,fun hh => ((zcK n).2 hh).trans (Int.sub_zero n).symm,rfl⟩)
 ·subst e; cases ref?_s e1
  obtain ⟨la,ws,n,rfl,ho,rr,hl⟩ := S.list hv e2
  obtain ⟨_,e3,ha⟩ := hv
  exact wpAny_pyIter_list (items:=ws.toArray) ⟨_,ho,rfl,n,rfl⟩ (h _ _ _ (S.addEx _ rfl) ⟨la,Value.ref.inj e3 ▸ ha,rfl,rfl⟩)
 ·subst e; cases tup?_s e1
  obtain ⟨t,o,n,ws,rfl,ho,hc,hd,rr,hl⟩ := S.tup hv
  exact iter_tuple (items:=ws.toArray) ⟨o,ho,hc,n,hd⟩ (h _ _ _ (S.addEx _ rfl) ⟨t,hv,rfl,rfl⟩)
 ·subst e
  obtain ⟨t,rfl,ok⟩ := hv.str? e1
  refine wpAny_pyIter_strU (h _ _ _ (S.addEx _ rfl) ⟨ok,strIterType ⟨x.toArray⟩,t,?_,rfl,rfl⟩)
  unfold strIterType
  split
  ·exact .inl rfl
  ·exact .inr rfl
 ·subst e; cases fl?_s e1
  obtain ⟨la,o,n,ws,rfl,q,rr,hl⟩ := id hv
  exact wpAny_pyIter_list (items:=ws.toArray) ⟨o,S.kIn _ _ q.1,q.2,n,q.3⟩ (h _ _ _ (S.addEx _ rfl) ⟨la,hv,rfl,rfl⟩)
structure StepO {C : Cfg} {d e : Nat} (Y : Actv C d e) (k : Kp) (w : Wd) (H : MH) (s : Shared) (I : Addr) (i : Nat) (z : It) (r : Option Val) (Q : Option Value -> Shared -> Prop) : Prop where
 go : ∀ v rv io' h' tk,r = some v -> Sta C Y.h₀ Y.L (k.ext (I,io')) w H h' -> zbB C w io' (i + 1) z -> VRel C w v rv -> Q (some rv) { s with heap := h',toks := tk }
 fin : ∀ h',r = none -> Sta C Y.h₀ Y.L k w H h' -> Q none { s with heap := h' }
theorem zcY {I : Addr} {io : Obj} {i : Nat} {mvs : List Val} {vs : List Value} {z : It} {r : Option Val} {Q : Option Value -> Shared -> Prop} (S : St Y (k.ext (I,io)) w H s) (rr : zab C w mvs vs) (er : mvs[i]? = r) (G : StepO Y k w H s I i z r Q)
  (item : ∀ x (Q : Option Value -> Shared -> Prop),vs.toArray[i]? = some x -> (∀ h' o',h'.get? I = some o' -> zbB C w o' (i + 1) z -> Heap.SameBut I s.heap h' -> Q (some x) { s with heap := h' }) -> wpAny C.M Y.A (pyNext (.ref I)) Q (fun _ _ => False) s)
  (fin : ∀ (Q : Option Value -> Shared -> Prop),vs.toArray[i]? = none -> (∀ h',Heap.ExtBut I s.heap h' -> Q none { s with heap := h' }) -> wpAny C.M Y.A (pyNext (.ref I)) Q (fun _ _ => False) s) {E : Value -> Shared -> Prop} : wpAny C.M Y.A (pyNext (.ref I)) Q E s := by
 refine wpAny_mono (Q:=Q) (E:=fun _ _ => False) ?_ (fun _ _ q => q) (fun _ _ q => q.elim)
 cases r with
 | none =>
  refine fin Q ?_ fun h' he => G.fin h' rfl (S.endEx he)
  rw [List.getElem?_toArray,List.getElem?_eq_none_iff,<- rr.length]
  exact List.getElem?_eq_none_iff.mp er
 | some v =>
  obtain ⟨rv,hrv,hr⟩ := rr.get er
  exact item rv Q (by rw [List.getElem?_toArray]; exact hrv) fun h' o' g1 g2 hs => G.go v rv o' h' _ rfl (S.setEx hs g1) g2 hr
theorem zb6 {I : Addr} {io : Obj} {z : It} {i : Nat} {r : Option Val} (S : St Y (k.ext (I,io)) w H s) (R : zbB C w io i z) (e : zah H i z = some r) {Q : Option Value -> Shared -> Prop} {E : Value -> Shared -> Prop} (G : StepO Y k w H s I i z r Q) : wpAny C.M Y.A (pyNext (.ref I)) Q E s := by
 have hI := S.exHead.1
 cases z with
 | fs mvs =>
  obtain ⟨la,hv,ic⟩ := R
  obtain ⟨_,o,n,vs,e1,q,rr,_⟩ := id hv
  cases e1
  have hl0 : s.heap.IsList la vs.toArray := ⟨o,S.kIn _ _ q.1,q.2,n,q.3⟩
  exact zcY S rr (Option.some.inj e) G (fun x Q hx g => wpAny_pyNext_list_item ⟨io,hI,ic.1,ic.2⟩ hl0 hx fun h' hit' hs => hit'.elim fun o' p => g h' o' p.1 ⟨la,hv,p.2.1,p.2.2⟩ hs) (fun Q hx g => wpAny_pyNext_list_end Y.handled ⟨io,hI,ic.1,ic.2⟩ hl0 hx g)
 | ls a =>
  obtain ⟨la,ha,ic⟩ := R
  obtain ⟨mvs,hm,er⟩ := ms e
  obtain ⟨_,ws,n,e1,ho,rr,hl⟩ := S.list (x:=.ref a) ⟨la,rfl,ha⟩ hm
  cases e1
  have hl0 : s.heap.IsList la ws.toArray := ⟨_,ho,rfl,n,rfl⟩
  exact zcY S rr er G (fun x Q hx g => wpAny_pyNext_list_item ⟨io,hI,ic.1,ic.2⟩ hl0 hx fun h' hit' hs => hit'.elim fun o' p => g h' o' p.1 ⟨la,ha,p.2.1,p.2.2⟩ hs) (fun Q hx g => wpAny_pyNext_list_end Y.handled ⟨io,hI,ic.1,ic.2⟩ hl0 hx g)
 | tp mvs =>
  obtain ⟨ta,ht,ic⟩ := R
  obtain ⟨_,o,n,ws,e1,ho,hc,hd,rr,hl⟩ := S.tup ht
  cases e1
  have hl0 : IsTup s.heap ta ws.toArray := ⟨o,ho,hc,n,hd⟩
  exact zcY S rr (Option.some.inj e) G (fun x Q hx g => next_tuple_item ⟨io,hI,ic.1,ic.2⟩ hl0 hx fun h' hit' hs => hit'.elim fun o' p => g h' o' p.1 ⟨ta,ht,p.2.1,p.2.2⟩ hs) (fun Q hx g => next_tuple_end Y.handled ⟨io,hI,ic.1,ic.2⟩ hl0 hx g)
 | sq x =>
  obtain ⟨ok,T,t,hT,ic⟩ := R
  have er := Option.some.inj e
  cases hc : x[i]? with
  | none =>
   rw [hc] at er
   have hvs : (⟨x.toArray⟩ : Str).cps[i]? = none := (List.getElem?_toArray).trans hc
   rcases hT with rfl | rfl
   ·exact wpAny_pyNext_ascii_end Y.handled ⟨io,hI,ic.1,ic.2⟩ hvs fun h' he => G.fin h' er.symm (S.endEx he)
   ·exact wpAny_pyNext_wide_end Y.handled ⟨io,hI,ic.1,ic.2⟩ hvs fun h' he => G.fin h' er.symm (S.endEx he)
  | some c =>
   rw [hc] at er
   have hvs : (⟨x.toArray⟩ : Str).cps[i]? = some c := (List.getElem?_toArray).trans hc
   have hck : ∀ u : Tok,VRel C w (.str [c]) (.str ⟨#[c]⟩ u) := fun u => ⟨u,rfl,fun y hy => List.mem_singleton.mp hy ▸ ok.1 c (List.mem_of_getElem? hc),(by decide : 1 <= lim)⟩
   rcases hT with rfl | rfl
   ·exact wpAny_pyNext_ascii_item ⟨io,hI,ic.1,ic.2⟩ hvs fun h' hit' hs => hit'.elim fun o' p => G.go (.str [c]) _ o' h' _ er.symm (S.setEx hs p.1) ⟨ok,_,t,.inl rfl,p.2.1,p.2.2⟩ (hck _)
   ·exact wpAny_pyNext_wide_item ⟨io,hI,ic.1,ic.2⟩ hvs fun h' hit' hs => hit'.elim fun o' p => G.go (.str [c]) _ o' h' _ er.symm (S.setEx hs p.1) ⟨ok,_,t,.inr rfl,p.2.1,p.2.2⟩ (hck _)
 | dk a n ep => exact nos e
 | rg n =>
  obtain ⟨left,hl,hl2,rfl⟩ := R
  have er := Option.some.inj e
  cases hin : decide ((i : Int) < n) with
  | true =>
   rw [hin] at er
   have hpos := hl.mpr (of_decide_eq_true hin)
   refine wpAny_pyNext_range_item hI hpos fun h' hit' hs => G.go (.int i) _ _ h' _ er.symm (S.setEx hs hit') ?_ ⟨_,rfl⟩
   have := hl2 hpos
   exact ⟨left - 1,by omega,fun _ => by omega,rfl⟩
  | false =>
   rw [hin] at er
   exact wpAny_pyNext_range_end Y.handled hI (Int.not_lt.mp fun q => absurd (hl.mp q) (of_decide_eq_false hin)) fun h' he => G.fin h' er.symm (S.endEx he)
end
end Mi
namespace Mi
open PySem PySem.W PySem.Calls PyProof.Rows
structure Sy (e : Expr) : Prop where
 star : ∀ rest env,starEach (e :: rest) env = (false,PySem.eval e env) :: starEach rest env
 sub : ∀ o i,subscripted e false o i = operate [o,i] (getItem o i)
 marks : ∀ op,behindInMarks op e = false
 fold : ∀ env x,foldedSetIterable e env x = pure x
 swap : zaE e = false -> ∀ t n env,swapsWith e t n env = pure false
structure Sd (C : Cfg) (d : Nat) (cx : CC) (e : Expr) (ir : Ex) : Prop where
 es : ESnd C d cx e ir
 ts : TSnd C d cx e ir
 sy : Sy e
noncomputable abbrev Sds (C : Cfg) (d : Nat) (cx : CC) : List Expr -> List Ex -> Prop := All2 (Sd C d cx)
noncomputable def AsSnd (C : Cfg) (d : Nat) (cx : CC) (es : List Expr) (irs : List Ex) : Prop :=
 ∀ (Y : Actv C d 2) (env : Env) (k : Kp) (mE : Str -> Option Value) (fr : Frame) (w : Wd) (H : MH) (s : Shared) (pos : Pos),Pl Y cx env k mE fr w H s -> Ref Y k (VRS C) (spliced (backTo pos (starEach es env))) w s (zaT (C.cx d) irs fr H)
section
variable {C : Cfg} {d e : Nat} {Y : Actv C d e} {k : Kp} {w : Wd} {H : MH} {s : Shared} {cx : CC} {env : Env} {mE : Str -> Option Value} {fr : Frame}
theorem tsnd_plain {e : Expr} {ir : Ex} (h : ESnd C d cx e ir) (he : ∀ (env : Env) (whole : Sem Value),PySem.isTrue e env whole = (do let v <- whole; standAt e.pos; holding [v] (PySem.truthy v))) : TSnd C d cx e ir :=
 fun Y env k mE fr w H s p r => zad fun x H1 e1 => ms_r fun b e2 e => e ▸ fun Q E hq => isTrue_plain (h Y env k mE fr w H s p _ e1 _ _ fun w1 a1 s1 n1 r1 => zbN n1.st r1 e2 fun tk => hq w1 b _ (n1.trans (.toks n1.st tk)) rfl) (he _ _)
theorem zal {pos : Pos} {es : List Expr} {irs : List Ex} (h : Sds C d cx es irs) : (backTo pos (starEach es env)).any (·.1) = false := by
 induction h with
 | nil => rfl
 | cons h _ ih => rw [h.sy.star]; exact ih
theorem zbi {c : Cx} {irs : List Ex} : ∀ {H : MH} {r : List Val × MH},zaT c irs fr H = some r -> r.1.length = irs.length := by
 induction irs with
 | nil => intro H r h; cases h; rfl
 | cons e irs ih => exact fun {H r} => zad fun v h1 e1 => zad fun vs h2 e2 e => Option.some.inj e ▸ congrArg (· + 1) (ih e2)
theorem zaV {es : List Expr} {irs : List Ex} (h : Sds C d cx es irs) : AsSnd C d cx es irs := by
 induction h with
 | nil => intro Y env k mE fr w H s pos p r e; cases e; exact fun Q E hq => args_nil (hq w [] s (.refl p.st) .nil)
 | cons h _ ih =>
  intro Y env k mE fr w H s pos p r
  refine zad fun v H1 e1 => zad fun vs H2 e2 e => ?_
  cases e
  exact fun Q E hq => args_cons (h.es Y env k mE fr w H s p _ e1 _ _ fun w1 a1 s1 n1 r1 => ih Y env k mE fr w1 H1 s1 pos (p.next n1) _ e2 _ _ fun w2 a2 s2 n2 r2 => hq w2 _ s2 (n1.trans n2) (.cons (r1.mono n2.le) r2)) (h.sy.star _ _)
theorem Nxt.newTup {mvs : List Val} {vs : List Value} (S : St Y k w H s) (r : zab C w mvs vs) (hl : mvs.length <= lim) : ∃ w',Nxt Y k w w' H s { s with heap := s.heap.push { cls := .type "tuple",data := .seq vs.toArray } } /\ VRel C w' (.tup mvs) (.ref s.heap.objs.size) := by
 obtain ⟨all,hn,_,tp,_⟩ := S.ledger
 have le : w.le ⟨w.σ,(s.heap.objs.size,({ cls := .type "tuple",data := .seq vs.toArray } : Obj)) :: w.tp⟩ := ⟨List.prefix_refl _,fun _ x => .tail _ x⟩
 exact ⟨_,⟨le,tp _ _ _ (S.fr.push _) (hn.push S.fr _) (Nat.le_refl _),rfl,rfl⟩,_,_,0,vs,rfl,⟨.inl (.head _),rfl,rfl⟩,r.mono le,hl⟩
theorem snd_tuple {es : List Expr} {irs : List Ex} {n : Nat} {pos : Pos} (h : Sds C d cx es irs) (hi : Nat.ble es.length 1000 = true) : ESnd C d cx (.Tuple es n pos) (.tup irs) := by
 intro Y env k mE fr w H s p r
 refine zad fun vs H1 e1 e => ?_
 cases e
 have hl : vs.length <= lim := by rw [zbi e1,h.length]; exact Nat.le_trans (Nat.ble_eq.mp hi) (by decide)
 refine fun Q E hq => wpAny_Tuple (zaV h Y env k mE fr w H s pos p _ e1 _ _ fun w1 a1 s1 n1 r1 => ⟨by rw [<- r1.length]; exact Nat.le_trans hl lim_line,?_⟩)
 obtain ⟨w2,n2,r2⟩ := Nxt.newTup n1.st r1 hl
 exact hq w2 _ _ (n1.trans n2) r2
theorem snd_list {es : List Expr} {irs : List Ex} {pos : Pos} (h : Sds C d cx es irs) (hi : Nat.ble es.length 1000 = true) : ESnd C d cx (.List es pos) (.list irs) := by
 intro Y env k mE fr w H s p r
 refine zad fun vs H1 e1 e => ?_
 have hl : vs.length <= lim := by rw [zbi e1,h.length]; exact Nat.le_trans (Nat.ble_eq.mp hi) (by decide)
 refine fun Q E hq => wpAny_List (zaV h Y env k mE fr w H s pos p _ e1 _ _ fun w1 a1 s1 n1 r1 => ⟨by rw [<- r1.length]; exact Nat.le_trans hl lim_line,?_⟩)
 cases e
 obtain ⟨all,hn,add,_,_⟩ := n1.st.ledger
 have le : w1.le ⟨w1.σ ++ [s1.heap.objs.size],w1.tp⟩ := ⟨List.prefix_append _ _,fun _ x => x⟩
 exact hq _ _ _ (n1.trans ⟨le,add _ (.list vs) [_] _ ⟨a1,0,rfl,r1.mono le,hl⟩ (n1.st.fr.push _) (hn.push n1.st.fr _) (zbs _) (News.fresh hn fun p hp => List.mem_singleton.mp hp ▸ Nat.le_refl _) (n1.st.four (Nat.le_refl _)),rfl,rfl⟩) ⟨_,rfl,by rw [<- n1.st.len]; exact List.getElem?_concat_length⟩
theorem idx_s {n : Nat} {i : Val} {j : Nat} {v : Value} (hv : VRel C w i v) (h : idx n i = some j) : ∃ z t,v = .int z t /\ 0 <= z /\ z < n /\ j = z.toNat := by
 obtain ⟨z,e1,h⟩ := bs h
 obtain ⟨hb,e⟩ := gs h
 have hb := Bool.and_eq_true_iff.mp hb
 obtain ⟨t,e2⟩ := hv.int? e1
 exact ⟨z,t,e2,of_decide_eq_true hb.1,of_decide_eq_true hb.2,(Option.some.inj e).symm⟩
theorem seqIdx {z : Int} {n : Nat} (h0 : 0 <= z) (h1 : z < n) : seqIndex? z n = some z.toNat := by
 unfold seqIndex?
 simp only [if_neg (Int.not_lt.mpr h0)]
 rw [if_pos (Bool.and_eq_true_iff.mpr ⟨decide_eq_true h0,decide_eq_true h1⟩)]
theorem bool_index : typeLookup (.type "bool") "__index__" = pure (some (.builtin "int.__index__")) := by rw [typeLookup_type,builtinLookup_eq_fast]; kernel_rfl
theorem asIndex_b (b : Bool) : asIndex (.bool b) = pure (cond b 1 0 : Int) := by cases b <;> rfl
theorem zc8 {prog : Program} {w : World} {A : Around} {E : Value -> Shared -> Prop} {s : Shared} {l : Addr} {items : Array Value} {b : Bool} {x : Value} {Q : Value -> Shared -> Prop} (hl : s.heap.IsList l items)
  (hx : items[(cond b 1 0 : Nat)]? = some x) (h : Q x s) : wpAny (model prog w) A (PySem.getItem (.ref l) (.bool b)) Q E s := by
 obtain ⟨o,ho,hc,ne,hd⟩ := id hl
 unfold PySem.getItem
 try with_reducible refine wpAny_holding ?_
 first | refine wpAny_bind (wpAny_pure ?_) | skip
 refine wpAny_bind (wpAny_sequenceKey hl.typeIs (by decide) ?_)
 refine wpAny_bind (wpAny_callSpecial?_slot (name:=Str.ofString "__getitem__") hl.typeIs slot_list_getitem
  (wpAny_call_entry slot_list_getitem hl.typeIs entry_list_getitem ?_ (args_list_getitem _ _)))
 show wpAny _ _ (Builtin.List.listSubscript? (.bool b) >>= _) _ _ s
 refine wpAny_bind ?_
 unfold Builtin.List.listSubscript?
 refine wpAny_bind (wpAny_specialOf (T:="bool") (PySem.typeIs_bool s b) bool_index ?_)
 show wpAny _ _ (asIndex (.bool b) >>= _) _ _ s
 refine wpAny_bind (wpAny_of_eq (asIndex_b b) ?_)
 cases b with
 | false =>
  have hx : items[0]? = some x := hx
  refine wpAny_pure ?_
  show wpAny _ _ ((seqItemAt l 0 >>= fun r => pure (r.map (0,·))) >>= _) _ _ s
  refine wpAny_bind (wpAny_bind (wpAny_seqItemAt ho hd (wpAny_pure ?_)))
  rw [hx]
  first
   | exact wpAny_bind (wpAny_pure (wpAny_pure ⟨x,rfl,wpAny_pure h⟩))
   | exact wpAny_pure ⟨x,rfl,wpAny_pure h⟩
 | true =>
  have hx : items[1]? = some x := hx
  refine wpAny_pure ?_
  show wpAny _ _ ((seqItemAt l 1 >>= fun r => pure (r.map (1,·))) >>= _) _ _ s
  refine wpAny_bind (wpAny_bind (wpAny_seqItemAt ho hd (wpAny_pure ?_)))
  rw [hx]
  first
   | exact wpAny_bind (wpAny_pure (wpAny_pure ⟨x,rfl,wpAny_pure h⟩))
   | exact wpAny_pure ⟨x,rfl,wpAny_pure h⟩
theorem snd_tail {value sl : Expr} (hsl : Sy sl) (S : St Y k w H s) {x y : Val} {vx vy : Value} (hx : VRel C w x vx) (hy : VRel C w y vy) : Ref Y k (VR C) (subscriptTail value sl vx vy) w s ((subscr H x y).map fun v => (v,H)) := by
 refine .omap fun v e => .val S fun Q E h => ?_
 have lst : ∀ {b : Addr} {mvs : List Val} {ws : List Value},s.heap.IsList b ws.toArray -> zab C w mvs ws -> mvs.length <= lim -> vx = .ref b -> (idx mvs.length y).bind (fun j => mvs[j]?) = some v -> wpAny C.M Y.A (subscriptTail value sl vx vy) Q E s := by
  intro b mvs ws hL rr hl e1 e
  obtain ⟨j,hj,e⟩ := bs e
  obtain ⟨z,t,rfl,h0,h1,rfl⟩ := idx_s hy hj
  obtain ⟨rv,hr,hv⟩ := rr.get e
  have hl' := zb2 hl
  subst e1
  exact tail_any hL.typeIs slot_list_getitem.lookup (wpAny_getItem_list hL h0 (Int.lt_trans h1 hl') (by rw [List.getElem?_toArray]; exact hr) (h rv s.toks hv)) (hsl.sub _ _)
 revert e
 refine zao (bs_r fun vs e1 => bs_r fun j hj e => ?_) (zao (bs_r fun vs e1 e => ?_) (zao (bs_r fun vs e1 e => ?_) (zao (bs_r fun str e1 => bs_r fun j hj => ms_r fun c hc e => ?_) (zao (bs_r fun p e1 => gs_r fun hf e => ?_) (bs_r fun vs e1 => bs_r fun bb e2 e => ?_)))))
 ·cases tup?_s e1
  obtain ⟨z,t,rfl,h0,h1,rfl⟩ := idx_s hy hj
  obtain ⟨b,o,n,ws,rfl,ho,hc,hd,rr,hl⟩ := S.tup hx
  obtain ⟨rv,hr,hv⟩ := rr.get e
  have hl' := zb2 hl
  exact item_tupleT (l:=ws) ⟨o,ho,hc,n,hd⟩ (by omega) (Int.lt_trans h1 hl') (seqIdx h0 (by rw [<- rr.length]; exact h1)) hr (h rv s.toks hv) (hsl.sub _ _)
 ·cases fl?_s e1
  obtain ⟨b,o,n,ws,e2,q,rr,hl⟩ := hx
  exact lst ⟨o,S.kIn _ _ q.1,q.2,n,q.3⟩ rr hl e2 e
 ·obtain ⟨b,ws,n,e2,ho,rr,hl⟩ := S.list hx e1
  exact lst ⟨_,ho,rfl,n,rfl⟩ rr hl e2 e
 ·obtain ⟨u,rfl,ok⟩ := hx.str? e1
  obtain ⟨z,t,rfl,h0,h1,rfl⟩ := idx_s hy hj
  have hl' := zb2 ok.2
  subst e
  refine tail_any (typeIs_str s ⟨str.toArray⟩ u) F.slot_str_getitem.lookup (P.getItem_str (c:=c) ?_ ?_ (h _ _ ⟨s.toks,rfl,fun y hy => List.mem_singleton.mp hy ▸ ok.1 c (List.mem_of_getElem? hc),(by decide : 1 <= lim)⟩)) (hsl.sub _ _)
  ·rw [decide_eq_false (by omega),decide_eq_false (by omega)]; rfl
  ·rw [show seqIndex? z (⟨str.toArray⟩ : Str).length = some z.toNat from seqIdx h0 h1]
   exact (List.getElem?_toArray).trans hc
 ·obtain ⟨i,_,b,n,es,rfl,_,_,hg,hdr,_,_⟩ := S.dict hx e1
  rcases zcp (Bool.and_eq_true_iff.mp hf).1 with ⟨q,rfl⟩ | ⟨q,rfl⟩
  ·obtain ⟨kvs,D⟩ := hdr.atom hf
   have hD := D.dictOf hg
   rcases D.get q with ⟨q1,_⟩ | ⟨mv,rv,q1,q2,q3⟩
   ·exact nos (q1.symm.trans e)
   ·cases q1.symm.trans e
    exact tail_any hD.typeIs slot_dict_getitem.lookup (wpAny_getItem_of hy.atom.1 hD.mapOf q2 (h rv _ q3)) (hsl.sub _ _)
  ·obtain ⟨xs,D⟩ := hdr.tups hf
   have hD := D.dictOf S hg
   obtain ⟨t,rfl,ht⟩ := S.tupKey hy
   rcases D.get q with ⟨q1,_⟩ | ⟨mv,rv,q1,q2,q3⟩
   ·exact nos (q1.symm.trans e)
   ·cases q1.symm.trans e
    obtain ⟨pp,q4,rfl⟩ := ms q2
    exact tail_any hD.typeIs slot_dict_getitem.lookup (wpAny_getItem_heap Y.room ht hD q4 (h pp.2 _ q3)) (hsl.sub _ _)
 ·cases bool?_s e2
  cases (show vy = .bool bb from hy)
  obtain ⟨b,ws,n,e3,ho,rr,hl⟩ := S.list hx e1
  subst e3
  obtain ⟨rv,hr,hv⟩ := rr.get e
  have hL : s.heap.IsList b ws.toArray := ⟨_,ho,rfl,n,rfl⟩
  exact tail_any hL.typeIs slot_list_getitem.lookup (zc8 hL (by rw [List.getElem?_toArray]; exact hr) (h rv s.toks hv)) (hsl.sub _ _)
theorem snd_sub {v sl : Expr} {ie ii : Ex} {pos : Pos} (hv : ESnd C d cx v ie) (hi : Sd C d cx sl ii) : ESnd C d cx (.Subscript v sl pos) (.sub ie ii) :=
 fun Y env k mE fr w H s p r => zad fun x H1 e1 => zad fun y H2 e2 e Q E hq => Subscript_ (hv Y env k mE fr w H s p _ e1 _ _ fun w1 a1 s1 n1 r1 => hi.es Y env k mE fr w1 H1 s1 (p.next n1) _ e2 _ _ fun w2 a2 s2 n2 r2 =>
  snd_tail hi.sy n2.st (r1.mono n2.le) r2 r e _ _ fun w3 a3 s3 n3 r3 => hq w3 a3 s3 ((n1.trans n2).trans n3) r3)
theorem snd_compare (K : zdi C) {l r : Expr} {op : CmpOp} {il ir : Ex} {pos : Pos} (hl : ESnd C d cx l il) (hr : Sd C d cx r ir) : ESnd C d cx (.Compare l [op] [r] pos) (.cmp (copOf op) il ir) :=
 fun Y env k mE fr w H s p r => zad fun x H1 e1 => zad fun y H2 e2 e Q E hq => wpAny_Compare1 (hl Y env k mE fr w H s p _ e1 _ _ fun w1 a1 s1 n1 r1 => hr.es Y env k mE fr w1 H1 s1 (p.next n1) _ e2 _ _ fun w2 a2 s2 n2 r2 =>
  snd_cmp K n2.st (r1.mono n2.le) r2 r e _ _ fun w3 a3 s3 n3 r3 => hq w3 a3 s3 ((n1.trans n2).trans n3) r3) (hr.sy.marks _)
theorem tsnd_compare (K : zdi C) {l r : Expr} {op : CmpOp} {il ir : Ex} {pos : Pos} (hl : ESnd C d cx l il) (hr : Sd C d cx r ir) : TSnd C d cx (.Compare l [op] [r] pos) (.cmp (copOf op) il ir) := by
 intro Y env k mE fr w H s p r
 refine zad fun v H' e0 => ms_r fun b et e => ?_
 revert e0
 refine zad fun x H1 e1 => zad fun y H2 e2 => ms_r fun c e3 e4 => ?_
 cases e4
 cases et
 subst e
 exact fun Q E hq => wpAny_isTrue_Compare1 (hl Y env k mE fr w H s p _ e1 _ _ fun w1 a1 s1 n1 r1 => hr.es Y env k mE fr w1 H1 s1 (p.next n1) _ e2 _ _ fun w2 a2 s2 n2 r2 =>
  snd_cmp K n2.st (r1.mono n2.le) r2 (.bool b,H') (by rw [e3]; rfl) _ _ fun w3 a3 s3 n3 r3 => by rw [show a3 = .bool b from r3]; exact wpAny_truthy_bool (hq w3 b s3 ((n1.trans n2).trans n3) rfl)) (hr.sy.marks _)
theorem snd_not {x : Expr} {ix : Ex} {pos : Pos} (hx : ESnd C d cx x ix) : ESnd C d cx (.UnaryOp .Not x pos) (.not ix) := by
 intro Y env k mE fr w H s p r
 refine zad fun b H1 e0 e => ?_
 revert e0
 refine zad fun x' H1' e1 => ms_r fun b' e2 e3 => ?_
 cases e3; cases e
 exact fun Q E hq => wpAny_bind (hx Y env k mE fr w H s p _ e1 _ _ fun w1 a1 s1 n1 r1 => wpAny_bind (wpAny_standAt (wpAny_holding (not_value (zbN n1.st r1 e2 fun tk => hq w1 _ _ (n1.trans (.toks n1.st tk)) rfl)))))
theorem tsnd_not {x : Expr} {ix : Ex} {pos : Pos} (hx : TSnd C d cx x ix) : TSnd C d cx (.UnaryOp .Not x pos) (.not ix) := by
 intro Y env k mE fr w H s p r
 refine zad fun v H' e0 => ms_r fun b et e => ?_
 revert e0
 refine zad fun b' H1 e1 e2 => ?_
 cases e2; cases et; subst e
 exact fun Q E hq => isTrue_not (hx Y env k mE fr w H s p _ e1 _ _ fun w1 a1 s1 n1 r1 => by rw [show a1 = b' from r1]; exact hq w1 _ s1 n1 rfl)
theorem snd_ite {t x y : Expr} {it ix iy : Ex} {pos : Pos} (ht : TSnd C d cx t it) (hx : ESnd C d cx x ix) (hy : ESnd C d cx y iy) : ESnd C d cx (.IfExp t x y pos) (.ite it ix iy) := by
 intro Y env k mE fr w H s p r
 refine zad fun b H1 e1 e => ?_
 refine fun Q E hq => wpAny_bind (ht Y env k mE fr w H s p _ e1 _ _ fun w1 a1 s1 n1 r1 => ?_)
 rw [show a1 = b from r1]
 cases b with
 | true => exact hx Y env k mE fr w1 H1 s1 (p.next n1) _ e _ _ fun w2 a2 s2 n2 r2 => hq w2 a2 s2 (n1.trans n2) r2
 | false => exact hy Y env k mE fr w1 H1 s1 (p.next n1) _ e _ _ fun w2 a2 s2 n2 r2 => hq w2 a2 s2 (n1.trans n2) r2
theorem tsnd_ite {t x y : Expr} {it ix iy : Ex} {pos : Pos} (ht : TSnd C d cx t it) (hx : TSnd C d cx x ix) (hy : TSnd C d cx y iy) : TSnd C d cx (.IfExp t x y pos) (.ite it ix iy) := by
 intro Y env k mE fr w H s p r
 refine zad fun v H' e0 e => ?_
 revert e0
 refine zad fun b H1 e1 e0 => ?_
 refine fun Q E hq => isTrue_IfExp (ht Y env k mE fr w H s p _ e1 _ _ fun w1 a1 s1 n1 r1 => ?_)
 rw [show a1 = b from r1]
 cases b with
 | true => exact hx Y env k mE fr w1 H1 s1 (p.next n1) r (by show zak (eval _ _ _ _) = _; rw [show eval (C.cx d) ix fr H1 = some (v,H') from e0]; exact e) _ _ fun w2 a2 s2 n2 r2 => hq w2 a2 s2 (n1.trans n2) r2
 | false => exact hy Y env k mE fr w1 H1 s1 (p.next n1) r (by show zak (eval _ _ _ _) = _; rw [show eval (C.cx d) iy fr H1 = some (v,H') from e0]; exact e) _ _ fun w2 a2 s2 n2 r2 => hq w2 a2 s2 (n1.trans n2) r2
theorem snd_bop {op : BoolOp} {pos : Pos} {es : List Expr} {irs : List Ex} (h : Sds C d cx es irs) : ∀ (Y : Actv C d 2) (env : Env) (k : Kp) (mE : Str -> Option Value) (fr : Frame) (w : Wd) (H : MH) (s : Shared),Pl Y cx env k mE fr w H s -> Ref Y k (VR C) (boolOp pos op (evalEach es env)) w s (evalB (C.cx d) (op == .Or) irs fr H) := by
 induction h with
 | nil => exact fun Y env k mE fr w H s p => .none
 | @cons ex i es irs he hs ih =>
  intro Y env k mE fr w H s p r
  refine zad fun v H1 e1 e => ?_
  cases hs with
  | nil => cases e; exact he.es Y env k mE fr w H s p _ e1
  | @cons e' i' es' irs' he' hs' =>
   revert e
   refine bs_r fun b e2 e => ?_
   intro Q E hq
   show wpAny C.M Y.A (do
    let v <- PySem.eval ex env
    standAt pos
    let t <- holding [v] (PySem.truthy v)
    match op,t with
    | .And,false | .Or,true => pure v
    | _,_ => boolOp pos op (evalEach (e' :: es') env)) Q E s
   refine wpAny_bind (he.es Y env k mE fr w H s p _ e1 _ _ fun w1 a1 s1 n1 r1 => wpAny_bind (wpAny_standAt (wpAny_bind (wpAny_holding (zbN n1.st r1 e2 fun tk => ?_)))))
   have n2 := n1.trans (.toks n1.st tk)
   have stop : some (v,H1) = some r -> wpAny C.M Y.A (pure a1) Q E { s1 with toks := tk } := fun e => by cases e; exact wpAny_pure (hq w1 a1 _ n2 r1)
   have go : evalB (C.cx d) (op == .Or) (i' :: irs') fr H1 = some r -> wpAny C.M Y.A (boolOp pos op (evalEach (e' :: es') env)) Q E { s1 with toks := tk } := fun e => ih Y env k mE fr w1 H1 _ (p.next n2) r e Q E fun w2 a2 s2 n3 r2 => hq w2 a2 s2 (n2.trans n3) r2
   cases op <;> cases b
   ·exact stop e
   ·exact go e
   ·exact go e
   ·exact stop e
theorem tsnd_bop {op : BoolOp} {es : List Expr} {irs : List Ex} (h : Sds C d cx es irs) : ∀ (Y : Actv C d 2) (env : Env) (k : Kp) (mE : Str -> Option Value) (fr : Frame) (w : Wd) (H : MH) (s : Shared),Pl Y cx env k mE fr w H s -> Ref Y k EqR (allTrue op es env) w s (zak (evalB (C.cx d) (op == .Or) irs fr H)) := by
 induction h with
 | nil => exact fun Y env k mE fr w H s p => .none
 | @cons ex i es irs he hs ih =>
  intro Y env k mE fr w H s p r
  refine zad fun v H' e0 => ms_r fun b et e => ?_
  revert e0
  refine zad fun v1 H1 e1 e2 => ?_
  -- the first test
  have first : ∀ c,truthy H1 v1 = some c -> ∀ {Q : Bool -> Shared -> Prop} {E : Value -> Shared -> Prop},(∀ w1 s1,Nxt Y k w w1 H1 s s1 -> Q c s1) -> wpAny C.M Y.A (PySem.isTrue ex env (PySem.eval ex env)) Q E s := fun c hc Q E hq =>
   he.ts Y env k mE fr w H s p (c,H1) (by show bnd (eval _ _ _ _) _ = _; rw [show eval (C.cx d) i fr H = some (v1,H1) from e1]; show Option.map _ (truthy H1 v1) = _; rw [hc]; rfl) Q E fun w1 a1 s1 n1 r1 => by rw [show a1 = c from r1]; exact hq w1 s1 n1
  subst e
  intro Q E hq
  cases hs with
  | nil =>
   cases e2
   cases op with
   | And =>
    refine wpAny_allTrue_And_cons (first b et fun w1 s1 n1 => ?_)
    cases b with
    | true => exact wpAny_allTrue_And_nil (hq w1 _ s1 n1 rfl)
    | false => exact hq w1 _ s1 n1 rfl
   | Or =>
    refine wpAny_allTrue_Or_cons (first b et fun w1 s1 n1 => ?_)
    cases b with
    | true => exact hq w1 _ s1 n1 rfl
    | false => exact wpAny_allTrue_Or_nil (hq w1 _ s1 n1 rfl)
  | @cons e' i' es' irs' he' hs' =>
   obtain ⟨c,e3,e4⟩ := bs e2
   have stop : some (v1,H1) = some (v,H') -> c = b /\ H1 = H' := fun q => by
    cases q
    exact ⟨Option.some.inj (e3.symm.trans et),rfl⟩
   have go : ∀ w1 s1,Nxt Y k w w1 H1 s s1 -> evalB (C.cx d) (op == .Or) (i' :: irs') fr H1 = some (v,H') -> wpAny C.M Y.A (allTrue op (e' :: es') env) Q E s1 := fun w1 s1 n1 q =>
    ih Y env k mE fr w1 H1 s1 (p.next n1) (b,H') (by show bnd (evalB _ _ _ _ _) _ = _; rw [q]; show Option.map _ (truthy H' v) = _; rw [et]; rfl) Q E fun w2 a2 s2 n2 r2 => hq w2 a2 s2 (n1.trans n2) r2
   cases op with
   | And =>
    refine wpAny_allTrue_And_cons (first c e3 fun w1 s1 n1 => ?_)
    cases c with
    | true => exact go w1 s1 n1 e4
    | false => obtain ⟨rfl,rfl⟩ := stop e4; exact hq w1 _ s1 n1 rfl
   | Or =>
    refine wpAny_allTrue_Or_cons (first c e3 fun w1 s1 n1 => ?_)
    cases c with
    | true => obtain ⟨rfl,rfl⟩ := stop e4; exact hq w1 _ s1 n1 rfl
    | false => exact go w1 s1 n1 e4
end
end Mi
namespace Mi
open PySem PySem.W PySem.Calls PyProof.Rows
section
variable {C : Cfg} {d e : Nat} {Y : Actv C d e} {k : Kp} {w : Wd} {H : MH} {s : Shared} {cx : CC} {env : Env} {mE : Str -> Option Value} {fr : Frame}
structure PutO (C : Cfg) (w : Wd) {α : Type} (mk : α -> Val) (mes : List (Val × Val)) (kvs : List (α × Value)) : Prop where
 e : mes.map (·.1) = kvs.map (fun p => mk p.1)
 r : zab C w (mes.map (·.2)) (kvs.map (·.2))
theorem put_sides {α : Type} [DecidableEq α] {mk : α -> Val} (hmk : ∀ a b,kEq (mk a) (mk b) = decide (a = b)) (k : α) {mv : Val} {rv : Value} (hv : VRel C w mv rv) {mes : List (Val × Val)} {kvs : List (α × Value)} (P : PutO C w mk mes kvs) (hany : (dget mes (mk k)).isSome = kvs.any (fun kv => kv.1 = k)) :
  PutO C w mk (dput mes (mk k) mv) (stored kvs k rv) := by
 unfold dput stored
 rw [hany]
 cases hc : kvs.any (fun kv => decide (kv.1 = k)) with
 | false =>
  refine ⟨?_,?_⟩
  ·show (mes ++ [_]).map _ = (kvs ++ [_]).map _
   rw [List.map_append,List.map_append,P.e]; rfl
  ·show zab C w ((mes ++ [_]).map _) ((kvs ++ [_]).map _)
   rw [List.map_append,List.map_append]
   exact zab.append (.one hv) P.r
 | true =>
  obtain ⟨e,r⟩ := P
  clear hc hany
  show PutO C w mk (mes.map _) (kvs.map _)
  induction kvs generalizing mes with
  | nil => rw [List.map_eq_nil_iff.mp e]; exact ⟨rfl,.nil⟩
  | cons y kvs ih =>
   cases mes with
   | nil => cases e
   | cons x mes =>
    obtain ⟨e1,e2⟩ := List.cons.inj e
    obtain ⟨v,t,ev,h,r⟩ := r
    obtain ⟨rfl,rfl⟩ := List.cons.inj ev
    obtain ⟨i1,i2⟩ := ih e2 r
    have e1 : x.1 = mk y.1 := e1
    have hk : kEq x.1 (mk k) = decide (y.1 = k) := by rw [e1,hmk]
    by_cases q : y.1 = k
    ·rw [decide_eq_true q] at hk
     refine ⟨?_,?_⟩
     ·show (bif kEq x.1 (mk k) then _ else _ : Val × Val).1 :: _ = _
      rw [i1,hk,List.map_cons,List.map_cons,if_pos q]
      exact congrArg (· :: _) e1
     ·show zab C w ((bif kEq x.1 (mk k) then _ else _ : Val × Val).2 :: _) _
      rw [hk,List.map_cons,List.map_cons,if_pos q]
      exact .cons hv i2
    ·rw [decide_eq_false q] at hk
     refine ⟨?_,?_⟩
     ·show (bif kEq x.1 (mk k) then _ else _ : Val × Val).1 :: _ = _
      rw [i1,hk,List.map_cons,List.map_cons,if_neg q]
      exact congrArg (· :: _) e1
     ·show zab C w ((bif kEq x.1 (mk k) then _ else _ : Val × Val).2 :: _) _
      rw [hk,List.map_cons,List.map_cons,if_neg q]
      exact .cons h i2
theorem dput_len (mes : List (Val × Val)) (k v : Val) : (dput mes k v).length = (bif (dget mes k).isSome then mes.length else mes.length + 1) := by
 unfold dput
 cases (dget mes k).isSome with
 | true => exact List.length_map ..
 | false => exact List.length_append
theorem dput_le {mes : List (Val × Val)} {k v : Val} {n : Nat} (h : mes.length < n) : (dput mes k v).length <= n := by
 rw [dput_len]
 cases (dget mes k).isSome with
 | true => exact Nat.le_of_lt h
 | false => exact h
theorem zcy {α : Type} [DecidableEq α] (kvs : List (α × Value)) (k : α) : (valueAt kvs k).isSome = kvs.any (fun kv => kv.1 = k) := by
 unfold valueAt
 rw [Option.isSome_map,Bool.eq_iff_iff,List.find?_isSome,List.any_eq_true]
theorem wp_put {A : Around} (S : St Y k w H s) (hu : A.units + 1 < cLine) {D : Addr} {mes : List (Val × Val)} {es : List DictEntry} {n : Nat} (hob : s.heap.get? D = some (dictOf es n)) (j : DRel C w mes es) {x v : Val} {kv vv : Value} (hf : zat mes x = true) (hlen : mes.length < lim) (hk : VRel C w x kv) (hv : VRel C w v vv)
  {Q : Unit -> Shared -> Prop} {E : Value -> Shared -> Prop}
  (h : ∀ es' h' tk,Heap.SameBut D s.heap h' -> h'.get? D = some (dictOf es' (bif (dget mes x).isSome then n else n + 1)) -> DRel C w (dput mes x v) es' -> Q () { s with heap := h',toks := tk }) : wpAny C.M A (dictSet D kv vv) Q E s := by
 have ci : ∀ {b : Bool} {x y : Nat},(if b = true then x else y) = (bif b then x else y) := fun {b x y} => by cases b <;> rfl
 rcases zcp (Bool.and_eq_true_iff.mp hf).1 with ⟨q,rfl⟩ | ⟨q,rfl⟩
 ·obtain ⟨kvs,DD⟩ := j.atom hf
  obtain ⟨h1,h2⟩ := hk.atom
  have hl : es.length <= sizeLine := by rw [(DRel.entries (.inl ⟨kvs,DD⟩)).1]; exact Nat.le_trans (Nat.le_of_lt hlen) lim_line
  have hany := (DD.get q).isSome.trans (zcy kvs q)
  refine wp_dictSet (knd:=zay C.prog C.w) h1 hob DD.k DD.p DD.n hl fun es' f hfe q1 q2 q3 => ?_
  rw [<- hany,ci] at hfe
  have P := put_sides kEq_atom q hv ⟨DD.e,DD.r⟩ hany
  refine h es' _ _ (Heap.SameBut.update ..) ?_ (.inl ⟨_,q2,q1,q3,P.e,fun p hp => ?_,P.r⟩)
  ·rw [<- hfe]
   exact Heap.get?_update_self _ hob (by rw [hfe]; rfl)
  ·unfold stored at hp
   split at hp
   ·obtain ⟨q,hq,rfl⟩ := List.mem_map.mp hp
    split <;> exact DD.ok q hq
   ·rcases List.mem_append.mp hp with hp | hp
    ·exact DD.ok p hp
    ·rw [List.mem_singleton.mp hp]; exact h2
 ·obtain ⟨xs,DD⟩ := j.tups hf
  obtain ⟨t,rfl,ht⟩ := S.tupKey hk
  have hl : xs.length <= sizeLine := by rw [<- len_e DD.e]; exact Nat.le_trans (Nat.le_of_lt hlen) lim_line
  refine wp_dictSetH (knd:=tupleKind (zay C.prog C.w)) (show A.units < cLine from Nat.lt_of_succ_lt hu) ht (DD.es ▸ hob) (DD.keys S) DD.n hl fun f hfe q3 => ?_
  have hany := (DD.get q).isSome
  rw [Option.isSome_map] at hany
  rw [<- hany,ci] at hfe
  have P := put_sides (mk:=fun as : List Atom => Val.tup (as.map Atom.val)) kEq_tup q hv ⟨DD.sides.1,DD.sides.2⟩ (by rw [<- zcy,valueAt_kvsOf,Option.isSome_map]; exact hany)
  rw [<- kvsOf_storedH xs q t vv] at P
  refine h _ _ _ (Heap.SameBut.update ..) ?_ (.inr ⟨_,rfl,q3,fun x hx => ?_,?_,?_⟩)
  ·rw [<- hfe,<- DD.es]
   exact Heap.get?_update_self _ hob (by rw [DD.es,hfe]; rfl)
  ·rcases mem_storedH hx with ⟨y,hy,q1,q2⟩ | ⟨q1,q2⟩
   ·rw [q1,q2]; exact DD.v y hy
   ·rw [q1,q2]; exact hk
  ·rw [P.e]; simp [kvsOf]
  ·have := P.r
   simpa [kvsOf,Function.comp_def] using this
theorem Pl.ext (p : Pl Y cx env k mE fr w H s) {q : Addr × Obj} {s' : Shared} (S : St Y (k.ext q) w H s') : Pl Y cx env (k.ext q) mE fr w H s' :=
 ⟨⟨p.b.kind,p.b.gl,p.b.bl,p.b.sc,p.b.cells,p.b.loc.imp id fun ⟨o,h⟩ => ⟨o,.tail _ h.1,h.2⟩⟩,p.f,S⟩
noncomputable def flatP : List (Value × Value) -> List Value
 | [] => []
 | p :: r => p.1 :: p.2 :: flatP r
theorem flatP_len (ws : List (Value × Value)) : (flatP ws).length = 2 * ws.length := by
 induction ws with
 | nil => rfl
 | cons p ws ih => rw [List.length_cons,Nat.mul_succ]; exact congrArg (· + 2) ih
noncomputable abbrev SdK (C : Cfg) (d : Nat) (cx : CC) (o : Option Expr) (i : Ex) : Prop := ∃ e,o = some e /\ Sd C d cx e i
theorem snd_pairs {pos : Pos} {ks : List (Option Expr)} {ia : List Ex} (hk : All2 (SdK C d cx) ks ia) : ∀ {vs : List Expr} {ib : List Ex},Sds C d cx vs ib -> ks.length = vs.length -> ∀ (Y : Actv C d 2) (env : Env) (k : Kp) (mE : Str -> Option Value) (fr : Frame) (w : Wd) (H : MH) (s : Shared),Pl Y cx env k mE fr w H s ->
  Ref Y k (fun w l ws => zab C w l (flatP ws)) (evalPairs (pairTrees ks vs env pos)) w s (zaT (C.cx d) (zipKV ia ib) fr H) := by
 induction hk with
 | nil =>
  intro vs ib hv hl Y env k mE fr w H s p r e
  cases hv with
  | nil => cases e; exact fun Q E hq => evalPairs_nil (hq w [] s (.refl p.st) .nil)
  | cons _ _ => cases hl
 | cons hk _ ih =>
  intro vs ib hv hl Y env k mE fr w H s p r
  cases hv with
  | nil => cases hl
  | @cons v b vs ib hv hvs =>
   obtain ⟨ke,rfl,hk⟩ := hk
   refine zad fun x H1 e1 => zad fun l H2 e0 e => ?_
   revert e0
   refine zad fun y H3 e2 => zad fun l' H4 e3 e4 => ?_
   cases e4; cases e
   exact fun Q E hq => evalPairs_cons (hk.es Y env k mE fr w H s p _ e1 _ _ fun w1 a1 s1 n1 r1 => wpAny_bind (hv.es Y env k mE fr w1 H1 s1 (p.next n1) _ e2 _ _ fun w2 a2 s2 n2 r2 => wpAny_bind (wpAny_standAt (wpAny_pure
    (ih hvs (Nat.succ.inj hl) Y env k mE fr w2 H3 s2 ((p.next n1).next n2) _ e3 _ _ fun w3 a3 s3 n3 r3 => hq w3 ((a1,a2) :: a3) s3 ((n1.trans n2).trans n3) (.cons (r1.mono (n2.le.trans n3.le)) (.cons (r2.mono n3.le) r3)))))))
theorem store_go {D : Addr} : ∀ {ws : List (Value × Value)} {l : List Val} {mes mes' : List (Val × Val)} {es : List DictEntry} {s : Shared} {Q : PUnit -> Shared -> Prop} {E : Value -> Shared -> Prop},
  zab C w l (flatP ws) -> dpairs l mes = some mes' -> mes.length + ws.length <= 1000 -> St Y (k.ext (D,dictOf es mes.length)) w H s -> DRel C w mes es ->
  (∀ es' s',St Y (k.ext (D,dictOf es' mes'.length)) w H s' -> DRel C w mes' es' -> Same s s' -> Q PUnit.unit s') -> wpAny C.M Y.A (storeAll D ws) Q E s := by
 intro ws
 induction ws with
 | nil =>
  intro l mes mes' es s Q E r e _ S j hq
  cases l with
  | nil => cases e; exact wpAny_pure (hq es s S j (.refl s))
  | cons _ _ => obtain ⟨_,_,e,_,_⟩ := r; cases e
 | cons p ws ih =>
  intro l mes mes' es s Q E r e hl S j hq
  cases l with
  | nil => cases r
  | cons x l =>
   obtain ⟨kv,t,e1,hk,r⟩ := r
   cases e1
   cases l with
   | nil => cases r
   | cons v l =>
    obtain ⟨vv,t,e1,hv,r⟩ := r
    cases e1
    obtain ⟨hf,e⟩ := gs e
    have hl' : mes.length < 1000 := Nat.lt_of_lt_of_le (Nat.lt_add_of_pos_right (Nat.succ_pos _)) hl
    unfold storeAll
    rw [List.forIn_cons]
    refine wpAny_bind (wpAny_bind (wp_put S (Y.u (n:=1) (by decide)) S.exHead.1 j hf (Nat.lt_trans hl' (by decide)) hk hv fun es' h' tk hs hg j' => wpAny_pure ?_))
    rw [<- dput_len (v:=v)] at hg
    refine ih (s:={ s with heap := h',toks := tk }) r e ?_ (S.setEx hs hg) j' fun es'' s'' S'' j'' sm => hq es'' s'' S'' j'' ⟨sm.1,sm.2⟩
    exact Nat.le_trans (Nat.add_le_add_right (dput_le (Nat.lt_succ_self _)) _) (by rw [Nat.succ_add_eq_add_succ]; exact hl)
theorem zip_len {ks : List (Option Expr)} {ia : List Ex} (hk : All2 (SdK C d cx) ks ia) : ∀ {ib : List Ex},ib.length = ks.length -> ks.all (·.isSome) = true /\ (zipKV ia ib).length = 2 * ks.length := by
 induction hk with
 | nil => exact fun _ => ⟨rfl,rfl⟩
 | cons h _ ih =>
  intro ib hl
  cases ib with
  | nil => cases hl
  | cons b ib =>
   obtain ⟨_,rfl,_⟩ := h
   obtain ⟨q1,q2⟩ := ih (Nat.succ.inj hl)
   exact ⟨q1,by rw [List.length_cons,Nat.mul_succ,<- q2]; rfl⟩
theorem snd_dict {ks : List (Option Expr)} {vs : List Expr} {ia ib : List Ex} {pos : Pos} (hk : All2 (SdK C d cx) ks ia) (hv : Sds C d cx vs ib) (hl : ks.length = vs.length) : ESnd C d cx (.Dict ks vs pos) (.dict (zipKV ia ib)) := by
 intro Y env k mE fr w H s p r
 refine zad fun l H1 e1 => bs_r fun es e2 => gs_r fun hlen e => ?_
 cases e
 have hlen := Nat.ble_eq.mp hlen
 obtain ⟨hall,hz⟩ := zip_len hk (hv.length.trans hl.symm)
 intro Q E hq
 have S0 := p.st.addEx { cls := .type "dict",data := .dict #[] } rfl
 have fin : ∀ {w' : Wd} {des : List DictEntry} {s' : Shared},w.le w' -> St Y (k.ext (s.heap.objs.size,dictOf des es.length)) w' H1 s' -> DRel C w' es des -> es.length <= lim -> Same s s' -> Q (.ref s.heap.objs.size) s' := fun {w' des s'} le S' j' hl sm =>
  have le2 : w'.le ⟨w'.σ ++ [s.heap.objs.size],w'.tp⟩ := ⟨List.prefix_append _ _,fun _ x => x⟩
  hq _ _ s' ⟨le.trans le2,S'.fromEx (p.st.four (Nat.le_refl _)) ⟨des,_,rfl,fun e he => Option.some.inj he,j'.mono le2,hl⟩,sm⟩ ⟨_,rfl,by rw [<- S'.len]; exact List.getElem?_concat_length⟩
 by_cases h0 : ks = []
 ·subst h0
  cases hk
  have hvs : vs = [] := List.length_eq_zero_iff.mp hl.symm
  subst hvs
  cases hv
  cases e1
  cases e2
  exact wpAny_Dict_empty (fin (s' := { s with heap := s.heap.push { cls := .type "dict",data := .dict #[] } }) (.refl w) S0 (.inl ⟨[],.nil⟩) (Nat.zero_le _) ⟨rfl,rfl⟩)
 ·refine wpAny_Dict_any hall hl h0 (by omega) (snd_pairs hk hv hl Y env _ mE fr w H _ (p.ext S0) _ e1 _ _ fun w1 ws s1 n1 r1 => ?_)
  have hws : l.length = 2 * ws.length := by rw [<- flatP_len]; exact r1.length
  have hel : l.length = (zipKV ia ib).length := zbi e1
  have hsz : ∀ {l : List Val} {mes mes' : List (Val × Val)},dpairs l mes = some mes' -> mes'.length <= mes.length + l.length := by
   intro l mes mes' e
   fun_induction dpairs l mes with
   | case1 => cases e; exact Nat.le_refl _
   | case2 => cases e
   | case3 es k v r ih =>
    obtain ⟨_,e⟩ := gs e
    refine Nat.le_trans (ih e) (Nat.le_trans (Nat.add_le_add_right (dput_le (Nat.lt_succ_self _)) _) ?_)
    simp only [List.length_cons]; omega
  have hes := hsz e2
  exact store_go (mes:=[]) (es:=[]) r1 e2 (by rw [List.length_nil]; omega) n1.st (.inl ⟨[],.nil⟩) fun des s' S' j' sm => fin n1.le S' j' (by rw [List.length_nil] at hes; exact Nat.le_trans hes (Nat.le_trans (by omega : _ <= 30) (by decide))) (Same.trans (b:=s1) ⟨n1.same.1,n1.same.2⟩ sm)
theorem txt_slice (s : List Nat) {l u : Option Int} (hl : ∀ i,l = some i -> 0 <= i) (hu : ∀ i,u = some i -> 0 <= i) :
  Txt.slice ⟨s.toArray⟩ l u = ⟨(cut s (l.elim 0 (fun i => min i.toNat s.length)) (u.elim s.length (fun i => min i.toNat s.length))).toArray⟩ := by
 have hlen : (⟨s.toArray⟩ : Str).length = s.length := rfl
 generalize ha : l.elim 0 (fun i => min i.toNat s.length) = a
 generalize hb : u.elim s.length (fun i => min i.toNat s.length) = b
 have hbn : b <= s.length := by
  cases u with
  | none => exact Nat.le_of_eq hb.symm
  | some j => exact hb ▸ Nat.min_le_right _ _
 have hidx : Builtin.Str.strSliceIndices l u 1 s.length = (List.range (b - a)).map (a + ·) := by
  rw [<- sliceRange_one]
  unfold Builtin.Str.strSliceIndices
  simp only [show (1 : Int) > 0 by decide,if_true]
  congr 1
  ·cases l with
   | none => exact congrArg Nat.cast ha
   | some i =>
    have := hl i rfl
    simp only [Option.elim] at ha
    show max 0 (min (if i < 0 then i + (s.length : Int) else i) (s.length : Int)) = (a : Int)
    rw [if_neg (by omega)]
    omega
  ·cases u with
   | none => exact congrArg Nat.cast hb
   | some i =>
    have := hu i rfl
    simp only [Option.elim] at hb
    show max 0 (min (if i < 0 then i + (s.length : Int) else i) (s.length : Int)) = (b : Int)
    rw [if_neg (by omega)]
    omega
 unfold Txt.slice
 rw [hlen,hidx]
 have hpick : (List.map (fun x => a + x) (List.range (b - a))).filterMap (fun x => (⟨s.toArray⟩ : Str).cps[x]?) = (s.drop a).take (b - a) := pick_run s.toArray a (b - a)
 have hcut : cut s a b = (s.drop a).take (b - a) := by unfold cut; rw [List.drop_take]
 rw [hpick,hcut]
 split
 ·rename_i h
  simp only [beq_self_eq_true,Bool.true_and,beq_iff_eq,List.length_map,List.length_range] at h
  by_cases h0 : s.length = 0
  ·rw [List.length_eq_zero_iff.mp h0]; simp
  ·rw [show a = 0 by omega,show b = s.length by omega]; simp
 ·rfl
theorem zab.cut {ms : List Val} {vs : List Value} (r : zab C w ms vs) (a b : Nat) : zab C w (Mi.cut ms a b) (Mi.cut vs a b) := by
 have hd : ∀ {ms : List Val} {vs : List Value},zab C w ms vs -> ∀ b,zab C w (ms.drop b) (vs.drop b) := by
  intro ms
  induction ms with
  | nil => intro vs r b; cases r; simp only [List.drop_nil]; exact .nil
  | cons x ms ih =>
   intro vs r b
   cases b with
   | zero => exact r
   | succ b => obtain ⟨v,t,rfl,_,r⟩ := r; exact ih r b
 have ht : ∀ {ms : List Val} {vs : List Value},zab C w ms vs -> ∀ b,zab C w (ms.take b) (vs.take b) := by
  intro ms
  induction ms with
  | nil => intro vs r b; cases r; simp only [List.take_nil]; exact .nil
  | cons x ms ih =>
   intro vs r b
   cases b with
   | zero => exact .nil
   | succ b => obtain ⟨v,t,rfl,h,r⟩ := r; exact .cons h (ih r b)
 exact hd (ht r b) a
structure BdO (C : Cfg) (v : Value) (l : Option Int) : Prop where
 nn : ∀ i,l = some i -> 0 <= i
 p : (l = none /\ v = .none) \/ ∃ i t,l = some i /\ v = .int i t
theorem BdO.none : BdO C .none none := ⟨fun _ q => nos q,.inl ⟨rfl,rfl⟩⟩
theorem zdd {n c : Nat} {x : Val} {v : Value} (hv : VRel C w x v) (h : zbq n x = some c) : ∃ i,BdO C v (some i) /\ c = min i.toNat n := by
 obtain ⟨i,e1,h⟩ := bs h
 obtain ⟨hb,e⟩ := gs h
 obtain ⟨t,e2⟩ := hv.int? e1
 exact ⟨i,⟨fun j q => Option.some.inj q ▸ of_decide_eq_true hb,.inr ⟨i,t,rfl,e2⟩⟩,(Option.some.inj e).symm⟩
theorem cut_sOk {x : List Nat} {a b : Nat} (h : sOk x) : sOk (cut x a b) :=
 ⟨fun c hc => h.1 c (List.mem_of_mem_take (List.mem_of_mem_drop hc)),Nat.le_trans (by unfold cut; rw [List.length_drop,List.length_take]; omega) h.2⟩
theorem snd_cut {value : Expr} {lo' hi' : Option Expr} {sp : Pos} (hc : (za1 value).isSome = true) {s0 : Shared} (S : St Y k w H s0) {o : Val} {ov vl vu : Value} {n' : Nat} {bvs : List Val} (ho : VRel C w o ov)
  (hb : ∀ n p,bounds n n' bvs = some p -> ∃ l u,BdO C vl l /\ BdO C vu u /\ p = (l.elim 0 (fun i => min i.toNat n),u.elim n (fun i => min i.toNat n))) (hs : s = { s0 with heap := s0.heap.push { cls := .type "slice",data := .fields #[vl,vu,.none] } }) {r : Val × MH} (e : slice H o n' bvs = some r) {Q : Value -> Shared -> Prop} {E : Value -> Shared -> Prop}
  (hq : ∀ w' a s',Nxt Y k w w' r.2 s0 s' -> VRel C w' r.1 a -> Q a s') : wpAny C.M Y.A (subscriptTail value (.Slice lo' hi' none sp) ov (.ref s0.heap.objs.size)) Q E s := by
 subst hs
 have hgo : ∀ o r,letTemporaryGo value o r = pure () := by
  obtain ⟨p,hp⟩ := Option.isSome_iff_exists.mp hc
  rw [zaD hp]; exact fun _ _ => rfl
 revert e
 refine zao (bs_r fun x e1 => bs_r fun p e2 e => ?_) (bs_r fun x e1 => bs_r fun p e2 e => ?_)
 ·cases e
  obtain ⟨t,rfl,ok⟩ := ho.str? e1
  obtain ⟨l,u,⟨p1,p2⟩,⟨p3,p4⟩,rfl⟩ := hb _ _ e2
  obtain ⟨all,hn,_,_,g3⟩ := S.ledger
  have hsz : (⟨x.toArray⟩ : Str).length <= sizeLine := Nat.le_trans ok.2 lim_line
  have fin : ∀ (h' : Heap) (t' : Tok) (tk : Nat),Fr Y.h₀ Y.L h' k.m -> News Y.h₀ Y.L h' all -> Q (.str (Txt.slice ⟨x.toArray⟩ l u) t') { s0 with heap := h',toks := tk } := fun h' t' tk F N => by
   rw [txt_slice x p1 p3]
   exact hq w _ _ ⟨.refl w,g3 h' F N,rfl,rfl⟩ ⟨t',rfl,cut_sOk ok⟩
  rcases p2 with ⟨rfl,rfl⟩ | ⟨i,ti,rfl,rfl⟩
  ·rcases p4 with ⟨rfl,rfl⟩ | ⟨j,tj,rfl,rfl⟩
   ·exact slice_strN_nn S.fr hn fin rfl (hgo _) hsz
   ·exact slice_strN_ns S.fr hn fin rfl (hgo _) hsz
  ·rcases p4 with ⟨rfl,rfl⟩ | ⟨j,tj,rfl,rfl⟩
   ·exact slice_strN_sn S.fr hn fin rfl (hgo _) hsz
   ·exact slice_strN_ss S.fr hn fin rfl (hgo _) hsz
 ·cases e
  obtain ⟨la,ws,n,rfl,hg,rr,hlen⟩ := S.list ho e1
  obtain ⟨l,u,⟨p1,p2⟩,⟨p3,p4⟩,rfl⟩ := hb _ _ e2
  obtain ⟨all,hn,add,_,_⟩ := S.ledger
  have hpart : ∀ {v : Value} {l : Option Int},((l = none /\ v = .none) \/ ∃ i t,l = some i /\ v = .int i t) -> IsPart v l := fun h => by
   rcases h with ⟨rfl,rfl⟩ | ⟨i,t,rfl,rfl⟩
   ·exact .none
   ·exact .int i t
  refine slice_list (lo:=l) (hi:=u) S.fr hn ⟨_,hg,rfl,n,rfl⟩ (hpart p2) (hpart p4) (fun h' F N => ?_) rfl (hgo _) (by rw [List.size_toArray,<- rr.length]; exact Nat.le_trans hlen lim_line)
  have hclip : ∀ {l : Option Int} (k : Nat),(∀ i,l = some i -> 0 <= i) -> l.elim k (clipAt ws.length) = l.elim k (fun i => min i.toNat x.length) := fun {l} k hl => by
   cases l with
   | none => rfl
   | some i =>
    have := clipAt_nat ws.length i.toNat
    rw [Int.toNat_of_nonneg (hl i rfl)] at this
    exact this.trans (by show min _ _ = min _ _; rw [rr.length])
  have hpk : slicePick ws.toArray l u none = (Mi.cut ws (l.elim 0 fun i => min i.toNat x.length) (u.elim x.length fun i => min i.toNat x.length)).toArray := by
   rw [slicePick_plain]
   simp only [List.size_toArray]
   rw [hclip 0 p1,hclip ws.length p3,show ws.length = x.length from rr.length.symm]
   unfold Mi.cut
   rw [List.drop_take]
  rw [hpk] at N
  have le : w.le ⟨w.σ ++ [s0.heap.objs.size + 1],w.tp⟩ := ⟨List.prefix_append _ _,fun _ x => x⟩
  refine hq _ _ { s0 with heap := h' } ⟨le,add _ (.list _) [_] h' ⟨_,0,rfl,(rr.cut _ _).mono le,?_⟩ F N (zbs _) (News.fresh hn fun p hp => List.mem_singleton.mp hp ▸ Nat.le_succ _) (S.four (Nat.le_succ _)),rfl,rfl⟩ ⟨_,rfl,by rw [<- S.len]; exact List.getElem?_concat_length⟩
  unfold Mi.cut
  rw [List.length_drop,List.length_take]
  omega
theorem snd_slice {v : Expr} {lo hi : Option Expr} {sp pos : Pos} {ie : Ex} {f : Expr -> Option Ex} {q : Nat × List Ex} (hc : (za1 v).isSome = true) (hv : ESnd C d cx v ie) (hf : ∀ e i,f e = some i -> Sd C d cx e i) (hb : boundsE f lo hi = some q) : ESnd C d cx (.Subscript v (.Slice lo hi none sp) pos) (.slice ie q.1 q.2) := by
 intro Y env k mE fr w H s p r
 refine zad fun x H1 e1 => zad fun bv H2 e2 e => ?_
 intro Q E hq
 refine Subscript_ (hv Y env k mE fr w H s p _ e1 _ _ fun w1 a1 s1 n1 r1 => wpAny_Slice ?_)
 have p1 := p.next n1
 have fin : ∀ {w3 : Wd} {s3 : Shared} {vl vu : Value},Nxt Y k w1 w3 H2 s1 s3 -> (∀ n p,bounds n q.1 bv = some p -> ∃ l u,BdO C vl l /\ BdO C vu u /\ p = (l.elim 0 (fun i => min i.toNat n),u.elim n (fun i => min i.toNat n))) ->
   wpAny C.M Y.A (evalPart none env) (fun st s₃ => wpAny C.M Y.A (subscriptTail v (.Slice lo hi none sp) a1 (.ref s₃.heap.objs.size)) Q E { s₃ with heap := s₃.heap.push { cls := .type "slice",data := .fields #[vl,vu,st] } }) E s3 := fun {w3 s3 vl vu} n3 hbb =>
  wpAny_pure (snd_cut hc n3.st (r1.mono n3.le) hbb rfl e fun w4 a4 s4 n4 r4 => hq w4 a4 s4 ((n1.trans n3).trans n4) r4)
 cases lo with
 | none =>
  cases hi with
  | none =>
   cases hb; cases e2
   exact wpAny_pure (wpAny_pure (fin (.refl n1.st) fun n p h => ⟨none,none,.none,.none,by cases h; rfl⟩))
  | some b =>
   obtain ⟨y,hy,e3⟩ := ms hb
   cases e3
   refine wpAny_pure ?_
   revert e2
   refine zad fun y' H3 e2 => zad fun l H4 e3 e4 => ?_
   cases e3; cases e4
   refine (hf _ _ hy).es Y env k mE fr w1 H1 s1 p1 _ e2 _ _ fun w2 a2 s2 n2 r2 => fin n2 fun n p h => ?_
   obtain ⟨c,h1,rfl⟩ := ms (o:=zbq n y') (f:=fun y => (0,y)) h
   obtain ⟨i,hi,rfl⟩ := zdd r2 h1
   exact ⟨none,some i,.none,hi,rfl⟩
 | some a =>
  obtain ⟨xa,hxa,hb⟩ := bs hb
  cases hi with
  | none =>
   cases hb
   revert e2
   refine zad fun y' H3 e2 => zad fun l H4 e3 e4 => ?_
   cases e3; cases e4
   refine (hf _ _ hxa).es Y env k mE fr w1 H1 s1 p1 _ e2 _ _ fun w2 a2 s2 n2 r2 => wpAny_pure (fin n2 fun n p h => ?_)
   obtain ⟨c,h1,rfl⟩ := ms (o:=zbq n y') (f:=fun x => (x,n)) h
   obtain ⟨i,hi,rfl⟩ := zdd r2 h1
   exact ⟨some i,none,hi,.none,rfl⟩
  | some b =>
   obtain ⟨y,hy,e3⟩ := ms hb
   cases e3
   revert e2
   refine zad fun x' H3 e2 => zad fun l H4 e5 e4 => ?_
   cases e4
   revert e5
   refine zad fun y' H5 e3 => zad fun l' H6 e6 e7 => ?_
   cases e6; cases e7
   refine (hf _ _ hxa).es Y env k mE fr w1 H1 s1 p1 _ e2 _ _ fun w2 a2 s2 n2 r2 => (hf _ _ hy).es Y env k mE fr w2 H3 s2 (p1.next n2) _ e3 _ _ fun w3 a3 s3 n3 r3 => fin (n2.trans n3) fun n p h => ?_
   obtain ⟨c,h1,h⟩ := bs (o:=zbq n x') (f:=fun x => (zbq n y').map fun y => (x,y)) h
   obtain ⟨c',h2,rfl⟩ := ms h
   obtain ⟨i,hi,rfl⟩ := zdd (r2.mono n3.le) h1
   obtain ⟨j,hj,rfl⟩ := zdd r3 h2
   exact ⟨some i,some j,hi,hj,rfl⟩
end
end Mi
namespace Mi
open PySem PySem.W PySem.Calls PyProof.Rows
section
variable {K : Type} [DecidableEq K]
noncomputable def ins1 (l : List K) (k : K) : List K := if k ∈ l then l else l ++ [k]
noncomputable def insN (val : Nat -> K) : Nat -> Nat -> List K -> List K
 | 0,_,l => l
 | n + 1,i,l => insN val n (i + 1) (ins1 l (val i))
theorem ins1_len {l : List K} {k : K} : (ins1 l k).length = (if k ∈ l then l.length else l.length + 1) := by
 unfold ins1
 by_cases h : k ∈ l
 ·rw [if_pos h,if_pos h]
 ·rw [if_neg h,if_neg h,List.length_append]; rfl
end
noncomputable abbrev SetAt {prog : Program} {w : World} {K : Type} [DecidableEq K] (knd : KeyKind prog w K) (h : Heap) (a : Addr) (l : List K) : Prop := h.SetOf knd a (fun k => decide (k ∈ l)) l.length
section
variable {prog : Program} {w : World} {K : Type} [DecidableEq K] {knd : KeyKind prog w K} {A : Around} {E : Value -> Shared -> Prop}
theorem SetAt.keep {h h' : Heap} {a : Addr} {l : List K} (S : SetAt knd h a l) (hk : ∀ o,h.get? a = some o -> h'.get? a = some o) : SetAt knd h' a l := by
 obtain ⟨o,es,ep,t,ho,r⟩ := S
 exact ⟨o,es,ep,t,hk o ho,r⟩
theorem set_loop {R : Result -> Shared -> Prop} {I S : Addr} {fp wr : List Addr} {G : Array GenState -> Array GenState -> Prop} {n : Nat} {P : Nat -> Value -> Prop} {Z : Nat -> Shared -> Prop} (W : WalksS prog w A.in1 I fp wr G n P Z) (hS : S ∉ fp) (val : Nat -> K)
  (hv : ∀ i v,P i v -> knd.is (val i) v = true /\ v.scannable = true) : ∀ (m i : Nat) (l : List K) (s : Shared),i + m = n -> l.length + m + 1 < scanBound -> Z i s -> SetAt knd s.heap S l ->
  (∀ s',Moved (S :: wr) G s s' -> SetAt knd s'.heap S (insN val m i l) -> R (.ok (.ret .none)) s') -> codeAny (model prog w) A (.builtin "set.update.loop" ⟨[.ref S,.ref I],[]⟩) R s := by
 have hw : S ∉ wr := fun h => hS (W.sub _ h)
 have sub : ∀ b ∈ wr,b ∈ S :: wr := fun b hb => .tail _ hb
 intro m
 induction m with
 | zero =>
  intro i l s hi hb z hs hR
  cases hi
  refine codeAny_builtin F.entry_set_update_loop ?_
  rw [Around.under_plainId F.plain_set_update_loop _]
  show wpAny _ A.in1 (pyNext (.ref I) >>= _) _ _ s
  refine wpAny_bind (W.done s _ _ z fun s' hm => ?_)
  exact wpAny_pure (hR s' (hm.mono sub) (hs.keep fun o ho => hm.heap S o hw ho))
 | succ m ih =>
  intro i l s hi hb z hs hR
  refine codeAny_builtin F.entry_set_update_loop ?_
  rw [Around.under_plainId F.plain_set_update_loop _]
  show wpAny _ A.in1 (pyNext (.ref I) >>= _) _ _ s
  refine wpAny_bind (W.item i s _ _ (by omega) z fun v s' hp z' hm => ?_)
  obtain ⟨q1,q2⟩ := hv i v hp
  have hs' := hs.keep fun o ho => hm.heap S o hw ho
  show wpAny _ A.in1 (holding [v] (setAdd S v) >>= _) _ _ s'
  refine wpAny_bind (wpAny_holding ?_)
  unfold setAdd
  refine wpAny_holding (wpAny_bind (knd.pyHash q1 (wpAny_setAddHashed_of (knd:=knd) (s:={ s' with toks := s'.toks + 1 }) q1 q2 hs' (by omega) fun h' hb' hs2 => ?_)))
  have e : SetAt knd h' S (ins1 l (val i)) := by
   have e1 : (fun k' => decide (k' ∈ l) || decide (k' = val i)) = fun k' => decide (k' ∈ ins1 l (val i)) := funext fun k' => by
    unfold ins1
    rw [Bool.eq_iff_iff,Bool.or_eq_true,decide_eq_true_iff,decide_eq_true_iff,decide_eq_true_iff]
    by_cases h : val i ∈ l
    ·rw [if_pos h]; exact ⟨fun q => q.elim id fun q => q ▸ h,.inl⟩
    ·rw [if_neg h,List.mem_append,List.mem_singleton]
   have e2 : (if decide (val i ∈ l) = true then l.length else l.length + 1) = (ins1 l (val i)).length := by
    rw [ins1_len]
    by_cases h : val i ∈ l
    ·rw [if_pos h,if_pos (decide_eq_true h)]
    ·rw [if_neg h,if_neg fun q => h (of_decide_eq_true q)]
   rw [e1,e2] at hs2
   exact hs2
  have hl : (ins1 l (val i)).length <= l.length + 1 := by
   rw [ins1_len]
   by_cases h : val i ∈ l
   ·rw [if_pos h]; omega
   ·rw [if_neg h]; exact Nat.le_refl _
  refine wpAny_pure ⟨plainId_quiet F.plain_set_update_loop _,ih (i + 1) _ _ (by omega) (by omega) (W.frame _ s' _ _ z' (Nat.le_succ _) fun b hb o e => ?_) e fun s'' hm' hs3 => ?_⟩
  ·rw [hb'.2 b fun h => hS (h ▸ hb)]; exact e
  ·refine hR s'' (Moved.trans W.gtrans ((hm.mono sub).then_heap (Nat.le_succ _) fun b o hb e => ?_) hm') hs3
   rw [hb'.2 b fun h => hb (h ▸ .head _)]; exact e
end
section
variable {prog : Program} {w : World} {A : Around} {E : Value -> Shared -> Prop} {s : Shared}
theorem sub_str_set : isSubtype (.type "str") (.type "set") = pure false := by rw [isSubtype_type]; kernel_rfl
theorem sub_str_frozenset : isSubtype (.type "str") (.type "frozenset") = pure false := by rw [isSubtype_type]; kernel_rfl
noncomputable abbrev set0 (led : Bool) : Obj := { cls := .type "set",dict := none,data := .set #[] 0 (.fresh 0 0 led) }
noncomputable def sgAt (x : PySem.Str) (i : Nat) : PySem.Str := ⟨#[(x.cps[i]?).getD 0]⟩
theorem call_set_str {x : PySem.Str} {t : Tok} {Q : Value -> Shared -> Prop} (hh : A.handled = none) (hb : x.cps.size + 1 < scanBound)
  (h : ∀ (h' : Heap) (tk : Nat),SetAt (PySem.strKind prog w) h' s.heap.objs.size (insN (sgAt x) x.cps.size 0 []) -> (∀ b o,s.heap.get? b = some o -> h'.get? b = some o) -> Q (.ref s.heap.objs.size) { s with heap := h',toks := tk }) :
  wpAny (model prog w) A (call (.type "set") [.str x t]) Q E s := by
 obtain ⟨c,tl,hmro⟩ := F.called_set.mro
 have hmade := F.called_set.made
 have hsub := F.called_set.sub
 refine wpAny_call (codeAny_of_tree ?_)
 show wpAny _ _ (callAny (.type "set") _) _ _ _
 refine wpAny_pure ⟨Code.quiet_builtin _ (by decide +kernel),codeAny_builtin F.entry_type_call ?_⟩
 rw [Around.under_plain (weight_type_call_type "set" [.str x t] []) rfl]
 have h1 := F.called_set.notType
 have h2 := F.called_set.canCreate
 have hct := F.typeCall_set_1 (.str x t)
 repeat (any_goals (first | assumption | wp_step))
 refine codeAny_mono (code_set_new_1 (.str x t) (E:=E) (Q₁:=fun obj s₁ => ∃ led : Bool,obj = .ref s.heap.objs.size /\ s₁ = { s with heap := s.heap.push (set0 led) }) fun led => ⟨led,rfl,rfl⟩) fun r s₁ hr => ?_
 cases r with
 | error e => exact hr
 | ok fl =>
  cases fl with
  | ret obj =>
   obtain ⟨led,rfl,rfl⟩ := hr
   have hS : (s.heap.push (set0 led)).get? s.heap.objs.size = some (set0 led) := Heap.get?_push_size _ rfl
   have hT : Shared.TypeIs { s with heap := s.heap.push (set0 led) } (.ref s.heap.objs.size) "set" := ⟨_,hS,rfl⟩
   have hli := F.called_set.init.lookup
   have hbi := F.called_set.init.bind (.ref s.heap.objs.size)
   repeat (any_goals (first | assumption | wp_step))
   refine codeAny_mono (codeAny_call_builtin (R:=wants (fun r s₂ => r = .none /\ ∃ h' tk,s₂ = { s with heap := h',toks := tk } /\ SetAt (PySem.strKind prog w) h' s.heap.objs.size (insN (sgAt x) x.cps.size 0 []) /\ (∀ b o,s.heap.get? b = some o -> h'.get? b = some o)) E) F.called_set.init.plain F.entry_set_init (check_set_init_1 hT ?_)) fun r₂ s₂ hr₂ => ?_
   ·have hsls := sub_str_set
    have hslf := sub_str_frozenset
    have hne : (Value.type "str" == Value.type "dict") = false := by decide
    unfold Builtin.«set.__init__» noKeywords Builtin.Frozenset.updateFrom
    generalize hPI : pyIter = PI
    wp_walk
    subst hPI
    refine wpAny_pyIter_str fun oi Z hW z0 => wpAny_bind (wpAny_runValue ?_)
    have hh3 : A.in1.in1.in1.handled = none := by simp [hh]
    have hSf : s.heap.objs.size ∉ [(s.heap.push (set0 led)).objs.size] := by
     rw [Heap.size_push,List.mem_singleton]; exact Nat.ne_of_lt (Nat.lt_succ_self _)
    refine set_loop (knd:=PySem.strKind prog w) (hW _ hh3).toS hSf (sgAt x) (fun i v hv => ?_) x.cps.size 0 [] _ (Nat.zero_add _) (by rw [List.length_nil,Nat.zero_add]; exact hb) z0 ?_ fun s' hm hS' => ?_
    ·obtain ⟨c,u,hc,rfl⟩ := hv
     unfold sgAt
     rw [hc]
     exact ⟨by simp [PySem.strKind,Value.isStrOf],rfl⟩
    ·refine SetOf_congr ((setObjOf_fresh (knd:=PySem.strKind prog w) led).setOf (Heap.get?_push_of_some _ hS) (by unfold scanBound; omega)) (fun _ => ?_) rfl
     rfl
    ·obtain ⟨h',g',d',tk',os'⟩ := s'
     have eg : g' = s.gens := hm.gens
     have ed : d' = s.drawn := hm.drawn
     have eo : os' = s.os := hm.os
     subst eg; subst ed; subst eo
     refine wpAny_pure ?_
     show wpAny _ _ (ret Value.none) _ _ _
     refine wpAny_pure ⟨rfl,h',tk',rfl,hS',fun b o e => hm.heap b o ?_ (Heap.get?_push_of_some _ (Heap.get?_push_of_some _ e))⟩
     have hb1 := Heap.lt_size e
     rw [List.mem_cons,List.mem_singleton,Heap.size_push]
     exact fun q => q.elim (Nat.ne_of_lt hb1) (Nat.ne_of_lt (Nat.lt_succ_of_lt hb1))
   ·cases r₂ with
    | error e => exact hr₂
    | ok fl₂ =>
     cases fl₂ with
     | ret r =>
      obtain ⟨rfl,h',tk,rfl,hS',hk'⟩ := hr₂
      repeat (any_goals (first | assumption | wp_step))
      exact h _ _ hS' hk'
     | _ => exact hr₂.elim
  | _ => exact hr.elim
end
theorem insN_nd {K : Type} [DecidableEq K] {sg : Nat -> K} (inj : ∀ a b,sg a = sg b -> a = b) (f : Nat -> Nat) : ∀ (n i : Nat) (l : List Nat),insN (fun j => sg (f j)) n i (l.map sg) = (insN f n i l).map sg := by
 intro n
 induction n with
 | zero => exact fun _ _ => rfl
 | succ n ih =>
  intro i l
  have : ins1 (l.map sg) (sg (f i)) = (ins1 l (f i)).map sg := by
   unfold ins1
   by_cases h : f i ∈ l
   ·rw [if_pos h,if_pos (List.mem_map.mpr ⟨_,h,rfl⟩)]
   ·rw [if_neg h,if_neg fun q => h (by obtain ⟨y,hy,e⟩ := List.mem_map.mp q; rw [<- inj _ _ e]; exact hy),List.map_append]; rfl
  show insN _ n (i + 1) (ins1 (l.map sg) (sg (f i))) = (insN f n (i + 1) (ins1 l (f i))).map sg
  rw [this,ih]
theorem insN_dd (l : List Nat) : ∀ (n i : Nat) (r : List Nat),i + n = l.length -> insN (fun j => (l[j]?).getD 0) n i r = (l.drop i).foldl (fun r c => bif r.contains c then r else r ++ [c]) r := by
 intro n
 induction n with
 | zero =>
  intro i r hi
  rw [List.drop_eq_nil_of_le (by omega)]; rfl
 | succ n ih =>
  intro i r hi
  have hl : i < l.length := by omega
  rw [List.drop_eq_getElem_cons hl,List.foldl_cons]
  show insN _ n (i + 1) (ins1 r ((l[i]?).getD 0)) = _
  rw [List.getElem?_eq_getElem hl,ih (i + 1) _ (by omega)]
  congr 1
  unfold ins1
  show (if l[i] ∈ r then r else r ++ [l[i]]) = _
  by_cases h : l[i] ∈ r
  ·rw [if_pos h,List.contains_iff_mem.mpr h]; rfl
  ·rw [if_neg h,show r.contains l[i] = false from by rw [Bool.eq_false_iff]; exact fun q => h (List.contains_iff_mem.mp q)]; rfl
section
variable {C : Cfg} {d e : Nat} {Y : Actv C d e} {k : Kp} {w : Wd} {H : MH} {s : Shared} {as : List Val} {vs : List Value}
theorem snd_setOf (S : St Y k w H s) {x : Val} {v : Value} (hx : VRel C w x v) : Ref Y k (VR C) (call (.type "set") [v]) w s (tySet x H) := by
 refine .opt fun l e => .grd fun hl => ?_
 obtain ⟨t,rfl,ok⟩ := hx.str? e
 have hl : l.length + 1 < scanBound := Nat.lt_of_succ_le (Nat.ble_eq.mp hl)
 intro r' e'
 cases e'
 obtain ⟨all,hn,_,tp,_⟩ := S.ledger
 refine fun Q E hq => call_set_str Y.handled hl fun h' tk hS hk => ?_
 obtain ⟨o,es,ep,t',ho,hex,hd,_,_,hsz,hf,hn'⟩ := hS
 have hlen : es.size = (dedupL l).length := by
  rw [hn']
  have e1 : sgAt ⟨l.toArray⟩ = fun j => (⟨#[(fun j => (l[j]?).getD 0) j]⟩ : PySem.Str) := funext fun j => by
   unfold sgAt
   rw [List.getElem?_toArray]
  rw [e1]
  have := insN_nd (sg:=fun c => (⟨#[c]⟩ : PySem.Str)) (fun a b e => by cases e; rfl) (fun j => (l[j]?).getD 0) l.length 0 []
  rw [show (insN (fun j => (⟨#[(fun j => (l[j]?).getD 0) j]⟩ : PySem.Str)) l.toArray.size 0 []) = _ from this,List.length_map,insN_dd l l.length 0 [] (Nat.zero_add _)]
  rfl
 have le : w.le ⟨w.σ,(s.heap.objs.size,o) :: w.tp⟩ := ⟨List.prefix_refl _,fun p hp => .tail _ hp⟩
 refine hq _ _ { s with heap := h',toks := tk } ⟨le,tp _ _ h' (S.fr.keeps hk) (fun q hq => ?_) (Nat.le_refl _),rfl,rfl⟩ ⟨_,o,es,ep,t',rfl,.head _,hex,hd,hf,hlen,?_⟩
 ·rcases List.mem_cons.mp hq with e | hq
  ·rw [e]
   exact ⟨ho,Nat.ne_of_gt S.fr.ns.lt,Heap.get?_none_of_le (Nat.le_trans S.fr.above (Nat.le_of_lt S.fr.ns.lt))⟩
  ·exact ⟨hk _ _ (hn q hq).1,(hn q hq).2⟩
 ·rw [<- hlen]
  exact Nat.le_trans (Nat.le_of_lt hsz) (by decide)
end
end Mi
namespace Mi
open PySem PySem.W PySem.Calls PySem.NumText PyProof.Rows
section
variable {α β : Type} {C : Cfg} {d e : Nat} {Y : Actv C d e} {k : Kp} {R : Wd -> β -> α -> Prop} {w : Wd} {s : Shared} {T : List Value -> Sem α} {as : List Val} {vs : List Value}
theorem Ref.a0 {o : Option (β × MH)} (r : zab C w as vs) (h : Ref Y k R (T []) w s o) : Ref Y k R (T vs) w s (a0 as o) := by
 cases as with
 | nil => cases r; exact h
 | cons _ _ => exact .none
theorem Ref.a1 {f : Val -> Option (β × MH)} (r : zab C w as vs) (h : ∀ v rv,VRel C w v rv -> Ref Y k R (T [rv]) w s (f v)) : Ref Y k R (T vs) w s (a1 as f) := by
 cases as with
 | nil => exact .none
 | cons v as => obtain ⟨rv,t,rfl,hv,r⟩ := r; exact .a0 (T:=fun l => T (rv :: l)) r (h v rv hv)
theorem Ref.a2 {f : Val -> Val -> Option (β × MH)} (r : zab C w as vs) (h : ∀ v rv,VRel C w v rv -> ∀ v' rv',VRel C w v' rv' -> Ref Y k R (T [rv,rv']) w s (f v v')) : Ref Y k R (T vs) w s (a2 as f) := by
 cases as with
 | nil => exact .none
 | cons v as => obtain ⟨rv,t,rfl,hv,r⟩ := r; exact .a1 (T:=fun l => T (rv :: l)) r (h v rv hv)
theorem Ref.a3 {f : Val -> Val -> Val -> Option (β × MH)} (r : zab C w as vs) (h : ∀ v rv,VRel C w v rv -> ∀ v' rv',VRel C w v' rv' -> ∀ u ru,VRel C w u ru -> Ref Y k R (T [rv,rv',ru]) w s (f v v' u)) : Ref Y k R (T vs) w s (a3 as f) := by
 cases as with
 | nil => exact .none
 | cons v as => obtain ⟨rv,t,rfl,hv,r⟩ := r; exact .a2 (T:=fun l => T (rv :: l)) r (h v rv hv)
end
noncomputable def encL (l : List Nat) : Nat := l.foldl (fun a c => a * 256 + c) 0
theorem zcs (l : List Nat) (c : Nat) : encL (l ++ [c]) = encL l * 256 + c := by unfold encL; rw [List.foldl_append]; rfl
theorem enc_step {a b c c' : Nat} (h1 : c <= 255) (h2 : c' <= 255) (e : a * 256 + c = b * 256 + c') : a = b /\ c = c' := by omega
theorem encL_inj : ∀ (n : Nat) (l l' : List Nat),l.length <= n -> (∀ c ∈ l,1 <= c /\ c <= 255) -> (∀ c ∈ l',1 <= c /\ c <= 255) -> encL l = encL l' -> l = l' := by
 have nz : ∀ {r : List Nat} {c : Nat},(∀ x ∈ r ++ [c],1 <= x /\ x <= 255) -> encL (r ++ [c]) ≠ 0 := fun {r c} h e => by
  rw [zcs] at e
  have := (h c (List.mem_append_right _ (.head _))).1
  omega
 intro n
 induction n with
 | zero =>
  intro l l' hl h h' e
  cases List.length_eq_zero_iff.mp (Nat.le_zero.mp hl)
  rcases List.eq_nil_or_concat l' with rfl | ⟨r,c,rfl⟩
  ·rfl
  ·rw [List.concat_eq_append] at *; exact absurd e.symm (nz h')
 | succ n ih =>
  intro l l' hl h h' e
  rcases List.eq_nil_or_concat l with rfl | ⟨r,c,rfl⟩
  ·rcases List.eq_nil_or_concat l' with rfl | ⟨r',c',rfl⟩
   ·rfl
   ·rw [List.concat_eq_append] at *; exact absurd e.symm (nz h')
  ·rcases List.eq_nil_or_concat l' with rfl | ⟨r',c',rfl⟩
   ·rw [List.concat_eq_append] at *; exact absurd e (nz h)
   ·rw [List.concat_eq_append] at *
    rw [List.concat_eq_append,zcs,zcs] at *
    obtain ⟨e1,e2⟩ := enc_step (h c (List.mem_append_right _ (.head _))).2 (h' c' (List.mem_append_right _ (.head _))).2 e
    rw [e2,ih r r' (by rw [List.length_append] at hl; exact Nat.le_of_succ_le_succ hl) (fun x hx => h x (List.mem_append_left _ hx)) (fun x hx => h' x (List.mem_append_left _ hx)) e1]
theorem enc_inj {x y : Str} (hx : zae x = true) (hy : zae y = true) (e : enc x = enc y) : x = y := by
 have hd : ∀ z : Str,zae z = true -> ∀ c ∈ z.cps.toList,1 <= c /\ c <= 255 := by
  intro z hz c hc
  unfold zae at hz
  simp only [Bool.and_eq_true,List.all_eq_true,decide_eq_true_eq] at hz
  exact hz.1.1.1.1 c hc
 have := encL_inj _ x.cps.toList y.cps.toList (Nat.le_refl _) (hd x hx) (hd y hy) e
 cases x; cases y
 exact congrArg Str.mk (Array.toList_inj.mp this)
section
variable {prog : Program} {w : World} {A : Around} {E : Value -> Shared -> Prop} {s : Shared}
theorem raw_dlen (d : Addr) (es : List DictEntry) (n : Nat) (hd : (d == sysModules) = false) :
  MeetsIn prog w (Builtin.«dict.__len__» ⟨[.ref d],[]⟩) (fun _ R s => s.heap.get? d = some (dictOf es n) /\ R (.ok (.ret (.int es.length s.toks))) { s with toks := s.toks + 1 }) :=
 .of_wp fun A R s ⟨ho,h⟩ => by
  show wpAny _ _ (dictSize d >>= _) _ _ s
  unfold dictSize
  refine wpAny_bind (wpAny_bind (wpAny_dictEntries ho rfl (wpAny_pure ?_)))
  show wpAny _ _ (Builtin.Dict.pendingCount d >>= _) _ _ s
  exact wpAny_bind (wpAny_pendingCount_other hd (wpAny_ret_mkInt (by simpa using h)))
theorem raw_len {d : Addr} {es : List DictEntry} {n : Nat} {Q : Value -> Shared -> Prop} (hd : (d == sysModules) = false) (ho : s.heap.get? d = some (dictOf es n)) (hfit : (es.length : Int) < 2 ^ 63)
  (h : Q (.int es.length (s.toks + 1)) { s with toks := s.toks + 1 + 1 }) : wpAny (model prog w) A (call (.builtin "len") [.ref d]) Q E s := by
 have hT : s.TypeIs (.ref d) "dict" := ⟨_,ho,rfl⟩
 refine Calls.call_function_entry kind_len plain_len entry_len (args_len1 _) ?_
 unfold Builtin.«len»
 refine wpAny_bind (m:=oneArg "len" _) (wpAny_pure ?_)
 refine wpAny_bind (m:=callSpecial? (.ref d) (Str.ofString "__len__")) (wpAny_callSpecial?_slot (name:=Str.ofString "__len__") hT F.slot_dict_len
  (call_meetsIn F.slot_dict_len hT F.entry_dict_len (F.args_dict_len_1 _) (raw_dlen d es n hd) ⟨ho,?_⟩))
 show wpAny _ _ _ _ _ { s with toks := s.toks + 1 }
 refine wpAny_bind (wpAny_holding (wpAny_pure ?_))
 refine wpAny_bind (wpAny_letGo ?_)
 show wpAny _ _ (if ((es.length : Nat) : Int) < 0 then _ else _) _ _ _
 rw [if_neg (Int.not_lt.mpr (Int.natCast_nonneg _))]
 show wpAny _ _ (if ((es.length : Nat) : Int) ≥ 2 ^ 63 then _ else _) _ _ _
 rw [if_neg (Int.not_le.mpr hfit)]
 exact wpAny_bind (wpAny_mkInt (wpAny_pure ⟨_,rfl,h⟩))
end
section
variable {C : Cfg} {d e : Nat} {Y : Actv C d e} {k : Kp} {w : Wd} {H : MH} {s : Shared} {as : List Val} {vs : List Value}
theorem snd_len (S : St Y k w H s) (r : zab C w as vs) : Ref Y k (VR C) (call (.builtin "len") vs) w s (biLen as H) := by
 refine .a1 (T:=fun l => call (.builtin "len") l) r fun x v hx => .omap fun n e => .val S fun Q E q => ?_
 have q : ∀ t tk,Q (.int n t) { s with toks := tk } := fun t tk => q _ tk ⟨t,rfl⟩
 have lst : ∀ {b : Addr} {ws : List Value},s.heap.IsList b ws.toArray -> n = ws.length -> n <= lim -> wpAny C.M Y.A (call (.builtin "len") [.ref b]) Q E s := fun {b ws} hL e hl => by
  subst e
  exact len_list hL (zb2 hl) (q _ _)
 cases x with
 | str l => cases e; obtain ⟨t,rfl,ok⟩ := hx; exact len_str (Int.not_le.mpr (zb2 ok.2)) (q _ _)
 | tup l =>
  cases e
  obtain ⟨t,o,n',ws,rfl,ho,hc,hd,rr,hl⟩ := S.tup hx
  have e : ws.toArray.size = l.length := by rw [List.size_toArray,rr.length]
  refine PyProof.Rows.len_tuple (items:=ws.toArray) ⟨o,ho,hc,n',hd⟩ (by rw [e]; exact zb2 hl) ?_
  rw [e]; exact q _ _
 | fl l => cases e; obtain ⟨b,o,n',ws,rfl,h,rr,hl⟩ := hx; exact lst ⟨o,S.kIn _ _ h.1,h.2,n',h.3⟩ rr.length hl
 | ref i =>
  revert e
  refine zao (ms_r fun l hl e => ?_) (ms_r fun p hp e => ?_)
  ·obtain ⟨t,ws,n',rfl,ho,rr,hl⟩ := S.list hx hl
   exact lst ⟨_,ho,rfl,n',rfl⟩ (e.symm.trans rr.length) (e ▸ hl)
  ·obtain ⟨_,_,b,n',es,rfl,hmod,_,hg,hdr,hl,_⟩ := S.dict hx hp
   have e2 := hdr.entries.1.trans e
   exact raw_len hmod hg (by rw [hdr.entries.1]; exact zb2 hl) (by rw [e2]; exact q _ _)
 | setn i =>
  cases e
  obtain ⟨_,_,_,_,_,rfl,h⟩ := hx
  exact call_len_set (S.tpAt h.1) h.2 h.3 h.4 (by rw [h.5]; exact zb2 h.6) (by rw [h.5]; exact q _ _)
 | _ => exact nos e
theorem Sta.kept {h h' : Heap} (S : Sta C Y.h₀ Y.L k w H h) (hk : ∀ b o,h.get? b = some o -> h'.get? b = some o) : Sta C Y.h₀ Y.L k w H h' :=
 LedO.casesOn S.ledger fun all hn _ _ g => g h' (S.fr.keeps hk) fun p hp => ⟨hk _ _ (hn p hp).1,(hn p hp).2⟩
theorem Ref.int {t : Sem Value} {z : Int} (S : St Y k w H s) (h : ∀ (Q : Value -> Shared -> Prop) (E : Value -> Shared -> Prop),(∀ u h' tk,(∀ b o,s.heap.get? b = some o -> h'.get? b = some o) -> Q (.int z u) { s with heap := h',toks := tk }) -> wpAny C.M Y.A t Q E s) : Ref Y k (VR C) t w s (some (.int z,H)) := by
 intro r e
 cases e
 exact fun Q E hq => h Q E fun u h' tk hk => hq w _ _ ⟨.refl w,S.kept hk,rfl,rfl⟩ ⟨u,rfl⟩
theorem all_ints {mvs : List Val} : ∀ {vs : List Value} {ns : List Int},zab C w mvs vs -> intsV mvs = some ns -> IntsAre vs ns := by
 induction mvs with
 | nil => intro vs ns h e; cases h; cases e; exact .nil
 | cons m mvs ih =>
  intro vs ns h e
  obtain ⟨y,ys,e1,e2,rfl⟩ := mapM_s e
  obtain ⟨v,r,rfl,h,h'⟩ := h
  obtain ⟨t,rfl⟩ := h.int? e1
  exact .cons y t (ih h' e2)
theorem snd_min (S : St Y k w H s) (r : zab C w as vs) : Ref Y k (VR C) (call (.builtin "min") vs) w s (biMin as H) := by
 refine .a2 (T:=fun l => call (.builtin "min") l) r fun x v hx y u hy => .opt fun a ea => .omap fun b eb => ?_
 obtain ⟨_,rfl⟩ := hx.int? ea
 obtain ⟨_,rfl⟩ := hy.int? eb
 refine .int S fun Q E q => min_two_ints Y.handled fun h' tk hk => ?_
 by_cases c : b < a
 ·rw [if_pos c] at q ⊢; exact q _ h' tk hk
 ·rw [if_neg c] at q ⊢; exact q _ h' tk hk
theorem zcW {t : List (Nat × String)} {n m : Nat} {x y : String} (h : (n == m) = true) (hx : t.lookup n = some x) (hy : t.lookup m = some y) : x = y := by rw [beq_iff_eq.mp h] at hx; exact Option.some.inj (hx.symm.trans hy)
theorem snd_range (S : St Y k w H s) (r : zab C w as vs) : Ref Y k (VR C) (call (.type "range") vs) w s (tyRange as H) := by
 refine .a1 (T:=fun l => call (.type "range") l) r fun x v hx => .omap fun n e => ?_
 obtain ⟨t,rfl⟩ := hx.int? e
 intro r' e'
 cases e'
 obtain ⟨all,hn,_,tp,_⟩ := S.ledger
 exact fun Q E hq => call_range_1 (hq ⟨w.σ,_ :: w.tp⟩ _ { s with heap := _,toks := _ } ⟨⟨List.prefix_refl _,fun p hp => .tail _ hp⟩,tp _ _ _ (S.fr.push _) (hn.push S.fr _) (Nat.le_refl _),rfl,rfl⟩ ⟨_,_,_,_,rfl,.head _⟩)
theorem snd_listOf (S : St Y k w H s) (r : zab C w as vs) : Ref Y k (VR C) (call (.type "list") vs) w s (tyList as H) := by
 have key : ∀ {mvs : List Val} {ws : List Value} {la : Addr} {o : Obj} {n : Nat},zab C w mvs ws -> mvs.length <= lim -> s.heap.get? la = some o -> (o.cls = .type "list" \/ o.cls = .type "tuple") -> o.data = .seq ws.toArray n -> Ref Y k (VR C) (call (.type "list") [.ref la]) w s (zbd H (.list mvs)) := by
  intro mvs ws la o n rr hl ho hc hd r' e' Q E hq
  cases e'
  obtain ⟨all,hn,add,_,_⟩ := S.ledger
  have le : w.le ⟨w.σ ++ [s.heap.objs.size],w.tp⟩ := ⟨List.prefix_append _ _,fun _ x => x⟩
  have hsz : ws.toArray.size <= sizeLine := by rw [List.size_toArray,<- rr.length]; exact Nat.le_trans hl lim_line
  have fin : ∀ h' c',(∀ b o,s.heap.get? b = some o -> h'.get? b = some o) -> h'.get? s.heap.objs.size = some (listOf ws.toArray c') -> Q (.ref s.heap.objs.size) { s with heap := h' } := fun h' c' hk hD =>
   hq _ _ _ ⟨le,add _ (.list mvs) [_] h' ⟨ws,c',rfl,rr.mono le,hl⟩ (S.fr.keeps hk) (news_pushed S.fr hn hk hD rfl) (zbs _) (News.fresh hn fun p hp => List.mem_singleton.mp hp ▸ Nat.le_refl _) (S.four (Nat.le_refl _)),rfl,rfl⟩ ⟨_,rfl,by rw [<- S.len]; exact List.getElem?_concat_length⟩
  rcases hc with hc | hc
  ·exact call_list_seq (hsz:=hsz) la (.inl rfl) ho hc hd fin
  ·exact call_list_seq (hsz:=hsz) la (.inr rfl) ho hc hd fin
 refine .a1 (T:=fun l => call (.type "list") l) r fun x v hx => .alt (.opt fun l e => ?_) (.alt (.opt fun l e => ?_) (.opt fun l e => ?_))
 ·cases tup?_s e
  obtain ⟨t,o,n,ws,rfl,ho,hc,hd,rr,hl⟩ := S.tup hx
  exact key rr hl ho (.inr hc) hd
 ·cases fl?_s e
  obtain ⟨t,o,n,ws,rfl,q,rr,hl⟩ := hx
  exact key rr hl (S.kIn _ _ q.1) (.inl q.2) q.3
 ·obtain ⟨la,ws,n,rfl,ho,rr,hl⟩ := S.list hx e
  exact key rr hl ho (.inl rfl) rfl
theorem nat_list (n : Nat) : (toString n).toList = Nat.toDigits 10 n := by
 show (Nat.repr n).toList = _
 unfold Nat.repr
 simp
theorem show_int (i : Int) : (toString i).toList.map Char.toNat = zc2 i := by
 unfold zc2 digs
 cases i with
 | ofNat n =>
  show List.map Char.toNat (toString n).toList = _
  rw [nat_list,show decide (Int.ofNat n < 0) = false from decide_eq_false (Int.not_lt.mpr (Int.natCast_nonneg n))]
  rfl
 | negSucc n =>
  rw [show decide (Int.negSucc n < 0) = true from decide_eq_true (Int.negSucc_lt_zero n)]
  show List.map Char.toNat ("-" ++ toString (n + 1)).toList = _
  rw [String.toList_append,List.map_append,nat_list]
  rfl
theorem snd_strOf (S : St Y k w H s) (r : zab C w as vs) : Ref Y k (VR C) (call (.type "str") vs) w s (tyStr as H) := by
 refine .a1 (T:=fun l => call (.type "str") l) r fun x v hx => .alt (.opt fun i e => .grd fun hi => ?_) (.omap fun x' e => ?_)
 ·obtain ⟨t,rfl⟩ := hx.int? e
  have hi := Bool.and_eq_true_iff.mp hi
  refine .val S fun Q E q => P.str_of_int ?_ ?_
  ·by_cases h0 : i.natAbs = 0
   ·rw [h0]; decide
   ·have := (Nat.log2_lt h0).mpr (Nat.ble_eq.mp hi.1)
    omega
  ·refine q _ _ ⟨s.toks,?_,fun c hc => ?_,Nat.ble_eq.mp hi.2⟩
   ·rw [Str.ofString_eq_toList,show_int]
   ·rw [<- show_int] at hc
    obtain ⟨ch,_,rfl⟩ := List.mem_map.mp hc
    exact ch.valid.elim (fun h => Nat.lt_trans h (by decide)) (·.2)
 ·obtain ⟨t,rfl,ok⟩ := hx.str? e
  exact .val S fun Q E q => P.str_of_str (q _ s.toks ⟨t,rfl,ok⟩)
theorem snd_typeOf (S : St Y k w H s) (r : zab C w as vs) : Ref Y k (VR C) (call (.type "type") vs) w s (tyType as H) := by
 refine .a1 (T:=fun l => call (.type "type") l) r fun x v hx => .omap fun n e => .val S fun Q E q => ?_
 have fin : ∀ {T : String},tyTab.lookup n = some T -> Q (.type T) s := fun hT => q _ s.toks ⟨_,rfl,hT⟩
 cases x with
 | none => cases e; cases hx; exact call_type_of (Tx:="NoneType") rfl (by decide) (fin rfl)
 | bool b => cases e; cases hx; exact call_type_of (Tx:="bool") rfl (by decide) (fin rfl)
 | int i => cases e; obtain ⟨_,rfl⟩ := hx; exact call_type_of (Tx:="int") rfl (by decide) (fin rfl)
 | str l => cases e; obtain ⟨_,rfl,_⟩ := hx; exact call_type_of (Tx:="str") rfl (by decide) (fin rfl)
 | tup l => cases e; obtain ⟨t,o,n,ws,rfl,ho,hc,_,_,_⟩ := S.tup hx; exact call_type_of (Tx:="tuple") ⟨o,ho,hc⟩ (by decide) (fin rfl)
 | ref i =>
  obtain ⟨l,hl,e⟩ := ms e
  subst e
  obtain ⟨la,ws,n,rfl,ho,_,_⟩ := S.list hx hl
  exact call_type_of (Tx:="list") ⟨_,ho,rfl⟩ (by decide) (fin rfl)
 | _ => exact nos e
theorem snd_intOf (S : St Y k w H s) (r : zab C w as vs) : Ref Y k (VR C) (call (.type "int") vs) w s (tyInt as H) := by
 refine .a1 (T:=fun l => call (.type "int") l) r fun x v hx => .omap fun n e => ?_
 obtain ⟨l,e1,e⟩ := bs e
 obtain ⟨hc,e⟩ := gs e
 obtain ⟨t,rfl,ok⟩ := hx.str? e1
 have hc := Bool.and_eq_true_iff.mp hc
 have hc' := Bool.and_eq_true_iff.mp hc.1
 have hl := Nat.ble_eq.mp hc'.2
 have hd : AllDigits (⟨l.toArray⟩ : Str).cps.toList := fun c hc0 => by
  have := Bool.and_eq_true_iff.mp (List.all_eq_true.mp hc.2 c hc0)
  exact ⟨Nat.ble_eq.mp this.1,Nat.ble_eq.mp this.2⟩
 cases e
 refine .val S fun Q E q => KIN.call_text (intText_digits hd (fun h => by rw [show l = [] from h] at hc'; cases hc'.1) (show l.length <= _ by omega)) (show l.length <= _ by omega) ?_
 exact q _ _ ⟨_,rfl⟩
theorem snd_ty {n : Nat} {nm : String} (hb : tyTab.lookup n = some nm) (S : St Y k w H s) (r : zab C w as vs) : Ref Y k (VR C) (call (.type nm) vs) w s (callTy n as H) :=
 .alt (.grd fun h => zcW (t:=tyTab) h hb (y:="range") rfl ▸ snd_range S r) (.alt (.grd fun h => zcW (t:=tyTab) h hb (y:="list") rfl ▸ snd_listOf S r) (.alt (.grd fun h => zcW (t:=tyTab) h hb (y:="str") rfl ▸ snd_strOf S r)
 (.alt (.grd fun h => zcW (t:=tyTab) h hb (y:="type") rfl ▸ snd_typeOf S r) (.alt (.grd fun h => .none) (.alt (.grd fun h => zcW (t:=tyTab) h hb (y:="int") rfl ▸ snd_intOf S r) (.grd fun h => zcW (t:=tyTab) h hb (y:="set") rfl ▸ .a1 (T:=fun l => call (.type "set") l) r fun x v hx => snd_setOf S hx))))))
end
end Mi
namespace Mi
open PySem PySem.W PySem.Calls PySem.NumText PyProof.Rows
theorem ok_append : zae "append" = true /\ enc "append" = nAppend := by decide +kernel
theorem ok_pop : zae "pop" = true /\ enc "pop" = nPop := by decide +kernel
theorem ok_get : zae "get" = true /\ enc "get" = nGet := by decide +kernel
theorem ok_isspace : zae "isspace" = true /\ enc "isspace" = nIsspace := by decide +kernel
theorem ok_join : zae "join" = true /\ enc "join" = nJoin := by decide +kernel
theorem ok_partition : zae "partition" = true /\ enc "partition" = nPartition := by decide +kernel
theorem ok_startswith : zae "startswith" = true /\ enc "startswith" = nStartswith := by decide +kernel
theorem ok_strip : zae "strip" = true /\ enc "strip" = nStrip := by decide +kernel
theorem ok_split : zae "split" = true /\ enc "split" = nSplit := by decide +kernel
theorem ok_find : zae "find" = true /\ enc "find" = nFind := by decide +kernel
theorem strV_s {C : Cfg} {w : Wd} {z : Str} {v : Val} {t : Tok} (h : strV z = some v) : VRel C w v (.str z t) := by
 obtain ⟨h1,e⟩ := gs h
 cases e
 exact ⟨t,by rw [Array.toArray_toList],sOkB_s h1⟩
theorem words_s {C : Cfg} {w : Wd} : ∀ {zs : List Str} {us : List Val} {l : List (Str × Tok)},zs.mapM strV = some us -> l.map (·.1) = zs -> zab C w us (strValues l) := by
 intro zs
 induction zs with
 | nil =>
  intro us l h e
  cases h
  rw [List.map_eq_nil_iff.mp e]
  exact .nil
 | cons z zs ih =>
  intro us l h e
  cases l with
  | nil => cases e
  | cons p l =>
   obtain ⟨e1,e2⟩ := List.cons.inj e
   rw [List.mapM_cons] at h
   obtain ⟨v,h1,h⟩ := bs h
   obtain ⟨vs,h2,h⟩ := bs h
   cases h
   have e1 : p.1 = z := e1
   subst e1
   exact .cons (strV_s h1) (ih h2 e2)
theorem zbt {nm x : Str} {n : Nat} (hn : zae nm = true) (ok : zae x = true /\ enc x = n) (h : (enc nm == n) = true) : x = nm := enc_inj ok.1 hn (ok.2.trans (beq_iff_eq.mp h).symm)
theorem zcZ (s t : List Nat) : Txt.startswith ⟨s.toArray⟩ ⟨t.toArray⟩ = t.isPrefixOf s := by
 unfold Txt.startswith
 rw [StrLaws.subAt_eq]
 rw [show (⟨t.toArray⟩ : Str).length = t.length from rfl,show (⟨s.toArray⟩ : Str).length = s.length from rfl]
 simp only [List.drop_zero,Nat.zero_add]
 rw [Bool.eq_iff_iff,Bool.and_eq_true,List.isPrefixOf_iff_prefix,decide_eq_true_eq,beq_iff_eq]
 constructor
 ·exact fun h => ⟨s.drop t.length,by have := List.take_append_drop t.length s; rw [h.2] at this; exact this⟩
 ·rintro ⟨r,rfl⟩
  simp
inductive JnO (sep : List Nat) (ws : List Value) (t : List Nat) (n : Nat) : Prop
 | mk (l : List (Str × Tok)) (e : ws = strValues l) (j : (Str.join ⟨sep.toArray⟩ (l.map (·.1))).cps.toList = t) (s : ((l.map (·.1)).map (·.length)).sum <= t.length) (c : ∀ c ∈ t,c < 0x110000) (l : l.length = n) : JnO sep ws t n
theorem join_of {C : Cfg} {w : Wd} {sep : List Nat} (hs : sOk sep) : ∀ {mvs : List Val} {ws : List Value} {t : List Nat},zab C w mvs ws -> zbI sep mvs = some t -> JnO sep ws t mvs.length := by
 intro mvs
 induction mvs with
 | nil => intro ws t r e; cases r; cases e; exact ⟨[],rfl,rfl,Nat.le_refl _,fun _ h => absurd h List.not_mem_nil,rfl⟩
 | cons m mvs ih =>
  intro ws t r e
  obtain ⟨x,e1,e⟩ := bs e
  obtain ⟨v,vs,rfl,h,r⟩ := r
  obtain ⟨u,rfl,ok⟩ := h.str? e1
  cases mvs with
  | nil =>
   cases r; cases e
   exact ⟨[(_,u)],rfl,rfl,Nat.le_refl _,ok.1,rfl⟩
  | cons m2 mvs =>
   obtain ⟨t',ht,rfl⟩ := ms e
   obtain ⟨l,rfl,q1,q2,q3,q4⟩ := ih r ht
   refine ⟨(⟨x.toArray⟩,u) :: l,rfl,?_,?_,?_,congrArg (· + 1) q4⟩
   ·cases l with
    | nil => cases q4
    | cons p l =>
     rw [List.map_cons,List.map_cons,Str.join,<- List.map_cons (f:=fun x : Str × Tok => x.1)]
     ·show (⟨x.toArray ++ sep.toArray ++ _⟩ : Str).cps.toList = _
      simp [<- q1]
     ·simp
   ·rw [List.map_cons,List.map_cons,List.sum_cons,List.length_append,List.length_append]
    exact Nat.add_le_add (Nat.le_add_right _ _) q2
   ·intro c hc
    rcases List.mem_append.mp hc with hc | hc
    ·exact (List.mem_append.mp hc).elim (ok.1 c) (hs.1 c)
    ·exact q3 c hc
noncomputable def MCall {C : Cfg} {d e : Nat} (Y : Actv C d e) (k : Kp) (w : Wd) (vx : Value) (vs : List Val) (h2 : MH) (r : Val × MH) (id : String) : Prop :=
 ∀ w2 s2 ws,w.le w2 -> St Y k w2 h2 s2 -> zab C w2 vs ws -> Brings Y k (VR C) (call (.builtin id) (vx :: ws)) w2 s2 r.1 r.2
noncomputable def MGet {C : Cfg} {d e : Nat} (Y : Actv C d e) (k : Kp) (w : Wd) (s : Shared) (vx : Value) (nm : Str) (vs : List Val) (h2 : MH) (r : Val × MH) : Prop :=
 ∀ (pl : Sem Bool) (Q : Value × List Value -> Shared -> Prop) (E : Value -> Shared -> Prop),(∀ id,MCall Y k w vx vs h2 r id -> Q (.builtin id,[vx]) s) -> wpAny C.M Y.A (getMethod vx nm pl) Q E s
section
variable {C : Cfg} {d e : Nat} {Y : Actv C d e} {k : Kp} {w : Wd} {H : MH} {s : Shared}
theorem MCall.of {vx : Value} {vs : List Val} {h2 : MH} {r : Val × MH} {id : String} {o : Option (Val × MH)} (e : o = some r) (h : ∀ w2 s2 ws,w.le w2 -> St Y k w2 h2 s2 -> zab C w2 vs ws -> Ref Y k (VR C) (call (.builtin id) (vx :: ws)) w2 s2 o) : MCall Y k w vx vs h2 r id :=
 fun w2 s2 ws l S2 rr => h w2 s2 ws l S2 rr r e
theorem snd_strMeth {nm : Str} (hn : zae nm = true) {x : List Nat} {u : Tok} (ok : sOk x) {vs : List Val} {h2 : MH} {r : Val × MH} : strMeth x (enc nm) vs h2 = some r -> MGet Y k w s (.str ⟨x.toArray⟩ u) nm vs h2 r := by
 refine zao (gs_r fun h e => ?_) (zao (gs_r fun h e => ?_) (zao (gs_r fun h e => ?_) (zao (gs_r fun h e => ?_) (zao (gs_r fun h e => ?_) (zao (gs_r fun h e => ?_) (gs_r fun h e => ?_))))))
 ·cases zbt hn ok_isspace h
  refine fun pl Q E q => GM.isspace (q "str.isspace" (.of e fun w2 s2 ws l S2 rr => .a0 (T:=fun l => call (.builtin "str.isspace") (_ :: l)) rr (.val S2 fun Q E q => SC.isspace (q _ s2.toks rfl))))
 ·cases zbt hn ok_join h
  refine fun pl Q E q => GM.join (q "str.join" (.of e fun w2 s2 ws l S2 rr => .a1 (T:=fun l => call (.builtin "str.join") (_ :: l)) rr fun y vy hy => .opt fun us hus => .opt fun t ht => .grd fun hl => .val S2 fun Q E q => ?_))
  obtain ⟨la,ws,n,rfl,hg,rr2,hlim⟩ := S2.list hy hus
  obtain ⟨l,rfl,q1,q2,q3,q4⟩ := join_of ok rr2 ht
  have hl := Bool.and_eq_true_iff.mp hl
  have hl1 := Nat.ble_eq.mp hl.1
  have hl2 := Nat.ble_eq.mp hl.2
  refine SC.join ⟨_,hg,rfl,n,rfl⟩ rfl ?_ fun t' tk => ?_
  ·unfold JoinOk
   rw [Bool.not_eq_true']
   unfold Builtin.Str.tooLong
   rw [decide_eq_false_iff_not]
   show ¬ _ > sizeLine
   rw [StrLaws.joinTotal,show (⟨x.toArray⟩ : Str).length = x.length from rfl,List.length_map,q4]
   have e1 : sizeLine = 16777216 := sizeLine_eq
   have e2 : lim = 1000000 := rfl
   omega
  ·have e1 : Txt.join ⟨x.toArray⟩ (l.map (·.1)) = ⟨t.toArray⟩ := by
    show Builtin.Str.glued _ _ = _
    rw [StrLaws.glued_eq_join]
    generalize Str.join _ _ = z at q1; cases z; exact congrArg Str.mk (Array.toList_inj.mp q1)
   rw [e1]
   exact q _ tk ⟨t',rfl,q3,hl1⟩
 ·cases zbt hn ok_partition h
  refine fun pl Q E q => GM.partition (q "str.partition" (.of e fun w2 s2 ws l S2 rr => .a1 (T:=fun l => call (.builtin "str.partition") (_ :: l)) rr fun y vy hy => .opt fun t ht => .grd fun hne => .opt fun p hp => .grd fun hok => ?_))
  cases hp
  obtain ⟨v,rfl,oky⟩ := hy.str? ht
  have hok := Bool.and_eq_true_iff.mp hok
  have hok' := Bool.and_eq_true_iff.mp hok.1
  obtain ⟨all,hnn,_,tp,_⟩ := S2.ledger
  intro r' e'
  cases e'
  have hlen : ((⟨t.toArray⟩ : Str).length == 0) = false := by
   cases t with
   | nil => cases hne
   | cons _ _ => rfl
  refine fun Q E hq => partitionN S2.fr hnn hlen (fun ta tb tc h' tk F N => ?_) (Nat.le_trans ok.2 lim_line)
  have hv : ∀ (w : Wd) (z : Str) (tz : Tok),sOkB z.cps.toList = true -> VRel C w (.str z.cps.toList) (.str z tz) := fun w z tz hz => ⟨tz,rfl,sOkB_s hz⟩
  exact hq ⟨w2.σ,_ :: w2.tp⟩ _ { s2 with heap := h',toks := tk } ⟨⟨List.prefix_refl _,fun _ x => .tail _ x⟩,tp _ _ h' F N (Nat.le_refl _),rfl,rfl⟩ ⟨_,_,_,[_,_,_],rfl,⟨.inl (.head _),rfl,rfl⟩,.cons (hv _ _ ta hok'.1) (.cons (hv _ _ tb hok'.2) (.cons (hv _ _ tc hok.2) .nil)),(by decide : 3 <= lim)⟩
 ·cases zbt hn ok_startswith h
  refine fun pl Q E q => GM.startswith (q "str.startswith" (.of e fun w2 s2 ws l S2 rr => .a1 (T:=fun l => call (.builtin "str.startswith") (_ :: l)) rr fun y vy hy => .omap fun t ht => .val S2 fun Q E q => ?_))
  obtain ⟨v,rfl,oky⟩ := hy.str? ht
  refine SC.startswith ?_
  rw [zcZ]
  exact q _ s2.toks rfl
 ·cases zbt hn ok_strip h
  refine fun pl Q E q => GM.strip (q "str.strip" (.of e fun w2 s2 ws l S2 rr => .alt (.a0 (T:=fun l => call (.builtin "str.strip") (_ :: l)) rr (.omap fun v hv => .val S2 fun Q E q => SC.strip (fun t' tk => q _ tk (strV_s hv)) (Nat.le_trans ok.2 lim_line)))
   (.a1 (T:=fun l => call (.builtin "str.strip") (_ :: l)) rr fun y vy hy => .opt fun t ht => .omap fun v hv => .val S2 fun Q E q => ?_)))
  obtain ⟨v,rfl,oky⟩ := hy.str? ht
  exact SC.stripChars (fun t' tk => q _ tk (strV_s hv)) (Nat.le_trans ok.2 lim_line)
 ·cases zbt hn ok_split h
  refine fun pl Q E q => GM.split (q "str.split" (.of e fun w2 s2 ws l S2 rr => .a0 (T:=fun l => call (.builtin "str.split") (_ :: l)) rr (.opt fun us hus => .grd fun hl => ?_)))
  obtain ⟨all,hnn,add,tp,_⟩ := S2.ledger
  intro r' e'
  cases e'
  intro Q E hq
  refine splitN0 S2.fr hnn (fun l h' tk hl' F N => ?_) (Nat.le_trans (Nat.add_le_add_right ok.2 2) (by decide +kernel : lim + 2 <= sizeLine))
  have le : w2.le ⟨w2.σ ++ [s2.heap.objs.size],w2.tp⟩ := ⟨List.prefix_append _ _,fun _ x => x⟩
  exact hq ⟨w2.σ ++ [s2.heap.objs.size],w2.tp⟩ _ { s2 with heap := h',toks := tk } ⟨le,add _ (.list us) [_] h' ⟨strValues l,0,rfl,words_s hus hl',Nat.ble_eq.mp hl⟩ F N (zbs _) (News.fresh hnn fun p hp => List.mem_singleton.mp hp ▸ Nat.le_refl _) (S2.four (Nat.le_refl _)),rfl,rfl⟩ ⟨_,rfl,by rw [<- S2.len]; exact List.getElem?_concat_length⟩
 ·cases zbt hn ok_find h
  suffices hm : MCall Y k w (.str ⟨x.toArray⟩ u) vs h2 r "str.find" from by
   intro pl Q E q
   have q := q _ hm
   exact @GM.find _ _ _ _ _ _ _ _ q
  refine .of e fun w2 s2 ws l S2 rr => ?_
  refine Ref.a2 (T:=fun l => call (.builtin "str.find") (.str ⟨x.toArray⟩ u :: l)) rr fun y vy hy z vz hz => ?_
  refine Ref.opt fun t ht => Ref.omap fun i hi => ?_
  obtain ⟨v,rfl,oky⟩ := hy.str? ht
  obtain ⟨u2,rfl⟩ := hz.int? hi
  refine Ref.val S2 fun Q E q => ?_
  refine call_gives F.slot_str_find (typeIs_str _ _ _) F.entry_str_find (F.args_str_find_3 _ _ _) (gives_str_find_from _ _ i _ _ _) ?_
  have q := fun i tk => q (.int i s2.toks) tk
  unfold zda at q
  revert q
  show (∀ i tk,_ -> _) -> Made.post (.int (match Builtin.Str.occurrences ⟨x.toArray⟩ ⟨t.toArray⟩ (fromIndex x.length i) x.length 1 with | k :: _ => (k : Int) | [] => -1)) Q s2
  cases Builtin.Str.occurrences ⟨x.toArray⟩ ⟨t.toArray⟩ (fromIndex x.length i) x.length 1 with
  | nil => exact fun q => q (-1) _ ⟨_,rfl⟩
  | cons k _ => exact fun q => q (k : Int) _ ⟨_,rfl⟩
theorem last_rel {mvs : List Val} : ∀ {ws : List Value} {v : Val},zab C w mvs ws -> mvs.getLast? = some v -> ∃ p y,kl_last ws = some (p,y) /\ zab C w mvs.dropLast p /\ VRel C w v y := by
 intro ws v r e
 have hne : mvs ≠ [] := fun q => by rw [q] at e; cases e
 have hl : kl_last ws ≠ none := fun q => by
  rw [kl_last_none q] at r
  cases mvs with
  | nil => exact hne rfl
  | cons _ _ => obtain ⟨_,_,e,_,_⟩ := r; cases e
 obtain ⟨⟨p,y⟩,hpy⟩ := Option.ne_none_iff_exists'.mp hl
 refine ⟨p,y,hpy,?_⟩
 have hm : mvs.dropLast ++ [v] = mvs := by
  have h1 := List.dropLast_concat_getLast hne
  rwa [show mvs.getLast hne = v from Option.some.inj ((List.getLast?_eq_getLast hne).symm.trans e)] at h1
 rw [<- hm,kl_last_spec hpy] at r
 clear hm hpy hl e hne
 generalize mvs.dropLast = q at r ⊢
 induction q generalizing p with
 | nil =>
  cases p with
  | nil => obtain ⟨_,_,e,h,_⟩ := r; cases e; exact ⟨.nil,h⟩
  | cons a p => have := r.length; simp at this
 | cons b q ih =>
  cases p with
  | nil => have := r.length; simp at this
  | cons a p =>
   obtain ⟨_,_,e,h,r⟩ := r
   cases e
   obtain ⟨h1,h2⟩ := ih p r
   exact ⟨.cons h h1,h2⟩
inductive LstAt {C : Cfg} {d e : Nat} (Y : Actv C d e) (k : Kp) (w : Wd) (H : MH) (s : Shared) (i : Nat) (la : Addr) (mvs : List Val) : Prop
 | mk (ws : List Value) (n : Nat) (pre post : Led) (r : zab C w mvs ws) (l : mvs.length <= lim) (hn : News Y.h₀ Y.L s.heap (pre ++ (la,listOf ws.toArray n) :: post))
   (u : ∀ ws' n',Upd la (listOf ws.toArray n) (listOf ws' n') (pre ++ (la,listOf ws.toArray n) :: post) (pre ++ (la,listOf ws' n') :: post))
   (g : ∀ mvs' ws' n' h',zab C w mvs' ws' -> mvs'.length <= lim -> Fr Y.h₀ Y.L h' k.m -> News Y.h₀ Y.L h' (pre ++ (la,listOf ws'.toArray n') :: post) -> Sta C Y.h₀ Y.L k w (H.set i (.list mvs')) h') : LstAt Y k w H s i la mvs
theorem Sta.lstAt (S : St Y k w H s) {i : Nat} {la : Addr} {mvs : List Val} (ha : w.σ[i]? = some la) (hm : H[i]?.bind MObj.list? = some mvs) : LstAt Y k w H s i la mvs := by
 obtain ⟨o,hi,h2⟩ := bs hm
 cases list?_s h2
 obtain ⟨pre,en,post,⟨ws,n,rfl,r,l⟩,hn,hd,g⟩ := S.at ha hi
 exact ⟨ws,n,pre,post,r,l,hn,fun ws' n' => zbX hd,fun mvs' ws' n' h' r' l' F N => g (.list mvs') [(la,listOf ws'.toArray n')] h' rfl ⟨ws',n',rfl,r',l'⟩ F N⟩
theorem zcH {i : Nat} {la : Addr} {mvs : List Val} {y : Val} {yv : Value} (S : St Y k w H s) (ha : w.σ[i]? = some la) (hm : H[i]?.bind MObj.list? = some mvs) (hy : VRel C w y yv) (hlen : mvs.length < lim) : Ref Y k (VR C) (call (.builtin "list.append") [.ref la,yv]) w s (some (.none,H.set i (.list (mvs ++ [y])))) := by
 obtain ⟨ws,n,pre,post,r,l,hn,u,g⟩ := S.lstAt ha hm
 intro r' e'
 cases e'
 refine fun Q E hq => append_K S.fr hn (u (ws.toArray.push yv) (n + 1)) (fun h' F' N' => hq w _ { s with heap := h' } ⟨.refl w,g (mvs ++ [y]) (ws ++ [yv]) (n + 1) h' (zab.append (.one hy) r) (by rw [List.length_append]; exact hlen) F' (by rw [List.push_toArray] at N'; exact N'),rfl,rfl⟩ rfl) ?_
 rw [List.size_toArray,<- r.length]
 exact Nat.le_trans l lim_line
theorem snd_listMeth {nm : Str} (hn : zae nm = true) (S : St Y k w H s) {i : Nat} {la : Addr} (ha : w.σ[i]? = some la) {mvs0 mvs : List Val} {vs : List Val} {h2 : MH} {r : Val × MH} (hm0 : H[i]?.bind MObj.list? = some mvs0) (hm : h2[i]?.bind MObj.list? = some mvs) : zb9 i mvs (enc nm) vs h2 = some r -> MGet Y k w s (.ref la) nm vs h2 r := by
 obtain ⟨_,ws0,n0,e0,ho,_,_⟩ := S.list (x:=.ref i) ⟨la,rfl,ha⟩ hm0
 cases e0
 refine zao (gs_r fun h e => ?_) (gs_r fun h e => ?_)
 ·cases zbt hn ok_append h
  exact fun pl Q E q => getMethod_list_append ho rfl rfl (q "list.append" (.of e fun w2 s2 ws l S2 rr => .a1 (T:=fun l => call (.builtin "list.append") (_ :: l)) rr fun y vy hy => .grd fun hl => zcH S2 (l.get ha) hm hy (Nat.ble_eq.mp hl)))
 ·cases zbt hn ok_pop h
  refine fun pl Q E q => getMethod_builtin ⟨_,ho,rfl⟩ PySem.F.plainAttrs_list PySem.F.slot_list_pop PySem.F.type_list_pop (fun a e => by cases e; exact ⟨_,ho,rfl⟩) (q "list.pop" (.of e fun w2 s2 ws l S2 rr => .a0 (T:=fun l => call (.builtin "list.pop") (_ :: l)) rr (.omap fun v hv => ?_)))
  obtain ⟨ws,n,pre,post,r,l',hn,u,g⟩ := S2.lstAt (l.get ha) hm
  obtain ⟨p,y,hpy,q1,q2⟩ := last_rel r hv
  intro r' e'
  cases e'
  exact fun Q E hq => kl_pop S2.fr hn hpy (u p.toArray (n + 1)) (by rw [List.toList_toArray,<- r.length]; exact Nat.le_trans l' lim_line) fun h' F' N' => hq w2 y { s2 with heap := h' } ⟨.refl w2,g mvs.dropLast p (n + 1) h' q1 (Nat.le_trans (by rw [List.length_dropLast]; exact Nat.sub_le _ _) l') F' N',rfl,rfl⟩ q2
theorem snd_dictMeth {nm : Str} (hn : zae nm = true) (S : St Y k w H s) {i : Nat} {la : Addr} (ha : w.σ[i]? = some la) {p0 p : Option Nat × List (Val × Val)} {vs : List Val} {h2 : MH} {r : Val × MH} (hm0 : H[i]?.bind MObj.dict? = some p0) (hm : h2[i]?.bind MObj.dict? = some p) : zca p.2 (enc nm) vs h2 = some r -> MGet Y k w s (.ref la) nm vs h2 r := by
 obtain ⟨_,n0,es0,e0,_,_,hg,_,_,_⟩ := S.dictI ⟨la,rfl,ha⟩ hm0
 cases e0
 refine gs_r fun h e => ?_
 cases zbt hn ok_get h
 refine fun pl Q E q => getMethod_builtin ⟨_,hg,rfl⟩ PySem.F.plainAttrs_dict PySem.F.slot_dict_get PySem.F.type_dict_get (fun a e => by cases e; exact ⟨_,hg,rfl⟩) (q "dict.get" (.of e fun w2 s2 ws l S2 rr => ?_))
 have key : ∀ {x dv : Val} {kv dvv : Value} {args : List Value},VRel C w2 x kv -> VRel C w2 dv dvv -> zat p.2 x = true -> ((args = [.ref la,kv] /\ dvv = .none) \/ args = [.ref la,kv,dvv]) -> Ref Y k (VR C) (call (.builtin "dict.get") args) w2 s2 (some ((dget p.2 x).getD dv,h2)) := by
  intro x dv kv dvv args hk hdv hf hargs
  refine .val S2 fun Q E q => ?_
  obtain ⟨_,n2,es,e2,hmod,_,hg2,hdr,_,_⟩ := S2.dictI ⟨la,rfl,l.get ha⟩ hm
  cases e2
  have fin : ∀ {o : Option Value},GetO C w2 (dget p.2 x) o -> ∀ tk,Q (o.getD dvv) { s2 with toks := tk } := fun h tk => by
   rcases h with ⟨q1,rfl⟩ | ⟨mv,rv,q1,rfl,q3⟩
   ·rw [q1] at q; exact q _ tk hdv
   ·rw [q1] at q; exact q _ tk q3
  rcases zcp (Bool.and_eq_true_iff.mp hf).1 with ⟨ka,rfl⟩ | ⟨ka,rfl⟩
  ·obtain ⟨kvs,D⟩ := hdr.atom hf
   have hD := D.dictOf hg2
   rcases hargs with ⟨rfl,rfl⟩ | rfl
   ·exact call_meetsIn PySem.F.slot_dict_get hD.typeIs PySem.F.entry_dict_get (PySem.F.args_dict_get_2 _ _) (meets_dict_get _ la hk.atom.1 hmod) ⟨_,hD.mapOf,fin (D.get ka) _⟩
   ·exact call_meetsIn PySem.F.slot_dict_get hD.typeIs PySem.F.entry_dict_get (PySem.F.args_dict_get_3 _ _ _) (meets_dict_get_default _ la hk.atom.1 hmod dvv) ⟨_,hD.mapOf,fin (D.get ka) _⟩
  ·obtain ⟨xs,D⟩ := hdr.tups hf
   have hD := D.dictOf S2 hg2
   obtain ⟨t,rfl,ht⟩ := S2.tupKey hk
   rcases hargs with ⟨rfl,rfl⟩ | rfl
   ·exact call_meetsIn PySem.F.slot_dict_get hD.typeIs PySem.F.entry_dict_get (PySem.F.args_dict_get_2 _ _) (meetsH_dict_get _ la t hmod) ⟨Y.room,ka,xs,ht,hD,fin (D.get ka) _⟩
   ·exact call_meetsIn PySem.F.slot_dict_get hD.typeIs PySem.F.entry_dict_get (PySem.F.args_dict_get_3 _ _ _) (meetsH_dict_get_default _ la t hmod dvv) ⟨Y.room,ka,xs,ht,hD,fin (D.get ka) _⟩
 exact .alt (.a1 (T:=fun l => call (.builtin "dict.get") (_ :: l)) rr fun x kv hk => .grd fun hf => key hk rfl hf (.inl ⟨rfl,rfl⟩)) (.a2 (T:=fun l => call (.builtin "dict.get") (_ :: l)) rr fun x kv hk dv dvv hd => .grd fun hf => key hk hd hf (.inr rfl))
theorem snd_bget {nm : Str} (hn : zae nm = true) (S : St Y k w H s) {x : Val} {vx : Value} (hx : VRel C w x vx) {vs : List Val} {h2 : MH} {r : Val × MH} : bmeth x (enc nm) vs H h2 = some r -> MGet Y k w s vx nm vs h2 r := by
 refine zao (bs_r fun l e1 e => ?_) (bs_r fun i e1 => zao (bs_r fun m0 e2 => bs_r fun m e3 e => ?_) (bs_r fun m0 e2 => bs_r fun m e3 e => ?_))
 ·obtain ⟨u,rfl,ok⟩ := hx.str? e1
  exact snd_strMeth hn ok e
 ·cases ref?_s e1
  obtain ⟨la,rfl,ha⟩ := hx
  exact snd_listMeth hn S ha e2 e3 e
 ·cases ref?_s e1
  obtain ⟨la,rfl,ha⟩ := hx
  exact snd_dictMeth hn S ha e2 e3 e
end
end Mi
namespace Mi
open PySem PySem.W PySem.Calls PyProof.Rows
inductive zdg (C : Cfg) (id c : Nat) : Prop
 | mk (a ca dx : Addr) (n : Nat) (k1 : C.ad.lookup id = some a) (k2 : C.ad.lookup c = some ca) (k3 : C.K.lookup a = some ⟨.ref ca,some dx,.plain,#[]⟩) (k4 : C.K.lookup dx = some (dictOf [] n)) : zdg C id c
inductive zbp (C : Cfg) (c n : Nat) (P : Addr -> Str -> Prop) : Prop
 | mk (ca : Addr) (name : Str) (k1 : C.ad.lookup c = some ca) (k2 : zae name = true) (k3 : enc name = n) (k4 : plainGet C.K ca name = true) (k5 : hasDictIn C.K ca = true) (p : P ca name) : zbp C c n P
inductive AttrP (C : Cfg) (v : Val) (ca : Addr) (name : Str) : Prop
 | mk (av : Value) (k6 : findIn C.K (.ref ca) name = some (some av)) (k7 : ∀ w,VRel C w v av)
  (k8 : isFnV C.P v = true -> isFn C.K av = true /\ specialIn C.K (.ref ca) "__getattribute__" = some (some (.builtin "type.__getattribute__")) /\ ∃ mc,typeIn C.K (.ref ca) = some mc /\ readsIn C.K ca mc = true /\ findCls C.K (.ref ca) mc name = some (.val av)) (k9 : isFnV C.P v = false -> specialIn C.K av "__get__" = some none /\ handedIn av = true /\ copiedNames.contains name = false) : AttrP C v ca name
inductive FldP (C : Cfg) (ca : Addr) (name : Str) : Prop
 | mk (attr : Option Value) (k6 : findIn C.K (.ref ca) name = some attr) (k7 : noGet C.K attr = true)
  (k8 : takerIn C.K ca name = some none) (k9 : findIn C.K (.ref ca) "__setattr__" = some (some (.builtin "object.__setattr__"))) (k10 : plainOver C.K ca = true) : FldP C ca name
inductive zdh (C : Cfg) (c i : Nat) : Prop
 | mk (ca fI : Addr) (k1 : C.ad.lookup c = some ca) (k2 : C.ad.lookup i = some fI) (k3 : makesIn C.K ca = true) (k4 : findIn C.K (.ref ca) "__init__" = some (some (.ref fI))) (k5 : isFn C.K (.ref fI) = true) (k6 : keepIn C.K (.ref ca) = true) : zdh C c i
noncomputable def ArgFact (C : Cfg) (f : Fn) (fd : FuncData) (xs : List Str) : Prop :=
 (f.dfl = [] /\ ∀ vs : List Value,vs.length = f.np -> bindArgs fd ⟨vs,[]⟩ = pure (xs.zip vs)) \/
 (f.dfl ≠ [] /\ ∃ dvs,(∀ w,zab C w f.dfl dvs) /\ ∀ (S : Setting) (vs : List Value),vs.length <= f.np -> f.np - vs.length <= dvs.length -> peek C.K S (bindArgs fd ⟨vs,[]⟩) = some (xs.zip (vs ++ dvs.drop (dvs.length - (f.np - vs.length)))))
inductive FnFact (C : Cfg) (gl : List (Str × Val)) (f : Fn) : Prop
 | mk (a : Addr) (name qual : Str) (params : Arguments) (body : List Stmt) (scope : Scope) (dV kV doc pm : Value) (an : Option Addr) (cdv ct oc : Value) (od : Option Addr) (osl : Array (Option Value)) (k1 : C.ad.lookup f.addr = some a) (k2 : C.K.lookup a = some ⟨oc,od,.func (fnOf name qual params body scope dV kV doc pm an cdv ct),osl⟩)
  (k3 : codeIn C.K cdv qual = true) (k4 : compFn gl params body scope = some (f.np,f.ns,f.body)) (k6 : keepIn C.K (.ref a) = true)
  (k7 : ArgFact C f (fnOf name qual params body scope dV kV doc pm an cdv ct) (params.args.map (·.arg)))
  (k8 : (params.args.map (·.arg)).Nodup) (k10 : ((cellsFrom 0 scope.names []).map (·.1)).Nodup) : FnFact C gl f
noncomputable def SrtOk (C : Cfg) : Prop := ∀ {d e : Nat} {Y : Actv C d e} {k : Kp} {w : Wd} {H : MH} {s : Shared} {as : List Val} {vs : List Value},zdi C -> St Y k w H s -> zab C w as vs -> Ref Y k (VR C) (call (.builtin "sorted") vs) w s (biSorted as H)
structure zaG (C : Cfg) (gl : List (Str × Val)) : Prop where
 glob : GlOk C gl
 fns : ∀ a f,C.P.fnAt a = some f -> f.addr = a /\ FnFact C gl f
 insts : ∀ id c,C.P.instAt id = some c -> zdg C id c
 attrs : ∀ c n v,C.P.clsAttr c n = some v -> zbp C c n (AttrP C v)
 flds : ∀ c n,C.P.hasFld c n = true -> zbp C c n (FldP C)
 inits : ∀ c k i,C.P.clsAt c = some k -> k.init = some i -> zdh C c i
 cfg : zdi C
 srt : SrtOk C
section
variable {C : Cfg} {d e : Nat} {Y : Actv C d e} {k : Kp} {w : Wd} {H : MH} {s : Shared} {cx : CC} {env : Env} {mE : Str -> Option Value} {fr : Frame} {gl : List (Str × Val)}
theorem zbp.use {c n : Nat} {P : Addr -> Str -> Prop} (h : zbp C c n P) {nm : Str} {ca : Addr} (hn : zae nm = true) (e : n = enc nm) (hc : C.ad.lookup c = some ca) : plainGet C.K ca nm = true /\ hasDictIn C.K ca = true /\ P ca nm := by
 obtain ⟨ca',name,k1,k2,k3,k4,k5,p⟩ := h
 cases Option.some.inj (k1.symm.trans hc)
 cases enc_inj k2 hn (k3.trans e)
 exact ⟨k4,k5,p⟩
theorem bi_handed : ∀ p ∈ biTab,handedIn (.builtin p.2) = true := by decide +kernel
theorem handed_of {v : Val} {rv : Value} (h : VRel C w v rv) : handedIn rv = true := by
 cases v with
 | none => cases h; rfl
 | bool b => cases h; rfl
 | int i => obtain ⟨t,rfl⟩ := h; rfl
 | str i => obtain ⟨t,rfl,_⟩ := h; rfl
 | tup i => obtain ⟨_,_,_,_,rfl,_,_,_⟩ := h; rfl
 | ref i => obtain ⟨_,rfl,_⟩ := h; rfl
 | top i => obtain ⟨_,rfl,_⟩ := h; rfl
 | ty i => obtain ⟨_,rfl,_⟩ := h; rfl
 | bi i => obtain ⟨n,rfl,hb⟩ := h; exact bi_handed _ (zaj hb)
 | rng i => obtain ⟨_,_,_,_,rfl,_⟩ := h; rfl
 | fl i => obtain ⟨_,_,_,_,rfl,_,_,_⟩ := h; rfl
 | setn i => obtain ⟨_,_,_,_,_,rfl,_⟩ := h; rfl
theorem isStr_key {x nm : Str} {t : Tok} (hx : zae x = true) (hn : zae nm = true) : (Value.str x t).isStr nm = (enc x == enc nm) := by
 show (x == nm) = _
 rw [Bool.eq_iff_iff,beq_iff_eq,beq_iff_eq]
 exact ⟨fun e => e ▸ rfl,enc_inj hx hn⟩
inductive FGet (C : Cfg) (w : Wd) (m : Option Val) (o : Option (Option Value)) : Prop
 | none (h1 : m = .none) (h2 : o = some .none) : FGet C w m o
 | some (v : Val) (rv : Value) (h1 : m = some v) (h2 : o = some (some rv)) (r : VRel C w v rv) : FGet C w m o
theorem FRel.get {nm : Str} (hn : zae nm = true) : ∀ {fs : List (Nat × Val)} {es : List DictEntry},FRel C w fs es -> es.any (·.refKey) = false /\ ((fget fs (enc nm) = none /\ es.find? (·.key.isStr nm) = none) \/ ∃ v e,fget fs (enc nm) = some v /\ es.find? (·.key.isStr nm) = some e /\ VRel C w v e.val) := by
 intro fs
 induction fs with
 | nil => intro es h; rw [show es = [] from h]; exact ⟨rfl,.inl ⟨rfl,rfl⟩⟩
 | cons p fs ih =>
  intro es h
  obtain ⟨x,t,hsh,v,r,rfl,h1,h2,h3,h4⟩ := h
  obtain ⟨i1,i2⟩ := ih h4
  refine ⟨i1,?_⟩
  unfold fget at i2 ⊢
  rw [List.find?_cons,List.find?_cons]
  dsimp only
  rw [isStr_key h1 hn,h2]
  cases hq : (p.1 == enc nm) with
  | true => exact .inr ⟨_,_,rfl,rfl,h3⟩
  | false => exact i2
theorem FRel.getL {nm : Str} (hn : zae nm = true) {fs : List (Nat × Val)} {es : List DictEntry} (r : FRel C w fs es) : FGet C w (fget fs (enc nm)) (getL nm es) := by
 obtain ⟨hr,h⟩ := r.get hn
 unfold W.getL
 rcases h with ⟨h1,h2⟩ | ⟨v,e,h1,h2,h3⟩
 ·rw [h2]
  exact .none h1 (by dsimp only; rw [hr]; rfl)
 ·rw [h2]
  exact .some v e.val h1 rfl h3
theorem FRel.put {nm : Str} (hn : zae nm = true) {hsh : Int} {t : Tok} {v : Val} {rv : Value} (hv : VRel C w v rv) : ∀ {fs : List (Nat × Val)} {es : List DictEntry},FRel C w fs es -> FRel C w (fput fs (enc nm) v) (putL nm hsh (.str nm t) rv es) := by
 intro fs
 induction fs with
 | nil => intro es h; rw [show es = [] from h]; exact ⟨nm,t,hsh,rv,[],rfl,hn,rfl,hv,rfl⟩
 | cons p fs ih =>
  intro es h
  obtain ⟨x,t',hsh',v',r,rfl,h1,h2,h3,h4⟩ := h
  have ih := ih h4
  show FRel C w (bif p.1 == enc nm then _ else _) _
  unfold putL
  rw [isStr_key h1 hn,h2]
  cases hq : (p.1 == enc nm) with
  | true =>
   rw [if_pos rfl]
   exact ⟨x,t',hsh',rv,r,rfl,h1,h2.trans (beq_iff_eq.mp hq),hv,h4⟩
  | false =>
   rw [if_neg Bool.false_ne_true]
   exact ⟨x,t',hsh',v',_,rfl,h1,h2,h3,ih⟩
theorem FRel.length : ∀ {fs : List (Nat × Val)} {es : List DictEntry},FRel C w fs es -> es.length = fs.length := by
 intro fs
 induction fs with
 | nil => intro es h; rw [show es = [] from h]; rfl
 | cons p fs ih => intro es h; obtain ⟨_,_,_,_,r,rfl,_,_,_,h4⟩ := h; exact congrArg (· + 1) (ih h4)
theorem fput_len (fs : List (Nat × Val)) (n : Nat) (v : Val) : (fput fs n v).length <= fs.length + 1 := by
 induction fs with
 | nil => exact Nat.le_refl _
 | cons p fs ih =>
  show (bif p.1 == n then _ else _ : List (Nat × Val)).length <= _
  cases (p.1 == n) with
  | true => exact Nat.le_succ _
  | false => exact Nat.succ_le_succ ih
inductive InsAt {C : Cfg} {d e : Nat} (Y : Actv C d e) (k : Kp) (w : Wd) (H : MH) (s : Shared) (i : Nat) (v : Value) (q : Nat × List (Nat × Val)) : Prop
 | mk (a ca dx : Addr) (es : List DictEntry) (n : Nat) (pre post : Led) (e : v = .ref a) (hc : C.ad.lookup q.1 = some ca) (f : FRel C w q.2 es) (l : q.2.length <= 500) (hn : News Y.h₀ Y.L s.heap ((pre ++ [(a,instObj ca dx)]) ++ (dx,dictOf es n) :: post)) (I : InstAt s.heap a (instObj ca dx) ca (some (dictOf es n)))
   (u : ∀ o',Upd dx (dictOf es n) o' ((pre ++ [(a,instObj ca dx)]) ++ (dx,dictOf es n) :: post) ((pre ++ [(a,instObj ca dx)]) ++ (dx,o') :: post))
   (g : ∀ fs' es' n' h',FRel C w fs' es' -> fs'.length <= 500 -> Fr Y.h₀ Y.L h' k.m -> News Y.h₀ Y.L h' ((pre ++ [(a,instObj ca dx)]) ++ (dx,dictOf es' n') :: post) -> Sta C Y.h₀ Y.L k w (H.set i (.inst q.1 fs')) h') : InsAt Y k w H s i v q
theorem Sta.insAt (S : St Y k w H s) {i : Nat} {v : Value} {q : Nat × List (Nat × Val)} (hv : VRel C w (.ref i) v) (ho : H[i]?.bind MObj.inst? = some q) : InsAt Y k w H s i v q := by
 obtain ⟨o,hi,h2⟩ := bs ho
 cases inst?_s h2
 obtain ⟨a,e,ha⟩ := hv
 obtain ⟨pre,en,post,⟨c,dx,es,n,rfl,hc,f,l⟩,hn,hd,g⟩ := S.at ha hi
 have eq : ∀ o',pre ++ ([(a,instObj c dx),(dx,o')] ++ post) = (pre ++ [(a,instObj c dx)]) ++ (dx,o') :: post := fun o' => by rw [List.append_assoc]; rfl
 rw [eq] at hn hd
 exact ⟨a,c,dx,es,n,pre,post,e,hc,f,l,hn,InstAt.of_news hn (List.mem_append_left _ (List.mem_append_right _ (.head _))) (List.mem_append_right _ (.head _)),fun o' => zbX hd,fun fs' es' n' h' r l' F N => g (.inst q.1 fs') [(a,instObj c dx),(dx,dictOf es' n')] h' rfl ⟨c,dx,es',n',rfl,hc,r,l'⟩ F (by rw [eq]; exact N)⟩
theorem snd_getAttr (O : zaG C gl) (S : St Y k w H s) {x : Val} {vx : Value} {nm : Str} (hnm : zae nm = true) (hx : VRel C w x vx) : Ref Y k (VR C) (PySem.getAttr vx nm true) w s ((getAttr C.P H x (enc nm)).map fun v => (v,H)) := by
 refine .omap fun v e => .val S fun Q E q => ?_
 have att : ∀ {a ca dx : Addr} {c n : Nat} {es : List DictEntry},InstAt s.heap a (instObj ca dx) ca (some (dictOf es n)) -> C.ad.lookup c = some ca -> getL nm es = some none -> attrC C.P c (enc nm) = some v -> wpAny C.M Y.A (PySem.getAttr (.ref a) nm true) Q E s := fun I hc q2 e => by
  obtain ⟨u,hu,e⟩ := bs e
  obtain ⟨hf,e⟩ := gs e
  cases e
  obtain ⟨t4,t5,av,t6,t7,_,t9⟩ := (O.attrs _ _ _ hu).use hnm rfl hc
  obtain ⟨k1,k2,k3⟩ := t9 (by cases hq : isFnV C.P v; rfl; rw [hq] at hf; cases hf)
  exact get_cls S.fr Y.k I t4 t5 t6 k1 k2 k3 q2 (q av _ (t7 w))
 revert e
 refine zao (bs_r fun p hp e => ?_) (bs_r fun a e1 => bs_r fun c hc e => ?_)
 ·obtain ⟨i,e1,hp⟩ := bs hp
  cases ref?_s e1
  obtain ⟨a,ca,dx,es,n,pre,post,rfl,hc,hF,hl,hN,I,_,_⟩ := S.insAt hx hp
  cases hF.getL hnm with
  | none h1 h2 => rw [h1] at e; exact att I hc h2 e
  | some u rv h1 h2 r =>
   rw [h1] at e
   obtain ⟨hfl,e⟩ := gs e
   cases e
   obtain ⟨t4,t5,attr,t6,t7,_,_,_⟩ := (O.flds _ _ hfl).use hnm rfl hc
   exact get_own S.fr Y.k I t4 t5 t6 t7 h2 (handed_of r) (q rv _ r)
 ·cases top?_s e1
  obtain ⟨xa,rfl,hx⟩ := hx
  obtain ⟨xa',ca,dx,n,i1,i2,i3,i4⟩ := O.insts _ _ hc
  cases Option.some.inj (i1.symm.trans hx)
  exact att (InstAt.of_K S.kIn i3 i4) i2 rfl e
theorem snd_getMeth (O : zaG C gl) (S : St Y k w H s) {x : Val} {vx : Value} {nm : Str} {r : Nat × List Val} {pl : Sem Bool} (hnm : zae nm = true) (hx : VRel C w x vx) {Q : Value × List Value -> Shared -> Prop} {E : Value -> Shared -> Prop}
  (h : ∀ fa first tk,C.ad.lookup r.1 = some fa -> zab C w r.2 first -> Q (.ref fa,first) { s with toks := tk }) : zbc C.P H x (enc nm) = some r -> wpAny C.M Y.A (PySem.getMethod vx nm pl) Q E s := by
 have met : ∀ {a ca dx : Addr} {c n f : Nat} {es : List DictEntry},vx = .ref a -> InstAt s.heap a (instObj ca dx) ca (some (dictOf es n)) -> C.ad.lookup c = some ca -> getL nm es = some none -> methC C.P c (enc nm) = some f -> (f,[x]) = r -> wpAny C.M Y.A (PySem.getMethod vx nm pl) Q E s := fun ea I hc q2 e er => by
  obtain ⟨u,hu,e⟩ := bs e
  obtain ⟨hf,e⟩ := gs e
  cases top?_s e
  obtain ⟨t4,_,av,t6,t7,t8,_⟩ := (O.attrs _ _ _ hu).use hnm rfl hc
  obtain ⟨ga,rfl,hg⟩ := t7 w
  subst er ea
  exact method_inst S.fr Y.k I t4 t6 (t8 hf).1 q2 (h _ _ s.toks hg (.one hx))
 refine zao (bs_r fun a e1 e => ?_) (bs_r fun q hq => gs_r fun hnone => ms_r fun f hf e => ?_)
 ·cases top?_s e1
  obtain ⟨xa,e2,hxa⟩ := id hx
  cases hi : C.P.instAt a with
  | some c =>
   rw [hi] at e
   obtain ⟨f,hf,e⟩ := ms e
   obtain ⟨xa',ca,dx,n,i1,i2,i3,i4⟩ := O.insts _ _ hi
   cases Option.some.inj (i1.symm.trans hxa)
   exact met e2 (InstAt.of_K S.kIn i3 i4) i2 rfl hf e
  | none =>
   rw [hi] at e
   obtain ⟨f,hf,e⟩ := ms e
   obtain ⟨u,hu,hf⟩ := bs hf
   obtain ⟨hfn,hf⟩ := gs hf
   cases top?_s hf
   obtain ⟨_,_,av,t6,t7,t8,_⟩ := (O.attrs _ _ _ hu).use hnm rfl hxa
   obtain ⟨ga,rfl,hg⟩ := t7 w
   obtain ⟨k1,k2,mc,k3,k4,k5⟩ := t8 hfn
   subst e e2
   exact method_of_cls S.fr Y.k k2 (cls_val S.fr Y.k k3 k4 k5 rfl (h _ _ _ hg .nil))
 ·obtain ⟨i,e1,hq⟩ := bs hq
  cases ref?_s e1
  obtain ⟨a,ca,dx,es,n,pre,post,ea,hc,hF,hl,hN,I,_,_⟩ := S.insAt hx hq
  cases hF.getL hnm with
  | none h1 h2 => exact met ea I hc h2 hf e
  | some u rv h1 h2 r' => rw [h1] at hnone; cases hnone
theorem zcl (O : zaG C gl) (S : St Y k w H s) {x v : Val} {vx vv : Value} {nm : Str} {H' : MH} (hnm : zae nm = true) (hx : VRel C w x vx) (hv : VRel C w v vv) {Q : Unit -> Shared -> Prop} {E : Value -> Shared -> Prop}
  (h : ∀ s',Nxt Y k w w H' s s' -> Q () s') : setAttr C.P H x (enc nm) v = some H' -> wpAny C.M Y.A (PySem.setAttr vx nm vv) Q E s := by
 refine bs_r fun i e1 => bs_r fun q hq => gs_r fun hfl e => ?_
 cases ref?_s e1; cases e
 obtain ⟨a,ca,dx,es,n,pre,post,rfl,hc,hF,hl,hN,I,U,g⟩ := S.insAt hx hq
 have hfl := Bool.and_eq_true_iff.mp hfl
 obtain ⟨t4,t5,attr,t6,t7,t8,t9,t10⟩ := (O.flds _ _ hfl.1).use hnm rfl hc
 have hgl : (getL nm es).isSome = true := by cases hF.getL hnm with | none _ h2 => rw [h2]; rfl | some _ _ _ h2 _ => rw [h2]; rfl
 have hp := hF.put (hsh:=PyData.keyHash C.w.params nm) (t:=s.toks + 1) hnm hv
 have hlen := fput_len q.2 (enc nm) v
 have hl4 := Nat.ble_eq.mp hfl.2
 exact set_dict S.fr Y.k hN I rfl t9 t10 t8 t5 hgl rfl (U _) (by rw [hp.length]; omega) fun h' F' N' => h _ ⟨.refl w,g _ _ _ h' hp (by omega) F' N',rfl,rfl⟩
theorem zbT {o : Expr} {attr : Str} {whole : Sem Value} (h : zcw o = true) : attributeBase o attr env whole = whole := by
 cases o with
 | Call f as ks pos =>
  cases as with
  | nil => cases h
  | cons x r => cases f <;> rfl
 | _ => rfl
theorem snd_attr (O : zaG C gl) {v : Expr} {nm : Str} {iv : Ex} {pos : Pos} (hv : ESnd C d cx v iv) (hn : zae nm = true) (hb : zcw v = true) : ESnd C d cx (.Attribute v nm pos) (.attr iv (enc nm)) := by
 intro Y env k mE fr w H s p r
 refine zad fun x H1 e1 e Q E hq => Attribute_any_ (hv Y env k mE fr w H s p _ e1 _ _ fun w1 a1 s1 n1 r1 => snd_getAttr O n1.st hn r1 r e _ _ fun w2 a2 s2 n2 r2 => hq w2 a2 s2 (n1.trans n2) r2) ?_
 show (do
   let o <- attributeBase v nm env (PySem.eval v env)
   standAt pos.atName
   let r <- holding [o] (PySem.getAttr o nm true)
   letTemporaryGo v o r
   pure r) = _
 rw [zbT hb]
theorem zaF {M : Model} {A : Around} {f : Value} {args : List (Bool × Sem Value)} {Q : Args -> Shared -> Prop} {E : Value -> Shared -> Prop} (hp : args.any (·.1) = false) (h : wpAny M A (spliced args) (fun vs s' => Q ⟨vs,[]⟩ s') E s) : wpAny M A (evalArgs f true args []) Q E s := by
 cases args with
 | nil =>
  unfold evalArgs
  show wpAny M A (spliced [] >>= _) Q E s
  exact wpAny_bind (wpAny_mono h (fun vs s' h' => wpAny_holding (wpAny_bind (wpAny_pure (wpAny_bind (wpAny_pure (wpAny_pure h')))))) fun _ _ x => x)
 | cons p r =>
  obtain ⟨b,x⟩ := p
  cases b with
  | false => exact evalArgs_plain h
  | true => cases hp
theorem zav {M : Model} {A : Around} {K : Frag} {pos : Pos} {f : Value} {first : List Value} {es : List Expr} {irs : List Ex} {Q : Value -> Shared -> Prop} {E : Value -> Shared -> Prop} (hk : keepIn K f = true) (hc : Sds C d cx es irs)
  (h : wpAny M A (spliced (backTo pos (starEach es env))) (fun vs s₁ => K.In s₁.heap /\ wpAny M A (call f (first ++ vs)) Q E s₁) E s) : wpAny M A (callWith pos f first (backTo pos (starEach es env)) []) Q E s :=
 callWith_of (by rw [zal hc]; rfl) (keeps_K hk) (zaF (zal hc) h)
noncomputable def zaI (C : Cfg) (d : Nat) : Prop :=
 ∀ (Y : Actv C d 0) (k : Kp) (w : Wd) (H : MH) (s : Shared) (f : Nat) (fa : Addr) (as : List Val) (vs : List Value) (r : Val × MH),St Y k w H s -> C.ad.lookup f = some fa -> zab C w as vs -> zaU C.P fuel0 d f as H = some r ->
  ∀ R : Result -> Shared -> Prop,(∀ w' rv s',Nxt Y k w w' r.2 s s' -> VRel C w' r.1 rv -> R (.ok (.ret rv)) s') -> codeAny C.M Y.A (.call (.ref fa) ⟨vs,[]⟩) R s
theorem zaI.wp (hC : zaI C d) (Y : Actv C d e) {f : Nat} {fa : Addr} {as : List Val} {vs : List Value} (S : St Y k w H s) (hf : C.ad.lookup f = some fa) (r : zab C w as vs) : Ref Y k (VR C) (call (.ref fa) vs) w s (zaU C.P fuel0 d f as H) :=
 fun r' ev Q E hq => wpAny_call (hC Y.toW k w H s f fa as vs r' S hf r ev _ fun w' rv s' n r2 => hq w' rv s' ⟨n.le,n.st,n.same⟩ r2)
theorem keep_fn (O : zaG C gl) {f : Nat} {fa : Addr} {as : List Val} {H : MH} {r : Val × MH} (hf : C.ad.lookup f = some fa) (e : zaU C.P fuel0 d f as H = some r) : keepIn C.K (.ref fa) = true := by
 cases d with
 | zero => exact nos e
 | succ d =>
  obtain ⟨fn,hfn,e⟩ := bs e
  obtain ⟨h1,fa',_,_,_,_,_,_,_,_,_,_,_,_,_,_,_,k1,_,_,_,k6,_,_,_⟩ := O.fns _ _ hfn
  rw [h1,hf] at k1
  cases k1
  exact k6
theorem zcP {A : Around} {ca : Addr} {vs : List Value} {f : Option (List Env)} (h : A.frames = f) : (A.under (.builtin "type.__call__" ⟨.ref ca :: vs,[]⟩)).frames = f := by
 show pushEnvs (Code.envs (.builtin "type.__call__" ⟨.ref ca :: vs,[]⟩)) A.frames = _
 rw [show Code.envs (.builtin "type.__call__" ⟨.ref ca :: vs,[]⟩) = [] by unfold Code.envs; rw [show Code.isFrame (.builtin "type.__call__" ⟨.ref ca :: vs,[]⟩) = false from rfl,if_neg Bool.false_ne_true]]
 exact h
theorem cls_depth {a n : Nat} (h : a + n + 2 + 2 <= 900) : a + 1 + n + 2 + 0 <= 900 := by omega
theorem cls_units {a n : Nat} (h : a + n + 190 + 5 * 2 <= 9900) : a + 1 + n + 190 + 5 * 0 <= 9900 := by omega
noncomputable def Actv.underCls (Y : Actv C d 2) (ca : Addr) (vs : List Value) : Actv C d 0 where
 A := Y.A.under (.builtin "type.__call__" ⟨.ref ca :: vs,[]⟩)
 h₀ := Y.h₀
 L := Y.L
 envF := Y.envF
 below := Y.below.elim fun A₀ h => h.elim fun base h => h.elim fun outer h => ⟨A₀,base,outer,h.1,zcP h.2⟩
 k := Y.k
 top := Y.top
 frame := Y.frame
 kind := Y.kind
 handled := Y.handled
 depth := cls_depth Y.depth
 units := cls_units Y.units
theorem snd_make (O : zaG C gl) (hC : zaI C d) {Y : Actv C d 2} (S : St Y k w H s) {c : Nat} {ca : Addr} {cl : Cl} {as : List Val} {vs : List Value} (hk : C.P.clsAt c = some cl) (hca : C.ad.lookup c = some ca) (r : zab C w as vs) : Ref Y k (VR C) (call (.ref ca) vs) w s (newV (C.cx d) c cl as H) := by
 refine .opt fun i hi => fun r' => zad fun x H' ev => gs_r fun hx e => ?_
 cases isNone_s hx; cases e
 intro Q E hq
 obtain ⟨ca',fI,t1,t2,t3,t4,t5,t6⟩ := O.inits _ _ _ hk hi
 cases Option.some.inj (t1.symm.trans hca)
 obtain ⟨all,hn,add,_,_⟩ := S.ledger
 refine call_cls S.fr Y.k hn t3 t4 t5 fun x dx h' F' N' l1 l2 => ?_
 have hx4 : 4 <= x := Decidable.byContradiction fun hlt => by
  obtain ⟨o,ho⟩ := O.cfg.low x (Nat.lt_of_not_le hlt)
  have := (N' (x,instObj ca dx) (.head _)).2.2
  rw [Y.k _ _ ho] at this
  cases this
 have le : w.le ⟨w.σ ++ [x],w.tp⟩ := ⟨List.prefix_append _ _,fun _ x => x⟩
 have hS : Sta C Y.h₀ Y.L k ⟨w.σ ++ [x],w.tp⟩ (H ++ [.inst c []]) h' := by
  refine add x (.inst c []) [(x,instObj ca dx),(dx,dictOf [] 0)] h' ⟨ca,dx,[],0,rfl,hca,rfl,Nat.zero_le _⟩ F' N' ?_ ?_ hx4
  ·exact List.nodup_cons.mpr ⟨fun h => absurd (List.mem_singleton.mp h) (Nat.ne_of_gt l2),zbs _⟩
  ·intro p hp q hq
   have := l1 q hq
   rcases List.mem_cons.mp hp with rfl | hp
   ·exact Nat.ne_of_gt (Nat.lt_trans this l2)
   ·rw [List.mem_singleton.mp hp]; exact Nat.ne_of_gt this
 have hr : (w.σ ++ [x])[H.length]? = some x := by rw [<- S.len]; exact List.getElem?_concat_length
 exact hC (Y.underCls ca vs) k ⟨w.σ ++ [x],w.tp⟩ (H ++ [MObj.inst c []]) { s with heap := h' } i fI (.ref H.length :: as) (.ref x :: vs) (.none,H') hS t2 (.cons ⟨x,rfl,hr⟩ (r.mono le)) ev _ fun w' rv s' n r2 => ⟨r2,hq w' _ s' ⟨le.trans n.le,n.st,n.same.1,n.same.2⟩ ⟨x,rfl,n.le.get hr⟩⟩
theorem snd_bi (O : zaG C gl) {n : Nat} {nm : String} (hb : biTab.lookup n = some nm) (S : St Y k w H s) {as : List Val} {vs : List Value} (r : zab C w as vs) : Ref Y k (VR C) (call (.builtin nm) vs) w s (callBi n as H) :=
 .alt (.grd fun h => zcW (t:=biTab) h hb (y:="len") rfl ▸ snd_len S r) (.alt (.grd fun h => .none) (.alt (.grd fun h => zcW (t:=biTab) h hb (y:="min") rfl ▸ snd_min S r) (.grd fun h => zcW (t:=biTab) h hb (y:="sorted") rfl ▸ O.srt O.cfg S r)))
theorem snd_callV (O : zaG C gl) (hC : zaI C d) {es : List Expr} {irs : List Ex} (hc : Sds C d cx es irs) {Y : Actv C d 2} {pos : Pos} {g : Val} {gv : Value} {vs : List Val} {H1 : MH} (p : Pl Y cx env k mE fr w H s) (hg : VRel C w g gv) (e1 : zaT (C.cx d) irs fr H = some (vs,H1)) : Ref Y k (VR C) (callWith pos gv [] (backTo pos (starEach es env)) []) w s (callV (C.cx d) g vs H1) := by
 have args : ∀ {Q : List Value -> Shared -> Prop} {E : Value -> Shared -> Prop},(∀ w1 a1 s1,Nxt Y k w w1 H1 s s1 -> zab C w1 vs a1 -> Q a1 s1) -> wpAny C.M Y.A (spliced (backTo pos (starEach es env))) Q E s := fun hq => zaV hc Y env k mE fr w H s pos p _ e1 _ _ hq
 refine .alt (.opt fun f hf => .case (fun hcl => ?_) (fun cl hcl => ?_)) (.alt (.opt fun n hn => ?_) (.opt fun n hn => ?_))
 ·cases top?_s hf
  obtain ⟨ga,rfl,hga⟩ := hg
  intro r e Q E hq
  exact zav (keep_fn O hga e) hc (args fun w1 a1 s1 n1 r1 => ⟨n1.st.kIn,hC.wp Y n1.st hga r1 r e Q E fun w2 a2 s2 n2 r2 => hq w2 a2 s2 (n1.trans n2) r2⟩)
 ·cases top?_s hf
  obtain ⟨ga,rfl,hga⟩ := hg
  intro r e Q E hq
  obtain ⟨i,hi,_⟩ := bs e
  obtain ⟨ca',fI,t1,t2,t3,t4,t5,t6⟩ := O.inits _ _ _ hcl hi
  cases Option.some.inj (t1.symm.trans hga)
  exact zav t6 hc (args fun w1 a1 s1 n1 r1 => ⟨n1.st.kIn,snd_make O hC n1.st hcl hga r1 r e Q E fun w2 a2 s2 n2 r2 => hq w2 a2 s2 (n1.trans n2) r2⟩)
 ·cases bi?_s hn
  obtain ⟨nm,rfl,hb⟩ := hg
  exact fun r e Q E hq => callWith_builtin (zal hc) (zaF (zal hc) (args fun w1 a1 s1 n1 r1 => snd_bi O hb n1.st r1 r e Q E fun w2 a2 s2 n2 r2 => hq w2 a2 s2 (n1.trans n2) r2))
 ·cases ty?_s hn
  obtain ⟨nm,rfl,hb⟩ := hg
  exact fun r e Q E hq => PySem.callWith_type (zal hc) (zaF (zal hc) (args fun w1 a1 s1 n1 r1 => snd_ty hb n1.st r1 r e Q E fun w2 a2 s2 n2 r2 => hq w2 a2 s2 (n1.trans n2) r2))
theorem snd_callName (O : zaG C gl) (hC : zaI C d) {x : Str} {xp pos : Pos} {ig : Ex} {es : List Expr} {irs : List Ex} (hc : Sds C d cx es irs) (hx : ESnd C d cx (.Name x xp) ig) : ESnd C d cx (.Call (.Name x xp) es [] pos) (.call ig irs) :=
 fun Y env k mE fr w H s p r => zad fun g H1 e1 => zad fun vs H2 e2 e Q E hq => Call_ (hx Y env k mE fr w H s p _ e1 _ _ fun w1 a1 s1 n1 r1 => snd_callV O hC hc (p.next n1) r1 e2 r e Q E fun w2 a2 s2 n2 r2 => hq w2 a2 s2 (n1.trans n2) r2)
theorem methForm {n : Nat} {es : List Expr} {irs : List Ex} {pos : Pos} (hc : Sds C d cx es irs) (hn : n < 30) : methodCallForm n (backTo pos (starEach es env)) [] = true := by
 unfold methodCallForm
 have h := zal (env:=env) (pos:=pos) hc
 rw [Bool.and_eq_true,Bool.and_eq_true]
 refine ⟨⟨?_,rfl⟩,decide_eq_true hn⟩
 rw [List.all_eq_true]
 intro x hx
 have := (List.any_eq_false.mp h) x hx
 cases hb : x.1 with
 | false => rfl
 | true => exact absurd hb this
theorem snd_callMeth (O : zaG C gl) (hC : zaI C d) {o : Expr} {nm : Str} {apos pos : Pos} {io : Ex} {es : List Expr} {irs : List Ex} (hc : Sds C d cx es irs) (hlen : es.length <= 20) (ho : ESnd C d cx o io) (hn : zae nm = true) (hb : zcw o = true)
  (hp : (apos.endLine == pos.line) = true) : ESnd C d cx (.Call (.Attribute o nm apos) es [] pos) (.meth io (enc nm) irs) := by
 intro Y env k mE fr w H s p r
 refine zad fun x H1 e1 => zad fun vs H2 e2 e Q E hq => ?_
 show wpAny C.M Y.A (do
  let ov <- attributeBase o nm env (PySem.eval o env)
  standAt apos.atName
  methodCall o nm apos pos env ov (es.length + 0) (backTo pos (starEach es env)) (backToKw pos (keywordEach [] env))) Q E s
 rw [zbT hb]
 refine wpAny_bind (ho Y env k mE fr w H s p _ e1 _ _ fun w1 a1 s1 n1 r1 => wpAny_bind (wpAny_standAt ?_))
 unfold methodCall
 rw [show methodCallForm (es.length + 0) (backTo pos (starEach es env)) (backToKw pos (keywordEach [] env)) = true from methForm hc (Nat.lt_of_le_of_lt hlen (by decide))]
 unfold calleeOf methodCallPos
 rw [if_pos rfl]
 refine wpAny_bind (wpAny_holding ?_)
 cases hm : zbc C.P H1 x (enc nm) with
 | some q =>
  have e : zaU C.P fuel0 d q.1 (q.2 ++ vs) H2 = some r := by
   have e' : Option.casesOn (motive:=fun _ => Option (Val × MH)) (zbc C.P H1 x (enc nm)) (bmeth x (enc nm) vs H1 H2) (fun p => zaU C.P fuel0 d p.1 (p.2 ++ vs) H2) = some r := e
   rw [hm] at e'; exact e'
  refine snd_getMeth O n1.st hn r1 (fun fa first tk hfa hself => ?_) hm
  rw [if_pos (by rw [hp]; rfl)]
  refine wpAny_bind (wpAny_pure ?_)
  have n1' := n1.trans (.toks n1.st tk)
  exact zav (s:={ s1 with toks := tk }) (keep_fn O hfa e) hc (zaV hc Y env k mE fr w1 H1 { s1 with toks := tk } pos (p.next n1') _ e2 _ _ fun w2 a2 s2 n2 r2 => ⟨n2.st.kIn,hC.wp Y n2.st hfa (zab.append r2 (hself.mono n2.le)) r e Q E fun w3 a3 s3 n3 r3 => hq w3 a3 s3 ((n1'.trans n2).trans n3) r3⟩)
 | none =>
  have e : bmeth x (enc nm) vs H1 H2 = some r := by
   have e' : Option.casesOn (motive:=fun _ => Option (Val × MH)) (zbc C.P H1 x (enc nm)) (bmeth x (enc nm) vs H1 H2) (fun p => zaU C.P fuel0 d p.1 (p.2 ++ vs) H2) = some r := e
   rw [hm] at e'; exact e'
  refine snd_bget hn n1.st r1 e _ _ _ fun id hid => ?_
  rw [if_pos (by rw [hp]; rfl)]
  refine wpAny_bind (wpAny_pure ?_)
  exact callWith_builtin (zal hc) (zaF (zal hc) (zaV hc Y env k mE fr w1 H1 s1 pos (p.next n1) _ e2 _ _ fun w2 a2 s2 n2 r2 => hid w2 s2 a2 n2.le n2.st r2 Q E fun w3 a3 s3 n3 r3 => hq w3 a3 s3 ((n1.trans n2).trans n3) r3))
end
end Mi
namespace Mi
open PySem PySem.W PySem.Calls PyProof.Rows
theorem zbz {prog : Program} {w : World} {A : Around} {s : Shared} {elt target iter : Expr} {ifs : List Expr} {scope : Scope} {pos : Pos} {it acc : Value} {env : Env} {R : Result -> Shared -> Prop} (I : Nat -> Shared -> Prop)
  (turn : ∀ n s,I n s -> wpAny (model prog w) A (pyNext it) (fun r s₁ => match r with
   | none => R (.ok .next) s₁
   | some v => wpAny (model prog w) A (letOwnedTupleGo target it v) (fun _ s₁' => wpAny (model prog w) A (assign target env v) (fun _ s₂ =>
     wpAny (model prog w) A (forIn ifs true fun c r => if r = true then do let ok <- PySem.isTrue c env (PySem.eval c env); pure (ForInStep.yield ok) else pure (ForInStep.yield r)) (fun ok s₃ =>
      if ok = true then wpAny (model prog w) A (PySem.eval elt env) (fun x s₄ =>
       wpAny (model prog w) A (call (.builtin "list.append") [acc,x]) (fun _ s₅ => ∃ m,m < n /\ I m s₅) (notedBy (model prog w) A env fun e s' => R (.error e) s') s₄) (notedBy (model prog w) A env fun e s' => R (.error e) s') s₃
      else ∃ m,m < n /\ I m s₃) (notedBy (model prog w) A env fun e s' => R (.error e) s') s₂)
     (notedBy (model prog w) A env fun e s' => R (.error e) s') s₁') (notedBy (model prog w) A env fun e s' => R (.error e) s') s₁) (notedBy (model prog w) A env fun e s' => R (.error e) s') s)
  (n : Nat) (h : I n s) : codeAny (model prog w) A (.compLoop (.ListComp elt [⟨target,iter,ifs,0⟩] scope pos) 0 it acc env) R s := by
 refine codeAny_loop rfl I (fun n s hI => ?_) n h
 show wpAny _ A ((compTurn (.ListComp elt [⟨target,iter,ifs,0⟩] scope pos) 0 it acc env).onRaise (fun x => do noteFrame x env; theTreesLotGoes x)) _ _ s
 refine wpAny_noted ?_
 rw [compTurn_list]
 refine wpAny_bind (wpAny_standAt (wpAny_bind (wpAny_mono (turn n s hI) (fun r s₁ h₁ => ?_) fun _ _ h' => h')))
 cases r with
 | none => exact wpAny_pure h₁
 | some v =>
  refine wpAny_bind (wpAny_mono h₁ (fun _ s₁' h₁' => ?_) fun _ _ h' => h')
  refine wpAny_bind (wpAny_mono h₁' (fun _ s₂ h₂ => wpAny_bind (wpAny_mono h₂ (fun ok s₃ h₃ => ?_) fun _ _ h' => h')) fun _ _ h' => h')
  cases ok with
  | false => exact wpAny_pure ⟨rfl,h₃⟩
  | true => exact wpAny_bind (wpAny_bind (wpAny_mono h₃ (fun x s₄ h₄ => wpAny_bind (wpAny_mono h₄ (fun _ s₅ h₅ => wpAny_pure (wpAny_pure ⟨rfl,h₅⟩)) fun _ _ h' => h')) fun _ _ h' => h'))
theorem compSc_look (outer : List (Str × NameKind)) (sc : Scope) (x : Str) : (zct outer sc).lookup x = (sc.names.lookup x).map fun k => if (k == .free && outer.lookup x == some .cell) = true then .cell else k := by
 unfold zct
 generalize sc.names = l
 induction l with
 | nil => rfl
 | cons p l ih =>
  rw [List.map_cons,List.lookup_cons,List.lookup_cons]
  cases hxy : x == p.1 with
  | true => rw [beq_iff_eq.mp hxy]; rfl
  | false => exact ih
noncomputable def zaY (env : Env) (p : Str × NameKind) (cs : List (Str × Addr)) : List (Str × Addr) := if p.2 == .free then (match env.cells.lookup p.1 with | some a => (p.1,a) :: cs | none => cs) else cs
theorem clos_eq {env : Env} : ∀ (l : List (Str × NameKind)) (acc : List (Str × Addr)),(∀ p ∈ l,p.2 = .free -> (env.cells.lookup p.1).isSome = true) ->
  (forIn l acc fun x r => match x with
   | (name,kind) => if (kind == NameKind.free) = true then do let a <- cellOf env name; pure (ForInStep.yield ((name,a) :: r)) else pure (ForInStep.yield r) : Sem (List (Str × Addr))) = pure (l.foldl (fun cs p => zaY env p cs) acc) := by
 intro l
 induction l with
 | nil => exact fun acc _ => rfl
 | cons p l ih =>
  intro acc h
  obtain ⟨n,k⟩ := p
  rw [List.forIn_cons,List.foldl_cons]
  have ih := fun acc => ih acc fun p hp => h p (.tail _ hp)
  dsimp only
  by_cases hk : (k == NameKind.free) = true
  ·rw [if_pos hk]
   obtain ⟨a,ha⟩ := Option.isSome_iff_exists.mp (h (n,k) (.head _) (beq_iff_eq.mp hk))
   have e : cellOf env n = pure a := by unfold cellOf; rw [show env.cells.lookup n = some a from ha]
   rw [e,pure_bind,pure_bind]
   dsimp only
   rw [ih]
   congr 2
   unfold zaY
   rw [if_pos hk]
   dsimp only at ha ⊢
   rw [ha]
  ·rw [if_neg hk,pure_bind]
   dsimp only
   rw [ih]
   congr 2
   unfold zaY
   rw [if_neg hk]
theorem clos_look {env : Env} {x : Str} {c : Addr} (hc : env.cells.lookup x = some c) : ∀ (l : List (Str × NameKind)) (acc : List (Str × Addr)),((x,NameKind.free) ∈ l \/ acc.lookup x = some c) -> (l.foldl (fun cs p => zaY env p cs) acc).lookup x = some c := by
 intro l
 induction l with
 | nil => exact fun acc h => h.elim (fun h => absurd h List.not_mem_nil) id
 | cons p l ih =>
  intro acc h
  rw [List.foldl_cons]
  refine ih _ ?_
  have keep : acc.lookup x = some c -> (zaY env p acc).lookup x = some c := fun h => by
   unfold zaY
   split
   ·split
    ·rename_i a ha
     rw [List.lookup_cons]
     cases hxy : x == p.1 with
     | true => rw [beq_iff_eq.mp hxy] at hc; exact ha.symm.trans hc
     | false => exact h
    ·exact h
   ·exact h
  rcases h with h | h
  ·rcases List.mem_cons.mp h with e | h
   ·refine .inr ?_
    rw [<- e]
    unfold zaY
    dsimp only
    rw [hc,if_pos (show (NameKind.free == NameKind.free) = true from rfl)]
    show List.lookup x ((x,c) :: acc) = some c
    rw [List.lookup_cons,beq_self_eq_true]
   ·exact .inl h
  ·exact .inr (keep h)
theorem closure_eq {scope : Scope} {env : Env} (h : ∀ p ∈ scope.names,p.2 = .free -> (env.cells.lookup p.1).isSome = true) : ∃ cl,closureFor scope env = pure cl /\ ∀ x c,(x,NameKind.free) ∈ scope.names -> env.cells.lookup x = some c -> cl.lookup x = some c := by
 refine ⟨scope.names.foldl (fun cs p => zaY env p cs) [],?_,fun x c hx hc => clos_look hc _ _ (.inl hx)⟩
 have := clos_eq (env:=env) scope.names [] h
 unfold closureFor
 rw [<- this]
 simp only [bind_pure]
structure ScOk (cx : CC) (sc : Scope) (xs : List Str) : Prop where
 kind : sc.kind = .function
 nocell : ∀ p ∈ sc.names,p.2 ≠ .cell
 loc : ∀ p ∈ sc.names,p.2 = .local -> sc.names.lookup p.1 = some .local /\ (p.1 ∈ xs \/ cx.vars.lookup p.1 = none)
 free : ∀ p ∈ sc.names,p.2 = .free -> sc.names.lookup p.1 = some .free /\ cx.sc.lookup p.1 = some .cell
 nd : xs.Nodup
 xs : ∀ x ∈ xs,sc.names.lookup x = some .local
theorem scOk_of {cx : CC} {sc : Scope} {xs : List Str} (h : zdc cx sc xs = true) : ScOk cx sc xs := by
 unfold zdc at h
 simp only [Bool.and_eq_true,List.all_eq_true,beq_iff_eq,Bool.or_eq_true,bne_iff_ne,ne_eq,decide_eq_true_eq,List.contains_iff_mem,Option.isNone_iff_eq_none] at h
 obtain ⟨⟨⟨h1,h2⟩,h3⟩,h4⟩ := h
 exact ⟨h1,fun p hp => (h2 p hp).1.1,fun p hp hl => (h2 p hp).1.2.elim (absurd hl) id,fun p hp hf => (h2 p hp).2.elim (absurd hf) id,h4,h3⟩
noncomputable def CcOk (cx : CC) : Prop := ∀ x i,cx.vars.lookup x = some i -> i < cx.next
theorem lookup_app {α β : Type} [BEq α] (a : α) (r : List (α × β)) : ∀ (l : List (α × β)),(l ++ r).lookup a = (l.lookup a).or (r.lookup a) := by
 intro l
 induction l with
 | nil => rfl
 | cons p l ih =>
  rw [List.cons_append,List.lookup_cons,List.lookup_cons]
  cases a == p.1 with
  | true => rfl
  | false => exact ih
theorem zbP (x : Str) : ∀ (l : List Str) (n : Nat),(∀ i,(l.zip (List.range' n l.length)).lookup x = some i -> ∃ j,i = n + j /\ l[j]? = some x) /\ (x ∉ l -> (l.zip (List.range' n l.length)).lookup x = none) /\ (x ∈ l -> ((l.zip (List.range' n l.length)).lookup x).isSome = true) := by
 intro l
 induction l with
 | nil => exact fun n => ⟨fun i h => nos h,fun _ => rfl,fun h => absurd h List.not_mem_nil⟩
 | cons y l ih =>
  intro n
  obtain ⟨i1,i2,i3⟩ := ih (n + 1)
  rw [List.length_cons,List.range'_succ,List.zip_cons_cons,List.lookup_cons]
  cases hxy : x == y with
  | true => exact ⟨fun i h => ⟨0,(Option.some.inj h).symm,by rw [beq_iff_eq.mp hxy]; rfl⟩,fun h => absurd (beq_iff_eq.mp hxy ▸ List.mem_cons_self) h,fun _ => rfl⟩
  | false =>
   refine ⟨fun i h => ?_,fun h => i2 fun h' => h (.tail _ h'),fun h => i3 ((List.mem_cons.mp h).resolve_left (beq_eq_false_iff_ne.mp hxy))⟩
   obtain ⟨j,h1,h2⟩ := i1 i h
   exact ⟨j + 1,h1.trans (by rw [Nat.add_assoc,Nat.add_comm 1]),h2⟩
theorem zby {cx : CC} {sc : Scope} {xs : List Str} {x : Str} {i : Nat} (h : (inComp cx sc xs).vars.lookup x = some i) : (∃ j,i = cx.next + j /\ xs[j]? = some x) \/ (x ∉ xs /\ cx.vars.lookup x = some i) := by
 have h : (xs.zip (List.range' cx.next xs.length) ++ cx.vars).lookup x = some i := h
 obtain ⟨z1,z2,z3⟩ := zbP x xs cx.next
 rw [lookup_app] at h
 by_cases hx : x ∈ xs
 ·obtain ⟨j,hj⟩ := Option.isSome_iff_exists.mp (z3 hx)
  rw [hj] at h
  cases h
  exact .inl (z1 _ hj)
 ·rw [z2 hx] at h
  exact .inr ⟨hx,h⟩
theorem CcOk.inComp {cx : CC} (h : CcOk cx) (sc : Scope) (xs : List Str) : CcOk (inComp cx sc xs) := by
 intro x i hi
 show i < cx.next + xs.length
 rcases zby hi with ⟨j,rfl,hj⟩ | ⟨_,hi⟩
 ·exact Nat.add_lt_add_left (List.getElem?_eq_some_iff.mp hj).1 _
 ·exact Nat.lt_of_lt_of_le (h x i hi) (Nat.le_add_right _ _)
theorem zcU {cx : CC} {x : Str} {i : Nat} (h : zaS cx x = some i) : (cx.sc.lookup x = some .local \/ cx.sc.lookup x = some .cell) /\ cx.vars.lookup x = some i := by
 obtain ⟨h1,h2⟩ := gs h
 exact ⟨(Bool.or_eq_true_iff.mp h1).imp beq_iff_eq.mp beq_iff_eq.mp,h2⟩
theorem set_s {fr : Frame} {i j : Nat} {v u : Val} (h : (fr.set i (some v))[j]? = some (some u)) : (i = j /\ u = v) \/ (i ≠ j /\ fr[j]? = some (some u)) := by
 by_cases hij : i = j
 ·subst hij
  rw [List.getElem?_set] at h
  simp only [if_true] at h
  split at h
  ·cases h; exact .inl ⟨rfl,rfl⟩
  ·cases h
 ·rw [List.getElem?_set_ne hij] at h
  exact .inr ⟨hij,h⟩
theorem zcI (i : Nat) (u : Val) : ∀ (vs : List Val) (n : Nat) (fr : Frame),(puts (List.range' n vs.length) vs fr)[i]? = some (some u) -> (∃ j,i = n + j /\ vs[j]? = some u) \/ ((i < n \/ n + vs.length <= i) /\ fr[i]? = some (some u)) := by
 intro vs
 induction vs with
 | nil => exact fun n fr h => .inr ⟨Nat.lt_or_ge i n,h⟩
 | cons v vs ih =>
  intro n fr h
  rw [List.length_cons,List.range'_succ] at h
  rcases ih (n + 1) (fr.set n (some v)) h with ⟨j,h1,h2⟩ | ⟨h1,h2⟩
  ·exact .inl ⟨j + 1,by omega,h2⟩
  ·rcases set_s h2 with ⟨e,rfl⟩ | ⟨hne,h3⟩
   ·exact .inl ⟨0,e.symm,rfl⟩
   ·exact .inr ⟨by rw [List.length_cons]; omega,h3⟩
section
variable {C : Cfg} {d e : Nat} {Y : Actv C d e} {k : Kp} {w : Wd} {H : MH} {s : Shared} {cx : CC} {env : Env} {mE : Str -> Option Value} {fr : Frame}
theorem snd_iterSelf {A : Around} {I : Addr} {io : Obj} {z : It} {i : Nat} (hI : s.heap.get? I = some io) (R : zbB C w io i z) {Q : Value -> Shared -> Prop} {E : Value -> Shared -> Prop} (h : Q (.ref I) s) : wpAny C.M A (pyIter (.ref I)) Q E s := by
 cases z with
 | fs _ => obtain ⟨la,_,ic⟩ := R; exact wpAny_pyIter_listiter ⟨io,hI,ic.1,ic.2⟩ h
 | ls _ => obtain ⟨la,_,ic⟩ := R; exact wpAny_pyIter_listiter ⟨io,hI,ic.1,ic.2⟩ h
 | tp _ => obtain ⟨la,_,ic⟩ := R; exact wpAny_pyIter_tupleiter ⟨io,hI,ic.1,ic.2⟩ h
 | sq _ =>
  obtain ⟨_,T,t,hT,ic⟩ := R
  rcases hT with rfl | rfl
  ·exact wpAny_pyIter_striter_ascii ⟨io,hI,ic.1,ic.2⟩ h
  ·exact wpAny_pyIter_striter_wide ⟨io,hI,ic.1,ic.2⟩ h
 | dk _ _ _ => obtain ⟨la,_,ic,id⟩ := R; exact wpAny_pyIter_keyiter ⟨io,hI,ic,id⟩ h
 | rg _ => obtain ⟨_,_,_,rfl⟩ := R; exact wpAny_pyIter_rangeiter hI h
noncomputable abbrev tupKinds : List String := ["enumerate","zip","dict_itemiterator","dict_reverseitemiterator","odict_iterator","itertools.zip_longest","itertools.pairwise"]
theorem zbB.cls {io : Obj} {z : It} {i : Nat} (R : zbB C w io i z) : ∃ T vs,io.cls = .type T /\ io.data = .fields vs /\ tupKinds.contains T = false := by
 cases z with
 | fs _ => obtain ⟨la,_,ic⟩ := R; exact ⟨_,_,ic.1,ic.2,by decide⟩
 | ls _ => obtain ⟨la,_,ic⟩ := R; exact ⟨_,_,ic.1,ic.2,by decide⟩
 | tp _ => obtain ⟨la,_,ic⟩ := R; exact ⟨_,_,ic.1,ic.2,by decide⟩
 | sq _ => obtain ⟨_,T,t,hT,ic⟩ := R; rcases hT with rfl | rfl <;> exact ⟨_,_,ic.1,ic.2,by decide⟩
 | dk _ _ _ => obtain ⟨la,_,ic,id⟩ := R; exact ⟨_,_,ic,id,by decide⟩
 | rg _ => obtain ⟨_,_,_,rfl⟩ := R; exact ⟨_,_,rfl,rfl,by decide⟩
theorem zbn {A : Around} {I : Addr} {io : Obj} (hI : s.heap.get? I = some io) {tg : Expr} {v : Value} (R : ∃ T vs,io.cls = .type T /\ io.data = .fields vs /\ tupKinds.contains T = false) {Q : Unit -> Shared -> Prop} {E : Value -> Shared -> Prop} (h : Q () s) : wpAny C.M A (letOwnedTupleGo tg (.ref I) v) Q E s := by
 obtain ⟨T,vs,hc,hd,hb⟩ := R
 have key : wpAny C.M A (do
  let (.ref r,.ref a) := ((Value.ref I),v) | return
  let o <- load r
  match o.cls,o.data with
  | .type n,.fields vs =>
   if ["enumerate","zip","dict_itemiterator","dict_reverseitemiterator","odict_iterator","itertools.zip_longest","itertools.pairwise"].contains n && vs[0]? == some (rawInt a) then
    rule "for.unpacks-the-owned-tuple"
    updateField r 0 .none
  | _,_ => pure ()) Q E s := by
  cases v with
  | ref b =>
   refine wpAny_bind (wpAny_load hI ?_)
   rw [hc,hd]
   dsimp only
   rw [show (["enumerate","zip","dict_itemiterator","dict_reverseitemiterator","odict_iterator","itertools.zip_longest","itertools.pairwise"].contains T) = false from hb]
   exact wpAny_pure h
  | _ => exact wpAny_pure h
 cases tg <;> first | exact wpAny_pure h | exact key
noncomputable abbrev testsT (env : Env) (ifs : List Expr) (b : Bool) : Sem Bool := forIn ifs b fun c r => if r = true then do let ok <- PySem.isTrue c env (PySem.eval c env); pure (ForInStep.yield ok) else pure (ForInStep.yield r)
theorem tests_false : ∀ (ifs : List Expr),testsT env ifs false = pure false := by
 intro ifs
 induction ifs with
 | nil => rfl
 | cons c r ih =>
  unfold testsT
  rw [List.forIn_cons]
  simp only [Bool.false_eq_true,if_false,pure_bind]
  exact ih
theorem snd_tests {ifs : List Expr} {irs : List Ex} (h : Sds C d cx ifs irs) : ∀ (Y : Actv C d 2) (env : Env) (k : Kp) (mE : Str -> Option Value) (fr : Frame) (w : Wd) (H : MH) (s : Shared),Pl Y cx env k mE fr w H s -> Ref Y k EqR (testsT env ifs true) w s (evalT (C.cx d) irs fr H) := by
 induction h with
 | nil => exact fun Y env k mE fr w H s p => .pure' p.st rfl
 | cons he _ ih =>
  intro Y env k mE fr w H s p r
  refine zad fun b H1 e1 e Q E hq => ?_
  unfold testsT
  rw [List.forIn_cons]
  simp only [if_true]
  refine wpAny_bind (wpAny_bind (he.ts Y env k mE fr w H s p _ e1 _ _ fun w1 a1 s1 n1 r1 => wpAny_pure ?_))
  rw [show a1 = b from r1]
  cases b with
  | true => exact ih Y env k mE fr w1 H1 s1 (p.next n1) _ e _ _ fun w2 a2 s2 n2 r2 => hq w2 a2 s2 (n1.trans n2) r2
  | false =>
   cases e
   show wpAny C.M Y.A (testsT env _ false) Q E s1
   rw [tests_false]
   exact wpAny_pure (hq w1 _ s1 n1 rfl)
theorem zc4 {sc : Scope} (hk : env.scope.kind = .function) (hs : env.scope.names = cx.sc) : (relabel sc env).names = zct cx.sc sc := by
 unfold relabel zct
 dsimp only
 apply List.map_congr_left
 intro p _
 rw [hk,<- hs]
 unfold Env.kindOf
 obtain ⟨n,k⟩ := p
 dsimp only
 rw [show (ScopeKind.function == ScopeKind.function) = true from rfl,Bool.and_true]
 split <;> rfl
theorem zbQ {sc : Scope} {xs : List Str} (O : ScOk cx sc xs) {x : Str} : ((zct cx.sc sc).lookup x = some .local -> sc.names.lookup x = some .local) /\ ((zct cx.sc sc).lookup x = some .cell -> sc.names.lookup x = some .free /\ cx.sc.lookup x = some .cell) := by
 rw [compSc_look]
 refine ⟨ms_r fun k hk e => ?_,ms_r fun k hk e => ?_⟩
 ·split at e
  ·cases e
  ·rw [hk,e]
 ·split at e
  ·rename_i hc
   rw [Bool.and_eq_true,beq_iff_eq,beq_iff_eq] at hc
   rw [hk,hc.1]; exact ⟨rfl,hc.2⟩
  ·exact absurd e (O.nocell _ (zaj hk))
theorem Pl.inner (p : Pl Y cx env k mE fr w H s) {sc : Scope} {xs : List Str} (O : ScOk cx sc xs) (hn : CcOk cx) {cl : List (Str × Addr)} (hcl : ∀ x c,(x,NameKind.free) ∈ sc.names -> env.cells.lookup x = some c -> cl.lookup x = some c) {N : Addr} {oN : Obj} {k' : Kp} (hk : k'.ce = k.ce) {mN : Str -> Option Value} (hm : (N,oN) ∈ k'.ex) (hns : NsO oN mN)
  {w' : Wd} (le : w.le w') {H' : MH} {s' : Shared} (S' : St Y k' w' H' s') {mvs : List Val} {vs : List Value} (r : zab C w' mvs vs) (hl : mvs.length = xs.length) (hv : ∀ (j : Nat) x,xs[j]? = some x -> mN x = vs[j]?) : Pl Y (inComp cx sc xs) (compEnvC sc cl N env) k' mN (puts (List.range' cx.next xs.length) mvs fr) w' H' s' := by
 refine ⟨⟨O.kind,p.b.gl,p.b.bl,zc4 p.b.kind p.b.sc,fun x hx => ?_,.inr ⟨oN,hm,hns⟩⟩,fun x i v hx hvv => ?_,S'⟩
 ·obtain ⟨h1,h2⟩ := (zbQ O).2 hx
  obtain ⟨c,o,v₀,k1,k2,k3⟩ := p.b.cells x h2
  exact ⟨c,o,v₀,hcl x c (zaj h1) k1,hk ▸ k2,k3⟩
 ·obtain ⟨hkd,hi⟩ := zcU hx
  rw [<- hl] at hvv
  rcases hkd with hkd | hkd
  ·have hloc := (zbQ O).1 hkd
   rcases zby hi with ⟨j,rfl,hj⟩ | ⟨hne,hi'⟩
   ·have hjl := (List.getElem?_eq_some_iff.mp hj).1
    rcases zcI _ _ _ _ _ hvv with ⟨j',e,hj'⟩ | ⟨hlt,_⟩
    ·cases Nat.add_left_cancel e
     obtain ⟨rv,h1,h2⟩ := r.get hj'
     exact .loc rv hkd ((hv _ _ hj).trans h1) h2
    ·omega
   ·rcases (O.loc _ (zaj hloc) rfl).2 with h | h
    ·exact absurd h hne
    ·rw [h] at hi'; cases hi'
  ·obtain ⟨h1,h2⟩ := (zbQ O).2 hkd
   rcases zby hi with ⟨j,rfl,hj⟩ | ⟨_,hi'⟩
   ·have := O.xs x (List.mem_of_getElem? hj)
    rw [h1] at this; cases this
   ·have hlt := hn x i hi'
    rcases zcI _ _ _ _ _ hvv with ⟨j',e,hj'⟩ | ⟨_,hv'⟩
    ·omega
    ·have hvar : zaS cx x = some i := by unfold zaS; rw [h2]; exact hi'
     cases (p.f x i v hvar hv').mono le with
     | loc _ h3 _ _ => rw [h2] at h3; cases h3
     | cell rv c o _ e1 e2 e3 e4 => exact .cell rv c o hkd (hcl x c (zaj h1) e1) (hk ▸ e2) e3 e4
noncomputable abbrev isBind (env : Env) (x : Str) (f : Value -> Sem Unit) : Prop := ∀ (M : Model) (A : Around) (v : Value) (Q : Unit -> Shared -> Prop) (E : Value -> Shared -> Prop) (s : Shared),wpAny M A (storeName env x v) Q E s -> wpAny M A (f v) Q E s
theorem zcu {es : List Expr} {xs : List Str} (h : All2 (fun e x => zbw e = some x) es xs) : All2 (isBind env) xs ((assignEach es env).map (·.2)) /\ (assignEach es env).length = xs.length /\ (assignEach es env).findIdx? (·.1) = none := by
 induction h with
 | nil => exact ⟨.nil,rfl,rfl⟩
 | @cons e x es xs h _ ih =>
  obtain ⟨b1,b2,b3⟩ := ih
  obtain ⟨p,hp,rfl⟩ := ms h
  cases zaD hp
  refine ⟨.cons (fun _ _ _ _ _ _ z => PySem.wpAny_assign_Name z) b1,congrArg (· + 1) b2,?_⟩
  show List.findIdx? _ ((false,assign (.Name p.1 p.2) env) :: assignEach es env) = none
  rw [List.findIdx?_cons]
  simp only [Bool.false_eq_true,if_false,b3,Option.map_none]
theorem tgt_s {t : Expr} {q : List Str × Bool} (h : tgtOf t = some q) : (∃ x p,t = .Name x p /\ q = ([x],false)) \/ ∃ es n p,t = .Tuple es n p /\ q.2 = true /\ All2 (fun e x => zbw e = some x) es q.1 := by
 revert h
 refine zao (ms_r fun p hp e => ?_) (bs_r fun p hp => ms_r fun xs hx e => ?_)
 ·exact .inl ⟨p.1,p.2,zaD hp,e.symm⟩
 ·subst e
  exact .inr ⟨p.1,p.2.1,p.2.2,zdf hp,rfl,zbg hx⟩
inductive BindO (fr fr1 : Frame) (tg : List Nat) (many : Bool) (v : Val) : Prop
 | mk (mvs : List Val) (l : mvs.length = tg.length) (e : fr1 = puts tg mvs fr) (t : many = true -> v = .tup mvs) (f : many = false -> mvs = [v]) : BindO fr fr1 tg many v
theorem bindT_s {tg : List Nat} {many : Bool} {v : Val} {fr1 : Frame} (h : zbf fr tg many v = some fr1) : BindO fr fr1 tg many v := by
 cases many with
 | true =>
  obtain ⟨vs,h1,h⟩ := bs (o:=v.tup?) h
  obtain ⟨hl,e⟩ := gs h
  exact ⟨vs,beq_iff_eq.mp hl,(Option.some.inj e).symm,fun _ => tup?_s h1,fun q => Bool.noConfusion q⟩
 | false =>
  obtain ⟨hl,e⟩ := gs (b:=tg.length == 1) h
  exact ⟨[v],(beq_iff_eq.mp hl).symm,(Option.some.inj e).symm,fun q => Bool.noConfusion q,fun _ => rfl⟩
theorem zck (hk : env.scope.kind = .function) {x : Str} (hx : env.kindOf x = some .local) {oN : Obj} {mN : Str -> Option Value} (S : St Y (k.ext (env.locals,oN)) w H s) (hns : NsO oN mN) {rv : Value} {Q : Unit -> Shared -> Prop} {E : Value -> Shared -> Prop}
  (h : ∀ oN' mN' h' tk,Sta C Y.h₀ Y.L (k.ext (env.locals,oN')) w H h' -> NsO oN' mN' -> mN' x = some rv -> (∀ y,y ≠ x -> mN' y = mN y) -> Q () { s with heap := h',toks := tk }) : wpAny C.M Y.A (storeName env x rv) Q E s := by
 obtain ⟨es,ep,n⟩ := hns
 refine wpAny_storeName_local (m:=mN) hx ⟨oN,es,ep,S.exHead.1,n⟩ (fun h' hn hs => ?_) (by rw [hk]; rfl)
 obtain ⟨o',es',ep',g1,g⟩ := hn
 exact h o' _ h' _ (S.setEx hs g1) ⟨es',ep',g⟩ (if_pos rfl) (fun y hy => if_neg hy)
theorem storesC (hk : env.scope.kind = .function) {xs : List Str} {fs : List (Value -> Sem Unit)} (hb : All2 (isBind env) xs fs) : (∀ x ∈ xs,env.kindOf x = some .local) -> xs.Nodup -> ∀ {vs : List Value} {oN : Obj} {mN : Str -> Option Value} {s : Shared} {Q : Unit -> Shared -> Prop} {E : Value -> Shared -> Prop},
  vs.length = xs.length -> St Y (k.ext (env.locals,oN)) w H s -> NsO oN mN ->
  (∀ oN' mN' h' tk,Sta C Y.h₀ Y.L (k.ext (env.locals,oN')) w H h' -> NsO oN' mN' -> (∀ (j : Nat) x,xs[j]? = some x -> mN' x = vs[j]?) -> (∀ y,y ∉ xs -> mN' y = mN y) -> Q () { s with heap := h',toks := tk }) -> wpAny C.M Y.A (assignInOrder fs vs) Q E s := by
 induction hb with
 | nil =>
  intro _ _ vs oN mN s Q E hl S hns h
  cases List.length_eq_zero_iff.mp hl
  exact wpAny_pure (h oN mN s.heap s.toks S hns (fun j x hj => nos hj) (fun _ _ => rfl))
 | @cons x f xs fs hf _ ih =>
  intro hx hd vs oN mN s Q E hl S hns h
  cases vs with
  | nil => cases hl
  | cons v vs =>
   have hd := List.nodup_cons.mp hd
   show wpAny C.M Y.A (do holding _ _; assignInOrder _ _) Q E s
   refine wpAny_bind (wpAny_holding (hf _ _ _ _ _ _ (zck hk (hx x (.head _)) S hns fun oN1 mN1 h1 tk S1 hns1 e1 e2 => ?_)))
   refine ih (fun y hy => hx y (.tail _ hy)) hd.2 (s:={ s with heap := h1,toks := tk }) (Nat.succ.inj hl) S1 hns1 fun oN2 mN2 h2 tk2 S2 hns2 k1 k2 => ?_
   refine h oN2 mN2 h2 tk2 S2 hns2 (fun j y hj => ?_) (fun y hy => (k2 y fun q => hy (.tail _ q)).trans (e2 y fun q => hy (q ▸ .head _)))
   cases j with
   | zero => cases hj; rw [k2 _ hd.1,e1]; rfl
   | succ j => exact k1 j y hj
theorem assignC (hk : env.scope.kind = .function) {t : Expr} {q : List Str × Bool} (ht : tgtOf t = some q) (hx : ∀ x ∈ q.1,env.kindOf x = some .local) (hd : q.1.Nodup) {v : Val} {mvs : List Val} {rv : Value} (h1 : q.2 = true -> v = .tup mvs) (h2 : q.2 = false -> mvs = [v]) (hl : mvs.length = q.1.length) (hv : VRel C w v rv)
  {oN : Obj} {mN : Str -> Option Value} (S : St Y (k.ext (env.locals,oN)) w H s) (hns : NsO oN mN) {Q : Unit -> Shared -> Prop} {E : Value -> Shared -> Prop}
  (h : ∀ vs oN' mN' h' tk,zab C w mvs vs -> Sta C Y.h₀ Y.L (k.ext (env.locals,oN')) w H h' -> NsO oN' mN' -> (∀ (j : Nat) x,q.1[j]? = some x -> mN' x = vs[j]?) -> Q () { s with heap := h',toks := tk }) : wpAny C.M Y.A (assign t env rv) Q E s := by
 rcases tgt_s ht with ⟨x,p,rfl,rfl⟩ | ⟨es,n,p,rfl,hq,hes⟩
 ·cases h2 rfl
  refine PySem.wpAny_assign_Name (zck hk (hx x (.head _)) S hns fun oN' mN' h' tk S' hns' e1 _ => h [rv] oN' mN' h' tk (.one hv) S' hns' fun j y hj => ?_)
  cases j with
  | zero => cases hj; exact e1
  | succ j => exact nos hj
 ·cases h1 hq
  obtain ⟨b1,b2,b3⟩ := zcu (env:=env) hes
  obtain ⟨tt,o,n',ws,rfl,ho,hc,hdd,rr,_⟩ := S.tup hv
  exact assign_Tuple_tuple (items:=ws.toArray) Y.handled ⟨o,ho,hc,n',hdd⟩ (by rw [b2,List.size_toArray,<- rr.length,hl]) b3 fun h' he => storesC hk b1 hx hd (s:={ s with heap := h' }) (by rw [<- rr.length,hl]) (S.grown he) hns fun oN' mN' h'' tk S2 hns2 k1 _ => h ws oN' mN' h'' tk rr S2 hns2 k1
end
end Mi
namespace Mi
open PySem PySem.W PySem.Calls PyProof.Rows
structure CpO (C : Cfg) (d : Nat) (cx : CC) (g : Comprehension) (sc : Scope) (elt : Expr) (q : List Str × Bool) (ie ii : Ex) (iifs : List Ex) : Prop where
 as : g.is_async = 0
 t : tgtOf g.target = some q
 o : ScOk cx sc q.1
 it : Sd C d cx g.iter ii
 elt : Sd C d (inComp cx sc q.1) elt ie
 ifs : Sds C d (inComp cx sc q.1) g.ifs iifs
section
variable {C : Cfg} {d e : Nat} {k : Kp} {w : Wd} {H : MH} {s : Shared} {cx : CC} {env : Env} {mE : Str -> Option Value} {fr : Frame} {gl : List (Str × Val)}
inductive CpSt (C : Cfg) {d e : Nat} (Y : Actv C d e) (k : Kp) (w0 : Wd) (s0 : Shared) (I N : Addr) (z : It) (F : Nat -> MH -> Option (Unit × MH)) (r : Unit × MH) (s : Shared) : Prop
 | mk (w : Wd) (H : MH) (j : Nat) (io oN : Obj) (mN : Str -> Option Value) (le : w0.le w) (st : St Y ((k.ext (N,oN)).ext (I,io)) w H s) (ns : NsO oN mN) (it : zbB C w io j z) (sm : Same s0 s) (lp : F j H = some r) : CpSt C Y k w0 s0 I N z F r s
theorem comp_wp {Y : Actv C d 2} {g : Comprehension} {sc : Scope} {elt : Expr} {q : List Str × Bool} {ie ii : Ex} {iifs : List Ex} {pos ps : Pos} (O : CpO C d cx g sc elt q ie ii iifs) (hn : CcOk cx) (p : Pl Y cx env k mE fr w H s) {r : Val × MH}
  (ev : eval (C.cx d) (.comp ie (List.range' cx.next q.1.length) q.2 ii iifs) fr H = some r) {use : Option (Value -> Sem Unit)} {Q : Value -> Shared -> Prop} {E : Value -> Shared -> Prop}
  (hpost : ∀ w' D N oN mN s',w.le w' -> St Y (k.ext (N,oN)) w' r.2 s' -> NsO oN mN -> VRel C w' r.1 (.ref D) -> Same s s' -> compPost C.M Y.A E use Q (.ref D) N (.ok .next) s') :
  wpAny C.M Y.A (comprehension (.ListComp elt [g] sc pos) sc env ps (newList []) false (PySem.eval g.iter env) use) Q E s := by
 obtain ⟨as,ht,Os,hit,helt,hifs⟩ := O
 obtain ⟨t,it,ifs,a⟩ := g
 have as : a = 0 := as
 subst as
 revert ev
 refine zad fun v H1 ev1 => bs_r fun z hz => zad fun _ H2 lp e => ?_
 cases e
 obtain ⟨cl,hclos,hcl⟩ := closure_eq (scope:=sc) (env:=env) fun x hx hf => by
  obtain ⟨c,_,_,hc,_⟩ := p.b.cells x.1 (Os.free x hx hf).2
  rw [hc]; rfl
 refine wpAny_comprehension_free rfl (hit.sy.fold env) hclos Os.kind (fun x hx hl => (Os.loc x hx hl).1) (hit.es Y env k mE fr w H s p _ ev1 _ _ fun w1 a1 s1 n1 r1 => zc1 n1.st r1 (fun I io h2 S2 R2 => ?_) hz)
 obtain ⟨all,hnn,add,_,_⟩ := S2.ledger
 refine wpAny_newObj_type (wpAny_newFunctionEnv Os.nocell (by intro y hy; simp at hy) (fun h₁ hns₁ hsb₁ => ?_) Os.kind)
 have le2 : w1.le ⟨w1.σ ++ [h2.objs.size],w1.tp⟩ := ⟨List.prefix_append _ _,fun _ x => x⟩
 have S3 := add _ (.list []) [(h2.objs.size,listOf ([] : List Value).toArray 0)] _ ⟨[],0,rfl,.nil,Nat.zero_le _⟩ (S2.fr.push _) (hnn.push S2.fr _) (zbs _) (News.fresh hnn fun p hp => List.mem_singleton.mp hp ▸ Nat.le_refl _) (S2.four (Nat.le_refl _))
 have hD : (w1.σ ++ [h2.objs.size])[H1.length]? = some h2.objs.size := by rw [<- S2.len]; exact List.getElem?_concat_length
 obtain ⟨oN,esN,epN,n1',nn⟩ := hns₁
 have S4 := (S3.addEx { cls := .type "dict",data := .dict #[] } rfl).setEx hsb₁ n1'
 have hns : NsO oN (fun x => List.lookup x ([] : List (Str × Value)).reverse) := ⟨esN,epN,nn⟩
 generalize hNN : (h2.push _).objs.size = N at *
 generalize hDD : h2.objs.size = D at *
 clear hNN add hnn S3 hsb₁ n1' nn
 have loop : ∀ s4 : Shared,s4.heap = h₁ -> Same s s4 -> codeAny C.M Y.A (.compLoop (.ListComp elt [⟨t,it,ifs,0⟩] sc pos) 0 (.ref I) (.ref D) (compEnvC sc cl N env)) (compPost C.M Y.A E use Q (.ref D) N) s4 := by
  intro s4 hs4 sm4
  refine zbz (fun n s' => CpSt C Y k ⟨w1.σ ++ [D],w1.tp⟩ s I N z (compLoop (fun i h => zah h i z) (fun v h => (zbf fr (List.range' cx.next q.1.length) q.2 v).bind fun fr' => bnd (evalT (C.cx d) iifs fr' h) fun b h' => some (bif b then some fr' else none,h')) (fun fr' h => eval (C.cx d) ie fr' h) H1.length n) ((),H2) s')
   ?_ (C.cx d).fuel ⟨_,_,0,io,oN,_,.refl _,by rw [St,hs4]; exact S4.exSwap,hns,R2.mono le2,sm4,lp⟩
  rintro n s' ⟨w5,H5,j,io',oN',mN',le5,S5,hns5,R5,sm5,lp5⟩
  cases n with
  | zero => exact nos lp5
  | succ n =>
   revert lp5
   refine bs_r fun ov hov lp5 => zb6 S5 R5 hov ⟨fun u rv io6 h' tk hu S6 R6 hr => ?_,fun h' hu S6 => ?_⟩
   ·subst hu
    refine zbn (s:={ s' with heap := h',toks := tk }) S6.exHead.1 R6.cls ?_
    revert lp5
    refine zad fun ofr H7 htest lp5 => ?_
    obtain ⟨fr2,hbind,htest⟩ := bs htest
    obtain ⟨mvs,b1,b2,b3,b4⟩ := bindT_s hbind
    rw [List.length_range'] at b1
    refine assignC (s:={ s' with heap := h',toks := tk }) (env:=compEnvC sc cl N env) (k:=k.ext (I,io6)) Os.kind ht (fun x hx => lookup_relabel_local (Os.xs x hx)) Os.nd b3 b4 b1 hr (Sta.exSwap S6) hns5 fun vs oN7 mN7 h7 tk7 rr7 S7 hns7 hm7 => ?_
    have S7' : St Y ((k.ext (N,oN7)).ext (I,io6)) w5 H5 { s' with heap := h7,toks := tk7 } := Sta.exSwap S7
    have P7 := (p.next n1).inner (k' := (k.ext (N,oN7)).ext (I,io6)) Os hn hcl rfl (.tail _ (.head _)) hns7 (le2.trans le5) S7' rr7 b1 hm7
    rw [<- b2] at P7
    revert htest
    refine zad fun b H8 htt e8 => ?_
    cases e8
    refine snd_tests hifs Y _ _ _ _ _ _ _ P7 _ htt _ _ fun w8 ok s8 n8 r8 => ?_
    rw [show ok = b from r8]
    have sm8 : Same s s8 := (Same.trans sm5 ⟨n8.same.1,n8.same.2⟩)
    cases b with
    | false => exact ⟨n,Nat.lt_succ_self n,w8,_,j + 1,io6,oN7,mN7,le5.trans n8.le,n8.st,hns7,R6.mono n8.le,sm8,lp5⟩
    | true =>
     revert lp5
     refine zad fun x9 H9 ev9 => bs_r fun acc hacc => gs_r fun hlen lp9 => ?_
     refine helt.es Y _ _ _ _ _ _ _ (P7.next n8) _ ev9 _ _ fun w9 xv s9 n9 r9 => ?_
     have hD9 : w9.σ[H1.length]? = some D := ((le5.trans n8.le).trans n9.le).get hD
     refine zcH n9.st hD9 hacc r9 (Nat.ble_eq.mp hlen) _ rfl _ _ fun w10 _ s10 n10 _ => ?_
     exact ⟨n,Nat.lt_succ_self n,w10,_,j + 1,io6,oN7,mN7,((le5.trans n8.le).trans n9.le).trans n10.le,n10.st,hns7,R6.mono ((n8.le.trans n9.le).trans n10.le),(sm8.trans n9.same).trans n10.same,lp9⟩
   ·subst hu
    cases lp5
    exact hpost w5 D N oN' mN' { s' with heap := h' } ((n1.le.trans le2).trans le5) S6 hns5 ⟨D,rfl,le5.get hD⟩ ⟨sm5.1,sm5.2⟩
 exact codeAny_compStart_list (loop _ rfl ⟨n1.same.1,n1.same.2⟩) (snd_iterSelf (s:={ s1 with heap := h₁,toks := _ }) (Sta.exHead (Sta.exSwap S4)).1 R2 (loop _ rfl ⟨n1.same.1,n1.same.2⟩))
theorem zau {e : Expr} (h1 : ∀ rest env,starEach (e :: rest) env = (false,PySem.eval e env) :: starEach rest env) (h2 : ∀ o i,subscripted e false o i = operate [o,i] (getItem o i)) (h3 : ∀ op,behindInMarks op e = false) (h4 : ∀ env x,foldedSetIterable e env x = pure x) (h5 : ∀ t n env,swapsWith e t n env = pure false) : Sy e := ⟨h1,h2,h3,h4,fun _ => h5⟩
theorem Sd.of {e : Expr} {ir : Ex} (h : ESnd C d cx e ir) (he : ∀ (env : Env) (whole : Sem Value),PySem.isTrue e env whole = (do let v <- whole; standAt e.pos; holding [v] (PySem.truthy v))) (sy : Sy e) : Sd C d cx e ir := ⟨h,tsnd_plain h he,sy⟩
theorem zbV (O : zaG C gl) (hC : zaI C d) : ∀ (n : Nat) (cx : CC),GlOk C cx.gl -> CcOk cx -> ∀ (e : Expr) (ir : Ex),compE n cx e = some ir -> Sd C d cx e ir := by
 intro n
 induction n with
 | zero => exact fun cx _ _ e ir h => nos h
 | succ n ih' =>
  intro cx hg hcc e ir
  have ih := ih' cx hg hcc
  have ihs : ∀ {es irs},mapO (compE n cx) es = some irs -> Sds C d cx es irs := fun h => (zbg h).mono ih
  cases e with
  | Constant c m pos => exact ms_r fun v hv e => e ▸ .of (snd_const hv) (fun _ _ => rfl) (zau (fun _ _ => rfl) (fun _ _ => rfl) (fun _ => rfl) (fun _ _ => rfl) (fun _ _ _ => rfl))
  | Name x pos => exact fun h => .of (zc0 hg h) (fun _ _ => rfl) (zau (fun _ _ => rfl) (fun _ _ => rfl) (fun _ => rfl) (fun _ _ => rfl) (fun _ _ _ => rfl))
  | BoolOp op vs pos =>
   exact ms_r fun irs hi e => e ▸ ⟨fun Y env k mE fr w H s p => snd_bop (pos:=pos) (ihs hi) Y env k mE fr w H s p,fun Y env k mE fr w H s p r e Q E hq => wpAny_isTrue_BoolOp (tsnd_bop (ihs hi) Y env k mE fr w H s p r e Q E hq),zau (fun _ _ => rfl) (fun _ _ => rfl) (fun _ => rfl) (fun _ _ => rfl) (fun _ _ _ => rfl)⟩
  | BinOp l op r pos =>
   exact bs_r fun o ho => bs_r fun a ha => ms_r fun b hb e => e ▸ .of (snd_bin ho (ih _ _ ha).es (ih _ _ hb).es) (fun _ _ => rfl) (zau (fun _ _ => rfl) (fun _ _ => rfl) (fun _ => rfl) (fun _ _ => rfl) (fun _ _ _ => rfl))
  | UnaryOp op x pos =>
   refine gs_r fun ho => ms_r fun a ha e => e ▸ ?_
   cases op with
   | Not => exact ⟨snd_not (ih _ _ ha).es,tsnd_not (ih _ _ ha).ts,zau (fun _ _ => rfl) (fun _ _ => rfl) (fun _ => rfl) (fun _ _ => rfl) (fun _ _ _ => rfl)⟩
   | _ => cases ho
  | IfExp t x y pos =>
   exact bs_r fun a ha => bs_r fun b hb => ms_r fun c hc e => e ▸ ⟨snd_ite (ih _ _ ha).ts (ih _ _ hb).es (ih _ _ hc).es,tsnd_ite (ih _ _ ha).ts (ih _ _ hb).ts (ih _ _ hc).ts,zau (fun _ _ => rfl) (fun _ _ => rfl) (fun _ => rfl) (fun _ _ => rfl) (fun _ _ _ => rfl)⟩
  | List es pos => exact gs_r fun hl => ms_r fun irs hi e => e ▸ .of (snd_list (ihs hi) hl) (fun _ _ => rfl) (zau (fun _ _ => rfl) (fun _ _ => rfl) (fun _ => rfl) (fun _ _ => rfl) (fun _ _ _ => rfl))
  | Tuple es m pos => exact gs_r fun hl => ms_r fun irs hi e => e ▸ .of (snd_tuple (ihs hi) hl) (fun _ _ => rfl) (zau (fun _ _ => rfl) (fun _ _ => rfl) (fun _ => rfl) (fun _ _ => rfl) (fun _ _ _ => rfl))
  | Compare l ops cs pos =>
   intro h
   obtain ⟨o,rfl,h⟩ := zaP h
   obtain ⟨r,rfl,h⟩ := zaP h
   revert h
   exact bs_r fun a ha => ms_r fun b hb e => e ▸ ⟨snd_compare O.cfg (ih _ _ ha).es (ih _ _ hb),tsnd_compare O.cfg (ih _ _ ha).es (ih _ _ hb),zau (fun _ _ => rfl) (fun _ _ => rfl) (fun _ => rfl) (fun _ _ => rfl) (fun _ _ _ => rfl)⟩
  | Call f as ks pos =>
   refine gs_r fun hk => bs_r fun irs hi h => ?_
   have hk := Bool.and_eq_true_iff.mp hk
   cases ks with
   | cons _ _ => cases hk.1
   | nil =>
    refine .of ?_ (fun _ _ => rfl) (zau (fun _ _ => rfl) (fun _ _ => rfl) (fun _ => rfl) (fun _ _ => rfl) (fun _ _ _ => rfl))
    revert h
    refine zao (bs_r fun p hp => ms_r fun g hgn e => ?_) (bs_r fun p hp => gs_r fun hc => ms_r fun g hgn e => ?_)
    ·rw [<- e,zaD hp]
     exact snd_callName O hC (ihs hi) (zc0 hg hgn)
    ·have hc := Bool.and_eq_true_iff.mp hc
     have hc' := Bool.and_eq_true_iff.mp hc.1
     rw [<- e,zcc hp]
     exact snd_callMeth O hC (ihs hi) (Nat.ble_eq.mp hk.2) (ih _ _ hgn).es hc'.1 hc'.2 hc.2
  | Attribute v nm pos =>
   exact gs_r fun hc => ms_r fun a ha e => e ▸ .of (snd_attr O (ih _ _ ha).es (Bool.and_eq_true_iff.mp hc).1 (Bool.and_eq_true_iff.mp hc).2) (fun _ _ => rfl) (zau (fun _ _ => rfl) (fun _ _ => rfl) (fun _ => rfl) (fun _ _ => rfl) (fun _ _ _ => rfl))
  | Subscript v sl pos =>
   intro h
   refine .of ?_ (fun _ _ => rfl) (zau (fun _ _ => rfl) (fun _ _ => rfl) (fun _ => rfl) (fun _ _ => rfl) (fun _ _ _ => rfl))
   have h : Option.casesOn (motive:=fun _ => Option Ex) (zbU sl) ((compE n cx v).bind fun e => (compE n cx sl).map fun i => .sub e i) (fun p => grd ((za1 v).isSome && p.2.2.1.isNone) ((compE n cx v).bind fun e => (boundsE (compE n cx) p.1 p.2.1).map fun q => .slice e q.1 q.2)) = some ir := h
   cases hs : zbU sl with
   | none =>
    rw [hs] at h
    revert h
    exact bs_r fun a ha => ms_r fun b hb e => e ▸ snd_sub (ih _ _ ha).es (ih _ _ hb)
   | some p =>
    rw [hs] at h
    revert h
    refine gs_r fun hc => bs_r fun a ha => ms_r fun q hq e => ?_
    have hc := Bool.and_eq_true_iff.mp hc
    rw [<- e,asSlice_s hs,Option.isNone_iff_eq_none.mp hc.2]
    exact snd_slice hc.1 (ih _ _ ha).es ih hq
  | Dict ks vs pos =>
   refine gs_r fun hl => bs_r fun ia ha => ms_r fun ib hb e => e ▸ ?_
   exact .of (snd_dict ((zbg ha).mono fun o i h => (bs h).elim fun e h => ⟨e,h.1,ih _ _ h.2⟩) (ihs hb) (beq_iff_eq.mp hl)) (fun _ _ => rfl) (zau (fun _ _ => rfl) (fun _ _ => rfl) (fun _ => rfl) (fun _ _ => rfl) (fun _ _ _ => rfl))
  | ListComp elt gens sc pos =>
   intro h
   obtain ⟨g,rfl,h⟩ := zaP h
   revert h
   refine bs_r fun q hq => gs_r fun hc => bs_r fun ii hi => bs_r fun iifs hf => ms_r fun ie he e => e ▸ ?_
   have hc := Bool.and_eq_true_iff.mp hc
   have hin := ih' (inComp cx sc q.1) hg (hcc.inComp sc q.1)
   have P : CpO C d cx g sc elt q ie ii iifs := ⟨beq_iff_eq.mp hc.1,hq,scOk_of hc.2,ih _ _ hi,hin _ _ he,(zbg hf).mono hin⟩
   refine .of (fun Y env k mE fr w H s p r ev Q E hQ => ?_) (fun _ _ => rfl) ⟨fun _ _ => rfl,fun _ _ => rfl,fun _ => rfl,fun _ _ => rfl,fun q => nomatch q⟩
   obtain ⟨t,it,ifs,a⟩ := g
   have ha : a = 0 := beq_iff_eq.mp hc.1
   subst ha
   rw [eval_ListComp]
   refine comp_wp P hcc p ev fun w' D N oN mN s' le S' hns r' sm => ?_
   obtain ⟨es,ep,nn⟩ := hns
   exact ⟨mN,⟨oN,es,ep,S'.exHead.1,nn⟩,fun h' hs => hQ w' _ { s' with heap := h' } ⟨le,S'.endEx hs.extBut,sm.1,sm.2⟩ r'⟩
  | _ => exact fun h => nos h
end
end Mi
namespace Mi
open PySem PySem.W PySem.Calls PyProof.Rows
inductive FlR (C : Cfg) (w : Wd) : Fl -> Flow -> Prop
 | nx : FlR C w .nx .next
 | bk : FlR C w .bk .brk
 | ct : FlR C w .ct .cont
 | rt {v : Val} {rv : Value} : VRel C w v rv -> FlR C w (.rt v) (.ret rv)
structure BlkS (cx : CC) (env : Env) (L : Addr) : Prop where
 kind : env.scope.kind = .function
 gl : env.globals = mainGlobals
 bl : env.builtins = builtinsNs
 sc : env.scope.names = cx.sc
 cells : ∀ x,cx.sc.lookup x = some .cell -> ∃ c,env.cells.lookup x = some c
 cinj : ∀ x y c,cx.sc.lookup x = some .cell -> cx.sc.lookup y = some .cell -> env.cells.lookup x = some c -> env.cells.lookup y = some c -> x = y
 loc : env.locals = L
 inj : ∀ x y i,zaS cx x = some i -> zaS cx y = some i -> x = y
noncomputable def CeOk (cx : CC) (env : Env) (ce : Led) : Prop := ∀ x c,cx.sc.lookup x = some .cell -> env.cells.lookup x = some c -> ∃ o v₀,(c,o) ∈ ce /\ o.data = .cell v₀
structure PlS {C : Cfg} {d e : Nat} (Y : Actv C d e) (cx : CC) (env : Env) (k : Kp) (fr : Frame) (w : Wd) (H : MH) (s : Shared) : Prop where
 b : BlkS cx env Y.L
 c : CeOk cx env k.ce
 f : FrOk C w cx env k.ce k.m fr
 st : St Y k w H s
theorem PlS.pl {C : Cfg} {d e : Nat} {Y : Actv C d e} {cx : CC} {env : Env} {k : Kp} {fr : Frame} {w : Wd} {H : MH} {s : Shared} (p : PlS Y cx env k fr w H s) : Pl Y cx env k k.m fr w H s :=
 ⟨⟨p.b.kind,p.b.gl,p.b.bl,p.b.sc,fun x h => (p.b.cells x h).elim fun c hc => (p.c x c h hc).elim fun o h => h.elim fun v₀ h => ⟨c,o,v₀,hc,h.1,h.2⟩,.inl ⟨p.b.loc,rfl⟩⟩,p.f,p.st⟩
theorem PlS.next {C : Cfg} {d e : Nat} {Y : Actv C d e} {cx : CC} {env : Env} {k : Kp} {fr : Frame} {w w' : Wd} {H H' : MH} {s s' : Shared} (p : PlS Y cx env k fr w H s) (n : Nxt Y k w w' H' s s') : PlS Y cx env k fr w' H' s' := ⟨p.b,p.c,fun x i v a b => (p.f x i v a b).mono n.le,n.st⟩
structure NxS {C : Cfg} {d e : Nat} (Y : Actv C d e) (cx : CC) (env : Env) (ex : Led) (w : Wd) (s : Shared) (k' : Kp) (fr' : Frame) (w' : Wd) (H' : MH) (s' : Shared) : Prop where
 ex : k'.ex = ex
 le : w.le w'
 pl : PlS Y cx env k' fr' w' H' s'
 same : Same s s'
theorem NxS.trans {C : Cfg} {d e : Nat} {Y : Actv C d e} {cx : CC} {env : Env} {ex : Led} {w w1 w2 : Wd} {s s1 s2 : Shared} {k1 k2 : Kp} {fr1 fr2 : Frame} {H1 H2 : MH} (a : NxS Y cx env ex w s k1 fr1 w1 H1 s1) (b : NxS Y cx env k1.ex w1 s1 k2 fr2 w2 H2 s2) : NxS Y cx env ex w s k2 fr2 w2 H2 s2 := ⟨b.ex.trans a.ex,a.le.trans b.le,b.pl,a.same.trans b.same⟩
theorem PlS.nx {C : Cfg} {d e : Nat} {Y : Actv C d e} {cx : CC} {env : Env} {k : Kp} {fr : Frame} {w w' : Wd} {H H' : MH} {s s' : Shared} (p : PlS Y cx env k fr w H s) (n : Nxt Y k w w' H' s s') : NxS Y cx env k.ex w s k fr w' H' s' := ⟨rfl,n.le,p.next n,n.same⟩
theorem PlS.rf {C : Cfg} {d e : Nat} {Y : Actv C d e} {cx : CC} {env : Env} {k : Kp} {fr : Frame} {w : Wd} {H : MH} {s : Shared} (p : PlS Y cx env k fr w H s) : NxS Y cx env k.ex w s k fr w H s := ⟨rfl,.refl w,p,.refl s⟩
noncomputable def SBr {C : Cfg} {d e : Nat} (Y : Actv C d e) (cx : CC) (env : Env) (ex : Led) (t : Sem Flow) (w : Wd) (s : Shared) (r : (Fl × Frame) × MH) : Prop :=
 ∀ (Q : Flow -> Shared -> Prop) (E : Value -> Shared -> Prop),(∀ k' w' f s',NxS Y cx env ex w s k' r.1.2 w' r.2 s' -> FlR C w' r.1.1 f -> Q f s') -> wpAny C.M Y.A t Q E s
noncomputable def SSnd (C : Cfg) (d : Nat) (cx : CC) (st : Stmt) (ir : Sm) : Prop :=
 ∀ (Y : Actv C d 2) (env : Env) (k : Kp) (fr : Frame) (w : Wd) (H : MH) (s : Shared),PlS Y cx env k fr w H s -> ∀ r,exec (C.cx d) ir fr H = some r -> SBr Y cx env k.ex (PySem.exec st env) w s r
noncomputable def zcB (C : Cfg) (d : Nat) (cx : CC) (st : List Stmt) (ir : List Sm) : Prop :=
 ∀ (Y : Actv C d 2) (env : Env) (k : Kp) (fr : Frame) (w : Wd) (H : MH) (s : Shared),PlS Y cx env k fr w H s -> ∀ r,execs (C.cx d) ir fr H = some r -> SBr Y cx env k.ex (PySem.execs st env) w s r
section
variable {C : Cfg} {d e : Nat} {Y : Actv C d e} {k : Kp} {w : Wd} {H : MH} {s : Shared} {cx : CC} {env : Env} {fr : Frame} {gl : List (Str × Val)}
noncomputable def ceSet (ce : Led) (c : Addr) (o : Obj) : Led := ce.map fun p => if p.1 = c then (c,o) else p
theorem ceSet_fst (ce : Led) (c : Addr) (o : Obj) : (ceSet ce c o).map (·.1) = ce.map (·.1) := by
 unfold ceSet
 rw [List.map_map]
 apply List.map_congr_left
 intro p _
 show (if p.1 = c then (c,o) else p).1 = p.1
 split
 ·rename_i h; exact h.symm
 ·rfl
theorem Sta.setCe {h₀ : Heap} {L : Addr} {h h' : Heap} {c : Addr} {o o' : Obj} (S : Sta C h₀ L k w H h) (hc : (c,o) ∈ k.ce) (hs : Heap.SameBut c h h') (ho : h'.get? c = some o') : Sta C h₀ L { k with ce := ceSet k.ce c o' } w H h' := by
 obtain ⟨os,he,hn,hd⟩ := S.os
 have g := hn (c,o) (List.mem_append_right _ (List.mem_append_right _ (List.mem_append_left _ hc)))
 have hp : ∀ ce : Led,({ k with ce := ce } : Kp).all w os |>.Perm (ce ++ (os.flatten ++ (w.tp ++ k.ex))) := fun ce =>
  (List.Perm.append_left os.flatten (List.perm_append_comm_assoc w.tp ce k.ex)).trans (List.perm_append_comm_assoc os.flatten ce (w.tp ++ k.ex))
 have hd1 := Led.nd.perm (hp k.ce) hd
 unfold Led.nd at hd1
 have hd2 := hd1
 rw [List.map_append,List.nodup_append] at hd2
 refine ⟨Fr.sameBut S.fr hs g.2,⟨os,he,fun p hpm => ?_,Led.nd.perm (hp _).symm ?_⟩,S.big,S.lo⟩
 ·rcases List.mem_append.mp ((hp _).mem_iff.mp hpm) with hpm | hpm
  ·obtain ⟨q,hq,e⟩ := List.mem_map.mp hpm
   by_cases hqc : q.1 = c
   ·rw [if_pos hqc] at e
    rw [<- e]; exact ⟨ho,g.2⟩
   ·rw [if_neg hqc] at e
    rw [<- e]
    have := hn q (List.mem_append_right _ (List.mem_append_right _ (List.mem_append_left _ hq)))
    exact ⟨(hs.2 q.1 hqc).trans this.1,this.2⟩
  ·have := hn p ((hp k.ce).mem_iff.mpr (List.mem_append_right _ hpm))
   exact ⟨(hs.2 p.1 fun e => hd2.2.2 c (List.mem_map.mpr ⟨_,hc,rfl⟩) p.1 (List.mem_map.mpr ⟨_,hpm,rfl⟩) e.symm).trans this.1,this.2⟩
 ·unfold Led.nd
  rw [List.map_append,ceSet_fst,<- List.map_append]; exact hd1
theorem zaL (p : PlS Y cx env k fr w H s) {x : Str} {i : Nat} {v : Val} {rv : Value} (hi : zaS cx x = some i) (r : VRel C w v rv) {A' : Around} {Q : Unit -> Shared -> Prop} {E : Value -> Shared -> Prop}
  (h : ∀ k' s',NxS Y cx env k.ex w s k' (fr.set i (some v)) w H s' -> Q () s') : wpAny C.M A' (storeName env x rv) Q E s := by
 have other : ∀ {y j},zaS cx y = some j -> i ≠ j -> y ≠ x := fun hj hij e => hij (by rw [e,hi] at hj; exact Option.some.inj hj)
 rcases (zcU hi).1 with hk | hk
 ·refine wpAny_storeName_local (p.pl.b.kindOf hk) (by rw [p.b.loc]; exact p.st.fr.ns) (fun h' hn hs => ?_) (by rw [p.b.kind]; rfl)
  rw [p.b.loc] at hn hs
  obtain ⟨os,he,hnn,hd⟩ := p.st.os
  refine h { k with m := fun y => if y = x then some rv else k.m y } _ ⟨rfl,.refl w,⟨p.b,p.c,fun y j u hj hu => ?_,⟨p.st.fr.set hn hs,⟨os,he,hnn.set hs,hd⟩,p.st.big,p.st.lo⟩⟩,rfl,rfl⟩
  rcases set_s hu with ⟨rfl,rfl⟩ | ⟨hij,hu'⟩
  ·cases p.b.inj y x _ hj hi
   exact .loc rv hk (if_pos rfl) r
  ·cases p.f y j u hj hu' with
   | loc rv' h1 h2 h3 => exact .loc rv' h1 ((if_neg (other hj hij)).trans h2) h3
   | cell rv' c o h1 h2 h3 h4 h5 => exact .cell rv' c o h1 h2 h3 h4 h5
 ·obtain ⟨c,hc⟩ := p.b.cells x hk
  obtain ⟨o,v₀,ho1,ho2⟩ := p.c x c hk hc
  refine wpAny_storeName_cell p.b.kind (p.pl.b.kindOf hk) hc ⟨o,p.st.ceAt ho1,ho2⟩ fun h' hv hs => ?_
  obtain ⟨o',g1,g2⟩ := hv
  have hmem : ∀ {y cy oy},cx.sc.lookup y = some .cell -> env.cells.lookup y = some cy -> (cy,oy) ∈ k.ce -> y ≠ x -> (cy,oy) ∈ ceSet k.ce c o' := fun {y cy oy} hy hcy hm hyx =>
   List.mem_map.mpr ⟨(cy,oy),hm,if_neg fun e => hyx (p.b.cinj y x c hy hk (by rw [hcy]; exact congrArg some e) hc)⟩
  have hself : (c,o') ∈ ceSet k.ce c o' := List.mem_map.mpr ⟨(c,o),ho1,if_pos rfl⟩
  refine h { k with ce := ceSet k.ce c o' } _ ⟨rfl,.refl w,⟨p.b,fun y cy hy hcy => ?_,fun y j u hj hu => ?_,p.st.setCe ho1 hs g1⟩,rfl,rfl⟩
  ·by_cases hyx : y = x
   ·subst hyx
    rw [hc] at hcy; cases hcy
    exact ⟨o',some rv,hself,g2⟩
   ·obtain ⟨oy,vy,m1,m2⟩ := p.c y cy hy hcy
    exact ⟨oy,vy,hmem hy hcy m1 hyx,m2⟩
  ·rcases set_s hu with ⟨rfl,rfl⟩ | ⟨hij,hu'⟩
   ·cases p.b.inj y x _ hj hi
    exact .cell rv c o' hk hc hself g2 r
   ·cases p.f y j u hj hu' with
    | loc rv' h1 h2 h3 => exact .loc rv' h1 h2 h3
    | cell rv' cy oy h1 h2 h3 h4 h5 => exact .cell rv' cy oy h1 h2 (hmem h1 h2 h3 (other hj hij)) h4 h5
theorem ssnd_nil : zcB C d cx [] [] := fun Y env k fr w H s p r e => by
 cases e
 exact fun Q E hq => wpAny_execs_nil (hq k w .next s p.rf .nx)
theorem ssnd_cons {st : Stmt} {r : List Stmt} {i : Sm} {is : List Sm} (h1 : SSnd C d cx st i) (h2 : zcB C d cx r is) : zcB C d cx (st :: r) (i :: is) := by
 intro Y env k fr w H s p r
 refine zad fun q H1 e1 e Q E hq => wpAny_execs_cons (h1 Y env k fr w H s p _ e1 _ _ fun k1 w1 f s1 n1 r1 => ?_)
 obtain ⟨fl,fr1⟩ := q
 cases r1 with
 | nx => exact h2 Y env k1 fr1 w1 H1 s1 n1.pl _ e _ _ fun k2 w2 f2 s2 n2 r2 => hq k2 w2 f2 s2 (n1.trans n2) r2
 | bk => cases e; exact hq k1 w1 .brk s1 n1 .bk
 | ct => cases e; exact hq k1 w1 .cont s1 n1 .ct
 | rt h => cases e; exact hq k1 w1 _ s1 n1 (.rt h)
theorem ssnd_asg (hcc : CcOk cx) {x : Str} {xp pos : Pos} {v : Expr} {i : Nat} {iv : Ex} (hi : zaS cx x = some i) (hv : Sd C d cx v iv) (hL : ∀ {elt gens sc cp},v = .ListComp elt gens sc cp -> ∃ g q ie ii iifs,gens = [g] /\ CpO C d cx g sc elt q ie ii iifs /\ iv = .comp ie (List.range' cx.next q.1.length) q.2 ii iifs) : SSnd C d cx (.Assign [.Name x xp] v pos) (.asg (.nm i) iv) := by
 intro Y env k fr w H s p r
 show bnd (eval (C.cx d) iv fr H) (fun v h1 => bnd (store (C.cx d) fr h1 v (.nm i)) fun fr' h2 => some ((.nx,fr'),h2)) = some r -> _
 refine zad fun u H1 e1 e => ?_
 cases e
 intro Q E hq
 have plain : swapsWith v (some (.Name x xp)) pos.line env = pure false -> wpAny C.M Y.A (PySem.exec (.Assign [.Name x xp] v pos) env) Q E s := fun hsw =>
  wpAny_Assign_Name (hv.es Y env k k.m fr w H s p.pl _ e1 _ _ fun w1 a1 s1 n1 r1 => zaL (p.next n1) hi r1 fun k' s' n2 => hq k' w1 .next s' ((p.nx n1).trans n2) .nx) hsw
 cases hc : zaE v with
 | false => exact plain (hv.sy.swap hc _ _ _)
 | true =>
  clear hv
  cases v with
  | ListComp elt gens sc cpos =>
   obtain ⟨b,hb⟩ : ∃ b,swapsWith (.ListComp elt gens sc cpos) (some (.Name x xp)) pos.line env = pure b := ⟨_,rfl⟩
   cases b with
   | false => exact plain hb
   | true =>
    obtain ⟨g,q,ie,ii,iifs,rfl,P,rfl⟩ := hL rfl
    obtain ⟨t,it,ifs,a⟩ := g
    cases P.as
    rw [exec_Assign_Name_used _ _ _ _ hb]
    refine wpAny_bind (wpAny_standAt (wpAny_bind ?_))
    show wpAny _ Y.A (do let _ <- comprehension (.ListComp elt [⟨t,it,ifs,0⟩] sc cpos) sc env _ (newList []) false (PySem.eval it env) (some (assign (.Name x xp) env))) _ _ s
    refine wpAny_bind (wpAny_mono (comp_wp (use:=some (assign (.Name x xp) env)) (Q:=fun _ s' => Q .next s') P hcc p.pl e1 fun w1 D N oN mN s1 le S1 hns r1 sm1 => ?_) (fun _ s' hq => wpAny_pure (wpAny_pure hq)) fun _ _ e => e)
    show wpAny C.M Y.A (assign (.Name x xp) env (.ref D)) _ _ s1
    have p1 : PlS Y cx env (k.ext (N,oN)) fr w1 H1 s1 := ⟨p.b,p.c,fun x i v a b => (p.f x i v a b).mono le,S1⟩
    refine PySem.wpAny_assign_Name (zaL p1 hi r1 fun k' s' n2 => ?_)
    obtain ⟨es,ep,nn⟩ := hns
    obtain ⟨ce',ex',m'⟩ := k'
    cases n2.ex
    exact ⟨mN,⟨oN,es,ep,Sta.exHead (k:=⟨ce',k.ex,m'⟩) n2.pl.st |>.1,nn⟩,fun h'' hs => hq ⟨ce',k.ex,m'⟩ w1 .next { s' with heap := h'' } ⟨rfl,le,⟨n2.pl.b,n2.pl.c,n2.pl.f,Sta.endEx (k:=⟨ce',k.ex,m'⟩) n2.pl.st hs.extBut⟩,(sm1.trans n2.same).1,(sm1.trans n2.same).2⟩ .nx⟩
  | _ => cases hc
theorem ssnd_ret {v : Expr} {pos : Pos} {iv : Ex} (hv : ESnd C d cx v iv) : SSnd C d cx (.Return (some v) pos) (.ret iv) := by
 intro Y env k fr w H s p r
 show bnd (eval (C.cx d) iv fr H) (fun v h1 => some ((.rt v,fr),h1)) = some r -> _
 refine zad fun u H1 e1 e => ?_
 cases e
 exact fun Q E hq => wpAny_Return_some (hv Y env k k.m fr w H s p.pl _ e1 _ _ fun w1 a1 s1 n1 r1 => hq k w1 _ s1 (p.nx n1) (.rt r1))
theorem ssnd_ret0 {pos : Pos} : SSnd C d cx (.Return none pos) (.ret (.lit .none)) := by
 intro Y env k fr w H s p r e
 cases e
 exact fun Q E hq => wpAny_Return_none (hq k w _ s p.rf (.rt rfl))
theorem ssnd_if {t : Expr} {x y : List Stmt} {pos : Pos} {it : Ex} {ix iy : List Sm} (ht : TSnd C d cx t it) (hx : zcB C d cx x ix) (hy : zcB C d cx y iy) : SSnd C d cx (.If t x y pos) (.ite it ix iy) := by
 intro Y env k fr w H s p r
 show bnd (zak (eval (C.cx d) it fr H)) (fun r h1 => bif r then execs (C.cx d) ix fr h1 else execs (C.cx d) iy fr h1) = some r -> _
 refine zad fun b H1 e1 e Q E hq => wpAny_If (ht Y env k k.m fr w H s p.pl _ e1 _ _ fun w1 a1 s1 n1 r1 => ?_)
 rw [show a1 = b from r1]
 cases b with
 | true => exact hx Y env k fr w1 H1 s1 (p.next n1) _ e _ _ fun k2 w2 f2 s2 n2 r2 => hq k2 w2 f2 s2 ((p.nx n1).trans n2) r2
 | false => exact hy Y env k fr w1 H1 s1 (p.next n1) _ e _ _ fun k2 w2 f2 s2 n2 r2 => hq k2 w2 f2 s2 ((p.nx n1).trans n2) r2
inductive LpSt {C : Cfg} {d e : Nat} (Y : Actv C d e) (cx : CC) (env : Env) (ex : Led) (w0 : Wd) (s0 : Shared) (F : Frame -> MH -> SR) (r : (Fl × Frame) × MH) (s : Shared) : Prop
 | mk (k : Kp) (fr : Frame) (w : Wd) (H : MH) (n : NxS Y cx env ex w0 s0 k fr w H s) (lp : F fr H = some r) : LpSt Y cx env ex w0 s0 F r s
theorem ssnd_while {t : Expr} {b : List Stmt} {pos : Pos} {it : Ex} {ib : List Sm} (ht : TSnd C d cx t it) (hb : zcB C d cx b ib) : SSnd C d cx (.While t b [] pos) (.wh it ib) := by
 intro Y env k fr w H s p r ev Q E hq
 refine wpAny_While (codeAny_whileLoop (fun n s' => LpSt Y cx env k.ex w s (loopW (fun fr h => zak (eval (C.cx d) it fr h)) (fun fr h => execs (C.cx d) ib fr h) n) r s') ?_ (C.cx d).fuel ⟨k,fr,w,H,p.rf,ev⟩)
 rintro n s' ⟨k1,fr1,w1,H1,n1,lp⟩
 cases n with
 | zero => exact nos lp
 | succ n =>
  revert lp
  refine zad fun c H2 e2 lp => ht Y env k1 k1.m fr1 w1 H1 s' n1.pl.pl _ e2 _ _ fun w2 a2 s2 n2 r2 => ?_
  rw [show a2 = c from r2]
  have n2' := n1.trans (n1.pl.nx n2)
  cases c with
  | false =>
   cases lp
   rw [if_neg Bool.false_ne_true]
   exact wpAny_execs_nil (hq k1 w2 .next s2 n2' .nx)
  | true =>
   rw [if_pos rfl]
   revert lp
   show bnd (execs (C.cx d) ib fr1 H2) (fun p h2 => Fl.casesOn (motive:=fun _ => SR) p.1 (loopW (fun fr h => zak (eval (C.cx d) it fr h)) (fun fr h => execs (C.cx d) ib fr h) n p.2 h2) (some ((.nx,p.2),h2)) (loopW (fun fr h => zak (eval (C.cx d) it fr h)) (fun fr h => execs (C.cx d) ib fr h) n p.2 h2) (fun v => some ((.rt v,p.2),h2))) = some r -> _
   refine zad fun q H3 e3 lp => hb Y env k1 fr1 w2 H2 s2 n2'.pl _ e3 _ _ fun k3 w3 f3 s3 n3 r3 => ?_
   have n3' := n2'.trans n3
   obtain ⟨fl,fr3⟩ := q
   cases r3 with
   | nx => exact ⟨n,Nat.lt_succ_self n,k3,fr3,w3,H3,n3',lp⟩
   | ct => exact ⟨n,Nat.lt_succ_self n,k3,fr3,w3,H3,n3',lp⟩
   | bk => cases lp; exact hq k3 w3 .next s3 n3' .nx
   | rt h => cases lp; exact hq k3 w3 _ s3 n3' (.rt h)
end
end Mi
namespace Mi
open PySem PySem.W PySem.Calls PyProof.Rows
theorem puts_comm {i : Nat} {v : Val} : ∀ (is : List Nat) (vs : List Val) (fr : Frame),i ∉ is -> (puts is vs fr).set i (some v) = puts is vs (fr.set i (some v)) := by
 intro is
 induction is with
 | nil => exact fun vs fr _ => rfl
 | cons j is ih =>
  intro vs fr h
  cases vs with
  | nil => rfl
  | cons u vs =>
   show (puts is vs (fr.set j (some u))).set i (some v) = puts is vs ((fr.set i (some v)).set j (some u))
   rw [ih vs _ fun q => h (.tail _ q),List.set_comm _ _ fun q : j = i => h (q ▸ .head _)]
theorem puts_app : ∀ (is : List Nat) (vs : List Val) (i : Nat) (v : Val) (fr : Frame),is.length = vs.length -> puts (is ++ [i]) (vs ++ [v]) fr = (puts is vs fr).set i (some v) := by
 intro is
 induction is with
 | nil => intro vs i v fr h; cases List.length_eq_zero_iff.mp h.symm; rfl
 | cons j is ih =>
  intro vs i v fr h
  cases vs with
  | nil => cases h
  | cons u vs => exact ih vs i v _ (Nat.succ.inj h)
theorem puts_rev : ∀ (is : List Nat) (vs : List Val) (fr : Frame),is.Nodup -> is.length = vs.length -> puts is.reverse vs.reverse fr = puts is vs fr := by
 intro is
 induction is with
 | nil => intro vs fr _ h; cases List.length_eq_zero_iff.mp h.symm; rfl
 | cons i is ih =>
  intro vs fr hd h
  cases vs with
  | nil => cases h
  | cons v vs =>
   have hd := List.nodup_cons.mp hd
   rw [List.reverse_cons,List.reverse_cons,puts_app _ _ _ _ _ (by rw [List.length_reverse,List.length_reverse]; exact Nat.succ.inj h),ih vs fr hd.2 (Nat.succ.inj h),puts_comm is vs fr hd.1]
   rfl
section
variable {C : Cfg} {d e : Nat} {Y : Actv C d e} {k : Kp} {w : Wd} {H : MH} {s : Shared} {cx : CC} {env : Env} {fr : Frame} {gl : List (Str × Val)}
theorem zab.reverse : ∀ {ms : List Val} {vs : List Value},zab C w ms vs -> zab C w ms.reverse vs.reverse := by
 intro ms
 induction ms with
 | nil => intro vs h; cases h; exact .nil
 | cons m ms ih => intro vs h; obtain ⟨v,r,rfl,h,h'⟩ := h; rw [List.reverse_cons,List.reverse_cons]; exact zab.append (.one h) (ih h')
theorem All2.reverse {α β : Type} {R : α -> β -> Prop} {as : List α} {bs : List β} (h : All2 R as bs) : All2 R as.reverse bs.reverse := by
 have app : ∀ {as : List α} {bs : List β} {a b},All2 R as bs -> R a b -> All2 R (as ++ [a]) (bs ++ [b]) := fun h hab => by
  induction h with
  | nil => exact .cons hab .nil
  | cons x _ ih => exact .cons x ih
 induction h with
 | nil => exact .nil
 | cons x _ ih => rw [List.reverse_cons,List.reverse_cons]; exact app ih x
noncomputable abbrev zb0 (cx : CC) (x : Str) (i : Nat) : Prop := zaS cx x = some i
theorem stores_wp : ∀ {xs : List Str} {is : List Nat} {fs : List (Value -> Sem Unit)},All2 (zb0 cx) xs is -> All2 (isBind env) xs fs -> ∀ {mvs : List Val} {vs : List Value} {k : Kp} {fr : Frame} {s : Shared} {Q : Unit -> Shared -> Prop} {E : Value -> Shared -> Prop},
  zab C w mvs vs -> mvs.length = is.length -> PlS Y cx env k fr w H s -> (∀ k' s',NxS Y cx env k.ex w s k' (puts is mvs fr) w H s' -> Q () s') -> wpAny C.M Y.A (assignInOrder fs vs) Q E s := by
 intro xs is fs hi
 induction hi generalizing fs with
 | nil =>
  intro hf mvs vs k fr s Q E r hl p h
  cases hf
  cases List.length_eq_zero_iff.mp hl
  cases r
  exact wpAny_pure (h k s p.rf)
 | cons hi _ ih =>
  intro hf mvs vs k fr s Q E r hl p h
  cases hf with
  | cons hf hfs =>
   cases mvs with
   | nil => cases hl
   | cons mv mvs =>
    obtain ⟨v,t,rfl,hv,r⟩ := r
    show wpAny C.M Y.A (do holding _ _; assignInOrder _ _) Q E s
    exact wpAny_bind (wpAny_holding (hf _ _ _ _ _ _ (zaL p hi hv fun k1 s1 n1 => ih hfs r (Nat.succ.inj hl) n1.pl fun k2 s2 n2 => h k2 s2 (n1.trans n2))))
theorem bind_names : ∀ (xs : List Str),All2 (isBind env) xs (xs.map fun n => bindName env n) := by
 intro xs
 induction xs with
 | nil => exact .nil
 | cons x xs ih => exact .cons (fun _ _ _ _ _ _ z => wpAny_bindName z) ih
theorem slots_s {xs : List Str} {is : List Nat} (h : mapO (zbY cx) xs = some is) : All2 (zb0 cx) xs is := (zbg h).mono fun _ _ h => (gs h).2
theorem slots_nd (B : BlkS cx env Y.L) {xs : List Str} {is : List Nat} (h : All2 (zb0 cx) xs is) : xs.Nodup -> is.Nodup := by
 have mem : ∀ {xs : List Str} {is : List Nat},All2 (zb0 cx) xs is -> ∀ i ∈ is,∃ y ∈ xs,zaS cx y = some i := fun h => by
  induction h with
  | nil => exact fun i hi => absurd hi List.not_mem_nil
  | @cons x j _ _ h _ ih =>
   intro i hi
   rcases List.mem_cons.mp hi with rfl | hi
   ·exact ⟨x,.head _,h⟩
   ·obtain ⟨y,hy,e⟩ := ih i hi; exact ⟨y,.tail _ hy,e⟩
 induction h with
 | nil => exact fun _ => .nil
 | @cons x i xs is h1 h2 ih =>
  intro hd
  have hd := List.nodup_cons.mp hd
  refine List.nodup_cons.mpr ⟨fun hi => ?_,ih hd.2⟩
  obtain ⟨y,hy,e⟩ := mem h2 i hi
  exact hd.1 (B.inj x y i h1 e ▸ hy)
theorem names_kept (kk : Str -> Pos -> Bool) {es : List Expr} {xs : List Str} (h : All2 (fun e x => zbw e = some x) es xs) : (es.filterMap fun e => match e with | .Name id pos => if kk id pos then some id else none | _ => none).length = es.length ->
  (es.filterMap fun e => match e with | .Name id pos => if kk id pos then some id else none | _ => none) = xs := by
 induction h with
 | nil => exact fun _ => rfl
 | @cons e x es xs h _ ih =>
  intro hl
  obtain ⟨p,hp,rfl⟩ := ms h
  cases zaD hp
  rw [List.filterMap_cons] at hl ⊢
  dsimp only at hl ⊢
  cases hk : kk p.1 p.2 with
  | true =>
   rw [hk] at hl
   simp only [if_true,List.length_cons,Nat.add_right_cancel_iff] at hl ⊢
   rw [ih hl]
  | false =>
   rw [hk] at hl
   have := List.length_filterMap_le (fun e => match e with | .Name id pos => if kk id pos then some id else none | _ => none) es
   simp only [Bool.false_eq_true,if_false,List.length_cons] at hl
   exact absurd this (Nat.not_le.mpr (hl ▸ Nat.lt_succ_self _))
theorem swd_plain {es : List Expr} {n : Nat} {tpos : Pos} {v : Expr} (h : zbM v = none) : swappedStores [.Tuple es n tpos] v env = pure none := by cases v <;> first | rfl | cases h
theorem swd_or {es : List Expr} {n : Nat} {tpos : Pos} {v : Expr} {xs : List Str} (hok : valOk v = true) (hn : All2 (fun e x => zbw e = some x) es xs) :
  swappedStores [.Tuple es n tpos] v env = pure none \/ swappedStores [.Tuple es n tpos] v env = pure (some xs) := by
 cases ht : zbM v with
 | none => exact .inl (swd_plain ht)
 | some p =>
  cases zdf ht
  have hok : (!p.1.all (constantsAlone 8)) = true := (Bool.and_eq_true_iff.mp hok).2
  have hok : p.1.all (constantsAlone 8) = false := by
   cases hq : p.1.all (constantsAlone 8) with
   | false => rfl
   | true => rw [hq] at hok; cases hok
  unfold swappedStores
  simp only [pure_bind]
  split
  ·exact .inl rfl
  ·split
   ·exact .inl rfl
   ·split
    ·exact .inl rfl
    ·rename_i h3
     split
     ·exact .inl rfl
     ·rw [hok]
      refine .inr ?_
      simp only [Bool.or_eq_true,not_or,bne_iff_ne,ne_eq,Decidable.not_not] at h3
      have e := names_kept (fun id pos => env.kindOf id == some .local && pos.line == ((es.head?.map (·.pos.line)).getD 0)) hn h3.1
      rw [if_neg Bool.false_ne_true]
      exact congrArg (fun z => (pure (some z) : Sem (Option (List Str)))) e
theorem stores_nm {c : Cx} {h : MH} : ∀ {is : List Nat} {mvs : List Val} {fr : Frame} {r : Frame × MH},zbr c (is.map T1.nm) mvs fr h = some r -> mvs.length = is.length /\ r = (puts is mvs fr,h) := by
 intro is
 induction is with
 | nil =>
  intro mvs fr r e
  obtain ⟨h1,e⟩ := gs e
  cases e
  cases mvs with
  | nil => exact ⟨rfl,rfl⟩
  | cons _ _ => cases h1
 | cons i is ih =>
  intro mvs fr r e
  cases mvs with
  | nil => exact nos e
  | cons v mvs =>
   obtain ⟨h1,h2⟩ := ih (show zbr c (is.map T1.nm) mvs (fr.set i (some v)) h = some r from e)
   exact ⟨congrArg (· + 1) h1,h2⟩
theorem zc7 {v : Val} {rv : Value} {mvs : List Val} (S : St Y k w H s) (hv : VRel C w v rv) (hi : items H v = some mvs) {Q : List Value -> Shared -> Prop} {E : Value -> Shared -> Prop}
  (h : ∀ vs h',zab C w mvs vs -> Sta C Y.h₀ Y.L k w H h' -> Q vs { s with heap := h' }) : wpAny C.M Y.A (unpackItems rv mvs.length none) Q E s := by
 revert hi
 refine zao (fun e => ?_) (fun e => ?_)
 ·cases tup?_s e
  obtain ⟨t,o,n,ws,rfl,ho,hc,hdt,rr,_⟩ := S.tup hv
  rw [rr.length,<- List.size_toArray]
  exact unpackItems_tuple (items:=ws.toArray) Y.handled ⟨o,ho,hc,n,hdt⟩ fun h' he => h ws h' rr (S.grown he)
 ·obtain ⟨t,ws,n,rfl,ho,rr,_⟩ := S.list hv e
  rw [rr.length,<- List.size_toArray]
  exact kun_itemsOf Y.handled ⟨_,ho,rfl,n,rfl⟩ fun h' he => h ws h' rr (S.grown he)
theorem zcX {v : Expr} {i : Ex} (hv : Sd C d cx v i) (hok : valOk v = true) {t : Expr} {n : Nat} : swapsWith v (some t) n env = pure false := hv.sy.swap (by have := (Bool.and_eq_true_iff.mp hok).1; cases hq : zaE v; rfl; rw [hq] at this; cases this) _ _ _
theorem ssnd_asgs {es : List Expr} {n : Nat} {tpos pos : Pos} {v : Expr} {xs : List Str} {is : List Nat} {iv : Ex} (hok : valOk v = true) (hn : All2 (fun e x => zbw e = some x) es xs) (hnd : xs.Nodup) (hs : All2 (zb0 cx) xs is) (hv : Sd C d cx v iv) :
  SSnd C d cx (.Assign [.Tuple es n tpos] v pos) (.asgs (is.map T1.nm) iv) := by
 intro Y env k fr w H s p r
 show bnd (eval (C.cx d) iv fr H) (fun v h1 => (items h1 v).bind fun vs => bnd (zbr (C.cx d) (is.map T1.nm) vs fr h1) fun fr' h2 => some ((.nx,fr'),h2)) = some r -> _
 refine zad fun u H1 e1 => bs_r fun mvs hm => zad fun fr' H2 e2 e => ?_
 obtain ⟨hl,e3⟩ := stores_nm e2
 cases e3; cases e
 have hl' : mvs.length = xs.length := hl.trans hs.length
 intro Q E hq
 rcases swd_or (env:=env) (tpos:=tpos) (n:=n) hok hn with hw | hw
 ·obtain ⟨b1,b2,b3⟩ := zcu (env:=env) hn
  refine Assign_Tuple (hv.es Y env k k.m fr w H s p.pl _ e1 _ _ fun w1 a1 s1 n1 r1 => ?_) (by unfold swapsWithSole; exact zcX hv hok) hw
  rw [assign_Tuple]
  refine wpAny_bind (wpAny_standAt ?_)
  unfold unpack
  rw [b2,b3,<- hl']
  exact wpAny_bind (wpAny_holding (zc7 n1.st r1 hm fun vs h' rr S' => stores_wp hs b1 rr hl (⟨p.b,p.c,(p.next n1).f,S'⟩ : PlS Y cx env k fr w1 H1 { s1 with heap := h' }) fun k2 s2 n2 => hq k2 w1 .next s2 ⟨n2.ex,n1.le.trans n2.le,n2.pl,n1.same.trans ⟨n2.same.1,n2.same.2⟩⟩ .nx))
 ·refine Assign_Tuple_swapped (names:=xs) (hv.es Y env k k.m fr w H s p.pl _ e1 _ _ fun w1 a1 s1 n1 r1 => ?_) (by unfold swapsWithSole; exact zcX hv hok) hw
  rw [<- hl']
  refine zc7 n1.st r1 hm fun vs h' rr S' => stores_wp hs.reverse (bind_names xs.reverse) rr.reverse (by rw [List.length_reverse,List.length_reverse]; exact hl) (⟨p.b,p.c,(p.next n1).f,S'⟩ : PlS Y cx env k fr w1 H1 { s1 with heap := h' }) fun k2 s2 n2 => ?_
  rw [puts_rev is mvs fr (slots_nd p.b hs hnd) hl.symm] at n2
  exact hq k2 w1 .next s2 ⟨n2.ex,n1.le.trans n2.le,n2.pl,n1.same.trans ⟨n2.same.1,n2.same.2⟩⟩ .nx
noncomputable abbrev isAt (C : Cfg) (d : Nat) (cx : CC) (e : Expr) (q : Ex × Nat) : Prop := ∃ o nm pos,e = .Attribute o nm pos /\ zae nm = true /\ q.2 = enc nm /\ Sd C d cx o q.1
theorem swd_at {es : List Expr} {ts : List (Ex × Nat)} {n : Nat} {tpos : Pos} {v : Expr} (he : es.isEmpty = false) (ht : All2 (isAt C d cx) es ts) : swappedStores [.Tuple es n tpos] v env = pure none := by
 have hnone : ∀ (kk : Str -> Pos -> Bool) {es : List Expr} {ts : List (Ex × Nat)},All2 (isAt C d cx) es ts -> (es.filterMap fun e => match e with | .Name id pos => if kk id pos then some id else none | _ => none) = [] := fun kk {es ts} h => by
  induction h with
  | nil => rfl
  | cons h _ ih => obtain ⟨o,nm,pos,rfl,_⟩ := h; rw [List.filterMap_cons]; exact ih
 cases hv : zbM v with
 | none => exact swd_plain hv
 | some p =>
  cases zdf hv
  unfold swappedStores
  simp only [pure_bind]
  split
  ·rfl
  ·split
   ·rfl
   ·split
    ·rfl
    ·rename_i h3
     simp only [Bool.or_eq_true,not_or,bne_iff_ne,ne_eq,Decidable.not_not] at h3
     have e := hnone (fun id pos => env.kindOf id == some .local && pos.line == ((es.head?.map (·.pos.line)).getD 0)) ht
     have h4 : (es.filterMap fun e => match e with | .Name id pos => if (env.kindOf id == some .local && pos.line == ((es.head?.map (·.pos.line)).getD 0)) = true then some id else none | _ => none).length = es.length := h3.1
     rw [e] at h4
     cases es with
     | nil => cases he
     | cons _ _ => cases h4
theorem stores_at (O : zaG C gl) {es : List Expr} {ts : List (Ex × Nat)} (ht : All2 (isAt C d cx) es ts) : (assignEach es env).length = es.length /\ (assignEach es env).findIdx? (·.1) = none /\ ∀ {Y : Actv C d 2} {k : Kp} {fr : Frame} {w : Wd} {H : MH} {mvs : List Val} {vs : List Value} {r : Frame × MH} {s : Shared} {Q : Unit -> Shared -> Prop} {E : Value -> Shared -> Prop},
   zab C w mvs vs -> PlS Y cx env k fr w H s -> zbr (C.cx d) (ts.map fun q => T1.at q.1 q.2) mvs fr H = some r -> (r.1 = fr -> mvs.length = es.length -> ∀ w' s',Nxt Y k w w' r.2 s s' -> Q () s') -> wpAny C.M Y.A (assignInOrder ((assignEach es env).map (·.2)) vs) Q E s := by
 induction ht with
 | nil =>
  refine ⟨rfl,rfl,fun {Y k fr w H mvs vs r s Q E} rr p e h => ?_⟩
  obtain ⟨h1,e⟩ := gs e
  cases e
  cases mvs with
  | nil => cases rr; exact wpAny_pure (h rfl rfl w s (.refl p.st))
  | cons _ _ => cases h1
 | @cons _ q _ _ ha _ ih =>
  obtain ⟨o,nm,pos,rfl,hn,e2,ho⟩ := ha
  obtain ⟨k1,k2,k3⟩ := ih
  refine ⟨congrArg (· + 1) k1,?_,fun {Y k fr w H mvs vs r s Q E} rr p e h => ?_⟩
  ·show List.findIdx? _ ((false,assign (.Attribute o nm pos) env) :: assignEach _ env) = none
   rw [List.findIdx?_cons]
   simp only [Bool.false_eq_true,if_false,k2,Option.map_none]
  ·cases mvs with
   | nil => exact nos e
   | cons mv mvs =>
    obtain ⟨v,t,rfl,hv,rr⟩ := rr
    revert e
    refine zad fun fr1 H1 e1 e => ?_
    revert e1
    show bnd (eval (C.cx d) q.1 fr H) (fun ov h1 => (setAttr C.P h1 ov q.2 mv).map fun h2 => (fr,h2)) = some (fr1,H1) -> _
    refine zad fun ov H2 e3 => ms_r fun H3 hs e4 => ?_
    cases e4
    rw [e2] at hs
    show wpAny C.M Y.A (do holding _ (assign (.Attribute o nm pos) env v); assignInOrder _ _) Q E s
    refine wpAny_bind (wpAny_holding ?_)
    rw [assign_Attribute]
    refine wpAny_bind (wpAny_holding (ho.es Y env k k.m _ w H s p.pl _ e3 _ _ fun w1 a1 s1 n1 r1 => ?_))
    refine wpAny_bind (wpAny_standAt (wpAny_bind (wpAny_holding (zcl O n1.st hn r1 (hv.mono n1.le) (fun s2 n2 => wpAny_release ?_) hs))))
    have n2' := n1.trans n2
    exact k3 (rr.mono n1.le) (p.next n2') e fun e5 e6 w' s' n3 => h e5 (congrArg (· + 1) e6) w' s' (n2'.trans n3)
theorem ssnd_asgsAt (O : zaG C gl) {es : List Expr} {n : Nat} {tpos pos : Pos} {v : Expr} {ts : List (Ex × Nat)} {iv : Ex} (hok : valOk v = true) (hne : es.isEmpty = false) (ht : All2 (isAt C d cx) es ts) (hv : Sd C d cx v iv) :
  SSnd C d cx (.Assign [.Tuple es n tpos] v pos) (.asgs (ts.map fun q => T1.at q.1 q.2) iv) := by
 intro Y env k fr w H s p r
 show bnd (eval (C.cx d) iv fr H) (fun v h1 => (items h1 v).bind fun vs => bnd (zbr (C.cx d) (ts.map fun q => T1.at q.1 q.2) vs fr h1) fun fr' h2 => some ((.nx,fr'),h2)) = some r -> _
 refine zad fun u H1 e1 => bs_r fun mvs hm => zad fun fr' H2 e2 e => ?_
 cases e
 obtain ⟨b2,b3,k3⟩ := stores_at (env:=env) O ht
 have hlen : ∀ {ts : List T1} {mvs : List Val} {fr : Frame} {h : MH} {r : Frame × MH},zbr (C.cx d) ts mvs fr h = some r -> mvs.length = ts.length := by
  intro ts
  induction ts with
  | nil => intro mvs fr h r e; have := (gs e).1; cases mvs with | nil => rfl | cons _ _ => cases this
  | cons t ts ih =>
   intro mvs fr h r e
   cases mvs with
   | nil => exact nos e
   | cons v mvs => revert e; exact zad fun fr' h' _ e => congrArg (· + 1) (ih e)
 have hl : mvs.length = es.length := (hlen e2).trans ((List.length_map ..).trans ht.length)
 intro Q E hq
 refine Assign_Tuple (hv.es Y env k k.m fr w H s p.pl _ e1 _ _ fun w1 a1 s1 n1 r1 => ?_) (by unfold swapsWithSole; exact zcX hv hok) (swd_at hne ht)
 rw [assign_Tuple]
 refine wpAny_bind (wpAny_standAt ?_)
 unfold unpack
 rw [b2,b3,<- hl]
 refine wpAny_bind (wpAny_holding (zc7 n1.st r1 hm fun vs h' rr S' => ?_))
 have n2 : Nxt Y k w w1 H1 s { s1 with heap := h' } := ⟨n1.le,S',n1.same.1,n1.same.2⟩
 exact k3 rr (p.next n2) e2 fun e5 _ w' s' n3 => by
  cases e5
  exact hq k w' .next s' (p.nx (n2.trans n3)) .nx
end
end Mi
namespace Mi
open PySem PySem.W PySem.Calls PyProof.Rows
theorem wp_setList {prog : Program} {w : World} {A : Around} {s : Shared} {l : Addr} {its : Array Value} {n : Nat} {z : Int} {t : Tok} {v : Value} {Q : Unit -> Shared -> Prop} {E : Value -> Shared -> Prop} (ho : s.heap.get? l = some (listOf its n)) (h0 : 0 <= z) (hj : z < its.size) (hfit : z < 2 ^ 63)
  (hQ : ∀ h' n',h'.get? l = some (listOf (its.setIfInBounds z.toNat v) n') -> Heap.SameBut l s.heap h' -> Q () { s with heap := h' }) : wpAny (model prog w) A (setItem (.ref l) (.int z t) v) Q E s := by
 have hT : s.TypeIs (.ref l) "list" := ⟨_,ho,rfl⟩
 unfold setItem
 try with_reducible refine wpAny_holding ?_
 refine wpAny_bind (wpAny_sequenceKey hT (by decide) ?_)
 refine wpAny_bind (wpAny_callSpecial?_slot (name:=Str.ofString "__setitem__") hT slot_list_setitem
  (wpAny_call_entry slot_list_setitem hT entry_list_setitem ?_ (args_list_setitem _ _ _)))
 show wpAny _ _ (Builtin.List.listSubscript? (.int z t) >>= _) _ _ s
 refine wpAny_bind (wpAny_listSubscript_int (fitsIndex_of h0 hfit) ?_)
 clear hfit
 obtain ⟨j,rfl⟩ := Int.eq_ofNat_of_zero_le h0
 have hj' : j < its.size := Int.ofNat_lt.mp hj
 have hx : its[j]? = some its[j] := Array.getElem?_eq_getElem hj'
 show wpAny _ _ ((seqItemAt l j >>= fun r => pure (r.map (j,·))) >>= _) _ _ s
 refine wpAny_bind (wpAny_bind (wpAny_seqItemAt ho rfl (wpAny_pure ?_)))
 rw [hx]
 show wpAny _ _ (setSeqItemAt l j v >>= _) _ _ s
 refine wpAny_bind (wpAny_setSeqItemAt ho rfl ?_)
 have fin : Q () { s with heap := s.heap.update l (Obj.mapSeq (·.setIfInBounds j v)) } := hQ _ _ (Heap.get?_update_self _ ho rfl) (Heap.SameBut.update ..)
 first
  | exact wpAny_bind (wpAny_pure (wpAny_pure ⟨.none,rfl,wpAny_pure fin⟩))
  | exact wpAny_pure ⟨.none,rfl,wpAny_pure fin⟩
section
variable {C : Cfg} {d e : Nat} {Y : Actv C d e} {k : Kp} {w : Wd} {H : MH} {s : Shared} {cx : CC} {env : Env} {fr : Frame} {gl : List (Str × Val)}
theorem zbA (p : PlS Y cx env k fr w H s) {t : Expr} {q : List Str × Bool} {sl : List Nat} (ht : tgtOf t = some q) (hs : All2 (zb0 cx) q.1 sl) {v : Val} {rv : Value} {fr1 : Frame} (hv : VRel C w v rv) (hb : zbf fr sl q.2 v = some fr1) {Q : Unit -> Shared -> Prop} {E : Value -> Shared -> Prop}
  (h : ∀ k' s',NxS Y cx env k.ex w s k' fr1 w H s' -> Q () s') : wpAny C.M Y.A (assign t env rv) Q E s := by
 obtain ⟨mvs,b1,rfl,b3,b4⟩ := bindT_s hb
 rcases tgt_s ht with ⟨x,pp,rfl,rfl⟩ | ⟨es,n,pp,rfl,hq,hes⟩
 ·cases b4 rfl
  cases hs with
  | cons hi hs =>
   cases hs
   exact PySem.wpAny_assign_Name (zaL p hi hv h)
 ·cases b3 hq
  obtain ⟨c1,c2,c3⟩ := zcu (env:=env) hes
  obtain ⟨tt,o,n',ws,rfl,ho,hc,hd,rr,_⟩ := p.st.tup hv
  exact assign_Tuple_tuple (items:=ws.toArray) Y.handled ⟨o,ho,hc,n',hd⟩ (by rw [c2,List.size_toArray,<- rr.length,b1,hs.length]) c3 fun h' he => stores_wp hs c1 rr b1 (⟨p.b,p.c,p.f,p.st.grown he⟩ : PlS Y cx env k fr w H { s with heap := h' }) fun k' s' n2 => h k' s' ⟨n2.ex,n2.le,n2.pl,n2.same.1,n2.same.2⟩
inductive FoSt {C : Cfg} {d e : Nat} (Y : Actv C d e) (cx : CC) (env : Env) (ex : Led) (w0 : Wd) (s0 : Shared) (I : Addr) (z : It) (F : Nat -> Frame -> MH -> SR) (r : (Fl × Frame) × MH) (s : Shared) : Prop
 | mk (k : Kp) (fr : Frame) (w : Wd) (H : MH) (j : Nat) (io : Obj) (ex' : k.ex = ex) (le : w0.le w) (p : PlS Y cx env (k.ext (I,io)) fr w H s) (it : zbB C w io j z) (sm : Same s0 s) (lp : F j fr H = some r) : FoSt Y cx env ex w0 s0 I z F r s
theorem PlS.endEx {q : Addr × Obj} {h' : Heap} (p : PlS Y cx env (k.ext q) fr w H s) (hx : Heap.ExtBut q.1 s.heap h') : PlS Y cx env k fr w H { s with heap := h' } := ⟨p.b,p.c,p.f,Sta.endEx (b:=q.1) (o:=q.2) p.st hx⟩
theorem ssnd_for {t : Expr} {pos : Pos} {it : Expr} {b : List Stmt} {q : List Str × Bool} {sl : List Nat} {ii : Ex} {ib : List Sm} (ht : tgtOf t = some q) (hsl : All2 (zb0 cx) q.1 sl) (hi : Sd C d cx it ii) (hb : zcB C d cx b ib) : SSnd C d cx (.For t it b [] pos) (.fo sl q.2 ii ib) := by
 intro Y env k fr w H s p r
 show bnd (eval (C.cx d) ii fr H) (fun v h1 => (za5 h1 v).bind fun k => loopF (fun i h => zah h i k) (fun fr v => zbf fr sl q.2 v) (fun fr h => execs (C.cx d) ib fr h) (C.cx d).fuel 0 fr h1) = some r -> _
 refine zad fun u H1 e1 => bs_r fun z hz lp => ?_
 intro Q E hq
 refine wpAny_For (hi.es Y env k k.m fr w H s p.pl _ e1 _ _ fun w1 a1 s1 n1 r1 => zc1 n1.st r1 (fun I io h2 S2 R2 => ?_) hz) (hi.sy.fold env)
 refine codeAny_forLoop_any (fun n s' => FoSt Y cx env k.ex w s I z (loopF (fun i h => zah h i z) (fun fr v => zbf fr sl q.2 v) (fun fr h => execs (C.cx d) ib fr h) n) r s') ?_ (C.cx d).fuel ⟨k,fr,w1,H1,0,io,rfl,n1.le,⟨p.b,p.c,(p.next n1).f,S2⟩,R2,⟨n1.same.1,n1.same.2⟩,lp⟩
 clear lp R2 S2 r1 n1 e1 hz
 rintro n s' ⟨k3,fr3,w3,H3,j,io3,ex3,le3,p3,R3,sm3,lp⟩
 cases n with
 | zero => exact nos lp
 | succ n =>
  revert lp
  refine bs_r fun ov hov lp => zb6 p3.st R3 hov ⟨fun v rv io4 h' tk hv S4 R4 hr => ?_,fun h' hv S4 => ?_⟩
  ·subst hv
   refine zbn (s:={ s' with heap := h',toks := tk }) S4.exHead.1 R4.cls ?_
   revert lp
   refine bs_r fun fr5 hb5 lp => ?_
   have p4 : PlS Y cx env (k3.ext (I,io4)) fr3 w3 H3 { s' with heap := h',toks := tk } := ⟨p3.b,p3.c,p3.f,S4⟩
   refine zbA p4 ht hsl hr hb5 fun k5 s5 n5 => ?_
   revert lp
   refine zad fun g H6 e6 lp => hb Y env k5 fr5 w3 H3 s5 n5.pl _ e6 _ _ fun k6 w6 f6 s6 n6 r6 => ?_
   have n6' := n5.trans n6
   obtain ⟨ce6,ex6,m6⟩ := k6
   cases n6'.ex
   have sm6 : Same s s6 := sm3.trans ⟨n6'.same.1,n6'.same.2⟩
   have p6 : PlS Y cx env ((⟨ce6,k3.ex,m6⟩ : Kp).ext (I,io4)) g.2 w6 H6 s6 := n6'.pl
   have out : NxS Y cx env k.ex w s ⟨ce6,k3.ex,m6⟩ g.2 w6 H6 s6 := ⟨ex3,le3.trans n6'.le,p6.endEx fun _ _ _ e => e,sm6⟩
   obtain ⟨fl,fr6⟩ := g
   cases r6 with
   | nx => exact ⟨n,Nat.lt_succ_self n,⟨ce6,k3.ex,m6⟩,fr6,w6,H6,j + 1,io4,ex3,le3.trans n6'.le,p6,R4.mono n6'.le,sm6,lp⟩
   | ct => exact ⟨n,Nat.lt_succ_self n,⟨ce6,k3.ex,m6⟩,fr6,w6,H6,j + 1,io4,ex3,le3.trans n6'.le,p6,R4.mono n6'.le,sm6,lp⟩
   | bk => cases lp; exact hq _ w6 .next s6 out .nx
   | rt h => cases lp; exact hq _ w6 _ s6 out (.rt h)
  ·subst hv
   cases lp
   exact wpAny_execs_nil (hq k3 w3 .next { s' with heap := h' } ⟨ex3,le3,⟨p3.b,p3.c,p3.f,S4⟩,sm3.1,sm3.2⟩ .nx)
theorem ssnd_expr {v : Expr} {pos : Pos} {iv : Ex} (hc : zaE v = false) (hv : Sd C d cx v iv) : SSnd C d cx (.Expr v pos) (.expr iv) := by
 intro Y env k fr w H s p r
 show bnd (eval (C.cx d) iv fr H) (fun _ h1 => some ((.nx,fr),h1)) = some r -> _
 refine zad fun u H1 e1 e => ?_
 cases e
 intro Q E hq
 rw [exec_Expr env v pos (by unfold interactive; rw [p.b.kind]; rfl) (hv.sy.swap hc _ _ _)]
 refine wpAny_bind (wpAny_standAt (wpAny_bind (hv.es Y env k k.m fr w H s p.pl _ e1 _ _ fun w1 a1 s1 n1 r1 => ?_)))
 have fin := hq k w1 .next s1 (p.nx n1) .nx
 unfold dropValue
 split
 ·exact wpAny_pure fin
 ·exact wpAny_bind (wpAny_standAt (wpAny_bind (wpAny_runValue (codeAny_builtin entry_let_go (show wpAny _ _ (ret .none) _ _ s1 from wpAny_pure (wpAny_pure fin))))))
 ·exact wpAny_pure fin
theorem swapAt {v o : Expr} {i : Ex} (hv : Sd C d cx v i) (ho : za1 o = none) {n : Nat} : swapsWith v (some o) n env = pure false := by
 cases hc : zaE v with
 | false => exact hv.sy.swap hc _ _ _
 | true =>
  clear hv
  cases v with
  | ListComp _ _ _ _ => cases o <;> first | rfl | cases ho
  | _ => cases hc
theorem ssnd_asgAt (O : zaG C gl) {o : Expr} {nm : Str} {xp pos : Pos} {v : Expr} {io iv : Ex} (hn : zae nm = true) (ho : Sd C d cx o io) (hv : Sd C d cx v iv) : SSnd C d cx (.Assign [.Attribute o nm xp] v pos) (.asg (.at io (enc nm)) iv) := by
 intro Y env k fr w H s p r
 show bnd (eval (C.cx d) iv fr H) (fun v h1 => bnd (bnd (eval (C.cx d) io fr h1) fun ov h2 => (setAttr C.P h2 ov (enc nm) v).map fun h3 => (fr,h3)) fun fr' h2 => some ((.nx,fr'),h2)) = some r -> _
 refine zad fun u H1 e1 => zad fun fr' H2 e2 e => ?_
 cases e
 revert e2
 refine zad fun ov H3 e3 => ms_r fun H4 hs e4 => ?_
 cases e4
 exact fun Q E hq => plainObj_wpAny_Assign_Attribute (hv.es Y env k k.m _ w H s p.pl _ e1 _ _ fun w1 a1 s1 n1 r1 => ho.es Y env k k.m _ w1 H1 s1 (p.next n1).pl _ e3 _ _ fun w2 a2 s2 n2 r2 =>
  zcl O n2.st hn r2 (r1.mono n2.le) (fun s3 n3 => hq k w2 .next s3 (p.nx ((n1.trans n2).trans n3)) .nx) hs) (swapAt hv rfl)
theorem vrels_set {v : Val} {rv : Value} (hv : VRel C w v rv) : ∀ {ms : List Val} {vs : List Value} {j : Nat},zab C w ms vs -> zab C w (ms.set j v) (vs.set j rv) := by
 intro ms
 induction ms with
 | nil => intro vs j h; cases h; exact .nil
 | cons m ms ih =>
  intro vs j h
  obtain ⟨x,t,rfl,h,r⟩ := h
  cases j with
  | zero => exact .cons hv r
  | succ j => exact .cons h (ih r)
theorem snd_setSub (S : St Y k w H s) {o i v : Val} {vo vi vv : Value} {H' : MH} (ho : VRel C w o vo) (hi : VRel C w i vi) (hv : VRel C w v vv) {Q : Unit -> Shared -> Prop} {E : Value -> Shared -> Prop}
  (h : ∀ s',Nxt Y k w w H' s s' -> Q () s') : zcm H o i v = some H' -> wpAny C.M Y.A (setItem vo vi vv) Q E s := by
 refine bs_r fun x e1 => zao (bs_r fun mvs hm => ms_r fun j hj e => ?_) (bs_r fun p hp => gs_r fun hf e => ?_)
 ·cases ref?_s e1; subst e
  obtain ⟨z,t,rfl,h0,h1,rfl⟩ := idx_s hi hj
  obtain ⟨la,rfl,ha⟩ := ho
  obtain ⟨ob,hi,h2⟩ := bs hm
  cases list?_s h2
  obtain ⟨_,ws,n,e,hget,rr,hl⟩ := S.list (x:=.ref x) ⟨la,rfl,ha⟩ hm
  cases e
  refine wp_setList hget h0 (by rw [List.size_toArray,<- rr.length]; exact h1) (Int.lt_trans h1 (zb2 hl)) fun h' n' hg hs => h _ ⟨.refl w,S.upd ha hi (fun en h => ?_) hs (by rw [hg,List.setIfInBounds_toArray]) ⟨_,n',rfl,vrels_set hv rr,by rw [List.length_set]; exact hl⟩,rfl,rfl⟩
  obtain ⟨_,_,rfl,_,_⟩ := h
  exact ⟨_,rfl⟩
 ·cases ref?_s e1; cases e
  have hf := Bool.and_eq_true_iff.mp hf
  obtain ⟨b,n,es,rfl,hmod,hep,hg,hdr,hl,upd⟩ := S.dictI ho hp
  refine zcR ⟨_,hg,rfl⟩ (wp_put S (A:=Y.A.in1) (show Y.A.units + 1 + 1 < 9900 from Y.u (n:=2) (by decide)) hg hdr hf.1 (Nat.ble_eq.mp hf.2) hi hv fun es' h' tk hs hgo j' => h _ ⟨.refl w,upd h' _ _ hs hgo ⟨es',_,rfl,fun e he => ?_,j',dput_le (Nat.ble_eq.mp hf.2)⟩,rfl,rfl⟩)
  cases hq : (dget p.2 i).isSome with
  | true => rw [hq] at he; exact hep e he
  | false =>
   rw [hq] at he
   obtain ⟨e0,he0,rfl⟩ := ms he
   exact congrArg (· + 1) (hep e0 he0)
theorem ssnd_asgSub {o i : Expr} {xp pos : Pos} {v : Expr} {io ii iv : Ex} (ho : Sd C d cx o io) (hi : Sd C d cx i ii) (hv : Sd C d cx v iv) : SSnd C d cx (.Assign [.Subscript o i xp] v pos) (.asg (.sb io ii) iv) := by
 intro Y env k fr w H s p r
 show bnd (eval (C.cx d) iv fr H) (fun v h1 => bnd (bnd (eval (C.cx d) io fr h1) fun ov h2 => bnd (eval (C.cx d) ii fr h2) fun iv h3 => (zcm h3 ov iv v).map fun h4 => (fr,h4)) fun fr' h2 => some ((.nx,fr'),h2)) = some r -> _
 refine zad fun u H1 e1 => zad fun fr' H2 e2 e => ?_
 cases e
 revert e2
 refine zad fun ov H3 e3 => zad fun ix H4 e4 => ms_r fun H5 hs e5 => ?_
 cases e5
 exact fun Q E hq => wpAny_Assign_Subscript (hv.es Y env k k.m _ w H s p.pl _ e1 _ _ fun w1 a1 s1 n1 r1 => ho.es Y env k k.m _ w1 H1 s1 (p.next n1).pl _ e3 _ _ fun w2 a2 s2 n2 r2 => hi.es Y env k k.m _ w2 H3 s2 ((p.next n1).next n2).pl _ e4 _ _ fun w3 a3 s3 n3 r3 =>
  snd_setSub n3.st (r2.mono n3.le) r3 (r1.mono (n2.le.trans n3.le)) (fun s4 n4 => hq k w3 .next s4 (p.nx (((n1.trans n2).trans n3).trans n4)) .nx) hs) (swapAt hv rfl)
theorem zcL {o c : Option Expr} {ir : Sm} (h : raiseE cx o c = some ir) : ∃ i,ir = .rse i := by
 obtain ⟨_,h⟩ := gs h
 obtain ⟨e,_,h⟩ := bs h
 obtain ⟨p,_,h⟩ := bs h
 obtain ⟨_,h⟩ := gs h
 obtain ⟨q,_,h⟩ := bs h
 obtain ⟨_,h⟩ := gs h
 obtain ⟨a,_,h⟩ := zaP h
 obtain ⟨i,_,rfl⟩ := ms h
 exact ⟨i,rfl⟩
inductive TrF (cx : CC) (b : List Stmt) (hs : List ExceptHandler) (ir : Sm) : Prop
 | mk (x y : Str) (xp yp p1 p2 p3 p4 p5 : Pos) (v : Expr) (k : Const) (n : Nat) (e : Ex) (i j : Nat) (u : Val) (eb : b = [.Assign [.Name x xp] v p1]) (eh : hs = [.ExceptHandler (some (.Name vName p2)) none [.Assign [.Name y yp] (.Constant k n p3) p4] p5])
   (hk : cx.sc.lookup vName = some .globalImplicit) (hc : zaE v = false) (hi : zaS cx x = some i) (hj : zaS cx y = some j) (he : compX cx v = some e) (hu : constV k = some u) (er : ir = .tr i e j u) : TrF cx b hs ir
theorem asAsg_s {s : Stmt} {q : Str × Expr} (h : asAsg s = some q) : ∃ xp p1,s = .Assign [.Name q.1 xp] q.2 p1 := by
 unfold asAsg at h
 split at h
 ·obtain ⟨p,hp,rfl⟩ := ms h
  cases zaD hp
  exact ⟨_,_,rfl⟩
 ·exact nos h
theorem tryE_s {b : List Stmt} {hs : List ExceptHandler} {ir : Sm} (h : tryE cx b hs = some ir) : TrF cx b hs ir := by
 obtain ⟨s,eb,h1⟩ := zaP h
 obtain ⟨g,eg,h2⟩ := zaP h1
 clear h h1
 split at h2
 ·rename_i t hb gp
  obtain ⟨q,hq,h3⟩ := bs h2
  obtain ⟨hk,h4⟩ := gs h3
  have hk := Bool.and_eq_true_iff.mp hk
  obtain ⟨s2,e4,h5⟩ := zaP h4
  obtain ⟨a,ha,h6⟩ := bs h5
  obtain ⟨a2,ha2,h7⟩ := bs h6
  obtain ⟨k,hkk,h8⟩ := bs h7
  obtain ⟨hc,h9⟩ := gs h8
  obtain ⟨i,hi,hA⟩ := bs h9
  obtain ⟨j,hj,hB⟩ := bs hA
  obtain ⟨e,he,hC⟩ := bs hB
  obtain ⟨u,hu,hD⟩ := ms hC
  clear h2 h3 h4 h5 h6 h7 h8 h9 hA hB hC
  obtain ⟨xp,p1,e5⟩ := asAsg_s ha
  obtain ⟨yp,p4,e6⟩ := asAsg_s ha2
  have e1 := zaD hq
  have e2 := asConst_s hkk
  have e3 := beq_iff_eq.mp hk.1
  refine ⟨a.1,a2.1,xp,yp,p1,q.2,k.2.2,p4,gp,a.2,k.1,k.2.1,e,i,j,u,?_,?_,beq_iff_eq.mp hk.2,(by cases hq : zaE a.2; rfl; rw [hq] at hc; cases hc),(gs hi).2,(gs hj).2,he,hu,hD.symm⟩
  ·rw [eb,e5]
  ·rw [eg,e1,e3,e4,e6,e2]
 ·exact nos h2
theorem tryE_tr {b : List Stmt} {hs : List ExceptHandler} {ir : Sm} (h : tryE cx b hs = some ir) : ∃ x i y v,ir = .tr x i y v := by
 obtain ⟨x,y,xp,yp,p1,p2,p3,p4,p5,v,k,n,e,i,j,u,_,_,_,_,_,_,_,_,er⟩ := tryE_s h
 exact ⟨_,_,_,_,er⟩
theorem zcd (O : zaG C gl) (hC : zaI C d) (hg : GlOk C cx.gl) (hcc : CcOk cx) : ∀ (n : Nat),(∀ (st : Stmt) (ir : Sm),compS n cx st = some ir -> SSnd C d cx st ir) /\ ∀ (sts : List Stmt) (irs : List Sm),mapO (fun s => some ((compS n cx s).getD .raise)) sts = some irs -> zcB C d cx sts irs := by
 intro n
 have hE : ∀ {e ir},compX cx e = some ir -> Sd C d cx e ir := fun h => zbV O hC 60 cx hg hcc _ _ h
 have lists : ∀ {n : Nat},(∀ (st : Stmt) (ir : Sm),compS n cx st = some ir -> SSnd C d cx st ir) -> ∀ (sts : List Stmt) (irs : List Sm),mapO (fun s => some ((compS n cx s).getD .raise)) sts = some irs -> zcB C d cx sts irs := by
  intro n h sts irs e
  induction zbg e with
  | nil => exact ssnd_nil
  | @cons st i _ _ h1 h2 ih =>
   have rest := ih (by
    obtain ⟨b,_,e⟩ := bs e
    obtain ⟨c,h3,e⟩ := ms e
    cases e; exact h3)
   refine ssnd_cons ?_ rest
   cases hs : compS n cx st with
   | some i' => rw [hs] at h1; cases h1; exact h st _ hs
   | none => rw [hs] at h1; cases h1; exact fun Y env k fr w H s p r e => nos e
 have st : ∀ (st : Stmt) (ir : Sm),compS n cx st = some ir -> SSnd C d cx st ir := by
  induction n with
  | zero => exact fun st ir h => nos h
  | succ n ih =>
   have ihs := lists ih
   intro st ir
   cases st with
   | Pass pos => intro h; cases h; exact fun Y env k fr w H s p r e Q E hq => by cases e; exact wpAny_Pass (hq k w _ s p.rf .nx)
   | Break pos => intro h; cases h; exact fun Y env k fr w H s p r e Q E hq => by cases e; exact fun _ _ _ => hq k w _ s p.rf .bk
   | Continue pos => intro h; cases h; exact fun Y env k fr w H s p r e Q E hq => by cases e; exact fun _ _ _ => hq k w _ s p.rf .ct
   | Return v pos =>
    intro h
    cases v with
    | none => cases h; exact ssnd_ret0
    | some e => obtain ⟨i,hi,rfl⟩ := ms h; exact ssnd_ret (hE hi).es
   | Assign ts v pos =>
    intro h
    obtain ⟨t,rfl,h⟩ := zaP h
    have h : Option.casesOn (motive:=fun _ => Option Sm) (zbM t) ((compT1 cx t).bind fun a => (compX cx v).map fun b => .asg a b) (fun p => grd (valOk v) ((compX cx v).bind fun b => alt ((namesN p.1).bind fun xs => (mapO (zbY cx) xs).map fun is => .asgs (is.map .nm) b) (grd (!p.1.isEmpty) ((mapO (compA1 cx) p.1).map fun ts => .asgs (ts.map fun q => .at q.1 q.2) b)))) = some ir := h
    cases ht : zbM t with
    | some p =>
     rw [ht] at h
     cases zdf ht
     revert h
     refine gs_r fun hok => bs_r fun b hb => zao (bs_r fun xs hx => ms_r fun is his e => ?_) (gs_r fun hne => ms_r fun ts hts e => ?_)
     ·obtain ⟨xs',h1,h2⟩ := bs hx
      obtain ⟨h2,h3⟩ := gs h2
      cases h3
      exact e ▸ ssnd_asgs hok (zbg h1) (of_decide_eq_true h2) (slots_s his) (hE hb)
     ·refine e ▸ ssnd_asgsAt O hok (by cases hq : p.1.isEmpty; rfl; rw [hq] at hne; cases hne) ((zbg hts).mono fun e q h => ?_) (hE hb)
      obtain ⟨p,hp,h⟩ := bs h
      obtain ⟨hn,h⟩ := gs h
      obtain ⟨i,hi,rfl⟩ := ms h
      exact ⟨p.1,p.2.1,p.2.2,zcc hp,hn,rfl,hE hi⟩
    | none =>
     rw [ht] at h
     obtain ⟨a,ha,h⟩ := bs h
     obtain ⟨b,hb,rfl⟩ := ms h
     revert ha
     refine zao (bs_r fun p hp => gs_r fun _ => ms_r fun i hi e => ?_) (zao (bs_r fun p hp => gs_r fun hn => ms_r fun i hi e => ?_) (bs_r fun p hp => bs_r fun i hi => ms_r fun j hj e => ?_))
     ·rw [<- e,zaD hp]
      refine ssnd_asg hcc hi (hE hb) fun {elt gens sc cp} ev => ?_
      subst ev
      clear h
      obtain ⟨g,eg,hz⟩ := zaP (show one1 gens _ = some b from hb)
      subst eg
      obtain ⟨q,hq,h4⟩ := bs hz
      obtain ⟨hc,h5⟩ := gs h4
      obtain ⟨ii,hi',h6⟩ := bs h5
      obtain ⟨iifs,hf,h7⟩ := bs h6
      obtain ⟨ie,he,eb⟩ := ms h7
      have hc := Bool.and_eq_true_iff.mp hc
      have hin := zbV O hC 59 (inComp cx sc q.1) hg (hcc.inComp sc q.1)
      exact ⟨g,q,ie,ii,iifs,rfl,⟨beq_iff_eq.mp hc.1,hq,scOk_of hc.2,zbV O hC 59 cx hg hcc _ _ hi',hin _ _ he,(zbg hf).mono hin⟩,eb.symm⟩
     ·rw [<- e,zcc hp]; exact ssnd_asgAt O hn (hE hi) (hE hb)
     ·rw [<- e,asSub_s hp]; exact ssnd_asgSub (hE hi) (hE hj) (hE hb)
   | If t x y pos => exact bs_r fun a ha => bs_r fun b hb => ms_r fun c hc e => e ▸ ssnd_if (hE ha).ts (ihs _ _ hb) (ihs _ _ hc)
   | While t b e pos =>
    refine gs_r fun he => bs_r fun a ha => ms_r fun c hc e' => ?_
    cases e with
    | nil => exact e' ▸ ssnd_while (hE ha).ts (ihs _ _ hc)
    | cons _ _ => cases he
   | For t it b e pos =>
    refine gs_r fun he => bs_r fun q hq => gs_r fun _ => bs_r fun a ha => bs_r fun sl hs => ms_r fun c hc e' => ?_
    cases e with
    | nil => exact e' ▸ ssnd_for hq (slots_s hs) (hE ha) (ihs _ _ hc)
    | cons _ _ => cases he
   | Expr v pos => exact gs_r fun hc => ms_r fun i hi e => e ▸ ssnd_expr (by cases hq : zaE v; rfl; rw [hq] at hc; cases hc) (hE hi)
   | Raise o c pos => exact fun h => by obtain ⟨i,rfl⟩ := zcL h; exact fun Y env k fr w H s p r e => nos e
   | Try b hs e f pos => exact gs_r fun _ h => by obtain ⟨x,i,y,v,rfl⟩ := tryE_tr h; exact fun Y env k fr w H s p r e => nos e
   | _ => exact fun h => nos h
 exact ⟨st,lists st⟩
end
end Mi
namespace Mi
open PySem PySem.W PySem.Calls PyProof.Rows
theorem ccOk_fn (ps : List Str) (sc : Scope) (gl : List (Str × Val)) : CcOk (fnCx ps sc gl) := fun x i h => by
 obtain ⟨j,rfl,j2⟩ := (zbP x _ 0).1 i h
 rw [Nat.zero_add]
 exact (List.getElem?_eq_some_iff.mp j2).1
theorem bindL_skip {kindOf : Str -> Option NameKind} {x : Str} : ∀ {r : List (Str × Value)} {m : Str -> Option Value},x ∉ r.map (·.1) -> bindL kindOf r m x = m x := by
 intro r
 induction r with
 | nil => exact fun _ => rfl
 | cons p r ih =>
  intro m h
  unfold bindL
  rw [ih fun q => h (.tail _ q)]
  split
  ·exact if_neg fun q : x = p.1 => h (q ▸ .head _)
  ·rfl
theorem bindC_skip {kindOf : Str -> Option NameKind} {x : Str} : ∀ {r : List (Str × Value)} {m : Str -> Option Value},x ∉ r.map (·.1) -> bindC kindOf r m x = m x := by
 intro r
 induction r with
 | nil => exact fun _ => rfl
 | cons p r ih =>
  intro m h
  unfold bindC
  rw [ih fun q => h (.tail _ q)]
  split
  ·rfl
  ·exact if_neg fun q : x = p.1 => h (q ▸ .head _)
theorem bind_at {kindOf : Str -> Option NameKind} {x : Str} {v : Value} : ∀ {r : List (Str × Value)} {m : Str -> Option Value},(x,v) ∈ r -> (r.map (·.1)).Nodup -> (kindOf x = some .local -> bindL kindOf r m x = some v) /\ (kindOf x ≠ some .local -> bindC kindOf r m x = some v) := by
 intro r
 induction r with
 | nil => exact fun h _ => absurd h List.not_mem_nil
 | cons p r ih =>
  intro m h hd
  have hd := List.nodup_cons.mp hd
  unfold bindL bindC
  rcases List.mem_cons.mp h with e | h
  ·subst e
   exact ⟨fun hk => by rw [bindL_skip hd.1,if_pos hk]; exact if_pos rfl,fun hk => by rw [bindC_skip hd.1,if_neg hk]; exact if_pos rfl⟩
  ·exact ⟨(ih h hd.2).1,(ih h hd.2).2⟩
theorem zcQ {cm : Str -> Option Value} {x : Str} {c : Addr} {cs : List (Str × Addr)} {cells : Led} (h : CellsAre cm cs cells) : cs.lookup x = some c -> ∃ o,(c,o) ∈ cells /\ o.data = .cell (cm x) := by
 induction h with
 | nil => exact fun h => nos h
 | @cons n a o cs cells hd r ih =>
  intro h
  rw [List.lookup_cons] at h
  cases e : x == n with
  | true => rw [e] at h; cases h; rw [beq_iff_eq.mp e]; exact ⟨o,.head _,hd⟩
  | false => rw [e] at h; obtain ⟨o',h1,h2⟩ := ih h; exact ⟨o',.tail _ h1,h2⟩
theorem zbj {cm : Str -> Option Value} {cs : List (Str × Addr)} {cells : Led} (h : CellsAre cm cs cells) : cells.map (·.1) = cs.map (·.2) := by
 induction h with
 | nil => rfl
 | cons _ _ ih => exact congrArg (_ :: ·) ih
theorem zaZ (lo : Nat) : ∀ (names : List (Str × NameKind)) (n : Nat) (acc : List (Str × Addr)),lo <= n -> (acc.map (·.2)).Nodup -> (∀ p ∈ acc,p.2 < n /\ lo <= p.2) -> ((cellsFrom n names acc).map (·.2)).Nodup /\ ∀ p ∈ cellsFrom n names acc,lo <= p.2 := by
 intro names
 induction names with
 | nil => exact fun n acc _ h hl => ⟨h,fun p hp => (hl p hp).2⟩
 | cons q r ih =>
  intro n acc hn h hl
  unfold cellsFrom
  split
  ·refine ih (n + 1) _ (Nat.le_succ_of_le hn) ?_ ?_
   ·rw [List.map_cons,List.nodup_cons]
    refine ⟨fun hx => ?_,h⟩
    obtain ⟨p,hp,e⟩ := List.mem_map.mp hx
    exact absurd (hl p hp).1 (by rw [e]; exact Nat.lt_irrefl _)
   ·intro p hp
    rcases List.mem_cons.mp hp with rfl | hp
    ·exact ⟨Nat.lt_succ_self _,hn⟩
    ·exact ⟨Nat.lt_succ_of_lt (hl p hp).1,(hl p hp).2⟩
  ·exact ih n acc hn h hl
theorem look_inj {x y : Str} {c : Addr} {cs : List (Str × Addr)} : (cs.map (·.2)).Nodup -> cs.lookup x = some c -> cs.lookup y = some c -> x = y := by
 induction cs with
 | nil => exact fun _ h _ => nos h
 | cons p r ih =>
  intro hd hx hy
  have hd := List.nodup_cons.mp hd
  rw [List.lookup_cons] at hx hy
  have out : ∀ {z},r.lookup z = some c -> c = p.2 -> False := fun h e => hd.1 (List.mem_map.mpr ⟨_,zaj h,e⟩)
  cases ex : x == p.1 with
  | true =>
   rw [ex] at hx
   cases ey : y == p.1 with
   | true => exact (beq_iff_eq.mp ex).trans (beq_iff_eq.mp ey).symm
   | false => rw [ey] at hy; exact (out hy (Option.some.inj hx).symm).elim
  | false =>
   rw [ex] at hx
   cases ey : y == p.1 with
   | true => rw [ey] at hy; exact (out hx (Option.some.inj hy).symm).elim
   | false => rw [ey] at hy; exact ih hd.2 hx hy
section
variable {C : Cfg} {d e : Nat} {w : Wd} {H : MH} {s : Shared} {gl : List (Str × Val)}
theorem zc9 {Y : Actv C d 2} {qual : Str} {scope : Scope} {fa : Addr} {cdv : Value} {xs : List Str} {us : List Value} {ws : List Val} {fn : Fn} {cells ex : Led} (hkind : scope.kind = .function) (hbn : xs.Nodup) (ru : zab C w ws us) (hlen : ws.length = xs.length)
  (hc : CellsAre (bindC (envOfC qual scope Y.L fa cdv).kindOf (xs.zip us) fun _ => none) (cellsFrom (Y.L + 1) scope.names []) cells)
  (S : St Y ⟨cells,ex,bindL (envOfC qual scope Y.L fa cdv).kindOf (xs.zip us) fun _ => none⟩ w H s) : PlS Y (fnCx xs scope gl) (envOfC qual scope Y.L fa cdv) ⟨cells,ex,bindL (envOfC qual scope Y.L fa cdv).kindOf (xs.zip us) fun _ => none⟩ (za6 fn ws) w H s := by
 have hcn := (zaZ 0 scope.names (Y.L + 1) [] (Nat.zero_le _) .nil fun _ h => absurd h List.not_mem_nil).1
 have slot : ∀ {x i},zaS (fnCx xs scope gl) x = some i -> (zcr xs scope)[i]? = some x := fun {x i} h => by
  obtain ⟨j,e,h2⟩ := (zbP x (zcr xs scope) 0).1 i (zcU h).2
  rw [Nat.zero_add] at e
  exact e ▸ h2
 have hz : ((xs.zip us).map (·.1)).Nodup := by rw [List.map_fst_zip (by rw [<- hlen,ru.length]; exact Nat.le_refl _)]; exact hbn
 refine ⟨⟨hkind,rfl,rfl,rfl,fun x hx => Option.isSome_iff_exists.mp (cellsFrom_some scope.names (Y.L + 1) [] (.inl hx)),fun x y c hx hy hcx hcy => look_inj hcn hcx hcy,rfl,fun x y i hx hy => Option.some.inj ((slot hx).symm.trans (slot hy))⟩,
  fun x c _ hcx => (zcQ hc hcx).elim fun o h => ⟨o,_,h.1,h.2⟩,fun x i u hx hu => ?_,S⟩
 have hlt : i < ws.length := Decidable.byContradiction fun hge => by
  unfold za6 at hu
  rw [List.getElem?_append_right (by rw [List.length_map]; exact Nat.le_of_not_lt hge)] at hu
  obtain ⟨_,hu'⟩ := List.getElem?_eq_some_iff.mp hu
  rw [List.getElem_replicate] at hu'
  cases hu'
 unfold za6 at hu
 rw [List.getElem?_append_left (by rw [List.length_map]; exact hlt),List.getElem?_map] at hu
 obtain ⟨u',hu1,hu2⟩ := ms hu
 cases hu2
 obtain ⟨rv,hrv,hr⟩ := ru.get hu1
 have hpx : xs[i]? = some x := by
  have := slot hx
  unfold zcr at this
  rwa [List.getElem?_append_left (by rw [<- hlen]; exact hlt)] at this
 have hmem : (x,rv) ∈ xs.zip us := List.mem_of_getElem? (List.getElem?_zip_eq_some.mpr ⟨hpx,hrv⟩)
 rcases (zcU hx).1 with hk | hk
 ·exact .loc rv hk ((bind_at hmem hz).1 hk) hr
 ·obtain ⟨c,hcc⟩ := Option.isSome_iff_exists.mp (cellsFrom_some scope.names (Y.L + 1) [] (.inl hk))
  obtain ⟨o,h1,h2⟩ := zcQ hc hcc
  refine .cell rv c o hk hcc h1 ?_ hr
  rw [h2,(bind_at hmem hz).2 (by show scope.names.lookup x ≠ _; rw [show scope.names.lookup x = some .cell from hk]; decide)]
inductive CfO (gl : List (Str × Val)) (params : Arguments) (body : List Stmt) (sc : Scope) (f : Fn) : Prop
 | mk (kind : sc.kind = .function) (gen : sc.isGenerator = false) (co : sc.isCoroutine = false) (ps : ∀ x ∈ params.args.map (·.arg),sc.names.lookup x = some .local \/ sc.names.lookup x = some .cell) (b : compB (fnCx (params.args.map (·.arg)) sc gl) body = some f.body) (np : (params.args.map (·.arg)).length = f.np) : CfO gl params body sc f
theorem zcb {params : Arguments} {body : List Stmt} {sc : Scope} {f : Fn} (h : compFn gl params body sc = some (f.np,f.ns,f.body)) : CfO gl params body sc f := by
 obtain ⟨hb,h⟩ := gs h
 obtain ⟨b,h1,h2⟩ := ms h
 simp only [Bool.and_eq_true,List.all_eq_true,Bool.or_eq_true,beq_iff_eq,Bool.not_eq_true'] at hb
 simp only [Prod.mk.injEq] at h2
 obtain ⟨e1,e2,e3⟩ := h2
 obtain ⟨⟨⟨⟨hp,hkind⟩,hgen⟩,hco⟩,hps⟩ := hb
 exact ⟨hkind,hgen,hco,hps,e3 ▸ h1,e1⟩
theorem zab.drop {ms : List Val} : ∀ {vs : List Value} {n : Nat},zab C w ms vs -> zab C w (ms.drop n) (vs.drop n) := by
 induction ms with
 | nil => intro vs n h; cases h; rw [List.drop_nil,List.drop_nil]; exact .nil
 | cons m ms ih =>
  intro vs n h
  cases n with
  | zero => exact h
  | succ n => obtain ⟨v,t,rfl,_,r⟩ := h; exact ih r
theorem args_s {fn : Fn} {fd : FuncData} {xs : List Str} {as ws : List Val} {vs : List Value} (hk : C.K.In s.heap) (k7 : ArgFact C fn fd xs) (r : zab C w as vs) (ha : zbk fn as = some ws) : ∃ us,zab C w ws us /\ ws.length = fn.np /\ BindsTo s fd ⟨vs,[]⟩ (xs.zip us) := by
 obtain ⟨hc,e⟩ := gs ha
 have hc := Bool.and_eq_true_iff.mp hc
 have h1 := Nat.ble_eq.mp hc.1
 have h2 := Nat.ble_eq.mp hc.2
 have e := (Option.some.inj e).symm
 rcases k7 with ⟨k5,k7⟩ | ⟨_,dvs,k7a,k7b⟩
 ·rw [k5] at h2 e
  have hl : as.length = fn.np := Nat.le_antisymm h1 (Nat.le_of_sub_eq_zero (Nat.le_zero.mp h2))
  rw [List.drop_nil,List.append_nil] at e
  subst e
  exact ⟨vs,r,hl,BindsTo.of_eq (k7 vs (r.length ▸ hl))⟩
 ·have hdl := (k7a w).length
  have hrl := r.length
  refine ⟨vs ++ dvs.drop (dvs.length - (fn.np - vs.length)),?_,?_,kp_binds hk fun St => k7b St vs (by omega) (by omega)⟩
  ·rw [e,<- hdl,<- hrl]
   exact zab.append (k7a w).drop r
  ·rw [e,List.length_append,List.length_drop]; omega
noncomputable abbrev flV (f : Flow) : Value := match f with | .ret v => v | _ => .none
theorem flow_s {fl : Fl} {f : Flow} {fr : Frame} {H : MH} {r : Val × MH} (hr : FlR C w fl f) (e : finF (fl,fr) H = some r) : VRel C w r.1 (flV f) /\ H = r.2 := by
 cases hr with
 | nx => cases e; exact ⟨rfl,rfl⟩
 | bk => exact nos e
 | ct => exact nos e
 | rt h => cases e; exact ⟨h,rfl⟩
theorem call_snd (O : zaG C gl) : ∀ d,zaI C d := by
 intro d
 induction d with
 | zero => exact fun Y k w H s f fa as vs r S hf rr e => nos e
 | succ d ih =>
  intro Y k w H s f fa as vs r S hf rr
  refine bs_r fun fn hfn => bs_r fun ws hargs => zad fun q HE ev er R hq => ?_
  obtain ⟨hfa,ad,name,qual,params,body,scope,dV,kV,doc,pm,an,cdv,ct,oc,od,osl,k1,k2,k3,k4,k6,k7,k8,k10⟩ := O.fns _ _ hfn
  rw [hfa,hf] at k1
  cases k1
  obtain ⟨us,ru,hlen,hbt⟩ := args_s S.kIn k7 rr hargs
  obtain ⟨hkind,hgen,hco,hps,hbd,hnp⟩ := zcb k4
  obtain ⟨A₀,base,outer,hB,hA⟩ := Y.below
  obtain ⟨p,loose,mean,mg,mb,T⟩ := Y.top
  obtain ⟨os,he,hn,hd⟩ := S.os
  refine code_defC (binds:=(params.args.map (·.arg)).zip us) hB S.fr Y.k hn T hA Y.frame Y.kind k2 k3 (by have := Y.depth; show Y.A.depth < 1000; omega) hbt ?_ k10 (fun g L' h₁ tk cells FG F' N' Yc B' Xg Tg hlt => ?_) hco hgen hkind
  ·rw [List.all_eq_true]
   intro y hy
   rw [Bool.or_eq_true,beq_iff_eq,beq_iff_eq]
   exact hps y.1 (List.of_mem_zip hy).1
  let Y' : Actv C d 2 := ⟨Y.A.deeper (envOfC qual scope L' fa cdv),g,L',envOfC qual scope L' fa cdv,⟨Y.A,base,Y.envF :: outer,B',Around.frames_deeper hA⟩,Xg,⟨p,loose,mean,mg,mb,Tg⟩,rfl,hkind,Y.handled,by have := Y.depth; show Y.A.depth + 1 + 4 * d + 2 + 2 <= 900; omega,by have := Y.units; show Y.A.units + 3 + 20 * d + 190 + 5 * 2 <= 9900; omega⟩
  obtain ⟨hcn,hcl⟩ := zaZ (L' + 1) scope.names (L' + 1) [] (Nat.le_refl _) .nil fun _ h => absurd h List.not_mem_nil
  have pm' : ∀ cells : Led,(os.flatten ++ (w.tp ++ (cells ++ (k.ce ++ k.ex)))).Perm (cells ++ (os.flatten ++ (w.tp ++ (k.ce ++ k.ex)))) := fun cells => (List.Perm.append_left _ (List.perm_append_comm_assoc _ _ _)).trans (List.perm_append_comm_assoc _ _ _)
  have S' : St Y' ⟨cells,k.ce ++ k.ex,bindL (envOfC qual scope L' fa cdv).kindOf ((params.args.map (·.arg)).zip us) fun _ => none⟩ w H { s with heap := h₁,toks := tk } := by
   refine ⟨F',⟨os,he,fun p hp => N' p ((pm' cells).mem_iff.mp hp),Led.nd.perm (pm' cells).symm (nd_app ?_ hd fun x hx y hy e => ?_)⟩,Nat.le_trans S.big (Nat.le_trans FG.above (Nat.le_of_lt FG.ns.lt)),S.lo⟩
   ·unfold Led.nd; rw [zbj Yc]; exact hcn
   ·have hx' : x.1 ∈ cells.map (·.1) := List.mem_map.mpr ⟨x,hx,rfl⟩
    rw [zbj Yc] at hx'
    obtain ⟨q,hq1,e1⟩ := List.mem_map.mp hx'
    exact absurd (Nat.lt_of_lt_of_le (hlt y hy) (Nat.le_of_succ_le (hcl q hq1))) (by rw [e1,e]; exact Nat.lt_irrefl _)
  have P := zc9 (Y:=Y') (gl:=gl) (fn:=fn) (ex:=k.ce ++ k.ex) hkind k8 ru (hlen.trans hnp.symm) Yc S'
  refine (zcd O ih O.glob (ccOk_fn _ _ _) 40).2 _ _ hbd Y' _ _ _ _ _ _ P _ ev _ _ fun k1 w1 f1 s1 n1 r1 => ?_
  obtain ⟨hv,hH⟩ := flow_s r1 er
  obtain ⟨os1,he1,hn1,hd1⟩ := n1.pl.st.os
  rw [show k1.all w1 os1 = os1.flatten ++ (w1.tp ++ (k1.ce ++ (k.ce ++ k.ex))) from by unfold Kp.all; rw [n1.ex]] at hn1 hd1
  have sub : (k.all w1 os1).Sublist (os1.flatten ++ (w1.tp ++ (k1.ce ++ (k.ce ++ k.ex)))) := (List.Sublist.refl _).append ((List.Sublist.refl _).append (List.sublist_append_right _ _))
  exact leaveK_ n1.pl.st.fr hn1 fun F2 N2 => hq w1 _ s1 ⟨n1.le,⟨F2,⟨os1,hH ▸ he1,fun p hp => N2 p (sub.subset hp),List.Sublist.nodup (List.Sublist.map _ sub) hd1⟩,S.big,n1.pl.st.lo⟩,n1.same.1,n1.same.2⟩ hv
end
end Mi
namespace Mi
open PySem PySem.W PySem.Calls PyProof.Rows
noncomputable def Data.seq? (d : Data) : Option (List Value × Nat) := Data.casesOn (motive:=fun _ => Option (List Value × Nat)) d none (fun _ => none) (fun xs n => some (xs.toList,n)) (fun _ _ => none) (fun _ _ _ => none) (fun _ _ => none) (fun _ => none) (fun _ => none) (fun _ => none) (fun _ => none) none
theorem seq?_s {d : Data} {p : List Value × Nat} : Data.seq? d = some p -> d = .seq p.1.toArray p.2 := by
 cases d <;> first | exact fun e => nos e | (intro e; cases e; rfl)
noncomputable def Data.func? (d : Data) : Option FuncData := Data.casesOn (motive:=fun _ => Option FuncData) d none (fun _ => none) (fun _ _ => none) (fun _ _ => none) (fun _ _ _ => none) (fun _ _ => none) (fun _ => none) some (fun _ => none) (fun _ => none) none
theorem func?_s {d : Data} {f : FuncData} : Data.func? d = some f -> d = .func f := by
 cases d <;> first | exact fun e => nos e | (intro e; cases e; rfl)
noncomputable def Value.ref? (v : Value) : Option Addr := Value.casesOn (motive:=fun _ => Option Addr) v none none none (fun _ => none) (fun _ _ => none) (fun _ _ => none) (fun _ _ => none) (fun _ _ => none) (fun _ => none) (fun _ => none) some
theorem vref?_s {v : Value} {a : Addr} : Value.ref? v = some a -> v = .ref a := by
 cases v <;> first | exact fun e => nos e | (intro e; cases e; rfl)
noncomputable def intIs (v : Value) (i : Int) : Bool := Value.casesOn (motive:=fun _ => Bool) v false false false (fun _ => false) (fun j _ => j == i) (fun _ _ => false) (fun _ _ => false) (fun _ _ => false) (fun _ => false) (fun _ => false) (fun _ => false)
theorem intIs_s {v : Value} {i : Int} : intIs v i = true -> ∃ t,v = .int i t := by
 cases v with
 | int j t => exact fun e => ⟨t,by rw [beq_iff_eq.mp e]⟩
 | _ => exact fun e => nomatch e
noncomputable def strIs (v : Value) (s : List Nat) : Bool := Value.casesOn (motive:=fun _ => Bool) v false false false (fun _ => false) (fun _ _ => false) (fun _ _ => false) (fun x _ => x.cps.toList == s) (fun _ _ => false) (fun _ => false) (fun _ => false) (fun _ => false)
theorem strIs_s {v : Value} {s : List Nat} : strIs v s = true -> ∃ t,v = .str ⟨s.toArray⟩ t := by
 cases v with
 | str x t => exact fun e => ⟨t,by rw [<- beq_iff_eq.mp e]⟩
 | _ => exact fun e => nomatch e
noncomputable def typeIs (v : Value) (o : Option String) : Bool := Option.casesOn (motive:=fun _ => Bool) o false fun n => v == .type n
noncomputable def biIs (v : Value) (o : Option String) : Bool := Option.casesOn (motive:=fun _ => Bool) o false fun n => v == .builtin n
noncomputable def seqAt (C : Cfg) (v : Value) (n : String) : Option (List Value × Nat) := (Value.ref? v).bind fun a => (C.K.lookup a).bind fun o => grd (o.cls == .type n) (Data.seq? o.data)
inductive SeqF (C : Cfg) (v : Value) (n : String) (p : List Value × Nat) : Prop
 | mk (a : Addr) (o : Obj) (e : v = .ref a) (k : C.K.lookup a = some o) (c : o.cls = .type n) (d : o.data = .seq p.1.toArray p.2) : SeqF C v n p
theorem seqAt_s {C : Cfg} {v : Value} {n : String} {p : List Value × Nat} (h : seqAt C v n = some p) : SeqF C v n p := by
 obtain ⟨a,e1,h⟩ := bs h
 obtain ⟨o,e2,h⟩ := bs h
 obtain ⟨e3,h⟩ := gs h
 exact ⟨a,o,vref?_s e1,e2,beq_iff_eq.mp e3,seq?_s h⟩
noncomputable def all2B (f : Val -> Value -> Bool) : List Val -> List Value -> Bool
 | [],vs => vs.isEmpty
 | m :: ms,vs => List.casesOn (motive:=fun _ => Bool) vs false fun v r => f m v && all2B f ms r
noncomputable def relB (C : Cfg) : Nat -> Val -> Value -> Bool
 | 0,_,_ => false
 | k + 1,m,v => Val.casesOn (motive_1:=fun _ => Bool) m (v == .none) (fun b => v == .bool b) (fun i => intIs v i) (fun s => strIs v s && sOkB s)
  (fun ms => Option.casesOn (motive:=fun _ => Bool) (seqAt C v "tuple") false fun p => all2B (relB C k) ms p.1 && Nat.ble ms.length lim) (fun _ => false)
  (fun id => Option.casesOn (motive:=fun _ => Bool) (C.ad.lookup id) false fun a => v == .ref a) (fun c => typeIs v (tyTab.lookup c)) (fun c => biIs v (biTab.lookup c)) (fun _ => false)
  (fun ms => Option.casesOn (motive:=fun _ => Bool) (seqAt C v "list") false fun p => all2B (relB C k) ms p.1 && Nat.ble ms.length lim) (fun _ => false)
theorem zcz {C : Cfg} {f : Val -> Value -> Bool} (hf : ∀ m v,f m v = true -> ∀ w,VRel C w m v) (w : Wd) : ∀ (ms : List Val) (vs : List Value),all2B f ms vs = true -> zab C w ms vs := by
 intro ms
 induction ms with
 | nil => intro vs h; exact List.isEmpty_iff.mp h
 | cons m ms ih =>
  intro vs h
  cases vs with
  | nil => exact nomatch h
  | cons v r =>
   have h := Bool.and_eq_true_iff.mp h
   exact .cons (hf _ _ h.1 w) (ih r h.2)
theorem optB {α : Type} {o : Option α} {f : α -> Bool} (h : Option.casesOn (motive:=fun _ => Bool) o false f = true) : ∃ a,o = some a /\ f a = true := by
 cases o with
 | none => exact nomatch h
 | some a => exact ⟨a,rfl,h⟩
theorem zcJ {C : Cfg} : ∀ (k : Nat) (m : Val) (v : Value),relB C k m v = true -> ∀ w,VRel C w m v := by
 intro k
 induction k with
 | zero => exact fun m v h => nomatch h
 | succ k ih =>
  intro m v h w
  cases m with
  | none => exact beq_iff_eq.mp h
  | bool b => exact beq_iff_eq.mp h
  | int i => exact intIs_s h
  | str s =>
   have h := Bool.and_eq_true_iff.mp h
   obtain ⟨t,e⟩ := strIs_s h.1
   exact ⟨t,e,sOkB_s h.2⟩
  | tup ms =>
   obtain ⟨p,e,h⟩ := optB (o:=seqAt C v "tuple") h
   obtain ⟨a,o,e,q1,q2,q3⟩ := seqAt_s e
   have h := Bool.and_eq_true_iff.mp h
   exact ⟨a,o,p.2,p.1,e,⟨.inr q1,q2,q3⟩,zcz ih w _ _ h.1,Nat.ble_eq.mp h.2⟩
  | ref a => exact nomatch h
  | top id =>
   obtain ⟨a,e,h⟩ := optB (o:=C.ad.lookup id) h
   exact ⟨a,beq_iff_eq.mp h,e⟩
  | ty c =>
   obtain ⟨n,e,h⟩ := optB (o:=tyTab.lookup c) h
   exact ⟨n,beq_iff_eq.mp h,e⟩
  | bi c =>
   obtain ⟨n,e,h⟩ := optB (o:=biTab.lookup c) h
   exact ⟨n,beq_iff_eq.mp h,e⟩
  | rng n => exact nomatch h
  | fl ms =>
   obtain ⟨p,e,h⟩ := optB (o:=seqAt C v "list") h
   obtain ⟨a,o,e,q1,q2,q3⟩ := seqAt_s e
   have h := Bool.and_eq_true_iff.mp h
   exact ⟨a,o,p.2,p.1,e,⟨q1,q2,q3⟩,zcz ih w _ _ h.1,Nat.ble_eq.mp h.2⟩
  | setn n => exact nomatch h
section
variable {C : Cfg} {gl : List (Str × Val)}
noncomputable def oo (o : Option (Option Value)) (f : Value -> Bool) (g : Bool) : Bool := Option.casesOn (motive:=fun _ => Bool) o false fun x => Option.casesOn (motive:=fun _ => Bool) x g f
theorem oo_s {o : Option (Option Value)} {f : Value -> Bool} {g : Bool} (h : oo o f g = true) : (∃ v,o = some (some v) /\ f v = true) \/ o = some none /\ g = true := by
 rcases o with _ | _ | v
 ·exact nomatch h
 ·exact .inr ⟨rfl,h⟩
 ·exact .inl ⟨v,rfl,h⟩
noncomputable def glB (C : Cfg) (p : Str × Val) : Bool := oo (nsIn C.K mainGlobals p.1) (relB C 5 p.2) (!(p.1 == "__name__") && oo (some (bootBuiltins p.1)) (relB C 5 p.2) false)
theorem glB_s {p : Str × Val} (h : glB C p = true) : ∃ rv,GlR C p rv := by
 rcases oo_s h with ⟨v,e,h⟩ | ⟨e,h⟩
 ·exact ⟨v,zcJ _ _ _ h,.inl e⟩
 ·have h := Bool.and_eq_true_iff.mp h
  rcases oo_s h.2 with ⟨v,e2,h2⟩ | ⟨_,h2⟩
  ·exact ⟨v,zcJ _ _ _ h2,.inr ⟨e,fun q => by rw [q] at h; exact absurd h.1 (by decide +kernel),Option.some.inj e2⟩⟩
  ·exact nomatch h2
noncomputable def nmAt (nms : List Str) (n : Nat) : Option Str := nms.find? fun x => enc x == n && zae x
theorem nmAt_s {nms : List Str} {n : Nat} {x : Str} (h : nmAt nms n = some x) : zae x = true /\ enc x = n := by
 have h : (enc x == n && zae x) = true := List.find?_some (p:=fun x => enc x == n && zae x) h
 have h := Bool.and_eq_true_iff.mp h
 exact ⟨h.2,beq_iff_eq.mp h.1⟩
noncomputable def nameB (C : Cfg) (nms : List Str) (c n : Nat) (f : Addr -> Str -> Bool) : Bool := Option.casesOn (motive:=fun _ => Bool) (C.ad.lookup c) false fun ca => Option.casesOn (motive:=fun _ => Bool) (nmAt nms n) false fun x => plainGet C.K ca x && hasDictIn C.K ca && f ca x
theorem nameB_s {nms : List Str} {c n : Nat} {f : Addr -> Str -> Bool} {P : Addr -> Str -> Prop} (hf : ∀ a x,f a x = true -> P a x) (h : nameB C nms c n f = true) : zbp C c n P := by
 obtain ⟨ca,e1,h⟩ := optB h
 obtain ⟨x,e2,h⟩ := optB h
 have h := Bool.and_eq_true_iff.mp h
 have h' := Bool.and_eq_true_iff.mp h.1
 exact ⟨ca,x,e1,(nmAt_s e2).1,(nmAt_s e2).2,h'.1,h'.2,hf _ _ h.2⟩
noncomputable def cfIs (o : Option CFound) (v : Value) : Bool := Option.casesOn (motive:=fun _ => Bool) o false fun x => CFound.casesOn (motive:=fun _ => Bool) x (fun u => u == v) fun _ _ _ _ => false
theorem cfIs_s {o : Option CFound} {v : Value} (h : cfIs o v = true) : o = some (.val v) := by
 rcases o with _ | _ | _
 ·exact nomatch h
 ·rw [beq_iff_eq.mp h]
 ·exact nomatch h
noncomputable def attrB (C : Cfg) (v : Val) (ca : Addr) (x : Str) : Bool := oo (findIn C.K (.ref ca) x) (fun av => relB C 5 v av && bif isFnV C.P v then
 isFn C.K av && (specialIn C.K (.ref ca) "__getattribute__" == some (some (.builtin "type.__getattribute__")) && Option.casesOn (motive:=fun _ => Bool) (typeIn C.K (.ref ca)) false fun mc => readsIn C.K ca mc && cfIs (findCls C.K (.ref ca) mc x) av)
 else specialIn C.K av "__get__" == some none && (handedIn av && !copiedNames.contains x)) false
theorem attrB_s {v : Val} {ca : Addr} {x : Str} (h : attrB C v ca x = true) : AttrP C v ca x := by
 rcases oo_s h with ⟨av,e,h⟩ | ⟨_,h⟩
 ·have h := Bool.and_eq_true_iff.mp h
  refine ⟨av,e,zcJ _ _ _ h.1,fun hi => ?_,fun hi => ?_⟩
  ·rw [hi] at h
   have h1 := Bool.and_eq_true_iff.mp h.2
   have h2 := Bool.and_eq_true_iff.mp h1.2
   obtain ⟨mc,e3,h3⟩ := optB h2.2
   have h3 := Bool.and_eq_true_iff.mp h3
   exact ⟨h1.1,beq_iff_eq.mp h2.1,mc,e3,h3.1,cfIs_s h3.2⟩
  ·rw [hi] at h
   have h1 := Bool.and_eq_true_iff.mp h.2
   have h2 := Bool.and_eq_true_iff.mp h1.2
   exact ⟨beq_iff_eq.mp h1.1,h2.1,Bool.not_eq_true' _ ▸ h2.2⟩
 ·exact nomatch h
noncomputable def fldB (C : Cfg) (ca : Addr) (x : Str) : Bool := Option.casesOn (motive:=fun _ => Bool) (findIn C.K (.ref ca) x) false fun at' => noGet C.K at' && (takerIn C.K ca x == some none && (findIn C.K (.ref ca) "__setattr__" == some (some (.builtin "object.__setattr__")) && plainOver C.K ca))
theorem fldB_s {ca : Addr} {x : Str} (h : fldB C ca x = true) : FldP C ca x := by
 obtain ⟨at',e,h⟩ := optB h
 have h := Bool.and_eq_true_iff.mp h
 have h2 := Bool.and_eq_true_iff.mp h.2
 have h3 := Bool.and_eq_true_iff.mp h2.2
 exact ⟨at',e,h.1,beq_iff_eq.mp h2.1,beq_iff_eq.mp h3.1,h3.2⟩
noncomputable def initB (C : Cfg) (c i : Nat) : Bool := Option.casesOn (motive:=fun _ => Bool) (C.ad.lookup c) false fun ca => Option.casesOn (motive:=fun _ => Bool) (C.ad.lookup i) false fun fI => makesIn C.K ca && (findIn C.K (.ref ca) "__init__" == some (some (.ref fI)) && (isFn C.K (.ref fI) && keepIn C.K (.ref ca)))
theorem initB_s {c i : Nat} (h : initB C c i = true) : zdh C c i := by
 obtain ⟨ca,e1,h⟩ := optB h
 obtain ⟨fI,e2,h⟩ := optB h
 have h := Bool.and_eq_true_iff.mp h
 have h2 := Bool.and_eq_true_iff.mp h.2
 have h3 := Bool.and_eq_true_iff.mp h2.2
 exact ⟨ca,fI,e1,e2,h.1,beq_iff_eq.mp h2.1,h3.1,h3.2⟩
noncomputable def clB (C : Cfg) (nms : List Str) (k : Cl) : Bool := (k.attrs.all fun p => nameB C nms k.addr p.1 (attrB C p.2)) && ((k.flds.all fun n => nameB C nms k.addr n (fldB C)) && (k.init.all fun i => initB C k.addr i))
theorem fm_congr {α β : Type} {f g : α -> Option β} : ∀ {l : List α},(∀ x ∈ l,f x = g x) -> l.filterMap f = l.filterMap g := by
 intro l
 induction l with
 | nil => exact fun _ => rfl
 | cons x l ih => intro h; rw [List.filterMap_cons,List.filterMap_cons,h x (.head _),ih fun y hy => h y (.tail _ hy)]
theorem zip_look {xs : List Str} : ∀ {vs : List Value},xs.Nodup -> vs.length = xs.length -> (∀ n ∈ xs,((xs.zip vs).lookup n).isSome = true) /\ (xs.filterMap fun n => ((xs.zip vs).lookup n).map (n,·)) = xs.zip vs := by
 induction xs with
 | nil => exact fun _ _ => ⟨fun _ h => absurd h List.not_mem_nil,rfl⟩
 | cons x xs ih =>
  intro vs nd hl
  cases vs with
  | nil => exact nomatch hl
  | cons v vs =>
   have nd := List.nodup_cons.mp nd
   obtain ⟨i1,i2⟩ := ih (vs:=vs) nd.2 (Nat.succ.inj hl)
   have ne : ∀ n ∈ xs,(((x :: xs).zip (v :: vs)).lookup n) = (xs.zip vs).lookup n := fun n hn => by
    rw [List.zip_cons_cons,List.lookup_cons,beq_false_of_ne (show n ≠ x from fun e => nd.1 (e ▸ hn))]
   refine ⟨fun n hn => ?_,?_⟩
   ·rcases List.mem_cons.mp hn with rfl | hn
    ·rw [List.zip_cons_cons,List.lookup_cons,beq_self_eq_true]; rfl
    ·rw [ne n hn]; exact i1 n hn
   ·have e3 : (xs.filterMap fun n => (((x :: xs).zip (v :: vs)).lookup n).map (n,·)) = xs.filterMap fun n => ((xs.zip vs).lookup n).map (n,·) := fm_congr fun n hn => by rw [ne n hn]
    rw [List.filterMap_cons,e3,i2,List.zip_cons_cons,List.lookup_cons,beq_self_eq_true]; rfl
theorem bind_plain {fd : FuncData} {vs : List Value} (h1 : fd.params.posonlyargs = []) (h2 : fd.params.vararg = none) (h3 : fd.params.kwonlyargs = []) (h4 : fd.params.kwarg = none) (hd : fd.defaults = .none) (hl : vs.length = (fd.params.args.map (·.arg)).length) (nd : (fd.params.args.map (·.arg)).Nodup) :
  bindArgs fd ⟨vs,[]⟩ = pure ((fd.params.args.map (·.arg)).zip vs) := by
 obtain ⟨e1,e2⟩ := zip_look nd hl
 unfold bindArgs
 have e3 : ((fd.params.args.map (·.arg)).take (fd.params.args.map (·.arg)).length).filter (fun n => (((fd.params.args.map (·.arg)).zip vs).lookup n).isNone) = [] := by
  rw [List.take_length,List.filter_eq_nil_iff]
  intro n hn
  rw [Option.isNone_iff_eq_none]
  intro q
  have := e1 n hn
  rw [q] at this
  exact nomatch this
 generalize hx : fd.params.args.map (·.arg) = xs at *
 have g1 : (decide (vs.length > xs.length) && (Option.none : Option Arg).isNone) = false := by rw [hl,decide_eq_false (Nat.lt_irrefl _)]; rfl
 have g2 : ((Option.none : Option (Array Value)).getD #[]).toList = [] := rfl
 simp only [hx,h1,h2,h3,h4,hd,List.map_nil,List.nil_append,List.append_nil,List.forIn_nil,pure_bind,seqItems?,notAStandIn,g1,g2,List.drop_nil,List.length_nil,Nat.sub_zero,e3,List.isEmpty_nil,Bool.not_true,Bool.false_eq_true,if_false,List.zip_nil_right,e2]
noncomputable def stm? (b : FuncBody) : Option (List Stmt) := FuncBody.casesOn (motive:=fun _ => Option (List Stmt)) b some (fun _ => none)
theorem stm?_s {b : FuncBody} {l : List Stmt} : stm? b = some l -> b = .stmts l := by
 cases b <;> first | exact fun e => nos e | (intro e; cases e; rfl)
structure FdP where
 a : Addr
 o : Obj
 fd : FuncData
noncomputable def fdAt (C : Cfg) (f : Fn) : Option FdP := (C.ad.lookup f.addr).bind fun a => (C.K.lookup a).bind fun o => (Data.func? o.data).map fun fd => ⟨a,o,fd⟩
noncomputable def cmpl (C : Cfg) (gl : List (Str × Val)) (f : Fn) : Option (Nat × Nat × List Sm) := (fdAt C f).bind fun p => (stm? p.fd.body).bind fun b => compFn gl p.fd.params b p.fd.scope
noncomputable def ndB {α : Type} [BEq α] : List α -> Bool
 | [] => true
 | a :: r => !r.contains a && ndB r
theorem ndB_s {α : Type} [BEq α] [LawfulBEq α] : ∀ {l : List α},ndB l = true -> l.Nodup := by
 intro l
 induction l with
 | nil => exact fun _ => List.nodup_nil
 | cons a r ih =>
  intro h
  have h := Bool.and_eq_true_iff.mp h
  refine List.nodup_cons.mpr ⟨fun hm => ?_,ih h.2⟩
  rw [List.contains_iff_mem.mpr hm] at h
  exact nomatch h.1
noncomputable def plainB (fd : FuncData) : Bool := fd.params.posonlyargs.isEmpty && (fd.params.vararg.isNone && (fd.params.kwonlyargs.isEmpty && (fd.params.kwarg.isNone && fd.defaults == .none)))
noncomputable def fnB (C : Cfg) (f : Fn) : Bool := Option.casesOn (motive:=fun _ => Bool) (fdAt C f) false fun p => (p.fd.globals == mainGlobals && (p.fd.closure.isEmpty && (p.fd.builtins == builtinsNs && (codeIn C.K p.fd.code p.fd.qualname && keepIn C.K (.ref p.a))))) && ((ndB (p.fd.params.args.map (·.arg)) && ndB ((cellsFrom 0 p.fd.scope.names []).map (·.1))) && (!f.dfl.isEmpty || plainB p.fd))
noncomputable def DflOk (C : Cfg) (f : Fn) : Prop := f.dfl ≠ [] -> ∀ p,fdAt C f = some p -> ArgFact C f p.fd (p.fd.params.args.map (·.arg))
theorem fnB_s {f : Fn} (h : fnB C f = true) (hc : cmpl C gl f = some (f.np,f.ns,f.body)) (hD : DflOk C f) : FnFact C gl f := by
 obtain ⟨p,e,h⟩ := optB h
 unfold cmpl at hc
 rw [e] at hc
 obtain ⟨b,eb,hc⟩ := bs (show ((stm? p.fd.body).bind fun b => compFn gl p.fd.params b p.fd.scope) = _ from hc)
 have hD := fun h => hD h p e
 obtain ⟨a,e1,e⟩ := bs e
 obtain ⟨o,e2,e⟩ := bs e
 obtain ⟨fd,e3,rfl⟩ := ms e
 have h := Bool.and_eq_true_iff.mp h
 have h1 := Bool.and_eq_true_iff.mp h.1
 have h2 := Bool.and_eq_true_iff.mp h1.2
 have h3 := Bool.and_eq_true_iff.mp h2.2
 have h4 := Bool.and_eq_true_iff.mp h3.2
 have h5 := Bool.and_eq_true_iff.mp h.2
 have h6 := Bool.and_eq_true_iff.mp h5.1
 have nd := ndB_s h6.1
 have ef : fd = fnOf fd.name fd.qualname fd.params b fd.scope fd.defaults fd.kwdefaults fd.doc fd.pyModule fd.annotations fd.code fd.closureTuple := by
  have k1 := beq_iff_eq.mp h1.1
  have k2 := List.isEmpty_iff.mp h2.1
  have k3 := beq_iff_eq.mp h3.1
  have k4 := stm?_s eb
  obtain ⟨x1,x2,x3,x4,x5,x6,x7,x8,x9,x10,x11,x12,x13,x14,x15⟩ := fd
  cases k1; cases k2; cases k3; cases k4
  rfl
 refine ⟨a,fd.name,fd.qualname,fd.params,b,fd.scope,fd.defaults,fd.kwdefaults,fd.doc,fd.pyModule,fd.annotations,fd.code,fd.closureTuple,o.cls,o.dict,o.slots,e1,?_,h4.1,hc,h4.2,?_,nd,ndB_s h6.2⟩
 ·rw [<- ef,<- func?_s e3]; exact e2
 ·rw [<- ef]
  by_cases hd : f.dfl = []
  ·have h7 := (Bool.or_eq_true_iff.mp h5.2).resolve_left (by rw [hd]; exact fun h => nomatch h)
   have h7 := Bool.and_eq_true_iff.mp h7
   have h8 := Bool.and_eq_true_iff.mp h7.2
   have h9 := Bool.and_eq_true_iff.mp h8.2
   have h10 := Bool.and_eq_true_iff.mp h9.2
   obtain ⟨_,_,_,_,_,np⟩ := zcb hc
   exact .inl ⟨hd,fun vs hl => bind_plain (List.isEmpty_iff.mp h7.1) (Option.isNone_iff_eq_none.mp h8.1) (List.isEmpty_iff.mp h9.1) (Option.isNone_iff_eq_none.mp h10.1) (beq_iff_eq.mp h10.2) (hl.trans np.symm) nd⟩
  ·exact hD hd
noncomputable def plainO (o : Obj) : Bool := Data.casesOn (motive:=fun _ => Bool) o.data true (fun _ => false) (fun _ _ => false) (fun _ _ => false) (fun _ _ _ => false) (fun _ _ => false) (fun _ => false) (fun _ => false) (fun _ => false) (fun _ => false) false
noncomputable def emptyD (o : Obj) : Bool := Data.casesOn (motive:=fun _ => Bool) o.data false (fun _ => false) (fun _ _ => false) (fun es _ => es.isEmpty) (fun _ _ _ => false) (fun _ _ => false) (fun _ => false) (fun _ => false) (fun _ => false) (fun _ => false) false
noncomputable def instB (C : Cfg) (p : Nat × Nat) : Bool := Option.casesOn (motive:=fun _ => Bool) (C.ad.lookup p.1) false fun a => Option.casesOn (motive:=fun _ => Bool) (C.ad.lookup p.2) false fun ca => Option.casesOn (motive:=fun _ => Bool) (C.K.lookup a) false fun o => Option.casesOn (motive:=fun _ => Bool) o.dict false fun dx =>
 Option.casesOn (motive:=fun _ => Bool) (C.K.lookup dx) false fun o' => (o.cls == .ref ca && (plainO o && o.slots.isEmpty)) && ((o'.cls == .type "dict" && o'.dict.isNone) && (emptyD o' && o'.slots.isEmpty))
theorem plainO_s {o : Obj} (h : plainO o = true) : o.data = .plain := by
 obtain ⟨c,d,x,s⟩ := o
 cases x <;> first | rfl | exact nomatch h
theorem emptyD_s {o : Obj} (h : emptyD o = true) : ∃ n,o.data = .dict #[] n := by
 obtain ⟨c,d,x,s⟩ := o
 cases x with
 | dict es n => exact ⟨n,by rw [Array.isEmpty_iff.mp h]⟩
 | _ => exact nomatch h
theorem instB_s {p : Nat × Nat} (h : instB C p = true) : zdg C p.1 p.2 := by
 obtain ⟨a,e1,h⟩ := optB h
 obtain ⟨ca,e2,h⟩ := optB h
 obtain ⟨o,e3,h⟩ := optB h
 obtain ⟨dx,e4,h⟩ := optB h
 obtain ⟨o',e5,h⟩ := optB h
 have h := Bool.and_eq_true_iff.mp h
 have h1 := Bool.and_eq_true_iff.mp h.1
 have h2 := Bool.and_eq_true_iff.mp h1.2
 have h3 := Bool.and_eq_true_iff.mp h.2
 have h4 := Bool.and_eq_true_iff.mp h3.1
 have h5 := Bool.and_eq_true_iff.mp h3.2
 obtain ⟨n,e6⟩ := emptyD_s h5.1
 refine ⟨a,ca,dx,n,e1,e2,?_,?_⟩
 ·rw [e3,<- beq_iff_eq.mp h1.1,<- e4,<- plainO_s h2.1,<- Array.isEmpty_iff.mp h2.2]
 ·obtain ⟨c,d,x,s⟩ := o'
  cases beq_iff_eq.mp h4.1; cases Option.isNone_iff_eq_none.mp h4.2; cases e6; cases Array.isEmpty_iff.mp h5.2
  exact e5
noncomputable def adB (C : Cfg) : Bool := C.ad.all fun p => Option.casesOn (motive:=fun _ => Bool) (C.K.lookup p.2) false fun o => !(o.cls == .type "tuple")
noncomputable def lowB (C : Cfg) : Bool := (C.K.lookup 0).isSome && ((C.K.lookup 1).isSome && ((C.K.lookup 2).isSome && (C.K.lookup 3).isSome))
theorem inj_mem {l : List (Nat × Addr)} : (l.map (·.2)).Nodup -> ∀ {i j : Nat} {a : Addr},(i,a) ∈ l -> (j,a) ∈ l -> i = j := by
 induction l with
 | nil => exact fun _ _ _ _ h _ => absurd h List.not_mem_nil
 | cons p r ih =>
  intro hn i j a h1 h2
  have hn := List.nodup_cons.mp hn
  rcases List.mem_cons.mp h1 with h1 | h1 <;> rcases List.mem_cons.mp h2 with h2 | h2
  ·exact congrArg (·.1) (h1.trans h2.symm)
  ·exact absurd (List.mem_map.mpr ⟨(j,a),h2,show a = p.2 from congrArg (fun q : Nat × Addr => q.2) h1⟩) hn.1
  ·exact absurd (List.mem_map.mpr ⟨(i,a),h1,show a = p.2 from congrArg (fun q : Nat × Addr => q.2) h2⟩) hn.1
  ·exact ih hn.2 h1 h2
theorem cfg_of (h1 : adB C = true) (h2 : ndB (C.ad.map (·.2)) = true) (h3 : lowB C = true) : zdi C := by
 refine ⟨fun id a h => ?_,fun i j a hi hj => inj_mem (ndB_s h2) (zaj hi) (zaj hj),fun b hb => ?_⟩
 ·obtain ⟨o,e,h⟩ := optB (List.all_eq_true.mp h1 _ (zaj h))
  exact ⟨o,e,fun hc => by rw [hc] at h; exact absurd h (by decide +kernel)⟩
 ·have h3 := Bool.and_eq_true_iff.mp h3
  have h4 := Bool.and_eq_true_iff.mp h3.2
  have h5 := Bool.and_eq_true_iff.mp h4.2
  rcases b with _ | _ | _ | _ | b
  ·exact Option.isSome_iff_exists.mp h3.1
  ·exact Option.isSome_iff_exists.mp h4.1
  ·exact Option.isSome_iff_exists.mp h5.1
  ·exact Option.isSome_iff_exists.mp h5.2
  ·exact absurd hb (Nat.not_lt.mpr (Nat.le_add_left 4 b))
theorem tab_of {nms : List Str} (hc : C.P.fns.map (cmpl C gl) = C.P.fns.map fun f => some (f.np,f.ns,f.body)) (hf : C.P.fns.all (fnB C) = true) (hD : ∀ f ∈ C.P.fns,DflOk C f) (hg : gl.all (glB C) = true) (hi : C.P.insts.all (instB C) = true) (hk : C.P.cls.all (clB C nms) = true) (h5 : zdi C) (h6 : SrtOk C) : zaG C gl := by
 have cls : ∀ {c k},C.P.clsAt c = some k -> k.addr = c /\ clB C nms k = true := fun {c k} h => ⟨beq_iff_eq.mp (List.find?_some (p:=fun x : Cl => x.addr == c) h),List.all_eq_true.mp hk k (List.mem_of_find?_eq_some h)⟩
 refine ⟨fun x v h => glB_s (List.all_eq_true.mp hg (x,v) (zaj h)),fun a f h => ?_,fun id c h => ?_,fun c n v h => ?_,fun c n h => ?_,fun c k i h hi => ?_,h5,h6⟩
 ·have hm := List.mem_of_find?_eq_some h
  exact ⟨beq_iff_eq.mp (List.find?_some (p:=fun f : Fn => f.addr == a) h),fnB_s (List.all_eq_true.mp hf f hm) (List.map_inj_left.mp hc f hm) (hD f hm)⟩
 ·obtain ⟨p,hp,rfl⟩ := ms h
  rw [<- beq_iff_eq.mp (List.find?_some (p:=fun p : Nat × Nat => p.1 == id) hp)]
  exact instB_s (List.all_eq_true.mp hi p (List.mem_of_find?_eq_some hp))
 ·obtain ⟨k,hk,h⟩ := bs h
  obtain ⟨p,hp,rfl⟩ := ms h
  obtain ⟨e,hb⟩ := cls hk
  rw [<- e,<- beq_iff_eq.mp (List.find?_some (p:=fun p : Nat × Val => p.1 == n) hp)]
  exact nameB_s (fun _ _ => attrB_s) (List.all_eq_true.mp (Bool.and_eq_true_iff.mp hb).1 p (List.mem_of_find?_eq_some hp))
 ·unfold Prg.hasFld at h
  cases hk : C.P.clsAt c with
  | none => rw [hk] at h; exact nomatch h
  | some k =>
   rw [hk] at h
   obtain ⟨e,hb⟩ := cls hk
   rw [<- e]
   exact nameB_s (fun _ _ => fldB_s) (List.all_eq_true.mp (Bool.and_eq_true_iff.mp (Bool.and_eq_true_iff.mp hb).2).1 n (List.contains_iff_mem.mp h))
 ·obtain ⟨e,hb⟩ := cls h
  have := (Bool.and_eq_true_iff.mp (Bool.and_eq_true_iff.mp hb).2).2
  rw [hi] at this
  rw [<- e]
  exact initB_s this
end
end Mi
namespace Mi
structure W {α : Type} (o : Option (α × MH)) (Q : α -> MH -> Prop) : Prop where
 w : Option.casesOn (motive:=fun _ => Prop) o False fun p => Q p.1 p.2
structure Wo {α : Type} (o : Option α) (Q : α -> Prop) : Prop where
 w : Option.casesOn (motive:=fun _ => Prop) o False Q
section
variable {α β : Type} {o : Option (α × MH)} {Q : α -> MH -> Prop}
theorem W.get (h : W o Q) : ∃ a g,o = some (a,g) /\ Q a g := by
 cases o with
 | none => exact h.w.elim
 | some p => exact ⟨p.1,p.2,rfl,h.w⟩
theorem W.mono {Q' : α -> MH -> Prop} (h : W o Q) (i : ∀ a g,Q a g -> Q' a g) : W o Q' := by
 cases o with
 | none => exact ⟨h.w⟩
 | some p => exact ⟨i _ _ h.w⟩
theorem W.of {a : α} {g : MH} (e : o = some (a,g)) (q : Q a g) : W o Q := by subst e; exact ⟨q⟩
theorem zaJ {a : α} {g : MH} (q : Q a g) : W (some (a,g)) Q := ⟨q⟩
theorem zaf {f : α -> MH -> Option (β × MH)} {R : β -> MH -> Prop} (h : W o fun a g => W (f a g) R) : W (bnd o f) R := by
 cases o with
 | none => exact h.w.elim
 | some p => exact h.w
theorem wo_some {b : β} {P : β -> Prop} (q : P b) : Wo (some b) P := ⟨q⟩
theorem zcT {x : Option β} {f : β -> Option (α × MH)} (h : Wo x fun b => W (f b) Q) : W (x.bind f) Q := by
 cases x with
 | none => exact h.w.elim
 | some b => exact h.w
theorem w_map {x : Option β} {f : β -> α × MH} (h : Wo x fun b => Q (f b).1 (f b).2) : W (x.map f) Q := by
 cases x with
 | none => exact h.w.elim
 | some b => exact ⟨h.w⟩
theorem w_grd {b : Bool} (hb : b = true) (h : W o Q) : W (grd b o) Q := by subst hb; exact h
theorem w_alt {o' : Option (α × MH)} (h : W o Q) : W (alt o o') Q := by
 cases o with
 | none => exact h.w.elim
 | some p => exact ⟨h.w⟩
theorem Wo.mono {o : Option β} {P P' : β -> Prop} (h : Wo o P) (i : ∀ a,P a -> P' a) : Wo o P' := by
 cases o with
 | none => exact ⟨h.w⟩
 | some a => exact ⟨i a h.w⟩
theorem Wo.of {o : Option β} {P : β -> Prop} {a : β} (e : o = some a) (q : P a) : Wo o P := by subst e; exact ⟨q⟩
theorem zbl {p : Option (Val × MH)} {Q : Bool -> MH -> Prop} (h : W p fun v g => Wo (truthy g v) fun b => Q b g) : W (zak p) Q := zaf (h.mono fun v g h => w_map (f:=fun b => (b,g)) h)
end
noncomputable def WB (op : BOp) (x y : Val) (h : MH) (Q : Val -> MH -> Prop) : Prop := W (binop op x y h) Q
noncomputable def WC (op : COp) (x y : Val) (h : MH) (Q : Val -> MH -> Prop) : Prop := Wo (cmpop op x y h) fun r => Q (.bool r) h
noncomputable def WT (x : Val) (h : MH) (Q : Bool -> Prop) : Prop := Wo (truthy h x) Q
noncomputable def WI (o k : Val) (h : MH) (Q : Val -> MH -> Prop) : Prop := Wo (subscr h o k) fun v => Q v h
noncomputable def WA (P : Prg) (o : Val) (n : Nat) (h : MH) (Q : Val -> MH -> Prop) : Prop := Wo (getAttr P h o n) fun v => Q v h
noncomputable def WSl (o : Val) (k : Nat) (bs : List Val) (h : MH) (Q : Val -> MH -> Prop) : Prop := W (slice h o k bs) Q
noncomputable def WV (c : Cx) (f : Val) (as : List Val) (h : MH) (Q : Val -> MH -> Prop) : Prop := W (callV c f as h) Q
noncomputable def WM (c : Cx) (o : Val) (n : Nat) (as : List Val) (h0 h : MH) (Q : Val -> MH -> Prop) : Prop := W (callM c o n as h0 h) Q
noncomputable def WSt (c : Cx) (ts : List T1) (vs : List Val) (fr : Frame) (h : MH) (Q : Frame -> MH -> Prop) : Prop := W (zbr c ts vs fr h) Q
noncomputable def Br (r : Bool) (A B : Prop) : Prop := (r = true -> A) /\ (r = false -> B)
theorem br {r : Bool} {A B : Prop} (a : r = true -> A) (b : r = false -> B) : Br r A B := ⟨a,b⟩
theorem br_t {A B : Prop} (a : A) : Br true A B := ⟨fun _ => a,fun h => nomatch h⟩
theorem br_f {A B : Prop} (b : B) : Br false A B := ⟨fun h => (nomatch h : False).elim,fun _ => b⟩
theorem zan {r s : Bool} {A B : Prop} (e : r = s) (q : Br s A B) : Br r A B := e ▸ q
noncomputable abbrev Cxd (P : Prg) (d : Nat) : Cx := ⟨P,200000,zaU P 200000 d⟩
section
variable {c : Cx} {fr : Frame} {h : MH} {Q : Val -> MH -> Prop} {P : Prg} {d : Nat}
noncomputable def WE (c : Cx) (fr : Frame) (e : Ex) (h : MH) (Q : Val -> MH -> Prop) : Prop := W (eval c e fr h) Q
noncomputable def WEs (c : Cx) (fr : Frame) (es : List Ex) (h : MH) (Q : List Val -> MH -> Prop) : Prop := W (zaT c es fr h) Q
theorem we_var {x : Nat} {v : Val} (hx : fr[x]? = some (some v)) (q : Q v h) : WE c fr (.var x) h Q := by
 show W ((fr[x]?).bind fun o => o.map fun v => (v,h)) Q
 rw [hx]; exact ⟨q⟩
theorem we_lit {v : Val} (q : Q v h) : WE c fr (.lit v) h Q := zaJ q
theorem wes_nil {Q : List Val -> MH -> Prop} (q : Q [] h) : WEs c fr [] h Q := zaJ q
theorem wes_cons {Q : List Val -> MH -> Prop} {e : Ex} {r : List Ex} (q : WE c fr e h fun v h1 => WEs c fr r h1 fun vs h2 => Q (v :: vs) h2) : WEs c fr (e :: r) h Q := zaf (W.mono q fun v h1 q => zaf (W.mono q fun _ _ q => zaJ q))
theorem we_list {es : List Ex} (q : WEs c fr es h fun vs h1 => Q (.ref h1.length) (h1 ++ [.list vs])) : WE c fr (.list es) h Q := zaf (W.mono q fun _ _ q => zaJ q)
theorem we_tup {es : List Ex} (q : WEs c fr es h fun vs h1 => Q (.tup vs) h1) : WE c fr (.tup es) h Q := zaf (W.mono q fun _ _ q => zaJ q)
theorem we_dict {es : List Ex} (hl : Nat.ble es.length 30 = true) (q : WEs c fr es h fun vs h1 => Wo (dpairs vs []) fun ps => Q (.ref h1.length) (h1 ++ [.dict (some ps.length) ps])) : WE c fr (.dict es) h Q := zaf (W.mono q fun vs h1 q => zcT (Wo.mono q fun ps q => w_grd hl (zaJ q)))
theorem we_bin {op : BOp} {a b : Ex} (q : WE c fr a h fun x h1 => WE c fr b h1 fun y h2 => WB op x y h2 Q) : WE c fr (.bin op a b) h Q := zaf (W.mono q fun x h1 q => zaf q)
theorem we_not {a : Ex} (q : WE c fr a h fun x h1 => WT x h1 fun b => Q (.bool (!b)) h1) : WE c fr (.not a) h Q := zaf (zbl (W.mono q fun _ _ q => Wo.mono q fun _ q => zaJ q))
theorem we_cmp {op : COp} {a b : Ex} (q : WE c fr a h fun x h1 => WE c fr b h1 fun y h2 => WC op x y h2 Q) : WE c fr (.cmp op a b) h Q := zaf (W.mono q fun x h1 q => zaf (W.mono q fun y h2 q => w_map (f:=fun r => (Val.bool r,h2)) q))
theorem br_use {α : Type} {r : Bool} {a b : Option (α × MH)} {Q : α -> MH -> Prop} (q : Br r (W a Q) (W b Q)) : W (bif r then a else b) Q := by
 cases r with
 | true => exact q.1 rfl
 | false => exact q.2 rfl
theorem we_ite {t a b : Ex} (q : WE c fr t h fun x h1 => WT x h1 fun r => Br r (WE c fr a h1 Q) (WE c fr b h1 Q)) : WE c fr (.ite t a b) h Q := zaf (zbl (W.mono q fun x h1 q => Wo.mono q fun r q => br_use q))
theorem we_attr {e : Ex} {n : Nat} (q : WE c fr e h fun o h1 => WA c.P o n h1 Q) : WE c fr (.attr e n) h Q := zaf (W.mono q fun o h1 q => w_map (f:=fun v => (v,h1)) q)
theorem we_sub {e i : Ex} (q : WE c fr e h fun o h1 => WE c fr i h1 fun k h2 => WI o k h2 Q) : WE c fr (.sub e i) h Q := zaf (W.mono q fun o h1 q => zaf (W.mono q fun k h2 q => w_map (f:=fun v => (v,h2)) q))
theorem we_slice {e : Ex} {k : Nat} {bs : List Ex} (q : WE c fr e h fun o h1 => WEs c fr bs h1 fun vs h2 => WSl o k vs h2 Q) : WE c fr (.slice e k bs) h Q := zaf (W.mono q fun o h1 q => zaf q)
theorem we_call {f : Ex} {as : List Ex} (q : WE c fr f h fun g h1 => WEs c fr as h1 fun vs h2 => WV c g vs h2 Q) : WE c fr (.call f as) h Q := zaf (W.mono q fun o h1 q => zaf q)
theorem we_meth {o : Ex} {n : Nat} {as : List Ex} (q : WE c fr o h fun g h1 => WEs c fr as h1 fun vs h2 => WM c g n vs h1 h2 Q) : WE c fr (.meth o n as) h Q := zaf (W.mono q fun o h1 q => zaf q)
theorem we_bop1 {st : Bool} {e : Ex} (q : WE c fr e h Q) : WE c fr (.bop st [e]) h Q := zaf (f:=fun v h1 => some (v,h1)) (W.mono q fun _ _ q => zaJ q)
theorem we_bop {st : Bool} {e f : Ex} {r : List Ex} (q : WE c fr e h fun v h1 => WT v h1 fun b => Br (b == st) (Q v h1) (WE c fr (.bop st (f :: r)) h1 Q)) : WE c fr (.bop st (e :: f :: r)) h Q := zaf (f:=fun v h1 => (truthy h1 v).bind fun b => bif b == st then some (v,h1) else evalB c st (f :: r) fr h1) (W.mono q fun v h1 q => zcT (Wo.mono q fun b q => br_use ⟨fun h => zaJ (q.1 h),q.2⟩))
variable {R : Fl -> Frame -> MH -> Prop}
noncomputable def WS (c : Cx) (s : Sm) (fr : Frame) (h : MH) (R : Fl -> Frame -> MH -> Prop) : Prop := W (exec c s fr h) fun p h => R p.1 p.2 h
noncomputable def WSs (c : Cx) (s : List Sm) (fr : Frame) (h : MH) (R : Fl -> Frame -> MH -> Prop) : Prop := W (execs c s fr h) fun p h => R p.1 p.2 h
theorem wss_nil (q : R .nx fr h) : WSs c [] fr h R := zaJ (a:=(Fl.nx,fr)) q
noncomputable def Beh (c : Cx) (r : List Sm) (R : Fl -> Frame -> MH -> Prop) (fl : Fl) (fr : Frame) (h : MH) : Prop := Fl.casesOn (motive:=fun _ => Prop) fl (WSs c r fr h R) (R .bk fr h) (R .ct fr h) fun v => R (.rt v) fr h
theorem zam {s : Sm} {r : List Sm} (q : WS c s fr h (Beh c r R)) : WSs c (s :: r) fr h R := by
 show W (bnd (exec c s fr h) fun (p : Fl × Frame) h1 => Fl.casesOn (motive:=fun _ => SR) p.1 (execs c r p.2 h1) (some (p,h1)) (some (p,h1)) (fun _ => some (p,h1))) fun p h => R p.1 p.2 h
 exact zaf (W.mono q fun p h1 q => by
  obtain ⟨fl,f2⟩ := p
  cases fl with
  | nx => exact q
  | bk => exact ⟨q⟩
  | ct => exact ⟨q⟩
  | rt v => exact ⟨q⟩)
theorem ws_expr {e : Ex} (q : WE c fr e h fun _ h1 => R .nx fr h1) : WS c (.expr e) fr h R := by
 show W (bnd (eval c e fr h) fun _ h1 => some ((Fl.nx,fr),h1)) fun p h => R p.1 p.2 h
 exact zaf (W.mono q fun _ _ q => ⟨q⟩)
theorem zcF {x : Nat} {e : Ex} (q : WE c fr e h fun v h1 => R .nx (fr.set x (some v)) h1) : WS c (.asg (.nm x) e) fr h R := by
 show W (bnd (eval c e fr h) fun v h1 => some ((Fl.nx,fr.set x (some v)),h1)) fun p h => R p.1 p.2 h
 exact zaf (W.mono q fun _ _ q => ⟨q⟩)
theorem ws_asgAt {o e : Ex} {n : Nat} (q : WE c fr e h fun v h1 => WE c fr o h1 fun ov h2 => Wo (setAttr c.P h2 ov n v) fun h3 => R .nx fr h3) : WS c (.asg (.at o n) e) fr h R := by
 show W (bnd (eval c e fr h) fun v h1 => bnd (bnd (eval c o fr h1) fun ov h2 => (setAttr c.P h2 ov n v).map fun h3 => (fr,h3)) fun fr' h2 => some ((Fl.nx,fr'),h2)) fun p h => R p.1 p.2 h
 exact zaf (W.mono q fun v h1 q => zaf (zaf (W.mono q fun ov h2 q => w_map (f:=fun h3 => (fr,h3)) (Q:=fun fr' h2 => W (some ((Fl.nx,fr'),h2)) fun p h => R p.1 p.2 h) (Wo.mono q fun _ q => ⟨q⟩))))
theorem ws_asgSb {o i e : Ex} (q : WE c fr e h fun v h1 => WE c fr o h1 fun ov h2 => WE c fr i h2 fun iv h3 => Wo (zcm h3 ov iv v) fun h4 => R .nx fr h4) : WS c (.asg (.sb o i) e) fr h R := by
 show W (bnd (eval c e fr h) fun v h1 => bnd (bnd (eval c o fr h1) fun ov h2 => bnd (eval c i fr h2) fun iv h3 => (zcm h3 ov iv v).map fun h4 => (fr,h4)) fun fr' h2 => some ((Fl.nx,fr'),h2)) fun p h => R p.1 p.2 h
 exact zaf (W.mono q fun v h1 q => zaf (zaf (W.mono q fun ov h2 q => zaf (W.mono q fun iv h3 q => w_map (f:=fun h4 => (fr,h4)) (Q:=fun fr' h2 => W (some ((Fl.nx,fr'),h2)) fun p h => R p.1 p.2 h) (Wo.mono q fun _ q => ⟨q⟩)))))
theorem ws_asgs {ts : List T1} {e : Ex} (q : WE c fr e h fun v h1 => Wo (items h1 v) fun vs => WSt c ts vs fr h1 fun f2 h2 => R .nx f2 h2) : WS c (.asgs ts e) fr h R := by
 show W (bnd (eval c e fr h) fun v h1 => (items h1 v).bind fun vs => bnd (zbr c ts vs fr h1) fun fr' h2 => some ((Fl.nx,fr'),h2)) fun p h => R p.1 p.2 h
 exact zaf (W.mono q fun v h1 q => zcT (Wo.mono q fun vs q => zaf (W.mono q fun _ _ q => ⟨q⟩)))
theorem ws_ret {e : Ex} (q : WE c fr e h fun v h1 => R (.rt v) fr h1) : WS c (.ret e) fr h R := by
 show W (bnd (eval c e fr h) fun v h1 => some ((Fl.rt v,fr),h1)) fun p h => R p.1 p.2 h
 exact zaf (W.mono q fun _ _ q => ⟨q⟩)
theorem ws_ite {t : Ex} {a b : List Sm} (q : WE c fr t h fun x h1 => WT x h1 fun r => Br r (WSs c a fr h1 R) (WSs c b fr h1 R)) : WS c (.ite t a b) fr h R := by
 show W (bnd (zak (eval c t fr h)) fun r h1 => bif r then execs c a fr h1 else execs c b fr h1) fun p h => R p.1 p.2 h
 exact zaf (zbl (W.mono q fun x h1 q => Wo.mono q fun r q => br_use q))
theorem ws_brk (q : R .bk fr h) : WS c .brk fr h R := zaJ (a:=(Fl.bk,fr)) q
noncomputable def WF (P : Prg) (d f : Nat) (as : List Val) (h : MH) (Q : Val -> MH -> Prop) : Prop := W (zaU P 200000 d f as h) Q
noncomputable def Fin (Q : Val -> MH -> Prop) (fl : Fl) (_ : Frame) (h : MH) : Prop := Fl.casesOn (motive:=fun _ => Prop) fl (Q .none h) False False fun v => Q v h
theorem wf_body {f : Nat} {fn : Fn} {as vs : List Val} (hf : P.fnAt f = some fn) (ha : zbk fn as = some vs) (q : WSs (Cxd P d) fn.body (za6 fn vs) h (Fin Q)) : WF P (d + 1) f as h Q := by
 show W ((P.fnAt f).bind fun f => (zbk f as).bind fun vs => bnd (execs ⟨P,200000,zaU P 200000 d⟩ f.body (za6 f vs) h) finF) Q
 rw [hf]
 show W ((zbk fn as).bind fun vs => bnd (execs ⟨P,200000,zaU P 200000 d⟩ fn.body (za6 fn vs) h) finF) Q
 rw [ha]
 exact zaf (W.mono q fun p h1 q => by
  obtain ⟨fl,f2⟩ := p
  cases fl with
  | nx => exact ⟨q⟩
  | bk => exact q.elim
  | ct => exact q.elim
  | rt v => exact ⟨q⟩)
theorem wf_at {K f : Nat} {fn : Fn} {as vs : List Val} (hd : K + 1 <= d) (hf : P.fnAt f = some fn) (ha : zbk fn as = some vs) (q : ∀ d',K <= d' -> WSs (Cxd P d') fn.body (za6 fn vs) h (Fin Q)) : WF P d f as h Q := by
 obtain ⟨d',rfl⟩ := Nat.exists_eq_add_of_le' hd
 exact wf_body (d:=d' + K) hf ha (q _ (Nat.le_add_left _ _))
end
end Mi
namespace Mi
theorem zaa {h t : MH} {a : Nat} {o : MObj} (e : h[a]? = some o) : (h ++ t)[a]? = some o := by
 rw [List.getElem?_append_left (List.getElem?_eq_some_iff.mp e).1]; exact e
theorem zac {h t : MH} {o : MObj} : (h ++ o :: t)[h.length]? = some o := by
 rw [List.getElem?_append_right (Nat.le_refl _),Nat.sub_self]; rfl
theorem get_ne {h : MH} {a b : Nat} {o x : MObj} (ne : b ≠ a) (e : h[a]? = some o) : (h.set b x)[a]? = some o := by rw [List.getElem?_set_ne ne]; exact e
theorem get_lt {h : MH} {a : Nat} {o : MObj} (e : h[a]? = some o) : a < h.length := (List.getElem?_eq_some_iff.mp e).1
theorem get_self {h : MH} {a : Nat} {o x : MObj} (e : h[a]? = some o) : (h.set a x)[a]? = some x := List.getElem?_set_self (get_lt e)
theorem za2 {h t : MH} {o x : MObj} : (h ++ o :: t).set h.length x = h ++ x :: t := by
 rw [List.set_append_right _ _ (Nat.le_refl _),Nat.sub_self]; rfl
theorem zaW {h : MH} {a : Nat} {vs : List Val} (e : h[a]? = some (.list vs)) : zas h (.ref a) = some vs := by
 show (h[a]?).bind MObj.list? = _
 rw [e]; rfl
theorem dictAt_s {h : MH} {a : Nat} {ep : Option Nat} {es : List (Val × Val)} (e : h[a]? = some (.dict ep es)) : zbv h (.ref a) = some (ep,es) := by
 show (h[a]?).bind MObj.dict? = _
 rw [e]; rfl
theorem dictAt_l {h : MH} {a : Nat} {vs : List Val} (e : h[a]? = some (.list vs)) : zbv h (.ref a) = none := by
 show (h[a]?).bind MObj.dict? = _
 rw [e]; rfl
theorem instAt_s {h : MH} {a k : Nat} {fs : List (Nat × Val)} (e : h[a]? = some (.inst k fs)) : instAt h (.ref a) = some (k,fs) := by
 show (h[a]?).bind MObj.inst? = _
 rw [e]; rfl
section
variable {c : Cx} {fr : Frame} {h : MH} {Q : Val -> MH -> Prop} {P : Prg} {d : Nat}
theorem wb_add {a b : Int} (q : Q (.int (a + b)) h) : WB .add (.int a) (.int b) h Q := ⟨q⟩
theorem wb_sub {a b : Int} (q : Q (.int (a - b)) h) : WB .sub (.int a) (.int b) h Q := ⟨q⟩
theorem zax {a b : List Nat} (hl : a.length + b.length <= lim) (q : Q (.str (a ++ b)) h) : WB .add (.str a) (.str b) h Q := by
 show W (alt (grd (Nat.ble (a.length + b.length) lim) (some (Val.str (a ++ b),h))) _) Q
 rw [Nat.ble_eq.mpr hl]; exact ⟨q⟩
theorem w_mapint {o : Option Int} {k : Int} (e : o = some k) (q : Q (.int k) h) {o' : Option (Val × MH)} : W (alt (o.map fun k => (Val.int k,h)) o') Q := by subst e; exact ⟨q⟩
theorem wb_mod {a b : Int} (hb : b ≠ 0) (q : Q (.int (Int.fmod a b)) h) : WB .mod (.int a) (.int b) h Q := by
 refine w_mapint (o:=arith .mod a b) ?_ q
 show grd _ _ = _
 rw [bne_iff_ne.mpr hb]; rfl
theorem wc_of {op : COp} {a b : Val} {r : Bool} (e : cmpop op a b h = some r) (q : Q (.bool r) h) : WC op a b h Q := Wo.of e q
theorem wc_lt {a b : Int} (q : Q (.bool (decide (a < b))) h) : WC .lt (.int a) (.int b) h Q := ⟨q⟩
theorem wc_gt {a b : Int} (q : Q (.bool (decide (b < a))) h) : WC .gt (.int a) (.int b) h Q := ⟨q⟩
theorem wc_ge {a b : Int} (q : Q (.bool (decide (b <= a))) h) : WC .ge (.int a) (.int b) h Q := ⟨q⟩
theorem wc_eq {a b : Val} {r : Bool} (e : veq h a b = some r) (q : Q (.bool r) h) : WC .eq a b h Q := wc_of e q
theorem wc_ne {a b : Val} {r : Bool} (e : veq h a b = some r) (q : Q (.bool (!r)) h) : WC .ne a b h Q := wc_of (r:=!r) (by show (veq h a b).map _ = _; rw [e]; rfl) q
theorem wc_neT {a b : Val} (e : veq h a b = some true) (q : Q (.bool false) h) : WC .ne a b h Q := wc_ne e q
theorem wc_neF {a b : Val} (e : veq h a b = some false) (q : Q (.bool true) h) : WC .ne a b h Q := wc_ne e q
theorem wc_is {a b : Val} {r : Bool} (e : isV a b = some r) (q : Q (.bool r) h) : WC .is a b h Q := wc_of e q
theorem wc_isnot {a b : Val} {r : Bool} (e : isV a b = some r) (q : Q (.bool (!r)) h) : WC .isnot a b h Q := wc_of (r:=!r) (by show (isV a b).map _ = _; rw [e]; rfl) q
theorem wc_notin {a b : Val} {r : Bool} (e : isIn h a b = some r) (q : Q (.bool (!r)) h) : WC .notin a b h Q := wc_of (r:=!r) (by show (isIn h a b).map _ = _; rw [e]; rfl) q
theorem wt_bool {b : Bool} {Q : Bool -> Prop} (q : Q b) : WT (.bool b) h Q := ⟨q⟩
theorem idx_ok {n i : Nat} (hi : i < n) : idx n (.int i) = some i := by
 show grd _ _ = _
 rw [decide_eq_true (show (0 : Int) <= (i : Int) by omega),decide_eq_true (show (i : Int) < (n : Int) by omega),Int.toNat_natCast]; rfl
theorem at_lt {α : Type} {vs : List α} {i : Nat} {v : α} (hv : vs[i]? = some v) : i < vs.length := (List.getElem?_eq_some_iff.mp hv).1
theorem zcG {α : Type} {a b : Option α} {v : α} {Q : α -> Prop} (e : a = some v) (q : Q v) : Wo (alt a b) Q := by subst e; exact ⟨q⟩
theorem zaw {a i : Nat} {vs : List Val} {v : Val} (ha : h[a]? = some (.list vs)) (hv : vs[i]? = some v) (q : Q v h) : WI (.ref a) (.int i) h Q := by
 refine zcG (a:=(zas h (.ref a)).bind fun vs => (idx vs.length (.int i)).bind fun k => vs[k]?) ?_ q
 rw [zaW ha]
 show (idx vs.length (.int i)).bind _ = _
 rw [idx_ok (at_lt hv)]; exact hv
theorem wi_at {i : Int} {vs : List Val} {v : Val} (hv : ((idx vs.length (.int i)).bind fun k => vs[k]?) = some v) (q : Q v h) : WI (.tup vs) (.int i) h Q := zcG (a:=(idx vs.length (.int i)).bind fun k => vs[k]?) hv q
theorem wi_fl {i : Nat} {vs : List Val} {v : Val} (hv : vs[i]? = some v) (q : Q v h) : WI (.fl vs) (.int i) h Q := by
 refine zcG (a:=(idx vs.length (.int i)).bind fun k => vs[k]?) ?_ q
 rw [idx_ok (at_lt hv)]; exact hv
theorem zbW {i x : Nat} {s : List Nat} (hv : s[i]? = some x) (q : Q (.str [x]) h) : WI (.str s) (.int i) h Q := by
 refine zcG (a:=(idx s.length (.int i)).bind fun k => s[k]?.map fun c => Val.str [c]) ?_ q
 rw [idx_ok (at_lt hv)]
 show (s[i]?).map _ = _
 rw [hv]; rfl
theorem wi_listB {a : Nat} {b : Bool} {vs : List Val} {v : Val} (ha : h[a]? = some (.list vs)) (hv : vs[cond b 1 0]? = some v) (q : Q v h) : WI (.ref a) (.bool b) h Q := by
 show Wo (alt ((zas h (.ref a)).bind fun _ => none) (alt ((zbv h (.ref a)).bind fun d => grd (zat d.2 (.bool b)) (dget d.2 (.bool b))) ((zas h (.ref a)).bind fun vs => vs[cond b 1 0]?))) _
 rw [zaW ha,dictAt_l ha]
 show Wo (vs[cond b 1 0]?) _
 rw [hv]; exact ⟨q⟩
theorem zap {a k n : Nat} {fs : List (Nat × Val)} {v : Val} (ha : h[a]? = some (.inst k fs)) (hv : fget fs n = some v) (hf : P.hasFld k n = true) (q : Q v h) : WA P (.ref a) n h Q := by
 refine zcG (a:=(instAt h (.ref a)).bind fun q => Option.casesOn (motive:=fun _ => Option Val) (fget q.2 n) (attrC P q.1 n) fun v => grd (P.hasFld q.1 n) (some v)) ?_ q
 rw [instAt_s ha]
 show Option.casesOn (motive:=fun _ => Option Val) (fget fs n) (attrC P k n) (fun v => grd (P.hasFld k n) (some v)) = _
 rw [hv]
 show grd _ _ = _
 rw [hf]; rfl
theorem wa_top {a n : Nat} {v : Val} (e : ((P.instAt a).bind fun c => attrC P c n) = some v) (q : Q v h) : WA P (.top a) n h Q := by
 show Wo ((P.instAt a).bind fun c => attrC P c n) _
 rw [e]; exact ⟨q⟩
theorem zbG {a k n : Nat} {fs : List (Nat × Val)} {v : Val} {Q : MH -> Prop} (ha : h[a]? = some (.inst k fs)) (hf : P.hasFld k n = true) (hl : fs.length < 400) (q : Q (h.set a (.inst k (fput fs n v)))) : Wo (setAttr P h (.ref a) n v) Q := by
 show Wo ((h[a]?.bind MObj.inst?).bind fun q => grd (P.hasFld q.1 n && Nat.ble (q.2.length + 1) 400) (some (h.set a (.inst q.1 (fput q.2 n v))))) Q
 rw [ha]
 show Wo (grd (P.hasFld k n && Nat.ble (fs.length + 1) 400) (some (h.set a (.inst k (fput fs n v))))) Q
 rw [hf,Nat.ble_eq.mpr hl]; exact ⟨q⟩
theorem setSub_l {a i : Nat} {vs : List Val} {v : Val} {Q : MH -> Prop} (ha : h[a]? = some (.list vs)) (hi : i < vs.length) (q : Q (h.set a (.list (vs.set i v)))) : Wo (zcm h (.ref a) (.int i) v) Q := by
 refine zcG (a:=(h[a]?.bind MObj.list?).bind fun vs => (idx vs.length (.int i)).map fun k => h.set a (.list (vs.set k v))) ?_ q
 rw [ha]
 show (idx vs.length (.int i)).map _ = _
 rw [idx_ok hi]; rfl
theorem setSub_d {a : Nat} {ep : Option Nat} {es : List (Val × Val)} {k v : Val} {Q : MH -> Prop} (ha : h[a]? = some (.dict ep es)) (hf : zat es k = true) (hl : es.length < lim) (q : Q (h.set a (.dict (bif (dget es k).isSome then ep else ep.map (· + 1)) (dput es k v)))) : Wo (zcm h (.ref a) k v) Q := by
 show Wo (alt ((h[a]?.bind MObj.list?).bind _) ((h[a]?.bind MObj.dict?).bind fun d => grd (zat d.2 k && Nat.ble (d.2.length + 1) lim) (some (h.set a (.dict (bif (dget d.2 k).isSome then d.1 else d.1.map (· + 1)) (dput d.2 k v)))))) Q
 rw [ha]
 show Wo (grd (zat es k && Nat.ble (es.length + 1) lim) (some (h.set a (.dict (bif (dget es k).isSome then ep else ep.map (· + 1)) (dput es k v))))) Q
 rw [hf,Nat.ble_eq.mpr hl]; exact ⟨q⟩
theorem zai {a : Nat} {as : List Val} (hc : P.clsAt a = none) (q : WF P d a as h Q) : WV (Cxd P d) (.top a) as h Q := by
 have q : W (zaU P 200000 d a as h) Q := q
 show W (alt (Option.casesOn (motive:=fun _ => Option (Val × MH)) (P.clsAt a) (zaU P 200000 d a as h) fun k => newV (Cxd P d) a k as h) _) Q
 rw [hc]; exact w_alt q
theorem wv_new {a i : Nat} {k : Cl} {as : List Val} (hc : P.clsAt a = some k) (hi : k.init = some i) (q : WF P d i (.ref h.length :: as) (h ++ [.inst a []]) fun v h' => v = .none /\ Q (.ref h.length) h') : WV (Cxd P d) (.top a) as h Q := by
 show W (alt (Option.casesOn (motive:=fun _ => Option (Val × MH)) (P.clsAt a) (zaU P 200000 d a as h) fun k => newV (Cxd P d) a k as h) _) Q
 rw [hc]
 refine w_alt ?_
 show W (k.init.bind fun i => bnd (zaU P 200000 d i (.ref h.length :: as) (h ++ [.inst a []])) fun r h' => grd r.isNone (some (.ref h.length,h'))) Q
 rw [hi]
 exact zaf (f:=fun r h' => grd r.isNone (some (Val.ref h.length,h'))) (R:=Q) (W.mono q fun v h' q => by rw [q.1]; exact ⟨q.2⟩)
theorem wv_bi {n : Nat} {as : List Val} {v : Val} {h' : MH} (e : callBi n as h = some (v,h')) (q : Q v h') : WV c (.bi n) as h Q := by
 show W (alt (callBi n as h) none) Q
 rw [e]; exact ⟨q⟩
theorem wv_ty {n : Nat} {as : List Val} {v : Val} {h' : MH} (e : callTy n as h = some (v,h')) (q : Q v h') : WV c (.ty n) as h Q := by
 show W (callTy n as h) Q
 rw [e]; exact ⟨q⟩
theorem wv_len {v : Val} {n : Nat} (e : lenV h v = some n) (q : Q (.int n) h) : WV c (.bi nLen) [v] h Q := by
 refine wv_bi (v:=.int n) (h' := h) ?_ q
 show alt ((lenV h v).map fun (k : Nat) => (Val.int (k : Int),h)) _ = _
 rw [e]; rfl
theorem wv_range {k : Int} (q : Q (.rng k) h) : WV c (.ty nRange) [.int k] h Q := ⟨q⟩
theorem wv_list {a : Nat} {vs : List Val} (ha : h[a]? = some (.list vs)) (q : Q (.ref h.length) (h ++ [.list vs])) : WV c (.ty nList) [.ref a] h Q := by
 refine wv_ty (v:=.ref h.length) (h' := h ++ [.list vs]) ?_ q
 show alt (tyList [.ref a] h) _ = _
 show alt ((zas h (.ref a)).bind fun vs => zbd h (.list vs)) _ = _
 rw [zaW ha]; rfl
theorem wv_min {a b : Int} (q : Q (.int (if b < a then b else a)) h) : WV c (.bi nMin) [.int a,.int b] h Q := ⟨q⟩
theorem wv_type {v : Val} {n : Nat} (e : typeOf h v = some n) (q : Q (.ty n) h) : WV c (.ty nType) [v] h Q := by
 refine wv_ty (v:=.ty n) (h' := h) ?_ q
 show alt ((typeOf h v).map fun k => (Val.ty k,h)) _ = _
 rw [e]; rfl
theorem lenV_l {a : Nat} {vs : List Val} (ha : h[a]? = some (.list vs)) : lenV h (.ref a) = some vs.length := by
 show alt ((zas h (.ref a)).map (·.length)) _ = _
 rw [zaW ha]; rfl
theorem zbD {o : Val} {n f : Nat} {self as : List Val} {h0 : MH} (hg : zbc P h0 o n = some (f,self)) (q : WF P d f (self ++ as) h Q) : WM (Cxd P d) o n as h0 h Q := by
 have q : W (zaU P 200000 d f (self ++ as) h) Q := q
 show W (Option.casesOn (motive:=fun _ => Option (Val × MH)) (zbc P h0 o n) (bmeth o n as h0 h) fun p => zaU P 200000 d p.1 (p.2 ++ as) h) Q
 rw [hg]; exact q
theorem zcq {a k n f : Nat} {fs : List (Nat × Val)} {h0 : MH} (ha : h0[a]? = some (.inst k fs)) (hn : fget fs n = none) (hm : methC P k n = some f) : zbc P h0 (.ref a) n = some (f,[.ref a]) := by
 show ((instAt h0 (.ref a)).bind fun q => grd (fget q.2 n).isNone ((methC P q.1 n).map fun f => (f,[Val.ref a]))) = _
 rw [instAt_s ha]
 show grd (fget fs n).isNone ((methC P k n).map fun f => (f,[Val.ref a])) = _
 rw [hn,hm]; rfl
theorem wm_bi {a n : Nat} {as : List Val} {h0 : MH} (hi : instAt h0 (.ref a) = none) (q : W (bmeth (.ref a) n as h0 h) Q) : WM c (.ref a) n as h0 h Q := by
 show W (Option.casesOn (motive:=fun _ => Option (Val × MH)) ((instAt h0 (.ref a)).bind _) (bmeth (.ref a) n as h0 h) fun (p : Nat × List Val) => c.call p.1 (p.2 ++ as) h) Q
 rw [hi]; exact q
theorem instAt_l {a : Nat} {vs : List Val} (e : h[a]? = some (.list vs)) : instAt h (.ref a) = none := by
 show (h[a]?).bind MObj.inst? = _
 rw [e]; rfl
theorem instAt_d {a : Nat} {ep : Option Nat} {es : List (Val × Val)} (e : h[a]? = some (.dict ep es)) : instAt h (.ref a) = none := by
 show (h[a]?).bind MObj.inst? = _
 rw [e]; rfl
theorem bm_list {a n : Nat} {as us vs : List Val} {h0 : MH} (h0a : h0[a]? = some (.list us)) (ha : h[a]? = some (.list vs)) (q : W (zb9 a vs n as h) Q) : WM c (.ref a) n as h0 h Q := by
 refine wm_bi (instAt_l h0a) ?_
 show W (alt ((h0[a]?.bind MObj.list?).bind fun _ => (h[a]?.bind MObj.list?).bind fun vs => zb9 a vs n as h) _) Q
 rw [h0a,ha]
 exact w_alt q
theorem zbE {a : Nat} {vs us : List Val} {v : Val} {h0 : MH} (h0a : h0[a]? = some (.list us)) (ha : h[a]? = some (.list vs)) (hl : vs.length < lim) (q : Q .none (h.set a (.list (vs ++ [v])))) : WM c (.ref a) nAppend [v] h0 h Q :=
 bm_list h0a ha (w_alt (w_grd (o:=some (Val.none,h.set a (.list (vs ++ [v])))) (Nat.ble_eq.mpr hl) (zaJ q)))
theorem bm_dict {a n : Nat} {as : List Val} {ep ep0 : Option Nat} {es es0 : List (Val × Val)} {h0 : MH} (h0a : h0[a]? = some (.dict ep0 es0)) (ha : h[a]? = some (.dict ep es)) (q : W (zca es n as h) Q) : WM c (.ref a) n as h0 h Q := by
 refine wm_bi (instAt_d h0a) ?_
 show W (alt ((h0[a]?.bind MObj.list?).bind _) ((h0[a]?.bind MObj.dict?).bind fun _ => (h[a]?.bind MObj.dict?).bind fun d => zca d.2 n as h)) Q
 rw [h0a,ha]; exact q
theorem wm_get {a : Nat} {ep ep0 : Option Nat} {es es0 : List (Val × Val)} {k e : Val} {h0 : MH} (h0a : h0[a]? = some (.dict ep0 es0)) (ha : h[a]? = some (.dict ep es)) (hf : zat es k = true) (q : Q ((dget es k).getD e) h) : WM c (.ref a) nGet [k,e] h0 h Q :=
 bm_dict h0a ha (w_grd (o:=some ((dget es k).getD e,h)) hf (zaJ q))
theorem wst_nil {Q : Frame -> MH -> Prop} (q : Q fr h) : WSt c [] [] fr h Q := ⟨q⟩
theorem wst_nm {x : Nat} {ts : List T1} {v : Val} {vs : List Val} {Q : Frame -> MH -> Prop} (q : WSt c ts vs (fr.set x (some v)) h Q) : WSt c (.nm x :: ts) (v :: vs) fr h Q := q
theorem items_t {vs : List Val} {Q : List Val -> Prop} (q : Q vs) : Wo (items h (.tup vs)) Q := ⟨q⟩
end
end Mi
namespace Mi
noncomputable def Turn (I : Frame -> MH -> Prop) (R : Fl -> Frame -> MH -> Prop) (fl : Fl) (fr : Frame) (h : MH) : Prop := Fl.casesOn (motive:=fun _ => Prop) fl (I fr h) (R .nx fr h) (I fr h) fun v => R (.rt v) fr h
section
variable {c : Cx} {fr : Frame} {h : MH} {Q : Val -> MH -> Prop} {R : Fl -> Frame -> MH -> Prop}
theorem loopF_w {next : Nat -> MH -> Option (Option Val)} {bd : Frame -> Val -> Option Frame} {b : Frame -> MH -> SR} (n : Nat) (I : Nat -> Frame -> MH -> Prop)
  (step : ∀ i,i < n -> ∀ fr h,I i fr h -> Wo (next i h) fun ov => Wo ov fun v => Wo (bd fr v) fun fr1 => W (b fr1 h) fun p h' => Turn (I (i + 1)) R p.1 p.2 h')
  (stop : ∀ fr h,I n fr h -> Wo (next n h) fun ov => ov = none /\ R .nx fr h) : ∀ (m i fu : Nat),i + m = n -> m < fu -> ∀ fr h,I i fr h -> W (loopF next bd b fu i fr h) fun p h => R p.1 p.2 h := by
 intro m
 induction m with
 | zero =>
  intro i fu hi hf fr h I0
  obtain ⟨fu,rfl⟩ := Nat.exists_eq_add_of_le' hf
  cases hi
  have q : Wo (next i h) fun ov => ov = none /\ R .nx fr h := stop fr h I0
  show W ((next i h).bind _) _
  exact zcT (q.mono fun ov q => by obtain ⟨rfl,q⟩ := q; exact ⟨q⟩)
 | succ m ih =>
  intro i fu hi hf fr h I0
  obtain ⟨fu,rfl⟩ := Nat.exists_eq_add_of_le' (Nat.lt_of_le_of_lt (Nat.zero_le _) hf)
  have q := step i (by omega) fr h I0
  show W ((next i h).bind _) _
  refine zcT (q.mono fun ov q => ?_)
  cases ov with
  | none => exact q.w.elim
  | some v =>
   show W ((bd fr v).bind _) _
   refine zcT (Wo.mono q.w fun fr1 q => zaf (W.mono q fun p h2 q => ?_))
   obtain ⟨fl,f2⟩ := p
   cases fl with
   | nx => exact ih (i + 1) _ (by omega) (by omega) f2 h2 q
   | ct => exact ih (i + 1) _ (by omega) (by omega) f2 h2 q
   | bk => exact ⟨q⟩
   | rt v => exact ⟨q⟩
theorem ws_for {tg : List Nat} {many : Bool} {e : Ex} {b : List Sm}
  (q : WE c fr e h fun v h1 => ∃ k,∃ xs : List Val,za5 h1 v = some k /\ xs.length < c.fuel /\ ∃ I : Nat -> Frame -> MH -> Prop,I 0 fr h1 /\ (∀ i fr h,I i fr h -> zah h i k = some xs[i]?) /\
   (∀ i x,xs[i]? = some x -> ∀ fr h,I i fr h -> Wo (zbf fr tg many x) fun fr1 => WSs c b fr1 h (Turn (I (i + 1)) R)) /\ ∀ fr h,I xs.length fr h -> R .nx fr h) : WS c (.fo tg many e b) fr h R := by
 show W (bnd (eval c e fr h) fun v h1 => (za5 h1 v).bind fun k => loopF (fun i h => zah h i k) (fun fr v => zbf fr tg many v) (fun fr h => execs c b fr h) c.fuel 0 fr h1) fun p h => R p.1 p.2 h
 refine zaf (W.mono q fun v h1 q => ?_)
 obtain ⟨k,xs,e1,hn,I,I0,nx,step,stop⟩ := q
 rw [e1]
 show W (loopF (fun i h => zah h i k) (fun fr v => zbf fr tg many v) (fun fr h => execs c b fr h) c.fuel 0 fr h1) fun p h => R p.1 p.2 h
 refine loopF_w xs.length I (fun i hi fr h hI => ?_) (fun fr h hI => ?_) xs.length 0 c.fuel (by omega) hn fr h1 I0
 ·rw [nx i fr h hI,List.getElem?_eq_getElem hi]
  exact ⟨⟨step i _ (List.getElem?_eq_getElem hi) fr h hI⟩⟩
 ·rw [nx _ fr h hI,List.getElem?_eq_none (Nat.le_refl _)]
  exact ⟨rfl,stop fr h hI⟩
theorem zbb {a : Nat} {vs : List Val} (ha : h[a]? = some (.list vs)) : za5 h (.ref a) = some (.ls a) := by
 show alt none (alt (alt ((h[a]?.bind MObj.list?).map fun _ => It.ls a) _) _) = _
 rw [ha]; rfl
theorem zba {a i : Nat} {vs : List Val} (ha : h[a]? = some (.list vs)) : zah h i (.ls a) = some vs[i]? := by
 show (h[a]?.bind MObj.list?).map _ = _
 rw [ha]; rfl
theorem it_rng {n : Nat} (hn : n <= lim) : za5 h (.rng n) = some (.rg n) := by
 show alt (grd _ _) _ = _
 rw [decide_eq_true (show (n : Int) <= (lim : Int) by omega),decide_eq_true (show -(lim : Int) <= (n : Int) by omega)]; rfl
noncomputable def rngL (n : Nat) : List Val := (List.range n).map fun (i : Nat) => Val.int (i : Int)
theorem za9 {n : Nat} : (rngL n).length = n := by unfold rngL; rw [List.length_map,List.length_range]
theorem rngL_at {n i : Nat} (hi : i < n) : (rngL n)[i]? = some (.int i) := by
 unfold rngL; rw [List.getElem?_map,List.getElem?_range hi]; rfl
theorem rngL_of {n i : Nat} {x : Val} (hx : (rngL n)[i]? = some x) : i < n /\ x = .int i := by
 have hi : i < n := by have := at_lt hx; rwa [za9] at this
 rw [rngL_at hi] at hx
 exact ⟨hi,(Option.some.inj hx).symm⟩
theorem nx_rng {n i : Nat} (hi : i <= n) : zah h i (.rg n) = some (rngL n)[i]? := by
 show some (bif decide ((i : Int) < (n : Int)) then some (Val.int i) else none) = _
 by_cases hl : i < n
 ·rw [decide_eq_true (show (i : Int) < (n : Int) by omega),rngL_at hl]; rfl
 ·rw [decide_eq_false (show ¬ (i : Int) < (n : Int) by omega),List.getElem?_eq_none (by rw [za9]; omega)]; rfl
theorem zde {x : Nat} {v : Val} {Q : Frame -> Prop} (q : Q (fr.set x (some v))) : Wo (zbf fr [x] false v) Q := ⟨q⟩
theorem zcf {x n : Nat} {e : Ex} {b : List Sm} (hn : n < c.fuel) (hl : n <= lim) (I : Nat -> Frame -> MH -> Prop)
  (q : WE c fr e h fun v h1 => v = .rng n /\ I 0 fr h1)
  (step : ∀ i,i < n -> ∀ fr h,I i fr h -> WSs c b (fr.set x (some (.int i))) h (Turn (I (i + 1)) R))
  (stop : ∀ fr h,I n fr h -> R .nx fr h) : WS c (.fo [x] false e b) fr h R :=
 ws_for (W.mono q fun v h1 q => by
  obtain ⟨rfl,I0⟩ := q
  refine ⟨.rg n,rngL n,it_rng hl,by rw [za9]; exact hn,fun i fr h => i <= n /\ I i fr h,⟨Nat.zero_le _,I0⟩,fun i fr h hI => nx_rng hI.1,fun i x hx fr h hI => ?_,fun fr h hI => stop fr h (za9 (n:=n) ▸ hI.2)⟩
  obtain ⟨hi,rfl⟩ := rngL_of hx
  refine zde (W.mono (step i hi fr h hI.2) fun p h' q => ?_)
  obtain ⟨fl,f2⟩ := p
  cases fl with
  | nx => exact ⟨hi,q⟩
  | ct => exact ⟨hi,q⟩
  | bk => exact q
  | rt v => exact q)
theorem loopW_w {cond : Frame -> MH -> Option (Bool × MH)} {b : Frame -> MH -> SR} (I : Nat -> Frame -> MH -> Prop)
  (step : ∀ k fr h,I k fr h -> W (cond fr h) fun r h1 => Br r (W (b fr h1) fun p h' => Turn (fun fr h => ∃ j,j < k /\ I j fr h) R p.1 p.2 h') (R .nx fr h1)) : ∀ (m k : Nat),k < m -> ∀ fr h,I k fr h -> W (loopW cond b m fr h) fun p h => R p.1 p.2 h := by
 intro m
 induction m with
 | zero => exact fun k hk => absurd hk (Nat.not_lt_zero _)
 | succ m ih =>
  intro k hk fr h I0
  show W (bnd (cond fr h) _) _
  refine zaf (W.mono (step k fr h I0) fun r h1 q => ?_)
  cases r with
  | false => exact ⟨q.2 rfl⟩
  | true =>
   rw [cond_true]
   refine zaf (W.mono (q.1 rfl) fun p h2 q => ?_)
   obtain ⟨fl,f2⟩ := p
   cases fl with
   | nx => obtain ⟨j,hj,q⟩ := q; exact ih j (by omega) f2 h2 q
   | ct => obtain ⟨j,hj,q⟩ := q; exact ih j (by omega) f2 h2 q
   | bk => exact ⟨q⟩
   | rt v => exact ⟨q⟩
theorem ws_wh {t : Ex} {b : List Sm} {k : Nat} (I : Nat -> Frame -> MH -> Prop) (hk : k < c.fuel) (I0 : I k fr h)
  (step : ∀ k fr h,I k fr h -> WE c fr t h fun v h1 => WT v h1 fun r => Br r (WSs c b fr h1 (Turn (fun fr h => ∃ j,j < k /\ I j fr h) R)) (R .nx fr h1)) : WS c (.wh t b) fr h R := by
 show W (loopW (fun fr h => zak (eval c t fr h)) (fun fr h => execs c b fr h) c.fuel fr h) fun p h => R p.1 p.2 h
 exact loopW_w I (fun k fr h hI => zbl (step k fr h hI)) c.fuel k hk fr h I0
noncomputable def WTs (c : Cx) (fr : Frame) (es : List Ex) (h : MH) (Q : Bool -> MH -> Prop) : Prop := W (evalT c es fr h) Q
theorem wts_nil {Q : Bool -> MH -> Prop} (q : Q true h) : WTs c fr [] h Q := zaJ q
theorem wts_cons {Q : Bool -> MH -> Prop} {e : Ex} {r : List Ex} (q : WE c fr e h fun v h1 => WT v h1 fun b => Br b (WTs c fr r h1 Q) (Q false h1)) : WTs c fr (e :: r) h Q := by
 show W (bnd (zak (eval c e fr h)) fun b h1 => bif b then evalT c r fr h1 else some (false,h1)) Q
 exact zaf (zbl (W.mono q fun v h1 q => Wo.mono q fun b q => br_use ⟨q.1,fun h => zaJ (q.2 h)⟩))
theorem compLoop_w {next : Nat -> MH -> Option (Option Val)} {t : Val -> MH -> Option (Option Frame × MH)} {el : Frame -> MH -> Option (Val × MH)} {ac : Nat} {R : MH -> Prop} (n : Nat) (I : Nat -> MH -> Prop)
  (step : ∀ i,i < n -> ∀ h,I i h -> Wo (next i h) fun ov => Wo ov fun v => W (t v h) fun o h1 => (o = none -> I (i + 1) h1) /\ ∀ fr,o = some fr -> W (el fr h1) fun x h2 => ∃ vs,h2[ac]? = some (.list vs) /\ vs.length < lim /\ I (i + 1) (h2.set ac (.list (vs ++ [x]))))
  (stop : ∀ h,I n h -> Wo (next n h) fun ov => ov = none /\ R h) : ∀ (m i fu : Nat),i + m = n -> m < fu -> ∀ h,I i h -> W (compLoop next t el ac fu i h) fun _ h => R h := by
 intro m
 induction m with
 | zero =>
  intro i fu hi hf h I0
  obtain ⟨fu,rfl⟩ := Nat.exists_eq_add_of_le' hf
  cases hi
  have q : Wo (next i h) fun ov => ov = none /\ R h := stop h I0
  show W ((next i h).bind _) _
  exact zcT (q.mono fun ov q => by obtain ⟨rfl,q⟩ := q; exact ⟨q⟩)
 | succ m ih =>
  intro i fu hi hf h I0
  obtain ⟨fu,rfl⟩ := Nat.exists_eq_add_of_le' (Nat.lt_of_le_of_lt (Nat.zero_le _) hf)
  have q := step i (by omega) h I0
  show W ((next i h).bind _) _
  refine zcT (q.mono fun ov q => ?_)
  cases ov with
  | none => exact q.w.elim
  | some v =>
   have q : W (t v h) fun o h1 => (o = none -> I (i + 1) h1) /\ ∀ fr,o = some fr -> W (el fr h1) fun x h2 => ∃ vs,h2[ac]? = some (.list vs) /\ vs.length < lim /\ I (i + 1) (h2.set ac (.list (vs ++ [x]))) := q.w
   refine zaf (W.mono q fun o h1 q => ?_)
   cases o with
   | none => exact ih (i + 1) _ (by omega) (by omega) h1 (q.1 rfl)
   | some fr =>
    refine zaf (W.mono (q.2 fr rfl) fun x h2 q => ?_)
    obtain ⟨vs,e1,e2,q⟩ := q
    rw [e1]
    show W (grd (Nat.ble (vs.length + 1) lim) _) _
    rw [Nat.ble_eq.mpr e2]
    exact ih (i + 1) _ (by omega) (by omega) _ q
theorem we_comp {elt it : Ex} {tg : List Nat} {many : Bool} {ifs : List Ex}
  (q : WE c fr it h fun v h1 => ∃ k,∃ xs : List Val,za5 h1 v = some k /\ xs.length < c.fuel /\ ∃ I : Nat -> MH -> Prop,I 0 (h1 ++ [.list []]) /\ (∀ i h,I i h -> zah h i k = some xs[i]?) /\
   (∀ i x,xs[i]? = some x -> ∀ hh,I i hh -> Wo (zbf fr tg many x) fun fr1 => WTs c fr1 ifs hh fun b h2 => Br b (WE c fr1 elt h2 fun x h3 => ∃ vs,h3[h1.length]? = some (.list vs) /\ vs.length < lim /\ I (i + 1) (h3.set h1.length (.list (vs ++ [x])))) (I (i + 1) h2)) /\
   ∀ hh,I xs.length hh -> Q (.ref h1.length) hh) : WE c fr (.comp elt tg many it ifs) h Q := by
 show W (bnd (eval c it fr h) fun v h1 => (za5 h1 v).bind fun k => bnd (compLoop (fun i h => zah h i k) (fun v h => (zbf fr tg many v).bind fun fr' => bnd (evalT c ifs fr' h) fun b h' => some (bif b then some fr' else none,h')) (fun fr' h => eval c elt fr' h) h1.length c.fuel 0 (h1 ++ [.list []])) fun _ h2 => some (.ref h1.length,h2)) Q
 refine zaf (W.mono q fun v h1 q => ?_)
 obtain ⟨k,xs,e1,hn,I,I0,nx,step,stop⟩ := q
 rw [e1]
 refine zaf (f:=fun _ h2 => some (Val.ref h1.length,h2)) ?_
 refine W.mono (Q:=fun _ h2 => Q (.ref h1.length) h2) ?_ fun _ _ q => zaJ q
 refine compLoop_w (R:=fun h2 => Q (.ref h1.length) h2) xs.length I (fun i hi hh hI => ?_) (fun hh hI => ?_) xs.length 0 c.fuel (by omega) hn _ I0
 ·rw [nx i hh hI,List.getElem?_eq_getElem hi]
  refine wo_some (wo_some (zcT (Wo.mono (step i _ (List.getElem?_eq_getElem hi) hh hI) fun fr1 q => zaf (W.mono q fun b h2 q => ?_))))
  cases b with
  | true => exact ⟨nofun,fun fr e => by cases e; exact q.1 rfl⟩
  | false => exact ⟨fun _ => q.2 rfl,nofun⟩
 ·rw [nx _ hh hI,List.getElem?_eq_none (Nat.le_refl _)]
  exact ⟨rfl,stop hh hI⟩
theorem za0 {r : List Sm} (q : WSs c r fr h R) : Beh c r R .nx fr h := q
theorem beh_bk {r : List Sm} (q : R .bk fr h) : Beh c r R .bk fr h := q
theorem beh_rt {r : List Sm} {v : Val} (q : R (.rt v) fr h) : Beh c r R (.rt v) fr h := q
theorem fin_rt {v : Val} (q : Q v h) : Fin Q (.rt v) fr h := q
theorem fin_nx (q : Q .none h) : Fin Q .nx fr h := q
variable {I : Frame -> MH -> Prop}
theorem turn_nx (q : I fr h) : Turn I R .nx fr h := q
theorem turn_bk (q : R .nx fr h) : Turn I R .bk fr h := q
theorem turn_rt {v : Val} (q : R (.rt v) fr h) : Turn I R (.rt v) fr h := q
noncomputable abbrev nn (k : Nat) : Frame := List.replicate k none
theorem zaO {P : Prg} {d K f np ns : Nat} {dfl as vs : List Val} {bd : List Sm} (hd : K + 1 <= d) (fr : Frame) (hf : P.fnAt f = some ⟨f,np,dfl,ns,bd⟩) (ha : zbk ⟨f,np,dfl,ns,bd⟩ as = some vs) (hfr : za6 ⟨f,np,dfl,ns,bd⟩ vs = fr) (q : ∀ d',K <= d' -> WSs (Cxd P d') bd fr h (Fin Q)) : WF P d f as h Q :=
 wf_at hd hf ha fun d' h' => hfr ▸ q d' h'
end
end Mi
namespace Mi
section
variable {c : Cx} {fr : Frame} {h : MH} {Q : Val -> MH -> Prop}
theorem filter_step {α : Type} {vs : List α} {p : α -> Bool} {i : Nat} {v : α} (hv : vs[i]? = some v) : (vs.take (i + 1)).filter p = (vs.take i).filter p ++ (bif p v then [v] else []) := by
 obtain ⟨hi,rfl⟩ := List.getElem?_eq_some_iff.mp hv
 rw [List.take_succ_eq_append_getElem hi,List.filter_append]
 cases hb : p vs[i] <;> simp [hb]
theorem we_compP {elt it : Ex} {x : Nat} {ifs : List Ex} (a : Nat) (vs : List Val) (p : Val -> Bool) (f : Val -> Val) (hf : vs.length < c.fuel) (hl : vs.length <= lim)
  (q : WE c fr it h fun v h1 => v = .ref a /\ h1[a]? = some (.list vs) /\
   (∀ v,v ∈ vs -> ∀ acc,WTs c (fr.set x (some v)) ifs (h1 ++ [.list acc]) fun b h2 => h2 = h1 ++ [.list acc] /\ b = p v /\ (b = true -> WE c (fr.set x (some v)) elt h2 fun y h3 => h3 = h2 /\ y = f v)) /\ Q (.ref h1.length) (h1 ++ [.list ((vs.filter p).map f)])) : WE c fr (.comp elt [x] false it ifs) h Q := by
 refine we_comp (W.mono q fun v h1 q => ?_)
 obtain ⟨rfl,h1a,st,q⟩ := q
 refine ⟨.ls a,vs,zbb h1a,hf,fun i hh => hh = h1 ++ [.list (((vs.take i).filter p).map f)],rfl,?_,?_,?_⟩
 ·rintro i hh rfl; exact zba (zaa h1a)
 ·rintro i v hv hh rfl
  refine zde (W.mono (st v (List.mem_of_getElem? hv) _) fun b h2 q => ?_)
  obtain ⟨rfl,rfl,q2⟩ := q
  have e := filter_step (p:=p) hv
  refine br (fun hb => W.mono (q2 hb) fun y h3 q => ?_) fun hb => ?_
  ·obtain ⟨rfl,rfl⟩ := q
   refine ⟨_,zac,?_,?_⟩
   ·rw [List.length_map]
    have h1 := List.length_filter_le p (vs.take i)
    rw [List.length_take] at h1
    have := at_lt hv
    omega
   ·rw [za2]
    show _ = h1 ++ [MObj.list (((vs.take (i + 1)).filter p).map f)]
    rw [e,hb,List.map_append]; rfl
  ·show _ = h1 ++ [MObj.list (((vs.take (i + 1)).filter p).map f)]
   rw [e,hb,cond_false,List.append_nil]
 ·rintro hh rfl
  rw [List.take_length]; exact q
end
end Mi
namespace Mi
section
variable {c : Cx} {fr : Frame} {h : MH} {Q : Val -> MH -> Prop}
theorem we_and {e f : Ex} {r : List Ex} (q : WE c fr e h fun v h1 => WT v h1 fun b => Br b (WE c fr (.bop false (f :: r)) h1 Q) (Q v h1)) : WE c fr (.bop false (e :: f :: r)) h Q :=
 we_bop (W.mono q fun v h1 q => Wo.mono q fun b q => by cases b; exact br_t (q.2 rfl); exact br_f (q.1 rfl))
theorem we_or {e f : Ex} {r : List Ex} (q : WE c fr e h fun v h1 => WT v h1 fun b => Br b (Q v h1) (WE c fr (.bop true (f :: r)) h1 Q)) : WE c fr (.bop true (e :: f :: r)) h Q :=
 we_bop (W.mono q fun v h1 q => Wo.mono q fun b q => by cases b; exact br_f (q.2 rfl); exact br_t (q.1 rfl))
theorem wc_isT {a b : Val} (e : isV a b = some true) (q : Q (.bool true) h) : WC .is a b h Q := wc_is e q
theorem wc_isF {a b : Val} (e : isV a b = some false) (q : Q (.bool false) h) : WC .is a b h Q := wc_is e q
theorem wc_isnT {a b : Val} (e : isV a b = some true) (q : Q (.bool false) h) : WC .isnot a b h Q := wc_isnot e q
theorem wc_isnF {a b : Val} (e : isV a b = some false) (q : Q (.bool true) h) : WC .isnot a b h Q := wc_isnot e q
theorem veq_str {s t : List Nat} : veq h (.str s) (.str t) = some (s == t) := by
 show some (PySem.PyData.eqv (.str ⟨s.toArray⟩) (.str ⟨t.toArray⟩)) = _
 have e : PySem.PyData.eqv (.str ⟨s.toArray⟩) (.str ⟨t.toArray⟩) = (s == t) := by
  simp only [PySem.PyData.eqv]
  by_cases hs : s = t
  ·subst hs; simp
  ·rw [beq_false_of_ne hs,beq_false_of_ne]
   intro e
   apply hs
   injection e with e
   injection e
 rw [e]
theorem wc_eqs {s t : List Nat} (q : Q (.bool (s == t)) h) : WC .eq (.str s) (.str t) h Q := wc_eq veq_str q
theorem wc_nes {s t : List Nat} (q : Q (.bool (!(s == t))) h) : WC .ne (.str s) (.str t) h Q := wc_ne veq_str q
theorem veq_int {a b : Int} : veq h (.int a) (.int b) = some (a == b) := by
 show some (PySem.PyData.eqv (.int a) (.int b)) = _
 simp [PySem.PyData.eqv]
theorem wc_eqi {a b : Int} (q : Q (.bool (a == b)) h) : WC .eq (.int a) (.int b) h Q := wc_eq veq_int q
theorem wc_nei {a b : Int} (q : Q (.bool (!(a == b))) h) : WC .ne (.int a) (.int b) h Q := wc_ne veq_int q
theorem wc_nins {x : Nat} {t : List Nat} (q : Q (.bool (!t.contains x)) h) : WC .notin (.str [x]) (.str t) h Q := wc_notin (r:=t.contains x) rfl q
theorem br_not {r : Bool} {A B : Prop} (q : Br r B A) : Br (!r) A B := by
 cases r with
 | false => exact br_t (q.2 rfl)
 | true => exact br_f (q.1 rfl)
theorem wv_lens {s : List Nat} (q : Q (.int s.length) h) : WV c (.bi nLen) [.str s] h Q := wv_len rfl q
theorem zaB {a : Nat} {vs : List Val} (ha : h[a]? = some (.list vs)) (q : Q (.int vs.length) h) : WV c (.bi nLen) [.ref a] h Q := wv_len (lenV_l ha) q
end
end Mi
namespace Mi
section
variable {c : Cx} {fr : Frame} {h : MH} {Q : Val -> MH -> Prop}
end
end Mi
namespace Mi
section
variable {c : Cx} {fr : Frame} {h : MH} {R : Fl -> Frame -> MH -> Prop} {σ : Type}
structure Inv (F : σ -> Frame) (G : σ -> MH) (P : σ -> Prop) (fr : Frame) (h : MH) : Prop where
 x : ∃ s,fr = F s /\ h = G s /\ P s
theorem Inv.of {F : σ -> Frame} {G : σ -> MH} {P : σ -> Prop} (s : σ) (hp : P s) : Inv F G P (F s) (G s) := ⟨s,rfl,rfl,hp⟩
structure To (F : σ -> Frame) (G : σ -> MH) (P : σ -> Prop) (R R' : Fl -> Frame -> MH -> Prop) : Prop where
 nx : ∀ s,P s -> R' .nx (F s) (G s)
 ct : ∀ s,P s -> R' .ct (F s) (G s)
 bk : ∀ fr h,R .nx fr h -> R' .bk fr h
 rt : ∀ v fr h,R (.rt v) fr h -> R' (.rt v) fr h
theorem ws_whS {t : Ex} {b : List Sm} {k : Nat} (F : σ -> Frame) (G : σ -> MH) (P : Nat -> σ -> Prop) (hk : k < c.fuel) (s0 : σ) (e1 : fr = F s0) (e2 : h = G s0) (I0 : P k s0)
  (step : ∀ k s R',P k s -> To F G (fun s => ∃ j,j < k /\ P j s) R R' -> WE c (F s) t (G s) fun v h1 => WT v h1 fun r => Br r (WSs c b (F s) h1 R') (R .nx (F s) h1)) : WS c (.wh t b) fr h R := by
 subst e1; subst e2
 refine ws_wh (fun k => Inv F G (P k)) hk (Inv.of s0 I0) fun k fr h hI => ?_
 obtain ⟨s,rfl,rfl,hp⟩ := hI.x
 exact step k s _ hp ⟨fun s hp => ⟨hp.choose,hp.choose_spec.1,Inv.of s hp.choose_spec.2⟩,fun s hp => ⟨hp.choose,hp.choose_spec.1,Inv.of s hp.choose_spec.2⟩,fun _ _ h => h,fun _ _ _ h => h⟩
end
end Mi
namespace Mi
noncomputable abbrev CRz := Nat -> List Val -> MH -> MH -> Prop
inductive EJob where
 | E (e : Ex)
 | A (es : List Ex)
inductive RzE (c : Cx) (cr : CRz) (fr : Frame) (H : MH) : EJob -> MH -> Prop
 | call {f as a vs h h1 h2} (e1 : eval c f fr h = some (.top a,h1)) (e2 : zaT c as fr h1 = some (vs,h2)) (e3 : c.P.clsAt a = none) (e4 : cr a vs h2 H) : RzE c cr fr H (.E (.call f as)) h
 | new {f as a k i vs h h1 h2} (e1 : eval c f fr h = some (.top a,h1)) (e2 : zaT c as fr h1 = some (vs,h2)) (e3 : c.P.clsAt a = some k) (e5 : k.init = some i) (e4 : cr i (.ref h2.length :: vs) (h2 ++ [.inst a []]) H) : RzE c cr fr H (.E (.call f as)) h
 | arg {f as a k i h h1} (e1 : eval c f fr h = some (.top a,h1)) (e3 : c.P.clsAt a = some k) (e5 : k.init = some i) (q : RzE c cr fr H (.A as) h1) : RzE c cr fr H (.E (.call f as)) h
 | meth {o n as h} (q : RzE c cr fr H (.E o) h) : RzE c cr fr H (.E (.meth o n as)) h
 | here {e r h} (q : RzE c cr fr H (.E e) h) : RzE c cr fr H (.A (e :: r)) h
 | more {e r h v h1} (e1 : eval c e fr h = some (v,h1)) (q : RzE c cr fr H (.A r) h1) : RzE c cr fr H (.A (e :: r)) h
inductive Job where
 | S (s : Sm)
 | B (s : List Sm)
 | L (k : It) (tg : List Nat) (many : Bool) (b : List Sm) (n i : Nat)
 | W (t : Ex) (b : List Sm) (n : Nat)
inductive Rz (c : Cx) (cr : CRz) (H : MH) : Job -> Frame -> MH -> Prop
 | expr {fr h e} (r : RzE c cr fr H (.E e) h) : Rz c cr H (.S (.expr e)) fr h
 | asg {fr h x e} (r : RzE c cr fr H (.E e) h) : Rz c cr H (.S (.asg (.nm x) e)) fr h
 | ret {fr h e} (r : RzE c cr fr H (.E e) h) : Rz c cr H (.S (.ret e)) fr h
 | rse {fr h e v} (r : eval c e fr h = some (v,H)) : Rz c cr H (.S (.rse e)) fr h
 | ite {fr h t a b r h1} (e : zak (eval c t fr h) = some (r,h1)) (q : Rz c cr H (.B (bif r then a else b)) fr h1) : Rz c cr H (.S (.ite t a b)) fr h
 | fo {fr h tg many e b v h1 k n} (e1 : eval c e fr h = some (v,h1)) (e2 : za5 h1 v = some k) (q : Rz c cr H (.L k tg many b n 0) fr h1) : Rz c cr H (.S (.fo tg many e b)) fr h
 | wh {fr h t b n} (q : Rz c cr H (.W t b n) fr h) : Rz c cr H (.S (.wh t b)) fr h
 | wlast {fr h t b h1} (e : zak (eval c t fr h) = some (true,h1)) (q : Rz c cr H (.B b) fr h1) : Rz c cr H (.W t b 0) fr h
 | wturn {fr h t b n h1 f2 h2} (e : zak (eval c t fr h) = some (true,h1)) (e3 : execs c b fr h1 = some ((.nx,f2),h2)) (q : Rz c cr H (.W t b n) f2 h2) : Rz c cr H (.W t b (n + 1)) fr h
 | here {fr h s r} (q : Rz c cr H (.S s) fr h) : Rz c cr H (.B (s :: r)) fr h
 | next {fr h s r f2 h2} (e : exec c s fr h = some ((.nx,f2),h2)) (q : Rz c cr H (.B r) f2 h2) : Rz c cr H (.B (s :: r)) fr h
 | last {k fr h tg many b i v f1} (e1 : zah h i k = some (some v)) (e2 : zbf fr tg many v = some f1) (q : Rz c cr H (.B b) f1 h) : Rz c cr H (.L k tg many b 0 i) fr h
 | turn {k fr h tg many b n i v f1 f2 h2} (e1 : zah h i k = some (some v)) (e2 : zbf fr tg many v = some f1) (e3 : execs c b f1 h = some ((.nx,f2),h2)) (q : Rz c cr H (.L k tg many b n (i + 1)) f2 h2) : Rz c cr H (.L k tg many b (n + 1) i) fr h
noncomputable def CallR (P : Prg) (fuel : Nat) : Nat -> CRz
 | 0,_,_,_,_ => False
 | d + 1,a,as,h,H => ∃ f vs,P.fnAt a = some f /\ zbk f as = some vs /\ Rz ⟨P,fuel,zaU P fuel d⟩ (CallR P fuel d) H (.B f.body) (za6 f vs) h
inductive ExT (c : Cx) (cr : CRz) (R : (Fl × Frame) × MH) : List Sm -> Frame -> MH -> Prop
 | nil {fr h} (e : R = ((.nx,fr),h)) : ExT c cr R [] fr h
 | next {s r fr h f2 h2} (e : exec c s fr h = some ((.nx,f2),h2)) (q : ExT c cr R r f2 h2) : ExT c cr R (s :: r) fr h
 | stop {s r fr h v f2 h2} (e : exec c s fr h = some ((.rt v,f2),h2)) (q : R = ((.rt v,f2),h2)) : ExT c cr R (s :: r) fr h
 | try {x e y v r fr h u h2} (e1 : eval c e fr h = some (u,h2)) (q : ExT c cr R r (fr.set x (some u)) h2) : ExT c cr R (.tr x e y v :: r) fr h
 | exc {x e y v r fr h h2} (e1 : RzE c cr fr h2 (.E e) h) (q : ExT c cr R r (fr.set y (some v)) h2) : ExT c cr R (.tr x e y v :: r) fr h
inductive CallT (P : Prg) (fuel d a : Nat) (as : List Val) (h : MH) (r : Val × MH) : Prop
 | mk (f : Fn) (vs : List Val) (p : Fl × Frame) (H : MH) (e1 : P.fnAt a = some f) (e2 : zbk f as = some vs) (e3 : ExT ⟨P,fuel,zaU P fuel d⟩ (CallR P fuel d) (p,H) f.body (za6 f vs) h) (e4 : finF p H = some r) : CallT P fuel d a as h r
noncomputable abbrev Crd (P : Prg) (d : Nat) : CRz := CallR P 200000 d
section
variable {c : Cx} {cr : CRz} {fr : Frame} {h : MH} {Q : MH -> Prop} {R : Fl -> Frame -> MH -> Prop} {P : Prg} {d : Nat}
noncomputable def RE (c : Cx) (cr : CRz) (e : Ex) (fr : Frame) (h : MH) (Q : MH -> Prop) : Prop := ∃ H,RzE c cr fr H (.E e) h /\ Q H
noncomputable def RS (c : Cx) (cr : CRz) (s : Sm) (fr : Frame) (h : MH) (Q : MH -> Prop) : Prop := ∃ H,Rz c cr H (.S s) fr h /\ Q H
noncomputable def RSs (c : Cx) (cr : CRz) (s : List Sm) (fr : Frame) (h : MH) (Q : MH -> Prop) : Prop := ∃ H,Rz c cr H (.B s) fr h /\ Q H
noncomputable def RF (P : Prg) (d f : Nat) (as : List Val) (h : MH) (Q : MH -> Prop) : Prop := ∃ H,CallR P 200000 d f as h H /\ Q H
theorem re_call {f : Ex} {as : List Ex} (q : WE c fr f h fun g h1 => WEs c fr as h1 fun vs h2 => ∃ a,g = .top a /\ c.P.clsAt a = none /\ ∃ H,cr a vs h2 H /\ Q H) : RE c cr (.call f as) fr h Q := by
 obtain ⟨g,h1,e1,q⟩ := W.get q
 obtain ⟨vs,h2,e2,a,rfl,e3,H,e4,q⟩ := W.get q
 exact ⟨H,.call e1 e2 e3 e4,q⟩
theorem rs_expr {e : Ex} (q : RE c cr e fr h Q) : RS c cr (.expr e) fr h Q := q.elim fun H q => ⟨H,.expr q.1,q.2⟩
theorem rs_ret {e : Ex} (q : RE c cr e fr h Q) : RS c cr (.ret e) fr h Q := q.elim fun H q => ⟨H,.ret q.1,q.2⟩
theorem rs_rse {e : Ex} (q : WE c fr e h fun _ h1 => Q h1) : RS c cr (.rse e) fr h Q := by
 obtain ⟨v,h1,e1,q⟩ := W.get q
 exact ⟨h1,.rse e1,q⟩
theorem rs_ite {t : Ex} {a b : List Sm} (q : WE c fr t h fun x h1 => WT x h1 fun r => Br r (RSs c cr a fr h1 Q) (RSs c cr b fr h1 Q)) : RS c cr (.ite t a b) fr h Q := by
 obtain ⟨r,h1,e1,q⟩ := W.get (zbl (Q:=fun r h1 => Br r (RSs c cr a fr h1 Q) (RSs c cr b fr h1 Q)) q)
 cases r with
 | true => exact (q.1 rfl).elim fun H q => ⟨H,.ite e1 q.1,q.2⟩
 | false => exact (q.2 rfl).elim fun H q => ⟨H,.ite e1 q.1,q.2⟩
theorem zar {s : Sm} {r : List Sm} (q : RS c cr s fr h Q) : RSs c cr (s :: r) fr h Q := q.elim fun H q => ⟨H,.here q.1,q.2⟩
noncomputable def BehR (c : Cx) (cr : CRz) (r : List Sm) (Q : MH -> Prop) (fl : Fl) (fr : Frame) (h : MH) : Prop := Fl.casesOn (motive:=fun _ => Prop) fl (RSs c cr r fr h Q) False False fun _ => False
theorem zcv {r : List Sm} (q : RSs c cr r fr h Q) : BehR c cr r Q .nx fr h := q
theorem zag {s : Sm} {r : List Sm} (q : WS c s fr h (BehR c cr r Q)) : RSs c cr (s :: r) fr h Q := by
 obtain ⟨⟨fl,f2⟩,h2,e,q⟩ := W.get q
 cases fl with
 | nx => exact q.elim fun H q => ⟨H,.next e q.1,q.2⟩
 | bk => exact q.elim
 | ct => exact q.elim
 | rt v => exact q.elim
noncomputable def Pas (I : Frame -> MH -> Prop) (fl : Fl) (fr : Frame) (h : MH) : Prop := Fl.casesOn (motive:=fun _ => Prop) fl (I fr h) False False fun _ => False
theorem pas_nx {I : Frame -> MH -> Prop} (q : I fr h) : Pas I .nx fr h := q
theorem rs_for {tg : List Nat} {many : Bool} {e : Ex} {b : List Sm} (n : Nat) (I : Nat -> Frame -> MH -> Prop)
  (q : WE c fr e h fun v h1 => ∃ k,za5 h1 v = some k /\ I 0 fr h1 /\
   (∀ i,i < n -> ∀ fr h,I i fr h -> ∃ x,zah h i k = some (some x) /\ Wo (zbf fr tg many x) fun f1 => WSs c b f1 h (Pas (I (i + 1)))) /\
   ∀ fr h,I n fr h -> ∃ x,zah h n k = some (some x) /\ Wo (zbf fr tg many x) fun f1 => RSs c cr b f1 h Q) : RS c cr (.fo tg many e b) fr h Q := by
 obtain ⟨v,h1,e1,k,e2,I0,st,q⟩ := W.get q
 have wo : ∀ {o : Option Frame} {P : Frame -> Prop},Wo o P -> ∃ f,o = some f /\ P f := fun {o P} q => by
  cases o with
  | none => exact q.w.elim
  | some f => exact ⟨f,rfl,q.w⟩
 have go : ∀ m i fr h,i + m = n -> I i fr h -> ∃ H,Rz c cr H (.L k tg many b m i) fr h /\ Q H := by
  intro m
  induction m with
  | zero =>
   intro i fr h e hI
   cases e
   obtain ⟨x,e3,q⟩ := q fr h hI
   obtain ⟨f1,e4,H,q1,q2⟩ := wo q
   exact ⟨H,.last e3 e4 q1,q2⟩
  | succ m ih =>
   intro i fr h e hI
   obtain ⟨x,e3,q⟩ := st i (by omega) fr h hI
   obtain ⟨f1,e4,q⟩ := wo q
   obtain ⟨⟨fl,f2⟩,h2,e5,q⟩ := W.get q
   cases fl with
   | nx =>
    obtain ⟨H,q1,q2⟩ := ih (i + 1) f2 h2 (by omega) q
    exact ⟨H,.turn e3 e4 e5 q1,q2⟩
   | bk => exact q.elim
   | ct => exact q.elim
   | rt v => exact q.elim
 exact (go n 0 fr h1 (Nat.zero_add n) I0).elim fun H q => ⟨H,.fo e1 e2 q.1,q.2⟩
theorem rf_at {K f : Nat} {fn : Fn} {as vs : List Val} (hd : K + 1 <= d) (hf : P.fnAt f = some fn) (ha : zbk fn as = some vs) (q : ∀ d',K <= d' -> RSs (Cxd P d') (Crd P d') fn.body (za6 fn vs) h Q) : RF P d f as h Q := by
 obtain ⟨d',rfl⟩ := Nat.exists_eq_add_of_le' hd
 exact (q (d' + K) (Nat.le_add_left _ _)).elim fun H q => ⟨H,⟨fn,vs,hf,ha,q.1⟩,q.2⟩
theorem rf_go {P : Prg} {d K f np ns : Nat} {dfl as vs : List Val} {bd : List Sm} {h : MH} {Q : MH -> Prop} (hd : K + 1 <= d) (fr : Frame) (hf : P.fnAt f = some ⟨f,np,dfl,ns,bd⟩) (ha : zbk ⟨f,np,dfl,ns,bd⟩ as = some vs) (hfr : za6 ⟨f,np,dfl,ns,bd⟩ vs = fr) (q : ∀ d',K <= d' -> RSs (Cxd P d') (Crd P d') bd fr h Q) : RF P d f as h Q := by
 subst hfr
 exact rf_at hd hf ha q
theorem re_fn {f : Nat} {as : List Ex} (hc : P.clsAt f = none) (q : WEs (Cxd P d) fr as h fun vs h2 => RF P d f vs h2 Q) : RE (Cxd P d) (Crd P d) (.call (.lit (.top f)) as) fr h Q :=
 re_call (W.of (a:=.top f) (g:=h) rfl (W.mono q fun vs h2 q => ⟨f,rfl,hc,q⟩))
noncomputable def WLs (c : Cx) (cr : CRz) (s : List Sm) (fr : Frame) (h : MH) (R : Fl -> Frame -> MH -> Prop) : Prop := ∃ p H,ExT c cr (p,H) s fr h /\ R p.1 p.2 H
noncomputable def BehT (c : Cx) (cr : CRz) (r : List Sm) (R : Fl -> Frame -> MH -> Prop) (fl : Fl) (fr : Frame) (h : MH) : Prop := Fl.casesOn (motive:=fun _ => Prop) fl (WLs c cr r fr h R) False False fun v => R (.rt v) fr h
theorem beht_nx {r : List Sm} (q : WLs c cr r fr h R) : BehT c cr r R .nx fr h := q
theorem beht_rt {r : List Sm} {v : Val} (q : R (.rt v) fr h) : BehT c cr r R (.rt v) fr h := q
theorem zaq {s : Sm} {r : List Sm} (q : WS c s fr h (BehT c cr r R)) : WLs c cr (s :: r) fr h R := by
 obtain ⟨⟨fl,f2⟩,h2,e,q⟩ := W.get q
 cases fl with
 | nx => exact q.elim fun p q => q.elim fun H q => ⟨p,H,.next e q.1,q.2⟩
 | bk => exact q.elim
 | ct => exact q.elim
 | rt v => exact ⟨_,_,.stop e rfl,q⟩
theorem wt_try {x y : Nat} {e : Ex} {v : Val} {r : List Sm} (q : WE c fr e h fun u h1 => WLs c cr r (fr.set x (some u)) h1 R) : WLs c cr (.tr x e y v :: r) fr h R := by
 obtain ⟨u,h1,e1,p,H,q1,q2⟩ := W.get q
 exact ⟨p,H,.try e1 q1,q2⟩
theorem wt_exc {x y : Nat} {e : Ex} {v : Val} {r : List Sm} (q : RE c cr e fr h fun h1 => WLs c cr r (fr.set y (some v)) h1 R) : WLs c cr (.tr x e y v :: r) fr h R := by
 obtain ⟨h1,e1,p,H,q1,q2⟩ := q
 exact ⟨p,H,.exc e1 q1,q2⟩
end
end Mi
namespace Mi
open PySem PySem.W PySem.Calls PyProof.Rows
noncomputable def Cfg.cr (C : Cfg) (d : Nat) : CRz := CallR C.P fuel0 d
structure XOk (C : Cfg) (Ca : Addr) : Prop where
 gl : nsIn C.K mainGlobals xName = some (some (.ref Ca))
 ex : excIn C.K Ca [.type "ValueError",.type "Exception",.type "BaseException",.type "object"] "ValueError.__new__" = true
 ve : nsIn C.K mainGlobals vName = some none
 m : exmOne C.K (.ref Ca) (.type "ValueError") = some true
inductive Gnd (C : Cfg) (base B : Heap) (r : Led) (w : Wd) (H : MH) : Prop
 | mk (st : base.StaysIn B) (w' : Wd) (os : List Led) (le : w.le w') (he : Ents C w' w'.σ H os) (hn : ∀ p ∈ os.flatten ++ (w'.tp ++ r),B.get? p.1 = some p.2 /\ base.get? p.1 = none) (hd : Led.nd (os.flatten ++ (w'.tp ++ r))) (lo : ∀ a ∈ w'.σ,4 <= a) : Gnd C base B r w H
theorem Gnd.mono {C : Cfg} {base B : Heap} {r r' : Led} {w w0 : Wd} {H : MH} (l : w0.le w) (hs : r'.Sublist r) (G : Gnd C base B r w H) : Gnd C base B r' w0 H := by
 obtain ⟨st,w',os,le,he,hn,hd,lo⟩ := G
 have sub : (os.flatten ++ (w'.tp ++ r')).Sublist (os.flatten ++ (w'.tp ++ r)) := (List.Sublist.refl _).append ((List.Sublist.refl _).append hs)
 exact ⟨st,w',os,l.trans le,he,fun p hp => hn p (sub.subset hp),List.Sublist.nodup (sub.map _) hd,lo⟩
structure Ard {C : Cfg} {d e : Nat} (Y : Actv C d e) (A₀ : Around) (base : Heap) (outer : List Env) : Prop where
 b : Below A₀ base outer Y.h₀
 f : Y.A.frames = some (Y.envF :: outer)
inductive Fly {C : Cfg} {d e : Nat} (Y : Actv C d e) (X : Value) (base : Heap) (outer : List Env) (k : Kp) (w : Wd) (H : MH) (s0 : Shared) (x : Addr) (s : Shared) : Prop
 | mk (B : Heap) (a0 : Value) (G : Gnd C base B (k.ce ++ k.ex) w H) (f : Heap.FlyingW B (Y.envF :: outer) x X a0 s.heap) (up : Y.h₀.UpToSlots s.heap) (ns : s.heap.Ns Y.L k.m) (sm : Same s0 s) : Fly Y X base outer k w H s0 x s
inductive Und {C : Cfg} {d e : Nat} (Y : Actv C d e) (X : Value) (base : Heap) (outer : List Env) (r : Led) (w : Wd) (H : MH) (s0 : Shared) (x : Addr) (s : Shared) : Prop
 | made (k : Kp) (w' : Wd) (h : Heap) (vs : List Value) (le : w.le w') (hr : r.Sublist (k.ce ++ k.ex)) (S : Sta C Y.h₀ Y.L k w' H h) (m : Heap.MadeExcOf h s.heap x X vs) (sm : Same s0 s) : Und Y X base outer r w H s0 x s
 | fly (B : Heap) (a0 : Value) (G : Gnd C base B r w H) (f : Heap.FlyingW B (Y.envF :: outer) x X a0 s.heap) (up : Y.h₀.UpToSlots s.heap) (sm : Same s0 s) : Und Y X base outer r w H s0 x s
 | held (B : Heap) (a0 : Value) (G : Gnd C base B r w H) (f : Heap.HeldW B (Y.envF :: outer) x X a0 Y.L s.heap) (up : Y.h₀.UpToSlots s.heap) (sm : Same s0 s) : Und Y X base outer r w H s0 x s
section
variable {C : Cfg} {d e : Nat} {Y : Actv C d e} {X : Value} {A₀ : Around} {base : Heap} {outer : List Env} {r : Led} {w : Wd} {H : MH} {s0 s : Shared} {x : Addr} {E : Value -> Shared -> Prop}
theorem Und.mono {r' : Led} {w0 : Wd} {s1 : Shared} (l : w0.le w) (hs : r'.Sublist r) (sm : Same s1 s0) (U : Und Y X base outer r w H s0 x s) : Und Y X base outer r' w0 H s1 x s := by
 cases U with
 | made k w' h vs le hr S m sm' => exact .made k w' h vs (l.trans le) (hs.trans hr) S m (sm.trans sm')
 | fly B a0 G f up sm' => exact .fly B a0 (G.mono l hs) f up (sm.trans sm')
 | held B a0 G f up sm' => exact .held B a0 (G.mono l hs) f up (sm.trans sm')
theorem Fly.und {k : Kp} (F : Fly Y X base outer k w H s0 x s) : Und Y X base outer k.ex w H s0 x s := by
 obtain ⟨B,a0,G,f,up,_,sm⟩ := F
 exact .fly B a0 (G.mono (.refl w) (List.sublist_append_right _ _)) f up sm
theorem Fly.back {k : Kp} {w0 : Wd} {s1 : Shared} (l : w0.le w) (sm : Same s1 s0) (F : Fly Y X base outer k w H s0 x s) : Fly Y X base outer k w0 H s1 x s := by
 obtain ⟨B,a0,G,f,up,ns,sm'⟩ := F
 exact ⟨B,a0,G.mono l (.refl _),f,up,ns,sm.trans sm'⟩
theorem Ard.new (R : Ard Y A₀ base outer) {h : Heap} {m : Str -> Option Value} (F : Fr Y.h₀ Y.L h m) : h.FunFrames base (Y.envF :: outer) := by
 refine .cons (by rw [Y.kind]; decide) Y.frame F.ns ?_ (R.b.frames.of_keeps fun b o e _ => ⟨o,F.keep b o e,rfl⟩)
 cases q : base.get? Y.L with
 | none => rfl
 | some o => exact absurd (Nat.lt_of_lt_of_le (Heap.lt_size (R.b.stays _ _ q)) F.above) (Nat.lt_irrefl _)
noncomputable abbrev hid {C : Cfg} {d e : Nat} (Y : Actv C d e) (outer : List Env) (h : Heap) : Heap := hideAll h ((Y.envF :: outer).filterMap (·.frame))
theorem Ard.gnd (R : Ard Y A₀ base outer) {k : Kp} {w' : Wd} {h : Heap} (le : w.le w') (hr : r.Sublist (k.ce ++ k.ex)) (S : Sta C Y.h₀ Y.L k w' H h) : Gnd C base (hid Y outer h) r w H := by
 obtain ⟨os,he,hn,hd⟩ := S.os
 have FF := R.new S.fr
 have sub : (os.flatten ++ (w'.tp ++ r)).Sublist (k.all w' os) := (List.Sublist.refl _).append ((List.Sublist.refl _).append hr)
 refine ⟨fun b o q => hideAll_get _ (S.fr.keep _ _ (R.b.stays b o q)) fun hm => ?_,w',os,le,he,fun p hp => ?_,List.Sublist.nodup (sub.map _) hd,S.lo⟩
 ·rw [(FF.mem hm).1] at q; cases q
 ·obtain ⟨h1,h2,h3⟩ := hn p (sub.subset hp)
  refine ⟨hideAll_get _ h1 fun hm => ?_,fresh_of_stays R.b.stays h3⟩
  obtain ⟨env,he,hf⟩ := List.mem_filterMap.mp hm
  rcases List.mem_cons.mp he with rfl | he
  ·exact h2 (Option.some.inj (Y.frame.symm.trans hf)).symm
  ·obtain ⟨_,o,ho,_⟩ := R.b.frames.mem (List.mem_filterMap.mpr ⟨env,he,hf⟩)
   rw [h3] at ho; cases ho
theorem zcN {h : Heap} (FF : h.FunFrames base (Y.envF :: outer)) : h.FunFrames (hid Y outer h) (Y.envF :: outer) := funFrames_hide FF fun env he b hb => List.mem_filterMap.mpr ⟨env,he,hb⟩
theorem Und.leave (U : Und Y X base outer r w H s0 x s) (R : Ard Y A₀ base outer) {Q : Unit -> Shared -> Prop}
  (hQ : ∀ B a0 h',Gnd C base B r w H -> Heap.FlyingW B outer x X a0 h' -> Y.h₀.UpToSlots h' -> Same s0 s -> Q () { s with heap := h' }) : wpAny C.M Y.A (leaving Y.envF (.ref x)) Q E s := by
 cases U with
 | made k w' h vs le hr S m sm =>
  have FF := R.new S.fr
  exact wpAny_leaves_madeW R.f Y.frame (fun b o q => of_hideAll _ q) (zcN FF) m fun h' t x1 _ _ x4 =>
   hQ _ _ h' (R.gnd le hr S) x1 (((Heap.UpToSlots.of_keeps S.fr.keep).trans (Heap.UpToSlots.of_keeps m.keeps)).trans x4) sm
 | fly B a0 G f up sm => exact wpAny_leaves_onW R.f Y.frame f fun h' x1 x2 => hQ B a0 h' G x1 (up.trans x2) sm
 | held B a0 G f up sm =>
  unfold leaving
  refine wpAny_bind (wpAny_noteFrame_againW Y.frame f.2.2.2 (wpAny_landsW f fun h' hfl hs => ?_))
  obtain ⟨k1,k2,⟨_,_,k3⟩,k4⟩ := hfl
  exact hQ B a0 h' G ⟨k1,k2,k3,k4⟩ (up.trans hs) sm
theorem zcD {M : Model} {A : Around} {B : Heap} {l : List Env} {L : Addr} {a0 : Value} {Q : Unit -> Shared -> Prop} (f : Heap.HeldW B l x X a0 L s.heap)
  (h : ∀ h',Heap.HeldW B l x X a0 L h' -> s.heap.UpToSlots h' -> Q () { s with heap := h' }) : wpAny M A (setFlight (.ref x) (some L)) Q E s := by
 obtain ⟨f1,f2,f3,oe,vs,tb,ot,ts,he,hc,hd,h1,hn,hne,ht,hdt,h3⟩ := f
 have hsz : 3 < ts.size := (Array.getElem?_eq_some_iff.mp h3).1
 unfold setFlight
 refine wpAny_bind (wpAny_field he hd h1 ?_)
 rw [if_pos (show (Value.ref tb != Value.none) = true from by simp)]
 have oth : ∀ b,b ≠ tb -> (s.heap.update tb (Obj.mapFields (·.setIfInBounds 3 ((some L).elim Value.none fun f => rawInt f)))).get? b = s.heap.get? b := fun b hb => Heap.get?_update_other _ _ (Ne.symm hb)
 have nrec : ∀ b o,s.heap.get? b = some o -> (∀ vs,o.data ≠ .fields vs) -> b ≠ tb := fun b o hb hnf q => hnf ts (by rw [q,ht] at hb; cases hb; exact hdt)
 refine wpAny_setField ht hdt hsz (h _ ⟨fun b o hb => (oth b fun q => by rw [q,hn] at hb; cases hb).trans (f1 b o hb),f2,f3.of_keeps fun b o hb hnf => ⟨o,(oth b (nrec b o hb hnf)).trans hb,rfl⟩,?_⟩ fun b o hb hnf => ⟨o.slots,(oth b (nrec b o hb hnf)).trans hb⟩)
 exact ⟨oe,vs,tb,_,_,(oth x (Ne.symm hne)).trans he,hc,hd,h1,hn,hne,Heap.get?_update_self _ ht (Obj.isFreed_of_fields (Obj.data_mapFields hdt _)),Obj.data_mapFields hdt _,by simp [hsz]⟩
theorem Und.on (U : Und Y X base outer r w H s0 x s) (R : Ard Y A₀ base outer) (hE : ∀ s',Und Y X base outer r w H s0 x s' -> E (.ref x) s') : notedBy C.M Y.A Y.envF (cameBackBy C.M Y.A Y.envF E) (.ref x) s := by
 have fin : ∀ (s' : Shared) B a0,Gnd C base B r w H -> Heap.HeldW B (Y.envF :: outer) x X a0 Y.L s'.heap -> Y.h₀.UpToSlots s'.heap -> Same s0 s' -> cameBackBy C.M Y.A Y.envF E (.ref x) s' := by
  intro s' B a0 G f up sm
  obtain ⟨_,_,_,oe,vs,tb,ot,ts,he,hc,hd,h1,_⟩ := id f
  unfold cameBackBy
  refine wpAny_bind (wpAny_field he hd h1 ?_)
  rw [if_neg (show ¬ ((Value.ref tb == Value.none) = true) from by simp),Y.frame]
  have go : wpAny C.M Y.A (setFlight (.ref x) (some Y.L)) (fun _ s'' => E (.ref x) s'') E s' := zcD f fun h' f' hs => hE _ (.held B a0 G f' (up.trans hs) ⟨sm.1,sm.2⟩)
  first
   | exact wpAny_bind (wpAny_pure go)
   | exact go
 unfold notedBy
 cases U with
 | made k w' h vs le hr S m sm =>
  have FF := zcN (R.new S.fr)
  obtain ⟨t,he,htn,ht⟩ := m.there
  unfold noteFrame
  simp only [Y.frame]
  refine wpAny_bind (wpAny_field (x:=.none) he rfl rfl ?_)
  rw [if_neg (show ¬ ((Value.none != Value.none) = true) from by decide)]
  have hkb : (hid Y outer h).StaysIn s.heap := fun b o q => m.keeps b o (of_hideAll _ q)
  have hen : (hid Y outer h).get? x = none := by
   cases q : (hid Y outer h).get? x with
   | none => rfl
   | some o => have := of_hideAll _ q; rw [m.new] at this; cases this
  refine wpAny_entryW (a0:=.ref t) R.f (FF.of_keeps fun b o hb _ => ⟨o,m.keeps b o hb,rfl⟩) Y.frame he hkb hen rfl (show 1 < 6 by decide) rfl fun h' N => ?_
  obtain ⟨x1,x2,x3,x4⟩ := N
  exact fin _ _ _ (R.gnd le hr S) ⟨x1,hen,x2,x3⟩ (((Heap.UpToSlots.of_keeps S.fr.keep).trans (Heap.UpToSlots.of_keeps m.keeps)).trans x4) ⟨sm.1,sm.2⟩
 | fly B a0 G f up sm => exact wpAny_looks_onW R.f Y.frame f fun h' f' hs => fin _ B a0 G f' (up.trans hs) ⟨sm.1,sm.2⟩
 | held B a0 G f up sm => exact wpAny_noteFrame_againW Y.frame f.2.2.2 (fin s B a0 G f up sm)
end
noncomputable def CallRz (C : Cfg) (d : Nat) (X : Value) : Prop :=
 ∀ (Y : Actv C d 0) (k : Kp) (w : Wd) (H H' : MH) (s : Shared) (f : Nat) (fa : Addr) (as : List Val) (vs : List Value),St Y k w H s -> C.ad.lookup f = some fa -> zab C w as vs -> C.cr d f as H H' ->
  ∀ (A₀ : Around) (base : Heap) (outer : List Env),Ard Y A₀ base outer -> ∀ R : Result -> Shared -> Prop,(∀ x s',Fly Y X base outer k w H' s x s' -> R (.error (.ref x)) s') -> codeAny C.M Y.A (.call (.ref fa) ⟨vs,[]⟩) R s
noncomputable def ERz (C : Cfg) (d : Nat) (X : Value) (cx : CC) (e : Expr) (ir : Ex) : Prop :=
 ∀ (Y : Actv C d 2) (env : Env) (k : Kp) (mE : Str -> Option Value) (fr : Frame) (w : Wd) (H H' : MH) (s : Shared),Pl Y cx env k mE fr w H s -> RzE (C.cx d) (C.cr d) fr H' (.E ir) H ->
  ∀ (A₀ : Around) (base : Heap) (outer : List Env),Ard Y A₀ base outer -> ∀ (Q : Value -> Shared -> Prop) (E : Value -> Shared -> Prop),(∀ x s',Fly Y X base outer k w H' s x s' -> E (.ref x) s') -> wpAny C.M Y.A (PySem.eval e env) Q E s
noncomputable def SRz (C : Cfg) (d : Nat) (X : Value) (cx : CC) (st : Stmt) (ir : Sm) : Prop :=
 ∀ (Y : Actv C d 2) (k : Kp) (fr : Frame) (w : Wd) (H H' : MH) (s : Shared),PlS Y cx Y.envF k fr w H s -> Rz (C.cx d) (C.cr d) H' (.S ir) fr H ->
  ∀ (A₀ : Around) (base : Heap) (outer : List Env),Ard Y A₀ base outer -> ∀ (Q : Flow -> Shared -> Prop) (E : Value -> Shared -> Prop),(∀ x s',Und Y X base outer k.ex w H' s x s' -> E (.ref x) s') -> wpAny C.M Y.A (PySem.exec st Y.envF) Q E s
noncomputable def BRz (C : Cfg) (d : Nat) (X : Value) (cx : CC) (st : List Stmt) (ir : List Sm) : Prop :=
 ∀ (Y : Actv C d 2) (k : Kp) (fr : Frame) (w : Wd) (H H' : MH) (s : Shared),PlS Y cx Y.envF k fr w H s -> Rz (C.cx d) (C.cr d) H' (.B ir) fr H ->
  ∀ (A₀ : Around) (base : Heap) (outer : List Env),Ard Y A₀ base outer -> ∀ (Q : Flow -> Shared -> Prop) (E : Value -> Shared -> Prop),(∀ x s',Und Y X base outer k.ex w H' s x s' -> E (.ref x) s') -> wpAny C.M Y.A (PySem.execs st Y.envF) Q E s
section
variable {C : Cfg} {d e : Nat} {X : Value} {cx : CC} {gl : List (Str × Val)}
theorem keep_fnR (O : zaG C gl) {f : Nat} {fa : Addr} {as : List Val} {H H' : MH} (hf : C.ad.lookup f = some fa) (e : C.cr d f as H H') : keepIn C.K (.ref fa) = true := by
 cases d with
 | zero => exact e.elim
 | succ d =>
  obtain ⟨fn,_,hfn,_⟩ := e
  obtain ⟨h1,fa',_,_,_,_,_,_,_,_,_,_,_,_,_,_,_,k1,_,_,_,k6,_,_,_⟩ := O.fns _ _ hfn
  rw [h1,hf] at k1
  cases k1
  exact k6
theorem erz_args {es : List Expr} {irs : List Ex} (hc : All2 (fun e ir => Sd C d cx e ir /\ ERz C d X cx e ir) es irs) : ∀ (Y : Actv C d 2) (env : Env) (k : Kp) (mE : Str -> Option Value) (fr : Frame) (w : Wd) (H H' : MH) (s : Shared) (pos : Pos),Pl Y cx env k mE fr w H s -> RzE (C.cx d) (C.cr d) fr H' (.A irs) H ->
  ∀ (A₀ : Around) (base : Heap) (outer : List Env),Ard Y A₀ base outer -> ∀ (Q : List Value -> Shared -> Prop) (E : Value -> Shared -> Prop),(∀ x s',Fly Y X base outer k w H' s x s' -> E (.ref x) s') -> wpAny C.M Y.A (spliced (backTo pos (starEach es env))) Q E s := by
 induction hc with
 | nil => exact fun Y env k mE fr w H H' s pos p r => nomatch r
 | cons h _ ih =>
  intro Y env k mE fr w H H' s pos p r A₀ base outer R Q E hE
  cases r with
  | here q => exact args_cons (h.2 Y env k mE fr w H H' s p q A₀ base outer R _ E hE) (h.1.sy.star _ _)
  | more e1 q => exact args_cons (h.1.es Y env k mE fr w H s p _ e1 _ _ fun w1 a1 s1 n1 r1 => ih Y env k mE fr w1 _ H' s1 pos (p.next n1) q A₀ base outer R _ E fun x s' F => hE x s' (F.back n1.le n1.same)) (h.1.sy.star _ _)
theorem fly_w {Y : Actv C d e} {base : Heap} {outer : List Env} {k : Kp} {w w0 : Wd} {H : MH} {s0 s1 s : Shared} {x : Addr} {Y0 : Actv C d 0} (eh : Y0.h₀ = Y.h₀) (eL : Y0.L = Y.L) (ee : Y0.envF = Y.envF) (F : Fly Y0 X base outer k w H s0 x s) (l : w0.le w) (sm : Same s1 s0) : Fly Y X base outer k w0 H s1 x s := by
 obtain ⟨B,a0,G,f,up,ns,sm'⟩ := F
 exact ⟨B,a0,G.mono l (.refl _),ee ▸ f,eh ▸ up,eL ▸ ns,sm.trans sm'⟩
theorem erz_call (O : zaG C gl) (hR : CallRz C d X) {x : Str} {xp pos : Pos} {ig : Ex} {es : List Expr} {irs : List Ex} (hc2 : All2 (fun e ir => Sd C d cx e ir /\ ERz C d X cx e ir) es irs) (hx : ESnd C d cx (.Name x xp) ig) : ERz C d X cx (.Call (.Name x xp) es [] pos) (.call ig irs) := by
 have hc : Sds C d cx es irs := hc2.mono fun _ _ h => h.1
 intro Y env k mE fr w H H' s p r A₀ base outer R Q E hE
 cases r with
 | call e1 e2 e3 e4 =>
  refine Call_ (hx Y env k mE fr w H s p _ e1 _ _ fun w1 a1 s1 n1 r1 => ?_)
  obtain ⟨ga,rfl,hga⟩ := r1
  exact zav (keep_fnR O hga e4) hc (zaV hc Y env k mE fr w1 _ s1 pos (p.next n1) _ e2 _ _ fun w2 a2 s2 n2 r2 => ⟨n2.st.kIn,wpAny_call (hR Y.toW k w2 _ _ s2 _ ga _ a2 n2.st hga r2 e4 A₀ base outer ⟨R.b,R.f⟩ _ fun x s' F => hE x s' (fly_w rfl rfl rfl F (n1.le.trans n2.le) (n1.same.trans n2.same)))⟩)
 | @new _ _ a kk i vs _ h1 h2 e1 e2 e3 e5 e4 =>
  refine Call_ (hx Y env k mE fr w H s p _ e1 _ _ fun w1 a1 s1 n1 r1 => ?_)
  obtain ⟨ga,rfl,hga⟩ := r1
  obtain ⟨ca',fI,t1,t2,t3,t4,t5,t6⟩ := O.inits _ _ _ e3 e5
  cases Option.some.inj (t1.symm.trans hga)
  refine zav t6 hc (zaV hc Y env k mE fr w1 _ s1 pos (p.next n1) _ e2 _ _ fun w2 a2 s2 n2 r2 => ⟨n2.st.kIn,?_⟩)
  obtain ⟨all,hn,add,_,_⟩ := n2.st.ledger
  refine call_cls n2.st.fr Y.k hn t3 t4 t5 fun x dx h' F' N' l1 l2 => ?_
  have hx4 : 4 <= x := Decidable.byContradiction fun hlt => by
   obtain ⟨o,ho⟩ := O.cfg.low x (Nat.lt_of_not_le hlt)
   have := (N' (x,instObj ga dx) (.head _)).2.2
   rw [Y.k _ _ ho] at this
   cases this
  have le : w2.le ⟨w2.σ ++ [x],w2.tp⟩ := ⟨List.prefix_append _ _,fun _ x => x⟩
  have hS : Sta C Y.h₀ Y.L k ⟨w2.σ ++ [x],w2.tp⟩ (h2 ++ [.inst a []]) h' := by
   refine add x (.inst a []) [(x,instObj ga dx),(dx,dictOf [] 0)] h' ⟨ga,dx,[],0,rfl,hga,rfl,Nat.zero_le _⟩ F' N' ?_ ?_ hx4
   ·exact List.nodup_cons.mpr ⟨fun h => absurd (List.mem_singleton.mp h) (Nat.ne_of_gt l2),zbs _⟩
   ·intro p hp q hq
    have := l1 q hq
    rcases List.mem_cons.mp hp with rfl | hp
    ·exact Nat.ne_of_gt (Nat.lt_trans this l2)
    ·rw [List.mem_singleton.mp hp]; exact Nat.ne_of_gt this
  have hr : (w2.σ ++ [x])[h2.length]? = some x := by rw [<- n2.st.len]; exact List.getElem?_concat_length
  exact hR (Y.underCls ga a2) k ⟨w2.σ ++ [x],w2.tp⟩ (h2 ++ [MObj.inst a []]) _ { s2 with heap := h' } i fI (.ref h2.length :: vs) (.ref x :: a2) hS t2 (.cons ⟨x,rfl,hr⟩ (r2.mono le)) e4 A₀ base outer ⟨R.b,zcP R.f⟩ _ fun b s' F => hE b s' (fly_w rfl rfl rfl F ((n1.le.trans n2.le).trans le) ((n1.same.trans n2.same).trans ⟨rfl,rfl⟩))
 | arg e1 e3 e5 q =>
  refine Call_ (hx Y env k mE fr w H s p _ e1 _ _ fun w1 a1 s1 n1 r1 => ?_)
  obtain ⟨ga,rfl,hga⟩ := r1
  obtain ⟨ca',fI,t1,t2,t3,t4,t5,t6⟩ := O.inits _ _ _ e3 e5
  cases Option.some.inj (t1.symm.trans hga)
  exact zav t6 hc (erz_args hc2 Y env k mE fr w1 _ H' s1 pos (p.next n1) q A₀ base outer R _ E fun x s' F => hE x s' (F.back n1.le n1.same))
theorem erz_meth {o : Expr} {nm : Str} {apos pos : Pos} {io : Ex} {n : Nat} {es : List Expr} {irs : List Ex} (hb : zcw o = true) (ho : ERz C d X cx o io) : ERz C d X cx (.Call (.Attribute o nm apos) es [] pos) (.meth io n irs) := by
 intro Y env k mE fr w H H' s p r A₀ base outer R Q E hE
 cases r with
 | meth q =>
  show wpAny C.M Y.A (do
   let ov <- attributeBase o nm env (PySem.eval o env)
   standAt apos.atName
   methodCall o nm apos pos env ov (es.length + 0) (backTo pos (starEach es env)) (backToKw pos (keywordEach [] env))) Q E s
  rw [zbT hb]
  exact wpAny_bind (ho Y env k mE fr w H H' s p q A₀ base outer R _ E hE)
theorem brz_cons {st : Stmt} {sts : List Stmt} {i : Sm} {is : List Sm} (h1 : SSnd C d cx st i) (r1 : SRz C d X cx st i) (r2 : BRz C d X cx sts is) : BRz C d X cx (st :: sts) (i :: is) := by
 intro Y k fr w H H' s p r A₀ base outer R Q E hE
 cases r with
 | here q => exact wpAny_execs_cons (r1 Y k fr w H H' s p q A₀ base outer R _ E hE)
 | next e q =>
  refine wpAny_execs_cons (h1 Y Y.envF k fr w H s p _ e _ _ fun k1 w1 f1 s1 n1 fr1 => ?_)
  cases fr1
  exact r2 Y k1 _ w1 _ H' s1 n1.pl q A₀ base outer R _ E fun x s' U => hE x s' (n1.ex ▸ U.mono n1.le (.refl _) n1.same)
theorem srz_expr {v : Expr} {pos : Pos} {iv : Ex} (hc : zaE v = false) (hy : Sy v) (hv : ERz C d X cx v iv) : SRz C d X cx (.Expr v pos) (.expr iv) := by
 intro Y k fr w H H' s p r A₀ base outer R Q E hE
 cases r with
 | expr r =>
  rw [exec_Expr Y.envF v pos (by unfold interactive; rw [p.b.kind]; rfl) (hy.swap hc _ _ _)]
  exact wpAny_bind (wpAny_standAt (wpAny_bind (hv Y Y.envF k k.m fr w H H' s p.pl r A₀ base outer R _ E fun x s' F => hE x s' F.und)))
theorem srz_ret {v : Expr} {pos : Pos} {iv : Ex} (hv : ERz C d X cx v iv) : SRz C d X cx (.Return (some v) pos) (.ret iv) := by
 intro Y k fr w H H' s p r A₀ base outer R Q E hE
 cases r with
 | ret r => exact wpAny_Return_some (hv Y Y.envF k k.m fr w H H' s p.pl r A₀ base outer R _ E fun x s' F => hE x s' F.und)
theorem srz_asg {y : Str} {yp pos : Pos} {v : Expr} {i : Nat} {iv : Ex} (hc : zaE v = false) (hy : Sy v) (hv : ERz C d X cx v iv) : SRz C d X cx (.Assign [.Name y yp] v pos) (.asg (.nm i) iv) := by
 intro Y k fr w H H' s p r A₀ base outer R Q E hE
 cases r with
 | asg r => exact wpAny_Assign_Name (hv Y Y.envF k k.m fr w H H' s p.pl r A₀ base outer R _ E fun x s' F => hE x s' F.und) (hy.swap hc _ _ _)
theorem srz_if {t : Expr} {x y : List Stmt} {pos : Pos} {it : Ex} {ix iy : List Sm} (ht : TSnd C d cx t it) (hx : BRz C d X cx x ix) (hy : BRz C d X cx y iy) : SRz C d X cx (.If t x y pos) (.ite it ix iy) := by
 intro Y k fr w H H' s p r A₀ base outer R Q E hE
 cases r with
 | @ite _ _ _ _ _ b h1 e q =>
  refine wpAny_If (ht Y Y.envF k k.m fr w H s p.pl _ e _ _ fun w1 a1 s1 n1 r1 => ?_)
  rw [show a1 = b from r1]
  have back : ∀ x s',Und Y X base outer k.ex w1 H' s1 x s' -> E (.ref x) s' := fun x s' U => hE x s' (U.mono n1.le (.refl _) n1.same)
  cases b with
  | true => exact hx Y k fr w1 h1 H' s1 (p.next n1) q A₀ base outer R _ E back
  | false => exact hy Y k fr w1 h1 H' s1 (p.next n1) q A₀ base outer R _ E back
inductive FoRz {C : Cfg} {d : Nat} (Y : Actv C d 2) (cx : CC) (ex : Led) (w0 : Wd) (s0 : Shared) (I : Addr) (z : It) (sl : List Nat) (many : Bool) (ib : List Sm) (H' : MH) (n : Nat) (s : Shared) : Prop
 | mk (k : Kp) (fr : Frame) (w : Wd) (H : MH) (j : Nat) (io : Obj) (ex' : k.ex = ex) (le : w0.le w) (p : PlS Y cx Y.envF (k.ext (I,io)) fr w H s) (it : zbB C w io j z) (sm : Same s0 s) (q : Rz (C.cx d) (C.cr d) H' (.L z sl many ib n j) fr H) : FoRz Y cx ex w0 s0 I z sl many ib H' n s
theorem srz_for {t : Expr} {pos : Pos} {it : Expr} {b : List Stmt} {q : List Str × Bool} {sl : List Nat} {ii : Ex} {ib : List Sm} (ht : tgtOf t = some q) (hsl : All2 (zb0 cx) q.1 sl) (hi : Sd C d cx it ii) (hb : zcB C d cx b ib) (rb : BRz C d X cx b ib) : SRz C d X cx (.For t it b [] pos) (.fo sl q.2 ii ib) := by
 intro Y k fr w H H' s p r A₀ base outer R Q E hE
 cases r with
 | @fo _ _ _ _ _ _ u H1 z n e1 hz rz =>
 refine wpAny_For (hi.es Y Y.envF k k.m fr w H s p.pl _ e1 _ _ fun w1 a1 s1 n1 r1 => zc1 n1.st r1 (fun I io h2 S2 R2 => ?_) hz) (hi.sy.fold Y.envF)
 refine codeAny_forLoop_any (fun n s' => FoRz Y cx k.ex w s I z sl q.2 ib H' n s') ?_ n ⟨k,fr,w1,H1,0,io,rfl,n1.le,⟨p.b,p.c,(p.next n1).f,S2⟩,R2,⟨n1.same.1,n1.same.2⟩,rz⟩
 clear rz R2 S2 r1 n1 e1 hz
 rintro n s' ⟨k3,fr3,w3,H3,j,io3,ex3,le3,p3,R3,sm3,rz⟩
 have out : ∀ {w5 : Wd} {s5 : Shared} {ex5 : Led},w3.le w5 -> Same s' s5 -> k3.ex.Sublist ex5 -> ∀ x s6,Und Y X base outer ex5 w5 H' s5 x s6 -> notedBy C.M Y.A Y.envF (fun e s' => cameBackBy C.M Y.A Y.envF E e s') (.ref x) s6 := fun {w5 s5 ex5} l5 sm5 hs5 x s6 U =>
  (U.mono (l:=le3.trans l5) (hs:=hs5) (sm:=sm3.trans sm5)).on R fun s7 U7 => hE x s7 (ex3 ▸ U7)
 cases rz with
 | @last _ _ _ _ _ _ _ v f1 e1 e2 rq =>
  refine zb6 p3.st R3 e1 ⟨fun v' rv io4 h' tk hv S4 R4 hr => ?_,fun h' hv S4 => nomatch hv⟩
  cases hv
  refine zbn (s:={ s' with heap := h',toks := tk }) S4.exHead.1 R4.cls ?_
  have p4 : PlS Y cx Y.envF (k3.ext (I,io4)) fr3 w3 H3 { s' with heap := h',toks := tk } := ⟨p3.b,p3.c,p3.f,S4⟩
  refine zbA p4 ht hsl hr e2 fun k5 s5 n5 => ?_
  refine rb Y k5 f1 w3 H3 H' s5 n5.pl rq A₀ base outer R _ _ (out (.refl _) ⟨n5.same.1,n5.same.2⟩ ?_)
  rw [n5.ex]; exact List.sublist_cons_self _ _
 | @turn _ _ _ _ _ _ m _ v f1 f2 h2 e1 e2 e3 rq =>
  refine zb6 p3.st R3 e1 ⟨fun v' rv io4 h' tk hv S4 R4 hr => ?_,fun h' hv S4 => nomatch hv⟩
  cases hv
  refine zbn (s:={ s' with heap := h',toks := tk }) S4.exHead.1 R4.cls ?_
  have p4 : PlS Y cx Y.envF (k3.ext (I,io4)) fr3 w3 H3 { s' with heap := h',toks := tk } := ⟨p3.b,p3.c,p3.f,S4⟩
  refine zbA p4 ht hsl hr e2 fun k5 s5 n5 => ?_
  refine hb Y Y.envF k5 f1 w3 H3 s5 n5.pl _ e3 _ _ fun k6 w6 g6 s6 n6 r6 => ?_
  have n6' := n5.trans n6
  obtain ⟨ce6,ex6,m6⟩ := k6
  cases n6'.ex
  cases r6
  exact ⟨m,Nat.lt_succ_self m,⟨ce6,k3.ex,m6⟩,f2,w6,h2,j + 1,io4,ex3,le3.trans n6'.le,n6'.pl,R4.mono n6'.le,sm3.trans ⟨n6'.same.1,n6'.same.2⟩,rq⟩
inductive WhRz {C : Cfg} {d : Nat} (Y : Actv C d 2) (cx : CC) (ex : Led) (w0 : Wd) (s0 : Shared) (it : Ex) (ib : List Sm) (H' : MH) (n : Nat) (s : Shared) : Prop
 | mk (k : Kp) (fr : Frame) (w : Wd) (H : MH) (n' : NxS Y cx Y.envF ex w0 s0 k fr w H s) (q : Rz (C.cx d) (C.cr d) H' (.W it ib n) fr H) : WhRz Y cx ex w0 s0 it ib H' n s
theorem srz_while {t : Expr} {b : List Stmt} {pos : Pos} {it : Ex} {ib : List Sm} (ht : TSnd C d cx t it) (hb : zcB C d cx b ib) (rb : BRz C d X cx b ib) : SRz C d X cx (.While t b [] pos) (.wh it ib) := by
 intro Y k fr w H H' s p r A₀ base outer R Q E hE
 cases r with
 | @wh _ _ _ _ n rz =>
 refine wpAny_While (codeAny_whileLoop (fun n s' => WhRz Y cx k.ex w s it ib H' n s') ?_ n ⟨k,fr,w,H,p.rf,rz⟩)
 clear rz
 rintro n s' ⟨k1,fr1,w1,H1,n1,rz⟩
 have out : ∀ {w5 : Wd} {s5 : Shared} {k5 : Kp} {fr5 : Frame} {H5 : MH},NxS Y cx Y.envF k.ex w s k5 fr5 w5 H5 s5 -> ∀ x s6,Und Y X base outer k5.ex w5 H' s5 x s6 -> notedBy C.M Y.A Y.envF (fun e s' => cameBackBy C.M Y.A Y.envF E e s') (.ref x) s6 := fun {w5 s5 k5 fr5 H5} n5 x s6 U =>
  (U.mono (l:=n5.le) (hs:=.refl _) (sm:=n5.same)).on R fun s7 U7 => hE x s7 (n5.ex ▸ U7)
 cases rz with
 | @wlast _ _ _ _ h1 e q =>
  refine ht Y Y.envF k1 k1.m fr1 w1 H1 s' n1.pl.pl _ e _ _ fun w2 a2 s2 n2 r2 => ?_
  rw [show a2 = true from r2,if_pos rfl]
  have n2' := n1.trans (n1.pl.nx n2)
  exact rb Y k1 fr1 w2 h1 H' s2 n2'.pl q A₀ base outer R _ _ (out n2')
 | @wturn _ _ _ _ m h1 f2 h2 e e3 q =>
  refine ht Y Y.envF k1 k1.m fr1 w1 H1 s' n1.pl.pl _ e _ _ fun w2 a2 s2 n2 r2 => ?_
  rw [show a2 = true from r2,if_pos rfl]
  have n2' := n1.trans (n1.pl.nx n2)
  refine hb Y Y.envF k1 fr1 w2 h1 s2 n2'.pl _ e3 _ _ fun k3 w3 f3 s3 n3 r3 => ?_
  cases r3
  exact ⟨m,Nat.lt_succ_self m,k3,f2,w3,h2,n2'.trans n3,q⟩
end
end Mi
namespace Mi
open PySem PySem.W PySem.Calls PyProof.Rows
section
variable {C : Cfg} {d e : Nat} {cx : CC} {gl : List (Str × Val)} {Ca : Addr}
theorem srz_raise (XO : XOk C Ca) {a : Expr} {i : Ex} {xp cp pos : Pos} (hk : cx.sc.lookup xName = some .globalImplicit) (ha : Sd C d cx a i) : SRz C d (.ref Ca) cx (.Raise (some (.Call (.Name xName xp) [a] [] cp)) none pos) (.rse i) := by
 intro Y k fr w H H' s p r A₀ base outer R Q E hE
 cases r with
 | @rse _ _ _ v e =>
 obtain ⟨_,loose,mean,mg,mb,T⟩ := Y.top
 have O := own_of_in Y.k (topRead_of T) XO.gl XO.ex
 obtain ⟨tl,N,nm,q,bs,hdct,sn,sub,ab,col,dd,k0,k1,k2,k3,k5,mN,hC,hN,hni,TT⟩ := O.obj
 have hc : Sds C d cx [a] [i] := .cons ha .nil
 refine wpAny_Raise_call_subT (C:=Ca) (nm:=nm) (q:=q) (N:=N) (bs:=bs) (bm:=tl) (hdct:=hdct) (sn:=sn) (sub:=sub) (ab:=ab) (col:=col) (dd:=dd) (k0:=k0) (k1:=k1) (k2:=k2) (k3:=k3) (k5:=k5)
  PySem.F.excBase_ValueError (mN:=mN) (TT.hasType PySem.F.excBase_ValueError.hasBase) Y.handled (zal hc) hni ?_
 refine Name_function_global p.b.kind (p.pl.b.kindOf hk) ?_ (by decide)
 have tg := T.g.keeps p.st.fr.keep
 rw [<- p.b.gl] at tg
 refine loadGlobal_global tg (mg_of Y.k T.g XO.gl) ⟨rfl,zaF (zal hc) ?_⟩
 have ev : zaT (C.cx d) [i] fr H = some ([v],H') := by
  show bnd (eval (C.cx d) i fr H) (fun v h1 => bnd (some ([],h1)) fun vs h2 => some (v :: vs,h2)) = _
  rw [e]; rfl
 exact zaV hc Y Y.envF k k.m fr w H s cp p.pl _ ev _ _ fun w2 a2 s2 n2 r2 => ⟨rfl,(show a2.length <= sizeLine by rw [<- r2.length]; exact (by decide : 1 <= sizeLine)),n2.st.fr.keep _ _ hC,hN.keeps n2.st.fr.keep,TT.keeps n2.st.fr.keep,fun h' x m => hE x _ (.made k w2 s2.heap a2 n2.le (List.sublist_append_right _ _) n2.st m ⟨n2.same.1,n2.same.2⟩)⟩
inductive CalF (cx : CC) (n : Nat) (e : Expr) (ir : Ex) : Prop
 | name (x : Str) (xp pos : Pos) (es : List Expr) (f : Ex) (as : List Ex) (ei : ir = .call f as) (ee : e = .Call (.Name x xp) es [] pos) (hx : nameE cx x = some f) (hs : mapO (compE n cx) es = some as) : CalF cx n e ir
 | meth (o : Expr) (nm : Str) (apos pos : Pos) (es : List Expr) (io : Ex) (m : Nat) (as : List Ex) (ei : ir = .meth io m as) (ee : e = .Call (.Attribute o nm apos) es [] pos) (hb : zcw o = true) (ho : compE n cx o = some io) : CalF cx n e ir
noncomputable def isCl (ir : Ex) : Bool := match ir with
 | .call _ _ => true
 | .meth _ _ _ => true
 | _ => false
theorem comp_call {n : Nat} {e : Expr} {ir : Ex} (hcl : isCl ir = true) (h : compE (n + 1) cx e = some ir) : CalF cx n e ir := by
 ·cases e with
  | Constant c m pos => obtain ⟨_,_,e⟩ := ms h; subst e; cases hcl
  | Name x pos =>
   obtain ⟨_,h⟩ := gs h
   cases hv : zaS cx x with
   | none =>
    rw [hv] at h
    obtain ⟨_,h⟩ := gs h
    obtain ⟨_,_,e⟩ := ms h; subst e; cases hcl
   | some i => rw [hv] at h; cases h; cases hcl
  | BoolOp op vs pos => obtain ⟨_,_,e⟩ := ms h; subst e; cases hcl
  | BinOp l op r pos =>
   obtain ⟨_,_,h⟩ := bs h
   obtain ⟨_,_,h⟩ := bs h
   obtain ⟨_,_,e⟩ := ms h; subst e; cases hcl
  | UnaryOp op x pos =>
   obtain ⟨_,h⟩ := gs h
   obtain ⟨_,_,e⟩ := ms h; subst e; cases hcl
  | IfExp t x y pos =>
   obtain ⟨_,_,h⟩ := bs h
   obtain ⟨_,_,h⟩ := bs h
   obtain ⟨_,_,e⟩ := ms h; subst e; cases hcl
  | List es pos =>
   obtain ⟨_,h⟩ := gs h
   obtain ⟨_,_,e⟩ := ms h; subst e; cases hcl
  | Tuple es m pos =>
   obtain ⟨_,h⟩ := gs h
   obtain ⟨_,_,e⟩ := ms h; subst e; cases hcl
  | Compare l ops cs pos =>
   obtain ⟨_,_,h⟩ := zaP h
   obtain ⟨_,_,h⟩ := zaP h
   obtain ⟨_,_,h⟩ := bs h
   obtain ⟨_,_,e⟩ := ms h; subst e; cases hcl
  | Call g es ks pos =>
   obtain ⟨hk,h1⟩ := gs h
   obtain ⟨bs',hb,h2⟩ := bs h1
   clear h h1
   have hk := Bool.and_eq_true_iff.mp hk
   cases ks with
   | cons _ _ => cases hk.1
   | nil =>
    revert h2
    refine zao (bs_r fun p hp => ms_r fun g' hg e => ?_) (bs_r fun p hp => gs_r fun hc => ms_r fun io ho e => ?_)
    ·rw [zaD hp]
     exact .name p.1 p.2 pos es g' bs' e.symm rfl hg hb
    ·rw [zcc hp]
     exact .meth p.1 p.2.1 p.2.2 pos es io _ bs' e.symm rfl (Bool.and_eq_true_iff.mp (Bool.and_eq_true_iff.mp hc).1).2 ho
  | Attribute v nm pos =>
   obtain ⟨_,h⟩ := gs h
   obtain ⟨_,_,e⟩ := ms h; subst e; cases hcl
  | Subscript v sl pos =>
   have h : subE (compE n cx) v sl = some ir := h
   unfold subE at h
   cases hs : zbU sl with
   | none =>
    rw [hs] at h
    obtain ⟨_,_,h⟩ := bs h
    obtain ⟨_,_,e⟩ := ms h; subst e; cases hcl
   | some p =>
    rw [hs] at h
    obtain ⟨_,h⟩ := gs h
    obtain ⟨_,_,h⟩ := bs h
    obtain ⟨_,_,e⟩ := ms h; subst e; cases hcl
  | Dict ks vs pos =>
   obtain ⟨_,h⟩ := gs h
   obtain ⟨_,_,h⟩ := bs h
   obtain ⟨_,_,e⟩ := ms h; subst e; cases hcl
  | ListComp elt gens sc pos =>
   obtain ⟨_,_,h⟩ := zaP h
   obtain ⟨_,_,h⟩ := bs h
   obtain ⟨_,h⟩ := gs h
   obtain ⟨_,_,h⟩ := bs h
   obtain ⟨_,_,h⟩ := bs h
   obtain ⟨_,_,e⟩ := ms h; subst e; cases hcl
  | _ => exact nos h
theorem rzE_cl {c : Cx} {cr : CRz} {fr : Frame} {H H' : MH} {ir : Ex} (r : RzE c cr fr H' (.E ir) H) : isCl ir = true := by cases r <;> rfl
theorem erz_all (O : zaG C gl) (hC : zaI C d) (hR : CallRz C d (.ref Ca)) (hg : GlOk C cx.gl) (hcc : CcOk cx) : ∀ (n : Nat) {v : Expr} {iv : Ex},compE n cx v = some iv -> ERz C d (.ref Ca) cx v iv := by
 intro n
 induction n with
 | zero => exact fun h => nos h
 | succ n ih =>
  intro v iv h Y env k mE fr w H H' s p r
  cases comp_call (rzE_cl r) h with
  | name x xp pos es f as ei ee hx hs =>
   subst ei ee
   exact erz_call O hR ((zbg hs).mono fun _ _ h => ⟨zbV O hC n cx hg hcc _ _ h,ih h⟩) (zc0 hg hx) Y env k mE fr w H H' s p r
  | meth o nm apos pos es io m as ei ee hb ho =>
   subst ei ee
   exact erz_meth hb (ih ho) Y env k mE fr w H H' s p r
theorem erz_of (O : zaG C gl) (hC : zaI C d) (hR : CallRz C d (.ref Ca)) (hg : GlOk C cx.gl) (hcc : CcOk cx) {v : Expr} {iv : Ex} (h : compX cx v = some iv) : ERz C d (.ref Ca) cx v iv := erz_all O hC hR hg hcc 60 h
noncomputable def canRz (s : Sm) : Bool := Sm.casesOn (motive_1:=fun _ => Bool) s (fun _ => true) (fun t _ => T1.casesOn (motive:=fun _ => Bool) t (fun _ => true) (fun _ _ => false) fun _ _ => false) (fun _ _ => false) (fun _ => true) (fun _ _ _ => true) (fun _ _ => true) (fun _ _ _ _ => true) false false false false (fun _ => true) fun _ _ _ _ => false
theorem rz_can {c : Cx} {cr : CRz} {H h : MH} {fr : Frame} {s : Sm} (r : Rz c cr H (.S s) fr h) : canRz s = true := by cases r <;> rfl
theorem rz_nil {c : Cx} {cr : CRz} {H h : MH} {fr : Frame} (r : Rz c cr H (.B []) fr h) : False := by cases r
theorem rz_lit {c : Cx} {cr : CRz} {H h : MH} {fr : Frame} {v : Val} (r : Rz c cr H (.S (.ret (.lit v))) fr h) : False := by cases r with | ret r => cases r
theorem zbF {cx : CC} {K : Value} {st : Stmt} {ir : Sm} (h : canRz ir = false) : SRz C d K cx st ir := fun _ _ _ _ _ _ _ _ r => absurd (h.symm.trans (rz_can r)) Bool.false_ne_true
theorem all_srz (O : zaG C gl) (XO : XOk C Ca) (hC : zaI C d) (hR : CallRz C d (.ref Ca)) (hg : GlOk C cx.gl) (hcc : CcOk cx) : ∀ (n : Nat),(∀ (st : Stmt) (ir : Sm),compS n cx st = some ir -> SRz C d (.ref Ca) cx st ir) /\ ∀ (sts : List Stmt) (irs : List Sm),mapO (fun s => some ((compS n cx s).getD .raise)) sts = some irs -> BRz C d (.ref Ca) cx sts irs := by
 intro n
 have hE : ∀ {e ir},compX cx e = some ir -> Sd C d cx e ir := fun h => zbV O hC 60 cx hg hcc _ _ h
 have hX : ∀ {e ir},compX cx e = some ir -> ERz C d (.ref Ca) cx e ir := fun h => erz_of O hC hR hg hcc h
 have noC : ∀ {e ir fr H H'},compX cx e = some ir -> RzE (C.cx d) (C.cr d) fr H' (.E ir) H -> zaE e = false := fun h r => by
  cases comp_call (n:=59) (rzE_cl r) h with
  | name x xp pos es f as ei ee hx hs => subst ee; rfl
  | meth o nm apos pos es io m as ei ee hb ho => subst ee; rfl
 have lists : ∀ {n : Nat},(∀ (st : Stmt) (ir : Sm),compS n cx st = some ir -> SRz C d (.ref Ca) cx st ir) -> ∀ (sts : List Stmt) (irs : List Sm),mapO (fun s => some ((compS n cx s).getD .raise)) sts = some irs -> BRz C d (.ref Ca) cx sts irs := by
  intro n h sts irs e
  induction zbg e with
  | nil => exact fun Y k fr w H H' s p r => (rz_nil r).elim
  | @cons st i _ _ h1 h2 ih =>
   have rest := ih (by
    obtain ⟨b,_,e⟩ := bs e
    obtain ⟨c,h3,e⟩ := ms e
    cases e; exact h3)
   cases hs : compS n cx st with
   | some i' => rw [hs] at h1; cases h1; exact brz_cons ((zcd O hC hg hcc n).1 st _ hs) (h st _ hs) rest
   | none => rw [hs] at h1; cases h1; exact brz_cons (fun Y env k fr w H s p r e => nos e) (zbF rfl) rest
 have st : ∀ (st : Stmt) (ir : Sm),compS n cx st = some ir -> SRz C d (.ref Ca) cx st ir := by
  induction n with
  | zero => exact fun st ir h => nos h
  | succ n ih =>
   have ihs := lists ih
   have ihb := (zcd O hC hg hcc n).2
   intro st ir
   cases st with
   | Pass pos => intro h; cases h; exact zbF rfl
   | Break pos => intro h; cases h; exact zbF rfl
   | Continue pos => intro h; cases h; exact zbF rfl
   | Return v pos =>
    intro h
    cases v with
    | none =>
     cases h
     exact fun Y k fr w H H' s p r => (rz_lit r).elim
    | some e => obtain ⟨i,hi,rfl⟩ := ms h; exact srz_ret (hX hi)
   | Assign ts v pos =>
    intro h
    obtain ⟨t,rfl,h⟩ := zaP h
    have h : Option.casesOn (motive:=fun _ => Option Sm) (zbM t) ((compT1 cx t).bind fun a => (compX cx v).map fun b => .asg a b) (fun p => grd (valOk v) ((compX cx v).bind fun b => alt ((namesN p.1).bind fun xs => (mapO (zbY cx) xs).map fun is => .asgs (is.map .nm) b) (grd (!p.1.isEmpty) ((mapO (compA1 cx) p.1).map fun ts => .asgs (ts.map fun q => .at q.1 q.2) b)))) = some ir := h
    cases ht : zbM t with
    | some p =>
     rw [ht] at h
     revert h
     refine gs_r fun _ => bs_r fun b _ => zao (bs_r fun xs _ => ms_r fun is _ e => ?_) (gs_r fun _ => ms_r fun ts _ e => ?_)
     ·subst e; exact zbF rfl
     ·subst e; exact zbF rfl
    | none =>
     rw [ht] at h
     obtain ⟨a,ha,h⟩ := bs h
     obtain ⟨b,hb,rfl⟩ := ms h
     revert ha
     refine zao (bs_r fun p hp => gs_r fun _ => ms_r fun i hi e => ?_) (zao (bs_r fun p hp => gs_r fun hn => ms_r fun i hi e => ?_) (bs_r fun p hp => bs_r fun i hi => ms_r fun j hj e => ?_))
     ·rw [<- e,zaD hp]
      exact fun Y k fr w H H' s p r => srz_asg (by cases r with | asg r => exact noC hb r) (hE hb).sy (hX hb) Y k fr w H H' s p r
     ·subst e; exact zbF rfl
     ·subst e; exact zbF rfl
   | If t x y pos => exact bs_r fun a ha => bs_r fun b hb => ms_r fun c hc e => e ▸ srz_if (hE ha).ts (ihs _ _ hb) (ihs _ _ hc)
   | While t b e pos =>
    refine gs_r fun he => bs_r fun a ha => ms_r fun c hc e' => ?_
    cases e with
    | nil => exact e' ▸ srz_while (hE ha).ts (ihb _ _ hc) (ihs _ _ hc)
    | cons _ _ => cases he
   | For t it b e pos =>
    refine gs_r fun he => bs_r fun q hq => gs_r fun _ => bs_r fun a ha => bs_r fun sl hs => ms_r fun c hc e' => ?_
    cases e with
    | nil => exact e' ▸ srz_for hq (slots_s hs) (hE ha) (ihb _ _ hc) (ihs _ _ hc)
    | cons _ _ => cases he
   | Expr v pos => exact gs_r fun hc => ms_r fun i hi e => e ▸ srz_expr (by cases hq : zaE v; rfl; rw [hq] at hc; cases hc) (hE hi).sy (hX hi)
   | Raise o c pos =>
    intro h
    obtain ⟨hcn,h1⟩ := gs h
    obtain ⟨e,eo,h2⟩ := bs h1
    obtain ⟨p,hp,h3⟩ := bs h2
    obtain ⟨hks,h4⟩ := gs h3
    obtain ⟨q,hq,h5⟩ := bs h4
    obtain ⟨hx,h6⟩ := gs h5
    obtain ⟨a,ea,h7⟩ := zaP h6
    obtain ⟨i,hi,ei⟩ := ms h7
    clear h h1 h2 h3 h4 h5 h6 h7
    subst eo ei
    have hx := Bool.and_eq_true_iff.mp hx
    have e1 := asCall_s hp
    have e2 := zaD hq
    have e3 := beq_iff_eq.mp hx.1
    obtain ⟨pf,pa,pk,pp⟩ := p
    obtain ⟨qx,qp⟩ := q
    dsimp only at *
    cases Option.isNone_iff_eq_none.mp hcn
    cases List.isEmpty_iff.mp hks
    subst e1 e2 e3 ea
    exact srz_raise XO (beq_iff_eq.mp hx.2) (hE hi)
   | Try b hs e f pos => exact gs_r fun _ h => by obtain ⟨x,i,y,v,rfl⟩ := tryE_tr h; exact zbF rfl
   | _ => exact fun h => nos h
 exact ⟨st,lists st⟩
theorem call_rz (O : zaG C gl) (XO : XOk C Ca) : ∀ d,CallRz C d (.ref Ca) := by
 intro d
 induction d with
 | zero => exact fun Y k w H H' s f fa as vs S hf rr e => e.elim
 | succ d ih =>
  intro Y k w H H' s f fa as vs S hf rr e A₀ base outer R Rs hE
  obtain ⟨fn,ws,hfn,hargs,rz⟩ := e
  obtain ⟨hfa,ad,name,qual,params,body,scope,dV,kV,doc,pm,an,cdv,ct,oc,od,osl,k1,k2,k3,k4,k6,k7,k8,k10⟩ := O.fns _ _ hfn
  rw [hfa,hf] at k1
  cases k1
  obtain ⟨us,ru,hlen,hbt⟩ := args_s S.kIn k7 rr hargs
  obtain ⟨hkind,hgen,hco,hps,hbd,hnp⟩ := zcb k4
  obtain ⟨p,loose,mean,mg,mb,T⟩ := Y.top
  obtain ⟨os,he,hn,hd⟩ := S.os
  refine code_defC (binds:=(params.args.map (·.arg)).zip us) R.b S.fr Y.k hn T R.f Y.frame Y.kind k2 k3 (by have := Y.depth; show Y.A.depth < 1000; omega) hbt ?_ k10 (fun g L' h₁ tk cells FG F' N' Yc B' Xg Tg hlt => ?_) hco hgen hkind
  ·rw [List.all_eq_true]
   intro y hy
   rw [Bool.or_eq_true,beq_iff_eq,beq_iff_eq]
   exact hps y.1 (List.of_mem_zip hy).1
  let Y' : Actv C d 2 := ⟨Y.A.deeper (envOfC qual scope L' fa cdv),g,L',envOfC qual scope L' fa cdv,⟨Y.A,base,Y.envF :: outer,B',Around.frames_deeper R.f⟩,Xg,⟨p,loose,mean,mg,mb,Tg⟩,rfl,hkind,Y.handled,by have := Y.depth; show Y.A.depth + 1 + 4 * d + 2 + 2 <= 900; omega,by have := Y.units; show Y.A.units + 3 + 20 * d + 190 + 5 * 2 <= 9900; omega⟩
  obtain ⟨hcn,hcl⟩ := zaZ (L' + 1) scope.names (L' + 1) [] (Nat.le_refl _) .nil fun _ h => absurd h List.not_mem_nil
  have pm' : ∀ cells : Led,(os.flatten ++ (w.tp ++ (cells ++ (k.ce ++ k.ex)))).Perm (cells ++ (os.flatten ++ (w.tp ++ (k.ce ++ k.ex)))) := fun cells => (List.Perm.append_left _ (List.perm_append_comm_assoc _ _ _)).trans (List.perm_append_comm_assoc _ _ _)
  have S' : St Y' ⟨cells,k.ce ++ k.ex,bindL (envOfC qual scope L' fa cdv).kindOf ((params.args.map (·.arg)).zip us) fun _ => none⟩ w H { s with heap := h₁,toks := tk } := by
   refine ⟨F',⟨os,he,fun p hp => N' p ((pm' cells).mem_iff.mp hp),Led.nd.perm (pm' cells).symm (nd_app ?_ hd fun x hx y hy e => ?_)⟩,Nat.le_trans S.big (Nat.le_trans FG.above (Nat.le_of_lt FG.ns.lt)),S.lo⟩
   ·unfold Led.nd; rw [zbj Yc]; exact hcn
   ·have hx' : x.1 ∈ cells.map (·.1) := List.mem_map.mpr ⟨x,hx,rfl⟩
    rw [zbj Yc] at hx'
    obtain ⟨q,hq1,e1⟩ := List.mem_map.mp hx'
    exact absurd (Nat.lt_of_lt_of_le (hlt y hy) (Nat.le_of_succ_le (hcl q hq1))) (by rw [e1,e]; exact Nat.lt_irrefl _)
  have P := zc9 (Y:=Y') (gl:=gl) (fn:=fn) (ex:=k.ce ++ k.ex) hkind k8 ru (hlen.trans hnp.symm) Yc S'
  have R' : Ard Y' Y.A base (Y.envF :: outer) := ⟨B',Around.frames_deeper R.f⟩
  refine (all_srz O XO (call_snd O d) ih O.glob (ccOk_fn _ _ _) 40).2 _ _ hbd Y' _ _ _ _ _ _ P rz Y.A base (Y.envF :: outer) R' _ _ fun x s' U => ?_
  exact U.leave R' fun B a0 h' G f up sm => hE x _ ⟨B,a0,G,f,(Heap.UpToSlots.of_keeps FG.keep).trans up,up.ns FG.ns,⟨sm.1,sm.2⟩⟩
end
end Mi
namespace Mi
open PySem PySem.W PySem.Calls PyProof.Rows
section
variable {C : Cfg} {d : Nat} {cx : CC} {gl : List (Str × Val)} {Ca : Addr}
theorem const_wp {M : Model} {A : Around} {env : Env} {s : Shared} {c : Const} {n : Nat} {pos : Pos} {v : Val} (hc : constV c = some v) {Q : Value -> Shared -> Prop} {E : Value -> Shared -> Prop} (h : ∀ rv tk,(∀ w,VRel C w v rv) -> Q rv { s with toks := tk }) : wpAny M A (PySem.eval (.Constant c n pos) env) Q E s := by
 cases c with
 | none => cases hc; exact wpAny_pure (h _ s.toks fun _ => rfl)
 | bool b => cases hc; exact wpAny_pure (h _ s.toks fun _ => rfl)
 | int i => cases hc; exact fun _ _ _ => h _ _ fun _ => ⟨_,rfl⟩
 | str x =>
  obtain ⟨hk,e⟩ := gs hc
  cases e
  exact fun _ _ _ => h _ _ fun _ => ⟨_,by rw [Array.toArray_toList],sOkB_s hk⟩
 | _ => exact nos hc
theorem str_pass {Y : Actv C d 2} {k : Kp} {fr : Frame} {w : Wd} {H H1 : MH} {s : Shared} (p : PlS Y cx Y.envF k fr w H s) {x : Str} {xp p1 pos : Pos} {v : Expr} {iv : Ex} {i : Nat} {u : Val} {h0 : ExceptHandler} (hi : zaS cx x = some i) (hc : zaE v = false) (hv : Sd C d cx v iv) (e : eval (C.cx d) iv fr H = some (u,H1))
  {Q : Flow -> Shared -> Prop} {E : Value -> Shared -> Prop} (hq : ∀ k' w' s',NxS Y cx Y.envF k.ex w s k' (fr.set i (some u)) w' H1 s' -> Q .next s') : wpAny C.M Y.A (PySem.exec (.Try [.Assign [.Name x xp] v p1] [h0] [] [] pos) Y.envF) Q E s := by
 refine wpAny_Try_except (wpAny_execs_cons (wpAny_Assign_Name (hv.es Y Y.envF k k.m fr w H s p.pl _ e _ _ fun w1 a1 s1 n1 r1 => zaL (p.next n1) hi r1 fun k' s' n2 => ?_) (hv.sy.swap hc _ _ _)))
 exact wpAny_execs_nil (wpAny_execs_nil (hq k' w1 s' ((p.nx n1).trans n2)))
theorem str_exc (XO : XOk C Ca) {Y : Actv C d 2} {A₀ : Around} {k : Kp} {fr : Frame} {w : Wd} {H H1 : MH} {s : Shared} (p : PlS Y cx Y.envF k fr w H s) (R : Ard Y A₀ Y.h₀ []) {x y : Str} {xp yp p1 p2 p3 p4 p5 pos : Pos} {v : Expr} {iv : Ex} {j n : Nat} {c : Const} {u : Val} (hk : cx.sc.lookup vName = some .globalImplicit) (hj : zaS cx y = some j) (hu : constV c = some u) (hc : zaE v = false) (hy : Sy v) (hv : ERz C d (.ref Ca) cx v iv) (e : RzE (C.cx d) (C.cr d) fr H1 (.E iv) H)
  {Q : Flow -> Shared -> Prop} {E : Value -> Shared -> Prop} (hq : ∀ k' w' s',NxS Y cx Y.envF k.ex w s k' (fr.set j (some u)) w' H1 s' -> Q .next s') : wpAny C.M Y.A (PySem.exec (.Try [.Assign [.Name x xp] v p1] [.ExceptHandler (some (.Name vName p2)) none [.Assign [.Name y yp] (.Constant c n p3) p4] p5] [] [] pos) Y.envF) Q E s := by
 refine wpAny_Try_except (wpAny_execs_cons (wpAny_Assign_Name (hv Y Y.envF k k.m fr w H H1 s p.pl e A₀ Y.h₀ [] R _ _ fun b s1 F => ?_) (hy.swap hc _ _ _)))
 obtain ⟨B,a0,G,f,up,ns,sm⟩ := F
 obtain ⟨stB,w',os,le,he,hn,hd,lo⟩ := G
 refine wpAny_looks_onW R.f Y.frame f fun h1 f1 u1 => wpAny_landsW f1 fun h2 f2 u2 => ?_
 obtain ⟨_,loose,mean,mg,mb,T⟩ := Y.top
 have kp : ∀ q o,Y.h₀.get? q = some o -> h2.get? q = some o := fun q o e => f2.1 _ _ (stB _ _ e)
 refine wpAny_handleBy_cons (codeAny_handlers_test (Name_function_global p.b.kind (p.pl.b.kindOf hk) ?_ (by decide))) (by intro q; cases q)
 have tg := T.g.keeps kp
 rw [<- p.b.gl] at tg
 have tb := T.b.keeps kp
 rw [<- p.b.bl] at tb
 refine loadGlobal_builtin tg (mg_none_of Y.k T.g XO.ve) tb ((T.builtins vName (by decide)).trans (show bootBuiltins vName = some (.type "ValueError") by decide +kernel)) ?_
 have LT : Looks C.M h2 (PySem.typeOf (.ref b)) (.ref Ca) := by
  obtain ⟨ob,hob,hc⟩ := f2.there
  rw [<- hc]
  exact (Looks.ld hob).andThen .now
 refine (exm_one (Y.k.keeps kp) LT XO.m).here ?_
 refine codeAny_handlers_suite (lands_againW f2 fun h3 f3 u3 => ?_)
 have p3 : PlS Y cx Y.envF k fr w' H1 { s1 with heap := h3 } := by
  refine ⟨p.b,p.c,fun x i v a b => (p.f x i v a b).mono le,⟨⟨((u1.trans u2).trans u3).ns ns,fun q o e => f3.1 _ _ (stB _ _ e),p.st.fr.above⟩,⟨os,he,fun q hq => ?_,hd⟩,p.st.big,lo⟩⟩
  obtain ⟨g1,g2⟩ := hn q hq
  refine ⟨f3.1 _ _ g1,fun e => ?_,g2⟩
  obtain ⟨_,⟨L',o,hf,hL,_⟩,_⟩ := f3.2.2.1
  have := Option.some.inj (Y.frame.symm.trans hf)
  rw [e,this,hL] at g1
  cases g1
 refine wpAny_execs_cons (wpAny_Assign_Name (const_wp (C:=C) hu fun rv tk hr => ?_) rfl)
 have p4 : PlS Y cx Y.envF k fr w' H1 { s1 with heap := h3,toks := tk } := ⟨p3.b,p3.c,p3.f,p3.st⟩
 refine zaL p4 hj (hr w') fun k' s' n2 => wpAny_execs_nil (hq k' w' s' ⟨n2.ex,le.trans n2.le,n2.pl,sm.trans ⟨n2.same.1,n2.same.2⟩⟩)
theorem exT_snd (O : zaG C gl) (XO : XOk C Ca) (hg : GlOk C cx.gl) (hcc : CcOk cx) {r : (Fl × Frame) × MH} {irs : List Sm} {fr : Frame} {H : MH} (ev : ExT (C.cx d) (C.cr d) r irs fr H) : ∀ (sts : List Stmt),mapO (fun s => some ((compS 40 cx s).getD .raise)) sts = some irs ->
  ∀ (Y : Actv C d 2) (A₀ : Around) (k : Kp) (w : Wd) (s : Shared),PlS Y cx Y.envF k fr w H s -> Ard Y A₀ Y.h₀ [] -> SBr Y cx Y.envF k.ex (PySem.execs sts Y.envF) w s r := by
 have hC := call_snd O d
 have hR := call_rz O XO d
 have hE : ∀ {e ir},compX cx e = some ir -> Sd C d cx e ir := fun h => zbV O hC 60 cx hg hcc _ _ h
 have split : ∀ {sts : List Stmt} {i : Sm} {is : List Sm},mapO (fun s => some ((compS 40 cx s).getD .raise)) sts = some (i :: is) -> ∃ st sts',sts = st :: sts' /\ (compS 40 cx st).getD .raise = i /\ mapO (fun s => some ((compS 40 cx s).getD .raise)) sts' = some is := by
  intro sts i is h
  cases sts with
  | nil => cases h
  | cons st sts' =>
   obtain ⟨b,e1,h⟩ := bs h
   obtain ⟨c,e2,h⟩ := ms h
   cases h
   exact ⟨st,sts',rfl,Option.some.inj e1,e2⟩
 have one : ∀ {st : Stmt} {i : Sm},(compS 40 cx st).getD .raise = i -> SSnd C d cx st i := by
  intro st i h
  cases hs : compS 40 cx st with
  | some i' => rw [hs] at h; cases h; exact (zcd O hC hg hcc 40).1 st _ hs
  | none => rw [hs] at h; cases h; exact fun Y env k fr w H s p r e => nos e
 have tr : ∀ {st : Stmt} {x y : Nat} {e : Ex} {v : Val},(compS 40 cx st).getD .raise = .tr x e y v -> ∃ b hs pos,st = .Try b hs [] [] pos /\ TrF cx b hs (.tr x e y v) := by
  intro st x y e v h
  cases hs : compS 40 cx st with
  | none => rw [hs] at h; cases h
  | some i' =>
   rw [hs] at h
   cases h
   cases st with
   | Try b hs' e' f' pos =>
    obtain ⟨h1,h2⟩ := gs hs
    have h1 := Bool.and_eq_true_iff.mp h1
    cases List.isEmpty_iff.mp h1.1
    cases List.isEmpty_iff.mp h1.2
    exact ⟨b,hs',pos,rfl,tryE_s h2⟩
   | Return o pos => exact absurd hs (by cases o with | none => exact fun h => nomatch h | some e => exact fun h => by obtain ⟨_,_,e⟩ := ms h; cases e)
   | Assign ts v pos =>
    obtain ⟨t,_,h⟩ := zaP hs
    have h : Option.casesOn (motive:=fun _ => Option Sm) (zbM t) ((compT1 cx t).bind fun a => (compX cx v).map fun b => .asg a b) (fun p => grd (valOk v) ((compX cx v).bind fun b => alt ((namesN p.1).bind fun xs => (mapO (zbY cx) xs).map fun is => .asgs (is.map .nm) b) (grd (!p.1.isEmpty) ((mapO (compA1 cx) p.1).map fun ts => .asgs (ts.map fun q => .at q.1 q.2) b)))) = some _ := h
    cases ht : zbM t with
    | some p =>
     rw [ht] at h
     revert h
     exact gs_r fun _ => bs_r fun b _ => zao (bs_r fun xs _ => ms_r fun is _ e => nomatch e) (gs_r fun _ => ms_r fun ts _ e => nomatch e)
    | none =>
     rw [ht] at h
     obtain ⟨_,_,h⟩ := bs h
     obtain ⟨_,_,e⟩ := ms h; cases e
   | If t a b pos =>
    obtain ⟨_,_,h⟩ := bs hs
    obtain ⟨_,_,h⟩ := bs h
    obtain ⟨_,_,e⟩ := ms h; cases e
   | While t b e pos =>
    obtain ⟨_,h⟩ := gs hs
    obtain ⟨_,_,h⟩ := bs h
    obtain ⟨_,_,e⟩ := ms h; cases e
   | For t it b e pos =>
    obtain ⟨_,h⟩ := gs hs
    obtain ⟨_,_,h⟩ := bs h
    obtain ⟨_,h⟩ := gs h
    obtain ⟨_,_,h⟩ := bs h
    obtain ⟨_,_,h⟩ := bs h
    obtain ⟨_,_,e⟩ := ms h; cases e
   | Expr v pos =>
    obtain ⟨_,h⟩ := gs hs
    obtain ⟨_,_,e⟩ := ms h; cases e
   | Raise o c pos => obtain ⟨i,e⟩ := zcL hs; cases e
   | Pass pos => cases hs
   | Break pos => cases hs
   | Continue pos => cases hs
   | _ => exact nos hs
 induction ev with
 | nil e =>
  intro sts h Y A₀ k w s p R
  subst e
  cases sts with
  | nil => exact ssnd_nil Y Y.envF k _ w _ s p _ rfl
  | cons st sts' =>
   obtain ⟨_,_,h⟩ := bs h
   obtain ⟨_,_,h⟩ := ms h
   cases h
 | next e q ih =>
  intro sts h Y A₀ k w s p R
  obtain ⟨st,sts',rfl,h1,h2⟩ := split h
  intro Q E hq
  refine wpAny_execs_cons (one h1 Y Y.envF k _ w _ s p _ e _ _ fun k1 w1 f1 s1 n1 r1 => ?_)
  cases r1
  exact ih sts' h2 Y A₀ k1 w1 s1 n1.pl R _ _ fun k2 w2 f2 s2 n2 r2 => hq k2 w2 f2 s2 (n1.trans n2) r2
 | stop e q =>
  intro sts h Y A₀ k w s p R
  obtain ⟨st,sts',rfl,h1,h2⟩ := split h
  subst q
  intro Q E hq
  refine wpAny_execs_cons (one h1 Y Y.envF k _ w _ s p _ e _ _ fun k1 w1 f1 s1 n1 r1 => ?_)
  cases r1 with
  | rt hv => exact hq k1 w1 _ s1 n1 (.rt hv)
 | «try» e1 q ih =>
  intro sts h Y A₀ k w s p R
  obtain ⟨st,sts',rfl,h1,h2⟩ := split h
  obtain ⟨b,hs,pos,rfl,F⟩ := tr h1
  obtain ⟨x,y,xp,yp,p1,p2,p3,p4,p5,v,c,n,e,i,j,u,rfl,rfl,hk,hc,hi,hj,he,hu,er⟩ := F
  cases er
  intro Q E hq
  exact wpAny_execs_cons (str_pass p hi hc (hE he) e1 fun k1 w1 s1 n1 => ih sts' h2 Y A₀ k1 w1 s1 n1.pl R _ _ fun k2 w2 f2 s2 n2 r2 => hq k2 w2 f2 s2 (n1.trans n2) r2)
 | exc e1 q ih =>
  intro sts h Y A₀ k w s p R
  obtain ⟨st,sts',rfl,h1,h2⟩ := split h
  obtain ⟨b,hs,pos,rfl,F⟩ := tr h1
  obtain ⟨x,y,xp,yp,p1,p2,p3,p4,p5,v,c,n,e,i,j,u,rfl,rfl,hk,hc,hi,hj,he,hu,er⟩ := F
  cases er
  intro Q E hq
  exact wpAny_execs_cons (str_exc XO p R hk hj hu hc (hE he).sy (erz_of O hC hR hg hcc he) e1 fun k1 w1 s1 n1 => ih sts' h2 Y A₀ k1 w1 s1 n1.pl R _ _ fun k2 w2 f2 s2 n2 r2 => hq k2 w2 f2 s2 (n1.trans n2) r2)
theorem law_runsT (O : zaG C gl) (XO : XOk C Ca) {s₁ : Shared} {p : Program} {loose : List Str} {mean : ExcName -> Option Value} {mg mb : Str -> Option Value} (X : C.K.In s₁.heap) (T : Top p loose mean mg mb s₁.heap) (hbig : 4 <= s₁.heap.objs.size)
  {f : Nat} {fa : Addr} {mvs : List Val} {rv : Value} {r : Val × MH} (hf : C.ad.lookup f = some fa) (hlaw : ∀ fn,C.P.fnAt f = some fn -> fn.dfl = []) (hv : VRel C ⟨[],[]⟩ (.fl mvs) rv) (ev : CallT C.P fuel0 60 f [.fl mvs] [] r) {Q : Value -> Shared -> Prop} {E : Value -> Shared -> Prop}
  (hq : ∀ w v s',VRel C w r.1 v -> (∀ b o,s₁.heap.get? b = some o -> s'.heap.get? b = some o) -> s'.gens = s₁.gens -> s'.os = s₁.os -> Q v s') :
  wpAny C.M callerA (call (.ref fa) [rv]) Q E s₁ := by
 obtain ⟨fn,ws,q,HE,hfn,hargs,ev,er⟩ := ev
 obtain ⟨hfa,ad,name,qual,params,body,scope,dV,kV,doc,pm,an,cdv,ct,oc,od,osl,k1,k2,k3,k4,k6,k7,k8,k10⟩ := O.fns _ _ hfn
 rw [hfa,hf] at k1
 cases k1
 obtain ⟨k5,k7⟩ := k7.resolve_right fun h => h.1 (hlaw fn hfn)
 obtain ⟨hkind,hgen,hco,hps,hbd,hnp⟩ := zcb k4
 obtain ⟨hc,e⟩ := gs hargs
 have hc := Bool.and_eq_true_iff.mp hc
 rw [k5] at hc e
 rw [List.drop_nil,List.append_nil] at e
 cases e
 have hl : 1 = fn.np := Nat.le_antisymm (Nat.ble_eq.mp hc.1) (Nat.le_of_sub_eq_zero (Nat.le_zero.mp (Nat.ble_eq.mp hc.2)))
 refine wpAny_call (codeAny_call_cells (binds:=(params.args.map (·.arg)).zip [rv]) (fd:=fnOf name qual params body scope dV kV doc pm an cdv ct) (body:=body) (by decide) (X _ _ k2) rfl T.nolimit (codeRec_of X k3) rfl (k7 [rv] hl) rfl ?_ (fun s2 x => ?_) hco hgen hkind)
 ·intro y hy
  rcases hps y.1 (List.of_mem_zip hy).1 with h | h
  ·exact .inl h
  ·exact .inr ⟨h,cellsFrom_some _ _ _ (.inl h)⟩
 show wpAny C.M (callerA.deeper (envOfC qual scope s₁.heap.objs.size fa cdv)) (PySem.execs body (envOfC qual scope s₁.heap.objs.size fa cdv)) _ _ _
 have x' : InCallC s₁ s₁.heap.objs.size (bindL (envOfC qual scope s₁.heap.objs.size fa cdv).kindOf ((params.args.map (·.arg)).zip [rv]) fun _ => none) (cellsFrom (s₁.heap.objs.size + 1) scope.names []) (bindC (envOfC qual scope s₁.heap.objs.size fa cdv).kindOf ((params.args.map (·.arg)).zip [rv]) fun _ => none) s2 := x
 obtain ⟨h₁,tk,rfl,_⟩ := x.done
 have hk₁ := x'.toInCall.keep
 obtain ⟨cells,NC,Yc⟩ := Cl.news (h₀:=s₁.heap) (Nat.le_refl _) fun n c hm => ⟨x'.cell n c (lookup_of_mem_nodup (cellsFrom_names scope.names 0 (s₁.heap.objs.size + 1) [] [] rfl ▸ k10) hm),x'.above n c hm⟩
 have F' : Fr s₁.heap s₁.heap.objs.size h₁ (bindL (envOfC qual scope s₁.heap.objs.size fa cdv).kindOf ((params.args.map (·.arg)).zip [rv]) fun _ => none) := ⟨x'.toInCall.ns,hk₁,Nat.le_refl _⟩
 let Y' : Actv C 60 2 := ⟨callerA.deeper (envOfC qual scope s₁.heap.objs.size fa cdv),s₁.heap,s₁.heap.objs.size,envOfC qual scope s₁.heap.objs.size fa cdv,⟨callerA,s₁.heap,[],below_caller _,rfl⟩,X,⟨p,loose,mean,mg,mb,T⟩,rfl,hkind,rfl,(by decide : 301 + 1 + 4 * 60 + 2 + 2 <= 900),(by decide : 4 + 3 + 20 * 60 + 190 + 5 * 2 <= 9900)⟩
 have hcn := (zaZ 0 scope.names (s₁.heap.objs.size + 1) [] (Nat.zero_le _) .nil fun _ h => absurd h List.not_mem_nil).1
 have eq : (⟨cells,[],bindL (envOfC qual scope s₁.heap.objs.size fa cdv).kindOf ((params.args.map (·.arg)).zip [rv]) fun _ => none⟩ : Kp).all ⟨[],[]⟩ [] = cells := List.append_nil _
 have S' : St Y' ⟨cells,[],bindL (envOfC qual scope s₁.heap.objs.size fa cdv).kindOf ((params.args.map (·.arg)).zip [rv]) fun _ => none⟩ ⟨[],[]⟩ [] { s₁ with heap := h₁,toks := tk } :=
  ⟨F',⟨[],⟨rfl,rfl⟩,eq.symm ▸ NC,eq.symm ▸ (by unfold Led.nd; rw [zbj Yc]; exact hcn)⟩,hbig,fun _ h => absurd h List.not_mem_nil⟩
 have P := zc9 (Y:=Y') (gl:=gl) (fn:=fn) (ex:=[]) hkind k8 (.one hv) (by rw [hnp]; exact hl) Yc S'
 refine exT_snd O XO O.glob (ccOk_fn _ _ _) ev _ hbd Y' callerA _ _ _ P ⟨below_caller _,rfl⟩ _ _ fun k1 w1 f1 s1 n1 r1 => ?_
 exact hq w1 _ s1 (flow_s r1 er).1 n1.pl.st.fr.keep n1.same.1 n1.same.2
end
end Mi
namespace Mi
theorem srt0 (C : Cfg) : SrtOk C := fun _ _ _ => Ref.none
end Mi
open PySem PySem.W PySem.W.X PyProof.Rows PySem.Calls
set_option Elab.async false
set_option maxRecDepth 100000
set_option maxHeartbeats 8000000
set_option linter.unusedVariables false
lay_quick PySem.W.staticsOk PySem.W.namesBound PySem.W.laidKept PySem.W.xlAt PySem.W.recOk PySem.W.openGood
namespace Hd
noncomputable def lits0 : List String := ["builtins.copyright#opaque","builtins.credits#opaque","builtins.license#opaque"]
end Hd
lay_quick Hd.lits0
namespace Hd
noncomputable abbrev TP : Program := PySem.Challenge.pw_ui0508_07
theorem tePw : PySem.Challenge.pw_ui0508_07 = TP := rfl
noncomputable abbrev TWtopGo := PySem.W.Fast.tw15667345088766844465
theorem Fast_topGo : @topGo = TWtopGo := PySem.W.Fast.te15667345088766844465
noncomputable abbrev TWtopRun := PySem.W.Fast.tw14082659384304107361
theorem Fast_topRun : @topRun = TWtopRun := PySem.W.Fast.te14082659384304107361
noncomputable abbrev TWsegRun := PySem.W.Fast.tw14374325043358763698
theorem Fast_segRun : @segRun = TWsegRun := PySem.W.Fast.te14374325043358763698
noncomputable abbrev TWsegRunT := PySem.W.Fast.tw10110043849684766642
theorem Fast_segRunT : @segRunT = TWsegRunT := PySem.W.Fast.te10110043849684766642
noncomputable abbrev TWtable := PySem.W.Fast.tw14364793385576792824
theorem Fast_table : @treeTable = TWtable := PySem.W.Fast.te14364793385576792824
noncomputable abbrev TWdenote := PySem.W.Fast.tw11892475500146522536
theorem Fast_denote : @denote = TWdenote := PySem.W.Fast.te11892475500146522536
noncomputable def takeS : Nat -> List Stmt -> List Stmt
 | 0,_ => []
 | _ + 1,[] => []
 | n + 1,s :: r => s :: takeS n r
noncomputable def dropS : Nat -> List Stmt -> List Stmt
 | 0,l => l
 | _ + 1,[] => []
 | n + 1,_ :: r => dropS n r
noncomputable abbrev FnT := Arguments × List Stmt × Scope
noncomputable def noFn : FnT := (⟨[],[],none,[],[],none,[]⟩,[],⟨.function,[],false,false,[]⟩)
noncomputable def fnOfL : List Stmt -> FnT
 | .FunctionDef _ a b _ _ _ sc _ _ _ :: _ => (a,b,sc)
 | _ => noFn
noncomputable def clsOfL : List Stmt -> List Stmt
 | .ClassDef _ _ _ b _ _ _ _ _ _ _ :: _ => b
 | _ => []
noncomputable def fnA (i : Nat) : FnT := fnOfL (dropS i TP.main.body)
noncomputable def fnB (i j : Nat) : FnT := fnOfL (dropS j (clsOfL (dropS i TP.main.body)))
noncomputable def fdOf (f : FnT) (name qual : PySem.Str) (g : Addr) (cl : List (PySem.Str × Addr)) (dV kV doc pm : Value) (an : Option Addr) (cd ct : Value) (b : Addr) : FuncData :=
 { name := name,qualname := qual,params := f.1,body := .stmts f.2.1,scope := f.2.2,globals := g,closure := cl,defaults := dV,kwdefaults := kV,doc := doc,pyModule := pm,annotations := an,code := cd,closureTuple := ct,builtins := b }
noncomputable def de (P : Params) (n : PySem.Str) (t : Tok) (v : Value) : DictEntry := ⟨PyData.keyHash P n,.str n t,v⟩
noncomputable abbrev XN (l : List Nat) : PySem.Str := ⟨⟨l⟩⟩
noncomputable abbrev X9 (i : Int) (t : Tok) : Value := Value.int i t
noncomputable abbrev X0 (i : Int) : Value := Value.int i 0
noncomputable abbrev XS (s : PySem.Str) (t : Tok) : Value := Value.str s t
noncomputable abbrev XB (b : Bool) : Value := Value.bool b
noncomputable abbrev X7 : Value := Value.none
noncomputable abbrev X6 {α : Type} : Option α := Option.none
noncomputable abbrev X8 {α : Type} (l : List α) : Array α := Array.mk l
noncomputable abbrev X1 (a : Addr) : Value := .ref a
noncomputable def XO (c : Value) (d : Option Addr) (b : Data) : Params -> Obj := fun _ => ⟨c,d,b,Array.mk []⟩
noncomputable def X2 (n : PySem.Str) (t : Tok) (v : Value) : Params -> DictEntry := fun P => de P n t v
noncomputable abbrev XF (f : FnT) (n q : PySem.Str) (g : Addr) (dV kV doc pm : Value) (an : Option Addr) (cd ct : Value)   : Data := .func (fdOf f n q g [] dV kV doc pm an cd ct 0)
noncomputable abbrev X3 (o : Params -> Obj) (x y : Params -> BT) : Params -> BT := fun P => .node (o P) (x P) (y P)
noncomputable abbrev X4 (o : Params -> Obj) : Params -> BT := fun P => .node (o P) .nil .nil
noncomputable abbrev X5 : Params -> BT := fun _ => .nil
noncomputable abbrev XT0 : Value := Value.type PySem.W.SL.s2766695959194262286x5
noncomputable abbrev XT1 : Value := Value.type PySem.W.SL.s5856160107412720595x4
noncomputable abbrev XT2 : Value := Value.type PySem.W.SL.s14018661285674007319x4
noncomputable abbrev XT3 : Value := Value.type PySem.W.SL.s7174869446012820540x8
noncomputable abbrev XT4 : Value := Value.type PySem.W.SL.s6070975301684473832x10
noncomputable abbrev XT5 : Value := Value.type PySem.W.SL.s11030030927630378310x26
noncomputable abbrev XT6 : Value := Value.type PySem.W.SL.s17162191345867700912x4
noncomputable abbrev XT7 : Value := Value.type PySem.W.SL.s14755015743595814543x17
noncomputable abbrev XT8 : Value := Value.type PySem.W.SL.s4290257624100764138x5
noncomputable abbrev XT9 : Value := Value.type PySem.W.SL.s9222952809800978799x4
noncomputable abbrev XT10 : Value := Value.type PySem.W.SL.s11695548795398191787x4
noncomputable abbrev XT11 : Value := Value.type PySem.W.SL.s4156966113859768872x10
noncomputable abbrev XT12 : Value := Value.type PySem.W.SL.s9501651726347032510x9
noncomputable abbrev XT13 : Value := Value.type PySem.W.SL.s15722918466584999320x5
noncomputable abbrev XT14 : Value := Value.type PySem.W.SL.s591115383303110208x11
noncomputable abbrev XT15 : Value := Value.type PySem.W.SL.s15721156781594690315x7
noncomputable abbrev XT16 : Value := Value.type PySem.W.SL.s14340494229221121180x9
noncomputable abbrev XT17 : Value := Value.type PySem.W.SL.s13429844117177748173x6
noncomputable abbrev XT18 : Value := Value.type PySem.W.SL.s16463266125957815391x5
noncomputable abbrev XT19 : Value := Value.type PySem.W.SL.s4922535414793169389x9
noncomputable abbrev XT20 : Value := Value.type PySem.W.SL.s8101838861749082086x8
noncomputable abbrev XT21 : Value := Value.type PySem.W.SL.s7066276694103001551x3
noncomputable abbrev XT22 : Value := Value.type PySem.W.SL.s462964344163437139x3
noncomputable abbrev XT23 : Value := Value.type PySem.W.SL.s2742458400755230247x6
noncomputable abbrev XT24 : Value := Value.type PySem.W.SL.s1438033511350832697x5
noncomputable abbrev XT25 : Value := Value.type PySem.W.SL.s14365286008749172514x8
noncomputable abbrev XT26 : Value := Value.type PySem.W.SL.s3642769012341782148x3
noncomputable abbrev XT27 : Value := Value.type PySem.W.SL.s4674234679698826739x5
noncomputable abbrev XT28 : Value := Value.type PySem.W.SL.s16656946322747308186x12
noncomputable abbrev XT29 : Value := Value.type PySem.W.SL.s10796804682411823810x3
noncomputable abbrev XT30 : Value := Value.type PySem.W.SL.s14339709457334898076x3
noncomputable abbrev XT31 : Value := Value.type PySem.W.SL.s4278001404047624695x13
noncomputable abbrev XT32 : Value := Value.type PySem.W.SL.s6585700554429387442x18
noncomputable abbrev XT33 : Value := Value.type PySem.W.SL.s5946037652744460706x9
noncomputable abbrev XT34 : Value := Value.type PySem.W.SL.s7410770068591931388x13
noncomputable abbrev XT35 : Value := Value.type PySem.W.SL.s11817881795495490833x17
noncomputable abbrev XT36 : Value := Value.type PySem.W.SL.s15679963881808890155x10
noncomputable abbrev XT37 : Value := Value.type PySem.W.SL.s3871700062485845797x15
noncomputable abbrev XT38 : Value := Value.type PySem.W.SL.s7689518266570723881x14
noncomputable abbrev XT39 : Value := Value.type PySem.W.SL.s9001593270443806431x14
noncomputable abbrev XT40 : Value := Value.type PySem.W.SL.s6882542574934516792x11
noncomputable abbrev XT41 : Value := Value.type PySem.W.SL.s14403400214490484960x8
noncomputable abbrev XT42 : Value := Value.type PySem.W.SL.s14457978657717015782x11
noncomputable abbrev XT43 : Value := Value.type PySem.W.SL.s1753610191782819921x11
noncomputable abbrev XT44 : Value := Value.type PySem.W.SL.s14119380538032626715x11
noncomputable abbrev XT45 : Value := Value.type PySem.W.SL.s11437920000406562045x9
noncomputable abbrev XT46 : Value := Value.type PySem.W.SL.s10852414792293593619x7
noncomputable abbrev XT47 : Value := Value.type PySem.W.SL.s14816307405966870543x14
noncomputable abbrev XT48 : Value := Value.type PySem.W.SL.s8682627914449686677x12
noncomputable abbrev XT49 : Value := Value.type PySem.W.SL.s4428170145600203450x18
noncomputable abbrev XT50 : Value := Value.type PySem.W.SL.s5991306692159431302x13
noncomputable abbrev XT51 : Value := Value.type PySem.W.SL.s16067994140765818257x11
noncomputable abbrev XT52 : Value := Value.type PySem.W.SL.s2327743974964600596x11
noncomputable abbrev XT53 : Value := Value.type PySem.W.SL.s2804747833354056582x9
noncomputable abbrev XT54 : Value := Value.type PySem.W.SL.s14270485950484850486x7
noncomputable abbrev XT55 : Value := Value.type PySem.W.SL.s12041534306414923332x18
noncomputable abbrev XT56 : Value := Value.type PySem.W.SL.s2531307568338490285x13
noncomputable abbrev XT57 : Value := Value.type PySem.W.SL.s631175304937289666x17
noncomputable abbrev XT58 : Value := Value.type PySem.W.SL.s5144983644357021410x12
noncomputable abbrev XT59 : Value := Value.type PySem.W.SL.s18039099521571816885x18
noncomputable abbrev XT60 : Value := Value.type PySem.W.SL.s6011586214260557989x15
noncomputable abbrev XT61 : Value := Value.type PySem.W.SL.s5430567037509283100x13
noncomputable abbrev XT62 : Value := Value.type PySem.W.SL.s8117915138073963741x13
noncomputable abbrev XT63 : Value := Value.type PySem.W.SL.s3423317712779056401x25
noncomputable abbrev XT64 : Value := Value.type PySem.W.SL.s2007317383269046180x15
noncomputable abbrev XT65 : Value := Value.type PySem.W.SL.s17481586968713580700x14
noncomputable abbrev XT66 : Value := Value.type PySem.W.SL.s2450899226349176912x13
noncomputable abbrev XT67 : Value := Value.type PySem.W.SL.s16626165730633575011x14
noncomputable abbrev XT68 : Value := Value.type PySem.W.SL.s14288496050688921416x11
noncomputable abbrev XT69 : Value := Value.type PySem.W.SL.s5735081916595925998x15
noncomputable abbrev XT70 : Value := Value.type PySem.W.SL.s3865607918536308442x17
noncomputable abbrev XT71 : Value := Value.type PySem.W.SL.s13337502604062700212x15
noncomputable abbrev XT72 : Value := Value.type PySem.W.SL.s13114017843053701147x15
noncomputable abbrev XT73 : Value := Value.type PySem.W.SL.s17467278006356818441x17
noncomputable abbrev XT74 : Value := Value.type PySem.W.SL.s17722149559621369488x16
noncomputable abbrev XT75 : Value := Value.type PySem.W.SL.s7855274175708717672x17
noncomputable abbrev XT76 : Value := Value.type PySem.W.SL.s13351283678309829046x18
noncomputable abbrev XT77 : Value := Value.type PySem.W.SL.s6668348653404991179x15
noncomputable abbrev XT78 : Value := Value.type PySem.W.SL.s12913350958174193794x18
noncomputable abbrev XT79 : Value := Value.type PySem.W.SL.s16115879512475548326x12
noncomputable abbrev XT80 : Value := Value.type PySem.W.SL.s15920661018069861047x16
noncomputable abbrev XT81 : Value := Value.type PySem.W.SL.s10779130036587390575x21
noncomputable abbrev XT82 : Value := Value.type PySem.W.SL.s7801419657504700863x10
noncomputable abbrev XT83 : Value := Value.type PySem.W.SL.s1688129525768580628x8
noncomputable abbrev XT84 : Value := Value.type PySem.W.SL.s1031832959479892071x19
noncomputable abbrev XT85 : Value := Value.type PySem.W.SL.s8991790508128307865x19
noncomputable abbrev XT86 : Value := Value.type PySem.W.SL.s14539662485746970245x23
noncomputable abbrev XT87 : Value := Value.type PySem.W.SL.s11643622729373238714x14
noncomputable abbrev XT88 : Value := Value.type PySem.W.SL.s3386828779285465597x17
noncomputable abbrev XT89 : Value := Value.type PySem.W.SL.s13042696260734638735x12
noncomputable abbrev XT90 : Value := Value.type PySem.W.SL.s18239426817015966623x15
noncomputable abbrev XT91 : Value := Value.type PySem.W.SL.s1270395311379034370x22
noncomputable abbrev XT92 : Value := Value.type PySem.W.SL.s10696252587037064777x22
noncomputable abbrev XT93 : Value := Value.type PySem.W.SL.s7852717498200857586x20
noncomputable abbrev XT94 : Value := Value.type PySem.W.SL.s6377248116197321094x8
noncomputable abbrev XT95 : Value := Value.type PySem.W.SL.s3834378056692298002x18
noncomputable abbrev XT96 : Value := Value.type PySem.W.SL.s17586630440231065808x18
noncomputable abbrev XT97 : Value := Value.type PySem.W.SL.s15234114252648025395x21
noncomputable abbrev XT98 : Value := Value.type PySem.W.SL.s8496462677383758984x14
noncomputable abbrev XT99 : Value := Value.type PySem.W.SL.s6658869562736209489x6
noncomputable def n0 := XN [60,109,111,100,117,108,101,62]
noncomputable def n1 := XN [47,99,108,97,105,109,47,99,117,116,46,112,121]
noncomputable def n2 := XN [95,95,109,97,105,110,95,95]
noncomputable def n3 := XN [95,95,110,97,109,101,95,95]
noncomputable def n4 := XN [116,114,97,110,115,100,117,99,101,46,114,105,110,103,115]
noncomputable def n5 := XN [95,95,100,111,99,95,95]
noncomputable def n6 := XN [95,95,112,97,99,107,97,103,101,95,95]
noncomputable def n7 := XN [95,95,108,111,97,100,101,114,95,95]
noncomputable def n8 := XN [95,95,115,112,101,99,95,95]
noncomputable def n9 := XN [95,95,97,110,110,111,116,97,116,105,111,110,115,95,95]
noncomputable def n10 := XN [95,95,98,117,105,108,116,105,110,115,95,95]
noncomputable def n11 := XN [95,95,102,105,108,101,95,95]
noncomputable def n12 := XN [95,95,99,97,99,104,101,100,95,95]
noncomputable def n13 := XN [95,119,97,108,108]
noncomputable def n14 := XN [68,73,71,73,84,83]
noncomputable def n15 := XN [48,49,50,51,52,53,54,55,56,57]
noncomputable def n16 := XN [70,73,71,85,82,69,83]
noncomputable def n17 := XN [71,82,69,65,84,69,83,84]
noncomputable def n18 := XN [77,65,82,75,83]
noncomputable def n19 := XN [32,9,10,58,47,95,91,93,62,35,59,63,61]
noncomputable def n20 := XN [77,97,99,104,105,110,101,69,114,114,111,114]
noncomputable def n21 := XN [105,115,95,108,101,116,116,101,114]
noncomputable def n22 := XN [110,101,101,100,95,108,101,116,116,101,114]
noncomputable def n23 := XN [110,101,101,100,95,119,111,114,100]
noncomputable def n24 := XN [110,101,101,100,95,108,101,116,116,101,114,115]
noncomputable def n25 := XN [115,104,111,119,110]
noncomputable def n26 := XN [102,105,103,117,114,101,115]
noncomputable def n27 := XN [119,101,105,103,104,116,95,111,102]
noncomputable def n28 := XN [107]
noncomputable def n29 := XN [95,95,109,111,100,117,108,101,95,95]
noncomputable def n30 := XN [116,114,97,110,115,100,117,99,101,46,101,114,114,111,114,115]
noncomputable def n31 := XN [95,95,113,117,97,108,110,97,109,101,95,95]
noncomputable def n32 := XN [95,95,102,105,114,115,116,108,105,110,101,110,111,95,95]
noncomputable def n33 := XN [95,95,115,116,97,116,105,99,95,97,116,116,114,105,98,117,116,101,115,95,95]
noncomputable def n34 := XN [95,95,119,101,97,107,114,101,102,95,95]
noncomputable def n35 := XN [115,105,103,110]
noncomputable def n36 := XN [119,111,114,100]
noncomputable def n37 := XN [108,101,116,116,101,114,115]
noncomputable def n38 := XN [118,97,108,117,101]
noncomputable def n39 := XN [116,101,120,116]
noncomputable def n40 := XN [89,101,115]
noncomputable def n41 := XN [110,97,109,101]
noncomputable def n42 := XN [121,101,115]
noncomputable def n43 := XN [104,97,115,95,111,114,100,101,114]
noncomputable def n44 := XN [99,97,110,95,112,97,114,116]
noncomputable def n45 := XN [110,111,117,103,104,116]
noncomputable def n46 := XN [111,110,101]
noncomputable def n47 := XN [110,101,101,100]
noncomputable def n48 := XN [112,108,117,115]
noncomputable def n49 := XN [116,105,109,101,115]
noncomputable def n50 := XN [115,116,97,114]
noncomputable def n51 := XN [99,111,109,109,111,110]
noncomputable def n52 := XN [111,118,101,114]
noncomputable def n53 := XN [105,115,95,98,101,116,116,101,114]
noncomputable def n54 := XN [115,104,111,119]
noncomputable def n55 := XN [114,101,97,100]
noncomputable def n56 := XN [115,101,108,102]
noncomputable def n57 := XN [97]
noncomputable def n58 := XN [89,101,115,46,110,101,101,100]
noncomputable def n59 := XN [98]
noncomputable def n60 := XN [89,101,115,46,112,108,117,115]
noncomputable def n61 := XN [89,101,115,46,116,105,109,101,115]
noncomputable def n62 := XN [89,101,115,46,115,116,97,114]
noncomputable def n63 := XN [114,111,119]
noncomputable def n64 := XN [89,101,115,46,99,111,109,109,111,110]
noncomputable def n65 := XN [89,101,115,46,111,118,101,114]
noncomputable def n66 := XN [89,101,115,46,105,115,95,98,101,116,116,101,114]
noncomputable def n67 := XN [89,101,115,46,115,104,111,119]
noncomputable def n68 := XN [89,101,115,46,114,101,97,100]
noncomputable def n69 := XN [95,95,100,105,99,116,95,95]
noncomputable def n70 := XN [76,101,97,115,116]
noncomputable def n71 := XN [108,101,97,115,116]
noncomputable def n72 := XN [76,101,97,115,116,46,110,101,101,100]
noncomputable def n73 := XN [76,101,97,115,116,46,112,108,117,115]
noncomputable def n74 := XN [76,101,97,115,116,46,116,105,109,101,115]
noncomputable def n75 := XN [76,101,97,115,116,46,115,116,97,114]
noncomputable def n76 := XN [76,101,97,115,116,46,99,111,109,109,111,110]
noncomputable def n77 := XN [76,101,97,115,116,46,111,118,101,114]
noncomputable def n78 := XN [76,101,97,115,116,46,105,115,95,98,101,116,116,101,114]
noncomputable def n79 := XN [76,101,97,115,116,46,115,104,111,119]
noncomputable def n80 := XN [76,101,97,115,116,46,114,101,97,100]
noncomputable def n81 := XN [67,111,117,110,116]
noncomputable def n82 := XN [95,103,99,100]
noncomputable def n83 := XN [99,111,117,110,116]
noncomputable def n84 := XN [67,111,117,110,116,46,110,101,101,100]
noncomputable def n85 := XN [67,111,117,110,116,46,112,108,117,115]
noncomputable def n86 := XN [67,111,117,110,116,46,116,105,109,101,115]
noncomputable def n87 := XN [67,111,117,110,116,46,115,116,97,114]
noncomputable def n88 := XN [67,111,117,110,116,46,99,111,109,109,111,110]
noncomputable def n89 := XN [67,111,117,110,116,46,111,118,101,114]
noncomputable def n90 := XN [67,111,117,110,116,46,105,115,95,98,101,116,116,101,114]
noncomputable def n91 := XN [67,111,117,110,116,46,115,104,111,119]
noncomputable def n92 := XN [67,111,117,110,116,46,114,101,97,100]
noncomputable def n93 := XN [67,104,97,110,99,101]
noncomputable def n94 := XN [99,104,97,110,99,101]
noncomputable def n95 := XN [67,104,97,110,99,101,46,110,101,101,100]
noncomputable def n96 := XN [67,104,97,110,99,101,46,112,108,117,115]
noncomputable def n97 := XN [67,104,97,110,99,101,46,116,105,109,101,115]
noncomputable def n98 := XN [67,104,97,110,99,101,46,115,116,97,114]
noncomputable def n99 := XN [67,104,97,110,99,101,46,99,111,109,109,111,110]
noncomputable def n100 := XN [67,104,97,110,99,101,46,111,118,101,114]
noncomputable def n101 := XN [67,104,97,110,99,101,46,105,115,95,98,101,116,116,101,114]
noncomputable def n102 := XN [67,104,97,110,99,101,46,115,104,111,119]
noncomputable def n103 := XN [117,112,112,101,114]
noncomputable def n104 := XN [109,97,114,107]
noncomputable def n105 := XN [108,111,119,101,114]
noncomputable def n106 := XN [67,104,97,110,99,101,46,114,101,97,100]
noncomputable def n107 := XN [76,105,107,101,108,121]
noncomputable def n108 := XN [102,114,97,99,116,105,111,110]
noncomputable def n109 := XN [108,105,107,101,108,121]
noncomputable def n110 := XN [76,105,107,101,108,121,46,110,101,101,100]
noncomputable def n111 := XN [76,105,107,101,108,121,46,112,108,117,115]
noncomputable def n112 := XN [76,105,107,101,108,121,46,115,116,97,114]
noncomputable def n113 := XN [76,105,107,101,108,121,46,105,115,95,98,101,116,116,101,114]
noncomputable def n114 := XN [110]
noncomputable def n115 := XN [100]
noncomputable def n116 := XN [98,121]
noncomputable def n117 := XN [116,114,97,110,115,100,117,99,101,46,114,117,108,101,115]
noncomputable def n118 := XN [82,73,78,71,83]
noncomputable def n119 := XN [114,105,110,103]
noncomputable def n120 := XN [69,68,71,69]
noncomputable def n121 := XN [35]
noncomputable def n122 := XN [77,85,83,84]
noncomputable def n123 := XN [109,117,115,116]
noncomputable def n124 := XN [76,79,78,71,69,83,84]
noncomputable def n125 := XN [83,84,69,80,83]
noncomputable def n126 := XN [108,97,119,95,117,105,48,53,48,56,95,48,55]
noncomputable def n127 := XN [82,117,108,101]
noncomputable def n128 := XN [95,110,101,101,100,95,115,101,116]
noncomputable def n129 := XN [95,115,104,111,119,95,115,101,116,115]
noncomputable def n130 := XN [114,101,97,100,95,115,101,116,115]
noncomputable def n131 := XN [114,101,97,100,95,114,117,108,101]
noncomputable def n132 := XN [95,108,101,102,116,95,115,116,97,110,100,115]
noncomputable def n133 := XN [95,114,105,103,104,116,95,115,116,97,110,100,115]
noncomputable def n134 := XN [95,110,101,101,100,95,115,104,111,114,116]
noncomputable def n135 := XN [98,121,95,104,97,110,100]
noncomputable def n136 := XN [95,114,101,119,114,105,116,101]
noncomputable def n137 := XN [95,95,105,110,105,116,95,95]
noncomputable def n138 := XN [110,101,101,100,95,99,111,115,116]
noncomputable def n139 := XN [108,105,110,101]
noncomputable def n140 := XN [82,117,108,101,46,95,95,105,110,105,116,95,95]
noncomputable def n141 := XN [82,117,108,101,46,110,101,101,100,95,99,111,115,116]
noncomputable def n142 := XN [82,117,108,101,46,108,105,110,101]
noncomputable def n143 := XN [99,111,115,116]
noncomputable def n144 := XN [108,101,102,116]
noncomputable def n145 := XN [114,105,103,104,116]
noncomputable def n146 := XN [114,111,119,115]
noncomputable def n147 := XN [109,97,121,95,98,101,95,101,100,103,101]
noncomputable def n148 := XN [111,117,116]
noncomputable def n149 := XN [101,110,100]
noncomputable def n150 := XN [98,108,97,110,107]
noncomputable def n151 := XN [104,101,97,100]
noncomputable def n152 := XN [116,97,105,108]
noncomputable def n153 := XN [111,108,100]
noncomputable def n154 := XN [97,114,114,111,119]
noncomputable def n155 := XN [110,101,119]
noncomputable def n156 := XN [112,108,97,99,101]
noncomputable def n157 := XN [114,117,108,101]
noncomputable def n158 := XN [119,114,105,116,116,101,110]
noncomputable def n159 := XN [115,101,116,115]
noncomputable def n160 := XN [114,101,115,116]
noncomputable def n161 := XN [119,101,105,103,104,116]
noncomputable def n162 := XN [102,111,117,110,100]
noncomputable def n163 := XN [95,108,97,119,95,99,101,108,108]
noncomputable def n164 := XN [95,108,97,119,95,114,117,108,101]
noncomputable def n165 := XN [95,108,97,119,95,119,111,114,100]
noncomputable def n166 := XN [108,97,119]
noncomputable def n167 := XN [115,99,114,105,112,116]
noncomputable def n168 := XN [97,116]
noncomputable def n169 := XN [111,108,100,115]
noncomputable def n170 := XN [110,101,119,115]
noncomputable def n171 := XN [108,101,102,116,115]
noncomputable def n172 := XN [114,105,103,104,116,115]
noncomputable def n173 := XN [97,103,97,105,110]
noncomputable def n174 := XN [108,101,116,116,101,114]
noncomputable def n175 := XN [116,111,108,100]
noncomputable def n176 := XN [98,117,105,108,116,105,110,115]
noncomputable def n177 := XN [95,95,98,117,105,108,100,95,99,108,97,115,115,95,95]
noncomputable def n178 := XN [95,95,105,109,112,111,114,116,95,95]
noncomputable def n179 := XN [97,98,115]
noncomputable def n180 := XN [97,108,108]
noncomputable def n181 := XN [97,110,121]
noncomputable def n182 := XN [97,115,99,105,105]
noncomputable def n183 := XN [98,105,110]
noncomputable def n184 := XN [98,114,101,97,107,112,111,105,110,116]
noncomputable def n185 := XN [99,97,108,108,97,98,108,101]
noncomputable def n186 := XN [99,104,114]
noncomputable def n187 := XN [99,111,109,112,105,108,101]
noncomputable def n188 := XN [100,101,108,97,116,116,114]
noncomputable def n189 := XN [100,105,114]
noncomputable def n190 := XN [100,105,118,109,111,100]
noncomputable def n191 := XN [101,118,97,108]
noncomputable def n192 := XN [101,120,101,99]
noncomputable def n193 := XN [102,111,114,109,97,116]
noncomputable def n194 := XN [103,101,116,97,116,116,114]
noncomputable def n195 := XN [103,108,111,98,97,108,115]
noncomputable def n196 := XN [104,97,115,97,116,116,114]
noncomputable def n197 := XN [104,97,115,104]
noncomputable def n198 := XN [104,101,120]
noncomputable def n199 := XN [105,100]
noncomputable def n200 := XN [105,110,112,117,116]
noncomputable def n201 := XN [105,115,105,110,115,116,97,110,99,101]
noncomputable def n202 := XN [105,115,115,117,98,99,108,97,115,115]
noncomputable def n203 := XN [105,116,101,114]
noncomputable def n204 := XN [97,105,116,101,114]
noncomputable def n205 := XN [108,101,110]
noncomputable def n206 := XN [108,111,99,97,108,115]
noncomputable def n207 := XN [109,97,120]
noncomputable def n208 := XN [109,105,110]
noncomputable def n209 := XN [110,101,120,116]
noncomputable def n210 := XN [97,110,101,120,116]
noncomputable def n211 := XN [111,99,116]
noncomputable def n212 := XN [111,114,100]
noncomputable def n213 := XN [112,111,119]
noncomputable def n214 := XN [112,114,105,110,116]
noncomputable def n215 := XN [114,101,112,114]
noncomputable def n216 := XN [114,111,117,110,100]
noncomputable def n217 := XN [115,101,116,97,116,116,114]
noncomputable def n218 := XN [115,111,114,116,101,100]
noncomputable def n219 := XN [115,117,109]
noncomputable def n220 := XN [118,97,114,115]
noncomputable def n221 := XN [78,111,110,101]
noncomputable def n222 := XN [69,108,108,105,112,115,105,115]
noncomputable def n223 := XN [78,111,116,73,109,112,108,101,109,101,110,116,101,100]
noncomputable def n224 := XN [70,97,108,115,101]
noncomputable def n225 := XN [84,114,117,101]
noncomputable def n226 := XN [98,111,111,108]
noncomputable def n227 := XN [109,101,109,111,114,121,118,105,101,119]
noncomputable def n228 := XN [98,121,116,101,97,114,114,97,121]
noncomputable def n229 := XN [98,121,116,101,115]
noncomputable def n230 := XN [99,108,97,115,115,109,101,116,104,111,100]
noncomputable def n231 := XN [99,111,109,112,108,101,120]
noncomputable def n232 := XN [100,105,99,116]
noncomputable def n233 := XN [101,110,117,109,101,114,97,116,101]
noncomputable def n234 := XN [102,105,108,116,101,114]
noncomputable def n235 := XN [102,108,111,97,116]
noncomputable def n236 := XN [102,114,111,122,101,110,115,101,116]
noncomputable def n237 := XN [112,114,111,112,101,114,116,121]
noncomputable def n238 := XN [105,110,116]
noncomputable def n239 := XN [108,105,115,116]
noncomputable def n240 := XN [109,97,112]
noncomputable def n241 := XN [111,98,106,101,99,116]
noncomputable def n242 := XN [114,97,110,103,101]
noncomputable def n243 := XN [114,101,118,101,114,115,101,100]
noncomputable def n244 := XN [115,101,116]
noncomputable def n245 := XN [115,108,105,99,101]
noncomputable def n246 := XN [115,116,97,116,105,99,109,101,116,104,111,100]
noncomputable def n247 := XN [115,116,114]
noncomputable def n248 := XN [115,117,112,101,114]
noncomputable def n249 := XN [116,117,112,108,101]
noncomputable def n250 := XN [116,121,112,101]
noncomputable def n251 := XN [122,105,112]
noncomputable def n252 := XN [95,95,100,101,98,117,103,95,95]
noncomputable def n253 := XN [66,97,115,101,69,120,99,101,112,116,105,111,110]
noncomputable def n254 := XN [66,97,115,101,69,120,99,101,112,116,105,111,110,71,114,111,117,112]
noncomputable def n255 := XN [69,120,99,101,112,116,105,111,110]
noncomputable def n256 := XN [71,101,110,101,114,97,116,111,114,69,120,105,116]
noncomputable def n257 := XN [75,101,121,98,111,97,114,100,73,110,116,101,114,114,117,112,116]
noncomputable def n258 := XN [83,121,115,116,101,109,69,120,105,116]
noncomputable def n259 := XN [65,114,105,116,104,109,101,116,105,99,69,114,114,111,114]
noncomputable def n260 := XN [65,115,115,101,114,116,105,111,110,69,114,114,111,114]
noncomputable def n261 := XN [65,116,116,114,105,98,117,116,101,69,114,114,111,114]
noncomputable def n262 := XN [66,117,102,102,101,114,69,114,114,111,114]
noncomputable def n263 := XN [69,79,70,69,114,114,111,114]
noncomputable def n264 := XN [73,109,112,111,114,116,69,114,114,111,114]
noncomputable def n265 := XN [76,111,111,107,117,112,69,114,114,111,114]
noncomputable def n266 := XN [77,101,109,111,114,121,69,114,114,111,114]
noncomputable def n267 := XN [78,97,109,101,69,114,114,111,114]
noncomputable def n268 := XN [79,83,69,114,114,111,114]
noncomputable def n269 := XN [82,101,102,101,114,101,110,99,101,69,114,114,111,114]
noncomputable def n270 := XN [82,117,110,116,105,109,101,69,114,114,111,114]
noncomputable def n271 := XN [83,116,111,112,65,115,121,110,99,73,116,101,114,97,116,105,111,110]
noncomputable def n272 := XN [83,116,111,112,73,116,101,114,97,116,105,111,110]
noncomputable def n273 := XN [83,121,110,116,97,120,69,114,114,111,114]
noncomputable def n274 := XN [83,121,115,116,101,109,69,114,114,111,114]
noncomputable def n275 := XN [84,121,112,101,69,114,114,111,114]
noncomputable def n276 := XN [86,97,108,117,101,69,114,114,111,114]
noncomputable def n277 := XN [87,97,114,110,105,110,103]
noncomputable def n278 := XN [70,108,111,97,116,105,110,103,80,111,105,110,116,69,114,114,111,114]
noncomputable def n279 := XN [79,118,101,114,102,108,111,119,69,114,114,111,114]
noncomputable def n280 := XN [90,101,114,111,68,105,118,105,115,105,111,110,69,114,114,111,114]
noncomputable def n281 := XN [66,121,116,101,115,87,97,114,110,105,110,103]
noncomputable def n282 := XN [68,101,112,114,101,99,97,116,105,111,110,87,97,114,110,105,110,103]
noncomputable def n283 := XN [69,110,99,111,100,105,110,103,87,97,114,110,105,110,103]
noncomputable def n284 := XN [70,117,116,117,114,101,87,97,114,110,105,110,103]
noncomputable def n285 := XN [73,109,112,111,114,116,87,97,114,110,105,110,103]
noncomputable def n286 := XN [80,101,110,100,105,110,103,68,101,112,114,101,99,97,116,105,111,110,87,97,114,110,105,110,103]
noncomputable def n287 := XN [82,101,115,111,117,114,99,101,87,97,114,110,105,110,103]
noncomputable def n288 := XN [82,117,110,116,105,109,101,87,97,114,110,105,110,103]
noncomputable def n289 := XN [83,121,110,116,97,120,87,97,114,110,105,110,103]
noncomputable def n290 := XN [85,110,105,99,111,100,101,87,97,114,110,105,110,103]
noncomputable def n291 := XN [85,115,101,114,87,97,114,110,105,110,103]
noncomputable def n292 := XN [66,108,111,99,107,105,110,103,73,79,69,114,114,111,114]
noncomputable def n293 := XN [67,104,105,108,100,80,114,111,99,101,115,115,69,114,114,111,114]
noncomputable def n294 := XN [67,111,110,110,101,99,116,105,111,110,69,114,114,111,114]
noncomputable def n295 := XN [70,105,108,101,69,120,105,115,116,115,69,114,114,111,114]
noncomputable def n296 := XN [70,105,108,101,78,111,116,70,111,117,110,100,69,114,114,111,114]
noncomputable def n297 := XN [73,110,116,101,114,114,117,112,116,101,100,69,114,114,111,114]
noncomputable def n298 := XN [73,115,65,68,105,114,101,99,116,111,114,121,69,114,114,111,114]
noncomputable def n299 := XN [78,111,116,65,68,105,114,101,99,116,111,114,121,69,114,114,111,114]
noncomputable def n300 := XN [80,101,114,109,105,115,115,105,111,110,69,114,114,111,114]
noncomputable def n301 := XN [80,114,111,99,101,115,115,76,111,111,107,117,112,69,114,114,111,114]
noncomputable def n302 := XN [84,105,109,101,111,117,116,69,114,114,111,114]
noncomputable def n303 := XN [73,110,100,101,110,116,97,116,105,111,110,69,114,114,111,114]
noncomputable def n304 := XN [95,73,110,99,111,109,112,108,101,116,101,73,110,112,117,116,69,114,114,111,114]
noncomputable def n305 := XN [73,110,100,101,120,69,114,114,111,114]
noncomputable def n306 := XN [75,101,121,69,114,114,111,114]
noncomputable def n307 := XN [77,111,100,117,108,101,78,111,116,70,111,117,110,100,69,114,114,111,114]
noncomputable def n308 := XN [78,111,116,73,109,112,108,101,109,101,110,116,101,100,69,114,114,111,114]
noncomputable def n309 := XN [80,121,116,104,111,110,70,105,110,97,108,105,122,97,116,105,111,110,69,114,114,111,114]
noncomputable def n310 := XN [82,101,99,117,114,115,105,111,110,69,114,114,111,114]
noncomputable def n311 := XN [85,110,98,111,117,110,100,76,111,99,97,108,69,114,114,111,114]
noncomputable def n312 := XN [85,110,105,99,111,100,101,69,114,114,111,114]
noncomputable def n313 := XN [66,114,111,107,101,110,80,105,112,101,69,114,114,111,114]
noncomputable def n314 := XN [67,111,110,110,101,99,116,105,111,110,65,98,111,114,116,101,100,69,114,114,111,114]
noncomputable def n315 := XN [67,111,110,110,101,99,116,105,111,110,82,101,102,117,115,101,100,69,114,114,111,114]
noncomputable def n316 := XN [67,111,110,110,101,99,116,105,111,110,82,101,115,101,116,69,114,114,111,114]
noncomputable def n317 := XN [84,97,98,69,114,114,111,114]
noncomputable def n318 := XN [85,110,105,99,111,100,101,68,101,99,111,100,101,69,114,114,111,114]
noncomputable def n319 := XN [85,110,105,99,111,100,101,69,110,99,111,100,101,69,114,114,111,114]
noncomputable def n320 := XN [85,110,105,99,111,100,101,84,114,97,110,115,108,97,116,101,69,114,114,111,114]
noncomputable def n321 := XN [69,120,99,101,112,116,105,111,110,71,114,111,117,112]
noncomputable def n322 := XN [69,110,118,105,114,111,110,109,101,110,116,69,114,114,111,114]
noncomputable def n323 := XN [73,79,69,114,114,111,114]
noncomputable def n324 := XN [111,112,101,110]
noncomputable def n325 := XN [113,117,105,116]
noncomputable def n326 := XN [101,120,105,116]
noncomputable def n327 := XN [99,111,112,121,114,105,103,104,116]
noncomputable def n328 := XN [99,114,101,100,105,116,115]
noncomputable def n329 := XN [108,105,99,101,110,115,101]
noncomputable def n330 := XN [104,101,108,112]
noncomputable def big0 : Int := 10000000000000000000000000000000000000000000000000000000000000000000000000000000000000000000000000000000000000000000000000000000000000000000000000000000000000000000000000000000000000000000000000000000000000000000000000000000000000000000000000000000000000000000000000000000000000000000000000000000000000000000000000000000000000000000000000000000000000000000000000000000000000000000000000000000000000000000000000000000000000000000000000000000000000000000000000000000000000000000000000000000000000000000000000000000000000000000000000000000000000000000000000000000000000000000000000000000000000000000000000000000000000000000000000000000000000000000000000000000000000000000000000000000000000000000000000000000000000000000000000000000000000000000000000000000000000000000000000000000000000000000000000000000000000000000000000000000000000000000000000000000000000000000000000000000000000000000000000000000000000000000000000000000000000000000000000000000000000000000000000000000000000000000000000000000000000000000000000000000000000000000000000000000000000000000000000000000000000000000000000000000000000000000000000000000000000000000000000000000000000000000000000000000000000000000000000000000000000000000000000000000000000000000000000000000000000000000000000000000000000000000000000000000000000000000000000000000000000000000000000000000000000000000000000000000000000000000000000000000000000000000000000000000000000000000000000000000000000000000000000000000000000000000000000000000000000000000000000000000000000000000000000000000000000000000000000000000000000000000000000000000000000000000000000000000000000000000000000000000000000000000000000000000000000000000000000000000000000000000000000000000000000000000000000000000000000000000000000000000000000000000000000000000000000000000000000000000000000000000000000000000000000000000000000000000000000000000000000000000000000000000000000000000000000000000000000000000000000000000000000000000000000000000000000000000000000000000000000000000000000000000000000000000000000000000000000000000000000000000000000000000000000000000000000000000000000000000000000000000000000000000000000000000000000000000000000000000000000000000000000000000000000000000000000000000000000000000000000000000000000000000000000000000000000000000000000000000000000000000000000000000000000000000000000000000000000000000000000000000000000000000000000000000000000000000000000000000000000000000000000000000000000000000000000000000000000000000000000000000000000000000000000000000000000000000000000000000000000000000000000000000000000000000000000000000000000000000000000000000000000000000000000000000000000000000000000000000000000000000000000000000000000000000000000000000000000000000000000000000000000000000000000000000000000000000000000000000000000000000000000000000000000000000000000000000000000000000000000000000000000000000000000000000000000000000000000000000000000000000000000000000000000000000000000000000000000000000000000000000000000000000000000000000000000000000000000000000000000000000000000000000000000000000000000000000000000000000000000000000000000000000000000000000000000000000000000000000000000000000000000000000000000000000000000000000000000000000000000000000000000000000000000000000000000000000000000000000000000000000000000000000000000000000000000000000000000000000000000000000000000000000000000000000000000000000000000000000000000000000000000000000000000000000000000000000000000000000000000000000000000000000000000000000000000000000000000000000000000000000000000000000000000000000000000000000000000000000000000000000000000000000000000000000000000000000000000000000000000000000000000000000000000000000000000000000000000000000000000000000000000000000000000000000000000000000000000000000000000000000000000000000000000000000000000000000000000000000000000000000000000000000000000000000000000000000000000000000000000000000000000000000000000000000000000000000000000000000000000000000000000000000000000000000000000000000000000000000000000000000000000000000000000000000000000000000000000000
noncomputable def XD (c : Value) (d : Option Addr) (l : List (Params -> DictEntry)) (n : Nat) : Params -> Obj := fun P => ⟨c,d,.dict (Array.mk (l.map fun e => e P)) n,Array.mk []⟩
noncomputable def XM (o : Obj) : Params -> Obj := fun _ => o
noncomputable def Y0 (a : PySem.Str) (b : Nat) (c : PySem.Str) (d e : Int) (f : Nat) (g : Int) (h : Nat) : Params -> Obj := XO XT1 X6 (.fields (X8 [(XS a b),(XS c (b+1)),(XS n1 (b+2)),(X0 d),(X0 e),(X0 0),(X0 0),(X0 3),(X1 f),(XB true),(X0 181),(X1 (f+1)),X7,(X1 (f+2)),(X1 (f+3)),(X1 (f+4)),(X0 g),(X0 d),(XS n1 h)]))
noncomputable def Y1 (a b : Nat) (c d e : PySem.Str) (f g : Nat) : Params -> Obj := XO XT3 X6 (XF (fnB a b) c d 3 X7 X7 X7 (XS e f) X6 (X1 g) X7)
noncomputable def Y2 (a b : Nat) (c d : PySem.Str) : Params -> Obj := XO X7 X6 (XF (fnB a b) c d 0 X7 X7 X7 X7 X6 X7 X7)
noncomputable def Y3 (a : PySem.Str) (b c d : Nat) : Params -> Obj := XM ⟨(Value.type PySem.W.SL.s17162191345867700912x4),Option.none,(.cls (ClassData.mk a [(Value.type PySem.W.SL.s2742458400755230247x6)] [(.ref b),(Value.type PySem.W.SL.s2742458400755230247x6)] c a true [] [] false Option.none false)),Array.mk [Option.none,Option.none,(some (Value.str a d)),(some (Value.str a (d+8))),(some (Value.builtin PySem.W.SL.s11443829558043349243x14)),(some (Value.bool true))]⟩
noncomputable def Y4 (a b : Nat) (c : PySem.Str) (d : Nat) : Params -> Obj := XM ⟨(Value.type PySem.W.SL.s658472552662922059x5),Option.none,.plain,Array.mk [(some (.ref a)),(some (.ref 3)),(some (.ref b)),Option.none,(some (Value.str c d)),Option.none,(some (.ref 0))]⟩
noncomputable def Y5 (a : PySem.Str) (b : Nat) (c : Int) (d : Nat) (e f : Int) : Params -> Obj := XO XT1 X6 (.fields (X8 [(XS a b),(XS a (b+1)),(XS n1 (b+2)),(X0 c),(X0 0),(X0 0),(X0 0),(X0 0),(X1 d),(XB false),(X0 e),(X1 (d+1)),X7,X7,X7,X7,(X0 f),(X0 c),(XS n1 (b+4))]))
noncomputable def Y6 (a : Nat) (b c : PySem.Str) (d e : Nat) : Params -> Obj := XO XT3 X6 (XF (fnA a) b b 3 X7 X7 X7 (XS c d) X6 (X1 e) X7)
noncomputable def Y7 (a : PySem.Str) (b : Nat) (c : PySem.Str) : Params -> Obj := XO XT0 X6 (.seq (X8 [(XS a b),(XS c (b+1))]) 0)
noncomputable def Y8 (a : Nat) (b : PySem.Str) : Params -> Obj := XO X7 X6 (XF (fnA a) b b 0 X7 X7 X7 X7 X6 X7 X7)
noncomputable def Y9 (a : PySem.Str) (b : Nat) (c d : PySem.Str) : Params -> Obj := XO XT0 X6 (.seq (X8 [(XS a b),(XS c (b+1)),(XS d (b+2))]) 0)
noncomputable def Y10 (a : PySem.Str) (b : Nat) (c : PySem.Str) (d e : Int) (f : Nat) (g : Int) : Params -> Obj := XO XT1 X6 (.fields (X8 [(XS a b),(XS c (b+1)),(XS n1 (b+2)),(X0 d),(X0 e),(X0 0),(X0 0),(X0 3),(X1 f),(XB true),(X0 181),(X1 (f+1)),X7,X7,X7,(X1 (f+2)),(X0 g),(X0 d),(XS n1 (b+4))]))
noncomputable def Y11 (a b : Nat) : Params -> Obj := XO XT7 X6 (.fields (X8 [(XS n69 a),(X1 b),(Value.builtin PySem.W.SL.s6511155373996960695x17),(Value.builtin PySem.W.SL.s12411053484034534018x21)]))
noncomputable def Y12 (a b : Nat) : Params -> Obj := XO XT7 X6 (.fields (X8 [(XS n34 a),(X1 b),(Value.builtin PySem.W.SL.s10220274742760427390x26),X7]))
noncomputable def Y13 (a : Nat) : Params -> Obj := XO XT5 X6 (.fields (X8 [(Value.builtin PySem.W.SL.s4860613602091757760x24),(X1 a)]))
noncomputable def Y14 (a : Nat) : Params -> Obj := XO XT8 X6 (.fields (X8 [(X1 a),(X1 a),(X1 a)]))
noncomputable def Y15 (a : PySem.Str) (b : Nat) (c d e : PySem.Str) : Params -> Obj := XO XT0 X6 (.seq (X8 [(XS a b),(XS c (b+1)),(XS d (b+2)),(XS e (b+3))]) 0)
noncomputable def Y16 (a : PySem.Str) (b : Nat) : Params -> Obj := XO XT0 X6 (.seq (X8 [(XS a b)]) 0)
noncomputable def Y17 (a b : Nat) : Params -> Obj := XO (X1 a) (some b) .plain
noncomputable def o0 := XO XT0 X6 (.seq (X8 []) 0)
noncomputable def o1 := XO X7 X6 (.fields (X8 []))
noncomputable def o2 := Y5 n0 182 1 11 181 185
noncomputable def o3 := Y4 13 3 n2 164
noncomputable def q0 : List (Params -> DictEntry) := [(X2 n3 165 (XS n4 274)),(X2 n5 166 X7),(X2 n6 167 X7),(X2 n7 168 (Value.builtin PySem.W.SL.s7097527257260152453x26)),(X2 n8 169 X7),(X2 n9 170 (X1 6)),(X2 n10 171 (X1 4)),(X2 n11 173 (XS n1 172)),(X2 n12 174 X7),(X2 n13 193 (X1 21)),(X2 n14 197 (XS n15 196)),(X2 n16 199 (X9 4000 198)),(X2 n17 202 (X9 big0 201)),(X2 n18 204 (XS n19 203)),(X2 n20 222 (X1 31)),(X2 n21 229 (X1 41)),(X2 n22 236 (X1 48)),(X2 n23 244 (X1 55)),(X2 n24 251 (X1 62)),(X2 n25 258 (X1 69)),(X2 n26 265 (X1 76)),(X2 n27 273 (X1 83))]
noncomputable def o4 := XD XT2 X6 q0 22
noncomputable def q1 : List Value := [(X0 1),(X0 0),(X1 20),(X0 9),(X0 0),(X1 27),(X0 11),(X0 0),(X1 40),(X0 13),(X0 0),(X1 47),(X0 17),(X0 0),(X1 54),(X0 23),(X0 0),(X1 61),(X0 28),(X0 0),(X1 68),(X0 34),(X0 0),(X1 75),(X0 38),(X0 0),(X1 82)]
noncomputable def o5 := XO X7 X6 (.fields (X8 q1))
noncomputable def o6 := Y16 n28 190
noncomputable def o7 := Y8 0 n13
noncomputable def o8 := Y0 n13 187 n13 1 1 15 191 192
noncomputable def o9 := Y6 0 n13 n2 164 20
noncomputable def o10 := XO XT0 X6 (.seq (X8 [XT4]) 0)
noncomputable def o11 := XO XT5 X6 (.fields (X8 [(Value.builtin PySem.W.SL.s10062305145149207511x16),XT6]))
noncomputable def o12 := XD XT2 X6 [(X2 n29 212 (XS n30 194)),(X2 n31 214 (XS n20 213)),(X2 n32 216 (X9 9 215)),(X2 n33 217 (X1 29))] 4
noncomputable def o13 := Y5 n20 207 9 25 181 210
noncomputable def o14 := Y4 27 24 n30 194
noncomputable def o15 := XD XT2 X6 [(X2 n29 212 (XS n30 194)),(X2 n32 216 (X9 9 215)),(X2 n33 217 (X1 29)),(X2 n34 219 (X1 32)),(X2 n5 220 X7)] 3
noncomputable def o16 := XM ⟨(Value.type PySem.W.SL.s17162191345867700912x4),Option.none,(.cls (ClassData.mk n20 [(Value.type PySem.W.SL.s6070975301684473832x10)] [(.ref 31),(Value.type PySem.W.SL.s6070975301684473832x10),(Value.type PySem.W.SL.s5946037652744460706x9),(Value.type PySem.W.SL.s4278001404047624695x13),(Value.type PySem.W.SL.s2742458400755230247x6)] 30 n20 true [] [] false Option.none false)),Array.mk [(some (.ref 22)),Option.none,(some (Value.str n20 205)),(some (Value.str n20 213)),(some (Value.builtin PySem.W.SL.s4209523147560561109x18)),(some (Value.bool true))]⟩
noncomputable def o17 := Y12 218 31
noncomputable def o18 := Y14 31
noncomputable def o19 := Y13 31
noncomputable def o20 := Y16 n35 226
noncomputable def o21 := Y8 7 n21
noncomputable def o22 := Y0 n21 223 n21 11 1 35 227 228
noncomputable def o23 := Y6 7 n21 n30 194 40
noncomputable def o24 := Y16 n35 233
noncomputable def o25 := Y8 8 n22
noncomputable def o26 := Y0 n22 230 n22 13 1 42 234 235
noncomputable def o27 := Y6 8 n22 n30 194 47
noncomputable def o28 := Y7 n36 240 n35
noncomputable def o29 := Y8 9 n23
noncomputable def o30 := Y0 n23 237 n23 17 1 49 242 243
noncomputable def o31 := Y6 9 n23 n30 194 54
noncomputable def o32 := Y16 n37 248
noncomputable def o33 := Y8 10 n24
noncomputable def o34 := Y0 n24 245 n24 23 1 56 249 250
noncomputable def o35 := Y6 10 n24 n30 194 61
noncomputable def o36 := Y16 n38 255
noncomputable def o37 := Y8 11 n25
noncomputable def o38 := Y0 n25 252 n25 28 1 63 256 257
noncomputable def o39 := Y6 11 n25 n30 194 68
noncomputable def o40 := Y16 n38 262
noncomputable def o41 := Y8 12 n26
noncomputable def o42 := Y0 n26 259 n26 34 1 70 263 264
noncomputable def o43 := Y6 12 n26 n30 194 75
noncomputable def o44 := Y7 n39 269 n35
noncomputable def o45 := Y8 13 n27
noncomputable def o46 := Y0 n27 266 n27 38 1 77 271 272
noncomputable def o47 := Y6 13 n27 n30 194 82
noncomputable def q2 : List (Params -> DictEntry) := q0 ++ [(X2 n40 379 (X1 156))]
noncomputable def o48 := XD XT2 X6 q2 23
noncomputable def q3 : List Value := q1 ++ [(X0 46),(X0 0),(X1 89)]
noncomputable def o49 := XO X7 X6 (.fields (X8 q3))
noncomputable def q4 : List (Params -> DictEntry) := [(X2 n29 283 (XS n4 274)),(X2 n31 285 (XS n40 284)),(X2 n32 287 (X9 46 286)),(X2 n41 289 (XS n42 288)),(X2 n43 290 (XB true)),(X2 n44 291 (XB true)),(X2 n45 293 (X9 0 292)),(X2 n46 295 (X9 1 294)),(X2 n47 303 (X1 97)),(X2 n48 312 (X1 104)),(X2 n49 321 (X1 111)),(X2 n50 329 (X1 118)),(X2 n51 337 (X1 125)),(X2 n52 346 (X1 132)),(X2 n53 355 (X1 139)),(X2 n54 363 (X1 146)),(X2 n55 371 (X1 153)),(X2 n33 372 (X1 154))]
noncomputable def o50 := XD XT2 X6 q4 18
noncomputable def q5 : List Value := [(X0 53),(X0 4),(X1 96),(X0 58),(X0 4),(X1 103),(X0 61),(X0 4),(X1 110),(X0 64),(X0 4),(X1 117),(X0 67),(X0 4),(X1 124),(X0 70),(X0 4),(X1 131),(X0 73),(X0 4),(X1 138),(X0 76),(X0 4),(X1 145),(X0 79),(X0 4),(X1 152)]
noncomputable def o51 := XO X7 X6 (.fields (X8 q5))
noncomputable def o52 := Y5 n40 278 46 87 181 281
noncomputable def o53 := Y4 89 86 n4 274
noncomputable def o54 := Y7 n56 299 n57
noncomputable def o55 := Y2 15 5 n47 n58
noncomputable def o56 := Y0 n47 296 n58 53 2 91 301 302
noncomputable def o57 := Y1 15 5 n47 n58 n4 274 96
noncomputable def o58 := Y9 n56 307 n57 n59
noncomputable def o59 := Y2 15 6 n48 n60
noncomputable def o60 := Y0 n48 304 n60 58 3 98 310 311
noncomputable def o61 := Y1 15 6 n48 n60 n4 274 103
noncomputable def o62 := Y9 n56 316 n57 n59
noncomputable def o63 := Y2 15 7 n49 n61
noncomputable def o64 := Y0 n49 313 n61 61 3 105 319 320
noncomputable def o65 := Y1 15 7 n49 n61 n4 274 110
noncomputable def o66 := Y7 n56 325 n57
noncomputable def o67 := Y2 15 8 n50 n62
noncomputable def o68 := Y0 n50 322 n62 64 2 112 327 328
noncomputable def o69 := Y1 15 8 n50 n62 n4 274 117
noncomputable def o70 := Y7 n56 333 n63
noncomputable def o71 := Y2 15 9 n51 n64
noncomputable def o72 := Y0 n51 330 n64 67 2 119 335 336
noncomputable def o73 := Y1 15 9 n51 n64 n4 274 124
noncomputable def o74 := Y9 n56 341 n57 n59
noncomputable def o75 := Y2 15 10 n52 n65
noncomputable def o76 := Y0 n52 338 n65 70 3 126 344 345
noncomputable def o77 := Y1 15 10 n52 n65 n4 274 131
noncomputable def o78 := Y9 n56 350 n57 n59
noncomputable def o79 := Y2 15 11 n53 n66
noncomputable def o80 := Y0 n53 347 n66 73 3 133 353 354
noncomputable def o81 := Y1 15 11 n53 n66 n4 274 138
noncomputable def o82 := Y7 n56 359 n57
noncomputable def o83 := Y2 15 12 n54 n67
noncomputable def o84 := Y0 n54 356 n67 76 2 140 361 362
noncomputable def o85 := Y1 15 12 n54 n67 n4 274 145
noncomputable def o86 := Y7 n56 367 n39
noncomputable def o87 := Y2 15 13 n55 n68
noncomputable def o88 := Y0 n55 364 n68 79 2 147 369 370
noncomputable def o89 := Y1 15 13 n55 n68 n4 274 152
noncomputable def q6 : List (Params -> DictEntry) := [(X2 n29 283 (XS n4 274)),(X2 n32 287 (X9 46 286)),(X2 n41 289 (XS n42 288)),(X2 n43 290 (XB true)),(X2 n44 291 (XB true)),(X2 n45 293 (X9 0 292)),(X2 n46 295 (X9 1 294)),(X2 n47 303 (X1 97)),(X2 n48 312 (X1 104)),(X2 n49 321 (X1 111)),(X2 n50 329 (X1 118)),(X2 n51 337 (X1 125)),(X2 n52 346 (X1 132)),(X2 n53 355 (X1 139)),(X2 n54 363 (X1 146)),(X2 n55 371 (X1 153)),(X2 n33 372 (X1 154)),(X2 n69 374 (X1 157)),(X2 n34 376 (X1 158)),(X2 n5 377 X7)]
noncomputable def o90 := XD XT2 X6 q6 4
noncomputable def o91 := Y3 n40 156 155 276
noncomputable def o92 := Y11 373 156
noncomputable def o93 := Y12 375 156
noncomputable def o94 := Y14 156
noncomputable def o95 := Y13 156
noncomputable def q7 : List (Params -> DictEntry) := q2 ++ [(X2 n70 482 (X1 233))]
noncomputable def o96 := XD XT2 X6 q7 24
noncomputable def q8 : List Value := q3 ++ [(X0 81),(X0 0),(X1 166)]
noncomputable def o97 := XO X7 X6 (.fields (X8 q8))
noncomputable def q9 : List (Params -> DictEntry) := [(X2 n29 387 (XS n4 274)),(X2 n31 389 (XS n70 388)),(X2 n32 391 (X9 81 390)),(X2 n41 393 (XS n71 392)),(X2 n43 394 (XB true)),(X2 n44 395 (XB true)),(X2 n45 396 X7),(X2 n46 398 (X9 0 397)),(X2 n47 406 (X1 174)),(X2 n48 415 (X1 181)),(X2 n49 424 (X1 188)),(X2 n50 432 (X1 195)),(X2 n51 440 (X1 202)),(X2 n52 449 (X1 209)),(X2 n53 458 (X1 216)),(X2 n54 466 (X1 223)),(X2 n55 474 (X1 230)),(X2 n33 475 (X1 231))]
noncomputable def o98 := XD XT2 X6 q9 18
noncomputable def q10 : List Value := [(X0 88),(X0 4),(X1 173),(X0 93),(X0 4),(X1 180),(X0 100),(X0 4),(X1 187),(X0 105),(X0 4),(X1 194),(X0 108),(X0 4),(X1 201),(X0 111),(X0 4),(X1 208),(X0 116),(X0 4),(X1 215),(X0 119),(X0 4),(X1 222),(X0 122),(X0 4),(X1 229)]
noncomputable def o99 := XO X7 X6 (.fields (X8 q10))
noncomputable def o100 := Y5 n70 382 81 164 181 385
noncomputable def o101 := Y4 166 163 n4 274
noncomputable def o102 := Y7 n56 402 n57
noncomputable def o103 := Y2 16 5 n47 n72
noncomputable def o104 := Y0 n47 399 n72 88 2 168 404 405
noncomputable def o105 := Y1 16 5 n47 n72 n4 274 173
noncomputable def o106 := Y9 n56 410 n57 n59
noncomputable def o107 := Y2 16 6 n48 n73
noncomputable def o108 := Y0 n48 407 n73 93 3 175 413 414
noncomputable def o109 := Y1 16 6 n48 n73 n4 274 180
noncomputable def o110 := Y9 n56 419 n57 n59
noncomputable def o111 := Y2 16 7 n49 n74
noncomputable def o112 := Y0 n49 416 n74 100 3 182 422 423
noncomputable def o113 := Y1 16 7 n49 n74 n4 274 187
noncomputable def o114 := Y7 n56 428 n57
noncomputable def o115 := Y2 16 8 n50 n75
noncomputable def o116 := Y0 n50 425 n75 105 2 189 430 431
noncomputable def o117 := Y1 16 8 n50 n75 n4 274 194
noncomputable def o118 := Y7 n56 436 n63
noncomputable def o119 := Y2 16 9 n51 n76
noncomputable def o120 := Y0 n51 433 n76 108 2 196 438 439
noncomputable def o121 := Y1 16 9 n51 n76 n4 274 201
noncomputable def o122 := Y9 n56 444 n57 n59
noncomputable def o123 := Y2 16 10 n52 n77
noncomputable def o124 := Y0 n52 441 n77 111 3 203 447 448
noncomputable def o125 := Y1 16 10 n52 n77 n4 274 208
noncomputable def o126 := Y9 n56 453 n57 n59
noncomputable def o127 := Y2 16 11 n53 n78
noncomputable def o128 := Y0 n53 450 n78 116 3 210 456 457
noncomputable def o129 := Y1 16 11 n53 n78 n4 274 215
noncomputable def o130 := Y7 n56 462 n57
noncomputable def o131 := Y2 16 12 n54 n79
noncomputable def o132 := Y0 n54 459 n79 119 2 217 464 465
noncomputable def o133 := Y1 16 12 n54 n79 n4 274 222
noncomputable def o134 := Y7 n56 470 n39
noncomputable def o135 := Y2 16 13 n55 n80
noncomputable def o136 := Y0 n55 467 n80 122 2 224 472 473
noncomputable def o137 := Y1 16 13 n55 n80 n4 274 229
noncomputable def q11 : List (Params -> DictEntry) := [(X2 n29 387 (XS n4 274)),(X2 n32 391 (X9 81 390)),(X2 n41 393 (XS n71 392)),(X2 n43 394 (XB true)),(X2 n44 395 (XB true)),(X2 n45 396 X7),(X2 n46 398 (X9 0 397)),(X2 n47 406 (X1 174)),(X2 n48 415 (X1 181)),(X2 n49 424 (X1 188)),(X2 n50 432 (X1 195)),(X2 n51 440 (X1 202)),(X2 n52 449 (X1 209)),(X2 n53 458 (X1 216)),(X2 n54 466 (X1 223)),(X2 n55 474 (X1 230)),(X2 n33 475 (X1 231)),(X2 n69 477 (X1 234)),(X2 n34 479 (X1 235)),(X2 n5 480 X7)]
noncomputable def o138 := XD XT2 X6 q11 4
noncomputable def o139 := Y3 n70 233 232 380
noncomputable def o140 := Y11 476 233
noncomputable def o141 := Y12 478 233
noncomputable def o142 := Y14 233
noncomputable def o143 := Y13 233
noncomputable def q12 : List (Params -> DictEntry) := q7 ++ [(X2 n81 586 (X1 310)),(X2 n82 594 (X1 321))]
noncomputable def o144 := XD XT2 X6 q12 26
noncomputable def q13 : List Value := q8 ++ [(X0 126),(X0 0),(X1 243),(X0 161),(X0 0),(X1 320)]
noncomputable def o145 := XO X7 X6 (.fields (X8 q13))
noncomputable def q14 : List (Params -> DictEntry) := [(X2 n29 490 (XS n4 274)),(X2 n31 492 (XS n81 491)),(X2 n32 494 (X9 126 493)),(X2 n41 496 (XS n83 495)),(X2 n43 497 (XB false)),(X2 n44 498 (XB true)),(X2 n45 500 (X9 0 499)),(X2 n46 502 (X9 1 501)),(X2 n47 510 (X1 251)),(X2 n48 519 (X1 258)),(X2 n49 528 (X1 265)),(X2 n50 536 (X1 272)),(X2 n51 544 (X1 279)),(X2 n52 553 (X1 286)),(X2 n53 562 (X1 293)),(X2 n54 570 (X1 300)),(X2 n55 578 (X1 307)),(X2 n33 579 (X1 308))]
noncomputable def o146 := XD XT2 X6 q14 18
noncomputable def q15 : List Value := [(X0 133),(X0 4),(X1 250),(X0 138),(X0 4),(X1 257),(X0 141),(X0 4),(X1 264),(X0 144),(X0 4),(X1 271),(X0 147),(X0 4),(X1 278),(X0 150),(X0 4),(X1 285),(X0 153),(X0 4),(X1 292),(X0 156),(X0 4),(X1 299),(X0 159),(X0 4),(X1 306)]
noncomputable def o147 := XO X7 X6 (.fields (X8 q15))
noncomputable def o148 := Y5 n81 485 126 241 181 488
noncomputable def o149 := Y4 243 240 n4 274
noncomputable def o150 := Y7 n56 506 n57
noncomputable def o151 := Y2 17 5 n47 n84
noncomputable def o152 := Y0 n47 503 n84 133 2 245 508 509
noncomputable def o153 := Y1 17 5 n47 n84 n4 274 250
noncomputable def o154 := Y9 n56 514 n57 n59
noncomputable def o155 := Y2 17 6 n48 n85
noncomputable def o156 := Y0 n48 511 n85 138 3 252 517 518
noncomputable def o157 := Y1 17 6 n48 n85 n4 274 257
noncomputable def o158 := Y9 n56 523 n57 n59
noncomputable def o159 := Y2 17 7 n49 n86
noncomputable def o160 := Y0 n49 520 n86 141 3 259 526 527
noncomputable def o161 := Y1 17 7 n49 n86 n4 274 264
noncomputable def o162 := Y7 n56 532 n57
noncomputable def o163 := Y2 17 8 n50 n87
noncomputable def o164 := Y0 n50 529 n87 144 2 266 534 535
noncomputable def o165 := Y1 17 8 n50 n87 n4 274 271
noncomputable def o166 := Y7 n56 540 n63
noncomputable def o167 := Y2 17 9 n51 n88
noncomputable def o168 := Y0 n51 537 n88 147 2 273 542 543
noncomputable def o169 := Y1 17 9 n51 n88 n4 274 278
noncomputable def o170 := Y9 n56 548 n57 n59
noncomputable def o171 := Y2 17 10 n52 n89
noncomputable def o172 := Y0 n52 545 n89 150 3 280 551 552
noncomputable def o173 := Y1 17 10 n52 n89 n4 274 285
noncomputable def o174 := Y9 n56 557 n57 n59
noncomputable def o175 := Y2 17 11 n53 n90
noncomputable def o176 := Y0 n53 554 n90 153 3 287 560 561
noncomputable def o177 := Y1 17 11 n53 n90 n4 274 292
noncomputable def o178 := Y7 n56 566 n57
noncomputable def o179 := Y2 17 12 n54 n91
noncomputable def o180 := Y0 n54 563 n91 156 2 294 568 569
noncomputable def o181 := Y1 17 12 n54 n91 n4 274 299
noncomputable def o182 := Y7 n56 574 n39
noncomputable def o183 := Y2 17 13 n55 n92
noncomputable def o184 := Y0 n55 571 n92 159 2 301 576 577
noncomputable def o185 := Y1 17 13 n55 n92 n4 274 306
noncomputable def q16 : List (Params -> DictEntry) := [(X2 n29 490 (XS n4 274)),(X2 n32 494 (X9 126 493)),(X2 n41 496 (XS n83 495)),(X2 n43 497 (XB false)),(X2 n44 498 (XB true)),(X2 n45 500 (X9 0 499)),(X2 n46 502 (X9 1 501)),(X2 n47 510 (X1 251)),(X2 n48 519 (X1 258)),(X2 n49 528 (X1 265)),(X2 n50 536 (X1 272)),(X2 n51 544 (X1 279)),(X2 n52 553 (X1 286)),(X2 n53 562 (X1 293)),(X2 n54 570 (X1 300)),(X2 n55 578 (X1 307)),(X2 n33 579 (X1 308)),(X2 n69 581 (X1 311)),(X2 n34 583 (X1 312)),(X2 n5 584 X7)]
noncomputable def o186 := XD XT2 X6 q16 4
noncomputable def o187 := Y3 n81 310 309 483
noncomputable def o188 := Y11 580 310
noncomputable def o189 := Y12 582 310
noncomputable def o190 := Y14 310
noncomputable def o191 := Y13 310
noncomputable def o192 := Y7 n57 590 n59
noncomputable def o193 := Y8 18 n82
noncomputable def o194 := Y0 n82 587 n82 161 2 315 592 593
noncomputable def o195 := Y6 18 n82 n4 274 320
noncomputable def q17 : List (Params -> DictEntry) := q12 ++ [(X2 n93 703 (X1 396))]
noncomputable def o196 := XD XT2 X6 q17 27
noncomputable def q18 : List Value := q13 ++ [(X0 165),(X0 0),(X1 327)]
noncomputable def o197 := XO X7 X6 (.fields (X8 q18))
noncomputable def q19 : List (Params -> DictEntry) := [(X2 n29 602 (XS n4 274)),(X2 n31 604 (XS n93 603)),(X2 n32 606 (X9 165 605)),(X2 n41 608 (XS n94 607)),(X2 n43 609 (XB false)),(X2 n44 610 (XB true)),(X2 n45 613 (X1 329)),(X2 n46 616 (X1 330)),(X2 n47 624 (X1 337)),(X2 n48 633 (X1 344)),(X2 n49 642 (X1 351)),(X2 n50 650 (X1 358)),(X2 n51 658 (X1 365)),(X2 n52 667 (X1 372)),(X2 n53 676 (X1 379)),(X2 n54 684 (X1 386)),(X2 n55 695 (X1 393)),(X2 n33 696 (X1 394))]
noncomputable def o198 := XD XT2 X6 q19 18
noncomputable def q20 : List Value := [(X0 172),(X0 4),(X1 336),(X0 179),(X0 4),(X1 343),(X0 182),(X0 4),(X1 350),(X0 185),(X0 4),(X1 357),(X0 188),(X0 4),(X1 364),(X0 191),(X0 4),(X1 371),(X0 194),(X0 4),(X1 378),(X0 197),(X0 4),(X1 385),(X0 200),(X0 4),(X1 392)]
noncomputable def o199 := XO X7 X6 (.fields (X8 q20))
noncomputable def o200 := Y5 n93 597 165 325 181 600
noncomputable def o201 := Y4 327 324 n4 274
noncomputable def o202 := XO XT0 X6 (.seq (X8 [(X9 0 611),(X9 1 612)]) 0)
noncomputable def o203 := XO XT0 X6 (.seq (X8 [(X9 1 614),(X9 1 615)]) 0)
noncomputable def o204 := Y7 n56 620 n57
noncomputable def o205 := Y2 19 5 n47 n95
noncomputable def o206 := Y0 n47 617 n95 172 2 331 622 623
noncomputable def o207 := Y1 19 5 n47 n95 n4 274 336
noncomputable def o208 := Y9 n56 628 n57 n59
noncomputable def o209 := Y2 19 6 n48 n96
noncomputable def o210 := Y0 n48 625 n96 179 3 338 631 632
noncomputable def o211 := Y1 19 6 n48 n96 n4 274 343
noncomputable def o212 := Y9 n56 637 n57 n59
noncomputable def o213 := Y2 19 7 n49 n97
noncomputable def o214 := Y0 n49 634 n97 182 3 345 640 641
noncomputable def o215 := Y1 19 7 n49 n97 n4 274 350
noncomputable def o216 := Y7 n56 646 n57
noncomputable def o217 := Y2 19 8 n50 n98
noncomputable def o218 := Y0 n50 643 n98 185 2 352 648 649
noncomputable def o219 := Y1 19 8 n50 n98 n4 274 357
noncomputable def o220 := Y7 n56 654 n63
noncomputable def o221 := Y2 19 9 n51 n99
noncomputable def o222 := Y0 n51 651 n99 188 2 359 656 657
noncomputable def o223 := Y1 19 9 n51 n99 n4 274 364
noncomputable def o224 := Y9 n56 662 n57 n59
noncomputable def o225 := Y2 19 10 n52 n100
noncomputable def o226 := Y0 n52 659 n100 191 3 366 665 666
noncomputable def o227 := Y1 19 10 n52 n100 n4 274 371
noncomputable def o228 := Y9 n56 671 n57 n59
noncomputable def o229 := Y2 19 11 n53 n101
noncomputable def o230 := Y0 n53 668 n101 194 3 373 674 675
noncomputable def o231 := Y1 19 11 n53 n101 n4 274 378
noncomputable def o232 := Y7 n56 680 n57
noncomputable def o233 := Y2 19 12 n54 n102
noncomputable def o234 := Y0 n54 677 n102 197 2 380 682 683
noncomputable def o235 := Y1 19 12 n54 n102 n4 274 385
noncomputable def o236 := XO XT0 X6 (.seq (X8 [(XS n56 688),(XS n39 689),(XS n103 690),(XS n104 691),(XS n105 692)]) 0)
noncomputable def o237 := Y2 19 13 n55 n106
noncomputable def o238 := Y0 n55 685 n106 200 2 387 693 694
noncomputable def o239 := Y1 19 13 n55 n106 n4 274 392
noncomputable def q21 : List (Params -> DictEntry) := [(X2 n29 602 (XS n4 274)),(X2 n32 606 (X9 165 605)),(X2 n41 608 (XS n94 607)),(X2 n43 609 (XB false)),(X2 n44 610 (XB true)),(X2 n45 613 (X1 329)),(X2 n46 616 (X1 330)),(X2 n47 624 (X1 337)),(X2 n48 633 (X1 344)),(X2 n49 642 (X1 351)),(X2 n50 650 (X1 358)),(X2 n51 658 (X1 365)),(X2 n52 667 (X1 372)),(X2 n53 676 (X1 379)),(X2 n54 684 (X1 386)),(X2 n55 695 (X1 393)),(X2 n33 696 (X1 394)),(X2 n69 698 (X1 397)),(X2 n34 700 (X1 398)),(X2 n5 701 X7)]
noncomputable def o240 := XD XT2 X6 q21 4
noncomputable def o241 := Y3 n93 396 395 595
noncomputable def o242 := Y11 697 396
noncomputable def o243 := Y12 699 396
noncomputable def o244 := Y14 396
noncomputable def o245 := Y13 396
noncomputable def q22 : List (Params -> DictEntry) := q17 ++ [(X2 n107 756 (X1 438)),(X2 n108 765 (X1 447))]
noncomputable def o246 := XD XT2 X6 q22 29
noncomputable def q23 : List Value := q18 ++ [(X0 205),(X0 0),(X1 406),(X0 225),(X0 0),(X1 446)]
noncomputable def o247 := XO X7 X6 (.fields (X8 q23))
noncomputable def o248 := XM ⟨(Value.type PySem.W.SL.s17162191345867700912x4),Option.none,(.cls (ClassData.mk n93 [(Value.type PySem.W.SL.s2742458400755230247x6)] [(.ref 396),(Value.type PySem.W.SL.s2742458400755230247x6)] 395 n93 true [] [(.ref 438)] false Option.none false)),Array.mk [Option.none,Option.none,(some (Value.str n93 595)),(some (Value.str n93 603)),(some (Value.builtin PySem.W.SL.s11443829558043349243x14)),(some (Value.bool true))]⟩
noncomputable def o249 := XO XT0 X6 (.seq (X8 [(X1 396)]) 0)
noncomputable def q24 : List (Params -> DictEntry) := [(X2 n29 711 (XS n4 274)),(X2 n31 713 (XS n107 712)),(X2 n32 715 (X9 205 714)),(X2 n41 717 (XS n109 716)),(X2 n43 718 (XB true)),(X2 n47 726 (X1 414)),(X2 n48 735 (X1 421)),(X2 n50 743 (X1 428)),(X2 n53 752 (X1 435)),(X2 n33 753 (X1 436))]
noncomputable def o250 := XD XT2 X6 q24 10
noncomputable def o251 := XO X7 X6 (.fields (X8 [(X0 209),(X0 4),(X1 413),(X0 215),(X0 4),(X1 420),(X0 220),(X0 4),(X1 427),(X0 223),(X0 4),(X1 434)]))
noncomputable def o252 := Y5 n107 706 205 404 181 709
noncomputable def o253 := Y4 406 403 n4 274
noncomputable def o254 := Y7 n56 722 n57
noncomputable def o255 := Y2 20 2 n47 n110
noncomputable def o256 := Y0 n47 719 n110 209 2 408 724 725
noncomputable def o257 := Y1 20 2 n47 n110 n4 274 413
noncomputable def o258 := Y9 n56 730 n57 n59
noncomputable def o259 := Y2 20 3 n48 n111
noncomputable def o260 := Y0 n48 727 n111 215 3 415 733 734
noncomputable def o261 := Y1 20 3 n48 n111 n4 274 420
noncomputable def o262 := Y7 n56 739 n57
noncomputable def o263 := Y2 20 4 n50 n112
noncomputable def o264 := Y0 n50 736 n112 220 2 422 741 742
noncomputable def o265 := Y1 20 4 n50 n112 n4 274 427
noncomputable def o266 := Y9 n56 747 n57 n59
noncomputable def o267 := Y2 20 5 n53 n113
noncomputable def o268 := Y0 n53 744 n113 223 3 429 750 751
noncomputable def o269 := Y1 20 5 n53 n113 n4 274 434
noncomputable def q25 : List (Params -> DictEntry) := [(X2 n29 711 (XS n4 274)),(X2 n32 715 (X9 205 714)),(X2 n41 717 (XS n109 716)),(X2 n43 718 (XB true)),(X2 n47 726 (X1 414)),(X2 n48 735 (X1 421)),(X2 n50 743 (X1 428)),(X2 n53 752 (X1 435)),(X2 n33 753 (X1 436)),(X2 n5 754 X7)]
noncomputable def o270 := XD XT2 X6 q25 2
noncomputable def o271 := XM ⟨(Value.type PySem.W.SL.s17162191345867700912x4),Option.none,(.cls (ClassData.mk n107 [(.ref 396)] [(.ref 438),(.ref 396),(Value.type PySem.W.SL.s2742458400755230247x6)] 437 n107 true [] [] false Option.none false)),Array.mk [(some (.ref 401)),Option.none,(some (Value.str n107 704)),(some (Value.str n107 712)),(some (Value.builtin PySem.W.SL.s11443829558043349243x14)),(some (Value.bool true))]⟩
noncomputable def o272 := Y14 438
noncomputable def o273 := Y13 438
noncomputable def o274 := Y9 n114 760 n115 n116
noncomputable def o275 := Y8 21 n108
noncomputable def o276 := Y0 n108 757 n108 225 2 441 763 764
noncomputable def o277 := Y6 21 n108 n4 274 446
noncomputable def q26 : List (Params -> DictEntry) := [(X2 n3 165 (XS n117 775)),(X2 n5 166 X7),(X2 n6 167 X7),(X2 n7 168 (Value.builtin PySem.W.SL.s7097527257260152453x26)),(X2 n8 169 X7),(X2 n9 170 (X1 6)),(X2 n10 171 (X1 4)),(X2 n11 173 (XS n1 172)),(X2 n12 174 X7),(X2 n13 193 (X1 21)),(X2 n14 197 (XS n15 196)),(X2 n16 199 (X9 4000 198)),(X2 n17 202 (X9 big0 201)),(X2 n18 204 (XS n19 203)),(X2 n20 222 (X1 31)),(X2 n21 229 (X1 41)),(X2 n22 236 (X1 48)),(X2 n23 244 (X1 55)),(X2 n24 251 (X1 62)),(X2 n25 258 (X1 69)),(X2 n26 265 (X1 76)),(X2 n27 273 (X1 83)),(X2 n40 379 (X1 156)),(X2 n70 482 (X1 233)),(X2 n81 586 (X1 310)),(X2 n82 594 (X1 321)),(X2 n93 703 (X1 396)),(X2 n107 756 (X1 438)),(X2 n108 765 (X1 447)),(X2 n118 766 (X1 458)),(X2 n119 774 (X1 465)),(X2 n120 778 (XS n121 777)),(X2 n122 780 (XS n123 779)),(X2 n124 782 (X9 200 781)),(X2 n125 784 (X9 20000 783))]
noncomputable def o278 := XD XT2 X6 q26 35
noncomputable def q27 : List Value := q23 ++ [(X0 229),(X0 0),(X1 464)]
noncomputable def o279 := XO X7 X6 (.fields (X8 q27))
noncomputable def o280 := XO XT2 X6 (.dict (X8 []) 0)
noncomputable def o281 := Y17 156 448
noncomputable def o282 := Y17 233 450
noncomputable def o283 := Y17 310 452
noncomputable def o284 := Y17 396 454
noncomputable def o285 := Y17 438 456
noncomputable def o286 := XO XT9 X6 (.seq (X8 [(X1 449),(X1 451),(X1 453),(X1 455),(X1 457)]) 0)
noncomputable def o287 := Y7 n41 770 n46
noncomputable def o288 := Y8 23 n119
noncomputable def o289 := Y0 n119 767 n119 229 1 459 772 773
noncomputable def o290 := Y6 23 n119 n4 274 464
noncomputable def q28 : List (Params -> DictEntry) := [(X2 n3 165 (XS n126 927)),(X2 n5 166 X7),(X2 n6 167 X7),(X2 n7 168 (Value.builtin PySem.W.SL.s7097527257260152453x26)),(X2 n8 169 X7),(X2 n9 170 (X1 6)),(X2 n10 171 (X1 4)),(X2 n11 173 (XS n1 172)),(X2 n12 174 X7),(X2 n13 193 (X1 21)),(X2 n14 197 (XS n15 196)),(X2 n16 199 (X9 4000 198)),(X2 n17 202 (X9 big0 201)),(X2 n18 204 (XS n19 203)),(X2 n20 222 (X1 31)),(X2 n21 229 (X1 41)),(X2 n22 236 (X1 48)),(X2 n23 244 (X1 55)),(X2 n24 251 (X1 62)),(X2 n25 258 (X1 69)),(X2 n26 265 (X1 76)),(X2 n27 273 (X1 83)),(X2 n40 379 (X1 156)),(X2 n70 482 (X1 233)),(X2 n81 586 (X1 310)),(X2 n82 594 (X1 321)),(X2 n93 703 (X1 396)),(X2 n107 756 (X1 438)),(X2 n108 765 (X1 447)),(X2 n118 766 (X1 458)),(X2 n119 774 (X1 465)),(X2 n120 778 (XS n121 777)),(X2 n122 780 (XS n123 779)),(X2 n124 782 (X9 200 781)),(X2 n125 784 (X9 20000 783)),(X2 n127 828 (X1 496)),(X2 n128 836 (X1 507)),(X2 n129 842 (X1 512)),(X2 n130 852 (X1 519)),(X2 n131 873 (X1 527)),(X2 n132 883 (X1 534)),(X2 n133 892 (X1 541)),(X2 n134 899 (X1 548)),(X2 n135 909 (X1 555)),(X2 n136 926 (X1 562))]
noncomputable def o291 := XD XT2 X6 q28 45
noncomputable def q29 : List Value := q27 ++ [(X0 239),(X0 0),(X1 471),(X0 272),(X0 0),(X1 506),(X0 278),(X0 0),(X1 511),(X0 280),(X0 0),(X1 518),(X0 294),(X0 0),(X1 526),(X0 318),(X0 0),(X1 533),(X0 330),(X0 0),(X1 540),(X0 338),(X0 0),(X1 547),(X0 342),(X0 0),(X1 554),(X0 348),(X0 0),(X1 561)]
noncomputable def o292 := XO X7 X6 (.fields (X8 q29))
noncomputable def o293 := XD XT2 X6 [(X2 n29 792 (XS n117 775)),(X2 n31 794 (XS n127 793)),(X2 n32 796 (X9 239 795)),(X2 n137 802 (X1 480)),(X2 n138 810 (X1 487)),(X2 n139 816 (X1 493)),(X2 n33 821 (X1 494))] 7
noncomputable def o294 := XO X7 X6 (.fields (X8 [(X0 241),(X0 4),(X1 479),(X0 258),(X0 4),(X1 486),(X0 262),(X0 4),(X1 492)]))
noncomputable def o295 := Y5 n127 787 239 469 181 790
noncomputable def o296 := Y4 471 468 n117 775
noncomputable def o297 := XO XT0 X6 (.seq (X8 [(X1 473),(X1 474),(XS n123 779)]) 0)
noncomputable def o298 := Y2 29 0 n137 n140
noncomputable def o299 := Y10 n137 797 n140 241 5 476 800
noncomputable def o300 := XO XT3 X6 (XF (fnB 29 0) n137 n140 3 (X1 475) X7 X7 (XS n117 775) X6 (X1 479) X7)
noncomputable def o301 := Y7 n56 806 n119
noncomputable def o302 := Y2 29 1 n138 n141
noncomputable def o303 := Y0 n138 803 n141 258 2 481 808 809
noncomputable def o304 := Y1 29 1 n138 n141 n117 775 486
noncomputable def o305 := XO XT0 X6 (.seq (X8 [X7]) 0)
noncomputable def o306 := Y2 29 2 n139 n142
noncomputable def o307 := Y10 n139 811 n142 262 2 489 814
noncomputable def o308 := XO XT3 X6 (XF (fnB 29 2) n139 n142 3 (X1 488) X7 X7 (XS n117 775) X6 (X1 492) X7)
noncomputable def o309 := Y15 n143 817 n144 n145 n146
noncomputable def q30 : List (Params -> DictEntry) := [(X2 n29 792 (XS n117 775)),(X2 n32 796 (X9 239 795)),(X2 n137 802 (X1 480)),(X2 n138 810 (X1 487)),(X2 n139 816 (X1 493)),(X2 n33 821 (X1 494)),(X2 n69 823 (X1 497)),(X2 n34 825 (X1 498)),(X2 n5 826 X7)]
noncomputable def o310 := XD XT2 X6 q30 4
noncomputable def o311 := Y3 n127 496 495 785
noncomputable def o312 := Y11 822 496
noncomputable def o313 := Y12 824 496
noncomputable def o314 := Y14 496
noncomputable def o315 := Y13 496
noncomputable def o316 := Y7 n37 832 n147
noncomputable def o317 := Y8 30 n128
noncomputable def o318 := Y0 n128 829 n128 272 2 501 834 835
noncomputable def o319 := Y6 30 n128 n117 775 506
noncomputable def o320 := Y8 31 n129
noncomputable def o321 := Y10 n129 837 n129 278 1 508 840
noncomputable def o322 := Y6 31 n129 n117 775 511
noncomputable def o323 := Y15 n39 846 n148 n28 n149
noncomputable def o324 := Y8 32 n130
noncomputable def o325 := Y0 n130 843 n130 280 1 513 850 851
noncomputable def o326 := Y6 32 n130 n117 775 518
noncomputable def o327 := XO XT0 X6 (.seq (X8 [(XS n39 856),(XS n119 857),(XS n143 858),(XS n36 859),(XS n150 860),(XS n151 861),(XS n104 862),(XS n152 863),(XS n146 864),(XS n153 865),(XS n154 866),(XS n155 867),(XS n144 868),(XS n145 869),(XS n156 870)]) 0)
noncomputable def o328 := Y8 33 n131
noncomputable def o329 := Y0 n131 853 n131 294 2 521 871 872
noncomputable def o330 := XO XT3 X6 (XF (fnA 33) n131 n131 3 (X1 520) X7 X7 (XS n117 775) X6 (X1 526) X7)
noncomputable def o331 := Y15 n157 877 n158 n159 n28
noncomputable def o332 := Y8 34 n132
noncomputable def o333 := Y0 n132 874 n132 318 2 528 881 882
noncomputable def o334 := Y6 34 n132 n117 775 533
noncomputable def o335 := Y9 n157 887 n160 n28
noncomputable def o336 := Y8 35 n133
noncomputable def o337 := Y0 n133 884 n133 330 2 535 890 891
noncomputable def o338 := Y6 35 n133 n117 775 540
noncomputable def o339 := Y16 n36 896
noncomputable def o340 := Y8 36 n134
noncomputable def o341 := Y0 n134 893 n134 338 1 542 897 898
noncomputable def o342 := Y6 36 n134 n117 775 547
noncomputable def o343 := Y15 n157 903 n36 n119 n148
noncomputable def o344 := Y8 37 n135
noncomputable def o345 := Y0 n135 900 n135 342 3 549 907 908
noncomputable def o346 := Y6 37 n135 n117 775 554
noncomputable def o347 := XO XT0 X6 (.seq (X8 [(XS n157 913),(XS n160 914),(XS n119 915),(XS n158 916),(XS n161 917),(XS n148 918),(XS n144 919),(XS n162 920),(XS n153 921),(XS n155 922),(XS n38 923)]) 0)
noncomputable def o348 := Y8 38 n136
noncomputable def o349 := Y0 n136 910 n136 348 7 556 924 925
noncomputable def o350 := Y6 38 n136 n117 775 561
noncomputable def q31 : List (Params -> DictEntry) := q28 ++ [(X2 n163 936 (X1 569)),(X2 n164 951 (X1 576)),(X2 n165 957 (X1 581)),(X2 n166 974 (X1 588))]
noncomputable def o351 := XD XT2 X6 q31 49
noncomputable def q32 : List Value := q29 ++ [(X0 371),(X0 0),(X1 568),(X0 375),(X0 0),(X1 575),(X0 384),(X0 0),(X1 580),(X0 386),(X0 0),(X1 587)]
noncomputable def o352 := XO X7 X6 (.fields (X8 q32))
noncomputable def o353 := Y7 n167 932 n28
noncomputable def o354 := Y8 40 n163
noncomputable def o355 := Y0 n163 929 n163 371 2 563 934 935
noncomputable def o356 := Y6 40 n163 n126 927 568
noncomputable def o357 := XO XT0 X6 (.seq (X8 [(XS n167 940),(XS n168 941),(XS n143 942),(XS n169 943),(XS n170 944),(XS n171 945),(XS n172 946),(XS n146 947),(XS n28 948)]) 0)
noncomputable def o358 := Y8 41 n164
noncomputable def o359 := Y0 n164 937 n164 375 3 570 949 950
noncomputable def o360 := Y6 41 n164 n126 927 575
noncomputable def o361 := Y8 42 n165
noncomputable def o362 := Y10 n165 952 n165 384 2 577 955
noncomputable def o363 := Y6 42 n165 n126 927 580
noncomputable def o364 := XO XT0 X6 (.seq (X8 [(XS n167 961),(XS n46 962),(XS n157 963),(XS n36 964),(XS n139 965),(XS n173 966),(XS n174 967),(XS n28 968),(XS n39 969),(XS n162 970),(XS n175 971)]) 0)
noncomputable def o365 := Y8 43 n166
noncomputable def o366 := Y0 n166 958 n166 386 1 582 972 973
noncomputable def o367 := Y6 43 n166 n126 927 587
noncomputable def q33 : List (Params -> DictEntry) := [(X2 n3 1 (XS n176 160)),(X2 n5 2 (Value.builtin "builtins.__doc__:str#opaque")),(X2 n6 3 (Value.builtin "builtins.__package__:str#opaque")),(X2 n7 4 (Value.builtin "builtins.__loader__:shared#opaque")),(X2 n8 5 (Value.builtin PySem.W.SL.s11665532747177232413x24)),(X2 n177 6 (Value.builtin PySem.W.SL.s15183661809925369436x15)),(X2 n178 7 (Value.builtin PySem.W.SL.s13915890719876406383x10)),(X2 n179 8 (Value.builtin PySem.W.SL.s13459172003223722735x3)),(X2 n180 9 (Value.builtin PySem.W.SL.s10557405761357834076x3)),(X2 n181 10 (Value.builtin PySem.W.SL.s4233737765568776869x3)),(X2 n182 11 (Value.builtin PySem.W.SL.s2508922471967985374x5)),(X2 n183 12 (Value.builtin PySem.W.SL.s15574269061696679450x3)),(X2 n184 13 (Value.builtin PySem.W.SL.s6016482663378992977x10)),(X2 n185 14 (Value.builtin PySem.W.SL.s5596568736180474577x8)),(X2 n186 15 (Value.builtin PySem.W.SL.s2839554839881490554x3)),(X2 n187 16 (Value.builtin PySem.W.SL.s725004073602090463x7)),(X2 n188 17 (Value.builtin PySem.W.SL.s9436932552931045734x7)),(X2 n189 18 (Value.builtin PySem.W.SL.s2754603736356183583x3)),(X2 n190 19 (Value.builtin PySem.W.SL.s15185746759980889043x6)),(X2 n191 20 (Value.builtin PySem.W.SL.s8192189862530294059x4)),(X2 n192 21 (Value.builtin PySem.W.SL.s7038307821325472102x4)),(X2 n193 22 (Value.builtin PySem.W.SL.s5662562618415449548x6)),(X2 n194 23 (Value.builtin PySem.W.SL.s15281542589158584767x7)),(X2 n195 24 (Value.builtin PySem.W.SL.s17651547275483570877x7)),(X2 n196 25 (Value.builtin PySem.W.SL.s4036449017235975746x7)),(X2 n197 26 (Value.builtin PySem.W.SL.s8879979712987360175x4)),(X2 n198 27 (Value.builtin PySem.W.SL.s1801250619170735830x3)),(X2 n199 28 (Value.builtin PySem.W.SL.s17659931425627118568x2)),(X2 n200 29 (Value.builtin PySem.W.SL.s6063217899685152688x5)),(X2 n201 30 (Value.builtin PySem.W.SL.s8008927332132565319x10)),(X2 n202 31 (Value.builtin PySem.W.SL.s3544116645089599534x10)),(X2 n203 32 (Value.builtin PySem.W.SL.s13761710972054866084x4)),(X2 n204 33 (Value.builtin PySem.W.SL.s12896375587409280029x5)),(X2 n205 34 (Value.builtin PySem.W.SL.s13014049009108672802x3)),(X2 n206 35 (Value.builtin PySem.W.SL.s13935586738268321596x6)),(X2 n207 36 (Value.builtin PySem.W.SL.s8200498257699607233x3)),(X2 n208 37 (Value.builtin PySem.W.SL.s14114244577727609259x3)),(X2 n209 38 (Value.builtin PySem.W.SL.s1499430450269397089x4)),(X2 n210 39 (Value.builtin PySem.W.SL.s8755793994789770505x5)),(X2 n211 40 (Value.builtin PySem.W.SL.s15725212667919936108x3)),(X2 n212 41 (Value.builtin PySem.W.SL.s15791221867095933363x3)),(X2 n213 42 (Value.builtin PySem.W.SL.s81309575031448614x3)),(X2 n214 43 (Value.builtin PySem.W.SL.s8069831620301644142x5)),(X2 n215 44 (Value.builtin PySem.W.SL.s10061844253413749634x4)),(X2 n216 45 (Value.builtin PySem.W.SL.s9496514870978017513x5)),(X2 n217 46 (Value.builtin PySem.W.SL.s8899691144933366716x7)),(X2 n218 47 (Value.builtin PySem.W.SL.s15201008993051130160x6)),(X2 n219 48 (Value.builtin PySem.W.SL.s741896355592496720x3)),(X2 n220 49 (Value.builtin PySem.W.SL.s17925004256654032244x4)),(X2 n221 50 X7),(X2 n222 51 Value.ellipsis),(X2 n223 52 Value.notImplemented),(X2 n224 53 (XB false)),(X2 n225 54 (XB true)),(X2 n226 55 XT10),(X2 n227 56 XT11),(X2 n228 57 XT12),(X2 n229 58 XT13),(X2 n230 59 XT14),(X2 n231 60 XT15),(X2 n232 61 XT2),(X2 n233 62 XT16),(X2 n234 63 XT17),(X2 n235 64 XT18),(X2 n236 65 XT19),(X2 n237 66 XT20),(X2 n238 67 XT21),(X2 n239 68 XT9),(X2 n240 69 XT22),(X2 n241 70 XT23),(X2 n242 71 XT24),(X2 n243 72 XT25),(X2 n244 73 XT26),(X2 n245 74 XT27),(X2 n246 75 XT28),(X2 n247 76 XT29),(X2 n248 77 XT8),(X2 n249 78 XT0),(X2 n250 79 XT6),(X2 n251 80 XT30),(X2 n252 81 (XB true)),(X2 n253 82 XT31),(X2 n254 83 XT32),(X2 n255 84 XT33),(X2 n256 85 XT34),(X2 n257 86 XT35),(X2 n258 87 XT36),(X2 n259 88 XT37),(X2 n260 89 XT38),(X2 n261 90 XT39),(X2 n262 91 XT40),(X2 n263 92 XT41),(X2 n264 93 XT42),(X2 n265 94 XT43),(X2 n266 95 XT44),(X2 n267 96 XT45),(X2 n268 97 XT46),(X2 n269 98 XT47),(X2 n270 99 XT48),(X2 n271 100 XT49),(X2 n272 101 XT50),(X2 n273 102 XT51),(X2 n274 103 XT52),(X2 n275 104 XT53),(X2 n276 105 XT4),(X2 n277 106 XT54),(X2 n278 107 XT55),(X2 n279 108 XT56),(X2 n280 109 XT57),(X2 n281 110 XT58),(X2 n282 111 XT59),(X2 n283 112 XT60),(X2 n284 113 XT61),(X2 n285 114 XT62),(X2 n286 115 XT63),(X2 n287 116 XT64),(X2 n288 117 XT65),(X2 n289 118 XT66),(X2 n290 119 XT67),(X2 n291 120 XT68),(X2 n292 121 XT69),(X2 n293 122 XT70),(X2 n294 123 XT71),(X2 n295 124 XT72),(X2 n296 125 XT73),(X2 n297 126 XT74),(X2 n298 127 XT75),(X2 n299 128 XT76),(X2 n300 129 XT77),(X2 n301 130 XT78),(X2 n302 131 XT79),(X2 n303 132 XT80),(X2 n304 133 XT81),(X2 n305 134 XT82),(X2 n306 135 XT83),(X2 n307 136 XT84),(X2 n308 137 XT85),(X2 n309 138 XT86),(X2 n310 139 XT87),(X2 n311 140 XT88),(X2 n312 141 XT89),(X2 n313 142 XT90),(X2 n314 143 XT91),(X2 n315 144 XT92),(X2 n316 145 XT93),(X2 n317 146 XT94),(X2 n318 147 XT95),(X2 n319 148 XT96),(X2 n320 149 XT97),(X2 n321 150 XT98),(X2 n322 151 XT46),(X2 n323 152 XT46),(X2 n324 153 (Value.builtin PySem.W.SL.s16789243406116112673x4)),(X2 n325 154 (Value.builtin PySem.W.SL.s14400166428656793546x20)),(X2 n326 155 (Value.builtin PySem.W.SL.s5857708277339239366x20)),(X2 n327 156 (Value.builtin PySem.W.SL.s11855354603118919900x25)),(X2 n328 157 (Value.builtin PySem.W.SL.s9233592162442887856x23)),(X2 n329 158 (Value.builtin PySem.W.SL.s5312253846380744199x23)),(X2 n330 159 (Value.builtin PySem.W.SL.s7804999707787243718x20))]
noncomputable def o368 := XD XT2 X6 q33 159
noncomputable def o369 := XD XT2 X6 [(X2 n176 162 (X1 4)),(X2 n2 163 (X1 5))] 2
noncomputable def o370 := XO X7 X6 (.dict (X8 []) 0)
noncomputable def o371 := XO XT99 (some 0) .plain
noncomputable def o372 := XO XT99 (some 3) .plain
noncomputable def o373 := Y5 n0 176 1 7 175 179
noncomputable def o374 := Y4 9 3 n2 164
noncomputable def heapA (P : Params) : Heap := ⟨⟨[boot_o_0 P,boot_o_1 P,boot_o_2 P,boot_o_3 P,boot_o_4 P,boot_o_5 P,boot_o_6 P,boot_o_7 P,boot_o_8 P,boot_o_9 P,boot_o_10 P,o0 P,o1 P,o2 P,o3 P]⟩,{}⟩
noncomputable def tr0 := X3 boot_o_0 (X3 boot_o_1 (X3 boot_o_3 (X4 boot_o_7) (X4 o0)) (X3 boot_o_5 (X4 boot_o_9) (X4 o2))) (X3 boot_o_2 (X3 boot_o_4 (X4 boot_o_8) (X4 o1)) (X3 boot_o_6 (X4 boot_o_10) (X4 o3)))
noncomputable def tr1 := X3 boot_o_0 (X3 boot_o_1 (X3 o4 (X3 boot_o_7 (X3 o0 (X3 o16 (X4 o0) X5) (X3 o26 (X4 o44) X5)) (X3 o11 (X3 o21 (X4 o1) X5) (X4 o31))) (X3 o0 (X3 o7 (X3 o0 (X4 o37) X5) (X3 o28 (X4 o47) X5)) (X3 o13 (X3 o1 (X4 o42) X5) (X4 o0)))) (X3 boot_o_5 (X3 boot_o_9 (X3 o6 (X3 o18 (X4 o36) X5) (X3 o0 (X4 o45) X5)) (X3 o0 (X3 o23 (X4 o0) X5) (X4 o1))) (X3 o2 (X3 o9 (X3 o20 (X4 o39) X5) (X4 o29)) (X3 o0 (X3 o0 (X4 o0) X5) (X4 o34))))) (X3 boot_o_2 (X3 boot_o_4 (X3 boot_o_8 (X3 o1 (X3 o17 (X4 o1) X5) (X3 o27 (X4 o0) X5)) (X3 o12 (X3 o22 (X4 o40) X5) (X4 o0))) (X3 o5 (X3 o8 (X3 o1 (X4 o38) X5) (X4 o0)) (X3 o14 (X3 o24 (X4 o43) X5) (X4 o33)))) (X3 boot_o_6 (X3 boot_o_10 (X3 o0 (X3 o19 (X4 o0) X5) (X3 o1 (X4 o46) X5)) (X3 o1 (X3 o0 (X4 o41) X5) (X4 o32))) (X3 o3 (X3 o10 (X3 o0 (X4 o0) X5) (X4 o30)) (X3 o15 (X3 o25 (X4 o1) X5) (X4 o35)))))
noncomputable def tr2 := X3 boot_o_0 (X3 boot_o_1 (X3 o48 (X3 boot_o_7 (X3 o0 (X3 o16 (X3 o0 (X4 o1) X5) (X3 o55 (X4 o94) X5)) (X3 o26 (X3 o44 (X4 o0) X5) (X4 o65))) (X3 o11 (X3 o21 (X3 o1 (X4 o78) X5) (X4 o60)) (X3 o31 (X3 o0 (X4 o87) X5) (X4 o0)))) (X3 o0 (X3 o7 (X3 o0 (X3 o37 (X4 o76) X5) (X4 o1)) (X3 o28 (X3 o47 (X4 o0) X5) (X4 o0))) (X3 o13 (X3 o1 (X3 o42 (X4 o81) X5) (X4 o62)) (X3 o0 (X3 o0 (X4 o90) X5) (X4 o71))))) (X3 boot_o_5 (X3 boot_o_9 (X3 o6 (X3 o18 (X3 o36 (X4 o0) X5) (X4 o57)) (X3 o0 (X3 o45 (X4 o84) X5) (X4 o1))) (X3 o0 (X3 o23 (X3 o0 (X4 o79) X5) (X4 o0)) (X3 o1 (X3 o52 (X4 o89) X5) (X4 o70)))) (X3 o2 (X3 o9 (X3 o20 (X3 o39 (X4 o0) X5) (X4 o0)) (X3 o29 (X3 o11 (X4 o86) X5) (X4 o68))) (X3 o0 (X3 o0 (X3 o0 (X4 o1) X5) (X4 o63)) (X3 o34 (X3 o54 (X4 o92) X5) (X4 o73)))))) (X3 boot_o_2 (X3 boot_o_4 (X3 boot_o_8 (X3 o1 (X3 o17 (X3 o1 (X4 o74) X5) (X3 o56 (X4 o95) X5)) (X3 o27 (X3 o0 (X4 o83) X5) (X4 o0))) (X3 o12 (X3 o22 (X3 o40 (X4 o0) X5) (X4 o61)) (X3 o0 (X3 o51 (X4 o88) X5) (X4 o1)))) (X3 o49 (X3 o8 (X3 o1 (X3 o38 (X4 o77) X5) (X4 o58)) (X3 o0 (X3 o0 (X4 o1) X5) (X4 o67))) (X3 o14 (X3 o24 (X3 o43 (X4 o0) X5) (X4 o0)) (X3 o33 (X3 o1 (X4 o91) X5) (X4 o72))))) (X3 boot_o_6 (X3 boot_o_10 (X3 o0 (X3 o19 (X3 o0 (X4 o75) X5) (X4 o0)) (X3 o1 (X3 o46 (X4 o85) X5) (X4 o66))) (X3 o1 (X3 o0 (X3 o41 (X4 o80) X5) (X4 o1)) (X3 o32 (X3 o53 (X4 o0) X5) (X4 o0)))) (X3 o3 (X3 o10 (X3 o0 (X3 o0 (X4 o1) X5) (X4 o59)) (X3 o30 (X3 o50 (X4 o0) X5) (X4 o69))) (X3 o15 (X3 o25 (X3 o1 (X4 o82) X5) (X4 o64)) (X3 o35 (X3 o0 (X4 o93) X5) (X4 o0))))))
noncomputable def tr3 := X3 boot_o_0 (X3 boot_o_1 (X3 o96 (X3 boot_o_7 (X3 o0 (X3 o16 (X3 o0 (X4 o1) (X4 o114)) (X3 o55 (X4 o94) (X4 o133))) (X3 o26 (X3 o44 (X4 o0) (X4 o123)) (X3 o65 (X4 o0) X5))) (X3 o11 (X3 o21 (X3 o1 (X4 o78) (X4 o0)) (X3 o60 (X4 o101) (X4 o0))) (X3 o31 (X3 o0 (X4 o87) (X4 o128)) (X3 o0 (X4 o1) X5)))) (X3 o0 (X3 o7 (X3 o0 (X3 o37 (X4 o76) (X4 o117)) (X3 o1 (X4 o98) (X4 o0))) (X3 o28 (X3 o47 (X4 o0) (X4 o1)) (X3 o0 (X4 o107) X5))) (X3 o13 (X3 o1 (X3 o42 (X4 o81) (X4 o0)) (X3 o62 (X4 o0) (X4 o141))) (X3 o0 (X3 o0 (X4 o90) (X4 o130)) (X3 o71 (X4 o112) X5))))) (X3 boot_o_5 (X3 boot_o_9 (X3 o6 (X3 o18 (X3 o36 (X4 o0) (X4 o115)) (X3 o57 (X4 o0) (X4 o1))) (X3 o0 (X3 o45 (X4 o84) (X4 o125)) (X3 o1 (X4 o106) X5))) (X3 o0 (X3 o23 (X3 o0 (X4 o79) (X4 o120)) (X3 o0 (X4 o1) (X4 o139))) (X3 o1 (X3 o52 (X4 o89) (X4 o0)) (X3 o70 (X4 o0) X5)))) (X3 o2 (X3 o9 (X3 o20 (X3 o39 (X4 o0) (X4 o1)) (X3 o0 (X4 o99) (X4 o136))) (X3 o29 (X3 o11 (X4 o86) (X4 o0)) (X3 o68 (X4 o109) X5))) (X3 o0 (X3 o0 (X3 o0 (X4 o1) (X4 o122)) (X3 o63 (X4 o104) (X4 o143))) (X3 o34 (X3 o54 (X4 o92) (X4 o131)) (X3 o73 (X4 o0) X5)))))) (X3 boot_o_2 (X3 boot_o_4 (X3 boot_o_8 (X3 o1 (X3 o17 (X3 o1 (X4 o74) (X4 o0)) (X3 o56 (X4 o95) (X4 o0))) (X3 o27 (X3 o0 (X4 o83) (X4 o124)) (X3 o0 (X4 o1) X5))) (X3 o12 (X3 o22 (X3 o40 (X4 o0) (X4 o119)) (X3 o61 (X4 o0) (X4 o138))) (X3 o0 (X3 o51 (X4 o88) (X4 o129)) (X3 o1 (X4 o110) X5)))) (X3 o97 (X3 o8 (X3 o1 (X3 o38 (X4 o77) (X4 o0)) (X3 o58 (X4 o0) (X4 o135))) (X3 o0 (X3 o0 (X4 o1) (X4 o126)) (X3 o67 (X4 o108) X5))) (X3 o14 (X3 o24 (X3 o43 (X4 o0) (X4 o1)) (X3 o0 (X4 o103) (X4 o142))) (X3 o33 (X3 o1 (X4 o91) (X4 o0)) (X3 o72 (X4 o113) X5))))) (X3 boot_o_6 (X3 boot_o_10 (X3 o0 (X3 o19 (X3 o0 (X4 o75) (X4 o116)) (X3 o0 (X4 o11) (X4 o134))) (X3 o1 (X3 o46 (X4 o85) (X4 o0)) (X3 o66 (X4 o0) X5))) (X3 o1 (X3 o0 (X3 o41 (X4 o80) (X4 o121)) (X3 o1 (X4 o102) (X4 o140))) (X3 o32 (X3 o53 (X4 o0) (X4 o1)) (X3 o0 (X4 o111) X5)))) (X3 o3 (X3 o10 (X3 o0 (X3 o0 (X4 o1) (X4 o118)) (X3 o59 (X4 o100) (X4 o137))) (X3 o30 (X3 o50 (X4 o0) (X4 o127)) (X3 o69 (X4 o0) X5))) (X3 o15 (X3 o25 (X3 o1 (X4 o82) (X4 o0)) (X3 o64 (X4 o105) X5)) (X3 o35 (X3 o0 (X4 o93) (X4 o132)) (X3 o0 (X4 o1) X5))))))
noncomputable def tr4 := X3 boot_o_0 (X3 boot_o_1 (X3 o144 (X3 boot_o_7 (X3 o0 (X3 o16 (X3 o0 (X3 o1 (X4 o0) X5) (X3 o114 (X4 o193) X5)) (X3 o55 (X3 o94 (X4 o0) X5) (X4 o133))) (X3 o26 (X3 o44 (X3 o0 (X4 o164) X5) (X4 o123)) (X3 o65 (X3 o0 (X4 o182) X5) (X4 o11)))) (X3 o11 (X3 o21 (X3 o1 (X3 o78 (X4 o159) X5) (X4 o0)) (X3 o60 (X3 o101 (X4 o1) X5) (X4 o0))) (X3 o31 (X3 o0 (X3 o87 (X4 o169) X5) (X4 o128)) (X3 o0 (X3 o1 (X4 o188) X5) (X4 o150))))) (X3 o0 (X3 o7 (X3 o0 (X3 o37 (X3 o76 (X4 o0) X5) (X4 o117)) (X3 o1 (X3 o98 (X4 o175) X5) (X4 o0))) (X3 o28 (X3 o47 (X3 o0 (X4 o166) X5) (X4 o1)) (X3 o0 (X3 o107 (X4 o185) X5) (X4 o148)))) (X3 o13 (X3 o1 (X3 o42 (X3 o81 (X4 o1) X5) (X4 o0)) (X3 o62 (X3 o0 (X4 o180) X5) (X4 o141))) (X3 o0 (X3 o0 (X3 o90 (X4 o0) X5) (X4 o130)) (X3 o71 (X3 o112 (X4 o0) X5) (X4 o153)))))) (X3 boot_o_5 (X3 boot_o_9 (X3 o6 (X3 o18 (X3 o36 (X3 o0 (X4 o156) X5) (X3 o115 (X4 o195) X5)) (X3 o57 (X3 o0 (X4 o174) X5) (X4 o1))) (X3 o0 (X3 o45 (X3 o84 (X4 o0) X5) (X4 o125)) (X3 o1 (X3 o106 (X4 o183) X5) (X4 o0)))) (X3 o0 (X3 o23 (X3 o0 (X3 o79 (X4 o161) X5) (X4 o120)) (X3 o0 (X3 o1 (X4 o0) X5) (X4 o139))) (X3 o1 (X3 o52 (X3 o89 (X4 o1) X5) (X4 o0)) (X3 o70 (X3 o0 (X4 o190) X5) (X4 o151))))) (X3 o2 (X3 o9 (X3 o20 (X3 o39 (X3 o0 (X4 o158) X5) (X4 o1)) (X3 o0 (X3 o99 (X4 o177) X5) (X4 o136))) (X3 o29 (X3 o11 (X3 o86 (X4 o167) X5) (X4 o0)) (X3 o68 (X3 o109 (X4 o186) X5) (X4 o0)))) (X3 o0 (X3 o0 (X3 o0 (X3 o1 (X4 o0) X5) (X4 o122)) (X3 o63 (X3 o104 (X4 o0) X5) (X4 o143))) (X3 o34 (X3 o54 (X3 o92 (X4 o172) X5) (X4 o131)) (X3 o73 (X3 o0 (X4 o192) X5) (X4 o1))))))) (X3 boot_o_2 (X3 boot_o_4 (X3 boot_o_8 (X3 o1 (X3 o17 (X3 o1 (X3 o74 (X4 o155) X5) (X3 o0 (X4 o194) X5)) (X3 o56 (X3 o95 (X4 o1) X5) (X4 o0))) (X3 o27 (X3 o0 (X3 o83 (X4 o165) X5) (X4 o124)) (X3 o0 (X3 o1 (X4 o0) X5) (X4 o146)))) (X3 o12 (X3 o22 (X3 o40 (X3 o0 (X4 o160) X5) (X4 o119)) (X3 o61 (X3 o0 (X4 o178) X5) (X4 o138))) (X3 o0 (X3 o51 (X3 o88 (X4 o0) X5) (X4 o129)) (X3 o1 (X3 o110 (X4 o189) X5) (X4 o0))))) (X3 o145 (X3 o8 (X3 o1 (X3 o38 (X3 o77 (X4 o1) X5) (X4 o0)) (X3 o58 (X3 o0 (X4 o176) X5) (X4 o135))) (X3 o0 (X3 o0 (X3 o1 (X4 o0) X5) (X4 o126)) (X3 o67 (X3 o108 (X4 o0) X5) (X4 o149)))) (X3 o14 (X3 o24 (X3 o43 (X3 o0 (X4 o162) X5) (X4 o1)) (X3 o0 (X3 o103 (X4 o181) X5) (X4 o142))) (X3 o33 (X3 o1 (X3 o91 (X4 o171) X5) (X4 o0)) (X3 o72 (X3 o113 (X4 o1) X5) (X4 o0)))))) (X3 boot_o_6 (X3 boot_o_10 (X3 o0 (X3 o19 (X3 o0 (X3 o75 (X4 o157) X5) (X4 o116)) (X3 o0 (X3 o11 (X4 o0) X5) (X4 o134))) (X3 o1 (X3 o46 (X3 o85 (X4 o1) X5) (X4 o0)) (X3 o66 (X3 o0 (X4 o184) X5) (X4 o147)))) (X3 o1 (X3 o0 (X3 o41 (X3 o80 (X4 o0) X5) (X4 o121)) (X3 o1 (X3 o102 (X4 o179) X5) (X4 o140))) (X3 o32 (X3 o53 (X3 o0 (X4 o170) X5) (X4 o1)) (X3 o0 (X3 o111 (X4 o191) X5) (X4 o152))))) (X3 o3 (X3 o10 (X3 o0 (X3 o0 (X3 o1 (X4 o0) X5) (X4 o118)) (X3 o59 (X3 o100 (X4 o0) X5) (X4 o137))) (X3 o30 (X3 o50 (X3 o0 (X4 o168) X5) (X4 o127)) (X3 o69 (X3 o0 (X4 o187) X5) (X4 o1)))) (X3 o15 (X3 o25 (X3 o1 (X3 o82 (X4 o163) X5) (X4 o0)) (X3 o64 (X3 o105 (X4 o1) X5) (X4 o0))) (X3 o35 (X3 o0 (X3 o93 (X4 o173) X5) (X4 o132)) (X3 o0 (X3 o1 (X4 o0) X5) (X4 o154)))))))
noncomputable def u638 := X3 o44 (X3 o0 (X4 o164) (X4 o244)) (X3 o123 (X4 o205) X5)
noncomputable def u647 := X3 o1 (X3 o78 (X4 o159) (X4 o237)) (X3 o0 (X4 o200) X5)
noncomputable def u661 := X3 o37 (X3 o76 (X4 o0) (X4 o0)) (X3 o117 (X4 o11) X5)
noncomputable def u673 := X3 o42 (X3 o81 (X4 o1) (X4 o240)) (X3 o0 (X4 o0) X5)
noncomputable def u690 := X3 o36 (X3 o0 (X4 o156) (X4 o234)) (X3 o115 (X4 o195) X5)
noncomputable def u703 := X3 o0 (X3 o79 (X4 o161) (X4 o239)) (X3 o120 (X4 o202) X5)
noncomputable def u717 := X3 o39 (X3 o0 (X4 o158) (X4 o236)) (X3 o1 (X4 o0) X5)
noncomputable def u730 := X3 o0 (X3 o1 (X4 o0) (X4 o242)) (X3 o122 (X4 o204) X5)
noncomputable def u746 := X3 o1 (X3 o74 (X4 o155) (X4 o233)) (X3 o0 (X4 o194) X5)
noncomputable def u753 := X3 o0 (X3 o83 (X4 o165) (X4 o245)) (X3 o124 (X4 o206) X5)
noncomputable def u763 := X3 o40 (X3 o0 (X4 o160) (X4 o238)) (X3 o119 (X4 o201) X5)
noncomputable def u777 := X3 o38 (X3 o77 (X4 o1) (X4 o1)) (X3 o0 (X4 o198) X5)
noncomputable def u806 := X3 o0 (X3 o75 (X4 o157) (X4 o235)) (X3 o116 (X4 o0) X5)
noncomputable def u820 := X3 o41 (X3 o80 (X4 o0) (X4 o0)) (X3 o121 (X4 o203) X5)
noncomputable def u833 := X3 o0 (X3 o1 (X4 o0) (X4 o0)) (X3 o118 (X4 o199) X5)
noncomputable def u846 := X3 o1 (X3 o82 (X4 o163) (X4 o243)) (X3 o0 (X4 o0) X5)
noncomputable def tr5 := X3 boot_o_0 (X3 boot_o_1 (X3 o196 (X3 boot_o_7 (X3 o0 (X3 o16 (X3 o0 (X3 o1 (X4 o0) (X4 o0)) (X3 o114 (X4 o193) X5)) (X3 o55 (X3 o94 (X4 o0) X5) (X3 o133 (X4 o215) X5))) (X3 o26 u638 (X3 o65 (X3 o0 (X4 o182) X5) (X3 o11 (X4 o1) X5)))) (X3 o11 (X3 o21 u647 (X3 o60 (X3 o101 (X4 o1) X5) (X3 o0 (X4 o0) X5))) (X3 o31 (X3 o0 (X3 o87 (X4 o169) X5) (X3 o128 (X4 o210) X5)) (X3 o0 (X3 o1 (X4 o188) X5) (X3 o150 (X4 o228) X5))))) (X3 o0 (X3 o7 (X3 o0 u661 (X3 o1 (X3 o98 (X4 o175) X5) (X3 o0 (X4 o0) X5))) (X3 o28 (X3 o47 (X3 o0 (X4 o166) X5) (X3 o1 (X4 o1) X5)) (X3 o0 (X3 o107 (X4 o185) X5) (X3 o148 (X4 o226) X5)))) (X3 o13 (X3 o1 u673 (X3 o62 (X3 o0 (X4 o180) X5) (X3 o141 (X4 o221) X5))) (X3 o0 (X3 o0 (X3 o90 (X4 o0) X5) (X3 o130 (X4 o212) X5)) (X3 o71 (X3 o112 (X4 o0) X5) (X3 o153 (X4 o231) X5)))))) (X3 boot_o_5 (X3 boot_o_9 (X3 o6 (X3 o18 u690 (X3 o57 (X3 o0 (X4 o174) X5) (X3 o1 (X4 o1) X5))) (X3 o0 (X3 o45 (X3 o84 (X4 o0) X5) (X3 o125 (X4 o207) X5)) (X3 o1 (X3 o106 (X4 o183) X5) (X3 o0 (X4 o0) X5)))) (X3 o0 (X3 o23 u703 (X3 o0 (X3 o1 (X4 o0) X5) (X3 o139 (X4 o220) X5))) (X3 o1 (X3 o52 (X3 o89 (X4 o1) X5) (X3 o0 (X4 o0) X5)) (X3 o70 (X3 o0 (X4 o190) X5) (X3 o151 (X4 o229) X5))))) (X3 o2 (X3 o9 (X3 o20 u717 (X3 o0 (X3 o99 (X4 o177) X5) (X3 o136 (X4 o218) X5))) (X3 o29 (X3 o11 (X3 o86 (X4 o167) X5) (X3 o0 (X4 o0) X5)) (X3 o68 (X3 o109 (X4 o186) X5) (X3 o0 (X4 o0) X5)))) (X3 o0 (X3 o0 u730 (X3 o63 (X3 o104 (X4 o0) X5) (X3 o143 (X4 o223) X5))) (X3 o34 (X3 o54 (X3 o92 (X4 o172) X5) (X3 o131 (X4 o213) X5)) (X3 o73 (X3 o0 (X4 o192) X5) (X3 o1 (X4 o1) X5))))))) (X3 boot_o_2 (X3 boot_o_4 (X3 boot_o_8 (X3 o1 (X3 o17 u746 (X3 o56 (X3 o95 (X4 o1) X5) (X3 o0 (X4 o0) X5))) (X3 o27 u753 (X3 o0 (X3 o1 (X4 o0) X5) (X3 o146 (X4 o224) X5)))) (X3 o12 (X3 o22 u763 (X3 o61 (X3 o0 (X4 o178) X5) (X3 o138 (X4 o1) X5))) (X3 o0 (X3 o51 (X3 o88 (X4 o0) X5) (X3 o129 (X4 o211) X5)) (X3 o1 (X3 o110 (X4 o189) X5) (X3 o0 (X4 o0) X5))))) (X3 o197 (X3 o8 (X3 o1 u777 (X3 o58 (X3 o0 (X4 o176) X5) (X3 o135 (X4 o217) X5))) (X3 o0 (X3 o0 (X3 o1 (X4 o0) X5) (X3 o126 (X4 o208) X5)) (X3 o67 (X3 o108 (X4 o0) X5) (X3 o149 (X4 o227) X5)))) (X3 o14 (X3 o24 (X3 o43 (X3 o0 (X4 o162) (X4 o241)) (X3 o1 (X4 o1) X5)) (X3 o0 (X3 o103 (X4 o181) X5) (X3 o142 (X4 o222) X5))) (X3 o33 (X3 o1 (X3 o91 (X4 o171) X5) (X3 o0 (X4 o0) X5)) (X3 o72 (X3 o113 (X4 o1) X5) (X3 o0 (X4 o0) X5)))))) (X3 boot_o_6 (X3 boot_o_10 (X3 o0 (X3 o19 u806 (X3 o0 (X3 o11 (X4 o0) X5) (X3 o134 (X4 o216) X5))) (X3 o1 (X3 o46 (X3 o85 (X4 o1) X5) (X3 o0 (X4 o0) X5)) (X3 o66 (X3 o0 (X4 o184) X5) (X3 o147 (X4 o225) X5)))) (X3 o1 (X3 o0 u820 (X3 o1 (X3 o102 (X4 o179) X5) (X3 o140 (X4 o0) X5))) (X3 o32 (X3 o53 (X3 o0 (X4 o170) X5) (X3 o1 (X4 o1) X5)) (X3 o0 (X3 o111 (X4 o191) X5) (X3 o152 (X4 o230) X5))))) (X3 o3 (X3 o10 (X3 o0 u833 (X3 o59 (X3 o100 (X4 o0) X5) (X3 o137 (X4 o219) X5))) (X3 o30 (X3 o50 (X3 o0 (X4 o168) X5) (X3 o127 (X4 o209) X5)) (X3 o69 (X3 o0 (X4 o187) X5) (X3 o1 (X4 o1) X5)))) (X3 o15 (X3 o25 u846 (X3 o64 (X3 o105 (X4 o1) X5) (X3 o0 (X4 o0) X5))) (X3 o35 (X3 o0 (X3 o93 (X4 o173) X5) (X3 o132 (X4 o214) X5)) (X3 o0 (X3 o1 (X4 o0) X5) (X3 o154 (X4 o232) X5)))))))
noncomputable def u866 := X3 o16 (X3 o0 (X3 o1 (X4 o0) (X4 o0)) (X3 o114 (X4 o193) (X4 o277))) (X3 o55 (X3 o94 (X4 o0) (X4 o0)) (X3 o133 (X4 o215) X5))
noncomputable def u869 := X3 o65 (X3 o0 (X4 o182) (X4 o266)) (X3 o11 (X4 o1) X5)
noncomputable def u873 := X3 o60 (X3 o101 (X4 o1) (X4 o1)) (X3 o0 (X4 o0) X5)
noncomputable def u881 := X3 o31 (X3 o0 (X3 o87 (X4 o169) (X4 o253)) (X3 o128 (X4 o210) X5)) (X3 o0 (X3 o1 (X4 o188) (X4 o272)) (X3 o150 (X4 o228) X5))
noncomputable def u886 := X3 o1 (X3 o98 (X4 o175) (X4 o259)) (X3 o0 (X4 o0) X5)
noncomputable def u894 := X3 o28 (X3 o47 (X3 o0 (X4 o166) (X4 o250)) (X3 o1 (X4 o1) X5)) (X3 o0 (X3 o107 (X4 o185) (X4 o269)) (X3 o148 (X4 o226) X5))
noncomputable def u898 := X3 o62 (X3 o0 (X4 o180) (X4 o264)) (X3 o141 (X4 o221) X5)
noncomputable def u905 := X3 o0 (X3 o0 (X3 o90 (X4 o0) (X4 o0)) (X3 o130 (X4 o212) X5)) (X3 o71 (X3 o112 (X4 o0) (X4 o274)) (X3 o153 (X4 o231) X5))
noncomputable def u911 := X3 o57 (X3 o0 (X4 o174) (X4 o258)) (X3 o1 (X4 o1) X5)
noncomputable def u918 := X3 o1 (X3 o106 (X4 o183) (X4 o267)) (X3 o0 (X4 o0) X5)
noncomputable def u921 := X3 o0 (X3 o1 (X4 o0) (X4 o0)) (X3 o139 (X4 o220) X5)
noncomputable def u927 := X3 o1 (X3 o52 (X3 o89 (X4 o1) (X4 o1)) (X3 o0 (X4 o0) X5)) (X3 o70 (X3 o0 (X4 o190) (X4 o0)) (X3 o151 (X4 o229) X5))
noncomputable def u932 := X3 o0 (X3 o99 (X4 o177) (X4 o261)) (X3 o136 (X4 o218) X5)
noncomputable def u940 := X3 o29 (X3 o11 (X3 o86 (X4 o167) (X4 o251)) (X3 o0 (X4 o0) X5)) (X3 o68 (X3 o109 (X4 o186) (X4 o270)) (X3 o0 (X4 o0) X5))
noncomputable def u943 := X3 o63 (X3 o104 (X4 o0) (X4 o0)) (X3 o143 (X4 o223) X5)
noncomputable def u951 := X3 o34 (X3 o54 (X3 o92 (X4 o172) (X4 o256)) (X3 o131 (X4 o213) X5)) (X3 o73 (X3 o0 (X4 o192) (X4 o275)) (X3 o1 (X4 o1) X5))
noncomputable def u957 := X3 o56 (X3 o95 (X4 o1) (X4 o1)) (X3 o0 (X4 o0) X5)
noncomputable def u959 := X3 o0 (X3 o1 (X4 o0) (X4 o0)) (X3 o146 (X4 o224) X5)
noncomputable def u964 := X3 o61 (X3 o0 (X4 o178) (X4 o262)) (X3 o138 (X4 o1) X5)
noncomputable def u971 := X3 o0 (X3 o51 (X3 o88 (X4 o0) (X4 o0)) (X3 o129 (X4 o211) X5)) (X3 o1 (X3 o110 (X4 o189) (X4 o273)) (X3 o0 (X4 o0) X5))
noncomputable def u976 := X3 o58 (X3 o0 (X4 o176) (X4 o260)) (X3 o135 (X4 o217) X5)
noncomputable def u981 := X3 o0 (X3 o0 (X3 o1 (X4 o0) (X4 o0)) (X3 o126 (X4 o208) X5)) (X3 o67 (X3 o108 (X4 o0) (X4 o0)) (X3 o149 (X4 o227) X5))
noncomputable def u988 := X3 o0 (X3 o103 (X4 o181) (X4 o265)) (X3 o142 (X4 o222) X5)
noncomputable def u995 := X3 o33 (X3 o1 (X3 o91 (X4 o171) (X4 o255)) (X3 o0 (X4 o0) X5)) (X3 o72 (X3 o113 (X4 o1) (X4 o0)) (X3 o0 (X4 o0) X5))
noncomputable def u1000 := X3 o0 (X3 o11 (X4 o0) (X4 o0)) (X3 o134 (X4 o216) X5)
noncomputable def u1007 := X3 o1 (X3 o46 (X3 o85 (X4 o1) (X4 o11)) (X3 o0 (X4 o0) X5)) (X3 o66 (X3 o0 (X4 o184) (X4 o268)) (X3 o147 (X4 o225) X5))
noncomputable def u1011 := X3 o1 (X3 o102 (X4 o179) (X4 o263)) (X3 o140 (X4 o0) X5)
noncomputable def u1018 := X3 o32 (X3 o53 (X3 o0 (X4 o170) (X4 o254)) (X3 o1 (X4 o1) X5)) (X3 o0 (X3 o111 (X4 o191) (X4 o1)) (X3 o152 (X4 o230) X5))
noncomputable def u1022 := X3 o59 (X3 o100 (X4 o0) (X4 o0)) (X3 o137 (X4 o219) X5)
noncomputable def u1030 := X3 o30 (X3 o50 (X3 o0 (X4 o168) (X4 o252)) (X3 o127 (X4 o209) X5)) (X3 o69 (X3 o0 (X4 o187) (X4 o271)) (X3 o1 (X4 o1) X5))
noncomputable def u1033 := X3 o64 (X3 o105 (X4 o1) (X4 o1)) (X3 o0 (X4 o0) X5)
noncomputable def u1041 := X3 o35 (X3 o0 (X3 o93 (X4 o173) (X4 o257)) (X3 o132 (X4 o214) X5)) (X3 o0 (X3 o1 (X4 o0) (X4 o276)) (X3 o154 (X4 o232) X5))
noncomputable def tr6 := X3 boot_o_0 (X3 boot_o_1 (X3 o246 (X3 boot_o_7 (X3 o0 u866 (X3 o26 u638 u869)) (X3 o11 (X3 o21 u647 u873) u881)) (X3 o0 (X3 o7 (X3 o0 u661 u886) u894) (X3 o13 (X3 o1 u673 u898) u905))) (X3 boot_o_5 (X3 boot_o_9 (X3 o6 (X3 o18 u690 u911) (X3 o0 (X3 o45 (X3 o84 (X4 o0) (X4 o249)) (X3 o125 (X4 o207) X5)) u918)) (X3 o0 (X3 o23 u703 u921) u927)) (X3 o2 (X3 o9 (X3 o20 u717 u932) u940) (X3 o0 (X3 o0 u730 u943) u951)))) (X3 boot_o_2 (X3 boot_o_4 (X3 boot_o_8 (X3 o1 (X3 o17 u746 u957) (X3 o27 u753 u959)) (X3 o12 (X3 o22 u763 u964) u971)) (X3 o247 (X3 o8 (X3 o1 u777 u976) u981) (X3 o14 (X3 o24 (X3 o43 (X3 o0 (X4 o162) (X4 o248)) (X3 o1 (X4 o1) X5)) u988) u995))) (X3 boot_o_6 (X3 boot_o_10 (X3 o0 (X3 o19 u806 u1000) u1007) (X3 o1 (X3 o0 u820 u1011) u1018)) (X3 o3 (X3 o10 (X3 o0 u833 u1022) u1030) (X3 o15 (X3 o25 u846 u1033) u1041))))
noncomputable def tr7 := X3 boot_o_0 (X3 boot_o_1 (X3 o278 (X3 boot_o_7 (X3 o0 u866 (X3 o26 (X3 o44 (X3 o0 (X4 o164) (X4 o244)) (X3 o123 (X4 o205) (X4 o288))) u869)) (X3 o11 (X3 o21 (X3 o1 (X3 o78 (X4 o159) (X4 o237)) (X3 o0 (X4 o200) (X4 o284))) u873) u881)) (X3 o0 (X3 o7 (X3 o0 (X3 o37 (X3 o76 (X4 o0) (X4 o0)) (X3 o117 (X4 o11) (X4 o282))) u886) u894) (X3 o13 (X3 o1 (X3 o42 (X3 o81 (X4 o1) (X4 o240)) (X3 o0 (X4 o0) (X4 o0))) u898) u905))) (X3 boot_o_5 (X3 boot_o_9 (X3 o6 (X3 o18 (X3 o36 (X3 o0 (X4 o156) (X4 o234)) (X3 o115 (X4 o195) (X4 o281))) u911) (X3 o0 (X3 o45 (X3 o84 (X4 o0) (X4 o249)) (X3 o125 (X4 o207) (X4 o290))) u918)) (X3 o0 (X3 o23 (X3 o0 (X3 o79 (X4 o161) (X4 o239)) (X3 o120 (X4 o202) (X4 o285))) u921) u927)) (X3 o2 (X3 o9 (X3 o20 (X3 o39 (X3 o0 (X4 o158) (X4 o236)) (X3 o1 (X4 o0) (X4 o283))) u932) u940) (X3 o0 (X3 o0 (X3 o0 (X3 o1 (X4 o0) (X4 o242)) (X3 o122 (X4 o204) (X4 o287))) u943) u951)))) (X3 boot_o_2 (X3 boot_o_4 (X3 boot_o_8 (X3 o1 (X3 o17 (X3 o1 (X3 o74 (X4 o155) (X4 o233)) (X3 o0 (X4 o194) (X4 o280))) u957) (X3 o27 (X3 o0 (X3 o83 (X4 o165) (X4 o245)) (X3 o124 (X4 o206) (X4 o289))) u959)) (X3 o12 (X3 o22 (X3 o40 (X3 o0 (X4 o160) (X4 o238)) (X3 o119 (X4 o201) (X4 o280))) u964) u971)) (X3 o279 (X3 o8 (X3 o1 (X3 o38 (X3 o77 (X4 o1) (X4 o1)) (X3 o0 (X4 o198) (X4 o280))) u976) u981) (X3 o14 (X3 o24 (X3 o43 (X3 o0 (X4 o162) (X4 o248)) (X3 o1 (X4 o1) (X4 o1))) u988) u995))) (X3 boot_o_6 (X3 boot_o_10 (X3 o0 (X3 o19 (X3 o0 (X3 o75 (X4 o157) (X4 o235)) (X3 o116 (X4 o0) (X4 o280))) u1000) u1007) (X3 o1 (X3 o0 (X3 o41 (X3 o80 (X4 o0) (X4 o0)) (X3 o121 (X4 o203) (X4 o286))) u1011) u1018)) (X3 o3 (X3 o10 (X3 o0 (X3 o0 (X3 o1 (X4 o0) (X4 o0)) (X3 o118 (X4 o199) (X4 o280))) u1022) u1030) (X3 o15 (X3 o25 (X3 o1 (X3 o82 (X4 o163) (X4 o243)) (X3 o0 (X4 o0) (X4 o0))) u1033) u1041))))
noncomputable def u1144 := X3 o1 (X3 o0 (X4 o321) X5) (X4 o0)
noncomputable def u1149 := X3 o55 (X3 o94 (X3 o0 (X4 o1) X5) (X4 o0)) (X3 o133 (X4 o215) (X4 o299))
noncomputable def u1160 := X3 o26 (X3 o44 (X3 o0 (X3 o164 (X4 o330) X5) (X4 o244)) (X3 o123 (X4 o205) (X4 o288))) (X3 o65 (X3 o0 (X3 o182 (X4 o0) X5) (X4 o266)) (X3 o11 (X4 o1) (X4 o310)))
noncomputable def u1164 := X3 o78 (X3 o159 (X4 o326) X5) (X4 o237)
noncomputable def u1171 := X3 o60 (X3 o101 (X3 o1 (X4 o343) X5) (X4 o1)) (X3 o0 (X4 o0) (X4 o304))
noncomputable def u1177 := X3 o0 (X3 o87 (X3 o169 (X4 o0) X5) (X4 o253)) (X3 o128 (X4 o210) (X4 o295))
noncomputable def u1186 := X3 o76 (X3 o0 (X4 o323) X5) (X4 o0)
noncomputable def u1193 := X3 o1 (X3 o98 (X3 o175 (X4 o341) X5) (X4 o259)) (X3 o0 (X4 o0) (X4 o301))
noncomputable def u1198 := X3 o47 (X3 o0 (X3 o166 (X4 o0) X5) (X4 o250)) (X3 o1 (X4 o1) (X4 o11))
noncomputable def u1206 := X3 o81 (X3 o1 (X4 o327) X5) (X4 o240)
noncomputable def u1213 := X3 o62 (X3 o0 (X3 o180 (X4 o346) X5) (X4 o264)) (X3 o141 (X4 o221) (X4 o306))
noncomputable def u1220 := X3 o0 (X3 o90 (X3 o0 (X4 o336) X5) (X4 o0)) (X3 o130 (X4 o212) (X4 o297))
noncomputable def u1229 := X3 o0 (X3 o156 (X4 o0) X5) (X4 o234)
noncomputable def u1234 := X3 o57 (X3 o0 (X3 o174 (X4 o0) X5) (X4 o258)) (X3 o1 (X4 o1) (X4 o0))
noncomputable def u1244 := X3 o0 (X3 o45 (X3 o84 (X3 o0 (X4 o1) X5) (X4 o249)) (X3 o125 (X4 o207) (X4 o290))) (X3 o1 (X3 o106 (X3 o183 (X4 o349) X5) (X4 o267)) (X3 o0 (X4 o0) (X4 o312)))
noncomputable def u1247 := X3 o79 (X3 o161 (X4 o0) X5) (X4 o239)
noncomputable def u1253 := X3 o0 (X3 o1 (X3 o0 (X4 o344) X5) (X4 o0)) (X3 o139 (X4 o220) (X4 o0))
noncomputable def u1258 := X3 o52 (X3 o89 (X3 o1 (X4 o335) X5) (X4 o1)) (X3 o0 (X4 o0) (X4 o0))
noncomputable def u1267 := X3 o0 (X3 o158 (X4 o324) X5) (X4 o236)
noncomputable def u1273 := X3 o0 (X3 o99 (X3 o177 (X4 o0) X5) (X4 o261)) (X3 o136 (X4 o218) (X4 o302))
noncomputable def u1278 := X3 o11 (X3 o86 (X3 o167 (X4 o333) X5) (X4 o251)) (X3 o0 (X4 o0) (X4 o0))
noncomputable def u1290 := X3 o0 (X3 o0 (X3 o1 (X3 o0 (X4 o328) X5) (X4 o242)) (X3 o122 (X4 o204) (X4 o287))) (X3 o63 (X3 o104 (X3 o0 (X4 o1) X5) (X4 o0)) (X3 o143 (X4 o223) (X4 o308)))
noncomputable def u1295 := X3 o54 (X3 o92 (X3 o172 (X4 o338) X5) (X4 o256)) (X3 o131 (X4 o213) (X4 o1))
noncomputable def u1304 := X3 o74 (X3 o155 (X4 o322) X5) (X4 o233)
noncomputable def u1311 := X3 o56 (X3 o95 (X3 o1 (X4 o339) X5) (X4 o1)) (X3 o0 (X4 o0) (X4 o300))
noncomputable def u1322 := X3 o27 (X3 o0 (X3 o83 (X3 o165 (X4 o0) X5) (X4 o245)) (X3 o124 (X4 o206) (X4 o289))) (X3 o0 (X3 o1 (X3 o0 (X4 o348) X5) (X4 o0)) (X3 o146 (X4 o224) (X4 o311)))
noncomputable def u1326 := X3 o0 (X3 o160 (X4 o305) X5) (X4 o238)
noncomputable def u1331 := X3 o61 (X3 o0 (X3 o178 (X4 o0) X5) (X4 o262)) (X3 o138 (X4 o1) (X4 o305))
noncomputable def u1336 := X3 o51 (X3 o88 (X3 o0 (X4 o1) X5) (X4 o0)) (X3 o129 (X4 o211) (X4 o296))
noncomputable def u1341 := X3 o77 (X3 o1 (X4 o0) X5) (X4 o1)
noncomputable def u1347 := X3 o58 (X3 o0 (X3 o176 (X4 o342) X5) (X4 o260)) (X3 o135 (X4 o217) (X4 o0))
noncomputable def u1354 := X3 o0 (X3 o1 (X3 o0 (X4 o332) X5) (X4 o0)) (X3 o126 (X4 o208) (X4 o293))
noncomputable def u1361 := X3 o0 (X3 o162 (X4 o0) X5) (X4 o248)
noncomputable def u1367 := X3 o0 (X3 o103 (X3 o181 (X4 o0) X5) (X4 o265)) (X3 o142 (X4 o222) (X4 o307))
noncomputable def u1372 := X3 o1 (X3 o91 (X3 o171 (X4 o337) X5) (X4 o255)) (X3 o0 (X4 o0) (X4 o0))
noncomputable def u1379 := X3 o75 (X3 o157 (X4 o1) X5) (X4 o235)
noncomputable def u1385 := X3 o0 (X3 o11 (X3 o0 (X4 o340) X5) (X4 o0)) (X3 o134 (X4 o216) (X4 o1))
noncomputable def u1397 := X3 o1 (X3 o46 (X3 o85 (X3 o1 (X4 o331) X5) (X4 o11)) (X3 o0 (X4 o0) (X4 o0))) (X3 o66 (X3 o0 (X3 o184 (X4 o350) X5) (X4 o268)) (X3 o147 (X4 o225) (X4 o313)))
noncomputable def u1399 := X3 o80 (X3 o0 (X4 o1) X5) (X4 o0)
noncomputable def u1405 := X3 o1 (X3 o102 (X3 o179 (X4 o345) X5) (X4 o263)) (X3 o140 (X4 o0) (X4 o1))
noncomputable def u1409 := X3 o53 (X3 o0 (X3 o170 (X4 o0) X5) (X4 o254)) (X3 o1 (X4 o1) (X4 o0))
noncomputable def u1418 := X3 o1 (X3 o0 (X4 o325) X5) (X4 o0)
noncomputable def u1423 := X3 o59 (X3 o100 (X3 o0 (X4 o1) X5) (X4 o0)) (X3 o137 (X4 o219) (X4 o303))
noncomputable def u1430 := X3 o50 (X3 o0 (X3 o168 (X4 o334) X5) (X4 o252)) (X3 o127 (X4 o209) (X4 o294))
noncomputable def u1444 := X3 o25 (X3 o1 (X3 o82 (X3 o163 (X4 o329) X5) (X4 o243)) (X3 o0 (X4 o0) (X4 o0))) (X3 o64 (X3 o105 (X3 o1 (X4 o347) X5) (X4 o1)) (X3 o0 (X4 o0) (X4 o309)))
noncomputable def u1449 := X3 o0 (X3 o93 (X3 o173 (X4 o0) X5) (X4 o257)) (X3 o132 (X4 o214) (X4 o298))
noncomputable def tr8 := X3 boot_o_0 (X3 boot_o_1 (X3 o291 (X3 boot_o_7 (X3 o0 (X3 o16 (X3 o0 u1144 (X3 o114 (X4 o193) (X4 o277))) u1149) u1160) (X3 o11 (X3 o21 (X3 o1 u1164 (X3 o0 (X4 o200) (X4 o284))) u1171) (X3 o31 u1177 (X3 o0 (X3 o1 (X4 o188) (X4 o272)) (X3 o150 (X4 o228) (X4 o316)))))) (X3 o0 (X3 o7 (X3 o0 (X3 o37 u1186 (X3 o117 (X4 o11) (X4 o282))) u1193) (X3 o28 u1198 (X3 o0 (X3 o107 (X4 o185) (X4 o269)) (X3 o148 (X4 o226) (X4 o314))))) (X3 o13 (X3 o1 (X3 o42 u1206 (X3 o0 (X4 o0) (X4 o0))) u1213) (X3 o0 u1220 (X3 o71 (X3 o112 (X4 o0) (X4 o274)) (X3 o153 (X4 o231) (X4 o319))))))) (X3 boot_o_5 (X3 boot_o_9 (X3 o6 (X3 o18 (X3 o36 u1229 (X3 o115 (X4 o195) (X4 o281))) u1234) u1244) (X3 o0 (X3 o23 (X3 o0 u1247 (X3 o120 (X4 o202) (X4 o285))) u1253) (X3 o1 u1258 (X3 o70 (X3 o0 (X4 o190) (X4 o0)) (X3 o151 (X4 o229) (X4 o317)))))) (X3 o2 (X3 o9 (X3 o20 (X3 o39 u1267 (X3 o1 (X4 o0) (X4 o283))) u1273) (X3 o29 u1278 (X3 o68 (X3 o109 (X4 o186) (X4 o270)) (X3 o0 (X4 o0) (X4 o0))))) (X3 o0 u1290 (X3 o34 u1295 (X3 o73 (X3 o0 (X4 o192) (X4 o275)) (X3 o1 (X4 o1) (X4 o1)))))))) (X3 boot_o_2 (X3 boot_o_4 (X3 boot_o_8 (X3 o1 (X3 o17 (X3 o1 u1304 (X3 o0 (X4 o194) (X4 o280))) u1311) u1322) (X3 o12 (X3 o22 (X3 o40 u1326 (X3 o119 (X4 o201) (X4 o280))) u1331) (X3 o0 u1336 (X3 o1 (X3 o110 (X4 o189) (X4 o273)) (X3 o0 (X4 o0) (X4 o0)))))) (X3 o292 (X3 o8 (X3 o1 (X3 o38 u1341 (X3 o0 (X4 o198) (X4 o280))) u1347) (X3 o0 u1354 (X3 o67 (X3 o108 (X4 o0) (X4 o0)) (X3 o149 (X4 o227) (X4 o315))))) (X3 o14 (X3 o24 (X3 o43 u1361 (X3 o1 (X4 o1) (X4 o1))) u1367) (X3 o33 u1372 (X3 o72 (X3 o113 (X4 o1) (X4 o0)) (X3 o0 (X4 o0) (X4 o0))))))) (X3 boot_o_6 (X3 boot_o_10 (X3 o0 (X3 o19 (X3 o0 u1379 (X3 o116 (X4 o0) (X4 o280))) u1385) u1397) (X3 o1 (X3 o0 (X3 o41 u1399 (X3 o121 (X4 o203) (X4 o286))) u1405) (X3 o32 u1409 (X3 o0 (X3 o111 (X4 o191) (X4 o1)) (X3 o152 (X4 o230) (X4 o318)))))) (X3 o3 (X3 o10 (X3 o0 (X3 o0 u1418 (X3 o118 (X4 o199) (X4 o280))) u1423) (X3 o30 u1430 (X3 o69 (X3 o0 (X4 o187) (X4 o271)) (X3 o1 (X4 o1) (X4 o1))))) (X3 o15 u1444 (X3 o35 u1449 (X3 o0 (X3 o1 (X4 o0) (X4 o276)) (X3 o154 (X4 o232) (X4 o320))))))))
noncomputable def tr9 := X3 boot_o_0 (X3 boot_o_1 (X3 o351 (X3 boot_o_7 (X3 o0 (X3 o16 (X3 o0 u1144 (X3 o114 (X3 o193 (X4 o359) X5) (X4 o277))) u1149) u1160) (X3 o11 (X3 o21 (X3 o1 u1164 (X3 o0 (X3 o200 (X4 o1) X5) (X4 o284))) u1171) (X3 o31 u1177 (X3 o0 (X3 o1 (X3 o188 (X4 o354) X5) (X4 o272)) (X3 o150 (X4 o228) (X4 o316)))))) (X3 o0 (X3 o7 (X3 o0 (X3 o37 u1186 (X3 o117 (X3 o11 (X4 o361) X5) (X4 o282))) u1193) (X3 o28 u1198 (X3 o0 (X3 o107 (X3 o185 (X4 o0) X5) (X4 o269)) (X3 o148 (X4 o226) (X4 o314))))) (X3 o13 (X3 o1 (X3 o42 u1206 (X3 o0 (X3 o0 (X4 o366) X5) (X4 o0))) u1213) (X3 o0 u1220 (X3 o71 (X3 o112 (X3 o0 (X4 o1) X5) (X4 o274)) (X3 o153 (X4 o231) (X4 o319))))))) (X3 boot_o_5 (X3 boot_o_9 (X3 o6 (X3 o18 (X3 o36 u1229 (X3 o115 (X3 o195 (X4 o0) X5) (X4 o281))) u1234) u1244) (X3 o0 (X3 o23 (X3 o0 u1247 (X3 o120 (X3 o202 (X4 o0) X5) (X4 o285))) u1253) (X3 o1 u1258 (X3 o70 (X3 o0 (X3 o190 (X4 o356) X5) (X4 o0)) (X3 o151 (X4 o229) (X4 o317)))))) (X3 o2 (X3 o9 (X3 o20 (X3 o39 u1267 (X3 o1 (X3 o0 (X4 o363) X5) (X4 o283))) u1273) (X3 o29 u1278 (X3 o68 (X3 o109 (X3 o186 (X4 o353) X5) (X4 o270)) (X3 o0 (X4 o0) (X4 o0))))) (X3 o0 u1290 (X3 o34 u1295 (X3 o73 (X3 o0 (X3 o192 (X4 o0) X5) (X4 o275)) (X3 o1 (X4 o1) (X4 o1)))))))) (X3 boot_o_2 (X3 boot_o_4 (X3 boot_o_8 (X3 o1 (X3 o17 (X3 o1 u1304 (X3 o0 (X3 o194 (X4 o360) X5) (X4 o280))) u1311) u1322) (X3 o12 (X3 o22 (X3 o40 u1326 (X3 o119 (X3 o201 (X4 o364) X5) (X4 o280))) u1331) (X3 o0 u1336 (X3 o1 (X3 o110 (X3 o189 (X4 o355) X5) (X4 o273)) (X3 o0 (X4 o0) (X4 o0)))))) (X3 o352 (X3 o8 (X3 o1 (X3 o38 u1341 (X3 o0 (X3 o198 (X4 o362) X5) (X4 o280))) u1347) (X3 o0 u1354 (X3 o67 (X3 o108 (X3 o0 (X4 o1) X5) (X4 o0)) (X3 o149 (X4 o227) (X4 o315))))) (X3 o14 (X3 o24 (X3 o43 u1361 (X3 o1 (X3 o1 (X4 o367) X5) (X4 o1))) u1367) (X3 o33 u1372 (X3 o72 (X3 o113 (X3 o1 (X4 o357) X5) (X4 o0)) (X3 o0 (X4 o0) (X4 o0))))))) (X3 boot_o_6 (X3 boot_o_10 (X3 o0 (X3 o19 (X3 o0 u1379 (X3 o116 (X3 o0 (X4 o1) X5) (X4 o280))) u1385) u1397) (X3 o1 (X3 o0 (X3 o41 u1399 (X3 o121 (X3 o203 (X4 o365) X5) (X4 o286))) u1405) (X3 o32 u1409 (X3 o0 (X3 o111 (X3 o191 (X4 o0) X5) (X4 o1)) (X3 o152 (X4 o230) (X4 o318)))))) (X3 o3 (X3 o10 (X3 o0 (X3 o0 u1418 (X3 o118 (X3 o199 (X4 o0) X5) (X4 o280))) u1423) (X3 o30 u1430 (X3 o69 (X3 o0 (X3 o187 (X4 o0) X5) (X4 o271)) (X3 o1 (X4 o1) (X4 o1))))) (X3 o15 u1444 (X3 o35 u1449 (X3 o0 (X3 o1 (X3 o0 (X4 o358) X5) (X4 o276)) (X3 o154 (X4 o232) (X4 o320))))))))
noncomputable def heapZ (P : Params) : Heap := ⟨⟨[boot_o_0 P,boot_o_1 P,boot_o_2 P,o351 P,boot_o_4 P,boot_o_5 P,boot_o_6 P,boot_o_7 P,boot_o_8 P,boot_o_9 P,boot_o_10 P,o0 P,o352 P,o2 P,o3 P,o0 P,o1 P,o6 P,o0 P,o7 P,o8 P,o9 P,o10 P,o11 P,o12 P,o0 P,o1 P,o13 P,o14 P,o0 P,o15 P,o16 P,o17 P,o18 P,o19 P,o0 P,o1 P,o20 P,o0 P,o21 P,o22 P,o23 P,o0 P,o1 P,o24 P,o0 P,o25 P,o26 P,o27 P,o0 P,o1 P,o28 P,o0 P,o29 P,o30 P,o31 P,o0 P,o1 P,o32 P,o0 P,o33 P,o34 P,o35 P,o0 P,o1 P,o36 P,o0 P,o37 P,o38 P,o39 P,o0 P,o1 P,o40 P,o0 P,o41 P,o42 P,o43 P,o0 P,o1 P,o44 P,o0 P,o45 P,o46 P,o47 P,o0 P,o11 P,o50 P,o0 P,o51 P,o52 P,o53 P,o0 P,o1 P,o54 P,o0 P,o55 P,o56 P,o57 P,o0 P,o1 P,o58 P,o0 P,o59 P,o60 P,o61 P,o0 P,o1 P,o62 P,o0 P,o63 P,o64 P,o65 P,o0 P,o1 P,o66 P,o0 P,o67 P,o68 P,o69 P,o0 P,o1 P,o70 P,o0 P,o71 P,o72 P,o73 P,o0 P,o1 P,o74 P,o0 P,o75 P,o76 P,o77 P,o0 P,o1 P,o78 P,o0 P,o79 P,o80 P,o81 P,o0 P,o1 P,o82 P,o0 P,o83 P,o84 P,o85 P,o0 P,o1 P,o86 P,o0 P,o87 P,o88 P,o89 P,o0 P,o90 P,o91 P,o92 P,o93 P,o94 P,o95 P,o0 P,o11 P,o98 P,o0 P,o99 P,o100 P,o101 P,o0 P,o1 P,o102 P,o0 P,o103 P,o104 P,o105 P,o0 P,o1 P,o106 P,o0 P,o107 P,o108 P,o109 P,o0 P,o1 P,o110 P,o0 P,o111 P,o112 P,o113 P,o0 P,o1 P,o114 P,o0 P,o115 P,o116 P,o117 P,o0 P,o1 P,o118 P,o0 P,o119 P,o120 P,o121 P,o0 P,o1 P,o122 P,o0 P,o123 P,o124 P,o125 P,o0 P,o1 P,o126 P,o0 P,o127 P,o128 P,o129 P,o0 P,o1 P,o130 P,o0 P,o131 P,o132 P,o133 P,o0 P,o1 P,o134 P,o0 P,o135 P,o136 P,o137 P,o0 P,o138 P,o139 P,o140 P,o141 P,o142 P,o143 P,o0 P,o11 P,o146 P,o0 P,o147 P,o148 P,o149 P,o0 P,o1 P,o150 P,o0 P,o151 P,o152 P,o153 P,o0 P,o1 P,o154 P,o0 P,o155 P,o156 P,o157 P,o0 P,o1 P,o158 P,o0 P,o159 P,o160 P,o161 P,o0 P,o1 P,o162 P,o0 P,o163 P,o164 P,o165 P,o0 P,o1 P,o166 P,o0 P,o167 P,o168 P,o169 P,o0 P,o1 P,o170 P,o0 P,o171 P,o172 P,o173 P,o0 P,o1 P,o174 P,o0 P,o175 P,o176 P,o177 P,o0 P,o1 P,o178 P,o0 P,o179 P,o180 P,o181 P,o0 P,o1 P,o182 P,o0 P,o183 P,o184 P,o185 P,o0 P,o186 P,o187 P,o188 P,o189 P,o190 P,o191 P,o0 P,o1 P,o192 P,o0 P,o193 P,o194 P,o195 P,o0 P,o11 P,o198 P,o0 P,o199 P,o200 P,o201 P,o202 P,o203 P,o0 P,o1 P,o204 P,o0 P,o205 P,o206 P,o207 P,o0 P,o1 P,o208 P,o0 P,o209 P,o210 P,o211 P,o0 P,o1 P,o212 P,o0 P,o213 P,o214 P,o215 P,o0 P,o1 P,o216 P,o0 P,o217 P,o218 P,o219 P,o0 P,o1 P,o220 P,o0 P,o221 P,o222 P,o223 P,o0 P,o1 P,o224 P,o0 P,o225 P,o226 P,o227 P,o0 P,o1 P,o228 P,o0 P,o229 P,o230 P,o231 P,o0 P,o1 P,o232 P,o0 P,o233 P,o234 P,o235 P,o0 P,o1 P,o236 P,o0 P,o237 P,o238 P,o239 P,o0 P,o240 P,o248 P,o242 P,o243 P,o244 P,o245 P,o249 P,o11 P,o250 P,o0 P,o251 P,o252 P,o253 P,o0 P,o1 P,o254 P,o0 P,o255 P,o256 P,o257 P,o0 P,o1 P,o258 P,o0 P,o259 P,o260 P,o261 P,o0 P,o1 P,o262 P,o0 P,o263 P,o264 P,o265 P,o0 P,o1 P,o266 P,o0 P,o267 P,o268 P,o269 P,o0 P,o270 P,o271 P,o272 P,o273 P,o0 P,o1 P,o274 P,o0 P,o275 P,o276 P,o277 P,o280 P,o281 P,o280 P,o282 P,o280 P,o283 P,o280 P,o284 P,o280 P,o285 P,o286 P,o0 P,o1 P,o287 P,o0 P,o288 P,o289 P,o290 P,o0 P,o11 P,o293 P,o0 P,o294 P,o295 P,o296 P,o0 P,o0 P,o297 P,o0 P,o1 P,o298 P,o299 P,o300 P,o0 P,o1 P,o301 P,o0 P,o302 P,o303 P,o304 P,o305 P,o0 P,o1 P,o306 P,o307 P,o308 P,o309 P,o310 P,o311 P,o312 P,o313 P,o314 P,o315 P,o0 P,o1 P,o316 P,o0 P,o317 P,o318 P,o319 P,o0 P,o1 P,o320 P,o321 P,o322 P,o0 P,o1 P,o323 P,o0 P,o324 P,o325 P,o326 P,o305 P,o0 P,o1 P,o327 P,o0 P,o328 P,o329 P,o330 P,o0 P,o1 P,o331 P,o0 P,o332 P,o333 P,o334 P,o0 P,o1 P,o335 P,o0 P,o336 P,o337 P,o338 P,o0 P,o1 P,o339 P,o0 P,o340 P,o341 P,o342 P,o0 P,o1 P,o343 P,o0 P,o344 P,o345 P,o346 P,o0 P,o1 P,o347 P,o0 P,o348 P,o349 P,o350 P,o0 P,o1 P,o353 P,o0 P,o354 P,o355 P,o356 P,o0 P,o1 P,o357 P,o0 P,o358 P,o359 P,o360 P,o0 P,o1 P,o361 P,o362 P,o363 P,o0 P,o1 P,o364 P,o0 P,o365 P,o366 P,o367 P]⟩,{}⟩
noncomputable def sts1 : List Stmt := takeS 15 (dropS 0 TP.main.body)
noncomputable def sts2 : List Stmt := takeS 1 (dropS 15 TP.main.body)
noncomputable def sts3 : List Stmt := takeS 1 (dropS 16 TP.main.body)
noncomputable def sts4 : List Stmt := takeS 2 (dropS 17 TP.main.body)
noncomputable def sts5 : List Stmt := takeS 1 (dropS 19 TP.main.body)
noncomputable def sts6 : List Stmt := takeS 2 (dropS 20 TP.main.body)
noncomputable def sts7 : List Stmt := takeS 7 (dropS 22 TP.main.body)
noncomputable def sts8 : List Stmt := takeS 11 (dropS 29 TP.main.body)
noncomputable def sts9 : List Stmt := takeS 4 (dropS 40 TP.main.body)
noncomputable def stsAll : List Stmt := sts1 ++ (sts2 ++ (sts3 ++ (sts4 ++ (sts5 ++ (sts6 ++ (sts7 ++ (sts8 ++ (sts9 ++ ([])))))))))
noncomputable def env0 : Env := { scope := TP.main.scope,locals := mainNs,globals := mainNs,cells := [],code := (.ref 13),frame := some 14 }
noncomputable def fp : Pos := ⟨0,0,0,0⟩
noncomputable abbrev cE : Code := Code.body stsAll env0
noncomputable abbrev ann0 : Option Value := (some (.ref 6))
theorem pre_t (w : World) : (fun os => TWtopGo TWtable TP w 11 ann0 12 ⟨boot_heap w.params,Array.mk [],boot_drawn,boot_toks,os⟩ (topStub TP)) = fun os => some (⟨heapA w.params,Array.mk [],{},187,os⟩,Thread.mk (TWdenote TWtable cE) cE ⟨0,0,0,0⟩ [topFrame fp]) := by kernel_rfl
theorem blk_t (w : World) : (fun os => TWsegRun TWtable TP w 11 ann0 1 1 ⟨heapA w.params,Array.mk [],{},187,os⟩ (blockOf stsAll env0 cE ⟨0,0,0,0⟩ [topFrame fp])) = fun os => some (Flow.next,SharedT.abs (SharedT.mk (tr0 w.params) 15 {} (Array.mk []) {} 187 os),cE,⟨0,0,0,0⟩) := by kernel_rfl
theorem pc1_t (w : World) : (fun os => TWsegRunT TWtable TP w 11 ann0 1 482 (SharedT.mk (tr0 w.params) 15 {} (Array.mk []) {} 187 os) (piecesOf sts1 env0 cE ⟨0,0,0,0⟩ [topFrame fp])) = fun os => some (Flow.next,(SharedT.mk (tr1 w.params) 84 {} (Array.mk []) {} 276 os),cE,⟨45,0,45,8⟩) := by kernel_rfl
theorem pc2_t (w : World) : (fun os => TWsegRunT TWtable TP w 11 ann0 1 530 (SharedT.mk (tr1 w.params) 84 {} (Array.mk []) {} 276 os) (piecesOf sts2 env0 cE ⟨45,0,45,8⟩ [topFrame fp])) = fun os => some (Flow.next,(SharedT.mk (tr2 w.params) 161 {} (Array.mk []) {} 380 os),cE,⟨46,0,80,41⟩) := by kernel_rfl
theorem pc3_t (w : World) : (fun os => TWsegRunT TWtable TP w 11 ann0 1 529 (SharedT.mk (tr2 w.params) 161 {} (Array.mk []) {} 380 os) (piecesOf sts3 env0 cE ⟨46,0,80,41⟩ [topFrame fp])) = fun os => some (Flow.next,(SharedT.mk (tr3 w.params) 238 {} (Array.mk []) {} 483 os),cE,⟨81,0,125,30⟩) := by kernel_rfl
theorem pc4_t (w : World) : (fun os => TWsegRunT TWtable TP w 11 ann0 1 560 (SharedT.mk (tr3 w.params) 238 {} (Array.mk []) {} 483 os) (piecesOf sts4 env0 cE ⟨81,0,125,30⟩ [topFrame fp])) = fun os => some (Flow.next,(SharedT.mk (tr4 w.params) 322 {} (Array.mk []) {} 595 os),cE,⟨161,0,164,12⟩) := by kernel_rfl
theorem pc5_t (w : World) : (fun os => TWsegRunT TWtable TP w 11 ann0 1 541 (SharedT.mk (tr4 w.params) 322 {} (Array.mk []) {} 595 os) (piecesOf sts5 env0 cE ⟨161,0,164,12⟩ [topFrame fp])) = fun os => some (Flow.next,(SharedT.mk (tr5 w.params) 401 {} (Array.mk []) {} 704 os),cE,⟨165,0,204,70⟩) := by kernel_rfl
theorem pc6_t (w : World) : (fun os => TWsegRunT TWtable TP w 11 ann0 1 393 (SharedT.mk (tr5 w.params) 401 {} (Array.mk []) {} 704 os) (piecesOf sts6 env0 cE ⟨165,0,204,70⟩ [topFrame fp])) = fun os => some (Flow.next,(SharedT.mk (tr6 w.params) 448 {} (Array.mk []) {} 766 os),cE,⟨225,0,227,29⟩) := by kernel_rfl
theorem pc7_t (w : World) : (fun os => TWsegRunT TWtable TP w 11 ann0 1 323 (SharedT.mk (tr6 w.params) 448 {} (Array.mk []) {} 766 os) (piecesOf sts7 env0 cE ⟨225,0,227,29⟩ [topFrame fp])) = fun os => some (Flow.next,(SharedT.mk (tr7 w.params) 466 {} (Array.mk []) {} 785 os),cE,⟨238,0,238,5⟩) := by kernel_rfl
theorem pc8_t (w : World) : (fun os => TWsegRunT TWtable TP w 11 ann0 1 596 (SharedT.mk (tr7 w.params) 466 {} (Array.mk []) {} 785 os) (piecesOf sts8 env0 cE ⟨238,0,238,5⟩ [topFrame fp])) = fun os => some (Flow.next,(SharedT.mk (tr8 w.params) 563 {} (Array.mk []) {} 929 os),cE,⟨370,0,370,8⟩) := by kernel_rfl
theorem pc9_t (w : World) : (fun os => TWsegRunT TWtable TP w 11 ann0 1 133 (SharedT.mk (tr8 w.params) 563 {} (Array.mk []) {} 929 os) (piecesOf sts9 env0 cE ⟨370,0,370,8⟩ [topFrame fp])) = fun os => some (Flow.next,(SharedT.mk (tr9 w.params) 589 {} (Array.mk []) {} 975 os),cE,⟨386,0,411,36⟩) := by kernel_rfl
theorem fin_t (w : World) : (fun os => TWtopRun TWtable TP w 11 ann0 2 (SharedT.abs (SharedT.mk (tr9 w.params) 589 {} (Array.mk []) {} 975 os)) (Thread.mk (doneF Flow.next) cE ⟨386,0,411,36⟩ [topFrame fp])) = fun os => some (⟨heapZ w.params,Array.mk [],{},975,os⟩) := by kernel_rfl
noncomputable abbrev steps0 : Nat := (12 + (1 + (482 + (530 + (529 + (560 + (541 + (393 + (323 + (596 + (133 + 2)))))))))))
theorem run0 (w : World) (os : OsState) : topRun treeTable TP w 11 ann0 steps0 ⟨boot_heap w.params,Array.mk [],boot_drawn,boot_toks,os⟩ (topStub TP) = some ⟨heapZ w.params,Array.mk [],{},975,os⟩ :=
 go_top (by have h := congrFun (pre_t w) os; rw [<- Fast_topGo,<- Fast_table,<- Fast_denote] at h; exact h) (piece_block (by have h := congrFun (blk_t w) os; rw [<- Fast_segRun,<- Fast_table] at h; exact h) (piece_app (segRun_of (by have h := congrFun (pc1_t w) os; rw [<- Fast_segRunT,<- Fast_table] at h; exact h)) (piece_app (segRun_of (by have h := congrFun (pc2_t w) os; rw [<- Fast_segRunT,<- Fast_table] at h; exact h)) (piece_app (segRun_of (by have h := congrFun (pc3_t w) os; rw [<- Fast_segRunT,<- Fast_table] at h; exact h)) (piece_app (segRun_of (by have h := congrFun (pc4_t w) os; rw [<- Fast_segRunT,<- Fast_table] at h; exact h)) (piece_app (segRun_of (by have h := congrFun (pc5_t w) os; rw [<- Fast_segRunT,<- Fast_table] at h; exact h)) (piece_app (segRun_of (by have h := congrFun (pc6_t w) os; rw [<- Fast_segRunT,<- Fast_table] at h; exact h)) (piece_app (segRun_of (by have h := congrFun (pc7_t w) os; rw [<- Fast_segRunT,<- Fast_table] at h; exact h)) (piece_app (segRun_of (by have h := congrFun (pc8_t w) os; rw [<- Fast_segRunT,<- Fast_table] at h; exact h)) (piece_app (segRun_of (by have h := congrFun (pc9_t w) os; rw [<- Fast_segRunT,<- Fast_table] at h; exact h)) (by have h := congrFun (fin_t w) os; rw [<- Fast_topRun,<- Fast_table] at h; exact h)))))))))))
noncomputable def KK (P : Params) : Frag := [(0,o368 P),(1,o369 P),(2,o370 P),(3,o351 P),(4,o371 P),(5,o372 P),(6,o280 P),(7,o0 P),(8,o1 P),(9,o373 P),(10,o374 P),(11,o0 P),(12,o352 P),(13,o2 P),(14,o3 P),(15,o0 P),(16,o1 P),(17,o6 P),(18,o0 P),(19,o7 P),(20,o8 P),(21,o9 P),(22,o10 P),(29,o0 P),(30,o15 P),(31,o16 P),(32,o17 P),(35,o0 P),(36,o1 P),(37,o20 P),(38,o0 P),(39,o21 P),(40,o22 P),(41,o23 P),(42,o0 P),(43,o1 P),(44,o24 P),(45,o0 P),(46,o25 P),(47,o26 P),(48,o27 P),(49,o0 P),(50,o1 P),(51,o28 P),(52,o0 P),(53,o29 P),(54,o30 P),(55,o31 P),(56,o0 P),(57,o1 P),(58,o32 P),(59,o0 P),(60,o33 P),(61,o34 P),(62,o35 P),(63,o0 P),(64,o1 P),(65,o36 P),(66,o0 P),(67,o37 P),(68,o38 P),(69,o39 P),(70,o0 P),(71,o1 P),(72,o40 P),(73,o0 P),(74,o41 P),(75,o42 P),(76,o43 P),(77,o0 P),(78,o1 P),(79,o44 P),(80,o0 P),(81,o45 P),(82,o46 P),(83,o47 P),(91,o0 P),(92,o1 P),(93,o54 P),(94,o0 P),(95,o55 P),(96,o56 P),(97,o57 P),(98,o0 P),(99,o1 P),(100,o58 P),(101,o0 P),(102,o59 P),(103,o60 P),(104,o61 P),(105,o0 P),(106,o1 P),(107,o62 P),(108,o0 P),(109,o63 P),(110,o64 P),(111,o65 P),(112,o0 P),(113,o1 P),(114,o66 P),(115,o0 P),(116,o67 P),(117,o68 P),(118,o69 P),(119,o0 P),(120,o1 P),(121,o70 P),(122,o0 P),(123,o71 P),(124,o72 P),(125,o73 P),(126,o0 P),(127,o1 P),(128,o74 P),(129,o0 P),(130,o75 P),(131,o76 P),(132,o77 P),(133,o0 P),(134,o1 P),(135,o78 P),(136,o0 P),(137,o79 P),(138,o80 P),(139,o81 P),(140,o0 P),(141,o1 P),(142,o82 P),(143,o0 P),(144,o83 P),(145,o84 P),(146,o85 P),(147,o0 P),(148,o1 P),(149,o86 P),(150,o0 P),(151,o87 P),(152,o88 P),(153,o89 P),(154,o0 P),(155,o90 P),(156,o91 P),(157,o92 P),(158,o93 P),(168,o0 P),(169,o1 P),(170,o102 P),(171,o0 P),(172,o103 P),(173,o104 P),(174,o105 P),(175,o0 P),(176,o1 P),(177,o106 P),(178,o0 P),(179,o107 P),(180,o108 P),(181,o109 P),(182,o0 P),(183,o1 P),(184,o110 P),(185,o0 P),(186,o111 P),(187,o112 P),(188,o113 P),(189,o0 P),(190,o1 P),(191,o114 P),(192,o0 P),(193,o115 P),(194,o116 P),(195,o117 P),(196,o0 P),(197,o1 P),(198,o118 P),(199,o0 P),(200,o119 P),(201,o120 P),(202,o121 P),(203,o0 P),(204,o1 P),(205,o122 P),(206,o0 P),(207,o123 P),(208,o124 P),(209,o125 P),(210,o0 P),(211,o1 P),(212,o126 P),(213,o0 P),(214,o127 P),(215,o128 P),(216,o129 P),(217,o0 P),(218,o1 P),(219,o130 P),(220,o0 P),(221,o131 P),(222,o132 P),(223,o133 P),(224,o0 P),(225,o1 P),(226,o134 P),(227,o0 P),(228,o135 P),(229,o136 P),(230,o137 P),(231,o0 P),(232,o138 P),(233,o139 P),(234,o140 P),(235,o141 P),(245,o0 P),(246,o1 P),(247,o150 P),(248,o0 P),(249,o151 P),(250,o152 P),(251,o153 P),(252,o0 P),(253,o1 P),(254,o154 P),(255,o0 P),(256,o155 P),(257,o156 P),(258,o157 P),(259,o0 P),(260,o1 P),(261,o158 P),(262,o0 P),(263,o159 P),(264,o160 P),(265,o161 P),(266,o0 P),(267,o1 P),(268,o162 P),(269,o0 P),(270,o163 P),(271,o164 P),(272,o165 P),(273,o0 P),(274,o1 P),(275,o166 P),(276,o0 P),(277,o167 P),(278,o168 P),(279,o169 P),(280,o0 P),(281,o1 P),(282,o170 P),(283,o0 P),(284,o171 P),(285,o172 P),(286,o173 P),(287,o0 P),(288,o1 P),(289,o174 P),(290,o0 P),(291,o175 P),(292,o176 P),(293,o177 P),(294,o0 P),(295,o1 P),(296,o178 P),(297,o0 P),(298,o179 P),(299,o180 P),(300,o181 P),(301,o0 P),(302,o1 P),(303,o182 P),(304,o0 P),(305,o183 P),(306,o184 P),(307,o185 P),(308,o0 P),(309,o186 P),(310,o187 P),(311,o188 P),(312,o189 P),(315,o0 P),(316,o1 P),(317,o192 P),(318,o0 P),(319,o193 P),(320,o194 P),(321,o195 P),(329,o202 P),(330,o203 P),(331,o0 P),(332,o1 P),(333,o204 P),(334,o0 P),(335,o205 P),(336,o206 P),(337,o207 P),(338,o0 P),(339,o1 P),(340,o208 P),(341,o0 P),(342,o209 P),(343,o210 P),(344,o211 P),(345,o0 P),(346,o1 P),(347,o212 P),(348,o0 P),(349,o213 P),(350,o214 P),(351,o215 P),(352,o0 P),(353,o1 P),(354,o216 P),(355,o0 P),(356,o217 P),(357,o218 P),(358,o219 P),(359,o0 P),(360,o1 P),(361,o220 P),(362,o0 P),(363,o221 P),(364,o222 P),(365,o223 P),(366,o0 P),(367,o1 P),(368,o224 P),(369,o0 P),(370,o225 P),(371,o226 P),(372,o227 P),(373,o0 P),(374,o1 P),(375,o228 P),(376,o0 P),(377,o229 P),(378,o230 P),(379,o231 P),(380,o0 P),(381,o1 P),(382,o232 P),(383,o0 P),(384,o233 P),(385,o234 P),(386,o235 P),(387,o0 P),(388,o1 P),(389,o236 P),(390,o0 P),(391,o237 P),(392,o238 P),(393,o239 P),(394,o0 P),(395,o240 P),(396,o248 P),(397,o242 P),(398,o243 P),(401,o249 P),(408,o0 P),(409,o1 P),(410,o254 P),(411,o0 P),(412,o255 P),(413,o256 P),(414,o257 P),(415,o0 P),(416,o1 P),(417,o258 P),(418,o0 P),(419,o259 P),(420,o260 P),(421,o261 P),(422,o0 P),(423,o1 P),(424,o262 P),(425,o0 P),(426,o263 P),(427,o264 P),(428,o265 P),(429,o0 P),(430,o1 P),(431,o266 P),(432,o0 P),(433,o267 P),(434,o268 P),(435,o269 P),(436,o0 P),(437,o270 P),(438,o271 P),(441,o0 P),(442,o1 P),(443,o274 P),(444,o0 P),(445,o275 P),(446,o276 P),(447,o277 P),(448,o280 P),(449,o281 P),(450,o280 P),(451,o282 P),(452,o280 P),(453,o283 P),(454,o280 P),(455,o284 P),(456,o280 P),(457,o285 P),(458,o286 P),(459,o0 P),(460,o1 P),(461,o287 P),(462,o0 P),(463,o288 P),(464,o289 P),(465,o290 P),(473,o0 P),(474,o0 P),(475,o297 P),(476,o0 P),(477,o1 P),(478,o298 P),(479,o299 P),(480,o300 P),(481,o0 P),(482,o1 P),(483,o301 P),(484,o0 P),(485,o302 P),(486,o303 P),(487,o304 P),(488,o305 P),(489,o0 P),(490,o1 P),(491,o306 P),(492,o307 P),(493,o308 P),(494,o309 P),(495,o310 P),(496,o311 P),(497,o312 P),(498,o313 P),(501,o0 P),(502,o1 P),(503,o316 P),(504,o0 P),(505,o317 P),(506,o318 P),(507,o319 P),(508,o0 P),(509,o1 P),(510,o320 P),(511,o321 P),(512,o322 P),(513,o0 P),(514,o1 P),(515,o323 P),(516,o0 P),(517,o324 P),(518,o325 P),(519,o326 P),(520,o305 P),(521,o0 P),(522,o1 P),(523,o327 P),(524,o0 P),(525,o328 P),(526,o329 P),(527,o330 P),(528,o0 P),(529,o1 P),(530,o331 P),(531,o0 P),(532,o332 P),(533,o333 P),(534,o334 P),(535,o0 P),(536,o1 P),(537,o335 P),(538,o0 P),(539,o336 P),(540,o337 P),(541,o338 P),(542,o0 P),(543,o1 P),(544,o339 P),(545,o0 P),(546,o340 P),(547,o341 P),(548,o342 P),(549,o0 P),(550,o1 P),(551,o343 P),(552,o0 P),(553,o344 P),(554,o345 P),(555,o346 P),(556,o0 P),(557,o1 P),(558,o347 P),(559,o0 P),(560,o348 P),(561,o349 P),(562,o350 P),(563,o0 P),(564,o1 P),(565,o353 P),(566,o0 P),(567,o354 P),(568,o355 P),(569,o356 P),(570,o0 P),(571,o1 P),(572,o357 P),(573,o0 P),(574,o358 P),(575,o359 P),(576,o360 P),(577,o0 P),(578,o1 P),(579,o361 P),(580,o362 P),(581,o363 P),(582,o0 P),(583,o1 P),(584,o364 P),(585,o0 P),(586,o365 P),(587,o366 P),(588,o367 P)]
noncomputable def as0 : List Addr := [0,1,2,3,4,5,6,7,8,9,10,11,12,13,14,15,16,17,18,19,20,21,22,29,30,31,32,35,36,37,38,39,40,41,42,43,44,45,46,47,48,49,50,51,52,53,54,55,56,57,58,59,60,61,62,63,64,65,66,67,68,69,70,71,72,73,74,75,76,77,78,79,80,81,82,83,91,92,93,94,95,96,97,98,99,100,101,102,103,104,105,106,107,108,109,110,111,112,113,114,115,116,117,118,119,120,121,122,123,124,125,126,127,128,129,130,131,132,133,134,135,136,137,138,139,140,141,142,143,144,145,146,147,148,149,150,151,152,153,154,155,156,157,158,168,169,170,171,172,173,174,175,176,177,178,179,180,181,182,183,184,185,186,187,188,189,190,191,192,193,194,195,196,197,198,199,200,201,202,203,204,205,206,207,208,209,210,211,212,213,214,215,216,217,218,219,220,221,222,223,224,225,226,227,228,229,230,231,232,233,234,235,245,246,247,248,249,250,251,252,253,254,255,256,257,258,259,260,261,262,263,264,265,266,267,268,269,270,271,272,273,274,275,276,277,278,279,280,281,282,283,284,285,286,287,288,289,290,291,292,293,294,295,296,297,298,299,300,301,302,303,304,305,306,307,308,309,310,311,312,315,316,317,318,319,320,321,329,330,331,332,333,334,335,336,337,338,339,340,341,342,343,344,345,346,347,348,349,350,351,352,353,354,355,356,357,358,359,360,361,362,363,364,365,366,367,368,369,370,371,372,373,374,375,376,377,378,379,380,381,382,383,384,385,386,387,388,389,390,391,392,393,394,395,396,397,398,401,408,409,410,411,412,413,414,415,416,417,418,419,420,421,422,423,424,425,426,427,428,429,430,431,432,433,434,435,436,437,438,441,442,443,444,445,446,447,448,449,450,451,452,453,454,455,456,457,458,459,460,461,462,463,464,465,473,474,475,476,477,478,479,480,481,482,483,484,485,486,487,488,489,490,491,492,493,494,495,496,497,498,501,502,503,504,505,506,507,508,509,510,511,512,513,514,515,516,517,518,519,520,521,522,523,524,525,526,527,528,529,530,531,532,533,534,535,536,537,538,539,540,541,542,543,544,545,546,547,548,549,550,551,552,553,554,555,556,557,558,559,560,561,562,563,564,565,566,567,568,569,570,571,572,573,574,575,576,577,578,579,580,581,582,583,584,585,586,587,588]
noncomputable abbrev size0 : Nat := 589
noncomputable abbrev toksZ : Nat := 975
noncomputable abbrev m00 : Nat := 11
noncomputable abbrev TSt := PySem.W.Fast.tw13471830651028734593
theorem eSt : @staticsOk = TSt := PySem.W.Fast.te13471830651028734593
noncomputable abbrev TNb := PySem.W.Fast.tw4683006035507612052
theorem eNb : @namesBound = TNb := PySem.W.Fast.te4683006035507612052
noncomputable abbrev TLk := PySem.W.Fast.tw16898566250750103049
theorem eLk : @laidKept = TLk := PySem.W.Fast.te16898566250750103049
noncomputable abbrev TXl := PySem.W.Fast.tw4757257242682413121
theorem eXl : @xlAt = TXl := PySem.W.Fast.te4757257242682413121
noncomputable abbrev TRo := PySem.W.Fast.tw6483871617321286689
theorem eRo : @recOk = TRo := PySem.W.Fast.te6483871617321286689
noncomputable abbrev TOg := PySem.W.Fast.tw3486900944545009338
theorem eOg : @openGood = TOg := PySem.W.Fast.te3486900944545009338
noncomputable abbrev TIm := PySem.W.Fast.tw5923862056798008813
theorem eIm : @importedModules = TIm := PySem.W.Fast.te5923862056798008813
noncomputable abbrev TOs := PySem.W.Fast.tw4187177175401517315
theorem eOs : @openSeen = TOs := PySem.W.Fast.te4187177175401517315
noncomputable def qOf (p : Program) : Program := { p with main := { p.main with body := dropS 43 p.main.body } }
noncomputable abbrev qv : Program := qOf TP
noncomputable def loose0 : List PySem.Str := (takeS 43 TP.main.body).flatMap fun s => match s with
 | .FunctionDef n .. => [n] | .ClassDef n .. => [n] | .Assign [.Name n ..] .. => if n == ⟨#[95,95,110,97,109,101,95,95]⟩ then [] else [n] | _ => []
noncomputable abbrev NN : Nat := 7000
theorem keys0 : ∀ P,as0 = (KK P).map (·.1) := fun P => by kernel_rfl
theorem facts1 {w : World} {s t : Shared} (y : obsZ as0 s = valZ KK size0 toksZ w) (k : ∀ b o,s.heap.get? b = some o -> t.heap.get? b = some o) : Frag.In (KK w.params) t.heap /\ s.heap.objs.size = nat_lit 589 /\ s.toks = nat_lit 975 :=
 ⟨InK.keeps w s.heap t.heap (z_facts keys0 y).2.1 k,(z_facts keys0 y).2.2.1,(z_facts keys0 y).2.2.2⟩
theorem d_open : ∀ w : World,(fencedOpening treeTable TP w NN).map (fun s => (s.heap,s.gens,s.drawn,s.toks)) = some (boot_heap w.params,Array.mk [],boot_drawn,boot_toks) :=
 boot_open (p:=TP) (N:=NN) (by kernel_rfl) (by decide) (fun s => by rfl)
theorem d_size : ∀ w : World,((boot_heap w.params).isNs mainGlobals && (Array.mk [] : Array GenState).size == 0,(boot_heap w.params).objs.size,(boot_heap w.params).nsMap mainGlobals "__annotations__") = (true,11,ann0) := fun w => by kernel_rfl
noncomputable def XtT (s : Shared) : Bool := TXl qv [] s && TRo [] s
theorem look1 (w : World) : (fun os : OsState => (TSt (TIm TP.main.body) (boot_heap w.params) (heapZ w.params) && TNb TP (heapZ w.params) && gensDone ⟨heapZ w.params,Array.mk [],{},toksZ,os⟩ && TLk (boot_heap w.params) (heapZ w.params))) = fun _ => true := by kernel_rfl
theorem look3 (w : World) : (fun os : OsState => obsZ as0 ⟨heapZ w.params,Array.mk [],{},toksZ,os⟩) = fun _ => valZ KK size0 toksZ w := by kernel_rfl
theorem look2 (w : World) : (fun os : OsState => TOs qv loose0 (TIm TP.main.body) XtT true ⟨heapZ w.params,Array.mk [],{},toksZ,os⟩) = fun _ => TOg qv loose0 := by kernel_rfl
theorem eXt : XtT = fun s => xlAt qv [] s && recOk [] s := by unfold XtT; rw [eXl,eRo]
noncomputable abbrev pw : Program := PySem.Challenge.pw_ui0508_07
theorem left0 : LeftO pw (qOf pw) loose0 (fun s => xlAt (qOf pw) [] s && recOk [] s) (obsZ as0) (valZ KK size0 toksZ) NN := by
 rw [show pw = TP from tePw]
 refine LeftO.of_pieces (g0:=true) d_open d_size run0 (by decide) (fun w => ?_)
 have h1 := look1 w
 have h2 := look2 w
 have h3 := look3 w
 rw [<- eSt,<- eIm,<- eNb,<- eLk] at h1
 rw [<- eOs,<- eIm,<- eOg,eXt] at h2
 funext os
 exact Prod.ext (congrFun h1 os) (Prod.ext (congrFun h2 os) (congrFun h3 os))
noncomputable abbrev QQ (s₀ s₁ : Shared) (ns : List Int) : Value -> Shared -> Prop := fun v s' => GoodWG PySem.Challenge.rw_ui0508_07.row.claim (classAt s₀.heap) (ExcName.means s₀.heap) [ofPy (PyData.list (List.map PyData.int ns))] s₁ (.ok (.ret v)) s'
noncomputable abbrev EE (s₀ s₁ : Shared) (ns : List Int) : Value -> Shared -> Prop := fun e s' => GoodWG PySem.Challenge.rw_ui0508_07.row.claim (classAt s₀.heap) (ExcName.means s₀.heap) [ofPy (PyData.list (List.map PyData.int ns))] s₁ (.error e) s'
theorem small {p : Program} {w : World} {A : Around} {t : Sem Value} {s₀ s₁ s : Shared} {ns : List Int} (h : wpAny (model p w) A t (QQ s₀ s₁ ns) (EE s₀ s₁ ns) s) :
  wpAny (model p w) A t (fun v s' => GoodWG PySem.Challenge.rw_ui0508_07.row.claim (classAt s₀.heap) (ExcName.means s₀.heap) [ofPy (PyData.list (List.map PyData.int ns))] s₁ (.ok (.ret v)) s')
   (fun e s' => GoodWG PySem.Challenge.rw_ui0508_07.row.claim (classAt s₀.heap) (ExcName.means s₀.heap) [ofPy (PyData.list (List.map PyData.int ns))] s₁ (.error e) s') s := h
end Hd
namespace Hd
open Mi
noncomputable def gl0 : List (PySem.Str × Val) := [(PySem.Str.mk (Array.mk [77,65,82,75,83]),(Val.str [32,9,10,58,47,95,91,93,62,35,59,63,61])),(PySem.Str.mk (Array.mk [108,101,110]),(Val.bi 7103854)),(PySem.Str.mk (Array.mk [115,116,114]),(Val.ty 7566450)),(PySem.Str.mk (Array.mk [116,121,112,101]),(Val.ty 1954115685)),(PySem.Str.mk (Array.mk [77,97,99,104,105,110,101,69,114,114,111,114]),(Val.top 100)),(PySem.Str.mk (Array.mk [105,115,95,108,101,116,116,101,114]),(Val.top 101)),(PySem.Str.mk (Array.mk [115,104,111,119,110]),(Val.top 102)),(PySem.Str.mk (Array.mk [110,101,101,100,95,108,101,116,116,101,114]),(Val.top 103)),(PySem.Str.mk (Array.mk [110,101,101,100,95,119,111,114,100]),(Val.top 134)),(PySem.Str.mk (Array.mk [115,101,116]),(Val.ty 7562612)),(PySem.Str.mk (Array.mk [105,110,116]),(Val.ty 6909556)),(PySem.Str.mk (Array.mk [71,82,69,65,84,69,83,84]),(Val.int (10 ^ 4000))),(PySem.Str.mk (Array.mk [68,73,71,73,84,83]),(Val.str [48,49,50,51,52,53,54,55,56,57])),(PySem.Str.mk (Array.mk [70,73,71,85,82,69,83]),(Val.int 4000)),(PySem.Str.mk (Array.mk [109,97,120]),(Val.bi 7168376)),(PySem.Str.mk (Array.mk [109,105,110]),(Val.bi 7170414)),(PySem.Str.mk (Array.mk [119,101,105,103,104,116,95,111,102]),(Val.top 237)),(PySem.Str.mk (Array.mk [102,105,103,117,114,101,115]),(Val.top 192)),(PySem.Str.mk (Array.mk [95,103,99,100]),(Val.top 109)),(PySem.Str.mk (Array.mk [116,117,112,108,101]),(Val.ty 500186508389)),(PySem.Str.mk (Array.mk [102,114,97,99,116,105,111,110]),(Val.top 110)),(PySem.Str.mk (Array.mk [67,104,97,110,99,101]),(Val.top 111)),(PySem.Str.mk (Array.mk [82,73,78,71,83]),(Val.fl [(Val.top 112),(Val.top 113),(Val.top 114),(Val.top 115),(Val.top 116)])),(PySem.Str.mk (Array.mk [77,85,83,84]),(Val.str [109,117,115,116])),(PySem.Str.mk (Array.mk [95,110,101,101,100,95,115,101,116]),(Val.top 218)),(PySem.Str.mk (Array.mk [108,105,115,116]),(Val.ty 1818850164)),(PySem.Str.mk (Array.mk [114,97,110,103,101]),(Val.ty 491260897125)),(PySem.Str.mk (Array.mk [114,105,110,103]),(Val.top 105)),(PySem.Str.mk (Array.mk [95,115,104,111,119,95,115,101,116,115]),(Val.top 244)),(PySem.Str.mk (Array.mk [69,68,71,69]),(Val.str [35])),(PySem.Str.mk (Array.mk [110,101,101,100,95,108,101,116,116,101,114,115]),(Val.top 219)),(PySem.Str.mk (Array.mk [82,117,108,101]),(Val.top 229)),(PySem.Str.mk (Array.mk [114,101,97,100,95,115,101,116,115]),(Val.top 238)),(PySem.Str.mk (Array.mk [76,79,78,71,69,83,84]),(Val.int 200)),(PySem.Str.mk (Array.mk [83,84,69,80,83]),(Val.int 20000)),(PySem.Str.mk (Array.mk [95,110,101,101,100,95,115,104,111,114,116]),(Val.top 221)),(PySem.Str.mk (Array.mk [95,114,101,119,114,105,116,101]),(Val.top 220)),(PySem.Str.mk (Array.mk [95,108,101,102,116,95,115,116,97,110,100,115]),(Val.top 222)),(PySem.Str.mk (Array.mk [95,114,105,103,104,116,95,115,116,97,110,100,115]),(Val.top 223)),(PySem.Str.mk (Array.mk [95,108,97,119,95,99,101,108,108]),(Val.top 137)),(PySem.Str.mk (Array.mk [95,108,97,119,95,114,117,108,101]),(Val.top 230)),(PySem.Str.mk (Array.mk [95,108,97,119,95,119,111,114,100]),(Val.top 231)),(PySem.Str.mk (Array.mk [98,121,95,104,97,110,100]),(Val.top 224)),(PySem.Str.mk (Array.mk [114,101,97,100,95,114,117,108,101]),(Val.top 239))]
noncomputable def bd_errors_is_letter : List Sm := [(Sm.ret (Ex.bop false [(Ex.cmp COp.is (Ex.call (Ex.lit (Val.ty 1954115685)) [(Ex.var 0)]) (Ex.lit (Val.ty 7566450))),(Ex.cmp COp.eq (Ex.call (Ex.lit (Val.bi 7103854)) [(Ex.var 0)]) (Ex.lit (Val.int 1))),(Ex.cmp COp.notin (Ex.var 0) (Ex.lit (Val.str [32,9,10,58,47,95,91,93,62,35,59,63,61]))),(Ex.not (Ex.meth (Ex.var 0) 29681812198482789 []))]))]
noncomputable def fn_errors_is_letter : Fn := ⟨101,1,[],7,bd_errors_is_letter⟩
noncomputable def bd_errors_need_letter : List Sm := [(Sm.ite (Ex.not (Ex.call (Ex.lit (Val.top 101)) [(Ex.var 0)])) [(Sm.rse (Ex.bin BOp.add (Ex.lit (Val.str [110,111,32,108,101,116,116,101,114,58,32])) (Ex.call (Ex.lit (Val.top 102)) [(Ex.var 0)])))] []),(Sm.ret (Ex.var 0))]
noncomputable def fn_errors_need_letter : Fn := ⟨103,1,[],7,bd_errors_need_letter⟩
noncomputable def bd_errors_need_word : List Sm := [(Sm.ite (Ex.cmp COp.isnot (Ex.call (Ex.lit (Val.ty 1954115685)) [(Ex.var 0)]) (Ex.lit (Val.ty 7566450))) [(Sm.rse (Ex.bin BOp.add (Ex.lit (Val.str [110,111,32,119,111,114,100,58,32])) (Ex.call (Ex.lit (Val.top 102)) [(Ex.var 0)])))] []),(Sm.fo [1] false (Ex.var 0) [(Sm.expr (Ex.call (Ex.lit (Val.top 103)) [(Ex.var 1)]))]),(Sm.ret (Ex.var 0))]
noncomputable def fn_errors_need_word : Fn := ⟨134,1,[],8,bd_errors_need_word⟩
noncomputable def bd_errors_need_letters : List Sm := [(Sm.expr (Ex.call (Ex.lit (Val.top 134)) [(Ex.var 0)])),(Sm.ite (Ex.cmp COp.ne (Ex.call (Ex.lit (Val.bi 7103854)) [(Ex.call (Ex.lit (Val.ty 7562612)) [(Ex.var 0)])]) (Ex.call (Ex.lit (Val.bi 7103854)) [(Ex.var 0)])) [(Sm.rse (Ex.bin BOp.add (Ex.lit (Val.str [97,32,108,101,116,116,101,114,32,116,119,105,99,101,58,32])) (Ex.call (Ex.lit (Val.top 102)) [(Ex.var 0)])))] []),(Sm.ret (Ex.var 0))]
noncomputable def fn_errors_need_letters : Fn := ⟨219,1,[],7,bd_errors_need_letters⟩
noncomputable def bd_errors_shown : List Sm := [(Sm.ite (Ex.cmp COp.is (Ex.call (Ex.lit (Val.ty 1954115685)) [(Ex.var 0)]) (Ex.lit (Val.ty 7566450))) [(Sm.ret (Ex.slice (Ex.var 0) 2 [(Ex.lit (Val.int 40))]))] []),Sm.raise,(Sm.ret (Ex.lit (Val.str [115,111,109,101,116,104,105,110,103,32,101,108,115,101])))]
noncomputable def fn_errors_shown : Fn := ⟨102,1,[],7,bd_errors_shown⟩
noncomputable def bd_errors_figures : List Sm := [(Sm.ite (Ex.cmp COp.ge (Ex.var 0) (Ex.lit (Val.int (10 ^ 4000)))) [(Sm.rse (Ex.lit (Val.str [97,32,119,101,105,103,104,116,32,116,111,111,32,108,111,110,103])))] []),(Sm.ret (Ex.call (Ex.lit (Val.ty 7566450)) [(Ex.var 0)]))]
noncomputable def fn_errors_figures : Fn := ⟨192,1,[],7,bd_errors_figures⟩
noncomputable def bd_errors_weight_of : List Sm := [(Sm.ite (Ex.bop true [(Ex.cmp COp.isnot (Ex.call (Ex.lit (Val.ty 1954115685)) [(Ex.var 0)]) (Ex.lit (Val.ty 7566450))),(Ex.cmp COp.eq (Ex.var 0) (Ex.lit (Val.str []))),(Ex.cmp COp.gt (Ex.call (Ex.lit (Val.bi 7103854)) [(Ex.var 0)]) (Ex.lit (Val.int 4000)))]) [(Sm.rse (Ex.bin BOp.add (Ex.lit (Val.str [110,111,32,119,101,105,103,104,116,58,32])) (Ex.call (Ex.lit (Val.top 102)) [(Ex.var 0)])))] []),(Sm.fo [1] false (Ex.var 0) [(Sm.ite (Ex.cmp COp.notin (Ex.var 1) (Ex.lit (Val.str [48,49,50,51,52,53,54,55,56,57]))) [(Sm.rse (Ex.bin BOp.add (Ex.lit (Val.str [110,111,32,119,101,105,103,104,116,58,32])) (Ex.call (Ex.lit (Val.top 102)) [(Ex.var 0)])))] [])]),(Sm.ret (Ex.call (Ex.lit (Val.ty 6909556)) [(Ex.var 0)]))]
noncomputable def fn_errors_weight_of : Fn := ⟨237,1,[],8,bd_errors_weight_of⟩
noncomputable def bd_Yes_need : List Sm := [(Sm.ite (Ex.bop true [(Ex.cmp COp.isnot (Ex.call (Ex.lit (Val.ty 1954115685)) [(Ex.var 1)]) (Ex.lit (Val.ty 6909556))),(Ex.cmp COp.lt (Ex.var 1) (Ex.lit (Val.int 0))),(Ex.cmp COp.gt (Ex.var 1) (Ex.lit (Val.int 1)))]) [(Sm.rse (Ex.bin BOp.add (Ex.lit (Val.str [110,111,32,119,101,105,103,104,116,32,111,102,32])) (Ex.attr (Ex.var 0) 1851878757)))] []),(Sm.ret (Ex.var 1))]
noncomputable def fn_Yes_need : Fn := ⟨142,2,[],8,bd_Yes_need⟩
noncomputable def bd_Yes_plus : List Sm := [(Sm.ret (Ex.call (Ex.lit (Val.bi 7168376)) [(Ex.var 1),(Ex.var 2)]))]
noncomputable def fn_Yes_plus : Fn := ⟨143,3,[],9,bd_Yes_plus⟩
noncomputable def bd_Yes_times : List Sm := [(Sm.ret (Ex.call (Ex.lit (Val.bi 7170414)) [(Ex.var 1),(Ex.var 2)]))]
noncomputable def fn_Yes_times : Fn := ⟨144,3,[],9,bd_Yes_times⟩
noncomputable def bd_Yes_show : List Sm := [(Sm.ret (Ex.call (Ex.lit (Val.ty 7566450)) [(Ex.var 1)]))]
noncomputable def fn_Yes_show : Fn := ⟨204,2,[],8,bd_Yes_show⟩
noncomputable def bd_Yes_read : List Sm := [(Sm.ret (Ex.meth (Ex.var 0) 1852138852 [(Ex.call (Ex.lit (Val.top 237)) [(Ex.var 1)])]))]
noncomputable def fn_Yes_read : Fn := ⟨240,2,[],8,bd_Yes_read⟩
noncomputable def bd_Least_need : List Sm := [(Sm.ite (Ex.bop false [(Ex.cmp COp.isnot (Ex.var 1) (Ex.lit Val.none)),(Ex.bop true [(Ex.cmp COp.isnot (Ex.call (Ex.lit (Val.ty 1954115685)) [(Ex.var 1)]) (Ex.lit (Val.ty 6909556))),(Ex.cmp COp.lt (Ex.var 1) (Ex.lit (Val.int 0))),(Ex.cmp COp.ge (Ex.var 1) (Ex.lit (Val.int (10 ^ 4000))))])]) [(Sm.rse (Ex.bin BOp.add (Ex.lit (Val.str [110,111,32,119,101,105,103,104,116,32,111,102,32])) (Ex.attr (Ex.var 0) 1851878757)))] []),(Sm.ret (Ex.var 1))]
noncomputable def fn_Least_need : Fn := ⟨147,2,[],8,bd_Least_need⟩
noncomputable def bd_Least_plus : List Sm := [(Sm.ite (Ex.cmp COp.is (Ex.var 1) (Ex.lit Val.none)) [(Sm.ret (Ex.var 2))] []),(Sm.ite (Ex.cmp COp.is (Ex.var 2) (Ex.lit Val.none)) [(Sm.ret (Ex.var 1))] []),(Sm.ret (Ex.call (Ex.lit (Val.bi 7170414)) [(Ex.var 1),(Ex.var 2)]))]
noncomputable def fn_Least_plus : Fn := ⟨148,3,[],9,bd_Least_plus⟩
noncomputable def bd_Least_times : List Sm := [(Sm.ite (Ex.bop true [(Ex.cmp COp.is (Ex.var 1) (Ex.lit Val.none)),(Ex.cmp COp.is (Ex.var 2) (Ex.lit Val.none))]) [(Sm.ret (Ex.lit Val.none))] []),(Sm.ret (Ex.bin BOp.add (Ex.var 1) (Ex.var 2)))]
noncomputable def fn_Least_times : Fn := ⟨149,3,[],9,bd_Least_times⟩
noncomputable def bd_Least_show : List Sm := [(Sm.ret (Ex.ite (Ex.cmp COp.is (Ex.var 1) (Ex.lit Val.none)) (Ex.lit (Val.str [110,111,110,101])) (Ex.call (Ex.lit (Val.top 192)) [(Ex.var 1)])))]
noncomputable def fn_Least_show : Fn := ⟨207,2,[],8,bd_Least_show⟩
noncomputable def bd_Least_read : List Sm := [(Sm.ite (Ex.cmp COp.eq (Ex.var 1) (Ex.lit (Val.str [110,111,110,101]))) [(Sm.ret (Ex.lit Val.none))] []),(Sm.ret (Ex.call (Ex.lit (Val.top 237)) [(Ex.var 1)]))]
noncomputable def fn_Least_read : Fn := ⟨241,2,[],8,bd_Least_read⟩
noncomputable def bd_Count_need : List Sm := [(Sm.ite (Ex.bop true [(Ex.cmp COp.isnot (Ex.call (Ex.lit (Val.ty 1954115685)) [(Ex.var 1)]) (Ex.lit (Val.ty 6909556))),(Ex.cmp COp.lt (Ex.var 1) (Ex.lit (Val.int 0))),(Ex.cmp COp.ge (Ex.var 1) (Ex.lit (Val.int (10 ^ 4000))))]) [(Sm.rse (Ex.bin BOp.add (Ex.lit (Val.str [110,111,32,119,101,105,103,104,116,32,111,102,32])) (Ex.attr (Ex.var 0) 1851878757)))] []),(Sm.ret (Ex.var 1))]
noncomputable def fn_Count_need : Fn := ⟨152,2,[],8,bd_Count_need⟩
noncomputable def bd_Count_plus : List Sm := [(Sm.ret (Ex.bin BOp.add (Ex.var 1) (Ex.var 2)))]
noncomputable def fn_Count_plus : Fn := ⟨153,3,[],9,bd_Count_plus⟩
noncomputable def bd_Count_times : List Sm := [(Sm.ret (Ex.bin BOp.mul (Ex.var 1) (Ex.var 2)))]
noncomputable def fn_Count_times : Fn := ⟨154,3,[],9,bd_Count_times⟩
noncomputable def bd_Count_show : List Sm := [(Sm.ret (Ex.call (Ex.lit (Val.top 192)) [(Ex.var 1)]))]
noncomputable def fn_Count_show : Fn := ⟨210,2,[],8,bd_Count_show⟩
noncomputable def bd_Count_read : List Sm := [(Sm.ret (Ex.call (Ex.lit (Val.top 237)) [(Ex.var 1)]))]
noncomputable def fn_Count_read : Fn := ⟨242,2,[],8,bd_Count_read⟩
noncomputable def bd_rings__gcd : List Sm := [(Sm.wh (Ex.cmp COp.gt (Ex.var 1) (Ex.lit (Val.int 0))) [(Sm.asgs [(T1.nm 0),(T1.nm 1)] (Ex.tup [(Ex.var 1),(Ex.bin BOp.mod (Ex.var 0) (Ex.var 1))]))]),(Sm.ret (Ex.var 0))]
noncomputable def fn_rings__gcd : Fn := ⟨109,2,[],8,bd_rings__gcd⟩
noncomputable def bd_Chance_need : List Sm := [(Sm.ite (Ex.bop true [(Ex.cmp COp.isnot (Ex.call (Ex.lit (Val.ty 1954115685)) [(Ex.var 1)]) (Ex.lit (Val.ty 500186508389))),(Ex.cmp COp.ne (Ex.call (Ex.lit (Val.bi 7103854)) [(Ex.var 1)]) (Ex.lit (Val.int 2))),(Ex.cmp COp.isnot (Ex.call (Ex.lit (Val.ty 1954115685)) [(Ex.sub (Ex.var 1) (Ex.lit (Val.int 0)))]) (Ex.lit (Val.ty 6909556))),(Ex.cmp COp.isnot (Ex.call (Ex.lit (Val.ty 1954115685)) [(Ex.sub (Ex.var 1) (Ex.lit (Val.int 1)))]) (Ex.lit (Val.ty 6909556)))]) [(Sm.rse (Ex.bin BOp.add (Ex.lit (Val.str [110,111,32,119,101,105,103,104,116,32,111,102,32])) (Ex.attr (Ex.var 0) 1851878757)))] []),(Sm.ite (Ex.bop true [(Ex.cmp COp.lt (Ex.sub (Ex.var 1) (Ex.lit (Val.int 0))) (Ex.lit (Val.int 0))),(Ex.cmp COp.lt (Ex.sub (Ex.var 1) (Ex.lit (Val.int 1))) (Ex.lit (Val.int 1))),(Ex.cmp COp.ge (Ex.sub (Ex.var 1) (Ex.lit (Val.int 0))) (Ex.lit (Val.int (10 ^ 4000)))),(Ex.cmp COp.ge (Ex.sub (Ex.var 1) (Ex.lit (Val.int 1))) (Ex.lit (Val.int (10 ^ 4000)))),(Ex.cmp COp.ne (Ex.call (Ex.lit (Val.top 109)) [(Ex.sub (Ex.var 1) (Ex.lit (Val.int 1))),(Ex.sub (Ex.var 1) (Ex.lit (Val.int 0)))]) (Ex.lit (Val.int 1)))]) [(Sm.rse (Ex.bin BOp.add (Ex.lit (Val.str [110,111,32,119,101,105,103,104,116,32,111,102,32])) (Ex.attr (Ex.var 0) 1851878757)))] []),(Sm.ret (Ex.var 1))]
noncomputable def fn_Chance_need : Fn := ⟨157,2,[],8,bd_Chance_need⟩
noncomputable def bd_Chance_plus : List Sm := [(Sm.ret (Ex.call (Ex.lit (Val.top 110)) [(Ex.bin BOp.add (Ex.bin BOp.mul (Ex.sub (Ex.var 1) (Ex.lit (Val.int 0))) (Ex.sub (Ex.var 2) (Ex.lit (Val.int 1)))) (Ex.bin BOp.mul (Ex.sub (Ex.var 2) (Ex.lit (Val.int 0))) (Ex.sub (Ex.var 1) (Ex.lit (Val.int 1))))),(Ex.bin BOp.mul (Ex.sub (Ex.var 1) (Ex.lit (Val.int 1))) (Ex.sub (Ex.var 2) (Ex.lit (Val.int 1))))]))]
noncomputable def fn_Chance_plus : Fn := ⟨158,3,[],9,bd_Chance_plus⟩
noncomputable def bd_Chance_times : List Sm := [(Sm.ret (Ex.call (Ex.lit (Val.top 110)) [(Ex.bin BOp.mul (Ex.sub (Ex.var 1) (Ex.lit (Val.int 0))) (Ex.sub (Ex.var 2) (Ex.lit (Val.int 0)))),(Ex.bin BOp.mul (Ex.sub (Ex.var 1) (Ex.lit (Val.int 1))) (Ex.sub (Ex.var 2) (Ex.lit (Val.int 1))))]))]
noncomputable def fn_Chance_times : Fn := ⟨159,3,[],9,bd_Chance_times⟩
noncomputable def bd_Chance_show : List Sm := [(Sm.ret (Ex.bin BOp.add (Ex.bin BOp.add (Ex.call (Ex.lit (Val.top 192)) [(Ex.sub (Ex.var 1) (Ex.lit (Val.int 0)))]) (Ex.lit (Val.str [47]))) (Ex.call (Ex.lit (Val.top 192)) [(Ex.sub (Ex.var 1) (Ex.lit (Val.int 1)))])))]
noncomputable def fn_Chance_show : Fn := ⟨213,2,[],8,bd_Chance_show⟩
noncomputable def bd_Chance_read : List Sm := [(Sm.asgs [(T1.nm 2),(T1.nm 3),(T1.nm 4)] (Ex.meth (Ex.var 1) 2073057139020767260526 [(Ex.lit (Val.str [47]))])),(Sm.ite (Ex.bop true [(Ex.cmp COp.eq (Ex.var 3) (Ex.lit (Val.str []))),(Ex.cmp COp.eq (Ex.call (Ex.lit (Val.top 237)) [(Ex.var 4)]) (Ex.lit (Val.int 0)))]) [(Sm.rse (Ex.bin BOp.add (Ex.lit (Val.str [110,111,32,102,114,97,99,116,105,111,110,58,32])) (Ex.slice (Ex.var 1) 2 [(Ex.lit (Val.int 40))])))] []),(Sm.ret (Ex.meth (Ex.var 0) 1852138852 [(Ex.call (Ex.lit (Val.top 110)) [(Ex.call (Ex.lit (Val.top 237)) [(Ex.var 2)]),(Ex.call (Ex.lit (Val.top 237)) [(Ex.var 4)])])]))]
noncomputable def fn_Chance_read : Fn := ⟨243,2,[],11,bd_Chance_read⟩
noncomputable def bd_Likely_need : List Sm := [(Sm.expr (Ex.meth (Ex.lit (Val.top 111)) 1852138852 [(Ex.var 0),(Ex.var 1)])),(Sm.ite (Ex.cmp COp.gt (Ex.sub (Ex.var 1) (Ex.lit (Val.int 0))) (Ex.sub (Ex.var 1) (Ex.lit (Val.int 1)))) [(Sm.rse (Ex.bin BOp.add (Ex.lit (Val.str [110,111,32,119,101,105,103,104,116,32,111,102,32])) (Ex.attr (Ex.var 0) 1851878757)))] []),(Sm.ret (Ex.var 1))]
noncomputable def fn_Likely_need : Fn := ⟨161,2,[],8,bd_Likely_need⟩
noncomputable def bd_Likely_plus : List Sm := [(Sm.ite (Ex.cmp COp.lt (Ex.bin BOp.mul (Ex.sub (Ex.var 1) (Ex.lit (Val.int 0))) (Ex.sub (Ex.var 2) (Ex.lit (Val.int 1)))) (Ex.bin BOp.mul (Ex.sub (Ex.var 2) (Ex.lit (Val.int 0))) (Ex.sub (Ex.var 1) (Ex.lit (Val.int 1))))) [(Sm.ret (Ex.var 2))] []),(Sm.ret (Ex.var 1))]
noncomputable def fn_Likely_plus : Fn := ⟨162,3,[],9,bd_Likely_plus⟩
noncomputable def bd_rings_fraction : List Sm := [(Sm.asg (T1.nm 2) (Ex.call (Ex.lit (Val.top 109)) [(Ex.var 1),(Ex.var 0)])),(Sm.ret (Ex.tup [(Ex.bin BOp.fdiv (Ex.var 0) (Ex.var 2)),(Ex.bin BOp.fdiv (Ex.var 1) (Ex.var 2))]))]
noncomputable def fn_rings_fraction : Fn := ⟨110,2,[],9,bd_rings_fraction⟩
noncomputable def bd_rings_ring : List Sm := [(Sm.fo [1] false (Ex.lit (Val.fl [(Val.top 112),(Val.top 113),(Val.top 114),(Val.top 115),(Val.top 116)])) [(Sm.ite (Ex.cmp COp.eq (Ex.attr (Ex.var 1) 1851878757) (Ex.var 0)) [(Sm.ret (Ex.var 1))] [])]),Sm.raise]
noncomputable def fn_rings_ring : Fn := ⟨105,1,[],8,bd_rings_ring⟩
noncomputable def bd_Rule_init : List Sm := [(Sm.ite (Ex.bop true [(Ex.cmp COp.eq (Ex.call (Ex.lit (Val.bi 7103854)) [(Ex.var 1)]) (Ex.lit (Val.int 0))),(Ex.cmp COp.gt (Ex.call (Ex.lit (Val.bi 7103854)) [(Ex.comp (Ex.var 8) [8] false (Ex.var 1) [(Ex.cmp COp.ne (Ex.call (Ex.lit (Val.bi 7103854)) [(Ex.var 8)]) (Ex.lit (Val.int 2)))])]) (Ex.lit (Val.int 0)))]) [(Sm.rse (Ex.lit (Val.str [97,32,114,117,108,101,32,119,105,116,104,111,117,116,32,112,97,105,114,115])))] []),(Sm.fo [5,6] true (Ex.var 1) [(Sm.expr (Ex.call (Ex.lit (Val.top 134)) [(Ex.var 5)])),(Sm.expr (Ex.call (Ex.lit (Val.top 134)) [(Ex.var 6)])),(Sm.ite (Ex.cmp COp.eq (Ex.var 5) (Ex.lit (Val.str []))) [(Sm.rse (Ex.lit (Val.str [97,32,114,117,108,101,32,116,104,97,116,32,114,101,119,114,105,116,101,115,32,110,111,116,104,105,110,103])))] [])]),(Sm.fo [7] false (Ex.call (Ex.lit (Val.ty 491260897125)) [(Ex.call (Ex.lit (Val.bi 7103854)) [(Ex.var 2)])]) [(Sm.expr (Ex.call (Ex.lit (Val.top 218)) [(Ex.sub (Ex.var 2) (Ex.var 7)),(Ex.cmp COp.eq (Ex.var 7) (Ex.lit (Val.int 0)))]))]),(Sm.fo [7] false (Ex.call (Ex.lit (Val.ty 491260897125)) [(Ex.call (Ex.lit (Val.bi 7103854)) [(Ex.var 3)])]) [(Sm.expr (Ex.call (Ex.lit (Val.top 218)) [(Ex.sub (Ex.var 3) (Ex.var 7)),(Ex.cmp COp.eq (Ex.var 7) (Ex.bin BOp.sub (Ex.call (Ex.lit (Val.bi 7103854)) [(Ex.var 3)]) (Ex.lit (Val.int 1))))]))]),(Sm.asg (T1.at (Ex.var 0) 1919907699) (Ex.comp (Ex.tup [(Ex.var 8),(Ex.var 9)]) [8,9] true (Ex.var 1) [])),(Sm.asg (T1.at (Ex.var 0) 1818584692) (Ex.call (Ex.lit (Val.ty 1818850164)) [(Ex.var 2)])),(Sm.asg (T1.at (Ex.var 0) 491394656372) (Ex.call (Ex.lit (Val.ty 1818850164)) [(Ex.var 3)])),(Sm.asg (T1.at (Ex.var 0) 1668248436) (Ex.var 4))]
noncomputable def fn_Rule_init : Fn := ⟨236,5,[(Val.tup []),(Val.tup []),(Val.str [109,117,115,116])],14,bd_Rule_init⟩
noncomputable def bd_Rule_need_cost : List Sm := [(Sm.ite (Ex.cmp COp.ne (Ex.attr (Ex.var 0) 1668248436) (Ex.lit (Val.str [109,117,115,116]))) [(Sm.expr (Ex.meth (Ex.var 1) 1852138852 [(Ex.attr (Ex.var 0) 1668248436)]))] [])]
noncomputable def fn_Rule_need_cost : Fn := ⟨235,2,[],8,bd_Rule_need_cost⟩
noncomputable def bd_Rule_line : List Sm := [(Sm.asg (T1.nm 2) (Ex.meth (Ex.lit (Val.str [32])) 1785686382 [(Ex.comp (Ex.bin BOp.add (Ex.bin BOp.add (Ex.var 3) (Ex.lit (Val.str [62]))) (Ex.var 4)) [3,4] true (Ex.attr (Ex.var 0) 1919907699) [])])),(Sm.ite (Ex.cmp COp.ne (Ex.attr (Ex.var 0) 1668248436) (Ex.lit (Val.str [109,117,115,116]))) [(Sm.ite (Ex.cmp COp.is (Ex.var 1) (Ex.lit Val.none)) [(Sm.rse (Ex.lit (Val.str [97,32,99,111,115,116,32,119,105,116,104,111,117,116,32,97,32,115,101,109,105,114,105,110,103])))] []),(Sm.expr (Ex.meth (Ex.var 0) 2036448204439382094708 [(Ex.var 1)])),(Sm.asg (T1.nm 2) (Ex.bin BOp.add (Ex.bin BOp.add (Ex.bin BOp.add (Ex.lit (Val.str [63])) (Ex.meth (Ex.var 1) 1936224119 [(Ex.attr (Ex.var 0) 1668248436)])) (Ex.lit (Val.str [32]))) (Ex.var 2)))] []),(Sm.ite (Ex.cmp COp.eq (Ex.bin BOp.add (Ex.call (Ex.lit (Val.bi 7103854)) [(Ex.attr (Ex.var 0) 1818584692)]) (Ex.call (Ex.lit (Val.bi 7103854)) [(Ex.attr (Ex.var 0) 491394656372)])) (Ex.lit (Val.int 0))) [(Sm.ret (Ex.var 2))] []),(Sm.ret (Ex.bin BOp.add (Ex.bin BOp.add (Ex.var 2) (Ex.lit (Val.str [32,47,32]))) (Ex.meth (Ex.meth (Ex.lit (Val.str [32])) 1785686382 [(Ex.list [(Ex.call (Ex.lit (Val.top 244)) [(Ex.attr (Ex.var 0) 1818584692)]),(Ex.lit (Val.str [95])),(Ex.call (Ex.lit (Val.top 244)) [(Ex.attr (Ex.var 0) 491394656372)])])]) 495874894192 [(Ex.lit (Val.str [32]))])))]
noncomputable def fn_Rule_line : Fn := ⟨245,2,[Val.none],9,bd_Rule_line⟩
noncomputable def bd_rules__need_set : List Sm := [(Sm.ite (Ex.bop false [(Ex.cmp COp.eq (Ex.var 0) (Ex.lit (Val.str [35]))),(Ex.var 1)]) [(Sm.ret (Ex.lit Val.none))] []),(Sm.expr (Ex.call (Ex.lit (Val.top 219)) [(Ex.var 0)])),(Sm.ite (Ex.cmp COp.eq (Ex.var 0) (Ex.lit (Val.str []))) [(Sm.rse (Ex.lit (Val.str [97,32,99,111,110,116,101,120,116,32,111,102,32,110,111,32,108,101,116,116,101,114,115])))] [])]
noncomputable def fn_rules__need_set : Fn := ⟨218,2,[],8,bd_rules__need_set⟩
noncomputable def bd_rules__show_sets : List Sm := [(Sm.ret (Ex.meth (Ex.lit (Val.str [])) 1785686382 [(Ex.comp (Ex.ite (Ex.cmp COp.eq (Ex.call (Ex.lit (Val.bi 7103854)) [(Ex.var 1)]) (Ex.lit (Val.int 1))) (Ex.var 1) (Ex.bin BOp.add (Ex.bin BOp.add (Ex.lit (Val.str [91])) (Ex.var 1)) (Ex.lit (Val.str [93])))) [1] false (Ex.var 0) [])]))]
noncomputable def fn_rules__show_sets : Fn := ⟨244,1,[],7,bd_rules__show_sets⟩
noncomputable def bd_rules_read_sets : List Sm := [(Sm.asg (T1.nm 1) (Ex.list [])),(Sm.asg (T1.nm 2) (Ex.lit (Val.int 0))),(Sm.wh (Ex.cmp COp.lt (Ex.var 2) (Ex.call (Ex.lit (Val.bi 7103854)) [(Ex.var 0)])) [(Sm.ite (Ex.cmp COp.eq (Ex.sub (Ex.var 0) (Ex.var 2)) (Ex.lit (Val.str [91]))) [(Sm.asg (T1.nm 3) (Ex.meth (Ex.var 0) 1718185572 [(Ex.lit (Val.str [93])),(Ex.var 2)])),(Sm.ite (Ex.cmp COp.lt (Ex.var 3) (Ex.lit (Val.int 0))) [(Sm.rse (Ex.bin BOp.add (Ex.lit (Val.str [97,110,32,111,112,101,110,32,98,114,97,99,107,101,116,58,32])) (Ex.call (Ex.lit (Val.top 102)) [(Ex.var 0)])))] []),(Sm.expr (Ex.meth (Ex.var 1) 107135549927012 [(Ex.slice (Ex.var 0) 3 [(Ex.bin BOp.add (Ex.var 2) (Ex.lit (Val.int 1))),(Ex.var 3)])])),(Sm.asg (T1.nm 2) (Ex.bin BOp.add (Ex.var 3) (Ex.lit (Val.int 1))))] [(Sm.expr (Ex.meth (Ex.var 1) 107135549927012 [(Ex.sub (Ex.var 0) (Ex.var 2))])),(Sm.asg (T1.nm 2) (Ex.bin BOp.add (Ex.var 2) (Ex.lit (Val.int 1))))])]),(Sm.ret (Ex.var 1))]
noncomputable def fn_rules_read_sets : Fn := ⟨238,1,[],10,bd_rules_read_sets⟩
noncomputable def bd_rules_read_rule : List Sm := [(Sm.asg (T1.nm 2) (Ex.lit (Val.str [109,117,115,116]))),(Sm.asg (T1.nm 0) (Ex.meth (Ex.var 0) 495874894192 [])),(Sm.ite (Ex.meth (Ex.var 0) 545218989645367805047912 [(Ex.lit (Val.str [63]))]) [(Sm.ite (Ex.cmp COp.is (Ex.var 1) (Ex.lit Val.none)) [(Sm.rse (Ex.lit (Val.str [97,32,99,111,115,116,32,119,105,116,104,111,117,116,32,97,32,115,101,109,105,114,105,110,103])))] []),(Sm.asgs [(T1.nm 3),(T1.nm 4),(T1.nm 0)] (Ex.meth (Ex.var 0) 2073057139020767260526 [(Ex.lit (Val.str [32]))])),(Sm.asg (T1.nm 2) (Ex.meth (Ex.var 1) 1852138852 [(Ex.meth (Ex.var 1) 1919246692 [(Ex.slice (Ex.var 3) 1 [(Ex.lit (Val.int 1))])])]))] []),(Sm.asgs [(T1.nm 5),(T1.nm 6),(T1.nm 7)] (Ex.meth (Ex.var 0) 2073057139020767260526 [(Ex.lit (Val.str [47]))])),(Sm.asg (T1.nm 8) (Ex.list [])),(Sm.fo [3] false (Ex.meth (Ex.var 5) 495807392116 []) [(Sm.asgs [(T1.nm 9),(T1.nm 10),(T1.nm 11)] (Ex.meth (Ex.var 3) 2073057139020767260526 [(Ex.lit (Val.str [62]))])),(Sm.ite (Ex.cmp COp.eq (Ex.var 10) (Ex.lit (Val.str []))) [(Sm.rse (Ex.bin BOp.add (Ex.lit (Val.str [110,111,32,112,97,105,114,58,32])) (Ex.call (Ex.lit (Val.top 102)) [(Ex.var 3)])))] []),(Sm.expr (Ex.meth (Ex.var 8) 107135549927012 [(Ex.tup [(Ex.var 9),(Ex.var 11)])]))]),(Sm.asg (T1.nm 12) (Ex.lit (Val.str []))),(Sm.asg (T1.nm 13) (Ex.lit (Val.str []))),(Sm.ite (Ex.cmp COp.ne (Ex.var 6) (Ex.lit (Val.str []))) [(Sm.asgs [(T1.nm 12),(T1.nm 14),(T1.nm 13)] (Ex.meth (Ex.var 7) 2073057139020767260526 [(Ex.lit (Val.str [95]))])),(Sm.ite (Ex.cmp COp.eq (Ex.var 14) (Ex.lit (Val.str []))) [(Sm.rse (Ex.bin BOp.add (Ex.lit (Val.str [110,111,32,112,108,97,99,101,32,105,110,32,97,32,99,111,110,116,101,120,116,58,32])) (Ex.call (Ex.lit (Val.top 102)) [(Ex.var 7)])))] []),(Sm.asg (T1.nm 12) (Ex.meth (Ex.var 12) 495874894192 [(Ex.lit (Val.str [32]))])),(Sm.asg (T1.nm 13) (Ex.meth (Ex.var 13) 495874894192 [(Ex.lit (Val.str [32]))]))] []),(Sm.ret (Ex.call (Ex.lit (Val.top 229)) [(Ex.var 8),(Ex.call (Ex.lit (Val.top 238)) [(Ex.var 12)]),(Ex.call (Ex.lit (Val.top 238)) [(Ex.var 13)]),(Ex.var 2)]))]
noncomputable def fn_rules_read_rule : Fn := ⟨239,2,[Val.none],21,bd_rules_read_rule⟩
noncomputable def bd_rules__left_stands : List Sm := [(Sm.asg (T1.nm 2) (Ex.attr (Ex.var 0) 1818584692)),(Sm.ite (Ex.bop false [(Ex.cmp COp.gt (Ex.call (Ex.lit (Val.bi 7103854)) [(Ex.var 2)]) (Ex.lit (Val.int 0))),(Ex.cmp COp.eq (Ex.sub (Ex.var 2) (Ex.lit (Val.int 0))) (Ex.lit (Val.str [35])))]) [(Sm.asg (T1.nm 2) (Ex.slice (Ex.var 2) 1 [(Ex.lit (Val.int 1))])),(Sm.ite (Ex.cmp COp.ne (Ex.call (Ex.lit (Val.bi 7103854)) [(Ex.var 1)]) (Ex.call (Ex.lit (Val.bi 7103854)) [(Ex.var 2)])) [(Sm.ret (Ex.lit (Val.bool false)))] [])] []),(Sm.ite (Ex.cmp COp.lt (Ex.call (Ex.lit (Val.bi 7103854)) [(Ex.var 1)]) (Ex.call (Ex.lit (Val.bi 7103854)) [(Ex.var 2)])) [(Sm.ret (Ex.lit (Val.bool false)))] []),(Sm.fo [3] false (Ex.call (Ex.lit (Val.ty 491260897125)) [(Ex.call (Ex.lit (Val.bi 7103854)) [(Ex.var 2)])]) [(Sm.ite (Ex.cmp COp.notin (Ex.sub (Ex.var 1) (Ex.bin BOp.add (Ex.bin BOp.sub (Ex.call (Ex.lit (Val.bi 7103854)) [(Ex.var 1)]) (Ex.call (Ex.lit (Val.bi 7103854)) [(Ex.var 2)])) (Ex.var 3))) (Ex.sub (Ex.var 2) (Ex.var 3))) [(Sm.ret (Ex.lit (Val.bool false)))] [])]),(Sm.ret (Ex.lit (Val.bool true)))]
noncomputable def fn_rules__left_stands : Fn := ⟨222,2,[],10,bd_rules__left_stands⟩
noncomputable def bd_rules__right_stands : List Sm := [(Sm.fo [2] false (Ex.call (Ex.lit (Val.ty 491260897125)) [(Ex.call (Ex.lit (Val.bi 7103854)) [(Ex.attr (Ex.var 0) 491394656372)])]) [(Sm.ite (Ex.cmp COp.eq (Ex.sub (Ex.attr (Ex.var 0) 491394656372) (Ex.var 2)) (Ex.lit (Val.str [35]))) [(Sm.ite (Ex.cmp COp.ne (Ex.call (Ex.lit (Val.bi 7103854)) [(Ex.var 1)]) (Ex.var 2)) [(Sm.ret (Ex.lit (Val.bool false)))] [])] [(Sm.ite (Ex.bop true [(Ex.cmp COp.ge (Ex.var 2) (Ex.call (Ex.lit (Val.bi 7103854)) [(Ex.var 1)])),(Ex.cmp COp.notin (Ex.sub (Ex.var 1) (Ex.var 2)) (Ex.sub (Ex.attr (Ex.var 0) 491394656372) (Ex.var 2)))]) [(Sm.ret (Ex.lit (Val.bool false)))] [])])]),(Sm.ret (Ex.lit (Val.bool true)))]
noncomputable def fn_rules__right_stands : Fn := ⟨223,2,[],9,bd_rules__right_stands⟩
noncomputable def bd_rules__need_short : List Sm := [(Sm.expr (Ex.call (Ex.lit (Val.top 134)) [(Ex.var 0)])),(Sm.ite (Ex.cmp COp.gt (Ex.call (Ex.lit (Val.bi 7103854)) [(Ex.var 0)]) (Ex.lit (Val.int 200))) [(Sm.rse (Ex.lit (Val.str [97,32,119,111,114,100,32,116,111,111,32,108,111,110,103])))] [])]
noncomputable def fn_rules__need_short : Fn := ⟨221,1,[],7,bd_rules__need_short⟩
noncomputable def bd_rules_by_hand : List Sm := [(Sm.expr (Ex.call (Ex.lit (Val.top 221)) [(Ex.var 1)])),(Sm.expr (Ex.meth (Ex.var 0) 2036448204439382094708 [(Ex.var 2)])),(Sm.asg (T1.nm 3) (Ex.dict [])),(Sm.expr (Ex.call (Ex.lit (Val.top 220)) [(Ex.var 0),(Ex.var 1),(Ex.var 2),(Ex.lit (Val.str [])),(Ex.attr (Ex.var 2) 7302757),(Ex.var 3),(Ex.list [(Ex.lit (Val.int 20000))])])),(Sm.ret (Ex.var 3))]
noncomputable def fn_rules_by_hand : Fn := ⟨224,3,[],10,bd_rules_by_hand⟩
noncomputable def bd_rules__rewrite : List Sm := [(Sm.asg (T1.sb (Ex.var 6) (Ex.lit (Val.int 0))) (Ex.bin BOp.sub (Ex.sub (Ex.var 6) (Ex.lit (Val.int 0))) (Ex.lit (Val.int 1)))),(Sm.ite (Ex.cmp COp.lt (Ex.sub (Ex.var 6) (Ex.lit (Val.int 0))) (Ex.lit (Val.int 0))) [(Sm.rse (Ex.lit (Val.str [116,111,111,32,109,97,110,121,32,119,97,121,115,32,116,111,32,114,101,119,114,105,116,101,32,97,32,119,111,114,100])))] []),(Sm.wh (Ex.cmp COp.ne (Ex.var 1) (Ex.lit (Val.str []))) [(Sm.asg (T1.nm 7) (Ex.lit Val.none)),(Sm.fo [8,9] true (Ex.attr (Ex.var 0) 1919907699) [(Sm.ite (Ex.bop false [(Ex.meth (Ex.var 1) 545218989645367805047912 [(Ex.var 8)]),(Ex.call (Ex.lit (Val.top 222)) [(Ex.var 0),(Ex.var 3)]),(Ex.call (Ex.lit (Val.top 223)) [(Ex.var 0),(Ex.slice (Ex.var 1) 1 [(Ex.call (Ex.lit (Val.bi 7103854)) [(Ex.var 8)])])])]) [(Sm.asg (T1.nm 7) (Ex.tup [(Ex.var 8),(Ex.var 9)])),Sm.brk] [])]),(Sm.ite (Ex.cmp COp.isnot (Ex.var 7) (Ex.lit Val.none)) [(Sm.ite (Ex.cmp COp.ne (Ex.attr (Ex.var 0) 1668248436) (Ex.lit (Val.str [109,117,115,116]))) [(Sm.expr (Ex.call (Ex.lit (Val.top 220)) [(Ex.var 0),(Ex.slice (Ex.var 1) 1 [(Ex.lit (Val.int 1))]),(Ex.var 2),(Ex.bin BOp.add (Ex.var 3) (Ex.sub (Ex.var 1) (Ex.lit (Val.int 0)))),(Ex.var 4),(Ex.var 5),(Ex.var 6)])),(Sm.asg (T1.nm 4) (Ex.meth (Ex.var 2) 499984983411 [(Ex.var 4),(Ex.attr (Ex.var 0) 1668248436)]))] []),(Sm.asg (T1.nm 3) (Ex.bin BOp.add (Ex.var 3) (Ex.sub (Ex.var 7) (Ex.lit (Val.int 1))))),(Sm.asg (T1.nm 1) (Ex.slice (Ex.var 1) 1 [(Ex.call (Ex.lit (Val.bi 7103854)) [(Ex.sub (Ex.var 7) (Ex.lit (Val.int 0)))])]))] [(Sm.asg (T1.nm 3) (Ex.bin BOp.add (Ex.var 3) (Ex.sub (Ex.var 1) (Ex.lit (Val.int 0))))),(Sm.asg (T1.nm 1) (Ex.slice (Ex.var 1) 1 [(Ex.lit (Val.int 1))]))])]),(Sm.asg (T1.nm 10) (Ex.meth (Ex.var 2) 1852138852 [(Ex.meth (Ex.var 2) 1886156147 [(Ex.meth (Ex.var 5) 6776180 [(Ex.var 3),(Ex.attr (Ex.var 2) 121424990136436)]),(Ex.var 4)])])),(Sm.ite (Ex.cmp COp.ne (Ex.var 10) (Ex.attr (Ex.var 2) 121424990136436)) [(Sm.asg (T1.sb (Ex.var 5) (Ex.var 3)) (Ex.var 10))] [])]
noncomputable def fn_rules__rewrite : Fn := ⟨220,7,[],17,bd_rules__rewrite⟩
noncomputable def bd_law__law_cell : List Sm := [(Sm.ite (Ex.cmp COp.lt (Ex.var 1) (Ex.call (Ex.lit (Val.bi 7103854)) [(Ex.var 0)])) [(Sm.ret (Ex.sub (Ex.var 0) (Ex.var 1)))] []),(Sm.ret (Ex.lit (Val.int 0)))]
noncomputable def fn_law__law_cell : Fn := ⟨137,2,[],8,bd_law__law_cell⟩
noncomputable def bd_law__law_rule : List Sm := [(Sm.asg (T1.nm 3) (Ex.list [(Ex.lit (Val.str [97])),(Ex.lit (Val.str [98])),(Ex.lit (Val.str [97,98])),(Ex.lit (Val.str [98,97])),(Ex.lit (Val.str [97,97])),(Ex.lit (Val.str [99]))])),(Sm.asg (T1.nm 4) (Ex.list [(Ex.lit (Val.str [98])),(Ex.lit (Val.str [99])),(Ex.lit (Val.str [])),(Ex.lit (Val.str [99,99])),(Ex.lit (Val.str [97])),(Ex.lit (Val.str [97,98]))])),(Sm.asg (T1.nm 5) (Ex.list [(Ex.list []),(Ex.list [(Ex.lit (Val.str [97]))]),(Ex.list [(Ex.lit (Val.str [98]))]),(Ex.list [(Ex.lit (Val.str [97,98]))]),(Ex.list [(Ex.lit (Val.str [35]))]),(Ex.list [(Ex.lit (Val.str [35])),(Ex.lit (Val.str [97]))]),(Ex.list [(Ex.lit (Val.str [99])),(Ex.lit (Val.str [97,98]))])])),(Sm.asg (T1.nm 6) (Ex.list [(Ex.list []),(Ex.list [(Ex.lit (Val.str [97]))]),(Ex.list [(Ex.lit (Val.str [98])),(Ex.lit (Val.str [97,98]))]),(Ex.list [(Ex.lit (Val.str [35]))]),(Ex.list [(Ex.lit (Val.str [98])),(Ex.lit (Val.str [35]))]),(Ex.list [(Ex.lit (Val.str [97,99]))])])),(Sm.asg (T1.nm 7) (Ex.list [])),(Sm.fo [8] false (Ex.call (Ex.lit (Val.ty 491260897125)) [(Ex.bin BOp.add (Ex.lit (Val.int 1)) (Ex.bin BOp.mod (Ex.call (Ex.lit (Val.top 137)) [(Ex.var 0),(Ex.var 1)]) (Ex.lit (Val.int 2))))]) [(Sm.expr (Ex.meth (Ex.var 7) 107135549927012 [(Ex.tup [(Ex.sub (Ex.var 3) (Ex.bin BOp.mod (Ex.call (Ex.lit (Val.top 137)) [(Ex.var 0),(Ex.bin BOp.add (Ex.bin BOp.add (Ex.var 1) (Ex.lit (Val.int 1))) (Ex.var 8))]) (Ex.lit (Val.int 6)))),(Ex.sub (Ex.var 4) (Ex.bin BOp.mod (Ex.call (Ex.lit (Val.top 137)) [(Ex.var 0),(Ex.bin BOp.add (Ex.bin BOp.add (Ex.var 1) (Ex.lit (Val.int 3))) (Ex.var 8))]) (Ex.lit (Val.int 6))))])]))]),(Sm.ret (Ex.call (Ex.lit (Val.top 229)) [(Ex.var 7),(Ex.sub (Ex.var 5) (Ex.bin BOp.mod (Ex.call (Ex.lit (Val.top 137)) [(Ex.var 0),(Ex.bin BOp.add (Ex.var 1) (Ex.lit (Val.int 5)))]) (Ex.lit (Val.int 7)))),(Ex.sub (Ex.var 6) (Ex.bin BOp.mod (Ex.call (Ex.lit (Val.top 137)) [(Ex.var 0),(Ex.bin BOp.add (Ex.var 1) (Ex.lit (Val.int 6)))]) (Ex.lit (Val.int 6)))),(Ex.var 2)]))]
noncomputable def fn_law__law_rule : Fn := ⟨230,3,[],15,bd_law__law_rule⟩
noncomputable def bd_law__law_word : List Sm := [(Sm.ret (Ex.meth (Ex.lit (Val.str [])) 1785686382 [(Ex.comp (Ex.sub (Ex.lit (Val.str [97,98,99])) (Ex.bin BOp.mod (Ex.call (Ex.lit (Val.top 137)) [(Ex.var 0),(Ex.bin BOp.add (Ex.bin BOp.add (Ex.var 1) (Ex.lit (Val.int 1))) (Ex.var 2))]) (Ex.lit (Val.int 3)))) [2] false (Ex.call (Ex.lit (Val.ty 491260897125)) [(Ex.bin BOp.mod (Ex.call (Ex.lit (Val.top 137)) [(Ex.var 0),(Ex.var 1)]) (Ex.lit (Val.int 7)))]) [])]))]
noncomputable def fn_law__law_word : Fn := ⟨231,2,[],8,bd_law__law_word⟩
noncomputable def bd_law_law : List Sm := [(Sm.asg (T1.nm 1) (Ex.call (Ex.lit (Val.top 105)) [(Ex.lit (Val.str [108,101,97,115,116]))])),(Sm.asg (T1.nm 2) (Ex.call (Ex.lit (Val.top 230)) [(Ex.var 0),(Ex.lit (Val.int 0)),(Ex.sub (Ex.list [(Ex.lit (Val.str [109,117,115,116])),(Ex.lit (Val.int 4)),(Ex.lit Val.none)]) (Ex.bin BOp.mod (Ex.call (Ex.lit (Val.top 137)) [(Ex.var 0),(Ex.lit (Val.int 20))]) (Ex.lit (Val.int 3))))])),(Sm.asg (T1.nm 3) (Ex.call (Ex.lit (Val.top 231)) [(Ex.var 0),(Ex.lit (Val.int 7))])),(Sm.asg (T1.nm 4) (Ex.meth (Ex.var 2) 1818848869 [(Ex.var 1)])),(Sm.asg (T1.nm 5) (Ex.call (Ex.lit (Val.top 239)) [(Ex.var 4),(Ex.var 1)])),(Sm.ite (Ex.cmp COp.ne (Ex.meth (Ex.var 5) 1818848869 [(Ex.var 1)]) (Ex.var 4)) [(Sm.ret (Ex.lit (Val.bool false)))] []),(Sm.ite (Ex.cmp COp.ne (Ex.call (Ex.lit (Val.top 224)) [(Ex.var 5),(Ex.var 3),(Ex.var 1)]) (Ex.call (Ex.lit (Val.top 224)) [(Ex.var 2),(Ex.var 3),(Ex.var 1)])) [(Sm.ret (Ex.lit (Val.bool false)))] []),(Sm.ite (Ex.cmp COp.ne (Ex.tup [(Ex.attr (Ex.var 5) 1919907699),(Ex.attr (Ex.var 5) 1818584692),(Ex.attr (Ex.var 5) 491394656372),(Ex.attr (Ex.var 5) 1668248436)]) (Ex.tup [(Ex.attr (Ex.var 2) 1919907699),(Ex.attr (Ex.var 2) 1818584692),(Ex.attr (Ex.var 2) 491394656372),(Ex.attr (Ex.var 2) 1668248436)])) [(Sm.ret (Ex.lit (Val.bool false)))] []),(Sm.asg (T1.nm 6) (Ex.sub (Ex.lit (Val.str [120,121,122])) (Ex.bin BOp.mod (Ex.call (Ex.lit (Val.top 137)) [(Ex.var 0),(Ex.lit (Val.int 22))]) (Ex.lit (Val.int 3))))),(Sm.ite (Ex.cmp COp.ne (Ex.call (Ex.lit (Val.top 238)) [(Ex.bin BOp.add (Ex.var 6) (Ex.lit (Val.str [91,98,99,93,35])))]) (Ex.list [(Ex.var 6),(Ex.lit (Val.str [98,99])),(Ex.lit (Val.str [35]))])) [(Sm.ret (Ex.lit (Val.bool false)))] []),(Sm.asg (T1.nm 7) (Ex.bin BOp.mod (Ex.call (Ex.lit (Val.top 137)) [(Ex.var 0),(Ex.lit (Val.int 21))]) (Ex.lit (Val.int 8)))),(Sm.asg (T1.nm 8) (Ex.sub (Ex.list [(Ex.lit (Val.str [97,62,98])),(Ex.lit (Val.str [97,62,32,47,32,95,32,35])),(Ex.lit (Val.str [63,51,32,97,62,98,32,98,62,99,32,47,32,35,91,97,98,93,32,95])),(Ex.lit (Val.str [62,98])),(Ex.lit (Val.str [97])),(Ex.lit (Val.str [97,62,98,32,47,32,97])),(Ex.lit (Val.str [97,62,98,32,47,32,91,97,98,32,95])),(Ex.lit (Val.str [97,62,98,32,47,32,97,35,32,95]))]) (Ex.var 7))),(Sm.asg (T1.nm 9) (Ex.lit (Val.str []))),(Sm.asg (T1.nm 10) (Ex.lit (Val.str []))),(Sm.tr 10 (Ex.meth (Ex.call (Ex.lit (Val.top 239)) [(Ex.var 8),(Ex.var 1)]) 1818848869 [(Ex.var 1)]) 9 (Val.str [86,97,108,117,101,69,114,114,111,114])),(Sm.ite (Ex.cmp COp.ne (Ex.cmp COp.eq (Ex.var 9) (Ex.lit (Val.str [86,97,108,117,101,69,114,114,111,114]))) (Ex.cmp COp.gt (Ex.var 7) (Ex.lit (Val.int 2)))) [(Sm.ret (Ex.lit (Val.bool false)))] []),(Sm.ret (Ex.cmp COp.eq (Ex.var 10) (Ex.sub (Ex.list [(Ex.var 8),(Ex.lit (Val.str []))]) (Ex.cmp COp.gt (Ex.var 7) (Ex.lit (Val.int 2))))))]
noncomputable def fn_law_law : Fn := ⟨178,1,[],17,bd_law_law⟩
noncomputable def P0 : Prg := ⟨[fn_errors_is_letter,fn_errors_need_letter,fn_errors_need_word,fn_errors_need_letters,fn_errors_shown,fn_errors_figures,fn_errors_weight_of,fn_Yes_need,fn_Yes_plus,fn_Yes_times,fn_Yes_show,fn_Yes_read,fn_Least_need,fn_Least_plus,fn_Least_times,fn_Least_show,fn_Least_read,fn_Count_need,fn_Count_plus,fn_Count_times,fn_Count_show,fn_Count_read,fn_rings__gcd,fn_Chance_need,fn_Chance_plus,fn_Chance_times,fn_Chance_show,fn_Chance_read,fn_Likely_need,fn_Likely_plus,fn_rings_fraction,fn_rings_ring,fn_Rule_init,fn_Rule_need_cost,fn_Rule_line,fn_rules__need_set,fn_rules__show_sets,fn_rules_read_sets,fn_rules_read_rule,fn_rules__left_stands,fn_rules__right_stands,fn_rules__need_short,fn_rules_by_hand,fn_rules__rewrite,fn_law__law_cell,fn_law__law_rule,fn_law__law_word,fn_law_law],
 [⟨146,[(1851878757,(Val.str [121,101,115])),(121424990136436,(Val.int 0)),(7302757,(Val.int 1)),(1852138852,(Val.top 142)),(1886156147,(Val.top 143)),(499984983411,(Val.top 144)),(1936224119,(Val.top 204)),(1919246692,(Val.top 240))],Option.none,[]⟩,
  ⟨151,[(1851878757,(Val.str [108,101,97,115,116])),(121424990136436,Val.none),(7302757,(Val.int 0)),(1852138852,(Val.top 147)),(1886156147,(Val.top 148)),(499984983411,(Val.top 149)),(1936224119,(Val.top 207)),(1919246692,(Val.top 241))],Option.none,[]⟩,
  ⟨156,[(1851878757,(Val.str [99,111,117,110,116])),(121424990136436,(Val.int 0)),(7302757,(Val.int 1)),(1852138852,(Val.top 152)),(1886156147,(Val.top 153)),(499984983411,(Val.top 154)),(1936224119,(Val.top 210)),(1919246692,(Val.top 242))],Option.none,[]⟩,
  ⟨111,[(1851878757,(Val.str [99,104,97,110,99,101])),(121424990136436,(Val.tup [(Val.int 0),(Val.int 1)])),(7302757,(Val.tup [(Val.int 1),(Val.int 1)])),(1852138852,(Val.top 157)),(1886156147,(Val.top 158)),(499984983411,(Val.top 159)),(1936224119,(Val.top 213)),(1919246692,(Val.top 243))],Option.none,[]⟩,
  ⟨164,[(1851878757,(Val.str [108,105,107,101,108,121])),(1852138852,(Val.top 161)),(1886156147,(Val.top 162)),(121424990136436,(Val.tup [(Val.int 0),(Val.int 1)])),(7302757,(Val.tup [(Val.int 1),(Val.int 1)])),(499984983411,(Val.top 159)),(1936224119,(Val.top 213)),(1919246692,(Val.top 243))],Option.none,[]⟩,
  ⟨229,[(2036448204439382094708,(Val.top 235)),(1818848869,(Val.top 245))],(some 236),[1919907699,1818584692,491394656372,1668248436]⟩],
 [(112,146),(113,151),(114,156),(115,111),(116,164)]⟩
noncomputable def ad0 : List (Nat × Addr) := [(100,31),(101,41),(102,69),(103,48),(105,465),(109,321),(110,447),(111,396),(112,449),(113,451),(114,453),(115,455),(116,457),(134,55),(137,569),(142,97),(143,104),(144,111),(145,118),(146,156),(147,174),(148,181),(149,188),(150,195),(151,233),(152,251),(153,258),(154,265),(155,272),(156,310),(157,337),(158,344),(159,351),(160,358),(161,414),(162,421),(163,428),(164,438),(178,588),(192,76),(202,125),(203,132),(204,146),(205,202),(206,209),(207,223),(208,279),(209,286),(210,300),(211,365),(212,372),(213,386),(218,507),(219,62),(220,562),(221,548),(222,534),(223,541),(224,555),(229,496),(230,576),(231,581),(235,487),(236,480),(237,83),(238,519),(239,527),(240,153),(241,230),(242,307),(243,393),(244,512),(245,493)]
noncomputable def nm0 : List PySem.Str := [PySem.Str.mk (Array.mk [99,111,115,116]),PySem.Str.mk (Array.mk [108,101,102,116]),PySem.Str.mk (Array.mk [108,105,110,101]),PySem.Str.mk (Array.mk [110,97,109,101]),PySem.Str.mk (Array.mk [110,101,101,100]),PySem.Str.mk (Array.mk [110,101,101,100,95,99,111,115,116]),PySem.Str.mk (Array.mk [110,111,117,103,104,116]),PySem.Str.mk (Array.mk [111,110,101]),PySem.Str.mk (Array.mk [112,108,117,115]),PySem.Str.mk (Array.mk [114,101,97,100]),PySem.Str.mk (Array.mk [114,105,103,104,116]),PySem.Str.mk (Array.mk [114,111,119,115]),PySem.Str.mk (Array.mk [115,104,111,119]),PySem.Str.mk (Array.mk [116,105,109,101,115])]
noncomputable def cfg (w : World) (so : Obj) : Cfg := { prog := pw,w := w,K := (size0,so) :: KK w.params,P := P0,ad := ad0 }
section
variable (w : World) (so : Obj)
theorem t_cmp : P0.fns.map (cmpl (cfg w so) gl0) = P0.fns.map fun f => some (f.np,f.ns,f.body) := by kernel_rfl
theorem t_fn : P0.fns.all (Mi.fnB (cfg w so)) = true := by kernel_rfl
theorem t_gl : gl0.all (glB (cfg w so)) = true := by kernel_rfl
theorem t_in : P0.insts.all (instB (cfg w so)) = true := by kernel_rfl
theorem t_cl : P0.cls.all (clB (cfg w so) nm0) = true := by kernel_rfl
theorem t_cf : zdi (cfg w so) := cfg_of (by kernel_rfl) (by kernel_rfl) (by kernel_rfl)
noncomputable def fd_Rule_init : FuncData := fnOf n137 n140 (fnB 29 0).1 (fnB 29 0).2.1 (fnB 29 0).2.2 (.ref 475) Value.none Value.none (Value.str n117 775) Option.none (.ref 479) Value.none
theorem b_Rule_init2 (S : Setting) (v0 : Value) (v1 : Value) : peek (cfg w so).K S (bindArgs fd_Rule_init ⟨[v0,v1],[]⟩) = some ((fd_Rule_init.params.args.map (·.arg)).zip [v0,v1,(.ref 473),(.ref 474),(Value.str n123 779)]) := by kernel_rfl
theorem b_Rule_init3 (S : Setting) (v0 : Value) (v1 : Value) (v2 : Value) : peek (cfg w so).K S (bindArgs fd_Rule_init ⟨[v0,v1,v2],[]⟩) = some ((fd_Rule_init.params.args.map (·.arg)).zip [v0,v1,v2,(.ref 474),(Value.str n123 779)]) := by kernel_rfl
theorem b_Rule_init4 (S : Setting) (v0 : Value) (v1 : Value) (v2 : Value) (v3 : Value) : peek (cfg w so).K S (bindArgs fd_Rule_init ⟨[v0,v1,v2,v3],[]⟩) = some ((fd_Rule_init.params.args.map (·.arg)).zip [v0,v1,v2,v3,(Value.str n123 779)]) := by kernel_rfl
theorem b_Rule_init5 (S : Setting) (v0 : Value) (v1 : Value) (v2 : Value) (v3 : Value) (v4 : Value) : peek (cfg w so).K S (bindArgs fd_Rule_init ⟨[v0,v1,v2,v3,v4],[]⟩) = some ((fd_Rule_init.params.args.map (·.arg)).zip [v0,v1,v2,v3,v4]) := by kernel_rfl
theorem p_Rule_init (S : Setting) : ∀ (vs : List Value),vs.length <= 5 -> 5 - vs.length <= 3 -> peek (cfg w so).K S (bindArgs fd_Rule_init ⟨vs,[]⟩) = some ((fd_Rule_init.params.args.map (·.arg)).zip (vs ++ List.drop (3 - (5 - vs.length)) [(.ref 473),(.ref 474),(Value.str n123 779)])) := fun vs h1 h2 => match vs,h1,h2 with
 | [],_,h2 => absurd h2 (show ¬ 5 - 0 <= 3 by decide)
 | [_],_,h2 => absurd h2 (show ¬ 5 - 1 <= 3 by decide)
 | [v0,v1],_,_ => b_Rule_init2 w so S v0 v1
 | [v0,v1,v2],_,_ => b_Rule_init3 w so S v0 v1 v2
 | [v0,v1,v2,v3],_,_ => b_Rule_init4 w so S v0 v1 v2 v3
 | [v0,v1,v2,v3,v4],_,_ => b_Rule_init5 w so S v0 v1 v2 v3 v4
 | _ :: _ :: _ :: _ :: _ :: _ :: r,h1,_ => absurd h1 (show ¬ r.length + 6 <= 5 by omega)
theorem d_Rule_init : DflOk (cfg w so) fn_Rule_init := fun h p e => by
 rw [show fdAt (cfg w so) fn_Rule_init = some ⟨480,o300 w.params,fd_Rule_init⟩ from by kernel_rfl] at e
 cases e
 exact .inr ⟨h,[(.ref 473),(.ref 474),(Value.str n123 779)],fun w' => zcz (zcJ 5) w' _ _ (by kernel_rfl),fun S vs h1 h2 => p_Rule_init w so S vs h1 h2⟩
noncomputable def fd_Rule_line : FuncData := fnOf n139 n142 (fnB 29 2).1 (fnB 29 2).2.1 (fnB 29 2).2.2 (.ref 488) Value.none Value.none (Value.str n117 775) Option.none (.ref 492) Value.none
theorem b_Rule_line1 (S : Setting) (v0 : Value) : peek (cfg w so).K S (bindArgs fd_Rule_line ⟨[v0],[]⟩) = some ((fd_Rule_line.params.args.map (·.arg)).zip [v0,Value.none]) := by kernel_rfl
theorem b_Rule_line2 (S : Setting) (v0 : Value) (v1 : Value) : peek (cfg w so).K S (bindArgs fd_Rule_line ⟨[v0,v1],[]⟩) = some ((fd_Rule_line.params.args.map (·.arg)).zip [v0,v1]) := by kernel_rfl
theorem p_Rule_line (S : Setting) : ∀ (vs : List Value),vs.length <= 2 -> 2 - vs.length <= 1 -> peek (cfg w so).K S (bindArgs fd_Rule_line ⟨vs,[]⟩) = some ((fd_Rule_line.params.args.map (·.arg)).zip (vs ++ List.drop (1 - (2 - vs.length)) [Value.none])) := fun vs h1 h2 => match vs,h1,h2 with
 | [],_,h2 => absurd h2 (show ¬ 2 - 0 <= 1 by decide)
 | [v0],_,_ => b_Rule_line1 w so S v0
 | [v0,v1],_,_ => b_Rule_line2 w so S v0 v1
 | _ :: _ :: _ :: r,h1,_ => absurd h1 (show ¬ r.length + 3 <= 2 by omega)
theorem d_Rule_line : DflOk (cfg w so) fn_Rule_line := fun h p e => by
 rw [show fdAt (cfg w so) fn_Rule_line = some ⟨493,o308 w.params,fd_Rule_line⟩ from by kernel_rfl] at e
 cases e
 exact .inr ⟨h,[Value.none],fun w' => zcz (zcJ 5) w' _ _ (by kernel_rfl),fun S vs h1 h2 => p_Rule_line w so S vs h1 h2⟩
noncomputable def fd_rules_read_rule : FuncData := fnOf n131 n131 (fnA 33).1 (fnA 33).2.1 (fnA 33).2.2 (.ref 520) Value.none Value.none (Value.str n117 775) Option.none (.ref 526) Value.none
theorem zbL (S : Setting) (v0 : Value) : peek (cfg w so).K S (bindArgs fd_rules_read_rule ⟨[v0],[]⟩) = some ((fd_rules_read_rule.params.args.map (·.arg)).zip [v0,Value.none]) := by kernel_rfl
theorem zbK (S : Setting) (v0 : Value) (v1 : Value) : peek (cfg w so).K S (bindArgs fd_rules_read_rule ⟨[v0,v1],[]⟩) = some ((fd_rules_read_rule.params.args.map (·.arg)).zip [v0,v1]) := by kernel_rfl
theorem zbO (S : Setting) : ∀ (vs : List Value),vs.length <= 2 -> 2 - vs.length <= 1 -> peek (cfg w so).K S (bindArgs fd_rules_read_rule ⟨vs,[]⟩) = some ((fd_rules_read_rule.params.args.map (·.arg)).zip (vs ++ List.drop (1 - (2 - vs.length)) [Value.none])) := fun vs h1 h2 => match vs,h1,h2 with
 | [],_,h2 => absurd h2 (show ¬ 2 - 0 <= 1 by decide)
 | [v0],_,_ => zbL w so S v0
 | [v0,v1],_,_ => zbK w so S v0 v1
 | _ :: _ :: _ :: r,h1,_ => absurd h1 (show ¬ r.length + 3 <= 2 by omega)
theorem d_rules_read_rule : DflOk (cfg w so) fn_rules_read_rule := fun h p e => by
 rw [show fdAt (cfg w so) fn_rules_read_rule = some ⟨527,o330 w.params,fd_rules_read_rule⟩ from by kernel_rfl] at e
 cases e
 exact .inr ⟨h,[Value.none],fun w' => zcz (zcJ 5) w' _ _ (by kernel_rfl),fun S vs h1 h2 => zbO w so S vs h1 h2⟩
noncomputable def AllD : List Fn -> Prop
 | [] => True
 | f :: r => DflOk (cfg w so) f /\ AllD r
theorem AllD.at : ∀ {l : List Fn},AllD w so l -> ∀ f ∈ l,DflOk (cfg w so) f := by
 intro l
 induction l with
 | nil => exact fun _ _ h => absurd h List.not_mem_nil
 | cons f l ih => exact fun h g hg => (List.mem_cons.mp hg).elim (fun e => e ▸ h.1) fun hg => ih h.2 g hg
theorem t_df : ∀ f ∈ P0.fns,DflOk (cfg w so) f := AllD.at w so (show AllD w so P0.fns from ⟨(fun h => absurd rfl h),⟨(fun h => absurd rfl h),⟨(fun h => absurd rfl h),⟨(fun h => absurd rfl h),⟨(fun h => absurd rfl h),⟨(fun h => absurd rfl h),⟨(fun h => absurd rfl h),⟨(fun h => absurd rfl h),⟨(fun h => absurd rfl h),⟨(fun h => absurd rfl h),⟨(fun h => absurd rfl h),⟨(fun h => absurd rfl h),⟨(fun h => absurd rfl h),⟨(fun h => absurd rfl h),⟨(fun h => absurd rfl h),⟨(fun h => absurd rfl h),⟨(fun h => absurd rfl h),⟨(fun h => absurd rfl h),⟨(fun h => absurd rfl h),⟨(fun h => absurd rfl h),⟨(fun h => absurd rfl h),⟨(fun h => absurd rfl h),⟨(fun h => absurd rfl h),⟨(fun h => absurd rfl h),⟨(fun h => absurd rfl h),⟨(fun h => absurd rfl h),⟨(fun h => absurd rfl h),⟨(fun h => absurd rfl h),⟨(fun h => absurd rfl h),⟨(fun h => absurd rfl h),⟨(fun h => absurd rfl h),⟨(fun h => absurd rfl h),⟨d_Rule_init w so,⟨(fun h => absurd rfl h),⟨d_Rule_line w so,⟨(fun h => absurd rfl h),⟨(fun h => absurd rfl h),⟨(fun h => absurd rfl h),⟨d_rules_read_rule w so,⟨(fun h => absurd rfl h),⟨(fun h => absurd rfl h),⟨(fun h => absurd rfl h),⟨(fun h => absurd rfl h),⟨(fun h => absurd rfl h),⟨(fun h => absurd rfl h),⟨(fun h => absurd rfl h),⟨(fun h => absurd rfl h),⟨(fun h => absurd rfl h),trivial⟩⟩⟩⟩⟩⟩⟩⟩⟩⟩⟩⟩⟩⟩⟩⟩⟩⟩⟩⟩⟩⟩⟩⟩⟩⟩⟩⟩⟩⟩⟩⟩⟩⟩⟩⟩⟩⟩⟩⟩⟩⟩⟩⟩⟩⟩⟩⟩)
theorem tab : zaG (cfg w so) gl0 := tab_of (t_cmp w so) (t_fn w so) (t_df w so) (t_gl w so) (t_in w so) (t_cl w so) (t_cf w so) (srt0 _)
end
theorem xok (w : World) (so : Obj) : XOk (cfg w so) 31 := ⟨by kernel_rfl,by kernel_rfl,by kernel_rfl,by kernel_rfl⟩
noncomputable abbrev lawAt : Nat := 178
noncomputable abbrev lawAd : Addr := 588
theorem law_nm (w : World) : nsIn (KK w.params) mainGlobals (PySem.Str.mk (Array.mk [108,97,119])) = some (some (.ref 588)) := by kernel_rfl
end Hd
open Mi
local macro_rules | `(tactic| fail) => do
 let t <- `(tactic| with_reducible first | refine y (by with_unfolding_all exact rfl) ?_ | refine y ?_)
 let f (c : Lean.Syntax) (x : String) := c.rewriteBottomUp fun n => if n.getId.eraseMacroScopes == .mkSimple "y" then Lean.mkIdent (.mkSimple x) else n
 return t.raw.rewriteBottomUp fun n => if n.getNumArgs == 2 && n[0].isOfKind `group then n.setArgs (("we_dict we_var wi_at wv_type wc_isT wc_isF wc_isnT wc_isnF".splitOn " ").map (f n[0]) ++ ("we_lit we_sub we_attr we_call we_meth wes_cons wes_nil we_bin we_cmp we_not we_tup we_list we_and we_or we_bop1 we_ite we_slice wt_bool br_t br_f wb_add wb_sub wc_lt wc_le wc_gt wc_ge wv_range wv_lens wc_eqs wc_nes wc_eqi wc_nei wc_ins wc_nins br_not wv_max wv_min ws_expr zcF ws_asgAt ws_asgSb ws_asgs items_t wst_nm wst_nil ws_ret ws_ite ws_pass ws_brk ws_cont zam za0 beh_rt beh_ct beh_bk fin_rt fin_nx turn_nx turn_ct turn_rt turn_bk wss_nil wts_nil wts_cons beht_nx beht_rt rs_ite rs_rse rs_expr re_call zcv pas_nx".splitOn " ").map (f n[1])).toArray else n
namespace Hd
open Mi
noncomputable abbrev nPlus : Nat := 1886156147
noncomputable abbrev nTimes : Nat := 499984983411
noncomputable abbrev nNeed : Nat := 1852138852
end Hd
namespace Hd
open Mi
section
variable {d : Nat} {h h0 : MH} {Q : Val -> MH -> Prop}
noncomputable def marks : List Nat := [32,9,10,58,47,95,91,93,62,35,59,63,61]
noncomputable def lett (c : Nat) : Bool := !marks.contains c && !PySem.Txt.isspace ⟨#[c]⟩
theorem let_ok {c : Nat} (hd : 1 <= d) (hc : lett c = true) (q : Q (.bool true) h) : WF P0 d 101 [.str [c]] h Q := by
 have hc := Bool.and_eq_true_iff.mp hc
 refine zaO (K:=0) hd (some (.str [c]) :: nn 6) rfl rfl rfl fun d' h' => ?_
 unfold bd_errors_is_letter
 repeat fail
 refine zan (s:=true) rfl ?_
 repeat fail
 refine br (fun hm => ?_) (fun hm => ?_)
 ·exact nomatch hc.1.symm.trans (congrArg (!·) hm)
 repeat fail
 refine W.of (a:=.bool (PySem.Txt.isspace ⟨#[c]⟩)) (g:=h) rfl ?_
 repeat fail
 rw [hc.2]
 exact q
theorem nlet_ok {c : Nat} (hd : 2 <= d) (hc : lett c = true) (q : Q (.str [c]) h) : WF P0 d 103 [.str [c]] h Q := by
 refine zaO (K:=1) hd (some (.str [c]) :: nn 6) rfl rfl rfl fun d' h' => ?_
 unfold bd_errors_need_letter
 repeat fail
 refine zai rfl (let_ok h' hc ?_)
 repeat fail
 exact q
theorem zbo {s : List Nat} (hd : 3 <= d) (hs : ∀ c ∈ s,lett c = true) (hl : s.length < 1000) (q : Q (.str s) h) : WF P0 d 134 [.str s] h Q := by
 refine zaO (K:=2) hd (some (.str s) :: nn 7) rfl rfl rfl fun d' h' => ?_
 unfold bd_errors_need_word
 repeat fail
 refine ws_for ?_
 repeat fail
 refine ⟨.sq s,s.map fun c => .str [c],rfl,by rw [List.length_map]; exact Nat.lt_trans hl (by show 1000 < 200000; decide),fun _ fr hh => hh = h /\ ∃ o,fr = some (.str s) :: o :: nn 6,⟨rfl,none,rfl⟩,fun i fr hh _ => ?_,?_,?_⟩
 ·rw [List.getElem?_map]; rfl
 ·rintro i x hx fr hh ⟨rfl,o,rfl⟩
  rw [List.getElem?_map] at hx
  obtain ⟨c,hc,rfl⟩ := ms hx
  refine zde ?_
  repeat fail
  refine zai rfl (nlet_ok h' (hs c (List.mem_of_getElem? hc)) ?_)
  repeat fail
  exact ⟨rfl,_,rfl⟩
 ·rintro fr hh ⟨rfl,o,rfl⟩
  repeat fail
  exact q
end
end Hd
namespace Hd
open Mi
noncomputable def cell (ns : List Int) (k : Nat) : Int := ns[k]?.getD 0
theorem za4 {d : Nat} (hd : 1 <= d) {ns : List Int} {k : Nat} {i : Int} (hi : i = k) {h : MH} {Q : Val -> MH -> Prop} (q : Q (.int (cell ns k)) h) : WF P0 d 137 [.fl (ns.map .int),.int i] h Q := by
 subst hi
 refine zaO (K:=0) hd (some (.fl (ns.map .int)) :: some (.int k) :: nn 6) rfl rfl rfl fun d' h' => ?_
 unfold bd_law__law_cell
 repeat fail
 refine wv_len (n:=ns.length) (by show some _ = _; rw [List.length_map]) ?_
 repeat fail
 refine br (fun hk => ?_) (fun hk => ?_)
 ·have hk' : k < ns.length := Int.ofNat_lt.mp (of_decide_eq_true hk)
  have e : cell ns k = ns[k] := by unfold cell; rw [List.getElem?_eq_getElem hk']; rfl
  repeat fail
  refine wi_fl (v:=.int (cell ns k)) ?_ ?_
  ·rw [List.getElem?_map,List.getElem?_eq_getElem hk',e]; rfl
  ·repeat fail
   exact q
 ·have e : cell ns k = 0 := by
   unfold cell
   rw [List.getElem?_eq_none (by have := of_decide_eq_false hk; omega)]; rfl
  rw [e] at q
  repeat fail
  exact q
theorem res_of (x : Int) {m : Nat} (hm : 0 < m) : ∃ n : Nat,n < m /\ Int.fmod x m = n := by
 have g1 := Int.fmod_nonneg_of_pos x (b:=m) (by omega)
 have g2 := Int.fmod_lt_of_pos x (b:=m) (by omega)
 exact ⟨(Int.fmod x m).toNat,by omega,by omega⟩
end Hd
namespace Hd
open Mi
noncomputable abbrev k_rows : Nat := 1919907699
noncomputable abbrev k_left : Nat := 1818584692
noncomputable abbrev k_right : Nat := 491394656372
noncomputable abbrev k_cost : Nat := 1668248436
noncomputable abbrev sVs (l : List (List Nat)) : List Val := l.map Val.str
noncomputable def lOk (l : List (List Nat)) (w : List Nat) (k : Nat) : Bool := Option.casesOn (motive:=fun _ => Bool) l[k]? false fun s => Option.casesOn (motive:=fun _ => Bool) w[w.length - l.length + k]? false fun c => s.contains c
noncomputable def endIn (l : List (List Nat)) (w : List Nat) : Bool := Nat.ble l.length w.length && (List.range l.length).all (lOk l w)
noncomputable def lSt (l : List (List Nat)) (w : List Nat) : Bool := bif l.head? == some [35] then w.length == l.tail.length && endIn l.tail w else endIn l w
noncomputable def rOk (r : List (List Nat)) (w : List Nat) (k : Nat) : Bool := Option.casesOn (motive:=fun _ => Bool) r[k]? false fun s => bif s == [35] then w.length == k else Option.casesOn (motive:=fun _ => Bool) w[k]? false fun c => s.contains c
noncomputable def rSt (r : List (List Nat)) (w : List Nat) : Bool := (List.range r.length).all (rOk r w)
theorem all_t {n : Nat} {p : Nat -> Bool} (h : ∀ i,i < n -> p i = true) : (List.range n).all p = true := List.all_eq_true.mpr fun i hi => h i (List.mem_range.mp hi)
theorem all_f {n i : Nat} {p : Nat -> Bool} (hi : i < n) (h : p i = false) : (List.range n).all p = false := by
 rw [Bool.eq_false_iff]
 intro e
 have := List.all_eq_true.mp e i (List.mem_range.mpr hi)
 rw [h] at this
 exact Bool.false_ne_true this
structure Ru (h : MH) (r : Nat) (ps : List (List Nat × List Nat)) (L R : List (List Nat)) (c : Val) (aR aL aT : Nat) : Prop where
 obj : h[r]? = some (.inst 229 [(k_rows,.ref aR),(k_left,.ref aL),(k_right,.ref aT),(k_cost,c)])
 rows : h[aR]? = some (.list (ps.map fun p => Val.tup [.str p.1,.str p.2]))
 left : h[aL]? = some (.list (sVs L))
 right : h[aT]? = some (.list (sVs R))
section
variable {d : Nat} {h h0 : MH} {Q : Val -> MH -> Prop} {r : Nat} {ps : List (List Nat × List Nat)} {L R : List (List Nat)} {c : Val} {aR aL aT : Nat}
theorem Ru.app {t : MH} (U : Ru h r ps L R c aR aL aT) : Ru (h ++ t) r ps L R c aR aL aT := ⟨zaa U.obj,zaa U.rows,zaa U.left,zaa U.right⟩
theorem bound_ok {n a : Nat} : zbq n (.int a) = some (min a n) := by
 show grd (decide ((0 : Int) <= (a : Int))) (some (min (a : Int).toNat n)) = _
 rw [decide_eq_true (show (0 : Int) <= (a : Int) by omega),Int.toNat_natCast]; rfl
theorem cut_from {α : Type} {l : List α} {a : Nat} : cut l (min a l.length) l.length = l.drop a := by
 unfold cut
 rw [List.take_length]
 by_cases h : a <= l.length
 ·rw [Nat.min_eq_left h]
 ·rw [Nat.min_eq_right (by omega),List.drop_length,List.drop_eq_nil_of_le (by omega)]
theorem zcE {s : List Nat} {a : Nat} (q : Q (.str (s.drop a)) h) : WSl (.str s) 1 [.int a] h Q := by
 show W (alt (((zbq s.length (.int a)).map fun x => (x,s.length)).bind fun p => some (Val.str (cut s p.1 p.2),h)) _) Q
 rw [bound_ok]
 show W (some (Val.str (cut s (min a s.length) s.length),h)) Q
 rw [cut_from]; exact ⟨q⟩
theorem wsl_l1 {a b : Nat} {vs : List Val} (ha : h[b]? = some (.list vs)) (q : Q (.ref h.length) (h ++ [.list (vs.drop a)])) : WSl (.ref b) 1 [.int a] h Q := by
 show W ((zas h (.ref b)).bind fun s => ((zbq s.length (.int a)).map fun x => (x,s.length)).bind fun p => zbd h (.list (cut s p.1 p.2))) Q
 rw [zaW ha]
 show W (((zbq vs.length (.int a)).map fun x => (x,vs.length)).bind fun p => zbd h (.list (cut vs p.1 p.2))) Q
 rw [bound_ok]
 show W (zbd h (.list (cut vs (min a vs.length) vs.length))) Q
 rw [cut_from]; exact ⟨q⟩
theorem zco {l : List (List Nat)} {a : Nat} {w : List Nat} {o : Option Val} {x : Val} {fr f0 : Mi.Frame} (ef : f0 = some x :: some (.str w) :: some (.ref a) :: o :: fr) (hl : h[a]? = some (.list (sVs l))) (hs : l.length < 1000) (q : Q (.bool (endIn l w)) h) :
  WS (Cxd P0 d) (Sm.ite (Ex.cmp COp.lt (Ex.call (Ex.lit (Val.bi 7103854)) [(Ex.var 1)]) (Ex.call (Ex.lit (Val.bi 7103854)) [(Ex.var 2)])) [(Sm.ret (Ex.lit (Val.bool false)))] []) f0 h (Beh (Cxd P0 d) [(Sm.fo [3] false (Ex.call (Ex.lit (Val.ty 491260897125)) [(Ex.call (Ex.lit (Val.bi 7103854)) [(Ex.var 2)])]) [(Sm.ite (Ex.cmp COp.notin (Ex.sub (Ex.var 1) (Ex.bin BOp.add (Ex.bin BOp.sub (Ex.call (Ex.lit (Val.bi 7103854)) [(Ex.var 1)]) (Ex.call (Ex.lit (Val.bi 7103854)) [(Ex.var 2)])) (Ex.var 3))) (Ex.sub (Ex.var 2) (Ex.var 3))) [(Sm.ret (Ex.lit (Val.bool false)))] [])]),(Sm.ret (Ex.lit (Val.bool true)))] (Fin Q)) := by
 subst ef
 unfold endIn at q
 repeat fail
 refine zaB hl ?_
 rw [List.length_map]
 repeat fail
 refine br (fun hb => ?_) (fun hb => ?_)
 ·rw [show Nat.ble l.length w.length = false from by rw [Bool.eq_false_iff]; exact fun e => absurd (Nat.ble_eq.mp e) (by have := of_decide_eq_true hb; omega)] at q
  repeat fail
  exact q
 have hn : l.length <= w.length := by have := of_decide_eq_false hb; omega
 rw [Nat.ble_eq.mpr hn,Bool.true_and] at q
 repeat fail
 refine zcf (n:=l.length) (Nat.lt_trans hs (by show 1000 < 200000; decide)) (Nat.le_trans (Nat.le_of_lt hs) (by decide)) (fun i f g => g = h /\ (∃ o,f = some x :: some (.str w) :: some (.ref a) :: o :: fr) /\ ∀ j,j < i -> lOk l w j = true) ?_ ?_ ?_
 ·repeat fail
  refine zaB hl ?_
  rw [List.length_map]
  repeat fail
  exact ⟨rfl,rfl,⟨_,rfl⟩,fun j hj => absurd hj (Nat.not_lt_zero _)⟩
 ·rintro i hi f g ⟨rfl,⟨o,rfl⟩,hj⟩
  have hx : w.length - l.length + i < w.length := by omega
  have ew := List.getElem?_eq_getElem hx
  have es := List.getElem?_eq_getElem hi
  have ek : lOk l w i = l[i].contains w[w.length - l.length + i] := by unfold lOk; rw [es,ew]
  repeat fail
  refine zaB hl ?_
  rw [List.length_map]
  repeat fail
  rw [show ((w.length : Int) - (l.length : Int) + (i : Int)) = ((w.length - l.length + i : Nat) : Int) by omega]
  refine zbW ew ?_
  repeat fail
  refine zaw hl (i:=i) (v:=.str l[i]) (by rw [List.getElem?_map,es]; rfl) ?_
  repeat fail
  refine br (fun hb => ?_) (fun hb => ?_)
  ·repeat fail
   exact ⟨rfl,⟨_,rfl⟩,fun j hj' => by
    rcases Nat.lt_succ_iff_lt_or_eq.mp hj' with h | rfl
    ·exact hj j h
    ·rw [ek]; exact hb⟩
  ·repeat fail
   rw [all_f hi (by rw [ek]; exact hb)] at q
   exact q
 ·rintro f g ⟨rfl,⟨o,rfl⟩,hj⟩
  rw [all_t hj] at q
  repeat fail
  exact q
theorem left_ok {w : List Nat} (hd : 1 <= d) (U : Ru h r ps L R c aR aL aT) (hs : L.length < 1000) (q : ∀ t,Q (.bool (lSt L w)) (h ++ t)) : WF P0 d 222 [.ref r,.str w] h Q := by
 refine zaO (K:=0) hd (some (.ref r) :: some (.str w) :: nn 8) rfl rfl rfl fun d' h' => ?_
 unfold bd_rules__left_stands
 unfold lSt at q
 have q0 := q []
 rw [List.append_nil] at q0
 repeat fail
 refine zap U.obj rfl rfl ?_
 repeat fail
 refine zaB U.left ?_
 rw [List.length_map]
 repeat fail
 obtain _ | ⟨s,l⟩ := L
 ·refine zan (s:=false) rfl ?_
  repeat fail
  refine zan (s:=false) rfl ?_
  repeat first | (with_reducible refine zco (l:=[]) rfl U.left hs ?_) | fail
  exact q0
 refine zan (s:=true) (decide_eq_true (by rw [List.length_cons]; omega)) ?_
 repeat fail
 refine zaw U.left (i:=0) (v:=.str s) rfl ?_
 repeat fail
 rw [show ((s :: l).head? == some [35]) = (s == [35]) from rfl] at q0 q
 refine br (fun hb => ?_) (fun hb => ?_)
 ·rw [hb,cond_true] at q0 q
  have q1 : Q (.bool (w.length == l.length && endIn l w)) (h ++ [.list (sVs l)]) := q _
  repeat fail
  refine wsl_l1 (a:=1) U.left ?_
  repeat fail
  refine zaB zac ?_
  repeat fail
  rw [show ((sVs (s :: l)).drop 1).length = l.length from List.length_map ..]
  refine br (fun hc => ?_) (fun hc => ?_)
  ·rw [show (w.length == l.length) = true from by rw [beq_iff_eq] at hc ⊢; omega] at q1
   repeat first | (with_reducible refine zco rfl zac (Nat.lt_of_succ_lt hs) ?_) | fail
   exact q1
  ·rw [show (w.length == l.length) = false from by rw [beq_eq_false_iff_ne] at hc ⊢; omega] at q1
   repeat fail
   exact q1
 ·rw [hb,cond_false] at q0
  repeat first | (with_reducible refine zco rfl U.left hs ?_) | fail
  exact q0
end
end Hd
namespace Hd
open Mi
section
variable {d : Nat} {h h0 : MH} {Q : Val -> MH -> Prop} {r : Nat} {ps : List (List Nat × List Nat)} {L R : List (List Nat)} {c : Val} {aR aL aT : Nat}
theorem right_ok {w : List Nat} (hd : 1 <= d) (U : Ru h r ps L R c aR aL aT) (hs : R.length < 1000) (q : Q (.bool (rSt R w)) h) : WF P0 d 223 [.ref r,.str w] h Q := by
 refine zaO (K:=0) hd (some (.ref r) :: some (.str w) :: nn 7) rfl rfl rfl fun d' h' => ?_
 unfold bd_rules__right_stands
 unfold rSt at q
 repeat fail
 refine zcf (n:=R.length) (Nat.lt_trans hs (by show 1000 < 200000; decide)) (Nat.le_trans (Nat.le_of_lt hs) (by decide)) (fun i f g => g = h /\ (∃ o,f = some (.ref r) :: some (.str w) :: o :: nn 6) /\ ∀ j,j < i -> rOk R w j = true) ?_ ?_ ?_
 ·repeat fail
  refine zap U.obj rfl rfl ?_
  repeat fail
  refine zaB U.right ?_
  rw [List.length_map]
  repeat fail
  exact ⟨rfl,rfl,⟨_,rfl⟩,fun j hj => absurd hj (Nat.not_lt_zero _)⟩
 ·rintro i hi f g ⟨rfl,⟨o,rfl⟩,hj⟩
  have es := List.getElem?_eq_getElem hi
  have more : rOk R w i = true -> ∀ j,j < i + 1 -> rOk R w j = true := fun hk j hj' => by
   rcases Nat.lt_succ_iff_lt_or_eq.mp hj' with h | rfl
   ·exact hj j h
   ·exact hk
  repeat fail
  refine zap U.obj rfl rfl ?_
  repeat fail
  refine zaw U.right (i:=i) (v:=.str R[i]) (by rw [List.getElem?_map,es]; rfl) ?_
  repeat fail
  refine br (fun hb => ?_) (fun hb => ?_)
  ·have ek : rOk R w i = (w.length == i) := by unfold rOk; rw [es]; show (bif R[i] == [35] then _ else _) = _; rw [hb]; rfl
   repeat fail
   refine br (fun hc => ?_) (fun hc => ?_)
   ·repeat fail
    exact ⟨rfl,⟨_,rfl⟩,more (by rw [ek,beq_iff_eq]; have := beq_iff_eq.mp hc; omega)⟩
   ·repeat fail
    rw [all_f hi (by rw [ek,beq_eq_false_iff_ne]; have := beq_eq_false_iff_ne.mp hc; omega)] at q
    exact q
  ·have ek : rOk R w i = Option.casesOn (motive:=fun _ => Bool) w[i]? false fun c => R[i].contains c := by unfold rOk; rw [es]; show (bif R[i] == [35] then _ else _) = _; rw [hb]; rfl
   repeat fail
   refine br (fun hc => ?_) (fun hc => ?_)
   ·have hw : w.length <= i := Int.ofNat_le.mp (of_decide_eq_true hc)
    rw [List.getElem?_eq_none hw] at ek
    repeat fail
    refine zan (s:=true) hc ?_
    repeat fail
    rw [all_f hi ek] at q
    exact q
   ·have hw : i < w.length := by have := of_decide_eq_false hc; omega
    have ew := List.getElem?_eq_getElem hw
    rw [ew] at ek
    repeat fail
    refine zbW ew ?_
    repeat fail
    refine zap U.obj rfl rfl ?_
    repeat fail
    refine zaw U.right (i:=i) (v:=.str R[i]) (by rw [List.getElem?_map,es]; rfl) ?_
    repeat fail
    refine br (fun hb => ?_) (fun hb => ?_)
    ·repeat fail
     exact ⟨rfl,⟨_,rfl⟩,more (ek.trans hb)⟩
    ·repeat fail
     rw [all_f hi (ek.trans hb)] at q
     exact q
 ·rintro f g ⟨rfl,⟨o,rfl⟩,hj⟩
  rw [all_t hj] at q
  repeat fail
  exact q
end
end Hd
namespace Hd
open Mi
noncomputable def pr1 (L R : List (List Nat)) (w rest : List Nat) (p : List Nat × List Nat) : Bool := p.1.isPrefixOf rest && (lSt L w && rSt R (rest.drop p.1.length))
noncomputable abbrev must : Val := .str [109,117,115,116]
theorem find_at {ps : List (List Nat × List Nat)} {p : List Nat × List Nat -> Bool} {i : Nat} {x : List Nat × List Nat} (hx : ps[i]? = some x) (hp : p x = true) (hn : ∀ (j : Nat) (y : List Nat × List Nat),j < i -> ps[j]? = some y -> p y = false) : ps.find? p = some x := by
 obtain ⟨hi,rfl⟩ := List.getElem?_eq_some_iff.mp hx
 refine List.find?_eq_some_iff_getElem.mpr ⟨hp,i,hi,rfl,fun j hj => ?_⟩
 rw [hn j _ hj (List.getElem?_eq_getElem (Nat.lt_trans hj hi))]; rfl
theorem find_no {ps : List (List Nat × List Nat)} {p : List Nat × List Nat -> Bool} (hn : ∀ (j : Nat) (y : List Nat × List Nat),ps[j]? = some y -> p y = false) : ps.find? p = none := by
 refine List.find?_eq_none.mpr fun x hx e => ?_
 obtain ⟨j,hj,rfl⟩ := List.mem_iff_getElem.mp hx
 rw [hn j _ (List.getElem?_eq_getElem hj)] at e
 exact Bool.false_ne_true e
section
variable {d : Nat} {h h0 : MH} {Q : Val -> MH -> Prop} {r : Nat} {ps : List (List Nat × List Nat)} {L R : List (List Nat)} {c : Val} {aR aL aT : Nat}
theorem zch {cx : Cx} {s t : List Nat} (q : Q (.bool (t.isPrefixOf s)) h) : WM cx (.str s) nStartswith [.str t] h0 h Q := W.of (a:=.bool (t.isPrefixOf s)) (g:=h) rfl q
end
end Hd
namespace Hd
open Mi
section
variable {d : Nat} {h h0 : MH} {Q : Val -> MH -> Prop} {r : Nat} {ps : List (List Nat × List Nat)} {L R : List (List Nat)} {c : Val} {aR aL aT : Nat}
theorem rsh_ok {s : List Nat} (hd : 4 <= d) (hs : ∀ c ∈ s,lett c = true) (hl : s.length <= 200) (q : Q .none h) : WF P0 d 221 [.str s] h Q := by
 refine zaO (K:=3) hd (some (.str s) :: nn 6) rfl rfl rfl fun d' h' => ?_
 unfold bd_rules__need_short
 repeat fail
 refine zai rfl (zbo h' hs (by omega) ?_)
 repeat fail
 refine zan (decide_eq_false (by omega)) ?_
 repeat fail
 exact q
end
end Hd
namespace Hd
open Mi
section
variable {d : Nat} {h h0 : MH} {Q : Val -> MH -> Prop} {r : Nat} {ps : List (List Nat × List Nat)} {L R : List (List Nat)} {c : Val} {aR aL aT : Nat}
noncomputable def setB (s : List Nat) (e : Bool) : Bool := (s == [35] && e) || (s.all lett && ((dedupL s).length == s.length && (Nat.ble s.length 999 && !s.isEmpty)))
theorem nls_ok {s : List Nat} (hd : 4 <= d) (hs : ∀ c ∈ s,lett c = true) (hl : s.length < 1000) (hq : (dedupL s).length = s.length) (q : Q (.str s) h) : WF P0 d 219 [.str s] h Q := by
 refine zaO (K:=3) hd (some (.str s) :: nn 6) rfl rfl rfl fun d' h' => ?_
 unfold bd_errors_need_letters
 repeat fail
 refine zai rfl (zbo h' hs hl ?_)
 repeat fail
 refine wv_ty (v:=.setn s.length) (h' := h) ?_ ?_
 ·show grd (Nat.ble (s.length + 2) 4096) (some (Val.setn (dedupL s).length,h)) = _
  rw [Nat.ble_eq.mpr (by omega),hq]; rfl
 repeat fail
 refine wv_len (n:=s.length) rfl ?_
 repeat fail
 refine zan (s:=true) (beq_self_eq_true _) ?_
 repeat fail
 exact q
theorem nset_ok {s : List Nat} {e : Bool} (hd : 5 <= d) (hs : setB s e = true) (q : Q .none h) : WF P0 d 218 [.str s,.bool e] h Q := by
 refine zaO (K:=4) hd (some (.str s) :: some (.bool e) :: nn 6) rfl rfl rfl fun d' h' => ?_
 unfold bd_rules__need_set
 repeat fail
 rcases Bool.or_eq_true_iff.mp hs with hs | hs
 ·have hs := Bool.and_eq_true_iff.mp hs
  cases beq_iff_eq.mp hs.1
  cases hs.2
  refine zan (s:=true) rfl ?_
  repeat fail
  exact q
 ·have hs := Bool.and_eq_true_iff.mp hs
  have h1 := List.all_eq_true.mp hs.1
  have hs := Bool.and_eq_true_iff.mp hs.2
  have h2 := beq_iff_eq.mp hs.1
  have hs := Bool.and_eq_true_iff.mp hs.2
  have h3 := Nat.lt_succ_of_le (Nat.ble_eq.mp hs.1)
  have h4 : s ≠ [] := fun e => by rw [e] at hs; exact nomatch hs.2
  refine zan (s:=false) (beq_false_of_ne fun e => ?_) ?_
  ·subst e
   exact absurd (h1 35 (.head _)) (by decide +kernel)
  repeat fail
  refine zan (s:=false) (beq_false_of_ne fun e => ?_) ?_
  ·subst e
   exact absurd (h1 35 (.head _)) (by decide +kernel)
  repeat fail
  refine zai rfl (nls_ok h' h1 h3 h2 ?_)
  repeat fail
  refine zan (s:=false) (beq_false_of_ne h4) ?_
  repeat fail
  exact q
theorem zb4 {cx : Cx} {fr : Mi.Frame} {elt it : Ex} {tg : List Nat} {many : Bool} (f : Val -> Val)
  (q : WE cx fr it h fun v h1 => ∃ k,∃ vs : List Val,za5 h1 v = some k /\ vs.length < cx.fuel /\ vs.length <= lim /\ (∀ acc i,i <= vs.length -> zah (h1 ++ [.list acc]) i k = some vs[i]?) /\
   (∀ v,v ∈ vs -> ∀ acc,Wo (zbf fr tg many v) fun fr1 => WE cx fr1 elt (h1 ++ [.list acc]) fun y h3 => h3 = h1 ++ [.list acc] /\ y = f v) /\ Q (.ref h1.length) (h1 ++ [.list (vs.map f)])) : WE cx fr (.comp elt tg many it []) h Q := by
 refine we_comp (W.mono q fun v h1 q => ?_)
 obtain ⟨k,vs,e1,hf,hl,nx,st,q⟩ := q
 refine ⟨k,vs,e1,hf,fun i hh => i <= vs.length /\ hh = h1 ++ [.list ((vs.take i).map f)],⟨Nat.zero_le _,rfl⟩,?_,?_,?_⟩
 ·rintro i hh ⟨hi,rfl⟩; exact nx _ i hi
 ·rintro i v hv hh ⟨_,rfl⟩
  have hi := at_lt hv
  refine (st v (List.mem_of_getElem? hv) _).mono fun fr1 q => wts_nil (br_t (W.mono q fun y h3 q => ?_))
  obtain ⟨rfl,rfl⟩ := q
  refine ⟨_,zac,?_,hi,?_⟩
  ·rw [List.length_map,List.length_take]
   omega
  ·rw [za2,List.take_succ,hv,List.map_append]; rfl
 ·rintro hh ⟨_,rfl⟩
  rw [List.take_length]; exact q
noncomputable abbrev prs (ps : List (List Nat × List Nat)) : List Val := ps.map fun p => Val.tup [.str p.1,.str p.2]
structure zbe (ps : List (List Nat × List Nat)) (L R : List (List Nat)) : Prop where
 p0 : ps ≠ []
 pl : ps.length < 1000
 pw : ∀ p ∈ ps,(∀ c ∈ p.1,lett c = true) /\ (∀ c ∈ p.2,lett c = true) /\ p.1 ≠ [] /\ p.1.length < 1000 /\ p.2.length <= 2
 ll : L.length < 1000
 rl : R.length < 1000
 lw : ∀ (i : Nat) (s : List Nat),L[i]? = some s -> setB s ((i : Int) == 0) = true
 rw' : ∀ (i : Nat) (s : List Nat),R[i]? = some s -> setB s ((i : Int) == (R.length : Int) - 1) = true
theorem lim9 {n : Nat} (hn : n < 1000) : n < 200000 := Nat.lt_trans hn (by decide)
theorem lm9 {n : Nat} (hn : n < 1000) : n <= lim := Nat.le_trans (Nat.le_of_lt hn) (by decide)
noncomputable abbrev inF (v0 : Val) (aR aL aT : Nat) (c : Val) (o1 o2 o3 : Option Val) : Mi.Frame := some v0 :: some (.ref aR) :: some (.ref aL) :: some (.ref aT) :: some c :: o1 :: o2 :: o3 :: nn 6
section
variable {v0 : Val} {o1 o2 o3 : Option Val} {f0 : Mi.Frame} {X : Fl -> Mi.Frame -> MH -> Prop}
theorem init_s0 (ef : f0 = inF v0 aR aL aT c o1 o2 o3) (hP : h[aR]? = some (.list (prs ps))) (p0 : ps ≠ []) (pl : ps.length < 1000) (q : X .nx f0 (h ++ [.list []])) : WS (Cxd P0 d) (Sm.ite (Ex.bop true [(Ex.cmp COp.eq (Ex.call (Ex.lit (Val.bi 7103854)) [(Ex.var 1)]) (Ex.lit (Val.int 0))),(Ex.cmp COp.gt (Ex.call (Ex.lit (Val.bi 7103854)) [(Ex.comp (Ex.var 8) [8] false (Ex.var 1) [(Ex.cmp COp.ne (Ex.call (Ex.lit (Val.bi 7103854)) [(Ex.var 8)]) (Ex.lit (Val.int 2)))])]) (Ex.lit (Val.int 0)))]) [(Sm.rse (Ex.lit (Val.str [97,32,114,117,108,101,32,119,105,116,104,111,117,116,32,112,97,105,114,115])))] []) f0 h X := by
 subst ef
 repeat fail
 refine zaB hP ?_
 rw [List.length_map]
 repeat fail
 refine zan (s:=false) (beq_false_of_ne fun e => p0 (List.length_eq_zero_iff.mp (by omega))) ?_
 repeat fail
 refine we_compP aR (prs ps) (fun _ => false) id (by rw [List.length_map]; exact lim9 pl) (by rw [List.length_map]; exact lm9 pl) ?_
 repeat fail
 refine ⟨rfl,hP,fun v hv acc => ?_,?_⟩
 ·obtain ⟨p,_,rfl⟩ := List.mem_map.mp hv
  repeat fail
  refine wv_len (n:=2) rfl ?_
  repeat fail
  refine zan (s:=true) rfl (br_t ?_)
  exact ⟨rfl,rfl,fun e => nomatch e⟩
 rw [show ((prs ps).filter (fun _ => false)).map id = [] from by rw [List.filter_eq_nil_iff.mpr fun _ _ => Bool.false_ne_true]; rfl]
 repeat fail
 refine zaB zac ?_
 repeat fail
 refine zan (s:=false) rfl ?_
 repeat fail
 exact q
theorem init_s1 (ef : f0 = inF v0 aR aL aT c o1 o2 o3) (hd : 3 <= d) (hP : h[aR]? = some (.list (prs ps))) (pl : ps.length < 1000) (pw : ∀ p ∈ ps,(∀ c ∈ p.1,lett c = true) /\ (∀ c ∈ p.2,lett c = true) /\ p.1 ≠ [] /\ p.1.length < 1000 /\ p.2.length <= 2) (q : ∀ o1 o2,X .nx (inF v0 aR aL aT c o1 o2 o3) h) : WS (Cxd P0 d) (Sm.fo [5,6] true (Ex.var 1) [(Sm.expr (Ex.call (Ex.lit (Val.top 134)) [(Ex.var 5)])),(Sm.expr (Ex.call (Ex.lit (Val.top 134)) [(Ex.var 6)])),(Sm.ite (Ex.cmp COp.eq (Ex.var 5) (Ex.lit (Val.str []))) [(Sm.rse (Ex.lit (Val.str [97,32,114,117,108,101,32,116,104,97,116,32,114,101,119,114,105,116,101,115,32,110,111,116,104,105,110,103])))] [])]) f0 h X := by
 subst ef
 refine ws_for ?_
 repeat fail
 refine ⟨.ls aR,prs ps,zbb hP,by rw [List.length_map]; exact lim9 pl,fun i f g => g = h /\ ∃ o1 o2,f = inF v0 aR aL aT c o1 o2 o3,⟨rfl,o1,o2,rfl⟩,?_,?_,?_⟩
 ·rintro i f g ⟨rfl,_⟩; exact zba hP
 ·rintro i x hx f g ⟨rfl,o1,o2,rfl⟩
  clear q
  rw [List.getElem?_map] at hx
  obtain ⟨p,hp,rfl⟩ := ms hx
  obtain ⟨w1,w2,w3,w4,w5⟩ := pw p (List.mem_of_getElem? hp)
  refine Wo.of (a:=inF v0 aR aL aT c (some (.str p.1)) (some (.str p.2)) o3) rfl ?_
  repeat fail
  refine zai rfl (zbo hd w1 w4 ?_)
  repeat fail
  refine zai rfl (zbo hd w2 (Nat.lt_of_le_of_lt w5 (by decide)) ?_)
  repeat fail
  refine zan (s:=false) (beq_false_of_ne w3) ?_
  repeat fail
  exact ⟨rfl,_,_,rfl⟩
 rintro f g ⟨rfl,o1,o2,rfl⟩
 exact q _ _
theorem init_s2 (ef : f0 = inF v0 aR aL aT c o1 o2 o3) (hd : 5 <= d) (hL : h[aL]? = some (.list (sVs L))) (ll : L.length < 1000) (lw : ∀ (i : Nat) (s : List Nat),L[i]? = some s -> setB s ((i : Int) == 0) = true) (q : ∀ o3,X .nx (inF v0 aR aL aT c o1 o2 o3) h) : WS (Cxd P0 d) (Sm.fo [7] false (Ex.call (Ex.lit (Val.ty 491260897125)) [(Ex.call (Ex.lit (Val.bi 7103854)) [(Ex.var 2)])]) [(Sm.expr (Ex.call (Ex.lit (Val.top 218)) [(Ex.sub (Ex.var 2) (Ex.var 7)),(Ex.cmp COp.eq (Ex.var 7) (Ex.lit (Val.int 0)))]))]) f0 h X := by
 subst ef
 refine zcf (n:=L.length) (lim9 ll) (lm9 ll) (fun i f g => g = h /\ ∃ o3,f = inF v0 aR aL aT c o1 o2 o3) ?_ ?_ ?_
 ·repeat fail
  refine zaB hL ?_
  rw [List.length_map]
  repeat fail
  exact ⟨rfl,rfl,_,rfl⟩
 ·rintro i hi f g ⟨rfl,o3,rfl⟩
  clear q
  have es := List.getElem?_eq_getElem hi
  repeat fail
  refine zaw hL (i:=i) (v:=.str L[i]) (by rw [List.getElem?_map,es]; rfl) ?_
  repeat fail
  refine zai rfl (nset_ok hd (lw i _ es) ?_)
  repeat fail
  exact ⟨rfl,_,rfl⟩
 rintro f g ⟨rfl,o3,rfl⟩
 exact q _
theorem init_s3 (ef : f0 = inF v0 aR aL aT c o1 o2 o3) (hd : 5 <= d) (hR : h[aT]? = some (.list (sVs R))) (rl : R.length < 1000) (rw' : ∀ (i : Nat) (s : List Nat),R[i]? = some s -> setB s ((i : Int) == (R.length : Int) - 1) = true) (q : ∀ o3,X .nx (inF v0 aR aL aT c o1 o2 o3) h) : WS (Cxd P0 d) (Sm.fo [7] false (Ex.call (Ex.lit (Val.ty 491260897125)) [(Ex.call (Ex.lit (Val.bi 7103854)) [(Ex.var 3)])]) [(Sm.expr (Ex.call (Ex.lit (Val.top 218)) [(Ex.sub (Ex.var 3) (Ex.var 7)),(Ex.cmp COp.eq (Ex.var 7) (Ex.bin BOp.sub (Ex.call (Ex.lit (Val.bi 7103854)) [(Ex.var 3)]) (Ex.lit (Val.int 1))))]))]) f0 h X := by
 subst ef
 refine zcf (n:=R.length) (lim9 rl) (lm9 rl) (fun i f g => g = h /\ ∃ o3,f = inF v0 aR aL aT c o1 o2 o3) ?_ ?_ ?_
 ·repeat fail
  refine zaB hR ?_
  rw [List.length_map]
  repeat fail
  exact ⟨rfl,rfl,_,rfl⟩
 ·rintro i hi f g ⟨rfl,o3,rfl⟩
  clear q
  have es := List.getElem?_eq_getElem hi
  repeat fail
  refine zaw hR (i:=i) (v:=.str R[i]) (by rw [List.getElem?_map,es]; rfl) ?_
  repeat fail
  refine zaB hR ?_
  rw [List.length_map]
  repeat fail
  refine zai rfl (nset_ok hd (rw' i _ es) ?_)
  repeat fail
  exact ⟨rfl,_,rfl⟩
 rintro f g ⟨rfl,o3,rfl⟩
 exact q _
end
theorem init_ok (hd : 6 <= d) (I : zbe ps L R) (hP : h[aR]? = some (.list (prs ps))) (hL : h[aL]? = some (.list (sVs L))) (hR : h[aT]? = some (.list (sVs R)))
  (q : ∀ t aR aL aT,Ru (h ++ .inst 229 [(k_rows,.ref aR),(k_left,.ref aL),(k_right,.ref aT),(k_cost,c)] :: t) h.length ps L R c aR aL aT -> Q .none (h ++ .inst 229 [(k_rows,.ref aR),(k_left,.ref aL),(k_right,.ref aT),(k_cost,c)] :: t)) :
  WF P0 d 236 [.ref h.length,.ref aR,.ref aL,.ref aT,c] (h ++ [.inst 229 []]) Q := by
 refine zaO (K:=5) hd (inF (.ref h.length) aR aL aT c none none none) rfl rfl rfl fun d' h' => ?_
 unfold bd_Rule_init
 refine zam (init_s0 rfl (zaa hP) I.p0 I.pl (za0 ?_))
 rw [List.append_assoc]
 show WSs _ _ _ (h ++ .inst 229 [] :: [.list []]) _
 refine zam (init_s1 rfl (Nat.le_trans (by decide) h') (zaa hP) I.pl I.pw fun o1 o2 => za0 ?_)
 refine zam (init_s2 rfl h' (zaa hL) I.ll I.lw fun o3 => za0 ?_)
 refine zam (init_s3 rfl h' (zaa hR) I.rl I.rw' fun o3 => za0 ?_)
 repeat fail
 refine zb4 id ?_
 repeat fail
 refine ⟨_,prs ps,zbb (zaa hP),by rw [List.length_map]; exact lim9 I.pl,by rw [List.length_map]; exact lm9 I.pl,fun _ _ _ => zba (zaa (zaa hP)),fun v hv acc => ?_,?_⟩
 ·obtain ⟨p,_,rfl⟩ := List.mem_map.mp hv
  refine Wo.of (a:=some (.ref h.length) :: some (.ref aR) :: some (.ref aL) :: some (.ref aT) :: some c :: o1 :: o2 :: o3 :: some (.str p.1) :: some (.str p.2) :: nn 4) rfl ?_
  repeat fail
  exact ⟨rfl,rfl⟩
 rw [List.map_id]
 have gt : ∀ {x : MObj} {t : MH} {j : Nat} {y : MObj},t[j]? = some y -> (h ++ x :: t)[h.length + (j + 1)]? = some y := fun {x t j y} e => by
  rw [List.getElem?_append_right (by omega),Nat.add_sub_cancel_left]; exact e
 have ln : ∀ {x : MObj} {t : MH},(h ++ x :: t).length = h.length + (t.length + 1) := List.length_append ..
 repeat fail
 rw [List.append_assoc,ln]
 refine zbG (fs:=[]) zac rfl (by decide) ?_
 rw [List.cons_append,za2]
 repeat fail
 refine wv_list (zaa hL) ?_
 repeat fail
 rw [List.append_assoc,ln]
 refine zbG (fs:=[(k_rows,.ref (h.length + 2))]) zac rfl (by show 1 < 400; decide) ?_
 rw [List.cons_append,za2]
 repeat fail
 refine wv_list (zaa hR) ?_
 repeat fail
 rw [List.append_assoc,ln]
 refine zbG (fs:=[(k_rows,.ref (h.length + 2)),(k_left,.ref (h.length + 3))]) zac rfl (by show 2 < 400; decide) ?_
 rw [List.cons_append,za2]
 repeat fail
 refine zbG (fs:=[(k_rows,.ref (h.length + 2)),(k_left,.ref (h.length + 3)),(k_right,.ref (h.length + 4))]) zac rfl (by show 3 < 400; decide) ?_
 rw [za2]
 repeat fail
 exact q _ _ _ _ ⟨zac,gt (j:=1) rfl,gt (j:=2) rfl,gt (j:=3) rfl⟩
theorem rule_ok (hd : 6 <= d) (I : zbe ps L R) (hP : h[aR]? = some (.list (prs ps))) (hL : h[aL]? = some (.list (sVs L))) (hR : h[aT]? = some (.list (sVs R)))
  (q : ∀ t aR aL aT,Ru (h ++ t) h.length ps L R c aR aL aT -> Q (.ref h.length) (h ++ t)) : WV (Cxd P0 d) (.top 229) [.ref aR,.ref aL,.ref aT,c] h Q :=
 wv_new (i:=236) rfl rfl (init_ok hd I hP hL hR fun t a b e U => ⟨rfl,q _ a b e U⟩)
end
end Hd
namespace Hd
open Mi
noncomputable def md (ns : List Int) (k m : Nat) : Nat := (Int.fmod (cell ns k) m).toNat
theorem zaQ {ns : List Int} {k m : Nat} (hm : 0 < m) : Int.fmod (cell ns k) m = (md ns k m : Nat) /\ md ns k m < m := by
 obtain ⟨n,h1,h2⟩ := res_of (cell ns k) hm
 have e : md ns k m = n := by unfold md; rw [h2]; rfl
 rw [e]; exact ⟨h2,h1⟩
noncomputable def oldsL : List (List Nat) := [[97],[98],[97,98],[98,97],[97,97],[99]]
noncomputable def newsL : List (List Nat) := [[98],[99],[],[99,99],[97],[97,98]]
noncomputable def leftsL : List (List (List Nat)) := [[],[[97]],[[98]],[[97,98]],[[35]],[[35],[97]],[[99],[97,98]]]
noncomputable def rightsL : List (List (List Nat)) := [[],[[97]],[[98],[97,98]],[[35]],[[98],[35]],[[97,99]]]
noncomputable def psOf (ns : List Int) (a : Nat) (n : Nat) : List (List Nat × List Nat) := (List.range n).map fun k => ((oldsL[md ns (a + 1 + k) 6]?).getD [],(newsL[md ns (a + 3 + k) 6]?).getD [])
noncomputable def lOf (ns : List Int) (a : Nat) : List (List Nat) := (leftsL[md ns (a + 5) 7]?).getD []
noncomputable def rOf (ns : List Int) (a : Nat) : List (List Nat) := (rightsL[md ns (a + 6) 6]?).getD []
noncomputable def zcg (ns : List Int) (a : Nat) : List Nat := (List.range (md ns a 7)).map fun k => (([97,98,99] : List Nat)[md ns (a + 1 + k) 3]?).getD 0
theorem zaC {α : Type} {l : List α} {i : Nat} {d : α} (h : i < l.length) : (l[i]?).getD d ∈ l /\ l[i]? = some ((l[i]?).getD d) := by
 rw [List.getElem?_eq_getElem h]; exact ⟨List.getElem_mem h,rfl⟩
theorem wordOf_ok {ns : List Int} {a : Nat} : (∀ c ∈ zcg ns a,lett c = true /\ c ≠ 35) /\ (zcg ns a).length <= 6 := by
 refine ⟨fun c hc => ?_,?_⟩
 ·obtain ⟨k,_,rfl⟩ := List.mem_map.mp hc
  have := (zaC (d:=0) (show md ns (a + 1 + k) 3 < ([97,98,99] : List Nat).length from (zaQ (by decide)).2)).1
  have al : ∀ c ∈ ([97,98,99] : List Nat),lett c = true /\ c ≠ 35 := by decide +kernel
  exact al _ this
 ·unfold zcg
  rw [List.length_map,List.length_range]
  have := (zaQ (ns:=ns) (k:=a) (m:=7) (by decide)).2
  omega
noncomputable def chk (L : List (List Nat)) (f : Nat -> Bool) : Bool := (List.range L.length).all fun i => setB ((L[i]?).getD []) (f i)
theorem chk_s {L : List (List Nat)} {f : Nat -> Bool} (h : chk L f = true) (i : Nat) (s : List Nat) (hs : L[i]? = some s) : setB s (f i) = true := by
 have := List.all_eq_true.mp h i (List.mem_range.mpr (at_lt hs))
 rw [hs] at this; exact this
theorem ruleIn {ns : List Int} {a n : Nat} (h0 : 0 < n) (h2 : n <= 2) : zbe (psOf ns a n) (lOf ns a) (rOf ns a) := by
 have hl : ∀ L ∈ leftsL,chk L (fun i => (i : Int) == 0) = true /\ L.length < 1000 := by decide +kernel
 have hr : ∀ L ∈ rightsL,chk L (fun i => (i : Int) == (L.length : Int) - 1) = true /\ L.length < 1000 := by decide +kernel
 have ho : ∀ s ∈ oldsL,(∀ c ∈ s,lett c = true) /\ s ≠ [] /\ s.length < 1000 := by decide +kernel
 have hn : ∀ s ∈ newsL,(∀ c ∈ s,lett c = true) /\ s.length <= 2 := by decide +kernel
 have ml := hl _ (zaC (d:=[]) (show md ns (a + 5) 7 < leftsL.length from (zaQ (by decide)).2)).1
 have mr := hr _ (zaC (d:=[]) (show md ns (a + 6) 6 < rightsL.length from (zaQ (by decide)).2)).1
 have lp : (psOf ns a n).length = n := by unfold psOf; rw [List.length_map,List.length_range]
 refine ⟨fun e => ?_,by omega,fun p hp => ?_,ml.2,mr.2,fun i s hs => chk_s ml.1 i s hs,fun i s hs => chk_s mr.1 i s hs⟩
 ·rw [e] at lp; simp at lp; omega
 ·obtain ⟨k,_,rfl⟩ := List.mem_map.mp hp
  have m1 := ho _ (zaC (d:=[]) (show md ns (a + 1 + k) 6 < oldsL.length from (zaQ (by decide)).2)).1
  have m2 := hn _ (zaC (d:=[]) (show md ns (a + 3 + k) 6 < newsL.length from (zaQ (by decide)).2)).1
  exact ⟨m1.1,m2.1,m1.2.1,m1.2.2,m2.2⟩
section
variable {d : Nat} {h h0 : MH} {Q : Val -> MH -> Prop} {ns : List Int}
theorem joinV_nil : ∀ l : List Nat,zbI [] (l.map fun c => Val.str [c]) = some l := fun l => by
 induction l with
 | nil => rfl
 | cons c l ih =>
  cases l with
  | nil => rfl
  | cons c' l =>
   show ((zbI [] ((c' :: l).map fun c => Val.str [c])).map fun t => [c] ++ [] ++ t) = _
   rw [ih]; rfl
theorem wm_join {cx : Cx} {a : Nat} {l : List Nat} (ha : h[a]? = some (.list (l.map fun c => Val.str [c]))) (hl : l.length <= lim) (q : Q (.str l) h) : WM cx (.str []) nJoin [.ref a] h0 h Q := by
 refine W.of (a:=.str l) (g:=h) ?_ q
 show alt (alt none (alt ((zas h (.ref a)).bind fun vs => (zbI [] vs).bind fun t => grd (Nat.ble t.length lim && Nat.ble (vs.length * 0) lim) (some (Val.str t,h))) _)) _ = _
 rw [zaW ha]
 show alt (alt none (alt ((zbI [] (l.map fun c => Val.str [c])).bind fun t => grd (Nat.ble t.length lim && Nat.ble ((l.map fun c => Val.str [c]).length * 0) lim) (some (Val.str t,h))) _)) _ = _
 rw [joinV_nil]
 show alt (alt none (alt (grd (Nat.ble l.length lim && Nat.ble ((l.map fun c => Val.str [c]).length * 0) lim) (some (Val.str l,h))) _)) _ = _
 rw [Nat.ble_eq.mpr hl,Nat.mul_zero]; rfl
theorem word_ok {a : Nat} (hd : 2 <= d) (q : ∀ t,Q (.str (zcg ns a)) (h ++ t)) : WF P0 d 231 [.fl (ns.map .int),.int a] h Q := by
 refine zaO (K:=1) hd (some (.fl (ns.map .int)) :: some (.int a) :: nn 6) rfl rfl rfl fun d' h' => ?_
 unfold bd_law__law_word
 have hm := zaQ (ns:=ns) (k:=a) (m:=7) (by decide)
 repeat fail
 refine zb4 (fun v => .str [(([97,98,99] : List Nat)[md ns (a + 1 + (v.int?.getD 0).toNat) 3]?).getD 0]) ?_
 repeat fail
 refine zai rfl (za4 h' rfl ?_)
 repeat fail
 refine wb_mod (by decide) ?_
 rw [show Int.fmod (cell ns a) 7 = _ from hm.1]
 repeat fail
 refine ⟨_,rngL (md ns a 7),it_rng (Nat.le_trans (Nat.le_of_lt hm.2) (by decide)),by rw [za9]; exact Nat.lt_trans hm.2 (by show 7 < 200000; decide),by rw [za9]; exact Nat.le_trans (Nat.le_of_lt hm.2) (by decide),fun _ i hi => nx_rng (za9 (n:=md ns a 7) ▸ hi),fun v hv acc => ?_,?_⟩
 ·obtain ⟨k,hk,rfl⟩ := List.mem_map.mp hv
  refine zde ?_
  have hm := zaQ (ns:=ns) (k:=a + 1 + k) (m:=3) (by decide)
  repeat fail
  refine zai rfl (za4 h' (k:=a + 1 + k) (by omega) ?_)
  repeat fail
  refine wb_mod (by decide) ?_
  rw [show Int.fmod (cell ns (a + 1 + k)) 3 = _ from hm.1]
  repeat fail
  refine zbW (zaC (d:=0) hm.2).2 ?_
  exact ⟨rfl,by rw [show (Val.int (k : Int)).int?.getD 0 = (k : Int) from rfl,Int.toNat_natCast]⟩
 ·have e : ((rngL (md ns a 7)).map fun v => Val.str [(([97,98,99] : List Nat)[md ns (a + 1 + (v.int?.getD 0).toNat) 3]?).getD 0]) = (zcg ns a).map fun c => Val.str [c] := by
   unfold rngL zcg
   rw [List.map_map,List.map_map]
   exact List.map_congr_left fun k _ => rfl
  rw [e]
  repeat fail
  refine wm_join zac (Nat.le_trans wordOf_ok.2 (by decide)) ?_
  repeat fail
  exact q _
end
end Hd
namespace Hd
open Mi
section
variable {cx : Cx} {fr : Mi.Frame} {h : MH} {Q : Val -> MH -> Prop}
noncomputable abbrev strX (l : List (List Nat)) : Ex := .list (l.map fun s => .lit (.str s))
noncomputable abbrev refsV (b n : Nat) : List Val := (List.range n).map fun i => .ref (b + i)
theorem evs_strs (l : List (List Nat)) : zaT cx (l.map fun s => .lit (.str s)) fr h = some (sVs l,h) := by
 induction l with
 | nil => rfl
 | cons s l ih =>
  show bnd (zaT cx (l.map fun s => Ex.lit (.str s)) fr h) (fun vs h2 => some (Val.str s :: vs,h2)) = _
  rw [ih]; rfl
theorem ev_strs (l : List (List Nat)) : eval cx (strX l) fr h = some (.ref h.length,h ++ [.list (sVs l)]) := by
 show bnd (zaT cx (l.map fun s => .lit (.str s)) fr h) (fun vs h1 => zbd h1 (.list vs)) = _
 rw [evs_strs]; rfl
theorem evs_lls (ls : List (List (List Nat))) : ∀ h : MH,zaT cx (ls.map strX) fr h = some (refsV h.length ls.length,h ++ ls.map fun l => .list (sVs l)) := by
 induction ls with
 | nil => intro h; rw [List.map_nil,List.map_nil,List.append_nil]; rfl
 | cons l ls ih =>
  intro h
  show bnd (eval cx (strX l) fr h) (fun v h1 => bnd (zaT cx (ls.map strX) fr h1) fun vs h2 => some (v :: vs,h2)) = _
  rw [ev_strs]
  show bnd (zaT cx (ls.map strX) fr (h ++ [.list (sVs l)])) (fun vs h2 => some (Val.ref h.length :: vs,h2)) = _
  rw [ih]
  show some (Val.ref h.length :: refsV (h ++ [MObj.list (sVs l)]).length ls.length,(h ++ [MObj.list (sVs l)]) ++ _) = some (refsV h.length (ls.length + 1),h ++ MObj.list (sVs l) :: _)
  rw [List.append_assoc,List.length_append]
  unfold refsV
  rw [List.range_succ_eq_map,List.map_cons,List.map_map]
  refine congrArg some (congrArg (·,_) (congrArg (Val.ref h.length :: ·) (List.map_congr_left fun i _ => ?_)))
  show Val.ref (h.length + 1 + i) = Val.ref (h.length + (i + 1))
  rw [Nat.add_assoc,Nat.add_comm 1 i]
theorem we_strs {l : List (List Nat)} (q : Q (.ref h.length) (h ++ [.list (sVs l)])) : WE cx fr (strX l) h Q := W.of (ev_strs l) q
theorem we_lls {ls : List (List (List Nat))} (q : Q (.ref (h ++ ls.map fun l => MObj.list (sVs l)).length) ((h ++ ls.map fun l => MObj.list (sVs l)) ++ [.list (refsV h.length ls.length)])) : WE cx fr (.list (ls.map strX)) h Q := by
 refine W.of ?_ q
 show bnd (zaT cx (ls.map strX) fr h) (fun vs h1 => zbd h1 (.list vs)) = _
 rw [evs_lls]; rfl
theorem ll_at {ls : List (List (List Nat))} {t : MH} {i : Nat} (hi : i < ls.length) : ((h ++ ls.map fun l => MObj.list (sVs l)) ++ t)[h.length + i]? = some (.list (sVs ((ls[i]?).getD []))) := by
 rw [List.append_assoc,List.getElem?_append_right (Nat.le_add_right _ _),Nat.add_sub_cancel_left,List.getElem?_append_left (by rw [List.length_map]; exact hi),List.getElem?_map,List.getElem?_eq_getElem hi]; rfl
theorem refs_at {b n i : Nat} (hi : i < n) : (refsV b n)[i]? = some (.ref (b + i)) := by
 rw [List.getElem?_map,List.getElem?_range hi]; rfl
end
structure CtxA (g : MH) (a3 a4 a5 a6 bL bR : Nat) : Prop where
 olds : g[a3]? = some (.list (sVs oldsL))
 news : g[a4]? = some (.list (sVs newsL))
 ls : g[a5]? = some (.list (refsV bL 7))
 rs : g[a6]? = some (.list (refsV bR 6))
 l : ∀ i,i < 7 -> g[bL + i]? = some (.list (sVs ((leftsL[i]?).getD [])))
 r : ∀ i,i < 6 -> g[bR + i]? = some (.list (sVs ((rightsL[i]?).getD [])))
section
variable {d : Nat} {h h0 : MH} {Q : Val -> MH -> Prop} {ns : List Int} {X : Fl -> Mi.Frame -> MH -> Prop} {a a3 a4 a5 a6 bL bR : Nat} {c : Val} {f0 : Mi.Frame} {o8 : Option Val}
noncomputable abbrev lrF (ns : List Int) (a : Nat) (c : Val) (a3 a4 a5 a6 a7 : Nat) (o8 : Option Val) : Mi.Frame := some (.fl (ns.map .int)) :: some (.int a) :: some c :: some (.ref a3) :: some (.ref a4) :: some (.ref a5) :: some (.ref a6) :: some (.ref a7) :: o8 :: nn 6
theorem at_str {l : List (List Nat)} {i : Nat} (hi : i < l.length) : (sVs l)[i]? = some (.str ((l[i]?).getD [])) := by
 rw [List.getElem?_map,List.getElem?_eq_getElem hi]; rfl
theorem wb_md {k m : Nat} (hm : 0 < m) (q : Q (.int (md ns k m : Nat)) h) : WB .mod (.int (cell ns k)) (.int (m : Int)) h Q := wb_mod (by omega) (by rw [show Int.fmod (cell ns k) m = _ from (zaQ hm).1]; exact q)
theorem lr_for (ef : f0 = lrF ns a c a3 a4 a5 a6 h.length o8) (hd : 1 <= d) (C : CtxA h a3 a4 a5 a6 bL bR) (q : ∀ o8,X .nx (lrF ns a c a3 a4 a5 a6 h.length o8) (h ++ [.list (prs (psOf ns a (1 + md ns a 2)))])) : WS (Cxd P0 d) (Sm.fo [8] false (Ex.call (Ex.lit (Val.ty 491260897125)) [(Ex.bin BOp.add (Ex.lit (Val.int 1)) (Ex.bin BOp.mod (Ex.call (Ex.lit (Val.top 137)) [(Ex.var 0),(Ex.var 1)]) (Ex.lit (Val.int 2))))]) [(Sm.expr (Ex.meth (Ex.var 7) 107135549927012 [(Ex.tup [(Ex.sub (Ex.var 3) (Ex.bin BOp.mod (Ex.call (Ex.lit (Val.top 137)) [(Ex.var 0),(Ex.bin BOp.add (Ex.bin BOp.add (Ex.var 1) (Ex.lit (Val.int 1))) (Ex.var 8))]) (Ex.lit (Val.int 6)))),(Ex.sub (Ex.var 4) (Ex.bin BOp.mod (Ex.call (Ex.lit (Val.top 137)) [(Ex.var 0),(Ex.bin BOp.add (Ex.bin BOp.add (Ex.var 1) (Ex.lit (Val.int 3))) (Ex.var 8))]) (Ex.lit (Val.int 6))))])]))]) f0 (h ++ [.list []]) X := by
 subst ef
 have hm := (zaQ (ns:=ns) (k:=a) (m:=2) (by decide)).2
 have hn : 1 + md ns a 2 <= 2 := by omega
 refine zcf (n:=1 + md ns a 2) (Nat.lt_of_le_of_lt hn (by show 2 < 200000; decide)) (Nat.le_trans hn (by decide)) (fun i f g => g = h ++ [.list (prs (psOf ns a i))] /\ ∃ o,f = lrF ns a c a3 a4 a5 a6 h.length o) ?_ ?_ ?_
 ·clear q
  repeat fail
  refine zai rfl (za4 hd rfl ?_)
  repeat fail
  refine wb_md (m:=2) (by decide) ?_
  repeat fail
  exact ⟨congrArg Val.rng (Int.natCast_add 1 _).symm,rfl,_,rfl⟩
 ·rintro i hi f g ⟨rfl,o,rfl⟩
  clear q
  repeat fail
  refine zai rfl (za4 (k:=a + 1 + i) hd rfl ?_)
  repeat fail
  refine wb_md (m:=6) (by decide) ?_
  repeat fail
  refine zaw (zaa C.olds) (at_str (l:=oldsL) (zaQ (by decide)).2) ?_
  repeat fail
  refine zai rfl (za4 (k:=a + 3 + i) hd rfl ?_)
  repeat fail
  refine wb_md (m:=6) (by decide) ?_
  repeat fail
  refine zaw (zaa C.news) (at_str (l:=newsL) (zaQ (by decide)).2) ?_
  repeat fail
  have lp : (prs (psOf ns a i)).length = i := by unfold psOf; rw [List.length_map,List.length_map,List.length_range]
  refine zbE zac zac (by rw [lp]; exact Nat.lt_of_lt_of_le hi (Nat.le_trans hn (by decide))) ?_
  rw [za2]
  repeat fail
  refine ⟨?_,_,rfl⟩
  show _ = h ++ [.list (prs (psOf ns a (i + 1)))]
  unfold psOf prs
  rw [List.range_succ,List.map_append,List.map_append]; rfl
 ·rintro f g ⟨rfl,o,rfl⟩
  exact q _
theorem lr_ret (ef : f0 = lrF ns a c a3 a4 a5 a6 h.length o8) (hd : 6 <= d) (C : CtxA h a3 a4 a5 a6 bL bR) (q : ∀ t r aR aL aT,Ru (h ++ t) r (psOf ns a (1 + md ns a 2)) (lOf ns a) (rOf ns a) c aR aL aT -> Q (.ref r) (h ++ t)) : WS (Cxd P0 d) (Sm.ret (Ex.call (Ex.lit (Val.top 229)) [(Ex.var 7),(Ex.sub (Ex.var 5) (Ex.bin BOp.mod (Ex.call (Ex.lit (Val.top 137)) [(Ex.var 0),(Ex.bin BOp.add (Ex.var 1) (Ex.lit (Val.int 5)))]) (Ex.lit (Val.int 7)))),(Ex.sub (Ex.var 6) (Ex.bin BOp.mod (Ex.call (Ex.lit (Val.top 137)) [(Ex.var 0),(Ex.bin BOp.add (Ex.var 1) (Ex.lit (Val.int 6)))]) (Ex.lit (Val.int 6)))),(Ex.var 2)])) f0 (h ++ [.list (prs (psOf ns a (1 + md ns a 2)))]) (Beh (Cxd P0 d) [] (Mi.Fin Q)) := by
 subst ef
 have hm := (zaQ (ns:=ns) (k:=a) (m:=2) (by decide)).2
 have I := ruleIn (ns:=ns) (a:=a) (n:=1 + md ns a 2) (by omega) (by omega)
 clear hm
 have h1 : 1 <= d := Nat.le_trans (by decide) hd
 have m1 := (zaQ (ns:=ns) (k:=a + 5) (m:=7) (by decide)).2
 have m2 := (zaQ (ns:=ns) (k:=a + 6) (m:=6) (by decide)).2
 repeat fail
 refine zai rfl (za4 (k:=a + 5) h1 rfl ?_)
 repeat fail
 refine wb_md (m:=7) (by decide) ?_
 repeat fail
 refine zaw (zaa C.ls) (refs_at m1) ?_
 repeat fail
 refine zai rfl (za4 (k:=a + 6) h1 rfl ?_)
 repeat fail
 refine wb_md (m:=6) (by decide) ?_
 repeat fail
 refine zaw (zaa C.rs) (refs_at m2) ?_
 repeat fail
 refine rule_ok hd I zac (zaa (C.l _ m1)) (zaa (C.r _ m2)) fun t aR aL aT U => ?_
 repeat fail
 rw [List.append_assoc] at U ⊢
 exact q _ _ _ _ _ U
theorem lrule_ok {a : Nat} {c : Val} (hd : 7 <= d) (q : ∀ t r aR aL aT,Ru (h ++ t) r (psOf ns a (1 + md ns a 2)) (lOf ns a) (rOf ns a) c aR aL aT -> Q (.ref r) (h ++ t)) : WF P0 d 230 [.fl (ns.map .int),.int a,c] h Q := by
 refine zaO (K:=6) hd (some (.fl (ns.map .int)) :: some (.int a) :: some c :: nn 12) rfl rfl rfl fun d' h' => ?_
 unfold bd_law__law_rule
 have q : ∀ g,(∃ t,g = h ++ t) -> ∀ t r aR aL aT,Ru (g ++ t) r (psOf ns a (1 + md ns a 2)) (lOf ns a) (rOf ns a) c aR aL aT -> Q (.ref r) (g ++ t) := fun g e t r aR aL aT U => by
  obtain ⟨t0,rfl⟩ := e
  rw [List.append_assoc] at U ⊢
  exact q _ _ _ _ _ U
 refine zam (zcF (we_strs (l:=oldsL) (za0 ?_)))
 refine zam (zcF (we_strs (l:=newsL) (za0 ?_)))
 refine zam (zcF (we_lls (ls:=leftsL) (za0 ?_)))
 refine zam (zcF (we_lls (ls:=rightsL) (za0 ?_)))
 refine zam (zcF (we_strs (l:=[]) (za0 ?_)))
 refine zam (lr_for rfl (Nat.le_trans (by decide) h') ⟨zaa (zaa (zaa (zaa (zaa zac)))),zaa (zaa (zaa (zaa zac))),zaa (zaa zac),zac,fun i hi => zaa (zaa (ll_at hi)),fun i hi => ll_at hi⟩ fun o8 => za0 ?_)
 exact zam (lr_ret rfl h' ⟨zaa (zaa (zaa (zaa (zaa zac)))),zaa (zaa (zaa (zaa zac))),zaa (zaa zac),zac,fun i hi => zaa (zaa (ll_at hi)),fun i hi => ll_at hi⟩ (q _ ⟨_,by simp only [List.append_assoc]; rfl⟩))
end
end Hd
namespace Hd
open Mi
section
variable {h h0 : MH} {Q : Val -> MH -> Prop} {cx : Cx}
noncomputable def zci (s : List Nat) : List Nat := (PySem.Txt.strip ⟨s.toArray⟩).cps.toList
noncomputable def zcj (s : List Nat) : List Nat := (PySem.Txt.stripChars ⟨s.toArray⟩ ⟨([32] : List Nat).toArray⟩).cps.toList
noncomputable def zaM (s : List Nat) : List (List Nat) := (PySem.Txt.words ⟨s.toArray⟩).map (·.cps.toList)
noncomputable def zbH (s t : List Nat) : List Nat × List Nat × List Nat := ((PySem.Txt.partition ⟨s.toArray⟩ ⟨t.toArray⟩).1.cps.toList,(PySem.Txt.partition ⟨s.toArray⟩ ⟨t.toArray⟩).2.1.cps.toList,(PySem.Txt.partition ⟨s.toArray⟩ ⟨t.toArray⟩).2.2.cps.toList)
theorem wm_strip {s t : List Nat} (e : zci s = t) (hk : sOkB t = true) (q : Q (.str t) h) : WM cx (.str s) nStrip [] h0 h Q := by
 subst e
 refine W.of (a:=.str (zci s)) (g:=h) ?_ q
 show alt (alt (alt ((Mi.strV (PySem.Txt.strip ⟨s.toArray⟩)).map fun v => (v,h)) none) _) _ = _
 unfold Mi.strV
 rw [show sOkB (PySem.Txt.strip ⟨s.toArray⟩).cps.toList = true from hk]; rfl
theorem zaN {s t : List Nat} (e : zcj s = t) (hk : sOkB t = true) (q : Q (.str t) h) : WM cx (.str s) nStrip [.str [32]] h0 h Q := by
 subst e
 refine W.of (a:=.str (zcj s)) (g:=h) ?_ q
 show alt (alt ((Mi.strV (PySem.Txt.stripChars ⟨s.toArray⟩ ⟨([32] : List Nat).toArray⟩)).map fun v => (v,h)) none) none = _
 unfold Mi.strV
 rw [show sOkB (PySem.Txt.stripChars ⟨s.toArray⟩ ⟨([32] : List Nat).toArray⟩).cps.toList = true from hk]; rfl
theorem words_v : ∀ {l : List PySem.Str},(∀ w ∈ l.map (·.cps.toList),sOkB w = true) -> l.mapM Mi.strV = some ((l.map (·.cps.toList)).map Val.str) := by
 intro l
 induction l with
 | nil => exact fun _ => rfl
 | cons z l ih =>
  intro hk
  rw [List.mapM_cons,ih fun w hw => hk w (.tail _ hw)]
  unfold Mi.strV
  rw [show sOkB z.cps.toList = true from hk _ (.head _)]; rfl
theorem wm_split {s : List Nat} {l : List (List Nat)} (e : zaM s = l) (hk : ∀ w ∈ l,sOkB w = true) (hl : l.length <= lim) (q : Q (.ref h.length) (h ++ [.list (sVs l)])) : WM cx (.str s) nSplit [] h0 h Q := by
 subst e
 refine W.of (a:=.ref h.length) (g:=h ++ [.list (sVs (zaM s))]) ?_ q
 show alt (alt ((wordsV s).bind fun vs => grd (Nat.ble vs.length lim) (zbd h (.list vs))) _) _ = _
 unfold wordsV
 rw [words_v hk]
 show alt (alt (grd (Nat.ble (((PySem.Txt.words ⟨s.toArray⟩).map (·.cps.toList)).map Val.str).length lim) (zbd h (.list (((PySem.Txt.words ⟨s.toArray⟩).map (·.cps.toList)).map Val.str)))) _) _ = _
 rw [Nat.ble_eq.mpr (show (((PySem.Txt.words ⟨s.toArray⟩).map (·.cps.toList)).map Val.str).length <= lim by rw [List.length_map]; exact hl)]; rfl
theorem za7 {s t a b c : List Nat} (ht : t.isEmpty = false) (e : zbH s t = (a,b,c)) (ha : sOkB a = true) (hb : sOkB b = true) (hc : sOkB c = true) (q : Q (.tup [.str a,.str b,.str c]) h) : WM cx (.str s) nPartition [.str t] h0 h Q := by
 obtain ⟨e1,e2⟩ := Prod.mk.inj e
 obtain ⟨e2,e3⟩ := Prod.mk.inj e2
 subst e1 e2 e3
 refine W.of (a:=.tup [.str _,.str _,.str _]) (g:=h) ?_ q
 show alt (alt (grd (!t.isEmpty) (grd (sOkB (PySem.Txt.partition ⟨s.toArray⟩ ⟨t.toArray⟩).1.cps.toList && sOkB (PySem.Txt.partition ⟨s.toArray⟩ ⟨t.toArray⟩).2.1.cps.toList && sOkB (PySem.Txt.partition ⟨s.toArray⟩ ⟨t.toArray⟩).2.2.cps.toList) (some (_,h)))) _) _ = _
 rw [ht,ha,hb,hc]; rfl
theorem wm_find {s t : List Nat} {i : Int} (q : Q (.int (zda s t i)) h) : WM cx (.str s) nFind [.str t,.int i] h0 h Q := W.of (a:=.int (zda s t i)) (g:=h) rfl q
end
theorem at_one {s : List Nat} {c i : Nat} : PySem.StrLaws.At ⟨s.toArray⟩ ⟨([c] : List Nat).toArray⟩ s.length i ↔ s[i]? = some c := by
 unfold PySem.StrLaws.At
 rw [PySem.StrLaws.subAt_eq]
 show i + 1 <= s.length /\ (((s.drop i).take 1 == [c]) = true) ↔ _
 rw [beq_iff_eq]
 constructor
 ·rintro ⟨h1,h2⟩
  have e : s.drop i = s[i] :: s.drop (i + 1) := List.drop_eq_getElem_cons (by omega)
  rw [e] at h2
  rw [List.getElem?_eq_getElem (by omega)]
  exact congrArg some (List.cons.inj h2).1
 ·intro h
  obtain ⟨h1,h2⟩ := List.getElem?_eq_some_iff.mp h
  refine ⟨h1,?_⟩
  rw [List.drop_eq_getElem_cons h1,h2]; rfl
theorem part_at {a b : List Nat} {c : Nat} (ha : c ∉ a) : zbH (a ++ c :: b) [c] = (a,[c],b) := by
 have hA : (a ++ c :: b)[a.length]? = some c := by rw [List.getElem?_append_right (Nat.le_refl _),Nat.sub_self]; rfl
 have key : ∃ r,PySem.Builtin.Str.occurrences ⟨(a ++ c :: b).toArray⟩ ⟨([c] : List Nat).toArray⟩ 0 (a ++ c :: b).length 1 = a.length :: r := by
  rcases PySem.StrLaws.occ_head ⟨(a ++ c :: b).toArray⟩ ⟨([c] : List Nat).toArray⟩ 1 (Nat.le_refl _) with ⟨_,hn⟩ | ⟨i,r,e,h1,h2⟩
  ·exact (hn a.length (at_one.mpr hA)).elim
  ·have h1 := at_one.mp h1
   have : i = a.length := by
    rcases Nat.lt_trichotomy i a.length with h | h | h
    ·rw [List.getElem?_append_left h] at h1
     exact (ha (List.mem_of_getElem? h1)).elim
    ·exact h
    ·exact (h2 _ h (at_one.mpr hA)).elim
   subst this
   exact ⟨r,e⟩
 obtain ⟨r,e⟩ := key
 unfold zbH PySem.Txt.partition
 rw [show (⟨(a ++ c :: b).toArray⟩ : PySem.Str).length = (a ++ c :: b).length from rfl,e]
 show ((((a ++ c :: b).toArray).extract 0 a.length).toList,[c],(((a ++ c :: b).toArray).extract (a.length + 1) (a ++ c :: b).length).toList) = _
 simp [List.extract]
 exact List.take_of_length_le (by omega)
theorem part_no {s : List Nat} {c : Nat} (ha : c ∉ s) : zbH s [c] = (s,[],[]) := by
 rcases PySem.StrLaws.occ_head ⟨s.toArray⟩ ⟨([c] : List Nat).toArray⟩ 1 (Nat.le_refl _) with ⟨e,_⟩ | ⟨i,r,e,h1,_⟩
 ·unfold zbH PySem.Txt.partition
  rw [e]; rfl
 ·exact (ha (List.mem_of_getElem? (at_one.mp h1))).elim
theorem strip_id {s : List Nat} {a b : Nat} {x y : List Nat} (e1 : s = a :: x) (e2 : s = y ++ [b]) (ha : PySem.Unicode.isSpace a = false) (hb : PySem.Unicode.isSpace b = false) : zci s = s := by
 have lo : PySem.stripLo PySem.Unicode.isSpace true ⟨s.toArray⟩ = 0 := by
  show (s.takeWhile PySem.Unicode.isSpace).length = 0
  rw [e1,List.takeWhile_cons,ha]; rfl
 have hi : PySem.stripHi PySem.Unicode.isSpace true ⟨s.toArray⟩ 0 = s.length := by
  show s.length - ((s.drop 0).reverse.takeWhile PySem.Unicode.isSpace).length = s.length
  rw [List.drop_zero,e2,List.reverse_append,List.reverse_singleton,List.singleton_append,List.takeWhile_cons,hb]; rfl
 unfold zci PySem.Txt.strip PySem.Txt.stripBy
 rw [show PySem.stripSame PySem.Unicode.isSpace true true ⟨s.toArray⟩ = true from by
  unfold PySem.stripSame
  rw [lo,hi]
  show (0 == 0 && s.length == s.length) = true
  rw [beq_self_eq_true,beq_self_eq_true]; rfl]
 rfl
end Hd
namespace Hd
open Mi
noncomputable abbrev nShow : Nat := 1936224119
noncomputable abbrev nRead : Nat := 1919246692
section
variable {d : Nat} {h h0 : MH} {Q : Val -> MH -> Prop}
structure Cst (c : Val) (t : List Nat) : Prop where
 ne : ∀ h,veq h c must = some false
 nd : ∀ {d : Nat} {h h0 : MH} {Q : Val -> MH -> Prop},4 <= d -> Q c h -> WM (Cxd P0 d) (.top 113) nNeed [c] h0 h Q
 sh : ∀ {d : Nat} {h h0 : MH} {Q : Val -> MH -> Prop},4 <= d -> Q (.str t) h -> WM (Cxd P0 d) (.top 113) nShow [c] h0 h Q
 rd : ∀ {d : Nat} {h h0 : MH} {Q : Val -> MH -> Prop},4 <= d -> Q c h -> WM (Cxd P0 d) (.top 113) nRead [.str t] h0 h Q
 ok : t.all (fun c => Nat.ble 33 c && Nat.ble c 126) = true
 len : t.length <= 4
theorem zc3 {f : Nat} {as : List Val} {v : Val} {n : Nat} (hg : ∀ h0,zbc P0 h0 (.top 113) n = some (f,[.top 113])) (hr : ∀ d h,zaU P0 200000 (d + 4) f (.top 113 :: as) h = some (v,h)) (hd : 4 <= d) (q : Q v h) : WM (Cxd P0 d) (.top 113) n as h0 h Q :=
 zbD (f:=f) (self:=[.top 113]) (hg h0) (by
  obtain ⟨d',rfl⟩ := Nat.exists_eq_add_of_le' hd
  exact W.of (hr d' h) q)
theorem cst3 : Cst (.int 3) [51] where
 ne := fun h => by show some (PySem.PyData.eqv (.int 3) (.str _)) = _; simp [PySem.PyData.eqv]
 nd := fun hd q => zc3 (f:=147) (fun _ => rfl) (fun d h => by kernel_rfl) hd q
 sh := fun hd q => zc3 (f:=207) (fun _ => rfl) (fun d h => by kernel_rfl) hd q
 rd := fun hd q => zc3 (f:=241) (fun _ => rfl) (fun d h => by kernel_rfl) hd q
 ok := rfl
 len := by decide
theorem cst4 : Cst (.int 4) [52] where
 ne := fun h => by show some (PySem.PyData.eqv (.int 4) (.str _)) = _; simp [PySem.PyData.eqv]
 nd := fun hd q => zc3 (f:=147) (fun _ => rfl) (fun d h => by kernel_rfl) hd q
 sh := fun hd q => zc3 (f:=207) (fun _ => rfl) (fun d h => by kernel_rfl) hd q
 rd := fun hd q => zc3 (f:=241) (fun _ => rfl) (fun d h => by kernel_rfl) hd q
 ok := rfl
 len := by decide
theorem cstN : Cst .none [110,111,110,101] where
 ne := fun h => by show some (PySem.PyData.eqv .none (.str _)) = _; simp [PySem.PyData.eqv]
 nd := fun hd q => zc3 (f:=147) (fun _ => rfl) (fun d h => by kernel_rfl) hd q
 sh := fun hd q => zc3 (f:=207) (fun _ => rfl) (fun d h => by kernel_rfl) hd q
 rd := fun hd q => zc3 (f:=241) (fun _ => rfl) (fun d h => by kernel_rfl) hd q
 ok := rfl
 len := by decide
inductive Cost (c : Val) : Option (List Nat) -> Prop
 | must (e : c = must) : Cost c none
 | some {t : List Nat} (C : Cst c t) : Cost c (some t)
variable {r : Nat} {ps : List (List Nat × List Nat)} {L R : List (List Nat)} {c : Val} {aR aL aT : Nat} {ct : Option (List Nat)}
theorem ncst_ok (hd : 5 <= d) (C : Cost c ct) (U : Ru h r ps L R c aR aL aT) (q : Q .none h) : WF P0 d 235 [.ref r,.top 113] h Q := by
 refine zaO (K:=4) hd (some (.ref r) :: some (.top 113) :: nn 6) rfl rfl rfl fun d' h' => ?_
 unfold bd_Rule_need_cost
 repeat fail
 refine zap U.obj rfl rfl ?_
 repeat fail
 cases C with
 | must e =>
  subst e
  repeat fail
  refine zan (s:=true) (beq_self_eq_true _) ?_
  repeat fail
  exact q
 | some C =>
  refine wc_neF (C.ne _) ?_
  repeat fail
  refine zap U.obj rfl rfl ?_
  repeat fail
  refine C.nd h' ?_
  repeat fail
  exact q
noncomputable def shw (s : List Nat) : List Nat := bif s.length == 1 then s else 91 :: (s ++ [93])
noncomputable def zb1 (L : List (List Nat)) : List Nat := (L.map shw).flatten
noncomputable def prT (p : List Nat × List Nat) : List Nat := p.1 ++ 62 :: p.2
theorem joinV_flat : ∀ l : List (List Nat),zbI [] (sVs l) = some l.flatten := fun l => by
 induction l with
 | nil => rfl
 | cons c l ih =>
  cases l with
  | nil => show some c = some (c ++ []); rw [List.append_nil]
  | cons c' l =>
   show ((zbI [] (sVs (c' :: l))).map fun t => c ++ [] ++ t) = _
   rw [ih,List.append_nil]; rfl
noncomputable def joinS : List (List Nat) -> List Nat
 | [] => []
 | [x] => x
 | x :: y :: r => x ++ 32 :: joinS (y :: r)
theorem joinV_sp : ∀ l : List (List Nat),zbI [32] (sVs l) = some (joinS l) := fun l => by
 induction l with
 | nil => rfl
 | cons c l ih =>
  cases l with
  | nil => rfl
  | cons c' l =>
   show ((zbI [32] (sVs (c' :: l))).map fun t => c ++ [32] ++ t) = _
   rw [ih]
   show some (c ++ [32] ++ joinS (c' :: l)) = some (c ++ 32 :: joinS (c' :: l))
   rw [List.append_assoc]; rfl
theorem zcS {cx : Cx} {sep t : List Nat} {a : Nat} {l : List (List Nat)} (ha : h[a]? = some (.list (sVs l))) (e : zbI sep (sVs l) = some t) (hl : t.length <= lim) (hs : l.length * sep.length <= lim) (q : Q (.str t) h) : WM cx (.str sep) nJoin [.ref a] h0 h Q := by
 refine W.of (a:=.str t) (g:=h) ?_ q
 show alt (alt none (alt ((zas h (.ref a)).bind fun vs => (zbI sep vs).bind fun t => grd (Nat.ble t.length lim && Nat.ble (vs.length * sep.length) lim) (some (Val.str t,h))) _)) _ = _
 rw [zaW ha]
 show alt (alt none (alt ((zbI sep (sVs l)).bind fun t => grd (Nat.ble t.length lim && Nat.ble ((sVs l).length * sep.length) lim) (some (Val.str t,h))) _)) _ = _
 rw [e]
 show alt (alt none (alt (grd (Nat.ble t.length lim && Nat.ble ((sVs l).length * sep.length) lim) (some (Val.str t,h))) _)) _ = _
 rw [Nat.ble_eq.mpr hl,Nat.ble_eq.mpr (show (sVs l).length * sep.length <= lim by rw [List.length_map]; exact hs)]; rfl
theorem shs_ok {a : Nat} (hd : 1 <= d) (ha : h[a]? = some (.list (sVs L))) (hl : L.length < 1000) (hw : ∀ s ∈ L,s.length < 1000) (hs : (zb1 L).length <= 1000) (q : ∀ t,Q (.str (zb1 L)) (h ++ t)) : WF P0 d 244 [.ref a] h Q := by
 refine zaO (K:=0) hd (some (.ref a) :: nn 6) rfl rfl rfl fun d' h' => ?_
 unfold bd_rules__show_sets
 repeat fail
 refine zb4 (fun v => .str (shw ((v.str?).getD []))) ?_
 repeat fail
 refine ⟨.ls a,sVs L,zbb ha,by rw [List.length_map]; exact Nat.lt_trans hl (by show 1000 < 200000; decide),by rw [List.length_map]; exact Nat.le_trans (Nat.le_of_lt hl) (by decide),fun _ _ _ => zba (zaa ha),fun v hv acc => ?_,?_⟩
 ·obtain ⟨s,hs,rfl⟩ := List.mem_map.mp hv
  have hlen := hw s hs
  refine zde ?_
  have e : (Val.str s).str?.getD [] = s := rfl
  repeat fail
  unfold shw
  refine br (fun hb => ?_) (fun hb => ?_)
  ·rw [e,show (s.length == 1) = true from by have := beq_iff_eq.mp hb; rw [beq_iff_eq]; omega]
   repeat fail
   exact ⟨rfl,rfl⟩
  ·rw [e,show (s.length == 1) = false from by have := beq_eq_false_iff_ne.mp hb; rw [beq_eq_false_iff_ne]; omega]
   repeat fail
   refine zax (Nat.le_trans (show 1 + s.length <= 1001 by omega) (by decide)) ?_
   repeat fail
   refine zax (Nat.le_trans (show ([91] ++ s).length + 1 <= 1002 by rw [List.length_append]; simp only [List.length_cons,List.length_nil]; omega) (by decide)) ?_
   exact ⟨rfl,by rw [List.append_assoc]; rfl⟩
 ·rw [List.map_map,show (fun v => Val.str (shw (v.str?.getD []))) ∘ Val.str = Val.str ∘ shw from rfl,<- List.map_map]
  repeat fail
  refine zcS (l:=L.map shw) zac (joinV_flat _) (Nat.le_trans hs (by decide)) (by rw [List.length_nil,Nat.mul_zero]; exact Nat.zero_le _) ?_
  repeat fail
  exact q _
noncomputable def zaz (ps : List (List Nat × List Nat)) : List Nat := joinS (ps.map prT)
noncomputable def headT (ct : Option (List Nat)) (ps : List (List Nat × List Nat)) : List Nat := Option.casesOn (motive:=fun _ => List Nat) ct (zaz ps) fun t => 63 :: (t ++ 32 :: zaz ps)
noncomputable def ctxT (L R : List (List Nat)) : List Nat := zcj (zb1 L ++ 32 :: 95 :: 32 :: zb1 R)
noncomputable def zaK (ct : Option (List Nat)) (ps : List (List Nat × List Nat)) (L R : List (List Nat)) : List Nat := bif L.length + R.length == 0 then headT ct ps else headT ct ps ++ 32 :: 47 :: 32 :: ctxT L R
structure zcC (ps : List (List Nat × List Nat)) (L R : List (List Nat)) : Prop where
 pl : ps.length < 1000
 pw : ∀ p ∈ ps,p.1.length + p.2.length < 1000
 pt : (zaz ps).length <= 1000
 ll : L.length < 1000
 rl : R.length < 1000
 lw : ∀ s ∈ L,s.length < 1000
 rw' : ∀ s ∈ R,s.length < 1000
 ls : (zb1 L).length <= 1000
 rs : (zb1 R).length <= 1000
 ck : sOkB (ctxT L R) = true
 cl : (ctxT L R).length <= 3000
noncomputable abbrev liF (r : Nat) (o2 : Option Val) (fr : Mi.Frame) : Mi.Frame := some (.ref r) :: some (.top 113) :: o2 :: fr
section
variable {f0 fr : Mi.Frame} {X : Fl -> Mi.Frame -> MH -> Prop}
theorem zcA {a b n : Nat} (h : a + b <= n) (hn : n <= 5000) : a + b <= lim := Nat.le_trans (Nat.le_trans h hn) (by decide)
theorem line_rows (ef : f0 = liF r none (nn 6)) (U : Ru h r ps L R c aR aL aT) (I : zcC ps L R) (q : X .nx (liF r (some (.str (zaz ps))) (nn 6)) (h ++ [.list (sVs (ps.map prT))])) : WS (Cxd P0 d) (Sm.asg (T1.nm 2) (Ex.meth (Ex.lit (Val.str [32])) 1785686382 [(Ex.comp (Ex.bin BOp.add (Ex.bin BOp.add (Ex.var 3) (Ex.lit (Val.str [62]))) (Ex.var 4)) [3,4] true (Ex.attr (Ex.var 0) 1919907699) [])])) f0 h X := by
 subst ef
 repeat fail
 refine zb4 (fun v => .str (prT (((v.tup?.bind fun l => l[0]?.bind Val.str?).getD []),((v.tup?.bind fun l => l[1]?.bind Val.str?).getD [])))) ?_
 repeat fail
 refine zap U.obj rfl rfl ?_
 refine ⟨.ls aR,prs ps,zbb U.rows,by rw [List.length_map]; exact Nat.lt_trans I.pl (by show 1000 < 200000; decide),by rw [List.length_map]; exact Nat.le_trans (Nat.le_of_lt I.pl) (by decide),fun _ _ _ => zba (zaa U.rows),fun v hv acc => ?_,?_⟩
 ·clear q
  obtain ⟨p,hp,rfl⟩ := List.mem_map.mp hv
  have hlen := Nat.le_of_lt (I.pw p hp)
  refine Wo.of (a:=some (.ref r) :: some (.top 113) :: none :: some (.str p.1) :: some (.str p.2) :: nn 4) rfl ?_
  repeat fail
  refine zax (zcA (Nat.add_le_add_right (Nat.le_trans (Nat.le_add_right _ _) hlen) 1) (by decide)) ?_
  repeat fail
  refine zax (zcA (n:=1001) (by rw [List.length_append,Nat.add_right_comm]; exact Nat.add_le_add_right hlen 1) (by decide)) ?_
  exact ⟨rfl,by rw [List.append_assoc]; rfl⟩
 rw [show (prs ps).map (fun v => Val.str (prT (((v.tup?.bind fun l => l[0]?.bind Val.str?).getD []),((v.tup?.bind fun l => l[1]?.bind Val.str?).getD [])))) = sVs (ps.map prT) from by show (ps.map fun p => Val.tup [.str p.1,.str p.2]).map _ = (ps.map prT).map Val.str; rw [List.map_map,List.map_map]; rfl]
 repeat fail
 refine zcS (t:=zaz ps) zac (joinV_sp _) (Nat.le_trans I.pt (by decide)) (Nat.le_trans (show (ps.map prT).length * 1 <= 1000 by rw [List.length_map,Nat.mul_one]; exact Nat.le_of_lt I.pl) (by decide)) ?_
 repeat fail
 exact q
theorem line_cost (ef : f0 = liF r (some (.str (zaz ps))) fr) (hd : 5 <= d) (C : Cost c ct) (U : Ru h r ps L R c aR aL aT) (pt : (zaz ps).length <= 1000) (q : X .nx (liF r (some (.str (headT ct ps))) fr) h) : WS (Cxd P0 d) (Sm.ite (Ex.cmp COp.ne (Ex.attr (Ex.var 0) 1668248436) (Ex.lit (Val.str [109,117,115,116]))) [(Sm.ite (Ex.cmp COp.is (Ex.var 1) (Ex.lit Val.none)) [(Sm.rse (Ex.lit (Val.str [97,32,99,111,115,116,32,119,105,116,104,111,117,116,32,97,32,115,101,109,105,114,105,110,103])))] []),(Sm.expr (Ex.meth (Ex.var 0) 2036448204439382094708 [(Ex.var 1)])),(Sm.asg (T1.nm 2) (Ex.bin BOp.add (Ex.bin BOp.add (Ex.bin BOp.add (Ex.lit (Val.str [63])) (Ex.meth (Ex.var 1) 1936224119 [(Ex.attr (Ex.var 0) 1668248436)])) (Ex.lit (Val.str [32]))) (Ex.var 2)))] []) f0 h X := by
 subst ef
 cases C with
 | must e =>
  subst e
  repeat fail
  refine zap U.obj rfl rfl ?_
  repeat fail
  refine zan (s:=true) (beq_self_eq_true _) ?_
  repeat fail
  exact q
 | @some t C =>
  repeat fail
  refine zap U.obj rfl rfl ?_
  repeat fail
  refine wc_neF (C.ne _) ?_
  repeat fail
  refine zbD (zcq U.obj rfl rfl) (ncst_ok hd (.some C) U ?_)
  repeat fail
  refine zap U.obj rfl rfl ?_
  repeat fail
  refine C.sh (Nat.le_of_succ_le hd) ?_
  have le := C.len
  repeat fail
  refine zax (zcA (Nat.add_le_add_left le 1) (by decide)) ?_
  repeat fail
  refine zax (zcA (n:=6) (by rw [List.length_append]; exact Nat.add_le_add_right (Nat.add_le_add_left le 1) 1) (by decide)) ?_
  repeat fail
  refine zax (zcA (n:=1006) (by rw [List.length_append,List.length_append]; exact Nat.add_le_add (Nat.add_le_add_right (Nat.add_le_add_left le 1) 1) pt) (by decide)) ?_
  rw [show [63] ++ t ++ [32] ++ zaz ps = headT (some t) ps from by rw [List.append_assoc,List.append_assoc]; rfl]
  repeat fail
  exact q
theorem line_fin {hs : List Nat} (ef : f0 = liF r (some (.str hs)) fr) (hd : 1 <= d) (hh : hs.length <= 1010) (U : Ru h r ps L R c aR aL aT) (I : zcC ps L R) (q : ∀ t,Q (.str (bif L.length + R.length == 0 then hs else hs ++ 32 :: 47 :: 32 :: ctxT L R)) (h ++ t)) : WS (Cxd P0 d) (Sm.ite (Ex.cmp COp.eq (Ex.bin BOp.add (Ex.call (Ex.lit (Val.bi 7103854)) [(Ex.attr (Ex.var 0) 1818584692)]) (Ex.call (Ex.lit (Val.bi 7103854)) [(Ex.attr (Ex.var 0) 491394656372)])) (Ex.lit (Val.int 0))) [(Sm.ret (Ex.var 2))] []) f0 h (Beh (Cxd P0 d) [(Sm.ret (Ex.bin BOp.add (Ex.bin BOp.add (Ex.var 2) (Ex.lit (Val.str [32,47,32]))) (Ex.meth (Ex.meth (Ex.lit (Val.str [32])) 1785686382 [(Ex.list [(Ex.call (Ex.lit (Val.top 244)) [(Ex.attr (Ex.var 0) 1818584692)]),(Ex.lit (Val.str [95])),(Ex.call (Ex.lit (Val.top 244)) [(Ex.attr (Ex.var 0) 491394656372)])])]) 495874894192 [(Ex.lit (Val.str [32]))])))] (Mi.Fin Q)) := by
 subst ef
 have e2 : ((L.length : Int) + (R.length : Int) == 0) = (L.length + R.length == 0) := by
  rw [Bool.eq_iff_iff,beq_iff_eq,beq_iff_eq]; omega
 repeat fail
 refine zap U.obj rfl rfl ?_
 repeat fail
 refine zaB U.left ?_
 rw [List.length_map]
 repeat fail
 refine zap U.obj rfl rfl ?_
 repeat fail
 refine zaB U.right ?_
 rw [List.length_map]
 repeat fail
 rw [e2]
 refine br (fun hb => ?_) (fun hb => ?_)
 ·rw [hb,cond_true] at q
  have q := q []
  rw [List.append_nil] at q
  repeat fail
  exact q
 ·rw [hb,cond_false] at q
  repeat fail
  refine zax (zcA (Nat.add_le_add_right hh 3) (by decide)) ?_
  repeat fail
  refine zap U.obj rfl rfl ?_
  repeat fail
  refine zai rfl (shs_ok hd U.left I.ll I.lw I.ls fun t1 => ?_)
  repeat fail
  refine zap U.app.obj rfl rfl ?_
  repeat fail
  refine zai rfl (shs_ok hd U.app.right I.rl I.rw' I.rs fun t2 => ?_)
  repeat fail
  refine zcS (l:=[zb1 L,[95],zb1 R]) (t:=zb1 L ++ 32 :: 95 :: 32 :: zb1 R) zac (joinV_sp _) (Nat.le_trans (show _ <= 2003 by rw [List.length_append]; exact Nat.add_le_add I.ls (Nat.add_le_add_right I.rs 3)) (by decide)) (show 3 * 1 <= lim by decide) ?_
  repeat fail
  refine zaN rfl I.ck ?_
  repeat fail
  refine zax (zcA (n:=4013) (by rw [List.length_append]; exact Nat.add_le_add (Nat.add_le_add_right hh 3) I.cl) (by decide)) ?_
  repeat fail
  rw [List.append_assoc hs,show ∀ x : MH,h ++ t1 ++ t2 ++ x = h ++ (t1 ++ t2 ++ x) from fun x => by rw [List.append_assoc,List.append_assoc,<- List.append_assoc t1]]
  exact q _
end
theorem line_ok (hd : 6 <= d) (C : Cost c ct) (U : Ru h r ps L R c aR aL aT) (I : zcC ps L R) (q : ∀ t,Q (.str (zaK ct ps L R)) (h ++ t)) : WF P0 d 245 [.ref r,.top 113] h Q := by
 refine zaO (K:=5) hd (liF r none (nn 6)) rfl rfl rfl fun d' h' => ?_
 unfold bd_Rule_line
 refine zam (line_rows rfl U I (za0 ?_))
 refine zam (line_cost rfl h' C U.app I.pt (za0 ?_))
 refine zam (line_fin rfl (Nat.le_trans (by decide) h') ?_ U.app I fun t => ?_)
 ·cases C with
  | must e => exact Nat.le_trans I.pt (by decide)
  | some C =>
   show (63 :: (_ ++ 32 :: zaz ps)).length <= 1010
   rw [List.length_cons,List.length_append,List.length_cons]
   exact Nat.le_trans (Nat.add_le_add_right (Nat.add_le_add C.len (Nat.add_le_add_right I.pt 1)) 1) (by decide)
 ·rw [List.append_assoc]
  exact q _
end
end Hd
namespace Hd
open Mi
noncomputable def rsF (s : List Nat) : Nat -> Nat -> List (List Nat) -> Option (List (List Nat))
 | 0,_,_ => none
 | n + 1,k,out => bif Nat.ble s.length k then some out else Option.casesOn (motive:=fun _ => Option (List (List Nat))) s[k]? none fun c =>
   bif c == 91 then Int.casesOn (motive:=fun _ => Option (List (List Nat))) (zda s [93] k) (fun e => rsF s n (e + 1) (out ++ [cut s (min (k + 1) s.length) (min e s.length)])) (fun _ => none)
   else rsF s n (k + 1) (out ++ [[c]])
section
variable {d : Nat} {h h0 : MH} {Q : Val -> MH -> Prop} {r : Nat} {ps : List (List Nat × List Nat)} {L R : List (List Nat)} {c : Val} {aR aL aT : Nat} {ct : Option (List Nat)}
theorem bound_ok' {n a : Nat} : zbq n (.int a) = some (min a n) := by
 show grd (decide ((0 : Int) <= (a : Int))) (some (min (a : Int).toNat n)) = _
 rw [decide_eq_true (show (0 : Int) <= (a : Int) by omega),Int.toNat_natCast]; rfl
theorem wsl_s3 {s : List Nat} {a b : Nat} (q : Q (.str (cut s (min a s.length) (min b s.length))) h) : WSl (.str s) 3 [.int a,.int b] h Q := by
 show W (alt (((zbq s.length (.int a)).bind fun x => (zbq s.length (.int b)).map fun y => (x,y)).bind fun p => some (Val.str (cut s p.1 p.2),h)) _) Q
 rw [bound_ok',bound_ok']; exact ⟨q⟩
theorem za8 {s : List Nat} {n : Nat} (hd : 1 <= d) (hs : s.length < 2000) (hn : n < 2000) (e : rsF s n 0 [] = some L) (q : Q (.ref h.length) (h ++ [.list (sVs L)])) : WF P0 d 238 [.str s] h Q := by
 refine zaO (K:=0) hd (some (.str s) :: nn 9) rfl rfl rfl fun d' h' => ?_
 unfold bd_rules_read_sets
 repeat fail
 refine ws_wh (k:=n) (fun m f hh => ∃ (k : Nat) (out : List (List Nat)) (o3 : Option Val),hh = h ++ [.list (sVs out)] /\ f = some (.str s) :: some (.ref h.length) :: some (.int k) :: o3 :: nn 6 /\ rsF s m k out = some L /\ out.length + m <= n) (Nat.lt_trans hn (by show 2000 < 200000; decide)) ⟨0,[],none,rfl,rfl,e,by rw [List.length_nil]; omega⟩ ?_
 rintro m f hh ⟨k,out,o3,rfl,rfl,em,hm⟩
 obtain _ | m := m
 ·exact nos em
 have hlim : (sVs out).length < lim := by rw [List.length_map]; exact Nat.lt_of_lt_of_le (show out.length < 2000 by omega) (by decide)
 have em : (bif Nat.ble s.length k then some out else Option.casesOn (motive:=fun _ => Option (List (List Nat))) s[k]? none fun c =>
   bif c == 91 then Int.casesOn (motive:=fun _ => Option (List (List Nat))) (zda s [93] k) (fun e => rsF s m (e + 1) (out ++ [cut s (min (k + 1) s.length) (min e s.length)])) (fun _ => none)
   else rsF s m (k + 1) (out ++ [[c]])) = some L := em
 repeat fail
 refine br (fun hb => ?_) (fun hb => ?_)
 ·have hk : k < s.length := by have := of_decide_eq_true hb; omega
  rw [show Nat.ble s.length k = false from by rw [Bool.eq_false_iff]; exact fun e => absurd (Nat.ble_eq.mp e) (by omega),cond_false,List.getElem?_eq_getElem hk] at em
  repeat fail
  refine zbW (List.getElem?_eq_getElem hk) ?_
  repeat fail
  have e91 : (([s[k]] : List Nat) == [91]) = (s[k] == 91) := by
   rw [Bool.eq_iff_iff,beq_iff_eq,beq_iff_eq]
   exact ⟨fun h => (List.cons.inj h).1,fun h => by rw [h]⟩
  rw [e91]
  refine br (fun hc => ?_) (fun hc => ?_)
  ·have em : (bif s[k] == 91 then Int.casesOn (motive:=fun _ => Option (List (List Nat))) (zda s [93] k) (fun e => rsF s m (e + 1) (out ++ [cut s (min (k + 1) s.length) (min e s.length)])) (fun _ => none) else rsF s m (k + 1) (out ++ [[s[k]]])) = some L := em
   rw [hc,cond_true] at em
   repeat fail
   refine wm_find ?_
   generalize zda s [93] k = fv at em
   cases fv with
   | negSucc z => exact nos em
   | ofNat z =>
    have em : rsF s m (z + 1) (out ++ [cut s (min (k + 1) s.length) (min z s.length)]) = some L := em
    repeat fail
    refine zan (decide_eq_false (Int.not_lt.mpr (Int.natCast_nonneg z))) ?_
    repeat fail
    rw [show ((k : Int) + 1) = ((k + 1 : Nat) : Int) by omega]
    refine wsl_s3 (b:=z) ?_
    repeat fail
    refine zbE zac zac hlim ?_
    rw [za2]
    repeat fail
    refine ⟨m,Nat.lt_succ_self m,z + 1,out ++ [cut s (min (k + 1) s.length) (min z s.length)],_,?_,rfl,em,by rw [List.length_append,List.length_singleton]; omega⟩
    show h ++ [MObj.list (sVs out ++ [Val.str (cut s (min (k + 1) s.length) (min z s.length))])] = h ++ [MObj.list ((out ++ [cut s (min (k + 1) s.length) (min z s.length)]).map Val.str)]
    rw [List.map_append]; rfl
  ·have em : (bif s[k] == 91 then Int.casesOn (motive:=fun _ => Option (List (List Nat))) (zda s [93] k) (fun e => rsF s m (e + 1) (out ++ [cut s (min (k + 1) s.length) (min e s.length)])) (fun _ => none) else rsF s m (k + 1) (out ++ [[s[k]]])) = some L := em
   rw [hc,cond_false] at em
   repeat fail
   refine zbW (List.getElem?_eq_getElem hk) ?_
   repeat fail
   refine zbE zac zac hlim ?_
   rw [za2]
   repeat fail
   refine ⟨m,Nat.lt_succ_self m,k + 1,out ++ [[s[k]]],o3,?_,rfl,em,by rw [List.length_append,List.length_singleton]; omega⟩
   show h ++ [MObj.list (sVs out ++ [Val.str [s[k]]])] = h ++ [MObj.list ((out ++ [[s[k]]]).map Val.str)]
   rw [List.map_append]; rfl
 ·rw [show Nat.ble s.length k = true from Nat.ble_eq.mpr (by have := of_decide_eq_false hb; omega),cond_true] at em
  cases em
  repeat fail
  exact q
inductive Ctx (mk tl : List Nat) (L R : List (List Nat)) : Prop
 | no (e : mk = []) (eL : L = []) (eR : R = []) : Ctx mk tl L R
 | yes (l r l' r' : List Nat) (n : Nat) (e : mk = [47]) (e1 : zbH tl [95] = (l,[95],r)) (k1 : sOkB l = true) (k2 : sOkB r = true) (e2 : zcj l = l') (e3 : zcj r = r') (k3 : sOkB l' = true) (k4 : sOkB r' = true) (b1 : l'.length < 2000) (b2 : r'.length < 2000) (hn : n < 2000) (e4 : rsF l' n 0 [] = some L) (e5 : rsF r' n 0 [] = some R) : Ctx mk tl L R
inductive Pre (c : Val) (ct : Option (List Nat)) (t1 t2 : List Nat) : Prop
 | no (e : c = must) (e0 : ct = none) (e1 : t2 = t1) (e2 : ([63] : List Nat).isPrefixOf t1 = false) : Pre c ct t1 t2
 | yes (w : List Nat) (C : Cst c w) (e0 : ct = some w) (e1 : t1 = 63 :: (w ++ 32 :: t2)) (k1 : sOkB w = true) (k2 : sOkB t2 = true) : Pre c ct t1 t2
inductive Par (t : List Nat) (c : Val) (ct : Option (List Nat)) (ps : List (List Nat × List Nat)) (L R : List (List Nat)) : Prop
 | mk (t1 t2 hd mk tl : List Nat) (e1 : zci t = t1) (k1 : sOkB t1 = true) (pr : Pre c ct t1 t2) (e3 : zbH t2 [47] = (hd,mk,tl)) (k3 : sOkB hd = true) (k4 : sOkB tl = true) (k4' : sOkB mk = true) (e4 : zaM hd = ps.map prT) (pw : ∀ p ∈ ps,62 ∉ p.1 /\ sOkB p.1 = true /\ sOkB p.2 = true /\ sOkB (prT p) = true) (cx : Ctx mk tl L R) : Par t c ct ps L R
theorem prefix63 {s : List Nat} : ([63] : List Nat).isPrefixOf (63 :: s) = true := by simp [List.isPrefixOf]
end
end Hd
namespace Hd
open Mi
section
variable {d : Nat} {h h0 : MH} {Q : Val -> MH -> Prop} {r : Nat} {ps : List (List Nat × List Nat)} {L R : List (List Nat)} {c : Val} {aP : Nat} {ct : Option (List Nat)} {v0 v1 v3 v4 v5 v6 v7 v9 v10 v11 v14 : Option Val} {fr f0 : Mi.Frame}
theorem rr_ret {l r : List Nat} {n : Nat} (ef : f0 = v0 :: v1 :: some c :: v3 :: v4 :: v5 :: v6 :: v7 :: some (.ref aP) :: v9 :: v10 :: v11 :: some (.str l) :: some (.str r) :: fr) (hd : 6 <= d) (I : zbe ps L R) (hP : h[aP]? = some (.list (prs ps))) (bl : l.length < 2000) (br : r.length < 2000) (hn : n < 2000) (e1 : rsF l n 0 [] = some L) (e2 : rsF r n 0 [] = some R)
  (q : ∀ t r aR aL aT,Ru (h ++ t) r ps L R c aR aL aT -> Q (.ref r) (h ++ t)) : WS (Cxd P0 d) (Sm.ret (Ex.call (Ex.lit (Val.top 229)) [(Ex.var 8),(Ex.call (Ex.lit (Val.top 238)) [(Ex.var 12)]),(Ex.call (Ex.lit (Val.top 238)) [(Ex.var 13)]),(Ex.var 2)])) f0 h (Beh (Cxd P0 d) [] (Mi.Fin Q)) := by
 subst ef
 repeat fail
 refine zai rfl (za8 (by omega) bl hn e1 ?_)
 repeat fail
 refine zai rfl (za8 (by omega) br hn e2 ?_)
 repeat fail
 refine rule_ok hd I (zaa (zaa hP)) (zaa zac) zac fun t aR aL aT U => ?_
 repeat fail
 rw [show h ++ [MObj.list (sVs L)] ++ [MObj.list (sVs R)] ++ t = h ++ ([MObj.list (sVs L)] ++ ([MObj.list (sVs R)] ++ t)) from by simp only [List.append_assoc]] at U ⊢
 exact q _ _ _ _ _ U
theorem rr_ctx {mk tl : List Nat} (ef : f0 = v0 :: v1 :: some c :: v3 :: v4 :: v5 :: some (.str mk) :: some (.str tl) :: some (.ref aP) :: v9 :: v10 :: v11 :: some (.str []) :: some (.str []) :: v14 :: fr) (hd : 6 <= d) (I : zbe ps L R) (hP : h[aP]? = some (.list (prs ps))) (C : Ctx mk tl L R)
  (q : ∀ t r aR aL aT,Ru (h ++ t) r ps L R c aR aL aT -> Q (.ref r) (h ++ t)) : WS (Cxd P0 d) (Sm.ite (Ex.cmp COp.ne (Ex.var 6) (Ex.lit (Val.str []))) [(Sm.asgs [(T1.nm 12),(T1.nm 14),(T1.nm 13)] (Ex.meth (Ex.var 7) 2073057139020767260526 [(Ex.lit (Val.str [95]))])),(Sm.ite (Ex.cmp COp.eq (Ex.var 14) (Ex.lit (Val.str []))) [(Sm.rse (Ex.bin BOp.add (Ex.lit (Val.str [110,111,32,112,108,97,99,101,32,105,110,32,97,32,99,111,110,116,101,120,116,58,32])) (Ex.call (Ex.lit (Val.top 102)) [(Ex.var 7)])))] []),(Sm.asg (T1.nm 12) (Ex.meth (Ex.var 12) 495874894192 [(Ex.lit (Val.str [32]))])),(Sm.asg (T1.nm 13) (Ex.meth (Ex.var 13) 495874894192 [(Ex.lit (Val.str [32]))]))] []) f0 h (Beh (Cxd P0 d) [(Sm.ret (Ex.call (Ex.lit (Val.top 229)) [(Ex.var 8),(Ex.call (Ex.lit (Val.top 238)) [(Ex.var 12)]),(Ex.call (Ex.lit (Val.top 238)) [(Ex.var 13)]),(Ex.var 2)]))] (Mi.Fin Q)) := by
 subst ef
 cases C with
 | no e eL eR =>
  subst e eL eR
  repeat fail
  refine zan (s:=true) rfl ?_
  repeat first | (with_reducible refine rr_ret (n:=1) rfl hd I hP (by decide) (by decide) (by decide) rfl rfl q) | fail
 | yes l r l' r' n e e1 k1 k2 e2 e3 k3 k4 b1 b2 hn e4 e5 =>
  subst e
  repeat fail
  refine zan (s:=false) rfl ?_
  repeat fail
  refine za7 rfl e1 k1 rfl k2 ?_
  repeat fail
  refine zan (s:=false) rfl ?_
  repeat fail
  refine zaN e2 k3 ?_
  repeat fail
  refine zaN e3 k4 ?_
  repeat first | (with_reducible refine rr_ret (n:=n) rfl hd I hP b1 b2 hn e4 e5 q) | fail
noncomputable abbrev rrF (t : List Nat) (v1 : Option Val) (c : Val) (v3 v4 : Option Val) (hh mk tl : List Nat) (aP : Nat) (v9 v10 v11 : Option Val) (fr : Mi.Frame) : Mi.Frame := some (.str t) :: v1 :: some c :: v3 :: v4 :: some (.str hh) :: some (.str mk) :: some (.str tl) :: some (.ref aP) :: v9 :: v10 :: v11 :: fr
theorem rr_for {t hh mk tl : List Nat} {X : Fl -> Mi.Frame -> MH -> Prop} (ef : f0 = rrF t v1 c v3 v4 hh mk tl h.length v9 v10 v11 fr) (pl : ps.length < 1000) (e4 : zaM hh = ps.map prT) (pw : ∀ p ∈ ps,62 ∉ p.1 /\ sOkB p.1 = true /\ sOkB p.2 = true /\ sOkB (prT p) = true)
  (q : ∀ v3 v9 v10 v11,X .nx (rrF t v1 c v3 v4 hh mk tl h.length v9 v10 v11 fr) (h ++ .list (prs ps) :: [.list (sVs (ps.map prT))])) : WS (Cxd P0 d) (Sm.fo [3] false (Ex.meth (Ex.var 5) 495807392116 []) [(Sm.asgs [(T1.nm 9),(T1.nm 10),(T1.nm 11)] (Ex.meth (Ex.var 3) 2073057139020767260526 [(Ex.lit (Val.str [62]))])),(Sm.ite (Ex.cmp COp.eq (Ex.var 10) (Ex.lit (Val.str []))) [(Sm.rse (Ex.bin BOp.add (Ex.lit (Val.str [110,111,32,112,97,105,114,58,32])) (Ex.call (Ex.lit (Val.top 102)) [(Ex.var 3)])))] []),(Sm.expr (Ex.meth (Ex.var 8) 107135549927012 [(Ex.tup [(Ex.var 9),(Ex.var 11)])]))]) f0 (h ++ [.list []]) X := by
 subst ef
 refine ws_for ?_
 repeat fail
 refine wm_split e4 (fun w hw => ?_) (by rw [List.length_map]; exact Nat.le_trans (Nat.le_of_lt pl) (by decide)) ?_
 ·obtain ⟨p,hp,rfl⟩ := List.mem_map.mp hw
  exact (pw p hp).2.2.2
 rw [List.append_assoc]
 refine ⟨.ls (h ++ [MObj.list []]).length,sVs (ps.map prT),zbb (by rw [show h ++ ([MObj.list []] ++ [MObj.list (sVs (ps.map prT))]) = (h ++ [MObj.list []]) ++ [MObj.list (sVs (ps.map prT))] from (List.append_assoc ..).symm]; exact zac),by rw [List.length_map,List.length_map]; exact Nat.lt_trans pl (by show 1000 < 200000; decide),
  fun i f g => g = h ++ .list (prs (ps.take i)) :: [.list (sVs (ps.map prT))] /\ ∃ v3 v9 v10 v11,f = rrF t v1 c v3 v4 hh mk tl h.length v9 v10 v11 fr,⟨rfl,_,_,_,_,rfl⟩,?_,?_,?_⟩
 ·rintro i f g ⟨rfl,_⟩
  exact zba (by rw [List.length_append,List.getElem?_append_right (by simp),show h.length + [MObj.list []].length - h.length = 1 from Nat.add_sub_cancel_left ..]; rfl)
 ·rintro i x hx f g ⟨rfl,o3,o9,o10,o11,rfl⟩
  clear q
  rw [List.getElem?_map,List.getElem?_map] at hx
  obtain ⟨w,hw,rfl⟩ := ms hx
  obtain ⟨p,hp,rfl⟩ := ms hw
  obtain ⟨p1,p2,p3,p4⟩ := pw p (List.mem_of_getElem? hp)
  refine zde ?_
  repeat fail
  refine za7 rfl (part_at p1) p2 rfl p3 ?_
  repeat fail
  refine zan (s:=false) rfl ?_
  repeat fail
  refine zbE zac zac (by rw [List.length_map,List.length_take]; exact Nat.lt_of_le_of_lt (Nat.min_le_right _ _) (Nat.lt_of_lt_of_le pl (by decide))) ?_
  rw [za2]
  repeat fail
  refine ⟨?_,_,_,_,_,rfl⟩
  obtain ⟨hi,rfl⟩ := List.getElem?_eq_some_iff.mp hp
  rw [List.take_succ_eq_append_getElem hi]
  show _ = h ++ .list ((ps.take i ++ [ps[i]]).map fun p => Val.tup [.str p.1,.str p.2]) :: [.list (sVs (ps.map prT))]
  rw [List.map_append]; rfl
 ·rintro f g ⟨rfl,o3,o9,o10,o11,rfl⟩
  rw [List.length_map,List.length_map,List.take_length]
  exact q _ _ _ _
theorem rr_rows {t2 hh mk tl : List Nat} (ef : f0 = some (.str t2) :: v1 :: some c :: v3 :: v4 :: none :: none :: none :: none :: none :: none :: none :: none :: none :: none :: nn 6) (hd : 6 <= d) (I : zbe ps L R) (e3 : zbH t2 [47] = (hh,mk,tl)) (k3 : sOkB hh = true) (k4 : sOkB tl = true) (k4' : sOkB mk = true) (e4 : zaM hh = ps.map prT) (pw : ∀ p ∈ ps,62 ∉ p.1 /\ sOkB p.1 = true /\ sOkB p.2 = true /\ sOkB (prT p) = true) (C : Ctx mk tl L R)
  (q : ∀ t r aR aL aT,Ru (h ++ t) r ps L R c aR aL aT -> Q (.ref r) (h ++ t)) : WS (Cxd P0 d) (Sm.asgs [(T1.nm 5),(T1.nm 6),(T1.nm 7)] (Ex.meth (Ex.var 0) 2073057139020767260526 [(Ex.lit (Val.str [47]))])) f0 h (Beh (Cxd P0 d) [(Sm.asg (T1.nm 8) (Ex.list [])),(Sm.fo [3] false (Ex.meth (Ex.var 5) 495807392116 []) [(Sm.asgs [(T1.nm 9),(T1.nm 10),(T1.nm 11)] (Ex.meth (Ex.var 3) 2073057139020767260526 [(Ex.lit (Val.str [62]))])),(Sm.ite (Ex.cmp COp.eq (Ex.var 10) (Ex.lit (Val.str []))) [(Sm.rse (Ex.bin BOp.add (Ex.lit (Val.str [110,111,32,112,97,105,114,58,32])) (Ex.call (Ex.lit (Val.top 102)) [(Ex.var 3)])))] []),(Sm.expr (Ex.meth (Ex.var 8) 107135549927012 [(Ex.tup [(Ex.var 9),(Ex.var 11)])]))]),(Sm.asg (T1.nm 12) (Ex.lit (Val.str []))),(Sm.asg (T1.nm 13) (Ex.lit (Val.str []))),(Sm.ite (Ex.cmp COp.ne (Ex.var 6) (Ex.lit (Val.str []))) [(Sm.asgs [(T1.nm 12),(T1.nm 14),(T1.nm 13)] (Ex.meth (Ex.var 7) 2073057139020767260526 [(Ex.lit (Val.str [95]))])),(Sm.ite (Ex.cmp COp.eq (Ex.var 14) (Ex.lit (Val.str []))) [(Sm.rse (Ex.bin BOp.add (Ex.lit (Val.str [110,111,32,112,108,97,99,101,32,105,110,32,97,32,99,111,110,116,101,120,116,58,32])) (Ex.call (Ex.lit (Val.top 102)) [(Ex.var 7)])))] []),(Sm.asg (T1.nm 12) (Ex.meth (Ex.var 12) 495874894192 [(Ex.lit (Val.str [32]))])),(Sm.asg (T1.nm 13) (Ex.meth (Ex.var 13) 495874894192 [(Ex.lit (Val.str [32]))]))] []),(Sm.ret (Ex.call (Ex.lit (Val.top 229)) [(Ex.var 8),(Ex.call (Ex.lit (Val.top 238)) [(Ex.var 12)]),(Ex.call (Ex.lit (Val.top 238)) [(Ex.var 13)]),(Ex.var 2)]))] (Mi.Fin Q)) := by
 subst ef
 have pl := I.pl
 repeat fail
 refine za7 rfl e3 k3 k4' k4 ?_
 iterate 12 fail
 refine rr_for rfl pl e4 pw fun o3 o9 o10 o11 => ?_
 iterate 10 fail
 refine rr_ctx rfl hd I zac C fun t r aR aL aT U => ?_
 rw [List.append_assoc] at U ⊢
 exact q _ _ _ _ _ U
theorem rrule_ok {t : List Nat} (hd : 7 <= d) (I : zbe ps L R) (Z : Par t c ct ps L R) (q : ∀ t r aR aL aT,Ru (h ++ t) r ps L R c aR aL aT -> Q (.ref r) (h ++ t)) : WF P0 d 239 [.str t,.top 113] h Q := by
 refine zaO (K:=6) hd (some (.str t) :: some (.top 113) :: nn 19) rfl rfl rfl fun d' h' => ?_
 unfold bd_rules_read_rule
 obtain ⟨t1,t2,hh,mk,tl,e1,k1,pr,e3,k3,k4,k4',e4,pw,cx⟩ := Z
 repeat fail
 refine wm_strip e1 k1 ?_
 repeat fail
 refine zch ?_
 repeat fail
 cases pr with
 | no e e0 e1 e2 =>
  subst e e1
  rw [e2]
  repeat first | (with_reducible refine rr_rows rfl h' I e3 k3 k4 k4' e4 pw cx q) | fail
 | yes w C e0 e1 kw k2 =>
  have h32 : 32 ∉ 63 :: w := fun hm => by
   rcases List.mem_cons.mp hm with h | h
   ·exact absurd h (by decide)
   ·have := (Bool.and_eq_true_iff.mp (List.all_eq_true.mp C.ok 32 h)).1
    exact absurd this (by decide)
  subst e1
  rw [prefix63]
  repeat fail
  refine za7 (a:=63 :: w) (b:=[32]) (c:=t2) rfl (part_at (a:=63 :: w) h32) (by
   unfold sOkB at kw ⊢
   have kw := Bool.and_eq_true_iff.mp kw
   have := C.len
   rw [List.all_cons,kw.1,Nat.ble_eq.mpr (show (63 :: w).length <= lim from Nat.le_trans (show _ <= 5 by rw [List.length_cons]; omega) (by decide))]; rfl) rfl k2 ?_
  repeat fail
  refine zcE (a:=1) ?_
  repeat fail
  refine C.rd (by omega) ?_
  repeat fail
  refine C.nd (by omega) ?_
  repeat first | (with_reducible refine rr_rows rfl h' I e3 k3 k4 k4' e4 pw cx q) | fail
end
end Hd
namespace Hd
open Mi
noncomputable def sw (s : List Nat) : List (Nat × Nat) := PySem.Builtin.Str.spaceWords ⟨s.toArray⟩ (s.length + 1)
noncomputable def pat (s : List Nat) : List Nat := s.map fun c => bif PySem.Unicode.isSpace c then 32 else 97
theorem sw_pat (s : List Nat) : sw s = sw (pat s) := by
 have hl : (pat s).length = s.length := List.length_map ..
 have hp : ∀ i,PySem.Unicode.isSpace ((s.toArray).getD i 0) = PySem.Unicode.isSpace (((pat s).toArray).getD i 0) := by
  intro i
  rw [Array.getD_eq_getD_getElem?,Array.getD_eq_getD_getElem?,List.getElem?_toArray,List.getElem?_toArray]
  unfold pat
  rw [List.getElem?_map]
  cases s[i]? with
  | none => rfl
  | some c =>
   show PySem.Unicode.isSpace c = PySem.Unicode.isSpace (bif PySem.Unicode.isSpace c then 32 else 97)
   cases PySem.Unicode.isSpace c with
   | true => exact (by decide +kernel : true = PySem.Unicode.isSpace 32)
   | false => exact (by decide +kernel : false = PySem.Unicode.isSpace 97)
 unfold sw
 rw [PySem.StrLaws.sw_eq,PySem.StrLaws.sw_eq]
 show PySem.StrLaws.swEnd ⟨s.toArray⟩ (forIn (List.range' 0 s.length) _ (PySem.StrLaws.swBody ⟨s.toArray⟩ (s.length + 1))).run = PySem.StrLaws.swEnd ⟨(pat s).toArray⟩ (forIn (List.range' 0 (pat s).length) _ (PySem.StrLaws.swBody ⟨(pat s).toArray⟩ ((pat s).length + 1))).run
 have eb : ∀ n,PySem.StrLaws.swBody ⟨s.toArray⟩ n = PySem.StrLaws.swBody ⟨(pat s).toArray⟩ n := by
  intro n
  funext i st
  unfold PySem.StrLaws.swBody
  rw [hp i]
  show (if _ then (if _ then pure (ForInStep.done (some (st.snd.fst.push (i,s.length)).toList,st.snd.fst,st.snd.snd)) else _) else _) = (if _ then (if _ then pure (ForInStep.done (some (st.snd.fst.push (i,(pat s).length)).toList,st.snd.fst,st.snd.snd)) else _) else _)
  rw [hl]
 have ee : ∀ st,PySem.StrLaws.swEnd ⟨s.toArray⟩ st = PySem.StrLaws.swEnd ⟨(pat s).toArray⟩ st := by
  intro st
  unfold PySem.StrLaws.swEnd
  show (match st.fst with | some r => r | none => (match st.snd.snd with | some b => st.snd.fst.push (b,s.length) | none => st.snd.fst).toList) = (match st.fst with | some r => r | none => (match st.snd.snd with | some b => st.snd.fst.push (b,(pat s).length) | none => st.snd.fst).toList)
  rw [hl]
 rw [eb,ee,hl]
theorem zbC (s : List Nat) : zaM s = (sw s).map fun p => (s.take p.2).drop p.1 := by
 unfold zaM PySem.Txt.words
 show List.map _ (if (sw s == [(0,s.length)]) = true then [_] else _) = _
 by_cases h : (sw s == [(0,s.length)]) = true
 ·rw [if_pos h,beq_iff_eq.mp h]
  show [s] = [(s.take s.length).drop 0]
  rw [List.take_length,List.drop_zero]
 ·rw [if_neg h]
  unfold PySem.wordsOf
  rw [List.map_map]
  refine List.map_congr_left fun p _ => ?_
  show ((s.toArray).extract p.1 p.2).toList = _
  rw [List.extract_toArray]
  show s.extract p.1 p.2 = _
  rw [List.extract_eq_drop_take,List.drop_take]
noncomputable def noSp (w : List Nat) : Bool := w.all fun c => !PySem.Unicode.isSpace c
theorem pat_no {w : List Nat} (h : noSp w = true) : pat w = List.replicate w.length 97 := by
 induction w with
 | nil => rfl
 | cons c w ih =>
  have h := Bool.and_eq_true_iff.mp h
  show (bif PySem.Unicode.isSpace c then 32 else 97) :: pat w = 97 :: List.replicate w.length 97
  rw [ih h.2,show PySem.Unicode.isSpace c = false from by have : (!PySem.Unicode.isSpace c) = true := h.1; cases hq : PySem.Unicode.isSpace c; rfl; rw [hq] at this; exact nomatch this]; rfl
theorem sw_1 : ∀ n ∈ List.range' 1 6,sw (List.replicate n 97) = [(0,n)] /\ sw (List.replicate n 97 ++ [32]) = [(0,n)] := by decide +kernel
theorem sw_2 : ∀ n ∈ List.range' 1 6,∀ m ∈ List.range' 1 6,sw (List.replicate n 97 ++ 32 :: List.replicate m 97) = [(0,n),(n + 1,n + 1 + m)] /\ sw (List.replicate n 97 ++ 32 :: (List.replicate m 97 ++ [32])) = [(0,n),(n + 1,n + 1 + m)] := by decide +kernel
theorem in6 {n : Nat} (h1 : 1 <= n) (h2 : n <= 6) : n ∈ List.range' 1 6 := by rw [List.mem_range'_1]; omega
theorem zc6 (a b : List Nat) : pat (a ++ b) = pat a ++ pat b := List.map_append
theorem pat_sp : pat [32] = [32] := by decide +kernel
theorem words1 {w : List Nat} (h : noSp w = true) (h1 : 1 <= w.length) (h2 : w.length <= 6) : zaM w = [w] /\ zaM (w ++ [32]) = [w] := by
 have e := sw_1 _ (in6 h1 h2)
 rw [zbC,zbC,sw_pat,sw_pat (w ++ [32]),zc6,pat_sp,pat_no h,e.1,e.2]
 refine ⟨?_,?_⟩
 ·show [(w.take w.length).drop 0] = _
  rw [List.take_length,List.drop_zero]
 ·show [((w ++ [32]).take w.length).drop 0] = _
  rw [List.take_left,List.drop_zero]
theorem words2 {w v : List Nat} (h : noSp w = true) (h1 : 1 <= w.length) (h2 : w.length <= 6) (g : noSp v = true) (g1 : 1 <= v.length) (g2 : v.length <= 6) : zaM (w ++ 32 :: v) = [w,v] /\ zaM (w ++ 32 :: v ++ [32]) = [w,v] := by
 have e := sw_2 _ (in6 h1 h2) _ (in6 g1 g2)
 have p1 : pat (w ++ 32 :: v) = List.replicate w.length 97 ++ 32 :: List.replicate v.length 97 := by
  rw [zc6,show pat (32 :: v) = pat ([32] ++ v) from rfl,zc6,pat_sp,pat_no h,pat_no g]; rfl
 have p2 : pat (w ++ 32 :: v ++ [32]) = List.replicate w.length 97 ++ 32 :: (List.replicate v.length 97 ++ [32]) := by
  rw [zc6,p1,pat_sp,List.append_assoc]; rfl
 rw [zbC,zbC,sw_pat,sw_pat (w ++ 32 :: v ++ [32]),p1,p2,e.1,e.2]
 have t1 : ∀ z,((w ++ 32 :: z).take w.length).drop 0 = w := fun z => by rw [List.take_left,List.drop_zero]
 have t2 : ∀ z,((w ++ 32 :: (v ++ z)).take (w.length + 1 + v.length)).drop (w.length + 1) = v := fun z => by
  rw [show w ++ 32 :: (v ++ z) = (w ++ 32 :: v) ++ z from by rw [List.append_assoc]; rfl,show w.length + 1 + v.length = (w ++ 32 :: v).length from by rw [List.length_append,List.length_cons]; omega,List.take_left,show w ++ 32 :: v = (w ++ [32]) ++ v from by rw [List.append_assoc]; rfl,show w.length + 1 = (w ++ [32]).length from by rw [List.length_append]; rfl,List.drop_left]
 refine ⟨?_,?_⟩
 ·show [((w ++ 32 :: v).take w.length).drop 0,((w ++ 32 :: v).take (w.length + 1 + v.length)).drop (w.length + 1)] = _
  have := t2 []
  rw [List.append_nil] at this
  rw [t1,this]
 ·show [((w ++ 32 :: v ++ [32]).take w.length).drop 0,((w ++ 32 :: v ++ [32]).take (w.length + 1 + v.length)).drop (w.length + 1)] = _
  rw [show w ++ 32 :: v ++ [32] = w ++ 32 :: (v ++ [32]) from by rw [List.append_assoc]; rfl,t1,t2]
end Hd
namespace Hd
open Mi
noncomputable def zb3 (s : List Nat) : Bool := (s.head?.map fun a => !PySem.Unicode.isSpace a).getD false && (s.getLast?.map fun a => !PySem.Unicode.isSpace a).getD false
theorem zcO {s : List Nat} (h : zb3 s = true) : zci s = s := by
 have h := Bool.and_eq_true_iff.mp h
 cases s with
 | nil => exact nomatch h.1
 | cons a x =>
  have h1 : (!PySem.Unicode.isSpace a) = true := h.1
  have hne : (a :: x) ≠ [] := List.cons_ne_nil _ _
  have h2 := h.2
  rw [List.getLast?_eq_getLast hne] at h2
  have h2 : (!PySem.Unicode.isSpace ((a :: x).getLast hne)) = true := h2
  exact strip_id rfl (List.dropLast_concat_getLast hne).symm (by cases hq : PySem.Unicode.isSpace a; rfl; rw [hq] at h1; exact nomatch h1) (by cases hq : PySem.Unicode.isSpace ((a :: x).getLast hne); rfl; rw [hq] at h2; exact nomatch h2)
theorem zdb {s m t : List Nat} (h1 : zb3 s = true) (h2 : zb3 t = true) : zb3 (s ++ m ++ t) = true := by
 have h1 := Bool.and_eq_true_iff.mp h1
 have h2 := Bool.and_eq_true_iff.mp h2
 unfold zb3
 cases s with
 | nil => exact nomatch h1.1
 | cons a x =>
  cases t with
  | nil => exact nomatch h2.1
  | cons b y =>
   rw [show (a :: x ++ m ++ b :: y).getLast? = (b :: y).getLast? from by rw [List.getLast?_append,List.getLast?_eq_getLast (List.cons_ne_nil _ _)]; rfl]
   exact Bool.and_eq_true_iff.mpr ⟨h1.1,h2.2⟩
noncomputable def asc (s : List Nat) : Bool := s.all fun c => Nat.ble c 126
theorem zaR {s : List Nat} (h : asc s = true) (hl : s.length <= 4000) : sOkB s = true := by
 unfold sOkB
 refine Bool.and_eq_true_iff.mpr ⟨List.all_eq_true.mpr fun c hc => ?_,Nat.ble_eq.mpr (Nat.le_trans hl (by decide))⟩
 have := Nat.ble_eq.mp (List.all_eq_true.mp h c hc)
 exact Nat.ble_eq.mpr (by omega)
theorem zcx {s t : List Nat} : asc (s ++ t) = (asc s && asc t) := List.all_append
noncomputable def prB (p : List Nat × List Nat) : Bool := noSp (prT p) && (zb3 (prT p) && (asc (prT p) && (!(prT p).contains 47 && (!p.1.contains 62 && (asc p.1 && (asc p.2 && ((prT p).head? != some 63 && (Nat.ble (prT p).length 6 && Nat.ble 1 (prT p).length))))))))
theorem pr_ok : ∀ a ∈ oldsL,∀ b ∈ newsL,prB (a,b) = true := by decide +kernel
noncomputable def cxB (L R : List (List Nat)) : Bool :=
 let t := ctxT L R; let p := zbH (32 :: t) [95]; let l := zcj p.1; let r := zcj p.2.2
 zb3 t && (asc t && (Nat.ble t.length 900 && (p.2.1 == [95] && (asc p.1 && (asc p.2.2 && (asc l && (asc r && (Nat.ble p.1.length 900 && (Nat.ble p.2.2.length 900 && (Nat.ble l.length 900 && (Nat.ble r.length 900 && (rsF l 100 0 [] == some L && rsF r 100 0 [] == some R))))))))))))
noncomputable def lnB (L R : List (List Nat)) : Bool := Nat.ble L.length 99 && (Nat.ble R.length 99 && (L.all (fun s => Nat.ble s.length 99) && (R.all (fun s => Nat.ble s.length 99) && (Nat.ble (zb1 L).length 999 && (Nat.ble (zb1 R).length 999 && (asc (ctxT L R) && Nat.ble (ctxT L R).length 900))))))
theorem cx_ok : ∀ L ∈ leftsL,∀ R ∈ rightsL,lnB L R = true /\ (L.length + R.length ≠ 0 -> cxB L R = true) := by decide +kernel
theorem cx_3 : lnB [[35],[97,98]] [] = true /\ cxB [[35],[97,98]] [] = true := by decide +kernel
end Hd
namespace Hd
open Mi
section
variable {ps : List (List Nat × List Nat)} {L R : List (List Nat)} {c : Val} {ct : Option (List Nat)}
structure RowsT (ps : List (List Nat × List Nat)) : Prop where
 en : zb3 (zaz ps) = true
 as : asc (zaz ps) = true
 no : 47 ∉ zaz ps
 hd : (zaz ps).head? ≠ some 63
 ln : (zaz ps).length <= 13
 w1 : zaM (zaz ps) = ps.map prT
 w2 : zaM (zaz ps ++ [32]) = ps.map prT
structure PrB (p : List Nat × List Nat) : Prop where
 ns : noSp (prT p) = true
 en : zb3 (prT p) = true
 as : asc (prT p) = true
 no : 47 ∉ prT p
 n62 : 62 ∉ p.1
 a1 : asc p.1 = true
 a2 : asc p.2 = true
 hd : (prT p).head? ≠ some 63
 l6 : (prT p).length <= 6
 l1 : 1 <= (prT p).length
theorem no_of {s : List Nat} {c : Nat} (h : (!s.contains c) = true) : c ∉ s := fun hm => by
 rw [List.contains_iff_mem.mpr hm] at h; exact nomatch h
theorem prB_s {p : List Nat × List Nat} (h : prB p = true) : PrB p := by
 have h := Bool.and_eq_true_iff.mp h
 have h2 := Bool.and_eq_true_iff.mp h.2
 have h3 := Bool.and_eq_true_iff.mp h2.2
 have h4 := Bool.and_eq_true_iff.mp h3.2
 have h5 := Bool.and_eq_true_iff.mp h4.2
 have h6 := Bool.and_eq_true_iff.mp h5.2
 have h7 := Bool.and_eq_true_iff.mp h6.2
 have h8 := Bool.and_eq_true_iff.mp h7.2
 have h9 := Bool.and_eq_true_iff.mp h8.2
 exact ⟨h.1,h2.1,h3.1,no_of h4.1,no_of h5.1,h6.1,h7.1,bne_iff_ne.mp h8.1,Nat.ble_eq.mp h9.1,Nat.ble_eq.mp h9.2⟩
theorem rows_ok (hp : ∀ p ∈ ps,prB p = true) (hn : ps.length = 1 \/ ps.length = 2) : RowsT ps := by
 rcases ps with _ | ⟨p,_ | ⟨p',_ | ⟨_,_⟩⟩⟩
 ·simp at hn
 ·have P := prB_s (hp p (.head _))
  have w := words1 P.ns P.l1 P.l6
  exact ⟨P.en,P.as,P.no,P.hd,Nat.le_trans P.l6 (by decide),w.1,w.2⟩
 ·have P := prB_s (hp p (.head _))
  have P' := prB_s (hp p' (.tail _ (.head _)))
  have w := words2 P.ns P.l1 P.l6 P'.ns P'.l1 P'.l6
  have e : zaz [p,p'] = prT p ++ 32 :: prT p' := rfl
  refine ⟨?_,?_,?_,?_,?_,w.1,w.2⟩
  ·rw [e,show prT p ++ 32 :: prT p' = prT p ++ [32] ++ prT p' from by rw [List.append_assoc]; rfl]
   exact zdb P.en P'.en
  ·rw [e,zcx,P.as]; exact P'.as
  ·rw [e]
   intro hm
   rcases List.mem_append.mp hm with h | h
   ·exact P.no h
   ·rcases List.mem_cons.mp h with h | h
    ·exact absurd h (by decide)
    ·exact P'.no h
  ·rw [e]
   have := P.hd
   cases hq : prT p with
   | nil => exact absurd P.l1 (by rw [hq]; decide)
   | cons a x => rw [hq] at this; exact this
  ·rw [e,List.length_append,List.length_cons]
   have := P.l6
   have := P'.l6
   omega
 ·simp at hn
theorem line_some {w : List Nat} : zaK (some w) ps L R = 63 :: (w ++ 32 :: zaK none ps L R) := by
 unfold zaK
 cases (L.length + R.length == 0) with
 | true => rfl
 | false =>
  show (63 :: (w ++ 32 :: zaz ps)) ++ 32 :: 47 :: 32 :: ctxT L R = 63 :: (w ++ 32 :: (zaz ps ++ 32 :: 47 :: 32 :: ctxT L R))
  rw [List.cons_append,List.append_assoc]; rfl
structure CxB (L R : List (List Nat)) : Prop where
 en : zb3 (ctxT L R) = true
 as : asc (ctxT L R) = true
 ln : (ctxT L R).length <= 900
 cx : Ctx [47] (32 :: ctxT L R) L R
theorem cxB_s (h : cxB L R = true) : CxB L R := by
 have h := Bool.and_eq_true_iff.mp h
 have h2 := Bool.and_eq_true_iff.mp h.2
 have h3 := Bool.and_eq_true_iff.mp h2.2
 have h4 := Bool.and_eq_true_iff.mp h3.2
 have h5 := Bool.and_eq_true_iff.mp h4.2
 have h6 := Bool.and_eq_true_iff.mp h5.2
 have h7 := Bool.and_eq_true_iff.mp h6.2
 have h8 := Bool.and_eq_true_iff.mp h7.2
 have h9 := Bool.and_eq_true_iff.mp h8.2
 have hA := Bool.and_eq_true_iff.mp h9.2
 have hB := Bool.and_eq_true_iff.mp hA.2
 have hC := Bool.and_eq_true_iff.mp hB.2
 have hD := Bool.and_eq_true_iff.mp hC.2
 have n1 := Nat.ble_eq.mp h9.1
 have n2 := Nat.ble_eq.mp hA.1
 have n3 := Nat.ble_eq.mp hB.1
 have n4 := Nat.ble_eq.mp hC.1
 refine ⟨h.1,h2.1,Nat.ble_eq.mp h3.1,.yes (zbH (32 :: ctxT L R) [95]).1 (zbH (32 :: ctxT L R) [95]).2.2 _ _ 100 rfl ?_ (zaR h5.1 (Nat.le_trans n1 (by decide))) (zaR h6.1 (Nat.le_trans n2 (by decide))) rfl rfl (zaR h7.1 (Nat.le_trans n3 (by decide))) (zaR h8.1 (Nat.le_trans n4 (by decide))) (Nat.lt_of_le_of_lt n3 (by decide)) (Nat.lt_of_le_of_lt n4 (by decide)) (by decide) (beq_iff_eq.mp hD.1) (beq_iff_eq.mp hD.2)⟩
 exact Prod.ext rfl (Prod.ext (beq_iff_eq.mp h4.1) rfl)
theorem lineOk_of (hp : ∀ p ∈ ps,prB p = true) (hn : ps.length = 1 \/ ps.length = 2) (hl : lnB L R = true) : zcC ps L R := by
 have hl := Bool.and_eq_true_iff.mp hl
 have h2 := Bool.and_eq_true_iff.mp hl.2
 have h3 := Bool.and_eq_true_iff.mp h2.2
 have h4 := Bool.and_eq_true_iff.mp h3.2
 have h5 := Bool.and_eq_true_iff.mp h4.2
 have h6 := Bool.and_eq_true_iff.mp h5.2
 have h7 := Bool.and_eq_true_iff.mp h6.2
 have n1 := Nat.ble_eq.mp hl.1
 have n2 := Nat.ble_eq.mp h2.1
 have n3 := Nat.ble_eq.mp h5.1
 have n4 := Nat.ble_eq.mp h6.1
 have n5 := Nat.ble_eq.mp h7.2
 have T := rows_ok hp hn
 refine ⟨by omega,fun p hm => ?_,Nat.le_trans T.ln (by decide),by omega,by omega,fun s hs => ?_,fun s hs => ?_,by omega,by omega,zaR h7.1 (Nat.le_trans n5 (by decide)),by omega⟩
 ·have := (prB_s (hp p hm)).l6
  unfold prT at this
  rw [List.length_append,List.length_cons] at this
  omega
 ·have := Nat.ble_eq.mp (List.all_eq_true.mp h3.1 s hs); omega
 ·have := Nat.ble_eq.mp (List.all_eq_true.mp h4.1 s hs); omega
theorem par_ok (hp : ∀ p ∈ ps,prB p = true) (hn : ps.length = 1 \/ ps.length = 2) (hc : L.length + R.length ≠ 0 -> cxB L R = true) (C : Cost c ct) : Par (zaK ct ps L R) c ct ps L R := by
 have T := rows_ok hp hn
 have pw : ∀ p ∈ ps,62 ∉ p.1 /\ sOkB p.1 = true /\ sOkB p.2 = true /\ sOkB (prT p) = true := fun p hm => by
  have P := prB_s (hp p hm)
  have l := P.l6
  have l' : p.1.length + (p.2.length + 1) <= 6 := by
   have := P.l6
   unfold prT at this
   rwa [List.length_append,List.length_cons] at this
  exact ⟨P.n62,zaR P.a1 (by omega),zaR P.a2 (by omega),zaR P.as (by omega)⟩
 -- the text behind the cost
 have key : ∃ hd mk tl,zb3 (zaK none ps L R) = true /\ asc (zaK none ps L R) = true /\ (zaK none ps L R).length <= 916 /\ (zaK none ps L R).head? ≠ some 63 /\ zbH (zaK none ps L R) [47] = (hd,mk,tl) /\ sOkB hd = true /\ sOkB tl = true /\ sOkB mk = true /\ zaM hd = ps.map prT /\ Ctx mk tl L R := by
  unfold zaK
  by_cases h0 : L.length + R.length = 0
  ·rw [show (L.length + R.length == 0) = true from beq_iff_eq.mpr h0]
   exact ⟨zaz ps,[],[],T.en,T.as,Nat.le_trans T.ln (by decide),T.hd,part_no T.no,zaR T.as (Nat.le_trans T.ln (by decide)),rfl,rfl,T.w1,.no rfl (List.length_eq_zero_iff.mp (by omega)) (List.length_eq_zero_iff.mp (by omega))⟩
  ·rw [show (L.length + R.length == 0) = false from beq_eq_false_iff_ne.mpr h0]
   have X := cxB_s (hc h0)
   have e1 : zaz ps ++ 32 :: 47 :: 32 :: ctxT L R = zaz ps ++ [32,47,32] ++ ctxT L R := by rw [List.append_assoc]; rfl
   have e2 : zaz ps ++ 32 :: 47 :: 32 :: ctxT L R = (zaz ps ++ [32]) ++ 47 :: (32 :: ctxT L R) := by rw [List.append_assoc]; rfl
   refine ⟨zaz ps ++ [32],[47],32 :: ctxT L R,?_,?_,?_,?_,?_,?_,?_,by decide +kernel,T.w2,X.cx⟩
   ·show zb3 (zaz ps ++ 32 :: 47 :: 32 :: ctxT L R) = true
    rw [e1]; exact zdb T.en X.en
   ·show asc (zaz ps ++ 32 :: 47 :: 32 :: ctxT L R) = true
    rw [e1,zcx,zcx,T.as,X.as]; rfl
   ·show (zaz ps ++ 32 :: 47 :: 32 :: ctxT L R).length <= 916
    have := T.ln
    have := X.ln
    rw [List.length_append]
    simp only [List.length_cons]
    omega
   ·show (zaz ps ++ 32 :: 47 :: 32 :: ctxT L R).head? ≠ some 63
    have := T.hd
    have en := T.en
    cases hq : zaz ps with
    | nil => rw [hq] at en; exact nomatch en
    | cons a x => rw [hq] at this; exact this
   ·show zbH (zaz ps ++ 32 :: 47 :: 32 :: ctxT L R) [47] = _
    rw [e2]
    refine part_at fun hm => ?_
    rcases List.mem_append.mp hm with h | h
    ·exact T.no h
    ·exact absurd (List.mem_singleton.mp h) (by decide)
   ·exact zaR (by rw [zcx,T.as]; rfl) (by rw [List.length_append]; have := T.ln; simp only [List.length_cons,List.length_nil]; omega)
   ·exact zaR (show (Nat.ble 32 126 && asc (ctxT L R)) = true by rw [X.as]; rfl) (by rw [List.length_cons]; have := X.ln; omega)
 obtain ⟨hd,mk,tl,en,as,ln,hh,e3,k3,k4,k4',e4,cx⟩ := key
 cases C with
 | must e =>
  refine .mk (zaK none ps L R) (zaK none ps L R) hd mk tl (zcO en) (zaR as (by omega)) (.no e rfl rfl ?_) e3 k3 k4 k4' e4 pw cx
  cases hq : zaK none ps L R with
  | nil => rfl
  | cons a x =>
   rw [hq] at hh
   show ((63 == a) && _) = false
   rw [show ((63 : Nat) == a) = false from beq_eq_false_iff_ne.mpr fun e => hh (by rw [<- e]; rfl)]; rfl
 | @some w C =>
  have wa : asc w = true := List.all_eq_true.mpr fun x hx => (Bool.and_eq_true_iff.mp (List.all_eq_true.mp C.ok x hx)).2
  have wl := C.len
  rw [line_some]
  refine .mk (63 :: (w ++ 32 :: zaK none ps L R)) (zaK none ps L R) hd mk tl (zcO ?_) (zaR ?_ ?_) (.yes w C rfl rfl (zaR wa (by omega)) (zaR as (by omega))) e3 k3 k4 k4' e4 pw cx
  ·rw [show 63 :: (w ++ 32 :: zaK none ps L R) = [63] ++ (w ++ [32]) ++ zaK none ps L R from by rw [List.append_assoc,List.append_assoc]; rfl]
   exact zdb (by decide +kernel) en
  ·show (Nat.ble 63 126 && asc (w ++ 32 :: zaK none ps L R)) = true
   rw [zcx,wa]
   show (Nat.ble 63 126 && (true && (Nat.ble 32 126 && asc (zaK none ps L R)))) = true
   rw [as]; rfl
  ·rw [List.length_cons,List.length_append,List.length_cons]
   omega
end
end Hd
namespace Hd
open Mi
noncomputable def wv (o : Option Nat) : Val := Option.casesOn (motive:=fun _ => Val) o Val.none fun k => .int (k : Int)
noncomputable def plW (a b : Option Nat) : Option Nat := Option.casesOn (motive:=fun _ => Option Nat) a b fun x => Option.casesOn (motive:=fun _ => Option Nat) b (some x) fun y => some (if y < x then y else x)
noncomputable def tmW (a b : Option Nat) : Option Nat := Option.casesOn (motive:=fun _ => Option Nat) a none fun x => Option.casesOn (motive:=fun _ => Option Nat) b none fun y => some (x + y)
section
variable {d : Nat} {h h0 : MH} {Q : Val -> MH -> Prop}
theorem lneed {o : Option Nat} (ho : ∀ k,o = some k -> k <= 5000) (hd : 2 <= d) (q : Q (wv o) h) : WM (Cxd P0 d) (.top 113) nNeed [wv o] h0 h Q := by
 refine zbD (f:=147) (self:=[.top 113]) rfl (zaO (K:=1) hd (some (.top 113) :: some (wv o) :: nn 6) rfl rfl rfl fun d' h' => ?_)
 unfold bd_Least_need
 cases o with
 | none =>
  repeat fail
  exact q
 | some k =>
  have hk := ho k rfl
  have q : Q (.int (k : Int)) h := q
  show WSs _ _ (some (.top 113) :: some (.int (k : Int)) :: nn 6) _ _
  repeat fail
  refine zan (s:=false) (decide_eq_false (by omega)) ?_
  repeat fail
  refine zan (s:=false) (decide_eq_false fun hg => ?_) ?_
  ·have h1 : ((10 ^ 4000 : Nat) : Int) <= (k : Int) := hg
   have h2 : 10 ^ 4000 <= k := Int.ofNat_le.mp h1
   exact absurd (Nat.le_trans h2 hk) (by decide +kernel)
  repeat fail
  exact q
theorem lplus {a b : Option Nat} (hd : 1 <= d) (q : Q (wv (plW a b)) h) : WM (Cxd P0 d) (.top 113) nPlus [wv a,wv b] h0 h Q := by
 refine zbD (f:=148) (self:=[.top 113]) rfl (zaO (K:=0) hd (some (.top 113) :: some (wv a) :: some (wv b) :: nn 6) rfl rfl rfl fun d' h' => ?_)
 unfold bd_Least_plus
 cases a with
 | none =>
  repeat fail
  exact q
 | some x =>
  cases b with
  | none =>
   have q : Q (.int (x : Int)) h := q
   show WSs _ _ (some (.top 113) :: some (.int (x : Int)) :: some .none :: nn 6) _ _
   repeat fail
   exact q
  | some y =>
   have q : Q (.int ((if y < x then y else x : Nat) : Int)) h := q
   show WSs _ _ (some (.top 113) :: some (.int (x : Int)) :: some (.int (y : Int)) :: nn 6) _ _
   repeat fail
   rw [show (if (y : Int) < (x : Int) then (y : Int) else (x : Int)) = ((if y < x then y else x : Nat) : Int) by split <;> split <;> omega]
   exact q
theorem ltimes {a b : Option Nat} (hd : 1 <= d) (q : Q (wv (tmW a b)) h) : WM (Cxd P0 d) (.top 113) nTimes [wv a,wv b] h0 h Q := by
 refine zbD (f:=149) (self:=[.top 113]) rfl (zaO (K:=0) hd (some (.top 113) :: some (wv a) :: some (wv b) :: nn 6) rfl rfl rfl fun d' h' => ?_)
 unfold bd_Least_times
 cases a with
 | none =>
  repeat fail
  exact q
 | some x =>
  cases b with
  | none =>
   show WSs _ _ (some (.top 113) :: some (.int (x : Int)) :: some .none :: nn 6) _ _
   repeat fail
   exact q
  | some y =>
   have q : Q (.int ((x + y : Nat) : Int)) h := q
   show WSs _ _ (some (.top 113) :: some (.int (x : Int)) :: some (.int (y : Int)) :: nn 6) _ _
   repeat fail
   rw [show (x : Int) + (y : Int) = ((x + y : Nat) : Int) by omega]
   exact q
end
noncomputable abbrev EM := List (List Nat × Nat)
noncomputable def emV (em : EM) : List (Val × Val) := em.map fun q => (.str q.1,.int (q.2 : Int))
noncomputable def zaH (em : EM) (w : List Nat) : Option Nat := (em.find? fun q => q.1 == w).map (·.2)
noncomputable def emPut (em : EM) (w : List Nat) (k : Nat) : EM := bif (zaH em w).isSome then em.map fun q => bif q.1 == w then (q.1,k) else q else em ++ [(w,k)]
theorem kEq_str {a b : List Nat} : kEq (.str a) (.str b) = (a == b) := by
 show (veqD [] (.str a) (.str b)).getD false = _
 have : veqD [] (.str a) (.str b) = some (a == b) := veq_str (h:=[])
 rw [this]; rfl
theorem dget_em {em : EM} {w : List Nat} : dget (emV em) (.str w) = (zaH em w).map fun (k : Nat) => Val.int (k : Int) := by
 unfold dget zaH emV
 induction em with
 | nil => rfl
 | cons p em ih =>
  rw [List.map_cons,List.find?_cons,List.find?_cons,show kEq ((Val.str p.1,Val.int (p.2 : Int)) : Val × Val).1 (.str w) = (p.1 == w) from kEq_str]
  cases (p.1 == w) with
  | true => rfl
  | false => exact ih
theorem dput_em {em : EM} {w : List Nat} {k : Nat} : dput (emV em) (.str w) (.int (k : Int)) = emV (emPut em w k) := by
 unfold dput emPut
 rw [dget_em,show ((zaH em w).map fun (k : Nat) => Val.int (k : Int)).isSome = (zaH em w).isSome from by cases zaH em w <;> rfl]
 cases (zaH em w).isSome with
 | true =>
  show ((emV em).map fun p => bif kEq p.1 (.str w) then (p.1,Val.int (k : Int)) else p) = emV (em.map fun q => bif q.1 == w then (q.1,k) else q)
  unfold emV
  rw [List.map_map,List.map_map]
  refine List.map_congr_left fun q _ => ?_
  show (bif kEq (Val.str q.1) (.str w) then (Val.str q.1,Val.int (k : Int)) else (Val.str q.1,Val.int (q.2 : Int))) = _
  rw [kEq_str]
  show _ = (fun q : List Nat × Nat => (Val.str q.1,Val.int (q.2 : Int))) (bif q.1 == w then (q.1,k) else q)
  cases (q.1 == w) <;> rfl
 | false =>
  show emV em ++ [(.str w,.int (k : Int))] = emV (em ++ [(w,k)])
  unfold emV
  rw [List.map_append]; rfl
theorem zcM {em : EM} {w : List Nat} : zat (emV em) (.str w) = true := by
 cases em with
 | nil => rfl
 | cons p em => rfl
theorem emPut_len {em : EM} {w : List Nat} {k : Nat} : (emPut em w k).length <= em.length + 1 := by
 unfold emPut
 cases (zaH em w).isSome with
 | true => rw [cond_true,List.length_map]; omega
 | false => rw [cond_false,List.length_append]; exact Nat.le_refl _
theorem emGet_none {em : EM} {w : List Nat} (h : zaH em w = none) : w ∉ em.map (·.1) := by
 intro hm
 obtain ⟨q,hq,rfl⟩ := List.mem_map.mp hm
 unfold zaH at h
 have := List.find?_eq_none.mp (Option.map_eq_none_iff.mp h) q hq
 exact this (beq_self_eq_true _)
structure EmOk (em : EM) : Prop where
 nd : (em.map (·.1)).Nodup
 sm : ∀ q ∈ em,q.2 <= 1000
theorem emPut_ok {em : EM} {w : List Nat} {k : Nat} (E : EmOk em) (hk : k <= 1000) : EmOk (emPut em w k) := by
 unfold emPut
 cases hg : (zaH em w).isSome with
 | true =>
  rw [cond_true]
  refine ⟨?_,fun q hq => ?_⟩
  ·rw [List.map_map,show ((fun q : List Nat × Nat => q.1) ∘ fun q => bif q.1 == w then (q.1,k) else q) = fun q => q.1 from funext fun q => by
    show (bif q.1 == w then (q.1,k) else q).1 = q.1
    cases (q.1 == w) <;> rfl]
   exact E.nd
  ·obtain ⟨p,hp,rfl⟩ := List.mem_map.mp hq
   show (bif p.1 == w then (p.1,k) else p).2 <= 1000
   cases (p.1 == w) with
   | true => exact hk
   | false => exact E.sm p hp
 | false =>
  rw [cond_false]
  have hn : zaH em w = none := by cases hq : zaH em w; rfl; rw [hq] at hg; exact nomatch hg
  refine ⟨?_,fun q hq => ?_⟩
  ·rw [List.map_append,List.nodup_append]
   exact ⟨E.nd,List.nodup_cons.mpr ⟨List.not_mem_nil,.nil⟩,fun x hx y hy e => emGet_none hn (by rw [List.map_singleton,List.mem_singleton] at hy; rw [<- (show x = w from e.trans hy)]; exact hx)⟩
  ·rcases List.mem_append.mp hq with h | h
   ·exact E.sm q h
   ·rw [List.mem_singleton.mp h]; exact hk
theorem emGet_sm {em : EM} {w : List Nat} {k : Nat} (E : EmOk em) (h : zaH em w = some k) : k <= 1000 := by
 unfold zaH at h
 obtain ⟨q,hq,rfl⟩ := ms h
 exact E.sm q (List.mem_of_find?_eq_some hq)
end Hd
namespace Hd
open Mi
noncomputable def finC (em : EM) (w : List Nat) (wt : Option Nat) : EM := Option.casesOn (motive:=fun _ => EM) (plW (zaH em w) wt) em fun k => emPut em w k
noncomputable def cV (cy : Option (Option Nat)) : Val := Option.casesOn (motive:=fun _ => Val) cy must wv
noncomputable def tmY (wt : Option Nat) (cy : Option (Option Nat)) : Option Nat := Option.casesOn (motive:=fun _ => Option Nat) cy wt (tmW wt)
noncomputable def emY (cy : Option (Option Nat)) (a b : EM) : EM := Option.casesOn (motive:=fun _ => EM) cy a fun _ => b
noncomputable def cyB (cy : Option (Option Nat)) : Prop := ∀ cw,cy = some cw -> ∀ k,cw = some k -> k <= 4
noncomputable def rwC (ps : List (List Nat × List Nat)) (L R : List (List Nat)) (cy : Option (Option Nat)) : Nat -> List Nat -> List Nat -> Option Nat -> EM -> EM
 | 0,_,w,wt,em => finC em w wt
 | n + 1,rest,w,wt,em => List.casesOn (motive:=fun _ => EM) rest (finC em w wt) fun c t => Option.casesOn (motive:=fun _ => EM) (ps.find? (pr1 L R w (c :: t))) (rwC ps L R cy n t (w ++ [c]) wt em) fun p => rwC ps L R cy n ((c :: t).drop p.1.length) (w ++ p.2) (tmY wt cy) (emY cy em (rwC ps L R cy n t (w ++ [c]) wt em))
noncomputable def wtB (wt : Option Nat) (n : Nat) : Prop := ∀ k,wt = some k -> k + 4 * n <= 1000
theorem plW_sm {a b : Option Nat} (ha : ∀ k,a = some k -> k <= 1000) (hb : ∀ k,b = some k -> k <= 1000) : ∀ k,plW a b = some k -> k <= 1000 := by
 intro k
 cases a with
 | none => exact hb k
 | some x =>
  cases b with
  | none => exact ha k
  | some y =>
   intro e
   cases e
   show (if y < x then y else x) <= 1000
   split
   ·exact hb y rfl
   ·exact ha x rfl
theorem finC_ok {em : EM} {w : List Nat} {wt : Option Nat} (E : EmOk em) (hw : wtB wt 0) : EmOk (finC em w wt) /\ (finC em w wt).length <= em.length + 1 := by
 unfold finC
 have h1 := plW_sm (a:=zaH em w) (b:=wt) (fun k e => emGet_sm E e) (fun k e => by have := hw k e; omega)
 cases hp : plW (zaH em w) wt with
 | none => exact ⟨E,Nat.le_succ _⟩
 | some k => exact ⟨emPut_ok E (h1 k hp),emPut_len⟩
theorem zce {wt : Option Nat} {n m : Nat} (h : wtB wt n) (hm : m <= n) : wtB wt m := fun k e => by have := h k e; omega
theorem wtB_tm {wt cw : Option Nat} {n : Nat} (h : wtB wt (n + 1)) (hc : ∀ k,cw = some k -> k <= 4) : wtB (tmW wt cw) n := by
 intro k e
 cases wt with
 | none => exact nomatch e
 | some x =>
  cases cw with
  | none => exact nomatch e
  | some y =>
   cases e
   have := h x rfl
   have := hc y rfl
   omega
theorem wtB_tmY {wt : Option Nat} {cy : Option (Option Nat)} {n : Nat} (h : wtB wt (n + 1)) (hc : cyB cy) : wtB (tmY wt cy) n := by
 cases cy with
 | none => exact zce h (Nat.le_succ n)
 | some cw => exact wtB_tm h (hc cw rfl)
theorem rwC_ok {ps : List (List Nat × List Nat)} {L R : List (List Nat)} {cy : Option (Option Nat)} (hc : cyB cy) : ∀ n rest w wt em,EmOk em -> wtB wt n -> EmOk (rwC ps L R cy n rest w wt em) /\ (rwC ps L R cy n rest w wt em).length <= em.length + 2 ^ n := by
 intro n
 induction n with
 | zero => exact fun rest w wt em E hw => finC_ok E hw
 | succ n ih =>
  intro rest w wt em E hw
  have p2 : 2 ^ (n + 1) = 2 ^ n + 2 ^ n := by rw [Nat.pow_succ]; omega
  have p1 : 1 <= 2 ^ n := Nat.one_le_two_pow
  cases rest with
  | nil =>
   have := finC_ok (w:=w) E (zce hw (Nat.zero_le _))
   exact ⟨this.1,Nat.le_trans this.2 (by omega)⟩
  | cons c t =>
   show EmOk (Option.casesOn (motive:=fun _ => EM) (ps.find? (pr1 L R w (c :: t))) _ _) /\ List.length (Option.casesOn (motive:=fun _ => EM) (ps.find? (pr1 L R w (c :: t))) _ _ : EM) <= _
   have h1 := ih t (w ++ [c]) wt em E (zce hw (Nat.le_succ n))
   cases ps.find? (pr1 L R w (c :: t)) with
   | none => exact ⟨h1.1,Nat.le_trans h1.2 (by omega)⟩
   | some p =>
    have h3 : EmOk (emY cy em (rwC ps L R cy n t (w ++ [c]) wt em)) /\ (emY cy em (rwC ps L R cy n t (w ++ [c]) wt em)).length <= em.length + 2 ^ n := by
     cases cy with
     | none => exact ⟨E,Nat.le_add_right _ _⟩
     | some _ => exact h1
    have h2 := ih ((c :: t).drop p.1.length) (w ++ p.2) (tmY wt cy) _ h3.1 (wtB_tmY hw hc)
    exact ⟨h2.1,Nat.le_trans h2.2 (by have := h3.2; omega)⟩
theorem emY_ok {ps : List (List Nat × List Nat)} {L R : List (List Nat)} {cy : Option (Option Nat)} {n : Nat} {rest w : List Nat} {wt : Option Nat} {em : EM} (hc : cyB cy) (E : EmOk em) (hw : wtB wt n) : EmOk (emY cy em (rwC ps L R cy n rest w wt em)) /\ (emY cy em (rwC ps L R cy n rest w wt em)).length <= em.length + 2 ^ n := by
 have rk := rwC_ok (ps:=ps) (L:=L) (R:=R) hc n rest w wt em E hw
 cases cy with
 | none => exact ⟨E,Nat.le_add_right _ _⟩
 | some _ => exact rk
noncomputable def Kpt (h hh : MH) (aO aK : Nat) : Prop := ∀ (a : Nat) o,a ≠ aO -> a ≠ aK -> h[a]? = some o -> hh[a]? = some o
section
variable {r : Nat} {ps : List (List Nat × List Nat)} {L R : List (List Nat)} {c : Val} {aR aL aT : Nat}
theorem Ru.kpt {h hh : MH} {aO aK : Nat} (U : Ru h r ps L R c aR aL aT) (K : Kpt h hh aO aK) (n1 : ∀ a ∈ [r,aR,aL,aT],a ≠ aO /\ a ≠ aK) : Ru hh r ps L R c aR aL aT :=
 ⟨K _ _ (n1 _ (.head _)).1 (n1 _ (.head _)).2 U.obj,K _ _ (n1 _ (.tail _ (.head _))).1 (n1 _ (.tail _ (.head _))).2 U.rows,K _ _ (n1 _ (.tail _ (.tail _ (.head _)))).1 (n1 _ (.tail _ (.tail _ (.head _)))).2 U.left,K _ _ (n1 _ (.tail _ (.tail _ (.tail _ (.head _))))).1 (n1 _ (.tail _ (.tail _ (.tail _ (.head _))))).2 U.right⟩
theorem Kpt.app {h hh t : MH} {aO aK : Nat} (K : Kpt h hh aO aK) : Kpt h (hh ++ t) aO aK := fun a o h1 h2 e => zaa (K a o h1 h2 e)
theorem Kpt.trans {h h1 h2 : MH} {aO aK : Nat} (K : Kpt h h1 aO aK) (K2 : Kpt h1 h2 aO aK) : Kpt h h2 aO aK := fun a o n1 n2 e => K2 a o n1 n2 (K a o n1 n2 e)
theorem Kpt.setO {h hh : MH} {aO aK : Nat} {x : MObj} (K : Kpt h hh aO aK) : Kpt h (hh.set aO x) aO aK := fun a o n1 n2 e => get_ne (Ne.symm n1) (K a o n1 n2 e)
theorem Kpt.setK {h hh : MH} {aO aK : Nat} {x : MObj} (K : Kpt h hh aO aK) : Kpt h (hh.set aK x) aO aK := fun a o n1 n2 e => get_ne (Ne.symm n2) (K a o n1 n2 e)
end
end Hd
namespace Hd
open Mi
noncomputable abbrev rwF (r : Nat) (rest v : List Nat) (wt : Val) (aO aK : Nat) (o7 o8 o9 : Option Val) : Mi.Frame := some (.ref r) :: some (.str rest) :: some (.top 113) :: some (.str v) :: some wt :: some (.ref aO) :: some (.ref aK) :: o7 :: o8 :: o9 :: nn 7
section
variable {r : Nat} {ps : List (List Nat × List Nat)} {L R : List (List Nat)} {cy : Option (Option Nat)} {aR aL aT aO aK : Nat}
theorem veq_nn {h : MH} : veq h .none .none = some true := by
 show some (PySem.PyData.eqv .none .none) = _
 simp [PySem.PyData.eqv]
theorem veq_in {h : MH} {k : Int} : veq h (.int k) .none = some false := by
 show some (PySem.PyData.eqv (.int k) .none) = _
 simp [PySem.PyData.eqv]
theorem wv_must {h : MH} {cw : Option Nat} : veq h (wv cw) must = some false := by
 cases cw with
 | none => show some (PySem.PyData.eqv .none (.str _)) = _; simp [PySem.PyData.eqv]
 | some k => show some (PySem.PyData.eqv (.int _) (.str _)) = _; simp [PySem.PyData.eqv]
theorem must_must {h : MH} : veq h must must = some true := by
 show some (PySem.PyData.eqv (.str _) (.str _)) = _
 simp [PySem.PyData.eqv]
theorem lim_ok {a b : Nat} (ha : a <= 100) (hb : b <= 2) : a + b <= lim := Nat.le_trans (Nat.add_le_add ha hb) (by decide)
structure RwI (ps : List (List Nat × List Nat)) (L R : List (List Nat)) (cy : Option (Option Nat)) : Prop where
 ll : L.length < 1000
 rl : R.length < 1000
 pl : ps.length < 1000
 pw : ∀ p ∈ ps,p.1 ≠ [] /\ p.2.length <= 2
 cb : cyB cy
theorem ff_ok {d : Nat} {hh : MH} {v rest : List Nat} {wt : Val} {o8 o9 : Option Val} {f0 : Mi.Frame} {X : Fl -> Mi.Frame -> MH -> Prop} (ef : f0 = rwF r rest v wt aO aK (some .none) o8 o9) (hd : 1 <= d) (U : Ru hh r ps L R (cV cy) aR aL aT) (I : RwI ps L R cy)
  (q1 : ∀ t o8 o9 p,ps.find? (pr1 L R v rest) = some p -> X .nx (rwF r rest v wt aO aK (some (.tup [.str p.1,.str p.2])) o8 o9) (hh ++ t)) (q0 : ∀ t o8 o9,ps.find? (pr1 L R v rest) = none -> X .nx (rwF r rest v wt aO aK (some .none) o8 o9) (hh ++ t)) :
  WS (Cxd P0 d) (Sm.fo [8,9] true (Ex.attr (Ex.var 0) 1919907699) [(Sm.ite (Ex.bop false [(Ex.meth (Ex.var 1) 545218989645367805047912 [(Ex.var 8)]),(Ex.call (Ex.lit (Val.top 222)) [(Ex.var 0),(Ex.var 3)]),(Ex.call (Ex.lit (Val.top 223)) [(Ex.var 0),(Ex.slice (Ex.var 1) 1 [(Ex.call (Ex.lit (Val.bi 7103854)) [(Ex.var 8)])])])]) [(Sm.asg (T1.nm 7) (Ex.tup [(Ex.var 8),(Ex.var 9)])),Sm.brk] [])]) f0 hh X := by
 subst ef
 refine ws_for ?_
 repeat fail
 refine zap U.obj rfl rfl ?_
 repeat fail
 refine ⟨.ls aR,prs ps,zbb U.rows,by rw [List.length_map]; exact Nat.lt_trans I.pl (by show 1000 < 200000; decide),fun i f g => ∃ t o8 o9,g = hh ++ t /\ f = rwF r rest v wt aO aK (some .none) o8 o9 /\ ∀ (j : Nat) y,j < i -> ps[j]? = some y -> pr1 L R v rest y = false,⟨[],o8,o9,(List.append_nil hh).symm,rfl,fun j _ hj => absurd hj (Nat.not_lt_zero _)⟩,?_,?_,?_⟩
 ·rintro i f g ⟨t,o8,o9,rfl,rfl,_⟩; exact zba (U.app).rows
 ·rintro i x hx f g ⟨t,o8,o9,rfl,rfl,hj⟩
  rw [List.getElem?_map] at hx
  obtain ⟨p,hp,rfl⟩ := ms hx
  have more : pr1 L R v rest p = false -> ∀ (j : Nat) y,j < i + 1 -> ps[j]? = some y -> pr1 L R v rest y = false := fun hk j y hj' hy => by
   rcases Nat.lt_succ_iff_lt_or_eq.mp hj' with h | rfl
   ·exact hj j y h hy
   ·rw [hp] at hy; cases hy; exact hk
  have fa := fun hp1 t o8 o9 => q1 t o8 o9 p (find_at hp hp1 hj)
  clear q1 q0 hj hx
  refine Wo.of (a:=rwF r rest v wt aO aK (some .none) (some (.str p.1)) (some (.str p.2))) rfl ?_
  repeat fail
  refine zch ?_
  repeat fail
  refine br (fun hs => ?_) (fun hs => ?_)
  ·repeat fail
   refine zai rfl (left_ok hd U.app I.ll fun t2 => ?_)
   rw [List.append_assoc]
   repeat fail
   refine br (fun hs2 => ?_) (fun hs2 => ?_)
   ·repeat fail
    refine zcE ?_
    repeat fail
    refine zai rfl (right_ok hd U.app I.rl ?_)
    repeat fail
    refine br (fun hs3 => ?_) (fun hs3 => ?_)
    ·repeat fail
     exact fa (by unfold pr1; rw [hs,hs2,hs3]; rfl) _ _ _
    ·repeat fail
     exact ⟨_,_,_,rfl,rfl,more (by unfold pr1; rw [hs3,Bool.and_false,Bool.and_false])⟩
   ·repeat fail
    refine zan (s:=false) hs2 ?_
    repeat fail
    exact ⟨_,_,_,rfl,rfl,more (by unfold pr1; rw [hs2,Bool.false_and,Bool.and_false])⟩
  ·repeat fail
   refine zan (s:=false) hs ?_
   repeat fail
   exact ⟨_,_,_,rfl,rfl,more (by unfold pr1; rw [hs,Bool.false_and])⟩
 ·rintro f g ⟨t,o8,o9,rfl,rfl,hj⟩
  rw [List.length_map] at hj
  exact q0 _ _ _ (find_no fun j y hy => hj j y (at_lt hy) hy)
structure RwS (h : MH) (r : Nat) (ps : List (List Nat × List Nat)) (L R : List (List Nat)) (cy : Option (Option Nat)) (aR aL aT aO aK : Nat) (em : EM) (lf : Nat) : Prop where
 U : Ru h r ps L R (cV cy) aR aL aT
 ne : aO ≠ aK
 nU : ∀ a ∈ [r,aR,aL,aT],a ≠ aO /\ a ≠ aK
 hO : ∃ ep,h[aO]? = some (.dict ep (emV em))
 hK : h[aK]? = some (.list [.int (lf : Int)])
theorem RwS.app {h t : MH} {em : EM} {lf : Nat} (S : RwS h r ps L R cy aR aL aT aO aK em lf) : RwS (h ++ t) r ps L R cy aR aL aT aO aK em lf := ⟨S.U.app,S.ne,S.nU,S.hO.elim fun ep e => ⟨ep,zaa e⟩,zaa S.hK⟩
theorem RwS.cnt {h : MH} {em : EM} {lf l2 : Nat} (S : RwS h r ps L R cy aR aL aT aO aK em lf) : RwS (h.set aK (.list [.int (l2 : Int)])) r ps L R cy aR aL aT aO aK em l2 /\ Kpt h (h.set aK (.list [.int (l2 : Int)])) aO aK := by
 have K0 : Kpt h (h.set aK (.list [.int (l2 : Int)])) aO aK := Kpt.setK fun _ _ _ _ e => e
 obtain ⟨ep,e⟩ := S.hO
 exact ⟨⟨S.U.kpt K0 S.nU,S.ne,S.nU,⟨ep,get_ne (Ne.symm S.ne) e⟩,List.getElem?_set_self (get_lt S.hK)⟩,K0⟩
theorem RwS.put {h : MH} {em e2 : EM} {lf : Nat} {ep : Option Nat} (S : RwS h r ps L R cy aR aL aT aO aK em lf) : RwS (h.set aO (.dict ep (emV e2))) r ps L R cy aR aL aT aO aK e2 lf /\ Kpt h (h.set aO (.dict ep (emV e2))) aO aK := by
 have K0 : Kpt h (h.set aO (.dict ep (emV e2))) aO aK := Kpt.setO fun _ _ _ _ e => e
 obtain ⟨_,e⟩ := S.hO
 exact ⟨⟨S.U.kpt K0 S.nU,S.ne,S.nU,⟨ep,get_self e⟩,get_ne S.ne S.hK⟩,K0⟩
theorem rw_end {d : Nat} {hh : MH} {Q : Val -> MH -> Prop} {v : List Nat} {vt : Option Nat} {em : EM} {lf : Nat} {o7 o8 o9 : Option Val} {f0 : Mi.Frame} {rest : List Nat} (ef : f0 = rwF r rest v (wv vt) aO aK o7 o8 o9) (er : rest = []) (hd : 2 <= d) (S : RwS hh r ps L R cy aR aL aT aO aK em lf) (E : EmOk em) (hw : wtB vt 0) (el : em.length < 1000)
  (q : ∀ h2,RwS h2 r ps L R cy aR aL aT aO aK (finC em v vt) lf -> Kpt hh h2 aO aK -> Q .none h2) : WS (Cxd P0 d) (Sm.asg (T1.nm 10) (Ex.meth (Ex.var 2) 1852138852 [(Ex.meth (Ex.var 2) 1886156147 [(Ex.meth (Ex.var 5) 6776180 [(Ex.var 3),(Ex.attr (Ex.var 2) 121424990136436)]),(Ex.var 4)])])) f0 hh (Beh (Cxd P0 d) [(Sm.ite (Ex.cmp COp.ne (Ex.var 10) (Ex.attr (Ex.var 2) 121424990136436)) [(Sm.asg (T1.sb (Ex.var 5) (Ex.var 3)) (Ex.var 10))] [])] (Mi.Fin Q)) := by
 subst er
 subst ef
 have hO := S.hO
 obtain ⟨ep,hO⟩ := hO
 have sm := plW_sm (a:=zaH em v) (b:=vt) (fun k e => emGet_sm E e) fun x e => hw x e
 clear hw
 unfold finC at q
 repeat fail
 refine wa_top rfl ?_
 repeat fail
 refine wm_get hO hO zcM ?_
 rw [dget_em,show ((zaH em v).map fun (k : Nat) => Val.int (k : Int)).getD .none = wv (zaH em v) from by cases zaH em v <;> rfl]
 repeat fail
 refine lplus (Nat.le_of_succ_le hd) ?_
 repeat fail
 refine lneed (fun x e => Nat.le_trans (sm x e) (by decide)) hd ?_
 cases hp : plW (zaH em v) vt with
 | none =>
  rw [hp] at q
  repeat fail
  refine wa_top rfl ?_
  repeat fail
  refine wc_neT veq_nn ?_
  repeat fail
  exact q hh S fun _ _ _ _ e => e
 | some x =>
  rw [hp] at q
  show Beh _ _ _ _ _ _
  repeat fail
  refine wa_top rfl ?_
  repeat fail
  refine wc_neF veq_in ?_
  repeat fail
  refine setSub_d hO zcM (by unfold emV; rw [List.length_map]; exact Nat.lt_of_lt_of_le el (by decide)) ?_
  rw [show dput (emV em) (.str v) (wv (some x)) = emV (emPut em v x) from dput_em]
  repeat fail
  exact q _ S.put.1 S.put.2
structure RwL (h hh : MH) (r : Nat) (ps : List (List Nat × List Nat)) (L R : List (List Nat)) (cy : Option (Option Nat)) (aR aL aT aO aK : Nat) (n : Nat) (tg : EM) (lf0 k : Nat) (rest w : List Nat) (wt : Option Nat) (em : EM) (lf : Nat) : Prop where
 S : RwS hh r ps L R cy aR aL aT aO aK em lf
 K : Kpt h hh aO aK
 rl : rest.length <= k
 eq : rwC ps L R cy k rest w wt em = tg
 wl : w.length + 2 * rest.length <= 100
 E : EmOk em
 wb : wtB wt k
 el : em.length + 2 ^ k <= 900
 fl : lf0 + 2 ^ k <= lf + 2 ^ n
 kn : k <= n
 hf : 2 ^ n <= lf0 + 1
section
variable {h hh : MH} {n k lf0 lf ch : Nat} {tg em : EM} {rest tl v : List Nat} {wt : Option Nat}
theorem two {k : Nat} : 2 ^ (k + 1) = 2 ^ k + 2 ^ k /\ 1 <= 2 ^ k := ⟨by rw [Nat.pow_succ]; omega,Nat.one_le_two_pow⟩
theorem pm {k : Nat} : 2 ^ k <= 2 ^ (k + 1) := Nat.pow_le_pow_right (by decide) (Nat.le_succ k)
theorem nu3 {a b c d e : Nat} (h1 : a + (b + b) <= c + d) (h2 : c <= e + b) : a + b <= e + d := by omega
theorem nu4 {a b c m : Nat} (h1 : a + 2 * (c + 1) <= 100) (hb : b <= 2) (hm : 0 < m) : a + b + 2 * (c + 1 - m) <= 100 := by omega
theorem nu5 {a c : Nat} (h1 : a + 2 * (c + 1) <= 100) : a + 1 + 2 * c <= 100 := by omega
theorem nu6 {a b c d : Nat} (h1 : a + (b + b) <= c + d) (h2 : d <= a + 1) (h3 : 1 <= b) : b <= c := by omega
theorem nu7 {c k m : Nat} (h1 : c + 1 <= k + 1) (hm : 0 < m) : c + 1 - m <= k := by omega
theorem RwL.le (Z : RwL h hh r ps L R cy aR aL aT aO aK n tg lf0 k rest v wt em lf) : v.length <= 100 := Nat.le_trans (Nat.le_add_right _ _) Z.wl
theorem RwL.sc (Z : RwL h hh r ps L R cy aR aL aT aO aK n tg lf0 k rest v wt em lf) (er : rest = ch :: tl) : ∃ m,k = m + 1 /\ tl.length <= m := by
 have := Z.rl
 rw [er,List.length_cons] at this
 cases k with
 | zero => exact absurd this (Nat.not_succ_le_zero _)
 | succ k => exact ⟨k,rfl,Nat.le_of_succ_le_succ this⟩
theorem RwL.skip (Z : RwL h hh r ps L R cy aR aL aT aO aK n tg lf0 k rest v wt em lf) (er : rest = ch :: tl) (fa : ps.find? (pr1 L R v rest) = none) (t : MH) : ∃ j,j < k /\ RwL h (hh ++ t) r ps L R cy aR aL aT aO aK n tg lf0 j tl (v ++ [ch]) wt em lf := by
 obtain ⟨m,rfl,rl⟩ := Z.sc er
 subst er
 refine ⟨m,Nat.lt_succ_self m,Z.S.app,Z.K.app,rl,?_,by rw [List.length_append]; exact nu5 Z.wl,Z.E,zce Z.wb (Nat.le_succ m),Nat.le_trans (Nat.add_le_add_left pm _) Z.el,Nat.le_trans (Nat.add_le_add_left pm _) Z.fl,Nat.le_of_succ_le Z.kn,Z.hf⟩
 rw [<- Z.eq]
 show _ = Option.casesOn (motive:=fun _ => EM) (ps.find? (pr1 L R v (ch :: tl))) _ _
 rw [fa]
theorem RwL.sub (Z : RwL h hh r ps L R cy aR aL aT aO aK n tg lf0 (k + 1) (ch :: tl) v wt em lf) : tl.length <= k /\ (v ++ [ch]).length + 2 * tl.length <= 100 /\ wtB wt k /\ em.length + 2 ^ k <= 900 /\ 2 ^ k <= lf :=
 ⟨Nat.le_of_succ_le_succ Z.rl,by rw [List.length_append]; exact nu5 Z.wl,zce Z.wb (Nat.le_succ k),Nat.le_trans (Nat.add_le_add_left pm _) Z.el,nu6 (two.1 ▸ Z.fl) Z.hf two.2⟩
theorem RwL.take {p : List Nat × List Nat} {h2 : MH} {lf2 : Nat} (I : RwI ps L R cy) (Z : RwL h hh r ps L R cy aR aL aT aO aK n tg lf0 (k + 1) (ch :: tl) v wt em lf) (fa : ps.find? (pr1 L R v (ch :: tl)) = some p)
  (S2 : RwS h2 r ps L R cy aR aL aT aO aK (emY cy em (rwC ps L R cy k tl (v ++ [ch]) wt em)) lf2) (K2 : Kpt hh h2 aO aK) (fl2 : lf <= lf2 + 2 ^ k) : RwL h h2 r ps L R cy aR aL aT aO aK n tg lf0 k ((ch :: tl).drop p.1.length) (v ++ p.2) (tmY wt cy) (emY cy em (rwC ps L R cy k tl (v ++ [ch]) wt em)) lf2 := by
 have mem := I.pw p (List.mem_of_find?_eq_some fa)
 have e1 : 0 < p.1.length := List.length_pos_iff.mpr mem.1
 have h3 : EmOk (emY cy em (rwC ps L R cy k tl (v ++ [ch]) wt em)) /\ (emY cy em (rwC ps L R cy k tl (v ++ [ch]) wt em)).length <= em.length + 2 ^ k := emY_ok I.cb Z.E (zce Z.wb (Nat.le_succ k))
 refine ⟨S2,Z.K.trans K2,by rw [List.length_drop]; exact nu7 Z.rl e1,?_,by rw [List.length_append,List.length_drop]; exact nu4 Z.wl mem.2 e1,h3.1,wtB_tmY Z.wb I.cb,Nat.le_trans (Nat.add_le_add_right h3.2 _) (by rw [Nat.add_assoc,<- two.1]; exact Z.el),nu3 (two.1 ▸ Z.fl) fl2,Nat.le_of_succ_le Z.kn,Z.hf⟩
 rw [<- Z.eq]
 show _ = Option.casesOn (motive:=fun _ => EM) (ps.find? (pr1 L R v (ch :: tl))) _ _
 rw [fa]
end
theorem rw_take {d : Nat} {hh : MH} {ch : Nat} {tl v : List Nat} {vt : Option Nat} {p : List Nat × List Nat} {o8 o9 : Option Val} {f0 : Mi.Frame} {X : Fl -> Mi.Frame -> MH -> Prop} {rest : List Nat} (ef : f0 = rwF r rest v (wv vt) aO aK (some (.tup [.str p.1,.str p.2])) o8 o9) (er : rest = ch :: tl) (hd : 1 <= d) (U : Ru hh r ps L R (cV cy) aR aL aT) (hv : v.length <= 100) (hp : p.2.length <= 2)
  (q0 : cy = none -> X .nx (rwF r ((ch :: tl).drop p.1.length) (v ++ p.2) (wv vt) aO aK (some (.tup [.str p.1,.str p.2])) o8 o9) hh)
  (q1 : ∀ cw,cy = some cw -> WF P0 d 220 [.ref r,.str tl,.top 113,.str (v ++ [ch]),wv vt,.ref aO,.ref aK] hh fun _ h2 => Ru h2 r ps L R (cV cy) aR aL aT /\ X .nx (rwF r ((ch :: tl).drop p.1.length) (v ++ p.2) (wv (tmW vt cw)) aO aK (some (.tup [.str p.1,.str p.2])) o8 o9) h2) : WS (Cxd P0 d) (Sm.ite (Ex.cmp COp.isnot (Ex.var 7) (Ex.lit Val.none)) [(Sm.ite (Ex.cmp COp.ne (Ex.attr (Ex.var 0) 1668248436) (Ex.lit (Val.str [109,117,115,116]))) [(Sm.expr (Ex.call (Ex.lit (Val.top 220)) [(Ex.var 0),(Ex.slice (Ex.var 1) 1 [(Ex.lit (Val.int 1))]),(Ex.var 2),(Ex.bin BOp.add (Ex.var 3) (Ex.sub (Ex.var 1) (Ex.lit (Val.int 0)))),(Ex.var 4),(Ex.var 5),(Ex.var 6)])),(Sm.asg (T1.nm 4) (Ex.meth (Ex.var 2) 499984983411 [(Ex.var 4),(Ex.attr (Ex.var 0) 1668248436)]))] []),(Sm.asg (T1.nm 3) (Ex.bin BOp.add (Ex.var 3) (Ex.sub (Ex.var 7) (Ex.lit (Val.int 1))))),(Sm.asg (T1.nm 1) (Ex.slice (Ex.var 1) 1 [(Ex.call (Ex.lit (Val.bi 7103854)) [(Ex.sub (Ex.var 7) (Ex.lit (Val.int 0)))])]))] [(Sm.asg (T1.nm 3) (Ex.bin BOp.add (Ex.var 3) (Ex.sub (Ex.var 1) (Ex.lit (Val.int 0))))),(Sm.asg (T1.nm 1) (Ex.slice (Ex.var 1) 1 [(Ex.lit (Val.int 1))]))]) f0 hh X := by
 subst er
 subst ef
 repeat fail
 refine zap U.obj rfl rfl ?_
 cases cy with
 | none =>
  repeat fail
  refine wc_neT must_must ?_
  repeat fail
  refine zax (lim_ok hv hp) ?_
  repeat fail
  refine zcE ?_
  repeat fail
  exact q0 rfl
 | some cw =>
  repeat fail
  refine wc_neF wv_must ?_
  repeat fail
  refine zcE (a:=1) ?_
  repeat fail
  refine zbW (i:=0) (x:=ch) rfl ?_
  repeat fail
  refine zax (lim_ok hv (show 1 <= 2 from Nat.le_succ 1)) ?_
  repeat fail
  refine zai rfl (W.mono (q1 cw rfl) fun _ h2 q => ?_)
  repeat fail
  refine zap q.1.obj rfl rfl ?_
  repeat fail
  refine ltimes hd ?_
  repeat fail
  refine zax (lim_ok hv hp) ?_
  repeat fail
  refine zcE ?_
  repeat fail
  exact q.2
theorem rw_skip {d : Nat} {hh : MH} {ch : Nat} {tl v : List Nat} {vt : Option Nat} {o8 o9 : Option Val} {f0 : Mi.Frame} {X : Fl -> Mi.Frame -> MH -> Prop} {rest : List Nat} (ef : f0 = rwF r rest v (wv vt) aO aK (some .none) o8 o9) (er : rest = ch :: tl) (hv : v.length <= 100)
  (q : X .nx (rwF r tl (v ++ [ch]) (wv vt) aO aK (some .none) o8 o9) hh) : WS (Cxd P0 d) (Sm.ite (Ex.cmp COp.isnot (Ex.var 7) (Ex.lit Val.none)) [(Sm.ite (Ex.cmp COp.ne (Ex.attr (Ex.var 0) 1668248436) (Ex.lit (Val.str [109,117,115,116]))) [(Sm.expr (Ex.call (Ex.lit (Val.top 220)) [(Ex.var 0),(Ex.slice (Ex.var 1) 1 [(Ex.lit (Val.int 1))]),(Ex.var 2),(Ex.bin BOp.add (Ex.var 3) (Ex.sub (Ex.var 1) (Ex.lit (Val.int 0)))),(Ex.var 4),(Ex.var 5),(Ex.var 6)])),(Sm.asg (T1.nm 4) (Ex.meth (Ex.var 2) 499984983411 [(Ex.var 4),(Ex.attr (Ex.var 0) 1668248436)]))] []),(Sm.asg (T1.nm 3) (Ex.bin BOp.add (Ex.var 3) (Ex.sub (Ex.var 7) (Ex.lit (Val.int 1))))),(Sm.asg (T1.nm 1) (Ex.slice (Ex.var 1) 1 [(Ex.call (Ex.lit (Val.bi 7103854)) [(Ex.sub (Ex.var 7) (Ex.lit (Val.int 0)))])]))] [(Sm.asg (T1.nm 3) (Ex.bin BOp.add (Ex.var 3) (Ex.sub (Ex.var 1) (Ex.lit (Val.int 0))))),(Sm.asg (T1.nm 1) (Ex.slice (Ex.var 1) 1 [(Ex.lit (Val.int 1))]))]) f0 hh X := by
 subst er
 subst ef
 repeat fail
 refine zbW (i:=0) (x:=ch) rfl ?_
 repeat fail
 refine zax (lim_ok hv (show 1 <= 2 from Nat.le_succ 1)) ?_
 repeat fail
 refine zcE (a:=1) ?_
 repeat fail
 exact q
theorem rw_head {d : Nat} {h : MH} {lf1 : Nat} {v0 v1 v2 v3 v4 v5 : Option Val} {fr f0 : Mi.Frame} {r0 : List Sm} {X : Fl -> Mi.Frame -> MH -> Prop} (ef : f0 = v0 :: v1 :: v2 :: v3 :: v4 :: v5 :: some (.ref aK) :: fr) (hK : h[aK]? = some (.list [.int ((lf1 + 1 : Nat) : Int)])) (q : WSs (Cxd P0 d) r0 f0 (h.set aK (.list [.int (lf1 : Int)])) X) : WSs (Cxd P0 d) ((Sm.asg (T1.sb (Ex.var 6) (Ex.lit (Val.int 0))) (Ex.bin BOp.sub (Ex.sub (Ex.var 6) (Ex.lit (Val.int 0))) (Ex.lit (Val.int 1)))) :: (Sm.ite (Ex.cmp COp.lt (Ex.sub (Ex.var 6) (Ex.lit (Val.int 0))) (Ex.lit (Val.int 0))) [(Sm.rse (Ex.lit (Val.str [116,111,111,32,109,97,110,121,32,119,97,121,115,32,116,111,32,114,101,119,114,105,116,101,32,97,32,119,111,114,100])))] []) :: r0) f0 h X := by
 subst ef
 repeat fail
 refine zaw hK (i:=0) rfl ?_
 repeat fail
 refine setSub_l hK (i:=0) (by show 0 < 1; decide) ?_
 show Beh _ _ _ _ _ (h.set aK (.list [.int (((lf1 + 1 : Nat) : Int) - 1)]))
 rw [show (((lf1 + 1 : Nat) : Int) - 1) = (lf1 : Int) by omega]
 have hK2 : (h.set aK (.list [.int (lf1 : Int)]))[aK]? = some (.list [.int (lf1 : Int)]) := List.getElem?_set_self (get_lt hK)
 repeat fail
 refine zaw hK2 (i:=0) rfl ?_
 repeat fail
 refine zan (decide_eq_false (Int.not_lt.mpr (Int.natCast_nonneg lf1))) ?_
 repeat fail
 exact q
structure RwT where
 rest : List Nat
 v : List Nat
 wt : Option Nat
 em : EM
 lf : Nat
 o7 : Option Val
 o8 : Option Val
 o9 : Option Val
 hh : MH
theorem rewc_ok (I : RwI ps L R cy) : ∀ n,∀ {d : Nat} {h : MH} {Q : Val -> MH -> Prop} {word w : List Nat} {wt : Option Nat} {em : EM} {lf : Nat},n <= 100 -> n + 5 <= d -> RwS h r ps L R cy aR aL aT aO aK em lf -> word.length <= n -> w.length + 2 * word.length <= 100 -> EmOk em -> wtB wt n -> em.length + 2 ^ n <= 900 -> 2 ^ n <= lf ->
  (∀ hh lf',RwS hh r ps L R cy aR aL aT aO aK (rwC ps L R cy n word w wt em) lf' -> Kpt h hh aO aK -> lf <= lf' + 2 ^ n -> Q .none hh) -> WF P0 d 220 [.ref r,.str word,.top 113,.str w,wv wt,.ref aO,.ref aK] h Q := by
 intro n
 induction n using Nat.strongRecOn with
 | ind n ih =>
 intro d h Q word w wt em lf hn hd S hwl hw E wb el hf q
 refine zaO (K:=n + 4) hd (rwF r word w (wv wt) aO aK none none none) rfl rfl rfl fun d' h' => ?_
 have h4 : 4 <= d' := Nat.le_trans (Nat.le_add_left 4 n) h'
 have e1 : lf = (lf - 1) + 1 := (Nat.sub_add_cancel (Nat.le_trans two.2 hf)).symm
 have S0 := S.cnt (l2:=lf - 1)
 have Z0 : RwL h (h.set aK (.list [.int ((lf - 1 : Nat) : Int)])) r ps L R cy aR aL aT aO aK n (rwC ps L R cy n word w wt em) (lf - 1) n word w wt em (lf - 1) := ⟨S0.1,S0.2,hwl,rfl,hw,E,wb,el,Nat.le_refl _,Nat.le_refl n,e1 ▸ hf⟩
 refine rw_head rfl (e1 ▸ S.hK) ?_
 iterate 1 fail
 refine ws_whS (σ:=RwT) (k:=n) (fun s => rwF r s.rest s.v (wv s.wt) aO aK s.o7 s.o8 s.o9) RwT.hh (fun k s => RwL h s.hh r ps L R cy aR aL aT aO aK n (rwC ps L R cy n word w wt em) (lf - 1) k s.rest s.v s.wt s.em s.lf) (Nat.lt_of_le_of_lt hn (by show 100 < 200000; decide)) ⟨word,w,wt,em,lf - 1,none,none,none,_⟩ rfl rfl Z0 fun k s R' Z T => ?_
 clear S0 Z0
 repeat fail
 refine br (fun hb => ?_) (fun hb => ?_)
 ·iterate 2 fail
  refine rw_end rfl (beq_iff_eq.mp hb) (Nat.le_trans (by decide) h4) Z.S Z.E (zce Z.wb (Nat.zero_le _)) (Nat.lt_of_le_of_lt (Nat.le_trans (Nat.le_add_right _ _) Z.el) (by decide)) fun h2 S2 K2 => ?_
  have ez : finC s.em s.v s.wt = rwC ps L R cy n word w wt em := by rw [<- Z.eq,beq_iff_eq.mp hb]; cases k <;> rfl
  exact q h2 s.lf (ez ▸ S2) (Z.K.trans K2) (by have := Z.fl; have := (two (k:=k)).2; clear q ih; omega)
 ·have er : s.rest = s.rest.headD 0 :: s.rest.tail := by cases hr : s.rest with
   | nil => rw [hr] at hb; exact nomatch hb
   | cons _ _ => rfl
  iterate 5 fail
  refine ff_ok rfl (Nat.le_trans (by decide) h4) Z.S.U I (fun t o8 o9 p fa => ?_) fun t o8 o9 fa => ?_
  ·iterate 2 fail
   refine rw_take rfl er (Nat.le_trans (by decide) h4) Z.S.app.U Z.le (I.pw p (List.mem_of_find?_eq_some fa)).2 (fun e => ?_) fun cw e => ?_
   ·obtain ⟨m,rfl,_⟩ := Z.sc er
    subst e
    rw [er] at Z fa
    iterate 2 fail
    exact T.nx ⟨_,_,s.wt,s.em,s.lf,some (.tup [.str p.1,.str p.2]),o8,o9,_⟩ ⟨m,Nat.lt_succ_self m,RwL.take I Z fa Z.S.app (Kpt.app fun _ _ _ _ e => e) (Nat.le_add_right _ _)⟩
   ·obtain ⟨m,rfl,_⟩ := Z.sc er
    subst e
    rw [er] at Z fa
    have B := Z.sub
    have mn := Nat.lt_of_succ_le Z.kn
    exact ih m mn (Nat.le_trans (Nat.le_of_lt mn) hn) (Nat.le_trans (Nat.add_le_add_right mn 4) h') Z.S.app B.1 B.2.1 Z.E B.2.2.1 B.2.2.2.1 B.2.2.2.2 fun h2 lf2 S2 K2 fl2 => ⟨S2.U,za0 (wss_nil (T.nx ⟨_,_,tmW s.wt cw,_,lf2,some (.tup [.str p.1,.str p.2]),o8,o9,_⟩ ⟨m,Nat.lt_succ_self m,RwL.take I Z fa S2 (fun _ _ n1 n2 e => K2 _ _ n1 n2 (zaa e)) fl2⟩))⟩
  ·iterate 2 fail
   refine rw_skip rfl er Z.le ?_
   iterate 2 fail
   exact T.nx ⟨s.rest.tail,_,s.wt,s.em,s.lf,some .none,o8,o9,_⟩ (Z.skip er fa t)
end
end Hd
namespace Hd
open Mi
noncomputable def Old (h hh : MH) : Prop := ∀ (a : Nat) o,h[a]? = some o -> hh[a]? = some o
theorem Old.trans {h h1 h2 : MH} (K : Old h h1) (K2 : Old h1 h2) : Old h h2 := fun a o e => K2 a o (K a o e)
section
variable {r : Nat} {ps : List (List Nat × List Nat)} {L R : List (List Nat)} {c : Val} {cy : Option (Option Nat)} {ct : Option (List Nat)} {aR aL aT : Nat}
theorem Ru.old {h hh : MH} (U : Ru h r ps L R c aR aL aT) (K : Old h hh) : Ru hh r ps L R c aR aL aT := ⟨K _ _ U.obj,K _ _ U.rows,K _ _ U.left,K _ _ U.right⟩
theorem handc_ok {d : Nat} {h : MH} {Q : Val -> MH -> Prop} {word : List Nat} (hd : 15 <= d) (C : Cost (cV cy) ct) (U : Ru h r ps L R (cV cy) aR aL aT) (I : RwI ps L R cy) (hs : ∀ c ∈ word,lett c = true) (hl : word.length <= 6)
  (q : ∀ hh ep,Old h hh -> hh[h.length]? = some (.dict ep (emV (rwC ps L R cy 6 word [] (some 0) []))) -> Q (.ref h.length) hh) : WF P0 d 224 [.ref r,.str word,.top 113] h Q := by
 refine zaO (K:=14) hd (some (.ref r) :: some (.str word) :: some (.top 113) :: nn 7) rfl rfl rfl fun d' h' => ?_
 unfold bd_rules_by_hand
 repeat fail
 refine zai rfl (rsh_ok (by omega) hs (by omega) ?_)
 repeat fail
 refine zbD (zcq U.obj rfl rfl) (ncst_ok (by omega) C U ?_)
 repeat fail
 refine Wo.of (a:=[]) rfl ?_
 repeat fail
 refine wa_top rfl ?_
 repeat fail
 have lt : ∀ {a : Nat} {x : MObj},h[a]? = some x -> a ≠ h.length /\ a ≠ (h ++ [MObj.dict (some ([] : List (Val × Val)).length) []]).length := fun e => by
  have := get_lt e
  rw [List.length_append,List.length_singleton]
  omega
 refine zai rfl (rewc_ok (aO:=h.length) (aK:=(h ++ [MObj.dict (some ([] : List (Val × Val)).length) []]).length) (wt:=some 0) (em:=[]) (lf:=20000) (w:=[]) I 6 (by decide) (by omega) ⟨U.app.app,by rw [List.length_append]; simp,fun a ha => ?_,⟨some 0,zaa zac⟩,zac⟩ hl (by rw [List.length_nil]; omega) ⟨.nil,fun _ h => absurd h List.not_mem_nil⟩ (fun k e => by cases e; decide) (by decide) (by decide) fun hh lf' S K _ => ?_)
 ·simp only [List.mem_cons,List.not_mem_nil,or_false] at ha
  rcases ha with rfl | rfl | rfl | rfl
  ·exact lt U.obj
  ·exact lt U.rows
  ·exact lt U.left
  ·exact lt U.right
 ·obtain ⟨ep,hO⟩ := S.hO
  repeat fail
  exact q hh ep (fun a o e => K a o (lt e).1 (lt e).2 (zaa (zaa e))) hO
theorem emGet_at {em : EM} (h : (em.map (·.1)).Nodup) {q : List Nat × Nat} (hq : q ∈ em) : zaH em q.1 = some q.2 := by
 unfold zaH
 induction em with
 | nil => exact absurd hq List.not_mem_nil
 | cons p em ih =>
  have h := List.nodup_cons.mp h
  rw [List.find?_cons]
  rcases List.mem_cons.mp hq with rfl | hq
  ·rw [beq_self_eq_true]; rfl
  ·rw [show (p.1 == q.1) = false from beq_eq_false_iff_ne.mpr fun e => h.1 (List.mem_map.mpr ⟨q,hq,e.symm⟩)]
   exact ih h.2 hq
theorem veq_em {h : MH} {x y : Nat} {e1 e2 : Option Nat} {em : EM} (hx : h[x]? = some (.dict e1 (emV em))) (hy : h[y]? = some (.dict e2 (emV em))) (E : EmOk em) : veq h (.ref x) (.ref y) = some true := by
 have key : ∀ l : EM,(∀ q ∈ l,q ∈ em) -> zaX h (emV em) (emV l) = some true := by
  intro l
  induction l with
  | nil => exact fun _ => rfl
  | cons q l ih =>
   intro hl
   show Option.casesOn (motive:=fun _ => Option Bool) (dget (emV em) (.str q.1)) (some false) (fun y => (veqD h (.int (q.2 : Int)) y).bind fun e => (zaX h (emV em) (emV l)).map fun b => e && b) = _
   rw [dget_em,emGet_at E.nd (hl q (.head _)),ih fun p hp => hl p (.tail _ hp)]
   show (veqD h (.int (q.2 : Int)) (.int (q.2 : Int))).bind _ = _
   rw [show veqD h (.int (q.2 : Int)) (.int (q.2 : Int)) = some true from (veq_int (h:=h)).trans (by rw [beq_self_eq_true])]; rfl
 unfold veq
 rw [dictAt_s hx,dictAt_s hy]
 show alt (grd (zbm (emV em) (emV em)) (bif (emV em).length == (emV em).length then zaX h (emV em) (emV em) else some false)) _ = _
 rw [key em fun _ h => h,beq_self_eq_true,show zbm (emV em) (emV em) = true from by unfold zbm; rw [beq_self_eq_true,Bool.or_true]]; rfl
theorem hand_any {word : List Nat} (C : Cost (cV cy) ct) (hb : cyB cy) (I : zbe ps L R) (hs : ∀ c ∈ word,lett c = true) (hl : word.length <= 6) :
  ∃ em,EmOk em /\ ∀ {d : Nat} {h : MH} {Q : Val -> MH -> Prop} {r aR aL aT : Nat},15 <= d -> Ru h r ps L R (cV cy) aR aL aT -> (∀ hh x ep,Old h hh -> hh[x]? = some (.dict ep (emV em)) -> Q (.ref x) hh) -> WF P0 d 224 [.ref r,.str word,.top 113] h Q :=
 ⟨rwC ps L R cy 6 word [] (some 0) [],(rwC_ok hb 6 word [] (some 0) [] ⟨.nil,fun _ h => absurd h List.not_mem_nil⟩ (fun k e => by cases e; decide)).1,fun hd U q => handc_ok hd C U ⟨I.ll,I.rl,I.pl,fun p hp => ⟨(I.pw p hp).2.2.1,(I.pw p hp).2.2.2.2⟩,hb⟩ hs hl fun hh ep K e => q hh _ ep K e⟩
end
end Hd
namespace Mi
section
variable {c : Cx} {cr : CRz} {fr : Frame} {h : MH} {Q : MH -> Prop} {P : Prg} {d : Nat}
noncomputable def RA (c : Cx) (cr : CRz) (es : List Ex) (fr : Frame) (h : MH) (Q : MH -> Prop) : Prop := ∃ H,RzE c cr fr H (.A es) h /\ Q H
theorem ra_here {e : Ex} {r : List Ex} (q : RE c cr e fr h Q) : RA c cr (e :: r) fr h Q := q.elim fun H q => ⟨H,.here q.1,q.2⟩
theorem ra_more {e : Ex} {r : List Ex} (q : WE c fr e h fun _ h1 => RA c cr r fr h1 Q) : RA c cr (e :: r) fr h Q := by
 obtain ⟨v,h1,e1,H,q1,q2⟩ := W.get q
 exact ⟨H,.more e1 q1,q2⟩
theorem re_meth {o : Ex} {n : Nat} {as : List Ex} (q : RE c cr o fr h Q) : RE c cr (.meth o n as) fr h Q := q.elim fun H q => ⟨H,.meth q.1,q.2⟩
theorem re_arg {a i : Nat} {k : Cl} {as : List Ex} (hc : c.P.clsAt a = some k) (hi : k.init = some i) (q : RA c cr as fr h Q) : RE c cr (.call (.lit (.top a)) as) fr h Q := q.elim fun H q => ⟨H,.arg rfl hc hi q.1,q.2⟩
theorem re_new {a i : Nat} {k : Cl} {as : List Ex} (hc : P.clsAt a = some k) (hi : k.init = some i) (q : WEs (Cxd P d) fr as h fun vs h2 => RF P d i (.ref h2.length :: vs) (h2 ++ [.inst a []]) Q) : RE (Cxd P d) (Crd P d) (.call (.lit (.top a)) as) fr h Q := by
 obtain ⟨vs,h2,e2,H,q1,q2⟩ := W.get q
 exact ⟨H,.new rfl e2 hc hi q1,q2⟩
end
end Mi
namespace Hd
open Mi
section
variable {d : Nat} {h h0 : MH} {Q : MH -> Prop} {ps : List (List Nat × List Nat)} {L R : List (List Nat)}
theorem zcn {t hh mk tl : List Nat} (hd : 7 <= d) (e1 : zci t = t) (k1 : sOkB t = true) (e2 : ([63] : List Nat).isPrefixOf t = false) (e3 : zbH t [47] = (hh,mk,tl)) (k3 : sOkB hh = true) (k4 : sOkB tl = true) (k4' : sOkB mk = true)
  (q : ∀ d',6 <= d' -> RSs (Cxd P0 d') (Crd P0 d') [(Sm.fo [3] false (Ex.meth (Ex.var 5) 495807392116 []) [(Sm.asgs [(T1.nm 9),(T1.nm 10),(T1.nm 11)] (Ex.meth (Ex.var 3) 2073057139020767260526 [(Ex.lit (Val.str [62]))])),(Sm.ite (Ex.cmp COp.eq (Ex.var 10) (Ex.lit (Val.str []))) [(Sm.rse (Ex.bin BOp.add (Ex.lit (Val.str [110,111,32,112,97,105,114,58,32])) (Ex.call (Ex.lit (Val.top 102)) [(Ex.var 3)])))] []),(Sm.expr (Ex.meth (Ex.var 8) 107135549927012 [(Ex.tup [(Ex.var 9),(Ex.var 11)])]))]),(Sm.asg (T1.nm 12) (Ex.lit (Val.str []))),(Sm.asg (T1.nm 13) (Ex.lit (Val.str []))),(Sm.ite (Ex.cmp COp.ne (Ex.var 6) (Ex.lit (Val.str []))) [(Sm.asgs [(T1.nm 12),(T1.nm 14),(T1.nm 13)] (Ex.meth (Ex.var 7) 2073057139020767260526 [(Ex.lit (Val.str [95]))])),(Sm.ite (Ex.cmp COp.eq (Ex.var 14) (Ex.lit (Val.str []))) [(Sm.rse (Ex.bin BOp.add (Ex.lit (Val.str [110,111,32,112,108,97,99,101,32,105,110,32,97,32,99,111,110,116,101,120,116,58,32])) (Ex.call (Ex.lit (Val.top 102)) [(Ex.var 7)])))] []),(Sm.asg (T1.nm 12) (Ex.meth (Ex.var 12) 495874894192 [(Ex.lit (Val.str [32]))])),(Sm.asg (T1.nm 13) (Ex.meth (Ex.var 13) 495874894192 [(Ex.lit (Val.str [32]))]))] []),(Sm.ret (Ex.call (Ex.lit (Val.top 229)) [(Ex.var 8),(Ex.call (Ex.lit (Val.top 238)) [(Ex.var 12)]),(Ex.call (Ex.lit (Val.top 238)) [(Ex.var 13)]),(Ex.var 2)]))] (some (.str t) :: some (.top 113) :: some must :: none :: none :: some (.str hh) :: some (.str mk) :: some (.str tl) :: some (.ref h.length) :: none :: none :: none :: none :: none :: none :: nn 6) (h ++ [.list []]) Q) : RF P0 d 239 [.str t,.top 113] h Q := by
 refine rf_go (K:=6) hd (some (.str t) :: some (.top 113) :: nn 19) rfl rfl rfl fun d' h' => ?_
 unfold bd_rules_read_rule
 refine zag ?_
 repeat fail
 refine zag ?_
 repeat fail
 refine wm_strip e1 k1 ?_
 repeat fail
 refine zag ?_
 repeat fail
 refine zch ?_
 repeat fail
 rw [e2]
 repeat fail
 refine zag ?_
 repeat fail
 refine za7 rfl e3 k3 k4' k4 ?_
 repeat fail
 refine zag ?_
 repeat fail
 exact q d' h'
theorem zb7 {t hh mk tl : List Nat} (hd : 6 <= d) (pl : ps.length < 1000) (e4 : zaM hh = ps.map prT) (pw : ∀ p ∈ ps,62 ∉ p.1 /\ sOkB p.1 = true /\ sOkB p.2 = true /\ sOkB (prT p) = true)
  (q : ∀ o3 o9 o10 o11,RSs (Cxd P0 d) (Crd P0 d) [(Sm.ite (Ex.cmp COp.ne (Ex.var 6) (Ex.lit (Val.str []))) [(Sm.asgs [(T1.nm 12),(T1.nm 14),(T1.nm 13)] (Ex.meth (Ex.var 7) 2073057139020767260526 [(Ex.lit (Val.str [95]))])),(Sm.ite (Ex.cmp COp.eq (Ex.var 14) (Ex.lit (Val.str []))) [(Sm.rse (Ex.bin BOp.add (Ex.lit (Val.str [110,111,32,112,108,97,99,101,32,105,110,32,97,32,99,111,110,116,101,120,116,58,32])) (Ex.call (Ex.lit (Val.top 102)) [(Ex.var 7)])))] []),(Sm.asg (T1.nm 12) (Ex.meth (Ex.var 12) 495874894192 [(Ex.lit (Val.str [32]))])),(Sm.asg (T1.nm 13) (Ex.meth (Ex.var 13) 495874894192 [(Ex.lit (Val.str [32]))]))] []),(Sm.ret (Ex.call (Ex.lit (Val.top 229)) [(Ex.var 8),(Ex.call (Ex.lit (Val.top 238)) [(Ex.var 12)]),(Ex.call (Ex.lit (Val.top 238)) [(Ex.var 13)]),(Ex.var 2)]))] (some (.str t) :: some (.top 113) :: some must :: o3 :: none :: some (.str hh) :: some (.str mk) :: some (.str tl) :: some (.ref h.length) :: o9 :: o10 :: o11 :: some (.str []) :: some (.str []) :: none :: nn 6) (h ++ .list (prs ps) :: [.list (sVs (ps.map prT))]) Q) :
  RSs (Cxd P0 d) (Crd P0 d) [(Sm.fo [3] false (Ex.meth (Ex.var 5) 495807392116 []) [(Sm.asgs [(T1.nm 9),(T1.nm 10),(T1.nm 11)] (Ex.meth (Ex.var 3) 2073057139020767260526 [(Ex.lit (Val.str [62]))])),(Sm.ite (Ex.cmp COp.eq (Ex.var 10) (Ex.lit (Val.str []))) [(Sm.rse (Ex.bin BOp.add (Ex.lit (Val.str [110,111,32,112,97,105,114,58,32])) (Ex.call (Ex.lit (Val.top 102)) [(Ex.var 3)])))] []),(Sm.expr (Ex.meth (Ex.var 8) 107135549927012 [(Ex.tup [(Ex.var 9),(Ex.var 11)])]))]),(Sm.asg (T1.nm 12) (Ex.lit (Val.str []))),(Sm.asg (T1.nm 13) (Ex.lit (Val.str []))),(Sm.ite (Ex.cmp COp.ne (Ex.var 6) (Ex.lit (Val.str []))) [(Sm.asgs [(T1.nm 12),(T1.nm 14),(T1.nm 13)] (Ex.meth (Ex.var 7) 2073057139020767260526 [(Ex.lit (Val.str [95]))])),(Sm.ite (Ex.cmp COp.eq (Ex.var 14) (Ex.lit (Val.str []))) [(Sm.rse (Ex.bin BOp.add (Ex.lit (Val.str [110,111,32,112,108,97,99,101,32,105,110,32,97,32,99,111,110,116,101,120,116,58,32])) (Ex.call (Ex.lit (Val.top 102)) [(Ex.var 7)])))] []),(Sm.asg (T1.nm 12) (Ex.meth (Ex.var 12) 495874894192 [(Ex.lit (Val.str [32]))])),(Sm.asg (T1.nm 13) (Ex.meth (Ex.var 13) 495874894192 [(Ex.lit (Val.str [32]))]))] []),(Sm.ret (Ex.call (Ex.lit (Val.top 229)) [(Ex.var 8),(Ex.call (Ex.lit (Val.top 238)) [(Ex.var 12)]),(Ex.call (Ex.lit (Val.top 238)) [(Ex.var 13)]),(Ex.var 2)]))] (some (.str t) :: some (.top 113) :: some must :: none :: none :: some (.str hh) :: some (.str mk) :: some (.str tl) :: some (.ref h.length) :: none :: none :: none :: none :: none :: none :: nn 6) (h ++ [.list []]) Q := by
 refine zag (rr_for rfl pl e4 pw fun o3 o9 o10 o11 => zcv ?_)
 refine zag ?_
 repeat fail
 refine zag ?_
 repeat fail
 exact q _ _ _ _
end
end Hd
namespace Hd
open Mi
section
variable {d : Nat} {h h0 : MH} {Q : MH -> Prop} {ps : List (List Nat × List Nat)} {L R : List (List Nat)}
theorem nlet_rz {d : Nat} : CallR P0 200000 (d + 2) 103 [.str [35]] h h :=
 ⟨fn_errors_need_letter,[.str [35]],rfl,rfl,.here (.ite (r:=true) (h1:=h) (by kernel_rfl) (.here (.rse (v:=.str [110,111,32,108,101,116,116,101,114,58,32,35]) (by kernel_rfl))))⟩
theorem nword_rz {d : Nat} : CallR P0 200000 (d + 3) 134 [.str [35]] h h :=
 ⟨fn_errors_need_word,[.str [35]],rfl,rfl,.next (f2:=some (.str [35]) :: nn 7) (h2:=h) (by kernel_rfl) (.here (.fo (v:=.str [35]) (h1:=h) (k:=.sq [35]) (n:=0) (by kernel_rfl) rfl (.last (v:=.str [35]) (f1:=some (.str [35]) :: some (.str [35]) :: nn 6) rfl rfl (.here (.expr (.call (a:=103) (vs:=[.str [35]]) (h1:=h) (h2:=h) (by kernel_rfl) (by kernel_rfl) rfl nlet_rz))))))⟩
theorem nls_rz {d : Nat} : CallR P0 200000 (d + 4) 219 [.str [35]] h h :=
 ⟨fn_errors_need_letters,[.str [35]],rfl,rfl,.here (.expr (.call (a:=134) (vs:=[.str [35]]) (h1:=h) (h2:=h) (by kernel_rfl) (by kernel_rfl) rfl nword_rz))⟩
theorem nset_rz (hd : 5 <= d) (q : Q h) : RF P0 d 218 [.str [35],.bool false] h Q := by
 obtain ⟨d',rfl⟩ := Nat.exists_eq_add_of_le' hd
 exact ⟨h,⟨fn_rules__need_set,[.str [35],.bool false],rfl,rfl,.next (f2:=some (.str [35]) :: some (.bool false) :: nn 6) (h2:=h) (by kernel_rfl) (.here (.expr (.call (a:=219) (vs:=[.str [35]]) (h1:=h) (h2:=h) (by kernel_rfl) (by kernel_rfl) rfl nls_rz)))⟩,q⟩
theorem rsets_rz (hd : 3 <= d) (q : Q (h ++ [.list []])) : RF P0 d 238 [.str [91,97,98]] h Q := by
 obtain ⟨d',rfl⟩ := Nat.exists_eq_add_of_le' hd
 exact ⟨h ++ [.list []],⟨fn_rules_read_sets,[.str [91,97,98]],rfl,rfl,.next (f2:=some (.str [91,97,98]) :: some (.ref h.length) :: nn 8) (h2:=h ++ [.list []]) (by kernel_rfl) (.next (f2:=some (.str [91,97,98]) :: some (.ref h.length) :: some (.int 0) :: nn 7) (h2:=h ++ [.list []]) (by kernel_rfl) (.here (.wh (n:=0) (.wlast (h1:=h ++ [.list []]) (by kernel_rfl) (.here (.ite (r:=true) (h1:=h ++ [.list []]) (by kernel_rfl) (.next (f2:=some (.str [91,97,98]) :: some (.ref h.length) :: some (.int 0) :: some (.int (-1)) :: nn 6) (h2:=h ++ [.list []]) (by kernel_rfl) (.here (.ite (r:=true) (h1:=h ++ [.list []]) (by kernel_rfl) (.here (.rse (v:=.str [97,110,32,111,112,101,110,32,98,114,97,99,107,101,116,58,32,91,97,98]) (by kernel_rfl)))))))))))) ⟩,q⟩
theorem shown_ok {s : List Nat} {Q : Val -> MH -> Prop} (hd : 1 <= d) (q : Q (.str (s.take 40)) h) : WF P0 d 102 [.str s] h Q := by
 refine zaO (K:=0) hd (some (.str s) :: nn 6) rfl rfl rfl fun d' h' => ?_
 unfold bd_errors_shown
 repeat fail
 refine W.of (a:=.str (cut s 0 (min 40 s.length))) (g:=h) rfl ?_
 repeat fail
 rw [show cut s 0 (min 40 s.length) = s.take 40 from by
  unfold cut
  rw [List.drop_zero]
  by_cases h : 40 <= s.length
  ·rw [Nat.min_eq_left h]
  ·rw [Nat.min_eq_right (by omega),List.take_length,List.take_of_length_le (by omega)]]
 exact q
theorem rx_a (hd : 7 <= d) (q : Q (h ++ [.list []] ++ [.list [.str [97]]])) : RF P0 d 239 [.str [97],.top 113] h Q := by
 refine zcn (hh:=[97]) (mk:=[]) (tl:=[]) hd (by kernel_rfl) rfl rfl (by kernel_rfl) rfl rfl rfl fun d' h' => ?_
 refine zar (rs_for 0 (fun _ fr hh => hh = h ++ [.list []] ++ [.list [.str [97]]] /\ fr = some (.str [97]) :: some (.top 113) :: some must :: none :: none :: some (.str [97]) :: some (.str []) :: some (.str []) :: some (.ref h.length) :: none :: none :: none :: none :: none :: none :: nn 6) ?_)
 repeat fail
 refine wm_split (l:=[[97]]) (by kernel_rfl) (by decide) (by decide) ?_
 refine ⟨.ls (h ++ [MObj.list []]).length,zbb zac,⟨rfl,rfl⟩,fun i hi => absurd hi (Nat.not_lt_zero _),?_⟩
 rintro fr hh ⟨rfl,rfl⟩
 refine ⟨.str [97],zba (i:=0) zac,zde ?_⟩
 refine zag ?_
 repeat fail
 refine za7 rfl (part_no (by decide)) rfl rfl rfl ?_
 repeat fail
 refine zar ?_
 repeat fail
 refine zan (s:=true) rfl ?_
 repeat fail
 refine zar ?_
 repeat fail
 refine zai rfl (shown_ok (by omega) ?_)
 repeat fail
 refine zax (by decide) ?_
 exact q
theorem rx_place (hd : 7 <= d) : RF P0 d 239 [.str [97,62,98,32,47,32,97],.top 113] h fun _ => True := by
 refine zcn (hh:=[97,62,98,32]) (mk:=[47]) (tl:=[32,97]) hd (by kernel_rfl) rfl rfl (by kernel_rfl) rfl rfl rfl fun d' h' => ?_
 refine zb7 (ps:=[([97],[98])]) h' (by decide) (by kernel_rfl) (fun p hp => by cases List.mem_singleton.mp hp; exact ⟨by decide,rfl,rfl,rfl⟩) fun o3 o9 o10 o11 => ?_
 refine zar ?_
 repeat fail
 refine zan (s:=false) rfl ?_
 repeat fail
 refine zag ?_
 repeat fail
 refine za7 rfl (part_no (by decide)) rfl rfl rfl ?_
 repeat fail
 refine zar ?_
 repeat fail
 refine zan (s:=true) rfl ?_
 repeat fail
 refine zar ?_
 repeat fail
 refine zai rfl (shown_ok (by omega) ?_)
 repeat fail
 refine zax (by decide) ?_
 trivial
theorem rx_open (hd : 7 <= d) : RF P0 d 239 [.str [97,62,98,32,47,32,91,97,98,32,95],.top 113] h fun _ => True := by
 refine zcn (hh:=[97,62,98,32]) (mk:=[47]) (tl:=[32,91,97,98,32,95]) hd (by kernel_rfl) rfl rfl (by kernel_rfl) rfl rfl rfl fun d' h' => ?_
 refine zb7 (ps:=[([97],[98])]) h' (by decide) (by kernel_rfl) (fun p hp => by cases List.mem_singleton.mp hp; exact ⟨by decide,rfl,rfl,rfl⟩) fun o3 o9 o10 o11 => ?_
 refine zag ?_
 repeat fail
 refine zan (s:=false) rfl ?_
 repeat fail
 refine za7 (a:=[32,91,97,98,32]) (b:=[95]) (c:=[]) rfl (by kernel_rfl) rfl rfl rfl ?_
 repeat fail
 refine zan (s:=false) rfl ?_
 repeat fail
 refine zaN (t:=[91,97,98]) (by kernel_rfl) rfl ?_
 repeat fail
 refine zaN (t:=[]) (by kernel_rfl) rfl ?_
 repeat fail
 refine zar (rs_ret (re_arg rfl rfl (ra_more ?_)))
 repeat fail
 refine ra_here (re_fn rfl ?_)
 repeat fail
 exact rsets_rz (by omega) trivial
end
end Hd
namespace Hd
open Mi
section
variable {d : Nat} {h h0 : MH} {Q : MH -> Prop} {ps : List (List Nat × List Nat)} {L R : List (List Nat)} {c : Val} {aR aL aT : Nat}
theorem init_rz1 (hd : 6 <= d) (hP : h[aR]? = some (.list (prs [([],[98])]))) : RF P0 d 236 [.ref h.length,.ref aR,.ref aL,.ref aT,c] (h ++ [.inst 229 []]) fun _ => True := by
 refine rf_go (K:=5) hd (inF (.ref h.length) aR aL aT c none none none) rfl rfl rfl fun d' h' => ?_
 unfold bd_Rule_init
 refine zag (init_s0 rfl (zaa hP) (by decide) (by decide) (zcv ?_))
 refine zar (rs_for 0 (fun _ f g => g = h ++ [.inst 229 []] ++ [.list []] /\ f = inF (.ref h.length) aR aL aT c none none none) ?_)
 repeat fail
 refine ⟨.ls aR,zbb (zaa (zaa hP)),⟨rfl,rfl⟩,fun i hi => absurd hi (Nat.not_lt_zero _),?_⟩
 rintro fr hh ⟨rfl,rfl⟩
 refine ⟨.tup [.str [],.str [98]],zba (i:=0) (zaa (zaa hP)),?_⟩
 refine Wo.of (a:=inF (.ref h.length) aR aL aT c (some (.str [])) (some (.str [98])) none) rfl ?_
 have h3 : 3 <= d' := Nat.le_trans (by decide) h'
 refine zag ?_
 repeat fail
 refine zai rfl (zbo h3 (fun _ h => nomatch h) (by decide) ?_)
 repeat fail
 refine zag ?_
 repeat fail
 refine zai rfl (zbo h3 (by decide +kernel) (by decide) ?_)
 repeat fail
 refine zar ?_
 repeat fail
 refine zan (s:=true) rfl ?_
 repeat fail
 refine zar ?_
 repeat fail
 trivial
theorem init_rz2 (hd : 6 <= d) (hP : h[aR]? = some (.list (prs [([97],[98])]))) (hL : h[aL]? = some (.list (sVs [[97],[35]]))) : RF P0 d 236 [.ref h.length,.ref aR,.ref aL,.ref aT,c] (h ++ [.inst 229 []]) fun _ => True := by
 refine rf_go (K:=5) hd (inF (.ref h.length) aR aL aT c none none none) rfl rfl rfl fun d' h' => ?_
 unfold bd_Rule_init
 refine zag (init_s0 rfl (zaa hP) (by decide) (by decide) (zcv ?_))
 have hL : (h ++ [.inst 229 []] ++ [.list []])[aL]? = some (.list (sVs [[97],[35]])) := zaa (zaa hL)
 refine zag (init_s1 (ps:=[([97],[98])]) rfl (Nat.le_trans (by decide) h') (zaa (zaa hP)) (by decide) (by decide +kernel) fun o1 o2 => zcv ?_)
 generalize h ++ [.inst 229 []] ++ [.list []] = g at *
 refine zar (rs_for 1 (fun _ f g' => g' = g /\ ∃ o3,f = inF (.ref h.length) aR aL aT c o1 o2 o3) ?_)
 repeat fail
 refine zaB hL ?_
 repeat fail
 refine ⟨.rg 2,it_rng (n:=2) (by decide),⟨rfl,_,rfl⟩,?_,?_⟩
 ·rintro i hi fr hh ⟨rfl,o3,rfl⟩
  obtain rfl : i = 0 := Nat.lt_one_iff.mp hi
  refine ⟨.int 0,rfl,zde ?_⟩
  repeat fail
  refine zaw hL (i:=0) (v:=.str [97]) rfl ?_
  repeat fail
  refine zai rfl (nset_ok h' (by decide +kernel) ?_)
  repeat fail
  exact ⟨rfl,_,rfl⟩
 ·rintro fr hh ⟨rfl,o3,rfl⟩
  refine ⟨.int 1,rfl,zde ?_⟩
  refine zar ?_
  repeat fail
  refine zaw hL (i:=1) (v:=.str [35]) rfl ?_
  repeat fail
  exact ⟨_,rfl,rfl,nset_rz h' trivial⟩
end
end Hd
namespace Hd
open Mi
section
variable {d : Nat} {h h0 : MH} {Q : MH -> Prop} {ps : List (List Nat × List Nat)} {L R : List (List Nat)} {c : Val} {aR aL aT : Nat}
theorem rx_b (hd : 7 <= d) : RF P0 d 239 [.str [62,98],.top 113] h fun _ => True := by
 refine zcn (hh:=[62,98]) (mk:=[]) (tl:=[]) hd (by kernel_rfl) rfl rfl (by kernel_rfl) rfl rfl rfl fun d' h' => ?_
 refine zb7 (ps:=[([],[98])]) h' (by decide) (by kernel_rfl) (fun p hp => by cases List.mem_singleton.mp hp; exact ⟨by decide,rfl,rfl,rfl⟩) fun o3 o9 o10 o11 => ?_
 refine zag ?_
 repeat fail
 refine zan (s:=true) rfl ?_
 repeat fail
 refine zar (rs_ret (re_new (i:=236) rfl rfl ?_))
 repeat fail
 refine zai rfl (za8 (L:=[]) (n:=1) (by omega) (by decide) (by decide) rfl ?_)
 repeat fail
 refine zai rfl (za8 (L:=[]) (n:=1) (by omega) (by decide) (by decide) rfl ?_)
 repeat fail
 exact init_rz1 h' (zaa (zaa zac))
theorem rx_edge (hd : 7 <= d) : RF P0 d 239 [.str [97,62,98,32,47,32,97,35,32,95],.top 113] h fun _ => True := by
 refine zcn (hh:=[97,62,98,32]) (mk:=[47]) (tl:=[32,97,35,32,95]) hd (by kernel_rfl) rfl rfl (by kernel_rfl) rfl rfl rfl fun d' h' => ?_
 refine zb7 (ps:=[([97],[98])]) h' (by decide) (by kernel_rfl) (fun p hp => by cases List.mem_singleton.mp hp; exact ⟨by decide,rfl,rfl,rfl⟩) fun o3 o9 o10 o11 => ?_
 refine zag ?_
 repeat fail
 refine zan (s:=false) rfl ?_
 repeat fail
 refine za7 (a:=[32,97,35,32]) (b:=[95]) (c:=[]) rfl (by kernel_rfl) rfl rfl rfl ?_
 repeat fail
 refine zan (s:=false) rfl ?_
 repeat fail
 refine zaN (t:=[97,35]) (by kernel_rfl) rfl ?_
 repeat fail
 refine zaN (t:=[]) (by kernel_rfl) rfl ?_
 repeat fail
 refine zar (rs_ret (re_new (i:=236) rfl rfl ?_))
 repeat fail
 refine zai rfl (za8 (L:=[[97],[35]]) (n:=3) (by omega) (by decide) (by decide) rfl ?_)
 repeat fail
 refine zai rfl (za8 (L:=[]) (n:=1) (by omega) (by decide) (by decide) rfl ?_)
 repeat fail
 exact init_rz2 h' (zaa (zaa zac)) (zaa zac)
end
end Hd
namespace Hd
open Mi
theorem zbR {α : Type} {f : α -> PySem.PyData} (hf : ∀ a,PySem.PyData.eqv (f a) (f a) = true) (l : List α) : PySem.PyData.eqvAll (l.map f) (l.map f) = true := by
 induction l with
 | nil => rfl
 | cons a l ih => rw [List.map_cons,PySem.PyData.eqvAll,hf a,ih]; rfl
section
variable {h : MH} {r r2 : Nat} {ps : List (List Nat × List Nat)} {L R : List (List Nat)} {c : Val} {aR aL aT bR bL bT : Nat}
theorem zb5 {k : Nat} : ∀ l : List (List Nat),(sVs l).mapM (toD h k) = some (l.map fun s => PySem.PyData.str ⟨s.toArray⟩) := fun l => by
 induction l with
 | nil => rfl
 | cons a l ih =>
  have ih : (l.map Val.str).mapM (toD h k) = _ := ih
  show ((a :: l).map Val.str).mapM (toD h k) = _
  rw [List.map_cons,List.mapM_cons,ih]
  cases k <;> rfl
theorem toD_prs {k : Nat} : ∀ l : List (List Nat × List Nat),(prs l).mapM (toD h (k + 2)) = some (l.map fun p => PySem.PyData.tuple [.str ⟨p.1.toArray⟩,.str ⟨p.2.toArray⟩]) := fun l => by
 induction l with
 | nil => rfl
 | cons a l ih =>
  have ih : (l.map fun p => Val.tup [.str p.1,.str p.2]).mapM (toD h (k + 2)) = _ := ih
  show ((a :: l).map fun p => Val.tup [.str p.1,.str p.2]).mapM (toD h (k + 2)) = _
  rw [List.map_cons,List.mapM_cons,ih]
  rfl
theorem toD_ls {a k : Nat} {vs : List Val} {ds : List PySem.PyData} (ha : h[a]? = some (.list vs)) (e : vs.mapM (toD h k) = some ds) : toD h (k + 1) (.ref a) = some (.list ds) := by
 show (zas h (.ref a)).bind _ = _
 rw [zaW ha]
 show (vs.mapM (toD h k)).map _ = _
 rw [e]; rfl
theorem veq_l {x y : Nat} {vs ws : List Val} {ds es : List PySem.PyData} (hx : h[x]? = some (.list vs)) (hy : h[y]? = some (.list ws)) (e1 : vs.mapM (toD h 7) = some ds) (e2 : ws.mapM (toD h 7) = some es) : veq h (.ref x) (.ref y) = some (PySem.PyData.eqv (.list ds) (.list es)) := by
 have e : veq h (.ref x) (.ref y) = veqD h (.ref x) (.ref y) := by
  unfold veq
  rw [dictAt_l hx]; rfl
 rw [e]
 unfold veqD
 rw [toD_ls (k:=7) hx e1,toD_ls (k:=7) hy e2]; rfl
noncomputable def Slf (c : Val) : Prop := ∃ cd,(∀ h,toD h 7 c = some cd) /\ PySem.PyData.eqv cd cd = true
theorem veq_rule (U : Ru h r ps L R c aR aL aT) (V : Ru h r2 ps L R c bR bL bT) (S : Slf c) : veq h (.tup [.ref bR,.ref bL,.ref bT,c]) (.tup [.ref aR,.ref aL,.ref aT,c]) = some true := by
 obtain ⟨cd,e1,e2⟩ := S
 have t : ∀ {r aR aL aT : Nat},Ru h r ps L R c aR aL aT -> toD h 8 (.tup [.ref aR,.ref aL,.ref aT,c]) = some (.tuple [.list (ps.map fun p => PySem.PyData.tuple [.str ⟨p.1.toArray⟩,.str ⟨p.2.toArray⟩]),.list (L.map fun s => PySem.PyData.str ⟨s.toArray⟩),.list (R.map fun s => PySem.PyData.str ⟨s.toArray⟩),cd]) := fun {r aR aL aT} U => by
  show (([.ref aR,.ref aL,.ref aT,c] : List Val).mapM (toD h 7)).map _ = _
  rw [List.mapM_cons,List.mapM_cons,List.mapM_cons,List.mapM_cons,toD_ls (k:=6) U.rows (toD_prs (k:=4) ps),toD_ls (k:=6) U.left (zb5 L),toD_ls (k:=6) U.right (zb5 R),e1 h]; rfl
 have e : veq h (.tup [.ref bR,.ref bL,.ref bT,c]) (.tup [.ref aR,.ref aL,.ref aT,c]) = veqD h (.tup [.ref bR,.ref bL,.ref bT,c]) (.tup [.ref aR,.ref aL,.ref aT,c]) := rfl
 rw [e]
 unfold veqD
 rw [t V,t U]
 have es : ∀ s : PySem.Str,PySem.PyData.eqv (.str s) (.str s) = true := fun s => by simp [PySem.PyData.eqv]
 have el : ∀ l : List (List Nat),PySem.PyData.eqv (.list (l.map fun s => PySem.PyData.str ⟨s.toArray⟩)) (.list (l.map fun s => PySem.PyData.str ⟨s.toArray⟩)) = true := fun l => by
  rw [PySem.PyData.eqv]; exact zbR (fun a => es _) l
 have er : PySem.PyData.eqv (.list (ps.map fun p => PySem.PyData.tuple [.str ⟨p.1.toArray⟩,.str ⟨p.2.toArray⟩])) (.list (ps.map fun p => PySem.PyData.tuple [.str ⟨p.1.toArray⟩,.str ⟨p.2.toArray⟩])) = true := by
  rw [PySem.PyData.eqv]
  refine zbR (fun a => ?_) ps
  rw [PySem.PyData.eqv,PySem.PyData.eqvAll,PySem.PyData.eqvAll,es,es]; rfl
 show some (PySem.PyData.eqv (.tuple _) (.tuple _)) = _
 rw [PySem.PyData.eqv,PySem.PyData.eqvAll,PySem.PyData.eqvAll,PySem.PyData.eqvAll,PySem.PyData.eqvAll,er,el,el,e2]; rfl
end
structure CstI (c : Val) (ct : Option (List Nat)) (cy : Option (Option Nat)) : Prop where
 e : c = cV cy
 C : Cost (cV cy) ct
 w : cyB cy
 s : Slf (cV cy)
theorem costs {k : Nat} (hk : k < 3) : ∃ c ct cy,([must,.int 4,.none] : List Val)[k]? = some c /\ CstI c ct cy := by
 rcases k with _ | _ | _ | k
 ·exact ⟨must,none,none,rfl,rfl,.must rfl,(fun _ e => nomatch e),_,fun _ => rfl,by simp [PySem.PyData.eqv]⟩
 ·exact ⟨.int 4,some [52],some (some 4),rfl,rfl,.some cst4,(fun cw e k e2 => by cases e; cases e2; exact Nat.le_refl _),_,fun _ => rfl,by simp [PySem.PyData.eqv]⟩
 ·exact ⟨.none,some [110,111,110,101],some none,rfl,rfl,.some cstN,(fun cw e k e2 => by cases e; exact nomatch e2),_,fun _ => rfl,by simp [PySem.PyData.eqv]⟩
 ·omega
noncomputable abbrev txts : List (List Nat) := [[97,62,98],[97,62,32,47,32,95,32,35],[63,51,32,97,62,98,32,98,62,99,32,47,32,35,91,97,98,93,32,95],[62,98],[97],[97,62,98,32,47,32,97],[97,62,98,32,47,32,91,97,98,32,95],[97,62,98,32,47,32,97,35,32,95]]
structure Good (t : List Nat) : Prop where
 x : ∃ ps L R c ct,Cost c ct /\ zbe ps L R /\ Par t c ct ps L R /\ zcC ps L R /\ zaK ct ps L R = t
theorem good_of {t : List Nat} {ps : List (List Nat × List Nat)} {L R : List (List Nat)} {c : Val} {ct : Option (List Nat)} (C : Cost c ct) (I : zbe ps L R) (hp : ∀ p ∈ ps,prB p = true) (hn : ps.length = 1 \/ ps.length = 2) (hl : lnB L R = true) (hc : L.length + R.length ≠ 0 -> cxB L R = true) (e : zaK ct ps L R = t) : Good t :=
 ⟨ps,L,R,c,ct,C,I,e ▸ par_ok hp hn hc C,lineOk_of hp hn hl,e⟩
theorem good0 : Good [97,62,98] := good_of (ps:=[([97],[98])]) (L:=[]) (R:=[]) (.must rfl) ⟨by decide,by decide,by decide +kernel,by decide,by decide,fun i s h => chk_s (f:=fun i => (i : Int) == 0) (by decide +kernel) i s h,fun i s h => chk_s (f:=fun i => (i : Int) == (([] : List (List Nat)).length : Int) - 1) (by decide +kernel) i s h⟩ (by decide +kernel) (.inl rfl) (by decide +kernel) (fun h => absurd rfl h) (by kernel_rfl)
theorem good1 : Good [97,62,32,47,32,95,32,35] := good_of (ps:=[([97],[])]) (L:=[]) (R:=[[35]]) (.must rfl) ⟨by decide,by decide,by decide +kernel,by decide,by decide,fun i s h => chk_s (f:=fun i => (i : Int) == 0) (by decide +kernel) i s h,fun i s h => chk_s (f:=fun i => (i : Int) == (([[35]] : List (List Nat)).length : Int) - 1) (by decide +kernel) i s h⟩ (by decide +kernel) (.inl rfl) (by decide +kernel) (fun _ => by decide +kernel) (by kernel_rfl)
theorem good2 : Good [63,51,32,97,62,98,32,98,62,99,32,47,32,35,91,97,98,93,32,95] := good_of (ps:=[([97],[98]),([98],[99])]) (L:=[[35],[97,98]]) (R:=[]) (.some cst3) ⟨by decide,by decide,by decide +kernel,by decide,by decide,fun i s h => chk_s (f:=fun i => (i : Int) == 0) (by decide +kernel) i s h,fun i s h => chk_s (f:=fun i => (i : Int) == (([] : List (List Nat)).length : Int) - 1) (by decide +kernel) i s h⟩ (by decide +kernel) (.inr rfl) cx_3.1 (fun _ => cx_3.2) (by kernel_rfl)
theorem txt_ok {k : Nat} (hk : k < 8) : ∃ t,txts[k]? = some t /\ ((k <= 2 /\ Good t) \/ (2 < k /\ ∀ {d : Nat} {h : MH},7 <= d -> RF P0 d 239 [.str t,.top 113] h fun _ => True)) := by
 rcases k with _ | _ | _ | _ | _ | _ | _ | _ | k
 ·exact ⟨_,rfl,.inl ⟨by decide,good0⟩⟩
 ·exact ⟨_,rfl,.inl ⟨by decide,good1⟩⟩
 ·exact ⟨_,rfl,.inl ⟨by decide,good2⟩⟩
 ·exact ⟨_,rfl,.inr ⟨by decide,rx_b⟩⟩
 ·exact ⟨_,rfl,.inr ⟨by decide,fun hd => rx_a hd trivial⟩⟩
 ·exact ⟨_,rfl,.inr ⟨by decide,rx_place⟩⟩
 ·exact ⟨_,rfl,.inr ⟨by decide,rx_open⟩⟩
 ·exact ⟨_,rfl,.inr ⟨by decide,rx_edge⟩⟩
 ·omega
end Hd
namespace Hd
open Mi
noncomputable abbrev cL : Cx := Cxd P0 60
noncomputable abbrev rL : CRz := Crd P0 60
theorem rgL : (fun h => zaU P0 200000 60 105 [.str [108,101,97,115,116]] h) = fun h => some (.top 113,h) := by kernel_rfl
theorem rs_x {s : List Nat} (hs : s = [120] \/ s = [121] \/ s = [122]) : rsF (s ++ [91,98,99,93,35]) 7 0 [] = some [s,[98,99],[35]] := by
 rcases hs with rfl | rfl | rfl <;> kernel_rfl
theorem veq_b {h : MH} {a b : Bool} : veq h (.bool a) (.bool b) = some (a == b) := by
 show some (PySem.PyData.eqv (.bool a) (.bool b)) = _
 simp [PySem.PyData.eqv]
noncomputable abbrev lwF (ns : List Int) (o2 o3 o4 o5 o6 o7 o8 o9 o10 : Option Val) : Mi.Frame := some (.fl (ns.map .int)) :: some (.top 113) :: o2 :: o3 :: o4 :: o5 :: o6 :: o7 :: o8 :: o9 :: o10 :: nn 6
section
variable {ns : List Int} {h : MH} {R : Fl -> Mi.Frame -> MH -> Prop} {rest : List Sm} {o2 o3 o4 o5 o6 o7 o8 o9 o10 : Option Val}
theorem walk_b {r : Nat} {ps : List (List Nat × List Nat)} {L R' : List (List Nat)} {ct : Option (List Nat)} {cy : Option (Option Nat)} {aR aL aT : Nat} {word : List Nat} {em : EM} {f0 : Mi.Frame} (ef : f0 = lwF ns (some (.ref r)) (some (.str word)) o4 o5 o6 o7 o8 o9 o10) (C : Cost (cV cy) ct) (S : Slf (cV cy)) (U : Ru h r ps L R' (cV cy) aR aL aT) (lo : zcC ps L R') (I : zbe ps L R') (Z : Par (zaK ct ps L R') (cV cy) ct ps L R') (Eok : EmOk em)
  (hand : ∀ {d : Nat} {h : MH} {Q : Val -> MH -> Prop} {r aR aL aT : Nat},15 <= d -> Ru h r ps L R' (cV cy) aR aL aT -> (∀ hh x ep,Old h hh -> hh[x]? = some (.dict ep (emV em)) -> Q (.ref x) hh) -> WF P0 d 224 [.ref r,.str word,.top 113] h Q)
  (q : ∀ o4 o5 g,WLs cL rL rest (lwF ns (some (.ref r)) (some (.str word)) o4 o5 o6 o7 o8 o9 o10) g R) : WLs cL rL ((Sm.asg (T1.nm 4) (Ex.meth (Ex.var 2) 1818848869 [(Ex.var 1)])) :: (Sm.asg (T1.nm 5) (Ex.call (Ex.lit (Val.top 239)) [(Ex.var 4),(Ex.var 1)])) :: (Sm.ite (Ex.cmp COp.ne (Ex.meth (Ex.var 5) 1818848869 [(Ex.var 1)]) (Ex.var 4)) [(Sm.ret (Ex.lit (Val.bool false)))] []) :: (Sm.ite (Ex.cmp COp.ne (Ex.call (Ex.lit (Val.top 224)) [(Ex.var 5),(Ex.var 3),(Ex.var 1)]) (Ex.call (Ex.lit (Val.top 224)) [(Ex.var 2),(Ex.var 3),(Ex.var 1)])) [(Sm.ret (Ex.lit (Val.bool false)))] []) :: (Sm.ite (Ex.cmp COp.ne (Ex.tup [(Ex.attr (Ex.var 5) 1919907699),(Ex.attr (Ex.var 5) 1818584692),(Ex.attr (Ex.var 5) 491394656372),(Ex.attr (Ex.var 5) 1668248436)]) (Ex.tup [(Ex.attr (Ex.var 2) 1919907699),(Ex.attr (Ex.var 2) 1818584692),(Ex.attr (Ex.var 2) 491394656372),(Ex.attr (Ex.var 2) 1668248436)])) [(Sm.ret (Ex.lit (Val.bool false)))] []) :: rest) f0 h R := by
 subst ef
 refine zaq ?_
 repeat fail
 refine zbD (zcq U.obj rfl rfl) (line_ok (by decide) C U lo fun t3 => ?_)
 repeat fail
 refine zaq ?_
 repeat fail
 refine zai rfl (rrule_ok (by decide) I Z fun t4 r2 bR bL bT V => ?_)
 have U := U.app (t:=t3) |>.app (t:=t4)
 repeat fail
 refine zaq ?_
 repeat fail
 refine zbD (zcq V.obj rfl rfl) (line_ok (by decide) C V lo fun t5 => ?_)
 repeat fail
 refine zan (s:=true) (beq_self_eq_true _) ?_
 repeat fail
 refine zaq ?_
 repeat fail
 refine zai rfl (hand (by decide) V.app fun g1 x ep O1 e1 => ?_)
 repeat fail
 refine zai rfl (hand (by decide) (U.app.old O1) fun g2 y ep2 O2 e2 => ?_)
 have V := (V.app (t:=t5)).old (O1.trans O2)
 have U := (U.app (t:=t5)).old (O1.trans O2)
 repeat fail
 refine wc_neT (veq_em (O2 _ _ e1) e2 Eok) ?_
 clear hand O1 O2 e1 e2
 repeat fail
 refine zaq ?_
 repeat fail
 refine zap V.obj rfl rfl ?_
 repeat fail
 refine zap V.obj rfl rfl ?_
 repeat fail
 refine zap V.obj rfl rfl ?_
 repeat fail
 refine zap V.obj rfl rfl ?_
 repeat fail
 refine zap U.obj rfl rfl ?_
 repeat fail
 refine zap U.obj rfl rfl ?_
 repeat fail
 refine zap U.obj rfl rfl ?_
 repeat fail
 refine zap U.obj rfl rfl ?_
 repeat fail
 refine wc_neT (veq_rule U V S) ?_
 repeat fail
 exact q _ _ _
theorem walk_s {f0 : Mi.Frame} (ef : f0 = lwF ns o2 o3 o4 o5 o6 o7 o8 o9 o10) (q : ∀ o6 g,WLs cL rL rest (lwF ns o2 o3 o4 o5 o6 o7 o8 o9 o10) g R) : WLs cL rL ((Sm.asg (T1.nm 6) (Ex.sub (Ex.lit (Val.str [120,121,122])) (Ex.bin BOp.mod (Ex.call (Ex.lit (Val.top 137)) [(Ex.var 0),(Ex.lit (Val.int 22))]) (Ex.lit (Val.int 3))))) :: (Sm.ite (Ex.cmp COp.ne (Ex.call (Ex.lit (Val.top 238)) [(Ex.bin BOp.add (Ex.var 6) (Ex.lit (Val.str [91,98,99,93,35])))]) (Ex.list [(Ex.var 6),(Ex.lit (Val.str [98,99])),(Ex.lit (Val.str [35]))])) [(Sm.ret (Ex.lit (Val.bool false)))] []) :: rest) f0 h R := by
 subst ef
 have m22 := (zaQ (ns:=ns) (k:=22) (m:=3) (by decide)).2
 obtain ⟨hx,e⟩ := zaC (d:=0) (l:=[120,121,122]) m22
 have hz : [(([120,121,122] : List Nat)[md ns 22 3]?).getD 0] = [120] \/ [(([120,121,122] : List Nat)[md ns 22 3]?).getD 0] = [121] \/ [(([120,121,122] : List Nat)[md ns 22 3]?).getD 0] = [122] := by
  simp only [List.mem_cons,List.not_mem_nil,or_false] at hx
  rcases hx with h | h | h <;> rw [h]
  ·exact .inl rfl
  ·exact .inr (.inl rfl)
  ·exact .inr (.inr rfl)
 refine zaq ?_
 repeat fail
 refine zai rfl (za4 (by decide) (k:=22) rfl ?_)
 repeat fail
 refine wb_md (m:=3) (by decide) ?_
 repeat fail
 refine zbW e ?_
 repeat fail
 refine zaq ?_
 repeat fail
 refine zax (by show 1 + 5 <= _; decide) ?_
 repeat fail
 refine zai rfl (za8 (n:=7) (by decide) (by show 6 < 2000; decide) (by decide) (rs_x hz) ?_)
 repeat fail
 refine wc_neT ((veq_l (zaa zac) zac (zb5 _) (zb5 [[_],[98,99],[35]])).trans ?_) ?_
 ·rw [PySem.PyData.eqv,zbR fun s => by simp [PySem.PyData.eqv]]
 repeat fail
 exact q _ _
theorem walk_t {f0 : Mi.Frame} {k : Nat} {tx : List Nat} (ef : f0 = lwF ns o2 o3 o4 o5 o6 (some (.int (k : Int))) (some (.str tx)) (some (.str [])) (some (.str []))) (htx : (k <= 2 /\ Good tx) \/ (2 < k /\ ∀ {d : Nat} {h : MH},7 <= d -> RF P0 d 239 [.str tx,.top 113] h fun _ => True)) : WLs cL rL [(Sm.tr 10 (Ex.meth (Ex.call (Ex.lit (Val.top 239)) [(Ex.var 8),(Ex.var 1)]) 1818848869 [(Ex.var 1)]) 9 (Val.str [86,97,108,117,101,69,114,114,111,114])),(Sm.ite (Ex.cmp COp.ne (Ex.cmp COp.eq (Ex.var 9) (Ex.lit (Val.str [86,97,108,117,101,69,114,114,111,114]))) (Ex.cmp COp.gt (Ex.var 7) (Ex.lit (Val.int 2)))) [(Sm.ret (Ex.lit (Val.bool false)))] []),(Sm.ret (Ex.cmp COp.eq (Ex.var 10) (Ex.sub (Ex.list [(Ex.var 8),(Ex.lit (Val.str []))]) (Ex.cmp COp.gt (Ex.var 7) (Ex.lit (Val.int 2))))))] f0 h fun fl _ _ => fl = .rt (.bool true) := by
 subst ef
 rcases htx with ⟨hk,G⟩ | ⟨hk,B⟩
 ·have e2 : decide ((2 : Int) < (k : Int)) = false := decide_eq_false (by omega)
  obtain ⟨ps,L,R,c,ct,C,I,Z,lo,el⟩ := G.x
  refine wt_try ?_
  repeat fail
  refine zai rfl (rrule_ok (by decide) I Z fun t6 r3 cR cL cT X => ?_)
  repeat fail
  refine zbD (zcq X.obj rfl rfl) (line_ok (by decide) C X lo fun t7 => ?_)
  rw [el]
  repeat fail
  refine zaq ?_
  repeat fail
  rw [e2]
  refine wc_ne veq_b ?_
  repeat fail
  refine zan (s:=true) rfl ?_
  repeat fail
  refine zaq ?_
  repeat fail
  rw [e2]
  refine wi_listB zac rfl ?_
  repeat fail
  show Fl.rt (.bool (_ == _)) = _
  rw [beq_self_eq_true]
 ·have e2 : decide ((2 : Int) < (k : Int)) = true := decide_eq_true (by omega)
  refine wt_exc (re_meth (re_fn rfl ?_))
  repeat fail
  obtain ⟨H,q1,_⟩ := B (d:=60) (by decide)
  refine ⟨H,q1,?_⟩
  refine zaq ?_
  repeat fail
  rw [e2]
  refine wc_ne veq_b ?_
  repeat fail
  refine zan (s:=true) rfl ?_
  repeat fail
  refine zaq ?_
  repeat fail
  rw [e2]
  refine wi_listB zac rfl ?_
  repeat fail
  rfl
end
theorem built (ns : List Int) : zbe (psOf ns 0 (1 + md ns 0 2)) (lOf ns 0) (rOf ns 0) /\ zcC (psOf ns 0 (1 + md ns 0 2)) (lOf ns 0) (rOf ns 0) /\ ∀ {c : Val} {ct : Option (List Nat)},Cost c ct -> Par (zaK ct (psOf ns 0 (1 + md ns 0 2)) (lOf ns 0) (rOf ns 0)) c ct (psOf ns 0 (1 + md ns 0 2)) (lOf ns 0) (rOf ns 0) := by
 have hm2 := (zaQ (ns:=ns) (k:=0) (m:=2) (by decide)).2
 have hn : (psOf ns 0 (1 + md ns 0 2)).length = 1 \/ (psOf ns 0 (1 + md ns 0 2)).length = 2 := by
  unfold psOf
  rw [List.length_map,List.length_range]
  omega
 have hp : ∀ p ∈ psOf ns 0 (1 + md ns 0 2),prB p = true := fun p hp => by
  obtain ⟨k,_,rfl⟩ := List.mem_map.mp hp
  exact pr_ok _ (zaC (d:=[]) (show md ns (0 + 1 + k) 6 < oldsL.length from (zaQ (by decide)).2)).1 _ (zaC (d:=[]) (show md ns (0 + 3 + k) 6 < newsL.length from (zaQ (by decide)).2)).1
 have hc : lnB (lOf ns 0) (rOf ns 0) = true /\ ((lOf ns 0).length + (rOf ns 0).length ≠ 0 -> cxB (lOf ns 0) (rOf ns 0) = true) := cx_ok _ (zaC (d:=[]) (show md ns (0 + 5) 7 < leftsL.length from (zaQ (by decide)).2)).1 _ (zaC (d:=[]) (show md ns (0 + 6) 6 < rightsL.length from (zaQ (by decide)).2)).1
 exact ⟨ruleIn (by omega) (by omega),lineOk_of hp hn hc.1,fun C => par_ok hp hn hc.2 C⟩
theorem walk_law (ns : List Int) : WLs cL rL bd_law_law (some (.fl (ns.map .int)) :: nn 16) [] fun fl _ _ => fl = .rt (.bool true) := by
 unfold bd_law_law
 have m3 := (zaQ (ns:=ns) (k:=20) (m:=3) (by decide)).2
 obtain ⟨c,ct,cy,ec,CI⟩ := costs m3
 obtain ⟨I,lo,Z⟩ := built ns
 obtain ⟨hwo,hwl⟩ := wordOf_ok (ns:=ns) (a:=7)
 obtain ⟨em,Eok,hand⟩ := hand_any (word:=zcg ns 7) CI.C CI.w I (fun c hc => (hwo c hc).1) hwl
 obtain ⟨tx,et,htx⟩ := txt_ok (zaQ (ns:=ns) (k:=21) (m:=8) (by decide)).2
 refine zaq ?_
 repeat fail
 refine zai rfl (W.of (congrFun rgL _) ?_)
 repeat fail
 refine zaq ?_
 repeat fail
 refine zai rfl (za4 (by decide) (k:=20) rfl ?_)
 repeat fail
 refine wb_md (m:=3) (by decide) ?_
 repeat fail
 refine zaw zac ec ?_
 repeat fail
 refine zai rfl (lrule_ok (a:=0) (by decide) fun t r aR aL aT U => ?_)
 rw [CI.e] at U
 repeat fail
 refine zaq ?_
 repeat fail
 refine zai rfl (word_ok (a:=7) (by decide) fun t2 => ?_)
 repeat fail
 refine walk_b rfl CI.C CI.s U.app lo I (Z CI.C) Eok hand fun o4 o5 g => ?_
 refine walk_s rfl fun o6 g => ?_
 refine zaq ?_
 repeat fail
 refine zai rfl (za4 (by decide) (k:=21) rfl ?_)
 repeat fail
 refine wb_md (m:=8) (by decide) ?_
 repeat fail
 refine zaq ?_
 repeat fail
 refine zaw (i:=md ns 21 8) (v:=.str tx) zac (show (sVs txts)[md ns 21 8]? = _ by rw [List.getElem?_map,et]; rfl) ?_
 repeat fail
 refine zaq ?_
 repeat fail
 refine zaq ?_
 repeat fail
 exact walk_t rfl htx
theorem run_all (ns : List Int) : ∃ H,CallT P0 200000 60 178 [.fl (ns.map .int)] [] (.bool true,H) := by
 obtain ⟨⟨fl,f2⟩,H,e,q⟩ := walk_law ns
 have q : fl = .rt (.bool true) := q
 subst q
 exact ⟨H,fn_law_law,[.fl (ns.map .int)],_,H,rfl,rfl,e,rfl⟩
end Hd
namespace Hd
open Mi
theorem ints_rel {C : Cfg} {w : Wd} {vs : List Value} {ns : List Int} (h : IntsAre vs ns) : zab C w (ns.map Val.int) vs := by
 induction h with
 | nil => exact .nil
 | cons n t _ ih => exact .cons ⟨t,rfl⟩ ih
theorem fin_law {p : Program} {loose : List PySem.Str} {mean : ExcName -> Option Value} {w : World} {s₀ s₁ : Shared} {mg mb : PySem.Str -> Option Value} {fa a : Addr} {vs : List Value} {ns : List Int} {R : WRecords} {as : List Addr} (KX : Frag.In (KK w.params) s₁.heap) (ZN : s₀.heap.objs.size = nat_lit 589)
  (T : Top p loose mean mg mb s₁.heap) (hmg : mg (PySem.Str.ofString "law") = some (.ref fa)) (L : Laid R w s₀ s₁ [ofPy (PyData.list (List.map PyData.int ns))] [.ref a] as) (hL : s₁.heap.IsList a vs.toArray) (hI : IntsAre vs ns) (hlen : ¬ ((63 : Int) < (ns.length : Int))) (hg : s₁.gens = #[]) :
  wpAny (model pw w) callerA (call (.ref fa) [.ref a]) (fun v s' => GoodWG PySem.Challenge.rw_ui0508_07.row.claim (classAt s₀.heap) (ExcName.means s₀.heap) [ofPy (PyData.list (List.map PyData.int ns))] s₁ (.ok (.ret v)) s')
   (fun e s' => GoodWG PySem.Challenge.rw_ui0508_07.row.claim (classAt s₀.heap) (ExcName.means s₀.heap) [ofPy (PyData.list (List.map PyData.int ns))] s₁ (.error e) s') s₁ := by
 obtain ⟨hat,hsz⟩ := script_at L
 rw [ZN] at hat hsz
 subst hat
 obtain ⟨so,h1,h2,n,h3⟩ := hL
 have e := mg_of KX T.g (law_nm w)
 have e' : mg (PySem.Str.ofString "law") = some (.ref lawAd) := e
 rw [hmg] at e'
 cases e'
 have X : (cfg w so).K.In s₁.heap := by
  intro b o hb
  have hb' : List.lookup b ((size0,so) :: KK w.params) = some o := hb
  rw [List.lookup_cons] at hb'
  split at hb'
  ·rename_i q
   rw [beq_iff_eq] at q
   cases hb'; subst q; exact h1
  ·exact KX b o hb'
 have hv : VRel (cfg w so) ⟨[],[]⟩ (Val.fl (ns.map Val.int)) (.ref size0) := by
  refine ⟨size0,so,n,vs,rfl,⟨?_,h2,h3⟩,ints_rel hI,?_⟩
  ·show List.lookup size0 ((size0,so) :: KK w.params) = some so
   rw [List.lookup_cons,beq_self_eq_true]
  ·rw [List.length_map]
   have : lim = 1000000 := rfl
   omega
 obtain ⟨H',hr⟩ := run_all ns
 refine law_runsT (C:=cfg w so) (tab w so) (xok w so) X T (by rw [hsz]; decide) (f:=lawAt) (fa:=lawAd) (by kernel_rfl) (fun fn h => by
  have e : P0.fnAt 178 = some fn := h
  rw [show P0.fnAt 178 = some fn_law_law from by kernel_rfl] at e
  cases e; rfl) hv hr fun w' v s' r hk hgs hos => ?_
 have r : v = .bool true := r
 subst r
 exact GoodW.toG ⟨.inl ⟨.bool true,.bool true,[],rfl,fun _ => rfl,.bool true,by first | kernel_rfl | wrow_post,unshared_nil⟩,hk,hos,hgs.trans hg⟩
end Hd
set_option maxHeartbeats 0 in
theorem PySem.Challenge.cw_ui0508_07_holds : PySem.Challenge.rw_ui0508_07.Holds := by
 w_on
 refine holds_law (by
  rw [PySem.W.Fast.te9446332074065402090]
  unfold PySem.W.Fast.tw9446332074065402090
  iterate 18 refine look_both ?_ (by kernel_rfl)
  kernel_rfl) fun said => ?_
 refine holds_openX Hd.left0 (XP:=XL (Hd.qOf Hd.pw) []) (fun s e => xl_of s (Bool.and_eq_true_iff.mp e).1) XL.keeps (by rfl) (by rfl) (by rfl) (fun s e => recFacts_of (Bool.and_eq_true_iff.mp e).2) (by rfl) (by assumption) (by decide +kernel) ⟨rfl,rfl,rfl,rfl,rfl,by decide +kernel⟩ ?hw ?hc
 case hw => w_witness2
 try clear said
 intro w s₀ s₁ mg mb G y fa o pm cd doc dV kV ho hd hcd hD hmg hg args vals as L hpre hlay hrd hwl hlo
 have hf := Hd.facts1 y L.keeps
 clear y
 obtain ⟨KX,ZN,ZT⟩ := hf
 refine Ground.open G ?_
 intro T B D TE TW
 wrow_args hpre hlay hrd hwl hlo
 exact Hd.fin_law KX ZN T hmg L (by assumption) (by assumption) (by assumption) hg
