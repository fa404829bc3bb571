import PyProof.Rows.All
import Wide.All
import OpenK.AllK
import Wide.FinOn
import PySem.Claim
import PySem.PyData
import PyProof.P3Statements
import PyProof.StrBlockL
import PyProof.Rows.StrNews2
import OpenK.KCell
import OpenK.KMeth
import PyProof.P3Eq
import PyProof.P3In
import PyProof.EqKinds
import PyProof.TupleKey
import PyProof.SetKind
import PyProof.Rows.RotEnd
import PyProof.Rows.ListMul
import PyProof.IsRules
import PyProof.Rows.TupDisplay
import PyProof.Rows.DictRows
import PyProof.DictStraight
import PyProof.DictIter
import KE.KEqDict
import PyProof.EnumMake
import PyProof.WalksMore
import PyProof.StrWalks
import PyProof.CompFree
import PyProof.Rows.StrNews
import PyProof.Rows.SeqSlice
import PyProof.SliceMore
import PyProof.Rows.StrTemp
import PyProof.StrLawsIdx
import PyProof.MaxThree
import PyProof.TypeOfCall
import PyProof.CallType
import PyProof.Rows.GenSrcRange
import OpenK.KRaise
import KE.KSorted
import KE.KDictOf
import KE.KIntText
import KE.KxPart
import KE.KPop
import PyProof.StrLawsAffix
import PyProof.SetRoads
import KE.KUnpack
import KE.KPar
import PySem.Challenge.RW_ui0508_10
set_option Elab.async false
set_option linter.all false
set_option autoImplicit false
set_option maxHeartbeats 8000000
set_option maxRecDepth 100000
set_option genInjectivity false
set_option genSizeOfSpec false
namespace Mi
open PySem
inductive Val where
 | none
 | bool (b : Bool)
 | int (i : Int)
 | str (s : List Nat)
 | tup (vs : List Val)
 | ref (a : Nat)
 | top (a : Nat)
 | ty (n : Nat)
 | bi (n : Nat)
 | rng (n : Int)
 | fl (vs : List Val)
 | setn (n : Nat)
inductive MObj where
 | list (vs : List Val)
 | dict (ep : Option Nat) (es : List (Val × Val))
 | inst (c : Nat) (fs : List (Nat × Val))
noncomputable abbrev MH := List MObj
noncomputable abbrev Frame := List (Option Val)
inductive BOp where
 | add | sub | mul | fdiv | mod | pow
inductive COp where
 | eq | ne | lt | le | gt | ge | isin | notin | is | isnot
inductive Ex where
 | var (x : Nat)
 | lit (v : Val)
 | list (es : List Ex)
 | tup (es : List Ex)
 | dict (kvs : List Ex)
 | bin (op : BOp) (a b : Ex)
 | not (a : Ex)
 | cmp (op : COp) (a b : Ex)
 | bop (stop : Bool) (es : List Ex)
 | ite (c a b : Ex)
 | attr (e : Ex) (n : Nat)
 | sub (e i : Ex)
 | slice (e : Ex) (k : Nat) (bs : List Ex)
 | call (f : Ex) (as : List Ex)
 | meth (o : Ex) (n : Nat) (as : List Ex)
 | comp (elt : Ex) (tg : List Nat) (many : Bool) (it : Ex) (ifs : List Ex)
inductive T1 where
 | nm (x : Nat)
 | at (o : Ex) (n : Nat)
 | sb (o i : Ex)
inductive Sm where
 | expr (e : Ex)
 | asg (t : T1) (e : Ex)
 | asgs (ts : List T1) (e : Ex)
 | ret (e : Ex)
 | ite (c : Ex) (a b : List Sm)
 | wh (c : Ex) (b : List Sm)
 | fo (tg : List Nat) (many : Bool) (e : Ex) (b : List Sm)
 | brk | cont | pass
 | raise
inductive Fl where
 | nx | bk | ct
 | rt (v : Val)
structure Fn where
 addr : Nat
 np : Nat
 dfl : List Val
 ns : Nat
 body : List Sm
structure Cl where
 addr : Nat
 attrs : List (Nat × Val)
 init : Option Nat
 flds : List Nat
structure Prg where
 fns : List Fn
 cls : List Cl
 insts : List (Nat × Nat)
noncomputable def enc (x : Str) : Nat := x.cps.toList.foldl (fun a c => a * 256 + c) 0
noncomputable def bnd {α β : Type} (o : Option (α × MH)) (f : α -> MH -> Option (β × MH)) : Option (β × MH) := Option.casesOn (motive:=fun _ => Option (β × MH)) o none fun p => f p.1 p.2
noncomputable def alt {α : Type} (a b : Option α) : Option α := Option.casesOn (motive:=fun _ => Option α) a b some
noncomputable def grd {α : Type} (b : Bool) (o : Option α) : Option α := Bool.casesOn (motive:=fun _ => Option α) b none o
noncomputable def Val.int? (x : Val) : Option Int := Val.casesOn (motive_1:=fun _ => Option Int) x .none (fun _ => .none) some (fun _ => .none) (fun _ => .none) (fun _ => .none) (fun _ => .none) (fun _ => .none) (fun _ => .none) (fun _ => .none) (fun _ => .none) (fun _ => .none)
noncomputable def Val.str? (x : Val) : Option (List Nat) := Val.casesOn (motive_1:=fun _ => Option (List Nat)) x .none (fun _ => .none) (fun _ => .none) some (fun _ => .none) (fun _ => .none) (fun _ => .none) (fun _ => .none) (fun _ => .none) (fun _ => .none) (fun _ => .none) (fun _ => .none)
noncomputable def Val.tup? (x : Val) : Option (List Val) := Val.casesOn (motive_1:=fun _ => Option (List Val)) x .none (fun _ => .none) (fun _ => .none) (fun _ => .none) some (fun _ => .none) (fun _ => .none) (fun _ => .none) (fun _ => .none) (fun _ => .none) (fun _ => .none) (fun _ => .none)
noncomputable def Val.ref? (x : Val) : Option Nat := Val.casesOn (motive_1:=fun _ => Option Nat) x .none (fun _ => .none) (fun _ => .none) (fun _ => .none) (fun _ => .none) some (fun _ => .none) (fun _ => .none) (fun _ => .none) (fun _ => .none) (fun _ => .none) (fun _ => .none)
noncomputable def Val.top? (x : Val) : Option Nat := Val.casesOn (motive_1:=fun _ => Option Nat) x .none (fun _ => .none) (fun _ => .none) (fun _ => .none) (fun _ => .none) (fun _ => .none) some (fun _ => .none) (fun _ => .none) (fun _ => .none) (fun _ => .none) (fun _ => .none)
noncomputable def Val.ty? (x : Val) : Option Nat := Val.casesOn (motive_1:=fun _ => Option Nat) x .none (fun _ => .none) (fun _ => .none) (fun _ => .none) (fun _ => .none) (fun _ => .none) (fun _ => .none) some (fun _ => .none) (fun _ => .none) (fun _ => .none) (fun _ => .none)
noncomputable def Val.bi? (x : Val) : Option Nat := Val.casesOn (motive_1:=fun _ => Option Nat) x .none (fun _ => .none) (fun _ => .none) (fun _ => .none) (fun _ => .none) (fun _ => .none) (fun _ => .none) (fun _ => .none) some (fun _ => .none) (fun _ => .none) (fun _ => .none)
noncomputable def Val.fl? (x : Val) : Option (List Val) := Val.casesOn (motive_1:=fun _ => Option (List Val)) x .none (fun _ => .none) (fun _ => .none) (fun _ => .none) (fun _ => .none) (fun _ => .none) (fun _ => .none) (fun _ => .none) (fun _ => .none) (fun _ => .none) some (fun _ => .none)
noncomputable def Val.bool? (x : Val) : Option Bool := Val.casesOn (motive_1:=fun _ => Option Bool) x .none some (fun _ => .none) (fun _ => .none) (fun _ => .none) (fun _ => .none) (fun _ => .none) (fun _ => .none) (fun _ => .none) (fun _ => .none) (fun _ => .none) (fun _ => .none)
noncomputable def Val.rng? (x : Val) : Option Int := Val.casesOn (motive_1:=fun _ => Option Int) x .none (fun _ => .none) (fun _ => .none) (fun _ => .none) (fun _ => .none) (fun _ => .none) (fun _ => .none) (fun _ => .none) (fun _ => .none) some (fun _ => .none) (fun _ => .none)
noncomputable def Val.isNone (x : Val) : Bool := Val.casesOn (motive_1:=fun _ => Bool) x true (fun _ => false) (fun _ => false) (fun _ => false) (fun _ => false) (fun _ => false) (fun _ => false) (fun _ => false) (fun _ => false) (fun _ => false) (fun _ => false) (fun _ => false)
noncomputable def MObj.list? (o : MObj) : Option (List Val) := MObj.casesOn (motive:=fun _ => Option (List Val)) o some (fun _ _ => none) (fun _ _ => none)
noncomputable def MObj.dict? (o : MObj) : Option (Option Nat × List (Val × Val)) := MObj.casesOn (motive:=fun _ => Option (Option Nat × List (Val × Val))) o (fun _ => none) (fun e es => some (e,es)) (fun _ _ => none)
noncomputable def MObj.inst? (o : MObj) : Option (Nat × List (Nat × Val)) := MObj.casesOn (motive:=fun _ => Option (Nat × List (Nat × Val))) o (fun _ => none) (fun _ _ => none) (fun c fs => some (c,fs))
noncomputable def zaq (h : MH) (x : Val) : Option (List Val) := x.ref?.bind fun a => h[a]?.bind MObj.list?
noncomputable def zaY (h : MH) (x : Val) : Option (Option Nat × List (Val × Val)) := x.ref?.bind fun a => h[a]?.bind MObj.dict?
noncomputable def instAt (h : MH) (x : Val) : Option (Nat × List (Nat × Val)) := x.ref?.bind fun a => h[a]?.bind MObj.inst?
noncomputable def a0 {α : Type} (as : List Val) (f : Option α) : Option α := List.casesOn (motive:=fun _ => Option α) as f fun _ _ => none
noncomputable def a1 {α : Type} (as : List Val) (f : Val -> Option α) : Option α := List.casesOn (motive:=fun _ => Option α) as none fun v r => a0 r (f v)
noncomputable def a2 {α : Type} (as : List Val) (f : Val -> Val -> Option α) : Option α := List.casesOn (motive:=fun _ => Option α) as none fun v r => a1 r (f v)
noncomputable def a3 {α : Type} (as : List Val) (f : Val -> Val -> Val -> Option α) : Option α := List.casesOn (motive:=fun _ => Option α) as none fun v r => a2 r (f v)
noncomputable def toD (h : MH) : Nat -> Val -> Option PyData
 | _,.none => some .none
 | _,.bool b => some (.bool b)
 | _,.int i => some (.int i)
 | _,.str s => some (.str ⟨s.toArray⟩)
 | k + 1,.tup vs => (vs.mapM (toD h k)).map .tuple
 | k + 1,.ref a => (zaq h (.ref a)).bind fun vs => (vs.mapM (toD h k)).map .list
 | _,_ => none
noncomputable def veqD (h : MH) (a b : Val) : Option Bool := (toD h 8 a).bind fun x => (toD h 8 b).map fun y => PyData.eqv x y
noncomputable def kEq (a b : Val) : Bool := (veqD [] a b).getD false
noncomputable def dget (es : List (Val × Val)) (k : Val) : Option Val := (es.find? fun p => kEq p.1 k).map (·.2)
noncomputable def zbv (v : Val) : Bool := v.int?.isSome || v.str?.isSome
noncomputable def zaL (v : Val) : Nat := bif zbv v then 1 else bif (v.tup?.map fun vs => vs.all zbv).getD false then 3 else 0
noncomputable def kind0 (es : List (Val × Val)) : Option Nat := es.head?.map fun p => zaL p.1
noncomputable def veq (h : MH) (a b : Val) : Option Bool :=
 alt ((zaY h a).bind fun _ => none) (veqD h a b)
noncomputable def truthy (h : MH) (x : Val) : Option Bool := Val.casesOn (motive_1:=fun _ => Option Bool) x (some false) some (fun i => some (i != 0)) (fun s => some (!s.isEmpty)) (fun vs => some (!vs.isEmpty))
 (fun a => (zaq h (.ref a)).map fun vs => !vs.isEmpty) (fun _ => none) (fun _ => none) (fun _ => none) (fun _ => none) (fun _ => none) (fun _ => none)
noncomputable def zaj (es : List (Val × Val)) (k : Val) : Bool := zaL k != 0 && (es.isEmpty || kind0 es == some (zaL k))
noncomputable def dput (es : List (Val × Val)) (k v : Val) : List (Val × Val) :=
 bif (dget es k).isSome then es.map fun p => bif kEq p.1 k then (p.1,v) else p else es ++ [(k,v)]
noncomputable def dpairs : List Val -> List (Val × Val) -> Option (List (Val × Val))
 | [],es => some es
 | [_],_ => none
 | k :: v :: r,es => grd (zaj es k) (dpairs r (dput es k v))
noncomputable def zbz (h : MH) (o : MObj) : Option (Val × MH) := some (.ref h.length,h ++ [o])
noncomputable def lim : Nat := 1000000
noncomputable def bigB : Nat := 2 ^ 100000
noncomputable def divB : Nat := 2 ^ 8000
noncomputable def mulOk (a b : Int) : Bool := Nat.ble (a.natAbs + 1) bigB && Nat.ble (b.natAbs + 1) bigB
noncomputable def repOk (l : Nat) (n : Int) : Bool := decide (n <= lim) && decide (-(lim : Int) <= n) && Nat.ble (l * n.toNat) lim
noncomputable def addOp (h : MH) (x y : Val) : Option (Val × MH) :=
 alt (x.int?.bind fun a => y.int?.bind fun b => some (.int (a + b),h))
 (alt (x.str?.bind fun a => y.str?.bind fun b => grd (Nat.ble (a.length + b.length) lim) (some (.str (a ++ b),h)))
 ((zaq h x).bind fun a => (zaq h y).bind fun b => grd (Nat.ble (a.length + b.length) lim) (zbz h (.list (a ++ b)))))
noncomputable def mulOp (h : MH) (x y : Val) : Option (Val × MH) :=
 alt (x.int?.bind fun a => y.int?.bind fun b => grd (mulOk a b) (some (.int (a * b),h)))
 (alt (x.int?.bind fun a => y.bool?.bind fun b => some (.int (a * (if b then 1 else 0)),h))
 (alt ((zaq h x).bind fun a => y.int?.bind fun n => grd (repOk a.length n) (zbz h (.list (List.replicate n.toNat a).flatten)))
 (x.str?.bind fun a => y.int?.bind fun n => grd (repOk a.length n) (some (.str (List.replicate n.toNat a).flatten,h)))))
noncomputable def arith (op : BOp) (a b : Int) : Option Int := BOp.casesOn (motive:=fun _ => Option Int) op none (some (a - b)) none
 (grd (b != 0 && Nat.ble (b.natAbs + 1) divB) (some (Int.fdiv a b))) (grd (b != 0) (some (Int.fmod a b)))
 (grd (decide (0 <= b) && decide (b <= 64) && Nat.ble (a.natAbs + 1) (2 ^ 64)) (some (a ^ b.toNat)))
noncomputable def binop (op : BOp) (x y : Val) (h : MH) : Option (Val × MH) :=
 alt (x.int?.bind fun a => y.int?.bind fun b => (arith op a b).map fun k => (.int k,h))
 (BOp.casesOn (motive:=fun _ => Option (Val × MH)) op (addOp h x y) none (mulOp h x y) none none none)
noncomputable def isV (a b : Val) : Option Bool :=
 alt (grd b.isNone (some a.isNone))
 (alt (a.ty?.bind fun i => b.ty?.map fun j => i == j)
 (alt (a.top?.bind fun i => b.top?.map fun j => i == j)
 (grd (a.isNone || a.int?.isSome || a.tup?.isSome) (b.top?.map fun _ => false))))
noncomputable def anyEq (h : MH) (x : Val) (vs : List Val) : Option Bool := (vs.mapM (toD h 7)).bind fun ds => (toD h 7 x).map fun d => ds.any fun y => PyData.eqv y d
noncomputable def one? (s : List Nat) : Option Nat := List.casesOn (motive:=fun _ => Option Nat) s none fun c r => List.casesOn (motive:=fun _ => Option Nat) r (some c) fun _ _ => none
noncomputable def isIn (h : MH) (x y : Val) : Option Bool :=
 alt (y.str?.bind fun t => (x.str?.bind one?).map fun c => t.contains c)
 (alt (y.tup?.bind fun vs => anyEq h x vs)
 (alt ((zaq h y).bind fun vs => anyEq h x vs)
 ((zaY h y).bind fun d => grd (zaj d.2 x) (some (dget d.2 x).isSome))))
noncomputable def cmpI (x y : Val) (f : Int -> Int -> Bool) : Option Bool := x.int?.bind fun a => y.int?.map fun b => f a b
noncomputable def cmpop (op : COp) (a b : Val) (h : MH) : Option Bool := COp.casesOn (motive:=fun _ => Option Bool) op (veq h a b) ((veq h a b).map (!·))
 (cmpI a b fun x y => decide (x < y)) (cmpI a b fun x y => decide (x <= y)) (cmpI a b fun x y => decide (y < x)) (cmpI a b fun x y => decide (y <= x))
 (isIn h a b) ((isIn h a b).map (!·)) (isV a b) ((isV a b).map (!·))
noncomputable def idx (n : Nat) (i : Val) : Option Nat := i.int?.bind fun i => grd (decide (0 <= i) && decide (i < n)) (some i.toNat)
noncomputable def subscr (h : MH) (o i : Val) : Option Val :=
 alt (o.tup?.bind fun vs => (idx vs.length i).bind fun k => vs[k]?)
 (alt (o.fl?.bind fun vs => (idx vs.length i).bind fun k => vs[k]?)
 (alt ((zaq h o).bind fun vs => (idx vs.length i).bind fun k => vs[k]?)
 (alt (o.str?.bind fun s => (idx s.length i).bind fun k => s[k]?.map fun c => .str [c])
 ((zaY h o).bind fun d => grd (zaj d.2 i) (dget d.2 i)))))
noncomputable def zbI (n : Nat) (v : Val) : Option Nat := v.int?.bind fun i => grd (decide (0 <= i)) (some (min i.toNat n))
noncomputable def bounds (n k : Nat) (bs : List Val) : Option (Nat × Nat) :=
 bif k == 0 then a0 bs (some (0,n)) else bif k == 1 then a1 bs fun a => (zbI n a).map fun x => (x,n)
 else bif k == 2 then a1 bs fun b => (zbI n b).map fun y => (0,y) else bif k == 3 then a2 bs fun a b => (zbI n a).bind fun x => (zbI n b).map fun y => (x,y) else none
noncomputable def cut {α : Type} (l : List α) (a b : Nat) : List α := (l.take b).drop a
noncomputable def slice (h : MH) (o : Val) (k : Nat) (bs : List Val) : Option (Val × MH) :=
 alt (o.str?.bind fun s => (bounds s.length k bs).bind fun p => some (.str (cut s p.1 p.2),h))
 ((zaq h o).bind fun s => (bounds s.length k bs).bind fun p => zbz h (.list (cut s p.1 p.2)))
noncomputable def zbN (h : MH) (o i v : Val) : Option MH := o.ref?.bind fun a =>
 alt ((h[a]?.bind MObj.list?).bind fun vs => (idx vs.length i).map fun k => h.set a (.list (vs.set k v)))
 ((h[a]?.bind MObj.dict?).bind fun d => grd (zaj d.2 i && Nat.ble (d.2.length + 1) lim) (some (h.set a (.dict (bif (dget d.2 i).isSome then d.1 else d.1.map (· + 1)) (dput d.2 i v)))))
noncomputable def fget (fs : List (Nat × Val)) (n : Nat) : Option Val := (fs.find? fun p => p.1 == n).map (·.2)
noncomputable def fput : List (Nat × Val) -> Nat -> Val -> List (Nat × Val)
 | [],n,v => [(n,v)]
 | p :: r,n,v => bif p.1 == n then (n,v) :: r else p :: fput r n v
noncomputable def Prg.clsAt (P : Prg) (c : Nat) : Option Cl := P.cls.find? fun x => x.addr == c
noncomputable def Prg.clsAttr (P : Prg) (c n : Nat) : Option Val := (P.clsAt c).bind fun x => fget x.attrs n
noncomputable def Prg.hasFld (P : Prg) (c n : Nat) : Bool := ((P.clsAt c).map fun k => k.flds.contains n).getD false
noncomputable def Prg.instAt (P : Prg) (a : Nat) : Option Nat := (P.insts.find? fun p => p.1 == a).map (·.2)
noncomputable def isFnV (P : Prg) (v : Val) : Bool := (v.top?.map fun a => P.fns.any fun f => f.addr == a).getD false
noncomputable def zc3 (P : Prg) (c n : Nat) : Option Val := (P.clsAttr c n).bind fun v => grd (!isFnV P v) (some v)
noncomputable def getAttr (P : Prg) (h : MH) (o : Val) (n : Nat) : Option Val :=
 alt ((instAt h o).bind fun q => Option.casesOn (motive:=fun _ => Option Val) (fget q.2 n) (zc3 P q.1 n) fun v => grd (P.hasFld q.1 n) (some v))
 (o.top?.bind fun a => (P.instAt a).bind fun c => zc3 P c n)
noncomputable def setAttr (P : Prg) (h : MH) (o : Val) (n : Nat) (v : Val) : Option MH := o.ref?.bind fun a => (h[a]?.bind MObj.inst?).bind fun q =>
 grd (P.hasFld q.1 n && Nat.ble (q.2.length + 1) 400) (some (h.set a (.inst q.1 (fput q.2 n v))))
noncomputable def methC (P : Prg) (c n : Nat) : Option Nat := (P.clsAttr c n).bind fun v => grd (isFnV P v) v.top?
noncomputable def zaN (P : Prg) (h : MH) (o : Val) (n : Nat) : Option (Nat × List Val) :=
 alt (o.top?.bind fun a => Option.casesOn (motive:=fun _ => Option (Nat × List Val)) (P.instAt a) ((methC P a n).map fun f => (f,[])) fun c => (methC P c n).map fun f => (f,[o]))
 ((instAt h o).bind fun q => grd (fget q.2 n).isNone ((methC P q.1 n).map fun f => (f,[o])))
inductive It where
 | ls (a : Nat)
 | tp (vs : List Val)
 | dk (a n ep : Nat)
 | sq (s : List Nat)
 | rg (n : Int)
 | fs (vs : List Val)
noncomputable def zbd (h : MH) (x : Val) : Option It :=
 alt (x.rng?.bind fun n => grd (decide (n <= lim) && decide (-(lim : Int) <= n)) (some (.rg n)))
 (alt (x.ref?.bind fun a => alt ((h[a]?.bind MObj.list?).map fun _ => .ls a) ((h[a]?.bind MObj.dict?).bind fun d => d.1.map fun ep => .dk a d.2.length ep))
 (alt (x.tup?.map .tp) (alt (x.str?.map .sq) (x.fl?.map .fs))))
noncomputable def zav (h : MH) (i : Nat) (k : It) : Option (Option Val) := It.casesOn (motive:=fun _ => Option (Option Val)) k
 (fun a => (h[a]?.bind MObj.list?).map fun vs => vs[i]?)
 (fun vs => some vs[i]?)
 (fun a n ep => (h[a]?.bind MObj.dict?).bind fun d => grd (d.1 == some ep && d.2.length == n) (some (d.2[i]?.map (·.1))))
 (fun s => some (s[i]?.map fun c => .str [c]))
 (fun n => some (bif decide ((i : Int) < n) then some (.int i) else none))
 (fun vs => some vs[i]?)
noncomputable def items (h : MH) (x : Val) : Option (List Val) := alt x.tup? (zaq h x)
noncomputable def puts (tg : List Nat) (vs : List Val) (fr : Frame) : Frame := (tg.zip vs).foldl (fun f p => f.set p.1 (some p.2)) fr
noncomputable def zby (fr : Frame) (tg : List Nat) (many : Bool) (v : Val) : Option Frame :=
 bif many then v.tup?.bind fun vs => grd (vs.length == tg.length) (some (puts tg vs fr)) else grd (tg.length == 1) (some (puts tg [v] fr))
noncomputable def digs (n : Nat) : List Nat := (Nat.toDigits 10 n).map Char.toNat
noncomputable def zcL (i : Int) : List Nat := bif decide (i < 0) then 45 :: digs i.natAbs else digs i.natAbs
noncomputable def readNat (s : List Nat) : Option Nat := grd (!s.isEmpty && Nat.ble s.length 640 && s.all fun c => Nat.ble 48 c && Nat.ble c 57) (some (s.foldl (fun a c => a * 10 + (c - 48)) 0))
noncomputable def joinV (sep : List Nat) : List Val -> Option (List Nat)
 | [] => some []
 | v :: r => v.str?.bind fun s => List.casesOn (motive:=fun _ => Option (List Nat)) r (some s) fun _ _ => (joinV sep r).map fun t => s ++ sep ++ t
noncomputable abbrev nLen : Nat := 7103854
noncomputable abbrev nMax : Nat := 7168376
noncomputable abbrev nMin : Nat := 7170414
noncomputable abbrev nSorted : Nat := 126922498794852
noncomputable abbrev nRange : Nat := 491260897125
noncomputable abbrev nList : Nat := 1818850164
noncomputable abbrev nDict : Nat := 1684628340
noncomputable abbrev nTuple : Nat := 500186508389
noncomputable abbrev nStr : Nat := 7566450
noncomputable abbrev nInt : Nat := 6909556
noncomputable abbrev nType : Nat := 1954115685
noncomputable abbrev nSet : Nat := 7562612
noncomputable abbrev nBool : Nat := 1651470188
noncomputable abbrev nNoneType : Nat := 5651857438861258853
noncomputable abbrev nAppend : Nat := 107135549927012
noncomputable abbrev nPop : Nat := 7368560
noncomputable abbrev nIndex : Nat := 452823639416
noncomputable abbrev nGet : Nat := 6776180
noncomputable abbrev nIsspace : Nat := 29681812198482789
noncomputable abbrev nJoin : Nat := 1785686382
noncomputable abbrev nPartition : Nat := 2073057139020767260526
noncomputable abbrev nSplit : Nat := 495807392116
noncomputable abbrev nStrip : Nat := 495874894192
noncomputable abbrev nStartswith : Nat := 545218989645367805047912
noncomputable abbrev nFind : Nat := 1718185572
noncomputable abbrev nAdd : Nat := 6382692
noncomputable def typeOf (h : MH) (x : Val) : Option Nat := Val.casesOn (motive_1:=fun _ => Option Nat) x (some nNoneType) (fun _ => some nBool) (fun _ => some nInt) (fun _ => some nStr) (fun _ => some nTuple)
 (fun a => (zaq h (.ref a)).map fun _ => nList) (fun _ => none) (fun _ => none) (fun _ => none) (fun _ => none) (fun _ => none) (fun _ => none)
noncomputable def lenV (h : MH) (x : Val) : Option Nat := Val.casesOn (motive_1:=fun _ => Option Nat) x none (fun _ => none) (fun _ => none) (fun s => some s.length) (fun vs => some vs.length)
 (fun a => alt ((zaq h (.ref a)).map (·.length)) ((zaY h (.ref a)).map (·.2.length))) (fun _ => none) (fun _ => none) (fun _ => none) (fun _ => none) (fun vs => some vs.length) some
noncomputable def intsV (l : List Val) : Option (List Int) := l.mapM Val.int?
noncomputable def maxL (l : List Int) : Option Int := List.casesOn (motive:=fun _ => Option Int) l none fun a r => some (r.foldl max a)
noncomputable def biLen (as : List Val) (h : MH) : Option (Val × MH) := a1 as fun v => (lenV h v).map fun (k : Nat) => (Val.int (k : Int),h)
noncomputable def biMax (as : List Val) (h : MH) : Option (Val × MH) :=
 alt (a2 as fun x y => x.int?.bind fun a => y.int?.map fun b => (.int (if b > a then b else a),h))
 (alt (a3 as fun x y z => x.int?.bind fun a => y.int?.bind fun b => z.int?.map fun c => (.int (if b > a then (if c > b then c else b) else (if c > a then c else a)),h))
 (a1 as fun x => (zaq h x).bind fun vs => ((intsV vs).bind maxL).map fun k => (.int k,h)))
noncomputable def biMin (as : List Val) (h : MH) : Option (Val × MH) := a2 as fun x y => x.int?.bind fun a => y.int?.map fun b => (.int (if b < a then b else a),h)
noncomputable def biSorted (as : List Val) (h : MH) : Option (Val × MH) := none
noncomputable def callBi (n : Nat) (as : List Val) (h : MH) : Option (Val × MH) :=
 alt (grd (n == nLen) (biLen as h)) (alt (grd (n == nMax) (biMax as h)) (alt (grd (n == nMin) (biMin as h)) (grd (n == nSorted) (biSorted as h))))
noncomputable def tyRange (as : List Val) (h : MH) : Option (Val × MH) := a1 as fun x => x.int?.map fun k => (.rng k,h)
noncomputable def tyList (as : List Val) (h : MH) : Option (Val × MH) := a1 as fun x => alt (x.tup?.bind fun vs => zbz h (.list vs)) (alt (x.fl?.bind fun vs => zbz h (.list vs)) ((zaq h x).bind fun vs => zbz h (.list vs)))
noncomputable def tyDict (as : List Val) (h : MH) : Option (Val × MH) := a1 as fun x => (zaY h x).bind fun d => grd (d.2.all fun p => zaL p.1 == 1) (zbz h (.dict none d.2))
noncomputable def tyStr (as : List Val) (h : MH) : Option (Val × MH) := a1 as fun x =>
 alt (x.int?.bind fun i => grd (Nat.ble (i.natAbs + 1) (2 ^ 1000) && Nat.ble (zcL i).length lim) (some (.str (zcL i),h))) (x.str?.map fun s => (.str s,h))
noncomputable def tyInt (as : List Val) (h : MH) : Option (Val × MH) := a1 as fun x => (x.str?.bind readNat).map fun (k : Nat) => (Val.int (k : Int),h)
noncomputable def tyType (as : List Val) (h : MH) : Option (Val × MH) := a1 as fun x => (typeOf h x).map fun k => (.ty k,h)
noncomputable def tySet (x : Val) (h : MH) : Option (Val × MH) := none
noncomputable def callTy (n : Nat) (as : List Val) (h : MH) : Option (Val × MH) :=
 alt (grd (n == nRange) (tyRange as h)) (alt (grd (n == nList) (tyList as h)) (alt (grd (n == nStr) (tyStr as h)) (alt (grd (n == nType) (tyType as h)) (alt (grd (n == nDict) (tyDict as h)) (alt (grd (n == nInt) (tyInt as h)) (grd (n == nSet) (a1 as fun x => tySet x h)))))))
noncomputable def sOkB (s : List Nat) : Bool := s.all (fun c => Nat.ble (c + 1) 0x110000) && Nat.ble s.length lim
noncomputable def strMeth (s : List Nat) (n : Nat) (as : List Val) (h : MH) : Option (Val × MH) :=
 alt (grd (n == nIsspace) (a0 as (some (.bool (Txt.isspace ⟨s.toArray⟩),h))))
 (alt (grd (n == nJoin) (a1 as fun x => (zaq h x).bind fun vs => (joinV s vs).bind fun t => grd (Nat.ble t.length lim && Nat.ble (vs.length * s.length) lim) (some (.str t,h))))
 (alt (grd (n == nPartition) (a1 as fun x => x.str?.bind fun t => grd (!t.isEmpty) (some (Txt.partition ⟨s.toArray⟩ ⟨t.toArray⟩) |>.bind fun p =>
   grd (sOkB p.1.cps.toList && sOkB p.2.1.cps.toList && sOkB p.2.2.cps.toList) (some (.tup [.str p.1.cps.toList,.str p.2.1.cps.toList,.str p.2.2.cps.toList],h)))))
 (grd (n == nStartswith) (a1 as fun x => x.str?.map fun t => (.bool (t.isPrefixOf s),h)))))
noncomputable def zbY (a : Nat) (vs : List Val) (n : Nat) (as : List Val) (h : MH) : Option (Val × MH) :=
 alt (grd (n == nAppend) (a1 as fun v => grd (Nat.ble (vs.length + 1) lim) (some (.none,h.set a (.list (vs ++ [v]))))))
 (grd (n == nPop) (a0 as (vs.getLast?.map fun v => (v,h.set a (.list vs.dropLast)))))
noncomputable def zbZ (es : List (Val × Val)) (n : Nat) (as : List Val) (h : MH) : Option (Val × MH) :=
 grd (n == nGet) (alt (a1 as fun k => grd (zaj es k) (some ((dget es k).getD .none,h))) (a2 as fun k d => grd (zaj es k) (some ((dget es k).getD d,h))))
noncomputable def bmeth (o : Val) (n : Nat) (as : List Val) (h0 h : MH) : Option (Val × MH) :=
 alt (o.str?.bind fun s => strMeth s n as h)
 (o.ref?.bind fun a => alt ((h0[a]?.bind MObj.list?).bind fun _ => (h[a]?.bind MObj.list?).bind fun vs => zbY a vs n as h) ((h0[a]?.bind MObj.dict?).bind fun _ => (h[a]?.bind MObj.dict?).bind fun d => zbZ d.2 n as h))
structure Cx where
 P : Prg
 fuel : Nat
 call : Nat -> List Val -> MH -> Option (Val × MH)
noncomputable def newV (c : Cx) (a : Nat) (k : Cl) (as : List Val) (h : MH) : Option (Val × MH) :=
 k.init.bind fun i => bnd (c.call i (.ref h.length :: as) (h ++ [.inst a []])) fun r h' => grd r.isNone (some (.ref h.length,h'))
noncomputable def callV (c : Cx) (f : Val) (as : List Val) (h : MH) : Option (Val × MH) :=
 alt (f.top?.bind fun a => Option.casesOn (motive:=fun _ => Option (Val × MH)) (c.P.clsAt a) (c.call a as h) fun k => newV c a k as h)
 (alt (f.bi?.bind fun n => callBi n as h) (f.ty?.bind fun n => callTy n as h))
noncomputable def callM (c : Cx) (o : Val) (n : Nat) (as : List Val) (h0 h : MH) : Option (Val × MH) :=
 Option.casesOn (motive:=fun _ => Option (Val × MH)) (zaN c.P h0 o n) (bmeth o n as h0 h) fun p => c.call p.1 (p.2 ++ as) h
noncomputable def zas (p : Option (Val × MH)) : Option (Bool × MH) := bnd p fun v h => (truthy h v).map fun b => (b,h)
noncomputable def compLoop (next : Nat -> MH -> Option (Option Val)) (test : Val -> MH -> Option (Option Frame × MH)) (elt : Frame -> MH -> Option (Val × MH)) (acc : Nat) : Nat -> Nat -> MH -> Option (Unit × MH)
 | 0,_,_ => none
 | n + 1,i,h => (next i h).bind fun ov => Option.casesOn (motive:=fun _ => Option (Unit × MH)) ov (some ((),h)) fun v =>
  bnd (test v h) fun ofr h1 => Option.casesOn (motive:=fun _ => Option (Unit × MH)) ofr (compLoop next test elt acc n (i + 1) h1) fun fr =>
   bnd (elt fr h1) fun x h2 => (h2[acc]?.bind MObj.list?).bind fun vs => grd (Nat.ble (vs.length + 1) lim) (compLoop next test elt acc n (i + 1) (h2.set acc (.list (vs ++ [x]))))
mutual
noncomputable def eval (c : Cx) : Ex -> Frame -> MH -> Option (Val × MH)
 | .var x,fr,h => fr[x]?.bind fun o => o.map fun v => (v,h)
 | .lit v,_,h => some (v,h)
 | .list es,fr,h => bnd (zbS c es fr h) fun vs h1 => zbz h1 (.list vs)
 | .tup es,fr,h => bnd (zbS c es fr h) fun vs h1 => some (.tup vs,h1)
 | .dict kvs,fr,h => bnd (zbS c kvs fr h) fun l h1 => (dpairs l []).bind fun es => grd (Nat.ble kvs.length 30) (zbz h1 (.dict (some es.length) es))
 | .bin op a b,fr,h => bnd (eval c a fr h) fun x h1 => bnd (eval c b fr h1) fun y h2 => binop op x y h2
 | .not a,fr,h => bnd (zas (eval c a fr h)) fun b h1 => some (.bool (!b),h1)
 | .cmp op a b,fr,h => bnd (eval c a fr h) fun x h1 => bnd (eval c b fr h1) fun y h2 => (cmpop op x y h2).map fun r => (.bool r,h2)
 | .bop stop es,fr,h => evalB c stop es fr h
 | .ite t a b,fr,h => bnd (zas (eval c t fr h)) fun r h1 => bif r then eval c a fr h1 else eval c b fr h1
 | .attr e n,fr,h => bnd (eval c e fr h) fun o h1 => (getAttr c.P h1 o n).map fun v => (v,h1)
 | .sub e i,fr,h => bnd (eval c e fr h) fun o h1 => bnd (eval c i fr h1) fun k h2 => (subscr h2 o k).map fun v => (v,h2)
 | .slice e k bs,fr,h => bnd (eval c e fr h) fun o h1 => bnd (zbS c bs fr h1) fun vs h2 => slice h2 o k vs
 | .call f as,fr,h => bnd (eval c f fr h) fun g h1 => bnd (zbS c as fr h1) fun vs h2 => callV c g vs h2
 | .meth o n as,fr,h => bnd (eval c o fr h) fun v h1 => bnd (zbS c as fr h1) fun vs h2 => callM c v n vs h1 h2
 | .comp elt tg many it ifs,fr,h => bnd (eval c it fr h) fun v h1 => (zbd h1 v).bind fun k =>
   bnd (compLoop (fun i h => zav h i k) (fun v h => (zby fr tg many v).bind fun fr' => bnd (evalT c ifs fr' h) fun b h' => some (bif b then some fr' else none,h')) (fun fr' h => eval c elt fr' h) h1.length c.fuel 0 (h1 ++ [.list []]))
    fun _ h2 => some (.ref h1.length,h2)
noncomputable def zbS (c : Cx) : List Ex -> Frame -> MH -> Option (List Val × MH)
 | [],_,h => some ([],h)
 | e :: r,fr,h => bnd (eval c e fr h) fun v h1 => bnd (zbS c r fr h1) fun vs h2 => some (v :: vs,h2)
noncomputable def evalB (c : Cx) (stop : Bool) : List Ex -> Frame -> MH -> Option (Val × MH)
 | [],_,_ => none
 | e :: r,fr,h => bnd (eval c e fr h) fun v h1 => bif r.isEmpty then some (v,h1) else (truthy h1 v).bind fun b => bif b == stop then some (v,h1) else evalB c stop r fr h1
noncomputable def evalT (c : Cx) : List Ex -> Frame -> MH -> Option (Bool × MH)
 | [],_,h => some (true,h)
 | e :: r,fr,h => bnd (zas (eval c e fr h)) fun b h1 => bif b then evalT c r fr h1 else some (false,h1)
end
noncomputable def store (c : Cx) (fr : Frame) (h : MH) (v : Val) : T1 -> Option (Frame × MH)
 | .nm x => some (fr.set x (some v),h)
 | .at o n => bnd (eval c o fr h) fun ov h1 => (setAttr c.P h1 ov n v).map fun h2 => (fr,h2)
 | .sb o i => bnd (eval c o fr h) fun ov h1 => bnd (eval c i fr h1) fun iv h2 => (zbN h2 ov iv v).map fun h3 => (fr,h3)
noncomputable def zbc (c : Cx) : List T1 -> List Val -> Frame -> MH -> Option (Frame × MH)
 | [],vs,fr,h => grd vs.isEmpty (some (fr,h))
 | t :: ts,vs,fr,h => vs.head?.bind fun v => bnd (store c fr h v t) fun fr' h' => zbc c ts vs.tail fr' h'
noncomputable abbrev SR := Option ((Fl × Frame) × MH)
noncomputable def loopW (cond : Frame -> MH -> Option (Bool × MH)) (body : Frame -> MH -> SR) : Nat -> Frame -> MH -> SR
 | 0,_,_ => none
 | n + 1,fr,h => bnd (cond fr h) fun b h1 => bif b then bnd (body fr h1) fun p h2 => Fl.casesOn (motive:=fun _ => SR) p.1 (loopW cond body n p.2 h2) (some ((.nx,p.2),h2)) (loopW cond body n p.2 h2) (fun v => some ((.rt v,p.2),h2))
  else some ((.nx,fr),h1)
noncomputable def loopF (next : Nat -> MH -> Option (Option Val)) (bind : Frame -> Val -> Option Frame) (body : Frame -> MH -> SR) : Nat -> Nat -> Frame -> MH -> SR
 | 0,_,_,_ => none
 | n + 1,i,fr,h => (next i h).bind fun ov => Option.casesOn (motive:=fun _ => SR) ov (some ((.nx,fr),h)) fun v => (bind fr v).bind fun fr1 =>
   bnd (body fr1 h) fun p h2 => Fl.casesOn (motive:=fun _ => SR) p.1 (loopF next bind body n (i + 1) p.2 h2) (some ((.nx,p.2),h2)) (loopF next bind body n (i + 1) p.2 h2) (fun v => some ((.rt v,p.2),h2))
mutual
noncomputable def exec (c : Cx) : Sm -> Frame -> MH -> SR
 | .expr e,fr,h => bnd (eval c e fr h) fun _ h1 => some ((.nx,fr),h1)
 | .asg t e,fr,h => bnd (eval c e fr h) fun v h1 => bnd (store c fr h1 v t) fun fr' h2 => some ((.nx,fr'),h2)
 | .asgs ts e,fr,h => bnd (eval c e fr h) fun v h1 => (items h1 v).bind fun vs => bnd (zbc c ts vs fr h1) fun fr' h2 => some ((.nx,fr'),h2)
 | .ret e,fr,h => bnd (eval c e fr h) fun v h1 => some ((.rt v,fr),h1)
 | .ite t a b,fr,h => bnd (zas (eval c t fr h)) fun r h1 => bif r then execs c a fr h1 else execs c b fr h1
 | .wh t b,fr,h => loopW (fun fr h => zas (eval c t fr h)) (fun fr h => execs c b fr h) c.fuel fr h
 | .fo tg many e b,fr,h => bnd (eval c e fr h) fun v h1 => (zbd h1 v).bind fun k => loopF (fun i h => zav h i k) (fun fr v => zby fr tg many v) (fun fr h => execs c b fr h) c.fuel 0 fr h1
 | .brk,fr,h => some ((.bk,fr),h)
 | .cont,fr,h => some ((.ct,fr),h)
 | .pass,fr,h => some ((.nx,fr),h)
 | .raise,_,_ => none
noncomputable def execs (c : Cx) : List Sm -> Frame -> MH -> SR
 | [],fr,h => some ((.nx,fr),h)
 | s :: r,fr,h => bnd (exec c s fr h) fun p h1 => Fl.casesOn (motive:=fun _ => SR) p.1 (execs c r p.2 h1) (some (p,h1)) (some (p,h1)) (fun _ => some (p,h1))
end
noncomputable def Prg.fnAt (P : Prg) (a : Nat) : Option Fn := P.fns.find? fun f => f.addr == a
noncomputable def zcj (f : Fn) (as : List Val) : Option (List Val) := grd (Nat.ble as.length f.np && Nat.ble (f.np - as.length) f.dfl.length) (some (as ++ f.dfl.drop (f.dfl.length - (f.np - as.length))))
noncomputable def zbw (f : Fn) (vs : List Val) : Frame := vs.map some ++ List.replicate (f.ns - f.np) none
noncomputable def finF (p : Fl × Frame) (h : MH) : Option (Val × MH) := Fl.casesOn (motive:=fun _ => Option (Val × MH)) p.1 (some (.none,h)) none none fun v => some (v,h)
noncomputable def zaG (P : Prg) (fuel : Nat) : Nat -> Nat -> List Val -> MH -> Option (Val × MH)
 | 0,_,_,_ => none
 | d + 1,a,as,h => (P.fnAt a).bind fun f => (zcj f as).bind fun vs => bnd (execs ⟨P,fuel,zaG P fuel d⟩ f.body (zbw f vs) h) finF
end Mi
namespace Mi
open PySem
structure CC where
 sc : List (Str × NameKind)
 vars : List (Str × Nat)
 next : Nat
 gl : List (Str × Val)
noncomputable def zae (x : Str) : Bool := x.cps.toList.all (fun c => 1 <= c && c <= 255) && x != ("__debug__" : Str) && x != ("__class__" : Str) && x != ("super" : Str) && !x.cps.toList.isEmpty
noncomputable def constV : Const -> Option Val
 | .none => some .none
 | .bool b => some (.bool b)
 | .int i => some (.int i)
 | .str s => grd (sOkB s.cps.toList) (some (.str s.cps.toList))
 | _ => none
noncomputable def zaU (cx : CC) (x : Str) : Option Nat := grd (cx.sc.lookup x == some .local || cx.sc.lookup x == some .cell) (cx.vars.lookup x)
noncomputable def bopOf : Operator -> Option BOp
 | .Add => some .add
 | .Sub => some .sub
 | .Mult => some .mul
 | .FloorDiv => some .fdiv
 | .Mod => some .mod
 | .Pow => some .pow
 | _ => none
noncomputable def copOf : CmpOp -> COp
 | .Eq => .eq
 | .NotEq => .ne
 | .Lt => .lt
 | .LtE => .le
 | .Gt => .gt
 | .GtE => .ge
 | .In => .isin
 | .NotIn => .notin
 | .Is => .is
 | .IsNot => .isnot
noncomputable def za1 (e : Expr) : Option (Str × Pos) := Expr.casesOn (motive_1:=fun _ => Option (Str × Pos)) e (fun _ _ _ => none) (fun _ _ _ => none) (fun _ _ _ _ => none) (fun _ _ _ => none) (fun _ _ _ _ => none) (fun _ _ _ _ => none) (fun _ _ _ => none) (fun _ _ _ => none) (fun _ _ _ _ => none) (fun _ _ _ _ => none) (fun _ _ _ _ _ => none) (fun _ _ _ _ => none) (fun _ _ => none) (fun _ _ => none) (fun _ _ => none) (fun _ _ _ _ => none) (fun _ _ _ _ => none) (fun _ _ _ _ => none) (fun _ _ => none) (fun _ _ _ => none) (fun _ _ _ => none) (fun _ _ _ => none) (fun _ _ => none) (fun x y => some (x,y)) (fun _ _ => none) (fun _ _ _ => none) (fun _ _ _ _ => none)
noncomputable def asAttr (e : Expr) : Option (Expr × Str × Pos) := Expr.casesOn (motive_1:=fun _ => Option (Expr × Str × Pos)) e (fun _ _ _ => none) (fun _ _ _ => none) (fun _ _ _ _ => none) (fun _ _ _ => none) (fun _ _ _ _ => none) (fun _ _ _ _ => none) (fun _ _ _ => none) (fun _ _ _ => none) (fun _ _ _ _ => none) (fun _ _ _ _ => none) (fun _ _ _ _ _ => none) (fun _ _ _ _ => none) (fun _ _ => none) (fun _ _ => none) (fun _ _ => none) (fun _ _ _ _ => none) (fun _ _ _ _ => none) (fun _ _ _ _ => none) (fun _ _ => none) (fun _ _ _ => none) (fun x y z => some (x,y,z)) (fun _ _ _ => none) (fun _ _ => none) (fun _ _ => none) (fun _ _ => none) (fun _ _ _ => none) (fun _ _ _ _ => none)
noncomputable def zco (e : Expr) : Option (List Expr × Nat × Pos) := Expr.casesOn (motive_1:=fun _ => Option (List Expr × Nat × Pos)) e (fun _ _ _ => none) (fun _ _ _ => none) (fun _ _ _ _ => none) (fun _ _ _ => none) (fun _ _ _ _ => none) (fun _ _ _ _ => none) (fun _ _ _ => none) (fun _ _ _ => none) (fun _ _ _ _ => none) (fun _ _ _ _ => none) (fun _ _ _ _ _ => none) (fun _ _ _ _ => none) (fun _ _ => none) (fun _ _ => none) (fun _ _ => none) (fun _ _ _ _ => none) (fun _ _ _ _ => none) (fun _ _ _ _ => none) (fun _ _ => none) (fun _ _ _ => none) (fun _ _ _ => none) (fun _ _ _ => none) (fun _ _ => none) (fun _ _ => none) (fun _ _ => none) (fun x y z => some (x,y,z)) (fun _ _ _ _ => none)
noncomputable def asSub (e : Expr) : Option (Expr × Expr × Pos) := Expr.casesOn (motive_1:=fun _ => Option (Expr × Expr × Pos)) e (fun _ _ _ => none) (fun _ _ _ => none) (fun _ _ _ _ => none) (fun _ _ _ => none) (fun _ _ _ _ => none) (fun _ _ _ _ => none) (fun _ _ _ => none) (fun _ _ _ => none) (fun _ _ _ _ => none) (fun _ _ _ _ => none) (fun _ _ _ _ _ => none) (fun _ _ _ _ => none) (fun _ _ => none) (fun _ _ => none) (fun _ _ => none) (fun _ _ _ _ => none) (fun _ _ _ _ => none) (fun _ _ _ _ => none) (fun _ _ => none) (fun _ _ _ => none) (fun _ _ _ => none) (fun x y z => some (x,y,z)) (fun _ _ => none) (fun _ _ => none) (fun _ _ => none) (fun _ _ _ => none) (fun _ _ _ _ => none)
noncomputable def zci (e : Expr) : Option (Option Expr × Option Expr × Option Expr × Pos) := Expr.casesOn (motive_1:=fun _ => Option (Option Expr × Option Expr × Option Expr × Pos)) e (fun _ _ _ => none) (fun _ _ _ => none) (fun _ _ _ _ => none) (fun _ _ _ => none) (fun _ _ _ _ => none) (fun _ _ _ _ => none) (fun _ _ _ => none) (fun _ _ _ => none) (fun _ _ _ _ => none) (fun _ _ _ _ => none) (fun _ _ _ _ _ => none) (fun _ _ _ _ => none) (fun _ _ => none) (fun _ _ => none) (fun _ _ => none) (fun _ _ _ _ => none) (fun _ _ _ _ => none) (fun _ _ _ _ => none) (fun _ _ => none) (fun _ _ _ => none) (fun _ _ _ => none) (fun _ _ _ => none) (fun _ _ => none) (fun _ _ => none) (fun _ _ => none) (fun _ _ _ => none) (fun x y z u => some (x,y,z,u))
noncomputable def zbQ (e : Expr) : Bool := Expr.casesOn (motive_1:=fun _ => Bool) e (fun _ _ _ => false) (fun _ _ _ => false) (fun _ _ _ _ => false) (fun _ _ _ => false) (fun _ _ _ _ => false) (fun _ _ _ _ => false) (fun _ _ _ => false) (fun _ _ _ => false) (fun x y z u => true) (fun _ _ _ _ => false) (fun _ _ _ _ _ => false) (fun _ _ _ _ => false) (fun _ _ => false) (fun _ _ => false) (fun _ _ => false) (fun _ _ _ _ => false) (fun _ _ _ _ => false) (fun _ _ _ _ => false) (fun _ _ => false) (fun _ _ _ => false) (fun _ _ _ => false) (fun _ _ _ => false) (fun _ _ => false) (fun _ _ => false) (fun _ _ => false) (fun _ _ _ => false) (fun _ _ _ _ => false)
noncomputable def baseOk (e : Expr) : Bool := Expr.casesOn (motive_1:=fun _ => Bool) e (fun _ _ _ => true) (fun _ _ _ => true) (fun _ _ _ _ => true) (fun _ _ _ => true) (fun _ _ _ _ => true) (fun _ _ _ _ => true) (fun _ _ _ => true) (fun _ _ _ => true) (fun _ _ _ _ => true) (fun _ _ _ _ => true) (fun _ _ _ _ _ => true) (fun _ _ _ _ => true) (fun _ _ => true) (fun _ _ => true) (fun _ _ => true) (fun _ _ _ _ => true) (fun x y z u => !y.isEmpty) (fun _ _ _ _ => true) (fun _ _ => true) (fun _ _ _ => true) (fun _ _ _ => true) (fun _ _ _ => true) (fun _ _ => true) (fun _ _ => true) (fun _ _ => true) (fun _ _ _ => true) (fun _ _ _ _ => true)
section
variable {α β γ : Type}
noncomputable def mapO (f : α -> Option β) : List α -> Option (List β)
 | [] => some []
 | a :: r => (f a).bind fun b => (mapO f r).map fun bs => b :: bs
noncomputable def one1 (l : List α) (f : α -> Option β) : Option β := List.casesOn (motive:=fun _ => Option β) l none fun a r => List.casesOn (motive:=fun _ => Option β) r (f a) fun _ _ => none
inductive All2 (R : α -> β -> Prop) : List α -> List β -> Prop
 | nil : All2 R [] []
 | cons {a : α} {b : β} {as : List α} {bs : List β} : R a b -> All2 R as bs -> All2 R (a :: as) (b :: bs)
theorem bs {o : Option α} {f : α -> Option β} {r : β} (h : o.bind f = some r) : ∃ a,o = some a /\ f a = some r := Option.bind_eq_some_iff.mp h
theorem ms {o : Option α} {f : α -> β} {r : β} (h : o.map f = some r) : ∃ a,o = some a /\ f a = r := Option.map_eq_some_iff.mp h
theorem gs {b : Bool} {o : Option α} {r : α} (h : grd b o = some r) : b = true /\ o = some r := by
 cases b
 ·cases h
 ·exact ⟨rfl,h⟩
theorem bs_r {P : Prop} {o : Option α} {f : α -> Option β} {r : β} (g : ∀ a,o = some a -> f a = some r -> P) (h : o.bind f = some r) : P := (bs h).elim fun a h => g a h.1 h.2
theorem ms_r {P : Prop} {o : Option α} {f : α -> β} {r : β} (g : ∀ a,o = some a -> f a = r -> P) (h : o.map f = some r) : P := (ms h).elim fun a h => g a h.1 h.2
theorem gs_r {P : Prop} {b : Bool} {o : Option α} {r : α} (g : b = true -> o = some r -> P) (h : grd b o = some r) : P := g (gs h).1 (gs h).2
theorem zaz {P : Prop} {a b : Option α} {r : α} (g : a = some r -> P) (g' : b = some r -> P) : alt a b = some r -> P := Option.casesOn (motive:=fun a => (a = some r -> P) -> alt a b = some r -> P) a (fun _ h => g' h) (fun _ g h => g h) g
theorem zad {P : Prop} {o : Option (α × MH)} {f : α -> MH -> Option (β × MH)} {r : β × MH} (g : ∀ a h,o = some (a,h) -> f a h = some r -> P) : bnd o f = some r -> P := Option.casesOn (motive:=fun o => (∀ a h,o = some (a,h) -> f a h = some r -> P) -> bnd o f = some r -> P) o (fun _ h => Option.noConfusion rfl (heq_of_eq h)) (fun p g h => g p.1 p.2 rfl h) g
theorem one1_s {l : List α} {f : α -> Option β} {r : β} (h : one1 l f = some r) : ∃ a,l = [a] /\ f a = some r := by
 cases l with
 | nil => cases h
 | cons a l =>
  cases l with
  | nil => exact ⟨a,rfl,h⟩
  | cons _ _ => cases h
theorem zbt {f : α -> Option β} {l : List α} : ∀ {r : List β},mapO f l = some r -> All2 (fun a b => f a = some b) l r := by
 induction l with
 | nil => intro r h; cases h; exact .nil
 | cons a l ih =>
  intro r h
  obtain ⟨b,h1,h⟩ := bs h
  obtain ⟨bs,h2,rfl⟩ := ms h
  exact .cons h1 (ih h2)
theorem All2.mono {R S : α -> β -> Prop} (h : ∀ a b,R a b -> S a b) {as : List α} {bs : List β} (r : All2 R as bs) : All2 S as bs := by
 induction r with
 | nil => exact .nil
 | cons x _ ih => exact .cons (h _ _ x) ih
theorem All2.length {R : α -> β -> Prop} {as : List α} {bs : List β} (r : All2 R as bs) : bs.length = as.length := by
 induction r with
 | nil => rfl
 | cons _ _ ih => exact congrArg (· + 1) ih
end
theorem nos {α : Type} {p : α} {P : Prop} (h : none = some p) : P := nomatch h
theorem za9 {e : Expr} {p : Str × Pos} : za1 e = some p -> e = .Name p.1 p.2 := Expr.casesOn (motive_1:=fun e => za1 e = some p -> e = .Name p.1 p.2) e (fun _ _ _ h => nos h) (fun _ _ _ h => nos h) (fun _ _ _ _ h => nos h) (fun _ _ _ h => nos h) (fun _ _ _ _ h => nos h) (fun _ _ _ _ h => nos h) (fun _ _ _ h => nos h) (fun _ _ _ h => nos h) (fun _ _ _ _ h => nos h) (fun _ _ _ _ h => nos h) (fun _ _ _ _ _ h => nos h) (fun _ _ _ _ h => nos h) (fun _ _ h => nos h) (fun _ _ h => nos h) (fun _ _ h => nos h) (fun _ _ _ _ h => nos h) (fun _ _ _ _ h => nos h) (fun _ _ _ _ h => nos h) (fun _ _ h => nos h) (fun _ _ _ h => nos h) (fun _ _ _ h => nos h) (fun _ _ _ h => nos h) (fun _ _ h => nos h) (fun x y h => Option.some.inj h ▸ rfl) (fun _ _ h => nos h) (fun _ _ _ h => nos h) (fun _ _ _ _ h => nos h)
theorem zc5 {e : Expr} {p : Expr × Str × Pos} : asAttr e = some p -> e = .Attribute p.1 p.2.1 p.2.2 := Expr.casesOn (motive_1:=fun e => asAttr e = some p -> e = .Attribute p.1 p.2.1 p.2.2) e (fun _ _ _ h => nos h) (fun _ _ _ h => nos h) (fun _ _ _ _ h => nos h) (fun _ _ _ h => nos h) (fun _ _ _ _ h => nos h) (fun _ _ _ _ h => nos h) (fun _ _ _ h => nos h) (fun _ _ _ h => nos h) (fun _ _ _ _ h => nos h) (fun _ _ _ _ h => nos h) (fun _ _ _ _ _ h => nos h) (fun _ _ _ _ h => nos h) (fun _ _ h => nos h) (fun _ _ h => nos h) (fun _ _ h => nos h) (fun _ _ _ _ h => nos h) (fun _ _ _ _ h => nos h) (fun _ _ _ _ h => nos h) (fun _ _ h => nos h) (fun _ _ _ h => nos h) (fun x y z h => Option.some.inj h ▸ rfl) (fun _ _ _ h => nos h) (fun _ _ h => nos h) (fun _ _ h => nos h) (fun _ _ h => nos h) (fun _ _ _ h => nos h) (fun _ _ _ _ h => nos h)
theorem zc4 {e : Expr} {p : List Expr × Nat × Pos} : zco e = some p -> e = .Tuple p.1 p.2.1 p.2.2 := Expr.casesOn (motive_1:=fun e => zco e = some p -> e = .Tuple p.1 p.2.1 p.2.2) e (fun _ _ _ h => nos h) (fun _ _ _ h => nos h) (fun _ _ _ _ h => nos h) (fun _ _ _ h => nos h) (fun _ _ _ _ h => nos h) (fun _ _ _ _ h => nos h) (fun _ _ _ h => nos h) (fun _ _ _ h => nos h) (fun _ _ _ _ h => nos h) (fun _ _ _ _ h => nos h) (fun _ _ _ _ _ h => nos h) (fun _ _ _ _ h => nos h) (fun _ _ h => nos h) (fun _ _ h => nos h) (fun _ _ h => nos h) (fun _ _ _ _ h => nos h) (fun _ _ _ _ h => nos h) (fun _ _ _ _ h => nos h) (fun _ _ h => nos h) (fun _ _ _ h => nos h) (fun _ _ _ h => nos h) (fun _ _ _ h => nos h) (fun _ _ h => nos h) (fun _ _ h => nos h) (fun _ _ h => nos h) (fun x y z h => Option.some.inj h ▸ rfl) (fun _ _ _ _ h => nos h)
theorem asSub_s {e : Expr} {p : Expr × Expr × Pos} : asSub e = some p -> e = .Subscript p.1 p.2.1 p.2.2 := Expr.casesOn (motive_1:=fun e => asSub e = some p -> e = .Subscript p.1 p.2.1 p.2.2) e (fun _ _ _ h => nos h) (fun _ _ _ h => nos h) (fun _ _ _ _ h => nos h) (fun _ _ _ h => nos h) (fun _ _ _ _ h => nos h) (fun _ _ _ _ h => nos h) (fun _ _ _ h => nos h) (fun _ _ _ h => nos h) (fun _ _ _ _ h => nos h) (fun _ _ _ _ h => nos h) (fun _ _ _ _ _ h => nos h) (fun _ _ _ _ h => nos h) (fun _ _ h => nos h) (fun _ _ h => nos h) (fun _ _ h => nos h) (fun _ _ _ _ h => nos h) (fun _ _ _ _ h => nos h) (fun _ _ _ _ h => nos h) (fun _ _ h => nos h) (fun _ _ _ h => nos h) (fun _ _ _ h => nos h) (fun x y z h => Option.some.inj h ▸ rfl) (fun _ _ h => nos h) (fun _ _ h => nos h) (fun _ _ h => nos h) (fun _ _ _ h => nos h) (fun _ _ _ _ h => nos h)
theorem asSlice_s {e : Expr} {p : Option Expr × Option Expr × Option Expr × Pos} : zci e = some p -> e = .Slice p.1 p.2.1 p.2.2.1 p.2.2.2 := Expr.casesOn (motive_1:=fun e => zci e = some p -> e = .Slice p.1 p.2.1 p.2.2.1 p.2.2.2) e (fun _ _ _ h => nos h) (fun _ _ _ h => nos h) (fun _ _ _ _ h => nos h) (fun _ _ _ h => nos h) (fun _ _ _ _ h => nos h) (fun _ _ _ _ h => nos h) (fun _ _ _ h => nos h) (fun _ _ _ h => nos h) (fun _ _ _ _ h => nos h) (fun _ _ _ _ h => nos h) (fun _ _ _ _ _ h => nos h) (fun _ _ _ _ h => nos h) (fun _ _ h => nos h) (fun _ _ h => nos h) (fun _ _ h => nos h) (fun _ _ _ _ h => nos h) (fun _ _ _ _ h => nos h) (fun _ _ _ _ h => nos h) (fun _ _ h => nos h) (fun _ _ _ h => nos h) (fun _ _ _ h => nos h) (fun _ _ _ h => nos h) (fun _ _ h => nos h) (fun _ _ h => nos h) (fun _ _ h => nos h) (fun _ _ _ h => nos h) (fun x y z u h => Option.some.inj h ▸ rfl)
noncomputable def zbh (e : Expr) : Option Str := (za1 e).map (·.1)
noncomputable def tgtOf (e : Expr) : Option (List Str × Bool) := alt ((za1 e).map fun p => ([p.1],false)) ((zco e).bind fun p => (mapO zbh p.1).map fun xs => (xs,true))
noncomputable def zce (outer : List (Str × NameKind)) (sc : Scope) : List (Str × NameKind) :=
 sc.names.map fun p => (p.1,if (p.2 == .free && outer.lookup p.1 == some .cell) = true then .cell else p.2)
noncomputable def inComp (cx : CC) (sc : Scope) (xs : List Str) : CC :=
 { sc := zce cx.sc sc,vars := xs.zip (List.range' cx.next xs.length) ++ cx.vars,next := cx.next + xs.length,gl := cx.gl }
noncomputable def zcZ (cx : CC) (sc : Scope) (xs : List Str) : Bool :=
 sc.kind == .function &&
 (sc.names.all fun p => p.2 != .cell && (p.2 != .local || (sc.names.lookup p.1 == some .local && (xs.contains p.1 || (cx.vars.lookup p.1).isNone))) && (p.2 != .free || (sc.names.lookup p.1 == some .free && cx.sc.lookup p.1 == some .cell))) &&
 xs.all (fun x => sc.names.lookup x == some .local) && decide xs.Nodup
noncomputable def zipKV : List Ex -> List Ex -> List Ex
 | k :: ks,v :: vs => k :: v :: zipKV ks vs
 | _,_ => []
noncomputable def nameE (cx : CC) (x : Str) : Option Ex := grd (zae x) (Option.casesOn (motive:=fun _ => Option Ex) (zaU cx x) (grd (cx.sc.lookup x == some .globalImplicit) ((cx.gl.lookup x).map .lit)) fun i => some (.var i))
noncomputable def callE (f : Expr -> Option Ex) (cx : CC) (pos : Pos) (as : List Ex) (g : Expr) : Option Ex :=
 alt ((za1 g).bind fun p => (nameE cx p.1).map fun e => .call e as)
 ((asAttr g).bind fun p => grd (zae p.2.1 && baseOk p.1 && p.2.2.endLine == pos.line) ((f p.1).map fun e => .meth e (enc p.2.1) as))
noncomputable def boundsE (f : Expr -> Option Ex) (lo hi : Option Expr) : Option (Nat × List Ex) :=
 Option.casesOn (motive:=fun _ => Option (Nat × List Ex)) lo
  (Option.casesOn (motive:=fun _ => Option (Nat × List Ex)) hi (some (0,[])) fun b => (f b).map fun y => (2,[y]))
  fun a => (f a).bind fun x => Option.casesOn (motive:=fun _ => Option (Nat × List Ex)) hi (some (1,[x])) fun b => (f b).map fun y => (3,[x,y])
noncomputable def subE (f : Expr -> Option Ex) (v sl : Expr) : Option Ex :=
 Option.casesOn (motive:=fun _ => Option Ex) (zci sl) ((f v).bind fun e => (f sl).map fun i => .sub e i)
  fun p => grd ((za1 v).isSome && p.2.2.1.isNone) ((f v).bind fun e => (boundsE f p.1 p.2.1).map fun q => .slice e q.1 q.2)
noncomputable def compE : Nat -> CC -> Expr -> Option Ex
 | 0,_,_ => none
 | n + 1,cx,e => match e with
  | .Constant c _ _ => (constV c).map .lit
  | .Name x _ => nameE cx x
  | .BoolOp op vs _ => (mapO (compE n cx) vs).map (.bop (op == .Or))
  | .BinOp l op r _ => (bopOf op).bind fun o => (compE n cx l).bind fun a => (compE n cx r).map fun b => .bin o a b
  | .UnaryOp op x _ => grd (op == .Not) ((compE n cx x).map .not)
  | .IfExp t a b _ => (compE n cx t).bind fun t' => (compE n cx a).bind fun a' => (compE n cx b).map fun b' => .ite t' a' b'
  | .List es _ => grd (Nat.ble es.length 1000) ((mapO (compE n cx) es).map .list)
  | .Tuple es _ _ => grd (Nat.ble es.length 1000) ((mapO (compE n cx) es).map .tup)
  | .Compare l ops cs _ => one1 ops fun o => one1 cs fun r => (compE n cx l).bind fun a => (compE n cx r).map fun b => .cmp (copOf o) a b
  | .Call f as ks pos => grd (ks.isEmpty && Nat.ble as.length 20) ((mapO (compE n cx) as).bind fun bs => callE (compE n cx) cx pos bs f)
  | .Attribute v nm _ => grd (zae nm && baseOk v) ((compE n cx v).map fun e => .attr e (enc nm))
  | .Subscript v sl _ => subE (compE n cx) v sl
  | .Dict ks vs _ => grd (ks.length == vs.length) ((mapO (fun o => o.bind (compE n cx)) ks).bind fun a => (mapO (compE n cx) vs).map fun b => .dict (zipKV a b))
  | .ListComp elt gens sc _ => one1 gens fun g => (tgtOf g.target).bind fun t => grd (g.is_async == 0 && zcZ cx sc t.1) ((compE n cx g.iter).bind fun it => (mapO (compE n (inComp cx sc t.1)) g.ifs).bind fun ifs =>
    (compE n (inComp cx sc t.1) elt).map fun e => .comp e (List.range' cx.next t.1.length) t.2 it ifs)
  | _ => none
noncomputable abbrev compX : CC -> Expr -> Option Ex := compE 60
noncomputable def compT1 (cx : CC) (t : Expr) : Option T1 :=
 alt ((za1 t).bind fun p => grd (zae p.1) ((zaU cx p.1).map .nm))
 (alt ((asAttr t).bind fun p => grd (zae p.2.1) ((compX cx p.1).map fun e => .at e (enc p.2.1)))
 ((asSub t).bind fun p => (compX cx p.1).bind fun a => (compX cx p.2.1).map fun b => .sb a b))
noncomputable def slotOf (cx : CC) (x : Str) : Option Nat := grd (zae x) (zaU cx x)
noncomputable def compA1 (cx : CC) (t : Expr) : Option (Ex × Nat) := (asAttr t).bind fun p => grd (zae p.2.1) ((compX cx p.1).map fun e => (e,enc p.2.1))
noncomputable def valOk (v : Expr) : Bool := !zbQ v && ((zco v).map fun p => !p.1.all (constantsAlone 8)).getD true
noncomputable def namesN (es : List Expr) : Option (List Str) := (mapO zbh es).bind fun xs => grd (decide xs.Nodup) (some xs)
noncomputable def asgE (cx : CC) (v t : Expr) : Option Sm :=
 Option.casesOn (motive:=fun _ => Option Sm) (zco t) ((compT1 cx t).bind fun a => (compX cx v).map fun b => .asg a b)
  fun p => grd (valOk v) ((compX cx v).bind fun b => alt ((namesN p.1).bind fun xs => (mapO (slotOf cx) xs).map fun is => .asgs (is.map .nm) b)
   (grd (!p.1.isEmpty) ((mapO (compA1 cx) p.1).map fun ts => .asgs (ts.map fun q => .at q.1 q.2) b)))
noncomputable def compS : Nat -> CC -> Stmt -> Option Sm
 | 0,_,_ => none
 | n + 1,cx,st => match st with
  | .Expr v _ => grd (!zbQ v) ((compX cx v).map .expr)
  | .Pass _ => some .pass
  | .Break _ => some .brk
  | .Continue _ => some .cont
  | .Return v _ => Option.casesOn (motive:=fun _ => Option Sm) v (some (.ret (.lit .none))) fun e => (compX cx e).map .ret
  | .Assign ts v _ => one1 ts (asgE cx v)
  | .If t a b _ => (compX cx t).bind fun x => (mapO (fun s => some ((compS n cx s).getD .raise)) a).bind fun y => (mapO (fun s => some ((compS n cx s).getD .raise)) b).map fun z => .ite x y z
  | .While t b e _ => grd e.isEmpty ((compX cx t).bind fun x => (mapO (fun s => some ((compS n cx s).getD .raise)) b).map fun y => .wh x y)
  | .For t it b e _ => grd e.isEmpty ((tgtOf t).bind fun q => grd (decide q.1.Nodup) ((compX cx it).bind fun x => (mapO (slotOf cx) q.1).bind fun sl => (mapO (fun s => some ((compS n cx s).getD .raise)) b).map fun y => .fo sl q.2 x y))
  | _ => none
noncomputable abbrev compB (cx : CC) : List Stmt -> Option (List Sm) := mapO fun s => some ((compS 40 cx s).getD .raise)
noncomputable def zcc (ps : List Str) (sc : Scope) : List Str :=
 ps ++ (sc.names.filter fun p => (p.2 == .local || p.2 == .cell) && !ps.contains p.1).map (·.1)
noncomputable def fnCx (ps : List Str) (sc : Scope) (gl : List (Str × Val)) : CC :=
 { sc := sc.names,vars := (zcc ps sc).zip (List.range' 0 (zcc ps sc).length),next := (zcc ps sc).length,gl := gl }
noncomputable def compFn (gl : List (Str × Val)) (params : Arguments) (body : List Stmt) (sc : Scope) : Option (Nat × Nat × List Sm) :=
 grd (params.posonlyargs.isEmpty && params.vararg.isNone && params.kwonlyargs.isEmpty && params.kwarg.isNone && sc.kind == .function && !sc.isGenerator && !sc.isCoroutine && (params.args.map (·.arg)).all (fun x => sc.names.lookup x == some .local || sc.names.lookup x == some .cell))
  ((compB (fnCx (params.args.map (·.arg)) sc gl) body).map fun b => ((params.args.map (·.arg)).length,(zcc (params.args.map (·.arg)) sc).length + 6,b))
end Mi
namespace Mi
open PySem PySem.W PySem.Calls PyProof.Rows
noncomputable abbrev Led := List (Addr × Obj)
structure Cfg where
 prog : Program
 w : World
 K : Frag
 P : Prg
 ad : List (Nat × Addr)
noncomputable abbrev Cfg.M (C : Cfg) : Model := model C.prog C.w
noncomputable def tyTab : List (Nat × String) := [(nRange,"range"),(nList,"list"),(nDict,"dict"),(nTuple,"tuple"),(nStr,"str"),(nInt,"int"),(nType,"type"),(nSet,"set"),(nBool,"bool"),(nNoneType,"NoneType")]
noncomputable def biTab : List (Nat × String) := [(nLen,"len"),(nMax,"max"),(nMin,"min"),(nSorted,"sorted")]
noncomputable def sOk (s : List Nat) : Prop := (∀ c ∈ s,c < 0x110000) /\ s.length <= lim
structure Wd where
 σ : List Addr
 tp : Led
structure Wd.le (w w' : Wd) : Prop where
 s : w.σ <+: w'.σ
 t : ∀ p ∈ w.tp,p ∈ w'.tp
theorem Wd.le.refl (w : Wd) : w.le w := ⟨List.prefix_refl _,fun _ x => x⟩
theorem Wd.le.trans {a b c : Wd} (x : a.le b) (y : b.le c) : a.le c := ⟨x.1.trans y.1,fun p hp => y.2 p (x.2 p hp)⟩
theorem Wd.le.get {w w' : Wd} (l : w.le w') {i : Nat} {a : Addr} (h : w.σ[i]? = some a) : w'.σ[i]? = some a := by
 obtain ⟨t,e⟩ := l.s
 obtain ⟨hl,_⟩ := List.getElem?_eq_some_iff.mp h
 rw [<- e,List.getElem?_append_left hl]; exact h
structure SeqO (C : Cfg) (tp : Led) (a : Addr) (o : Obj) (n : Nat) (vs : List Value) : Prop where
 at' : (a,o) ∈ tp \/ C.K.lookup a = some o
 cls : o.cls = .type "tuple"
 data : o.data = .seq vs.toArray n
structure FlO (C : Cfg) (a : Addr) (o : Obj) (n : Nat) (vs : List Value) : Prop where
 at' : C.K.lookup a = some o
 cls : o.cls = .type "list"
 data : o.data = .seq vs.toArray n
noncomputable abbrev rngObj (t : Tok) (n : Int) (u v : Tok) : Obj := { cls := .type "range",dict := Option.none,data := .fields #[.int 0 t,.int n u,.int 1 v],slots := #[] }
structure SetO (tp : Led) (a : Addr) (o : Obj) (es : Array (Int × Value)) (ep : Nat) (t : SetTable) (n : Nat) : Prop where
 at' : (a,o) ∈ tp
 ex : o.ExactSet
 data : o.data = .set es ep t
 fits : t.fits es.size = true
 size : es.size = n
 le : n <= lim
inductive TupO (C : Cfg) (tp : Led) (l : Nat) (R : List Value -> Prop) (v : Value) : Prop
 | mk (a : Addr) (o : Obj) (n : Nat) (vs : List Value) (e : v = .ref a) (q : SeqO C tp a o n vs) (r : R vs) (hl : l <= lim) : TupO C tp l R v
inductive FlL (C : Cfg) (l : Nat) (R : List Value -> Prop) (v : Value) : Prop
 | mk (a : Addr) (o : Obj) (n : Nat) (vs : List Value) (e : v = .ref a) (q : FlO C a o n vs) (r : R vs) (hl : l <= lim) : FlL C l R v
inductive RngO (tp : Led) (n : Int) (x : Value) : Prop
 | mk (a : Addr) (t u v : Tok) (e : x = .ref a) (h : (a,rngObj t n u v) ∈ tp) : RngO tp n x
inductive ConsO (P : Value -> Prop) (R : List Value -> Prop) (vs : List Value) : Prop
 | mk (v : Value) (r : List Value) (e : vs = v :: r) (h : P v) (t : R r) : ConsO P R vs
mutual
noncomputable def VRel (C : Cfg) (w : Wd) : Val -> Value -> Prop
 | .none => fun v => v = .none
 | .bool b => fun v => v = .bool b
 | .int i => fun v => ∃ t,v = .int i t
 | .str s => fun v => ∃ t,v = .str ⟨s.toArray⟩ t /\ sOk s
 | .tup mvs => fun v => TupO C w.tp mvs.length (zaa C w mvs) v
 | .ref i => fun v => ∃ a,v = .ref a /\ w.σ[i]? = some a
 | .top id => fun v => ∃ a,v = .ref a /\ C.ad.lookup id = some a
 | .ty c => fun v => ∃ n,v = .type n /\ tyTab.lookup c = some n
 | .bi c => fun v => ∃ n,v = .builtin n /\ biTab.lookup c = some n
 | .rng n => fun x => RngO w.tp n x
 | .fl mvs => fun v => FlL C mvs.length (zaa C w mvs) v
 | .setn n => fun v => ∃ a o es ep t,v = .ref a /\ SetO w.tp a o es ep t n
noncomputable def zaa (C : Cfg) (w : Wd) : List Val -> List Value -> Prop
 | [] => fun vs => vs = []
 | m :: ms => fun vs => ConsO (VRel C w m) (zaa C w ms) vs
end
section
variable {C : Cfg} {w w' : Wd} {x : Val} {v : Value} {mvs : List Val} {vs : List Value}
theorem zaa.nil : zaa C w [] [] := rfl
theorem zaa.cons {m : Val} {ms : List Val} (h : VRel C w m v) (r : zaa C w ms vs) : zaa C w (m :: ms) (v :: vs) := ⟨v,vs,rfl,h,r⟩
theorem zaa.one (h : VRel C w x v) : zaa C w [x] [v] := .cons h .nil
theorem zaa.length : ∀ {ms : List Val} {vs : List Value},zaa C w ms vs -> ms.length = vs.length := by
 intro ms
 induction ms with
 | nil => intro vs h; exact congrArg List.length (Eq.symm h)
 | cons m ms ih =>
  intro vs h
  obtain ⟨v,r,rfl,_,h⟩ := h
  exact congrArg Nat.succ (ih h)
theorem VRel.mono' (l : w.le w') (m : Val) : ∀ v,VRel C w m v -> VRel C w' m v := by
 refine Val.rec (motive_1:=fun m => ∀ v,VRel C w m v -> VRel C w' m v) (motive_2:=fun ms => ∀ vs,zaa C w ms vs -> zaa C w' ms vs) (fun _ h => h) (fun _ _ h => h) (fun _ _ h => h) (fun _ _ h => h) ?_ ?_ (fun _ _ h => h) (fun _ _ h => h) (fun _ _ h => h) ?_ ?_ ?_ (fun _ h => h) ?_ m
 ·exact fun ms ih v h => TupO.casesOn h fun a o n vs e h r k => ⟨a,o,n,vs,e,⟨h.1.imp (l.t _) id,h.2,h.3⟩,ih vs r,k⟩
 ·exact fun i v h => h.elim fun a h => ⟨a,h.1,l.get h.2⟩
 ·exact fun n v h => RngO.casesOn h fun a t u x e h => ⟨a,t,u,x,e,l.t _ h⟩
 ·exact fun ms ih v h => FlL.casesOn h fun a o n vs e h r k => ⟨a,o,n,vs,e,h,ih vs r,k⟩
 ·exact fun n v h => by
   obtain ⟨a,o,es,ep,t,e,h⟩ := h
   exact ⟨a,o,es,ep,t,e,l.t _ h.1,h.2,h.3,h.4,h.5,h.6⟩
 ·exact fun m ms i1 i2 vs h => ConsO.casesOn h fun v r e h h' => ⟨v,r,e,i1 v h,i2 r h'⟩
theorem VRel.mono (l : w.le w') (h : VRel C w x v) : VRel C w' x v := VRel.mono' l x v h
theorem zaa.mono (l : w.le w') : ∀ {ms : List Val} {vs : List Value},zaa C w ms vs -> zaa C w' ms vs := by
 intro ms
 induction ms with
 | nil => exact fun h => h
 | cons m ms ih =>
  exact fun h => ConsO.casesOn h fun v r e h h' => ⟨v,r,e,h.mono l,ih h'⟩
theorem zaa.get : ∀ {ms : List Val} {vs : List Value} {i : Nat} {m : Val},zaa C w ms vs -> ms[i]? = some m -> ∃ v,vs[i]? = some v /\ VRel C w m v := by
 intro ms
 induction ms with
 | nil => exact fun _ e => nos e
 | cons m ms ih =>
  intro vs i m' h e
  obtain ⟨v,r,rfl,h,h'⟩ := h
  cases i with
  | zero => exact ⟨v,rfl,Option.some.inj e ▸ h⟩
  | succ i => exact ih (i:=i) h' e
theorem zaa.append {ms' : List Val} {vs' : List Value} (h' : zaa C w ms' vs') : ∀ {ms : List Val} {vs : List Value},zaa C w ms vs -> zaa C w (ms ++ ms') (vs ++ vs') := by
 intro ms
 induction ms with
 | nil => intro vs h; rw [show vs = [] from h]; exact h'
 | cons m ms ih =>
  exact fun h => ConsO.casesOn h fun v r e h hr => ⟨v,r ++ vs',congrArg (· ++ vs') e,h,ih hr⟩
theorem VRel.int? {i : Int} : VRel C w x v -> x.int? = some i -> ∃ t,v = .int i t :=
 Val.casesOn (motive_1:=fun x => VRel C w x v -> x.int? = some i -> ∃ t,v = .int i t) x (fun _ e => nos e) (fun _ _ e => nos e) (fun _ h e => Option.some.inj e ▸ h) (fun _ _ e => nos e) (fun _ _ e => nos e) (fun _ _ e => nos e) (fun _ _ e => nos e) (fun _ _ e => nos e) (fun _ _ e => nos e) (fun _ _ e => nos e) (fun _ _ e => nos e) (fun _ _ e => nos e)
theorem VRel.str? {i : List Nat} : VRel C w x v -> x.str? = some i -> ∃ t,v = .str ⟨i.toArray⟩ t /\ sOk i :=
 Val.casesOn (motive_1:=fun x => VRel C w x v -> x.str? = some i -> ∃ t,v = .str ⟨i.toArray⟩ t /\ sOk i) x (fun _ e => nos e) (fun _ _ e => nos e) (fun _ _ e => nos e) (fun _ h e => Option.some.inj e ▸ h) (fun _ _ e => nos e) (fun _ _ e => nos e) (fun _ _ e => nos e) (fun _ _ e => nos e) (fun _ _ e => nos e) (fun _ _ e => nos e) (fun _ _ e => nos e) (fun _ _ e => nos e)
theorem tup?_s {i : List Val} : x.tup? = some i -> x = .tup i :=
 Val.casesOn (motive_1:=fun x => x.tup? = some i -> x = .tup i) x (fun e => nos e) (fun _ e => nos e) (fun _ e => nos e) (fun _ e => nos e) (fun _ e => Option.some.inj e ▸ rfl) (fun _ e => nos e) (fun _ e => nos e) (fun _ e => nos e) (fun _ e => nos e) (fun _ e => nos e) (fun _ e => nos e) (fun _ e => nos e)
theorem ref?_s {i : Nat} : x.ref? = some i -> x = .ref i :=
 Val.casesOn (motive_1:=fun x => x.ref? = some i -> x = .ref i) x (fun e => nos e) (fun _ e => nos e) (fun _ e => nos e) (fun _ e => nos e) (fun _ e => nos e) (fun _ e => Option.some.inj e ▸ rfl) (fun _ e => nos e) (fun _ e => nos e) (fun _ e => nos e) (fun _ e => nos e) (fun _ e => nos e) (fun _ e => nos e)
theorem top?_s {i : Nat} : x.top? = some i -> x = .top i :=
 Val.casesOn (motive_1:=fun x => x.top? = some i -> x = .top i) x (fun e => nos e) (fun _ e => nos e) (fun _ e => nos e) (fun _ e => nos e) (fun _ e => nos e) (fun _ e => nos e) (fun _ e => Option.some.inj e ▸ rfl) (fun _ e => nos e) (fun _ e => nos e) (fun _ e => nos e) (fun _ e => nos e) (fun _ e => nos e)
theorem ty?_s {i : Nat} : x.ty? = some i -> x = .ty i :=
 Val.casesOn (motive_1:=fun x => x.ty? = some i -> x = .ty i) x (fun e => nos e) (fun _ e => nos e) (fun _ e => nos e) (fun _ e => nos e) (fun _ e => nos e) (fun _ e => nos e) (fun _ e => nos e) (fun _ e => Option.some.inj e ▸ rfl) (fun _ e => nos e) (fun _ e => nos e) (fun _ e => nos e) (fun _ e => nos e)
theorem bi?_s {i : Nat} : x.bi? = some i -> x = .bi i :=
 Val.casesOn (motive_1:=fun x => x.bi? = some i -> x = .bi i) x (fun e => nos e) (fun _ e => nos e) (fun _ e => nos e) (fun _ e => nos e) (fun _ e => nos e) (fun _ e => nos e) (fun _ e => nos e) (fun _ e => nos e) (fun _ e => Option.some.inj e ▸ rfl) (fun _ e => nos e) (fun _ e => nos e) (fun _ e => nos e)
theorem fl?_s {i : List Val} : x.fl? = some i -> x = .fl i :=
 Val.casesOn (motive_1:=fun x => x.fl? = some i -> x = .fl i) x (fun e => nos e) (fun _ e => nos e) (fun _ e => nos e) (fun _ e => nos e) (fun _ e => nos e) (fun _ e => nos e) (fun _ e => nos e) (fun _ e => nos e) (fun _ e => nos e) (fun _ e => nos e) (fun _ e => Option.some.inj e ▸ rfl) (fun _ e => nos e)
theorem bool?_s {i : Bool} : x.bool? = some i -> x = .bool i :=
 Val.casesOn (motive_1:=fun x => x.bool? = some i -> x = .bool i) x (fun e => nos e) (fun _ e => Option.some.inj e ▸ rfl) (fun _ e => nos e) (fun _ e => nos e) (fun _ e => nos e) (fun _ e => nos e) (fun _ e => nos e) (fun _ e => nos e) (fun _ e => nos e) (fun _ e => nos e) (fun _ e => nos e) (fun _ e => nos e)
theorem rng?_s {i : Int} : x.rng? = some i -> x = .rng i :=
 Val.casesOn (motive_1:=fun x => x.rng? = some i -> x = .rng i) x (fun e => nos e) (fun _ e => nos e) (fun _ e => nos e) (fun _ e => nos e) (fun _ e => nos e) (fun _ e => nos e) (fun _ e => nos e) (fun _ e => nos e) (fun _ e => nos e) (fun _ e => Option.some.inj e ▸ rfl) (fun _ e => nos e) (fun _ e => nos e)
theorem isNone_s : x.isNone = true -> x = .none :=
 Val.casesOn (motive_1:=fun x => x.isNone = true -> x = .none) x (fun _ => rfl) (fun _ => nofun) (fun _ => nofun) (fun _ => nofun) (fun _ => nofun) (fun _ => nofun) (fun _ => nofun) (fun _ => nofun) (fun _ => nofun) (fun _ => nofun) (fun _ => nofun) (fun _ => nofun)
theorem list?_s {o : MObj} {i : List Val} : o.list? = some i -> o = .list i :=
 MObj.casesOn (motive:=fun o => o.list? = some i -> o = .list i) o (fun _ e => Option.some.inj e ▸ rfl) (fun _ _ e => nos e) (fun _ _ e => nos e)
theorem dict?_s {o : MObj} {i : Option Nat × List (Val × Val)} : o.dict? = some i -> o = .dict i.1 i.2 :=
 MObj.casesOn (motive:=fun o => o.dict? = some i -> o = .dict i.1 i.2) o (fun _ e => nos e) (fun _ _ e => Option.some.inj e ▸ rfl) (fun _ _ e => nos e)
theorem inst?_s {o : MObj} {i : Nat × List (Nat × Val)} : o.inst? = some i -> o = .inst i.1 i.2 :=
 MObj.casesOn (motive:=fun o => o.inst? = some i -> o = .inst i.1 i.2) o (fun _ e => nos e) (fun _ _ e => nos e) (fun _ _ e => Option.some.inj e ▸ rfl)
end
inductive FldO (n : Nat) (P : Value -> Prop) (R : List DictEntry -> Prop) (es : List DictEntry) : Prop
 | mk (x : Str) (t : Tok) (hsh : Int) (v : Value) (r : List DictEntry) (e : es = ⟨hsh,.str x t,v⟩ :: r) (nm : zae x = true) (en : enc x = n) (h : P v) (t : R r) : FldO n P R es
noncomputable def FRel (C : Cfg) (w : Wd) : List (Nat × Val) -> List DictEntry -> Prop
 | [] => fun es => es = []
 | p :: fs => fun es => FldO p.1 (VRel C w p.2) (FRel C w fs) es
theorem FRel.mono {C : Cfg} {w w' : Wd} (l : w.le w') : ∀ {fs : List (Nat × Val)} {es : List DictEntry},FRel C w fs es -> FRel C w' fs es := by
 intro fs
 induction fs with
 | nil => exact fun h => h
 | cons p fs ih =>
  exact fun h => FldO.casesOn h fun x t hsh v r e h1 h2 h3 h4 => ⟨x,t,hsh,v,r,e,h1,h2,h3.mono l,ih h4⟩
set_option genInjectivity true in
inductive Atom where
 | i (n : Int)
 | s (x : Str)
 deriving DecidableEq
noncomputable def Atom.val (a : Atom) : Val := Atom.casesOn (motive:=fun _ => Val) a .int (fun x => .str x.cps.toList)
noncomputable def Atom.is (a : Atom) (v : Value) : Bool := Atom.casesOn (motive:=fun _ => Bool) a (fun n => Value.isInt n v) (fun x => Value.isStrOf x v)
noncomputable def Atom.hash (w : World) (a : Atom) : Int := Atom.casesOn (motive:=fun _ => Int) a hashInt (fun x => hashStr w x)
theorem Atom.inj (v : Value) (a b : Atom) (ha : a.is v = true) (hb : b.is v = true) : a = b := by
 cases a with
 | i n =>
  cases b with
  | i k => rw [Value.isInt_inj v _ _ ha hb]
  | s y => obtain ⟨t,rfl⟩ := Value.isInt_shape ha; cases hb
 | s x =>
  cases b with
  | i k => obtain ⟨t,rfl⟩ := Value.isInt_shape hb; cases ha
  | s y => rw [Value.isStrOf_inj v _ _ ha hb]
theorem Atom.byValue (k : Atom) (v : Value) (h : k.is v = true) : carriedByValue v = true := by
 cases k with
 | i n => obtain ⟨t,rfl⟩ := Value.isInt_shape h; rfl
 | s x => obtain ⟨t,rfl⟩ := Value.isStrOf_shape h; rfl
theorem Atom.pyHash {prog : Program} {w : World} {A : Around} {E : Value -> Shared -> Prop} {s : Shared} {k : Atom} {v : Value} {Q : Int -> Shared -> Prop} (hv : k.is v = true) (h : Q (k.hash w) { s with toks := s.toks + 1 }) : wpAny (model prog w) A (PySem.pyHash v) Q E s := by
 cases k with
 | i n => obtain ⟨t,rfl⟩ := Value.isInt_shape hv; exact wpAny_pyHash_int h
 | s x => obtain ⟨t,rfl⟩ := Value.isStrOf_shape hv; exact wpAny_pyHash_str h
theorem Atom.eqBool {prog : Program} {w : World} {A : Around} {E : Value -> Shared -> Prop} {s : Shared} {a b : Atom} {u v : Value} {Q : Bool -> Shared -> Prop} (hu : a.is u = true) (hv : b.is v = true) (h : Q (decide (a = b)) s) : wpAny (model prog w) A (PySem.eqBool u v) Q E s := by
 cases a with
 | i n =>
  obtain ⟨t,rfl⟩ := Value.isInt_shape hu
  cases b with
  | i k =>
   obtain ⟨u,rfl⟩ := Value.isInt_shape hv
   refine wpAny_eqBool_int ?_
   simp only [Atom.i.injEq] at h
   first | exact h | (simp only [beq_eq_decide]; exact h)
  | s y =>
   obtain ⟨u,rfl⟩ := Value.isStrOf_shape hv
   exact SeqAt.EqAt.int_str _ _ _ _ _ _ _ _ (by simpa using h)
 | s x =>
  obtain ⟨t,rfl⟩ := Value.isStrOf_shape hu
  cases b with
  | i k =>
   obtain ⟨u,rfl⟩ := Value.isInt_shape hv
   exact SeqAt.EqAt.str_int _ _ _ _ _ _ _ _ (by simpa using h)
  | s y =>
   obtain ⟨u,rfl⟩ := Value.isStrOf_shape hv
   exact wpAny_eqBool_str (by simpa using h)
theorem Atom.strKeys (k : Atom) (x : Str) (t : Tok) (v : Value) (h : k.is (.str x t) = true) : k.is v = v.isStr x := by
 cases k with
 | i n => cases h
 | s y =>
  have h' : (x == y) = true := h
  rw [beq_iff_eq] at h'
  subst h'
  cases v <;> rfl
noncomputable def zaw (prog : Program) (w : World) : KeyKind prog w Atom :=
 ⟨Atom.is,Atom.hash w,Atom.inj,Atom.byValue,Atom.pyHash,Atom.eqBool,Atom.strKeys⟩
noncomputable def Atom.ok (a : Atom) : Prop := Atom.casesOn (motive:=fun _ => Prop) a (fun _ => True) (fun x => sOk x.cps.toList)
structure DA (C : Cfg) (w : Wd) (mes : List (Val × Val)) (es : List DictEntry) (kvs : List (Atom × Value)) : Prop where
 p : Pairs (zaw C.prog C.w) es kvs
 k : KeysOf (zaw C.prog C.w) es.toArray
 n : (kvs.map (·.1)).Nodup
 e : mes.map (·.1) = kvs.map (fun p => p.1.val)
 ok : ∀ p ∈ kvs,p.1.ok
 r : zaa C w (mes.map (·.2)) (kvs.map (·.2))
structure DT (C : Cfg) (w : Wd) (mes : List (Val × Val)) (es : List DictEntry) (xs : List (List Atom × Addr × Value)) : Prop where
 es : es = xs.map (entryOfKey (tupleKind (zaw C.prog C.w)))
 n : (xs.map (·.1)).Nodup
 v : ∀ x ∈ xs,VRel C w (.tup (x.1.map Atom.val)) (.ref x.2.1)
 e : mes.map (·.1) = xs.map (fun x => Val.tup (x.1.map Atom.val))
 r : zaa C w (mes.map (·.2)) (xs.map (·.2.2))
noncomputable def DRel (C : Cfg) (w : Wd) (mes : List (Val × Val)) (es : List DictEntry) : Prop := (∃ kvs,DA C w mes es kvs) \/ ∃ xs,DT C w mes es xs
theorem DRel.mono {C : Cfg} {w w' : Wd} (l : w.le w') {mes : List (Val × Val)} {es : List DictEntry} (h : DRel C w mes es) : DRel C w' mes es :=
 h.imp (fun ⟨kvs,D⟩ => ⟨kvs,D.p,D.k,D.n,D.e,D.ok,D.r.mono l⟩) fun ⟨xs,D⟩ => ⟨xs,D.es,D.n,fun x hx => (D.v x hx).mono l,D.e,D.r.mono l⟩
inductive LstO (C : Cfg) (w : Wd) (a : Addr) (mvs : List Val) (en : Led) : Prop
 | mk (vs : List Value) (n : Nat) (e : en = [(a,listOf vs.toArray n)]) (r : zaa C w mvs vs) (l : mvs.length <= lim) : LstO C w a mvs en
inductive DctO (C : Cfg) (w : Wd) (a : Addr) (ep : Option Nat) (mes : List (Val × Val)) (en : Led) : Prop
 | mk (es : List DictEntry) (n : Nat) (e : en = [(a,dictOf es n)]) (hep : ∀ e,ep = some e -> n = e) (d : DRel C w mes es) (l : mes.length <= lim) : DctO C w a ep mes en
inductive InsO (C : Cfg) (w : Wd) (a : Addr) (id : Nat) (fs : List (Nat × Val)) (en : Led) : Prop
 | mk (c dx : Addr) (es : List DictEntry) (n : Nat) (e : en = [(a,instObj c dx),(dx,dictOf es n)]) (hc : C.ad.lookup id = some c) (f : FRel C w fs es) (l : fs.length <= 500) : InsO C w a id fs en
noncomputable def ORel (C : Cfg) (w : Wd) (a : Addr) (o : MObj) : Led -> Prop := MObj.casesOn (motive:=fun _ => Led -> Prop) o
 (LstO C w a) (DctO C w a) (InsO C w a)
theorem ORel.mono {C : Cfg} {w w' : Wd} (l : w.le w') {a : Addr} {o : MObj} {en : Led} : ORel C w a o en -> ORel C w' a o en :=
 MObj.casesOn (motive:=fun o => ORel C w a o en -> ORel C w' a o en) o
  (fun _ h => LstO.casesOn h fun vs n e h k => .mk vs n e (h.mono l) k) (fun _ _ h => DctO.casesOn h fun es n e h h' k => .mk es n e h (h'.mono l) k) (fun _ _ h => InsO.casesOn h fun c dx es n e h h' k => .mk c dx es n e h (h'.mono l) k)
inductive EntO (P : MObj -> Led -> Prop) (R : MH -> List Led -> Prop) (H : MH) (os : List Led) : Prop
 | mk (o : MObj) (H' : MH) (en : Led) (os' : List Led) (e1 : H = o :: H') (e2 : os = en :: os') (h : P o en) (t : R H' os') : EntO P R H os
noncomputable def Ents (C : Cfg) (w : Wd) : List Addr -> MH -> List Led -> Prop
 | [] => fun H os => H = [] /\ os = []
 | a :: as => EntO (ORel C w a) (Ents C w as)
theorem Ents.mono {C : Cfg} {w w' : Wd} (l : w.le w') : ∀ {as : List Addr} {H : MH} {os : List Led},Ents C w as H os -> Ents C w' as H os := by
 intro as
 induction as with
 | nil => exact fun h => h
 | cons a as ih =>
  exact fun h => EntO.casesOn h fun o H' en os' e1 e2 h r => ⟨o,H',en,os',e1,e2,h.mono l,ih r⟩
theorem Ents.snoc {C : Cfg} {w : Wd} {a : Addr} {o : MObj} {en : Led} (h' : ORel C w a o en) : ∀ {as : List Addr} {H : MH} {os : List Led},Ents C w as H os -> Ents C w (as ++ [a]) (H ++ [o]) (os ++ [en]) := by
 intro as
 induction as with
 | nil =>
  exact fun h => ⟨o,[],en,[],congrArg (· ++ [o]) h.1,congrArg (· ++ [en]) h.2,h',rfl,rfl⟩
 | cons b as ih =>
  exact fun h => EntO.casesOn h fun o1 H' en1 os' e1 e2 h r => ⟨o1,H' ++ [o],en1,os' ++ [en],congrArg (· ++ [o]) e1,congrArg (· ++ [en]) e2,h,ih r⟩
theorem Ents.length {C : Cfg} {w : Wd} : ∀ {as : List Addr} {H : MH} {os : List Led},Ents C w as H os -> as.length = H.length := by
 intro as
 induction as with
 | nil => exact fun h => congrArg List.length h.1.symm
 | cons b as ih => exact fun h => EntO.casesOn h fun o1 H' en1 os' e1 _ _ r => (congrArg Nat.succ (ih r)).trans (congrArg List.length e1.symm)
inductive EntAt (C : Cfg) (w : Wd) (as : List Addr) (i : Nat) (a : Addr) (o : MObj) (H : MH) (os : List Led) : Prop
 | mk (pre : List Led) (en : Led) (post : List Led) (e : os = pre ++ en :: post) (r : ORel C w a o en) (g : ∀ o' en',ORel C w a o' en' -> Ents C w as (H.set i o') (pre ++ en' :: post)) : EntAt C w as i a o H os
theorem Ents.at {C : Cfg} {w : Wd} {a : Addr} {o : MObj} : ∀ {as : List Addr} {i : Nat} {H : MH} {os : List Led},Ents C w as H os -> as[i]? = some a -> H[i]? = some o ->
  EntAt C w as i a o H os := by
 intro as
 induction as with
 | nil => exact fun _ e => nos e
 | cons b as ih =>
  intro i H os h ha ho
  obtain ⟨o1,H',en1,os',rfl,rfl,h,r⟩ := h
  cases i with
  | zero =>
   cases ha; cases ho
   exact ⟨[],en1,os',rfl,h,fun o' en' h' => ⟨o',H',en',os',rfl,rfl,h',r⟩⟩
  | succ i =>
   obtain ⟨pre,en,post,rfl,hr,k⟩ := ih (i:=i) r ha ho
   exact ⟨en1 :: pre,en,post,rfl,hr,fun o' en' h' => ⟨o1,_,en1,_,rfl,rfl,h,k o' en' h'⟩⟩
structure Kp where
 ce : Led
 ex : Led
 m : Str -> Option Value
noncomputable def Led.nd (l : Led) : Prop := (l.map (·.1)).Nodup
theorem Led.nd.perm {a b : Led} (p : a.Perm b) (h : Led.nd a) : Led.nd b := (p.map fun q : Addr × Obj => q.1).nodup_iff.mp h
noncomputable def Kp.all (k : Kp) (w : Wd) (os : List Led) : Led := os.flatten ++ (w.tp ++ (k.ce ++ k.ex))
inductive OsO (C : Cfg) (h₀ : Heap) (L : Addr) (k : Kp) (w : Wd) (H : MH) (h : Heap) : Prop
 | mk (os : List Led) (he : Ents C w w.σ H os) (hn : News h₀ L h (k.all w os)) (hd : Led.nd (k.all w os)) : OsO C h₀ L k w H h
structure Sta (C : Cfg) (h₀ : Heap) (L : Addr) (k : Kp) (w : Wd) (H : MH) (h : Heap) : Prop where
 fr : Fr h₀ L h k.m
 os : OsO C h₀ L k w H h
 big : 4 <= h₀.objs.size
 lo : ∀ a ∈ w.σ,4 <= a
theorem zbM {d : Addr} {o o' : Obj} {post : Led} : ∀ {pre : Led},Led.nd (pre ++ (d,o) :: post) -> Upd d o o' (pre ++ (d,o) :: post) (pre ++ (d,o') :: post) := by
 intro pre
 induction pre with
 | nil => exact fun h => .head fun p hp e => (List.nodup_cons.mp h).1 (List.mem_map.mpr ⟨p,hp,e⟩)
 | cons q pre ih => exact fun h => .tail (fun e => (List.nodup_cons.mp h).1 (List.mem_map.mpr ⟨(d,o),List.mem_append_right _ (.head _),e.symm⟩)) (ih (List.nodup_cons.mp h).2)
section
variable {C : Cfg} {h₀ : Heap} {L : Addr} {k : Kp} {w : Wd} {H : MH} {h : Heap}
theorem Sta.len (S : Sta C h₀ L k w H h) : w.σ.length = H.length := OsO.casesOn S.os fun _ he _ _ => he.length
inductive SAt (C : Cfg) (h₀ : Heap) (L : Addr) (k : Kp) (w : Wd) (H : MH) (h : Heap) (i : Nat) (a : Addr) (o : MObj) : Prop
 | mk (pre en post : Led) (r : ORel C w a o en) (n : News h₀ L h (pre ++ (en ++ post))) (d : Led.nd (pre ++ (en ++ post)))
   (g : ∀ o' en' h',en'.map (·.1) = en.map (·.1) -> ORel C w a o' en' -> Fr h₀ L h' k.m -> News h₀ L h' (pre ++ (en' ++ post)) -> Sta C h₀ L k w (H.set i o') h') : SAt C h₀ L k w H h i a o
theorem Sta.at (S : Sta C h₀ L k w H h) {i : Nat} {a : Addr} {o : MObj} (ha : w.σ[i]? = some a) (ho : H[i]? = some o) :
  SAt C h₀ L k w H h i a o := by
 obtain ⟨os,he,hn,hd⟩ := S.os
 obtain ⟨pre,en,post,rfl,hr,g⟩ := he.at ha ho
 have e : ∀ en1 : Led,k.all w (pre ++ en1 :: post) = pre.flatten ++ (en1 ++ (post.flatten ++ (w.tp ++ (k.ce ++ k.ex)))) := by
  intro en1; unfold Kp.all; rw [List.flatten_append,List.flatten_cons,List.append_assoc,List.append_assoc]
 rw [e] at hn hd
 refine ⟨pre.flatten,en,_,hr,hn,hd,fun o' en' h' hm hr' F N => ⟨F,⟨pre ++ en' :: post,g o' en' hr',(e en').symm ▸ N,(e en').symm ▸ ?_⟩,S.big,S.lo⟩⟩
 unfold Led.nd at hd ⊢
 rw [List.map_append,List.map_append] at hd ⊢
 rw [hm]; exact hd
theorem zcP (k : Kp) (w : Wd) (a : Addr) (en : Led) (os : List Led) : (en ++ k.all w os).Perm (k.all ⟨w.σ ++ [a],w.tp⟩ (os ++ [en])) := by
 unfold Kp.all
 rw [List.flatten_append,List.flatten_cons,List.flatten_nil,List.append_nil,List.append_assoc]
 exact List.perm_append_comm_assoc _ _ _
theorem perm_tp (k : Kp) (w : Wd) (p : Addr × Obj) (os : List Led) : ([p] ++ k.all w os).Perm (k.all ⟨w.σ,p :: w.tp⟩ os) := (List.perm_middle (a:=p) (l₁:=os.flatten) (l₂:=w.tp ++ (k.ce ++ k.ex))).symm
theorem Sta.loNew (S : Sta C h₀ L k w H h) {a : Addr} (ha : 4 <= a) : ∀ b ∈ w.σ ++ [a],4 <= b := fun b hb => (List.mem_append.mp hb).elim (S.lo b) fun hb => List.mem_singleton.mp hb ▸ ha
theorem Sta.four (S : Sta C h₀ L k w H h) {a : Addr} (ha : h.objs.size <= a) : 4 <= a := Nat.le_trans S.big (Nat.le_trans S.fr.above (Nat.le_trans (Nat.le_of_lt S.fr.ns.lt) ha))
inductive LedO (C : Cfg) (h₀ : Heap) (L : Addr) (k : Kp) (w : Wd) (H : MH) (h : Heap) : Prop
 | mk (all : Led) (n : News h₀ L h all)
  (add : ∀ (a : Addr) (o : MObj) (en : Led) (h' : Heap),ORel C ⟨w.σ ++ [a],w.tp⟩ a o en -> Fr h₀ L h' k.m -> News h₀ L h' (en ++ all) -> Led.nd en -> (∀ p ∈ en,∀ q ∈ all,p.1 ≠ q.1) -> 4 <= a -> Sta C h₀ L k ⟨w.σ ++ [a],w.tp⟩ (H ++ [o]) h')
  (tp : ∀ (a : Addr) (o : Obj) (h' : Heap),Fr h₀ L h' k.m -> News h₀ L h' ((a,o) :: all) -> h.objs.size <= a -> Sta C h₀ L k ⟨w.σ,(a,o) :: w.tp⟩ H h')
  (heap : ∀ h' : Heap,Fr h₀ L h' k.m -> News h₀ L h' all -> Sta C h₀ L k w H h') : LedO C h₀ L k w H h
theorem nd_app {en all : Led} (h : Led.nd en) (h' : Led.nd all) (hf : ∀ p ∈ en,∀ q ∈ all,p.1 ≠ q.1) : Led.nd (en ++ all) := by
 unfold Led.nd
 rw [List.map_append,List.nodup_append]
 refine ⟨h,h',fun x hx y hy => ?_⟩
 obtain ⟨p,hp,rfl⟩ := List.mem_map.mp hx
 obtain ⟨q,hq,rfl⟩ := List.mem_map.mp hy
 exact hf p hp q hq
theorem News.fresh {all en : Led} (hn : News h₀ L h all) (he : ∀ p ∈ en,h.objs.size <= p.1) : ∀ p ∈ en,∀ q ∈ all,p.1 ≠ q.1 :=
 fun p hp q hq e => absurd (Heap.lt_size (hn q hq).1) (Nat.not_lt.mpr (e ▸ he p hp))
theorem zbq (p : Addr × Obj) : Led.nd [p] := List.nodup_cons.mpr ⟨List.not_mem_nil,.nil⟩
theorem Sta.ledger (S : Sta C h₀ L k w H h) : LedO C h₀ L k w H h := by
 obtain ⟨os,he,hn,hd⟩ := S.os
 refine ⟨_,hn,fun a o en h' hr F N hen hf h4 => ⟨F,⟨os ++ [en],Ents.snoc hr (Ents.mono (w:=w) (w' := ⟨w.σ ++ [a],w.tp⟩) ⟨List.prefix_append _ _,fun _ x => x⟩ he),fun p hp => N p ((zcP k w a en os).mem_iff.mpr hp),Led.nd.perm (zcP k w a en os) (nd_app hen hd hf)⟩,S.big,S.loNew h4⟩,
  fun a o h' F N ha => ⟨F,⟨os,Ents.mono (w:=w) (w' := ⟨w.σ,(a,o) :: w.tp⟩) ⟨List.prefix_refl _,fun _ x => .tail _ x⟩ he,fun p hp => N p ((perm_tp k w (a,o) os).mem_iff.mpr hp),Led.nd.perm (perm_tp k w (a,o) os) (nd_app (zbq _) hd (News.fresh hn fun p hp => List.mem_singleton.mp hp ▸ ha))⟩,S.big,S.lo⟩,
  fun h' F N => ⟨F,⟨os,he,N,hd⟩,S.big,S.lo⟩⟩
theorem Sta.tpAt (S : Sta C h₀ L k w H h) {c : Addr} {o : Obj} (hc : (c,o) ∈ w.tp) : h.get? c = some o := OsO.casesOn S.os fun _ _ hn _ => (hn (c,o) (List.mem_append_right _ (List.mem_append_left _ hc))).1
theorem Sta.ceAt (S : Sta C h₀ L k w H h) {c : Addr} {o : Obj} (hc : (c,o) ∈ k.ce) : h.get? c = some o := OsO.casesOn S.os fun _ _ hn _ => (hn (c,o) (List.mem_append_right _ (List.mem_append_right _ (List.mem_append_left _ hc)))).1
theorem Sta.exAt (S : Sta C h₀ L k w H h) {c : Addr} {o : Obj} (hc : (c,o) ∈ k.ex) : h.get? c = some o := OsO.casesOn S.os fun _ _ hn _ => (hn (c,o) (List.mem_append_right _ (List.mem_append_right _ (List.mem_append_right _ hc)))).1
inductive IsL (C : Cfg) (w : Wd) (h : Heap) (v : Value) (mvs : List Val) : Prop
 | mk (a : Addr) (vs : List Value) (n : Nat) (e : v = .ref a) (g : h.get? a = some (listOf vs.toArray n)) (r : zaa C w mvs vs) (l : mvs.length <= lim) : IsL C w h v mvs
theorem Sta.list (S : Sta C h₀ L k w H h) {x : Val} {v : Value} {mvs : List Val} (hv : VRel C w x v) (ho : zaq H x = some mvs) :
  IsL C w h v mvs := by
 obtain ⟨i,e,h1⟩ := bs ho
 obtain ⟨o,hi,h2⟩ := bs h1
 cases ref?_s e
 cases list?_s h2
 obtain ⟨a,rfl,ha⟩ := hv
 obtain ⟨pre,en,post,⟨vs,n,rfl,r,l⟩,hn,_,_⟩ := S.at ha hi
 exact ⟨a,vs,n,rfl,(hn (a,_) (List.mem_append_right _ (.head _))).1,r,l⟩
end
end Mi
namespace Mi
open PySem PySem.W PySem.Calls PyProof.Rows
structure Actv (C : Cfg) (d e : Nat) where
 A : Around
 h₀ : Heap
 L : Addr
 envF : Env
 below : ∃ A₀ base outer,Below A₀ base outer h₀ /\ A.frames = some (envF :: outer)
 k : C.K.In h₀
 top : ∃ p loose mean mg mb,Top p loose mean mg mb h₀
 frame : envF.frame = some L
 kind : envF.scope.kind = .function
 handled : A.handled = none
 depth : A.depth + 4 * d + 2 + e <= 900
 units : A.units + 20 * d + 190 + 5 * e <= 9900
noncomputable def Actv.toW {C : Cfg} {d e : Nat} (Y : Actv C d e) : Actv C d 0 :=
 { A := Y.A,h₀ := Y.h₀,L := Y.L,envF := Y.envF,below := Y.below,k := Y.k,top := Y.top,frame := Y.frame,kind := Y.kind,handled := Y.handled,depth := Nat.le_trans (Nat.add_le_add_left (Nat.zero_le e) _) Y.depth,units := Nat.le_trans (Nat.add_le_add_left (Nat.zero_le _) _) Y.units }
noncomputable abbrev St {C : Cfg} {d e : Nat} (Y : Actv C d e) (k : Kp) (w : Wd) (H : MH) (s : Shared) : Prop := Sta C Y.h₀ Y.L k w H s.heap
structure Same (s s' : Shared) : Prop where
 g : s'.gens = s.gens
 o : s'.os = s.os
theorem Same.refl (s : Shared) : Same s s := ⟨rfl,rfl⟩
theorem Same.trans {a b c : Shared} (x : Same a b) (y : Same b c) : Same a c := ⟨y.1.trans x.1,y.2.trans x.2⟩
structure Nxt {C : Cfg} {d e : Nat} (Y : Actv C d e) (k : Kp) (w w' : Wd) (H' : MH) (s s' : Shared) : Prop where
 le : w.le w'
 st : St Y k w' H' s'
 same : Same s s'
noncomputable def Brings {α β : Type} {C : Cfg} {d e : Nat} (Y : Actv C d e) (k : Kp) (R : Wd -> β -> α -> Prop) (t : Sem α) (w : Wd) (s : Shared) (r : β) (H' : MH) : Prop :=
 ∀ (Q : α -> Shared -> Prop) (E : Value -> Shared -> Prop),(∀ w' a s',Nxt Y k w w' H' s s' -> R w' r a -> Q a s') -> wpAny C.M Y.A t Q E s
noncomputable def Ref {α β : Type} {C : Cfg} {d e : Nat} (Y : Actv C d e) (k : Kp) (R : Wd -> β -> α -> Prop) (t : Sem α) (w : Wd) (s : Shared) (o : Option (β × MH)) : Prop :=
 ∀ r,o = some r -> Brings Y k R t w s r.1 r.2
section
variable {α β γ δ : Type} {C : Cfg} {d e : Nat} {Y : Actv C d e} {k : Kp} {R : Wd -> β -> α -> Prop} {R' : Wd -> δ -> γ -> Prop} {w : Wd} {s : Shared} {t : Sem α} {o : Option (β × MH)} {H : MH}
theorem Nxt.refl (S : St Y k w H s) : Nxt Y k w w H s s := ⟨.refl w,S,.refl s⟩
theorem Nxt.toks (S : St Y k w H s) (n : Nat) : Nxt Y k w w H s { s with toks := n } := ⟨.refl w,S,rfl,rfl⟩
theorem Nxt.trans {w1 w2 : Wd} {H1 H2 : MH} {s1 s2 : Shared} (a : Nxt Y k w w1 H1 s s1) (b : Nxt Y k w1 w2 H2 s1 s2) : Nxt Y k w w2 H2 s s2 := ⟨a.le.trans b.le,b.st,a.same.trans b.same⟩
theorem Ref.none : Ref Y k R t w s none := fun _ h => nos h
theorem Ref.bind {f : β -> MH -> Option (δ × MH)} {g : α -> Sem γ} (h : Ref Y k R t w s o) (hk : ∀ w' a s' r H1,Nxt Y k w w' H1 s s' -> R w' r a -> Ref Y k R' (g a) w' s' (f r H1)) : Ref Y k R' (t >>= g) w s (bnd o f) := by
 intro r' e Q E hq
 cases o with
 | none => exact nos e
 | some p => exact wpAny_bind (h p rfl _ _ fun w' a s' n1 r1 => hk w' a s' p.1 p.2 n1 r1 r' e Q E fun w2 a2 s2 n2 r2 => hq w2 a2 s2 (n1.trans n2) r2)
theorem Ref.pure' {r : β} {a : α} (S : St Y k w H s) (hr : R w r a) : Ref Y k R (pure a : Sem α) w s (some (r,H)) := by
 intro r' e Q E hq
 cases e
 exact wpAny_pure (hq w a s (.refl S) hr)
theorem Ref.alt {o' : Option (β × MH)} (h : Ref Y k R t w s o) (h' : Ref Y k R t w s o') : Ref Y k R t w s (alt o o') := by
 cases o with
 | none => exact h'
 | some p => exact h
theorem Ref.grd {b : Bool} (h : b = true -> Ref Y k R t w s o) : Ref Y k R t w s (grd b o) := by
 cases b with
 | false => exact .none
 | true => exact h rfl
theorem Ref.opt {x : Option γ} {f : γ -> Option (β × MH)} (h : ∀ a,x = some a -> Ref Y k R t w s (f a)) : Ref Y k R t w s (x.bind f) := by
 cases x with
 | none => exact .none
 | some a => exact h a rfl
theorem Ref.omap {x : Option γ} {f : γ -> β × MH} (h : ∀ a,x = some a -> Ref Y k R t w s (some (f a))) : Ref Y k R t w s (x.map f) := by
 cases x with
 | none => exact .none
 | some a => exact h a rfl
theorem Ref.case {x : Option γ} {f : γ -> Option (β × MH)} (h0 : x = Option.none -> Ref Y k R t w s o) (h : ∀ a,x = some a -> Ref Y k R t w s (f a)) : Ref Y k R t w s (Option.casesOn (motive:=fun _ => Option (β × MH)) x o f) := by
 cases x with
 | none => exact h0 rfl
 | some a => exact h a rfl
theorem Ref.val {r : β} (S : St Y k w H s) (h : ∀ (Q : α -> Shared -> Prop) (E : Value -> Shared -> Prop),(∀ a tk,R w r a -> Q a { s with toks := tk }) -> wpAny C.M Y.A t Q E s) : Ref Y k R t w s (some (r,H)) := by
 intro r' e Q E hq
 cases e
 exact h Q E fun a tk hr => hq w a _ (.toks S tk) hr
theorem Ref.stand {p : Pos} (h : Ref Y k R t w s o) : Ref Y k R (standAt p >>= fun _ => t) w s o := fun r e Q E hq => wpAny_bind (wpAny_standAt (h r e Q E hq))
theorem Ref.hold {vs : List Value} (h : Ref Y k R t w s o) : Ref Y k R (holding vs t) w s o := fun r e Q E hq => wpAny_holding (h r e Q E hq)
end
noncomputable abbrev VR (C : Cfg) : Wd -> Val -> Value -> Prop := fun w m v => VRel C w m v
noncomputable abbrev VRS (C : Cfg) : Wd -> List Val -> List Value -> Prop := fun w m v => zaa C w m v
noncomputable abbrev EqR {α : Type} : Wd -> α -> α -> Prop := fun _ r a => a = r
structure zda (C : Cfg) : Prop where
 adK : ∀ id a,C.ad.lookup id = some a -> ∃ o,C.K.lookup a = some o /\ o.cls ≠ .type "tuple"
 adInj : ∀ i j a,C.ad.lookup i = some a -> C.ad.lookup j = some a -> i = j
 low : ∀ b,b < 4 -> ∃ o,C.K.lookup b = some o
noncomputable def GlR (C : Cfg) (p : Str × Val) (rv : Value) : Prop := (∀ w,VRel C w p.2 rv) /\ (nsIn C.K mainGlobals p.1 = some (some rv) \/ (nsIn C.K mainGlobals p.1 = some none /\ p.1 ≠ "__name__" /\ bootBuiltins p.1 = some rv))
noncomputable def GlOk (C : Cfg) (gl : List (Str × Val)) : Prop := ∀ x v,gl.lookup x = some v -> ∃ rv,GlR C (x,v) rv
noncomputable def fuel0 : Nat := 200000
noncomputable def Cfg.cx (C : Cfg) (d : Nat) : Cx := ⟨C.P,fuel0,zaG C.P fuel0 d⟩
noncomputable def NsO (o : Obj) (m : Str -> Option Value) : Prop := ∃ es ep,o.data = .dict es ep /\ StrKeys es /\ ∀ name,nsFind es name = m name
structure Blk (cx : CC) (env : Env) (L : Addr) (k : Kp) (mE : Str -> Option Value) : Prop where
 kind : env.scope.kind = .function
 gl : env.globals = mainGlobals
 bl : env.builtins = builtinsNs
 sc : env.scope.names = cx.sc
 cells : ∀ x,cx.sc.lookup x = some .cell -> ∃ c o v₀,env.cells.lookup x = some c /\ (c,o) ∈ k.ce /\ o.data = .cell v₀
 loc : (env.locals = L /\ mE = k.m) \/ ∃ o,(env.locals,o) ∈ k.ex /\ NsO o mE
inductive VarO (C : Cfg) (w : Wd) (cx : CC) (env : Env) (ce : Led) (mE : Str -> Option Value) (x : Str) (v : Val) : Prop
 | loc (rv : Value) (k : cx.sc.lookup x = some .local) (e : mE x = some rv) (r : VRel C w v rv) : VarO C w cx env ce mE x v
 | cell (rv : Value) (c : Addr) (o : Obj) (k : cx.sc.lookup x = some .cell) (e : env.cells.lookup x = some c) (m : (c,o) ∈ ce) (h : o.data = .cell (some rv)) (r : VRel C w v rv) : VarO C w cx env ce mE x v
theorem VarO.mono {C : Cfg} {w w' : Wd} (l : w.le w') {cx : CC} {env : Env} {ce : Led} {mE : Str -> Option Value} {x : Str} {v : Val} (h : VarO C w cx env ce mE x v) : VarO C w' cx env ce mE x v :=
 VarO.casesOn h (fun rv a b r => .loc rv a b (r.mono l)) (fun rv c o a b m h r => .cell rv c o a b m h (r.mono l))
noncomputable def FrOk (C : Cfg) (w : Wd) (cx : CC) (env : Env) (ce : Led) (mE : Str -> Option Value) (fr : Frame) : Prop :=
 ∀ x i v,zaU cx x = some i -> fr[i]? = some (some v) -> VarO C w cx env ce mE x v
structure Pl {C : Cfg} {d e : Nat} (Y : Actv C d e) (cx : CC) (env : Env) (k : Kp) (mE : Str -> Option Value) (fr : Frame) (w : Wd) (H : MH) (s : Shared) : Prop where
 b : Blk cx env Y.L k mE
 f : FrOk C w cx env k.ce mE fr
 st : St Y k w H s
theorem Pl.next {C : Cfg} {d e : Nat} {Y : Actv C d e} {cx : CC} {env : Env} {k : Kp} {mE : Str -> Option Value} {fr : Frame} {w w' : Wd} {H H' : MH} {s s' : Shared} (p : Pl Y cx env k mE fr w H s) (n : Nxt Y k w w' H' s s') : Pl Y cx env k mE fr w' H' s' :=
 ⟨p.b,fun x i v a b => (p.f x i v a b).mono n.le,n.st⟩
noncomputable def ESnd (C : Cfg) (d : Nat) (cx : CC) (e : Expr) (ir : Ex) : Prop :=
 ∀ (Y : Actv C d 2) (env : Env) (k : Kp) (mE : Str -> Option Value) (fr : Frame) (w : Wd) (H : MH) (s : Shared),Pl Y cx env k mE fr w H s -> Ref Y k (VR C) (PySem.eval e env) w s (eval (C.cx d) ir fr H)
noncomputable def TSnd (C : Cfg) (d : Nat) (cx : CC) (e : Expr) (ir : Ex) : Prop :=
 ∀ (Y : Actv C d 2) (env : Env) (k : Kp) (mE : Str -> Option Value) (fr : Frame) (w : Wd) (H : MH) (s : Shared),Pl Y cx env k mE fr w H s -> Ref Y k EqR (PySem.isTrue e env (PySem.eval e env)) w s (zas (eval (C.cx d) ir fr H))
section
variable {C : Cfg} {d e : Nat} {Y : Actv C d e} {k : Kp} {w : Wd} {H : MH} {s : Shared} {cx : CC} {env : Env} {mE : Str -> Option Value} {fr : Frame}
theorem Sta.kIn {h : Heap} (S : Sta C Y.h₀ Y.L k w H h) : C.K.In h := Y.k.keeps S.fr.keep
theorem Blk.ns (B : Blk cx env Y.L k mE) (S : St Y k w H s) : s.heap.Ns env.locals mE := by
 rcases B.loc with h | ⟨o,ho,es,ep,h⟩
 ·rw [h.1,h.2]; exact S.fr.ns
 ·exact ⟨o,es,ep,S.exAt ho,h⟩
theorem sOkB_s {x : List Nat} (h : sOkB x = true) : sOk x := by
 have h := Bool.and_eq_true_iff.mp h
 exact ⟨fun c hc => Nat.ble_eq.mp (List.all_eq_true.mp h.1 c hc),Nat.ble_eq.mp h.2⟩
theorem snd_const {c : Const} {n : Nat} {pos : Pos} {v : Val} (hc : constV c = some v) : ESnd C d cx (.Constant c n pos) (.lit v) := by
 intro Y env k mE fr w H s p
 refine .val p.st fun Q E q => ?_
 cases c with
 | none => cases hc; exact wpAny_pure (q _ s.toks rfl)
 | bool b => cases hc; exact wpAny_pure (q _ s.toks rfl)
 | int i => cases hc; exact fun _ _ _ => q _ _ ⟨_,rfl⟩
 | str x =>
  obtain ⟨h,e⟩ := gs hc
  cases e
  exact fun _ _ _ => q _ _ ⟨_,by rw [Array.toArray_toList],sOkB_s h⟩
 | _ => exact nos hc
theorem zbO {x : Str} (h : zae x = true) : (x == ("__debug__" : Str)) = false := by
 have h1 := (Bool.and_eq_true_iff.mp (Bool.and_eq_true_iff.mp (Bool.and_eq_true_iff.mp (Bool.and_eq_true_iff.mp h).1).1).1).2
 cases hx : (x == ("__debug__" : Str)) with
 | false => rfl
 | true => rw [show (x != ("__debug__" : Str)) = !(x == ("__debug__" : Str)) from rfl,hx] at h1; cases h1
theorem Blk.kindOf (B : Blk cx env Y.L k mE) {x : Str} {n : NameKind} (h : cx.sc.lookup x = some n) : env.kindOf x = some n := by unfold Env.kindOf; rw [B.sc]; exact h
theorem snd_var {x : Str} {pos : Pos} {i : Nat} (hx : zae x = true) (hi : zaU cx x = some i) : ESnd C d cx (.Name x pos) (.var i) := by
 intro Y env k mE fr w H s p
 refine .opt fun ov ho => .omap fun v hv => .val p.st fun Q E q => wpAny_Name ?_ (zbO hx)
 subst hv
 cases p.f x i v hi ho with
 | loc rv hk e r => exact wpAny_loadName_local p.b.kind (p.b.kindOf hk) (p.b.ns p.st) e (q rv s.toks r)
 | cell rv c o hk e m h r => exact wpAny_loadName_cell p.b.kind (p.b.kindOf hk) e ⟨o,p.st.ceAt m,h⟩ (q rv s.toks r)
theorem snd_glob (G : GlOk C cx.gl) {x : Str} {pos : Pos} {v : Val} (hx : zae x = true) (hk : cx.sc.lookup x = some .globalImplicit) (hg : cx.gl.lookup x = some v) : ESnd C d cx (.Name x pos) (.lit v) := by
 intro Y env k mE fr w H s p
 refine .val p.st fun Q E q => ?_
 obtain ⟨rv,hr,hn⟩ := G x v hg
 obtain ⟨_,_,_,mg,mb,T⟩ := Y.top
 have q := q rv s.toks (hr w)
 refine Name_function_global p.b.kind (p.b.kindOf hk) ?_ (zbO hx)
 have tg := T.g.keeps p.st.fr.keep
 rw [<- p.b.gl] at tg
 rcases hn with hn | ⟨hn,hne,hb⟩
 ·exact loadGlobal_global tg (mg_of Y.k T.g hn) q
 ·have tb := T.b.keeps p.st.fr.keep
  rw [<- p.b.bl] at tb
  exact loadGlobal_builtin tg (mg_none_of Y.k T.g hn) tb ((T.builtins x hne).trans hb) q
theorem snd_name {x : Str} {pos : Pos} {ir : Ex} (G : GlOk C cx.gl) (hc : nameE cx x = some ir) : ESnd C d cx (.Name x pos) ir := by
 obtain ⟨hx,hc⟩ := gs hc
 cases hv : zaU cx x with
 | none =>
  rw [hv] at hc
  obtain ⟨hk,hc⟩ := gs hc
  obtain ⟨v,hv,rfl⟩ := ms hc
  exact snd_glob G hx (beq_iff_eq.mp hk) hv
 | some i =>
  rw [hv] at hc
  cases hc
  exact snd_var hx hv
theorem wp_operate {M : Model} {A : Around} {operands : List Value} {t : Sem Value} {Q : Value -> Shared -> Prop} {E : Value -> Shared -> Prop} (h : wpAny M A t Q E s) : wpAny M A (operate operands t) Q E s := by
 unfold operate
 exact wpAny_bind (wpAny_holding (wpAny_mono h (fun r s' q => wpAny_bind (wpAny_release (wpAny_pure q))) fun _ _ x => x))
theorem Ref.operate {operands : List Value} {t : Sem Value} {o : Option (Val × MH)} (h : Ref Y k (VR C) t w s o) : Ref Y k (VR C) (operate operands t) w s o := fun r e Q E hq => wp_operate (h r e Q E hq)
end
end Mi
namespace Mi
open PySem PySem.W PySem.Calls PyProof.Rows
section
variable {C : Cfg} {d e : Nat} {Y : Actv C d e} {k : Kp} {w : Wd} {H : MH} {s : Shared} {cx : CC} {env : Env} {mE : Str -> Option Value} {fr : Frame}
theorem lim_line : lim <= sizeLine := by decide +kernel
theorem zbR {n : Nat} (h : n <= lim) : (n : Int) < 2 ^ 63 := Int.lt_of_le_of_lt (Int.ofNat_le.mpr h) (by decide)
theorem Ref.newL {t : Sem Value} {mvs : List Val} {vs : List Value} (S : St Y k w H s) (r : zaa C w mvs vs) (hl : mvs.length <= lim)
  (h : ∀ (Q : Value -> Shared -> Prop) (E : Value -> Shared -> Prop) all,News Y.h₀ Y.L s.heap all -> (∀ h' tk,Fr Y.h₀ Y.L h' k.m -> News Y.h₀ Y.L h' ((s.heap.objs.size,listOf vs.toArray 0) :: all) -> Q (.ref s.heap.objs.size) { s with heap := h',toks := tk }) -> wpAny C.M Y.A t Q E s) :
  Ref Y k (VR C) t w s (zbz H (.list mvs)) := by
 intro r' er Q E hq
 cases er
 obtain ⟨all,hn,add,_,_⟩ := S.ledger
 have le : w.le ⟨w.σ ++ [s.heap.objs.size],w.tp⟩ := ⟨List.prefix_append _ _,fun _ x => x⟩
 exact h Q E all hn fun h' tk F N => hq _ _ _ ⟨le,add _ (.list mvs) [_] h' ⟨vs,0,rfl,r.mono le,hl⟩ F N (zbq _) (News.fresh hn fun p hp => List.mem_singleton.mp hp ▸ Nat.le_refl _) (S.four (Nat.le_refl _)),rfl,rfl⟩ ⟨_,rfl,by rw [<- S.len]; exact List.getElem?_concat_length⟩
theorem rep_rel {mvs : List Val} {vs : List Value} (r : zaa C w mvs vs) (n : Nat) : zaa C w (List.replicate n mvs).flatten (List.replicate n vs).flatten := by
 induction n with
 | zero => exact .nil
 | succ n ih => exact ih.append r
theorem rep_arr {α : Type} (vs : List α) (k : Nat) : ∀ acc : Array α,(List.foldl (fun x1 x2 => x1 ++ x2) acc (List.replicate k vs.toArray)) = acc ++ (List.replicate k vs).flatten.toArray := by
 induction k with
 | zero => intro acc; exact (Array.append_empty).symm
 | succ k ih =>
  intro acc
  refine (ih _).trans ?_
  simp only [List.replicate_succ,List.flatten_cons,Array.append_assoc,List.append_toArray]
theorem rep_nil {α : Type} (n : Nat) (vs : List α) : (List.replicate (if vs.toArray.isEmpty = true then 0 else n) vs).flatten = (List.replicate n vs).flatten := by
 cases vs with
 | nil => simp
 | cons v r => rfl
theorem mem_rep {n : Nat} {s : List Nat} {c : Nat} (h : c ∈ (List.replicate n s).flatten) : c ∈ s := by
 obtain ⟨l,hl,hc⟩ := List.mem_flatten.mp h
 exact (List.mem_replicate.mp hl).2 ▸ hc
theorem len_rep {α : Type} {n : Nat} {s : List α} : (List.replicate n s).flatten.length = s.length * n := by rw [List.length_flatten,List.map_replicate,List.sum_replicate_nat,Nat.mul_comm]
theorem str_app (a b : List Nat) : ((⟨a.toArray⟩ : Str) ++ (⟨b.toArray⟩ : Str)) = ⟨(a ++ b).toArray⟩ := congrArg Str.mk (List.append_toArray a b)
theorem snd_add {x y : Val} {a b : Value} (S : St Y k w H s) (ha : VRel C w x a) (hb : VRel C w y b) : Ref Y k (VR C) (binaryOp .Add a b) w s (addOp H x y) := by
 refine .alt (.opt fun i hi => .opt fun j hj => ?_) (.alt (.opt fun i hi => .opt fun j hj => .grd fun hl => ?_) (.opt fun i hi => .opt fun j hj => .grd fun hl => ?_))
 ·obtain ⟨t,rfl⟩ := ha.int? hi
  obtain ⟨u,rfl⟩ := hb.int? hj
  exact .val S fun Q E q => add_int (q _ _ ⟨_,rfl⟩)
 ·obtain ⟨t,rfl,oa⟩ := ha.str? hi
  obtain ⟨u,rfl,ob⟩ := hb.str? hj
  have hl := Nat.ble_eq.mp hl
  exact .val S fun Q E q => add_str (fun t' tk => q _ tk ⟨t',congrArg (Value.str · t') (str_app i j),fun c hc => (List.mem_append.mp hc).elim (oa.1 c) (ob.1 c),by rw [List.length_append]; exact hl⟩) (Nat.le_trans hl lim_line)
 ·obtain ⟨a1,vs,n,rfl,g1,r1,l1⟩ := S.list ha hi
  obtain ⟨a2,ws,n2,rfl,g2,r2,l2⟩ := S.list hb hj
  have hl := Nat.ble_eq.mp hl
  refine .newL S (r2.append r1) (by rw [List.length_append]; exact hl) fun Q E all hn q => add_arrays S.fr hn ⟨_,g1,rfl,_,rfl⟩ ⟨_,g2,rfl,_,rfl⟩ (fun h' F N => q h' _ F N) ?_
  rw [List.size_toArray,List.size_toArray,<- r1.length,<- r2.length]
  exact Nat.le_trans hl lim_line
theorem zbJ {a : Int} {b : Nat} (h : a.natAbs < 2 ^ b) : Builtin.Int.intBits a <= b + 1 := by
 unfold Builtin.Int.intBits
 split
 ·exact Nat.zero_le _
 ·rename_i h0
  exact Nat.le_succ_of_le ((Nat.log2_lt fun e => h0 (by rw [Int.natAbs_eq_zero.mp e]; rfl)).mpr h)
theorem mul_ok {a b : Int} (h : mulOk a b = true) : IntMulOk a b := by
 have h := Bool.and_eq_true_iff.mp h
 have h1 := zbJ (Nat.ble_eq.mp h.1)
 have h2 := zbJ (Nat.ble_eq.mp h.2)
 unfold IntMulOk
 rw [Bool.and_eq_true,not_and]
 intro _
 unfold Builtin.Int.intTooBig
 rw [decide_eq_true_eq,show bitsLine = 134217728 by decide +kernel]
 omega
theorem repOk_s {l : Nat} {n : Int} (h : repOk l n = true) : n <= 1000000 /\ -1000000 <= n /\ l * n.toNat <= lim := by
 have h := Bool.and_eq_true_iff.mp h
 have h' := Bool.and_eq_true_iff.mp h.1
 exact ⟨of_decide_eq_true h'.1,of_decide_eq_true h'.2,Nat.ble_eq.mp h.2⟩
theorem mul_rep {x : List Nat} {n : Int} {t u : Tok} (S : St Y k w H s) (oa : sOk x) (hl : repOk x.length n = true) : Ref Y k (VR C) (binaryOp .Mult (.str ⟨x.toArray⟩ t) (.int n u)) w s (some (.str (List.replicate n.toNat x).flatten,H)) := by
 obtain ⟨h1,h2,h3⟩ := repOk_s hl
 refine .val S fun Q E q => ?_
 have q : ∀ t' tk,Q (.str ⟨(List.replicate n.toNat x).flatten.toArray⟩ t') { s with toks := tk } := fun t' tk => q _ tk ⟨t',rfl,fun c hc => oa.1 c (mem_rep hc),by rw [len_rep]; exact h3⟩
 have hx : (x.length : Int) <= 1000000 := Int.ofNat_le.mpr oa.2
 refine P.mul_str (by rw [decide_eq_false (by omega),decide_eq_false (by omega)]; rfl) (fun hn _ => Int.not_lt.mpr (Int.le_trans hx ((Int.le_ediv_iff_mul_le (by omega)).mpr (by omega)))) (fun _ _ => decide_eq_false (Nat.not_lt.mpr (Nat.le_trans h3 lim_line))) ?_
 split
 ·rename_i hn
  rw [show n.toNat = 0 by omega] at q
  exact ⟨by decide,q s.toks _⟩
 ·split
  ·rename_i h1'
   have e1 : (List.replicate n.toNat x).flatten = x := by
    rcases Bool.or_eq_true_iff.mp h1' with h | h
    ·rw [show n = 1 from beq_iff_eq.mp h]; exact List.append_nil x
    ·rw [List.length_eq_zero_iff.mp (show x.length = 0 from beq_iff_eq.mp h)]; simp
   rw [e1] at q
   exact q t s.toks
  ·have e := rep_arr x n.toNat #[]
   rw [Array.empty_append] at e
   rw [<- e] at q
   refine ⟨?_,q s.toks _⟩
   show Array.size _ <= _
   rw [e]
   exact Nat.le_trans (by rw [List.size_toArray,len_rep]; exact h3) lim_line
theorem snd_mul {x y : Val} {a b : Value} (S : St Y k w H s) (ha : VRel C w x a) (hb : VRel C w y b) : Ref Y k (VR C) (binaryOp .Mult a b) w s (mulOp H x y) := by
 refine .alt (.opt fun i hi => .opt fun j hj => .grd fun hl => ?_) (.alt (.opt fun i hi => .opt fun j hj => ?_) (.alt (.opt fun i hi => .opt fun j hj => .grd fun hl => ?_) (.opt fun i hi => .opt fun j hj => .grd fun hl => ?_)))
 ·obtain ⟨t,rfl⟩ := ha.int? hi
  obtain ⟨u,rfl⟩ := hb.int? hj
  exact .val S fun Q E q => mul_int (q _ _ ⟨_,rfl⟩) (mul_ok hl)
 ·obtain ⟨t,rfl⟩ := ha.int? hi
  cases bool?_s hj
  cases hb
  exact .val S fun Q E q => IntBool.mul_int_bool (q _ _ ⟨_,rfl⟩)
 ·obtain ⟨u,rfl⟩ := hb.int? hj
  obtain ⟨a1,vs,n,rfl,g1,r1,l1⟩ := S.list ha hi
  obtain ⟨h1,h2,h3⟩ := repOk_s hl
  refine .newL S (rep_rel r1 j.toNat) (by rw [len_rep]; exact h3) fun Q E all hn q => mul_list S.fr hn g1 (by omega) (by omega) ?_ fun h' F N => q h' _ F ?_
  ·rw [List.size_toArray,<- r1.length]; exact Nat.le_trans h3 (by decide)
  ·have e := rep_arr vs (if vs.toArray.isEmpty = true then 0 else j.toNat) #[]
   rw [Array.empty_append,rep_nil] at e
   rw [<- e]; exact N
 ·obtain ⟨u,rfl⟩ := hb.int? hj
  obtain ⟨t,rfl,oa⟩ := ha.str? hi
  exact mul_rep S oa hl
theorem pylong_no {x y : Int} (h : y.natAbs < divB) : Builtin.divisionGoesByPylong x y = false := by
 unfold Builtin.divisionGoesByPylong
 have : (if (y == 0) = true then 0 else y.natAbs.log2 / 30 + 1) <= 300 := by
  split
  ·omega
  ·rename_i hz
   have := (Nat.log2_lt fun e => hz (by rw [Int.natAbs_eq_zero.mp e]; rfl)).mpr h
   omega
 simp only [Bool.and_eq_false_iff,decide_eq_false_iff_not]
 exact .inl (by omega)
theorem bne_s {b : Int} (h : (b != 0) = true) : ¬ b = 0 := bne_iff_ne.mp h
theorem snd_arith {op : Operator} {o : BOp} (ho : bopOf op = some o) {x y : Int} {t u : Tok} {z : Int} (S : St Y k w H s) (e : arith o x y = some z) : Ref Y k (VR C) (binaryOp op (.int x t) (.int y u)) w s (some (.int z,H)) := by
 refine .val S fun Q E q => ?_
 cases op <;> cases ho
 ·exact nos e
 ·cases e; exact sub_int (q _ _ ⟨_,rfl⟩)
 ·exact nos e
 ·obtain ⟨h,e⟩ := gs e
  cases e; exact mod_int' (bne_s h) (q _ _ ⟨_,rfl⟩)
 ·obtain ⟨h,e⟩ := gs e
  cases e
  have h := Bool.and_eq_true_iff.mp h
  have h' := Bool.and_eq_true_iff.mp h.1
  have h1 := of_decide_eq_true h'.1
  refine pow_int h1 ?_ (q _ _ ⟨_,rfl⟩)
  exact Int.le_trans (Int.mul_le_mul (Int.ofNat_le.mpr (zbJ (Nat.ble_eq.mp h.2))) (of_decide_eq_true h'.2) h1 (by decide)) (by decide)
 ·obtain ⟨h,e⟩ := gs e
  cases e
  have h := Bool.and_eq_true_iff.mp h
  exact floordiv_int (bne_s h.1) (q _ _ ⟨_,rfl⟩) (.inl (pylong_no (Nat.ble_eq.mp h.2)))
theorem snd_binop {op : Operator} {o : BOp} (ho : bopOf op = some o) {x y : Val} {a b : Value} (S : St Y k w H s) (ha : VRel C w x a) (hb : VRel C w y b) : Ref Y k (VR C) (binaryOp op a b) w s (binop o x y H) := by
 refine .alt (.opt fun i hi => .opt fun j hj => .omap fun z hz => ?_) ?_
 ·obtain ⟨t,rfl⟩ := ha.int? hi
  obtain ⟨u,rfl⟩ := hb.int? hj
  exact snd_arith ho S hz
 ·cases op <;> cases ho
  ·exact snd_add S ha hb
  ·exact .none
  ·exact snd_mul S ha hb
  ·exact .none
  ·exact .none
  ·exact .none
theorem snd_bin {l r : Expr} {op : Operator} {pos : Pos} {o : BOp} {il ir : Ex} (ho : bopOf op = some o) (hl : ESnd C d cx l il) (hr : ESnd C d cx r ir) : ESnd C d cx (.BinOp l op r pos) (.bin o il ir) :=
 fun Y env k mE fr w H s p => .bind (hl Y env k mE fr w H s p) fun w1 a1 s1 x H1 n1 r1 => .bind (.hold (hr Y env k mE fr w1 H1 s1 (p.next n1))) fun w2 a2 s2 y H2 n2 r2 => .stand (.operate (snd_binop ho n2.st (r1.mono n2.le) r2))
end
end Mi
namespace Mi
open PySem PySem.W PySem.Calls PyProof.Rows
theorem mapM_s {α β : Type} {f : α -> Option β} {x : α} {l : List α} {r : List β} (h : (x :: l).mapM f = some r) : ∃ y ys,f x = some y /\ l.mapM f = some ys /\ r = y :: ys := by
 rw [List.mapM_cons] at h
 obtain ⟨y,hy,h⟩ := bs h
 obtain ⟨ys,hys,h⟩ := bs h
 exact ⟨y,ys,hy,hys,(Option.some.inj h).symm⟩
inductive RdO (h : Heap) (v : Value) (d : PyData) (k : Nat) : Prop
 | mk (as : List Addr) (r : Reads h v d as) (c : d.canLay0 = true) (l : d.depth <= k) : RdO h v d k
inductive RdsO (h : Heap) (v : List Value) (d : List PyData) (k : Nat) : Prop
 | mk (as : List Addr) (r : ReadsAll h v d as) (c : PyData.canLayAll0 d = true) (l : PyData.depthAll d <= k) : RdsO h v d k
section
variable {C : Cfg} {d e : Nat} {Y : Actv C d e} {k : Kp} {w : Wd} {H : MH} {s : Shared} {cx : CC} {env : Env} {mE : Str -> Option Value} {fr : Frame}
inductive IsT (C : Cfg) (w : Wd) (h : Heap) (v : Value) (mvs : List Val) : Prop
 | mk (a : Addr) (o : Obj) (n : Nat) (vs : List Value) (e : v = .ref a) (g : h.get? a = some o) (c : o.cls = .type "tuple") (dt : o.data = .seq vs.toArray n) (r : zaa C w mvs vs) (l : mvs.length <= lim) : IsT C w h v mvs
theorem Sta.tup {h : Heap} (S : Sta C Y.h₀ Y.L k w H h) {mvs : List Val} {v : Value} (hv : VRel C w (.tup mvs) v) : IsT C w h v mvs :=
 TupO.casesOn hv fun a o n vs e q r l => ⟨a,o,n,vs,e,q.1.elim S.tpAt (S.kIn _ _),q.2,q.3,r,l⟩
theorem zbp {n : Nat} {h : Heap} (ih : ∀ v rv dt,VRel C w v rv -> toD H n v = some dt -> RdO h rv dt n) :
  ∀ {mvs : List Val} {vs : List Value} {ds : List PyData},zaa C w mvs vs -> mvs.mapM (toD H n) = some ds -> RdsO h vs ds n := by
 intro mvs
 induction mvs with
 | nil => intro vs ds h e; cases h; cases e; exact ⟨[],.nil,rfl,Nat.zero_le _⟩
 | cons m mvs ih' =>
  intro vs ds h e
  obtain ⟨y,ys,e1,e2,rfl⟩ := mapM_s e
  obtain ⟨v,r,rfl,h,h'⟩ := h
  obtain ⟨as,r1,c1,d1⟩ := ih _ _ _ h e1
  obtain ⟨bs,r2,c2,d2⟩ := ih' h' e2
  exact ⟨as ++ bs,.cons r1 r2,Bool.and_eq_true_iff.mpr ⟨c1,c2⟩,Nat.max_le.mpr ⟨d1,d2⟩⟩
theorem za6 {h : Heap} (S : Sta C Y.h₀ Y.L k w H h) : ∀ (n : Nat) (v : Val) (rv : Value) (dt : PyData),VRel C w v rv -> toD H n v = some dt -> RdO h rv dt n := by
 have flat : ∀ (n : Nat) (v : Val) (rv : Value) (dt : PyData),VRel C w v rv -> toD H 0 v = some dt -> RdO h rv dt n := by
  intro n v rv dt hv e
  cases v with
  | none => cases e; cases hv; exact ⟨[],.none,rfl,Nat.zero_le _⟩
  | bool b => cases e; cases hv; exact ⟨[],.bool b,rfl,Nat.zero_le _⟩
  | int i => cases e; obtain ⟨t,rfl⟩ := hv; exact ⟨[],.int i t,rfl,Nat.zero_le _⟩
  | str x => cases e; obtain ⟨t,rfl,ok⟩ := hv; exact ⟨[],.str _ t,by simpa [PyData.canLay0,PyData.strOk] using ok.1,Nat.zero_le _⟩
  | _ => exact nos e
 intro n
 induction n with
 | zero => exact flat 0
 | succ n ih =>
  intro v rv dt hv e
  cases v with
  | tup vs =>
   obtain ⟨ds,e1,rfl⟩ := ms e
   obtain ⟨a,o,n',ws,rfl,g,hc,hd,r,_⟩ := S.tup hv
   obtain ⟨as,ra,c1,d1⟩ := zbp ih r e1
   exact ⟨as,.tuple g hc hd ra,c1,Nat.succ_le_succ d1⟩
  | ref i =>
   obtain ⟨vs,hl,e⟩ := bs e
   obtain ⟨ds,e1,rfl⟩ := ms e
   obtain ⟨a,ws,n',rfl,g,r,_⟩ := S.list hv hl
   obtain ⟨as,ra,c1,d1⟩ := zbp ih r e1
   exact ⟨a :: as,.list g rfl rfl ra,c1,Nat.succ_le_succ d1⟩
  | none => exact flat _ _ _ _ hv e
  | bool b => exact flat _ _ _ _ hv e
  | int i => exact flat _ _ _ _ hv e
  | str x => exact flat _ _ _ _ hv e
  | _ => exact nos e
theorem Actv.u (Y : Actv C d e) {n : Nat} (h : n <= 180) : Y.A.units + n < 9900 := Nat.lt_of_lt_of_le (Nat.add_lt_add_left (Nat.lt_of_le_of_lt h (by decide : 180 < 190)) _) (Nat.le_trans (Nat.le_trans (Nat.add_le_add_right (Nat.le_add_right _ (20 * d)) 190) (Nat.le_add_right _ _)) Y.units)
noncomputable def EqW {C : Cfg} {d e : Nat} (Y : Actv C d e) (s : Shared) (vx vy : Value) (r : Bool) : Prop :=
 ∀ (Q : Value -> Shared -> Prop) (E : Value -> Shared -> Prop),(Q (.bool r) s -> wpAny C.M Y.A (compareOp .Eq vx vy) Q E s) /\ (Q (.bool (!r)) s -> wpAny C.M Y.A (compareOp .NotEq vx vy) Q E s)
theorem snd_eqD (S : St Y k w H s) {x y : Val} {vx vy : Value} {r : Bool} (hx : VRel C w x vx) (hy : VRel C w y vy) (e : veqD H x y = some r) : EqW Y s vx vy r := by
 obtain ⟨dx,e1,e⟩ := bs e
 obtain ⟨dy,e2,rfl⟩ := ms e
 obtain ⟨_,r1,c1,d1⟩ := za6 S 8 x vx dx hx e1
 obtain ⟨_,r2,c2,d2⟩ := za6 S 8 y vy dy hy e2
 have hu : Y.A.units + min dx.depth dy.depth < 9900 := Y.u (by omega)
 exact fun Q E => ⟨SeqAt.compareEq_reads r1 r2 c1 c2 hu,SeqAt.compareNe_reads r1 r2 c1 c2 hu⟩
end
noncomputable def Atom.dat (a : Atom) : PyData := Atom.casesOn (motive:=fun _ => PyData) a .int .str
theorem zcH (h : MH) (k : Nat) (a : Atom) : toD h k a.val = some a.dat := by cases a <;> cases k <;> rfl
theorem eqv_atom (a b : Atom) : PyData.eqv a.dat b.dat = decide (a = b) := by
 cases a with
 | i x =>
  cases b with
  | i y => show (x == y) = _; rw [Bool.eq_iff_iff,beq_iff_eq,decide_eq_true_eq,Atom.i.injEq]
  | s y => rfl
 | s x =>
  cases b with
  | i y => rfl
  | s y => show (x == y) = _; rw [Bool.eq_iff_iff,beq_iff_eq,decide_eq_true_eq,Atom.s.injEq]
theorem mapM_atoms (h : MH) (k : Nat) (as : List Atom) : (as.map Atom.val).mapM (toD h k) = some (as.map Atom.dat) := by
 induction as with
 | nil => rfl
 | cons a r ih => rw [List.map_cons,List.mapM_cons,zcH,ih]; rfl
theorem eqvAll_atoms (as : List Atom) : ∀ bs : List Atom,PyData.eqvAll (as.map Atom.dat) (bs.map Atom.dat) = decide (as = bs) := by
 induction as with
 | nil => intro bs; cases bs <;> rfl
 | cons a x ih =>
  intro bs
  cases bs with
  | nil => rfl
  | cons b y =>
   show (PyData.eqv a.dat b.dat && PyData.eqvAll (x.map Atom.dat) (y.map Atom.dat)) = _
   rw [eqv_atom,ih,<- Bool.decide_and,decide_eq_decide,List.cons.injEq]
theorem kEq_atom (a b : Atom) : kEq a.val b.val = decide (a = b) := by
 unfold kEq veqD
 rw [zcH,zcH]
 exact eqv_atom a b
theorem kEq_tup (as bs : List Atom) : kEq (.tup (as.map Atom.val)) (.tup (bs.map Atom.val)) = decide (as = bs) := by
 have e : ∀ l : List Atom,toD [] 8 (.tup (l.map Atom.val)) = some (.tuple (l.map Atom.dat)) := fun l => congrArg (Option.map PyData.tuple) (mapM_atoms [] 7 l)
 unfold kEq veqD
 rw [e,e]
 exact eqvAll_atoms as bs
theorem key_atom {v : Val} (h : zbv v = true) : ∃ a : Atom,v = a.val := by
 cases v with
 | int n => exact ⟨.i n,rfl⟩
 | str x => exact ⟨.s ⟨x.toArray⟩,rfl⟩
 | _ => cases h
theorem zbP (a : Atom) : zaL a.val = 1 := by cases a <;> rfl
theorem key_atoms {vs : List Val} (h : vs.all zbv = true) : ∃ as : List Atom,vs = as.map Atom.val := by
 induction vs with
 | nil => exact ⟨[],rfl⟩
 | cons v r ih =>
  have h := Bool.and_eq_true_iff.mp h
  obtain ⟨a,rfl⟩ := key_atom h.1
  obtain ⟨as,rfl⟩ := ih h.2
  exact ⟨a :: as,rfl⟩
theorem all_atoms (as : List Atom) : (as.map Atom.val).all zbv = true := by
 induction as with
 | nil => rfl
 | cons a r ih => exact Bool.and_eq_true_iff.mpr ⟨by cases a <;> rfl,ih⟩
theorem zbi (as : List Atom) : zaL (.tup (as.map Atom.val)) = 3 := by
 show (bif (as.map Atom.val).all zbv then 3 else 0) = 3
 rw [all_atoms]; rfl
theorem zbu {v : Val} (h : (zaL v != 0) = true) : (∃ a : Atom,v = a.val) \/ ∃ as : List Atom,v = .tup (as.map Atom.val) := by
 unfold zaL at h
 cases ha : zbv v with
 | true => exact .inl (key_atom ha)
 | false =>
  rw [ha] at h
  cases ht : v.tup? with
  | none => rw [ht] at h; cases h
  | some vs =>
   cases tup?_s ht
   cases hal : vs.all zbv with
   | true => obtain ⟨as,rfl⟩ := key_atoms hal; exact .inr ⟨as,rfl⟩
   | false =>
    have h' : ((bif vs.all zbv then 3 else 0 : Nat) != 0) = true := h
    rw [hal] at h'; cases h'
section
variable {prog : Program} {w : World} {Kk : Type} [DecidableEq Kk] {knd : KeyKind prog w Kk} {A : Around} {E : Value -> Shared -> Prop} {s : Shared}
theorem wp_dictSet {d : Addr} {es : List DictEntry} {ep : Nat} {kvs : List (Kk × Value)} {k : Kk} {key v : Value} {Q : Unit -> Shared -> Prop} (hkey : knd.is k key = true) (ho : s.heap.get? d = some (dictOf es ep)) (hk : KeysOf knd es.toArray) (hp : Pairs knd es kvs) (hn : (kvs.map (·.1)).Nodup) (hsz : es.length <= sizeLine)
  (h : ∀ (es' : List DictEntry) (f : Obj -> Obj),f (dictOf es ep) = dictOf es' (if kvs.any (fun kv => kv.1 = k) then ep else ep + 1) -> KeysOf knd es'.toArray -> Pairs knd es' (stored kvs k v) -> ((stored kvs k v).map (·.1)).Nodup ->
   Q () { s with heap := s.heap.update d f,toks := s.toks + 1 }) : wpAny (model prog w) A (dictSet d key v) Q E s := by
 unfold dictSet
 try with_reducible refine wpAny_holding ?_
 refine wpAny_bind (knd.pyHash hkey ?_)
 unfold dictSetHashed
 try with_reducible refine wpAny_holding ?_
 refine wpAny_bind (wpAny_dictFind_of (s:={ s with toks := s.toks + 1 }) hkey ho rfl hk ?_)
 have hidx : (es.toArray.findIdx? fun e => knd.is k e.key) = kvs.findIdx? fun kv => decide (kv.1 = k) := by
  rw [<- hp.findIdx k]; simp
 cases hi : es.toArray.findIdx? fun e => knd.is k e.key with
 | some i =>
  have hany := any_of_findIdx_some (hidx ▸ hi)
  have hl : (es.findIdx? fun e => knd.is k e.key) = some i := by rw [<- hi]; simp
  have hst : stored kvs k v = kvs.map (fun kv => if kv.1 = k then (kv.1,v) else kv) := by rw [stored,if_pos hany]
  refine wpAny_bind (wpAny_rule (wpAny_bind (wpAny_updateDict (s:={ s with toks := s.toks + 1 }) ho rfl (wpAny_point ?_))))
  refine h (es.modify i fun e => { e with val := v }) _ ?_ ?_ ?_ ?_
  ·rw [if_pos hany]; simp [dictOf,Obj.mapDict]
  ·have := hk.modify i v; simpa using this
  ·rw [hst]; exact hp.modify hn hl v
  ·rw [hst,keys_map_store]; exact hn
 | none =>
  have hnot : k ∉ kvs.map (·.1) := not_mem_of_findIdx_none (hidx ▸ hi)
  have hany : ¬ (kvs.any fun kv => decide (kv.1 = k)) = true := by
   rw [List.any_eq_true]; rintro ⟨kv,hkv,he⟩
   exact hnot (List.mem_map.mpr ⟨kv,hkv,of_decide_eq_true he⟩)
  have hst : stored kvs k v = kvs ++ [(k,v)] := by rw [stored,if_neg hany]
  refine wpAny_bind (wpAny_rule (wpAny_updateDictKeys (hz:=by simpa using hsz) (s:={ s with toks := s.toks + 1 }) ho rfl ?_))
  refine h (es ++ [⟨knd.hash k,key,v⟩]) _ ?_ ?_ ?_ ?_
  ·rw [if_neg hany]; simp [dictOf,Obj.mapDictKeys]
  ·have := hk.push hkey v; simpa using this
  ·rw [hst]; exact hp.append hkey (knd.hash k) v
  ·rw [hst,List.map_append,List.nodup_append]
   refine ⟨hn,List.nodup_cons.mpr ⟨List.not_mem_nil,.nil⟩,?_⟩
   intro a ha b hb
   rw [List.mem_singleton.mp hb]
   exact fun e => hnot (show k ∈ _ from (show a = k from e) ▸ ha)
theorem zcE {d : Addr} {key v : Value} {Q : Unit -> Shared -> Prop} (hT : s.TypeIs (.ref d) "dict") (h : wpAny (model prog w) A.in1 (dictSet d key v) Q E s) : wpAny (model prog w) A (setItem (.ref d) key v) Q E s := by
 unfold setItem
 try with_reducible refine wpAny_holding ?_
 refine wpAny_bind (wpAny_sequenceKey hT (by decide) ?_)
 refine wpAny_bind (wpAny_callSpecial?_slot (name:=Str.ofString "__setitem__") hT slot_dict_setitem
  (wpAny_call_entry slot_dict_setitem hT entry_dict_setitem ?_ (args_dict_setitem _ _ _)))
 show wpAny _ _ (Builtin.Dict.notOrdered "__setitem__" ⟨[.ref d,key,v],[]⟩ >>= _) _ _ s
 refine wpAny_bind (wpAny_notOrdered_dict hT ?_)
 show wpAny _ _ (dictSet d key v >>= _) _ _ s
 exact wpAny_bind (wpAny_mono h (fun _ s' q => wpAny_pure ⟨.none,rfl,wpAny_pure q⟩) fun _ _ e => e)
end
section
variable {prog : Program} {w : World} {Kk : Type} [DecidableEq Kk] {knd : HeapKind prog w Kk} {A : Around} {E : Value -> Shared -> Prop} {s : Shared}
theorem wp_dictSetH {d a : Addr} {ep : Nat} {xs : List (Kk × Addr × Value)} {k : Kk} {v : Value} {Q : Unit -> Shared -> Prop} (hu : knd.room A) (hkey : knd.is s.heap k a) (ho : s.heap.get? d = some (dictOf (xs.map (entryOfKey knd)) ep)) (his : ∀ x ∈ xs,knd.is s.heap x.1 x.2.1) (hn : (xs.map (·.1)).Nodup) (hsz : xs.length <= sizeLine)
  (h : ∀ (f : Obj -> Obj),f (dictOf (xs.map (entryOfKey knd)) ep) = dictOf ((storedH xs k a v).map (entryOfKey knd)) (if (atKey xs k).isSome then ep else ep + 1) -> ((storedH xs k a v).map (·.1)).Nodup ->
   Q () { s with heap := s.heap.update d f,toks := s.toks + knd.draws k }) : wpAny (model prog w) A (dictSet d (.ref a) v) Q E s := by
 have he : ((xs.map (entryOfKey knd)).toArray).toList = xs.map (entryOfKey knd) := rfl
 unfold dictSet
 try with_reducible refine wpAny_holding ?_
 refine wpAny_bind (knd.pyHash hu hkey ?_)
 unfold dictSetHashed
 try with_reducible refine wpAny_holding ?_
 refine wpAny_bind (wpAny_dictFind_heap (s:={ s with toks := s.toks + knd.draws k }) hu hkey ho rfl he his hn ?_ ?_)
 ·intro hno
  have hnot : k ∉ xs.map (·.1) := not_mem_keys_of_get hno
  refine wpAny_bind (wpAny_rule (wpAny_updateDictKeys (hz:=by have e := size_of_entries he; omega) (s:={ s with toks := s.toks + knd.draws k }) ho rfl ?_))
  refine h _ ?_ ?_
  ·rw [storedH_new (atKey_none_of_get hno),atKey_none_of_get hno]
   simp [dictOf,Obj.mapDictKeys,entryOfKey]
  ·rw [storedH_new (atKey_none_of_get hno),List.map_append,List.nodup_append]
   refine ⟨hn,List.nodup_cons.mpr ⟨List.not_mem_nil,.nil⟩,?_⟩
   intro x hx y hy
   rw [List.mem_singleton.mp hy]
   exact fun e => hnot (show k ∈ _ from (show x = k from e) ▸ hx)
 ·intro j p hj
  refine wpAny_bind (wpAny_rule (wpAny_bind (wpAny_updateDict (s:={ s with toks := s.toks + knd.draws k }) ho rfl (wpAny_point ?_))))
  refine h _ ?_ ?_
  ·rw [storedH_old (atKey_of_get hn hj),atKey_of_get hn hj]
   have := modify_map_putAt (entryOfKey knd) (fun e : DictEntry => { e with val := v }) k v (fun _ _ => rfl) hn hj
   rw [<- this]
   simp [dictOf,Obj.mapDict]
  ·rw [storedH_old (atKey_of_get hn hj),keys_map_putAt]; exact hn
end
section
variable {C : Cfg} {d e : Nat} {Y : Actv C d e} {k : Kp} {w : Wd} {H : MH} {s : Shared} {cx : CC} {env : Env} {mE : Str -> Option Value} {fr : Frame}
theorem VRel.atom {a : Atom} {v : Value} (h : VRel C w a.val v) : a.is v = true /\ a.ok := by
 cases a with
 | i n => obtain ⟨t,rfl⟩ := h; exact ⟨beq_self_eq_true n,trivial⟩
 | s x => obtain ⟨t,rfl,ok⟩ := h; exact ⟨beq_self_eq_true x,ok⟩
theorem zaa.items {as : List Atom} : ∀ {vs : List Value},zaa C w (as.map Atom.val) vs -> ItemsAre (zaw C.prog C.w) as vs := by
 induction as with
 | nil => intro vs h; cases h; exact .nil
 | cons a r ih => intro vs h; obtain ⟨v,t,rfl,h1,h2⟩ := h; exact .cons h1.atom.1 (ih h2)
theorem Sta.tupKey {h : Heap} (S : Sta C Y.h₀ Y.L k w H h) {as : List Atom} {v : Value} (hv : VRel C w (.tup (as.map Atom.val)) v) : ∃ t,v = .ref t /\ IsTupleKey (zaw C.prog C.w) h as t := by
 obtain ⟨t,o,n,ws,e,ho,hc,hd,rr,hl⟩ := S.tup hv
 exact ⟨t,e,o,ws.toArray,n,ho,hc,hd,rr.items⟩
theorem nd_mid {a : Addr} {o : Obj} {pre post : Led} (h : Led.nd (pre ++ ([(a,o)] ++ post))) : ∀ q ∈ pre ++ post,q.1 ≠ a :=
 fun q hq e => (List.nodup_cons.mp (Led.nd.perm (List.perm_middle (a:=(a,o)) (l₁:=pre) (l₂:=post)) h)).1 (List.mem_map.mpr ⟨q,hq,e⟩)
theorem Sta.upd (S : St Y k w H s) {i : Nat} {a : Addr} {o o' : MObj} {ob' : Obj} {h' : Heap} (ha : w.σ[i]? = some a) (ho : H[i]? = some o) (hen : ∀ en,ORel C w a o en -> ∃ ob,en = [(a,ob)])
  (hs : Heap.SameBut a s.heap h') (hg : h'.get? a = some ob') (hr' : ORel C w a o' [(a,ob')]) : Sta C Y.h₀ Y.L k w (H.set i o') h' := by
 obtain ⟨pre,en,post,hr,hn,hd,g⟩ := S.at ha ho
 obtain ⟨ob1,rfl⟩ := hen en hr
 have hm := hn (a,ob1) (List.mem_append_right _ (.head _))
 have hne := nd_mid hd
 refine g o' [(a,ob')] h' rfl hr' ⟨S.fr.ns.sameBut hs (Ne.symm hm.2.1),fun c x e => (hs.2 c (fun q => ?_)).trans (S.fr.keep c x e),S.fr.above⟩ ?_
 ·rw [q,hm.2.2] at e; cases e
 ·intro p hp
  rcases List.mem_append.mp hp with hp | hp
  ·have := hn p (List.mem_append_left _ hp)
   exact ⟨(hs.2 p.1 (hne p (List.mem_append_left _ hp))).trans this.1,this.2⟩
  ·rcases List.mem_append.mp hp with hp | hp
   ·rw [List.mem_singleton.mp hp]
    exact ⟨hg,hm.2⟩
   ·have := hn p (List.mem_append_right _ (List.mem_append_right _ hp))
    exact ⟨(hs.2 p.1 (hne p (List.mem_append_right _ hp))).trans this.1,this.2⟩
inductive IsD {C : Cfg} {d e : Nat} (Y : Actv C d e) (k : Kp) (w : Wd) (H : MH) (s : Shared) (i : Nat) (v : Value) (p : Option Nat × List (Val × Val)) : Prop
 | mk (a : Addr) (n : Nat) (es : List DictEntry) (e : v = .ref a) (m : (a == sysModules) = false) (hep : ∀ x,p.1 = some x -> n = x) (g : s.heap.get? a = some (dictOf es n)) (r : DRel C w p.2 es) (l : p.2.length <= lim)
   (upd : ∀ h' o' ob',Heap.SameBut a s.heap h' -> h'.get? a = some ob' -> ORel C w a o' [(a,ob')] -> Sta C Y.h₀ Y.L k w (H.set i o') h') : IsD Y k w H s i v p
theorem Sta.dictI (S : St Y k w H s) {i : Nat} {v : Value} {p : Option Nat × List (Val × Val)} (hv : VRel C w (.ref i) v) (ho : H[i]?.bind MObj.dict? = some p) : IsD Y k w H s i v p := by
 obtain ⟨o,hi,h2⟩ := bs ho
 cases dict?_s h2
 obtain ⟨a,e,ha⟩ := hv
 obtain ⟨pre,en,post,⟨es,n,rfl,hep,dr,l⟩,hn,_,_⟩ := S.at ha hi
 refine ⟨a,n,es,e,beq_eq_false_iff_ne.mpr fun q => absurd (S.lo a (List.mem_of_getElem? ha)) (by rw [q]; decide),hep,(hn (a,_) (List.mem_append_right _ (.head _))).1,dr,l,fun h' o' ob' g2 g3 g4 => S.upd ha hi (fun en h => ?_) g2 g3 g4⟩
 obtain ⟨_,_,rfl,_,_,_⟩ := h
 exact ⟨_,rfl⟩
theorem Sta.dict (S : St Y k w H s) {x : Val} {v : Value} {p : Option Nat × List (Val × Val)} (hv : VRel C w x v) (ho : zaY H x = some p) : ∃ i,x = .ref i /\ IsD Y k w H s i v p := by
 obtain ⟨i,e,h1⟩ := bs ho
 cases ref?_s e
 exact ⟨i,rfl,S.dictI hv h1⟩
theorem len_e {α : Type} {mes : List (Val × Val)} {f : α -> Val} {l : List α} (e : mes.map (·.1) = l.map f) : mes.length = l.length := by
 have := congrArg List.length e
 rwa [List.length_map,List.length_map] at this
theorem DA.nil : DA C w [] [] [] := ⟨.nil,fun e he => absurd he (by simp),.nil,rfl,fun _ h => absurd h List.not_mem_nil,.nil⟩
theorem DT.nil : DT C w [] [] [] := ⟨rfl,.nil,fun _ h => absurd h List.not_mem_nil,rfl,.nil⟩
theorem fits_kind {mes : List (Val × Val)} {x : Val} {p : Val × Val} {r : List (Val × Val)} (hf : zaj mes x = true) (e : mes = p :: r) : zaL p.1 = zaL x := by
 subst e
 exact Option.some.inj (beq_iff_eq.mp (Bool.and_eq_true_iff.mp hf).2)
theorem DRel.atom {mes : List (Val × Val)} {es : List DictEntry} {a : Atom} (hf : zaj mes a.val = true) (h : DRel C w mes es) : ∃ kvs,DA C w mes es kvs := by
 rcases h with h | ⟨xs,D⟩
 ·exact h
 ·cases mes with
  | nil =>
   have := D.e
   cases xs with
   | nil => rw [D.es]; exact ⟨[],.nil⟩
   | cons _ _ => cases this
  | cons p r =>
   have e := D.e
   cases xs with
   | nil => cases e
   | cons x xs =>
    have := fits_kind hf rfl
    rw [show p.1 = .tup (x.1.map Atom.val) from (List.cons.inj e).1,zbi,zbP] at this
    cases this
theorem DRel.tups {mes : List (Val × Val)} {es : List DictEntry} {as : List Atom} (hf : zaj mes (.tup (as.map Atom.val)) = true) (h : DRel C w mes es) : ∃ xs,DT C w mes es xs := by
 rcases h with ⟨kvs,D⟩ | h
 ·cases mes with
  | nil =>
   have := D.e
   cases kvs with
   | nil => have p := D.p; cases p; exact ⟨[],.nil⟩
   | cons _ _ => cases this
  | cons p r =>
   have e := D.e
   cases kvs with
   | nil => cases e
   | cons x kvs =>
    have := fits_kind hf rfl
    rw [show p.1 = x.1.val from (List.cons.inj e).1,zbi,zbP] at this
    cases this
 ·exact h
theorem DA.dictOf {mes : List (Val × Val)} {es : List DictEntry} {kvs : List (Atom × Value)} {a n : Nat} {h : Heap} (D : DA C w mes es kvs) (hg : h.get? a = some (W.dictOf es n)) : h.DictOf (zaw C.prog C.w) a kvs :=
 ⟨_,es.toArray,n,hg,⟨rfl,rfl,rfl⟩,rfl,D.k,D.p,D.n⟩
theorem DT.keys {h : Heap} (S : Sta C Y.h₀ Y.L k w H h) {mes : List (Val × Val)} {es : List DictEntry} {xs : List (List Atom × Addr × Value)} (D : DT C w mes es xs) : ∀ x ∈ xs,IsTupleKey (zaw C.prog C.w) h x.1 x.2.1 := fun x hx => by
 obtain ⟨t,e,q⟩ := S.tupKey (D.v x hx)
 cases e; exact q
theorem DT.dictOf {h : Heap} (S : Sta C Y.h₀ Y.L k w H h) {mes : List (Val × Val)} {es : List DictEntry} {xs : List (List Atom × Addr × Value)} {b n : Nat} (D : DT C w mes es xs) (hg : h.get? b = some (W.dictOf es n)) : h.DictOfH (tupleKind (zaw C.prog C.w)) b xs :=
 ⟨_,_,n,D.es ▸ hg,⟨rfl,rfl,rfl⟩,rfl,rfl,D.keys S,D.n⟩
noncomputable def GetO (C : Cfg) (w : Wd) (m : Option Val) (v : Option Value) : Prop := (m = none /\ v = none) \/ ∃ mv rv,m = some mv /\ v = some rv /\ VRel C w mv rv
theorem get_sides {α : Type} [DecidableEq α] {mk : α -> Val} (hmk : ∀ a b,kEq (mk a) (mk b) = decide (a = b)) (k : α) : ∀ {kvs : List (α × Value)} {mes : List (Val × Val)},mes.map (·.1) = kvs.map (fun p => mk p.1) -> zaa C w (mes.map (·.2)) (kvs.map (·.2)) -> GetO C w (dget mes (mk k)) (valueAt kvs k) := by
 intro kvs
 induction kvs with
 | nil => intro mes e r; rw [List.map_eq_nil_iff.mp e]; exact .inl ⟨rfl,rfl⟩
 | cons y kvs ih =>
  intro mes e r
  cases mes with
  | nil => cases e
  | cons x mes =>
   obtain ⟨e1,e2⟩ := List.cons.inj e
   obtain ⟨v,t,ev,h,r⟩ := r
   obtain ⟨rfl,rfl⟩ := List.cons.inj ev
   have ih := ih e2 r
   unfold dget valueAt at ih ⊢
   rw [List.find?_cons,List.find?_cons,show x.1 = mk y.1 from e1,hmk]
   cases hk : decide (y.1 = k) with
   | true => exact .inr ⟨_,_,rfl,rfl,h⟩
   | false => exact ih
theorem GetO.isSome {m : Option Val} {v : Option Value} (h : GetO C w m v) : m.isSome = v.isSome := by
 rcases h with ⟨rfl,rfl⟩ | ⟨_,_,rfl,rfl,_⟩ <;> rfl
theorem DA.get {mes : List (Val × Val)} {es : List DictEntry} {kvs : List (Atom × Value)} (D : DA C w mes es kvs) (k : Atom) : GetO C w (dget mes k.val) (valueAt kvs k) := get_sides kEq_atom k D.e D.r
theorem DT.sides {mes : List (Val × Val)} {es : List DictEntry} {xs : List (List Atom × Addr × Value)} (D : DT C w mes es xs) : mes.map (·.1) = (kvsOf xs).map (fun p => Val.tup (p.1.map Atom.val)) /\ zaa C w (mes.map (·.2)) ((kvsOf xs).map (·.2)) := by
 refine ⟨?_,?_⟩
 ·rw [D.e]; simp [kvsOf]
 ·have := D.r
  simpa [kvsOf,Function.comp_def] using this
theorem DT.get {mes : List (Val × Val)} {es : List DictEntry} {xs : List (List Atom × Addr × Value)} (D : DT C w mes es xs) (k : List Atom) : GetO C w (dget mes (.tup (k.map Atom.val))) ((atKey xs k).map (·.2)) := by
 rw [<- valueAt_kvsOf]
 exact get_sides (mk:=fun as : List Atom => Val.tup (as.map Atom.val)) kEq_tup k D.sides.1 D.sides.2
theorem Actv.room (Y : Actv C d e) : (tupleKind (zaw C.prog C.w)).room Y.A.in1 := tupleKind_room_in1 (Y.u (by decide))
end
end Mi
namespace Mi
open PySem PySem.W PySem.Calls PyProof.Rows
section
variable {C : Cfg} {d e : Nat} {Y : Actv C d e} {k : Kp} {w : Wd} {H : MH} {s : Shared} {cx : CC} {env : Env} {mE : Str -> Option Value} {fr : Frame}
theorem snd_eqne (S : St Y k w H s) {x y : Val} {vx vy : Value} {r : Bool} (hx : VRel C w x vx) (hy : VRel C w y vy) : veq H x y = some r -> EqW Y s vx vy r :=
 zaz (bs_r fun _ _ e => nos e) (snd_eqD S hx hy)
theorem Sta.grown {h h' : Heap} (S : Sta C Y.h₀ Y.L k w H h) (he : Heap.ExtBut h.objs.size h h') : Sta C Y.h₀ Y.L k w H h' :=
 LedO.casesOn S.ledger fun all hn _ _ g => g h' (S.fr.extBut he (Nat.le_refl _)) fun p hp => ⟨he p.1 p.2 (Nat.ne_of_lt (Heap.lt_size (hn p hp).1)) (hn p hp).1,(hn p hp).2⟩
theorem zaa.empty {mvs : List Val} {vs : List Value} (r : zaa C w mvs vs) : vs.toArray.isEmpty = mvs.isEmpty := by
 cases mvs with
 | nil => cases r; rfl
 | cons m mvs => obtain ⟨v,t,rfl,_,_⟩ := r; rfl
theorem zbC (S : St Y k w H s) {x : Val} {v : Value} {r : Bool} (hx : VRel C w x v) (e : truthy H x = some r) {Q : Bool -> Shared -> Prop} {E : Value -> Shared -> Prop} (h : ∀ tk,Q r { s with toks := tk }) : wpAny C.M Y.A (PySem.truthy v) Q E s := by
 cases x with
 | none => cases hx; cases e; exact truthy_none (h s.toks)
 | bool b => cases hx; cases e; exact wpAny_truthy_bool (h s.toks)
 | int i => obtain ⟨t,rfl⟩ := hx; cases e; exact truthy_int (h s.toks)
 | str l =>
  cases e
  obtain ⟨t,rfl,ok⟩ := hx
  refine P.truthy_str (Int.not_le.mpr (zbR ok.2)) ?_
  have e : (((⟨l.toArray⟩ : Str).length : Int) != 0) = !l.isEmpty := by cases l <;> rfl
  rw [e]; exact h _
 | tup vs =>
  cases e
  obtain ⟨t,o,n,ws,rfl,ho,hc,hd,rr,hl⟩ := S.tup hx
  refine truthy_tuple (items:=ws.toArray) ⟨o,ho,hc,n,hd⟩ (by rw [List.size_toArray,<- rr.length]; exact zbR hl) ?_
  rw [rr.empty]; exact h _
 | ref i =>
  obtain ⟨vs,hvs,rfl⟩ := ms e
  obtain ⟨t,ws,n,rfl,ho,rr,hl⟩ := S.list hx hvs
  refine wpAny_truthy_list (items:=ws.toArray) ⟨_,ho,rfl,n,rfl⟩ (by rw [List.size_toArray,<- rr.length]; exact zbR hl) ?_
  rw [rr.empty]; exact h _
 | _ => exact nos e
theorem zam {α β : Type} [BEq α] [LawfulBEq α] {a : α} {b : β} : ∀ {l : List (α × β)},l.lookup a = some b -> (a,b) ∈ l := by
 intro l
 induction l with
 | nil => exact fun h => nos h
 | cons p l ih =>
  intro h
  rw [List.lookup_cons] at h
  cases e : (a == p.1) with
  | true => rw [e] at h; cases h; rw [beq_iff_eq.mp e]; exact .head _
  | false => rw [e] at h; exact .tail _ (ih h)
theorem tyTab_inj : ∀ p ∈ tyTab,∀ q ∈ tyTab,(p.1 == q.1) = (p.2 == q.2) := by decide
theorem wp_isSame {A : Around} {a b : Addr} {oa ob : Obj} {Q : Bool -> Shared -> Prop} {E : Value -> Shared -> Prop} (ha : s.heap.get? a = some oa) (hb : s.heap.get? b = some ob) (hc : ob.cls ≠ .type "tuple") (h : Q (a == b) s) : wpAny C.M A (isSame (.ref a) (.ref b)) Q E s := by
 unfold isSame
 dsimp only
 by_cases e : a = b
 ·subst e
  rw [if_pos (by simp)]
  rw [beq_self_eq_true] at h
  exact wpAny_pure h
 ·rw [if_neg (by simpa using e)]
  rw [beq_eq_false_iff_ne.mpr e] at h
  refine wpAny_bind (wpAny_load ha (wpAny_bind (wpAny_load hb ?_)))
  split
  ·rename_i q _ _
   exact absurd q hc
  ·exact wpAny_pure h
theorem VRel.isNone {x : Val} {v : Value} (h : VRel C w x v) : isSame v .none = pure x.isNone := by
 rw [isSame_none]
 cases x with
 | none => cases h; rfl
 | bool b => cases h; rfl
 | int i => obtain ⟨t,rfl⟩ := h; rfl
 | str i => obtain ⟨t,rfl,_⟩ := h; rfl
 | tup i => obtain ⟨_,_,_,_,rfl,_,_,_⟩ := h; rfl
 | ref i => obtain ⟨_,rfl,_⟩ := h; rfl
 | top i => obtain ⟨_,rfl,_⟩ := h; rfl
 | ty i => obtain ⟨_,rfl,_⟩ := h; rfl
 | bi i => obtain ⟨_,rfl,_⟩ := h; rfl
 | rng i => obtain ⟨_,_,_,_,rfl,_⟩ := h; rfl
 | fl i => obtain ⟨_,_,_,_,rfl,_,_,_⟩ := h; rfl
 | setn i => obtain ⟨_,_,_,_,_,rfl,_⟩ := h; rfl
theorem snd_is (K : zda C) (S : St Y k w H s) {x y : Val} {vx vy : Value} {r : Bool} (hx : VRel C w x vx) (hy : VRel C w y vy) {Q : Bool -> Shared -> Prop} {E : Value -> Shared -> Prop} (h : Q r s) : isV x y = some r -> wpAny C.M Y.A (isSame vx vy) Q E s := by
 have plain : isSame vx vy = pure r -> wpAny C.M Y.A (isSame vx vy) Q E s := fun q => by rw [q]; exact wpAny_pure h
 refine zaz (gs_r fun q e => ?_) (zaz (bs_r fun i e1 => ms_r fun j e2 e => ?_) (zaz (bs_r fun i e1 => ms_r fun j e2 e => ?_) (gs_r fun q => ms_r fun j e2 e => ?_)))
 ·clear h
  cases isNone_s q; cases hy
  exact plain (hx.isNone.trans (congrArg pure (Option.some.inj e)))
 ·clear h
  cases ty?_s e1; cases ty?_s e2
  obtain ⟨n1,rfl,h1⟩ := hx
  obtain ⟨n2,rfl,h2⟩ := hy
  refine plain (congrArg pure (Eq.trans ?_ ((tyTab_inj _ (zam h1) _ (zam h2)).symm.trans e)))
  by_cases e : n1 = n2
  ·subst e; simp
  ·rw [beq_eq_false_iff_ne.mpr e,beq_eq_false_iff_ne.mpr (fun q => e (Value.type.inj q))]
 ·clear plain
  cases top?_s e1; cases top?_s e2
  obtain ⟨a1,rfl,h1⟩ := hx
  obtain ⟨a2,rfl,h2⟩ := hy
  obtain ⟨o1,k1,_⟩ := K.adK _ _ h1
  obtain ⟨o2,k2,c2⟩ := K.adK _ _ h2
  refine wp_isSame (S.kIn _ _ k1) (S.kIn _ _ k2) c2 ?_
  have e' : (a1 == a2) = (i == j) := by
   rw [Bool.eq_iff_iff,beq_iff_eq,beq_iff_eq]
   exact ⟨fun q => K.adInj _ _ _ h1 (q ▸ h2),fun q => Option.some.inj ((q ▸ h1 : C.ad.lookup j = some a1).symm.trans h2)⟩
  rw [e',e]; exact h
 ·cases top?_s e2
  obtain ⟨b,rfl,h2⟩ := hy
  subst e
  cases x with
  | none => cases hx; exact plain rfl
  | int i => obtain ⟨t,rfl⟩ := hx; exact plain rfl
  | tup vs =>
   clear plain
   obtain ⟨o,ho,hc⟩ := K.adK _ _ h2
   obtain ⟨ta,ot,n,ws,rfl,hg,hct,_,_,_⟩ := S.tup hx
   refine wp_isSame hg (S.kIn _ _ ho) hc ?_
   rw [beq_eq_false_iff_ne.mpr fun q => hc (by rw [<- hct,Option.some.inj ((q ▸ hg : s.heap.get? b = some ot).symm.trans (S.kIn _ _ ho))])]
   exact h
  | _ => cases q
noncomputable def InW {C : Cfg} {d e : Nat} (Y : Actv C d e) (s : Shared) (vx vy : Value) (r : Bool) : Prop :=
 ∀ (Q : Value -> Shared -> Prop) (E : Value -> Shared -> Prop),((∀ tk,Q (.bool r) { s with toks := tk }) -> wpAny C.M Y.A (compareOp .In vx vy) Q E s) /\ ((∀ tk,Q (.bool (!r)) { s with toks := tk }) -> wpAny C.M Y.A (compareOp .NotIn vx vy) Q E s)
theorem one?_s {s : List Nat} {c : Nat} (h : one? s = some c) : s = [c] := by
 cases s with
 | nil => exact nos h
 | cons a r =>
  cases r with
  | nil => cases h; rfl
  | cons _ _ => exact nos h
theorem snd_in (S : St Y k w H s) {x y : Val} {vx vy : Value} {r : Bool} (hx : VRel C w x vx) (hy : VRel C w y vy) : isIn H x y = some r -> InW Y s vx vy r := by
 have hu : ∀ {a b : Nat},a <= 7 -> Y.A.units + 1 + min a b < cLine := fun h => by rw [Nat.add_assoc]; exact Y.u (Nat.le_trans (Nat.add_le_add_left (Nat.le_trans (Nat.min_le_left _ _) h) 1) (by decide))
 refine zaz (bs_r fun t e1 => ms_r fun c e2 e => ?_) (zaz (bs_r fun vs e1 => bs_r fun ds e2 => ms_r fun dx e3 e => ?_) (zaz (bs_r fun vs e1 => bs_r fun ds e2 => ms_r fun dx e3 e => ?_) (bs_r fun p e1 => gs_r fun hf e => ?_)))
 ·obtain ⟨x',e3,e2⟩ := bs e2
  cases one?_s e2
  obtain ⟨u,rfl,_⟩ := hx.str? e3
  obtain ⟨t',rfl,_⟩ := hy.str? e1
  have hf := StrLaws.found_one ⟨t.toArray⟩ c
  have hc : t.contains c = decide (c ∈ t) := by rw [Bool.eq_iff_iff,List.contains_iff_mem,decide_eq_true_eq]
  rw [<- e,hc]
  refine fun Q E => ⟨fun h => in_str ?_,fun h => notIn_str ?_⟩
  ·rw [show (⟨[c].toArray⟩ : Str) = ⟨#[c]⟩ from rfl,hf]
   exact h s.toks
  ·rw [show (⟨[c].toArray⟩ : Str) = ⟨#[c]⟩ from rfl,hf]
   exact h s.toks
 ·cases tup?_s e1
  obtain ⟨t,o,n,ws,rfl,ho,hc,hd,rr,_⟩ := S.tup hy
  obtain ⟨as,ra,c1,d1⟩ := zbp (za6 S 7) rr e2
  obtain ⟨bs,rb,c2,d2⟩ := za6 S 7 x vx dx hx e3
  rw [<- e]
  have R : Reads s.heap (.ref t) (.tuple ds) as := .tuple ho hc hd ra
  exact fun Q E => ⟨fun h => SeqAt.in_tuple_reads R rb c1 c2 (hu d1) (h s.toks),fun h => SeqAt.notIn_tuple_reads R rb c1 c2 (hu d1) (h s.toks)⟩
 ·obtain ⟨t,ws,n,rfl,ho,rr,_⟩ := S.list hy e1
  obtain ⟨as,ra,c1,d1⟩ := zbp (za6 S 7) rr e2
  obtain ⟨bs,rb,c2,d2⟩ := za6 S 7 x vx dx hx e3
  rw [<- e]
  have R : Reads s.heap (.ref t) (.list ds) (t :: as) := .list ho rfl rfl ra
  exact fun Q E => ⟨fun h => SeqAt.in_list_reads R rb c1 c2 (hu d1) (h s.toks),fun h => SeqAt.notIn_list_reads R rb c1 c2 (hu d1) (h s.toks)⟩
 ·obtain ⟨i,_,b,n,es,rfl,hmod,_,hg,hdr,_,_⟩ := S.dict hy e1
  rw [<- Option.some.inj e]
  rcases zbu (Bool.and_eq_true_iff.mp hf).1 with ⟨q,rfl⟩ | ⟨q,rfl⟩
  ·obtain ⟨kvs,D⟩ := hdr.atom hf
   have hD := D.dictOf hg
   rw [(D.get q).isSome]
   exact fun Q E => ⟨fun h => wpAny_in_of hx.atom.1 hmod hD.mapOf (h _),fun h => wpAny_notIn_of hx.atom.1 hmod hD.mapOf (h _)⟩
  ·obtain ⟨xs,D⟩ := hdr.tups hf
   have hD := D.dictOf S hg
   obtain ⟨t,rfl,ht⟩ := S.tupKey hx
   rw [(D.get q).isSome,Option.isSome_map]
   exact fun Q E => ⟨fun h => wpAny_in_heap Y.room ht hmod hD (h _),fun h => wpAny_notIn_heap Y.room ht hmod hD (h _)⟩
theorem snd_cmp {op : CmpOp} (K : zda C) (S : St Y k w H s) {x y : Val} {vx vy : Value} (hx : VRel C w x vx) (hy : VRel C w y vy) : Ref Y k (VR C) (compareOp op vx vy) w s ((cmpop (copOf op) x y H).map fun r => (.bool r,H)) := by
 refine .omap fun r e => .val S fun Q E q => ?_
 have h : ∀ tk,Q (.bool r) { s with toks := tk } := fun tk => q _ tk rfl
 have h0 := h s.toks
 have cmpQ : ∀ {f : Int -> Int -> Bool} {t : Sem Value},cmpI x y f = some r -> (∀ a b t1 t2,vx = .int a t1 -> vy = .int b t2 -> r = f a b -> wpAny C.M Y.A t Q E s) -> wpAny C.M Y.A t Q E s := fun e g => by
  obtain ⟨a,e1,e⟩ := bs e
  obtain ⟨b,e2,rfl⟩ := ms e
  obtain ⟨t1,q1⟩ := hx.int? e1
  obtain ⟨t2,q2⟩ := hy.int? e2
  exact g a b t1 t2 q1 q2 rfl
 cases op with
 | Eq => exact (snd_eqne S hx hy e Q E).1 h0
 | NotEq =>
  obtain ⟨q,hq,rfl⟩ := ms e
  exact (snd_eqne S hx hy hq Q E).2 h0
 | Lt => exact cmpQ e fun a b t1 t2 e1 e2 e3 => by subst e1 e2 e3; exact lt_int h0
 | LtE => exact cmpQ e fun a b t1 t2 e1 e2 e3 => by subst e1 e2 e3; exact le_int h0
 | Gt => exact cmpQ e fun a b t1 t2 e1 e2 e3 => by subst e1 e2 e3; exact gt_int h0
 | GtE => exact cmpQ e fun a b t1 t2 e1 e2 e3 => by subst e1 e2 e3; exact ge_int h0
 | In => exact (snd_in S hx hy e Q E).1 h
 | NotIn =>
  obtain ⟨q,hq,rfl⟩ := ms e
  exact (snd_in S hx hy hq Q E).2 h
 | Is => exact wpAny_bind (snd_is K S hx hy (wpAny_pure h0) e)
 | IsNot =>
  obtain ⟨q,hq,rfl⟩ := ms e
  exact wpAny_bind (snd_is K S hx hy (wpAny_pure h0) hq)
end
end Mi
namespace Mi
open PySem PySem.W PySem.Calls PyProof.Rows
section
variable {prog : Program} {w : World} {A : Around} {E : Value -> Shared -> Prop} {s : Shared}
theorem raw_iter {d : Addr} {es : List DictEntry} {ep : Nat} {Q : Value -> Shared -> Prop} (hd : (d == sysModules) = false) (ho : s.heap.get? d = some (dictOf es ep))
  (hQ : Q (.ref s.heap.objs.size) { s with heap := s.heap.push { cls := .type "dict_keyiterator",data := .fields #[.ref d,.int 0 0,.int es.length 0,.int ep 0] } }) :
  wpAny (model prog w) A (pyIter (.ref d)) Q E s := by
 have hT : s.TypeIs (.ref d) "dict" := ⟨_,ho,rfl⟩
 refine wpAny_pyIter_slot hT F.slot_dict_iter (wpAny_call_entry F.slot_dict_iter hT F.entry_dict_iter ?_ (F.args_dict_iter_1 _))
 unfold Builtin.«dict.__iter__»
 refine wpAny_bind ?_
 unfold Builtin.Dict.dictSlotNone
 refine wpAny_bind (wpAny_notOrdered_dict hT ?_)
 show wpAny _ _ (pure (Value.ref d)) _ _ s
 refine wpAny_pure ?_
 show wpAny _ _ (Builtin.Dict.showsAll d >>= _) _ _ s
 unfold Builtin.Dict.showsAll
 rw [if_neg (by rw [hd]; exact Bool.false_ne_true)]
 refine wpAny_bind (wpAny_pure ?_)
 refine wpAny_bind (wpAny_dictEntries ho rfl ?_)
 refine wpAny_bind (wpAny_dictEpoch ho rfl ?_)
 refine wpAny_bind (wpAny_newObj_type (wpAny_pure ⟨_,rfl,"dict_keyiterator",_,⟨_,Heap.get?_push_size _ rfl,rfl⟩,F.slot_dict_keyiterator_next.lookup,?_⟩))
 exact hQ
theorem raw_step {it d : Addr} {i ep : Nat} {es : List DictEntry} {Q : Option Value -> Shared -> Prop} (hh : A.handled = none) (hit : s.heap.IsKeyIter it d i es.length ep) (hod : s.heap.get? d = some (dictOf es ep))
  (h1 : ∀ e h',es[i]? = some e -> h'.IsKeyIter it d (i + 1) es.length ep -> Heap.SameBut it s.heap h' -> Q (some e.key) { s with heap := h' })
  (h2 : ∀ h',es[i]? = none -> Heap.ExtBut it s.heap h' -> Q none { s with heap := h' }) : wpAny (model prog w) A (pyNext (.ref it)) Q E s := by
 obtain ⟨o,ho,hc,hd⟩ := id hit
 unfold pyNext
 refine wpAny_bind (wpAny_attempt (wpAny_callSpecial?_slot (name:=Str.ofString "__next__") hit.typeIs F.slot_dict_keyiterator_next
  (wpAny_call_entry F.slot_dict_keyiterator_next hit.typeIs F.entry_dict_keyiterator_next ?_ (F.args_dict_keyiterator_next_1 _))))
 refine wpAny_bind (wpAny_pure ?_)
 refine wpAny_bind ?_
 refine wpAny_bind ?_
 first | refine wpAny_bind (wpAny_typeNameOfWhole_keyiter hit.typeIs (wpAny_pure ?_)) | refine wpAny_bind (wpAny_typeNameOf_keyiter hit.typeIs (wpAny_pure ?_))
 refine wpAny_bind (wpAny_fieldsOf ho hd ?_)
 have hown : Builtin.Dict_items.ownsTuple "dict_keyiterator" = false := by decide
 simp only [hown,Bool.false_eq_true,if_false]
 show wpAny _ _ (if (Value.ref d == Value.none) = true then _ else _) _ _ s
 rw [if_neg (show ¬ ((Value.ref d == Value.none) = true) from Bool.false_ne_true)]
 refine wpAny_bind (wpAny_pure ?_)
 refine wpAny_bind (wpAny_dictEntries hod rfl ?_)
 rw [if_neg (by simp)]
 refine wpAny_bind (wpAny_pure ?_)
 refine wpAny_bind (wpAny_dictEpoch hod rfl ?_)
 rw [if_neg (by simp)]
 refine wpAny_pure ?_
 cases hx : es[i]? with
 | some e =>
  have hx' : es.toArray[i]? = some e := by rw [List.getElem?_toArray]; exact hx
  simp only [show ¬ ((i : Int) < 0) from by omega,if_false,Int.toNat_natCast,hx']
  refine wpAny_bind ?_
  first | refine wpAny_bind (wpAny_typeNameOfWhole_keyiter hit.typeIs (wpAny_pure ?_)) | refine wpAny_bind (wpAny_typeNameOf_keyiter hit.typeIs (wpAny_pure ?_))
  refine wpAny_bind (wpAny_isOneOf_keyiter hit.typeIs ?_)
  show wpAny _ _ (setField (.ref it) 1 (rawInt ((i : Int) + 1)) >>= _) _ _ s
  refine wpAny_bind (wpAny_setField ho hd (by simp) ?_)
  have hit' : (s.heap.update it (Obj.mapFields (·.setIfInBounds 1 (rawInt ((i : Int) + 1))))).IsKeyIter it d (i + 1) es.length ep :=
   ⟨_,Heap.get?_update_self _ ho (Obj.isFreed_of_fields (Obj.data_mapFields hd _)),(Obj.cls_mapFields ..).trans hc,by rw [Obj.data_mapFields hd]; simp [rawInt]⟩
  refine wpAny_bind (wpAny_holding ?_)
  refine wpAny_bind (wpAny_isOneOf_keyiter (s:={ s with heap := s.heap.update it (Obj.mapFields (·.setIfInBounds 1 (rawInt ((i : Int) + 1)))) }) hit'.typeIs ?_)
  show wpAny _ _ (pure e.key) _ _ _
  exact wpAny_pure (wpAny_pure ⟨_,rfl,wpAny_pure (h1 e _ hx hit' (Heap.SameBut.update ..))⟩)
 | none =>
  have hx' : es.toArray[i]? = none := by rw [List.getElem?_toArray]; exact hx
  simp only [show ¬ ((i : Int) < 0) from by omega,if_false,Int.toNat_natCast,hx']
  refine wpAny_bind ?_
  first | refine wpAny_bind (wpAny_typeNameOfWhole_keyiter hit.typeIs (wpAny_pure ?_)) | refine wpAny_bind (wpAny_typeNameOf_keyiter hit.typeIs (wpAny_pure ?_))
  show wpAny _ _ (setField (.ref it) 0 .none >>= _) _ _ s
  refine wpAny_bind (wpAny_setField ho hd (by simp) ?_)
  show wpAny _ _ (newExc (.type "StopIteration") [] >>= _) _ _ _
  refine wpAny_bind ?_
  simp only [newExc,newTuple]
  refine wpAny_bind (wpAny_newObj_type ?_ (by size_fits))
  refine wpAny_bind (m:=firstArgMember _ _) (wpAny_of_eq (a:=Value.none) (by first | rfl | (simp only [firstArgMember]; rfl)) ?_)
  refine wpAny_newObj_type ?_ (by size_fits)
  simp only [raiseNew]
  refine wpAny_bind (wpAny_handled ?_)
  rw [show A.in1.handled = none from hh]
  refine wpAny_bind (wpAny_pure (wpAny_throw ?_))
  refine wpAny_bind (wpAny_isInstance (T:="StopIteration") (b:=true) ⟨_,Heap.get?_push_size _ rfl,rfl⟩ isSubtype_stop ?_)
  exact wpAny_pure (h2 _ hx (((Heap.SameBut.update ..).extBut.push _).push _))
end
noncomputable abbrev Kp.ext (k : Kp) (p : Addr × Obj) : Kp := { k with ex := p :: k.ex }
theorem zaK (k : Kp) (w : Wd) (os : List Led) (p : Addr × Obj) : ((k.ext p).all w os).Perm (p :: k.all w os) := by
 have := List.perm_middle (a:=p) (l₁:=os.flatten ++ (w.tp ++ k.ce)) (l₂:=k.ex)
 rw [List.append_assoc,List.append_assoc,List.append_assoc,List.append_assoc] at this
 exact this
section
variable {C : Cfg} {h₀ : Heap} {L : Addr} {k : Kp} {w : Wd} {H : MH} {h h' : Heap} {b : Addr} {o o' : Obj}
theorem Sta.addEx (S : Sta C h₀ L k w H h) (o : Obj) (hf : o.isFreed = false) : Sta C h₀ L (k.ext (h.objs.size,o)) w H (h.push o) := by
 obtain ⟨os,he,hn,hd⟩ := S.os
 exact ⟨S.fr.push o,⟨os,he,fun p hp => hn.push S.fr o hf p ((zaK k w os _).mem_iff.mp hp),Led.nd.perm (zaK k w os (h.objs.size,o)).symm (nd_app (zbq _) hd (News.fresh hn fun p hp => List.mem_singleton.mp hp ▸ Nat.le_refl _))⟩,S.big,S.lo⟩
theorem Sta.exHead (S : Sta C h₀ L (k.ext (b,o)) w H h) : h.get? b = some o /\ b ≠ L /\ h₀.get? b = none := by
 obtain ⟨os,he,hn,hd⟩ := S.os
 exact hn (b,o) ((zaK k w os (b,o)).mem_iff.mpr (.head _))
theorem Fr.sameBut {m : Str -> Option Value} (F : Fr h₀ L h m) (hs : Heap.SameBut b h h') (g : b ≠ L /\ h₀.get? b = none) : Fr h₀ L h' m :=
 ⟨F.ns.sameBut hs (Ne.symm g.1),fun c x e => (hs.2 c fun q => by rw [q,g.2] at e; cases e).trans (F.keep c x e),F.above⟩
theorem Sta.setEx (S : Sta C h₀ L (k.ext (b,o)) w H h) (hs : Heap.SameBut b h h') (ho : h'.get? b = some o') : Sta C h₀ L (k.ext (b,o')) w H h' := by
 have g := S.exHead
 obtain ⟨os,he,hn,hd⟩ := S.os
 have hd' := List.nodup_cons.mp (Led.nd.perm (zaK k w os (b,o)) hd)
 refine ⟨Fr.sameBut S.fr hs g.2,⟨os,he,fun p hp => ?_,Led.nd.perm (zaK k w os (b,o')).symm (List.nodup_cons.mpr hd')⟩,S.big,S.lo⟩
 rcases List.mem_cons.mp ((zaK k w os (b,o')).mem_iff.mp hp) with e | hp
 ·rw [e]; exact ⟨ho,g.2⟩
 ·have := hn p ((zaK k w os (b,o)).mem_iff.mpr (.tail _ hp))
  exact ⟨(hs.2 p.1 fun e => hd'.1 (List.mem_map.mpr ⟨p,hp,e⟩)).trans this.1,this.2⟩
theorem Sta.endEx (S : Sta C h₀ L (k.ext (b,o)) w H h) (hx : Heap.ExtBut b h h') : Sta C h₀ L k w H h' := by
 have g := S.exHead
 obtain ⟨os,he,hn,hd⟩ := S.os
 have hd' := List.nodup_cons.mp (Led.nd.perm (zaK k w os (b,o)) hd)
 refine ⟨⟨S.fr.ns.extBut hx (Ne.symm g.2.1),fun c x e => hx c x (fun q => by rw [q,g.2.2] at e; cases e) (S.fr.keep c x e),S.fr.above⟩,⟨os,he,fun p hp => ?_,hd'.2⟩,S.big,S.lo⟩
 have := hn p ((zaK k w os (b,o)).mem_iff.mpr (.tail _ hp))
 exact ⟨hx p.1 p.2 (fun e => hd'.1 (List.mem_map.mpr ⟨p,hp,e⟩)) this.1,this.2⟩
theorem Sta.exSwap {p q : Addr × Obj} (S : Sta C h₀ L ((k.ext q).ext p) w H h) : Sta C h₀ L ((k.ext p).ext q) w H h := by
 obtain ⟨os,he,hn,hd⟩ := S.os
 have hp : (((k.ext p).ext q).all w os).Perm (((k.ext q).ext p).all w os) := List.Perm.append_left _ (List.Perm.append_left _ (List.Perm.append_left _ (List.Perm.swap p q k.ex)))
 exact ⟨S.fr,⟨os,he,fun r hr => hn r (hp.mem_iff.mp hr),Led.nd.perm hp.symm hd⟩,S.big,S.lo⟩
theorem Sta.fromEx {m : MObj} (S : Sta C h₀ L (k.ext (b,o)) w H h) (h4 : 4 <= b) (hr : ORel C ⟨w.σ ++ [b],w.tp⟩ b m [(b,o)]) : Sta C h₀ L k ⟨w.σ ++ [b],w.tp⟩ (H ++ [m]) h := by
 obtain ⟨os,he,hn,hd⟩ := S.os
 have hp := (zaK k w os (b,o)).trans (zcP k w b [(b,o)] os)
 exact ⟨S.fr,⟨os ++ [[(b,o)]],Ents.snoc hr (Ents.mono (w:=w) (w' := ⟨w.σ ++ [b],w.tp⟩) ⟨List.prefix_append _ _,fun _ x => x⟩ he),fun p hp' => hn p (hp.mem_iff.mpr hp'),Led.nd.perm hp hd⟩,S.big,S.loNew h4⟩
end
inductive IsIt (io : Obj) (T : String) (v : Value) (i : Nat) : Prop
 | mk (c : io.cls = .type T) (d : io.data = .fields #[v,.int (i : Nat) 0]) : IsIt io T v i
inductive StrIt (io : Obj) (x : List Nat) (i : Nat) : Prop
 | mk (T : String) (t : Tok) (h : T = "str_ascii_iterator" \/ T = "str_iterator") (q : IsIt io T (.str ⟨x.toArray⟩ t) i) : StrIt io x i
inductive RngIt (io : Obj) (n : Int) (i : Nat) : Prop
 | mk (left : Int) (h1 : 0 < left ↔ (i : Int) < n) (h2 : 0 < left -> left = n - i) (e : io = { cls := .type "range_iterator",dict := Option.none,data := .fields #[rawInt (i : Nat),rawInt left,rawInt 1],slots := #[] }) : RngIt io n i
noncomputable def zbA (C : Cfg) (w : Wd) (io : Obj) (i : Nat) (k : It) : Prop := It.casesOn (motive:=fun _ => Prop) k
 (fun a => ∃ la,w.σ[a]? = some la /\ IsIt io "list_iterator" (.ref la) i)
 (fun mvs => ∃ ta,VRel C w (.tup mvs) (.ref ta) /\ IsIt io "tuple_iterator" (.ref ta) i)
 (fun a n ep => ∃ la,w.σ[a]? = some la /\ io.cls = .type "dict_keyiterator" /\ io.data = .fields #[.ref la,.int (i : Nat) 0,.int (n : Nat) 0,.int (ep : Nat) 0])
 (fun x => sOk x /\ StrIt io x i)
 (fun n => RngIt io n i)
 (fun mvs => ∃ la,VRel C w (.fl mvs) (.ref la) /\ IsIt io "list_iterator" (.ref la) i)
theorem zbA.mono {C : Cfg} {w w' : Wd} (l : w.le w') {io : Obj} {i : Nat} {k : It} : zbA C w io i k -> zbA C w' io i k :=
 It.casesOn (motive:=fun k => zbA C w io i k -> zbA C w' io i k) k (fun _ h => h.elim fun la h => ⟨la,l.get h.1,h.2⟩) (fun _ h => h.elim fun la h => ⟨la,h.1.mono l,h.2⟩) (fun _ _ _ h => h.elim fun la h => ⟨la,l.get h.1,h.2⟩) (fun _ h => h) (fun _ h => h) (fun _ h => h.elim fun la h => ⟨la,h.1.mono l,h.2⟩)
section
variable {C : Cfg} {d e : Nat} {Y : Actv C d e} {k : Kp} {w : Wd} {H : MH} {s : Shared} {cx : CC} {env : Env} {mE : Str -> Option Value} {fr : Frame}
theorem DRel.entries {mes : List (Val × Val)} {es : List DictEntry} (h : DRel C w mes es) : es.length = mes.length /\ ∀ (i : Nat) (p : Val × Val),mes[i]? = some p -> ∃ e : DictEntry,es[i]? = some e /\ VRel C w p.1 e.key := by
 rcases h with ⟨kvs,D⟩ | ⟨xs,D⟩
 ·have l1 := len_e D.e
  have l2 := D.p.length
  refine ⟨by omega,fun i p hp => ?_⟩
  have hi : i < mes.length := (List.getElem?_eq_some_iff.mp hp).1
  have hik : i < kvs.length := by omega
  have hie : i < es.length := by omega
  refine ⟨es[i],List.getElem?_eq_getElem hie,?_⟩
  have hk := (D.p.get? (i:=i) (List.getElem?_eq_getElem hie) (List.getElem?_eq_getElem hik)).1
  have he : (mes.map (·.1))[i]? = (kvs.map fun p => p.1.val)[i]? := by rw [D.e]
  rw [List.getElem?_map,List.getElem?_map,hp,List.getElem?_eq_getElem hik] at he
  rw [show p.1 = kvs[i].1.val from Option.some.inj he]
  have hok := D.ok kvs[i] (List.getElem_mem hik)
  generalize kvs[i].1 = a at hk hok
  cases a with
  | i z => exact Value.isInt_shape hk
  | s x =>
   obtain ⟨t,ht⟩ := Value.isStrOf_shape hk
   exact ⟨t,ht,hok⟩
 ·have l1 := len_e D.e
  refine ⟨by rw [D.es,List.length_map,l1],fun i p hp => ?_⟩
  have hik : i < xs.length := l1 ▸ (List.getElem?_eq_some_iff.mp hp).1
  refine ⟨entryOfKey (tupleKind (zaw C.prog C.w)) xs[i],by rw [D.es,List.getElem?_map,List.getElem?_eq_getElem hik]; rfl,?_⟩
  have he : (mes.map (·.1))[i]? = (xs.map fun x => Val.tup (x.1.map Atom.val))[i]? := by rw [D.e]
  rw [List.getElem?_map,List.getElem?_map,hp,List.getElem?_eq_getElem hik] at he
  rw [show p.1 = _ from Option.some.inj he]
  exact D.v xs[i] (List.getElem_mem hik)
theorem range_small {n : Int} (h1 : n <= lim) (h2 : -(lim : Int) <= n) : Builtin.Range.small 0 n 1 = true := by
 have hl : (lim : Int) = 1000000 := rfl
 refine small_one ?_ ?_ ?_ ?_ <;> omega
theorem zcs (n : Int) : (0 < Builtin.Range.rangeSize 0 n 1 ↔ 0 < n) /\ (0 < Builtin.Range.rangeSize 0 n 1 -> Builtin.Range.rangeSize 0 n 1 = n) := by
 unfold Builtin.Range.rangeSize
 simp only [gt_iff_lt,Int.zero_lt_one,if_true]
 split
 ·rename_i h
  refine ⟨?_,?_⟩ <;> omega
 ·rename_i h
  refine ⟨?_,?_⟩ <;> omega
theorem snd_iter (S : St Y k w H s) {v : Val} {rv : Value} {z : It} (hv : VRel C w v rv) {Q : Value -> Shared -> Prop} {E : Value -> Shared -> Prop}
  (h : ∀ I io h',Sta C Y.h₀ Y.L (k.ext (I,io)) w H h' -> zbA C w io 0 z -> Q (.ref I) { s with heap := h' }) : zbd H v = some z -> wpAny C.M Y.A (pyIter rv) Q E s := by
 refine zaz (bs_r fun n e1 => gs_r fun hn e => ?_) (zaz (bs_r fun a e1 => zaz (ms_r fun vs e2 e => ?_) (bs_r fun p e2 => ms_r fun ep e3 e => ?_)) (zaz (ms_r fun vs e1 e => ?_) (zaz (ms_r fun x e1 e => ?_) (ms_r fun vs e1 e => ?_))))
 ·cases e; cases rng?_s e1
  obtain ⟨r,t,u,v,rfl,hr⟩ := hv
  have hn := Bool.and_eq_true_iff.mp hn
  exact wpAny_pyIter_range (S.tpAt hr) (range_small (of_decide_eq_true hn.1) (of_decide_eq_true hn.2)) (h _ _ _ (S.addEx _ rfl) ⟨_,(zcs n).1,fun hh => ((zcs n).2 hh).trans (Int.sub_zero n).symm,rfl⟩)
 ·subst e; cases ref?_s e1
  obtain ⟨la,ws,n,rfl,ho,rr,hl⟩ := S.list hv e2
  obtain ⟨_,e3,ha⟩ := hv
  exact wpAny_pyIter_list (items:=ws.toArray) ⟨_,ho,rfl,n,rfl⟩ (h _ _ _ (S.addEx _ rfl) ⟨la,Value.ref.inj e3 ▸ ha,rfl,rfl⟩)
 ·subst e; cases ref?_s e1
  obtain ⟨b,n,es,rfl,hmod,hep,hg,dr,_,_⟩ := S.dictI hv e2
  cases hep ep e3
  obtain ⟨_,e4,ha⟩ := hv
  exact raw_iter hmod hg (h _ _ _ (S.addEx _ rfl) ⟨b,Value.ref.inj e4 ▸ ha,rfl,by rw [<- dr.entries.1]; rfl⟩)
 ·subst e; cases tup?_s e1
  obtain ⟨t,o,n,ws,rfl,ho,hc,hd,rr,hl⟩ := S.tup hv
  exact iter_tuple (items:=ws.toArray) ⟨o,ho,hc,n,hd⟩ (h _ _ _ (S.addEx _ rfl) ⟨t,hv,rfl,rfl⟩)
 ·subst e
  obtain ⟨t,rfl,ok⟩ := hv.str? e1
  refine wpAny_pyIter_strU (h _ _ _ (S.addEx _ rfl) ⟨ok,strIterType ⟨x.toArray⟩,t,?_,rfl,rfl⟩)
  unfold strIterType
  split
  ·exact .inl rfl
  ·exact .inr rfl
 ·subst e; cases fl?_s e1
  obtain ⟨la,o,n,ws,rfl,q,rr,hl⟩ := id hv
  exact wpAny_pyIter_list (items:=ws.toArray) ⟨o,S.kIn _ _ q.1,q.2,n,q.3⟩ (h _ _ _ (S.addEx _ rfl) ⟨la,hv,rfl,rfl⟩)
structure StepO {C : Cfg} {d e : Nat} (Y : Actv C d e) (k : Kp) (w : Wd) (H : MH) (s : Shared) (I : Addr) (i : Nat) (z : It) (r : Option Val) (Q : Option Value -> Shared -> Prop) : Prop where
 go : ∀ v rv io' h' tk,r = some v -> Sta C Y.h₀ Y.L (k.ext (I,io')) w H h' -> zbA C w io' (i + 1) z -> VRel C w v rv -> Q (some rv) { s with heap := h',toks := tk }
 fin : ∀ h',r = none -> Sta C Y.h₀ Y.L k w H h' -> Q none { s with heap := h' }
theorem zcJ {I : Addr} {io : Obj} {i : Nat} {mvs : List Val} {vs : List Value} {z : It} {r : Option Val} {Q : Option Value -> Shared -> Prop} (S : St Y (k.ext (I,io)) w H s) (rr : zaa C w mvs vs) (er : mvs[i]? = r) (G : StepO Y k w H s I i z r Q)
  (item : ∀ x (Q : Option Value -> Shared -> Prop),vs.toArray[i]? = some x -> (∀ h' o',h'.get? I = some o' -> zbA C w o' (i + 1) z -> Heap.SameBut I s.heap h' -> Q (some x) { s with heap := h' }) -> wpAny C.M Y.A (pyNext (.ref I)) Q (fun _ _ => False) s)
  (fin : ∀ (Q : Option Value -> Shared -> Prop),vs.toArray[i]? = none -> (∀ h',Heap.ExtBut I s.heap h' -> Q none { s with heap := h' }) -> wpAny C.M Y.A (pyNext (.ref I)) Q (fun _ _ => False) s) {E : Value -> Shared -> Prop} : wpAny C.M Y.A (pyNext (.ref I)) Q E s := by
 refine wpAny_mono (Q:=Q) (E:=fun _ _ => False) ?_ (fun _ _ q => q) (fun _ _ q => q.elim)
 cases r with
 | none =>
  refine fin Q ?_ fun h' he => G.fin h' rfl (S.endEx he)
  rw [List.getElem?_toArray,List.getElem?_eq_none_iff,<- rr.length]
  exact List.getElem?_eq_none_iff.mp er
 | some v =>
  obtain ⟨rv,hrv,hr⟩ := rr.get er
  exact item rv Q (by rw [List.getElem?_toArray]; exact hrv) fun h' o' g1 g2 hs => G.go v rv o' h' _ rfl (S.setEx hs g1) g2 hr
theorem snd_next {I : Addr} {io : Obj} {z : It} {i : Nat} {r : Option Val} (S : St Y (k.ext (I,io)) w H s) (R : zbA C w io i z) (e : zav H i z = some r) {Q : Option Value -> Shared -> Prop} {E : Value -> Shared -> Prop} (G : StepO Y k w H s I i z r Q) : wpAny C.M Y.A (pyNext (.ref I)) Q E s := by
 have hI := S.exHead.1
 cases z with
 | fs mvs =>
  obtain ⟨la,hv,ic⟩ := R
  obtain ⟨_,o,n,vs,e1,q,rr,_⟩ := id hv
  cases e1
  have hl0 : s.heap.IsList la vs.toArray := ⟨o,S.kIn _ _ q.1,q.2,n,q.3⟩
  exact zcJ S rr (Option.some.inj e) G (fun x Q hx g => wpAny_pyNext_list_item ⟨io,hI,ic.1,ic.2⟩ hl0 hx fun h' hit' hs => hit'.elim fun o' p => g h' o' p.1 ⟨la,hv,p.2.1,p.2.2⟩ hs) (fun Q hx g => wpAny_pyNext_list_end Y.handled ⟨io,hI,ic.1,ic.2⟩ hl0 hx g)
 | ls a =>
  obtain ⟨la,ha,ic⟩ := R
  obtain ⟨mvs,hm,er⟩ := ms e
  obtain ⟨_,ws,n,e1,ho,rr,hl⟩ := S.list (x:=.ref a) ⟨la,rfl,ha⟩ hm
  cases e1
  have hl0 : s.heap.IsList la ws.toArray := ⟨_,ho,rfl,n,rfl⟩
  exact zcJ S rr er G (fun x Q hx g => wpAny_pyNext_list_item ⟨io,hI,ic.1,ic.2⟩ hl0 hx fun h' hit' hs => hit'.elim fun o' p => g h' o' p.1 ⟨la,ha,p.2.1,p.2.2⟩ hs) (fun Q hx g => wpAny_pyNext_list_end Y.handled ⟨io,hI,ic.1,ic.2⟩ hl0 hx g)
 | tp mvs =>
  obtain ⟨ta,ht,ic⟩ := R
  obtain ⟨_,o,n,ws,e1,ho,hc,hd,rr,hl⟩ := S.tup ht
  cases e1
  have hl0 : IsTup s.heap ta ws.toArray := ⟨o,ho,hc,n,hd⟩
  exact zcJ S rr (Option.some.inj e) G (fun x Q hx g => next_tuple_item ⟨io,hI,ic.1,ic.2⟩ hl0 hx fun h' hit' hs => hit'.elim fun o' p => g h' o' p.1 ⟨ta,ht,p.2.1,p.2.2⟩ hs) (fun Q hx g => next_tuple_end Y.handled ⟨io,hI,ic.1,ic.2⟩ hl0 hx g)
 | sq x =>
  obtain ⟨ok,T,t,hT,ic⟩ := R
  have er := Option.some.inj e
  cases hc : x[i]? with
  | none =>
   rw [hc] at er
   have hvs : (⟨x.toArray⟩ : Str).cps[i]? = none := (List.getElem?_toArray).trans hc
   rcases hT with rfl | rfl
   ·exact wpAny_pyNext_ascii_end Y.handled ⟨io,hI,ic.1,ic.2⟩ hvs fun h' he => G.fin h' er.symm (S.endEx he)
   ·exact wpAny_pyNext_wide_end Y.handled ⟨io,hI,ic.1,ic.2⟩ hvs fun h' he => G.fin h' er.symm (S.endEx he)
  | some c =>
   rw [hc] at er
   have hvs : (⟨x.toArray⟩ : Str).cps[i]? = some c := (List.getElem?_toArray).trans hc
   have hck : ∀ u : Tok,VRel C w (.str [c]) (.str ⟨#[c]⟩ u) := fun u => ⟨u,rfl,fun y hy => List.mem_singleton.mp hy ▸ ok.1 c (List.mem_of_getElem? hc),(by decide : 1 <= lim)⟩
   rcases hT with rfl | rfl
   ·exact wpAny_pyNext_ascii_item ⟨io,hI,ic.1,ic.2⟩ hvs fun h' hit' hs => hit'.elim fun o' p => G.go (.str [c]) _ o' h' _ er.symm (S.setEx hs p.1) ⟨ok,_,t,.inl rfl,p.2.1,p.2.2⟩ (hck _)
   ·exact wpAny_pyNext_wide_item ⟨io,hI,ic.1,ic.2⟩ hvs fun h' hit' hs => hit'.elim fun o' p => G.go (.str [c]) _ o' h' _ er.symm (S.setEx hs p.1) ⟨ok,_,t,.inr rfl,p.2.1,p.2.2⟩ (hck _)
 | dk a n ep =>
  obtain ⟨la,ha,ic,id⟩ := R
  obtain ⟨p,e2,e3⟩ := bs e
  obtain ⟨hc,e4⟩ := gs e3
  have er := Option.some.inj e4
  clear e e3 e4
  have hc := Bool.and_eq_true_iff.mp hc
  obtain ⟨b,n',es,e1,hmod,hep,hg,dr,_,_⟩ := S.dictI ⟨la,rfl,ha⟩ e2
  cases e1
  obtain ⟨hlen,hget⟩ := dr.entries
  cases hep ep (beq_iff_eq.mp hc.1)
  have hn : n = es.length := (beq_iff_eq.mp hc.2).symm.trans hlen.symm
  subst hn
  refine raw_step Y.handled ⟨io,hI,ic,id⟩ hg (fun de h' hde hit' hs => ?_) fun h' hde he => G.fin h' ?_ (S.endEx he)
  ·cases hv : p.2[i]? with
   | none => rw [List.getElem?_eq_none_iff] at hv; rw [List.getElem?_eq_none_iff.mpr (by omega)] at hde; cases hde
   | some q =>
    obtain ⟨de',hde',hr⟩ := hget i q hv
    rw [hde] at hde'
    cases hde'
    rw [hv] at er
    obtain ⟨o',g1,g2,g3⟩ := hit'
    exact G.go q.1 de.key o' h' s.toks er.symm (S.setEx hs g1) ⟨la,ha,g2,g3⟩ hr
  ·rw [<- er,List.getElem?_eq_none_iff.mpr (by rw [<- hlen]; exact List.getElem?_eq_none_iff.mp hde)]; rfl
 | rg n =>
  obtain ⟨left,hl,hl2,rfl⟩ := R
  have er := Option.some.inj e
  cases hin : decide ((i : Int) < n) with
  | true =>
   rw [hin] at er
   have hpos := hl.mpr (of_decide_eq_true hin)
   refine wpAny_pyNext_range_item hI hpos fun h' hit' hs => G.go (.int i) _ _ h' _ er.symm (S.setEx hs hit') ?_ ⟨_,rfl⟩
   have := hl2 hpos
   exact ⟨left - 1,by omega,fun _ => by omega,rfl⟩
  | false =>
   rw [hin] at er
   exact wpAny_pyNext_range_end Y.handled hI (Int.not_lt.mp fun q => absurd (hl.mp q) (of_decide_eq_false hin)) fun h' he => G.fin h' er.symm (S.endEx he)
end
end Mi
namespace Mi
open PySem PySem.W PySem.Calls PyProof.Rows
structure Sy (e : Expr) : Prop where
 star : ∀ rest env,starEach (e :: rest) env = (false,PySem.eval e env) :: starEach rest env
 sub : ∀ o i,subscripted e false o i = operate [o,i] (getItem o i)
 marks : ∀ op,behindInMarks op e = false
 fold : ∀ env x,foldedSetIterable e env x = pure x
 swap : zbQ e = false -> ∀ t n env,swapsWith e t n env = pure false
structure Sd (C : Cfg) (d : Nat) (cx : CC) (e : Expr) (ir : Ex) : Prop where
 es : ESnd C d cx e ir
 ts : TSnd C d cx e ir
 sy : Sy e
noncomputable abbrev Sds (C : Cfg) (d : Nat) (cx : CC) : List Expr -> List Ex -> Prop := All2 (Sd C d cx)
noncomputable def AsSnd (C : Cfg) (d : Nat) (cx : CC) (es : List Expr) (irs : List Ex) : Prop :=
 ∀ (Y : Actv C d 2) (env : Env) (k : Kp) (mE : Str -> Option Value) (fr : Frame) (w : Wd) (H : MH) (s : Shared) (pos : Pos),Pl Y cx env k mE fr w H s -> Ref Y k (VRS C) (spliced (backTo pos (starEach es env))) w s (zbS (C.cx d) irs fr H)
section
variable {C : Cfg} {d e : Nat} {Y : Actv C d e} {k : Kp} {w : Wd} {H : MH} {s : Shared} {cx : CC} {env : Env} {mE : Str -> Option Value} {fr : Frame}
theorem tsnd_plain {e : Expr} {ir : Ex} (h : ESnd C d cx e ir) (he : ∀ (env : Env) (whole : Sem Value),PySem.isTrue e env whole = (do let v <- whole; standAt e.pos; holding [v] (PySem.truthy v))) : TSnd C d cx e ir :=
 fun Y env k mE fr w H s p r => zad fun x H1 e1 => ms_r fun b e2 e => e ▸ fun Q E hq => isTrue_plain (h Y env k mE fr w H s p _ e1 _ _ fun w1 a1 s1 n1 r1 => zbC n1.st r1 e2 fun tk => hq w1 b _ (n1.trans (.toks n1.st tk)) rfl) (he _ _)
theorem zau {pos : Pos} {es : List Expr} {irs : List Ex} (h : Sds C d cx es irs) : (backTo pos (starEach es env)).any (·.1) = false := by
 induction h with
 | nil => rfl
 | cons h _ ih => rw [h.sy.star]; exact ih
theorem zaX {c : Cx} {irs : List Ex} : ∀ {H : MH} {r : List Val × MH},zbS c irs fr H = some r -> r.1.length = irs.length := by
 induction irs with
 | nil => intro H r h; cases h; rfl
 | cons e irs ih => exact fun {H r} => zad fun v h1 e1 => zad fun vs h2 e2 e => Option.some.inj e ▸ congrArg (· + 1) (ih e2)
theorem zbn {es : List Expr} {irs : List Ex} (h : Sds C d cx es irs) : AsSnd C d cx es irs := by
 induction h with
 | nil => intro Y env k mE fr w H s pos p r e; cases e; exact fun Q E hq => args_nil (hq w [] s (.refl p.st) .nil)
 | cons h _ ih =>
  intro Y env k mE fr w H s pos p r
  refine zad fun v H1 e1 => zad fun vs H2 e2 e => ?_
  cases e
  exact fun Q E hq => args_cons (h.es Y env k mE fr w H s p _ e1 _ _ fun w1 a1 s1 n1 r1 => ih Y env k mE fr w1 H1 s1 pos (p.next n1) _ e2 _ _ fun w2 a2 s2 n2 r2 => hq w2 _ s2 (n1.trans n2) (.cons (r1.mono n2.le) r2)) (h.sy.star _ _)
theorem Nxt.newTup {mvs : List Val} {vs : List Value} (S : St Y k w H s) (r : zaa C w mvs vs) (hl : mvs.length <= lim) : ∃ w',Nxt Y k w w' H s { s with heap := s.heap.push { cls := .type "tuple",data := .seq vs.toArray } } /\ VRel C w' (.tup mvs) (.ref s.heap.objs.size) := by
 obtain ⟨all,hn,_,tp,_⟩ := S.ledger
 have le : w.le ⟨w.σ,(s.heap.objs.size,({ cls := .type "tuple",data := .seq vs.toArray } : Obj)) :: w.tp⟩ := ⟨List.prefix_refl _,fun _ x => .tail _ x⟩
 exact ⟨_,⟨le,tp _ _ _ (S.fr.push _) (hn.push S.fr _) (Nat.le_refl _),rfl,rfl⟩,_,_,0,vs,rfl,⟨.inl (.head _),rfl,rfl⟩,r.mono le,hl⟩
theorem snd_tuple {es : List Expr} {irs : List Ex} {n : Nat} {pos : Pos} (h : Sds C d cx es irs) (hi : Nat.ble es.length 1000 = true) : ESnd C d cx (.Tuple es n pos) (.tup irs) := by
 intro Y env k mE fr w H s p r
 refine zad fun vs H1 e1 e => ?_
 cases e
 have hl : vs.length <= lim := by rw [zaX e1,h.length]; exact Nat.le_trans (Nat.ble_eq.mp hi) (by decide)
 refine fun Q E hq => wpAny_Tuple (zbn h Y env k mE fr w H s pos p _ e1 _ _ fun w1 a1 s1 n1 r1 => ⟨by rw [<- r1.length]; exact Nat.le_trans hl lim_line,?_⟩)
 obtain ⟨w2,n2,r2⟩ := Nxt.newTup n1.st r1 hl
 exact hq w2 _ _ (n1.trans n2) r2
theorem snd_list {es : List Expr} {irs : List Ex} {pos : Pos} (h : Sds C d cx es irs) (hi : Nat.ble es.length 1000 = true) : ESnd C d cx (.List es pos) (.list irs) := by
 intro Y env k mE fr w H s p r
 refine zad fun vs H1 e1 e => ?_
 have hl : vs.length <= lim := by rw [zaX e1,h.length]; exact Nat.le_trans (Nat.ble_eq.mp hi) (by decide)
 refine fun Q E hq => wpAny_List (zbn h Y env k mE fr w H s pos p _ e1 _ _ fun w1 a1 s1 n1 r1 => ⟨by rw [<- r1.length]; exact Nat.le_trans hl lim_line,?_⟩)
 cases e
 obtain ⟨all,hn,add,_,_⟩ := n1.st.ledger
 have le : w1.le ⟨w1.σ ++ [s1.heap.objs.size],w1.tp⟩ := ⟨List.prefix_append _ _,fun _ x => x⟩
 exact hq _ _ _ (n1.trans ⟨le,add _ (.list vs) [_] _ ⟨a1,0,rfl,r1.mono le,hl⟩ (n1.st.fr.push _) (hn.push n1.st.fr _) (zbq _) (News.fresh hn fun p hp => List.mem_singleton.mp hp ▸ Nat.le_refl _) (n1.st.four (Nat.le_refl _)),rfl,rfl⟩) ⟨_,rfl,by rw [<- n1.st.len]; exact List.getElem?_concat_length⟩
theorem idx_s {n : Nat} {i : Val} {j : Nat} {v : Value} (hv : VRel C w i v) (h : idx n i = some j) : ∃ z t,v = .int z t /\ 0 <= z /\ z < n /\ j = z.toNat := by
 obtain ⟨z,e1,h⟩ := bs h
 obtain ⟨hb,e⟩ := gs h
 have hb := Bool.and_eq_true_iff.mp hb
 obtain ⟨t,e2⟩ := hv.int? e1
 exact ⟨z,t,e2,of_decide_eq_true hb.1,of_decide_eq_true hb.2,(Option.some.inj e).symm⟩
theorem seqIdx {z : Int} {n : Nat} (h0 : 0 <= z) (h1 : z < n) : seqIndex? z n = some z.toNat := by
 unfold seqIndex?
 simp only [if_neg (Int.not_lt.mpr h0)]
 rw [if_pos (Bool.and_eq_true_iff.mpr ⟨decide_eq_true h0,decide_eq_true h1⟩)]
theorem snd_tail {value sl : Expr} (hsl : Sy sl) (S : St Y k w H s) {x y : Val} {vx vy : Value} (hx : VRel C w x vx) (hy : VRel C w y vy) : Ref Y k (VR C) (subscriptTail value sl vx vy) w s ((subscr H x y).map fun v => (v,H)) := by
 refine .omap fun v e => .val S fun Q E h => ?_
 have lst : ∀ {b : Addr} {mvs : List Val} {ws : List Value},s.heap.IsList b ws.toArray -> zaa C w mvs ws -> mvs.length <= lim -> vx = .ref b -> (idx mvs.length y).bind (fun j => mvs[j]?) = some v -> wpAny C.M Y.A (subscriptTail value sl vx vy) Q E s := by
  intro b mvs ws hL rr hl e1 e
  obtain ⟨j,hj,e⟩ := bs e
  obtain ⟨z,t,rfl,h0,h1,rfl⟩ := idx_s hy hj
  obtain ⟨rv,hr,hv⟩ := rr.get e
  have hl' := zbR hl
  subst e1
  exact tail_any hL.typeIs slot_list_getitem.lookup (wpAny_getItem_list hL h0 (Int.lt_trans h1 hl') (by rw [List.getElem?_toArray]; exact hr) (h rv s.toks hv)) (hsl.sub _ _)
 revert e
 refine zaz (bs_r fun vs e1 => bs_r fun j hj e => ?_) (zaz (bs_r fun vs e1 e => ?_) (zaz (bs_r fun vs e1 e => ?_) (zaz (bs_r fun str e1 => bs_r fun j hj => ms_r fun c hc e => ?_) (bs_r fun p e1 => gs_r fun hf e => ?_))))
 ·cases tup?_s e1
  obtain ⟨z,t,rfl,h0,h1,rfl⟩ := idx_s hy hj
  obtain ⟨b,o,n,ws,rfl,ho,hc,hd,rr,hl⟩ := S.tup hx
  obtain ⟨rv,hr,hv⟩ := rr.get e
  have hl' := zbR hl
  exact item_tupleT (l:=ws) ⟨o,ho,hc,n,hd⟩ (by omega) (Int.lt_trans h1 hl') (seqIdx h0 (by rw [<- rr.length]; exact h1)) hr (h rv s.toks hv) (hsl.sub _ _)
 ·cases fl?_s e1
  obtain ⟨b,o,n,ws,e2,q,rr,hl⟩ := hx
  exact lst ⟨o,S.kIn _ _ q.1,q.2,n,q.3⟩ rr hl e2 e
 ·obtain ⟨b,ws,n,e2,ho,rr,hl⟩ := S.list hx e1
  exact lst ⟨_,ho,rfl,n,rfl⟩ rr hl e2 e
 ·obtain ⟨u,rfl,ok⟩ := hx.str? e1
  obtain ⟨z,t,rfl,h0,h1,rfl⟩ := idx_s hy hj
  have hl' := zbR ok.2
  subst e
  refine tail_any (typeIs_str s ⟨str.toArray⟩ u) F.slot_str_getitem.lookup (P.getItem_str (c:=c) ?_ ?_ (h _ _ ⟨s.toks,rfl,fun y hy => List.mem_singleton.mp hy ▸ ok.1 c (List.mem_of_getElem? hc),(by decide : 1 <= lim)⟩)) (hsl.sub _ _)
  ·rw [decide_eq_false (by omega),decide_eq_false (by omega)]; rfl
  ·rw [show seqIndex? z (⟨str.toArray⟩ : Str).length = some z.toNat from seqIdx h0 h1]
   exact (List.getElem?_toArray).trans hc
 ·obtain ⟨i,_,b,n,es,rfl,_,_,hg,hdr,_,_⟩ := S.dict hx e1
  rcases zbu (Bool.and_eq_true_iff.mp hf).1 with ⟨q,rfl⟩ | ⟨q,rfl⟩
  ·obtain ⟨kvs,D⟩ := hdr.atom hf
   have hD := D.dictOf hg
   rcases D.get q with ⟨q1,_⟩ | ⟨mv,rv,q1,q2,q3⟩
   ·exact nos (q1.symm.trans e)
   ·cases q1.symm.trans e
    exact tail_any hD.typeIs slot_dict_getitem.lookup (wpAny_getItem_of hy.atom.1 hD.mapOf q2 (h rv _ q3)) (hsl.sub _ _)
  ·obtain ⟨xs,D⟩ := hdr.tups hf
   have hD := D.dictOf S hg
   obtain ⟨t,rfl,ht⟩ := S.tupKey hy
   rcases D.get q with ⟨q1,_⟩ | ⟨mv,rv,q1,q2,q3⟩
   ·exact nos (q1.symm.trans e)
   ·cases q1.symm.trans e
    obtain ⟨pp,q4,rfl⟩ := ms q2
    exact tail_any hD.typeIs slot_dict_getitem.lookup (wpAny_getItem_heap Y.room ht hD q4 (h pp.2 _ q3)) (hsl.sub _ _)
theorem snd_sub {v sl : Expr} {ie ii : Ex} {pos : Pos} (hv : ESnd C d cx v ie) (hi : Sd C d cx sl ii) : ESnd C d cx (.Subscript v sl pos) (.sub ie ii) :=
 fun Y env k mE fr w H s p r => zad fun x H1 e1 => zad fun y H2 e2 e Q E hq => Subscript_ (hv Y env k mE fr w H s p _ e1 _ _ fun w1 a1 s1 n1 r1 => hi.es Y env k mE fr w1 H1 s1 (p.next n1) _ e2 _ _ fun w2 a2 s2 n2 r2 =>
  snd_tail hi.sy n2.st (r1.mono n2.le) r2 r e _ _ fun w3 a3 s3 n3 r3 => hq w3 a3 s3 ((n1.trans n2).trans n3) r3)
theorem snd_compare (K : zda C) {l r : Expr} {op : CmpOp} {il ir : Ex} {pos : Pos} (hl : ESnd C d cx l il) (hr : Sd C d cx r ir) : ESnd C d cx (.Compare l [op] [r] pos) (.cmp (copOf op) il ir) :=
 fun Y env k mE fr w H s p r => zad fun x H1 e1 => zad fun y H2 e2 e Q E hq => wpAny_Compare1 (hl Y env k mE fr w H s p _ e1 _ _ fun w1 a1 s1 n1 r1 => hr.es Y env k mE fr w1 H1 s1 (p.next n1) _ e2 _ _ fun w2 a2 s2 n2 r2 =>
  snd_cmp K n2.st (r1.mono n2.le) r2 r e _ _ fun w3 a3 s3 n3 r3 => hq w3 a3 s3 ((n1.trans n2).trans n3) r3) (hr.sy.marks _)
theorem tsnd_compare (K : zda C) {l r : Expr} {op : CmpOp} {il ir : Ex} {pos : Pos} (hl : ESnd C d cx l il) (hr : Sd C d cx r ir) : TSnd C d cx (.Compare l [op] [r] pos) (.cmp (copOf op) il ir) := by
 intro Y env k mE fr w H s p r
 refine zad fun v H' e0 => ms_r fun b et e => ?_
 revert e0
 refine zad fun x H1 e1 => zad fun y H2 e2 => ms_r fun c e3 e4 => ?_
 cases e4
 cases et
 subst e
 exact fun Q E hq => wpAny_isTrue_Compare1 (hl Y env k mE fr w H s p _ e1 _ _ fun w1 a1 s1 n1 r1 => hr.es Y env k mE fr w1 H1 s1 (p.next n1) _ e2 _ _ fun w2 a2 s2 n2 r2 =>
  snd_cmp K n2.st (r1.mono n2.le) r2 (.bool b,H') (by rw [e3]; rfl) _ _ fun w3 a3 s3 n3 r3 => by rw [show a3 = .bool b from r3]; exact wpAny_truthy_bool (hq w3 b s3 ((n1.trans n2).trans n3) rfl)) (hr.sy.marks _)
theorem snd_not {x : Expr} {ix : Ex} {pos : Pos} (hx : ESnd C d cx x ix) : ESnd C d cx (.UnaryOp .Not x pos) (.not ix) := by
 intro Y env k mE fr w H s p r
 refine zad fun b H1 e0 e => ?_
 revert e0
 refine zad fun x' H1' e1 => ms_r fun b' e2 e3 => ?_
 cases e3; cases e
 exact fun Q E hq => wpAny_bind (hx Y env k mE fr w H s p _ e1 _ _ fun w1 a1 s1 n1 r1 => wpAny_bind (wpAny_standAt (wpAny_holding (not_value (zbC n1.st r1 e2 fun tk => hq w1 _ _ (n1.trans (.toks n1.st tk)) rfl)))))
theorem tsnd_not {x : Expr} {ix : Ex} {pos : Pos} (hx : TSnd C d cx x ix) : TSnd C d cx (.UnaryOp .Not x pos) (.not ix) := by
 intro Y env k mE fr w H s p r
 refine zad fun v H' e0 => ms_r fun b et e => ?_
 revert e0
 refine zad fun b' H1 e1 e2 => ?_
 cases e2; cases et; subst e
 exact fun Q E hq => isTrue_not (hx Y env k mE fr w H s p _ e1 _ _ fun w1 a1 s1 n1 r1 => by rw [show a1 = b' from r1]; exact hq w1 _ s1 n1 rfl)
theorem snd_ite {t x y : Expr} {it ix iy : Ex} {pos : Pos} (ht : TSnd C d cx t it) (hx : ESnd C d cx x ix) (hy : ESnd C d cx y iy) : ESnd C d cx (.IfExp t x y pos) (.ite it ix iy) := by
 intro Y env k mE fr w H s p r
 refine zad fun b H1 e1 e => ?_
 refine fun Q E hq => wpAny_bind (ht Y env k mE fr w H s p _ e1 _ _ fun w1 a1 s1 n1 r1 => ?_)
 rw [show a1 = b from r1]
 cases b with
 | true => exact hx Y env k mE fr w1 H1 s1 (p.next n1) _ e _ _ fun w2 a2 s2 n2 r2 => hq w2 a2 s2 (n1.trans n2) r2
 | false => exact hy Y env k mE fr w1 H1 s1 (p.next n1) _ e _ _ fun w2 a2 s2 n2 r2 => hq w2 a2 s2 (n1.trans n2) r2
theorem tsnd_ite {t x y : Expr} {it ix iy : Ex} {pos : Pos} (ht : TSnd C d cx t it) (hx : TSnd C d cx x ix) (hy : TSnd C d cx y iy) : TSnd C d cx (.IfExp t x y pos) (.ite it ix iy) := by
 intro Y env k mE fr w H s p r
 refine zad fun v H' e0 e => ?_
 revert e0
 refine zad fun b H1 e1 e0 => ?_
 refine fun Q E hq => isTrue_IfExp (ht Y env k mE fr w H s p _ e1 _ _ fun w1 a1 s1 n1 r1 => ?_)
 rw [show a1 = b from r1]
 cases b with
 | true => exact hx Y env k mE fr w1 H1 s1 (p.next n1) r (by show zas (eval _ _ _ _) = _; rw [show eval (C.cx d) ix fr H1 = some (v,H') from e0]; exact e) _ _ fun w2 a2 s2 n2 r2 => hq w2 a2 s2 (n1.trans n2) r2
 | false => exact hy Y env k mE fr w1 H1 s1 (p.next n1) r (by show zas (eval _ _ _ _) = _; rw [show eval (C.cx d) iy fr H1 = some (v,H') from e0]; exact e) _ _ fun w2 a2 s2 n2 r2 => hq w2 a2 s2 (n1.trans n2) r2
theorem snd_bop {op : BoolOp} {pos : Pos} {es : List Expr} {irs : List Ex} (h : Sds C d cx es irs) : ∀ (Y : Actv C d 2) (env : Env) (k : Kp) (mE : Str -> Option Value) (fr : Frame) (w : Wd) (H : MH) (s : Shared),Pl Y cx env k mE fr w H s -> Ref Y k (VR C) (boolOp pos op (evalEach es env)) w s (evalB (C.cx d) (op == .Or) irs fr H) := by
 induction h with
 | nil => exact fun Y env k mE fr w H s p => .none
 | @cons ex i es irs he hs ih =>
  intro Y env k mE fr w H s p r
  refine zad fun v H1 e1 e => ?_
  cases hs with
  | nil => cases e; exact he.es Y env k mE fr w H s p _ e1
  | @cons e' i' es' irs' he' hs' =>
   revert e
   refine bs_r fun b e2 e => ?_
   intro Q E hq
   show wpAny C.M Y.A (do
    let v <- PySem.eval ex env
    standAt pos
    let t <- holding [v] (PySem.truthy v)
    match op,t with
    | .And,false | .Or,true => pure v
    | _,_ => boolOp pos op (evalEach (e' :: es') env)) Q E s
   refine wpAny_bind (he.es Y env k mE fr w H s p _ e1 _ _ fun w1 a1 s1 n1 r1 => wpAny_bind (wpAny_standAt (wpAny_bind (wpAny_holding (zbC n1.st r1 e2 fun tk => ?_)))))
   have n2 := n1.trans (.toks n1.st tk)
   have stop : some (v,H1) = some r -> wpAny C.M Y.A (pure a1) Q E { s1 with toks := tk } := fun e => by cases e; exact wpAny_pure (hq w1 a1 _ n2 r1)
   have go : evalB (C.cx d) (op == .Or) (i' :: irs') fr H1 = some r -> wpAny C.M Y.A (boolOp pos op (evalEach (e' :: es') env)) Q E { s1 with toks := tk } := fun e => ih Y env k mE fr w1 H1 _ (p.next n2) r e Q E fun w2 a2 s2 n3 r2 => hq w2 a2 s2 (n2.trans n3) r2
   cases op <;> cases b
   ·exact stop e
   ·exact go e
   ·exact go e
   ·exact stop e
theorem tsnd_bop {op : BoolOp} {es : List Expr} {irs : List Ex} (h : Sds C d cx es irs) : ∀ (Y : Actv C d 2) (env : Env) (k : Kp) (mE : Str -> Option Value) (fr : Frame) (w : Wd) (H : MH) (s : Shared),Pl Y cx env k mE fr w H s -> Ref Y k EqR (allTrue op es env) w s (zas (evalB (C.cx d) (op == .Or) irs fr H)) := by
 induction h with
 | nil => exact fun Y env k mE fr w H s p => .none
 | @cons ex i es irs he hs ih =>
  intro Y env k mE fr w H s p r
  refine zad fun v H' e0 => ms_r fun b et e => ?_
  revert e0
  refine zad fun v1 H1 e1 e2 => ?_
  -- the first test
  have first : ∀ c,truthy H1 v1 = some c -> ∀ {Q : Bool -> Shared -> Prop} {E : Value -> Shared -> Prop},(∀ w1 s1,Nxt Y k w w1 H1 s s1 -> Q c s1) -> wpAny C.M Y.A (PySem.isTrue ex env (PySem.eval ex env)) Q E s := fun c hc Q E hq =>
   he.ts Y env k mE fr w H s p (c,H1) (by show bnd (eval _ _ _ _) _ = _; rw [show eval (C.cx d) i fr H = some (v1,H1) from e1]; show Option.map _ (truthy H1 v1) = _; rw [hc]; rfl) Q E fun w1 a1 s1 n1 r1 => by rw [show a1 = c from r1]; exact hq w1 s1 n1
  subst e
  intro Q E hq
  cases hs with
  | nil =>
   cases e2
   cases op with
   | And =>
    refine wpAny_allTrue_And_cons (first b et fun w1 s1 n1 => ?_)
    cases b with
    | true => exact wpAny_allTrue_And_nil (hq w1 _ s1 n1 rfl)
    | false => exact hq w1 _ s1 n1 rfl
   | Or =>
    refine wpAny_allTrue_Or_cons (first b et fun w1 s1 n1 => ?_)
    cases b with
    | true => exact hq w1 _ s1 n1 rfl
    | false => exact wpAny_allTrue_Or_nil (hq w1 _ s1 n1 rfl)
  | @cons e' i' es' irs' he' hs' =>
   obtain ⟨c,e3,e4⟩ := bs e2
   have stop : some (v1,H1) = some (v,H') -> c = b /\ H1 = H' := fun q => by
    cases q
    exact ⟨Option.some.inj (e3.symm.trans et),rfl⟩
   have go : ∀ w1 s1,Nxt Y k w w1 H1 s s1 -> evalB (C.cx d) (op == .Or) (i' :: irs') fr H1 = some (v,H') -> wpAny C.M Y.A (allTrue op (e' :: es') env) Q E s1 := fun w1 s1 n1 q =>
    ih Y env k mE fr w1 H1 s1 (p.next n1) (b,H') (by show bnd (evalB _ _ _ _ _) _ = _; rw [q]; show Option.map _ (truthy H' v) = _; rw [et]; rfl) Q E fun w2 a2 s2 n2 r2 => hq w2 a2 s2 (n1.trans n2) r2
   cases op with
   | And =>
    refine wpAny_allTrue_And_cons (first c e3 fun w1 s1 n1 => ?_)
    cases c with
    | true => exact go w1 s1 n1 e4
    | false => obtain ⟨rfl,rfl⟩ := stop e4; exact hq w1 _ s1 n1 rfl
   | Or =>
    refine wpAny_allTrue_Or_cons (first c e3 fun w1 s1 n1 => ?_)
    cases c with
    | true => obtain ⟨rfl,rfl⟩ := stop e4; exact hq w1 _ s1 n1 rfl
    | false => exact go w1 s1 n1 e4
end
end Mi
namespace Mi
open PySem PySem.W PySem.Calls PyProof.Rows
section
variable {C : Cfg} {d e : Nat} {Y : Actv C d e} {k : Kp} {w : Wd} {H : MH} {s : Shared} {cx : CC} {env : Env} {mE : Str -> Option Value} {fr : Frame}
structure PutO (C : Cfg) (w : Wd) {α : Type} (mk : α -> Val) (mes : List (Val × Val)) (kvs : List (α × Value)) : Prop where
 e : mes.map (·.1) = kvs.map (fun p => mk p.1)
 r : zaa C w (mes.map (·.2)) (kvs.map (·.2))
theorem put_sides {α : Type} [DecidableEq α] {mk : α -> Val} (hmk : ∀ a b,kEq (mk a) (mk b) = decide (a = b)) (k : α) {mv : Val} {rv : Value} (hv : VRel C w mv rv) {mes : List (Val × Val)} {kvs : List (α × Value)} (P : PutO C w mk mes kvs) (hany : (dget mes (mk k)).isSome = kvs.any (fun kv => kv.1 = k)) :
  PutO C w mk (dput mes (mk k) mv) (stored kvs k rv) := by
 unfold dput stored
 rw [hany]
 cases hc : kvs.any (fun kv => decide (kv.1 = k)) with
 | false =>
  refine ⟨?_,?_⟩
  ·show (mes ++ [_]).map _ = (kvs ++ [_]).map _
   rw [List.map_append,List.map_append,P.e]; rfl
  ·show zaa C w ((mes ++ [_]).map _) ((kvs ++ [_]).map _)
   rw [List.map_append,List.map_append]
   exact zaa.append (.one hv) P.r
 | true =>
  obtain ⟨e,r⟩ := P
  clear hc hany
  show PutO C w mk (mes.map _) (kvs.map _)
  induction kvs generalizing mes with
  | nil => rw [List.map_eq_nil_iff.mp e]; exact ⟨rfl,.nil⟩
  | cons y kvs ih =>
   cases mes with
   | nil => cases e
   | cons x mes =>
    obtain ⟨e1,e2⟩ := List.cons.inj e
    obtain ⟨v,t,ev,h,r⟩ := r
    obtain ⟨rfl,rfl⟩ := List.cons.inj ev
    obtain ⟨i1,i2⟩ := ih e2 r
    have e1 : x.1 = mk y.1 := e1
    have hk : kEq x.1 (mk k) = decide (y.1 = k) := by rw [e1,hmk]
    by_cases q : y.1 = k
    ·rw [decide_eq_true q] at hk
     refine ⟨?_,?_⟩
     ·show (bif kEq x.1 (mk k) then _ else _ : Val × Val).1 :: _ = _
      rw [i1,hk,List.map_cons,List.map_cons,if_pos q]
      exact congrArg (· :: _) e1
     ·show zaa C w ((bif kEq x.1 (mk k) then _ else _ : Val × Val).2 :: _) _
      rw [hk,List.map_cons,List.map_cons,if_pos q]
      exact .cons hv i2
    ·rw [decide_eq_false q] at hk
     refine ⟨?_,?_⟩
     ·show (bif kEq x.1 (mk k) then _ else _ : Val × Val).1 :: _ = _
      rw [i1,hk,List.map_cons,List.map_cons,if_neg q]
      exact congrArg (· :: _) e1
     ·show zaa C w ((bif kEq x.1 (mk k) then _ else _ : Val × Val).2 :: _) _
      rw [hk,List.map_cons,List.map_cons,if_neg q]
      exact .cons h i2
theorem dput_len (mes : List (Val × Val)) (k v : Val) : (dput mes k v).length = (bif (dget mes k).isSome then mes.length else mes.length + 1) := by
 unfold dput
 cases (dget mes k).isSome with
 | true => exact List.length_map ..
 | false => exact List.length_append
theorem dput_le {mes : List (Val × Val)} {k v : Val} {n : Nat} (h : mes.length < n) : (dput mes k v).length <= n := by
 rw [dput_len]
 cases (dget mes k).isSome with
 | true => exact Nat.le_of_lt h
 | false => exact h
theorem zck {α : Type} [DecidableEq α] (kvs : List (α × Value)) (k : α) : (valueAt kvs k).isSome = kvs.any (fun kv => kv.1 = k) := by
 unfold valueAt
 rw [Option.isSome_map,Bool.eq_iff_iff,List.find?_isSome,List.any_eq_true]
theorem wp_put {A : Around} (S : St Y k w H s) (hu : A.units + 1 < cLine) {D : Addr} {mes : List (Val × Val)} {es : List DictEntry} {n : Nat} (hob : s.heap.get? D = some (dictOf es n)) (j : DRel C w mes es) {x v : Val} {kv vv : Value} (hf : zaj mes x = true) (hlen : mes.length < lim) (hk : VRel C w x kv) (hv : VRel C w v vv)
  {Q : Unit -> Shared -> Prop} {E : Value -> Shared -> Prop}
  (h : ∀ es' h' tk,Heap.SameBut D s.heap h' -> h'.get? D = some (dictOf es' (bif (dget mes x).isSome then n else n + 1)) -> DRel C w (dput mes x v) es' -> Q () { s with heap := h',toks := tk }) : wpAny C.M A (dictSet D kv vv) Q E s := by
 have ci : ∀ {b : Bool} {x y : Nat},(if b = true then x else y) = (bif b then x else y) := fun {b x y} => by cases b <;> rfl
 rcases zbu (Bool.and_eq_true_iff.mp hf).1 with ⟨q,rfl⟩ | ⟨q,rfl⟩
 ·obtain ⟨kvs,DD⟩ := j.atom hf
  obtain ⟨h1,h2⟩ := hk.atom
  have hl : es.length <= sizeLine := by rw [(DRel.entries (.inl ⟨kvs,DD⟩)).1]; exact Nat.le_trans (Nat.le_of_lt hlen) lim_line
  have hany := (DD.get q).isSome.trans (zck kvs q)
  refine wp_dictSet (knd:=zaw C.prog C.w) h1 hob DD.k DD.p DD.n hl fun es' f hfe q1 q2 q3 => ?_
  rw [<- hany,ci] at hfe
  have P := put_sides kEq_atom q hv ⟨DD.e,DD.r⟩ hany
  refine h es' _ _ (Heap.SameBut.update ..) ?_ (.inl ⟨_,q2,q1,q3,P.e,fun p hp => ?_,P.r⟩)
  ·rw [<- hfe]
   exact Heap.get?_update_self _ hob (by rw [hfe]; rfl)
  ·unfold stored at hp
   split at hp
   ·obtain ⟨q,hq,rfl⟩ := List.mem_map.mp hp
    split <;> exact DD.ok q hq
   ·rcases List.mem_append.mp hp with hp | hp
    ·exact DD.ok p hp
    ·rw [List.mem_singleton.mp hp]; exact h2
 ·obtain ⟨xs,DD⟩ := j.tups hf
  obtain ⟨t,rfl,ht⟩ := S.tupKey hk
  have hl : xs.length <= sizeLine := by rw [<- len_e DD.e]; exact Nat.le_trans (Nat.le_of_lt hlen) lim_line
  refine wp_dictSetH (knd:=tupleKind (zaw C.prog C.w)) (show A.units < cLine from Nat.lt_of_succ_lt hu) ht (DD.es ▸ hob) (DD.keys S) DD.n hl fun f hfe q3 => ?_
  have hany := (DD.get q).isSome
  rw [Option.isSome_map] at hany
  rw [<- hany,ci] at hfe
  have P := put_sides (mk:=fun as : List Atom => Val.tup (as.map Atom.val)) kEq_tup q hv ⟨DD.sides.1,DD.sides.2⟩ (by rw [<- zck,valueAt_kvsOf,Option.isSome_map]; exact hany)
  rw [<- kvsOf_storedH xs q t vv] at P
  refine h _ _ _ (Heap.SameBut.update ..) ?_ (.inr ⟨_,rfl,q3,fun x hx => ?_,?_,?_⟩)
  ·rw [<- hfe,<- DD.es]
   exact Heap.get?_update_self _ hob (by rw [DD.es,hfe]; rfl)
  ·rcases mem_storedH hx with ⟨y,hy,q1,q2⟩ | ⟨q1,q2⟩
   ·rw [q1,q2]; exact DD.v y hy
   ·rw [q1,q2]; exact hk
  ·rw [P.e]; simp [kvsOf]
  ·have := P.r
   simpa [kvsOf,Function.comp_def] using this
theorem Pl.ext (p : Pl Y cx env k mE fr w H s) {q : Addr × Obj} {s' : Shared} (S : St Y (k.ext q) w H s') : Pl Y cx env (k.ext q) mE fr w H s' :=
 ⟨⟨p.b.kind,p.b.gl,p.b.bl,p.b.sc,p.b.cells,p.b.loc.imp id fun ⟨o,h⟩ => ⟨o,.tail _ h.1,h.2⟩⟩,p.f,S⟩
noncomputable def flatP : List (Value × Value) -> List Value
 | [] => []
 | p :: r => p.1 :: p.2 :: flatP r
theorem flatP_len (ws : List (Value × Value)) : (flatP ws).length = 2 * ws.length := by
 induction ws with
 | nil => rfl
 | cons p ws ih => rw [List.length_cons,Nat.mul_succ]; exact congrArg (· + 2) ih
noncomputable abbrev SdK (C : Cfg) (d : Nat) (cx : CC) (o : Option Expr) (i : Ex) : Prop := ∃ e,o = some e /\ Sd C d cx e i
theorem snd_pairs {pos : Pos} {ks : List (Option Expr)} {ia : List Ex} (hk : All2 (SdK C d cx) ks ia) : ∀ {vs : List Expr} {ib : List Ex},Sds C d cx vs ib -> ks.length = vs.length -> ∀ (Y : Actv C d 2) (env : Env) (k : Kp) (mE : Str -> Option Value) (fr : Frame) (w : Wd) (H : MH) (s : Shared),Pl Y cx env k mE fr w H s ->
  Ref Y k (fun w l ws => zaa C w l (flatP ws)) (evalPairs (pairTrees ks vs env pos)) w s (zbS (C.cx d) (zipKV ia ib) fr H) := by
 induction hk with
 | nil =>
  intro vs ib hv hl Y env k mE fr w H s p r e
  cases hv with
  | nil => cases e; exact fun Q E hq => evalPairs_nil (hq w [] s (.refl p.st) .nil)
  | cons _ _ => cases hl
 | cons hk _ ih =>
  intro vs ib hv hl Y env k mE fr w H s p r
  cases hv with
  | nil => cases hl
  | @cons v b vs ib hv hvs =>
   obtain ⟨ke,rfl,hk⟩ := hk
   refine zad fun x H1 e1 => zad fun l H2 e0 e => ?_
   revert e0
   refine zad fun y H3 e2 => zad fun l' H4 e3 e4 => ?_
   cases e4; cases e
   exact fun Q E hq => evalPairs_cons (hk.es Y env k mE fr w H s p _ e1 _ _ fun w1 a1 s1 n1 r1 => wpAny_bind (hv.es Y env k mE fr w1 H1 s1 (p.next n1) _ e2 _ _ fun w2 a2 s2 n2 r2 => wpAny_bind (wpAny_standAt (wpAny_pure
    (ih hvs (Nat.succ.inj hl) Y env k mE fr w2 H3 s2 ((p.next n1).next n2) _ e3 _ _ fun w3 a3 s3 n3 r3 => hq w3 ((a1,a2) :: a3) s3 ((n1.trans n2).trans n3) (.cons (r1.mono (n2.le.trans n3.le)) (.cons (r2.mono n3.le) r3)))))))
theorem store_go {D : Addr} : ∀ {ws : List (Value × Value)} {l : List Val} {mes mes' : List (Val × Val)} {es : List DictEntry} {s : Shared} {Q : PUnit -> Shared -> Prop} {E : Value -> Shared -> Prop},
  zaa C w l (flatP ws) -> dpairs l mes = some mes' -> mes.length + ws.length <= 1000 -> St Y (k.ext (D,dictOf es mes.length)) w H s -> DRel C w mes es ->
  (∀ es' s',St Y (k.ext (D,dictOf es' mes'.length)) w H s' -> DRel C w mes' es' -> Same s s' -> Q PUnit.unit s') -> wpAny C.M Y.A (storeAll D ws) Q E s := by
 intro ws
 induction ws with
 | nil =>
  intro l mes mes' es s Q E r e _ S j hq
  cases l with
  | nil => cases e; exact wpAny_pure (hq es s S j (.refl s))
  | cons _ _ => obtain ⟨_,_,e,_,_⟩ := r; cases e
 | cons p ws ih =>
  intro l mes mes' es s Q E r e hl S j hq
  cases l with
  | nil => cases r
  | cons x l =>
   obtain ⟨kv,t,e1,hk,r⟩ := r
   cases e1
   cases l with
   | nil => cases r
   | cons v l =>
    obtain ⟨vv,t,e1,hv,r⟩ := r
    cases e1
    obtain ⟨hf,e⟩ := gs e
    have hl' : mes.length < 1000 := Nat.lt_of_lt_of_le (Nat.lt_add_of_pos_right (Nat.succ_pos _)) hl
    unfold storeAll
    rw [List.forIn_cons]
    refine wpAny_bind (wpAny_bind (wp_put S (Y.u (n:=1) (by decide)) S.exHead.1 j hf (Nat.lt_trans hl' (by decide)) hk hv fun es' h' tk hs hg j' => wpAny_pure ?_))
    rw [<- dput_len (v:=v)] at hg
    refine ih (s:={ s with heap := h',toks := tk }) r e ?_ (S.setEx hs hg) j' fun es'' s'' S'' j'' sm => hq es'' s'' S'' j'' ⟨sm.1,sm.2⟩
    exact Nat.le_trans (Nat.add_le_add_right (dput_le (Nat.lt_succ_self _)) _) (by rw [Nat.succ_add_eq_add_succ]; exact hl)
theorem zip_len {ks : List (Option Expr)} {ia : List Ex} (hk : All2 (SdK C d cx) ks ia) : ∀ {ib : List Ex},ib.length = ks.length -> ks.all (·.isSome) = true /\ (zipKV ia ib).length = 2 * ks.length := by
 induction hk with
 | nil => exact fun _ => ⟨rfl,rfl⟩
 | cons h _ ih =>
  intro ib hl
  cases ib with
  | nil => cases hl
  | cons b ib =>
   obtain ⟨_,rfl,_⟩ := h
   obtain ⟨q1,q2⟩ := ih (Nat.succ.inj hl)
   exact ⟨q1,by rw [List.length_cons,Nat.mul_succ,<- q2]; rfl⟩
theorem snd_dict {ks : List (Option Expr)} {vs : List Expr} {ia ib : List Ex} {pos : Pos} (hk : All2 (SdK C d cx) ks ia) (hv : Sds C d cx vs ib) (hl : ks.length = vs.length) : ESnd C d cx (.Dict ks vs pos) (.dict (zipKV ia ib)) := by
 intro Y env k mE fr w H s p r
 refine zad fun l H1 e1 => bs_r fun es e2 => gs_r fun hlen e => ?_
 cases e
 have hlen := Nat.ble_eq.mp hlen
 obtain ⟨hall,hz⟩ := zip_len hk (hv.length.trans hl.symm)
 intro Q E hq
 have S0 := p.st.addEx { cls := .type "dict",data := .dict #[] } rfl
 have fin : ∀ {w' : Wd} {des : List DictEntry} {s' : Shared},w.le w' -> St Y (k.ext (s.heap.objs.size,dictOf des es.length)) w' H1 s' -> DRel C w' es des -> es.length <= lim -> Same s s' -> Q (.ref s.heap.objs.size) s' := fun {w' des s'} le S' j' hl sm =>
  have le2 : w'.le ⟨w'.σ ++ [s.heap.objs.size],w'.tp⟩ := ⟨List.prefix_append _ _,fun _ x => x⟩
  hq _ _ s' ⟨le.trans le2,S'.fromEx (p.st.four (Nat.le_refl _)) ⟨des,_,rfl,fun e he => Option.some.inj he,j'.mono le2,hl⟩,sm⟩ ⟨_,rfl,by rw [<- S'.len]; exact List.getElem?_concat_length⟩
 by_cases h0 : ks = []
 ·subst h0
  cases hk
  have hvs : vs = [] := List.length_eq_zero_iff.mp hl.symm
  subst hvs
  cases hv
  cases e1
  cases e2
  exact wpAny_Dict_empty (fin (s' := { s with heap := s.heap.push { cls := .type "dict",data := .dict #[] } }) (.refl w) S0 (.inl ⟨[],.nil⟩) (Nat.zero_le _) ⟨rfl,rfl⟩)
 ·refine wpAny_Dict_any hall hl h0 (by omega) (snd_pairs hk hv hl Y env _ mE fr w H _ (p.ext S0) _ e1 _ _ fun w1 ws s1 n1 r1 => ?_)
  have hws : l.length = 2 * ws.length := by rw [<- flatP_len]; exact r1.length
  have hel : l.length = (zipKV ia ib).length := zaX e1
  have hsz : ∀ {l : List Val} {mes mes' : List (Val × Val)},dpairs l mes = some mes' -> mes'.length <= mes.length + l.length := by
   intro l mes mes' e
   fun_induction dpairs l mes with
   | case1 => cases e; exact Nat.le_refl _
   | case2 => cases e
   | case3 es k v r ih =>
    obtain ⟨_,e⟩ := gs e
    refine Nat.le_trans (ih e) (Nat.le_trans (Nat.add_le_add_right (dput_le (Nat.lt_succ_self _)) _) ?_)
    simp only [List.length_cons]; omega
  have hes := hsz e2
  exact store_go (mes:=[]) (es:=[]) r1 e2 (by rw [List.length_nil]; omega) n1.st (.inl ⟨[],.nil⟩) fun des s' S' j' sm => fin n1.le S' j' (by rw [List.length_nil] at hes; exact Nat.le_trans hes (Nat.le_trans (by omega : _ <= 30) (by decide))) (Same.trans (b:=s1) ⟨n1.same.1,n1.same.2⟩ sm)
theorem txt_slice (s : List Nat) {l u : Option Int} (hl : ∀ i,l = some i -> 0 <= i) (hu : ∀ i,u = some i -> 0 <= i) :
  Txt.slice ⟨s.toArray⟩ l u = ⟨(cut s (l.elim 0 (fun i => min i.toNat s.length)) (u.elim s.length (fun i => min i.toNat s.length))).toArray⟩ := by
 have hlen : (⟨s.toArray⟩ : Str).length = s.length := rfl
 generalize ha : l.elim 0 (fun i => min i.toNat s.length) = a
 generalize hb : u.elim s.length (fun i => min i.toNat s.length) = b
 have hbn : b <= s.length := by
  cases u with
  | none => exact Nat.le_of_eq hb.symm
  | some j => exact hb ▸ Nat.min_le_right _ _
 have hidx : Builtin.Str.strSliceIndices l u 1 s.length = (List.range (b - a)).map (a + ·) := by
  rw [<- sliceRange_one]
  unfold Builtin.Str.strSliceIndices
  simp only [show (1 : Int) > 0 by decide,if_true]
  congr 1
  ·cases l with
   | none => exact congrArg Nat.cast ha
   | some i =>
    have := hl i rfl
    simp only [Option.elim] at ha
    show max 0 (min (if i < 0 then i + (s.length : Int) else i) (s.length : Int)) = (a : Int)
    rw [if_neg (by omega)]
    omega
  ·cases u with
   | none => exact congrArg Nat.cast hb
   | some i =>
    have := hu i rfl
    simp only [Option.elim] at hb
    show max 0 (min (if i < 0 then i + (s.length : Int) else i) (s.length : Int)) = (b : Int)
    rw [if_neg (by omega)]
    omega
 unfold Txt.slice
 rw [hlen,hidx]
 have hpick : (List.map (fun x => a + x) (List.range (b - a))).filterMap (fun x => (⟨s.toArray⟩ : Str).cps[x]?) = (s.drop a).take (b - a) := pick_run s.toArray a (b - a)
 have hcut : cut s a b = (s.drop a).take (b - a) := by unfold cut; rw [List.drop_take]
 rw [hpick,hcut]
 split
 ·rename_i h
  simp only [beq_self_eq_true,Bool.true_and,beq_iff_eq,List.length_map,List.length_range] at h
  by_cases h0 : s.length = 0
  ·rw [List.length_eq_zero_iff.mp h0]; simp
  ·rw [show a = 0 by omega,show b = s.length by omega]; simp
 ·rfl
theorem zaa.cut {ms : List Val} {vs : List Value} (r : zaa C w ms vs) (a b : Nat) : zaa C w (Mi.cut ms a b) (Mi.cut vs a b) := by
 have hd : ∀ {ms : List Val} {vs : List Value},zaa C w ms vs -> ∀ b,zaa C w (ms.drop b) (vs.drop b) := by
  intro ms
  induction ms with
  | nil => intro vs r b; cases r; simp only [List.drop_nil]; exact .nil
  | cons x ms ih =>
   intro vs r b
   cases b with
   | zero => exact r
   | succ b => obtain ⟨v,t,rfl,_,r⟩ := r; exact ih r b
 have ht : ∀ {ms : List Val} {vs : List Value},zaa C w ms vs -> ∀ b,zaa C w (ms.take b) (vs.take b) := by
  intro ms
  induction ms with
  | nil => intro vs r b; cases r; simp only [List.take_nil]; exact .nil
  | cons x ms ih =>
   intro vs r b
   cases b with
   | zero => exact .nil
   | succ b => obtain ⟨v,t,rfl,h,r⟩ := r; exact .cons h (ih r b)
 exact hd (ht r b) a
structure BdO (C : Cfg) (v : Value) (l : Option Int) : Prop where
 nn : ∀ i,l = some i -> 0 <= i
 p : (l = none /\ v = .none) \/ ∃ i t,l = some i /\ v = .int i t
theorem BdO.none : BdO C .none none := ⟨fun _ q => nos q,.inl ⟨rfl,rfl⟩⟩
theorem zc1 {n c : Nat} {x : Val} {v : Value} (hv : VRel C w x v) (h : zbI n x = some c) : ∃ i,BdO C v (some i) /\ c = min i.toNat n := by
 obtain ⟨i,e1,h⟩ := bs h
 obtain ⟨hb,e⟩ := gs h
 obtain ⟨t,e2⟩ := hv.int? e1
 exact ⟨i,⟨fun j q => Option.some.inj q ▸ of_decide_eq_true hb,.inr ⟨i,t,rfl,e2⟩⟩,(Option.some.inj e).symm⟩
theorem cut_sOk {x : List Nat} {a b : Nat} (h : sOk x) : sOk (cut x a b) :=
 ⟨fun c hc => h.1 c (List.mem_of_mem_take (List.mem_of_mem_drop hc)),Nat.le_trans (by unfold cut; rw [List.length_drop,List.length_take]; omega) h.2⟩
theorem snd_cut {value : Expr} {lo' hi' : Option Expr} {sp : Pos} (hc : (za1 value).isSome = true) {s0 : Shared} (S : St Y k w H s0) {o : Val} {ov vl vu : Value} {n' : Nat} {bvs : List Val} (ho : VRel C w o ov)
  (hb : ∀ n p,bounds n n' bvs = some p -> ∃ l u,BdO C vl l /\ BdO C vu u /\ p = (l.elim 0 (fun i => min i.toNat n),u.elim n (fun i => min i.toNat n))) (hs : s = { s0 with heap := s0.heap.push { cls := .type "slice",data := .fields #[vl,vu,.none] } }) {r : Val × MH} (e : slice H o n' bvs = some r) {Q : Value -> Shared -> Prop} {E : Value -> Shared -> Prop}
  (hq : ∀ w' a s',Nxt Y k w w' r.2 s0 s' -> VRel C w' r.1 a -> Q a s') : wpAny C.M Y.A (subscriptTail value (.Slice lo' hi' none sp) ov (.ref s0.heap.objs.size)) Q E s := by
 subst hs
 have hgo : ∀ o r,letTemporaryGo value o r = pure () := by
  obtain ⟨p,hp⟩ := Option.isSome_iff_exists.mp hc
  rw [za9 hp]; exact fun _ _ => rfl
 revert e
 refine zaz (bs_r fun x e1 => bs_r fun p e2 e => ?_) (bs_r fun x e1 => bs_r fun p e2 e => ?_)
 ·cases e
  obtain ⟨t,rfl,ok⟩ := ho.str? e1
  obtain ⟨l,u,⟨p1,p2⟩,⟨p3,p4⟩,rfl⟩ := hb _ _ e2
  obtain ⟨all,hn,_,_,g3⟩ := S.ledger
  have hsz : (⟨x.toArray⟩ : Str).length <= sizeLine := Nat.le_trans ok.2 lim_line
  have fin : ∀ (h' : Heap) (t' : Tok) (tk : Nat),Fr Y.h₀ Y.L h' k.m -> News Y.h₀ Y.L h' all -> Q (.str (Txt.slice ⟨x.toArray⟩ l u) t') { s0 with heap := h',toks := tk } := fun h' t' tk F N => by
   rw [txt_slice x p1 p3]
   exact hq w _ _ ⟨.refl w,g3 h' F N,rfl,rfl⟩ ⟨t',rfl,cut_sOk ok⟩
  rcases p2 with ⟨rfl,rfl⟩ | ⟨i,ti,rfl,rfl⟩
  ·rcases p4 with ⟨rfl,rfl⟩ | ⟨j,tj,rfl,rfl⟩
   ·exact slice_strN_nn S.fr hn fin rfl (hgo _) hsz
   ·exact slice_strN_ns S.fr hn fin rfl (hgo _) hsz
  ·rcases p4 with ⟨rfl,rfl⟩ | ⟨j,tj,rfl,rfl⟩
   ·exact slice_strN_sn S.fr hn fin rfl (hgo _) hsz
   ·exact slice_strN_ss S.fr hn fin rfl (hgo _) hsz
 ·cases e
  obtain ⟨la,ws,n,rfl,hg,rr,hlen⟩ := S.list ho e1
  obtain ⟨l,u,⟨p1,p2⟩,⟨p3,p4⟩,rfl⟩ := hb _ _ e2
  obtain ⟨all,hn,add,_,_⟩ := S.ledger
  have hpart : ∀ {v : Value} {l : Option Int},((l = none /\ v = .none) \/ ∃ i t,l = some i /\ v = .int i t) -> IsPart v l := fun h => by
   rcases h with ⟨rfl,rfl⟩ | ⟨i,t,rfl,rfl⟩
   ·exact .none
   ·exact .int i t
  refine slice_list (lo:=l) (hi:=u) S.fr hn ⟨_,hg,rfl,n,rfl⟩ (hpart p2) (hpart p4) (fun h' F N => ?_) rfl (hgo _) (by rw [List.size_toArray,<- rr.length]; exact Nat.le_trans hlen lim_line)
  have hclip : ∀ {l : Option Int} (k : Nat),(∀ i,l = some i -> 0 <= i) -> l.elim k (clipAt ws.length) = l.elim k (fun i => min i.toNat x.length) := fun {l} k hl => by
   cases l with
   | none => rfl
   | some i =>
    have := clipAt_nat ws.length i.toNat
    rw [Int.toNat_of_nonneg (hl i rfl)] at this
    exact this.trans (by show min _ _ = min _ _; rw [rr.length])
  have hpk : slicePick ws.toArray l u none = (Mi.cut ws (l.elim 0 fun i => min i.toNat x.length) (u.elim x.length fun i => min i.toNat x.length)).toArray := by
   rw [slicePick_plain]
   simp only [List.size_toArray]
   rw [hclip 0 p1,hclip ws.length p3,show ws.length = x.length from rr.length.symm]
   unfold Mi.cut
   rw [List.drop_take]
  rw [hpk] at N
  have le : w.le ⟨w.σ ++ [s0.heap.objs.size + 1],w.tp⟩ := ⟨List.prefix_append _ _,fun _ x => x⟩
  refine hq _ _ { s0 with heap := h' } ⟨le,add _ (.list _) [_] h' ⟨_,0,rfl,(rr.cut _ _).mono le,?_⟩ F N (zbq _) (News.fresh hn fun p hp => List.mem_singleton.mp hp ▸ Nat.le_succ _) (S.four (Nat.le_succ _)),rfl,rfl⟩ ⟨_,rfl,by rw [<- S.len]; exact List.getElem?_concat_length⟩
  unfold Mi.cut
  rw [List.length_drop,List.length_take]
  omega
theorem snd_slice {v : Expr} {lo hi : Option Expr} {sp pos : Pos} {ie : Ex} {f : Expr -> Option Ex} {q : Nat × List Ex} (hc : (za1 v).isSome = true) (hv : ESnd C d cx v ie) (hf : ∀ e i,f e = some i -> Sd C d cx e i) (hb : boundsE f lo hi = some q) : ESnd C d cx (.Subscript v (.Slice lo hi none sp) pos) (.slice ie q.1 q.2) := by
 intro Y env k mE fr w H s p r
 refine zad fun x H1 e1 => zad fun bv H2 e2 e => ?_
 intro Q E hq
 refine Subscript_ (hv Y env k mE fr w H s p _ e1 _ _ fun w1 a1 s1 n1 r1 => wpAny_Slice ?_)
 have p1 := p.next n1
 have fin : ∀ {w3 : Wd} {s3 : Shared} {vl vu : Value},Nxt Y k w1 w3 H2 s1 s3 -> (∀ n p,bounds n q.1 bv = some p -> ∃ l u,BdO C vl l /\ BdO C vu u /\ p = (l.elim 0 (fun i => min i.toNat n),u.elim n (fun i => min i.toNat n))) ->
   wpAny C.M Y.A (evalPart none env) (fun st s₃ => wpAny C.M Y.A (subscriptTail v (.Slice lo hi none sp) a1 (.ref s₃.heap.objs.size)) Q E { s₃ with heap := s₃.heap.push { cls := .type "slice",data := .fields #[vl,vu,st] } }) E s3 := fun {w3 s3 vl vu} n3 hbb =>
  wpAny_pure (snd_cut hc n3.st (r1.mono n3.le) hbb rfl e fun w4 a4 s4 n4 r4 => hq w4 a4 s4 ((n1.trans n3).trans n4) r4)
 cases lo with
 | none =>
  cases hi with
  | none =>
   cases hb; cases e2
   exact wpAny_pure (wpAny_pure (fin (.refl n1.st) fun n p h => ⟨none,none,.none,.none,by cases h; rfl⟩))
  | some b =>
   obtain ⟨y,hy,e3⟩ := ms hb
   cases e3
   refine wpAny_pure ?_
   revert e2
   refine zad fun y' H3 e2 => zad fun l H4 e3 e4 => ?_
   cases e3; cases e4
   refine (hf _ _ hy).es Y env k mE fr w1 H1 s1 p1 _ e2 _ _ fun w2 a2 s2 n2 r2 => fin n2 fun n p h => ?_
   obtain ⟨c,h1,rfl⟩ := ms (o:=zbI n y') (f:=fun y => (0,y)) h
   obtain ⟨i,hi,rfl⟩ := zc1 r2 h1
   exact ⟨none,some i,.none,hi,rfl⟩
 | some a =>
  obtain ⟨xa,hxa,hb⟩ := bs hb
  cases hi with
  | none =>
   cases hb
   revert e2
   refine zad fun y' H3 e2 => zad fun l H4 e3 e4 => ?_
   cases e3; cases e4
   refine (hf _ _ hxa).es Y env k mE fr w1 H1 s1 p1 _ e2 _ _ fun w2 a2 s2 n2 r2 => wpAny_pure (fin n2 fun n p h => ?_)
   obtain ⟨c,h1,rfl⟩ := ms (o:=zbI n y') (f:=fun x => (x,n)) h
   obtain ⟨i,hi,rfl⟩ := zc1 r2 h1
   exact ⟨some i,none,hi,.none,rfl⟩
  | some b =>
   obtain ⟨y,hy,e3⟩ := ms hb
   cases e3
   revert e2
   refine zad fun x' H3 e2 => zad fun l H4 e5 e4 => ?_
   cases e4
   revert e5
   refine zad fun y' H5 e3 => zad fun l' H6 e6 e7 => ?_
   cases e6; cases e7
   refine (hf _ _ hxa).es Y env k mE fr w1 H1 s1 p1 _ e2 _ _ fun w2 a2 s2 n2 r2 => (hf _ _ hy).es Y env k mE fr w2 H3 s2 (p1.next n2) _ e3 _ _ fun w3 a3 s3 n3 r3 => fin (n2.trans n3) fun n p h => ?_
   obtain ⟨c,h1,h⟩ := bs (o:=zbI n x') (f:=fun x => (zbI n y').map fun y => (x,y)) h
   obtain ⟨c',h2,rfl⟩ := ms h
   obtain ⟨i,hi,rfl⟩ := zc1 (r2.mono n3.le) h1
   obtain ⟨j,hj,rfl⟩ := zc1 r3 h2
   exact ⟨some i,some j,hi,hj,rfl⟩
end
end Mi
namespace Mi
open PySem PySem.W PySem.Calls PyProof.Rows
section
variable {C : Cfg} {d e : Nat} {Y : Actv C d e} {k : Kp} {w : Wd} {H : MH} {s : Shared} {as : List Val} {vs : List Value}
theorem snd_setOf (S : St Y k w H s) {x : Val} {v : Value} (hx : VRel C w x v) : Ref Y k (VR C) (call (.type "set") [v]) w s (tySet x H) := .none
end
end Mi
namespace Mi
open PySem PySem.W PySem.Calls PySem.NumText PyProof.Rows
section
variable {α β : Type} {C : Cfg} {d e : Nat} {Y : Actv C d e} {k : Kp} {R : Wd -> β -> α -> Prop} {w : Wd} {s : Shared} {T : List Value -> Sem α} {as : List Val} {vs : List Value}
theorem Ref.a0 {o : Option (β × MH)} (r : zaa C w as vs) (h : Ref Y k R (T []) w s o) : Ref Y k R (T vs) w s (a0 as o) := by
 cases as with
 | nil => cases r; exact h
 | cons _ _ => exact .none
theorem Ref.a1 {f : Val -> Option (β × MH)} (r : zaa C w as vs) (h : ∀ v rv,VRel C w v rv -> Ref Y k R (T [rv]) w s (f v)) : Ref Y k R (T vs) w s (a1 as f) := by
 cases as with
 | nil => exact .none
 | cons v as => obtain ⟨rv,t,rfl,hv,r⟩ := r; exact .a0 (T:=fun l => T (rv :: l)) r (h v rv hv)
theorem Ref.a2 {f : Val -> Val -> Option (β × MH)} (r : zaa C w as vs) (h : ∀ v rv,VRel C w v rv -> ∀ v' rv',VRel C w v' rv' -> Ref Y k R (T [rv,rv']) w s (f v v')) : Ref Y k R (T vs) w s (a2 as f) := by
 cases as with
 | nil => exact .none
 | cons v as => obtain ⟨rv,t,rfl,hv,r⟩ := r; exact .a1 (T:=fun l => T (rv :: l)) r (h v rv hv)
theorem Ref.a3 {f : Val -> Val -> Val -> Option (β × MH)} (r : zaa C w as vs) (h : ∀ v rv,VRel C w v rv -> ∀ v' rv',VRel C w v' rv' -> ∀ u ru,VRel C w u ru -> Ref Y k R (T [rv,rv',ru]) w s (f v v' u)) : Ref Y k R (T vs) w s (a3 as f) := by
 cases as with
 | nil => exact .none
 | cons v as => obtain ⟨rv,t,rfl,hv,r⟩ := r; exact .a2 (T:=fun l => T (rv :: l)) r (h v rv hv)
end
noncomputable def encL (l : List Nat) : Nat := l.foldl (fun a c => a * 256 + c) 0
theorem zcd (l : List Nat) (c : Nat) : encL (l ++ [c]) = encL l * 256 + c := by unfold encL; rw [List.foldl_append]; rfl
theorem enc_step {a b c c' : Nat} (h1 : c <= 255) (h2 : c' <= 255) (e : a * 256 + c = b * 256 + c') : a = b /\ c = c' := by omega
theorem encL_inj : ∀ (n : Nat) (l l' : List Nat),l.length <= n -> (∀ c ∈ l,1 <= c /\ c <= 255) -> (∀ c ∈ l',1 <= c /\ c <= 255) -> encL l = encL l' -> l = l' := by
 have nz : ∀ {r : List Nat} {c : Nat},(∀ x ∈ r ++ [c],1 <= x /\ x <= 255) -> encL (r ++ [c]) ≠ 0 := fun {r c} h e => by
  rw [zcd] at e
  have := (h c (List.mem_append_right _ (.head _))).1
  omega
 intro n
 induction n with
 | zero =>
  intro l l' hl h h' e
  cases List.length_eq_zero_iff.mp (Nat.le_zero.mp hl)
  rcases List.eq_nil_or_concat l' with rfl | ⟨r,c,rfl⟩
  ·rfl
  ·rw [List.concat_eq_append] at *; exact absurd e.symm (nz h')
 | succ n ih =>
  intro l l' hl h h' e
  rcases List.eq_nil_or_concat l with rfl | ⟨r,c,rfl⟩
  ·rcases List.eq_nil_or_concat l' with rfl | ⟨r',c',rfl⟩
   ·rfl
   ·rw [List.concat_eq_append] at *; exact absurd e.symm (nz h')
  ·rcases List.eq_nil_or_concat l' with rfl | ⟨r',c',rfl⟩
   ·rw [List.concat_eq_append] at *; exact absurd e (nz h)
   ·rw [List.concat_eq_append] at *
    rw [List.concat_eq_append,zcd,zcd] at *
    obtain ⟨e1,e2⟩ := enc_step (h c (List.mem_append_right _ (.head _))).2 (h' c' (List.mem_append_right _ (.head _))).2 e
    rw [e2,ih r r' (by rw [List.length_append] at hl; exact Nat.le_of_succ_le_succ hl) (fun x hx => h x (List.mem_append_left _ hx)) (fun x hx => h' x (List.mem_append_left _ hx)) e1]
theorem enc_inj {x y : Str} (hx : zae x = true) (hy : zae y = true) (e : enc x = enc y) : x = y := by
 have hd : ∀ z : Str,zae z = true -> ∀ c ∈ z.cps.toList,1 <= c /\ c <= 255 := by
  intro z hz c hc
  unfold zae at hz
  simp only [Bool.and_eq_true,List.all_eq_true,decide_eq_true_eq] at hz
  exact hz.1.1.1.1 c hc
 have := encL_inj _ x.cps.toList y.cps.toList (Nat.le_refl _) (hd x hx) (hd y hy) e
 cases x; cases y
 exact congrArg Str.mk (Array.toList_inj.mp this)
section
variable {prog : Program} {w : World} {A : Around} {E : Value -> Shared -> Prop} {s : Shared}
theorem raw_dlen (d : Addr) (es : List DictEntry) (n : Nat) (hd : (d == sysModules) = false) :
  MeetsIn prog w (Builtin.«dict.__len__» ⟨[.ref d],[]⟩) (fun _ R s => s.heap.get? d = some (dictOf es n) /\ R (.ok (.ret (.int es.length s.toks))) { s with toks := s.toks + 1 }) :=
 .of_wp fun A R s ⟨ho,h⟩ => by
  show wpAny _ _ (dictSize d >>= _) _ _ s
  unfold dictSize
  refine wpAny_bind (wpAny_bind (wpAny_dictEntries ho rfl (wpAny_pure ?_)))
  show wpAny _ _ (Builtin.Dict.pendingCount d >>= _) _ _ s
  exact wpAny_bind (wpAny_pendingCount_other hd (wpAny_ret_mkInt (by simpa using h)))
theorem raw_len {d : Addr} {es : List DictEntry} {n : Nat} {Q : Value -> Shared -> Prop} (hd : (d == sysModules) = false) (ho : s.heap.get? d = some (dictOf es n)) (hfit : (es.length : Int) < 2 ^ 63)
  (h : Q (.int es.length (s.toks + 1)) { s with toks := s.toks + 1 + 1 }) : wpAny (model prog w) A (call (.builtin "len") [.ref d]) Q E s := by
 have hT : s.TypeIs (.ref d) "dict" := ⟨_,ho,rfl⟩
 refine Calls.call_function_entry kind_len plain_len entry_len (args_len1 _) ?_
 unfold Builtin.«len»
 refine wpAny_bind (m:=oneArg "len" _) (wpAny_pure ?_)
 refine wpAny_bind (m:=callSpecial? (.ref d) (Str.ofString "__len__")) (wpAny_callSpecial?_slot (name:=Str.ofString "__len__") hT F.slot_dict_len
  (call_meetsIn F.slot_dict_len hT F.entry_dict_len (F.args_dict_len_1 _) (raw_dlen d es n hd) ⟨ho,?_⟩))
 show wpAny _ _ _ _ _ { s with toks := s.toks + 1 }
 refine wpAny_bind (wpAny_holding (wpAny_pure ?_))
 refine wpAny_bind (wpAny_letGo ?_)
 show wpAny _ _ (if ((es.length : Nat) : Int) < 0 then _ else _) _ _ _
 rw [if_neg (Int.not_lt.mpr (Int.natCast_nonneg _))]
 show wpAny _ _ (if ((es.length : Nat) : Int) ≥ 2 ^ 63 then _ else _) _ _ _
 rw [if_neg (Int.not_le.mpr hfit)]
 exact wpAny_bind (wpAny_mkInt (wpAny_pure ⟨_,rfl,h⟩))
end
section
variable {C : Cfg} {d e : Nat} {Y : Actv C d e} {k : Kp} {w : Wd} {H : MH} {s : Shared} {as : List Val} {vs : List Value}
theorem snd_len (S : St Y k w H s) (r : zaa C w as vs) : Ref Y k (VR C) (call (.builtin "len") vs) w s (biLen as H) := by
 refine .a1 (T:=fun l => call (.builtin "len") l) r fun x v hx => .omap fun n e => .val S fun Q E q => ?_
 have q : ∀ t tk,Q (.int n t) { s with toks := tk } := fun t tk => q _ tk ⟨t,rfl⟩
 have lst : ∀ {b : Addr} {ws : List Value},s.heap.IsList b ws.toArray -> n = ws.length -> n <= lim -> wpAny C.M Y.A (call (.builtin "len") [.ref b]) Q E s := fun {b ws} hL e hl => by
  subst e
  exact len_list hL (zbR hl) (q _ _)
 cases x with
 | str l => cases e; obtain ⟨t,rfl,ok⟩ := hx; exact len_str (Int.not_le.mpr (zbR ok.2)) (q _ _)
 | tup l =>
  cases e
  obtain ⟨t,o,n',ws,rfl,ho,hc,hd,rr,hl⟩ := S.tup hx
  have e : ws.toArray.size = l.length := by rw [List.size_toArray,rr.length]
  refine PyProof.Rows.len_tuple (items:=ws.toArray) ⟨o,ho,hc,n',hd⟩ (by rw [e]; exact zbR hl) ?_
  rw [e]; exact q _ _
 | fl l => cases e; obtain ⟨b,o,n',ws,rfl,h,rr,hl⟩ := hx; exact lst ⟨o,S.kIn _ _ h.1,h.2,n',h.3⟩ rr.length hl
 | ref i =>
  revert e
  refine zaz (ms_r fun l hl e => ?_) (ms_r fun p hp e => ?_)
  ·obtain ⟨t,ws,n',rfl,ho,rr,hl⟩ := S.list hx hl
   exact lst ⟨_,ho,rfl,n',rfl⟩ (e.symm.trans rr.length) (e ▸ hl)
  ·obtain ⟨_,_,b,n',es,rfl,hmod,_,hg,hdr,hl,_⟩ := S.dict hx hp
   have e2 := hdr.entries.1.trans e
   exact raw_len hmod hg (by rw [hdr.entries.1]; exact zbR hl) (by rw [e2]; exact q _ _)
 | setn i =>
  cases e
  obtain ⟨_,_,_,_,_,rfl,h⟩ := hx
  exact call_len_set (S.tpAt h.1) h.2 h.3 h.4 (by rw [h.5]; exact zbR h.6) (by rw [h.5]; exact q _ _)
 | _ => exact nos e
theorem Sta.kept {h h' : Heap} (S : Sta C Y.h₀ Y.L k w H h) (hk : ∀ b o,h.get? b = some o -> h'.get? b = some o) : Sta C Y.h₀ Y.L k w H h' :=
 LedO.casesOn S.ledger fun all hn _ _ g => g h' (S.fr.keeps hk) fun p hp => ⟨hk _ _ (hn p hp).1,(hn p hp).2⟩
theorem Ref.int {t : Sem Value} {z : Int} (S : St Y k w H s) (h : ∀ (Q : Value -> Shared -> Prop) (E : Value -> Shared -> Prop),(∀ u h' tk,(∀ b o,s.heap.get? b = some o -> h'.get? b = some o) -> Q (.int z u) { s with heap := h',toks := tk }) -> wpAny C.M Y.A t Q E s) : Ref Y k (VR C) t w s (some (.int z,H)) := by
 intro r e
 cases e
 exact fun Q E hq => h Q E fun u h' tk hk => hq w _ _ ⟨.refl w,S.kept hk,rfl,rfl⟩ ⟨u,rfl⟩
theorem all_ints {mvs : List Val} : ∀ {vs : List Value} {ns : List Int},zaa C w mvs vs -> intsV mvs = some ns -> IntsAre vs ns := by
 induction mvs with
 | nil => intro vs ns h e; cases h; cases e; exact .nil
 | cons m mvs ih =>
  intro vs ns h e
  obtain ⟨y,ys,e1,e2,rfl⟩ := mapM_s e
  obtain ⟨v,r,rfl,h,h'⟩ := h
  obtain ⟨t,rfl⟩ := h.int? e1
  exact .cons y t (ih h' e2)
theorem maxL_of {ns : List Int} {z M : Int} (e : maxL ns = some z) (h1 : M ∈ ns) (h2 : ∀ a ∈ ns,a <= M) : M = z := by
 have go : ∀ (r : List Int) (a : Int),a <= r.foldl max a /\ (∀ x ∈ r,x <= r.foldl max a) /\ (r.foldl max a = a \/ r.foldl max a ∈ r) := by
  intro r
  induction r with
  | nil => intro a; exact ⟨Int.le_refl a,fun _ h => absurd h List.not_mem_nil,.inl rfl⟩
  | cons b r ih =>
   intro a
   obtain ⟨q1,q2,q3⟩ := ih (max a b)
   refine ⟨Int.le_trans (Int.le_max_left a b) q1,fun x hx => ?_,?_⟩
   ·rcases List.mem_cons.mp hx with rfl | hx
    ·exact Int.le_trans (Int.le_max_right a _) q1
    ·exact q2 x hx
   ·rcases q3 with q3 | q3
    ·rw [List.foldl_cons,q3]
     by_cases hab : a <= b
     ·rw [Int.max_eq_right hab]; exact .inr (.head _)
     ·rw [Int.max_eq_left (by omega)]; exact .inl rfl
    ·exact .inr (.tail _ q3)
 cases ns with
 | nil => exact nos e
 | cons a r =>
  obtain ⟨q1,q2,q3⟩ := go r a
  have e : r.foldl max a = z := Option.some.inj e
  rw [e] at q1 q2 q3
  refine Int.le_antisymm ((List.mem_cons.mp h1).elim (fun h => h ▸ q1) (q2 M)) (h2 z ?_)
  rcases q3 with q | q
  ·rw [q]; exact .head _
  ·exact .tail _ q
theorem snd_max (S : St Y k w H s) (r : zaa C w as vs) : Ref Y k (VR C) (call (.builtin "max") vs) w s (biMax as H) := by
 refine .alt (.a2 (T:=fun l => call (.builtin "max") l) r fun x v hx y u hy => .opt fun a ea => .omap fun b eb => ?_) (.alt (.a3 (T:=fun l => call (.builtin "max") l) r fun x v hx y u hy z t hz => .opt fun a ea => .opt fun b eb => .omap fun c ec => ?_) (.a1 (T:=fun l => call (.builtin "max") l) r fun x v hx => .opt fun l hl => .omap fun z hz => ?_))
 ·obtain ⟨_,rfl⟩ := hx.int? ea
  obtain ⟨_,rfl⟩ := hy.int? eb
  refine .int S fun Q E q => max_two_ints Y.handled fun h' tk hk => ?_
  by_cases c : b > a
  ·rw [if_pos c] at q ⊢; exact q _ h' tk hk
  ·rw [if_neg c] at q ⊢; exact q _ h' tk hk
 ·obtain ⟨_,rfl⟩ := hx.int? ea
  obtain ⟨_,rfl⟩ := hy.int? eb
  obtain ⟨_,rfl⟩ := hz.int? ec
  refine .int S fun Q E q => max_three_ints Y.handled fun h' tk hk => ?_
  by_cases c1 : b > a
  ·rw [if_pos c1] at q ⊢
   by_cases c2 : c > b
   ·rw [if_pos c2] at q ⊢; exact q _ h' tk hk
   ·rw [if_neg c2] at q ⊢; exact q _ h' tk hk
  ·rw [if_neg c1] at q ⊢
   by_cases c2 : c > a
   ·rw [if_pos c2] at q ⊢; exact q _ h' tk hk
   ·rw [if_neg c2] at q ⊢; exact q _ h' tk hk
 ·obtain ⟨ns,e1,e2⟩ := bs hz
  obtain ⟨la,ws,n,rfl,hg,rr,hl⟩ := S.list hx hl
  obtain ⟨all,hn,_,_,g3⟩ := S.ledger
  have hne : 0 < ns.length := by
   cases ns with
   | nil => exact nos e2
   | cons _ _ => exact Nat.succ_pos _
  intro r' e'
  cases e'
  refine fun Q E hq => kso_max S.fr hn ⟨_,hg,rfl,n,rfl⟩ (all_ints rr e1) hne Y.handled fun h' M t tk F N q1 q2 => ?_
  rw [maxL_of e2 q1 q2]
  exact hq w _ { s with heap := h',toks := tk } ⟨.refl w,g3 h' F N,rfl,rfl⟩ ⟨t,rfl⟩
theorem snd_min (S : St Y k w H s) (r : zaa C w as vs) : Ref Y k (VR C) (call (.builtin "min") vs) w s (biMin as H) := by
 refine .a2 (T:=fun l => call (.builtin "min") l) r fun x v hx y u hy => .opt fun a ea => .omap fun b eb => ?_
 obtain ⟨_,rfl⟩ := hx.int? ea
 obtain ⟨_,rfl⟩ := hy.int? eb
 refine .int S fun Q E q => min_two_ints Y.handled fun h' tk hk => ?_
 by_cases c : b < a
 ·rw [if_pos c] at q ⊢; exact q _ h' tk hk
 ·rw [if_neg c] at q ⊢; exact q _ h' tk hk
theorem zb3 {t : List (Nat × String)} {n m : Nat} {x y : String} (h : (n == m) = true) (hx : t.lookup n = some x) (hy : t.lookup m = some y) : x = y := by rw [beq_iff_eq.mp h] at hx; exact Option.some.inj (hx.symm.trans hy)
theorem snd_range (S : St Y k w H s) (r : zaa C w as vs) : Ref Y k (VR C) (call (.type "range") vs) w s (tyRange as H) := by
 refine .a1 (T:=fun l => call (.type "range") l) r fun x v hx => .omap fun n e => ?_
 obtain ⟨t,rfl⟩ := hx.int? e
 intro r' e'
 cases e'
 obtain ⟨all,hn,_,tp,_⟩ := S.ledger
 exact fun Q E hq => call_range_1 (hq ⟨w.σ,_ :: w.tp⟩ _ { s with heap := _,toks := _ } ⟨⟨List.prefix_refl _,fun p hp => .tail _ hp⟩,tp _ _ _ (S.fr.push _) (hn.push S.fr _) (Nat.le_refl _),rfl,rfl⟩ ⟨_,_,_,_,rfl,.head _⟩)
theorem snd_listOf (S : St Y k w H s) (r : zaa C w as vs) : Ref Y k (VR C) (call (.type "list") vs) w s (tyList as H) := by
 have key : ∀ {mvs : List Val} {ws : List Value} {la : Addr} {o : Obj} {n : Nat},zaa C w mvs ws -> mvs.length <= lim -> s.heap.get? la = some o -> (o.cls = .type "list" \/ o.cls = .type "tuple") -> o.data = .seq ws.toArray n -> Ref Y k (VR C) (call (.type "list") [.ref la]) w s (zbz H (.list mvs)) := by
  intro mvs ws la o n rr hl ho hc hd r' e' Q E hq
  cases e'
  obtain ⟨all,hn,add,_,_⟩ := S.ledger
  have le : w.le ⟨w.σ ++ [s.heap.objs.size],w.tp⟩ := ⟨List.prefix_append _ _,fun _ x => x⟩
  have hsz : ws.toArray.size <= sizeLine := by rw [List.size_toArray,<- rr.length]; exact Nat.le_trans hl lim_line
  have fin : ∀ h' c',(∀ b o,s.heap.get? b = some o -> h'.get? b = some o) -> h'.get? s.heap.objs.size = some (listOf ws.toArray c') -> Q (.ref s.heap.objs.size) { s with heap := h' } := fun h' c' hk hD =>
   hq _ _ _ ⟨le,add _ (.list mvs) [_] h' ⟨ws,c',rfl,rr.mono le,hl⟩ (S.fr.keeps hk) (news_pushed S.fr hn hk hD rfl) (zbq _) (News.fresh hn fun p hp => List.mem_singleton.mp hp ▸ Nat.le_refl _) (S.four (Nat.le_refl _)),rfl,rfl⟩ ⟨_,rfl,by rw [<- S.len]; exact List.getElem?_concat_length⟩
  rcases hc with hc | hc
  ·exact call_list_seq (hsz:=hsz) la (.inl rfl) ho hc hd fin
  ·exact call_list_seq (hsz:=hsz) la (.inr rfl) ho hc hd fin
 refine .a1 (T:=fun l => call (.type "list") l) r fun x v hx => .alt (.opt fun l e => ?_) (.alt (.opt fun l e => ?_) (.opt fun l e => ?_))
 ·cases tup?_s e
  obtain ⟨t,o,n,ws,rfl,ho,hc,hd,rr,hl⟩ := S.tup hx
  exact key rr hl ho (.inr hc) hd
 ·cases fl?_s e
  obtain ⟨t,o,n,ws,rfl,q,rr,hl⟩ := hx
  exact key rr hl (S.kIn _ _ q.1) (.inl q.2) q.3
 ·obtain ⟨la,ws,n,rfl,ho,rr,hl⟩ := S.list hx e
  exact key rr hl ho (.inl rfl) rfl
theorem nat_list (n : Nat) : (toString n).toList = Nat.toDigits 10 n := by
 show (Nat.repr n).toList = _
 unfold Nat.repr
 simp
theorem show_int (i : Int) : (toString i).toList.map Char.toNat = zcL i := by
 unfold zcL digs
 cases i with
 | ofNat n =>
  show List.map Char.toNat (toString n).toList = _
  rw [nat_list,show decide (Int.ofNat n < 0) = false from decide_eq_false (Int.not_lt.mpr (Int.natCast_nonneg n))]
  rfl
 | negSucc n =>
  rw [show decide (Int.negSucc n < 0) = true from decide_eq_true (Int.negSucc_lt_zero n)]
  show List.map Char.toNat ("-" ++ toString (n + 1)).toList = _
  rw [String.toList_append,List.map_append,nat_list]
  rfl
theorem snd_strOf (S : St Y k w H s) (r : zaa C w as vs) : Ref Y k (VR C) (call (.type "str") vs) w s (tyStr as H) := by
 refine .a1 (T:=fun l => call (.type "str") l) r fun x v hx => .alt (.opt fun i e => .grd fun hi => ?_) (.omap fun x' e => ?_)
 ·obtain ⟨t,rfl⟩ := hx.int? e
  have hi := Bool.and_eq_true_iff.mp hi
  refine .val S fun Q E q => P.str_of_int ?_ ?_
  ·by_cases h0 : i.natAbs = 0
   ·rw [h0]; decide
   ·have := (Nat.log2_lt h0).mpr (Nat.ble_eq.mp hi.1)
    omega
  ·refine q _ _ ⟨s.toks,?_,fun c hc => ?_,Nat.ble_eq.mp hi.2⟩
   ·rw [Str.ofString_eq_toList,show_int]
   ·rw [<- show_int] at hc
    obtain ⟨ch,_,rfl⟩ := List.mem_map.mp hc
    exact ch.valid.elim (fun h => Nat.lt_trans h (by decide)) (·.2)
 ·obtain ⟨t,rfl,ok⟩ := hx.str? e
  exact .val S fun Q E q => P.str_of_str (q _ s.toks ⟨t,rfl,ok⟩)
theorem snd_typeOf (S : St Y k w H s) (r : zaa C w as vs) : Ref Y k (VR C) (call (.type "type") vs) w s (tyType as H) := by
 refine .a1 (T:=fun l => call (.type "type") l) r fun x v hx => .omap fun n e => .val S fun Q E q => ?_
 have fin : ∀ {T : String},tyTab.lookup n = some T -> Q (.type T) s := fun hT => q _ s.toks ⟨_,rfl,hT⟩
 cases x with
 | none => cases e; cases hx; exact call_type_of (Tx:="NoneType") rfl (by decide) (fin rfl)
 | bool b => cases e; cases hx; exact call_type_of (Tx:="bool") rfl (by decide) (fin rfl)
 | int i => cases e; obtain ⟨_,rfl⟩ := hx; exact call_type_of (Tx:="int") rfl (by decide) (fin rfl)
 | str l => cases e; obtain ⟨_,rfl,_⟩ := hx; exact call_type_of (Tx:="str") rfl (by decide) (fin rfl)
 | tup l => cases e; obtain ⟨t,o,n,ws,rfl,ho,hc,_,_,_⟩ := S.tup hx; exact call_type_of (Tx:="tuple") ⟨o,ho,hc⟩ (by decide) (fin rfl)
 | ref i =>
  obtain ⟨l,hl,e⟩ := ms e
  subst e
  obtain ⟨la,ws,n,rfl,ho,_,_⟩ := S.list hx hl
  exact call_type_of (Tx:="list") ⟨_,ho,rfl⟩ (by decide) (fin rfl)
 | _ => exact nos e
theorem snd_intOf (S : St Y k w H s) (r : zaa C w as vs) : Ref Y k (VR C) (call (.type "int") vs) w s (tyInt as H) := by
 refine .a1 (T:=fun l => call (.type "int") l) r fun x v hx => .omap fun n e => ?_
 obtain ⟨l,e1,e⟩ := bs e
 obtain ⟨hc,e⟩ := gs e
 obtain ⟨t,rfl,ok⟩ := hx.str? e1
 have hc := Bool.and_eq_true_iff.mp hc
 have hc' := Bool.and_eq_true_iff.mp hc.1
 have hl := Nat.ble_eq.mp hc'.2
 have hd : AllDigits (⟨l.toArray⟩ : Str).cps.toList := fun c hc0 => by
  have := Bool.and_eq_true_iff.mp (List.all_eq_true.mp hc.2 c hc0)
  exact ⟨Nat.ble_eq.mp this.1,Nat.ble_eq.mp this.2⟩
 cases e
 refine .val S fun Q E q => KIN.call_text (intText_digits hd (fun h => by rw [show l = [] from h] at hc'; cases hc'.1) (show l.length <= _ by omega)) (show l.length <= _ by omega) ?_
 exact q _ _ ⟨_,rfl⟩
theorem snd_dictOf (S : St Y k w H s) (r : zaa C w as vs) : Ref Y k (VR C) (call (.type "dict") vs) w s (tyDict as H) := by
 refine .a1 (T:=fun l => call (.type "dict") l) r fun x v hx => .opt fun p hp => .grd fun hk => ?_
 intro r' e'
 cases e'
 obtain ⟨_,_,b,n,es,rfl,hmod,_,hg,hdr,hl,_⟩ := S.dict hx hp
 obtain ⟨kvs,D⟩ : ∃ kvs,DA C w p.2 es kvs := by
  cases hp2 : p.2 with
  | nil => rw [hp2] at hdr; exact hdr.atom (a:=.i 0) rfl
  | cons q qs =>
   rw [hp2] at hdr hk
   have h1 := beq_iff_eq.mp (Bool.and_eq_true_iff.mp hk).1
   rcases hdr with h | ⟨xs,D⟩
   ·exact h
   ·have e := D.e
    cases xs with
    | nil => cases e
    | cons x xs => rw [show q.1 = .tup (x.1.map Atom.val) from (List.cons.inj e).1,zbi] at h1; cases h1
 obtain ⟨all,hn,add,_,_⟩ := S.ledger
 refine fun Q E hq => kt_call_dict (knd:=zaw C.prog C.w) hmod (D.dictOf hg) (by rw [<- len_e D.e]; exact Nat.le_trans hl lim_line) fun h' hD hs => ?_
 obtain ⟨o,es',ep',ho',hex,hd,q1,q2,q3⟩ := hD
 have hoe : o = dictOf es'.toList ep' := by
  obtain ⟨oc,od,odata,osl⟩ := o
  obtain ⟨x1,x2,x3⟩ := hex
  cases x1; cases x2; cases x3; cases hd
  rfl
 have hkeep : ∀ c x,s.heap.get? c = some x -> h'.get? c = some x := fun c x hc => (hs.2 c (Nat.ne_of_lt (Heap.lt_size hc))).trans (Heap.get?_push_of_some _ hc)
 have le : w.le ⟨w.σ ++ [s.heap.objs.size],w.tp⟩ := ⟨List.prefix_append _ _,fun _ x => x⟩
 refine hq _ _ { s with heap := h' } ⟨le,add _ (.dict none p.2) [(s.heap.objs.size,dictOf es'.toList ep')] h' ⟨_,_,rfl,fun e he => nos he,DRel.mono le (.inl ⟨kvs,q2,q1,D.n,D.e,D.ok,D.r⟩),hl⟩ (S.fr.keeps hkeep) (fun q hq => ?_) (zbq _) (News.fresh hn fun p hp => List.mem_singleton.mp hp ▸ Nat.le_refl _) (S.four (Nat.le_refl _)),rfl,rfl⟩ ⟨_,rfl,by rw [<- S.len]; exact List.getElem?_concat_length⟩
 rcases List.mem_cons.mp hq with e | hq
 ·rw [e]
  exact ⟨by rw [<- hoe]; exact ho',Nat.ne_of_gt S.fr.ns.lt,Heap.get?_none_of_le (Nat.le_trans S.fr.above (Nat.le_of_lt S.fr.ns.lt))⟩
 ·exact ⟨hkeep _ _ (hn q hq).1,(hn q hq).2⟩
theorem snd_ty {n : Nat} {nm : String} (hb : tyTab.lookup n = some nm) (S : St Y k w H s) (r : zaa C w as vs) : Ref Y k (VR C) (call (.type nm) vs) w s (callTy n as H) :=
 .alt (.grd fun h => zb3 (t:=tyTab) h hb (y:="range") rfl ▸ snd_range S r) (.alt (.grd fun h => zb3 (t:=tyTab) h hb (y:="list") rfl ▸ snd_listOf S r) (.alt (.grd fun h => zb3 (t:=tyTab) h hb (y:="str") rfl ▸ snd_strOf S r)
 (.alt (.grd fun h => zb3 (t:=tyTab) h hb (y:="type") rfl ▸ snd_typeOf S r) (.alt (.grd fun h => zb3 (t:=tyTab) h hb (y:="dict") rfl ▸ snd_dictOf S r) (.alt (.grd fun h => zb3 (t:=tyTab) h hb (y:="int") rfl ▸ snd_intOf S r) (.grd fun h => zb3 (t:=tyTab) h hb (y:="set") rfl ▸ .a1 (T:=fun l => call (.type "set") l) r fun x v hx => snd_setOf S hx))))))
end
end Mi
namespace Mi
open PySem PySem.W PySem.Calls PySem.NumText PyProof.Rows
theorem ok_append : zae "append" = true /\ enc "append" = nAppend := by decide +kernel
theorem ok_pop : zae "pop" = true /\ enc "pop" = nPop := by decide +kernel
theorem ok_get : zae "get" = true /\ enc "get" = nGet := by decide +kernel
theorem ok_isspace : zae "isspace" = true /\ enc "isspace" = nIsspace := by decide +kernel
theorem ok_join : zae "join" = true /\ enc "join" = nJoin := by decide +kernel
theorem ok_partition : zae "partition" = true /\ enc "partition" = nPartition := by decide +kernel
theorem ok_startswith : zae "startswith" = true /\ enc "startswith" = nStartswith := by decide +kernel
theorem zb9 {nm x : Str} {n : Nat} (hn : zae nm = true) (ok : zae x = true /\ enc x = n) (h : (enc nm == n) = true) : x = nm := enc_inj ok.1 hn (ok.2.trans (beq_iff_eq.mp h).symm)
theorem zcK (s t : List Nat) : Txt.startswith ⟨s.toArray⟩ ⟨t.toArray⟩ = t.isPrefixOf s := by
 unfold Txt.startswith
 rw [StrLaws.subAt_eq]
 rw [show (⟨t.toArray⟩ : Str).length = t.length from rfl,show (⟨s.toArray⟩ : Str).length = s.length from rfl]
 simp only [List.drop_zero,Nat.zero_add]
 rw [Bool.eq_iff_iff,Bool.and_eq_true,List.isPrefixOf_iff_prefix,decide_eq_true_eq,beq_iff_eq]
 constructor
 ·exact fun h => ⟨s.drop t.length,by have := List.take_append_drop t.length s; rw [h.2] at this; exact this⟩
 ·rintro ⟨r,rfl⟩
  simp
inductive JnO (sep : List Nat) (ws : List Value) (t : List Nat) (n : Nat) : Prop
 | mk (l : List (Str × Tok)) (e : ws = strValues l) (j : (Str.join ⟨sep.toArray⟩ (l.map (·.1))).cps.toList = t) (s : ((l.map (·.1)).map (·.length)).sum <= t.length) (c : ∀ c ∈ t,c < 0x110000) (l : l.length = n) : JnO sep ws t n
theorem join_of {C : Cfg} {w : Wd} {sep : List Nat} (hs : sOk sep) : ∀ {mvs : List Val} {ws : List Value} {t : List Nat},zaa C w mvs ws -> joinV sep mvs = some t -> JnO sep ws t mvs.length := by
 intro mvs
 induction mvs with
 | nil => intro ws t r e; cases r; cases e; exact ⟨[],rfl,rfl,Nat.le_refl _,fun _ h => absurd h List.not_mem_nil,rfl⟩
 | cons m mvs ih =>
  intro ws t r e
  obtain ⟨x,e1,e⟩ := bs e
  obtain ⟨v,vs,rfl,h,r⟩ := r
  obtain ⟨u,rfl,ok⟩ := h.str? e1
  cases mvs with
  | nil =>
   cases r; cases e
   exact ⟨[(_,u)],rfl,rfl,Nat.le_refl _,ok.1,rfl⟩
  | cons m2 mvs =>
   obtain ⟨t',ht,rfl⟩ := ms e
   obtain ⟨l,rfl,q1,q2,q3,q4⟩ := ih r ht
   refine ⟨(⟨x.toArray⟩,u) :: l,rfl,?_,?_,?_,congrArg (· + 1) q4⟩
   ·cases l with
    | nil => cases q4
    | cons p l =>
     rw [List.map_cons,List.map_cons,Str.join,<- List.map_cons (f:=fun x : Str × Tok => x.1)]
     ·show (⟨x.toArray ++ sep.toArray ++ _⟩ : Str).cps.toList = _
      simp [<- q1]
     ·simp
   ·rw [List.map_cons,List.map_cons,List.sum_cons,List.length_append,List.length_append]
    exact Nat.add_le_add (Nat.le_add_right _ _) q2
   ·intro c hc
    rcases List.mem_append.mp hc with hc | hc
    ·exact (List.mem_append.mp hc).elim (ok.1 c) (hs.1 c)
    ·exact q3 c hc
noncomputable def MCall {C : Cfg} {d e : Nat} (Y : Actv C d e) (k : Kp) (w : Wd) (vx : Value) (vs : List Val) (h2 : MH) (r : Val × MH) (id : String) : Prop :=
 ∀ w2 s2 ws,w.le w2 -> St Y k w2 h2 s2 -> zaa C w2 vs ws -> Brings Y k (VR C) (call (.builtin id) (vx :: ws)) w2 s2 r.1 r.2
noncomputable def MGet {C : Cfg} {d e : Nat} (Y : Actv C d e) (k : Kp) (w : Wd) (s : Shared) (vx : Value) (nm : Str) (vs : List Val) (h2 : MH) (r : Val × MH) : Prop :=
 ∀ (pl : Sem Bool) (Q : Value × List Value -> Shared -> Prop) (E : Value -> Shared -> Prop),(∀ id,MCall Y k w vx vs h2 r id -> Q (.builtin id,[vx]) s) -> wpAny C.M Y.A (getMethod vx nm pl) Q E s
section
variable {C : Cfg} {d e : Nat} {Y : Actv C d e} {k : Kp} {w : Wd} {H : MH} {s : Shared}
theorem MCall.of {vx : Value} {vs : List Val} {h2 : MH} {r : Val × MH} {id : String} {o : Option (Val × MH)} (e : o = some r) (h : ∀ w2 s2 ws,w.le w2 -> St Y k w2 h2 s2 -> zaa C w2 vs ws -> Ref Y k (VR C) (call (.builtin id) (vx :: ws)) w2 s2 o) : MCall Y k w vx vs h2 r id :=
 fun w2 s2 ws l S2 rr => h w2 s2 ws l S2 rr r e
theorem snd_strMeth {nm : Str} (hn : zae nm = true) {x : List Nat} {u : Tok} (ok : sOk x) {vs : List Val} {h2 : MH} {r : Val × MH} : strMeth x (enc nm) vs h2 = some r -> MGet Y k w s (.str ⟨x.toArray⟩ u) nm vs h2 r := by
 refine zaz (gs_r fun h e => ?_) (zaz (gs_r fun h e => ?_) (zaz (gs_r fun h e => ?_) (gs_r fun h e => ?_)))
 ·cases zb9 hn ok_isspace h
  refine fun pl Q E q => GM.isspace (q "str.isspace" (.of e fun w2 s2 ws l S2 rr => .a0 (T:=fun l => call (.builtin "str.isspace") (_ :: l)) rr (.val S2 fun Q E q => SC.isspace (q _ s2.toks rfl))))
 ·cases zb9 hn ok_join h
  refine fun pl Q E q => GM.join (q "str.join" (.of e fun w2 s2 ws l S2 rr => .a1 (T:=fun l => call (.builtin "str.join") (_ :: l)) rr fun y vy hy => .opt fun us hus => .opt fun t ht => .grd fun hl => .val S2 fun Q E q => ?_))
  obtain ⟨la,ws,n,rfl,hg,rr2,hlim⟩ := S2.list hy hus
  obtain ⟨l,rfl,q1,q2,q3,q4⟩ := join_of ok rr2 ht
  have hl := Bool.and_eq_true_iff.mp hl
  have hl1 := Nat.ble_eq.mp hl.1
  have hl2 := Nat.ble_eq.mp hl.2
  refine SC.join ⟨_,hg,rfl,n,rfl⟩ rfl ?_ fun t' tk => ?_
  ·unfold JoinOk
   rw [Bool.not_eq_true']
   unfold Builtin.Str.tooLong
   rw [decide_eq_false_iff_not]
   show ¬ _ > sizeLine
   rw [StrLaws.joinTotal,show (⟨x.toArray⟩ : Str).length = x.length from rfl,List.length_map,q4]
   have e1 : sizeLine = 16777216 := sizeLine_eq
   have e2 : lim = 1000000 := rfl
   omega
  ·have e1 : Txt.join ⟨x.toArray⟩ (l.map (·.1)) = ⟨t.toArray⟩ := by
    show Builtin.Str.glued _ _ = _
    rw [StrLaws.glued_eq_join]
    generalize Str.join _ _ = z at q1; cases z; exact congrArg Str.mk (Array.toList_inj.mp q1)
   rw [e1]
   exact q _ tk ⟨t',rfl,q3,hl1⟩
 ·cases zb9 hn ok_partition h
  refine fun pl Q E q => GM.partition (q "str.partition" (.of e fun w2 s2 ws l S2 rr => .a1 (T:=fun l => call (.builtin "str.partition") (_ :: l)) rr fun y vy hy => .opt fun t ht => .grd fun hne => .opt fun p hp => .grd fun hok => ?_))
  cases hp
  obtain ⟨v,rfl,oky⟩ := hy.str? ht
  have hok := Bool.and_eq_true_iff.mp hok
  have hok' := Bool.and_eq_true_iff.mp hok.1
  obtain ⟨all,hnn,_,tp,_⟩ := S2.ledger
  intro r' e'
  cases e'
  have hlen : ((⟨t.toArray⟩ : Str).length == 0) = false := by
   cases t with
   | nil => cases hne
   | cons _ _ => rfl
  refine fun Q E hq => partitionN S2.fr hnn hlen (fun ta tb tc h' tk F N => ?_) (Nat.le_trans ok.2 lim_line)
  have hv : ∀ (w : Wd) (z : Str) (tz : Tok),sOkB z.cps.toList = true -> VRel C w (.str z.cps.toList) (.str z tz) := fun w z tz hz => ⟨tz,rfl,sOkB_s hz⟩
  exact hq ⟨w2.σ,_ :: w2.tp⟩ _ { s2 with heap := h',toks := tk } ⟨⟨List.prefix_refl _,fun _ x => .tail _ x⟩,tp _ _ h' F N (Nat.le_refl _),rfl,rfl⟩ ⟨_,_,_,[_,_,_],rfl,⟨.inl (.head _),rfl,rfl⟩,.cons (hv _ _ ta hok'.1) (.cons (hv _ _ tb hok'.2) (.cons (hv _ _ tc hok.2) .nil)),(by decide : 3 <= lim)⟩
 ·cases zb9 hn ok_startswith h
  refine fun pl Q E q => GM.startswith (q "str.startswith" (.of e fun w2 s2 ws l S2 rr => .a1 (T:=fun l => call (.builtin "str.startswith") (_ :: l)) rr fun y vy hy => .omap fun t ht => .val S2 fun Q E q => ?_))
  obtain ⟨v,rfl,oky⟩ := hy.str? ht
  refine SC.startswith ?_
  rw [zcK]
  exact q _ s2.toks rfl
theorem last_rel {mvs : List Val} : ∀ {ws : List Value} {v : Val},zaa C w mvs ws -> mvs.getLast? = some v -> ∃ p y,kl_last ws = some (p,y) /\ zaa C w mvs.dropLast p /\ VRel C w v y := by
 intro ws v r e
 have hne : mvs ≠ [] := fun q => by rw [q] at e; cases e
 have hl : kl_last ws ≠ none := fun q => by
  rw [kl_last_none q] at r
  cases mvs with
  | nil => exact hne rfl
  | cons _ _ => obtain ⟨_,_,e,_,_⟩ := r; cases e
 obtain ⟨⟨p,y⟩,hpy⟩ := Option.ne_none_iff_exists'.mp hl
 refine ⟨p,y,hpy,?_⟩
 have hm : mvs.dropLast ++ [v] = mvs := by
  have h1 := List.dropLast_concat_getLast hne
  rwa [show mvs.getLast hne = v from Option.some.inj ((List.getLast?_eq_getLast hne).symm.trans e)] at h1
 rw [<- hm,kl_last_spec hpy] at r
 clear hm hpy hl e hne
 generalize mvs.dropLast = q at r ⊢
 induction q generalizing p with
 | nil =>
  cases p with
  | nil => obtain ⟨_,_,e,h,_⟩ := r; cases e; exact ⟨.nil,h⟩
  | cons a p => have := r.length; simp at this
 | cons b q ih =>
  cases p with
  | nil => have := r.length; simp at this
  | cons a p =>
   obtain ⟨_,_,e,h,r⟩ := r
   cases e
   obtain ⟨h1,h2⟩ := ih p r
   exact ⟨.cons h h1,h2⟩
inductive LstAt {C : Cfg} {d e : Nat} (Y : Actv C d e) (k : Kp) (w : Wd) (H : MH) (s : Shared) (i : Nat) (la : Addr) (mvs : List Val) : Prop
 | mk (ws : List Value) (n : Nat) (pre post : Led) (r : zaa C w mvs ws) (l : mvs.length <= lim) (hn : News Y.h₀ Y.L s.heap (pre ++ (la,listOf ws.toArray n) :: post))
   (u : ∀ ws' n',Upd la (listOf ws.toArray n) (listOf ws' n') (pre ++ (la,listOf ws.toArray n) :: post) (pre ++ (la,listOf ws' n') :: post))
   (g : ∀ mvs' ws' n' h',zaa C w mvs' ws' -> mvs'.length <= lim -> Fr Y.h₀ Y.L h' k.m -> News Y.h₀ Y.L h' (pre ++ (la,listOf ws'.toArray n') :: post) -> Sta C Y.h₀ Y.L k w (H.set i (.list mvs')) h') : LstAt Y k w H s i la mvs
theorem Sta.lstAt (S : St Y k w H s) {i : Nat} {la : Addr} {mvs : List Val} (ha : w.σ[i]? = some la) (hm : H[i]?.bind MObj.list? = some mvs) : LstAt Y k w H s i la mvs := by
 obtain ⟨o,hi,h2⟩ := bs hm
 cases list?_s h2
 obtain ⟨pre,en,post,⟨ws,n,rfl,r,l⟩,hn,hd,g⟩ := S.at ha hi
 exact ⟨ws,n,pre,post,r,l,hn,fun ws' n' => zbM hd,fun mvs' ws' n' h' r' l' F N => g (.list mvs') [(la,listOf ws'.toArray n')] h' rfl ⟨ws',n',rfl,r',l'⟩ F N⟩
theorem zcq {i : Nat} {la : Addr} {mvs : List Val} {y : Val} {yv : Value} (S : St Y k w H s) (ha : w.σ[i]? = some la) (hm : H[i]?.bind MObj.list? = some mvs) (hy : VRel C w y yv) (hlen : mvs.length < lim) : Ref Y k (VR C) (call (.builtin "list.append") [.ref la,yv]) w s (some (.none,H.set i (.list (mvs ++ [y])))) := by
 obtain ⟨ws,n,pre,post,r,l,hn,u,g⟩ := S.lstAt ha hm
 intro r' e'
 cases e'
 refine fun Q E hq => append_K S.fr hn (u (ws.toArray.push yv) (n + 1)) (fun h' F' N' => hq w _ { s with heap := h' } ⟨.refl w,g (mvs ++ [y]) (ws ++ [yv]) (n + 1) h' (zaa.append (.one hy) r) (by rw [List.length_append]; exact hlen) F' (by rw [List.push_toArray] at N'; exact N'),rfl,rfl⟩ rfl) ?_
 rw [List.size_toArray,<- r.length]
 exact Nat.le_trans l lim_line
theorem snd_listMeth {nm : Str} (hn : zae nm = true) (S : St Y k w H s) {i : Nat} {la : Addr} (ha : w.σ[i]? = some la) {mvs0 mvs : List Val} {vs : List Val} {h2 : MH} {r : Val × MH} (hm0 : H[i]?.bind MObj.list? = some mvs0) (hm : h2[i]?.bind MObj.list? = some mvs) : zbY i mvs (enc nm) vs h2 = some r -> MGet Y k w s (.ref la) nm vs h2 r := by
 obtain ⟨_,ws0,n0,e0,ho,_,_⟩ := S.list (x:=.ref i) ⟨la,rfl,ha⟩ hm0
 cases e0
 refine zaz (gs_r fun h e => ?_) (gs_r fun h e => ?_)
 ·cases zb9 hn ok_append h
  exact fun pl Q E q => getMethod_list_append ho rfl rfl (q "list.append" (.of e fun w2 s2 ws l S2 rr => .a1 (T:=fun l => call (.builtin "list.append") (_ :: l)) rr fun y vy hy => .grd fun hl => zcq S2 (l.get ha) hm hy (Nat.ble_eq.mp hl)))
 ·cases zb9 hn ok_pop h
  refine fun pl Q E q => getMethod_builtin ⟨_,ho,rfl⟩ PySem.F.plainAttrs_list PySem.F.slot_list_pop PySem.F.type_list_pop (fun a e => by cases e; exact ⟨_,ho,rfl⟩) (q "list.pop" (.of e fun w2 s2 ws l S2 rr => .a0 (T:=fun l => call (.builtin "list.pop") (_ :: l)) rr (.omap fun v hv => ?_)))
  obtain ⟨ws,n,pre,post,r,l',hn,u,g⟩ := S2.lstAt (l.get ha) hm
  obtain ⟨p,y,hpy,q1,q2⟩ := last_rel r hv
  intro r' e'
  cases e'
  exact fun Q E hq => kl_pop S2.fr hn hpy (u p.toArray (n + 1)) (by rw [List.toList_toArray,<- r.length]; exact Nat.le_trans l' lim_line) fun h' F' N' => hq w2 y { s2 with heap := h' } ⟨.refl w2,g mvs.dropLast p (n + 1) h' q1 (Nat.le_trans (by rw [List.length_dropLast]; exact Nat.sub_le _ _) l') F' N',rfl,rfl⟩ q2
theorem snd_dictMeth {nm : Str} (hn : zae nm = true) (S : St Y k w H s) {i : Nat} {la : Addr} (ha : w.σ[i]? = some la) {p0 p : Option Nat × List (Val × Val)} {vs : List Val} {h2 : MH} {r : Val × MH} (hm0 : H[i]?.bind MObj.dict? = some p0) (hm : h2[i]?.bind MObj.dict? = some p) : zbZ p.2 (enc nm) vs h2 = some r -> MGet Y k w s (.ref la) nm vs h2 r := by
 obtain ⟨_,n0,es0,e0,_,_,hg,_,_,_⟩ := S.dictI ⟨la,rfl,ha⟩ hm0
 cases e0
 refine gs_r fun h e => ?_
 cases zb9 hn ok_get h
 refine fun pl Q E q => getMethod_builtin ⟨_,hg,rfl⟩ PySem.F.plainAttrs_dict PySem.F.slot_dict_get PySem.F.type_dict_get (fun a e => by cases e; exact ⟨_,hg,rfl⟩) (q "dict.get" (.of e fun w2 s2 ws l S2 rr => ?_))
 have key : ∀ {x dv : Val} {kv dvv : Value} {args : List Value},VRel C w2 x kv -> VRel C w2 dv dvv -> zaj p.2 x = true -> ((args = [.ref la,kv] /\ dvv = .none) \/ args = [.ref la,kv,dvv]) -> Ref Y k (VR C) (call (.builtin "dict.get") args) w2 s2 (some ((dget p.2 x).getD dv,h2)) := by
  intro x dv kv dvv args hk hdv hf hargs
  refine .val S2 fun Q E q => ?_
  obtain ⟨_,n2,es,e2,hmod,_,hg2,hdr,_,_⟩ := S2.dictI ⟨la,rfl,l.get ha⟩ hm
  cases e2
  have fin : ∀ {o : Option Value},GetO C w2 (dget p.2 x) o -> ∀ tk,Q (o.getD dvv) { s2 with toks := tk } := fun h tk => by
   rcases h with ⟨q1,rfl⟩ | ⟨mv,rv,q1,rfl,q3⟩
   ·rw [q1] at q; exact q _ tk hdv
   ·rw [q1] at q; exact q _ tk q3
  rcases zbu (Bool.and_eq_true_iff.mp hf).1 with ⟨ka,rfl⟩ | ⟨ka,rfl⟩
  ·obtain ⟨kvs,D⟩ := hdr.atom hf
   have hD := D.dictOf hg2
   rcases hargs with ⟨rfl,rfl⟩ | rfl
   ·exact call_meetsIn PySem.F.slot_dict_get hD.typeIs PySem.F.entry_dict_get (PySem.F.args_dict_get_2 _ _) (meets_dict_get _ la hk.atom.1 hmod) ⟨_,hD.mapOf,fin (D.get ka) _⟩
   ·exact call_meetsIn PySem.F.slot_dict_get hD.typeIs PySem.F.entry_dict_get (PySem.F.args_dict_get_3 _ _ _) (meets_dict_get_default _ la hk.atom.1 hmod dvv) ⟨_,hD.mapOf,fin (D.get ka) _⟩
  ·obtain ⟨xs,D⟩ := hdr.tups hf
   have hD := D.dictOf S2 hg2
   obtain ⟨t,rfl,ht⟩ := S2.tupKey hk
   rcases hargs with ⟨rfl,rfl⟩ | rfl
   ·exact call_meetsIn PySem.F.slot_dict_get hD.typeIs PySem.F.entry_dict_get (PySem.F.args_dict_get_2 _ _) (meetsH_dict_get _ la t hmod) ⟨Y.room,ka,xs,ht,hD,fin (D.get ka) _⟩
   ·exact call_meetsIn PySem.F.slot_dict_get hD.typeIs PySem.F.entry_dict_get (PySem.F.args_dict_get_3 _ _ _) (meetsH_dict_get_default _ la t hmod dvv) ⟨Y.room,ka,xs,ht,hD,fin (D.get ka) _⟩
 exact .alt (.a1 (T:=fun l => call (.builtin "dict.get") (_ :: l)) rr fun x kv hk => .grd fun hf => key hk rfl hf (.inl ⟨rfl,rfl⟩)) (.a2 (T:=fun l => call (.builtin "dict.get") (_ :: l)) rr fun x kv hk dv dvv hd => .grd fun hf => key hk hd hf (.inr rfl))
theorem snd_bget {nm : Str} (hn : zae nm = true) (S : St Y k w H s) {x : Val} {vx : Value} (hx : VRel C w x vx) {vs : List Val} {h2 : MH} {r : Val × MH} : bmeth x (enc nm) vs H h2 = some r -> MGet Y k w s vx nm vs h2 r := by
 refine zaz (bs_r fun l e1 e => ?_) (bs_r fun i e1 => zaz (bs_r fun m0 e2 => bs_r fun m e3 e => ?_) (bs_r fun m0 e2 => bs_r fun m e3 e => ?_))
 ·obtain ⟨u,rfl,ok⟩ := hx.str? e1
  exact snd_strMeth hn ok e
 ·cases ref?_s e1
  obtain ⟨la,rfl,ha⟩ := hx
  exact snd_listMeth hn S ha e2 e3 e
 ·cases ref?_s e1
  obtain ⟨la,rfl,ha⟩ := hx
  exact snd_dictMeth hn S ha e2 e3 e
end
end Mi
namespace Mi
open PySem PySem.W PySem.Calls PyProof.Rows
inductive zc8 (C : Cfg) (id c : Nat) : Prop
 | mk (a ca dx : Addr) (n : Nat) (k1 : C.ad.lookup id = some a) (k2 : C.ad.lookup c = some ca) (k3 : C.K.lookup a = some ⟨.ref ca,some dx,.plain,#[]⟩) (k4 : C.K.lookup dx = some (dictOf [] n)) : zc8 C id c
inductive zba (C : Cfg) (c n : Nat) (P : Addr -> Str -> Prop) : Prop
 | mk (ca : Addr) (name : Str) (k1 : C.ad.lookup c = some ca) (k2 : zae name = true) (k3 : enc name = n) (k4 : plainGet C.K ca name = true) (k5 : hasDictIn C.K ca = true) (p : P ca name) : zba C c n P
inductive AttrP (C : Cfg) (v : Val) (ca : Addr) (name : Str) : Prop
 | mk (av : Value) (k6 : findIn C.K (.ref ca) name = some (some av)) (k7 : ∀ w,VRel C w v av)
  (k8 : isFnV C.P v = true -> isFn C.K av = true /\ specialIn C.K (.ref ca) "__getattribute__" = some (some (.builtin "type.__getattribute__")) /\ ∃ mc,typeIn C.K (.ref ca) = some mc /\ readsIn C.K ca mc = true /\ findCls C.K (.ref ca) mc name = some (.val av)) (k9 : isFnV C.P v = false -> specialIn C.K av "__get__" = some none /\ handedIn av = true /\ copiedNames.contains name = false) : AttrP C v ca name
inductive FldP (C : Cfg) (ca : Addr) (name : Str) : Prop
 | mk (attr : Option Value) (k6 : findIn C.K (.ref ca) name = some attr) (k7 : noGet C.K attr = true)
  (k8 : takerIn C.K ca name = some none) (k9 : findIn C.K (.ref ca) "__setattr__" = some (some (.builtin "object.__setattr__"))) (k10 : plainOver C.K ca = true) : FldP C ca name
inductive zc9 (C : Cfg) (c i : Nat) : Prop
 | mk (ca fI : Addr) (k1 : C.ad.lookup c = some ca) (k2 : C.ad.lookup i = some fI) (k3 : makesIn C.K ca = true) (k4 : findIn C.K (.ref ca) "__init__" = some (some (.ref fI))) (k5 : isFn C.K (.ref fI) = true) (k6 : keepIn C.K (.ref ca) = true) : zc9 C c i
noncomputable def ArgFact (C : Cfg) (f : Fn) (fd : FuncData) (xs : List Str) : Prop :=
 (f.dfl = [] /\ ∀ vs : List Value,vs.length = f.np -> bindArgs fd ⟨vs,[]⟩ = pure (xs.zip vs)) \/
 (f.dfl ≠ [] /\ ∃ dvs,(∀ w,zaa C w f.dfl dvs) /\ ∀ (S : Setting) (vs : List Value),vs.length <= f.np -> f.np - vs.length <= dvs.length -> peek C.K S (bindArgs fd ⟨vs,[]⟩) = some (xs.zip (vs ++ dvs.drop (dvs.length - (f.np - vs.length)))))
inductive FnFact (C : Cfg) (gl : List (Str × Val)) (f : Fn) : Prop
 | mk (a : Addr) (name qual : Str) (params : Arguments) (body : List Stmt) (scope : Scope) (dV kV doc pm : Value) (an : Option Addr) (cdv ct oc : Value) (od : Option Addr) (osl : Array (Option Value)) (k1 : C.ad.lookup f.addr = some a) (k2 : C.K.lookup a = some ⟨oc,od,.func (fnOf name qual params body scope dV kV doc pm an cdv ct),osl⟩)
  (k3 : codeIn C.K cdv qual = true) (k4 : compFn gl params body scope = some (f.np,f.ns,f.body)) (k6 : keepIn C.K (.ref a) = true)
  (k7 : ArgFact C f (fnOf name qual params body scope dV kV doc pm an cdv ct) (params.args.map (·.arg)))
  (k8 : (params.args.map (·.arg)).Nodup) (k10 : ((cellsFrom 0 scope.names []).map (·.1)).Nodup) : FnFact C gl f
noncomputable def SrtOk (C : Cfg) : Prop := ∀ {d e : Nat} {Y : Actv C d e} {k : Kp} {w : Wd} {H : MH} {s : Shared} {as : List Val} {vs : List Value},zda C -> St Y k w H s -> zaa C w as vs -> Ref Y k (VR C) (call (.builtin "sorted") vs) w s (biSorted as H)
structure zaP (C : Cfg) (gl : List (Str × Val)) : Prop where
 glob : GlOk C gl
 fns : ∀ a f,C.P.fnAt a = some f -> f.addr = a /\ FnFact C gl f
 insts : ∀ id c,C.P.instAt id = some c -> zc8 C id c
 attrs : ∀ c n v,C.P.clsAttr c n = some v -> zba C c n (AttrP C v)
 flds : ∀ c n,C.P.hasFld c n = true -> zba C c n (FldP C)
 inits : ∀ c k i,C.P.clsAt c = some k -> k.init = some i -> zc9 C c i
 cfg : zda C
 srt : SrtOk C
section
variable {C : Cfg} {d e : Nat} {Y : Actv C d e} {k : Kp} {w : Wd} {H : MH} {s : Shared} {cx : CC} {env : Env} {mE : Str -> Option Value} {fr : Frame} {gl : List (Str × Val)}
theorem zba.use {c n : Nat} {P : Addr -> Str -> Prop} (h : zba C c n P) {nm : Str} {ca : Addr} (hn : zae nm = true) (e : n = enc nm) (hc : C.ad.lookup c = some ca) : plainGet C.K ca nm = true /\ hasDictIn C.K ca = true /\ P ca nm := by
 obtain ⟨ca',name,k1,k2,k3,k4,k5,p⟩ := h
 cases Option.some.inj (k1.symm.trans hc)
 cases enc_inj k2 hn (k3.trans e)
 exact ⟨k4,k5,p⟩
theorem bi_handed : ∀ p ∈ biTab,handedIn (.builtin p.2) = true := by decide +kernel
theorem handed_of {v : Val} {rv : Value} (h : VRel C w v rv) : handedIn rv = true := by
 cases v with
 | none => cases h; rfl
 | bool b => cases h; rfl
 | int i => obtain ⟨t,rfl⟩ := h; rfl
 | str i => obtain ⟨t,rfl,_⟩ := h; rfl
 | tup i => obtain ⟨_,_,_,_,rfl,_,_,_⟩ := h; rfl
 | ref i => obtain ⟨_,rfl,_⟩ := h; rfl
 | top i => obtain ⟨_,rfl,_⟩ := h; rfl
 | ty i => obtain ⟨_,rfl,_⟩ := h; rfl
 | bi i => obtain ⟨n,rfl,hb⟩ := h; exact bi_handed _ (zam hb)
 | rng i => obtain ⟨_,_,_,_,rfl,_⟩ := h; rfl
 | fl i => obtain ⟨_,_,_,_,rfl,_,_,_⟩ := h; rfl
 | setn i => obtain ⟨_,_,_,_,_,rfl,_⟩ := h; rfl
theorem isStr_key {x nm : Str} {t : Tok} (hx : zae x = true) (hn : zae nm = true) : (Value.str x t).isStr nm = (enc x == enc nm) := by
 show (x == nm) = _
 rw [Bool.eq_iff_iff,beq_iff_eq,beq_iff_eq]
 exact ⟨fun e => e ▸ rfl,enc_inj hx hn⟩
inductive FGet (C : Cfg) (w : Wd) (m : Option Val) (o : Option (Option Value)) : Prop
 | none (h1 : m = .none) (h2 : o = some .none) : FGet C w m o
 | some (v : Val) (rv : Value) (h1 : m = some v) (h2 : o = some (some rv)) (r : VRel C w v rv) : FGet C w m o
theorem FRel.get {nm : Str} (hn : zae nm = true) : ∀ {fs : List (Nat × Val)} {es : List DictEntry},FRel C w fs es -> es.any (·.refKey) = false /\ ((fget fs (enc nm) = none /\ es.find? (·.key.isStr nm) = none) \/ ∃ v e,fget fs (enc nm) = some v /\ es.find? (·.key.isStr nm) = some e /\ VRel C w v e.val) := by
 intro fs
 induction fs with
 | nil => intro es h; rw [show es = [] from h]; exact ⟨rfl,.inl ⟨rfl,rfl⟩⟩
 | cons p fs ih =>
  intro es h
  obtain ⟨x,t,hsh,v,r,rfl,h1,h2,h3,h4⟩ := h
  obtain ⟨i1,i2⟩ := ih h4
  refine ⟨i1,?_⟩
  unfold fget at i2 ⊢
  rw [List.find?_cons,List.find?_cons]
  dsimp only
  rw [isStr_key h1 hn,h2]
  cases hq : (p.1 == enc nm) with
  | true => exact .inr ⟨_,_,rfl,rfl,h3⟩
  | false => exact i2
theorem FRel.getL {nm : Str} (hn : zae nm = true) {fs : List (Nat × Val)} {es : List DictEntry} (r : FRel C w fs es) : FGet C w (fget fs (enc nm)) (getL nm es) := by
 obtain ⟨hr,h⟩ := r.get hn
 unfold W.getL
 rcases h with ⟨h1,h2⟩ | ⟨v,e,h1,h2,h3⟩
 ·rw [h2]
  exact .none h1 (by dsimp only; rw [hr]; rfl)
 ·rw [h2]
  exact .some v e.val h1 rfl h3
theorem FRel.put {nm : Str} (hn : zae nm = true) {hsh : Int} {t : Tok} {v : Val} {rv : Value} (hv : VRel C w v rv) : ∀ {fs : List (Nat × Val)} {es : List DictEntry},FRel C w fs es -> FRel C w (fput fs (enc nm) v) (putL nm hsh (.str nm t) rv es) := by
 intro fs
 induction fs with
 | nil => intro es h; rw [show es = [] from h]; exact ⟨nm,t,hsh,rv,[],rfl,hn,rfl,hv,rfl⟩
 | cons p fs ih =>
  intro es h
  obtain ⟨x,t',hsh',v',r,rfl,h1,h2,h3,h4⟩ := h
  have ih := ih h4
  show FRel C w (bif p.1 == enc nm then _ else _) _
  unfold putL
  rw [isStr_key h1 hn,h2]
  cases hq : (p.1 == enc nm) with
  | true =>
   rw [if_pos rfl]
   exact ⟨x,t',hsh',rv,r,rfl,h1,h2.trans (beq_iff_eq.mp hq),hv,h4⟩
  | false =>
   rw [if_neg Bool.false_ne_true]
   exact ⟨x,t',hsh',v',_,rfl,h1,h2,h3,ih⟩
theorem FRel.length : ∀ {fs : List (Nat × Val)} {es : List DictEntry},FRel C w fs es -> es.length = fs.length := by
 intro fs
 induction fs with
 | nil => intro es h; rw [show es = [] from h]; rfl
 | cons p fs ih => intro es h; obtain ⟨_,_,_,_,r,rfl,_,_,_,h4⟩ := h; exact congrArg (· + 1) (ih h4)
theorem fput_len (fs : List (Nat × Val)) (n : Nat) (v : Val) : (fput fs n v).length <= fs.length + 1 := by
 induction fs with
 | nil => exact Nat.le_refl _
 | cons p fs ih =>
  show (bif p.1 == n then _ else _ : List (Nat × Val)).length <= _
  cases (p.1 == n) with
  | true => exact Nat.le_succ _
  | false => exact Nat.succ_le_succ ih
inductive InsAt {C : Cfg} {d e : Nat} (Y : Actv C d e) (k : Kp) (w : Wd) (H : MH) (s : Shared) (i : Nat) (v : Value) (q : Nat × List (Nat × Val)) : Prop
 | mk (a ca dx : Addr) (es : List DictEntry) (n : Nat) (pre post : Led) (e : v = .ref a) (hc : C.ad.lookup q.1 = some ca) (f : FRel C w q.2 es) (l : q.2.length <= 500) (hn : News Y.h₀ Y.L s.heap ((pre ++ [(a,instObj ca dx)]) ++ (dx,dictOf es n) :: post)) (I : InstAt s.heap a (instObj ca dx) ca (some (dictOf es n)))
   (u : ∀ o',Upd dx (dictOf es n) o' ((pre ++ [(a,instObj ca dx)]) ++ (dx,dictOf es n) :: post) ((pre ++ [(a,instObj ca dx)]) ++ (dx,o') :: post))
   (g : ∀ fs' es' n' h',FRel C w fs' es' -> fs'.length <= 500 -> Fr Y.h₀ Y.L h' k.m -> News Y.h₀ Y.L h' ((pre ++ [(a,instObj ca dx)]) ++ (dx,dictOf es' n') :: post) -> Sta C Y.h₀ Y.L k w (H.set i (.inst q.1 fs')) h') : InsAt Y k w H s i v q
theorem Sta.insAt (S : St Y k w H s) {i : Nat} {v : Value} {q : Nat × List (Nat × Val)} (hv : VRel C w (.ref i) v) (ho : H[i]?.bind MObj.inst? = some q) : InsAt Y k w H s i v q := by
 obtain ⟨o,hi,h2⟩ := bs ho
 cases inst?_s h2
 obtain ⟨a,e,ha⟩ := hv
 obtain ⟨pre,en,post,⟨c,dx,es,n,rfl,hc,f,l⟩,hn,hd,g⟩ := S.at ha hi
 have eq : ∀ o',pre ++ ([(a,instObj c dx),(dx,o')] ++ post) = (pre ++ [(a,instObj c dx)]) ++ (dx,o') :: post := fun o' => by rw [List.append_assoc]; rfl
 rw [eq] at hn hd
 exact ⟨a,c,dx,es,n,pre,post,e,hc,f,l,hn,InstAt.of_news hn (List.mem_append_left _ (List.mem_append_right _ (.head _))) (List.mem_append_right _ (.head _)),fun o' => zbM hd,fun fs' es' n' h' r l' F N => g (.inst q.1 fs') [(a,instObj c dx),(dx,dictOf es' n')] h' rfl ⟨c,dx,es',n',rfl,hc,r,l'⟩ F (by rw [eq]; exact N)⟩
theorem snd_getAttr (O : zaP C gl) (S : St Y k w H s) {x : Val} {vx : Value} {nm : Str} (hnm : zae nm = true) (hx : VRel C w x vx) : Ref Y k (VR C) (PySem.getAttr vx nm true) w s ((getAttr C.P H x (enc nm)).map fun v => (v,H)) := by
 refine .omap fun v e => .val S fun Q E q => ?_
 have att : ∀ {a ca dx : Addr} {c n : Nat} {es : List DictEntry},InstAt s.heap a (instObj ca dx) ca (some (dictOf es n)) -> C.ad.lookup c = some ca -> getL nm es = some none -> zc3 C.P c (enc nm) = some v -> wpAny C.M Y.A (PySem.getAttr (.ref a) nm true) Q E s := fun I hc q2 e => by
  obtain ⟨u,hu,e⟩ := bs e
  obtain ⟨hf,e⟩ := gs e
  cases e
  obtain ⟨t4,t5,av,t6,t7,_,t9⟩ := (O.attrs _ _ _ hu).use hnm rfl hc
  obtain ⟨k1,k2,k3⟩ := t9 (by cases hq : isFnV C.P v; rfl; rw [hq] at hf; cases hf)
  exact get_cls S.fr Y.k I t4 t5 t6 k1 k2 k3 q2 (q av _ (t7 w))
 revert e
 refine zaz (bs_r fun p hp e => ?_) (bs_r fun a e1 => bs_r fun c hc e => ?_)
 ·obtain ⟨i,e1,hp⟩ := bs hp
  cases ref?_s e1
  obtain ⟨a,ca,dx,es,n,pre,post,rfl,hc,hF,hl,hN,I,_,_⟩ := S.insAt hx hp
  cases hF.getL hnm with
  | none h1 h2 => rw [h1] at e; exact att I hc h2 e
  | some u rv h1 h2 r =>
   rw [h1] at e
   obtain ⟨hfl,e⟩ := gs e
   cases e
   obtain ⟨t4,t5,attr,t6,t7,_,_,_⟩ := (O.flds _ _ hfl).use hnm rfl hc
   exact get_own S.fr Y.k I t4 t5 t6 t7 h2 (handed_of r) (q rv _ r)
 ·cases top?_s e1
  obtain ⟨xa,rfl,hx⟩ := hx
  obtain ⟨xa',ca,dx,n,i1,i2,i3,i4⟩ := O.insts _ _ hc
  cases Option.some.inj (i1.symm.trans hx)
  exact att (InstAt.of_K S.kIn i3 i4) i2 rfl e
theorem snd_getMeth (O : zaP C gl) (S : St Y k w H s) {x : Val} {vx : Value} {nm : Str} {r : Nat × List Val} {pl : Sem Bool} (hnm : zae nm = true) (hx : VRel C w x vx) {Q : Value × List Value -> Shared -> Prop} {E : Value -> Shared -> Prop}
  (h : ∀ fa first tk,C.ad.lookup r.1 = some fa -> zaa C w r.2 first -> Q (.ref fa,first) { s with toks := tk }) : zaN C.P H x (enc nm) = some r -> wpAny C.M Y.A (PySem.getMethod vx nm pl) Q E s := by
 have met : ∀ {a ca dx : Addr} {c n f : Nat} {es : List DictEntry},vx = .ref a -> InstAt s.heap a (instObj ca dx) ca (some (dictOf es n)) -> C.ad.lookup c = some ca -> getL nm es = some none -> methC C.P c (enc nm) = some f -> (f,[x]) = r -> wpAny C.M Y.A (PySem.getMethod vx nm pl) Q E s := fun ea I hc q2 e er => by
  obtain ⟨u,hu,e⟩ := bs e
  obtain ⟨hf,e⟩ := gs e
  cases top?_s e
  obtain ⟨t4,_,av,t6,t7,t8,_⟩ := (O.attrs _ _ _ hu).use hnm rfl hc
  obtain ⟨ga,rfl,hg⟩ := t7 w
  subst er ea
  exact method_inst S.fr Y.k I t4 t6 (t8 hf).1 q2 (h _ _ s.toks hg (.one hx))
 refine zaz (bs_r fun a e1 e => ?_) (bs_r fun q hq => gs_r fun hnone => ms_r fun f hf e => ?_)
 ·cases top?_s e1
  obtain ⟨xa,e2,hxa⟩ := id hx
  cases hi : C.P.instAt a with
  | some c =>
   rw [hi] at e
   obtain ⟨f,hf,e⟩ := ms e
   obtain ⟨xa',ca,dx,n,i1,i2,i3,i4⟩ := O.insts _ _ hi
   cases Option.some.inj (i1.symm.trans hxa)
   exact met e2 (InstAt.of_K S.kIn i3 i4) i2 rfl hf e
  | none =>
   rw [hi] at e
   obtain ⟨f,hf,e⟩ := ms e
   obtain ⟨u,hu,hf⟩ := bs hf
   obtain ⟨hfn,hf⟩ := gs hf
   cases top?_s hf
   obtain ⟨_,_,av,t6,t7,t8,_⟩ := (O.attrs _ _ _ hu).use hnm rfl hxa
   obtain ⟨ga,rfl,hg⟩ := t7 w
   obtain ⟨k1,k2,mc,k3,k4,k5⟩ := t8 hfn
   subst e e2
   exact method_of_cls S.fr Y.k k2 (cls_val S.fr Y.k k3 k4 k5 rfl (h _ _ _ hg .nil))
 ·obtain ⟨i,e1,hq⟩ := bs hq
  cases ref?_s e1
  obtain ⟨a,ca,dx,es,n,pre,post,ea,hc,hF,hl,hN,I,_,_⟩ := S.insAt hx hq
  cases hF.getL hnm with
  | none h1 h2 => exact met ea I hc h2 hf e
  | some u rv h1 h2 r' => rw [h1] at hnone; cases hnone
theorem zb5 (O : zaP C gl) (S : St Y k w H s) {x v : Val} {vx vv : Value} {nm : Str} {H' : MH} (hnm : zae nm = true) (hx : VRel C w x vx) (hv : VRel C w v vv) {Q : Unit -> Shared -> Prop} {E : Value -> Shared -> Prop}
  (h : ∀ s',Nxt Y k w w H' s s' -> Q () s') : setAttr C.P H x (enc nm) v = some H' -> wpAny C.M Y.A (PySem.setAttr vx nm vv) Q E s := by
 refine bs_r fun i e1 => bs_r fun q hq => gs_r fun hfl e => ?_
 cases ref?_s e1; cases e
 obtain ⟨a,ca,dx,es,n,pre,post,rfl,hc,hF,hl,hN,I,U,g⟩ := S.insAt hx hq
 have hfl := Bool.and_eq_true_iff.mp hfl
 obtain ⟨t4,t5,attr,t6,t7,t8,t9,t10⟩ := (O.flds _ _ hfl.1).use hnm rfl hc
 have hgl : (getL nm es).isSome = true := by cases hF.getL hnm with | none _ h2 => rw [h2]; rfl | some _ _ _ h2 _ => rw [h2]; rfl
 have hp := hF.put (hsh:=PyData.keyHash C.w.params nm) (t:=s.toks + 1) hnm hv
 have hlen := fput_len q.2 (enc nm) v
 have hl4 := Nat.ble_eq.mp hfl.2
 exact set_dict S.fr Y.k hN I rfl t9 t10 t8 t5 hgl rfl (U _) (by rw [hp.length]; omega) fun h' F' N' => h _ ⟨.refl w,g _ _ _ h' hp (by omega) F' N',rfl,rfl⟩
theorem zcx {o : Expr} {attr : Str} {whole : Sem Value} (h : baseOk o = true) : attributeBase o attr env whole = whole := by
 cases o with
 | Call f as ks pos =>
  cases as with
  | nil => cases h
  | cons x r => cases f <;> rfl
 | _ => rfl
theorem snd_attr (O : zaP C gl) {v : Expr} {nm : Str} {iv : Ex} {pos : Pos} (hv : ESnd C d cx v iv) (hn : zae nm = true) (hb : baseOk v = true) : ESnd C d cx (.Attribute v nm pos) (.attr iv (enc nm)) := by
 intro Y env k mE fr w H s p r
 refine zad fun x H1 e1 e Q E hq => Attribute_any_ (hv Y env k mE fr w H s p _ e1 _ _ fun w1 a1 s1 n1 r1 => snd_getAttr O n1.st hn r1 r e _ _ fun w2 a2 s2 n2 r2 => hq w2 a2 s2 (n1.trans n2) r2) ?_
 show (do
   let o <- attributeBase v nm env (PySem.eval v env)
   standAt pos.atName
   let r <- holding [o] (PySem.getAttr o nm true)
   letTemporaryGo v o r
   pure r) = _
 rw [zcx hb]
theorem zaH {M : Model} {A : Around} {f : Value} {args : List (Bool × Sem Value)} {Q : Args -> Shared -> Prop} {E : Value -> Shared -> Prop} (hp : args.any (·.1) = false) (h : wpAny M A (spliced args) (fun vs s' => Q ⟨vs,[]⟩ s') E s) : wpAny M A (evalArgs f true args []) Q E s := by
 cases args with
 | nil =>
  unfold evalArgs
  show wpAny M A (spliced [] >>= _) Q E s
  exact wpAny_bind (wpAny_mono h (fun vs s' h' => wpAny_holding (wpAny_bind (wpAny_pure (wpAny_bind (wpAny_pure (wpAny_pure h')))))) fun _ _ x => x)
 | cons p r =>
  obtain ⟨b,x⟩ := p
  cases b with
  | false => exact evalArgs_plain h
  | true => cases hp
theorem zaO {M : Model} {A : Around} {K : Frag} {pos : Pos} {f : Value} {first : List Value} {es : List Expr} {irs : List Ex} {Q : Value -> Shared -> Prop} {E : Value -> Shared -> Prop} (hk : keepIn K f = true) (hc : Sds C d cx es irs)
  (h : wpAny M A (spliced (backTo pos (starEach es env))) (fun vs s₁ => K.In s₁.heap /\ wpAny M A (call f (first ++ vs)) Q E s₁) E s) : wpAny M A (callWith pos f first (backTo pos (starEach es env)) []) Q E s :=
 callWith_of (by rw [zau hc]; rfl) (keeps_K hk) (zaH (zau hc) h)
noncomputable def zaQ (C : Cfg) (d : Nat) : Prop :=
 ∀ (Y : Actv C d 0) (k : Kp) (w : Wd) (H : MH) (s : Shared) (f : Nat) (fa : Addr) (as : List Val) (vs : List Value) (r : Val × MH),St Y k w H s -> C.ad.lookup f = some fa -> zaa C w as vs -> zaG C.P fuel0 d f as H = some r ->
  ∀ R : Result -> Shared -> Prop,(∀ w' rv s',Nxt Y k w w' r.2 s s' -> VRel C w' r.1 rv -> R (.ok (.ret rv)) s') -> codeAny C.M Y.A (.call (.ref fa) ⟨vs,[]⟩) R s
theorem zaQ.wp (hC : zaQ C d) (Y : Actv C d e) {f : Nat} {fa : Addr} {as : List Val} {vs : List Value} (S : St Y k w H s) (hf : C.ad.lookup f = some fa) (r : zaa C w as vs) : Ref Y k (VR C) (call (.ref fa) vs) w s (zaG C.P fuel0 d f as H) :=
 fun r' ev Q E hq => wpAny_call (hC Y.toW k w H s f fa as vs r' S hf r ev _ fun w' rv s' n r2 => hq w' rv s' ⟨n.le,n.st,n.same⟩ r2)
theorem keep_fn (O : zaP C gl) {f : Nat} {fa : Addr} {as : List Val} {H : MH} {r : Val × MH} (hf : C.ad.lookup f = some fa) (e : zaG C.P fuel0 d f as H = some r) : keepIn C.K (.ref fa) = true := by
 cases d with
 | zero => exact nos e
 | succ d =>
  obtain ⟨fn,hfn,e⟩ := bs e
  obtain ⟨h1,fa',_,_,_,_,_,_,_,_,_,_,_,_,_,_,_,k1,_,_,_,k6,_,_,_⟩ := O.fns _ _ hfn
  rw [h1,hf] at k1
  cases k1
  exact k6
theorem cls_frames {A : Around} {ca : Addr} {vs : List Value} {f : Option (List Env)} (h : A.frames = f) : (A.under (.builtin "type.__call__" ⟨.ref ca :: vs,[]⟩)).frames = f := by
 show pushEnvs (Code.envs (.builtin "type.__call__" ⟨.ref ca :: vs,[]⟩)) A.frames = _
 rw [show Code.envs (.builtin "type.__call__" ⟨.ref ca :: vs,[]⟩) = [] by unfold Code.envs; rw [show Code.isFrame (.builtin "type.__call__" ⟨.ref ca :: vs,[]⟩) = false from rfl,if_neg Bool.false_ne_true]]
 exact h
theorem cls_depth {a n : Nat} (h : a + n + 2 + 2 <= 900) : a + 1 + n + 2 + 0 <= 900 := by omega
theorem cls_units {a n : Nat} (h : a + n + 190 + 5 * 2 <= 9900) : a + 1 + n + 190 + 5 * 0 <= 9900 := by omega
noncomputable def Actv.underCls (Y : Actv C d 2) (ca : Addr) (vs : List Value) : Actv C d 0 where
 A := Y.A.under (.builtin "type.__call__" ⟨.ref ca :: vs,[]⟩)
 h₀ := Y.h₀
 L := Y.L
 envF := Y.envF
 below := Y.below.elim fun A₀ h => h.elim fun base h => h.elim fun outer h => ⟨A₀,base,outer,h.1,cls_frames h.2⟩
 k := Y.k
 top := Y.top
 frame := Y.frame
 kind := Y.kind
 handled := Y.handled
 depth := cls_depth Y.depth
 units := cls_units Y.units
theorem snd_make (O : zaP C gl) (hC : zaQ C d) {Y : Actv C d 2} (S : St Y k w H s) {c : Nat} {ca : Addr} {cl : Cl} {as : List Val} {vs : List Value} (hk : C.P.clsAt c = some cl) (hca : C.ad.lookup c = some ca) (r : zaa C w as vs) : Ref Y k (VR C) (call (.ref ca) vs) w s (newV (C.cx d) c cl as H) := by
 refine .opt fun i hi => fun r' => zad fun x H' ev => gs_r fun hx e => ?_
 cases isNone_s hx; cases e
 intro Q E hq
 obtain ⟨ca',fI,t1,t2,t3,t4,t5,t6⟩ := O.inits _ _ _ hk hi
 cases Option.some.inj (t1.symm.trans hca)
 obtain ⟨all,hn,add,_,_⟩ := S.ledger
 refine call_cls S.fr Y.k hn t3 t4 t5 fun x dx h' F' N' l1 l2 => ?_
 have hx4 : 4 <= x := Decidable.byContradiction fun hlt => by
  obtain ⟨o,ho⟩ := O.cfg.low x (Nat.lt_of_not_le hlt)
  have := (N' (x,instObj ca dx) (.head _)).2.2
  rw [Y.k _ _ ho] at this
  cases this
 have le : w.le ⟨w.σ ++ [x],w.tp⟩ := ⟨List.prefix_append _ _,fun _ x => x⟩
 have hS : Sta C Y.h₀ Y.L k ⟨w.σ ++ [x],w.tp⟩ (H ++ [.inst c []]) h' := by
  refine add x (.inst c []) [(x,instObj ca dx),(dx,dictOf [] 0)] h' ⟨ca,dx,[],0,rfl,hca,rfl,Nat.zero_le _⟩ F' N' ?_ ?_ hx4
  ·exact List.nodup_cons.mpr ⟨fun h => absurd (List.mem_singleton.mp h) (Nat.ne_of_gt l2),zbq _⟩
  ·intro p hp q hq
   have := l1 q hq
   rcases List.mem_cons.mp hp with rfl | hp
   ·exact Nat.ne_of_gt (Nat.lt_trans this l2)
   ·rw [List.mem_singleton.mp hp]; exact Nat.ne_of_gt this
 have hr : (w.σ ++ [x])[H.length]? = some x := by rw [<- S.len]; exact List.getElem?_concat_length
 exact hC (Y.underCls ca vs) k ⟨w.σ ++ [x],w.tp⟩ (H ++ [MObj.inst c []]) { s with heap := h' } i fI (.ref H.length :: as) (.ref x :: vs) (.none,H') hS t2 (.cons ⟨x,rfl,hr⟩ (r.mono le)) ev _ fun w' rv s' n r2 => ⟨r2,hq w' _ s' ⟨le.trans n.le,n.st,n.same.1,n.same.2⟩ ⟨x,rfl,n.le.get hr⟩⟩
theorem snd_bi (O : zaP C gl) {n : Nat} {nm : String} (hb : biTab.lookup n = some nm) (S : St Y k w H s) {as : List Val} {vs : List Value} (r : zaa C w as vs) : Ref Y k (VR C) (call (.builtin nm) vs) w s (callBi n as H) :=
 .alt (.grd fun h => zb3 (t:=biTab) h hb (y:="len") rfl ▸ snd_len S r) (.alt (.grd fun h => zb3 (t:=biTab) h hb (y:="max") rfl ▸ snd_max S r) (.alt (.grd fun h => zb3 (t:=biTab) h hb (y:="min") rfl ▸ snd_min S r) (.grd fun h => zb3 (t:=biTab) h hb (y:="sorted") rfl ▸ O.srt O.cfg S r)))
theorem snd_callV (O : zaP C gl) (hC : zaQ C d) {es : List Expr} {irs : List Ex} (hc : Sds C d cx es irs) {Y : Actv C d 2} {pos : Pos} {g : Val} {gv : Value} {vs : List Val} {H1 : MH} (p : Pl Y cx env k mE fr w H s) (hg : VRel C w g gv) (e1 : zbS (C.cx d) irs fr H = some (vs,H1)) : Ref Y k (VR C) (callWith pos gv [] (backTo pos (starEach es env)) []) w s (callV (C.cx d) g vs H1) := by
 have args : ∀ {Q : List Value -> Shared -> Prop} {E : Value -> Shared -> Prop},(∀ w1 a1 s1,Nxt Y k w w1 H1 s s1 -> zaa C w1 vs a1 -> Q a1 s1) -> wpAny C.M Y.A (spliced (backTo pos (starEach es env))) Q E s := fun hq => zbn hc Y env k mE fr w H s pos p _ e1 _ _ hq
 refine .alt (.opt fun f hf => .case (fun hcl => ?_) (fun cl hcl => ?_)) (.alt (.opt fun n hn => ?_) (.opt fun n hn => ?_))
 ·cases top?_s hf
  obtain ⟨ga,rfl,hga⟩ := hg
  intro r e Q E hq
  exact zaO (keep_fn O hga e) hc (args fun w1 a1 s1 n1 r1 => ⟨n1.st.kIn,hC.wp Y n1.st hga r1 r e Q E fun w2 a2 s2 n2 r2 => hq w2 a2 s2 (n1.trans n2) r2⟩)
 ·cases top?_s hf
  obtain ⟨ga,rfl,hga⟩ := hg
  intro r e Q E hq
  obtain ⟨i,hi,_⟩ := bs e
  obtain ⟨ca',fI,t1,t2,t3,t4,t5,t6⟩ := O.inits _ _ _ hcl hi
  cases Option.some.inj (t1.symm.trans hga)
  exact zaO t6 hc (args fun w1 a1 s1 n1 r1 => ⟨n1.st.kIn,snd_make O hC n1.st hcl hga r1 r e Q E fun w2 a2 s2 n2 r2 => hq w2 a2 s2 (n1.trans n2) r2⟩)
 ·cases bi?_s hn
  obtain ⟨nm,rfl,hb⟩ := hg
  exact fun r e Q E hq => callWith_builtin (zau hc) (zaH (zau hc) (args fun w1 a1 s1 n1 r1 => snd_bi O hb n1.st r1 r e Q E fun w2 a2 s2 n2 r2 => hq w2 a2 s2 (n1.trans n2) r2))
 ·cases ty?_s hn
  obtain ⟨nm,rfl,hb⟩ := hg
  exact fun r e Q E hq => PySem.callWith_type (zau hc) (zaH (zau hc) (args fun w1 a1 s1 n1 r1 => snd_ty hb n1.st r1 r e Q E fun w2 a2 s2 n2 r2 => hq w2 a2 s2 (n1.trans n2) r2))
theorem snd_callName (O : zaP C gl) (hC : zaQ C d) {x : Str} {xp pos : Pos} {ig : Ex} {es : List Expr} {irs : List Ex} (hc : Sds C d cx es irs) (hx : ESnd C d cx (.Name x xp) ig) : ESnd C d cx (.Call (.Name x xp) es [] pos) (.call ig irs) :=
 fun Y env k mE fr w H s p r => zad fun g H1 e1 => zad fun vs H2 e2 e Q E hq => Call_ (hx Y env k mE fr w H s p _ e1 _ _ fun w1 a1 s1 n1 r1 => snd_callV O hC hc (p.next n1) r1 e2 r e Q E fun w2 a2 s2 n2 r2 => hq w2 a2 s2 (n1.trans n2) r2)
theorem methForm {n : Nat} {es : List Expr} {irs : List Ex} {pos : Pos} (hc : Sds C d cx es irs) (hn : n < 30) : methodCallForm n (backTo pos (starEach es env)) [] = true := by
 unfold methodCallForm
 have h := zau (env:=env) (pos:=pos) hc
 rw [Bool.and_eq_true,Bool.and_eq_true]
 refine ⟨⟨?_,rfl⟩,decide_eq_true hn⟩
 rw [List.all_eq_true]
 intro x hx
 have := (List.any_eq_false.mp h) x hx
 cases hb : x.1 with
 | false => rfl
 | true => exact absurd hb this
theorem snd_callMeth (O : zaP C gl) (hC : zaQ C d) {o : Expr} {nm : Str} {apos pos : Pos} {io : Ex} {es : List Expr} {irs : List Ex} (hc : Sds C d cx es irs) (hlen : es.length <= 20) (ho : ESnd C d cx o io) (hn : zae nm = true) (hb : baseOk o = true)
  (hp : (apos.endLine == pos.line) = true) : ESnd C d cx (.Call (.Attribute o nm apos) es [] pos) (.meth io (enc nm) irs) := by
 intro Y env k mE fr w H s p r
 refine zad fun x H1 e1 => zad fun vs H2 e2 e Q E hq => ?_
 show wpAny C.M Y.A (do
  let ov <- attributeBase o nm env (PySem.eval o env)
  standAt apos.atName
  methodCall o nm apos pos env ov (es.length + 0) (backTo pos (starEach es env)) (backToKw pos (keywordEach [] env))) Q E s
 rw [zcx hb]
 refine wpAny_bind (ho Y env k mE fr w H s p _ e1 _ _ fun w1 a1 s1 n1 r1 => wpAny_bind (wpAny_standAt ?_))
 unfold methodCall
 rw [show methodCallForm (es.length + 0) (backTo pos (starEach es env)) (backToKw pos (keywordEach [] env)) = true from methForm hc (Nat.lt_of_le_of_lt hlen (by decide))]
 unfold calleeOf methodCallPos
 rw [if_pos rfl]
 refine wpAny_bind (wpAny_holding ?_)
 cases hm : zaN C.P H1 x (enc nm) with
 | some q =>
  have e : zaG C.P fuel0 d q.1 (q.2 ++ vs) H2 = some r := by
   have e' : Option.casesOn (motive:=fun _ => Option (Val × MH)) (zaN C.P H1 x (enc nm)) (bmeth x (enc nm) vs H1 H2) (fun p => zaG C.P fuel0 d p.1 (p.2 ++ vs) H2) = some r := e
   rw [hm] at e'; exact e'
  refine snd_getMeth O n1.st hn r1 (fun fa first tk hfa hself => ?_) hm
  rw [if_pos (by rw [hp]; rfl)]
  refine wpAny_bind (wpAny_pure ?_)
  have n1' := n1.trans (.toks n1.st tk)
  exact zaO (s:={ s1 with toks := tk }) (keep_fn O hfa e) hc (zbn hc Y env k mE fr w1 H1 { s1 with toks := tk } pos (p.next n1') _ e2 _ _ fun w2 a2 s2 n2 r2 => ⟨n2.st.kIn,hC.wp Y n2.st hfa (zaa.append r2 (hself.mono n2.le)) r e Q E fun w3 a3 s3 n3 r3 => hq w3 a3 s3 ((n1'.trans n2).trans n3) r3⟩)
 | none =>
  have e : bmeth x (enc nm) vs H1 H2 = some r := by
   have e' : Option.casesOn (motive:=fun _ => Option (Val × MH)) (zaN C.P H1 x (enc nm)) (bmeth x (enc nm) vs H1 H2) (fun p => zaG C.P fuel0 d p.1 (p.2 ++ vs) H2) = some r := e
   rw [hm] at e'; exact e'
  refine snd_bget hn n1.st r1 e _ _ _ fun id hid => ?_
  rw [if_pos (by rw [hp]; rfl)]
  refine wpAny_bind (wpAny_pure ?_)
  exact callWith_builtin (zau hc) (zaH (zau hc) (zbn hc Y env k mE fr w1 H1 s1 pos (p.next n1) _ e2 _ _ fun w2 a2 s2 n2 r2 => hid w2 s2 a2 n2.le n2.st r2 Q E fun w3 a3 s3 n3 r3 => hq w3 a3 s3 ((n1.trans n2).trans n3) r3))
end
end Mi
namespace Mi
open PySem PySem.W PySem.Calls PyProof.Rows
theorem zbk {prog : Program} {w : World} {A : Around} {s : Shared} {elt target iter : Expr} {ifs : List Expr} {scope : Scope} {pos : Pos} {it acc : Value} {env : Env} {R : Result -> Shared -> Prop} (I : Nat -> Shared -> Prop)
  (turn : ∀ n s,I n s -> wpAny (model prog w) A (pyNext it) (fun r s₁ => match r with
   | none => R (.ok .next) s₁
   | some v => wpAny (model prog w) A (letOwnedTupleGo target it v) (fun _ s₁' => wpAny (model prog w) A (assign target env v) (fun _ s₂ =>
     wpAny (model prog w) A (forIn ifs true fun c r => if r = true then do let ok <- PySem.isTrue c env (PySem.eval c env); pure (ForInStep.yield ok) else pure (ForInStep.yield r)) (fun ok s₃ =>
      if ok = true then wpAny (model prog w) A (PySem.eval elt env) (fun x s₄ =>
       wpAny (model prog w) A (call (.builtin "list.append") [acc,x]) (fun _ s₅ => ∃ m,m < n /\ I m s₅) (notedBy (model prog w) A env fun e s' => R (.error e) s') s₄) (notedBy (model prog w) A env fun e s' => R (.error e) s') s₃
      else ∃ m,m < n /\ I m s₃) (notedBy (model prog w) A env fun e s' => R (.error e) s') s₂)
     (notedBy (model prog w) A env fun e s' => R (.error e) s') s₁') (notedBy (model prog w) A env fun e s' => R (.error e) s') s₁) (notedBy (model prog w) A env fun e s' => R (.error e) s') s)
  (n : Nat) (h : I n s) : codeAny (model prog w) A (.compLoop (.ListComp elt [⟨target,iter,ifs,0⟩] scope pos) 0 it acc env) R s := by
 refine codeAny_loop rfl I (fun n s hI => ?_) n h
 show wpAny _ A ((compTurn (.ListComp elt [⟨target,iter,ifs,0⟩] scope pos) 0 it acc env).onRaise (fun x => do noteFrame x env; theTreesLotGoes x)) _ _ s
 refine wpAny_noted ?_
 rw [compTurn_list]
 refine wpAny_bind (wpAny_standAt (wpAny_bind (wpAny_mono (turn n s hI) (fun r s₁ h₁ => ?_) fun _ _ h' => h')))
 cases r with
 | none => exact wpAny_pure h₁
 | some v =>
  refine wpAny_bind (wpAny_mono h₁ (fun _ s₁' h₁' => ?_) fun _ _ h' => h')
  refine wpAny_bind (wpAny_mono h₁' (fun _ s₂ h₂ => wpAny_bind (wpAny_mono h₂ (fun ok s₃ h₃ => ?_) fun _ _ h' => h')) fun _ _ h' => h')
  cases ok with
  | false => exact wpAny_pure ⟨rfl,h₃⟩
  | true => exact wpAny_bind (wpAny_bind (wpAny_mono h₃ (fun x s₄ h₄ => wpAny_bind (wpAny_mono h₄ (fun _ s₅ h₅ => wpAny_pure (wpAny_pure ⟨rfl,h₅⟩)) fun _ _ h' => h')) fun _ _ h' => h'))
theorem compSc_look (outer : List (Str × NameKind)) (sc : Scope) (x : Str) : (zce outer sc).lookup x = (sc.names.lookup x).map fun k => if (k == .free && outer.lookup x == some .cell) = true then .cell else k := by
 unfold zce
 generalize sc.names = l
 induction l with
 | nil => rfl
 | cons p l ih =>
  rw [List.map_cons,List.lookup_cons,List.lookup_cons]
  cases hxy : x == p.1 with
  | true => rw [beq_iff_eq.mp hxy]; rfl
  | false => exact ih
noncomputable def zaI (env : Env) (p : Str × NameKind) (cs : List (Str × Addr)) : List (Str × Addr) := if p.2 == .free then (match env.cells.lookup p.1 with | some a => (p.1,a) :: cs | none => cs) else cs
theorem clos_eq {env : Env} : ∀ (l : List (Str × NameKind)) (acc : List (Str × Addr)),(∀ p ∈ l,p.2 = .free -> (env.cells.lookup p.1).isSome = true) ->
  (forIn l acc fun x r => match x with
   | (name,kind) => if (kind == NameKind.free) = true then do let a <- cellOf env name; pure (ForInStep.yield ((name,a) :: r)) else pure (ForInStep.yield r) : Sem (List (Str × Addr))) = pure (l.foldl (fun cs p => zaI env p cs) acc) := by
 intro l
 induction l with
 | nil => exact fun acc _ => rfl
 | cons p l ih =>
  intro acc h
  obtain ⟨n,k⟩ := p
  rw [List.forIn_cons,List.foldl_cons]
  have ih := fun acc => ih acc fun p hp => h p (.tail _ hp)
  dsimp only
  by_cases hk : (k == NameKind.free) = true
  ·rw [if_pos hk]
   obtain ⟨a,ha⟩ := Option.isSome_iff_exists.mp (h (n,k) (.head _) (beq_iff_eq.mp hk))
   have e : cellOf env n = pure a := by unfold cellOf; rw [show env.cells.lookup n = some a from ha]
   rw [e,pure_bind,pure_bind]
   dsimp only
   rw [ih]
   congr 2
   unfold zaI
   rw [if_pos hk]
   dsimp only at ha ⊢
   rw [ha]
  ·rw [if_neg hk,pure_bind]
   dsimp only
   rw [ih]
   congr 2
   unfold zaI
   rw [if_neg hk]
theorem clos_look {env : Env} {x : Str} {c : Addr} (hc : env.cells.lookup x = some c) : ∀ (l : List (Str × NameKind)) (acc : List (Str × Addr)),((x,NameKind.free) ∈ l \/ acc.lookup x = some c) -> (l.foldl (fun cs p => zaI env p cs) acc).lookup x = some c := by
 intro l
 induction l with
 | nil => exact fun acc h => h.elim (fun h => absurd h List.not_mem_nil) id
 | cons p l ih =>
  intro acc h
  rw [List.foldl_cons]
  refine ih _ ?_
  have keep : acc.lookup x = some c -> (zaI env p acc).lookup x = some c := fun h => by
   unfold zaI
   split
   ·split
    ·rename_i a ha
     rw [List.lookup_cons]
     cases hxy : x == p.1 with
     | true => rw [beq_iff_eq.mp hxy] at hc; exact ha.symm.trans hc
     | false => exact h
    ·exact h
   ·exact h
  rcases h with h | h
  ·rcases List.mem_cons.mp h with e | h
   ·refine .inr ?_
    rw [<- e]
    unfold zaI
    dsimp only
    rw [hc,if_pos (show (NameKind.free == NameKind.free) = true from rfl)]
    show List.lookup x ((x,c) :: acc) = some c
    rw [List.lookup_cons,beq_self_eq_true]
   ·exact .inl h
  ·exact .inr (keep h)
theorem closure_eq {scope : Scope} {env : Env} (h : ∀ p ∈ scope.names,p.2 = .free -> (env.cells.lookup p.1).isSome = true) : ∃ cl,closureFor scope env = pure cl /\ ∀ x c,(x,NameKind.free) ∈ scope.names -> env.cells.lookup x = some c -> cl.lookup x = some c := by
 refine ⟨scope.names.foldl (fun cs p => zaI env p cs) [],?_,fun x c hx hc => clos_look hc _ _ (.inl hx)⟩
 have := clos_eq (env:=env) scope.names [] h
 unfold closureFor
 rw [<- this]
 simp only [bind_pure]
structure ScOk (cx : CC) (sc : Scope) (xs : List Str) : Prop where
 kind : sc.kind = .function
 nocell : ∀ p ∈ sc.names,p.2 ≠ .cell
 loc : ∀ p ∈ sc.names,p.2 = .local -> sc.names.lookup p.1 = some .local /\ (p.1 ∈ xs \/ cx.vars.lookup p.1 = none)
 free : ∀ p ∈ sc.names,p.2 = .free -> sc.names.lookup p.1 = some .free /\ cx.sc.lookup p.1 = some .cell
 nd : xs.Nodup
 xs : ∀ x ∈ xs,sc.names.lookup x = some .local
theorem scOk_of {cx : CC} {sc : Scope} {xs : List Str} (h : zcZ cx sc xs = true) : ScOk cx sc xs := by
 unfold zcZ at h
 simp only [Bool.and_eq_true,List.all_eq_true,beq_iff_eq,Bool.or_eq_true,bne_iff_ne,ne_eq,decide_eq_true_eq,List.contains_iff_mem,Option.isNone_iff_eq_none] at h
 obtain ⟨⟨⟨h1,h2⟩,h3⟩,h4⟩ := h
 exact ⟨h1,fun p hp => (h2 p hp).1.1,fun p hp hl => (h2 p hp).1.2.elim (absurd hl) id,fun p hp hf => (h2 p hp).2.elim (absurd hf) id,h4,h3⟩
noncomputable def CcOk (cx : CC) : Prop := ∀ x i,cx.vars.lookup x = some i -> i < cx.next
theorem lookup_app {α β : Type} [BEq α] (a : α) (r : List (α × β)) : ∀ (l : List (α × β)),(l ++ r).lookup a = (l.lookup a).or (r.lookup a) := by
 intro l
 induction l with
 | nil => rfl
 | cons p l ih =>
  rw [List.cons_append,List.lookup_cons,List.lookup_cons]
  cases a == p.1 with
  | true => rfl
  | false => exact ih
theorem zbD (x : Str) : ∀ (l : List Str) (n : Nat),(∀ i,(l.zip (List.range' n l.length)).lookup x = some i -> ∃ j,i = n + j /\ l[j]? = some x) /\ (x ∉ l -> (l.zip (List.range' n l.length)).lookup x = none) /\ (x ∈ l -> ((l.zip (List.range' n l.length)).lookup x).isSome = true) := by
 intro l
 induction l with
 | nil => exact fun n => ⟨fun i h => nos h,fun _ => rfl,fun h => absurd h List.not_mem_nil⟩
 | cons y l ih =>
  intro n
  obtain ⟨i1,i2,i3⟩ := ih (n + 1)
  rw [List.length_cons,List.range'_succ,List.zip_cons_cons,List.lookup_cons]
  cases hxy : x == y with
  | true => exact ⟨fun i h => ⟨0,(Option.some.inj h).symm,by rw [beq_iff_eq.mp hxy]; rfl⟩,fun h => absurd (beq_iff_eq.mp hxy ▸ List.mem_cons_self) h,fun _ => rfl⟩
  | false =>
   refine ⟨fun i h => ?_,fun h => i2 fun h' => h (.tail _ h'),fun h => i3 ((List.mem_cons.mp h).resolve_left (beq_eq_false_iff_ne.mp hxy))⟩
   obtain ⟨j,h1,h2⟩ := i1 i h
   exact ⟨j + 1,h1.trans (by rw [Nat.add_assoc,Nat.add_comm 1]),h2⟩
theorem zbj {cx : CC} {sc : Scope} {xs : List Str} {x : Str} {i : Nat} (h : (inComp cx sc xs).vars.lookup x = some i) : (∃ j,i = cx.next + j /\ xs[j]? = some x) \/ (x ∉ xs /\ cx.vars.lookup x = some i) := by
 have h : (xs.zip (List.range' cx.next xs.length) ++ cx.vars).lookup x = some i := h
 obtain ⟨z1,z2,z3⟩ := zbD x xs cx.next
 rw [lookup_app] at h
 by_cases hx : x ∈ xs
 ·obtain ⟨j,hj⟩ := Option.isSome_iff_exists.mp (z3 hx)
  rw [hj] at h
  cases h
  exact .inl (z1 _ hj)
 ·rw [z2 hx] at h
  exact .inr ⟨hx,h⟩
theorem CcOk.inComp {cx : CC} (h : CcOk cx) (sc : Scope) (xs : List Str) : CcOk (inComp cx sc xs) := by
 intro x i hi
 show i < cx.next + xs.length
 rcases zbj hi with ⟨j,rfl,hj⟩ | ⟨_,hi⟩
 ·exact Nat.add_lt_add_left (List.getElem?_eq_some_iff.mp hj).1 _
 ·exact Nat.lt_of_lt_of_le (h x i hi) (Nat.le_add_right _ _)
theorem zcG {cx : CC} {x : Str} {i : Nat} (h : zaU cx x = some i) : (cx.sc.lookup x = some .local \/ cx.sc.lookup x = some .cell) /\ cx.vars.lookup x = some i := by
 obtain ⟨h1,h2⟩ := gs h
 exact ⟨(Bool.or_eq_true_iff.mp h1).imp beq_iff_eq.mp beq_iff_eq.mp,h2⟩
theorem set_s {fr : Frame} {i j : Nat} {v u : Val} (h : (fr.set i (some v))[j]? = some (some u)) : (i = j /\ u = v) \/ (i ≠ j /\ fr[j]? = some (some u)) := by
 by_cases hij : i = j
 ·subst hij
  rw [List.getElem?_set] at h
  simp only [if_true] at h
  split at h
  ·cases h; exact .inl ⟨rfl,rfl⟩
  ·cases h
 ·rw [List.getElem?_set_ne hij] at h
  exact .inr ⟨hij,h⟩
theorem zcr (i : Nat) (u : Val) : ∀ (vs : List Val) (n : Nat) (fr : Frame),(puts (List.range' n vs.length) vs fr)[i]? = some (some u) -> (∃ j,i = n + j /\ vs[j]? = some u) \/ ((i < n \/ n + vs.length <= i) /\ fr[i]? = some (some u)) := by
 intro vs
 induction vs with
 | nil => exact fun n fr h => .inr ⟨Nat.lt_or_ge i n,h⟩
 | cons v vs ih =>
  intro n fr h
  rw [List.length_cons,List.range'_succ] at h
  rcases ih (n + 1) (fr.set n (some v)) h with ⟨j,h1,h2⟩ | ⟨h1,h2⟩
  ·exact .inl ⟨j + 1,by omega,h2⟩
  ·rcases set_s h2 with ⟨e,rfl⟩ | ⟨hne,h3⟩
   ·exact .inl ⟨0,e.symm,rfl⟩
   ·exact .inr ⟨by rw [List.length_cons]; omega,h3⟩
section
variable {C : Cfg} {d e : Nat} {Y : Actv C d e} {k : Kp} {w : Wd} {H : MH} {s : Shared} {cx : CC} {env : Env} {mE : Str -> Option Value} {fr : Frame}
theorem snd_iterSelf {A : Around} {I : Addr} {io : Obj} {z : It} {i : Nat} (hI : s.heap.get? I = some io) (R : zbA C w io i z) {Q : Value -> Shared -> Prop} {E : Value -> Shared -> Prop} (h : Q (.ref I) s) : wpAny C.M A (pyIter (.ref I)) Q E s := by
 cases z with
 | fs _ => obtain ⟨la,_,ic⟩ := R; exact wpAny_pyIter_listiter ⟨io,hI,ic.1,ic.2⟩ h
 | ls _ => obtain ⟨la,_,ic⟩ := R; exact wpAny_pyIter_listiter ⟨io,hI,ic.1,ic.2⟩ h
 | tp _ => obtain ⟨la,_,ic⟩ := R; exact wpAny_pyIter_tupleiter ⟨io,hI,ic.1,ic.2⟩ h
 | sq _ =>
  obtain ⟨_,T,t,hT,ic⟩ := R
  rcases hT with rfl | rfl
  ·exact wpAny_pyIter_striter_ascii ⟨io,hI,ic.1,ic.2⟩ h
  ·exact wpAny_pyIter_striter_wide ⟨io,hI,ic.1,ic.2⟩ h
 | dk _ _ _ => obtain ⟨la,_,ic,id⟩ := R; exact wpAny_pyIter_keyiter ⟨io,hI,ic,id⟩ h
 | rg _ => obtain ⟨_,_,_,rfl⟩ := R; exact wpAny_pyIter_rangeiter hI h
noncomputable abbrev tupKinds : List String := ["enumerate","zip","dict_itemiterator","dict_reverseitemiterator","odict_iterator","itertools.zip_longest","itertools.pairwise"]
theorem zbA.cls {io : Obj} {z : It} {i : Nat} (R : zbA C w io i z) : ∃ T vs,io.cls = .type T /\ io.data = .fields vs /\ tupKinds.contains T = false := by
 cases z with
 | fs _ => obtain ⟨la,_,ic⟩ := R; exact ⟨_,_,ic.1,ic.2,by decide⟩
 | ls _ => obtain ⟨la,_,ic⟩ := R; exact ⟨_,_,ic.1,ic.2,by decide⟩
 | tp _ => obtain ⟨la,_,ic⟩ := R; exact ⟨_,_,ic.1,ic.2,by decide⟩
 | sq _ => obtain ⟨_,T,t,hT,ic⟩ := R; rcases hT with rfl | rfl <;> exact ⟨_,_,ic.1,ic.2,by decide⟩
 | dk _ _ _ => obtain ⟨la,_,ic,id⟩ := R; exact ⟨_,_,ic,id,by decide⟩
 | rg _ => obtain ⟨_,_,_,rfl⟩ := R; exact ⟨_,_,rfl,rfl,by decide⟩
theorem zct {A : Around} {I : Addr} {io : Obj} (hI : s.heap.get? I = some io) {tg : Expr} {v : Value} (R : ∃ T vs,io.cls = .type T /\ io.data = .fields vs /\ tupKinds.contains T = false) {Q : Unit -> Shared -> Prop} {E : Value -> Shared -> Prop} (h : Q () s) : wpAny C.M A (letOwnedTupleGo tg (.ref I) v) Q E s := by
 obtain ⟨T,vs,hc,hd,hb⟩ := R
 have key : wpAny C.M A (do
  let (.ref r,.ref a) := ((Value.ref I),v) | return
  let o <- load r
  match o.cls,o.data with
  | .type n,.fields vs =>
   if ["enumerate","zip","dict_itemiterator","dict_reverseitemiterator","odict_iterator","itertools.zip_longest","itertools.pairwise"].contains n && vs[0]? == some (rawInt a) then
    rule "for.unpacks-the-owned-tuple"
    updateField r 0 .none
  | _,_ => pure ()) Q E s := by
  cases v with
  | ref b =>
   refine wpAny_bind (wpAny_load hI ?_)
   rw [hc,hd]
   dsimp only
   rw [show (["enumerate","zip","dict_itemiterator","dict_reverseitemiterator","odict_iterator","itertools.zip_longest","itertools.pairwise"].contains T) = false from hb]
   exact wpAny_pure h
  | _ => exact wpAny_pure h
 cases tg <;> first | exact wpAny_pure h | exact key
noncomputable abbrev testsT (env : Env) (ifs : List Expr) (b : Bool) : Sem Bool := forIn ifs b fun c r => if r = true then do let ok <- PySem.isTrue c env (PySem.eval c env); pure (ForInStep.yield ok) else pure (ForInStep.yield r)
theorem tests_false : ∀ (ifs : List Expr),testsT env ifs false = pure false := by
 intro ifs
 induction ifs with
 | nil => rfl
 | cons c r ih =>
  unfold testsT
  rw [List.forIn_cons]
  simp only [Bool.false_eq_true,if_false,pure_bind]
  exact ih
theorem snd_tests {ifs : List Expr} {irs : List Ex} (h : Sds C d cx ifs irs) : ∀ (Y : Actv C d 2) (env : Env) (k : Kp) (mE : Str -> Option Value) (fr : Frame) (w : Wd) (H : MH) (s : Shared),Pl Y cx env k mE fr w H s -> Ref Y k EqR (testsT env ifs true) w s (evalT (C.cx d) irs fr H) := by
 induction h with
 | nil => exact fun Y env k mE fr w H s p => .pure' p.st rfl
 | cons he _ ih =>
  intro Y env k mE fr w H s p r
  refine zad fun b H1 e1 e Q E hq => ?_
  unfold testsT
  rw [List.forIn_cons]
  simp only [if_true]
  refine wpAny_bind (wpAny_bind (he.ts Y env k mE fr w H s p _ e1 _ _ fun w1 a1 s1 n1 r1 => wpAny_pure ?_))
  rw [show a1 = b from r1]
  cases b with
  | true => exact ih Y env k mE fr w1 H1 s1 (p.next n1) _ e _ _ fun w2 a2 s2 n2 r2 => hq w2 a2 s2 (n1.trans n2) r2
  | false =>
   cases e
   show wpAny C.M Y.A (testsT env _ false) Q E s1
   rw [tests_false]
   exact wpAny_pure (hq w1 _ s1 n1 rfl)
theorem zcM {sc : Scope} (hk : env.scope.kind = .function) (hs : env.scope.names = cx.sc) : (relabel sc env).names = zce cx.sc sc := by
 unfold relabel zce
 dsimp only
 apply List.map_congr_left
 intro p _
 rw [hk,<- hs]
 unfold Env.kindOf
 obtain ⟨n,k⟩ := p
 dsimp only
 rw [show (ScopeKind.function == ScopeKind.function) = true from rfl,Bool.and_true]
 split <;> rfl
theorem zbF {sc : Scope} {xs : List Str} (O : ScOk cx sc xs) {x : Str} : ((zce cx.sc sc).lookup x = some .local -> sc.names.lookup x = some .local) /\ ((zce cx.sc sc).lookup x = some .cell -> sc.names.lookup x = some .free /\ cx.sc.lookup x = some .cell) := by
 rw [compSc_look]
 refine ⟨ms_r fun k hk e => ?_,ms_r fun k hk e => ?_⟩
 ·split at e
  ·cases e
  ·rw [hk,e]
 ·split at e
  ·rename_i hc
   rw [Bool.and_eq_true,beq_iff_eq,beq_iff_eq] at hc
   rw [hk,hc.1]; exact ⟨rfl,hc.2⟩
  ·exact absurd e (O.nocell _ (zam hk))
theorem Pl.inner (p : Pl Y cx env k mE fr w H s) {sc : Scope} {xs : List Str} (O : ScOk cx sc xs) (hn : CcOk cx) {cl : List (Str × Addr)} (hcl : ∀ x c,(x,NameKind.free) ∈ sc.names -> env.cells.lookup x = some c -> cl.lookup x = some c) {N : Addr} {oN : Obj} {k' : Kp} (hk : k'.ce = k.ce) {mN : Str -> Option Value} (hm : (N,oN) ∈ k'.ex) (hns : NsO oN mN)
  {w' : Wd} (le : w.le w') {H' : MH} {s' : Shared} (S' : St Y k' w' H' s') {mvs : List Val} {vs : List Value} (r : zaa C w' mvs vs) (hl : mvs.length = xs.length) (hv : ∀ (j : Nat) x,xs[j]? = some x -> mN x = vs[j]?) : Pl Y (inComp cx sc xs) (compEnvC sc cl N env) k' mN (puts (List.range' cx.next xs.length) mvs fr) w' H' s' := by
 refine ⟨⟨O.kind,p.b.gl,p.b.bl,zcM p.b.kind p.b.sc,fun x hx => ?_,.inr ⟨oN,hm,hns⟩⟩,fun x i v hx hvv => ?_,S'⟩
 ·obtain ⟨h1,h2⟩ := (zbF O).2 hx
  obtain ⟨c,o,v₀,k1,k2,k3⟩ := p.b.cells x h2
  exact ⟨c,o,v₀,hcl x c (zam h1) k1,hk ▸ k2,k3⟩
 ·obtain ⟨hkd,hi⟩ := zcG hx
  rw [<- hl] at hvv
  rcases hkd with hkd | hkd
  ·have hloc := (zbF O).1 hkd
   rcases zbj hi with ⟨j,rfl,hj⟩ | ⟨hne,hi'⟩
   ·have hjl := (List.getElem?_eq_some_iff.mp hj).1
    rcases zcr _ _ _ _ _ hvv with ⟨j',e,hj'⟩ | ⟨hlt,_⟩
    ·cases Nat.add_left_cancel e
     obtain ⟨rv,h1,h2⟩ := r.get hj'
     exact .loc rv hkd ((hv _ _ hj).trans h1) h2
    ·omega
   ·rcases (O.loc _ (zam hloc) rfl).2 with h | h
    ·exact absurd h hne
    ·rw [h] at hi'; cases hi'
  ·obtain ⟨h1,h2⟩ := (zbF O).2 hkd
   rcases zbj hi with ⟨j,rfl,hj⟩ | ⟨_,hi'⟩
   ·have := O.xs x (List.mem_of_getElem? hj)
    rw [h1] at this; cases this
   ·have hlt := hn x i hi'
    rcases zcr _ _ _ _ _ hvv with ⟨j',e,hj'⟩ | ⟨_,hv'⟩
    ·omega
    ·have hvar : zaU cx x = some i := by unfold zaU; rw [h2]; exact hi'
     cases (p.f x i v hvar hv').mono le with
     | loc _ h3 _ _ => rw [h2] at h3; cases h3
     | cell rv c o _ e1 e2 e3 e4 => exact .cell rv c o hkd (hcl x c (zam h1) e1) (hk ▸ e2) e3 e4
noncomputable abbrev isBind (env : Env) (x : Str) (f : Value -> Sem Unit) : Prop := ∀ (M : Model) (A : Around) (v : Value) (Q : Unit -> Shared -> Prop) (E : Value -> Shared -> Prop) (s : Shared),wpAny M A (storeName env x v) Q E s -> wpAny M A (f v) Q E s
theorem zcg {es : List Expr} {xs : List Str} (h : All2 (fun e x => zbh e = some x) es xs) : All2 (isBind env) xs ((assignEach es env).map (·.2)) /\ (assignEach es env).length = xs.length /\ (assignEach es env).findIdx? (·.1) = none := by
 induction h with
 | nil => exact ⟨.nil,rfl,rfl⟩
 | @cons e x es xs h _ ih =>
  obtain ⟨b1,b2,b3⟩ := ih
  obtain ⟨p,hp,rfl⟩ := ms h
  cases za9 hp
  refine ⟨.cons (fun _ _ _ _ _ _ z => PySem.wpAny_assign_Name z) b1,congrArg (· + 1) b2,?_⟩
  show List.findIdx? _ ((false,assign (.Name p.1 p.2) env) :: assignEach es env) = none
  rw [List.findIdx?_cons]
  simp only [Bool.false_eq_true,if_false,b3,Option.map_none]
theorem tgt_s {t : Expr} {q : List Str × Bool} (h : tgtOf t = some q) : (∃ x p,t = .Name x p /\ q = ([x],false)) \/ ∃ es n p,t = .Tuple es n p /\ q.2 = true /\ All2 (fun e x => zbh e = some x) es q.1 := by
 revert h
 refine zaz (ms_r fun p hp e => ?_) (bs_r fun p hp => ms_r fun xs hx e => ?_)
 ·exact .inl ⟨p.1,p.2,za9 hp,e.symm⟩
 ·subst e
  exact .inr ⟨p.1,p.2.1,p.2.2,zc4 hp,rfl,zbt hx⟩
inductive BindO (fr fr1 : Frame) (tg : List Nat) (many : Bool) (v : Val) : Prop
 | mk (mvs : List Val) (l : mvs.length = tg.length) (e : fr1 = puts tg mvs fr) (t : many = true -> v = .tup mvs) (f : many = false -> mvs = [v]) : BindO fr fr1 tg many v
theorem bindT_s {tg : List Nat} {many : Bool} {v : Val} {fr1 : Frame} (h : zby fr tg many v = some fr1) : BindO fr fr1 tg many v := by
 cases many with
 | true =>
  obtain ⟨vs,h1,h⟩ := bs (o:=v.tup?) h
  obtain ⟨hl,e⟩ := gs h
  exact ⟨vs,beq_iff_eq.mp hl,(Option.some.inj e).symm,fun _ => tup?_s h1,fun q => Bool.noConfusion q⟩
 | false =>
  obtain ⟨hl,e⟩ := gs (b:=tg.length == 1) h
  exact ⟨[v],(beq_iff_eq.mp hl).symm,(Option.some.inj e).symm,fun q => Bool.noConfusion q,fun _ => rfl⟩
theorem zb4 (hk : env.scope.kind = .function) {x : Str} (hx : env.kindOf x = some .local) {oN : Obj} {mN : Str -> Option Value} (S : St Y (k.ext (env.locals,oN)) w H s) (hns : NsO oN mN) {rv : Value} {Q : Unit -> Shared -> Prop} {E : Value -> Shared -> Prop}
  (h : ∀ oN' mN' h' tk,Sta C Y.h₀ Y.L (k.ext (env.locals,oN')) w H h' -> NsO oN' mN' -> mN' x = some rv -> (∀ y,y ≠ x -> mN' y = mN y) -> Q () { s with heap := h',toks := tk }) : wpAny C.M Y.A (storeName env x rv) Q E s := by
 obtain ⟨es,ep,n⟩ := hns
 refine wpAny_storeName_local (m:=mN) hx ⟨oN,es,ep,S.exHead.1,n⟩ (fun h' hn hs => ?_) (by rw [hk]; rfl)
 obtain ⟨o',es',ep',g1,g⟩ := hn
 exact h o' _ h' _ (S.setEx hs g1) ⟨es',ep',g⟩ (if_pos rfl) (fun y hy => if_neg hy)
theorem storesC (hk : env.scope.kind = .function) {xs : List Str} {fs : List (Value -> Sem Unit)} (hb : All2 (isBind env) xs fs) : (∀ x ∈ xs,env.kindOf x = some .local) -> xs.Nodup -> ∀ {vs : List Value} {oN : Obj} {mN : Str -> Option Value} {s : Shared} {Q : Unit -> Shared -> Prop} {E : Value -> Shared -> Prop},
  vs.length = xs.length -> St Y (k.ext (env.locals,oN)) w H s -> NsO oN mN ->
  (∀ oN' mN' h' tk,Sta C Y.h₀ Y.L (k.ext (env.locals,oN')) w H h' -> NsO oN' mN' -> (∀ (j : Nat) x,xs[j]? = some x -> mN' x = vs[j]?) -> (∀ y,y ∉ xs -> mN' y = mN y) -> Q () { s with heap := h',toks := tk }) -> wpAny C.M Y.A (assignInOrder fs vs) Q E s := by
 induction hb with
 | nil =>
  intro _ _ vs oN mN s Q E hl S hns h
  cases List.length_eq_zero_iff.mp hl
  exact wpAny_pure (h oN mN s.heap s.toks S hns (fun j x hj => nos hj) (fun _ _ => rfl))
 | @cons x f xs fs hf _ ih =>
  intro hx hd vs oN mN s Q E hl S hns h
  cases vs with
  | nil => cases hl
  | cons v vs =>
   have hd := List.nodup_cons.mp hd
   show wpAny C.M Y.A (do holding _ _; assignInOrder _ _) Q E s
   refine wpAny_bind (wpAny_holding (hf _ _ _ _ _ _ (zb4 hk (hx x (.head _)) S hns fun oN1 mN1 h1 tk S1 hns1 e1 e2 => ?_)))
   refine ih (fun y hy => hx y (.tail _ hy)) hd.2 (s:={ s with heap := h1,toks := tk }) (Nat.succ.inj hl) S1 hns1 fun oN2 mN2 h2 tk2 S2 hns2 k1 k2 => ?_
   refine h oN2 mN2 h2 tk2 S2 hns2 (fun j y hj => ?_) (fun y hy => (k2 y fun q => hy (.tail _ q)).trans (e2 y fun q => hy (q ▸ .head _)))
   cases j with
   | zero => cases hj; rw [k2 _ hd.1,e1]; rfl
   | succ j => exact k1 j y hj
theorem assignC (hk : env.scope.kind = .function) {t : Expr} {q : List Str × Bool} (ht : tgtOf t = some q) (hx : ∀ x ∈ q.1,env.kindOf x = some .local) (hd : q.1.Nodup) {v : Val} {mvs : List Val} {rv : Value} (h1 : q.2 = true -> v = .tup mvs) (h2 : q.2 = false -> mvs = [v]) (hl : mvs.length = q.1.length) (hv : VRel C w v rv)
  {oN : Obj} {mN : Str -> Option Value} (S : St Y (k.ext (env.locals,oN)) w H s) (hns : NsO oN mN) {Q : Unit -> Shared -> Prop} {E : Value -> Shared -> Prop}
  (h : ∀ vs oN' mN' h' tk,zaa C w mvs vs -> Sta C Y.h₀ Y.L (k.ext (env.locals,oN')) w H h' -> NsO oN' mN' -> (∀ (j : Nat) x,q.1[j]? = some x -> mN' x = vs[j]?) -> Q () { s with heap := h',toks := tk }) : wpAny C.M Y.A (assign t env rv) Q E s := by
 rcases tgt_s ht with ⟨x,p,rfl,rfl⟩ | ⟨es,n,p,rfl,hq,hes⟩
 ·cases h2 rfl
  refine PySem.wpAny_assign_Name (zb4 hk (hx x (.head _)) S hns fun oN' mN' h' tk S' hns' e1 _ => h [rv] oN' mN' h' tk (.one hv) S' hns' fun j y hj => ?_)
  cases j with
  | zero => cases hj; exact e1
  | succ j => exact nos hj
 ·cases h1 hq
  obtain ⟨b1,b2,b3⟩ := zcg (env:=env) hes
  obtain ⟨tt,o,n',ws,rfl,ho,hc,hdd,rr,_⟩ := S.tup hv
  exact assign_Tuple_tuple (items:=ws.toArray) Y.handled ⟨o,ho,hc,n',hdd⟩ (by rw [b2,List.size_toArray,<- rr.length,hl]) b3 fun h' he => storesC hk b1 hx hd (s:={ s with heap := h' }) (by rw [<- rr.length,hl]) (S.grown he) hns fun oN' mN' h'' tk S2 hns2 k1 _ => h ws oN' mN' h'' tk rr S2 hns2 k1
end
end Mi
namespace Mi
open PySem PySem.W PySem.Calls PyProof.Rows
structure CpO (C : Cfg) (d : Nat) (cx : CC) (g : Comprehension) (sc : Scope) (elt : Expr) (q : List Str × Bool) (ie ii : Ex) (iifs : List Ex) : Prop where
 as : g.is_async = 0
 t : tgtOf g.target = some q
 o : ScOk cx sc q.1
 it : Sd C d cx g.iter ii
 elt : Sd C d (inComp cx sc q.1) elt ie
 ifs : Sds C d (inComp cx sc q.1) g.ifs iifs
section
variable {C : Cfg} {d e : Nat} {k : Kp} {w : Wd} {H : MH} {s : Shared} {cx : CC} {env : Env} {mE : Str -> Option Value} {fr : Frame} {gl : List (Str × Val)}
inductive CpSt (C : Cfg) {d e : Nat} (Y : Actv C d e) (k : Kp) (w0 : Wd) (s0 : Shared) (I N : Addr) (z : It) (F : Nat -> MH -> Option (Unit × MH)) (r : Unit × MH) (s : Shared) : Prop
 | mk (w : Wd) (H : MH) (j : Nat) (io oN : Obj) (mN : Str -> Option Value) (le : w0.le w) (st : St Y ((k.ext (N,oN)).ext (I,io)) w H s) (ns : NsO oN mN) (it : zbA C w io j z) (sm : Same s0 s) (lp : F j H = some r) : CpSt C Y k w0 s0 I N z F r s
theorem comp_wp {Y : Actv C d 2} {g : Comprehension} {sc : Scope} {elt : Expr} {q : List Str × Bool} {ie ii : Ex} {iifs : List Ex} {pos ps : Pos} (O : CpO C d cx g sc elt q ie ii iifs) (hn : CcOk cx) (p : Pl Y cx env k mE fr w H s) {r : Val × MH}
  (ev : eval (C.cx d) (.comp ie (List.range' cx.next q.1.length) q.2 ii iifs) fr H = some r) {use : Option (Value -> Sem Unit)} {Q : Value -> Shared -> Prop} {E : Value -> Shared -> Prop}
  (hpost : ∀ w' D N oN mN s',w.le w' -> St Y (k.ext (N,oN)) w' r.2 s' -> NsO oN mN -> VRel C w' r.1 (.ref D) -> Same s s' -> compPost C.M Y.A E use Q (.ref D) N (.ok .next) s') :
  wpAny C.M Y.A (comprehension (.ListComp elt [g] sc pos) sc env ps (newList []) false (PySem.eval g.iter env) use) Q E s := by
 obtain ⟨as,ht,Os,hit,helt,hifs⟩ := O
 obtain ⟨t,it,ifs,a⟩ := g
 have as : a = 0 := as
 subst as
 revert ev
 refine zad fun v H1 ev1 => bs_r fun z hz => zad fun _ H2 lp e => ?_
 cases e
 obtain ⟨cl,hclos,hcl⟩ := closure_eq (scope:=sc) (env:=env) fun x hx hf => by
  obtain ⟨c,_,_,hc,_⟩ := p.b.cells x.1 (Os.free x hx hf).2
  rw [hc]; rfl
 refine wpAny_comprehension_free rfl (hit.sy.fold env) hclos Os.kind (fun x hx hl => (Os.loc x hx hl).1) (hit.es Y env k mE fr w H s p _ ev1 _ _ fun w1 a1 s1 n1 r1 => snd_iter n1.st r1 (fun I io h2 S2 R2 => ?_) hz)
 obtain ⟨all,hnn,add,_,_⟩ := S2.ledger
 refine wpAny_newObj_type (wpAny_newFunctionEnv Os.nocell (by intro y hy; simp at hy) (fun h₁ hns₁ hsb₁ => ?_) Os.kind)
 have le2 : w1.le ⟨w1.σ ++ [h2.objs.size],w1.tp⟩ := ⟨List.prefix_append _ _,fun _ x => x⟩
 have S3 := add _ (.list []) [(h2.objs.size,listOf ([] : List Value).toArray 0)] _ ⟨[],0,rfl,.nil,Nat.zero_le _⟩ (S2.fr.push _) (hnn.push S2.fr _) (zbq _) (News.fresh hnn fun p hp => List.mem_singleton.mp hp ▸ Nat.le_refl _) (S2.four (Nat.le_refl _))
 have hD : (w1.σ ++ [h2.objs.size])[H1.length]? = some h2.objs.size := by rw [<- S2.len]; exact List.getElem?_concat_length
 obtain ⟨oN,esN,epN,n1',nn⟩ := hns₁
 have S4 := (S3.addEx { cls := .type "dict",data := .dict #[] } rfl).setEx hsb₁ n1'
 have hns : NsO oN (fun x => List.lookup x ([] : List (Str × Value)).reverse) := ⟨esN,epN,nn⟩
 generalize hNN : (h2.push _).objs.size = N at *
 generalize hDD : h2.objs.size = D at *
 clear hNN add hnn S3 hsb₁ n1' nn
 have loop : ∀ s4 : Shared,s4.heap = h₁ -> Same s s4 -> codeAny C.M Y.A (.compLoop (.ListComp elt [⟨t,it,ifs,0⟩] sc pos) 0 (.ref I) (.ref D) (compEnvC sc cl N env)) (compPost C.M Y.A E use Q (.ref D) N) s4 := by
  intro s4 hs4 sm4
  refine zbk (fun n s' => CpSt C Y k ⟨w1.σ ++ [D],w1.tp⟩ s I N z (compLoop (fun i h => zav h i z) (fun v h => (zby fr (List.range' cx.next q.1.length) q.2 v).bind fun fr' => bnd (evalT (C.cx d) iifs fr' h) fun b h' => some (bif b then some fr' else none,h')) (fun fr' h => eval (C.cx d) ie fr' h) H1.length n) ((),H2) s')
   ?_ (C.cx d).fuel ⟨_,_,0,io,oN,_,.refl _,by rw [St,hs4]; exact S4.exSwap,hns,R2.mono le2,sm4,lp⟩
  rintro n s' ⟨w5,H5,j,io',oN',mN',le5,S5,hns5,R5,sm5,lp5⟩
  cases n with
  | zero => exact nos lp5
  | succ n =>
   revert lp5
   refine bs_r fun ov hov lp5 => snd_next S5 R5 hov ⟨fun u rv io6 h' tk hu S6 R6 hr => ?_,fun h' hu S6 => ?_⟩
   ·subst hu
    refine zct (s:={ s' with heap := h',toks := tk }) S6.exHead.1 R6.cls ?_
    revert lp5
    refine zad fun ofr H7 htest lp5 => ?_
    obtain ⟨fr2,hbind,htest⟩ := bs htest
    obtain ⟨mvs,b1,b2,b3,b4⟩ := bindT_s hbind
    rw [List.length_range'] at b1
    refine assignC (s:={ s' with heap := h',toks := tk }) (env:=compEnvC sc cl N env) (k:=k.ext (I,io6)) Os.kind ht (fun x hx => lookup_relabel_local (Os.xs x hx)) Os.nd b3 b4 b1 hr (Sta.exSwap S6) hns5 fun vs oN7 mN7 h7 tk7 rr7 S7 hns7 hm7 => ?_
    have S7' : St Y ((k.ext (N,oN7)).ext (I,io6)) w5 H5 { s' with heap := h7,toks := tk7 } := Sta.exSwap S7
    have P7 := (p.next n1).inner (k' := (k.ext (N,oN7)).ext (I,io6)) Os hn hcl rfl (.tail _ (.head _)) hns7 (le2.trans le5) S7' rr7 b1 hm7
    rw [<- b2] at P7
    revert htest
    refine zad fun b H8 htt e8 => ?_
    cases e8
    refine snd_tests hifs Y _ _ _ _ _ _ _ P7 _ htt _ _ fun w8 ok s8 n8 r8 => ?_
    rw [show ok = b from r8]
    have sm8 : Same s s8 := (Same.trans sm5 ⟨n8.same.1,n8.same.2⟩)
    cases b with
    | false => exact ⟨n,Nat.lt_succ_self n,w8,_,j + 1,io6,oN7,mN7,le5.trans n8.le,n8.st,hns7,R6.mono n8.le,sm8,lp5⟩
    | true =>
     revert lp5
     refine zad fun x9 H9 ev9 => bs_r fun acc hacc => gs_r fun hlen lp9 => ?_
     refine helt.es Y _ _ _ _ _ _ _ (P7.next n8) _ ev9 _ _ fun w9 xv s9 n9 r9 => ?_
     have hD9 : w9.σ[H1.length]? = some D := ((le5.trans n8.le).trans n9.le).get hD
     refine zcq n9.st hD9 hacc r9 (Nat.ble_eq.mp hlen) _ rfl _ _ fun w10 _ s10 n10 _ => ?_
     exact ⟨n,Nat.lt_succ_self n,w10,_,j + 1,io6,oN7,mN7,((le5.trans n8.le).trans n9.le).trans n10.le,n10.st,hns7,R6.mono ((n8.le.trans n9.le).trans n10.le),(sm8.trans n9.same).trans n10.same,lp9⟩
   ·subst hu
    cases lp5
    exact hpost w5 D N oN' mN' { s' with heap := h' } ((n1.le.trans le2).trans le5) S6 hns5 ⟨D,rfl,le5.get hD⟩ ⟨sm5.1,sm5.2⟩
 exact codeAny_compStart_list (loop _ rfl ⟨n1.same.1,n1.same.2⟩) (snd_iterSelf (s:={ s1 with heap := h₁,toks := _ }) (Sta.exHead (Sta.exSwap S4)).1 R2 (loop _ rfl ⟨n1.same.1,n1.same.2⟩))
theorem zat {e : Expr} (h1 : ∀ rest env,starEach (e :: rest) env = (false,PySem.eval e env) :: starEach rest env) (h2 : ∀ o i,subscripted e false o i = operate [o,i] (getItem o i)) (h3 : ∀ op,behindInMarks op e = false) (h4 : ∀ env x,foldedSetIterable e env x = pure x) (h5 : ∀ t n env,swapsWith e t n env = pure false) : Sy e := ⟨h1,h2,h3,h4,fun _ => h5⟩
theorem Sd.of {e : Expr} {ir : Ex} (h : ESnd C d cx e ir) (he : ∀ (env : Env) (whole : Sem Value),PySem.isTrue e env whole = (do let v <- whole; standAt e.pos; holding [v] (PySem.truthy v))) (sy : Sy e) : Sd C d cx e ir := ⟨h,tsnd_plain h he,sy⟩
theorem all_snd (O : zaP C gl) (hC : zaQ C d) : ∀ (n : Nat) (cx : CC),GlOk C cx.gl -> CcOk cx -> ∀ (e : Expr) (ir : Ex),compE n cx e = some ir -> Sd C d cx e ir := by
 intro n
 induction n with
 | zero => exact fun cx _ _ e ir h => nos h
 | succ n ih' =>
  intro cx hg hcc e ir
  have ih := ih' cx hg hcc
  have ihs : ∀ {es irs},mapO (compE n cx) es = some irs -> Sds C d cx es irs := fun h => (zbt h).mono ih
  cases e with
  | Constant c m pos => exact ms_r fun v hv e => e ▸ .of (snd_const hv) (fun _ _ => rfl) (zat (fun _ _ => rfl) (fun _ _ => rfl) (fun _ => rfl) (fun _ _ => rfl) (fun _ _ _ => rfl))
  | Name x pos => exact fun h => .of (snd_name hg h) (fun _ _ => rfl) (zat (fun _ _ => rfl) (fun _ _ => rfl) (fun _ => rfl) (fun _ _ => rfl) (fun _ _ _ => rfl))
  | BoolOp op vs pos =>
   exact ms_r fun irs hi e => e ▸ ⟨fun Y env k mE fr w H s p => snd_bop (pos:=pos) (ihs hi) Y env k mE fr w H s p,fun Y env k mE fr w H s p r e Q E hq => wpAny_isTrue_BoolOp (tsnd_bop (ihs hi) Y env k mE fr w H s p r e Q E hq),zat (fun _ _ => rfl) (fun _ _ => rfl) (fun _ => rfl) (fun _ _ => rfl) (fun _ _ _ => rfl)⟩
  | BinOp l op r pos =>
   exact bs_r fun o ho => bs_r fun a ha => ms_r fun b hb e => e ▸ .of (snd_bin ho (ih _ _ ha).es (ih _ _ hb).es) (fun _ _ => rfl) (zat (fun _ _ => rfl) (fun _ _ => rfl) (fun _ => rfl) (fun _ _ => rfl) (fun _ _ _ => rfl))
  | UnaryOp op x pos =>
   refine gs_r fun ho => ms_r fun a ha e => e ▸ ?_
   cases op with
   | Not => exact ⟨snd_not (ih _ _ ha).es,tsnd_not (ih _ _ ha).ts,zat (fun _ _ => rfl) (fun _ _ => rfl) (fun _ => rfl) (fun _ _ => rfl) (fun _ _ _ => rfl)⟩
   | _ => cases ho
  | IfExp t x y pos =>
   exact bs_r fun a ha => bs_r fun b hb => ms_r fun c hc e => e ▸ ⟨snd_ite (ih _ _ ha).ts (ih _ _ hb).es (ih _ _ hc).es,tsnd_ite (ih _ _ ha).ts (ih _ _ hb).ts (ih _ _ hc).ts,zat (fun _ _ => rfl) (fun _ _ => rfl) (fun _ => rfl) (fun _ _ => rfl) (fun _ _ _ => rfl)⟩
  | List es pos => exact gs_r fun hl => ms_r fun irs hi e => e ▸ .of (snd_list (ihs hi) hl) (fun _ _ => rfl) (zat (fun _ _ => rfl) (fun _ _ => rfl) (fun _ => rfl) (fun _ _ => rfl) (fun _ _ _ => rfl))
  | Tuple es m pos => exact gs_r fun hl => ms_r fun irs hi e => e ▸ .of (snd_tuple (ihs hi) hl) (fun _ _ => rfl) (zat (fun _ _ => rfl) (fun _ _ => rfl) (fun _ => rfl) (fun _ _ => rfl) (fun _ _ _ => rfl))
  | Compare l ops cs pos =>
   intro h
   obtain ⟨o,rfl,h⟩ := one1_s h
   obtain ⟨r,rfl,h⟩ := one1_s h
   revert h
   exact bs_r fun a ha => ms_r fun b hb e => e ▸ ⟨snd_compare O.cfg (ih _ _ ha).es (ih _ _ hb),tsnd_compare O.cfg (ih _ _ ha).es (ih _ _ hb),zat (fun _ _ => rfl) (fun _ _ => rfl) (fun _ => rfl) (fun _ _ => rfl) (fun _ _ _ => rfl)⟩
  | Call f as ks pos =>
   refine gs_r fun hk => bs_r fun irs hi h => ?_
   have hk := Bool.and_eq_true_iff.mp hk
   cases ks with
   | cons _ _ => cases hk.1
   | nil =>
    refine .of ?_ (fun _ _ => rfl) (zat (fun _ _ => rfl) (fun _ _ => rfl) (fun _ => rfl) (fun _ _ => rfl) (fun _ _ _ => rfl))
    revert h
    refine zaz (bs_r fun p hp => ms_r fun g hgn e => ?_) (bs_r fun p hp => gs_r fun hc => ms_r fun g hgn e => ?_)
    ·rw [<- e,za9 hp]
     exact snd_callName O hC (ihs hi) (snd_name hg hgn)
    ·have hc := Bool.and_eq_true_iff.mp hc
     have hc' := Bool.and_eq_true_iff.mp hc.1
     rw [<- e,zc5 hp]
     exact snd_callMeth O hC (ihs hi) (Nat.ble_eq.mp hk.2) (ih _ _ hgn).es hc'.1 hc'.2 hc.2
  | Attribute v nm pos =>
   exact gs_r fun hc => ms_r fun a ha e => e ▸ .of (snd_attr O (ih _ _ ha).es (Bool.and_eq_true_iff.mp hc).1 (Bool.and_eq_true_iff.mp hc).2) (fun _ _ => rfl) (zat (fun _ _ => rfl) (fun _ _ => rfl) (fun _ => rfl) (fun _ _ => rfl) (fun _ _ _ => rfl))
  | Subscript v sl pos =>
   intro h
   refine .of ?_ (fun _ _ => rfl) (zat (fun _ _ => rfl) (fun _ _ => rfl) (fun _ => rfl) (fun _ _ => rfl) (fun _ _ _ => rfl))
   have h : Option.casesOn (motive:=fun _ => Option Ex) (zci sl) ((compE n cx v).bind fun e => (compE n cx sl).map fun i => .sub e i) (fun p => grd ((za1 v).isSome && p.2.2.1.isNone) ((compE n cx v).bind fun e => (boundsE (compE n cx) p.1 p.2.1).map fun q => .slice e q.1 q.2)) = some ir := h
   cases hs : zci sl with
   | none =>
    rw [hs] at h
    revert h
    exact bs_r fun a ha => ms_r fun b hb e => e ▸ snd_sub (ih _ _ ha).es (ih _ _ hb)
   | some p =>
    rw [hs] at h
    revert h
    refine gs_r fun hc => bs_r fun a ha => ms_r fun q hq e => ?_
    have hc := Bool.and_eq_true_iff.mp hc
    rw [<- e,asSlice_s hs,Option.isNone_iff_eq_none.mp hc.2]
    exact snd_slice hc.1 (ih _ _ ha).es ih hq
  | Dict ks vs pos =>
   refine gs_r fun hl => bs_r fun ia ha => ms_r fun ib hb e => e ▸ ?_
   exact .of (snd_dict ((zbt ha).mono fun o i h => (bs h).elim fun e h => ⟨e,h.1,ih _ _ h.2⟩) (ihs hb) (beq_iff_eq.mp hl)) (fun _ _ => rfl) (zat (fun _ _ => rfl) (fun _ _ => rfl) (fun _ => rfl) (fun _ _ => rfl) (fun _ _ _ => rfl))
  | ListComp elt gens sc pos =>
   intro h
   obtain ⟨g,rfl,h⟩ := one1_s h
   revert h
   refine bs_r fun q hq => gs_r fun hc => bs_r fun ii hi => bs_r fun iifs hf => ms_r fun ie he e => e ▸ ?_
   have hc := Bool.and_eq_true_iff.mp hc
   have hin := ih' (inComp cx sc q.1) hg (hcc.inComp sc q.1)
   have P : CpO C d cx g sc elt q ie ii iifs := ⟨beq_iff_eq.mp hc.1,hq,scOk_of hc.2,ih _ _ hi,hin _ _ he,(zbt hf).mono hin⟩
   refine .of (fun Y env k mE fr w H s p r ev Q E hQ => ?_) (fun _ _ => rfl) ⟨fun _ _ => rfl,fun _ _ => rfl,fun _ => rfl,fun _ _ => rfl,fun q => nomatch q⟩
   obtain ⟨t,it,ifs,a⟩ := g
   have ha : a = 0 := beq_iff_eq.mp hc.1
   subst ha
   rw [eval_ListComp]
   refine comp_wp P hcc p ev fun w' D N oN mN s' le S' hns r' sm => ?_
   obtain ⟨es,ep,nn⟩ := hns
   exact ⟨mN,⟨oN,es,ep,S'.exHead.1,nn⟩,fun h' hs => hQ w' _ { s' with heap := h' } ⟨le,S'.endEx hs.extBut,sm.1,sm.2⟩ r'⟩
  | _ => exact fun h => nos h
end
end Mi
namespace Mi
open PySem PySem.W PySem.Calls PyProof.Rows
inductive FlR (C : Cfg) (w : Wd) : Fl -> Flow -> Prop
 | nx : FlR C w .nx .next
 | bk : FlR C w .bk .brk
 | ct : FlR C w .ct .cont
 | rt {v : Val} {rv : Value} : VRel C w v rv -> FlR C w (.rt v) (.ret rv)
structure BlkS (cx : CC) (env : Env) (L : Addr) : Prop where
 kind : env.scope.kind = .function
 gl : env.globals = mainGlobals
 bl : env.builtins = builtinsNs
 sc : env.scope.names = cx.sc
 cells : ∀ x,cx.sc.lookup x = some .cell -> ∃ c,env.cells.lookup x = some c
 cinj : ∀ x y c,cx.sc.lookup x = some .cell -> cx.sc.lookup y = some .cell -> env.cells.lookup x = some c -> env.cells.lookup y = some c -> x = y
 loc : env.locals = L
 inj : ∀ x y i,zaU cx x = some i -> zaU cx y = some i -> x = y
noncomputable def CeOk (cx : CC) (env : Env) (ce : Led) : Prop := ∀ x c,cx.sc.lookup x = some .cell -> env.cells.lookup x = some c -> ∃ o v₀,(c,o) ∈ ce /\ o.data = .cell v₀
structure PlS {C : Cfg} {d e : Nat} (Y : Actv C d e) (cx : CC) (env : Env) (k : Kp) (fr : Frame) (w : Wd) (H : MH) (s : Shared) : Prop where
 b : BlkS cx env Y.L
 c : CeOk cx env k.ce
 f : FrOk C w cx env k.ce k.m fr
 st : St Y k w H s
theorem PlS.pl {C : Cfg} {d e : Nat} {Y : Actv C d e} {cx : CC} {env : Env} {k : Kp} {fr : Frame} {w : Wd} {H : MH} {s : Shared} (p : PlS Y cx env k fr w H s) : Pl Y cx env k k.m fr w H s :=
 ⟨⟨p.b.kind,p.b.gl,p.b.bl,p.b.sc,fun x h => (p.b.cells x h).elim fun c hc => (p.c x c h hc).elim fun o h => h.elim fun v₀ h => ⟨c,o,v₀,hc,h.1,h.2⟩,.inl ⟨p.b.loc,rfl⟩⟩,p.f,p.st⟩
theorem PlS.next {C : Cfg} {d e : Nat} {Y : Actv C d e} {cx : CC} {env : Env} {k : Kp} {fr : Frame} {w w' : Wd} {H H' : MH} {s s' : Shared} (p : PlS Y cx env k fr w H s) (n : Nxt Y k w w' H' s s') : PlS Y cx env k fr w' H' s' := ⟨p.b,p.c,fun x i v a b => (p.f x i v a b).mono n.le,n.st⟩
structure NxS {C : Cfg} {d e : Nat} (Y : Actv C d e) (cx : CC) (env : Env) (ex : Led) (w : Wd) (s : Shared) (k' : Kp) (fr' : Frame) (w' : Wd) (H' : MH) (s' : Shared) : Prop where
 ex : k'.ex = ex
 le : w.le w'
 pl : PlS Y cx env k' fr' w' H' s'
 same : Same s s'
theorem NxS.trans {C : Cfg} {d e : Nat} {Y : Actv C d e} {cx : CC} {env : Env} {ex : Led} {w w1 w2 : Wd} {s s1 s2 : Shared} {k1 k2 : Kp} {fr1 fr2 : Frame} {H1 H2 : MH} (a : NxS Y cx env ex w s k1 fr1 w1 H1 s1) (b : NxS Y cx env k1.ex w1 s1 k2 fr2 w2 H2 s2) : NxS Y cx env ex w s k2 fr2 w2 H2 s2 := ⟨b.ex.trans a.ex,a.le.trans b.le,b.pl,a.same.trans b.same⟩
theorem PlS.nx {C : Cfg} {d e : Nat} {Y : Actv C d e} {cx : CC} {env : Env} {k : Kp} {fr : Frame} {w w' : Wd} {H H' : MH} {s s' : Shared} (p : PlS Y cx env k fr w H s) (n : Nxt Y k w w' H' s s') : NxS Y cx env k.ex w s k fr w' H' s' := ⟨rfl,n.le,p.next n,n.same⟩
theorem PlS.rf {C : Cfg} {d e : Nat} {Y : Actv C d e} {cx : CC} {env : Env} {k : Kp} {fr : Frame} {w : Wd} {H : MH} {s : Shared} (p : PlS Y cx env k fr w H s) : NxS Y cx env k.ex w s k fr w H s := ⟨rfl,.refl w,p,.refl s⟩
noncomputable def SBr {C : Cfg} {d e : Nat} (Y : Actv C d e) (cx : CC) (env : Env) (ex : Led) (t : Sem Flow) (w : Wd) (s : Shared) (r : (Fl × Frame) × MH) : Prop :=
 ∀ (Q : Flow -> Shared -> Prop) (E : Value -> Shared -> Prop),(∀ k' w' f s',NxS Y cx env ex w s k' r.1.2 w' r.2 s' -> FlR C w' r.1.1 f -> Q f s') -> wpAny C.M Y.A t Q E s
noncomputable def SSnd (C : Cfg) (d : Nat) (cx : CC) (st : Stmt) (ir : Sm) : Prop :=
 ∀ (Y : Actv C d 2) (env : Env) (k : Kp) (fr : Frame) (w : Wd) (H : MH) (s : Shared),PlS Y cx env k fr w H s -> ∀ r,exec (C.cx d) ir fr H = some r -> SBr Y cx env k.ex (PySem.exec st env) w s r
noncomputable def zc7 (C : Cfg) (d : Nat) (cx : CC) (st : List Stmt) (ir : List Sm) : Prop :=
 ∀ (Y : Actv C d 2) (env : Env) (k : Kp) (fr : Frame) (w : Wd) (H : MH) (s : Shared),PlS Y cx env k fr w H s -> ∀ r,execs (C.cx d) ir fr H = some r -> SBr Y cx env k.ex (PySem.execs st env) w s r
section
variable {C : Cfg} {d e : Nat} {Y : Actv C d e} {k : Kp} {w : Wd} {H : MH} {s : Shared} {cx : CC} {env : Env} {fr : Frame} {gl : List (Str × Val)}
noncomputable def ceSet (ce : Led) (c : Addr) (o : Obj) : Led := ce.map fun p => if p.1 = c then (c,o) else p
theorem ceSet_fst (ce : Led) (c : Addr) (o : Obj) : (ceSet ce c o).map (·.1) = ce.map (·.1) := by
 unfold ceSet
 rw [List.map_map]
 apply List.map_congr_left
 intro p _
 show (if p.1 = c then (c,o) else p).1 = p.1
 split
 ·rename_i h; exact h.symm
 ·rfl
theorem Sta.setCe {h₀ : Heap} {L : Addr} {h h' : Heap} {c : Addr} {o o' : Obj} (S : Sta C h₀ L k w H h) (hc : (c,o) ∈ k.ce) (hs : Heap.SameBut c h h') (ho : h'.get? c = some o') : Sta C h₀ L { k with ce := ceSet k.ce c o' } w H h' := by
 obtain ⟨os,he,hn,hd⟩ := S.os
 have g := hn (c,o) (List.mem_append_right _ (List.mem_append_right _ (List.mem_append_left _ hc)))
 have hp : ∀ ce : Led,({ k with ce := ce } : Kp).all w os |>.Perm (ce ++ (os.flatten ++ (w.tp ++ k.ex))) := fun ce =>
  (List.Perm.append_left os.flatten (List.perm_append_comm_assoc w.tp ce k.ex)).trans (List.perm_append_comm_assoc os.flatten ce (w.tp ++ k.ex))
 have hd1 := Led.nd.perm (hp k.ce) hd
 unfold Led.nd at hd1
 have hd2 := hd1
 rw [List.map_append,List.nodup_append] at hd2
 refine ⟨Fr.sameBut S.fr hs g.2,⟨os,he,fun p hpm => ?_,Led.nd.perm (hp _).symm ?_⟩,S.big,S.lo⟩
 ·rcases List.mem_append.mp ((hp _).mem_iff.mp hpm) with hpm | hpm
  ·obtain ⟨q,hq,e⟩ := List.mem_map.mp hpm
   by_cases hqc : q.1 = c
   ·rw [if_pos hqc] at e
    rw [<- e]; exact ⟨ho,g.2⟩
   ·rw [if_neg hqc] at e
    rw [<- e]
    have := hn q (List.mem_append_right _ (List.mem_append_right _ (List.mem_append_left _ hq)))
    exact ⟨(hs.2 q.1 hqc).trans this.1,this.2⟩
  ·have := hn p ((hp k.ce).mem_iff.mpr (List.mem_append_right _ hpm))
   exact ⟨(hs.2 p.1 fun e => hd2.2.2 c (List.mem_map.mpr ⟨_,hc,rfl⟩) p.1 (List.mem_map.mpr ⟨_,hpm,rfl⟩) e.symm).trans this.1,this.2⟩
 ·unfold Led.nd
  rw [List.map_append,ceSet_fst,<- List.map_append]; exact hd1
theorem za4 (p : PlS Y cx env k fr w H s) {x : Str} {i : Nat} {v : Val} {rv : Value} (hi : zaU cx x = some i) (r : VRel C w v rv) {Q : Unit -> Shared -> Prop} {E : Value -> Shared -> Prop}
  (h : ∀ k' s',NxS Y cx env k.ex w s k' (fr.set i (some v)) w H s' -> Q () s') : wpAny C.M Y.A (storeName env x rv) Q E s := by
 have other : ∀ {y j},zaU cx y = some j -> i ≠ j -> y ≠ x := fun hj hij e => hij (by rw [e,hi] at hj; exact Option.some.inj hj)
 rcases (zcG hi).1 with hk | hk
 ·refine wpAny_storeName_local (p.pl.b.kindOf hk) (by rw [p.b.loc]; exact p.st.fr.ns) (fun h' hn hs => ?_) (by rw [p.b.kind]; rfl)
  rw [p.b.loc] at hn hs
  obtain ⟨os,he,hnn,hd⟩ := p.st.os
  refine h { k with m := fun y => if y = x then some rv else k.m y } _ ⟨rfl,.refl w,⟨p.b,p.c,fun y j u hj hu => ?_,⟨p.st.fr.set hn hs,⟨os,he,hnn.set hs,hd⟩,p.st.big,p.st.lo⟩⟩,rfl,rfl⟩
  rcases set_s hu with ⟨rfl,rfl⟩ | ⟨hij,hu'⟩
  ·cases p.b.inj y x _ hj hi
   exact .loc rv hk (if_pos rfl) r
  ·cases p.f y j u hj hu' with
   | loc rv' h1 h2 h3 => exact .loc rv' h1 ((if_neg (other hj hij)).trans h2) h3
   | cell rv' c o h1 h2 h3 h4 h5 => exact .cell rv' c o h1 h2 h3 h4 h5
 ·obtain ⟨c,hc⟩ := p.b.cells x hk
  obtain ⟨o,v₀,ho1,ho2⟩ := p.c x c hk hc
  refine wpAny_storeName_cell p.b.kind (p.pl.b.kindOf hk) hc ⟨o,p.st.ceAt ho1,ho2⟩ fun h' hv hs => ?_
  obtain ⟨o',g1,g2⟩ := hv
  have hmem : ∀ {y cy oy},cx.sc.lookup y = some .cell -> env.cells.lookup y = some cy -> (cy,oy) ∈ k.ce -> y ≠ x -> (cy,oy) ∈ ceSet k.ce c o' := fun {y cy oy} hy hcy hm hyx =>
   List.mem_map.mpr ⟨(cy,oy),hm,if_neg fun e => hyx (p.b.cinj y x c hy hk (by rw [hcy]; exact congrArg some e) hc)⟩
  have hself : (c,o') ∈ ceSet k.ce c o' := List.mem_map.mpr ⟨(c,o),ho1,if_pos rfl⟩
  refine h { k with ce := ceSet k.ce c o' } _ ⟨rfl,.refl w,⟨p.b,fun y cy hy hcy => ?_,fun y j u hj hu => ?_,p.st.setCe ho1 hs g1⟩,rfl,rfl⟩
  ·by_cases hyx : y = x
   ·subst hyx
    rw [hc] at hcy; cases hcy
    exact ⟨o',some rv,hself,g2⟩
   ·obtain ⟨oy,vy,m1,m2⟩ := p.c y cy hy hcy
    exact ⟨oy,vy,hmem hy hcy m1 hyx,m2⟩
  ·rcases set_s hu with ⟨rfl,rfl⟩ | ⟨hij,hu'⟩
   ·cases p.b.inj y x _ hj hi
    exact .cell rv c o' hk hc hself g2 r
   ·cases p.f y j u hj hu' with
    | loc rv' h1 h2 h3 => exact .loc rv' h1 h2 h3
    | cell rv' cy oy h1 h2 h3 h4 h5 => exact .cell rv' cy oy h1 h2 (hmem h1 h2 h3 (other hj hij)) h4 h5
theorem ssnd_nil : zc7 C d cx [] [] := fun Y env k fr w H s p r e => by
 cases e
 exact fun Q E hq => wpAny_execs_nil (hq k w .next s p.rf .nx)
theorem ssnd_cons {st : Stmt} {r : List Stmt} {i : Sm} {is : List Sm} (h1 : SSnd C d cx st i) (h2 : zc7 C d cx r is) : zc7 C d cx (st :: r) (i :: is) := by
 intro Y env k fr w H s p r
 refine zad fun q H1 e1 e Q E hq => wpAny_execs_cons (h1 Y env k fr w H s p _ e1 _ _ fun k1 w1 f s1 n1 r1 => ?_)
 obtain ⟨fl,fr1⟩ := q
 cases r1 with
 | nx => exact h2 Y env k1 fr1 w1 H1 s1 n1.pl _ e _ _ fun k2 w2 f2 s2 n2 r2 => hq k2 w2 f2 s2 (n1.trans n2) r2
 | bk => cases e; exact hq k1 w1 .brk s1 n1 .bk
 | ct => cases e; exact hq k1 w1 .cont s1 n1 .ct
 | rt h => cases e; exact hq k1 w1 _ s1 n1 (.rt h)
theorem ssnd_asg (hcc : CcOk cx) {x : Str} {xp pos : Pos} {v : Expr} {i : Nat} {iv : Ex} (hi : zaU cx x = some i) (hv : Sd C d cx v iv) (hL : ∀ {elt gens sc cp},v = .ListComp elt gens sc cp -> ∃ g q ie ii iifs,gens = [g] /\ CpO C d cx g sc elt q ie ii iifs /\ iv = .comp ie (List.range' cx.next q.1.length) q.2 ii iifs) : SSnd C d cx (.Assign [.Name x xp] v pos) (.asg (.nm i) iv) := by
 intro Y env k fr w H s p r
 show bnd (eval (C.cx d) iv fr H) (fun v h1 => bnd (store (C.cx d) fr h1 v (.nm i)) fun fr' h2 => some ((.nx,fr'),h2)) = some r -> _
 refine zad fun u H1 e1 e => ?_
 cases e
 intro Q E hq
 have plain : swapsWith v (some (.Name x xp)) pos.line env = pure false -> wpAny C.M Y.A (PySem.exec (.Assign [.Name x xp] v pos) env) Q E s := fun hsw =>
  wpAny_Assign_Name (hv.es Y env k k.m fr w H s p.pl _ e1 _ _ fun w1 a1 s1 n1 r1 => za4 (p.next n1) hi r1 fun k' s' n2 => hq k' w1 .next s' ((p.nx n1).trans n2) .nx) hsw
 cases hc : zbQ v with
 | false => exact plain (hv.sy.swap hc _ _ _)
 | true =>
  clear hv
  cases v with
  | ListComp elt gens sc cpos =>
   obtain ⟨b,hb⟩ : ∃ b,swapsWith (.ListComp elt gens sc cpos) (some (.Name x xp)) pos.line env = pure b := ⟨_,rfl⟩
   cases b with
   | false => exact plain hb
   | true =>
    obtain ⟨g,q,ie,ii,iifs,rfl,P,rfl⟩ := hL rfl
    obtain ⟨t,it,ifs,a⟩ := g
    cases P.as
    rw [exec_Assign_Name_used _ _ _ _ hb]
    refine wpAny_bind (wpAny_standAt (wpAny_bind ?_))
    show wpAny _ Y.A (do let _ <- comprehension (.ListComp elt [⟨t,it,ifs,0⟩] sc cpos) sc env _ (newList []) false (PySem.eval it env) (some (assign (.Name x xp) env))) _ _ s
    refine wpAny_bind (wpAny_mono (comp_wp (use:=some (assign (.Name x xp) env)) (Q:=fun _ s' => Q .next s') P hcc p.pl e1 fun w1 D N oN mN s1 le S1 hns r1 sm1 => ?_) (fun _ s' hq => wpAny_pure (wpAny_pure hq)) fun _ _ e => e)
    show wpAny C.M Y.A (assign (.Name x xp) env (.ref D)) _ _ s1
    have p1 : PlS Y cx env (k.ext (N,oN)) fr w1 H1 s1 := ⟨p.b,p.c,fun x i v a b => (p.f x i v a b).mono le,S1⟩
    refine PySem.wpAny_assign_Name (za4 p1 hi r1 fun k' s' n2 => ?_)
    obtain ⟨es,ep,nn⟩ := hns
    obtain ⟨ce',ex',m'⟩ := k'
    cases n2.ex
    exact ⟨mN,⟨oN,es,ep,Sta.exHead (k:=⟨ce',k.ex,m'⟩) n2.pl.st |>.1,nn⟩,fun h'' hs => hq ⟨ce',k.ex,m'⟩ w1 .next { s' with heap := h'' } ⟨rfl,le,⟨n2.pl.b,n2.pl.c,n2.pl.f,Sta.endEx (k:=⟨ce',k.ex,m'⟩) n2.pl.st hs.extBut⟩,(sm1.trans n2.same).1,(sm1.trans n2.same).2⟩ .nx⟩
  | _ => cases hc
theorem ssnd_ret {v : Expr} {pos : Pos} {iv : Ex} (hv : ESnd C d cx v iv) : SSnd C d cx (.Return (some v) pos) (.ret iv) := by
 intro Y env k fr w H s p r
 show bnd (eval (C.cx d) iv fr H) (fun v h1 => some ((.rt v,fr),h1)) = some r -> _
 refine zad fun u H1 e1 e => ?_
 cases e
 exact fun Q E hq => wpAny_Return_some (hv Y env k k.m fr w H s p.pl _ e1 _ _ fun w1 a1 s1 n1 r1 => hq k w1 _ s1 (p.nx n1) (.rt r1))
theorem ssnd_ret0 {pos : Pos} : SSnd C d cx (.Return none pos) (.ret (.lit .none)) := by
 intro Y env k fr w H s p r e
 cases e
 exact fun Q E hq => wpAny_Return_none (hq k w _ s p.rf (.rt rfl))
theorem ssnd_if {t : Expr} {x y : List Stmt} {pos : Pos} {it : Ex} {ix iy : List Sm} (ht : TSnd C d cx t it) (hx : zc7 C d cx x ix) (hy : zc7 C d cx y iy) : SSnd C d cx (.If t x y pos) (.ite it ix iy) := by
 intro Y env k fr w H s p r
 show bnd (zas (eval (C.cx d) it fr H)) (fun r h1 => bif r then execs (C.cx d) ix fr h1 else execs (C.cx d) iy fr h1) = some r -> _
 refine zad fun b H1 e1 e Q E hq => wpAny_If (ht Y env k k.m fr w H s p.pl _ e1 _ _ fun w1 a1 s1 n1 r1 => ?_)
 rw [show a1 = b from r1]
 cases b with
 | true => exact hx Y env k fr w1 H1 s1 (p.next n1) _ e _ _ fun k2 w2 f2 s2 n2 r2 => hq k2 w2 f2 s2 ((p.nx n1).trans n2) r2
 | false => exact hy Y env k fr w1 H1 s1 (p.next n1) _ e _ _ fun k2 w2 f2 s2 n2 r2 => hq k2 w2 f2 s2 ((p.nx n1).trans n2) r2
inductive LpSt {C : Cfg} {d e : Nat} (Y : Actv C d e) (cx : CC) (env : Env) (ex : Led) (w0 : Wd) (s0 : Shared) (F : Frame -> MH -> SR) (r : (Fl × Frame) × MH) (s : Shared) : Prop
 | mk (k : Kp) (fr : Frame) (w : Wd) (H : MH) (n : NxS Y cx env ex w0 s0 k fr w H s) (lp : F fr H = some r) : LpSt Y cx env ex w0 s0 F r s
theorem ssnd_while {t : Expr} {b : List Stmt} {pos : Pos} {it : Ex} {ib : List Sm} (ht : TSnd C d cx t it) (hb : zc7 C d cx b ib) : SSnd C d cx (.While t b [] pos) (.wh it ib) := by
 intro Y env k fr w H s p r ev Q E hq
 refine wpAny_While (codeAny_whileLoop (fun n s' => LpSt Y cx env k.ex w s (loopW (fun fr h => zas (eval (C.cx d) it fr h)) (fun fr h => execs (C.cx d) ib fr h) n) r s') ?_ (C.cx d).fuel ⟨k,fr,w,H,p.rf,ev⟩)
 rintro n s' ⟨k1,fr1,w1,H1,n1,lp⟩
 cases n with
 | zero => exact nos lp
 | succ n =>
  revert lp
  refine zad fun c H2 e2 lp => ht Y env k1 k1.m fr1 w1 H1 s' n1.pl.pl _ e2 _ _ fun w2 a2 s2 n2 r2 => ?_
  rw [show a2 = c from r2]
  have n2' := n1.trans (n1.pl.nx n2)
  cases c with
  | false =>
   cases lp
   rw [if_neg Bool.false_ne_true]
   exact wpAny_execs_nil (hq k1 w2 .next s2 n2' .nx)
  | true =>
   rw [if_pos rfl]
   revert lp
   show bnd (execs (C.cx d) ib fr1 H2) (fun p h2 => Fl.casesOn (motive:=fun _ => SR) p.1 (loopW (fun fr h => zas (eval (C.cx d) it fr h)) (fun fr h => execs (C.cx d) ib fr h) n p.2 h2) (some ((.nx,p.2),h2)) (loopW (fun fr h => zas (eval (C.cx d) it fr h)) (fun fr h => execs (C.cx d) ib fr h) n p.2 h2) (fun v => some ((.rt v,p.2),h2))) = some r -> _
   refine zad fun q H3 e3 lp => hb Y env k1 fr1 w2 H2 s2 n2'.pl _ e3 _ _ fun k3 w3 f3 s3 n3 r3 => ?_
   have n3' := n2'.trans n3
   obtain ⟨fl,fr3⟩ := q
   cases r3 with
   | nx => exact ⟨n,Nat.lt_succ_self n,k3,fr3,w3,H3,n3',lp⟩
   | ct => exact ⟨n,Nat.lt_succ_self n,k3,fr3,w3,H3,n3',lp⟩
   | bk => cases lp; exact hq k3 w3 .next s3 n3' .nx
   | rt h => cases lp; exact hq k3 w3 _ s3 n3' (.rt h)
end
end Mi
namespace Mi
open PySem PySem.W PySem.Calls PyProof.Rows
theorem puts_comm {i : Nat} {v : Val} : ∀ (is : List Nat) (vs : List Val) (fr : Frame),i ∉ is -> (puts is vs fr).set i (some v) = puts is vs (fr.set i (some v)) := by
 intro is
 induction is with
 | nil => exact fun vs fr _ => rfl
 | cons j is ih =>
  intro vs fr h
  cases vs with
  | nil => rfl
  | cons u vs =>
   show (puts is vs (fr.set j (some u))).set i (some v) = puts is vs ((fr.set i (some v)).set j (some u))
   rw [ih vs _ fun q => h (.tail _ q),List.set_comm _ _ fun q : j = i => h (q ▸ .head _)]
theorem puts_app : ∀ (is : List Nat) (vs : List Val) (i : Nat) (v : Val) (fr : Frame),is.length = vs.length -> puts (is ++ [i]) (vs ++ [v]) fr = (puts is vs fr).set i (some v) := by
 intro is
 induction is with
 | nil => intro vs i v fr h; cases List.length_eq_zero_iff.mp h.symm; rfl
 | cons j is ih =>
  intro vs i v fr h
  cases vs with
  | nil => cases h
  | cons u vs => exact ih vs i v _ (Nat.succ.inj h)
theorem puts_rev : ∀ (is : List Nat) (vs : List Val) (fr : Frame),is.Nodup -> is.length = vs.length -> puts is.reverse vs.reverse fr = puts is vs fr := by
 intro is
 induction is with
 | nil => intro vs fr _ h; cases List.length_eq_zero_iff.mp h.symm; rfl
 | cons i is ih =>
  intro vs fr hd h
  cases vs with
  | nil => cases h
  | cons v vs =>
   have hd := List.nodup_cons.mp hd
   rw [List.reverse_cons,List.reverse_cons,puts_app _ _ _ _ _ (by rw [List.length_reverse,List.length_reverse]; exact Nat.succ.inj h),ih vs fr hd.2 (Nat.succ.inj h),puts_comm is vs fr hd.1]
   rfl
section
variable {C : Cfg} {d e : Nat} {Y : Actv C d e} {k : Kp} {w : Wd} {H : MH} {s : Shared} {cx : CC} {env : Env} {fr : Frame} {gl : List (Str × Val)}
theorem zaa.reverse : ∀ {ms : List Val} {vs : List Value},zaa C w ms vs -> zaa C w ms.reverse vs.reverse := by
 intro ms
 induction ms with
 | nil => intro vs h; cases h; exact .nil
 | cons m ms ih => intro vs h; obtain ⟨v,r,rfl,h,h'⟩ := h; rw [List.reverse_cons,List.reverse_cons]; exact zaa.append (.one h) (ih h')
theorem All2.reverse {α β : Type} {R : α -> β -> Prop} {as : List α} {bs : List β} (h : All2 R as bs) : All2 R as.reverse bs.reverse := by
 have app : ∀ {as : List α} {bs : List β} {a b},All2 R as bs -> R a b -> All2 R (as ++ [a]) (bs ++ [b]) := fun h hab => by
  induction h with
  | nil => exact .cons hab .nil
  | cons x _ ih => exact .cons x ih
 induction h with
 | nil => exact .nil
 | cons x _ ih => rw [List.reverse_cons,List.reverse_cons]; exact app ih x
noncomputable abbrev zcb (cx : CC) (x : Str) (i : Nat) : Prop := zaU cx x = some i
theorem stores_wp : ∀ {xs : List Str} {is : List Nat} {fs : List (Value -> Sem Unit)},All2 (zcb cx) xs is -> All2 (isBind env) xs fs -> ∀ {mvs : List Val} {vs : List Value} {k : Kp} {fr : Frame} {s : Shared} {Q : Unit -> Shared -> Prop} {E : Value -> Shared -> Prop},
  zaa C w mvs vs -> mvs.length = is.length -> PlS Y cx env k fr w H s -> (∀ k' s',NxS Y cx env k.ex w s k' (puts is mvs fr) w H s' -> Q () s') -> wpAny C.M Y.A (assignInOrder fs vs) Q E s := by
 intro xs is fs hi
 induction hi generalizing fs with
 | nil =>
  intro hf mvs vs k fr s Q E r hl p h
  cases hf
  cases List.length_eq_zero_iff.mp hl
  cases r
  exact wpAny_pure (h k s p.rf)
 | cons hi _ ih =>
  intro hf mvs vs k fr s Q E r hl p h
  cases hf with
  | cons hf hfs =>
   cases mvs with
   | nil => cases hl
   | cons mv mvs =>
    obtain ⟨v,t,rfl,hv,r⟩ := r
    show wpAny C.M Y.A (do holding _ _; assignInOrder _ _) Q E s
    exact wpAny_bind (wpAny_holding (hf _ _ _ _ _ _ (za4 p hi hv fun k1 s1 n1 => ih hfs r (Nat.succ.inj hl) n1.pl fun k2 s2 n2 => h k2 s2 (n1.trans n2))))
theorem bind_names : ∀ (xs : List Str),All2 (isBind env) xs (xs.map fun n => bindName env n) := by
 intro xs
 induction xs with
 | nil => exact .nil
 | cons x xs ih => exact .cons (fun _ _ _ _ _ _ z => wpAny_bindName z) ih
theorem slots_s {xs : List Str} {is : List Nat} (h : mapO (slotOf cx) xs = some is) : All2 (zcb cx) xs is := (zbt h).mono fun _ _ h => (gs h).2
theorem slots_nd (B : BlkS cx env Y.L) {xs : List Str} {is : List Nat} (h : All2 (zcb cx) xs is) : xs.Nodup -> is.Nodup := by
 have mem : ∀ {xs : List Str} {is : List Nat},All2 (zcb cx) xs is -> ∀ i ∈ is,∃ y ∈ xs,zaU cx y = some i := fun h => by
  induction h with
  | nil => exact fun i hi => absurd hi List.not_mem_nil
  | @cons x j _ _ h _ ih =>
   intro i hi
   rcases List.mem_cons.mp hi with rfl | hi
   ·exact ⟨x,.head _,h⟩
   ·obtain ⟨y,hy,e⟩ := ih i hi; exact ⟨y,.tail _ hy,e⟩
 induction h with
 | nil => exact fun _ => .nil
 | @cons x i xs is h1 h2 ih =>
  intro hd
  have hd := List.nodup_cons.mp hd
  refine List.nodup_cons.mpr ⟨fun hi => ?_,ih hd.2⟩
  obtain ⟨y,hy,e⟩ := mem h2 i hi
  exact hd.1 (B.inj x y i h1 e ▸ hy)
theorem names_kept (kk : Str -> Pos -> Bool) {es : List Expr} {xs : List Str} (h : All2 (fun e x => zbh e = some x) es xs) : (es.filterMap fun e => match e with | .Name id pos => if kk id pos then some id else none | _ => none).length = es.length ->
  (es.filterMap fun e => match e with | .Name id pos => if kk id pos then some id else none | _ => none) = xs := by
 induction h with
 | nil => exact fun _ => rfl
 | @cons e x es xs h _ ih =>
  intro hl
  obtain ⟨p,hp,rfl⟩ := ms h
  cases za9 hp
  rw [List.filterMap_cons] at hl ⊢
  dsimp only at hl ⊢
  cases hk : kk p.1 p.2 with
  | true =>
   rw [hk] at hl
   simp only [if_true,List.length_cons,Nat.add_right_cancel_iff] at hl ⊢
   rw [ih hl]
  | false =>
   rw [hk] at hl
   have := List.length_filterMap_le (fun e => match e with | .Name id pos => if kk id pos then some id else none | _ => none) es
   simp only [Bool.false_eq_true,if_false,List.length_cons] at hl
   exact absurd this (Nat.not_le.mpr (hl ▸ Nat.lt_succ_self _))
theorem swd_plain {es : List Expr} {n : Nat} {tpos : Pos} {v : Expr} (h : zco v = none) : swappedStores [.Tuple es n tpos] v env = pure none := by cases v <;> first | rfl | cases h
theorem swd_or {es : List Expr} {n : Nat} {tpos : Pos} {v : Expr} {xs : List Str} (hok : valOk v = true) (hn : All2 (fun e x => zbh e = some x) es xs) :
  swappedStores [.Tuple es n tpos] v env = pure none \/ swappedStores [.Tuple es n tpos] v env = pure (some xs) := by
 cases ht : zco v with
 | none => exact .inl (swd_plain ht)
 | some p =>
  cases zc4 ht
  have hok : (!p.1.all (constantsAlone 8)) = true := (Bool.and_eq_true_iff.mp hok).2
  have hok : p.1.all (constantsAlone 8) = false := by
   cases hq : p.1.all (constantsAlone 8) with
   | false => rfl
   | true => rw [hq] at hok; cases hok
  unfold swappedStores
  simp only [pure_bind]
  split
  ·exact .inl rfl
  ·split
   ·exact .inl rfl
   ·split
    ·exact .inl rfl
    ·rename_i h3
     split
     ·exact .inl rfl
     ·rw [hok]
      refine .inr ?_
      simp only [Bool.or_eq_true,not_or,bne_iff_ne,ne_eq,Decidable.not_not] at h3
      have e := names_kept (fun id pos => env.kindOf id == some .local && pos.line == ((es.head?.map (·.pos.line)).getD 0)) hn h3.1
      rw [if_neg Bool.false_ne_true]
      exact congrArg (fun z => (pure (some z) : Sem (Option (List Str)))) e
theorem stores_nm {c : Cx} {h : MH} : ∀ {is : List Nat} {mvs : List Val} {fr : Frame} {r : Frame × MH},zbc c (is.map T1.nm) mvs fr h = some r -> mvs.length = is.length /\ r = (puts is mvs fr,h) := by
 intro is
 induction is with
 | nil =>
  intro mvs fr r e
  obtain ⟨h1,e⟩ := gs e
  cases e
  cases mvs with
  | nil => exact ⟨rfl,rfl⟩
  | cons _ _ => cases h1
 | cons i is ih =>
  intro mvs fr r e
  cases mvs with
  | nil => exact nos e
  | cons v mvs =>
   obtain ⟨h1,h2⟩ := ih (show zbc c (is.map T1.nm) mvs (fr.set i (some v)) h = some r from e)
   exact ⟨congrArg (· + 1) h1,h2⟩
theorem zcW {v : Val} {rv : Value} {mvs : List Val} (S : St Y k w H s) (hv : VRel C w v rv) (hi : items H v = some mvs) {Q : List Value -> Shared -> Prop} {E : Value -> Shared -> Prop}
  (h : ∀ vs h',zaa C w mvs vs -> Sta C Y.h₀ Y.L k w H h' -> Q vs { s with heap := h' }) : wpAny C.M Y.A (unpackItems rv mvs.length none) Q E s := by
 revert hi
 refine zaz (fun e => ?_) (fun e => ?_)
 ·cases tup?_s e
  obtain ⟨t,o,n,ws,rfl,ho,hc,hdt,rr,_⟩ := S.tup hv
  rw [rr.length,<- List.size_toArray]
  exact unpackItems_tuple (items:=ws.toArray) Y.handled ⟨o,ho,hc,n,hdt⟩ fun h' he => h ws h' rr (S.grown he)
 ·obtain ⟨t,ws,n,rfl,ho,rr,_⟩ := S.list hv e
  rw [rr.length,<- List.size_toArray]
  exact kun_itemsOf Y.handled ⟨_,ho,rfl,n,rfl⟩ fun h' he => h ws h' rr (S.grown he)
theorem zcI {v : Expr} {i : Ex} (hv : Sd C d cx v i) (hok : valOk v = true) {t : Expr} {n : Nat} : swapsWith v (some t) n env = pure false := hv.sy.swap (by have := (Bool.and_eq_true_iff.mp hok).1; cases hq : zbQ v; rfl; rw [hq] at this; cases this) _ _ _
theorem ssnd_asgs {es : List Expr} {n : Nat} {tpos pos : Pos} {v : Expr} {xs : List Str} {is : List Nat} {iv : Ex} (hok : valOk v = true) (hn : All2 (fun e x => zbh e = some x) es xs) (hnd : xs.Nodup) (hs : All2 (zcb cx) xs is) (hv : Sd C d cx v iv) :
  SSnd C d cx (.Assign [.Tuple es n tpos] v pos) (.asgs (is.map T1.nm) iv) := by
 intro Y env k fr w H s p r
 show bnd (eval (C.cx d) iv fr H) (fun v h1 => (items h1 v).bind fun vs => bnd (zbc (C.cx d) (is.map T1.nm) vs fr h1) fun fr' h2 => some ((.nx,fr'),h2)) = some r -> _
 refine zad fun u H1 e1 => bs_r fun mvs hm => zad fun fr' H2 e2 e => ?_
 obtain ⟨hl,e3⟩ := stores_nm e2
 cases e3; cases e
 have hl' : mvs.length = xs.length := hl.trans hs.length
 intro Q E hq
 rcases swd_or (env:=env) (tpos:=tpos) (n:=n) hok hn with hw | hw
 ·obtain ⟨b1,b2,b3⟩ := zcg (env:=env) hn
  refine Assign_Tuple (hv.es Y env k k.m fr w H s p.pl _ e1 _ _ fun w1 a1 s1 n1 r1 => ?_) (by unfold swapsWithSole; exact zcI hv hok) hw
  rw [assign_Tuple]
  refine wpAny_bind (wpAny_standAt ?_)
  unfold unpack
  rw [b2,b3,<- hl']
  exact wpAny_bind (wpAny_holding (zcW n1.st r1 hm fun vs h' rr S' => stores_wp hs b1 rr hl (⟨p.b,p.c,(p.next n1).f,S'⟩ : PlS Y cx env k fr w1 H1 { s1 with heap := h' }) fun k2 s2 n2 => hq k2 w1 .next s2 ⟨n2.ex,n1.le.trans n2.le,n2.pl,n1.same.trans ⟨n2.same.1,n2.same.2⟩⟩ .nx))
 ·refine Assign_Tuple_swapped (names:=xs) (hv.es Y env k k.m fr w H s p.pl _ e1 _ _ fun w1 a1 s1 n1 r1 => ?_) (by unfold swapsWithSole; exact zcI hv hok) hw
  rw [<- hl']
  refine zcW n1.st r1 hm fun vs h' rr S' => stores_wp hs.reverse (bind_names xs.reverse) rr.reverse (by rw [List.length_reverse,List.length_reverse]; exact hl) (⟨p.b,p.c,(p.next n1).f,S'⟩ : PlS Y cx env k fr w1 H1 { s1 with heap := h' }) fun k2 s2 n2 => ?_
  rw [puts_rev is mvs fr (slots_nd p.b hs hnd) hl.symm] at n2
  exact hq k2 w1 .next s2 ⟨n2.ex,n1.le.trans n2.le,n2.pl,n1.same.trans ⟨n2.same.1,n2.same.2⟩⟩ .nx
noncomputable abbrev isAt (C : Cfg) (d : Nat) (cx : CC) (e : Expr) (q : Ex × Nat) : Prop := ∃ o nm pos,e = .Attribute o nm pos /\ zae nm = true /\ q.2 = enc nm /\ Sd C d cx o q.1
theorem swd_at {es : List Expr} {ts : List (Ex × Nat)} {n : Nat} {tpos : Pos} {v : Expr} (he : es.isEmpty = false) (ht : All2 (isAt C d cx) es ts) : swappedStores [.Tuple es n tpos] v env = pure none := by
 have hnone : ∀ (kk : Str -> Pos -> Bool) {es : List Expr} {ts : List (Ex × Nat)},All2 (isAt C d cx) es ts -> (es.filterMap fun e => match e with | .Name id pos => if kk id pos then some id else none | _ => none) = [] := fun kk {es ts} h => by
  induction h with
  | nil => rfl
  | cons h _ ih => obtain ⟨o,nm,pos,rfl,_⟩ := h; rw [List.filterMap_cons]; exact ih
 cases hv : zco v with
 | none => exact swd_plain hv
 | some p =>
  cases zc4 hv
  unfold swappedStores
  simp only [pure_bind]
  split
  ·rfl
  ·split
   ·rfl
   ·split
    ·rfl
    ·rename_i h3
     simp only [Bool.or_eq_true,not_or,bne_iff_ne,ne_eq,Decidable.not_not] at h3
     have e := hnone (fun id pos => env.kindOf id == some .local && pos.line == ((es.head?.map (·.pos.line)).getD 0)) ht
     have h4 : (es.filterMap fun e => match e with | .Name id pos => if (env.kindOf id == some .local && pos.line == ((es.head?.map (·.pos.line)).getD 0)) = true then some id else none | _ => none).length = es.length := h3.1
     rw [e] at h4
     cases es with
     | nil => cases he
     | cons _ _ => cases h4
theorem stores_at (O : zaP C gl) {es : List Expr} {ts : List (Ex × Nat)} (ht : All2 (isAt C d cx) es ts) : (assignEach es env).length = es.length /\ (assignEach es env).findIdx? (·.1) = none /\ ∀ {Y : Actv C d 2} {k : Kp} {fr : Frame} {w : Wd} {H : MH} {mvs : List Val} {vs : List Value} {r : Frame × MH} {s : Shared} {Q : Unit -> Shared -> Prop} {E : Value -> Shared -> Prop},
   zaa C w mvs vs -> PlS Y cx env k fr w H s -> zbc (C.cx d) (ts.map fun q => T1.at q.1 q.2) mvs fr H = some r -> (r.1 = fr -> mvs.length = es.length -> ∀ w' s',Nxt Y k w w' r.2 s s' -> Q () s') -> wpAny C.M Y.A (assignInOrder ((assignEach es env).map (·.2)) vs) Q E s := by
 induction ht with
 | nil =>
  refine ⟨rfl,rfl,fun {Y k fr w H mvs vs r s Q E} rr p e h => ?_⟩
  obtain ⟨h1,e⟩ := gs e
  cases e
  cases mvs with
  | nil => cases rr; exact wpAny_pure (h rfl rfl w s (.refl p.st))
  | cons _ _ => cases h1
 | @cons _ q _ _ ha _ ih =>
  obtain ⟨o,nm,pos,rfl,hn,e2,ho⟩ := ha
  obtain ⟨k1,k2,k3⟩ := ih
  refine ⟨congrArg (· + 1) k1,?_,fun {Y k fr w H mvs vs r s Q E} rr p e h => ?_⟩
  ·show List.findIdx? _ ((false,assign (.Attribute o nm pos) env) :: assignEach _ env) = none
   rw [List.findIdx?_cons]
   simp only [Bool.false_eq_true,if_false,k2,Option.map_none]
  ·cases mvs with
   | nil => exact nos e
   | cons mv mvs =>
    obtain ⟨v,t,rfl,hv,rr⟩ := rr
    revert e
    refine zad fun fr1 H1 e1 e => ?_
    revert e1
    show bnd (eval (C.cx d) q.1 fr H) (fun ov h1 => (setAttr C.P h1 ov q.2 mv).map fun h2 => (fr,h2)) = some (fr1,H1) -> _
    refine zad fun ov H2 e3 => ms_r fun H3 hs e4 => ?_
    cases e4
    rw [e2] at hs
    show wpAny C.M Y.A (do holding _ (assign (.Attribute o nm pos) env v); assignInOrder _ _) Q E s
    refine wpAny_bind (wpAny_holding ?_)
    rw [assign_Attribute]
    refine wpAny_bind (wpAny_holding (ho.es Y env k k.m _ w H s p.pl _ e3 _ _ fun w1 a1 s1 n1 r1 => ?_))
    refine wpAny_bind (wpAny_standAt (wpAny_bind (wpAny_holding (zb5 O n1.st hn r1 (hv.mono n1.le) (fun s2 n2 => wpAny_release ?_) hs))))
    have n2' := n1.trans n2
    exact k3 (rr.mono n1.le) (p.next n2') e fun e5 e6 w' s' n3 => h e5 (congrArg (· + 1) e6) w' s' (n2'.trans n3)
theorem ssnd_asgsAt (O : zaP C gl) {es : List Expr} {n : Nat} {tpos pos : Pos} {v : Expr} {ts : List (Ex × Nat)} {iv : Ex} (hok : valOk v = true) (hne : es.isEmpty = false) (ht : All2 (isAt C d cx) es ts) (hv : Sd C d cx v iv) :
  SSnd C d cx (.Assign [.Tuple es n tpos] v pos) (.asgs (ts.map fun q => T1.at q.1 q.2) iv) := by
 intro Y env k fr w H s p r
 show bnd (eval (C.cx d) iv fr H) (fun v h1 => (items h1 v).bind fun vs => bnd (zbc (C.cx d) (ts.map fun q => T1.at q.1 q.2) vs fr h1) fun fr' h2 => some ((.nx,fr'),h2)) = some r -> _
 refine zad fun u H1 e1 => bs_r fun mvs hm => zad fun fr' H2 e2 e => ?_
 cases e
 obtain ⟨b2,b3,k3⟩ := stores_at (env:=env) O ht
 have hlen : ∀ {ts : List T1} {mvs : List Val} {fr : Frame} {h : MH} {r : Frame × MH},zbc (C.cx d) ts mvs fr h = some r -> mvs.length = ts.length := by
  intro ts
  induction ts with
  | nil => intro mvs fr h r e; have := (gs e).1; cases mvs with | nil => rfl | cons _ _ => cases this
  | cons t ts ih =>
   intro mvs fr h r e
   cases mvs with
   | nil => exact nos e
   | cons v mvs => revert e; exact zad fun fr' h' _ e => congrArg (· + 1) (ih e)
 have hl : mvs.length = es.length := (hlen e2).trans ((List.length_map ..).trans ht.length)
 intro Q E hq
 refine Assign_Tuple (hv.es Y env k k.m fr w H s p.pl _ e1 _ _ fun w1 a1 s1 n1 r1 => ?_) (by unfold swapsWithSole; exact zcI hv hok) (swd_at hne ht)
 rw [assign_Tuple]
 refine wpAny_bind (wpAny_standAt ?_)
 unfold unpack
 rw [b2,b3,<- hl]
 refine wpAny_bind (wpAny_holding (zcW n1.st r1 hm fun vs h' rr S' => ?_))
 have n2 : Nxt Y k w w1 H1 s { s1 with heap := h' } := ⟨n1.le,S',n1.same.1,n1.same.2⟩
 exact k3 rr (p.next n2) e2 fun e5 _ w' s' n3 => by
  cases e5
  exact hq k w' .next s' (p.nx (n2.trans n3)) .nx
end
end Mi
namespace Mi
open PySem PySem.W PySem.Calls PyProof.Rows
theorem wp_setList {prog : Program} {w : World} {A : Around} {s : Shared} {l : Addr} {its : Array Value} {n : Nat} {z : Int} {t : Tok} {v : Value} {Q : Unit -> Shared -> Prop} {E : Value -> Shared -> Prop} (ho : s.heap.get? l = some (listOf its n)) (h0 : 0 <= z) (hj : z < its.size) (hfit : z < 2 ^ 63)
  (hQ : ∀ h' n',h'.get? l = some (listOf (its.setIfInBounds z.toNat v) n') -> Heap.SameBut l s.heap h' -> Q () { s with heap := h' }) : wpAny (model prog w) A (setItem (.ref l) (.int z t) v) Q E s := by
 have hT : s.TypeIs (.ref l) "list" := ⟨_,ho,rfl⟩
 unfold setItem
 try with_reducible refine wpAny_holding ?_
 refine wpAny_bind (wpAny_sequenceKey hT (by decide) ?_)
 refine wpAny_bind (wpAny_callSpecial?_slot (name:=Str.ofString "__setitem__") hT slot_list_setitem
  (wpAny_call_entry slot_list_setitem hT entry_list_setitem ?_ (args_list_setitem _ _ _)))
 show wpAny _ _ (Builtin.List.listSubscript? (.int z t) >>= _) _ _ s
 refine wpAny_bind (wpAny_listSubscript_int (fitsIndex_of h0 hfit) ?_)
 clear hfit
 obtain ⟨j,rfl⟩ := Int.eq_ofNat_of_zero_le h0
 have hj' : j < its.size := Int.ofNat_lt.mp hj
 have hx : its[j]? = some its[j] := Array.getElem?_eq_getElem hj'
 show wpAny _ _ ((seqItemAt l j >>= fun r => pure (r.map (j,·))) >>= _) _ _ s
 refine wpAny_bind (wpAny_bind (wpAny_seqItemAt ho rfl (wpAny_pure ?_)))
 rw [hx]
 show wpAny _ _ (setSeqItemAt l j v >>= _) _ _ s
 refine wpAny_bind (wpAny_setSeqItemAt ho rfl ?_)
 have fin : Q () { s with heap := s.heap.update l (Obj.mapSeq (·.setIfInBounds j v)) } := hQ _ _ (Heap.get?_update_self _ ho rfl) (Heap.SameBut.update ..)
 first
  | exact wpAny_bind (wpAny_pure (wpAny_pure ⟨.none,rfl,wpAny_pure fin⟩))
  | exact wpAny_pure ⟨.none,rfl,wpAny_pure fin⟩
section
variable {C : Cfg} {d e : Nat} {Y : Actv C d e} {k : Kp} {w : Wd} {H : MH} {s : Shared} {cx : CC} {env : Env} {fr : Frame} {gl : List (Str × Val)}
theorem bind_target (p : PlS Y cx env k fr w H s) {t : Expr} {q : List Str × Bool} {sl : List Nat} (ht : tgtOf t = some q) (hs : All2 (zcb cx) q.1 sl) {v : Val} {rv : Value} {fr1 : Frame} (hv : VRel C w v rv) (hb : zby fr sl q.2 v = some fr1) {Q : Unit -> Shared -> Prop} {E : Value -> Shared -> Prop}
  (h : ∀ k' s',NxS Y cx env k.ex w s k' fr1 w H s' -> Q () s') : wpAny C.M Y.A (assign t env rv) Q E s := by
 obtain ⟨mvs,b1,rfl,b3,b4⟩ := bindT_s hb
 rcases tgt_s ht with ⟨x,pp,rfl,rfl⟩ | ⟨es,n,pp,rfl,hq,hes⟩
 ·cases b4 rfl
  cases hs with
  | cons hi hs =>
   cases hs
   exact PySem.wpAny_assign_Name (za4 p hi hv h)
 ·cases b3 hq
  obtain ⟨c1,c2,c3⟩ := zcg (env:=env) hes
  obtain ⟨tt,o,n',ws,rfl,ho,hc,hd,rr,_⟩ := p.st.tup hv
  exact assign_Tuple_tuple (items:=ws.toArray) Y.handled ⟨o,ho,hc,n',hd⟩ (by rw [c2,List.size_toArray,<- rr.length,b1,hs.length]) c3 fun h' he => stores_wp hs c1 rr b1 (⟨p.b,p.c,p.f,p.st.grown he⟩ : PlS Y cx env k fr w H { s with heap := h' }) fun k' s' n2 => h k' s' ⟨n2.ex,n2.le,n2.pl,n2.same.1,n2.same.2⟩
inductive FoSt {C : Cfg} {d e : Nat} (Y : Actv C d e) (cx : CC) (env : Env) (ex : Led) (w0 : Wd) (s0 : Shared) (I : Addr) (z : It) (F : Nat -> Frame -> MH -> SR) (r : (Fl × Frame) × MH) (s : Shared) : Prop
 | mk (k : Kp) (fr : Frame) (w : Wd) (H : MH) (j : Nat) (io : Obj) (ex' : k.ex = ex) (le : w0.le w) (p : PlS Y cx env (k.ext (I,io)) fr w H s) (it : zbA C w io j z) (sm : Same s0 s) (lp : F j fr H = some r) : FoSt Y cx env ex w0 s0 I z F r s
theorem PlS.endEx {q : Addr × Obj} {h' : Heap} (p : PlS Y cx env (k.ext q) fr w H s) (hx : Heap.ExtBut q.1 s.heap h') : PlS Y cx env k fr w H { s with heap := h' } := ⟨p.b,p.c,p.f,Sta.endEx (b:=q.1) (o:=q.2) p.st hx⟩
theorem ssnd_for {t : Expr} {pos : Pos} {it : Expr} {b : List Stmt} {q : List Str × Bool} {sl : List Nat} {ii : Ex} {ib : List Sm} (ht : tgtOf t = some q) (hsl : All2 (zcb cx) q.1 sl) (hi : Sd C d cx it ii) (hb : zc7 C d cx b ib) : SSnd C d cx (.For t it b [] pos) (.fo sl q.2 ii ib) := by
 intro Y env k fr w H s p r
 show bnd (eval (C.cx d) ii fr H) (fun v h1 => (zbd h1 v).bind fun k => loopF (fun i h => zav h i k) (fun fr v => zby fr sl q.2 v) (fun fr h => execs (C.cx d) ib fr h) (C.cx d).fuel 0 fr h1) = some r -> _
 refine zad fun u H1 e1 => bs_r fun z hz lp => ?_
 intro Q E hq
 refine wpAny_For (hi.es Y env k k.m fr w H s p.pl _ e1 _ _ fun w1 a1 s1 n1 r1 => snd_iter n1.st r1 (fun I io h2 S2 R2 => ?_) hz) (hi.sy.fold env)
 refine codeAny_forLoop_any (fun n s' => FoSt Y cx env k.ex w s I z (loopF (fun i h => zav h i z) (fun fr v => zby fr sl q.2 v) (fun fr h => execs (C.cx d) ib fr h) n) r s') ?_ (C.cx d).fuel ⟨k,fr,w1,H1,0,io,rfl,n1.le,⟨p.b,p.c,(p.next n1).f,S2⟩,R2,⟨n1.same.1,n1.same.2⟩,lp⟩
 clear lp R2 S2 r1 n1 e1 hz
 rintro n s' ⟨k3,fr3,w3,H3,j,io3,ex3,le3,p3,R3,sm3,lp⟩
 cases n with
 | zero => exact nos lp
 | succ n =>
  revert lp
  refine bs_r fun ov hov lp => snd_next p3.st R3 hov ⟨fun v rv io4 h' tk hv S4 R4 hr => ?_,fun h' hv S4 => ?_⟩
  ·subst hv
   refine zct (s:={ s' with heap := h',toks := tk }) S4.exHead.1 R4.cls ?_
   revert lp
   refine bs_r fun fr5 hb5 lp => ?_
   have p4 : PlS Y cx env (k3.ext (I,io4)) fr3 w3 H3 { s' with heap := h',toks := tk } := ⟨p3.b,p3.c,p3.f,S4⟩
   refine bind_target p4 ht hsl hr hb5 fun k5 s5 n5 => ?_
   revert lp
   refine zad fun g H6 e6 lp => hb Y env k5 fr5 w3 H3 s5 n5.pl _ e6 _ _ fun k6 w6 f6 s6 n6 r6 => ?_
   have n6' := n5.trans n6
   obtain ⟨ce6,ex6,m6⟩ := k6
   cases n6'.ex
   have sm6 : Same s s6 := sm3.trans ⟨n6'.same.1,n6'.same.2⟩
   have p6 : PlS Y cx env ((⟨ce6,k3.ex,m6⟩ : Kp).ext (I,io4)) g.2 w6 H6 s6 := n6'.pl
   have out : NxS Y cx env k.ex w s ⟨ce6,k3.ex,m6⟩ g.2 w6 H6 s6 := ⟨ex3,le3.trans n6'.le,p6.endEx fun _ _ _ e => e,sm6⟩
   obtain ⟨fl,fr6⟩ := g
   cases r6 with
   | nx => exact ⟨n,Nat.lt_succ_self n,⟨ce6,k3.ex,m6⟩,fr6,w6,H6,j + 1,io4,ex3,le3.trans n6'.le,p6,R4.mono n6'.le,sm6,lp⟩
   | ct => exact ⟨n,Nat.lt_succ_self n,⟨ce6,k3.ex,m6⟩,fr6,w6,H6,j + 1,io4,ex3,le3.trans n6'.le,p6,R4.mono n6'.le,sm6,lp⟩
   | bk => cases lp; exact hq _ w6 .next s6 out .nx
   | rt h => cases lp; exact hq _ w6 _ s6 out (.rt h)
  ·subst hv
   cases lp
   exact wpAny_execs_nil (hq k3 w3 .next { s' with heap := h' } ⟨ex3,le3,⟨p3.b,p3.c,p3.f,S4⟩,sm3.1,sm3.2⟩ .nx)
theorem ssnd_expr {v : Expr} {pos : Pos} {iv : Ex} (hc : zbQ v = false) (hv : Sd C d cx v iv) : SSnd C d cx (.Expr v pos) (.expr iv) := by
 intro Y env k fr w H s p r
 show bnd (eval (C.cx d) iv fr H) (fun _ h1 => some ((.nx,fr),h1)) = some r -> _
 refine zad fun u H1 e1 e => ?_
 cases e
 intro Q E hq
 rw [exec_Expr env v pos (by unfold interactive; rw [p.b.kind]; rfl) (hv.sy.swap hc _ _ _)]
 refine wpAny_bind (wpAny_standAt (wpAny_bind (hv.es Y env k k.m fr w H s p.pl _ e1 _ _ fun w1 a1 s1 n1 r1 => ?_)))
 have fin := hq k w1 .next s1 (p.nx n1) .nx
 unfold dropValue
 split
 ·exact wpAny_pure fin
 ·exact wpAny_bind (wpAny_standAt (wpAny_bind (wpAny_runValue (codeAny_builtin entry_let_go (show wpAny _ _ (ret .none) _ _ s1 from wpAny_pure (wpAny_pure fin))))))
 ·exact wpAny_pure fin
theorem swapAt {v o : Expr} {i : Ex} (hv : Sd C d cx v i) (ho : za1 o = none) {n : Nat} : swapsWith v (some o) n env = pure false := by
 cases hc : zbQ v with
 | false => exact hv.sy.swap hc _ _ _
 | true =>
  clear hv
  cases v with
  | ListComp _ _ _ _ => cases o <;> first | rfl | cases ho
  | _ => cases hc
theorem ssnd_asgAt (O : zaP C gl) {o : Expr} {nm : Str} {xp pos : Pos} {v : Expr} {io iv : Ex} (hn : zae nm = true) (ho : Sd C d cx o io) (hv : Sd C d cx v iv) : SSnd C d cx (.Assign [.Attribute o nm xp] v pos) (.asg (.at io (enc nm)) iv) := by
 intro Y env k fr w H s p r
 show bnd (eval (C.cx d) iv fr H) (fun v h1 => bnd (bnd (eval (C.cx d) io fr h1) fun ov h2 => (setAttr C.P h2 ov (enc nm) v).map fun h3 => (fr,h3)) fun fr' h2 => some ((.nx,fr'),h2)) = some r -> _
 refine zad fun u H1 e1 => zad fun fr' H2 e2 e => ?_
 cases e
 revert e2
 refine zad fun ov H3 e3 => ms_r fun H4 hs e4 => ?_
 cases e4
 exact fun Q E hq => plainObj_wpAny_Assign_Attribute (hv.es Y env k k.m _ w H s p.pl _ e1 _ _ fun w1 a1 s1 n1 r1 => ho.es Y env k k.m _ w1 H1 s1 (p.next n1).pl _ e3 _ _ fun w2 a2 s2 n2 r2 =>
  zb5 O n2.st hn r2 (r1.mono n2.le) (fun s3 n3 => hq k w2 .next s3 (p.nx ((n1.trans n2).trans n3)) .nx) hs) (swapAt hv rfl)
theorem vrels_set {v : Val} {rv : Value} (hv : VRel C w v rv) : ∀ {ms : List Val} {vs : List Value} {j : Nat},zaa C w ms vs -> zaa C w (ms.set j v) (vs.set j rv) := by
 intro ms
 induction ms with
 | nil => intro vs j h; cases h; exact .nil
 | cons m ms ih =>
  intro vs j h
  obtain ⟨x,t,rfl,h,r⟩ := h
  cases j with
  | zero => exact .cons hv r
  | succ j => exact .cons h (ih r)
theorem snd_setSub (S : St Y k w H s) {o i v : Val} {vo vi vv : Value} {H' : MH} (ho : VRel C w o vo) (hi : VRel C w i vi) (hv : VRel C w v vv) {Q : Unit -> Shared -> Prop} {E : Value -> Shared -> Prop}
  (h : ∀ s',Nxt Y k w w H' s s' -> Q () s') : zbN H o i v = some H' -> wpAny C.M Y.A (setItem vo vi vv) Q E s := by
 refine bs_r fun x e1 => zaz (bs_r fun mvs hm => ms_r fun j hj e => ?_) (bs_r fun p hp => gs_r fun hf e => ?_)
 ·cases ref?_s e1; subst e
  obtain ⟨z,t,rfl,h0,h1,rfl⟩ := idx_s hi hj
  obtain ⟨la,rfl,ha⟩ := ho
  obtain ⟨ob,hi,h2⟩ := bs hm
  cases list?_s h2
  obtain ⟨_,ws,n,e,hget,rr,hl⟩ := S.list (x:=.ref x) ⟨la,rfl,ha⟩ hm
  cases e
  refine wp_setList hget h0 (by rw [List.size_toArray,<- rr.length]; exact h1) (Int.lt_trans h1 (zbR hl)) fun h' n' hg hs => h _ ⟨.refl w,S.upd ha hi (fun en h => ?_) hs (by rw [hg,List.setIfInBounds_toArray]) ⟨_,n',rfl,vrels_set hv rr,by rw [List.length_set]; exact hl⟩,rfl,rfl⟩
  obtain ⟨_,_,rfl,_,_⟩ := h
  exact ⟨_,rfl⟩
 ·cases ref?_s e1; cases e
  have hf := Bool.and_eq_true_iff.mp hf
  obtain ⟨b,n,es,rfl,hmod,hep,hg,hdr,hl,upd⟩ := S.dictI ho hp
  refine zcE ⟨_,hg,rfl⟩ (wp_put S (A:=Y.A.in1) (show Y.A.units + 1 + 1 < 9900 from Y.u (n:=2) (by decide)) hg hdr hf.1 (Nat.ble_eq.mp hf.2) hi hv fun es' h' tk hs hgo j' => h _ ⟨.refl w,upd h' _ _ hs hgo ⟨es',_,rfl,fun e he => ?_,j',dput_le (Nat.ble_eq.mp hf.2)⟩,rfl,rfl⟩)
  cases hq : (dget p.2 i).isSome with
  | true => rw [hq] at he; exact hep e he
  | false =>
   rw [hq] at he
   obtain ⟨e0,he0,rfl⟩ := ms he
   exact congrArg (· + 1) (hep e0 he0)
theorem ssnd_asgSub {o i : Expr} {xp pos : Pos} {v : Expr} {io ii iv : Ex} (ho : Sd C d cx o io) (hi : Sd C d cx i ii) (hv : Sd C d cx v iv) : SSnd C d cx (.Assign [.Subscript o i xp] v pos) (.asg (.sb io ii) iv) := by
 intro Y env k fr w H s p r
 show bnd (eval (C.cx d) iv fr H) (fun v h1 => bnd (bnd (eval (C.cx d) io fr h1) fun ov h2 => bnd (eval (C.cx d) ii fr h2) fun iv h3 => (zbN h3 ov iv v).map fun h4 => (fr,h4)) fun fr' h2 => some ((.nx,fr'),h2)) = some r -> _
 refine zad fun u H1 e1 => zad fun fr' H2 e2 e => ?_
 cases e
 revert e2
 refine zad fun ov H3 e3 => zad fun ix H4 e4 => ms_r fun H5 hs e5 => ?_
 cases e5
 exact fun Q E hq => wpAny_Assign_Subscript (hv.es Y env k k.m _ w H s p.pl _ e1 _ _ fun w1 a1 s1 n1 r1 => ho.es Y env k k.m _ w1 H1 s1 (p.next n1).pl _ e3 _ _ fun w2 a2 s2 n2 r2 => hi.es Y env k k.m _ w2 H3 s2 ((p.next n1).next n2).pl _ e4 _ _ fun w3 a3 s3 n3 r3 =>
  snd_setSub n3.st (r2.mono n3.le) r3 (r1.mono (n2.le.trans n3.le)) (fun s4 n4 => hq k w3 .next s4 (p.nx (((n1.trans n2).trans n3).trans n4)) .nx) hs) (swapAt hv rfl)
theorem all_ssnd (O : zaP C gl) (hC : zaQ C d) (hg : GlOk C cx.gl) (hcc : CcOk cx) : ∀ (n : Nat),(∀ (st : Stmt) (ir : Sm),compS n cx st = some ir -> SSnd C d cx st ir) /\ ∀ (sts : List Stmt) (irs : List Sm),mapO (fun s => some ((compS n cx s).getD .raise)) sts = some irs -> zc7 C d cx sts irs := by
 intro n
 have hE : ∀ {e ir},compX cx e = some ir -> Sd C d cx e ir := fun h => all_snd O hC 60 cx hg hcc _ _ h
 have lists : ∀ {n : Nat},(∀ (st : Stmt) (ir : Sm),compS n cx st = some ir -> SSnd C d cx st ir) -> ∀ (sts : List Stmt) (irs : List Sm),mapO (fun s => some ((compS n cx s).getD .raise)) sts = some irs -> zc7 C d cx sts irs := by
  intro n h sts irs e
  induction zbt e with
  | nil => exact ssnd_nil
  | @cons st i _ _ h1 h2 ih =>
   have rest := ih (by
    obtain ⟨b,_,e⟩ := bs e
    obtain ⟨c,h3,e⟩ := ms e
    cases e; exact h3)
   refine ssnd_cons ?_ rest
   cases hs : compS n cx st with
   | some i' => rw [hs] at h1; cases h1; exact h st _ hs
   | none => rw [hs] at h1; cases h1; exact fun Y env k fr w H s p r e => nos e
 have st : ∀ (st : Stmt) (ir : Sm),compS n cx st = some ir -> SSnd C d cx st ir := by
  induction n with
  | zero => exact fun st ir h => nos h
  | succ n ih =>
   have ihs := lists ih
   intro st ir
   cases st with
   | Pass pos => intro h; cases h; exact fun Y env k fr w H s p r e Q E hq => by cases e; exact wpAny_Pass (hq k w _ s p.rf .nx)
   | Break pos => intro h; cases h; exact fun Y env k fr w H s p r e Q E hq => by cases e; exact fun _ _ _ => hq k w _ s p.rf .bk
   | Continue pos => intro h; cases h; exact fun Y env k fr w H s p r e Q E hq => by cases e; exact fun _ _ _ => hq k w _ s p.rf .ct
   | Return v pos =>
    intro h
    cases v with
    | none => cases h; exact ssnd_ret0
    | some e => obtain ⟨i,hi,rfl⟩ := ms h; exact ssnd_ret (hE hi).es
   | Assign ts v pos =>
    intro h
    obtain ⟨t,rfl,h⟩ := one1_s h
    have h : Option.casesOn (motive:=fun _ => Option Sm) (zco t) ((compT1 cx t).bind fun a => (compX cx v).map fun b => .asg a b) (fun p => grd (valOk v) ((compX cx v).bind fun b => alt ((namesN p.1).bind fun xs => (mapO (slotOf cx) xs).map fun is => .asgs (is.map .nm) b) (grd (!p.1.isEmpty) ((mapO (compA1 cx) p.1).map fun ts => .asgs (ts.map fun q => .at q.1 q.2) b)))) = some ir := h
    cases ht : zco t with
    | some p =>
     rw [ht] at h
     cases zc4 ht
     revert h
     refine gs_r fun hok => bs_r fun b hb => zaz (bs_r fun xs hx => ms_r fun is his e => ?_) (gs_r fun hne => ms_r fun ts hts e => ?_)
     ·obtain ⟨xs',h1,h2⟩ := bs hx
      obtain ⟨h2,h3⟩ := gs h2
      cases h3
      exact e ▸ ssnd_asgs hok (zbt h1) (of_decide_eq_true h2) (slots_s his) (hE hb)
     ·refine e ▸ ssnd_asgsAt O hok (by cases hq : p.1.isEmpty; rfl; rw [hq] at hne; cases hne) ((zbt hts).mono fun e q h => ?_) (hE hb)
      obtain ⟨p,hp,h⟩ := bs h
      obtain ⟨hn,h⟩ := gs h
      obtain ⟨i,hi,rfl⟩ := ms h
      exact ⟨p.1,p.2.1,p.2.2,zc5 hp,hn,rfl,hE hi⟩
    | none =>
     rw [ht] at h
     obtain ⟨a,ha,h⟩ := bs h
     obtain ⟨b,hb,rfl⟩ := ms h
     revert ha
     refine zaz (bs_r fun p hp => gs_r fun _ => ms_r fun i hi e => ?_) (zaz (bs_r fun p hp => gs_r fun hn => ms_r fun i hi e => ?_) (bs_r fun p hp => bs_r fun i hi => ms_r fun j hj e => ?_))
     ·rw [<- e,za9 hp]
      refine ssnd_asg hcc hi (hE hb) fun {elt gens sc cp} ev => ?_
      subst ev
      clear h
      obtain ⟨g,eg,hz⟩ := one1_s (show one1 gens _ = some b from hb)
      subst eg
      obtain ⟨q,hq,h4⟩ := bs hz
      obtain ⟨hc,h5⟩ := gs h4
      obtain ⟨ii,hi',h6⟩ := bs h5
      obtain ⟨iifs,hf,h7⟩ := bs h6
      obtain ⟨ie,he,eb⟩ := ms h7
      have hc := Bool.and_eq_true_iff.mp hc
      have hin := all_snd O hC 59 (inComp cx sc q.1) hg (hcc.inComp sc q.1)
      exact ⟨g,q,ie,ii,iifs,rfl,⟨beq_iff_eq.mp hc.1,hq,scOk_of hc.2,all_snd O hC 59 cx hg hcc _ _ hi',hin _ _ he,(zbt hf).mono hin⟩,eb.symm⟩
     ·rw [<- e,zc5 hp]; exact ssnd_asgAt O hn (hE hi) (hE hb)
     ·rw [<- e,asSub_s hp]; exact ssnd_asgSub (hE hi) (hE hj) (hE hb)
   | If t x y pos => exact bs_r fun a ha => bs_r fun b hb => ms_r fun c hc e => e ▸ ssnd_if (hE ha).ts (ihs _ _ hb) (ihs _ _ hc)
   | While t b e pos =>
    refine gs_r fun he => bs_r fun a ha => ms_r fun c hc e' => ?_
    cases e with
    | nil => exact e' ▸ ssnd_while (hE ha).ts (ihs _ _ hc)
    | cons _ _ => cases he
   | For t it b e pos =>
    refine gs_r fun he => bs_r fun q hq => gs_r fun _ => bs_r fun a ha => bs_r fun sl hs => ms_r fun c hc e' => ?_
    cases e with
    | nil => exact e' ▸ ssnd_for hq (slots_s hs) (hE ha) (ihs _ _ hc)
    | cons _ _ => cases he
   | Expr v pos => exact gs_r fun hc => ms_r fun i hi e => e ▸ ssnd_expr (by cases hq : zbQ v; rfl; rw [hq] at hc; cases hc) (hE hi)
   | _ => exact fun h => nos h
 exact ⟨st,lists st⟩
end
end Mi
namespace Mi
open PySem PySem.W PySem.Calls PyProof.Rows
theorem ccOk_fn (ps : List Str) (sc : Scope) (gl : List (Str × Val)) : CcOk (fnCx ps sc gl) := fun x i h => by
 obtain ⟨j,rfl,j2⟩ := (zbD x _ 0).1 i h
 rw [Nat.zero_add]
 exact (List.getElem?_eq_some_iff.mp j2).1
theorem bindL_skip {kindOf : Str -> Option NameKind} {x : Str} : ∀ {r : List (Str × Value)} {m : Str -> Option Value},x ∉ r.map (·.1) -> bindL kindOf r m x = m x := by
 intro r
 induction r with
 | nil => exact fun _ => rfl
 | cons p r ih =>
  intro m h
  unfold bindL
  rw [ih fun q => h (.tail _ q)]
  split
  ·exact if_neg fun q : x = p.1 => h (q ▸ .head _)
  ·rfl
theorem bindC_skip {kindOf : Str -> Option NameKind} {x : Str} : ∀ {r : List (Str × Value)} {m : Str -> Option Value},x ∉ r.map (·.1) -> bindC kindOf r m x = m x := by
 intro r
 induction r with
 | nil => exact fun _ => rfl
 | cons p r ih =>
  intro m h
  unfold bindC
  rw [ih fun q => h (.tail _ q)]
  split
  ·rfl
  ·exact if_neg fun q : x = p.1 => h (q ▸ .head _)
theorem bind_at {kindOf : Str -> Option NameKind} {x : Str} {v : Value} : ∀ {r : List (Str × Value)} {m : Str -> Option Value},(x,v) ∈ r -> (r.map (·.1)).Nodup -> (kindOf x = some .local -> bindL kindOf r m x = some v) /\ (kindOf x ≠ some .local -> bindC kindOf r m x = some v) := by
 intro r
 induction r with
 | nil => exact fun h _ => absurd h List.not_mem_nil
 | cons p r ih =>
  intro m h hd
  have hd := List.nodup_cons.mp hd
  unfold bindL bindC
  rcases List.mem_cons.mp h with e | h
  ·subst e
   exact ⟨fun hk => by rw [bindL_skip hd.1,if_pos hk]; exact if_pos rfl,fun hk => by rw [bindC_skip hd.1,if_neg hk]; exact if_pos rfl⟩
  ·exact ⟨(ih h hd.2).1,(ih h hd.2).2⟩
theorem zcw {cm : Str -> Option Value} {x : Str} {c : Addr} {cs : List (Str × Addr)} {cells : Led} (h : CellsAre cm cs cells) : cs.lookup x = some c -> ∃ o,(c,o) ∈ cells /\ o.data = .cell (cm x) := by
 induction h with
 | nil => exact fun h => nos h
 | @cons n a o cs cells hd r ih =>
  intro h
  rw [List.lookup_cons] at h
  cases e : x == n with
  | true => rw [e] at h; cases h; rw [beq_iff_eq.mp e]; exact ⟨o,.head _,hd⟩
  | false => rw [e] at h; obtain ⟨o',h1,h2⟩ := ih h; exact ⟨o',.tail _ h1,h2⟩
theorem zcf {cm : Str -> Option Value} {cs : List (Str × Addr)} {cells : Led} (h : CellsAre cm cs cells) : cells.map (·.1) = cs.map (·.2) := by
 induction h with
 | nil => rfl
 | cons _ _ ih => exact congrArg (_ :: ·) ih
theorem zaZ (lo : Nat) : ∀ (names : List (Str × NameKind)) (n : Nat) (acc : List (Str × Addr)),lo <= n -> (acc.map (·.2)).Nodup -> (∀ p ∈ acc,p.2 < n /\ lo <= p.2) -> ((cellsFrom n names acc).map (·.2)).Nodup /\ ∀ p ∈ cellsFrom n names acc,lo <= p.2 := by
 intro names
 induction names with
 | nil => exact fun n acc _ h hl => ⟨h,fun p hp => (hl p hp).2⟩
 | cons q r ih =>
  intro n acc hn h hl
  unfold cellsFrom
  split
  ·refine ih (n + 1) _ (Nat.le_succ_of_le hn) ?_ ?_
   ·rw [List.map_cons,List.nodup_cons]
    refine ⟨fun hx => ?_,h⟩
    obtain ⟨p,hp,e⟩ := List.mem_map.mp hx
    exact absurd (hl p hp).1 (by rw [e]; exact Nat.lt_irrefl _)
   ·intro p hp
    rcases List.mem_cons.mp hp with rfl | hp
    ·exact ⟨Nat.lt_succ_self _,hn⟩
    ·exact ⟨Nat.lt_succ_of_lt (hl p hp).1,(hl p hp).2⟩
  ·exact ih n acc hn h hl
theorem look_inj {x y : Str} {c : Addr} {cs : List (Str × Addr)} : (cs.map (·.2)).Nodup -> cs.lookup x = some c -> cs.lookup y = some c -> x = y := by
 induction cs with
 | nil => exact fun _ h _ => nos h
 | cons p r ih =>
  intro hd hx hy
  have hd := List.nodup_cons.mp hd
  rw [List.lookup_cons] at hx hy
  have out : ∀ {z},r.lookup z = some c -> c = p.2 -> False := fun h e => hd.1 (List.mem_map.mpr ⟨_,zam h,e⟩)
  cases ex : x == p.1 with
  | true =>
   rw [ex] at hx
   cases ey : y == p.1 with
   | true => exact (beq_iff_eq.mp ex).trans (beq_iff_eq.mp ey).symm
   | false => rw [ey] at hy; exact (out hy (Option.some.inj hx).symm).elim
  | false =>
   rw [ex] at hx
   cases ey : y == p.1 with
   | true => rw [ey] at hy; exact (out hx (Option.some.inj hy).symm).elim
   | false => rw [ey] at hy; exact ih hd.2 hx hy
section
variable {C : Cfg} {d e : Nat} {w : Wd} {H : MH} {s : Shared} {gl : List (Str × Val)}
theorem first_pl {Y : Actv C d 2} {qual : Str} {scope : Scope} {fa : Addr} {cdv : Value} {xs : List Str} {us : List Value} {ws : List Val} {fn : Fn} {cells ex : Led} (hkind : scope.kind = .function) (hbn : xs.Nodup) (ru : zaa C w ws us) (hlen : ws.length = xs.length)
  (hc : CellsAre (bindC (envOfC qual scope Y.L fa cdv).kindOf (xs.zip us) fun _ => none) (cellsFrom (Y.L + 1) scope.names []) cells)
  (S : St Y ⟨cells,ex,bindL (envOfC qual scope Y.L fa cdv).kindOf (xs.zip us) fun _ => none⟩ w H s) : PlS Y (fnCx xs scope gl) (envOfC qual scope Y.L fa cdv) ⟨cells,ex,bindL (envOfC qual scope Y.L fa cdv).kindOf (xs.zip us) fun _ => none⟩ (zbw fn ws) w H s := by
 have hcn := (zaZ 0 scope.names (Y.L + 1) [] (Nat.zero_le _) .nil fun _ h => absurd h List.not_mem_nil).1
 have slot : ∀ {x i},zaU (fnCx xs scope gl) x = some i -> (zcc xs scope)[i]? = some x := fun {x i} h => by
  obtain ⟨j,e,h2⟩ := (zbD x (zcc xs scope) 0).1 i (zcG h).2
  rw [Nat.zero_add] at e
  exact e ▸ h2
 have hz : ((xs.zip us).map (·.1)).Nodup := by rw [List.map_fst_zip (by rw [<- hlen,ru.length]; exact Nat.le_refl _)]; exact hbn
 refine ⟨⟨hkind,rfl,rfl,rfl,fun x hx => Option.isSome_iff_exists.mp (cellsFrom_some scope.names (Y.L + 1) [] (.inl hx)),fun x y c hx hy hcx hcy => look_inj hcn hcx hcy,rfl,fun x y i hx hy => Option.some.inj ((slot hx).symm.trans (slot hy))⟩,
  fun x c _ hcx => (zcw hc hcx).elim fun o h => ⟨o,_,h.1,h.2⟩,fun x i u hx hu => ?_,S⟩
 have hlt : i < ws.length := Decidable.byContradiction fun hge => by
  unfold zbw at hu
  rw [List.getElem?_append_right (by rw [List.length_map]; exact Nat.le_of_not_lt hge)] at hu
  obtain ⟨_,hu'⟩ := List.getElem?_eq_some_iff.mp hu
  rw [List.getElem_replicate] at hu'
  cases hu'
 unfold zbw at hu
 rw [List.getElem?_append_left (by rw [List.length_map]; exact hlt),List.getElem?_map] at hu
 obtain ⟨u',hu1,hu2⟩ := ms hu
 cases hu2
 obtain ⟨rv,hrv,hr⟩ := ru.get hu1
 have hpx : xs[i]? = some x := by
  have := slot hx
  unfold zcc at this
  rwa [List.getElem?_append_left (by rw [<- hlen]; exact hlt)] at this
 have hmem : (x,rv) ∈ xs.zip us := List.mem_of_getElem? (List.getElem?_zip_eq_some.mpr ⟨hpx,hrv⟩)
 rcases (zcG hx).1 with hk | hk
 ·exact .loc rv hk ((bind_at hmem hz).1 hk) hr
 ·obtain ⟨c,hcc⟩ := Option.isSome_iff_exists.mp (cellsFrom_some scope.names (Y.L + 1) [] (.inl hk))
  obtain ⟨o,h1,h2⟩ := zcw hc hcc
  refine .cell rv c o hk hcc h1 ?_ hr
  rw [h2,(bind_at hmem hz).2 (by show scope.names.lookup x ≠ _; rw [show scope.names.lookup x = some .cell from hk]; decide)]
inductive CfO (gl : List (Str × Val)) (params : Arguments) (body : List Stmt) (sc : Scope) (f : Fn) : Prop
 | mk (kind : sc.kind = .function) (gen : sc.isGenerator = false) (co : sc.isCoroutine = false) (ps : ∀ x ∈ params.args.map (·.arg),sc.names.lookup x = some .local \/ sc.names.lookup x = some .cell) (b : compB (fnCx (params.args.map (·.arg)) sc gl) body = some f.body) (np : (params.args.map (·.arg)).length = f.np) : CfO gl params body sc f
theorem zc0 {params : Arguments} {body : List Stmt} {sc : Scope} {f : Fn} (h : compFn gl params body sc = some (f.np,f.ns,f.body)) : CfO gl params body sc f := by
 obtain ⟨hb,h⟩ := gs h
 obtain ⟨b,h1,h2⟩ := ms h
 simp only [Bool.and_eq_true,List.all_eq_true,Bool.or_eq_true,beq_iff_eq,Bool.not_eq_true'] at hb
 simp only [Prod.mk.injEq] at h2
 obtain ⟨e1,e2,e3⟩ := h2
 obtain ⟨⟨⟨⟨hp,hkind⟩,hgen⟩,hco⟩,hps⟩ := hb
 exact ⟨hkind,hgen,hco,hps,e3 ▸ h1,e1⟩
theorem zaa.drop {ms : List Val} : ∀ {vs : List Value} {n : Nat},zaa C w ms vs -> zaa C w (ms.drop n) (vs.drop n) := by
 induction ms with
 | nil => intro vs n h; cases h; rw [List.drop_nil,List.drop_nil]; exact .nil
 | cons m ms ih =>
  intro vs n h
  cases n with
  | zero => exact h
  | succ n => obtain ⟨v,t,rfl,_,r⟩ := h; exact ih r
theorem args_s {fn : Fn} {fd : FuncData} {xs : List Str} {as ws : List Val} {vs : List Value} (hk : C.K.In s.heap) (k7 : ArgFact C fn fd xs) (r : zaa C w as vs) (ha : zcj fn as = some ws) : ∃ us,zaa C w ws us /\ ws.length = fn.np /\ BindsTo s fd ⟨vs,[]⟩ (xs.zip us) := by
 obtain ⟨hc,e⟩ := gs ha
 have hc := Bool.and_eq_true_iff.mp hc
 have h1 := Nat.ble_eq.mp hc.1
 have h2 := Nat.ble_eq.mp hc.2
 have e := (Option.some.inj e).symm
 rcases k7 with ⟨k5,k7⟩ | ⟨_,dvs,k7a,k7b⟩
 ·rw [k5] at h2 e
  have hl : as.length = fn.np := Nat.le_antisymm h1 (Nat.le_of_sub_eq_zero (Nat.le_zero.mp h2))
  rw [List.drop_nil,List.append_nil] at e
  subst e
  exact ⟨vs,r,hl,BindsTo.of_eq (k7 vs (r.length ▸ hl))⟩
 ·have hdl := (k7a w).length
  have hrl := r.length
  refine ⟨vs ++ dvs.drop (dvs.length - (fn.np - vs.length)),?_,?_,kp_binds hk fun St => k7b St vs (by omega) (by omega)⟩
  ·rw [e,<- hdl,<- hrl]
   exact zaa.append (k7a w).drop r
  ·rw [e,List.length_append,List.length_drop]; omega
noncomputable abbrev flV (f : Flow) : Value := match f with | .ret v => v | _ => .none
theorem flow_s {fl : Fl} {f : Flow} {fr : Frame} {H : MH} {r : Val × MH} (hr : FlR C w fl f) (e : finF (fl,fr) H = some r) : VRel C w r.1 (flV f) /\ H = r.2 := by
 cases hr with
 | nx => cases e; exact ⟨rfl,rfl⟩
 | bk => exact nos e
 | ct => exact nos e
 | rt h => cases e; exact ⟨h,rfl⟩
theorem call_snd (O : zaP C gl) : ∀ d,zaQ C d := by
 intro d
 induction d with
 | zero => exact fun Y k w H s f fa as vs r S hf rr e => nos e
 | succ d ih =>
  intro Y k w H s f fa as vs r S hf rr
  refine bs_r fun fn hfn => bs_r fun ws hargs => zad fun q HE ev er R hq => ?_
  obtain ⟨hfa,ad,name,qual,params,body,scope,dV,kV,doc,pm,an,cdv,ct,oc,od,osl,k1,k2,k3,k4,k6,k7,k8,k10⟩ := O.fns _ _ hfn
  rw [hfa,hf] at k1
  cases k1
  obtain ⟨us,ru,hlen,hbt⟩ := args_s S.kIn k7 rr hargs
  obtain ⟨hkind,hgen,hco,hps,hbd,hnp⟩ := zc0 k4
  obtain ⟨A₀,base,outer,hB,hA⟩ := Y.below
  obtain ⟨p,loose,mean,mg,mb,T⟩ := Y.top
  obtain ⟨os,he,hn,hd⟩ := S.os
  refine code_defC (binds:=(params.args.map (·.arg)).zip us) hB S.fr Y.k hn T hA Y.frame Y.kind k2 k3 (by have := Y.depth; show Y.A.depth < 1000; omega) hbt ?_ k10 (fun g L' h₁ tk cells FG F' N' Yc B' Xg Tg hlt => ?_) hco hgen hkind
  ·rw [List.all_eq_true]
   intro y hy
   rw [Bool.or_eq_true,beq_iff_eq,beq_iff_eq]
   exact hps y.1 (List.of_mem_zip hy).1
  let Y' : Actv C d 2 := ⟨Y.A.deeper (envOfC qual scope L' fa cdv),g,L',envOfC qual scope L' fa cdv,⟨Y.A,base,Y.envF :: outer,B',Around.frames_deeper hA⟩,Xg,⟨p,loose,mean,mg,mb,Tg⟩,rfl,hkind,Y.handled,by have := Y.depth; show Y.A.depth + 1 + 4 * d + 2 + 2 <= 900; omega,by have := Y.units; show Y.A.units + 3 + 20 * d + 190 + 5 * 2 <= 9900; omega⟩
  obtain ⟨hcn,hcl⟩ := zaZ (L' + 1) scope.names (L' + 1) [] (Nat.le_refl _) .nil fun _ h => absurd h List.not_mem_nil
  have pm' : ∀ cells : Led,(os.flatten ++ (w.tp ++ (cells ++ (k.ce ++ k.ex)))).Perm (cells ++ (os.flatten ++ (w.tp ++ (k.ce ++ k.ex)))) := fun cells => (List.Perm.append_left _ (List.perm_append_comm_assoc _ _ _)).trans (List.perm_append_comm_assoc _ _ _)
  have S' : St Y' ⟨cells,k.ce ++ k.ex,bindL (envOfC qual scope L' fa cdv).kindOf ((params.args.map (·.arg)).zip us) fun _ => none⟩ w H { s with heap := h₁,toks := tk } := by
   refine ⟨F',⟨os,he,fun p hp => N' p ((pm' cells).mem_iff.mp hp),Led.nd.perm (pm' cells).symm (nd_app ?_ hd fun x hx y hy e => ?_)⟩,Nat.le_trans S.big (Nat.le_trans FG.above (Nat.le_of_lt FG.ns.lt)),S.lo⟩
   ·unfold Led.nd; rw [zcf Yc]; exact hcn
   ·have hx' : x.1 ∈ cells.map (·.1) := List.mem_map.mpr ⟨x,hx,rfl⟩
    rw [zcf Yc] at hx'
    obtain ⟨q,hq1,e1⟩ := List.mem_map.mp hx'
    exact absurd (Nat.lt_of_lt_of_le (hlt y hy) (Nat.le_of_succ_le (hcl q hq1))) (by rw [e1,e]; exact Nat.lt_irrefl _)
  have P := first_pl (Y:=Y') (gl:=gl) (fn:=fn) (ex:=k.ce ++ k.ex) hkind k8 ru (hlen.trans hnp.symm) Yc S'
  refine (all_ssnd O ih O.glob (ccOk_fn _ _ _) 40).2 _ _ hbd Y' _ _ _ _ _ _ P _ ev _ _ fun k1 w1 f1 s1 n1 r1 => ?_
  obtain ⟨hv,hH⟩ := flow_s r1 er
  obtain ⟨os1,he1,hn1,hd1⟩ := n1.pl.st.os
  rw [show k1.all w1 os1 = os1.flatten ++ (w1.tp ++ (k1.ce ++ (k.ce ++ k.ex))) from by unfold Kp.all; rw [n1.ex]] at hn1 hd1
  have sub : (k.all w1 os1).Sublist (os1.flatten ++ (w1.tp ++ (k1.ce ++ (k.ce ++ k.ex)))) := (List.Sublist.refl _).append ((List.Sublist.refl _).append (List.sublist_append_right _ _))
  exact leaveK_ n1.pl.st.fr hn1 fun F2 N2 => hq w1 _ s1 ⟨n1.le,⟨F2,⟨os1,hH ▸ he1,fun p hp => N2 p (sub.subset hp),List.Sublist.nodup (List.Sublist.map _ sub) hd1⟩,S.big,n1.pl.st.lo⟩,n1.same.1,n1.same.2⟩ hv
theorem law_runs (O : zaP C gl) {s₁ : Shared} {p : Program} {loose : List Str} {mean : ExcName -> Option Value} {mg mb : Str -> Option Value} (X : C.K.In s₁.heap) (T : Top p loose mean mg mb s₁.heap) (hbig : 4 <= s₁.heap.objs.size)
  {f : Nat} {fa : Addr} {mvs : List Val} {rv : Value} {r : Val × MH} (hf : C.ad.lookup f = some fa) (hlaw : ∀ fn,C.P.fnAt f = some fn -> fn.dfl = []) (hv : VRel C ⟨[],[]⟩ (.fl mvs) rv) (ev : zaG C.P fuel0 61 f [.fl mvs] [] = some r) {Q : Value -> Shared -> Prop} {E : Value -> Shared -> Prop}
  (hq : ∀ w v s',VRel C w r.1 v -> (∀ b o,s₁.heap.get? b = some o -> s'.heap.get? b = some o) -> s'.gens = s₁.gens -> s'.os = s₁.os -> Q v s') :
  wpAny C.M callerA (call (.ref fa) [rv]) Q E s₁ := by
 revert ev
 refine bs_r fun fn hfn => bs_r fun ws hargs => zad fun q HE ev er => ?_
 obtain ⟨hfa,ad,name,qual,params,body,scope,dV,kV,doc,pm,an,cdv,ct,oc,od,osl,k1,k2,k3,k4,k6,k7,k8,k10⟩ := O.fns _ _ hfn
 rw [hfa,hf] at k1
 cases k1
 obtain ⟨k5,k7⟩ := k7.resolve_right fun h => h.1 (hlaw fn hfn)
 obtain ⟨hkind,hgen,hco,hps,hbd,hnp⟩ := zc0 k4
 obtain ⟨hc,e⟩ := gs hargs
 have hc := Bool.and_eq_true_iff.mp hc
 rw [k5] at hc e
 rw [List.drop_nil,List.append_nil] at e
 cases e
 have hl : 1 = fn.np := Nat.le_antisymm (Nat.ble_eq.mp hc.1) (Nat.le_of_sub_eq_zero (Nat.le_zero.mp (Nat.ble_eq.mp hc.2)))
 refine wpAny_call (codeAny_call_cells (binds:=(params.args.map (·.arg)).zip [rv]) (fd:=fnOf name qual params body scope dV kV doc pm an cdv ct) (body:=body) (by decide) (X _ _ k2) rfl T.nolimit (codeRec_of X k3) rfl (k7 [rv] hl) rfl ?_ (fun s2 x => ?_) hco hgen hkind)
 ·intro y hy
  rcases hps y.1 (List.of_mem_zip hy).1 with h | h
  ·exact .inl h
  ·exact .inr ⟨h,cellsFrom_some _ _ _ (.inl h)⟩
 show wpAny C.M (callerA.deeper (envOfC qual scope s₁.heap.objs.size fa cdv)) (PySem.execs body (envOfC qual scope s₁.heap.objs.size fa cdv)) _ _ _
 have x' : InCallC s₁ s₁.heap.objs.size (bindL (envOfC qual scope s₁.heap.objs.size fa cdv).kindOf ((params.args.map (·.arg)).zip [rv]) fun _ => none) (cellsFrom (s₁.heap.objs.size + 1) scope.names []) (bindC (envOfC qual scope s₁.heap.objs.size fa cdv).kindOf ((params.args.map (·.arg)).zip [rv]) fun _ => none) s2 := x
 obtain ⟨h₁,tk,rfl,_⟩ := x.done
 have hk₁ := x'.toInCall.keep
 obtain ⟨cells,NC,Yc⟩ := Cl.news (h₀:=s₁.heap) (Nat.le_refl _) fun n c hm => ⟨x'.cell n c (lookup_of_mem_nodup (cellsFrom_names scope.names 0 (s₁.heap.objs.size + 1) [] [] rfl ▸ k10) hm),x'.above n c hm⟩
 have F' : Fr s₁.heap s₁.heap.objs.size h₁ (bindL (envOfC qual scope s₁.heap.objs.size fa cdv).kindOf ((params.args.map (·.arg)).zip [rv]) fun _ => none) := ⟨x'.toInCall.ns,hk₁,Nat.le_refl _⟩
 let Y' : Actv C 60 2 := ⟨callerA.deeper (envOfC qual scope s₁.heap.objs.size fa cdv),s₁.heap,s₁.heap.objs.size,envOfC qual scope s₁.heap.objs.size fa cdv,⟨callerA,s₁.heap,[],below_caller _,rfl⟩,X,⟨p,loose,mean,mg,mb,T⟩,rfl,hkind,rfl,(by decide : 301 + 1 + 4 * 60 + 2 + 2 <= 900),(by decide : 4 + 3 + 20 * 60 + 190 + 5 * 2 <= 9900)⟩
 have hcn := (zaZ 0 scope.names (s₁.heap.objs.size + 1) [] (Nat.zero_le _) .nil fun _ h => absurd h List.not_mem_nil).1
 have eq : (⟨cells,[],bindL (envOfC qual scope s₁.heap.objs.size fa cdv).kindOf ((params.args.map (·.arg)).zip [rv]) fun _ => none⟩ : Kp).all ⟨[],[]⟩ [] = cells := List.append_nil _
 have S' : St Y' ⟨cells,[],bindL (envOfC qual scope s₁.heap.objs.size fa cdv).kindOf ((params.args.map (·.arg)).zip [rv]) fun _ => none⟩ ⟨[],[]⟩ [] { s₁ with heap := h₁,toks := tk } :=
  ⟨F',⟨[],⟨rfl,rfl⟩,eq.symm ▸ NC,eq.symm ▸ (by unfold Led.nd; rw [zcf Yc]; exact hcn)⟩,hbig,fun _ h => absurd h List.not_mem_nil⟩
 have P := first_pl (Y:=Y') (gl:=gl) (fn:=fn) (ex:=[]) hkind k8 (.one hv) (by rw [hnp]; exact hl) Yc S'
 refine (all_ssnd O (call_snd O 60) O.glob (ccOk_fn _ _ _) 40).2 _ _ hbd Y' _ _ _ _ _ _ P _ ev _ _ fun k1 w1 f1 s1 n1 r1 => ?_
 exact hq w1 _ s1 (flow_s r1 er).1 n1.pl.st.fr.keep n1.same.1 n1.same.2
end
end Mi
namespace Mi
open PySem PySem.W PySem.Calls PyProof.Rows
noncomputable def Data.seq? (d : Data) : Option (List Value × Nat) := Data.casesOn (motive:=fun _ => Option (List Value × Nat)) d none (fun _ => none) (fun xs n => some (xs.toList,n)) (fun _ _ => none) (fun _ _ _ => none) (fun _ _ => none) (fun _ => none) (fun _ => none) (fun _ => none) (fun _ => none) none
theorem seq?_s {d : Data} {p : List Value × Nat} : Data.seq? d = some p -> d = .seq p.1.toArray p.2 := by
 cases d <;> first | exact fun e => nos e | (intro e; cases e; rfl)
noncomputable def Data.func? (d : Data) : Option FuncData := Data.casesOn (motive:=fun _ => Option FuncData) d none (fun _ => none) (fun _ _ => none) (fun _ _ => none) (fun _ _ _ => none) (fun _ _ => none) (fun _ => none) some (fun _ => none) (fun _ => none) none
theorem func?_s {d : Data} {f : FuncData} : Data.func? d = some f -> d = .func f := by
 cases d <;> first | exact fun e => nos e | (intro e; cases e; rfl)
noncomputable def Value.ref? (v : Value) : Option Addr := Value.casesOn (motive:=fun _ => Option Addr) v none none none (fun _ => none) (fun _ _ => none) (fun _ _ => none) (fun _ _ => none) (fun _ _ => none) (fun _ => none) (fun _ => none) some
theorem vref?_s {v : Value} {a : Addr} : Value.ref? v = some a -> v = .ref a := by
 cases v <;> first | exact fun e => nos e | (intro e; cases e; rfl)
noncomputable def intIs (v : Value) (i : Int) : Bool := Value.casesOn (motive:=fun _ => Bool) v false false false (fun _ => false) (fun j _ => j == i) (fun _ _ => false) (fun _ _ => false) (fun _ _ => false) (fun _ => false) (fun _ => false) (fun _ => false)
theorem intIs_s {v : Value} {i : Int} : intIs v i = true -> ∃ t,v = .int i t := by
 cases v with
 | int j t => exact fun e => ⟨t,by rw [beq_iff_eq.mp e]⟩
 | _ => exact fun e => nomatch e
noncomputable def strIs (v : Value) (s : List Nat) : Bool := Value.casesOn (motive:=fun _ => Bool) v false false false (fun _ => false) (fun _ _ => false) (fun _ _ => false) (fun x _ => x.cps.toList == s) (fun _ _ => false) (fun _ => false) (fun _ => false) (fun _ => false)
theorem strIs_s {v : Value} {s : List Nat} : strIs v s = true -> ∃ t,v = .str ⟨s.toArray⟩ t := by
 cases v with
 | str x t => exact fun e => ⟨t,by rw [<- beq_iff_eq.mp e]⟩
 | _ => exact fun e => nomatch e
noncomputable def typeIs (v : Value) (o : Option String) : Bool := Option.casesOn (motive:=fun _ => Bool) o false fun n => v == .type n
noncomputable def biIs (v : Value) (o : Option String) : Bool := Option.casesOn (motive:=fun _ => Bool) o false fun n => v == .builtin n
noncomputable def seqAt (C : Cfg) (v : Value) (n : String) : Option (List Value × Nat) := (Value.ref? v).bind fun a => (C.K.lookup a).bind fun o => grd (o.cls == .type n) (Data.seq? o.data)
inductive SeqF (C : Cfg) (v : Value) (n : String) (p : List Value × Nat) : Prop
 | mk (a : Addr) (o : Obj) (e : v = .ref a) (k : C.K.lookup a = some o) (c : o.cls = .type n) (d : o.data = .seq p.1.toArray p.2) : SeqF C v n p
theorem seqAt_s {C : Cfg} {v : Value} {n : String} {p : List Value × Nat} (h : seqAt C v n = some p) : SeqF C v n p := by
 obtain ⟨a,e1,h⟩ := bs h
 obtain ⟨o,e2,h⟩ := bs h
 obtain ⟨e3,h⟩ := gs h
 exact ⟨a,o,vref?_s e1,e2,beq_iff_eq.mp e3,seq?_s h⟩
noncomputable def all2B (f : Val -> Value -> Bool) : List Val -> List Value -> Bool
 | [],vs => vs.isEmpty
 | m :: ms,vs => List.casesOn (motive:=fun _ => Bool) vs false fun v r => f m v && all2B f ms r
noncomputable def relB (C : Cfg) : Nat -> Val -> Value -> Bool
 | 0,_,_ => false
 | k + 1,m,v => Val.casesOn (motive_1:=fun _ => Bool) m (v == .none) (fun b => v == .bool b) (fun i => intIs v i) (fun s => strIs v s && sOkB s)
  (fun ms => Option.casesOn (motive:=fun _ => Bool) (seqAt C v "tuple") false fun p => all2B (relB C k) ms p.1 && Nat.ble ms.length lim) (fun _ => false)
  (fun id => Option.casesOn (motive:=fun _ => Bool) (C.ad.lookup id) false fun a => v == .ref a) (fun c => typeIs v (tyTab.lookup c)) (fun c => biIs v (biTab.lookup c)) (fun _ => false)
  (fun ms => Option.casesOn (motive:=fun _ => Bool) (seqAt C v "list") false fun p => all2B (relB C k) ms p.1 && Nat.ble ms.length lim) (fun _ => false)
theorem zc6 {C : Cfg} {f : Val -> Value -> Bool} (hf : ∀ m v,f m v = true -> ∀ w,VRel C w m v) (w : Wd) : ∀ (ms : List Val) (vs : List Value),all2B f ms vs = true -> zaa C w ms vs := by
 intro ms
 induction ms with
 | nil => intro vs h; exact List.isEmpty_iff.mp h
 | cons m ms ih =>
  intro vs h
  cases vs with
  | nil => exact nomatch h
  | cons v r =>
   have h := Bool.and_eq_true_iff.mp h
   exact .cons (hf _ _ h.1 w) (ih r h.2)
theorem optB {α : Type} {o : Option α} {f : α -> Bool} (h : Option.casesOn (motive:=fun _ => Bool) o false f = true) : ∃ a,o = some a /\ f a = true := by
 cases o with
 | none => exact nomatch h
 | some a => exact ⟨a,rfl,h⟩
theorem relB_s {C : Cfg} : ∀ (k : Nat) (m : Val) (v : Value),relB C k m v = true -> ∀ w,VRel C w m v := by
 intro k
 induction k with
 | zero => exact fun m v h => nomatch h
 | succ k ih =>
  intro m v h w
  cases m with
  | none => exact beq_iff_eq.mp h
  | bool b => exact beq_iff_eq.mp h
  | int i => exact intIs_s h
  | str s =>
   have h := Bool.and_eq_true_iff.mp h
   obtain ⟨t,e⟩ := strIs_s h.1
   exact ⟨t,e,sOkB_s h.2⟩
  | tup ms =>
   obtain ⟨p,e,h⟩ := optB (o:=seqAt C v "tuple") h
   obtain ⟨a,o,e,q1,q2,q3⟩ := seqAt_s e
   have h := Bool.and_eq_true_iff.mp h
   exact ⟨a,o,p.2,p.1,e,⟨.inr q1,q2,q3⟩,zc6 ih w _ _ h.1,Nat.ble_eq.mp h.2⟩
  | ref a => exact nomatch h
  | top id =>
   obtain ⟨a,e,h⟩ := optB (o:=C.ad.lookup id) h
   exact ⟨a,beq_iff_eq.mp h,e⟩
  | ty c =>
   obtain ⟨n,e,h⟩ := optB (o:=tyTab.lookup c) h
   exact ⟨n,beq_iff_eq.mp h,e⟩
  | bi c =>
   obtain ⟨n,e,h⟩ := optB (o:=biTab.lookup c) h
   exact ⟨n,beq_iff_eq.mp h,e⟩
  | rng n => exact nomatch h
  | fl ms =>
   obtain ⟨p,e,h⟩ := optB (o:=seqAt C v "list") h
   obtain ⟨a,o,e,q1,q2,q3⟩ := seqAt_s e
   have h := Bool.and_eq_true_iff.mp h
   exact ⟨a,o,p.2,p.1,e,⟨q1,q2,q3⟩,zc6 ih w _ _ h.1,Nat.ble_eq.mp h.2⟩
  | setn n => exact nomatch h
section
variable {C : Cfg} {gl : List (Str × Val)}
noncomputable def oo (o : Option (Option Value)) (f : Value -> Bool) (g : Bool) : Bool := Option.casesOn (motive:=fun _ => Bool) o false fun x => Option.casesOn (motive:=fun _ => Bool) x g f
theorem oo_s {o : Option (Option Value)} {f : Value -> Bool} {g : Bool} (h : oo o f g = true) : (∃ v,o = some (some v) /\ f v = true) \/ o = some none /\ g = true := by
 rcases o with _ | _ | v
 ·exact nomatch h
 ·exact .inr ⟨rfl,h⟩
 ·exact .inl ⟨v,rfl,h⟩
noncomputable def glB (C : Cfg) (p : Str × Val) : Bool := oo (nsIn C.K mainGlobals p.1) (relB C 5 p.2) (!(p.1 == "__name__") && oo (some (bootBuiltins p.1)) (relB C 5 p.2) false)
theorem glB_s {p : Str × Val} (h : glB C p = true) : ∃ rv,GlR C p rv := by
 rcases oo_s h with ⟨v,e,h⟩ | ⟨e,h⟩
 ·exact ⟨v,relB_s _ _ _ h,.inl e⟩
 ·have h := Bool.and_eq_true_iff.mp h
  rcases oo_s h.2 with ⟨v,e2,h2⟩ | ⟨_,h2⟩
  ·exact ⟨v,relB_s _ _ _ h2,.inr ⟨e,fun q => by rw [q] at h; exact absurd h.1 (by decide +kernel),Option.some.inj e2⟩⟩
  ·exact nomatch h2
noncomputable def nmAt (nms : List Str) (n : Nat) : Option Str := nms.find? fun x => enc x == n && zae x
theorem nmAt_s {nms : List Str} {n : Nat} {x : Str} (h : nmAt nms n = some x) : zae x = true /\ enc x = n := by
 have h : (enc x == n && zae x) = true := List.find?_some (p:=fun x => enc x == n && zae x) h
 have h := Bool.and_eq_true_iff.mp h
 exact ⟨h.2,beq_iff_eq.mp h.1⟩
noncomputable def nameB (C : Cfg) (nms : List Str) (c n : Nat) (f : Addr -> Str -> Bool) : Bool := Option.casesOn (motive:=fun _ => Bool) (C.ad.lookup c) false fun ca => Option.casesOn (motive:=fun _ => Bool) (nmAt nms n) false fun x => plainGet C.K ca x && hasDictIn C.K ca && f ca x
theorem nameB_s {nms : List Str} {c n : Nat} {f : Addr -> Str -> Bool} {P : Addr -> Str -> Prop} (hf : ∀ a x,f a x = true -> P a x) (h : nameB C nms c n f = true) : zba C c n P := by
 obtain ⟨ca,e1,h⟩ := optB h
 obtain ⟨x,e2,h⟩ := optB h
 have h := Bool.and_eq_true_iff.mp h
 have h' := Bool.and_eq_true_iff.mp h.1
 exact ⟨ca,x,e1,(nmAt_s e2).1,(nmAt_s e2).2,h'.1,h'.2,hf _ _ h.2⟩
noncomputable def cfIs (o : Option CFound) (v : Value) : Bool := Option.casesOn (motive:=fun _ => Bool) o false fun x => CFound.casesOn (motive:=fun _ => Bool) x (fun u => u == v) fun _ _ _ _ => false
theorem cfIs_s {o : Option CFound} {v : Value} (h : cfIs o v = true) : o = some (.val v) := by
 rcases o with _ | _ | _
 ·exact nomatch h
 ·rw [beq_iff_eq.mp h]
 ·exact nomatch h
noncomputable def attrB (C : Cfg) (v : Val) (ca : Addr) (x : Str) : Bool := oo (findIn C.K (.ref ca) x) (fun av => relB C 5 v av && bif isFnV C.P v then
 isFn C.K av && (specialIn C.K (.ref ca) "__getattribute__" == some (some (.builtin "type.__getattribute__")) && Option.casesOn (motive:=fun _ => Bool) (typeIn C.K (.ref ca)) false fun mc => readsIn C.K ca mc && cfIs (findCls C.K (.ref ca) mc x) av)
 else specialIn C.K av "__get__" == some none && (handedIn av && !copiedNames.contains x)) false
theorem attrB_s {v : Val} {ca : Addr} {x : Str} (h : attrB C v ca x = true) : AttrP C v ca x := by
 rcases oo_s h with ⟨av,e,h⟩ | ⟨_,h⟩
 ·have h := Bool.and_eq_true_iff.mp h
  refine ⟨av,e,relB_s _ _ _ h.1,fun hi => ?_,fun hi => ?_⟩
  ·rw [hi] at h
   have h1 := Bool.and_eq_true_iff.mp h.2
   have h2 := Bool.and_eq_true_iff.mp h1.2
   obtain ⟨mc,e3,h3⟩ := optB h2.2
   have h3 := Bool.and_eq_true_iff.mp h3
   exact ⟨h1.1,beq_iff_eq.mp h2.1,mc,e3,h3.1,cfIs_s h3.2⟩
  ·rw [hi] at h
   have h1 := Bool.and_eq_true_iff.mp h.2
   have h2 := Bool.and_eq_true_iff.mp h1.2
   exact ⟨beq_iff_eq.mp h1.1,h2.1,Bool.not_eq_true' _ ▸ h2.2⟩
 ·exact nomatch h
noncomputable def fldB (C : Cfg) (ca : Addr) (x : Str) : Bool := Option.casesOn (motive:=fun _ => Bool) (findIn C.K (.ref ca) x) false fun at' => noGet C.K at' && (takerIn C.K ca x == some none && (findIn C.K (.ref ca) "__setattr__" == some (some (.builtin "object.__setattr__")) && plainOver C.K ca))
theorem fldB_s {ca : Addr} {x : Str} (h : fldB C ca x = true) : FldP C ca x := by
 obtain ⟨at',e,h⟩ := optB h
 have h := Bool.and_eq_true_iff.mp h
 have h2 := Bool.and_eq_true_iff.mp h.2
 have h3 := Bool.and_eq_true_iff.mp h2.2
 exact ⟨at',e,h.1,beq_iff_eq.mp h2.1,beq_iff_eq.mp h3.1,h3.2⟩
noncomputable def initB (C : Cfg) (c i : Nat) : Bool := Option.casesOn (motive:=fun _ => Bool) (C.ad.lookup c) false fun ca => Option.casesOn (motive:=fun _ => Bool) (C.ad.lookup i) false fun fI => makesIn C.K ca && (findIn C.K (.ref ca) "__init__" == some (some (.ref fI)) && (isFn C.K (.ref fI) && keepIn C.K (.ref ca)))
theorem initB_s {c i : Nat} (h : initB C c i = true) : zc9 C c i := by
 obtain ⟨ca,e1,h⟩ := optB h
 obtain ⟨fI,e2,h⟩ := optB h
 have h := Bool.and_eq_true_iff.mp h
 have h2 := Bool.and_eq_true_iff.mp h.2
 have h3 := Bool.and_eq_true_iff.mp h2.2
 exact ⟨ca,fI,e1,e2,h.1,beq_iff_eq.mp h2.1,h3.1,h3.2⟩
noncomputable def clB (C : Cfg) (nms : List Str) (k : Cl) : Bool := (k.attrs.all fun p => nameB C nms k.addr p.1 (attrB C p.2)) && ((k.flds.all fun n => nameB C nms k.addr n (fldB C)) && (k.init.all fun i => initB C k.addr i))
theorem fm_congr {α β : Type} {f g : α -> Option β} : ∀ {l : List α},(∀ x ∈ l,f x = g x) -> l.filterMap f = l.filterMap g := by
 intro l
 induction l with
 | nil => exact fun _ => rfl
 | cons x l ih => intro h; rw [List.filterMap_cons,List.filterMap_cons,h x (.head _),ih fun y hy => h y (.tail _ hy)]
theorem zip_look {xs : List Str} : ∀ {vs : List Value},xs.Nodup -> vs.length = xs.length -> (∀ n ∈ xs,((xs.zip vs).lookup n).isSome = true) /\ (xs.filterMap fun n => ((xs.zip vs).lookup n).map (n,·)) = xs.zip vs := by
 induction xs with
 | nil => exact fun _ _ => ⟨fun _ h => absurd h List.not_mem_nil,rfl⟩
 | cons x xs ih =>
  intro vs nd hl
  cases vs with
  | nil => exact nomatch hl
  | cons v vs =>
   have nd := List.nodup_cons.mp nd
   obtain ⟨i1,i2⟩ := ih (vs:=vs) nd.2 (Nat.succ.inj hl)
   have ne : ∀ n ∈ xs,(((x :: xs).zip (v :: vs)).lookup n) = (xs.zip vs).lookup n := fun n hn => by
    rw [List.zip_cons_cons,List.lookup_cons,beq_false_of_ne (show n ≠ x from fun e => nd.1 (e ▸ hn))]
   refine ⟨fun n hn => ?_,?_⟩
   ·rcases List.mem_cons.mp hn with rfl | hn
    ·rw [List.zip_cons_cons,List.lookup_cons,beq_self_eq_true]; rfl
    ·rw [ne n hn]; exact i1 n hn
   ·have e3 : (xs.filterMap fun n => (((x :: xs).zip (v :: vs)).lookup n).map (n,·)) = xs.filterMap fun n => ((xs.zip vs).lookup n).map (n,·) := fm_congr fun n hn => by rw [ne n hn]
    rw [List.filterMap_cons,e3,i2,List.zip_cons_cons,List.lookup_cons,beq_self_eq_true]; rfl
theorem bind_plain {fd : FuncData} {vs : List Value} (h1 : fd.params.posonlyargs = []) (h2 : fd.params.vararg = none) (h3 : fd.params.kwonlyargs = []) (h4 : fd.params.kwarg = none) (hd : fd.defaults = .none) (hl : vs.length = (fd.params.args.map (·.arg)).length) (nd : (fd.params.args.map (·.arg)).Nodup) :
  bindArgs fd ⟨vs,[]⟩ = pure ((fd.params.args.map (·.arg)).zip vs) := by
 obtain ⟨e1,e2⟩ := zip_look nd hl
 unfold bindArgs
 have e3 : ((fd.params.args.map (·.arg)).take (fd.params.args.map (·.arg)).length).filter (fun n => (((fd.params.args.map (·.arg)).zip vs).lookup n).isNone) = [] := by
  rw [List.take_length,List.filter_eq_nil_iff]
  intro n hn
  rw [Option.isNone_iff_eq_none]
  intro q
  have := e1 n hn
  rw [q] at this
  exact nomatch this
 generalize hx : fd.params.args.map (·.arg) = xs at *
 have g1 : (decide (vs.length > xs.length) && (Option.none : Option Arg).isNone) = false := by rw [hl,decide_eq_false (Nat.lt_irrefl _)]; rfl
 have g2 : ((Option.none : Option (Array Value)).getD #[]).toList = [] := rfl
 simp only [hx,h1,h2,h3,h4,hd,List.map_nil,List.nil_append,List.append_nil,List.forIn_nil,pure_bind,seqItems?,notAStandIn,g1,g2,List.drop_nil,List.length_nil,Nat.sub_zero,e3,List.isEmpty_nil,Bool.not_true,Bool.false_eq_true,if_false,List.zip_nil_right,e2]
noncomputable def stm? (b : FuncBody) : Option (List Stmt) := FuncBody.casesOn (motive:=fun _ => Option (List Stmt)) b some (fun _ => none)
theorem stm?_s {b : FuncBody} {l : List Stmt} : stm? b = some l -> b = .stmts l := by
 cases b <;> first | exact fun e => nos e | (intro e; cases e; rfl)
structure FdP where
 a : Addr
 o : Obj
 fd : FuncData
noncomputable def fdAt (C : Cfg) (f : Fn) : Option FdP := (C.ad.lookup f.addr).bind fun a => (C.K.lookup a).bind fun o => (Data.func? o.data).map fun fd => ⟨a,o,fd⟩
noncomputable def cmpl (C : Cfg) (gl : List (Str × Val)) (f : Fn) : Option (Nat × Nat × List Sm) := (fdAt C f).bind fun p => (stm? p.fd.body).bind fun b => compFn gl p.fd.params b p.fd.scope
noncomputable def ndB {α : Type} [BEq α] : List α -> Bool
 | [] => true
 | a :: r => !r.contains a && ndB r
theorem ndB_s {α : Type} [BEq α] [LawfulBEq α] : ∀ {l : List α},ndB l = true -> l.Nodup := by
 intro l
 induction l with
 | nil => exact fun _ => List.nodup_nil
 | cons a r ih =>
  intro h
  have h := Bool.and_eq_true_iff.mp h
  refine List.nodup_cons.mpr ⟨fun hm => ?_,ih h.2⟩
  rw [List.contains_iff_mem.mpr hm] at h
  exact nomatch h.1
noncomputable def plainB (fd : FuncData) : Bool := fd.params.posonlyargs.isEmpty && (fd.params.vararg.isNone && (fd.params.kwonlyargs.isEmpty && (fd.params.kwarg.isNone && fd.defaults == .none)))
noncomputable def fnB (C : Cfg) (f : Fn) : Bool := Option.casesOn (motive:=fun _ => Bool) (fdAt C f) false fun p => (p.fd.globals == mainGlobals && (p.fd.closure.isEmpty && (p.fd.builtins == builtinsNs && (codeIn C.K p.fd.code p.fd.qualname && keepIn C.K (.ref p.a))))) && ((ndB (p.fd.params.args.map (·.arg)) && ndB ((cellsFrom 0 p.fd.scope.names []).map (·.1))) && (!f.dfl.isEmpty || plainB p.fd))
noncomputable def DflOk (C : Cfg) (f : Fn) : Prop := f.dfl ≠ [] -> ∀ p,fdAt C f = some p -> ArgFact C f p.fd (p.fd.params.args.map (·.arg))
theorem fnB_s {f : Fn} (h : fnB C f = true) (hc : cmpl C gl f = some (f.np,f.ns,f.body)) (hD : DflOk C f) : FnFact C gl f := by
 obtain ⟨p,e,h⟩ := optB h
 unfold cmpl at hc
 rw [e] at hc
 obtain ⟨b,eb,hc⟩ := bs (show ((stm? p.fd.body).bind fun b => compFn gl p.fd.params b p.fd.scope) = _ from hc)
 have hD := fun h => hD h p e
 obtain ⟨a,e1,e⟩ := bs e
 obtain ⟨o,e2,e⟩ := bs e
 obtain ⟨fd,e3,rfl⟩ := ms e
 have h := Bool.and_eq_true_iff.mp h
 have h1 := Bool.and_eq_true_iff.mp h.1
 have h2 := Bool.and_eq_true_iff.mp h1.2
 have h3 := Bool.and_eq_true_iff.mp h2.2
 have h4 := Bool.and_eq_true_iff.mp h3.2
 have h5 := Bool.and_eq_true_iff.mp h.2
 have h6 := Bool.and_eq_true_iff.mp h5.1
 have nd := ndB_s h6.1
 have ef : fd = fnOf fd.name fd.qualname fd.params b fd.scope fd.defaults fd.kwdefaults fd.doc fd.pyModule fd.annotations fd.code fd.closureTuple := by
  have k1 := beq_iff_eq.mp h1.1
  have k2 := List.isEmpty_iff.mp h2.1
  have k3 := beq_iff_eq.mp h3.1
  have k4 := stm?_s eb
  obtain ⟨x1,x2,x3,x4,x5,x6,x7,x8,x9,x10,x11,x12,x13,x14,x15⟩ := fd
  cases k1; cases k2; cases k3; cases k4
  rfl
 refine ⟨a,fd.name,fd.qualname,fd.params,b,fd.scope,fd.defaults,fd.kwdefaults,fd.doc,fd.pyModule,fd.annotations,fd.code,fd.closureTuple,o.cls,o.dict,o.slots,e1,?_,h4.1,hc,h4.2,?_,nd,ndB_s h6.2⟩
 ·rw [<- ef,<- func?_s e3]; exact e2
 ·rw [<- ef]
  by_cases hd : f.dfl = []
  ·have h7 := (Bool.or_eq_true_iff.mp h5.2).resolve_left (by rw [hd]; exact fun h => nomatch h)
   have h7 := Bool.and_eq_true_iff.mp h7
   have h8 := Bool.and_eq_true_iff.mp h7.2
   have h9 := Bool.and_eq_true_iff.mp h8.2
   have h10 := Bool.and_eq_true_iff.mp h9.2
   obtain ⟨_,_,_,_,_,np⟩ := zc0 hc
   exact .inl ⟨hd,fun vs hl => bind_plain (List.isEmpty_iff.mp h7.1) (Option.isNone_iff_eq_none.mp h8.1) (List.isEmpty_iff.mp h9.1) (Option.isNone_iff_eq_none.mp h10.1) (beq_iff_eq.mp h10.2) (hl.trans np.symm) nd⟩
  ·exact hD hd
noncomputable def plainO (o : Obj) : Bool := Data.casesOn (motive:=fun _ => Bool) o.data true (fun _ => false) (fun _ _ => false) (fun _ _ => false) (fun _ _ _ => false) (fun _ _ => false) (fun _ => false) (fun _ => false) (fun _ => false) (fun _ => false) false
noncomputable def emptyD (o : Obj) : Bool := Data.casesOn (motive:=fun _ => Bool) o.data false (fun _ => false) (fun _ _ => false) (fun es _ => es.isEmpty) (fun _ _ _ => false) (fun _ _ => false) (fun _ => false) (fun _ => false) (fun _ => false) (fun _ => false) false
noncomputable def instB (C : Cfg) (p : Nat × Nat) : Bool := Option.casesOn (motive:=fun _ => Bool) (C.ad.lookup p.1) false fun a => Option.casesOn (motive:=fun _ => Bool) (C.ad.lookup p.2) false fun ca => Option.casesOn (motive:=fun _ => Bool) (C.K.lookup a) false fun o => Option.casesOn (motive:=fun _ => Bool) o.dict false fun dx =>
 Option.casesOn (motive:=fun _ => Bool) (C.K.lookup dx) false fun o' => (o.cls == .ref ca && (plainO o && o.slots.isEmpty)) && ((o'.cls == .type "dict" && o'.dict.isNone) && (emptyD o' && o'.slots.isEmpty))
theorem plainO_s {o : Obj} (h : plainO o = true) : o.data = .plain := by
 obtain ⟨c,d,x,s⟩ := o
 cases x <;> first | rfl | exact nomatch h
theorem emptyD_s {o : Obj} (h : emptyD o = true) : ∃ n,o.data = .dict #[] n := by
 obtain ⟨c,d,x,s⟩ := o
 cases x with
 | dict es n => exact ⟨n,by rw [Array.isEmpty_iff.mp h]⟩
 | _ => exact nomatch h
theorem instB_s {p : Nat × Nat} (h : instB C p = true) : zc8 C p.1 p.2 := by
 obtain ⟨a,e1,h⟩ := optB h
 obtain ⟨ca,e2,h⟩ := optB h
 obtain ⟨o,e3,h⟩ := optB h
 obtain ⟨dx,e4,h⟩ := optB h
 obtain ⟨o',e5,h⟩ := optB h
 have h := Bool.and_eq_true_iff.mp h
 have h1 := Bool.and_eq_true_iff.mp h.1
 have h2 := Bool.and_eq_true_iff.mp h1.2
 have h3 := Bool.and_eq_true_iff.mp h.2
 have h4 := Bool.and_eq_true_iff.mp h3.1
 have h5 := Bool.and_eq_true_iff.mp h3.2
 obtain ⟨n,e6⟩ := emptyD_s h5.1
 refine ⟨a,ca,dx,n,e1,e2,?_,?_⟩
 ·rw [e3,<- beq_iff_eq.mp h1.1,<- e4,<- plainO_s h2.1,<- Array.isEmpty_iff.mp h2.2]
 ·obtain ⟨c,d,x,s⟩ := o'
  cases beq_iff_eq.mp h4.1; cases Option.isNone_iff_eq_none.mp h4.2; cases e6; cases Array.isEmpty_iff.mp h5.2
  exact e5
noncomputable def adB (C : Cfg) : Bool := C.ad.all fun p => Option.casesOn (motive:=fun _ => Bool) (C.K.lookup p.2) false fun o => !(o.cls == .type "tuple")
noncomputable def lowB (C : Cfg) : Bool := (C.K.lookup 0).isSome && ((C.K.lookup 1).isSome && ((C.K.lookup 2).isSome && (C.K.lookup 3).isSome))
theorem inj_mem {l : List (Nat × Addr)} : (l.map (·.2)).Nodup -> ∀ {i j : Nat} {a : Addr},(i,a) ∈ l -> (j,a) ∈ l -> i = j := by
 induction l with
 | nil => exact fun _ _ _ _ h _ => absurd h List.not_mem_nil
 | cons p r ih =>
  intro hn i j a h1 h2
  have hn := List.nodup_cons.mp hn
  rcases List.mem_cons.mp h1 with h1 | h1 <;> rcases List.mem_cons.mp h2 with h2 | h2
  ·exact congrArg (·.1) (h1.trans h2.symm)
  ·exact absurd (List.mem_map.mpr ⟨(j,a),h2,show a = p.2 from congrArg (fun q : Nat × Addr => q.2) h1⟩) hn.1
  ·exact absurd (List.mem_map.mpr ⟨(i,a),h1,show a = p.2 from congrArg (fun q : Nat × Addr => q.2) h2⟩) hn.1
  ·exact ih hn.2 h1 h2
theorem cfg_of (h1 : adB C = true) (h2 : ndB (C.ad.map (·.2)) = true) (h3 : lowB C = true) : zda C := by
 refine ⟨fun id a h => ?_,fun i j a hi hj => inj_mem (ndB_s h2) (zam hi) (zam hj),fun b hb => ?_⟩
 ·obtain ⟨o,e,h⟩ := optB (List.all_eq_true.mp h1 _ (zam h))
  exact ⟨o,e,fun hc => by rw [hc] at h; exact absurd h (by decide +kernel)⟩
 ·have h3 := Bool.and_eq_true_iff.mp h3
  have h4 := Bool.and_eq_true_iff.mp h3.2
  have h5 := Bool.and_eq_true_iff.mp h4.2
  rcases b with _ | _ | _ | _ | b
  ·exact Option.isSome_iff_exists.mp h3.1
  ·exact Option.isSome_iff_exists.mp h4.1
  ·exact Option.isSome_iff_exists.mp h5.1
  ·exact Option.isSome_iff_exists.mp h5.2
  ·exact absurd hb (Nat.not_lt.mpr (Nat.le_add_left 4 b))
theorem tab_of {nms : List Str} (hc : C.P.fns.map (cmpl C gl) = C.P.fns.map fun f => some (f.np,f.ns,f.body)) (hf : C.P.fns.all (fnB C) = true) (hD : ∀ f ∈ C.P.fns,DflOk C f) (hg : gl.all (glB C) = true) (hi : C.P.insts.all (instB C) = true) (hk : C.P.cls.all (clB C nms) = true) (h5 : zda C) (h6 : SrtOk C) : zaP C gl := by
 have cls : ∀ {c k},C.P.clsAt c = some k -> k.addr = c /\ clB C nms k = true := fun {c k} h => ⟨beq_iff_eq.mp (List.find?_some (p:=fun x : Cl => x.addr == c) h),List.all_eq_true.mp hk k (List.mem_of_find?_eq_some h)⟩
 refine ⟨fun x v h => glB_s (List.all_eq_true.mp hg (x,v) (zam h)),fun a f h => ?_,fun id c h => ?_,fun c n v h => ?_,fun c n h => ?_,fun c k i h hi => ?_,h5,h6⟩
 ·have hm := List.mem_of_find?_eq_some h
  exact ⟨beq_iff_eq.mp (List.find?_some (p:=fun f : Fn => f.addr == a) h),fnB_s (List.all_eq_true.mp hf f hm) (List.map_inj_left.mp hc f hm) (hD f hm)⟩
 ·obtain ⟨p,hp,rfl⟩ := ms h
  rw [<- beq_iff_eq.mp (List.find?_some (p:=fun p : Nat × Nat => p.1 == id) hp)]
  exact instB_s (List.all_eq_true.mp hi p (List.mem_of_find?_eq_some hp))
 ·obtain ⟨k,hk,h⟩ := bs h
  obtain ⟨p,hp,rfl⟩ := ms h
  obtain ⟨e,hb⟩ := cls hk
  rw [<- e,<- beq_iff_eq.mp (List.find?_some (p:=fun p : Nat × Val => p.1 == n) hp)]
  exact nameB_s (fun _ _ => attrB_s) (List.all_eq_true.mp (Bool.and_eq_true_iff.mp hb).1 p (List.mem_of_find?_eq_some hp))
 ·unfold Prg.hasFld at h
  cases hk : C.P.clsAt c with
  | none => rw [hk] at h; exact nomatch h
  | some k =>
   rw [hk] at h
   obtain ⟨e,hb⟩ := cls hk
   rw [<- e]
   exact nameB_s (fun _ _ => fldB_s) (List.all_eq_true.mp (Bool.and_eq_true_iff.mp (Bool.and_eq_true_iff.mp hb).2).1 n (List.contains_iff_mem.mp h))
 ·obtain ⟨e,hb⟩ := cls h
  have := (Bool.and_eq_true_iff.mp (Bool.and_eq_true_iff.mp hb).2).2
  rw [hi] at this
  rw [<- e]
  exact initB_s this
end
end Mi
namespace Mi
structure W {α : Type} (o : Option (α × MH)) (Q : α -> MH -> Prop) : Prop where
 w : Option.casesOn (motive:=fun _ => Prop) o False fun p => Q p.1 p.2
structure Wo {α : Type} (o : Option α) (Q : α -> Prop) : Prop where
 w : Option.casesOn (motive:=fun _ => Prop) o False Q
section
variable {α β : Type} {o : Option (α × MH)} {Q : α -> MH -> Prop}
theorem W.get (h : W o Q) : ∃ a g,o = some (a,g) /\ Q a g := by
 cases o with
 | none => exact h.w.elim
 | some p => exact ⟨p.1,p.2,rfl,h.w⟩
theorem W.mono {Q' : α -> MH -> Prop} (h : W o Q) (i : ∀ a g,Q a g -> Q' a g) : W o Q' := by
 cases o with
 | none => exact ⟨h.w⟩
 | some p => exact ⟨i _ _ h.w⟩
theorem W.of {a : α} {g : MH} (e : o = some (a,g)) (q : Q a g) : W o Q := by subst e; exact ⟨q⟩
theorem zaE {a : α} {g : MH} (q : Q a g) : W (some (a,g)) Q := ⟨q⟩
theorem zai {f : α -> MH -> Option (β × MH)} {R : β -> MH -> Prop} (h : W o fun a g => W (f a g) R) : W (bnd o f) R := by
 cases o with
 | none => exact h.w.elim
 | some p => exact h.w
theorem wo_some {b : β} {P : β -> Prop} (q : P b) : Wo (some b) P := ⟨q⟩
theorem zb1 {x : Option β} {f : β -> Option (α × MH)} (h : Wo x fun b => W (f b) Q) : W (x.bind f) Q := by
 cases x with
 | none => exact h.w.elim
 | some b => exact h.w
theorem w_map {x : Option β} {f : β -> α × MH} (h : Wo x fun b => Q (f b).1 (f b).2) : W (x.map f) Q := by
 cases x with
 | none => exact h.w.elim
 | some b => exact ⟨h.w⟩
theorem w_grd {b : Bool} (hb : b = true) (h : W o Q) : W (grd b o) Q := by subst hb; exact h
theorem w_alt {o' : Option (α × MH)} (h : W o Q) : W (alt o o') Q := by
 cases o with
 | none => exact h.w.elim
 | some p => exact ⟨h.w⟩
theorem Wo.mono {o : Option β} {P P' : β -> Prop} (h : Wo o P) (i : ∀ a,P a -> P' a) : Wo o P' := by
 cases o with
 | none => exact ⟨h.w⟩
 | some a => exact ⟨i a h.w⟩
theorem Wo.of {o : Option β} {P : β -> Prop} {a : β} (e : o = some a) (q : P a) : Wo o P := by subst e; exact ⟨q⟩
theorem zbl {p : Option (Val × MH)} {Q : Bool -> MH -> Prop} (h : W p fun v g => Wo (truthy g v) fun b => Q b g) : W (zas p) Q := zai (h.mono fun v g h => w_map (f:=fun b => (b,g)) h)
end
noncomputable def WB (op : BOp) (x y : Val) (h : MH) (Q : Val -> MH -> Prop) : Prop := W (binop op x y h) Q
noncomputable def WC (op : COp) (x y : Val) (h : MH) (Q : Val -> MH -> Prop) : Prop := Wo (cmpop op x y h) fun r => Q (.bool r) h
noncomputable def WT (x : Val) (h : MH) (Q : Bool -> Prop) : Prop := Wo (truthy h x) Q
noncomputable def WI (o k : Val) (h : MH) (Q : Val -> MH -> Prop) : Prop := Wo (subscr h o k) fun v => Q v h
noncomputable def WA (P : Prg) (o : Val) (n : Nat) (h : MH) (Q : Val -> MH -> Prop) : Prop := Wo (getAttr P h o n) fun v => Q v h
noncomputable def WSl (o : Val) (k : Nat) (bs : List Val) (h : MH) (Q : Val -> MH -> Prop) : Prop := W (slice h o k bs) Q
noncomputable def WV (c : Cx) (f : Val) (as : List Val) (h : MH) (Q : Val -> MH -> Prop) : Prop := W (callV c f as h) Q
noncomputable def WM (c : Cx) (o : Val) (n : Nat) (as : List Val) (h0 h : MH) (Q : Val -> MH -> Prop) : Prop := W (callM c o n as h0 h) Q
noncomputable def WSt (c : Cx) (ts : List T1) (vs : List Val) (fr : Frame) (h : MH) (Q : Frame -> MH -> Prop) : Prop := W (zbc c ts vs fr h) Q
noncomputable def Br (r : Bool) (A B : Prop) : Prop := (r = true -> A) /\ (r = false -> B)
theorem br {r : Bool} {A B : Prop} (a : r = true -> A) (b : r = false -> B) : Br r A B := ⟨a,b⟩
theorem br_t {A B : Prop} (a : A) : Br true A B := ⟨fun _ => a,fun h => nomatch h⟩
theorem br_f {A B : Prop} (b : B) : Br false A B := ⟨fun h => (nomatch h : False).elim,fun _ => b⟩
theorem za0 {r s : Bool} {A B : Prop} (e : r = s) (q : Br s A B) : Br r A B := e ▸ q
noncomputable abbrev Cxd (P : Prg) (d : Nat) : Cx := ⟨P,200000,zaG P 200000 d⟩
section
variable {c : Cx} {fr : Frame} {h : MH} {Q : Val -> MH -> Prop} {P : Prg} {d : Nat}
noncomputable def WE (c : Cx) (fr : Frame) (e : Ex) (h : MH) (Q : Val -> MH -> Prop) : Prop := W (eval c e fr h) Q
noncomputable def WEs (c : Cx) (fr : Frame) (es : List Ex) (h : MH) (Q : List Val -> MH -> Prop) : Prop := W (zbS c es fr h) Q
theorem we_var {x : Nat} {v : Val} (hx : fr[x]? = some (some v)) (q : Q v h) : WE c fr (.var x) h Q := by
 show W ((fr[x]?).bind fun o => o.map fun v => (v,h)) Q
 rw [hx]; exact ⟨q⟩
theorem we_lit {v : Val} (q : Q v h) : WE c fr (.lit v) h Q := zaE q
theorem wes_nil {Q : List Val -> MH -> Prop} (q : Q [] h) : WEs c fr [] h Q := zaE q
theorem wes_cons {Q : List Val -> MH -> Prop} {e : Ex} {r : List Ex} (q : WE c fr e h fun v h1 => WEs c fr r h1 fun vs h2 => Q (v :: vs) h2) : WEs c fr (e :: r) h Q := zai (W.mono q fun v h1 q => zai (W.mono q fun _ _ q => zaE q))
theorem we_list {es : List Ex} (q : WEs c fr es h fun vs h1 => Q (.ref h1.length) (h1 ++ [.list vs])) : WE c fr (.list es) h Q := zai (W.mono q fun _ _ q => zaE q)
theorem we_tup {es : List Ex} (q : WEs c fr es h fun vs h1 => Q (.tup vs) h1) : WE c fr (.tup es) h Q := zai (W.mono q fun _ _ q => zaE q)
theorem we_dict {es : List Ex} (hl : Nat.ble es.length 30 = true) (q : WEs c fr es h fun vs h1 => Wo (dpairs vs []) fun ps => Q (.ref h1.length) (h1 ++ [.dict (some ps.length) ps])) : WE c fr (.dict es) h Q := zai (W.mono q fun vs h1 q => zb1 (Wo.mono q fun ps q => w_grd hl (zaE q)))
theorem we_bin {op : BOp} {a b : Ex} (q : WE c fr a h fun x h1 => WE c fr b h1 fun y h2 => WB op x y h2 Q) : WE c fr (.bin op a b) h Q := zai (W.mono q fun x h1 q => zai q)
theorem we_not {a : Ex} (q : WE c fr a h fun x h1 => WT x h1 fun b => Q (.bool (!b)) h1) : WE c fr (.not a) h Q := zai (zbl (W.mono q fun _ _ q => Wo.mono q fun _ q => zaE q))
theorem we_cmp {op : COp} {a b : Ex} (q : WE c fr a h fun x h1 => WE c fr b h1 fun y h2 => WC op x y h2 Q) : WE c fr (.cmp op a b) h Q := zai (W.mono q fun x h1 q => zai (W.mono q fun y h2 q => w_map (f:=fun r => (Val.bool r,h2)) q))
theorem br_use {α : Type} {r : Bool} {a b : Option (α × MH)} {Q : α -> MH -> Prop} (q : Br r (W a Q) (W b Q)) : W (bif r then a else b) Q := by
 cases r with
 | true => exact q.1 rfl
 | false => exact q.2 rfl
theorem we_ite {t a b : Ex} (q : WE c fr t h fun x h1 => WT x h1 fun r => Br r (WE c fr a h1 Q) (WE c fr b h1 Q)) : WE c fr (.ite t a b) h Q := zai (zbl (W.mono q fun x h1 q => Wo.mono q fun r q => br_use q))
theorem we_attr {e : Ex} {n : Nat} (q : WE c fr e h fun o h1 => WA c.P o n h1 Q) : WE c fr (.attr e n) h Q := zai (W.mono q fun o h1 q => w_map (f:=fun v => (v,h1)) q)
theorem we_sub {e i : Ex} (q : WE c fr e h fun o h1 => WE c fr i h1 fun k h2 => WI o k h2 Q) : WE c fr (.sub e i) h Q := zai (W.mono q fun o h1 q => zai (W.mono q fun k h2 q => w_map (f:=fun v => (v,h2)) q))
theorem we_slice {e : Ex} {k : Nat} {bs : List Ex} (q : WE c fr e h fun o h1 => WEs c fr bs h1 fun vs h2 => WSl o k vs h2 Q) : WE c fr (.slice e k bs) h Q := zai (W.mono q fun o h1 q => zai q)
theorem we_call {f : Ex} {as : List Ex} (q : WE c fr f h fun g h1 => WEs c fr as h1 fun vs h2 => WV c g vs h2 Q) : WE c fr (.call f as) h Q := zai (W.mono q fun o h1 q => zai q)
theorem we_meth {o : Ex} {n : Nat} {as : List Ex} (q : WE c fr o h fun g h1 => WEs c fr as h1 fun vs h2 => WM c g n vs h1 h2 Q) : WE c fr (.meth o n as) h Q := zai (W.mono q fun o h1 q => zai q)
theorem we_bop1 {st : Bool} {e : Ex} (q : WE c fr e h Q) : WE c fr (.bop st [e]) h Q := zai (f:=fun v h1 => some (v,h1)) (W.mono q fun _ _ q => zaE q)
theorem we_bop {st : Bool} {e f : Ex} {r : List Ex} (q : WE c fr e h fun v h1 => WT v h1 fun b => Br (b == st) (Q v h1) (WE c fr (.bop st (f :: r)) h1 Q)) : WE c fr (.bop st (e :: f :: r)) h Q := zai (f:=fun v h1 => (truthy h1 v).bind fun b => bif b == st then some (v,h1) else evalB c st (f :: r) fr h1) (W.mono q fun v h1 q => zb1 (Wo.mono q fun b q => br_use ⟨fun h => zaE (q.1 h),q.2⟩))
variable {R : Fl -> Frame -> MH -> Prop}
noncomputable def WS (c : Cx) (s : Sm) (fr : Frame) (h : MH) (R : Fl -> Frame -> MH -> Prop) : Prop := W (exec c s fr h) fun p h => R p.1 p.2 h
noncomputable def WSs (c : Cx) (s : List Sm) (fr : Frame) (h : MH) (R : Fl -> Frame -> MH -> Prop) : Prop := W (execs c s fr h) fun p h => R p.1 p.2 h
theorem zcA (q : R .nx fr h) : WSs c [] fr h R := zaE (a:=(Fl.nx,fr)) q
noncomputable def Beh (c : Cx) (r : List Sm) (R : Fl -> Frame -> MH -> Prop) (fl : Fl) (fr : Frame) (h : MH) : Prop := Fl.casesOn (motive:=fun _ => Prop) fl (WSs c r fr h R) (R .bk fr h) (R .ct fr h) fun v => R (.rt v) fr h
theorem zcB {s : Sm} {r : List Sm} (q : WS c s fr h (Beh c r R)) : WSs c (s :: r) fr h R := by
 show W (bnd (exec c s fr h) fun (p : Fl × Frame) h1 => Fl.casesOn (motive:=fun _ => SR) p.1 (execs c r p.2 h1) (some (p,h1)) (some (p,h1)) (fun _ => some (p,h1))) fun p h => R p.1 p.2 h
 exact zai (W.mono q fun p h1 q => by
  obtain ⟨fl,f2⟩ := p
  cases fl with
  | nx => exact q
  | bk => exact ⟨q⟩
  | ct => exact ⟨q⟩
  | rt v => exact ⟨q⟩)
theorem ws_expr {e : Ex} (q : WE c fr e h fun _ h1 => R .nx fr h1) : WS c (.expr e) fr h R := by
 show W (bnd (eval c e fr h) fun _ h1 => some ((Fl.nx,fr),h1)) fun p h => R p.1 p.2 h
 exact zai (W.mono q fun _ _ q => ⟨q⟩)
theorem ws_asg {x : Nat} {e : Ex} (q : WE c fr e h fun v h1 => R .nx (fr.set x (some v)) h1) : WS c (.asg (.nm x) e) fr h R := by
 show W (bnd (eval c e fr h) fun v h1 => some ((Fl.nx,fr.set x (some v)),h1)) fun p h => R p.1 p.2 h
 exact zai (W.mono q fun _ _ q => ⟨q⟩)
theorem ws_asgAt {o e : Ex} {n : Nat} (q : WE c fr e h fun v h1 => WE c fr o h1 fun ov h2 => Wo (setAttr c.P h2 ov n v) fun h3 => R .nx fr h3) : WS c (.asg (.at o n) e) fr h R := by
 show W (bnd (eval c e fr h) fun v h1 => bnd (bnd (eval c o fr h1) fun ov h2 => (setAttr c.P h2 ov n v).map fun h3 => (fr,h3)) fun fr' h2 => some ((Fl.nx,fr'),h2)) fun p h => R p.1 p.2 h
 exact zai (W.mono q fun v h1 q => zai (zai (W.mono q fun ov h2 q => w_map (f:=fun h3 => (fr,h3)) (Q:=fun fr' h2 => W (some ((Fl.nx,fr'),h2)) fun p h => R p.1 p.2 h) (Wo.mono q fun _ q => ⟨q⟩))))
theorem ws_asgSb {o i e : Ex} (q : WE c fr e h fun v h1 => WE c fr o h1 fun ov h2 => WE c fr i h2 fun iv h3 => Wo (zbN h3 ov iv v) fun h4 => R .nx fr h4) : WS c (.asg (.sb o i) e) fr h R := by
 show W (bnd (eval c e fr h) fun v h1 => bnd (bnd (eval c o fr h1) fun ov h2 => bnd (eval c i fr h2) fun iv h3 => (zbN h3 ov iv v).map fun h4 => (fr,h4)) fun fr' h2 => some ((Fl.nx,fr'),h2)) fun p h => R p.1 p.2 h
 exact zai (W.mono q fun v h1 q => zai (zai (W.mono q fun ov h2 q => zai (W.mono q fun iv h3 q => w_map (f:=fun h4 => (fr,h4)) (Q:=fun fr' h2 => W (some ((Fl.nx,fr'),h2)) fun p h => R p.1 p.2 h) (Wo.mono q fun _ q => ⟨q⟩)))))
theorem ws_asgs {ts : List T1} {e : Ex} (q : WE c fr e h fun v h1 => Wo (items h1 v) fun vs => WSt c ts vs fr h1 fun f2 h2 => R .nx f2 h2) : WS c (.asgs ts e) fr h R := by
 show W (bnd (eval c e fr h) fun v h1 => (items h1 v).bind fun vs => bnd (zbc c ts vs fr h1) fun fr' h2 => some ((Fl.nx,fr'),h2)) fun p h => R p.1 p.2 h
 exact zai (W.mono q fun v h1 q => zb1 (Wo.mono q fun vs q => zai (W.mono q fun _ _ q => ⟨q⟩)))
theorem ws_ret {e : Ex} (q : WE c fr e h fun v h1 => R (.rt v) fr h1) : WS c (.ret e) fr h R := by
 show W (bnd (eval c e fr h) fun v h1 => some ((Fl.rt v,fr),h1)) fun p h => R p.1 p.2 h
 exact zai (W.mono q fun _ _ q => ⟨q⟩)
theorem ws_ite {t : Ex} {a b : List Sm} (q : WE c fr t h fun x h1 => WT x h1 fun r => Br r (WSs c a fr h1 R) (WSs c b fr h1 R)) : WS c (.ite t a b) fr h R := by
 show W (bnd (zas (eval c t fr h)) fun r h1 => bif r then execs c a fr h1 else execs c b fr h1) fun p h => R p.1 p.2 h
 exact zai (zbl (W.mono q fun x h1 q => Wo.mono q fun r q => br_use q))
theorem ws_cont (q : R .ct fr h) : WS c .cont fr h R := zaE (a:=(Fl.ct,fr)) q
noncomputable def WF (P : Prg) (d f : Nat) (as : List Val) (h : MH) (Q : Val -> MH -> Prop) : Prop := W (zaG P 200000 d f as h) Q
noncomputable def Fin (Q : Val -> MH -> Prop) (fl : Fl) (_ : Frame) (h : MH) : Prop := Fl.casesOn (motive:=fun _ => Prop) fl (Q .none h) False False fun v => Q v h
theorem wf_body {f : Nat} {fn : Fn} {as vs : List Val} (hf : P.fnAt f = some fn) (ha : zcj fn as = some vs) (q : WSs (Cxd P d) fn.body (zbw fn vs) h (Fin Q)) : WF P (d + 1) f as h Q := by
 show W ((P.fnAt f).bind fun f => (zcj f as).bind fun vs => bnd (execs ⟨P,200000,zaG P 200000 d⟩ f.body (zbw f vs) h) finF) Q
 rw [hf]
 show W ((zcj fn as).bind fun vs => bnd (execs ⟨P,200000,zaG P 200000 d⟩ fn.body (zbw fn vs) h) finF) Q
 rw [ha]
 exact zai (W.mono q fun p h1 q => by
  obtain ⟨fl,f2⟩ := p
  cases fl with
  | nx => exact ⟨q⟩
  | bk => exact q.elim
  | ct => exact q.elim
  | rt v => exact ⟨q⟩)
theorem wf_at {K f : Nat} {fn : Fn} {as vs : List Val} (hd : K + 1 <= d) (hf : P.fnAt f = some fn) (ha : zcj fn as = some vs) (q : ∀ d',K <= d' -> WSs (Cxd P d') fn.body (zbw fn vs) h (Fin Q)) : WF P d f as h Q := by
 obtain ⟨d',rfl⟩ := Nat.exists_eq_add_of_le' hd
 exact wf_body (d:=d' + K) hf ha (q _ (Nat.le_add_left _ _))
end
end Mi
namespace Mi
theorem zab {h t : MH} {a : Nat} {o : MObj} (e : h[a]? = some o) : (h ++ t)[a]? = some o := by
 rw [List.getElem?_append_left (List.getElem?_eq_some_iff.mp e).1]; exact e
theorem zah {h t : MH} {o : MObj} : (h ++ o :: t)[h.length]? = some o := by
 rw [List.getElem?_append_right (Nat.le_refl _),Nat.sub_self]; rfl
theorem zal {h : MH} {a b : Nat} {o x : MObj} (ne : b ≠ a) (e : h[a]? = some o) : (h.set b x)[a]? = some o := by rw [List.getElem?_set_ne ne]; exact e
theorem zbe {h : MH} {a : Nat} {o : MObj} (e : h[a]? = some o) : a < h.length := (List.getElem?_eq_some_iff.mp e).1
theorem zan {h : MH} {a : Nat} {o x : MObj} (e : h[a]? = some o) : (h.set a x)[a]? = some x := List.getElem?_set_self (zbe e)
theorem zaJ {h t : MH} {o x : MObj} : (h ++ o :: t).set h.length x = h ++ x :: t := by
 rw [List.set_append_right _ _ (Nat.le_refl _),Nat.sub_self]; rfl
theorem za7 {h : MH} {a : Nat} {vs : List Val} (e : h[a]? = some (.list vs)) : zaq h (.ref a) = some vs := by
 show (h[a]?).bind MObj.list? = _
 rw [e]; rfl
theorem zcY {h : MH} {a : Nat} {ep : Option Nat} {es : List (Val × Val)} (e : h[a]? = some (.dict ep es)) : zaY h (.ref a) = some (ep,es) := by
 show (h[a]?).bind MObj.dict? = _
 rw [e]; rfl
theorem dictAt_l {h : MH} {a : Nat} {vs : List Val} (e : h[a]? = some (.list vs)) : zaY h (.ref a) = none := by
 show (h[a]?).bind MObj.dict? = _
 rw [e]; rfl
theorem zcV {h : MH} {a : Nat} {ep : Option Nat} {es : List (Val × Val)} (e : h[a]? = some (.dict ep es)) : zaq h (.ref a) = none := by
 show (h[a]?).bind MObj.list? = _
 rw [e]; rfl
theorem instAt_s {h : MH} {a k : Nat} {fs : List (Nat × Val)} (e : h[a]? = some (.inst k fs)) : instAt h (.ref a) = some (k,fs) := by
 show (h[a]?).bind MObj.inst? = _
 rw [e]; rfl
section
variable {c : Cx} {fr : Frame} {h : MH} {Q : Val -> MH -> Prop} {P : Prg} {d : Nat}
theorem wb_add {a b : Int} (q : Q (.int (a + b)) h) : WB .add (.int a) (.int b) h Q := ⟨q⟩
theorem wb_sub {a b : Int} (q : Q (.int (a - b)) h) : WB .sub (.int a) (.int b) h Q := ⟨q⟩
theorem grd_t {α : Type} {b : Bool} {o : Option α} (hb : b = true) : grd b o = o := by subst hb; rfl
theorem zbL {a b : Int} (hm : mulOk a b = true) (q : Q (.int (a * b)) h) : WB .mul (.int a) (.int b) h Q := by
 have e : mulOp h (.int a) (.int b) = some (.int (a * b),h) := by
  unfold mulOp
  simp only [Val.int?,Option.bind_some,grd_t hm]
  rfl
 have e2 : binop .mul (.int a) (.int b) h = alt none (mulOp h (.int a) (.int b)) := by
  unfold binop
  simp only [Val.int?,Option.bind_some,arith,Option.map_none]
 unfold WB
 rw [e2,e]; exact ⟨q⟩
theorem rep_ok {l n : Nat} (hn : n <= lim) (hl : l * n <= lim) : repOk l (n : Int) = true := by
 unfold repOk
 rw [Bool.and_eq_true,Bool.and_eq_true]
 exact ⟨⟨decide_eq_true (by omega),decide_eq_true (by omega)⟩,Nat.ble_eq.mpr (by rw [Int.toNat_natCast]; exact hl)⟩
theorem rep_one {α : Type} {x : α} {n : Nat} : (List.replicate n [x]).flatten = List.replicate n x := by
 induction n with
 | zero => rfl
 | succ n ih => rw [List.replicate_succ,List.flatten_cons,ih]; rfl
theorem wb_mull {a : Nat} {n : Nat} {x : List Val} (ha : h[a]? = some (.list x)) (hl : n <= lim) (hx : x.length * n <= lim) (q : Q (.ref h.length) (h ++ [.list (List.replicate n x).flatten])) : WB .mul (.ref a) (.int n) h Q := by
 show W (alt ((zaq h (.ref a)).bind fun a => (some (n : Int)).bind fun n => grd (repOk a.length n) (zbz h (.list (List.replicate n.toNat a).flatten))) _) Q
 rw [za7 ha]
 exact w_alt (w_grd (o:=zbz h (.list (List.replicate n x).flatten)) (rep_ok hl hx) (zaE q))
theorem w_mapint {o : Option Int} {k : Int} (e : o = some k) (q : Q (.int k) h) {o' : Option (Val × MH)} : W (alt (o.map fun k => (Val.int k,h)) o') Q := by subst e; exact ⟨q⟩
theorem wb_fdiv {a b : Int} (hb : b ≠ 0) (hl : b.natAbs < divB) (q : Q (.int (Int.fdiv a b)) h) : WB .fdiv (.int a) (.int b) h Q := by
 refine w_mapint (o:=arith .fdiv a b) ?_ q
 show grd _ _ = _
 rw [show (b != 0 && Nat.ble (b.natAbs + 1) divB) = true by rw [Bool.and_eq_true]; exact ⟨bne_iff_ne.mpr hb,Nat.ble_eq.mpr hl⟩]; rfl
theorem wb_mod {a b : Int} (hb : b ≠ 0) (q : Q (.int (Int.fmod a b)) h) : WB .mod (.int a) (.int b) h Q := by
 refine w_mapint (o:=arith .mod a b) ?_ q
 show grd _ _ = _
 rw [bne_iff_ne.mpr hb]; rfl
theorem wc_of {op : COp} {a b : Val} {r : Bool} (e : cmpop op a b h = some r) (q : Q (.bool r) h) : WC op a b h Q := Wo.of e q
theorem wc_lt {a b : Int} (q : Q (.bool (decide (a < b))) h) : WC .lt (.int a) (.int b) h Q := ⟨q⟩
theorem wc_gt {a b : Int} (q : Q (.bool (decide (b < a))) h) : WC .gt (.int a) (.int b) h Q := ⟨q⟩
theorem wc_ge {a b : Int} (q : Q (.bool (decide (b <= a))) h) : WC .ge (.int a) (.int b) h Q := ⟨q⟩
theorem wc_eq {a b : Val} {r : Bool} (e : veq h a b = some r) (q : Q (.bool r) h) : WC .eq a b h Q := wc_of e q
theorem wc_ne {a b : Val} {r : Bool} (e : veq h a b = some r) (q : Q (.bool (!r)) h) : WC .ne a b h Q := wc_of (r:=!r) (by show (veq h a b).map _ = _; rw [e]; rfl) q
theorem wc_is {a b : Val} {r : Bool} (e : isV a b = some r) (q : Q (.bool r) h) : WC .is a b h Q := wc_of e q
theorem wc_isnot {a b : Val} {r : Bool} (e : isV a b = some r) (q : Q (.bool (!r)) h) : WC .isnot a b h Q := wc_of (r:=!r) (by show (isV a b).map _ = _; rw [e]; rfl) q
theorem wc_in {a b : Val} {r : Bool} (e : isIn h a b = some r) (q : Q (.bool r) h) : WC .isin a b h Q := wc_of e q
theorem zcF {a b : Val} {r : Bool} (e : isIn h a b = some r) (q : Q (.bool (!r)) h) : WC .notin a b h Q := wc_of (r:=!r) (by show (isIn h a b).map _ = _; rw [e]; rfl) q
theorem zcz {b : Bool} {Q : Bool -> Prop} (q : Q b) : WT (.bool b) h Q := ⟨q⟩
theorem idx_ok {n i : Nat} (hi : i < n) : idx n (.int i) = some i := by
 show grd _ _ = _
 rw [decide_eq_true (show (0 : Int) <= (i : Int) by omega),decide_eq_true (show (i : Int) < (n : Int) by omega),Int.toNat_natCast]; rfl
theorem zaB {α : Type} {vs : List α} {i : Nat} {v : α} (hv : vs[i]? = some v) : i < vs.length := (List.getElem?_eq_some_iff.mp hv).1
theorem wo_alt {α : Type} {a b : Option α} {v : α} {Q : α -> Prop} (e : a = some v) (q : Q v) : Wo (alt a b) Q := by subst e; exact ⟨q⟩
theorem zax {a i : Nat} {vs : List Val} {v : Val} (ha : h[a]? = some (.list vs)) (hv : vs[i]? = some v) (q : Q v h) : WI (.ref a) (.int i) h Q := by
 refine wo_alt (a:=(zaq h (.ref a)).bind fun vs => (idx vs.length (.int i)).bind fun k => vs[k]?) ?_ q
 rw [za7 ha]
 show (idx vs.length (.int i)).bind _ = _
 rw [idx_ok (zaB hv)]; exact hv
theorem wi_at {i : Int} {vs : List Val} {v : Val} (hv : ((idx vs.length (.int i)).bind fun k => vs[k]?) = some v) (q : Q v h) : WI (.tup vs) (.int i) h Q := wo_alt (a:=(idx vs.length (.int i)).bind fun k => vs[k]?) hv q
theorem wi_fl {i : Nat} {vs : List Val} {v : Val} (hv : vs[i]? = some v) (q : Q v h) : WI (.fl vs) (.int i) h Q := by
 refine wo_alt (a:=(idx vs.length (.int i)).bind fun k => vs[k]?) ?_ q
 rw [idx_ok (zaB hv)]; exact hv
theorem wi_dict {a : Nat} {ep : Option Nat} {es : List (Val × Val)} {k v : Val} (ha : h[a]? = some (.dict ep es)) (hf : zaj es k = true) (hv : dget es k = some v) (q : Q v h) : WI (.ref a) k h Q := by
 show Wo (alt ((zaq h (.ref a)).bind _) ((zaY h (.ref a)).bind fun d => grd (zaj d.2 k) (dget d.2 k))) _
 rw [zcV ha,zcY ha]
 show Wo (grd (zaj es k) (dget es k)) _
 rw [hf,hv]; exact ⟨q⟩
theorem zac {a k n : Nat} {fs : List (Nat × Val)} {v : Val} (ha : h[a]? = some (.inst k fs)) (hv : fget fs n = some v) (hf : P.hasFld k n = true) (q : Q v h) : WA P (.ref a) n h Q := by
 refine wo_alt (a:=(instAt h (.ref a)).bind fun q => Option.casesOn (motive:=fun _ => Option Val) (fget q.2 n) (zc3 P q.1 n) fun v => grd (P.hasFld q.1 n) (some v)) ?_ q
 rw [instAt_s ha]
 show Option.casesOn (motive:=fun _ => Option Val) (fget fs n) (zc3 P k n) (fun v => grd (P.hasFld k n) (some v)) = _
 rw [hv]
 show grd _ _ = _
 rw [hf]; rfl
theorem wa_top {a n : Nat} {v : Val} (e : ((P.instAt a).bind fun c => zc3 P c n) = some v) (q : Q v h) : WA P (.top a) n h Q := by
 show Wo ((P.instAt a).bind fun c => zc3 P c n) _
 rw [e]; exact ⟨q⟩
theorem zao {a k n : Nat} {fs : List (Nat × Val)} {v : Val} {Q : MH -> Prop} (ha : h[a]? = some (.inst k fs)) (hf : P.hasFld k n = true) (hl : fs.length < 400) (q : Q (h.set a (.inst k (fput fs n v)))) : Wo (setAttr P h (.ref a) n v) Q := by
 show Wo ((h[a]?.bind MObj.inst?).bind fun q => grd (P.hasFld q.1 n && Nat.ble (q.2.length + 1) 400) (some (h.set a (.inst q.1 (fput q.2 n v))))) Q
 rw [ha]
 show Wo (grd (P.hasFld k n && Nat.ble (fs.length + 1) 400) (some (h.set a (.inst k (fput fs n v))))) Q
 rw [hf,Nat.ble_eq.mpr hl]; exact ⟨q⟩
theorem zbo {a i : Nat} {vs : List Val} {v : Val} {Q : MH -> Prop} (ha : h[a]? = some (.list vs)) (hi : i < vs.length) (q : Q (h.set a (.list (vs.set i v)))) : Wo (zbN h (.ref a) (.int i) v) Q := by
 refine wo_alt (a:=(h[a]?.bind MObj.list?).bind fun vs => (idx vs.length (.int i)).map fun k => h.set a (.list (vs.set k v))) ?_ q
 rw [ha]
 show (idx vs.length (.int i)).map _ = _
 rw [idx_ok hi]; rfl
theorem setSub_d {a : Nat} {ep : Option Nat} {es : List (Val × Val)} {k v : Val} {Q : MH -> Prop} (ha : h[a]? = some (.dict ep es)) (hf : zaj es k = true) (hl : es.length < lim) (q : Q (h.set a (.dict (bif (dget es k).isSome then ep else ep.map (· + 1)) (dput es k v)))) : Wo (zbN h (.ref a) k v) Q := by
 show Wo (alt ((h[a]?.bind MObj.list?).bind _) ((h[a]?.bind MObj.dict?).bind fun d => grd (zaj d.2 k && Nat.ble (d.2.length + 1) lim) (some (h.set a (.dict (bif (dget d.2 k).isSome then d.1 else d.1.map (· + 1)) (dput d.2 k v)))))) Q
 rw [ha]
 show Wo (grd (zaj es k && Nat.ble (es.length + 1) lim) (some (h.set a (.dict (bif (dget es k).isSome then ep else ep.map (· + 1)) (dput es k v))))) Q
 rw [hf,Nat.ble_eq.mpr hl]; exact ⟨q⟩
theorem zaC {a : Nat} {as : List Val} (hc : P.clsAt a = none) (q : WF P d a as h Q) : WV (Cxd P d) (.top a) as h Q := by
 have q : W (zaG P 200000 d a as h) Q := q
 show W (alt (Option.casesOn (motive:=fun _ => Option (Val × MH)) (P.clsAt a) (zaG P 200000 d a as h) fun k => newV (Cxd P d) a k as h) _) Q
 rw [hc]; exact w_alt q
theorem wv_new {a i : Nat} {k : Cl} {as : List Val} (hc : P.clsAt a = some k) (hi : k.init = some i) (q : WF P d i (.ref h.length :: as) (h ++ [.inst a []]) fun v h' => v = .none /\ Q (.ref h.length) h') : WV (Cxd P d) (.top a) as h Q := by
 show W (alt (Option.casesOn (motive:=fun _ => Option (Val × MH)) (P.clsAt a) (zaG P 200000 d a as h) fun k => newV (Cxd P d) a k as h) _) Q
 rw [hc]
 refine w_alt ?_
 show W (k.init.bind fun i => bnd (zaG P 200000 d i (.ref h.length :: as) (h ++ [.inst a []])) fun r h' => grd r.isNone (some (.ref h.length,h'))) Q
 rw [hi]
 exact zai (f:=fun r h' => grd r.isNone (some (Val.ref h.length,h'))) (R:=Q) (W.mono q fun v h' q => by rw [q.1]; exact ⟨q.2⟩)
theorem wv_bi {n : Nat} {as : List Val} {v : Val} {h' : MH} (e : callBi n as h = some (v,h')) (q : Q v h') : WV c (.bi n) as h Q := by
 show W (alt (callBi n as h) none) Q
 rw [e]; exact ⟨q⟩
theorem wv_ty {n : Nat} {as : List Val} {v : Val} {h' : MH} (e : callTy n as h = some (v,h')) (q : Q v h') : WV c (.ty n) as h Q := by
 show W (callTy n as h) Q
 rw [e]; exact ⟨q⟩
theorem wv_len {v : Val} {n : Nat} (e : lenV h v = some n) (q : Q (.int n) h) : WV c (.bi nLen) [v] h Q := by
 refine wv_bi (v:=.int n) (h' := h) ?_ q
 show alt ((lenV h v).map fun (k : Nat) => (Val.int (k : Int),h)) _ = _
 rw [e]; rfl
theorem wv_range {k : Int} (q : Q (.rng k) h) : WV c (.ty nRange) [.int k] h Q := ⟨q⟩
theorem wv_list {a : Nat} {vs : List Val} (ha : h[a]? = some (.list vs)) (q : Q (.ref h.length) (h ++ [.list vs])) : WV c (.ty nList) [.ref a] h Q := by
 refine wv_ty (v:=.ref h.length) (h' := h ++ [.list vs]) ?_ q
 show alt (tyList [.ref a] h) _ = _
 show alt ((zaq h (.ref a)).bind fun vs => zbz h (.list vs)) _ = _
 rw [za7 ha]; rfl
theorem wv_type {v : Val} {n : Nat} (e : typeOf h v = some n) (q : Q (.ty n) h) : WV c (.ty nType) [v] h Q := by
 refine wv_ty (v:=.ty n) (h' := h) ?_ q
 show alt ((typeOf h v).map fun k => (Val.ty k,h)) _ = _
 rw [e]; rfl
theorem lenV_l {a : Nat} {vs : List Val} (ha : h[a]? = some (.list vs)) : lenV h (.ref a) = some vs.length := by
 show alt ((zaq h (.ref a)).map (·.length)) _ = _
 rw [za7 ha]; rfl
theorem zaf {o : Val} {n f : Nat} {self as : List Val} {h0 : MH} (hg : zaN P h0 o n = some (f,self)) (q : WF P d f (self ++ as) h Q) : WM (Cxd P d) o n as h0 h Q := by
 have q : W (zaG P 200000 d f (self ++ as) h) Q := q
 show W (Option.casesOn (motive:=fun _ => Option (Val × MH)) (zaN P h0 o n) (bmeth o n as h0 h) fun p => zaG P 200000 d p.1 (p.2 ++ as) h) Q
 rw [hg]; exact q
theorem zag {a k n f : Nat} {fs : List (Nat × Val)} {h0 : MH} (ha : h0[a]? = some (.inst k fs)) (hn : fget fs n = none) (hm : methC P k n = some f) : zaN P h0 (.ref a) n = some (f,[.ref a]) := by
 show ((instAt h0 (.ref a)).bind fun q => grd (fget q.2 n).isNone ((methC P q.1 n).map fun f => (f,[Val.ref a]))) = _
 rw [instAt_s ha]
 show grd (fget fs n).isNone ((methC P k n).map fun f => (f,[Val.ref a])) = _
 rw [hn,hm]; rfl
theorem wm_bi {a n : Nat} {as : List Val} {h0 : MH} (hi : instAt h0 (.ref a) = none) (q : W (bmeth (.ref a) n as h0 h) Q) : WM c (.ref a) n as h0 h Q := by
 show W (Option.casesOn (motive:=fun _ => Option (Val × MH)) ((instAt h0 (.ref a)).bind _) (bmeth (.ref a) n as h0 h) fun (p : Nat × List Val) => c.call p.1 (p.2 ++ as) h) Q
 rw [hi]; exact q
theorem instAt_l {a : Nat} {vs : List Val} (e : h[a]? = some (.list vs)) : instAt h (.ref a) = none := by
 show (h[a]?).bind MObj.inst? = _
 rw [e]; rfl
theorem instAt_d {a : Nat} {ep : Option Nat} {es : List (Val × Val)} (e : h[a]? = some (.dict ep es)) : instAt h (.ref a) = none := by
 show (h[a]?).bind MObj.inst? = _
 rw [e]; rfl
theorem bm_list {a n : Nat} {as us vs : List Val} {h0 : MH} (h0a : h0[a]? = some (.list us)) (ha : h[a]? = some (.list vs)) (q : W (zbY a vs n as h) Q) : WM c (.ref a) n as h0 h Q := by
 refine wm_bi (instAt_l h0a) ?_
 show W (alt ((h0[a]?.bind MObj.list?).bind fun _ => (h[a]?.bind MObj.list?).bind fun vs => zbY a vs n as h) _) Q
 rw [h0a,ha]
 exact w_alt q
theorem zaT {a : Nat} {vs us : List Val} {v : Val} {h0 : MH} (h0a : h0[a]? = some (.list us)) (ha : h[a]? = some (.list vs)) (hl : vs.length < lim) (q : Q .none (h.set a (.list (vs ++ [v])))) : WM c (.ref a) nAppend [v] h0 h Q :=
 bm_list h0a ha (w_alt (w_grd (o:=some (Val.none,h.set a (.list (vs ++ [v])))) (Nat.ble_eq.mpr hl) (zaE q)))
theorem wm_pop {a : Nat} {vs us : List Val} {v : Val} {h0 : MH} (h0a : h0[a]? = some (.list us)) (ha : h[a]? = some (.list (vs ++ [v]))) (q : Q v (h.set a (.list vs))) : WM c (.ref a) nPop [] h0 h Q := by
 refine bm_list h0a ha ?_
 show W ((vs ++ [v]).getLast?.map fun w => (w,h.set a (.list (vs ++ [v]).dropLast))) Q
 rw [List.getLast?_concat,List.dropLast_concat]; exact ⟨q⟩
theorem bm_dict {a n : Nat} {as : List Val} {ep ep0 : Option Nat} {es es0 : List (Val × Val)} {h0 : MH} (h0a : h0[a]? = some (.dict ep0 es0)) (ha : h[a]? = some (.dict ep es)) (q : W (zbZ es n as h) Q) : WM c (.ref a) n as h0 h Q := by
 refine wm_bi (instAt_d h0a) ?_
 show W (alt ((h0[a]?.bind MObj.list?).bind _) ((h0[a]?.bind MObj.dict?).bind fun _ => (h[a]?.bind MObj.dict?).bind fun d => zbZ d.2 n as h)) Q
 rw [h0a,ha]; exact q
theorem wm_get1 {a : Nat} {ep ep0 : Option Nat} {es es0 : List (Val × Val)} {k : Val} {h0 : MH} (h0a : h0[a]? = some (.dict ep0 es0)) (ha : h[a]? = some (.dict ep es)) (hf : zaj es k = true) (q : Q ((dget es k).getD .none) h) : WM c (.ref a) nGet [k] h0 h Q :=
 bm_dict h0a ha (w_alt (w_grd (o:=some ((dget es k).getD .none,h)) hf (zaE q)))
theorem wst_nil {Q : Frame -> MH -> Prop} (q : Q fr h) : WSt c [] [] fr h Q := ⟨q⟩
theorem wst_nm {x : Nat} {ts : List T1} {v : Val} {vs : List Val} {Q : Frame -> MH -> Prop} (q : WSt c ts vs (fr.set x (some v)) h Q) : WSt c (.nm x :: ts) (v :: vs) fr h Q := q
theorem items_t {vs : List Val} {Q : List Val -> Prop} (q : Q vs) : Wo (items h (.tup vs)) Q := ⟨q⟩
end
end Mi
namespace Mi
noncomputable def Turn (I : Frame -> MH -> Prop) (R : Fl -> Frame -> MH -> Prop) (fl : Fl) (fr : Frame) (h : MH) : Prop := Fl.casesOn (motive:=fun _ => Prop) fl (I fr h) (R .nx fr h) (I fr h) fun v => R (.rt v) fr h
section
variable {c : Cx} {fr : Frame} {h : MH} {Q : Val -> MH -> Prop} {R : Fl -> Frame -> MH -> Prop}
theorem loopF_w {next : Nat -> MH -> Option (Option Val)} {bd : Frame -> Val -> Option Frame} {b : Frame -> MH -> SR} (n : Nat) (I : Nat -> Frame -> MH -> Prop)
  (step : ∀ i,i < n -> ∀ fr h,I i fr h -> Wo (next i h) fun ov => Wo ov fun v => Wo (bd fr v) fun fr1 => W (b fr1 h) fun p h' => Turn (I (i + 1)) R p.1 p.2 h')
  (stop : ∀ fr h,I n fr h -> Wo (next n h) fun ov => ov = none /\ R .nx fr h) : ∀ (m i fu : Nat),i + m = n -> m < fu -> ∀ fr h,I i fr h -> W (loopF next bd b fu i fr h) fun p h => R p.1 p.2 h := by
 intro m
 induction m with
 | zero =>
  intro i fu hi hf fr h I0
  obtain ⟨fu,rfl⟩ := Nat.exists_eq_add_of_le' hf
  cases hi
  have q : Wo (next i h) fun ov => ov = none /\ R .nx fr h := stop fr h I0
  show W ((next i h).bind _) _
  exact zb1 (q.mono fun ov q => by obtain ⟨rfl,q⟩ := q; exact ⟨q⟩)
 | succ m ih =>
  intro i fu hi hf fr h I0
  obtain ⟨fu,rfl⟩ := Nat.exists_eq_add_of_le' (Nat.lt_of_le_of_lt (Nat.zero_le _) hf)
  have q := step i (by omega) fr h I0
  show W ((next i h).bind _) _
  refine zb1 (q.mono fun ov q => ?_)
  cases ov with
  | none => exact q.w.elim
  | some v =>
   show W ((bd fr v).bind _) _
   refine zb1 (Wo.mono q.w fun fr1 q => zai (W.mono q fun p h2 q => ?_))
   obtain ⟨fl,f2⟩ := p
   cases fl with
   | nx => exact ih (i + 1) _ (by omega) (by omega) f2 h2 q
   | ct => exact ih (i + 1) _ (by omega) (by omega) f2 h2 q
   | bk => exact ⟨q⟩
   | rt v => exact ⟨q⟩
theorem ws_for {tg : List Nat} {many : Bool} {e : Ex} {b : List Sm}
  (q : WE c fr e h fun v h1 => ∃ k,∃ xs : List Val,zbd h1 v = some k /\ xs.length < c.fuel /\ ∃ I : Nat -> Frame -> MH -> Prop,I 0 fr h1 /\ (∀ i fr h,I i fr h -> zav h i k = some xs[i]?) /\
   (∀ i x,xs[i]? = some x -> ∀ fr h,I i fr h -> Wo (zby fr tg many x) fun fr1 => WSs c b fr1 h (Turn (I (i + 1)) R)) /\ ∀ fr h,I xs.length fr h -> R .nx fr h) : WS c (.fo tg many e b) fr h R := by
 show W (bnd (eval c e fr h) fun v h1 => (zbd h1 v).bind fun k => loopF (fun i h => zav h i k) (fun fr v => zby fr tg many v) (fun fr h => execs c b fr h) c.fuel 0 fr h1) fun p h => R p.1 p.2 h
 refine zai (W.mono q fun v h1 q => ?_)
 obtain ⟨k,xs,e1,hn,I,I0,nx,step,stop⟩ := q
 rw [e1]
 show W (loopF (fun i h => zav h i k) (fun fr v => zby fr tg many v) (fun fr h => execs c b fr h) c.fuel 0 fr h1) fun p h => R p.1 p.2 h
 refine loopF_w xs.length I (fun i hi fr h hI => ?_) (fun fr h hI => ?_) xs.length 0 c.fuel (by omega) hn fr h1 I0
 ·rw [nx i fr h hI,List.getElem?_eq_getElem hi]
  exact ⟨⟨step i _ (List.getElem?_eq_getElem hi) fr h hI⟩⟩
 ·rw [nx _ fr h hI,List.getElem?_eq_none (Nat.le_refl _)]
  exact ⟨rfl,stop fr h hI⟩
theorem zca {a : Nat} {vs : List Val} (ha : h[a]? = some (.list vs)) : zbd h (.ref a) = some (.ls a) := by
 show alt none (alt (alt ((h[a]?.bind MObj.list?).map fun _ => It.ls a) _) _) = _
 rw [ha]; rfl
theorem zb7 {a i : Nat} {vs : List Val} (ha : h[a]? = some (.list vs)) : zav h i (.ls a) = some vs[i]? := by
 show (h[a]?.bind MObj.list?).map _ = _
 rw [ha]; rfl
theorem it_rng {n : Nat} (hn : n <= lim) : zbd h (.rng n) = some (.rg n) := by
 show alt (grd _ _) _ = _
 rw [decide_eq_true (show (n : Int) <= (lim : Int) by omega),decide_eq_true (show -(lim : Int) <= (n : Int) by omega)]; rfl
noncomputable def rngL (n : Nat) : List Val := (List.range n).map fun (i : Nat) => Val.int (i : Int)
theorem za5 {n : Nat} : (rngL n).length = n := by unfold rngL; rw [List.length_map,List.length_range]
theorem rngL_at {n i : Nat} (hi : i < n) : (rngL n)[i]? = some (.int i) := by
 unfold rngL; rw [List.getElem?_map,List.getElem?_range hi]; rfl
theorem rngL_of {n i : Nat} {x : Val} (hx : (rngL n)[i]? = some x) : i < n /\ x = .int i := by
 have hi : i < n := by have := zaB hx; rwa [za5] at this
 rw [rngL_at hi] at hx
 exact ⟨hi,(Option.some.inj hx).symm⟩
theorem nx_rng {n i : Nat} (hi : i <= n) : zav h i (.rg n) = some (rngL n)[i]? := by
 show some (bif decide ((i : Int) < (n : Int)) then some (Val.int i) else none) = _
 by_cases hl : i < n
 ·rw [decide_eq_true (show (i : Int) < (n : Int) by omega),rngL_at hl]; rfl
 ·rw [decide_eq_false (show ¬ (i : Int) < (n : Int) by omega),List.getElem?_eq_none (by rw [za5]; omega)]; rfl
theorem zbT {x : Nat} {v : Val} {Q : Frame -> Prop} (q : Q (fr.set x (some v))) : Wo (zby fr [x] false v) Q := ⟨q⟩
theorem ws_forL {x a : Nat} {e : Ex} {b : List Sm} {vs : List Val} (hn : vs.length < c.fuel) (I : Nat -> Frame -> MH -> Prop)
  (hk : ∀ i fr h,I i fr h -> h[a]? = some (.list vs)) (q : WE c fr e h fun v h1 => v = .ref a /\ I 0 fr h1)
  (step : ∀ i v,vs[i]? = some v -> ∀ fr h,I i fr h -> WSs c b (fr.set x (some v)) h (Turn (I (i + 1)) R))
  (stop : ∀ fr h,I vs.length fr h -> R .nx fr h) : WS c (.fo [x] false e b) fr h R :=
 ws_for (W.mono q fun v h1 q => by
  obtain ⟨rfl,I0⟩ := q
  exact ⟨.ls a,vs,zca (hk _ _ _ I0),hn,I,I0,fun i fr h hI => zb7 (hk _ _ _ hI),fun i x hx fr h hI => zbT (step i x hx fr h hI),stop⟩)
theorem zcD {x n : Nat} {e : Ex} {b : List Sm} (hn : n < c.fuel) (hl : n <= lim) (I : Nat -> Frame -> MH -> Prop)
  (q : WE c fr e h fun v h1 => v = .rng n /\ I 0 fr h1)
  (step : ∀ i,i < n -> ∀ fr h,I i fr h -> WSs c b (fr.set x (some (.int i))) h (Turn (I (i + 1)) R))
  (stop : ∀ fr h,I n fr h -> R .nx fr h) : WS c (.fo [x] false e b) fr h R :=
 ws_for (W.mono q fun v h1 q => by
  obtain ⟨rfl,I0⟩ := q
  refine ⟨.rg n,rngL n,it_rng hl,by rw [za5]; exact hn,fun i fr h => i <= n /\ I i fr h,⟨Nat.zero_le _,I0⟩,fun i fr h hI => nx_rng hI.1,fun i x hx fr h hI => ?_,fun fr h hI => stop fr h (za5 (n:=n) ▸ hI.2)⟩
  obtain ⟨hi,rfl⟩ := rngL_of hx
  refine zbT (W.mono (step i hi fr h hI.2) fun p h' q => ?_)
  obtain ⟨fl,f2⟩ := p
  cases fl with
  | nx => exact ⟨hi,q⟩
  | ct => exact ⟨hi,q⟩
  | bk => exact q
  | rt v => exact q)
theorem loopW_w {cond : Frame -> MH -> Option (Bool × MH)} {b : Frame -> MH -> SR} (I : Nat -> Frame -> MH -> Prop)
  (step : ∀ k fr h,I k fr h -> W (cond fr h) fun r h1 => Br r (W (b fr h1) fun p h' => Turn (fun fr h => ∃ j,j < k /\ I j fr h) R p.1 p.2 h') (R .nx fr h1)) : ∀ (m k : Nat),k < m -> ∀ fr h,I k fr h -> W (loopW cond b m fr h) fun p h => R p.1 p.2 h := by
 intro m
 induction m with
 | zero => exact fun k hk => absurd hk (Nat.not_lt_zero _)
 | succ m ih =>
  intro k hk fr h I0
  show W (bnd (cond fr h) _) _
  refine zai (W.mono (step k fr h I0) fun r h1 q => ?_)
  cases r with
  | false => exact ⟨q.2 rfl⟩
  | true =>
   rw [cond_true]
   refine zai (W.mono (q.1 rfl) fun p h2 q => ?_)
   obtain ⟨fl,f2⟩ := p
   cases fl with
   | nx => obtain ⟨j,hj,q⟩ := q; exact ih j (by omega) f2 h2 q
   | ct => obtain ⟨j,hj,q⟩ := q; exact ih j (by omega) f2 h2 q
   | bk => exact ⟨q⟩
   | rt v => exact ⟨q⟩
theorem ws_wh {t : Ex} {b : List Sm} {k : Nat} (I : Nat -> Frame -> MH -> Prop) (hk : k < c.fuel) (I0 : I k fr h)
  (step : ∀ k fr h,I k fr h -> WE c fr t h fun v h1 => WT v h1 fun r => Br r (WSs c b fr h1 (Turn (fun fr h => ∃ j,j < k /\ I j fr h) R)) (R .nx fr h1)) : WS c (.wh t b) fr h R := by
 show W (loopW (fun fr h => zas (eval c t fr h)) (fun fr h => execs c b fr h) c.fuel fr h) fun p h => R p.1 p.2 h
 exact loopW_w I (fun k fr h hI => zbl (step k fr h hI)) c.fuel k hk fr h I0
noncomputable def WTs (c : Cx) (fr : Frame) (es : List Ex) (h : MH) (Q : Bool -> MH -> Prop) : Prop := W (evalT c es fr h) Q
theorem wts_nil {Q : Bool -> MH -> Prop} (q : Q true h) : WTs c fr [] h Q := zaE q
theorem wts_cons {Q : Bool -> MH -> Prop} {e : Ex} {r : List Ex} (q : WE c fr e h fun v h1 => WT v h1 fun b => Br b (WTs c fr r h1 Q) (Q false h1)) : WTs c fr (e :: r) h Q := by
 show W (bnd (zas (eval c e fr h)) fun b h1 => bif b then evalT c r fr h1 else some (false,h1)) Q
 exact zai (zbl (W.mono q fun v h1 q => Wo.mono q fun b q => br_use ⟨q.1,fun h => zaE (q.2 h)⟩))
theorem compLoop_w {next : Nat -> MH -> Option (Option Val)} {t : Val -> MH -> Option (Option Frame × MH)} {el : Frame -> MH -> Option (Val × MH)} {ac : Nat} {R : MH -> Prop} (n : Nat) (I : Nat -> MH -> Prop)
  (step : ∀ i,i < n -> ∀ h,I i h -> Wo (next i h) fun ov => Wo ov fun v => W (t v h) fun o h1 => (o = none -> I (i + 1) h1) /\ ∀ fr,o = some fr -> W (el fr h1) fun x h2 => ∃ vs,h2[ac]? = some (.list vs) /\ vs.length < lim /\ I (i + 1) (h2.set ac (.list (vs ++ [x]))))
  (stop : ∀ h,I n h -> Wo (next n h) fun ov => ov = none /\ R h) : ∀ (m i fu : Nat),i + m = n -> m < fu -> ∀ h,I i h -> W (compLoop next t el ac fu i h) fun _ h => R h := by
 intro m
 induction m with
 | zero =>
  intro i fu hi hf h I0
  obtain ⟨fu,rfl⟩ := Nat.exists_eq_add_of_le' hf
  cases hi
  have q : Wo (next i h) fun ov => ov = none /\ R h := stop h I0
  show W ((next i h).bind _) _
  exact zb1 (q.mono fun ov q => by obtain ⟨rfl,q⟩ := q; exact ⟨q⟩)
 | succ m ih =>
  intro i fu hi hf h I0
  obtain ⟨fu,rfl⟩ := Nat.exists_eq_add_of_le' (Nat.lt_of_le_of_lt (Nat.zero_le _) hf)
  have q := step i (by omega) h I0
  show W ((next i h).bind _) _
  refine zb1 (q.mono fun ov q => ?_)
  cases ov with
  | none => exact q.w.elim
  | some v =>
   have q : W (t v h) fun o h1 => (o = none -> I (i + 1) h1) /\ ∀ fr,o = some fr -> W (el fr h1) fun x h2 => ∃ vs,h2[ac]? = some (.list vs) /\ vs.length < lim /\ I (i + 1) (h2.set ac (.list (vs ++ [x]))) := q.w
   refine zai (W.mono q fun o h1 q => ?_)
   cases o with
   | none => exact ih (i + 1) _ (by omega) (by omega) h1 (q.1 rfl)
   | some fr =>
    refine zai (W.mono (q.2 fr rfl) fun x h2 q => ?_)
    obtain ⟨vs,e1,e2,q⟩ := q
    rw [e1]
    show W (grd (Nat.ble (vs.length + 1) lim) _) _
    rw [Nat.ble_eq.mpr e2]
    exact ih (i + 1) _ (by omega) (by omega) _ q
theorem we_comp {elt it : Ex} {tg : List Nat} {many : Bool} {ifs : List Ex}
  (q : WE c fr it h fun v h1 => ∃ k,∃ xs : List Val,zbd h1 v = some k /\ xs.length < c.fuel /\ ∃ I : Nat -> MH -> Prop,I 0 (h1 ++ [.list []]) /\ (∀ i h,I i h -> zav h i k = some xs[i]?) /\
   (∀ i x,xs[i]? = some x -> ∀ hh,I i hh -> Wo (zby fr tg many x) fun fr1 => WTs c fr1 ifs hh fun b h2 => Br b (WE c fr1 elt h2 fun x h3 => ∃ vs,h3[h1.length]? = some (.list vs) /\ vs.length < lim /\ I (i + 1) (h3.set h1.length (.list (vs ++ [x])))) (I (i + 1) h2)) /\
   ∀ hh,I xs.length hh -> Q (.ref h1.length) hh) : WE c fr (.comp elt tg many it ifs) h Q := by
 show W (bnd (eval c it fr h) fun v h1 => (zbd h1 v).bind fun k => bnd (compLoop (fun i h => zav h i k) (fun v h => (zby fr tg many v).bind fun fr' => bnd (evalT c ifs fr' h) fun b h' => some (bif b then some fr' else none,h')) (fun fr' h => eval c elt fr' h) h1.length c.fuel 0 (h1 ++ [.list []])) fun _ h2 => some (.ref h1.length,h2)) Q
 refine zai (W.mono q fun v h1 q => ?_)
 obtain ⟨k,xs,e1,hn,I,I0,nx,step,stop⟩ := q
 rw [e1]
 refine zai (f:=fun _ h2 => some (Val.ref h1.length,h2)) ?_
 refine W.mono (Q:=fun _ h2 => Q (.ref h1.length) h2) ?_ fun _ _ q => zaE q
 refine compLoop_w (R:=fun h2 => Q (.ref h1.length) h2) xs.length I (fun i hi hh hI => ?_) (fun hh hI => ?_) xs.length 0 c.fuel (by omega) hn _ I0
 ·rw [nx i hh hI,List.getElem?_eq_getElem hi]
  refine wo_some (wo_some (zb1 (Wo.mono (step i _ (List.getElem?_eq_getElem hi) hh hI) fun fr1 q => zai (W.mono q fun b h2 q => ?_))))
  cases b with
  | true => exact ⟨nofun,fun fr e => by cases e; exact q.1 rfl⟩
  | false => exact ⟨fun _ => q.2 rfl,nofun⟩
 ·rw [nx _ hh hI,List.getElem?_eq_none (Nat.le_refl _)]
  exact ⟨rfl,stop hh hI⟩
theorem zch {r : List Sm} (q : WSs c r fr h R) : Beh c r R .nx fr h := q
theorem beh_ct {r : List Sm} (q : R .ct fr h) : Beh c r R .ct fr h := q
theorem beh_rt {r : List Sm} {v : Val} (q : R (.rt v) fr h) : Beh c r R (.rt v) fr h := q
theorem fin_rt {v : Val} (q : Q v h) : Fin Q (.rt v) fr h := q
theorem fin_nx (q : Q .none h) : Fin Q .nx fr h := q
variable {I : Frame -> MH -> Prop}
theorem turn_nx (q : I fr h) : Turn I R .nx fr h := q
theorem turn_rt {v : Val} (q : R (.rt v) fr h) : Turn I R (.rt v) fr h := q
noncomputable abbrev nn (k : Nat) : Frame := List.replicate k none
theorem zar {P : Prg} {d K f np ns : Nat} {dfl as vs : List Val} {bd : List Sm} (hd : K + 1 <= d) (fr : Frame) (hf : P.fnAt f = some ⟨f,np,dfl,ns,bd⟩) (ha : zcj ⟨f,np,dfl,ns,bd⟩ as = some vs) (hfr : zbw ⟨f,np,dfl,ns,bd⟩ vs = fr) (q : ∀ d',K <= d' -> WSs (Cxd P d') bd fr h (Fin Q)) : WF P d f as h Q :=
 wf_at hd hf ha fun d' h' => hfr ▸ q d' h'
end
end Mi
namespace Mi
section
variable {c : Cx} {fr : Frame} {h : MH} {Q : Val -> MH -> Prop}
end
end Mi
namespace Mi
section
variable {c : Cx} {fr : Frame} {h : MH} {Q : Val -> MH -> Prop}
theorem we_and {e f : Ex} {r : List Ex} (q : WE c fr e h fun v h1 => WT v h1 fun b => Br b (WE c fr (.bop false (f :: r)) h1 Q) (Q v h1)) : WE c fr (.bop false (e :: f :: r)) h Q :=
 we_bop (W.mono q fun v h1 q => Wo.mono q fun b q => by cases b; exact br_t (q.2 rfl); exact br_f (q.1 rfl))
theorem we_or {e f : Ex} {r : List Ex} (q : WE c fr e h fun v h1 => WT v h1 fun b => Br b (Q v h1) (WE c fr (.bop true (f :: r)) h1 Q)) : WE c fr (.bop true (e :: f :: r)) h Q :=
 we_bop (W.mono q fun v h1 q => Wo.mono q fun b q => by cases b; exact br_f (q.2 rfl); exact br_t (q.1 rfl))
theorem wc_isT {a b : Val} (e : isV a b = some true) (q : Q (.bool true) h) : WC .is a b h Q := wc_is e q
theorem wc_isF {a b : Val} (e : isV a b = some false) (q : Q (.bool false) h) : WC .is a b h Q := wc_is e q
theorem wc_isnT {a b : Val} (e : isV a b = some true) (q : Q (.bool false) h) : WC .isnot a b h Q := wc_isnot e q
theorem wc_isnF {a b : Val} (e : isV a b = some false) (q : Q (.bool true) h) : WC .isnot a b h Q := wc_isnot e q
theorem veq_str {s t : List Nat} : veq h (.str s) (.str t) = some (s == t) := by
 show some (PySem.PyData.eqv (.str ⟨s.toArray⟩) (.str ⟨t.toArray⟩)) = _
 have e : PySem.PyData.eqv (.str ⟨s.toArray⟩) (.str ⟨t.toArray⟩) = (s == t) := by
  simp only [PySem.PyData.eqv]
  by_cases hs : s = t
  ·subst hs; simp
  ·rw [beq_false_of_ne hs,beq_false_of_ne]
   intro e
   apply hs
   injection e with e
   injection e
 rw [e]
theorem wc_eqs {s t : List Nat} (q : Q (.bool (s == t)) h) : WC .eq (.str s) (.str t) h Q := wc_eq veq_str q
theorem wc_nes {s t : List Nat} (q : Q (.bool (!(s == t))) h) : WC .ne (.str s) (.str t) h Q := wc_ne veq_str q
theorem veq_int {a b : Int} : veq h (.int a) (.int b) = some (a == b) := by
 show some (PySem.PyData.eqv (.int a) (.int b)) = _
 simp [PySem.PyData.eqv]
theorem wc_eqi {a b : Int} (q : Q (.bool (a == b)) h) : WC .eq (.int a) (.int b) h Q := wc_eq veq_int q
theorem wc_nins {x : Nat} {t : List Nat} (q : Q (.bool (!t.contains x)) h) : WC .notin (.str [x]) (.str t) h Q := zcF (r:=t.contains x) rfl q
theorem br_not {r : Bool} {A B : Prop} (q : Br r B A) : Br (!r) A B := by
 cases r with
 | false => exact br_t (q.2 rfl)
 | true => exact br_f (q.1 rfl)
theorem wv_lens {s : List Nat} (q : Q (.int s.length) h) : WV c (.bi nLen) [.str s] h Q := wv_len rfl q
theorem zb0 {a : Nat} {vs : List Val} (ha : h[a]? = some (.list vs)) (q : Q (.int vs.length) h) : WV c (.bi nLen) [.ref a] h Q := wv_len (lenV_l ha) q
end
end Mi
namespace Mi
section
variable {c : Cx} {fr : Frame} {h : MH} {Q : Val -> MH -> Prop}
theorem we_compT {elt it : Ex} {x : Nat} {a : Nat} {vs : List Val} (T : Nat -> Val -> MH -> Prop) (hf : vs.length < c.fuel) (hl : vs.length <= lim) (hT : ∀ i y t s,T i y t -> T i y (t ++ s))
  (q : WE c fr it h fun v h1 => v = .ref a /\ h1[a]? = some (.list vs) /\
   (∀ i v,vs[i]? = some v -> ∀ acc t,WE c (fr.set x (some v)) elt (h1 ++ .list acc :: t) fun y h3 => ∃ s,h3 = h1 ++ .list acc :: (t ++ s) /\ T i y (t ++ s)) /\
   ∀ ys t,ys.length = vs.length -> (∀ (i : Nat) (y : Val),ys[i]? = some y -> T i y t) -> Q (.ref h1.length) (h1 ++ .list ys :: t)) : WE c fr (.comp elt [x] false it []) h Q := by
 refine we_comp (W.mono q fun v h1 q => ?_)
 obtain ⟨rfl,h1a,st,q⟩ := q
 refine ⟨.ls a,vs,zca h1a,hf,fun i hh => ∃ ys t,hh = h1 ++ .list ys :: t /\ ys.length = i /\ ∀ (j : Nat) (y : Val),ys[j]? = some y -> T j y t,⟨[],[],rfl,rfl,fun j y hy => nomatch hy⟩,?_,?_,?_⟩
 ·rintro i hh ⟨ys,t,rfl,_,_⟩; exact zb7 (zab h1a)
 ·rintro i v hv hh ⟨ys,t,rfl,rfl,hy⟩
  refine zbT (wts_nil (br_t (W.mono (st _ v hv ys t) fun y h3 q => ?_)))
  obtain ⟨s,rfl,ht⟩ := q
  have hi := zaB hv
  refine ⟨ys,zah,by omega,ys ++ [y],t ++ s,zaJ,by rw [List.length_append]; rfl,fun j z hz => ?_⟩
  by_cases hj : j < ys.length
  ·rw [List.getElem?_append_left hj] at hz
   exact hT _ _ _ _ (hy j z hz)
  ·have hjl := zaB hz
   rw [List.length_append,List.length_singleton] at hjl
   have : j = ys.length := by omega
   subst this
   rw [List.getElem?_append_right (Nat.le_refl _),Nat.sub_self] at hz
   cases hz; exact ht
 ·rintro hh ⟨ys,t,rfl,hl,hy⟩; exact q ys t hl hy
theorem we_compJ {elt it : Ex} {x : Nat} {a : Nat} {vs : List Val} (J : MH -> List Val -> MH -> Prop) (hf : vs.length < c.fuel) (hl : vs.length <= lim)
  (q : WE c fr it h fun v h1 => v = .ref a /\ h1[a]? = some (.list vs) /\ J h1 [] [] /\
   (∀ ys t v,J h1 ys t -> vs[ys.length]? = some v -> WE c (fr.set x (some v)) elt (h1 ++ .list ys :: t) fun y h3 => ∃ s,h3 = h1 ++ .list ys :: (t ++ s) /\ J h1 (ys ++ [y]) (t ++ s)) /\
   ∀ ys t,ys.length = vs.length -> J h1 ys t -> Q (.ref h1.length) (h1 ++ .list ys :: t)) : WE c fr (.comp elt [x] false it []) h Q := by
 refine we_comp (W.mono q fun v h1 q => ?_)
 obtain ⟨rfl,h1a,j0,st,q⟩ := q
 refine ⟨.ls a,vs,zca h1a,hf,fun i hh => ∃ ys t,hh = h1 ++ .list ys :: t /\ ys.length = i /\ J h1 ys t,⟨[],[],rfl,rfl,j0⟩,?_,?_,?_⟩
 ·rintro i hh ⟨ys,t,rfl,_,_⟩; exact zb7 (zab h1a)
 ·rintro i v hv hh ⟨ys,t,rfl,rfl,hy⟩
  refine zbT (wts_nil (br_t (W.mono (st ys t v hy hv) fun y h3 q => ?_)))
  obtain ⟨s,rfl,ht⟩ := q
  have hi := zaB hv
  exact ⟨ys,zah,by omega,ys ++ [y],t ++ s,zaJ,by rw [List.length_append]; rfl,ht⟩
 ·rintro hh ⟨ys,t,rfl,hl,hy⟩; exact q ys t hl hy
noncomputable def pick (p : Nat -> Bool) (n : Nat) : List Nat := (List.range n).filter p
theorem pick_succ {p : Nat -> Bool} {n : Nat} : pick p (n + 1) = pick p n ++ (bif p n then [n] else []) := by
 unfold pick
 rw [List.range_succ,List.filter_append]
 cases hb : p n <;> simp [hb]
theorem zcO {p : Nat -> Bool} {n : Nat} : (pick p n).length <= n := by
 have := List.length_filter_le p (List.range n)
 rwa [List.length_range] at this
noncomputable def iVs (l : List Nat) : List Val := l.map fun (k : Nat) => Val.int (k : Int)
theorem we_compF {it : Ex} {x n : Nat} {ifs : List Ex} (p : Nat -> Bool) (hf : n < c.fuel) (hl : n <= lim)
  (q : WE c fr it h fun v h1 => v = .rng n /\ (∀ i,i < n -> ∀ acc,WTs c (fr.set x (some (.int i))) ifs (h1 ++ [.list acc]) fun b h2 => h2 = h1 ++ [.list acc] /\ b = p i) /\ (∀ i : Nat,(fr.set x (some (.int (i : Int))))[x]? = some (some (.int (i : Int)))) /\ Q (.ref h1.length) (h1 ++ [.list (iVs (pick p n))])) : WE c fr (.comp (.var x) [x] false it ifs) h Q := by
 refine we_comp (W.mono q fun v h1 q => ?_)
 obtain ⟨rfl,st,hx,q⟩ := q
 refine ⟨.rg n,rngL n,it_rng hl,by rw [za5]; exact hf,fun i hh => i <= n /\ hh = h1 ++ [.list (iVs (pick p i))],⟨Nat.zero_le _,rfl⟩,?_,?_,?_⟩
 ·rintro i hh ⟨hi,_⟩; exact nx_rng hi
 ·rintro i v hv hh ⟨_,rfl⟩
  obtain ⟨hi,rfl⟩ := rngL_of hv
  refine zbT (W.mono (st i hi _) fun b h2 q => ?_)
  obtain ⟨rfl,rfl⟩ := q
  refine br (fun hb => we_var (hx i) ⟨_,zah,?_,hi,?_⟩) (fun hb => ⟨hi,?_⟩)
  ·unfold iVs
   rw [List.length_map]
   have := zcO (p:=p) (n:=i)
   omega
  ·rw [zaJ,pick_succ,hb]
   unfold iVs
   rw [List.map_append]; rfl
  ·rw [pick_succ,hb,cond_false,List.append_nil]
 ·rintro hh ⟨_,rfl⟩
  rw [za5]; exact q
end
end Mi
namespace Mi
section
variable {c : Cx} {fr : Frame} {h : MH} {R : Fl -> Frame -> MH -> Prop} {σ : Type}
structure Inv (F : σ -> Frame) (G : σ -> MH) (P : σ -> Prop) (fr : Frame) (h : MH) : Prop where
 x : ∃ s,fr = F s /\ h = G s /\ P s
theorem Inv.of {F : σ -> Frame} {G : σ -> MH} {P : σ -> Prop} (s : σ) (hp : P s) : Inv F G P (F s) (G s) := ⟨s,rfl,rfl,hp⟩
structure To (F : σ -> Frame) (G : σ -> MH) (P : σ -> Prop) (R R' : Fl -> Frame -> MH -> Prop) : Prop where
 nx : ∀ s,P s -> R' .nx (F s) (G s)
 ct : ∀ s,P s -> R' .ct (F s) (G s)
 bk : ∀ fr h,R .nx fr h -> R' .bk fr h
 rt : ∀ v fr h,R (.rt v) fr h -> R' (.rt v) fr h
theorem to_turn {F : σ -> Frame} {G : σ -> MH} {P : σ -> Prop} : To F G P R (Turn (Inv F G P) R) := ⟨fun s hp => Inv.of s hp,fun s hp => Inv.of s hp,fun _ _ h => h,fun _ _ _ h => h⟩
theorem za2 {tg : List Nat} {many : Bool} {a : Nat} {e : Ex} {b : List Sm} {vs : List Val} (F : σ -> Frame) (G : σ -> MH) (P : Nat -> σ -> Prop) (hn : vs.length < c.fuel) (s0 : σ)
  (hk : ∀ i s,P i s -> (G s)[a]? = some (.list vs)) (q : WE c fr e h fun v h1 => v = .ref a /\ fr = F s0 /\ h1 = G s0 /\ P 0 s0)
  (step : ∀ i v s R',vs[i]? = some v -> P i s -> To F G (P (i + 1)) R R' -> Wo (zby (F s) tg many v) fun fr1 => WSs c b fr1 (G s) R')
  (stop : ∀ s,P vs.length s -> R .nx (F s) (G s)) : WS c (.fo tg many e b) fr h R :=
 ws_for (W.mono q fun v h1 q => by
  obtain ⟨rfl,rfl,rfl,I0⟩ := q
  refine ⟨.ls a,vs,zca (hk _ _ I0),hn,fun i => Inv F G (P i),Inv.of s0 I0,fun i fr h hI => ?_,fun i x hx fr h hI => ?_,fun fr h hI => ?_⟩
  ·obtain ⟨s,rfl,rfl,hp⟩ := hI.x
   exact zb7 (hk i s hp)
  ·obtain ⟨s,rfl,rfl,hp⟩ := hI.x
   exact step i x s _ hx hp to_turn
  ·obtain ⟨s,rfl,rfl,hp⟩ := hI.x
   exact stop s hp)
theorem zcC {x n : Nat} {e : Ex} {b : List Sm} (F : σ -> Frame) (G : σ -> MH) (P : Nat -> σ -> Prop) (hn : n < c.fuel) (hl : n <= lim) (s0 : σ)
  (q : WE c fr e h fun v h1 => v = .rng n /\ fr = F s0 /\ h1 = G s0 /\ P 0 s0)
  (step : ∀ i s R',i < n -> P i s -> To F G (P (i + 1)) R R' -> WSs c b ((F s).set x (some (.int i))) (G s) R')
  (stop : ∀ s,P n s -> R .nx (F s) (G s)) : WS c (.fo [x] false e b) fr h R :=
 zcD hn hl (fun i => Inv F G (P i)) (W.mono q fun v h1 q => ⟨q.1,by rw [q.2.1,q.2.2.1]; exact Inv.of s0 q.2.2.2⟩) (fun i hi fr h hI => by
  obtain ⟨s,rfl,rfl,hp⟩ := hI.x
  exact step i s _ hi hp to_turn) fun fr h hI => by
  obtain ⟨s,rfl,rfl,hp⟩ := hI.x
  exact stop s hp
theorem ws_whS {t : Ex} {b : List Sm} {k : Nat} (F : σ -> Frame) (G : σ -> MH) (P : Nat -> σ -> Prop) (hk : k < c.fuel) (s0 : σ) (e1 : fr = F s0) (e2 : h = G s0) (I0 : P k s0)
  (step : ∀ k s R',P k s -> To F G (fun s => ∃ j,j < k /\ P j s) R R' -> WE c (F s) t (G s) fun v h1 => WT v h1 fun r => Br r (WSs c b (F s) h1 R') (R .nx (F s) h1)) : WS c (.wh t b) fr h R := by
 subst e1; subst e2
 refine ws_wh (fun k => Inv F G (P k)) hk (Inv.of s0 I0) fun k fr h hI => ?_
 obtain ⟨s,rfl,rfl,hp⟩ := hI.x
 exact step k s _ hp ⟨fun s hp => ⟨hp.choose,hp.choose_spec.1,Inv.of s hp.choose_spec.2⟩,fun s hp => ⟨hp.choose,hp.choose_spec.1,Inv.of s hp.choose_spec.2⟩,fun _ _ h => h,fun _ _ _ h => h⟩
end
end Mi
namespace Mi
theorem srt0 (C : Cfg) : SrtOk C := fun _ _ _ => Ref.none
end Mi
open PySem PySem.W PySem.W.X PyProof.Rows PySem.Calls
set_option Elab.async false
set_option maxRecDepth 100000
set_option maxHeartbeats 8000000
set_option linter.unusedVariables false
lay_quick PySem.W.staticsOk PySem.W.namesBound PySem.W.laidKept PySem.W.xlAt PySem.W.recOk PySem.W.openGood
namespace Hd
noncomputable def lits0 : List String := ["builtins.copyright#opaque","builtins.credits#opaque","builtins.license#opaque"]
end Hd
lay_quick Hd.lits0
namespace Hd
noncomputable abbrev TP : Program := PySem.Challenge.pw_ui0508_10
theorem tePw : PySem.Challenge.pw_ui0508_10 = TP := rfl
noncomputable abbrev TWtopGo := PySem.W.Fast.tw15667345088766844465
theorem Fast_topGo : @topGo = TWtopGo := PySem.W.Fast.te15667345088766844465
noncomputable abbrev TWtopRun := PySem.W.Fast.tw14082659384304107361
theorem Fast_topRun : @topRun = TWtopRun := PySem.W.Fast.te14082659384304107361
noncomputable abbrev TWsegRun := PySem.W.Fast.tw14374325043358763698
theorem Fast_segRun : @segRun = TWsegRun := PySem.W.Fast.te14374325043358763698
noncomputable abbrev TWsegRunT := PySem.W.Fast.tw10110043849684766642
theorem Fast_segRunT : @segRunT = TWsegRunT := PySem.W.Fast.te10110043849684766642
noncomputable abbrev TWtable := PySem.W.Fast.tw14364793385576792824
theorem Fast_table : @treeTable = TWtable := PySem.W.Fast.te14364793385576792824
noncomputable abbrev TWdenote := PySem.W.Fast.tw11892475500146522536
theorem Fast_denote : @denote = TWdenote := PySem.W.Fast.te11892475500146522536
noncomputable def takeS : Nat -> List Stmt -> List Stmt
 | 0,_ => []
 | _ + 1,[] => []
 | n + 1,s :: r => s :: takeS n r
noncomputable def dropS : Nat -> List Stmt -> List Stmt
 | 0,l => l
 | _ + 1,[] => []
 | n + 1,_ :: r => dropS n r
noncomputable abbrev FnT := Arguments × List Stmt × Scope
noncomputable def noFn : FnT := (⟨[],[],none,[],[],none,[]⟩,[],⟨.function,[],false,false,[]⟩)
noncomputable def fnOfL : List Stmt -> FnT
 | .FunctionDef _ a b _ _ _ sc _ _ _ :: _ => (a,b,sc)
 | _ => noFn
noncomputable def clsOfL : List Stmt -> List Stmt
 | .ClassDef _ _ _ b _ _ _ _ _ _ _ :: _ => b
 | _ => []
noncomputable def fnA (i : Nat) : FnT := fnOfL (dropS i TP.main.body)
noncomputable def fnB (i j : Nat) : FnT := fnOfL (dropS j (clsOfL (dropS i TP.main.body)))
noncomputable def fdOf (f : FnT) (name qual : PySem.Str) (g : Addr) (cl : List (PySem.Str × Addr)) (dV kV doc pm : Value) (an : Option Addr) (cd ct : Value) (b : Addr) : FuncData :=
 { name := name,qualname := qual,params := f.1,body := .stmts f.2.1,scope := f.2.2,globals := g,closure := cl,defaults := dV,kwdefaults := kV,doc := doc,pyModule := pm,annotations := an,code := cd,closureTuple := ct,builtins := b }
noncomputable def de (P : Params) (n : PySem.Str) (t : Tok) (v : Value) : DictEntry := ⟨PyData.keyHash P n,.str n t,v⟩
noncomputable abbrev XN (l : List Nat) : PySem.Str := ⟨⟨l⟩⟩
noncomputable abbrev X9 (i : Int) (t : Tok) : Value := Value.int i t
noncomputable abbrev X0 (i : Int) : Value := Value.int i 0
noncomputable abbrev XS (s : PySem.Str) (t : Tok) : Value := Value.str s t
noncomputable abbrev XB (b : Bool) : Value := Value.bool b
noncomputable abbrev X7 : Value := Value.none
noncomputable abbrev X6 {α : Type} : Option α := Option.none
noncomputable abbrev X8 {α : Type} (l : List α) : Array α := Array.mk l
noncomputable abbrev X1 (a : Addr) : Value := .ref a
noncomputable def XO (c : Value) (d : Option Addr) (b : Data) : Params -> Obj := fun _ => ⟨c,d,b,Array.mk []⟩
noncomputable def X2 (n : PySem.Str) (t : Tok) (v : Value) : Params -> DictEntry := fun P => de P n t v
noncomputable abbrev XF (f : FnT) (n q : PySem.Str) (g : Addr) (dV kV doc pm : Value) (an : Option Addr) (cd ct : Value)   : Data := .func (fdOf f n q g [] dV kV doc pm an cd ct 0)
noncomputable abbrev X3 (o : Params -> Obj) (x y : Params -> BT) : Params -> BT := fun P => .node (o P) (x P) (y P)
noncomputable abbrev X4 (o : Params -> Obj) : Params -> BT := fun P => .node (o P) .nil .nil
noncomputable abbrev X5 : Params -> BT := fun _ => .nil
noncomputable abbrev XT0 : Value := Value.type PySem.W.SL.s2766695959194262286x5
noncomputable abbrev XT1 : Value := Value.type PySem.W.SL.s5856160107412720595x4
noncomputable abbrev XT2 : Value := Value.type PySem.W.SL.s14018661285674007319x4
noncomputable abbrev XT3 : Value := Value.type PySem.W.SL.s7174869446012820540x8
noncomputable abbrev XT4 : Value := Value.type PySem.W.SL.s6070975301684473832x10
noncomputable abbrev XT5 : Value := Value.type PySem.W.SL.s11030030927630378310x26
noncomputable abbrev XT6 : Value := Value.type PySem.W.SL.s17162191345867700912x4
noncomputable abbrev XT7 : Value := Value.type PySem.W.SL.s14755015743595814543x17
noncomputable abbrev XT8 : Value := Value.type PySem.W.SL.s4290257624100764138x5
noncomputable abbrev XT9 : Value := Value.type PySem.W.SL.s9222952809800978799x4
noncomputable abbrev XT10 : Value := Value.type PySem.W.SL.s2742458400755230247x6
noncomputable abbrev XT11 : Value := Value.type PySem.W.SL.s11695548795398191787x4
noncomputable abbrev XT12 : Value := Value.type PySem.W.SL.s4156966113859768872x10
noncomputable abbrev XT13 : Value := Value.type PySem.W.SL.s9501651726347032510x9
noncomputable abbrev XT14 : Value := Value.type PySem.W.SL.s15722918466584999320x5
noncomputable abbrev XT15 : Value := Value.type PySem.W.SL.s591115383303110208x11
noncomputable abbrev XT16 : Value := Value.type PySem.W.SL.s15721156781594690315x7
noncomputable abbrev XT17 : Value := Value.type PySem.W.SL.s14340494229221121180x9
noncomputable abbrev XT18 : Value := Value.type PySem.W.SL.s13429844117177748173x6
noncomputable abbrev XT19 : Value := Value.type PySem.W.SL.s16463266125957815391x5
noncomputable abbrev XT20 : Value := Value.type PySem.W.SL.s4922535414793169389x9
noncomputable abbrev XT21 : Value := Value.type PySem.W.SL.s8101838861749082086x8
noncomputable abbrev XT22 : Value := Value.type PySem.W.SL.s7066276694103001551x3
noncomputable abbrev XT23 : Value := Value.type PySem.W.SL.s462964344163437139x3
noncomputable abbrev XT24 : Value := Value.type PySem.W.SL.s1438033511350832697x5
noncomputable abbrev XT25 : Value := Value.type PySem.W.SL.s14365286008749172514x8
noncomputable abbrev XT26 : Value := Value.type PySem.W.SL.s3642769012341782148x3
noncomputable abbrev XT27 : Value := Value.type PySem.W.SL.s4674234679698826739x5
noncomputable abbrev XT28 : Value := Value.type PySem.W.SL.s16656946322747308186x12
noncomputable abbrev XT29 : Value := Value.type PySem.W.SL.s10796804682411823810x3
noncomputable abbrev XT30 : Value := Value.type PySem.W.SL.s14339709457334898076x3
noncomputable abbrev XT31 : Value := Value.type PySem.W.SL.s4278001404047624695x13
noncomputable abbrev XT32 : Value := Value.type PySem.W.SL.s6585700554429387442x18
noncomputable abbrev XT33 : Value := Value.type PySem.W.SL.s5946037652744460706x9
noncomputable abbrev XT34 : Value := Value.type PySem.W.SL.s7410770068591931388x13
noncomputable abbrev XT35 : Value := Value.type PySem.W.SL.s11817881795495490833x17
noncomputable abbrev XT36 : Value := Value.type PySem.W.SL.s15679963881808890155x10
noncomputable abbrev XT37 : Value := Value.type PySem.W.SL.s3871700062485845797x15
noncomputable abbrev XT38 : Value := Value.type PySem.W.SL.s7689518266570723881x14
noncomputable abbrev XT39 : Value := Value.type PySem.W.SL.s9001593270443806431x14
noncomputable abbrev XT40 : Value := Value.type PySem.W.SL.s6882542574934516792x11
noncomputable abbrev XT41 : Value := Value.type PySem.W.SL.s14403400214490484960x8
noncomputable abbrev XT42 : Value := Value.type PySem.W.SL.s14457978657717015782x11
noncomputable abbrev XT43 : Value := Value.type PySem.W.SL.s1753610191782819921x11
noncomputable abbrev XT44 : Value := Value.type PySem.W.SL.s14119380538032626715x11
noncomputable abbrev XT45 : Value := Value.type PySem.W.SL.s11437920000406562045x9
noncomputable abbrev XT46 : Value := Value.type PySem.W.SL.s10852414792293593619x7
noncomputable abbrev XT47 : Value := Value.type PySem.W.SL.s14816307405966870543x14
noncomputable abbrev XT48 : Value := Value.type PySem.W.SL.s8682627914449686677x12
noncomputable abbrev XT49 : Value := Value.type PySem.W.SL.s4428170145600203450x18
noncomputable abbrev XT50 : Value := Value.type PySem.W.SL.s5991306692159431302x13
noncomputable abbrev XT51 : Value := Value.type PySem.W.SL.s16067994140765818257x11
noncomputable abbrev XT52 : Value := Value.type PySem.W.SL.s2327743974964600596x11
noncomputable abbrev XT53 : Value := Value.type PySem.W.SL.s2804747833354056582x9
noncomputable abbrev XT54 : Value := Value.type PySem.W.SL.s14270485950484850486x7
noncomputable abbrev XT55 : Value := Value.type PySem.W.SL.s12041534306414923332x18
noncomputable abbrev XT56 : Value := Value.type PySem.W.SL.s2531307568338490285x13
noncomputable abbrev XT57 : Value := Value.type PySem.W.SL.s631175304937289666x17
noncomputable abbrev XT58 : Value := Value.type PySem.W.SL.s5144983644357021410x12
noncomputable abbrev XT59 : Value := Value.type PySem.W.SL.s18039099521571816885x18
noncomputable abbrev XT60 : Value := Value.type PySem.W.SL.s6011586214260557989x15
noncomputable abbrev XT61 : Value := Value.type PySem.W.SL.s5430567037509283100x13
noncomputable abbrev XT62 : Value := Value.type PySem.W.SL.s8117915138073963741x13
noncomputable abbrev XT63 : Value := Value.type PySem.W.SL.s3423317712779056401x25
noncomputable abbrev XT64 : Value := Value.type PySem.W.SL.s2007317383269046180x15
noncomputable abbrev XT65 : Value := Value.type PySem.W.SL.s17481586968713580700x14
noncomputable abbrev XT66 : Value := Value.type PySem.W.SL.s2450899226349176912x13
noncomputable abbrev XT67 : Value := Value.type PySem.W.SL.s16626165730633575011x14
noncomputable abbrev XT68 : Value := Value.type PySem.W.SL.s14288496050688921416x11
noncomputable abbrev XT69 : Value := Value.type PySem.W.SL.s5735081916595925998x15
noncomputable abbrev XT70 : Value := Value.type PySem.W.SL.s3865607918536308442x17
noncomputable abbrev XT71 : Value := Value.type PySem.W.SL.s13337502604062700212x15
noncomputable abbrev XT72 : Value := Value.type PySem.W.SL.s13114017843053701147x15
noncomputable abbrev XT73 : Value := Value.type PySem.W.SL.s17467278006356818441x17
noncomputable abbrev XT74 : Value := Value.type PySem.W.SL.s17722149559621369488x16
noncomputable abbrev XT75 : Value := Value.type PySem.W.SL.s7855274175708717672x17
noncomputable abbrev XT76 : Value := Value.type PySem.W.SL.s13351283678309829046x18
noncomputable abbrev XT77 : Value := Value.type PySem.W.SL.s6668348653404991179x15
noncomputable abbrev XT78 : Value := Value.type PySem.W.SL.s12913350958174193794x18
noncomputable abbrev XT79 : Value := Value.type PySem.W.SL.s16115879512475548326x12
noncomputable abbrev XT80 : Value := Value.type PySem.W.SL.s15920661018069861047x16
noncomputable abbrev XT81 : Value := Value.type PySem.W.SL.s10779130036587390575x21
noncomputable abbrev XT82 : Value := Value.type PySem.W.SL.s7801419657504700863x10
noncomputable abbrev XT83 : Value := Value.type PySem.W.SL.s1688129525768580628x8
noncomputable abbrev XT84 : Value := Value.type PySem.W.SL.s1031832959479892071x19
noncomputable abbrev XT85 : Value := Value.type PySem.W.SL.s8991790508128307865x19
noncomputable abbrev XT86 : Value := Value.type PySem.W.SL.s14539662485746970245x23
noncomputable abbrev XT87 : Value := Value.type PySem.W.SL.s11643622729373238714x14
noncomputable abbrev XT88 : Value := Value.type PySem.W.SL.s3386828779285465597x17
noncomputable abbrev XT89 : Value := Value.type PySem.W.SL.s13042696260734638735x12
noncomputable abbrev XT90 : Value := Value.type PySem.W.SL.s18239426817015966623x15
noncomputable abbrev XT91 : Value := Value.type PySem.W.SL.s1270395311379034370x22
noncomputable abbrev XT92 : Value := Value.type PySem.W.SL.s10696252587037064777x22
noncomputable abbrev XT93 : Value := Value.type PySem.W.SL.s7852717498200857586x20
noncomputable abbrev XT94 : Value := Value.type PySem.W.SL.s6377248116197321094x8
noncomputable abbrev XT95 : Value := Value.type PySem.W.SL.s3834378056692298002x18
noncomputable abbrev XT96 : Value := Value.type PySem.W.SL.s17586630440231065808x18
noncomputable abbrev XT97 : Value := Value.type PySem.W.SL.s15234114252648025395x21
noncomputable abbrev XT98 : Value := Value.type PySem.W.SL.s8496462677383758984x14
noncomputable abbrev XT99 : Value := Value.type PySem.W.SL.s6658869562736209489x6
noncomputable def n0 := XN [60,109,111,100,117,108,101,62]
noncomputable def n1 := XN [47,99,108,97,105,109,47,99,117,116,46,112,121]
noncomputable def n2 := XN [95,95,109,97,105,110,95,95]
noncomputable def n3 := XN [95,95,110,97,109,101,95,95]
noncomputable def n4 := XN [116,114,97,110,115,100,117,99,101,46,115,116,97,114,115]
noncomputable def n5 := XN [95,95,100,111,99,95,95]
noncomputable def n6 := XN [95,95,112,97,99,107,97,103,101,95,95]
noncomputable def n7 := XN [95,95,108,111,97,100,101,114,95,95]
noncomputable def n8 := XN [95,95,115,112,101,99,95,95]
noncomputable def n9 := XN [95,95,97,110,110,111,116,97,116,105,111,110,115,95,95]
noncomputable def n10 := XN [95,95,98,117,105,108,116,105,110,115,95,95]
noncomputable def n11 := XN [95,95,102,105,108,101,95,95]
noncomputable def n12 := XN [95,95,99,97,99,104,101,100,95,95]
noncomputable def n13 := XN [95,119,97,108,108]
noncomputable def n14 := XN [68,73,71,73,84,83]
noncomputable def n15 := XN [48,49,50,51,52,53,54,55,56,57]
noncomputable def n16 := XN [70,73,71,85,82,69,83]
noncomputable def n17 := XN [71,82,69,65,84,69,83,84]
noncomputable def n18 := XN [77,65,82,75,83]
noncomputable def n19 := XN [32,9,10,58,47,95,91,93,62,35,59,63,61]
noncomputable def n20 := XN [77,97,99,104,105,110,101,69,114,114,111,114]
noncomputable def n21 := XN [105,115,95,108,101,116,116,101,114]
noncomputable def n22 := XN [110,101,101,100,95,108,101,116,116,101,114]
noncomputable def n23 := XN [110,101,101,100,95,108,97,98,101,108]
noncomputable def n24 := XN [110,101,101,100,95,119,111,114,100]
noncomputable def n25 := XN [110,101,101,100,95,99,111,117,110,116]
noncomputable def n26 := XN [115,104,111,119,110]
noncomputable def n27 := XN [119,101,105,103,104,116,95,111,102]
noncomputable def n28 := XN [77,79,83,84]
noncomputable def n29 := XN [116,97,98,108,101]
noncomputable def n30 := XN [97,100,100]
noncomputable def n31 := XN [115,116,97,114]
noncomputable def n32 := XN [107]
noncomputable def n33 := XN [95,95,109,111,100,117,108,101,95,95]
noncomputable def n34 := XN [116,114,97,110,115,100,117,99,101,46,101,114,114,111,114,115]
noncomputable def n35 := XN [95,95,113,117,97,108,110,97,109,101,95,95]
noncomputable def n36 := XN [95,95,102,105,114,115,116,108,105,110,101,110,111,95,95]
noncomputable def n37 := XN [95,95,115,116,97,116,105,99,95,97,116,116,114,105,98,117,116,101,115,95,95]
noncomputable def n38 := XN [95,95,119,101,97,107,114,101,102,95,95]
noncomputable def n39 := XN [115,105,103,110]
noncomputable def n40 := XN [119,111,114,100]
noncomputable def n41 := XN [118,97,108,117,101]
noncomputable def n42 := XN [108,101,97,115,116]
noncomputable def n43 := XN [109,111,115,116]
noncomputable def n44 := XN [119,104,97,116]
noncomputable def n45 := XN [116,101,120,116]
noncomputable def n46 := XN [114,105,110,103]
noncomputable def n47 := XN [114,111,119]
noncomputable def n48 := XN [112,108,97,99,101]
noncomputable def n49 := XN [119,101,105,103,104,116]
noncomputable def n50 := XN [116,114,97,110,115,100,117,99,101,46,114,105,110,103,115]
noncomputable def n51 := XN [114,111,119,95,116,105,109,101,115]
noncomputable def n52 := XN [101,109,112,116,121,95,115,116,97,114]
noncomputable def n53 := XN [114,111,119,115]
noncomputable def n54 := XN [111,117,116]
noncomputable def n55 := XN [105]
noncomputable def n56 := XN [106]
noncomputable def n57 := XN [109,97,99,104,105,110,101]
noncomputable def n58 := XN [89,101,115]
noncomputable def n59 := XN [110,97,109,101]
noncomputable def n60 := XN [121,101,115]
noncomputable def n61 := XN [104,97,115,95,111,114,100,101,114]
noncomputable def n62 := XN [99,97,110,95,112,97,114,116]
noncomputable def n63 := XN [110,111,117,103,104,116]
noncomputable def n64 := XN [111,110,101]
noncomputable def n65 := XN [110,101,101,100]
noncomputable def n66 := XN [112,108,117,115]
noncomputable def n67 := XN [116,105,109,101,115]
noncomputable def n68 := XN [99,111,109,109,111,110]
noncomputable def n69 := XN [111,118,101,114]
noncomputable def n70 := XN [105,115,95,98,101,116,116,101,114]
noncomputable def n71 := XN [115,104,111,119]
noncomputable def n72 := XN [114,101,97,100]
noncomputable def n73 := XN [115,101,108,102]
noncomputable def n74 := XN [97]
noncomputable def n75 := XN [89,101,115,46,110,101,101,100]
noncomputable def n76 := XN [98]
noncomputable def n77 := XN [89,101,115,46,112,108,117,115]
noncomputable def n78 := XN [89,101,115,46,116,105,109,101,115]
noncomputable def n79 := XN [89,101,115,46,115,116,97,114]
noncomputable def n80 := XN [89,101,115,46,99,111,109,109,111,110]
noncomputable def n81 := XN [89,101,115,46,111,118,101,114]
noncomputable def n82 := XN [89,101,115,46,105,115,95,98,101,116,116,101,114]
noncomputable def n83 := XN [89,101,115,46,115,104,111,119]
noncomputable def n84 := XN [89,101,115,46,114,101,97,100]
noncomputable def n85 := XN [95,95,100,105,99,116,95,95]
noncomputable def n86 := XN [76,101,97,115,116]
noncomputable def n87 := XN [76,101,97,115,116,46,110,101,101,100]
noncomputable def n88 := XN [76,101,97,115,116,46,112,108,117,115]
noncomputable def n89 := XN [76,101,97,115,116,46,116,105,109,101,115]
noncomputable def n90 := XN [76,101,97,115,116,46,115,116,97,114]
noncomputable def n91 := XN [76,101,97,115,116,46,99,111,109,109,111,110]
noncomputable def n92 := XN [76,101,97,115,116,46,111,118,101,114]
noncomputable def n93 := XN [76,101,97,115,116,46,105,115,95,98,101,116,116,101,114]
noncomputable def n94 := XN [76,101,97,115,116,46,115,104,111,119]
noncomputable def n95 := XN [76,101,97,115,116,46,114,101,97,100]
noncomputable def n96 := XN [67,111,117,110,116]
noncomputable def n97 := XN [95,103,99,100]
noncomputable def n98 := XN [99,111,117,110,116]
noncomputable def n99 := XN [67,111,117,110,116,46,110,101,101,100]
noncomputable def n100 := XN [67,111,117,110,116,46,112,108,117,115]
noncomputable def n101 := XN [67,111,117,110,116,46,116,105,109,101,115]
noncomputable def n102 := XN [67,111,117,110,116,46,115,116,97,114]
noncomputable def n103 := XN [67,111,117,110,116,46,99,111,109,109,111,110]
noncomputable def n104 := XN [67,111,117,110,116,46,111,118,101,114]
noncomputable def n105 := XN [67,111,117,110,116,46,105,115,95,98,101,116,116,101,114]
noncomputable def n106 := XN [67,111,117,110,116,46,115,104,111,119]
noncomputable def n107 := XN [67,111,117,110,116,46,114,101,97,100]
noncomputable def n108 := XN [67,104,97,110,99,101]
noncomputable def n109 := XN [99,104,97,110,99,101]
noncomputable def n110 := XN [67,104,97,110,99,101,46,110,101,101,100]
noncomputable def n111 := XN [67,104,97,110,99,101,46,112,108,117,115]
noncomputable def n112 := XN [67,104,97,110,99,101,46,116,105,109,101,115]
noncomputable def n113 := XN [67,104,97,110,99,101,46,115,116,97,114]
noncomputable def n114 := XN [67,104,97,110,99,101,46,99,111,109,109,111,110]
noncomputable def n115 := XN [67,104,97,110,99,101,46,111,118,101,114]
noncomputable def n116 := XN [67,104,97,110,99,101,46,105,115,95,98,101,116,116,101,114]
noncomputable def n117 := XN [67,104,97,110,99,101,46,115,104,111,119]
noncomputable def n118 := XN [117,112,112,101,114]
noncomputable def n119 := XN [109,97,114,107]
noncomputable def n120 := XN [108,111,119,101,114]
noncomputable def n121 := XN [67,104,97,110,99,101,46,114,101,97,100]
noncomputable def n122 := XN [76,105,107,101,108,121]
noncomputable def n123 := XN [102,114,97,99,116,105,111,110]
noncomputable def n124 := XN [108,105,107,101,108,121]
noncomputable def n125 := XN [76,105,107,101,108,121,46,110,101,101,100]
noncomputable def n126 := XN [76,105,107,101,108,121,46,112,108,117,115]
noncomputable def n127 := XN [76,105,107,101,108,121,46,115,116,97,114]
noncomputable def n128 := XN [76,105,107,101,108,121,46,105,115,95,98,101,116,116,101,114]
noncomputable def n129 := XN [110]
noncomputable def n130 := XN [100]
noncomputable def n131 := XN [98,121]
noncomputable def n132 := XN [116,114,97,110,115,100,117,99,101,46,109,97,99,104,105,110,101]
noncomputable def n133 := XN [82,73,78,71,83]
noncomputable def n134 := XN [77,79,83,84,95,83,84,65,84,69,83]
noncomputable def n135 := XN [77,79,83,84,95,65,82,67,83]
noncomputable def n136 := XN [79,78,69]
noncomputable def n137 := XN [65,114,99]
noncomputable def n138 := XN [95,95,105,110,105,116,95,95]
noncomputable def n139 := XN [105,115,95,101,109,112,116,121]
noncomputable def n140 := XN [108,97,98,101,108]
noncomputable def n141 := XN [116,97,114,103,101,116]
noncomputable def n142 := XN [65,114,99,46,95,95,105,110,105,116,95,95]
noncomputable def n143 := XN [65,114,99,46,105,115,95,101,109,112,116,121]
noncomputable def n144 := XN [65,114,99,46,108,97,98,101,108]
noncomputable def n145 := XN [77,97,99,104,105,110,101]
noncomputable def n146 := XN [95,110,101,101,100,95,114,111,111,109]
noncomputable def n147 := XN [115,116,97,116,101]
noncomputable def n148 := XN [115,116,97,116,101,115]
noncomputable def n149 := XN [110,101,101,100,95,115,116,97,116,101]
noncomputable def n150 := XN [97,114,99]
noncomputable def n151 := XN [99,104,97,105,110]
noncomputable def n152 := XN [98,101,103,105,110]
noncomputable def n153 := XN [101,110,100]
noncomputable def n154 := XN [115,105,122,101]
noncomputable def n155 := XN [99,111,117,110,116,95,97,114,99,115]
noncomputable def n156 := XN [104,97,115,95,101,109,112,116,121]
noncomputable def n157 := XN [108,97,98,101,108,115]
noncomputable def n158 := XN [105,115,95,112,108,97,105,110]
noncomputable def n159 := XN [99,111,112,121]
noncomputable def n160 := XN [108,105,110,101,115]
noncomputable def n161 := XN [77,97,99,104,105,110,101,46,95,95,105,110,105,116,95,95]
noncomputable def n162 := XN [77,97,99,104,105,110,101,46,95,110,101,101,100,95,114,111,111,109]
noncomputable def n163 := XN [77,97,99,104,105,110,101,46,115,116,97,116,101]
noncomputable def n164 := XN [77,97,99,104,105,110,101,46,115,116,97,116,101,115]
noncomputable def n165 := XN [110,117,109,98,101,114]
noncomputable def n166 := XN [77,97,99,104,105,110,101,46,110,101,101,100,95,115,116,97,116,101]
noncomputable def n167 := XN [115,111,117,114,99,101]
noncomputable def n168 := XN [77,97,99,104,105,110,101,46,97,114,99]
noncomputable def n169 := XN [97,116]
noncomputable def n170 := XN [98,101,104,105,110,100]
noncomputable def n171 := XN [77,97,99,104,105,110,101,46,99,104,97,105,110]
noncomputable def n172 := XN [115,116,97,114,116]
noncomputable def n173 := XN [77,97,99,104,105,110,101,46,98,101,103,105,110]
noncomputable def n174 := XN [77,97,99,104,105,110,101,46,101,110,100]
noncomputable def n175 := XN [77,97,99,104,105,110,101,46,115,105,122,101]
noncomputable def n176 := XN [77,97,99,104,105,110,101,46,99,111,117,110,116,95,97,114,99,115]
noncomputable def n177 := XN [77,97,99,104,105,110,101,46,104,97,115,95,101,109,112,116,121]
noncomputable def n178 := XN [77,97,99,104,105,110,101,46,108,97,98,101,108,115]
noncomputable def n179 := XN [77,97,99,104,105,110,101,46,105,115,95,112,108,97,105,110]
noncomputable def n180 := XN [77,97,99,104,105,110,101,46,99,111,112,121]
noncomputable def n181 := XN [77,97,99,104,105,110,101,46,108,105,110,101,115]
noncomputable def n182 := XN [95,99,111,117,110,116]
noncomputable def n183 := XN [97,114,99,115]
noncomputable def n184 := XN [101,110,100,115]
noncomputable def n185 := XN [102,105,114,115,116]
noncomputable def n186 := XN [108,97,119,95,117,105,48,53,48,56,95,49,48]
noncomputable def n187 := XN [116,114,105,109]
noncomputable def n188 := XN [95,111,110,119,97,114,100]
noncomputable def n189 := XN [95,98,97,99,107,119,97,114,100]
noncomputable def n190 := XN [95,109,101,116]
noncomputable def n191 := XN [76,79,78,71,69,83,84]
noncomputable def n192 := XN [95,110,101,101,100,95,115,104,111,114,116]
noncomputable def n193 := XN [95,102,105,114,115,116]
noncomputable def n194 := XN [95,102,105,116,115]
noncomputable def n195 := XN [95,97,100,100]
noncomputable def n196 := XN [95,101,110,100,101,100]
noncomputable def n197 := XN [111,102,95,112,97,105,114,115]
noncomputable def n198 := XN [108,97,119]
noncomputable def n199 := XN [98,101,115,105,100,101]
noncomputable def n200 := XN [109,101,116]
noncomputable def n201 := XN [119,111,114,107]
noncomputable def n202 := XN [111,116,104,101,114]
noncomputable def n203 := XN [116,114,97,110,115,100,117,99,101,46,114,117,110]
noncomputable def n204 := XN [108,101,116,116,101,114]
noncomputable def n205 := XN [107,101,121]
noncomputable def n206 := XN [116,114,97,110,115,100,117,99,101,46,114,97,116,105,111,110,97,108]
noncomputable def n207 := XN [115,99,114,105,112,116]
noncomputable def n208 := XN [116,119,111]
noncomputable def n209 := XN [98,117,105,108,116,105,110,115]
noncomputable def n210 := XN [95,95,98,117,105,108,100,95,99,108,97,115,115,95,95]
noncomputable def n211 := XN [95,95,105,109,112,111,114,116,95,95]
noncomputable def n212 := XN [97,98,115]
noncomputable def n213 := XN [97,108,108]
noncomputable def n214 := XN [97,110,121]
noncomputable def n215 := XN [97,115,99,105,105]
noncomputable def n216 := XN [98,105,110]
noncomputable def n217 := XN [98,114,101,97,107,112,111,105,110,116]
noncomputable def n218 := XN [99,97,108,108,97,98,108,101]
noncomputable def n219 := XN [99,104,114]
noncomputable def n220 := XN [99,111,109,112,105,108,101]
noncomputable def n221 := XN [100,101,108,97,116,116,114]
noncomputable def n222 := XN [100,105,114]
noncomputable def n223 := XN [100,105,118,109,111,100]
noncomputable def n224 := XN [101,118,97,108]
noncomputable def n225 := XN [101,120,101,99]
noncomputable def n226 := XN [102,111,114,109,97,116]
noncomputable def n227 := XN [103,101,116,97,116,116,114]
noncomputable def n228 := XN [103,108,111,98,97,108,115]
noncomputable def n229 := XN [104,97,115,97,116,116,114]
noncomputable def n230 := XN [104,97,115,104]
noncomputable def n231 := XN [104,101,120]
noncomputable def n232 := XN [105,100]
noncomputable def n233 := XN [105,110,112,117,116]
noncomputable def n234 := XN [105,115,105,110,115,116,97,110,99,101]
noncomputable def n235 := XN [105,115,115,117,98,99,108,97,115,115]
noncomputable def n236 := XN [105,116,101,114]
noncomputable def n237 := XN [97,105,116,101,114]
noncomputable def n238 := XN [108,101,110]
noncomputable def n239 := XN [108,111,99,97,108,115]
noncomputable def n240 := XN [109,97,120]
noncomputable def n241 := XN [109,105,110]
noncomputable def n242 := XN [110,101,120,116]
noncomputable def n243 := XN [97,110,101,120,116]
noncomputable def n244 := XN [111,99,116]
noncomputable def n245 := XN [111,114,100]
noncomputable def n246 := XN [112,111,119]
noncomputable def n247 := XN [112,114,105,110,116]
noncomputable def n248 := XN [114,101,112,114]
noncomputable def n249 := XN [114,111,117,110,100]
noncomputable def n250 := XN [115,101,116,97,116,116,114]
noncomputable def n251 := XN [115,111,114,116,101,100]
noncomputable def n252 := XN [115,117,109]
noncomputable def n253 := XN [118,97,114,115]
noncomputable def n254 := XN [78,111,110,101]
noncomputable def n255 := XN [69,108,108,105,112,115,105,115]
noncomputable def n256 := XN [78,111,116,73,109,112,108,101,109,101,110,116,101,100]
noncomputable def n257 := XN [70,97,108,115,101]
noncomputable def n258 := XN [84,114,117,101]
noncomputable def n259 := XN [98,111,111,108]
noncomputable def n260 := XN [109,101,109,111,114,121,118,105,101,119]
noncomputable def n261 := XN [98,121,116,101,97,114,114,97,121]
noncomputable def n262 := XN [98,121,116,101,115]
noncomputable def n263 := XN [99,108,97,115,115,109,101,116,104,111,100]
noncomputable def n264 := XN [99,111,109,112,108,101,120]
noncomputable def n265 := XN [100,105,99,116]
noncomputable def n266 := XN [101,110,117,109,101,114,97,116,101]
noncomputable def n267 := XN [102,105,108,116,101,114]
noncomputable def n268 := XN [102,108,111,97,116]
noncomputable def n269 := XN [102,114,111,122,101,110,115,101,116]
noncomputable def n270 := XN [112,114,111,112,101,114,116,121]
noncomputable def n271 := XN [105,110,116]
noncomputable def n272 := XN [108,105,115,116]
noncomputable def n273 := XN [109,97,112]
noncomputable def n274 := XN [111,98,106,101,99,116]
noncomputable def n275 := XN [114,97,110,103,101]
noncomputable def n276 := XN [114,101,118,101,114,115,101,100]
noncomputable def n277 := XN [115,101,116]
noncomputable def n278 := XN [115,108,105,99,101]
noncomputable def n279 := XN [115,116,97,116,105,99,109,101,116,104,111,100]
noncomputable def n280 := XN [115,116,114]
noncomputable def n281 := XN [115,117,112,101,114]
noncomputable def n282 := XN [116,117,112,108,101]
noncomputable def n283 := XN [116,121,112,101]
noncomputable def n284 := XN [122,105,112]
noncomputable def n285 := XN [95,95,100,101,98,117,103,95,95]
noncomputable def n286 := XN [66,97,115,101,69,120,99,101,112,116,105,111,110]
noncomputable def n287 := XN [66,97,115,101,69,120,99,101,112,116,105,111,110,71,114,111,117,112]
noncomputable def n288 := XN [69,120,99,101,112,116,105,111,110]
noncomputable def n289 := XN [71,101,110,101,114,97,116,111,114,69,120,105,116]
noncomputable def n290 := XN [75,101,121,98,111,97,114,100,73,110,116,101,114,114,117,112,116]
noncomputable def n291 := XN [83,121,115,116,101,109,69,120,105,116]
noncomputable def n292 := XN [65,114,105,116,104,109,101,116,105,99,69,114,114,111,114]
noncomputable def n293 := XN [65,115,115,101,114,116,105,111,110,69,114,114,111,114]
noncomputable def n294 := XN [65,116,116,114,105,98,117,116,101,69,114,114,111,114]
noncomputable def n295 := XN [66,117,102,102,101,114,69,114,114,111,114]
noncomputable def n296 := XN [69,79,70,69,114,114,111,114]
noncomputable def n297 := XN [73,109,112,111,114,116,69,114,114,111,114]
noncomputable def n298 := XN [76,111,111,107,117,112,69,114,114,111,114]
noncomputable def n299 := XN [77,101,109,111,114,121,69,114,114,111,114]
noncomputable def n300 := XN [78,97,109,101,69,114,114,111,114]
noncomputable def n301 := XN [79,83,69,114,114,111,114]
noncomputable def n302 := XN [82,101,102,101,114,101,110,99,101,69,114,114,111,114]
noncomputable def n303 := XN [82,117,110,116,105,109,101,69,114,114,111,114]
noncomputable def n304 := XN [83,116,111,112,65,115,121,110,99,73,116,101,114,97,116,105,111,110]
noncomputable def n305 := XN [83,116,111,112,73,116,101,114,97,116,105,111,110]
noncomputable def n306 := XN [83,121,110,116,97,120,69,114,114,111,114]
noncomputable def n307 := XN [83,121,115,116,101,109,69,114,114,111,114]
noncomputable def n308 := XN [84,121,112,101,69,114,114,111,114]
noncomputable def n309 := XN [86,97,108,117,101,69,114,114,111,114]
noncomputable def n310 := XN [87,97,114,110,105,110,103]
noncomputable def n311 := XN [70,108,111,97,116,105,110,103,80,111,105,110,116,69,114,114,111,114]
noncomputable def n312 := XN [79,118,101,114,102,108,111,119,69,114,114,111,114]
noncomputable def n313 := XN [90,101,114,111,68,105,118,105,115,105,111,110,69,114,114,111,114]
noncomputable def n314 := XN [66,121,116,101,115,87,97,114,110,105,110,103]
noncomputable def n315 := XN [68,101,112,114,101,99,97,116,105,111,110,87,97,114,110,105,110,103]
noncomputable def n316 := XN [69,110,99,111,100,105,110,103,87,97,114,110,105,110,103]
noncomputable def n317 := XN [70,117,116,117,114,101,87,97,114,110,105,110,103]
noncomputable def n318 := XN [73,109,112,111,114,116,87,97,114,110,105,110,103]
noncomputable def n319 := XN [80,101,110,100,105,110,103,68,101,112,114,101,99,97,116,105,111,110,87,97,114,110,105,110,103]
noncomputable def n320 := XN [82,101,115,111,117,114,99,101,87,97,114,110,105,110,103]
noncomputable def n321 := XN [82,117,110,116,105,109,101,87,97,114,110,105,110,103]
noncomputable def n322 := XN [83,121,110,116,97,120,87,97,114,110,105,110,103]
noncomputable def n323 := XN [85,110,105,99,111,100,101,87,97,114,110,105,110,103]
noncomputable def n324 := XN [85,115,101,114,87,97,114,110,105,110,103]
noncomputable def n325 := XN [66,108,111,99,107,105,110,103,73,79,69,114,114,111,114]
noncomputable def n326 := XN [67,104,105,108,100,80,114,111,99,101,115,115,69,114,114,111,114]
noncomputable def n327 := XN [67,111,110,110,101,99,116,105,111,110,69,114,114,111,114]
noncomputable def n328 := XN [70,105,108,101,69,120,105,115,116,115,69,114,114,111,114]
noncomputable def n329 := XN [70,105,108,101,78,111,116,70,111,117,110,100,69,114,114,111,114]
noncomputable def n330 := XN [73,110,116,101,114,114,117,112,116,101,100,69,114,114,111,114]
noncomputable def n331 := XN [73,115,65,68,105,114,101,99,116,111,114,121,69,114,114,111,114]
noncomputable def n332 := XN [78,111,116,65,68,105,114,101,99,116,111,114,121,69,114,114,111,114]
noncomputable def n333 := XN [80,101,114,109,105,115,115,105,111,110,69,114,114,111,114]
noncomputable def n334 := XN [80,114,111,99,101,115,115,76,111,111,107,117,112,69,114,114,111,114]
noncomputable def n335 := XN [84,105,109,101,111,117,116,69,114,114,111,114]
noncomputable def n336 := XN [73,110,100,101,110,116,97,116,105,111,110,69,114,114,111,114]
noncomputable def n337 := XN [95,73,110,99,111,109,112,108,101,116,101,73,110,112,117,116,69,114,114,111,114]
noncomputable def n338 := XN [73,110,100,101,120,69,114,114,111,114]
noncomputable def n339 := XN [75,101,121,69,114,114,111,114]
noncomputable def n340 := XN [77,111,100,117,108,101,78,111,116,70,111,117,110,100,69,114,114,111,114]
noncomputable def n341 := XN [78,111,116,73,109,112,108,101,109,101,110,116,101,100,69,114,114,111,114]
noncomputable def n342 := XN [80,121,116,104,111,110,70,105,110,97,108,105,122,97,116,105,111,110,69,114,114,111,114]
noncomputable def n343 := XN [82,101,99,117,114,115,105,111,110,69,114,114,111,114]
noncomputable def n344 := XN [85,110,98,111,117,110,100,76,111,99,97,108,69,114,114,111,114]
noncomputable def n345 := XN [85,110,105,99,111,100,101,69,114,114,111,114]
noncomputable def n346 := XN [66,114,111,107,101,110,80,105,112,101,69,114,114,111,114]
noncomputable def n347 := XN [67,111,110,110,101,99,116,105,111,110,65,98,111,114,116,101,100,69,114,114,111,114]
noncomputable def n348 := XN [67,111,110,110,101,99,116,105,111,110,82,101,102,117,115,101,100,69,114,114,111,114]
noncomputable def n349 := XN [67,111,110,110,101,99,116,105,111,110,82,101,115,101,116,69,114,114,111,114]
noncomputable def n350 := XN [84,97,98,69,114,114,111,114]
noncomputable def n351 := XN [85,110,105,99,111,100,101,68,101,99,111,100,101,69,114,114,111,114]
noncomputable def n352 := XN [85,110,105,99,111,100,101,69,110,99,111,100,101,69,114,114,111,114]
noncomputable def n353 := XN [85,110,105,99,111,100,101,84,114,97,110,115,108,97,116,101,69,114,114,111,114]
noncomputable def n354 := XN [69,120,99,101,112,116,105,111,110,71,114,111,117,112]
noncomputable def n355 := XN [69,110,118,105,114,111,110,109,101,110,116,69,114,114,111,114]
noncomputable def n356 := XN [73,79,69,114,114,111,114]
noncomputable def n357 := XN [111,112,101,110]
noncomputable def n358 := XN [113,117,105,116]
noncomputable def n359 := XN [101,120,105,116]
noncomputable def n360 := XN [99,111,112,121,114,105,103,104,116]
noncomputable def n361 := XN [99,114,101,100,105,116,115]
noncomputable def n362 := XN [108,105,99,101,110,115,101]
noncomputable def n363 := XN [104,101,108,112]
noncomputable def big0 : Int := 10000000000000000000000000000000000000000000000000000000000000000000000000000000000000000000000000000000000000000000000000000000000000000000000000000000000000000000000000000000000000000000000000000000000000000000000000000000000000000000000000000000000000000000000000000000000000000000000000000000000000000000000000000000000000000000000000000000000000000000000000000000000000000000000000000000000000000000000000000000000000000000000000000000000000000000000000000000000000000000000000000000000000000000000000000000000000000000000000000000000000000000000000000000000000000000000000000000000000000000000000000000000000000000000000000000000000000000000000000000000000000000000000000000000000000000000000000000000000000000000000000000000000000000000000000000000000000000000000000000000000000000000000000000000000000000000000000000000000000000000000000000000000000000000000000000000000000000000000000000000000000000000000000000000000000000000000000000000000000000000000000000000000000000000000000000000000000000000000000000000000000000000000000000000000000000000000000000000000000000000000000000000000000000000000000000000000000000000000000000000000000000000000000000000000000000000000000000000000000000000000000000000000000000000000000000000000000000000000000000000000000000000000000000000000000000000000000000000000000000000000000000000000000000000000000000000000000000000000000000000000000000000000000000000000000000000000000000000000000000000000000000000000000000000000000000000000000000000000000000000000000000000000000000000000000000000000000000000000000000000000000000000000000000000000000000000000000000000000000000000000000000000000000000000000000000000000000000000000000000000000000000000000000000000000000000000000000000000000000000000000000000000000000000000000000000000000000000000000000000000000000000000000000000000000000000000000000000000000000000000000000000000000000000000000000000000000000000000000000000000000000000000000000000000000000000000000000000000000000000000000000000000000000000000000000000000000000000000000000000000000000000000000000000000000000000000000000000000000000000000000000000000000000000000000000000000000000000000000000000000000000000000000000000000000000000000000000000000000000000000000000000000000000000000000000000000000000000000000000000000000000000000000000000000000000000000000000000000000000000000000000000000000000000000000000000000000000000000000000000000000000000000000000000000000000000000000000000000000000000000000000000000000000000000000000000000000000000000000000000000000000000000000000000000000000000000000000000000000000000000000000000000000000000000000000000000000000000000000000000000000000000000000000000000000000000000000000000000000000000000000000000000000000000000000000000000000000000000000000000000000000000000000000000000000000000000000000000000000000000000000000000000000000000000000000000000000000000000000000000000000000000000000000000000000000000000000000000000000000000000000000000000000000000000000000000000000000000000000000000000000000000000000000000000000000000000000000000000000000000000000000000000000000000000000000000000000000000000000000000000000000000000000000000000000000000000000000000000000000000000000000000000000000000000000000000000000000000000000000000000000000000000000000000000000000000000000000000000000000000000000000000000000000000000000000000000000000000000000000000000000000000000000000000000000000000000000000000000000000000000000000000000000000000000000000000000000000000000000000000000000000000000000000000000000000000000000000000000000000000000000000000000000000000000000000000000000000000000000000000000000000000000000000000000000000000000000000000000000000000000000000000000000000000000000000000000000000000000000000000000000000000000000000000000000000000000000000000000000000000000000000000000000000000000000000000000000000000000000000000000000000000000000000000000000000000000000000000000000000000000000000000000000000000000000000000000000000000000000000000000000000000000000000000000000000000000000000
noncomputable def XD (c : Value) (d : Option Addr) (l : List (Params -> DictEntry)) (n : Nat) : Params -> Obj := fun P => ⟨c,d,.dict (Array.mk (l.map fun e => e P)) n,Array.mk []⟩
noncomputable def XM (o : Obj) : Params -> Obj := fun _ => o
noncomputable def Y0 (a : PySem.Str) (b : Nat) (c : PySem.Str) (d e : Int) (f : Nat) (g : Int) (h : Nat) : Params -> Obj := XO XT1 X6 (.fields (X8 [(XS a b),(XS c (b+1)),(XS n1 (b+2)),(X0 d),(X0 e),(X0 0),(X0 0),(X0 3),(X1 f),(XB true),(X0 181),(X1 (f+1)),X7,(X1 (f+2)),(X1 (f+3)),(X1 (f+4)),(X0 g),(X0 d),(XS n1 h)]))
noncomputable def Y1 (a b : Nat) (c d e : PySem.Str) (f g : Nat) : Params -> Obj := XO XT3 X6 (XF (fnB a b) c d 3 X7 X7 X7 (XS e f) X6 (X1 g) X7)
noncomputable def Y2 (a b : Nat) (c d : PySem.Str) : Params -> Obj := XO X7 X6 (XF (fnB a b) c d 0 X7 X7 X7 X7 X6 X7 X7)
noncomputable def Y3 (a : PySem.Str) (b c d : Nat) : Params -> Obj := XM ⟨(Value.type PySem.W.SL.s17162191345867700912x4),Option.none,(.cls (ClassData.mk a [(Value.type PySem.W.SL.s2742458400755230247x6)] [(.ref b),(Value.type PySem.W.SL.s2742458400755230247x6)] c a true [] [] false Option.none false)),Array.mk [Option.none,Option.none,(some (Value.str a d)),(some (Value.str a (d+8))),(some (Value.builtin PySem.W.SL.s11443829558043349243x14)),(some (Value.bool true))]⟩
noncomputable def Y4 (a b : Nat) (c : PySem.Str) (d : Nat) : Params -> Obj := XM ⟨(Value.type PySem.W.SL.s658472552662922059x5),Option.none,.plain,Array.mk [(some (.ref a)),(some (.ref 3)),(some (.ref b)),Option.none,(some (Value.str c d)),Option.none,(some (.ref 0))]⟩
noncomputable def Y5 (a : Nat) (b c : PySem.Str) (d e : Nat) : Params -> Obj := XO XT3 X6 (XF (fnA a) b b 3 X7 X7 X7 (XS c d) X6 (X1 e) X7)
noncomputable def Y6 (a : PySem.Str) (b : Nat) (c : Int) (d : Nat) (e f : Int) : Params -> Obj := XO XT1 X6 (.fields (X8 [(XS a b),(XS a (b+1)),(XS n1 (b+2)),(X0 c),(X0 0),(X0 0),(X0 0),(X0 0),(X1 d),(XB false),(X0 e),(X1 (d+1)),X7,X7,X7,X7,(X0 f),(X0 c),(XS n1 (b+4))]))
noncomputable def Y7 (a : Nat) (b : PySem.Str) : Params -> Obj := XO X7 X6 (XF (fnA a) b b 0 X7 X7 X7 X7 X6 X7 X7)
noncomputable def Y8 (a : PySem.Str) (b : Nat) (c d : PySem.Str) : Params -> Obj := XO XT0 X6 (.seq (X8 [(XS a b),(XS c (b+1)),(XS d (b+2))]) 0)
noncomputable def Y9 (a : PySem.Str) (b : Nat) (c : PySem.Str) : Params -> Obj := XO XT0 X6 (.seq (X8 [(XS a b),(XS c (b+1))]) 0)
noncomputable def Y10 (a : PySem.Str) (b : Nat) (c : PySem.Str) (d e : Int) (f : Nat) (g : Int) : Params -> Obj := XO XT1 X6 (.fields (X8 [(XS a b),(XS c (b+1)),(XS n1 (b+2)),(X0 d),(X0 e),(X0 0),(X0 0),(X0 3),(X1 f),(XB true),(X0 181),(X1 (f+1)),X7,X7,X7,(X1 (f+2)),(X0 g),(X0 d),(XS n1 (b+4))]))
noncomputable def Y11 (a b : Nat) : Params -> Obj := XO XT7 X6 (.fields (X8 [(XS n85 a),(X1 b),(Value.builtin PySem.W.SL.s6511155373996960695x17),(Value.builtin PySem.W.SL.s12411053484034534018x21)]))
noncomputable def Y12 (a b : Nat) : Params -> Obj := XO XT7 X6 (.fields (X8 [(XS n38 a),(X1 b),(Value.builtin PySem.W.SL.s10220274742760427390x26),X7]))
noncomputable def Y13 (a : Nat) : Params -> Obj := XO XT5 X6 (.fields (X8 [(Value.builtin PySem.W.SL.s4860613602091757760x24),(X1 a)]))
noncomputable def Y14 (a : PySem.Str) (b : Nat) : Params -> Obj := XO XT0 X6 (.seq (X8 [(XS a b)]) 0)
noncomputable def Y15 (a : Nat) : Params -> Obj := XO XT8 X6 (.fields (X8 [(X1 a),(X1 a),(X1 a)]))
noncomputable def Y16 (a : PySem.Str) (b : Nat) (c d e f : PySem.Str) : Params -> Obj := XO XT0 X6 (.seq (X8 [(XS a b),(XS c (b+1)),(XS d (b+2)),(XS e (b+3)),(XS f (b+4))]) 0)
noncomputable def Y17 (a : PySem.Str) (b : Nat) (c d e f g : PySem.Str) : Params -> Obj := XO XT0 X6 (.seq (X8 [(XS a b),(XS c (b+1)),(XS d (b+2)),(XS e (b+3)),(XS f (b+4)),(XS g (b+5))]) 0)
noncomputable def Y18 (a : PySem.Str) (b : Nat) (c d e : PySem.Str) : Params -> Obj := XO XT0 X6 (.seq (X8 [(XS a b),(XS c (b+1)),(XS d (b+2)),(XS e (b+3))]) 0)
noncomputable def Y19 (a b : Nat) : Params -> Obj := XO (X1 a) (some b) .plain
noncomputable def o0 := XO XT0 X6 (.seq (X8 []) 0)
noncomputable def o1 := XO X7 X6 (.fields (X8 []))
noncomputable def o2 := Y6 n0 182 1 11 181 185
noncomputable def o3 := Y4 13 3 n2 164
noncomputable def q0 : List (Params -> DictEntry) := [(X2 n3 165 (XS n4 277)),(X2 n5 166 X7),(X2 n6 167 X7),(X2 n7 168 (Value.builtin PySem.W.SL.s7097527257260152453x26)),(X2 n8 169 X7),(X2 n9 170 (X1 6)),(X2 n10 171 (X1 4)),(X2 n11 173 (XS n1 172)),(X2 n12 174 X7),(X2 n13 193 (X1 21)),(X2 n14 197 (XS n15 196)),(X2 n16 199 (X9 4000 198)),(X2 n17 202 (X9 big0 201)),(X2 n18 204 (XS n19 203)),(X2 n20 222 (X1 31)),(X2 n21 229 (X1 41)),(X2 n22 236 (X1 48)),(X2 n23 243 (X1 55)),(X2 n24 251 (X1 62)),(X2 n25 261 (X1 69)),(X2 n26 268 (X1 76)),(X2 n27 276 (X1 83)),(X2 n28 280 (X9 2000 279)),(X2 n29 286 (X1 88)),(X2 n30 296 (X1 95)),(X2 n31 302 (X1 100))]
noncomputable def o4 := XD XT2 X6 q0 26
noncomputable def q1 : List Value := [(X0 1),(X0 0),(X1 20),(X0 9),(X0 0),(X1 27),(X0 11),(X0 0),(X1 40),(X0 13),(X0 0),(X1 47),(X0 17),(X0 0),(X1 54),(X0 21),(X0 0),(X1 61),(X0 27),(X0 0),(X1 68),(X0 31),(X0 0),(X1 75),(X0 37),(X0 0),(X1 82),(X0 46),(X0 0),(X1 87),(X0 55),(X0 0),(X1 94),(X0 58),(X0 0),(X1 99)]
noncomputable def o5 := XO X7 X6 (.fields (X8 q1))
noncomputable def o6 := Y14 n32 190
noncomputable def o7 := Y7 0 n13
noncomputable def o8 := Y0 n13 187 n13 1 1 15 191 192
noncomputable def o9 := Y5 0 n13 n2 164 20
noncomputable def o10 := XO XT0 X6 (.seq (X8 [XT4]) 0)
noncomputable def o11 := XO XT5 X6 (.fields (X8 [(Value.builtin PySem.W.SL.s10062305145149207511x16),XT6]))
noncomputable def o12 := XD XT2 X6 [(X2 n33 212 (XS n34 194)),(X2 n35 214 (XS n20 213)),(X2 n36 216 (X9 9 215)),(X2 n37 217 (X1 29))] 4
noncomputable def o13 := Y6 n20 207 9 25 181 210
noncomputable def o14 := Y4 27 24 n34 194
noncomputable def o15 := XD XT2 X6 [(X2 n33 212 (XS n34 194)),(X2 n36 216 (X9 9 215)),(X2 n37 217 (X1 29)),(X2 n38 219 (X1 32)),(X2 n5 220 X7)] 3
noncomputable def o16 := XM ⟨(Value.type PySem.W.SL.s17162191345867700912x4),Option.none,(.cls (ClassData.mk n20 [(Value.type PySem.W.SL.s6070975301684473832x10)] [(.ref 31),(Value.type PySem.W.SL.s6070975301684473832x10),(Value.type PySem.W.SL.s5946037652744460706x9),(Value.type PySem.W.SL.s4278001404047624695x13),(Value.type PySem.W.SL.s2742458400755230247x6)] 30 n20 true [] [] false Option.none false)),Array.mk [(some (.ref 22)),Option.none,(some (Value.str n20 205)),(some (Value.str n20 213)),(some (Value.builtin PySem.W.SL.s4209523147560561109x18)),(some (Value.bool true))]⟩
noncomputable def o17 := Y12 218 31
noncomputable def o18 := Y15 31
noncomputable def o19 := Y13 31
noncomputable def o20 := Y14 n39 226
noncomputable def o21 := Y7 7 n21
noncomputable def o22 := Y0 n21 223 n21 11 1 35 227 228
noncomputable def o23 := Y5 7 n21 n34 194 40
noncomputable def o24 := Y14 n39 233
noncomputable def o25 := Y7 8 n22
noncomputable def o26 := Y0 n22 230 n22 13 1 42 234 235
noncomputable def o27 := Y5 8 n22 n34 194 47
noncomputable def o28 := Y14 n39 240
noncomputable def o29 := Y7 9 n23
noncomputable def o30 := Y0 n23 237 n23 17 1 49 241 242
noncomputable def o31 := Y5 9 n23 n34 194 54
noncomputable def o32 := Y9 n40 247 n39
noncomputable def o33 := Y7 10 n24
noncomputable def o34 := Y0 n24 244 n24 21 1 56 249 250
noncomputable def o35 := Y5 10 n24 n34 194 61
noncomputable def o36 := Y18 n41 255 n42 n43 n44
noncomputable def o37 := Y7 11 n25
noncomputable def o38 := Y0 n25 252 n25 27 4 63 259 260
noncomputable def o39 := Y5 11 n25 n34 194 68
noncomputable def o40 := Y14 n41 265
noncomputable def o41 := Y7 12 n26
noncomputable def o42 := Y0 n26 262 n26 31 1 70 266 267
noncomputable def o43 := Y5 12 n26 n34 194 75
noncomputable def o44 := Y9 n45 272 n39
noncomputable def o45 := Y7 13 n27
noncomputable def o46 := Y0 n27 269 n27 37 1 77 274 275
noncomputable def o47 := Y5 13 n27 n34 194 82
noncomputable def o48 := Y7 16 n29
noncomputable def o49 := Y10 n29 281 n29 46 2 84 284
noncomputable def o50 := Y5 16 n29 n4 277 87
noncomputable def o51 := Y18 n46 290 n47 n48 n49
noncomputable def o52 := Y7 17 n30
noncomputable def o53 := Y0 n30 287 n30 55 4 89 294 295
noncomputable def o54 := Y5 17 n30 n4 277 94
noncomputable def o55 := Y7 18 n31
noncomputable def o56 := Y10 n31 297 n31 58 2 96 300
noncomputable def o57 := Y5 18 n31 n4 277 99
noncomputable def q2 : List (Params -> DictEntry) := [(X2 n3 165 (XS n50 322)),(X2 n5 166 X7),(X2 n6 167 X7),(X2 n7 168 (Value.builtin PySem.W.SL.s7097527257260152453x26)),(X2 n8 169 X7),(X2 n9 170 (X1 6)),(X2 n10 171 (X1 4)),(X2 n11 173 (XS n1 172)),(X2 n12 174 X7),(X2 n13 193 (X1 21)),(X2 n14 197 (XS n15 196)),(X2 n16 199 (X9 4000 198)),(X2 n17 202 (X9 big0 201)),(X2 n18 204 (XS n19 203)),(X2 n20 222 (X1 31)),(X2 n21 229 (X1 41)),(X2 n22 236 (X1 48)),(X2 n23 243 (X1 55)),(X2 n24 251 (X1 62)),(X2 n25 261 (X1 69)),(X2 n26 268 (X1 76)),(X2 n27 276 (X1 83)),(X2 n28 280 (X9 2000 279)),(X2 n29 286 (X1 88)),(X2 n30 296 (X1 95)),(X2 n31 302 (X1 100)),(X2 n51 314 (X1 107)),(X2 n52 321 (X1 114))]
noncomputable def o58 := XD XT2 X6 q2 28
noncomputable def q3 : List Value := q1 ++ [(X0 73),(X0 0),(X1 106),(X0 80),(X0 0),(X1 113)]
noncomputable def o59 := XO X7 X6 (.fields (X8 q3))
noncomputable def o60 := Y17 n46 306 n47 n53 n54 n55 n56
noncomputable def o61 := Y7 19 n51
noncomputable def o62 := Y0 n51 303 n51 73 3 101 312 313
noncomputable def o63 := Y5 19 n51 n4 277 106
noncomputable def o64 := Y14 n57 318
noncomputable def o65 := Y7 20 n52
noncomputable def o66 := Y0 n52 315 n52 80 1 108 319 320
noncomputable def o67 := Y5 20 n52 n4 277 113
noncomputable def q4 : List (Params -> DictEntry) := q2 ++ [(X2 n58 427 (X1 187))]
noncomputable def o68 := XD XT2 X6 q4 29
noncomputable def q5 : List Value := q3 ++ [(X0 85),(X0 0),(X1 120)]
noncomputable def o69 := XO X7 X6 (.fields (X8 q5))
noncomputable def q6 : List (Params -> DictEntry) := [(X2 n33 331 (XS n50 322)),(X2 n35 333 (XS n58 332)),(X2 n36 335 (X9 85 334)),(X2 n59 337 (XS n60 336)),(X2 n61 338 (XB true)),(X2 n62 339 (XB true)),(X2 n63 341 (X9 0 340)),(X2 n64 343 (X9 1 342)),(X2 n65 351 (X1 128)),(X2 n66 360 (X1 135)),(X2 n67 369 (X1 142)),(X2 n31 377 (X1 149)),(X2 n68 385 (X1 156)),(X2 n69 394 (X1 163)),(X2 n70 403 (X1 170)),(X2 n71 411 (X1 177)),(X2 n72 419 (X1 184)),(X2 n37 420 (X1 185))]
noncomputable def o70 := XD XT2 X6 q6 18
noncomputable def q7 : List Value := [(X0 92),(X0 4),(X1 127),(X0 97),(X0 4),(X1 134),(X0 100),(X0 4),(X1 141),(X0 103),(X0 4),(X1 148),(X0 106),(X0 4),(X1 155),(X0 109),(X0 4),(X1 162),(X0 112),(X0 4),(X1 169),(X0 115),(X0 4),(X1 176),(X0 118),(X0 4),(X1 183)]
noncomputable def o71 := XO X7 X6 (.fields (X8 q7))
noncomputable def o72 := Y6 n58 326 85 118 181 329
noncomputable def o73 := Y4 120 117 n50 322
noncomputable def o74 := Y9 n73 347 n74
noncomputable def o75 := Y2 22 5 n65 n75
noncomputable def o76 := Y0 n65 344 n75 92 2 122 349 350
noncomputable def o77 := Y1 22 5 n65 n75 n50 322 127
noncomputable def o78 := Y8 n73 355 n74 n76
noncomputable def o79 := Y2 22 6 n66 n77
noncomputable def o80 := Y0 n66 352 n77 97 3 129 358 359
noncomputable def o81 := Y1 22 6 n66 n77 n50 322 134
noncomputable def o82 := Y8 n73 364 n74 n76
noncomputable def o83 := Y2 22 7 n67 n78
noncomputable def o84 := Y0 n67 361 n78 100 3 136 367 368
noncomputable def o85 := Y1 22 7 n67 n78 n50 322 141
noncomputable def o86 := Y9 n73 373 n74
noncomputable def o87 := Y2 22 8 n31 n79
noncomputable def o88 := Y0 n31 370 n79 103 2 143 375 376
noncomputable def o89 := Y1 22 8 n31 n79 n50 322 148
noncomputable def o90 := Y9 n73 381 n47
noncomputable def o91 := Y2 22 9 n68 n80
noncomputable def o92 := Y0 n68 378 n80 106 2 150 383 384
noncomputable def o93 := Y1 22 9 n68 n80 n50 322 155
noncomputable def o94 := Y8 n73 389 n74 n76
noncomputable def o95 := Y2 22 10 n69 n81
noncomputable def o96 := Y0 n69 386 n81 109 3 157 392 393
noncomputable def o97 := Y1 22 10 n69 n81 n50 322 162
noncomputable def o98 := Y8 n73 398 n74 n76
noncomputable def o99 := Y2 22 11 n70 n82
noncomputable def o100 := Y0 n70 395 n82 112 3 164 401 402
noncomputable def o101 := Y1 22 11 n70 n82 n50 322 169
noncomputable def o102 := Y9 n73 407 n74
noncomputable def o103 := Y2 22 12 n71 n83
noncomputable def o104 := Y0 n71 404 n83 115 2 171 409 410
noncomputable def o105 := Y1 22 12 n71 n83 n50 322 176
noncomputable def o106 := Y9 n73 415 n45
noncomputable def o107 := Y2 22 13 n72 n84
noncomputable def o108 := Y0 n72 412 n84 118 2 178 417 418
noncomputable def o109 := Y1 22 13 n72 n84 n50 322 183
noncomputable def q8 : List (Params -> DictEntry) := [(X2 n33 331 (XS n50 322)),(X2 n36 335 (X9 85 334)),(X2 n59 337 (XS n60 336)),(X2 n61 338 (XB true)),(X2 n62 339 (XB true)),(X2 n63 341 (X9 0 340)),(X2 n64 343 (X9 1 342)),(X2 n65 351 (X1 128)),(X2 n66 360 (X1 135)),(X2 n67 369 (X1 142)),(X2 n31 377 (X1 149)),(X2 n68 385 (X1 156)),(X2 n69 394 (X1 163)),(X2 n70 403 (X1 170)),(X2 n71 411 (X1 177)),(X2 n72 419 (X1 184)),(X2 n37 420 (X1 185)),(X2 n85 422 (X1 188)),(X2 n38 424 (X1 189)),(X2 n5 425 X7)]
noncomputable def o110 := XD XT2 X6 q8 4
noncomputable def o111 := Y3 n58 187 186 324
noncomputable def o112 := Y11 421 187
noncomputable def o113 := Y12 423 187
noncomputable def o114 := Y15 187
noncomputable def o115 := Y13 187
noncomputable def q9 : List (Params -> DictEntry) := q4 ++ [(X2 n86 530 (X1 264))]
noncomputable def o116 := XD XT2 X6 q9 30
noncomputable def q10 : List Value := q5 ++ [(X0 120),(X0 0),(X1 197)]
noncomputable def o117 := XO X7 X6 (.fields (X8 q10))
noncomputable def q11 : List (Params -> DictEntry) := [(X2 n33 435 (XS n50 322)),(X2 n35 437 (XS n86 436)),(X2 n36 439 (X9 120 438)),(X2 n59 441 (XS n42 440)),(X2 n61 442 (XB true)),(X2 n62 443 (XB true)),(X2 n63 444 X7),(X2 n64 446 (X9 0 445)),(X2 n65 454 (X1 205)),(X2 n66 463 (X1 212)),(X2 n67 472 (X1 219)),(X2 n31 480 (X1 226)),(X2 n68 488 (X1 233)),(X2 n69 497 (X1 240)),(X2 n70 506 (X1 247)),(X2 n71 514 (X1 254)),(X2 n72 522 (X1 261)),(X2 n37 523 (X1 262))]
noncomputable def o118 := XD XT2 X6 q11 18
noncomputable def q12 : List Value := [(X0 127),(X0 4),(X1 204),(X0 132),(X0 4),(X1 211),(X0 139),(X0 4),(X1 218),(X0 144),(X0 4),(X1 225),(X0 147),(X0 4),(X1 232),(X0 150),(X0 4),(X1 239),(X0 155),(X0 4),(X1 246),(X0 158),(X0 4),(X1 253),(X0 161),(X0 4),(X1 260)]
noncomputable def o119 := XO X7 X6 (.fields (X8 q12))
noncomputable def o120 := Y6 n86 430 120 195 181 433
noncomputable def o121 := Y4 197 194 n50 322
noncomputable def o122 := Y9 n73 450 n74
noncomputable def o123 := Y2 23 5 n65 n87
noncomputable def o124 := Y0 n65 447 n87 127 2 199 452 453
noncomputable def o125 := Y1 23 5 n65 n87 n50 322 204
noncomputable def o126 := Y8 n73 458 n74 n76
noncomputable def o127 := Y2 23 6 n66 n88
noncomputable def o128 := Y0 n66 455 n88 132 3 206 461 462
noncomputable def o129 := Y1 23 6 n66 n88 n50 322 211
noncomputable def o130 := Y8 n73 467 n74 n76
noncomputable def o131 := Y2 23 7 n67 n89
noncomputable def o132 := Y0 n67 464 n89 139 3 213 470 471
noncomputable def o133 := Y1 23 7 n67 n89 n50 322 218
noncomputable def o134 := Y9 n73 476 n74
noncomputable def o135 := Y2 23 8 n31 n90
noncomputable def o136 := Y0 n31 473 n90 144 2 220 478 479
noncomputable def o137 := Y1 23 8 n31 n90 n50 322 225
noncomputable def o138 := Y9 n73 484 n47
noncomputable def o139 := Y2 23 9 n68 n91
noncomputable def o140 := Y0 n68 481 n91 147 2 227 486 487
noncomputable def o141 := Y1 23 9 n68 n91 n50 322 232
noncomputable def o142 := Y8 n73 492 n74 n76
noncomputable def o143 := Y2 23 10 n69 n92
noncomputable def o144 := Y0 n69 489 n92 150 3 234 495 496
noncomputable def o145 := Y1 23 10 n69 n92 n50 322 239
noncomputable def o146 := Y8 n73 501 n74 n76
noncomputable def o147 := Y2 23 11 n70 n93
noncomputable def o148 := Y0 n70 498 n93 155 3 241 504 505
noncomputable def o149 := Y1 23 11 n70 n93 n50 322 246
noncomputable def o150 := Y9 n73 510 n74
noncomputable def o151 := Y2 23 12 n71 n94
noncomputable def o152 := Y0 n71 507 n94 158 2 248 512 513
noncomputable def o153 := Y1 23 12 n71 n94 n50 322 253
noncomputable def o154 := Y9 n73 518 n45
noncomputable def o155 := Y2 23 13 n72 n95
noncomputable def o156 := Y0 n72 515 n95 161 2 255 520 521
noncomputable def o157 := Y1 23 13 n72 n95 n50 322 260
noncomputable def q13 : List (Params -> DictEntry) := [(X2 n33 435 (XS n50 322)),(X2 n36 439 (X9 120 438)),(X2 n59 441 (XS n42 440)),(X2 n61 442 (XB true)),(X2 n62 443 (XB true)),(X2 n63 444 X7),(X2 n64 446 (X9 0 445)),(X2 n65 454 (X1 205)),(X2 n66 463 (X1 212)),(X2 n67 472 (X1 219)),(X2 n31 480 (X1 226)),(X2 n68 488 (X1 233)),(X2 n69 497 (X1 240)),(X2 n70 506 (X1 247)),(X2 n71 514 (X1 254)),(X2 n72 522 (X1 261)),(X2 n37 523 (X1 262)),(X2 n85 525 (X1 265)),(X2 n38 527 (X1 266)),(X2 n5 528 X7)]
noncomputable def o158 := XD XT2 X6 q13 4
noncomputable def o159 := Y3 n86 264 263 428
noncomputable def o160 := Y11 524 264
noncomputable def o161 := Y12 526 264
noncomputable def o162 := Y15 264
noncomputable def o163 := Y13 264
noncomputable def q14 : List (Params -> DictEntry) := q9 ++ [(X2 n96 634 (X1 341)),(X2 n97 642 (X1 352))]
noncomputable def o164 := XD XT2 X6 q14 32
noncomputable def q15 : List Value := q10 ++ [(X0 165),(X0 0),(X1 274),(X0 202),(X0 0),(X1 351)]
noncomputable def o165 := XO X7 X6 (.fields (X8 q15))
noncomputable def q16 : List (Params -> DictEntry) := [(X2 n33 538 (XS n50 322)),(X2 n35 540 (XS n96 539)),(X2 n36 542 (X9 165 541)),(X2 n59 544 (XS n98 543)),(X2 n61 545 (XB false)),(X2 n62 546 (XB true)),(X2 n63 548 (X9 0 547)),(X2 n64 550 (X9 1 549)),(X2 n65 558 (X1 282)),(X2 n66 567 (X1 289)),(X2 n67 576 (X1 296)),(X2 n31 584 (X1 303)),(X2 n68 592 (X1 310)),(X2 n69 601 (X1 317)),(X2 n70 610 (X1 324)),(X2 n71 618 (X1 331)),(X2 n72 626 (X1 338)),(X2 n37 627 (X1 339))]
noncomputable def o166 := XD XT2 X6 q16 18
noncomputable def q17 : List Value := [(X0 172),(X0 4),(X1 281),(X0 177),(X0 4),(X1 288),(X0 180),(X0 4),(X1 295),(X0 183),(X0 4),(X1 302),(X0 188),(X0 4),(X1 309),(X0 191),(X0 4),(X1 316),(X0 194),(X0 4),(X1 323),(X0 197),(X0 4),(X1 330),(X0 200),(X0 4),(X1 337)]
noncomputable def o167 := XO X7 X6 (.fields (X8 q17))
noncomputable def o168 := Y6 n96 533 165 272 181 536
noncomputable def o169 := Y4 274 271 n50 322
noncomputable def o170 := Y9 n73 554 n74
noncomputable def o171 := Y2 24 5 n65 n99
noncomputable def o172 := Y0 n65 551 n99 172 2 276 556 557
noncomputable def o173 := Y1 24 5 n65 n99 n50 322 281
noncomputable def o174 := Y8 n73 562 n74 n76
noncomputable def o175 := Y2 24 6 n66 n100
noncomputable def o176 := Y0 n66 559 n100 177 3 283 565 566
noncomputable def o177 := Y1 24 6 n66 n100 n50 322 288
noncomputable def o178 := Y8 n73 571 n74 n76
noncomputable def o179 := Y2 24 7 n67 n101
noncomputable def o180 := Y0 n67 568 n101 180 3 290 574 575
noncomputable def o181 := Y1 24 7 n67 n101 n50 322 295
noncomputable def o182 := Y9 n73 580 n74
noncomputable def o183 := Y2 24 8 n31 n102
noncomputable def o184 := Y0 n31 577 n102 183 2 297 582 583
noncomputable def o185 := Y1 24 8 n31 n102 n50 322 302
noncomputable def o186 := Y9 n73 588 n47
noncomputable def o187 := Y2 24 9 n68 n103
noncomputable def o188 := Y0 n68 585 n103 188 2 304 590 591
noncomputable def o189 := Y1 24 9 n68 n103 n50 322 309
noncomputable def o190 := Y8 n73 596 n74 n76
noncomputable def o191 := Y2 24 10 n69 n104
noncomputable def o192 := Y0 n69 593 n104 191 3 311 599 600
noncomputable def o193 := Y1 24 10 n69 n104 n50 322 316
noncomputable def o194 := Y8 n73 605 n74 n76
noncomputable def o195 := Y2 24 11 n70 n105
noncomputable def o196 := Y0 n70 602 n105 194 3 318 608 609
noncomputable def o197 := Y1 24 11 n70 n105 n50 322 323
noncomputable def o198 := Y9 n73 614 n74
noncomputable def o199 := Y2 24 12 n71 n106
noncomputable def o200 := Y0 n71 611 n106 197 2 325 616 617
noncomputable def o201 := Y1 24 12 n71 n106 n50 322 330
noncomputable def o202 := Y9 n73 622 n45
noncomputable def o203 := Y2 24 13 n72 n107
noncomputable def o204 := Y0 n72 619 n107 200 2 332 624 625
noncomputable def o205 := Y1 24 13 n72 n107 n50 322 337
noncomputable def q18 : List (Params -> DictEntry) := [(X2 n33 538 (XS n50 322)),(X2 n36 542 (X9 165 541)),(X2 n59 544 (XS n98 543)),(X2 n61 545 (XB false)),(X2 n62 546 (XB true)),(X2 n63 548 (X9 0 547)),(X2 n64 550 (X9 1 549)),(X2 n65 558 (X1 282)),(X2 n66 567 (X1 289)),(X2 n67 576 (X1 296)),(X2 n31 584 (X1 303)),(X2 n68 592 (X1 310)),(X2 n69 601 (X1 317)),(X2 n70 610 (X1 324)),(X2 n71 618 (X1 331)),(X2 n72 626 (X1 338)),(X2 n37 627 (X1 339)),(X2 n85 629 (X1 342)),(X2 n38 631 (X1 343)),(X2 n5 632 X7)]
noncomputable def o206 := XD XT2 X6 q18 4
noncomputable def o207 := Y3 n96 341 340 531
noncomputable def o208 := Y11 628 341
noncomputable def o209 := Y12 630 341
noncomputable def o210 := Y15 341
noncomputable def o211 := Y13 341
noncomputable def o212 := Y9 n74 638 n76
noncomputable def o213 := Y7 25 n97
noncomputable def o214 := Y0 n97 635 n97 202 2 346 640 641
noncomputable def o215 := Y5 25 n97 n50 322 351
noncomputable def q19 : List (Params -> DictEntry) := q14 ++ [(X2 n108 751 (X1 427))]
noncomputable def o216 := XD XT2 X6 q19 33
noncomputable def q20 : List Value := q15 ++ [(X0 206),(X0 0),(X1 358)]
noncomputable def o217 := XO X7 X6 (.fields (X8 q20))
noncomputable def q21 : List (Params -> DictEntry) := [(X2 n33 650 (XS n50 322)),(X2 n35 652 (XS n108 651)),(X2 n36 654 (X9 206 653)),(X2 n59 656 (XS n109 655)),(X2 n61 657 (XB false)),(X2 n62 658 (XB true)),(X2 n63 661 (X1 360)),(X2 n64 664 (X1 361)),(X2 n65 672 (X1 368)),(X2 n66 681 (X1 375)),(X2 n67 690 (X1 382)),(X2 n31 698 (X1 389)),(X2 n68 706 (X1 396)),(X2 n69 715 (X1 403)),(X2 n70 724 (X1 410)),(X2 n71 732 (X1 417)),(X2 n72 743 (X1 424)),(X2 n37 744 (X1 425))]
noncomputable def o218 := XD XT2 X6 q21 18
noncomputable def q22 : List Value := [(X0 213),(X0 4),(X1 367),(X0 220),(X0 4),(X1 374),(X0 223),(X0 4),(X1 381),(X0 226),(X0 4),(X1 388),(X0 231),(X0 4),(X1 395),(X0 234),(X0 4),(X1 402),(X0 237),(X0 4),(X1 409),(X0 240),(X0 4),(X1 416),(X0 243),(X0 4),(X1 423)]
noncomputable def o219 := XO X7 X6 (.fields (X8 q22))
noncomputable def o220 := Y6 n108 645 206 356 181 648
noncomputable def o221 := Y4 358 355 n50 322
noncomputable def o222 := XO XT0 X6 (.seq (X8 [(X9 0 659),(X9 1 660)]) 0)
noncomputable def o223 := XO XT0 X6 (.seq (X8 [(X9 1 662),(X9 1 663)]) 0)
noncomputable def o224 := Y9 n73 668 n74
noncomputable def o225 := Y2 26 5 n65 n110
noncomputable def o226 := Y0 n65 665 n110 213 2 362 670 671
noncomputable def o227 := Y1 26 5 n65 n110 n50 322 367
noncomputable def o228 := Y8 n73 676 n74 n76
noncomputable def o229 := Y2 26 6 n66 n111
noncomputable def o230 := Y0 n66 673 n111 220 3 369 679 680
noncomputable def o231 := Y1 26 6 n66 n111 n50 322 374
noncomputable def o232 := Y8 n73 685 n74 n76
noncomputable def o233 := Y2 26 7 n67 n112
noncomputable def o234 := Y0 n67 682 n112 223 3 376 688 689
noncomputable def o235 := Y1 26 7 n67 n112 n50 322 381
noncomputable def o236 := Y9 n73 694 n74
noncomputable def o237 := Y2 26 8 n31 n113
noncomputable def o238 := Y0 n31 691 n113 226 2 383 696 697
noncomputable def o239 := Y1 26 8 n31 n113 n50 322 388
noncomputable def o240 := Y9 n73 702 n47
noncomputable def o241 := Y2 26 9 n68 n114
noncomputable def o242 := Y0 n68 699 n114 231 2 390 704 705
noncomputable def o243 := Y1 26 9 n68 n114 n50 322 395
noncomputable def o244 := Y8 n73 710 n74 n76
noncomputable def o245 := Y2 26 10 n69 n115
noncomputable def o246 := Y0 n69 707 n115 234 3 397 713 714
noncomputable def o247 := Y1 26 10 n69 n115 n50 322 402
noncomputable def o248 := Y8 n73 719 n74 n76
noncomputable def o249 := Y2 26 11 n70 n116
noncomputable def o250 := Y0 n70 716 n116 237 3 404 722 723
noncomputable def o251 := Y1 26 11 n70 n116 n50 322 409
noncomputable def o252 := Y9 n73 728 n74
noncomputable def o253 := Y2 26 12 n71 n117
noncomputable def o254 := Y0 n71 725 n117 240 2 411 730 731
noncomputable def o255 := Y1 26 12 n71 n117 n50 322 416
noncomputable def o256 := Y16 n73 736 n45 n118 n119 n120
noncomputable def o257 := Y2 26 13 n72 n121
noncomputable def o258 := Y0 n72 733 n121 243 2 418 741 742
noncomputable def o259 := Y1 26 13 n72 n121 n50 322 423
noncomputable def q23 : List (Params -> DictEntry) := [(X2 n33 650 (XS n50 322)),(X2 n36 654 (X9 206 653)),(X2 n59 656 (XS n109 655)),(X2 n61 657 (XB false)),(X2 n62 658 (XB true)),(X2 n63 661 (X1 360)),(X2 n64 664 (X1 361)),(X2 n65 672 (X1 368)),(X2 n66 681 (X1 375)),(X2 n67 690 (X1 382)),(X2 n31 698 (X1 389)),(X2 n68 706 (X1 396)),(X2 n69 715 (X1 403)),(X2 n70 724 (X1 410)),(X2 n71 732 (X1 417)),(X2 n72 743 (X1 424)),(X2 n37 744 (X1 425)),(X2 n85 746 (X1 428)),(X2 n38 748 (X1 429)),(X2 n5 749 X7)]
noncomputable def o260 := XD XT2 X6 q23 4
noncomputable def o261 := Y3 n108 427 426 643
noncomputable def o262 := Y11 745 427
noncomputable def o263 := Y12 747 427
noncomputable def o264 := Y15 427
noncomputable def o265 := Y13 427
noncomputable def q24 : List (Params -> DictEntry) := q19 ++ [(X2 n122 804 (X1 469)),(X2 n123 813 (X1 478))]
noncomputable def o266 := XD XT2 X6 q24 35
noncomputable def q25 : List Value := q20 ++ [(X0 248),(X0 0),(X1 437),(X0 268),(X0 0),(X1 477)]
noncomputable def o267 := XO X7 X6 (.fields (X8 q25))
noncomputable def o268 := XM ⟨(Value.type PySem.W.SL.s17162191345867700912x4),Option.none,(.cls (ClassData.mk n108 [(Value.type PySem.W.SL.s2742458400755230247x6)] [(.ref 427),(Value.type PySem.W.SL.s2742458400755230247x6)] 426 n108 true [] [(.ref 469)] false Option.none false)),Array.mk [Option.none,Option.none,(some (Value.str n108 643)),(some (Value.str n108 651)),(some (Value.builtin PySem.W.SL.s11443829558043349243x14)),(some (Value.bool true))]⟩
noncomputable def o269 := XO XT0 X6 (.seq (X8 [(X1 427)]) 0)
noncomputable def q26 : List (Params -> DictEntry) := [(X2 n33 759 (XS n50 322)),(X2 n35 761 (XS n122 760)),(X2 n36 763 (X9 248 762)),(X2 n59 765 (XS n124 764)),(X2 n61 766 (XB true)),(X2 n65 774 (X1 445)),(X2 n66 783 (X1 452)),(X2 n31 791 (X1 459)),(X2 n70 800 (X1 466)),(X2 n37 801 (X1 467))]
noncomputable def o270 := XD XT2 X6 q26 10
noncomputable def o271 := XO X7 X6 (.fields (X8 [(X0 252),(X0 4),(X1 444),(X0 258),(X0 4),(X1 451),(X0 263),(X0 4),(X1 458),(X0 266),(X0 4),(X1 465)]))
noncomputable def o272 := Y6 n122 754 248 435 181 757
noncomputable def o273 := Y4 437 434 n50 322
noncomputable def o274 := Y9 n73 770 n74
noncomputable def o275 := Y2 27 2 n65 n125
noncomputable def o276 := Y0 n65 767 n125 252 2 439 772 773
noncomputable def o277 := Y1 27 2 n65 n125 n50 322 444
noncomputable def o278 := Y8 n73 778 n74 n76
noncomputable def o279 := Y2 27 3 n66 n126
noncomputable def o280 := Y0 n66 775 n126 258 3 446 781 782
noncomputable def o281 := Y1 27 3 n66 n126 n50 322 451
noncomputable def o282 := Y9 n73 787 n74
noncomputable def o283 := Y2 27 4 n31 n127
noncomputable def o284 := Y0 n31 784 n127 263 2 453 789 790
noncomputable def o285 := Y1 27 4 n31 n127 n50 322 458
noncomputable def o286 := Y8 n73 795 n74 n76
noncomputable def o287 := Y2 27 5 n70 n128
noncomputable def o288 := Y0 n70 792 n128 266 3 460 798 799
noncomputable def o289 := Y1 27 5 n70 n128 n50 322 465
noncomputable def q27 : List (Params -> DictEntry) := [(X2 n33 759 (XS n50 322)),(X2 n36 763 (X9 248 762)),(X2 n59 765 (XS n124 764)),(X2 n61 766 (XB true)),(X2 n65 774 (X1 445)),(X2 n66 783 (X1 452)),(X2 n31 791 (X1 459)),(X2 n70 800 (X1 466)),(X2 n37 801 (X1 467)),(X2 n5 802 X7)]
noncomputable def o290 := XD XT2 X6 q27 2
noncomputable def o291 := XM ⟨(Value.type PySem.W.SL.s17162191345867700912x4),Option.none,(.cls (ClassData.mk n122 [(.ref 427)] [(.ref 469),(.ref 427),(Value.type PySem.W.SL.s2742458400755230247x6)] 468 n122 true [] [] false Option.none false)),Array.mk [(some (.ref 432)),Option.none,(some (Value.str n122 752)),(some (Value.str n122 760)),(some (Value.builtin PySem.W.SL.s11443829558043349243x14)),(some (Value.bool true))]⟩
noncomputable def o292 := Y15 469
noncomputable def o293 := Y13 469
noncomputable def o294 := Y8 n129 808 n130 n131
noncomputable def o295 := Y7 28 n123
noncomputable def o296 := Y0 n123 805 n123 268 2 472 811 812
noncomputable def o297 := Y5 28 n123 n50 322 477
noncomputable def q28 : List (Params -> DictEntry) := [(X2 n3 165 (XS n132 823)),(X2 n5 166 X7),(X2 n6 167 X7),(X2 n7 168 (Value.builtin PySem.W.SL.s7097527257260152453x26)),(X2 n8 169 X7),(X2 n9 170 (X1 6)),(X2 n10 171 (X1 4)),(X2 n11 173 (XS n1 172)),(X2 n12 174 X7),(X2 n13 193 (X1 21)),(X2 n14 197 (XS n15 196)),(X2 n16 199 (X9 4000 198)),(X2 n17 202 (X9 big0 201)),(X2 n18 204 (XS n19 203)),(X2 n20 222 (X1 31)),(X2 n21 229 (X1 41)),(X2 n22 236 (X1 48)),(X2 n23 243 (X1 55)),(X2 n24 251 (X1 62)),(X2 n25 261 (X1 69)),(X2 n26 268 (X1 76)),(X2 n27 276 (X1 83)),(X2 n28 280 (X9 2000 279)),(X2 n29 286 (X1 88)),(X2 n30 296 (X1 95)),(X2 n31 302 (X1 100)),(X2 n51 314 (X1 107)),(X2 n52 321 (X1 114)),(X2 n58 427 (X1 187)),(X2 n86 530 (X1 264)),(X2 n96 634 (X1 341)),(X2 n97 642 (X1 352)),(X2 n108 751 (X1 427)),(X2 n122 804 (X1 469)),(X2 n123 813 (X1 478)),(X2 n133 814 (X1 489)),(X2 n46 822 (X1 496)),(X2 n134 826 (X9 20000 825)),(X2 n135 828 (X9 200000 827)),(X2 n136 829 (X1 497))]
noncomputable def o298 := XD XT2 X6 q28 40
noncomputable def q29 : List Value := q25 ++ [(X0 272),(X0 0),(X1 495)]
noncomputable def o299 := XO X7 X6 (.fields (X8 q29))
noncomputable def o300 := XO XT2 X6 (.dict (X8 []) 0)
noncomputable def o301 := Y19 187 479
noncomputable def o302 := Y19 264 481
noncomputable def o303 := Y19 341 483
noncomputable def o304 := Y19 427 485
noncomputable def o305 := Y19 469 487
noncomputable def o306 := XO XT9 X6 (.seq (X8 [(X1 480),(X1 482),(X1 484),(X1 486),(X1 488)]) 0)
noncomputable def o307 := Y9 n59 818 n64
noncomputable def o308 := Y7 30 n46
noncomputable def o309 := Y0 n46 815 n46 272 1 490 820 821
noncomputable def o310 := Y5 30 n46 n50 322 495
noncomputable def o311 := XO XT10 X6 .plain
noncomputable def q30 : List (Params -> DictEntry) := q28 ++ [(X2 n137 878 (X1 528))]
noncomputable def o312 := XD XT2 X6 q30 41
noncomputable def q31 : List Value := q29 ++ [(X0 281),(X0 0),(X1 503)]
noncomputable def o313 := XO X7 X6 (.fields (X8 q31))
noncomputable def o314 := XD XT2 X6 [(X2 n33 837 (XS n132 823)),(X2 n35 839 (XS n137 838)),(X2 n36 841 (X9 281 840)),(X2 n138 852 (X1 511)),(X2 n139 859 (X1 518)),(X2 n140 866 (X1 525)),(X2 n37 871 (X1 526))] 7
noncomputable def o315 := XO X7 X6 (.fields (X8 [(X0 283),(X0 4),(X1 510),(X0 289),(X0 4),(X1 517),(X0 292),(X0 4),(X1 524)]))
noncomputable def o316 := Y6 n137 832 281 501 181 835
noncomputable def o317 := Y4 503 500 n132 823
noncomputable def o318 := Y16 n73 845 n118 n120 n49 n141
noncomputable def o319 := Y2 35 0 n138 n142
noncomputable def o320 := Y0 n138 842 n142 283 5 505 850 851
noncomputable def o321 := Y1 35 0 n138 n142 n132 823 510
noncomputable def o322 := Y14 n73 856
noncomputable def o323 := Y2 35 1 n139 n143
noncomputable def o324 := Y0 n139 853 n143 289 1 512 857 858
noncomputable def o325 := Y1 35 1 n139 n143 n132 823 517
noncomputable def o326 := Y14 n73 863
noncomputable def o327 := Y2 35 2 n140 n144
noncomputable def o328 := Y0 n140 860 n144 292 1 519 864 865
noncomputable def o329 := Y1 35 2 n140 n144 n132 823 524
noncomputable def o330 := Y18 n120 867 n141 n118 n49
noncomputable def q32 : List (Params -> DictEntry) := [(X2 n33 837 (XS n132 823)),(X2 n36 841 (X9 281 840)),(X2 n138 852 (X1 511)),(X2 n139 859 (X1 518)),(X2 n140 866 (X1 525)),(X2 n37 871 (X1 526)),(X2 n85 873 (X1 529)),(X2 n38 875 (X1 530)),(X2 n5 876 X7)]
noncomputable def o331 := XD XT2 X6 q32 4
noncomputable def o332 := Y3 n137 528 527 830
noncomputable def o333 := Y11 872 528
noncomputable def o334 := Y12 874 528
noncomputable def o335 := Y15 528
noncomputable def o336 := Y13 528
noncomputable def q33 : List (Params -> DictEntry) := q30 ++ [(X2 n145 1038 (X1 654))]
noncomputable def o337 := XD XT2 X6 q33 42
noncomputable def q34 : List Value := q31 ++ [(X0 294),(X0 0),(X1 538)]
noncomputable def o338 := XO X7 X6 (.fields (X8 q34))
noncomputable def q35 : List (Params -> DictEntry) := [(X2 n33 886 (XS n132 823)),(X2 n35 888 (XS n145 887)),(X2 n36 890 (X9 294 889)),(X2 n138 898 (X1 546)),(X2 n146 906 (X1 553)),(X2 n147 913 (X1 560)),(X2 n148 919 (X1 565)),(X2 n149 927 (X1 572)),(X2 n150 939 (X1 579)),(X2 n151 955 (X1 586)),(X2 n152 964 (X1 594)),(X2 n153 973 (X1 602)),(X2 n154 980 (X1 609)),(X2 n155 987 (X1 616)),(X2 n156 996 (X1 623)),(X2 n157 1003 (X1 630)),(X2 n158 1010 (X1 637)),(X2 n159 1017 (X1 644)),(X2 n160 1024 (X1 651)),(X2 n37 1031 (X1 652))]
noncomputable def o339 := XD XT2 X6 q35 20
noncomputable def q36 : List Value := [(X0 296),(X0 4),(X1 545),(X0 304),(X0 4),(X1 552),(X0 308),(X0 4),(X1 559),(X0 314),(X0 4),(X1 564),(X0 318),(X0 4),(X1 571),(X0 321),(X0 4),(X1 578),(X0 334),(X0 4),(X1 585),(X0 350),(X0 4),(X1 593),(X0 355),(X0 4),(X1 601),(X0 359),(X0 4),(X1 608),(X0 362),(X0 4),(X1 615),(X0 365),(X0 4),(X1 622),(X0 372),(X0 4),(X1 629),(X0 375),(X0 4),(X1 636),(X0 378),(X0 4),(X1 643),(X0 381),(X0 4),(X1 650)]
noncomputable def o340 := XO X7 X6 (.fields (X8 q36))
noncomputable def o341 := Y6 n145 881 294 536 181 884
noncomputable def o342 := Y4 538 535 n132 823
noncomputable def o343 := Y9 n73 894 n46
noncomputable def o344 := Y2 36 0 n138 n161
noncomputable def o345 := Y0 n138 891 n161 296 2 540 896 897
noncomputable def o346 := Y1 36 0 n138 n161 n132 823 545
noncomputable def o347 := Y9 n73 902 n98
noncomputable def o348 := Y2 36 1 n146 n162
noncomputable def o349 := Y0 n146 899 n162 304 2 547 904 905
noncomputable def o350 := Y1 36 1 n146 n162 n132 823 552
noncomputable def o351 := Y14 n73 910
noncomputable def o352 := Y2 36 2 n147 n163
noncomputable def o353 := Y0 n147 907 n163 308 1 554 911 912
noncomputable def o354 := Y1 36 2 n147 n163 n132 823 559
noncomputable def o355 := Y2 36 3 n148 n164
noncomputable def o356 := Y10 n148 914 n164 314 2 561 917
noncomputable def o357 := Y1 36 3 n148 n164 n132 823 564
noncomputable def o358 := Y9 n73 923 n165
noncomputable def o359 := Y2 36 4 n149 n166
noncomputable def o360 := Y0 n149 920 n166 318 2 566 925 926
noncomputable def o361 := Y1 36 4 n149 n166 n132 823 571
noncomputable def o362 := Y17 n73 931 n167 n118 n120 n49 n141
noncomputable def o363 := Y2 36 5 n150 n168
noncomputable def o364 := Y0 n150 928 n168 321 6 573 937 938
noncomputable def o365 := Y1 36 5 n150 n168 n132 823 578
noncomputable def o366 := XO XT0 X6 (.seq (X8 [(XS n73 943),(XS n167 944),(XS n118 945),(XS n120 946),(XS n49 947),(XS n141 948),(XS n154 949),(XS n169 950),(XS n32 951),(XS n170 952)]) 0)
noncomputable def o367 := Y2 36 6 n151 n171
noncomputable def o368 := Y0 n151 940 n171 334 6 580 953 954
noncomputable def o369 := Y1 36 6 n151 n171 n132 823 585
noncomputable def o370 := XO XT0 X6 (.seq (X8 [(X1 497)]) 0)
noncomputable def o371 := Y8 n73 959 n172 n49
noncomputable def o372 := Y2 36 7 n152 n173
noncomputable def o373 := Y0 n152 956 n173 350 3 588 962 963
noncomputable def o374 := XO XT3 X6 (XF (fnB 36 7) n152 n173 3 (X1 587) X7 X7 (XS n132 823) X6 (X1 593) X7)
noncomputable def o375 := Y8 n73 968 n147 n49
noncomputable def o376 := Y2 36 8 n153 n174
noncomputable def o377 := Y0 n153 965 n174 355 3 596 971 972
noncomputable def o378 := XO XT3 X6 (XF (fnB 36 8) n153 n174 3 (X1 595) X7 X7 (XS n132 823) X6 (X1 601) X7)
noncomputable def o379 := Y14 n73 977
noncomputable def o380 := Y2 36 9 n154 n175
noncomputable def o381 := Y0 n154 974 n175 359 1 603 978 979
noncomputable def o382 := Y1 36 9 n154 n175 n132 823 608
noncomputable def o383 := Y14 n73 984
noncomputable def o384 := Y2 36 10 n155 n176
noncomputable def o385 := Y0 n155 981 n176 362 1 610 985 986
noncomputable def o386 := Y1 36 10 n155 n176 n132 823 615
noncomputable def o387 := Y8 n73 991 n47 n150
noncomputable def o388 := Y2 36 11 n156 n177
noncomputable def o389 := Y0 n156 988 n177 365 1 617 994 995
noncomputable def o390 := Y1 36 11 n156 n177 n132 823 622
noncomputable def o391 := Y14 n73 1000
noncomputable def o392 := Y2 36 12 n157 n178
noncomputable def o393 := Y0 n157 997 n178 372 1 624 1001 1002
noncomputable def o394 := Y1 36 12 n157 n178 n132 823 629
noncomputable def o395 := Y14 n73 1007
noncomputable def o396 := Y2 36 13 n158 n179
noncomputable def o397 := Y0 n158 1004 n179 375 1 631 1008 1009
noncomputable def o398 := Y1 36 13 n158 n179 n132 823 636
noncomputable def o399 := Y14 n73 1014
noncomputable def o400 := Y2 36 14 n159 n180
noncomputable def o401 := Y0 n159 1011 n180 378 1 638 1015 1016
noncomputable def o402 := Y1 36 14 n159 n180 n132 823 643
noncomputable def o403 := Y14 n73 1021
noncomputable def o404 := Y2 36 15 n160 n181
noncomputable def o405 := Y0 n160 1018 n181 381 1 645 1022 1023
noncomputable def o406 := Y1 36 15 n160 n181 n132 823 650
noncomputable def o407 := Y17 n182 1025 n183 n184 n185 n46 n172
noncomputable def q37 : List (Params -> DictEntry) := [(X2 n33 886 (XS n132 823)),(X2 n36 890 (X9 294 889)),(X2 n138 898 (X1 546)),(X2 n146 906 (X1 553)),(X2 n147 913 (X1 560)),(X2 n148 919 (X1 565)),(X2 n149 927 (X1 572)),(X2 n150 939 (X1 579)),(X2 n151 955 (X1 586)),(X2 n152 964 (X1 594)),(X2 n153 973 (X1 602)),(X2 n154 980 (X1 609)),(X2 n155 987 (X1 616)),(X2 n156 996 (X1 623)),(X2 n157 1003 (X1 630)),(X2 n158 1010 (X1 637)),(X2 n159 1017 (X1 644)),(X2 n160 1024 (X1 651)),(X2 n37 1031 (X1 652)),(X2 n85 1033 (X1 655)),(X2 n38 1035 (X1 656)),(X2 n5 1036 X7)]
noncomputable def o408 := XD XT2 X6 q37 4
noncomputable def o409 := Y3 n145 654 653 879
noncomputable def o410 := Y11 1032 654
noncomputable def o411 := Y12 1034 654
noncomputable def o412 := Y15 654
noncomputable def o413 := Y13 654
noncomputable def q38 : List (Params -> DictEntry) := [(X2 n3 165 (XS n186 1154)),(X2 n5 166 X7),(X2 n6 167 X7),(X2 n7 168 (Value.builtin PySem.W.SL.s7097527257260152453x26)),(X2 n8 169 X7),(X2 n9 170 (X1 6)),(X2 n10 171 (X1 4)),(X2 n11 173 (XS n1 172)),(X2 n12 174 X7),(X2 n13 193 (X1 21)),(X2 n14 197 (XS n15 196)),(X2 n16 199 (X9 4000 198)),(X2 n17 202 (X9 big0 201)),(X2 n18 204 (XS n19 203)),(X2 n20 222 (X1 31)),(X2 n21 229 (X1 41)),(X2 n22 236 (X1 48)),(X2 n23 243 (X1 55)),(X2 n24 251 (X1 62)),(X2 n25 261 (X1 69)),(X2 n26 268 (X1 76)),(X2 n27 276 (X1 83)),(X2 n28 280 (X9 2000 279)),(X2 n29 286 (X1 88)),(X2 n30 296 (X1 95)),(X2 n31 302 (X1 100)),(X2 n51 314 (X1 107)),(X2 n52 321 (X1 114)),(X2 n58 427 (X1 187)),(X2 n86 530 (X1 264)),(X2 n96 634 (X1 341)),(X2 n97 642 (X1 352)),(X2 n108 751 (X1 427)),(X2 n122 804 (X1 469)),(X2 n123 813 (X1 478)),(X2 n133 814 (X1 489)),(X2 n46 822 (X1 496)),(X2 n134 826 (X9 20000 825)),(X2 n135 828 (X9 200000 827)),(X2 n136 829 (X1 497)),(X2 n137 878 (X1 528)),(X2 n145 1038 (X1 654)),(X2 n187 1044 (X1 663)),(X2 n188 1050 (X1 668)),(X2 n189 1056 (X1 673)),(X2 n190 1069 (X1 680)),(X2 n191 1073 (X9 200 1072)),(X2 n49 1091 (X1 687)),(X2 n192 1098 (X1 694)),(X2 n193 1106 (X1 701)),(X2 n194 1115 (X1 708)),(X2 n195 1126 (X1 715)),(X2 n196 1137 (X1 722)),(X2 n197 1153 (X1 729)),(X2 n198 1165 (X1 736))]
noncomputable def o414 := XD XT2 X6 q38 55
noncomputable def q39 : List Value := q34 ++ [(X0 383),(X0 0),(X1 662),(X0 404),(X0 0),(X1 667),(X0 406),(X0 0),(X1 672),(X0 412),(X0 0),(X1 679),(X0 426),(X0 0),(X1 686),(X0 450),(X0 0),(X1 693),(X0 454),(X0 0),(X1 700),(X0 458),(X0 0),(X1 707),(X0 460),(X0 0),(X1 714),(X0 464),(X0 0),(X1 721),(X0 472),(X0 0),(X1 728),(X0 481),(X0 0),(X1 735)]
noncomputable def o415 := XO X7 X6 (.fields (X8 q39))
noncomputable def o416 := Y7 37 n187
noncomputable def o417 := Y10 n187 1039 n187 383 1 659 1042
noncomputable def o418 := Y5 37 n187 n132 823 662
noncomputable def o419 := Y7 38 n188
noncomputable def o420 := Y10 n188 1045 n188 404 1 664 1048
noncomputable def o421 := Y5 38 n188 n132 823 667
noncomputable def o422 := Y7 39 n189
noncomputable def o423 := Y10 n189 1051 n189 406 1 669 1054
noncomputable def o424 := Y5 39 n189 n132 823 672
noncomputable def o425 := XO XT0 X6 (.seq (X8 [(XS n57 1060),(XS n185 1061),(XS n199 1062),(XS n200 1063),(XS n201 1064),(XS n147 1065),(XS n202 1066)]) 0)
noncomputable def o426 := Y7 40 n190
noncomputable def o427 := Y0 n190 1057 n190 412 3 674 1067 1068
noncomputable def o428 := Y5 40 n190 n132 823 679
noncomputable def o429 := XO XT0 X6 (.seq (X8 [(XS n57 1077),(XS n118 1078),(XS n120 1079),(XS n46 1080),(XS n69 1081),(XS n53 1082),(XS n55 1083),(XS n56 1084),(XS n47 1085),(XS n147 1086),(XS n150 1087),(XS n48 1088)]) 0)
noncomputable def o430 := Y7 43 n49
noncomputable def o431 := Y0 n49 1074 n49 426 3 681 1089 1090
noncomputable def o432 := Y5 43 n49 n203 1070 686
noncomputable def o433 := Y14 n40 1095
noncomputable def o434 := Y7 44 n192
noncomputable def o435 := Y0 n192 1092 n192 450 1 688 1096 1097
noncomputable def o436 := Y5 44 n192 n203 1070 693
noncomputable def o437 := Y9 n57 1102 n47
noncomputable def o438 := Y7 45 n193
noncomputable def o439 := Y0 n193 1099 n193 454 1 695 1104 1105
noncomputable def o440 := Y5 45 n193 n203 1070 700
noncomputable def o441 := Y8 n40 1110 n169 n204
noncomputable def o442 := Y7 46 n194
noncomputable def o443 := Y0 n194 1107 n194 458 3 702 1113 1114
noncomputable def o444 := Y5 46 n194 n203 1070 707
noncomputable def o445 := Y16 n57 1119 n53 n205 n147 n41
noncomputable def o446 := Y7 47 n195
noncomputable def o447 := Y0 n195 1116 n195 460 5 709 1124 1125
noncomputable def o448 := Y5 47 n195 n203 1070 714
noncomputable def o449 := Y16 n57 1130 n47 n46 n54 n147
noncomputable def o450 := Y7 48 n196
noncomputable def o451 := Y0 n196 1127 n196 464 2 716 1135 1136
noncomputable def o452 := Y5 48 n196 n203 1070 721
noncomputable def o453 := XO XT0 X6 (.seq (X8 [(XS n46 1143),(XS n53 1144),(XS n54 1145),(XS n172 1146),(XS n118 1147),(XS n120 1148),(XS n49 1149),(XS n153 1150)]) 0)
noncomputable def o454 := Y7 50 n197
noncomputable def o455 := Y0 n197 1140 n197 472 2 723 1151 1152
noncomputable def o456 := Y5 50 n197 n206 1138 728
noncomputable def o457 := Y18 n207 1159 n64 n208 n57
noncomputable def o458 := Y7 52 n198
noncomputable def o459 := Y0 n198 1156 n198 481 1 730 1163 1164
noncomputable def o460 := Y5 52 n198 n186 1154 735
noncomputable def q40 : List (Params -> DictEntry) := [(X2 n3 1 (XS n209 160)),(X2 n5 2 (Value.builtin "builtins.__doc__:str#opaque")),(X2 n6 3 (Value.builtin "builtins.__package__:str#opaque")),(X2 n7 4 (Value.builtin "builtins.__loader__:shared#opaque")),(X2 n8 5 (Value.builtin PySem.W.SL.s11665532747177232413x24)),(X2 n210 6 (Value.builtin PySem.W.SL.s15183661809925369436x15)),(X2 n211 7 (Value.builtin PySem.W.SL.s13915890719876406383x10)),(X2 n212 8 (Value.builtin PySem.W.SL.s13459172003223722735x3)),(X2 n213 9 (Value.builtin PySem.W.SL.s10557405761357834076x3)),(X2 n214 10 (Value.builtin PySem.W.SL.s4233737765568776869x3)),(X2 n215 11 (Value.builtin PySem.W.SL.s2508922471967985374x5)),(X2 n216 12 (Value.builtin PySem.W.SL.s15574269061696679450x3)),(X2 n217 13 (Value.builtin PySem.W.SL.s6016482663378992977x10)),(X2 n218 14 (Value.builtin PySem.W.SL.s5596568736180474577x8)),(X2 n219 15 (Value.builtin PySem.W.SL.s2839554839881490554x3)),(X2 n220 16 (Value.builtin PySem.W.SL.s725004073602090463x7)),(X2 n221 17 (Value.builtin PySem.W.SL.s9436932552931045734x7)),(X2 n222 18 (Value.builtin PySem.W.SL.s2754603736356183583x3)),(X2 n223 19 (Value.builtin PySem.W.SL.s15185746759980889043x6)),(X2 n224 20 (Value.builtin PySem.W.SL.s8192189862530294059x4)),(X2 n225 21 (Value.builtin PySem.W.SL.s7038307821325472102x4)),(X2 n226 22 (Value.builtin PySem.W.SL.s5662562618415449548x6)),(X2 n227 23 (Value.builtin PySem.W.SL.s15281542589158584767x7)),(X2 n228 24 (Value.builtin PySem.W.SL.s17651547275483570877x7)),(X2 n229 25 (Value.builtin PySem.W.SL.s4036449017235975746x7)),(X2 n230 26 (Value.builtin PySem.W.SL.s8879979712987360175x4)),(X2 n231 27 (Value.builtin PySem.W.SL.s1801250619170735830x3)),(X2 n232 28 (Value.builtin PySem.W.SL.s17659931425627118568x2)),(X2 n233 29 (Value.builtin PySem.W.SL.s6063217899685152688x5)),(X2 n234 30 (Value.builtin PySem.W.SL.s8008927332132565319x10)),(X2 n235 31 (Value.builtin PySem.W.SL.s3544116645089599534x10)),(X2 n236 32 (Value.builtin PySem.W.SL.s13761710972054866084x4)),(X2 n237 33 (Value.builtin PySem.W.SL.s12896375587409280029x5)),(X2 n238 34 (Value.builtin PySem.W.SL.s13014049009108672802x3)),(X2 n239 35 (Value.builtin PySem.W.SL.s13935586738268321596x6)),(X2 n240 36 (Value.builtin PySem.W.SL.s8200498257699607233x3)),(X2 n241 37 (Value.builtin PySem.W.SL.s14114244577727609259x3)),(X2 n242 38 (Value.builtin PySem.W.SL.s1499430450269397089x4)),(X2 n243 39 (Value.builtin PySem.W.SL.s8755793994789770505x5)),(X2 n244 40 (Value.builtin PySem.W.SL.s15725212667919936108x3)),(X2 n245 41 (Value.builtin PySem.W.SL.s15791221867095933363x3)),(X2 n246 42 (Value.builtin PySem.W.SL.s81309575031448614x3)),(X2 n247 43 (Value.builtin PySem.W.SL.s8069831620301644142x5)),(X2 n248 44 (Value.builtin PySem.W.SL.s10061844253413749634x4)),(X2 n249 45 (Value.builtin PySem.W.SL.s9496514870978017513x5)),(X2 n250 46 (Value.builtin PySem.W.SL.s8899691144933366716x7)),(X2 n251 47 (Value.builtin PySem.W.SL.s15201008993051130160x6)),(X2 n252 48 (Value.builtin PySem.W.SL.s741896355592496720x3)),(X2 n253 49 (Value.builtin PySem.W.SL.s17925004256654032244x4)),(X2 n254 50 X7),(X2 n255 51 Value.ellipsis),(X2 n256 52 Value.notImplemented),(X2 n257 53 (XB false)),(X2 n258 54 (XB true)),(X2 n259 55 XT11),(X2 n260 56 XT12),(X2 n261 57 XT13),(X2 n262 58 XT14),(X2 n263 59 XT15),(X2 n264 60 XT16),(X2 n265 61 XT2),(X2 n266 62 XT17),(X2 n267 63 XT18),(X2 n268 64 XT19),(X2 n269 65 XT20),(X2 n270 66 XT21),(X2 n271 67 XT22),(X2 n272 68 XT9),(X2 n273 69 XT23),(X2 n274 70 XT10),(X2 n275 71 XT24),(X2 n276 72 XT25),(X2 n277 73 XT26),(X2 n278 74 XT27),(X2 n279 75 XT28),(X2 n280 76 XT29),(X2 n281 77 XT8),(X2 n282 78 XT0),(X2 n283 79 XT6),(X2 n284 80 XT30),(X2 n285 81 (XB true)),(X2 n286 82 XT31),(X2 n287 83 XT32),(X2 n288 84 XT33),(X2 n289 85 XT34),(X2 n290 86 XT35),(X2 n291 87 XT36),(X2 n292 88 XT37),(X2 n293 89 XT38),(X2 n294 90 XT39),(X2 n295 91 XT40),(X2 n296 92 XT41),(X2 n297 93 XT42),(X2 n298 94 XT43),(X2 n299 95 XT44),(X2 n300 96 XT45),(X2 n301 97 XT46),(X2 n302 98 XT47),(X2 n303 99 XT48),(X2 n304 100 XT49),(X2 n305 101 XT50),(X2 n306 102 XT51),(X2 n307 103 XT52),(X2 n308 104 XT53),(X2 n309 105 XT4),(X2 n310 106 XT54),(X2 n311 107 XT55),(X2 n312 108 XT56),(X2 n313 109 XT57),(X2 n314 110 XT58),(X2 n315 111 XT59),(X2 n316 112 XT60),(X2 n317 113 XT61),(X2 n318 114 XT62),(X2 n319 115 XT63),(X2 n320 116 XT64),(X2 n321 117 XT65),(X2 n322 118 XT66),(X2 n323 119 XT67),(X2 n324 120 XT68),(X2 n325 121 XT69),(X2 n326 122 XT70),(X2 n327 123 XT71),(X2 n328 124 XT72),(X2 n329 125 XT73),(X2 n330 126 XT74),(X2 n331 127 XT75),(X2 n332 128 XT76),(X2 n333 129 XT77),(X2 n334 130 XT78),(X2 n335 131 XT79),(X2 n336 132 XT80),(X2 n337 133 XT81),(X2 n338 134 XT82),(X2 n339 135 XT83),(X2 n340 136 XT84),(X2 n341 137 XT85),(X2 n342 138 XT86),(X2 n343 139 XT87),(X2 n344 140 XT88),(X2 n345 141 XT89),(X2 n346 142 XT90),(X2 n347 143 XT91),(X2 n348 144 XT92),(X2 n349 145 XT93),(X2 n350 146 XT94),(X2 n351 147 XT95),(X2 n352 148 XT96),(X2 n353 149 XT97),(X2 n354 150 XT98),(X2 n355 151 XT46),(X2 n356 152 XT46),(X2 n357 153 (Value.builtin PySem.W.SL.s16789243406116112673x4)),(X2 n358 154 (Value.builtin PySem.W.SL.s14400166428656793546x20)),(X2 n359 155 (Value.builtin PySem.W.SL.s5857708277339239366x20)),(X2 n360 156 (Value.builtin PySem.W.SL.s11855354603118919900x25)),(X2 n361 157 (Value.builtin PySem.W.SL.s9233592162442887856x23)),(X2 n362 158 (Value.builtin PySem.W.SL.s5312253846380744199x23)),(X2 n363 159 (Value.builtin PySem.W.SL.s7804999707787243718x20))]
noncomputable def o461 := XD XT2 X6 q40 159
noncomputable def o462 := XD XT2 X6 [(X2 n209 162 (X1 4)),(X2 n2 163 (X1 5))] 2
noncomputable def o463 := XO X7 X6 (.dict (X8 []) 0)
noncomputable def o464 := XO XT99 (some 0) .plain
noncomputable def o465 := XO XT99 (some 3) .plain
noncomputable def o466 := Y6 n0 176 1 7 175 179
noncomputable def o467 := Y4 9 3 n2 164
noncomputable def heapA (P : Params) : Heap := ⟨⟨[boot_o_0 P,boot_o_1 P,boot_o_2 P,boot_o_3 P,boot_o_4 P,boot_o_5 P,boot_o_6 P,boot_o_7 P,boot_o_8 P,boot_o_9 P,boot_o_10 P,o0 P,o1 P,o2 P,o3 P]⟩,{}⟩
noncomputable def tr0 := X3 boot_o_0 (X3 boot_o_1 (X3 boot_o_3 (X4 boot_o_7) (X4 o0)) (X3 boot_o_5 (X4 boot_o_9) (X4 o2))) (X3 boot_o_2 (X3 boot_o_4 (X4 boot_o_8) (X4 o1)) (X3 boot_o_6 (X4 boot_o_10) (X4 o3)))
noncomputable def u31 := X3 o7 (X3 o0 (X4 o37) (X4 o56)) (X3 o28 (X4 o47) X5)
noncomputable def u71 := X3 o8 (X3 o1 (X4 o38) (X4 o57)) (X3 o0 (X4 o0) X5)
noncomputable def tr1 := X3 boot_o_0 (X3 boot_o_1 (X3 o4 (X3 boot_o_7 (X3 o0 (X3 o16 (X4 o0) (X4 o54)) (X3 o26 (X4 o44) X5)) (X3 o11 (X3 o21 (X4 o1) X5) (X3 o31 (X4 o49) X5))) (X3 o0 u31 (X3 o13 (X3 o1 (X4 o42) X5) (X3 o0 (X4 o51) X5)))) (X3 boot_o_5 (X3 boot_o_9 (X3 o6 (X3 o18 (X4 o36) (X4 o1)) (X3 o0 (X4 o45) X5)) (X3 o0 (X3 o23 (X4 o0) X5) (X3 o1 (X4 o0) X5))) (X3 o2 (X3 o9 (X3 o20 (X4 o39) X5) (X3 o29 (X4 o1) X5)) (X3 o0 (X3 o0 (X4 o0) X5) (X3 o34 (X4 o52) X5))))) (X3 boot_o_2 (X3 boot_o_4 (X3 boot_o_8 (X3 o1 (X3 o17 (X4 o1) (X4 o0)) (X3 o27 (X4 o0) X5)) (X3 o12 (X3 o22 (X4 o40) X5) (X3 o0 (X4 o50) X5))) (X3 o5 u71 (X3 o14 (X3 o24 (X4 o43) X5) (X3 o33 (X4 o0) X5)))) (X3 boot_o_6 (X3 boot_o_10 (X3 o0 (X3 o19 (X4 o0) (X4 o55)) (X3 o1 (X4 o46) X5)) (X3 o1 (X3 o0 (X4 o41) X5) (X3 o32 (X4 o1) X5))) (X3 o3 (X3 o10 (X3 o0 (X4 o0) X5) (X3 o30 (X4 o48) X5)) (X3 o15 (X3 o25 (X4 o1) X5) (X3 o35 (X4 o53) X5)))))
noncomputable def tr2 := X3 boot_o_0 (X3 boot_o_1 (X3 o58 (X3 boot_o_7 (X3 o0 (X3 o16 (X4 o0) (X4 o54)) (X3 o26 (X4 o44) (X4 o0))) (X3 o11 (X3 o21 (X4 o1) (X4 o60)) (X3 o31 (X4 o49) X5))) (X3 o0 u31 (X3 o13 (X3 o1 (X4 o42) (X4 o63)) (X3 o0 (X4 o51) X5)))) (X3 boot_o_5 (X3 boot_o_9 (X3 o6 (X3 o18 (X4 o36) (X4 o1)) (X3 o0 (X4 o45) (X4 o66))) (X3 o0 (X3 o23 (X4 o0) (X4 o61)) (X3 o1 (X4 o0) X5))) (X3 o2 (X3 o9 (X3 o20 (X4 o39) (X4 o0)) (X3 o29 (X4 o1) X5)) (X3 o0 (X3 o0 (X4 o0) (X4 o1)) (X3 o34 (X4 o52) X5))))) (X3 boot_o_2 (X3 boot_o_4 (X3 boot_o_8 (X3 o1 (X3 o17 (X4 o1) (X4 o0)) (X3 o27 (X4 o0) (X4 o65))) (X3 o12 (X3 o22 (X4 o40) (X4 o0)) (X3 o0 (X4 o50) X5))) (X3 o59 u71 (X3 o14 (X3 o24 (X4 o43) (X4 o0)) (X3 o33 (X4 o0) X5)))) (X3 boot_o_6 (X3 boot_o_10 (X3 o0 (X3 o19 (X4 o0) (X4 o55)) (X3 o1 (X4 o46) (X4 o67))) (X3 o1 (X3 o0 (X4 o41) (X4 o62)) (X3 o32 (X4 o1) X5))) (X3 o3 (X3 o10 (X3 o0 (X4 o0) (X4 o1)) (X3 o30 (X4 o48) X5)) (X3 o15 (X3 o25 (X4 o1) (X4 o64)) (X3 o35 (X4 o53) X5)))))
noncomputable def tr3 := X3 boot_o_0 (X3 boot_o_1 (X3 o68 (X3 boot_o_7 (X3 o0 (X3 o16 (X3 o0 (X4 o76) (X4 o115)) (X3 o54 (X4 o94) X5)) (X3 o26 (X3 o44 (X4 o0) X5) (X3 o0 (X4 o103) X5))) (X3 o11 (X3 o21 (X3 o1 (X4 o81) X5) (X3 o60 (X4 o0) X5)) (X3 o31 (X3 o49 (X4 o1) X5) (X3 o71 (X4 o108) X5)))) (X3 o0 (X3 o7 (X3 o0 (X3 o37 (X4 o78) X5) (X3 o56 (X4 o97) X5)) (X3 o28 (X3 o47 (X4 o87) X5) (X3 o0 (X4 o1) X5))) (X3 o13 (X3 o1 (X3 o42 (X4 o0) X5) (X3 o63 (X4 o0) X5)) (X3 o0 (X3 o51 (X4 o92) X5) (X3 o1 (X4 o111) X5))))) (X3 boot_o_5 (X3 boot_o_9 (X3 o6 (X3 o18 (X3 o36 (X4 o0) X5) (X3 o1 (X4 o95) X5)) (X3 o0 (X3 o45 (X4 o86) X5) (X3 o66 (X4 o105) X5))) (X3 o0 (X3 o23 (X3 o0 (X4 o1) X5) (X3 o61 (X4 o100) X5)) (X3 o1 (X3 o0 (X4 o0) X5) (X3 o73 (X4 o0) X5)))) (X3 o2 (X3 o9 (X3 o20 (X3 o39 (X4 o79) X5) (X3 o0 (X4 o1) X5)) (X3 o29 (X3 o1 (X4 o89) X5) (X3 o70 (X4 o0) X5))) (X3 o0 (X3 o0 (X3 o0 (X4 o84) X5) (X3 o1 (X4 o102) X5)) (X3 o34 (X3 o52 (X4 o0) X5) (X3 o0 (X4 o113) X5)))))) (X3 boot_o_2 (X3 boot_o_4 (X3 boot_o_8 (X3 o1 (X3 o17 (X3 o1 (X4 o77) X5) (X3 o0 (X4 o0) X5)) (X3 o27 (X3 o0 (X4 o1) X5) (X3 o65 (X4 o104) X5))) (X3 o12 (X3 o22 (X3 o40 (X4 o0) X5) (X3 o0 (X4 o99) X5)) (X3 o0 (X3 o50 (X4 o90) X5) (X3 o72 (X4 o109) X5)))) (X3 o69 (X3 o8 (X3 o1 (X3 o38 (X4 o0) X5) (X3 o57 (X4 o0) X5)) (X3 o0 (X3 o0 (X4 o88) X5) (X3 o11 (X4 o106) X5))) (X3 o14 (X3 o24 (X3 o43 (X4 o83) X5) (X3 o0 (X4 o1) X5)) (X3 o33 (X3 o0 (X4 o93) X5) (X3 o74 (X4 o112) X5))))) (X3 boot_o_6 (X3 boot_o_10 (X3 o0 (X3 o19 (X3 o0 (X4 o1) X5) (X3 o55 (X4 o96) X5)) (X3 o1 (X3 o46 (X4 o0) X5) (X3 o67 (X4 o0) X5))) (X3 o1 (X3 o0 (X3 o41 (X4 o82) X5) (X3 o62 (X4 o101) X5)) (X3 o32 (X3 o1 (X4 o91) X5) (X3 o0 (X4 o110) X5)))) (X3 o3 (X3 o10 (X3 o0 (X3 o0 (X4 o80) X5) (X3 o1 (X4 o98) X5)) (X3 o30 (X3 o48 (X4 o0) X5) (X3 o0 (X4 o107) X5))) (X3 o15 (X3 o25 (X3 o1 (X4 o85) X5) (X3 o64 (X4 o0) X5)) (X3 o35 (X3 o53 (X4 o1) X5) (X3 o75 (X4 o114) X5))))))
noncomputable def tr4 := X3 boot_o_0 (X3 boot_o_1 (X3 o116 (X3 boot_o_7 (X3 o0 (X3 o16 (X3 o0 (X3 o76 (X4 o0) X5) (X4 o115)) (X3 o54 (X4 o94) (X4 o0))) (X3 o26 (X3 o44 (X4 o0) (X4 o1)) (X3 o0 (X4 o103) (X4 o144)))) (X3 o11 (X3 o21 (X3 o1 (X3 o81 (X4 o158) X5) (X4 o0)) (X3 o60 (X4 o0) (X4 o139))) (X3 o31 (X3 o49 (X4 o1) (X4 o130)) (X3 o71 (X4 o108) (X4 o149))))) (X3 o0 (X3 o7 (X3 o0 (X3 o37 (X3 o78 (X4 o155) X5) (X4 o0)) (X3 o56 (X4 o97) (X4 o0))) (X3 o28 (X3 o47 (X4 o87) (X4 o128)) (X3 o0 (X4 o1) (X4 o146)))) (X3 o13 (X3 o1 (X3 o42 (X3 o0 (X4 o162) X5) (X4 o123)) (X3 o63 (X4 o0) (X4 o1))) (X3 o0 (X3 o51 (X4 o92) (X4 o133)) (X3 o1 (X4 o111) (X4 o0)))))) (X3 boot_o_5 (X3 boot_o_9 (X3 o6 (X3 o18 (X3 o36 (X3 o0 (X4 o154) X5) (X4 o11)) (X3 o1 (X4 o95) (X4 o136))) (X3 o0 (X3 o45 (X4 o86) (X4 o0)) (X3 o66 (X4 o105) (X4 o0)))) (X3 o0 (X3 o23 (X3 o0 (X3 o1 (X4 o160) X5) (X4 o122)) (X3 o61 (X4 o100) (X4 o141))) (X3 o1 (X3 o0 (X4 o0) (X4 o131)) (X3 o73 (X4 o0) (X4 o1))))) (X3 o2 (X3 o9 (X3 o20 (X3 o39 (X3 o79 (X4 o157) X5) (X4 o120)) (X3 o0 (X4 o1) (X4 o138))) (X3 o29 (X3 o1 (X4 o89) (X4 o0)) (X3 o70 (X4 o0) (X4 o147)))) (X3 o0 (X3 o0 (X3 o0 (X4 o84) (X4 o125)) (X3 o1 (X4 o102) (X4 o0))) (X3 o34 (X3 o52 (X4 o0) (X4 o1)) (X3 o0 (X4 o113) (X4 o152))))))) (X3 boot_o_2 (X3 boot_o_4 (X3 boot_o_8 (X3 o1 (X3 o17 (X3 o1 (X3 o77 (X4 o1) X5) (X4 o0)) (X3 o0 (X4 o0) (X4 o135))) (X3 o27 (X3 o0 (X4 o1) (X4 o126)) (X3 o65 (X4 o104) (X4 o145)))) (X3 o12 (X3 o22 (X3 o40 (X3 o0 (X4 o159) X5) (X4 o1)) (X3 o0 (X4 o99) (X4 o140))) (X3 o0 (X3 o50 (X4 o90) (X4 o0)) (X3 o72 (X4 o109) (X4 o0))))) (X3 o117 (X3 o8 (X3 o1 (X3 o38 (X3 o0 (X4 o156) X5) (X4 o119)) (X3 o57 (X4 o0) (X4 o1))) (X3 o0 (X3 o0 (X4 o88) (X4 o129)) (X3 o11 (X4 o106) (X4 o0)))) (X3 o14 (X3 o24 (X3 o43 (X3 o83 (X4 o163) X5) (X4 o124)) (X3 o0 (X4 o1) (X4 o142))) (X3 o33 (X3 o0 (X4 o93) (X4 o0)) (X3 o74 (X4 o112) (X4 o151)))))) (X3 boot_o_6 (X3 boot_o_10 (X3 o0 (X3 o19 (X3 o0 (X3 o1 (X4 o0) X5) (X4 o118)) (X3 o55 (X4 o96) (X4 o137))) (X3 o1 (X3 o46 (X4 o0) (X4 o127)) (X3 o67 (X4 o0) (X4 o1)))) (X3 o1 (X3 o0 (X3 o41 (X3 o82 (X4 o161) X5) (X4 o0)) (X3 o62 (X4 o101) (X4 o0))) (X3 o32 (X3 o1 (X4 o91) (X4 o132)) (X3 o0 (X4 o110) (X4 o150))))) (X3 o3 (X3 o10 (X3 o0 (X3 o0 (X3 o80 (X4 o0) X5) (X4 o121)) (X3 o1 (X4 o98) (X4 o0))) (X3 o30 (X3 o48 (X4 o0) (X4 o1)) (X3 o0 (X4 o107) (X4 o148)))) (X3 o15 (X3 o25 (X3 o1 (X4 o85) (X4 o0)) (X3 o64 (X4 o0) (X4 o143))) (X3 o35 (X3 o53 (X4 o1) (X4 o134)) (X3 o75 (X4 o114) (X4 o153)))))))
noncomputable def tr5 := X3 boot_o_0 (X3 boot_o_1 (X3 o164 (X3 boot_o_7 (X3 o0 (X3 o16 (X3 o0 (X3 o76 (X4 o0) X5) (X3 o115 (X4 o1) X5)) (X3 o54 (X3 o94 (X4 o175) X5) (X3 o0 (X4 o214) X5))) (X3 o26 (X3 o44 (X3 o0 (X4 o166) X5) (X3 o1 (X4 o0) X5)) (X3 o0 (X3 o103 (X4 o185) X5) (X4 o144)))) (X3 o11 (X3 o21 (X3 o1 (X3 o81 (X4 o158) X5) (X3 o0 (X4 o198) X5)) (X3 o60 (X3 o0 (X4 o180) X5) (X4 o139))) (X3 o31 (X3 o49 (X3 o1 (X4 o0) X5) (X3 o130 (X4 o209) X5)) (X3 o71 (X3 o108 (X4 o0) X5) (X4 o149))))) (X3 o0 (X3 o7 (X3 o0 (X3 o37 (X3 o78 (X4 o155) X5) (X3 o0 (X4 o196) X5)) (X3 o56 (X3 o97 (X4 o1) X5) (X4 o0))) (X3 o28 (X3 o47 (X3 o87 (X4 o169) X5) (X3 o128 (X4 o0) X5)) (X3 o0 (X3 o1 (X4 o0) X5) (X4 o146)))) (X3 o13 (X3 o1 (X3 o42 (X3 o0 (X4 o162) X5) (X3 o123 (X4 o201) X5)) (X3 o63 (X3 o0 (X4 o182) X5) (X4 o1))) (X3 o0 (X3 o51 (X3 o92 (X4 o0) X5) (X3 o133 (X4 o1) X5)) (X3 o1 (X3 o111 (X4 o191) X5) (X4 o0)))))) (X3 boot_o_5 (X3 boot_o_9 (X3 o6 (X3 o18 (X3 o36 (X3 o0 (X4 o154) X5) (X3 o11 (X4 o0) X5)) (X3 o1 (X3 o95 (X4 o177) X5) (X4 o136))) (X3 o0 (X3 o45 (X3 o86 (X4 o167) X5) (X3 o0 (X4 o204) X5)) (X3 o66 (X3 o105 (X4 o1) X5) (X4 o0)))) (X3 o0 (X3 o23 (X3 o0 (X3 o1 (X4 o160) X5) (X3 o122 (X4 o199) X5)) (X3 o61 (X3 o100 (X4 o0) X5) (X4 o141))) (X3 o1 (X3 o0 (X3 o0 (X4 o172) X5) (X3 o131 (X4 o211) X5)) (X3 o73 (X3 o0 (X4 o190) X5) (X4 o1))))) (X3 o2 (X3 o9 (X3 o20 (X3 o39 (X3 o79 (X4 o157) X5) (X3 o120 (X4 o0) X5)) (X3 o0 (X3 o1 (X4 o0) X5) (X4 o138))) (X3 o29 (X3 o1 (X3 o89 (X4 o1) X5) (X3 o0 (X4 o207) X5)) (X3 o70 (X3 o0 (X4 o188) X5) (X4 o147)))) (X3 o0 (X3 o0 (X3 o0 (X3 o84 (X4 o0) X5) (X3 o125 (X4 o1) X5)) (X3 o1 (X3 o102 (X4 o183) X5) (X4 o0))) (X3 o34 (X3 o52 (X3 o0 (X4 o174) X5) (X3 o1 (X4 o0) X5)) (X3 o0 (X3 o113 (X4 o193) X5) (X4 o152))))))) (X3 boot_o_2 (X3 boot_o_4 (X3 boot_o_8 (X3 o1 (X3 o17 (X3 o1 (X3 o77 (X4 o1) X5) (X3 o0 (X4 o194) X5)) (X3 o0 (X3 o0 (X4 o176) X5) (X3 o135 (X4 o215) X5))) (X3 o27 (X3 o0 (X3 o1 (X4 o0) X5) (X3 o126 (X4 o203) X5)) (X3 o65 (X3 o104 (X4 o0) X5) (X4 o145)))) (X3 o12 (X3 o22 (X3 o40 (X3 o0 (X4 o159) X5) (X3 o1 (X4 o0) X5)) (X3 o0 (X3 o99 (X4 o181) X5) (X4 o140))) (X3 o0 (X3 o50 (X3 o90 (X4 o171) X5) (X3 o0 (X4 o210) X5)) (X3 o72 (X3 o109 (X4 o1) X5) (X4 o0))))) (X3 o165 (X3 o8 (X3 o1 (X3 o38 (X3 o0 (X4 o156) X5) (X3 o119 (X4 o197) X5)) (X3 o57 (X3 o0 (X4 o178) X5) (X4 o1))) (X3 o0 (X3 o0 (X3 o88 (X4 o0) X5) (X3 o129 (X4 o206) X5)) (X3 o11 (X3 o106 (X4 o187) X5) (X4 o0)))) (X3 o14 (X3 o24 (X3 o43 (X3 o83 (X4 o163) X5) (X3 o124 (X4 o0) X5)) (X3 o0 (X3 o1 (X4 o0) X5) (X4 o142))) (X3 o33 (X3 o0 (X3 o93 (X4 o1) X5) (X3 o0 (X4 o212) X5)) (X3 o74 (X3 o112 (X4 o192) X5) (X4 o151)))))) (X3 boot_o_6 (X3 boot_o_10 (X3 o0 (X3 o19 (X3 o0 (X3 o1 (X4 o0) X5) (X3 o118 (X4 o195) X5)) (X3 o55 (X3 o96 (X4 o0) X5) (X4 o137))) (X3 o1 (X3 o46 (X3 o0 (X4 o168) X5) (X3 o127 (X4 o205) X5)) (X3 o67 (X3 o0 (X4 o186) X5) (X4 o1)))) (X3 o1 (X3 o0 (X3 o41 (X3 o82 (X4 o161) X5) (X3 o0 (X4 o200) X5)) (X3 o62 (X3 o101 (X4 o1) X5) (X4 o0))) (X3 o32 (X3 o1 (X3 o91 (X4 o173) X5) (X3 o132 (X4 o0) X5)) (X3 o0 (X3 o110 (X4 o0) X5) (X4 o150))))) (X3 o3 (X3 o10 (X3 o0 (X3 o0 (X3 o80 (X4 o0) X5) (X3 o121 (X4 o1) X5)) (X3 o1 (X3 o98 (X4 o179) X5) (X4 o0))) (X3 o30 (X3 o48 (X3 o0 (X4 o170) X5) (X3 o1 (X4 o208) X5)) (X3 o0 (X3 o107 (X4 o189) X5) (X4 o148)))) (X3 o15 (X3 o25 (X3 o1 (X3 o85 (X4 o11) X5) (X3 o0 (X4 o202) X5)) (X3 o64 (X3 o0 (X4 o184) X5) (X4 o143))) (X3 o35 (X3 o53 (X3 o1 (X4 o0) X5) (X3 o134 (X4 o213) X5)) (X3 o75 (X3 o114 (X4 o0) X5) (X4 o153)))))))
noncomputable def u752 := X3 o54 (X3 o94 (X4 o175) (X4 o253)) (X3 o0 (X4 o214) X5)
noncomputable def u761 := X3 o0 (X3 o103 (X4 o185) (X4 o265)) (X3 o144 (X4 o226) X5)
noncomputable def u770 := X3 o60 (X3 o0 (X4 o180) (X4 o258)) (X3 o139 (X4 o221) X5)
noncomputable def u786 := X3 o56 (X3 o97 (X4 o1) (X4 o1)) (X3 o0 (X4 o218) X5)
noncomputable def u817 := X3 o1 (X3 o95 (X4 o177) (X4 o255)) (X3 o136 (X4 o0) X5)
noncomputable def u830 := X3 o61 (X3 o100 (X4 o0) (X4 o0)) (X3 o141 (X4 o223) X5)
noncomputable def u844 := X3 o0 (X3 o1 (X4 o0) (X4 o0)) (X3 o138 (X4 o219) X5)
noncomputable def u857 := X3 o1 (X3 o102 (X4 o183) (X4 o263)) (X3 o0 (X4 o0) X5)
noncomputable def u874 := X3 o0 (X3 o0 (X4 o176) (X4 o254)) (X3 o135 (X4 o215) X5)
noncomputable def u889 := X3 o0 (X3 o99 (X4 o181) (X4 o259)) (X3 o140 (X4 o222) X5)
noncomputable def u903 := X3 o57 (X3 o0 (X4 o178) (X4 o256)) (X3 o1 (X4 o0) X5)
noncomputable def u917 := X3 o0 (X3 o1 (X4 o0) (X4 o262)) (X3 o142 (X4 o224) X5)
noncomputable def u931 := X3 o55 (X3 o96 (X4 o0) (X4 o0)) (X3 o137 (X4 o11) X5)
noncomputable def u944 := X3 o62 (X3 o101 (X4 o1) (X4 o260)) (X3 o0 (X4 o0) X5)
noncomputable def u961 := X3 o1 (X3 o98 (X4 o179) (X4 o257)) (X3 o0 (X4 o220) X5)
noncomputable def u977 := X3 o64 (X3 o0 (X4 o184) (X4 o264)) (X3 o143 (X4 o225) X5)
noncomputable def tr6 := X3 boot_o_0 (X3 boot_o_1 (X3 o216 (X3 boot_o_7 (X3 o0 (X3 o16 (X3 o0 (X3 o76 (X4 o0) (X4 o0)) (X3 o115 (X4 o1) X5)) u752) (X3 o26 (X3 o44 (X3 o0 (X4 o166) (X4 o244)) (X3 o1 (X4 o0) X5)) u761)) (X3 o11 (X3 o21 (X3 o1 (X3 o81 (X4 o158) (X4 o1)) (X3 o0 (X4 o198) X5)) u770) (X3 o31 (X3 o49 (X3 o1 (X4 o0) (X4 o0)) (X3 o130 (X4 o209) X5)) (X3 o71 (X3 o108 (X4 o0) X5) (X3 o149 (X4 o231) X5))))) (X3 o0 (X3 o7 (X3 o0 (X3 o37 (X3 o78 (X4 o155) (X4 o237)) (X3 o0 (X4 o196) X5)) u786) (X3 o28 (X3 o47 (X3 o87 (X4 o169) (X4 o247)) (X3 o128 (X4 o0) X5)) (X3 o0 (X3 o1 (X4 o0) X5) (X3 o146 (X4 o228) X5)))) (X3 o13 (X3 o1 (X3 o42 (X3 o0 (X4 o162) (X4 o242)) (X3 o123 (X4 o201) X5)) (X3 o63 (X3 o0 (X4 o182) (X4 o261)) (X3 o1 (X4 o1) X5))) (X3 o0 (X3 o51 (X3 o92 (X4 o0) (X4 o0)) (X3 o133 (X4 o1) X5)) (X3 o1 (X3 o111 (X4 o191) X5) (X3 o0 (X4 o0) X5)))))) (X3 boot_o_5 (X3 boot_o_9 (X3 o6 (X3 o18 (X3 o36 (X3 o0 (X4 o154) (X4 o236)) (X3 o11 (X4 o0) X5)) u817) (X3 o0 (X3 o45 (X3 o86 (X4 o167) (X4 o245)) (X3 o0 (X4 o204) X5)) (X3 o66 (X3 o105 (X4 o1) X5) (X3 o0 (X4 o0) X5)))) (X3 o0 (X3 o23 (X3 o0 (X3 o1 (X4 o160) (X4 o0)) (X3 o122 (X4 o199) X5)) u830) (X3 o1 (X3 o0 (X3 o0 (X4 o172) (X4 o250)) (X3 o131 (X4 o211) X5)) (X3 o73 (X3 o0 (X4 o190) X5) (X3 o1 (X4 o1) X5))))) (X3 o2 (X3 o9 (X3 o20 (X3 o39 (X3 o79 (X4 o157) (X4 o239)) (X3 o120 (X4 o0) X5)) u844) (X3 o29 (X3 o1 (X3 o89 (X4 o1) (X4 o1)) (X3 o0 (X4 o207) X5)) (X3 o70 (X3 o0 (X4 o188) X5) (X3 o147 (X4 o229) X5)))) (X3 o0 (X3 o0 (X3 o0 (X3 o84 (X4 o0) (X4 o0)) (X3 o125 (X4 o1) X5)) u857) (X3 o34 (X3 o52 (X3 o0 (X4 o174) (X4 o252)) (X3 o1 (X4 o0) X5)) (X3 o0 (X3 o113 (X4 o193) X5) (X3 o152 (X4 o234) X5))))))) (X3 boot_o_2 (X3 boot_o_4 (X3 boot_o_8 (X3 o1 (X3 o17 (X3 o1 (X3 o77 (X4 o1) (X4 o1)) (X3 o0 (X4 o194) X5)) u874) (X3 o27 (X3 o0 (X3 o1 (X4 o0) (X4 o0)) (X3 o126 (X4 o203) X5)) (X3 o65 (X3 o104 (X4 o0) X5) (X3 o145 (X4 o227) X5)))) (X3 o12 (X3 o22 (X3 o40 (X3 o0 (X4 o159) (X4 o240)) (X3 o1 (X4 o0) X5)) u889) (X3 o0 (X3 o50 (X3 o90 (X4 o171) (X4 o249)) (X3 o0 (X4 o210) X5)) (X3 o72 (X3 o109 (X4 o1) X5) (X3 o0 (X4 o0) X5))))) (X3 o217 (X3 o8 (X3 o1 (X3 o38 (X3 o0 (X4 o156) (X4 o238)) (X3 o119 (X4 o197) X5)) u903) (X3 o0 (X3 o0 (X3 o88 (X4 o0) (X4 o0)) (X3 o129 (X4 o206) X5)) (X3 o11 (X3 o106 (X4 o187) X5) (X3 o0 (X4 o0) X5)))) (X3 o14 (X3 o24 (X3 o43 (X3 o83 (X4 o163) (X4 o243)) (X3 o124 (X4 o0) X5)) u917) (X3 o33 (X3 o0 (X3 o93 (X4 o1) (X4 o1)) (X3 o0 (X4 o212) X5)) (X3 o74 (X3 o112 (X4 o192) X5) (X3 o151 (X4 o233) X5)))))) (X3 boot_o_6 (X3 boot_o_10 (X3 o0 (X3 o19 (X3 o0 (X3 o1 (X4 o0) (X4 o0)) (X3 o118 (X4 o195) X5)) u931) (X3 o1 (X3 o46 (X3 o0 (X4 o168) (X4 o246)) (X3 o127 (X4 o205) X5)) (X3 o67 (X3 o0 (X4 o186) X5) (X3 o1 (X4 o1) X5)))) (X3 o1 (X3 o0 (X3 o41 (X3 o82 (X4 o161) (X4 o241)) (X3 o0 (X4 o200) X5)) u944) (X3 o32 (X3 o1 (X3 o91 (X4 o173) (X4 o251)) (X3 o132 (X4 o0) X5)) (X3 o0 (X3 o110 (X4 o0) X5) (X3 o150 (X4 o232) X5))))) (X3 o3 (X3 o10 (X3 o0 (X3 o0 (X3 o80 (X4 o0) (X4 o0)) (X3 o121 (X4 o1) X5)) u961) (X3 o30 (X3 o48 (X3 o0 (X4 o170) (X4 o248)) (X3 o1 (X4 o208) X5)) (X3 o0 (X3 o107 (X4 o189) X5) (X3 o148 (X4 o230) X5)))) (X3 o15 (X3 o25 (X3 o1 (X3 o85 (X4 o11) (X4 o1)) (X3 o0 (X4 o202) X5)) u977) (X3 o35 (X3 o53 (X3 o1 (X4 o0) (X4 o0)) (X3 o134 (X4 o213) X5)) (X3 o75 (X3 o114 (X4 o0) X5) (X3 o153 (X4 o235) X5)))))))
noncomputable def u990 := X3 o0 (X3 o76 (X4 o0) (X4 o0)) (X3 o115 (X4 o1) (X4 o1))
noncomputable def u992 := X3 o44 (X3 o0 (X4 o166) (X4 o244)) (X3 o1 (X4 o0) (X4 o0))
noncomputable def u997 := X3 o1 (X3 o81 (X4 o158) (X4 o1)) (X3 o0 (X4 o198) (X4 o282))
noncomputable def u1001 := X3 o49 (X3 o1 (X4 o0) (X4 o0)) (X3 o130 (X4 o209) (X4 o293))
noncomputable def u1004 := X3 o31 u1001 (X3 o71 (X3 o108 (X4 o0) (X4 o0)) (X3 o149 (X4 o231) X5))
noncomputable def u1009 := X3 o37 (X3 o78 (X4 o155) (X4 o237)) (X3 o0 (X4 o196) (X4 o280))
noncomputable def u1014 := X3 o28 (X3 o47 (X3 o87 (X4 o169) (X4 o247)) (X3 o128 (X4 o0) (X4 o0))) (X3 o0 (X3 o1 (X4 o0) (X4 o0)) (X3 o146 (X4 o228) X5))
noncomputable def u1018 := X3 o42 (X3 o0 (X4 o162) (X4 o242)) (X3 o123 (X4 o201) (X4 o285))
noncomputable def u1024 := X3 o51 (X3 o92 (X4 o0) (X4 o0)) (X3 o133 (X4 o1) (X4 o0))
noncomputable def u1028 := X3 o0 u1024 (X3 o1 (X3 o111 (X4 o191) (X4 o275)) (X3 o0 (X4 o0) X5))
noncomputable def u1033 := X3 o36 (X3 o0 (X4 o154) (X4 o236)) (X3 o11 (X4 o0) (X4 o0))
noncomputable def u1037 := X3 o45 (X3 o86 (X4 o167) (X4 o245)) (X3 o0 (X4 o204) (X4 o288))
noncomputable def u1044 := X3 o0 (X3 o1 (X4 o160) (X4 o0)) (X3 o122 (X4 o199) (X4 o283))
noncomputable def u1047 := X3 o0 (X3 o0 (X4 o172) (X4 o250)) (X3 o131 (X4 o211) (X4 o1))
noncomputable def u1051 := X3 o1 u1047 (X3 o73 (X3 o0 (X4 o190) (X4 o274)) (X3 o1 (X4 o1) X5))
noncomputable def u1055 := X3 o39 (X3 o79 (X4 o157) (X4 o239)) (X3 o120 (X4 o0) (X4 o0))
noncomputable def u1059 := X3 o1 (X3 o89 (X4 o1) (X4 o1)) (X3 o0 (X4 o207) (X4 o291))
noncomputable def u1063 := X3 o29 u1059 (X3 o70 (X3 o0 (X4 o188) (X4 o272)) (X3 o147 (X4 o229) X5))
noncomputable def u1066 := X3 o0 (X3 o84 (X4 o0) (X4 o0)) (X3 o125 (X4 o1) (X4 o1))
noncomputable def u1070 := X3 o52 (X3 o0 (X4 o174) (X4 o252)) (X3 o1 (X4 o0) (X4 o296))
noncomputable def u1074 := X3 o34 u1070 (X3 o0 (X3 o113 (X4 o193) (X4 o277)) (X3 o152 (X4 o234) X5))
noncomputable def u1081 := X3 o1 (X3 o77 (X4 o1) (X4 o1)) (X3 o0 (X4 o194) (X4 o278))
noncomputable def u1085 := X3 o0 (X3 o1 (X4 o0) (X4 o0)) (X3 o126 (X4 o203) (X4 o287))
noncomputable def u1091 := X3 o40 (X3 o0 (X4 o159) (X4 o240)) (X3 o1 (X4 o0) (X4 o0))
noncomputable def u1094 := X3 o50 (X3 o90 (X4 o171) (X4 o249)) (X3 o0 (X4 o210) (X4 o0))
noncomputable def u1097 := X3 o0 u1094 (X3 o72 (X3 o109 (X4 o1) (X4 o1)) (X3 o0 (X4 o0) X5))
noncomputable def u1102 := X3 o38 (X3 o0 (X4 o156) (X4 o238)) (X3 o119 (X4 o197) (X4 o281))
noncomputable def u1110 := X3 o0 (X3 o0 (X3 o88 (X4 o0) (X4 o0)) (X3 o129 (X4 o206) (X4 o290))) (X3 o11 (X3 o106 (X4 o187) (X4 o271)) (X3 o0 (X4 o0) X5))
noncomputable def u1113 := X3 o43 (X3 o83 (X4 o163) (X4 o243)) (X3 o124 (X4 o0) (X4 o0))
noncomputable def u1117 := X3 o0 (X3 o93 (X4 o1) (X4 o1)) (X3 o0 (X4 o212) (X4 o295))
noncomputable def u1121 := X3 o33 u1117 (X3 o74 (X3 o112 (X4 o192) (X4 o276)) (X3 o151 (X4 o233) X5))
noncomputable def u1127 := X3 o0 (X3 o1 (X4 o0) (X4 o0)) (X3 o118 (X4 o195) (X4 o279))
noncomputable def u1135 := X3 o1 (X3 o46 (X3 o0 (X4 o168) (X4 o246)) (X3 o127 (X4 o205) (X4 o289))) (X3 o67 (X3 o0 (X4 o186) (X4 o270)) (X3 o1 (X4 o1) X5))
noncomputable def u1139 := X3 o41 (X3 o82 (X4 o161) (X4 o241)) (X3 o0 (X4 o200) (X4 o284))
noncomputable def u1143 := X3 o1 (X3 o91 (X4 o173) (X4 o251)) (X3 o132 (X4 o0) (X4 o294))
noncomputable def u1146 := X3 o32 u1143 (X3 o0 (X3 o110 (X4 o0) (X4 o0)) (X3 o150 (X4 o232) X5))
noncomputable def u1150 := X3 o0 (X3 o80 (X4 o0) (X4 o0)) (X3 o121 (X4 o1) (X4 o1))
noncomputable def u1154 := X3 o48 (X3 o0 (X4 o170) (X4 o248)) (X3 o1 (X4 o208) (X4 o292))
noncomputable def u1158 := X3 o30 u1154 (X3 o0 (X3 o107 (X4 o189) (X4 o273)) (X3 o148 (X4 o230) X5))
noncomputable def u1162 := X3 o1 (X3 o85 (X4 o11) (X4 o1)) (X3 o0 (X4 o202) (X4 o286))
noncomputable def u1166 := X3 o53 (X3 o1 (X4 o0) (X4 o0)) (X3 o134 (X4 o213) (X4 o297))
noncomputable def u1169 := X3 o35 u1166 (X3 o75 (X3 o114 (X4 o0) (X4 o0)) (X3 o153 (X4 o235) X5))
noncomputable def tr7 := X3 boot_o_0 (X3 boot_o_1 (X3 o266 (X3 boot_o_7 (X3 o0 (X3 o16 u990 u752) (X3 o26 u992 u761)) (X3 o11 (X3 o21 u997 u770) u1004)) (X3 o0 (X3 o7 (X3 o0 u1009 u786) u1014) (X3 o13 (X3 o1 u1018 (X3 o63 (X3 o0 (X4 o182) (X4 o268)) (X3 o1 (X4 o1) X5))) u1028))) (X3 boot_o_5 (X3 boot_o_9 (X3 o6 (X3 o18 u1033 u817) (X3 o0 u1037 (X3 o66 (X3 o105 (X4 o1) (X4 o11)) (X3 o0 (X4 o0) X5)))) (X3 o0 (X3 o23 u1044 u830) u1051)) (X3 o2 (X3 o9 (X3 o20 u1055 u844) u1063) (X3 o0 (X3 o0 u1066 u857) u1074)))) (X3 boot_o_2 (X3 boot_o_4 (X3 boot_o_8 (X3 o1 (X3 o17 u1081 u874) (X3 o27 u1085 (X3 o65 (X3 o104 (X4 o0) (X4 o269)) (X3 o145 (X4 o227) X5)))) (X3 o12 (X3 o22 u1091 u889) u1097)) (X3 o267 (X3 o8 (X3 o1 u1102 u903) u1110) (X3 o14 (X3 o24 u1113 u917) u1121))) (X3 boot_o_6 (X3 boot_o_10 (X3 o0 (X3 o19 u1127 u931) u1135) (X3 o1 (X3 o0 u1139 u944) u1146)) (X3 o3 (X3 o10 (X3 o0 u1150 u961) u1158) (X3 o15 (X3 o25 u1162 u977) u1169))))
noncomputable def u1177 := X3 o54 (X3 o94 (X4 o175) (X4 o253)) (X3 o0 (X4 o214) (X4 o300))
noncomputable def u1181 := X3 o0 (X3 o103 (X4 o185) (X4 o265)) (X3 o144 (X4 o226) (X4 o309))
noncomputable def u1185 := X3 o60 (X3 o0 (X4 o180) (X4 o258)) (X3 o139 (X4 o221) (X4 o300))
noncomputable def u1190 := X3 o56 (X3 o97 (X4 o1) (X4 o1)) (X3 o0 (X4 o218) (X4 o300))
noncomputable def u1194 := X3 o63 (X3 o0 (X4 o182) (X4 o268)) (X3 o1 (X4 o1) (X4 o1))
noncomputable def u1200 := X3 o1 (X3 o95 (X4 o177) (X4 o255)) (X3 o136 (X4 o0) (X4 o300))
noncomputable def u1204 := X3 o66 (X3 o105 (X4 o1) (X4 o11)) (X3 o0 (X4 o0) (X4 o311))
noncomputable def u1209 := X3 o61 (X3 o100 (X4 o0) (X4 o0)) (X3 o141 (X4 o223) (X4 o306))
noncomputable def u1214 := X3 o0 (X3 o1 (X4 o0) (X4 o0)) (X3 o138 (X4 o219) (X4 o300))
noncomputable def u1218 := X3 o1 (X3 o102 (X4 o183) (X4 o263)) (X3 o0 (X4 o0) (X4 o0))
noncomputable def u1226 := X3 o0 (X3 o0 (X4 o176) (X4 o254)) (X3 o135 (X4 o215) (X4 o301))
noncomputable def u1230 := X3 o65 (X3 o104 (X4 o0) (X4 o269)) (X3 o145 (X4 o227) (X4 o310))
noncomputable def u1235 := X3 o0 (X3 o99 (X4 o181) (X4 o259)) (X3 o140 (X4 o222) (X4 o305))
noncomputable def u1241 := X3 o57 (X3 o0 (X4 o178) (X4 o256)) (X3 o1 (X4 o0) (X4 o303))
noncomputable def u1246 := X3 o0 (X3 o1 (X4 o0) (X4 o262)) (X3 o142 (X4 o224) (X4 o307))
noncomputable def u1253 := X3 o55 (X3 o96 (X4 o0) (X4 o0)) (X3 o137 (X4 o11) (X4 o302))
noncomputable def u1256 := X3 o62 (X3 o101 (X4 o1) (X4 o260)) (X3 o0 (X4 o0) (X4 o0))
noncomputable def u1262 := X3 o1 (X3 o98 (X4 o179) (X4 o257)) (X3 o0 (X4 o220) (X4 o304))
noncomputable def u1267 := X3 o64 (X3 o0 (X4 o184) (X4 o264)) (X3 o143 (X4 o225) (X4 o308))
noncomputable def tr8 := X3 boot_o_0 (X3 boot_o_1 (X3 o298 (X3 boot_o_7 (X3 o0 (X3 o16 u990 u1177) (X3 o26 u992 u1181)) (X3 o11 (X3 o21 u997 u1185) u1004)) (X3 o0 (X3 o7 (X3 o0 u1009 u1190) u1014) (X3 o13 (X3 o1 u1018 u1194) u1028))) (X3 boot_o_5 (X3 boot_o_9 (X3 o6 (X3 o18 u1033 u1200) (X3 o0 u1037 u1204)) (X3 o0 (X3 o23 u1044 u1209) u1051)) (X3 o2 (X3 o9 (X3 o20 u1055 u1214) u1063) (X3 o0 (X3 o0 u1066 u1218) u1074)))) (X3 boot_o_2 (X3 boot_o_4 (X3 boot_o_8 (X3 o1 (X3 o17 u1081 u1226) (X3 o27 u1085 u1230)) (X3 o12 (X3 o22 u1091 u1235) u1097)) (X3 o299 (X3 o8 (X3 o1 u1102 u1241) u1110) (X3 o14 (X3 o24 u1113 u1246) u1121))) (X3 boot_o_6 (X3 boot_o_10 (X3 o0 (X3 o19 u1127 u1253) u1135) (X3 o1 (X3 o0 u1139 u1256) u1146)) (X3 o3 (X3 o10 (X3 o0 u1150 u1262) u1158) (X3 o15 (X3 o25 u1162 u1267) u1169))))
noncomputable def u1301 := X3 o87 (X3 o169 (X4 o335) X5) (X4 o247)
noncomputable def u1387 := X3 o88 (X3 o0 (X4 o336) X5) (X4 o0)
noncomputable def tr9 := X3 boot_o_0 (X3 boot_o_1 (X3 o312 (X3 boot_o_7 (X3 o0 (X3 o16 (X3 o0 (X3 o76 (X3 o0 (X4 o321) X5) (X4 o0)) (X3 o115 (X4 o1) (X4 o1))) u1177) (X3 o26 (X3 o44 (X3 o0 (X3 o166 (X4 o331) X5) (X4 o244)) (X3 o1 (X4 o0) (X4 o0))) u1181)) (X3 o11 (X3 o21 (X3 o1 (X3 o81 (X3 o158 (X4 o0) X5) (X4 o1)) (X3 o0 (X4 o198) (X4 o282))) u1185) (X3 o31 u1001 (X3 o71 (X3 o108 (X4 o0) (X4 o0)) (X3 o149 (X4 o231) (X4 o316)))))) (X3 o0 (X3 o7 (X3 o0 (X3 o37 (X3 o78 (X3 o155 (X4 o0) X5) (X4 o237)) (X3 o0 (X4 o196) (X4 o280))) u1190) (X3 o28 (X3 o47 u1301 (X3 o128 (X4 o0) (X4 o0))) (X3 o0 (X3 o1 (X4 o0) (X4 o0)) (X3 o146 (X4 o228) (X4 o11))))) (X3 o13 (X3 o1 (X3 o42 (X3 o0 (X3 o162 (X4 o327) X5) (X4 o242)) (X3 o123 (X4 o201) (X4 o285))) u1194) (X3 o0 u1024 (X3 o1 (X3 o111 (X4 o191) (X4 o275)) (X3 o0 (X4 o0) (X4 o318))))))) (X3 boot_o_5 (X3 boot_o_9 (X3 o6 (X3 o18 (X3 o36 (X3 o0 (X3 o154 (X4 o1) X5) (X4 o236)) (X3 o11 (X4 o0) (X4 o0))) u1200) (X3 o0 (X3 o45 (X3 o86 (X3 o167 (X4 o333) X5) (X4 o245)) (X3 o0 (X4 o204) (X4 o288))) u1204)) (X3 o0 (X3 o23 (X3 o0 (X3 o1 (X3 o160 (X4 o326) X5) (X4 o0)) (X3 o122 (X4 o199) (X4 o283))) u1209) (X3 o1 u1047 (X3 o73 (X3 o0 (X4 o190) (X4 o274)) (X3 o1 (X4 o1) (X4 o0)))))) (X3 o2 (X3 o9 (X3 o20 (X3 o39 (X3 o79 (X3 o157 (X4 o324) X5) (X4 o239)) (X3 o120 (X4 o0) (X4 o0))) u1214) (X3 o29 u1059 (X3 o70 (X3 o0 (X4 o188) (X4 o272)) (X3 o147 (X4 o229) (X4 o0))))) (X3 o0 (X3 o0 (X3 o0 (X3 o84 (X3 o0 (X4 o329) X5) (X4 o0)) (X3 o125 (X4 o1) (X4 o1))) u1218) (X3 o34 u1070 (X3 o0 (X3 o113 (X4 o193) (X4 o277)) (X3 o152 (X4 o234) (X4 o319)))))))) (X3 boot_o_2 (X3 boot_o_4 (X3 boot_o_8 (X3 o1 (X3 o17 (X3 o1 (X3 o77 (X3 o1 (X4 o0) X5) (X4 o1)) (X3 o0 (X4 o194) (X4 o278))) u1226) (X3 o27 (X3 o0 (X3 o1 (X3 o0 (X4 o332) X5) (X4 o0)) (X3 o126 (X4 o203) (X4 o287))) u1230)) (X3 o12 (X3 o22 (X3 o40 (X3 o0 (X3 o159 (X4 o1) X5) (X4 o240)) (X3 o1 (X4 o0) (X4 o0))) u1235) (X3 o0 u1094 (X3 o72 (X3 o109 (X4 o1) (X4 o1)) (X3 o0 (X4 o0) (X4 o317)))))) (X3 o313 (X3 o8 (X3 o1 (X3 o38 (X3 o0 (X3 o156 (X4 o323) X5) (X4 o238)) (X3 o119 (X4 o197) (X4 o281))) u1241) (X3 o0 (X3 o0 u1387 (X3 o129 (X4 o206) (X4 o290))) (X3 o11 (X3 o106 (X4 o187) (X4 o271)) (X3 o0 (X4 o0) (X4 o314))))) (X3 o14 (X3 o24 (X3 o43 (X3 o83 (X3 o163 (X4 o328) X5) (X4 o243)) (X3 o124 (X4 o0) (X4 o0))) u1246) (X3 o33 u1117 (X3 o74 (X3 o112 (X4 o192) (X4 o276)) (X3 o151 (X4 o233) (X4 o0))))))) (X3 boot_o_6 (X3 boot_o_10 (X3 o0 (X3 o19 (X3 o0 (X3 o1 (X3 o0 (X4 o322) X5) (X4 o0)) (X3 o118 (X4 o195) (X4 o279))) u1253) (X3 o1 (X3 o46 (X3 o0 (X3 o168 (X4 o334) X5) (X4 o246)) (X3 o127 (X4 o205) (X4 o289))) (X3 o67 (X3 o0 (X4 o186) (X4 o270)) (X3 o1 (X4 o1) (X4 o0))))) (X3 o1 (X3 o0 (X3 o41 (X3 o82 (X3 o161 (X4 o0) X5) (X4 o241)) (X3 o0 (X4 o200) (X4 o284))) u1256) (X3 o32 u1143 (X3 o0 (X3 o110 (X4 o0) (X4 o0)) (X3 o150 (X4 o232) (X4 o1)))))) (X3 o3 (X3 o10 (X3 o0 (X3 o0 (X3 o80 (X3 o0 (X4 o325) X5) (X4 o0)) (X3 o121 (X4 o1) (X4 o1))) u1262) (X3 o30 u1154 (X3 o0 (X3 o107 (X4 o189) (X4 o273)) (X3 o148 (X4 o230) (X4 o315))))) (X3 o15 (X3 o25 (X3 o1 (X3 o85 (X3 o11 (X4 o330) X5) (X4 o1)) (X3 o0 (X4 o202) (X4 o286))) u1267) (X3 o35 u1166 (X3 o75 (X3 o114 (X4 o0) (X4 o0)) (X3 o153 (X4 o235) (X4 o320))))))))
noncomputable def u1450 := X3 o76 (X3 o0 (X4 o321) X5) (X3 o0 (X4 o1) X5)
noncomputable def u1464 := X3 o0 (X3 o166 (X4 o331) X5) (X3 o244 (X4 o410) X5)
noncomputable def u1472 := X3 o144 (X3 o226 (X4 o390) X5) (X4 o309)
noncomputable def u1478 := X3 o81 (X3 o158 (X4 o0) X5) (X3 o1 (X4 o403) X5)
noncomputable def u1487 := X3 o139 (X3 o221 (X4 o385) X5) (X4 o300)
noncomputable def u1498 := X3 o149 (X3 o231 (X4 o0) X5) (X4 o316)
noncomputable def u1505 := X3 o78 (X3 o155 (X4 o0) X5) (X3 o237 (X4 o401) X5)
noncomputable def u1512 := X3 o0 (X3 o218 (X4 o1) X5) (X4 o300)
noncomputable def u1523 := X3 o146 (X3 o228 (X4 o0) X5) (X4 o11)
noncomputable def u1529 := X3 o0 (X3 o162 (X4 o327) X5) (X3 o242 (X4 o406) X5)
noncomputable def u1537 := X3 o1 (X3 o1 (X4 o387) X5) (X4 o1)
noncomputable def u1550 := X3 o0 (X3 o0 (X4 o396) X5) (X4 o318)
noncomputable def u1557 := X3 o0 (X3 o154 (X4 o1) X5) (X3 o236 (X4 o0) X5)
noncomputable def u1567 := X3 o136 (X3 o0 (X4 o382) X5) (X4 o300)
noncomputable def u1572 := X3 o86 (X3 o167 (X4 o333) X5) (X3 o245 (X4 o412) X5)
noncomputable def u1578 := X3 o0 (X3 o0 (X4 o1) X5) (X4 o311)
noncomputable def u1584 := X3 o1 (X3 o160 (X4 o326) X5) (X3 o0 (X4 o404) X5)
noncomputable def u1593 := X3 o141 (X3 o223 (X4 o0) X5) (X4 o306)
noncomputable def u1607 := X3 o1 (X3 o1 (X4 o395) X5) (X4 o0)
noncomputable def u1613 := X3 o79 (X3 o157 (X4 o324) X5) (X3 o239 (X4 o0) X5)
noncomputable def u1620 := X3 o138 (X3 o219 (X4 o0) X5) (X4 o300)
noncomputable def u1632 := X3 o147 (X3 o229 (X4 o393) X5) (X4 o0)
noncomputable def u1638 := X3 o84 (X3 o0 (X4 o329) X5) (X3 o0 (X4 o408) X5)
noncomputable def u1645 := X3 o0 (X3 o0 (X4 o388) X5) (X4 o0)
noncomputable def u1658 := X3 o152 (X3 o234 (X4 o398) X5) (X4 o319)
noncomputable def u1667 := X3 o77 (X3 o1 (X4 o0) X5) (X3 o1 (X4 o399) X5)
noncomputable def u1681 := X3 o1 (X3 o0 (X4 o332) X5) (X3 o0 (X4 o411) X5)
noncomputable def u1690 := X3 o145 (X3 o227 (X4 o0) X5) (X4 o310)
noncomputable def u1695 := X3 o0 (X3 o159 (X4 o1) X5) (X3 o240 (X4 o0) X5)
noncomputable def u1705 := X3 o140 (X3 o222 (X4 o386) X5) (X4 o305)
noncomputable def u1717 := X3 o0 (X3 o0 (X4 o1) X5) (X4 o317)
noncomputable def u1724 := X3 o0 (X3 o156 (X4 o323) X5) (X3 o238 (X4 o402) X5)
noncomputable def u1732 := X3 o1 (X3 o0 (X4 o383) X5) (X4 o303)
noncomputable def u1743 := X3 o0 (X3 o0 (X4 o392) X5) (X4 o314)
noncomputable def u1749 := X3 o83 (X3 o163 (X4 o328) X5) (X3 o243 (X4 o407) X5)
noncomputable def u1756 := X3 o142 (X3 o224 (X4 o0) X5) (X4 o307)
noncomputable def u1768 := X3 o151 (X3 o233 (X4 o397) X5) (X4 o0)
noncomputable def u1776 := X3 o1 (X3 o0 (X4 o322) X5) (X3 o0 (X4 o400) X5)
noncomputable def u1784 := X3 o137 (X3 o11 (X4 o0) X5) (X4 o302)
noncomputable def u1789 := X3 o0 (X3 o168 (X4 o334) X5) (X3 o246 (X4 o413) X5)
noncomputable def u1798 := X3 o1 (X3 o1 (X4 o391) X5) (X4 o0)
noncomputable def u1804 := X3 o82 (X3 o161 (X4 o0) X5) (X3 o241 (X4 o405) X5)
noncomputable def u1810 := X3 o0 (X3 o0 (X4 o1) X5) (X4 o0)
noncomputable def u1824 := X3 o150 (X3 o232 (X4 o0) X5) (X4 o1)
noncomputable def u1829 := X3 o80 (X3 o0 (X4 o325) X5) (X3 o0 (X4 o1) X5)
noncomputable def u1838 := X3 o0 (X3 o220 (X4 o384) X5) (X4 o304)
noncomputable def u1851 := X3 o148 (X3 o230 (X4 o394) X5) (X4 o315)
noncomputable def u1857 := X3 o85 (X3 o11 (X4 o330) X5) (X3 o1 (X4 o409) X5)
noncomputable def u1867 := X3 o143 (X3 o225 (X4 o389) X5) (X4 o308)
noncomputable def u1878 := X3 o153 (X3 o235 (X4 o0) X5) (X4 o320)
noncomputable def tr10 := X3 boot_o_0 (X3 boot_o_1 (X3 o337 (X3 boot_o_7 (X3 o0 (X3 o16 (X3 o0 u1450 (X3 o115 (X3 o1 (X4 o362) X5) (X4 o1))) (X3 o54 (X3 o94 (X3 o175 (X4 o0) X5) (X4 o253)) (X3 o0 (X3 o214 (X4 o380) X5) (X4 o300)))) (X3 o26 (X3 o44 u1464 (X3 o1 (X3 o0 (X4 o0) X5) (X4 o0))) (X3 o0 (X3 o103 (X3 o185 (X4 o353) X5) (X4 o265)) u1472))) (X3 o11 (X3 o21 (X3 o1 u1478 (X3 o0 (X3 o198 (X4 o0) X5) (X4 o282))) (X3 o60 (X3 o0 (X3 o180 (X4 o348) X5) (X4 o258)) u1487)) (X3 o31 (X3 o49 (X3 o1 (X3 o0 (X4 o339) X5) (X4 o0)) (X3 o130 (X3 o209 (X4 o0) X5) (X4 o293))) (X3 o71 (X3 o108 (X3 o0 (X4 o1) X5) (X4 o0)) u1498)))) (X3 o0 (X3 o7 (X3 o0 (X3 o37 u1505 (X3 o0 (X3 o196 (X4 o365) X5) (X4 o280))) (X3 o56 (X3 o97 (X3 o1 (X4 o0) X5) (X4 o1)) u1512)) (X3 o28 (X3 o47 u1301 (X3 o128 (X3 o0 (X4 o370) X5) (X4 o0))) (X3 o0 (X3 o1 (X3 o0 (X4 o355) X5) (X4 o0)) u1523))) (X3 o13 (X3 o1 (X3 o42 u1529 (X3 o123 (X3 o201 (X4 o370) X5) (X4 o285))) (X3 o63 (X3 o0 (X3 o182 (X4 o1) X5) (X4 o268)) u1537)) (X3 o0 (X3 o51 (X3 o92 (X3 o0 (X4 o342) X5) (X4 o0)) (X3 o133 (X3 o1 (X4 o0) X5) (X4 o0))) (X3 o1 (X3 o111 (X3 o191 (X4 o360) X5) (X4 o275)) u1550))))) (X3 boot_o_5 (X3 boot_o_9 (X3 o6 (X3 o18 (X3 o36 u1557 (X3 o11 (X3 o0 (X4 o363) X5) (X4 o0))) (X3 o1 (X3 o95 (X3 o177 (X4 o345) X5) (X4 o255)) u1567)) (X3 o0 (X3 o45 u1572 (X3 o0 (X3 o204 (X4 o373) X5) (X4 o288))) (X3 o66 (X3 o105 (X3 o1 (X4 o0) X5) (X4 o11)) u1578))) (X3 o0 (X3 o23 (X3 o0 u1584 (X3 o122 (X3 o199 (X4 o368) X5) (X4 o283))) (X3 o61 (X3 o100 (X3 o0 (X4 o350) X5) (X4 o0)) u1593)) (X3 o1 (X3 o0 (X3 o0 (X3 o172 (X4 o340) X5) (X4 o250)) (X3 o131 (X3 o211 (X4 o377) X5) (X4 o1))) (X3 o73 (X3 o0 (X3 o190 (X4 o0) X5) (X4 o274)) u1607)))) (X3 o2 (X3 o9 (X3 o20 (X3 o39 u1613 (X3 o120 (X3 o0 (X4 o1) X5) (X4 o0))) (X3 o0 (X3 o1 (X3 o0 (X4 o347) X5) (X4 o0)) u1620)) (X3 o29 (X3 o1 (X3 o89 (X3 o1 (X4 o0) X5) (X4 o1)) (X3 o0 (X3 o207 (X4 o1) X5) (X4 o291))) (X3 o70 (X3 o0 (X3 o188 (X4 o357) X5) (X4 o272)) u1632))) (X3 o0 (X3 o0 (X3 o0 u1638 (X3 o125 (X3 o1 (X4 o1) X5) (X4 o1))) (X3 o1 (X3 o102 (X3 o183 (X4 o0) X5) (X4 o263)) u1645)) (X3 o34 (X3 o52 (X3 o0 (X3 o174 (X4 o1) X5) (X4 o252)) (X3 o1 (X3 o0 (X4 o379) X5) (X4 o296))) (X3 o0 (X3 o113 (X3 o193 (X4 o0) X5) (X4 o277)) u1658)))))) (X3 boot_o_2 (X3 boot_o_4 (X3 boot_o_8 (X3 o1 (X3 o17 (X3 o1 u1667 (X3 o0 (X3 o194 (X4 o0) X5) (X4 o278))) (X3 o0 (X3 o0 (X3 o176 (X4 o344) X5) (X4 o254)) (X3 o135 (X3 o215 (X4 o381) X5) (X4 o301)))) (X3 o27 (X3 o0 u1681 (X3 o126 (X3 o203 (X4 o372) X5) (X4 o287))) (X3 o65 (X3 o104 (X3 o0 (X4 o354) X5) (X4 o269)) u1690))) (X3 o12 (X3 o22 (X3 o40 u1695 (X3 o1 (X3 o0 (X4 o367) X5) (X4 o0))) (X3 o0 (X3 o99 (X3 o181 (X4 o349) X5) (X4 o259)) u1705)) (X3 o0 (X3 o50 (X3 o90 (X3 o171 (X4 o0) X5) (X4 o249)) (X3 o0 (X3 o210 (X4 o376) X5) (X4 o0))) (X3 o72 (X3 o109 (X3 o1 (X4 o358) X5) (X4 o1)) u1717)))) (X3 o338 (X3 o8 (X3 o1 (X3 o38 u1724 (X3 o119 (X3 o197 (X4 o0) X5) (X4 o281))) (X3 o57 (X3 o0 (X3 o178 (X4 o1) X5) (X4 o256)) u1732)) (X3 o0 (X3 o0 u1387 (X3 o129 (X3 o206 (X4 o0) X5) (X4 o290))) (X3 o11 (X3 o106 (X3 o187 (X4 o356) X5) (X4 o271)) u1743))) (X3 o14 (X3 o24 (X3 o43 u1749 (X3 o124 (X3 o0 (X4 o0) X5) (X4 o0))) (X3 o0 (X3 o1 (X3 o0 (X4 o351) X5) (X4 o262)) u1756)) (X3 o33 (X3 o0 (X3 o93 (X3 o1 (X4 o0) X5) (X4 o1)) (X3 o0 (X3 o212 (X4 o1) X5) (X4 o295))) (X3 o74 (X3 o112 (X3 o192 (X4 o361) X5) (X4 o276)) u1768))))) (X3 boot_o_6 (X3 boot_o_10 (X3 o0 (X3 o19 (X3 o0 u1776 (X3 o118 (X3 o195 (X4 o364) X5) (X4 o279))) (X3 o55 (X3 o96 (X3 o0 (X4 o346) X5) (X4 o0)) u1784)) (X3 o1 (X3 o46 u1789 (X3 o127 (X3 o205 (X4 o374) X5) (X4 o289))) (X3 o67 (X3 o0 (X3 o186 (X4 o1) X5) (X4 o270)) u1798))) (X3 o1 (X3 o0 (X3 o41 u1804 (X3 o0 (X3 o200 (X4 o369) X5) (X4 o284))) (X3 o62 (X3 o101 (X3 o1 (X4 o0) X5) (X4 o260)) u1810)) (X3 o32 (X3 o1 (X3 o91 (X3 o173 (X4 o341) X5) (X4 o251)) (X3 o132 (X3 o0 (X4 o378) X5) (X4 o294))) (X3 o0 (X3 o110 (X3 o0 (X4 o359) X5) (X4 o0)) u1824)))) (X3 o3 (X3 o10 (X3 o0 (X3 o0 u1829 (X3 o121 (X3 o1 (X4 o366) X5) (X4 o1))) (X3 o1 (X3 o98 (X3 o179 (X4 o0) X5) (X4 o257)) u1838)) (X3 o30 (X3 o48 (X3 o0 (X3 o170 (X4 o11) X5) (X4 o248)) (X3 o1 (X3 o208 (X4 o375) X5) (X4 o292))) (X3 o0 (X3 o107 (X3 o189 (X4 o0) X5) (X4 o273)) u1851))) (X3 o15 (X3 o25 (X3 o1 u1857 (X3 o0 (X3 o202 (X4 o371) X5) (X4 o286))) (X3 o64 (X3 o0 (X3 o184 (X4 o352) X5) (X4 o264)) u1867)) (X3 o35 (X3 o53 (X3 o1 (X3 o0 (X4 o343) X5) (X4 o0)) (X3 o134 (X3 o213 (X4 o0) X5) (X4 o297))) (X3 o75 (X3 o114 (X3 o0 (X4 o1) X5) (X4 o0)) u1878))))))
noncomputable def tr11 := X3 boot_o_0 (X3 boot_o_1 (X3 o414 (X3 boot_o_7 (X3 o0 (X3 o16 (X3 o0 u1450 (X3 o115 (X3 o1 (X4 o362) X5) (X3 o1 (X4 o1) X5))) (X3 o54 (X3 o94 (X3 o175 (X4 o0) X5) (X3 o253 (X4 o422) X5)) (X3 o0 (X3 o214 (X4 o380) X5) (X3 o300 (X4 o459) X5)))) (X3 o26 (X3 o44 u1464 (X3 o1 (X3 o0 (X4 o0) X5) (X3 o0 (X4 o0) X5))) (X3 o0 (X3 o103 (X3 o185 (X4 o353) X5) (X3 o265 (X4 o432) X5)) u1472))) (X3 o11 (X3 o21 (X3 o1 u1478 (X3 o0 (X3 o198 (X4 o0) X5) (X3 o282 (X4 o445) X5))) (X3 o60 (X3 o0 (X3 o180 (X4 o348) X5) (X3 o258 (X4 o427) X5)) u1487)) (X3 o31 (X3 o49 (X3 o1 (X3 o0 (X4 o339) X5) (X3 o0 (X4 o418) X5)) (X3 o130 (X3 o209 (X4 o0) X5) (X3 o293 (X4 o454) X5))) (X3 o71 (X3 o108 (X3 o0 (X4 o1) X5) (X3 o0 (X4 o0) X5)) u1498)))) (X3 o0 (X3 o7 (X3 o0 (X3 o37 u1505 (X3 o0 (X3 o196 (X4 o365) X5) (X3 o280 (X4 o443) X5))) (X3 o56 (X3 o97 (X3 o1 (X4 o0) X5) (X3 o1 (X4 o1) X5)) u1512)) (X3 o28 (X3 o47 (X3 o87 (X3 o169 (X4 o335) X5) (X3 o247 (X4 o0) X5)) (X3 o128 (X3 o0 (X4 o370) X5) (X3 o0 (X4 o0) X5))) (X3 o0 (X3 o1 (X3 o0 (X4 o355) X5) (X3 o0 (X4 o0) X5)) u1523))) (X3 o13 (X3 o1 (X3 o42 u1529 (X3 o123 (X3 o201 (X4 o370) X5) (X3 o285 (X4 o448) X5))) (X3 o63 (X3 o0 (X3 o182 (X4 o1) X5) (X3 o268 (X4 o429) X5)) u1537)) (X3 o0 (X3 o51 (X3 o92 (X3 o0 (X4 o342) X5) (X3 o0 (X4 o420) X5)) (X3 o133 (X3 o1 (X4 o0) X5) (X3 o0 (X4 o1) X5))) (X3 o1 (X3 o111 (X3 o191 (X4 o360) X5) (X3 o275 (X4 o438) X5)) u1550))))) (X3 boot_o_5 (X3 boot_o_9 (X3 o6 (X3 o18 (X3 o36 u1557 (X3 o11 (X3 o0 (X4 o363) X5) (X3 o0 (X4 o0) X5))) (X3 o1 (X3 o95 (X3 o177 (X4 o345) X5) (X3 o255 (X4 o424) X5)) u1567)) (X3 o0 (X3 o45 u1572 (X3 o0 (X3 o204 (X4 o373) X5) (X3 o288 (X4 o451) X5))) (X3 o66 (X3 o105 (X3 o1 (X4 o0) X5) (X3 o11 (X4 o1) X5)) u1578))) (X3 o0 (X3 o23 (X3 o0 u1584 (X3 o122 (X3 o199 (X4 o368) X5) (X3 o283 (X4 o446) X5))) (X3 o61 (X3 o100 (X3 o0 (X4 o350) X5) (X3 o0 (X4 o0) X5)) u1593)) (X3 o1 (X3 o0 (X3 o0 (X3 o172 (X4 o340) X5) (X3 o250 (X4 o1) X5)) (X3 o131 (X3 o211 (X4 o377) X5) (X3 o1 (X4 o456) X5))) (X3 o73 (X3 o0 (X3 o190 (X4 o0) X5) (X3 o274 (X4 o437) X5)) u1607)))) (X3 o2 (X3 o9 (X3 o20 (X3 o39 u1613 (X3 o120 (X3 o0 (X4 o1) X5) (X3 o0 (X4 o0) X5))) (X3 o0 (X3 o1 (X3 o0 (X4 o347) X5) (X3 o0 (X4 o0) X5)) u1620)) (X3 o29 (X3 o1 (X3 o89 (X3 o1 (X4 o0) X5) (X3 o1 (X4 o416) X5)) (X3 o0 (X3 o207 (X4 o1) X5) (X3 o291 (X4 o453) X5))) (X3 o70 (X3 o0 (X3 o188 (X4 o357) X5) (X3 o272 (X4 o435) X5)) u1632))) (X3 o0 (X3 o0 (X3 o0 u1638 (X3 o125 (X3 o1 (X4 o1) X5) (X3 o1 (X4 o1) X5))) (X3 o1 (X3 o102 (X3 o183 (X4 o0) X5) (X3 o263 (X4 o430) X5)) u1645)) (X3 o34 (X3 o52 (X3 o0 (X3 o174 (X4 o1) X5) (X3 o252 (X4 o0) X5)) (X3 o1 (X3 o0 (X4 o379) X5) (X3 o296 (X4 o0) X5))) (X3 o0 (X3 o113 (X3 o193 (X4 o0) X5) (X3 o277 (X4 o440) X5)) u1658)))))) (X3 boot_o_2 (X3 boot_o_4 (X3 boot_o_8 (X3 o1 (X3 o17 (X3 o1 u1667 (X3 o0 (X3 o194 (X4 o0) X5) (X3 o278 (X4 o441) X5))) (X3 o0 (X3 o0 (X3 o176 (X4 o344) X5) (X3 o254 (X4 o423) X5)) (X3 o135 (X3 o215 (X4 o381) X5) (X3 o301 (X4 o460) X5)))) (X3 o27 (X3 o0 u1681 (X3 o126 (X3 o203 (X4 o372) X5) (X3 o287 (X4 o450) X5))) (X3 o65 (X3 o104 (X3 o0 (X4 o354) X5) (X3 o269 (X4 o0) X5)) u1690))) (X3 o12 (X3 o22 (X3 o40 u1695 (X3 o1 (X3 o0 (X4 o367) X5) (X3 o0 (X4 o0) X5))) (X3 o0 (X3 o99 (X3 o181 (X4 o349) X5) (X3 o259 (X4 o428) X5)) u1705)) (X3 o0 (X3 o50 (X3 o90 (X3 o171 (X4 o0) X5) (X3 o249 (X4 o0) X5)) (X3 o0 (X3 o210 (X4 o376) X5) (X3 o0 (X4 o455) X5))) (X3 o72 (X3 o109 (X3 o1 (X4 o358) X5) (X3 o1 (X4 o1) X5)) u1717)))) (X3 o415 (X3 o8 (X3 o1 (X3 o38 u1724 (X3 o119 (X3 o197 (X4 o0) X5) (X3 o281 (X4 o444) X5))) (X3 o57 (X3 o0 (X3 o178 (X4 o1) X5) (X3 o256 (X4 o425) X5)) u1732)) (X3 o0 (X3 o0 (X3 o88 (X3 o0 (X4 o336) X5) (X3 o0 (X4 o1) X5)) (X3 o129 (X3 o206 (X4 o0) X5) (X3 o290 (X4 o1) X5))) (X3 o11 (X3 o106 (X3 o187 (X4 o356) X5) (X3 o271 (X4 o434) X5)) u1743))) (X3 o14 (X3 o24 (X3 o43 u1749 (X3 o124 (X3 o0 (X4 o0) X5) (X3 o0 (X4 o0) X5))) (X3 o0 (X3 o1 (X3 o0 (X4 o351) X5) (X3 o262 (X4 o0) X5)) u1756)) (X3 o33 (X3 o0 (X3 o93 (X3 o1 (X4 o0) X5) (X3 o1 (X4 o421) X5)) (X3 o0 (X3 o212 (X4 o1) X5) (X3 o295 (X4 o457) X5))) (X3 o74 (X3 o112 (X3 o192 (X4 o361) X5) (X3 o276 (X4 o439) X5)) u1768))))) (X3 boot_o_6 (X3 boot_o_10 (X3 o0 (X3 o19 (X3 o0 u1776 (X3 o118 (X3 o195 (X4 o364) X5) (X3 o279 (X4 o442) X5))) (X3 o55 (X3 o96 (X3 o0 (X4 o346) X5) (X3 o0 (X4 o0) X5)) u1784)) (X3 o1 (X3 o46 u1789 (X3 o127 (X3 o205 (X4 o374) X5) (X3 o289 (X4 o452) X5))) (X3 o67 (X3 o0 (X3 o186 (X4 o1) X5) (X3 o270 (X4 o433) X5)) u1798))) (X3 o1 (X3 o0 (X3 o41 u1804 (X3 o0 (X3 o200 (X4 o369) X5) (X3 o284 (X4 o447) X5))) (X3 o62 (X3 o101 (X3 o1 (X4 o0) X5) (X3 o260 (X4 o1) X5)) u1810)) (X3 o32 (X3 o1 (X3 o91 (X3 o173 (X4 o341) X5) (X3 o251 (X4 o419) X5)) (X3 o132 (X3 o0 (X4 o378) X5) (X3 o294 (X4 o0) X5))) (X3 o0 (X3 o110 (X3 o0 (X4 o359) X5) (X3 o0 (X4 o0) X5)) u1824)))) (X3 o3 (X3 o10 (X3 o0 (X3 o0 u1829 (X3 o121 (X3 o1 (X4 o366) X5) (X3 o1 (X4 o1) X5))) (X3 o1 (X3 o98 (X3 o179 (X4 o0) X5) (X3 o257 (X4 o426) X5)) u1838)) (X3 o30 (X3 o48 (X3 o0 (X3 o170 (X4 o11) X5) (X3 o248 (X4 o417) X5)) (X3 o1 (X3 o208 (X4 o375) X5) (X3 o292 (X4 o0) X5))) (X3 o0 (X3 o107 (X3 o189 (X4 o0) X5) (X3 o273 (X4 o436) X5)) u1851))) (X3 o15 (X3 o25 (X3 o1 u1857 (X3 o0 (X3 o202 (X4 o371) X5) (X3 o286 (X4 o449) X5))) (X3 o64 (X3 o0 (X3 o184 (X4 o352) X5) (X3 o264 (X4 o431) X5)) u1867)) (X3 o35 (X3 o53 (X3 o1 (X3 o0 (X4 o343) X5) (X3 o0 (X4 o1) X5)) (X3 o134 (X3 o213 (X4 o0) X5) (X3 o297 (X4 o458) X5))) (X3 o75 (X3 o114 (X3 o0 (X4 o1) X5) (X3 o0 (X4 o0) X5)) u1878))))))
noncomputable def heapZ (P : Params) : Heap := ⟨⟨[boot_o_0 P,boot_o_1 P,boot_o_2 P,o414 P,boot_o_4 P,boot_o_5 P,boot_o_6 P,boot_o_7 P,boot_o_8 P,boot_o_9 P,boot_o_10 P,o0 P,o415 P,o2 P,o3 P,o0 P,o1 P,o6 P,o0 P,o7 P,o8 P,o9 P,o10 P,o11 P,o12 P,o0 P,o1 P,o13 P,o14 P,o0 P,o15 P,o16 P,o17 P,o18 P,o19 P,o0 P,o1 P,o20 P,o0 P,o21 P,o22 P,o23 P,o0 P,o1 P,o24 P,o0 P,o25 P,o26 P,o27 P,o0 P,o1 P,o28 P,o0 P,o29 P,o30 P,o31 P,o0 P,o1 P,o32 P,o0 P,o33 P,o34 P,o35 P,o0 P,o1 P,o36 P,o0 P,o37 P,o38 P,o39 P,o0 P,o1 P,o40 P,o0 P,o41 P,o42 P,o43 P,o0 P,o1 P,o44 P,o0 P,o45 P,o46 P,o47 P,o0 P,o1 P,o48 P,o49 P,o50 P,o0 P,o1 P,o51 P,o0 P,o52 P,o53 P,o54 P,o0 P,o1 P,o55 P,o56 P,o57 P,o0 P,o1 P,o60 P,o0 P,o61 P,o62 P,o63 P,o0 P,o1 P,o64 P,o0 P,o65 P,o66 P,o67 P,o0 P,o11 P,o70 P,o0 P,o71 P,o72 P,o73 P,o0 P,o1 P,o74 P,o0 P,o75 P,o76 P,o77 P,o0 P,o1 P,o78 P,o0 P,o79 P,o80 P,o81 P,o0 P,o1 P,o82 P,o0 P,o83 P,o84 P,o85 P,o0 P,o1 P,o86 P,o0 P,o87 P,o88 P,o89 P,o0 P,o1 P,o90 P,o0 P,o91 P,o92 P,o93 P,o0 P,o1 P,o94 P,o0 P,o95 P,o96 P,o97 P,o0 P,o1 P,o98 P,o0 P,o99 P,o100 P,o101 P,o0 P,o1 P,o102 P,o0 P,o103 P,o104 P,o105 P,o0 P,o1 P,o106 P,o0 P,o107 P,o108 P,o109 P,o0 P,o110 P,o111 P,o112 P,o113 P,o114 P,o115 P,o0 P,o11 P,o118 P,o0 P,o119 P,o120 P,o121 P,o0 P,o1 P,o122 P,o0 P,o123 P,o124 P,o125 P,o0 P,o1 P,o126 P,o0 P,o127 P,o128 P,o129 P,o0 P,o1 P,o130 P,o0 P,o131 P,o132 P,o133 P,o0 P,o1 P,o134 P,o0 P,o135 P,o136 P,o137 P,o0 P,o1 P,o138 P,o0 P,o139 P,o140 P,o141 P,o0 P,o1 P,o142 P,o0 P,o143 P,o144 P,o145 P,o0 P,o1 P,o146 P,o0 P,o147 P,o148 P,o149 P,o0 P,o1 P,o150 P,o0 P,o151 P,o152 P,o153 P,o0 P,o1 P,o154 P,o0 P,o155 P,o156 P,o157 P,o0 P,o158 P,o159 P,o160 P,o161 P,o162 P,o163 P,o0 P,o11 P,o166 P,o0 P,o167 P,o168 P,o169 P,o0 P,o1 P,o170 P,o0 P,o171 P,o172 P,o173 P,o0 P,o1 P,o174 P,o0 P,o175 P,o176 P,o177 P,o0 P,o1 P,o178 P,o0 P,o179 P,o180 P,o181 P,o0 P,o1 P,o182 P,o0 P,o183 P,o184 P,o185 P,o0 P,o1 P,o186 P,o0 P,o187 P,o188 P,o189 P,o0 P,o1 P,o190 P,o0 P,o191 P,o192 P,o193 P,o0 P,o1 P,o194 P,o0 P,o195 P,o196 P,o197 P,o0 P,o1 P,o198 P,o0 P,o199 P,o200 P,o201 P,o0 P,o1 P,o202 P,o0 P,o203 P,o204 P,o205 P,o0 P,o206 P,o207 P,o208 P,o209 P,o210 P,o211 P,o0 P,o1 P,o212 P,o0 P,o213 P,o214 P,o215 P,o0 P,o11 P,o218 P,o0 P,o219 P,o220 P,o221 P,o222 P,o223 P,o0 P,o1 P,o224 P,o0 P,o225 P,o226 P,o227 P,o0 P,o1 P,o228 P,o0 P,o229 P,o230 P,o231 P,o0 P,o1 P,o232 P,o0 P,o233 P,o234 P,o235 P,o0 P,o1 P,o236 P,o0 P,o237 P,o238 P,o239 P,o0 P,o1 P,o240 P,o0 P,o241 P,o242 P,o243 P,o0 P,o1 P,o244 P,o0 P,o245 P,o246 P,o247 P,o0 P,o1 P,o248 P,o0 P,o249 P,o250 P,o251 P,o0 P,o1 P,o252 P,o0 P,o253 P,o254 P,o255 P,o0 P,o1 P,o256 P,o0 P,o257 P,o258 P,o259 P,o0 P,o260 P,o268 P,o262 P,o263 P,o264 P,o265 P,o269 P,o11 P,o270 P,o0 P,o271 P,o272 P,o273 P,o0 P,o1 P,o274 P,o0 P,o275 P,o276 P,o277 P,o0 P,o1 P,o278 P,o0 P,o279 P,o280 P,o281 P,o0 P,o1 P,o282 P,o0 P,o283 P,o284 P,o285 P,o0 P,o1 P,o286 P,o0 P,o287 P,o288 P,o289 P,o0 P,o290 P,o291 P,o292 P,o293 P,o0 P,o1 P,o294 P,o0 P,o295 P,o296 P,o297 P,o300 P,o301 P,o300 P,o302 P,o300 P,o303 P,o300 P,o304 P,o300 P,o305 P,o306 P,o0 P,o1 P,o307 P,o0 P,o308 P,o309 P,o310 P,o311 P,o0 P,o11 P,o314 P,o0 P,o315 P,o316 P,o317 P,o0 P,o1 P,o318 P,o0 P,o319 P,o320 P,o321 P,o0 P,o1 P,o322 P,o0 P,o323 P,o324 P,o325 P,o0 P,o1 P,o326 P,o0 P,o327 P,o328 P,o329 P,o330 P,o331 P,o332 P,o333 P,o334 P,o335 P,o336 P,o0 P,o11 P,o339 P,o0 P,o340 P,o341 P,o342 P,o0 P,o1 P,o343 P,o0 P,o344 P,o345 P,o346 P,o0 P,o1 P,o347 P,o0 P,o348 P,o349 P,o350 P,o0 P,o1 P,o351 P,o0 P,o352 P,o353 P,o354 P,o0 P,o1 P,o355 P,o356 P,o357 P,o0 P,o1 P,o358 P,o0 P,o359 P,o360 P,o361 P,o0 P,o1 P,o362 P,o0 P,o363 P,o364 P,o365 P,o0 P,o1 P,o366 P,o0 P,o367 P,o368 P,o369 P,o370 P,o0 P,o1 P,o371 P,o0 P,o372 P,o373 P,o374 P,o370 P,o0 P,o1 P,o375 P,o0 P,o376 P,o377 P,o378 P,o0 P,o1 P,o379 P,o0 P,o380 P,o381 P,o382 P,o0 P,o1 P,o383 P,o0 P,o384 P,o385 P,o386 P,o0 P,o1 P,o387 P,o0 P,o388 P,o389 P,o390 P,o0 P,o1 P,o391 P,o0 P,o392 P,o393 P,o394 P,o0 P,o1 P,o395 P,o0 P,o396 P,o397 P,o398 P,o0 P,o1 P,o399 P,o0 P,o400 P,o401 P,o402 P,o0 P,o1 P,o403 P,o0 P,o404 P,o405 P,o406 P,o407 P,o408 P,o409 P,o410 P,o411 P,o412 P,o413 P,o0 P,o1 P,o416 P,o417 P,o418 P,o0 P,o1 P,o419 P,o420 P,o421 P,o0 P,o1 P,o422 P,o423 P,o424 P,o0 P,o1 P,o425 P,o0 P,o426 P,o427 P,o428 P,o0 P,o1 P,o429 P,o0 P,o430 P,o431 P,o432 P,o0 P,o1 P,o433 P,o0 P,o434 P,o435 P,o436 P,o0 P,o1 P,o437 P,o0 P,o438 P,o439 P,o440 P,o0 P,o1 P,o441 P,o0 P,o442 P,o443 P,o444 P,o0 P,o1 P,o445 P,o0 P,o446 P,o447 P,o448 P,o0 P,o1 P,o449 P,o0 P,o450 P,o451 P,o452 P,o0 P,o1 P,o453 P,o0 P,o454 P,o455 P,o456 P,o0 P,o1 P,o457 P,o0 P,o458 P,o459 P,o460 P]⟩,{}⟩
noncomputable def sts1 : List Stmt := takeS 19 (dropS 0 TP.main.body)
noncomputable def sts2 : List Stmt := takeS 3 (dropS 19 TP.main.body)
noncomputable def sts3 : List Stmt := takeS 1 (dropS 22 TP.main.body)
noncomputable def sts4 : List Stmt := takeS 1 (dropS 23 TP.main.body)
noncomputable def sts5 : List Stmt := takeS 2 (dropS 24 TP.main.body)
noncomputable def sts6 : List Stmt := takeS 1 (dropS 26 TP.main.body)
noncomputable def sts7 : List Stmt := takeS 2 (dropS 27 TP.main.body)
noncomputable def sts8 : List Stmt := takeS 6 (dropS 29 TP.main.body)
noncomputable def sts9 : List Stmt := takeS 1 (dropS 35 TP.main.body)
noncomputable def sts10 : List Stmt := takeS 1 (dropS 36 TP.main.body)
noncomputable def sts11 : List Stmt := takeS 16 (dropS 37 TP.main.body)
noncomputable def stsAll : List Stmt := sts1 ++ (sts2 ++ (sts3 ++ (sts4 ++ (sts5 ++ (sts6 ++ (sts7 ++ (sts8 ++ (sts9 ++ (sts10 ++ (sts11 ++ ([])))))))))))
noncomputable def env0 : Env := { scope := TP.main.scope,locals := mainNs,globals := mainNs,cells := [],code := (.ref 13),frame := some 14 }
noncomputable def fp : Pos := ⟨0,0,0,0⟩
noncomputable abbrev cE : Code := Code.body stsAll env0
noncomputable abbrev ann0 : Option Value := (some (.ref 6))
theorem pre_t (w : World) : (fun os => TWtopGo TWtable TP w 11 ann0 12 ⟨boot_heap w.params,Array.mk [],boot_drawn,boot_toks,os⟩ (topStub TP)) = fun os => some (⟨heapA w.params,Array.mk [],{},187,os⟩,Thread.mk (TWdenote TWtable cE) cE ⟨0,0,0,0⟩ [topFrame fp]) := by kernel_rfl
theorem blk_t (w : World) : (fun os => TWsegRun TWtable TP w 11 ann0 1 1 ⟨heapA w.params,Array.mk [],{},187,os⟩ (blockOf stsAll env0 cE ⟨0,0,0,0⟩ [topFrame fp])) = fun os => some (Flow.next,SharedT.abs (SharedT.mk (tr0 w.params) 15 {} (Array.mk []) {} 187 os),cE,⟨0,0,0,0⟩) := by kernel_rfl
theorem pc1_t (w : World) : (fun os => TWsegRunT TWtable TP w 11 ann0 1 578 (SharedT.mk (tr0 w.params) 15 {} (Array.mk []) {} 187 os) (piecesOf sts1 env0 cE ⟨0,0,0,0⟩ [topFrame fp])) = fun os => some (Flow.next,(SharedT.mk (tr1 w.params) 101 {} (Array.mk []) {} 303 os),cE,⟨58,0,72,14⟩) := by kernel_rfl
theorem pc2_t (w : World) : (fun os => TWsegRunT TWtable TP w 11 ann0 1 73 (SharedT.mk (tr1 w.params) 101 {} (Array.mk []) {} 303 os) (piecesOf sts2 env0 cE ⟨58,0,72,14⟩ [topFrame fp])) = fun os => some (Flow.next,(SharedT.mk (tr2 w.params) 115 {} (Array.mk []) {} 324 os),cE,⟨84,0,84,8⟩) := by kernel_rfl
theorem pc3_t (w : World) : (fun os => TWsegRunT TWtable TP w 11 ann0 1 530 (SharedT.mk (tr2 w.params) 115 {} (Array.mk []) {} 324 os) (piecesOf sts3 env0 cE ⟨84,0,84,8⟩ [topFrame fp])) = fun os => some (Flow.next,(SharedT.mk (tr3 w.params) 192 {} (Array.mk []) {} 428 os),cE,⟨85,0,119,41⟩) := by kernel_rfl
theorem pc4_t (w : World) : (fun os => TWsegRunT TWtable TP w 11 ann0 1 529 (SharedT.mk (tr3 w.params) 192 {} (Array.mk []) {} 428 os) (piecesOf sts4 env0 cE ⟨85,0,119,41⟩ [topFrame fp])) = fun os => some (Flow.next,(SharedT.mk (tr4 w.params) 269 {} (Array.mk []) {} 531 os),cE,⟨120,0,164,30⟩) := by kernel_rfl
theorem pc5_t (w : World) : (fun os => TWsegRunT TWtable TP w 11 ann0 1 560 (SharedT.mk (tr4 w.params) 269 {} (Array.mk []) {} 531 os) (piecesOf sts5 env0 cE ⟨120,0,164,30⟩ [topFrame fp])) = fun os => some (Flow.next,(SharedT.mk (tr5 w.params) 353 {} (Array.mk []) {} 643 os),cE,⟨202,0,205,12⟩) := by kernel_rfl
theorem pc6_t (w : World) : (fun os => TWsegRunT TWtable TP w 11 ann0 1 541 (SharedT.mk (tr5 w.params) 353 {} (Array.mk []) {} 643 os) (piecesOf sts6 env0 cE ⟨202,0,205,12⟩ [topFrame fp])) = fun os => some (Flow.next,(SharedT.mk (tr6 w.params) 432 {} (Array.mk []) {} 752 os),cE,⟨206,0,247,70⟩) := by kernel_rfl
theorem pc7_t (w : World) : (fun os => TWsegRunT TWtable TP w 11 ann0 1 393 (SharedT.mk (tr6 w.params) 432 {} (Array.mk []) {} 752 os) (piecesOf sts7 env0 cE ⟨206,0,247,70⟩ [topFrame fp])) = fun os => some (Flow.next,(SharedT.mk (tr7 w.params) 479 {} (Array.mk []) {} 814 os),cE,⟨268,0,270,29⟩) := by kernel_rfl
theorem pc8_t (w : World) : (fun os => TWsegRunT TWtable TP w 11 ann0 1 331 (SharedT.mk (tr7 w.params) 479 {} (Array.mk []) {} 814 os) (piecesOf sts8 env0 cE ⟨268,0,270,29⟩ [topFrame fp])) = fun os => some (Flow.next,(SharedT.mk (tr8 w.params) 498 {} (Array.mk []) {} 830 os),cE,⟨280,0,280,3⟩) := by kernel_rfl
theorem pc9_t (w : World) : (fun os => TWsegRunT TWtable TP w 11 ann0 1 291 (SharedT.mk (tr8 w.params) 498 {} (Array.mk []) {} 830 os) (piecesOf sts9 env0 cE ⟨280,0,280,3⟩ [topFrame fp])) = fun os => some (Flow.next,(SharedT.mk (tr9 w.params) 533 {} (Array.mk []) {} 879 os),cE,⟨281,0,293,17⟩) := by kernel_rfl
theorem pc10_t (w : World) : (fun os => TWsegRunT TWtable TP w 11 ann0 1 722 (SharedT.mk (tr9 w.params) 533 {} (Array.mk []) {} 879 os) (piecesOf sts10 env0 cE ⟨281,0,293,17⟩ [topFrame fp])) = fun os => some (Flow.next,(SharedT.mk (tr10 w.params) 659 {} (Array.mk []) {} 1039 os),cE,⟨294,0,382,17⟩) := by kernel_rfl
theorem pc11_t (w : World) : (fun os => TWsegRunT TWtable TP w 11 ann0 1 414 (SharedT.mk (tr10 w.params) 659 {} (Array.mk []) {} 1039 os) (piecesOf sts11 env0 cE ⟨294,0,382,17⟩ [topFrame fp])) = fun os => some (Flow.next,(SharedT.mk (tr11 w.params) 737 {} (Array.mk []) {} 1166 os),cE,⟨481,0,487,83⟩) := by kernel_rfl
theorem fin_t (w : World) : (fun os => TWtopRun TWtable TP w 11 ann0 2 (SharedT.abs (SharedT.mk (tr11 w.params) 737 {} (Array.mk []) {} 1166 os)) (Thread.mk (doneF Flow.next) cE ⟨481,0,487,83⟩ [topFrame fp])) = fun os => some (⟨heapZ w.params,Array.mk [],{},1166,os⟩) := by kernel_rfl
noncomputable abbrev steps0 : Nat := (12 + (1 + (578 + (73 + (530 + (529 + (560 + (541 + (393 + (331 + (291 + (722 + (414 + 2)))))))))))))
theorem run0 (w : World) (os : OsState) : topRun treeTable TP w 11 ann0 steps0 ⟨boot_heap w.params,Array.mk [],boot_drawn,boot_toks,os⟩ (topStub TP) = some ⟨heapZ w.params,Array.mk [],{},1166,os⟩ :=
 go_top (by have h := congrFun (pre_t w) os; rw [<- Fast_topGo,<- Fast_table,<- Fast_denote] at h; exact h) (piece_block (by have h := congrFun (blk_t w) os; rw [<- Fast_segRun,<- Fast_table] at h; exact h) (piece_app (segRun_of (by have h := congrFun (pc1_t w) os; rw [<- Fast_segRunT,<- Fast_table] at h; exact h)) (piece_app (segRun_of (by have h := congrFun (pc2_t w) os; rw [<- Fast_segRunT,<- Fast_table] at h; exact h)) (piece_app (segRun_of (by have h := congrFun (pc3_t w) os; rw [<- Fast_segRunT,<- Fast_table] at h; exact h)) (piece_app (segRun_of (by have h := congrFun (pc4_t w) os; rw [<- Fast_segRunT,<- Fast_table] at h; exact h)) (piece_app (segRun_of (by have h := congrFun (pc5_t w) os; rw [<- Fast_segRunT,<- Fast_table] at h; exact h)) (piece_app (segRun_of (by have h := congrFun (pc6_t w) os; rw [<- Fast_segRunT,<- Fast_table] at h; exact h)) (piece_app (segRun_of (by have h := congrFun (pc7_t w) os; rw [<- Fast_segRunT,<- Fast_table] at h; exact h)) (piece_app (segRun_of (by have h := congrFun (pc8_t w) os; rw [<- Fast_segRunT,<- Fast_table] at h; exact h)) (piece_app (segRun_of (by have h := congrFun (pc9_t w) os; rw [<- Fast_segRunT,<- Fast_table] at h; exact h)) (piece_app (segRun_of (by have h := congrFun (pc10_t w) os; rw [<- Fast_segRunT,<- Fast_table] at h; exact h)) (piece_app (segRun_of (by have h := congrFun (pc11_t w) os; rw [<- Fast_segRunT,<- Fast_table] at h; exact h)) (by have h := congrFun (fin_t w) os; rw [<- Fast_topRun,<- Fast_table] at h; exact h)))))))))))))
noncomputable def KK (P : Params) : Frag := [(0,o461 P),(1,o462 P),(2,o463 P),(3,o414 P),(4,o464 P),(5,o465 P),(6,o300 P),(7,o0 P),(8,o1 P),(9,o466 P),(10,o467 P),(11,o0 P),(12,o415 P),(13,o2 P),(14,o3 P),(15,o0 P),(16,o1 P),(17,o6 P),(18,o0 P),(19,o7 P),(20,o8 P),(21,o9 P),(22,o10 P),(29,o0 P),(30,o15 P),(31,o16 P),(32,o17 P),(35,o0 P),(36,o1 P),(37,o20 P),(38,o0 P),(39,o21 P),(40,o22 P),(41,o23 P),(42,o0 P),(43,o1 P),(44,o24 P),(45,o0 P),(46,o25 P),(47,o26 P),(48,o27 P),(49,o0 P),(50,o1 P),(51,o28 P),(52,o0 P),(53,o29 P),(54,o30 P),(55,o31 P),(56,o0 P),(57,o1 P),(58,o32 P),(59,o0 P),(60,o33 P),(61,o34 P),(62,o35 P),(63,o0 P),(64,o1 P),(65,o36 P),(66,o0 P),(67,o37 P),(68,o38 P),(69,o39 P),(70,o0 P),(71,o1 P),(72,o40 P),(73,o0 P),(74,o41 P),(75,o42 P),(76,o43 P),(77,o0 P),(78,o1 P),(79,o44 P),(80,o0 P),(81,o45 P),(82,o46 P),(83,o47 P),(84,o0 P),(85,o1 P),(86,o48 P),(87,o49 P),(88,o50 P),(89,o0 P),(90,o1 P),(91,o51 P),(92,o0 P),(93,o52 P),(94,o53 P),(95,o54 P),(96,o0 P),(97,o1 P),(98,o55 P),(99,o56 P),(100,o57 P),(101,o0 P),(102,o1 P),(103,o60 P),(104,o0 P),(105,o61 P),(106,o62 P),(107,o63 P),(108,o0 P),(109,o1 P),(110,o64 P),(111,o0 P),(112,o65 P),(113,o66 P),(114,o67 P),(122,o0 P),(123,o1 P),(124,o74 P),(125,o0 P),(126,o75 P),(127,o76 P),(128,o77 P),(129,o0 P),(130,o1 P),(131,o78 P),(132,o0 P),(133,o79 P),(134,o80 P),(135,o81 P),(136,o0 P),(137,o1 P),(138,o82 P),(139,o0 P),(140,o83 P),(141,o84 P),(142,o85 P),(143,o0 P),(144,o1 P),(145,o86 P),(146,o0 P),(147,o87 P),(148,o88 P),(149,o89 P),(150,o0 P),(151,o1 P),(152,o90 P),(153,o0 P),(154,o91 P),(155,o92 P),(156,o93 P),(157,o0 P),(158,o1 P),(159,o94 P),(160,o0 P),(161,o95 P),(162,o96 P),(163,o97 P),(164,o0 P),(165,o1 P),(166,o98 P),(167,o0 P),(168,o99 P),(169,o100 P),(170,o101 P),(171,o0 P),(172,o1 P),(173,o102 P),(174,o0 P),(175,o103 P),(176,o104 P),(177,o105 P),(178,o0 P),(179,o1 P),(180,o106 P),(181,o0 P),(182,o107 P),(183,o108 P),(184,o109 P),(185,o0 P),(186,o110 P),(187,o111 P),(188,o112 P),(189,o113 P),(199,o0 P),(200,o1 P),(201,o122 P),(202,o0 P),(203,o123 P),(204,o124 P),(205,o125 P),(206,o0 P),(207,o1 P),(208,o126 P),(209,o0 P),(210,o127 P),(211,o128 P),(212,o129 P),(213,o0 P),(214,o1 P),(215,o130 P),(216,o0 P),(217,o131 P),(218,o132 P),(219,o133 P),(220,o0 P),(221,o1 P),(222,o134 P),(223,o0 P),(224,o135 P),(225,o136 P),(226,o137 P),(227,o0 P),(228,o1 P),(229,o138 P),(230,o0 P),(231,o139 P),(232,o140 P),(233,o141 P),(234,o0 P),(235,o1 P),(236,o142 P),(237,o0 P),(238,o143 P),(239,o144 P),(240,o145 P),(241,o0 P),(242,o1 P),(243,o146 P),(244,o0 P),(245,o147 P),(246,o148 P),(247,o149 P),(248,o0 P),(249,o1 P),(250,o150 P),(251,o0 P),(252,o151 P),(253,o152 P),(254,o153 P),(255,o0 P),(256,o1 P),(257,o154 P),(258,o0 P),(259,o155 P),(260,o156 P),(261,o157 P),(262,o0 P),(263,o158 P),(264,o159 P),(265,o160 P),(266,o161 P),(276,o0 P),(277,o1 P),(278,o170 P),(279,o0 P),(280,o171 P),(281,o172 P),(282,o173 P),(283,o0 P),(284,o1 P),(285,o174 P),(286,o0 P),(287,o175 P),(288,o176 P),(289,o177 P),(290,o0 P),(291,o1 P),(292,o178 P),(293,o0 P),(294,o179 P),(295,o180 P),(296,o181 P),(297,o0 P),(298,o1 P),(299,o182 P),(300,o0 P),(301,o183 P),(302,o184 P),(303,o185 P),(304,o0 P),(305,o1 P),(306,o186 P),(307,o0 P),(308,o187 P),(309,o188 P),(310,o189 P),(311,o0 P),(312,o1 P),(313,o190 P),(314,o0 P),(315,o191 P),(316,o192 P),(317,o193 P),(318,o0 P),(319,o1 P),(320,o194 P),(321,o0 P),(322,o195 P),(323,o196 P),(324,o197 P),(325,o0 P),(326,o1 P),(327,o198 P),(328,o0 P),(329,o199 P),(330,o200 P),(331,o201 P),(332,o0 P),(333,o1 P),(334,o202 P),(335,o0 P),(336,o203 P),(337,o204 P),(338,o205 P),(339,o0 P),(340,o206 P),(341,o207 P),(342,o208 P),(343,o209 P),(346,o0 P),(347,o1 P),(348,o212 P),(349,o0 P),(350,o213 P),(351,o214 P),(352,o215 P),(360,o222 P),(361,o223 P),(362,o0 P),(363,o1 P),(364,o224 P),(365,o0 P),(366,o225 P),(367,o226 P),(368,o227 P),(369,o0 P),(370,o1 P),(371,o228 P),(372,o0 P),(373,o229 P),(374,o230 P),(375,o231 P),(376,o0 P),(377,o1 P),(378,o232 P),(379,o0 P),(380,o233 P),(381,o234 P),(382,o235 P),(383,o0 P),(384,o1 P),(385,o236 P),(386,o0 P),(387,o237 P),(388,o238 P),(389,o239 P),(390,o0 P),(391,o1 P),(392,o240 P),(393,o0 P),(394,o241 P),(395,o242 P),(396,o243 P),(397,o0 P),(398,o1 P),(399,o244 P),(400,o0 P),(401,o245 P),(402,o246 P),(403,o247 P),(404,o0 P),(405,o1 P),(406,o248 P),(407,o0 P),(408,o249 P),(409,o250 P),(410,o251 P),(411,o0 P),(412,o1 P),(413,o252 P),(414,o0 P),(415,o253 P),(416,o254 P),(417,o255 P),(418,o0 P),(419,o1 P),(420,o256 P),(421,o0 P),(422,o257 P),(423,o258 P),(424,o259 P),(425,o0 P),(426,o260 P),(427,o268 P),(428,o262 P),(429,o263 P),(432,o269 P),(439,o0 P),(440,o1 P),(441,o274 P),(442,o0 P),(443,o275 P),(444,o276 P),(445,o277 P),(446,o0 P),(447,o1 P),(448,o278 P),(449,o0 P),(450,o279 P),(451,o280 P),(452,o281 P),(453,o0 P),(454,o1 P),(455,o282 P),(456,o0 P),(457,o283 P),(458,o284 P),(459,o285 P),(460,o0 P),(461,o1 P),(462,o286 P),(463,o0 P),(464,o287 P),(465,o288 P),(466,o289 P),(467,o0 P),(468,o290 P),(469,o291 P),(472,o0 P),(473,o1 P),(474,o294 P),(475,o0 P),(476,o295 P),(477,o296 P),(478,o297 P),(479,o300 P),(480,o301 P),(481,o300 P),(482,o302 P),(483,o300 P),(484,o303 P),(485,o300 P),(486,o304 P),(487,o300 P),(488,o305 P),(489,o306 P),(490,o0 P),(491,o1 P),(492,o307 P),(493,o0 P),(494,o308 P),(495,o309 P),(496,o310 P),(497,o311 P),(505,o0 P),(506,o1 P),(507,o318 P),(508,o0 P),(509,o319 P),(510,o320 P),(511,o321 P),(512,o0 P),(513,o1 P),(514,o322 P),(515,o0 P),(516,o323 P),(517,o324 P),(518,o325 P),(519,o0 P),(520,o1 P),(521,o326 P),(522,o0 P),(523,o327 P),(524,o328 P),(525,o329 P),(526,o330 P),(527,o331 P),(528,o332 P),(529,o333 P),(530,o334 P),(540,o0 P),(541,o1 P),(542,o343 P),(543,o0 P),(544,o344 P),(545,o345 P),(546,o346 P),(547,o0 P),(548,o1 P),(549,o347 P),(550,o0 P),(551,o348 P),(552,o349 P),(553,o350 P),(554,o0 P),(555,o1 P),(556,o351 P),(557,o0 P),(558,o352 P),(559,o353 P),(560,o354 P),(561,o0 P),(562,o1 P),(563,o355 P),(564,o356 P),(565,o357 P),(566,o0 P),(567,o1 P),(568,o358 P),(569,o0 P),(570,o359 P),(571,o360 P),(572,o361 P),(573,o0 P),(574,o1 P),(575,o362 P),(576,o0 P),(577,o363 P),(578,o364 P),(579,o365 P),(580,o0 P),(581,o1 P),(582,o366 P),(583,o0 P),(584,o367 P),(585,o368 P),(586,o369 P),(587,o370 P),(588,o0 P),(589,o1 P),(590,o371 P),(591,o0 P),(592,o372 P),(593,o373 P),(594,o374 P),(595,o370 P),(596,o0 P),(597,o1 P),(598,o375 P),(599,o0 P),(600,o376 P),(601,o377 P),(602,o378 P),(603,o0 P),(604,o1 P),(605,o379 P),(606,o0 P),(607,o380 P),(608,o381 P),(609,o382 P),(610,o0 P),(611,o1 P),(612,o383 P),(613,o0 P),(614,o384 P),(615,o385 P),(616,o386 P),(617,o0 P),(618,o1 P),(619,o387 P),(620,o0 P),(621,o388 P),(622,o389 P),(623,o390 P),(624,o0 P),(625,o1 P),(626,o391 P),(627,o0 P),(628,o392 P),(629,o393 P),(630,o394 P),(631,o0 P),(632,o1 P),(633,o395 P),(634,o0 P),(635,o396 P),(636,o397 P),(637,o398 P),(638,o0 P),(639,o1 P),(640,o399 P),(641,o0 P),(642,o400 P),(643,o401 P),(644,o402 P),(645,o0 P),(646,o1 P),(647,o403 P),(648,o0 P),(649,o404 P),(650,o405 P),(651,o406 P),(652,o407 P),(653,o408 P),(654,o409 P),(655,o410 P),(656,o411 P),(659,o0 P),(660,o1 P),(661,o416 P),(662,o417 P),(663,o418 P),(664,o0 P),(665,o1 P),(666,o419 P),(667,o420 P),(668,o421 P),(669,o0 P),(670,o1 P),(671,o422 P),(672,o423 P),(673,o424 P),(674,o0 P),(675,o1 P),(676,o425 P),(677,o0 P),(678,o426 P),(679,o427 P),(680,o428 P),(681,o0 P),(682,o1 P),(683,o429 P),(684,o0 P),(685,o430 P),(686,o431 P),(687,o432 P),(688,o0 P),(689,o1 P),(690,o433 P),(691,o0 P),(692,o434 P),(693,o435 P),(694,o436 P),(695,o0 P),(696,o1 P),(697,o437 P),(698,o0 P),(699,o438 P),(700,o439 P),(701,o440 P),(702,o0 P),(703,o1 P),(704,o441 P),(705,o0 P),(706,o442 P),(707,o443 P),(708,o444 P),(709,o0 P),(710,o1 P),(711,o445 P),(712,o0 P),(713,o446 P),(714,o447 P),(715,o448 P),(716,o0 P),(717,o1 P),(718,o449 P),(719,o0 P),(720,o450 P),(721,o451 P),(722,o452 P),(723,o0 P),(724,o1 P),(725,o453 P),(726,o0 P),(727,o454 P),(728,o455 P),(729,o456 P),(730,o0 P),(731,o1 P),(732,o457 P),(733,o0 P),(734,o458 P),(735,o459 P),(736,o460 P)]
noncomputable def as0 : List Addr := [0,1,2,3,4,5,6,7,8,9,10,11,12,13,14,15,16,17,18,19,20,21,22,29,30,31,32,35,36,37,38,39,40,41,42,43,44,45,46,47,48,49,50,51,52,53,54,55,56,57,58,59,60,61,62,63,64,65,66,67,68,69,70,71,72,73,74,75,76,77,78,79,80,81,82,83,84,85,86,87,88,89,90,91,92,93,94,95,96,97,98,99,100,101,102,103,104,105,106,107,108,109,110,111,112,113,114,122,123,124,125,126,127,128,129,130,131,132,133,134,135,136,137,138,139,140,141,142,143,144,145,146,147,148,149,150,151,152,153,154,155,156,157,158,159,160,161,162,163,164,165,166,167,168,169,170,171,172,173,174,175,176,177,178,179,180,181,182,183,184,185,186,187,188,189,199,200,201,202,203,204,205,206,207,208,209,210,211,212,213,214,215,216,217,218,219,220,221,222,223,224,225,226,227,228,229,230,231,232,233,234,235,236,237,238,239,240,241,242,243,244,245,246,247,248,249,250,251,252,253,254,255,256,257,258,259,260,261,262,263,264,265,266,276,277,278,279,280,281,282,283,284,285,286,287,288,289,290,291,292,293,294,295,296,297,298,299,300,301,302,303,304,305,306,307,308,309,310,311,312,313,314,315,316,317,318,319,320,321,322,323,324,325,326,327,328,329,330,331,332,333,334,335,336,337,338,339,340,341,342,343,346,347,348,349,350,351,352,360,361,362,363,364,365,366,367,368,369,370,371,372,373,374,375,376,377,378,379,380,381,382,383,384,385,386,387,388,389,390,391,392,393,394,395,396,397,398,399,400,401,402,403,404,405,406,407,408,409,410,411,412,413,414,415,416,417,418,419,420,421,422,423,424,425,426,427,428,429,432,439,440,441,442,443,444,445,446,447,448,449,450,451,452,453,454,455,456,457,458,459,460,461,462,463,464,465,466,467,468,469,472,473,474,475,476,477,478,479,480,481,482,483,484,485,486,487,488,489,490,491,492,493,494,495,496,497,505,506,507,508,509,510,511,512,513,514,515,516,517,518,519,520,521,522,523,524,525,526,527,528,529,530,540,541,542,543,544,545,546,547,548,549,550,551,552,553,554,555,556,557,558,559,560,561,562,563,564,565,566,567,568,569,570,571,572,573,574,575,576,577,578,579,580,581,582,583,584,585,586,587,588,589,590,591,592,593,594,595,596,597,598,599,600,601,602,603,604,605,606,607,608,609,610,611,612,613,614,615,616,617,618,619,620,621,622,623,624,625,626,627,628,629,630,631,632,633,634,635,636,637,638,639,640,641,642,643,644,645,646,647,648,649,650,651,652,653,654,655,656,659,660,661,662,663,664,665,666,667,668,669,670,671,672,673,674,675,676,677,678,679,680,681,682,683,684,685,686,687,688,689,690,691,692,693,694,695,696,697,698,699,700,701,702,703,704,705,706,707,708,709,710,711,712,713,714,715,716,717,718,719,720,721,722,723,724,725,726,727,728,729,730,731,732,733,734,735,736]
noncomputable abbrev size0 : Nat := 737
noncomputable abbrev toksZ : Nat := 1166
noncomputable abbrev m00 : Nat := 11
noncomputable abbrev TSt := PySem.W.Fast.tw13471830651028734593
theorem eSt : @staticsOk = TSt := PySem.W.Fast.te13471830651028734593
noncomputable abbrev TNb := PySem.W.Fast.tw4683006035507612052
theorem eNb : @namesBound = TNb := PySem.W.Fast.te4683006035507612052
noncomputable abbrev TLk := PySem.W.Fast.tw16898566250750103049
theorem eLk : @laidKept = TLk := PySem.W.Fast.te16898566250750103049
noncomputable abbrev TXl := PySem.W.Fast.tw4757257242682413121
theorem eXl : @xlAt = TXl := PySem.W.Fast.te4757257242682413121
noncomputable abbrev TRo := PySem.W.Fast.tw6483871617321286689
theorem eRo : @recOk = TRo := PySem.W.Fast.te6483871617321286689
noncomputable abbrev TOg := PySem.W.Fast.tw3486900944545009338
theorem eOg : @openGood = TOg := PySem.W.Fast.te3486900944545009338
noncomputable abbrev TIm := PySem.W.Fast.tw5923862056798008813
theorem eIm : @importedModules = TIm := PySem.W.Fast.te5923862056798008813
noncomputable abbrev TOs := PySem.W.Fast.tw4187177175401517315
theorem eOs : @openSeen = TOs := PySem.W.Fast.te4187177175401517315
noncomputable def qOf (p : Program) : Program := { p with main := { p.main with body := dropS 52 p.main.body } }
noncomputable abbrev qv : Program := qOf TP
noncomputable def loose0 : List PySem.Str := (takeS 52 TP.main.body).flatMap fun s => match s with
 | .FunctionDef n .. => [n] | .ClassDef n .. => [n] | .Assign [.Name n ..] .. => if n == ⟨#[95,95,110,97,109,101,95,95]⟩ then [] else [n] | _ => []
noncomputable abbrev NN : Nat := 7000
theorem keys0 : ∀ P,as0 = (KK P).map (·.1) := fun P => by kernel_rfl
theorem facts1 {w : World} {s t : Shared} (y : obsZ as0 s = valZ KK size0 toksZ w) (k : ∀ b o,s.heap.get? b = some o -> t.heap.get? b = some o) : Frag.In (KK w.params) t.heap /\ s.heap.objs.size = nat_lit 737 /\ s.toks = nat_lit 1166 :=
 ⟨InK.keeps w s.heap t.heap (z_facts keys0 y).2.1 k,(z_facts keys0 y).2.2.1,(z_facts keys0 y).2.2.2⟩
theorem d_open : ∀ w : World,(fencedOpening treeTable TP w NN).map (fun s => (s.heap,s.gens,s.drawn,s.toks)) = some (boot_heap w.params,Array.mk [],boot_drawn,boot_toks) :=
 boot_open (p:=TP) (N:=NN) (by kernel_rfl) (by decide) (fun s => by rfl)
theorem d_size : ∀ w : World,((boot_heap w.params).isNs mainGlobals && (Array.mk [] : Array GenState).size == 0,(boot_heap w.params).objs.size,(boot_heap w.params).nsMap mainGlobals "__annotations__") = (true,11,ann0) := fun w => by kernel_rfl
noncomputable def XtT (s : Shared) : Bool := TXl qv [] s && TRo [] s
theorem look1 (w : World) : (fun os : OsState => (TSt (TIm TP.main.body) (boot_heap w.params) (heapZ w.params) && TNb TP (heapZ w.params) && gensDone ⟨heapZ w.params,Array.mk [],{},toksZ,os⟩ && TLk (boot_heap w.params) (heapZ w.params))) = fun _ => true := by kernel_rfl
theorem look3 (w : World) : (fun os : OsState => obsZ as0 ⟨heapZ w.params,Array.mk [],{},toksZ,os⟩) = fun _ => valZ KK size0 toksZ w := by kernel_rfl
theorem look2 (w : World) : (fun os : OsState => TOs qv loose0 (TIm TP.main.body) XtT true ⟨heapZ w.params,Array.mk [],{},toksZ,os⟩) = fun _ => TOg qv loose0 := by kernel_rfl
theorem eXt : XtT = fun s => xlAt qv [] s && recOk [] s := by unfold XtT; rw [eXl,eRo]
noncomputable abbrev pw : Program := PySem.Challenge.pw_ui0508_10
theorem left0 : LeftO pw (qOf pw) loose0 (fun s => xlAt (qOf pw) [] s && recOk [] s) (obsZ as0) (valZ KK size0 toksZ) NN := by
 rw [show pw = TP from tePw]
 refine LeftO.of_pieces (g0:=true) d_open d_size run0 (by decide) (fun w => ?_)
 have h1 := look1 w
 have h2 := look2 w
 have h3 := look3 w
 rw [<- eSt,<- eIm,<- eNb,<- eLk] at h1
 rw [<- eOs,<- eIm,<- eOg,eXt] at h2
 funext os
 exact Prod.ext (congrFun h1 os) (Prod.ext (congrFun h2 os) (congrFun h3 os))
noncomputable abbrev QQ (s₀ s₁ : Shared) (ns : List Int) : Value -> Shared -> Prop := fun v s' => GoodWG PySem.Challenge.rw_ui0508_10.row.claim (classAt s₀.heap) (ExcName.means s₀.heap) [ofPy (PyData.list (List.map PyData.int ns))] s₁ (.ok (.ret v)) s'
noncomputable abbrev EE (s₀ s₁ : Shared) (ns : List Int) : Value -> Shared -> Prop := fun e s' => GoodWG PySem.Challenge.rw_ui0508_10.row.claim (classAt s₀.heap) (ExcName.means s₀.heap) [ofPy (PyData.list (List.map PyData.int ns))] s₁ (.error e) s'
theorem small {p : Program} {w : World} {A : Around} {t : Sem Value} {s₀ s₁ s : Shared} {ns : List Int} (h : wpAny (model p w) A t (QQ s₀ s₁ ns) (EE s₀ s₁ ns) s) :
  wpAny (model p w) A t (fun v s' => GoodWG PySem.Challenge.rw_ui0508_10.row.claim (classAt s₀.heap) (ExcName.means s₀.heap) [ofPy (PyData.list (List.map PyData.int ns))] s₁ (.ok (.ret v)) s')
   (fun e s' => GoodWG PySem.Challenge.rw_ui0508_10.row.claim (classAt s₀.heap) (ExcName.means s₀.heap) [ofPy (PyData.list (List.map PyData.int ns))] s₁ (.error e) s') s := h
end Hd
namespace Hd
open Mi
noncomputable def gl0 : List (PySem.Str × Val) := [(PySem.Str.mk (Array.mk [77,65,82,75,83]),(Val.str [32,9,10,58,47,95,91,93,62,35,59,63,61])),(PySem.Str.mk (Array.mk [108,101,110]),(Val.bi 7103854)),(PySem.Str.mk (Array.mk [115,116,114]),(Val.ty 7566450)),(PySem.Str.mk (Array.mk [116,121,112,101]),(Val.ty 1954115685)),(PySem.Str.mk (Array.mk [77,97,99,104,105,110,101,69,114,114,111,114]),(Val.top 100)),(PySem.Str.mk (Array.mk [105,115,95,108,101,116,116,101,114]),(Val.top 101)),(PySem.Str.mk (Array.mk [115,104,111,119,110]),(Val.top 102)),(PySem.Str.mk (Array.mk [110,101,101,100,95,108,101,116,116,101,114]),(Val.top 103)),(PySem.Str.mk (Array.mk [105,110,116]),(Val.ty 6909556)),(PySem.Str.mk (Array.mk [77,79,83,84]),(Val.int 2000)),(PySem.Str.mk (Array.mk [97,100,100]),(Val.top 104)),(PySem.Str.mk (Array.mk [114,97,110,103,101]),(Val.ty 491260897125)),(PySem.Str.mk (Array.mk [114,105,110,103]),(Val.top 105)),(PySem.Str.mk (Array.mk [119,101,105,103,104,116]),(Val.top 106)),(PySem.Str.mk (Array.mk [100,105,99,116]),(Val.ty 1684628340)),(PySem.Str.mk (Array.mk [115,111,114,116,101,100]),(Val.bi 126922498794852)),(PySem.Str.mk (Array.mk [115,116,97,114]),(Val.top 107)),(PySem.Str.mk (Array.mk [116,97,98,108,101]),(Val.top 108)),(PySem.Str.mk (Array.mk [109,97,120]),(Val.bi 7168376)),(PySem.Str.mk (Array.mk [109,105,110]),(Val.bi 7170414)),(PySem.Str.mk (Array.mk [71,82,69,65,84,69,83,84]),(Val.int (10 ^ 4000))),(PySem.Str.mk (Array.mk [95,103,99,100]),(Val.top 109)),(PySem.Str.mk (Array.mk [116,117,112,108,101]),(Val.ty 500186508389)),(PySem.Str.mk (Array.mk [102,114,97,99,116,105,111,110]),(Val.top 110)),(PySem.Str.mk (Array.mk [67,104,97,110,99,101]),(Val.top 111)),(PySem.Str.mk (Array.mk [82,73,78,71,83]),(Val.fl [(Val.top 112),(Val.top 113),(Val.top 114),(Val.top 115),(Val.top 116)])),(PySem.Str.mk (Array.mk [77,79,83,84,95,83,84,65,84,69,83]),(Val.int 20000)),(PySem.Str.mk (Array.mk [110,101,101,100,95,99,111,117,110,116]),(Val.top 117)),(PySem.Str.mk (Array.mk [65,114,99]),(Val.top 118)),(PySem.Str.mk (Array.mk [77,79,83,84,95,65,82,67,83]),(Val.int 200000)),(PySem.Str.mk (Array.mk [110,101,101,100,95,108,97,98,101,108]),(Val.top 119)),(PySem.Str.mk (Array.mk [110,101,101,100,95,119,111,114,100]),(Val.top 134)),(PySem.Str.mk (Array.mk [79,78,69]),(Val.top 120)),(PySem.Str.mk (Array.mk [77,97,99,104,105,110,101]),(Val.top 121)),(PySem.Str.mk (Array.mk [95,98,97,99,107,119,97,114,100]),(Val.top 123)),(PySem.Str.mk (Array.mk [95,109,101,116]),(Val.top 124)),(PySem.Str.mk (Array.mk [95,111,110,119,97,114,100]),(Val.top 125)),(PySem.Str.mk (Array.mk [108,105,115,116]),(Val.ty 1818850164)),(PySem.Str.mk (Array.mk [95,97,100,100]),(Val.top 126)),(PySem.Str.mk (Array.mk [95,101,110,100,101,100]),(Val.top 127)),(PySem.Str.mk (Array.mk [95,102,105,114,115,116]),(Val.top 128)),(PySem.Str.mk (Array.mk [95,102,105,116,115]),(Val.top 129)),(PySem.Str.mk (Array.mk [95,110,101,101,100,95,115,104,111,114,116]),(Val.top 130)),(PySem.Str.mk (Array.mk [101,109,112,116,121,95,115,116,97,114]),(Val.top 131)),(PySem.Str.mk (Array.mk [114,111,119,95,116,105,109,101,115]),(Val.top 132)),(PySem.Str.mk (Array.mk [116,114,105,109]),(Val.top 133)),(PySem.Str.mk (Array.mk [76,79,78,71,69,83,84]),(Val.int 200)),(PySem.Str.mk (Array.mk [111,102,95,112,97,105,114,115]),(Val.top 190))]
noncomputable def bd_errors_is_letter : List Sm := [(Sm.ret (Ex.bop false [(Ex.cmp COp.is (Ex.call (Ex.lit (Val.ty 1954115685)) [(Ex.var 0)]) (Ex.lit (Val.ty 7566450))),(Ex.cmp COp.eq (Ex.call (Ex.lit (Val.bi 7103854)) [(Ex.var 0)]) (Ex.lit (Val.int 1))),(Ex.cmp COp.notin (Ex.var 0) (Ex.lit (Val.str [32,9,10,58,47,95,91,93,62,35,59,63,61]))),(Ex.not (Ex.meth (Ex.var 0) 29681812198482789 []))]))]
noncomputable def fn_errors_is_letter : Fn := ⟨101,1,[],7,bd_errors_is_letter⟩
noncomputable def bd_errors_need_letter : List Sm := [(Sm.ite (Ex.not (Ex.call (Ex.lit (Val.top 101)) [(Ex.var 0)])) [Sm.raise] []),(Sm.ret (Ex.var 0))]
noncomputable def fn_errors_need_letter : Fn := ⟨103,1,[],7,bd_errors_need_letter⟩
noncomputable def bd_errors_need_label : List Sm := [(Sm.ite (Ex.cmp COp.ne (Ex.var 0) (Ex.lit (Val.str []))) [(Sm.expr (Ex.call (Ex.lit (Val.top 103)) [(Ex.var 0)]))] []),(Sm.ret (Ex.var 0))]
noncomputable def fn_errors_need_label : Fn := ⟨119,1,[],7,bd_errors_need_label⟩
noncomputable def bd_errors_need_word : List Sm := [(Sm.ite (Ex.cmp COp.isnot (Ex.call (Ex.lit (Val.ty 1954115685)) [(Ex.var 0)]) (Ex.lit (Val.ty 7566450))) [Sm.raise] []),(Sm.fo [1] false (Ex.var 0) [(Sm.expr (Ex.call (Ex.lit (Val.top 103)) [(Ex.var 1)]))]),(Sm.ret (Ex.var 0))]
noncomputable def fn_errors_need_word : Fn := ⟨134,1,[],8,bd_errors_need_word⟩
noncomputable def bd_errors_need_count : List Sm := [(Sm.ite (Ex.bop true [(Ex.cmp COp.isnot (Ex.call (Ex.lit (Val.ty 1954115685)) [(Ex.var 0)]) (Ex.lit (Val.ty 6909556))),(Ex.cmp COp.lt (Ex.var 0) (Ex.var 1)),(Ex.cmp COp.gt (Ex.var 0) (Ex.var 2))]) [Sm.raise] []),(Sm.ret (Ex.var 0))]
noncomputable def fn_errors_need_count : Fn := ⟨117,4,[],10,bd_errors_need_count⟩
noncomputable def bd_stars_table : List Sm := [(Sm.ite (Ex.cmp COp.gt (Ex.meth (Ex.var 0) 1936292453 []) (Ex.lit (Val.int 2000))) [Sm.raise] []),(Sm.asg (T1.nm 2) (Ex.comp (Ex.dict []) [5] false (Ex.attr (Ex.var 0) 1634886515) [])),(Sm.fo [3] false (Ex.call (Ex.lit (Val.ty 491260897125)) [(Ex.meth (Ex.var 0) 1936292453 [])]) [(Sm.fo [4] false (Ex.sub (Ex.attr (Ex.var 0) 1634886515) (Ex.var 3)) [(Sm.ite (Ex.bop true [(Ex.meth (Ex.var 4) 7598521885536580729 []),(Ex.not (Ex.var 1))]) [(Sm.expr (Ex.call (Ex.lit (Val.top 104)) [(Ex.attr (Ex.var 0) 1919512167),(Ex.sub (Ex.var 2) (Ex.var 3)),(Ex.attr (Ex.var 4) 127961880028532),(Ex.attr (Ex.var 4) 131277443786868)]))] [])])]),(Sm.ret (Ex.var 2))]
noncomputable def fn_stars_table : Fn := ⟨108,2,[],11,bd_stars_table⟩
noncomputable def bd_stars_add : List Sm := [(Sm.ite (Ex.cmp COp.ne (Ex.var 3) (Ex.attr (Ex.var 0) 121424990136436)) [(Sm.asg (T1.sb (Ex.var 1) (Ex.var 2)) (Ex.meth (Ex.var 0) 1886156147 [(Ex.meth (Ex.var 1) 6776180 [(Ex.var 2),(Ex.attr (Ex.var 0) 121424990136436)]),(Ex.var 3)]))] [])]
noncomputable def fn_stars_add : Fn := ⟨104,4,[],10,bd_stars_add⟩
noncomputable def bd_stars_star : List Sm := [(Sm.asg (T1.nm 2) (Ex.comp (Ex.call (Ex.lit (Val.ty 1684628340)) [(Ex.var 9)]) [9] false (Ex.var 1) [])),(Sm.fo [3] false (Ex.call (Ex.lit (Val.ty 491260897125)) [(Ex.call (Ex.lit (Val.bi 7103854)) [(Ex.var 2)])]) [(Sm.asg (T1.nm 4) (Ex.call (Ex.lit (Val.ty 1684628340)) [(Ex.sub (Ex.var 2) (Ex.var 3))])),(Sm.ite (Ex.cmp COp.eq (Ex.call (Ex.lit (Val.bi 7103854)) [(Ex.var 4)]) (Ex.lit (Val.int 0))) [Sm.cont] []),(Sm.asg (T1.nm 5) (Ex.meth (Ex.var 0) 1937006962 [(Ex.meth (Ex.var 4) 6776180 [(Ex.var 3),(Ex.attr (Ex.var 0) 121424990136436)])])),(Sm.fo [6] false (Ex.call (Ex.lit (Val.ty 491260897125)) [(Ex.call (Ex.lit (Val.bi 7103854)) [(Ex.var 2)])]) [(Sm.ite (Ex.cmp COp.isin (Ex.var 3) (Ex.sub (Ex.var 2) (Ex.var 6))) [(Sm.asg (T1.nm 7) (Ex.meth (Ex.var 0) 499984983411 [(Ex.sub (Ex.sub (Ex.var 2) (Ex.var 6)) (Ex.var 3)),(Ex.var 5)])),(Sm.fo [8] false (Ex.call (Ex.lit (Val.bi 126922498794852)) [(Ex.var 4)]) [(Sm.expr (Ex.call (Ex.lit (Val.top 104)) [(Ex.var 0),(Ex.sub (Ex.var 2) (Ex.var 6)),(Ex.var 8),(Ex.meth (Ex.var 0) 499984983411 [(Ex.var 7),(Ex.sub (Ex.var 4) (Ex.var 8))])]))])] [])])]),(Sm.fo [3] false (Ex.call (Ex.lit (Val.ty 491260897125)) [(Ex.call (Ex.lit (Val.bi 7103854)) [(Ex.var 2)])]) [(Sm.expr (Ex.call (Ex.lit (Val.top 104)) [(Ex.var 0),(Ex.sub (Ex.var 2) (Ex.var 3)),(Ex.var 3),(Ex.attr (Ex.var 0) 7302757)]))]),(Sm.ret (Ex.var 2))]
noncomputable def fn_stars_star : Fn := ⟨107,2,[],15,bd_stars_star⟩
noncomputable def bd_stars_row_times : List Sm := [(Sm.asg (T1.nm 3) (Ex.bin BOp.mul (Ex.list [(Ex.attr (Ex.var 0) 121424990136436)]) (Ex.call (Ex.lit (Val.bi 7103854)) [(Ex.var 1)]))),(Sm.fo [4] false (Ex.call (Ex.lit (Val.ty 491260897125)) [(Ex.call (Ex.lit (Val.bi 7103854)) [(Ex.var 1)])]) [(Sm.ite (Ex.cmp COp.ne (Ex.sub (Ex.var 1) (Ex.var 4)) (Ex.attr (Ex.var 0) 121424990136436)) [(Sm.fo [5] false (Ex.call (Ex.lit (Val.bi 126922498794852)) [(Ex.sub (Ex.var 2) (Ex.var 4))]) [(Sm.asg (T1.sb (Ex.var 3) (Ex.var 5)) (Ex.meth (Ex.var 0) 1886156147 [(Ex.sub (Ex.var 3) (Ex.var 5)),(Ex.meth (Ex.var 0) 499984983411 [(Ex.sub (Ex.var 1) (Ex.var 4)),(Ex.sub (Ex.sub (Ex.var 2) (Ex.var 4)) (Ex.var 5))])]))])] [])]),(Sm.ret (Ex.var 3))]
noncomputable def fn_stars_row_times : Fn := ⟨132,3,[],12,bd_stars_row_times⟩
noncomputable def bd_stars_empty_star : List Sm := [(Sm.ite (Ex.not (Ex.meth (Ex.var 0) 1925483444799026525305 [])) [(Sm.ret (Ex.lit Val.none))] []),(Sm.ret (Ex.call (Ex.lit (Val.top 107)) [(Ex.attr (Ex.var 0) 1919512167),(Ex.call (Ex.lit (Val.top 108)) [(Ex.var 0),(Ex.lit (Val.bool true))])]))]
noncomputable def fn_stars_empty_star : Fn := ⟨131,1,[],7,bd_stars_empty_star⟩
noncomputable def bd_Yes_need : List Sm := [(Sm.ite (Ex.bop true [(Ex.cmp COp.isnot (Ex.call (Ex.lit (Val.ty 1954115685)) [(Ex.var 1)]) (Ex.lit (Val.ty 6909556))),(Ex.cmp COp.lt (Ex.var 1) (Ex.lit (Val.int 0))),(Ex.cmp COp.gt (Ex.var 1) (Ex.lit (Val.int 1)))]) [Sm.raise] []),(Sm.ret (Ex.var 1))]
noncomputable def fn_Yes_need : Fn := ⟨142,2,[],8,bd_Yes_need⟩
noncomputable def bd_Yes_plus : List Sm := [(Sm.ret (Ex.call (Ex.lit (Val.bi 7168376)) [(Ex.var 1),(Ex.var 2)]))]
noncomputable def fn_Yes_plus : Fn := ⟨143,3,[],9,bd_Yes_plus⟩
noncomputable def bd_Yes_times : List Sm := [(Sm.ret (Ex.call (Ex.lit (Val.bi 7170414)) [(Ex.var 1),(Ex.var 2)]))]
noncomputable def fn_Yes_times : Fn := ⟨144,3,[],9,bd_Yes_times⟩
noncomputable def bd_Yes_star : List Sm := [(Sm.ret (Ex.lit (Val.int 1)))]
noncomputable def fn_Yes_star : Fn := ⟨145,2,[],8,bd_Yes_star⟩
noncomputable def bd_Least_need : List Sm := [(Sm.ite (Ex.bop false [(Ex.cmp COp.isnot (Ex.var 1) (Ex.lit Val.none)),(Ex.bop true [(Ex.cmp COp.isnot (Ex.call (Ex.lit (Val.ty 1954115685)) [(Ex.var 1)]) (Ex.lit (Val.ty 6909556))),(Ex.cmp COp.lt (Ex.var 1) (Ex.lit (Val.int 0))),(Ex.cmp COp.ge (Ex.var 1) (Ex.lit (Val.int (10 ^ 4000))))])]) [Sm.raise] []),(Sm.ret (Ex.var 1))]
noncomputable def fn_Least_need : Fn := ⟨147,2,[],8,bd_Least_need⟩
noncomputable def bd_Least_plus : List Sm := [(Sm.ite (Ex.cmp COp.is (Ex.var 1) (Ex.lit Val.none)) [(Sm.ret (Ex.var 2))] []),(Sm.ite (Ex.cmp COp.is (Ex.var 2) (Ex.lit Val.none)) [(Sm.ret (Ex.var 1))] []),(Sm.ret (Ex.call (Ex.lit (Val.bi 7170414)) [(Ex.var 1),(Ex.var 2)]))]
noncomputable def fn_Least_plus : Fn := ⟨148,3,[],9,bd_Least_plus⟩
noncomputable def bd_Least_times : List Sm := [(Sm.ite (Ex.bop true [(Ex.cmp COp.is (Ex.var 1) (Ex.lit Val.none)),(Ex.cmp COp.is (Ex.var 2) (Ex.lit Val.none))]) [(Sm.ret (Ex.lit Val.none))] []),(Sm.ret (Ex.bin BOp.add (Ex.var 1) (Ex.var 2)))]
noncomputable def fn_Least_times : Fn := ⟨149,3,[],9,bd_Least_times⟩
noncomputable def bd_Least_star : List Sm := [(Sm.ret (Ex.lit (Val.int 0)))]
noncomputable def fn_Least_star : Fn := ⟨150,2,[],8,bd_Least_star⟩
noncomputable def bd_Count_need : List Sm := [(Sm.ite (Ex.bop true [(Ex.cmp COp.isnot (Ex.call (Ex.lit (Val.ty 1954115685)) [(Ex.var 1)]) (Ex.lit (Val.ty 6909556))),(Ex.cmp COp.lt (Ex.var 1) (Ex.lit (Val.int 0))),(Ex.cmp COp.ge (Ex.var 1) (Ex.lit (Val.int (10 ^ 4000))))]) [Sm.raise] []),(Sm.ret (Ex.var 1))]
noncomputable def fn_Count_need : Fn := ⟨152,2,[],8,bd_Count_need⟩
noncomputable def bd_Count_plus : List Sm := [(Sm.ret (Ex.bin BOp.add (Ex.var 1) (Ex.var 2)))]
noncomputable def fn_Count_plus : Fn := ⟨153,3,[],9,bd_Count_plus⟩
noncomputable def bd_Count_times : List Sm := [(Sm.ret (Ex.bin BOp.mul (Ex.var 1) (Ex.var 2)))]
noncomputable def fn_Count_times : Fn := ⟨154,3,[],9,bd_Count_times⟩
noncomputable def bd_Count_star : List Sm := [(Sm.ite (Ex.cmp COp.ne (Ex.var 1) (Ex.lit (Val.int 0))) [Sm.raise] []),(Sm.ret (Ex.lit (Val.int 1)))]
noncomputable def fn_Count_star : Fn := ⟨155,2,[],8,bd_Count_star⟩
noncomputable def bd_rings__gcd : List Sm := [(Sm.wh (Ex.cmp COp.gt (Ex.var 1) (Ex.lit (Val.int 0))) [(Sm.asgs [(T1.nm 0),(T1.nm 1)] (Ex.tup [(Ex.var 1),(Ex.bin BOp.mod (Ex.var 0) (Ex.var 1))]))]),(Sm.ret (Ex.var 0))]
noncomputable def fn_rings__gcd : Fn := ⟨109,2,[],8,bd_rings__gcd⟩
noncomputable def bd_Chance_need : List Sm := [(Sm.ite (Ex.bop true [(Ex.cmp COp.isnot (Ex.call (Ex.lit (Val.ty 1954115685)) [(Ex.var 1)]) (Ex.lit (Val.ty 500186508389))),(Ex.cmp COp.ne (Ex.call (Ex.lit (Val.bi 7103854)) [(Ex.var 1)]) (Ex.lit (Val.int 2))),(Ex.cmp COp.isnot (Ex.call (Ex.lit (Val.ty 1954115685)) [(Ex.sub (Ex.var 1) (Ex.lit (Val.int 0)))]) (Ex.lit (Val.ty 6909556))),(Ex.cmp COp.isnot (Ex.call (Ex.lit (Val.ty 1954115685)) [(Ex.sub (Ex.var 1) (Ex.lit (Val.int 1)))]) (Ex.lit (Val.ty 6909556)))]) [Sm.raise] []),(Sm.ite (Ex.bop true [(Ex.cmp COp.lt (Ex.sub (Ex.var 1) (Ex.lit (Val.int 0))) (Ex.lit (Val.int 0))),(Ex.cmp COp.lt (Ex.sub (Ex.var 1) (Ex.lit (Val.int 1))) (Ex.lit (Val.int 1))),(Ex.cmp COp.ge (Ex.sub (Ex.var 1) (Ex.lit (Val.int 0))) (Ex.lit (Val.int (10 ^ 4000)))),(Ex.cmp COp.ge (Ex.sub (Ex.var 1) (Ex.lit (Val.int 1))) (Ex.lit (Val.int (10 ^ 4000)))),(Ex.cmp COp.ne (Ex.call (Ex.lit (Val.top 109)) [(Ex.sub (Ex.var 1) (Ex.lit (Val.int 1))),(Ex.sub (Ex.var 1) (Ex.lit (Val.int 0)))]) (Ex.lit (Val.int 1)))]) [Sm.raise] []),(Sm.ret (Ex.var 1))]
noncomputable def fn_Chance_need : Fn := ⟨157,2,[],8,bd_Chance_need⟩
noncomputable def bd_Chance_plus : List Sm := [(Sm.ret (Ex.call (Ex.lit (Val.top 110)) [(Ex.bin BOp.add (Ex.bin BOp.mul (Ex.sub (Ex.var 1) (Ex.lit (Val.int 0))) (Ex.sub (Ex.var 2) (Ex.lit (Val.int 1)))) (Ex.bin BOp.mul (Ex.sub (Ex.var 2) (Ex.lit (Val.int 0))) (Ex.sub (Ex.var 1) (Ex.lit (Val.int 1))))),(Ex.bin BOp.mul (Ex.sub (Ex.var 1) (Ex.lit (Val.int 1))) (Ex.sub (Ex.var 2) (Ex.lit (Val.int 1))))]))]
noncomputable def fn_Chance_plus : Fn := ⟨158,3,[],9,bd_Chance_plus⟩
noncomputable def bd_Chance_times : List Sm := [(Sm.ret (Ex.call (Ex.lit (Val.top 110)) [(Ex.bin BOp.mul (Ex.sub (Ex.var 1) (Ex.lit (Val.int 0))) (Ex.sub (Ex.var 2) (Ex.lit (Val.int 0)))),(Ex.bin BOp.mul (Ex.sub (Ex.var 1) (Ex.lit (Val.int 1))) (Ex.sub (Ex.var 2) (Ex.lit (Val.int 1))))]))]
noncomputable def fn_Chance_times : Fn := ⟨159,3,[],9,bd_Chance_times⟩
noncomputable def bd_Chance_star : List Sm := [(Sm.ite (Ex.cmp COp.ge (Ex.sub (Ex.var 1) (Ex.lit (Val.int 0))) (Ex.sub (Ex.var 1) (Ex.lit (Val.int 1)))) [Sm.raise] []),(Sm.ret (Ex.call (Ex.lit (Val.top 110)) [(Ex.sub (Ex.var 1) (Ex.lit (Val.int 1))),(Ex.bin BOp.sub (Ex.sub (Ex.var 1) (Ex.lit (Val.int 1))) (Ex.sub (Ex.var 1) (Ex.lit (Val.int 0))))]))]
noncomputable def fn_Chance_star : Fn := ⟨160,2,[],8,bd_Chance_star⟩
noncomputable def bd_Likely_need : List Sm := [(Sm.expr (Ex.meth (Ex.lit (Val.top 111)) 1852138852 [(Ex.var 0),(Ex.var 1)])),(Sm.ite (Ex.cmp COp.gt (Ex.sub (Ex.var 1) (Ex.lit (Val.int 0))) (Ex.sub (Ex.var 1) (Ex.lit (Val.int 1)))) [Sm.raise] []),(Sm.ret (Ex.var 1))]
noncomputable def fn_Likely_need : Fn := ⟨161,2,[],8,bd_Likely_need⟩
noncomputable def bd_Likely_plus : List Sm := [(Sm.ite (Ex.cmp COp.lt (Ex.bin BOp.mul (Ex.sub (Ex.var 1) (Ex.lit (Val.int 0))) (Ex.sub (Ex.var 2) (Ex.lit (Val.int 1)))) (Ex.bin BOp.mul (Ex.sub (Ex.var 2) (Ex.lit (Val.int 0))) (Ex.sub (Ex.var 1) (Ex.lit (Val.int 1))))) [(Sm.ret (Ex.var 2))] []),(Sm.ret (Ex.var 1))]
noncomputable def fn_Likely_plus : Fn := ⟨162,3,[],9,bd_Likely_plus⟩
noncomputable def bd_Likely_star : List Sm := [(Sm.ret (Ex.attr (Ex.var 0) 7302757))]
noncomputable def fn_Likely_star : Fn := ⟨163,2,[],8,bd_Likely_star⟩
noncomputable def bd_rings_fraction : List Sm := [(Sm.asg (T1.nm 2) (Ex.call (Ex.lit (Val.top 109)) [(Ex.var 1),(Ex.var 0)])),(Sm.ret (Ex.tup [(Ex.bin BOp.fdiv (Ex.var 0) (Ex.var 2)),(Ex.bin BOp.fdiv (Ex.var 1) (Ex.var 2))]))]
noncomputable def fn_rings_fraction : Fn := ⟨110,2,[],9,bd_rings_fraction⟩
noncomputable def bd_rings_ring : List Sm := [(Sm.fo [1] false (Ex.lit (Val.fl [(Val.top 112),(Val.top 113),(Val.top 114),(Val.top 115),(Val.top 116)])) [(Sm.ite (Ex.cmp COp.eq (Ex.attr (Ex.var 1) 1851878757) (Ex.var 0)) [(Sm.ret (Ex.var 1))] [])]),Sm.raise]
noncomputable def fn_rings_ring : Fn := ⟨105,1,[],8,bd_rings_ring⟩
noncomputable def bd_Arc_init : List Sm := [(Sm.asg (T1.at (Ex.var 0) 504397587826) (Ex.var 1)),(Sm.asg (T1.at (Ex.var 0) 465726563698) (Ex.var 2)),(Sm.asg (T1.at (Ex.var 0) 131277443786868) (Ex.var 3)),(Sm.asg (T1.at (Ex.var 0) 127961880028532) (Ex.var 4))]
noncomputable def fn_Arc_init : Fn := ⟨166,5,[],11,bd_Arc_init⟩
noncomputable def bd_Arc_is_empty : List Sm := [(Sm.ret (Ex.bop false [(Ex.cmp COp.eq (Ex.attr (Ex.var 0) 504397587826) (Ex.lit (Val.str []))),(Ex.cmp COp.eq (Ex.attr (Ex.var 0) 465726563698) (Ex.lit (Val.str [])))]))]
noncomputable def fn_Arc_is_empty : Fn := ⟨165,1,[],7,bd_Arc_is_empty⟩
noncomputable def bd_Machine_init : List Sm := [(Sm.asg (T1.at (Ex.var 0) 1919512167) (Ex.var 1)),(Sm.asg (T1.at (Ex.var 0) 1634886515) (Ex.list [])),(Sm.asg (T1.at (Ex.var 0) 1701733491) (Ex.list [])),(Sm.asg (T1.at (Ex.var 0) 495873782388) (Ex.lit (Val.int 0))),(Sm.asg (T1.at (Ex.var 0) 439855772532) (Ex.attr (Ex.var 1) 7302757)),(Sm.asg (T1.at (Ex.var 0) 104880676367988) (Ex.lit (Val.int 0)))]
noncomputable def fn_Machine_init : Fn := ⟨177,2,[],8,bd_Machine_init⟩
noncomputable def bd_Machine__need_room : List Sm := [(Sm.ite (Ex.cmp COp.gt (Ex.bin BOp.add (Ex.call (Ex.lit (Val.bi 7103854)) [(Ex.attr (Ex.var 0) 1634886515)]) (Ex.var 1)) (Ex.lit (Val.int 20000))) [Sm.raise] [])]
noncomputable def fn_Machine__need_room : Fn := ⟨167,2,[],8,bd_Machine__need_room⟩
noncomputable def bd_Machine_state : List Sm := [(Sm.expr (Ex.meth (Ex.var 0) 450661264077055929053037 [(Ex.lit (Val.int 1))])),(Sm.expr (Ex.meth (Ex.attr (Ex.var 0) 1634886515) 107135549927012 [(Ex.list [])])),(Sm.expr (Ex.meth (Ex.attr (Ex.var 0) 1701733491) 107135549927012 [(Ex.attr (Ex.attr (Ex.var 0) 1919512167) 121424990136436)])),(Sm.ret (Ex.bin BOp.sub (Ex.call (Ex.lit (Val.bi 7103854)) [(Ex.attr (Ex.var 0) 1634886515)]) (Ex.lit (Val.int 1))))]
noncomputable def fn_Machine_state : Fn := ⟨168,1,[],7,bd_Machine_state⟩
noncomputable def bd_Machine_need_state : List Sm := [(Sm.ret (Ex.call (Ex.lit (Val.top 117)) [(Ex.var 1),(Ex.lit (Val.int 0)),(Ex.bin BOp.sub (Ex.call (Ex.lit (Val.bi 7103854)) [(Ex.attr (Ex.var 0) 1634886515)]) (Ex.lit (Val.int 1))),(Ex.lit (Val.str [115,116,97,116,101]))]))]
noncomputable def fn_Machine_need_state : Fn := ⟨170,2,[],8,bd_Machine_need_state⟩
noncomputable def bd_Machine_arc : List Sm := [(Sm.expr (Ex.meth (Ex.var 0) 521330740336550618428517 [(Ex.var 1)])),(Sm.expr (Ex.meth (Ex.var 0) 521330740336550618428517 [(Ex.var 5)])),(Sm.expr (Ex.call (Ex.lit (Val.top 119)) [(Ex.var 2)])),(Sm.expr (Ex.call (Ex.lit (Val.top 119)) [(Ex.var 3)])),(Sm.expr (Ex.meth (Ex.attr (Ex.var 0) 1919512167) 1852138852 [(Ex.var 4)])),(Sm.ite (Ex.cmp COp.eq (Ex.var 4) (Ex.attr (Ex.attr (Ex.var 0) 1919512167) 121424990136436)) [(Sm.ret (Ex.lit Val.none))] []),(Sm.ite (Ex.cmp COp.ge (Ex.attr (Ex.var 0) 104880676367988) (Ex.lit (Val.int 200000))) [Sm.raise] []),(Sm.asg (T1.at (Ex.var 0) 104880676367988) (Ex.bin BOp.add (Ex.attr (Ex.var 0) 104880676367988) (Ex.lit (Val.int 1)))),(Sm.expr (Ex.meth (Ex.sub (Ex.attr (Ex.var 0) 1634886515) (Ex.var 1)) 107135549927012 [(Ex.call (Ex.lit (Val.top 118)) [(Ex.var 2),(Ex.var 3),(Ex.var 4),(Ex.var 5)])]))]
noncomputable def fn_Machine_arc : Fn := ⟨171,6,[],12,bd_Machine_arc⟩
noncomputable def bd_Machine_chain : List Sm := [(Sm.expr (Ex.meth (Ex.var 0) 521330740336550618428517 [(Ex.var 1)])),(Sm.expr (Ex.meth (Ex.var 0) 521330740336550618428517 [(Ex.var 5)])),(Sm.expr (Ex.meth (Ex.attr (Ex.var 0) 1919512167) 1852138852 [(Ex.var 4)])),(Sm.expr (Ex.call (Ex.lit (Val.top 134)) [(Ex.var 2)])),(Sm.expr (Ex.call (Ex.lit (Val.top 134)) [(Ex.var 3)])),(Sm.asg (T1.nm 6) (Ex.call (Ex.lit (Val.bi 7168376)) [(Ex.call (Ex.lit (Val.bi 7103854)) [(Ex.var 2)]),(Ex.call (Ex.lit (Val.bi 7103854)) [(Ex.var 3)]),(Ex.lit (Val.int 1))])),(Sm.expr (Ex.meth (Ex.var 0) 450661264077055929053037 [(Ex.bin BOp.sub (Ex.var 6) (Ex.lit (Val.int 1)))])),(Sm.ite (Ex.cmp COp.gt (Ex.bin BOp.add (Ex.attr (Ex.var 0) 104880676367988) (Ex.var 6)) (Ex.lit (Val.int 200000))) [Sm.raise] []),(Sm.asg (T1.nm 7) (Ex.var 1)),(Sm.fo [8] false (Ex.call (Ex.lit (Val.ty 491260897125)) [(Ex.var 6)]) [(Sm.asg (T1.nm 9) (Ex.ite (Ex.cmp COp.eq (Ex.var 8) (Ex.bin BOp.sub (Ex.var 6) (Ex.lit (Val.int 1)))) (Ex.var 5) (Ex.meth (Ex.var 0) 495873782885 []))),(Sm.expr (Ex.meth (Ex.var 0) 6386275 [(Ex.var 7),(Ex.slice (Ex.var 2) 3 [(Ex.var 8),(Ex.bin BOp.add (Ex.var 8) (Ex.lit (Val.int 1)))]),(Ex.slice (Ex.var 3) 3 [(Ex.var 8),(Ex.bin BOp.add (Ex.var 8) (Ex.lit (Val.int 1)))]),(Ex.ite (Ex.cmp COp.eq (Ex.var 8) (Ex.lit (Val.int 0))) (Ex.var 4) (Ex.attr (Ex.attr (Ex.var 0) 1919512167) 7302757)),(Ex.var 9)])),(Sm.asg (T1.nm 7) (Ex.var 9))])]
noncomputable def fn_Machine_chain : Fn := ⟨191,6,[],16,bd_Machine_chain⟩
noncomputable def bd_Machine_begin : List Sm := [(Sm.expr (Ex.meth (Ex.var 0) 521330740336550618428517 [(Ex.var 1)])),(Sm.asg (T1.at (Ex.var 0) 439855772532) (Ex.ite (Ex.cmp COp.is (Ex.var 2) (Ex.lit (Val.top 120))) (Ex.attr (Ex.attr (Ex.var 0) 1919512167) 7302757) (Ex.meth (Ex.attr (Ex.var 0) 1919512167) 1852138852 [(Ex.var 2)]))),(Sm.asg (T1.at (Ex.var 0) 495873782388) (Ex.var 1))]
noncomputable def fn_Machine_begin : Fn := ⟨172,3,[(Val.top 120)],9,bd_Machine_begin⟩
noncomputable def bd_Machine_end : List Sm := [(Sm.expr (Ex.meth (Ex.var 0) 521330740336550618428517 [(Ex.var 1)])),(Sm.asg (T1.sb (Ex.attr (Ex.var 0) 1701733491) (Ex.var 1)) (Ex.ite (Ex.cmp COp.is (Ex.var 2) (Ex.lit (Val.top 120))) (Ex.attr (Ex.attr (Ex.var 0) 1919512167) 7302757) (Ex.meth (Ex.attr (Ex.var 0) 1919512167) 1852138852 [(Ex.var 2)])))]
noncomputable def fn_Machine_end : Fn := ⟨173,3,[(Val.top 120)],9,bd_Machine_end⟩
noncomputable def bd_Machine_size : List Sm := [(Sm.ret (Ex.call (Ex.lit (Val.bi 7103854)) [(Ex.attr (Ex.var 0) 1634886515)]))]
noncomputable def fn_Machine_size : Fn := ⟨174,1,[],7,bd_Machine_size⟩
noncomputable def bd_Machine_has_empty : List Sm := [(Sm.fo [1] false (Ex.attr (Ex.var 0) 1634886515) [(Sm.fo [2] false (Ex.var 1) [(Sm.ite (Ex.meth (Ex.var 2) 7598521885536580729 []) [(Sm.ret (Ex.lit (Val.bool true)))] [])])]),(Sm.ret (Ex.lit (Val.bool false)))]
noncomputable def fn_Machine_has_empty : Fn := ⟨175,1,[],9,bd_Machine_has_empty⟩
noncomputable def bd_machine_trim : List Sm := [(Sm.ite (Ex.cmp COp.eq (Ex.meth (Ex.var 0) 1936292453 []) (Ex.lit (Val.int 0))) [Sm.raise] []),(Sm.asg (T1.nm 1) (Ex.call (Ex.lit (Val.top 124)) [(Ex.var 0),(Ex.list [(Ex.attr (Ex.var 0) 495873782388)]),(Ex.call (Ex.lit (Val.top 125)) [(Ex.var 0)])])),(Sm.asg (T1.nm 3) (Ex.comp (Ex.var 9) [9] false (Ex.call (Ex.lit (Val.ty 491260897125)) [(Ex.meth (Ex.var 0) 1936292453 [])]) [(Ex.cmp COp.ne (Ex.sub (Ex.attr (Ex.var 0) 1701733491) (Ex.var 9)) (Ex.attr (Ex.attr (Ex.var 0) 1919512167) 121424990136436))])),(Sm.asg (T1.nm 4) (Ex.call (Ex.lit (Val.top 124)) [(Ex.var 0),(Ex.var 3),(Ex.call (Ex.lit (Val.top 123)) [(Ex.var 0)])])),(Sm.asg (T1.nm 5) (Ex.comp (Ex.var 9) [9] false (Ex.call (Ex.lit (Val.ty 491260897125)) [(Ex.meth (Ex.var 0) 1936292453 [])]) [(Ex.bop false [(Ex.sub (Ex.var 1) (Ex.var 9)),(Ex.sub (Ex.var 4) (Ex.var 9))])])),(Sm.asg (T1.nm 6) (Ex.call (Ex.lit (Val.top 121)) [(Ex.attr (Ex.var 0) 1919512167)])),(Sm.ite (Ex.bop true [(Ex.cmp COp.notin (Ex.attr (Ex.var 0) 495873782388) (Ex.var 5)),(Ex.cmp COp.eq (Ex.attr (Ex.var 0) 439855772532) (Ex.attr (Ex.attr (Ex.var 0) 1919512167) 121424990136436))]) [(Sm.expr (Ex.meth (Ex.var 6) 495873782885 [])),(Sm.ret (Ex.var 6))] []),(Sm.asg (T1.nm 7) (Ex.dict [])),(Sm.fo [2] false (Ex.var 5) [(Sm.asg (T1.sb (Ex.var 7) (Ex.var 2)) (Ex.meth (Ex.var 6) 495873782885 []))]),(Sm.fo [2] false (Ex.var 5) [(Sm.fo [8] false (Ex.sub (Ex.attr (Ex.var 0) 1634886515) (Ex.var 2)) [(Sm.ite (Ex.cmp COp.isin (Ex.attr (Ex.var 8) 127961880028532) (Ex.var 7)) [(Sm.expr (Ex.meth (Ex.var 6) 6386275 [(Ex.sub (Ex.var 7) (Ex.var 2)),(Ex.attr (Ex.var 8) 504397587826),(Ex.attr (Ex.var 8) 465726563698),(Ex.attr (Ex.var 8) 131277443786868),(Ex.sub (Ex.var 7) (Ex.attr (Ex.var 8) 127961880028532))]))] [])]),(Sm.asg (T1.sb (Ex.attr (Ex.var 6) 1701733491) (Ex.sub (Ex.var 7) (Ex.var 2))) (Ex.sub (Ex.attr (Ex.var 0) 1701733491) (Ex.var 2)))]),(Sm.expr (Ex.meth (Ex.var 6) 422608071022 [(Ex.sub (Ex.var 7) (Ex.attr (Ex.var 0) 495873782388)),(Ex.attr (Ex.var 0) 439855772532)])),(Sm.ret (Ex.var 6))]
noncomputable def fn_machine_trim : Fn := ⟨133,1,[],15,bd_machine_trim⟩
noncomputable def bd_machine__onward : List Sm := [(Sm.ret (Ex.comp (Ex.comp (Ex.attr (Ex.var 2) 127961880028532) [2] false (Ex.var 1) []) [1] false (Ex.attr (Ex.var 0) 1634886515) []))]
noncomputable def fn_machine__onward : Fn := ⟨125,1,[],7,bd_machine__onward⟩
noncomputable def bd_machine__backward : List Sm := [(Sm.asg (T1.nm 1) (Ex.comp (Ex.list []) [4] false (Ex.attr (Ex.var 0) 1634886515) [])),(Sm.fo [2] false (Ex.call (Ex.lit (Val.ty 491260897125)) [(Ex.meth (Ex.var 0) 1936292453 [])]) [(Sm.fo [3] false (Ex.sub (Ex.attr (Ex.var 0) 1634886515) (Ex.var 2)) [(Sm.expr (Ex.meth (Ex.sub (Ex.var 1) (Ex.attr (Ex.var 3) 127961880028532)) 107135549927012 [(Ex.var 2)]))])]),(Sm.ret (Ex.var 1))]
noncomputable def fn_machine__backward : Fn := ⟨123,1,[],10,bd_machine__backward⟩
noncomputable def bd_machine__met : List Sm := [(Sm.asg (T1.nm 3) (Ex.bin BOp.mul (Ex.list [(Ex.lit (Val.bool false))]) (Ex.meth (Ex.var 0) 1936292453 []))),(Sm.asg (T1.nm 4) (Ex.call (Ex.lit (Val.ty 1818850164)) [(Ex.var 1)])),(Sm.fo [5] false (Ex.var 4) [(Sm.asg (T1.sb (Ex.var 3) (Ex.var 5)) (Ex.lit (Val.bool true)))]),(Sm.wh (Ex.cmp COp.gt (Ex.call (Ex.lit (Val.bi 7103854)) [(Ex.var 4)]) (Ex.lit (Val.int 0))) [(Sm.asg (T1.nm 5) (Ex.meth (Ex.var 4) 7368560 [])),(Sm.fo [6] false (Ex.sub (Ex.var 2) (Ex.var 5)) [(Sm.ite (Ex.not (Ex.sub (Ex.var 3) (Ex.var 6))) [(Sm.asg (T1.sb (Ex.var 3) (Ex.var 6)) (Ex.lit (Val.bool true))),(Sm.expr (Ex.meth (Ex.var 4) 107135549927012 [(Ex.var 6)]))] [])])]),(Sm.ret (Ex.var 3))]
noncomputable def fn_machine__met : Fn := ⟨124,3,[],13,bd_machine__met⟩
noncomputable def bd_run_weight : List Sm := [(Sm.expr (Ex.call (Ex.lit (Val.top 130)) [(Ex.var 1)])),(Sm.expr (Ex.call (Ex.lit (Val.top 130)) [(Ex.var 2)])),(Sm.asg (T1.nm 3) (Ex.attr (Ex.var 0) 1919512167)),(Sm.asg (T1.nm 0) (Ex.call (Ex.lit (Val.top 133)) [(Ex.var 0)])),(Sm.asg (T1.nm 4) (Ex.call (Ex.lit (Val.top 131)) [(Ex.var 0)])),(Sm.asg (T1.nm 5) (Ex.dict [(Ex.tup [(Ex.lit (Val.int 0)),(Ex.lit (Val.int 0))]),(Ex.call (Ex.lit (Val.top 128)) [(Ex.var 0)])])),(Sm.fo [6] false (Ex.call (Ex.lit (Val.ty 491260897125)) [(Ex.bin BOp.add (Ex.call (Ex.lit (Val.bi 7103854)) [(Ex.var 1)]) (Ex.lit (Val.int 1)))]) [(Sm.fo [7] false (Ex.call (Ex.lit (Val.ty 491260897125)) [(Ex.bin BOp.add (Ex.call (Ex.lit (Val.bi 7103854)) [(Ex.var 2)]) (Ex.lit (Val.int 1)))]) [(Sm.asg (T1.nm 8) (Ex.meth (Ex.var 5) 6776180 [(Ex.tup [(Ex.var 6),(Ex.var 7)])])),(Sm.ite (Ex.cmp COp.is (Ex.var 8) (Ex.lit Val.none)) [Sm.cont] []),(Sm.ite (Ex.cmp COp.isnot (Ex.var 4) (Ex.lit Val.none)) [(Sm.asg (T1.nm 8) (Ex.call (Ex.lit (Val.top 132)) [(Ex.var 3),(Ex.var 8),(Ex.var 4)])),(Sm.asg (T1.sb (Ex.var 5) (Ex.tup [(Ex.var 6),(Ex.var 7)])) (Ex.var 8))] []),(Sm.fo [9] false (Ex.call (Ex.lit (Val.ty 491260897125)) [(Ex.meth (Ex.var 0) 1936292453 [])]) [(Sm.ite (Ex.cmp COp.eq (Ex.sub (Ex.var 8) (Ex.var 9)) (Ex.attr (Ex.var 3) 121424990136436)) [Sm.cont] []),(Sm.fo [10] false (Ex.sub (Ex.attr (Ex.var 0) 1634886515) (Ex.var 9)) [(Sm.ite (Ex.bop true [(Ex.meth (Ex.var 10) 7598521885536580729 []),(Ex.not (Ex.call (Ex.lit (Val.top 129)) [(Ex.var 1),(Ex.var 6),(Ex.attr (Ex.var 10) 504397587826)])),(Ex.not (Ex.call (Ex.lit (Val.top 129)) [(Ex.var 2),(Ex.var 7),(Ex.attr (Ex.var 10) 465726563698)]))]) [Sm.cont] []),(Sm.asg (T1.nm 11) (Ex.tup [(Ex.bin BOp.add (Ex.var 6) (Ex.call (Ex.lit (Val.bi 7103854)) [(Ex.attr (Ex.var 10) 504397587826)])),(Ex.bin BOp.add (Ex.var 7) (Ex.call (Ex.lit (Val.bi 7103854)) [(Ex.attr (Ex.var 10) 465726563698)]))])),(Sm.expr (Ex.call (Ex.lit (Val.top 126)) [(Ex.var 0),(Ex.var 5),(Ex.var 11),(Ex.attr (Ex.var 10) 127961880028532),(Ex.meth (Ex.var 3) 499984983411 [(Ex.sub (Ex.var 8) (Ex.var 9)),(Ex.attr (Ex.var 10) 131277443786868)])]))])])])]),(Sm.ret (Ex.call (Ex.lit (Val.top 127)) [(Ex.var 0),(Ex.meth (Ex.var 5) 6776180 [(Ex.tup [(Ex.call (Ex.lit (Val.bi 7103854)) [(Ex.var 1)]),(Ex.call (Ex.lit (Val.bi 7103854)) [(Ex.var 2)])])])]))]
noncomputable def fn_run_weight : Fn := ⟨106,3,[],18,bd_run_weight⟩
noncomputable def bd_run__need_short : List Sm := [(Sm.expr (Ex.call (Ex.lit (Val.top 134)) [(Ex.var 0)])),(Sm.ite (Ex.cmp COp.gt (Ex.call (Ex.lit (Val.bi 7103854)) [(Ex.var 0)]) (Ex.lit (Val.int 200))) [Sm.raise] [])]
noncomputable def fn_run__need_short : Fn := ⟨130,1,[],7,bd_run__need_short⟩
noncomputable def bd_run__first : List Sm := [(Sm.asg (T1.nm 1) (Ex.bin BOp.mul (Ex.list [(Ex.attr (Ex.attr (Ex.var 0) 1919512167) 121424990136436)]) (Ex.meth (Ex.var 0) 1936292453 []))),(Sm.asg (T1.sb (Ex.var 1) (Ex.attr (Ex.var 0) 495873782388)) (Ex.attr (Ex.var 0) 439855772532)),(Sm.ret (Ex.var 1))]
noncomputable def fn_run__first : Fn := ⟨128,1,[],8,bd_run__first⟩
noncomputable def bd_run__fits : List Sm := [(Sm.ret (Ex.bop true [(Ex.cmp COp.eq (Ex.var 2) (Ex.lit (Val.str []))),(Ex.cmp COp.eq (Ex.slice (Ex.var 0) 3 [(Ex.var 1),(Ex.bin BOp.add (Ex.var 1) (Ex.lit (Val.int 1)))]) (Ex.var 2))]))]
noncomputable def fn_run__fits : Fn := ⟨129,3,[],9,bd_run__fits⟩
noncomputable def bd_run__add : List Sm := [(Sm.ite (Ex.cmp COp.notin (Ex.var 2) (Ex.var 1)) [(Sm.asg (T1.sb (Ex.var 1) (Ex.var 2)) (Ex.bin BOp.mul (Ex.list [(Ex.attr (Ex.attr (Ex.var 0) 1919512167) 121424990136436)]) (Ex.meth (Ex.var 0) 1936292453 [])))] []),(Sm.asg (T1.sb (Ex.sub (Ex.var 1) (Ex.var 2)) (Ex.var 3)) (Ex.meth (Ex.attr (Ex.var 0) 1919512167) 1886156147 [(Ex.sub (Ex.sub (Ex.var 1) (Ex.var 2)) (Ex.var 3)),(Ex.var 4)]))]
noncomputable def fn_run__add : Fn := ⟨126,5,[],11,bd_run__add⟩
noncomputable def bd_run__ended : List Sm := [(Sm.asg (T1.nm 2) (Ex.attr (Ex.var 0) 1919512167)),(Sm.asg (T1.nm 3) (Ex.attr (Ex.var 2) 121424990136436)),(Sm.ite (Ex.cmp COp.isnot (Ex.var 1) (Ex.lit Val.none)) [(Sm.fo [4] false (Ex.call (Ex.lit (Val.ty 491260897125)) [(Ex.meth (Ex.var 0) 1936292453 [])]) [(Sm.asg (T1.nm 3) (Ex.meth (Ex.var 2) 1886156147 [(Ex.var 3),(Ex.meth (Ex.var 2) 499984983411 [(Ex.sub (Ex.var 1) (Ex.var 4)),(Ex.sub (Ex.attr (Ex.var 0) 1701733491) (Ex.var 4))])]))])] []),(Sm.ret (Ex.meth (Ex.var 2) 1852138852 [(Ex.var 3)]))]
noncomputable def fn_run__ended : Fn := ⟨127,2,[],11,bd_run__ended⟩
noncomputable def bd_rational_of_pairs : List Sm := [(Sm.asg (T1.nm 2) (Ex.call (Ex.lit (Val.top 121)) [(Ex.var 0)])),(Sm.asg (T1.nm 3) (Ex.meth (Ex.var 2) 495873782885 [])),(Sm.fo [4,5,6] true (Ex.var 1) [(Sm.asg (T1.nm 7) (Ex.meth (Ex.var 2) 495873782885 [])),(Sm.expr (Ex.meth (Ex.var 2) 426952976750 [(Ex.var 3),(Ex.var 4),(Ex.var 5),(Ex.var 6),(Ex.var 7)])),(Sm.expr (Ex.meth (Ex.var 2) 6647396 [(Ex.var 7)]))]),(Sm.ret (Ex.var 2))]
noncomputable def fn_rational_of_pairs : Fn := ⟨190,2,[],14,bd_rational_of_pairs⟩
noncomputable def bd_law_law : List Sm := [(Sm.ite (Ex.cmp COp.lt (Ex.call (Ex.lit (Val.bi 7103854)) [(Ex.var 0)]) (Ex.lit (Val.int 2))) [(Sm.ret (Ex.lit (Val.bool true)))] []),(Sm.asg (T1.nm 1) (Ex.bin BOp.add (Ex.lit (Val.int 1)) (Ex.bin BOp.mod (Ex.sub (Ex.var 0) (Ex.lit (Val.int 0))) (Ex.lit (Val.int 50))))),(Sm.asg (T1.nm 2) (Ex.bin BOp.add (Ex.lit (Val.int 1)) (Ex.bin BOp.mod (Ex.sub (Ex.var 0) (Ex.lit (Val.int 1))) (Ex.lit (Val.int 50))))),(Sm.asg (T1.nm 3) (Ex.call (Ex.lit (Val.top 190)) [(Ex.call (Ex.lit (Val.top 105)) [(Ex.lit (Val.str [99,111,117,110,116]))]),(Ex.list [(Ex.tup [(Ex.lit (Val.str [97])),(Ex.lit (Val.str [120])),(Ex.var 1)]),(Ex.tup [(Ex.lit (Val.str [97])),(Ex.lit (Val.str [120])),(Ex.var 2)])])])),(Sm.ret (Ex.cmp COp.eq (Ex.list [(Ex.call (Ex.lit (Val.top 106)) [(Ex.var 3),(Ex.lit (Val.str [97])),(Ex.lit (Val.str [120]))]),(Ex.call (Ex.lit (Val.top 106)) [(Ex.var 3),(Ex.lit (Val.str [97])),(Ex.lit (Val.str [121]))])]) (Ex.list [(Ex.bin BOp.add (Ex.var 1) (Ex.var 2)),(Ex.lit (Val.int 0))])))]
noncomputable def fn_law_law : Fn := ⟨178,1,[],10,bd_law_law⟩
noncomputable def P0 : Prg := ⟨[fn_errors_is_letter,fn_errors_need_letter,fn_errors_need_label,fn_errors_need_word,fn_errors_need_count,fn_stars_table,fn_stars_add,fn_stars_star,fn_stars_row_times,fn_stars_empty_star,fn_Yes_need,fn_Yes_plus,fn_Yes_times,fn_Yes_star,fn_Least_need,fn_Least_plus,fn_Least_times,fn_Least_star,fn_Count_need,fn_Count_plus,fn_Count_times,fn_Count_star,fn_rings__gcd,fn_Chance_need,fn_Chance_plus,fn_Chance_times,fn_Chance_star,fn_Likely_need,fn_Likely_plus,fn_Likely_star,fn_rings_fraction,fn_rings_ring,fn_Arc_init,fn_Arc_is_empty,fn_Machine_init,fn_Machine__need_room,fn_Machine_state,fn_Machine_need_state,fn_Machine_arc,fn_Machine_chain,fn_Machine_begin,fn_Machine_end,fn_Machine_size,fn_Machine_has_empty,fn_machine_trim,fn_machine__onward,fn_machine__backward,fn_machine__met,fn_run_weight,fn_run__need_short,fn_run__first,fn_run__fits,fn_run__add,fn_run__ended,fn_rational_of_pairs,fn_law_law],
 [⟨146,[(1851878757,(Val.str [121,101,115])),(121424990136436,(Val.int 0)),(7302757,(Val.int 1)),(1852138852,(Val.top 142)),(1886156147,(Val.top 143)),(499984983411,(Val.top 144)),(1937006962,(Val.top 145))],Option.none,[]⟩,
  ⟨151,[(1851878757,(Val.str [108,101,97,115,116])),(121424990136436,Val.none),(7302757,(Val.int 0)),(1852138852,(Val.top 147)),(1886156147,(Val.top 148)),(499984983411,(Val.top 149)),(1937006962,(Val.top 150))],Option.none,[]⟩,
  ⟨156,[(1851878757,(Val.str [99,111,117,110,116])),(121424990136436,(Val.int 0)),(7302757,(Val.int 1)),(1852138852,(Val.top 152)),(1886156147,(Val.top 153)),(499984983411,(Val.top 154)),(1937006962,(Val.top 155))],Option.none,[]⟩,
  ⟨111,[(1851878757,(Val.str [99,104,97,110,99,101])),(121424990136436,(Val.tup [(Val.int 0),(Val.int 1)])),(7302757,(Val.tup [(Val.int 1),(Val.int 1)])),(1852138852,(Val.top 157)),(1886156147,(Val.top 158)),(499984983411,(Val.top 159)),(1937006962,(Val.top 160))],Option.none,[]⟩,
  ⟨164,[(1851878757,(Val.str [108,105,107,101,108,121])),(1852138852,(Val.top 161)),(1886156147,(Val.top 162)),(1937006962,(Val.top 163)),(121424990136436,(Val.tup [(Val.int 0),(Val.int 1)])),(7302757,(Val.tup [(Val.int 1),(Val.int 1)])),(499984983411,(Val.top 159))],Option.none,[]⟩,
  ⟨118,[(7598521885536580729,(Val.top 165))],(some 166),[504397587826,465726563698,131277443786868,127961880028532]⟩,
  ⟨121,[(450661264077055929053037,(Val.top 167)),(495873782885,(Val.top 168)),(521330740336550618428517,(Val.top 170)),(6386275,(Val.top 171)),(426952976750,(Val.top 191)),(422608071022,(Val.top 172)),(6647396,(Val.top 173)),(1936292453,(Val.top 174)),(1925483444799026525305,(Val.top 175))],(some 177),[1919512167,1634886515,1701733491,495873782388,439855772532,104880676367988]⟩],
 [(112,146),(113,151),(114,156),(115,111),(116,164)]⟩
noncomputable def ad0 : List (Nat × Addr) := [(100,31),(101,41),(102,76),(103,48),(104,95),(105,496),(106,687),(107,100),(108,88),(109,352),(110,478),(111,427),(112,480),(113,482),(114,484),(115,486),(116,488),(117,69),(118,528),(119,55),(120,497),(121,654),(123,673),(124,680),(125,668),(126,715),(127,722),(128,701),(129,708),(130,694),(131,114),(132,107),(133,663),(134,62),(142,128),(143,135),(144,142),(145,149),(146,187),(147,205),(148,212),(149,219),(150,226),(151,264),(152,282),(153,289),(154,296),(155,303),(156,341),(157,368),(158,375),(159,382),(160,389),(161,445),(162,452),(163,459),(164,469),(165,518),(166,511),(167,553),(168,560),(169,565),(170,572),(171,579),(172,594),(173,602),(174,609),(175,623),(176,644),(177,546),(178,736),(187,637),(190,729),(191,586),(202,156),(203,163),(204,177),(205,233),(206,240),(207,254),(208,310),(209,317),(210,331),(211,396),(212,403),(213,417),(214,525),(215,651),(237,83),(240,184),(241,261),(242,338),(243,424)]
noncomputable def nm0 : List PySem.Str := [PySem.Str.mk (Array.mk [95,99,111,117,110,116]),PySem.Str.mk (Array.mk [95,110,101,101,100,95,114,111,111,109]),PySem.Str.mk (Array.mk [97,114,99]),PySem.Str.mk (Array.mk [97,114,99,115]),PySem.Str.mk (Array.mk [98,101,103,105,110]),PySem.Str.mk (Array.mk [99,104,97,105,110]),PySem.Str.mk (Array.mk [101,110,100]),PySem.Str.mk (Array.mk [101,110,100,115]),PySem.Str.mk (Array.mk [102,105,114,115,116]),PySem.Str.mk (Array.mk [104,97,115,95,101,109,112,116,121]),PySem.Str.mk (Array.mk [105,115,95,101,109,112,116,121]),PySem.Str.mk (Array.mk [108,111,119,101,114]),PySem.Str.mk (Array.mk [110,97,109,101]),PySem.Str.mk (Array.mk [110,101,101,100]),PySem.Str.mk (Array.mk [110,101,101,100,95,115,116,97,116,101]),PySem.Str.mk (Array.mk [110,111,117,103,104,116]),PySem.Str.mk (Array.mk [111,110,101]),PySem.Str.mk (Array.mk [112,108,117,115]),PySem.Str.mk (Array.mk [114,105,110,103]),PySem.Str.mk (Array.mk [115,105,122,101]),PySem.Str.mk (Array.mk [115,116,97,114]),PySem.Str.mk (Array.mk [115,116,97,114,116]),PySem.Str.mk (Array.mk [115,116,97,116,101]),PySem.Str.mk (Array.mk [116,97,114,103,101,116]),PySem.Str.mk (Array.mk [116,105,109,101,115]),PySem.Str.mk (Array.mk [117,112,112,101,114]),PySem.Str.mk (Array.mk [119,101,105,103,104,116])]
noncomputable def cfg (w : World) (so : Obj) : Cfg := { prog := pw,w := w,K := (size0,so) :: KK w.params,P := P0,ad := ad0 }
section
variable (w : World) (so : Obj)
theorem t_cmp : P0.fns.map (cmpl (cfg w so) gl0) = P0.fns.map fun f => some (f.np,f.ns,f.body) := by kernel_rfl
theorem t_fn : P0.fns.all (Mi.fnB (cfg w so)) = true := by kernel_rfl
theorem t_gl : gl0.all (glB (cfg w so)) = true := by kernel_rfl
theorem t_in : P0.insts.all (instB (cfg w so)) = true := by kernel_rfl
theorem t_cl : P0.cls.all (clB (cfg w so) nm0) = true := by kernel_rfl
theorem t_cf : zda (cfg w so) := cfg_of (by kernel_rfl) (by kernel_rfl) (by kernel_rfl)
noncomputable def fd_Machine_begin : FuncData := fnOf n152 n173 (fnB 36 7).1 (fnB 36 7).2.1 (fnB 36 7).2.2 (.ref 587) Value.none Value.none (Value.str n132 823) Option.none (.ref 593) Value.none
theorem zbV (S : Setting) (v0 : Value) (v1 : Value) : peek (cfg w so).K S (bindArgs fd_Machine_begin ⟨[v0,v1],[]⟩) = some ((fd_Machine_begin.params.args.map (·.arg)).zip [v0,v1,(.ref 497)]) := by kernel_rfl
theorem zbU (S : Setting) (v0 : Value) (v1 : Value) (v2 : Value) : peek (cfg w so).K S (bindArgs fd_Machine_begin ⟨[v0,v1,v2],[]⟩) = some ((fd_Machine_begin.params.args.map (·.arg)).zip [v0,v1,v2]) := by kernel_rfl
theorem zb6 (S : Setting) : ∀ (vs : List Value),vs.length <= 3 -> 3 - vs.length <= 1 -> peek (cfg w so).K S (bindArgs fd_Machine_begin ⟨vs,[]⟩) = some ((fd_Machine_begin.params.args.map (·.arg)).zip (vs ++ List.drop (1 - (3 - vs.length)) [(.ref 497)])) := fun vs h1 h2 => match vs,h1,h2 with
 | [],_,h2 => absurd h2 (show ¬ 3 - 0 <= 1 by decide)
 | [_],_,h2 => absurd h2 (show ¬ 3 - 1 <= 1 by decide)
 | [v0,v1],_,_ => zbV w so S v0 v1
 | [v0,v1,v2],_,_ => zbU w so S v0 v1 v2
 | _ :: _ :: _ :: _ :: r,h1,_ => absurd h1 (show ¬ r.length + 4 <= 3 by omega)
theorem d_Machine_begin : DflOk (cfg w so) fn_Machine_begin := fun h p e => by
 rw [show fdAt (cfg w so) fn_Machine_begin = some ⟨594,o374 w.params,fd_Machine_begin⟩ from by kernel_rfl] at e
 cases e
 exact .inr ⟨h,[(.ref 497)],fun w' => zc6 (relB_s 5) w' _ _ (by kernel_rfl),fun S vs h1 h2 => zb6 w so S vs h1 h2⟩
noncomputable def fd_Machine_end : FuncData := fnOf n153 n174 (fnB 36 8).1 (fnB 36 8).2.1 (fnB 36 8).2.2 (.ref 595) Value.none Value.none (Value.str n132 823) Option.none (.ref 601) Value.none
theorem zcn (S : Setting) (v0 : Value) (v1 : Value) : peek (cfg w so).K S (bindArgs fd_Machine_end ⟨[v0,v1],[]⟩) = some ((fd_Machine_end.params.args.map (·.arg)).zip [v0,v1,(.ref 497)]) := by kernel_rfl
theorem zcm (S : Setting) (v0 : Value) (v1 : Value) (v2 : Value) : peek (cfg w so).K S (bindArgs fd_Machine_end ⟨[v0,v1,v2],[]⟩) = some ((fd_Machine_end.params.args.map (·.arg)).zip [v0,v1,v2]) := by kernel_rfl
theorem zcQ (S : Setting) : ∀ (vs : List Value),vs.length <= 3 -> 3 - vs.length <= 1 -> peek (cfg w so).K S (bindArgs fd_Machine_end ⟨vs,[]⟩) = some ((fd_Machine_end.params.args.map (·.arg)).zip (vs ++ List.drop (1 - (3 - vs.length)) [(.ref 497)])) := fun vs h1 h2 => match vs,h1,h2 with
 | [],_,h2 => absurd h2 (show ¬ 3 - 0 <= 1 by decide)
 | [_],_,h2 => absurd h2 (show ¬ 3 - 1 <= 1 by decide)
 | [v0,v1],_,_ => zcn w so S v0 v1
 | [v0,v1,v2],_,_ => zcm w so S v0 v1 v2
 | _ :: _ :: _ :: _ :: r,h1,_ => absurd h1 (show ¬ r.length + 4 <= 3 by omega)
theorem d_Machine_end : DflOk (cfg w so) fn_Machine_end := fun h p e => by
 rw [show fdAt (cfg w so) fn_Machine_end = some ⟨602,o378 w.params,fd_Machine_end⟩ from by kernel_rfl] at e
 cases e
 exact .inr ⟨h,[(.ref 497)],fun w' => zc6 (relB_s 5) w' _ _ (by kernel_rfl),fun S vs h1 h2 => zcQ w so S vs h1 h2⟩
noncomputable def AllD : List Fn -> Prop
 | [] => True
 | f :: r => DflOk (cfg w so) f /\ AllD r
theorem AllD.at : ∀ {l : List Fn},AllD w so l -> ∀ f ∈ l,DflOk (cfg w so) f := by
 intro l
 induction l with
 | nil => exact fun _ _ h => absurd h List.not_mem_nil
 | cons f l ih => exact fun h g hg => (List.mem_cons.mp hg).elim (fun e => e ▸ h.1) fun hg => ih h.2 g hg
theorem t_df : ∀ f ∈ P0.fns,DflOk (cfg w so) f := AllD.at w so (show AllD w so P0.fns from ⟨(fun h => absurd rfl h),⟨(fun h => absurd rfl h),⟨(fun h => absurd rfl h),⟨(fun h => absurd rfl h),⟨(fun h => absurd rfl h),⟨(fun h => absurd rfl h),⟨(fun h => absurd rfl h),⟨(fun h => absurd rfl h),⟨(fun h => absurd rfl h),⟨(fun h => absurd rfl h),⟨(fun h => absurd rfl h),⟨(fun h => absurd rfl h),⟨(fun h => absurd rfl h),⟨(fun h => absurd rfl h),⟨(fun h => absurd rfl h),⟨(fun h => absurd rfl h),⟨(fun h => absurd rfl h),⟨(fun h => absurd rfl h),⟨(fun h => absurd rfl h),⟨(fun h => absurd rfl h),⟨(fun h => absurd rfl h),⟨(fun h => absurd rfl h),⟨(fun h => absurd rfl h),⟨(fun h => absurd rfl h),⟨(fun h => absurd rfl h),⟨(fun h => absurd rfl h),⟨(fun h => absurd rfl h),⟨(fun h => absurd rfl h),⟨(fun h => absurd rfl h),⟨(fun h => absurd rfl h),⟨(fun h => absurd rfl h),⟨(fun h => absurd rfl h),⟨(fun h => absurd rfl h),⟨(fun h => absurd rfl h),⟨(fun h => absurd rfl h),⟨(fun h => absurd rfl h),⟨(fun h => absurd rfl h),⟨(fun h => absurd rfl h),⟨(fun h => absurd rfl h),⟨(fun h => absurd rfl h),⟨d_Machine_begin w so,⟨d_Machine_end w so,⟨(fun h => absurd rfl h),⟨(fun h => absurd rfl h),⟨(fun h => absurd rfl h),⟨(fun h => absurd rfl h),⟨(fun h => absurd rfl h),⟨(fun h => absurd rfl h),⟨(fun h => absurd rfl h),⟨(fun h => absurd rfl h),⟨(fun h => absurd rfl h),⟨(fun h => absurd rfl h),⟨(fun h => absurd rfl h),⟨(fun h => absurd rfl h),⟨(fun h => absurd rfl h),⟨(fun h => absurd rfl h),trivial⟩⟩⟩⟩⟩⟩⟩⟩⟩⟩⟩⟩⟩⟩⟩⟩⟩⟩⟩⟩⟩⟩⟩⟩⟩⟩⟩⟩⟩⟩⟩⟩⟩⟩⟩⟩⟩⟩⟩⟩⟩⟩⟩⟩⟩⟩⟩⟩⟩⟩⟩⟩⟩⟩⟩⟩)
theorem tab : zaP (cfg w so) gl0 := tab_of (t_cmp w so) (t_fn w so) (t_df w so) (t_gl w so) (t_in w so) (t_cl w so) (t_cf w so) (srt0 _)
end
noncomputable abbrev lawAt : Nat := 178
noncomputable abbrev lawAd : Addr := 736
theorem law_nm (w : World) : nsIn (KK w.params) mainGlobals (PySem.Str.mk (Array.mk [108,97,119])) = some (some (.ref 736)) := by kernel_rfl
end Hd
open Mi
local macro_rules | `(tactic| fail) => do
 let a := #[`we_lit,`we_sub,`we_attr,`we_call,`we_meth,`wes_cons,`wes_nil,`we_bin,`we_cmp,`we_not,`we_tup,`we_list,`we_and,`we_or,`we_bop1,`we_ite,`we_slice,`zcz,`br_t,`br_f,`wb_add,`wb_sub,`wc_lt,`wc_le,`wc_gt,`wc_ge,`wv_range,`wv_lens,`wc_eqs,`wc_nes,`wc_eqi,`wc_nei,`wc_ins,`wc_nins,`br_not,`wv_max,`wv_min,`ws_expr,`ws_asg,`ws_asgAt,`ws_asgSb,`ws_asgs,`items_t,`wst_nm,`wst_nil,`ws_ret,`ws_ite,`ws_pass,`ws_brk,`ws_cont,`zcB,`zch,`beh_rt,`beh_ct,`beh_bk,`fin_rt,`fin_nx,`turn_nx,`turn_ct,`turn_rt,`turn_bk,`zcA,`wts_nil,`wts_cons].map Lean.mkIdent
 let b := #[`we_var,`wi_at,`wv_type,`wc_isT,`wc_isF,`wc_isnT,`wc_isnF].map Lean.mkIdent
 `(tactic| with_reducible first
 | first $[| refine $b (by with_unfolding_all exact rfl) ?_]*
 | refine we_dict (by decide) ?_
 | first $[| refine $a ?_]*)
namespace Hd
open Mi
noncomputable abbrev nPlus : Nat := 1886156147
noncomputable abbrev nTimes : Nat := 499984983411
noncomputable abbrev nNought : Nat := 121424990136436
noncomputable abbrev nOne : Nat := 7302757
noncomputable abbrev nStar : Nat := 1937006962
noncomputable abbrev nNeed : Nat := 1852138852
end Hd
namespace Hd
open Mi
section
variable {d : Nat} {h h0 : MH} {Q : Val -> MH -> Prop}
noncomputable def frV (n m : Nat) : Val := .tup [.int (n / Nat.gcd n m : Nat),.int (m / Nat.gcd n m : Nat)]
theorem half_mod {b r : Nat} (hr : 0 < r) (h : r <= b) : 2 * (b % r) < b := by
 have h1 := Nat.mod_lt b hr
 have h2 := Nat.div_add_mod b r
 have h3 : 1 <= b / r := (Nat.one_le_div_iff hr).mpr h
 have h4 : r <= r * (b / r) := Nat.le_mul_of_pos_right _ h3
 omega
noncomputable def gB : Nat := 2 ^ 90000
theorem gB_ex : ∃ J,gB = 2 ^ J /\ 2 * J + 1 <= 190000 := ⟨90000,rfl,by decide⟩
theorem gcd_ok {a b : Nat} (hd : 1 <= d) (hb : b < gB) (q : Q (.int (Nat.gcd b a : Nat)) h) : WF P0 d 109 [.int a,.int b] h Q := by
 obtain ⟨J,eJ,hJ⟩ := gB_ex
 rw [eJ] at hb
 refine zar (K:=0) hd (some (.int a) :: some (.int b) :: nn 6) rfl rfl rfl fun d' _ => ?_
 unfold bd_rings__gcd
 fail
 refine ws_wh (k:=2 * J + 1) (fun k fr hh => hh = h /\ ∃ x y : Nat,Nat.gcd y x = Nat.gcd b a /\ fr = some (.int x) :: some (.int y) :: nn 6 /\ ∃ j,(y < 2 ^ j /\ 2 * j <= k) \/ (y < x /\ x < 2 ^ j /\ 2 * j <= k + 1)) (Nat.lt_of_le_of_lt hJ (by show 190000 < 200000; decide)) ⟨rfl,a,b,rfl,rfl,J,.inl ⟨hb,by omega⟩⟩ ?_
 rintro k fr hh ⟨rfl,x,y,hg,rfl,j,hj⟩
 repeat fail
 refine br (fun hr => ?_) (fun hr => ?_)
 ·have hy0 : 0 < y := Int.ofNat_lt.mp (of_decide_eq_true hr)
  repeat fail
  refine wb_mod (by omega) ?_
  repeat fail
  rw [<- Int.ofNat_fmod]
  have hm := Nat.mod_lt x hy0
  have hg' : Nat.gcd (x % y) y = Nat.gcd b a := by rw [<- Nat.gcd_rec]; exact hg
  rcases hj with ⟨h1,h2⟩ | ⟨h1,h2,h3⟩
  ·have hk : 0 < k := Nat.pos_of_ne_zero fun e => by
    rw [show j = 0 by omega] at h1; omega
   exact ⟨k - 1,by omega,rfl,y,x % y,hg',rfl,j,.inr ⟨hm,h1,by omega⟩⟩
  ·obtain ⟨j,rfl⟩ : ∃ i,j = i + 1 := ⟨j - 1,by
    have : j ≠ 0 := fun e => by rw [e] at h2; omega
    omega⟩
   rw [Nat.pow_succ] at h2
   have := half_mod hy0 (Nat.le_of_lt h1)
   exact ⟨k - 1,by omega,rfl,y,x % y,hg',rfl,j,.inl ⟨by omega,by omega⟩⟩
 ·have hy0 : y = 0 := by have := of_decide_eq_false hr; omega
  subst hy0
  rw [Nat.gcd_zero_left] at hg
  subst hg
  repeat fail
  exact q
theorem frac_ok {n m : Nat} (hd : 2 <= d) (hn : n < gB) (hm : 0 < m) (hl : m < divB) (q : Q (frV n m) h) : WF P0 d 110 [.int n,.int m] h Q := by
 refine zar (K:=1) hd (some (.int n) :: some (.int m) :: nn 7) rfl rfl rfl fun d' h' => ?_
 unfold bd_rings_fraction
 repeat fail
 refine zaC rfl (gcd_ok h' hn ?_)
 have g0 : Nat.gcd n m ≠ 0 := Nat.pos_iff_ne_zero.mp (Nat.gcd_pos_of_pos_right _ hm)
 have gl : Nat.gcd n m < divB := Nat.lt_of_le_of_lt (Nat.gcd_le_right _ hm) hl
 repeat fail
 refine wb_fdiv (fun e => g0 (Int.ofNat_eq_zero.mp e)) gl ?_
 repeat fail
 refine wb_fdiv (fun e => g0 (Int.ofNat_eq_zero.mp e)) gl ?_
 rw [<- Int.ofNat_fdiv,<- Int.ofNat_fdiv]
 repeat fail
 exact q
theorem iv {x : Val} {i : Int} (e : x.int? = some i) : x = .int i := by
 cases x <;> first | exact nos e | (cases e; rfl)
theorem tv {x : Val} {i : List Val} (e : x.tup? = some i) : x = .tup i := by
 cases x <;> first | exact nos e | (cases e; rfl)
theorem nv {x : Val} (e : x.isNone = true) : x = .none := by
 cases x <;> first | rfl | cases e
theorem a2_s {α : Type} {vs : List Val} {f : Val -> Val -> Option α} {r : α} (e : a2 vs f = some r) : ∃ x y,vs = [x,y] /\ f x y = some r := by
 obtain _ | ⟨x,_ | ⟨y,_ | ⟨z,l⟩⟩⟩ := vs
 ·exact nos e
 ·exact nos e
 ·exact ⟨x,y,rfl,e⟩
 ·exact nos e
noncomputable def wB : Nat := 2 ^ 3900
theorem wB_sq : wB * wB < divB /\ divB + divB <= gB := by decide +kernel
theorem wB_big : wB <= bigB := by decide +kernel
noncomputable def nat? (v : Val) : Option Nat := v.int?.bind fun a => grd (decide (0 <= a) && Nat.ble (a.toNat + 1) wB) (some a.toNat)
theorem nat?_s {v : Val} {n : Nat} (e : nat? v = some n) : v = .int n /\ n < wB := by
 obtain ⟨a,e1,e⟩ := bs e
 obtain ⟨hb,e⟩ := gs e
 cases e
 have hb := Bool.and_eq_true_iff.mp hb
 exact ⟨by rw [iv e1,Int.toNat_of_nonneg (of_decide_eq_true hb.1)],Nat.ble_eq.mp hb.2⟩
noncomputable def fr? (v : Val) : Option (Nat × Nat) := v.tup?.bind fun vs => a2 vs fun x y => (nat? x).bind fun a => (nat? y).bind fun b => grd (Nat.ble 1 b) (some (a,b))
structure IsFr (v : Val) (p : Nat × Nat) : Prop where
 e : v = .tup [.int p.1,.int p.2]
 n : p.1 < wB
 d : p.2 < wB
 pos : 0 < p.2
theorem fr?_s {v : Val} {p : Nat × Nat} (e : fr? v = some p) : IsFr v p := by
 obtain ⟨vs,e1,e⟩ := bs e
 obtain ⟨x,y,rfl,e⟩ := a2_s e
 obtain ⟨a,ea,e⟩ := bs e
 obtain ⟨b,eb,e⟩ := bs e
 obtain ⟨hb,e⟩ := gs e
 cases e
 obtain ⟨rfl,h1⟩ := nat?_s ea
 obtain ⟨rfl,h2⟩ := nat?_s eb
 exact ⟨tv e1,h1,h2,Nat.ble_eq.mp hb⟩
noncomputable def onF (f : Nat -> Nat -> Nat -> Nat -> Val) (x y : Val) : Option Val := (fr? x).bind fun p => (fr? y).map fun q => f p.1 p.2 q.1 q.2
noncomputable def onI (f : Int -> Int -> Int) (x y : Val) : Option Val := x.int?.bind fun a => y.int?.map fun b => .int (f a b)
noncomputable def onN (f : Nat -> Nat -> Nat) (x y : Val) : Option Val := (nat? x).bind fun a => (nat? y).map fun b => .int (f a b : Nat)
noncomputable def pl1 (x y : Val) : Option Val := bif x.isNone then some y else x.int?.bind fun a => bif y.isNone then some x else y.int?.map fun b => .int (if b < a then b else a)
noncomputable def ti1 (x y : Val) : Option Val := bif x.isNone then some .none else x.int?.bind fun a => bif y.isNone then some .none else y.int?.map fun b => .int (a + b)
noncomputable def pl3 (a b c d : Nat) : Val := frV (a * d + c * b) (b * d)
noncomputable def ti3 (a b c d : Nat) : Val := frV (a * c) (b * d)
noncomputable def pl4 (a b c d : Nat) : Val := if a * d < c * b then .tup [.int c,.int d] else .tup [.int a,.int b]
noncomputable def five {α : Type} (a b c d e : α) (i : Nat) : α := bif i == 0 then a else bif i == 1 then b else bif i == 2 then c else bif i == 3 then d else e
noncomputable def plF (i : Nat) : Val -> Val -> Option Val := five (onI fun a b => if b > a then b else a) pl1 (onI (· + ·)) (onF pl3) (onF pl4) i
noncomputable def tiF (i : Nat) : Val -> Val -> Option Val := five (onI fun a b => if b < a then b else a) ti1 (onN (· * ·)) (onF ti3) (onF ti3) i
theorem cases5 {C : Nat -> Prop} (i : Nat) (hi : i < 5) (c0 : C 0) (c1 : C 1) (c2 : C 2) (c3 : C 3) (c4 : C 4) : C i := by
 rcases i with _ | _ | _ | _ | _ | i
 ·exact c0
 ·exact c1
 ·exact c2
 ·exact c3
 ·exact c4
 ·omega
theorem mulB {a b : Nat} (ha : a < wB) (hb : b < wB) : mulOk (.ofNat a) (.ofNat b) = true := by
 unfold mulOk
 rw [Bool.and_eq_true]
 exact ⟨Nat.ble_eq.mpr (Nat.le_trans ha wB_big),Nat.ble_eq.mpr (Nat.le_trans hb wB_big)⟩
theorem mulLt {a b : Nat} (ha : a < wB) (hb : b < wB) : a * b < divB := Nat.lt_of_lt_of_le (Nat.mul_lt_mul'' ha hb) (Nat.le_of_lt wB_sq.1)
theorem zbb {K f : Nat} {as : List Val} {z : Val} (hd : K + 1 <= d) (e : ∀ d',zaG P0 200000 (d' + K + 1) f as h = some (z,h)) (q : Q z h) : WF P0 d f as h Q := by
 obtain ⟨d',rfl⟩ := Nat.exists_eq_add_of_le' hd
 exact W.of (e d') q
theorem pl_call {x y z : Val} (r : Val) (hd : 3 <= d) (e : onF pl3 x y = some z) (q : Q z h) : WF P0 d 158 [r,x,y] h Q := by
 obtain ⟨⟨a,b⟩,ea,e⟩ := bs e
 obtain ⟨⟨c,e'⟩,eb,rfl⟩ := ms e
 obtain ⟨rfl,a1,a2,a3⟩ := fr?_s ea
 obtain ⟨rfl,b1,b2,b3⟩ := fr?_s eb
 refine zar (K:=2) hd (some r :: some (.tup [.int a,.int b]) :: some (.tup [.int c,.int e']) :: nn 6) rfl rfl rfl fun d' h' => ?_
 unfold bd_Chance_plus
 repeat fail
 refine zbL (mulB a1 b2) ?_
 repeat fail
 refine zbL (mulB b1 a2) ?_
 repeat fail
 refine zbL (mulB a2 b2) ?_
 repeat fail
 have m1 : a * e' < divB := mulLt a1 b2
 have m2 : c * b < divB := mulLt b1 a2
 refine zaC rfl (frac_ok (n:=a * e' + c * b) (m:=b * e') h' (by have := wB_sq.2; omega) (Nat.mul_pos a3 b3) (mulLt a2 b2) ?_)
 repeat fail
 exact q
theorem ti_call {x y z : Val} (r : Val) (hd : 3 <= d) (e : onF ti3 x y = some z) (q : Q z h) : WF P0 d 159 [r,x,y] h Q := by
 obtain ⟨⟨a,b⟩,ea,e⟩ := bs e
 obtain ⟨⟨c,e'⟩,eb,rfl⟩ := ms e
 obtain ⟨rfl,a1,a2,a3⟩ := fr?_s ea
 obtain ⟨rfl,b1,b2,b3⟩ := fr?_s eb
 refine zar (K:=2) hd (some r :: some (.tup [.int a,.int b]) :: some (.tup [.int c,.int e']) :: nn 6) rfl rfl rfl fun d' h' => ?_
 unfold bd_Chance_times
 repeat fail
 refine zbL (mulB a1 b1) ?_
 repeat fail
 refine zbL (mulB a2 b2) ?_
 repeat fail
 have m1 : a * c < divB := mulLt a1 b1
 refine zaC rfl (frac_ok (n:=a * c) (m:=b * e') h' (by have := wB_sq.2; omega) (Nat.mul_pos a3 b3) (mulLt a2 b2) ?_)
 repeat fail
 exact q
theorem pl1_ok {x y z : Val} {s : Val} (hd : 1 <= d) (e : pl1 x y = some z) (q : Q z h) : WF P0 d 148 [s,x,y] h Q := by
 unfold pl1 at e
 cases hx : x.isNone with
 | true =>
  rw [hx] at e; cases e; cases nv hx
  exact zbb (K:=0) hd (fun _ => rfl) q
 | false =>
  rw [hx] at e
  obtain ⟨a,ea,e⟩ := bs e
  cases iv ea
  cases hy : y.isNone with
  | true =>
   rw [hy] at e; cases e; cases nv hy
   exact zbb (K:=0) hd (fun _ => rfl) q
  | false =>
   rw [hy] at e
   obtain ⟨b,eb,rfl⟩ := ms e
   cases iv eb
   exact zbb (K:=0) hd (fun _ => rfl) q
theorem ti1_ok {x y z : Val} {s : Val} (hd : 1 <= d) (e : ti1 x y = some z) (q : Q z h) : WF P0 d 149 [s,x,y] h Q := by
 unfold ti1 at e
 cases hx : x.isNone with
 | true =>
  rw [hx] at e; cases e; cases nv hx
  exact zbb (K:=0) hd (fun _ => rfl) q
 | false =>
  rw [hx] at e
  obtain ⟨a,ea,e⟩ := bs e
  cases iv ea
  cases hy : y.isNone with
  | true =>
   rw [hy] at e; cases e; cases nv hy
   exact zbb (K:=0) hd (fun _ => rfl) q
  | false =>
   rw [hy] at e
   obtain ⟨b,eb,rfl⟩ := ms e
   cases iv eb
   exact zbb (K:=0) hd (fun _ => rfl) q
theorem pl4_ok {x y z : Val} {s : Val} (hd : 1 <= d) (e : onF pl4 x y = some z) (q : Q z h) : WF P0 d 162 [s,x,y] h Q := by
 obtain ⟨⟨a,b⟩,ea,e⟩ := bs e
 obtain ⟨⟨c,e'⟩,eb,rfl⟩ := ms e
 obtain ⟨rfl,a1,a2,a3⟩ := fr?_s ea
 obtain ⟨rfl,b1,b2,b3⟩ := fr?_s eb
 refine zar (K:=0) hd (some s :: some (.tup [.int a,.int b]) :: some (.tup [.int c,.int e']) :: nn 6) rfl rfl rfl fun d' h' => ?_
 unfold bd_Likely_plus
 repeat fail
 refine zbL (mulB a1 b2) ?_
 repeat fail
 refine zbL (mulB b1 a2) ?_
 repeat fail
 unfold pl4 at q
 refine br (fun hr => ?_) (fun hr => ?_)
 ·rw [if_pos (Int.ofNat_lt.mp (of_decide_eq_true hr))] at q
  repeat fail
  exact q
 ·rw [if_neg fun h => of_decide_eq_false hr (Int.ofNat_lt.mpr h)] at q
  repeat fail
  exact q
theorem pl_ok {i : Nat} {x y z : Val} (hi : i < 5) (hd : 3 <= d) (e : plF i x y = some z) (q : Q z h) : WM (Cxd P0 d) (.top (112 + i)) nPlus [x,y] h0 h Q := by
 revert e
 refine cases5 (C:=fun i => plF i x y = some z -> WM (Cxd P0 d) (.top (112 + i)) nPlus [x,y] h0 h Q) i hi (fun e => ?_) (fun e => ?_) (fun e => ?_) (fun e => ?_) (fun e => ?_)
 ·obtain ⟨a,ea,e⟩ := bs (show onI _ x y = some z from e)
  obtain ⟨b,eb,rfl⟩ := ms e
  cases iv ea; cases iv eb
  exact zaf (f:=143) (self:=[.top 112]) rfl (zbb (K:=0) (by omega) (fun _ => rfl) q)
 ·exact zaf (f:=148) (self:=[.top 113]) rfl (pl1_ok (by omega) e q)
 ·obtain ⟨a,ea,e⟩ := bs (show onI _ x y = some z from e)
  obtain ⟨b,eb,rfl⟩ := ms e
  cases iv ea; cases iv eb
  exact zaf (f:=153) (self:=[.top 114]) rfl (zbb (K:=0) (by omega) (fun _ => rfl) q)
 ·exact zaf (f:=158) (self:=[.top 115]) rfl (pl_call _ hd e q)
 ·exact zaf (f:=162) (self:=[.top 116]) rfl (pl4_ok (by omega) e q)
theorem ti_ok {i : Nat} {x y z : Val} (hi : i < 5) (hd : 3 <= d) (e : tiF i x y = some z) (q : Q z h) : WM (Cxd P0 d) (.top (112 + i)) nTimes [x,y] h0 h Q := by
 revert e
 refine cases5 (C:=fun i => tiF i x y = some z -> WM (Cxd P0 d) (.top (112 + i)) nTimes [x,y] h0 h Q) i hi (fun e => ?_) (fun e => ?_) (fun e => ?_) (fun e => ?_) (fun e => ?_)
 ·obtain ⟨a,ea,e⟩ := bs (show onI _ x y = some z from e)
  obtain ⟨b,eb,rfl⟩ := ms e
  cases iv ea; cases iv eb
  exact zaf (f:=144) (self:=[.top 112]) rfl (zbb (K:=0) (by omega) (fun _ => rfl) q)
 ·exact zaf (f:=149) (self:=[.top 113]) rfl (ti1_ok (by omega) e q)
 ·obtain ⟨a,ea,e⟩ := bs (show onN _ x y = some z from e)
  obtain ⟨b,eb,rfl⟩ := ms e
  obtain ⟨rfl,h1⟩ := nat?_s ea
  obtain ⟨rfl,h2⟩ := nat?_s eb
  refine zaf (f:=154) (self:=[.top 114]) rfl (zar (K:=0) (by omega) (some (.top 114) :: some (.int a) :: some (.int b) :: nn 6) rfl rfl rfl fun d' _ => ?_)
  unfold bd_Count_times
  repeat fail
  refine zbL (mulB h1 h2) ?_
  repeat fail
  exact q
 ·exact zaf (f:=159) (self:=[.top 115]) rfl (ti_call _ hd e q)
 ·exact zaf (f:=159) (self:=[.top 116]) rfl (ti_call _ hd e q)
noncomputable def noF (i : Nat) : Val := five (.int 0) .none (.int 0) (.tup [.int 0,.int 1]) (.tup [.int 0,.int 1]) i
noncomputable def onV (i : Nat) : Val := five (.int 1) (.int 0) (.int 1) (.tup [.int 1,.int 1]) (.tup [.int 1,.int 1]) i
theorem no_ok {i : Nat} (hi : i < 5) (q : Q (noF i) h) : WA P0 (.top (112 + i)) nNought h Q :=
 wa_top (cases5 (C:=fun i => ((P0.instAt (112 + i)).bind fun c => zc3 P0 c nNought) = some (noF i)) i hi rfl rfl rfl rfl rfl) q
theorem on_ok {i : Nat} (hi : i < 5) (q : Q (onV i) h) : WA P0 (.top (112 + i)) nOne h Q :=
 wa_top (cases5 (C:=fun i => ((P0.instAt (112 + i)).bind fun c => zc3 P0 c nOne) = some (onV i)) i hi rfl rfl rfl rfl rfl) q
end
end Hd
namespace Hd
open Mi
structure Rg where
 i : Nat
 hi : i < 5
 α : Type
 deq : DecidableEq α
 e : α -> Val
 zero : α
 one : α
 add : α -> α -> α
 mul : α -> α -> α
 D : Nat -> Nat -> α -> Prop
 add_comm : ∀ a b,add a b = add b a
 add_assoc : ∀ a b c,add (add a b) c = add a (add b c)
 zero_add : ∀ a,add zero a = a
 mul_comm : ∀ a b,mul a b = mul b a
 mul_assoc : ∀ a b c,mul (mul a b) c = mul a (mul b c)
 one_mul : ∀ a,mul one a = a
 zero_mul : ∀ a,mul zero a = zero
 mul_add : ∀ a b c,mul a (add b c) = add (mul a b) (mul a c)
 noE : noF i = e zero
 onE : onV i = e one
 isv : ∀ a,isV (e a) (.top 120) = some false
 veq_ok : ∀ h a b,veq h (e a) (e b) = some (decide (a = b))
 D_mono : ∀ {p q k l a},p <= q -> k <= l -> D p k a -> D q l a
 D_zero : D 0 0 zero
 D_one : D 0 0 one
 D_add : ∀ {p k a b},D p k a -> D p k b -> D p (k + 1) (add a b)
 D_mul : ∀ {p q k l a b},D p k a -> D q l b -> D (p + q) (k + l) (mul a b)
 plus_ok : ∀ {p k a b},D p k a -> D p k b -> 4 * p + k <= 3800 -> plF i (e a) (e b) = some (e (add a b))
 times_ok : ∀ {p q k l a b},D p k a -> D q l b -> 4 * (p + q) + (k + l) <= 3800 -> tiF i (e a) (e b) = some (e (mul a b))
 need_ok : ∀ {p k a d h0 h} {Q : Val -> MH -> Prop},3 <= d -> D p k a -> 4 * p + k <= 3800 -> Q (e a) h -> WM (Cxd P0 d) (.top (112 + i)) nNeed [e a] h0 h Q
 star_ok : ∀ {d h0 h} {Q : Val -> MH -> Prop},3 <= d -> Q (e one) h -> WM (Cxd P0 d) (.top (112 + i)) nStar [e zero] h0 h Q
section
variable {d : Nat} {h h0 : MH} {Q : Val -> MH -> Prop} (R : Rg)
theorem Rg.plus {p k : Nat} {a b : R.α} (hd : 3 <= d) (ha : R.D p k a) (hb : R.D p k b) (hl : 4 * p + k <= 3800) (q : Q (R.e (R.add a b)) h) : WM (Cxd P0 d) (.top (112 + R.i)) nPlus [R.e a,R.e b] h0 h Q := pl_ok R.hi hd (R.plus_ok ha hb hl) q
theorem Rg.times {p p' k l : Nat} {a b : R.α} (hd : 3 <= d) (ha : R.D p k a) (hb : R.D p' l b) (hl : 4 * (p + p') + (k + l) <= 3800) (q : Q (R.e (R.mul a b)) h) : WM (Cxd P0 d) (.top (112 + R.i)) nTimes [R.e a,R.e b] h0 h Q := ti_ok R.hi hd (R.times_ok ha hb hl) q
theorem Rg.nought (q : Q (R.e R.zero) h) : WA P0 (.top (112 + R.i)) nNought h Q := no_ok R.hi (R.noE ▸ q)
theorem Rg.oneW (q : Q (R.e R.one) h) : WA P0 (.top (112 + R.i)) nOne h Q := on_ok R.hi (R.onE ▸ q)
theorem Rg.eq {a b : R.α} (q : Q (.bool (@decide (a = b) (R.deq a b))) h) : WC .eq (R.e a) (R.e b) h Q := wc_eq (R.veq_ok h a b) q
theorem Rg.ne {a b : R.α} (q : Q (.bool (!@decide (a = b) (R.deq a b))) h) : WC .ne (R.e a) (R.e b) h Q := wc_ne (R.veq_ok h a b) q
end
theorem dT {p : Prop} {i : Decidable p} (h : @decide p i = true) : p := @of_decide_eq_true p i h
theorem dF {p : Prop} {i : Decidable p} (h : @decide p i = false) : ¬ p := @of_decide_eq_false p i h
theorem lt_wB {k n : Nat} (hk : k <= 3800) (hn : n <= 2 ^ k) : n < wB := Nat.lt_of_le_of_lt hn (Nat.pow_lt_pow_right (by decide) (by omega))
theorem nat?_of {n : Nat} (hn : n < wB) : nat? (.int n) = some n := by
 show grd _ _ = _
 rw [grd_t (by rw [Bool.and_eq_true]; exact ⟨decide_eq_true (by omega),Nat.ble_eq.mpr hn⟩),Int.toNat_natCast]
noncomputable def great : Nat := 10 ^ 4000
theorem wB_great : wB <= great := by decide +kernel
theorem cneed_ok {d n : Nat} {h : MH} {Q : Val -> MH -> Prop} {s : Val} (hd : 1 <= d) (hn : n < wB) (q : Q (.int n) h) : WF P0 d 152 [s,.int n] h Q := by
 refine zar (K:=0) hd (some s :: some (.int n) :: nn 6) rfl rfl rfl fun d' h' => ?_
 unfold bd_Count_need
 repeat fail
 refine za0 (decide_eq_false (by omega)) ?_
 repeat fail
 refine za0 (decide_eq_false ?_) ?_
 ·intro hg
  exact absurd (Int.ofNat_le.mp (show ((great : Nat) : Int) <= (n : Int) from hg)) (by have := wB_great; omega)
 repeat fail
 exact q
noncomputable def RCount : Rg where
 i := 2
 hi := by decide
 α := Nat
 deq := inferInstance
 e := fun n => .int n
 zero := 0
 one := 1
 add := (· + ·)
 mul := (· * ·)
 D := fun p k n => n <= 2 ^ k
 add_comm := Nat.add_comm
 add_assoc := Nat.add_assoc
 zero_add := Nat.zero_add
 mul_comm := Nat.mul_comm
 mul_assoc := Nat.mul_assoc
 one_mul := Nat.one_mul
 zero_mul := Nat.zero_mul
 mul_add := Nat.mul_add
 noE := rfl
 onE := rfl
 isv := fun _ => rfl
 veq_ok := fun h a b => veq_int.trans (congrArg some (by
  by_cases hab : a = b
  ·subst hab; simp
  ·rw [decide_eq_false hab,beq_false_of_ne]; omega))
 D_mono := fun _ hk ha => Nat.le_trans ha (Nat.pow_le_pow_right (by decide) hk)
 D_zero := by decide
 D_one := by decide
 D_add := fun ha hb => by rw [Nat.pow_succ]; omega
 D_mul := fun ha hb => by rw [Nat.pow_add]; exact Nat.mul_le_mul ha hb
 plus_ok := fun _ _ _ => rfl
 times_ok := fun {p q k l a b} ha hb hl => by
  show onN (· * ·) (.int a) (.int b) = _
  unfold onN
  rw [nat?_of (lt_wB (k:=k) (by omega) ha),nat?_of (lt_wB (k:=l) (by omega) hb)]; rfl
 need_ok := fun {p k a d h0 h Q} hd ha hl q => zaf (f:=152) (self:=[.top 114]) rfl (cneed_ok (by omega) (lt_wB (k:=k) (by omega) ha) q)
 star_ok := fun {d h0 h Q} hd q => zaf (f:=155) (self:=[.top 114]) rfl (zbb (K:=0) (by omega) (fun _ => rfl) q)
end Hd
namespace Hd
open Mi
section
variable {d : Nat} {h h0 : MH} {Q : Val -> MH -> Prop}
noncomputable def marks : List Nat := [32,9,10,58,47,95,91,93,62,35,59,63,61]
noncomputable def lett (c : Nat) : Bool := !marks.contains c && !PySem.Txt.isspace ⟨#[c]⟩
theorem let_ok {c : Nat} (hd : 1 <= d) (hc : lett c = true) (q : Q (.bool true) h) : WF P0 d 101 [.str [c]] h Q := by
 have hc := Bool.and_eq_true_iff.mp hc
 refine zar (K:=0) hd (some (.str [c]) :: nn 6) rfl rfl rfl fun d' h' => ?_
 unfold bd_errors_is_letter
 repeat fail
 refine za0 (s:=true) rfl ?_
 repeat fail
 refine br (fun hm => ?_) (fun hm => ?_)
 ·exact nomatch hc.1.symm.trans (congrArg (!·) hm)
 repeat fail
 refine W.of (a:=.bool (PySem.Txt.isspace ⟨#[c]⟩)) (g:=h) rfl ?_
 repeat fail
 rw [hc.2]
 exact q
theorem nlet_ok {c : Nat} (hd : 2 <= d) (hc : lett c = true) (q : Q (.str [c]) h) : WF P0 d 103 [.str [c]] h Q := by
 refine zar (K:=1) hd (some (.str [c]) :: nn 6) rfl rfl rfl fun d' h' => ?_
 unfold bd_errors_need_letter
 repeat fail
 refine zaC rfl (let_ok h' hc ?_)
 repeat fail
 exact q
theorem zcS {s : List Nat} (hd : 3 <= d) (hs : ∀ c ∈ s,lett c = true) (hl : s.length < 1000) (q : Q (.str s) h) : WF P0 d 134 [.str s] h Q := by
 refine zar (K:=2) hd (some (.str s) :: nn 7) rfl rfl rfl fun d' h' => ?_
 unfold bd_errors_need_word
 repeat fail
 refine ws_for ?_
 repeat fail
 refine ⟨.sq s,s.map fun c => .str [c],rfl,by rw [List.length_map]; exact Nat.lt_trans hl (by show 1000 < 200000; decide),fun _ fr hh => hh = h /\ ∃ o,fr = some (.str s) :: o :: nn 6,⟨rfl,none,rfl⟩,fun i fr hh _ => ?_,?_,?_⟩
 ·rw [List.getElem?_map]; rfl
 ·rintro i x hx fr hh ⟨rfl,o,rfl⟩
  rw [List.getElem?_map] at hx
  obtain ⟨c,hc,rfl⟩ := ms hx
  refine zbT ?_
  repeat fail
  refine zaC rfl (nlet_ok h' (hs c (List.mem_of_getElem? hc)) ?_)
  repeat fail
  exact ⟨rfl,_,rfl⟩
 ·rintro fr hh ⟨rfl,o,rfl⟩
  repeat fail
  exact q
end
end Hd
namespace Hd
open Mi
section
variable {d : Nat} {h h0 : MH} {Q : Val -> MH -> Prop}
noncomputable def lab (s : List Nat) : Prop := s = [] \/ ∃ c,s = [c] /\ lett c = true
theorem nlab_ok {s : List Nat} (hd : 3 <= d) (hs : lab s) (q : Q (.str s) h) : WF P0 d 119 [.str s] h Q := by
 refine zar (K:=2) hd (some (.str s) :: nn 6) rfl rfl rfl fun d' h' => ?_
 unfold bd_errors_need_label
 rcases hs with rfl | ⟨c,rfl,hc⟩
 ·repeat fail
  refine za0 (s:=true) rfl ?_
  repeat fail
  exact q
 ·repeat fail
  refine za0 (s:=false) rfl ?_
  repeat fail
  refine zaC rfl (nlet_ok h' hc ?_)
  repeat fail
  exact q
theorem ncnt_ok {a b c : Int} {x : Val} (hd : 1 <= d) (h1 : b <= a) (h2 : a <= c) (q : Q (.int a) h) : WF P0 d 117 [.int a,.int b,.int c,x] h Q := by
 refine zar (K:=0) hd (some (.int a) :: some (.int b) :: some (.int c) :: some x :: nn 6) rfl rfl rfl fun d' h' => ?_
 unfold bd_errors_need_count
 repeat fail
 refine za0 (decide_eq_false (Int.not_lt.mpr h1)) ?_
 repeat fail
 refine za0 (decide_eq_false (Int.not_lt.mpr h2)) ?_
 repeat fail
 exact q
theorem nsh_ok {s : List Nat} (hd : 4 <= d) (hs : ∀ c ∈ s,lett c = true) (hl : s.length <= 200) (q : Q .none h) : WF P0 d 130 [.str s] h Q := by
 refine zar (K:=3) hd (some (.str s) :: nn 6) rfl rfl rfl fun d' h' => ?_
 unfold bd_run__need_short
 repeat fail
 refine zaC rfl (zcS h' hs (by omega) ?_)
 repeat fail
 refine za0 (decide_eq_false (by omega)) ?_
 repeat fail
 exact q
end
end Hd
namespace Hd
open Mi
noncomputable abbrev k_ring : Nat := 1919512167
noncomputable abbrev k_arcs : Nat := 1634886515
noncomputable abbrev k_ends : Nat := 1701733491
noncomputable abbrev k_start : Nat := 495873782388
noncomputable abbrev k_first : Nat := 439855772532
noncomputable abbrev k_count : Nat := 104880676367988
noncomputable abbrev k_upper : Nat := 504397587826
noncomputable abbrev k_lower : Nat := 465726563698
noncomputable abbrev k_weight : Nat := 131277443786868
noncomputable abbrev k_target : Nat := 127961880028532
structure Ar (α : Type) where
 up : List Nat
 lo : List Nat
 w : α
 t : Nat
structure Mc (α : Type) where
 arcs : List (List (Ar α))
 ends : List α
 start : Nat
 first : α
 cnt : Nat
structure Ly where
 m : Nat
 aA : Nat
 aE : Nat
 rows : List Nat
section
variable (R : Rg)
noncomputable def arcO (a : Ar R.α) : MObj := .inst 118 [(k_upper,.str a.up),(k_lower,.str a.lo),(k_weight,R.e a.w),(k_target,.int a.t)]
noncomputable def mO (L : Ly) (M : Mc R.α) : MObj := .inst 121 [(k_ring,.top (112 + R.i)),(k_arcs,.ref L.aA),(k_ends,.ref L.aE),(k_start,.int M.start),(k_first,R.e M.first),(k_count,.int M.cnt)]
noncomputable def RowAt (h : MH) (r : Nat) (xs : List (Ar R.α)) : Prop := ∃ as : List Nat,h[r]? = some (.list (as.map .ref)) /\ as.length = xs.length /\ ∀ (j a : Nat) (x : Ar R.α),as[j]? = some a -> xs[j]? = some x -> h[a]? = some (arcO R x)
structure IsM (h : MH) (L : Ly) (M : Mc R.α) : Prop where
 obj : h[L.m]? = some (mO R L M)
 arcs : h[L.aA]? = some (.list (L.rows.map .ref))
 ends : h[L.aE]? = some (.list (M.ends.map R.e))
 len : L.rows.length = M.arcs.length
 lenE : M.ends.length = M.arcs.length
 rows : ∀ (k r : Nat) (xs : List (Ar R.α)),L.rows[k]? = some r -> M.arcs[k]? = some xs -> RowAt R h r xs
 nd : (L.aA :: L.aE :: L.rows).Nodup
 lim : M.arcs.length <= 10000
 ct : (M.arcs.map List.length).sum = M.cnt
 cl : M.cnt <= 100000
end
theorem len_sum {α : Type} {l : List (List α)} {xs : List α} (h : xs ∈ l) : xs.length <= (l.map List.length).sum := by
 induction l with
 | nil => exact absurd h List.not_mem_nil
 | cons y l ih =>
  rw [List.map_cons,List.sum_cons]
  rcases List.mem_cons.mp h with rfl | h
  ·omega
  ·have := ih h; omega
theorem len_set {α : Type} {l : List (List α)} {s : Nat} {a : α} (hs : s < l.length) : ((l.set s (l[s] ++ [a])).map List.length).sum = (l.map List.length).sum + 1 := by
 induction l generalizing s with
 | nil => exact absurd hs (Nat.not_lt_zero _)
 | cons y l ih =>
  cases s with
  | zero => simp; omega
  | succ s =>
   have := ih (s:=s) (Nat.lt_of_succ_lt_succ hs)
   simp only [List.set_cons_succ,List.getElem_cons_succ,List.map_cons,List.sum_cons,this]
   omega
theorem IsM.cr {R : Rg} {h : MH} {L : Ly} {M : Mc R.α} (I : IsM R h L M) : ∀ xs ∈ M.arcs,xs.length <= M.cnt := fun xs hx => I.ct ▸ len_sum hx
structure Kept (h h' : MH) (S : List Nat) : Prop where
 len : h.length <= h'.length
 at' : ∀ (a : Nat) (o : MObj),a ∉ S -> h[a]? = some o -> h'[a]? = some o
noncomputable def own (L : Ly) : List Nat := L.m :: L.aA :: L.aE :: L.rows
theorem Kept.refl {h : MH} {S : List Nat} : Kept h h S := ⟨Nat.le_refl _,fun _ _ _ e => e⟩
theorem Kept.trans {h h' h'' : MH} {S : List Nat} (x : Kept h h' S) (y : Kept h' h'' S) : Kept h h'' S := ⟨Nat.le_trans x.len y.len,fun a o hs e => y.at' a o hs (x.at' a o hs e)⟩
theorem Kept.sub {h h' : MH} {S T : List Nat} (x : Kept h h' S) (hs : ∀ a ∈ S,a ∈ T) : Kept h h' T := ⟨x.len,fun a o ht e => x.at' a o (fun q => ht (hs a q)) e⟩
theorem Kept.set {h : MH} {a : Nat} {o : MObj} : Kept h (h.set a o) [a] := ⟨by rw [List.length_set]; exact Nat.le_refl _,fun b x hb e => zal (fun q => hb (q ▸ .head _)) e⟩
section
variable {R : Rg} {d : Nat} {h h0 : MH} {Q : Val -> MH -> Prop} {L : Ly} {M : Mc R.α}
theorem RowAt.mono {r : Nat} {xs : List (Ar R.α)} {h' : MH} (x : RowAt R h r xs) (hk : ∀ (a : Nat) (o : MObj),h[a]? = some o -> (∃ x,o = arcO R x) \/ a = r -> h'[a]? = some o) : RowAt R h' r xs := by
 obtain ⟨as,h1,h2,h3⟩ := x
 exact ⟨as,hk _ _ h1 (.inr rfl),h2,fun j a x ha hx => hk _ _ (h3 j a x ha hx) (.inl ⟨x,rfl⟩)⟩
theorem IsM.app {t : MH} (I : IsM R h L M) : IsM R (h ++ t) L M :=
 ⟨zab I.obj,zab I.arcs,zab I.ends,I.len,I.lenE,fun k r xs hr hx => (I.rows k r xs hr hx).mono fun a o e _ => zab e,I.nd,I.lim,I.ct,I.cl⟩
theorem zaM (hd : 1 <= d) (I : IsM R h L M) (q : Q (.int M.arcs.length) h) : WF P0 d 174 [.ref L.m] h Q := by
 refine zar (K:=0) hd (some (.ref L.m) :: nn 6) rfl rfl rfl fun d' h' => ?_
 unfold bd_Machine_size
 repeat fail
 refine zac I.obj rfl rfl ?_
 repeat fail
 refine zb0 I.arcs ?_
 rw [List.length_map,I.len]
 repeat fail
 exact q
theorem zcu {k : Nat} (hd : 2 <= d) (I : IsM R h L M) (hk : k < M.arcs.length) (q : Q (.int k) h) : WF P0 d 170 [.ref L.m,.int k] h Q := by
 refine zar (K:=1) hd (some (.ref L.m) :: some (.int k) :: nn 6) rfl rfl rfl fun d' h' => ?_
 unfold bd_Machine_need_state
 repeat fail
 refine zac I.obj rfl rfl ?_
 repeat fail
 refine zb0 I.arcs ?_
 rw [List.length_map,I.len]
 repeat fail
 refine zaC rfl (ncnt_ok h' (by omega) (by omega) ?_)
 repeat fail
 exact q
theorem isInst {n f : Nat} (I : IsM R h L M) (hn : fget [(k_ring,.top (112 + R.i)),(k_arcs,.ref L.aA),(k_ends,.ref L.aE),(k_start,.int M.start),(k_first,R.e M.first),(k_count,.int M.cnt)] n = none) (hm : methC P0 121 n = some f) : zaN P0 h (.ref L.m) n = some (f,[.ref L.m]) := zag I.obj hn hm
end
end Hd
namespace Hd
open Mi
section
variable {R : Rg} {d : Nat} {h h0 : MH} {Q : Val -> MH -> Prop} {L : Ly} {M : Mc R.α}
theorem zbg {a b : Nat} {o p : MObj} (e1 : h[a]? = some o) (e2 : h[b]? = some p) (hn : o ≠ p) : a ≠ b := fun q => hn (by subst q; exact Option.some.inj (e1.symm.trans e2))
theorem IsM.mA (I : IsM R h L M) : L.m ≠ L.aA := zbg I.obj I.arcs nofun
theorem IsM.mE (I : IsM R h L M) : L.m ≠ L.aE := zbg I.obj I.ends nofun
theorem IsM.AE (I : IsM R h L M) : L.aA ≠ L.aE := fun q => (List.nodup_cons.mp I.nd).1 (q ▸ .head _)
theorem IsM.A_nr (I : IsM R h L M) : L.aA ∉ L.rows := fun q => (List.nodup_cons.mp I.nd).1 (.tail _ q)
theorem IsM.E_nr (I : IsM R h L M) : L.aE ∉ L.rows := (List.nodup_cons.mp (List.nodup_cons.mp I.nd).2).1
theorem IsM.nr (I : IsM R h L M) : L.rows.Nodup := (List.nodup_cons.mp (List.nodup_cons.mp I.nd).2).2
theorem IsM.row (I : IsM R h L M) {k : Nat} (hk : k < M.arcs.length) : ∃ r,L.rows[k]? = some r /\ RowAt R h r M.arcs[k] := by
 have hk' : k < L.rows.length := by rw [I.len]; exact hk
 exact ⟨_,List.getElem?_eq_getElem hk',I.rows k _ _ (List.getElem?_eq_getElem hk') (List.getElem?_eq_getElem hk)⟩
theorem IsM.r_lt (I : IsM R h L M) {r : Nat} (hr : r ∈ L.rows) : r < h.length := by
 obtain ⟨k,hk,rfl⟩ := List.mem_iff_getElem.mp hr
 obtain ⟨r,h1,as,h2,_⟩ := I.row (k:=k) (by rw [<- I.len]; exact hk)
 rw [List.getElem?_eq_getElem hk] at h1
 cases h1
 exact zbe h2
theorem IsM.m_nr (I : IsM R h L M) : L.m ∉ L.rows := fun q => by
 obtain ⟨k,hk,e⟩ := List.mem_iff_getElem.mp q
 obtain ⟨r,h1,as,h2,_⟩ := I.row (k:=k) (by rw [<- I.len]; exact hk)
 rw [List.getElem?_eq_getElem hk,e] at h1
 cases h1
 exact zbg I.obj h2 nofun rfl
theorem room_ok {n : Nat} (hd : 1 <= d) (I : IsM R h L M) (hn : M.arcs.length + n <= 20000) (q : Q .none h) : WF P0 d 167 [.ref L.m,.int n] h Q := by
 refine zar (K:=0) hd (some (.ref L.m) :: some (.int n) :: nn 6) rfl rfl rfl fun d' h' => ?_
 unfold bd_Machine__need_room
 repeat fail
 refine zac I.obj rfl rfl ?_
 repeat fail
 refine zb0 I.arcs ?_
 rw [List.length_map,I.len]
 repeat fail
 refine za0 (decide_eq_false (by omega)) ?_
 repeat fail
 exact q
noncomputable def Ly.more (L : Ly) (r : Nat) : Ly := { L with rows := L.rows ++ [r] }
noncomputable def Mc.more (M : Mc R.α) : Mc R.α := { M with arcs := M.arcs ++ [[]],ends := M.ends ++ [R.zero] }
theorem IsM.more (I : IsM R h L M) (hl : M.arcs.length < 10000) : IsM R (((h ++ [MObj.list []]).set L.aA (MObj.list (L.rows.map Val.ref ++ [Val.ref h.length]))).set L.aE (MObj.list (M.ends.map R.e ++ [R.e R.zero]))) (L.more h.length) M.more := by
 have g : ∀ (a : Nat) (o : MObj),(h ++ [MObj.list []])[a]? = some o -> a ≠ L.aA -> a ≠ L.aE -> (((h ++ [MObj.list []]).set L.aA (MObj.list (L.rows.map Val.ref ++ [Val.ref h.length]))).set L.aE (MObj.list (M.ends.map R.e ++ [R.e R.zero])))[a]? = some o := fun a o e h1 h2 => zal (Ne.symm h2) (zal (Ne.symm h1) e)
 have la := zbe I.arcs
 have le := zbe I.ends
 refine ⟨g _ _ (zab I.obj) I.mA I.mE,?_,?_,?_,?_,fun k r xs hr hx => ?_,?_,?_,?_,I.cl⟩
 ·show _ = some (MObj.list ((L.rows ++ [h.length]).map Val.ref))
  rw [List.map_append]
  exact zal (Ne.symm I.AE) (zan (zab I.arcs))
 ·show _ = some (MObj.list ((M.ends ++ [R.zero]).map R.e))
  rw [List.map_append]
  exact zan (zal I.AE (zab I.ends))
 ·show (L.rows ++ [h.length]).length = (M.arcs ++ [[]]).length
  rw [List.length_append,List.length_append,I.len]; rfl
 ·show (M.ends ++ [R.zero]).length = (M.arcs ++ [[]]).length
  rw [List.length_append,List.length_append,I.lenE]; rfl
 ·have hr : (L.rows ++ [h.length])[k]? = some r := hr
  have hx : (M.arcs ++ [[]])[k]? = some xs := hx
  by_cases hk : k < M.arcs.length
  ·rw [List.getElem?_append_left (by rw [I.len]; exact hk)] at hr
   rw [List.getElem?_append_left hk] at hx
   have hm := List.mem_of_getElem? hr
   refine (I.rows k r xs hr hx).mono fun a o e ho => g a o (zab e) ?_ ?_
   ·rcases ho with ⟨x,rfl⟩ | rfl
    ·exact zbg e I.arcs nofun
    ·exact fun q => I.A_nr (q ▸ hm)
   ·rcases ho with ⟨x,rfl⟩ | rfl
    ·exact zbg e I.ends nofun
    ·exact fun q => I.E_nr (q ▸ hm)
  ·have hkl := zaB hx
   rw [List.length_append] at hkl
   have : k = M.arcs.length := by
    have : [([] : List (Ar R.α))].length = 1 := rfl
    omega
   subst this
   rw [List.getElem?_append_right (Nat.le_refl _),Nat.sub_self] at hx
   rw [List.getElem?_append_right (by rw [I.len]; exact Nat.le_refl _),I.len,Nat.sub_self] at hr
   cases hx; cases hr
   exact ⟨[],g _ _ zah (by omega) (by omega),rfl,fun j a x ha => nomatch ha⟩
 ·show (L.aA :: L.aE :: (L.rows ++ [h.length])).Nodup
  rw [<- List.cons_append,<- List.cons_append,List.nodup_append]
  refine ⟨I.nd,by simp,fun a ha b hb e => ?_⟩
  rw [List.mem_singleton] at hb
  subst hb; subst e
  rcases List.mem_cons.mp ha with e | ha
  ·omega
  ·rcases List.mem_cons.mp ha with e | ha
   ·omega
   ·exact absurd (I.r_lt ha) (Nat.lt_irrefl _)
 ·show (M.arcs ++ [[]]).length <= 10000
  rw [List.length_append]; exact hl
 ·show ((M.arcs ++ [[]]).map List.length).sum = M.cnt
  rw [List.map_append,List.sum_append,I.ct]; rfl
theorem zbX (hd : 2 <= d) (I : IsM R h L M) (hl : M.arcs.length < 10000) (q : ∀ h',IsM R h' (L.more h.length) M.more -> Kept h h' [L.aA,L.aE] -> Q (.int M.arcs.length) h') : WF P0 d 168 [.ref L.m] h Q := by
 refine zar (K:=1) hd (some (.ref L.m) :: nn 6) rfl rfl rfl fun d' h' => ?_
 unfold bd_Machine_state
 repeat fail
 refine zaf (zag I.obj rfl rfl) (room_ok (n:=1) h' I (by omega) ?_)
 repeat fail
 refine zac I.obj rfl rfl ?_
 repeat fail
 refine zaT I.arcs (zab I.arcs) (by rw [List.length_map,I.len]; show _ < 1000000; omega) ?_
 have o1 := zal (x:=MObj.list (L.rows.map Val.ref ++ [Val.ref h.length])) (Ne.symm I.mA) (zab (t:=[MObj.list []]) I.obj)
 repeat fail
 refine zac o1 rfl rfl ?_
 repeat fail
 refine zac o1 rfl rfl ?_
 repeat fail
 refine R.nought ?_
 have e1 := zal (x:=MObj.list (L.rows.map Val.ref ++ [Val.ref h.length])) I.AE (zab (t:=[MObj.list []]) I.ends)
 repeat fail
 refine zaT e1 e1 (by rw [List.length_map,I.lenE]; show _ < 1000000; omega) ?_
 have J := I.more hl
 repeat fail
 refine zac J.obj rfl rfl ?_
 repeat fail
 refine zb0 J.arcs ?_
 repeat fail
 have e2 : (((L.more h.length).rows.map Val.ref).length : Int) - 1 = (M.arcs.length : Int) := by
  rw [List.length_map]
  show (((L.rows ++ [h.length]).length : Nat) : Int) - 1 = _
  rw [List.length_append,I.len,List.length_singleton]; omega
 rw [e2]
 exact q _ J ⟨by rw [List.length_set,List.length_set,List.length_append]; omega,fun a o ha e => zal (fun q => ha (q ▸ .tail _ (.head _))) (zal (fun q => ha (q ▸ .head _)) (zab e))⟩
end
end Hd
namespace Hd
open Mi
section
variable {R : Rg} {d : Nat} {h h0 : MH} {Q : Val -> MH -> Prop} {L : Ly} {M : Mc R.α}
theorem ainit_ok {a : Nat} {up lo : List Nat} {w : R.α} {t : Nat} (hd : 1 <= d) (ha : h[a]? = some (.inst 118 [])) (q : Q .none (h.set a (arcO R ⟨up,lo,w,t⟩))) : WF P0 d 166 [.ref a,.str up,.str lo,R.e w,.int t] h Q := by
 refine zar (K:=0) hd (some (.ref a) :: some (.str up) :: some (.str lo) :: some (R.e w) :: some (.int t) :: nn 6) rfl rfl rfl fun d' h' => ?_
 unfold bd_Arc_init
 repeat fail
 refine zao ha rfl (by show 0 < 400; decide) ?_
 repeat fail
 refine zao (zan ha) rfl (by show 1 < 400; decide) ?_
 repeat fail
 refine zao (zan (zan ha)) rfl (by show 2 < 400; decide) ?_
 repeat fail
 refine zao (zan (zan (zan ha))) rfl (by show 3 < 400; decide) ?_
 repeat fail
 rw [List.set_set,List.set_set,List.set_set]
 exact q
theorem arc_m {x : Ar R.α} : arcO R x ≠ mO R L M := fun e => by
 injection e with e1 e2
 exact absurd e1 (by decide)
noncomputable def Mc.arc (M : Mc R.α) (s : Nat) (a : Ar R.α) : Mc R.α := { M with arcs := M.arcs.set s (M.arcs[s]?.getD [] ++ [a]),cnt := M.cnt + 1 }
theorem IsM.arc {s r : Nat} {as : List Nat} {a : Ar R.α} (I : IsM R h L M) (hs : s < M.arcs.length) (hc : M.cnt < 100000) (hr : L.rows[s]? = some r) (ha : h[r]? = some (.list (as.map Val.ref))) (hl : as.length = M.arcs[s].length) (hx : ∀ (j b : Nat) (x : Ar R.α),as[j]? = some b -> M.arcs[s][j]? = some x -> h[b]? = some (arcO R x)) :
  IsM R ((h.set L.m (mO R L { M with cnt := M.cnt + 1 }) ++ [arcO R a]).set r (MObj.list (as.map Val.ref ++ [Val.ref h.length]))) L (M.arc s a) /\ Kept h ((h.set L.m (mO R L { M with cnt := M.cnt + 1 }) ++ [arcO R a]).set r (MObj.list (as.map Val.ref ++ [Val.ref h.length]))) (own L) := by
 have hm := List.mem_of_getElem? hr
 have g : ∀ (b : Nat) (o : MObj),h[b]? = some o -> b ≠ L.m -> b ≠ r -> ((h.set L.m (mO R L { M with cnt := M.cnt + 1 }) ++ [arcO R a]).set r (MObj.list (as.map Val.ref ++ [Val.ref h.length])))[b]? = some o := fun b o e h1 h2 => zal (Ne.symm h2) (zab (zal (Ne.symm h1) e))
 have rm : r ≠ L.m := fun q => I.m_nr (q ▸ hm)
 have hlen : (h.set L.m (mO R L { M with cnt := M.cnt + 1 })).length = h.length := List.length_set ..
 have new : ((h.set L.m (mO R L { M with cnt := M.cnt + 1 }) ++ [arcO R a]).set r (MObj.list (as.map Val.ref ++ [Val.ref h.length])))[h.length]? = some (arcO R a) := zal (Nat.ne_of_lt (I.r_lt hm)) (by rw [<- hlen]; exact zah)
 refine ⟨⟨?_,?_,?_,?_,?_,fun k r' xs hr' hx' => ?_,I.nd,?_,?_,?_⟩,?_,fun b o hb e => ?_⟩
 ·exact zal rm (zab (zan I.obj))
 ·exact g _ _ I.arcs (Ne.symm I.mA) fun q => I.A_nr (q ▸ hm)
 ·exact g _ _ I.ends (Ne.symm I.mE) fun q => I.E_nr (q ▸ hm)
 ·show L.rows.length = (M.arcs.set s _).length
  rw [List.length_set]; exact I.len
 ·show M.ends.length = (M.arcs.set s _).length
  rw [List.length_set]; exact I.lenE
 ·have hx' : (M.arcs.set s (M.arcs[s]?.getD [] ++ [a]))[k]? = some xs := hx'
  by_cases hk : s = k
  ·subst hk
   rw [hr] at hr'; cases hr'
   rw [List.getElem?_set_self hs,List.getElem?_eq_getElem hs] at hx'
   cases hx'
   refine ⟨as ++ [h.length],?_,?_,fun j b x hb hx' => ?_⟩
   ·rw [List.map_append]; exact zan (zab (zal (Ne.symm rm) ha))
   ·show _ = (M.arcs[s] ++ [a]).length
    rw [List.length_append,List.length_append,hl]; rfl
   ·have hx' : (M.arcs[s] ++ [a])[j]? = some x := hx'
    by_cases hj : j < as.length
    ·rw [List.getElem?_append_left hj] at hb
     rw [List.getElem?_append_left (by rw [<- hl]; exact hj)] at hx'
     have := hx j b x hb hx'
     exact g _ _ this (zbg this I.obj arc_m) (zbg this ha nofun)
    ·have hjl := zaB hb
     rw [List.length_append,List.length_singleton] at hjl
     have : j = as.length := by omega
     subst this
     rw [List.getElem?_append_right (Nat.le_refl _),Nat.sub_self] at hb
     rw [hl,List.getElem?_append_right (Nat.le_refl _),Nat.sub_self] at hx'
     cases hb; cases hx'
     exact new
  ·rw [List.getElem?_set_ne hk] at hx'
   have hrr : r' ≠ r := fun q => by
    subst q
    obtain ⟨l1,e1⟩ := List.getElem?_eq_some_iff.mp hr
    obtain ⟨l2,e2⟩ := List.getElem?_eq_some_iff.mp hr'
    exact hk (List.getElem_inj I.nr |>.mp (e1.trans e2.symm))
   refine (I.rows k r' xs hr' hx').mono fun b o e ho => g b o e ?_ ?_
   ·rcases ho with ⟨x,rfl⟩ | rfl
    ·exact zbg e I.obj arc_m
    ·exact fun q => I.m_nr (q ▸ List.mem_of_getElem? hr')
   ·rcases ho with ⟨x,rfl⟩ | rfl
    ·exact zbg e ha nofun
    ·exact hrr
 ·show (M.arcs.set s _).length <= 10000
  rw [List.length_set]; exact I.lim
 ·show ((M.arcs.set s (M.arcs[s]?.getD [] ++ [a])).map List.length).sum = M.cnt + 1
  rw [List.getElem?_eq_getElem hs]
  exact (len_set hs).trans (congrArg (· + 1) I.ct)
 ·exact hc
 ·rw [List.length_set,List.length_append,hlen]; omega
 ·exact g b o e (fun q => hb (q ▸ .head _)) fun q => hb (q ▸ .tail _ (.tail _ (.tail _ hm)))
theorem arc_ok {s : Nat} {a : Ar R.α} {p k : Nat} (hd : 4 <= d) (I : IsM R h L M) (hs : s < M.arcs.length) (ht : a.t < M.arcs.length) (lu : lab a.up) (ll : lab a.lo) (hw : R.D p k a.w) (hl : 4 * p + k <= 3800) (hc : M.cnt < 100000)
  (q : ∀ h' M',IsM R h' L M' -> Kept h h' (own L) -> (a.w = R.zero -> M' = M) -> (a.w ≠ R.zero -> M' = M.arc s a) -> Q .none h') : WF P0 d 171 [.ref L.m,.int s,.str a.up,.str a.lo,R.e a.w,.int a.t] h Q := by
 refine zar (K:=3) hd (some (.ref L.m) :: some (.int s) :: some (.str a.up) :: some (.str a.lo) :: some (R.e a.w) :: some (.int a.t) :: nn 6) rfl rfl rfl fun d' h' => ?_
 unfold bd_Machine_arc
 repeat fail
 refine zaf (zag I.obj rfl rfl) (zcu (k:=s) (by omega) I hs ?_)
 repeat fail
 refine zaf (zag I.obj rfl rfl) (zcu (k:=a.t) (by omega) I ht ?_)
 repeat fail
 refine zaC rfl (nlab_ok h' lu ?_)
 repeat fail
 refine zaC rfl (nlab_ok h' ll ?_)
 repeat fail
 refine zac I.obj rfl rfl ?_
 repeat fail
 refine R.need_ok h' hw hl ?_
 repeat fail
 refine zac I.obj rfl rfl ?_
 repeat fail
 refine R.nought (R.eq ?_)
 repeat fail
 refine br (fun hz => ?_) (fun hz => ?_)
 ·repeat fail
  exact q h M I .refl (fun _ => rfl) fun hn => absurd (dT hz) hn
 have hz := dF hz
 repeat fail
 refine zac I.obj rfl rfl ?_
 repeat fail
 refine za0 (decide_eq_false (by omega)) ?_
 repeat fail
 refine zac I.obj rfl rfl ?_
 repeat fail
 refine zao I.obj rfl (by show 6 < 400; decide) ?_
 obtain ⟨r,hr,as,ha,hal,hax⟩ := I.row hs
 have hm := List.mem_of_getElem? hr
 have rm : r ≠ L.m := fun q => I.m_nr (q ▸ hm)
 have o1 : (h.set L.m (mO R L { M with cnt := M.cnt + 1 }))[L.m]? = some (mO R L { M with cnt := M.cnt + 1 }) := zan I.obj
 have a1 : (h.set L.m (mO R L { M with cnt := M.cnt + 1 }))[L.aA]? = some (.list (L.rows.map Val.ref)) := zal I.mA I.arcs
 have r1 : (h.set L.m (mO R L { M with cnt := M.cnt + 1 }))[r]? = some (.list (as.map Val.ref)) := zal (Ne.symm rm) ha
 show Beh _ _ _ .nx _ (h.set L.m (mO R L { M with cnt := M.cnt + 1 }))
 generalize hg : h.set L.m (mO R L { M with cnt := M.cnt + 1 }) = g at *
 have hlen : g.length = h.length := by rw [<- hg]; exact List.length_set ..
 repeat fail
 refine zac o1 rfl rfl ?_
 repeat fail
 refine zax (i:=s) a1 (v:=.ref r) (by rw [List.getElem?_map,hr]; rfl) ?_
 repeat fail
 refine wv_new (i:=166) rfl rfl (ainit_ok (by omega) zah ⟨rfl,?_⟩)
 rw [zaJ]
 repeat fail
 refine zaT r1 (zab r1) ?_ ?_
 ·rw [List.length_map,hal]
  have := I.cr _ (List.getElem_mem hs)
  show _ < 1000000
  omega
 rw [hlen]
 obtain ⟨J,K⟩ := I.arc (a:=a) hs hc hr ha hal hax
 rw [hg] at J K
 repeat fail
 exact q _ _ J K (fun h => absurd h hz) fun _ => rfl
end
end Hd
namespace Hd
open Mi
section
variable {R : Rg} {d : Nat} {h h0 : MH} {Q : Val -> MH -> Prop} {L : Ly} {M : Mc R.α}
theorem IsM.setM {M' : Mc R.α} (I : IsM R h L M) (e1 : M'.arcs = M.arcs) (e2 : M'.ends = M.ends) (e3 : M'.cnt = M.cnt) : IsM R (h.set L.m (mO R L M')) L M' := by
 refine ⟨zan I.obj,zal I.mA I.arcs,zal I.mE (e2 ▸ I.ends),e1 ▸ I.len,by rw [e1,e2]; exact I.lenE,fun k r xs hr hx => ?_,I.nd,e1 ▸ I.lim,by rw [e1,e3]; exact I.ct,e3 ▸ I.cl⟩
 rw [e1] at hx
 refine (I.rows k r xs hr hx).mono fun a o e ho => zal ?_ e
 rcases ho with ⟨x,rfl⟩ | rfl
 ·exact Ne.symm (zbg e I.obj arc_m)
 ·exact fun q => I.m_nr (q ▸ List.mem_of_getElem? hr)
theorem own_m {L : Ly} : L.m ∈ own L := .head _
theorem own_E {L : Ly} : L.aE ∈ own L := .tail _ (.tail _ (.head _))
theorem begin_ok {s p k : Nat} {w : R.α} (hd : 4 <= d) (I : IsM R h L M) (hs : s < M.arcs.length) (hw : R.D p k w) (hl : 4 * p + k <= 3800) (q : ∀ h',IsM R h' L { M with start := s,first := w } -> Kept h h' (own L) -> Q .none h') : WF P0 d 172 [.ref L.m,.int s,R.e w] h Q := by
 refine zar (K:=3) hd (some (.ref L.m) :: some (.int s) :: some (R.e w) :: nn 6) rfl rfl rfl fun d' h' => ?_
 unfold bd_Machine_begin
 repeat fail
 refine zaf (zag I.obj rfl rfl) (zcu (k:=s) (by omega) I hs ?_)
 repeat fail
 refine wc_isF (R.isv w) ?_
 repeat fail
 refine zac I.obj rfl rfl ?_
 repeat fail
 refine R.need_ok h' hw hl ?_
 repeat fail
 refine zao I.obj rfl (by show 6 < 400; decide) ?_
 have J := I.setM (M' := { M with first := w }) rfl rfl rfl
 show Beh _ _ _ .nx _ (h.set L.m (mO R L { M with first := w }))
 repeat fail
 refine zao J.obj rfl (by show 6 < 400; decide) ?_
 repeat fail
 exact q _ (J.setM (M' := { M with start := s,first := w }) rfl rfl rfl) ((Kept.set.sub fun a ha => by rw [List.mem_singleton.mp ha]; exact own_m).trans (Kept.set.sub fun a ha => by rw [List.mem_singleton.mp ha]; exact own_m))
theorem IsM.setE {s : Nat} {w : R.α} (I : IsM R h L M) : IsM R (h.set L.aE (.list ((M.ends.set s w).map R.e))) L { M with ends := M.ends.set s w } := by
 refine ⟨zal (Ne.symm I.mE) I.obj,zal (Ne.symm I.AE) I.arcs,zan I.ends,I.len,(List.length_set ..).trans I.lenE,fun k r xs hr hx => ?_,I.nd,I.lim,I.ct,I.cl⟩
 refine (I.rows k r xs hr hx).mono fun a o e ho => zal ?_ e
 rcases ho with ⟨x,rfl⟩ | rfl
 ·exact Ne.symm (zbg e I.ends nofun)
 ·exact fun q => I.E_nr (q ▸ List.mem_of_getElem? hr)
theorem map_set' {α β : Type} {f : α -> β} {l : List α} {i : Nat} {x : α} : (l.map f).set i (f x) = (l.set i x).map f := (List.map_set ..).symm
theorem setE_ok {s : Nat} {w : R.α} {Q : MH -> Prop} (I : IsM R h L M) (hs : s < M.arcs.length) (q : ∀ h',IsM R h' L { M with ends := M.ends.set s w } -> Kept h h' (own L) -> Q h') : Wo (zbN h (.ref L.aE) (.int s) (R.e w)) Q := by
 refine zbo I.ends (by rw [List.length_map,I.lenE]; exact hs) ?_
 rw [map_set']
 exact q _ I.setE (Kept.set.sub fun a ha => by rw [List.mem_singleton.mp ha]; exact own_E)
theorem end1_ok {s : Nat} (hd : 4 <= d) (I : IsM R h L M) (hs : s < M.arcs.length) (q : ∀ h',IsM R h' L { M with ends := M.ends.set s R.one } -> Kept h h' (own L) -> Q .none h') : WF P0 d 173 [.ref L.m,.int s] h Q := by
 refine zar (K:=3) hd (some (.ref L.m) :: some (.int s) :: some (.top 120) :: nn 6) rfl rfl rfl fun d' h' => ?_
 unfold bd_Machine_end
 repeat fail
 refine zaf (zag I.obj rfl rfl) (zcu (k:=s) (by omega) I hs ?_)
 repeat fail
 refine zac I.obj rfl rfl ?_
 repeat fail
 refine R.oneW ?_
 repeat fail
 refine zac I.obj rfl rfl ?_
 repeat fail
 refine setE_ok I hs fun h' J K => ?_
 repeat fail
 exact q _ J K
noncomputable def M0 : Mc R.α := ⟨[],[],0,R.one,0⟩
theorem new_ok (hd : 1 <= d) (q : ∀ t,IsM R (h ++ t) ⟨h.length,h.length + 1,h.length + 2,[]⟩ (M0 (R:=R)) -> Q (.ref h.length) (h ++ t)) : WV (Cxd P0 d) (.top 121) [.top (112 + R.i)] h Q := by
 refine wv_new (i:=177) rfl rfl ?_
 refine zar (K:=0) hd (some (.ref h.length) :: some (.top (112 + R.i)) :: nn 6) rfl rfl rfl fun d' h' => ?_
 unfold bd_Machine_init
 repeat fail
 refine zao zah rfl (by show 0 < 400; decide) ?_
 rw [zaJ]
 repeat fail
 rw [List.append_assoc]
 refine zao zah rfl (by show 1 < 400; decide) ?_
 rw [List.cons_append,zaJ]
 repeat fail
 rw [List.append_assoc]
 refine zao zah rfl (by show 2 < 400; decide) ?_
 rw [List.cons_append,zaJ]
 repeat fail
 refine zao zah rfl (by show 3 < 400; decide) ?_
 rw [zaJ]
 repeat fail
 refine R.oneW ?_
 repeat fail
 refine zao zah rfl (by show 4 < 400; decide) ?_
 rw [zaJ]
 repeat fail
 refine zao zah rfl (by show 5 < 400; decide) ?_
 rw [zaJ]
 repeat fail
 have l1 : ∀ o : MObj,(h ++ [o]).length = h.length + 1 := fun o => by rw [List.length_append]; rfl
 have l2 : ∀ o p : MObj,(h ++ [o,p]).length = h.length + 2 := fun o p => by rw [List.length_append]; rfl
 refine ⟨rfl,q _ ?_⟩
 refine ⟨?_,?_,?_,rfl,rfl,(fun k r xs hr => nomatch hr),?_,Nat.zero_le _,rfl,Nat.zero_le _⟩
 ·rw [zah,l1,List.nil_append,l2]; rfl
 ·rw [List.getElem?_append_right (Nat.le_add_right _ _),Nat.add_sub_cancel_left]; rfl
 ·rw [List.getElem?_append_right (Nat.le_add_right _ _),Nat.add_sub_cancel_left]; rfl
 ·simp
end
end Hd
namespace Hd
open Mi
section
variable {R : Rg} {d : Nat} {h h0 : MH} {Q : Val -> MH -> Prop} {L : Ly} {M : Mc R.α}
noncomputable def Ar.emp {α : Type} (x : Ar α) : Bool := x.up == [] && x.lo == []
noncomputable abbrev k_is_empty : Nat := 7598521885536580729
theorem emp_ok {a : Nat} {x : Ar R.α} (hd : 1 <= d) (ha : h[a]? = some (arcO R x)) (q : Q (.bool x.emp) h) : WF P0 d 165 [.ref a] h Q := by
 refine zar (K:=0) hd (some (.ref a) :: nn 6) rfl rfl rfl fun d' h' => ?_
 unfold bd_Arc_is_empty
 repeat fail
 refine zac ha rfl rfl ?_
 repeat fail
 unfold Ar.emp at q
 refine br (fun hb => ?_) (fun hb => ?_)
 ·rw [hb] at q
  repeat fail
  refine zac ha rfl rfl ?_
  repeat fail
  exact q
 ·rw [hb] at q
  repeat fail
  rw [hb]
  exact q
theorem is_emp {a : Nat} {x : Ar R.α} (hd : 1 <= d) (h0a : h0[a]? = some (arcO R x)) (ha : h[a]? = some (arcO R x)) (q : Q (.bool x.emp) h) : WM (Cxd P0 d) (.ref a) k_is_empty [] h0 h Q :=
 zaf (zag h0a rfl rfl) (emp_ok hd ha q)
theorem IsM.rowlt (I : IsM R h L M) {xs : List (Ar R.α)} (hx : xs ∈ M.arcs) : xs.length < 200000 := Nat.lt_of_le_of_lt (I.cr _ hx) (Nat.lt_of_le_of_lt I.cl (by decide))
theorem zcv {l : List Nat} {k r : Nat} (h : l[k]? = some r) : (l.map Val.ref)[k]? = some (.ref r) := by rw [List.getElem?_map,h]; rfl
theorem zbf {l : List Nat} {k : Nat} {v : Val} (h : (l.map Val.ref)[k]? = some v) : ∃ r,l[k]? = some r /\ v = .ref r := by
 rw [List.getElem?_map] at h
 obtain ⟨r,h1,h2⟩ := ms h
 exact ⟨r,h1,h2.symm⟩
theorem hasE_ok (hd : 2 <= d) (I : IsM R h L M) (q : Q (.bool (M.arcs.any fun r => r.any Ar.emp)) h) : WF P0 d 175 [.ref L.m] h Q := by
 refine zar (K:=1) hd (some (.ref L.m) :: nn 8) rfl rfl rfl fun d' h' => ?_
 unfold bd_Machine_has_empty
 repeat fail
 refine ws_forL (a:=L.aA) (vs:=L.rows.map .ref) ?_ (fun i fr hh => hh = h /\ (∃ o1 o2,fr = some (.ref L.m) :: o1 :: o2 :: nn 6) /\ ∀ xs ∈ M.arcs.take i,xs.any Ar.emp = false) ?_ ?_ ?_ ?_
 ·rw [List.length_map,I.len]
  exact Nat.lt_of_le_of_lt I.lim (by show 10000 < 200000; decide)
 ·rintro i fr hh ⟨rfl,_⟩; exact I.arcs
 ·repeat fail
  refine zac I.obj rfl rfl ⟨rfl,rfl,⟨none,none,rfl⟩,fun xs hx => nomatch hx⟩
 ·rintro i v hv fr hh ⟨rfl,⟨o1,o2,rfl⟩,hall⟩
  obtain ⟨r,hr,rfl⟩ := zbf hv
  have hi : i < M.arcs.length := by rw [<- I.len]; exact zaB hr
  obtain ⟨as,ha,hal,hax⟩ := I.rows i r _ hr (List.getElem?_eq_getElem hi)
  have hxl := I.rowlt (List.getElem_mem hi)
  repeat fail
  refine ws_forL (a:=r) (vs:=as.map .ref) (by rw [List.length_map,hal]; exact hxl) (fun j fr hh' => hh' = hh /\ (∃ o2,fr = some (.ref L.m) :: some (.ref r) :: o2 :: nn 6) /\ (M.arcs[i].take j).any Ar.emp = false) ?_ ?_ ?_ ?_
  ·rintro j fr hh' ⟨rfl,_⟩; exact ha
  ·repeat fail
   exact ⟨rfl,rfl,⟨_,rfl⟩,rfl⟩
  ·rintro j v hv fr hh' ⟨rfl,⟨o2,rfl⟩,hj⟩
   obtain ⟨b,hb,rfl⟩ := zbf hv
   have hjl : j < M.arcs[i].length := by rw [<- hal]; exact zaB hb
   have hx := hax j b _ hb (List.getElem?_eq_getElem hjl)
   repeat fail
   refine is_emp h' hx hx ?_
   repeat fail
   refine br (fun he => ?_) (fun he => ?_)
   ·have : (M.arcs.any fun r => r.any Ar.emp) = true := List.any_eq_true.mpr ⟨_,List.getElem_mem hi,List.any_eq_true.mpr ⟨_,List.getElem_mem hjl,he⟩⟩
    rw [this] at q
    repeat fail
    exact q
   ·repeat fail
    refine ⟨rfl,⟨_,rfl⟩,?_⟩
    rw [List.take_succ_eq_append_getElem hjl,List.any_append,hj]
    simp [he]
  ·rintro fr hh' ⟨rfl,⟨o2,rfl⟩,hj⟩
   rw [List.length_map,hal,List.take_length] at hj
   repeat fail
   refine ⟨rfl,⟨_,_,rfl⟩,fun xs hx => ?_⟩
   rw [List.take_succ_eq_append_getElem hi] at hx
   rcases List.mem_append.mp hx with hx | hx
   ·exact hall xs hx
   ·rw [List.mem_singleton.mp hx]; exact hj
 ·rintro fr hh ⟨rfl,⟨o1,o2,rfl⟩,hall⟩
  rw [List.length_map,I.len,List.take_length] at hall
  have : (M.arcs.any fun r => r.any Ar.emp) = false := List.any_eq_false.mpr fun x hx => by rw [hall x hx]; decide
  rw [this] at q
  repeat fail
  exact q
end
end Hd
namespace Hd
open Mi
section
variable {R : Rg} {d : Nat} {h h0 : MH} {Q : Val -> MH -> Prop} {L : Ly} {M : Mc R.α}
noncomputable def IsAdj (h : MH) (b : Nat) (xss : List (List Nat)) : Prop := ∃ rs : List Nat,h[b]? = some (.list (rs.map .ref)) /\ rs.length = xss.length /\ ∀ (k r : Nat) (xs : List Nat),rs[k]? = some r -> xss[k]? = some xs -> h[r]? = some (.list (iVs xs))
theorem zbE {α : Type} {l m : List α} (hl : l.length = m.length) (h : ∀ (i : Nat) (y : α),l[i]? = some y -> m[i]? = some y) : l = m := by
 refine List.ext_getElem? fun i => ?_
 by_cases hi : i < l.length
 ·rw [List.getElem?_eq_getElem hi]; exact (h i _ (List.getElem?_eq_getElem hi)).symm
 ·rw [List.getElem?_eq_none (Nat.not_lt.mp hi),List.getElem?_eq_none (by omega)]
theorem ints_at {l : List Nat} {i x : Nat} (h : l[i]? = some x) : (iVs l)[i]? = some (.int x) := by unfold iVs; rw [List.getElem?_map,h]; rfl
theorem zcX {l : List Nat} {i : Nat} {v : Val} (h : (iVs l)[i]? = some v) : ∃ x,l[i]? = some x /\ v = .int x := by
 unfold iVs at h
 rw [List.getElem?_map] at h
 obtain ⟨x,h1,h2⟩ := ms h
 exact ⟨x,h1,h2.symm⟩
theorem zaA {l : List Nat} : (iVs l).length = l.length := List.length_map ..
theorem zay {n : Nat} (h : n < 200000) : n <= lim := Nat.le_of_lt (Nat.lt_trans h (by decide))
theorem onward_ok (hd : 1 <= d) (I : IsM R h L M) (q : ∀ t b,IsAdj (h ++ t) b (M.arcs.map fun r => r.map Ar.t) -> Q (.ref b) (h ++ t)) : WF P0 d 125 [.ref L.m] h Q := by
 refine zar (K:=0) hd (some (.ref L.m) :: nn 6) rfl rfl rfl fun d' h' => ?_
 unfold bd_machine__onward
 have hn : (L.rows.map Val.ref).length < 200000 := by
  rw [List.length_map,I.len]; exact Nat.lt_of_le_of_lt I.lim (by decide)
 repeat fail
 refine we_compT (a:=L.aA) (vs:=L.rows.map .ref) (fun i y t => ∃ j xs,M.arcs[i]? = some xs /\ y = .ref (h.length + 1 + j) /\ t[j]? = some (.list (iVs (xs.map Ar.t)))) hn (zay hn) ?_ ?_
 ·rintro i y t s ⟨j,xs,h1,h2,h3⟩; exact ⟨j,xs,h1,h2,zab h3⟩
 repeat fail
 refine zac I.obj rfl rfl ⟨rfl,I.arcs,fun i v hv acc t => ?_,fun ys t hl hy => ?_⟩
 ·obtain ⟨r,hr,rfl⟩ := zbf hv
  have hi : i < M.arcs.length := by rw [<- I.len]; exact zaB hr
  obtain ⟨as,ha,hal,hax⟩ := I.rows i r _ hr (List.getElem?_eq_getElem hi)
  have hxl := I.rowlt (List.getElem_mem hi)
  refine we_compT (a:=r) (vs:=as.map .ref) (fun j y _ => ∃ x,M.arcs[i][j]? = some x /\ y = .int x.t) (by rw [List.length_map,hal]; exact hxl) (by rw [List.length_map,hal]; exact zay hxl) (fun _ _ _ _ x => x) ?_
  repeat fail
  refine ⟨rfl,zab ha,fun j v hv acc' t' => ?_,fun ys t' hl hy => ?_⟩
  ·obtain ⟨b,hb,rfl⟩ := zbf hv
   have hjl : j < M.arcs[i].length := by rw [<- hal]; exact zaB hb
   have hx := hax j b _ hb (List.getElem?_eq_getElem hjl)
   repeat fail
   refine zac (zab (zab hx)) rfl rfl ⟨[],by rw [List.append_nil],_,List.getElem?_eq_getElem hjl,rfl⟩
  ·refine ⟨.list ys :: t',by rw [List.append_assoc]; rfl,t.length,_,List.getElem?_eq_getElem hi,?_,?_⟩
   ·rw [List.length_append,List.length_cons]; congr 1; omega
   ·rw [zah]
    congr 2
    refine zbE (by rw [hl,zaA,List.length_map,List.length_map,hal]) fun j y hj => ?_
    obtain ⟨x,hx,rfl⟩ := hy j y hj
    exact ints_at (by rw [List.getElem?_map,hx]; rfl)
 ·repeat fail
  refine q (.list ys :: t) _ ?_
  obtain ⟨rs,hrs⟩ : ∃ rs : List Nat,ys = rs.map Val.ref := ⟨ys.map fun y => (y.ref?).getD 0,by
   rw [List.map_map]
   refine zbE (by rw [List.length_map]) fun i y hi => ?_
   obtain ⟨j,xs,h1,rfl,_⟩ := hy i y hi
   rw [List.getElem?_map,hi]; rfl⟩
  subst hrs
  refine ⟨rs,zah,?_,fun k r xs hr hx => ?_⟩
  ·rw [List.length_map,List.length_map] at hl
   rw [hl,I.len,List.length_map]
  ·obtain ⟨j,xs',h1,h2,h3⟩ := hy k _ (zcv hr)
   rw [List.getElem?_map,h1] at hx
   cases hx; cases h2
   rw [List.getElem?_append_right (by omega),show h.length + 1 + j - h.length = j + 1 by omega]
   exact h3
end
end Hd
namespace Hd
open Mi
theorem get_n {h t : MH} {j : Nat} : (h ++ t)[h.length + j]? = t[j]? := by rw [List.getElem?_append_right (Nat.le_add_right _ _),Nat.add_sub_cancel_left]
theorem set_n {h t : MH} {j : Nat} {o : MObj} : (h ++ t).set (h.length + j) o = h ++ t.set j o := by rw [List.set_append_right _ _ (Nat.le_add_right _ _),Nat.add_sub_cancel_left]
noncomputable def zbB (mb : List Bool) : Nat := mb.countP (!·)
theorem unmet_set {mb : List Bool} {k : Nat} (hk : mb[k]? = some false) : zbB (mb.set k true) + 1 = zbB mb := by
 unfold zbB
 obtain ⟨hl,e⟩ := List.getElem?_eq_some_iff.mp hk
 have h1 := List.countP_set (p:=fun b : Bool => !b) (l:=mb) (i:=k) (a:=true) hl
 rw [h1,e]
 have : 0 < mb.countP (!·) := List.countP_pos_iff.mpr ⟨false,List.mem_of_getElem? hk,rfl⟩
 simp only [Bool.not_false,Bool.not_true]
 simp
 omega
structure MetBy (fs : List Nat) (xss : List (List Nat)) (mb : List Bool) : Prop where
 first : ∀ s ∈ fs,mb[s]? = some true
 least : ∀ P : Nat -> Prop,(∀ s ∈ fs,P s) -> (∀ s xs,P s -> xss[s]? = some xs -> ∀ o ∈ xs,P o) -> ∀ s : Nat,mb[s]? = some true -> P s
section
variable {R : Rg} {d : Nat} {h h0 : MH} {Q : Val -> MH -> Prop} {L : Ly} {M : Mc R.α}
theorem zc2 {mb : List Bool} {k : Nat} {b : Bool} (h : mb[k]? = some b) : (mb.map Val.bool)[k]? = some (.bool b) := by rw [List.getElem?_map,h]; rfl
structure MSt where
 mb : List Bool
 wk : List Nat
 a : Option Val
 b : Option Val
structure MX where
 h : MH
 m : Nat
 f : Nat
 b : Nat
 x0 : MObj
 n : Nat
 fs : List Nat
 xss : List (List Nat)
noncomputable def mG (X : MX) (s : MSt) : MH := X.h ++ [X.x0,.list (s.mb.map Val.bool),.list (iVs s.wk)]
noncomputable def mF (X : MX) (a b : Option Val) : Mi.Frame := some (.ref X.m) :: some (.ref X.f) :: some (.ref X.b) :: some (.ref (X.h.length + 1)) :: some (.ref (X.h.length + 2)) :: a :: b :: nn 6
section
variable {X : MX} {R' : Fl -> Mi.Frame -> MH -> Prop} {s : MSt}
theorem mg_m : (mG X s)[X.h.length + 1]? = some (.list (s.mb.map Val.bool)) := get_n
theorem mg_w : (mG X s)[X.h.length + 2]? = some (.list (iVs s.wk)) := get_n
theorem mg_sm {mb : List Bool} : (mG X s).set (X.h.length + 1) (.list (mb.map Val.bool)) = mG X { s with mb := mb } := set_n
theorem mg_sw {wk : List Nat} : (mG X s).set (X.h.length + 2) (.list (iVs wk)) = mG X { s with wk := wk } := set_n
structure MP1 (X : MX) (i : Nat) (s : MSt) : Prop where
 w : s.wk = X.fs
 l : s.mb.length = X.n
 h1 : ∀ y ∈ X.fs.take i,s.mb[y]? = some true
 h2 : ∀ y : Nat,s.mb[y]? = some true -> y ∈ X.fs
theorem m1_ok {i y : Nat} (P : MP1 X i s) (hy : X.fs[i]? = some y) (hn : y < X.n) (q : ∀ s',MP1 X (i + 1) s' -> R' .nx (mF X s'.a s'.b) (mG X s')) : WSs (Cxd P0 d) [.asg (.sb (.var 3) (.var 5)) (.lit (.bool true))] (mF X (some (.int y)) s.b) (mG X s) R' := by
 have hsn : y < s.mb.length := by rw [P.l]; exact hn
 repeat fail
 refine zbo mg_m (by rw [List.length_map]; exact hsn) ?_
 rw [map_set',mg_sm]
 repeat fail
 refine q { s with mb := s.mb.set y true,a := some (.int y) } ⟨P.w,by show (s.mb.set y true).length = _; rw [List.length_set]; exact P.l,fun z hz => ?_,fun z hz => ?_⟩
 ·show (s.mb.set y true)[z]? = _
  rw [List.take_succ,hy] at hz
  by_cases e : y = z
  ·subst e; rw [List.getElem?_set_self hsn]
  ·rw [List.getElem?_set_ne e]
   rcases List.mem_append.mp hz with hz | hz
   ·exact P.h1 z hz
   ·exact absurd (List.mem_singleton.mp (by simpa using hz)).symm e
 ·have hz : (s.mb.set y true)[z]? = some true := hz
  by_cases e : y = z
  ·subst e; exact List.mem_of_getElem? hy
  ·rw [List.getElem?_set_ne e] at hz; exact P.h2 z hz
structure MP2 (X : MX) (k : Nat) (s : MSt) : Prop where
 kk : k = 2 * zbB s.mb + s.wk.length
 kl : k <= 30000
 l : s.mb.length = X.n
 B : MetBy X.fs X.xss s.mb
 w : ∀ y ∈ s.wk,s.mb[y]? = some true
 c : ∀ (y : Nat) xs,s.mb[y]? = some true -> y ∉ s.wk -> X.xss[y]? = some xs -> ∀ o ∈ xs,s.mb[o]? = some true
structure MP3 (X : MX) (y : Nat) (xs : List Nat) (k : Nat) (j : Nat) (s : MSt) : Prop where
 kk : 2 * zbB s.mb + s.wk.length <= k
 l : s.mb.length = X.n
 B : MetBy X.fs X.xss s.mb
 yy : s.mb[y]? = some true
 w : ∀ z ∈ s.wk,s.mb[z]? = some true
 c : ∀ (z : Nat) xs,s.mb[z]? = some true -> z ∉ s.wk -> z ≠ y -> X.xss[z]? = some xs -> ∀ o ∈ xs,s.mb[o]? = some true
 t : ∀ o ∈ xs.take j,s.mb[o]? = some true
theorem m3_ok {y j o k : Nat} {xs : List Nat} (P : MP3 X y xs k j s) (hx : X.xss[y]? = some xs) (ho : xs[j]? = some o) (hn : o < X.n) (hk : k < 100000) (q : ∀ s',MP3 X y xs k (j + 1) s' -> R' .nx (mF X (some (.int y)) s'.b) (mG X s')) :
  WSs (Cxd P0 d) [.ite (.not (.sub (.var 3) (.var 6))) [.asg (.sb (.var 3) (.var 6)) (.lit (.bool true)),.expr (.meth (.var 4) 107135549927012 [.var 6])] []] (mF X (some (.int y)) (some (.int o))) (mG X s) R' := by
 have hon : o < s.mb.length := by rw [P.l]; exact hn
 have tk : ∀ {z},z ∈ xs.take (j + 1) -> z ∈ xs.take j \/ z = o := fun {z} hz => by
  rw [List.take_succ,ho] at hz
  rcases List.mem_append.mp hz with hz | hz
  ·exact .inl hz
  ·exact .inr (by simpa using hz)
 have hoe := List.getElem?_eq_getElem hon
 generalize s.mb[o] = v at hoe
 repeat fail
 refine zax (i:=o) mg_m (zc2 hoe) ?_
 repeat fail
 refine br (fun hb => ?_) (fun hb => ?_)
 ·subst hb
  repeat fail
  refine q { s with b := some (.int o) } ⟨P.kk,P.l,P.B,P.yy,P.w,P.c,fun z hz => ?_⟩
  rcases tk hz with hz | rfl
  ·exact P.t z hz
  ·exact hoe
 ·subst hb
  have up : ∀ {z : Nat},s.mb[z]? = some true -> (s.mb.set o true)[z]? = some true := fun {z} hz => by
   rw [List.getElem?_set_ne fun e => by subst e; rw [hoe] at hz; exact nomatch hz]; exact hz
  have dn : ∀ {z : Nat},(s.mb.set o true)[z]? = some true -> z = o \/ s.mb[z]? = some true := fun {z} hz => by
   by_cases e : o = z
   ·exact .inl e.symm
   ·rw [List.getElem?_set_ne e] at hz; exact .inr hz
  have hu := unmet_set hoe
  have hk1 := P.kk
  repeat fail
  refine zbo mg_m (by rw [List.length_map]; exact hon) ?_
  rw [map_set',mg_sm]
  repeat fail
  refine zaT mg_w mg_w (by rw [zaA]; show s.wk.length < 1000000; omega) ?_
  rw [show iVs s.wk ++ [Val.int o] = iVs (s.wk ++ [o]) from by unfold iVs; rw [List.map_append]; rfl,mg_sw]
  repeat fail
  refine q ⟨s.mb.set o true,s.wk ++ [o],s.a,some (.int o)⟩ ⟨by show 2 * zbB (s.mb.set o true) + (s.wk ++ [o]).length <= k; rw [List.length_append,List.length_singleton]; omega,by show (s.mb.set o true).length = _; rw [List.length_set]; exact P.l,⟨fun z hz => up (P.B.first z hz),fun T p1 p2 z hz => ?_⟩,up P.yy,fun z hz => ?_,fun z zs e1 e2 e3 e4 w hw => ?_,fun z hz => ?_⟩
  ·rcases dn hz with rfl | hz
   ·exact p2 y xs (P.B.least T p1 p2 y P.yy) hx z (List.mem_of_getElem? ho)
   ·exact P.B.least T p1 p2 z hz
  ·rcases List.mem_append.mp hz with hz | hz
   ·exact up (P.w z hz)
   ·rw [List.mem_singleton.mp hz]; exact List.getElem?_set_self hon
  ·rcases dn e1 with rfl | e1
   ·exact absurd (List.mem_append.mpr (.inr (.head _))) e2
   ·exact up (P.c z zs e1 (fun q => e2 (List.mem_append.mpr (.inl q))) e3 e4 w hw)
  ·rcases tk hz with hz | rfl
   ·exact up (P.t z hz)
   ·exact List.getElem?_set_self hon
end
theorem met_ok {f b : Nat} {fs : List Nat} {xss : List (List Nat)} (hd : 2 <= d) (I : IsM R h L M) (hf : h[f]? = some (.list (iVs fs))) (A : IsAdj h b xss) (hl : xss.length = M.arcs.length) (hfs : ∀ s ∈ fs,s < M.arcs.length) (hfl : fs.length <= 10000) (hxs : ∀ xs ∈ xss,xs.length < 200000 /\ ∀ o ∈ xs,o < M.arcs.length)
  (q : ∀ mb t,mb.length = M.arcs.length -> MetBy fs xss mb -> (∀ (s : Nat) xs,mb[s]? = some true -> xss[s]? = some xs -> ∀ o ∈ xs,mb[o]? = some true) -> (h ++ t)[h.length + 1]? = some (.list (mb.map Val.bool)) -> Q (.ref (h.length + 1)) (h ++ t)) : WF P0 d 124 [.ref L.m,.ref f,.ref b] h Q := by
 refine zar (K:=1) hd (some (.ref L.m) :: some (.ref f) :: some (.ref b) :: nn 10) rfl rfl rfl fun d' h' => ?_
 unfold bd_machine__met
 have hN := I.lim
 repeat fail
 refine zaf (zag (zab I.obj) rfl rfl) (zaM h' I.app ?_)
 refine wb_mull (n:=M.arcs.length) zah (zay (by omega)) (by show 1 * _ <= _; rw [Nat.one_mul]; exact zay (by omega)) ?_
 rw [rep_one,List.append_assoc]
 repeat fail
 refine wv_list (zab hf) ?_
 rw [List.append_assoc]
 have ln : (h ++ ([MObj.list [.bool false]] ++ [MObj.list (List.replicate M.arcs.length (.bool false))])).length = h.length + 2 := by rw [List.length_append]; rfl
 have ln1 : (h ++ [MObj.list [.bool false]]).length = h.length + 1 := by rw [List.length_append]; rfl
 rw [ln,ln1]
 simp only [List.cons_append,List.nil_append]
 repeat fail
 have rp : List.replicate M.arcs.length (Val.bool false) = (List.replicate M.arcs.length false).map Val.bool := (List.map_replicate ..).symm
 rw [rp]
 generalize MObj.list [Val.bool false] = x0
 refine za2 (a:=h.length + 2) (vs:=iVs fs) (fun s : MSt => mF ⟨h,L.m,f,b,x0,M.arcs.length,fs,xss⟩ s.a s.b) (mG ⟨h,L.m,f,b,x0,M.arcs.length,fs,xss⟩) (MP1 ⟨h,L.m,f,b,x0,M.arcs.length,fs,xss⟩) (by rw [zaA]; exact Nat.lt_of_le_of_lt hfl (by show 10000 < 200000; decide)) ⟨List.replicate M.arcs.length false,fs,none,none⟩ (fun i s P => by have e := @mg_w ⟨h,L.m,f,b,x0,M.arcs.length,fs,xss⟩ s; rw [show s.wk = fs from P.w] at e; exact e) ?_ (fun i v s R1 hv P1 T1 => ?_) fun s P1 => ?_
 ·repeat fail
  refine ⟨rfl,rfl,rfl,rfl,List.length_replicate ..,(fun s hs => nomatch hs),fun s hs => ?_⟩
  obtain ⟨hl,e⟩ := List.getElem?_eq_some_iff.mp hs
  rw [List.getElem_replicate] at e
  exact nomatch e
 ·obtain ⟨y,hy,rfl⟩ := zcX hv
  exact zbT (m1_ok P1 hy (hfs y (List.mem_of_getElem? hy)) T1.nx)
 have h1 := P1.h1
 rw [zaA,List.take_length] at h1
 have hw : s.wk = fs := P1.w
 have hk0 : 2 * zbB s.mb + s.wk.length <= 30000 := by
  have : zbB s.mb <= s.mb.length := List.countP_le_length ..
  have : s.mb.length = M.arcs.length := P1.l
  rw [hw]
  omega
 repeat fail
 refine ws_whS (k:=2 * zbB s.mb + s.wk.length) (fun s : MSt => mF ⟨h,L.m,f,b,x0,M.arcs.length,fs,xss⟩ s.a s.b) (mG ⟨h,L.m,f,b,x0,M.arcs.length,fs,xss⟩) (MP2 ⟨h,L.m,f,b,x0,M.arcs.length,fs,xss⟩) (by show _ < 200000; omega) s rfl rfl ⟨rfl,hk0,P1.l,⟨h1,fun P p1 _ y hy => p1 y (P1.h2 y hy)⟩,fun y hy => h1 y (hw ▸ hy),fun y xs hy hn => absurd (hw.symm ▸ P1.h2 y hy) hn⟩ fun k s R1 P2 T2 => ?_
 have hk := P2.kk
 have hkl := P2.kl
 have hmb : s.mb.length = M.arcs.length := P2.l
 repeat fail
 refine zb0 mg_w ?_
 rw [zaA]
 repeat fail
 refine br (fun hc => ?_) (fun hc => ?_)
 ·have hc : 0 < s.wk.length := Int.ofNat_lt.mp (dT hc)
  obtain ⟨wk',y,hwk⟩ : ∃ wk' y,s.wk = wk' ++ [y] := ⟨s.wk.dropLast,s.wk.getLast (List.ne_nil_of_length_pos hc),(List.dropLast_concat_getLast _).symm⟩
  have hym := P2.w y (hwk ▸ List.mem_append.mpr (.inr (.head _)))
  have hyn : y < xss.length := by rw [hl,<- hmb]; exact zaB hym
  obtain ⟨rs,A1,A2,A3⟩ := A
  have hxs' := hxs _ (List.getElem_mem hyn)
  have hxe := List.getElem?_eq_getElem hyn
  have hrn : y < rs.length := by rw [A2]; exact hyn
  have hre := List.getElem?_eq_getElem hrn
  have hra := A3 y _ _ hre hxe
  have hkk : 2 * zbB s.mb + wk'.length + 1 = k := by rw [hk,hwk,List.length_append]; rfl
  have ei : iVs s.wk = iVs wk' ++ [.int y] := by rw [hwk]; exact List.map_append ..
  repeat fail
  refine wm_pop mg_w (by rw [<- ei]; exact mg_w) ?_
  rw [mg_sw]
  repeat fail
  refine za2 (a:=rs[y]) (vs:=iVs xss[y]) (fun s : MSt => mF ⟨h,L.m,f,b,x0,M.arcs.length,fs,xss⟩ (some (.int y)) s.b) (mG ⟨h,L.m,f,b,x0,M.arcs.length,fs,xss⟩) (MP3 ⟨h,L.m,f,b,x0,M.arcs.length,fs,xss⟩ y xss[y] (2 * zbB s.mb + wk'.length)) (by rw [zaA]; exact hxs'.1) { s with wk := wk' } (fun i s P => zab hra) ?_ (fun i v s R1 hv P1 T1 => ?_) fun s' P3 => ?_
  ·repeat fail
   refine zax (i:=y) (zab A1) (zcv hre) ⟨rfl,rfl,rfl,Nat.le_refl _,hmb,P2.B,hym,fun x hx => P2.w x (hwk ▸ List.mem_append.mpr (.inl hx)),fun s' ys e1 e2 e3 => P2.c s' ys e1 fun q => ?_,fun o ho => nomatch ho⟩
   rw [hwk] at q
   rcases List.mem_append.mp q with q | q
   ·exact e2 q
   ·exact e3 (List.mem_singleton.mp q)
  ·obtain ⟨o,ho,rfl⟩ := zcX hv
   exact zbT (m3_ok P1 hxe ho (hxs'.2 o (List.mem_of_getElem? ho)) (by omega) T1.nx)
  ·have kt := P3.t
   rw [zaA,List.take_length] at kt
   have k1 := P3.kk
   repeat fail
   refine T2.nx { s' with a := some (.int y) } ⟨_,?_,rfl,?_,P3.l,P3.B,P3.w,fun z ys e1 e2 e3 => ?_⟩
   ·show 2 * zbB s'.mb + s'.wk.length < k; omega
   ·show 2 * zbB s'.mb + s'.wk.length <= 30000; omega
   ·by_cases e : z = y
    ·subst e
     rw [show xss[z]? = some ys from e3] at hxe; cases hxe; exact kt
    ·exact P3.c z ys e1 e2 e e3
 ·have hc : s.wk.length = 0 := by have := dF hc; omega
  have hnil := List.length_eq_zero_iff.mp hc
  repeat fail
  exact q s.mb _ hmb P2.B (fun y xs e1 => P2.c y xs e1 (by rw [hnil]; exact List.not_mem_nil)) get_n
end
end Hd
namespace Hd
open Mi
structure AdjO (h hh : MH) (rs : List Nat) (xss : List (List Nat)) : Prop where
 app : ∃ t,hh = h ++ t
 at0 : hh[h.length]? = some (.list (rs.map .ref))
 len : rs.length = xss.length
 low : ∀ r ∈ rs,h.length < r
 nd : rs.Nodup
 row : ∀ (k r : Nat) (xs : List Nat),rs[k]? = some r -> xss[k]? = some xs -> hh[r]? = some (.list (iVs xs))
theorem set_ge {h t : MH} {r : Nat} {o : MObj} (hr : h.length <= r) : (h ++ t).set r o = h ++ t.set (r - h.length) o := List.set_append_right _ _ hr
theorem AdjO.push {h hh : MH} {rs : List Nat} {xss : List (List Nat)} {k r s : Nat} {xs : List Nat} (A : AdjO h hh rs xss) (hr : rs[k]? = some r) (hx : xss[k]? = some xs) : AdjO h (hh.set r (.list (iVs (xs ++ [s])))) rs (xss.set k (xs ++ [s])) := by
 obtain ⟨t,rfl⟩ := A.app
 have hm := A.low r (List.mem_of_getElem? hr)
 refine ⟨⟨_,set_ge (Nat.le_of_lt hm)⟩,zal (by omega) A.at0,by rw [List.length_set]; exact A.len,A.low,A.nd,fun k' r' xs' hr' hx' => ?_⟩
 by_cases e : k = k'
 ·subst e
  rw [hr] at hr'; cases hr'
  rw [List.getElem?_set_self (zaB hx)] at hx'; cases hx'
  exact zan (A.row k r xs hr hx)
 ·rw [List.getElem?_set_ne e] at hx'
  refine zal (fun q => ?_) (A.row k' r' xs' hr' hx')
  subst q
  obtain ⟨l1,e1⟩ := List.getElem?_eq_some_iff.mp hr
  obtain ⟨l2,e2⟩ := List.getElem?_eq_some_iff.mp hr'
  exact e (List.getElem_inj A.nd |>.mp (e1.trans e2.symm))
theorem AdjO.isAdj {h hh : MH} {rs : List Nat} {xss : List (List Nat)} (A : AdjO h hh rs xss) : IsAdj hh h.length xss := ⟨rs,A.at0,A.len,A.row⟩
section
variable {R : Rg} {d : Nat} {h h0 : MH} {Q : Val -> MH -> Prop} {L : Ly} {M : Mc R.α}
structure zaR (M : Mc R.α) (i j : Nat) (xss : List (List Nat)) : Prop where
 len : xss.length = M.arcs.length
 sum : (xss.map List.length).sum = ((M.arcs.take i).map List.length).sum + j
 mem : ∀ (k : Nat) xs,xss[k]? = some xs -> ∀ s,s ∈ xs ↔ ∃ ys,M.arcs[s]? = some ys /\ ((s < i /\ ∃ a ∈ ys,a.t = k) \/ (s = i /\ ∃ a ∈ ys.take j,a.t = k))
theorem zaR.step {i j k : Nat} {xss : List (List Nat)} {xs : List Nat} {ys : List (Ar R.α)} {a : Ar R.α} (B : zaR M i j xss) (hy : M.arcs[i]? = some ys) (ha : ys[j]? = some a) (hk : a.t = k) (hx : xss[k]? = some xs) : zaR M i (j + 1) (xss.set k (xs ++ [i])) := by
 obtain ⟨hkl,e⟩ := List.getElem?_eq_some_iff.mp hx
 subst e
 refine ⟨by rw [List.length_set]; exact B.len,by rw [len_set hkl,B.sum]; omega,fun k' xs' hx' s => ?_⟩
 have tk : ∀ {b},b ∈ ys.take (j + 1) ↔ b ∈ ys.take j \/ b = a := fun {b} => by
  rw [List.take_succ,ha,List.mem_append]; simp
 by_cases e : k = k'
 ·subst e
  rw [List.getElem?_set_self hkl] at hx'; cases hx'
  rw [List.mem_append,B.mem k _ hx s,List.mem_singleton]
  constructor
  ·rintro (⟨zs,h1,h2 | ⟨h2,b,h3,h4⟩⟩ | rfl)
   ·exact ⟨zs,h1,.inl h2⟩
   ·exact ⟨zs,h1,.inr ⟨h2,b,by subst h2; rw [hy] at h1; cases h1; exact tk.mpr (.inl h3),h4⟩⟩
   ·exact ⟨ys,hy,.inr ⟨rfl,a,tk.mpr (.inr rfl),hk⟩⟩
  ·rintro ⟨zs,h1,h2 | ⟨rfl,b,h3,h4⟩⟩
   ·exact .inl ⟨zs,h1,.inl h2⟩
   ·exact .inr rfl
 ·rw [List.getElem?_set_ne e] at hx'
  rw [B.mem k' xs' hx' s]
  constructor
  ·rintro ⟨zs,h1,h2 | ⟨h2,b,h3,h4⟩⟩
   ·exact ⟨zs,h1,.inl h2⟩
   ·exact ⟨zs,h1,.inr ⟨h2,b,by subst h2; rw [hy] at h1; cases h1; exact tk.mpr (.inl h3),h4⟩⟩
  ·rintro ⟨zs,h1,h2 | ⟨h2,b,h3,h4⟩⟩
   ·exact ⟨zs,h1,.inl h2⟩
   ·refine ⟨zs,h1,.inr ⟨h2,b,?_,h4⟩⟩
    subst h2; rw [hy] at h1; cases h1
    rcases tk.mp h3 with h3 | rfl
    ·exact h3
    ·exact absurd (hk.symm.trans h4) e
theorem zaR.next {i : Nat} {xss : List (List Nat)} {ys : List (Ar R.α)} (B : zaR M i ys.length xss) (hy : M.arcs[i]? = some ys) : zaR M (i + 1) 0 xss := by
 obtain ⟨hil,e⟩ := List.getElem?_eq_some_iff.mp hy
 refine ⟨B.len,?_,fun k xs hx s => ?_⟩
 ·rw [B.sum,List.take_succ_eq_append_getElem hil,List.map_append,List.sum_append,e]; simp
 ·rw [B.mem k xs hx s]
  constructor
  ·rintro ⟨zs,h1,⟨h2,h3⟩ | ⟨h2,h3⟩⟩
   ·exact ⟨zs,h1,.inl ⟨by omega,h3⟩⟩
   ·subst h2; rw [hy] at h1; cases h1
    rw [List.take_length] at h3
    exact ⟨ys,hy,.inl ⟨Nat.lt_succ_self _,h3⟩⟩
  ·rintro ⟨zs,h1,⟨h2,h3⟩ | ⟨h2,b,h3,_⟩⟩
   ·by_cases e : s = i
    ·subst e; rw [hy] at h1; cases h1
     exact ⟨ys,hy,.inr ⟨rfl,by rw [List.take_length]; exact h3⟩⟩
    ·exact ⟨zs,h1,.inl ⟨by omega,h3⟩⟩
   ·exact absurd h3 List.not_mem_nil
theorem back_ok (hd : 2 <= d) (I : IsM R h L M) (ht : ∀ ys ∈ M.arcs,∀ a ∈ ys,a.t < M.arcs.length) (q : ∀ t xss,zaR M M.arcs.length 0 xss -> IsAdj (h ++ t) h.length xss -> Q (.ref h.length) (h ++ t)) : WF P0 d 123 [.ref L.m] h Q := by
 refine zar (K:=1) hd (some (.ref L.m) :: nn 9) rfl rfl rfl fun d' h' => ?_
 unfold bd_machine__backward
 have hn : (L.rows.map Val.ref).length < 200000 := by
  rw [List.length_map,I.len]; exact Nat.lt_of_le_of_lt I.lim (by decide)
 repeat fail
 refine we_compJ (a:=L.aA) (vs:=L.rows.map .ref) (fun _ ys t => ys = (List.range' (h.length + 1) ys.length).map Val.ref /\ t = List.replicate ys.length (.list [])) hn (zay hn) ?_
 repeat fail
 refine zac I.obj rfl rfl ⟨rfl,I.arcs,⟨rfl,rfl⟩,fun ys t v J hv => ?_,fun ys t hl J => ?_⟩
 ·obtain ⟨J1,J2⟩ := J
  repeat fail
  refine ⟨[.list []],by rw [List.append_assoc]; rfl,?_,?_⟩
  ·have e1 : ∀ y : Val,(ys ++ [y]).length = ys.length + 1 := fun y => by rw [List.length_append]; rfl
   rw [e1,List.range'_concat,List.map_append,<- J1]
   congr 2
   rw [List.length_append,List.length_cons,J2,List.length_replicate]
   congr 1; omega
  ·have e1 : ∀ y : Val,(ys ++ [y]).length = ys.length + 1 := fun y => by rw [List.length_append]; rfl
   rw [e1,List.replicate_succ',<- J2]
 obtain ⟨J1,J2⟩ := J
 rw [List.length_map,I.len] at hl
 rw [hl] at J1 J2
 subst J1; subst J2
 have A0 : AdjO h (h ++ MObj.list ((List.range' (h.length + 1) M.arcs.length).map Val.ref) :: List.replicate M.arcs.length (.list [])) (List.range' (h.length + 1) M.arcs.length) (List.replicate M.arcs.length []) := by
  refine ⟨⟨_,rfl⟩,zah,by rw [List.length_range',List.length_replicate],fun r hr => ?_,List.nodup_range' ..,fun k r xs hr hx => ?_⟩
  ·have := (List.mem_range'_1.mp hr).1; omega
  ·obtain ⟨hk,e⟩ := List.getElem?_eq_some_iff.mp hr
   rw [List.getElem_range'] at e
   rw [List.length_range'] at hk
   rw [List.getElem?_replicate,if_pos hk] at hx
   cases hx
   rw [<- e,show h.length + 1 + 1 * k = h.length + (k + 1) by omega,get_n]
   show (List.replicate _ _)[k]? = _
   rw [List.getElem?_replicate,if_pos hk]; rfl
 generalize (h ++ MObj.list ((List.range' (h.length + 1) M.arcs.length).map Val.ref) :: List.replicate M.arcs.length (.list [])) = hh at *
 have B0 : zaR M 0 0 (List.replicate M.arcs.length []) := by
  refine ⟨List.length_replicate,by simp,fun k xs hx s => ?_⟩
  rw [List.getElem?_replicate] at hx
  have : xs = [] := by
   by_cases hk : k < M.arcs.length
   ·rw [if_pos hk] at hx; exact (Option.some.inj hx).symm
   ·rw [if_neg hk] at hx; exact nomatch hx
  subst this
  constructor
  ·exact fun h => absurd h List.not_mem_nil
  ·rintro ⟨ys,_,⟨h1,_⟩ | ⟨_,b,h1,_⟩⟩
   ·exact absurd h1 (Nat.not_lt_zero _)
   ·exact absurd h1 List.not_mem_nil
 have im : ∀ {hh : MH} {rs : List Nat} {xss : List (List Nat)},AdjO h hh rs xss -> IsM R hh L M := fun A => by obtain ⟨t,rfl⟩ := A.app; exact I.app
 repeat fail
 refine zcD (n:=M.arcs.length) (Nat.lt_of_le_of_lt I.lim (by show 10000 < 200000; decide)) (zay (Nat.lt_of_le_of_lt I.lim (by decide))) (fun i fr hh => ∃ rs xss o2 o3,fr = some (.ref L.m) :: some (.ref h.length) :: o2 :: o3 :: nn 6 /\ AdjO h hh rs xss /\ zaR M i 0 xss) ?_ ?_ ?_
 ·repeat fail
  refine zaf (zag (im A0).obj rfl rfl) (zaM h' (im A0) ?_)
  repeat fail
  exact ⟨rfl,_,_,none,none,rfl,A0,B0⟩
 ·rintro i hi fr hh ⟨rs,xss,o2,o3,rfl,A,B⟩
  obtain ⟨r,hr,as,ha,hal,hax⟩ := I.row hi
  have hie := List.getElem?_eq_getElem hi
  have hmem := List.getElem_mem hi
  have hxl := I.rowlt hmem
  generalize M.arcs[i] = ys at *
  have up : ∀ {hh : MH} {rs : List Nat} {xss : List (List Nat)} {a : Nat} {o : MObj},AdjO h hh rs xss -> h[a]? = some o -> hh[a]? = some o := fun A e => by obtain ⟨t,rfl⟩ := A.app; exact zab e
  repeat fail
  refine ws_forL (a:=r) (vs:=as.map .ref) (by rw [List.length_map,hal]; exact hxl) (fun j fr hh => ∃ rs xss o3,fr = some (.ref L.m) :: some (.ref h.length) :: some (.int i) :: o3 :: nn 6 /\ AdjO h hh rs xss /\ zaR M i j xss) ?_ ?_ ?_ ?_
  ·rintro j fr hh ⟨rs,xss,o3,_,A,_⟩; exact up A ha
  ·repeat fail
   refine zac (im A).obj rfl rfl ?_
   repeat fail
   exact zax (i:=i) (im A).arcs (zcv hr) ⟨rfl,rs,xss,o3,rfl,A,B⟩
  ·rintro j v hv fr hh ⟨rs,xss,o3,rfl,A,B⟩
   obtain ⟨b,hb,rfl⟩ := zbf hv
   have hjl : j < ys.length := by rw [<- hal]; exact zaB hb
   have hje := List.getElem?_eq_getElem hjl
   have hx := hax j b _ hb hje
   have htg := ht ys hmem _ (List.getElem_mem hjl)
   generalize ys[j] = x at *
   have hkl : x.t < rs.length := by rw [A.len,B.len]; exact htg
   have hkx : x.t < xss.length := by rw [B.len]; exact htg
   have hr' := List.getElem?_eq_getElem hkl
   have hx' := List.getElem?_eq_getElem hkx
   have hrow := A.row _ _ _ hr' hx'
   have hlen : xss[x.t].length < 1000000 := by
    have h1 := len_sum (List.getElem_mem hkx)
    have h2 := B.sum
    have h3 : ((M.arcs.take i).map List.length).sum + ys.length <= M.cnt := by
     rw [<- I.ct]
     have : M.arcs = M.arcs.take i ++ ys :: M.arcs.drop (i + 1) := by
      conv => lhs; rw [<- List.take_append_drop i M.arcs]
      rw [List.drop_eq_getElem_cons hi]
      congr 2
      exact Option.some.inj ((List.getElem?_eq_getElem hi).symm.trans hie)
     conv => rhs; rw [this]
     rw [List.map_append,List.sum_append,List.map_cons,List.sum_cons]
     omega
    have h4 := I.cl
    omega
   repeat fail
   refine zac (up A hx) rfl rfl (zax (i:=x.t) A.at0 (zcv hr') ?_)
   repeat fail
   refine zaT hrow hrow (by rw [zaA]; exact hlen) ?_
   repeat fail
   have e : iVs xss[x.t] ++ [Val.int i] = iVs (xss[x.t] ++ [i]) := by unfold iVs; rw [List.map_append]; rfl
   rw [e]
   exact ⟨rs,_,_,rfl,A.push hr' hx',B.step hie hje rfl hx'⟩
  ·rintro fr hh ⟨rs,xss,o3,rfl,A,B⟩
   rw [List.length_map,hal] at B
   repeat fail
   exact ⟨rs,xss,_,_,rfl,A,B.next hie⟩
 ·rintro fr hh ⟨rs,xss,o2,o3,rfl,A,B⟩
  repeat fail
  obtain ⟨t,e⟩ := A.app
  have A' := A.isAdj
  subst e
  exact q t xss B A'
end
end Hd
namespace Hd
open Mi
noncomputable def numE : List Nat -> Nat -> List (Val × Val)
 | [],_ => []
 | k :: r,o => (.int (k : Int),.int (o : Int)) :: numE r (o + 1)
theorem kEq_int {a b : Nat} : kEq (.int a) (.int b) = (a == b) := by
 show PySem.PyData.eqv (.int a) (.int b) = _
 simp only [PySem.PyData.eqv]
 by_cases h : a = b
 ·subst h; simp
 ·rw [beq_false_of_ne h,beq_false_of_ne]; omega
theorem numE_len {l : List Nat} : ∀ {o : Nat},(numE l o).length = l.length := by
 induction l with
 | nil => exact rfl
 | cons k l ih => exact congrArg (· + 1) ih
theorem zaD {k k' v : Val} {es : List (Val × Val)} : dget ((k',v) :: es) k = bif kEq k' k then some v else dget es k := by
 unfold dget
 rw [List.find?_cons]
 cases kEq k' k <;> rfl
theorem zcT {l : List Nat} {k : Nat} : ∀ {o : Nat},dget (numE l o) (.int k) = if k ∈ l then some (.int ((o + l.idxOf k : Nat) : Int)) else none := by
 induction l with
 | nil => intro o; rfl
 | cons x l ih =>
  intro o
  show dget ((.int (x : Int),.int (o : Int)) :: numE l (o + 1)) _ = _
  rw [zaD,kEq_int,ih]
  by_cases h : x = k
  ·subst h; simp
  ·rw [beq_false_of_ne h,cond_false,List.idxOf_cons,beq_false_of_ne h,cond_false]
   by_cases hk : k ∈ l
   ·rw [if_pos hk,if_pos (List.mem_cons_of_mem _ hk)]
    congr 2; omega
   ·rw [if_neg hk,if_neg fun q => (List.mem_cons.mp q).elim (fun e => h e.symm) hk]
theorem numE_snoc {l : List Nat} {k : Nat} : ∀ {o : Nat},numE (l ++ [k]) o = numE l o ++ [(.int (k : Int),.int ((o + l.length : Nat) : Int))] := by
 induction l with
 | nil => intro o; rfl
 | cons x l ih =>
  intro o
  show _ :: numE (l ++ [k]) (o + 1) = _
  rw [ih,show o + (x :: l).length = o + 1 + l.length by rw [List.length_cons]; omega]; rfl
theorem zb8 {l : List Nat} {k o : Nat} : zaj (numE l o) (.int k) = true := by cases l <;> rfl
theorem numE_put {l : List Nat} {k : Nat} (hk : k ∉ l) {v : Val} (hv : v = .int (l.length : Nat)) : dput (numE l 0) (.int k) v = numE (l ++ [k]) 0 := by
 unfold dput
 rw [zcT,if_neg hk,numE_snoc,hv,Nat.zero_add]; rfl
section
variable {h : MH} {Q : Val -> MH -> Prop} {c : Cx}
theorem wc_inN {D k : Nat} {ep : Option Nat} {l : List Nat} (hD : h[D]? = some (.dict ep (numE l 0))) (q : Q (.bool (decide (k ∈ l))) h) : WC .isin (.int k) (.ref D) h Q := by
 refine wc_in (r:=decide (k ∈ l)) ?_ q
 show alt ((zaq h (.ref D)).bind _) ((zaY h (.ref D)).bind fun d => grd (zaj d.2 (.int k)) (some (dget d.2 (.int k)).isSome)) = _
 rw [zcV hD,zcY hD]
 show grd (zaj (numE l 0) (.int k)) (some (dget (numE l 0) (.int k)).isSome) = _
 rw [zb8,zcT]
 by_cases hk : k ∈ l
 ·rw [if_pos hk,decide_eq_true hk]; rfl
 ·rw [if_neg hk,decide_eq_false hk]; rfl
theorem wi_N {D k : Nat} {ep : Option Nat} {l : List Nat} (hD : h[D]? = some (.dict ep (numE l 0))) (hk : k ∈ l) (q : Q (.int (l.idxOf k : Nat)) h) : WI (.ref D) (.int k) h Q :=
 wi_dict hD zb8 (by rw [zcT,if_pos hk,Nat.zero_add]) q
theorem wc_ninL {a k : Nat} {l : List Nat} (ha : h[a]? = some (.list (iVs l))) (q : Q (.bool (!decide (k ∈ l))) h) : WC .notin (.int k) (.ref a) h Q := by
 refine zcF (r:=decide (k ∈ l)) ?_ q
 show alt ((zaq h (.ref a)).bind fun vs => anyEq h (.int k) vs) _ = _
 rw [za7 ha]
 show alt (anyEq h (.int k) (iVs l)) _ = _
 have e : (iVs l).mapM (toD h 7) = some (l.map fun (x : Nat) => PySem.PyData.int x) := by
  clear ha q
  unfold iVs
  induction l with
  | nil => rfl
  | cons x l ih => rw [List.map_cons,List.mapM_cons,ih]; rfl
 have e2 : anyEq h (.int k) (iVs l) = some (decide (k ∈ l)) := by
  unfold anyEq
  rw [e]
  show some ((l.map fun (x : Nat) => PySem.PyData.int x).any fun y => PySem.PyData.eqv y (.int k)) = _
  congr 1
  rw [List.any_map]
  clear ha q e
  induction l with
  | nil => rfl
  | cons x l ih =>
   have ex : PySem.PyData.eqv (.int (x : Int)) (.int (k : Int)) = (x == k) := kEq_int
   rw [List.any_cons,ih]
   show (PySem.PyData.eqv (.int (x : Int)) (.int (k : Int)) || decide (k ∈ l)) = _
   rw [ex]
   by_cases hx : x = k
   ·subst hx; simp
   ·rw [beq_false_of_ne hx,Bool.false_or]
    by_cases hk : k ∈ l
    ·rw [decide_eq_true hk,decide_eq_true (List.mem_cons_of_mem _ hk)]
    ·rw [decide_eq_false hk,decide_eq_false fun q => (List.mem_cons.mp q).elim (fun e => hx e.symm) hk]
 rw [e2]; rfl
end
section
variable {R : Rg} {h h' : MH} {S : List Nat}
theorem Kept.pre {g t : MH} (K : Kept (g ++ t) h' S) (hs : ∀ a ∈ S,g.length <= a) : ∃ t',h' = g ++ t' := by
 refine ⟨h'.drop g.length,?_⟩
 have hl := K.len
 rw [List.length_append] at hl
 have : g = h'.take g.length := by
  refine zbE (by rw [List.length_take]; omega) fun i o hi => ?_
  have hlt := zbe hi
  rw [List.getElem?_take,if_pos hlt]
  exact K.at' i o (fun q => absurd (hs i q) (Nat.not_le.mpr hlt)) (zab hi)
 conv => rhs; lhs; rw [this]
 exact (List.take_append_drop ..).symm
end
end Hd
namespace Hd
open Mi
section
variable {R : Rg} {d : Nat} {h h0 : MH} {Q : Val -> MH -> Prop} {L : Ly} {M : Mc R.α}
structure zbW (M : Mc R.α) (p k : Nat) : Prop where
 st : M.start < M.arcs.length
 arc : ∀ ys ∈ M.arcs,∀ a ∈ ys,a.t < M.arcs.length /\ lab a.up /\ lab a.lo /\ R.D p k a.w /\ a.w ≠ R.zero
 fst : R.D p k M.first
 ed : ∀ e ∈ M.ends,R.D p k e
 bd : 4 * p + k <= 3800
 n : M.arcs.length <= 300
 c : M.cnt <= 300
noncomputable def onw (M : Mc R.α) : List (List Nat) := M.arcs.map fun r => r.map Ar.t
noncomputable def closed (xss : List (List Nat)) (mb : List Bool) : Prop := ∀ (s : Nat) xs,mb[s]? = some true -> xss[s]? = some xs -> ∀ o ∈ xs,mb[o]? = some true
noncomputable def endP (M : Mc R.α) (k : Nat) : Bool := !@decide (M.ends[k]?.getD R.zero = R.zero) (R.deq _ _)
structure TrimBy (M : Mc R.α) (ks : List Nat) (mb1 mb2 : List Bool) (xss : List (List Nat)) : Prop where
 l1 : mb1.length = M.arcs.length
 m1 : MetBy [M.start] (onw M) mb1
 c1 : closed (onw M) mb1
 l2 : mb2.length = M.arcs.length
 m2 : MetBy (pick (endP M) M.arcs.length) xss mb2
 c2 : closed xss mb2
 b2 : zaR M M.arcs.length 0 xss
 ks : ks = pick (fun k => mb1[k]?.getD false && mb2[k]?.getD false) M.arcs.length
noncomputable def aAt (M : Mc R.α) (k : Nat) : List (Ar R.α) := M.arcs[k]?.getD []
noncomputable def eAt (M : Mc R.α) (k : Nat) : R.α := M.ends[k]?.getD R.zero
noncomputable def zbm (ks : List Nat) (xs : List (Ar R.α)) : List (Ar R.α) := xs.filterMap fun a => if a.t ∈ ks then some { a with t := ks.idxOf a.t } else none
inductive zbK (M : Mc R.α) (ks : List Nat) (T : Mc R.α) : Prop
 | full (h1 : M.start ∈ ks) (h2 : M.first ≠ R.zero) (ha : T.arcs = ks.map fun k => zbm ks (aAt M k)) (he : T.ends = ks.map (eAt M)) (hs : T.start = ks.idxOf M.start) (hf : T.first = M.first) : zbK M ks T
 | bare (h1 : M.start ∉ ks \/ M.first = R.zero) (ha : T.arcs = [[]]) (he : T.ends = [R.zero]) (hs : T.start = 0) (hf : T.first = R.one) : zbK M ks T
theorem zcN {p : Nat -> Bool} {n k : Nat} (h : k ∈ pick p n) : k < n /\ p k = true := by
 have := List.mem_filter.mp h
 exact ⟨List.mem_range.mp this.1,this.2⟩
theorem pick_nd {p : Nat -> Bool} {n : Nat} : (pick p n).Nodup := List.nodup_range.filter _
theorem IsM.end_at (I : IsM R h L M) {k : Nat} (hk : k < M.arcs.length) : (M.ends.map R.e)[k]? = some (R.e (eAt M k)) := by
 have : k < M.ends.length := by rw [I.lenE]; exact hk
 unfold eAt
 rw [List.getElem?_map,List.getElem?_eq_getElem this]; rfl
structure TS (h g : MH) (m D aK : Nat) (ks l : List Nat) (L : Ly) (M : Mc R.α) : Prop where
 pre : ∃ t,g = h ++ t
 kK : g[aK]? = some (.list (iVs ks))
 dD : ∃ ep,g[D]? = some (.dict ep (numE l 0))
 I : IsM R g L M
 em : L.m = m
 own : ∀ a ∈ own L,h.length <= a /\ a ≠ aK /\ a ≠ D
theorem TS.kept {g g' : MH} {m D aK : Nat} {ks l : List Nat} {L' : Ly} {M' : Mc R.α} (S : TS h g m D aK ks l L M) (K : Kept g g' (Hd.own L)) (I' : IsM R g' L' M') (em : L'.m = L.m) (ho : ∀ a ∈ Hd.own L',a ∈ Hd.own L \/ g.length <= a) : TS h g' m D aK ks l L' M' := by
 obtain ⟨t,rfl⟩ := S.pre
 obtain ⟨ep,hD⟩ := S.dD
 have lt : h.length <= (h ++ t).length := by rw [List.length_append]; omega
 have l1 := zbe S.kK
 have l2 := zbe hD
 refine ⟨K.pre fun a ha => (S.own a ha).1,K.at' _ _ (fun q => (S.own _ q).2.1 rfl) S.kK,⟨ep,K.at' _ _ (fun q => (S.own _ q).2.2 rfl) hD⟩,I',em.trans S.em,fun a ha => ?_⟩
 rcases ho a ha with ha | ha
 ·exact S.own a ha
 ·exact ⟨by omega,by omega,by omega⟩
theorem IsM.other {D : Nat} {ep : Option Nat} {es : List (Val × Val)} {o : MObj} (I : IsM R h L M) (hD : h[D]? = some (.dict ep es)) : IsM R (h.set D o) L M := by
 have g : ∀ (a : Nat) (x : MObj),h[a]? = some x -> (∀ ep es,x ≠ .dict ep es) -> (h.set D o)[a]? = some x := fun a x e hn => zal (fun q => by subst q; exact hn _ _ (Option.some.inj (e.symm.trans hD))) e
 refine ⟨g _ _ I.obj nofun,g _ _ I.arcs nofun,g _ _ I.ends nofun,I.len,I.lenE,fun k r xs hr hx => ?_,I.nd,I.lim,I.ct,I.cl⟩
 refine (I.rows k r xs hr hx).mono fun a x e ho => ?_
 rcases ho with ⟨y,rfl⟩ | rfl
 ·exact g _ _ e nofun
 ·obtain ⟨as,h1,_⟩ := I.rows k a xs hr hx
  refine g _ _ e ?_
  rw [h1] at e; cases e
  nofun
theorem TS.put {g : MH} {m D aK x : Nat} {ks l : List Nat} {ep : Option Nat} (S : TS h g m D aK ks l L M) (hh : h.length <= D) (hx : x ∉ l) : TS h (g.set D (.dict ep (numE (l ++ [x]) 0))) m D aK ks (l ++ [x]) L M := by
 obtain ⟨ep',hD⟩ := S.dD
 obtain ⟨t,rfl⟩ := S.pre
 exact ⟨⟨_,set_ge hh⟩,zal (zbg hD S.kK nofun) S.kK,⟨ep,zan hD⟩,S.I.other hD,S.em,S.own⟩
theorem zcR {r : Nat} : ∀ a ∈ Hd.own (L.more r),a ∈ Hd.own L \/ a = r := fun a ha => by
 simp only [Hd.own,Ly.more,List.mem_cons,List.mem_append,List.not_mem_nil,or_false] at ha ⊢
 rcases ha with h | h | h | h | h
 ·exact .inl (.inl h)
 ·exact .inl (.inr (.inl h))
 ·exact .inl (.inr (.inr (.inl h)))
 ·exact .inl (.inr (.inr (.inr h)))
 ·exact .inr h
structure ST (M : Mc R.α) (ks : List Nat) (i j : Nat) (T : Mc R.α) : Prop where
 al : T.arcs.length = ks.length
 a : ∀ (m k : Nat),ks[m]? = some k -> T.arcs[m]? = some (if m < i then zbm ks (aAt M k) else if m = i then zbm ks ((aAt M k).take j) else [])
 e : ∀ (m k : Nat),ks[m]? = some k -> T.ends[m]? = some (if m < i then eAt M k else R.zero)
 c : T.cnt <= i * 300 + j
theorem zcp {ks : List Nat} {xs : List (Ar R.α)} {a : Ar R.α} : zbm ks (xs ++ [a]) = zbm ks xs ++ if a.t ∈ ks then [{ a with t := ks.idxOf a.t }] else [] := by
 unfold zbm
 rw [List.filterMap_append]
 congr 1
 by_cases h : a.t ∈ ks
 ·simp [h]
 ·simp [h]
theorem ST.skip {ks : List Nat} {i j k : Nat} {T : Mc R.α} {a : Ar R.α} (S : ST M ks i j T) (hk : ks[i]? = some k) (ha : (aAt M k)[j]? = some a) (hn : a.t ∉ ks) : ST M ks i (j + 1) T := by
 refine ⟨S.al,fun m k' hk' => ?_,S.e,Nat.le_succ_of_le S.c⟩
 rw [S.a m k' hk']
 by_cases h1 : m < i
 ·rw [if_pos h1,if_pos h1]
 ·rw [if_neg h1,if_neg h1]
  by_cases h2 : m = i
  ·subst h2
   rw [hk] at hk'; cases hk'
   rw [if_pos rfl,if_pos rfl,List.take_succ,ha]
   show some _ = some (zbm ks (_ ++ [a]))
   rw [zcp,if_neg hn,List.append_nil]
  ·rw [if_neg h2,if_neg h2]
theorem ST.add {ks : List Nat} {i j k : Nat} {T : Mc R.α} {a : Ar R.α} (S : ST M ks i j T) (hk : ks[i]? = some k) (ha : (aAt M k)[j]? = some a) (hn : a.t ∈ ks) : ST M ks i (j + 1) (T.arc i { a with t := ks.idxOf a.t }) := by
 have hi : i < T.arcs.length := by rw [S.al]; exact zaB hk
 refine ⟨by show (T.arcs.set i _).length = _; rw [List.length_set]; exact S.al,fun m k' hk' => ?_,S.e,by have := S.c; show T.cnt + 1 <= _; omega⟩
 show (T.arcs.set i (T.arcs[i]?.getD [] ++ [{ a with t := ks.idxOf a.t }]))[m]? = _
 by_cases h2 : i = m
 ·subst h2
  rw [hk] at hk'; cases hk'
  rw [List.getElem?_set_self hi,S.a i k hk,if_neg (Nat.lt_irrefl _),if_pos rfl,if_neg (Nat.lt_irrefl _),if_pos rfl,List.take_succ,ha]
  show some _ = some (zbm ks (_ ++ [a]))
  rw [zcp,if_pos hn]; rfl
 ·rw [List.getElem?_set_ne h2,S.a m k' hk']
  by_cases h1 : m < i
  ·rw [if_pos h1,if_pos h1]
  ·rw [if_neg h1,if_neg h1,if_neg (Ne.symm h2),if_neg (Ne.symm h2)]
theorem ST.next {ks : List Nat} {i k : Nat} {T : Mc R.α} (S : ST M ks i (aAt M k).length T) (hk : ks[i]? = some k) (hl : (aAt M k).length <= 300) (hE : T.ends.length = T.arcs.length) : ST M ks (i + 1) 0 { T with ends := T.ends.set i (eAt M k) } := by
 have hi : i < T.ends.length := by rw [hE,S.al]; exact zaB hk
 refine ⟨S.al,fun m k' hk' => ?_,fun m k' hk' => ?_,by have := S.c; show T.cnt <= _; omega⟩
 ·rw [S.a m k' hk']
  by_cases h1 : m < i
  ·rw [if_pos h1,if_pos (Nat.lt_succ_of_lt h1)]
  ·rw [if_neg h1]
   by_cases h2 : m = i
   ·subst h2
    rw [hk] at hk'; cases hk'
    rw [if_pos rfl,if_pos (Nat.lt_succ_self _),List.take_length]
   ·rw [if_neg h2,if_neg (by omega)]
    by_cases h3 : m = i + 1
    ·rw [if_pos h3]; rfl
    ·rw [if_neg h3]
 ·show (T.ends.set i (eAt M k))[m]? = _
  by_cases h2 : i = m
  ·subst h2
   rw [hk] at hk'; cases hk'
   rw [List.getElem?_set_self hi,if_pos (Nat.lt_succ_self _)]
  ·rw [List.getElem?_set_ne h2,S.e m k' hk']
   by_cases h1 : m < i
   ·rw [if_pos h1,if_pos (Nat.lt_succ_of_lt h1)]
   ·rw [if_neg h1,if_neg (by omega)]
structure TrS (R : Rg) where
 g : MH
 L : Ly
 M : Mc R.α
 a : Option Val
 b : Option Val
structure TX (R : Rg) where
 h : MH
 L : Ly
 M : Mc R.α
 ks : List Nat
 m : Nat
 D : Nat
 aK : Nat
 o1 : Option Val
 o3 : Option Val
 o4 : Option Val
 p : Nat
 k : Nat
noncomputable def tFr (X : TX R) (a b : Option Val) : Mi.Frame := some (.ref X.L.m) :: X.o1 :: a :: X.o3 :: X.o4 :: some (.ref X.aK) :: some (.ref X.m) :: some (.ref X.D) :: b :: nn 6
structure TOk (X : TX R) : Prop where
 I : IsM R X.h X.L X.M
 G : zbW X.M X.p X.k
 ks : ∀ x ∈ X.ks,x < X.M.arcs.length
 nk : X.ks.Nodup
 n : X.ks.length <= 300
 D : X.h.length <= X.D
noncomputable abbrev TSx (X : TX R) (l : List Nat) (s : TrS R) : Prop := TS X.h s.g X.m X.D X.aK X.ks l s.L s.M
variable {X : TX R} {R' : Fl -> Mi.Frame -> MH -> Prop}
theorem TS.im {g : MH} {m D aK : Nat} {ks l : List Nat} {L1 : Ly} {M1 : Mc R.α} (S : TS h g m D aK ks l L1 M1) (I : IsM R h L M) : IsM R g L M := by obtain ⟨t,rfl⟩ := S.pre; exact I.app
theorem TS.up {g : MH} {m D aK : Nat} {ks l : List Nat} {L1 : Ly} {M1 : Mc R.α} (S : TS h g m D aK ks l L1 M1) {a : Nat} {o : MObj} (e : h[a]? = some o) : g[a]? = some o := by obtain ⟨t,rfl⟩ := S.pre; exact zab e
structure TP1 (X : TX R) (i : Nat) (s : TrS R) : Prop where
 S : TSx X (X.ks.take i) s
 a : s.M.arcs = List.replicate i []
 e : s.M.ends = List.replicate i R.zero
 c : s.M.cnt = 0
theorem t1_ok {i x : Nat} {s : TrS R} (hd : 5 <= d) (O : TOk X) (P : TP1 X i s) (hx : X.ks[i]? = some x) (q : ∀ s',TP1 X (i + 1) s' -> R' .nx (tFr X s'.a s'.b) s'.g) :
  WSs (Cxd P0 d) [.asg (.sb (.var 7) (.var 2)) (.meth (.var 6) 495873782885 [])] (tFr X (some (.int x)) s.b) s.g R' := by
 have S := P.S
 have hi := zaB hx
 have hn := O.n
 have em := S.em
 have hl1 : s.M.arcs.length = i := by rw [P.a,List.length_replicate]
 have hxn : x ∉ X.ks.take i := fun hq => by
  obtain ⟨j,hj,e⟩ := List.mem_iff_getElem.mp hq
  rw [List.length_take] at hj
  rw [List.getElem_take] at e
  have := List.getElem_inj O.nk |>.mp (e.trans (List.getElem?_eq_some_iff.mp hx).2.symm)
  omega
 have et : X.ks.take i ++ [x] = X.ks.take (i + 1) := by rw [List.take_succ,hx]; rfl
 have ob : s.g[X.m]? = some (mO R s.L s.M) := em ▸ S.I.obj
 repeat fail
 refine zaf (zag ob rfl rfl) (em ▸ zbX (by omega) S.I (by omega) fun g' I' K => ?_)
 have S' := S.kept (K.sub fun a ha => by
  simp only [List.mem_cons,List.not_mem_nil,or_false] at ha
  rcases ha with rfl | rfl
  ·exact .tail _ (.head _)
  ·exact .tail _ (.tail _ (.head _))) I' rfl fun a ha => (zcR a ha).imp id fun e => by omega
 obtain ⟨ep,hD⟩ := S'.dD
 repeat fail
 refine setSub_d hD zb8 (by rw [numE_len,List.length_take]; show _ < 1000000; omega) ?_
 rw [numE_put hxn (by rw [List.length_take,hl1,Nat.min_eq_left (by omega)])]
 have S'' := S'.put (ep:=bif (dget (numE (X.ks.take i) 0) (.int x)).isSome then ep else ep.map (· + 1)) O.D hxn
 rw [et] at S'' ⊢
 repeat fail
 exact q ⟨_,s.L.more s.g.length,s.M.more,_,s.b⟩ ⟨S'',by show s.M.arcs ++ [[]] = _; rw [P.a,List.replicate_succ'],by show s.M.ends ++ [R.zero] = _; rw [P.e,List.replicate_succ'],P.c⟩
structure TP2 (X : TX R) (i j : Nat) (s : TrS R) : Prop where
 S : TSx X X.ks s
 T : ST X.M X.ks i j s.M
noncomputable abbrev tB2 : List Sm := [.ite (.cmp .isin (.attr (.var 8) 127961880028532) (.var 7)) [.expr (.meth (.var 6) 6386275 [.sub (.var 7) (.var 2),.attr (.var 8) 504397587826,.attr (.var 8) 465726563698,.attr (.var 8) 131277443786868,.sub (.var 7) (.attr (.var 8) 127961880028532)])] []]
theorem t2_ok {i j x b : Nat} {y : Ar R.α} {s : TrS R} (hd : 5 <= d) (O : TOk X) (P : TP2 X i j s) (hx : X.ks[i]? = some x) (hje : (aAt X.M x)[j]? = some y) (hj : j < 300) (hA : X.h[b]? = some (arcO R y)) (ga : y.t < X.M.arcs.length /\ lab y.up /\ lab y.lo /\ R.D X.p X.k y.w /\ y.w ≠ R.zero)
  (q : ∀ s',TP2 X i (j + 1) s' -> R' .nx (tFr X (some (.int x)) s'.b) s'.g) : WSs (Cxd P0 d) tB2 (tFr X (some (.int x)) (some (.ref b))) s.g R' := by
 have S := P.S
 have T := P.T
 have em := S.em
 have hn := O.n
 have hA' := S.up hA
 have hil := zaB hx
 have hix : X.ks.idxOf x = i := by
  rw [<- (List.getElem?_eq_some_iff.mp hx).2]; exact O.nk.idxOf_getElem i hil
 obtain ⟨ep,hD⟩ := S.dD
 have ob : s.g[X.m]? = some (mO R s.L s.M) := em ▸ S.I.obj
 repeat fail
 refine zac hA' rfl rfl ?_
 repeat fail
 refine wc_inN hD ?_
 repeat fail
 refine br (fun hk => ?_) (fun hk => ?_)
 ·have hk := dT hk
  have hc := T.c
  have : i * 300 <= 299 * 300 := Nat.mul_le_mul_right _ (by omega)
  repeat fail
  refine wi_N hD (List.mem_of_getElem? hx) ?_
  rw [hix]
  repeat fail
  refine zac hA' rfl rfl ?_
  repeat fail
  refine zac hA' rfl rfl ?_
  repeat fail
  refine zac hA' rfl rfl ?_
  repeat fail
  refine zac hA' rfl rfl ?_
  repeat fail
  refine wi_N hD hk ?_
  repeat fail
  refine zaf (zag ob rfl rfl) (em ▸ arc_ok (s:=i) (a:={ y with t := X.ks.idxOf y.t }) (by omega) S.I (by rw [T.al]; exact hil) (by show X.ks.idxOf y.t < _; rw [T.al]; exact List.idxOf_lt_length_iff.mpr hk) ga.2.1 ga.2.2.1 ga.2.2.2.1 O.G.bd (by omega) fun g' M' I' K _ hM => ?_)
  repeat fail
  have hM := hM ga.2.2.2.2
  subst hM
  exact q ⟨g',s.L,_,s.a,_⟩ ⟨S.kept K I' rfl fun a ha => .inl ha,T.add hx hje hk⟩
 ·repeat fail
  exact q ⟨s.g,s.L,s.M,s.a,_⟩ ⟨S,T.skip hx hje (dF hk)⟩
theorem t3_ok {i x : Nat} {s : TrS R} (hd : 5 <= d) (O : TOk X) (P : TP2 X i 0 s) (hx : X.ks[i]? = some x) (q : ∀ s',TP2 X (i + 1) 0 s' -> R' .nx (tFr X s'.a s'.b) s'.g) :
  WSs (Cxd P0 d) [.fo [8] false (.sub (.attr (.var 0) 1634886515) (.var 2)) tB2,.asg (.sb (.attr (.var 6) 1701733491) (.sub (.var 7) (.var 2))) (.sub (.attr (.var 0) 1701733491) (.var 2))] (tFr X (some (.int x)) s.b) s.g R' := by
 have hxk := List.mem_of_getElem? hx
 have hxn := O.ks x hxk
 have hil := zaB hx
 have hix : X.ks.idxOf x = i := by
  rw [<- (List.getElem?_eq_some_iff.mp hx).2]; exact O.nk.idxOf_getElem i hil
 obtain ⟨r,hr,as,ha,hal,hax⟩ := O.I.row hxn
 have hae : aAt X.M x = X.M.arcs[x] := by unfold aAt; rw [List.getElem?_eq_getElem hxn]; rfl
 have hmem := List.getElem_mem hxn
 rw [<- hae] at hal hax hmem
 have hxl : (aAt X.M x).length <= 300 := Nat.le_trans (O.I.cr _ hmem) O.G.c
 refine zcB (za2 (a:=r) (vs:=as.map .ref) (fun s' : TrS R => tFr X (some (.int x)) s'.b) TrS.g (fun j => TP2 X i j) (by rw [List.length_map,hal]; exact Nat.lt_of_le_of_lt hxl (by show 300 < 200000; decide)) s (fun j s' P => P.S.up ha) ?_ (fun j v s' R1 hv P1 T1 => ?_) fun s' P1 => ?_)
 ·repeat fail
  refine zac (P.S.im O.I).obj rfl rfl ?_
  repeat fail
  exact zax (i:=x) (P.S.im O.I).arcs (zcv hr) ⟨rfl,rfl,rfl,P⟩
 ·obtain ⟨b,hb,rfl⟩ := zbf hv
  have hjl : j < (aAt X.M x).length := by rw [<- hal]; exact zaB hb
  have hje := List.getElem?_eq_getElem hjl
  exact zbT (t2_ok hd O P1 hx hje (Nat.lt_of_lt_of_le hjl hxl) (hax j b _ hb hje) (O.G.arc _ hmem _ (List.getElem_mem hjl)) T1.nx)
 ·rw [List.length_map,hal] at P1
  have S := P1.S
  have em := S.em
  obtain ⟨ep,hD⟩ := S.dD
  have ob : s'.g[X.m]? = some (mO R s'.L s'.M) := em ▸ S.I.obj
  repeat fail
  refine zac (S.im O.I).obj rfl rfl ?_
  repeat fail
  refine zax (i:=x) (S.im O.I).ends (O.I.end_at hxn) ?_
  repeat fail
  refine zac ob rfl rfl ?_
  repeat fail
  refine wi_N hD hxk ?_
  rw [hix]
  refine setE_ok S.I (by rw [P1.T.al]; exact hil) fun g' I' K => ?_
  repeat fail
  exact q ⟨g',s'.L,_,some (.int x),s'.b⟩ ⟨S.kept K I' rfl fun a ha => .inl ha,P1.T.next hx hxl S.I.lenE⟩
theorem trimB_ok {p k : Nat} {g : MH} {ks : List Nat} {aK : Nat} {o1 o2 o3 o4 : Option Val} (hd : 5 <= d) (I : IsM R h L M) (G : zbW M p k) (hks : ∀ x ∈ ks,x < M.arcs.length) (nk : ks.Nodup) (eg : ∃ t,g = h ++ t) (hK : g[aK]? = some (.list (iVs ks)))
  (q : ∀ t L' T,IsM R (h ++ t) L' T -> (∀ a ∈ own L',h.length <= a) -> zbK M ks T -> Q (.ref L'.m) (h ++ t)) : WSs (Cxd P0 d) (bd_machine_trim.drop 5) (some (.ref L.m) :: o1 :: o2 :: o3 :: o4 :: some (.ref aK) :: nn 9) g (Mi.Fin Q) := by
 obtain ⟨t0,rfl⟩ := eg
 unfold bd_machine_trim
 simp only [List.drop_succ_cons,List.drop_zero]
 have I0 : IsM R (h ++ t0) L M := I.app
 repeat fail
 refine zac I0.obj rfl rfl ?_
 repeat fail
 refine new_ok (by omega) fun t1 J => ?_
 rw [List.append_assoc] at J
 have hl0 : h.length <= (h ++ t0).length := by rw [List.length_append]; omega
 have hK1 : (h ++ (t0 ++ t1))[aK]? = some (.list (iVs ks)) := by rw [<- List.append_assoc]; exact zab hK
 have hKl : aK < (h ++ t0).length := zbe hK
 rw [List.append_assoc]
 have I1 : IsM R (h ++ (t0 ++ t1)) L M := I.app
 generalize hm : (h ++ t0).length = m at *
 generalize t0 ++ t1 = t at *
 repeat fail
 refine zac I1.obj rfl rfl ?_
 repeat fail
 refine wc_ninL hK1 ?_
 repeat fail
 have bare : (M.start ∉ ks \/ M.first = R.zero) -> WSs (Cxd P0 d) [.expr (.meth (.var 6) 495873782885 []),.ret (.var 6)] (some (.ref L.m) :: o1 :: o2 :: o3 :: o4 :: some (.ref aK) :: some (.ref m) :: nn 8) (h ++ t) (Beh (Cxd P0 d) (bd_machine_trim.drop 7) (Mi.Fin Q)) := fun hb => by
  repeat fail
  refine zaf (zag J.obj rfl rfl) (zbX (by omega) J (by show 0 < 10000; decide) fun h' J' K => ?_)
  obtain ⟨t',rfl⟩ := K.pre (S:=[m + 1,m + 2]) (by intro a ha; simp only [List.mem_cons,List.not_mem_nil,or_false] at ha; rcases ha with rfl | rfl <;> omega)
  repeat fail
  refine q t' _ _ J' (fun a ha => ?_) (.bare hb rfl rfl rfl rfl)
  have hlt : h.length <= (h ++ t).length := by rw [List.length_append]; omega
  simp only [own,Ly.more,List.nil_append,List.mem_cons,List.not_mem_nil,or_false] at ha
  rcases ha with rfl | rfl | rfl | rfl <;> omega
 refine br (fun hs => ?_) (fun hs => ?_)
 ·have hs' := dT hs
  repeat fail
  refine zac I1.obj rfl rfl ?_
  repeat fail
  refine zac I1.obj rfl rfl ?_
  repeat fail
  refine R.nought (R.eq ?_)
  repeat fail
  refine br (fun hz => ?_) (fun hz => ?_)
  ·exact bare (.inr (dT hz))
  have hz := dF hz
  have hD0 : ((h ++ t) ++ [MObj.dict (some 0) []])[(h ++ t).length]? = some (.dict (some 0) []) := zah
  have hml : m + 2 < (h ++ t).length := zbe J.ends
  have hhm : h.length <= m := hl0
  have hhD : h.length <= (h ++ t).length := by rw [List.length_append]; omega
  have S0 : TS h ((h ++ t) ++ [MObj.dict (some 0) []]) m (h ++ t).length aK ks [] ⟨m,m + 1,m + 2,[]⟩ (M0 (R:=R)) := by
   refine ⟨⟨_,List.append_assoc ..⟩,zab hK1,⟨_,hD0⟩,J.app,rfl,fun a ha => ?_⟩
   simp only [Hd.own,List.mem_cons,List.not_mem_nil,or_false] at ha
   rcases ha with rfl | rfl | rfl <;> exact ⟨by omega,by omega,by omega⟩
  generalize hDe : (h ++ t).length = D at *
  have knl : ks.length <= 300 := by
   have := nk.length_le_of_subset (l₂:=List.range M.arcs.length) fun x hx => List.mem_range.mpr (hks x hx)
   rw [List.length_range] at this
   have := G.n
   omega
  have O : TOk (⟨h,L,M,ks,m,D,aK,o1,o3,o4,p,k⟩ : TX R) := ⟨I,G,hks,nk,knl,hhD⟩
  repeat fail
  refine Wo.of (a:=[]) rfl ?_
  rw [hDe]
  repeat fail
  refine za2 (a:=aK) (vs:=iVs ks) (fun s : TrS R => tFr ⟨h,L,M,ks,m,D,aK,o1,o3,o4,p,k⟩ s.a s.b) TrS.g (fun i => TP1 (⟨h,L,M,ks,m,D,aK,o1,o3,o4,p,k⟩ : TX R) i) (by rw [zaA]; exact Nat.lt_of_le_of_lt knl (by show 300 < 200000; decide)) ⟨(h ++ t) ++ [MObj.dict (some 0) []],⟨m,m + 1,m + 2,[]⟩,M0,o2,none⟩ (fun i s P => P.S.kK) ?_ (fun i v s R1 hv P1 T1 => ?_) fun s P1 => ?_
  ·repeat fail
   exact ⟨rfl,rfl,rfl,S0,rfl,rfl,rfl⟩
  ·obtain ⟨x,hx,rfl⟩ := zcX hv
   exact zbT (t1_ok hd O P1 hx T1.nx)
  have T0 : TP2 (⟨h,L,M,ks,m,D,aK,o1,o3,o4,p,k⟩ : TX R) 0 0 s := by
   have S := P1.S
   have e1 := P1.a
   have e2 := P1.e
   have e3 := P1.c
   rw [zaA] at S e1 e2
   unfold TSx at S
   rw [List.take_length] at S
   refine ⟨S,by rw [e1,List.length_replicate],fun m k hk => ?_,fun m k hk => ?_,by omega⟩
   ·rw [e1,List.getElem?_replicate,if_pos (zaB hk),if_neg (Nat.not_lt_zero _)]
    by_cases h0 : m = 0
    ·rw [if_pos h0]; rfl
    ·rw [if_neg h0]
   ·rw [e2,List.getElem?_replicate,if_pos (zaB hk),if_neg (Nat.not_lt_zero _)]
  repeat fail
  refine za2 (a:=aK) (vs:=iVs ks) (fun s : TrS R => tFr ⟨h,L,M,ks,m,D,aK,o1,o3,o4,p,k⟩ s.a s.b) TrS.g (fun i => TP2 (⟨h,L,M,ks,m,D,aK,o1,o3,o4,p,k⟩ : TX R) i 0) (by rw [zaA]; exact Nat.lt_of_le_of_lt knl (by show 300 < 200000; decide)) s (fun i s P => P.S.kK) ?_ (fun i v s R1 hv P1 T1 => ?_) fun s P2 => ?_
  ·repeat fail
   exact ⟨rfl,rfl,rfl,T0⟩
  ·obtain ⟨x,hx,rfl⟩ := zcX hv
   exact zbT (t3_ok hd O P1 hx T1.nx)
  have S : TS h s.g m D aK ks ks s.L s.M := P2.S
  have T : ST M ks (iVs ks).length 0 s.M := P2.T
  rw [zaA] at T
  have Ig : IsM R s.g L M := S.im I
  have em := S.em
  have ob : s.g[m]? = some (mO R s.L s.M) := em ▸ S.I.obj
  obtain ⟨ep,hD⟩ := S.dD
  repeat fail
  refine zac Ig.obj rfl rfl ?_
  repeat fail
  refine wi_N hD hs' ?_
  repeat fail
  refine zac Ig.obj rfl rfl ?_
  repeat fail
  refine zaf (zag ob rfl rfl) (em ▸ begin_ok (s:=ks.idxOf M.start) (by omega) S.I (by rw [T.al]; exact List.idxOf_lt_length_iff.mpr hs') G.fst G.bd fun g' I' K => ?_)
  repeat fail
  have S' := S.kept K I' rfl fun a ha => .inl ha
  obtain ⟨t',rfl⟩ := S'.pre
  refine em ▸ q t' s.L _ I' (fun a ha => (S'.own a ha).1) (.full hs' hz ?_ ?_ rfl rfl)
  ·refine zbE (by rw [List.length_map]; exact T.al) fun m y hy => ?_
   have hm : m < ks.length := by rw [<- T.al]; exact zaB hy
   have := T.a m _ (List.getElem?_eq_getElem hm)
   rw [if_pos hm] at this
   rw [List.getElem?_map,List.getElem?_eq_getElem hm]
   exact this.symm.trans hy
  ·refine zbE (by rw [List.length_map]; exact S.I.lenE.trans T.al) fun m y hy => ?_
   have hm : m < ks.length := by rw [<- T.al,<- S.I.lenE]; exact zaB hy
   have := T.e m _ (List.getElem?_eq_getElem hm)
   rw [if_pos hm] at this
   rw [List.getElem?_map,List.getElem?_eq_getElem hm]
   exact this.symm.trans hy
 ·exact zcz (br_not (za0 hs (br_f (bare (.inl (dF hs))))))
end
end Hd
namespace Hd
open Mi
section
variable {R : Rg} {d : Nat} {h h0 : MH} {Q : Val -> MH -> Prop} {L : Ly} {M : Mc R.α}
theorem bk_len {xss : List (List Nat)} (B : zaR M M.arcs.length 0 xss) (I : IsM R h L M) (G : ∀ ys ∈ M.arcs,∀ a ∈ ys,a.t < M.arcs.length) : ∀ xs ∈ xss,xs.length < 200000 /\ ∀ o ∈ xs,o < M.arcs.length := fun xs hx => by
 have h1 := len_sum hx
 have h2 := B.sum
 rw [List.take_length,I.ct] at h2
 have h3 := I.cl
 refine ⟨by omega,fun o ho => ?_⟩
 obtain ⟨k,hk,rfl⟩ := List.mem_iff_getElem.mp hx
 obtain ⟨ys,hy,_⟩ := (B.mem k _ (List.getElem?_eq_getElem hk) o).mp ho
 exact zaB hy
theorem trim_ok {p k : Nat} (hd : 6 <= d) (I : IsM R h L M) (G : zbW M p k) (q : ∀ t L' T ks mb1 mb2 xss,IsM R (h ++ t) L' T -> (∀ a ∈ own L',h.length <= a) -> TrimBy M ks mb1 mb2 xss -> zbK M ks T -> Q (.ref L'.m) (h ++ t)) : WF P0 d 133 [.ref L.m] h Q := by
 refine zar (K:=5) hd (some (.ref L.m) :: nn 14) rfl rfl rfl fun d' h' => ?_
 have tail : ∀ {g : MH} {ks : List Nat} {aK : Nat} {o1 o2 o3 o4 : Option Val},_ := @trimB_ok R d' h (Q:=Q) L M p k
 unfold bd_machine_trim
 have hn := G.st
 have hN := G.n
 have htg : ∀ ys ∈ M.arcs,∀ a ∈ ys,a.t < M.arcs.length := fun ys hy a ha => (G.arc ys hy a ha).1
 repeat fail
 refine zaf (zag I.obj rfl rfl) (zaM (by omega) I ?_)
 repeat fail
 refine za0 (s:=false) (beq_false_of_ne (by omega)) ?_
 repeat fail
 refine zac I.obj rfl rfl ?_
 repeat fail
 refine zaC rfl (onward_ok (by omega) I.app fun t1 b A1 => ?_)
 repeat fail
 refine zaC rfl (met_ok (fs:=[M.start]) (by omega) I.app.app (zab zah) A1 (List.length_map ..) (fun s hs => by rw [List.mem_singleton.mp hs]; exact hn) (by show 1 <= 10000; decide) ?_ fun mb1 t2 l1 m1 c1 hm1 => ?_)
 ·intro xs hx
  obtain ⟨ys,hy,rfl⟩ := List.mem_map.mp hx
  refine ⟨by rw [List.length_map]; exact I.rowlt hy,fun o ho => ?_⟩
  obtain ⟨a,ha,rfl⟩ := List.mem_map.mp ho
  exact htg ys hy a ha
 have hg : ((h ++ [MObj.list [.int M.start]]) ++ t1) ++ t2 = h ++ ([MObj.list [.int M.start]] ++ t1 ++ t2) := by simp only [List.append_assoc]
 generalize ((h ++ [MObj.list [.int M.start]]) ++ t1).length + 1 = a1 at *
 rw [hg] at hm1 ⊢
 generalize [MObj.list [.int M.start]] ++ t1 ++ t2 = t at *
 repeat fail
 have Ig : IsM R (h ++ t) L M := I.app
 refine we_compF (x:=9) (n:=M.arcs.length) (endP M) (by show _ < 200000; omega) (zay (by omega)) ?_
 repeat fail
 refine zaf (zag Ig.obj rfl rfl) (zaM (by omega) Ig ?_)
 repeat fail
 refine ⟨rfl,fun i hi acc => ?_,fun i => rfl,?_⟩
 ·have Ia : IsM R (h ++ t ++ [.list acc]) L M := Ig.app
  repeat fail
  refine zac Ia.obj rfl rfl ?_
  repeat fail
  refine zax (i:=i) Ia.ends (I.end_at hi) ?_
  repeat fail
  refine zac Ia.obj rfl rfl ?_
  repeat fail
  refine R.nought (R.ne ?_)
  unfold endP eAt
  repeat fail
  exact br (fun hb => ⟨rfl,by rw [hb]; rfl⟩) fun hb => ⟨rfl,by rw [hb]; rfl⟩
 rw [List.append_assoc]
 have hm1' : (h ++ (t ++ [MObj.list (iVs (pick (endP M) M.arcs.length))]))[a1]? = some (.list (mb1.map Val.bool)) := by rw [<- List.append_assoc]; exact zab hm1
 have he1 : (h ++ (t ++ [MObj.list (iVs (pick (endP M) M.arcs.length))]))[(h ++ t).length]? = some (.list (iVs (pick (endP M) M.arcs.length))) := by rw [<- List.append_assoc]; exact zah
 generalize (h ++ t).length = aE at *
 generalize t ++ [MObj.list (iVs (pick (endP M) M.arcs.length))] = t' at *
 clear hm1 Ig
 repeat fail
 refine zaC rfl (back_ok (by omega) I.app htg fun t3 xss B2 A2 => ?_)
 repeat fail
 refine zaC rfl (met_ok (fs:=pick (endP M) M.arcs.length) (by omega) I.app.app (zab he1) A2 B2.len (fun s hs => (zcN hs).1) (Nat.le_trans zcO I.lim) (bk_len B2 I htg) fun mb2 t4 l2 m2 c2 hm2 => ?_)
 have hm1 := zab (t:=t4) (zab (t:=t3) hm1')
 generalize ((h ++ t') ++ t3).length + 1 = a2 at *
 have hg : ((h ++ t') ++ t3) ++ t4 = h ++ (t' ++ t3 ++ t4) := by simp only [List.append_assoc]
 rw [hg] at hm1 hm2 ⊢
 generalize t' ++ t3 ++ t4 = t at *
 have Ig : IsM R (h ++ t) L M := I.app
 repeat fail
 refine we_compF (x:=9) (n:=M.arcs.length) (fun k => mb1[k]?.getD false && mb2[k]?.getD false) (by show _ < 200000; omega) (zay (by omega)) ?_
 repeat fail
 refine zaf (zag Ig.obj rfl rfl) (zaM (by omega) Ig ?_)
 repeat fail
 refine ⟨rfl,fun i hi acc => ?_,fun i => rfl,?_⟩
 ·have h1 : mb1[i]? = some (mb1[i]'(by omega)) := List.getElem?_eq_getElem (by omega)
  have h2 : mb2[i]? = some (mb2[i]'(by omega)) := List.getElem?_eq_getElem (by omega)
  rw [h1,h2]
  repeat fail
  refine zax (i:=i) (zab hm1) (zc2 h1) ?_
  repeat fail
  show Br mb1[i] _ _
  refine br (fun hb => ?_) (fun hb => ?_)
  ·repeat fail
   refine zax (i:=i) (zab hm2) (zc2 h2) ?_
   repeat fail
   rw [hb]
   exact br (fun hb => ⟨rfl,by simp [hb]⟩) fun hb => ⟨rfl,by simp [hb]⟩
  ·rw [hb]
   repeat fail
   exact ⟨rfl,rfl⟩
 rw [List.append_assoc]
 refine zch ?_
 refine tail (by omega) I G (fun x hx => (zcN hx).1) pick_nd ⟨_,rfl⟩ (by rw [<- List.append_assoc]; exact zah) fun t' L' T J ho TR => q t' L' T _ mb1 mb2 xss J ho ⟨l1,m1,c1,l2,m2,c2,B2,rfl⟩ TR
end
end Hd
namespace Hd
open Mi
noncomputable abbrev keyT (i j : Nat) : Val := .tup [.int (i : Int),.int (j : Int)]
theorem kEq_T {i j i' j' : Nat} : kEq (keyT i j) (keyT i' j') = (i == i' && j == j') := by
 show PySem.PyData.eqv (.tuple [.int i,.int j]) (.tuple [.int i',.int j']) = _
 have e : ∀ {a b : Nat},((a : Int) == (b : Int)) = (a == b) := fun {a b} => by
  by_cases h : a = b
  ·subst h; simp
  ·rw [beq_false_of_ne h,beq_false_of_ne]; omega
 simp only [PySem.PyData.eqv,PySem.PyData.eqvAll,Bool.and_true]
 rw [e,e]
noncomputable def KeysT (es : List (Val × Val)) : Prop := ∀ p ∈ es,∃ i j,p.1 = keyT i j
theorem fitsT {es : List (Val × Val)} {i j : Nat} (K : KeysT es) : zaj es (keyT i j) = true := by
 cases es with
 | nil => rfl
 | cons p r =>
  obtain ⟨a,b,e⟩ := K p (.head _)
  obtain ⟨x,y⟩ := p
  cases e
  rfl
theorem dget_mapT {es : List (Val × Val)} {i j i' j' : Nat} {v : Val} (K : KeysT es) : dget (es.map fun p => bif kEq p.1 (keyT i j) then (p.1,v) else p) (keyT i' j') = if i = i' /\ j = j' then (dget es (keyT i' j')).map fun _ => v else dget es (keyT i' j') := by
 induction es with
 | nil => by_cases h : i = i' /\ j = j' <;> simp [h] <;> rfl
 | cons p r ih =>
  obtain ⟨a,b,e⟩ := K p (.head _)
  obtain ⟨x,y⟩ := p
  cases e
  have ih := ih fun p hp => K p (.tail _ hp)
  rw [List.map_cons,kEq_T]
  by_cases h1 : a = i /\ b = j
  ·obtain ⟨rfl,rfl⟩ := h1
   rw [beq_self_eq_true,beq_self_eq_true,Bool.and_self,cond_true,zaD,zaD,kEq_T]
   by_cases h2 : a = i' /\ b = j'
   ·obtain ⟨rfl,rfl⟩ := h2
    simp
   ·have : (a == i' && b == j') = false := by
     rw [Bool.and_eq_false_iff]
     by_cases h3 : a = i'
     ·exact .inr (beq_false_of_ne fun e => h2 ⟨h3,e⟩)
     ·exact .inl (beq_false_of_ne h3)
    rw [this,cond_false,cond_false,ih]
  ·have : (a == i && b == j) = false := by
    rw [Bool.and_eq_false_iff]
    by_cases h3 : a = i
    ·exact .inr (beq_false_of_ne fun e => h1 ⟨h3,e⟩)
    ·exact .inl (beq_false_of_ne h3)
   rw [this,cond_false,zaD,zaD,kEq_T,ih]
   by_cases h2 : a = i' /\ b = j'
   ·obtain ⟨rfl,rfl⟩ := h2
    have h4 : ¬ (i = a /\ j = b) := fun h => h1 ⟨h.1.symm,h.2.symm⟩
    simp [h4]
   ·have : (a == i' && b == j') = false := by
     rw [Bool.and_eq_false_iff]
     by_cases h3 : a = i'
     ·exact .inr (beq_false_of_ne fun e => h2 ⟨h3,e⟩)
     ·exact .inl (beq_false_of_ne h3)
    rw [this,cond_false,cond_false]
theorem dget_appT {es : List (Val × Val)} {k v k' : Val} : dget (es ++ [(k,v)]) k' = (dget es k').or (bif kEq k k' then some v else none) := by
 induction es with
 | nil => rw [List.nil_append,zaD]; rfl
 | cons p r ih =>
  obtain ⟨x,y⟩ := p
  rw [List.cons_append,zaD,zaD,ih]
  cases kEq x k' <;> rfl
theorem dget_putT {es : List (Val × Val)} {i j i' j' : Nat} {v : Val} (K : KeysT es) : dget (dput es (keyT i j) v) (keyT i' j') = if i = i' /\ j = j' then some v else dget es (keyT i' j') := by
 unfold dput
 cases hg : dget es (keyT i j) with
 | some x =>
  rw [Option.isSome_some,cond_true,dget_mapT K]
  by_cases h : i = i' /\ j = j'
  ·obtain ⟨rfl,rfl⟩ := h
   rw [if_pos ⟨rfl,rfl⟩,if_pos ⟨rfl,rfl⟩,hg]; rfl
  ·rw [if_neg h,if_neg h]
 | none =>
  rw [Option.isSome_none,cond_false,dget_appT,kEq_T]
  by_cases h : i = i' /\ j = j'
  ·obtain ⟨rfl,rfl⟩ := h
   rw [if_pos ⟨rfl,rfl⟩,hg]; simp
  ·rw [if_neg h]
   have : (i == i' && j == j') = false := by
    rw [Bool.and_eq_false_iff]
    by_cases h3 : i = i'
    ·exact .inr (beq_false_of_ne fun e => h ⟨h3,e⟩)
    ·exact .inl (beq_false_of_ne h3)
   rw [this,cond_false,Option.or_none]
theorem keysT_put {es : List (Val × Val)} {i j : Nat} {v : Val} (K : KeysT es) : KeysT (dput es (keyT i j) v) /\ (dput es (keyT i j) v).length <= es.length + 1 := by
 unfold dput
 cases hg : dget es (keyT i j) with
 | some x =>
  rw [Option.isSome_some,cond_true]
  refine ⟨fun p hp => ?_,by rw [List.length_map]; omega⟩
  obtain ⟨q,hq,rfl⟩ := List.mem_map.mp hp
  cases kEq q.1 (keyT i j)
  ·exact K q hq
  ·exact K q hq
 | none =>
  rw [Option.isSome_none,cond_false]
  refine ⟨fun p hp => ?_,by rw [List.length_append]; exact Nat.le_refl _⟩
  rcases List.mem_append.mp hp with hp | hp
  ·exact K p hp
  ·rw [List.mem_singleton.mp hp]; exact ⟨i,j,rfl⟩
section
variable {R : Rg} {d : Nat} {h h0 : MH} {Q : Val -> MH -> Prop} {L : Ly} {M : Mc R.α}
noncomputable def zrow (R : Rg) (n : Nat) : List R.α := List.replicate n R.zero
structure RW (R : Rg) (h g : MH) (D N c : Nat) (Ad : Nat -> Nat -> Option Nat) (V : Nat -> Nat -> List R.α) : Prop where
 pre : ∃ t,g = h ++ t
 lowD : h.length <= D
 dd : ∃ ep es,g[D]? = some (.dict ep es) /\ KeysT es /\ es.length <= c /\ ∀ i j,dget es (keyT i j) = (Ad i j).map Val.ref
 inj : ∀ i j i' j' a,Ad i j = some a -> Ad i' j' = some a -> i = i' /\ j = j'
 low : ∀ i j a,Ad i j = some a -> h.length <= a
 row : ∀ (i j a : Nat),Ad i j = some a -> g[a]? = some (.list ((V i j).map R.e))
 non : ∀ i j,Ad i j = none -> V i j = zrow R N
 len : ∀ i j,(V i j).length = N
noncomputable def upd {β : Type} (f : Nat -> Nat -> β) (i j : Nat) (x : β) : Nat -> Nat -> β := fun a b => if a = i /\ b = j then x else f a b
theorem zak {β : Type} {f : Nat -> Nat -> β} {i j : Nat} {x : β} : upd f i j x i j = x := if_pos ⟨rfl,rfl⟩
theorem zap {β : Type} {f : Nat -> Nat -> β} {i j a b : Nat} {x : β} (h : ¬ (a = i /\ b = j)) : upd f i j x a b = f a b := if_neg h
theorem RW.app {g t : MH} {D N c : Nat} {Ad : Nat -> Nat -> Option Nat} {V : Nat -> Nat -> List R.α} (S : RW R h g D N c Ad V) : RW R h (g ++ t) D N c Ad V := by
 obtain ⟨t0,rfl⟩ := S.pre
 obtain ⟨ep,es,h1,h2⟩ := S.dd
 exact ⟨⟨_,List.append_assoc ..⟩,S.lowD,⟨ep,es,zab h1,h2⟩,S.inj,S.low,fun i j a ha => zab (S.row i j a ha),S.non,S.len⟩
theorem RW.setRow {g : MH} {D N c i j a : Nat} {Ad : Nat -> Nat -> Option Nat} {V : Nat -> Nat -> List R.α} {x : List R.α} (S : RW R h g D N c Ad V) (ha : Ad i j = some a) (hx : x.length = N) : RW R h (g.set a (.list (x.map R.e))) D N c Ad (upd V i j x) := by
 obtain ⟨t0,rfl⟩ := S.pre
 obtain ⟨ep,es,h1,h2⟩ := S.dd
 have hr := S.row i j a ha
 refine ⟨⟨_,set_ge (S.low i j a ha)⟩,S.lowD,⟨ep,es,zal (zbg hr h1 nofun) h1,h2⟩,S.inj,S.low,fun i' j' a' ha' => ?_,fun i' j' hn => ?_,fun i' j' => ?_⟩
 ·by_cases e : i' = i /\ j' = j
  ·obtain ⟨rfl,rfl⟩ := e
   rw [ha] at ha'; cases ha'
   rw [zak]; exact zan hr
  ·rw [zap e]
   exact zal (fun q => by subst q; exact e (S.inj _ _ _ _ _ ha' ha)) (S.row i' j' a' ha')
 ·rw [zap fun e => by obtain ⟨rfl,rfl⟩ := e; rw [ha] at hn; exact nomatch hn]
  exact S.non i' j' hn
 ·by_cases e : i' = i /\ j' = j
  ·obtain ⟨rfl,rfl⟩ := e; rw [zak]; exact hx
  ·rw [zap e]; exact S.len i' j'
theorem RW.put {g : MH} {D N c i j a : Nat} {ep : Option Nat} {es : List (Val × Val)} {Ad : Nat -> Nat -> Option Nat} {V : Nat -> Nat -> List R.α} {x : List R.α} (S : RW R h g D N c Ad V) (hD : g[D]? = some (.dict ep es)) (ha : g[a]? = some (.list (x.map R.e))) (hl : h.length <= a) (hn : ∀ i j,Ad i j ≠ some a) (hx : x.length = N) (ep' : Option Nat) : RW R h (g.set D (.dict ep' (dput es (keyT i j) (.ref a)))) D N (c + 1) (upd Ad i j (some a)) (upd V i j x) := by
 obtain ⟨t0,rfl⟩ := S.pre
 obtain ⟨ep0,es0,h1,K,hc,h2⟩ := S.dd
 rw [hD] at h1; cases h1
 have hk := keysT_put (i:=i) (j:=j) (v:=.ref a) K
 refine ⟨⟨_,set_ge S.lowD⟩,S.lowD,⟨ep',_,zan hD,hk.1,by have := hk.2; omega,fun i' j' => ?_⟩,fun i1 j1 i2 j2 a' e1 e2 => ?_,fun i' j' a' e => ?_,fun i' j' a' e => ?_,fun i' j' e => ?_,fun i' j' => ?_⟩
 ·rw [dget_putT K]
  by_cases e : i = i' /\ j = j'
  ·obtain ⟨rfl,rfl⟩ := e; rw [if_pos ⟨rfl,rfl⟩,zak]; rfl
  ·rw [if_neg e,zap fun q => e ⟨q.1.symm,q.2.symm⟩,h2]
 ·by_cases q1 : i1 = i /\ j1 = j <;> by_cases q2 : i2 = i /\ j2 = j
  ·exact ⟨q1.1.trans q2.1.symm,q1.2.trans q2.2.symm⟩
  ·obtain ⟨rfl,rfl⟩ := q1
   rw [zak] at e1; rw [zap q2] at e2; cases e1
   exact absurd e2 (hn _ _)
  ·obtain ⟨rfl,rfl⟩ := q2
   rw [zak] at e2; rw [zap q1] at e1; cases e2
   exact absurd e1 (hn _ _)
  ·rw [zap q1] at e1; rw [zap q2] at e2
   exact S.inj _ _ _ _ _ e1 e2
 ·by_cases q1 : i' = i /\ j' = j
  ·obtain ⟨rfl,rfl⟩ := q1; rw [zak] at e; cases e; exact hl
  ·rw [zap q1] at e; exact S.low _ _ _ e
 ·by_cases q1 : i' = i /\ j' = j
  ·obtain ⟨rfl,rfl⟩ := q1; rw [zak] at e ⊢; cases e; exact zal (zbg hD ha nofun) ha
  ·rw [zap q1] at e ⊢
   have := S.row _ _ _ e
   exact zal (zbg hD this nofun) this
 ·by_cases q1 : i' = i /\ j' = j
  ·obtain ⟨rfl,rfl⟩ := q1; rw [zak] at e; exact nomatch e
  ·rw [zap q1] at e ⊢; exact S.non _ _ e
 ·by_cases q1 : i' = i /\ j' = j
  ·obtain ⟨rfl,rfl⟩ := q1; rw [zak]; exact hx
  ·rw [zap q1]; exact S.len i' j'
end
end Hd
namespace Hd
open Mi
section
variable {R : Rg} {d : Nat} {h h0 : MH} {Q : Val -> MH -> Prop} {L : Ly} {M : Mc R.α}
theorem wsl_str {s : List Nat} {a b : Nat} (q : Q (.str (cut s (min a s.length) (min b s.length))) h) : WSl (.str s) 3 [.int a,.int b] h Q := by
 refine w_alt (zb1 ?_)
 refine Wo.of (a:=s) rfl (zb1 ?_)
 refine Wo.of (a:=(min a s.length,min b s.length)) ?_ (zaE q)
 show (zbI s.length (.int a)).bind (fun x => (zbI s.length (.int b)).map fun y => (x,y)) = _
 have e : ∀ n : Nat,zbI s.length (.int n) = some (min n s.length) := fun n => by
  unfold zbI
  simp only [Val.int?,Option.bind_some]
  rw [grd_t (decide_eq_true (by omega)),Int.toNat_natCast]
 rw [e,e]; rfl
noncomputable def fit (u : List Nat) (i : Nat) (s : List Nat) : Bool := s == [] || cut u (min i u.length) (min (i + 1) u.length) == s
theorem fits_ok {u s : List Nat} {i : Nat} (hd : 1 <= d) (q : Q (.bool (fit u i s)) h) : WF P0 d 129 [.str u,.int i,.str s] h Q := by
 refine zar (K:=0) hd (some (.str u) :: some (.int i) :: some (.str s) :: nn 6) rfl rfl rfl fun d' h' => ?_
 unfold bd_run__fits
 repeat fail
 unfold fit at q
 refine br (fun hb => ?_) (fun hb => ?_)
 ·rw [hb] at q ⊢
  repeat fail
  exact q
 ·rw [hb] at q
  repeat fail
  refine wsl_str (a:=i) (b:=i + 1) ?_
  repeat fail
  exact q
theorem first_ok (hd : 2 <= d) (I : IsM R h L M) (hs : M.start < M.arcs.length) (q : Q (.ref (h.length + 1)) (h ++ [.list [R.e R.zero],.list (((zrow R M.arcs.length).set M.start M.first).map R.e)])) : WF P0 d 128 [.ref L.m] h Q := by
 refine zar (K:=1) hd (some (.ref L.m) :: nn 7) rfl rfl rfl fun d' h' => ?_
 unfold bd_run__first
 have hN := I.lim
 repeat fail
 refine zac I.obj rfl rfl ?_
 repeat fail
 refine R.nought ?_
 repeat fail
 refine zaf (zag (zab I.obj) rfl rfl) (zaM h' I.app ?_)
 refine wb_mull (n:=M.arcs.length) zah (zay (by omega)) (by show 1 * _ <= _; rw [Nat.one_mul]; exact zay (by omega)) ?_
 rw [rep_one,List.append_assoc]
 have e1 : (h ++ [MObj.list [R.e R.zero]]).length = h.length + 1 := by rw [List.length_append]; rfl
 have e2 : List.replicate M.arcs.length (R.e R.zero) = (zrow R M.arcs.length).map R.e := (List.map_replicate ..).symm
 rw [e1,e2]
 have I1 : IsM R (h ++ ([MObj.list [R.e R.zero]] ++ [MObj.list ((zrow R M.arcs.length).map R.e)])) L M := I.app
 repeat fail
 refine zac I1.obj rfl rfl ?_
 repeat fail
 refine zac I1.obj rfl rfl ?_
 refine zbo (i:=M.start) get_n (by rw [List.length_map]; unfold zrow; rw [List.length_replicate]; exact hs) ?_
 rw [set_n,map_set']
 repeat fail
 exact q
theorem wc_notinT {D i j : Nat} {ep : Option Nat} {es : List (Val × Val)} (hD : h[D]? = some (.dict ep es)) (K : KeysT es) (q : Q (.bool (!(dget es (keyT i j)).isSome)) h) : WC .notin (keyT i j) (.ref D) h Q := by
 refine zcF (r:=(dget es (keyT i j)).isSome) ?_ q
 show alt ((zaq h (.ref D)).bind _) ((zaY h (.ref D)).bind fun d => grd (zaj d.2 (keyT i j)) (some (dget d.2 (keyT i j)).isSome)) = _
 rw [zcV hD,zcY hD]
 show grd (zaj es (keyT i j)) (some (dget es (keyT i j)).isSome) = _
 rw [fitsT K]; rfl
noncomputable def bump (r : List R.α) (s : Nat) (x : R.α) : List R.α := r.set s (R.add (r[s]?.getD R.zero) x)
theorem add_ok {g : MH} {D N c i j s p k : Nat} {Ad : Nat -> Nat -> Option Nat} {V : Nat -> Nat -> List R.α} {x : R.α} (hd : 4 <= d) (I : IsM R h L M) (S : RW R h g D N c Ad V) (hN : N = M.arcs.length) (hc : c < 100000) (hs : s < N) (hV : ∀ y ∈ V i j,R.D p k y) (hx : R.D p k x) (hl : 4 * p + k <= 3800)
  (q : ∀ g' Ad',RW R h g' D N (c + 1) Ad' (upd V i j (bump (V i j) s x)) -> (∀ i' j' a',Ad i' j' = some a' -> Ad' i' j' = some a') -> Q .none g') : WF P0 d 126 [.ref L.m,.ref D,keyT i j,.int s,R.e x] g Q := by
 refine zar (K:=3) hd (some (.ref L.m) :: some (.ref D) :: some (keyT i j) :: some (.int s) :: some (R.e x) :: nn 6) rfl rfl rfl fun d' h' => ?_
 unfold bd_run__add
 have hlim := I.lim
 have im : ∀ {g : MH} {c : Nat} {Ad : Nat -> Nat -> Option Nat} {V : Nat -> Nat -> List R.α},RW R h g D N c Ad V -> IsM R g L M := fun S => by obtain ⟨t,rfl⟩ := S.pre; exact I.app
 have hz : R.D p k R.zero := R.D_mono (Nat.zero_le _) (Nat.zero_le _) R.D_zero
 have main : ∀ {g : MH} {Ad' : Nat -> Nat -> Option Nat} {a : Nat},RW R h g D N (c + 1) Ad' V -> Ad' i j = some a -> (∀ i' j' a',Ad i' j' = some a' -> Ad' i' j' = some a') -> WSs (Cxd P0 d') (bd_run__add.drop 1) (some (.ref L.m) :: some (.ref D) :: some (keyT i j) :: some (.int s) :: some (R.e x) :: nn 6) g (Mi.Fin Q) := fun {g Ad' a} S ha hk => by
  unfold bd_run__add
  simp only [List.drop_succ_cons,List.drop_zero]
  obtain ⟨ep,es,hD,K,hcl,hget⟩ := S.dd
  have hgk : dget es (keyT i j) = some (.ref a) := by rw [hget,ha]; rfl
  have hrow := S.row i j a ha
  have hsl : s < (V i j).length := by rw [S.len]; exact hs
  have hse := List.getElem?_eq_getElem hsl
  repeat fail
  refine zac (im S).obj rfl rfl ?_
  repeat fail
  refine wi_dict hD (fitsT K) hgk ?_
  repeat fail
  refine zax (i:=s) hrow (v:=R.e (V i j)[s]) (by rw [List.getElem?_map,hse]; rfl) ?_
  repeat fail
  refine R.plus h' (hV _ (List.getElem_mem hsl)) hx hl ?_
  repeat fail
  refine wi_dict hD (fitsT K) hgk ?_
  repeat fail
  refine zbo (i:=s) hrow (by rw [List.length_map]; exact hsl) ?_
  rw [map_set']
  repeat fail
  have := S.setRow (x:=bump (V i j) s x) ha (by unfold bump; rw [List.length_set]; exact S.len i j)
  unfold bump at this
  rw [hse] at this
  refine q _ Ad' ?_ hk
  unfold bump
  rw [hse]
  exact this
 obtain ⟨ep,es,hD,K,hcl,hget⟩ := S.dd
 repeat fail
 refine wc_notinT hD K ?_
 repeat fail
 refine br (fun hb => ?_) (fun hb => ?_)
 ·cases hA : Ad i j with
  | none => rw [hget,hA] at hb; exact nomatch hb
  | some a =>
   refine zcA (zch (main (a:=a) ?_ hA fun _ _ _ e => e))
   exact ⟨S.pre,S.lowD,⟨ep,es,hD,K,by omega,hget⟩,S.inj,S.low,S.row,S.non,S.len⟩
 ·have hA : Ad i j = none := by
   cases hA : Ad i j with
   | none => rfl
   | some a => rw [hget,hA] at hb; exact nomatch hb
  repeat fail
  refine zac (im S).obj rfl rfl ?_
  repeat fail
  refine R.nought ?_
  repeat fail
  refine zaf (zag (zab (im S).obj) rfl rfl) (zaM (by omega) (im S).app ?_)
  refine wb_mull (n:=M.arcs.length) zah (zay (by omega)) (by show 1 * _ <= _; rw [Nat.one_mul]; exact zay (by omega)) ?_
  rw [rep_one]
  have e2 : List.replicate M.arcs.length (R.e R.zero) = (zrow R N).map R.e := by rw [hN]; exact (List.map_replicate ..).symm
  rw [e2]
  repeat fail
  have S2 : RW R h (g ++ [MObj.list [R.e R.zero]] ++ [MObj.list ((zrow R N).map R.e)]) D N c Ad V := S.app.app
  have hD2 := zab (t:=[MObj.list ((zrow R N).map R.e)]) (zab (t:=[MObj.list [R.e R.zero]]) hD)
  refine setSub_d hD2 (fitsT K) (by show _ < 1000000; omega) ?_
  obtain ⟨t0,hg⟩ := S.pre
  have hlg : h.length <= g.length := by rw [hg,List.length_append]; omega
  have hl1 : (g ++ [MObj.list [R.e R.zero]]).length = g.length + 1 := by rw [List.length_append]; rfl
  have S3 := S2.put (i:=i) (j:=j) (x:=zrow R N) hD2 zah (by omega) (fun i' j' e => absurd (zbe (S.row i' j' _ e)) (by omega)) (by unfold zrow; rw [List.length_replicate]) (bif (dget es (keyT i j)).isSome then ep else ep.map (· + 1))
  have eV : upd V i j (zrow R N) = V := by
   funext a b
   by_cases e : a = i /\ b = j
   ·obtain ⟨rfl,rfl⟩ := e; rw [zak]; exact (S.non _ _ hA).symm
   ·exact zap e
  rw [eV] at S3
  exact zch (zcA (zch (main S3 zak fun i' j' a' e => by rw [zap fun q => by rw [q.1,q.2,hA] at e; exact nomatch e]; exact e)))
noncomputable def dotE (r e : List R.α) : R.α := (r.zip e).foldl (fun o p => R.add o (R.mul p.1 p.2)) R.zero
theorem endN_ok {d : Nat} (hd : 4 <= d) (I : IsM R h L M) (q : Q (R.e R.zero) h) : WF P0 d 127 [.ref L.m,.none] h Q := by
 refine zar (K:=3) hd (some (.ref L.m) :: some .none :: nn 9) rfl rfl rfl fun d' h' => ?_
 unfold bd_run__ended
 repeat fail
 refine zac I.obj rfl rfl ?_
 repeat fail
 refine R.nought ?_
 repeat fail
 refine R.need_ok h' R.D_zero (by decide) ?_
 repeat fail
 exact q
theorem end_sum_ok {d a p k p' k' : Nat} {r : List R.α} (hd : 4 <= d) (I : IsM R h L M) (ha : h[a]? = some (.list (r.map R.e))) (hr : r.length = M.arcs.length) (h1 : ∀ x ∈ r,R.D p k x) (h2 : ∀ x ∈ M.ends,R.D p' k' x) (hl : 4 * (p + p') + (k + k' + M.arcs.length) <= 3800) (q : Q (R.e (dotE r M.ends)) h) : WF P0 d 127 [.ref L.m,.ref a] h Q := by
 refine zar (K:=3) hd (some (.ref L.m) :: some (.ref a) :: nn 9) rfl rfl rfl fun d' h' => ?_
 unfold bd_run__ended
 have hN := I.lim
 repeat fail
 refine zac I.obj rfl rfl ?_
 repeat fail
 refine R.nought ?_
 repeat fail
 refine zcD (n:=M.arcs.length) (Nat.lt_of_le_of_lt hN (by show 10000 < 200000; decide)) (zay (by omega)) (fun i fr hh => hh = h /\ ∃ o4,fr = some (.ref L.m) :: some (.ref a) :: some (.top (112 + R.i)) :: some (R.e (dotE (r.take i) (M.ends.take i))) :: o4 :: nn 6 /\ R.D (p + p') (k + k' + i) (dotE (r.take i) (M.ends.take i))) ?_ ?_ ?_
 ·repeat fail
  refine zaf (zag I.obj rfl rfl) (zaM (by omega) I ?_)
  repeat fail
  exact ⟨rfl,rfl,none,rfl,R.D_mono (Nat.zero_le _) (Nat.zero_le _) R.D_zero⟩
 ·rintro i hi fr hh ⟨rfl,o4,rfl,hD⟩
  have hi1 : i < r.length := by omega
  have hi2 : i < M.ends.length := by rw [I.lenE]; exact hi
  have d1 := h1 _ (List.getElem_mem hi1)
  have d2 := h2 _ (List.getElem_mem hi2)
  have dm := R.D_mono (Nat.le_refl _) (Nat.le_add_right (k + k') i) (R.D_mul d1 d2)
  have es : dotE (r.take (i + 1)) (M.ends.take (i + 1)) = R.add (dotE (r.take i) (M.ends.take i)) (R.mul r[i] M.ends[i]) := by
   unfold dotE
   rw [List.take_succ_eq_append_getElem hi1,List.take_succ_eq_append_getElem hi2,List.zip_append (by rw [List.length_take,List.length_take]; omega),List.foldl_append]; rfl
  repeat fail
  refine zax (i:=i) ha (v:=R.e r[i]) (by rw [List.getElem?_map,List.getElem?_eq_getElem hi1]; rfl) ?_
  repeat fail
  refine zac I.obj rfl rfl ?_
  repeat fail
  refine zax (i:=i) I.ends (v:=R.e M.ends[i]) (by rw [List.getElem?_map,List.getElem?_eq_getElem hi2]; rfl) ?_
  repeat fail
  refine R.times (by omega) d1 d2 (by omega) ?_
  repeat fail
  refine R.plus (by omega) hD dm (by omega) ?_
  repeat fail
  exact ⟨rfl,_,by rw [es]; rfl,by rw [es]; exact R.D_add hD dm⟩
 ·rintro fr hh ⟨rfl,o4,rfl,hD⟩
  rw [<- hr,List.take_length,hr,<- I.lenE,List.take_length] at hD
  have e1 : r.take M.arcs.length = r := by rw [<- hr,List.take_length]
  have e2 : M.ends.take M.arcs.length = M.ends := by rw [<- I.lenE,List.take_length]
  rw [e1,e2]
  repeat fail
  refine R.need_ok (by omega) hD (by rw [I.lenE]; omega) ?_
  repeat fail
  exact q
end
end Hd
namespace Hd
open Mi
section
variable {R : Rg}
theorem Rg.add_zero (a : R.α) : R.add a R.zero = a := by rw [R.add_comm]; exact R.zero_add a
theorem Rg.mul_zero (a : R.α) : R.mul a R.zero = R.zero := by rw [R.mul_comm]; exact R.zero_mul a
theorem Rg.add_mul (a b c : R.α) : R.mul (R.add a b) c = R.add (R.mul a c) (R.mul b c) := by rw [R.mul_comm,R.mul_add,R.mul_comm c a,R.mul_comm c b]
theorem Rg.swap (a b c : R.α) : R.add a (R.add b c) = R.add b (R.add a c) := by rw [<- R.add_assoc,R.add_comm a b,R.add_assoc]
noncomputable def sumL (l : List R.α) : R.α := l.foldr R.add R.zero
theorem zaF {a : R.α} {l : List R.α} : sumL (a :: l) = R.add a (sumL l) := rfl
theorem za3 {β : Type} {F G : β -> R.α} {l : List β} (h : ∀ x ∈ l,F x = G x) : sumL (l.map F) = sumL (l.map G) := congrArg sumL (List.map_congr_left h)
theorem sum_add {β : Type} {F G : β -> R.α} {y : R.α} {c : β} : ∀ {l : List β},l.Nodup -> c ∈ l -> (∀ x ∈ l,x ≠ c -> F x = G x) -> F c = R.add y (G c) -> sumL (l.map F) = R.add y (sumL (l.map G)) := by
 intro l
 induction l with
 | nil => exact fun _ h => absurd h List.not_mem_nil
 | cons x l ih =>
  intro nd hc he hy
  have nd := List.nodup_cons.mp nd
  rw [List.map_cons,List.map_cons,zaF,zaF]
  rcases List.mem_cons.mp hc with rfl | hc
  ·rw [hy,za3 fun z hz => he z (.tail _ hz) fun e => nd.1 (e ▸ hz),R.add_assoc]
  ·rw [ih nd.2 hc (fun z hz => he z (.tail _ hz)) hy,he x (.head _) fun e => nd.1 (e ▸ hc),R.swap]
noncomputable def dotF : List R.α -> (Nat -> R.α) -> Nat -> R.α
 | [],_,_ => R.zero
 | x :: r,b,o => R.add (R.mul x (b o)) (dotF r b (o + 1))
theorem zbx {n : Nat} {b : Nat -> R.α} : ∀ {o : Nat},dotF (zrow R n) b o = R.zero := by
 unfold zrow
 induction n with
 | zero => intro o; rfl
 | succ n ih =>
  intro o
  show R.add (R.mul R.zero (b o)) (dotF (List.replicate n R.zero) b (o + 1)) = _
  rw [ih,R.zero_mul,R.zero_add]
theorem dotF_bump {b : Nat -> R.α} {x : R.α} : ∀ {r : List R.α} {s o : Nat},s < r.length -> dotF (bump r s x) b o = R.add (R.mul x (b (o + s))) (dotF r b o) := by
 intro r
 induction r with
 | nil => exact fun h => absurd h (Nat.not_lt_zero _)
 | cons y r ih =>
  intro s o hs
  cases s with
  | zero =>
   show R.add (R.mul (R.add y x) (b o)) (dotF r b (o + 1)) = R.add (R.mul x (b o)) (R.add (R.mul y (b o)) (dotF r b (o + 1)))
   rw [R.add_mul,R.add_assoc,R.swap]
  | succ s =>
   have := ih (s:=s) (o:=o + 1) (Nat.lt_of_succ_lt_succ hs)
   show R.add (R.mul y (b o)) (dotF (bump r s x) b (o + 1)) = R.add (R.mul x (b (o + (s + 1)))) (R.add (R.mul y (b o)) (dotF r b (o + 1)))
   rw [this,R.swap,show o + 1 + s = o + (s + 1) by omega]
theorem dotF_drop {r : List R.α} {b : Nat -> R.α} {s : Nat} (hs : s < r.length) : dotF (r.drop s) b s = R.add (R.mul r[s] (b s)) (dotF (r.drop (s + 1)) b (s + 1)) := by
 rw [List.drop_eq_getElem_cons hs]; rfl
theorem foldl_out {l : List (R.α × R.α)} {a b : R.α} : l.foldl (fun o p => R.add o (R.mul p.1 p.2)) (R.add a b) = R.add a (l.foldl (fun o p => R.add o (R.mul p.1 p.2)) b) := by
 induction l generalizing b with
 | nil => rfl
 | cons p l ih => rw [List.foldl_cons,List.foldl_cons,R.add_assoc,ih]
theorem dotE_eq {r e : List R.α} {o : Nat} {b : Nat -> R.α} (hl : r.length = e.length) (hb : ∀ (s : Nat) x,e[s]? = some x -> b (o + s) = x) : dotE r e = dotF r b o := by
 unfold dotE
 induction r generalizing e o with
 | nil => rfl
 | cons x r ih =>
  cases e with
  | nil => exact nomatch hl
  | cons y e =>
   rw [List.zip_cons_cons,List.foldl_cons]
   show (r.zip e).foldl _ (R.add R.zero (R.mul x y)) = R.add (R.mul x (b o)) (dotF r b (o + 1))
   rw [R.add_comm R.zero,foldl_out,ih (o:=o + 1) (Nat.succ.inj hl) fun s z hz => by rw [show o + 1 + s = o + (s + 1) by omega]; exact hb (s + 1) z hz,show b o = y from hb 0 y rfl]
noncomputable def cells (n m : Nat) : List (Nat × Nat) := (List.range (n + 1)).flatMap fun i => (List.range (m + 1)).map fun j => (i,j)
theorem zbs {n m i j : Nat} : (i,j) ∈ cells n m ↔ i <= n /\ j <= m := by
 unfold cells
 simp only [List.mem_flatMap,List.mem_range,List.mem_map,Prod.mk.injEq]
 constructor
 ·rintro ⟨a,ha,b,hb,rfl,rfl⟩; omega
 ·rintro ⟨h1,h2⟩; exact ⟨i,by omega,j,by omega,rfl,rfl⟩
theorem nd_cells {n m : Nat} : (cells n m).Nodup := by
 unfold cells
 refine List.pairwise_flatMap.mpr ⟨fun i _ => ?_,List.Pairwise.imp ?_ (List.nodup_range (n:=n + 1))⟩
 ·refine List.pairwise_map.mpr (List.Pairwise.imp ?_ (List.nodup_range (n:=m + 1)))
  exact fun hab e => hab (Prod.mk.inj e).2
 ·intro a b hab x hx y hy e
  obtain ⟨j,_,rfl⟩ := List.mem_map.mp hx
  obtain ⟨j',_,rfl⟩ := List.mem_map.mp hy
  exact hab (Prod.mk.inj e).1
noncomputable def done (i j : Nat) (c : Nat × Nat) : Prop := c.1 < i \/ (c.1 = i /\ c.2 < j)
noncomputable def pot (n m : Nat) (B : Nat -> Nat -> Nat -> R.α) (i j : Nat) (V : Nat -> Nat -> List R.α) : R.α := sumL ((cells n m).map fun c => @ite _ (done i j c) (Classical.propDecidable _) R.zero (dotF (V c.1 c.2) (B c.1 c.2) 0))
variable {n m : Nat} {B : Nat -> Nat -> Nat -> R.α} {V : Nat -> Nat -> List R.α}
theorem pot_step {i j : Nat} (hi : i <= n) (hj : j <= m) : pot n m B i j V = R.add (dotF (V i j) (B i j) 0) (pot n m B i (j + 1) V) := by
 refine sum_add (c:=(i,j)) nd_cells (zbs.mpr ⟨hi,hj⟩) (fun c _ hc => ?_) ?_
 ·have : done i j c ↔ done i (j + 1) c := by
   unfold done
   constructor
   ·rintro (h | h)
    ·exact .inl h
    ·exact .inr ⟨h.1,by omega⟩
   ·rintro (h | h)
    ·exact .inl h
    ·refine .inr ⟨h.1,Nat.lt_of_le_of_ne (Nat.le_of_lt_succ h.2) fun e => hc (Prod.ext h.1 e)⟩
  by_cases h : done i j c
  ·rw [if_pos h,if_pos (this.mp h)]
  ·rw [if_neg h,if_neg fun q => h (this.mpr q)]
 ·rw [if_neg (by unfold done; simp),if_pos (by unfold done; simp),R.add_zero]
theorem pot_row {i : Nat} : pot n m B i (m + 1) V = pot n m B (i + 1) 0 V := by
 refine za3 fun c hc => ?_
 obtain ⟨a,b⟩ := c
 have := zbs.mp hc
 have e : done i (m + 1) (a,b) ↔ done (i + 1) 0 (a,b) := by unfold done; simp only; omega
 by_cases h : done i (m + 1) (a,b)
 ·rw [if_pos h,if_pos (e.mp h)]
 ·rw [if_neg h,if_neg fun q => h (e.mpr q)]
theorem pot_bump {i j a b s : Nat} {x : R.α} (ha : a <= n) (hb : b <= m) (hn : ¬ done i j (a,b)) (hs : s < (V a b).length) : pot n m B i j (upd V a b (bump (V a b) s x)) = R.add (R.mul x (B a b s)) (pot n m B i j V) := by
 refine sum_add (c:=(a,b)) nd_cells (zbs.mpr ⟨ha,hb⟩) (fun c _ hc => ?_) ?_
 ·by_cases h : done i j c
  ·rw [if_pos h,if_pos h]
  ·rw [if_neg h,if_neg h,zap fun q => hc (Prod.ext q.1 q.2)]
 ·rw [if_neg hn,if_neg hn,zak,dotF_bump hs,Nat.zero_add]
theorem pot_done {i j a b : Nat} {r : List R.α} (hn : done i j (a,b)) : pot n m B i j (upd V a b r) = pot n m B i j V := by
 refine za3 fun c _ => ?_
 by_cases h : done i j c
 ·rw [if_pos h,if_pos h]
 ·rw [if_neg h,if_neg h,zap fun q => h (by rw [show c = (a,b) from Prod.ext q.1 q.2]; exact hn)]
theorem pot_zero {i j N : Nat} (h : ∀ a b,V a b = zrow R N) : pot n m B i j V = R.zero := by
 have : ∀ l : List (Nat × Nat),sumL (l.map fun _ => R.zero) = R.zero := fun l => by
  induction l with
  | nil => rfl
  | cons x l ih => rw [List.map_cons,zaF,ih,R.zero_add]
 refine (za3 fun c _ => ?_).trans (this (cells n m))
 by_cases hd : done i j c
 ·rw [if_pos hd]
 ·rw [if_neg hd,h,zbx]
theorem pot_all : pot n m B (n + 1) 0 V = R.zero := by
 have : ∀ l : List (Nat × Nat),sumL (l.map fun _ => R.zero) = R.zero := fun l => by
  induction l with
  | nil => rfl
  | cons x l ih => rw [List.map_cons,zaF,ih,R.zero_add]
 refine (za3 fun c hc => ?_).trans (this (cells n m))
 obtain ⟨a,b⟩ := c
 have := zbs.mp hc
 rw [if_pos (by unfold done; simp only; omega)]
end
end Hd
namespace Hd
open Mi
section
variable {R : Rg} {d : Nat} {h h0 : MH} {Q : Val -> MH -> Prop} {L : Ly} {M : Mc R.α}
noncomputable def hits (u l : List Nat) (i j : Nat) (a : Ar R.α) : Bool := !a.emp && (fit u i a.up && fit l j a.lo)
noncomputable def asum (B : Nat -> Nat -> Nat -> R.α) (u l : List Nat) (i j : Nat) (xs : List (Ar R.α)) : R.α := sumL (xs.map fun a => bif hits u l i j a then R.mul a.w (B (i + a.up.length) (j + a.lo.length) a.t) else R.zero)
noncomputable def behL (M : Mc R.α) (B : Nat -> Nat -> Nat -> R.α) (u l : List Nat) (i j s : Nat) : R.α := R.add (if i = u.length /\ j = l.length then eAt M s else R.zero) (asum B u l i j (aAt M s))
theorem fit_lt {u s : List Nat} {i : Nat} (hs : lab s) (h : fit u i s = true) : i <= u.length -> i + s.length <= u.length /\ s.length <= 1 := fun hi => by
 rcases hs with rfl | ⟨c,rfl,_⟩
 ·exact ⟨by simpa using hi,by decide⟩
 ·refine ⟨?_,Nat.le_refl _⟩
  by_cases he : i = u.length
  ·subst he
   unfold fit at h
   rw [Nat.min_eq_left (Nat.le_refl _),Nat.min_eq_right (Nat.le_succ _)] at h
   unfold cut at h
   rw [List.take_length,List.drop_length] at h
   exact nomatch h
  ·show i + 1 <= _; omega
theorem emp_lab {a : Ar R.α} (h : a.emp = false) : 0 < a.up.length + a.lo.length := by
 unfold Ar.emp at h
 obtain ⟨up,lo,w,t⟩ := a
 cases up with
 | cons _ _ => show 0 < _ + 1 + _; omega
 | nil =>
  cases lo with
  | cons _ _ => show 0 < _ + (_ + 1); omega
  | nil => exact nomatch h
noncomputable def degs (R : Rg) (i j c p k : Nat) (V : Nat -> Nat -> List R.α) : Prop := ∀ a b,¬ done i j (a,b) -> ∀ x ∈ V a b,R.D (p * (a + b + 1)) (k * (a + b + 1) + c) x
theorem mem_bump {r : List R.α} {s : Nat} {x y : R.α} (hy : y ∈ bump r s x) : y ∈ r \/ y = R.add (r[s]?.getD R.zero) x := List.mem_or_eq_of_mem_set hy
theorem asum_drop {B : Nat -> Nat -> Nat -> R.α} {u l : List Nat} {i j q : Nat} {xs : List (Ar R.α)} {a : Ar R.α} (ha : xs[q]? = some a) : asum B u l i j (xs.drop q) = R.add (bif hits u l i j a then R.mul a.w (B (i + a.up.length) (j + a.lo.length) a.t) else R.zero) (asum B u l i j (xs.drop (q + 1))) := by
 obtain ⟨hq,rfl⟩ := List.getElem?_eq_some_iff.mp ha
 rw [List.drop_eq_getElem_cons hq]; rfl
structure CS (R : Rg) where
 g : MH
 Ad : Nat -> Nat -> Option Nat
 V : Nat -> Nat -> List R.α
 c : Nat
 a : Option Val := none
 b : Option Val := none
 d : Option Val := none
 e : Option Val := none
 f : Option Val := none
 k : Option Val := none
structure WX (R : Rg) where
 h : MH
 L : Ly
 M : Mc R.α
 u : List Nat
 l : List Nat
 D : Nat
 ov : Val
 p : Nat
 k : Nat
 p1 : Nat
 k1 : Nat
 pS : Nat
 kS : Nat
 B : Nat -> Nat -> Nat -> R.α
 W : R.α
structure WOk (X : WX R) : Prop where
 I : IsM R X.h X.L X.M
 G : zbW X.M X.p1 X.k1
 pp : X.p1 + X.pS <= X.p
 kk : X.k1 + X.kS <= X.k
 cl : 1 + (X.u.length + 1) * (X.l.length + 1) * (X.M.cnt + 1) < 100000
 bd : 4 * (X.p * (X.u.length + X.l.length + 2)) + (X.k * (X.u.length + X.l.length + 2) + (1 + (X.u.length + 1) * (X.l.length + 1) * (X.M.cnt + 1) + X.M.arcs.length)) <= 3800
noncomputable def wFr (X : WX R) (a b d e f k : Option Val) : Mi.Frame := some (.ref X.L.m) :: some (.str X.u) :: some (.str X.l) :: some (.top (112 + R.i)) :: some X.ov :: some (.ref X.D) :: a :: b :: d :: e :: f :: k :: nn 6
noncomputable abbrev vN (n : Nat) : Option Val := some (.int n)
noncomputable abbrev vR (n : Nat) : Option Val := some (.ref n)
structure WCell (X : WX R) (i j aR c0 : Nat) (row : List R.α) (F : R.α) : Prop where
 O : WOk X
 hi : i <= X.u.length
 hj : j <= X.l.length
 cc : c0 + X.M.cnt <= 1 + (X.u.length + 1) * (X.l.length + 1) * (X.M.cnt + 1)
 len : row.length = X.M.arcs.length
 dg : ∀ x ∈ row,R.D (X.p * (i + j + 1) + X.pS) (X.k * (i + j + 1) + X.kS + c0) x
structure CP (X : WX R) (i j aR c0 : Nat) (row : List R.α) (n : Nat) (e : R.α) (s : CS R) : Prop where
 rw' : RW R X.h s.g X.D X.M.arcs.length s.c s.Ad s.V
 lo : c0 <= s.c
 hi : s.c <= c0 + n
 dg : degs R i (j + 1) s.c X.p X.k s.V
 vr : s.V i j = row
 ad : s.Ad i j = some aR
 w : R.add (pot X.u.length X.l.length X.B i (j + 1) s.V) e = X.W
variable {X : WX R} {i j aR c0 : Nat} {row : List R.α} {F : R.α} {Rr R' : Fl -> Mi.Frame -> MH -> Prop}
theorem RW.im {g : MH} {D N c : Nat} {Ad : Nat -> Nat -> Option Nat} {V : Nat -> Nat -> List R.α} (S : RW R h g D N c Ad V) (I : IsM R h L M) : IsM R g L M := by obtain ⟨t,rfl⟩ := S.pre; exact I.app
theorem RW.up {g : MH} {D N c : Nat} {Ad : Nat -> Nat -> Option Nat} {V : Nat -> Nat -> List R.α} (S : RW R h g D N c Ad V) {a : Nat} {o : MObj} (e : h[a]? = some o) : g[a]? = some o := by obtain ⟨t,rfl⟩ := S.pre; exact zab e
theorem zbr {p a b : Nat} (h : a <= b) : p * a <= p * b := Nat.mul_le_mul_left _ h
structure Step (X : WX R) (y c0 c x : Nat) : Prop where
 p1 : X.p * (y + 1) + X.pS + X.p1 <= X.p * (x + 1)
 k1 : X.k * (y + 1) + X.kS + c0 + X.k1 <= X.k * (x + 1) + c
 b : 4 * (X.p * (x + 1)) + (X.k * (x + 1) + c) <= 3800
 t : 4 * (X.p * (y + 1) + X.pS + X.p1) + (X.k * (y + 1) + X.kS + c0 + X.k1) <= 3800
theorem ac4 (a b c d : Nat) : a + b + c + d = a + (d + b) + c := by omega
theorem step_ok (O : WOk X) {y c0 c x : Nat} (h1 : x <= X.u.length + X.l.length) (hx : y < x) (h0 : c0 <= c) (hc : c <= 1 + (X.u.length + 1) * (X.l.length + 1) * (X.M.cnt + 1)) : Step X y c0 c x := by
 have e : ∀ {p : Nat},p * (y + 1) + p <= p * (x + 1) := fun {p} => by rw [<- Nat.mul_succ]; exact zbr (Nat.succ_le_succ hx)
 have f : ∀ {p : Nat},p * (x + 1) <= p * (X.u.length + X.l.length + 2) := fun {p} => zbr (Nat.succ_le_succ (Nat.le_succ_of_le h1))
 have p1 : X.p * (y + 1) + X.pS + X.p1 <= X.p * (x + 1) := Nat.le_trans (by rw [Nat.add_assoc,Nat.add_comm X.pS]; exact Nat.add_le_add_left O.pp _) e
 have k1 : X.k * (y + 1) + X.kS + c0 + X.k1 <= X.k * (x + 1) + c := by
  rw [ac4]
  exact Nat.add_le_add (Nat.le_trans (Nat.add_le_add_left O.kk _) e) h0
 have b : 4 * (X.p * (x + 1)) + (X.k * (x + 1) + c) <= 3800 := Nat.le_trans (Nat.add_le_add (zbr f) (Nat.add_le_add f (Nat.le_trans hc (Nat.le_add_right _ _)))) O.bd
 exact ⟨p1,k1,b,Nat.le_trans (Nat.add_le_add (zbr p1) k1) b⟩
noncomputable abbrev arcB : List Sm := [.ite (.bop true [.meth (.var 10) 7598521885536580729 [],.not (.call (.lit (.top 129)) [.var 1,.var 6,.attr (.var 10) 504397587826]),.not (.call (.lit (.top 129)) [.var 2,.var 7,.attr (.var 10) 465726563698])]) [.cont] [],.asg (.nm 11) (.tup [.bin .add (.var 6) (.call (.lit (.bi 7103854)) [.attr (.var 10) 504397587826]),.bin .add (.var 7) (.call (.lit (.bi 7103854)) [.attr (.var 10) 465726563698])]),.expr (.call (.lit (.top 126)) [.var 0,.var 5,.var 11,.attr (.var 10) 127961880028532,.meth (.var 3) 499984983411 [.sub (.var 8) (.var 9),.attr (.var 10) 131277443786868]])]
theorem CP.put {n : Nat} {e e' x : R.α} {s : CS R} {g' : MH} {Ad' : Nat -> Nat -> Option Nat} {a b t : Nat} (C : WCell X i j aR c0 row F) (P : CP X i j aR c0 row n e s) (ha : a <= X.u.length) (hb : b <= X.l.length) (ht : t < X.M.arcs.length) (hn : ¬ done i (j + 1) (a,b)) (hD : R.D (X.p * (a + b + 1)) (X.k * (a + b + 1) + s.c) x)
  (S' : RW R X.h g' X.D X.M.arcs.length (s.c + 1) Ad' (upd s.V a b (bump (s.V a b) t x))) (hk : ∀ i' j' a',s.Ad i' j' = some a' -> Ad' i' j' = some a') (he : e = R.add (R.mul x (X.B a b t)) e') (z y : Option Val) : CP X i j aR c0 row (n + 1) e' ⟨g',Ad',upd s.V a b (bump (s.V a b) t x),s.c + 1,none,none,none,none,z,y⟩ := by
 have hl : t < (s.V a b).length := by rw [P.rw'.len]; exact ht
 refine ⟨S',Nat.le_succ_of_le P.lo,Nat.succ_le_succ P.hi,fun a' b' hn' y hy => ?_,?_,hk _ _ _ P.ad,?_⟩
 ·have hy : y ∈ upd s.V a b (bump (s.V a b) t x) a' b' := hy
  show R.D (X.p * (a' + b' + 1)) (X.k * (a' + b' + 1) + (s.c + 1)) y
  by_cases q : a' = a /\ b' = b
  ·obtain ⟨rfl,rfl⟩ := q
   rw [zak] at hy
   rcases mem_bump hy with hy | rfl
   ·exact R.D_mono (Nat.le_refl _) (Nat.le_succ _) (P.dg _ _ hn' y hy)
   ·rw [List.getElem?_eq_getElem hl]
    exact R.D_add (P.dg _ _ hn' _ (List.getElem_mem hl)) hD
  ·rw [zap q] at hy
   exact R.D_mono (Nat.le_refl _) (Nat.le_succ _) (P.dg a' b' hn' y hy)
 ·show upd s.V a b (bump (s.V a b) t x) i j = row
  rw [zap fun q => hn (.inr ⟨q.1.symm,by show b < j + 1; rw [<- q.2]; exact Nat.lt_succ_self _⟩)]
  exact P.vr
 ·show R.add (pot X.u.length X.l.length X.B i (j + 1) (upd s.V a b (bump (s.V a b) t x))) e' = X.W
  rw [pot_bump ha hb hn hl,<- P.w,he,<- R.add_assoc,R.add_comm (R.mul _ _)]
theorem warc_ok {s n b : Nat} {E y T : R.α} {a : Ar R.α} {st : CS R} {z : Option Val} (hd : 5 <= d) (C : WCell X i j aR c0 row F) (hs : row[s]? = some y) (hn : n < X.M.cnt) (hB : X.h[b]? = some (arcO R a)) (gt : a.t < X.M.arcs.length) (g2 : lab a.up) (g3 : lab a.lo) (g4 : R.D X.p1 X.k1 a.w)
  (P : CP X i j aR c0 row n (R.add (R.mul y (R.add (bif hits X.u X.l i j a then R.mul a.w (X.B (i + a.up.length) (j + a.lo.length) a.t) else R.zero) T)) E) st)
  (q1 : ∀ s',CP X i j aR c0 row (n + 1) (R.add (R.mul y T) E) s' -> R' .nx (wFr X (vN i) (vN j) (vR aR) (vN s) s'.f s'.k) s'.g) (q2 : ∀ s',CP X i j aR c0 row (n + 1) (R.add (R.mul y T) E) s' -> R' .ct (wFr X (vN i) (vN j) (vR aR) (vN s) s'.f s'.k) s'.g) :
  WSs (Cxd P0 d) arcB (wFr X (vN i) (vN j) (vR aR) (vN s) (vR b) z) st.g R' := by
 have S := P.rw'
 have hB := S.up hB
 have skip : hits X.u X.l i j a = false -> R' .ct (wFr X (vN i) (vN j) (vR aR) (vN s) (vR b) z) st.g := fun hh => by
  have := P.w
  rw [hh,cond_false,R.zero_add] at this
  exact q2 { st with f := vR b,k := z } ⟨S,P.lo,Nat.le_succ_of_le P.hi,P.dg,P.vr,P.ad,this⟩
 repeat fail
 refine is_emp (by omega) hB hB ?_
 repeat fail
 refine br (fun he => ?_) (fun he => ?_)
 ·refine zcz (za0 he (br_t ?_))
  repeat fail
  exact skip (by unfold hits; rw [he]; rfl)
 repeat fail
 refine zac hB rfl rfl ?_
 repeat fail
 refine zaC rfl (fits_ok (i:=i) (by omega) ?_)
 repeat fail
 refine br (fun hu => ?_) (fun hu => ?_)
 rotate_left
 ·refine zcz (br_not (za0 hu (br_f ?_)))
  repeat fail
  exact skip (by unfold hits; rw [hu,Bool.false_and,Bool.and_false])
 repeat fail
 refine zac hB rfl rfl ?_
 repeat fail
 refine zaC rfl (fits_ok (i:=j) (by omega) ?_)
 repeat fail
 refine br (fun hlo => ?_) (fun hlo => ?_)
 rotate_left
 ·repeat fail
  exact skip (by unfold hits; rw [hlo,Bool.and_false,Bool.and_false])
 have hh : hits X.u X.l i j a = true := by unfold hits; rw [he,hu,hlo]; rfl
 rw [hh,cond_true] at P
 have f1 := (fit_lt g2 hu C.hi).1
 have f3 := (fit_lt g3 hlo C.hj).1
 have f5 := emp_lab he
 have hc := P.hi
 have hc0 := C.cc
 have nds : ¬ done i (j + 1) (i + a.up.length,j + a.lo.length) := by unfold done; simp only; omega
 have T1 := step_ok C.O (y:=i + j) (c0:=c0) (c:=st.c) (x:=i + a.up.length + (j + a.lo.length)) (by omega) (by omega) P.lo (by omega)
 have hxd := C.dg y (List.mem_of_getElem? hs)
 have hm := R.D_mul hxd g4
 repeat fail
 refine zac hB rfl rfl ?_
 repeat fail
 refine zac hB rfl rfl ?_
 repeat fail
 refine zac hB rfl rfl ?_
 repeat fail
 have hRa := S.row i j aR P.ad
 rw [P.vr] at hRa
 refine zax (i:=s) hRa (v:=R.e y) (by rw [List.getElem?_map,hs]; rfl) ?_
 repeat fail
 refine zac hB rfl rfl ?_
 repeat fail
 refine R.times (Nat.le_trans (by decide) hd) hxd g4 T1.t ?_
 have cl := C.O.cl
 repeat fail
 refine zaC rfl (add_ok (i:=i + a.up.length) (j:=j + a.lo.length) (s:=a.t) (x:=R.mul y a.w) (by omega) C.O.I S rfl (by omega) gt (P.dg _ _ nds) (R.D_mono T1.p1 T1.k1 hm) T1.b fun g' Ad' S' hk => ?_)
 repeat fail
 refine q1 ⟨g',Ad',_,st.c + 1,none,none,none,none,vR b,_⟩ (P.put C f1 f3 gt nds (R.D_mono T1.p1 T1.k1 hm) S' hk ?_ _ _)
 rw [R.mul_add,R.add_assoc,R.mul_assoc]
end
end Hd
namespace Hd
open Mi
section
variable {R : Rg} {d : Nat} {h h0 : MH} {Q : Val -> MH -> Prop} {L : Ly} {M : Mc R.α} {X : WX R} {i j aR c0 : Nat} {row : List R.α} {F : R.α} {Rr R' : Fl -> Mi.Frame -> MH -> Prop}
noncomputable def zcU (M : Mc R.α) : Prop := (M.arcs.any fun r => r.any Ar.emp) = false
theorem es_ok (hd : 3 <= d) (I : IsM R h L M) (hE : zcU M) (q : Q .none h) : WF P0 d 131 [.ref L.m] h Q := by
 refine zar (K:=2) hd (some (.ref L.m) :: nn 6) rfl rfl rfl fun d' h' => ?_
 unfold bd_stars_empty_star
 repeat fail
 refine zaf (zag I.obj rfl rfl) (hasE_ok h' I ?_)
 unfold zcU at hE
 rw [hE]
 repeat fail
 exact q
theorem dotF_congr {r : List R.α} {b b' : Nat -> R.α} {o : Nat} (h : ∀ s,o <= s -> s < o + r.length -> b s = b' s) : dotF r b o = dotF r b' o := by
 induction r generalizing o with
 | nil => rfl
 | cons x r ih =>
  show R.add (R.mul x (b o)) (dotF r b (o + 1)) = R.add (R.mul x (b' o)) (dotF r b' (o + 1))
  rw [h o (Nat.le_refl _) (by rw [List.length_cons]; omega),ih fun s h1 h2 => h s (by omega) (by rw [List.length_cons]; omega)]
theorem dotF_add {r : List R.α} {b b' : Nat -> R.α} {o : Nat} : dotF r (fun s => R.add (b s) (b' s)) o = R.add (dotF r b o) (dotF r b' o) := by
 induction r generalizing o with
 | nil => exact (R.zero_add _).symm
 | cons x r ih =>
  show R.add (R.mul x (R.add (b o) (b' o))) (dotF r _ (o + 1)) = R.add (R.add (R.mul x (b o)) (dotF r b (o + 1))) (R.add (R.mul x (b' o)) (dotF r b' (o + 1)))
  rw [ih,R.mul_add,R.add_assoc,R.add_assoc]
  congr 1
  rw [R.swap]
theorem dotF_null {r : List R.α} {o : Nat} : dotF r (fun _ => R.zero) o = R.zero := by
 induction r generalizing o with
 | nil => rfl
 | cons x r ih =>
  show R.add (R.mul x R.zero) (dotF r _ (o + 1)) = _
  rw [ih,R.mul_zero,R.zero_add]
noncomputable def zbH (M : Mc R.α) (s : Nat) : Nat := ((M.arcs.take s).map List.length).sum
theorem cntTo_succ {s : Nat} (hs : s < M.arcs.length) : zbH M (s + 1) = zbH M s + M.arcs[s].length := by
 unfold zbH
 rw [List.take_succ_eq_append_getElem hs,List.map_append,List.sum_append]; simp
theorem cntTo_le (I : IsM R h L M) (s : Nat) : zbH M s <= M.cnt := by
 unfold zbH
 rw [<- I.ct]
 conv => rhs; rw [<- List.take_append_drop s M.arcs,List.map_append,List.sum_append]
 exact Nat.le_add_right _ _
noncomputable abbrev stB : List Sm := [.ite (.cmp .eq (.sub (.var 8) (.var 9)) (.attr (.var 3) 121424990136436)) [.cont] [],.fo [10] false (.sub (.attr (.var 0) 1634886515) (.var 9)) arcB]
noncomputable abbrev aSum (X : WX R) (i j : Nat) : Nat -> R.α := fun s => asum X.B X.u X.l i j (aAt X.M s)
theorem wst_ok {s : Nat} {st : CS R} (hd : 5 <= d) (C : WCell X i j aR c0 row F) (hs : s < X.M.arcs.length) (P : CP X i j aR c0 row (zbH X.M s) (R.add (dotF (row.drop s) (aSum X i j) s) F) st)
  (q1 : ∀ s',CP X i j aR c0 row (zbH X.M (s + 1)) (R.add (dotF (row.drop (s + 1)) (aSum X i j) (s + 1)) F) s' -> R' .nx (wFr X (vN i) (vN j) (vR aR) s'.e s'.f s'.k) s'.g) (q2 : ∀ s',CP X i j aR c0 row (zbH X.M (s + 1)) (R.add (dotF (row.drop (s + 1)) (aSum X i j) (s + 1)) F) s' -> R' .ct (wFr X (vN i) (vN j) (vR aR) s'.e s'.f s'.k) s'.g) :
  WSs (Cxd P0 d) stB (wFr X (vN i) (vN j) (vR aR) (vN s) st.f st.k) st.g R' := by
 have S := P.rw'
 have I := C.O.I
 have hsr : s < row.length := by rw [C.len]; exact hs
 have hse := List.getElem?_eq_getElem hsr
 have hRa := S.row i j aR P.ad
 rw [P.vr] at hRa
 have hct := cntTo_succ hs
 have hcl := cntTo_le I (s + 1)
 have hw := P.w
 rw [dotF_drop hsr] at hw
 repeat fail
 refine zax (i:=s) hRa (v:=R.e row[s]) (by rw [List.getElem?_map,hse]; rfl) ?_
 repeat fail
 refine R.nought (R.eq ?_)
 repeat fail
 refine br (fun hz => ?_) (fun hz => ?_)
 ·rw [dT hz,R.zero_mul,R.zero_add] at hw
  repeat fail
  exact q2 { st with e := vN s } ⟨S,P.lo,Nat.le_trans P.hi (by rw [hct]; omega),P.dg,P.vr,P.ad,hw⟩
 obtain ⟨r,hrr,as,ha,hal,hax⟩ := I.row hs
 have hae : aAt X.M s = X.M.arcs[s] := by unfold aAt; rw [List.getElem?_eq_getElem hs]; rfl
 have hmem := List.getElem_mem hs
 rw [show aSum X i j s = asum X.B X.u X.l i j X.M.arcs[s] from by rw [<- hae]] at hw
 generalize row[s] = y at *
 generalize X.M.arcs[s] = xs at *
 have hxl : xs.length <= 300 := Nat.le_trans (I.cr _ hmem) C.O.G.c
 rw [R.add_assoc] at hw
 generalize hE : R.add (dotF (row.drop (s + 1)) (aSum X i j) (s + 1)) F = E at *
 repeat fail
 refine za2 (a:=r) (vs:=as.map .ref) (fun s' : CS R => wFr X (vN i) (vN j) (vR aR) (vN s) s'.f s'.k) CS.g (fun q => CP X i j aR c0 row (zbH X.M s + q) (R.add (R.mul y (asum X.B X.u X.l i j (xs.drop q))) E)) (by rw [List.length_map,hal]; exact Nat.lt_of_le_of_lt hxl (by show 300 < 200000; decide)) st (fun q s' P => P.rw'.up ha) ?_ ?_ ?_
 ·repeat fail
  refine zac (S.im I).obj rfl rfl ?_
  repeat fail
  exact zax (i:=s) (S.im I).arcs (zcv hrr) ⟨rfl,rfl,rfl,S,P.lo,P.hi,P.dg,P.vr,P.ad,hw⟩
 ·intro q v s' R1 hv P1 T1
  obtain ⟨b,hb,rfl⟩ := zbf hv
  have hql : q < xs.length := by rw [<- hal]; exact zaB hb
  have hqe := List.getElem?_eq_getElem hql
  have ga := C.O.G.arc _ hmem _ (List.getElem_mem hql)
  refine zbT (warc_ok hd C hse (n:=zbH X.M s + q) (T:=asum X.B X.u X.l i j (xs.drop (q + 1))) (a:=xs[q]) (by omega) (hax q b _ hb hqe) ga.1 ga.2.1 ga.2.2.1 ga.2.2.2.1 ?_ T1.nx T1.ct)
  rw [<- asum_drop hqe]; exact P1
 ·intro s' P1
  rw [List.length_map,hal,<- hct,List.drop_length,show asum X.B X.u X.l i j [] = R.zero from rfl,R.mul_zero,R.zero_add] at P1
  repeat fail
  exact q1 { s' with e := vN s } ⟨P1.rw',P1.lo,P1.hi,P1.dg,P1.vr,P1.ad,P1.w⟩
theorem wsts_ok {st : CS R} (hd : 5 <= d) (C : WCell X i j aR c0 row F) (P : CP X i j aR c0 row 0 (R.add (dotF row (aSum X i j) 0) F) st)
  (q : ∀ s',CP X i j aR c0 row X.M.cnt F s' -> R' .nx (wFr X (vN i) (vN j) (vR aR) s'.e s'.f s'.k) s'.g) :
  WS (Cxd P0 d) (.fo [9] false (.call (.lit (.ty 491260897125)) [.meth (.var 0) 1936292453 []]) stB) (wFr X (vN i) (vN j) (vR aR) st.e st.f st.k) st.g R' := by
 have I := C.O.I
 have hn := C.O.G.n
 refine zcC (n:=X.M.arcs.length) (fun s' : CS R => wFr X (vN i) (vN j) (vR aR) s'.e s'.f s'.k) CS.g (fun s => CP X i j aR c0 row (zbH X.M s) (R.add (dotF (row.drop s) (aSum X i j) s) F)) (by show _ < 200000; omega) (zay (by omega)) st ?_ (fun s s' R1 hs P1 T1 => wst_ok hd C hs P1 T1.nx T1.ct) fun s' P1 => q s' ?_
 ·repeat fail
  refine zaf (zag (P.rw'.im I).obj rfl rfl) (zaM (by omega) (P.rw'.im I) ?_)
  repeat fail
  exact ⟨rfl,rfl,rfl,P⟩
 ·have e1 : zbH X.M X.M.arcs.length = X.M.cnt := by unfold zbH; rw [List.take_length,I.ct]
  have e2 : row.drop X.M.arcs.length = [] := by rw [<- C.len,List.drop_length]
  rw [e1,e2,show dotF [] (aSum X i j) X.M.arcs.length = R.zero from rfl,R.zero_add] at P1
  exact P1
end
end Hd
namespace Hd
open Mi
section
variable {R : Rg} {d : Nat} {h h0 : MH} {Q : Val -> MH -> Prop} {L : Ly} {M : Mc R.α} {X : WX R} {i j aR c0 : Nat} {row : List R.α} {F : R.α} {Rr R' : Fl -> Mi.Frame -> MH -> Prop}
structure OvOk (X : WX R) : Prop where
 r : X.ov = .none
 no : ∀ i j s,i <= X.u.length -> j <= X.l.length -> s < X.M.arcs.length -> X.B i j s = behL X.M X.B X.u X.l i j s
noncomputable abbrev atEnd (X : WX R) (i j : Nat) : Nat -> R.α := fun s => if i = X.u.length /\ j = X.l.length then eAt X.M s else R.zero
structure PS (X : WX R) (i j : Nat) (s : CS R) : Prop where
 rw' : RW R X.h s.g X.D X.M.arcs.length s.c s.Ad s.V
 hc : s.c <= 1 + (i * (X.l.length + 1) + j) * (X.M.cnt + 1)
 dg : degs R i j s.c X.p X.k s.V
 w : i < X.u.length \/ (i = X.u.length /\ j <= X.l.length) -> pot X.u.length X.l.length X.B i j s.V = X.W
 fin : (i = X.u.length /\ j = X.l.length + 1) \/ i = X.u.length + 1 -> dotF (s.V X.u.length X.l.length) (eAt X.M) 0 = X.W /\ ∀ x ∈ s.V X.u.length X.l.length,R.D (X.p * (X.u.length + X.l.length + 1) + X.pS) (X.k * (X.u.length + X.l.length + 1) + X.kS + s.c) x
theorem cnt_le (O : WOk X) {i j : Nat} (h1 : i <= X.u.length) (h2 : j <= X.l.length) : (i * (X.l.length + 1) + j) * (X.M.cnt + 1) + (X.M.cnt + 1) <= (X.u.length + 1) * (X.l.length + 1) * (X.M.cnt + 1) := by
 have h3 : (i * (X.l.length + 1) + j) + 1 <= (X.u.length + 1) * (X.l.length + 1) := by
  have h4 : i * (X.l.length + 1) <= X.u.length * (X.l.length + 1) := Nat.mul_le_mul_right _ h1
  rw [Nat.add_mul X.u.length]; omega
 have h5 := Nat.mul_le_mul_right (X.M.cnt + 1) h3
 rwa [Nat.add_mul _ 1,Nat.one_mul] at h5
theorem CP.next {s : CS R} (C : WCell X i j aR c0 row (dotF row (atEnd X i j) 0)) (P : CP X i j aR c0 row X.M.cnt (dotF row (atEnd X i j) 0) s) (h0 : c0 <= 1 + (i * (X.l.length + 1) + j) * (X.M.cnt + 1) + 1) : PS X i (j + 1) s := by
 have hi := P.hi
 have hj := C.hj
 refine ⟨P.rw',by rw [show i * (X.l.length + 1) + (j + 1) = (i * (X.l.length + 1) + j) + 1 from rfl,Nat.add_mul _ 1,Nat.one_mul]; omega,P.dg,fun hlt => ?_,fun hf => ?_⟩
 ·have : ¬ (i = X.u.length /\ j = X.l.length) := by omega
  have hw := P.w
  rw [show atEnd X i j = fun _ => R.zero from funext fun _ => if_neg this,dotF_null,R.add_zero] at hw
  exact hw
 ·have hh : i = X.u.length /\ j = X.l.length := by have := C.hi; omega
  have hw := P.w
  rw [show atEnd X i j = eAt X.M from funext fun _ => if_pos hh] at hw
  obtain ⟨rfl,rfl⟩ := hh
  rw [pot_row,pot_all,R.zero_add] at hw
  rw [P.vr]
  exact ⟨hw,fun x hx => R.D_mono (Nat.le_refl _) (Nat.add_le_add_left P.lo _) (C.dg x hx)⟩
noncomputable abbrev cellB : List Sm := [.asg (.nm 8) (.meth (.var 5) 6776180 [.tup [.var 6,.var 7]]),.ite (.cmp .is (.var 8) (.lit .none)) [.cont] [],.ite (.cmp .isnot (.var 4) (.lit .none)) [.asg (.nm 8) (.call (.lit (.top 132)) [.var 3,.var 8,.var 4]),.asg (.sb (.var 5) (.tup [.var 6,.var 7])) (.var 8)] [],.fo [9] false (.call (.lit (.ty 491260897125)) [.meth (.var 0) 1936292453 []]) stB]
theorem beh_split {V : List R.α} : dotF V (behL X.M X.B X.u X.l i j) 0 = R.add (dotF V (aSum X i j) 0) (dotF V (atEnd X i j) 0) := by
 rw [R.add_comm,<- dotF_add]; rfl
theorem wcell_ok {st : CS R} (hd : 6 <= d) (O : WOk X) (V : OvOk X) (hi : i <= X.u.length) (hj : j <= X.l.length) (P : PS X i j st)
  (q1 : ∀ s',PS X i (j + 1) s' -> R' .nx (wFr X (vN i) s'.b s'.d s'.e s'.f s'.k) s'.g) (q2 : ∀ s',PS X i (j + 1) s' -> R' .ct (wFr X (vN i) s'.b s'.d s'.e s'.f s'.k) s'.g) :
  WSs (Cxd P0 d) cellB (wFr X (vN i) (vN j) st.d st.e st.f st.k) st.g R' := by
 have S := P.rw'
 have hcl := cnt_le O hi hj
 have hc := P.hc
 have hp := P.w (by omega)
 rw [pot_step hi hj] at hp
 have dij : ∀ x ∈ st.V i j,R.D (X.p * (i + j + 1)) (X.k * (i + j + 1) + st.c) x := P.dg i j (by unfold done; simp)
 have degS : ∀ {c' : Nat} {V' : Nat -> Nat -> List R.α},degs R i j c' X.p X.k V' -> degs R i (j + 1) c' X.p X.k V' := fun h a b hn => h a b fun q => hn (q.elim .inl fun q => .inr ⟨q.1,Nat.lt_succ_of_lt q.2⟩)
 obtain ⟨ep,es,hD,K,hcl',hget⟩ := S.dd
 repeat fail
 refine wm_get1 hD hD (fitsT K) ?_
 rw [hget]
 cases hA : st.Ad i j with
 | none =>
  have hz := S.non i j hA
  rw [hz,zbx,R.zero_add] at hp
  repeat fail
  refine q2 { st with b := vN j,d := some .none } ⟨S,?_,degS P.dg,fun _ => hp,fun hf => ?_⟩
  ·show st.c <= _
   rw [show i * (X.l.length + 1) + (j + 1) = (i * (X.l.length + 1) + j) + 1 from rfl,Nat.add_mul _ 1,Nat.one_mul]; omega
  ·have hh : i = X.u.length /\ j = X.l.length := by omega
   obtain ⟨rfl,rfl⟩ := hh
   rw [pot_row,pot_all] at hp
   exact ⟨by show dotF (st.V _ _) _ _ = _; rw [hz,zbx]; exact hp,fun x hx => R.D_mono (Nat.le_add_right _ _) (by show _ <= _ + X.kS + st.c; omega) (dij x hx)⟩
 | some aR =>
  have hov := V.r
  have eB : dotF (st.V i j) (X.B i j) 0 = R.add (dotF (st.V i j) (aSum X i j) 0) (dotF (st.V i j) (atEnd X i j) 0) := by
   rw [<- beh_split]
   exact dotF_congr fun s _ h2 => V.no i j s hi hj (by rw [S.len] at h2; omega)
  rw [eB,R.add_comm] at hp
  have C : WCell X i j aR st.c (st.V i j) (dotF (st.V i j) (atEnd X i j) 0) := ⟨O,hi,hj,by omega,S.len i j,fun x hx => R.D_mono (Nat.le_add_right _ _) (by omega) (dij x hx)⟩
  have CP0 : CP X i j aR st.c (st.V i j) 0 (R.add (dotF (st.V i j) (aSum X i j) 0) (dotF (st.V i j) (atEnd X i j) 0)) st := ⟨S,Nat.le_refl _,Nat.le_refl _,degS P.dg,rfl,hA,hp⟩
  repeat fail
  refine wc_isnT (by show isV X.ov .none = _; rw [hov]; rfl) ?_
  repeat fail
  refine wsts_ok (st:=st) (by omega) C CP0 fun s' P' => ?_
  repeat fail
  have N := P'.next C (by omega)
  exact q1 { s' with b := vN j,d := vR aR } ⟨N.rw',N.hc,N.dg,N.w,N.fin⟩
end
end Hd
namespace Hd
open Mi
section
variable {R : Rg} {d : Nat} {h h0 : MH} {Q : Val -> MH -> Prop} {L : Ly} {M : Mc R.α} {X : WX R} {i j aR c0 : Nat} {row : List R.α} {F : R.α} {Rr R' : Fl -> Mi.Frame -> MH -> Prop}
noncomputable def row0 (M : Mc R.α) : List R.α := (zrow R M.arcs.length).set M.start M.first
noncomputable def heap0 (h : MH) (M : Mc R.α) : MH := h ++ ([.list [R.e R.zero],.list ((row0 M).map R.e)] ++ [.dict (some 1) [(keyT 0 0,Val.ref (h.length + 1))]])
theorem start_rw {N : Nat} (hN : N = M.arcs.length) : RW R h (heap0 h M) (h.length + 2) N 1 (upd (fun _ _ => none) 0 0 (some (h.length + 1))) (upd (fun _ _ => zrow R N) 0 0 (row0 M)) := by
 subst hN
 unfold heap0
 refine ⟨⟨_,rfl⟩,by omega,⟨_,_,get_n,?_,Nat.le_refl _,fun i j => ?_⟩,fun i j i' j' a h1 h2 => ?_,fun i j a h1 => ?_,fun i j a h1 => ?_,fun i j h1 => ?_,fun i j => ?_⟩
 ·intro p hp; rw [List.mem_singleton.mp hp]; exact ⟨0,0,rfl⟩
 ·rw [zaD,kEq_T]
  by_cases e : i = 0 /\ j = 0
  ·obtain ⟨rfl,rfl⟩ := e; rfl
  ·rw [zap e]
   have : (0 == i && 0 == j) = false := by
    rw [Bool.and_eq_false_iff]
    by_cases h3 : i = 0
    ·exact .inr (beq_false_of_ne fun q => e ⟨h3,q.symm⟩)
    ·exact .inl (beq_false_of_ne (Ne.symm h3))
   rw [this]; rfl
 ·by_cases e1 : i = 0 /\ j = 0
  ·by_cases e2 : i' = 0 /\ j' = 0
   ·omega
   ·rw [zap e2] at h2; exact nomatch h2
  ·rw [zap e1] at h1; exact nomatch h1
 ·by_cases e1 : i = 0 /\ j = 0
  ·obtain ⟨rfl,rfl⟩ := e1; rw [zak] at h1; cases h1; omega
  ·rw [zap e1] at h1; exact nomatch h1
 ·by_cases e1 : i = 0 /\ j = 0
  ·obtain ⟨rfl,rfl⟩ := e1; rw [zak] at h1 ⊢; cases h1; exact get_n
  ·rw [zap e1] at h1; exact nomatch h1
 ·by_cases e1 : i = 0 /\ j = 0
  ·obtain ⟨rfl,rfl⟩ := e1; rw [zak] at h1; exact nomatch h1
  ·exact zap e1
 ·by_cases e1 : i = 0 /\ j = 0
  ·obtain ⟨rfl,rfl⟩ := e1; rw [zak]; unfold row0; rw [List.length_set]; unfold zrow; rw [List.length_replicate]
  ·rw [zap e1]; unfold zrow; rw [List.length_replicate]
theorem start_dg {p k p1 k1 : Nat} (G : zbW M p1 k1) (hp : p1 <= p) (hk : k1 <= k) : degs R 0 0 1 p k (upd (fun _ _ => zrow R M.arcs.length) 0 0 (row0 M)) := fun a b _ x hx => by
 have z : ∀ {P K : Nat},R.D P K R.zero := R.D_mono (Nat.zero_le _) (Nat.zero_le _) R.D_zero
 by_cases e1 : a = 0 /\ b = 0
 ·obtain ⟨rfl,rfl⟩ := e1
  rw [zak] at hx
  rcases List.mem_or_eq_of_mem_set hx with hx | rfl
  ·rw [List.eq_of_mem_replicate hx]; exact z
  ·exact R.D_mono (by omega) (by omega) G.fst
 ·rw [zap e1] at hx
  rw [List.eq_of_mem_replicate hx]; exact z
theorem start_pot {n m : Nat} {B : Nat -> Nat -> Nat -> R.α} (hs : M.start < M.arcs.length) : pot n m B 0 0 (upd (fun _ _ => zrow R M.arcs.length) 0 0 (row0 M)) = R.mul M.first (B 0 0 M.start) := by
 have e : row0 M = bump (zrow R M.arcs.length) M.start M.first := by
  unfold row0 bump zrow
  rw [List.getElem?_replicate,if_pos hs]
  show _ = List.set _ _ (R.add R.zero M.first)
  rw [R.zero_add]
 have zl : (zrow R M.arcs.length).length = M.arcs.length := List.length_replicate ..
 rw [e,pot_bump (V:=fun _ _ => zrow R M.arcs.length) (Nat.zero_le _) (Nat.zero_le _) (by unfold done; simp) (by rw [zl]; exact hs),pot_zero (fun _ _ => rfl),R.add_zero]
theorem wrow_ok {st : CS R} (hd : 6 <= d) (O : WOk X) (V : OvOk X) (hi : i <= X.u.length) (P : PS X i 0 st) (q1 : ∀ s',PS X (i + 1) 0 s' -> R' .nx (wFr X s'.a s'.b s'.d s'.e s'.f s'.k) s'.g) :
  WS (Cxd P0 d) (.fo [7] false (.call (.lit (.ty 491260897125)) [.bin .add (.call (.lit (.bi 7103854)) [.var 2]) (.lit (.int 1))]) cellB) (wFr X (vN i) st.b st.d st.e st.f st.k) st.g R' := by
 have hl : X.l.length < 100000 := by
  have := O.cl
  have h2 := Nat.mul_le_mul (Nat.le_add_left 1 X.u.length) (Nat.le_refl (X.l.length + 1))
  have h3 := Nat.mul_le_mul h2 (Nat.le_add_left 1 X.M.cnt)
  omega
 refine zcC (n:=X.l.length + 1) (fun s' : CS R => wFr X (vN i) s'.b s'.d s'.e s'.f s'.k) CS.g (fun j => PS X i j) (by show _ < 200000; omega) (zay (by omega)) st ?_ (fun j s' R1 hj P1 T1 => wcell_ok hd O V hi (Nat.le_of_lt_succ hj) P1 T1.nx T1.ct) fun s' P1 => q1 { s' with a := vN i } ?_
 ·repeat fail
  exact ⟨congrArg Val.rng (by omega),rfl,rfl,P⟩
 ·refine ⟨P1.rw',by rw [Nat.add_zero,Nat.add_mul i 1,Nat.one_mul]; exact P1.hc,fun a b hn => P1.dg a b fun q => hn ?_,fun hlt => ?_,fun hf => P1.fin (.inl ⟨?_,rfl⟩)⟩
  ·rcases q with q | q
   ·exact .inl (Nat.lt_succ_of_lt q)
   ·exact .inl (by show a < i + 1; rw [show a = i from q.1]; exact Nat.lt_succ_self _)
  ·show pot X.u.length X.l.length X.B (i + 1) 0 s'.V = X.W
   rw [<- pot_row]; exact P1.w (.inl (by omega))
  ·omega
noncomputable abbrev st0 (X : WX R) : CS R := ⟨heap0 X.h X.M,upd (fun _ _ => none) 0 0 (some (X.h.length + 1)),upd (fun _ _ => zrow R X.M.arcs.length) 0 0 (row0 X.M),1,none,none,none,none,none,none⟩
theorem wdone_ok {g : MH} (hd : 7 <= d) (O : WOk X) (V : OvOk X) (eg : g = X.h) (eD : X.D = X.h.length + 2) (eW : X.W = R.mul X.M.first (X.B 0 0 X.M.start)) (hk : X.k1 <= X.k) (hp : X.p1 <= X.p)
  (q : ∀ t,Q (R.e (R.mul X.M.first (X.B 0 0 X.M.start))) (X.h ++ t)) : WSs (Cxd P0 d) (bd_run_weight.drop 5) (some (.ref X.L.m) :: some (.str X.u) :: some (.str X.l) :: some (.top (112 + R.i)) :: some X.ov :: nn 13) g (Mi.Fin Q) := by
 subst eg
 unfold bd_run_weight
 simp only [List.drop_succ_cons,List.drop_zero]
 have I := O.I
 have G := O.G
 have hu : X.u.length < 100000 := by
  have := O.cl
  have h2 := Nat.mul_le_mul (Nat.le_refl (X.u.length + 1)) (Nat.le_add_left 1 X.l.length)
  have h3 := Nat.mul_le_mul h2 (Nat.le_add_left 1 X.M.cnt)
  omega
 have ps0 : PS X 0 0 (st0 X) :=
  ⟨by rw [eD]; exact start_rw rfl,by show 1 <= _; omega,start_dg G hp hk,fun _ => by rw [eW]; exact start_pot G.st,fun e => by omega⟩
 repeat fail
 refine zaC rfl (first_ok (by omega) I G.st ?_)
 repeat fail
 refine Wo.of (a:=[(keyT 0 0,.ref (X.h.length + 1))]) rfl ?_
 rw [List.append_assoc]
 have hlen : (X.h ++ [MObj.list [R.e R.zero],.list (((zrow R X.M.arcs.length).set X.M.start X.M.first).map R.e)]).length = X.h.length + 2 := by rw [List.length_append]; rfl
 rw [hlen,<- eD]
 repeat fail
 refine zcC (n:=X.u.length + 1) (fun s' : CS R => wFr X s'.a s'.b s'.d s'.e s'.f s'.k) CS.g (fun i => PS X i 0) (by show _ < 200000; omega) (zay (by omega)) (st0 X) ?_ (fun i s' R1 hi P1 T1 => zcB (wrow_ok (by omega) O V (Nat.le_of_lt_succ hi) P1 fun s2 P2 => zch (zcA (T1.nx s2 P2)))) fun s' P1 => ?_
 ·repeat fail
  exact ⟨congrArg Val.rng (by omega),rfl,rfl,ps0⟩
 have S := P1.rw'
 have hcc : s'.c <= 1 + (X.u.length + 1) * (X.l.length + 1) * (X.M.cnt + 1) := P1.hc
 obtain ⟨hw,hdg⟩ := P1.fin (.inr rfl)
 rw [eW] at hw
 obtain ⟨ep,es,hD,K,hcl',hget⟩ := S.dd
 obtain ⟨t,hg⟩ := S.pre
 repeat fail
 refine wm_get1 (k:=keyT X.u.length X.l.length) hD hD (fitsT K) ?_
 rw [hget]
 cases hA : s'.Ad X.u.length X.l.length with
 | none =>
  have hz := S.non _ _ hA
  rw [hz,zbx] at hw
  rw [<- hw] at q
  repeat fail
  refine zaC rfl (endN_ok (by omega) (S.im I) ?_)
  repeat fail
  rw [hg]; exact q t
 | some a =>
  have e3 : X.p * (X.u.length + X.l.length + 2) = X.p * (X.u.length + X.l.length + 1) + X.p := Nat.mul_succ ..
  have e4 : X.k * (X.u.length + X.l.length + 2) = X.k * (X.u.length + X.l.length + 1) + X.k := Nat.mul_succ ..
  have pp := O.pp
  have kk := O.kk
  have bd := O.bd
  repeat fail
  refine zaC rfl (end_sum_ok (by omega) (S.im I) (S.row _ _ _ hA) (S.len _ _) hdg G.ed ?_ ?_)
  ·omega
  rw [dotE_eq (o:=0) (b:=eAt X.M) ((S.len _ _).trans I.lenE.symm) fun s x hx => by unfold eAt; rw [Nat.zero_add,hx]; rfl,hw]
  repeat fail
  rw [hg]; exact q t
end
end Hd
namespace Hd
open Mi
section
variable {R : Rg} {d : Nat} {h h0 : MH} {Q : Val -> MH -> Prop} {L : Ly} {M : Mc R.α}
noncomputable def zbG (u l : List Nat) (i j : Nat) (a : Ar R.α) : Bool := fit u i a.up && fit l j a.lo
noncomputable def zaS (B : Nat -> Nat -> Nat -> R.α) (u l : List Nat) (i j : Nat) (xs : List (Ar R.α)) : R.α := sumL (xs.map fun a => bif zbG u l i j a then R.mul a.w (B (i + a.up.length) (j + a.lo.length) a.t) else R.zero)
noncomputable def esum (b : Nat -> R.α) (xs : List (Ar R.α)) : R.α := sumL (xs.map fun a => bif a.emp then R.mul a.w (b a.t) else R.zero)
noncomputable def behE (M : Mc R.α) (B : Nat -> Nat -> Nat -> R.α) (u l : List Nat) (i j s : Nat) : R.α := R.add (if i = u.length /\ j = l.length then eAt M s else R.zero) (zaS B u l i j (aAt M s))
noncomputable def BH (M : Mc R.α) (u l : List Nat) : Nat -> Nat -> Nat -> Nat -> R.α
 | 0,_,_,_ => R.zero
 | f + 1,i,j,s => behE M (BH M u l f) u l i j s
noncomputable def upE (M : Mc R.α) : Prop := ∀ (s : Nat) ys,M.arcs[s]? = some ys -> ∀ a ∈ ys,a.emp = true -> s < a.t
theorem emp_nil {a : Ar R.α} (h : a.emp = true) : a.up = [] /\ a.lo = [] := by
 unfold Ar.emp at h
 obtain ⟨up,lo,w,t⟩ := a
 cases up with
 | cons _ _ => exact nomatch h
 | nil =>
  cases lo with
  | cons _ _ => exact nomatch h
  | nil => exact ⟨rfl,rfl⟩
theorem asum_split {B : Nat -> Nat -> Nat -> R.α} {u l : List Nat} {i j : Nat} {xs : List (Ar R.α)} : zaS B u l i j xs = R.add (asum B u l i j xs) (esum (B i j) xs) := by
 induction xs with
 | nil => exact (R.zero_add _).symm
 | cons a xs ih =>
  unfold zaS asum esum at ih ⊢
  rw [List.map_cons,List.map_cons,List.map_cons,zaF,zaF,zaF,ih]
  cases he : a.emp with
  | true =>
   obtain ⟨e1,e2⟩ := emp_nil he
   have h1 : hits u l i j a = false := by unfold hits; rw [he]; rfl
   have h2 : zbG u l i j a = true := by unfold zbG; rw [e1,e2]; rfl
   rw [h1,h2,e1,e2,cond_true,cond_true,cond_false,R.zero_add,R.swap]; rfl
  | false =>
   have h1 : hits u l i j a = zbG u l i j a := by unfold hits zbG; rw [he]; rfl
   rw [h1,cond_false,R.zero_add,R.add_assoc]
theorem beh_splitE {B : Nat -> Nat -> Nat -> R.α} {u l : List Nat} {i j s : Nat} : behE M B u l i j s = R.add (behL M B u l i j s) (esum (B i j) (aAt M s)) := by
 unfold behE behL
 rw [asum_split,R.add_assoc]
theorem esum_none {b : Nat -> R.α} {xs : List (Ar R.α)} (h : ∀ a ∈ xs,a.emp = false) : esum b xs = R.zero := by
 unfold esum
 induction xs with
 | nil => rfl
 | cons a xs ih => rw [List.map_cons,zaF,h a (.head _),ih fun a ha => h a (.tail _ ha)]; exact R.zero_add _
theorem zcy {B B' : Nat -> Nat -> Nat -> R.α} {u l : List Nat} {i j : Nat} {xs : List (Ar R.α)} (h : ∀ a ∈ xs,zbG u l i j a = true -> B (i + a.up.length) (j + a.lo.length) a.t = B' (i + a.up.length) (j + a.lo.length) a.t) : zaS B u l i j xs = zaS B' u l i j xs := by
 refine za3 fun a ha => ?_
 cases hh : zbG u l i j a with
 | true => rw [cond_true,cond_true,h a ha hh]
 | false => rfl
theorem za8 {B : Nat -> Nat -> Nat -> R.α} {u l : List Nat} {i j : Nat} {xs : List (Ar R.α)} {a : Ar R.α} : zaS B u l i j (a :: xs) = R.add (bif zbG u l i j a then R.mul a.w (B (i + a.up.length) (j + a.lo.length) a.t) else R.zero) (zaS B u l i j xs) := rfl
theorem zaW {s : Nat} {a : Ar R.α} (h : a ∈ aAt M s) : ∃ ys,M.arcs[s]? = some ys /\ ys ∈ M.arcs /\ a ∈ ys := by
 unfold aAt at h
 cases hs : M.arcs[s]? with
 | none => rw [hs] at h; exact absurd h List.not_mem_nil
 | some ys => rw [hs] at h; exact ⟨ys,rfl,List.mem_of_getElem? hs,h⟩
structure LabM (M : Mc R.α) : Prop where
 l : ∀ ys ∈ M.arcs,∀ a ∈ ys,lab a.up /\ lab a.lo
 t : ∀ ys ∈ M.arcs,∀ a ∈ ys,a.t < M.arcs.length
 e : upE M
noncomputable def meas (M : Mc R.α) (u l : List Nat) (i j s : Nat) : Nat := ((u.length - i) + (l.length - j)) * (M.arcs.length + 1) + (M.arcs.length - s)
theorem meas_lt {u l : List Nat} {i j s : Nat} {a : Ar R.α} (H : LabM M) (hi : i <= u.length) (hj : j <= l.length) (ha : a ∈ aAt M s) (hh : zbG u l i j a = true) : i + a.up.length <= u.length /\ j + a.lo.length <= l.length /\ meas M u l (i + a.up.length) (j + a.lo.length) a.t < meas M u l i j s := by
 obtain ⟨ys,hs,hy,hay⟩ := zaW ha
 obtain ⟨lu,ll⟩ := H.l ys hy a hay
 have h2 := Bool.and_eq_true_iff.mp hh
 have f1 := (fit_lt lu h2.1 hi).1
 have f2 := (fit_lt ll h2.2 hj).1
 refine ⟨f1,f2,?_⟩
 have hsl := zaB hs
 unfold meas
 cases he : a.emp with
 | true =>
  obtain ⟨e1,e2⟩ := emp_nil he
  have := H.e s ys hs a hay he
  rw [e1,e2]
  show (u.length - i + (l.length - j)) * (M.arcs.length + 1) + (M.arcs.length - a.t) < _
  omega
 | false =>
  have h5 := emp_lab he
  have h6 : ((u.length - (i + a.up.length)) + (l.length - (j + a.lo.length)) + 1) * (M.arcs.length + 1) <= ((u.length - i) + (l.length - j)) * (M.arcs.length + 1) := Nat.mul_le_mul_right _ (by omega)
  rw [Nat.add_mul,Nat.one_mul] at h6
  omega
theorem BH_more {u l : List Nat} (H : LabM M) : ∀ {f f' i j s : Nat},i <= u.length -> j <= l.length -> meas M u l i j s < f -> meas M u l i j s < f' -> BH M u l f i j s = BH M u l f' i j s := by
 intro f
 induction f with
 | zero => exact fun _ _ h => absurd h (Nat.not_lt_zero _)
 | succ f ih =>
  intro f' i j s hi hj h1 h2
  cases f' with
  | zero => exact absurd h2 (Nat.not_lt_zero _)
  | succ f' =>
   show R.add _ (zaS (BH M u l f) u l i j (aAt M s)) = R.add _ (zaS (BH M u l f') u l i j (aAt M s))
   congr 1
   refine zcy fun a ha hh => ?_
   obtain ⟨h3,h4,h5⟩ := meas_lt H hi hj ha hh
   exact ih h3 h4 (Nat.lt_of_lt_of_le h5 (Nat.le_of_lt_succ h1)) (Nat.lt_of_lt_of_le h5 (Nat.le_of_lt_succ h2))
noncomputable def Bv (M : Mc R.α) (u l : List Nat) (i j s : Nat) : R.α := BH M u l (meas M u l i j s + 1) i j s
theorem Bv_eq {u l : List Nat} (H : LabM M) {i j s : Nat} (hi : i <= u.length) (hj : j <= l.length) : Bv M u l i j s = behE M (Bv M u l) u l i j s := by
 show R.add _ (zaS (BH M u l (meas M u l i j s)) u l i j (aAt M s)) = R.add _ (zaS (Bv M u l) u l i j (aAt M s))
 congr 1
 refine zcy fun a ha hh => ?_
 obtain ⟨h3,h4,h5⟩ := meas_lt H hi hj ha hh
 exact BH_more H h3 h4 h5 (Nat.lt_succ_self _)
section
variable {ks : List Nat} {mb1 mb2 : List Bool} {xss : List (List Nat)} (TB : TrimBy M ks mb1 mb2 xss) (hE : M.ends.length = M.arcs.length)
include TB hE
theorem dead_out {k : Nat} {a : Ar R.α} (hk : mb2[k]? ≠ some true) (ha : a ∈ aAt M k) (ht : a.t < M.arcs.length) : mb2[a.t]? ≠ some true := fun q => hk (by
 obtain ⟨ys,hy,_,hay⟩ := zaW ha
 have hx := List.getElem?_eq_getElem (l:=xss) (i:=a.t) (by rw [TB.b2.len]; exact ht)
 refine TB.c2 _ _ q hx k ((TB.b2.mem _ _ hx k).mpr ⟨ys,hy,.inl ⟨zaB hy,a,hay,rfl⟩⟩))
theorem dead_end {k : Nat} (hk : mb2[k]? ≠ some true) : eAt M k = R.zero := by
 by_cases hkn : k < M.arcs.length
 ·cases he : endP M k with
  | true => exact absurd (TB.m2.first k (List.mem_filter.mpr ⟨List.mem_range.mpr hkn,he⟩)) hk
  | false =>
   unfold endP at he
   exact dT (Bool.not_inj (y:=true) he)
 ·unfold eAt
  rw [List.getElem?_eq_none (by omega)]; rfl
theorem dead_zero {u l : List Nat} (ht : ∀ ys ∈ M.arcs,∀ a ∈ ys,a.t < M.arcs.length) : ∀ {f i j k : Nat},mb2[k]? ≠ some true -> BH M u l f i j k = R.zero := by
 intro f
 induction f with
 | zero => exact fun _ => rfl
 | succ f ih =>
  intro i j k hk
  show R.add (if i = u.length /\ j = l.length then eAt M k else R.zero) (zaS (BH M u l f) u l i j (aAt M k)) = _
  have e1 : (if i = u.length /\ j = l.length then eAt M k else R.zero) = R.zero := by rw [dead_end TB hE hk]; split <;> rfl
  rw [e1,R.zero_add]
  have : ∀ xs : List (Ar R.α),(∀ a ∈ xs,a ∈ aAt M k) -> zaS (BH M u l f) u l i j xs = R.zero := fun xs => by
   induction xs with
   | nil => exact fun _ => rfl
   | cons a xs ihx =>
    intro h
    obtain ⟨ys,_,hy,hay⟩ := zaW (h a (.head _))
    rw [za8,ihx fun b hb => h b (.tail _ hb),ih (dead_out TB hE hk (h a (.head _)) (ht ys hy a hay)),R.mul_zero]
    cases zbG u l i j a <;> exact R.zero_add _
  exact this _ fun _ h => h
theorem trim_same {u l : List Nat} {T : Mc R.α} (nk : ks.Nodup) (ht : ∀ ys ∈ M.arcs,∀ a ∈ ys,a.t < M.arcs.length) (ha : T.arcs = ks.map fun k => zbm ks (aAt M k)) (he : T.ends = ks.map (eAt M)) : ∀ {f i j k : Nat},k ∈ ks -> BH T u l f i j (ks.idxOf k) = BH M u l f i j k := by
 intro f
 induction f with
 | zero => exact fun _ => rfl
 | succ f ih =>
  intro i j k hk
  have hix := List.idxOf_lt_length_iff.mpr hk
  have hge : ks[ks.idxOf k] = k := List.getElem_idxOf hix
  have e1 : eAt T (ks.idxOf k) = eAt M k := by
   unfold eAt
   rw [he,List.getElem?_map,List.getElem?_eq_getElem hix,hge]; rfl
  have e2 : aAt T (ks.idxOf k) = zbm ks (aAt M k) := by
   unfold aAt
   rw [ha,List.getElem?_map,List.getElem?_eq_getElem hix,hge]; rfl
  show R.add (if i = u.length /\ j = l.length then eAt T (ks.idxOf k) else R.zero) (zaS (BH T u l f) u l i j (aAt T (ks.idxOf k))) = R.add _ (zaS (BH M u l f) u l i j (aAt M k))
  rw [e1,e2]
  congr 1
  have hkp := hk
  rw [TB.ks] at hkp
  have hp := Bool.and_eq_true_iff.mp (zcN hkp).2
  have m1k : mb1[k]? = some true := by
   cases hm : mb1[k]? with
   | none => rw [hm] at hp; exact nomatch hp.1
   | some b => rw [hm] at hp; exact congrArg some hp.1
  have : ∀ xs : List (Ar R.α),(∀ a ∈ xs,a ∈ aAt M k) -> zaS (BH T u l f) u l i j (zbm ks xs) = zaS (BH M u l f) u l i j xs := fun xs => by
   induction xs with
   | nil => exact fun _ => rfl
   | cons a xs ihx =>
    intro h
    have ihx := ihx fun b hb => h b (.tail _ hb)
    obtain ⟨ys,hys,hy,hay⟩ := zaW (h a (.head _))
    have htn := ht ys hy a hay
    unfold zbm at ihx ⊢
    rw [List.filterMap_cons]
    by_cases hin : a.t ∈ ks
    ·rw [if_pos hin]
     rw [za8,za8,ihx]
     show R.add (bif zbG u l i j a then R.mul a.w (BH T u l f (i + a.up.length) (j + a.lo.length) (ks.idxOf a.t)) else R.zero) _ = _
     rw [ih hin]
    ·rw [if_neg hin]
     have hd2 : mb2[a.t]? ≠ some true := fun q => hin (by
      rw [TB.ks]
      have hm1 : mb1[a.t]? = some true := TB.c1 k (ys.map Ar.t) m1k (by unfold onw; rw [List.getElem?_map,hys]; rfl) a.t (List.mem_map.mpr ⟨a,hay,rfl⟩)
      exact List.mem_filter.mpr ⟨List.mem_range.mpr htn,by rw [hm1,q]; rfl⟩)
     rw [za8,dead_zero TB hE ht hd2,R.mul_zero]
     have e0 : (bif zbG u l i j a then R.zero else R.zero) = R.zero := by cases zbG u l i j a <;> rfl
     rw [e0,R.zero_add]
     exact ihx
  exact this _ fun _ h => h
end
end
end Hd
namespace Hd
open Mi
section
variable {R : Rg} {d : Nat} {h h0 : MH} {Q : Val -> MH -> Prop} {L : Ly} {M : Mc R.α}
theorem sum_filter {l : List Nat} {p : Nat -> Bool} {f : Nat -> Nat} : ((l.filter p).map f).sum <= (l.map f).sum := by
 induction l with
 | nil => exact Nat.le_refl _
 | cons x l ih =>
  rw [List.filter_cons,List.map_cons,List.sum_cons]
  cases p x
  ·show ((l.filter p).map f).sum <= _; omega
  ·show (((x :: l.filter p)).map f).sum <= _
   rw [List.map_cons,List.sum_cons]; omega
theorem arcs_range : M.arcs = (List.range M.arcs.length).map (aAt M) := by
 refine zbE (by rw [List.length_map,List.length_range]) fun i y hy => ?_
 rw [List.getElem?_map,List.getElem?_range (zaB hy)]
 show some (M.arcs[i]?.getD []) = _
 rw [hy]; rfl
theorem trRow_len {ks : List Nat} {xs : List (Ar R.α)} : (zbm ks xs).length <= xs.length := List.length_filterMap_le ..
theorem zb2 {ks : List Nat} {xs : List (Ar R.α)} {a : Ar R.α} (h : a ∈ zbm ks xs) : ∃ b ∈ xs,b.t ∈ ks /\ a = { b with t := ks.idxOf b.t } := by
 obtain ⟨b,hb,e⟩ := List.mem_filterMap.mp h
 by_cases hk : b.t ∈ ks
 ·rw [if_pos hk] at e; exact ⟨b,hb,hk,(Option.some.inj e).symm⟩
 ·rw [if_neg hk] at e; exact nomatch e
theorem sum_le {l : List Nat} {f g : Nat -> Nat} (h : ∀ x,f x <= g x) : (l.map f).sum <= (l.map g).sum := by
 induction l with
 | nil => exact Nat.le_refl _
 | cons x l ih => rw [List.map_cons,List.map_cons,List.sum_cons,List.sum_cons]; have := h x; omega
theorem zbW.lab {p k : Nat} (G : zbW M p k) (H : upE M) : LabM M := ⟨fun ys hy a ha => ⟨(G.arc ys hy a ha).2.1,(G.arc ys hy a ha).2.2.1⟩,fun ys hy a ha => (G.arc ys hy a ha).1,H⟩
theorem pick_lt_of {p : Nat -> Bool} {n i j : Nat} {a b : Nat} (ha : (pick p n)[i]? = some a) (hb : (pick p n)[j]? = some b) (h : a < b) : i < j := by
 have pw : (pick p n).Pairwise (· < ·) := List.Pairwise.filter _ List.pairwise_lt_range
 obtain ⟨h1,rfl⟩ := List.getElem?_eq_some_iff.mp ha
 obtain ⟨h2,rfl⟩ := List.getElem?_eq_some_iff.mp hb
 refine Nat.lt_of_not_le fun hle => ?_
 rcases Nat.lt_or_eq_of_le hle with hl | he
 ·exact Nat.lt_asymm h (List.pairwise_iff_getElem.mp pw _ _ h2 h1 hl)
 ·subst he; exact Nat.lt_irrefl _ h
structure TGood (M T : Mc R.α) (p k : Nat) : Prop where
 g : zbW T p k
 cnt : T.cnt <= M.cnt
 len : T.arcs.length <= M.arcs.length
 up : upE M -> upE T
 no : zcU M -> zcU T
theorem trim_good {p k : Nat} {ks : List Nat} {mb1 mb2 : List Bool} {xss : List (List Nat)} {T : Mc R.α} {g : MH} {L' : Ly} (I : IsM R h L M) (G : zbW M p k) (TB : TrimBy M ks mb1 mb2 xss) (TR : zbK M ks T) (J : IsM R g L' T) : TGood M T p k := by
 have hks : ∀ x ∈ ks,x < M.arcs.length := fun x hx => by rw [TB.ks] at hx; exact (zcN hx).1
 have hkl : ks.length <= M.arcs.length := by rw [TB.ks]; exact zcO
 have hst := G.st
 cases TR with
 | full h1 h2 ha he hs hf =>
  have hal : T.arcs.length = ks.length := by rw [ha,List.length_map]
  have hcnt : T.cnt <= M.cnt := by
   rw [<- J.ct,<- I.ct,ha,List.map_map]
   have e : (M.arcs.map List.length) = (List.range M.arcs.length).map (fun k => (aAt M k).length) := by
    conv => lhs; rw [arcs_range (M:=M)]
    rw [List.map_map]; rfl
   rw [e,TB.ks]
   exact Nat.le_trans (sum_le fun x => trRow_len) sum_filter
  refine ⟨⟨by rw [hal,hs]; exact List.idxOf_lt_length_iff.mpr h1,fun ys hy a hay => ?_,hf ▸ G.fst,fun x hx => ?_,G.bd,by have := G.n; omega,Nat.le_trans hcnt G.c⟩,hcnt,by omega,fun H s ys hys a hay hae => ?_,fun hE => ?_⟩
  ·rw [ha] at hy
   obtain ⟨k',hk',rfl⟩ := List.mem_map.mp hy
   obtain ⟨b,hb,hbt,rfl⟩ := zb2 hay
   obtain ⟨zs,_,hz,hbz⟩ := zaW hb
   obtain ⟨_,g2,g3,g4,g5⟩ := G.arc zs hz b hbz
   exact ⟨by rw [hal]; exact List.idxOf_lt_length_iff.mpr hbt,g2,g3,g4,g5⟩
  ·rw [he] at hx
   obtain ⟨k',hk',rfl⟩ := List.mem_map.mp hx
   have hk := hks k' hk'
   have hkE : k' < M.ends.length := by rw [I.lenE]; exact hk
   unfold eAt
   rw [List.getElem?_eq_getElem hkE]
   exact G.ed _ (List.getElem_mem hkE)
  ·rw [ha,List.getElem?_map] at hys
   obtain ⟨k',hk',rfl⟩ := ms hys
   obtain ⟨b,hb,hbt,rfl⟩ := zb2 hay
   obtain ⟨zs,hz,_,hbz⟩ := zaW hb
   have hlt := H k' zs hz b hbz hae
   have hix := List.idxOf_lt_length_iff.mpr hbt
   have hge : ks[ks.idxOf b.t]? = some b.t := by rw [List.getElem?_eq_getElem hix,List.getElem_idxOf hix]
   have hpk := TB.ks
   rw [hpk] at hk' hge
   show s < ks.idxOf b.t
   rw [hpk]
   exact pick_lt_of hk' hge hlt
  ·unfold zcU
   refine List.any_eq_false.mpr fun ys hy => ?_
   rw [ha] at hy
   obtain ⟨k',hk',rfl⟩ := List.mem_map.mp hy
   intro q
   obtain ⟨a,hay,he⟩ := List.any_eq_true.mp q
   obtain ⟨b,hb,hbt,rfl⟩ := zb2 hay
   obtain ⟨zs,_,hz,hbz⟩ := zaW hb
   exact absurd (List.any_eq_true.mpr ⟨b,hbz,he⟩) (List.any_eq_false.mp hE zs hz)
 | bare h1 ha he hs hf =>
  have hcnt : T.cnt = 0 := by rw [<- J.ct,ha]; rfl
  refine ⟨⟨by rw [ha,hs]; exact Nat.zero_lt_one,fun ys hy a hay => ?_,hf ▸ R.D_mono (Nat.zero_le _) (Nat.zero_le _) R.D_one,fun x hx => ?_,G.bd,by rw [ha]; show 1 <= 300; decide,by omega⟩,by omega,by rw [ha]; show 1 <= _; omega,fun _ s ys hys a hay _ => ?_,fun _ => by unfold zcU; rw [ha]; rfl⟩
  ·rw [ha] at hy
   cases List.mem_singleton.mp hy
   exact absurd hay List.not_mem_nil
  ·rw [he] at hx
   cases List.mem_singleton.mp hx
   exact R.D_mono (Nat.zero_le _) (Nat.zero_le _) R.D_zero
  ·rw [ha] at hys
   cases List.mem_singleton.mp (List.mem_of_getElem? hys)
   exact absurd hay List.not_mem_nil
theorem trim_weight {p k : Nat} {u l : List Nat} {ks : List Nat} {mb1 mb2 : List Bool} {xss : List (List Nat)} {T : Mc R.α} (I : IsM R h L M) (G : zbW M p k) (TB : TrimBy M ks mb1 mb2 xss) (TR : zbK M ks T) (HM : LabM M) (HT : LabM T) : R.mul T.first (Bv T u l 0 0 T.start) = R.mul M.first (Bv M u l 0 0 M.start) := by
 have ht : ∀ ys ∈ M.arcs,∀ a ∈ ys,a.t < M.arcs.length := fun ys hy a ha => (G.arc ys hy a ha).1
 have nk : ks.Nodup := by rw [TB.ks]; exact pick_nd
 cases TR with
 | full h1 h2 ha he hs hf =>
  rw [hs,hf]
  have il := List.idxOf_lt_length_iff.mpr h1
  have e0 : ∀ {f : Nat},BH T u l f 0 0 (ks.idxOf M.start) = BH M u l f 0 0 M.start := trim_same TB I.lenE nk ht ha he h1
  have eM : Bv M u l 0 0 M.start = BH M u l (meas M u l 0 0 M.start + meas T u l 0 0 (ks.idxOf M.start) + 1) 0 0 M.start := BH_more HM (Nat.zero_le _) (Nat.zero_le _) (by omega) (by omega)
  have eT : Bv T u l 0 0 (ks.idxOf M.start) = BH T u l (meas M u l 0 0 M.start + meas T u l 0 0 (ks.idxOf M.start) + 1) 0 0 (ks.idxOf M.start) := BH_more HT (Nat.zero_le _) (Nat.zero_le _) (by omega) (by omega)
  rw [eM,eT,e0]
 | bare h1 ha he hs hf =>
  have e1 : Bv T u l 0 0 T.start = R.zero := by
   unfold Bv
   show R.add (if 0 = u.length /\ 0 = l.length then eAt T T.start else R.zero) (zaS (BH T u l _) u l 0 0 (aAt T T.start)) = _
   have e2 : eAt T T.start = R.zero := by unfold eAt; rw [he,hs]; rfl
   have e3 : aAt T T.start = [] := by unfold aAt; rw [ha,hs]; rfl
   rw [e2,e3]
   have : (if 0 = u.length /\ 0 = l.length then R.zero else R.zero) = R.zero := by split <;> rfl
   rw [this,R.zero_add]; rfl
  rw [e1,R.mul_zero]
  rcases h1 with h1 | h1
  ·have hd2 : mb2[M.start]? ≠ some true := fun q => h1 (by
    rw [TB.ks]
    exact List.mem_filter.mpr ⟨List.mem_range.mpr G.st,by rw [TB.m1.first M.start (.head _),q]; rfl⟩)
   unfold Bv
   rw [dead_zero TB I.lenE ht hd2,R.mul_zero]
  ·rw [h1,R.zero_mul]
theorem noEmp_mem (hE : zcU M) {s : Nat} {a : Ar R.α} (h : a ∈ aAt M s) : a.emp = false := by
 obtain ⟨ys,_,hy,ha⟩ := zaW h
 have := List.any_eq_false.mp hE ys hy
 cases he : a.emp with
 | false => rfl
 | true => exact absurd (List.any_eq_true.mpr ⟨a,ha,he⟩) this
theorem noEmp_up (hE : zcU M) : upE M := fun s ys hys a ha he => by
 have : a ∈ aAt M s := by unfold aAt; rw [hys]; exact ha
 rw [noEmp_mem hE this] at he
 exact nomatch he
noncomputable abbrev wX (h : MH) (L : Ly) (M : Mc R.α) (u l : List Nat) (ov : Val) (p k p1 k1 pS kS : Nat) : WX R := ⟨h,L,M,u,l,h.length + 2,ov,p,k,p1,k1,pS,kS,Bv M u l,R.mul M.first (Bv M u l 0 0 M.start)⟩
theorem weight_ok {p k : Nat} {u l : List Nat} (hd : 8 <= d) (I : IsM R h L M) (G : zbW M p k) (hE : zcU M) (hu : ∀ c ∈ u,lett c = true) (hl : ∀ c ∈ l,lett c = true) (lu : u.length <= 200) (ll : l.length <= 200)
  (cl : 1 + (u.length + 1) * (l.length + 1) * (M.cnt + 1) < 100000) (hbd : 4 * (p * (u.length + l.length + 2)) + (k * (u.length + l.length + 2) + (1 + (u.length + 1) * (l.length + 1) * (M.cnt + 1) + M.arcs.length)) <= 3800)
  (q : ∀ t,Q (R.e (R.mul M.first (Bv M u l 0 0 M.start))) (h ++ t)) : WF P0 d 106 [.ref L.m,.str u,.str l] h Q := by
 refine zar (K:=7) hd (some (.ref L.m) :: some (.str u) :: some (.str l) :: nn 15) rfl rfl rfl fun d' h' => ?_
 have tail : ∀ {Q : Val -> MH -> Prop} {X : WX R} {g : MH},_ := @wdone_ok R d'
 unfold bd_run_weight
 repeat fail
 refine zaC rfl (nsh_ok (by omega) hu lu ?_)
 repeat fail
 refine zaC rfl (nsh_ok (by omega) hl ll ?_)
 repeat fail
 refine zac I.obj rfl rfl ?_
 repeat fail
 refine zaC rfl (trim_ok (by omega) I G fun t L' T ks mb1 mb2 xss J ho TB TR => ?_)
 have TG := trim_good I G TB TR J
 have HT := TG.g.lab (noEmp_up (TG.no hE))
 repeat fail
 refine zaC rfl (es_ok (by omega) J (TG.no hE) ?_)
 refine zch ?_
 have hc := Nat.mul_le_mul_left ((u.length + 1) * (l.length + 1)) (Nat.succ_le_succ TG.cnt)
 have hn := TG.len
 refine tail (X:=wX (h ++ t) L' T u l .none p k p k 0 0) h' ⟨J,TG.g,Nat.le_refl _,Nat.le_refl _,Nat.lt_of_le_of_lt (Nat.add_le_add_left hc 1) cl,Nat.le_trans (Nat.add_le_add_left (Nat.add_le_add_left (Nat.add_le_add (Nat.add_le_add_left hc 1) hn) _) _) hbd⟩ ⟨rfl,fun i j s hi hj _ => ?_⟩ rfl rfl rfl (Nat.le_refl _) (Nat.le_refl _) fun t2 => ?_
 ·show Bv T u l i j s = _
  rw [Bv_eq HT hi hj,beh_splitE,esum_none fun a ha => noEmp_mem (TG.no hE) ha,R.add_zero]
 ·show Q (R.e (R.mul T.first (Bv T u l 0 0 T.start))) (h ++ t ++ t2)
  rw [trim_weight I G TB TR (G.lab (noEmp_up hE)) HT,List.append_assoc]
  exact q _
end
end Hd
namespace Hd
open Mi
section
variable {R : Rg} {d : Nat} {h h0 : MH} {Q : Val -> MH -> Prop} {L : Ly} {M : Mc R.α}
theorem chain1_ok {s t c e p k : Nat} {w : R.α} (hd : 5 <= d) (I : IsM R h L M) (hs : s < M.arcs.length) (ht : t < M.arcs.length) (lc : lett c = true) (le : lett e = true) (hw : R.D p k w) (hz : w ≠ R.zero) (hl : 4 * p + k <= 3800) (hc : M.cnt < 1000)
  (q : ∀ h',IsM R h' L (M.arc s ⟨[c],[e],w,t⟩) -> Kept h h' (own L) -> Q .none h') : WF P0 d 191 [.ref L.m,.int s,.str [c],.str [e],R.e w,.int t] h Q := by
 refine zar (K:=4) hd (some (.ref L.m) :: some (.int s) :: some (.str [c]) :: some (.str [e]) :: some (R.e w) :: some (.int t) :: nn 10) rfl rfl rfl fun d' h' => ?_
 unfold bd_Machine_chain
 have hlim := I.lim
 repeat fail
 refine zaf (zag I.obj rfl rfl) (zcu (k:=s) (by omega) I hs ?_)
 repeat fail
 refine zaf (zag I.obj rfl rfl) (zcu (k:=t) (by omega) I ht ?_)
 repeat fail
 refine zac I.obj rfl rfl ?_
 repeat fail
 refine R.need_ok (by omega) hw hl ?_
 repeat fail
 refine zaC rfl (zcS (by omega) (fun x hx => by rw [List.mem_singleton.mp hx]; exact lc) (by show 1 < 1000; decide) ?_)
 repeat fail
 refine zaC rfl (zcS (by omega) (fun x hx => by rw [List.mem_singleton.mp hx]; exact le) (by show 1 < 1000; decide) ?_)
 repeat fail
 refine wv_bi (v:=.int 1) (h' := h) rfl ?_
 repeat fail
 refine zaf (zag I.obj rfl rfl) (room_ok (n:=0) (by omega) I (by omega) ?_)
 repeat fail
 refine zac I.obj rfl rfl ?_
 repeat fail
 refine za0 (decide_eq_false (by omega)) ?_
 repeat fail
 refine zcD (n:=1) (by show 1 < 200000; decide) (by decide) (fun i fr g => (i = 0 -> g = h /\ fr = some (.ref L.m) :: some (.int s) :: some (.str [c]) :: some (.str [e]) :: some (R.e w) :: some (.int t) :: some (.int 1) :: some (.int s) :: nn 8) /\ (i = 1 -> IsM R g L (M.arc s ⟨[c],[e],w,t⟩) /\ Kept h g (own L))) ?_ ?_ ?_
 ·repeat fail
  exact ⟨rfl,(fun _ => ⟨rfl,rfl⟩),fun e => nomatch e⟩
 ·rintro i hi fr g ⟨h1,_⟩
  have : i = 0 := by omega
  subst this
  obtain ⟨rfl,rfl⟩ := h1 rfl
  repeat fail
  refine za0 (s:=true) rfl ?_
  repeat fail
  refine wsl_str (a:=0) (b:=1) ?_
  repeat fail
  refine wsl_str (a:=0) (b:=1) ?_
  repeat fail
  refine za0 (s:=true) rfl ?_
  repeat fail
  refine zaf (zag I.obj rfl rfl) (arc_ok (s:=s) (a:=⟨[c],[e],w,t⟩) (by omega) I hs ht (.inr ⟨c,rfl,lc⟩) (.inr ⟨e,rfl,le⟩) hw hl (by omega) fun g' M' J K _ hM => ?_)
  have hM := hM hz
  subst hM
  repeat fail
  exact ⟨(fun e => nomatch e),fun _ => ⟨J,K⟩⟩
 ·rintro fr g ⟨_,h2⟩
  obtain ⟨J,K⟩ := h2 rfl
  repeat fail
  exact q g J K
noncomputable def zcl (M : Mc R.α) (w : R.α) : Mc R.α := { M.more.arc 0 ⟨[97],[120],w,M.arcs.length⟩ with ends := M.more.ends.set M.arcs.length R.one }
noncomputable def zaV (R : Rg) : List R.α -> Mc R.α := fun ws => ws.foldl zcl (M0 (R:=R)).more
theorem rowsM_len {ws : List R.α} : (zaV R ws).arcs.length = ws.length + 1 /\ (zaV R ws).cnt = ws.length := by
 unfold zaV
 have : ∀ (M : Mc R.α),(ws.foldl zcl M).arcs.length = ws.length + M.arcs.length /\ (ws.foldl zcl M).cnt = ws.length + M.cnt := by
  induction ws with
  | nil => intro M; exact ⟨(Nat.zero_add _).symm,(Nat.zero_add _).symm⟩
  | cons w ws ih =>
   intro M
   rw [List.foldl_cons,(ih _).1,(ih _).2]
   have e1 : (zcl M w).arcs.length = M.arcs.length + 1 := by
    show ((M.arcs ++ [[]]).set 0 _).length = _
    rw [List.length_set,List.length_append]; rfl
   have e2 : (zcl M w).cnt = M.cnt + 1 := rfl
   rw [e1,e2,List.length_cons]; omega
 exact this _
theorem pairs_ok {aR p k : Nat} {ws : List R.α} (hd : 6 <= d) (hR : h[aR]? = some (.list (ws.map fun w => Val.tup [.str [97],.str [120],R.e w]))) (hw : ∀ w ∈ ws,R.D p k w /\ w ≠ R.zero) (hl : 4 * p + k <= 3800) (hn : ws.length < 300)
  (q : ∀ t L',IsM R (h ++ t) L' (zaV R ws) -> Q (.ref L'.m) (h ++ t)) : WF P0 d 190 [.top (112 + R.i),.ref aR] h Q := by
 refine zar (K:=5) hd (some (.top (112 + R.i)) :: some (.ref aR) :: nn 12) rfl rfl rfl fun d' h' => ?_
 unfold bd_rational_of_pairs
 repeat fail
 refine new_ok (by omega) fun t J => ?_
 repeat fail
 refine zaf (zag J.obj rfl rfl) (zbX (by omega) J (by show 0 < 10000; decide) fun h' J' K => ?_)
 have hlt : h.length <= (h ++ t).length := by rw [List.length_append]; omega
 obtain ⟨t',rfl⟩ := K.pre (by intro a ha; simp only [List.mem_cons,List.not_mem_nil,or_false] at ha; rcases ha with rfl | rfl <;> omega)
 have ho : ∀ a ∈ own ((⟨h.length,h.length + 1,h.length + 2,[]⟩ : Ly).more (h ++ t).length),h.length <= a := fun a ha => by
  rcases zcR a ha with ha | rfl
  ·simp only [own,List.mem_cons,List.not_mem_nil,or_false] at ha
   rcases ha with rfl | rfl | rfl <;> omega
  ·exact hlt
 have em : ((⟨h.length,h.length + 1,h.length + 2,[]⟩ : Ly).more (h ++ t).length).m = h.length := rfl
 generalize (⟨h.length,h.length + 1,h.length + 2,[]⟩ : Ly).more (h ++ t).length = L0 at *
 repeat fail
 refine ws_for ?_
 repeat fail
 refine ⟨.ls aR,ws.map fun w => Val.tup [.str [97],.str [120],R.e w],zca (zab hR),by rw [List.length_map]; exact Nat.lt_trans hn (by show 300 < 200000; decide),fun i fr g => ∃ L1 t o4 o5 o6 o7,g = h ++ t /\ fr = some (.top (112 + R.i)) :: some (.ref aR) :: some (.ref h.length) :: some (.int 0) :: o4 :: o5 :: o6 :: o7 :: nn 6 /\ IsM R g L1 (zaV R (ws.take i)) /\ L1.m = h.length /\ ∀ a ∈ own L1,h.length <= a,⟨L0,t',none,none,none,none,rfl,rfl,J',em,ho⟩,?_,?_,?_⟩
 ·rintro i fr g ⟨L1,t,o4,o5,o6,o7,rfl,_⟩; exact zb7 (zab hR)
 ·rintro i x hx fr g ⟨L1,t,o4,o5,o6,o7,rfl,rfl,I1,e1,ho⟩
  rw [List.getElem?_map] at hx
  obtain ⟨w,hwi,rfl⟩ := ms hx
  have hi := zaB hwi
  obtain ⟨hD,hz⟩ := hw w (List.mem_of_getElem? hwi)
  obtain ⟨l1,l2⟩ := rowsM_len (R:=R) (ws:=ws.take i)
  rw [List.length_take,Nat.min_eq_left (Nat.le_of_lt hi)] at l1 l2
  refine Wo.of (a:=some (.top (112 + R.i)) :: some (.ref aR) :: some (.ref h.length) :: some (.int 0) :: some (.str [97]) :: some (.str [120]) :: some (R.e w) :: o7 :: nn 6) rfl ?_
  rw [<- e1]
  repeat fail
  refine zaf (zag I1.obj rfl rfl) (zbX (by omega) I1 (by omega) fun h2 I2 K2 => ?_)
  have o2 : ∀ a ∈ own (L1.more (h ++ t).length),h.length <= a := fun a ha => by
   rcases zcR a ha with ha | rfl
   ·exact ho a ha
   ·rw [List.length_append]; omega
  have l3 : (Mc.more (zaV R (ws.take i))).arcs.length = i + 2 := by
   show (_ ++ [[]]).length = _
   rw [List.length_append,l1]; rfl
  repeat fail
  have ob2 : h2[L1.m]? = some (mO R (L1.more (h ++ t).length) (zaV R (ws.take i)).more) := I2.obj
  have l4 : (Mc.more (zaV R (ws.take i))).cnt = i := l2
  refine zaf (zag ob2 rfl rfl) (chain1_ok (L:=L1.more (h ++ t).length) (s:=0) (t:=(zaV R (ws.take i)).arcs.length) (c:=97) (e:=120) (w:=w) (by omega) I2 (by omega) (by omega) (by decide +kernel) (by decide +kernel) hD hz hl (by omega) fun h3 I3 K3 => ?_)
  have ob3 : h3[L1.m]? = some (mO R (L1.more (h ++ t).length) ((zaV R (ws.take i)).more.arc 0 ⟨[97],[120],w,(zaV R (ws.take i)).arcs.length⟩)) := I3.obj
  have l5 : ((zaV R (ws.take i)).more.arc 0 ⟨[97],[120],w,(zaV R (ws.take i)).arcs.length⟩).arcs.length = i + 2 := by
   show (List.set _ _ _).length = _
   rw [List.length_set]; exact l3
  repeat fail
  refine zaf (zag ob3 rfl rfl) (end1_ok (L:=L1.more (h ++ t).length) (s:=(zaV R (ws.take i)).arcs.length) (by omega) I3 (by omega) fun h4 I4 K4 => ?_)
  have sub : ∀ a ∈ [L1.aA,L1.aE],a ∈ own (L1.more (h ++ t).length) := fun a ha => by
   simp only [List.mem_cons,List.not_mem_nil,or_false] at ha
   rcases ha with rfl | rfl
   ·exact .tail _ (.head _)
   ·exact .tail _ (.tail _ (.head _))
  obtain ⟨t4,rfl⟩ := (((K2.sub sub).trans K3).trans K4).pre o2
  repeat fail
  rw [e1]
  refine ⟨L1.more (h ++ t).length,t4,_,_,_,_,rfl,rfl,?_,e1,o2⟩
  have es : zaV R (ws.take (i + 1)) = zcl (zaV R (ws.take i)) w := by
   unfold zaV
   rw [List.take_succ,hwi]
   show List.foldl zcl _ (_ ++ [w]) = _
   rw [List.foldl_append]; rfl
  rw [es]
  exact I4
 ·rintro fr g ⟨L1,t,o4,o5,o6,o7,rfl,rfl,I1,e1,ho⟩
  rw [List.length_map,List.take_length] at I1
  repeat fail
  rw [<- e1]
  exact q t L1 I1
end
end Hd
namespace Hd
open Mi
theorem veq_ints {h : MH} {x y : Nat} {l : List Int} (hx : h[x]? = some (.list (l.map Val.int))) (hy : h[y]? = some (.list (l.map Val.int))) : veq h (.ref x) (.ref y) = some true := by
 have e : veq h (.ref x) (.ref y) = veqD h (.ref x) (.ref y) := by
  unfold veq
  rw [dictAt_l hx]; rfl
 have em : ∀ l : List Int,(l.map Val.int).mapM (toD h 7) = some (l.map PySem.PyData.int) := fun l => by
  induction l with
  | nil => rfl
  | cons a l ih => rw [List.map_cons,List.mapM_cons,ih]; rfl
 have t : ∀ {z : Nat},h[z]? = some (.list (l.map Val.int)) -> toD h 8 (.ref z) = some (.list (l.map PySem.PyData.int)) := fun {z} hz => by
  show (zaq h (.ref z)).bind _ = _
  rw [za7 hz]
  show ((l.map Val.int).mapM (toD h 7)).map _ = _
  rw [em]; rfl
 have ea : ∀ l : List Int,PySem.PyData.eqvAll (l.map PySem.PyData.int) (l.map PySem.PyData.int) = true := fun l => by
  induction l with
  | nil => rfl
  | cons a l ih => rw [List.map_cons,PySem.PyData.eqvAll,ih]; simp [PySem.PyData.eqv]
 rw [e]
 unfold veqD
 rw [t hx,t hy]
 show some (PySem.PyData.eqv (.list _) (.list _)) = _
 rw [PySem.PyData.eqv,ea]
theorem res_of (x : Int) {m : Nat} (hm : 0 < m) : ∃ n : Nat,n < m /\ Int.fmod x m = n := by
 have g1 := Int.fmod_nonneg_of_pos x (b:=m) (by omega)
 have g2 := Int.fmod_lt_of_pos x (b:=m) (by omega)
 exact ⟨(Int.fmod x m).toNat,by omega,by omega⟩
theorem rgC : (fun h => zaG P0 200000 60 105 [.str [99,111,117,110,116]] h) = fun h => some (.top 114,h) := by kernel_rfl
noncomputable def mc10 (a b : Nat) : Mc RCount.α := ⟨[[⟨[97],[120],a,1⟩,⟨[97],[120],b,2⟩],[],[]],[(0 : Nat),(1 : Nat),(1 : Nat)],0,(1 : Nat),2⟩
theorem w10 (a b : Nat) : Bv (R:=RCount) (mc10 a b) [97] [120] 0 0 0 = a + b := by
 have : Bv (R:=RCount) (mc10 a b) [97] [120] 0 0 0 = (0 + (a * (1 + 0) + (b * (1 + 0) + 0)) : Nat) := by rfl
 rw [this]
 show (0 + (a * (1 + 0) + (b * (1 + 0) + 0)) : Nat) = a + b
 omega
theorem z10 (a b : Nat) : Bv (R:=RCount) (mc10 a b) [97] [121] 0 0 0 = (0 : Nat) := by rfl
theorem g10 {a b : Nat} (ha : a <= 64) (hb : b <= 64) (a0 : a ≠ 0) (b0 : b ≠ 0) : zbW (R:=RCount) (mc10 a b) 0 6 := by
 have l1 : lab [97] := .inr ⟨97,rfl,by decide +kernel⟩
 have l2 : lab [120] := .inr ⟨120,rfl,by decide +kernel⟩
 refine ⟨by show 0 < 3; decide,fun ys hy x hx => ?_,by show (1 : Nat) <= 2 ^ 6; decide,fun e he => ?_,by decide,by show 3 <= 300; decide,by show 2 <= 300; decide⟩
 ·rcases List.mem_cons.mp hy with rfl | hy
  rotate_left
  ·rcases List.mem_cons.mp hy with rfl | hy
   ·exact absurd hx List.not_mem_nil
   ·cases List.mem_singleton.mp hy; exact absurd hx List.not_mem_nil
  ·simp only [List.mem_cons,List.not_mem_nil,or_false] at hx
   rcases hx with rfl | rfl
   ·exact ⟨by show 1 < 3; decide,l1,l2,ha,a0⟩
   ·exact ⟨by show 2 < 3; decide,l1,l2,hb,b0⟩
 ·have : ∀ e ∈ ([0,1,1] : List Nat),e <= 2 ^ 6 := by decide
  exact this e he
theorem law_ok (ns : List Int) : WF P0 61 178 [.fl (ns.map .int)] [] fun v _ => v = .bool true := by
 refine wf_body (d:=60) (fn:=fn_law_law) rfl rfl ?_
 show WSs (Cxd P0 60) bd_law_law (some (.fl (ns.map .int)) :: nn 9) _ _
 unfold bd_law_law
 repeat fail
 refine wv_len (n:=ns.length) (by show some _ = _; rw [List.length_map]) ?_
 repeat fail
 refine br (fun hk => ?_) (fun hk => ?_)
 ·repeat fail
  rfl
 have hk : 2 <= ns.length := by have := of_decide_eq_false hk; omega
 have h0 := List.getElem?_eq_getElem (show 0 < ns.length by omega)
 have h1 := List.getElem?_eq_getElem (show 1 < ns.length by omega)
 obtain ⟨a,ha,ea⟩ := res_of ns[0] (show 0 < 50 by decide)
 obtain ⟨b,hb,eb⟩ := res_of ns[1] (show 0 < 50 by decide)
 repeat fail
 refine wi_fl (i:=0) (v:=.int ns[0]) (by rw [List.getElem?_map,h0]; rfl) ?_
 repeat fail
 refine wb_mod (by decide) ?_
 repeat fail
 refine wi_fl (i:=1) (v:=.int ns[1]) (by rw [List.getElem?_map,h1]; rfl) ?_
 repeat fail
 refine wb_mod (by decide) ?_
 repeat fail
 rw [show Int.fmod ns[0] 50 = (a : Int) from ea,show Int.fmod ns[1] 50 = (b : Int) from eb]
 rw [show (1 : Int) + (a : Int) = ((a + 1 : Nat) : Int) by omega,show (1 : Int) + (b : Int) = ((b + 1 : Nat) : Int) by omega]
 refine zaC rfl (W.of (congrFun rgC _) ?_)
 repeat fail
 refine zaC rfl (pairs_ok (R:=RCount) (ws:=[a + 1,b + 1]) (p:=0) (k:=6) (by decide) zah (fun w hw => ?_) (by decide) (by show 2 < 300; decide) fun t L' I => ?_)
 ·simp only [List.mem_cons,List.not_mem_nil,or_false] at hw
  rcases hw with rfl | rfl
  ·exact ⟨show a + 1 <= 2 ^ 6 by omega,show a + 1 ≠ 0 by omega⟩
  ·exact ⟨show b + 1 <= 2 ^ 6 by omega,show b + 1 ≠ 0 by omega⟩
 have I : IsM RCount _ L' (mc10 (a + 1) (b + 1)) := I
 have G := g10 (a:=a + 1) (b:=b + 1) (by omega) (by omega) (by omega) (by omega)
 have lt : ∀ {c : Nat},lett c = true -> ∀ x ∈ [c],lett x = true := fun h x hx => by rw [List.mem_singleton.mp hx]; exact h
 repeat fail
 refine zaC rfl (weight_ok (u:=[97]) (l:=[120]) (by decide) I G rfl (lt (by decide +kernel)) (lt (by decide +kernel)) (by show 1 <= 200; decide) (by show 1 <= 200; decide) (by show 1 + 2 * 2 * 3 < 100000; decide) (by show 4 * (0 * 4) + (6 * 4 + (1 + 2 * 2 * 3 + 3)) <= 3800; decide) fun t1 => ?_)
 repeat fail
 refine zaC rfl (weight_ok (u:=[97]) (l:=[121]) (by decide) I.app G rfl (lt (by decide +kernel)) (lt (by decide +kernel)) (by show 1 <= 200; decide) (by show 1 <= 200; decide) (by show 1 + 2 * 2 * 3 < 100000; decide) (by show 4 * (0 * 4) + (6 * 4 + (1 + 2 * 2 * 3 + 3)) <= 3800; decide) fun t2 => ?_)
 repeat fail
 have e1 : RCount.e (RCount.mul (mc10 (a + 1) (b + 1)).first (Bv (R:=RCount) (mc10 (a + 1) (b + 1)) [97] [120] 0 0 (mc10 (a + 1) (b + 1)).start)) = .int ((a + 1 + (b + 1) : Nat) : Int) := by
  show RCount.e (RCount.mul (1 : Nat) (Bv (R:=RCount) (mc10 (a + 1) (b + 1)) [97] [120] 0 0 0)) = _
  rw [w10]
  show Val.int ((1 * (a + 1 + (b + 1)) : Nat) : Int) = _
  rw [Nat.one_mul]
 have e2 : RCount.e (RCount.mul (mc10 (a + 1) (b + 1)).first (Bv (R:=RCount) (mc10 (a + 1) (b + 1)) [97] [121] 0 0 (mc10 (a + 1) (b + 1)).start)) = .int 0 := by
  show RCount.e (RCount.mul (1 : Nat) (Bv (R:=RCount) (mc10 (a + 1) (b + 1)) [97] [121] 0 0 0)) = _
  rw [z10]; rfl
 rw [e1,e2]
 refine wc_eq (veq_ints (l:=[((a + 1 + (b + 1) : Nat) : Int),0]) (zab zah) (by rw [zah]; congr 3)) ?_
 repeat fail
 rfl
theorem run_all (ns : List Int) : ∃ H',zaG P0 200000 61 178 [Val.fl (ns.map Val.int)] [] = some (Val.bool true,H') := by
 obtain ⟨v,h,e,rfl⟩ := W.get (law_ok ns)
 exact ⟨h,e⟩
end Hd
namespace Hd
open Mi
theorem ints_rel {C : Cfg} {w : Wd} {vs : List Value} {ns : List Int} (h : IntsAre vs ns) : zaa C w (ns.map Val.int) vs := by
 induction h with
 | nil => exact .nil
 | cons n t _ ih => exact .cons ⟨t,rfl⟩ ih
theorem fin_law {p : Program} {loose : List PySem.Str} {mean : ExcName -> Option Value} {w : World} {s₀ s₁ : Shared} {mg mb : PySem.Str -> Option Value} {fa a : Addr} {vs : List Value} {ns : List Int} {R : WRecords} {as : List Addr} (KX : Frag.In (KK w.params) s₁.heap) (ZN : s₀.heap.objs.size = nat_lit 737)
  (T : Top p loose mean mg mb s₁.heap) (hmg : mg (PySem.Str.ofString "law") = some (.ref fa)) (L : Laid R w s₀ s₁ [ofPy (PyData.list (List.map PyData.int ns))] [.ref a] as) (hL : s₁.heap.IsList a vs.toArray) (hI : IntsAre vs ns) (hlen : ¬ ((63 : Int) < (ns.length : Int))) (hg : s₁.gens = #[]) :
  wpAny (model pw w) callerA (call (.ref fa) [.ref a]) (fun v s' => GoodWG PySem.Challenge.rw_ui0508_10.row.claim (classAt s₀.heap) (ExcName.means s₀.heap) [ofPy (PyData.list (List.map PyData.int ns))] s₁ (.ok (.ret v)) s')
   (fun e s' => GoodWG PySem.Challenge.rw_ui0508_10.row.claim (classAt s₀.heap) (ExcName.means s₀.heap) [ofPy (PyData.list (List.map PyData.int ns))] s₁ (.error e) s') s₁ := by
 obtain ⟨hat,hsz⟩ := script_at L
 rw [ZN] at hat hsz
 subst hat
 obtain ⟨so,h1,h2,n,h3⟩ := hL
 have e := mg_of KX T.g (law_nm w)
 have e' : mg (PySem.Str.ofString "law") = some (.ref lawAd) := e
 rw [hmg] at e'
 cases e'
 have X : (cfg w so).K.In s₁.heap := by
  intro b o hb
  have hb' : List.lookup b ((size0,so) :: KK w.params) = some o := hb
  rw [List.lookup_cons] at hb'
  split at hb'
  ·rename_i q
   rw [beq_iff_eq] at q
   cases hb'; subst q; exact h1
  ·exact KX b o hb'
 have hv : VRel (cfg w so) ⟨[],[]⟩ (Val.fl (ns.map Val.int)) (.ref size0) := by
  refine ⟨size0,so,n,vs,rfl,⟨?_,h2,h3⟩,ints_rel hI,?_⟩
  ·show List.lookup size0 ((size0,so) :: KK w.params) = some so
   rw [List.lookup_cons,beq_self_eq_true]
  ·rw [List.length_map]
   have : lim = 1000000 := rfl
   omega
 obtain ⟨H',hr⟩ := run_all ns
 refine law_runs (C:=cfg w so) (tab w so) X T (by rw [hsz]; decide) (f:=lawAt) (fa:=lawAd) (by kernel_rfl) (fun fn h => by
  have e : P0.fnAt 178 = some fn := h
  rw [show P0.fnAt 178 = some fn_law_law from by kernel_rfl] at e
  cases e; rfl) hv hr fun w' v s' r hk hgs hos => ?_
 have r : v = .bool true := r
 subst r
 exact GoodW.toG ⟨.inl ⟨.bool true,.bool true,[],rfl,fun _ => rfl,.bool true,by first | kernel_rfl | wrow_post,unshared_nil⟩,hk,hos,hgs.trans hg⟩
end Hd
set_option maxHeartbeats 0 in
theorem PySem.Challenge.cw_ui0508_10_holds : PySem.Challenge.rw_ui0508_10.Holds := by
 w_on
 refine holds_law (by
  rw [PySem.W.Fast.te9446332074065402090]
  unfold PySem.W.Fast.tw9446332074065402090
  iterate 18 refine look_both ?_ (by kernel_rfl)
  kernel_rfl) fun said => ?_
 refine holds_openX Hd.left0 (XP:=XL (Hd.qOf Hd.pw) []) (fun s e => xl_of s (Bool.and_eq_true_iff.mp e).1) XL.keeps (by rfl) (by rfl) (by rfl) (fun s e => recFacts_of (Bool.and_eq_true_iff.mp e).2) (by rfl) (by assumption) (by decide +kernel) ⟨rfl,rfl,rfl,rfl,rfl,by decide +kernel⟩ ?hw ?hc
 case hw => w_witness2
 clear said
 intro w s₀ s₁ mg mb G y fa o pm cd doc dV kV ho hd hcd hD hmg hg args vals as L hpre hlay hrd hwl hlo
 have hf := Hd.facts1 y L.keeps
 clear y
 obtain ⟨KX,ZN,ZT⟩ := hf
 refine Ground.open G ?_
 intro T B D TE TW
 wrow_args hpre hlay hrd hwl hlo
 exact Hd.fin_law KX ZN T hmg L (by assumption) (by assumption) (by assumption) hg
