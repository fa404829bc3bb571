import PyProof.Rows.All
import Wide.All
import OpenK.AllK
import Wide.FinOn
import PySem.Claim
import PySem.PyData
import PyProof.P3Statements
import OpenK.KCell
import OpenK.KMeth
import OpenK.KEqL
import PyProof.P3Eq
import PyProof.P3In
import PyProof.EqKinds
import PyProof.TupleKey
import PyProof.Rows.RotEnd
import PyProof.Rows.ListMul
import PyProof.IsRules
import PySem.Challenge.RW_ui0508_03
set_option Elab.async false
set_option linter.all false
set_option autoImplicit false
set_option maxHeartbeats 8000000
set_option maxRecDepth 100000
namespace Mi
open PySem

/-! the mini world: values, heap, program form, evaluator -/

inductive Val where
  | none
  | bool (b : Bool)
  | int (i : Int)
  | str (s : List Nat)
  | tup (vs : List Val)
  | ref (a : Nat)
  | top (a : Nat)
  | ty (n : Nat)
  | bi (n : Nat)
  | rng (n : Int)
  | fl (vs : List Val)
  deriving Inhabited

inductive MObj where
  | list (vs : List Val)
  | dict (ep : Nat) (es : List (Val × Val))
  | inst (c : Nat) (fs : List (Nat × Val))
  deriving Inhabited

abbrev MH := List MObj
abbrev Frame := List (Option Val)

inductive BOp where
  | add | sub | mul | fdiv | mod | pow
inductive COp where
  | eq | ne | lt | le | gt | ge | isin | notin | is | isnot

inductive Ex where
  | var (x : Nat)
  | lit (v : Val)
  | list (es : List Ex)
  | tup (es : List Ex)
  | dict (kvs : List Ex)
  | bin (op : BOp) (a b : Ex)
  | neg (a : Ex)
  | not (a : Ex)
  | cmp (op : COp) (a b : Ex)
  | cmp2 (o1 o2 : COp) (a b c : Ex)
  | and (es : List Ex)
  | or (es : List Ex)
  | ite (c a b : Ex)
  | attr (e : Ex) (n : Nat)
  | sub (e i : Ex)
  | slice (e : Ex) (lo hi : Option Ex)
  | call (f : Ex) (as : List Ex)
  | meth (o : Ex) (n : Nat) (as : List Ex)
  | comp (elt : Ex) (tg : List Nat) (many : Bool) (it : Ex) (ifs : List Ex)

inductive T1 where
  | nm (x : Nat)
  | at (o : Ex) (n : Nat)
  | sb (o i : Ex)

inductive Sm where
  | expr (e : Ex)
  | asg (t : T1) (e : Ex)
  | asgs (ts : List T1) (e : Ex)
  | ret (e : Option Ex)
  | ite (c : Ex) (a b : List Sm)
  | wh (c : Ex) (b : List Sm)
  | fo (tg : List Nat) (many : Bool) (e : Ex) (b : List Sm)
  | brk | cont | pass
  | raise

inductive Fl where
  | nx | bk | ct
  | rt (v : Val)

structure Fn where
  addr : Nat
  np : Nat
  dfl : List Val
  ns : Nat
  body : List Sm
structure Cl where
  addr : Nat
  attrs : List (Nat × Val)
  init : Option Nat
structure Prg where
  fns : List Fn
  cls : List Cl
  insts : List (Nat × Nat)

/-- a name as a number -/
def enc (x : Str) : Nat := x.cps.toList.foldl (fun a c => a * 256 + c) 0

/-- deep data of a value -/
def toD (h : MH) : Nat → Val → Option PyData
  | _, .none => some .none
  | _, .bool b => some (.bool b)
  | _, .int i => some (.int i)
  | _, .str s => some (.str ⟨s.toArray⟩)
  | k + 1, .tup vs => (vs.mapM (toD h k)).map .tuple
  | k + 1, .ref a => match h[a]? with
    | some (.list vs) => (vs.mapM (toD h k)).map .list
    | _ => none
  | _, _ => none

def veq (h : MH) (a b : Val) : Option Bool :=
  match toD h 8 a, toD h 8 b with
  | some x, some y => some (PyData.eqv x y)
  | _, _ => none

def truthy (h : MH) : Val → Option Bool
  | .none => some false
  | .bool b => some b
  | .int i => some (i != 0)
  | .str s => some (!s.isEmpty)
  | .tup vs => some (!vs.isEmpty)
  | .ref a => match h[a]? with
    | some (.list vs) => some (!vs.isEmpty)
    | _ => none
  | _ => none

/-- keys: 1 an int or a str, 3 a tuple of these, 0 none -/
def isAtom : Val → Bool
  | .int _ => true
  | .str _ => true
  | _ => false
def keyKind : Val → Nat
  | .int _ => 1
  | .str _ => 1
  | .tup vs => if vs.all isAtom then 3 else 0
  | _ => 0
def kEq (a b : Val) : Bool :=
  match toD [] 8 a, toD [] 8 b with
  | some x, some y => PyData.eqv x y
  | _, _ => false
def keyFits (es : List (Val × Val)) (k : Val) : Bool :=
  keyKind k != 0 && match es with
  | [] => true
  | (k0, _) :: _ => keyKind k0 == keyKind k
def dget (es : List (Val × Val)) (k : Val) : Option Val := (es.find? fun p => kEq p.1 k).map (·.2)
def dput (es : List (Val × Val)) (k v : Val) : List (Val × Val) :=
  if (dget es k).isSome then es.map fun p => if kEq p.1 k then (p.1, v) else p else es ++ [(k, v)]

/-- the pairs of a display, put one behind the other -/
def dpairs : List Val → List (Val × Val) → Option (List (Val × Val))
  | [], es => some es
  | [_], _ => none
  | k :: v :: r, es => if keyFits es k then dpairs r (dput es k v) else none

def alloc (h : MH) (o : MObj) : Option (Val × MH) := some (.ref h.length, h ++ [o])

/-- sizes that the mini world keeps to -/
def lim : Nat := 1000000
def bigB : Nat := 2 ^ 100000
def divB : Nat := 2 ^ 8000
def mulOk (a b : Int) : Bool := decide (a.natAbs < bigB) && decide (b.natAbs < bigB)

def addOp (h : MH) : Val → Val → Option (Val × MH)
  | .int a, .int b => some (.int (a + b), h)
  | .str a, .str b => if a.length + b.length ≤ lim then some (.str (a ++ b), h) else none
  | .ref a, .ref b => match h[a]?, h[b]? with
    | some (.list x), some (.list y) => if x.length + y.length ≤ lim then alloc h (.list (x ++ y)) else none
    | _, _ => none
  | _, _ => none
def mulOp (h : MH) : Val → Val → Option (Val × MH)
  | .int a, .int b => if mulOk a b then some (.int (a * b), h) else none
  | .int a, .bool b => some (.int (a * (if b then 1 else 0)), h)
  | .ref a, .int n => match h[a]? with
    | some (.list x) => if n ≤ lim ∧ -(lim : Int) ≤ n ∧ x.length * n.toNat ≤ lim then alloc h (.list (List.replicate n.toNat x).flatten) else none
    | _ => none
  | .str s, .int n => if n ≤ lim ∧ -(lim : Int) ≤ n ∧ s.length * n.toNat ≤ lim then some (.str (List.replicate n.toNat s).flatten, h) else none
  | _, _ => none
def arith : BOp → Int → Int → Option Int
  | .sub, a, b => some (a - b)
  | .fdiv, a, b => if b = 0 ∨ ¬ b.natAbs < divB then none else some (Int.fdiv a b)
  | .mod, a, b => if b = 0 then none else some (Int.fmod a b)
  | .pow, a, b => if 0 ≤ b ∧ b ≤ 64 ∧ a.natAbs < 2 ^ 64 then some (a ^ b.toNat) else none
  | _, _, _ => none
def binop : BOp → Val → Val → MH → Option (Val × MH)
  | .add, a, b, h => addOp h a b
  | .mul, a, b, h => mulOp h a b
  | op, .int a, .int b, h => (arith op a b).map fun k => (.int k, h)
  | _, _, _, _ => none

def isV : Val → Val → Option Bool
  | .ty a, .ty b => some (a == b)
  | .none, .none => some true
  | _, .none => some false
  | _, _ => none

def anyEq (h : MH) (x : Val) (vs : List Val) : Option Bool :=
  match vs.mapM (toD h 7), toD h 7 x with
  | some ds, some d => some (ds.any fun y => PyData.eqv y d)
  | _, _ => none

def isIn (h : MH) (x : Val) : Val → Option Bool
  | .str t => match x with
    | .str [c] => some (decide (c ∈ t))
    | _ => none
  | .tup vs => anyEq h x vs
  | .ref a => match h[a]? with
    | some (.list vs) => anyEq h x vs
    | _ => none
  | _ => none

def cmpop : COp → Val → Val → MH → Option Bool
  | .eq, a, b, h => veq h a b
  | .ne, a, b, h => (veq h a b).map (!·)
  | .lt, .int a, .int b, _ => some (decide (a < b))
  | .le, .int a, .int b, _ => some (decide (a ≤ b))
  | .gt, .int a, .int b, _ => some (decide (b < a))
  | .ge, .int a, .int b, _ => some (decide (b ≤ a))
  | .isin, a, b, h => isIn h a b
  | .notin, a, b, h => (isIn h a b).map (!·)
  | .is, a, b, _ => isV a b
  | .isnot, a, b, _ => (isV a b).map (!·)
  | _, _, _, _ => none

def idx (n : Nat) : Val → Option Nat
  | .int i => if 0 ≤ i ∧ i < n then some i.toNat else none
  | _ => none

def subscr (h : MH) (o i : Val) : Option Val :=
  match o with
  | .tup vs => (idx vs.length i).bind fun k => vs[k]?
  | .fl vs => (idx vs.length i).bind fun k => vs[k]?
  | .ref a => match h[a]? with
    | some (.list vs) => (idx vs.length i).bind fun k => vs[k]?
    | _ => none
  | _ => none

/-- a bound of a slice: none below, clamped above -/
def bound (n : Nat) (d : Nat) : Option Val → Option Nat
  | none => some d
  | some (.int i) => if 0 ≤ i then some (min i.toNat n) else none
  | _ => none
def cut {α : Type} (l : List α) (a b : Nat) : List α := (l.take b).drop a
def slice (h : MH) (o : Val) (lo hi : Option Val) : Option (Val × MH) :=
  match o with
  | .str s => match bound s.length 0 lo, bound s.length s.length hi with
    | some a, some b => some (.str (cut s a b), h)
    | _, _ => none
  | .tup s => match bound s.length 0 lo, bound s.length s.length hi with
    | some a, some b => some (.tup (cut s a b), h)
    | _, _ => none
  | .ref x => match h[x]? with
    | some (.list s) => match bound s.length 0 lo, bound s.length s.length hi with
      | some a, some b => alloc h (.list (cut s a b))
      | _, _ => none
    | _ => none
  | _ => none

def setSub (h : MH) (o i v : Val) : Option MH :=
  match o with
  | .ref a => match h[a]? with
    | some (.list vs) => (idx vs.length i).map fun k => h.set a (.list (vs.set k v))
    | some (.dict ep es) => if keyFits es i ∧ es.length < lim then some (h.set a (.dict (if (dget es i).isSome then ep else ep + 1) (dput es i v))) else none
    | _ => none
  | _ => none

def fget (fs : List (Nat × Val)) (n : Nat) : Option Val := (fs.find? fun p => p.1 == n).map (·.2)
def fput (fs : List (Nat × Val)) (n : Nat) (v : Val) : List (Nat × Val) :=
  if (fget fs n).isSome then fs.map fun p => if p.1 == n then (n, v) else p else fs ++ [(n, v)]

def Prg.clsAt (P : Prg) (c : Nat) : Option Cl := P.cls.find? fun x => x.addr == c
def Prg.clsAttr (P : Prg) (c n : Nat) : Option Val := (P.clsAt c).bind fun x => fget x.attrs n
def Prg.instAt (P : Prg) (a : Nat) : Option Nat := (P.insts.find? fun p => p.1 == a).map (·.2)

def isFnV (P : Prg) : Val → Bool
  | .top a => P.fns.any fun f => f.addr == a
  | _ => false

/-- an attribute that is no method -/
def getAttr (P : Prg) (_h : MH) (o : Val) (n : Nat) : Option Val :=
  match o with
  | .top a => (P.instAt a).bind fun c => (P.clsAttr c n).bind fun v => if isFnV P v then none else some v
  | _ => none

def setAttr (h : MH) (o : Val) (n : Nat) (v : Val) : Option MH :=
  match o with
  | .ref a => match h[a]? with
    | some (.inst c fs) => some (h.set a (.inst c (fput fs n v)))
    | _ => none
  | _ => none

/-- the function that a method call on an object of an own class calls -/
def getMeth (P : Prg) (_h : MH) (o : Val) (n : Nat) : Option (Nat × List Val) :=
  match o with
  | .top a => match P.instAt a with
    | some c => match P.clsAttr c n with
      | some (.top f) => if isFnV P (.top f) then some (f, [o]) else none
      | _ => none
    | none => none
  | _ => none

/-! iteration -/
inductive It where
  | ls (a : Nat)
  | tp (vs : List Val)
  | dk (a n ep : Nat)
  | sq (s : List Nat)
  | rg (n : Int)
  | fs (vs : List Val)
def iterOf (_h : MH) : Val → Option It
  | .fl vs => some (.fs vs)
  | _ => none
def iterNext (h : MH) (i : Nat) : It → Option (Option Val)
  | .ls a => match h[a]? with
    | some (.list vs) => some vs[i]?
    | _ => none
  | .tp vs => some vs[i]?
  | .dk a n ep => match h[a]? with
    | some (.dict ep' es) => if ep' = ep ∧ es.length = n then some (es[i]?.map (·.1)) else none
    | _ => none
  | .sq s => some (s[i]?.map fun c => .str [c])
  | .rg n => some (if (i : Int) < n then some (.int i) else none)
  | .fs vs => some vs[i]?

def items (_h : MH) : Val → Option (List Val)
  | .tup vs => some vs
  | _ => none

def bindT (fr : Frame) (h : MH) (tg : List Nat) (many : Bool) (v : Val) : Option Frame :=
  if many then
    match v with
    | .tup vs => if vs.length = tg.length then some ((tg.zip vs).foldl (fun f p => f.set p.1 (some p.2)) fr) else none
    | _ => none
  else match tg with
    | [x] => some (fr.set x (some v))
    | _ => none

/-! sorting -/
def ltS : List Nat → List Nat → Bool
  | [], _ :: _ => true
  | a :: x, b :: y => if a = b then ltS x y else decide (a < b)
  | _, [] => false
mutual
def ltV : Val → Val → Option Bool
  | .int a, .int b => some (decide (a < b))
  | .str a, .str b => some (ltS a b)
  | .tup a, .tup b => ltVs a b
  | _, _ => none
def ltVs : List Val → List Val → Option Bool
  | [], _ :: _ => some true
  | _, [] => some false
  | a :: x, b :: y => if kEq a b then ltVs x y else ltV a b
end
def insV (x : Val) : List Val → Option (List Val)
  | [] => some [x]
  | y :: r => match ltV x y with
    | some true => some (x :: y :: r)
    | some false => (insV x r).map (y :: ·)
    | none => none
/-- stable: insert from the left, behind its equals -/
def sortV (l : List Val) : Option (List Val) := l.foldlM (fun acc x => insV x acc) []

/-! text -/
def digs (n : Nat) : List Nat := (Nat.toDigits 10 n).map Char.toNat
def showInt (i : Int) : List Nat := if i < 0 then 45 :: digs i.natAbs else digs i.natAbs
def readNat (s : List Nat) : Option Nat :=
  if s.isEmpty || s.length > 4300 || !s.all (fun c => 48 ≤ c && c ≤ 57) then none else some (s.foldl (fun a c => a * 10 + (c - 48)) 0)
def isSpaceC (c : Nat) : Bool := c == 32 || (9 ≤ c && c ≤ 13) || (28 ≤ c && c ≤ 31)
def partAt (sep : List Nat) : List Nat → List Nat → List Nat × List Nat × List Nat
  | acc, [] => (acc.reverse, [], [])
  | acc, c :: r => if sep.isPrefixOf (c :: r) then (acc.reverse, sep, (c :: r).drop sep.length) else partAt sep (c :: acc) r
def stripL (p : Nat → Bool) : List Nat → List Nat
  | [] => []
  | c :: r => if p c then stripL p r else c :: r
def stripV (p : Nat → Bool) (s : List Nat) : List Nat := (stripL p (stripL p s).reverse).reverse
def findAt (sep : List Nat) : Nat → List Nat → Option Nat
  | n, [] => if sep.isEmpty then some n else none
  | n, c :: r => if sep.isPrefixOf (c :: r) then some n else findAt sep (n + 1) r
def joinV (sep : List Nat) : List Val → Option (List Nat)
  | [] => some []
  | [.str s] => some s
  | .str s :: r => (joinV sep r).map fun t => s ++ sep ++ t
  | _ => none
/-- words between blanks -/
def wordsV : List Nat → List Nat → List (List Nat)
  | cur, [] => if cur.isEmpty then [] else [cur.reverse]
  | cur, c :: r => if isSpaceC c then (if cur.isEmpty then wordsV [] r else cur.reverse :: wordsV [] r) else wordsV (c :: cur) r

/-! names as numbers -/
abbrev nLen : Nat := 7103854
abbrev nMax : Nat := 7168376
abbrev nMin : Nat := 7170414
abbrev nSorted : Nat := 126922498794852
abbrev nRange : Nat := 491260897125
abbrev nList : Nat := 1818850164
abbrev nDict : Nat := 1684628340
abbrev nTuple : Nat := 500186508389
abbrev nStr : Nat := 7566450
abbrev nInt : Nat := 6909556
abbrev nType : Nat := 1954115685
abbrev nSet : Nat := 7562612
abbrev nBool : Nat := 1651470188
abbrev nNoneType : Nat := 5651857438861258853
abbrev nAppend : Nat := 107135549927012
abbrev nPop : Nat := 7368560
abbrev nIndex : Nat := 452823639416
abbrev nGet : Nat := 6776180
abbrev nIsspace : Nat := 29681812198482789
abbrev nJoin : Nat := 1785686382
abbrev nPartition : Nat := 2073057139020767260526
abbrev nSplit : Nat := 495807392116
abbrev nStrip : Nat := 495874894192
abbrev nStartswith : Nat := 545218989645367805047912
abbrev nFind : Nat := 1718185572
abbrev nAdd : Nat := 6382692

def typeOf (h : MH) : Val → Option Nat
  | .none => some nNoneType
  | .bool _ => some nBool
  | .int _ => some nInt
  | .str _ => some nStr
  | .tup _ => some nTuple
  | .ref a => match h[a]? with
    | some (.list _) => some nList
    | some (.dict ..) => some nDict
    | _ => none
  | _ => none

def lenV (h : MH) : Val → Option Nat
  | .str s => some s.length
  | .tup vs => some vs.length
  | .fl vs => some vs.length
  | .ref a => match h[a]? with
    | some (.list vs) => some vs.length
    | _ => none
  | _ => none

def intsV : List Val → Option (List Int)
  | [] => some []
  | .int i :: r => (intsV r).map (i :: ·)
  | _ => none
def maxL : List Int → Option Int
  | [] => none
  | a :: r => some (r.foldl max a)
def minL : List Int → Option Int
  | [] => none
  | a :: r => some (r.foldl min a)

def biLen (as : List Val) (h : MH) : Option (Val × MH) :=
  match as with
  | [v] => (lenV h v).map fun k => (.int k, h)
  | _ => none
def biMax (as : List Val) (h : MH) : Option (Val × MH) :=
  match as with
  | [.ref a] => match h[a]? with
    | some (.list vs) => ((intsV vs).bind maxL).map fun k => (.int k, h)
    | _ => none
  | a :: b :: r => ((intsV (a :: b :: r)).bind maxL).map fun k => (.int k, h)
  | _ => none
def biMin (as : List Val) (h : MH) : Option (Val × MH) :=
  match as with
  | a :: b :: r => ((intsV (a :: b :: r)).bind minL).map fun k => (.int k, h)
  | _ => none
def biSorted (as : List Val) (h : MH) : Option (Val × MH) :=
  match as with
  | [.ref a] => match h[a]? with
    | some (.list vs) => (sortV vs).bind fun l => alloc h (.list l)
    | some (.dict _ es) => (sortV (es.map (·.1))).bind fun l => alloc h (.list l)
    | _ => none
  | _ => none
def callBi (n : Nat) (as : List Val) (h : MH) : Option (Val × MH) :=
  if n = nLen then biLen as h else if n = nMax then biMax as h else if n = nMin then biMin as h else if n = nSorted then biSorted as h else none

def tyRange (as : List Val) (h : MH) : Option (Val × MH) :=
  match as with
  | [.int k] => some (.rng k, h)
  | _ => none
def tyList (as : List Val) (h : MH) : Option (Val × MH) :=
  match as with
  | [.tup vs] => alloc h (.list vs)
  | [.ref a] => match h[a]? with
    | some (.list vs) => alloc h (.list vs)
    | _ => none
  | _ => none
def tyDict (as : List Val) (h : MH) : Option (Val × MH) :=
  match as with
  | [.ref a] => match h[a]? with
    | some (.dict _ es) => alloc h (.dict 1 es)
    | _ => none
  | _ => none
def tyTuple (as : List Val) (h : MH) : Option (Val × MH) :=
  match as with
  | [.ref a] => match h[a]? with
    | some (.list vs) => some (.tup vs, h)
    | _ => none
  | _ => none
def tyStr (as : List Val) (h : MH) : Option (Val × MH) :=
  match as with
  | [.int i] => some (.str (showInt i), h)
  | [.str s] => some (.str s, h)
  | _ => none
def tyInt (as : List Val) (h : MH) : Option (Val × MH) :=
  match as with
  | [.str s] => (readNat s).map fun k => (.int k, h)
  | _ => none
def tyType (as : List Val) (h : MH) : Option (Val × MH) :=
  match as with
  | [v] => (typeOf h v).map fun k => (.ty k, h)
  | _ => none
def callTy (n : Nat) (as : List Val) (h : MH) : Option (Val × MH) :=
  if n = nRange then tyRange as h else if n = nList then tyList as h else if n = nDict then tyDict as h else if n = nTuple then tyTuple as h
  else if n = nStr then tyStr as h else if n = nInt then tyInt as h else if n = nType then tyType as h else none

def strMeth (s : List Nat) (n : Nat) (as : List Val) (h : MH) : Option (Val × MH) :=
  if n = nIsspace then
    match as with
    | [] => some (.bool (!s.isEmpty && s.all isSpaceC), h)
    | _ => none
  else if n = nJoin then
    match as with
    | [.ref a] => match h[a]? with
      | some (.list vs) => (joinV s vs).map fun t => (.str t, h)
      | _ => none
    | _ => none
  else if n = nPartition then
    match as with
    | [.str t] => if t.isEmpty then none else
      some (.tup [.str (partAt t [] s).1, .str (partAt t [] s).2.1, .str (partAt t [] s).2.2], h)
    | _ => none
  else if n = nSplit then
    match as with
    | [] => alloc h (.list ((wordsV [] s).map .str))
    | _ => none
  else if n = nStrip then
    match as with
    | [] => some (.str (stripV isSpaceC s), h)
    | [.str t] => some (.str (stripV (fun c => t.contains c) s), h)
    | _ => none
  else if n = nStartswith then
    match as with
    | [.str t] => some (.bool (t.isPrefixOf s), h)
    | _ => none
  else if n = nFind then
    match as with
    | [.str t, .int k] => if 0 ≤ k ∧ k ≤ s.length then some (.int (match findAt t k.toNat (s.drop k.toNat) with | some j => j | none => -1), h) else none
    | _ => none
  else none
def listMeth (a : Nat) (vs : List Val) (n : Nat) (as : List Val) (h : MH) : Option (Val × MH) :=
  if n = nAppend then
    match as with
    | [v] => if vs.length < lim then some (.none, h.set a (.list (vs ++ [v]))) else none
    | _ => none
  else if n = nPop then
    match as with
    | [] => match vs.getLast? with
      | some v => some (v, h.set a (.list vs.dropLast))
      | none => none
    | _ => none
  else if n = nIndex then
    match as with
    | [v] => (vs.findIdx? fun y => kEq y v).map fun k => (.int k, h)
    | _ => none
  else none
def dictMeth (es : List (Val × Val)) (n : Nat) (as : List Val) (h : MH) : Option (Val × MH) :=
  if n = nGet then
    match as with
    | [k] => if keyFits es k then some ((dget es k).getD .none, h) else none
    | [k, d] => if keyFits es k then some ((dget es k).getD d, h) else none
    | _ => none
  else none
def bmeth (o : Val) (n : Nat) (as : List Val) (h : MH) : Option (Val × MH) :=
  match o with
  | .str s => strMeth s n as h
  | .ref a => match h[a]? with
    | some (.list vs) => listMeth a vs n as h
    | some (.dict _ es) => dictMeth es n as h
    | _ => none
  | _ => none

structure Cx where
  P : Prg
  fuel : Nat
  call : Nat → List Val → MH → Option (Val × MH)

def callV (c : Cx) (f : Val) (as : List Val) (h : MH) : Option (Val × MH) :=
  match f with
  | .top a => c.call a as h
  | .bi n => if n = nLen then biLen as h else none
  | _ => none

def callM (c : Cx) (o : Val) (n : Nat) (as : List Val) (h : MH) : Option (Val × MH) :=
  match getMeth c.P h o n with
  | some (f, self) => c.call f (self ++ as) h
  | none => none

/-- a comprehension's turns -/
def compLoop (next : Nat → MH → Option (Option Val)) (test : Val → MH → Option (Option (Frame) × MH)) (elt : Frame → MH → Option (Val × MH)) (acc : Nat) :
    Nat → Nat → MH → Option MH
  | 0, _, _ => none
  | n + 1, i, h => match next i h with
    | some none => some h
    | some (some v) => match test v h with
      | some (some fr, h1) => match elt fr h1 with
        | some (x, h2) => match h2[acc]? with
          | some (.list vs) => if vs.length < lim then compLoop next test elt acc n (i + 1) (h2.set acc (.list (vs ++ [x]))) else none
          | _ => none
        | none => none
      | some (none, h1) => compLoop next test elt acc n (i + 1) h1
      | none => none
    | none => none

mutual
def eval (c : Cx) (fr : Frame) : Ex → MH → Option (Val × MH)
  | .var x, h => match fr[x]? with
    | some (some v) => some (v, h)
    | _ => none
  | .lit v, h => some (v, h)
  | .list es, h => match evals c fr es h with
    | some (vs, h1) => alloc h1 (.list vs)
    | none => none
  | .tup es, h => match evals c fr es h with
    | some (vs, h1) => some (.tup vs, h1)
    | none => none
  | .dict kvs, h => match evals c fr kvs h with
    | some (l, h1) => match dpairs l [] with
      | some es => alloc h1 (.dict es.length es)
      | none => none
    | none => none
  | .bin op a b, h => match eval c fr a h with
    | some (x, h1) => match eval c fr b h1 with
      | some (y, h2) => binop op x y h2
      | none => none
    | none => none
  | .neg a, h => match eval c fr a h with
    | some (.int i, h1) => some (.int (-i), h1)
    | _ => none
  | .not a, h => match eval c fr a h with
    | some (v, h1) => match truthy h1 v with
      | some b => some (.bool (!b), h1)
      | none => none
    | none => none
  | .cmp op a b, h => match eval c fr a h with
    | some (x, h1) => match eval c fr b h1 with
      | some (y, h2) => match cmpop op x y h2 with
        | some r => some (.bool r, h2)
        | none => none
      | none => none
    | none => none
  | .cmp2 o1 o2 a b d, h => match eval c fr a h with
    | some (x, h1) => match eval c fr b h1 with
      | some (y, h2) => match cmpop o1 x y h2 with
        | some true => match eval c fr d h2 with
          | some (z, h3) => match cmpop o2 y z h3 with
            | some r => some (.bool r, h3)
            | none => none
          | none => none
        | some false => some (.bool false, h2)
        | none => none
      | none => none
    | none => none
  | .and es, h => evalAnd c fr es h
  | .or es, h => evalOr c fr es h
  | .ite t a b, h => match eval c fr t h with
    | some (v, h1) => match truthy h1 v with
      | some true => eval c fr a h1
      | some false => eval c fr b h1
      | none => none
    | none => none
  | .attr e n, h => match eval c fr e h with
    | some (o, h1) => match getAttr c.P h1 o n with
      | some v => some (v, h1)
      | none => none
    | none => none
  | .sub e i, h => match eval c fr e h with
    | some (o, h1) => match eval c fr i h1 with
      | some (k, h2) => match subscr h2 o k with
        | some v => some (v, h2)
        | none => none
      | none => none
    | none => none
  | .slice e lo hi, h => match eval c fr e h with
    | some (o, h1) => match evalO c fr lo h1 with
      | some (a, h2) => match evalO c fr hi h2 with
        | some (b, h3) => slice h3 o a b
        | none => none
      | none => none
    | none => none
  | .call f as, h => match eval c fr f h with
    | some (g, h1) => match evals c fr as h1 with
      | some (vs, h2) => callV c g vs h2
      | none => none
    | none => none
  | .meth o n as, h => match eval c fr o h with
    | some (v, h1) => match evals c fr as h1 with
      | some (vs, h2) => callM c v n vs h2
      | none => none
    | none => none
  | .comp elt tg many it ifs, h => match eval c fr it h with
    | some (v, h1) => match iterOf h1 v with
      | some k =>
        match compLoop (fun i h => iterNext h i k)
          (fun v h => match bindT fr h tg many v with
            | some fr' => match evalAll c fr' ifs h with
              | some (true, h') => some (some fr', h')
              | some (false, h') => some (none, h')
              | none => none
            | none => none)
          (fun fr' h => eval c fr' elt h) h1.length c.fuel 0 (h1 ++ [.list []]) with
        | some h2 => some (.ref h1.length, h2)
        | none => none
      | none => none
    | none => none
def evals (c : Cx) (fr : Frame) : List Ex → MH → Option (List Val × MH)
  | [], h => some ([], h)
  | e :: r, h => match eval c fr e h with
    | some (v, h1) => match evals c fr r h1 with
      | some (vs, h2) => some (v :: vs, h2)
      | none => none
    | none => none
def evalO (c : Cx) (fr : Frame) : Option Ex → MH → Option (Option Val × MH)
  | none, h => some (none, h)
  | some e, h => match eval c fr e h with
    | some (v, h1) => some (some v, h1)
    | none => none
def evalAnd (c : Cx) (fr : Frame) : List Ex → MH → Option (Val × MH)
  | [], _ => none
  | e :: r, h => match eval c fr e h with
    | some (v, h1) => match r with
      | [] => some (v, h1)
      | _ :: _ => match truthy h1 v with
        | some true => evalAnd c fr r h1
        | some false => some (v, h1)
        | none => none
    | none => none
def evalOr (c : Cx) (fr : Frame) : List Ex → MH → Option (Val × MH)
  | [], _ => none
  | e :: r, h => match eval c fr e h with
    | some (v, h1) => match r with
      | [] => some (v, h1)
      | _ :: _ => match truthy h1 v with
        | some false => evalOr c fr r h1
        | some true => some (v, h1)
        | none => none
    | none => none
def evalAll (c : Cx) (fr : Frame) : List Ex → MH → Option (Bool × MH)
  | [], h => some (true, h)
  | e :: r, h => match eval c fr e h with
    | some (v, h1) => match truthy h1 v with
      | some true => evalAll c fr r h1
      | some false => some (false, h1)
      | none => none
    | none => none
end

def store (c : Cx) (fr : Frame) (h : MH) (v : Val) : T1 → Option (Frame × MH)
  | .nm x => some (fr.set x (some v), h)
  | .at o n => match eval c fr o h with
    | some (ov, h1) => (setAttr h1 ov n v).map fun h2 => (fr, h2)
    | none => none
  | .sb o i => match eval c fr o h with
    | some (ov, h1) => match eval c fr i h1 with
      | some (iv, h2) => (setSub h2 ov iv v).map fun h3 => (fr, h3)
      | none => none
    | none => none
def stores (c : Cx) : List T1 → List Val → Frame → MH → Option (Frame × MH)
  | [], [], fr, h => some (fr, h)
  | t :: ts, v :: vs, fr, h => match store c fr h v t with
    | some (fr', h') => stores c ts vs fr' h'
    | none => none
  | _, _, _, _ => none

def loopW (cond : Frame → MH → Option (Bool × MH)) (body : Frame → MH → Option (Fl × Frame × MH)) : Nat → Frame → MH → Option (Fl × Frame × MH)
  | 0, _, _ => none
  | n + 1, fr, h => match cond fr h with
    | some (true, h1) => match body fr h1 with
      | some (.bk, fr2, h2) => some (.nx, fr2, h2)
      | some (.rt v, fr2, h2) => some (.rt v, fr2, h2)
      | some (_, fr2, h2) => loopW cond body n fr2 h2
      | none => none
    | some (false, h1) => some (.nx, fr, h1)
    | none => none
def loopF (next : Nat → MH → Option (Option Val)) (bind : Frame → MH → Val → Option Frame) (body : Frame → MH → Option (Fl × Frame × MH)) : Nat → Nat → Frame → MH → Option (Fl × Frame × MH)
  | 0, _, _, _ => none
  | n + 1, i, fr, h => match next i h with
    | some none => some (.nx, fr, h)
    | some (some v) => match bind fr h v with
      | some fr1 => match body fr1 h with
        | some (.bk, fr2, h2) => some (.nx, fr2, h2)
        | some (.rt v, fr2, h2) => some (.rt v, fr2, h2)
        | some (_, fr2, h2) => loopF next bind body n (i + 1) fr2 h2
        | none => none
      | none => none
    | none => none

mutual
def exec (c : Cx) : Sm → Frame → MH → Option (Fl × Frame × MH)
  | .expr e, fr, h => match eval c fr e h with
    | some (_, h1) => some (.nx, fr, h1)
    | none => none
  | .asg t e, fr, h => match eval c fr e h with
    | some (v, h1) => (store c fr h1 v t).map fun p => (.nx, p.1, p.2)
    | none => none
  | .asgs ts e, fr, h => match eval c fr e h with
    | some (v, h1) => match items h1 v with
      | some vs => (stores c ts vs fr h1).map fun p => (.nx, p.1, p.2)
      | none => none
    | none => none
  | .ret none, fr, h => some (.rt .none, fr, h)
  | .ret (some e), fr, h => match eval c fr e h with
    | some (v, h1) => some (.rt v, fr, h1)
    | none => none
  | .ite t a b, fr, h => match eval c fr t h with
    | some (v, h1) => match truthy h1 v with
      | some true => execs c a fr h1
      | some false => execs c b fr h1
      | none => none
    | none => none
  | .wh t b, fr, h => loopW (fun fr h => match eval c fr t h with
      | some (v, h1) => match truthy h1 v with
        | some x => some (x, h1)
        | none => none
      | none => none) (fun fr h => execs c b fr h) c.fuel fr h
  | .fo tg many e b, fr, h => match eval c fr e h with
    | some (v, h1) => match iterOf h1 v with
      | some k => loopF (fun i h => iterNext h i k) (fun fr h v => bindT fr h tg many v) (fun fr h => execs c b fr h) c.fuel 0 fr h1
      | none => none
    | none => none
  | .brk, fr, h => some (.bk, fr, h)
  | .cont, fr, h => some (.ct, fr, h)
  | .pass, fr, h => some (.nx, fr, h)
  | .raise, _, _ => none
def execs (c : Cx) : List Sm → Frame → MH → Option (Fl × Frame × MH)
  | [], fr, h => some (.nx, fr, h)
  | s :: r, fr, h => match exec c s fr h with
    | some (.nx, fr1, h1) => execs c r fr1 h1
    | some x => some x
    | none => none
end

def Prg.fnAt (P : Prg) (a : Nat) : Option Fn := P.fns.find? fun f => f.addr == a
def argsOf (f : Fn) (as : List Val) : Option (List Val) :=
  if as.length ≤ f.np ∧ f.np - as.length ≤ f.dfl.length then some (as ++ f.dfl.drop (f.dfl.length - (f.np - as.length))) else none
def callN (P : Prg) (fuel : Nat) : Nat → Nat → List Val → MH → Option (Val × MH)
  | 0, _, _, _ => none
  | d + 1, a, as, h => match P.fnAt a with
    | some f => match argsOf f as with
      | some vs => match execs ⟨P, fuel, callN P fuel d⟩ f.body (vs.map some ++ List.replicate (f.ns - f.np) none) h with
        | some (.rt v, _, h') => some (v, h')
        | some (.nx, _, h') => some (.none, h')
        | _ => none
      | none => none
    | none => none

end Mi
namespace Mi
open PySem

/-! from the program's form to the mini form -/
structure CC where
  sc : List (Str × NameKind)
  vars : List (Str × Nat)
  next : Nat
  gl : List (Str × Val)

def nameOk (x : Str) : Bool := x.cps.toList.all (fun c => 1 ≤ c && c ≤ 255) && x != ("__debug__" : Str) && x != ("__class__" : Str) && x != ("super" : Str) && !x.cps.toList.isEmpty

def constV : Const → Option Val
  | .none => some .none
  | .bool b => some (.bool b)
  | .int i => some (.int i)
  | .str s => if (∀ c ∈ s.cps.toList, c < 0x110000) ∧ s.cps.toList.length ≤ lim then some (.str s.cps.toList) else none
  | _ => none

def varAt (cx : CC) (x : Str) : Option Nat :=
  match cx.sc.lookup x with
  | some .local | some .cell => cx.vars.lookup x
  | _ => none

def bopOf : Operator → Option BOp
  | .Add => some .add
  | .Sub => some .sub
  | .Mult => some .mul
  | .FloorDiv => some .fdiv
  | .Mod => some .mod
  | .Pow => some .pow
  | _ => none
def copOf : CmpOp → COp
  | .Eq => .eq
  | .NotEq => .ne
  | .Lt => .lt
  | .LtE => .le
  | .Gt => .gt
  | .GtE => .ge
  | .In => .isin
  | .NotIn => .notin
  | .Is => .is
  | .IsNot => .isnot
/-- the base of an attribute is no call without arguments -/
def baseOk : Expr → Bool
  | .Call _ [] _ _ => false
  | _ => true

def nameOfE : Expr → Option Str
  | .Name x _ => some x
  | _ => none
def namesOfE : List Expr → Option (List Str)
  | [] => some []
  | e :: r => match nameOfE e, namesOfE r with
    | some x, some xs => some (x :: xs)
    | _, _ => none
/-- a target of names: the names, and whether it unpacks -/
def tgtOf : Expr → Option (List Str × Bool)
  | .Name x _ => some ([x], false)
  | .Tuple es _ _ => (namesOfE es).map fun xs => (xs, true)
  | _ => none
def genTgt : List Comprehension → Option (List Str × Bool)
  | [⟨t, _, _, a⟩] => if a = 0 then tgtOf t else none
  | _ => none

/-- the scope inside a comprehension -/
def compSc (outer : List (Str × NameKind)) (sc : Scope) : List (Str × NameKind) :=
  sc.names.map fun p => if p.2 == .free && outer.lookup p.1 == some .cell then (p.1, .cell) else p
def inComp (cx : CC) (sc : Scope) (xs : List Str) : CC :=
  { sc := compSc cx.sc sc, vars := xs.zip (List.range' cx.next xs.length) ++ cx.vars, next := cx.next + xs.length, gl := cx.gl }
/-- the comprehension's own names are its targets, each once, its captured ones are the outer's variables -/
def compScOk (cx : CC) (sc : Scope) (xs : List Str) : Bool :=
  sc.kind == .function && !sc.isGenerator && !sc.isCoroutine &&
  (sc.names.all fun p => p.1 == (".0" : Str) || (p.2 == .local && xs.contains p.1) || (p.2 == .free && cx.sc.lookup p.1 == some .cell && !xs.contains p.1 && (cx.vars.lookup p.1).isSome) || (p.2 == .globalImplicit && !xs.contains p.1)) &&
  xs.all (fun x => sc.names.lookup x == some .local) && xs.eraseDups.length == xs.length && !xs.contains (".0" : Str) && (sc.names.map (·.1)).eraseDups.length == sc.names.length

mutual
def compE (cx : CC) : Expr → Option Ex
  | .Constant c _ _ => (constV c).map .lit
  | .Name x _ => if nameOk x then match varAt cx x with
      | some i => some (.var i)
      | none => if cx.sc.lookup x == some .globalImplicit then (cx.gl.lookup x).map .lit else none
    else none
  | .BoolOp op vs _ => match op with
    | .And => (compEs cx vs).map .and
    | .Or => (compEs cx vs).map .or
  | .BinOp l op r _ => match bopOf op, compE cx l, compE cx r with
    | some o, some a, some b => some (.bin o a b)
    | _, _, _ => none
  | .UnaryOp op x _ => match op, compE cx x with
    | .Not, some a => some (.not a)
    | _, _ => none
  | .IfExp t a b _ => match compE cx t, compE cx a, compE cx b with
    | some t', some a', some b' => some (.ite t' a' b')
    | _, _, _ => none
  | .List es _ => if es.length ≤ 1000 then (compEs cx es).map .list else none
  | .Tuple es _ _ => if es.length ≤ 1000 then (compEs cx es).map .tup else none
  | .Compare l ops cs _ => match compE cx l, ops, compEs cx cs with
    | some a, [o], some [b] => some (.cmp (copOf o) a b)
    | _, _, _ => none
  | .Call f as ks pos => match ks with
    | [] => match compEs cx as with
      | some bs => if as.length ≤ 20 then compCall cx bs pos f else none
      | none => none
    | _ => none
  | .Attribute v n _ => if nameOk n && baseOk v then (compE cx v).map fun e => .attr e (enc n) else none
  | .Subscript v s _ => match compE cx v, compE cx s with
    | some e, some i => some (.sub e i)
    | _, _ => none
  | _ => none
def compCall (cx : CC) (as : List Ex) (pos : Pos) : Expr → Option Ex
  | .Attribute v n apos => if nameOk n && baseOk v && apos.endLine == pos.line then (compE cx v).map fun e => .meth e (enc n) as else none
  | .Name x _ => if nameOk x then match varAt cx x with
      | some i => some (.call (.var i) as)
      | none => if cx.sc.lookup x == some .globalImplicit then (cx.gl.lookup x).map fun v => .call (.lit v) as else none
    else none
  | _ => none
def compEs (cx : CC) : List Expr → Option (List Ex)
  | [] => some []
  | e :: r => match compE cx e, compEs cx r with
    | some a, some b => some (a :: b)
    | _, _ => none
end
def compO (cx : CC) : Option Expr → Option (Option Ex)
  | none => some none
  | some e => (compE cx e).map some

def compT1 (cx : CC) : Expr → Option T1
  | .Name x _ => if nameOk x then (varAt cx x).map .nm else none
  | _ => none
def compT1s (cx : CC) : List Expr → Option (List T1)
  | [] => some []
  | e :: r => match compT1 cx e, compT1s cx r with
    | some a, some b => some (a :: b)
    | _, _ => none
/-- a value that is no tuple of constants alone, no comprehension -/
def valOk : Expr → Bool
  | .Tuple vs _ _ => !vs.all (constantsAlone 8)
  | .ListComp .. => false
  | _ => true
def distinct : List Expr → Bool
  | es => match namesOfE es with
    | some xs => decide xs.Nodup
    | none => false
def slotsOf (cx : CC) : List Str → Option (List Nat)
  | [] => some []
  | x :: r => match (if nameOk x then varAt cx x else none), slotsOf cx r with
    | some a, some b => some (a :: b)
    | _, _ => none

mutual
def compS (cx : CC) : Stmt → Option Sm
  | .Pass _ => some .pass
  | .Break _ => some .brk
  | .Continue _ => some .cont
  | .Return v _ => (compO cx v).map .ret
  | .Assign ts v _ => match ts with
    | [.Tuple es _ _] => if valOk v && distinct es then match compT1s cx es, compE cx v with
        | some a, some b => some (.asgs a b)
        | _, _ => none
      else none
    | [t] => match compT1 cx t, compE cx v with
      | some a, some b => some (.asg a b)
      | _, _ => none
    | _ => none
  | .If t a b _ => match compE cx t, compSs cx a, compSs cx b with
    | some x, some y, some z => some (.ite x y z)
    | _, _, _ => none
  | .While t b e _ => match compE cx t, compSs cx b, e with
    | some x, some y, [] => some (.wh x y)
    | _, _, _ => none
  | .For t it b e _ => match tgtOf t, compE cx it, compSs cx b, e with
    | some (xs, false), some x, some y, [] => (slotsOf cx xs).map fun sl => .fo sl false x y
    | _, _, _, _ => none
  | .Raise .. => some .raise
  | _ => none
def compSs (cx : CC) : List Stmt → Option (List Sm)
  | [] => some []
  | s :: r => match compS cx s, compSs cx r with
    | some a, some b => some (a :: b)
    | _, _ => none
end

def fnVars (ps : List Str) (sc : Scope) : List Str :=
  ps ++ (sc.names.filter fun p => (p.2 == .local || p.2 == .cell) && !ps.contains p.1).map (·.1)
def fnCx (ps : List Str) (sc : Scope) (gl : List (Str × Val)) : CC :=
  { sc := sc.names, vars := (fnVars ps sc).zip (List.range (fnVars ps sc).length), next := (fnVars ps sc).length, gl := gl }
def compFn (gl : List (Str × Val)) (params : Arguments) (body : List Stmt) (sc : Scope) : Option (Nat × Nat × List Sm) :=
  let ps := params.args.map (·.arg)
  if params.posonlyargs.isEmpty && params.vararg.isNone && params.kwonlyargs.isEmpty && params.kwarg.isNone && sc.kind == .function && !sc.isGenerator && !sc.isCoroutine && (sc.names.map (·.1)).eraseDups.length == sc.names.length && ps.all (fun x => sc.names.lookup x == some .local || sc.names.lookup x == some .cell) then
    (compSs (fnCx ps sc gl) body).map fun b => (ps.length, (fnVars ps sc).length + 6, b)
  else none
end Mi
namespace Mi
open PySem PySem.W PySem.Calls PyProof.Rows

abbrev Led := List (Addr × Obj)

structure Cfg where
  prog : Program
  w : World
  K : Frag
  P : Prg
  ad : List (Nat × Addr)
  names : List Str

abbrev Cfg.M (C : Cfg) : Model := model C.prog C.w

def tyTab : List (Nat × String) := [(nRange, "range"), (nList, "list"), (nDict, "dict"), (nTuple, "tuple"), (nStr, "str"), (nInt, "int"), (nType, "type"), (nSet, "set"), (nBool, "bool"), (nNoneType, "NoneType")]
def biTab : List (Nat × String) := [(nLen, "len"), (nMax, "max"), (nMin, "min"), (nSorted, "sorted")]

def sOk (s : List Nat) : Prop := (∀ c ∈ s, c < 0x110000) ∧ s.length ≤ lim

mutual
inductive VRel (C : Cfg) (tp : Led) (σ : List Addr) : Val → Value → Prop
  | none : VRel C tp σ .none .none
  | bool (b : Bool) : VRel C tp σ (.bool b) (.bool b)
  | int (i : Int) (t : Tok) : VRel C tp σ (.int i) (.int i t)
  | str (s : List Nat) (t : Tok) : sOk s → VRel C tp σ (.str s) (.str ⟨s.toArray⟩ t)
  | tup {a : Addr} {o : Obj} {n : Nat} {mvs : List Val} {vs : List Value} : ((a, o) ∈ tp ∨ C.K.lookup a = some o) → o.cls = .type "tuple" → o.data = .seq vs.toArray n → VRels C tp σ mvs vs → mvs.length ≤ lim → VRel C tp σ (.tup mvs) (.ref a)
  | ref {i : Nat} {a : Addr} : σ[i]? = some a → VRel C tp σ (.ref i) (.ref a)
  | top {id : Nat} {a : Addr} : C.ad.lookup id = some a → VRel C tp σ (.top id) (.ref a)
  | ty {c : Nat} {n : String} : tyTab.lookup c = some n → VRel C tp σ (.ty c) (.type n)
  | bi {c : Nat} {n : String} : biTab.lookup c = some n → VRel C tp σ (.bi c) (.builtin n)
  | rng {a : Addr} {n : Int} {t u v : Tok} : (a, ({ cls := .type "range", dict := Option.none, data := .fields #[.int 0 t, .int n u, .int 1 v], slots := #[] } : Obj)) ∈ tp → VRel C tp σ (.rng n) (.ref a)
  | fl {a : Addr} {o : Obj} {n : Nat} {mvs : List Val} {vs : List Value} : C.K.lookup a = some o → o.cls = .type "list" → o.data = .seq vs.toArray n → VRels C tp σ mvs vs → mvs.length ≤ lim → VRel C tp σ (.fl mvs) (.ref a)
inductive VRels (C : Cfg) (tp : Led) (σ : List Addr) : List Val → List Value → Prop
  | nil : VRels C tp σ [] []
  | cons {m : Val} {v : Value} {ms : List Val} {vs : List Value} : VRel C tp σ m v → VRels C tp σ ms vs → VRels C tp σ (m :: ms) (v :: vs)
end

theorem VRels.length {C : Cfg} {tp : Led} {σ : List Addr} : ∀ {ms : List Val} {vs : List Value}, VRels C tp σ ms vs → ms.length = vs.length
  | _, _, .nil => rfl
  | _, _, .cons _ r => by simp [r.length]

mutual
theorem VRel.mono {C : Cfg} {tp tp' : Led} {σ σ' : List Addr} (ht : ∀ p ∈ tp, p ∈ tp') (hs : σ <+: σ') : ∀ {m : Val} {v : Value}, VRel C tp σ m v → VRel C tp' σ' m v
  | _, _, .none => .none
  | _, _, .bool b => .bool b
  | _, _, .int i t => .int i t
  | _, _, .str s t h => .str s t h
  | _, _, .tup h c d r l => .tup (h.imp (ht _) id) c d (VRels.mono ht hs r) l
  | _, _, .ref h => .ref (by
      obtain ⟨t, rfl⟩ := hs
      obtain ⟨hl, _⟩ := List.getElem?_eq_some_iff.mp h
      rw [List.getElem?_append_left hl]; exact h)
  | _, _, .top h => .top h
  | _, _, .ty h => .ty h
  | _, _, .bi h => .bi h
  | _, _, .rng h => .rng (ht _ h)
  | _, _, .fl h c d r l => .fl h c d (VRels.mono ht hs r) l
theorem VRels.mono {C : Cfg} {tp tp' : Led} {σ σ' : List Addr} (ht : ∀ p ∈ tp, p ∈ tp') (hs : σ <+: σ') : ∀ {ms : List Val} {vs : List Value}, VRels C tp σ ms vs → VRels C tp' σ' ms vs
  | _, _, .nil => .nil
  | _, _, .cons h r => .cons (VRel.mono ht hs h) (VRels.mono ht hs r)
end

theorem VRels.get {C : Cfg} {tp : Led} {σ : List Addr} : ∀ {ms : List Val} {vs : List Value} {i : Nat} {m : Val}, VRels C tp σ ms vs → ms[i]? = some m → ∃ v, vs[i]? = some v ∧ VRel C tp σ m v
  | _, _, 0, _, .cons h _, e => ⟨_, rfl, by simpa using (Option.some.inj e) ▸ h⟩
  | _, _, i + 1, _, .cons _ r, e => r.get (i := i) (by simpa using e)
theorem VRels.append {C : Cfg} {tp : Led} {σ : List Addr} : ∀ {ms ms' : List Val} {vs vs' : List Value}, VRels C tp σ ms vs → VRels C tp σ ms' vs' → VRels C tp σ (ms ++ ms') (vs ++ vs')
  | _, _, _, _, .nil, r => r
  | _, _, _, _, .cons h r, r' => .cons h (r.append r')

/-- the fields of an instance -/
inductive FRel (C : Cfg) (tp : Led) (σ : List Addr) : List (Nat × Val) → List DictEntry → Prop
  | nil : FRel C tp σ [] []
  | cons {n : Nat} {x : Str} {t : Tok} {hsh : Int} {m : Val} {v : Value} {fs : List (Nat × Val)} {es : List DictEntry} :
      nameOk x = true → enc x = n → VRel C tp σ m v → FRel C tp σ fs es → FRel C tp σ ((n, m) :: fs) (⟨hsh, .str x t, v⟩ :: es)
theorem FRel.mono {C : Cfg} {tp tp' : Led} {σ σ' : List Addr} (ht : ∀ p ∈ tp, p ∈ tp') (hs : σ <+: σ') : ∀ {fs : List (Nat × Val)} {es : List DictEntry}, FRel C tp σ fs es → FRel C tp' σ' fs es
  | _, _, .nil => .nil
  | _, _, .cons a b c r => .cons a b (c.mono ht hs) (r.mono ht hs)

/-- a key that is an int or a str -/
inductive Atom where
  | i (n : Int)
  | s (x : Str)
  deriving DecidableEq
def Atom.val : Atom → Val
  | .i n => .int n
  | .s x => .str x.cps.toList
def Atom.is : Atom → Value → Bool
  | .i n, v => Value.isInt n v
  | .s x, v => Value.isStrOf x v
def Atom.hash (w : World) : Atom → Int
  | .i n => hashInt n
  | .s x => hashStr w x
theorem Atom.inj (v : Value) (a b : Atom) (ha : a.is v = true) (hb : b.is v = true) : a = b := by
  cases a <;> cases b <;> simp only [Atom.is] at ha hb
  · rw [Value.isInt_inj v _ _ ha hb]
  · obtain ⟨t, rfl⟩ := Value.isInt_shape ha; simp [Value.isStrOf] at hb
  · obtain ⟨t, rfl⟩ := Value.isInt_shape hb; simp [Value.isStrOf] at ha
  · rw [Value.isStrOf_inj v _ _ ha hb]
theorem Atom.byValue (k : Atom) (v : Value) (h : k.is v = true) : carriedByValue v = true := by
  cases k <;> simp only [Atom.is] at h
  · obtain ⟨t, rfl⟩ := Value.isInt_shape h; rfl
  · obtain ⟨t, rfl⟩ := Value.isStrOf_shape h; rfl
theorem Atom.pyHash {prog : Program} {w : World} {A : Around} {E : Value → Shared → Prop} {s : Shared} {k : Atom} {v : Value} {Q : Int → Shared → Prop} (hv : k.is v = true) (h : Q (k.hash w) { s with toks := s.toks + 1 }) : wpAny (model prog w) A (PySem.pyHash v) Q E s := by
  cases k <;> simp only [Atom.is] at hv
  · obtain ⟨t, rfl⟩ := Value.isInt_shape hv; exact wpAny_pyHash_int h
  · obtain ⟨t, rfl⟩ := Value.isStrOf_shape hv; exact wpAny_pyHash_str h
theorem Atom.eqBool {prog : Program} {w : World} {A : Around} {E : Value → Shared → Prop} {s : Shared} {a b : Atom} {u v : Value} {Q : Bool → Shared → Prop} (hu : a.is u = true) (hv : b.is v = true) (h : Q (decide (a = b)) s) : wpAny (model prog w) A (PySem.eqBool u v) Q E s := by
  cases a <;> cases b <;> simp only [Atom.is] at hu hv
  · obtain ⟨t, rfl⟩ := Value.isInt_shape hu
    obtain ⟨u, rfl⟩ := Value.isInt_shape hv
    refine wpAny_eqBool_int ?_
    simp only [Atom.i.injEq] at h
    first | exact h | (rw [Bool.beq_eq_decide_eq] at *; exact h) | (simp only [beq_eq_decide]; exact h)
  · obtain ⟨t, rfl⟩ := Value.isInt_shape hu
    obtain ⟨u, rfl⟩ := Value.isStrOf_shape hv
    exact SeqAt.EqAt.int_str _ _ _ _ _ _ _ _ (by simpa using h)
  · obtain ⟨t, rfl⟩ := Value.isStrOf_shape hu
    obtain ⟨u, rfl⟩ := Value.isInt_shape hv
    exact SeqAt.EqAt.str_int _ _ _ _ _ _ _ _ (by simpa using h)
  · obtain ⟨t, rfl⟩ := Value.isStrOf_shape hu
    obtain ⟨u, rfl⟩ := Value.isStrOf_shape hv
    exact wpAny_eqBool_str (by simpa using h)
theorem Atom.strKeys (k : Atom) (x : Str) (t : Tok) (v : Value) (h : k.is (.str x t) = true) : k.is v = v.isStr x := by
  cases k <;> simp only [Atom.is] at h ⊢
  · simp [Value.isInt] at h
  · simp only [Value.isStrOf, beq_iff_eq] at h
    subst h
    cases v <;> rfl
def atomKind (prog : Program) (w : World) : KeyKind prog w Atom :=
  ⟨Atom.is, Atom.hash w, Atom.inj, Atom.byValue, Atom.pyHash, Atom.eqBool, Atom.strKeys⟩
def Atom.ok : Atom → Prop
  | .i _ => True
  | .s x => sOk x.cps.toList

/-- an object of the mini heap and what stands for it in the ledger -/
inductive ORel (C : Cfg) (tp : Led) (σ : List Addr) (a : Addr) : MObj → Led → Prop
  | list {mvs : List Val} {vs : List Value} {n : Nat} : VRels C tp σ mvs vs → mvs.length ≤ lim → ORel C tp σ a (.list mvs) [(a, listOf vs.toArray n)]
  | dictA {ep : Nat} {mes : List (Val × Val)} {kvs : List (Atom × Value)} {es : List DictEntry} : Pairs (atomKind C.prog C.w) es kvs → KeysOf (atomKind C.prog C.w) es.toArray → (kvs.map (·.1)).Nodup →
      mes.map (·.1) = kvs.map (fun p => p.1.val) → (∀ p ∈ kvs, p.1.ok) → VRels C tp σ (mes.map (·.2)) (kvs.map (·.2)) → mes.length ≤ lim → ORel C tp σ a (.dict ep mes) [(a, dictOf es ep)]
  | dictT {ep : Nat} {mes : List (Val × Val)} {xs : List (List Atom × Addr × Value)} : (xs.map (·.1)).Nodup → (∀ x ∈ xs, VRel C tp σ (.tup (x.1.map Atom.val)) (.ref x.2.1)) →
      mes.map (·.1) = xs.map (fun x => Val.tup (x.1.map Atom.val)) → VRels C tp σ (mes.map (·.2)) (xs.map (·.2.2)) → mes.length ≤ lim → ORel C tp σ a (.dict ep mes) [(a, dictOf (xs.map (entryOfKey (tupleKind (atomKind C.prog C.w)))) ep)]
  | inst {id c dx : Nat} {fs : List (Nat × Val)} {es : List DictEntry} {n : Nat} : C.ad.lookup id = some c → FRel C tp σ fs es → fs.length ≤ 500 → ORel C tp σ a (.inst id fs) [(a, instObj c dx), (dx, dictOf es n)]
theorem ORel.mono {C : Cfg} {tp tp' : Led} {σ σ' : List Addr} (ht : ∀ p ∈ tp, p ∈ tp') (hs : σ <+: σ') {a : Addr} {o : MObj} {en : Led} : ORel C tp σ a o en → ORel C tp' σ' a o en
  | .list h l => .list (h.mono ht hs) l
  | .dictA a b c d e f g => .dictA a b c d e (f.mono ht hs) g
  | .dictT a b c d e => .dictT a (fun x hx => (b x hx).mono ht hs) c (d.mono ht hs) e
  | .inst a b c => .inst a (b.mono ht hs) c

inductive Ents (C : Cfg) (tp : Led) (σ : List Addr) : List Addr → MH → List Led → Prop
  | nil : Ents C tp σ [] [] []
  | cons {a : Addr} {o : MObj} {en : Led} {as : List Addr} {H : MH} {os : List Led} : ORel C tp σ a o en → Ents C tp σ as H os → Ents C tp σ (a :: as) (o :: H) (en :: os)
theorem Ents.mono {C : Cfg} {tp tp' : Led} {σ σ' : List Addr} (ht : ∀ p ∈ tp, p ∈ tp') (hs : σ <+: σ') : ∀ {as : List Addr} {H : MH} {os : List Led}, Ents C tp σ as H os → Ents C tp' σ' as H os
  | _, _, _, .nil => .nil
  | _, _, _, .cons h r => .cons (h.mono ht hs) (r.mono ht hs)
theorem Ents.snoc {C : Cfg} {tp : Led} {σ : List Addr} : ∀ {as : List Addr} {H : MH} {os : List Led} {a : Addr} {o : MObj} {en : Led}, Ents C tp σ as H os → ORel C tp σ a o en → Ents C tp σ (as ++ [a]) (H ++ [o]) (os ++ [en])
  | _, _, _, _, _, _, .nil, h => .cons h .nil
  | _, _, _, _, _, _, .cons h r, h' => .cons h (r.snoc h')
theorem Ents.length {C : Cfg} {tp : Led} {σ : List Addr} : ∀ {as : List Addr} {H : MH} {os : List Led}, Ents C tp σ as H os → as.length = H.length
  | _, _, _, .nil => rfl
  | _, _, _, .cons _ r => by simp [r.length]
/-- the entry of one object, the rest, and another in its place -/
theorem Ents.at {C : Cfg} {tp : Led} {σ : List Addr} : ∀ {as : List Addr} {H : MH} {os : List Led} {i : Nat} {a : Addr} {o : MObj}, Ents C tp σ as H os → as[i]? = some a → H[i]? = some o →
    ∃ pre en post, os = pre ++ en :: post ∧ ORel C tp σ a o en ∧ ∀ o' en', ORel C tp σ a o' en' → Ents C tp σ as (H.set i o') (pre ++ en' :: post)
  | _, _, _, 0, a, o, .cons (os := os) h r, e1, e2 => by
    simp only [List.getElem?_cons_zero, Option.some.injEq] at e1 e2
    subst e1 e2
    exact ⟨[], _, os, rfl, h, fun o' en' h' => .cons h' r⟩
  | _, _, _, i + 1, a, o, .cons (en := en) h r, e1, e2 => by
    simp only [List.getElem?_cons_succ] at e1 e2
    obtain ⟨pre, en1, post, rfl, ho, k⟩ := r.at e1 e2
    exact ⟨en :: pre, en1, post, rfl, ho, fun o' en' h' => .cons h (k o' en' h')⟩

/-- the state of an activation -/
structure Sta (C : Cfg) (h₀ : Heap) (L : Addr) (σ : List Addr) (tp ce ex : Led) (H : MH) (m : Str → Option Value) (h : Heap) : Prop where
  fr : Fr h₀ L h m
  os : ∃ os : List Led, Ents C tp σ σ H os ∧ News h₀ L h (os.flatten ++ (tp ++ (ce ++ ex))) ∧ ((os.flatten ++ (tp ++ (ce ++ ex))).map (·.1)).Nodup
  big : 4 ≤ h₀.objs.size
  lo : ∀ a ∈ σ, 4 ≤ a

theorem upd_of_nodup {d : Addr} {o o' : Obj} : ∀ {pre post : Led}, ((pre ++ (d, o) :: post).map (·.1)).Nodup → Upd d o o' (pre ++ (d, o) :: post) (pre ++ (d, o') :: post)
  | [], post, h => .head fun p hp e => by
      simp only [List.nil_append, List.map_cons, List.nodup_cons] at h
      exact h.1 (e ▸ List.mem_map_of_mem hp)
  | q :: pre, post, h => by
      simp only [List.cons_append, List.map_cons, List.nodup_cons] at h
      exact .tail (fun e => h.1 (by rw [e]; exact List.mem_map.mpr ⟨(d, o), by simp, rfl⟩)) (upd_of_nodup h.2)

section
variable {C : Cfg} {h₀ : Heap} {L : Addr} {σ : List Addr} {tp ce ex : Led} {H : MH} {m : Str → Option Value} {h : Heap}

/-- one object's place in the ledger -/
theorem Sta.at (S : Sta C h₀ L σ tp ce ex H m h) {i : Nat} {a : Addr} {o : MObj} (ha : σ[i]? = some a) (ho : H[i]? = some o) :
    ∃ pre en post, ORel C tp σ a o en ∧ News h₀ L h (pre ++ (en ++ post)) ∧ ((pre ++ (en ++ post)).map (·.1)).Nodup ∧
      ∀ o' en' h', en'.map (·.1) = en.map (·.1) → ORel C tp σ a o' en' → Fr h₀ L h' m → News h₀ L h' (pre ++ (en' ++ post)) → Sta C h₀ L σ tp ce ex (H.set i o') m h' := by
  obtain ⟨os, he, hn, hd⟩ := S.os
  obtain ⟨pre, en, post, rfl, hr, k⟩ := he.at ha ho
  have e : ∀ en1 : Led, (pre ++ en1 :: post).flatten ++ (tp ++ (ce ++ ex)) = pre.flatten ++ (en1 ++ (post.flatten ++ (tp ++ (ce ++ ex)))) := by
    intro en1; simp
  rw [e] at hn hd
  refine ⟨pre.flatten, en, post.flatten ++ (tp ++ (ce ++ ex)), hr, hn, hd, fun o' en' h' hm hr' F N => ⟨F, ⟨pre ++ en' :: post, k o' en' hr', by rw [e]; exact N, ?_⟩, S.big, S.lo⟩⟩
  rw [e]
  simp only [List.map_append] at hd ⊢
  rw [hm]; exact hd

/-- the whole ledger, and how it grows -/
theorem Sta.ledger (S : Sta C h₀ L σ tp ce ex H m h) : ∃ all : Led, News h₀ L h all ∧
    (∀ (a : Addr) (o : MObj) (en : Led) (h' : Heap), ORel C tp (σ ++ [a]) a o en → Fr h₀ L h' m → News h₀ L h' (en ++ all) → (∀ p ∈ en, h.objs.size ≤ p.1) → h.objs.size ≤ a → (en.map (·.1)).Nodup → Sta C h₀ L (σ ++ [a]) tp ce ex (H ++ [o]) m h') ∧
    (∀ (a : Addr) (o : Obj) (h' : Heap), Fr h₀ L h' m → News h₀ L h' ((a, o) :: all) → h.objs.size ≤ a → Sta C h₀ L σ ((a, o) :: tp) ce ex H m h') ∧
    (∀ h' : Heap, Fr h₀ L h' m → News h₀ L h' all → Sta C h₀ L σ tp ce ex H m h') := by
  obtain ⟨os, he, hn, hd⟩ := id S.os
  refine ⟨_, hn, fun a o en h' hr F N hf hfa hnd => ?_, fun a o h' F N hf => ?_, fun h' F N => ⟨F, ⟨os, he, N, hd⟩, S.big, S.lo⟩⟩
  · have hlt : ∀ q ∈ os.flatten ++ (tp ++ (ce ++ ex)), q.1 < h.objs.size := fun q hq => Heap.lt_size (hn q hq).1
    refine ⟨F, ⟨os ++ [en], (he.mono (fun _ x => x) (List.prefix_append σ [a])).snoc hr, ?_, ?_⟩, S.big, fun b hb => ?_⟩
    · intro p hp
      refine N p ?_
      simp only [List.flatten_append, List.flatten_cons, List.flatten_nil, List.append_nil, List.mem_append] at hp ⊢
      rcases hp with (hp | hp) | hp
      · exact .inr (.inl hp)
      · exact .inl hp
      · exact .inr (.inr hp)
    · have hall : ∀ p ∈ en, ∀ q ∈ os.flatten ++ (tp ++ (ce ++ ex)), p.1 ≠ q.1 := fun p hp q hq e => absurd (hlt q hq) (Nat.not_lt.mpr (e ▸ hf p hp))
      simp only [List.flatten_append, List.flatten_cons, List.flatten_nil, List.append_nil, List.append_assoc, List.map_append] at hd ⊢
      rw [List.nodup_append] at hd ⊢
      obtain ⟨d1, d2, d3⟩ := hd
      refine ⟨d1, ?_, ?_⟩
      · rw [List.nodup_append]
        refine ⟨hnd, d2, ?_⟩
        intro x hx y hy
        obtain ⟨p, hp, rfl⟩ := List.mem_map.mp hx
        have hy' : y ∈ (tp ++ (ce ++ ex)).map (·.1) := by simpa using hy
        obtain ⟨q, hq, rfl⟩ := List.mem_map.mp hy'
        exact hall p hp q (List.mem_append_right _ hq)
      · intro x hx y hy
        rcases List.mem_append.mp hy with hy | hy
        · obtain ⟨p, hp, rfl⟩ := List.mem_map.mp hy
          obtain ⟨q, hq, rfl⟩ := List.mem_map.mp hx
          exact fun e => hall p hp q (List.mem_append_left _ hq) e.symm
        · exact d3 x hx y hy
    · rcases List.mem_append.mp hb with hb | hb
      · exact S.lo b hb
      · rw [List.mem_singleton.mp hb]
        exact Nat.le_trans S.big (Nat.le_trans S.fr.above (Nat.le_trans (Nat.le_of_lt S.fr.ns.lt) hfa))
  · have hlt : ∀ q ∈ os.flatten ++ (tp ++ (ce ++ ex)), q.1 < h.objs.size := fun q hq => Heap.lt_size (hn q hq).1
    refine ⟨F, ⟨os, he.mono (fun _ x => .tail _ x) (List.prefix_refl σ), ?_, ?_⟩, S.big, S.lo⟩
    · intro p hp
      refine N p ?_
      simp only [List.mem_append, List.mem_cons] at hp ⊢
      rcases hp with hp | (hp | hp) | hp
      · exact .inr (.inl hp)
      · exact .inl hp
      · exact .inr (.inr (.inl hp))
      · exact .inr (.inr (.inr hp))
    · have hall : ∀ q ∈ os.flatten ++ (tp ++ (ce ++ ex)), a ≠ q.1 := fun q hq e => absurd (hlt q hq) (Nat.not_lt.mpr (e ▸ hf))
      simp only [List.cons_append, List.map_append, List.map_cons] at hd ⊢
      rw [List.nodup_append] at hd ⊢
      obtain ⟨d1, d2, d3⟩ := hd
      refine ⟨d1, List.nodup_cons.mpr ⟨?_, d2⟩, ?_⟩
      · intro hy
        have hy' : a ∈ (tp ++ (ce ++ ex)).map (·.1) := by simpa using hy
        obtain ⟨q, hq, e⟩ := List.mem_map.mp hy'
        exact hall q (List.mem_append_right _ hq) e.symm
      · intro x hx y hy
        rcases List.mem_cons.mp hy with rfl | hy
        · obtain ⟨q, hq, rfl⟩ := List.mem_map.mp hx
          exact fun e => hall q (List.mem_append_left _ hq) e.symm
        · exact d3 x hx y hy

/-- a list of the mini heap -/
theorem Sta.list (S : Sta C h₀ L σ tp ce ex H m h) {i : Nat} {v : Value} {mvs : List Val} (hv : VRel C tp σ (.ref i) v) (ho : H[i]? = some (.list mvs)) :
    ∃ a vs n, v = .ref a ∧ h.get? a = some (listOf vs.toArray n) ∧ VRels C tp σ mvs vs ∧ mvs.length ≤ lim := by
  cases hv with
  | ref ha =>
    obtain ⟨pre, en, post, hr, hn, _, _⟩ := S.at ha ho
    cases hr with
    | list r l => exact ⟨_, _, _, rfl, (hn (_, _) (List.mem_append_right _ (List.mem_append_left _ (.head _)))).1, r, l⟩
end

end Mi
namespace Mi
open PySem PySem.W PySem.Calls PyProof.Rows

/-- an activation: what stands around -/
structure Act (C : Cfg) (A : Around) (h₀ : Heap) (L : Addr) (envF : Env) (d : Nat) : Prop where
  below : ∃ A₀ base outer, Below A₀ base outer h₀ ∧ A.frames = some (envF :: outer)
  k : C.K.In h₀
  top : ∃ p loose mean mg mb, Top p loose mean mg mb h₀
  frame : envF.frame = some L
  kind : envF.scope.kind = .function
  handled : A.handled = none
  depth : A.depth + 4 * d + 4 ≤ 900
  units : A.units + 20 * d + 200 ≤ 9900

theorem Act.in1 {C : Cfg} {A : Around} {h₀ : Heap} {L : Addr} {envF : Env} {d : Nat} (a : Act C A h₀ L envF d) : A.units + 200 ≤ 9900 := by have := a.units; omega

def NsO (o : Obj) (m : Str → Option Value) : Prop := ∃ es ep, o.data = .dict es ep ∧ StrKeys es ∧ ∀ name, nsFind es name = m name

/-- a block: its env and its names -/
structure Blk (cx : CC) (env : Env) (L : Addr) (ce ex : Led) (m mE : Str → Option Value) : Prop where
  kind : env.scope.kind = .function
  gl : env.globals = mainGlobals
  bl : env.builtins = builtinsNs
  sc : env.scope.names = cx.sc
  cells : ∀ x, cx.sc.lookup x = some .cell → ∃ c o v₀, env.cells.lookup x = some c ∧ (c, o) ∈ ce ∧ o.data = .cell v₀
  loc : (env.locals = L ∧ mE = m) ∨ ∃ o, (env.locals, o) ∈ ex ∧ NsO o mE

/-- the frame's values -/
def FrOk (C : Cfg) (tp : Led) (σ : List Addr) (cx : CC) (env : Env) (ce : Led) (mE : Str → Option Value) (fr : Frame) : Prop :=
  ∀ x i v, varAt cx x = some i → fr[i]? = some (some v) →
    (cx.sc.lookup x = some .local ∧ ∃ rv, mE x = some rv ∧ VRel C tp σ v rv) ∨
    (cx.sc.lookup x = some .cell ∧ ∃ c o rv, env.cells.lookup x = some c ∧ (c, o) ∈ ce ∧ o.data = .cell (some rv) ∧ VRel C tp σ v rv)
theorem FrOk.mono {C : Cfg} {tp tp' : Led} {σ σ' : List Addr} {cx : CC} {env : Env} {ce : Led} {mE : Str → Option Value} {fr : Frame} (h : FrOk C tp σ cx env ce mE fr) (ht : ∀ p ∈ tp, p ∈ tp') (hs : σ <+: σ') : FrOk C tp' σ' cx env ce mE fr :=
  fun x i v a b => (h x i v a b).imp (fun ⟨p, rv, e, r⟩ => ⟨p, rv, e, r.mono ht hs⟩) fun ⟨p, c, o, rv, e1, e2, e3, r⟩ => ⟨p, c, o, rv, e1, e2, e3, r.mono ht hs⟩

def Same (s s' : Shared) : Prop := s'.gens = s.gens ∧ s'.os = s.os
theorem Same.refl (s : Shared) : Same s s := ⟨rfl, rfl⟩
theorem Same.trans {a b c : Shared} (x : Same a b) (y : Same b c) : Same a c := ⟨y.1.trans x.1, y.2.trans x.2⟩

/-- a tree brings a value of the mini world -/
def Brings {α β : Type} (C : Cfg) (A : Around) (h₀ : Heap) (L : Addr) (ce ex : Led) (m : Str → Option Value) (R : Led → List Addr → β → α → Prop) (t : Sem α) (σ : List Addr) (tp : Led) (s : Shared) (r : β) (H' : MH) : Prop :=
  ∀ (Q : α → Shared → Prop) (E : Value → Shared → Prop),
    (∀ σ' tp' a s', σ <+: σ' → (∀ p ∈ tp, p ∈ tp') → Sta C h₀ L σ' tp' ce ex H' m s'.heap → R tp' σ' r a → Same s s' → Q a s') →
    wpAny C.M A t Q E s

section
variable {α β γ δ : Type} {C : Cfg} {A : Around} {h₀ : Heap} {L : Addr} {ce ex : Led} {m : Str → Option Value} {R : Led → List Addr → β → α → Prop} {R' : Led → List Addr → δ → γ → Prop}
theorem Brings.bind {t : Sem α} {k : α → Sem γ} {σ : List Addr} {tp : Led} {s : Shared} {r : β} {H1 H' : MH} {r' : δ} (h : Brings C A h₀ L ce ex m R t σ tp s r H1)
    (hk : ∀ σ' tp' a s', σ <+: σ' → (∀ p ∈ tp, p ∈ tp') → Sta C h₀ L σ' tp' ce ex H1 m s'.heap → R tp' σ' r a → Same s s' → Brings C A h₀ L ce ex m R' (k a) σ' tp' s' r' H') :
    Brings C A h₀ L ce ex m R' (t >>= k) σ tp s r' H' := fun Q E hq =>
  wpAny_bind (h _ _ fun σ' tp' a s' h1 h2 h3 h4 h5 => hk σ' tp' a s' h1 h2 h3 h4 h5 Q E fun σ'' tp'' a' s'' k1 k2 k3 k4 k5 =>
    hq σ'' tp'' a' s'' (h1.trans k1) (fun p hp => k2 p (h2 p hp)) k3 k4 (h5.trans k5))
theorem Brings.pure' {σ : List Addr} {tp : Led} {s : Shared} {r : β} {H' : MH} {a : α} (S : Sta C h₀ L σ tp ce ex H' m s.heap) (hr : R tp σ r a) : Brings C A h₀ L ce ex m R (pure a : Sem α) σ tp s r H' :=
  fun _ _ hq => wpAny_pure (hq σ tp a s (List.prefix_refl σ) (fun _ x => x) S hr (Same.refl s))
theorem Brings.stand {t : Sem α} {σ : List Addr} {tp : Led} {s : Shared} {r : β} {H' : MH} {p : Pos} (h : Brings C A h₀ L ce ex m R t σ tp s r H') : Brings C A h₀ L ce ex m R (standAt p >>= fun _ => t) σ tp s r H' :=
  fun Q E hq => wpAny_bind (wpAny_standAt (h Q E hq))
theorem Brings.hold {t : Sem α} {σ : List Addr} {tp : Led} {s : Shared} {r : β} {H' : MH} {vs : List Value} (h : Brings C A h₀ L ce ex m R t σ tp s r H') : Brings C A h₀ L ce ex m R (holding vs t) σ tp s r H' :=
  fun Q E hq => wpAny_holding (h Q E hq)
end

abbrev VR (C : Cfg) : Led → List Addr → Val → Value → Prop := fun tp σ m v => VRel C tp σ m v
abbrev VRS (C : Cfg) : Led → List Addr → List Val → List Value → Prop := fun tp σ m v => VRels C tp σ m v

/-- what the tables must say -/
structure CfgOk (C : Cfg) : Prop where
  adK : ∀ id a, C.ad.lookup id = some a → ∃ o, C.K.lookup a = some o ∧ o.cls ≠ .type "tuple"
  adInj : ∀ i j a, C.ad.lookup i = some a → C.ad.lookup j = some a → i = j

def GlOk (C : Cfg) (gl : List (Str × Val)) : Prop := ∀ x v, gl.lookup x = some v → ∃ rv, (∀ tp σ, VRel C tp σ v rv) ∧
  (nsIn C.K mainGlobals x = some (some rv) ∨ (nsIn C.K mainGlobals x = some none ∧ x ≠ "__name__" ∧ bootBuiltins x = some rv))

def fuel0 : Nat := 200000
def Cfg.cx (C : Cfg) (d : Nat) : Cx := ⟨C.P, fuel0, callN C.P fuel0 d⟩

/-- an expression's soundness -/
def ESnd (C : Cfg) (d : Nat) (cx : CC) (e : Expr) (ir : Ex) : Prop :=
  ∀ (A : Around) (h₀ : Heap) (L : Addr) (envF env : Env) (ce ex : Led) (m mE : Str → Option Value) (fr : Frame) (σ : List Addr) (tp : Led) (H : MH) (s : Shared) (v : Val) (H' : MH),
    Act C A h₀ L envF d → Blk cx env L ce ex m mE → FrOk C tp σ cx env ce mE fr → Sta C h₀ L σ tp ce ex H m s.heap → eval (C.cx d) fr ir H = some (v, H') →
    Brings C A h₀ L ce ex m (VR C) (PySem.eval e env) σ tp s v H'

section
variable {C : Cfg} {A : Around} {h₀ : Heap} {L : Addr} {envF env : Env} {ce ex : Led} {m mE : Str → Option Value} {fr : Frame} {σ : List Addr} {tp : Led} {H : MH} {s : Shared} {d : Nat} {cx : CC}

theorem Sta.toks (S : Sta C h₀ L σ tp ce ex H m s.heap) (n : Nat) : Sta C h₀ L σ tp ce ex H m ({ s with toks := n } : Shared).heap := S

theorem Sta.cell (S : Sta C h₀ L σ tp ce ex H m s.heap) {c : Addr} {o : Obj} (hc : (c, o) ∈ ce) : s.heap.get? c = some o := by
  obtain ⟨os, _, hn, _⟩ := S.os
  exact (hn (c, o) (by simp [hc])).1
theorem Sta.exAt (S : Sta C h₀ L σ tp ce ex H m s.heap) {c : Addr} {o : Obj} (hc : (c, o) ∈ ex) : s.heap.get? c = some o := by
  obtain ⟨os, _, hn, _⟩ := S.os
  exact (hn (c, o) (by simp [hc])).1
theorem Sta.tpAt (S : Sta C h₀ L σ tp ce ex H m s.heap) {c : Addr} {o : Obj} (hc : (c, o) ∈ tp) : s.heap.get? c = some o := by
  obtain ⟨os, _, hn, _⟩ := S.os
  exact (hn (c, o) (by simp [hc])).1
theorem Sta.kIn (S : Sta C h₀ L σ tp ce ex H m s.heap) (a : Act C A h₀ L envF d) : C.K.In s.heap := a.k.keeps S.fr.keep

theorem Blk.ns (B : Blk cx env L ce ex m mE) (S : Sta C h₀ L σ tp ce ex H m s.heap) : s.heap.Ns env.locals mE := by
  rcases B.loc with ⟨e, rfl⟩ | ⟨o, ho, es, ep, h1, h2, h3⟩
  · rw [e]; exact S.fr.ns
  · exact ⟨o, es, ep, S.exAt ho, h1, h2, h3⟩

theorem snd_const {c : Const} {k : Nat} {pos : Pos} {ir : Ex} (hc : compE cx (.Constant c k pos) = some ir) : ESnd C d cx (.Constant c k pos) ir := by
  intro A h₀ L envF env ce ex m mE fr σ tp H s v H' _ _ _ S ev
  simp only [compE] at hc
  obtain ⟨w, hw, rfl⟩ := Option.map_eq_some_iff.mp hc
  simp only [eval, Option.some.injEq, Prod.mk.injEq] at ev
  obtain ⟨rfl, rfl⟩ := ev
  intro Q E hq
  cases c with
  | none => cases hw; exact wpAny_pure (hq σ tp _ s (List.prefix_refl σ) (fun _ x => x) S .none (Same.refl s))
  | bool b => cases hw; exact wpAny_pure (hq σ tp _ s (List.prefix_refl σ) (fun _ x => x) S (.bool b) (Same.refl s))
  | int i => cases hw; exact fun _ _ _ => hq σ tp _ { s with toks := s.toks + 1 } (List.prefix_refl σ) (fun _ x => x) S (.int i _) ⟨rfl, rfl⟩
  | str x =>
    simp only [constV] at hw
    split at hw
    · rename_i hs
      cases hw
      refine fun _ _ _ => hq σ tp _ { s with toks := s.toks + 1 } (List.prefix_refl σ) (fun _ x => x) S ?_ ⟨rfl, rfl⟩
      have := VRel.str (C := C) (tp := tp) (σ := σ) x.cps.toList s.toks (by
        simpa [sOk] using hs)
      simpa using this
    · cases hw
  | _ => cases hw
end
end Mi
namespace Mi
open PySem PySem.W PySem.Calls PyProof.Rows
section
variable {C : Cfg} {A : Around} {h₀ : Heap} {L : Addr} {envF env : Env} {ce ex : Led} {m mE : Str → Option Value} {fr : Frame} {σ : List Addr} {tp : Led} {H : MH} {s : Shared} {d : Nat} {cx : CC}

theorem nameOk_debug {x : Str} (h : nameOk x = true) : (x == ("__debug__" : Str)) = false := by
  unfold nameOk at h
  simp only [Bool.and_eq_true, bne_iff_ne, ne_eq] at h
  simpa using h.1.1.1.2

theorem varAt_kind {x : Str} {i : Nat} (h : varAt cx x = some i) : (cx.sc.lookup x = some .local ∨ cx.sc.lookup x = some .cell) ∧ cx.vars.lookup x = some i := by
  unfold varAt at h
  split at h
  · rename_i e; exact ⟨.inl e, h⟩
  · rename_i e; exact ⟨.inr e, h⟩
  · cases h

/-- a name of the frame -/
theorem brings_var {x : Str} {pos : Pos} {i : Nat} {v : Val} (hx : nameOk x = true) (hi : varAt cx x = some i) (B : Blk cx env L ce ex m mE) (F : FrOk C tp σ cx env ce mE fr) (S : Sta C h₀ L σ tp ce ex H m s.heap) (hv : fr[i]? = some (some v)) :
    Brings C A h₀ L ce ex m (VR C) (PySem.eval (.Name x pos) env) σ tp s v H := by
  intro Q E hq
  refine wpAny_Name ?_ (nameOk_debug hx)
  rcases F x i v hi hv with ⟨hk, rv, e, r⟩ | ⟨hk, c, o, rv, e1, e2, e3, r⟩
  · exact wpAny_loadName_local B.kind (by unfold Env.kindOf; rw [B.sc]; exact hk) (B.ns S) e (hq σ tp rv s (List.prefix_refl σ) (fun _ x => x) S r (Same.refl s))
  · exact wpAny_loadName_cell B.kind (by unfold Env.kindOf; rw [B.sc]; exact hk) e1 ⟨o, S.cell e2, e3⟩ (hq σ tp rv s (List.prefix_refl σ) (fun _ x => x) S r (Same.refl s))

/-- a name of the top -/
theorem brings_glob {gl : List (Str × Val)} (G : GlOk C gl) {x : Str} {pos : Pos} {v : Val} (hx : nameOk x = true) (hk : cx.sc.lookup x = some .globalImplicit) (hg : gl.lookup x = some v) (a : Act C A h₀ L envF d) (B : Blk cx env L ce ex m mE) (S : Sta C h₀ L σ tp ce ex H m s.heap) :
    Brings C A h₀ L ce ex m (VR C) (PySem.eval (.Name x pos) env) σ tp s v H := by
  intro Q E hq
  obtain ⟨rv, hr, hn⟩ := G x v hg
  obtain ⟨p, loose, mean, mg, mb, T⟩ := a.top
  have q := hq σ tp rv s (List.prefix_refl σ) (fun _ x => x) S (hr tp σ) (Same.refl s)
  refine Name_function_global B.kind (by unfold Env.kindOf; rw [B.sc]; exact hk) ?_ (nameOk_debug hx)
  rcases hn with hn | ⟨hn, hne, hb⟩
  · exact loadGlobal_global (by rw [B.gl]; exact T.g.keeps S.fr.keep) (mg_of a.k T.g hn) q
  · exact loadGlobal_builtin (by rw [B.gl]; exact T.g.keeps S.fr.keep) (mg_none_of a.k T.g hn) (by rw [B.bl]; exact T.b.keeps S.fr.keep) ((T.builtins x hne).trans hb) q

theorem snd_name {x : Str} {pos : Pos} {ir : Ex} (G : GlOk C cx.gl) (hc : compE cx (.Name x pos) = some ir) : ESnd C d cx (.Name x pos) ir := by
  intro A h₀ L envF env ce ex m mE fr σ tp H s v H' a B F S ev
  simp only [compE] at hc
  split at hc
  · rename_i hx
    split at hc
    · rename_i i hi
      cases hc
      simp only [eval] at ev
      split at ev
      · rename_i v' hv
        cases ev
        exact brings_var hx hi B F S hv
      · cases ev
    · split at hc
      · rename_i hk
        obtain ⟨v', hv, rfl⟩ := Option.map_eq_some_iff.mp hc
        simp only [eval, Option.some.injEq, Prod.mk.injEq] at ev
        obtain ⟨rfl, rfl⟩ := ev
        exact brings_glob G hx (beq_iff_eq.mp hk) hv a B S
      · cases hc
  · cases hc

/-- two operands, then an operation -/
theorem wp_operate {M : Model} {operands : List Value} {t : Sem Value} {Q : Value → Shared → Prop} {E : Value → Shared → Prop} (h : wpAny M A t Q E s) : wpAny M A (operate operands t) Q E s := by
  unfold operate
  refine wpAny_bind (wpAny_holding (wpAny_mono h (fun r s' q => ?_) fun _ _ x => x))
  refine wpAny_bind ?_
  exact wpAny_release (wpAny_pure q)
end
end Mi
namespace Mi
open PySem PySem.W PySem.Calls PyProof.Rows
section
variable {C : Cfg} {A : Around} {h₀ : Heap} {L : Addr} {envF env : Env} {ce ex : Led} {m mE : Str → Option Value} {fr : Frame} {σ : List Addr} {tp : Led} {H : MH} {s : Shared} {d : Nat} {cx : CC}

theorem lim_line : lim ≤ sizeLine := by decide +kernel

/-- a new list -/
theorem Sta.newList (S : Sta C h₀ L σ tp ce ex H m s.heap) {mvs : List Val} {vs : List Value} (r : VRels C tp σ mvs vs) (hl : mvs.length ≤ lim) {t : Sem Value} {E : Value → Shared → Prop} {Q : Value → Shared → Prop}
    (ht : ∀ all, News h₀ L s.heap all → (∀ h', Fr h₀ L h' m → News h₀ L h' ((s.heap.objs.size, listOf vs.toArray 0) :: all) → Q (.ref s.heap.objs.size) { s with heap := h' }) → wpAny C.M A t Q E s)
    (hq : ∀ σ' tp' a s', σ <+: σ' → (∀ p ∈ tp, p ∈ tp') → Sta C h₀ L σ' tp' ce ex (H ++ [.list mvs]) m s'.heap → VRel C tp' σ' (.ref H.length) a → Same s s' → Q a s') : wpAny C.M A t Q E s := by
  obtain ⟨all, hn, g1, _, _⟩ := S.ledger
  obtain ⟨os, he, _, _⟩ := S.os
  refine ht all hn fun h' F N => ?_
  refine hq (σ ++ [s.heap.objs.size]) tp _ _ (List.prefix_append σ _) (fun _ x => x) ?_ (.ref ?_) ⟨rfl, rfl⟩
  · exact g1 _ (.list mvs) [(s.heap.objs.size, listOf vs.toArray 0)] h' (.list (r.mono (fun _ x => x) (List.prefix_append σ _)) hl) F N (fun p hp => by rw [List.mem_singleton.mp hp]; exact Nat.le_refl _) (Nat.le_refl _) (by simp)
  · rw [← he.length]; simp

theorem replicate_rel {mvs : List Val} {vs : List Value} (r : VRels C tp σ mvs vs) : ∀ n : Nat, VRels C tp σ (List.replicate n mvs).flatten (List.replicate n vs).flatten
  | 0 => .nil
  | n + 1 => by simp only [List.replicate_succ, List.flatten_cons]; exact r.append (replicate_rel r n)
theorem foldl_app (n : Nat) (vs : List Value) : (List.foldl (fun x1 x2 => x1 ++ x2) #[] (List.replicate (if vs.toArray.isEmpty = true then 0 else n) vs.toArray)).toList = (List.replicate n vs).flatten := by
  have h : ∀ (k : Nat) (acc : Array Value), (List.foldl (fun x1 x2 => x1 ++ x2) acc (List.replicate k vs.toArray)).toList = acc.toList ++ (List.replicate k vs).flatten := by
    intro k
    induction k with
    | zero => intro acc; simp
    | succ k ih => intro acc; simp only [List.replicate_succ, List.foldl_cons, List.flatten_cons]; rw [ih]; simp
  rw [h]
  cases vs with
  | nil => simp
  | cons v r => simp

theorem str_app (a b : List Nat) : ((⟨a.toArray⟩ : Str) ++ (⟨b.toArray⟩ : Str)) = ⟨(a ++ b).toArray⟩ := by
  show Str.mk (a.toArray ++ b.toArray) = _
  rw [List.append_toArray]
theorem foldl_appN (n : Nat) (vs : List Nat) : (List.foldl (fun x1 x2 => x1 ++ x2) #[] (List.replicate n vs.toArray)) = (List.replicate n vs).flatten.toArray := by
  have h : ∀ (k : Nat) (acc : Array Nat), (List.foldl (fun x1 x2 => x1 ++ x2) acc (List.replicate k vs.toArray)) = acc ++ (List.replicate k vs).flatten.toArray := by
    intro k
    induction k with
    | zero => intro acc; simp
    | succ k ih => intro acc; simp only [List.replicate_succ, List.foldl_cons, List.flatten_cons]; rw [ih]; simp
  rw [h]; simp
theorem mem_rep {n : Nat} {s : List Nat} {c : Nat} (h : c ∈ (List.replicate n s).flatten) : c ∈ s := by
  obtain ⟨l, hl, hc⟩ := List.mem_flatten.mp h
  rw [(List.mem_replicate.mp hl).2] at hc
  exact hc

theorem snd_add {x y v : Val} {a b : Value} {H' : MH} (S : Sta C h₀ L σ tp ce ex H m s.heap) (ha : VRel C tp σ x a) (hb : VRel C tp σ y b) (e : addOp H x y = some (v, H')) :
    Brings C A h₀ L ce ex m (VR C) (binaryOp .Add a b) σ tp s v H' := by
  intro Q E hq
  unfold addOp at e
  split at e
  · cases ha; cases hb; cases e
    exact add_int (hq σ tp _ { s with toks := s.toks + 1 } (List.prefix_refl σ) (fun _ x => x) S (.int _ _) ⟨rfl, rfl⟩)
  · split at e
    · rename_i hl
      cases e
      cases ha with
      | str _ t oa =>
        cases hb with
        | str _ u ob =>
          refine add_str (fun t' tk => ?_) ?_
          · refine hq σ tp _ { s with toks := tk } (List.prefix_refl σ) (fun _ x => x) S ?_ ⟨rfl, rfl⟩
            rw [str_app]
            exact VRel.str _ t' ⟨fun c hc => (List.mem_append.mp hc).elim (oa.1 c) (ob.1 c), by rw [List.length_append]; exact hl⟩
          · show Array.size _ + Array.size _ ≤ _
            simp only [List.size_toArray]
            exact Nat.le_trans hl lim_line
    · cases e
  · split at e
    · rename_i i j x y hx hy
      split at e
      · rename_i hl
        cases e
        obtain ⟨a1, vs, n, rfl, g1, r1, l1⟩ := S.list ha hx
        obtain ⟨a2, ws, n2, rfl, g2, r2, l2⟩ := S.list hb hy
        refine S.newList (r1.append r2) (by rw [List.length_append]; exact hl) (fun all hn k => ?_) hq
        refine add_arrays S.fr hn ⟨_, g1, rfl, _, rfl⟩ ⟨_, g2, rfl, _, rfl⟩ (fun h' F N => k h' F (by simpa using N)) ?_
        simp only [List.size_toArray]
        rw [← r1.length, ← r2.length]
        exact Nat.le_trans hl lim_line
      · cases e
    · cases e
  · cases e

theorem bits_of_lt {a : Int} (h : a.natAbs < bigB) : Builtin.Int.intBits a ≤ 100000 := by
  unfold Builtin.Int.intBits
  split
  · omega
  · rename_i h0
    have h0' : a.natAbs ≠ 0 := by
      intro e; apply h0; simp [Int.natAbs_eq_zero.mp e]
    have := (Nat.log2_lt h0').mpr h
    omega
theorem mul_ok {a b : Int} (h : mulOk a b = true) : IntMulOk a b := by
  simp only [mulOk, Bool.and_eq_true, decide_eq_true_eq] at h
  have h1 := bits_of_lt h.1
  have h2 := bits_of_lt h.2
  unfold IntMulOk
  rw [Bool.and_eq_true, not_and]
  intro _
  unfold Builtin.Int.intTooBig
  rw [decide_eq_true_eq]
  have : bitsLine = 134217728 := by decide +kernel
  rw [this]; omega

theorem snd_mul {x y v : Val} {a b : Value} {H' : MH} (S : Sta C h₀ L σ tp ce ex H m s.heap) (ha : VRel C tp σ x a) (hb : VRel C tp σ y b) (e : mulOp H x y = some (v, H')) :
    Brings C A h₀ L ce ex m (VR C) (binaryOp .Mult a b) σ tp s v H' := by
  intro Q E hq
  unfold mulOp at e
  split at e
  · split at e
    · rename_i hm
      cases ha; cases hb; cases e
      exact mul_int (hq σ tp _ { s with toks := s.toks + 1 } (List.prefix_refl σ) (fun _ x => x) S (.int _ _) ⟨rfl, rfl⟩) (mul_ok hm)
    · cases e
  · cases ha; cases hb; cases e
    exact IntBool.mul_int_bool (hq σ tp _ { s with toks := s.toks + 1 } (List.prefix_refl σ) (fun _ x => x) S (.int _ _) ⟨rfl, rfl⟩)
  · split at e
    · rename_i i n o x hx
      split at e
      · rename_i hl
        obtain ⟨h1, h2, h3⟩ := hl
        cases e
        cases hb with
        | int _ u =>
          obtain ⟨a1, vs, k, rfl, g1, r1, l1⟩ := S.list ha hx
          have hlim : (lim : Int) = 1000000 := by decide
          refine S.newList (replicate_rel r1 n.toNat) (by simpa [Nat.mul_comm] using h3) (fun all hn kk => ?_) hq
          refine mul_list S.fr hn g1 (by omega) (by omega) ?_ (fun h' F N => kk h' F ?_)
          · simp only [List.size_toArray]; rw [← r1.length]; exact Nat.le_trans h3 (by decide)
          · rw [← foldl_app n.toNat vs]; exact N
      · cases e
    · cases e
  · split at e
    · rename_i x n hl
      obtain ⟨h1, h2, h3⟩ := hl
      cases e
      cases hb with
      | int _ u =>
        cases ha with
        | str _ t oa =>
          have hlim : (lim : Int) = 1000000 := by decide
          have hlen : (⟨x.toArray⟩ : Str).length = x.length := by show Array.size _ = _; simp
          have q : ∀ t' tk, Q (.str ⟨(List.replicate n.toNat x).flatten.toArray⟩ t') { s with toks := tk } := fun t' tk =>
            hq σ tp _ { s with toks := tk } (List.prefix_refl σ) (fun _ x => x) S (.str _ t' ⟨fun c hc => oa.1 c (mem_rep hc), by simpa [Nat.mul_comm] using h3⟩) ⟨rfl, rfl⟩
          refine P.mul_str ?_ ?_ ?_ ?_
          · rw [decide_eq_false (by omega), decide_eq_false (by omega)]; rfl
          · intro hn _
            rw [hlen]
            have hx : (x.length : Int) ≤ 1000000 := by have := oa.2; omega
            have : (1000000 : Int) ≤ (2 ^ 63 - 1) / n := by
              refine (Int.le_ediv_iff_mul_le (by omega)).mpr ?_
              have : (1000000 : Int) * n ≤ 1000000 * 1000000 := Int.mul_le_mul_of_nonneg_left (by omega) (by omega)
              omega
            omega
          · intro _ _
            rw [hlen]
            unfold Builtin.Str.tooLong
            rw [decide_eq_false_iff_not]
            have : lim ≤ sizeLine := lim_line
            omega
          · split
            · rename_i hn
              have e0 : n.toNat = 0 := by omega
              refine ⟨by decide, ?_⟩
              have := q s.toks (s.toks + 1)
              rw [e0] at this
              exact this
            · rename_i hn
              split
              · rename_i h1'
                rw [hlen] at h1'
                have e1 : (List.replicate n.toNat x).flatten = x := by
                  rcases Bool.or_eq_true_iff.mp h1' with h | h
                  · rw [show n = 1 from beq_iff_eq.mp h]; simp
                  · rw [List.length_eq_zero_iff.mp (beq_iff_eq.mp h)]; simp
                rw [e1] at q
                exact q t s.toks
              · refine ⟨?_, ?_⟩
                · show Array.size _ ≤ _
                  rw [foldl_appN]
                  simp only [List.size_toArray]
                  have : lim ≤ sizeLine := lim_line
                  have h3' : (List.replicate n.toNat x).flatten.length ≤ lim := by simpa [Nat.mul_comm] using h3
                  omega
                · have := q s.toks (s.toks + 1)
                  rw [← foldl_appN] at this
                  exact this
    · cases e
  · cases e

theorem pylong_no {x y : Int} (h : y.natAbs < divB) : Builtin.divisionGoesByPylong x y = false := by
  unfold Builtin.divisionGoesByPylong
  have : (if (y == 0) = true then 0 else y.natAbs.log2 / 30 + 1) ≤ 300 := by
    split
    · omega
    · rename_i hz
      have h0' : y.natAbs ≠ 0 := by
        intro e; apply hz; simp [Int.natAbs_eq_zero.mp e]
      have := (Nat.log2_lt h0').mpr h
      omega
  simp only [Bool.and_eq_false_iff, decide_eq_false_iff_not]
  exact .inl (by omega)

theorem snd_arith {op : Operator} {o : BOp} (ho : bopOf op = some o) {x y : Int} {t u : Tok} {k : Int} (S : Sta C h₀ L σ tp ce ex H m s.heap) (e : arith o x y = some k) :
    Brings C A h₀ L ce ex m (VR C) (binaryOp op (.int x t) (.int y u)) σ tp s (.int k) H := by
  intro Q E hq
  have q := fun i => hq σ tp (.int i s.toks) { s with toks := s.toks + 1 } (List.prefix_refl σ) (fun _ x => x) S
  cases op <;> simp only [bopOf, Option.some.injEq, reduceCtorEq] at ho <;> subst ho <;> simp only [arith, reduceCtorEq] at e
  · cases e
    exact sub_int (q _ (.int _ _) ⟨rfl, rfl⟩)
  · split at e
    · cases e
    · rename_i h0; cases e
      exact mod_int' h0 (q _ (.int _ _) ⟨rfl, rfl⟩)
  · split at e
    · rename_i h0
      obtain ⟨h1, h2, h3⟩ := h0
      cases e
      refine pow_int h1 ?_ (q _ (.int _ _) ⟨rfl, rfl⟩)
      have hb : Builtin.Int.intBits x ≤ 65 := by
        unfold Builtin.Int.intBits
        split
        · omega
        · rename_i hz
          have h0' : x.natAbs ≠ 0 := by
            intro e; apply hz; simp [Int.natAbs_eq_zero.mp e]
          have := (Nat.log2_lt h0').mpr h3
          omega
      have hb' : (Builtin.Int.intBits x : Int) ≤ 65 := by omega
      calc (Builtin.Int.intBits x : Int) * y ≤ 65 * 64 := Int.mul_le_mul hb' h2 h1 (by omega)
        _ ≤ 2 ^ 27 := by decide
    · cases e
  · split at e
    · cases e
    · rename_i h0; cases e
      rw [not_or, Decidable.not_not] at h0
      refine floordiv_int h0.1 (q _ (.int _ _) ⟨rfl, rfl⟩) (.inl (pylong_no h0.2))

theorem snd_binop {op : Operator} {o : BOp} (ho : bopOf op = some o) {x y v : Val} {a b : Value} {H' : MH} (S : Sta C h₀ L σ tp ce ex H m s.heap) (ha : VRel C tp σ x a) (hb : VRel C tp σ y b) (e : binop o x y H = some (v, H')) :
    Brings C A h₀ L ce ex m (VR C) (binaryOp op a b) σ tp s v H' := by
  unfold binop at e
  split at e
  · cases op <;> simp only [bopOf, Option.some.injEq, reduceCtorEq] at ho
    exact snd_add S ha hb e
  · cases op <;> simp only [bopOf, Option.some.injEq, reduceCtorEq] at ho
    exact snd_mul S ha hb e
  · obtain ⟨k, hk, e'⟩ := Option.map_eq_some_iff.mp e
    cases e'
    cases ha; cases hb
    exact snd_arith ho S hk
  · cases e

theorem snd_bin {l r : Expr} {op : Operator} {pos : Pos} {ir : Ex} (hl : ∀ i, compE cx l = some i → ESnd C d cx l i) (hr : ∀ i, compE cx r = some i → ESnd C d cx r i) (hc : compE cx (.BinOp l op r pos) = some ir) : ESnd C d cx (.BinOp l op r pos) ir := by
  intro A h₀ L envF env ce ex m mE fr σ tp H s v H' a B F S ev
  simp only [compE] at hc
  split at hc
  · rename_i o ia ib e1 e2 e3
    cases hc
    simp only [eval] at ev
    split at ev
    · rename_i x h1 ev1
      split at ev
      · rename_i y h2 ev2
        refine Brings.bind (hl _ e2 A h₀ L envF env ce ex m mE fr σ tp H s x h1 a B F S ev1) fun σ1 tp1 va s1 p1 p2 S1 r1 _ => ?_
        refine Brings.bind (Brings.hold (hr _ e3 A h₀ L envF env ce ex m mE fr σ1 tp1 h1 s1 y h2 a B (F.mono p2 p1) S1 ev2)) fun σ2 tp2 vb s2 q1 q2 S2 r2 _ => ?_
        refine Brings.stand fun Q E hq => wp_operate (snd_binop e1 S2 (r1.mono q2 q1) r2 ev Q E hq)
      · cases ev
    · cases ev
  · cases hc
end
end Mi
namespace Mi
open PySem PySem.W PySem.Calls PyProof.Rows
section
variable {C : Cfg} {A : Around} {h₀ : Heap} {L : Addr} {envF env : Env} {ce ex : Led} {m mE : Str → Option Value} {fr : Frame} {σ : List Addr} {tp : Led} {H : MH} {s : Shared} {d : Nat} {cx : CC}

theorem mapM_cons_some {α β : Type} {f : α → Option β} {x : α} {l : List α} {r : List β} (h : (x :: l).mapM f = some r) : ∃ y ys, f x = some y ∧ l.mapM f = some ys ∧ r = y :: ys := by
  rw [List.mapM_cons] at h
  obtain ⟨y, hy, h⟩ := Option.bind_eq_some_iff.mp h
  obtain ⟨ys, hys, h⟩ := Option.bind_eq_some_iff.mp h
  exact ⟨y, ys, hy, hys, by cases h; rfl⟩

/-- a tuple of the mini world stands in the heap -/
theorem Sta.tup (S : Sta C h₀ L σ tp ce ex H m s.heap) (a : Act C A h₀ L envF d) {mvs : List Val} {v : Value} (hv : VRel C tp σ (.tup mvs) v) :
    ∃ t o n vs, v = .ref t ∧ s.heap.get? t = some o ∧ o.cls = .type "tuple" ∧ o.data = .seq vs.toArray n ∧ VRels C tp σ mvs vs ∧ mvs.length ≤ lim := by
  cases hv with
  | tup ho hc hd r l => exact ⟨_, _, _, _, rfl, ho.elim (S.tpAt) (fun e => S.kIn a _ _ e), hc, hd, r, l⟩

theorem reads_all {k : Nat} (ih : ∀ v rv dt, VRel C tp σ v rv → toD H k v = some dt → ∃ as, Reads s.heap rv dt as ∧ dt.canLay0 = true ∧ dt.depth ≤ k) :
    ∀ {mvs : List Val} {vs : List Value} {ds : List PyData}, VRels C tp σ mvs vs → mvs.mapM (toD H k) = some ds → ∃ as, ReadsAll s.heap vs ds as ∧ PyData.canLayAll0 ds = true ∧ PyData.depthAll ds ≤ k
  | _, _, _, .nil, e => by
    rw [List.mapM_nil] at e
    cases e
    exact ⟨[], .nil, by simp [PyData.canLayAll0], by simp [PyData.depthAll]⟩
  | _, _, _, .cons h r, e => by
    obtain ⟨y, ys, e1, e2, rfl⟩ := mapM_cons_some e
    obtain ⟨as, r1, c1, d1⟩ := ih _ _ _ h e1
    obtain ⟨bs, r2, c2, d2⟩ := reads_all ih r e2
    refine ⟨as ++ bs, .cons r1 r2, by simp [PyData.canLayAll0, c1, c2], ?_⟩
    simp only [PyData.depthAll]
    omega

theorem reads_of (S : Sta C h₀ L σ tp ce ex H m s.heap) (a : Act C A h₀ L envF d) : ∀ (k : Nat) (v : Val) (rv : Value) (dt : PyData), VRel C tp σ v rv → toD H k v = some dt → ∃ as, Reads s.heap rv dt as ∧ dt.canLay0 = true ∧ dt.depth ≤ k
  | k, .none, rv, dt, hv, e => by
    have e' : dt = .none := by cases k <;> (simp only [toD, Option.some.injEq] at e; exact e.symm)
    subst e'; cases hv; exact ⟨[], .none, by simp [PyData.canLay0], by simp [PyData.depth]⟩
  | k, .bool b, rv, dt, hv, e => by
    have e' : dt = .bool b := by cases k <;> (simp only [toD, Option.some.injEq] at e; exact e.symm)
    subst e'; cases hv; exact ⟨[], .bool b, by simp [PyData.canLay0], by simp [PyData.depth]⟩
  | k, .int i, rv, dt, hv, e => by
    have e' : dt = .int i := by cases k <;> (simp only [toD, Option.some.injEq] at e; exact e.symm)
    subst e'; cases hv; exact ⟨[], .int i _, by simp [PyData.canLay0], by simp [PyData.depth]⟩
  | k, .str x, rv, dt, hv, e => by
    have e' : dt = .str ⟨x.toArray⟩ := by cases k <;> (simp only [toD, Option.some.injEq] at e; exact e.symm)
    subst e'
    cases hv with
    | str _ t ok => exact ⟨[], .str _ t, by simpa [PyData.canLay0, PyData.strOk] using ok.1, by simp [PyData.depth]⟩
  | k + 1, .tup vs, rv, dt, hv, e => by
    simp only [toD] at e
    obtain ⟨ds, e1, rfl⟩ := Option.map_eq_some_iff.mp e
    obtain ⟨t, o, n, ws, rfl, ho, hc, hd, r, _⟩ := S.tup a hv
    obtain ⟨as, ra, c1, d1⟩ := reads_all (reads_of S a k) r e1
    exact ⟨as, .tuple ho hc hd (by simpa using ra), by simpa [PyData.canLay0] using c1, by simp [PyData.depth, d1]⟩
  | k + 1, .ref i, rv, dt, hv, e => by
    simp only [toD] at e
    split at e
    · rename_i vs hvs
      obtain ⟨ds, e1, rfl⟩ := Option.map_eq_some_iff.mp e
      obtain ⟨t, ws, n, rfl, ho, r, _⟩ := S.list hv hvs
      obtain ⟨as, ra, c1, d1⟩ := reads_all (reads_of S a k) r e1
      exact ⟨t :: as, .list ho rfl rfl (by simpa using ra), by simpa [PyData.canLay0] using c1, by simp [PyData.depth, d1]⟩
    · cases e
  | 0, .tup _, _, _, _, e => by simp [toD] at e
  | 0, .ref _, _, _, _, e => by simp [toD] at e
  | k, .top _, _, _, _, e => by cases k <;> simp [toD] at e
  | k, .ty _, _, _, _, e => by cases k <;> simp [toD] at e
  | k, .bi _, _, _, _, e => by cases k <;> simp [toD] at e
  | k, .rng _, _, _, _, e => by cases k <;> simp [toD] at e
  | k, .fl _, _, _, _, e => by cases k <;> simp [toD] at e

theorem snd_eq (S : Sta C h₀ L σ tp ce ex H m s.heap) (a : Act C A h₀ L envF d) {x y : Val} {vx vy : Value} {r : Bool} (hx : VRel C tp σ x vx) (hy : VRel C tp σ y vy) (e : veq H x y = some r) {Q : Value → Shared → Prop} {E : Value → Shared → Prop}
    (h : Q (.bool r) s) : wpAny C.M A (compareOp .Eq vx vy) Q E s := by
  unfold veq at e
  split at e
  · rename_i dx dy e1 e2
    cases e
    obtain ⟨_, r1, c1, d1⟩ := reads_of S a 8 x vx dx hx e1
    obtain ⟨_, r2, c2, d2⟩ := reads_of S a 8 y vy dy hy e2
    refine SeqAt.compareEq_reads r1 r2 c1 c2 ?_ h
    have := a.units
    show A.units + min _ _ < 9900
    omega
  · cases e
theorem snd_ne (S : Sta C h₀ L σ tp ce ex H m s.heap) (a : Act C A h₀ L envF d) {x y : Val} {vx vy : Value} {r : Bool} (hx : VRel C tp σ x vx) (hy : VRel C tp σ y vy) (e : veq H x y = some r) {Q : Value → Shared → Prop} {E : Value → Shared → Prop}
    (h : Q (.bool (!r)) s) : wpAny C.M A (compareOp .NotEq vx vy) Q E s := by
  unfold veq at e
  split at e
  · rename_i dx dy e1 e2
    cases e
    obtain ⟨_, r1, c1, d1⟩ := reads_of S a 8 x vx dx hx e1
    obtain ⟨_, r2, c2, d2⟩ := reads_of S a 8 y vy dy hy e2
    refine SeqAt.compareNe_reads r1 r2 c1 c2 ?_ h
    have := a.units
    show A.units + min _ _ < 9900
    omega
  · cases e
end
end Mi
namespace Mi
open PySem PySem.W PySem.Calls PyProof.Rows
section
variable {C : Cfg} {A : Around} {h₀ : Heap} {L : Addr} {envF env : Env} {ce ex : Led} {m mE : Str → Option Value} {fr : Frame} {σ : List Addr} {tp : Led} {H : MH} {s : Shared} {d : Nat} {cx : CC}

theorem lim63 {n : Nat} (h : n ≤ lim) : (n : Int) < 2 ^ 63 := by
  have : lim = 1000000 := rfl
  omega

/-- the heap grows by what no one names -/
theorem Sta.grown (S : Sta C h₀ L σ tp ce ex H m s.heap) {h' : Heap} (he : Heap.ExtBut s.heap.objs.size s.heap h') : Sta C h₀ L σ tp ce ex H m h' := by
  obtain ⟨os, h1, h2, h3⟩ := S.os
  exact ⟨S.fr.extBut he (Nat.le_refl _), ⟨os, h1, fun p hp => ⟨he p.1 p.2 (Nat.ne_of_lt (Heap.lt_size (h2 p hp).1)) (h2 p hp).1, (h2 p hp).2⟩, h3⟩, S.big, S.lo⟩

theorem snd_truthy (S : Sta C h₀ L σ tp ce ex H m s.heap) (a : Act C A h₀ L envF d) {x : Val} {v : Value} {r : Bool} (hx : VRel C tp σ x v) (e : truthy H x = some r) {Q : Bool → Shared → Prop} {E : Value → Shared → Prop}
    (h : ∀ tk, Q r { s with toks := tk }) : wpAny C.M A (PySem.truthy v) Q E s := by
  cases x with
  | none => cases hx; cases e; exact truthy_none (h s.toks)
  | bool b => cases hx; cases e; exact wpAny_truthy_bool (h s.toks)
  | int i => cases hx; cases e; exact truthy_int (h s.toks)
  | str l =>
    cases e
    cases hx with
    | str _ t ok =>
      have hl : (⟨l.toArray⟩ : Str).length = l.length := by show Array.size _ = _; simp
      refine P.truthy_str (by rw [hl]; have := lim63 ok.2; omega) ?_
      rw [hl]
      have := h (s.toks + 1 + 1)
      cases l with
      | nil => exact this
      | cons c l =>
        have e : (((c :: l).length : Int) != 0) = true := by
          rw [bne_iff_ne]; simp only [List.length_cons]; omega
        rw [e]; exact this
  | tup vs =>
    cases e
    obtain ⟨t, o, n, ws, rfl, ho, hc, hd, rr, hl⟩ := S.tup a hx
    refine truthy_tuple (items := ws.toArray) ⟨o, ho, hc, n, hd⟩ (by rw [List.size_toArray, ← rr.length]; exact lim63 hl) ?_
    have e : ws.toArray.isEmpty = vs.isEmpty := by
      have := rr.length
      cases vs <;> cases ws <;> simp_all
    rw [e]; exact h _
  | ref i =>
    simp only [truthy] at e
    split at e
    · rename_i vs hvs
      cases e
      obtain ⟨t, ws, n, rfl, ho, rr, hl⟩ := S.list hx hvs
      refine wpAny_truthy_list (items := ws.toArray) ⟨_, ho, rfl, n, rfl⟩ (by rw [List.size_toArray, ← rr.length]; exact lim63 hl) ?_
      have e : ws.toArray.isEmpty = vs.isEmpty := by
        have := rr.length
        cases vs <;> cases ws <;> simp_all
      rw [e]; exact h _
    · cases e
  | _ => simp [truthy] at e

theorem lookup_mem {α β : Type} [BEq α] [LawfulBEq α] {a : α} {b : β} : ∀ {l : List (α × β)}, l.lookup a = some b → (a, b) ∈ l
  | [], h => by cases h
  | (x, y) :: l, h => by
    rw [List.lookup_cons] at h
    split at h
    · rename_i e
      rw [beq_iff_eq] at e
      cases h; subst e; exact .head _
    · exact .tail _ (lookup_mem h)
theorem tyTab_inj : ∀ p ∈ tyTab, ∀ q ∈ tyTab, (p.1 == q.1) = (p.2 == q.2) := by decide

theorem snd_is (_S : Sta C h₀ L σ tp ce ex H m s.heap) {x y : Val} {vx vy : Value} {r : Bool} (hx : VRel C tp σ x vx) (hy : VRel C tp σ y vy) (e : isV x y = some r) : isSame vx vy = pure r := by
  unfold isV at e
  split at e
  · rename_i i j
    cases e
    cases hx with
    | ty h1 =>
      cases hy with
      | ty h2 =>
        rw [tyTab_inj _ (lookup_mem h1) _ (lookup_mem h2)]
        rename_i n1 n2
        show (pure (Value.type n1 == Value.type n2) : Sem Bool) = pure (n1 == n2)
        congr 1
        by_cases e : n1 = n2
        · subst e; simp
        · rw [beq_eq_false_iff_ne.mpr e, beq_eq_false_iff_ne.mpr (fun q => e (Value.type.inj q))]
  · cases e; cases hx; cases hy; rfl
  · rename_i x hne
    cases e
    cases hy
    rw [isSame_none]
    cases hx <;> first | rfl | exact absurd rfl hne | (exfalso; apply hne; rfl)
  · cases e

theorem snd_in (S : Sta C h₀ L σ tp ce ex H m s.heap) (a : Act C A h₀ L envF d) {x y : Val} {vx vy : Value} {r : Bool} (hx : VRel C tp σ x vx) (hy : VRel C tp σ y vy) (e : isIn H x y = some r) {Q : Value → Shared → Prop} {E : Value → Shared → Prop} :
    (Q (.bool r) s → wpAny C.M A (compareOp .In vx vy) Q E s) ∧ (Q (.bool (!r)) s → wpAny C.M A (compareOp .NotIn vx vy) Q E s) := by
  have hu := a.units
  unfold isIn at e
  split at e
  · split at e
    · rename_i t _ c
      cases e
      cases hx with
      | str _ u _ =>
        cases hy with
        | str _ t' _ =>
          have hf := StrLaws.found_one ⟨t.toArray⟩ c
          simp only [] at hf
          refine ⟨fun h => in_str ?_, fun h => notIn_str ?_⟩
          · rw [show (⟨[c].toArray⟩ : Str) = ⟨#[c]⟩ from rfl, hf]
            exact h
          · rw [show (⟨[c].toArray⟩ : Str) = ⟨#[c]⟩ from rfl, hf]
            exact h
    · cases e
  · rename_i vs
    unfold anyEq at e
    split at e
    · rename_i ds dx e1 e2
      cases e
      obtain ⟨t, o, n, ws, rfl, ho, hc, hd, rr, _⟩ := S.tup a hy
      obtain ⟨as, ra, c1, d1⟩ := reads_all (reads_of S a 7) rr e1
      obtain ⟨bs, rb, c2, d2⟩ := reads_of S a 7 x vx dx hx e2
      have R : Reads s.heap (.ref t) (.tuple ds) as := .tuple ho hc hd (by simpa using ra)
      have hq : A.units + 1 + min (PyData.depthAll ds) dx.depth < cLine := by show _ < 9900; omega
      exact ⟨fun h => SeqAt.in_tuple_reads R rb c1 c2 hq h, fun h => SeqAt.notIn_tuple_reads R rb c1 c2 hq h⟩
    · cases e
  · rename_i i
    split at e
    · rename_i vs hvs
      unfold anyEq at e
      split at e
      · rename_i ds dx e1 e2
        cases e
        obtain ⟨t, ws, n, rfl, ho, rr, _⟩ := S.list hy hvs
        obtain ⟨as, ra, c1, d1⟩ := reads_all (reads_of S a 7) rr e1
        obtain ⟨bs, rb, c2, d2⟩ := reads_of S a 7 x vx dx hx e2
        have R : Reads s.heap (.ref t) (.list ds) (t :: as) := .list ho rfl rfl (by simpa using ra)
        have hq : A.units + 1 + min (PyData.depthAll ds) dx.depth < cLine := by show _ < 9900; omega
        exact ⟨fun h => SeqAt.in_list_reads R rb c1 c2 hq h, fun h => SeqAt.notIn_list_reads R rb c1 c2 hq h⟩
      · cases e
    · cases e
  · cases e

theorem cmp_lt {x y : Val} {r : Bool} (e : cmpop .lt x y H = some r) : ∃ a b, x = .int a ∧ y = .int b ∧ r = decide (a < b) := by
  cases x with
  | int a =>
    cases y with
    | int b => simp only [cmpop, Option.some.injEq] at e; exact ⟨a, b, rfl, rfl, e.symm⟩
    | _ => simp [cmpop] at e
  | _ => simp [cmpop] at e
theorem cmp_le {x y : Val} {r : Bool} (e : cmpop .le x y H = some r) : ∃ a b, x = .int a ∧ y = .int b ∧ r = decide (a ≤ b) := by
  cases x with
  | int a =>
    cases y with
    | int b => simp only [cmpop, Option.some.injEq] at e; exact ⟨a, b, rfl, rfl, e.symm⟩
    | _ => simp [cmpop] at e
  | _ => simp [cmpop] at e
theorem cmp_gt {x y : Val} {r : Bool} (e : cmpop .gt x y H = some r) : ∃ a b, x = .int a ∧ y = .int b ∧ r = decide (b < a) := by
  cases x with
  | int a =>
    cases y with
    | int b => simp only [cmpop, Option.some.injEq] at e; exact ⟨a, b, rfl, rfl, e.symm⟩
    | _ => simp [cmpop] at e
  | _ => simp [cmpop] at e
theorem cmp_ge {x y : Val} {r : Bool} (e : cmpop .ge x y H = some r) : ∃ a b, x = .int a ∧ y = .int b ∧ r = decide (b ≤ a) := by
  cases x with
  | int a =>
    cases y with
    | int b => simp only [cmpop, Option.some.injEq] at e; exact ⟨a, b, rfl, rfl, e.symm⟩
    | _ => simp [cmpop] at e
  | _ => simp [cmpop] at e
theorem snd_cmp {op : CmpOp} (S : Sta C h₀ L σ tp ce ex H m s.heap) (a : Act C A h₀ L envF d) {x y : Val} {vx vy : Value} {r : Bool} (hx : VRel C tp σ x vx) (hy : VRel C tp σ y vy) (e : cmpop (copOf op) x y H = some r) {Q : Value → Shared → Prop} {E : Value → Shared → Prop}
    (h : Q (.bool r) s) : wpAny C.M A (compareOp op vx vy) Q E s := by
  cases op with
  | Eq => exact snd_eq S a hx hy e h
  | NotEq =>
    simp only [copOf, cmpop] at e
    obtain ⟨q, hq, rfl⟩ := Option.map_eq_some_iff.mp e
    exact snd_ne S a hx hy hq h
  | Lt =>
    obtain ⟨p, q, rfl, rfl, rfl⟩ := cmp_lt e
    cases hx; cases hy; exact lt_int h
  | LtE =>
    obtain ⟨p, q, rfl, rfl, rfl⟩ := cmp_le e
    cases hx; cases hy; exact le_int h
  | Gt =>
    obtain ⟨p, q, rfl, rfl, rfl⟩ := cmp_gt e
    cases hx; cases hy; exact gt_int h
  | GtE =>
    obtain ⟨p, q, rfl, rfl, rfl⟩ := cmp_ge e
    cases hx; cases hy; exact ge_int h
  | In =>
    simp only [copOf, cmpop] at e
    exact (snd_in S a hx hy e).1 h
  | NotIn =>
    simp only [copOf, cmpop] at e
    obtain ⟨q, hq, rfl⟩ := Option.map_eq_some_iff.mp e
    exact (snd_in S a hx hy hq).2 h
  | Is =>
    simp only [copOf, cmpop] at e
    show wpAny C.M A (do return .bool (← isSame vx vy)) Q E s
    rw [snd_is S hx hy e]
    exact wpAny_bind (wpAny_pure (wpAny_pure h))
  | IsNot =>
    simp only [copOf, cmpop] at e
    obtain ⟨q, hq, rfl⟩ := Option.map_eq_some_iff.mp e
    show wpAny C.M A (do return .bool (!(← isSame vx vy))) Q E s
    rw [snd_is S hx hy hq]
    exact wpAny_bind (wpAny_pure (wpAny_pure h))
end
end Mi
namespace Mi
open PySem PySem.W PySem.Calls PyProof.Rows

/-- a test's soundness -/
def TSnd (C : Cfg) (d : Nat) (cx : CC) (e : Expr) (ir : Ex) : Prop :=
  ∀ (A : Around) (h₀ : Heap) (L : Addr) (envF env : Env) (ce ex : Led) (m mE : Str → Option Value) (fr : Frame) (σ : List Addr) (tp : Led) (H : MH) (s : Shared) (v : Val) (H' : MH) (b : Bool),
    Act C A h₀ L envF d → Blk cx env L ce ex m mE → FrOk C tp σ cx env ce mE fr → Sta C h₀ L σ tp ce ex H m s.heap → eval (C.cx d) fr ir H = some (v, H') → truthy H' v = some b →
    Brings C A h₀ L ce ex m (fun _ _ r a => a = r) (PySem.isTrue e env (PySem.eval e env)) σ tp s b H'

/-- arguments, items -/
def AsSnd (C : Cfg) (d : Nat) (cx : CC) (es : List Expr) (irs : List Ex) : Prop :=
  ∀ (A : Around) (h₀ : Heap) (L : Addr) (envF env : Env) (ce ex : Led) (m mE : Str → Option Value) (fr : Frame) (σ : List Addr) (tp : Led) (H : MH) (s : Shared) (vs : List Val) (H' : MH) (pos : Pos),
    Act C A h₀ L envF d → Blk cx env L ce ex m mE → FrOk C tp σ cx env ce mE fr → Sta C h₀ L σ tp ce ex H m s.heap → evals (C.cx d) fr irs H = some (vs, H') →
    Brings C A h₀ L ce ex m (VRS C) (spliced (backTo pos (starEach es env))) σ tp s vs H'

section
variable {C : Cfg} {A : Around} {h₀ : Heap} {L : Addr} {envF env : Env} {ce ex : Led} {m mE : Str → Option Value} {fr : Frame} {σ : List Addr} {tp : Led} {H : MH} {s : Shared} {d : Nat} {cx : CC}

theorem tsnd_plain {e : Expr} {ir : Ex} (h : ESnd C d cx e ir) (he : ∀ (env : Env) (whole : Sem Value), PySem.isTrue e env whole = (do let v ← whole; standAt e.pos; holding [v] (PySem.truthy v))) : TSnd C d cx e ir := by
  intro A h₀ L envF env ce ex m mE fr σ tp H s v H' b a B F S ev et Q E hq
  refine isTrue_plain (h A h₀ L envF env ce ex m mE fr σ tp H s v H' a B F S ev _ _ fun σ' tp' rv s' p1 p2 S' r sm => ?_) (he _ _)
  exact snd_truthy S' a r et fun tk => hq σ' tp' b { s' with toks := tk } p1 p2 S' rfl sm

theorem starEach_cons {e : Expr} {i : Ex} {rest : List Expr} (h : compE cx e = some i) : starEach (e :: rest) env = (false, PySem.eval e env) :: starEach rest env := by
  cases e <;> first | rfl | (simp [compE] at h)
theorem plain_args {pos : Pos} : ∀ {es : List Expr} {irs : List Ex}, compEs cx es = some irs → (backTo pos (starEach es env)).any (·.1) = false
  | [], _, _ => rfl
  | e :: r, irs, h => by
    simp only [compEs] at h
    split at h
    · rename_i i is e1 e2
      rw [starEach_cons e1]
      show (false || (backTo pos (starEach r env)).any (·.1)) = false
      rw [plain_args e2]; rfl
    · cases h
theorem compEs_length : ∀ {es : List Expr} {irs : List Ex}, compEs cx es = some irs → irs.length = es.length
  | [], _, h => by simp only [compEs] at h; cases h; rfl
  | e :: r, irs, h => by
    simp only [compEs] at h
    split at h
    · rename_i i is e1 e2
      cases h
      simp [compEs_length e2]
    · cases h
theorem evals_length {c : Cx} : ∀ {irs : List Ex} {H : MH} {vs : List Val} {H' : MH}, evals c fr irs H = some (vs, H') → vs.length = irs.length
  | [], _, _, _, h => by simp only [evals] at h; cases h; rfl
  | e :: r, H, vs, H', h => by
    simp only [evals] at h
    split at h
    · split at h
      · rename_i e2
        cases h
        simp [evals_length e2]
      · cases h
    · cases h

theorem snd_args : ∀ {es : List Expr} {irs : List Ex}, (∀ e ∈ es, ∀ i, compE cx e = some i → ESnd C d cx e i) → compEs cx es = some irs → AsSnd C d cx es irs
  | [], _, _, h => by
    intro A h₀ L envF env ce ex m mE fr σ tp H s vs H' pos a B F S ev Q E hq
    simp only [compEs] at h
    cases h
    simp only [evals] at ev
    cases ev
    exact args_nil (hq σ tp [] s (List.prefix_refl σ) (fun _ x => x) S .nil (Same.refl s))
  | e :: r, irs, he, h => by
    intro A h₀ L envF env ce ex m mE fr σ tp H s vs H' pos a B F S ev Q E hq
    simp only [compEs] at h
    split at h
    · rename_i i is e1 e2
      cases h
      simp only [evals] at ev
      split at ev
      · rename_i v h1 ev1
        split at ev
        · rename_i ws h2 ev2
          cases ev
          refine args_cons (he e (.head _) i e1 A h₀ L envF env ce ex m mE fr σ tp H s v h1 a B F S ev1 _ _ fun σ1 tp1 va s1 p1 p2 S1 r1 sm1 => ?_) (starEach_cons e1)
          exact snd_args (fun x hx => he x (.tail _ hx)) e2 A h₀ L envF env ce ex m mE fr σ1 tp1 h1 s1 ws _ pos a B (F.mono p2 p1) S1 ev2 _ _ fun σ2 tp2 vas s2 q1 q2 S2 r2 sm2 =>
            hq σ2 tp2 (va :: vas) s2 (p1.trans q1) (fun p hp => q2 p (p2 p hp)) S2 (.cons (r1.mono q2 q1) r2) (sm1.trans sm2)
        · cases ev
      · cases ev
    · cases h

/-- a new tuple -/
theorem Sta.newTup (S : Sta C h₀ L σ tp ce ex H m s.heap) {mvs : List Val} {vs : List Value} (r : VRels C tp σ mvs vs) (hl : mvs.length ≤ lim) :
    Sta C h₀ L σ ((s.heap.objs.size, ({ cls := .type "tuple", data := .seq vs.toArray } : Obj)) :: tp) ce ex H m (s.heap.push { cls := .type "tuple", data := .seq vs.toArray }) ∧
      VRel C ((s.heap.objs.size, ({ cls := .type "tuple", data := .seq vs.toArray } : Obj)) :: tp) σ (.tup mvs) (.ref s.heap.objs.size) := by
  obtain ⟨all, hn, _, g2, _⟩ := S.ledger
  exact ⟨g2 _ _ _ (S.fr.push _) (hn.push S.fr _) (Nat.le_refl _), .tup (.inl (.head _)) rfl rfl (r.mono (fun _ x => .tail _ x) (List.prefix_refl σ)) hl⟩

theorem snd_tuple {es : List Expr} {irs : List Ex} {k : Nat} {pos : Pos} (hes : AsSnd C d cx es irs) (hi : irs.length ≤ 1000) : ESnd C d cx (.Tuple es k pos) (.tup irs) := by
  intro A h₀ L envF env ce ex m mE fr σ tp H s v H' a B F S ev Q E hq
  simp only [eval] at ev
  split at ev
  · rename_i vs h1 ev1
    cases ev
    refine wpAny_Tuple (hes A h₀ L envF env ce ex m mE fr σ tp H s vs _ pos a B F S ev1 _ _ fun σ1 tp1 ws s1 p1 p2 S1 r1 sm => ?_)
    have hl : vs.length ≤ lim := by rw [evals_length ev1]; exact Nat.le_trans hi (by decide)
    refine ⟨by rw [← r1.length]; exact Nat.le_trans hl lim_line, ?_⟩
    obtain ⟨S2, r2⟩ := S1.newTup r1 hl
    exact hq σ1 _ _ { s1 with heap := _ } p1 (fun p hp => .tail _ (p2 p hp)) S2 r2 sm
  · cases ev

theorem snd_list {es : List Expr} {irs : List Ex} {pos : Pos} (hes : AsSnd C d cx es irs) (hi : irs.length ≤ 1000) : ESnd C d cx (.List es pos) (.list irs) := by
  intro A h₀ L envF env ce ex m mE fr σ tp H s v H' a B F S ev Q E hq
  simp only [eval] at ev
  split at ev
  · rename_i vs h1 ev1
    simp only [alloc] at ev
    cases ev
    refine wpAny_List (hes A h₀ L envF env ce ex m mE fr σ tp H s vs _ pos a B F S ev1 _ _ fun σ1 tp1 ws s1 p1 p2 S1 r1 sm => ?_)
    have hl : vs.length ≤ lim := by rw [evals_length ev1]; exact Nat.le_trans hi (by decide)
    refine ⟨by rw [← r1.length]; exact Nat.le_trans hl lim_line, ?_⟩
    obtain ⟨all, hn, g1, _, _⟩ := S1.ledger
    obtain ⟨os, he, _, _⟩ := S1.os
    refine hq (σ1 ++ [s1.heap.objs.size]) tp1 _ { s1 with heap := _ } (p1.trans (List.prefix_append σ1 _)) p2 ?_ (.ref ?_) sm
    · exact g1 _ (.list vs) [(s1.heap.objs.size, listOf ws.toArray 0)] _ (.list (r1.mono (fun _ x => x) (List.prefix_append σ1 _)) hl) (S1.fr.push _) (hn.push S1.fr _) (fun p hp => by rw [List.mem_singleton.mp hp]; exact Nat.le_refl _) (Nat.le_refl _) (by simp)
    · rw [← he.length]; simp
  · cases ev

theorem sub_plain {sl : Expr} {i : Ex} {o k : Value} (h : compE cx sl = some i) : subscripted sl false o k = operate [o, k] (getItem o k) := by
  cases sl <;> first | rfl | (simp [compE] at h)

theorem snd_tail {value sl : Expr} {i : Ex} (hsl : compE cx sl = some i) (S : Sta C h₀ L σ tp ce ex H m s.heap) (a : Act C A h₀ L envF d) {x y v : Val} {vx vy : Value} (hx : VRel C tp σ x vx) (hy : VRel C tp σ y vy) (e : subscr H x y = some v) {Q : Value → Shared → Prop} {E : Value → Shared → Prop}
    (h : ∀ rv, VRel C tp σ v rv → Q rv s) : wpAny C.M A (subscriptTail value sl vx vy) Q E s := by
  unfold subscr at e
  split at e
  · rename_i vs
    obtain ⟨j, hj, e⟩ := Option.bind_eq_some_iff.mp e
    unfold idx at hj
    split at hj
    · split at hj
      · rename_i k hk
        cases hj
        cases hy with
        | int _ t =>
          obtain ⟨b, o, n, ws, rfl, ho, hc, hd, rr, hl⟩ := S.tup a hx
          obtain ⟨rv, hr, hv⟩ := rr.get e
          have hl' := lim63 hl
          have hl2 := rr.length
          refine item_tupleT (l := ws) ⟨o, ho, hc, n, hd⟩ (by omega) (by omega) (j := k.toNat) ?_ hr (h rv hv) (sub_plain hsl)
          unfold seqIndex?
          have h0 : ¬ k < 0 := by omega
          simp only [if_neg h0]
          rw [if_pos (by rw [Bool.and_eq_true, decide_eq_true_eq, decide_eq_true_eq]; omega)]
      · cases hj
    · cases hj
  · rename_i vs
    obtain ⟨j, hj, e⟩ := Option.bind_eq_some_iff.mp e
    unfold idx at hj
    split at hj
    · split at hj
      · rename_i k hk
        cases hj
        cases hy with
        | int _ t =>
          cases hx with
          | @fl b o n _ ws hK hc hd rr hl =>
            obtain ⟨rv, hr, hv⟩ := rr.get e
            have hl' := lim63 hl
            have hL : s.heap.IsList b ws.toArray := ⟨o, S.kIn a _ _ hK, hc, n, hd⟩
            exact tail_any hL.typeIs slot_list_getitem.lookup (wpAny_getItem_list hL (by omega) (by omega) (by simpa using hr) (h rv hv)) (sub_plain hsl)
      · cases hj
    · cases hj
  · rename_i r
    split at e
    · rename_i vs hvs
      obtain ⟨j, hj, e⟩ := Option.bind_eq_some_iff.mp e
      unfold idx at hj
      split at hj
      · split at hj
        · rename_i k hk
          cases hj
          cases hy with
          | int _ t =>
            obtain ⟨b, ws, n, rfl, ho, rr, hl⟩ := S.list hx hvs
            obtain ⟨rv, hr, hv⟩ := rr.get e
            have hl' := lim63 hl
            have hL : s.heap.IsList b ws.toArray := ⟨_, ho, rfl, n, rfl⟩
            exact tail_any hL.typeIs slot_list_getitem.lookup (wpAny_getItem_list hL (by omega) (by omega) (by simpa using hr) (h rv hv)) (sub_plain hsl)
        · cases hj
      · cases hj
    · cases e
  · cases e

theorem snd_sub {v sl : Expr} {ie ii : Ex} {pos : Pos} (hv : ESnd C d cx v ie) (hi : ESnd C d cx sl ii) (hsl : compE cx sl = some ii) : ESnd C d cx (.Subscript v sl pos) (.sub ie ii) := by
  intro A h₀ L envF env ce ex m mE fr σ tp H s r H' a B F S ev Q E hq
  simp only [eval] at ev
  split at ev
  · rename_i x h1 ev1
    split at ev
    · rename_i y h2 ev2
      split at ev
      · rename_i w ev3
        cases ev
        refine Subscript_ (hv A h₀ L envF env ce ex m mE fr σ tp H s x h1 a B F S ev1 _ _ fun σ1 tp1 vx s1 p1 p2 S1 r1 sm1 => ?_)
        refine hi A h₀ L envF env ce ex m mE fr σ1 tp1 h1 s1 y _ a B (F.mono p2 p1) S1 ev2 _ _ fun σ2 tp2 vy s2 q1 q2 S2 r2 sm2 => ?_
        exact snd_tail hsl S2 a (r1.mono q2 q1) r2 ev3 fun rv hr => hq σ2 tp2 rv s2 (p1.trans q1) (fun p hp => q2 p (p2 p hp)) S2 hr (sm1.trans sm2)
      · cases ev
    · cases ev
  · cases ev

theorem marks_plain {op : CmpOp} {r : Expr} {i : Ex} (h : compE cx r = some i) : behindInMarks op r = false := by
  cases r <;> first | rfl | (simp [compE] at h)

theorem snd_compare {l r : Expr} {op : CmpOp} {il ir : Ex} {pos : Pos} (hl : ESnd C d cx l il) (hr : ESnd C d cx r ir) (hm : compE cx r = some ir) : ESnd C d cx (.Compare l [op] [r] pos) (.cmp (copOf op) il ir) := by
  intro A h₀ L envF env ce ex m mE fr σ tp H s v H' a B F S ev Q E hq
  simp only [eval] at ev
  split at ev
  · rename_i x h1 ev1
    split at ev
    · rename_i y h2 ev2
      split at ev
      · rename_i w ev3
        cases ev
        refine wpAny_Compare1 (hl A h₀ L envF env ce ex m mE fr σ tp H s x h1 a B F S ev1 _ _ fun σ1 tp1 vx s1 p1 p2 S1 r1 sm1 => ?_) (marks_plain hm)
        refine hr A h₀ L envF env ce ex m mE fr σ1 tp1 h1 s1 y _ a B (F.mono p2 p1) S1 ev2 _ _ fun σ2 tp2 vy s2 q1 q2 S2 r2 sm2 => ?_
        exact snd_cmp S2 a (r1.mono q2 q1) r2 ev3 (hq σ2 tp2 _ s2 (p1.trans q1) (fun p hp => q2 p (p2 p hp)) S2 (.bool w) (sm1.trans sm2))
      · cases ev
    · cases ev
  · cases ev

theorem tsnd_compare {l r : Expr} {op : CmpOp} {il ir : Ex} {pos : Pos} (hl : ESnd C d cx l il) (hr : ESnd C d cx r ir) (hm : compE cx r = some ir) : TSnd C d cx (.Compare l [op] [r] pos) (.cmp (copOf op) il ir) := by
  intro A h₀ L envF env ce ex m mE fr σ tp H s v H' b a B F S ev et Q E hq
  simp only [eval] at ev
  split at ev
  · rename_i x h1 ev1
    split at ev
    · rename_i y h2 ev2
      split at ev
      · rename_i w ev3
        cases ev
        simp only [truthy] at et
        cases et
        refine wpAny_isTrue_Compare1 (hl A h₀ L envF env ce ex m mE fr σ tp H s x h1 a B F S ev1 _ _ fun σ1 tp1 vx s1 p1 p2 S1 r1 sm1 => ?_) (marks_plain hm)
        refine hr A h₀ L envF env ce ex m mE fr σ1 tp1 h1 s1 y _ a B (F.mono p2 p1) S1 ev2 _ _ fun σ2 tp2 vy s2 q1 q2 S2 r2 sm2 => ?_
        exact snd_cmp S2 a (r1.mono q2 q1) r2 ev3 (wpAny_truthy_bool (hq σ2 tp2 _ s2 (p1.trans q1) (fun p hp => q2 p (p2 p hp)) S2 rfl (sm1.trans sm2)))
      · cases ev
    · cases ev
  · cases ev

theorem snd_not {x : Expr} {ix : Ex} {pos : Pos} (hx : ESnd C d cx x ix) : ESnd C d cx (.UnaryOp .Not x pos) (.not ix) := by
  intro A h₀ L envF env ce ex m mE fr σ tp H s v H' a B F S ev Q E hq
  simp only [eval] at ev
  split at ev
  · rename_i y h1 ev1
    split at ev
    · rename_i w ev2
      cases ev
      show wpAny C.M A (do let v ← PySem.eval x env; standAt pos; holding [v] (unaryOp .Not v)) Q E s
      refine wpAny_bind (hx A h₀ L envF env ce ex m mE fr σ tp H s y _ a B F S ev1 _ _ fun σ1 tp1 vx s1 p1 p2 S1 r1 sm1 => ?_)
      refine wpAny_bind (wpAny_standAt (wpAny_holding ?_))
      exact not_value (snd_truthy S1 a r1 ev2 fun tk => hq σ1 tp1 _ { s1 with toks := tk } p1 p2 S1 (.bool _) sm1)
    · cases ev
  · cases ev
theorem tsnd_not {x : Expr} {ix : Ex} {pos : Pos} (hx : TSnd C d cx x ix) : TSnd C d cx (.UnaryOp .Not x pos) (.not ix) := by
  intro A h₀ L envF env ce ex m mE fr σ tp H s v H' b a B F S ev et Q E hq
  simp only [eval] at ev
  split at ev
  · rename_i y h1 ev1
    split at ev
    · rename_i w ev2
      cases ev
      simp only [truthy] at et
      cases et
      refine isTrue_not (hx A h₀ L envF env ce ex m mE fr σ tp H s y _ w a B F S ev1 ev2 _ _ fun σ1 tp1 c s1 p1 p2 S1 r1 sm1 => ?_)
      subst r1
      exact hq σ1 tp1 _ s1 p1 p2 S1 rfl sm1
    · cases ev
  · cases ev

theorem snd_ite {t x y : Expr} {it ix iy : Ex} {pos : Pos} (ht : TSnd C d cx t it) (hx : ESnd C d cx x ix) (hy : ESnd C d cx y iy) : ESnd C d cx (.IfExp t x y pos) (.ite it ix iy) := by
  intro A h₀ L envF env ce ex m mE fr σ tp H s v H' a B F S ev Q E hq
  simp only [eval] at ev
  split at ev
  · rename_i w h1 ev1
    show wpAny C.M A (do if ← PySem.isTrue t env (PySem.eval t env) then PySem.eval x env else PySem.eval y env) Q E s
    split at ev
    · rename_i ev2
      refine wpAny_bind (ht A h₀ L envF env ce ex m mE fr σ tp H s w h1 true a B F S ev1 ev2 _ _ fun σ1 tp1 c s1 p1 p2 S1 r1 sm1 => ?_)
      subst r1
      exact hx A h₀ L envF env ce ex m mE fr σ1 tp1 h1 s1 v H' a B (F.mono p2 p1) S1 ev _ _ fun σ2 tp2 rv s2 q1 q2 S2 r2 sm2 => hq σ2 tp2 rv s2 (p1.trans q1) (fun p hp => q2 p (p2 p hp)) S2 r2 (sm1.trans sm2)
    · rename_i ev2
      refine wpAny_bind (ht A h₀ L envF env ce ex m mE fr σ tp H s w h1 false a B F S ev1 ev2 _ _ fun σ1 tp1 c s1 p1 p2 S1 r1 sm1 => ?_)
      subst r1
      exact hy A h₀ L envF env ce ex m mE fr σ1 tp1 h1 s1 v H' a B (F.mono p2 p1) S1 ev _ _ fun σ2 tp2 rv s2 q1 q2 S2 r2 sm2 => hq σ2 tp2 rv s2 (p1.trans q1) (fun p hp => q2 p (p2 p hp)) S2 r2 (sm1.trans sm2)
    · cases ev
  · cases ev
theorem tsnd_ite {t x y : Expr} {it ix iy : Ex} {pos : Pos} (ht : TSnd C d cx t it) (hx : TSnd C d cx x ix) (hy : TSnd C d cx y iy) : TSnd C d cx (.IfExp t x y pos) (.ite it ix iy) := by
  intro A h₀ L envF env ce ex m mE fr σ tp H s v H' b a B F S ev et Q E hq
  simp only [eval] at ev
  split at ev
  · rename_i w h1 ev1
    split at ev
    · rename_i ev2
      refine isTrue_IfExp (ht A h₀ L envF env ce ex m mE fr σ tp H s w h1 true a B F S ev1 ev2 _ _ fun σ1 tp1 c s1 p1 p2 S1 r1 sm1 => ?_)
      subst r1
      exact hx A h₀ L envF env ce ex m mE fr σ1 tp1 h1 s1 v H' b a B (F.mono p2 p1) S1 ev et _ _ fun σ2 tp2 rv s2 q1 q2 S2 r2 sm2 => hq σ2 tp2 rv s2 (p1.trans q1) (fun p hp => q2 p (p2 p hp)) S2 r2 (sm1.trans sm2)
    · rename_i ev2
      refine isTrue_IfExp (ht A h₀ L envF env ce ex m mE fr σ tp H s w h1 false a B F S ev1 ev2 _ _ fun σ1 tp1 c s1 p1 p2 S1 r1 sm1 => ?_)
      subst r1
      exact hy A h₀ L envF env ce ex m mE fr σ1 tp1 h1 s1 v H' b a B (F.mono p2 p1) S1 ev et _ _ fun σ2 tp2 rv s2 q1 q2 S2 r2 sm2 => hq σ2 tp2 rv s2 (p1.trans q1) (fun p hp => q2 p (p2 p hp)) S2 r2 (sm1.trans sm2)
    · cases ev
  · cases ev
end
end Mi
namespace Mi
open PySem PySem.W PySem.Calls PyProof.Rows
section
variable {C : Cfg} {A : Around} {h₀ : Heap} {L : Addr} {envF env : Env} {ce ex : Led} {m mE : Str → Option Value} {fr : Frame} {σ : List Addr} {tp : Led} {H : MH} {s : Shared} {d : Nat} {cx : CC}

theorem brings_and {pos : Pos} : ∀ {es : List Expr} {irs : List Ex}, (∀ e ∈ es, ∀ i, compE cx e = some i → ESnd C d cx e i) → compEs cx es = some irs →
    ∀ {fr : Frame} {σ : List Addr} {tp : Led} {H : MH} {s : Shared} {v : Val} {H' : MH}, Act C A h₀ L envF d → Blk cx env L ce ex m mE → FrOk C tp σ cx env ce mE fr → Sta C h₀ L σ tp ce ex H m s.heap → evalAnd (C.cx d) fr irs H = some (v, H') →
    Brings C A h₀ L ce ex m (VR C) (boolOp pos .And (evalEach es env)) σ tp s v H'
  | [], _, _, h, fr, σ, tp, H, s, v, H', a, B, F, S, ev => by
    simp only [compEs] at h
    cases h
    simp [evalAnd] at ev
  | [e], irs, he, h, fr, σ, tp, H, s, v, H', a, B, F, S, ev => by
    simp only [compEs] at h
    split at h
    · rename_i i is e1 e2
      cases h
      cases e2
      simp only [evalAnd] at ev
      split at ev
      · rename_i ev1
        cases ev
        exact he e (.head _) i e1 A h₀ L envF env ce ex m mE fr σ tp H s _ _ a B F S ev1
      · cases ev
    · cases h
  | e :: e' :: r, irs, he, h, fr, σ, tp, H, s, v, H', a, B, F, S, ev => by
    rw [compEs] at h
    split at h
    · rename_i i is e1 e2
      cases h
      have hne : is ≠ [] := fun q => by
        subst q
        have := compEs_length e2
        simp at this
      obtain ⟨i2, is2, rfl⟩ := List.exists_cons_of_ne_nil hne
      rw [evalAnd] at ev
      split at ev
      · rename_i w h1 ev1
        intro Q E hq
        show wpAny C.M A (do
          let v ← PySem.eval e env
          standAt pos
          let t ← holding [v] (PySem.truthy v)
          match BoolOp.And, t with
          | .And, false | .Or, true => pure v
          | _, _ => boolOp pos .And (evalEach (e' :: r) env)) Q E s
        refine wpAny_bind (he e (.head _) i e1 A h₀ L envF env ce ex m mE fr σ tp H s w h1 a B F S ev1 _ _ fun σ1 tp1 vx s1 p1 p2 S1 r1 sm1 => ?_)
        refine wpAny_bind (wpAny_standAt (wpAny_bind (wpAny_holding ?_)))
        dsimp only at ev
        split at ev
        · rename_i et
          refine snd_truthy S1 a r1 et fun tk => ?_
          exact brings_and (fun x hx => he x (.tail _ hx)) e2 a B (F.mono p2 p1) (s := { s1 with toks := tk }) S1 ev _ _ fun σ2 tp2 rv s2 q1 q2 S2 r2 sm2 => hq σ2 tp2 rv s2 (p1.trans q1) (fun p hp => q2 p (p2 p hp)) S2 r2 (sm1.trans sm2)
        · rename_i et
          cases ev
          refine snd_truthy S1 a r1 et fun tk => ?_
          exact wpAny_pure (hq σ1 tp1 vx { s1 with toks := tk } p1 p2 S1 r1 sm1)
        · cases ev
      · cases ev
    · cases h

theorem brings_or {pos : Pos} : ∀ {es : List Expr} {irs : List Ex}, (∀ e ∈ es, ∀ i, compE cx e = some i → ESnd C d cx e i) → compEs cx es = some irs →
    ∀ {fr : Frame} {σ : List Addr} {tp : Led} {H : MH} {s : Shared} {v : Val} {H' : MH}, Act C A h₀ L envF d → Blk cx env L ce ex m mE → FrOk C tp σ cx env ce mE fr → Sta C h₀ L σ tp ce ex H m s.heap → evalOr (C.cx d) fr irs H = some (v, H') →
    Brings C A h₀ L ce ex m (VR C) (boolOp pos .Or (evalEach es env)) σ tp s v H'
  | [], _, _, h, fr, σ, tp, H, s, v, H', a, B, F, S, ev => by
    simp only [compEs] at h
    cases h
    simp [evalOr] at ev
  | [e], irs, he, h, fr, σ, tp, H, s, v, H', a, B, F, S, ev => by
    simp only [compEs] at h
    split at h
    · rename_i i is e1 e2
      cases h
      cases e2
      simp only [evalOr] at ev
      split at ev
      · rename_i ev1
        cases ev
        exact he e (.head _) i e1 A h₀ L envF env ce ex m mE fr σ tp H s _ _ a B F S ev1
      · cases ev
    · cases h
  | e :: e' :: r, irs, he, h, fr, σ, tp, H, s, v, H', a, B, F, S, ev => by
    rw [compEs] at h
    split at h
    · rename_i i is e1 e2
      cases h
      have hne : is ≠ [] := fun q => by
        subst q
        have := compEs_length e2
        simp at this
      obtain ⟨i2, is2, rfl⟩ := List.exists_cons_of_ne_nil hne
      rw [evalOr] at ev
      split at ev
      · rename_i w h1 ev1
        intro Q E hq
        show wpAny C.M A (do
          let v ← PySem.eval e env
          standAt pos
          let t ← holding [v] (PySem.truthy v)
          match BoolOp.Or, t with
          | .And, false | .Or, true => pure v
          | _, _ => boolOp pos .Or (evalEach (e' :: r) env)) Q E s
        refine wpAny_bind (he e (.head _) i e1 A h₀ L envF env ce ex m mE fr σ tp H s w h1 a B F S ev1 _ _ fun σ1 tp1 vx s1 p1 p2 S1 r1 sm1 => ?_)
        refine wpAny_bind (wpAny_standAt (wpAny_bind (wpAny_holding ?_)))
        dsimp only at ev
        split at ev
        · rename_i et
          refine snd_truthy S1 a r1 et fun tk => ?_
          exact brings_or (fun x hx => he x (.tail _ hx)) e2 a B (F.mono p2 p1) (s := { s1 with toks := tk }) S1 ev _ _ fun σ2 tp2 rv s2 q1 q2 S2 r2 sm2 => hq σ2 tp2 rv s2 (p1.trans q1) (fun p hp => q2 p (p2 p hp)) S2 r2 (sm1.trans sm2)
        · rename_i et
          cases ev
          refine snd_truthy S1 a r1 et fun tk => ?_
          exact wpAny_pure (hq σ1 tp1 vx { s1 with toks := tk } p1 p2 S1 r1 sm1)
        · cases ev
      · cases ev
    · cases h

theorem test_and : ∀ {es : List Expr} {irs : List Ex}, (∀ e ∈ es, ∀ i, compE cx e = some i → TSnd C d cx e i) → compEs cx es = some irs →
    ∀ {fr : Frame} {σ : List Addr} {tp : Led} {H : MH} {s : Shared} {v : Val} {H' : MH} {b : Bool}, Act C A h₀ L envF d → Blk cx env L ce ex m mE → FrOk C tp σ cx env ce mE fr → Sta C h₀ L σ tp ce ex H m s.heap → evalAnd (C.cx d) fr irs H = some (v, H') → truthy H' v = some b →
    Brings C A h₀ L ce ex m (fun _ _ r a => a = r) (allTrue .And es env) σ tp s b H'
  | [], _, _, h, fr, σ, tp, H, s, v, H', b, a, B, F, S, ev, et => by
    simp only [compEs] at h
    cases h
    simp [evalAnd] at ev
  | e :: r, irs, he, h, fr, σ, tp, H, s, v, H', b, a, B, F, S, ev, et => by
    rw [compEs] at h
    split at h
    · rename_i i is e1 e2
      cases h
      rw [evalAnd] at ev
      split at ev
      · rename_i w h1 ev1
        intro Q E hq
        refine wpAny_allTrue_And_cons ?_
        cases is with
        | nil =>
          dsimp only at ev
          cases ev
          have hr : r = [] := by
            have := compEs_length e2
            exact List.length_eq_zero_iff.mp (by simpa using this.symm)
          subst hr
          refine he e (.head _) i e1 A h₀ L envF env ce ex m mE fr σ tp H s _ _ b a B F S ev1 et _ _ fun σ1 tp1 c s1 p1 p2 S1 r1 sm1 => ?_
          subst r1
          cases c with
          | true => exact wpAny_allTrue_And_nil (hq σ1 tp1 _ s1 p1 p2 S1 rfl sm1)
          | false => exact hq σ1 tp1 _ s1 p1 p2 S1 rfl sm1
        | cons i2 is2 =>
          dsimp only at ev
          split at ev
          · rename_i et1
            refine he e (.head _) i e1 A h₀ L envF env ce ex m mE fr σ tp H s w h1 true a B F S ev1 et1 _ _ fun σ1 tp1 c s1 p1 p2 S1 r1 sm1 => ?_
            subst r1
            exact test_and (fun x hx => he x (.tail _ hx)) e2 a B (F.mono p2 p1) S1 ev et _ _ fun σ2 tp2 rv s2 q1 q2 S2 r2 sm2 => hq σ2 tp2 rv s2 (p1.trans q1) (fun p hp => q2 p (p2 p hp)) S2 r2 (sm1.trans sm2)
          · rename_i et1
            cases ev
            rw [et1] at et
            cases et
            refine he e (.head _) i e1 A h₀ L envF env ce ex m mE fr σ tp H s _ _ false a B F S ev1 et1 _ _ fun σ1 tp1 c s1 p1 p2 S1 r1 sm1 => ?_
            subst r1
            exact hq σ1 tp1 _ s1 p1 p2 S1 rfl sm1
          · cases ev
      · cases ev
    · cases h

theorem test_or : ∀ {es : List Expr} {irs : List Ex}, (∀ e ∈ es, ∀ i, compE cx e = some i → TSnd C d cx e i) → compEs cx es = some irs →
    ∀ {fr : Frame} {σ : List Addr} {tp : Led} {H : MH} {s : Shared} {v : Val} {H' : MH} {b : Bool}, Act C A h₀ L envF d → Blk cx env L ce ex m mE → FrOk C tp σ cx env ce mE fr → Sta C h₀ L σ tp ce ex H m s.heap → evalOr (C.cx d) fr irs H = some (v, H') → truthy H' v = some b →
    Brings C A h₀ L ce ex m (fun _ _ r a => a = r) (allTrue .Or es env) σ tp s b H'
  | [], _, _, h, fr, σ, tp, H, s, v, H', b, a, B, F, S, ev, et => by
    simp only [compEs] at h
    cases h
    simp [evalOr] at ev
  | e :: r, irs, he, h, fr, σ, tp, H, s, v, H', b, a, B, F, S, ev, et => by
    rw [compEs] at h
    split at h
    · rename_i i is e1 e2
      cases h
      rw [evalOr] at ev
      split at ev
      · rename_i w h1 ev1
        intro Q E hq
        refine wpAny_allTrue_Or_cons ?_
        cases is with
        | nil =>
          dsimp only at ev
          cases ev
          have hr : r = [] := by
            have := compEs_length e2
            exact List.length_eq_zero_iff.mp (by simpa using this.symm)
          subst hr
          refine he e (.head _) i e1 A h₀ L envF env ce ex m mE fr σ tp H s _ _ b a B F S ev1 et _ _ fun σ1 tp1 c s1 p1 p2 S1 r1 sm1 => ?_
          subst r1
          cases c with
          | true => exact hq σ1 tp1 _ s1 p1 p2 S1 rfl sm1
          | false => exact wpAny_allTrue_Or_nil (hq σ1 tp1 _ s1 p1 p2 S1 rfl sm1)
        | cons i2 is2 =>
          dsimp only at ev
          split at ev
          · rename_i et1
            refine he e (.head _) i e1 A h₀ L envF env ce ex m mE fr σ tp H s w h1 false a B F S ev1 et1 _ _ fun σ1 tp1 c s1 p1 p2 S1 r1 sm1 => ?_
            subst r1
            exact test_or (fun x hx => he x (.tail _ hx)) e2 a B (F.mono p2 p1) S1 ev et _ _ fun σ2 tp2 rv s2 q1 q2 S2 r2 sm2 => hq σ2 tp2 rv s2 (p1.trans q1) (fun p hp => q2 p (p2 p hp)) S2 r2 (sm1.trans sm2)
          · rename_i et1
            cases ev
            rw [et1] at et
            cases et
            refine he e (.head _) i e1 A h₀ L envF env ce ex m mE fr σ tp H s _ _ true a B F S ev1 et1 _ _ fun σ1 tp1 c s1 p1 p2 S1 r1 sm1 => ?_
            subst r1
            exact hq σ1 tp1 _ s1 p1 p2 S1 rfl sm1
          · cases ev
      · cases ev
    · cases h
end
end Mi
namespace Mi
open PySem PySem.W PySem.Calls PyProof.Rows

/-! names as numbers are names -/
def encL (l : List Nat) : Nat := l.foldl (fun a c => a * 256 + c) 0
theorem encL_snoc (l : List Nat) (c : Nat) : encL (l ++ [c]) = encL l * 256 + c := by simp [encL, List.foldl_append]
theorem encL_inj : ∀ (n : Nat) (l l' : List Nat), l.length ≤ n → (∀ c ∈ l, 1 ≤ c ∧ c ≤ 255) → (∀ c ∈ l', 1 ≤ c ∧ c ≤ 255) → encL l = encL l' → l = l' := by
  intro n
  induction n with
  | zero =>
    intro l l' hl h h' e
    have : l = [] := List.length_eq_zero_iff.mp (Nat.le_zero.mp hl)
    subst this
    rcases List.eq_nil_or_concat l' with rfl | ⟨r, c, rfl⟩
    · rfl
    · rw [List.concat_eq_append, encL_snoc] at e
      have := h' c (by simp)
      simp only [encL, List.foldl_nil] at e
      omega
  | succ n ih =>
    intro l l' hl h h' e
    rcases List.eq_nil_or_concat l with rfl | ⟨r, c, rfl⟩
    · rcases List.eq_nil_or_concat l' with rfl | ⟨r', c', rfl⟩
      · rfl
      · rw [List.concat_eq_append, encL_snoc] at e
        have := h' c' (by simp)
        simp only [encL, List.foldl_nil] at e
        omega
    · rcases List.eq_nil_or_concat l' with rfl | ⟨r', c', rfl⟩
      · rw [List.concat_eq_append, encL_snoc] at e
        have := h c (by simp)
        simp only [encL, List.foldl_nil] at e
        omega
      · rw [List.concat_eq_append, List.concat_eq_append, encL_snoc, encL_snoc] at e
        have hc := h c (by simp)
        have hc' := h' c' (by simp)
        have e1 : c = c' := by omega
        have e2 : encL r = encL r' := by omega
        subst e1
        have := ih r r' (by simp at hl; omega) (fun x hx => h x (by simp [hx])) (fun x hx => h' x (by simp [hx])) e2
        rw [this]
theorem enc_inj {x y : Str} (hx : nameOk x = true) (hy : nameOk y = true) (e : enc x = enc y) : x = y := by
  have hd : ∀ z : Str, nameOk z = true → ∀ c ∈ z.cps.toList, 1 ≤ c ∧ c ≤ 255 := by
    intro z hz c hc
    unfold nameOk at hz
    simp only [Bool.and_eq_true, List.all_eq_true, decide_eq_true_eq] at hz
    exact hz.1.1.1.1 c hc
  have := encL_inj _ x.cps.toList y.cps.toList (Nat.le_refl _) (hd x hx) (hd y hy) e
  cases x; cases y
  simp only [Str.mk.injEq]
  exact Array.toList_inj.mp this

/-! what the tables must say -/
structure InstFact (C : Cfg) (id c : Nat) : Prop where
  at_ : ∃ a ca dx n, C.ad.lookup id = some a ∧ C.ad.lookup c = some ca ∧ C.K.lookup a = some ⟨.ref ca, some dx, .plain, #[]⟩ ∧ C.K.lookup dx = some (dictOf [] n)
structure AttrFact (C : Cfg) (c n : Nat) (v : Val) : Prop where
  at_ : ∃ ca name av, C.ad.lookup c = some ca ∧ nameOk name = true ∧ enc name = n ∧ plainGet C.K ca name = true ∧ hasDictIn C.K ca = true ∧ findIn C.K (.ref ca) name = some (some av) ∧ (∀ tp σ, VRel C tp σ v av) ∧
    (isFnV C.P v = true → isFn C.K av = true) ∧ (isFnV C.P v = false → specialIn C.K av "__get__" = some none ∧ handedIn av = true ∧ copiedNames.contains name = false)
/-- a def of the top -/
structure FnFact (C : Cfg) (gl : List (Str × Val)) (f : Fn) : Prop where
  at_ : ∃ a name qual params body scope dV kV doc pm an cdv ct oc od osl, C.ad.lookup f.addr = some a ∧ C.K.lookup a = some ⟨oc, od, .func (fnOf name qual params body scope dV kV doc pm an cdv ct), osl⟩ ∧
    codeIn C.K cdv qual = true ∧ compFn gl params body scope = some (f.np, f.ns, f.body) ∧ f.dfl = [] ∧ keepIn C.K (.ref a) = true ∧
    (∀ vs : List Value, vs.length = f.np → ∀ s, BindsTo s (fnOf name qual params body scope dV kV doc pm an cdv ct) ⟨vs, []⟩ ((params.args.map (·.arg)).zip vs)) ∧
    (params.args.map (·.arg)).Nodup ∧ (params.args.map (·.arg)).length = f.np ∧ (∀ x ∈ scope.names, x.2 ≠ .cell)
structure TabOk (C : Cfg) (gl : List (Str × Val)) : Prop where
  glob : GlOk C gl
  fns : ∀ a f, C.P.fnAt a = some f → f.addr = a ∧ FnFact C gl f
  insts : ∀ id c, C.P.instAt id = some c → InstFact C id c
  attrs : ∀ c n v, C.P.clsAttr c n = some v → AttrFact C c n v

section
variable {C : Cfg} {A : Around} {h₀ : Heap} {L : Addr} {envF env : Env} {ce ex : Led} {m mE : Str → Option Value} {fr : Frame} {σ : List Addr} {tp : Led} {H : MH} {s : Shared} {d : Nat} {cx : CC} {gl : List (Str × Val)}

theorem snd_getAttr (O : TabOk C gl) (S : Sta C h₀ L σ tp ce ex H m s.heap) (a : Act C A h₀ L envF d) {x v : Val} {vx : Value} {nm : Str} (hnm : nameOk nm = true) (hx : VRel C tp σ x vx) (e : getAttr C.P H x (enc nm) = some v) {Q : Value → Shared → Prop} {E : Value → Shared → Prop}
    (h : ∀ rv tk, VRel C tp σ v rv → Q rv { s with toks := tk }) : wpAny C.M A (PySem.getAttr vx nm true) Q E s := by
  unfold getAttr at e
  split at e
  · rename_i id
    obtain ⟨c, hc, e⟩ := Option.bind_eq_some_iff.mp e
    obtain ⟨w, hw, e⟩ := Option.bind_eq_some_iff.mp e
    split at e
    · cases e
    · rename_i hf
      cases e
      obtain ⟨xa, ca, dx, n, i1, i2, i3, i4⟩ := (O.insts _ _ hc).at_
      obtain ⟨ca', name, av, t1, t2, t3, t4, t5, t6, t7, t8, t9⟩ := (O.attrs _ _ _ hw).at_
      rw [i2] at t1; cases t1
      have := enc_inj t2 hnm t3
      subst this
      cases hx with
      | top hx =>
        rw [i1] at hx; cases hx
        obtain ⟨k1, k2, k3⟩ := t9 (by simpa using hf)
        exact get_cls S.fr a.k (InstAt.of_K (S.kIn a) i3 i4) t4 t5 t6 k1 k2 k3 rfl (h av _ (t7 tp σ))
  · cases e

theorem snd_getMeth (O : TabOk C gl) (S : Sta C h₀ L σ tp ce ex H m s.heap) (a : Act C A h₀ L envF d) {x : Val} {vx : Value} {nm : Str} {f : Nat} {self : List Val} {pl : Sem Bool} (hnm : nameOk nm = true) (hx : VRel C tp σ x vx) (e : getMeth C.P H x (enc nm) = some (f, self)) {Q : Value × List Value → Shared → Prop} {E : Value → Shared → Prop}
    (h : ∀ fa, C.ad.lookup f = some fa → self = [x] → Q (.ref fa, [vx]) s) : wpAny C.M A (PySem.getMethod vx nm pl) Q E s := by
  unfold getMeth at e
  split at e
  · rename_i id
    split at e
    · rename_i c hc
      split at e
      · rename_i g hw
        split at e
        · rename_i hf
          cases e
          obtain ⟨xa, ca, dx, n, i1, i2, i3, i4⟩ := (O.insts _ _ hc).at_
          obtain ⟨ca', name, av, t1, t2, t3, t4, t5, t6, t7, t8, t9⟩ := (O.attrs _ _ _ hw).at_
          rw [i2] at t1; cases t1
          have := enc_inj t2 hnm t3
          subst this
          cases hx with
          | top hx =>
            rw [i1] at hx; cases hx
            have t7' := t7 tp σ
            cases t7' with
            | top hg => exact method_inst S.fr a.k (InstAt.of_K (S.kIn a) i3 i4) t4 t6 (t8 hf) rfl (h _ hg rfl)
        · cases e
      · cases e
    · cases e
  · cases e

theorem base_plain {o : Expr} {attr : Str} {whole : Sem Value} (h : baseOk o = true) : attributeBase o attr env whole = whole := by
  cases o <;> first | rfl | skip
  rename_i f as ks pos
  cases as with
  | nil => simp [baseOk] at h
  | cons x r => cases f <;> rfl

theorem snd_attr (O : TabOk C gl) {v : Expr} {nm : Str} {iv : Ex} {pos : Pos} (hv : ESnd C d cx v iv) (hn : nameOk nm = true) (hb : baseOk v = true) : ESnd C d cx (.Attribute v nm pos) (.attr iv (enc nm)) := by
  intro A h₀ L envF env ce ex m mE fr σ tp H s r H' a B F S ev Q E hq
  simp only [eval] at ev
  split at ev
  · rename_i x h1 ev1
    split at ev
    · rename_i w ev2
      cases ev
      refine Attribute_any_ (hv A h₀ L envF env ce ex m mE fr σ tp H s x _ a B F S ev1 _ _ fun σ1 tp1 vx s1 p1 p2 S1 r1 sm1 => ?_) ?_
      · exact snd_getAttr O S1 a hn r1 ev2 fun rv tk hr => hq σ1 tp1 rv { s1 with toks := tk } p1 p2 S1 hr sm1
      · show (do
          let o ← attributeBase v nm env (PySem.eval v env)
          standAt pos.atName
          let r ← holding [o] (PySem.getAttr o nm true)
          letTemporaryGo v o r
          pure r) = _
        rw [base_plain hb]
    · cases ev
  · cases ev

theorem evalArgs_all {M : Model} {f : Value} {args : List (Bool × Sem Value)} {Q : Args → Shared → Prop} {E : Value → Shared → Prop} (hp : args.any (·.1) = false) (h : wpAny M A (spliced args) (fun vs s' => Q ⟨vs, []⟩ s') E s) : wpAny M A (evalArgs f true args []) Q E s := by
  cases args with
  | nil =>
    unfold evalArgs
    show wpAny M A (spliced [] >>= _) Q E s
    refine wpAny_bind (wpAny_mono h (fun vs s' h' => ?_) fun _ _ x => x)
    refine wpAny_holding ?_
    exact wpAny_bind (wpAny_pure (wpAny_bind (wpAny_pure (wpAny_pure h'))))
  | cons p r =>
    obtain ⟨b, x⟩ := p
    have hb : b = false := by
      cases b with
      | false => rfl
      | true => simp at hp
    subst hb
    exact evalArgs_plain h
theorem callWith_args {M : Model} {K : Frag} {pos : Pos} {f : Value} {first : List Value} {es : List Expr} {irs : List Ex} {Q : Value → Shared → Prop} {E : Value → Shared → Prop} (hk : keepIn K f = true) (hc : compEs cx es = some irs)
    (h : wpAny M A (spliced (backTo pos (starEach es env))) (fun vs s₁ => K.In s₁.heap ∧ wpAny M A (call f (first ++ vs)) Q E s₁) E s) : wpAny M A (callWith pos f first (backTo pos (starEach es env)) []) Q E s :=
  callWith_of (by rw [plain_args hc]; rfl) (keeps_K hk) (evalArgs_all (plain_args hc) h)

/-- a call's soundness -/
def CallSnd (C : Cfg) (d : Nat) : Prop :=
  ∀ (A : Around) (h₀ : Heap) (L : Addr) (envF : Env) (ce ex : Led) (m : Str → Option Value) (σ : List Addr) (tp : Led) (H : MH) (s : Shared) (f : Nat) (fa : Addr) (as : List Val) (vs : List Value) (v : Val) (H' : MH),
    Act C A h₀ L envF d → Sta C h₀ L σ tp ce ex H m s.heap → C.ad.lookup f = some fa → VRels C tp σ as vs → callN C.P fuel0 d f as H = some (v, H') →
    Brings C A h₀ L ce ex m (VR C) (call (.ref fa) vs) σ tp s v H'

theorem snd_len (S : Sta C h₀ L σ tp ce ex H m s.heap) (a : Act C A h₀ L envF d) {as : List Val} {vs : List Value} {v : Val} {H' : MH} (r : VRels C tp σ as vs) (e : biLen as H = some (v, H')) : Brings C A h₀ L ce ex m (VR C) (call (.builtin "len") vs) σ tp s v H' := by
  intro Q E hq
  unfold biLen at e
  split at e
  · rename_i x
    obtain ⟨k, hk, e⟩ := Option.map_eq_some_iff.mp e
    cases e
    cases r with
    | cons hx r =>
      cases r
      have q := fun t tk => hq σ tp (.int k t) { s with toks := tk } (List.prefix_refl σ) (fun _ x => x) S (.int _ _) ⟨rfl, rfl⟩
      cases x with
      | str l =>
        cases hk
        cases hx with
        | str _ t ok =>
          have hl : (⟨l.toArray⟩ : Str).length = l.length := by show Array.size _ = _; simp
          refine len_str (by rw [hl]; have := lim63 ok.2; omega) ?_
          rw [hl]; exact q _ _
      | tup l =>
        cases hk
        obtain ⟨t, o, n, ws, rfl, ho, hc, hd, rr, hl⟩ := S.tup a hx
        have e : ws.toArray.size = l.length := by rw [List.size_toArray, rr.length]
        refine PyProof.Rows.len_tuple (items := ws.toArray) ⟨o, ho, hc, n, hd⟩ (by rw [e]; exact lim63 hl) ?_
        rw [e]; exact q _ _
      | fl l =>
        cases hk
        cases hx with
        | @fl b o n _ ws hK hc hd rr hl =>
          have e : ws.toArray.size = l.length := by rw [List.size_toArray, rr.length]
          refine len_list (items := ws.toArray) ⟨o, S.kIn a _ _ hK, hc, n, hd⟩ (by rw [e]; exact lim63 hl) ?_
          rw [e]; exact q _ _
      | ref i =>
        simp only [lenV] at hk
        split at hk
        · rename_i l hvs
          cases hk
          obtain ⟨t, ws, n, rfl, ho, rr, hl⟩ := S.list hx hvs
          have e : ws.toArray.size = l.length := by rw [List.size_toArray, rr.length]
          refine len_list (items := ws.toArray) ⟨_, ho, rfl, n, rfl⟩ (by rw [e]; exact lim63 hl) ?_
          rw [e]; exact q _ _
        · cases hk
      | _ => simp [lenV] at hk
  · cases e

/-- the callee is at hand, its arguments come -/
theorem snd_callV (O : TabOk C gl) (hC : CallSnd C d) {es : List Expr} {irs : List Ex} (hc : compEs cx es = some irs) (hes : AsSnd C d cx es irs) {pos : Pos} {g : Val} {gv : Value} {vs : List Val} {v : Val} {H1 H' : MH}
    (a : Act C A h₀ L envF d) (B : Blk cx env L ce ex m mE) (F : FrOk C tp σ cx env ce mE fr) (S : Sta C h₀ L σ tp ce ex H m s.heap) (hg : VRel C tp σ g gv) (e1 : evals (C.cx d) fr irs H = some (vs, H1)) (e2 : callV (C.cx d) g vs H1 = some (v, H')) :
    Brings C A h₀ L ce ex m (VR C) (callWith pos gv [] (backTo pos (starEach es env)) []) σ tp s v H' := by
  intro Q E hq
  unfold callV at e2
  split at e2
  · rename_i f
    cases hg with
    | @top _ ga hf =>
      have e2' : callN C.P fuel0 d f vs H1 = some (v, H') := e2
      have hkeep : keepIn C.K (.ref ga) = true := by
        cases d with
        | zero => simp [callN] at e2'
        | succ d =>
          simp only [callN] at e2'
          split at e2'
          · rename_i fn hfn
            obtain ⟨h1, h2⟩ := O.fns _ _ hfn
            obtain ⟨fa, _, _, _, _, _, _, _, _, _, _, _, _, _, _, _, k1, _, _, _, _, k6, _⟩ := h2.at_
            rw [h1, hf] at k1
            cases k1
            exact k6
          · cases e2'
      refine callWith_args hkeep hc (hes A h₀ L envF env ce ex m mE fr σ tp H s vs H1 pos a B F S e1 _ _ fun σ1 tp1 ws s1 p1 p2 S1 r1 sm1 => ⟨S1.kIn a, ?_⟩)
      exact hC A h₀ L envF ce ex m σ1 tp1 H1 s1 f _ vs ws v H' a S1 hf r1 e2' Q E fun σ2 tp2 rv s2 q1 q2 S2 r2 sm2 => hq σ2 tp2 rv s2 (p1.trans q1) (fun p hp => q2 p (p2 p hp)) S2 r2 (sm1.trans sm2)
  · rename_i n
    split at e2
    · rename_i hn
      subst hn
      cases hg with
      | bi hb =>
        have : _ = "len" := (Option.some.inj ((by rfl : biTab.lookup nLen = some "len").symm.trans hb)).symm
        subst this
        refine callWith_builtin (plain_args hc) (evalArgs_all (plain_args hc) (hes A h₀ L envF env ce ex m mE fr σ tp H s vs H1 pos a B F S e1 _ _ fun σ1 tp1 ws s1 p1 p2 S1 r1 sm1 => ?_))
        exact snd_len S1 a r1 e2 Q E fun σ2 tp2 rv s2 q1 q2 S2 r2 sm2 => hq σ2 tp2 rv s2 (p1.trans q1) (fun p hp => q2 p (p2 p hp)) S2 r2 (sm1.trans sm2)
    · cases e2
  · cases e2

theorem snd_callName (O : TabOk C gl) (hC : CallSnd C d) {x : Str} {xp pos : Pos} {ig : Ex} {es : List Expr} {irs : List Ex} (hc : compEs cx es = some irs) (hes : AsSnd C d cx es irs) (hx : ESnd C d cx (.Name x xp) ig) : ESnd C d cx (.Call (.Name x xp) es [] pos) (.call ig irs) := by
  intro A h₀ L envF env ce ex m mE fr σ tp H s r H' a B F S ev Q E hq
  simp only [eval] at ev
  split at ev
  · rename_i g h1 ev1
    split at ev
    · rename_i vs h2 ev2
      refine Call_ (hx A h₀ L envF env ce ex m mE fr σ tp H s g h1 a B F S ev1 _ _ fun σ1 tp1 gv s1 p1 p2 S1 r1 sm1 => ?_)
      exact snd_callV O hC hc hes a B (F.mono p2 p1) S1 r1 ev2 ev Q E fun σ2 tp2 rv s2 q1 q2 S2 r2 sm2 => hq σ2 tp2 rv s2 (p1.trans q1) (fun p hp => q2 p (p2 p hp)) S2 r2 (sm1.trans sm2)
    · cases ev
  · cases ev

theorem methForm {n : Nat} {es : List Expr} {irs : List Ex} {pos : Pos} (hc : compEs cx es = some irs) (hn : n < 30) : methodCallForm n (backTo pos (starEach es env)) [] = true := by
  unfold methodCallForm
  have h := plain_args (env := env) (pos := pos) hc
  rw [Bool.and_eq_true, Bool.and_eq_true]
  refine ⟨⟨?_, rfl⟩, by simpa using hn⟩
  rw [List.all_eq_true]
  intro x hx
  have := (List.any_eq_false.mp h) x hx
  simpa using this

theorem snd_callMeth (O : TabOk C gl) (hC : CallSnd C d) {o : Expr} {nm : Str} {apos pos : Pos} {io : Ex} {es : List Expr} {irs : List Ex} (hc : compEs cx es = some irs) (hlen : es.length ≤ 20) (hes : AsSnd C d cx es irs) (ho : ESnd C d cx o io) (hn : nameOk nm = true) (hb : baseOk o = true)
    (hp : (apos.endLine == pos.line) = true) : ESnd C d cx (.Call (.Attribute o nm apos) es [] pos) (.meth io (enc nm) irs) := by
  intro A h₀ L envF env ce ex m mE fr σ tp H s r H' a B F S ev Q E hq
  simp only [eval] at ev
  split at ev
  · rename_i x h1 ev1
    split at ev
    · rename_i vs h2 ev2
      unfold callM at ev
      split at ev
      · rename_i f self hm
        show wpAny C.M A (do
          let ov ← attributeBase o nm env (PySem.eval o env)
          standAt apos.atName
          methodCall o nm apos pos env ov (es.length + 0) (backTo pos (starEach es env)) (backToKw pos (keywordEach [] env))) Q E s
        rw [base_plain hb]
        refine wpAny_bind (ho A h₀ L envF env ce ex m mE fr σ tp H s x h1 a B F S ev1 _ _ fun σ1 tp1 vx s1 p1 p2 S1 r1 sm1 => ?_)
        refine wpAny_bind (wpAny_standAt ?_)
        unfold methodCall
        have hform : methodCallForm (es.length + 0) (backTo pos (starEach es env)) (backToKw pos (keywordEach [] env)) = true := methForm hc (by omega)
        rw [hform]
        unfold calleeOf methodCallPos
        rw [if_pos rfl]
        have hm' : getMeth C.P h1 x (enc nm) = some (f, self) := by
          have : getMeth C.P h2 x (enc nm) = getMeth C.P h1 x (enc nm) := by unfold getMeth; rfl
          rw [← this]; exact hm
        refine wpAny_bind (wpAny_holding (snd_getMeth O S1 a hn r1 hm' fun fa hfa hself => ?_))
        subst hself
        rw [if_pos (by rw [hp]; rfl)]
        refine wpAny_bind (wpAny_pure ?_)
        have e2' : callN C.P fuel0 d f (x :: vs) h2 = some (r, H') := ev
        have hkeep : keepIn C.K (.ref fa) = true := by
          cases d with
          | zero => simp [callN] at e2'
          | succ d =>
            simp only [callN] at e2'
            split at e2'
            · rename_i fn hfn
              obtain ⟨k0, k00⟩ := O.fns _ _ hfn
              obtain ⟨fa', _, _, _, _, _, _, _, _, _, _, _, _, _, _, _, k1, _, _, _, _, k6, _⟩ := k00.at_
              rw [k0, hfa] at k1
              cases k1
              exact k6
            · cases e2'
        refine callWith_args hkeep hc (hes A h₀ L envF env ce ex m mE fr σ1 tp1 h1 s1 vs h2 pos a B (F.mono p2 p1) S1 ev2 _ _ fun σ2 tp2 ws s2 q1 q2 S2 r2 sm2 => ⟨S2.kIn a, ?_⟩)
        exact hC A h₀ L envF ce ex m σ2 tp2 h2 s2 f _ (x :: vs) (vx :: ws) r H' a S2 hfa (.cons (r1.mono q2 q1) r2) e2' Q E fun σ3 tp3 rv s3 k1 k2 S3 r3 sm3 =>
          hq σ3 tp3 rv s3 ((p1.trans q1).trans k1) (fun p hp => k2 p (q2 p (p2 p hp))) S3 r3 ((sm1.trans sm2).trans sm3)
      · cases ev
    · cases ev
  · cases ev
end
end Mi
namespace Mi
open PySem PySem.W PySem.Calls PyProof.Rows
section
variable {C : Cfg} {d : Nat} {cx : CC} {gl : List (Str × Val)}

/-- every expression that compiles -/
theorem all_snd (O : TabOk C gl) (hC : CallSnd C d) (hg : GlOk C cx.gl) : ∀ (n : Nat) (e : Expr), sizeOf e < n → ∀ ir, compE cx e = some ir → ESnd C d cx e ir ∧ TSnd C d cx e ir := by
  intro n
  induction n with
  | zero => intro e h; exact absurd h (Nat.not_lt_zero _)
  | succ n ih =>
    intro e hn ir h
    have sub : ∀ e' i', sizeOf e' < sizeOf e → compE cx e' = some i' → ESnd C d cx e' i' ∧ TSnd C d cx e' i' := fun e' i' hs hc => ih e' (by omega) i' hc
    have subs : ∀ es : List Expr, sizeOf es < sizeOf e → ∀ e' ∈ es, ∀ i', compE cx e' = some i' → ESnd C d cx e' i' ∧ TSnd C d cx e' i' := fun es hs e' he' i' hc => sub e' i' (Nat.lt_trans (List.sizeOf_lt_of_mem he') hs) hc
    cases e with
    | Constant c k pos => exact ⟨snd_const h, tsnd_plain (snd_const h) fun _ _ => rfl⟩
    | Name x pos => exact ⟨snd_name hg h, tsnd_plain (snd_name hg h) fun _ _ => rfl⟩
    | BoolOp op vs pos =>
      have hs := subs vs (by simp only [Expr.BoolOp.sizeOf_spec]; omega)
      cases op with
      | And =>
        simp only [compE] at h
        obtain ⟨irs, hi, rfl⟩ := Option.map_eq_some_iff.mp h
        refine ⟨?_, ?_⟩
        · intro A h₀ L envF env ce ex m mE fr σ tp H s v H' a B F S ev
          simp only [eval] at ev
          exact brings_and (pos := pos) (fun e' he' i' hc => (hs e' he' i' hc).1) hi a B F S ev
        · intro A h₀ L envF env ce ex m mE fr σ tp H s v H' b a B F S ev et Q E hq
          simp only [eval] at ev
          exact wpAny_isTrue_BoolOp (test_and (fun e' he' i' hc => (hs e' he' i' hc).2) hi a B F S ev et Q E hq)
      | Or =>
        simp only [compE] at h
        obtain ⟨irs, hi, rfl⟩ := Option.map_eq_some_iff.mp h
        refine ⟨?_, ?_⟩
        · intro A h₀ L envF env ce ex m mE fr σ tp H s v H' a B F S ev
          simp only [eval] at ev
          exact brings_or (pos := pos) (fun e' he' i' hc => (hs e' he' i' hc).1) hi a B F S ev
        · intro A h₀ L envF env ce ex m mE fr σ tp H s v H' b a B F S ev et Q E hq
          simp only [eval] at ev
          exact wpAny_isTrue_BoolOp (test_or (fun e' he' i' hc => (hs e' he' i' hc).2) hi a B F S ev et Q E hq)
    | BinOp l op r pos =>
      have := snd_bin (C := C) (d := d) (fun i hi => (sub l i (by simp only [Expr.BinOp.sizeOf_spec]; omega) hi).1) (fun i hi => (sub r i (by simp only [Expr.BinOp.sizeOf_spec]; omega) hi).1) h
      exact ⟨this, tsnd_plain this fun _ _ => rfl⟩
    | UnaryOp op x pos =>
      simp only [compE] at h
      split at h
      · rename_i i hi
        cases h
        have := sub x i (by simp only [Expr.UnaryOp.sizeOf_spec]; omega) hi
        exact ⟨snd_not this.1, tsnd_not this.2⟩
      · cases h
    | IfExp t x y pos =>
      simp only [compE] at h
      split at h
      · rename_i i1 i2 i3 h1 h2 h3
        cases h
        have a1 := sub t i1 (by simp only [Expr.IfExp.sizeOf_spec]; omega) h1
        have a2 := sub x i2 (by simp only [Expr.IfExp.sizeOf_spec]; omega) h2
        have a3 := sub y i3 (by simp only [Expr.IfExp.sizeOf_spec]; omega) h3
        exact ⟨snd_ite a1.2 a2.1 a3.1, tsnd_ite a1.2 a2.2 a3.2⟩
      · cases h
    | List es pos =>
      simp only [compE] at h
      split at h
      · rename_i hl
        obtain ⟨irs, hi, rfl⟩ := Option.map_eq_some_iff.mp h
        have hs := subs es (by simp only [Expr.List.sizeOf_spec]; omega)
        have := snd_list (C := C) (d := d) (pos := pos) (snd_args (fun e' he' i' hc => (hs e' he' i' hc).1) hi) (by rw [compEs_length hi]; exact hl)
        exact ⟨this, tsnd_plain this fun _ _ => rfl⟩
      · cases h
    | Tuple es k pos =>
      simp only [compE] at h
      split at h
      · rename_i hl
        obtain ⟨irs, hi, rfl⟩ := Option.map_eq_some_iff.mp h
        have hs := subs es (by simp only [Expr.Tuple.sizeOf_spec]; omega)
        have := snd_tuple (C := C) (d := d) (k := k) (pos := pos) (snd_args (fun e' he' i' hc => (hs e' he' i' hc).1) hi) (by rw [compEs_length hi]; exact hl)
        exact ⟨this, tsnd_plain this fun _ _ => rfl⟩
      · cases h
    | Compare l ops cs pos =>
      simp only [compE] at h
      split at h
      · rename_i i1 op i2 h1 h2
        cases h
        have a1 := sub l i1 (by simp only [Expr.Compare.sizeOf_spec]; omega) h1
        cases cs with
        | nil => simp [compEs] at h2
        | cons r cs =>
          simp only [compEs] at h2
          split at h2
          · rename_i j js e1 e2
            cases h2
            have hcs : cs = [] := by
              have := compEs_length e2
              exact List.length_eq_zero_iff.mp (by simpa using this.symm)
            subst hcs
            have a2 := sub r _ (by simp only [Expr.Compare.sizeOf_spec, List.cons.sizeOf_spec]; omega) e1
            exact ⟨snd_compare a1.1 a2.1 e1, tsnd_compare a1.1 a2.1 e1⟩
          · cases h2
      · cases h
    | Call f as ks pos =>
      simp only [compE] at h
      split at h
      · split at h
        · rename_i bs hb
          split at h
          · rename_i hlen
            have hs := subs as (by simp only [Expr.Call.sizeOf_spec]; omega)
            have has := snd_args (C := C) (d := d) (fun e' he' i' hc => (hs e' he' i' hc).1) hb
            have fin : ESnd C d cx (.Call f as [] pos) ir := by
              cases f with
              | Attribute v nm apos =>
                simp only [compCall] at h
                split at h
                · rename_i hcond
                  simp only [Bool.and_eq_true] at hcond
                  obtain ⟨io, ho, rfl⟩ := Option.map_eq_some_iff.mp h
                  have a1 := sub v io (by simp only [Expr.Call.sizeOf_spec, Expr.Attribute.sizeOf_spec]; omega) ho
                  exact snd_callMeth O hC hb hlen has a1.1 hcond.1.1 hcond.1.2 hcond.2
                · cases h
              | Name x xp =>
                have hx : ∀ ig, compE cx (.Name x xp) = some ig → ESnd C d cx (.Name x xp) ig := fun ig hig => snd_name hg hig
                simp only [compCall] at h
                split at h
                · rename_i hn
                  split at h
                  · rename_i i hi
                    cases h
                    exact snd_callName O hC hb has (hx _ (by simp only [compE]; rw [if_pos hn, hi]))
                  · rename_i hi
                    split at h
                    · rename_i hk
                      obtain ⟨v, hv, rfl⟩ := Option.map_eq_some_iff.mp h
                      exact snd_callName O hC hb has (hx _ (by simp only [compE]; rw [if_pos hn, hi]; dsimp only; rw [if_pos hk, hv]; rfl))
                    · cases h
                · cases h
              | _ => simp [compCall] at h
            exact ⟨fin, tsnd_plain fin fun _ _ => rfl⟩
          · cases h
        · cases h
      · cases h
    | Attribute v nm pos =>
      simp only [compE] at h
      split at h
      · rename_i hcond
        simp only [Bool.and_eq_true] at hcond
        obtain ⟨io, ho, rfl⟩ := Option.map_eq_some_iff.mp h
        have a1 := sub v io (by simp only [Expr.Attribute.sizeOf_spec]; omega) ho
        have := snd_attr (pos := pos) O a1.1 hcond.1 hcond.2
        exact ⟨this, tsnd_plain this fun _ _ => rfl⟩
      · cases h
    | Subscript v sl pos =>
      simp only [compE] at h
      split at h
      · rename_i i1 i2 h1 h2
        cases h
        have a1 := sub v i1 (by simp only [Expr.Subscript.sizeOf_spec]; omega) h1
        have a2 := sub sl i2 (by simp only [Expr.Subscript.sizeOf_spec]; omega) h2
        have := snd_sub (pos := pos) a1.1 a2.1 h2
        exact ⟨this, tsnd_plain this fun _ _ => rfl⟩
      · cases h
    | _ => simp [compE] at h
theorem esnd (O : TabOk C gl) (hC : CallSnd C d) (hg : GlOk C cx.gl) {e : Expr} {ir : Ex} (h : compE cx e = some ir) : ESnd C d cx e ir := (all_snd O hC hg _ e (Nat.lt_succ_self _) ir h).1
theorem tsnd (O : TabOk C gl) (hC : CallSnd C d) (hg : GlOk C cx.gl) {e : Expr} {ir : Ex} (h : compE cx e = some ir) : TSnd C d cx e ir := (all_snd O hC hg _ e (Nat.lt_succ_self _) ir h).2
end
end Mi
namespace Mi
open PySem PySem.W PySem.Calls PyProof.Rows

inductive FlR (C : Cfg) (tp : Led) (σ : List Addr) : Fl → Flow → Prop
  | nx : FlR C tp σ .nx .next
  | bk : FlR C tp σ .bk .brk
  | ct : FlR C tp σ .ct .cont
  | rt {v : Val} {rv : Value} : VRel C tp σ v rv → FlR C tp σ (.rt v) (.ret rv)

/-- a def's own block: no captured names -/
structure BlkS (cx : CC) (env : Env) (L : Addr) : Prop where
  kind : env.scope.kind = .function
  gl : env.globals = mainGlobals
  bl : env.builtins = builtinsNs
  sc : env.scope.names = cx.sc
  nocell : ∀ x, cx.sc.lookup x ≠ some .cell
  loc : env.locals = L
  inj : ∀ x y i, varAt cx x = some i → varAt cx y = some i → x = y
theorem BlkS.blk {cx : CC} {env : Env} {L : Addr} (B : BlkS cx env L) (ex : Led) (m : Str → Option Value) : Blk cx env L [] ex m m :=
  ⟨B.kind, B.gl, B.bl, B.sc, fun x h => absurd h (B.nocell x), .inl ⟨B.loc, rfl⟩⟩

def SBrings (C : Cfg) (A : Around) (h₀ : Heap) (L : Addr) (ex : Led) (cx : CC) (env : Env) (t : Sem Flow) (σ : List Addr) (tp : Led) (s : Shared) (fl : Fl) (fr' : Frame) (H' : MH) : Prop :=
  ∀ (Q : Flow → Shared → Prop) (E : Value → Shared → Prop),
    (∀ σ' tp' m' f s', σ <+: σ' → (∀ p ∈ tp, p ∈ tp') → Sta C h₀ L σ' tp' [] ex H' m' s'.heap → FrOk C tp' σ' cx env [] m' fr' → FlR C tp' σ' fl f → Same s s' → Q f s') →
    wpAny C.M A t Q E s

def SSnd (C : Cfg) (d : Nat) (cx : CC) (st : Stmt) (ir : Sm) : Prop :=
  ∀ (A : Around) (h₀ : Heap) (L : Addr) (envF env : Env) (ex : Led) (m : Str → Option Value) (fr : Frame) (σ : List Addr) (tp : Led) (H : MH) (s : Shared) (fl : Fl) (fr' : Frame) (H' : MH),
    Act C A h₀ L envF d → BlkS cx env L → FrOk C tp σ cx env [] m fr → Sta C h₀ L σ tp [] ex H m s.heap → exec (C.cx d) ir fr H = some (fl, fr', H') →
    SBrings C A h₀ L ex cx env (PySem.exec st env) σ tp s fl fr' H'
def SsSnd (C : Cfg) (d : Nat) (cx : CC) (st : List Stmt) (ir : List Sm) : Prop :=
  ∀ (A : Around) (h₀ : Heap) (L : Addr) (envF env : Env) (ex : Led) (m : Str → Option Value) (fr : Frame) (σ : List Addr) (tp : Led) (H : MH) (s : Shared) (fl : Fl) (fr' : Frame) (H' : MH),
    Act C A h₀ L envF d → BlkS cx env L → FrOk C tp σ cx env [] m fr → Sta C h₀ L σ tp [] ex H m s.heap → execs (C.cx d) ir fr H = some (fl, fr', H') →
    SBrings C A h₀ L ex cx env (PySem.execs st env) σ tp s fl fr' H'

section
variable {C : Cfg} {A : Around} {h₀ : Heap} {L : Addr} {envF env : Env} {ce ex : Led} {m mE : Str → Option Value} {fr : Frame} {σ : List Addr} {tp : Led} {H : MH} {s : Shared} {d : Nat} {cx : CC} {gl : List (Str × Val)}

/-! the ledger's last part -/
theorem perm_ex (a b c e : Led) (p : Addr × Obj) : (a ++ (b ++ (c ++ p :: e))).Perm (p :: (a ++ (b ++ (c ++ e)))) := by
  have := List.perm_middle (a := p) (l₁ := a ++ (b ++ c)) (l₂ := e)
  simpa [List.append_assoc] using this
theorem Sta.addEx {h : Heap} (S : Sta C h₀ L σ tp ce ex H m h) (o : Obj) (hf : o.isFreed = false) : Sta C h₀ L σ tp ce ((h.objs.size, o) :: ex) H m (h.push o) := by
  obtain ⟨os, he, hn, hd⟩ := S.os
  refine ⟨S.fr.push o, ⟨os, he, ?_, ?_⟩, S.big, S.lo⟩
  · intro p hp
    exact hn.push S.fr o hf p ((perm_ex _ _ _ _ _).mem_iff.mp hp)
  · rw [((perm_ex os.flatten tp ce ex (h.objs.size, o)).map (·.1)).nodup_iff, List.map_cons, List.nodup_cons]
    refine ⟨?_, hd⟩
    intro hx
    obtain ⟨q, hq, e⟩ := List.mem_map.mp hx
    exact absurd (Heap.lt_size (hn q hq).1) (by rw [e]; exact Nat.lt_irrefl _)
theorem Sta.exHead {h : Heap} {b : Addr} {o : Obj} (S : Sta C h₀ L σ tp ce ((b, o) :: ex) H m h) : h.get? b = some o ∧ b ≠ L ∧ h₀.get? b = none := by
  obtain ⟨os, he, hn, hd⟩ := S.os
  exact hn (b, o) (by simp)
theorem Sta.endEx {h h' : Heap} {b : Addr} {o : Obj} (S : Sta C h₀ L σ tp ce ((b, o) :: ex) H m h) (hx : Heap.ExtBut b h h') : Sta C h₀ L σ tp ce ex H m h' := by
  obtain ⟨g1, g2, g3⟩ := S.exHead
  obtain ⟨os, he, hn, hd⟩ := S.os
  rw [((perm_ex os.flatten tp ce ex (b, o)).map (·.1)).nodup_iff, List.map_cons, List.nodup_cons] at hd
  have hne : ∀ q ∈ os.flatten ++ (tp ++ (ce ++ ex)), q.1 ≠ b := fun q hq e => hd.1 (List.mem_map.mpr ⟨q, hq, e⟩)
  refine ⟨⟨S.fr.ns.extBut hx (Ne.symm g2), fun c x e => hx c x (fun q => ?_) (S.fr.keep c x e), S.fr.above⟩, ⟨os, he, fun p hp => ?_, hd.2⟩, S.big, S.lo⟩
  · rw [q, g3] at e; cases e
  · have := hn p ((perm_ex _ _ _ _ _).mem_iff.mpr (.tail _ hp))
    exact ⟨hx p.1 p.2 (hne p hp) this.1, this.2⟩
theorem Sta.setEx {h h' : Heap} {b : Addr} {o o' : Obj} (S : Sta C h₀ L σ tp ce ((b, o) :: ex) H m h) (hs : Heap.SameBut b h h') (ho : h'.get? b = some o') : Sta C h₀ L σ tp ce ((b, o') :: ex) H m h' := by
  obtain ⟨g1, g2, g3⟩ := S.exHead
  obtain ⟨os, he, hn, hd⟩ := S.os
  have hd' := hd
  rw [((perm_ex os.flatten tp ce ex (b, o)).map (·.1)).nodup_iff, List.map_cons, List.nodup_cons] at hd'
  have hne : ∀ q ∈ os.flatten ++ (tp ++ (ce ++ ex)), q.1 ≠ b := fun q hq e => hd'.1 (List.mem_map.mpr ⟨q, hq, e⟩)
  refine ⟨⟨S.fr.ns.sameBut hs (Ne.symm g2), fun c x e => (hs.2 c (fun q => ?_)).trans (S.fr.keep c x e), S.fr.above⟩, ⟨os, he, fun p hp => ?_, ?_⟩, S.big, S.lo⟩
  · rw [q, g3] at e; cases e
  · rcases List.mem_cons.mp ((perm_ex _ _ _ _ _).mem_iff.mp hp) with rfl | hp
    · exact ⟨ho, g2, g3⟩
    · have := hn p ((perm_ex _ _ _ _ _).mem_iff.mpr (.tail _ hp))
      exact ⟨(hs.2 p.1 (hne p hp)).trans this.1, this.2⟩
  · simpa using hd

/-- a name of the frame is stored -/
theorem FrOk.store (F : FrOk C tp σ cx env [] m fr) (B : BlkS cx env L) {x : Str} {i : Nat} {v : Val} {rv : Value} (hi : varAt cx x = some i) (r : VRel C tp σ v rv) :
    FrOk C tp σ cx env [] (fun y => if y = x then some rv else m y) (fr.set i (some v)) := by
  intro y j w hj hw
  by_cases hyx : y = x
  · subst hyx
    rw [hi] at hj; cases hj
    refine .inl ⟨?_, rv, by simp, ?_⟩
    · rcases (varAt_kind hi).1 with h | h
      · exact h
      · exact absurd h (B.nocell _)
    · rw [List.getElem?_set] at hw
      simp only [if_true] at hw
      split at hw
      · cases hw; exact r
      · cases hw
  · have hji : i ≠ j := fun e => hyx (B.inj y x j hj (e ▸ hi))
    rw [List.getElem?_set_ne hji] at hw
    rcases F y j w hj hw with ⟨a, b, c, d⟩ | ⟨a, _⟩
    · exact .inl ⟨a, b, by simp [hyx, c], d⟩
    · exact absurd a (B.nocell _)
theorem store_name (B : BlkS cx env L) (S : Sta C h₀ L σ tp [] ex H m s.heap) {x : Str} {i : Nat} {rv : Value} (hi : varAt cx x = some i) {Q : Unit → Shared → Prop} {E : Value → Shared → Prop}
    (h : ∀ h' tk, Sta C h₀ L σ tp [] ex H (fun y => if y = x then some rv else m y) h' → Q () { s with heap := h', toks := tk }) : wpAny C.M A (storeName env x rv) Q E s := by
  have hk : env.kindOf x = some .local := by
    unfold Env.kindOf
    rw [B.sc]
    rcases (varAt_kind hi).1 with h | h
    · exact h
    · exact absurd h (B.nocell _)
  refine wpAny_storeName_local hk (by rw [B.loc]; exact S.fr.ns) (fun h' hn hs => ?_) (by rw [B.kind]; rfl)
  rw [B.loc] at hn hs
  obtain ⟨os, he, hnn, hd⟩ := S.os
  exact h h' _ ⟨S.fr.set hn hs, ⟨os, he, hnn.set hs, hd⟩, S.big, S.lo⟩

theorem ssnd_nil : SsSnd C d cx [] [] := by
  intro A h₀ L envF env ex m fr σ tp H s fl fr' H' a B F S ev Q E hq
  simp only [execs] at ev
  cases ev
  exact wpAny_execs_nil (hq σ tp m .next s (List.prefix_refl σ) (fun _ x => x) S F .nx (Same.refl s))
theorem ssnd_cons {st : Stmt} {r : List Stmt} {i : Sm} {is : List Sm} (h1 : SSnd C d cx st i) (h2 : SsSnd C d cx r is) : SsSnd C d cx (st :: r) (i :: is) := by
  intro A h₀ L envF env ex m fr σ tp H s fl fr' H' a B F S ev Q E hq
  simp only [execs] at ev
  split at ev
  · rename_i fr1 H1 ev1
    refine wpAny_execs_cons (h1 A h₀ L envF env ex m fr σ tp H s .nx fr1 H1 a B F S ev1 _ _ fun σ1 tp1 m1 f s1 p1 p2 S1 F1 r1 sm1 => ?_)
    cases r1
    exact h2 A h₀ L envF env ex m1 fr1 σ1 tp1 H1 s1 fl fr' H' a B F1 S1 ev _ _ fun σ2 tp2 m2 f2 s2 q1 q2 S2 F2 r2 sm2 => hq σ2 tp2 m2 f2 s2 (p1.trans q1) (fun p hp => q2 p (p2 p hp)) S2 F2 r2 (sm1.trans sm2)
  · rename_i x hne ev1
    cases ev
    refine wpAny_execs_cons (h1 A h₀ L envF env ex m fr σ tp H s _ _ _ a B F S ev1 _ _ fun σ1 tp1 m1 f s1 p1 p2 S1 F1 r1 sm1 => ?_)
    have := hq σ1 tp1 m1 f s1 p1 p2 S1 F1 r1 sm1
    cases r1 with
    | nx => exact absurd rfl (fun e => hne _ _ e)
    | bk => exact this
    | ct => exact this
    | rt _ => exact this
  · cases ev

theorem swaps_no {v : Expr} {t : Option Expr} {n : Nat} {i : Ex} (h : compE cx v = some i) : swapsWith v t n env = pure false := by
  cases v <;> first | rfl | (simp [compE] at h)

theorem ssnd_asg (hE : ∀ {e : Expr} {ir : Ex}, compE cx e = some ir → ESnd C d cx e ir) {x : Str} {xp pos : Pos} {v : Expr} {i : Nat} {iv : Ex} (hi : varAt cx x = some i) (hv : compE cx v = some iv) : SSnd C d cx (.Assign [.Name x xp] v pos) (.asg (.nm i) iv) := by
  intro A h₀ L envF env ex m fr σ tp H s fl fr' H' a B F S ev Q E hq
  simp only [exec, store, Option.map_some] at ev
  split at ev
  · rename_i w h1 ev1
    cases ev
    refine wpAny_Assign_Name (hE hv A h₀ L envF env [] ex m m fr σ tp H s w _ a (B.blk ex m) F S ev1 _ _ fun σ1 tp1 rv s1 p1 p2 S1 r1 sm1 => ?_) (swaps_no hv)
    exact store_name B S1 hi fun h' tk S2 => hq σ1 tp1 _ .next { s1 with heap := h', toks := tk } p1 p2 S2 ((F.mono p2 p1).store B hi r1) .nx sm1
  · cases ev

theorem ssnd_ret (hE : ∀ {e : Expr} {ir : Ex}, compE cx e = some ir → ESnd C d cx e ir) {v : Option Expr} {pos : Pos} {iv : Option Ex} (hv : compO cx v = some iv) : SSnd C d cx (.Return v pos) (.ret iv) := by
  intro A h₀ L envF env ex m fr σ tp H s fl fr' H' a B F S ev Q E hq
  cases v with
  | none =>
    simp only [compO] at hv
    cases hv
    simp only [exec] at ev
    cases ev
    exact wpAny_Return_none (hq σ tp m _ s (List.prefix_refl σ) (fun _ x => x) S F (.rt .none) (Same.refl s))
  | some e =>
    simp only [compO] at hv
    obtain ⟨ie, he, rfl⟩ := Option.map_eq_some_iff.mp hv
    simp only [exec] at ev
    split at ev
    · rename_i w h1 ev1
      cases ev
      exact wpAny_Return_some (hE he A h₀ L envF env [] ex m m fr σ tp H s w _ a (B.blk ex m) F S ev1 _ _ fun σ1 tp1 rv s1 p1 p2 S1 r1 sm1 => hq σ1 tp1 m _ s1 p1 p2 S1 (F.mono p2 p1) (.rt r1) sm1)
    · cases ev

theorem ssnd_if (hT : ∀ {e : Expr} {ir : Ex}, compE cx e = some ir → TSnd C d cx e ir) {t : Expr} {x y : List Stmt} {pos : Pos} {it : Ex} {ix iy : List Sm} (ht : compE cx t = some it) (hx : SsSnd C d cx x ix) (hy : SsSnd C d cx y iy) : SSnd C d cx (.If t x y pos) (.ite it ix iy) := by
  intro A h₀ L envF env ex m fr σ tp H s fl fr' H' a B F S ev Q E hq
  simp only [exec] at ev
  split at ev
  · rename_i w h1 ev1
    split at ev
    · rename_i et
      refine wpAny_If (hT ht A h₀ L envF env [] ex m m fr σ tp H s w h1 true a (B.blk ex m) F S ev1 et _ _ fun σ1 tp1 c s1 p1 p2 S1 r1 sm1 => ?_)
      subst r1
      exact hx A h₀ L envF env ex m fr σ1 tp1 h1 s1 fl fr' H' a B (F.mono p2 p1) S1 ev _ _ fun σ2 tp2 m2 f2 s2 q1 q2 S2 F2 r2 sm2 => hq σ2 tp2 m2 f2 s2 (p1.trans q1) (fun p hp => q2 p (p2 p hp)) S2 F2 r2 (sm1.trans sm2)
    · rename_i et
      refine wpAny_If (hT ht A h₀ L envF env [] ex m m fr σ tp H s w h1 false a (B.blk ex m) F S ev1 et _ _ fun σ1 tp1 c s1 p1 p2 S1 r1 sm1 => ?_)
      subst r1
      exact hy A h₀ L envF env ex m fr σ1 tp1 h1 s1 fl fr' H' a B (F.mono p2 p1) S1 ev _ _ fun σ2 tp2 m2 f2 s2 q1 q2 S2 F2 r2 sm2 => hq σ2 tp2 m2 f2 s2 (p1.trans q1) (fun p hp => q2 p (p2 p hp)) S2 F2 r2 (sm1.trans sm2)
    · cases ev
  · cases ev

theorem ssnd_while (hT : ∀ {e : Expr} {ir : Ex}, compE cx e = some ir → TSnd C d cx e ir) {t : Expr} {b : List Stmt} {pos : Pos} {it : Ex} {ib : List Sm} (ht : compE cx t = some it) (hb : SsSnd C d cx b ib) : SSnd C d cx (.While t b [] pos) (.wh it ib) := by
  intro A h₀ L envF env ex m fr σ tp H s fl fr' H' a B F S ev Q E hq
  simp only [exec] at ev
  refine wpAny_While (codeAny_whileLoop (fun n s' => ∃ σ1 tp1 m1 fr1 H1, σ <+: σ1 ∧ (∀ p ∈ tp, p ∈ tp1) ∧ Sta C h₀ L σ1 tp1 [] ex H1 m1 s'.heap ∧ FrOk C tp1 σ1 cx env [] m1 fr1 ∧ Same s s' ∧
    loopW (fun fr h => match eval (C.cx d) fr it h with
      | some (v, h1) => match truthy h1 v with
        | some x => some (x, h1)
        | none => none
      | none => none) (fun fr h => execs (C.cx d) ib fr h) n fr1 H1 = some (fl, fr', H')) ?_ (C.cx d).fuel ⟨σ, tp, m, fr, H, List.prefix_refl σ, fun _ x => x, S, F, Same.refl s, ev⟩)
  rintro n s' ⟨σ1, tp1, m1, fr1, H1, p1, p2, S1, F1, sm1, lp⟩
  cases n with
  | zero => simp [loopW] at lp
  | succ n =>
    rw [loopW] at lp
    split at lp
    · rename_i H2 hc
      split at hc
      · rename_i w h1 ev1
        split at hc
        · rename_i x et
          cases hc
          refine hT ht A h₀ L envF env [] ex m1 m1 fr1 σ1 tp1 H1 s' w _ true a (B.blk ex m1) F1 S1 ev1 et _ _ fun σ2 tp2 c s2 q1 q2 S2 r2 sm2 => ?_
          subst r2
          simp only [if_true]
          split at lp
          · rename_i fr3 H3 ev3
            cases lp
            refine hb A h₀ L envF env ex m1 fr1 σ2 tp2 H2 s2 _ _ _ a B (F1.mono q2 q1) S2 ev3 _ _ fun σ3 tp3 m3 f3 s3 k1 k2 S3 F3 r3 sm3 => ?_
            cases r3
            exact hq σ3 tp3 m3 .next s3 ((p1.trans q1).trans k1) (fun p hp => k2 p (q2 p (p2 p hp))) S3 F3 .nx ((sm1.trans sm2).trans sm3)
          · rename_i v fr3 H3 ev3
            cases lp
            refine hb A h₀ L envF env ex m1 fr1 σ2 tp2 H2 s2 _ _ _ a B (F1.mono q2 q1) S2 ev3 _ _ fun σ3 tp3 m3 f3 s3 k1 k2 S3 F3 r3 sm3 => ?_
            cases r3 with
            | rt hr => exact hq σ3 tp3 m3 _ s3 ((p1.trans q1).trans k1) (fun p hp => k2 p (q2 p (p2 p hp))) S3 F3 (.rt hr) ((sm1.trans sm2).trans sm3)
          · rename_i fl3 fr3 H3 hn1 hn2 ev3
            refine hb A h₀ L envF env ex m1 fr1 σ2 tp2 H2 s2 _ _ _ a B (F1.mono q2 q1) S2 ev3 _ _ fun σ3 tp3 m3 f3 s3 k1 k2 S3 F3 r3 sm3 => ?_
            cases r3 with
            | nx => exact ⟨n, Nat.lt_succ_self n, σ3, tp3, m3, fr3, H3, (p1.trans q1).trans k1, fun p hp => k2 p (q2 p (p2 p hp)), S3, F3, (sm1.trans sm2).trans sm3, lp⟩
            | ct => exact ⟨n, Nat.lt_succ_self n, σ3, tp3, m3, fr3, H3, (p1.trans q1).trans k1, fun p hp => k2 p (q2 p (p2 p hp)), S3, F3, (sm1.trans sm2).trans sm3, lp⟩
            | bk => exact absurd rfl hn1
            | rt _ => exact absurd rfl (hn2 _)
          · cases lp
        · cases hc
      · cases hc
    · rename_i H2 hc
      cases lp
      split at hc
      · rename_i w h1 ev1
        split at hc
        · rename_i x et
          cases hc
          refine hT ht A h₀ L envF env [] ex m1 m1 _ σ1 tp1 H1 s' w _ false a (B.blk ex m1) F1 S1 ev1 et _ _ fun σ2 tp2 c s2 q1 q2 S2 r2 sm2 => ?_
          subst r2
          simp only [Bool.false_eq_true, if_false]
          exact wpAny_execs_nil (hq σ2 tp2 m1 .next s2 (p1.trans q1) (fun p hp => q2 p (p2 p hp)) S2 (F1.mono q2 q1) .nx (sm1.trans sm2))
        · cases hc
      · cases hc
    · cases lp
end
end Mi
namespace Mi
open PySem PySem.W PySem.Calls PyProof.Rows

def setsL (fr : Frame) (ps : List (Nat × Val)) : Frame := ps.foldl (fun f p => f.set p.1 (some p.2)) fr
theorem sets_comm (p : Nat × Val) : ∀ (l : List (Nat × Val)) (fr : Frame), p.1 ∉ l.map (·.1) → (setsL fr l).set p.1 (some p.2) = setsL (fr.set p.1 (some p.2)) l
  | [], _, _ => rfl
  | q :: l, fr, h => by
    simp only [List.map_cons, List.mem_cons, not_or] at h
    show (setsL (fr.set q.1 (some q.2)) l).set p.1 (some p.2) = setsL ((fr.set p.1 (some p.2)).set q.1 (some q.2)) l
    rw [sets_comm p l _ h.2, List.set_comm _ _ (Ne.symm h.1)]
theorem sets_rev : ∀ (l : List (Nat × Val)) (fr : Frame), (l.map (·.1)).Nodup → setsL fr l.reverse = setsL fr l
  | [], _, _ => rfl
  | p :: l, fr, h => by
    simp only [List.map_cons, List.nodup_cons] at h
    rw [List.reverse_cons]
    show (l.reverse ++ [p]).foldl _ fr = _
    rw [List.foldl_append]
    show (setsL fr l.reverse).set p.1 (some p.2) = _
    rw [sets_rev l fr h.2, sets_comm p l fr h.1]
    rfl

theorem zip_rev {α β : Type} : ∀ {l : List α} {r : List β}, l.length = r.length → l.reverse.zip r.reverse = (l.zip r).reverse
  | [], [], _ => rfl
  | [], _ :: _, h => by simp at h
  | _ :: _, [], h => by simp at h
  | a :: l, b :: r, h => by
    have h' : l.length = r.length := by simpa using h
    rw [List.reverse_cons, List.reverse_cons, List.zip_append (by simpa using h'), zip_rev h']
    simp

section
variable {C : Cfg} {A : Around} {h₀ : Heap} {L : Addr} {envF env : Env} {ce ex : Led} {m mE : Str → Option Value} {fr : Frame} {σ : List Addr} {tp : Led} {H : MH} {s : Shared} {d : Nat} {cx : CC} {gl : List (Str × Val)}

theorem VRels.reverse : ∀ {ms : List Val} {vs : List Value}, VRels C tp σ ms vs → VRels C tp σ ms.reverse vs.reverse
  | _, _, .nil => .nil
  | _, _, .cons h r => by
    rw [List.reverse_cons, List.reverse_cons]
    exact r.reverse.append (.cons h .nil)

inductive BindL (cx : CC) (env : Env) : List Str → List Nat → List (Value → Sem Unit) → Prop
  | nil : BindL cx env [] [] []
  | cons {x : Str} {i : Nat} {f : Value → Sem Unit} {xs : List Str} {is : List Nat} {fs : List (Value → Sem Unit)} : varAt cx x = some i →
      (∀ (M : Model) (A : Around) (v : Value) (Q : Unit → Shared → Prop) (E : Value → Shared → Prop) (s : Shared), wpAny M A (storeName env x v) Q E s → wpAny M A (f v) Q E s) → BindL cx env xs is fs → BindL cx env (x :: xs) (i :: is) (f :: fs)

theorem stores_wp (B : BlkS cx env L) : ∀ {xs : List Str} {is : List Nat} {fs : List (Value → Sem Unit)}, BindL cx env xs is fs → ∀ {mvs : List Val} {vs : List Value} {fr : Frame} {m : Str → Option Value} {s : Shared} {Q : Unit → Shared → Prop} {E : Value → Shared → Prop},
    VRels C tp σ mvs vs → mvs.length = xs.length → FrOk C tp σ cx env [] m fr → Sta C h₀ L σ tp [] ex H m s.heap →
    (∀ m' h' tk, Sta C h₀ L σ tp [] ex H m' h' → FrOk C tp σ cx env [] m' (setsL fr (is.zip mvs)) → Q () { s with heap := h', toks := tk }) → wpAny C.M A (assignInOrder fs vs) Q E s
  | _, _, _, .nil, mvs, vs, fr, m, s, Q, E, r, hl, F, S, h => by
    cases r with
    | nil => exact wpAny_pure (h m s.heap s.toks S F)
    | cons _ _ => simp at hl
  | _, _, _, .cons (x := x) (i := i) hi hf b, mvs, vs, fr, m, s, Q, E, r, hl, F, S, h => by
    cases r with
    | nil => simp at hl
    | cons hv r =>
      show wpAny C.M A (do holding _ _; assignInOrder _ _) Q E s
      refine wpAny_bind (wpAny_holding (hf _ _ _ _ _ _ (store_name B S hi fun h' tk S' => ?_)))
      exact stores_wp B b (s := { s with heap := h', toks := tk }) r (by simpa using hl) (F.store B hi hv) S' fun m' h'' tk' S'' F' => h m' h'' tk' S'' F'

theorem bindL_names : ∀ {xs : List Str} {is : List Nat}, xs.map (varAt cx) = is.map some → BindL cx env xs is (xs.map fun n => bindName env n)
  | [], [], _ => .nil
  | [], _ :: _, h => by simp at h
  | _ :: _, [], h => by simp at h
  | x :: xs, i :: is, h => by
    simp only [List.map_cons, List.cons.injEq] at h
    exact .cons h.1 (fun _ _ _ _ _ _ z => wpAny_bindName z) (bindL_names h.2)

theorem compT1s_spec : ∀ {es : List Expr} {ts : List T1}, compT1s cx es = some ts → ∃ xs is, namesOfE es = some xs ∧ ts = is.map T1.nm ∧ xs.map (varAt cx) = is.map some ∧ BindL cx env xs is ((assignEach es env).map (·.2)) ∧ (assignEach es env).length = xs.length ∧ (assignEach es env).findIdx? (·.1) = none
  | [], _, h => by
    simp only [compT1s] at h
    cases h
    exact ⟨[], [], rfl, rfl, rfl, .nil, rfl, rfl⟩
  | e :: r, ts, h => by
    simp only [compT1s] at h
    split at h
    · rename_i t ts' h1 h2
      cases h
      obtain ⟨xs, is, k1, k2, k3, k4, k5, k6⟩ := compT1s_spec h2
      cases e with
      | Name x pos =>
        simp only [compT1] at h1
        split at h1
        · obtain ⟨i, hi, rfl⟩ := Option.map_eq_some_iff.mp h1
          refine ⟨x :: xs, i :: is, ?_, by rw [k2]; rfl, by simp [hi, k3], .cons hi (fun _ _ _ _ _ _ z => PySem.wpAny_assign_Name z) k4, ?_, ?_⟩
          · show (match nameOfE (.Name x pos), namesOfE r with | some x, some xs => some (x :: xs) | _, _ => none) = _
            rw [k1]; rfl
          · show (assignEach r env).length + 1 = xs.length + 1
            rw [k5]
          · show List.findIdx? _ ((false, assign (.Name x pos) env) :: assignEach r env) = none
            rw [List.findIdx?_cons]
            simp only [Bool.false_eq_true, if_false, k6, Option.map_none]
        · cases h1
      | _ => simp [compT1] at h1
    · cases h

theorem stores_nm {c : Cx} {h : MH} : ∀ {is : List Nat} {mvs : List Val} {fr : Frame} {r : Frame × MH}, stores c (is.map T1.nm) mvs fr h = some r → mvs.length = is.length ∧ r = (setsL fr (is.zip mvs), h)
  | [], [], _, _, e => by simp only [List.map_nil, stores] at e; cases e; exact ⟨rfl, rfl⟩
  | [], _ :: _, _, _, e => by simp [stores] at e
  | _ :: _, [], _, _, e => by simp [stores] at e
  | i :: is, v :: mvs, fr, r, e => by
    simp only [List.map_cons, stores, store] at e
    obtain ⟨h1, h2⟩ := stores_nm e
    exact ⟨by simp [h1], by rw [h2]; rfl⟩

theorem names_kept (k : Str → Pos → Bool) : ∀ {es : List Expr} {xs : List Str}, namesOfE es = some xs → (es.filterMap fun e => match e with | .Name id pos => if k id pos then some id else none | _ => none).length = es.length →
    (es.filterMap fun e => match e with | .Name id pos => if k id pos then some id else none | _ => none) = xs
  | [], _, h, _ => by simp only [namesOfE] at h; cases h; rfl
  | e :: r, xs, h, hl => by
    simp only [namesOfE] at h
    split at h
    · rename_i x xs' h1 h2
      cases h
      cases e with
      | Name y p =>
        simp only [nameOfE] at h1
        cases h1
        rw [List.filterMap_cons] at hl ⊢
        dsimp only at hl ⊢
        by_cases hk : k x p = true
        · simp only [hk, if_true, List.length_cons, Nat.add_right_cancel_iff] at hl ⊢
          rw [names_kept k h2 hl]
        · simp only [hk, Bool.false_eq_true, if_false] at hl
          have := List.length_filterMap_le (fun e => match e with | .Name id pos => if k id pos then some id else none | _ => none) r
          simp only [List.length_cons] at hl
          omega
      | _ => simp [nameOfE] at h1
    · cases h

theorem swapped_or {es : List Expr} {k : Nat} {tpos : Pos} {v : Expr} {iv : Ex} {xs : List Str} (hv : compE cx v = some iv) (hok : valOk v = true) (hn : namesOfE es = some xs) :
    swappedStores [.Tuple es k tpos] v env = pure none ∨ swappedStores [.Tuple es k tpos] v env = pure (some xs) := by
  cases v with
  | Tuple vs kk pp =>
    unfold swappedStores
    simp only [valOk, Bool.not_eq_true'] at hok
    simp only [pure_bind]
    split
    · exact .inl rfl
    · split
      · exact .inl rfl
      · split
        · exact .inl rfl
        · rename_i h3
          split
          · exact .inl rfl
          · rw [hok]
            refine .inr ?_
            simp only [Bool.or_eq_true, not_or, bne_iff_ne, ne_eq, Decidable.not_not] at h3
            have e := names_kept (fun id pos => env.kindOf id == some .local && pos.line == ((es.head?.map (·.pos.line)).getD 0)) hn h3.1
            rw [if_neg Bool.false_ne_true]
            exact congrArg (fun z => (pure (some z) : Sem (Option (List Str)))) e
  | _ => first | (left; rfl) | (simp [compE] at hv)

theorem nodup_slots (B : BlkS cx env L) : ∀ {xs : List Str} {is : List Nat}, xs.map (varAt cx) = is.map some → xs.Nodup → is.Nodup
  | [], [], _, _ => .nil
  | [], _ :: _, h, _ => by simp at h
  | _ :: _, [], h, _ => by simp at h
  | x :: xs, i :: is, h, hd => by
    simp only [List.map_cons, List.cons.injEq] at h
    rw [List.nodup_cons] at hd ⊢
    refine ⟨fun hi => ?_, nodup_slots B h.2 hd.2⟩
    have : some i ∈ xs.map (varAt cx) := by rw [h.2]; exact List.mem_map_of_mem hi
    obtain ⟨y, hy, e⟩ := List.mem_map.mp this
    exact hd.1 (B.inj x y i h.1 e ▸ hy)

theorem ssnd_asgs (hE : ∀ {e : Expr} {ir : Ex}, compE cx e = some ir → ESnd C d cx e ir) {es : List Expr} {k : Nat} {tpos pos : Pos} {v : Expr} {ts : List T1} {iv : Ex} (hok : valOk v = true) (hd : distinct es = true) (ht : compT1s cx es = some ts) (hv : compE cx v = some iv) :
    SSnd C d cx (.Assign [.Tuple es k tpos] v pos) (.asgs ts iv) := by
  intro A h₀ L envF env ex m fr σ tp H s fl fr' H' a B F S ev Q E hq
  obtain ⟨xs, is, k1, rfl, k3, k4, k5, k6⟩ := compT1s_spec (env := env) ht
  have hnd : xs.Nodup := by
    unfold distinct at hd
    dsimp only at hd
    rw [k1] at hd
    exact of_decide_eq_true hd
  simp only [exec] at ev
  split at ev
  · rename_i w h1 ev1
    unfold items at ev
    split at ev
    · rename_i mvs hvs
      split at hvs
      · rename_i vs'
        cases hvs
        obtain ⟨p, hp, e⟩ := Option.map_eq_some_iff.mp ev
        obtain ⟨hl, rfl⟩ := stores_nm hp
        cases e
        have hl' : mvs.length = xs.length := by
          rw [hl]
          have := congrArg List.length k3
          simpa using this.symm
        rcases swapped_or (env := env) (tpos := tpos) (k := k) hv hok k1 with hw | hw
        · refine Assign_Tuple (hE hv A h₀ L envF env [] ex m m fr σ tp H s _ _ a (B.blk ex m) F S ev1 _ _ fun σ1 tp1 rv s1 p1 p2 S1 r1 sm1 => ?_) (by unfold swapsWithSole; exact swaps_no hv) hw
          obtain ⟨t, o, n, ws, rfl, ho, hc, hdt, rr, _⟩ := S1.tup a r1
          refine assign_Tuple_tuple (items := ws.toArray) a.handled ⟨o, ho, hc, n, hdt⟩ (by rw [k5, List.size_toArray, ← rr.length, hl']) k6 fun h' he => ?_
          exact stores_wp B k4 (s := { s1 with heap := h' }) rr hl' (F.mono p2 p1) (S1.grown he) fun m' h'' tk S2 F2 => hq σ1 tp1 m' .next { s1 with heap := h'', toks := tk } p1 p2 S2 F2 .nx sm1
        · refine Assign_Tuple_swapped (names := xs) (hE hv A h₀ L envF env [] ex m m fr σ tp H s _ _ a (B.blk ex m) F S ev1 _ _ fun σ1 tp1 rv s1 p1 p2 S1 r1 sm1 => ?_) (by unfold swapsWithSole; exact swaps_no hv) hw
          obtain ⟨t, o, n, ws, rfl, ho, hc, hdt, rr, _⟩ := S1.tup a r1
          have hsz : xs.length = ws.toArray.size := by rw [List.size_toArray, ← rr.length, hl']
          rw [hsz]
          refine unpackItems_tuple (items := ws.toArray) a.handled ⟨o, ho, hc, n, hdt⟩ fun h' he => ?_
          have hb : BindL cx env xs.reverse is.reverse (xs.reverse.map fun n => bindName env n) := bindL_names (by rw [List.map_reverse, List.map_reverse, k3])
          refine stores_wp B hb (s := { s1 with heap := h' }) rr.reverse (by simp [hl']) (F.mono p2 p1) (S1.grown he) fun m' h'' tk S2 F2 => ?_
          refine hq σ1 tp1 m' .next { s1 with heap := h'', toks := tk } p1 p2 S2 ?_ .nx sm1
          have e : is.reverse.zip mvs.reverse = (is.zip mvs).reverse := by
            exact zip_rev hl.symm
          rw [e, sets_rev _ _ ?_] at F2
          · exact F2
          · rw [List.map_fst_zip (by rw [hl]; exact Nat.le_refl _)]
            exact nodup_slots B k3 hnd
      · cases hvs
    · cases ev
  · cases ev

/-- a loop over a list of the top -/
theorem ssnd_for (hE : ∀ {e : Expr} {ir : Ex}, compE cx e = some ir → ESnd C d cx e ir) {x : Str} {xp pos : Pos} {it : Expr} {b : List Stmt} {i : Nat} {ii : Ex} {ib : List Sm} (hx : varAt cx x = some i) (hi : compE cx it = some ii) (hb : SsSnd C d cx b ib) :
    SSnd C d cx (.For (.Name x xp) it b [] pos) (.fo [i] false ii ib) := by
  intro A h₀ L envF env ex m fr σ tp H s fl fr' H' a B F S ev Q E hq
  simp only [exec] at ev
  split at ev
  · rename_i w h1 ev1
    split at ev
    · rename_i kk hk
      unfold iterOf at hk
      split at hk
      · rename_i mvs
        cases hk
        refine wpAny_For (hE hi A h₀ L envF env [] ex m m fr σ tp H s _ _ a (B.blk ex m) F S ev1 _ _ fun σ1 tp1 rv s1 p1 p2 S1 r1 sm1 => ?_) (fun x => by
          cases it <;> first | rfl | (simp [compE] at hi))
        cases r1 with
        | @fl la o n _ vs hK hc hdt rr _ =>
          have hl0 : ∀ {h : Heap}, C.K.In h → h.IsList la vs.toArray := fun X => ⟨o, X _ _ hK, hc, n, hdt⟩
          refine wpAny_pyIter_list (hl0 (S1.kIn a)) ?_
          have S2 := S1.addEx { cls := .type "list_iterator", data := .fields #[.ref la, .int 0 0] } rfl
          generalize hI : s1.heap.objs.size = I at S2
          refine codeAny_forLoop (fun n s' => ∃ σ2 tp2 m2 fr2 H2 j o', σ1 <+: σ2 ∧ (∀ p ∈ tp1, p ∈ tp2) ∧ Sta C h₀ L σ2 tp2 [] ((I, o') :: ex) H2 m2 s'.heap ∧ o'.cls = .type "list_iterator" ∧ o'.data = .fields #[.ref la, .int (j : Nat) 0] ∧ FrOk C tp2 σ2 cx env [] m2 fr2 ∧ Same s1 s' ∧
            loopF (fun i h => iterNext h i (.fs mvs)) (fun fr h v => bindT fr h [i] false v) (fun fr h => execs (C.cx d) ib fr h) n j fr2 H2 = some (fl, fr', H')) ?_ (C.cx d).fuel
            ⟨σ1, tp1, m, fr, h1, 0, _, List.prefix_refl _, fun _ x => x, S2, rfl, rfl, F.mono p2 p1, ⟨rfl, rfl⟩, ev⟩
          rintro k s' ⟨σ2, tp2, m2, fr2, H2, j, o', q1, q2, S3, oc, od, F3, sm2, lp⟩
          cases k with
          | zero => simp [loopF] at lp
          | succ k =>
            rw [loopF] at lp
            simp only [iterNext] at lp
            have hit : s'.heap.IsListIter I la j := ⟨o', S3.exHead.1, oc, od⟩
            have hX : C.K.In s'.heap := a.k.keeps S3.fr.keep
            split at lp
            · rename_i hnone
              cases lp
              have hno : mvs[j]? = none := by simpa using hnone
              have hvs : vs.toArray[j]? = none := by
                rw [List.getElem?_toArray]
                rw [List.getElem?_eq_none_iff] at hno ⊢
                rw [← rr.length]; exact hno
              refine wpAny_pyNext_list_end a.handled hit (hl0 hX) hvs fun h' he => ?_
              exact wpAny_execs_nil (hq σ2 tp2 m2 .next { s' with heap := h' } (p1.trans q1) (fun p hp => q2 p (p2 p hp)) (S3.endEx he) F3 .nx (sm1.trans sm2))
            · rename_i v hsome
              have hv : mvs[j]? = some v := by simpa using hsome
              obtain ⟨rv, hrv, hr⟩ := rr.get hv
              simp only [bindT, Bool.false_eq_true, if_false] at lp
              refine wpAny_pyNext_list_item hit (hl0 hX) (x := rv) (by simpa using hrv) fun h' hit' hs => ?_
              obtain ⟨o'', g1, g2, g3⟩ := hit'
              have S4 := S3.setEx hs g1
              refine PySem.wpAny_assign_Name (store_name B (s := { s' with heap := h' }) S4 hx fun h'' tk S5 => ?_)
              have F5 := F3.store B hx ((hr.mono q2 q1))
              split at lp
              · rename_i fr6 H6 ev6
                cases lp
                refine hb A h₀ L envF env _ _ _ σ2 tp2 H2 { s' with heap := h'', toks := tk } _ _ _ a B F5 S5 ev6 _ _ fun σ6 tp6 m6 f6 s6 k1 k2 S6 F6 r6 sm6 => ?_
                cases r6
                exact hq σ6 tp6 m6 .next s6 ((p1.trans q1).trans k1) (fun p hp => k2 p (q2 p (p2 p hp))) (S6.endEx (fun _ _ _ e => e)) F6 .nx ((sm1.trans sm2).trans sm6)
              · rename_i v6 fr6 H6 ev6
                cases lp
                refine hb A h₀ L envF env _ _ _ σ2 tp2 H2 { s' with heap := h'', toks := tk } _ _ _ a B F5 S5 ev6 _ _ fun σ6 tp6 m6 f6 s6 k1 k2 S6 F6 r6 sm6 => ?_
                cases r6 with
                | rt h6 => exact hq σ6 tp6 m6 _ s6 ((p1.trans q1).trans k1) (fun p hp => k2 p (q2 p (p2 p hp))) (S6.endEx (fun _ _ _ e => e)) F6 (.rt h6) ((sm1.trans sm2).trans sm6)
              · rename_i fl6 fr6 H6 hn1 hn2 ev6
                refine hb A h₀ L envF env _ _ _ σ2 tp2 H2 { s' with heap := h'', toks := tk } _ _ _ a B F5 S5 ev6 _ _ fun σ6 tp6 m6 f6 s6 k1 k2 S6 F6 r6 sm6 => ?_
                cases r6 with
                | nx => exact ⟨k, Nat.lt_succ_self k, σ6, tp6, m6, fr6, H6, j + 1, o'', q1.trans k1, fun p hp => k2 p (q2 p hp), S6, g2, g3, F6, sm2.trans sm6, lp⟩
                | ct => exact ⟨k, Nat.lt_succ_self k, σ6, tp6, m6, fr6, H6, j + 1, o'', q1.trans k1, fun p hp => k2 p (q2 p hp), S6, g2, g3, F6, sm2.trans sm6, lp⟩
                | bk => exact absurd rfl hn1
                | rt _ => exact absurd rfl (hn2 _)
              · cases lp
            · cases lp
      · cases hk
    · cases ev
  · cases ev
end
end Mi
namespace Mi
open PySem PySem.W PySem.Calls PyProof.Rows
section
variable {C : Cfg} {A : Around} {h₀ : Heap} {L : Addr} {envF env : Env} {ce ex : Led} {m mE : Str → Option Value} {fr : Frame} {σ : List Addr} {tp : Led} {H : MH} {s : Shared} {d : Nat} {cx : CC} {gl : List (Str × Val)}

theorem all_ssnd (O : TabOk C gl) (hC : CallSnd C d) (hg : GlOk C cx.gl) : ∀ n : Nat, (∀ st : Stmt, sizeOf st < n → ∀ ir, compS cx st = some ir → SSnd C d cx st ir) ∧ (∀ sts : List Stmt, sizeOf sts < n → ∀ irs, compSs cx sts = some irs → SsSnd C d cx sts irs) := by
  intro n
  have hE : ∀ {e : Expr} {ir : Ex}, compE cx e = some ir → ESnd C d cx e ir := fun h => esnd O hC hg h
  have hT : ∀ {e : Expr} {ir : Ex}, compE cx e = some ir → TSnd C d cx e ir := fun h => tsnd O hC hg h
  induction n with
  | zero => exact ⟨fun _ h => absurd h (Nat.not_lt_zero _), fun _ h => absurd h (Nat.not_lt_zero _)⟩
  | succ n ih =>
    refine ⟨fun st hn ir h => ?_, fun sts hn irs h => ?_⟩
    · cases st with
      | Pass pos =>
        simp only [compS] at h
        cases h
        intro A h₀ L envF env ex m fr σ tp H s fl fr' H' a B F S ev Q E hq
        simp only [exec] at ev
        cases ev
        exact wpAny_Pass (hq σ tp m _ s (List.prefix_refl σ) (fun _ x => x) S F .nx (Same.refl s))
      | Break pos =>
        simp only [compS] at h
        cases h
        intro A h₀ L envF env ex m fr σ tp H s fl fr' H' a B F S ev Q E hq
        simp only [exec] at ev
        cases ev
        exact fun _ _ _ => (hq σ tp m _ s (List.prefix_refl σ) (fun _ x => x) S F .bk (Same.refl s))
      | Continue pos =>
        simp only [compS] at h
        cases h
        intro A h₀ L envF env ex m fr σ tp H s fl fr' H' a B F S ev Q E hq
        simp only [exec] at ev
        cases ev
        exact fun _ _ _ => (hq σ tp m _ s (List.prefix_refl σ) (fun _ x => x) S F .ct (Same.refl s))
      | Return v pos =>
        simp only [compS] at h
        obtain ⟨iv, hv, rfl⟩ := Option.map_eq_some_iff.mp h
        exact ssnd_ret hE hv
      | Assign ts v pos =>
        simp only [compS] at h
        split at h
        · rename_i es k tpos
          split at h
          · rename_i hok
            rw [Bool.and_eq_true] at hok
            split at h
            · rename_i a b h1 h2
              cases h
              exact ssnd_asgs hE hok.1 hok.2 h1 h2
            · cases h
          · cases h
        · rename_i t _
          split at h
          · rename_i a b h1 h2
            cases h
            cases t with
            | Name x xp =>
              simp only [compT1] at h1
              split at h1
              · obtain ⟨i, hi, rfl⟩ := Option.map_eq_some_iff.mp h1
                exact ssnd_asg hE hi h2
              · cases h1
            | _ => simp [compT1] at h1
          · cases h
        · cases h
      | If t x y pos =>
        simp only [compS] at h
        split at h
        · rename_i a b c h1 h2 h3
          cases h
          exact ssnd_if hT h1 (ih.2 x (by simp only [Stmt.If.sizeOf_spec] at hn; omega) _ h2) (ih.2 y (by simp only [Stmt.If.sizeOf_spec] at hn; omega) _ h3)
        · cases h
      | While t b e pos =>
        simp only [compS] at h
        split at h
        · rename_i a c h1 h2
          cases h
          exact ssnd_while hT h1 (ih.2 b (by simp only [Stmt.While.sizeOf_spec] at hn; omega) _ h2)
        · cases h
      | For t it b e pos =>
        simp only [compS] at h
        split at h
        · rename_i xs a c h1 h2 h3
          obtain ⟨sl, hs, rfl⟩ := Option.map_eq_some_iff.mp h
          cases t with
          | Name x xp =>
            simp only [tgtOf, Option.some.injEq, Prod.mk.injEq, and_true] at h1
            subst h1
            simp only [slotsOf] at hs
            split at hs
            · rename_i i r hi hr
              cases hs
              cases hr
              split at hi
              · exact ssnd_for hE hi h2 (ih.2 b (by simp only [Stmt.For.sizeOf_spec] at hn; omega) _ h3)
              · cases hi
            · cases hs
          | Tuple es k p =>
            simp only [tgtOf] at h1
            obtain ⟨_, _, e⟩ := Option.map_eq_some_iff.mp h1
            simp at e
          | _ => simp [tgtOf] at h1
        · cases h
      | Raise e c pos =>
        simp only [compS] at h
        cases h
        intro A h₀ L envF env ex m fr σ tp H s fl fr' H' a B F S ev
        simp [exec] at ev
      | _ => simp [compS] at h
    · cases sts with
      | nil =>
        simp only [compSs] at h
        cases h
        exact ssnd_nil
      | cons st r =>
        simp only [compSs] at h
        split at h
        · rename_i i is h1 h2
          cases h
          exact ssnd_cons (ih.1 st (by simp only [List.cons.sizeOf_spec] at hn; omega) _ h1) (ih.2 r (by simp only [List.cons.sizeOf_spec] at hn; omega) _ h2)
        · cases h
theorem ssnd (O : TabOk C gl) (hC : CallSnd C d) (hg : GlOk C cx.gl) {sts : List Stmt} {irs : List Sm} (h : compSs cx sts = some irs) : SsSnd C d cx sts irs := (all_ssnd O hC hg _).2 sts (Nat.lt_succ_self _) irs h

theorem lookup_zip : ∀ (l : List Str) (k : Nat) (x : Str) (i : Nat), (l.zip (List.range' k l.length)).lookup x = some i → ∃ j, i = k + j ∧ l[j]? = some x
  | [], k, x, i, h => by simp at h
  | y :: l, k, x, i, h => by
    rw [List.length_cons, List.range'_succ, List.zip_cons_cons, List.lookup_cons] at h
    split at h
    · rename_i e
      cases h
      exact ⟨0, rfl, by rw [beq_iff_eq] at e; simp [e]⟩
    · obtain ⟨j, h1, h2⟩ := lookup_zip l (k + 1) x i h
      exact ⟨j + 1, by omega, by simpa using h2⟩
theorem lookup_nodup {x : Str} {v : Value} : ∀ {l : List (Str × Value)}, (x, v) ∈ l → (l.map (·.1)).Nodup → l.lookup x = some v
  | [], h, _ => nomatch h
  | (y, w) :: l, h, hd => by
    simp only [List.map_cons, List.nodup_cons] at hd
    rw [List.lookup_cons]
    rcases List.mem_cons.mp h with e | h
    · cases e; simp
    · have hne : ¬ x = y := fun e => hd.1 (e ▸ List.mem_map.mpr ⟨_, h, rfl⟩)
      rw [show (x == y) = false from beq_eq_false_iff_ne.mpr hne]
      exact lookup_nodup h hd.2

theorem call_snd (O : TabOk C gl) : ∀ d, CallSnd C d
  | 0 => by
    intro A h₀ L envF ce ex m σ tp H s f fa as vs v H' a S hf r ev
    simp [callN] at ev
  | d + 1 => by
    intro A h₀ L envF ce ex m σ tp H s f fa as vs v H' a S hf r ev Q E hq
    simp only [callN] at ev
    split at ev
    · rename_i fn hfn
      obtain ⟨hfa, hfact⟩ := O.fns _ _ hfn
      obtain ⟨ad, name, qual, params, body, scope, dV, kV, doc, pm, an, cdv, ct, oc, od, osl, k1, k2, k3, k4, k5, k6, k7, k8, k9, k10⟩ := hfact.at_
      rw [hfa, hf] at k1
      cases k1
      split at ev
      · rename_i ws hargs
        have hlen : as.length = fn.np ∧ as = ws := by
          unfold argsOf at hargs
          rw [k5] at hargs
          split at hargs
          · rename_i hcond
            simp only [List.length_nil] at hcond
            cases hargs
            exact ⟨by omega, by simp⟩
          · cases hargs
        obtain ⟨hlen, rfl⟩ := hlen
        unfold compFn at k4
        dsimp only at k4
        split at k4
        · rename_i hcf
          simp only [Bool.and_eq_true, List.all_eq_true, Bool.or_eq_true, beq_iff_eq, Bool.not_eq_true'] at hcf
          obtain ⟨⟨⟨⟨⟨hp, hkind⟩, hgen⟩, hco⟩, hdup⟩, hps⟩ := hcf
          obtain ⟨bd, hbd, e⟩ := Option.map_eq_some_iff.mp k4
          simp only [Prod.mk.injEq] at e
          obtain ⟨e1, e2, e3⟩ := e
          have hnc : ∀ x, scope.names.lookup x ≠ some .cell := fun x hx => k10 _ (lookup_mem hx) rfl
          have hpl : ∀ x ∈ params.args.map (·.arg), scope.names.lookup x = some .local := fun x hx => (hps x hx).resolve_right (hnc x)
          obtain ⟨A₀, base, outer, hB, hA⟩ := a.below
          obtain ⟨p, loose, mean, mg, mb, T⟩ := a.top
          obtain ⟨os, he, hn, hd⟩ := S.os
          have hvl : vs.length = fn.np := by rw [← r.length, hlen]
          refine wpAny_call (code_def (binds := (params.args.map (·.arg)).zip vs) hB S.fr a.k hn T hA a.frame a.kind k2 k3 (by have := a.depth; show A.depth < 1000; omega) (k7 vs hvl s) (fun y hy => hpl y.1 (List.of_mem_zip hy).1) (fun g L' h₁ FG F' N' B' Xg Tg => ?_) hco hgen hkind k10)
          have hA' : (A.deeper (envOf qual scope L' fa cdv)).frames = some (envOf qual scope L' fa cdv :: envF :: outer) := Around.frames_deeper hA
          have a' : Act C (A.deeper (envOf qual scope L' fa cdv)) g L' (envOf qual scope L' fa cdv) d :=
            ⟨⟨A, base, envF :: outer, B', hA'⟩, Xg, ⟨p, loose, mean, mg, mb, Tg⟩, rfl, hkind, a.handled, by have := a.depth; show A.depth + 1 + 4 * d + 4 ≤ 900; omega, by have := a.units; show A.units + 3 + 20 * d + 200 ≤ 9900; omega⟩
          have hsize : 4 ≤ g.objs.size := Nat.le_trans S.big (Nat.le_trans FG.above (Nat.le_of_lt FG.ns.lt))
          have S' : Sta C g L' σ tp [] (ce ++ ex) H (fun y => ((params.args.map (·.arg)).zip vs).reverse.lookup y) h₁ := ⟨F', ⟨os, he, N', hd⟩, hsize, S.lo⟩
          have Bb : BlkS (fnCx (params.args.map (·.arg)) scope gl) (envOf qual scope L' fa cdv) L' := by
            refine ⟨hkind, rfl, rfl, rfl, hnc, rfl, fun x y i hx hy => ?_⟩
            have h1 := (varAt_kind hx).2
            have h2 := (varAt_kind hy).2
            simp only [fnCx, List.range_eq_range'] at h1 h2
            obtain ⟨j, j1, j2⟩ := lookup_zip _ _ _ _ h1
            obtain ⟨j', j3, j4⟩ := lookup_zip _ _ _ _ h2
            have : j = j' := by omega
            subst this
            exact Option.some.inj (j2.symm.trans j4)
          have Ff : FrOk C tp σ (fnCx (params.args.map (·.arg)) scope gl) (envOf qual scope L' fa cdv) [] (fun y => ((params.args.map (·.arg)).zip vs).reverse.lookup y) (as.map some ++ List.replicate (fn.ns - fn.np) none) := by
            intro x i w hx hw
            have hk := (varAt_kind hx).1.resolve_right (hnc x)
            have h1 := (varAt_kind hx).2
            simp only [fnCx, List.range_eq_range'] at h1
            obtain ⟨j, j1, j2⟩ := lookup_zip _ _ _ _ h1
            have hij : i = j := by omega
            subst hij
            have hlt : i < as.length := by
              apply Decidable.byContradiction
              intro hge
              rw [List.getElem?_append_right (by simpa using hge)] at hw
              obtain ⟨_, hw'⟩ := List.getElem?_eq_some_iff.mp hw
              simp at hw'
            rw [List.getElem?_append_left (by simpa using hlt), List.getElem?_map] at hw
            obtain ⟨w', hw1, hw2⟩ := Option.map_eq_some_iff.mp hw
            cases hw2
            obtain ⟨rv, hrv, hr⟩ := r.get hw1
            have hpx : (params.args.map (·.arg))[i]? = some x := by
              unfold fnVars at j2
              rwa [List.getElem?_append_left (by rw [k9, ← hlen]; exact hlt)] at j2
            refine .inl ⟨hk, rv, ?_, hr⟩
            refine lookup_nodup (List.mem_reverse.mpr ?_) ?_
            · have : ((params.args.map (·.arg)).zip vs)[i]? = some (x, rv) := by
                rw [List.getElem?_zip_eq_some]; exact ⟨hpx, hrv⟩
              exact List.mem_of_getElem? this
            · rw [List.map_reverse, (List.reverse_perm _).nodup_iff, List.map_fst_zip (by rw [k9, hvl]; exact Nat.le_refl _)]
              exact k8
          have fin : ∀ fl fr' HE, execs (C.cx d) fn.body (as.map some ++ List.replicate (fn.ns - fn.np) none) H = some (fl, fr', HE) → HE = H' → (∀ f tp' σ', FlR C tp' σ' fl f → VRel C tp' σ' v (match f with | .ret v => v | _ => .none)) →
              wpAny C.M (A.deeper (envOf qual scope L' fa cdv)) (PySem.execs body (envOf qual scope L' fa cdv))
                (fun fl s' => LeaveK h₀ L m g (fun r s' => match r with | .ok (.ret v) => Q v s' | .ok _ => False | .error e => E e s') (match fl with | .ret v => v | _ => .none) s')
                (fun e s' => wpAny C.M (A.deeper (envOf qual scope L' fa cdv)) (leaving (envOf qual scope L' fa cdv) e) (fun _ s'' => E e s'') (fun e' s'' => E e' s'') s')
                { s with heap := h₁, toks := s.toks + ((params.args.map (·.arg)).zip vs).length } := by
            intro fl fr' HE ev' hH hfl
            subst hH
            refine ssnd O (call_snd O d) O.glob (cx := fnCx (params.args.map (·.arg)) scope gl) (e3 ▸ hbd) _ _ _ _ _ _ _ _ _ _ _ _ _ _ _ a' Bb Ff S' ev' _ _ fun σ1 tp1 m1 f s1 p1 p2 S1 F1 r1 sm1 => ?_
            obtain ⟨os1, he1, hn1, hd1⟩ := S1.os
            refine leaveK_ S1.fr hn1 fun F2 N2 => ?_
            exact hq σ1 tp1 _ s1 p1 p2 ⟨F2, ⟨os1, he1, N2, hd1⟩, S.big, S1.lo⟩ (hfl f tp1 σ1 r1) ⟨sm1.1, sm1.2⟩
          split at ev
          · rename_i w fr' HE ev'
            cases ev
            exact fin _ _ _ ev' rfl fun f tp' σ' hr => by cases hr with | rt h => exact h
          · rename_i fr' HE ev'
            cases ev
            exact fin _ _ _ ev' rfl fun f tp' σ' hr => by cases hr; exact .none
          · cases ev
        · cases k4
      · cases ev
    · cases ev
end
end Mi
namespace Mi
open PySem PySem.W PySem.Calls PyProof.Rows

/-- the tables, list by list -/
def AllFn (C : Cfg) (gl : List (Str × Val)) : List Fn → Prop
  | [] => True
  | f :: r => FnFact C gl f ∧ AllFn C gl r
def AllInst (C : Cfg) : List (Nat × Nat) → Prop
  | [] => True
  | p :: r => InstFact C p.1 p.2 ∧ AllInst C r
def AllAttr (C : Cfg) (c : Nat) : List (Nat × Val) → Prop
  | [] => True
  | p :: r => AttrFact C c p.1 p.2 ∧ AllAttr C c r
def AllCls (C : Cfg) : List Cl → Prop
  | [] => True
  | k :: r => AllAttr C k.addr k.attrs ∧ AllCls C r
def AllGl (C : Cfg) : List (Str × Val) → Prop
  | [] => True
  | p :: r => (∃ rv, (∀ tp σ, VRel C tp σ p.2 rv) ∧ (nsIn C.K mainGlobals p.1 = some (some rv) ∨ (nsIn C.K mainGlobals p.1 = some none ∧ p.1 ≠ "__name__" ∧ bootBuiltins p.1 = some rv))) ∧ AllGl C r
theorem AllFn.at {C : Cfg} {gl : List (Str × Val)} : ∀ {l : List Fn}, AllFn C gl l → ∀ f ∈ l, FnFact C gl f
  | _ :: _, h, _, .head _ => h.1
  | _ :: _, h, _, .tail _ m => AllFn.at h.2 _ m
theorem AllInst.at {C : Cfg} : ∀ {l : List (Nat × Nat)}, AllInst C l → ∀ p ∈ l, InstFact C p.1 p.2
  | _ :: _, h, _, .head _ => h.1
  | _ :: _, h, _, .tail _ m => AllInst.at h.2 _ m
theorem AllAttr.at {C : Cfg} {c : Nat} : ∀ {l : List (Nat × Val)}, AllAttr C c l → ∀ p ∈ l, AttrFact C c p.1 p.2
  | _ :: _, h, _, .head _ => h.1
  | _ :: _, h, _, .tail _ m => AllAttr.at h.2 _ m
theorem AllCls.at {C : Cfg} : ∀ {l : List Cl}, AllCls C l → ∀ k ∈ l, AllAttr C k.addr k.attrs
  | _ :: _, h, _, .head _ => h.1
  | _ :: _, h, _, .tail _ m => AllCls.at h.2 _ m
theorem AllGl.at {C : Cfg} : ∀ {l : List (Str × Val)}, AllGl C l → ∀ p ∈ l, (∃ rv, (∀ tp σ, VRel C tp σ p.2 rv) ∧ (nsIn C.K mainGlobals p.1 = some (some rv) ∨ (nsIn C.K mainGlobals p.1 = some none ∧ p.1 ≠ "__name__" ∧ bootBuiltins p.1 = some rv)))
  | _ :: _, h, _, .head _ => h.1
  | _ :: _, h, _, .tail _ m => AllGl.at h.2 _ m
theorem TabOk.of {C : Cfg} {gl : List (Str × Val)} (h1 : AllGl C gl) (h2 : AllFn C gl C.P.fns) (h3 : AllInst C C.P.insts) (h4 : AllCls C C.P.cls) : TabOk C gl := by
  refine ⟨fun x v h => h1.at (x, v) (lookup_mem h), fun a f h => ?_, fun id c h => ?_, fun c n v h => ?_⟩
  · unfold Prg.fnAt at h
    have e := List.find?_some h
    exact ⟨beq_iff_eq.mp e, h2.at f (List.mem_of_find?_eq_some h)⟩
  · unfold Prg.instAt at h
    obtain ⟨p, hp, rfl⟩ := Option.map_eq_some_iff.mp h
    have e := List.find?_some hp
    rw [← beq_iff_eq.mp e]
    exact h3.at p (List.mem_of_find?_eq_some hp)
  · unfold Prg.clsAttr Prg.clsAt at h
    obtain ⟨k, hk, h⟩ := Option.bind_eq_some_iff.mp h
    have e := List.find?_some hk
    unfold fget at h
    obtain ⟨p, hp, rfl⟩ := Option.map_eq_some_iff.mp h
    have e' := List.find?_some hp
    rw [← beq_iff_eq.mp e, ← beq_iff_eq.mp e']
    exact (h4.at k (List.mem_of_find?_eq_some hk)).at p (List.mem_of_find?_eq_some hp)

theorem ndp {l : List Str} (h : decide l.Nodup = true) : l.Nodup := of_decide_eq_true h
theorem ncl {l : List (Str × NameKind)} (h : (l.all fun x => x.2 != .cell) = true) : ∀ x ∈ l, x.2 ≠ .cell := fun x hx e => by
  have := (List.all_eq_true.mp h) x hx
  rw [e] at this
  cases this

theorem sok {s : List Nat} (h : (s.all (fun c => decide (c < 0x110000)) && decide (s.length ≤ lim)) = true) : sOk s := by
  rw [Bool.and_eq_true, List.all_eq_true, decide_eq_true_eq] at h
  exact ⟨fun c hc => of_decide_eq_true (h.1 c hc), h.2⟩
theorem fno {b : Bool} (h : b = false) (h' : b = true) : False := by rw [h] at h'; cases h'

/-- the law's call -/
theorem law_runs {C : Cfg} {gl : List (Str × Val)} (O : TabOk C gl) {s₁ : Shared} {p : Program} {loose : List Str} {mean : ExcName → Option Value} {mg mb : Str → Option Value} (X : C.K.In s₁.heap) (T : Top p loose mean mg mb s₁.heap) (hbig : 4 ≤ s₁.heap.objs.size)
    {f : Nat} {fa : Addr} {mvs : List Val} {rv : Value} {r : Val} {H' : MH} (hf : C.ad.lookup f = some fa) (hv : VRel C [] [] (.fl mvs) rv) (ev : callN C.P fuel0 61 f [.fl mvs] [] = some (r, H')) {Q : Value → Shared → Prop} {E : Value → Shared → Prop}
    (hq : ∀ tp σ v s', VRel C tp σ r v → (∀ b o, s₁.heap.get? b = some o → s'.heap.get? b = some o) → s'.gens = s₁.gens → s'.os = s₁.os → Q v s') :
    wpAny C.M callerA (call (.ref fa) [rv]) Q E s₁ := by
  rw [show (61 : Nat) = 60 + 1 from rfl, callN] at ev
  split at ev
  · rename_i fn hfn
    obtain ⟨hfa, hfact⟩ := O.fns _ _ hfn
    obtain ⟨ad, name, qual, params, body, scope, dV, kV, doc, pm, an, cdv, ct, oc, od, osl, k1, k2, k3, k4, k5, k6, k7, k8, k9, k10⟩ := hfact.at_
    rw [hfa, hf] at k1
    cases k1
    split at ev
    · rename_i ws hargs
      have hlen : [Val.fl mvs].length = fn.np ∧ [Val.fl mvs] = ws := by
        unfold argsOf at hargs
        rw [k5] at hargs
        split at hargs
        · rename_i hcond
          simp only [List.length_nil] at hcond
          cases hargs
          exact ⟨by omega, by simp⟩
        · cases hargs
      obtain ⟨hlen, rfl⟩ := hlen
      unfold compFn at k4
      dsimp only at k4
      split at k4
      · rename_i hcf
        simp only [Bool.and_eq_true, List.all_eq_true, Bool.or_eq_true, beq_iff_eq, Bool.not_eq_true'] at hcf
        obtain ⟨⟨⟨⟨⟨hp, hkind⟩, hgen⟩, hco⟩, hdup⟩, hps⟩ := hcf
        obtain ⟨bd, hbd, e⟩ := Option.map_eq_some_iff.mp k4
        simp only [Prod.mk.injEq] at e
        obtain ⟨e1, e2, e3⟩ := e
        have hnc : ∀ x, scope.names.lookup x ≠ some .cell := fun x hx => k10 _ (lookup_mem hx) rfl
        have hpl : ∀ x ∈ params.args.map (·.arg), scope.names.lookup x = some .local := fun x hx => (hps x hx).resolve_right (hnc x)
        have rr : VRels C [] [] [Val.fl mvs] [rv] := .cons hv .nil
        refine wpAny_call (codeAny_call_def (binds := (params.args.map (·.arg)).zip [rv]) (fd := fnOf name qual params body scope dV kV doc pm an cdv ct) (body := body) (by decide) (X _ _ k2) rfl T.nolimit (codeRec_of X k3) rfl (k7 [rv] hlen s₁) k10 (fun y hy => hpl y.1 (List.of_mem_zip hy).1) (fun h₁ hns hk₁ => ?_) hco hgen hkind)
        show wpAny C.M (callerA.deeper (envOf qual scope s₁.heap.objs.size fa cdv)) (PySem.execs body (envOf qual scope s₁.heap.objs.size fa cdv)) _ _ _
        generalize hL' : s₁.heap.objs.size = L' at *
        have F' : Fr s₁.heap L' h₁ (fun y => ((params.args.map (·.arg)).zip [rv]).reverse.lookup y) := ⟨hns, hk₁, Nat.le_of_eq hL'⟩
        have a' : Act C (callerA.deeper (envOf qual scope L' fa cdv)) s₁.heap L' (envOf qual scope L' fa cdv) 60 :=
          ⟨⟨callerA, s₁.heap, [], below_caller _, rfl⟩, X, ⟨p, loose, mean, mg, mb, T⟩, rfl, hkind, rfl, (by decide : 301 + 1 + 4 * 60 + 4 ≤ 900), (by decide : 4 + 3 + 20 * 60 + 200 ≤ 9900)⟩
        have S' : Sta C s₁.heap L' [] [] [] [] [] (fun y => ((params.args.map (·.arg)).zip [rv]).reverse.lookup y) h₁ := ⟨F', ⟨[], .nil, News.nil, by simp⟩, by rw [hL']; exact hbig, fun _ h => nomatch h⟩
        have Bb : BlkS (fnCx (params.args.map (·.arg)) scope gl) (envOf qual scope L' fa cdv) L' := by
          refine ⟨hkind, rfl, rfl, rfl, hnc, rfl, fun x y i hx hy => ?_⟩
          have h1 := (varAt_kind hx).2
          have h2 := (varAt_kind hy).2
          simp only [fnCx, List.range_eq_range'] at h1 h2
          obtain ⟨j, j1, j2⟩ := lookup_zip _ _ _ _ h1
          obtain ⟨j', j3, j4⟩ := lookup_zip _ _ _ _ h2
          have : j = j' := by omega
          subst this
          exact Option.some.inj (j2.symm.trans j4)
        have Ff : FrOk C [] [] (fnCx (params.args.map (·.arg)) scope gl) (envOf qual scope L' fa cdv) [] (fun y => ((params.args.map (·.arg)).zip [rv]).reverse.lookup y) ([Val.fl mvs].map some ++ List.replicate (fn.ns - fn.np) none) := by
          intro x i w hx hw
          have hk := (varAt_kind hx).1.resolve_right (hnc x)
          have h1 := (varAt_kind hx).2
          simp only [fnCx, List.range_eq_range'] at h1
          obtain ⟨j, j1, j2⟩ := lookup_zip _ _ _ _ h1
          have hij : i = j := by omega
          subst hij
          have hlt : i < [Val.fl mvs].length := by
            apply Decidable.byContradiction
            intro hge
            rw [List.getElem?_append_right (by simp only [List.length_map]; omega)] at hw
            obtain ⟨_, hw'⟩ := List.getElem?_eq_some_iff.mp hw
            simp at hw'
          rw [List.getElem?_append_left (by simpa using hlt), List.getElem?_map] at hw
          obtain ⟨w', hw1, hw2⟩ := Option.map_eq_some_iff.mp hw
          cases hw2
          obtain ⟨rv', hrv, hr⟩ := rr.get hw1
          have hpx : (params.args.map (·.arg))[i]? = some x := by
            unfold fnVars at j2
            rwa [List.getElem?_append_left (by rw [k9, ← hlen]; exact hlt)] at j2
          refine .inl ⟨hk, rv', ?_, hr⟩
          refine lookup_nodup (List.mem_reverse.mpr ?_) ?_
          · have : ((params.args.map (·.arg)).zip [rv])[i]? = some (x, rv') := by
              rw [List.getElem?_zip_eq_some]; exact ⟨hpx, hrv⟩
            exact List.mem_of_getElem? this
          · rw [List.map_reverse, (List.reverse_perm _).nodup_iff, List.map_fst_zip (by rw [k9, ← hlen]; exact Nat.le_refl _)]
            exact k8
        have fin : ∀ fl fr' HE, execs (C.cx 60) fn.body ([Val.fl mvs].map some ++ List.replicate (fn.ns - fn.np) none) [] = some (fl, fr', HE) → (∀ f tp' σ', FlR C tp' σ' fl f → VRel C tp' σ' r (match f with | .ret v => v | _ => .none)) →
            wpAny C.M (callerA.deeper (envOf qual scope L' fa cdv)) (PySem.execs body (envOf qual scope L' fa cdv))
              (fun f s' => Q (match f with | .ret v => v | _ => .none) s')
              (fun e s' => wpAny C.M (callerA.deeper (envOf qual scope L' fa cdv)) (leaving (envOf qual scope L' fa cdv) e) (fun _ s'' => E e s'') (fun e' s'' => E e' s'') s')
              { s₁ with heap := h₁, toks := s₁.toks + ((params.args.map (·.arg)).zip [rv]).length } := by
          intro fl fr' HE ev' hfl
          refine ssnd O (call_snd O 60) O.glob (cx := fnCx (params.args.map (·.arg)) scope gl) (e3 ▸ hbd) _ _ _ _ _ _ _ _ _ _ _ _ _ _ _ a' Bb Ff S' ev' _ _ fun σ1 tp1 m1 f s1 p1 p2 S1 F1 r1 sm1 => ?_
          exact hq tp1 σ1 _ s1 (hfl f tp1 σ1 r1) S1.fr.keep sm1.1 sm1.2
        split at ev
        · rename_i w fr' HE ev'
          cases ev
          exact fin _ _ _ ev' fun f tp' σ' hr => by cases hr with | rt h => exact h
        · rename_i fr' HE ev'
          cases ev
          exact fin _ _ _ ev' fun f tp' σ' hr => by cases hr; exact .none
        · cases ev
      · cases k4
    · cases ev
  · cases ev
end Mi
open PySem PySem.W PySem.W.X PyProof.Rows PySem.Calls
set_option Elab.async false
set_option maxRecDepth 100000
set_option maxHeartbeats 8000000
set_option linter.unusedVariables false
lay_quick PySem.Challenge.pw_ui0508_03
lay_quick PySem.W.staticsOk PySem.W.namesBound PySem.W.laidKept PySem.W.xlAt PySem.W.recOk PySem.W.openGood
namespace Hd
noncomputable def lits0 : List String := ["builtins.copyright#opaque", "builtins.credits#opaque", "builtins.license#opaque"]
end Hd
lay_quick Hd.lits0
namespace Hd
noncomputable abbrev TP : Program := PySem.W.Fast.tw13701318267386878199
theorem tePw : PySem.Challenge.pw_ui0508_03 = TP := PySem.W.Fast.te13701318267386878199
noncomputable abbrev TWtopGo := PySem.W.Fast.tw15667345088766844465
theorem Fast_topGo : @topGo = TWtopGo := PySem.W.Fast.te15667345088766844465
noncomputable abbrev TWtopRun := PySem.W.Fast.tw14082659384304107361
theorem Fast_topRun : @topRun = TWtopRun := PySem.W.Fast.te14082659384304107361
noncomputable abbrev TWsegRun := PySem.W.Fast.tw14374325043358763698
theorem Fast_segRun : @segRun = TWsegRun := PySem.W.Fast.te14374325043358763698
noncomputable abbrev TWsegRunT := PySem.W.Fast.tw10110043849684766642
theorem Fast_segRunT : @segRunT = TWsegRunT := PySem.W.Fast.te10110043849684766642
noncomputable abbrev TWtable := PySem.W.Fast.tw14364793385576792824
theorem Fast_table : @treeTable = TWtable := PySem.W.Fast.te14364793385576792824
noncomputable abbrev TWdenote := PySem.W.Fast.tw11892475500146522536
theorem Fast_denote : @denote = TWdenote := PySem.W.Fast.te11892475500146522536
noncomputable def takeS : Nat → List Stmt → List Stmt
  | 0, _ => []
  | _ + 1, [] => []
  | n + 1, s :: r => s :: takeS n r
noncomputable def dropS : Nat → List Stmt → List Stmt
  | 0, l => l
  | _ + 1, [] => []
  | n + 1, _ :: r => dropS n r
abbrev FnT := Arguments × List Stmt × Scope
noncomputable def noFn : FnT := (⟨[], [], none, [], [], none, []⟩, [], ⟨.function, [], false, false, []⟩)
noncomputable def fnOfL : List Stmt → FnT
  | .FunctionDef _ a b _ _ _ sc _ _ _ :: _ => (a, b, sc)
  | _ => noFn
noncomputable def clsOfL : List Stmt → List Stmt
  | .ClassDef _ _ _ b _ _ _ _ _ _ _ :: _ => b
  | _ => []
noncomputable def fnA (i : Nat) : FnT := fnOfL (dropS i TP.main.body)
noncomputable def fnB (i j : Nat) : FnT := fnOfL (dropS j (clsOfL (dropS i TP.main.body)))
noncomputable def fdOf (f : FnT) (name qual : PySem.Str) (g : Addr) (cl : List (PySem.Str × Addr)) (dV kV doc pm : Value) (an : Option Addr) (cd ct : Value) (b : Addr) : FuncData :=
  { name := name, qualname := qual, params := f.1, body := .stmts f.2.1, scope := f.2.2, globals := g, closure := cl, defaults := dV, kwdefaults := kV, doc := doc, pyModule := pm, annotations := an, code := cd, closureTuple := ct, builtins := b }
noncomputable def de (P : Params) (n : PySem.Str) (t : Tok) (v : Value) : DictEntry := ⟨PyData.keyHash P n, .str n t, v⟩
noncomputable def n0 : PySem.Str := ⟨⟨[60, 109, 111, 100, 117, 108, 101, 62]⟩⟩
noncomputable def n1 : PySem.Str := ⟨⟨[47, 99, 108, 97, 105, 109, 47, 99, 117, 116, 46, 112, 121]⟩⟩
noncomputable def n2 : PySem.Str := ⟨⟨[95, 95, 109, 97, 105, 110, 95, 95]⟩⟩
noncomputable def n3 : PySem.Str := ⟨⟨[95, 95, 110, 97, 109, 101, 95, 95]⟩⟩
noncomputable def n4 : PySem.Str := ⟨⟨[116, 114, 97, 110, 115, 100, 117, 99, 101, 46, 114, 105, 110, 103, 115]⟩⟩
noncomputable def n5 : PySem.Str := ⟨⟨[95, 95, 100, 111, 99, 95, 95]⟩⟩
noncomputable def n6 : PySem.Str := ⟨⟨[95, 95, 112, 97, 99, 107, 97, 103, 101, 95, 95]⟩⟩
noncomputable def n7 : PySem.Str := ⟨⟨[95, 95, 108, 111, 97, 100, 101, 114, 95, 95]⟩⟩
noncomputable def n8 : PySem.Str := ⟨⟨[95, 95, 115, 112, 101, 99, 95, 95]⟩⟩
noncomputable def n9 : PySem.Str := ⟨⟨[95, 95, 97, 110, 110, 111, 116, 97, 116, 105, 111, 110, 115, 95, 95]⟩⟩
noncomputable def n10 : PySem.Str := ⟨⟨[95, 95, 98, 117, 105, 108, 116, 105, 110, 115, 95, 95]⟩⟩
noncomputable def n11 : PySem.Str := ⟨⟨[95, 95, 102, 105, 108, 101, 95, 95]⟩⟩
noncomputable def n12 : PySem.Str := ⟨⟨[95, 95, 99, 97, 99, 104, 101, 100, 95, 95]⟩⟩
noncomputable def n13 : PySem.Str := ⟨⟨[95, 119, 97, 108, 108]⟩⟩
noncomputable def n14 : PySem.Str := ⟨⟨[68, 73, 71, 73, 84, 83]⟩⟩
noncomputable def n15 : PySem.Str := ⟨⟨[48, 49, 50, 51, 52, 53, 54, 55, 56, 57]⟩⟩
noncomputable def n16 : PySem.Str := ⟨⟨[70, 73, 71, 85, 82, 69, 83]⟩⟩
noncomputable def n17 : PySem.Str := ⟨⟨[71, 82, 69, 65, 84, 69, 83, 84]⟩⟩
noncomputable def n18 : PySem.Str := ⟨⟨[77, 97, 99, 104, 105, 110, 101, 69, 114, 114, 111, 114]⟩⟩
noncomputable def n19 : PySem.Str := ⟨⟨[115, 104, 111, 119, 110]⟩⟩
noncomputable def n20 : PySem.Str := ⟨⟨[119, 101, 105, 103, 104, 116, 95, 111, 102]⟩⟩
noncomputable def n21 : PySem.Str := ⟨⟨[107]⟩⟩
noncomputable def n22 : PySem.Str := ⟨⟨[95, 95, 109, 111, 100, 117, 108, 101, 95, 95]⟩⟩
noncomputable def n23 : PySem.Str := ⟨⟨[116, 114, 97, 110, 115, 100, 117, 99, 101, 46, 101, 114, 114, 111, 114, 115]⟩⟩
noncomputable def n24 : PySem.Str := ⟨⟨[95, 95, 113, 117, 97, 108, 110, 97, 109, 101, 95, 95]⟩⟩
noncomputable def n25 : PySem.Str := ⟨⟨[95, 95, 102, 105, 114, 115, 116, 108, 105, 110, 101, 110, 111, 95, 95]⟩⟩
noncomputable def n26 : PySem.Str := ⟨⟨[95, 95, 115, 116, 97, 116, 105, 99, 95, 97, 116, 116, 114, 105, 98, 117, 116, 101, 115, 95, 95]⟩⟩
noncomputable def n27 : PySem.Str := ⟨⟨[95, 95, 119, 101, 97, 107, 114, 101, 102, 95, 95]⟩⟩
noncomputable def n28 : PySem.Str := ⟨⟨[118, 97, 108, 117, 101]⟩⟩
noncomputable def n29 : PySem.Str := ⟨⟨[116, 101, 120, 116]⟩⟩
noncomputable def n30 : PySem.Str := ⟨⟨[115, 105, 103, 110]⟩⟩
noncomputable def n31 : PySem.Str := ⟨⟨[89, 101, 115]⟩⟩
noncomputable def n32 : PySem.Str := ⟨⟨[110, 97, 109, 101]⟩⟩
noncomputable def n33 : PySem.Str := ⟨⟨[121, 101, 115]⟩⟩
noncomputable def n34 : PySem.Str := ⟨⟨[104, 97, 115, 95, 111, 114, 100, 101, 114]⟩⟩
noncomputable def n35 : PySem.Str := ⟨⟨[99, 97, 110, 95, 112, 97, 114, 116]⟩⟩
noncomputable def n36 : PySem.Str := ⟨⟨[110, 111, 117, 103, 104, 116]⟩⟩
noncomputable def n37 : PySem.Str := ⟨⟨[111, 110, 101]⟩⟩
noncomputable def n38 : PySem.Str := ⟨⟨[110, 101, 101, 100]⟩⟩
noncomputable def n39 : PySem.Str := ⟨⟨[112, 108, 117, 115]⟩⟩
noncomputable def n40 : PySem.Str := ⟨⟨[116, 105, 109, 101, 115]⟩⟩
noncomputable def n41 : PySem.Str := ⟨⟨[115, 116, 97, 114]⟩⟩
noncomputable def n42 : PySem.Str := ⟨⟨[99, 111, 109, 109, 111, 110]⟩⟩
noncomputable def n43 : PySem.Str := ⟨⟨[111, 118, 101, 114]⟩⟩
noncomputable def n44 : PySem.Str := ⟨⟨[105, 115, 95, 98, 101, 116, 116, 101, 114]⟩⟩
noncomputable def n45 : PySem.Str := ⟨⟨[115, 104, 111, 119]⟩⟩
noncomputable def n46 : PySem.Str := ⟨⟨[114, 101, 97, 100]⟩⟩
noncomputable def n47 : PySem.Str := ⟨⟨[115, 101, 108, 102]⟩⟩
noncomputable def n48 : PySem.Str := ⟨⟨[97]⟩⟩
noncomputable def n49 : PySem.Str := ⟨⟨[89, 101, 115, 46, 110, 101, 101, 100]⟩⟩
noncomputable def n50 : PySem.Str := ⟨⟨[98]⟩⟩
noncomputable def n51 : PySem.Str := ⟨⟨[89, 101, 115, 46, 112, 108, 117, 115]⟩⟩
noncomputable def n52 : PySem.Str := ⟨⟨[89, 101, 115, 46, 116, 105, 109, 101, 115]⟩⟩
noncomputable def n53 : PySem.Str := ⟨⟨[89, 101, 115, 46, 115, 116, 97, 114]⟩⟩
noncomputable def n54 : PySem.Str := ⟨⟨[114, 111, 119]⟩⟩
noncomputable def n55 : PySem.Str := ⟨⟨[89, 101, 115, 46, 99, 111, 109, 109, 111, 110]⟩⟩
noncomputable def n56 : PySem.Str := ⟨⟨[89, 101, 115, 46, 111, 118, 101, 114]⟩⟩
noncomputable def n57 : PySem.Str := ⟨⟨[89, 101, 115, 46, 105, 115, 95, 98, 101, 116, 116, 101, 114]⟩⟩
noncomputable def n58 : PySem.Str := ⟨⟨[89, 101, 115, 46, 115, 104, 111, 119]⟩⟩
noncomputable def n59 : PySem.Str := ⟨⟨[89, 101, 115, 46, 114, 101, 97, 100]⟩⟩
noncomputable def n60 : PySem.Str := ⟨⟨[95, 95, 100, 105, 99, 116, 95, 95]⟩⟩
noncomputable def n61 : PySem.Str := ⟨⟨[76, 101, 97, 115, 116]⟩⟩
noncomputable def n62 : PySem.Str := ⟨⟨[108, 101, 97, 115, 116]⟩⟩
noncomputable def n63 : PySem.Str := ⟨⟨[76, 101, 97, 115, 116, 46, 110, 101, 101, 100]⟩⟩
noncomputable def n64 : PySem.Str := ⟨⟨[76, 101, 97, 115, 116, 46, 112, 108, 117, 115]⟩⟩
noncomputable def n65 : PySem.Str := ⟨⟨[76, 101, 97, 115, 116, 46, 116, 105, 109, 101, 115]⟩⟩
noncomputable def n66 : PySem.Str := ⟨⟨[76, 101, 97, 115, 116, 46, 115, 116, 97, 114]⟩⟩
noncomputable def n67 : PySem.Str := ⟨⟨[76, 101, 97, 115, 116, 46, 99, 111, 109, 109, 111, 110]⟩⟩
noncomputable def n68 : PySem.Str := ⟨⟨[76, 101, 97, 115, 116, 46, 111, 118, 101, 114]⟩⟩
noncomputable def n69 : PySem.Str := ⟨⟨[76, 101, 97, 115, 116, 46, 105, 115, 95, 98, 101, 116, 116, 101, 114]⟩⟩
noncomputable def n70 : PySem.Str := ⟨⟨[76, 101, 97, 115, 116, 46, 115, 104, 111, 119]⟩⟩
noncomputable def n71 : PySem.Str := ⟨⟨[76, 101, 97, 115, 116, 46, 114, 101, 97, 100]⟩⟩
noncomputable def n72 : PySem.Str := ⟨⟨[67, 111, 117, 110, 116]⟩⟩
noncomputable def n73 : PySem.Str := ⟨⟨[95, 103, 99, 100]⟩⟩
noncomputable def n74 : PySem.Str := ⟨⟨[99, 111, 117, 110, 116]⟩⟩
noncomputable def n75 : PySem.Str := ⟨⟨[67, 111, 117, 110, 116, 46, 110, 101, 101, 100]⟩⟩
noncomputable def n76 : PySem.Str := ⟨⟨[67, 111, 117, 110, 116, 46, 112, 108, 117, 115]⟩⟩
noncomputable def n77 : PySem.Str := ⟨⟨[67, 111, 117, 110, 116, 46, 116, 105, 109, 101, 115]⟩⟩
noncomputable def n78 : PySem.Str := ⟨⟨[67, 111, 117, 110, 116, 46, 115, 116, 97, 114]⟩⟩
noncomputable def n79 : PySem.Str := ⟨⟨[67, 111, 117, 110, 116, 46, 99, 111, 109, 109, 111, 110]⟩⟩
noncomputable def n80 : PySem.Str := ⟨⟨[67, 111, 117, 110, 116, 46, 111, 118, 101, 114]⟩⟩
noncomputable def n81 : PySem.Str := ⟨⟨[67, 111, 117, 110, 116, 46, 105, 115, 95, 98, 101, 116, 116, 101, 114]⟩⟩
noncomputable def n82 : PySem.Str := ⟨⟨[67, 111, 117, 110, 116, 46, 115, 104, 111, 119]⟩⟩
noncomputable def n83 : PySem.Str := ⟨⟨[67, 111, 117, 110, 116, 46, 114, 101, 97, 100]⟩⟩
noncomputable def n84 : PySem.Str := ⟨⟨[67, 104, 97, 110, 99, 101]⟩⟩
noncomputable def n85 : PySem.Str := ⟨⟨[99, 104, 97, 110, 99, 101]⟩⟩
noncomputable def n86 : PySem.Str := ⟨⟨[67, 104, 97, 110, 99, 101, 46, 110, 101, 101, 100]⟩⟩
noncomputable def n87 : PySem.Str := ⟨⟨[67, 104, 97, 110, 99, 101, 46, 112, 108, 117, 115]⟩⟩
noncomputable def n88 : PySem.Str := ⟨⟨[67, 104, 97, 110, 99, 101, 46, 116, 105, 109, 101, 115]⟩⟩
noncomputable def n89 : PySem.Str := ⟨⟨[67, 104, 97, 110, 99, 101, 46, 115, 116, 97, 114]⟩⟩
noncomputable def n90 : PySem.Str := ⟨⟨[67, 104, 97, 110, 99, 101, 46, 99, 111, 109, 109, 111, 110]⟩⟩
noncomputable def n91 : PySem.Str := ⟨⟨[67, 104, 97, 110, 99, 101, 46, 111, 118, 101, 114]⟩⟩
noncomputable def n92 : PySem.Str := ⟨⟨[67, 104, 97, 110, 99, 101, 46, 105, 115, 95, 98, 101, 116, 116, 101, 114]⟩⟩
noncomputable def n93 : PySem.Str := ⟨⟨[67, 104, 97, 110, 99, 101, 46, 115, 104, 111, 119]⟩⟩
noncomputable def n94 : PySem.Str := ⟨⟨[117, 112, 112, 101, 114]⟩⟩
noncomputable def n95 : PySem.Str := ⟨⟨[109, 97, 114, 107]⟩⟩
noncomputable def n96 : PySem.Str := ⟨⟨[108, 111, 119, 101, 114]⟩⟩
noncomputable def n97 : PySem.Str := ⟨⟨[67, 104, 97, 110, 99, 101, 46, 114, 101, 97, 100]⟩⟩
noncomputable def n98 : PySem.Str := ⟨⟨[76, 105, 107, 101, 108, 121]⟩⟩
noncomputable def n99 : PySem.Str := ⟨⟨[102, 114, 97, 99, 116, 105, 111, 110]⟩⟩
noncomputable def n100 : PySem.Str := ⟨⟨[108, 105, 107, 101, 108, 121]⟩⟩
noncomputable def n101 : PySem.Str := ⟨⟨[76, 105, 107, 101, 108, 121, 46, 110, 101, 101, 100]⟩⟩
noncomputable def n102 : PySem.Str := ⟨⟨[76, 105, 107, 101, 108, 121, 46, 112, 108, 117, 115]⟩⟩
noncomputable def n103 : PySem.Str := ⟨⟨[76, 105, 107, 101, 108, 121, 46, 115, 116, 97, 114]⟩⟩
noncomputable def n104 : PySem.Str := ⟨⟨[76, 105, 107, 101, 108, 121, 46, 105, 115, 95, 98, 101, 116, 116, 101, 114]⟩⟩
noncomputable def n105 : PySem.Str := ⟨⟨[110]⟩⟩
noncomputable def n106 : PySem.Str := ⟨⟨[100]⟩⟩
noncomputable def n107 : PySem.Str := ⟨⟨[98, 121]⟩⟩
noncomputable def n108 : PySem.Str := ⟨⟨[108, 97, 119, 95, 117, 105, 48, 53, 48, 56, 95, 48, 51]⟩⟩
noncomputable def n109 : PySem.Str := ⟨⟨[82, 73, 78, 71, 83]⟩⟩
noncomputable def n110 : PySem.Str := ⟨⟨[114, 105, 110, 103]⟩⟩
noncomputable def n111 : PySem.Str := ⟨⟨[108, 97, 119]⟩⟩
noncomputable def n112 : PySem.Str := ⟨⟨[115, 99, 114, 105, 112, 116]⟩⟩
noncomputable def n113 : PySem.Str := ⟨⟨[119, 104, 111, 108, 101]⟩⟩
noncomputable def n114 : PySem.Str := ⟨⟨[98, 117, 105, 108, 116, 105, 110, 115]⟩⟩
noncomputable def n115 : PySem.Str := ⟨⟨[95, 95, 98, 117, 105, 108, 100, 95, 99, 108, 97, 115, 115, 95, 95]⟩⟩
noncomputable def n116 : PySem.Str := ⟨⟨[95, 95, 105, 109, 112, 111, 114, 116, 95, 95]⟩⟩
noncomputable def n117 : PySem.Str := ⟨⟨[97, 98, 115]⟩⟩
noncomputable def n118 : PySem.Str := ⟨⟨[97, 108, 108]⟩⟩
noncomputable def n119 : PySem.Str := ⟨⟨[97, 110, 121]⟩⟩
noncomputable def n120 : PySem.Str := ⟨⟨[97, 115, 99, 105, 105]⟩⟩
noncomputable def n121 : PySem.Str := ⟨⟨[98, 105, 110]⟩⟩
noncomputable def n122 : PySem.Str := ⟨⟨[98, 114, 101, 97, 107, 112, 111, 105, 110, 116]⟩⟩
noncomputable def n123 : PySem.Str := ⟨⟨[99, 97, 108, 108, 97, 98, 108, 101]⟩⟩
noncomputable def n124 : PySem.Str := ⟨⟨[99, 104, 114]⟩⟩
noncomputable def n125 : PySem.Str := ⟨⟨[99, 111, 109, 112, 105, 108, 101]⟩⟩
noncomputable def n126 : PySem.Str := ⟨⟨[100, 101, 108, 97, 116, 116, 114]⟩⟩
noncomputable def n127 : PySem.Str := ⟨⟨[100, 105, 114]⟩⟩
noncomputable def n128 : PySem.Str := ⟨⟨[100, 105, 118, 109, 111, 100]⟩⟩
noncomputable def n129 : PySem.Str := ⟨⟨[101, 118, 97, 108]⟩⟩
noncomputable def n130 : PySem.Str := ⟨⟨[101, 120, 101, 99]⟩⟩
noncomputable def n131 : PySem.Str := ⟨⟨[102, 111, 114, 109, 97, 116]⟩⟩
noncomputable def n132 : PySem.Str := ⟨⟨[103, 101, 116, 97, 116, 116, 114]⟩⟩
noncomputable def n133 : PySem.Str := ⟨⟨[103, 108, 111, 98, 97, 108, 115]⟩⟩
noncomputable def n134 : PySem.Str := ⟨⟨[104, 97, 115, 97, 116, 116, 114]⟩⟩
noncomputable def n135 : PySem.Str := ⟨⟨[104, 97, 115, 104]⟩⟩
noncomputable def n136 : PySem.Str := ⟨⟨[104, 101, 120]⟩⟩
noncomputable def n137 : PySem.Str := ⟨⟨[105, 100]⟩⟩
noncomputable def n138 : PySem.Str := ⟨⟨[105, 110, 112, 117, 116]⟩⟩
noncomputable def n139 : PySem.Str := ⟨⟨[105, 115, 105, 110, 115, 116, 97, 110, 99, 101]⟩⟩
noncomputable def n140 : PySem.Str := ⟨⟨[105, 115, 115, 117, 98, 99, 108, 97, 115, 115]⟩⟩
noncomputable def n141 : PySem.Str := ⟨⟨[105, 116, 101, 114]⟩⟩
noncomputable def n142 : PySem.Str := ⟨⟨[97, 105, 116, 101, 114]⟩⟩
noncomputable def n143 : PySem.Str := ⟨⟨[108, 101, 110]⟩⟩
noncomputable def n144 : PySem.Str := ⟨⟨[108, 111, 99, 97, 108, 115]⟩⟩
noncomputable def n145 : PySem.Str := ⟨⟨[109, 97, 120]⟩⟩
noncomputable def n146 : PySem.Str := ⟨⟨[109, 105, 110]⟩⟩
noncomputable def n147 : PySem.Str := ⟨⟨[110, 101, 120, 116]⟩⟩
noncomputable def n148 : PySem.Str := ⟨⟨[97, 110, 101, 120, 116]⟩⟩
noncomputable def n149 : PySem.Str := ⟨⟨[111, 99, 116]⟩⟩
noncomputable def n150 : PySem.Str := ⟨⟨[111, 114, 100]⟩⟩
noncomputable def n151 : PySem.Str := ⟨⟨[112, 111, 119]⟩⟩
noncomputable def n152 : PySem.Str := ⟨⟨[112, 114, 105, 110, 116]⟩⟩
noncomputable def n153 : PySem.Str := ⟨⟨[114, 101, 112, 114]⟩⟩
noncomputable def n154 : PySem.Str := ⟨⟨[114, 111, 117, 110, 100]⟩⟩
noncomputable def n155 : PySem.Str := ⟨⟨[115, 101, 116, 97, 116, 116, 114]⟩⟩
noncomputable def n156 : PySem.Str := ⟨⟨[115, 111, 114, 116, 101, 100]⟩⟩
noncomputable def n157 : PySem.Str := ⟨⟨[115, 117, 109]⟩⟩
noncomputable def n158 : PySem.Str := ⟨⟨[118, 97, 114, 115]⟩⟩
noncomputable def n159 : PySem.Str := ⟨⟨[78, 111, 110, 101]⟩⟩
noncomputable def n160 : PySem.Str := ⟨⟨[69, 108, 108, 105, 112, 115, 105, 115]⟩⟩
noncomputable def n161 : PySem.Str := ⟨⟨[78, 111, 116, 73, 109, 112, 108, 101, 109, 101, 110, 116, 101, 100]⟩⟩
noncomputable def n162 : PySem.Str := ⟨⟨[70, 97, 108, 115, 101]⟩⟩
noncomputable def n163 : PySem.Str := ⟨⟨[84, 114, 117, 101]⟩⟩
noncomputable def n164 : PySem.Str := ⟨⟨[98, 111, 111, 108]⟩⟩
noncomputable def n165 : PySem.Str := ⟨⟨[109, 101, 109, 111, 114, 121, 118, 105, 101, 119]⟩⟩
noncomputable def n166 : PySem.Str := ⟨⟨[98, 121, 116, 101, 97, 114, 114, 97, 121]⟩⟩
noncomputable def n167 : PySem.Str := ⟨⟨[98, 121, 116, 101, 115]⟩⟩
noncomputable def n168 : PySem.Str := ⟨⟨[99, 108, 97, 115, 115, 109, 101, 116, 104, 111, 100]⟩⟩
noncomputable def n169 : PySem.Str := ⟨⟨[99, 111, 109, 112, 108, 101, 120]⟩⟩
noncomputable def n170 : PySem.Str := ⟨⟨[100, 105, 99, 116]⟩⟩
noncomputable def n171 : PySem.Str := ⟨⟨[101, 110, 117, 109, 101, 114, 97, 116, 101]⟩⟩
noncomputable def n172 : PySem.Str := ⟨⟨[102, 105, 108, 116, 101, 114]⟩⟩
noncomputable def n173 : PySem.Str := ⟨⟨[102, 108, 111, 97, 116]⟩⟩
noncomputable def n174 : PySem.Str := ⟨⟨[102, 114, 111, 122, 101, 110, 115, 101, 116]⟩⟩
noncomputable def n175 : PySem.Str := ⟨⟨[112, 114, 111, 112, 101, 114, 116, 121]⟩⟩
noncomputable def n176 : PySem.Str := ⟨⟨[105, 110, 116]⟩⟩
noncomputable def n177 : PySem.Str := ⟨⟨[108, 105, 115, 116]⟩⟩
noncomputable def n178 : PySem.Str := ⟨⟨[109, 97, 112]⟩⟩
noncomputable def n179 : PySem.Str := ⟨⟨[111, 98, 106, 101, 99, 116]⟩⟩
noncomputable def n180 : PySem.Str := ⟨⟨[114, 97, 110, 103, 101]⟩⟩
noncomputable def n181 : PySem.Str := ⟨⟨[114, 101, 118, 101, 114, 115, 101, 100]⟩⟩
noncomputable def n182 : PySem.Str := ⟨⟨[115, 101, 116]⟩⟩
noncomputable def n183 : PySem.Str := ⟨⟨[115, 108, 105, 99, 101]⟩⟩
noncomputable def n184 : PySem.Str := ⟨⟨[115, 116, 97, 116, 105, 99, 109, 101, 116, 104, 111, 100]⟩⟩
noncomputable def n185 : PySem.Str := ⟨⟨[115, 116, 114]⟩⟩
noncomputable def n186 : PySem.Str := ⟨⟨[115, 117, 112, 101, 114]⟩⟩
noncomputable def n187 : PySem.Str := ⟨⟨[116, 117, 112, 108, 101]⟩⟩
noncomputable def n188 : PySem.Str := ⟨⟨[116, 121, 112, 101]⟩⟩
noncomputable def n189 : PySem.Str := ⟨⟨[122, 105, 112]⟩⟩
noncomputable def n190 : PySem.Str := ⟨⟨[95, 95, 100, 101, 98, 117, 103, 95, 95]⟩⟩
noncomputable def n191 : PySem.Str := ⟨⟨[66, 97, 115, 101, 69, 120, 99, 101, 112, 116, 105, 111, 110]⟩⟩
noncomputable def n192 : PySem.Str := ⟨⟨[66, 97, 115, 101, 69, 120, 99, 101, 112, 116, 105, 111, 110, 71, 114, 111, 117, 112]⟩⟩
noncomputable def n193 : PySem.Str := ⟨⟨[69, 120, 99, 101, 112, 116, 105, 111, 110]⟩⟩
noncomputable def n194 : PySem.Str := ⟨⟨[71, 101, 110, 101, 114, 97, 116, 111, 114, 69, 120, 105, 116]⟩⟩
noncomputable def n195 : PySem.Str := ⟨⟨[75, 101, 121, 98, 111, 97, 114, 100, 73, 110, 116, 101, 114, 114, 117, 112, 116]⟩⟩
noncomputable def n196 : PySem.Str := ⟨⟨[83, 121, 115, 116, 101, 109, 69, 120, 105, 116]⟩⟩
noncomputable def n197 : PySem.Str := ⟨⟨[65, 114, 105, 116, 104, 109, 101, 116, 105, 99, 69, 114, 114, 111, 114]⟩⟩
noncomputable def n198 : PySem.Str := ⟨⟨[65, 115, 115, 101, 114, 116, 105, 111, 110, 69, 114, 114, 111, 114]⟩⟩
noncomputable def n199 : PySem.Str := ⟨⟨[65, 116, 116, 114, 105, 98, 117, 116, 101, 69, 114, 114, 111, 114]⟩⟩
noncomputable def n200 : PySem.Str := ⟨⟨[66, 117, 102, 102, 101, 114, 69, 114, 114, 111, 114]⟩⟩
noncomputable def n201 : PySem.Str := ⟨⟨[69, 79, 70, 69, 114, 114, 111, 114]⟩⟩
noncomputable def n202 : PySem.Str := ⟨⟨[73, 109, 112, 111, 114, 116, 69, 114, 114, 111, 114]⟩⟩
noncomputable def n203 : PySem.Str := ⟨⟨[76, 111, 111, 107, 117, 112, 69, 114, 114, 111, 114]⟩⟩
noncomputable def n204 : PySem.Str := ⟨⟨[77, 101, 109, 111, 114, 121, 69, 114, 114, 111, 114]⟩⟩
noncomputable def n205 : PySem.Str := ⟨⟨[78, 97, 109, 101, 69, 114, 114, 111, 114]⟩⟩
noncomputable def n206 : PySem.Str := ⟨⟨[79, 83, 69, 114, 114, 111, 114]⟩⟩
noncomputable def n207 : PySem.Str := ⟨⟨[82, 101, 102, 101, 114, 101, 110, 99, 101, 69, 114, 114, 111, 114]⟩⟩
noncomputable def n208 : PySem.Str := ⟨⟨[82, 117, 110, 116, 105, 109, 101, 69, 114, 114, 111, 114]⟩⟩
noncomputable def n209 : PySem.Str := ⟨⟨[83, 116, 111, 112, 65, 115, 121, 110, 99, 73, 116, 101, 114, 97, 116, 105, 111, 110]⟩⟩
noncomputable def n210 : PySem.Str := ⟨⟨[83, 116, 111, 112, 73, 116, 101, 114, 97, 116, 105, 111, 110]⟩⟩
noncomputable def n211 : PySem.Str := ⟨⟨[83, 121, 110, 116, 97, 120, 69, 114, 114, 111, 114]⟩⟩
noncomputable def n212 : PySem.Str := ⟨⟨[83, 121, 115, 116, 101, 109, 69, 114, 114, 111, 114]⟩⟩
noncomputable def n213 : PySem.Str := ⟨⟨[84, 121, 112, 101, 69, 114, 114, 111, 114]⟩⟩
noncomputable def n214 : PySem.Str := ⟨⟨[86, 97, 108, 117, 101, 69, 114, 114, 111, 114]⟩⟩
noncomputable def n215 : PySem.Str := ⟨⟨[87, 97, 114, 110, 105, 110, 103]⟩⟩
noncomputable def n216 : PySem.Str := ⟨⟨[70, 108, 111, 97, 116, 105, 110, 103, 80, 111, 105, 110, 116, 69, 114, 114, 111, 114]⟩⟩
noncomputable def n217 : PySem.Str := ⟨⟨[79, 118, 101, 114, 102, 108, 111, 119, 69, 114, 114, 111, 114]⟩⟩
noncomputable def n218 : PySem.Str := ⟨⟨[90, 101, 114, 111, 68, 105, 118, 105, 115, 105, 111, 110, 69, 114, 114, 111, 114]⟩⟩
noncomputable def n219 : PySem.Str := ⟨⟨[66, 121, 116, 101, 115, 87, 97, 114, 110, 105, 110, 103]⟩⟩
noncomputable def n220 : PySem.Str := ⟨⟨[68, 101, 112, 114, 101, 99, 97, 116, 105, 111, 110, 87, 97, 114, 110, 105, 110, 103]⟩⟩
noncomputable def n221 : PySem.Str := ⟨⟨[69, 110, 99, 111, 100, 105, 110, 103, 87, 97, 114, 110, 105, 110, 103]⟩⟩
noncomputable def n222 : PySem.Str := ⟨⟨[70, 117, 116, 117, 114, 101, 87, 97, 114, 110, 105, 110, 103]⟩⟩
noncomputable def n223 : PySem.Str := ⟨⟨[73, 109, 112, 111, 114, 116, 87, 97, 114, 110, 105, 110, 103]⟩⟩
noncomputable def n224 : PySem.Str := ⟨⟨[80, 101, 110, 100, 105, 110, 103, 68, 101, 112, 114, 101, 99, 97, 116, 105, 111, 110, 87, 97, 114, 110, 105, 110, 103]⟩⟩
noncomputable def n225 : PySem.Str := ⟨⟨[82, 101, 115, 111, 117, 114, 99, 101, 87, 97, 114, 110, 105, 110, 103]⟩⟩
noncomputable def n226 : PySem.Str := ⟨⟨[82, 117, 110, 116, 105, 109, 101, 87, 97, 114, 110, 105, 110, 103]⟩⟩
noncomputable def n227 : PySem.Str := ⟨⟨[83, 121, 110, 116, 97, 120, 87, 97, 114, 110, 105, 110, 103]⟩⟩
noncomputable def n228 : PySem.Str := ⟨⟨[85, 110, 105, 99, 111, 100, 101, 87, 97, 114, 110, 105, 110, 103]⟩⟩
noncomputable def n229 : PySem.Str := ⟨⟨[85, 115, 101, 114, 87, 97, 114, 110, 105, 110, 103]⟩⟩
noncomputable def n230 : PySem.Str := ⟨⟨[66, 108, 111, 99, 107, 105, 110, 103, 73, 79, 69, 114, 114, 111, 114]⟩⟩
noncomputable def n231 : PySem.Str := ⟨⟨[67, 104, 105, 108, 100, 80, 114, 111, 99, 101, 115, 115, 69, 114, 114, 111, 114]⟩⟩
noncomputable def n232 : PySem.Str := ⟨⟨[67, 111, 110, 110, 101, 99, 116, 105, 111, 110, 69, 114, 114, 111, 114]⟩⟩
noncomputable def n233 : PySem.Str := ⟨⟨[70, 105, 108, 101, 69, 120, 105, 115, 116, 115, 69, 114, 114, 111, 114]⟩⟩
noncomputable def n234 : PySem.Str := ⟨⟨[70, 105, 108, 101, 78, 111, 116, 70, 111, 117, 110, 100, 69, 114, 114, 111, 114]⟩⟩
noncomputable def n235 : PySem.Str := ⟨⟨[73, 110, 116, 101, 114, 114, 117, 112, 116, 101, 100, 69, 114, 114, 111, 114]⟩⟩
noncomputable def n236 : PySem.Str := ⟨⟨[73, 115, 65, 68, 105, 114, 101, 99, 116, 111, 114, 121, 69, 114, 114, 111, 114]⟩⟩
noncomputable def n237 : PySem.Str := ⟨⟨[78, 111, 116, 65, 68, 105, 114, 101, 99, 116, 111, 114, 121, 69, 114, 114, 111, 114]⟩⟩
noncomputable def n238 : PySem.Str := ⟨⟨[80, 101, 114, 109, 105, 115, 115, 105, 111, 110, 69, 114, 114, 111, 114]⟩⟩
noncomputable def n239 : PySem.Str := ⟨⟨[80, 114, 111, 99, 101, 115, 115, 76, 111, 111, 107, 117, 112, 69, 114, 114, 111, 114]⟩⟩
noncomputable def n240 : PySem.Str := ⟨⟨[84, 105, 109, 101, 111, 117, 116, 69, 114, 114, 111, 114]⟩⟩
noncomputable def n241 : PySem.Str := ⟨⟨[73, 110, 100, 101, 110, 116, 97, 116, 105, 111, 110, 69, 114, 114, 111, 114]⟩⟩
noncomputable def n242 : PySem.Str := ⟨⟨[95, 73, 110, 99, 111, 109, 112, 108, 101, 116, 101, 73, 110, 112, 117, 116, 69, 114, 114, 111, 114]⟩⟩
noncomputable def n243 : PySem.Str := ⟨⟨[73, 110, 100, 101, 120, 69, 114, 114, 111, 114]⟩⟩
noncomputable def n244 : PySem.Str := ⟨⟨[75, 101, 121, 69, 114, 114, 111, 114]⟩⟩
noncomputable def n245 : PySem.Str := ⟨⟨[77, 111, 100, 117, 108, 101, 78, 111, 116, 70, 111, 117, 110, 100, 69, 114, 114, 111, 114]⟩⟩
noncomputable def n246 : PySem.Str := ⟨⟨[78, 111, 116, 73, 109, 112, 108, 101, 109, 101, 110, 116, 101, 100, 69, 114, 114, 111, 114]⟩⟩
noncomputable def n247 : PySem.Str := ⟨⟨[80, 121, 116, 104, 111, 110, 70, 105, 110, 97, 108, 105, 122, 97, 116, 105, 111, 110, 69, 114, 114, 111, 114]⟩⟩
noncomputable def n248 : PySem.Str := ⟨⟨[82, 101, 99, 117, 114, 115, 105, 111, 110, 69, 114, 114, 111, 114]⟩⟩
noncomputable def n249 : PySem.Str := ⟨⟨[85, 110, 98, 111, 117, 110, 100, 76, 111, 99, 97, 108, 69, 114, 114, 111, 114]⟩⟩
noncomputable def n250 : PySem.Str := ⟨⟨[85, 110, 105, 99, 111, 100, 101, 69, 114, 114, 111, 114]⟩⟩
noncomputable def n251 : PySem.Str := ⟨⟨[66, 114, 111, 107, 101, 110, 80, 105, 112, 101, 69, 114, 114, 111, 114]⟩⟩
noncomputable def n252 : PySem.Str := ⟨⟨[67, 111, 110, 110, 101, 99, 116, 105, 111, 110, 65, 98, 111, 114, 116, 101, 100, 69, 114, 114, 111, 114]⟩⟩
noncomputable def n253 : PySem.Str := ⟨⟨[67, 111, 110, 110, 101, 99, 116, 105, 111, 110, 82, 101, 102, 117, 115, 101, 100, 69, 114, 114, 111, 114]⟩⟩
noncomputable def n254 : PySem.Str := ⟨⟨[67, 111, 110, 110, 101, 99, 116, 105, 111, 110, 82, 101, 115, 101, 116, 69, 114, 114, 111, 114]⟩⟩
noncomputable def n255 : PySem.Str := ⟨⟨[84, 97, 98, 69, 114, 114, 111, 114]⟩⟩
noncomputable def n256 : PySem.Str := ⟨⟨[85, 110, 105, 99, 111, 100, 101, 68, 101, 99, 111, 100, 101, 69, 114, 114, 111, 114]⟩⟩
noncomputable def n257 : PySem.Str := ⟨⟨[85, 110, 105, 99, 111, 100, 101, 69, 110, 99, 111, 100, 101, 69, 114, 114, 111, 114]⟩⟩
noncomputable def n258 : PySem.Str := ⟨⟨[85, 110, 105, 99, 111, 100, 101, 84, 114, 97, 110, 115, 108, 97, 116, 101, 69, 114, 114, 111, 114]⟩⟩
noncomputable def n259 : PySem.Str := ⟨⟨[69, 120, 99, 101, 112, 116, 105, 111, 110, 71, 114, 111, 117, 112]⟩⟩
noncomputable def n260 : PySem.Str := ⟨⟨[69, 110, 118, 105, 114, 111, 110, 109, 101, 110, 116, 69, 114, 114, 111, 114]⟩⟩
noncomputable def n261 : PySem.Str := ⟨⟨[73, 79, 69, 114, 114, 111, 114]⟩⟩
noncomputable def n262 : PySem.Str := ⟨⟨[111, 112, 101, 110]⟩⟩
noncomputable def n263 : PySem.Str := ⟨⟨[113, 117, 105, 116]⟩⟩
noncomputable def n264 : PySem.Str := ⟨⟨[101, 120, 105, 116]⟩⟩
noncomputable def n265 : PySem.Str := ⟨⟨[99, 111, 112, 121, 114, 105, 103, 104, 116]⟩⟩
noncomputable def n266 : PySem.Str := ⟨⟨[99, 114, 101, 100, 105, 116, 115]⟩⟩
noncomputable def n267 : PySem.Str := ⟨⟨[108, 105, 99, 101, 110, 115, 101]⟩⟩
noncomputable def n268 : PySem.Str := ⟨⟨[104, 101, 108, 112]⟩⟩
noncomputable def big0 : Int := 10000000000000000000000000000000000000000000000000000000000000000000000000000000000000000000000000000000000000000000000000000000000000000000000000000000000000000000000000000000000000000000000000000000000000000000000000000000000000000000000000000000000000000000000000000000000000000000000000000000000000000000000000000000000000000000000000000000000000000000000000000000000000000000000000000000000000000000000000000000000000000000000000000000000000000000000000000000000000000000000000000000000000000000000000000000000000000000000000000000000000000000000000000000000000000000000000000000000000000000000000000000000000000000000000000000000000000000000000000000000000000000000000000000000000000000000000000000000000000000000000000000000000000000000000000000000000000000000000000000000000000000000000000000000000000000000000000000000000000000000000000000000000000000000000000000000000000000000000000000000000000000000000000000000000000000000000000000000000000000000000000000000000000000000000000000000000000000000000000000000000000000000000000000000000000000000000000000000000000000000000000000000000000000000000000000000000000000000000000000000000000000000000000000000000000000000000000000000000000000000000000000000000000000000000000000000000000000000000000000000000000000000000000000000000000000000000000000000000000000000000000000000000000000000000000000000000000000000000000000000000000000000000000000000000000000000000000000000000000000000000000000000000000000000000000000000000000000000000000000000000000000000000000000000000000000000000000000000000000000000000000000000000000000000000000000000000000000000000000000000000000000000000000000000000000000000000000000000000000000000000000000000000000000000000000000000000000000000000000000000000000000000000000000000000000000000000000000000000000000000000000000000000000000000000000000000000000000000000000000000000000000000000000000000000000000000000000000000000000000000000000000000000000000000000000000000000000000000000000000000000000000000000000000000000000000000000000000000000000000000000000000000000000000000000000000000000000000000000000000000000000000000000000000000000000000000000000000000000000000000000000000000000000000000000000000000000000000000000000000000000000000000000000000000000000000000000000000000000000000000000000000000000000000000000000000000000000000000000000000000000000000000000000000000000000000000000000000000000000000000000000000000000000000000000000000000000000000000000000000000000000000000000000000000000000000000000000000000000000000000000000000000000000000000000000000000000000000000000000000000000000000000000000000000000000000000000000000000000000000000000000000000000000000000000000000000000000000000000000000000000000000000000000000000000000000000000000000000000000000000000000000000000000000000000000000000000000000000000000000000000000000000000000000000000000000000000000000000000000000000000000000000000000000000000000000000000000000000000000000000000000000000000000000000000000000000000000000000000000000000000000000000000000000000000000000000000000000000000000000000000000000000000000000000000000000000000000000000000000000000000000000000000000000000000000000000000000000000000000000000000000000000000000000000000000000000000000000000000000000000000000000000000000000000000000000000000000000000000000000000000000000000000000000000000000000000000000000000000000000000000000000000000000000000000000000000000000000000000000000000000000000000000000000000000000000000000000000000000000000000000000000000000000000000000000000000000000000000000000000000000000000000000000000000000000000000000000000000000000000000000000000000000000000000000000000000000000000000000000000000000000000000000000000000000000000000000000000000000000000000000000000000000000000000000000000000000000000000000000000000000000000000000000000000000000000000000000000000000000000000000000000000000000000000000000000000000000000000000000000000000000000000000000000000000000000000000000000000000000000000000000000000000000000000000000000000000000
noncomputable def o0 (P : Params) : Obj := ⟨(Value.type PySem.W.SL.s2766695959194262286x5), Option.none, (.seq (Array.mk []) 0), Array.mk []⟩
noncomputable def o1 (P : Params) : Obj := ⟨Value.none, Option.none, (.fields (Array.mk [])), Array.mk []⟩
noncomputable def o2 (P : Params) : Obj := ⟨(Value.type PySem.W.SL.s5856160107412720595x4), Option.none, (.fields (Array.mk [(Value.str n0 182), (Value.str n0 183), (Value.str n1 184), (Value.int 1 0), (Value.int 0 0), (Value.int 0 0), (Value.int 0 0), (Value.int 0 0), (.ref 11), (Value.bool false), (Value.int 181 0), (.ref 12), Value.none, Value.none, Value.none, Value.none, (Value.int 185 0), (Value.int 1 0), (Value.str n1 186)])), Array.mk []⟩
noncomputable def o3 (P : Params) : Obj := ⟨(Value.type PySem.W.SL.s658472552662922059x5), Option.none, .plain, Array.mk [(some (.ref 13)), (some (.ref 3)), (some (.ref 3)), Option.none, (some (Value.str n2 164)), Option.none, (some (.ref 0))]⟩
noncomputable def o4 (P : Params) : Obj := ⟨(Value.type PySem.W.SL.s14018661285674007319x4), Option.none, (.dict (Array.mk [(de P n3 165 (Value.str n4 236)), (de P n5 166 Value.none), (de P n6 167 Value.none), (de P n7 168 (Value.builtin PySem.W.SL.s7097527257260152453x26)), (de P n8 169 Value.none), (de P n9 170 (.ref 6)), (de P n10 171 (.ref 4)), (de P n11 173 (Value.str n1 172)), (de P n12 174 Value.none), (de P n13 193 (.ref 21)), (de P n14 197 (Value.str n15 196)), (de P n16 199 (Value.int 4000 198)), (de P n17 202 (Value.int big0 201)), (de P n18 220 (.ref 31)), (de P n19 227 (.ref 41)), (de P n20 235 (.ref 48))]) 16), Array.mk []⟩
noncomputable def o5 (P : Params) : Obj := ⟨Value.none, Option.none, (.fields (Array.mk [(Value.int 1 0), (Value.int 0 0), (.ref 20), (Value.int 8 0), (Value.int 0 0), (.ref 27), (Value.int 10 0), (Value.int 0 0), (.ref 40), (Value.int 16 0), (Value.int 0 0), (.ref 47)])), Array.mk []⟩
noncomputable def o6 (P : Params) : Obj := ⟨(Value.type PySem.W.SL.s2766695959194262286x5), Option.none, (.seq (Array.mk [(Value.str n21 190)]) 0), Array.mk []⟩
noncomputable def o7 (P : Params) : Obj := ⟨Value.none, Option.none, (.func (fdOf (fnA 0) n13 n13 0 [] Value.none Value.none Value.none Value.none Option.none Value.none Value.none 0)), Array.mk []⟩
noncomputable def o8 (P : Params) : Obj := ⟨(Value.type PySem.W.SL.s5856160107412720595x4), Option.none, (.fields (Array.mk [(Value.str n13 187), (Value.str n13 188), (Value.str n1 189), (Value.int 1 0), (Value.int 1 0), (Value.int 0 0), (Value.int 0 0), (Value.int 3 0), (.ref 15), (Value.bool true), (Value.int 181 0), (.ref 16), Value.none, (.ref 17), (.ref 18), (.ref 19), (Value.int 191 0), (Value.int 1 0), (Value.str n1 192)])), Array.mk []⟩
noncomputable def o9 (P : Params) : Obj := ⟨(Value.type PySem.W.SL.s7174869446012820540x8), Option.none, (.func (fdOf (fnA 0) n13 n13 3 [] Value.none Value.none Value.none (Value.str n2 164) Option.none (.ref 20) Value.none 0)), Array.mk []⟩
noncomputable def o10 (P : Params) : Obj := ⟨(Value.type PySem.W.SL.s2766695959194262286x5), Option.none, (.seq (Array.mk [(Value.type PySem.W.SL.s6070975301684473832x10)]) 0), Array.mk []⟩
noncomputable def o11 (P : Params) : Obj := ⟨(Value.type PySem.W.SL.s11030030927630378310x26), Option.none, (.fields (Array.mk [(Value.builtin PySem.W.SL.s10062305145149207511x16), (Value.type PySem.W.SL.s17162191345867700912x4)])), Array.mk []⟩
noncomputable def o12 (P : Params) : Obj := ⟨(Value.type PySem.W.SL.s14018661285674007319x4), Option.none, (.dict (Array.mk [(de P n22 210 (Value.str n23 194)), (de P n24 212 (Value.str n18 211)), (de P n25 214 (Value.int 8 213)), (de P n26 215 (.ref 29))]) 4), Array.mk []⟩
noncomputable def o13 (P : Params) : Obj := ⟨(Value.type PySem.W.SL.s5856160107412720595x4), Option.none, (.fields (Array.mk [(Value.str n18 205), (Value.str n18 206), (Value.str n1 207), (Value.int 8 0), (Value.int 0 0), (Value.int 0 0), (Value.int 0 0), (Value.int 0 0), (.ref 25), (Value.bool false), (Value.int 181 0), (.ref 26), Value.none, Value.none, Value.none, Value.none, (Value.int 208 0), (Value.int 8 0), (Value.str n1 209)])), Array.mk []⟩
noncomputable def o14 (P : Params) : Obj := ⟨(Value.type PySem.W.SL.s658472552662922059x5), Option.none, .plain, Array.mk [(some (.ref 27)), (some (.ref 3)), (some (.ref 24)), Option.none, (some (Value.str n23 194)), Option.none, (some (.ref 0))]⟩
noncomputable def o15 (P : Params) : Obj := ⟨(Value.type PySem.W.SL.s14018661285674007319x4), Option.none, (.dict (Array.mk [(de P n22 210 (Value.str n23 194)), (de P n25 214 (Value.int 8 213)), (de P n26 215 (.ref 29)), (de P n27 217 (.ref 32)), (de P n5 218 Value.none)]) 3), Array.mk []⟩
noncomputable def o16 (P : Params) : Obj := ⟨(Value.type PySem.W.SL.s17162191345867700912x4), Option.none, (.cls (ClassData.mk n18 [(Value.type PySem.W.SL.s6070975301684473832x10)] [(.ref 31), (Value.type PySem.W.SL.s6070975301684473832x10), (Value.type PySem.W.SL.s5946037652744460706x9), (Value.type PySem.W.SL.s4278001404047624695x13), (Value.type PySem.W.SL.s2742458400755230247x6)] 30 n18 true [] [] false Option.none false)), Array.mk [(some (.ref 22)), Option.none, (some (Value.str n18 203)), (some (Value.str n18 211)), (some (Value.builtin PySem.W.SL.s4209523147560561109x18)), (some (Value.bool true))]⟩
noncomputable def o17 (P : Params) : Obj := ⟨(Value.type PySem.W.SL.s14755015743595814543x17), Option.none, (.fields (Array.mk [(Value.str n27 216), (.ref 31), (Value.builtin PySem.W.SL.s10220274742760427390x26), Value.none])), Array.mk []⟩
noncomputable def o18 (P : Params) : Obj := ⟨(Value.type PySem.W.SL.s4290257624100764138x5), Option.none, (.fields (Array.mk [(.ref 31), (.ref 31), (.ref 31)])), Array.mk []⟩
noncomputable def o19 (P : Params) : Obj := ⟨(Value.type PySem.W.SL.s11030030927630378310x26), Option.none, (.fields (Array.mk [(Value.builtin PySem.W.SL.s4860613602091757760x24), (.ref 31)])), Array.mk []⟩
noncomputable def o20 (P : Params) : Obj := ⟨(Value.type PySem.W.SL.s2766695959194262286x5), Option.none, (.seq (Array.mk [(Value.str n28 224)]) 0), Array.mk []⟩
noncomputable def o21 (P : Params) : Obj := ⟨Value.none, Option.none, (.func (fdOf (fnA 6) n19 n19 0 [] Value.none Value.none Value.none Value.none Option.none Value.none Value.none 0)), Array.mk []⟩
noncomputable def o22 (P : Params) : Obj := ⟨(Value.type PySem.W.SL.s5856160107412720595x4), Option.none, (.fields (Array.mk [(Value.str n19 221), (Value.str n19 222), (Value.str n1 223), (Value.int 10 0), (Value.int 1 0), (Value.int 0 0), (Value.int 0 0), (Value.int 3 0), (.ref 35), (Value.bool true), (Value.int 181 0), (.ref 36), Value.none, (.ref 37), (.ref 38), (.ref 39), (Value.int 225 0), (Value.int 10 0), (Value.str n1 226)])), Array.mk []⟩
noncomputable def o23 (P : Params) : Obj := ⟨(Value.type PySem.W.SL.s7174869446012820540x8), Option.none, (.func (fdOf (fnA 6) n19 n19 3 [] Value.none Value.none Value.none (Value.str n23 194) Option.none (.ref 40) Value.none 0)), Array.mk []⟩
noncomputable def o24 (P : Params) : Obj := ⟨(Value.type PySem.W.SL.s2766695959194262286x5), Option.none, (.seq (Array.mk [(Value.str n29 231), (Value.str n30 232)]) 0), Array.mk []⟩
noncomputable def o25 (P : Params) : Obj := ⟨Value.none, Option.none, (.func (fdOf (fnA 7) n20 n20 0 [] Value.none Value.none Value.none Value.none Option.none Value.none Value.none 0)), Array.mk []⟩
noncomputable def o26 (P : Params) : Obj := ⟨(Value.type PySem.W.SL.s5856160107412720595x4), Option.none, (.fields (Array.mk [(Value.str n20 228), (Value.str n20 229), (Value.str n1 230), (Value.int 16 0), (Value.int 1 0), (Value.int 0 0), (Value.int 0 0), (Value.int 3 0), (.ref 42), (Value.bool true), (Value.int 181 0), (.ref 43), Value.none, (.ref 44), (.ref 45), (.ref 46), (Value.int 233 0), (Value.int 16 0), (Value.str n1 234)])), Array.mk []⟩
noncomputable def o27 (P : Params) : Obj := ⟨(Value.type PySem.W.SL.s7174869446012820540x8), Option.none, (.func (fdOf (fnA 7) n20 n20 3 [] Value.none Value.none Value.none (Value.str n23 194) Option.none (.ref 47) Value.none 0)), Array.mk []⟩
noncomputable def o28 (P : Params) : Obj := ⟨(Value.type PySem.W.SL.s14018661285674007319x4), Option.none, (.dict (Array.mk [(de P n3 165 (Value.str n4 236)), (de P n5 166 Value.none), (de P n6 167 Value.none), (de P n7 168 (Value.builtin PySem.W.SL.s7097527257260152453x26)), (de P n8 169 Value.none), (de P n9 170 (.ref 6)), (de P n10 171 (.ref 4)), (de P n11 173 (Value.str n1 172)), (de P n12 174 Value.none), (de P n13 193 (.ref 21)), (de P n14 197 (Value.str n15 196)), (de P n16 199 (Value.int 4000 198)), (de P n17 202 (Value.int big0 201)), (de P n18 220 (.ref 31)), (de P n19 227 (.ref 41)), (de P n20 235 (.ref 48)), (de P n31 341 (.ref 121))]) 17), Array.mk []⟩
noncomputable def o29 (P : Params) : Obj := ⟨Value.none, Option.none, (.fields (Array.mk [(Value.int 1 0), (Value.int 0 0), (.ref 20), (Value.int 8 0), (Value.int 0 0), (.ref 27), (Value.int 10 0), (Value.int 0 0), (.ref 40), (Value.int 16 0), (Value.int 0 0), (.ref 47), (Value.int 24 0), (Value.int 0 0), (.ref 54)])), Array.mk []⟩
noncomputable def o30 (P : Params) : Obj := ⟨(Value.type PySem.W.SL.s14018661285674007319x4), Option.none, (.dict (Array.mk [(de P n22 245 (Value.str n4 236)), (de P n24 247 (Value.str n31 246)), (de P n25 249 (Value.int 24 248)), (de P n32 251 (Value.str n33 250)), (de P n34 252 (Value.bool true)), (de P n35 253 (Value.bool true)), (de P n36 255 (Value.int 0 254)), (de P n37 257 (Value.int 1 256)), (de P n38 265 (.ref 62)), (de P n39 274 (.ref 69)), (de P n40 283 (.ref 76)), (de P n41 291 (.ref 83)), (de P n42 299 (.ref 90)), (de P n43 308 (.ref 97)), (de P n44 317 (.ref 104)), (de P n45 325 (.ref 111)), (de P n46 333 (.ref 118)), (de P n26 334 (.ref 119))]) 18), Array.mk []⟩
noncomputable def o31 (P : Params) : Obj := ⟨Value.none, Option.none, (.fields (Array.mk [(Value.int 31 0), (Value.int 4 0), (.ref 61), (Value.int 36 0), (Value.int 4 0), (.ref 68), (Value.int 39 0), (Value.int 4 0), (.ref 75), (Value.int 42 0), (Value.int 4 0), (.ref 82), (Value.int 45 0), (Value.int 4 0), (.ref 89), (Value.int 48 0), (Value.int 4 0), (.ref 96), (Value.int 51 0), (Value.int 4 0), (.ref 103), (Value.int 54 0), (Value.int 4 0), (.ref 110), (Value.int 57 0), (Value.int 4 0), (.ref 117)])), Array.mk []⟩
noncomputable def o32 (P : Params) : Obj := ⟨(Value.type PySem.W.SL.s5856160107412720595x4), Option.none, (.fields (Array.mk [(Value.str n31 240), (Value.str n31 241), (Value.str n1 242), (Value.int 24 0), (Value.int 0 0), (Value.int 0 0), (Value.int 0 0), (Value.int 0 0), (.ref 52), (Value.bool false), (Value.int 181 0), (.ref 53), Value.none, Value.none, Value.none, Value.none, (Value.int 243 0), (Value.int 24 0), (Value.str n1 244)])), Array.mk []⟩
noncomputable def o33 (P : Params) : Obj := ⟨(Value.type PySem.W.SL.s658472552662922059x5), Option.none, .plain, Array.mk [(some (.ref 54)), (some (.ref 3)), (some (.ref 51)), Option.none, (some (Value.str n4 236)), Option.none, (some (.ref 0))]⟩
noncomputable def o34 (P : Params) : Obj := ⟨(Value.type PySem.W.SL.s2766695959194262286x5), Option.none, (.seq (Array.mk [(Value.str n47 261), (Value.str n48 262)]) 0), Array.mk []⟩
noncomputable def o35 (P : Params) : Obj := ⟨Value.none, Option.none, (.func (fdOf (fnB 9 5) n38 n49 0 [] Value.none Value.none Value.none Value.none Option.none Value.none Value.none 0)), Array.mk []⟩
noncomputable def o36 (P : Params) : Obj := ⟨(Value.type PySem.W.SL.s5856160107412720595x4), Option.none, (.fields (Array.mk [(Value.str n38 258), (Value.str n49 259), (Value.str n1 260), (Value.int 31 0), (Value.int 2 0), (Value.int 0 0), (Value.int 0 0), (Value.int 3 0), (.ref 56), (Value.bool true), (Value.int 181 0), (.ref 57), Value.none, (.ref 58), (.ref 59), (.ref 60), (Value.int 263 0), (Value.int 31 0), (Value.str n1 264)])), Array.mk []⟩
noncomputable def o37 (P : Params) : Obj := ⟨(Value.type PySem.W.SL.s7174869446012820540x8), Option.none, (.func (fdOf (fnB 9 5) n38 n49 3 [] Value.none Value.none Value.none (Value.str n4 236) Option.none (.ref 61) Value.none 0)), Array.mk []⟩
noncomputable def o38 (P : Params) : Obj := ⟨(Value.type PySem.W.SL.s2766695959194262286x5), Option.none, (.seq (Array.mk [(Value.str n47 269), (Value.str n48 270), (Value.str n50 271)]) 0), Array.mk []⟩
noncomputable def o39 (P : Params) : Obj := ⟨Value.none, Option.none, (.func (fdOf (fnB 9 6) n39 n51 0 [] Value.none Value.none Value.none Value.none Option.none Value.none Value.none 0)), Array.mk []⟩
noncomputable def o40 (P : Params) : Obj := ⟨(Value.type PySem.W.SL.s5856160107412720595x4), Option.none, (.fields (Array.mk [(Value.str n39 266), (Value.str n51 267), (Value.str n1 268), (Value.int 36 0), (Value.int 3 0), (Value.int 0 0), (Value.int 0 0), (Value.int 3 0), (.ref 63), (Value.bool true), (Value.int 181 0), (.ref 64), Value.none, (.ref 65), (.ref 66), (.ref 67), (Value.int 272 0), (Value.int 36 0), (Value.str n1 273)])), Array.mk []⟩
noncomputable def o41 (P : Params) : Obj := ⟨(Value.type PySem.W.SL.s7174869446012820540x8), Option.none, (.func (fdOf (fnB 9 6) n39 n51 3 [] Value.none Value.none Value.none (Value.str n4 236) Option.none (.ref 68) Value.none 0)), Array.mk []⟩
noncomputable def o42 (P : Params) : Obj := ⟨(Value.type PySem.W.SL.s2766695959194262286x5), Option.none, (.seq (Array.mk [(Value.str n47 278), (Value.str n48 279), (Value.str n50 280)]) 0), Array.mk []⟩
noncomputable def o43 (P : Params) : Obj := ⟨Value.none, Option.none, (.func (fdOf (fnB 9 7) n40 n52 0 [] Value.none Value.none Value.none Value.none Option.none Value.none Value.none 0)), Array.mk []⟩
noncomputable def o44 (P : Params) : Obj := ⟨(Value.type PySem.W.SL.s5856160107412720595x4), Option.none, (.fields (Array.mk [(Value.str n40 275), (Value.str n52 276), (Value.str n1 277), (Value.int 39 0), (Value.int 3 0), (Value.int 0 0), (Value.int 0 0), (Value.int 3 0), (.ref 70), (Value.bool true), (Value.int 181 0), (.ref 71), Value.none, (.ref 72), (.ref 73), (.ref 74), (Value.int 281 0), (Value.int 39 0), (Value.str n1 282)])), Array.mk []⟩
noncomputable def o45 (P : Params) : Obj := ⟨(Value.type PySem.W.SL.s7174869446012820540x8), Option.none, (.func (fdOf (fnB 9 7) n40 n52 3 [] Value.none Value.none Value.none (Value.str n4 236) Option.none (.ref 75) Value.none 0)), Array.mk []⟩
noncomputable def o46 (P : Params) : Obj := ⟨(Value.type PySem.W.SL.s2766695959194262286x5), Option.none, (.seq (Array.mk [(Value.str n47 287), (Value.str n48 288)]) 0), Array.mk []⟩
noncomputable def o47 (P : Params) : Obj := ⟨Value.none, Option.none, (.func (fdOf (fnB 9 8) n41 n53 0 [] Value.none Value.none Value.none Value.none Option.none Value.none Value.none 0)), Array.mk []⟩
noncomputable def o48 (P : Params) : Obj := ⟨(Value.type PySem.W.SL.s5856160107412720595x4), Option.none, (.fields (Array.mk [(Value.str n41 284), (Value.str n53 285), (Value.str n1 286), (Value.int 42 0), (Value.int 2 0), (Value.int 0 0), (Value.int 0 0), (Value.int 3 0), (.ref 77), (Value.bool true), (Value.int 181 0), (.ref 78), Value.none, (.ref 79), (.ref 80), (.ref 81), (Value.int 289 0), (Value.int 42 0), (Value.str n1 290)])), Array.mk []⟩
noncomputable def o49 (P : Params) : Obj := ⟨(Value.type PySem.W.SL.s7174869446012820540x8), Option.none, (.func (fdOf (fnB 9 8) n41 n53 3 [] Value.none Value.none Value.none (Value.str n4 236) Option.none (.ref 82) Value.none 0)), Array.mk []⟩
noncomputable def o50 (P : Params) : Obj := ⟨(Value.type PySem.W.SL.s2766695959194262286x5), Option.none, (.seq (Array.mk [(Value.str n47 295), (Value.str n54 296)]) 0), Array.mk []⟩
noncomputable def o51 (P : Params) : Obj := ⟨Value.none, Option.none, (.func (fdOf (fnB 9 9) n42 n55 0 [] Value.none Value.none Value.none Value.none Option.none Value.none Value.none 0)), Array.mk []⟩
noncomputable def o52 (P : Params) : Obj := ⟨(Value.type PySem.W.SL.s5856160107412720595x4), Option.none, (.fields (Array.mk [(Value.str n42 292), (Value.str n55 293), (Value.str n1 294), (Value.int 45 0), (Value.int 2 0), (Value.int 0 0), (Value.int 0 0), (Value.int 3 0), (.ref 84), (Value.bool true), (Value.int 181 0), (.ref 85), Value.none, (.ref 86), (.ref 87), (.ref 88), (Value.int 297 0), (Value.int 45 0), (Value.str n1 298)])), Array.mk []⟩
noncomputable def o53 (P : Params) : Obj := ⟨(Value.type PySem.W.SL.s7174869446012820540x8), Option.none, (.func (fdOf (fnB 9 9) n42 n55 3 [] Value.none Value.none Value.none (Value.str n4 236) Option.none (.ref 89) Value.none 0)), Array.mk []⟩
noncomputable def o54 (P : Params) : Obj := ⟨(Value.type PySem.W.SL.s2766695959194262286x5), Option.none, (.seq (Array.mk [(Value.str n47 303), (Value.str n48 304), (Value.str n50 305)]) 0), Array.mk []⟩
noncomputable def o55 (P : Params) : Obj := ⟨Value.none, Option.none, (.func (fdOf (fnB 9 10) n43 n56 0 [] Value.none Value.none Value.none Value.none Option.none Value.none Value.none 0)), Array.mk []⟩
noncomputable def o56 (P : Params) : Obj := ⟨(Value.type PySem.W.SL.s5856160107412720595x4), Option.none, (.fields (Array.mk [(Value.str n43 300), (Value.str n56 301), (Value.str n1 302), (Value.int 48 0), (Value.int 3 0), (Value.int 0 0), (Value.int 0 0), (Value.int 3 0), (.ref 91), (Value.bool true), (Value.int 181 0), (.ref 92), Value.none, (.ref 93), (.ref 94), (.ref 95), (Value.int 306 0), (Value.int 48 0), (Value.str n1 307)])), Array.mk []⟩
noncomputable def o57 (P : Params) : Obj := ⟨(Value.type PySem.W.SL.s7174869446012820540x8), Option.none, (.func (fdOf (fnB 9 10) n43 n56 3 [] Value.none Value.none Value.none (Value.str n4 236) Option.none (.ref 96) Value.none 0)), Array.mk []⟩
noncomputable def o58 (P : Params) : Obj := ⟨(Value.type PySem.W.SL.s2766695959194262286x5), Option.none, (.seq (Array.mk [(Value.str n47 312), (Value.str n48 313), (Value.str n50 314)]) 0), Array.mk []⟩
noncomputable def o59 (P : Params) : Obj := ⟨Value.none, Option.none, (.func (fdOf (fnB 9 11) n44 n57 0 [] Value.none Value.none Value.none Value.none Option.none Value.none Value.none 0)), Array.mk []⟩
noncomputable def o60 (P : Params) : Obj := ⟨(Value.type PySem.W.SL.s5856160107412720595x4), Option.none, (.fields (Array.mk [(Value.str n44 309), (Value.str n57 310), (Value.str n1 311), (Value.int 51 0), (Value.int 3 0), (Value.int 0 0), (Value.int 0 0), (Value.int 3 0), (.ref 98), (Value.bool true), (Value.int 181 0), (.ref 99), Value.none, (.ref 100), (.ref 101), (.ref 102), (Value.int 315 0), (Value.int 51 0), (Value.str n1 316)])), Array.mk []⟩
noncomputable def o61 (P : Params) : Obj := ⟨(Value.type PySem.W.SL.s7174869446012820540x8), Option.none, (.func (fdOf (fnB 9 11) n44 n57 3 [] Value.none Value.none Value.none (Value.str n4 236) Option.none (.ref 103) Value.none 0)), Array.mk []⟩
noncomputable def o62 (P : Params) : Obj := ⟨(Value.type PySem.W.SL.s2766695959194262286x5), Option.none, (.seq (Array.mk [(Value.str n47 321), (Value.str n48 322)]) 0), Array.mk []⟩
noncomputable def o63 (P : Params) : Obj := ⟨Value.none, Option.none, (.func (fdOf (fnB 9 12) n45 n58 0 [] Value.none Value.none Value.none Value.none Option.none Value.none Value.none 0)), Array.mk []⟩
noncomputable def o64 (P : Params) : Obj := ⟨(Value.type PySem.W.SL.s5856160107412720595x4), Option.none, (.fields (Array.mk [(Value.str n45 318), (Value.str n58 319), (Value.str n1 320), (Value.int 54 0), (Value.int 2 0), (Value.int 0 0), (Value.int 0 0), (Value.int 3 0), (.ref 105), (Value.bool true), (Value.int 181 0), (.ref 106), Value.none, (.ref 107), (.ref 108), (.ref 109), (Value.int 323 0), (Value.int 54 0), (Value.str n1 324)])), Array.mk []⟩
noncomputable def o65 (P : Params) : Obj := ⟨(Value.type PySem.W.SL.s7174869446012820540x8), Option.none, (.func (fdOf (fnB 9 12) n45 n58 3 [] Value.none Value.none Value.none (Value.str n4 236) Option.none (.ref 110) Value.none 0)), Array.mk []⟩
noncomputable def o66 (P : Params) : Obj := ⟨(Value.type PySem.W.SL.s2766695959194262286x5), Option.none, (.seq (Array.mk [(Value.str n47 329), (Value.str n29 330)]) 0), Array.mk []⟩
noncomputable def o67 (P : Params) : Obj := ⟨Value.none, Option.none, (.func (fdOf (fnB 9 13) n46 n59 0 [] Value.none Value.none Value.none Value.none Option.none Value.none Value.none 0)), Array.mk []⟩
noncomputable def o68 (P : Params) : Obj := ⟨(Value.type PySem.W.SL.s5856160107412720595x4), Option.none, (.fields (Array.mk [(Value.str n46 326), (Value.str n59 327), (Value.str n1 328), (Value.int 57 0), (Value.int 2 0), (Value.int 0 0), (Value.int 0 0), (Value.int 3 0), (.ref 112), (Value.bool true), (Value.int 181 0), (.ref 113), Value.none, (.ref 114), (.ref 115), (.ref 116), (Value.int 331 0), (Value.int 57 0), (Value.str n1 332)])), Array.mk []⟩
noncomputable def o69 (P : Params) : Obj := ⟨(Value.type PySem.W.SL.s7174869446012820540x8), Option.none, (.func (fdOf (fnB 9 13) n46 n59 3 [] Value.none Value.none Value.none (Value.str n4 236) Option.none (.ref 117) Value.none 0)), Array.mk []⟩
noncomputable def o70 (P : Params) : Obj := ⟨(Value.type PySem.W.SL.s14018661285674007319x4), Option.none, (.dict (Array.mk [(de P n22 245 (Value.str n4 236)), (de P n25 249 (Value.int 24 248)), (de P n32 251 (Value.str n33 250)), (de P n34 252 (Value.bool true)), (de P n35 253 (Value.bool true)), (de P n36 255 (Value.int 0 254)), (de P n37 257 (Value.int 1 256)), (de P n38 265 (.ref 62)), (de P n39 274 (.ref 69)), (de P n40 283 (.ref 76)), (de P n41 291 (.ref 83)), (de P n42 299 (.ref 90)), (de P n43 308 (.ref 97)), (de P n44 317 (.ref 104)), (de P n45 325 (.ref 111)), (de P n46 333 (.ref 118)), (de P n26 334 (.ref 119)), (de P n60 336 (.ref 122)), (de P n27 338 (.ref 123)), (de P n5 339 Value.none)]) 4), Array.mk []⟩
noncomputable def o71 (P : Params) : Obj := ⟨(Value.type PySem.W.SL.s17162191345867700912x4), Option.none, (.cls (ClassData.mk n31 [(Value.type PySem.W.SL.s2742458400755230247x6)] [(.ref 121), (Value.type PySem.W.SL.s2742458400755230247x6)] 120 n31 true [] [] false Option.none false)), Array.mk [Option.none, Option.none, (some (Value.str n31 238)), (some (Value.str n31 246)), (some (Value.builtin PySem.W.SL.s11443829558043349243x14)), (some (Value.bool true))]⟩
noncomputable def o72 (P : Params) : Obj := ⟨(Value.type PySem.W.SL.s14755015743595814543x17), Option.none, (.fields (Array.mk [(Value.str n60 335), (.ref 121), (Value.builtin PySem.W.SL.s6511155373996960695x17), (Value.builtin PySem.W.SL.s12411053484034534018x21)])), Array.mk []⟩
noncomputable def o73 (P : Params) : Obj := ⟨(Value.type PySem.W.SL.s14755015743595814543x17), Option.none, (.fields (Array.mk [(Value.str n27 337), (.ref 121), (Value.builtin PySem.W.SL.s10220274742760427390x26), Value.none])), Array.mk []⟩
noncomputable def o74 (P : Params) : Obj := ⟨(Value.type PySem.W.SL.s4290257624100764138x5), Option.none, (.fields (Array.mk [(.ref 121), (.ref 121), (.ref 121)])), Array.mk []⟩
noncomputable def o75 (P : Params) : Obj := ⟨(Value.type PySem.W.SL.s11030030927630378310x26), Option.none, (.fields (Array.mk [(Value.builtin PySem.W.SL.s4860613602091757760x24), (.ref 121)])), Array.mk []⟩
noncomputable def o76 (P : Params) : Obj := ⟨(Value.type PySem.W.SL.s14018661285674007319x4), Option.none, (.dict (Array.mk [(de P n3 165 (Value.str n4 236)), (de P n5 166 Value.none), (de P n6 167 Value.none), (de P n7 168 (Value.builtin PySem.W.SL.s7097527257260152453x26)), (de P n8 169 Value.none), (de P n9 170 (.ref 6)), (de P n10 171 (.ref 4)), (de P n11 173 (Value.str n1 172)), (de P n12 174 Value.none), (de P n13 193 (.ref 21)), (de P n14 197 (Value.str n15 196)), (de P n16 199 (Value.int 4000 198)), (de P n17 202 (Value.int big0 201)), (de P n18 220 (.ref 31)), (de P n19 227 (.ref 41)), (de P n20 235 (.ref 48)), (de P n31 341 (.ref 121)), (de P n61 444 (.ref 198))]) 18), Array.mk []⟩
noncomputable def o77 (P : Params) : Obj := ⟨Value.none, Option.none, (.fields (Array.mk [(Value.int 1 0), (Value.int 0 0), (.ref 20), (Value.int 8 0), (Value.int 0 0), (.ref 27), (Value.int 10 0), (Value.int 0 0), (.ref 40), (Value.int 16 0), (Value.int 0 0), (.ref 47), (Value.int 24 0), (Value.int 0 0), (.ref 54), (Value.int 59 0), (Value.int 0 0), (.ref 131)])), Array.mk []⟩
noncomputable def o78 (P : Params) : Obj := ⟨(Value.type PySem.W.SL.s14018661285674007319x4), Option.none, (.dict (Array.mk [(de P n22 349 (Value.str n4 236)), (de P n24 351 (Value.str n61 350)), (de P n25 353 (Value.int 59 352)), (de P n32 355 (Value.str n62 354)), (de P n34 356 (Value.bool true)), (de P n35 357 (Value.bool true)), (de P n36 358 Value.none), (de P n37 360 (Value.int 0 359)), (de P n38 368 (.ref 139)), (de P n39 377 (.ref 146)), (de P n40 386 (.ref 153)), (de P n41 394 (.ref 160)), (de P n42 402 (.ref 167)), (de P n43 411 (.ref 174)), (de P n44 420 (.ref 181)), (de P n45 428 (.ref 188)), (de P n46 436 (.ref 195)), (de P n26 437 (.ref 196))]) 18), Array.mk []⟩
noncomputable def o79 (P : Params) : Obj := ⟨Value.none, Option.none, (.fields (Array.mk [(Value.int 66 0), (Value.int 4 0), (.ref 138), (Value.int 71 0), (Value.int 4 0), (.ref 145), (Value.int 78 0), (Value.int 4 0), (.ref 152), (Value.int 83 0), (Value.int 4 0), (.ref 159), (Value.int 86 0), (Value.int 4 0), (.ref 166), (Value.int 89 0), (Value.int 4 0), (.ref 173), (Value.int 94 0), (Value.int 4 0), (.ref 180), (Value.int 97 0), (Value.int 4 0), (.ref 187), (Value.int 100 0), (Value.int 4 0), (.ref 194)])), Array.mk []⟩
noncomputable def o80 (P : Params) : Obj := ⟨(Value.type PySem.W.SL.s5856160107412720595x4), Option.none, (.fields (Array.mk [(Value.str n61 344), (Value.str n61 345), (Value.str n1 346), (Value.int 59 0), (Value.int 0 0), (Value.int 0 0), (Value.int 0 0), (Value.int 0 0), (.ref 129), (Value.bool false), (Value.int 181 0), (.ref 130), Value.none, Value.none, Value.none, Value.none, (Value.int 347 0), (Value.int 59 0), (Value.str n1 348)])), Array.mk []⟩
noncomputable def o81 (P : Params) : Obj := ⟨(Value.type PySem.W.SL.s658472552662922059x5), Option.none, .plain, Array.mk [(some (.ref 131)), (some (.ref 3)), (some (.ref 128)), Option.none, (some (Value.str n4 236)), Option.none, (some (.ref 0))]⟩
noncomputable def o82 (P : Params) : Obj := ⟨(Value.type PySem.W.SL.s2766695959194262286x5), Option.none, (.seq (Array.mk [(Value.str n47 364), (Value.str n48 365)]) 0), Array.mk []⟩
noncomputable def o83 (P : Params) : Obj := ⟨Value.none, Option.none, (.func (fdOf (fnB 10 5) n38 n63 0 [] Value.none Value.none Value.none Value.none Option.none Value.none Value.none 0)), Array.mk []⟩
noncomputable def o84 (P : Params) : Obj := ⟨(Value.type PySem.W.SL.s5856160107412720595x4), Option.none, (.fields (Array.mk [(Value.str n38 361), (Value.str n63 362), (Value.str n1 363), (Value.int 66 0), (Value.int 2 0), (Value.int 0 0), (Value.int 0 0), (Value.int 3 0), (.ref 133), (Value.bool true), (Value.int 181 0), (.ref 134), Value.none, (.ref 135), (.ref 136), (.ref 137), (Value.int 366 0), (Value.int 66 0), (Value.str n1 367)])), Array.mk []⟩
noncomputable def o85 (P : Params) : Obj := ⟨(Value.type PySem.W.SL.s7174869446012820540x8), Option.none, (.func (fdOf (fnB 10 5) n38 n63 3 [] Value.none Value.none Value.none (Value.str n4 236) Option.none (.ref 138) Value.none 0)), Array.mk []⟩
noncomputable def o86 (P : Params) : Obj := ⟨(Value.type PySem.W.SL.s2766695959194262286x5), Option.none, (.seq (Array.mk [(Value.str n47 372), (Value.str n48 373), (Value.str n50 374)]) 0), Array.mk []⟩
noncomputable def o87 (P : Params) : Obj := ⟨Value.none, Option.none, (.func (fdOf (fnB 10 6) n39 n64 0 [] Value.none Value.none Value.none Value.none Option.none Value.none Value.none 0)), Array.mk []⟩
noncomputable def o88 (P : Params) : Obj := ⟨(Value.type PySem.W.SL.s5856160107412720595x4), Option.none, (.fields (Array.mk [(Value.str n39 369), (Value.str n64 370), (Value.str n1 371), (Value.int 71 0), (Value.int 3 0), (Value.int 0 0), (Value.int 0 0), (Value.int 3 0), (.ref 140), (Value.bool true), (Value.int 181 0), (.ref 141), Value.none, (.ref 142), (.ref 143), (.ref 144), (Value.int 375 0), (Value.int 71 0), (Value.str n1 376)])), Array.mk []⟩
noncomputable def o89 (P : Params) : Obj := ⟨(Value.type PySem.W.SL.s7174869446012820540x8), Option.none, (.func (fdOf (fnB 10 6) n39 n64 3 [] Value.none Value.none Value.none (Value.str n4 236) Option.none (.ref 145) Value.none 0)), Array.mk []⟩
noncomputable def o90 (P : Params) : Obj := ⟨(Value.type PySem.W.SL.s2766695959194262286x5), Option.none, (.seq (Array.mk [(Value.str n47 381), (Value.str n48 382), (Value.str n50 383)]) 0), Array.mk []⟩
noncomputable def o91 (P : Params) : Obj := ⟨Value.none, Option.none, (.func (fdOf (fnB 10 7) n40 n65 0 [] Value.none Value.none Value.none Value.none Option.none Value.none Value.none 0)), Array.mk []⟩
noncomputable def o92 (P : Params) : Obj := ⟨(Value.type PySem.W.SL.s5856160107412720595x4), Option.none, (.fields (Array.mk [(Value.str n40 378), (Value.str n65 379), (Value.str n1 380), (Value.int 78 0), (Value.int 3 0), (Value.int 0 0), (Value.int 0 0), (Value.int 3 0), (.ref 147), (Value.bool true), (Value.int 181 0), (.ref 148), Value.none, (.ref 149), (.ref 150), (.ref 151), (Value.int 384 0), (Value.int 78 0), (Value.str n1 385)])), Array.mk []⟩
noncomputable def o93 (P : Params) : Obj := ⟨(Value.type PySem.W.SL.s7174869446012820540x8), Option.none, (.func (fdOf (fnB 10 7) n40 n65 3 [] Value.none Value.none Value.none (Value.str n4 236) Option.none (.ref 152) Value.none 0)), Array.mk []⟩
noncomputable def o94 (P : Params) : Obj := ⟨(Value.type PySem.W.SL.s2766695959194262286x5), Option.none, (.seq (Array.mk [(Value.str n47 390), (Value.str n48 391)]) 0), Array.mk []⟩
noncomputable def o95 (P : Params) : Obj := ⟨Value.none, Option.none, (.func (fdOf (fnB 10 8) n41 n66 0 [] Value.none Value.none Value.none Value.none Option.none Value.none Value.none 0)), Array.mk []⟩
noncomputable def o96 (P : Params) : Obj := ⟨(Value.type PySem.W.SL.s5856160107412720595x4), Option.none, (.fields (Array.mk [(Value.str n41 387), (Value.str n66 388), (Value.str n1 389), (Value.int 83 0), (Value.int 2 0), (Value.int 0 0), (Value.int 0 0), (Value.int 3 0), (.ref 154), (Value.bool true), (Value.int 181 0), (.ref 155), Value.none, (.ref 156), (.ref 157), (.ref 158), (Value.int 392 0), (Value.int 83 0), (Value.str n1 393)])), Array.mk []⟩
noncomputable def o97 (P : Params) : Obj := ⟨(Value.type PySem.W.SL.s7174869446012820540x8), Option.none, (.func (fdOf (fnB 10 8) n41 n66 3 [] Value.none Value.none Value.none (Value.str n4 236) Option.none (.ref 159) Value.none 0)), Array.mk []⟩
noncomputable def o98 (P : Params) : Obj := ⟨(Value.type PySem.W.SL.s2766695959194262286x5), Option.none, (.seq (Array.mk [(Value.str n47 398), (Value.str n54 399)]) 0), Array.mk []⟩
noncomputable def o99 (P : Params) : Obj := ⟨Value.none, Option.none, (.func (fdOf (fnB 10 9) n42 n67 0 [] Value.none Value.none Value.none Value.none Option.none Value.none Value.none 0)), Array.mk []⟩
noncomputable def o100 (P : Params) : Obj := ⟨(Value.type PySem.W.SL.s5856160107412720595x4), Option.none, (.fields (Array.mk [(Value.str n42 395), (Value.str n67 396), (Value.str n1 397), (Value.int 86 0), (Value.int 2 0), (Value.int 0 0), (Value.int 0 0), (Value.int 3 0), (.ref 161), (Value.bool true), (Value.int 181 0), (.ref 162), Value.none, (.ref 163), (.ref 164), (.ref 165), (Value.int 400 0), (Value.int 86 0), (Value.str n1 401)])), Array.mk []⟩
noncomputable def o101 (P : Params) : Obj := ⟨(Value.type PySem.W.SL.s7174869446012820540x8), Option.none, (.func (fdOf (fnB 10 9) n42 n67 3 [] Value.none Value.none Value.none (Value.str n4 236) Option.none (.ref 166) Value.none 0)), Array.mk []⟩
noncomputable def o102 (P : Params) : Obj := ⟨(Value.type PySem.W.SL.s2766695959194262286x5), Option.none, (.seq (Array.mk [(Value.str n47 406), (Value.str n48 407), (Value.str n50 408)]) 0), Array.mk []⟩
noncomputable def o103 (P : Params) : Obj := ⟨Value.none, Option.none, (.func (fdOf (fnB 10 10) n43 n68 0 [] Value.none Value.none Value.none Value.none Option.none Value.none Value.none 0)), Array.mk []⟩
noncomputable def o104 (P : Params) : Obj := ⟨(Value.type PySem.W.SL.s5856160107412720595x4), Option.none, (.fields (Array.mk [(Value.str n43 403), (Value.str n68 404), (Value.str n1 405), (Value.int 89 0), (Value.int 3 0), (Value.int 0 0), (Value.int 0 0), (Value.int 3 0), (.ref 168), (Value.bool true), (Value.int 181 0), (.ref 169), Value.none, (.ref 170), (.ref 171), (.ref 172), (Value.int 409 0), (Value.int 89 0), (Value.str n1 410)])), Array.mk []⟩
noncomputable def o105 (P : Params) : Obj := ⟨(Value.type PySem.W.SL.s7174869446012820540x8), Option.none, (.func (fdOf (fnB 10 10) n43 n68 3 [] Value.none Value.none Value.none (Value.str n4 236) Option.none (.ref 173) Value.none 0)), Array.mk []⟩
noncomputable def o106 (P : Params) : Obj := ⟨(Value.type PySem.W.SL.s2766695959194262286x5), Option.none, (.seq (Array.mk [(Value.str n47 415), (Value.str n48 416), (Value.str n50 417)]) 0), Array.mk []⟩
noncomputable def o107 (P : Params) : Obj := ⟨Value.none, Option.none, (.func (fdOf (fnB 10 11) n44 n69 0 [] Value.none Value.none Value.none Value.none Option.none Value.none Value.none 0)), Array.mk []⟩
noncomputable def o108 (P : Params) : Obj := ⟨(Value.type PySem.W.SL.s5856160107412720595x4), Option.none, (.fields (Array.mk [(Value.str n44 412), (Value.str n69 413), (Value.str n1 414), (Value.int 94 0), (Value.int 3 0), (Value.int 0 0), (Value.int 0 0), (Value.int 3 0), (.ref 175), (Value.bool true), (Value.int 181 0), (.ref 176), Value.none, (.ref 177), (.ref 178), (.ref 179), (Value.int 418 0), (Value.int 94 0), (Value.str n1 419)])), Array.mk []⟩
noncomputable def o109 (P : Params) : Obj := ⟨(Value.type PySem.W.SL.s7174869446012820540x8), Option.none, (.func (fdOf (fnB 10 11) n44 n69 3 [] Value.none Value.none Value.none (Value.str n4 236) Option.none (.ref 180) Value.none 0)), Array.mk []⟩
noncomputable def o110 (P : Params) : Obj := ⟨(Value.type PySem.W.SL.s2766695959194262286x5), Option.none, (.seq (Array.mk [(Value.str n47 424), (Value.str n48 425)]) 0), Array.mk []⟩
noncomputable def o111 (P : Params) : Obj := ⟨Value.none, Option.none, (.func (fdOf (fnB 10 12) n45 n70 0 [] Value.none Value.none Value.none Value.none Option.none Value.none Value.none 0)), Array.mk []⟩
noncomputable def o112 (P : Params) : Obj := ⟨(Value.type PySem.W.SL.s5856160107412720595x4), Option.none, (.fields (Array.mk [(Value.str n45 421), (Value.str n70 422), (Value.str n1 423), (Value.int 97 0), (Value.int 2 0), (Value.int 0 0), (Value.int 0 0), (Value.int 3 0), (.ref 182), (Value.bool true), (Value.int 181 0), (.ref 183), Value.none, (.ref 184), (.ref 185), (.ref 186), (Value.int 426 0), (Value.int 97 0), (Value.str n1 427)])), Array.mk []⟩
noncomputable def o113 (P : Params) : Obj := ⟨(Value.type PySem.W.SL.s7174869446012820540x8), Option.none, (.func (fdOf (fnB 10 12) n45 n70 3 [] Value.none Value.none Value.none (Value.str n4 236) Option.none (.ref 187) Value.none 0)), Array.mk []⟩
noncomputable def o114 (P : Params) : Obj := ⟨(Value.type PySem.W.SL.s2766695959194262286x5), Option.none, (.seq (Array.mk [(Value.str n47 432), (Value.str n29 433)]) 0), Array.mk []⟩
noncomputable def o115 (P : Params) : Obj := ⟨Value.none, Option.none, (.func (fdOf (fnB 10 13) n46 n71 0 [] Value.none Value.none Value.none Value.none Option.none Value.none Value.none 0)), Array.mk []⟩
noncomputable def o116 (P : Params) : Obj := ⟨(Value.type PySem.W.SL.s5856160107412720595x4), Option.none, (.fields (Array.mk [(Value.str n46 429), (Value.str n71 430), (Value.str n1 431), (Value.int 100 0), (Value.int 2 0), (Value.int 0 0), (Value.int 0 0), (Value.int 3 0), (.ref 189), (Value.bool true), (Value.int 181 0), (.ref 190), Value.none, (.ref 191), (.ref 192), (.ref 193), (Value.int 434 0), (Value.int 100 0), (Value.str n1 435)])), Array.mk []⟩
noncomputable def o117 (P : Params) : Obj := ⟨(Value.type PySem.W.SL.s7174869446012820540x8), Option.none, (.func (fdOf (fnB 10 13) n46 n71 3 [] Value.none Value.none Value.none (Value.str n4 236) Option.none (.ref 194) Value.none 0)), Array.mk []⟩
noncomputable def o118 (P : Params) : Obj := ⟨(Value.type PySem.W.SL.s14018661285674007319x4), Option.none, (.dict (Array.mk [(de P n22 349 (Value.str n4 236)), (de P n25 353 (Value.int 59 352)), (de P n32 355 (Value.str n62 354)), (de P n34 356 (Value.bool true)), (de P n35 357 (Value.bool true)), (de P n36 358 Value.none), (de P n37 360 (Value.int 0 359)), (de P n38 368 (.ref 139)), (de P n39 377 (.ref 146)), (de P n40 386 (.ref 153)), (de P n41 394 (.ref 160)), (de P n42 402 (.ref 167)), (de P n43 411 (.ref 174)), (de P n44 420 (.ref 181)), (de P n45 428 (.ref 188)), (de P n46 436 (.ref 195)), (de P n26 437 (.ref 196)), (de P n60 439 (.ref 199)), (de P n27 441 (.ref 200)), (de P n5 442 Value.none)]) 4), Array.mk []⟩
noncomputable def o119 (P : Params) : Obj := ⟨(Value.type PySem.W.SL.s17162191345867700912x4), Option.none, (.cls (ClassData.mk n61 [(Value.type PySem.W.SL.s2742458400755230247x6)] [(.ref 198), (Value.type PySem.W.SL.s2742458400755230247x6)] 197 n61 true [] [] false Option.none false)), Array.mk [Option.none, Option.none, (some (Value.str n61 342)), (some (Value.str n61 350)), (some (Value.builtin PySem.W.SL.s11443829558043349243x14)), (some (Value.bool true))]⟩
noncomputable def o120 (P : Params) : Obj := ⟨(Value.type PySem.W.SL.s14755015743595814543x17), Option.none, (.fields (Array.mk [(Value.str n60 438), (.ref 198), (Value.builtin PySem.W.SL.s6511155373996960695x17), (Value.builtin PySem.W.SL.s12411053484034534018x21)])), Array.mk []⟩
noncomputable def o121 (P : Params) : Obj := ⟨(Value.type PySem.W.SL.s14755015743595814543x17), Option.none, (.fields (Array.mk [(Value.str n27 440), (.ref 198), (Value.builtin PySem.W.SL.s10220274742760427390x26), Value.none])), Array.mk []⟩
noncomputable def o122 (P : Params) : Obj := ⟨(Value.type PySem.W.SL.s4290257624100764138x5), Option.none, (.fields (Array.mk [(.ref 198), (.ref 198), (.ref 198)])), Array.mk []⟩
noncomputable def o123 (P : Params) : Obj := ⟨(Value.type PySem.W.SL.s11030030927630378310x26), Option.none, (.fields (Array.mk [(Value.builtin PySem.W.SL.s4860613602091757760x24), (.ref 198)])), Array.mk []⟩
noncomputable def o124 (P : Params) : Obj := ⟨(Value.type PySem.W.SL.s14018661285674007319x4), Option.none, (.dict (Array.mk [(de P n3 165 (Value.str n4 236)), (de P n5 166 Value.none), (de P n6 167 Value.none), (de P n7 168 (Value.builtin PySem.W.SL.s7097527257260152453x26)), (de P n8 169 Value.none), (de P n9 170 (.ref 6)), (de P n10 171 (.ref 4)), (de P n11 173 (Value.str n1 172)), (de P n12 174 Value.none), (de P n13 193 (.ref 21)), (de P n14 197 (Value.str n15 196)), (de P n16 199 (Value.int 4000 198)), (de P n17 202 (Value.int big0 201)), (de P n18 220 (.ref 31)), (de P n19 227 (.ref 41)), (de P n20 235 (.ref 48)), (de P n31 341 (.ref 121)), (de P n61 444 (.ref 198)), (de P n72 548 (.ref 275)), (de P n73 556 (.ref 286))]) 20), Array.mk []⟩
noncomputable def o125 (P : Params) : Obj := ⟨Value.none, Option.none, (.fields (Array.mk [(Value.int 1 0), (Value.int 0 0), (.ref 20), (Value.int 8 0), (Value.int 0 0), (.ref 27), (Value.int 10 0), (Value.int 0 0), (.ref 40), (Value.int 16 0), (Value.int 0 0), (.ref 47), (Value.int 24 0), (Value.int 0 0), (.ref 54), (Value.int 59 0), (Value.int 0 0), (.ref 131), (Value.int 104 0), (Value.int 0 0), (.ref 208), (Value.int 141 0), (Value.int 0 0), (.ref 285)])), Array.mk []⟩
noncomputable def o126 (P : Params) : Obj := ⟨(Value.type PySem.W.SL.s14018661285674007319x4), Option.none, (.dict (Array.mk [(de P n22 452 (Value.str n4 236)), (de P n24 454 (Value.str n72 453)), (de P n25 456 (Value.int 104 455)), (de P n32 458 (Value.str n74 457)), (de P n34 459 (Value.bool false)), (de P n35 460 (Value.bool true)), (de P n36 462 (Value.int 0 461)), (de P n37 464 (Value.int 1 463)), (de P n38 472 (.ref 216)), (de P n39 481 (.ref 223)), (de P n40 490 (.ref 230)), (de P n41 498 (.ref 237)), (de P n42 506 (.ref 244)), (de P n43 515 (.ref 251)), (de P n44 524 (.ref 258)), (de P n45 532 (.ref 265)), (de P n46 540 (.ref 272)), (de P n26 541 (.ref 273))]) 18), Array.mk []⟩
noncomputable def o127 (P : Params) : Obj := ⟨Value.none, Option.none, (.fields (Array.mk [(Value.int 111 0), (Value.int 4 0), (.ref 215), (Value.int 116 0), (Value.int 4 0), (.ref 222), (Value.int 119 0), (Value.int 4 0), (.ref 229), (Value.int 122 0), (Value.int 4 0), (.ref 236), (Value.int 127 0), (Value.int 4 0), (.ref 243), (Value.int 130 0), (Value.int 4 0), (.ref 250), (Value.int 133 0), (Value.int 4 0), (.ref 257), (Value.int 136 0), (Value.int 4 0), (.ref 264), (Value.int 139 0), (Value.int 4 0), (.ref 271)])), Array.mk []⟩
noncomputable def o128 (P : Params) : Obj := ⟨(Value.type PySem.W.SL.s5856160107412720595x4), Option.none, (.fields (Array.mk [(Value.str n72 447), (Value.str n72 448), (Value.str n1 449), (Value.int 104 0), (Value.int 0 0), (Value.int 0 0), (Value.int 0 0), (Value.int 0 0), (.ref 206), (Value.bool false), (Value.int 181 0), (.ref 207), Value.none, Value.none, Value.none, Value.none, (Value.int 450 0), (Value.int 104 0), (Value.str n1 451)])), Array.mk []⟩
noncomputable def o129 (P : Params) : Obj := ⟨(Value.type PySem.W.SL.s658472552662922059x5), Option.none, .plain, Array.mk [(some (.ref 208)), (some (.ref 3)), (some (.ref 205)), Option.none, (some (Value.str n4 236)), Option.none, (some (.ref 0))]⟩
noncomputable def o130 (P : Params) : Obj := ⟨(Value.type PySem.W.SL.s2766695959194262286x5), Option.none, (.seq (Array.mk [(Value.str n47 468), (Value.str n48 469)]) 0), Array.mk []⟩
noncomputable def o131 (P : Params) : Obj := ⟨Value.none, Option.none, (.func (fdOf (fnB 11 5) n38 n75 0 [] Value.none Value.none Value.none Value.none Option.none Value.none Value.none 0)), Array.mk []⟩
noncomputable def o132 (P : Params) : Obj := ⟨(Value.type PySem.W.SL.s5856160107412720595x4), Option.none, (.fields (Array.mk [(Value.str n38 465), (Value.str n75 466), (Value.str n1 467), (Value.int 111 0), (Value.int 2 0), (Value.int 0 0), (Value.int 0 0), (Value.int 3 0), (.ref 210), (Value.bool true), (Value.int 181 0), (.ref 211), Value.none, (.ref 212), (.ref 213), (.ref 214), (Value.int 470 0), (Value.int 111 0), (Value.str n1 471)])), Array.mk []⟩
noncomputable def o133 (P : Params) : Obj := ⟨(Value.type PySem.W.SL.s7174869446012820540x8), Option.none, (.func (fdOf (fnB 11 5) n38 n75 3 [] Value.none Value.none Value.none (Value.str n4 236) Option.none (.ref 215) Value.none 0)), Array.mk []⟩
noncomputable def o134 (P : Params) : Obj := ⟨(Value.type PySem.W.SL.s2766695959194262286x5), Option.none, (.seq (Array.mk [(Value.str n47 476), (Value.str n48 477), (Value.str n50 478)]) 0), Array.mk []⟩
noncomputable def o135 (P : Params) : Obj := ⟨Value.none, Option.none, (.func (fdOf (fnB 11 6) n39 n76 0 [] Value.none Value.none Value.none Value.none Option.none Value.none Value.none 0)), Array.mk []⟩
noncomputable def o136 (P : Params) : Obj := ⟨(Value.type PySem.W.SL.s5856160107412720595x4), Option.none, (.fields (Array.mk [(Value.str n39 473), (Value.str n76 474), (Value.str n1 475), (Value.int 116 0), (Value.int 3 0), (Value.int 0 0), (Value.int 0 0), (Value.int 3 0), (.ref 217), (Value.bool true), (Value.int 181 0), (.ref 218), Value.none, (.ref 219), (.ref 220), (.ref 221), (Value.int 479 0), (Value.int 116 0), (Value.str n1 480)])), Array.mk []⟩
noncomputable def o137 (P : Params) : Obj := ⟨(Value.type PySem.W.SL.s7174869446012820540x8), Option.none, (.func (fdOf (fnB 11 6) n39 n76 3 [] Value.none Value.none Value.none (Value.str n4 236) Option.none (.ref 222) Value.none 0)), Array.mk []⟩
noncomputable def o138 (P : Params) : Obj := ⟨(Value.type PySem.W.SL.s2766695959194262286x5), Option.none, (.seq (Array.mk [(Value.str n47 485), (Value.str n48 486), (Value.str n50 487)]) 0), Array.mk []⟩
noncomputable def o139 (P : Params) : Obj := ⟨Value.none, Option.none, (.func (fdOf (fnB 11 7) n40 n77 0 [] Value.none Value.none Value.none Value.none Option.none Value.none Value.none 0)), Array.mk []⟩
noncomputable def o140 (P : Params) : Obj := ⟨(Value.type PySem.W.SL.s5856160107412720595x4), Option.none, (.fields (Array.mk [(Value.str n40 482), (Value.str n77 483), (Value.str n1 484), (Value.int 119 0), (Value.int 3 0), (Value.int 0 0), (Value.int 0 0), (Value.int 3 0), (.ref 224), (Value.bool true), (Value.int 181 0), (.ref 225), Value.none, (.ref 226), (.ref 227), (.ref 228), (Value.int 488 0), (Value.int 119 0), (Value.str n1 489)])), Array.mk []⟩
noncomputable def o141 (P : Params) : Obj := ⟨(Value.type PySem.W.SL.s7174869446012820540x8), Option.none, (.func (fdOf (fnB 11 7) n40 n77 3 [] Value.none Value.none Value.none (Value.str n4 236) Option.none (.ref 229) Value.none 0)), Array.mk []⟩
noncomputable def o142 (P : Params) : Obj := ⟨(Value.type PySem.W.SL.s2766695959194262286x5), Option.none, (.seq (Array.mk [(Value.str n47 494), (Value.str n48 495)]) 0), Array.mk []⟩
noncomputable def o143 (P : Params) : Obj := ⟨Value.none, Option.none, (.func (fdOf (fnB 11 8) n41 n78 0 [] Value.none Value.none Value.none Value.none Option.none Value.none Value.none 0)), Array.mk []⟩
noncomputable def o144 (P : Params) : Obj := ⟨(Value.type PySem.W.SL.s5856160107412720595x4), Option.none, (.fields (Array.mk [(Value.str n41 491), (Value.str n78 492), (Value.str n1 493), (Value.int 122 0), (Value.int 2 0), (Value.int 0 0), (Value.int 0 0), (Value.int 3 0), (.ref 231), (Value.bool true), (Value.int 181 0), (.ref 232), Value.none, (.ref 233), (.ref 234), (.ref 235), (Value.int 496 0), (Value.int 122 0), (Value.str n1 497)])), Array.mk []⟩
noncomputable def o145 (P : Params) : Obj := ⟨(Value.type PySem.W.SL.s7174869446012820540x8), Option.none, (.func (fdOf (fnB 11 8) n41 n78 3 [] Value.none Value.none Value.none (Value.str n4 236) Option.none (.ref 236) Value.none 0)), Array.mk []⟩
noncomputable def o146 (P : Params) : Obj := ⟨(Value.type PySem.W.SL.s2766695959194262286x5), Option.none, (.seq (Array.mk [(Value.str n47 502), (Value.str n54 503)]) 0), Array.mk []⟩
noncomputable def o147 (P : Params) : Obj := ⟨Value.none, Option.none, (.func (fdOf (fnB 11 9) n42 n79 0 [] Value.none Value.none Value.none Value.none Option.none Value.none Value.none 0)), Array.mk []⟩
noncomputable def o148 (P : Params) : Obj := ⟨(Value.type PySem.W.SL.s5856160107412720595x4), Option.none, (.fields (Array.mk [(Value.str n42 499), (Value.str n79 500), (Value.str n1 501), (Value.int 127 0), (Value.int 2 0), (Value.int 0 0), (Value.int 0 0), (Value.int 3 0), (.ref 238), (Value.bool true), (Value.int 181 0), (.ref 239), Value.none, (.ref 240), (.ref 241), (.ref 242), (Value.int 504 0), (Value.int 127 0), (Value.str n1 505)])), Array.mk []⟩
noncomputable def o149 (P : Params) : Obj := ⟨(Value.type PySem.W.SL.s7174869446012820540x8), Option.none, (.func (fdOf (fnB 11 9) n42 n79 3 [] Value.none Value.none Value.none (Value.str n4 236) Option.none (.ref 243) Value.none 0)), Array.mk []⟩
noncomputable def o150 (P : Params) : Obj := ⟨(Value.type PySem.W.SL.s2766695959194262286x5), Option.none, (.seq (Array.mk [(Value.str n47 510), (Value.str n48 511), (Value.str n50 512)]) 0), Array.mk []⟩
noncomputable def o151 (P : Params) : Obj := ⟨Value.none, Option.none, (.func (fdOf (fnB 11 10) n43 n80 0 [] Value.none Value.none Value.none Value.none Option.none Value.none Value.none 0)), Array.mk []⟩
noncomputable def o152 (P : Params) : Obj := ⟨(Value.type PySem.W.SL.s5856160107412720595x4), Option.none, (.fields (Array.mk [(Value.str n43 507), (Value.str n80 508), (Value.str n1 509), (Value.int 130 0), (Value.int 3 0), (Value.int 0 0), (Value.int 0 0), (Value.int 3 0), (.ref 245), (Value.bool true), (Value.int 181 0), (.ref 246), Value.none, (.ref 247), (.ref 248), (.ref 249), (Value.int 513 0), (Value.int 130 0), (Value.str n1 514)])), Array.mk []⟩
noncomputable def o153 (P : Params) : Obj := ⟨(Value.type PySem.W.SL.s7174869446012820540x8), Option.none, (.func (fdOf (fnB 11 10) n43 n80 3 [] Value.none Value.none Value.none (Value.str n4 236) Option.none (.ref 250) Value.none 0)), Array.mk []⟩
noncomputable def o154 (P : Params) : Obj := ⟨(Value.type PySem.W.SL.s2766695959194262286x5), Option.none, (.seq (Array.mk [(Value.str n47 519), (Value.str n48 520), (Value.str n50 521)]) 0), Array.mk []⟩
noncomputable def o155 (P : Params) : Obj := ⟨Value.none, Option.none, (.func (fdOf (fnB 11 11) n44 n81 0 [] Value.none Value.none Value.none Value.none Option.none Value.none Value.none 0)), Array.mk []⟩
noncomputable def o156 (P : Params) : Obj := ⟨(Value.type PySem.W.SL.s5856160107412720595x4), Option.none, (.fields (Array.mk [(Value.str n44 516), (Value.str n81 517), (Value.str n1 518), (Value.int 133 0), (Value.int 3 0), (Value.int 0 0), (Value.int 0 0), (Value.int 3 0), (.ref 252), (Value.bool true), (Value.int 181 0), (.ref 253), Value.none, (.ref 254), (.ref 255), (.ref 256), (Value.int 522 0), (Value.int 133 0), (Value.str n1 523)])), Array.mk []⟩
noncomputable def o157 (P : Params) : Obj := ⟨(Value.type PySem.W.SL.s7174869446012820540x8), Option.none, (.func (fdOf (fnB 11 11) n44 n81 3 [] Value.none Value.none Value.none (Value.str n4 236) Option.none (.ref 257) Value.none 0)), Array.mk []⟩
noncomputable def o158 (P : Params) : Obj := ⟨(Value.type PySem.W.SL.s2766695959194262286x5), Option.none, (.seq (Array.mk [(Value.str n47 528), (Value.str n48 529)]) 0), Array.mk []⟩
noncomputable def o159 (P : Params) : Obj := ⟨Value.none, Option.none, (.func (fdOf (fnB 11 12) n45 n82 0 [] Value.none Value.none Value.none Value.none Option.none Value.none Value.none 0)), Array.mk []⟩
noncomputable def o160 (P : Params) : Obj := ⟨(Value.type PySem.W.SL.s5856160107412720595x4), Option.none, (.fields (Array.mk [(Value.str n45 525), (Value.str n82 526), (Value.str n1 527), (Value.int 136 0), (Value.int 2 0), (Value.int 0 0), (Value.int 0 0), (Value.int 3 0), (.ref 259), (Value.bool true), (Value.int 181 0), (.ref 260), Value.none, (.ref 261), (.ref 262), (.ref 263), (Value.int 530 0), (Value.int 136 0), (Value.str n1 531)])), Array.mk []⟩
noncomputable def o161 (P : Params) : Obj := ⟨(Value.type PySem.W.SL.s7174869446012820540x8), Option.none, (.func (fdOf (fnB 11 12) n45 n82 3 [] Value.none Value.none Value.none (Value.str n4 236) Option.none (.ref 264) Value.none 0)), Array.mk []⟩
noncomputable def o162 (P : Params) : Obj := ⟨(Value.type PySem.W.SL.s2766695959194262286x5), Option.none, (.seq (Array.mk [(Value.str n47 536), (Value.str n29 537)]) 0), Array.mk []⟩
noncomputable def o163 (P : Params) : Obj := ⟨Value.none, Option.none, (.func (fdOf (fnB 11 13) n46 n83 0 [] Value.none Value.none Value.none Value.none Option.none Value.none Value.none 0)), Array.mk []⟩
noncomputable def o164 (P : Params) : Obj := ⟨(Value.type PySem.W.SL.s5856160107412720595x4), Option.none, (.fields (Array.mk [(Value.str n46 533), (Value.str n83 534), (Value.str n1 535), (Value.int 139 0), (Value.int 2 0), (Value.int 0 0), (Value.int 0 0), (Value.int 3 0), (.ref 266), (Value.bool true), (Value.int 181 0), (.ref 267), Value.none, (.ref 268), (.ref 269), (.ref 270), (Value.int 538 0), (Value.int 139 0), (Value.str n1 539)])), Array.mk []⟩
noncomputable def o165 (P : Params) : Obj := ⟨(Value.type PySem.W.SL.s7174869446012820540x8), Option.none, (.func (fdOf (fnB 11 13) n46 n83 3 [] Value.none Value.none Value.none (Value.str n4 236) Option.none (.ref 271) Value.none 0)), Array.mk []⟩
noncomputable def o166 (P : Params) : Obj := ⟨(Value.type PySem.W.SL.s14018661285674007319x4), Option.none, (.dict (Array.mk [(de P n22 452 (Value.str n4 236)), (de P n25 456 (Value.int 104 455)), (de P n32 458 (Value.str n74 457)), (de P n34 459 (Value.bool false)), (de P n35 460 (Value.bool true)), (de P n36 462 (Value.int 0 461)), (de P n37 464 (Value.int 1 463)), (de P n38 472 (.ref 216)), (de P n39 481 (.ref 223)), (de P n40 490 (.ref 230)), (de P n41 498 (.ref 237)), (de P n42 506 (.ref 244)), (de P n43 515 (.ref 251)), (de P n44 524 (.ref 258)), (de P n45 532 (.ref 265)), (de P n46 540 (.ref 272)), (de P n26 541 (.ref 273)), (de P n60 543 (.ref 276)), (de P n27 545 (.ref 277)), (de P n5 546 Value.none)]) 4), Array.mk []⟩
noncomputable def o167 (P : Params) : Obj := ⟨(Value.type PySem.W.SL.s17162191345867700912x4), Option.none, (.cls (ClassData.mk n72 [(Value.type PySem.W.SL.s2742458400755230247x6)] [(.ref 275), (Value.type PySem.W.SL.s2742458400755230247x6)] 274 n72 true [] [] false Option.none false)), Array.mk [Option.none, Option.none, (some (Value.str n72 445)), (some (Value.str n72 453)), (some (Value.builtin PySem.W.SL.s11443829558043349243x14)), (some (Value.bool true))]⟩
noncomputable def o168 (P : Params) : Obj := ⟨(Value.type PySem.W.SL.s14755015743595814543x17), Option.none, (.fields (Array.mk [(Value.str n60 542), (.ref 275), (Value.builtin PySem.W.SL.s6511155373996960695x17), (Value.builtin PySem.W.SL.s12411053484034534018x21)])), Array.mk []⟩
noncomputable def o169 (P : Params) : Obj := ⟨(Value.type PySem.W.SL.s14755015743595814543x17), Option.none, (.fields (Array.mk [(Value.str n27 544), (.ref 275), (Value.builtin PySem.W.SL.s10220274742760427390x26), Value.none])), Array.mk []⟩
noncomputable def o170 (P : Params) : Obj := ⟨(Value.type PySem.W.SL.s4290257624100764138x5), Option.none, (.fields (Array.mk [(.ref 275), (.ref 275), (.ref 275)])), Array.mk []⟩
noncomputable def o171 (P : Params) : Obj := ⟨(Value.type PySem.W.SL.s11030030927630378310x26), Option.none, (.fields (Array.mk [(Value.builtin PySem.W.SL.s4860613602091757760x24), (.ref 275)])), Array.mk []⟩
noncomputable def o172 (P : Params) : Obj := ⟨(Value.type PySem.W.SL.s2766695959194262286x5), Option.none, (.seq (Array.mk [(Value.str n48 552), (Value.str n50 553)]) 0), Array.mk []⟩
noncomputable def o173 (P : Params) : Obj := ⟨Value.none, Option.none, (.func (fdOf (fnA 12) n73 n73 0 [] Value.none Value.none Value.none Value.none Option.none Value.none Value.none 0)), Array.mk []⟩
noncomputable def o174 (P : Params) : Obj := ⟨(Value.type PySem.W.SL.s5856160107412720595x4), Option.none, (.fields (Array.mk [(Value.str n73 549), (Value.str n73 550), (Value.str n1 551), (Value.int 141 0), (Value.int 2 0), (Value.int 0 0), (Value.int 0 0), (Value.int 3 0), (.ref 280), (Value.bool true), (Value.int 181 0), (.ref 281), Value.none, (.ref 282), (.ref 283), (.ref 284), (Value.int 554 0), (Value.int 141 0), (Value.str n1 555)])), Array.mk []⟩
noncomputable def o175 (P : Params) : Obj := ⟨(Value.type PySem.W.SL.s7174869446012820540x8), Option.none, (.func (fdOf (fnA 12) n73 n73 3 [] Value.none Value.none Value.none (Value.str n4 236) Option.none (.ref 285) Value.none 0)), Array.mk []⟩
noncomputable def o176 (P : Params) : Obj := ⟨(Value.type PySem.W.SL.s14018661285674007319x4), Option.none, (.dict (Array.mk [(de P n3 165 (Value.str n4 236)), (de P n5 166 Value.none), (de P n6 167 Value.none), (de P n7 168 (Value.builtin PySem.W.SL.s7097527257260152453x26)), (de P n8 169 Value.none), (de P n9 170 (.ref 6)), (de P n10 171 (.ref 4)), (de P n11 173 (Value.str n1 172)), (de P n12 174 Value.none), (de P n13 193 (.ref 21)), (de P n14 197 (Value.str n15 196)), (de P n16 199 (Value.int 4000 198)), (de P n17 202 (Value.int big0 201)), (de P n18 220 (.ref 31)), (de P n19 227 (.ref 41)), (de P n20 235 (.ref 48)), (de P n31 341 (.ref 121)), (de P n61 444 (.ref 198)), (de P n72 548 (.ref 275)), (de P n73 556 (.ref 286)), (de P n84 665 (.ref 361))]) 21), Array.mk []⟩
noncomputable def o177 (P : Params) : Obj := ⟨Value.none, Option.none, (.fields (Array.mk [(Value.int 1 0), (Value.int 0 0), (.ref 20), (Value.int 8 0), (Value.int 0 0), (.ref 27), (Value.int 10 0), (Value.int 0 0), (.ref 40), (Value.int 16 0), (Value.int 0 0), (.ref 47), (Value.int 24 0), (Value.int 0 0), (.ref 54), (Value.int 59 0), (Value.int 0 0), (.ref 131), (Value.int 104 0), (Value.int 0 0), (.ref 208), (Value.int 141 0), (Value.int 0 0), (.ref 285), (Value.int 145 0), (Value.int 0 0), (.ref 292)])), Array.mk []⟩
noncomputable def o178 (P : Params) : Obj := ⟨(Value.type PySem.W.SL.s14018661285674007319x4), Option.none, (.dict (Array.mk [(de P n22 564 (Value.str n4 236)), (de P n24 566 (Value.str n84 565)), (de P n25 568 (Value.int 145 567)), (de P n32 570 (Value.str n85 569)), (de P n34 571 (Value.bool false)), (de P n35 572 (Value.bool true)), (de P n36 575 (.ref 294)), (de P n37 578 (.ref 295)), (de P n38 586 (.ref 302)), (de P n39 595 (.ref 309)), (de P n40 604 (.ref 316)), (de P n41 612 (.ref 323)), (de P n42 620 (.ref 330)), (de P n43 629 (.ref 337)), (de P n44 638 (.ref 344)), (de P n45 646 (.ref 351)), (de P n46 657 (.ref 358)), (de P n26 658 (.ref 359))]) 18), Array.mk []⟩
noncomputable def o179 (P : Params) : Obj := ⟨Value.none, Option.none, (.fields (Array.mk [(Value.int 152 0), (Value.int 4 0), (.ref 301), (Value.int 159 0), (Value.int 4 0), (.ref 308), (Value.int 162 0), (Value.int 4 0), (.ref 315), (Value.int 165 0), (Value.int 4 0), (.ref 322), (Value.int 170 0), (Value.int 4 0), (.ref 329), (Value.int 173 0), (Value.int 4 0), (.ref 336), (Value.int 176 0), (Value.int 4 0), (.ref 343), (Value.int 179 0), (Value.int 4 0), (.ref 350), (Value.int 182 0), (Value.int 4 0), (.ref 357)])), Array.mk []⟩
noncomputable def o180 (P : Params) : Obj := ⟨(Value.type PySem.W.SL.s5856160107412720595x4), Option.none, (.fields (Array.mk [(Value.str n84 559), (Value.str n84 560), (Value.str n1 561), (Value.int 145 0), (Value.int 0 0), (Value.int 0 0), (Value.int 0 0), (Value.int 0 0), (.ref 290), (Value.bool false), (Value.int 181 0), (.ref 291), Value.none, Value.none, Value.none, Value.none, (Value.int 562 0), (Value.int 145 0), (Value.str n1 563)])), Array.mk []⟩
noncomputable def o181 (P : Params) : Obj := ⟨(Value.type PySem.W.SL.s658472552662922059x5), Option.none, .plain, Array.mk [(some (.ref 292)), (some (.ref 3)), (some (.ref 289)), Option.none, (some (Value.str n4 236)), Option.none, (some (.ref 0))]⟩
noncomputable def o182 (P : Params) : Obj := ⟨(Value.type PySem.W.SL.s2766695959194262286x5), Option.none, (.seq (Array.mk [(Value.int 0 573), (Value.int 1 574)]) 0), Array.mk []⟩
noncomputable def o183 (P : Params) : Obj := ⟨(Value.type PySem.W.SL.s2766695959194262286x5), Option.none, (.seq (Array.mk [(Value.int 1 576), (Value.int 1 577)]) 0), Array.mk []⟩
noncomputable def o184 (P : Params) : Obj := ⟨(Value.type PySem.W.SL.s2766695959194262286x5), Option.none, (.seq (Array.mk [(Value.str n47 582), (Value.str n48 583)]) 0), Array.mk []⟩
noncomputable def o185 (P : Params) : Obj := ⟨Value.none, Option.none, (.func (fdOf (fnB 13 5) n38 n86 0 [] Value.none Value.none Value.none Value.none Option.none Value.none Value.none 0)), Array.mk []⟩
noncomputable def o186 (P : Params) : Obj := ⟨(Value.type PySem.W.SL.s5856160107412720595x4), Option.none, (.fields (Array.mk [(Value.str n38 579), (Value.str n86 580), (Value.str n1 581), (Value.int 152 0), (Value.int 2 0), (Value.int 0 0), (Value.int 0 0), (Value.int 3 0), (.ref 296), (Value.bool true), (Value.int 181 0), (.ref 297), Value.none, (.ref 298), (.ref 299), (.ref 300), (Value.int 584 0), (Value.int 152 0), (Value.str n1 585)])), Array.mk []⟩
noncomputable def o187 (P : Params) : Obj := ⟨(Value.type PySem.W.SL.s7174869446012820540x8), Option.none, (.func (fdOf (fnB 13 5) n38 n86 3 [] Value.none Value.none Value.none (Value.str n4 236) Option.none (.ref 301) Value.none 0)), Array.mk []⟩
noncomputable def o188 (P : Params) : Obj := ⟨(Value.type PySem.W.SL.s2766695959194262286x5), Option.none, (.seq (Array.mk [(Value.str n47 590), (Value.str n48 591), (Value.str n50 592)]) 0), Array.mk []⟩
noncomputable def o189 (P : Params) : Obj := ⟨Value.none, Option.none, (.func (fdOf (fnB 13 6) n39 n87 0 [] Value.none Value.none Value.none Value.none Option.none Value.none Value.none 0)), Array.mk []⟩
noncomputable def o190 (P : Params) : Obj := ⟨(Value.type PySem.W.SL.s5856160107412720595x4), Option.none, (.fields (Array.mk [(Value.str n39 587), (Value.str n87 588), (Value.str n1 589), (Value.int 159 0), (Value.int 3 0), (Value.int 0 0), (Value.int 0 0), (Value.int 3 0), (.ref 303), (Value.bool true), (Value.int 181 0), (.ref 304), Value.none, (.ref 305), (.ref 306), (.ref 307), (Value.int 593 0), (Value.int 159 0), (Value.str n1 594)])), Array.mk []⟩
noncomputable def o191 (P : Params) : Obj := ⟨(Value.type PySem.W.SL.s7174869446012820540x8), Option.none, (.func (fdOf (fnB 13 6) n39 n87 3 [] Value.none Value.none Value.none (Value.str n4 236) Option.none (.ref 308) Value.none 0)), Array.mk []⟩
noncomputable def o192 (P : Params) : Obj := ⟨(Value.type PySem.W.SL.s2766695959194262286x5), Option.none, (.seq (Array.mk [(Value.str n47 599), (Value.str n48 600), (Value.str n50 601)]) 0), Array.mk []⟩
noncomputable def o193 (P : Params) : Obj := ⟨Value.none, Option.none, (.func (fdOf (fnB 13 7) n40 n88 0 [] Value.none Value.none Value.none Value.none Option.none Value.none Value.none 0)), Array.mk []⟩
noncomputable def o194 (P : Params) : Obj := ⟨(Value.type PySem.W.SL.s5856160107412720595x4), Option.none, (.fields (Array.mk [(Value.str n40 596), (Value.str n88 597), (Value.str n1 598), (Value.int 162 0), (Value.int 3 0), (Value.int 0 0), (Value.int 0 0), (Value.int 3 0), (.ref 310), (Value.bool true), (Value.int 181 0), (.ref 311), Value.none, (.ref 312), (.ref 313), (.ref 314), (Value.int 602 0), (Value.int 162 0), (Value.str n1 603)])), Array.mk []⟩
noncomputable def o195 (P : Params) : Obj := ⟨(Value.type PySem.W.SL.s7174869446012820540x8), Option.none, (.func (fdOf (fnB 13 7) n40 n88 3 [] Value.none Value.none Value.none (Value.str n4 236) Option.none (.ref 315) Value.none 0)), Array.mk []⟩
noncomputable def o196 (P : Params) : Obj := ⟨(Value.type PySem.W.SL.s2766695959194262286x5), Option.none, (.seq (Array.mk [(Value.str n47 608), (Value.str n48 609)]) 0), Array.mk []⟩
noncomputable def o197 (P : Params) : Obj := ⟨Value.none, Option.none, (.func (fdOf (fnB 13 8) n41 n89 0 [] Value.none Value.none Value.none Value.none Option.none Value.none Value.none 0)), Array.mk []⟩
noncomputable def o198 (P : Params) : Obj := ⟨(Value.type PySem.W.SL.s5856160107412720595x4), Option.none, (.fields (Array.mk [(Value.str n41 605), (Value.str n89 606), (Value.str n1 607), (Value.int 165 0), (Value.int 2 0), (Value.int 0 0), (Value.int 0 0), (Value.int 3 0), (.ref 317), (Value.bool true), (Value.int 181 0), (.ref 318), Value.none, (.ref 319), (.ref 320), (.ref 321), (Value.int 610 0), (Value.int 165 0), (Value.str n1 611)])), Array.mk []⟩
noncomputable def o199 (P : Params) : Obj := ⟨(Value.type PySem.W.SL.s7174869446012820540x8), Option.none, (.func (fdOf (fnB 13 8) n41 n89 3 [] Value.none Value.none Value.none (Value.str n4 236) Option.none (.ref 322) Value.none 0)), Array.mk []⟩
noncomputable def o200 (P : Params) : Obj := ⟨(Value.type PySem.W.SL.s2766695959194262286x5), Option.none, (.seq (Array.mk [(Value.str n47 616), (Value.str n54 617)]) 0), Array.mk []⟩
noncomputable def o201 (P : Params) : Obj := ⟨Value.none, Option.none, (.func (fdOf (fnB 13 9) n42 n90 0 [] Value.none Value.none Value.none Value.none Option.none Value.none Value.none 0)), Array.mk []⟩
noncomputable def o202 (P : Params) : Obj := ⟨(Value.type PySem.W.SL.s5856160107412720595x4), Option.none, (.fields (Array.mk [(Value.str n42 613), (Value.str n90 614), (Value.str n1 615), (Value.int 170 0), (Value.int 2 0), (Value.int 0 0), (Value.int 0 0), (Value.int 3 0), (.ref 324), (Value.bool true), (Value.int 181 0), (.ref 325), Value.none, (.ref 326), (.ref 327), (.ref 328), (Value.int 618 0), (Value.int 170 0), (Value.str n1 619)])), Array.mk []⟩
noncomputable def o203 (P : Params) : Obj := ⟨(Value.type PySem.W.SL.s7174869446012820540x8), Option.none, (.func (fdOf (fnB 13 9) n42 n90 3 [] Value.none Value.none Value.none (Value.str n4 236) Option.none (.ref 329) Value.none 0)), Array.mk []⟩
noncomputable def o204 (P : Params) : Obj := ⟨(Value.type PySem.W.SL.s2766695959194262286x5), Option.none, (.seq (Array.mk [(Value.str n47 624), (Value.str n48 625), (Value.str n50 626)]) 0), Array.mk []⟩
noncomputable def o205 (P : Params) : Obj := ⟨Value.none, Option.none, (.func (fdOf (fnB 13 10) n43 n91 0 [] Value.none Value.none Value.none Value.none Option.none Value.none Value.none 0)), Array.mk []⟩
noncomputable def o206 (P : Params) : Obj := ⟨(Value.type PySem.W.SL.s5856160107412720595x4), Option.none, (.fields (Array.mk [(Value.str n43 621), (Value.str n91 622), (Value.str n1 623), (Value.int 173 0), (Value.int 3 0), (Value.int 0 0), (Value.int 0 0), (Value.int 3 0), (.ref 331), (Value.bool true), (Value.int 181 0), (.ref 332), Value.none, (.ref 333), (.ref 334), (.ref 335), (Value.int 627 0), (Value.int 173 0), (Value.str n1 628)])), Array.mk []⟩
noncomputable def o207 (P : Params) : Obj := ⟨(Value.type PySem.W.SL.s7174869446012820540x8), Option.none, (.func (fdOf (fnB 13 10) n43 n91 3 [] Value.none Value.none Value.none (Value.str n4 236) Option.none (.ref 336) Value.none 0)), Array.mk []⟩
noncomputable def o208 (P : Params) : Obj := ⟨(Value.type PySem.W.SL.s2766695959194262286x5), Option.none, (.seq (Array.mk [(Value.str n47 633), (Value.str n48 634), (Value.str n50 635)]) 0), Array.mk []⟩
noncomputable def o209 (P : Params) : Obj := ⟨Value.none, Option.none, (.func (fdOf (fnB 13 11) n44 n92 0 [] Value.none Value.none Value.none Value.none Option.none Value.none Value.none 0)), Array.mk []⟩
noncomputable def o210 (P : Params) : Obj := ⟨(Value.type PySem.W.SL.s5856160107412720595x4), Option.none, (.fields (Array.mk [(Value.str n44 630), (Value.str n92 631), (Value.str n1 632), (Value.int 176 0), (Value.int 3 0), (Value.int 0 0), (Value.int 0 0), (Value.int 3 0), (.ref 338), (Value.bool true), (Value.int 181 0), (.ref 339), Value.none, (.ref 340), (.ref 341), (.ref 342), (Value.int 636 0), (Value.int 176 0), (Value.str n1 637)])), Array.mk []⟩
noncomputable def o211 (P : Params) : Obj := ⟨(Value.type PySem.W.SL.s7174869446012820540x8), Option.none, (.func (fdOf (fnB 13 11) n44 n92 3 [] Value.none Value.none Value.none (Value.str n4 236) Option.none (.ref 343) Value.none 0)), Array.mk []⟩
noncomputable def o212 (P : Params) : Obj := ⟨(Value.type PySem.W.SL.s2766695959194262286x5), Option.none, (.seq (Array.mk [(Value.str n47 642), (Value.str n48 643)]) 0), Array.mk []⟩
noncomputable def o213 (P : Params) : Obj := ⟨Value.none, Option.none, (.func (fdOf (fnB 13 12) n45 n93 0 [] Value.none Value.none Value.none Value.none Option.none Value.none Value.none 0)), Array.mk []⟩
noncomputable def o214 (P : Params) : Obj := ⟨(Value.type PySem.W.SL.s5856160107412720595x4), Option.none, (.fields (Array.mk [(Value.str n45 639), (Value.str n93 640), (Value.str n1 641), (Value.int 179 0), (Value.int 2 0), (Value.int 0 0), (Value.int 0 0), (Value.int 3 0), (.ref 345), (Value.bool true), (Value.int 181 0), (.ref 346), Value.none, (.ref 347), (.ref 348), (.ref 349), (Value.int 644 0), (Value.int 179 0), (Value.str n1 645)])), Array.mk []⟩
noncomputable def o215 (P : Params) : Obj := ⟨(Value.type PySem.W.SL.s7174869446012820540x8), Option.none, (.func (fdOf (fnB 13 12) n45 n93 3 [] Value.none Value.none Value.none (Value.str n4 236) Option.none (.ref 350) Value.none 0)), Array.mk []⟩
noncomputable def o216 (P : Params) : Obj := ⟨(Value.type PySem.W.SL.s2766695959194262286x5), Option.none, (.seq (Array.mk [(Value.str n47 650), (Value.str n29 651), (Value.str n94 652), (Value.str n95 653), (Value.str n96 654)]) 0), Array.mk []⟩
noncomputable def o217 (P : Params) : Obj := ⟨Value.none, Option.none, (.func (fdOf (fnB 13 13) n46 n97 0 [] Value.none Value.none Value.none Value.none Option.none Value.none Value.none 0)), Array.mk []⟩
noncomputable def o218 (P : Params) : Obj := ⟨(Value.type PySem.W.SL.s5856160107412720595x4), Option.none, (.fields (Array.mk [(Value.str n46 647), (Value.str n97 648), (Value.str n1 649), (Value.int 182 0), (Value.int 2 0), (Value.int 0 0), (Value.int 0 0), (Value.int 3 0), (.ref 352), (Value.bool true), (Value.int 181 0), (.ref 353), Value.none, (.ref 354), (.ref 355), (.ref 356), (Value.int 655 0), (Value.int 182 0), (Value.str n1 656)])), Array.mk []⟩
noncomputable def o219 (P : Params) : Obj := ⟨(Value.type PySem.W.SL.s7174869446012820540x8), Option.none, (.func (fdOf (fnB 13 13) n46 n97 3 [] Value.none Value.none Value.none (Value.str n4 236) Option.none (.ref 357) Value.none 0)), Array.mk []⟩
noncomputable def o220 (P : Params) : Obj := ⟨(Value.type PySem.W.SL.s14018661285674007319x4), Option.none, (.dict (Array.mk [(de P n22 564 (Value.str n4 236)), (de P n25 568 (Value.int 145 567)), (de P n32 570 (Value.str n85 569)), (de P n34 571 (Value.bool false)), (de P n35 572 (Value.bool true)), (de P n36 575 (.ref 294)), (de P n37 578 (.ref 295)), (de P n38 586 (.ref 302)), (de P n39 595 (.ref 309)), (de P n40 604 (.ref 316)), (de P n41 612 (.ref 323)), (de P n42 620 (.ref 330)), (de P n43 629 (.ref 337)), (de P n44 638 (.ref 344)), (de P n45 646 (.ref 351)), (de P n46 657 (.ref 358)), (de P n26 658 (.ref 359)), (de P n60 660 (.ref 362)), (de P n27 662 (.ref 363)), (de P n5 663 Value.none)]) 4), Array.mk []⟩
noncomputable def o221 (P : Params) : Obj := ⟨(Value.type PySem.W.SL.s17162191345867700912x4), Option.none, (.cls (ClassData.mk n84 [(Value.type PySem.W.SL.s2742458400755230247x6)] [(.ref 361), (Value.type PySem.W.SL.s2742458400755230247x6)] 360 n84 true [] [] false Option.none false)), Array.mk [Option.none, Option.none, (some (Value.str n84 557)), (some (Value.str n84 565)), (some (Value.builtin PySem.W.SL.s11443829558043349243x14)), (some (Value.bool true))]⟩
noncomputable def o222 (P : Params) : Obj := ⟨(Value.type PySem.W.SL.s14755015743595814543x17), Option.none, (.fields (Array.mk [(Value.str n60 659), (.ref 361), (Value.builtin PySem.W.SL.s6511155373996960695x17), (Value.builtin PySem.W.SL.s12411053484034534018x21)])), Array.mk []⟩
noncomputable def o223 (P : Params) : Obj := ⟨(Value.type PySem.W.SL.s14755015743595814543x17), Option.none, (.fields (Array.mk [(Value.str n27 661), (.ref 361), (Value.builtin PySem.W.SL.s10220274742760427390x26), Value.none])), Array.mk []⟩
noncomputable def o224 (P : Params) : Obj := ⟨(Value.type PySem.W.SL.s4290257624100764138x5), Option.none, (.fields (Array.mk [(.ref 361), (.ref 361), (.ref 361)])), Array.mk []⟩
noncomputable def o225 (P : Params) : Obj := ⟨(Value.type PySem.W.SL.s11030030927630378310x26), Option.none, (.fields (Array.mk [(Value.builtin PySem.W.SL.s4860613602091757760x24), (.ref 361)])), Array.mk []⟩
noncomputable def o226 (P : Params) : Obj := ⟨(Value.type PySem.W.SL.s14018661285674007319x4), Option.none, (.dict (Array.mk [(de P n3 165 (Value.str n4 236)), (de P n5 166 Value.none), (de P n6 167 Value.none), (de P n7 168 (Value.builtin PySem.W.SL.s7097527257260152453x26)), (de P n8 169 Value.none), (de P n9 170 (.ref 6)), (de P n10 171 (.ref 4)), (de P n11 173 (Value.str n1 172)), (de P n12 174 Value.none), (de P n13 193 (.ref 21)), (de P n14 197 (Value.str n15 196)), (de P n16 199 (Value.int 4000 198)), (de P n17 202 (Value.int big0 201)), (de P n18 220 (.ref 31)), (de P n19 227 (.ref 41)), (de P n20 235 (.ref 48)), (de P n31 341 (.ref 121)), (de P n61 444 (.ref 198)), (de P n72 548 (.ref 275)), (de P n73 556 (.ref 286)), (de P n84 665 (.ref 361)), (de P n98 718 (.ref 403)), (de P n99 727 (.ref 412))]) 23), Array.mk []⟩
noncomputable def o227 (P : Params) : Obj := ⟨Value.none, Option.none, (.fields (Array.mk [(Value.int 1 0), (Value.int 0 0), (.ref 20), (Value.int 8 0), (Value.int 0 0), (.ref 27), (Value.int 10 0), (Value.int 0 0), (.ref 40), (Value.int 16 0), (Value.int 0 0), (.ref 47), (Value.int 24 0), (Value.int 0 0), (.ref 54), (Value.int 59 0), (Value.int 0 0), (.ref 131), (Value.int 104 0), (Value.int 0 0), (.ref 208), (Value.int 141 0), (Value.int 0 0), (.ref 285), (Value.int 145 0), (Value.int 0 0), (.ref 292), (Value.int 187 0), (Value.int 0 0), (.ref 371), (Value.int 207 0), (Value.int 0 0), (.ref 411)])), Array.mk []⟩
noncomputable def o228 (P : Params) : Obj := ⟨(Value.type PySem.W.SL.s17162191345867700912x4), Option.none, (.cls (ClassData.mk n84 [(Value.type PySem.W.SL.s2742458400755230247x6)] [(.ref 361), (Value.type PySem.W.SL.s2742458400755230247x6)] 360 n84 true [] [(.ref 403)] false Option.none false)), Array.mk [Option.none, Option.none, (some (Value.str n84 557)), (some (Value.str n84 565)), (some (Value.builtin PySem.W.SL.s11443829558043349243x14)), (some (Value.bool true))]⟩
noncomputable def o229 (P : Params) : Obj := ⟨(Value.type PySem.W.SL.s2766695959194262286x5), Option.none, (.seq (Array.mk [(.ref 361)]) 0), Array.mk []⟩
noncomputable def o230 (P : Params) : Obj := ⟨(Value.type PySem.W.SL.s14018661285674007319x4), Option.none, (.dict (Array.mk [(de P n22 673 (Value.str n4 236)), (de P n24 675 (Value.str n98 674)), (de P n25 677 (Value.int 187 676)), (de P n32 679 (Value.str n100 678)), (de P n34 680 (Value.bool true)), (de P n38 688 (.ref 379)), (de P n39 697 (.ref 386)), (de P n41 705 (.ref 393)), (de P n44 714 (.ref 400)), (de P n26 715 (.ref 401))]) 10), Array.mk []⟩
noncomputable def o231 (P : Params) : Obj := ⟨Value.none, Option.none, (.fields (Array.mk [(Value.int 191 0), (Value.int 4 0), (.ref 378), (Value.int 197 0), (Value.int 4 0), (.ref 385), (Value.int 202 0), (Value.int 4 0), (.ref 392), (Value.int 205 0), (Value.int 4 0), (.ref 399)])), Array.mk []⟩
noncomputable def o232 (P : Params) : Obj := ⟨(Value.type PySem.W.SL.s5856160107412720595x4), Option.none, (.fields (Array.mk [(Value.str n98 668), (Value.str n98 669), (Value.str n1 670), (Value.int 187 0), (Value.int 0 0), (Value.int 0 0), (Value.int 0 0), (Value.int 0 0), (.ref 369), (Value.bool false), (Value.int 181 0), (.ref 370), Value.none, Value.none, Value.none, Value.none, (Value.int 671 0), (Value.int 187 0), (Value.str n1 672)])), Array.mk []⟩
noncomputable def o233 (P : Params) : Obj := ⟨(Value.type PySem.W.SL.s658472552662922059x5), Option.none, .plain, Array.mk [(some (.ref 371)), (some (.ref 3)), (some (.ref 368)), Option.none, (some (Value.str n4 236)), Option.none, (some (.ref 0))]⟩
noncomputable def o234 (P : Params) : Obj := ⟨(Value.type PySem.W.SL.s2766695959194262286x5), Option.none, (.seq (Array.mk [(Value.str n47 684), (Value.str n48 685)]) 0), Array.mk []⟩
noncomputable def o235 (P : Params) : Obj := ⟨Value.none, Option.none, (.func (fdOf (fnB 14 2) n38 n101 0 [] Value.none Value.none Value.none Value.none Option.none Value.none Value.none 0)), Array.mk []⟩
noncomputable def o236 (P : Params) : Obj := ⟨(Value.type PySem.W.SL.s5856160107412720595x4), Option.none, (.fields (Array.mk [(Value.str n38 681), (Value.str n101 682), (Value.str n1 683), (Value.int 191 0), (Value.int 2 0), (Value.int 0 0), (Value.int 0 0), (Value.int 3 0), (.ref 373), (Value.bool true), (Value.int 181 0), (.ref 374), Value.none, (.ref 375), (.ref 376), (.ref 377), (Value.int 686 0), (Value.int 191 0), (Value.str n1 687)])), Array.mk []⟩
noncomputable def o237 (P : Params) : Obj := ⟨(Value.type PySem.W.SL.s7174869446012820540x8), Option.none, (.func (fdOf (fnB 14 2) n38 n101 3 [] Value.none Value.none Value.none (Value.str n4 236) Option.none (.ref 378) Value.none 0)), Array.mk []⟩
noncomputable def o238 (P : Params) : Obj := ⟨(Value.type PySem.W.SL.s2766695959194262286x5), Option.none, (.seq (Array.mk [(Value.str n47 692), (Value.str n48 693), (Value.str n50 694)]) 0), Array.mk []⟩
noncomputable def o239 (P : Params) : Obj := ⟨Value.none, Option.none, (.func (fdOf (fnB 14 3) n39 n102 0 [] Value.none Value.none Value.none Value.none Option.none Value.none Value.none 0)), Array.mk []⟩
noncomputable def o240 (P : Params) : Obj := ⟨(Value.type PySem.W.SL.s5856160107412720595x4), Option.none, (.fields (Array.mk [(Value.str n39 689), (Value.str n102 690), (Value.str n1 691), (Value.int 197 0), (Value.int 3 0), (Value.int 0 0), (Value.int 0 0), (Value.int 3 0), (.ref 380), (Value.bool true), (Value.int 181 0), (.ref 381), Value.none, (.ref 382), (.ref 383), (.ref 384), (Value.int 695 0), (Value.int 197 0), (Value.str n1 696)])), Array.mk []⟩
noncomputable def o241 (P : Params) : Obj := ⟨(Value.type PySem.W.SL.s7174869446012820540x8), Option.none, (.func (fdOf (fnB 14 3) n39 n102 3 [] Value.none Value.none Value.none (Value.str n4 236) Option.none (.ref 385) Value.none 0)), Array.mk []⟩
noncomputable def o242 (P : Params) : Obj := ⟨(Value.type PySem.W.SL.s2766695959194262286x5), Option.none, (.seq (Array.mk [(Value.str n47 701), (Value.str n48 702)]) 0), Array.mk []⟩
noncomputable def o243 (P : Params) : Obj := ⟨Value.none, Option.none, (.func (fdOf (fnB 14 4) n41 n103 0 [] Value.none Value.none Value.none Value.none Option.none Value.none Value.none 0)), Array.mk []⟩
noncomputable def o244 (P : Params) : Obj := ⟨(Value.type PySem.W.SL.s5856160107412720595x4), Option.none, (.fields (Array.mk [(Value.str n41 698), (Value.str n103 699), (Value.str n1 700), (Value.int 202 0), (Value.int 2 0), (Value.int 0 0), (Value.int 0 0), (Value.int 3 0), (.ref 387), (Value.bool true), (Value.int 181 0), (.ref 388), Value.none, (.ref 389), (.ref 390), (.ref 391), (Value.int 703 0), (Value.int 202 0), (Value.str n1 704)])), Array.mk []⟩
noncomputable def o245 (P : Params) : Obj := ⟨(Value.type PySem.W.SL.s7174869446012820540x8), Option.none, (.func (fdOf (fnB 14 4) n41 n103 3 [] Value.none Value.none Value.none (Value.str n4 236) Option.none (.ref 392) Value.none 0)), Array.mk []⟩
noncomputable def o246 (P : Params) : Obj := ⟨(Value.type PySem.W.SL.s2766695959194262286x5), Option.none, (.seq (Array.mk [(Value.str n47 709), (Value.str n48 710), (Value.str n50 711)]) 0), Array.mk []⟩
noncomputable def o247 (P : Params) : Obj := ⟨Value.none, Option.none, (.func (fdOf (fnB 14 5) n44 n104 0 [] Value.none Value.none Value.none Value.none Option.none Value.none Value.none 0)), Array.mk []⟩
noncomputable def o248 (P : Params) : Obj := ⟨(Value.type PySem.W.SL.s5856160107412720595x4), Option.none, (.fields (Array.mk [(Value.str n44 706), (Value.str n104 707), (Value.str n1 708), (Value.int 205 0), (Value.int 3 0), (Value.int 0 0), (Value.int 0 0), (Value.int 3 0), (.ref 394), (Value.bool true), (Value.int 181 0), (.ref 395), Value.none, (.ref 396), (.ref 397), (.ref 398), (Value.int 712 0), (Value.int 205 0), (Value.str n1 713)])), Array.mk []⟩
noncomputable def o249 (P : Params) : Obj := ⟨(Value.type PySem.W.SL.s7174869446012820540x8), Option.none, (.func (fdOf (fnB 14 5) n44 n104 3 [] Value.none Value.none Value.none (Value.str n4 236) Option.none (.ref 399) Value.none 0)), Array.mk []⟩
noncomputable def o250 (P : Params) : Obj := ⟨(Value.type PySem.W.SL.s14018661285674007319x4), Option.none, (.dict (Array.mk [(de P n22 673 (Value.str n4 236)), (de P n25 677 (Value.int 187 676)), (de P n32 679 (Value.str n100 678)), (de P n34 680 (Value.bool true)), (de P n38 688 (.ref 379)), (de P n39 697 (.ref 386)), (de P n41 705 (.ref 393)), (de P n44 714 (.ref 400)), (de P n26 715 (.ref 401)), (de P n5 716 Value.none)]) 2), Array.mk []⟩
noncomputable def o251 (P : Params) : Obj := ⟨(Value.type PySem.W.SL.s17162191345867700912x4), Option.none, (.cls (ClassData.mk n98 [(.ref 361)] [(.ref 403), (.ref 361), (Value.type PySem.W.SL.s2742458400755230247x6)] 402 n98 true [] [] false Option.none false)), Array.mk [(some (.ref 366)), Option.none, (some (Value.str n98 666)), (some (Value.str n98 674)), (some (Value.builtin PySem.W.SL.s11443829558043349243x14)), (some (Value.bool true))]⟩
noncomputable def o252 (P : Params) : Obj := ⟨(Value.type PySem.W.SL.s4290257624100764138x5), Option.none, (.fields (Array.mk [(.ref 403), (.ref 403), (.ref 403)])), Array.mk []⟩
noncomputable def o253 (P : Params) : Obj := ⟨(Value.type PySem.W.SL.s11030030927630378310x26), Option.none, (.fields (Array.mk [(Value.builtin PySem.W.SL.s4860613602091757760x24), (.ref 403)])), Array.mk []⟩
noncomputable def o254 (P : Params) : Obj := ⟨(Value.type PySem.W.SL.s2766695959194262286x5), Option.none, (.seq (Array.mk [(Value.str n105 722), (Value.str n106 723), (Value.str n107 724)]) 0), Array.mk []⟩
noncomputable def o255 (P : Params) : Obj := ⟨Value.none, Option.none, (.func (fdOf (fnA 15) n99 n99 0 [] Value.none Value.none Value.none Value.none Option.none Value.none Value.none 0)), Array.mk []⟩
noncomputable def o256 (P : Params) : Obj := ⟨(Value.type PySem.W.SL.s5856160107412720595x4), Option.none, (.fields (Array.mk [(Value.str n99 719), (Value.str n99 720), (Value.str n1 721), (Value.int 207 0), (Value.int 2 0), (Value.int 0 0), (Value.int 0 0), (Value.int 3 0), (.ref 406), (Value.bool true), (Value.int 181 0), (.ref 407), Value.none, (.ref 408), (.ref 409), (.ref 410), (Value.int 725 0), (Value.int 207 0), (Value.str n1 726)])), Array.mk []⟩
noncomputable def o257 (P : Params) : Obj := ⟨(Value.type PySem.W.SL.s7174869446012820540x8), Option.none, (.func (fdOf (fnA 15) n99 n99 3 [] Value.none Value.none Value.none (Value.str n4 236) Option.none (.ref 411) Value.none 0)), Array.mk []⟩
noncomputable def o258 (P : Params) : Obj := ⟨(Value.type PySem.W.SL.s14018661285674007319x4), Option.none, (.dict (Array.mk [(de P n3 165 (Value.str n108 737)), (de P n5 166 Value.none), (de P n6 167 Value.none), (de P n7 168 (Value.builtin PySem.W.SL.s7097527257260152453x26)), (de P n8 169 Value.none), (de P n9 170 (.ref 6)), (de P n10 171 (.ref 4)), (de P n11 173 (Value.str n1 172)), (de P n12 174 Value.none), (de P n13 193 (.ref 21)), (de P n14 197 (Value.str n15 196)), (de P n16 199 (Value.int 4000 198)), (de P n17 202 (Value.int big0 201)), (de P n18 220 (.ref 31)), (de P n19 227 (.ref 41)), (de P n20 235 (.ref 48)), (de P n31 341 (.ref 121)), (de P n61 444 (.ref 198)), (de P n72 548 (.ref 275)), (de P n73 556 (.ref 286)), (de P n84 665 (.ref 361)), (de P n98 718 (.ref 403)), (de P n99 727 (.ref 412)), (de P n109 728 (.ref 423)), (de P n110 736 (.ref 430)), (de P n111 749 (.ref 437))]) 26), Array.mk []⟩
noncomputable def o259 (P : Params) : Obj := ⟨Value.none, Option.none, (.fields (Array.mk [(Value.int 1 0), (Value.int 0 0), (.ref 20), (Value.int 8 0), (Value.int 0 0), (.ref 27), (Value.int 10 0), (Value.int 0 0), (.ref 40), (Value.int 16 0), (Value.int 0 0), (.ref 47), (Value.int 24 0), (Value.int 0 0), (.ref 54), (Value.int 59 0), (Value.int 0 0), (.ref 131), (Value.int 104 0), (Value.int 0 0), (.ref 208), (Value.int 141 0), (Value.int 0 0), (.ref 285), (Value.int 145 0), (Value.int 0 0), (.ref 292), (Value.int 187 0), (Value.int 0 0), (.ref 371), (Value.int 207 0), (Value.int 0 0), (.ref 411), (Value.int 211 0), (Value.int 0 0), (.ref 429), (Value.int 217 0), (Value.int 0 0), (.ref 436)])), Array.mk []⟩
noncomputable def o260 (P : Params) : Obj := ⟨(Value.type PySem.W.SL.s14018661285674007319x4), Option.none, (.dict (Array.mk []) 0), Array.mk []⟩
noncomputable def o261 (P : Params) : Obj := ⟨(.ref 121), (some 413), .plain, Array.mk []⟩
noncomputable def o262 (P : Params) : Obj := ⟨(.ref 198), (some 415), .plain, Array.mk []⟩
noncomputable def o263 (P : Params) : Obj := ⟨(.ref 275), (some 417), .plain, Array.mk []⟩
noncomputable def o264 (P : Params) : Obj := ⟨(.ref 361), (some 419), .plain, Array.mk []⟩
noncomputable def o265 (P : Params) : Obj := ⟨(.ref 403), (some 421), .plain, Array.mk []⟩
noncomputable def o266 (P : Params) : Obj := ⟨(Value.type PySem.W.SL.s9222952809800978799x4), Option.none, (.seq (Array.mk [(.ref 414), (.ref 416), (.ref 418), (.ref 420), (.ref 422)]) 0), Array.mk []⟩
noncomputable def o267 (P : Params) : Obj := ⟨(Value.type PySem.W.SL.s2766695959194262286x5), Option.none, (.seq (Array.mk [(Value.str n32 732), (Value.str n37 733)]) 0), Array.mk []⟩
noncomputable def o268 (P : Params) : Obj := ⟨Value.none, Option.none, (.func (fdOf (fnA 17) n110 n110 0 [] Value.none Value.none Value.none Value.none Option.none Value.none Value.none 0)), Array.mk []⟩
noncomputable def o269 (P : Params) : Obj := ⟨(Value.type PySem.W.SL.s5856160107412720595x4), Option.none, (.fields (Array.mk [(Value.str n110 729), (Value.str n110 730), (Value.str n1 731), (Value.int 211 0), (Value.int 1 0), (Value.int 0 0), (Value.int 0 0), (Value.int 3 0), (.ref 424), (Value.bool true), (Value.int 181 0), (.ref 425), Value.none, (.ref 426), (.ref 427), (.ref 428), (Value.int 734 0), (Value.int 211 0), (Value.str n1 735)])), Array.mk []⟩
noncomputable def o270 (P : Params) : Obj := ⟨(Value.type PySem.W.SL.s7174869446012820540x8), Option.none, (.func (fdOf (fnA 17) n110 n110 3 [] Value.none Value.none Value.none (Value.str n4 236) Option.none (.ref 429) Value.none 0)), Array.mk []⟩
noncomputable def o271 (P : Params) : Obj := ⟨(Value.type PySem.W.SL.s2766695959194262286x5), Option.none, (.seq (Array.mk [(Value.str n112 742), (Value.str n37 743), (Value.str n106 744), (Value.str n48 745), (Value.str n113 746)]) 0), Array.mk []⟩
noncomputable def o272 (P : Params) : Obj := ⟨Value.none, Option.none, (.func (fdOf (fnA 19) n111 n111 0 [] Value.none Value.none Value.none Value.none Option.none Value.none Value.none 0)), Array.mk []⟩
noncomputable def o273 (P : Params) : Obj := ⟨(Value.type PySem.W.SL.s5856160107412720595x4), Option.none, (.fields (Array.mk [(Value.str n111 739), (Value.str n111 740), (Value.str n1 741), (Value.int 217 0), (Value.int 1 0), (Value.int 0 0), (Value.int 0 0), (Value.int 3 0), (.ref 431), (Value.bool true), (Value.int 181 0), (.ref 432), Value.none, (.ref 433), (.ref 434), (.ref 435), (Value.int 747 0), (Value.int 217 0), (Value.str n1 748)])), Array.mk []⟩
noncomputable def o274 (P : Params) : Obj := ⟨(Value.type PySem.W.SL.s7174869446012820540x8), Option.none, (.func (fdOf (fnA 19) n111 n111 3 [] Value.none Value.none Value.none (Value.str n108 737) Option.none (.ref 436) Value.none 0)), Array.mk []⟩
noncomputable def o275 (P : Params) : Obj := ⟨(Value.type PySem.W.SL.s14018661285674007319x4), Option.none, (.dict (Array.mk [(de P n3 1 (Value.str n114 160)), (de P n5 2 (Value.builtin "builtins.__doc__:str#opaque")), (de P n6 3 (Value.builtin "builtins.__package__:str#opaque")), (de P n7 4 (Value.builtin "builtins.__loader__:shared#opaque")), (de P n8 5 (Value.builtin PySem.W.SL.s11665532747177232413x24)), (de P n115 6 (Value.builtin PySem.W.SL.s15183661809925369436x15)), (de P n116 7 (Value.builtin PySem.W.SL.s13915890719876406383x10)), (de P n117 8 (Value.builtin PySem.W.SL.s13459172003223722735x3)), (de P n118 9 (Value.builtin PySem.W.SL.s10557405761357834076x3)), (de P n119 10 (Value.builtin PySem.W.SL.s4233737765568776869x3)), (de P n120 11 (Value.builtin PySem.W.SL.s2508922471967985374x5)), (de P n121 12 (Value.builtin PySem.W.SL.s15574269061696679450x3)), (de P n122 13 (Value.builtin PySem.W.SL.s6016482663378992977x10)), (de P n123 14 (Value.builtin PySem.W.SL.s5596568736180474577x8)), (de P n124 15 (Value.builtin PySem.W.SL.s2839554839881490554x3)), (de P n125 16 (Value.builtin PySem.W.SL.s725004073602090463x7)), (de P n126 17 (Value.builtin PySem.W.SL.s9436932552931045734x7)), (de P n127 18 (Value.builtin PySem.W.SL.s2754603736356183583x3)), (de P n128 19 (Value.builtin PySem.W.SL.s15185746759980889043x6)), (de P n129 20 (Value.builtin PySem.W.SL.s8192189862530294059x4)), (de P n130 21 (Value.builtin PySem.W.SL.s7038307821325472102x4)), (de P n131 22 (Value.builtin PySem.W.SL.s5662562618415449548x6)), (de P n132 23 (Value.builtin PySem.W.SL.s15281542589158584767x7)), (de P n133 24 (Value.builtin PySem.W.SL.s17651547275483570877x7)), (de P n134 25 (Value.builtin PySem.W.SL.s4036449017235975746x7)), (de P n135 26 (Value.builtin PySem.W.SL.s8879979712987360175x4)), (de P n136 27 (Value.builtin PySem.W.SL.s1801250619170735830x3)), (de P n137 28 (Value.builtin PySem.W.SL.s17659931425627118568x2)), (de P n138 29 (Value.builtin PySem.W.SL.s6063217899685152688x5)), (de P n139 30 (Value.builtin PySem.W.SL.s8008927332132565319x10)), (de P n140 31 (Value.builtin PySem.W.SL.s3544116645089599534x10)), (de P n141 32 (Value.builtin PySem.W.SL.s13761710972054866084x4)), (de P n142 33 (Value.builtin PySem.W.SL.s12896375587409280029x5)), (de P n143 34 (Value.builtin PySem.W.SL.s13014049009108672802x3)), (de P n144 35 (Value.builtin PySem.W.SL.s13935586738268321596x6)), (de P n145 36 (Value.builtin PySem.W.SL.s8200498257699607233x3)), (de P n146 37 (Value.builtin PySem.W.SL.s14114244577727609259x3)), (de P n147 38 (Value.builtin PySem.W.SL.s1499430450269397089x4)), (de P n148 39 (Value.builtin PySem.W.SL.s8755793994789770505x5)), (de P n149 40 (Value.builtin PySem.W.SL.s15725212667919936108x3)), (de P n150 41 (Value.builtin PySem.W.SL.s15791221867095933363x3)), (de P n151 42 (Value.builtin PySem.W.SL.s81309575031448614x3)), (de P n152 43 (Value.builtin PySem.W.SL.s8069831620301644142x5)), (de P n153 44 (Value.builtin PySem.W.SL.s10061844253413749634x4)), (de P n154 45 (Value.builtin PySem.W.SL.s9496514870978017513x5)), (de P n155 46 (Value.builtin PySem.W.SL.s8899691144933366716x7)), (de P n156 47 (Value.builtin PySem.W.SL.s15201008993051130160x6)), (de P n157 48 (Value.builtin PySem.W.SL.s741896355592496720x3)), (de P n158 49 (Value.builtin PySem.W.SL.s17925004256654032244x4)), (de P n159 50 Value.none), (de P n160 51 Value.ellipsis), (de P n161 52 Value.notImplemented), (de P n162 53 (Value.bool false)), (de P n163 54 (Value.bool true)), (de P n164 55 (Value.type PySem.W.SL.s11695548795398191787x4)), (de P n165 56 (Value.type PySem.W.SL.s4156966113859768872x10)), (de P n166 57 (Value.type PySem.W.SL.s9501651726347032510x9)), (de P n167 58 (Value.type PySem.W.SL.s15722918466584999320x5)), (de P n168 59 (Value.type PySem.W.SL.s591115383303110208x11)), (de P n169 60 (Value.type PySem.W.SL.s15721156781594690315x7)), (de P n170 61 (Value.type PySem.W.SL.s14018661285674007319x4)), (de P n171 62 (Value.type PySem.W.SL.s14340494229221121180x9)), (de P n172 63 (Value.type PySem.W.SL.s13429844117177748173x6)), (de P n173 64 (Value.type PySem.W.SL.s16463266125957815391x5)), (de P n174 65 (Value.type PySem.W.SL.s4922535414793169389x9)), (de P n175 66 (Value.type PySem.W.SL.s8101838861749082086x8)), (de P n176 67 (Value.type PySem.W.SL.s7066276694103001551x3)), (de P n177 68 (Value.type PySem.W.SL.s9222952809800978799x4)), (de P n178 69 (Value.type PySem.W.SL.s462964344163437139x3)), (de P n179 70 (Value.type PySem.W.SL.s2742458400755230247x6)), (de P n180 71 (Value.type PySem.W.SL.s1438033511350832697x5)), (de P n181 72 (Value.type PySem.W.SL.s14365286008749172514x8)), (de P n182 73 (Value.type PySem.W.SL.s3642769012341782148x3)), (de P n183 74 (Value.type PySem.W.SL.s4674234679698826739x5)), (de P n184 75 (Value.type PySem.W.SL.s16656946322747308186x12)), (de P n185 76 (Value.type PySem.W.SL.s10796804682411823810x3)), (de P n186 77 (Value.type PySem.W.SL.s4290257624100764138x5)), (de P n187 78 (Value.type PySem.W.SL.s2766695959194262286x5)), (de P n188 79 (Value.type PySem.W.SL.s17162191345867700912x4)), (de P n189 80 (Value.type PySem.W.SL.s14339709457334898076x3)), (de P n190 81 (Value.bool true)), (de P n191 82 (Value.type PySem.W.SL.s4278001404047624695x13)), (de P n192 83 (Value.type PySem.W.SL.s6585700554429387442x18)), (de P n193 84 (Value.type PySem.W.SL.s5946037652744460706x9)), (de P n194 85 (Value.type PySem.W.SL.s7410770068591931388x13)), (de P n195 86 (Value.type PySem.W.SL.s11817881795495490833x17)), (de P n196 87 (Value.type PySem.W.SL.s15679963881808890155x10)), (de P n197 88 (Value.type PySem.W.SL.s3871700062485845797x15)), (de P n198 89 (Value.type PySem.W.SL.s7689518266570723881x14)), (de P n199 90 (Value.type PySem.W.SL.s9001593270443806431x14)), (de P n200 91 (Value.type PySem.W.SL.s6882542574934516792x11)), (de P n201 92 (Value.type PySem.W.SL.s14403400214490484960x8)), (de P n202 93 (Value.type PySem.W.SL.s14457978657717015782x11)), (de P n203 94 (Value.type PySem.W.SL.s1753610191782819921x11)), (de P n204 95 (Value.type PySem.W.SL.s14119380538032626715x11)), (de P n205 96 (Value.type PySem.W.SL.s11437920000406562045x9)), (de P n206 97 (Value.type PySem.W.SL.s10852414792293593619x7)), (de P n207 98 (Value.type PySem.W.SL.s14816307405966870543x14)), (de P n208 99 (Value.type PySem.W.SL.s8682627914449686677x12)), (de P n209 100 (Value.type PySem.W.SL.s4428170145600203450x18)), (de P n210 101 (Value.type PySem.W.SL.s5991306692159431302x13)), (de P n211 102 (Value.type PySem.W.SL.s16067994140765818257x11)), (de P n212 103 (Value.type PySem.W.SL.s2327743974964600596x11)), (de P n213 104 (Value.type PySem.W.SL.s2804747833354056582x9)), (de P n214 105 (Value.type PySem.W.SL.s6070975301684473832x10)), (de P n215 106 (Value.type PySem.W.SL.s14270485950484850486x7)), (de P n216 107 (Value.type PySem.W.SL.s12041534306414923332x18)), (de P n217 108 (Value.type PySem.W.SL.s2531307568338490285x13)), (de P n218 109 (Value.type PySem.W.SL.s631175304937289666x17)), (de P n219 110 (Value.type PySem.W.SL.s5144983644357021410x12)), (de P n220 111 (Value.type PySem.W.SL.s18039099521571816885x18)), (de P n221 112 (Value.type PySem.W.SL.s6011586214260557989x15)), (de P n222 113 (Value.type PySem.W.SL.s5430567037509283100x13)), (de P n223 114 (Value.type PySem.W.SL.s8117915138073963741x13)), (de P n224 115 (Value.type PySem.W.SL.s3423317712779056401x25)), (de P n225 116 (Value.type PySem.W.SL.s2007317383269046180x15)), (de P n226 117 (Value.type PySem.W.SL.s17481586968713580700x14)), (de P n227 118 (Value.type PySem.W.SL.s2450899226349176912x13)), (de P n228 119 (Value.type PySem.W.SL.s16626165730633575011x14)), (de P n229 120 (Value.type PySem.W.SL.s14288496050688921416x11)), (de P n230 121 (Value.type PySem.W.SL.s5735081916595925998x15)), (de P n231 122 (Value.type PySem.W.SL.s3865607918536308442x17)), (de P n232 123 (Value.type PySem.W.SL.s13337502604062700212x15)), (de P n233 124 (Value.type PySem.W.SL.s13114017843053701147x15)), (de P n234 125 (Value.type PySem.W.SL.s17467278006356818441x17)), (de P n235 126 (Value.type PySem.W.SL.s17722149559621369488x16)), (de P n236 127 (Value.type PySem.W.SL.s7855274175708717672x17)), (de P n237 128 (Value.type PySem.W.SL.s13351283678309829046x18)), (de P n238 129 (Value.type PySem.W.SL.s6668348653404991179x15)), (de P n239 130 (Value.type PySem.W.SL.s12913350958174193794x18)), (de P n240 131 (Value.type PySem.W.SL.s16115879512475548326x12)), (de P n241 132 (Value.type PySem.W.SL.s15920661018069861047x16)), (de P n242 133 (Value.type PySem.W.SL.s10779130036587390575x21)), (de P n243 134 (Value.type PySem.W.SL.s7801419657504700863x10)), (de P n244 135 (Value.type PySem.W.SL.s1688129525768580628x8)), (de P n245 136 (Value.type PySem.W.SL.s1031832959479892071x19)), (de P n246 137 (Value.type PySem.W.SL.s8991790508128307865x19)), (de P n247 138 (Value.type PySem.W.SL.s14539662485746970245x23)), (de P n248 139 (Value.type PySem.W.SL.s11643622729373238714x14)), (de P n249 140 (Value.type PySem.W.SL.s3386828779285465597x17)), (de P n250 141 (Value.type PySem.W.SL.s13042696260734638735x12)), (de P n251 142 (Value.type PySem.W.SL.s18239426817015966623x15)), (de P n252 143 (Value.type PySem.W.SL.s1270395311379034370x22)), (de P n253 144 (Value.type PySem.W.SL.s10696252587037064777x22)), (de P n254 145 (Value.type PySem.W.SL.s7852717498200857586x20)), (de P n255 146 (Value.type PySem.W.SL.s6377248116197321094x8)), (de P n256 147 (Value.type PySem.W.SL.s3834378056692298002x18)), (de P n257 148 (Value.type PySem.W.SL.s17586630440231065808x18)), (de P n258 149 (Value.type PySem.W.SL.s15234114252648025395x21)), (de P n259 150 (Value.type PySem.W.SL.s8496462677383758984x14)), (de P n260 151 (Value.type PySem.W.SL.s10852414792293593619x7)), (de P n261 152 (Value.type PySem.W.SL.s10852414792293593619x7)), (de P n262 153 (Value.builtin PySem.W.SL.s16789243406116112673x4)), (de P n263 154 (Value.builtin PySem.W.SL.s14400166428656793546x20)), (de P n264 155 (Value.builtin PySem.W.SL.s5857708277339239366x20)), (de P n265 156 (Value.builtin PySem.W.SL.s11855354603118919900x25)), (de P n266 157 (Value.builtin PySem.W.SL.s9233592162442887856x23)), (de P n267 158 (Value.builtin PySem.W.SL.s5312253846380744199x23)), (de P n268 159 (Value.builtin PySem.W.SL.s7804999707787243718x20))]) 159), Array.mk []⟩
noncomputable def o276 (P : Params) : Obj := ⟨(Value.type PySem.W.SL.s14018661285674007319x4), Option.none, (.dict (Array.mk [(de P n114 162 (.ref 4)), (de P n2 163 (.ref 5))]) 2), Array.mk []⟩
noncomputable def o277 (P : Params) : Obj := ⟨Value.none, Option.none, (.dict (Array.mk []) 0), Array.mk []⟩
noncomputable def o278 (P : Params) : Obj := ⟨(Value.type PySem.W.SL.s6658869562736209489x6), (some 0), .plain, Array.mk []⟩
noncomputable def o279 (P : Params) : Obj := ⟨(Value.type PySem.W.SL.s6658869562736209489x6), (some 3), .plain, Array.mk []⟩
noncomputable def o280 (P : Params) : Obj := ⟨(Value.type PySem.W.SL.s5856160107412720595x4), Option.none, (.fields (Array.mk [(Value.str n0 176), (Value.str n0 177), (Value.str n1 178), (Value.int 1 0), (Value.int 0 0), (Value.int 0 0), (Value.int 0 0), (Value.int 0 0), (.ref 7), (Value.bool false), (Value.int 175 0), (.ref 8), Value.none, Value.none, Value.none, Value.none, (Value.int 179 0), (Value.int 1 0), (Value.str n1 180)])), Array.mk []⟩
noncomputable def o281 (P : Params) : Obj := ⟨(Value.type PySem.W.SL.s658472552662922059x5), Option.none, .plain, Array.mk [(some (.ref 9)), (some (.ref 3)), (some (.ref 3)), Option.none, (some (Value.str n2 164)), Option.none, (some (.ref 0))]⟩
noncomputable def heapA (P : Params) : Heap := ⟨⟨[boot_o_0 P, boot_o_1 P, boot_o_2 P, boot_o_3 P, boot_o_4 P, boot_o_5 P, boot_o_6 P, boot_o_7 P, boot_o_8 P, boot_o_9 P, boot_o_10 P, o0 P, o1 P, o2 P, o3 P]⟩, {}⟩
noncomputable def tr0 (P : Params) : BT := (.node (boot_o_0 P) (.node (boot_o_1 P) (.node (boot_o_3 P) (.node (boot_o_7 P) .nil .nil) (.node (o0 P) .nil .nil)) (.node (boot_o_5 P) (.node (boot_o_9 P) .nil .nil) (.node (o2 P) .nil .nil))) (.node (boot_o_2 P) (.node (boot_o_4 P) (.node (boot_o_8 P) .nil .nil) (.node (o1 P) .nil .nil)) (.node (boot_o_6 P) (.node (boot_o_10 P) .nil .nil) (.node (o3 P) .nil .nil))))
noncomputable def tr1 (P : Params) : BT := (.node (boot_o_0 P) (.node (boot_o_1 P) (.node (o4 P) (.node (boot_o_7 P) (.node (o0 P) (.node (o16 P) .nil .nil) (.node (o26 P) .nil .nil)) (.node (o11 P) (.node (o21 P) .nil .nil) .nil)) (.node (o0 P) (.node (o7 P) (.node (o0 P) .nil .nil) .nil) (.node (o13 P) (.node (o1 P) .nil .nil) .nil))) (.node (boot_o_5 P) (.node (boot_o_9 P) (.node (o6 P) (.node (o18 P) .nil .nil) .nil) (.node (o0 P) (.node (o23 P) .nil .nil) .nil)) (.node (o2 P) (.node (o9 P) (.node (o20 P) .nil .nil) .nil) (.node (o0 P) (.node (o0 P) .nil .nil) .nil)))) (.node (boot_o_2 P) (.node (boot_o_4 P) (.node (boot_o_8 P) (.node (o1 P) (.node (o17 P) .nil .nil) (.node (o27 P) .nil .nil)) (.node (o12 P) (.node (o22 P) .nil .nil) .nil)) (.node (o5 P) (.node (o8 P) (.node (o1 P) .nil .nil) .nil) (.node (o14 P) (.node (o24 P) .nil .nil) .nil))) (.node (boot_o_6 P) (.node (boot_o_10 P) (.node (o0 P) (.node (o19 P) .nil .nil) .nil) (.node (o1 P) (.node (o0 P) .nil .nil) .nil)) (.node (o3 P) (.node (o10 P) (.node (o0 P) .nil .nil) .nil) (.node (o15 P) (.node (o25 P) .nil .nil) .nil)))))
noncomputable def tr2 (P : Params) : BT := (.node (boot_o_0 P) (.node (boot_o_1 P) (.node (o28 P) (.node (boot_o_7 P) (.node (o0 P) (.node (o16 P) (.node (o0 P) .nil .nil) (.node (o55 P) .nil .nil)) (.node (o26 P) (.node (o46 P) .nil .nil) (.node (o65 P) .nil .nil))) (.node (o11 P) (.node (o21 P) (.node (o1 P) .nil .nil) (.node (o60 P) .nil .nil)) (.node (o33 P) (.node (o0 P) .nil .nil) (.node (o0 P) .nil .nil)))) (.node (o0 P) (.node (o7 P) (.node (o0 P) (.node (o39 P) .nil .nil) (.node (o1 P) .nil .nil)) (.node (o30 P) (.node (o49 P) .nil .nil) (.node (o0 P) .nil .nil))) (.node (o13 P) (.node (o1 P) (.node (o44 P) .nil .nil) (.node (o62 P) .nil .nil)) (.node (o0 P) (.node (o0 P) .nil .nil) (.node (o73 P) .nil .nil))))) (.node (boot_o_5 P) (.node (boot_o_9 P) (.node (o6 P) (.node (o18 P) (.node (o38 P) .nil .nil) (.node (o57 P) .nil .nil)) (.node (o0 P) (.node (o47 P) .nil .nil) (.node (o1 P) .nil .nil))) (.node (o0 P) (.node (o23 P) (.node (o0 P) .nil .nil) (.node (o0 P) .nil .nil)) (.node (o1 P) (.node (o52 P) .nil .nil) (.node (o71 P) .nil .nil)))) (.node (o2 P) (.node (o9 P) (.node (o20 P) (.node (o41 P) .nil .nil) (.node (o0 P) .nil .nil)) (.node (o31 P) (.node (o1 P) .nil .nil) (.node (o68 P) .nil .nil))) (.node (o0 P) (.node (o0 P) (.node (o0 P) .nil .nil) (.node (o63 P) .nil .nil)) (.node (o36 P) (.node (o54 P) .nil .nil) (.node (o75 P) .nil .nil)))))) (.node (boot_o_2 P) (.node (boot_o_4 P) (.node (boot_o_8 P) (.node (o1 P) (.node (o17 P) (.node (o1 P) .nil .nil) (.node (o56 P) .nil .nil)) (.node (o27 P) (.node (o0 P) .nil .nil) (.node (o0 P) .nil .nil))) (.node (o12 P) (.node (o22 P) (.node (o42 P) .nil .nil) (.node (o61 P) .nil .nil)) (.node (o0 P) (.node (o51 P) .nil .nil) (.node (o70 P) .nil .nil)))) (.node (o29 P) (.node (o8 P) (.node (o1 P) (.node (o40 P) .nil .nil) (.node (o58 P) .nil .nil)) (.node (o0 P) (.node (o0 P) .nil .nil) (.node (o67 P) .nil .nil))) (.node (o14 P) (.node (o24 P) (.node (o45 P) .nil .nil) (.node (o0 P) .nil .nil)) (.node (o35 P) (.node (o1 P) .nil .nil) (.node (o74 P) .nil .nil))))) (.node (boot_o_6 P) (.node (boot_o_10 P) (.node (o0 P) (.node (o19 P) (.node (o0 P) .nil .nil) (.node (o0 P) .nil .nil)) (.node (o11 P) (.node (o48 P) .nil .nil) (.node (o66 P) .nil .nil))) (.node (o1 P) (.node (o0 P) (.node (o43 P) .nil .nil) (.node (o1 P) .nil .nil)) (.node (o34 P) (.node (o53 P) .nil .nil) (.node (o72 P) .nil .nil)))) (.node (o3 P) (.node (o10 P) (.node (o0 P) (.node (o0 P) .nil .nil) (.node (o59 P) .nil .nil)) (.node (o32 P) (.node (o50 P) .nil .nil) (.node (o69 P) .nil .nil))) (.node (o15 P) (.node (o25 P) (.node (o1 P) .nil .nil) (.node (o64 P) .nil .nil)) (.node (o37 P) (.node (o0 P) .nil .nil) .nil))))))
noncomputable def tr3 (P : Params) : BT := (.node (boot_o_0 P) (.node (boot_o_1 P) (.node (o76 P) (.node (boot_o_7 P) (.node (o0 P) (.node (o16 P) (.node (o0 P) (.node (o11 P) .nil .nil) (.node (o114 P) .nil .nil)) (.node (o55 P) (.node (o96 P) .nil .nil) .nil)) (.node (o26 P) (.node (o46 P) (.node (o0 P) .nil .nil) .nil) (.node (o65 P) (.node (o0 P) .nil .nil) .nil))) (.node (o11 P) (.node (o21 P) (.node (o1 P) (.node (o82 P) .nil .nil) (.node (o120 P) .nil .nil)) (.node (o60 P) (.node (o101 P) .nil .nil) .nil)) (.node (o33 P) (.node (o0 P) (.node (o91 P) .nil .nil) .nil) (.node (o0 P) (.node (o1 P) .nil .nil) .nil)))) (.node (o0 P) (.node (o7 P) (.node (o0 P) (.node (o39 P) (.node (o80 P) .nil .nil) (.node (o117 P) .nil .nil)) (.node (o1 P) (.node (o98 P) .nil .nil) .nil)) (.node (o30 P) (.node (o49 P) (.node (o0 P) .nil .nil) .nil) (.node (o0 P) (.node (o107 P) .nil .nil) .nil))) (.node (o13 P) (.node (o1 P) (.node (o44 P) (.node (o85 P) .nil .nil) .nil) (.node (o62 P) (.node (o0 P) .nil .nil) .nil)) (.node (o0 P) (.node (o0 P) (.node (o1 P) .nil .nil) .nil) (.node (o73 P) (.node (o112 P) .nil .nil) .nil))))) (.node (boot_o_5 P) (.node (boot_o_9 P) (.node (o6 P) (.node (o18 P) (.node (o38 P) (.node (o0 P) .nil .nil) (.node (o115 P) .nil .nil)) (.node (o57 P) (.node (o0 P) .nil .nil) .nil)) (.node (o0 P) (.node (o47 P) (.node (o88 P) .nil .nil) .nil) (.node (o1 P) (.node (o106 P) .nil .nil) .nil))) (.node (o0 P) (.node (o23 P) (.node (o0 P) (.node (o83 P) .nil .nil) (.node (o122 P) .nil .nil)) (.node (o0 P) (.node (o1 P) .nil .nil) .nil)) (.node (o1 P) (.node (o52 P) (.node (o93 P) .nil .nil) .nil) (.node (o71 P) (.node (o0 P) .nil .nil) .nil)))) (.node (o2 P) (.node (o9 P) (.node (o20 P) (.node (o41 P) (.node (o0 P) .nil .nil) (.node (o118 P) .nil .nil)) (.node (o0 P) (.node (o99 P) .nil .nil) .nil)) (.node (o31 P) (.node (o1 P) (.node (o90 P) .nil .nil) .nil) (.node (o68 P) (.node (o109 P) .nil .nil) .nil))) (.node (o0 P) (.node (o0 P) (.node (o0 P) (.node (o1 P) .nil .nil) .nil) (.node (o63 P) (.node (o104 P) .nil .nil) .nil)) (.node (o36 P) (.node (o54 P) (.node (o0 P) .nil .nil) .nil) (.node (o75 P) (.node (o0 P) .nil .nil) .nil)))))) (.node (boot_o_2 P) (.node (boot_o_4 P) (.node (boot_o_8 P) (.node (o1 P) (.node (o17 P) (.node (o1 P) (.node (o78 P) .nil .nil) (.node (o0 P) .nil .nil)) (.node (o56 P) (.node (o97 P) .nil .nil) .nil)) (.node (o27 P) (.node (o0 P) (.node (o87 P) .nil .nil) .nil) (.node (o0 P) (.node (o1 P) .nil .nil) .nil))) (.node (o12 P) (.node (o22 P) (.node (o42 P) (.node (o0 P) .nil .nil) (.node (o121 P) .nil .nil)) (.node (o61 P) (.node (o0 P) .nil .nil) .nil)) (.node (o0 P) (.node (o51 P) (.node (o92 P) .nil .nil) .nil) (.node (o70 P) (.node (o110 P) .nil .nil) .nil)))) (.node (o77 P) (.node (o8 P) (.node (o1 P) (.node (o40 P) (.node (o81 P) .nil .nil) (.node (o0 P) .nil .nil)) (.node (o58 P) (.node (o0 P) .nil .nil) .nil)) (.node (o0 P) (.node (o0 P) (.node (o1 P) .nil .nil) .nil) (.node (o67 P) (.node (o108 P) .nil .nil) .nil))) (.node (o14 P) (.node (o24 P) (.node (o45 P) (.node (o0 P) .nil .nil) .nil) (.node (o0 P) (.node (o103 P) .nil .nil) .nil)) (.node (o35 P) (.node (o1 P) (.node (o94 P) .nil .nil) .nil) (.node (o74 P) (.node (o113 P) .nil .nil) .nil))))) (.node (boot_o_6 P) (.node (boot_o_10 P) (.node (o0 P) (.node (o19 P) (.node (o0 P) (.node (o79 P) .nil .nil) (.node (o116 P) .nil .nil)) (.node (o0 P) (.node (o1 P) .nil .nil) .nil)) (.node (o11 P) (.node (o48 P) (.node (o89 P) .nil .nil) .nil) (.node (o66 P) (.node (o0 P) .nil .nil) .nil))) (.node (o1 P) (.node (o0 P) (.node (o43 P) (.node (o84 P) .nil .nil) (.node (o123 P) .nil .nil)) (.node (o1 P) (.node (o102 P) .nil .nil) .nil)) (.node (o34 P) (.node (o53 P) (.node (o0 P) .nil .nil) .nil) (.node (o72 P) (.node (o111 P) .nil .nil) .nil)))) (.node (o3 P) (.node (o10 P) (.node (o0 P) (.node (o0 P) (.node (o1 P) .nil .nil) (.node (o119 P) .nil .nil)) (.node (o59 P) (.node (o100 P) .nil .nil) .nil)) (.node (o32 P) (.node (o50 P) (.node (o0 P) .nil .nil) .nil) (.node (o69 P) (.node (o0 P) .nil .nil) .nil))) (.node (o15 P) (.node (o25 P) (.node (o1 P) (.node (o86 P) .nil .nil) .nil) (.node (o64 P) (.node (o105 P) .nil .nil) .nil)) (.node (o37 P) (.node (o0 P) (.node (o95 P) .nil .nil) .nil) (.node (o0 P) (.node (o1 P) .nil .nil) .nil)))))))
noncomputable def tr4 (P : Params) : BT := (.node (boot_o_0 P) (.node (boot_o_1 P) (.node (o124 P) (.node (boot_o_7 P) (.node (o0 P) (.node (o16 P) (.node (o0 P) (.node (o11 P) (.node (o0 P) .nil .nil) .nil) (.node (o114 P) .nil .nil)) (.node (o55 P) (.node (o96 P) .nil .nil) (.node (o137 P) .nil .nil))) (.node (o26 P) (.node (o46 P) (.node (o0 P) (.node (o164 P) .nil .nil) .nil) (.node (o127 P) .nil .nil)) (.node (o65 P) (.node (o0 P) .nil .nil) (.node (o1 P) .nil .nil)))) (.node (o11 P) (.node (o21 P) (.node (o1 P) (.node (o82 P) (.node (o159 P) .nil .nil) .nil) (.node (o120 P) .nil .nil)) (.node (o60 P) (.node (o101 P) .nil .nil) (.node (o0 P) .nil .nil))) (.node (o33 P) (.node (o0 P) (.node (o91 P) (.node (o171 P) .nil .nil) .nil) (.node (o132 P) .nil .nil)) (.node (o0 P) (.node (o1 P) .nil .nil) (.node (o150 P) .nil .nil))))) (.node (o0 P) (.node (o7 P) (.node (o0 P) (.node (o39 P) (.node (o80 P) (.node (o0 P) .nil .nil) .nil) (.node (o117 P) .nil .nil)) (.node (o1 P) (.node (o98 P) .nil .nil) (.node (o0 P) .nil .nil))) (.node (o30 P) (.node (o49 P) (.node (o0 P) (.node (o167 P) .nil .nil) .nil) (.node (o1 P) .nil .nil)) (.node (o0 P) (.node (o107 P) .nil .nil) (.node (o148 P) .nil .nil)))) (.node (o13 P) (.node (o1 P) (.node (o44 P) (.node (o85 P) (.node (o1 P) .nil .nil) .nil) (.node (o0 P) .nil .nil)) (.node (o62 P) (.node (o0 P) .nil .nil) (.node (o143 P) .nil .nil))) (.node (o0 P) (.node (o0 P) (.node (o1 P) (.node (o0 P) .nil .nil) .nil) (.node (o134 P) .nil .nil)) (.node (o73 P) (.node (o112 P) .nil .nil) (.node (o153 P) .nil .nil)))))) (.node (boot_o_5 P) (.node (boot_o_9 P) (.node (o6 P) (.node (o18 P) (.node (o38 P) (.node (o0 P) (.node (o156 P) .nil .nil) .nil) (.node (o115 P) .nil .nil)) (.node (o57 P) (.node (o0 P) .nil .nil) (.node (o1 P) .nil .nil))) (.node (o0 P) (.node (o47 P) (.node (o88 P) (.node (o0 P) .nil .nil) .nil) (.node (o129 P) .nil .nil)) (.node (o1 P) (.node (o106 P) .nil .nil) (.node (o0 P) .nil .nil)))) (.node (o0 P) (.node (o23 P) (.node (o0 P) (.node (o83 P) (.node (o161 P) .nil .nil) .nil) (.node (o122 P) .nil .nil)) (.node (o0 P) (.node (o1 P) .nil .nil) (.node (o142 P) .nil .nil))) (.node (o1 P) (.node (o52 P) (.node (o93 P) (.node (o1 P) .nil .nil) .nil) (.node (o0 P) .nil .nil)) (.node (o71 P) (.node (o0 P) .nil .nil) (.node (o151 P) .nil .nil))))) (.node (o2 P) (.node (o9 P) (.node (o20 P) (.node (o41 P) (.node (o0 P) (.node (o158 P) .nil .nil) .nil) (.node (o118 P) .nil .nil)) (.node (o0 P) (.node (o99 P) .nil .nil) (.node (o140 P) .nil .nil))) (.node (o31 P) (.node (o1 P) (.node (o90 P) (.node (o169 P) .nil .nil) .nil) (.node (o0 P) .nil .nil)) (.node (o68 P) (.node (o109 P) .nil .nil) (.node (o0 P) .nil .nil)))) (.node (o0 P) (.node (o0 P) (.node (o0 P) (.node (o1 P) (.node (o0 P) .nil .nil) .nil) (.node (o126 P) .nil .nil)) (.node (o63 P) (.node (o104 P) .nil .nil) (.node (o145 P) .nil .nil))) (.node (o36 P) (.node (o54 P) (.node (o0 P) (.node (o174 P) .nil .nil) .nil) (.node (o135 P) .nil .nil)) (.node (o75 P) (.node (o0 P) .nil .nil) (.node (o1 P) .nil .nil))))))) (.node (boot_o_2 P) (.node (boot_o_4 P) (.node (boot_o_8 P) (.node (o1 P) (.node (o17 P) (.node (o1 P) (.node (o78 P) (.node (o155 P) .nil .nil) .nil) (.node (o0 P) .nil .nil)) (.node (o56 P) (.node (o97 P) .nil .nil) (.node (o0 P) .nil .nil))) (.node (o27 P) (.node (o0 P) (.node (o87 P) (.node (o165 P) .nil .nil) .nil) (.node (o128 P) .nil .nil)) (.node (o0 P) (.node (o1 P) .nil .nil) (.node (o146 P) .nil .nil)))) (.node (o12 P) (.node (o22 P) (.node (o42 P) (.node (o0 P) (.node (o160 P) .nil .nil) .nil) (.node (o121 P) .nil .nil)) (.node (o61 P) (.node (o0 P) .nil .nil) (.node (o1 P) .nil .nil))) (.node (o0 P) (.node (o51 P) (.node (o92 P) (.node (o0 P) .nil .nil) .nil) (.node (o133 P) .nil .nil)) (.node (o70 P) (.node (o110 P) .nil .nil) (.node (o0 P) .nil .nil))))) (.node (o125 P) (.node (o8 P) (.node (o1 P) (.node (o40 P) (.node (o81 P) (.node (o1 P) .nil .nil) .nil) (.node (o0 P) .nil .nil)) (.node (o58 P) (.node (o0 P) .nil .nil) (.node (o139 P) .nil .nil))) (.node (o0 P) (.node (o0 P) (.node (o1 P) (.node (o168 P) .nil .nil) .nil) (.node (o130 P) .nil .nil)) (.node (o67 P) (.node (o108 P) .nil .nil) (.node (o149 P) .nil .nil)))) (.node (o14 P) (.node (o24 P) (.node (o45 P) (.node (o0 P) (.node (o162 P) .nil .nil) .nil) (.node (o11 P) .nil .nil)) (.node (o0 P) (.node (o103 P) .nil .nil) (.node (o144 P) .nil .nil))) (.node (o35 P) (.node (o1 P) (.node (o94 P) (.node (o173 P) .nil .nil) .nil) (.node (o0 P) .nil .nil)) (.node (o74 P) (.node (o113 P) .nil .nil) (.node (o0 P) .nil .nil)))))) (.node (boot_o_6 P) (.node (boot_o_10 P) (.node (o0 P) (.node (o19 P) (.node (o0 P) (.node (o79 P) (.node (o157 P) .nil .nil) .nil) (.node (o116 P) .nil .nil)) (.node (o0 P) (.node (o1 P) .nil .nil) (.node (o138 P) .nil .nil))) (.node (o11 P) (.node (o48 P) (.node (o89 P) (.node (o166 P) .nil .nil) .nil) (.node (o0 P) .nil .nil)) (.node (o66 P) (.node (o0 P) .nil .nil) (.node (o147 P) .nil .nil)))) (.node (o1 P) (.node (o0 P) (.node (o43 P) (.node (o84 P) (.node (o0 P) .nil .nil) .nil) (.node (o123 P) .nil .nil)) (.node (o1 P) (.node (o102 P) .nil .nil) (.node (o0 P) .nil .nil))) (.node (o34 P) (.node (o53 P) (.node (o0 P) (.node (o172 P) .nil .nil) .nil) (.node (o1 P) .nil .nil)) (.node (o72 P) (.node (o111 P) .nil .nil) (.node (o152 P) .nil .nil))))) (.node (o3 P) (.node (o10 P) (.node (o0 P) (.node (o0 P) (.node (o1 P) (.node (o0 P) .nil .nil) .nil) (.node (o119 P) .nil .nil)) (.node (o59 P) (.node (o100 P) .nil .nil) (.node (o141 P) .nil .nil))) (.node (o32 P) (.node (o50 P) (.node (o0 P) (.node (o170 P) .nil .nil) .nil) (.node (o131 P) .nil .nil)) (.node (o69 P) (.node (o0 P) .nil .nil) (.node (o1 P) .nil .nil)))) (.node (o15 P) (.node (o25 P) (.node (o1 P) (.node (o86 P) (.node (o163 P) .nil .nil) .nil) (.node (o0 P) .nil .nil)) (.node (o64 P) (.node (o105 P) .nil .nil) (.node (o0 P) .nil .nil))) (.node (o37 P) (.node (o0 P) (.node (o95 P) (.node (o175 P) .nil .nil) .nil) (.node (o136 P) .nil .nil)) (.node (o0 P) (.node (o1 P) .nil .nil) (.node (o154 P) .nil .nil))))))))
noncomputable def tr5 (P : Params) : BT := (.node (boot_o_0 P) (.node (boot_o_1 P) (.node (o176 P) (.node (boot_o_7 P) (.node (o0 P) (.node (o16 P) (.node (o0 P) (.node (o11 P) (.node (o0 P) .nil .nil) .nil) (.node (o114 P) (.node (o196 P) .nil .nil) .nil)) (.node (o55 P) (.node (o96 P) (.node (o0 P) .nil .nil) .nil) (.node (o137 P) (.node (o215 P) .nil .nil) .nil))) (.node (o26 P) (.node (o46 P) (.node (o0 P) (.node (o164 P) .nil .nil) .nil) (.node (o127 P) (.node (o205 P) .nil .nil) .nil)) (.node (o65 P) (.node (o0 P) (.node (o0 P) .nil .nil) .nil) (.node (o1 P) .nil .nil)))) (.node (o11 P) (.node (o21 P) (.node (o1 P) (.node (o82 P) (.node (o159 P) .nil .nil) .nil) (.node (o120 P) (.node (o0 P) .nil .nil) .nil)) (.node (o60 P) (.node (o101 P) (.node (o183 P) .nil .nil) .nil) (.node (o0 P) (.node (o0 P) .nil .nil) .nil))) (.node (o33 P) (.node (o0 P) (.node (o91 P) (.node (o171 P) .nil .nil) .nil) (.node (o132 P) (.node (o210 P) .nil .nil) .nil)) (.node (o0 P) (.node (o1 P) (.node (o1 P) .nil .nil) .nil) (.node (o150 P) .nil .nil))))) (.node (o0 P) (.node (o7 P) (.node (o0 P) (.node (o39 P) (.node (o80 P) (.node (o0 P) .nil .nil) .nil) (.node (o117 P) (.node (o199 P) .nil .nil) .nil)) (.node (o1 P) (.node (o98 P) (.node (o179 P) .nil .nil) .nil) (.node (o0 P) (.node (o0 P) .nil .nil) .nil))) (.node (o30 P) (.node (o49 P) (.node (o0 P) (.node (o167 P) .nil .nil) .nil) (.node (o1 P) (.node (o1 P) .nil .nil) .nil)) (.node (o0 P) (.node (o107 P) (.node (o189 P) .nil .nil) .nil) (.node (o148 P) .nil .nil)))) (.node (o13 P) (.node (o1 P) (.node (o44 P) (.node (o85 P) (.node (o1 P) .nil .nil) .nil) (.node (o0 P) (.node (o0 P) .nil .nil) .nil)) (.node (o62 P) (.node (o0 P) (.node (o0 P) .nil .nil) .nil) (.node (o143 P) (.node (o223 P) .nil .nil) .nil))) (.node (o0 P) (.node (o0 P) (.node (o1 P) (.node (o0 P) .nil .nil) .nil) (.node (o134 P) (.node (o212 P) .nil .nil) .nil)) (.node (o73 P) (.node (o112 P) (.node (o194 P) .nil .nil) .nil) (.node (o153 P) .nil .nil)))))) (.node (boot_o_5 P) (.node (boot_o_9 P) (.node (o6 P) (.node (o18 P) (.node (o38 P) (.node (o0 P) (.node (o156 P) .nil .nil) .nil) (.node (o115 P) (.node (o197 P) .nil .nil) .nil)) (.node (o57 P) (.node (o0 P) (.node (o178 P) .nil .nil) .nil) (.node (o1 P) (.node (o1 P) .nil .nil) .nil))) (.node (o0 P) (.node (o47 P) (.node (o88 P) (.node (o0 P) .nil .nil) .nil) (.node (o129 P) (.node (o207 P) .nil .nil) .nil)) (.node (o1 P) (.node (o106 P) (.node (o188 P) .nil .nil) .nil) (.node (o0 P) .nil .nil)))) (.node (o0 P) (.node (o23 P) (.node (o0 P) (.node (o83 P) (.node (o161 P) .nil .nil) .nil) (.node (o122 P) (.node (o202 P) .nil .nil) .nil)) (.node (o0 P) (.node (o1 P) (.node (o1 P) .nil .nil) .nil) (.node (o142 P) (.node (o221 P) .nil .nil) .nil))) (.node (o1 P) (.node (o52 P) (.node (o93 P) (.node (o1 P) .nil .nil) .nil) (.node (o0 P) (.node (o0 P) .nil .nil) .nil)) (.node (o71 P) (.node (o0 P) (.node (o0 P) .nil .nil) .nil) (.node (o151 P) .nil .nil))))) (.node (o2 P) (.node (o9 P) (.node (o20 P) (.node (o41 P) (.node (o0 P) (.node (o158 P) .nil .nil) .nil) (.node (o118 P) (.node (o1 P) .nil .nil) .nil)) (.node (o0 P) (.node (o99 P) (.node (o181 P) .nil .nil) .nil) (.node (o140 P) (.node (o218 P) .nil .nil) .nil))) (.node (o31 P) (.node (o1 P) (.node (o90 P) (.node (o169 P) .nil .nil) .nil) (.node (o0 P) (.node (o0 P) .nil .nil) .nil)) (.node (o68 P) (.node (o109 P) (.node (o191 P) .nil .nil) .nil) (.node (o0 P) .nil .nil)))) (.node (o0 P) (.node (o0 P) (.node (o0 P) (.node (o1 P) (.node (o0 P) .nil .nil) .nil) (.node (o126 P) (.node (o204 P) .nil .nil) .nil)) (.node (o63 P) (.node (o104 P) (.node (o186 P) .nil .nil) .nil) (.node (o145 P) (.node (o225 P) .nil .nil) .nil))) (.node (o36 P) (.node (o54 P) (.node (o0 P) (.node (o174 P) .nil .nil) .nil) (.node (o135 P) (.node (o213 P) .nil .nil) .nil)) (.node (o75 P) (.node (o0 P) (.node (o0 P) .nil .nil) .nil) (.node (o1 P) .nil .nil))))))) (.node (boot_o_2 P) (.node (boot_o_4 P) (.node (boot_o_8 P) (.node (o1 P) (.node (o17 P) (.node (o1 P) (.node (o78 P) (.node (o155 P) .nil .nil) .nil) (.node (o0 P) (.node (o0 P) .nil .nil) .nil)) (.node (o56 P) (.node (o97 P) (.node (o11 P) .nil .nil) .nil) (.node (o0 P) (.node (o0 P) .nil .nil) .nil))) (.node (o27 P) (.node (o0 P) (.node (o87 P) (.node (o165 P) .nil .nil) .nil) (.node (o128 P) (.node (o206 P) .nil .nil) .nil)) (.node (o0 P) (.node (o1 P) (.node (o1 P) .nil .nil) .nil) (.node (o146 P) .nil .nil)))) (.node (o12 P) (.node (o22 P) (.node (o42 P) (.node (o0 P) (.node (o160 P) .nil .nil) .nil) (.node (o121 P) (.node (o201 P) .nil .nil) .nil)) (.node (o61 P) (.node (o0 P) (.node (o0 P) .nil .nil) .nil) (.node (o1 P) (.node (o220 P) .nil .nil) .nil))) (.node (o0 P) (.node (o51 P) (.node (o92 P) (.node (o0 P) .nil .nil) .nil) (.node (o133 P) (.node (o211 P) .nil .nil) .nil)) (.node (o70 P) (.node (o110 P) (.node (o192 P) .nil .nil) .nil) (.node (o0 P) .nil .nil))))) (.node (o177 P) (.node (o8 P) (.node (o1 P) (.node (o40 P) (.node (o81 P) (.node (o1 P) .nil .nil) .nil) (.node (o0 P) (.node (o0 P) .nil .nil) .nil)) (.node (o58 P) (.node (o0 P) (.node (o180 P) .nil .nil) .nil) (.node (o139 P) (.node (o217 P) .nil .nil) .nil))) (.node (o0 P) (.node (o0 P) (.node (o1 P) (.node (o168 P) .nil .nil) .nil) (.node (o130 P) (.node (o208 P) .nil .nil) .nil)) (.node (o67 P) (.node (o108 P) (.node (o190 P) .nil .nil) .nil) (.node (o149 P) .nil .nil)))) (.node (o14 P) (.node (o24 P) (.node (o45 P) (.node (o0 P) (.node (o162 P) .nil .nil) .nil) (.node (o11 P) (.node (o1 P) .nil .nil) .nil)) (.node (o0 P) (.node (o103 P) (.node (o185 P) .nil .nil) .nil) (.node (o144 P) (.node (o224 P) .nil .nil) .nil))) (.node (o35 P) (.node (o1 P) (.node (o94 P) (.node (o173 P) .nil .nil) .nil) (.node (o0 P) (.node (o0 P) .nil .nil) .nil)) (.node (o74 P) (.node (o113 P) (.node (o195 P) .nil .nil) .nil) (.node (o0 P) .nil .nil)))))) (.node (boot_o_6 P) (.node (boot_o_10 P) (.node (o0 P) (.node (o19 P) (.node (o0 P) (.node (o79 P) (.node (o157 P) .nil .nil) .nil) (.node (o116 P) (.node (o198 P) .nil .nil) .nil)) (.node (o0 P) (.node (o1 P) (.node (o0 P) .nil .nil) .nil) (.node (o138 P) (.node (o216 P) .nil .nil) .nil))) (.node (o11 P) (.node (o48 P) (.node (o89 P) (.node (o166 P) .nil .nil) .nil) (.node (o0 P) (.node (o0 P) .nil .nil) .nil)) (.node (o66 P) (.node (o0 P) (.node (o0 P) .nil .nil) .nil) (.node (o147 P) .nil .nil)))) (.node (o1 P) (.node (o0 P) (.node (o43 P) (.node (o84 P) (.node (o0 P) .nil .nil) .nil) (.node (o123 P) (.node (o203 P) .nil .nil) .nil)) (.node (o1 P) (.node (o102 P) (.node (o184 P) .nil .nil) .nil) (.node (o0 P) (.node (o222 P) .nil .nil) .nil))) (.node (o34 P) (.node (o53 P) (.node (o0 P) (.node (o172 P) .nil .nil) .nil) (.node (o1 P) (.node (o1 P) .nil .nil) .nil)) (.node (o72 P) (.node (o111 P) (.node (o193 P) .nil .nil) .nil) (.node (o152 P) .nil .nil))))) (.node (o3 P) (.node (o10 P) (.node (o0 P) (.node (o0 P) (.node (o1 P) (.node (o0 P) .nil .nil) .nil) (.node (o119 P) (.node (o200 P) .nil .nil) .nil)) (.node (o59 P) (.node (o100 P) (.node (o182 P) .nil .nil) .nil) (.node (o141 P) (.node (o219 P) .nil .nil) .nil))) (.node (o32 P) (.node (o50 P) (.node (o0 P) (.node (o170 P) .nil .nil) .nil) (.node (o131 P) (.node (o209 P) .nil .nil) .nil)) (.node (o69 P) (.node (o0 P) (.node (o0 P) .nil .nil) .nil) (.node (o1 P) .nil .nil)))) (.node (o15 P) (.node (o25 P) (.node (o1 P) (.node (o86 P) (.node (o163 P) .nil .nil) .nil) (.node (o0 P) (.node (o0 P) .nil .nil) .nil)) (.node (o64 P) (.node (o105 P) (.node (o187 P) .nil .nil) .nil) (.node (o0 P) .nil .nil))) (.node (o37 P) (.node (o0 P) (.node (o95 P) (.node (o175 P) .nil .nil) .nil) (.node (o136 P) (.node (o214 P) .nil .nil) .nil)) (.node (o0 P) (.node (o1 P) (.node (o1 P) .nil .nil) .nil) (.node (o154 P) .nil .nil))))))))
noncomputable def tr6 (P : Params) : BT := (.node (boot_o_0 P) (.node (boot_o_1 P) (.node (o226 P) (.node (boot_o_7 P) (.node (o0 P) (.node (o16 P) (.node (o0 P) (.node (o11 P) (.node (o0 P) .nil .nil) (.node (o0 P) .nil .nil)) (.node (o114 P) (.node (o196 P) .nil .nil) .nil)) (.node (o55 P) (.node (o96 P) (.node (o0 P) .nil .nil) .nil) (.node (o137 P) (.node (o215 P) .nil .nil) .nil))) (.node (o26 P) (.node (o46 P) (.node (o0 P) (.node (o164 P) .nil .nil) (.node (o248 P) .nil .nil)) (.node (o127 P) (.node (o205 P) .nil .nil) .nil)) (.node (o65 P) (.node (o0 P) (.node (o0 P) .nil .nil) .nil) (.node (o1 P) (.node (o11 P) .nil .nil) .nil)))) (.node (o11 P) (.node (o21 P) (.node (o1 P) (.node (o82 P) (.node (o159 P) .nil .nil) (.node (o243 P) .nil .nil)) (.node (o120 P) (.node (o0 P) .nil .nil) .nil)) (.node (o60 P) (.node (o101 P) (.node (o183 P) .nil .nil) .nil) (.node (o0 P) (.node (o0 P) .nil .nil) .nil))) (.node (o33 P) (.node (o0 P) (.node (o91 P) (.node (o171 P) .nil .nil) (.node (o1 P) .nil .nil)) (.node (o132 P) (.node (o210 P) .nil .nil) .nil)) (.node (o0 P) (.node (o1 P) (.node (o1 P) .nil .nil) .nil) (.node (o150 P) (.node (o234 P) .nil .nil) .nil))))) (.node (o0 P) (.node (o7 P) (.node (o0 P) (.node (o39 P) (.node (o80 P) (.node (o0 P) .nil .nil) (.node (o0 P) .nil .nil)) (.node (o117 P) (.node (o199 P) .nil .nil) .nil)) (.node (o1 P) (.node (o98 P) (.node (o179 P) .nil .nil) .nil) (.node (o0 P) (.node (o0 P) .nil .nil) .nil))) (.node (o30 P) (.node (o49 P) (.node (o0 P) (.node (o167 P) .nil .nil) (.node (o251 P) .nil .nil)) (.node (o1 P) (.node (o1 P) .nil .nil) .nil)) (.node (o0 P) (.node (o107 P) (.node (o189 P) .nil .nil) .nil) (.node (o148 P) (.node (o232 P) .nil .nil) .nil)))) (.node (o13 P) (.node (o1 P) (.node (o44 P) (.node (o85 P) (.node (o1 P) .nil .nil) (.node (o1 P) .nil .nil)) (.node (o0 P) (.node (o0 P) .nil .nil) .nil)) (.node (o62 P) (.node (o0 P) (.node (o0 P) .nil .nil) .nil) (.node (o143 P) (.node (o223 P) .nil .nil) .nil))) (.node (o0 P) (.node (o0 P) (.node (o1 P) (.node (o0 P) .nil .nil) (.node (o256 P) .nil .nil)) (.node (o134 P) (.node (o212 P) .nil .nil) .nil)) (.node (o73 P) (.node (o112 P) (.node (o194 P) .nil .nil) .nil) (.node (o153 P) (.node (o237 P) .nil .nil) .nil)))))) (.node (boot_o_5 P) (.node (boot_o_9 P) (.node (o6 P) (.node (o18 P) (.node (o38 P) (.node (o0 P) (.node (o156 P) .nil .nil) (.node (o240 P) .nil .nil)) (.node (o115 P) (.node (o197 P) .nil .nil) .nil)) (.node (o57 P) (.node (o0 P) (.node (o178 P) .nil .nil) .nil) (.node (o1 P) (.node (o1 P) .nil .nil) .nil))) (.node (o0 P) (.node (o47 P) (.node (o88 P) (.node (o0 P) .nil .nil) (.node (o0 P) .nil .nil)) (.node (o129 P) (.node (o207 P) .nil .nil) .nil)) (.node (o1 P) (.node (o106 P) (.node (o188 P) .nil .nil) .nil) (.node (o0 P) (.node (o0 P) .nil .nil) .nil)))) (.node (o0 P) (.node (o23 P) (.node (o0 P) (.node (o83 P) (.node (o161 P) .nil .nil) (.node (o245 P) .nil .nil)) (.node (o122 P) (.node (o202 P) .nil .nil) .nil)) (.node (o0 P) (.node (o1 P) (.node (o1 P) .nil .nil) .nil) (.node (o142 P) (.node (o228 P) .nil .nil) .nil))) (.node (o1 P) (.node (o52 P) (.node (o93 P) (.node (o1 P) .nil .nil) (.node (o0 P) .nil .nil)) (.node (o0 P) (.node (o0 P) .nil .nil) .nil)) (.node (o71 P) (.node (o0 P) (.node (o0 P) .nil .nil) .nil) (.node (o151 P) (.node (o235 P) .nil .nil) .nil))))) (.node (o2 P) (.node (o9 P) (.node (o20 P) (.node (o41 P) (.node (o0 P) (.node (o158 P) .nil .nil) (.node (o242 P) .nil .nil)) (.node (o118 P) (.node (o1 P) .nil .nil) .nil)) (.node (o0 P) (.node (o99 P) (.node (o181 P) .nil .nil) .nil) (.node (o140 P) (.node (o218 P) .nil .nil) .nil))) (.node (o31 P) (.node (o1 P) (.node (o90 P) (.node (o169 P) .nil .nil) (.node (o253 P) .nil .nil)) (.node (o0 P) (.node (o0 P) .nil .nil) .nil)) (.node (o68 P) (.node (o109 P) (.node (o191 P) .nil .nil) .nil) (.node (o0 P) (.node (o0 P) .nil .nil) .nil)))) (.node (o0 P) (.node (o0 P) (.node (o0 P) (.node (o1 P) (.node (o0 P) .nil .nil) (.node (o0 P) .nil .nil)) (.node (o126 P) (.node (o204 P) .nil .nil) .nil)) (.node (o63 P) (.node (o104 P) (.node (o186 P) .nil .nil) .nil) (.node (o145 P) (.node (o225 P) .nil .nil) .nil))) (.node (o36 P) (.node (o54 P) (.node (o0 P) (.node (o174 P) .nil .nil) .nil) (.node (o135 P) (.node (o213 P) .nil .nil) .nil)) (.node (o75 P) (.node (o0 P) (.node (o0 P) .nil .nil) .nil) (.node (o1 P) (.node (o1 P) .nil .nil) .nil))))))) (.node (boot_o_2 P) (.node (boot_o_4 P) (.node (boot_o_8 P) (.node (o1 P) (.node (o17 P) (.node (o1 P) (.node (o78 P) (.node (o155 P) .nil .nil) (.node (o239 P) .nil .nil)) (.node (o0 P) (.node (o0 P) .nil .nil) .nil)) (.node (o56 P) (.node (o97 P) (.node (o11 P) .nil .nil) .nil) (.node (o0 P) (.node (o0 P) .nil .nil) .nil))) (.node (o27 P) (.node (o0 P) (.node (o87 P) (.node (o165 P) .nil .nil) (.node (o249 P) .nil .nil)) (.node (o128 P) (.node (o206 P) .nil .nil) .nil)) (.node (o0 P) (.node (o1 P) (.node (o1 P) .nil .nil) .nil) (.node (o146 P) (.node (o230 P) .nil .nil) .nil)))) (.node (o12 P) (.node (o22 P) (.node (o42 P) (.node (o0 P) (.node (o160 P) .nil .nil) (.node (o244 P) .nil .nil)) (.node (o121 P) (.node (o201 P) .nil .nil) .nil)) (.node (o61 P) (.node (o0 P) (.node (o0 P) .nil .nil) .nil) (.node (o1 P) (.node (o220 P) .nil .nil) .nil))) (.node (o0 P) (.node (o51 P) (.node (o92 P) (.node (o0 P) .nil .nil) (.node (o254 P) .nil .nil)) (.node (o133 P) (.node (o211 P) .nil .nil) .nil)) (.node (o70 P) (.node (o110 P) (.node (o192 P) .nil .nil) .nil) (.node (o0 P) (.node (o0 P) .nil .nil) .nil))))) (.node (o227 P) (.node (o8 P) (.node (o1 P) (.node (o40 P) (.node (o81 P) (.node (o1 P) .nil .nil) (.node (o1 P) .nil .nil)) (.node (o0 P) (.node (o0 P) .nil .nil) .nil)) (.node (o58 P) (.node (o0 P) (.node (o180 P) .nil .nil) .nil) (.node (o139 P) (.node (o217 P) .nil .nil) .nil))) (.node (o0 P) (.node (o0 P) (.node (o1 P) (.node (o168 P) .nil .nil) (.node (o252 P) .nil .nil)) (.node (o130 P) (.node (o208 P) .nil .nil) .nil)) (.node (o67 P) (.node (o108 P) (.node (o190 P) .nil .nil) .nil) (.node (o149 P) (.node (o233 P) .nil .nil) .nil)))) (.node (o14 P) (.node (o24 P) (.node (o45 P) (.node (o0 P) (.node (o162 P) .nil .nil) (.node (o246 P) .nil .nil)) (.node (o11 P) (.node (o1 P) .nil .nil) .nil)) (.node (o0 P) (.node (o103 P) (.node (o185 P) .nil .nil) .nil) (.node (o144 P) (.node (o224 P) .nil .nil) .nil))) (.node (o35 P) (.node (o1 P) (.node (o94 P) (.node (o173 P) .nil .nil) (.node (o257 P) .nil .nil)) (.node (o0 P) (.node (o0 P) .nil .nil) .nil)) (.node (o74 P) (.node (o113 P) (.node (o195 P) .nil .nil) .nil) (.node (o0 P) (.node (o0 P) .nil .nil) .nil)))))) (.node (boot_o_6 P) (.node (boot_o_10 P) (.node (o0 P) (.node (o19 P) (.node (o0 P) (.node (o79 P) (.node (o157 P) .nil .nil) (.node (o241 P) .nil .nil)) (.node (o116 P) (.node (o198 P) .nil .nil) .nil)) (.node (o0 P) (.node (o1 P) (.node (o0 P) .nil .nil) .nil) (.node (o138 P) (.node (o216 P) .nil .nil) .nil))) (.node (o11 P) (.node (o48 P) (.node (o89 P) (.node (o166 P) .nil .nil) (.node (o250 P) .nil .nil)) (.node (o0 P) (.node (o0 P) .nil .nil) .nil)) (.node (o66 P) (.node (o0 P) (.node (o0 P) .nil .nil) .nil) (.node (o147 P) (.node (o231 P) .nil .nil) .nil)))) (.node (o1 P) (.node (o0 P) (.node (o43 P) (.node (o84 P) (.node (o0 P) .nil .nil) (.node (o0 P) .nil .nil)) (.node (o123 P) (.node (o203 P) .nil .nil) .nil)) (.node (o1 P) (.node (o102 P) (.node (o184 P) .nil .nil) .nil) (.node (o0 P) (.node (o222 P) .nil .nil) .nil))) (.node (o34 P) (.node (o53 P) (.node (o0 P) (.node (o172 P) .nil .nil) (.node (o255 P) .nil .nil)) (.node (o1 P) (.node (o1 P) .nil .nil) .nil)) (.node (o72 P) (.node (o111 P) (.node (o193 P) .nil .nil) .nil) (.node (o152 P) (.node (o236 P) .nil .nil) .nil))))) (.node (o3 P) (.node (o10 P) (.node (o0 P) (.node (o0 P) (.node (o1 P) (.node (o0 P) .nil .nil) (.node (o0 P) .nil .nil)) (.node (o119 P) (.node (o200 P) .nil .nil) .nil)) (.node (o59 P) (.node (o100 P) (.node (o182 P) .nil .nil) .nil) (.node (o141 P) (.node (o219 P) .nil .nil) .nil))) (.node (o32 P) (.node (o50 P) (.node (o0 P) (.node (o170 P) .nil .nil) (.node (o0 P) .nil .nil)) (.node (o131 P) (.node (o209 P) .nil .nil) .nil)) (.node (o69 P) (.node (o0 P) (.node (o0 P) .nil .nil) .nil) (.node (o1 P) (.node (o1 P) .nil .nil) .nil)))) (.node (o15 P) (.node (o25 P) (.node (o1 P) (.node (o86 P) (.node (o163 P) .nil .nil) (.node (o247 P) .nil .nil)) (.node (o0 P) (.node (o0 P) .nil .nil) .nil)) (.node (o64 P) (.node (o105 P) (.node (o187 P) .nil .nil) .nil) (.node (o0 P) (.node (o229 P) .nil .nil) .nil))) (.node (o37 P) (.node (o0 P) (.node (o95 P) (.node (o175 P) .nil .nil) .nil) (.node (o136 P) (.node (o214 P) .nil .nil) .nil)) (.node (o0 P) (.node (o1 P) (.node (o1 P) .nil .nil) .nil) (.node (o154 P) (.node (o238 P) .nil .nil) .nil))))))))
noncomputable def tr7 (P : Params) : BT := (.node (boot_o_0 P) (.node (boot_o_1 P) (.node (o258 P) (.node (boot_o_7 P) (.node (o0 P) (.node (o16 P) (.node (o0 P) (.node (o11 P) (.node (o0 P) .nil .nil) (.node (o0 P) .nil .nil)) (.node (o114 P) (.node (o196 P) .nil .nil) .nil)) (.node (o55 P) (.node (o96 P) (.node (o0 P) .nil .nil) (.node (o260 P) .nil .nil)) (.node (o137 P) (.node (o215 P) .nil .nil) .nil))) (.node (o26 P) (.node (o46 P) (.node (o0 P) (.node (o164 P) .nil .nil) (.node (o248 P) .nil .nil)) (.node (o127 P) (.node (o205 P) .nil .nil) .nil)) (.node (o65 P) (.node (o0 P) (.node (o0 P) .nil .nil) (.node (o0 P) .nil .nil)) (.node (o1 P) (.node (o11 P) .nil .nil) .nil)))) (.node (o11 P) (.node (o21 P) (.node (o1 P) (.node (o82 P) (.node (o159 P) .nil .nil) (.node (o243 P) .nil .nil)) (.node (o120 P) (.node (o0 P) .nil .nil) .nil)) (.node (o60 P) (.node (o101 P) (.node (o183 P) .nil .nil) (.node (o266 P) .nil .nil)) (.node (o0 P) (.node (o0 P) .nil .nil) .nil))) (.node (o33 P) (.node (o0 P) (.node (o91 P) (.node (o171 P) .nil .nil) (.node (o1 P) .nil .nil)) (.node (o132 P) (.node (o210 P) .nil .nil) .nil)) (.node (o0 P) (.node (o1 P) (.node (o1 P) .nil .nil) .nil) (.node (o150 P) (.node (o234 P) .nil .nil) .nil))))) (.node (o0 P) (.node (o7 P) (.node (o0 P) (.node (o39 P) (.node (o80 P) (.node (o0 P) .nil .nil) (.node (o0 P) .nil .nil)) (.node (o117 P) (.node (o199 P) .nil .nil) .nil)) (.node (o1 P) (.node (o98 P) (.node (o179 P) .nil .nil) (.node (o260 P) .nil .nil)) (.node (o0 P) (.node (o0 P) .nil .nil) .nil))) (.node (o30 P) (.node (o49 P) (.node (o0 P) (.node (o167 P) .nil .nil) (.node (o251 P) .nil .nil)) (.node (o1 P) (.node (o1 P) .nil .nil) .nil)) (.node (o0 P) (.node (o107 P) (.node (o189 P) .nil .nil) (.node (o272 P) .nil .nil)) (.node (o148 P) (.node (o232 P) .nil .nil) .nil)))) (.node (o13 P) (.node (o1 P) (.node (o44 P) (.node (o85 P) (.node (o1 P) .nil .nil) (.node (o1 P) .nil .nil)) (.node (o0 P) (.node (o0 P) .nil .nil) .nil)) (.node (o62 P) (.node (o0 P) (.node (o0 P) .nil .nil) (.node (o0 P) .nil .nil)) (.node (o143 P) (.node (o223 P) .nil .nil) .nil))) (.node (o0 P) (.node (o0 P) (.node (o1 P) (.node (o0 P) .nil .nil) (.node (o256 P) .nil .nil)) (.node (o134 P) (.node (o212 P) .nil .nil) .nil)) (.node (o73 P) (.node (o112 P) (.node (o194 P) .nil .nil) .nil) (.node (o153 P) (.node (o237 P) .nil .nil) .nil)))))) (.node (boot_o_5 P) (.node (boot_o_9 P) (.node (o6 P) (.node (o18 P) (.node (o38 P) (.node (o0 P) (.node (o156 P) .nil .nil) (.node (o240 P) .nil .nil)) (.node (o115 P) (.node (o197 P) .nil .nil) .nil)) (.node (o57 P) (.node (o0 P) (.node (o178 P) .nil .nil) (.node (o260 P) .nil .nil)) (.node (o1 P) (.node (o1 P) .nil .nil) .nil))) (.node (o0 P) (.node (o47 P) (.node (o88 P) (.node (o0 P) .nil .nil) (.node (o0 P) .nil .nil)) (.node (o129 P) (.node (o207 P) .nil .nil) .nil)) (.node (o1 P) (.node (o106 P) (.node (o188 P) .nil .nil) (.node (o271 P) .nil .nil)) (.node (o0 P) (.node (o0 P) .nil .nil) .nil)))) (.node (o0 P) (.node (o23 P) (.node (o0 P) (.node (o83 P) (.node (o161 P) .nil .nil) (.node (o245 P) .nil .nil)) (.node (o122 P) (.node (o202 P) .nil .nil) .nil)) (.node (o0 P) (.node (o1 P) (.node (o1 P) .nil .nil) (.node (o1 P) .nil .nil)) (.node (o142 P) (.node (o228 P) .nil .nil) .nil))) (.node (o1 P) (.node (o52 P) (.node (o93 P) (.node (o1 P) .nil .nil) (.node (o0 P) .nil .nil)) (.node (o0 P) (.node (o0 P) .nil .nil) .nil)) (.node (o71 P) (.node (o0 P) (.node (o0 P) .nil .nil) .nil) (.node (o151 P) (.node (o235 P) .nil .nil) .nil))))) (.node (o2 P) (.node (o9 P) (.node (o20 P) (.node (o41 P) (.node (o0 P) (.node (o158 P) .nil .nil) (.node (o242 P) .nil .nil)) (.node (o118 P) (.node (o1 P) .nil .nil) .nil)) (.node (o0 P) (.node (o99 P) (.node (o181 P) .nil .nil) (.node (o260 P) .nil .nil)) (.node (o140 P) (.node (o218 P) .nil .nil) .nil))) (.node (o31 P) (.node (o1 P) (.node (o90 P) (.node (o169 P) .nil .nil) (.node (o253 P) .nil .nil)) (.node (o0 P) (.node (o0 P) .nil .nil) .nil)) (.node (o68 P) (.node (o109 P) (.node (o191 P) .nil .nil) (.node (o274 P) .nil .nil)) (.node (o0 P) (.node (o0 P) .nil .nil) .nil)))) (.node (o0 P) (.node (o0 P) (.node (o0 P) (.node (o1 P) (.node (o0 P) .nil .nil) (.node (o0 P) .nil .nil)) (.node (o126 P) (.node (o204 P) .nil .nil) .nil)) (.node (o63 P) (.node (o104 P) (.node (o186 P) .nil .nil) (.node (o269 P) .nil .nil)) (.node (o145 P) (.node (o225 P) .nil .nil) .nil))) (.node (o36 P) (.node (o54 P) (.node (o0 P) (.node (o174 P) .nil .nil) (.node (o260 P) .nil .nil)) (.node (o135 P) (.node (o213 P) .nil .nil) .nil)) (.node (o75 P) (.node (o0 P) (.node (o0 P) .nil .nil) .nil) (.node (o1 P) (.node (o1 P) .nil .nil) .nil))))))) (.node (boot_o_2 P) (.node (boot_o_4 P) (.node (boot_o_8 P) (.node (o1 P) (.node (o17 P) (.node (o1 P) (.node (o78 P) (.node (o155 P) .nil .nil) (.node (o239 P) .nil .nil)) (.node (o0 P) (.node (o0 P) .nil .nil) .nil)) (.node (o56 P) (.node (o97 P) (.node (o11 P) .nil .nil) (.node (o262 P) .nil .nil)) (.node (o0 P) (.node (o0 P) .nil .nil) .nil))) (.node (o27 P) (.node (o0 P) (.node (o87 P) (.node (o165 P) .nil .nil) (.node (o249 P) .nil .nil)) (.node (o128 P) (.node (o206 P) .nil .nil) .nil)) (.node (o0 P) (.node (o1 P) (.node (o1 P) .nil .nil) (.node (o1 P) .nil .nil)) (.node (o146 P) (.node (o230 P) .nil .nil) .nil)))) (.node (o12 P) (.node (o22 P) (.node (o42 P) (.node (o0 P) (.node (o160 P) .nil .nil) (.node (o244 P) .nil .nil)) (.node (o121 P) (.node (o201 P) .nil .nil) .nil)) (.node (o61 P) (.node (o0 P) (.node (o0 P) .nil .nil) (.node (o0 P) .nil .nil)) (.node (o1 P) (.node (o220 P) .nil .nil) .nil))) (.node (o0 P) (.node (o51 P) (.node (o92 P) (.node (o0 P) .nil .nil) (.node (o254 P) .nil .nil)) (.node (o133 P) (.node (o211 P) .nil .nil) .nil)) (.node (o70 P) (.node (o110 P) (.node (o192 P) .nil .nil) .nil) (.node (o0 P) (.node (o0 P) .nil .nil) .nil))))) (.node (o259 P) (.node (o8 P) (.node (o1 P) (.node (o40 P) (.node (o81 P) (.node (o1 P) .nil .nil) (.node (o1 P) .nil .nil)) (.node (o0 P) (.node (o0 P) .nil .nil) .nil)) (.node (o58 P) (.node (o0 P) (.node (o180 P) .nil .nil) (.node (o264 P) .nil .nil)) (.node (o139 P) (.node (o217 P) .nil .nil) .nil))) (.node (o0 P) (.node (o0 P) (.node (o1 P) (.node (o168 P) .nil .nil) (.node (o252 P) .nil .nil)) (.node (o130 P) (.node (o208 P) .nil .nil) .nil)) (.node (o67 P) (.node (o108 P) (.node (o190 P) .nil .nil) (.node (o273 P) .nil .nil)) (.node (o149 P) (.node (o233 P) .nil .nil) .nil)))) (.node (o14 P) (.node (o24 P) (.node (o45 P) (.node (o0 P) (.node (o162 P) .nil .nil) (.node (o246 P) .nil .nil)) (.node (o11 P) (.node (o1 P) .nil .nil) .nil)) (.node (o0 P) (.node (o103 P) (.node (o185 P) .nil .nil) (.node (o268 P) .nil .nil)) (.node (o144 P) (.node (o224 P) .nil .nil) .nil))) (.node (o35 P) (.node (o1 P) (.node (o94 P) (.node (o173 P) .nil .nil) (.node (o257 P) .nil .nil)) (.node (o0 P) (.node (o0 P) .nil .nil) .nil)) (.node (o74 P) (.node (o113 P) (.node (o195 P) .nil .nil) .nil) (.node (o0 P) (.node (o0 P) .nil .nil) .nil)))))) (.node (boot_o_6 P) (.node (boot_o_10 P) (.node (o0 P) (.node (o19 P) (.node (o0 P) (.node (o79 P) (.node (o157 P) .nil .nil) (.node (o241 P) .nil .nil)) (.node (o116 P) (.node (o198 P) .nil .nil) .nil)) (.node (o0 P) (.node (o1 P) (.node (o0 P) .nil .nil) (.node (o263 P) .nil .nil)) (.node (o138 P) (.node (o216 P) .nil .nil) .nil))) (.node (o11 P) (.node (o48 P) (.node (o89 P) (.node (o166 P) .nil .nil) (.node (o250 P) .nil .nil)) (.node (o0 P) (.node (o0 P) .nil .nil) .nil)) (.node (o66 P) (.node (o0 P) (.node (o0 P) .nil .nil) (.node (o0 P) .nil .nil)) (.node (o147 P) (.node (o231 P) .nil .nil) .nil)))) (.node (o1 P) (.node (o0 P) (.node (o43 P) (.node (o84 P) (.node (o0 P) .nil .nil) (.node (o0 P) .nil .nil)) (.node (o123 P) (.node (o203 P) .nil .nil) .nil)) (.node (o1 P) (.node (o102 P) (.node (o184 P) .nil .nil) (.node (o267 P) .nil .nil)) (.node (o0 P) (.node (o222 P) .nil .nil) .nil))) (.node (o34 P) (.node (o53 P) (.node (o0 P) (.node (o172 P) .nil .nil) (.node (o255 P) .nil .nil)) (.node (o1 P) (.node (o1 P) .nil .nil) .nil)) (.node (o72 P) (.node (o111 P) (.node (o193 P) .nil .nil) .nil) (.node (o152 P) (.node (o236 P) .nil .nil) .nil))))) (.node (o3 P) (.node (o10 P) (.node (o0 P) (.node (o0 P) (.node (o1 P) (.node (o0 P) .nil .nil) (.node (o0 P) .nil .nil)) (.node (o119 P) (.node (o200 P) .nil .nil) .nil)) (.node (o59 P) (.node (o100 P) (.node (o182 P) .nil .nil) (.node (o265 P) .nil .nil)) (.node (o141 P) (.node (o219 P) .nil .nil) .nil))) (.node (o32 P) (.node (o50 P) (.node (o0 P) (.node (o170 P) .nil .nil) (.node (o0 P) .nil .nil)) (.node (o131 P) (.node (o209 P) .nil .nil) .nil)) (.node (o69 P) (.node (o0 P) (.node (o0 P) .nil .nil) .nil) (.node (o1 P) (.node (o1 P) .nil .nil) .nil)))) (.node (o15 P) (.node (o25 P) (.node (o1 P) (.node (o86 P) (.node (o163 P) .nil .nil) (.node (o247 P) .nil .nil)) (.node (o0 P) (.node (o0 P) .nil .nil) .nil)) (.node (o64 P) (.node (o105 P) (.node (o187 P) .nil .nil) (.node (o270 P) .nil .nil)) (.node (o0 P) (.node (o229 P) .nil .nil) .nil))) (.node (o37 P) (.node (o0 P) (.node (o95 P) (.node (o175 P) .nil .nil) (.node (o261 P) .nil .nil)) (.node (o136 P) (.node (o214 P) .nil .nil) .nil)) (.node (o0 P) (.node (o1 P) (.node (o1 P) .nil .nil) .nil) (.node (o154 P) (.node (o238 P) .nil .nil) .nil))))))))
noncomputable def heapZ (P : Params) : Heap := ⟨⟨[boot_o_0 P, boot_o_1 P, boot_o_2 P, o258 P, boot_o_4 P, boot_o_5 P, boot_o_6 P, boot_o_7 P, boot_o_8 P, boot_o_9 P, boot_o_10 P, o0 P, o259 P, o2 P, o3 P, o0 P, o1 P, o6 P, o0 P, o7 P, o8 P, o9 P, o10 P, o11 P, o12 P, o0 P, o1 P, o13 P, o14 P, o0 P, o15 P, o16 P, o17 P, o18 P, o19 P, o0 P, o1 P, o20 P, o0 P, o21 P, o22 P, o23 P, o0 P, o1 P, o24 P, o0 P, o25 P, o26 P, o27 P, o0 P, o11 P, o30 P, o0 P, o31 P, o32 P, o33 P, o0 P, o1 P, o34 P, o0 P, o35 P, o36 P, o37 P, o0 P, o1 P, o38 P, o0 P, o39 P, o40 P, o41 P, o0 P, o1 P, o42 P, o0 P, o43 P, o44 P, o45 P, o0 P, o1 P, o46 P, o0 P, o47 P, o48 P, o49 P, o0 P, o1 P, o50 P, o0 P, o51 P, o52 P, o53 P, o0 P, o1 P, o54 P, o0 P, o55 P, o56 P, o57 P, o0 P, o1 P, o58 P, o0 P, o59 P, o60 P, o61 P, o0 P, o1 P, o62 P, o0 P, o63 P, o64 P, o65 P, o0 P, o1 P, o66 P, o0 P, o67 P, o68 P, o69 P, o0 P, o70 P, o71 P, o72 P, o73 P, o74 P, o75 P, o0 P, o11 P, o78 P, o0 P, o79 P, o80 P, o81 P, o0 P, o1 P, o82 P, o0 P, o83 P, o84 P, o85 P, o0 P, o1 P, o86 P, o0 P, o87 P, o88 P, o89 P, o0 P, o1 P, o90 P, o0 P, o91 P, o92 P, o93 P, o0 P, o1 P, o94 P, o0 P, o95 P, o96 P, o97 P, o0 P, o1 P, o98 P, o0 P, o99 P, o100 P, o101 P, o0 P, o1 P, o102 P, o0 P, o103 P, o104 P, o105 P, o0 P, o1 P, o106 P, o0 P, o107 P, o108 P, o109 P, o0 P, o1 P, o110 P, o0 P, o111 P, o112 P, o113 P, o0 P, o1 P, o114 P, o0 P, o115 P, o116 P, o117 P, o0 P, o118 P, o119 P, o120 P, o121 P, o122 P, o123 P, o0 P, o11 P, o126 P, o0 P, o127 P, o128 P, o129 P, o0 P, o1 P, o130 P, o0 P, o131 P, o132 P, o133 P, o0 P, o1 P, o134 P, o0 P, o135 P, o136 P, o137 P, o0 P, o1 P, o138 P, o0 P, o139 P, o140 P, o141 P, o0 P, o1 P, o142 P, o0 P, o143 P, o144 P, o145 P, o0 P, o1 P, o146 P, o0 P, o147 P, o148 P, o149 P, o0 P, o1 P, o150 P, o0 P, o151 P, o152 P, o153 P, o0 P, o1 P, o154 P, o0 P, o155 P, o156 P, o157 P, o0 P, o1 P, o158 P, o0 P, o159 P, o160 P, o161 P, o0 P, o1 P, o162 P, o0 P, o163 P, o164 P, o165 P, o0 P, o166 P, o167 P, o168 P, o169 P, o170 P, o171 P, o0 P, o1 P, o172 P, o0 P, o173 P, o174 P, o175 P, o0 P, o11 P, o178 P, o0 P, o179 P, o180 P, o181 P, o182 P, o183 P, o0 P, o1 P, o184 P, o0 P, o185 P, o186 P, o187 P, o0 P, o1 P, o188 P, o0 P, o189 P, o190 P, o191 P, o0 P, o1 P, o192 P, o0 P, o193 P, o194 P, o195 P, o0 P, o1 P, o196 P, o0 P, o197 P, o198 P, o199 P, o0 P, o1 P, o200 P, o0 P, o201 P, o202 P, o203 P, o0 P, o1 P, o204 P, o0 P, o205 P, o206 P, o207 P, o0 P, o1 P, o208 P, o0 P, o209 P, o210 P, o211 P, o0 P, o1 P, o212 P, o0 P, o213 P, o214 P, o215 P, o0 P, o1 P, o216 P, o0 P, o217 P, o218 P, o219 P, o0 P, o220 P, o228 P, o222 P, o223 P, o224 P, o225 P, o229 P, o11 P, o230 P, o0 P, o231 P, o232 P, o233 P, o0 P, o1 P, o234 P, o0 P, o235 P, o236 P, o237 P, o0 P, o1 P, o238 P, o0 P, o239 P, o240 P, o241 P, o0 P, o1 P, o242 P, o0 P, o243 P, o244 P, o245 P, o0 P, o1 P, o246 P, o0 P, o247 P, o248 P, o249 P, o0 P, o250 P, o251 P, o252 P, o253 P, o0 P, o1 P, o254 P, o0 P, o255 P, o256 P, o257 P, o260 P, o261 P, o260 P, o262 P, o260 P, o263 P, o260 P, o264 P, o260 P, o265 P, o266 P, o0 P, o1 P, o267 P, o0 P, o268 P, o269 P, o270 P, o0 P, o1 P, o271 P, o0 P, o272 P, o273 P, o274 P]⟩, {}⟩
noncomputable def sts1 : List Stmt := takeS 9 (dropS 0 TP.main.body)
noncomputable def sts2 : List Stmt := takeS 1 (dropS 9 TP.main.body)
noncomputable def sts3 : List Stmt := takeS 1 (dropS 10 TP.main.body)
noncomputable def sts4 : List Stmt := takeS 2 (dropS 11 TP.main.body)
noncomputable def sts5 : List Stmt := takeS 1 (dropS 13 TP.main.body)
noncomputable def sts6 : List Stmt := takeS 2 (dropS 14 TP.main.body)
noncomputable def sts7 : List Stmt := takeS 4 (dropS 16 TP.main.body)
noncomputable def stsAll : List Stmt := sts1 ++ (sts2 ++ (sts3 ++ (sts4 ++ (sts5 ++ (sts6 ++ (sts7 ++ ([])))))))
noncomputable def env0 : Env := { scope := TP.main.scope, locals := mainNs, globals := mainNs, cells := [], code := (.ref 13), frame := some 14 }
noncomputable def fp : Pos := ⟨0, 0, 0, 0⟩
noncomputable abbrev cE : Code := Code.body stsAll env0
noncomputable abbrev ann0 : Option Value := (some (.ref 6))
theorem pre_t (w : World) : (fun os => TWtopGo TWtable TP w 11 ann0 12 ⟨boot_heap w.params, Array.mk [], boot_drawn, boot_toks, os⟩ (topStub TP)) = fun os => some (⟨heapA w.params, Array.mk [], {}, 187, os⟩, Thread.mk (TWdenote TWtable cE) cE ⟨0, 0, 0, 0⟩ [topFrame fp]) := by kernel_rfl
theorem blk_t (w : World) : (fun os => TWsegRun TWtable TP w 11 ann0 1 1 ⟨heapA w.params, Array.mk [], {}, 187, os⟩ (blockOf stsAll env0 cE ⟨0, 0, 0, 0⟩ [topFrame fp])) = fun os => some (Flow.next, SharedT.abs (SharedT.mk (tr0 w.params) 15 {} (Array.mk []) {} 187 os), cE, ⟨0, 0, 0, 0⟩) := by kernel_rfl
theorem pc1_t (w : World) : (fun os => TWsegRunT TWtable TP w 11 ann0 1 327 (SharedT.mk (tr0 w.params) 15 {} (Array.mk []) {} 187 os) (piecesOf sts1 env0 cE ⟨0, 0, 0, 0⟩ [topFrame fp])) = fun os => some (Flow.next, (SharedT.mk (tr1 w.params) 49 {} (Array.mk []) {} 238 os), cE, ⟨23, 0, 23, 8⟩) := by kernel_rfl
theorem pc2_t (w : World) : (fun os => TWsegRunT TWtable TP w 11 ann0 1 530 (SharedT.mk (tr1 w.params) 49 {} (Array.mk []) {} 238 os) (piecesOf sts2 env0 cE ⟨23, 0, 23, 8⟩ [topFrame fp])) = fun os => some (Flow.next, (SharedT.mk (tr2 w.params) 126 {} (Array.mk []) {} 342 os), cE, ⟨24, 0, 58, 41⟩) := by kernel_rfl
theorem pc3_t (w : World) : (fun os => TWsegRunT TWtable TP w 11 ann0 1 529 (SharedT.mk (tr2 w.params) 126 {} (Array.mk []) {} 342 os) (piecesOf sts3 env0 cE ⟨24, 0, 58, 41⟩ [topFrame fp])) = fun os => some (Flow.next, (SharedT.mk (tr3 w.params) 203 {} (Array.mk []) {} 445 os), cE, ⟨59, 0, 103, 30⟩) := by kernel_rfl
theorem pc4_t (w : World) : (fun os => TWsegRunT TWtable TP w 11 ann0 1 560 (SharedT.mk (tr3 w.params) 203 {} (Array.mk []) {} 445 os) (piecesOf sts4 env0 cE ⟨59, 0, 103, 30⟩ [topFrame fp])) = fun os => some (Flow.next, (SharedT.mk (tr4 w.params) 287 {} (Array.mk []) {} 557 os), cE, ⟨141, 0, 144, 12⟩) := by kernel_rfl
theorem pc5_t (w : World) : (fun os => TWsegRunT TWtable TP w 11 ann0 1 541 (SharedT.mk (tr4 w.params) 287 {} (Array.mk []) {} 557 os) (piecesOf sts5 env0 cE ⟨141, 0, 144, 12⟩ [topFrame fp])) = fun os => some (Flow.next, (SharedT.mk (tr5 w.params) 366 {} (Array.mk []) {} 666 os), cE, ⟨145, 0, 186, 70⟩) := by kernel_rfl
theorem pc6_t (w : World) : (fun os => TWsegRunT TWtable TP w 11 ann0 1 393 (SharedT.mk (tr5 w.params) 366 {} (Array.mk []) {} 666 os) (piecesOf sts6 env0 cE ⟨145, 0, 186, 70⟩ [topFrame fp])) = fun os => some (Flow.next, (SharedT.mk (tr6 w.params) 413 {} (Array.mk []) {} 728 os), cE, ⟨207, 0, 209, 29⟩) := by kernel_rfl
theorem pc7_t (w : World) : (fun os => TWsegRunT TWtable TP w 11 ann0 1 320 (SharedT.mk (tr6 w.params) 413 {} (Array.mk []) {} 728 os) (piecesOf sts7 env0 cE ⟨207, 0, 209, 29⟩ [topFrame fp])) = fun os => some (Flow.next, (SharedT.mk (tr7 w.params) 438 {} (Array.mk []) {} 750 os), cE, ⟨217, 0, 224, 58⟩) := by kernel_rfl
theorem fin_t (w : World) : (fun os => TWtopRun TWtable TP w 11 ann0 2 (SharedT.abs (SharedT.mk (tr7 w.params) 438 {} (Array.mk []) {} 750 os)) (Thread.mk (doneF Flow.next) cE ⟨217, 0, 224, 58⟩ [topFrame fp])) = fun os => some (⟨heapZ w.params, Array.mk [], {}, 750, os⟩) := by kernel_rfl
abbrev steps0 : Nat := (12 + (1 + (327 + (530 + (529 + (560 + (541 + (393 + (320 + 2)))))))))
theorem run0 (w : World) (os : OsState) : topRun treeTable TP w 11 ann0 steps0 ⟨boot_heap w.params, Array.mk [], boot_drawn, boot_toks, os⟩ (topStub TP) = some ⟨heapZ w.params, Array.mk [], {}, 750, os⟩ :=
  go_top (by have h := congrFun (pre_t w) os; rw [← Fast_topGo, ← Fast_table, ← Fast_denote] at h; exact h) (piece_block (by have h := congrFun (blk_t w) os; rw [← Fast_segRun, ← Fast_table] at h; exact h) (piece_app (segRun_of (by have h := congrFun (pc1_t w) os; rw [← Fast_segRunT, ← Fast_table] at h; exact h)) (piece_app (segRun_of (by have h := congrFun (pc2_t w) os; rw [← Fast_segRunT, ← Fast_table] at h; exact h)) (piece_app (segRun_of (by have h := congrFun (pc3_t w) os; rw [← Fast_segRunT, ← Fast_table] at h; exact h)) (piece_app (segRun_of (by have h := congrFun (pc4_t w) os; rw [← Fast_segRunT, ← Fast_table] at h; exact h)) (piece_app (segRun_of (by have h := congrFun (pc5_t w) os; rw [← Fast_segRunT, ← Fast_table] at h; exact h)) (piece_app (segRun_of (by have h := congrFun (pc6_t w) os; rw [← Fast_segRunT, ← Fast_table] at h; exact h)) (piece_app (segRun_of (by have h := congrFun (pc7_t w) os; rw [← Fast_segRunT, ← Fast_table] at h; exact h)) (by have h := congrFun (fin_t w) os; rw [← Fast_topRun, ← Fast_table] at h; exact h)))))))))
noncomputable def KK (P : Params) : Frag := [(0, o275 P), (1, o276 P), (2, o277 P), (3, o258 P), (4, o278 P), (5, o279 P), (6, o260 P), (7, o0 P), (8, o1 P), (9, o280 P), (10, o281 P), (11, o0 P), (12, o259 P), (13, o2 P), (14, o3 P), (15, o0 P), (16, o1 P), (17, o6 P), (18, o0 P), (19, o7 P), (20, o8 P), (21, o9 P), (22, o10 P), (29, o0 P), (30, o15 P), (31, o16 P), (32, o17 P), (35, o0 P), (36, o1 P), (37, o20 P), (38, o0 P), (39, o21 P), (40, o22 P), (41, o23 P), (42, o0 P), (43, o1 P), (44, o24 P), (45, o0 P), (46, o25 P), (47, o26 P), (48, o27 P), (56, o0 P), (57, o1 P), (58, o34 P), (59, o0 P), (60, o35 P), (61, o36 P), (62, o37 P), (63, o0 P), (64, o1 P), (65, o38 P), (66, o0 P), (67, o39 P), (68, o40 P), (69, o41 P), (70, o0 P), (71, o1 P), (72, o42 P), (73, o0 P), (74, o43 P), (75, o44 P), (76, o45 P), (77, o0 P), (78, o1 P), (79, o46 P), (80, o0 P), (81, o47 P), (82, o48 P), (83, o49 P), (84, o0 P), (85, o1 P), (86, o50 P), (87, o0 P), (88, o51 P), (89, o52 P), (90, o53 P), (91, o0 P), (92, o1 P), (93, o54 P), (94, o0 P), (95, o55 P), (96, o56 P), (97, o57 P), (98, o0 P), (99, o1 P), (100, o58 P), (101, o0 P), (102, o59 P), (103, o60 P), (104, o61 P), (105, o0 P), (106, o1 P), (107, o62 P), (108, o0 P), (109, o63 P), (110, o64 P), (111, o65 P), (112, o0 P), (113, o1 P), (114, o66 P), (115, o0 P), (116, o67 P), (117, o68 P), (118, o69 P), (119, o0 P), (120, o70 P), (121, o71 P), (122, o72 P), (123, o73 P), (133, o0 P), (134, o1 P), (135, o82 P), (136, o0 P), (137, o83 P), (138, o84 P), (139, o85 P), (140, o0 P), (141, o1 P), (142, o86 P), (143, o0 P), (144, o87 P), (145, o88 P), (146, o89 P), (147, o0 P), (148, o1 P), (149, o90 P), (150, o0 P), (151, o91 P), (152, o92 P), (153, o93 P), (154, o0 P), (155, o1 P), (156, o94 P), (157, o0 P), (158, o95 P), (159, o96 P), (160, o97 P), (161, o0 P), (162, o1 P), (163, o98 P), (164, o0 P), (165, o99 P), (166, o100 P), (167, o101 P), (168, o0 P), (169, o1 P), (170, o102 P), (171, o0 P), (172, o103 P), (173, o104 P), (174, o105 P), (175, o0 P), (176, o1 P), (177, o106 P), (178, o0 P), (179, o107 P), (180, o108 P), (181, o109 P), (182, o0 P), (183, o1 P), (184, o110 P), (185, o0 P), (186, o111 P), (187, o112 P), (188, o113 P), (189, o0 P), (190, o1 P), (191, o114 P), (192, o0 P), (193, o115 P), (194, o116 P), (195, o117 P), (196, o0 P), (197, o118 P), (198, o119 P), (199, o120 P), (200, o121 P), (210, o0 P), (211, o1 P), (212, o130 P), (213, o0 P), (214, o131 P), (215, o132 P), (216, o133 P), (217, o0 P), (218, o1 P), (219, o134 P), (220, o0 P), (221, o135 P), (222, o136 P), (223, o137 P), (224, o0 P), (225, o1 P), (226, o138 P), (227, o0 P), (228, o139 P), (229, o140 P), (230, o141 P), (231, o0 P), (232, o1 P), (233, o142 P), (234, o0 P), (235, o143 P), (236, o144 P), (237, o145 P), (238, o0 P), (239, o1 P), (240, o146 P), (241, o0 P), (242, o147 P), (243, o148 P), (244, o149 P), (245, o0 P), (246, o1 P), (247, o150 P), (248, o0 P), (249, o151 P), (250, o152 P), (251, o153 P), (252, o0 P), (253, o1 P), (254, o154 P), (255, o0 P), (256, o155 P), (257, o156 P), (258, o157 P), (259, o0 P), (260, o1 P), (261, o158 P), (262, o0 P), (263, o159 P), (264, o160 P), (265, o161 P), (266, o0 P), (267, o1 P), (268, o162 P), (269, o0 P), (270, o163 P), (271, o164 P), (272, o165 P), (273, o0 P), (274, o166 P), (275, o167 P), (276, o168 P), (277, o169 P), (280, o0 P), (281, o1 P), (282, o172 P), (283, o0 P), (284, o173 P), (285, o174 P), (286, o175 P), (294, o182 P), (295, o183 P), (296, o0 P), (297, o1 P), (298, o184 P), (299, o0 P), (300, o185 P), (301, o186 P), (302, o187 P), (303, o0 P), (304, o1 P), (305, o188 P), (306, o0 P), (307, o189 P), (308, o190 P), (309, o191 P), (310, o0 P), (311, o1 P), (312, o192 P), (313, o0 P), (314, o193 P), (315, o194 P), (316, o195 P), (317, o0 P), (318, o1 P), (319, o196 P), (320, o0 P), (321, o197 P), (322, o198 P), (323, o199 P), (324, o0 P), (325, o1 P), (326, o200 P), (327, o0 P), (328, o201 P), (329, o202 P), (330, o203 P), (331, o0 P), (332, o1 P), (333, o204 P), (334, o0 P), (335, o205 P), (336, o206 P), (337, o207 P), (338, o0 P), (339, o1 P), (340, o208 P), (341, o0 P), (342, o209 P), (343, o210 P), (344, o211 P), (345, o0 P), (346, o1 P), (347, o212 P), (348, o0 P), (349, o213 P), (350, o214 P), (351, o215 P), (352, o0 P), (353, o1 P), (354, o216 P), (355, o0 P), (356, o217 P), (357, o218 P), (358, o219 P), (359, o0 P), (360, o220 P), (361, o228 P), (362, o222 P), (363, o223 P), (366, o229 P), (373, o0 P), (374, o1 P), (375, o234 P), (376, o0 P), (377, o235 P), (378, o236 P), (379, o237 P), (380, o0 P), (381, o1 P), (382, o238 P), (383, o0 P), (384, o239 P), (385, o240 P), (386, o241 P), (387, o0 P), (388, o1 P), (389, o242 P), (390, o0 P), (391, o243 P), (392, o244 P), (393, o245 P), (394, o0 P), (395, o1 P), (396, o246 P), (397, o0 P), (398, o247 P), (399, o248 P), (400, o249 P), (401, o0 P), (402, o250 P), (403, o251 P), (406, o0 P), (407, o1 P), (408, o254 P), (409, o0 P), (410, o255 P), (411, o256 P), (412, o257 P), (413, o260 P), (414, o261 P), (415, o260 P), (416, o262 P), (417, o260 P), (418, o263 P), (419, o260 P), (420, o264 P), (421, o260 P), (422, o265 P), (423, o266 P), (424, o0 P), (425, o1 P), (426, o267 P), (427, o0 P), (428, o268 P), (429, o269 P), (430, o270 P), (431, o0 P), (432, o1 P), (433, o271 P), (434, o0 P), (435, o272 P), (436, o273 P), (437, o274 P)]
noncomputable def as0 : List Addr := [0, 1, 2, 3, 4, 5, 6, 7, 8, 9, 10, 11, 12, 13, 14, 15, 16, 17, 18, 19, 20, 21, 22, 29, 30, 31, 32, 35, 36, 37, 38, 39, 40, 41, 42, 43, 44, 45, 46, 47, 48, 56, 57, 58, 59, 60, 61, 62, 63, 64, 65, 66, 67, 68, 69, 70, 71, 72, 73, 74, 75, 76, 77, 78, 79, 80, 81, 82, 83, 84, 85, 86, 87, 88, 89, 90, 91, 92, 93, 94, 95, 96, 97, 98, 99, 100, 101, 102, 103, 104, 105, 106, 107, 108, 109, 110, 111, 112, 113, 114, 115, 116, 117, 118, 119, 120, 121, 122, 123, 133, 134, 135, 136, 137, 138, 139, 140, 141, 142, 143, 144, 145, 146, 147, 148, 149, 150, 151, 152, 153, 154, 155, 156, 157, 158, 159, 160, 161, 162, 163, 164, 165, 166, 167, 168, 169, 170, 171, 172, 173, 174, 175, 176, 177, 178, 179, 180, 181, 182, 183, 184, 185, 186, 187, 188, 189, 190, 191, 192, 193, 194, 195, 196, 197, 198, 199, 200, 210, 211, 212, 213, 214, 215, 216, 217, 218, 219, 220, 221, 222, 223, 224, 225, 226, 227, 228, 229, 230, 231, 232, 233, 234, 235, 236, 237, 238, 239, 240, 241, 242, 243, 244, 245, 246, 247, 248, 249, 250, 251, 252, 253, 254, 255, 256, 257, 258, 259, 260, 261, 262, 263, 264, 265, 266, 267, 268, 269, 270, 271, 272, 273, 274, 275, 276, 277, 280, 281, 282, 283, 284, 285, 286, 294, 295, 296, 297, 298, 299, 300, 301, 302, 303, 304, 305, 306, 307, 308, 309, 310, 311, 312, 313, 314, 315, 316, 317, 318, 319, 320, 321, 322, 323, 324, 325, 326, 327, 328, 329, 330, 331, 332, 333, 334, 335, 336, 337, 338, 339, 340, 341, 342, 343, 344, 345, 346, 347, 348, 349, 350, 351, 352, 353, 354, 355, 356, 357, 358, 359, 360, 361, 362, 363, 366, 373, 374, 375, 376, 377, 378, 379, 380, 381, 382, 383, 384, 385, 386, 387, 388, 389, 390, 391, 392, 393, 394, 395, 396, 397, 398, 399, 400, 401, 402, 403, 406, 407, 408, 409, 410, 411, 412, 413, 414, 415, 416, 417, 418, 419, 420, 421, 422, 423, 424, 425, 426, 427, 428, 429, 430, 431, 432, 433, 434, 435, 436, 437]
abbrev size0 : Nat := 438
abbrev toksZ : Nat := 750
abbrev m00 : Nat := 11
noncomputable abbrev TSt := PySem.W.Fast.tw13471830651028734593
theorem eSt : @staticsOk = TSt := PySem.W.Fast.te13471830651028734593
noncomputable abbrev TNb := PySem.W.Fast.tw4683006035507612052
theorem eNb : @namesBound = TNb := PySem.W.Fast.te4683006035507612052
noncomputable abbrev TLk := PySem.W.Fast.tw16898566250750103049
theorem eLk : @laidKept = TLk := PySem.W.Fast.te16898566250750103049
noncomputable abbrev TXl := PySem.W.Fast.tw4757257242682413121
theorem eXl : @xlAt = TXl := PySem.W.Fast.te4757257242682413121
noncomputable abbrev TRo := PySem.W.Fast.tw6483871617321286689
theorem eRo : @recOk = TRo := PySem.W.Fast.te6483871617321286689
noncomputable abbrev TOg := PySem.W.Fast.tw3486900944545009338
theorem eOg : @openGood = TOg := PySem.W.Fast.te3486900944545009338
noncomputable abbrev TIm := PySem.W.Fast.tw5923862056798008813
theorem eIm : @importedModules = TIm := PySem.W.Fast.te5923862056798008813
noncomputable abbrev TOs := PySem.W.Fast.tw4187177175401517315
theorem eOs : @openSeen = TOs := PySem.W.Fast.te4187177175401517315
noncomputable def qOf (p : Program) : Program := { p with main := { p.main with body := dropS 19 p.main.body } }
noncomputable abbrev qv : Program := qOf TP
noncomputable def loose0 : List PySem.Str := (takeS 19 TP.main.body).flatMap fun s => match s with
  | .FunctionDef n .. => [n] | .ClassDef n .. => [n] | .Assign [.Name n ..] .. => if n == ⟨#[95, 95, 110, 97, 109, 101, 95, 95]⟩ then [] else [n] | _ => []
abbrev NN : Nat := 7000
theorem keys0 : ∀ P, as0 = (KK P).map (·.1) := fun P => by kernel_rfl
theorem facts1 {w : World} {s t : Shared} (y : obsZ as0 s = valZ KK size0 toksZ w) (k : ∀ b o, s.heap.get? b = some o → t.heap.get? b = some o) : Frag.In (KK w.params) t.heap ∧ s.heap.objs.size = nat_lit 438 ∧ s.toks = nat_lit 750 :=
  ⟨InK.keeps w s.heap t.heap (z_facts keys0 y).2.1 k, (z_facts keys0 y).2.2.1, (z_facts keys0 y).2.2.2⟩
theorem d_open : ∀ w : World, (fencedOpening treeTable TP w NN).map (fun s => (s.heap, s.gens, s.drawn, s.toks)) = some (boot_heap w.params, Array.mk [], boot_drawn, boot_toks) :=
  boot_open (p := TP) (N := NN) (by kernel_rfl) (by decide) (fun s => by rfl)
theorem d_size : ∀ w : World, ((boot_heap w.params).isNs mainGlobals && (Array.mk [] : Array GenState).size == 0, (boot_heap w.params).objs.size, (boot_heap w.params).nsMap mainGlobals "__annotations__") = (true, 11, ann0) := fun w => by kernel_rfl
noncomputable def XtT (s : Shared) : Bool := TXl qv [] s && TRo [] s
theorem look1 (w : World) : (fun os : OsState => (TSt (TIm TP.main.body) (boot_heap w.params) (heapZ w.params) && TNb TP (heapZ w.params) && gensDone ⟨heapZ w.params, Array.mk [], {}, toksZ, os⟩ && TLk (boot_heap w.params) (heapZ w.params))) = fun _ => true := by kernel_rfl
theorem look3 (w : World) : (fun os : OsState => obsZ as0 ⟨heapZ w.params, Array.mk [], {}, toksZ, os⟩) = fun _ => valZ KK size0 toksZ w := by kernel_rfl
theorem look2 (w : World) : (fun os : OsState => TOs qv loose0 (TIm TP.main.body) XtT true ⟨heapZ w.params, Array.mk [], {}, toksZ, os⟩) = fun _ => TOg qv loose0 := by kernel_rfl
theorem eXt : XtT = fun s => xlAt qv [] s && recOk [] s := by unfold XtT; rw [eXl, eRo]
abbrev pw : Program := PySem.Challenge.pw_ui0508_03
theorem left0 : LeftO pw (qOf pw) loose0 (fun s => xlAt (qOf pw) [] s && recOk [] s) (obsZ as0) (valZ KK size0 toksZ) NN := by
  rw [show pw = TP from tePw]
  refine LeftO.of_pieces (g0 := true) d_open d_size run0 (by decide) (fun w => ?_)
  have h1 := look1 w
  have h2 := look2 w
  have h3 := look3 w
  rw [← eSt, ← eIm, ← eNb, ← eLk] at h1
  rw [← eOs, ← eIm, ← eOg, eXt] at h2
  funext os
  exact Prod.ext (congrFun h1 os) (Prod.ext (congrFun h2 os) (congrFun h3 os))
abbrev QQ (s₀ s₁ : Shared) (ns : List Int) : Value → Shared → Prop := fun v s' => GoodWG PySem.Challenge.rw_ui0508_03.row.claim (classAt s₀.heap) (ExcName.means s₀.heap) [ofPy (PyData.list (List.map PyData.int ns))] s₁ (.ok (.ret v)) s'
abbrev EE (s₀ s₁ : Shared) (ns : List Int) : Value → Shared → Prop := fun e s' => GoodWG PySem.Challenge.rw_ui0508_03.row.claim (classAt s₀.heap) (ExcName.means s₀.heap) [ofPy (PyData.list (List.map PyData.int ns))] s₁ (.error e) s'
theorem small {p : Program} {w : World} {A : Around} {t : Sem Value} {s₀ s₁ s : Shared} {ns : List Int} (h : wpAny (model p w) A t (QQ s₀ s₁ ns) (EE s₀ s₁ ns) s) :
    wpAny (model p w) A t (fun v s' => GoodWG PySem.Challenge.rw_ui0508_03.row.claim (classAt s₀.heap) (ExcName.means s₀.heap) [ofPy (PyData.list (List.map PyData.int ns))] s₁ (.ok (.ret v)) s')
      (fun e s' => GoodWG PySem.Challenge.rw_ui0508_03.row.claim (classAt s₀.heap) (ExcName.means s₀.heap) [ofPy (PyData.list (List.map PyData.int ns))] s₁ (.error e) s') s := h
end Hd
namespace Hd
open Mi
noncomputable def gl0 : List (PySem.Str × Val) := [(PySem.Str.mk (Array.mk [114, 105, 110, 103]), (Val.top 430)), (PySem.Str.mk (Array.mk [102, 114, 97, 99, 116, 105, 111, 110]), (Val.top 412)), (PySem.Str.mk (Array.mk [95, 103, 99, 100]), (Val.top 286)), (PySem.Str.mk (Array.mk [82, 73, 78, 71, 83]), (Val.fl [(Val.top 414), (Val.top 416), (Val.top 418), (Val.top 420), (Val.top 422)])), (PySem.Str.mk (Array.mk [108, 101, 110]), (Val.bi 7103854))]
def bd437 : List Sm := [(Sm.ite (Ex.cmp COp.lt (Ex.call (Ex.lit (Val.bi 7103854)) [(Ex.var 0)]) (Ex.lit (Val.int 2))) [(Sm.ret (some (Ex.lit (Val.bool true))))] []), (Sm.asg (T1.nm 1) (Ex.call (Ex.lit (Val.top 430)) [(Ex.lit (Val.str [99, 104, 97, 110, 99, 101]))])), (Sm.asg (T1.nm 2) (Ex.bin BOp.add (Ex.lit (Val.int 2)) (Ex.bin BOp.mod (Ex.sub (Ex.var 0) (Ex.lit (Val.int 0))) (Ex.lit (Val.int 30))))), (Sm.asg (T1.nm 3) (Ex.call (Ex.lit (Val.top 412)) [(Ex.bin BOp.mod (Ex.sub (Ex.var 0) (Ex.lit (Val.int 1))) (Ex.var 2)), (Ex.var 2)])), (Sm.asg (T1.nm 4) (Ex.meth (Ex.var 1) 1937006962 [(Ex.var 3)])), (Sm.ret (some (Ex.cmp COp.eq (Ex.meth (Ex.var 1) 1886156147 [(Ex.attr (Ex.var 1) 7302757), (Ex.meth (Ex.var 1) 499984983411 [(Ex.var 3), (Ex.var 4)])]) (Ex.var 4))))]
def bd430 : List Sm := [(Sm.fo [1] false (Ex.lit (Val.fl [(Val.top 414), (Val.top 416), (Val.top 418), (Val.top 420), (Val.top 422)])) [(Sm.ite (Ex.cmp COp.eq (Ex.attr (Ex.var 1) 1851878757) (Ex.var 0)) [(Sm.ret (some (Ex.var 1)))] [])]), Sm.raise]
def bd412 : List Sm := [(Sm.asg (T1.nm 2) (Ex.call (Ex.lit (Val.top 286)) [(Ex.var 1), (Ex.var 0)])), (Sm.ret (some (Ex.tup [(Ex.bin BOp.fdiv (Ex.var 0) (Ex.var 2)), (Ex.bin BOp.fdiv (Ex.var 1) (Ex.var 2))])))]
def bd286 : List Sm := [(Sm.wh (Ex.cmp COp.gt (Ex.var 1) (Ex.lit (Val.int 0))) [(Sm.asgs [(T1.nm 0), (T1.nm 1)] (Ex.tup [(Ex.var 1), (Ex.bin BOp.mod (Ex.var 0) (Ex.var 1))]))]), (Sm.ret (some (Ex.var 0)))]
def bd309 : List Sm := [(Sm.ret (some (Ex.call (Ex.lit (Val.top 412)) [(Ex.bin BOp.add (Ex.bin BOp.mul (Ex.sub (Ex.var 1) (Ex.lit (Val.int 0))) (Ex.sub (Ex.var 2) (Ex.lit (Val.int 1)))) (Ex.bin BOp.mul (Ex.sub (Ex.var 2) (Ex.lit (Val.int 0))) (Ex.sub (Ex.var 1) (Ex.lit (Val.int 1))))), (Ex.bin BOp.mul (Ex.sub (Ex.var 1) (Ex.lit (Val.int 1))) (Ex.sub (Ex.var 2) (Ex.lit (Val.int 1))))])))]
def bd316 : List Sm := [(Sm.ret (some (Ex.call (Ex.lit (Val.top 412)) [(Ex.bin BOp.mul (Ex.sub (Ex.var 1) (Ex.lit (Val.int 0))) (Ex.sub (Ex.var 2) (Ex.lit (Val.int 0)))), (Ex.bin BOp.mul (Ex.sub (Ex.var 1) (Ex.lit (Val.int 1))) (Ex.sub (Ex.var 2) (Ex.lit (Val.int 1))))])))]
def bd323 : List Sm := [(Sm.ite (Ex.cmp COp.ge (Ex.sub (Ex.var 1) (Ex.lit (Val.int 0))) (Ex.sub (Ex.var 1) (Ex.lit (Val.int 1)))) [Sm.raise] []), (Sm.ret (some (Ex.call (Ex.lit (Val.top 412)) [(Ex.sub (Ex.var 1) (Ex.lit (Val.int 1))), (Ex.bin BOp.sub (Ex.sub (Ex.var 1) (Ex.lit (Val.int 1))) (Ex.sub (Ex.var 1) (Ex.lit (Val.int 0))))])))]
def P0 : Prg := ⟨[⟨437, 1, [], 11, bd437⟩, ⟨430, 1, [], 8, bd430⟩, ⟨412, 2, [], 9, bd412⟩, ⟨286, 2, [], 8, bd286⟩, ⟨309, 3, [], 9, bd309⟩, ⟨316, 3, [], 9, bd316⟩, ⟨323, 2, [], 8, bd323⟩],
  [⟨121, [(1851878757, (Val.str [121, 101, 115]))], Option.none⟩, ⟨198, [(1851878757, (Val.str [108, 101, 97, 115, 116]))], Option.none⟩, ⟨275, [(1851878757, (Val.str [99, 111, 117, 110, 116]))], Option.none⟩, ⟨361, [(1851878757, (Val.str [99, 104, 97, 110, 99, 101])), (7302757, (Val.tup [(Val.int 1), (Val.int 1)])), (1886156147, (Val.top 309)), (499984983411, (Val.top 316)), (1937006962, (Val.top 323))], Option.none⟩, ⟨403, [(1851878757, (Val.str [108, 105, 107, 101, 108, 121]))], Option.none⟩],
  [(414, 121), (416, 198), (418, 275), (420, 361), (422, 403)]⟩
def ad0 : List (Nat × Addr) := [(121, 121), (198, 198), (275, 275), (286, 286), (309, 309), (316, 316), (323, 323), (361, 361), (403, 403), (412, 412), (414, 414), (416, 416), (418, 418), (420, 420), (422, 422), (430, 430), (437, 437)]
noncomputable def cfg (w : World) (so : Obj) : Cfg := { prog := pw, w := w, K := (size0, so) :: KK w.params, P := P0, ad := ad0, names := [] }
section
variable (w : World) (so : Obj)
theorem kat {w : World} {so : Obj} (a : Addr) (o : Obj) (h : (KK w.params).lookup a = some o ∧ (a == size0) = false) : (cfg w so).K.lookup a = some o := by
  show List.lookup a ((size0, so) :: KK w.params) = some o
  rw [List.lookup_cons, h.2]; exact h.1
theorem g0 : ∃ rv, (∀ tp σ, VRel (cfg w so) tp σ (Val.top 430) rv) ∧ (nsIn (cfg w so).K mainGlobals (PySem.Str.mk (Array.mk [114, 105, 110, 103])) = some (some rv) ∨ (nsIn (cfg w so).K mainGlobals (PySem.Str.mk (Array.mk [114, 105, 110, 103])) = some Option.none ∧ (PySem.Str.mk (Array.mk [114, 105, 110, 103])) ≠ "__name__" ∧ bootBuiltins (PySem.Str.mk (Array.mk [114, 105, 110, 103])) = some rv)) :=
  ⟨(.ref 430), (fun _ _ => VRel.top (by kernel_rfl)), .inl (by kernel_rfl)⟩
theorem g1 : ∃ rv, (∀ tp σ, VRel (cfg w so) tp σ (Val.top 412) rv) ∧ (nsIn (cfg w so).K mainGlobals (PySem.Str.mk (Array.mk [102, 114, 97, 99, 116, 105, 111, 110])) = some (some rv) ∨ (nsIn (cfg w so).K mainGlobals (PySem.Str.mk (Array.mk [102, 114, 97, 99, 116, 105, 111, 110])) = some Option.none ∧ (PySem.Str.mk (Array.mk [102, 114, 97, 99, 116, 105, 111, 110])) ≠ "__name__" ∧ bootBuiltins (PySem.Str.mk (Array.mk [102, 114, 97, 99, 116, 105, 111, 110])) = some rv)) :=
  ⟨(.ref 412), (fun _ _ => VRel.top (by kernel_rfl)), .inl (by kernel_rfl)⟩
theorem g2 : ∃ rv, (∀ tp σ, VRel (cfg w so) tp σ (Val.top 286) rv) ∧ (nsIn (cfg w so).K mainGlobals (PySem.Str.mk (Array.mk [95, 103, 99, 100])) = some (some rv) ∨ (nsIn (cfg w so).K mainGlobals (PySem.Str.mk (Array.mk [95, 103, 99, 100])) = some Option.none ∧ (PySem.Str.mk (Array.mk [95, 103, 99, 100])) ≠ "__name__" ∧ bootBuiltins (PySem.Str.mk (Array.mk [95, 103, 99, 100])) = some rv)) :=
  ⟨(.ref 286), (fun _ _ => VRel.top (by kernel_rfl)), .inl (by kernel_rfl)⟩
theorem g3 : ∃ rv, (∀ tp σ, VRel (cfg w so) tp σ (Val.fl [(Val.top 414), (Val.top 416), (Val.top 418), (Val.top 420), (Val.top 422)]) rv) ∧ (nsIn (cfg w so).K mainGlobals (PySem.Str.mk (Array.mk [82, 73, 78, 71, 83])) = some (some rv) ∨ (nsIn (cfg w so).K mainGlobals (PySem.Str.mk (Array.mk [82, 73, 78, 71, 83])) = some Option.none ∧ (PySem.Str.mk (Array.mk [82, 73, 78, 71, 83])) ≠ "__name__" ∧ bootBuiltins (PySem.Str.mk (Array.mk [82, 73, 78, 71, 83])) = some rv)) :=
  ⟨(.ref 423), (fun _ _ => VRel.fl (kat 423 (o266 w.params) ⟨by kernel_rfl, by kernel_rfl⟩) rfl (vs := [(.ref 414), (.ref 416), (.ref 418), (.ref 420), (.ref 422)]) rfl (VRels.cons ((fun _ _ => VRel.top (by kernel_rfl)) _ _) (VRels.cons ((fun _ _ => VRel.top (by kernel_rfl)) _ _) (VRels.cons ((fun _ _ => VRel.top (by kernel_rfl)) _ _) (VRels.cons ((fun _ _ => VRel.top (by kernel_rfl)) _ _) (VRels.cons ((fun _ _ => VRel.top (by kernel_rfl)) _ _) VRels.nil))))) (by decide)), .inl (by kernel_rfl)⟩
theorem g4 : ∃ rv, (∀ tp σ, VRel (cfg w so) tp σ (Val.bi 7103854) rv) ∧ (nsIn (cfg w so).K mainGlobals (PySem.Str.mk (Array.mk [108, 101, 110])) = some (some rv) ∨ (nsIn (cfg w so).K mainGlobals (PySem.Str.mk (Array.mk [108, 101, 110])) = some Option.none ∧ (PySem.Str.mk (Array.mk [108, 101, 110])) ≠ "__name__" ∧ bootBuiltins (PySem.Str.mk (Array.mk [108, 101, 110])) = some rv)) :=
  ⟨(Value.builtin "len"), (fun _ _ => VRel.bi (by kernel_rfl)), .inr ⟨by kernel_rfl, by decide, by kernel_rfl⟩⟩
theorem tgl : AllGl (cfg w so) gl0 := ⟨g0 w so, ⟨g1 w so, ⟨g2 w so, ⟨g3 w so, ⟨g4 w so, trivial⟩⟩⟩⟩⟩
theorem b437 : ∀ (v0 : Value), bindArgs (fnOf n111 n111 (fnA 19).1 (fnA 19).2.1 (fnA 19).2.2 Value.none Value.none Value.none (Value.str n108 737) Option.none (.ref 436) Value.none) ⟨[v0], []⟩ = pure (((fnA 19).1.args.map (·.arg)).zip [v0]) := by intros; kernel_rfl
theorem f437 : FnFact (cfg w so) gl0 ⟨437, 1, [], 11, bd437⟩ :=
  ⟨⟨437, n111, n111, (fnA 19).1, (fnA 19).2.1, (fnA 19).2.2, Value.none, Value.none, Value.none, (Value.str n108 737), Option.none, (.ref 436), Value.none, (Value.type PySem.W.SL.s7174869446012820540x8), Option.none, Array.mk [], by kernel_rfl, (kat 437 (o274 w.params) ⟨by kernel_rfl, by kernel_rfl⟩), by kernel_rfl, by kernel_rfl, rfl, by kernel_rfl,
    (fun vs h s => match vs, h with | [v0], _ => BindsTo.of_eq (b437 v0)), ndp (by kernel_rfl), by kernel_rfl, ncl (by kernel_rfl)⟩⟩
theorem b430 : ∀ (v0 : Value), bindArgs (fnOf n110 n110 (fnA 17).1 (fnA 17).2.1 (fnA 17).2.2 Value.none Value.none Value.none (Value.str n4 236) Option.none (.ref 429) Value.none) ⟨[v0], []⟩ = pure (((fnA 17).1.args.map (·.arg)).zip [v0]) := by intros; kernel_rfl
theorem f430 : FnFact (cfg w so) gl0 ⟨430, 1, [], 8, bd430⟩ :=
  ⟨⟨430, n110, n110, (fnA 17).1, (fnA 17).2.1, (fnA 17).2.2, Value.none, Value.none, Value.none, (Value.str n4 236), Option.none, (.ref 429), Value.none, (Value.type PySem.W.SL.s7174869446012820540x8), Option.none, Array.mk [], by kernel_rfl, (kat 430 (o270 w.params) ⟨by kernel_rfl, by kernel_rfl⟩), by kernel_rfl, by kernel_rfl, rfl, by kernel_rfl,
    (fun vs h s => match vs, h with | [v0], _ => BindsTo.of_eq (b430 v0)), ndp (by kernel_rfl), by kernel_rfl, ncl (by kernel_rfl)⟩⟩
theorem b412 : ∀ (v0 : Value) (v1 : Value), bindArgs (fnOf n99 n99 (fnA 15).1 (fnA 15).2.1 (fnA 15).2.2 Value.none Value.none Value.none (Value.str n4 236) Option.none (.ref 411) Value.none) ⟨[v0, v1], []⟩ = pure (((fnA 15).1.args.map (·.arg)).zip [v0, v1]) := by intros; kernel_rfl
theorem f412 : FnFact (cfg w so) gl0 ⟨412, 2, [], 9, bd412⟩ :=
  ⟨⟨412, n99, n99, (fnA 15).1, (fnA 15).2.1, (fnA 15).2.2, Value.none, Value.none, Value.none, (Value.str n4 236), Option.none, (.ref 411), Value.none, (Value.type PySem.W.SL.s7174869446012820540x8), Option.none, Array.mk [], by kernel_rfl, (kat 412 (o257 w.params) ⟨by kernel_rfl, by kernel_rfl⟩), by kernel_rfl, by kernel_rfl, rfl, by kernel_rfl,
    (fun vs h s => match vs, h with | [v0, v1], _ => BindsTo.of_eq (b412 v0 v1)), ndp (by kernel_rfl), by kernel_rfl, ncl (by kernel_rfl)⟩⟩
theorem b286 : ∀ (v0 : Value) (v1 : Value), bindArgs (fnOf n73 n73 (fnA 12).1 (fnA 12).2.1 (fnA 12).2.2 Value.none Value.none Value.none (Value.str n4 236) Option.none (.ref 285) Value.none) ⟨[v0, v1], []⟩ = pure (((fnA 12).1.args.map (·.arg)).zip [v0, v1]) := by intros; kernel_rfl
theorem f286 : FnFact (cfg w so) gl0 ⟨286, 2, [], 8, bd286⟩ :=
  ⟨⟨286, n73, n73, (fnA 12).1, (fnA 12).2.1, (fnA 12).2.2, Value.none, Value.none, Value.none, (Value.str n4 236), Option.none, (.ref 285), Value.none, (Value.type PySem.W.SL.s7174869446012820540x8), Option.none, Array.mk [], by kernel_rfl, (kat 286 (o175 w.params) ⟨by kernel_rfl, by kernel_rfl⟩), by kernel_rfl, by kernel_rfl, rfl, by kernel_rfl,
    (fun vs h s => match vs, h with | [v0, v1], _ => BindsTo.of_eq (b286 v0 v1)), ndp (by kernel_rfl), by kernel_rfl, ncl (by kernel_rfl)⟩⟩
theorem b309 : ∀ (v0 : Value) (v1 : Value) (v2 : Value), bindArgs (fnOf n39 n87 (fnB 13 6).1 (fnB 13 6).2.1 (fnB 13 6).2.2 Value.none Value.none Value.none (Value.str n4 236) Option.none (.ref 308) Value.none) ⟨[v0, v1, v2], []⟩ = pure (((fnB 13 6).1.args.map (·.arg)).zip [v0, v1, v2]) := by intros; kernel_rfl
theorem f309 : FnFact (cfg w so) gl0 ⟨309, 3, [], 9, bd309⟩ :=
  ⟨⟨309, n39, n87, (fnB 13 6).1, (fnB 13 6).2.1, (fnB 13 6).2.2, Value.none, Value.none, Value.none, (Value.str n4 236), Option.none, (.ref 308), Value.none, (Value.type PySem.W.SL.s7174869446012820540x8), Option.none, Array.mk [], by kernel_rfl, (kat 309 (o191 w.params) ⟨by kernel_rfl, by kernel_rfl⟩), by kernel_rfl, by kernel_rfl, rfl, by kernel_rfl,
    (fun vs h s => match vs, h with | [v0, v1, v2], _ => BindsTo.of_eq (b309 v0 v1 v2)), ndp (by kernel_rfl), by kernel_rfl, ncl (by kernel_rfl)⟩⟩
theorem b316 : ∀ (v0 : Value) (v1 : Value) (v2 : Value), bindArgs (fnOf n40 n88 (fnB 13 7).1 (fnB 13 7).2.1 (fnB 13 7).2.2 Value.none Value.none Value.none (Value.str n4 236) Option.none (.ref 315) Value.none) ⟨[v0, v1, v2], []⟩ = pure (((fnB 13 7).1.args.map (·.arg)).zip [v0, v1, v2]) := by intros; kernel_rfl
theorem f316 : FnFact (cfg w so) gl0 ⟨316, 3, [], 9, bd316⟩ :=
  ⟨⟨316, n40, n88, (fnB 13 7).1, (fnB 13 7).2.1, (fnB 13 7).2.2, Value.none, Value.none, Value.none, (Value.str n4 236), Option.none, (.ref 315), Value.none, (Value.type PySem.W.SL.s7174869446012820540x8), Option.none, Array.mk [], by kernel_rfl, (kat 316 (o195 w.params) ⟨by kernel_rfl, by kernel_rfl⟩), by kernel_rfl, by kernel_rfl, rfl, by kernel_rfl,
    (fun vs h s => match vs, h with | [v0, v1, v2], _ => BindsTo.of_eq (b316 v0 v1 v2)), ndp (by kernel_rfl), by kernel_rfl, ncl (by kernel_rfl)⟩⟩
theorem b323 : ∀ (v0 : Value) (v1 : Value), bindArgs (fnOf n41 n89 (fnB 13 8).1 (fnB 13 8).2.1 (fnB 13 8).2.2 Value.none Value.none Value.none (Value.str n4 236) Option.none (.ref 322) Value.none) ⟨[v0, v1], []⟩ = pure (((fnB 13 8).1.args.map (·.arg)).zip [v0, v1]) := by intros; kernel_rfl
theorem f323 : FnFact (cfg w so) gl0 ⟨323, 2, [], 8, bd323⟩ :=
  ⟨⟨323, n41, n89, (fnB 13 8).1, (fnB 13 8).2.1, (fnB 13 8).2.2, Value.none, Value.none, Value.none, (Value.str n4 236), Option.none, (.ref 322), Value.none, (Value.type PySem.W.SL.s7174869446012820540x8), Option.none, Array.mk [], by kernel_rfl, (kat 323 (o199 w.params) ⟨by kernel_rfl, by kernel_rfl⟩), by kernel_rfl, by kernel_rfl, rfl, by kernel_rfl,
    (fun vs h s => match vs, h with | [v0, v1], _ => BindsTo.of_eq (b323 v0 v1)), ndp (by kernel_rfl), by kernel_rfl, ncl (by kernel_rfl)⟩⟩
theorem tfn : AllFn (cfg w so) gl0 P0.fns := ⟨f437 w so, ⟨f430 w so, ⟨f412 w so, ⟨f286 w so, ⟨f309 w so, ⟨f316 w so, ⟨f323 w so, trivial⟩⟩⟩⟩⟩⟩⟩
theorem i414 : InstFact (cfg w so) 414 121 := ⟨⟨414, 121, 413, _, by kernel_rfl, by kernel_rfl, (kat 414 (o261 w.params) ⟨by kernel_rfl, by kernel_rfl⟩), kat 413 (dictOf [] 0) ⟨by kernel_rfl, by kernel_rfl⟩⟩⟩
theorem i416 : InstFact (cfg w so) 416 198 := ⟨⟨416, 198, 415, _, by kernel_rfl, by kernel_rfl, (kat 416 (o262 w.params) ⟨by kernel_rfl, by kernel_rfl⟩), kat 415 (dictOf [] 0) ⟨by kernel_rfl, by kernel_rfl⟩⟩⟩
theorem i418 : InstFact (cfg w so) 418 275 := ⟨⟨418, 275, 417, _, by kernel_rfl, by kernel_rfl, (kat 418 (o263 w.params) ⟨by kernel_rfl, by kernel_rfl⟩), kat 417 (dictOf [] 0) ⟨by kernel_rfl, by kernel_rfl⟩⟩⟩
theorem i420 : InstFact (cfg w so) 420 361 := ⟨⟨420, 361, 419, _, by kernel_rfl, by kernel_rfl, (kat 420 (o264 w.params) ⟨by kernel_rfl, by kernel_rfl⟩), kat 419 (dictOf [] 0) ⟨by kernel_rfl, by kernel_rfl⟩⟩⟩
theorem i422 : InstFact (cfg w so) 422 403 := ⟨⟨422, 403, 421, _, by kernel_rfl, by kernel_rfl, (kat 422 (o265 w.params) ⟨by kernel_rfl, by kernel_rfl⟩), kat 421 (dictOf [] 0) ⟨by kernel_rfl, by kernel_rfl⟩⟩⟩
theorem tin : AllInst (cfg w so) P0.insts := ⟨i414 w so, ⟨i416 w so, ⟨i418 w so, ⟨i420 w so, ⟨i422 w so, trivial⟩⟩⟩⟩⟩
theorem a121x1851878757 : AttrFact (cfg w so) 121 1851878757 (Val.str [121, 101, 115]) :=
  ⟨⟨121, n32, (Value.str n33 250), by kernel_rfl, by kernel_rfl, by kernel_rfl, by kernel_rfl, by kernel_rfl, by kernel_rfl, (fun _ _ => VRel.str [121, 101, 115] _ (sok (by decide))), (fun h => (fno (by kernel_rfl) h).elim), (fun _ => ⟨by kernel_rfl, by kernel_rfl, by kernel_rfl⟩)⟩⟩
theorem a198x1851878757 : AttrFact (cfg w so) 198 1851878757 (Val.str [108, 101, 97, 115, 116]) :=
  ⟨⟨198, n32, (Value.str n62 354), by kernel_rfl, by kernel_rfl, by kernel_rfl, by kernel_rfl, by kernel_rfl, by kernel_rfl, (fun _ _ => VRel.str [108, 101, 97, 115, 116] _ (sok (by decide))), (fun h => (fno (by kernel_rfl) h).elim), (fun _ => ⟨by kernel_rfl, by kernel_rfl, by kernel_rfl⟩)⟩⟩
theorem a275x1851878757 : AttrFact (cfg w so) 275 1851878757 (Val.str [99, 111, 117, 110, 116]) :=
  ⟨⟨275, n32, (Value.str n74 457), by kernel_rfl, by kernel_rfl, by kernel_rfl, by kernel_rfl, by kernel_rfl, by kernel_rfl, (fun _ _ => VRel.str [99, 111, 117, 110, 116] _ (sok (by decide))), (fun h => (fno (by kernel_rfl) h).elim), (fun _ => ⟨by kernel_rfl, by kernel_rfl, by kernel_rfl⟩)⟩⟩
theorem a361x1851878757 : AttrFact (cfg w so) 361 1851878757 (Val.str [99, 104, 97, 110, 99, 101]) :=
  ⟨⟨361, n32, (Value.str n85 569), by kernel_rfl, by kernel_rfl, by kernel_rfl, by kernel_rfl, by kernel_rfl, by kernel_rfl, (fun _ _ => VRel.str [99, 104, 97, 110, 99, 101] _ (sok (by decide))), (fun h => (fno (by kernel_rfl) h).elim), (fun _ => ⟨by kernel_rfl, by kernel_rfl, by kernel_rfl⟩)⟩⟩
theorem a361x7302757 : AttrFact (cfg w so) 361 7302757 (Val.tup [(Val.int 1), (Val.int 1)]) :=
  ⟨⟨361, n37, (.ref 295), by kernel_rfl, by kernel_rfl, by kernel_rfl, by kernel_rfl, by kernel_rfl, by kernel_rfl, (fun _ _ => VRel.tup (Or.inr (kat 295 (o183 w.params) ⟨by kernel_rfl, by kernel_rfl⟩)) rfl (vs := [(Value.int 1 576), (Value.int 1 577)]) rfl (VRels.cons ((fun _ _ => VRel.int _ _) _ _) (VRels.cons ((fun _ _ => VRel.int _ _) _ _) VRels.nil)) (by decide)), (fun h => (fno (by kernel_rfl) h).elim), (fun _ => ⟨by kernel_rfl, by kernel_rfl, by kernel_rfl⟩)⟩⟩
theorem a361x1886156147 : AttrFact (cfg w so) 361 1886156147 (Val.top 309) :=
  ⟨⟨361, n39, (.ref 309), by kernel_rfl, by kernel_rfl, by kernel_rfl, by kernel_rfl, by kernel_rfl, by kernel_rfl, (fun _ _ => VRel.top (by kernel_rfl)), (fun _ => by kernel_rfl), (fun h => (fno h (by kernel_rfl)).elim)⟩⟩
theorem a361x499984983411 : AttrFact (cfg w so) 361 499984983411 (Val.top 316) :=
  ⟨⟨361, n40, (.ref 316), by kernel_rfl, by kernel_rfl, by kernel_rfl, by kernel_rfl, by kernel_rfl, by kernel_rfl, (fun _ _ => VRel.top (by kernel_rfl)), (fun _ => by kernel_rfl), (fun h => (fno h (by kernel_rfl)).elim)⟩⟩
theorem a361x1937006962 : AttrFact (cfg w so) 361 1937006962 (Val.top 323) :=
  ⟨⟨361, n41, (.ref 323), by kernel_rfl, by kernel_rfl, by kernel_rfl, by kernel_rfl, by kernel_rfl, by kernel_rfl, (fun _ _ => VRel.top (by kernel_rfl)), (fun _ => by kernel_rfl), (fun h => (fno h (by kernel_rfl)).elim)⟩⟩
theorem a403x1851878757 : AttrFact (cfg w so) 403 1851878757 (Val.str [108, 105, 107, 101, 108, 121]) :=
  ⟨⟨403, n32, (Value.str n100 678), by kernel_rfl, by kernel_rfl, by kernel_rfl, by kernel_rfl, by kernel_rfl, by kernel_rfl, (fun _ _ => VRel.str [108, 105, 107, 101, 108, 121] _ (sok (by decide))), (fun h => (fno (by kernel_rfl) h).elim), (fun _ => ⟨by kernel_rfl, by kernel_rfl, by kernel_rfl⟩)⟩⟩
theorem tcl : AllCls (cfg w so) P0.cls := ⟨⟨a121x1851878757 w so, trivial⟩, ⟨⟨a198x1851878757 w so, trivial⟩, ⟨⟨a275x1851878757 w so, trivial⟩, ⟨⟨a361x1851878757 w so, ⟨a361x7302757 w so, ⟨a361x1886156147 w so, ⟨a361x499984983411 w so, ⟨a361x1937006962 w so, trivial⟩⟩⟩⟩⟩, ⟨⟨a403x1851878757 w so, trivial⟩, trivial⟩⟩⟩⟩⟩
theorem tab : TabOk (cfg w so) gl0 := TabOk.of (tgl w so) (tfn w so) (tin w so) (tcl w so)
end
abbrev lawAt : Nat := 437
theorem law_nm (w : World) : nsIn (KK w.params) mainGlobals (PySem.Str.mk (Array.mk [108, 97, 119])) = some (some (.ref 437)) := by kernel_rfl
end Hd
namespace Hd
open Mi
def st1 : Sm := (Sm.ite (Ex.cmp COp.lt (Ex.call (Ex.lit (Val.bi 7103854)) [(Ex.var 0)]) (Ex.lit (Val.int 2))) [(Sm.ret (some (Ex.lit (Val.bool true))))] [])
def st2 : Sm := (Sm.asg (T1.nm 1) (Ex.call (Ex.lit (Val.top 430)) [(Ex.lit (Val.str [99, 104, 97, 110, 99, 101]))]))
def st3 : Sm := (Sm.asg (T1.nm 2) (Ex.bin BOp.add (Ex.lit (Val.int 2)) (Ex.bin BOp.mod (Ex.sub (Ex.var 0) (Ex.lit (Val.int 0))) (Ex.lit (Val.int 30)))))
def st4 : Sm := (Sm.asg (T1.nm 3) (Ex.call (Ex.lit (Val.top 412)) [(Ex.bin BOp.mod (Ex.sub (Ex.var 0) (Ex.lit (Val.int 1))) (Ex.var 2)), (Ex.var 2)]))
def st5 : Sm := (Sm.asg (T1.nm 4) (Ex.meth (Ex.var 1) 1937006962 [(Ex.var 3)]))
def st6 : Sm := (Sm.ret (some (Ex.cmp COp.eq (Ex.meth (Ex.var 1) 1886156147 [(Ex.attr (Ex.var 1) 7302757), (Ex.meth (Ex.var 1) 499984983411 [(Ex.var 3), (Ex.var 4)])]) (Ex.var 4))))
theorem bd_law : bd437 = [st1, st2, st3, st4, st5, st6] := rfl
def cx0 : Cx := ⟨P0, fuel0, callN P0 fuel0 60⟩
def fr0 (L : List Val) : Mi.Frame := [some (Val.fl L)] ++ List.replicate (11 - 1) Option.none
def fr2 (L : List Val) (d : Int) : Mi.Frame := ((fr0 L).set 1 (some (Val.top 420))).set 2 (some (Val.int d))
def rest (n d : Int) (L : List Val) : Option (Fl × Mi.Frame × MH) := match callN P0 fuel0 60 412 [Val.int n, Val.int d] [] with
  | some (v, h) => execs cx0 [st5, st6] ((fr2 L d).set 3 (some v)) h
  | none => none
def okB (n d : Int) (L : List Val) : Bool := match rest n d L with
  | some (Fl.rt (Val.bool true), _, _) => true
  | _ => false
theorem okB_of {n d : Int} {L : List Val} (h : okB n d L = true) : ∃ fr' H', rest n d L = some (Fl.rt (Val.bool true), fr', H') := by
  unfold okB at h
  split at h
  · rename_i fr' H' e
    exact ⟨fr', H', e⟩
  · cases h
theorem ok0 : (fun L => (List.range 2).all fun y => okB (Int.ofNat y) (Int.ofNat 2) L) = fun _ => true := by kernel_rfl
theorem ok1 : (fun L => (List.range 3).all fun y => okB (Int.ofNat y) (Int.ofNat 3) L) = fun _ => true := by kernel_rfl
theorem ok2 : (fun L => (List.range 4).all fun y => okB (Int.ofNat y) (Int.ofNat 4) L) = fun _ => true := by kernel_rfl
theorem ok3 : (fun L => (List.range 5).all fun y => okB (Int.ofNat y) (Int.ofNat 5) L) = fun _ => true := by kernel_rfl
theorem ok4 : (fun L => (List.range 6).all fun y => okB (Int.ofNat y) (Int.ofNat 6) L) = fun _ => true := by kernel_rfl
theorem ok5 : (fun L => (List.range 7).all fun y => okB (Int.ofNat y) (Int.ofNat 7) L) = fun _ => true := by kernel_rfl
theorem ok6 : (fun L => (List.range 8).all fun y => okB (Int.ofNat y) (Int.ofNat 8) L) = fun _ => true := by kernel_rfl
theorem ok7 : (fun L => (List.range 9).all fun y => okB (Int.ofNat y) (Int.ofNat 9) L) = fun _ => true := by kernel_rfl
theorem ok8 : (fun L => (List.range 10).all fun y => okB (Int.ofNat y) (Int.ofNat 10) L) = fun _ => true := by kernel_rfl
theorem ok9 : (fun L => (List.range 11).all fun y => okB (Int.ofNat y) (Int.ofNat 11) L) = fun _ => true := by kernel_rfl
theorem ok10 : (fun L => (List.range 12).all fun y => okB (Int.ofNat y) (Int.ofNat 12) L) = fun _ => true := by kernel_rfl
theorem ok11 : (fun L => (List.range 13).all fun y => okB (Int.ofNat y) (Int.ofNat 13) L) = fun _ => true := by kernel_rfl
theorem ok12 : (fun L => (List.range 14).all fun y => okB (Int.ofNat y) (Int.ofNat 14) L) = fun _ => true := by kernel_rfl
theorem ok13 : (fun L => (List.range 15).all fun y => okB (Int.ofNat y) (Int.ofNat 15) L) = fun _ => true := by kernel_rfl
theorem ok14 : (fun L => (List.range 16).all fun y => okB (Int.ofNat y) (Int.ofNat 16) L) = fun _ => true := by kernel_rfl
theorem ok15 : (fun L => (List.range 17).all fun y => okB (Int.ofNat y) (Int.ofNat 17) L) = fun _ => true := by kernel_rfl
theorem ok16 : (fun L => (List.range 18).all fun y => okB (Int.ofNat y) (Int.ofNat 18) L) = fun _ => true := by kernel_rfl
theorem ok17 : (fun L => (List.range 19).all fun y => okB (Int.ofNat y) (Int.ofNat 19) L) = fun _ => true := by kernel_rfl
theorem ok18 : (fun L => (List.range 20).all fun y => okB (Int.ofNat y) (Int.ofNat 20) L) = fun _ => true := by kernel_rfl
theorem ok19 : (fun L => (List.range 21).all fun y => okB (Int.ofNat y) (Int.ofNat 21) L) = fun _ => true := by kernel_rfl
theorem ok20 : (fun L => (List.range 22).all fun y => okB (Int.ofNat y) (Int.ofNat 22) L) = fun _ => true := by kernel_rfl
theorem ok21 : (fun L => (List.range 23).all fun y => okB (Int.ofNat y) (Int.ofNat 23) L) = fun _ => true := by kernel_rfl
theorem ok22 : (fun L => (List.range 24).all fun y => okB (Int.ofNat y) (Int.ofNat 24) L) = fun _ => true := by kernel_rfl
theorem ok23 : (fun L => (List.range 25).all fun y => okB (Int.ofNat y) (Int.ofNat 25) L) = fun _ => true := by kernel_rfl
theorem ok24 : (fun L => (List.range 26).all fun y => okB (Int.ofNat y) (Int.ofNat 26) L) = fun _ => true := by kernel_rfl
theorem ok25 : (fun L => (List.range 27).all fun y => okB (Int.ofNat y) (Int.ofNat 27) L) = fun _ => true := by kernel_rfl
theorem ok26 : (fun L => (List.range 28).all fun y => okB (Int.ofNat y) (Int.ofNat 28) L) = fun _ => true := by kernel_rfl
theorem ok27 : (fun L => (List.range 29).all fun y => okB (Int.ofNat y) (Int.ofNat 29) L) = fun _ => true := by kernel_rfl
theorem ok28 : (fun L => (List.range 30).all fun y => okB (Int.ofNat y) (Int.ofNat 30) L) = fun _ => true := by kernel_rfl
theorem ok29 : (fun L => (List.range 31).all fun y => okB (Int.ofNat y) (Int.ofNat 31) L) = fun _ => true := by kernel_rfl
theorem okAll : ∀ x, x < 30 → ∀ L, ((List.range (x + 2)).all fun y => okB (Int.ofNat y) (Int.ofNat (x + 2)) L) = true
  | 0, _, L => congrFun ok0 L
  | 1, _, L => congrFun ok1 L
  | 2, _, L => congrFun ok2 L
  | 3, _, L => congrFun ok3 L
  | 4, _, L => congrFun ok4 L
  | 5, _, L => congrFun ok5 L
  | 6, _, L => congrFun ok6 L
  | 7, _, L => congrFun ok7 L
  | 8, _, L => congrFun ok8 L
  | 9, _, L => congrFun ok9 L
  | 10, _, L => congrFun ok10 L
  | 11, _, L => congrFun ok11 L
  | 12, _, L => congrFun ok12 L
  | 13, _, L => congrFun ok13 L
  | 14, _, L => congrFun ok14 L
  | 15, _, L => congrFun ok15 L
  | 16, _, L => congrFun ok16 L
  | 17, _, L => congrFun ok17 L
  | 18, _, L => congrFun ok18 L
  | 19, _, L => congrFun ok19 L
  | 20, _, L => congrFun ok20 L
  | 21, _, L => congrFun ok21 L
  | 22, _, L => congrFun ok22 L
  | 23, _, L => congrFun ok23 L
  | 24, _, L => congrFun ok24 L
  | 25, _, L => congrFun ok25 L
  | 26, _, L => congrFun ok26 L
  | 27, _, L => congrFun ok27 L
  | 28, _, L => congrFun ok28 L
  | 29, _, L => congrFun ok29 L
  | n + 30, h, _ => absurd h (by omega)
theorem run_all (ns : List Int) : ∃ H', callN P0 fuel0 61 lawAt [Val.fl (ns.map Val.int)] [] = some (Val.bool true, H') := by
  match ns with
  | [] => exact ⟨[], by kernel_rfl⟩
  | [a] => exact ⟨[], by kernel_rfl⟩
  | a :: b :: r =>
    generalize hL : List.map Val.int (a :: b :: r) = L
    have hlen : L.length = r.length + 2 := by rw [← hL]; simp
    have h0 : L[0]? = some (Val.int a) := by rw [← hL]; rfl
    have h1 : L[1]? = some (Val.int b) := by rw [← hL]; rfl
    obtain ⟨x, hx, ex⟩ : ∃ x : Nat, x < 30 ∧ Int.fmod a 30 = Int.ofNat x := by
      have g1 := Int.fmod_nonneg_of_pos a (b := 30) (by decide)
      have g2 := Int.fmod_lt_of_pos a (b := 30) (by decide)
      exact ⟨(Int.fmod a 30).toNat, by omega, by show _ = ((Int.fmod a 30).toNat : Int); omega⟩
    have hd : (2 : Int) + Int.fmod a 30 = Int.ofNat (x + 2) := by rw [ex]; show (2 : Int) + (x : Int) = ((x + 2 : Nat) : Int); omega
    obtain ⟨y, hy, ey⟩ : ∃ y : Nat, y < x + 2 ∧ Int.fmod b (Int.ofNat (x + 2)) = Int.ofNat y := by
      have hp : (0 : Int) < Int.ofNat (x + 2) := by show (0 : Int) < ((x + 2 : Nat) : Int); omega
      have g1 := Int.fmod_nonneg_of_pos b hp
      have g2 := Int.fmod_lt_of_pos b hp
      have e : Int.ofNat (x + 2) = ((x + 2 : Nat) : Int) := rfl
      exact ⟨(Int.fmod b (Int.ofNat (x + 2))).toNat, by omega, by show _ = ((Int.fmod b (Int.ofNat (x + 2))).toNat : Int); omega⟩
    have hok := okAll x hx L
    rw [List.all_eq_true] at hok
    obtain ⟨fr', H', hr⟩ := okB_of (hok y (List.mem_range.mpr hy))
    have e1 : exec cx0 st1 (fr0 L) [] = some (Fl.nx, fr0 L, []) := by
      have hn : ¬ ((r.length : Int) + 2 < 2) := by omega
      simp [Mi.exec, Mi.execs, Mi.eval, Mi.evals, callV, biLen, lenV, cmpop, Mi.truthy, st1, fr0, hlen, hn]
    have e2 : exec cx0 st2 (fr0 L) [] = some (Fl.nx, (fr0 L).set 1 (some (Val.top 420)), []) := congrFun (show (fun L => exec cx0 st2 (fr0 L) []) = fun L => some (Fl.nx, (fr0 L).set 1 (some (Val.top 420)), []) by kernel_rfl) L
    have e3 : exec cx0 st3 ((fr0 L).set 1 (some (Val.top 420))) [] = some (Fl.nx, fr2 L (Int.ofNat (x + 2)), []) := by
      simp only [st3, Mi.exec, Mi.eval, fr2, fr0, List.replicate, List.set, List.getElem?_cons_zero, List.getElem?_cons_succ, List.append, List.cons_append, List.nil_append, subscr, idx, hlen]
      rw [if_pos (by constructor <;> omega)]
      simp only [Option.bind_some, show (0 : Int).toNat = 0 from rfl, h0, binop, arith, if_neg (show ¬ (30 : Int) = 0 by decide), Option.map_some, addOp, hd, store, List.set]
    have ea : evals cx0 (fr2 L (Int.ofNat (x + 2))) [Ex.bin BOp.mod (Ex.sub (Ex.var 0) (Ex.lit (Val.int 1))) (Ex.var 2), Ex.var 2] [] = some ([Val.int (Int.ofNat y), Val.int (Int.ofNat (x + 2))], []) := by
      have hn : (1 : Int) < (r.length : Int) + 2 := by omega
      have hz : ¬ Int.ofNat (x + 2) = 0 := by show ¬ ((x + 2 : Nat) : Int) = 0; omega
      simp only [Mi.evals, Mi.eval, fr2, fr0, List.replicate, List.set, List.getElem?_cons_zero, List.getElem?_cons_succ, List.append, List.cons_append, List.nil_append, subscr, idx, hlen]
      rw [if_pos (by constructor <;> omega)]
      simp only [Option.bind_some, show (1 : Int).toNat = 1 from rfl, h1, binop, arith, if_neg hz, Option.map_some, ey]
    have e4 : execs cx0 [st4, st5, st6] (fr2 L (Int.ofNat (x + 2))) [] = rest (Int.ofNat y) (Int.ofNat (x + 2)) L := by
      rw [Mi.execs, show st4 = Sm.asg (T1.nm 3) (Ex.call (Ex.lit (Val.top 412)) [Ex.bin BOp.mod (Ex.sub (Ex.var 0) (Ex.lit (Val.int 1))) (Ex.var 2), Ex.var 2]) from rfl]
      rw [Mi.exec, Mi.eval, Mi.eval]
      dsimp only
      rw [ea]
      dsimp only [callV, cx0]
      unfold rest
      cases callN P0 fuel0 60 412 [Val.int (Int.ofNat y), Val.int (Int.ofNat (x + 2))] [] with
      | none => rfl
      | some p => rfl
    have hf : P0.fnAt lawAt = some ⟨437, 1, [], 11, bd437⟩ := by kernel_rfl
    refine ⟨H', ?_⟩
    rw [show (61 : Nat) = 60 + 1 from rfl, callN, hf]
    dsimp only
    rw [show argsOf ⟨437, 1, [], 11, bd437⟩ [Val.fl L] = some [Val.fl L] from rfl]
    dsimp only
    rw [bd_law]
    have e : execs cx0 [st1, st2, st3, st4, st5, st6] (fr0 L) [] = some (Fl.rt (Val.bool true), fr', H') := by
      rw [Mi.execs, e1]; dsimp only
      rw [Mi.execs, e2]; dsimp only
      rw [Mi.execs, e3]; dsimp only
      rw [e4, hr]
    have e' : execs ⟨P0, fuel0, callN P0 fuel0 60⟩ [st1, st2, st3, st4, st5, st6] (List.map some [Val.fl L] ++ List.replicate (11 - 1) Option.none) [] = some (Fl.rt (Val.bool true), fr', H') := e
    rw [e']
end Hd
namespace Hd
open Mi
theorem ints_rel {C : Cfg} {tp : Led} {σ : List Addr} : ∀ {vs : List Value} {ns : List Int}, IntsAre vs ns → VRels C tp σ (ns.map Val.int) vs := by
  intro vs ns h
  induction h with
  | nil => exact .nil
  | cons n t _ ih => exact .cons (.int n t) ih
theorem fin_law {p : Program} {loose : List PySem.Str} {mean : ExcName → Option Value} {w : World} {s₀ s₁ : Shared} {mg mb : PySem.Str → Option Value} {fa a : Addr} {vs : List Value} {ns : List Int} {R : WRecords} {as : List Addr} (KX : Frag.In (KK w.params) s₁.heap) (ZN : s₀.heap.objs.size = nat_lit 438)
    (T : Top p loose mean mg mb s₁.heap) (hmg : mg (PySem.Str.ofString "law") = some (.ref fa)) (L : Laid R w s₀ s₁ [ofPy (PyData.list (List.map PyData.int ns))] [.ref a] as) (hL : s₁.heap.IsList a vs.toArray) (hI : IntsAre vs ns) (hlen : ¬ ((63 : Int) < (ns.length : Int))) (hg : s₁.gens = #[]) :
    wpAny (model pw w) callerA (call (.ref fa) [.ref a]) (fun v s' => GoodWG PySem.Challenge.rw_ui0508_03.row.claim (classAt s₀.heap) (ExcName.means s₀.heap) [ofPy (PyData.list (List.map PyData.int ns))] s₁ (.ok (.ret v)) s')
      (fun e s' => GoodWG PySem.Challenge.rw_ui0508_03.row.claim (classAt s₀.heap) (ExcName.means s₀.heap) [ofPy (PyData.list (List.map PyData.int ns))] s₁ (.error e) s') s₁ := by
  obtain ⟨hat, hsz⟩ := script_at L
  rw [ZN] at hat hsz
  subst hat
  obtain ⟨so, h1, h2, n, h3⟩ := hL
  have e := mg_of KX T.g (law_nm w)
  have e' : mg (PySem.Str.ofString "law") = some (.ref lawAt) := e
  rw [hmg] at e'
  cases e'
  have X : (cfg w so).K.In s₁.heap := by
    intro b o hb
    have hb' : List.lookup b ((size0, so) :: KK w.params) = some o := hb
    rw [List.lookup_cons] at hb'
    split at hb'
    · rename_i q
      rw [beq_iff_eq] at q
      cases hb'; subst q; exact h1
    · exact KX b o hb'
  have hv : VRel (cfg w so) [] [] (Val.fl (ns.map Val.int)) (.ref size0) := by
    refine VRel.fl (o := so) (n := n) (vs := vs) ?_ h2 h3 (ints_rel hI) ?_
    · show List.lookup size0 ((size0, so) :: KK w.params) = some so
      rw [List.lookup_cons, beq_self_eq_true]
    · rw [List.length_map]
      have : lim = 1000000 := rfl
      omega
  obtain ⟨H', hr⟩ := run_all ns
  refine law_runs (C := cfg w so) (tab w so) X T (by rw [hsz]; decide) (f := lawAt) (by kernel_rfl) hv hr fun tp σ v s' r hk hgs hos => ?_
  cases r
  exact GoodW.toG ⟨.inl ⟨.bool true, .bool true, [], rfl, fun _ => rfl, .bool true, by first | kernel_rfl | wrow_post, unshared_nil⟩, hk, hos, hgs.trans hg⟩
end Hd
set_option maxHeartbeats 0 in
theorem PySem.Challenge.cw_ui0508_03_holds : PySem.Challenge.rw_ui0508_03.Holds := by
  w_on
  o_law
  refine holds_openX Hd.left0 (XP := XL (Hd.qOf Hd.pw) []) (fun s e => xl_of s (Bool.and_eq_true_iff.mp e).1) XL.keeps (by rfl) (by rfl) (by rfl) (fun s e => recFacts_of (Bool.and_eq_true_iff.mp e).2) (by rfl) (by assumption) (by decide +kernel) ⟨rfl, rfl, rfl, rfl, rfl, by decide +kernel⟩ ?hw ?hc
  case hw => w_witness2
  rename_i said
  clear said
  intro w s₀ s₁ mg mb G y fa o pm cd doc dV kV ho hd hcd hD hmg hg args vals as L hpre hlay hrd hwl hlo
  have hf := Hd.facts1 y L.keeps
  clear y
  obtain ⟨KX, ZN, ZT⟩ := hf
  refine Ground.open G ?_
  intro T B D TE TW
  wrow_args hpre hlay hrd hwl hlo
  exact Hd.fin_law KX ZN T hmg L (by assumption) (by assumption) (by assumption) hg
