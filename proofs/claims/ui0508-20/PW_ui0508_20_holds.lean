import PyProof.Rows.All
import Wide.All
import OpenK.AllK
import Wide.FinOn
import PySem.Claim
import PySem.PyData
import PyProof.P3Statements
import PyProof.StrBlockL
import PyProof.Rows.StrNews2
import OpenK.KCell
import OpenK.KMeth
import PyProof.P3Eq
import PyProof.P3In
import PyProof.EqKinds
import PyProof.TupleKey
import PyProof.SetKind
import PyProof.Rows.RotEnd
import PyProof.Rows.ListMul
import PyProof.IsRules
import PyProof.Rows.TupDisplay
import PyProof.Rows.DictRows
import PyProof.DictStraight
import PyProof.DictIter
import KE.KEqDict
import PyProof.EnumMake
import PyProof.WalksMore
import PyProof.StrWalks
import PyProof.CompFree
import PyProof.Rows.StrNews
import PyProof.Rows.SeqSlice
import PyProof.SliceMore
import PyProof.Rows.StrTemp
import PyProof.StrLawsIdx
import PyProof.Rows.SetFrom
import PyProof.MaxThree
import PyProof.TypeOfCall
import PyProof.CallType
import PyProof.Rows.GenSrcRange
import OpenK.KRaise
import KE.KSorted
import KE.KDictOf
import KE.KIntText
import KE.KxPart
import KE.KPop
import PyProof.StrLawsAffix
import PyProof.SetRoads
import KE.KUnpack
import KE.KPar
import KE.KSort
import KE.KDictSum
import KE.KSortAsk
import PyProof.Rows.SortStr
import PySem.Challenge.RW_ui0508_20
set_option Elab.async false
set_option linter.all false
set_option autoImplicit false
set_option maxHeartbeats 8000000
set_option maxRecDepth 100000
set_option genInjectivity false
set_option genSizeOfSpec false
set_option genSizeOf false
open Bool renaming and_eq_true_iff->Qa,eq_iff_iff->QL,and_eq_true->QX,false_ne_true->QZ,false_eq_true->Ji,or_eq_true_iff->Jp,not_eq_true'->JT,or_eq_true->JY,not_true->Z6,and_true->Z7,noConfusion->Km,false_and->Kv,true_and->KA
open PySem.Value renaming type->Qb,builtin->Qd,none->QN,str->QW,isInt_shape->Q5,isStrOf_shape->Jd,ref->JL,bool->ZP,int->ZX,casesOn->Z8,isInt->KH
open Option renaming casesOn->Qc,some->Qf,none->Qv,isSome_iff_exists->QK,isNone_iff_eq_none->Q4,isSome_map->J3,bind_eq_some_iff->Zy,bind_some->ZH,map_eq_some_iff->ZI,map_none->ZQ,map->Ku,elim->KI
open Nat renaming le_trans->Qe,ble->Qg,lt_of_lt_of_le->Qn,le_refl->Qo,succ->Qp,beq->Qq,ble_eq->Qr,zero_le->QO,le_of_eq->QP,lt_succ_self->QS,lt_of_le_of_lt->QU,le_add_left->QV,le_add_right->Jh,exists_eq_add_of_le'->Jj,lt_add_of_pos_right->Jl,le_of_lt_succ->Jm,add_le_add_left->Jo,le_of_lt->Jq,le_of_not_lt->Jt,zero_add->JA,ne_of_lt->JG,lt_of_succ_lt_succ->JI,le_antisymm->JJ,lt_irrefl->JN,add_le_add_right->JU,succ_pos->JV,le_of_succ_le_succ->J5,succ_le_succ->J7,min_eq_right->J9,min_le_left->Zd,min_eq_left->Zg,ne_of_gt->Zk,add_le_add->Zo,lt_or_eq_of_le->Zq,le_succ->Zu,lt_succ_of_lt->Zv,lt_succ_of_le->Zw,min_le_right->ZC,not_lt->ZJ,sub_self->ZM,le_of_sub_eq_zero->ZR,ble_eq_true_of_le->ZS,add_lt_add_left->Z2,add_assoc->Z5,sub_add_cancel->Kb,add_right_comm->Kc,le_succ_of_le->Kg,sub_pos_of_lt->Kh,lt_trans->Kj,log2_lt->Ko,le_zero->Kq,cast->Kw,sub_le->Kx,sub_zero->KD,mul_succ->KF,add_comm->KG,not_le->KL
open List renaming getElem?_eq_getElem->Qh,mem_append_right->Qi,rec->Qj,getElem?_eq_some_iff->Qk,mem_singleton->Ql,replicate->Qm,prefix_append->Qs,getElem?_concat_length->Qt,nodup_cons->Qu,size_toArray->Qw,mem_cons->Qy,length_map->Qz,range'->QA,not_mem_nil->QB,mem_map->QC,all_eq_true->QD,lookup_cons->QE,map_append->QF,length_append->QG,map_cons->QJ,getElem?_toArray->QM,length_eq_zero_iff->QR,mem_append_left->QT,getElem?_append_left->Q0,getElem?_eq_none_iff->Q1,cons->Q6,contains_iff_mem->Q7,mem_of_getElem?->Q8,perm_append_comm_assoc->Q9,casesOn->Ja,append_assoc->Jb,getElem?_map->Jc,map_eq_nil_iff->Je,mem_append->Jf,find?_cons->Jg,mapM_cons->Jk,append_nil->Jn,drop_eq_nil_of_le->Js,getElem?_append_right->Ju,concat_eq_append->Jv,mem_of_find?_eq_some->Jx,reverse_cons->JB,filterMap_cons->JC,prefix_refl->JD,length_cons->JF,find?_some->JK,drop_nil->JM,eq_nil_or_concat->JP,getElem?_eq_none->JQ,flatten_cons->JR,replicate_succ->JW,length_reverse->JX,zip_cons_cons->JZ,nodup_append->J2,map->J4,range'_succ->J8,isEmpty_iff->Za,take_length->Zb,getElem?_set_ne->Zc,forIn_cons->Ze,length_nil->Zf,foldl_cons->Zh,drop_eq_getElem_cons->Zr,length_range->Zt,perm_middle->Zz,getElem_mem->ZA,length_drop->ZD,length_take->ZE,range->ZK,getElem?_set_self->ZO,length_filter_le->ZU,length->ZV,lookup->ZW,drop->ZY,flatten_append->ZZ,append_toArray->Z0,map_congr_left->Z3,mergeSort_perm->Z4,findIdx?_cons->Kd,filter_append->Ke,any_eq_true->Kl,length_set->Kr,of_mem_zip->Ks,findIdx?->KB
open Array renaming mk->Qx,isEmpty_iff->Zx,empty_append->Ka
open Int renaming natCast_nonneg->QH,ofNat_le->Jr,le_trans->Jy,toNat_natCast->Jz,ofNat_lt->J6,fmod->Zm,not_lt->Zn,not_le->Zp,natAbs_eq_zero->Z9,lt_trans->Ki,ofNat->KC
open PySem.W.SharedT renaming mk->QI,abs->KJ
open Exists renaming elim->QY
open PySem.F renaming slot_dict_get->Jw,entry_dict_get->JH,args_dict_get_2->ZF,args_dict_get_3->ZG
open PySem.Builtin.Range renaming rangeSize->JE
open PySem.Heap renaming get?_update_self->JO,lt_size->Zi
open PySem.Builtin.List renaming listSubscript?->JS
open PySem.PyData renaming int->J0,list->J1,eqv->Zl,eqv->Kn,keyHash->Ky,eqvAll->Kz
open PySem.Builtin.Str renaming strSliceIndices->Zj
open Decidable renaming byContradiction->Zs
open PySem.Data renaming casesOn->ZL
open PySem.Builtin.Int renaming intBits->Z1
open PySem.Str renaming ofString->Kf
open Eq renaming symm->Kt
open Ne renaming symm->KM
open Prod renaming ext->KN
open PySem.W.SL
section
open Lean in
local macro_rules (kind:=Lean.Parser.Command.declaration)
 |s=>match s.getHeadInfo with
  |.original .. =>pure (if s[0].getPos?.isNone&&(s[1].isOfKind `Lean.Parser.Command.definition||s[1].isOfKind `Lean.Parser.Command.abbrev) then s.setArg 0 (s[0].setArg 4 (mkNullNode #[.node .none `Lean.Parser.Command.noncomputable #[.atom .none "noncomputable"]])) else s.setHeadInfo .none)
  |_=>Macro.throwUnsupported
namespace Internal
open PySem
set_option genCtorIdx false in
inductive Val where
 |none
 |bool (b:Bool)
 |int (i:Int)
 |str (s:List Nat)
 |tup (vs:List Val)
 |ref (a:Nat)
 |top (a:Nat)
 |ty (n:Nat)
 |bi (n:Nat)
 |rng (n:Int)
 |fl (vs:List Val)
 |setn (n:Nat)
set_option genCtorIdx false in
inductive MObj where
 |list (vs:List Val)
 |dict (ep:Option Nat) (es:List (Val×Val))
 |inst (c:Nat) (fs:List (Nat×Val))
def Val.ctorIdx (x:Val):Nat:=Val.casesOn (motive_1:=λ_=>Nat) x 0 (λ_=>1) (λ_=>2) (λ_=>3) (λ_=>4) (λ_=>5) (λ_=>6) (λ_=>7) (λ_=>8) (λ_=>9) (λ_=>10) (λ_=>11)
def MObj.ctorIdx (x:MObj):Nat:=MObj.casesOn (motive:=λ_=>Nat) x (λ_=>0) (λ_ _=>1) (λ_ _=>2)
abbrev MH:=List MObj
abbrev Frame:=List (Option Val)
inductive BOp where
 |add|sub|mul|fdiv|mod|pow
inductive COp where
 |eq|ne|lt|le|gt|ge|isin|notin|is|isnot
set_option genCtorIdx false in
inductive Ex where
 |var (x:Nat)
 |lit (v:Val)
 |list (es:List Ex)
 |tup (es:List Ex)
 |dict (kvs:List Ex)
 |bin (op:BOp) (a b:Ex)
 |not (a:Ex)
 |cmp (op:COp) (a b:Ex)
 |bop (stop:Bool) (es:List Ex)
 |ite (c a b:Ex)
 |attr (e:Ex) (n:Nat)
 |sub (e i:Ex)
 |slice (e:Ex) (k:Nat) (bs:List Ex)
 |call (f:Ex) (as:List Ex)
 |meth (o:Ex) (n:Nat) (as:List Ex)
 |comp (elt:Ex) (tg:List Nat) (many:Bool) (it:Ex) (ifs:List Ex)
set_option genCtorIdx false in
inductive T1 where
 |nm (x:Nat)
 |at (o:Ex) (n:Nat)
 |sb (o i:Ex)
set_option genCtorIdx false in
inductive Sm where
 |expr (e:Ex)
 |asg (t:T1) (e:Ex)
 |asgs (ts:List T1) (e:Ex)
 |ret (e:Ex)
 |ite (c:Ex) (a b:List Sm)
 |wh (c:Ex) (b:List Sm)
 |fo (tg:List Nat) (many:Bool) (e:Ex) (b:List Sm)
 |brk|cont|pass
 |raise
 |rse (e:Ex)
 |tr (x:Nat) (e:Ex) (y:Nat) (v:Val)
set_option genCtorIdx false in
inductive Fl where
 |nx|bk|ct
 |rt (v:Val)
structure Fn where
 addr:Nat
 np:Nat
 dfl:List Val
 ns:Nat
 body:List Sm
structure Cl where
 addr:Nat
 attrs:List (Nat×Val)
 init:Option Nat
 flds:List Nat
structure Prg where
 fns:List Fn
 cls:List Cl
 insts:List (Nat×Nat)
def enc (x:Str):Nat:=x.cps.toList.foldl (λa c=>a*256+c) 0
def bnd {α β:Type} (o:Option (α×MH)) (f:α->MH->Option (β×MH)):Option (β×MH):=Qc (motive:=λ_=>Option (β×MH)) o none λp=>f p.1 p.2
def alt {α:Type} (a b:Option α):Option α:=Qc (motive:=λ_=>Option α) a b some
def grd {α:Type} (b:Bool) (o:Option α):Option α:=Bool.casesOn (motive:=λ_=>Option α) b none o
def Val.int? (x:Val):Option Int:=Val.casesOn (motive_1:=λ_=>Option Int) x .none (λ_=> .none) some (λ_=> .none) (λ_=> .none) (λ_=> .none) (λ_=> .none) (λ_=> .none) (λ_=> .none) (λ_=> .none) (λ_=> .none) (λ_=> .none)
def Val.str? (x:Val):Option (List Nat):=Val.casesOn (motive_1:=λ_=>Option (List Nat)) x .none (λ_=> .none) (λ_=> .none) some (λ_=> .none) (λ_=> .none) (λ_=> .none) (λ_=> .none) (λ_=> .none) (λ_=> .none) (λ_=> .none) (λ_=> .none)
def Val.tup? (x:Val):Option (List Val):=Val.casesOn (motive_1:=λ_=>Option (List Val)) x .none (λ_=> .none) (λ_=> .none) (λ_=> .none) some (λ_=> .none) (λ_=> .none) (λ_=> .none) (λ_=> .none) (λ_=> .none) (λ_=> .none) (λ_=> .none)
def Val.ref? (x:Val):Option Nat:=Val.casesOn (motive_1:=λ_=>Option Nat) x .none (λ_=> .none) (λ_=> .none) (λ_=> .none) (λ_=> .none) some (λ_=> .none) (λ_=> .none) (λ_=> .none) (λ_=> .none) (λ_=> .none) (λ_=> .none)
def Val.top? (x:Val):Option Nat:=Val.casesOn (motive_1:=λ_=>Option Nat) x .none (λ_=> .none) (λ_=> .none) (λ_=> .none) (λ_=> .none) (λ_=> .none) some (λ_=> .none) (λ_=> .none) (λ_=> .none) (λ_=> .none) (λ_=> .none)
def Val.ty? (x:Val):Option Nat:=Val.casesOn (motive_1:=λ_=>Option Nat) x .none (λ_=> .none) (λ_=> .none) (λ_=> .none) (λ_=> .none) (λ_=> .none) (λ_=> .none) some (λ_=> .none) (λ_=> .none) (λ_=> .none) (λ_=> .none)
def Val.bi? (x:Val):Option Nat:=Val.casesOn (motive_1:=λ_=>Option Nat) x .none (λ_=> .none) (λ_=> .none) (λ_=> .none) (λ_=> .none) (λ_=> .none) (λ_=> .none) (λ_=> .none) some (λ_=> .none) (λ_=> .none) (λ_=> .none)
def Val.fl? (x:Val):Option (List Val):=Val.casesOn (motive_1:=λ_=>Option (List Val)) x .none (λ_=> .none) (λ_=> .none) (λ_=> .none) (λ_=> .none) (λ_=> .none) (λ_=> .none) (λ_=> .none) (λ_=> .none) (λ_=> .none) some (λ_=> .none)
def Val.bool? (x:Val):Option Bool:=Val.casesOn (motive_1:=λ_=>Option Bool) x .none some (λ_=> .none) (λ_=> .none) (λ_=> .none) (λ_=> .none) (λ_=> .none) (λ_=> .none) (λ_=> .none) (λ_=> .none) (λ_=> .none) (λ_=> .none)
def Val.rng? (x:Val):Option Int:=Val.casesOn (motive_1:=λ_=>Option Int) x .none (λ_=> .none) (λ_=> .none) (λ_=> .none) (λ_=> .none) (λ_=> .none) (λ_=> .none) (λ_=> .none) (λ_=> .none) some (λ_=> .none) (λ_=> .none)
def Val.isNone (x:Val):Bool:=Val.casesOn (motive_1:=λ_=>Bool) x true (λ_=>false) (λ_=>false) (λ_=>false) (λ_=>false) (λ_=>false) (λ_=>false) (λ_=>false) (λ_=>false) (λ_=>false) (λ_=>false) (λ_=>false)
def MObj.list? (o:MObj):Option (List Val):=MObj.casesOn (motive:=λ_=>Option (List Val)) o some (λ_ _=>none) (λ_ _=>none)
def MObj.dict? (o:MObj):Option (Option Nat×List (Val×Val)):=MObj.casesOn (motive:=λ_=>Option (Option Nat×List (Val×Val))) o (λ_=>none) (λe es=>some (e,es)) (λ_ _=>none)
def MObj.inst? (o:MObj):Option (Nat×List (Nat×Val)):=MObj.casesOn (motive:=λ_=>Option (Nat×List (Nat×Val))) o (λ_=>none) (λ_ _=>none) (λc fs=>some (c,fs))
def aI (h:MH) (x:Val):Option (List Val):=x.ref?.bind λa=>h[a]?.bind MObj.list?
def dictAt (h:MH) (x:Val):Option (Option Nat×List (Val×Val)):=x.ref?.bind λa=>h[a]?.bind MObj.dict?
def instAt (h:MH) (x:Val):Option (Nat×List (Nat×Val)):=x.ref?.bind λa=>h[a]?.bind MObj.inst?
def a0 {α:Type} (as:List Val) (f:Option α):Option α:=Ja (motive:=λ_=>Option α) as f λ_ _=>none
def a1 {α:Type} (as:List Val) (f:Val->Option α):Option α:=Ja (motive:=λ_=>Option α) as none λv r=>a0 r (f v)
def a2 {α:Type} (as:List Val) (f:Val->Val->Option α):Option α:=Ja (motive:=λ_=>Option α) as none λv r=>a1 r (f v)
def a3 {α:Type} (as:List Val) (f:Val->Val->Val->Option α):Option α:=Ja (motive:=λ_=>Option α) as none λv r=>a2 r (f v)
def toD (h:MH):Nat->Val->Option PyData
 |_,.none=>some .none
 |_,.bool b=>some (.bool b)
 |_,.int i=>some (.int i)
 |_,.str s=>some (.str ⟨s.toArray⟩)
 |k+1,.tup vs=>(vs.mapM (toD h k)).map .tuple
 |k+1,.ref a=>(aI h (.ref a)).bind λvs=>(vs.mapM (toD h k)).map .list
 |_,_=>none
def lU (h:MH) (a b:Val):Option Bool:=(toD h 8 a).bind λx=>(toD h 8 b).map λy=>Zl x y
def kEq (a b:Val):Bool:=(lU [] a b).getD false
def bA (es:List (Val×Val)) (k:Val):Option Val:=(es.find? λp=>kEq p.1 k).map (·.2)
def cG (v:Val):Bool:=v.int?.isSome||v.str?.isSome
def aG (v:Val):Nat:=bif cG v then 1 else bif (v.tup?.map λvs=>vs.all cG).getD false then 3 else 0
def b8 (h:MH) (es2:List (Val×Val)):List (Val×Val) ->Option Bool
 | []=>some true
 |p::r=>Qc (motive:=λ_=>Option Bool) (bA es2 p.1) (some false) λy=>(lU h p.2 y).bind λe=>(b8 h es2 r).map λb=>e && b
def iX (es:List (Val×Val)):Option Nat:=es.head?.map λp=>aG p.1
def dJ (a b:List (Val×Val)):Bool:=a.isEmpty||b.isEmpty||iX a==iX b
def veq (h:MH) (a b:Val):Option Bool:=
 alt ((dictAt h a).bind λd1=>(dictAt h b).bind λd2=>grd (dJ d1.2 d2.2) (bif d1.2.length==d2.2.length then b8 h d2.2 d1.2 else some false)) (lU h a b)
def truthy (h:MH) (x:Val):Option Bool:=Val.casesOn (motive_1:=λ_=>Option Bool) x (some false) some (λi=>some (i !=0)) (λs=>some (!s.isEmpty)) (λvs=>some (!vs.isEmpty))
 (λa=>(aI h (.ref a)).map λvs=>!vs.isEmpty) (λ_=>none) (λ_=>none) (λ_=>none) (λ_=>none) (λ_=>none) (λ_=>none)
def aE (es:List (Val×Val)) (k:Val):Bool:=aG k !=0 && (es.isEmpty||iX es==some (aG k))
def fQ (es:List (Val×Val)) (k v:Val):List (Val×Val):=
 bif (bA es k).isSome then es.map λp=>bif kEq p.1 k then (p.1,v) else p else es++ [(k,v)]
def d8:List Val->List (Val×Val) ->Option (List (Val×Val))
 | [],es=>some es
 | [_],_=>none
 |k::v::r,es=>grd (aE es k) (d8 r (fQ es k v))
def aS (h:MH) (o:MObj):Option (Val×MH):=some (.ref h.length,h++ [o])
def lim:Nat:=1000000
def zrq:Nat:=2 ^ 100000
def zft:Nat:=2 ^ 8000
def zcO (a b:Int):Bool:=Qg (a.natAbs+1) zrq && Qg (b.natAbs+1) zrq
def eG (l:Nat) (n:Int):Bool:=decide (n<=lim) && decide (-(lim:Int)<=n) && Qg (l*n.toNat) lim
def zgo (h:MH) (x y:Val):Option (Val×MH):=
 alt (x.int?.bind λa=>y.int?.bind λb=>some (.int (a+b),h))
 (alt (x.str?.bind λa=>y.str?.bind λb=>grd (Qg (a.length+b.length) lim) (some (.str (a++b),h)))
 ((aI h x).bind λa=>(aI h y).bind λb=>grd (Qg (a.length+b.length) lim) (aS h (.list (a++b)))))
def tY (h:MH) (x y:Val):Option (Val×MH):=
 alt (x.int?.bind λa=>y.int?.bind λb=>grd (zcO a b) (some (.int (a*b),h)))
 (alt (x.int?.bind λa=>y.bool?.bind λb=>some (.int (a*(if b then 1 else 0)),h))
 (alt ((aI h x).bind λa=>y.int?.bind λn=>grd (eG a.length n) (aS h (.list (Qm n.toNat a).flatten)))
 (x.str?.bind λa=>y.int?.bind λn=>grd (eG a.length n) (some (.str (Qm n.toNat a).flatten,h)))))
def qK (op:BOp) (a b:Int):Option Int:=BOp.casesOn (motive:=λ_=>Option Int) op none (some (a-b)) none
 (grd (b !=0 && Qg (b.natAbs+1) zft) (some (Int.fdiv a b))) (grd (b !=0) (some (Zm a b)))
 (grd (decide (0<=b) && decide (b<=64) && Qg (a.natAbs+1) (2 ^ 64)) (some (a ^ b.toNat)))
def eJ (op:BOp) (x y:Val) (h:MH):Option (Val×MH):=
 alt (x.int?.bind λa=>y.int?.bind λb=>(qK op a b).map λk=>(.int k,h))
 (BOp.casesOn (motive:=λ_=>Option (Val×MH)) op (zgo h x y) none (tY h x y) none none none)
def isV (a b:Val):Option Bool:=
 alt (grd b.isNone (some a.isNone))
 (alt (a.ty?.bind λi=>b.ty?.map λj=>i==j)
 (alt (a.top?.bind λi=>b.top?.map λj=>i==j)
 (grd (a.isNone||a.int?.isSome||a.tup?.isSome) (b.top?.map λ_=>false))))
def zT (h:MH) (x:Val) (vs:List Val):Option Bool:=(vs.mapM (toD h 7)).bind λds=>(toD h 7 x).map λd=>ds.any λy=>Zl y d
def one? (s:List Nat):Option Nat:=Ja (motive:=λ_=>Option Nat) s none λc r=>Ja (motive:=λ_=>Option Nat) r (some c) λ_ _=>none
def rL (h:MH) (x y:Val):Option Bool:=
 alt (y.str?.bind λt=>(x.str?.bind one?).map λc=>t.contains c)
 (alt (y.tup?.bind λvs=>zT h x vs)
 (alt ((aI h y).bind λvs=>zT h x vs)
 ((dictAt h y).bind λd=>grd (aE d.2 x) (some (bA d.2 x).isSome))))
def zaZ (x y:Val) (f:Int->Int->Bool):Option Bool:=x.int?.bind λa=>y.int?.map λb=>f a b
def jD (op:COp) (a b:Val) (h:MH):Option Bool:=COp.casesOn (motive:=λ_=>Option Bool) op (veq h a b) ((veq h a b).map (!·))
 (zaZ a b λx y=>decide (x<y)) (zaZ a b λx y=>decide (x<=y)) (zaZ a b λx y=>decide (y<x)) (zaZ a b λx y=>decide (y<=x))
 (rL h a b) ((rL h a b).map (!·)) (isV a b) ((isV a b).map (!·))
def idx (n:Nat) (i:Val):Option Nat:=i.int?.bind λi=>grd (decide (0<=i) && decide (i<n)) (some i.toNat)
def dG (h:MH) (o i:Val):Option Val:=
 alt (o.tup?.bind λvs=>(idx vs.length i).bind λk=>vs[k]?)
 (alt (o.fl?.bind λvs=>(idx vs.length i).bind λk=>vs[k]?)
 (alt ((aI h o).bind λvs=>(idx vs.length i).bind λk=>vs[k]?)
 (alt (o.str?.bind λs=>(idx s.length i).bind λk=>s[k]?.map λc=> .str [c])
 (alt ((dictAt h o).bind λd=>grd (aE d.2 i) (bA d.2 i))
 ((aI h o).bind λvs=>i.bool?.bind λb=>vs[cond b 1 0]?)))))
def dA (n:Nat) (v:Val):Option Nat:=v.int?.bind λi=>grd (decide (0<=i)) (some (min i.toNat n))
def j3 (n k:Nat) (bs:List Val):Option (Nat×Nat):=
 bif k==0 then a0 bs (some (0,n)) else bif k==1 then a1 bs λa=>(dA n a).map λx=>(x,n)
 else bif k==2 then a1 bs λb=>(dA n b).map λy=>(0,y) else bif k==3 then a2 bs λa b=>(dA n a).bind λx=>(dA n b).map λy=>(x,y) else none
def cut {α:Type} (l:List α) (a b:Nat):List α:=(l.take b).drop a
def slice (h:MH) (o:Val) (k:Nat) (bs:List Val):Option (Val×MH):=
 alt (o.str?.bind λs=>(j3 s.length k bs).bind λp=>some (.str (cut s p.1 p.2),h))
 ((aI h o).bind λs=>(j3 s.length k bs).bind λp=>aS h (.list (cut s p.1 p.2)))
def bV (h:MH) (o i v:Val):Option MH:=o.ref?.bind λa=>
 alt ((h[a]?.bind MObj.list?).bind λvs=>(idx vs.length i).map λk=>h.set a (.list (vs.set k v)))
 ((h[a]?.bind MObj.dict?).bind λd=>grd (aE d.2 i && Qg (d.2.length+1) lim) (some (h.set a (.dict (bif (bA d.2 i).isSome then d.1 else d.1.map (· +1)) (fQ d.2 i v)))))
def cH (fs:List (Nat×Val)) (n:Nat):Option Val:=(fs.find? λp=>p.1==n).map (·.2)
def kU:List (Nat×Val) ->Nat->Val->List (Nat×Val)
 | [],n,v=> [(n,v)]
 |p::r,n,v=>bif p.1==n then (n,v)::r else p::kU r n v
def Prg.clsAt (P:Prg) (c:Nat):Option Cl:=P.cls.find? λx=>x.addr==c
def Prg.clsAttr (P:Prg) (c n:Nat):Option Val:=(P.clsAt c).bind λx=>cH x.attrs n
def Prg.hasFld (P:Prg) (c n:Nat):Bool:=((P.clsAt c).map λk=>k.flds.contains n).getD false
def Prg.instAt (P:Prg) (a:Nat):Option Nat:=(P.insts.find? λp=>p.1==a).map (·.2)
def qB (P:Prg) (v:Val):Bool:=(v.top?.map λa=>P.fns.any λf=>f.addr==a).getD false
def cC (P:Prg) (c n:Nat):Option Val:=(P.clsAttr c n).bind λv=>grd (!qB P v) (some v)
def getAttr (P:Prg) (h:MH) (o:Val) (n:Nat):Option Val:=
 alt ((instAt h o).bind λq=>Qc (motive:=λ_=>Option Val) (cH q.2 n) (cC P q.1 n) λv=>grd (P.hasFld q.1 n) (some v))
 (o.top?.bind λa=>(P.instAt a).bind λc=>cC P c n)
def setAttr (P:Prg) (h:MH) (o:Val) (n:Nat) (v:Val):Option MH:=o.ref?.bind λa=>(h[a]?.bind MObj.inst?).bind λq=>
 grd (P.hasFld q.1 n && Qg (q.2.length+1) 400) (some (h.set a (.inst q.1 (kU q.2 n v))))
def bS (P:Prg) (c n:Nat):Option Nat:=(P.clsAttr c n).bind λv=>grd (qB P v) v.top?
def bL (P:Prg) (h:MH) (o:Val) (n:Nat):Option (Nat×List Val):=
 alt (o.top?.bind λa=>Qc (motive:=λ_=>Option (Nat×List Val)) (P.instAt a) ((bS P a n).map λf=>(f,[])) λc=>(bS P c n).map λf=>(f,[o]))
 ((instAt h o).bind λq=>grd (cH q.2 n).isNone ((bS P q.1 n).map λf=>(f,[o])))
set_option genCtorIdx false in
inductive It where
 |ls (a:Nat)
 |tp (vs:List Val)
 |dk (a n ep:Nat)
 |sq (s:List Nat)
 |rg (n:Int)
 |fs (vs:List Val)
def bW (h:MH) (x:Val):Option It:=
 alt (x.rng?.bind λn=>grd (decide (n<=lim) && decide (-(lim:Int)<=n)) (some (.rg n)))
 (alt (x.ref?.bind λa=>alt ((h[a]?.bind MObj.list?).map λ_=> .ls a) ((h[a]?.bind MObj.dict?).bind λd=>d.1.map λep=> .dk a d.2.length ep))
 (alt (x.tup?.map .tp) (alt (x.str?.map .sq) (x.fl?.map .fs))))
def aZ (h:MH) (i:Nat) (k:It):Option (Option Val):=It.casesOn (motive:=λ_=>Option (Option Val)) k
 (λa=>(h[a]?.bind MObj.list?).map λvs=>vs[i]?)
 (λvs=>some vs[i]?)
 (λa n ep=>(h[a]?.bind MObj.dict?).bind λd=>grd (d.1==some ep && d.2.length==n) (some (d.2[i]?.map (·.1))))
 (λs=>some (s[i]?.map λc=> .str [c]))
 (λn=>some (bif decide ((i:Int)<n) then some (.int i) else none))
 (λvs=>some vs[i]?)
def items (h:MH) (x:Val):Option (List Val):=alt x.tup? (aI h x)
def eK (tg:List Nat) (vs:List Val) (fr:Frame):Frame:=(tg.zip vs).foldl (λf p=>f.set p.1 (some p.2)) fr
def b9 (fr:Frame) (tg:List Nat) (many:Bool) (v:Val):Option Frame:=
 bif many then v.tup?.bind λvs=>grd (vs.length==tg.length) (some (eK tg vs fr)) else grd (tg.length==1) (some (eK tg [v] fr))
def gD (l:List Int):List Int:=l.mergeSort λa b=>decide (a<=b)
def zim (n:Nat):List Nat:=(Nat.toDigits 10 n).map Char.toNat
def lL (i:Int):List Nat:=bif decide (i<0) then 45::zim i.natAbs else zim i.natAbs
def zey (s:List Nat):Option Nat:=grd (!s.isEmpty && Qg s.length 640 && s.all λc=>Qg 48 c && Qg c 57) (some (s.foldl (λa c=>a*10+(c-48)) 0))
def zcW (sep:List Nat):List Val->Option (List Nat)
 | []=>some []
 |v::r=>v.str?.bind λs=>Ja (motive:=λ_=>Option (List Nat)) r (some s) λ_ _=>(zcW sep r).map λt=>s++sep++t
abbrev wJ:Nat:=7103854
abbrev zeN:Nat:=7168376
abbrev zcw:Nat:=7170414
abbrev rB:Nat:=126922498794852
abbrev rC:Nat:=491260897125
abbrev tL:Nat:=1818850164
abbrev zcx:Nat:=1684628340
abbrev wI:Nat:=500186508389
abbrev zeK:Nat:=7566450
abbrev zeO:Nat:=6909556
abbrev y8:Nat:=1954115685
abbrev zeL:Nat:=7562612
abbrev zcy:Nat:=1651470188
abbrev jQ:Nat:=5651857438861258853
abbrev nAppend:Nat:=107135549927012
abbrev nPop:Nat:=7368560
abbrev nIndex:Nat:=452823639416
abbrev nGet:Nat:=6776180
abbrev nIsspace:Nat:=29681812198482789
abbrev nJoin:Nat:=1785686382
abbrev nPartition:Nat:=2073057139020767260526
abbrev nSplit:Nat:=495807392116
abbrev nStrip:Nat:=495874894192
abbrev nStartswith:Nat:=545218989645367805047912
abbrev nFind:Nat:=1718185572
abbrev zyy:Nat:=6382692
def vM (h:MH) (x:Val):Option Nat:=Val.casesOn (motive_1:=λ_=>Option Nat) x (some jQ) (λ_=>some zcy) (λ_=>some zeO) (λ_=>some zeK) (λ_=>some wI)
 (λa=>(aI h (.ref a)).map λ_=>tL) (λ_=>none) (λ_=>none) (λ_=>none) (λ_=>none) (λ_=>none) (λ_=>none)
def zaU (h:MH) (x:Val):Option Nat:=Val.casesOn (motive_1:=λ_=>Option Nat) x none (λ_=>none) (λ_=>none) (λs=>some s.length) (λvs=>some vs.length)
 (λa=>alt ((aI h (.ref a)).map (·.length)) ((dictAt h (.ref a)).map (·.2.length))) (λ_=>none) (λ_=>none) (λ_=>none) (λ_=>none) (λvs=>some vs.length) some
def fG (l:List Val):Option (List Int):=l.mapM Val.int?
def zqb (l:List Int):Option Int:=Ja (motive:=λ_=>Option Int) l none λa r=>some (r.foldl max a)
def zgl (as:List Val) (h:MH):Option (Val×MH):=a1 as λv=>(zaU h v).map λ(k:Nat)=>(Val.int (k:Int),h)
def zgk (as:List Val) (h:MH):Option (Val×MH):=
 alt (a2 as λx y=>x.int?.bind λa=>y.int?.map λb=>(.int (if b>a then b else a),h))
 (alt (a3 as λx y z=>x.int?.bind λa=>y.int?.bind λb=>z.int?.map λc=>(.int (if b>a then (if c>b then c else b) else (if c>a then c else a)),h))
 (a1 as λx=>(aI h x).bind λvs=>((fG vs).bind zqb).map λk=>(.int k,h)))
def zgj (as:List Val) (h:MH):Option (Val×MH):=a2 as λx y=>x.int?.bind λa=>y.int?.map λb=>(.int (if b<a then b else a),h)
def xH (a:List Nat):List Nat->Bool:=Qj (motive:=λ_=>List Nat->Bool) (λb=>Qj (motive:=λ_=>Bool) false (λ_ _ _=>true) b) (λx _ ih b=>Qj (motive:=λ_=>Bool) false (λy r _=>Bool.rec (motive:=λ_=>Bool) (Bool.rec (motive:=λ_=>Bool) (ih r) false (Qg (Qp y) x)) true (Qg (Qp x) y)) b) a
def zc5 (a:List Nat) (l:List (List Nat)):List (List Nat):=Qj (motive:=λ_=>List (List Nat)) [a] (λx r ih=>Bool.rec (motive:=λ_=>List (List Nat)) (a::x::r) (x::ih) (xH x a)) l
def iM (l:List (List Nat)):List (List Nat):=Qj (motive:=λ_=>List (List Nat)) [] (λx _ ih=>zc5 x ih) l
def eF (l:List Val):Option (List (List Nat)):=l.mapM Val.str?
def m4 (as:List Val) (h:MH):Option (Val×MH):=a1 as λx=>alt ((dictAt h x).bind λp=>(fG (p.2.map (·.1))).bind λl=>grd (!l.isEmpty && Qg (l.length+1) 64) (aS h (.list ((gD l).map .int))))
 (alt ((aI h x).bind λvs=>(eF vs).bind λl=>grd (Qg l.length 60) (aS h (.list ((iM l).map .str))))
 ((dictAt h x).bind λp=>(eF (p.2.map (·.1))).bind λl=>grd (!l.isEmpty && Qg l.length 60) (aS h (.list ((iM l).map .str)))))
def j2 (n:Nat) (as:List Val) (h:MH):Option (Val×MH):=
 alt (grd (n==wJ) (zgl as h)) (alt (grd (n==zeN) (zgk as h)) (alt (grd (n==zcw) (zgj as h)) (grd (n==rB) (m4 as h))))
def yP (as:List Val) (h:MH):Option (Val×MH):=a1 as λx=>x.int?.map λk=>(.rng k,h)
def vN (as:List Val) (h:MH):Option (Val×MH):=a1 as λx=>alt (x.tup?.bind λvs=>aS h (.list vs)) (alt (x.fl?.bind λvs=>aS h (.list vs)) ((aI h x).bind λvs=>aS h (.list vs)))
def zbs (as:List Val) (h:MH):Option (Val×MH):=a1 as λx=>(dictAt h x).bind λd=>grd (d.2.all λp=>aG p.1==1) (aS h (.dict none d.2))
def zfU (as:List Val) (h:MH):Option (Val×MH):=a1 as λx=>
 alt (x.int?.bind λi=>grd (Qg (i.natAbs+1) (2 ^ 1000) && Qg (lL i).length lim) (some (.str (lL i),h))) (x.str?.map λs=>(.str s,h))
def zfW (as:List Val) (h:MH):Option (Val×MH):=a1 as λx=>(x.str?.bind zey).map λ(k:Nat)=>(Val.int (k:Int),h)
def zbr (as:List Val) (h:MH):Option (Val×MH):=a1 as λx=>(vM h x).map λk=>(.ty k,h)
def xV (l:List Nat):List Nat:=l.foldl (λr c=>bif r.contains c then r else r++ [c]) []
def zfV (x:Val) (h:MH):Option (Val×MH):=x.str?.bind λl=>grd (Qg (l.length+2) 4096) (some (.setn (xV l).length,h))
def fS (n:Nat) (as:List Val) (h:MH):Option (Val×MH):=
 alt (grd (n==rC) (yP as h)) (alt (grd (n==tL) (vN as h)) (alt (grd (n==zeK) (zfU as h)) (alt (grd (n==y8) (zbr as h)) (alt (grd (n==zcx) (zbs as h)) (alt (grd (n==zeO) (zfW as h)) (grd (n==zeL) (a1 as λx=>zfV x h)))))))
def cL (s:List Nat):Bool:=s.all (λc=>Qg (c+1) 0x110000) && Qg s.length lim
def g8 (x:Str):Option Val:=grd (cL x.cps.toList) (some (.str x.cps.toList))
def zbj (s:List Nat):Option (List Val):=(Txt.words ⟨s.toArray⟩).mapM g8
def zge (s t:List Nat) (i:Int):Int:=Ja (motive:=λ_=>Int) (Builtin.Str.occurrences ⟨s.toArray⟩ ⟨t.toArray⟩ (fromIndex s.length i) s.length 1) (-1) λk _=>k
def bI (s:List Nat) (n:Nat) (as:List Val) (h:MH):Option (Val×MH):=
 alt (grd (n==nIsspace) (a0 as (some (.bool (Txt.isspace ⟨s.toArray⟩),h))))
 (alt (grd (n==nJoin) (a1 as λx=>(aI h x).bind λvs=>(zcW s vs).bind λt=>grd (Qg t.length lim && Qg (vs.length*s.length) lim) (some (.str t,h))))
 (alt (grd (n==nPartition) (a1 as λx=>x.str?.bind λt=>grd (!t.isEmpty) (some (Txt.partition ⟨s.toArray⟩ ⟨t.toArray⟩)|>.bind λp=>
   grd (cL p.1.cps.toList && cL p.2.1.cps.toList && cL p.2.2.cps.toList) (some (.tup [.str p.1.cps.toList,.str p.2.1.cps.toList,.str p.2.2.cps.toList],h)))))
 (alt (grd (n==nStartswith) (a1 as λx=>x.str?.map λt=>(.bool (t.isPrefixOf s),h)))
 (alt (grd (n==nStrip) (alt (a0 as ((g8 (Txt.strip ⟨s.toArray⟩)).map λv=>(v,h))) (a1 as λx=>x.str?.bind λt=>(g8 (Txt.stripChars ⟨s.toArray⟩ ⟨t.toArray⟩)).map λv=>(v,h))))
 (alt (grd (n==nSplit) (a0 as ((zbj s).bind λvs=>grd (Qg vs.length lim) (aS h (.list vs)))))
 (grd (n==nFind) (a2 as λx y=>x.str?.bind λt=>y.int?.map λi=>(.int (zge s t i),h))))))))
def dN (a:Nat) (vs:List Val) (n:Nat) (as:List Val) (h:MH):Option (Val×MH):=
 alt (grd (n==nAppend) (a1 as λv=>grd (Qg (vs.length+1) lim) (some (.none,h.set a (.list (vs++ [v]))))))
 (alt (grd (n==nPop) (a0 as (vs.getLast?.map λv=>(v,h.set a (.list vs.dropLast)))))
 (grd (n==nIndex) (a1 as λx=>x.str?.bind λt=>(vs.mapM Val.str?).bind λss=>grd (ss.contains t) (some (.int (ss.idxOf t:Nat),h)))))
def dO (es:List (Val×Val)) (n:Nat) (as:List Val) (h:MH):Option (Val×MH):=
 grd (n==nGet) (alt (a1 as λk=>grd (aE es k) (some ((bA es k).getD .none,h))) (a2 as λk d=>grd (aE es k) (some ((bA es k).getD d,h))))
def cX (o:Val) (n:Nat) (as:List Val) (h0 h:MH):Option (Val×MH):=
 alt (o.str?.bind λs=>bI s n as h)
 (o.ref?.bind λa=>alt ((h0[a]?.bind MObj.list?).bind λ_=>(h[a]?.bind MObj.list?).bind λvs=>dN a vs n as h) ((h0[a]?.bind MObj.dict?).bind λ_=>(h[a]?.bind MObj.dict?).bind λd=>dO d.2 n as h))
structure Cx where
 P:Prg
 fuel:Nat
 call:Nat->List Val->MH->Option (Val×MH)
def tI (c:Cx) (a:Nat) (k:Cl) (as:List Val) (h:MH):Option (Val×MH):=
 k.init.bind λi=>bnd (c.call i (.ref h.length::as) (h++ [.inst a []])) λr h'=>grd r.isNone (some (.ref h.length,h'))
def gY (c:Cx) (f:Val) (as:List Val) (h:MH):Option (Val×MH):=
 alt (f.top?.bind λa=>Qc (motive:=λ_=>Option (Val×MH)) (c.P.clsAt a) (c.call a as h) λk=>tI c a k as h)
 (alt (f.bi?.bind λn=>j2 n as h) (f.ty?.bind λn=>fS n as h))
def uX (c:Cx) (o:Val) (n:Nat) (as:List Val) (h0 h:MH):Option (Val×MH):=
 Qc (motive:=λ_=>Option (Val×MH)) (bL c.P h0 o n) (cX o n as h0 h) λp=>c.call p.1 (p.2++as) h
def aQ (p:Option (Val×MH)):Option (Bool×MH):=bnd p λv h=>(truthy h v).map λb=>(b,h)
def compLoop (next:Nat->MH->Option (Option Val)) (test:Val->MH->Option (Option Frame×MH)) (elt:Frame->MH->Option (Val×MH)) (acc:Nat):Nat->Nat->MH->Option (Unit×MH)
 |0,_,_=>none
 |n+1,i,h=>(next i h).bind λov=>Qc (motive:=λ_=>Option (Unit×MH)) ov (some ((),h)) λv=>
  bnd (test v h) λofr h1=>Qc (motive:=λ_=>Option (Unit×MH)) ofr (compLoop next test elt acc n (i+1) h1) λfr=>
   bnd (elt fr h1) λx h2=>(h2[acc]?.bind MObj.list?).bind λvs=>grd (Qg (vs.length+1) lim) (compLoop next test elt acc n (i+1) (h2.set acc (.list (vs++ [x]))))
mutual
noncomputable def eval (c:Cx):Ex->Frame->MH->Option (Val×MH)
 | .var x,fr,h=>fr[x]?.bind λo=>o.map λv=>(v,h)
 | .lit v,_,h=>some (v,h)
 | .list es,fr,h=>bnd (dE c es fr h) λvs h1=>aS h1 (.list vs)
 | .tup es,fr,h=>bnd (dE c es fr h) λvs h1=>some (.tup vs,h1)
 | .dict kvs,fr,h=>bnd (dE c kvs fr h) λl h1=>(d8 l []).bind λes=>grd (Qg kvs.length 30) (aS h1 (.dict (some es.length) es))
 | .bin op a b,fr,h=>bnd (eval c a fr h) λx h1=>bnd (eval c b fr h1) λy h2=>eJ op x y h2
 | .not a,fr,h=>bnd (aQ (eval c a fr h)) λb h1=>some (.bool (!b),h1)
 | .cmp op a b,fr,h=>bnd (eval c a fr h) λx h1=>bnd (eval c b fr h1) λy h2=>(jD op x y h2).map λr=>(.bool r,h2)
 | .bop stop es,fr,h=>gV c stop es fr h
 | .ite t a b,fr,h=>bnd (aQ (eval c t fr h)) λr h1=>bif r then eval c a fr h1 else eval c b fr h1
 | .attr e n,fr,h=>bnd (eval c e fr h) λo h1=>(getAttr c.P h1 o n).map λv=>(v,h1)
 | .sub e i,fr,h=>bnd (eval c e fr h) λo h1=>bnd (eval c i fr h1) λk h2=>(dG h2 o k).map λv=>(v,h2)
 | .slice e k bs,fr,h=>bnd (eval c e fr h) λo h1=>bnd (dE c bs fr h1) λvs h2=>slice h2 o k vs
 | .call f as,fr,h=>bnd (eval c f fr h) λg h1=>bnd (dE c as fr h1) λvs h2=>gY c g vs h2
 | .meth o n as,fr,h=>bnd (eval c o fr h) λv h1=>bnd (dE c as fr h1) λvs h2=>uX c v n vs h1 h2
 | .comp elt tg many it ifs,fr,h=>bnd (eval c it fr h) λv h1=>(bW h1 v).bind λk=>
   bnd (compLoop (λi h=>aZ h i k) (λv h=>(b9 fr tg many v).bind λfr'=>bnd (jA c ifs fr' h) λb h'=>some (bif b then some fr' else none,h')) (λfr' h=>eval c elt fr' h) h1.length c.fuel 0 (h1++ [.list []]))
    λ_ h2=>some (.ref h1.length,h2)
noncomputable def dE (c:Cx):List Ex->Frame->MH->Option (List Val×MH)
 | [],_,h=>some ([],h)
 |e::r,fr,h=>bnd (eval c e fr h) λv h1=>bnd (dE c r fr h1) λvs h2=>some (v::vs,h2)
noncomputable def gV (c:Cx) (stop:Bool):List Ex->Frame->MH->Option (Val×MH)
 | [],_,_=>none
 |e::r,fr,h=>bnd (eval c e fr h) λv h1=>bif r.isEmpty then some (v,h1) else (truthy h1 v).bind λb=>bif b==stop then some (v,h1) else gV c stop r fr h1
noncomputable def jA (c:Cx):List Ex->Frame->MH->Option (Bool×MH)
 | [],_,h=>some (true,h)
 |e::r,fr,h=>bnd (aQ (eval c e fr h)) λb h1=>bif b then jA c r fr h1 else some (false,h1)
end
def iL (c:Cx) (fr:Frame) (h:MH) (v:Val):T1->Option (Frame×MH)
 | .nm x=>some (fr.set x (some v),h)
 | .at o n=>bnd (eval c o fr h) λov h1=>(setAttr c.P h1 ov n v).map λh2=>(fr,h2)
 | .sb o i=>bnd (eval c o fr h) λov h1=>bnd (eval c i fr h1) λiv h2=>(bV h2 ov iv v).map λh3=>(fr,h3)
def bN (c:Cx):List T1->List Val->Frame->MH->Option (Frame×MH)
 | [],vs,fr,h=>grd vs.isEmpty (some (fr,h))
 |t::ts,vs,fr,h=>vs.head?.bind λv=>bnd (iL c fr h v t) λfr' h'=>bN c ts vs.tail fr' h'
abbrev SR:=Option ((Fl×Frame)×MH)
def eH (cond:Frame->MH->Option (Bool×MH)) (body:Frame->MH->SR):Nat->Frame->MH->SR
 |0,_,_=>none
 |n+1,fr,h=>bnd (cond fr h) λb h1=>bif b then bnd (body fr h1) λp h2=>Fl.casesOn (motive:=λ_=>SR) p.1 (eH cond body n p.2 h2) (some ((.nx,p.2),h2)) (eH cond body n p.2 h2) (λv=>some ((.rt v,p.2),h2))
  else some ((.nx,fr),h1)
def fE (next:Nat->MH->Option (Option Val)) (bind:Frame->Val->Option Frame) (body:Frame->MH->SR):Nat->Nat->Frame->MH->SR
 |0,_,_,_=>none
 |n+1,i,fr,h=>(next i h).bind λov=>Qc (motive:=λ_=>SR) ov (some ((.nx,fr),h)) λv=>(bind fr v).bind λfr1=>
   bnd (body fr1 h) λp h2=>Fl.casesOn (motive:=λ_=>SR) p.1 (fE next bind body n (i+1) p.2 h2) (some ((.nx,p.2),h2)) (fE next bind body n (i+1) p.2 h2) (λv=>some ((.rt v,p.2),h2))
mutual
noncomputable def exec (c:Cx):Sm->Frame->MH->SR
 | .expr e,fr,h=>bnd (eval c e fr h) λ_ h1=>some ((.nx,fr),h1)
 | .asg t e,fr,h=>bnd (eval c e fr h) λv h1=>bnd (iL c fr h1 v t) λfr' h2=>some ((.nx,fr'),h2)
 | .asgs ts e,fr,h=>bnd (eval c e fr h) λv h1=>(items h1 v).bind λvs=>bnd (bN c ts vs fr h1) λfr' h2=>some ((.nx,fr'),h2)
 | .ret e,fr,h=>bnd (eval c e fr h) λv h1=>some ((.rt v,fr),h1)
 | .ite t a b,fr,h=>bnd (aQ (eval c t fr h)) λr h1=>bif r then execs c a fr h1 else execs c b fr h1
 | .wh t b,fr,h=>eH (λfr h=>aQ (eval c t fr h)) (λfr h=>execs c b fr h) c.fuel fr h
 | .fo tg many e b,fr,h=>bnd (eval c e fr h) λv h1=>(bW h1 v).bind λk=>fE (λi h=>aZ h i k) (λfr v=>b9 fr tg many v) (λfr h=>execs c b fr h) c.fuel 0 fr h1
 | .brk,fr,h=>some ((.bk,fr),h)
 | .cont,fr,h=>some ((.ct,fr),h)
 | .pass,fr,h=>some ((.nx,fr),h)
 | .raise,_,_=>none
 | .rse _,_,_=>none
 | .tr _ _ _ _,_,_=>none
noncomputable def execs (c:Cx):List Sm->Frame->MH->SR
 | [],fr,h=>some ((.nx,fr),h)
 |s::r,fr,h=>bnd (exec c s fr h) λp h1=>Fl.casesOn (motive:=λ_=>SR) p.1 (execs c r p.2 h1) (some (p,h1)) (some (p,h1)) (λ_=>some (p,h1))
end
def Prg.fnAt (P:Prg) (a:Nat):Option Fn:=P.fns.find? λf=>f.addr==a
def cJ (f:Fn) (as:List Val):Option (List Val):=grd (Qg as.length f.np && Qg (f.np-as.length) f.dfl.length) (some (as++f.dfl.drop (f.dfl.length-(f.np-as.length))))
def bX (f:Fn) (vs:List Val):Frame:=vs.map some++Qm (f.ns-f.np) none
def xR (p:Fl×Frame) (h:MH):Option (Val×MH):=Fl.casesOn (motive:=λ_=>Option (Val×MH)) p.1 (some (.none,h)) none none λv=>some (v,h)
def bC (P:Prg) (fuel:Nat):Nat->Nat->List Val->MH->Option (Val×MH)
 |0,_,_,_=>none
 |d+1,a,as,h=>(P.fnAt a).bind λf=>(cJ f as).bind λvs=>bnd (execs ⟨P,fuel,bC P fuel d⟩ f.body (bX f vs) h) xR
structure CC where
 sc:List (Str×NameKind)
 vars:List (Str×Nat)
 next:Nat
 gl:List (Str×Val)
def aD (x : Str) : Bool := x.cps.toList.all (λc => 1 <= c && c <= 255) && x != ("__debug__" : Str) && x != ("__class__" : Str) && x != ("super" : Str) && !x.cps.toList.isEmpty
def rU:Const->Option Val
 | .none=>some .none
 | .bool b=>some (.bool b)
 | .int i=>some (.int i)
 | .str s=>grd (cL s.cps.toList) (some (.str s.cps.toList))
 |_=>none
def b0 (cx:CC) (x:Str):Option Nat:=grd (cx.sc.lookup x==some .local||cx.sc.lookup x==some .cell) (cx.vars.lookup x)
def zO:Operator->Option BOp
 | .Add=>some .add
 | .Sub=>some .sub
 | .Mult=>some .mul
 | .FloorDiv=>some .fdiv
 | .Mod=>some .mod
 | .Pow=>some .pow
 |_=>none
def zL:CmpOp->COp
 | .Eq=> .eq
 | .NotEq=> .ne
 | .Lt=> .lt
 | .LtE=> .le
 | .Gt=> .gt
 | .GtE=> .ge
 | .In=> .isin
 | .NotIn=> .notin
 | .Is=> .is
 | .IsNot=> .isnot
def cI (e:Expr):Option (Str×Pos):=Expr.casesOn (motive_1:=λ_=>Option (Str×Pos)) e (λ_ _ _=>none) (λ_ _ _=>none) (λ_ _ _ _=>none) (λ_ _ _=>none) (λ_ _ _ _=>none) (λ_ _ _ _=>none) (λ_ _ _=>none) (λ_ _ _=>none) (λ_ _ _ _=>none) (λ_ _ _ _=>none) (λ_ _ _ _ _=>none) (λ_ _ _ _=>none) (λ_ _=>none) (λ_ _=>none) (λ_ _=>none) (λ_ _ _ _=>none) (λ_ _ _ _=>none) (λ_ _ _ _=>none) (λ_ _=>none) (λ_ _ _=>none) (λ_ _ _=>none) (λ_ _ _=>none) (λ_ _=>none) (λx y=>some (x,y)) (λ_ _=>none) (λ_ _ _=>none) (λ_ _ _ _=>none)
def nU (e:Expr):Option (Expr×Str×Pos):=Expr.casesOn (motive_1:=λ_=>Option (Expr×Str×Pos)) e (λ_ _ _=>none) (λ_ _ _=>none) (λ_ _ _ _=>none) (λ_ _ _=>none) (λ_ _ _ _=>none) (λ_ _ _ _=>none) (λ_ _ _=>none) (λ_ _ _=>none) (λ_ _ _ _=>none) (λ_ _ _ _=>none) (λ_ _ _ _ _=>none) (λ_ _ _ _=>none) (λ_ _=>none) (λ_ _=>none) (λ_ _=>none) (λ_ _ _ _=>none) (λ_ _ _ _=>none) (λ_ _ _ _=>none) (λ_ _=>none) (λ_ _ _=>none) (λx y z=>some (x,y,z)) (λ_ _ _=>none) (λ_ _=>none) (λ_ _=>none) (λ_ _=>none) (λ_ _ _=>none) (λ_ _ _ _=>none)
def gZ (e:Expr):Option (List Expr×Nat×Pos):=Expr.casesOn (motive_1:=λ_=>Option (List Expr×Nat×Pos)) e (λ_ _ _=>none) (λ_ _ _=>none) (λ_ _ _ _=>none) (λ_ _ _=>none) (λ_ _ _ _=>none) (λ_ _ _ _=>none) (λ_ _ _=>none) (λ_ _ _=>none) (λ_ _ _ _=>none) (λ_ _ _ _=>none) (λ_ _ _ _ _=>none) (λ_ _ _ _=>none) (λ_ _=>none) (λ_ _=>none) (λ_ _=>none) (λ_ _ _ _=>none) (λ_ _ _ _=>none) (λ_ _ _ _=>none) (λ_ _=>none) (λ_ _ _=>none) (λ_ _ _=>none) (λ_ _ _=>none) (λ_ _=>none) (λ_ _=>none) (λ_ _=>none) (λx y z=>some (x,y,z)) (λ_ _ _ _=>none)
def zdD (e:Expr):Option (Expr×Expr×Pos):=Expr.casesOn (motive_1:=λ_=>Option (Expr×Expr×Pos)) e (λ_ _ _=>none) (λ_ _ _=>none) (λ_ _ _ _=>none) (λ_ _ _=>none) (λ_ _ _ _=>none) (λ_ _ _ _=>none) (λ_ _ _=>none) (λ_ _ _=>none) (λ_ _ _ _=>none) (λ_ _ _ _=>none) (λ_ _ _ _ _=>none) (λ_ _ _ _=>none) (λ_ _=>none) (λ_ _=>none) (λ_ _=>none) (λ_ _ _ _=>none) (λ_ _ _ _=>none) (λ_ _ _ _=>none) (λ_ _=>none) (λ_ _ _=>none) (λ_ _ _=>none) (λx y z=>some (x,y,z)) (λ_ _=>none) (λ_ _=>none) (λ_ _=>none) (λ_ _ _=>none) (λ_ _ _ _=>none)
def jL (e:Expr):Option (Option Expr×Option Expr×Option Expr×Pos):=Expr.casesOn (motive_1:=λ_=>Option (Option Expr×Option Expr×Option Expr×Pos)) e (λ_ _ _=>none) (λ_ _ _=>none) (λ_ _ _ _=>none) (λ_ _ _=>none) (λ_ _ _ _=>none) (λ_ _ _ _=>none) (λ_ _ _=>none) (λ_ _ _=>none) (λ_ _ _ _=>none) (λ_ _ _ _=>none) (λ_ _ _ _ _=>none) (λ_ _ _ _=>none) (λ_ _=>none) (λ_ _=>none) (λ_ _=>none) (λ_ _ _ _=>none) (λ_ _ _ _=>none) (λ_ _ _ _=>none) (λ_ _=>none) (λ_ _ _=>none) (λ_ _ _=>none) (λ_ _ _=>none) (λ_ _=>none) (λ_ _=>none) (λ_ _=>none) (λ_ _ _=>none) (λx y z u=>some (x,y,z,u))
def yD (e:Expr):Option (Expr×List Expr×List Keyword×Pos):=Expr.casesOn (motive_1:=λ_=>Option (Expr×List Expr×List Keyword×Pos)) e (λ_ _ _=>none) (λ_ _ _=>none) (λ_ _ _ _=>none) (λ_ _ _=>none) (λ_ _ _ _=>none) (λ_ _ _ _=>none) (λ_ _ _=>none) (λ_ _ _=>none) (λ_ _ _ _=>none) (λ_ _ _ _=>none) (λ_ _ _ _ _=>none) (λ_ _ _ _=>none) (λ_ _=>none) (λ_ _=>none) (λ_ _=>none) (λ_ _ _ _=>none) (λx y z u=>some (x,y,z,u)) (λ_ _ _ _=>none) (λ_ _=>none) (λ_ _ _=>none) (λ_ _ _=>none) (λ_ _ _=>none) (λ_ _=>none) (λ_ _=>none) (λ_ _=>none) (λ_ _ _=>none) (λ_ _ _ _=>none)
def sE (e:Expr):Option (Const×Nat×Pos):=Expr.casesOn (motive_1:=λ_=>Option (Const×Nat×Pos)) e (λ_ _ _=>none) (λ_ _ _=>none) (λ_ _ _ _=>none) (λ_ _ _=>none) (λ_ _ _ _=>none) (λ_ _ _ _=>none) (λ_ _ _=>none) (λ_ _ _=>none) (λ_ _ _ _=>none) (λ_ _ _ _=>none) (λ_ _ _ _ _=>none) (λ_ _ _ _=>none) (λ_ _=>none) (λ_ _=>none) (λ_ _=>none) (λ_ _ _ _=>none) (λ_ _ _ _=>none) (λ_ _ _ _=>none) (λ_ _=>none) (λx y z=>some (x,y,z)) (λ_ _ _=>none) (λ_ _ _=>none) (λ_ _=>none) (λ_ _=>none) (λ_ _=>none) (λ_ _ _=>none) (λ_ _ _ _=>none)
def cF (e:Expr):Bool:=Expr.casesOn (motive_1:=λ_=>Bool) e (λ_ _ _=>false) (λ_ _ _=>false) (λ_ _ _ _=>false) (λ_ _ _=>false) (λ_ _ _ _=>false) (λ_ _ _ _=>false) (λ_ _ _=>false) (λ_ _ _=>false) (λx y z u=>true) (λ_ _ _ _=>false) (λ_ _ _ _ _=>false) (λ_ _ _ _=>false) (λ_ _=>false) (λ_ _=>false) (λ_ _=>false) (λ_ _ _ _=>false) (λ_ _ _ _=>false) (λ_ _ _ _=>false) (λ_ _=>false) (λ_ _ _=>false) (λ_ _ _=>false) (λ_ _ _=>false) (λ_ _=>false) (λ_ _=>false) (λ_ _=>false) (λ_ _ _=>false) (λ_ _ _ _=>false)
def nN (e:Expr):Bool:=Expr.casesOn (motive_1:=λ_=>Bool) e (λ_ _ _=>true) (λ_ _ _=>true) (λ_ _ _ _=>true) (λ_ _ _=>true) (λ_ _ _ _=>true) (λ_ _ _ _=>true) (λ_ _ _=>true) (λ_ _ _=>true) (λ_ _ _ _=>true) (λ_ _ _ _=>true) (λ_ _ _ _ _=>true) (λ_ _ _ _=>true) (λ_ _=>true) (λ_ _=>true) (λ_ _=>true) (λ_ _ _ _=>true) (λx y z u=>!y.isEmpty) (λ_ _ _ _=>true) (λ_ _=>true) (λ_ _ _=>true) (λ_ _ _=>true) (λ_ _ _=>true) (λ_ _=>true) (λ_ _=>true) (λ_ _=>true) (λ_ _ _=>true) (λ_ _ _ _=>true)
section
variable {α β γ:Type}
def cW (f:α->Option β):List α->Option (List β)
 | []=>some []
 |a::r=>(f a).bind λb=>(cW f r).map λbs=>b::bs
def oE (l:List α) (f:α->Option β):Option β:=Ja (motive:=λ_=>Option β) l none λa r=>Ja (motive:=λ_=>Option β) r (f a) λ_ _=>none
inductive bM (R:α->β->Prop):List α->List β->Prop
 |nil:bM R [] []
 |cons {a:α}{b:β}{as:List α}{bs:List β}:R a b->bM R as bs->bM R (a::as) (b::bs)
theorem bs {o:Option α}{f:α->Option β}{r:β} (h:o.bind f=some r): ∃a,o=some a/\f a=some r:=Zy.mp h
theorem ms {o:Option α}{f:α->β}{r:β} (h:o.map f=some r): ∃a,o=some a/\f a=r:=ZI.mp h
theorem gs {b:Bool}{o:Option α}{r:α} (h:grd b o=some r):b=true/\o=some r:=by
 cases b
 ·cases h
 ·exact ⟨rfl,h⟩
theorem aF {P:Prop}{o:Option α}{f:α->Option β}{r:β} (g: ∀a,o=some a->f a=some r->P) (h:o.bind f=some r):P:=(bs h).elim λa h=>g a h.1 h.2
theorem aX {P:Prop}{o:Option α}{f:α->β}{r:β} (g: ∀a,o=some a->f a=r->P) (h:o.map f=some r):P:=(ms h).elim λa h=>g a h.1 h.2
theorem bE {P:Prop}{b:Bool}{o:Option α}{r:α} (g:b=true->o=some r->P) (h:grd b o=some r):P:=g (gs h).1 (gs h).2
theorem aT {P:Prop}{a b:Option α}{r:α} (g:a=some r->P) (g':b=some r->P):alt a b=some r->P:=Qc (motive:=λa=>(a=some r->P) ->alt a b=some r->P) a (λ_ h=>g' h) (λ_ g h=>g h) g
theorem aC {P:Prop}{o:Option (α×MH)}{f:α->MH->Option (β×MH)}{r:β×MH} (g: ∀a h,o=some (a,h) ->f a h=some r->P):bnd o f=some r->P:=Qc (motive:=λo=>(∀a h,o=some (a,h) ->f a h=some r->P) ->bnd o f=some r->P) o (λ_ h=>Option.noConfusion rfl (heq_of_eq h)) (λp g h=>g p.1 p.2 rfl h) g
theorem dX {l:List α}{f:α->Option β}{r:β} (h:oE l f=some r): ∃a,l= [a]/\f a=some r:=by
 cases l with
 |nil=>cases h
 |cons a l=>
  cases l with
  |nil=>exact ⟨a,rfl,h⟩
  |cons _ _=>cases h
theorem dZ {f:α->Option β}{l:List α}: ∀ {r:List β},cW f l=some r->bM (λa b=>f a=some b) l r:=by
 induction l with
 |nil=>intro r h;cases h;exact .nil
 |cons a l ih=>
  intro r h;obtain ⟨b,h1,h⟩:=bs h;refine (ms h).elim λbs zq1=>?_;obtain rfl:=zq1.2;exact .cons h1 (ih zq1.1)
theorem bM.mono {R S:α->β->Prop} (h: ∀a b,R a b->S a b) {as:List α}{bs:List β} (r:bM R as bs):bM S as bs:=by
 induction r with
 |nil=>exact .nil
 |cons x _ ih=>exact .cons (h _ _ x) ih
theorem bM.length {R:α->β->Prop}{as:List α}{bs:List β} (r:bM R as bs):bs.length=as.length:=by
 induction r with
 |nil=>rfl
 |cons _ _ ih=>exact congrArg (· +1) ih
end
theorem nos {α:Type}{p:α}{P:Prop} (h:none=some p):P:=nomatch h
theorem zrt {e:Expr}{p:Expr×List Expr×List Keyword×Pos}:yD e=some p->e= .Call p.1 p.2.1 p.2.2.1 p.2.2.2:=Expr.casesOn (motive_1:=λe=>yD e=some p->e= .Call p.1 p.2.1 p.2.2.1 p.2.2.2) e (λ_ _ _ h=>nos h) (λ_ _ _ h=>nos h) (λ_ _ _ _ h=>nos h) (λ_ _ _ h=>nos h) (λ_ _ _ _ h=>nos h) (λ_ _ _ _ h=>nos h) (λ_ _ _ h=>nos h) (λ_ _ _ h=>nos h) (λ_ _ _ _ h=>nos h) (λ_ _ _ _ h=>nos h) (λ_ _ _ _ _ h=>nos h) (λ_ _ _ _ h=>nos h) (λ_ _ h=>nos h) (λ_ _ h=>nos h) (λ_ _ h=>nos h) (λ_ _ _ _ h=>nos h) (λx y z u h=>Qf.inj h▸rfl) (λ_ _ _ _ h=>nos h) (λ_ _ h=>nos h) (λ_ _ _ h=>nos h) (λ_ _ _ h=>nos h) (λ_ _ _ h=>nos h) (λ_ _ h=>nos h) (λ_ _ h=>nos h) (λ_ _ h=>nos h) (λ_ _ _ h=>nos h) (λ_ _ _ _ h=>nos h)
theorem zbb {e:Expr}{p:Const×Nat×Pos}:sE e=some p->e= .Constant p.1 p.2.1 p.2.2:=Expr.casesOn (motive_1:=λe=>sE e=some p->e= .Constant p.1 p.2.1 p.2.2) e (λ_ _ _ h=>nos h) (λ_ _ _ h=>nos h) (λ_ _ _ _ h=>nos h) (λ_ _ _ h=>nos h) (λ_ _ _ _ h=>nos h) (λ_ _ _ _ h=>nos h) (λ_ _ _ h=>nos h) (λ_ _ _ h=>nos h) (λ_ _ _ _ h=>nos h) (λ_ _ _ _ h=>nos h) (λ_ _ _ _ _ h=>nos h) (λ_ _ _ _ h=>nos h) (λ_ _ h=>nos h) (λ_ _ h=>nos h) (λ_ _ h=>nos h) (λ_ _ _ _ h=>nos h) (λ_ _ _ _ h=>nos h) (λ_ _ _ _ h=>nos h) (λ_ _ h=>nos h) (λx y z h=>Qf.inj h▸rfl) (λ_ _ _ h=>nos h) (λ_ _ _ h=>nos h) (λ_ _ h=>nos h) (λ_ _ h=>nos h) (λ_ _ h=>nos h) (λ_ _ _ h=>nos h) (λ_ _ _ _ h=>nos h)
theorem cT {e:Expr}{p:Str×Pos}:cI e=some p->e= .Name p.1 p.2:=Expr.casesOn (motive_1:=λe=>cI e=some p->e= .Name p.1 p.2) e (λ_ _ _ h=>nos h) (λ_ _ _ h=>nos h) (λ_ _ _ _ h=>nos h) (λ_ _ _ h=>nos h) (λ_ _ _ _ h=>nos h) (λ_ _ _ _ h=>nos h) (λ_ _ _ h=>nos h) (λ_ _ _ h=>nos h) (λ_ _ _ _ h=>nos h) (λ_ _ _ _ h=>nos h) (λ_ _ _ _ _ h=>nos h) (λ_ _ _ _ h=>nos h) (λ_ _ h=>nos h) (λ_ _ h=>nos h) (λ_ _ h=>nos h) (λ_ _ _ _ h=>nos h) (λ_ _ _ _ h=>nos h) (λ_ _ _ _ h=>nos h) (λ_ _ h=>nos h) (λ_ _ _ h=>nos h) (λ_ _ _ h=>nos h) (λ_ _ _ h=>nos h) (λ_ _ h=>nos h) (λx y h=>Qf.inj h▸rfl) (λ_ _ h=>nos h) (λ_ _ _ h=>nos h) (λ_ _ _ _ h=>nos h)
theorem nT {e:Expr}{p:Expr×Str×Pos}:nU e=some p->e= .Attribute p.1 p.2.1 p.2.2:=Expr.casesOn (motive_1:=λe=>nU e=some p->e= .Attribute p.1 p.2.1 p.2.2) e (λ_ _ _ h=>nos h) (λ_ _ _ h=>nos h) (λ_ _ _ _ h=>nos h) (λ_ _ _ h=>nos h) (λ_ _ _ _ h=>nos h) (λ_ _ _ _ h=>nos h) (λ_ _ _ h=>nos h) (λ_ _ _ h=>nos h) (λ_ _ _ _ h=>nos h) (λ_ _ _ _ h=>nos h) (λ_ _ _ _ _ h=>nos h) (λ_ _ _ _ h=>nos h) (λ_ _ h=>nos h) (λ_ _ h=>nos h) (λ_ _ h=>nos h) (λ_ _ _ _ h=>nos h) (λ_ _ _ _ h=>nos h) (λ_ _ _ _ h=>nos h) (λ_ _ h=>nos h) (λ_ _ _ h=>nos h) (λx y z h=>Qf.inj h▸rfl) (λ_ _ _ h=>nos h) (λ_ _ h=>nos h) (λ_ _ h=>nos h) (λ_ _ h=>nos h) (λ_ _ _ h=>nos h) (λ_ _ _ _ h=>nos h)
theorem lR {e:Expr}{p:List Expr×Nat×Pos}:gZ e=some p->e= .Tuple p.1 p.2.1 p.2.2:=Expr.casesOn (motive_1:=λe=>gZ e=some p->e= .Tuple p.1 p.2.1 p.2.2) e (λ_ _ _ h=>nos h) (λ_ _ _ h=>nos h) (λ_ _ _ _ h=>nos h) (λ_ _ _ h=>nos h) (λ_ _ _ _ h=>nos h) (λ_ _ _ _ h=>nos h) (λ_ _ _ h=>nos h) (λ_ _ _ h=>nos h) (λ_ _ _ _ h=>nos h) (λ_ _ _ _ h=>nos h) (λ_ _ _ _ _ h=>nos h) (λ_ _ _ _ h=>nos h) (λ_ _ h=>nos h) (λ_ _ h=>nos h) (λ_ _ h=>nos h) (λ_ _ _ _ h=>nos h) (λ_ _ _ _ h=>nos h) (λ_ _ _ _ h=>nos h) (λ_ _ h=>nos h) (λ_ _ _ h=>nos h) (λ_ _ _ h=>nos h) (λ_ _ _ h=>nos h) (λ_ _ h=>nos h) (λ_ _ h=>nos h) (λ_ _ h=>nos h) (λx y z h=>Qf.inj h▸rfl) (λ_ _ _ _ h=>nos h)
theorem zfK {e:Expr}{p:Expr×Expr×Pos}:zdD e=some p->e= .Subscript p.1 p.2.1 p.2.2:=Expr.casesOn (motive_1:=λe=>zdD e=some p->e= .Subscript p.1 p.2.1 p.2.2) e (λ_ _ _ h=>nos h) (λ_ _ _ h=>nos h) (λ_ _ _ _ h=>nos h) (λ_ _ _ h=>nos h) (λ_ _ _ _ h=>nos h) (λ_ _ _ _ h=>nos h) (λ_ _ _ h=>nos h) (λ_ _ _ h=>nos h) (λ_ _ _ _ h=>nos h) (λ_ _ _ _ h=>nos h) (λ_ _ _ _ _ h=>nos h) (λ_ _ _ _ h=>nos h) (λ_ _ h=>nos h) (λ_ _ h=>nos h) (λ_ _ h=>nos h) (λ_ _ _ _ h=>nos h) (λ_ _ _ _ h=>nos h) (λ_ _ _ _ h=>nos h) (λ_ _ h=>nos h) (λ_ _ _ h=>nos h) (λ_ _ _ h=>nos h) (λx y z h=>Qf.inj h▸rfl) (λ_ _ h=>nos h) (λ_ _ h=>nos h) (λ_ _ h=>nos h) (λ_ _ _ h=>nos h) (λ_ _ _ _ h=>nos h)
theorem za9 {e:Expr}{p:Option Expr×Option Expr×Option Expr×Pos}:jL e=some p->e= .Slice p.1 p.2.1 p.2.2.1 p.2.2.2:=Expr.casesOn (motive_1:=λe=>jL e=some p->e= .Slice p.1 p.2.1 p.2.2.1 p.2.2.2) e (λ_ _ _ h=>nos h) (λ_ _ _ h=>nos h) (λ_ _ _ _ h=>nos h) (λ_ _ _ h=>nos h) (λ_ _ _ _ h=>nos h) (λ_ _ _ _ h=>nos h) (λ_ _ _ h=>nos h) (λ_ _ _ h=>nos h) (λ_ _ _ _ h=>nos h) (λ_ _ _ _ h=>nos h) (λ_ _ _ _ _ h=>nos h) (λ_ _ _ _ h=>nos h) (λ_ _ h=>nos h) (λ_ _ h=>nos h) (λ_ _ h=>nos h) (λ_ _ _ _ h=>nos h) (λ_ _ _ _ h=>nos h) (λ_ _ _ _ h=>nos h) (λ_ _ h=>nos h) (λ_ _ _ h=>nos h) (λ_ _ _ h=>nos h) (λ_ _ _ h=>nos h) (λ_ _ h=>nos h) (λ_ _ h=>nos h) (λ_ _ h=>nos h) (λ_ _ _ h=>nos h) (λx y z u h=>Qf.inj h▸rfl)
def dY (e:Expr):Option Str:=(cI e).map (·.1)
def kF (e:Expr):Option (List Str×Bool):=alt ((cI e).map λp=>([p.1],false)) ((gZ e).bind λp=>(cW dY p.1).map λxs=>(xs,true))
def hX (outer:List (Str×NameKind)) (sc:Scope):List (Str×NameKind):=
 sc.names.map λp=>(p.1,if (p.2== .free && outer.lookup p.1==some .cell)=true then .cell else p.2)
def inComp (cx:CC) (sc:Scope) (xs:List Str):CC:=
 {sc:=hX cx.sc sc,vars:=xs.zip (QA cx.next xs.length)++cx.vars,next:=cx.next+xs.length,gl:=cx.gl}
def mX (cx:CC) (sc:Scope) (xs:List Str):Bool:=
 sc.kind== .function &&
 (sc.names.all λp=>p.2 != .cell && (p.2 != .local||(sc.names.lookup p.1==some .local && (xs.contains p.1||(cx.vars.lookup p.1).isNone))) && (p.2 != .free||(sc.names.lookup p.1==some .free && cx.sc.lookup p.1==some .cell))) &&
 xs.all (λx=>sc.names.lookup x==some .local) && decide xs.Nodup
def pQ:List Ex->List Ex->List Ex
 |k::ks,v::vs=>k::v::pQ ks vs
 |_,_=> []
def zcu (cx:CC) (x:Str):Option Ex:=grd (aD x) (Qc (motive:=λ_=>Option Ex) (b0 cx x) (grd (cx.sc.lookup x==some .globalImplicit) ((cx.gl.lookup x).map .lit)) λi=>some (.var i))
def zrn (f:Expr->Option Ex) (cx:CC) (pos:Pos) (as:List Ex) (g:Expr):Option Ex:=
 alt ((cI g).bind λp=>(zcu cx p.1).map λe=> .call e as)
 ((nU g).bind λp=>grd (aD p.2.1 && nN p.1 && p.2.2.endLine==pos.line) ((f p.1).map λe=> .meth e (enc p.2.1) as))
def rX (f:Expr->Option Ex) (lo hi:Option Expr):Option (Nat×List Ex):=
 Qc (motive:=λ_=>Option (Nat×List Ex)) lo
  (Qc (motive:=λ_=>Option (Nat×List Ex)) hi (some (0,[])) λb=>(f b).map λy=>(2,[y]))
  λa=>(f a).bind λx=>Qc (motive:=λ_=>Option (Nat×List Ex)) hi (some (1,[x])) λb=>(f b).map λy=>(3,[x,y])
def zsM (f:Expr->Option Ex) (v sl:Expr):Option Ex:=
 Qc (motive:=λ_=>Option Ex) (jL sl) ((f v).bind λe=>(f sl).map λi=> .sub e i)
  λp=>grd ((cI v).isSome && p.2.2.1.isNone) ((f v).bind λe=>(rX f p.1 p.2.1).map λq=> .slice e q.1 q.2)
def bF:Nat->CC->Expr->Option Ex
 |0,_,_=>none
 |n+1,cx,e=>match e with
  | .Constant c _ _=>(rU c).map .lit
  | .Name x _=>zcu cx x
  | .BoolOp op vs _=>(cW (bF n cx) vs).map (.bop (op== .Or))
  | .BinOp l op r _=>(zO op).bind λo=>(bF n cx l).bind λa=>(bF n cx r).map λb=> .bin o a b
  | .UnaryOp op x _=>grd (op== .Not) ((bF n cx x).map .not)
  | .IfExp t a b _=>(bF n cx t).bind λt'=>(bF n cx a).bind λa'=>(bF n cx b).map λb'=> .ite t' a' b'
  | .List es _=>grd (Qg es.length 1000) ((cW (bF n cx) es).map .list)
  | .Tuple es _ _=>grd (Qg es.length 1000) ((cW (bF n cx) es).map .tup)
  | .Compare l ops cs _=>oE ops λo=>oE cs λr=>(bF n cx l).bind λa=>(bF n cx r).map λb=> .cmp (zL o) a b
  | .Call f as ks pos=>grd (ks.isEmpty && Qg as.length 20) ((cW (bF n cx) as).bind λbs=>zrn (bF n cx) cx pos bs f)
  | .Attribute v nm _=>grd (aD nm && nN v) ((bF n cx v).map λe=> .attr e (enc nm))
  | .Subscript v sl _=>zsM (bF n cx) v sl
  | .Dict ks vs _=>grd (ks.length==vs.length) ((cW (λo=>o.bind (bF n cx)) ks).bind λa=>(cW (bF n cx) vs).map λb=> .dict (pQ a b))
  | .ListComp elt gens sc _=>oE gens λg=>(kF g.target).bind λt=>grd (g.is_async==0 && mX cx sc t.1) ((bF n cx g.iter).bind λit=>(cW (bF n (inComp cx sc t.1)) g.ifs).bind λifs=>
    (bF n (inComp cx sc t.1) elt).map λe=> .comp e (QA cx.next t.1.length) t.2 it ifs)
  |_=>none
abbrev cR:CC->Expr->Option Ex:=bF 60
def zds (cx:CC) (t:Expr):Option T1:=
 alt ((cI t).bind λp=>grd (aD p.1) ((b0 cx p.1).map .nm))
 (alt ((nU t).bind λp=>grd (aD p.2.1) ((cR cx p.1).map λe=> .at e (enc p.2.1)))
 ((zdD t).bind λp=>(cR cx p.1).bind λa=>(cR cx p.2.1).map λb=> .sb a b))
def jP (cx:CC) (x:Str):Option Nat:=grd (aD x) (b0 cx x)
def zdt (cx:CC) (t:Expr):Option (Ex×Nat):=(nU t).bind λp=>grd (aD p.2.1) ((cR cx p.1).map λe=>(e,enc p.2.1))
def pV (v:Expr):Bool:=!cF v && ((gZ v).map λp=>!p.1.all (constantsAlone 8)).getD true
def zct (es:List Expr):Option (List Str):=(cW dY es).bind λxs=>grd (decide xs.Nodup) (some xs)
def zwO (cx:CC) (v t:Expr):Option Sm:=
 Qc (motive:=λ_=>Option Sm) (gZ t) ((zds cx t).bind λa=>(cR cx v).map λb=> .asg a b)
  λp=>grd (pV v) ((cR cx v).bind λb=>alt ((zct p.1).bind λxs=>(cW (jP cx) xs).map λis=> .asgs (is.map .nm) b)
   (grd (!p.1.isEmpty) ((cW (zdt cx) p.1).map λts=> .asgs (ts.map λq=> .at q.1 q.2) b)))
def zfP : Str := "MachineError"
def yO : Str := "ValueError"
def zb8 (cx:CC) (o c:Option Expr):Option Sm:=grd c.isNone (o.bind λe=>(yD e).bind λp=>grd p.2.2.1.isEmpty ((cI p.1).bind λq=>
 grd (q.1==zfP && cx.sc.lookup zfP==some .globalImplicit) (oE p.2.1 λa=>(cR cx a).map .rse)))
def zdE (s:Stmt):Option (Str×Expr):=match s with
 | .Assign [t] v _=>(cI t).map λp=>(p.1,v)
 |_=>none
def zgL (cx:CC) (b:List Stmt) (hs:List ExceptHandler):Option Sm:=oE b λs=>oE hs λh=>match h with
 | .ExceptHandler (some t) none hb _=>(cI t).bind λq=>grd (q.1==yO && cx.sc.lookup yO==some .globalImplicit) (oE hb λs2=>(zdE s).bind λa=>(zdE s2).bind λa2=>
   (sE a2.2).bind λk=>grd (!cF a.2) ((jP cx a.1).bind λx=>(jP cx a2.1).bind λy=>(cR cx a.2).bind λe=>(rU k.1).map λv=> .tr x e y v))
 |_=>none
def fR:Nat->CC->Stmt->Option Sm
 |0,_,_=>none
 |n+1,cx,st=>match st with
  | .Expr v _=>grd (!cF v) ((cR cx v).map .expr)
  | .Pass _=>some .pass
  | .Break _=>some .brk
  | .Continue _=>some .cont
  | .Return v _=>Qc (motive:=λ_=>Option Sm) v (some (.ret (.lit .none))) λe=>(cR cx e).map .ret
  | .Assign ts v _=>oE ts (zwO cx v)
  | .If t a b _=>(cR cx t).bind λx=>(cW (λs=>some ((fR n cx s).getD .raise)) a).bind λy=>(cW (λs=>some ((fR n cx s).getD .raise)) b).map λz=> .ite x y z
  | .While t b e _=>grd e.isEmpty ((cR cx t).bind λx=>(cW (λs=>some ((fR n cx s).getD .raise)) b).map λy=> .wh x y)
  | .For t it b e _=>grd e.isEmpty ((kF t).bind λq=>grd (decide q.1.Nodup) ((cR cx it).bind λx=>(cW (jP cx) q.1).bind λsl=>(cW (λs=>some ((fR n cx s).getD .raise)) b).map λy=> .fo sl q.2 x y))
  | .Raise o c _=>zb8 cx o c
  | .Try b hs e f _=>grd (e.isEmpty && f.isEmpty) (zgL cx b hs)
  |_=>none
abbrev zgh (cx:CC):List Stmt->Option (List Sm):=cW λs=>some ((fR 40 cx s).getD .raise)
def hV (ps:List Str) (sc:Scope):List Str:=
 ps++(sc.names.filter λp=>(p.2== .local||p.2== .cell) && !ps.contains p.1).map (·.1)
def zdh (ps:List Str) (sc:Scope) (gl:List (Str×Val)):CC:=
 {sc:=sc.names,vars:=(hV ps sc).zip (QA 0 (hV ps sc).length),next:=(hV ps sc).length,gl:=gl}
def mZ (gl:List (Str×Val)) (params:Arguments) (body:List Stmt) (sc:Scope):Option (Nat×Nat×List Sm):=
 grd (params.posonlyargs.isEmpty && params.vararg.isNone && params.kwonlyargs.isEmpty && params.kwarg.isNone && sc.kind== .function && !sc.isGenerator && !sc.isCoroutine && (params.args.map (·.arg)).all (λx=>sc.names.lookup x==some .local||sc.names.lookup x==some .cell))
  ((zgh (zdh (params.args.map (·.arg)) sc gl) body).map λb=>((params.args.map (·.arg)).length,(hV (params.args.map (·.arg)) sc).length+6,b))
end Internal
namespace Internal
open PySem PySem.W PySem.Calls PyProof.Rows
abbrev Led:=List (Addr×Obj)
structure Cfg where
 prog:Program
 w:World
 K:Frag
 P:Prg
 ad:List (Nat×Addr)
abbrev Cfg.M (C:Cfg):Model:=model C.prog C.w
def dC : List (Nat × String) := [(rC,"range"),(tL,"list"),(zcx,"dict"),(wI,"tuple"),(zeK,"str"),(zeO,"int"),(y8,"type"),(zeL,"set"),(zcy,"bool"),(jQ,"NoneType")]
def jF : List (Nat × String) := [(wJ,"len"),(zeN,"max"),(zcw,"min"),(rB,"sorted")]
def sOk (s:List Nat):Prop:=(∀c∈s,c<0x110000)/\s.length<=lim
structure Wd where
 σ:List Addr
 tp:Led
structure Wd.le (w w':Wd):Prop where
 s:w.σ<+:w'.σ
 t: ∀p∈w.tp,p∈w'.tp
theorem Wd.le.refl (w:Wd):w.le w:=⟨JD _,λ_ x=>x⟩
theorem Wd.le.trans {a b c:Wd} (x:a.le b) (y:b.le c):a.le c:=⟨x.1.trans y.1,λp hp=>y.2 p (x.2 p hp)⟩
theorem Wd.le.get {w w':Wd} (l:w.le w') {i:Nat}{a:Addr} (h:w.σ[i]?=some a):w'.σ[i]?=some a:=by
 refine QY l.s λt zq21=>?_;refine (Qk.mp h).elim λhl zq20=>?_;rw [<-zq21,Q0 hl];exact h
structure zyg (C:Cfg) (tp:Led) (a:Addr) (o:Obj) (n:Nat) (vs:List Value):Prop where
 at':(a,o)∈tp\/C.K.lookup a=some o
 cls : o.cls = .type "tuple"
 data:o.data= .seq vs.toArray n
structure FlO (C:Cfg) (a:Addr) (o:Obj) (n:Nat) (vs:List Value):Prop where
 at':C.K.lookup a=some o
 cls : o.cls = .type "list"
 data:o.data= .seq vs.toArray n
abbrev zgW (t : Tok) (n : Int) (u v : Tok) : Obj := { cls := .type "range",dict := Qv,data := .fields #[.int 0 t,.int n u,.int 1 v],slots := #[] }
structure zyf (tp:Led) (a:Addr) (o:Obj) (es:Array (Int×Value)) (ep:Nat) (t:SetTable) (n:Nat):Prop where
 at':(a,o)∈tp
 ex:o.ExactSet
 data:o.data= .set es ep t
 fits:t.fits es.size=true
 size:es.size=n
 le:n<=lim
inductive zfL (C:Cfg) (tp:Led) (l:Nat) (R:List Value->Prop) (v:Value):Prop
 |mk (a:Addr) (o:Obj) (n:Nat) (vs:List Value) (e:v= .ref a) (q:zyg C tp a o n vs) (r:R vs) (hl:l<=lim):zfL C tp l R v
inductive FlL (C:Cfg) (l:Nat) (R:List Value->Prop) (v:Value):Prop
 |mk (a:Addr) (o:Obj) (n:Nat) (vs:List Value) (e:v= .ref a) (q:FlO C a o n vs) (r:R vs) (hl:l<=lim):FlL C l R v
inductive ziN (tp:Led) (n:Int) (x:Value):Prop
 |mk (a:Addr) (t u v:Tok) (e:x= .ref a) (h:(a,zgW t n u v)∈tp):ziN tp n x
inductive vF (P:Value->Prop) (R:List Value->Prop) (vs:List Value):Prop
 |mk (v:Value) (r:List Value) (e:vs=v::r) (h:P v) (t:R r):vF P R vs
mutual
noncomputable def aB (C:Cfg) (w:Wd):Val->Value->Prop
 | .none=>λv=>v= .none
 | .bool b=>λv=>v= .bool b
 | .int i=>λv=> ∃t,v= .int i t
 | .str s=>λv=> ∃t,v= .str ⟨s.toArray⟩ t/\sOk s
 | .tup mvs=>λv=>zfL C w.tp mvs.length (aA C w mvs) v
 | .ref i=>λv=> ∃a,v= .ref a/\w.σ[i]?=some a
 | .top id=>λv=> ∃a,v= .ref a/\C.ad.lookup id=some a
 | .ty c=>λv=> ∃n,v= .type n/\dC.lookup c=some n
 | .bi c=>λv=> ∃n,v= .builtin n/\jF.lookup c=some n
 | .rng n=>λx=>ziN w.tp n x
 | .fl mvs=>λv=>FlL C mvs.length (aA C w mvs) v
 | .setn n=>λv=> ∃a o es ep t,v= .ref a/\zyf w.tp a o es ep t n
noncomputable def aA (C:Cfg) (w:Wd):List Val->List Value->Prop
 | []=>λvs=>vs= []
 |m::ms=>λvs=>vF (aB C w m) (aA C w ms) vs
end
section
variable {C:Cfg}{w w':Wd}{x:Val}{v:Value}{mvs:List Val}{vs:List Value}
theorem aA.nil:aA C w [] []:=rfl
theorem aA.cons {m:Val}{ms:List Val} (h:aB C w m v) (r:aA C w ms vs):aA C w (m::ms) (v::vs):=⟨v,vs,rfl,h,r⟩
theorem aA.one (h:aB C w x v):aA C w [x] [v]:= .cons h .nil
theorem aA.length: ∀ {ms:List Val}{vs:List Value},aA C w ms vs->ms.length=vs.length:=by
 intro ms
 induction ms with
 |nil=>intro vs h;exact congrArg ZV (Kt h)
 |cons m ms ih=>
  intro vs h;obtain ⟨v,r,rfl,_,h⟩:=h;exact congrArg Qp (ih h)
theorem aB.mono' (l:w.le w') (m:Val): ∀v,aB C w m v->aB C w' m v:=by
 refine Val.rec (motive_1:=λm=> ∀v,aB C w m v->aB C w' m v) (motive_2:=λms=> ∀vs,aA C w ms vs->aA C w' ms vs) (λ_ h=>h) (λ_ _ h=>h) (λ_ _ h=>h) (λ_ _ h=>h) ?_ ?_ (λ_ _ h=>h) (λ_ _ h=>h) (λ_ _ h=>h) ?_ ?_ ?_ (λ_ h=>h) ?_ m
 ·exact λms ih v h=>zfL.casesOn h λa o n vs e h r k=>⟨a,o,n,vs,e,⟨h.1.imp (l.t _) id,h.2,h.3⟩,ih vs r,k⟩
 ·exact λi v h=>h.elim λa h=>⟨a,h.1,l.get h.2⟩
 ·exact λn v h=>ziN.casesOn h λa t u x e h=>⟨a,t,u,x,e,l.t _ h⟩
 ·exact λms ih v h=>FlL.casesOn h λa o n vs e h r k=>⟨a,o,n,vs,e,h,ih vs r,k⟩
 ·exact λn v h=>by
   obtain ⟨a,o,es,ep,t,e,h⟩:=h;exact ⟨a,o,es,ep,t,e,l.t _ h.1,h.2,h.3,h.4,h.5,h.6⟩
 ·exact λm ms i1 i2 vs h=>vF.casesOn h λv r e h h'=>⟨v,r,e,i1 v h,i2 r h'⟩
theorem aB.mono (l:w.le w') (h:aB C w x v):aB C w' x v:=aB.mono' l x v h
theorem aA.mono (l:w.le w'): ∀ {ms:List Val}{vs:List Value},aA C w ms vs->aA C w' ms vs:=by
 intro ms
 induction ms with
 |nil=>exact λh=>h
 |cons m ms ih=>
  exact λh=>vF.casesOn h λv r e h h'=>⟨v,r,e,h.mono l,ih h'⟩
theorem aA.get: ∀ {ms:List Val}{vs:List Value}{i:Nat}{m:Val},aA C w ms vs->ms[i]?=some m-> ∃v,vs[i]?=some v/\aB C w m v:=by
 intro ms
 induction ms with
 |nil=>exact λ_ e=>nos e
 |cons m ms ih=>
  intro vs i m' h e;obtain ⟨v,r,rfl,h,h'⟩:=h;cases i with
  |zero=>exact ⟨v,rfl,Qf.inj e▸h⟩
  |succ i=>exact ih (i:=i) h' e
theorem aA.append {ms':List Val}{vs':List Value} (h':aA C w ms' vs'): ∀ {ms:List Val}{vs:List Value},aA C w ms vs->aA C w (ms++ms') (vs++vs'):=by
 intro ms
 induction ms with
 |nil=>intro vs h;rw [show vs= [] from h];exact h'
 |cons m ms ih=>
  exact λh=>vF.casesOn h λv r e h hr=>⟨v,r++vs',congrArg (· ++vs') e,h,ih hr⟩
theorem aB.int? {i:Int}:aB C w x v->x.int?=some i-> ∃t,v= .int i t:=
 Val.casesOn (motive_1:=λx=>aB C w x v->x.int?=some i-> ∃t,v= .int i t) x (λ_ e=>nos e) (λ_ _ e=>nos e) (λ_ h e=>Qf.inj e▸h) (λ_ _ e=>nos e) (λ_ _ e=>nos e) (λ_ _ e=>nos e) (λ_ _ e=>nos e) (λ_ _ e=>nos e) (λ_ _ e=>nos e) (λ_ _ e=>nos e) (λ_ _ e=>nos e) (λ_ _ e=>nos e)
theorem aB.str? {i:List Nat}:aB C w x v->x.str?=some i-> ∃t,v= .str ⟨i.toArray⟩ t/\sOk i:=
 Val.casesOn (motive_1:=λx=>aB C w x v->x.str?=some i-> ∃t,v= .str ⟨i.toArray⟩ t/\sOk i) x (λ_ e=>nos e) (λ_ _ e=>nos e) (λ_ _ e=>nos e) (λ_ h e=>Qf.inj e▸h) (λ_ _ e=>nos e) (λ_ _ e=>nos e) (λ_ _ e=>nos e) (λ_ _ e=>nos e) (λ_ _ e=>nos e) (λ_ _ e=>nos e) (λ_ _ e=>nos e) (λ_ _ e=>nos e)
theorem tup?_s {i:List Val}:x.tup?=some i->x= .tup i:=
 Val.casesOn (motive_1:=λx=>x.tup?=some i->x= .tup i) x (λe=>nos e) (λ_ e=>nos e) (λ_ e=>nos e) (λ_ e=>nos e) (λ_ e=>Qf.inj e▸rfl) (λ_ e=>nos e) (λ_ e=>nos e) (λ_ e=>nos e) (λ_ e=>nos e) (λ_ e=>nos e) (λ_ e=>nos e) (λ_ e=>nos e)
theorem ref?_s {i:Nat}:x.ref?=some i->x= .ref i:=
 Val.casesOn (motive_1:=λx=>x.ref?=some i->x= .ref i) x (λe=>nos e) (λ_ e=>nos e) (λ_ e=>nos e) (λ_ e=>nos e) (λ_ e=>nos e) (λ_ e=>Qf.inj e▸rfl) (λ_ e=>nos e) (λ_ e=>nos e) (λ_ e=>nos e) (λ_ e=>nos e) (λ_ e=>nos e) (λ_ e=>nos e)
theorem top?_s {i:Nat}:x.top?=some i->x= .top i:=
 Val.casesOn (motive_1:=λx=>x.top?=some i->x= .top i) x (λe=>nos e) (λ_ e=>nos e) (λ_ e=>nos e) (λ_ e=>nos e) (λ_ e=>nos e) (λ_ e=>nos e) (λ_ e=>Qf.inj e▸rfl) (λ_ e=>nos e) (λ_ e=>nos e) (λ_ e=>nos e) (λ_ e=>nos e) (λ_ e=>nos e)
theorem ty?_s {i:Nat}:x.ty?=some i->x= .ty i:=
 Val.casesOn (motive_1:=λx=>x.ty?=some i->x= .ty i) x (λe=>nos e) (λ_ e=>nos e) (λ_ e=>nos e) (λ_ e=>nos e) (λ_ e=>nos e) (λ_ e=>nos e) (λ_ e=>nos e) (λ_ e=>Qf.inj e▸rfl) (λ_ e=>nos e) (λ_ e=>nos e) (λ_ e=>nos e) (λ_ e=>nos e)
theorem bi?_s {i:Nat}:x.bi?=some i->x= .bi i:=
 Val.casesOn (motive_1:=λx=>x.bi?=some i->x= .bi i) x (λe=>nos e) (λ_ e=>nos e) (λ_ e=>nos e) (λ_ e=>nos e) (λ_ e=>nos e) (λ_ e=>nos e) (λ_ e=>nos e) (λ_ e=>nos e) (λ_ e=>Qf.inj e▸rfl) (λ_ e=>nos e) (λ_ e=>nos e) (λ_ e=>nos e)
theorem fl?_s {i:List Val}:x.fl?=some i->x= .fl i:=
 Val.casesOn (motive_1:=λx=>x.fl?=some i->x= .fl i) x (λe=>nos e) (λ_ e=>nos e) (λ_ e=>nos e) (λ_ e=>nos e) (λ_ e=>nos e) (λ_ e=>nos e) (λ_ e=>nos e) (λ_ e=>nos e) (λ_ e=>nos e) (λ_ e=>nos e) (λ_ e=>Qf.inj e▸rfl) (λ_ e=>nos e)
theorem bool?_s {i:Bool}:x.bool?=some i->x= .bool i:=
 Val.casesOn (motive_1:=λx=>x.bool?=some i->x= .bool i) x (λe=>nos e) (λ_ e=>Qf.inj e▸rfl) (λ_ e=>nos e) (λ_ e=>nos e) (λ_ e=>nos e) (λ_ e=>nos e) (λ_ e=>nos e) (λ_ e=>nos e) (λ_ e=>nos e) (λ_ e=>nos e) (λ_ e=>nos e) (λ_ e=>nos e)
theorem rng?_s {i:Int}:x.rng?=some i->x= .rng i:=
 Val.casesOn (motive_1:=λx=>x.rng?=some i->x= .rng i) x (λe=>nos e) (λ_ e=>nos e) (λ_ e=>nos e) (λ_ e=>nos e) (λ_ e=>nos e) (λ_ e=>nos e) (λ_ e=>nos e) (λ_ e=>nos e) (λ_ e=>nos e) (λ_ e=>Qf.inj e▸rfl) (λ_ e=>nos e) (λ_ e=>nos e)
theorem uE:x.isNone=true->x= .none:=
 Val.casesOn (motive_1:=λx=>x.isNone=true->x= .none) x (λ_=>rfl) (λ_=>nofun) (λ_=>nofun) (λ_=>nofun) (λ_=>nofun) (λ_=>nofun) (λ_=>nofun) (λ_=>nofun) (λ_=>nofun) (λ_=>nofun) (λ_=>nofun) (λ_=>nofun)
theorem list?_s {o:MObj}{i:List Val}:o.list?=some i->o= .list i:=
 MObj.casesOn (motive:=λo=>o.list?=some i->o= .list i) o (λ_ e=>Qf.inj e▸rfl) (λ_ _ e=>nos e) (λ_ _ e=>nos e)
theorem dict?_s {o:MObj}{i:Option Nat×List (Val×Val)}:o.dict?=some i->o= .dict i.1 i.2:=
 MObj.casesOn (motive:=λo=>o.dict?=some i->o= .dict i.1 i.2) o (λ_ e=>nos e) (λ_ _ e=>Qf.inj e▸rfl) (λ_ _ e=>nos e)
theorem inst?_s {o:MObj}{i:Nat×List (Nat×Val)}:o.inst?=some i->o= .inst i.1 i.2:=
 MObj.casesOn (motive:=λo=>o.inst?=some i->o= .inst i.1 i.2) o (λ_ e=>nos e) (λ_ _ e=>nos e) (λ_ _ e=>Qf.inj e▸rfl)
end
inductive ziS (n:Nat) (P:Value->Prop) (R:List DictEntry->Prop) (es:List DictEntry):Prop
 |mk (x:Str) (t:Tok) (hsh:Int) (v:Value) (r:List DictEntry) (e:es=⟨hsh,.str x t,v⟩::r) (nm:aD x=true) (en:enc x=n) (h:P v) (t:R r):ziS n P R es
def f5 (C:Cfg) (w:Wd):List (Nat×Val) ->List DictEntry->Prop
 | []=>λes=>es= []
 |p::fs=>λes=>ziS p.1 (aB C w p.2) (f5 C w fs) es
theorem f5.mono {C:Cfg}{w w':Wd} (l:w.le w'): ∀ {fs:List (Nat×Val)}{es:List DictEntry},f5 C w fs es->f5 C w' fs es:=by
 intro fs
 induction fs with
 |nil=>exact λh=>h
 |cons p fs ih=>
  exact λh=>ziS.casesOn h λx t hsh v r e h1 h2 h3 h4=>⟨x,t,hsh,v,r,e,h1,h2,h3.mono l,ih h4⟩
set_option genInjectivity true in
inductive Atom where
 |i (n:Int)
 |s (x:Str)
 deriving DecidableEq
def Atom.val (a:Atom):Val:=Atom.casesOn (motive:=λ_=>Val) a .int (λx=> .str x.cps.toList)
def Atom.is (a:Atom) (v:Value):Bool:=Atom.casesOn (motive:=λ_=>Bool) a (λn=>KH n v) (λx=>Value.isStrOf x v)
def Atom.hash (w:World) (a:Atom):Int:=Atom.casesOn (motive:=λ_=>Int) a hashInt (λx=>hashStr w x)
theorem Atom.inj (v:Value) (a b:Atom) (ha:a.is v=true) (hb:b.is v=true):a=b:=by
 cases a with
 |i n=>
  cases b with
  |i k=>rw [Value.isInt_inj v _ _ ha hb]
  |s y=>obtain ⟨t,rfl⟩:=Q5 ha;cases hb
 |s x=>
  cases b with
  |i k=>obtain ⟨t,rfl⟩:=Q5 hb;cases ha
  |s y=>rw [Value.isStrOf_inj v _ _ ha hb]
theorem Atom.byValue (k:Atom) (v:Value) (h:k.is v=true):carriedByValue v=true:=by
 cases k with
 |i n=>obtain ⟨t,rfl⟩:=Q5 h;rfl
 |s x=>obtain ⟨t,rfl⟩:=Jd h;rfl
theorem Atom.pyHash {prog:Program}{w:World}{A:Around}{E:Value->Shared->Prop}{s:Shared}{k:Atom}{v:Value}{Q:Int->Shared->Prop} (hv:k.is v=true) (h:Q (k.hash w) {s with toks:=s.toks+1}):wpAny (model prog w) A (PySem.pyHash v) Q E s:=by
 cases k with
 |i n=>obtain ⟨t,rfl⟩:=Q5 hv;exact wpAny_pyHash_int h
 |s x=>obtain ⟨t,rfl⟩:=Jd hv;exact wpAny_pyHash_str h
theorem Atom.eqBool {prog:Program}{w:World}{A:Around}{E:Value->Shared->Prop}{s:Shared}{a b:Atom}{u v:Value}{Q:Bool->Shared->Prop} (hu:a.is u=true) (hv:b.is v=true) (h:Q (decide (a=b)) s):wpAny (model prog w) A (PySem.eqBool u v) Q E s:=by
 cases a with
 |i n=>
  obtain ⟨t,rfl⟩:=Q5 hu;cases b with
  |i k=>
   obtain ⟨u,rfl⟩:=Q5 hv;refine wpAny_eqBool_int ?_;simp only [Atom.i.injEq] at h
   first|exact h|(simp only [beq_eq_decide];exact h)
  |s y=>
   obtain ⟨u,rfl⟩:=Jd hv;exact SeqAt.EqAt.int_str _ _ _ _ _ _ _ _ (by simpa using h)
 |s x=>
  obtain ⟨t,rfl⟩:=Jd hu;cases b with
  |i k=>
   obtain ⟨u,rfl⟩:=Q5 hv;exact SeqAt.EqAt.str_int _ _ _ _ _ _ _ _ (by simpa using h)
  |s y=>
   obtain ⟨u,rfl⟩:=Jd hv;exact wpAny_eqBool_str (by simpa using h)
theorem Atom.strKeys (k:Atom) (x:Str) (t:Tok) (v:Value) (h:k.is (.str x t)=true):k.is v=v.isStr x:=by
 cases k with
 |i n=>cases h
 |s y=>
  have h':(x==y)=true:=h;rw [beq_iff_eq] at h';subst h';cases v<;>rfl
def bB (prog:Program) (w:World):KeyKind prog w Atom:=
 ⟨Atom.is,Atom.hash w,Atom.inj,Atom.byValue,Atom.pyHash,Atom.eqBool,Atom.strKeys⟩
def Atom.ok (a:Atom):Prop:=Atom.casesOn (motive:=λ_=>Prop) a (λ_=>True) (λx=>sOk x.cps.toList)
structure DA (C:Cfg) (w:Wd) (mes:List (Val×Val)) (es:List DictEntry) (kvs:List (Atom×Value)):Prop where
 p:Pairs (bB C.prog C.w) es kvs
 k:KeysOf (bB C.prog C.w) es.toArray
 n:(kvs.map (·.1)).Nodup
 e:mes.map (·.1)=kvs.map (λp=>p.1.val)
 ok: ∀p∈kvs,p.1.ok
 r:aA C w (mes.map (·.2)) (kvs.map (·.2))
structure DT (C:Cfg) (w:Wd) (mes:List (Val×Val)) (es:List DictEntry) (xs:List (List Atom×Addr×Value)):Prop where
 es:es=xs.map (entryOfKey (tupleKind (bB C.prog C.w)))
 n:(xs.map (·.1)).Nodup
 v: ∀x∈xs,aB C w (.tup (x.1.map Atom.val)) (.ref x.2.1)
 e:mes.map (·.1)=xs.map (λx=>Val.tup (x.1.map Atom.val))
 r:aA C w (mes.map (·.2)) (xs.map (·.2.2))
def dT (C:Cfg) (w:Wd) (mes:List (Val×Val)) (es:List DictEntry):Prop:=(∃kvs,DA C w mes es kvs)\/∃xs,DT C w mes es xs
theorem dT.mono {C:Cfg}{w w':Wd} (l:w.le w') {mes:List (Val×Val)}{es:List DictEntry} (h:dT C w mes es):dT C w' mes es:=
 h.imp (λ⟨kvs,D⟩=>⟨kvs,D.p,D.k,D.n,D.e,D.ok,D.r.mono l⟩) λ⟨xs,D⟩=>⟨xs,D.es,D.n,λx hx=>(D.v x hx).mono l,D.e,D.r.mono l⟩
inductive ziP (C:Cfg) (w:Wd) (a:Addr) (mvs:List Val) (en:Led):Prop
 |mk (vs:List Value) (n:Nat) (e:en= [(a,listOf vs.toArray n)]) (r:aA C w mvs vs) (l:mvs.length<=lim):ziP C w a mvs en
inductive ziU (C:Cfg) (w:Wd) (a:Addr) (ep:Option Nat) (mes:List (Val×Val)) (en:Led):Prop
 |mk (es:List DictEntry) (n:Nat) (e:en= [(a,dictOf es n)]) (hep: ∀e,ep=some e->n=e) (d:dT C w mes es) (l:mes.length<=lim):ziU C w a ep mes en
inductive ziQ (C:Cfg) (w:Wd) (a:Addr) (id:Nat) (fs:List (Nat×Val)) (en:Led):Prop
 |mk (c dx:Addr) (es:List DictEntry) (n:Nat) (e:en= [(a,instObj c dx),(dx,dictOf es n)]) (hc:C.ad.lookup id=some c) (f:f5 C w fs es) (l:fs.length<=500):ziQ C w a id fs en
def gQ (C:Cfg) (w:Wd) (a:Addr) (o:MObj):Led->Prop:=MObj.casesOn (motive:=λ_=>Led->Prop) o
 (ziP C w a) (ziU C w a) (ziQ C w a)
theorem gQ.mono {C:Cfg}{w w':Wd} (l:w.le w') {a:Addr}{o:MObj}{en:Led}:gQ C w a o en->gQ C w' a o en:=
 MObj.casesOn (motive:=λo=>gQ C w a o en->gQ C w' a o en) o
  (λ_ h=>ziP.casesOn h λvs n e h k=> .mk vs n e (h.mono l) k) (λ_ _ h=>ziU.casesOn h λes n e h h' k=> .mk es n e h (h'.mono l) k) (λ_ _ h=>ziQ.casesOn h λc dx es n e h h' k=> .mk c dx es n e h (h'.mono l) k)
inductive zdJ (P:MObj->Led->Prop) (R:MH->List Led->Prop) (H:MH) (os:List Led):Prop
 |mk (o:MObj) (H':MH) (en:Led) (os':List Led) (e1:H=o::H') (e2:os=en::os') (h:P o en) (t:R H' os'):zdJ P R H os
def eW (C:Cfg) (w:Wd):List Addr->MH->List Led->Prop
 | []=>λH os=>H= []/\os= []
 |a::as=>zdJ (gQ C w a) (eW C w as)
theorem eW.mono {C:Cfg}{w w':Wd} (l:w.le w'): ∀ {as:List Addr}{H:MH}{os:List Led},eW C w as H os->eW C w' as H os:=by
 intro as
 induction as with
 |nil=>exact λh=>h
 |cons a as ih=>
  exact λh=>zdJ.casesOn h λo H' en os' e1 e2 h r=>⟨o,H',en,os',e1,e2,h.mono l,ih r⟩
theorem eW.snoc {C:Cfg}{w:Wd}{a:Addr}{o:MObj}{en:Led} (h':gQ C w a o en): ∀ {as:List Addr}{H:MH}{os:List Led},eW C w as H os->eW C w (as++ [a]) (H++ [o]) (os++ [en]):=by
 intro as
 induction as with
 |nil=>
  exact λh=>⟨o,[],en,[],congrArg (· ++ [o]) h.1,congrArg (· ++ [en]) h.2,h',rfl,rfl⟩
 |cons b as ih=>
  exact λh=>zdJ.casesOn h λo1 H' en1 os' e1 e2 h r=>⟨o1,H'++ [o],en1,os'++ [en],congrArg (· ++ [o]) e1,congrArg (· ++ [en]) e2,h,ih r⟩
theorem eW.length {C:Cfg}{w:Wd}: ∀ {as:List Addr}{H:MH}{os:List Led},eW C w as H os->as.length=H.length:=by
 intro as
 induction as with
 |nil=>exact λh=>congrArg ZV h.1.symm
 |cons b as ih=>exact λh=>zdJ.casesOn h λo1 H' en1 os' e1 _ _ r=>(congrArg Qp (ih r)).trans (congrArg ZV e1.symm)
inductive zgu (C:Cfg) (w:Wd) (as:List Addr) (i:Nat) (a:Addr) (o:MObj) (H:MH) (os:List Led):Prop
 |mk (pre:List Led) (en:Led) (post:List Led) (e:os=pre++en::post) (r:gQ C w a o en) (g: ∀o' en',gQ C w a o' en'->eW C w as (H.set i o') (pre++en'::post)):zgu C w as i a o H os
theorem eW.at {C:Cfg}{w:Wd}{a:Addr}{o:MObj}: ∀ {as:List Addr}{i:Nat}{H:MH}{os:List Led},eW C w as H os->as[i]?=some a->H[i]?=some o->
  zgu C w as i a o H os:=by
 intro as
 induction as with
 |nil=>exact λ_ e=>nos e
 |cons b as ih=>
  intro i H os h ha ho;obtain ⟨o1,H',en1,os',rfl,rfl,h,r⟩:=h;cases i with
  |zero=>
   cases ha;cases ho;exact ⟨[],en1,os',rfl,h,λo' en' h'=>⟨o',H',en',os',rfl,rfl,h',r⟩⟩
  |succ i=>
   obtain ⟨pre,en,post,rfl,hr,k⟩:=ih (i:=i) r ha ho;exact ⟨en1::pre,en,post,rfl,hr,λo' en' h'=>⟨o1,_,en1,_,rfl,rfl,h,k o' en' h'⟩⟩
structure Kp where
 ce:Led
 ex:Led
 m:Str->Option Value
def Led.nd (l:Led):Prop:=(l.map (·.1)).Nodup
theorem Led.nd.perm {a b:Led} (p:a.Perm b) (h:Led.nd a):Led.nd b:=(p.map λq:Addr×Obj=>q.1).nodup_iff.mp h
def Kp.all (k:Kp) (w:Wd) (os:List Led):Led:=os.flatten++(w.tp++(k.ce++k.ex))
inductive OsO (C:Cfg) (h₀:Heap) (L:Addr) (k:Kp) (w:Wd) (H:MH) (h:Heap):Prop
 |mk (os:List Led) (he:eW C w w.σ H os) (hn:News h₀ L h (k.all w os)) (hd:Led.nd (k.all w os)):OsO C h₀ L k w H h
structure Sta (C:Cfg) (h₀:Heap) (L:Addr) (k:Kp) (w:Wd) (H:MH) (h:Heap):Prop where
 fr:Fr h₀ L h k.m
 os:OsO C h₀ L k w H h
 big:4<=h₀.objs.size
 lo: ∀a∈w.σ,4<=a
theorem iJ {d:Addr}{o o':Obj}{post:Led}: ∀ {pre:Led},Led.nd (pre++(d,o)::post) ->Upd d o o' (pre++(d,o)::post) (pre++(d,o')::post):=by
 intro pre
 induction pre with
 |nil=>exact λh=> .head λp hp e=>(Qu.mp h).1 (QC.mpr ⟨p,hp,e⟩)
 |cons q pre ih=>exact λh=> .tail (λe=>(Qu.mp h).1 (QC.mpr ⟨(d,o),Qi _ (.head _),e.symm⟩)) (ih (Qu.mp h).2)
section
variable {C:Cfg}{h₀:Heap}{L:Addr}{k:Kp}{w:Wd}{H:MH}{h:Heap}
theorem Sta.len (S:Sta C h₀ L k w H h):w.σ.length=H.length:=OsO.casesOn S.os λ_ he _ _=>he.length
inductive SAt (C:Cfg) (h₀:Heap) (L:Addr) (k:Kp) (w:Wd) (H:MH) (h:Heap) (i:Nat) (a:Addr) (o:MObj):Prop
 |mk (pre en post:Led) (r:gQ C w a o en) (n:News h₀ L h (pre++(en++post))) (d:Led.nd (pre++(en++post)))
   (g: ∀o' en' h',en'.map (·.1)=en.map (·.1) ->gQ C w a o' en'->Fr h₀ L h' k.m->News h₀ L h' (pre++(en'++post)) ->Sta C h₀ L k w (H.set i o') h'):SAt C h₀ L k w H h i a o
theorem Sta.at (S:Sta C h₀ L k w H h) {i:Nat}{a:Addr}{o:MObj} (ha:w.σ[i]?=some a) (ho:H[i]?=some o):
  SAt C h₀ L k w H h i a o:=by
 obtain ⟨os,he,hn,hd⟩:=S.os;obtain ⟨pre,en,post,rfl,hr,g⟩:=he.at ha ho;have e: ∀en1:Led,k.all w (pre++en1::post)=pre.flatten++(en1++(post.flatten++(w.tp++(k.ce++k.ex)))):=by
  intro en1;unfold Kp.all;rw [ZZ,JR,Jb,Jb]
 rw [e] at hn hd;refine ⟨pre.flatten,en,_,hr,hn,hd,λo' en' h' hm hr' F N=>⟨F,⟨pre++en'::post,g o' en' hr',(e en').symm▸N,(e en').symm▸?_⟩,S.big,S.lo⟩⟩;unfold Led.nd at hd ⊢;rw [QF,QF] at hd ⊢;rw [hm];exact hd
theorem l3 (k:Kp) (w:Wd) (a:Addr) (en:Led) (os:List Led):(en++k.all w os).Perm (k.all ⟨w.σ++ [a],w.tp⟩ (os++ [en])):=by
 unfold Kp.all;rw [ZZ,JR,List.flatten_nil,Jn,Jb];exact Q9 _ _ _
theorem y5 (k:Kp) (w:Wd) (p:Addr×Obj) (os:List Led):([p]++k.all w os).Perm (k.all ⟨w.σ,p::w.tp⟩ os):=(Zz (a:=p) (l₁:=os.flatten) (l₂:=w.tp++(k.ce++k.ex))).symm
theorem Sta.loNew (S:Sta C h₀ L k w H h) {a:Addr} (ha:4<=a): ∀b∈w.σ++ [a],4<=b:=λb hb=>(Jf.mp hb).elim (S.lo b) λhb=>Ql.mp hb▸ha
theorem Sta.four (S:Sta C h₀ L k w H h) {a:Addr} (ha:h.objs.size<=a):4<=a:=Qe S.big (Qe S.fr.above (Qe (Jq S.fr.ns.lt) ha))
inductive zfO (C:Cfg) (h₀:Heap) (L:Addr) (k:Kp) (w:Wd) (H:MH) (h:Heap):Prop
 |mk (all:Led) (n:News h₀ L h all)
  (add: ∀ (a:Addr) (o:MObj) (en:Led) (h':Heap),gQ C ⟨w.σ++ [a],w.tp⟩ a o en->Fr h₀ L h' k.m->News h₀ L h' (en++all) ->Led.nd en->(∀p∈en,∀q∈all,p.1≠q.1) ->4<=a->Sta C h₀ L k ⟨w.σ++ [a],w.tp⟩ (H++ [o]) h')
  (tp: ∀ (a:Addr) (o:Obj) (h':Heap),Fr h₀ L h' k.m->News h₀ L h' ((a,o)::all) ->h.objs.size<=a->Sta C h₀ L k ⟨w.σ,(a,o)::w.tp⟩ H h')
  (heap: ∀h':Heap,Fr h₀ L h' k.m->News h₀ L h' all->Sta C h₀ L k w H h'):zfO C h₀ L k w H h
theorem rA {en all:Led} (h:Led.nd en) (h':Led.nd all) (hf: ∀p∈en,∀q∈all,p.1≠q.1):Led.nd (en++all):=by
 unfold Led.nd;rw [QF,J2];refine ⟨h,h',λx hx y hy=>?_⟩;obtain ⟨p,hp,rfl⟩:=QC.mp hx;obtain ⟨q,hq,rfl⟩:=QC.mp hy;exact hf p hp q hq
theorem News.fresh {all en:Led} (hn:News h₀ L h all) (he: ∀p∈en,h.objs.size<=p.1): ∀p∈en,∀q∈all,p.1≠q.1:=
 λp hp q hq e=>absurd (Zi (hn q hq).1) (ZJ.mpr (e▸he p hp))
theorem cD (p:Addr×Obj):Led.nd [p]:=Qu.mpr ⟨QB,.nil⟩
theorem Sta.ledger (S:Sta C h₀ L k w H h):zfO C h₀ L k w H h:=by
 obtain ⟨os,he,hn,hd⟩:=S.os;refine ⟨_,hn,λa o en h' hr F N hen hf h4=>⟨F,⟨os++ [en],eW.snoc hr (eW.mono (w:=w) (w':=⟨w.σ++ [a],w.tp⟩) ⟨Qs _ _,λ_ x=>x⟩ he),λp hp=>N p ((l3 k w a en os).mem_iff.mpr hp),Led.nd.perm (l3 k w a en os) (rA hen hd hf)⟩,S.big,S.loNew h4⟩,
  λa o h' F N ha=>⟨F,⟨os,eW.mono (w:=w) (w':=⟨w.σ,(a,o)::w.tp⟩) ⟨JD _,λ_ x=> .tail _ x⟩ he,λp hp=>N p ((y5 k w (a,o) os).mem_iff.mpr hp),Led.nd.perm (y5 k w (a,o) os) (rA (cD _) hd (News.fresh hn λp hp=>Ql.mp hp▸ha))⟩,S.big,S.lo⟩,
  λh' F N=>⟨F,⟨os,he,N,hd⟩,S.big,S.lo⟩⟩
theorem Sta.news (S:Sta C h₀ L k w H h): ∃all,News h₀ L h all:=OsO.casesOn S.os λ_ _ hn _=>⟨_,hn⟩
theorem Sta.tpAt (S:Sta C h₀ L k w H h) {c:Addr}{o:Obj} (hc:(c,o)∈w.tp):h.get? c=some o:=OsO.casesOn S.os λ_ _ hn _=>(hn (c,o) (Qi _ (QT _ hc))).1
theorem Sta.ceAt (S:Sta C h₀ L k w H h) {c:Addr}{o:Obj} (hc:(c,o)∈k.ce):h.get? c=some o:=OsO.casesOn S.os λ_ _ hn _=>(hn (c,o) (Qi _ (Qi _ (QT _ hc)))).1
theorem Sta.exAt (S:Sta C h₀ L k w H h) {c:Addr}{o:Obj} (hc:(c,o)∈k.ex):h.get? c=some o:=OsO.casesOn S.os λ_ _ hn _=>(hn (c,o) (Qi _ (Qi _ (Qi _ hc)))).1
inductive IsL (C:Cfg) (w:Wd) (h:Heap) (v:Value) (mvs:List Val):Prop
 |mk (a:Addr) (vs:List Value) (n:Nat) (e:v= .ref a) (g:h.get? a=some (listOf vs.toArray n)) (r:aA C w mvs vs) (l:mvs.length<=lim):IsL C w h v mvs
theorem Sta.list (S:Sta C h₀ L k w H h) {x:Val}{v:Value}{mvs:List Val} (hv:aB C w x v) (ho:aI H x=some mvs):
  IsL C w h v mvs:=by
 obtain ⟨i,e,h1⟩:=bs ho;obtain ⟨o,hi,h2⟩:=bs h1;cases ref?_s e;cases list?_s h2;obtain ⟨a,rfl,ha⟩:=hv;obtain ⟨pre,en,post,⟨vs,n,rfl,r,l⟩,hn,_,_⟩:=S.at ha hi;exact ⟨a,vs,n,rfl,(hn (a,_) (Qi _ (.head _))).1,r,l⟩
end
structure aH (C:Cfg) (d e:Nat) where
 A:Around
 h₀:Heap
 L:Addr
 envF:Env
 below: ∃A₀ base outer,Below A₀ base outer h₀/\A.frames=some (envF::outer)
 k:C.K.In h₀
 top: ∃p loose mean mg mb,Top p loose mean mg mb h₀
 frame:envF.frame=some L
 kind:envF.scope.kind= .function
 handled:A.handled=none
 depth:A.depth+4*d+2+e<=900
 units:A.units+20*d+190+5*e<=9900
def aH.toW {C:Cfg}{d e:Nat} (Y:aH C d e):aH C d 0:=
 {A:=Y.A,h₀:=Y.h₀,L:=Y.L,envF:=Y.envF,below:=Y.below,k:=Y.k,top:=Y.top,frame:=Y.frame,kind:=Y.kind,handled:=Y.handled,depth:=Qe (Jo (QO e) _) Y.depth,units:=Qe (Jo (QO _) _) Y.units}
abbrev St {C:Cfg}{d e:Nat} (Y:aH C d e) (k:Kp) (w:Wd) (H:MH) (s:Shared):Prop:=Sta C Y.h₀ Y.L k w H s.heap
structure dR (s s':Shared):Prop where
 g:s'.gens=s.gens
 o:s'.os=s.os
theorem dR.refl (s:Shared):dR s s:=⟨rfl,rfl⟩
theorem dR.trans {a b c:Shared} (x:dR a b) (y:dR b c):dR a c:=⟨y.1.trans x.1,y.2.trans x.2⟩
structure Nxt {C:Cfg}{d e:Nat} (Y:aH C d e) (k:Kp) (w w':Wd) (H':MH) (s s':Shared):Prop where
 le:w.le w'
 st:St Y k w' H' s'
 same:dR s s'
def yJ {α β:Type}{C:Cfg}{d e:Nat} (Y:aH C d e) (k:Kp) (R:Wd->β->α->Prop) (t:Sem α) (w:Wd) (s:Shared) (r:β) (H':MH):Prop:=
 ∀ (Q:α->Shared->Prop) (E:Value->Shared->Prop),(∀w' a s',Nxt Y k w w' H' s s'->R w' r a->Q a s') ->wpAny C.M Y.A t Q E s
def Ref {α β:Type}{C:Cfg}{d e:Nat} (Y:aH C d e) (k:Kp) (R:Wd->β->α->Prop) (t:Sem α) (w:Wd) (s:Shared) (o:Option (β×MH)):Prop:=
 ∀r,o=some r->yJ Y k R t w s r.1 r.2
section
variable {α β γ δ:Type}{C:Cfg}{d e:Nat}{Y:aH C d e}{k:Kp}{R:Wd->β->α->Prop}{R':Wd->δ->γ->Prop}{w:Wd}{s:Shared}{t:Sem α}{o:Option (β×MH)}{H:MH}
theorem Nxt.refl (S:St Y k w H s):Nxt Y k w w H s s:=⟨.refl w,S,.refl s⟩
theorem Nxt.toks (S:St Y k w H s) (n:Nat):Nxt Y k w w H s {s with toks:=n}:=⟨.refl w,S,rfl,rfl⟩
theorem Nxt.trans {w1 w2:Wd}{H1 H2:MH}{s1 s2:Shared} (a:Nxt Y k w w1 H1 s s1) (b:Nxt Y k w1 w2 H2 s1 s2):Nxt Y k w w2 H2 s s2:=⟨a.le.trans b.le,b.st,a.same.trans b.same⟩
theorem Ref.none:Ref Y k R t w s none:=λ_ h=>nos h
theorem Ref.bind {f:β->MH->Option (δ×MH)}{g:α->Sem γ} (h:Ref Y k R t w s o) (hk: ∀w' a s' r H1,Nxt Y k w w' H1 s s'->R w' r a->Ref Y k R' (g a) w' s' (f r H1)):Ref Y k R' (t>>=g) w s (bnd o f):=by
 intro r' e Q E hq;cases o with
 |none=>exact nos e
 |some p=>exact wpAny_bind (h p rfl _ _ λw' a s' n1 r1=>hk w' a s' p.1 p.2 n1 r1 r' e Q E λw2 a2 s2 n2 r2=>hq w2 a2 s2 (n1.trans n2) r2)
theorem Ref.pure' {r:β}{a:α} (S:St Y k w H s) (hr:R w r a):Ref Y k R (pure a:Sem α) w s (some (r,H)):=by
 intro r' e Q E hq;cases e;exact wpAny_pure (hq w a s (.refl S) hr)
theorem Ref.alt {o':Option (β×MH)} (h:Ref Y k R t w s o) (h':Ref Y k R t w s o'):Ref Y k R t w s (alt o o'):=by
 cases o with
 |none=>exact h'
 |some p=>exact h
theorem Ref.grd {b:Bool} (h:b=true->Ref Y k R t w s o):Ref Y k R t w s (grd b o):=by
 cases b with
 |false=>exact .none
 |true=>exact h rfl
theorem Ref.opt {x:Option γ}{f:γ->Option (β×MH)} (h: ∀a,x=some a->Ref Y k R t w s (f a)):Ref Y k R t w s (x.bind f):=by
 cases x with
 |none=>exact .none
 |some a=>exact h a rfl
theorem Ref.omap {x:Option γ}{f:γ->β×MH} (h: ∀a,x=some a->Ref Y k R t w s (some (f a))):Ref Y k R t w s (x.map f):=by
 cases x with
 |none=>exact .none
 |some a=>exact h a rfl
theorem Ref.case {x:Option γ}{f:γ->Option (β×MH)} (h0:x=Qv->Ref Y k R t w s o) (h: ∀a,x=some a->Ref Y k R t w s (f a)):Ref Y k R t w s (Qc (motive:=λ_=>Option (β×MH)) x o f):=by
 cases x with
 |none=>exact h0 rfl
 |some a=>exact h a rfl
theorem Ref.cond {b:Bool}{o':Option (β×MH)} (h:b=true->Ref Y k R t w s o) (h':b=false->Ref Y k R t w s o'):Ref Y k R t w s (bif b then o else o'):=by
 cases b with
 |false=>exact h' rfl
 |true=>exact h rfl
theorem Ref.val {r:β} (S:St Y k w H s) (h: ∀ (Q:α->Shared->Prop) (E:Value->Shared->Prop),(∀a tk,R w r a->Q a {s with toks:=tk}) ->wpAny C.M Y.A t Q E s):Ref Y k R t w s (some (r,H)):=by
 intro r' e Q E hq;cases e;exact h Q E λa tk hr=>hq w a _ (.toks S tk) hr
theorem Ref.of (h: ∀r H',o=some (r,H') ->yJ Y k R t w s r H'):Ref Y k R t w s o:=λr e=>h r.1 r.2 e
theorem Ref.by {t':Sem γ}{R':Wd->β->γ->Prop} (h:Ref Y k R' t' w s o) (hr: ∀ (Q:α->Shared->Prop) E r H',o=some (r,H') ->(∀w' a s',Nxt Y k w w' H' s s'->R w' r a->Q a s') ->wpAny C.M Y.A t' (λb s'=> ∃w',Nxt Y k w w' H' s s'/\R' w' r b) E s->wpAny C.M Y.A t Q E s):Ref Y k R t w s o:=
 λr e Q E hq=>hr Q E r.1 r.2 e hq (h r e _ _ λw' b s' n1 r1=>⟨w',n1,r1⟩)
theorem Ref.stand {p:Pos} (h:Ref Y k R t w s o):Ref Y k R (standAt p>>=λ_=>t) w s o:=λr e Q E hq=>wpAny_bind (wpAny_standAt (h r e Q E hq))
theorem Ref.hold {vs:List Value} (h:Ref Y k R t w s o):Ref Y k R (holding vs t) w s o:=λr e Q E hq=>wpAny_holding (h r e Q E hq)
theorem Ref.to {R2:Wd->β->α->Prop} (h:Ref Y k R t w s o) (i: ∀w r a,R w r a->R2 w r a):Ref Y k R2 t w s o:=λr e Q E hq=>h r e Q E λw' a s' n1 r1=>hq w' a s' n1 (i _ _ _ r1)
end
abbrev VR (C:Cfg):Wd->Val->Value->Prop:=λw m v=>aB C w m v
abbrev VRS (C:Cfg):Wd->List Val->List Value->Prop:=λw m v=>aA C w m v
abbrev EqR {α:Type}:Wd->α->α->Prop:=λ_ r a=>a=r
structure jM (C:Cfg):Prop where
 adK : ∀ id a,C.ad.lookup id = some a -> ∃ o,C.K.lookup a = some o /\ o.cls ≠ .type "tuple"
 adInj: ∀i j a,C.ad.lookup i=some a->C.ad.lookup j=some a->i=j
 low: ∀b,b<4-> ∃o,C.K.lookup b=some o
def GlR (C : Cfg) (p : Str × Val) (rv : Value) : Prop := (∀ w,aB C w p.2 rv) /\ (nsIn C.K mainGlobals p.1 = some (some rv) \/ (nsIn C.K mainGlobals p.1 = some none /\ p.1 ≠ "__name__" /\ bootBuiltins p.1 = some rv))
def zdI (C:Cfg) (gl:List (Str×Val)):Prop:= ∀x v,gl.lookup x=some v-> ∃rv,GlR C (x,v) rv
def i5:Nat:=200000
def Cfg.cx (C:Cfg) (d:Nat):Cx:=⟨C.P,i5,bC C.P i5 d⟩
def NsO (o:Obj) (m:Str->Option Value):Prop:= ∃es ep,o.data= .dict es ep/\StrKeys es/\∀name,nsFind es name=m name
structure Blk (cx:CC) (env:Env) (L:Addr) (k:Kp) (mE:Str->Option Value):Prop where
 kind:env.scope.kind= .function
 gl:env.globals=mainGlobals
 bl:env.builtins=builtinsNs
 sc:env.scope.names=cx.sc
 cells: ∀x,cx.sc.lookup x=some .cell-> ∃c o v₀,env.cells.lookup x=some c/\(c,o)∈k.ce/\o.data= .cell v₀
 loc:(env.locals=L/\mE=k.m)\/∃o,(env.locals,o)∈k.ex/\NsO o mE
inductive yE (C:Cfg) (w:Wd) (cx:CC) (env:Env) (ce:Led) (mE:Str->Option Value) (x:Str) (v:Val):Prop
 |loc (rv:Value) (k:cx.sc.lookup x=some .local) (e:mE x=some rv) (r:aB C w v rv):yE C w cx env ce mE x v
 |cell (rv:Value) (c:Addr) (o:Obj) (k:cx.sc.lookup x=some .cell) (e:env.cells.lookup x=some c) (m:(c,o)∈ce) (h:o.data= .cell (some rv)) (r:aB C w v rv):yE C w cx env ce mE x v
theorem yE.mono {C:Cfg}{w w':Wd} (l:w.le w') {cx:CC}{env:Env}{ce:Led}{mE:Str->Option Value}{x:Str}{v:Val} (h:yE C w cx env ce mE x v):yE C w' cx env ce mE x v:=
 yE.casesOn h (λrv a b r=> .loc rv a b (r.mono l)) (λrv c o a b m h r=> .cell rv c o a b m h (r.mono l))
def zrD (C:Cfg) (w:Wd) (cx:CC) (env:Env) (ce:Led) (mE:Str->Option Value) (fr:Frame):Prop:=
 ∀x i v,b0 cx x=some i->fr[i]?=some (some v) ->yE C w cx env ce mE x v
structure Pl {C:Cfg}{d e:Nat} (Y:aH C d e) (cx:CC) (env:Env) (k:Kp) (mE:Str->Option Value) (fr:Frame) (w:Wd) (H:MH) (s:Shared):Prop where
 b:Blk cx env Y.L k mE
 f:zrD C w cx env k.ce mE fr
 st:St Y k w H s
theorem Pl.next {C:Cfg}{d e:Nat}{Y:aH C d e}{cx:CC}{env:Env}{k:Kp}{mE:Str->Option Value}{fr:Frame}{w w':Wd}{H H':MH}{s s':Shared} (p:Pl Y cx env k mE fr w H s) (n:Nxt Y k w w' H' s s'):Pl Y cx env k mE fr w' H' s':=
 ⟨p.b,λx i v a b=>(p.f x i v a b).mono n.le,n.st⟩
def bU (C:Cfg) (d:Nat) (cx:CC) (e:Expr) (ir:Ex):Prop:=
 ∀ (Y:aH C d 2) (env:Env) (k:Kp) (mE:Str->Option Value) (fr:Frame) (w:Wd) (H:MH) (s:Shared),Pl Y cx env k mE fr w H s->Ref Y k (VR C) (PySem.eval e env) w s (eval (C.cx d) ir fr H)
def lI (C:Cfg) (d:Nat) (cx:CC) (e:Expr) (ir:Ex):Prop:=
 ∀ (Y:aH C d 2) (env:Env) (k:Kp) (mE:Str->Option Value) (fr:Frame) (w:Wd) (H:MH) (s:Shared),Pl Y cx env k mE fr w H s->Ref Y k EqR (PySem.isTrue e env (PySem.eval e env)) w s (aQ (eval (C.cx d) ir fr H))
section
variable {C:Cfg}{d e:Nat}{Y:aH C d e}{k:Kp}{w:Wd}{H:MH}{s:Shared}{cx:CC}{env:Env}{mE:Str->Option Value}{fr:Frame}
theorem Sta.kIn {h:Heap} (S:Sta C Y.h₀ Y.L k w H h):C.K.In h:=Y.k.keeps S.fr.keep
theorem Blk.ns (B:Blk cx env Y.L k mE) (S:St Y k w H s):s.heap.Ns env.locals mE:=by
 rcases B.loc with h| ⟨o,ho,es,ep,h⟩
 ·rw [h.1,h.2];exact S.fr.ns
 ·exact ⟨o,es,ep,S.exAt ho,h⟩
theorem qX {x:List Nat} (h:cL x=true):sOk x:=by
 have h:=Qa.mp h;exact ⟨λc hc=>Qr.mp (QD.mp h.1 c hc),Qr.mp h.2⟩
theorem zaj {c:Const}{n:Nat}{pos:Pos}{v:Val} (hc:rU c=some v):bU C d cx (.Constant c n pos) (.lit v):=by
 intro Y env k mE fr w H s p;refine .val p.st λQ E q=>?_;cases c with
 |none=>cases hc;exact wpAny_pure (q _ s.toks rfl)
 |bool b=>cases hc;exact wpAny_pure (q _ s.toks rfl)
 |int i=>cases hc;exact λ_ _ _=>q _ _ ⟨_,rfl⟩
 |str x=>
  obtain ⟨h,e⟩:=gs hc;cases e;exact λ_ _ _=>q _ _ ⟨_,by rw [Array.toArray_toList],qX h⟩
 |_=>exact nos hc
theorem iS {x : Str} (h : aD x = true) : (x == ("__debug__" : Str)) = false := by
 have h1:=(Qa.mp (Qa.mp (Qa.mp (Qa.mp h).1).1).1).2;cases hx : (x == ("__debug__" : Str)) with
 |false=>rfl
 | true => rw [show (x != ("__debug__" : Str)) = !(x == ("__debug__" : Str)) from rfl,hx] at h1; cases h1
theorem Blk.kindOf (B:Blk cx env Y.L k mE) {x:Str}{n:NameKind} (h:cx.sc.lookup x=some n):env.kindOf x=some n:=by unfold Env.kindOf;rw [B.sc];exact h
theorem zeh {x:Str}{pos:Pos}{i:Nat} (hx:aD x=true) (hi:b0 cx x=some i):bU C d cx (.Name x pos) (.var i):=by
 intro Y env k mE fr w H s p;refine .opt λov ho=> .omap λv hv=> .val p.st λQ E q=>wpAny_Name ?_ (iS hx);subst hv;cases p.f x i v hi ho with
 |loc rv hk e r=>exact wpAny_loadName_local p.b.kind (p.b.kindOf hk) (p.b.ns p.st) e (q rv s.toks r)
 |cell rv c o hk e m h r=>exact wpAny_loadName_cell p.b.kind (p.b.kindOf hk) e ⟨o,p.st.ceAt m,h⟩ (q rv s.toks r)
theorem zbP (G:zdI C cx.gl) {x:Str}{pos:Pos}{v:Val} (hx:aD x=true) (hk:cx.sc.lookup x=some .globalImplicit) (hg:cx.gl.lookup x=some v):bU C d cx (.Name x pos) (.lit v):=by
 intro Y env k mE fr w H s p;refine .val p.st λQ E q=>?_;refine (G x v hg).elim λrv zq9=>?_;have hn:=zq9.2;obtain ⟨_,_,_,mg,mb,T⟩:=Y.top;have q:=q rv s.toks (zq9.1 w);refine Name_function_global p.b.kind (p.b.kindOf hk) ?_ (iS hx);have tg:=T.g.keeps p.st.fr.keep;rw [<-p.b.gl] at tg;rcases hn with hn| ⟨hn,hne,hb⟩
 ·exact loadGlobal_global tg (mg_of Y.k T.g hn) q
 ·have tb:=T.b.keeps p.st.fr.keep
  rw [<-p.b.bl] at tb;exact loadGlobal_builtin tg (mg_none_of Y.k T.g hn) tb ((T.builtins x hne).trans hb) q
theorem sS {x:Str}{pos:Pos}{ir:Ex} (G:zdI C cx.gl) (hc:zcu cx x=some ir):bU C d cx (.Name x pos) ir:=by
 obtain ⟨hx,hc⟩:=gs hc;cases hv:b0 cx x with
 |none=>
  rw [hv] at hc;obtain ⟨hk,hc⟩:=gs hc;refine (ms hc).elim λv zq1=>?_;obtain rfl:=zq1.2;exact zbP G hx (beq_iff_eq.mp hk) zq1.1
 |some i=>
  rw [hv] at hc;cases hc;exact zeh hx hv
theorem vJ {M:Model}{A:Around}{operands:List Value}{t:Sem Value}{Q:Value->Shared->Prop}{E:Value->Shared->Prop} (h:wpAny M A t Q E s):wpAny M A (operate operands t) Q E s:=by
 unfold operate;exact wpAny_bind (wpAny_holding (wpAny_mono h (λr s' q=>wpAny_bind (wpAny_release (wpAny_pure q))) λ_ _ x=>x))
theorem Ref.operate {operands:List Value}{t:Sem Value}{o:Option (Val×MH)} (h:Ref Y k (VR C) t w s o):Ref Y k (VR C) (operate operands t) w s o:=λr e Q E hq=>vJ (h r e Q E hq)
end
section
variable {C:Cfg}{d e:Nat}{Y:aH C d e}{k:Kp}{w:Wd}{H:MH}{s:Shared}{cx:CC}{env:Env}{mE:Str->Option Value}{fr:Frame}
theorem aY:lim<=sizeLine:=by decide+kernel
theorem eI {n:Nat} (h:n<=lim):(n:Int)<2 ^ 63:=Int.lt_of_le_of_lt (Jr.mpr h) (by decide)
theorem Ref.newL {t:Sem Value}{mvs:List Val}{vs:List Value} (S:St Y k w H s) (r:aA C w mvs vs) (hl:mvs.length<=lim)
  (h: ∀ (Q:Value->Shared->Prop) (E:Value->Shared->Prop) all,News Y.h₀ Y.L s.heap all->(∀h' tk,Fr Y.h₀ Y.L h' k.m->News Y.h₀ Y.L h' ((s.heap.objs.size,listOf vs.toArray 0)::all) ->Q (.ref s.heap.objs.size) {s with heap:=h',toks:=tk}) ->wpAny C.M Y.A t Q E s):
  Ref Y k (VR C) t w s (aS H (.list mvs)):=by
 intro r' er Q E hq;cases er;obtain ⟨all,hn,add,_,_⟩:=S.ledger;exact h Q E all hn λh' tk F N=>hq _ _ _ ⟨(⟨Qs _ _,λ_ x=>x⟩:w.le ⟨w.σ++ [s.heap.objs.size],w.tp⟩),add _ (.list mvs) [_] h' ⟨vs,0,rfl,r.mono (⟨Qs _ _,λ_ x=>x⟩:w.le ⟨w.σ++ [s.heap.objs.size],w.tp⟩),hl⟩ F N (cD _) (News.fresh hn λp hp=>Ql.mp hp▸Qo _) (S.four (Qo _)),rfl,rfl⟩ ⟨_,rfl,by rw [<-S.len];exact Qt⟩
theorem zew {mvs:List Val}{vs:List Value} (r:aA C w mvs vs) (n:Nat):aA C w (Qm n mvs).flatten (Qm n vs).flatten:=by
 induction n with
 |zero=>exact .nil
 |succ n ih=>exact ih.append r
theorem y2 {α:Type} (vs:List α) (k:Nat): ∀acc:Array α,(List.foldl (λx1 x2=>x1++x2) acc (Qm k vs.toArray))=acc++(Qm k vs).flatten.toArray:=by
 induction k with
 |zero=>intro acc;exact (Array.append_empty).symm
 |succ k ih=>
  intro acc;refine (ih _).trans ?_;simp only [JW,JR,Array.append_assoc,Z0]
theorem zex {α:Type} (n:Nat) (vs:List α):(Qm (if vs.toArray.isEmpty=true then 0 else n) vs).flatten=(Qm n vs).flatten:=by
 cases vs with
 |nil=>simp
 |cons v r=>rfl
theorem ze2 {n:Nat}{s:List Nat}{c:Nat} (h:c∈(Qm n s).flatten):c∈s:=by
 refine (List.mem_flatten.mp h).elim λl zq21=>?_;exact (List.mem_replicate.mp zq21.1).2▸zq21.2
theorem rI {α:Type}{n:Nat}{s:List α}:(Qm n s).flatten.length=s.length*n:=by rw [List.length_flatten,List.map_replicate,List.sum_replicate_nat,Nat.mul_comm]
theorem zea (a b:List Nat):((⟨a.toArray⟩:Str)++(⟨b.toArray⟩:Str))=⟨(a++b).toArray⟩:=congrArg Str.mk (Z0 a b)
theorem zet {x y:Val}{a b:Value} (S:St Y k w H s) (ha:aB C w x a) (hb:aB C w y b):Ref Y k (VR C) (binaryOp .Add a b) w s (zgo H x y):=by
 refine .alt (.opt λi hi=> .opt λj hj=>?_) (.alt (.opt λi hi=> .opt λj hj=> .grd λhl=>?_) (.opt λi hi=> .opt λj hj=> .grd λhl=>?_))
 ·obtain ⟨t,rfl⟩:=ha.int? hi
  obtain ⟨u,rfl⟩:=hb.int? hj;exact .val S λQ E q=>add_int (q _ _ ⟨_,rfl⟩)
 ·refine (ha.str? hi).elim λt zq18=>?_
  obtain rfl:=zq18.1;refine (hb.str? hj).elim λu zq17=>?_;obtain rfl:=zq17.1;have hl:=Qr.mp hl;exact .val S λQ E q=>add_str (λt' tk=>q _ tk ⟨t',congrArg (QW · t') (zea i j),λc hc=>(Jf.mp hc).elim (zq18.2.1 c) (zq17.2.1 c),by rw [QG];exact hl⟩) (Qe hl aY)
 ·obtain ⟨a1,vs,n,rfl,g1,r1,l1⟩:=S.list ha hi
  obtain ⟨a2,ws,n2,rfl,g2,r2,l2⟩:=S.list hb hj;have hl:=Qr.mp hl;refine .newL S (r2.append r1) (by rw [QG];exact hl) λQ E all hn q=>add_arrays S.fr hn ⟨_,g1,rfl,_,rfl⟩ ⟨_,g2,rfl,_,rfl⟩ (λh' F N=>q h' _ F N) ?_;rw [Qw,Qw,<-r1.length,<-r2.length];exact Qe hl aY
theorem hY {a:Int}{b:Nat} (h:a.natAbs<2 ^ b):Z1 a<=b+1:=by
 unfold Z1;split
 ·exact QO _
 ·rename_i h0
  exact Kg ((Ko λe=>h0 (by rw [Z9.mp e];rfl)).mpr h)
theorem zh5 {a b:Int} (h:zcO a b=true):IntMulOk a b:=by
 have h:=Qa.mp h;have h1:=hY (Qr.mp h.1);have h2:=hY (Qr.mp h.2);unfold IntMulOk;rw [QX,not_and];intro _;unfold Builtin.Int.intTooBig;rw [decide_eq_true_eq,show bitsLine=134217728 by decide+kernel];lia
theorem y3 {l:Nat}{n:Int} (h:eG l n=true):n<=1000000/\ -1000000<=n/\l*n.toNat<=lim:=by
 have h:=Qa.mp h;exact ⟨of_decide_eq_true (Qa.mp h.1).1,of_decide_eq_true (Qa.mp h.1).2,Qr.mp h.2⟩
theorem ze1 {x:List Nat}{n:Int}{t u:Tok} (S:St Y k w H s) (oa:sOk x) (hl:eG x.length n=true):Ref Y k (VR C) (binaryOp .Mult (.str ⟨x.toArray⟩ t) (.int n u)) w s (some (.str (Qm n.toNat x).flatten,H)):=by
 obtain ⟨h1,h2,h3⟩:=y3 hl;refine .val S λQ E q=>?_;have q: ∀t' tk,Q (.str ⟨(Qm n.toNat x).flatten.toArray⟩ t') {s with toks:=tk}:=λt' tk=>q _ tk ⟨t',rfl,λc hc=>oa.1 c (ze2 hc),by rw [rI];exact h3⟩;have hx:(x.length:Int)<=1000000:=Jr.mpr oa.2;refine P.mul_str (by rw [decide_eq_false (by lia),decide_eq_false (by lia)];rfl) (λhn _=>Zn.mpr (Jy hx ((Int.le_ediv_iff_mul_le (by lia)).mpr (by lia)))) (λ_ _=>decide_eq_false (ZJ.mpr (Qe h3 aY))) ?_;split
 ·rename_i hn
  rw [show n.toNat=0 by lia] at q;exact ⟨by decide,q s.toks _⟩
 ·split
  ·rename_i h1'
   have e1:(Qm n.toNat x).flatten=x:=by
    rcases Jp.mp h1' with h|h
    ·rw [show n=1 from beq_iff_eq.mp h];exact Jn x
    ·rw [QR.mp (show x.length=0 from beq_iff_eq.mp h)];simp
   rw [e1] at q;exact q t s.toks
  ·have e:=y2 x n.toNat #[]
   rw [Ka] at e;rw [<-e] at q;refine ⟨?_,q s.toks _⟩;show Array.size _<=_;rw [e];exact Qe (by rw [Qw,rI];exact h3) aY
theorem zek {x y:Val}{a b:Value} (S:St Y k w H s) (ha:aB C w x a) (hb:aB C w y b):Ref Y k (VR C) (binaryOp .Mult a b) w s (tY H x y):=by
 refine .alt (.opt λi hi=> .opt λj hj=> .grd λhl=>?_) (.alt (.opt λi hi=> .opt λj hj=>?_) (.alt (.opt λi hi=> .opt λj hj=> .grd λhl=>?_) (.opt λi hi=> .opt λj hj=> .grd λhl=>?_)))
 ·obtain ⟨t,rfl⟩:=ha.int? hi
  obtain ⟨u,rfl⟩:=hb.int? hj;exact .val S λQ E q=>mul_int (q _ _ ⟨_,rfl⟩) (zh5 hl)
 ·obtain ⟨t,rfl⟩:=ha.int? hi
  cases bool?_s hj;cases hb;exact .val S λQ E q=>IntBool.mul_int_bool (q _ _ ⟨_,rfl⟩)
 ·obtain ⟨u,rfl⟩:=hb.int? hj
  obtain ⟨a1,vs,n,rfl,g1,r1,l1⟩:=S.list ha hi;obtain ⟨h1,h2,h3⟩:=y3 hl;refine .newL S (zew r1 j.toNat) (by rw [rI];exact h3) λQ E all hn q=>mul_list S.fr hn g1 (by lia) (by lia) ?_ λh' F N=>q h' _ F ?_
  ·rw [Qw,<-r1.length];exact Qe h3 (by decide)
  ·have e:=y2 vs (if vs.toArray.isEmpty=true then 0 else j.toNat) #[]
   rw [Ka,zex] at e;rw [<-e];exact N
 ·obtain ⟨u,rfl⟩:=hb.int? hj
  obtain ⟨t,rfl,oa⟩:=ha.str? hi;exact ze1 S oa hl
theorem zau {x y:Int} (h:y.natAbs<zft):Builtin.divisionGoesByPylong x y=false:=by
 unfold Builtin.divisionGoesByPylong
 have:(if (y==0)=true then 0 else y.natAbs.log2 / 30+1)<=300:=by
  split
  ·exact QO _
  ·rename_i hz
   have:=(Ko λe=>hz (by rw [Z9.mp e];rfl)).mpr h
   lia
 simp only [Bool.and_eq_false_iff,decide_eq_false_iff_not];exact .inl (Nat.not_lt_of_le this)
theorem zgi {b:Int} (h:(b !=0)=true): ¬b=0:=bne_iff_ne.mp h
theorem zam {op:Operator}{o:BOp} (ho:zO op=some o) {x y:Int}{t u:Tok}{z:Int} (S:St Y k w H s) (e:qK o x y=some z):Ref Y k (VR C) (binaryOp op (.int x t) (.int y u)) w s (some (.int z,H)):=by
 refine .val S λQ E q=>?_;cases op<;>cases ho
 ·exact nos e
 ·cases e;exact sub_int (q _ _ ⟨_,rfl⟩)
 ·exact nos e
 ·obtain ⟨h,e⟩:=gs e
  cases e;exact mod_int' (zgi h) (q _ _ ⟨_,rfl⟩)
 ·obtain ⟨h,e⟩:=gs e
  cases e;have h':=Qa.mp (Qa.mp h).1;refine pow_int (of_decide_eq_true h'.1) ?_ (q _ _ ⟨_,rfl⟩);exact Jy (Int.mul_le_mul (Jr.mpr (hY (Qr.mp (Qa.mp h).2))) (of_decide_eq_true h'.2) (of_decide_eq_true h'.1) (by decide)) (by decide)
 ·obtain ⟨h,e⟩:=gs e
  cases e;exact floordiv_int (zgi (Qa.mp h).1) (q _ _ ⟨_,rfl⟩) (.inl (zau (Qr.mp (Qa.mp h).2)))
theorem zal {op:Operator}{o:BOp} (ho:zO op=some o) {x y:Val}{a b:Value} (S:St Y k w H s) (ha:aB C w x a) (hb:aB C w y b):Ref Y k (VR C) (binaryOp op a b) w s (eJ o x y H):=by
 refine .alt (.opt λi hi=> .opt λj hj=> .omap λz hz=>?_) ?_
 ·obtain ⟨t,rfl⟩:=ha.int? hi
  obtain ⟨u,rfl⟩:=hb.int? hj;exact zam ho S hz
 ·cases op<;>cases ho
  ·exact zet S ha hb
  ·exact .none
  ·exact zek S ha hb
  ·exact .none
  ·exact .none
  ·exact .none
theorem zes {l r:Expr}{op:Operator}{pos:Pos}{o:BOp}{il ir:Ex} (ho:zO op=some o) (hl:bU C d cx l il) (hr:bU C d cx r ir):bU C d cx (.BinOp l op r pos) (.bin o il ir):=
 λY env k mE fr w H s p=> .bind (hl Y env k mE fr w H s p) λw1 a1 s1 x H1 n1 r1=> .bind (.hold (hr Y env k mE fr w1 H1 s1 (p.next n1))) λw2 a2 s2 y H2 n2 r2=> .stand (.operate (zal ho n2.st (r1.mono n2.le) r2))
end
theorem fD {α β:Type}{f:α->Option β}{x:α}{l:List α}{r:List β} (h:(x::l).mapM f=some r): ∃y ys,f x=some y/\l.mapM f=some ys/\r=y::ys:=by
 rw [Jk] at h;refine (bs h).elim λy zq33=>?_;have h:=zq33.2;obtain ⟨ys,hys,h⟩:=bs h;exact ⟨y,ys,zq33.1,hys,(Qf.inj h).symm⟩
inductive RdO (h:Heap) (v:Value) (d:PyData) (k:Nat):Prop
 |mk (as:List Addr) (r:Reads h v d as) (c:d.canLay0=true) (l:d.depth<=k):RdO h v d k
inductive zrB (h:Heap) (v:List Value) (d:List PyData) (k:Nat):Prop
 |mk (as:List Addr) (r:ReadsAll h v d as) (c:PyData.canLayAll0 d=true) (l:PyData.depthAll d<=k):zrB h v d k
section
variable {C:Cfg}{d e:Nat}{Y:aH C d e}{k:Kp}{w:Wd}{H:MH}{s:Shared}{cx:CC}{env:Env}{mE:Str->Option Value}{fr:Frame}
inductive IsT (C:Cfg) (w:Wd) (h:Heap) (v:Value) (mvs:List Val):Prop
 | mk (a : Addr) (o : Obj) (n : Nat) (vs : List Value) (e : v = .ref a) (g : h.get? a = some o) (c : o.cls = .type "tuple") (dt : o.data = .seq vs.toArray n) (r : aA C w mvs vs) (l : mvs.length <= lim) : IsT C w h v mvs
theorem Sta.tup {h:Heap} (S:Sta C Y.h₀ Y.L k w H h) {mvs:List Val}{v:Value} (hv:aB C w (.tup mvs) v):IsT C w h v mvs:=
 zfL.casesOn hv λa o n vs e q r l=>⟨a,o,n,vs,e,q.1.elim S.tpAt (S.kIn _ _),q.2,q.3,r,l⟩
theorem f9 {n:Nat}{h:Heap} (ih: ∀v rv dt,aB C w v rv->toD H n v=some dt->RdO h rv dt n):
  ∀ {mvs:List Val}{vs:List Value}{ds:List PyData},aA C w mvs vs->mvs.mapM (toD H n)=some ds->zrB h vs ds n:=by
 intro mvs
 induction mvs with
 |nil=>intro vs ds h e;cases h;cases e;exact ⟨[],.nil,rfl,QO _⟩
 |cons m mvs ih'=>
  intro vs ds h e;obtain ⟨y,ys,e1,e2,rfl⟩:=fD e;obtain ⟨v,r,rfl,h,h'⟩:=h;obtain ⟨as,r1,c1,d1⟩:=ih _ _ _ h e1;obtain ⟨bs,r2,c2,d2⟩:=ih' h' e2;exact ⟨as++bs,.cons r1 r2,Qa.mpr ⟨c1,c2⟩,Nat.max_le.mpr ⟨d1,d2⟩⟩
theorem cM {h:Heap} (S:Sta C Y.h₀ Y.L k w H h): ∀ (n:Nat) (v:Val) (rv:Value) (dt:PyData),aB C w v rv->toD H n v=some dt->RdO h rv dt n:=by
 have flat: ∀ (n:Nat) (v:Val) (rv:Value) (dt:PyData),aB C w v rv->toD H 0 v=some dt->RdO h rv dt n:=by
  intro n v rv dt hv e;cases v with
  |none=>cases e;cases hv;exact ⟨[],.none,rfl,QO _⟩
  |bool b=>cases e;cases hv;exact ⟨[],.bool b,rfl,QO _⟩
  |int i=>cases e;obtain ⟨t,rfl⟩:=hv;exact ⟨[],.int i t,rfl,QO _⟩
  |str x=>cases e;obtain ⟨t,rfl,ok⟩:=hv;exact ⟨[],.str _ t,by simpa [PyData.canLay0,PyData.strOk] using ok.1,QO _⟩
  |_=>exact nos e
 intro n
 induction n with
 |zero=>exact flat 0
 |succ n ih=>
  intro v rv dt hv e;cases v with
  |tup vs=>
   obtain ⟨ds,e1,rfl⟩:=ms e;obtain ⟨a,o,n',ws,rfl,g,hc,hd,r,_⟩:=S.tup hv;obtain ⟨as,ra,c1,d1⟩:=f9 ih r e1;exact ⟨as,.tuple g hc hd ra,c1,J7 d1⟩
  |ref i=>
   obtain ⟨vs,hl,e⟩:=bs e;obtain ⟨ds,e1,rfl⟩:=ms e;obtain ⟨a,ws,n',rfl,g,r,_⟩:=S.list hv hl;obtain ⟨as,ra,c1,d1⟩:=f9 ih r e1;exact ⟨a::as,.list g rfl rfl ra,c1,J7 d1⟩
  |none=>exact flat _ _ _ _ hv e
  |bool b=>exact flat _ _ _ _ hv e
  |int i=>exact flat _ _ _ _ hv e
  |str x=>exact flat _ _ _ _ hv e
  |_=>exact nos e
theorem aH.u (Y:aH C d e) {n:Nat} (h:n<=180):Y.A.units+n<9900:=Qn (Z2 (QU h (by decide:180<190)) _) (Qe (Qe (JU (Jh _ (20*d)) 190) (Jh _ _)) Y.units)
theorem zbQ (S:St Y k w H s) {x y:Val}{vx vy:Value}{r:Bool} (hx:aB C w x vx) (hy:aB C w y vy) (e:lU H x y=some r):SeqAt.EqAt Y.A.in1 s vx vy r:=by
 obtain ⟨dx,e1,e⟩:=bs e;obtain ⟨dy,e2,rfl⟩:=ms e;obtain ⟨_,r1,c1,d1⟩:=cM S 8 x vx dx hx e1;obtain ⟨_,r2,c2,d2⟩:=cM S 8 y vy dy hy e2;refine SeqAt.eqAt_reads dx dy Y.A.in1 s vx vy _ _ r1 r2 c1 c2 ?_;show Y.A.units+1+min _ _<9900;rw [Z5];exact Y.u (Qe (Zo (Qo _) (Zd _ _)) (Qe (Jo d1 _) (QV _ _)))
def EqW {C:Cfg}{d e:Nat} (Y:aH C d e) (s:Shared) (vx vy:Value) (r:Bool):Prop:=
 ∀ (Q:Value->Shared->Prop) (E:Value->Shared->Prop),(Q (.bool r) s->wpAny C.M Y.A (compareOp .Eq vx vy) Q E s)/\(Q (.bool (!r)) s->wpAny C.M Y.A (compareOp .NotEq vx vy) Q E s)
theorem zep (S:St Y k w H s) {x y:Val}{vx vy:Value}{r:Bool} (hx:aB C w x vx) (hy:aB C w y vy) (e:lU H x y=some r):EqW Y s vx vy r:=by
 obtain ⟨dx,e1,e⟩:=bs e;obtain ⟨dy,e2,rfl⟩:=ms e;obtain ⟨_,r1,c1,d1⟩:=cM S 8 x vx dx hx e1;obtain ⟨_,r2,c2,d2⟩:=cM S 8 y vy dy hy e2;have hu:Y.A.units+min dx.depth dy.depth<9900:=Y.u (Qe (Nat.le_add_left_of_le (Zd _ _)) (Qe (Zo d2 d1) (QV _ _)));exact λQ E=>⟨SeqAt.compareEq_reads r1 r2 c1 c2 hu,SeqAt.compareNe_reads r1 r2 c1 c2 hu⟩
end
def Atom.dat (a:Atom):PyData:=Atom.casesOn (motive:=λ_=>PyData) a .int .str
theorem eY (h:MH) (k:Nat) (a:Atom):toD h k a.val=some a.dat:=by cases a<;>cases k<;>rfl
theorem mW (a b:Atom):Zl a.dat b.dat=decide (a=b):=by
 cases a with
 |i x=>
  cases b with
  |i y=>show (x==y)=_;rw [QL,beq_iff_eq,decide_eq_true_eq,Atom.i.injEq]
  |s y=>rfl
 |s x=>
  cases b with
  |i y=>rfl
  |s y=>show (x==y)=_;rw [QL,beq_iff_eq,decide_eq_true_eq,Atom.s.injEq]
theorem xG (h:MH) (k:Nat) (as:List Atom):(as.map Atom.val).mapM (toD h k)=some (as.map Atom.dat):=by
 induction as with
 |nil=>rfl
 |cons a r ih=>rw [QJ,Jk,eY,ih];rfl
theorem rR (as:List Atom): ∀bs:List Atom,Kz (as.map Atom.dat) (bs.map Atom.dat)=decide (as=bs):=by
 induction as with
 |nil=>intro bs;cases bs<;>rfl
 |cons a x ih=>
  intro bs;cases bs with
  |nil=>rfl
  |cons b y=>
   show (Zl a.dat b.dat && Kz (x.map Atom.dat) (y.map Atom.dat))=_;rw [mW,ih,<-Bool.decide_and,decide_eq_decide,Q6.injEq]
theorem mB (a b:Atom):kEq a.val b.val=decide (a=b):=by
 unfold kEq lU;rw [eY,eY];exact mW a b
theorem rJ (as bs:List Atom):kEq (.tup (as.map Atom.val)) (.tup (bs.map Atom.val))=decide (as=bs):=by
 have e: ∀l:List Atom,toD [] 8 (.tup (l.map Atom.val))=some (.tuple (l.map Atom.dat)):=λl=>congrArg (Ku PyData.tuple) (xG [] 7 l);unfold kEq lU;rw [e,e];exact rR as bs
theorem uC {v:Val} (h:cG v=true): ∃a:Atom,v=a.val:=by
 cases v with
 |int n=>exact ⟨.i n,rfl⟩
 |str x=>exact ⟨.s ⟨x.toArray⟩,rfl⟩
 |_=>cases h
theorem bQ (a:Atom):aG a.val=1:=by cases a<;>rfl
theorem zaV {vs:List Val} (h:vs.all cG=true): ∃as:List Atom,vs=as.map Atom.val:=by
 induction vs with
 |nil=>exact ⟨[],rfl⟩
 |cons v r ih=>
  refine (uC (Qa.mp h).1).elim λa zq12=>?_;obtain rfl:=zq12;refine (ih (Qa.mp h).2).elim λas zq11=>?_;obtain rfl:=zq11;exact ⟨a::as,rfl⟩
theorem zbc (as:List Atom):(as.map Atom.val).all cG=true:=by
 induction as with
 |nil=>rfl
 |cons a r ih=>exact Qa.mpr ⟨by cases a<;>rfl,ih⟩
theorem cP (as:List Atom):aG (.tup (as.map Atom.val))=3:=by
 show (bif (as.map Atom.val).all cG then 3 else 0)=3;rw [zbc];rfl
theorem gB {v:Val} (h:(aG v !=0)=true):(∃a:Atom,v=a.val)\/∃as:List Atom,v= .tup (as.map Atom.val):=by
 unfold aG at h;cases ha:cG v with
 |true=>exact .inl (uC ha)
 |false=>
  rw [ha] at h;cases ht:v.tup? with
  |none=>rw [ht] at h;cases h
  |some vs=>
   cases tup?_s ht;cases hal:vs.all cG with
   |true=>obtain ⟨as,rfl⟩:=zaV hal;exact .inr ⟨as,rfl⟩
   |false=>
    have h':((bif vs.all cG then 3 else 0:Nat) !=0)=true:=h;rw [hal] at h';cases h'
section
variable {prog:Program}{w:World}{Kk:Type} [DecidableEq Kk] {knd:KeyKind prog w Kk}{A:Around}{E:Value->Shared->Prop}{s:Shared}
theorem vK {d:Addr}{es:List DictEntry}{ep:Nat}{kvs:List (Kk×Value)}{k:Kk}{key v:Value}{Q:Unit->Shared->Prop} (hkey:knd.is k key=true) (ho:s.heap.get? d=some (dictOf es ep)) (hk:KeysOf knd es.toArray) (hp:Pairs knd es kvs) (hn:(kvs.map (·.1)).Nodup) (hsz:es.length<=sizeLine)
  (h: ∀ (es':List DictEntry) (f:Obj->Obj),f (dictOf es ep)=dictOf es' (if kvs.any (λkv=>kv.1=k) then ep else ep+1) ->KeysOf knd es'.toArray->Pairs knd es' (stored kvs k v) ->((stored kvs k v).map (·.1)).Nodup->
   Q () {s with heap:=s.heap.update d f,toks:=s.toks+1}):wpAny (model prog w) A (dictSet d key v) Q E s:=by
 unfold dictSet
 try with_reducible refine wpAny_holding ?_
 refine wpAny_bind (knd.pyHash hkey ?_);unfold dictSetHashed
 try with_reducible refine wpAny_holding ?_
 refine wpAny_bind (wpAny_dictFind_of (s:={s with toks:=s.toks+1}) hkey ho rfl hk ?_);have hidx:(es.toArray.findIdx? λe=>knd.is k e.key)=kvs.findIdx? λkv=>decide (kv.1=k):=by
  rw [<-hp.findIdx k];simp
 cases hi:es.toArray.findIdx? λe=>knd.is k e.key with
 |some i=>
  have hany:=any_of_findIdx_some (hidx▸hi);refine wpAny_bind (wpAny_rule (wpAny_bind (wpAny_updateDict (s:={s with toks:=s.toks+1}) ho rfl (wpAny_point ?_))));refine h (es.modify i λe=> {e with val:=v}) _ ?_ ?_ ?_ ?_
  ·rw [if_pos hany];simp [dictOf,Obj.mapDict]
  ·have:=hk.modify i v;simpa using this
  ·rw [(by rw [stored,if_pos hany]:stored kvs k v=kvs.map (λkv=>if kv.1=k then (kv.1,v) else kv))];exact hp.modify hn (by rw [<-hi];simp:(es.findIdx? λe=>knd.is k e.key)=some i) v
  ·rw [(by rw [stored,if_pos hany]:stored kvs k v=kvs.map (λkv=>if kv.1=k then (kv.1,v) else kv)),keys_map_store];exact hn
 |none=>
  have hnot:k∉kvs.map (·.1):=not_mem_of_findIdx_none (hidx▸hi);have hany: ¬(kvs.any λkv=>decide (kv.1=k))=true:=by
   rw [Kl];rintro ⟨kv,hkv,he⟩;exact hnot (QC.mpr ⟨kv,hkv,of_decide_eq_true he⟩)
  refine wpAny_bind (wpAny_rule (wpAny_updateDictKeys (hz:=by simpa using hsz) (s:={s with toks:=s.toks+1}) ho rfl ?_));refine h (es++ [⟨knd.hash k,key,v⟩]) _ ?_ ?_ ?_ ?_
  ·rw [if_neg hany];simp [dictOf,Obj.mapDictKeys]
  ·have:=hk.push hkey v;simpa using this
  ·rw [(by rw [stored,if_neg hany]:stored kvs k v=kvs++ [(k,v)])];exact hp.append hkey (knd.hash k) v
  ·rw [(by rw [stored,if_neg hany]:stored kvs k v=kvs++ [(k,v)]),QF,J2]
   refine ⟨hn,Qu.mpr ⟨QB,.nil⟩,?_⟩;intro a ha b hb;rw [Ql.mp hb];exact λe=>hnot (show k∈_ from (show a=k from e)▸ha)
theorem nY {d : Addr} {key v : Value} {Q : Unit -> Shared -> Prop} (hT : s.TypeIs (.ref d) "dict") (h : wpAny (model prog w) A.in1 (dictSet d key v) Q E s) : wpAny (model prog w) A (setItem (.ref d) key v) Q E s := by
 unfold setItem
 try with_reducible refine wpAny_holding ?_
 refine wpAny_bind (wpAny_sequenceKey hT (by decide) ?_);refine wpAny_bind (wpAny_callSpecial?_slot (name:=Str.ofString "__setitem__") hT slot_dict_setitem
  (wpAny_call_entry slot_dict_setitem hT entry_dict_setitem ?_ (args_dict_setitem _ _ _)))
 show wpAny _ _ (Builtin.Dict.notOrdered "__setitem__" ⟨[.ref d,key,v],[]⟩ >>= _) _ _ s;refine wpAny_bind (wpAny_notOrdered_dict hT ?_);show wpAny _ _ (dictSet d key v>>=_) _ _ s;exact wpAny_bind (wpAny_mono h (λ_ s' q=>wpAny_pure ⟨.none,rfl,wpAny_pure q⟩) λ_ _ e=>e)
end
section
variable {prog:Program}{w:World}{Kk:Type} [DecidableEq Kk] {knd:HeapKind prog w Kk}{A:Around}{E:Value->Shared->Prop}{s:Shared}
theorem sH {d a:Addr}{ep:Nat}{xs:List (Kk×Addr×Value)}{k:Kk}{v:Value}{Q:Unit->Shared->Prop} (hu:knd.room A) (hkey:knd.is s.heap k a) (ho:s.heap.get? d=some (dictOf (xs.map (entryOfKey knd)) ep)) (his: ∀x∈xs,knd.is s.heap x.1 x.2.1) (hn:(xs.map (·.1)).Nodup) (hsz:xs.length<=sizeLine)
  (h: ∀ (f:Obj->Obj),f (dictOf (xs.map (entryOfKey knd)) ep)=dictOf ((storedH xs k a v).map (entryOfKey knd)) (if (atKey xs k).isSome then ep else ep+1) ->((storedH xs k a v).map (·.1)).Nodup->
   Q () {s with heap:=s.heap.update d f,toks:=s.toks+knd.draws k}):wpAny (model prog w) A (dictSet d (.ref a) v) Q E s:=by
 have he:((xs.map (entryOfKey knd)).toArray).toList=xs.map (entryOfKey knd):=rfl;unfold dictSet
 try with_reducible refine wpAny_holding ?_
 refine wpAny_bind (knd.pyHash hu hkey ?_);unfold dictSetHashed
 try with_reducible refine wpAny_holding ?_
 refine wpAny_bind (wpAny_dictFind_heap (s:={s with toks:=s.toks+knd.draws k}) hu hkey ho rfl he his hn ?_ ?_)
 ·intro hno
  have hnot:k∉xs.map (·.1):=not_mem_keys_of_get hno;refine wpAny_bind (wpAny_rule (wpAny_updateDictKeys (hz:=by have e:=size_of_entries he;exact Qe (QP e) hsz) (s:={s with toks:=s.toks+knd.draws k}) ho rfl ?_));refine h _ ?_ ?_
  ·rw [storedH_new (atKey_none_of_get hno),atKey_none_of_get hno]
   simp [dictOf,Obj.mapDictKeys,entryOfKey]
  ·rw [storedH_new (atKey_none_of_get hno),QF,J2]
   refine ⟨hn,Qu.mpr ⟨QB,.nil⟩,?_⟩;intro x hx y hy;rw [Ql.mp hy];exact λe=>hnot (show k∈_ from (show x=k from e)▸hx)
 ·intro j p hj
  refine wpAny_bind (wpAny_rule (wpAny_bind (wpAny_updateDict (s:={s with toks:=s.toks+knd.draws k}) ho rfl (wpAny_point ?_))));refine h _ ?_ ?_
  ·rw [storedH_old (atKey_of_get hn hj),atKey_of_get hn hj]
   have:=modify_map_putAt (entryOfKey knd) (λe:DictEntry=> {e with val:=v}) k v (λ_ _=>rfl) hn hj
   rw [<-this]
   simp [dictOf,Obj.mapDict]
  ·rw [storedH_old (atKey_of_get hn hj),keys_map_putAt];exact hn
end
section
variable {C:Cfg}{d e:Nat}{Y:aH C d e}{k:Kp}{w:Wd}{H:MH}{s:Shared}{cx:CC}{env:Env}{mE:Str->Option Value}{fr:Frame}
theorem aB.atom {a:Atom}{v:Value} (h:aB C w a.val v):a.is v=true/\a.ok:=by
 cases a with
 |i n=>obtain ⟨t,rfl⟩:=h;exact ⟨beq_self_eq_true n,trivial⟩
 |s x=>obtain ⟨t,rfl,ok⟩:=h;exact ⟨beq_self_eq_true x,ok⟩
theorem aA.items {as:List Atom}: ∀ {vs:List Value},aA C w (as.map Atom.val) vs->ItemsAre (bB C.prog C.w) as vs:=by
 induction as with
 |nil=>intro vs h;cases h;exact .nil
 |cons a r ih=>intro vs h;obtain ⟨v,t,rfl,h1,h2⟩:=h;exact .cons h1.atom.1 (ih h2)
theorem Sta.tupKey {h:Heap} (S:Sta C Y.h₀ Y.L k w H h) {as:List Atom}{v:Value} (hv:aB C w (.tup (as.map Atom.val)) v): ∃t,v= .ref t/\IsTupleKey (bB C.prog C.w) h as t:=by
 obtain ⟨t,o,n,ws,e,ho,hc,hd,rr,hl⟩:=S.tup hv;exact ⟨t,e,o,ws.toArray,n,ho,hc,hd,rr.items⟩
theorem zcr {a:Addr}{o:Obj}{pre post:Led} (h:Led.nd (pre++([(a,o)]++post))): ∀q∈pre++post,q.1≠a:=
 λq hq e=>(Qu.mp (Led.nd.perm (Zz (a:=(a,o)) (l₁:=pre) (l₂:=post)) h)).1 (QC.mpr ⟨q,hq,e⟩)
theorem Sta.upd (S:St Y k w H s) {i:Nat}{a:Addr}{o o':MObj}{ob':Obj}{h':Heap} (ha:w.σ[i]?=some a) (ho:H[i]?=some o) (hen: ∀en,gQ C w a o en-> ∃ob,en= [(a,ob)])
  (hs:Heap.SameBut a s.heap h') (hg:h'.get? a=some ob') (hr':gQ C w a o' [(a,ob')]):Sta C Y.h₀ Y.L k w (H.set i o') h':=by
 obtain ⟨pre,en,post,hr,hn,hd,g⟩:=S.at ha ho;refine (hen en hr).elim λob1 zq8=>?_;obtain rfl:=zq8;have hm:=hn (a,ob1) (Qi _ (.head _));refine g o' [(a,ob')] h' rfl hr' ⟨S.fr.ns.sameBut hs (KM hm.2.1),λc x e=>(hs.2 c (λq=>?_)).trans (S.fr.keep c x e),S.fr.above⟩ ?_
 ·rw [q,hm.2.2] at e;cases e
 ·intro p hp
  rcases Jf.mp hp with hp|hp
  ·have:=hn p (QT _ hp)
   exact ⟨(hs.2 p.1 ((zcr hd) p (QT _ hp))).trans this.1,this.2⟩
  ·rcases Jf.mp hp with hp|hp
   ·rw [Ql.mp hp]
    exact ⟨hg,hm.2⟩
   ·have:=hn p (Qi _ (Qi _ hp))
    exact ⟨(hs.2 p.1 ((zcr hd) p (Qi _ hp))).trans this.1,this.2⟩
inductive IsD {C:Cfg}{d e:Nat} (Y:aH C d e) (k:Kp) (w:Wd) (H:MH) (s:Shared) (i:Nat) (v:Value) (p:Option Nat×List (Val×Val)):Prop
 |mk (a:Addr) (n:Nat) (es:List DictEntry) (e:v= .ref a) (m:(a==sysModules)=false) (hep: ∀x,p.1=some x->n=x) (g:s.heap.get? a=some (dictOf es n)) (r:dT C w p.2 es) (l:p.2.length<=lim)
   (upd: ∀h' o' ob',Heap.SameBut a s.heap h'->h'.get? a=some ob'->gQ C w a o' [(a,ob')]->Sta C Y.h₀ Y.L k w (H.set i o') h'):IsD Y k w H s i v p
theorem Sta.dictI (S:St Y k w H s) {i:Nat}{v:Value}{p:Option Nat×List (Val×Val)} (hv:aB C w (.ref i) v) (ho:H[i]?.bind MObj.dict?=some p):IsD Y k w H s i v p:=by
 obtain ⟨o,hi,h2⟩:=bs ho;cases dict?_s h2;obtain ⟨a,e,ha⟩:=hv;obtain ⟨pre,en,post,⟨es,n,rfl,hep,dr,l⟩,hn,_,_⟩:=S.at ha hi;refine ⟨a,n,es,e,beq_eq_false_iff_ne.mpr λq=>absurd (S.lo a (Q8 ha)) (by rw [q];decide),hep,(hn (a,_) (Qi _ (.head _))).1,dr,l,λh' o' ob' g2 g3 g4=>S.upd ha hi (λen h=>?_) g2 g3 g4⟩;obtain ⟨_,_,rfl,_,_,_⟩:=h;exact ⟨_,rfl⟩
theorem Sta.dict (S:St Y k w H s) {x:Val}{v:Value}{p:Option Nat×List (Val×Val)} (hv:aB C w x v) (ho:dictAt H x=some p): ∃i,x= .ref i/\IsD Y k w H s i v p:=by
 refine (bs ho).elim λi zq4=>?_;have e:=zq4.1;cases ref?_s e;exact ⟨i,rfl,S.dictI hv zq4.2⟩
theorem iU {α:Type}{mes:List (Val×Val)}{f:α->Val}{l:List α} (e:mes.map (·.1)=l.map f):mes.length=l.length:=by
 have:=congrArg ZV e
 rwa [Qz,Qz] at this
theorem DA.nil:DA C w [] [] []:=⟨.nil,λe he=>absurd he (by simp),.nil,rfl,λ_ h=>absurd h QB,.nil⟩
theorem DT.nil:DT C w [] [] []:=⟨rfl,.nil,λ_ h=>absurd h QB,rfl,.nil⟩
theorem qG {mes:List (Val×Val)}{x:Val}{p:Val×Val}{r:List (Val×Val)} (hf:aE mes x=true) (e:mes=p::r):aG p.1=aG x:=by
 subst e;exact Qf.inj (beq_iff_eq.mp (Qa.mp hf).2)
theorem dT.atom {mes:List (Val×Val)}{es:List DictEntry}{a:Atom} (hf:aE mes a.val=true) (h:dT C w mes es): ∃kvs,DA C w mes es kvs:=by
 rcases h with h| ⟨xs,D⟩
 ·exact h
 ·cases mes with
  |nil=>
   have:=D.e
   cases xs with
   |nil=>rw [D.es];exact ⟨[],.nil⟩
   |cons _ _=>cases this
  |cons p r=>
   have e:=D.e;cases xs with
   |nil=>cases e
   |cons x xs=>
    have:=qG hf rfl
    rw [show p.1= .tup (x.1.map Atom.val) from (Q6.inj e).1,cP,bQ] at this;cases this
theorem dT.tups {mes:List (Val×Val)}{es:List DictEntry}{as:List Atom} (hf:aE mes (.tup (as.map Atom.val))=true) (h:dT C w mes es): ∃xs,DT C w mes es xs:=by
 rcases h with ⟨kvs,D⟩|h
 ·cases mes with
  |nil=>
   have:=D.e
   cases kvs with
   |nil=>have p:=D.p;cases p;exact ⟨[],.nil⟩
   |cons _ _=>cases this
  |cons p r=>
   have e:=D.e;cases kvs with
   |nil=>cases e
   |cons x kvs=>
    have:=qG hf rfl
    rw [show p.1=x.1.val from (Q6.inj e).1,cP,bQ] at this;cases this
 ·exact h
theorem DA.dictOf {mes:List (Val×Val)}{es:List DictEntry}{kvs:List (Atom×Value)}{a n:Nat}{h:Heap} (D:DA C w mes es kvs) (hg:h.get? a=some (W.dictOf es n)):h.DictOf (bB C.prog C.w) a kvs:=
 ⟨_,es.toArray,n,hg,⟨rfl,rfl,rfl⟩,rfl,D.k,D.p,D.n⟩
theorem DT.keys {h:Heap} (S:Sta C Y.h₀ Y.L k w H h) {mes:List (Val×Val)}{es:List DictEntry}{xs:List (List Atom×Addr×Value)} (D:DT C w mes es xs): ∀x∈xs,IsTupleKey (bB C.prog C.w) h x.1 x.2.1:=λx hx=>by
 obtain ⟨t,e,q⟩:=S.tupKey (D.v x hx);cases e;exact q
theorem DT.dictOf {h:Heap} (S:Sta C Y.h₀ Y.L k w H h) {mes:List (Val×Val)}{es:List DictEntry}{xs:List (List Atom×Addr×Value)}{b n:Nat} (D:DT C w mes es xs) (hg:h.get? b=some (W.dictOf es n)):h.DictOfH (tupleKind (bB C.prog C.w)) b xs:=
 ⟨_,_,n,D.es▸hg,⟨rfl,rfl,rfl⟩,rfl,rfl,D.keys S,D.n⟩
def yG (C:Cfg) (w:Wd) (m:Option Val) (v:Option Value):Prop:=(m=none/\v=none)\/∃mv rv,m=some mv/\v=some rv/\aB C w mv rv
theorem qF {α:Type} [DecidableEq α] {mk:α->Val} (hmk: ∀a b,kEq (mk a) (mk b)=decide (a=b)) (k:α): ∀ {kvs:List (α×Value)}{mes:List (Val×Val)},mes.map (·.1)=kvs.map (λp=>mk p.1) ->aA C w (mes.map (·.2)) (kvs.map (·.2)) ->yG C w (bA mes (mk k)) (valueAt kvs k):=by
 intro kvs
 induction kvs with
 |nil=>intro mes e r;rw [Je.mp e];exact .inl ⟨rfl,rfl⟩
 |cons y kvs ih=>
  intro mes e r;cases mes with
  |nil=>cases e
  |cons x mes=>
   obtain ⟨e1,e2⟩:=Q6.inj e;obtain ⟨v,t,ev,h,r⟩:=r;obtain ⟨rfl,rfl⟩:=Q6.inj ev;have ih:=ih e2 r;unfold bA valueAt at ih ⊢;rw [Jg,Jg,show x.1=mk y.1 from e1,hmk];cases hk:decide (y.1=k) with
   |true=>exact .inr ⟨_,_,rfl,rfl,h⟩
   |false=>exact ih
theorem yG.isSome {m:Option Val}{v:Option Value} (h:yG C w m v):m.isSome=v.isSome:=by
 rcases h with ⟨rfl,rfl⟩| ⟨_,_,rfl,rfl,_⟩<;>rfl
theorem DA.get {mes:List (Val×Val)}{es:List DictEntry}{kvs:List (Atom×Value)} (D:DA C w mes es kvs) (k:Atom):yG C w (bA mes k.val) (valueAt kvs k):=qF mB k D.e D.r
theorem DT.sides {mes:List (Val×Val)}{es:List DictEntry}{xs:List (List Atom×Addr×Value)} (D:DT C w mes es xs):mes.map (·.1)=(kvsOf xs).map (λp=>Val.tup (p.1.map Atom.val))/\aA C w (mes.map (·.2)) ((kvsOf xs).map (·.2)):=by
 refine ⟨?_,?_⟩
 ·rw [D.e];simp [kvsOf]
 ·have:=D.r
  simpa [kvsOf,Function.comp_def] using this
theorem DT.get {mes:List (Val×Val)}{es:List DictEntry}{xs:List (List Atom×Addr×Value)} (D:DT C w mes es xs) (k:List Atom):yG C w (bA mes (.tup (k.map Atom.val))) ((atKey xs k).map (·.2)):=by
 rw [<-valueAt_kvsOf];exact qF (mk:=λas:List Atom=>Val.tup (as.map Atom.val)) rJ k D.sides.1 D.sides.2
theorem aH.room (Y:aH C d e):(tupleKind (bB C.prog C.w)).room Y.A.in1:=tupleKind_room_in1 (Y.u (by decide))
end
section
variable {prog:Program}{w:World}{K:Type} [DecidableEq K] {knd:HeapKind prog w K}{A:Around}{E:Value->Shared->Prop}{s:Shared}
theorem fJ {nm:String}{a b:Addr}{xa xb:List (K×Addr×Value)}{r:Bool}{Q:Bool->Shared->Prop} (ha:(a==sysModules)=false) (hb:(b==sysModules)=false) (hu:knd.room A)
  (da:s.heap.DictOfH knd a xa) (db:s.heap.DictOfH knd b xb) (hits:xa.length=xb.length->KeqHits A s (kvsOf xb) (kvsOf xa) r) (h:Q (xa.length==xb.length && r) s):
  wpAny (model prog w) A (Builtin.Dict.samePairs nm a b) Q E s:=by
 obtain ⟨oa,es,ep,hoa,_,hda,hea,hia,hna⟩:=da;obtain ⟨ob,es',ep',hob,_,hdb,heb,hib,hnb⟩:=db;have hla:xa.length=es.size:=(size_of_entries hea).symm;have hlb:xb.length=es'.size:=(size_of_entries heb).symm;rw [hla,hlb] at h;unfold Builtin.Dict.samePairs Builtin.Dict.showsAll;rw [if_neg (show ¬(a==sysModules)=true by rw [ha];exact QZ),if_neg (show ¬(b==sysModules)=true by rw [hb];exact QZ)];refine wpAny_bind (wpAny_pure (wpAny_bind (wpAny_pure ?_)));refine wpAny_bind (wpAny_dictEntries hoa hda ?_)
 dsimp only
 refine wpAny_bind (wpAny_dictEntries hob hdb ?_);by_cases hsz:es.size=es'.size
 case neg=>
  rw [if_pos (by simpa using hsz)];rw [(by simpa using hsz:(es.size==es'.size)=false),Kv] at h;exact wpAny_bind (wpAny_rule (wpAny_pure h))
 case pos=>
  have h':Q r s:=by simpa [hsz] using h
  rw [if_neg (by rw [hsz];simp)];refine wpAny_bind (wpAny_dictEpoch hoa hda ?_);refine wpAny_bind ?_;rw [Std.Legacy.Range.forIn_eq_forIn_range'];simp only [Std.Legacy.Range.size,KD,Nat.add_sub_cancel,Nat.div_one];refine wpAny_forIn_list _
   (λrest q s'=>s'=s/\q=(none,())/\∃i,rest=QA i (es.size-i)/\i<=es.size/\KeqHits A s (kvsOf xb) ((kvsOf xa).drop i) r)
   _ ?_ ?_ _ _ ⟨rfl,rfl,0,by simp,QO _,(hits (by rw [hla,hlb];exact hsz))⟩
  ·rintro x rest q s' ⟨rfl,rfl,i,hr,hi,hpre⟩
   have hlt:i<es.size:=by
    rcases Nat.lt_or_ge i es.size with h|h
    ·exact h
    ·rw [Nat.sub_eq_zero_of_le h] at hr;simp at hr
   obtain ⟨rfl,hrest⟩:x=i/\rest=QA (i+1) (es.size-(i+1)):=by
    rw [(Kb (Kh hlt)).symm,J8] at hr;injection hr with h1 h2;exact ⟨h1,h2⟩
   refine wpAny_bind (wpAny_dictEntries hoa hda ?_);have hlt':x<xa.length:=by rw [hla];exact hlt
   obtain ⟨k,ka,v,hkv⟩: ∃k ka v,xa[x]=(k,ka,v):=⟨_,_,_,rfl⟩;have hdrop:(kvsOf xa).drop x=(k,v)::(kvsOf xa).drop (x+1):=by
    rw [Zr (by simpa [kvsOf] using hlt':x<(kvsOf xa).length)]
    congr 1
    simp [kvsOf,hkv]
   rw [(by rw [entry_at hea x,(by rw [Qh hlt',hkv]:xa[x]?=some (k,ka,v))];rfl:es[x]?=some (entryOfKey knd (k,ka,v)))];rw [hdrop] at hpre;show wpAny _ _ (holding [JL ka,v] _>>=_) _ _ _;refine wpAny_bind (wpAny_holding (wpAny_bind (wpAny_dictFind_heap hu (hia (k,ka,v) (Q8 (by rw [Qh hlt',hkv]:xa[x]?=some (k,ka,v))):knd.is s'.heap k ka) hob hdb heb hib hnb ?_ ?_)))
   ·intro hno
    rcases hpre.inv with ⟨_,er⟩| ⟨y,_,_,hy,_⟩
    ·rw [er] at h'
     refine wpAny_pure ?_;show wpAny _ _ (if (!false)=true then _ else _) _ _ _;rw [if_pos (by decide)];exact wpAny_pure (wpAny_pure h')
    ·rw [(by rw [valueAt_kvsOf,atKey_none_of_get hno];rfl:valueAt (kvsOf xb) k=none)] at hy;exact nos hy
   ·intro j p hj
    have hv':valueAt (kvsOf xb) k=some p.2:=by rw [valueAt_kvsOf,atKey_of_get hnb hj];rfl
    refine wpAny_bind (wpAny_dictEntries hob hdb ?_);rw [(by rw [entry_at heb j,hj];rfl:es'[j]?=some (entryOfKey knd (k,p)))];rcases hpre.inv with ⟨hn,_⟩| ⟨y,e,b',hy,he,hrr,er⟩
    ·rw [hv'] at hn;exact nos hn.symm
    ·have ey:p.2=y:=Qf.inj (hv'.symm.trans hy)
     rw [<-ey] at he;refine wpAny_holding (he prog w _ _ ?_);cases e with
     |false=>
      rw [er,Kv] at h';show wpAny _ _ (if (!false)=true then _ else _) _ _ _;rw [if_pos (by decide)];exact wpAny_pure (wpAny_pure h')
     |true=>
      rw [KA] at er;rw [<-er] at hrr;show wpAny _ _ (if (!true)=true then _ else _) _ _ _;rw [if_neg (by decide)];refine wpAny_bind (wpAny_dictEpoch hoa hda ?_);rw [if_neg (by simp)];exact wpAny_pure ⟨rfl,rfl,x+1,hrest,hlt,hrr⟩
  ·rintro q s' ⟨rfl,rfl,i,hr,hi,hpre⟩
   have hin:i=es.size:=by
    rcases Nat.lt_or_ge i es.size with h|h
    ·rw [(Kb (Kh h)).symm,J8] at hr;exact nomatch hr
    ·exact JJ hi h
   refine wpAny_pure ?_;rw [hin,<-hla,show xa.length=(kvsOf xa).length by simp [kvsOf],List.drop_length] at hpre;cases hpre;exact h'
theorem zfm {a b:Addr}{xa xb:List (K×Addr×Value)}{r:Bool} (ha:(a==sysModules)=false) (hb:(b==sysModules)=false) (hk:knd.room A.in1)
  (da:s.heap.DictOfH knd a xa) (db:s.heap.DictOfH knd b xb) (hu:A.units<cLine) (hits:xa.length=xb.length->KeqHits A.in1 s (kvsOf xb) (kvsOf xa) r) {Q:Value->Shared->Prop}:
  (Q (.bool (xa.length==xb.length && r)) s->wpAny (model prog w) A (compareOp .Eq (.ref a) (.ref b)) Q E s)/\(Q (.bool (!(xa.length==xb.length && r))) s->wpAny (model prog w) A (compareOp .NotEq (.ref a) (.ref b)) Q E s):=by
 refine ⟨λh=>?_,λh=>?_⟩
 ·refine wpAny_richCompare_same_room (op:=.Eq) da.typeIs db.typeIs PySem.F.slot_dict_eq (wpAny_call_entry PySem.F.slot_dict_eq da.typeIs PySem.F.entry_dict_eq ?_ (PySem.F.args_dict_eq_2 _ _)) hu
  show wpAny _ _ (Builtin.Dict.dictSlotArgs "__eq__" ⟨[.ref a,.ref b],[]⟩ >>= _) _ _ s;refine wpAny_bind ?_;unfold Builtin.Dict.dictSlotArgs;refine wpAny_bind (wpAny_notOrdered_dict da.typeIs ?_);show wpAny _ _ (pure (JL a,JL b)) _ _ s;refine wpAny_pure ?_;refine wpAny_bind (wpAny_isInstance (T:="dict") db.typeIs PySem.F.sub_dict_dict ?_);simp only [Z6,Ji,if_false];refine wpAny_bind (wpAny_pure (wpAny_bind (wpAny_pure ?_)));refine wpAny_bind (fJ ha hb hk da db hits ?_);exact wpAny_pure ⟨_,rfl,(λx=>Value.noConfusion x),by simpa using h⟩
 ·refine wpAny_richCompare_same_room (op:=.NotEq) da.typeIs db.typeIs PySem.F.slot_dict_ne (wpAny_call_entry PySem.F.slot_dict_ne da.typeIs PySem.F.entry_dict_ne ?_ (PySem.F.args_dict_ne_2 _ _)) hu
  show wpAny _ _ (Builtin.Dict.dictSlotArgs "__ne__" ⟨[.ref a,.ref b],[]⟩ >>= _) _ _ s;refine wpAny_bind ?_;unfold Builtin.Dict.dictSlotArgs;refine wpAny_bind (wpAny_notOrdered_dict da.typeIs ?_);show wpAny _ _ (pure (JL a,JL b)) _ _ s;refine wpAny_pure ?_;refine wpAny_bind (wpAny_isInstance (T:="dict") db.typeIs PySem.F.sub_dict_dict ?_);simp only [Z6,Ji,if_false];refine wpAny_bind (wpAny_pure (wpAny_bind (wpAny_pure ?_)));refine wpAny_bind (fJ ha hb hk da db hits ?_);exact wpAny_pure ⟨_,rfl,(λx=>Value.noConfusion x),by simpa using h⟩
end
section
variable {C:Cfg}{d e:Nat}{Y:aH C d e}{k:Kp}{w:Wd}{H:MH}{s:Shared}{cx:CC}{env:Env}{mE:Str->Option Value}{fr:Frame}
theorem zF {α:Type} [DecidableEq α] {mk:α->Val} (S:St Y k w H s) {mes2:List (Val×Val)}{kb:List (α×Value)} (hg: ∀k,yG C w (bA mes2 (mk k)) (valueAt kb k)):
  ∀ {ka:List (α×Value)}{mes:List (Val×Val)}{r:Bool},mes.map (·.1)=ka.map (λp=>mk p.1) ->aA C w (mes.map (·.2)) (ka.map (·.2)) ->b8 H mes2 mes=some r->KeqHits Y.A.in1 s kb ka r:=by
 intro ka
 induction ka with
 |nil=>intro mes r e _ eh;rw [Je.mp e] at eh;cases eh;exact .nil
 |cons y ka ih=>
  intro mes r e rr eh;cases mes with
  |nil=>cases e
  |cons x mes=>
   obtain ⟨e1,e2⟩:=Q6.inj e;obtain ⟨v,t,ev,h1,rr⟩:=rr;obtain ⟨rfl,rfl⟩:=Q6.inj ev;have eh:Qc (motive:=λ_=>Option Bool) (bA mes2 x.1) (some false) (λy=>(lU H x.2 y).bind λe=>(b8 H mes2 mes).map λb=>e && b)=some r:=eh;rw [show x.1=mk y.1 from e1] at eh;rcases hg y.1 with ⟨g1,g2⟩| ⟨mv,rv,g1,g2,g3⟩
   ·rw [g1] at eh
    cases eh;exact .miss g2
   ·rw [g1] at eh
    obtain ⟨e',q1,eh⟩:=bs eh;refine (ms eh).elim λb zq42=>?_;obtain rfl:=zq42.2;exact .hit g2 (zbQ S h1 g3 q1) (ih e2 rr zq42.1)
theorem uI {A:Around}{α:Type} [DecidableEq α] {ka kb:List (α×Value)}{l1 l2:Nat}{o:Option Bool}{r:Bool} (e1:l1=ka.length) (e2:l2=kb.length) (e:(bif l1==l2 then o else some false)=some r) (h:o=some r->KeqHits A s kb ka r):
  ∃r',(ka.length=kb.length->KeqHits A s kb ka r')/\(ka.length==kb.length && r')=r:=by
 rw [e1,e2] at e;cases hl:(ka.length==kb.length) with
 |true=>rw [hl] at e;exact ⟨r,λ_=>h e,rfl⟩
 |false=>rw [hl] at e;exact ⟨false,λq=>absurd (beq_iff_eq.mpr q) (by rw [hl];exact QZ),Qf.inj e⟩
theorem zar {es1 es2:List (Val×Val)}{d1 d2:List DictEntry} (hk:dJ es1 es2=true) (c1:dT C w es1 d1) (c2:dT C w es2 d2):(∃k1 k2,DA C w es1 d1 k1/\DA C w es2 d2 k2)\/∃x1 x2,DT C w es1 d1 x1/\DT C w es2 d2 x2:=by
 have fa: ∀ {es:List (Val×Val)}{x:Val},aG x≠0->(es.isEmpty||iX es==some (aG x))=true->aE es x=true:=λh h'=>Qa.mpr ⟨bne_iff_ne.mpr h,h'⟩;cases es1 with
 |nil=>
  rcases c2 with ⟨k2,D2⟩| ⟨x2,D2⟩
  ·obtain ⟨k1,D1⟩:=c1.atom (a:=.i 0) (fa ((λa=>by rw [bQ];decide: ∀a:Atom,aG a.val≠0) _) rfl)
   exact .inl ⟨k1,k2,D1,D2⟩
  ·obtain ⟨x1,D1⟩:=c1.tups (as:=[]) (fa ((λa=>by rw [cP];decide: ∀a:List Atom,aG (.tup (a.map Atom.val))≠0) _) rfl)
   exact .inr ⟨x1,x2,D1,D2⟩
 |cons p es1=>
  have hk:(es2.isEmpty||some (aG p.1)==iX es2)=true:=hk;have sw: ∀ {x:Val},p.1=x->(es2.isEmpty||iX es2==some (aG x))=true:=λe=>by
   subst e;rcases Jp.mp hk with h|h
   ·rw [h];rfl
   ·rw [<-beq_iff_eq.mp h,beq_self_eq_true,Bool.or_true]
  rcases c1 with ⟨k1,D1⟩| ⟨x1,D1⟩
  ·have e:=D1.e
   cases k1 with
   |nil=>cases e
   |cons y k1=>
    obtain ⟨k2,D2⟩:=c2.atom (a:=y.1) (fa ((λa=>by rw [bQ];decide: ∀a:Atom,aG a.val≠0) _) (sw (Q6.inj e).1));exact .inl ⟨_,k2,D1,D2⟩
  ·have e:=D1.e
   cases x1 with
   |nil=>cases e
   |cons y x1=>
    obtain ⟨x2,D2⟩:=c2.tups (as:=y.1) (fa ((λa=>by rw [cP];decide: ∀a:List Atom,aG (.tup (a.map Atom.val))≠0) _) (sw (Q6.inj e).1));exact .inr ⟨_,x2,D1,D2⟩
theorem v7 (S:St Y k w H s) {x y:Val}{vx vy:Value}{d1 d2:Option Nat×List (Val×Val)}{r:Bool} (hx:aB C w x vx) (hy:aB C w y vy)
  (o1:dictAt H x=some d1) (o2:dictAt H y=some d2) (hk:dJ d1.2 d2.2=true) (e:(bif d1.2.length==d2.2.length then b8 H d2.2 d1.2 else some false)=some r):EqW Y s vx vy r:=by
 refine (S.dict hx o1).elim λ_ zq37=>?_;obtain ⟨a1,n1,es1,rfl,m1,_,g1,c1,_,_⟩:=zq37.2;obtain ⟨_,_,a2,n2,es2,rfl,m2,_,g2,c2,_,_⟩:=S.dict hy o2;have hcl:Y.A.units<cLine:=Y.u (QO _);rcases zar hk c1 c2 with ⟨k1,k2,D1,D2⟩| ⟨x1,x2,D1,D2⟩
 ·obtain ⟨r',hits,rfl⟩:=uI (iU D1.e) (iU D2.e) e λe=>zF S D2.get D1.e D1.r e
  exact λQ E=>⟨keq_eq m1 m2 (D1.dictOf g1) (D2.dictOf g2) hcl hits,keq_ne m1 m2 (D1.dictOf g1) (D2.dictOf g2) hcl hits⟩
 ·have hl: ∀l:List (List Atom×Addr×Value),l.length=(kvsOf l).length:=λl=>(Qz ..).symm
  obtain ⟨r',hits,rfl⟩:=uI ((iU D1.e).trans (hl x1)) ((iU D2.e).trans (hl x2)) e λe=>zF (mk:=λas:List Atom=>Val.tup (as.map Atom.val)) S (λq=>by rw [valueAt_kvsOf];exact D2.get q) D1.sides.1 D1.sides.2 e;rw [<-hl,<-hl] at hits ⊢;exact λQ E=>zfm m1 m2 Y.room (D1.dictOf S g1) (D2.dictOf S g2) hcl hits
theorem sW (S:St Y k w H s) {x y:Val}{vx vy:Value}{r:Bool} (hx:aB C w x vx) (hy:aB C w y vy):veq H x y=some r->EqW Y s vx vy r:=
 aT (aF λd1 o1=>aF λd2 o2=>bE λhk e=>v7 S hx hy o1 o2 hk e) (zep S hx hy)
theorem Sta.grown {h h':Heap} (S:Sta C Y.h₀ Y.L k w H h) (he:Heap.ExtBut h.objs.size h h'):Sta C Y.h₀ Y.L k w H h':=
 zfO.casesOn S.ledger λall hn _ _ g=>g h' (S.fr.extBut he (Qo _)) λp hp=>⟨he p.1 p.2 (JG (Zi (hn p hp).1)) (hn p hp).1,(hn p hp).2⟩
theorem aA.empty {mvs:List Val}{vs:List Value} (r:aA C w mvs vs):vs.toArray.isEmpty=mvs.isEmpty:=by
 cases mvs with
 |nil=>cases r;rfl
 |cons m mvs=>obtain ⟨v,t,rfl,_,_⟩:=r;rfl
theorem dW (S:St Y k w H s) {x:Val}{v:Value}{r:Bool} (hx:aB C w x v) (e:truthy H x=some r) {Q:Bool->Shared->Prop}{E:Value->Shared->Prop} (h: ∀tk,Q r {s with toks:=tk}):wpAny C.M Y.A (PySem.truthy v) Q E s:=by
 cases x with
 |none=>cases hx;cases e;exact truthy_none (h s.toks)
 |bool b=>cases hx;cases e;exact wpAny_truthy_bool (h s.toks)
 |int i=>obtain ⟨t,rfl⟩:=hx;cases e;exact truthy_int (h s.toks)
 |str l=>
  cases e;obtain ⟨t,rfl,ok⟩:=hx;refine P.truthy_str (Zp.mpr (eI ok.2)) ?_;have e:(((⟨l.toArray⟩:Str).length:Int) !=0)=!l.isEmpty:=by cases l<;>rfl
  rw [e];exact h _
 |tup vs=>
  cases e;obtain ⟨t,o,n,ws,rfl,ho,hc,hd,rr,hl⟩:=S.tup hx;refine truthy_tuple (items:=ws.toArray) ⟨o,ho,hc,n,hd⟩ (by rw [Qw,<-rr.length];exact eI hl) ?_;rw [rr.empty];exact h _
 |ref i=>
  refine (ms e).elim λvs zq31=>?_;obtain rfl:=zq31.2;obtain ⟨t,ws,n,rfl,ho,rr,hl⟩:=S.list hx zq31.1;refine wpAny_truthy_list (items:=ws.toArray) ⟨_,ho,rfl,n,rfl⟩ (by rw [Qw,<-rr.length];exact eI hl) ?_;rw [rr.empty];exact h _
 |_=>exact nos e
theorem Ref.truth {x:Val}{v:Value} (S:St Y k w H s) (hx:aB C w x v):Ref Y k EqR (PySem.truthy v) w s ((truthy H x).map λb=>(b,H)):=
 .omap λb hb=> .val S λQ E q=>dW S hx hb λtk=>q b tk rfl
theorem aU {α β:Type} [BEq α] [LawfulBEq α] {a:α}{b:β}: ∀ {l:List (α×β)},l.lookup a=some b->(a,b)∈l:=by
 intro l
 induction l with
 |nil=>exact λh=>nos h
 |cons p l ih=>
  intro h;rw [QE] at h;cases e:(a==p.1) with
  |true=>rw [e] at h;cases h;rw [beq_iff_eq.mp e];exact .head _
  |false=>rw [e] at h;exact .tail _ (ih h)
theorem zY: ∀p∈dC,∀q∈dC,(p.1==q.1)=(p.2==q.2):=by decide
theorem pR {A : Around} {a b : Addr} {oa ob : Obj} {Q : Bool -> Shared -> Prop} {E : Value -> Shared -> Prop} (ha : s.heap.get? a = some oa) (hb : s.heap.get? b = some ob) (hc : ob.cls ≠ .type "tuple") (h : Q (a == b) s) : wpAny C.M A (isSame (.ref a) (.ref b)) Q E s := by
 unfold isSame
 dsimp only
 by_cases e:a=b
 ·subst e
  rw [if_pos (by simp)];rw [beq_self_eq_true] at h;exact wpAny_pure h
 ·rw [if_neg (by simpa using e)]
  rw [beq_eq_false_iff_ne.mpr e] at h;refine wpAny_bind (wpAny_load ha (wpAny_bind (wpAny_load hb ?_)));split
  ·rename_i q _ _
   exact absurd q hc
  ·exact wpAny_pure h
theorem aB.isNone {x:Val}{v:Value} (h:aB C w x v):isSame v .none=pure x.isNone:=by
 rw [isSame_none];cases x with
 |none=>cases h;rfl
 |bool b=>cases h;rfl
 |int i=>obtain ⟨t,rfl⟩:=h;rfl
 |str i=>obtain ⟨t,rfl,_⟩:=h;rfl
 |tup i=>obtain ⟨_,_,_,_,rfl,_,_,_⟩:=h;rfl
 |ref i=>obtain ⟨_,rfl,_⟩:=h;rfl
 |top i=>obtain ⟨_,rfl,_⟩:=h;rfl
 |ty i=>obtain ⟨_,rfl,_⟩:=h;rfl
 |bi i=>obtain ⟨_,rfl,_⟩:=h;rfl
 |rng i=>obtain ⟨_,_,_,_,rfl,_⟩:=h;rfl
 |fl i=>obtain ⟨_,_,_,_,rfl,_,_,_⟩:=h;rfl
 |setn i=>obtain ⟨_,_,_,_,_,rfl,_⟩:=h;rfl
theorem zbN (K:jM C) (S:St Y k w H s) {x y:Val}{vx vy:Value}{r:Bool} (hx:aB C w x vx) (hy:aB C w y vy) {Q:Bool->Shared->Prop}{E:Value->Shared->Prop} (h:Q r s):isV x y=some r->wpAny C.M Y.A (isSame vx vy) Q E s:=by
 have plain:isSame vx vy=pure r->wpAny C.M Y.A (isSame vx vy) Q E s:=λq=>by rw [q];exact wpAny_pure h
 refine aT (bE λq e=>?_) (aT (aF λi e1=>aX λj e2 e=>?_) (aT (aF λi e1=>aX λj e2 e=>?_) (bE λq=>aX λj e2 e=>?_)))
 ·clear h
  cases uE q;cases hy;exact plain (hx.isNone.trans (congrArg pure (Qf.inj e)))
 ·clear h
  cases ty?_s e1;cases ty?_s e2;obtain ⟨n1,rfl,h1⟩:=hx;obtain ⟨n2,rfl,h2⟩:=hy;refine plain (congrArg pure (Eq.trans ?_ ((zY _ (aU h1) _ (aU h2)).symm.trans e)));by_cases e:n1=n2
  ·subst e;simp
  ·rw [beq_eq_false_iff_ne.mpr e,beq_eq_false_iff_ne.mpr (λq=>e (Qb.inj q))]
 ·clear plain
  cases top?_s e1;cases top?_s e2;obtain ⟨a1,rfl,h1⟩:=hx;obtain ⟨a2,rfl,h2⟩:=hy;refine (K.adK _ _ h1).elim λo1 zq25=>?_;refine (K.adK _ _ h2).elim λo2 zq24=>?_;refine pR (S.kIn _ _ zq25.1) (S.kIn _ _ zq24.1) zq24.2 ?_;have e':(a1==a2)=(i==j):=by
   rw [QL,beq_iff_eq,beq_iff_eq];exact ⟨λq=>K.adInj _ _ _ h1 (q▸h2),λq=>Qf.inj ((q▸h1:C.ad.lookup j=some a1).symm.trans h2)⟩
  rw [e',e];exact h
 ·cases top?_s e2
  obtain ⟨b,rfl,h2⟩:=hy;subst e;cases x with
  |none=>cases hx;exact plain rfl
  |int i=>obtain ⟨t,rfl⟩:=hx;exact plain rfl
  |tup vs=>
   clear plain
   refine (K.adK _ _ h2).elim λo zq22=>?_;obtain ⟨ta,ot,n,ws,rfl,hg,hct,_,_,_⟩:=S.tup hx;refine pR hg (S.kIn _ _ zq22.1) zq22.2 ?_;rw [beq_eq_false_iff_ne.mpr λq=>zq22.2 (by rw [<-hct,Qf.inj ((q▸hg:s.heap.get? b=some ot).symm.trans (S.kIn _ _ zq22.1))])];exact h
  |_=>cases q
def InW {C:Cfg}{d e:Nat} (Y:aH C d e) (s:Shared) (vx vy:Value) (r:Bool):Prop:=
 ∀ (Q:Value->Shared->Prop) (E:Value->Shared->Prop),((∀tk,Q (.bool r) {s with toks:=tk}) ->wpAny C.M Y.A (compareOp .In vx vy) Q E s)/\((∀tk,Q (.bool (!r)) {s with toks:=tk}) ->wpAny C.M Y.A (compareOp .NotIn vx vy) Q E s)
theorem one?_s {s:List Nat}{c:Nat} (h:one? s=some c):s= [c]:=by
 cases s with
 |nil=>exact nos h
 |cons a r=>
  cases r with
  |nil=>cases h;rfl
  |cons _ _=>exact nos h
theorem zbO (S:St Y k w H s) {x y:Val}{vx vy:Value}{r:Bool} (hx:aB C w x vx) (hy:aB C w y vy):rL H x y=some r->InW Y s vx vy r:=by
 have hu: ∀ {a b:Nat},a<=7->Y.A.units+1+min a b<cLine:=λh=>by rw [Z5];exact Y.u (Qe (Jo (Qe (Zd _ _) h) 1) (by decide))
 refine aT (aF λt e1=>aX λc e2 e=>?_) (aT (aF λvs e1=>aF λds e2=>aX λdx e3 e=>?_) (aT (aF λvs e1=>aF λds e2=>aX λdx e3 e=>?_) (aF λp e1=>bE λhf e=>?_)))
 ·obtain ⟨x',e3,e2⟩:=bs e2
  cases one?_s e2;refine (hx.str? e3).elim λu zq19=>?_;obtain rfl:=zq19.1;refine (hy.str? e1).elim λt' zq18=>?_;obtain rfl:=zq18.1;have hc:t.contains c=decide (c∈t):=by rw [QL,Q7,decide_eq_true_eq]
  rw [<-e,hc];refine λQ E=>⟨λh=>in_str ?_,λh=>notIn_str ?_⟩
  ·rw [show (⟨[c].toArray⟩:Str)=⟨#[c]⟩ from rfl,(StrLaws.found_one ⟨t.toArray⟩ c)]
   exact h s.toks
  ·rw [show (⟨[c].toArray⟩:Str)=⟨#[c]⟩ from rfl,(StrLaws.found_one ⟨t.toArray⟩ c)]
   exact h s.toks
 ·cases tup?_s e1
  obtain ⟨t,o,n,ws,rfl,ho,hc,hd,rr,_⟩:=S.tup hy;obtain ⟨as,ra,c1,d1⟩:=f9 (cM S 7) rr e2;obtain ⟨bs,rb,c2,d2⟩:=cM S 7 x vx dx hx e3;rw [<-e];exact λQ E=>⟨λh=>SeqAt.in_tuple_reads (.tuple ho hc hd ra:Reads s.heap (.ref t) (.tuple ds) as) rb c1 c2 (hu d1) (h s.toks),λh=>SeqAt.notIn_tuple_reads (.tuple ho hc hd ra:Reads s.heap (.ref t) (.tuple ds) as) rb c1 c2 (hu d1) (h s.toks)⟩
 ·obtain ⟨t,ws,n,rfl,ho,rr,_⟩:=S.list hy e1
  obtain ⟨as,ra,c1,d1⟩:=f9 (cM S 7) rr e2;obtain ⟨bs,rb,c2,d2⟩:=cM S 7 x vx dx hx e3;rw [<-e];have R:Reads s.heap (.ref t) (.list ds) (t::as):= .list ho rfl rfl ra;exact λQ E=>⟨λh=>SeqAt.in_list_reads R rb c1 c2 (hu d1) (h s.toks),λh=>SeqAt.notIn_list_reads R rb c1 c2 (hu d1) (h s.toks)⟩
 ·refine (S.dict hy e1).elim λi zq11=>?_
  obtain ⟨b,n,es,rfl,hmod,_,hg,hdr,_,_⟩:=zq11.2;rw [<-Qf.inj e];rcases gB (Qa.mp hf).1 with ⟨q,rfl⟩| ⟨q,rfl⟩
  ·obtain ⟨kvs,D⟩:=hdr.atom hf
   rw [(D.get q).isSome];exact λQ E=>⟨λh=>wpAny_in_of hx.atom.1 hmod (D.dictOf hg).mapOf (h _),λh=>wpAny_notIn_of hx.atom.1 hmod (D.dictOf hg).mapOf (h _)⟩
  ·obtain ⟨xs,D⟩:=hdr.tups hf
   obtain ⟨t,rfl,ht⟩:=S.tupKey hx;rw [(D.get q).isSome,J3];exact λQ E=>⟨λh=>wpAny_in_heap Y.room ht hmod (D.dictOf S hg) (h _),λh=>wpAny_notIn_heap Y.room ht hmod (D.dictOf S hg) (h _)⟩
theorem yV {op:CmpOp} (K:jM C) (S:St Y k w H s) {x y:Val}{vx vy:Value} (hx:aB C w x vx) (hy:aB C w y vy):Ref Y k (VR C) (compareOp op vx vy) w s ((jD (zL op) x y H).map λr=>(.bool r,H)):=by
 refine .omap λr e=> .val S λQ E q=>?_;have h: ∀tk,Q (.bool r) {s with toks:=tk}:=λtk=>q _ tk rfl;have h0:=h s.toks;have cmpQ: ∀ {f:Int->Int->Bool}{t:Sem Value},zaZ x y f=some r->(∀a b t1 t2,vx= .int a t1->vy= .int b t2->r=f a b->wpAny C.M Y.A t Q E s) ->wpAny C.M Y.A t Q E s:=λe g=>by
  obtain ⟨a,e1,e⟩:=bs e;obtain ⟨b,e2,rfl⟩:=ms e;obtain ⟨t1,q1⟩:=hx.int? e1;obtain ⟨t2,q2⟩:=hy.int? e2;exact g a b t1 t2 q1 q2 rfl
 cases op with
 |Eq=>exact (sW S hx hy e Q E).1 h0
 |NotEq=>
  obtain ⟨q,hq,rfl⟩:=ms e;exact (sW S hx hy hq Q E).2 h0
 |Lt=>exact cmpQ e λa b t1 t2 e1 e2 e3=>by subst e1 e2 e3;exact lt_int h0
 |LtE=>exact cmpQ e λa b t1 t2 e1 e2 e3=>by subst e1 e2 e3;exact le_int h0
 |Gt=>exact cmpQ e λa b t1 t2 e1 e2 e3=>by subst e1 e2 e3;exact gt_int h0
 |GtE=>exact cmpQ e λa b t1 t2 e1 e2 e3=>by subst e1 e2 e3;exact ge_int h0
 |In=>exact (zbO S hx hy e Q E).1 h
 |NotIn=>
  obtain ⟨q,hq,rfl⟩:=ms e;exact (zbO S hx hy hq Q E).2 h
 |Is=>exact wpAny_bind (zbN K S hx hy (wpAny_pure h0) e)
 |IsNot=>
  obtain ⟨q,hq,rfl⟩:=ms e;exact wpAny_bind (zbN K S hx hy (wpAny_pure h0) hq)
end
section
variable {prog:Program}{w:World}{A:Around}{E:Value->Shared->Prop}{s:Shared}
theorem zb6 {d:Addr}{es:List DictEntry}{ep:Nat}{Q:Value->Shared->Prop} (hd:(d==sysModules)=false) (ho:s.heap.get? d=some (dictOf es ep))
  (hQ : Q (.ref s.heap.objs.size) { s with heap := s.heap.push { cls := .type "dict_keyiterator",data := .fields #[.ref d,.int 0 0,.int es.length 0,.int ep 0] } }) :
  wpAny (model prog w) A (pyIter (.ref d)) Q E s:=by
 have hT : s.TypeIs (.ref d) "dict" := ⟨_,ho,rfl⟩;refine wpAny_pyIter_slot hT F.slot_dict_iter (wpAny_call_entry F.slot_dict_iter hT F.entry_dict_iter ?_ (F.args_dict_iter_1 _));unfold Builtin.«dict.__iter__»;refine wpAny_bind ?_;unfold Builtin.Dict.dictSlotNone;refine wpAny_bind (wpAny_notOrdered_dict hT ?_);show wpAny _ _ (pure (JL d)) _ _ s;refine wpAny_pure ?_;show wpAny _ _ (Builtin.Dict.showsAll d>>=_) _ _ s;unfold Builtin.Dict.showsAll;rw [if_neg (by rw [hd];exact QZ)];refine wpAny_bind (wpAny_pure ?_);refine wpAny_bind (wpAny_dictEntries ho rfl ?_);refine wpAny_bind (wpAny_dictEpoch ho rfl ?_);refine wpAny_bind (wpAny_newObj_type (wpAny_pure ⟨_,rfl,"dict_keyiterator",_,⟨_,Heap.get?_push_size _ rfl,rfl⟩,F.slot_dict_keyiterator_next.lookup,?_⟩));exact hQ
theorem zb5 {it d:Addr}{i ep:Nat}{es:List DictEntry}{Q:Option Value->Shared->Prop} (hh:A.handled=none) (hit:s.heap.IsKeyIter it d i es.length ep) (hod:s.heap.get? d=some (dictOf es ep))
  (h1: ∀e h',es[i]?=some e->h'.IsKeyIter it d (i+1) es.length ep->Heap.SameBut it s.heap h'->Q (some e.key) {s with heap:=h'})
  (h2: ∀h',es[i]?=none->Heap.ExtBut it s.heap h'->Q none {s with heap:=h'}):wpAny (model prog w) A (pyNext (.ref it)) Q E s:=by
 refine QY (id hit) λo zq23=>?_;unfold pyNext;refine wpAny_bind (wpAny_attempt (wpAny_callSpecial?_slot (name:=Str.ofString "__next__") hit.typeIs F.slot_dict_keyiterator_next
  (wpAny_call_entry F.slot_dict_keyiterator_next hit.typeIs F.entry_dict_keyiterator_next ?_ (F.args_dict_keyiterator_next_1 _))))
 refine wpAny_bind (wpAny_pure ?_);refine wpAny_bind ?_;refine wpAny_bind ?_
 first|refine wpAny_bind (wpAny_typeNameOfWhole_keyiter hit.typeIs (wpAny_pure ?_))|refine wpAny_bind (wpAny_typeNameOf_keyiter hit.typeIs (wpAny_pure ?_))
 refine wpAny_bind (wpAny_fieldsOf zq23.1 zq23.2.2 ?_);simp only [(by decide : Builtin.Dict_items.ownsTuple "dict_keyiterator" = false),Ji,if_false];show wpAny _ _ (if (JL d==QN)=true then _ else _) _ _ s;rw [if_neg (show ¬((JL d==QN)=true) from QZ)];refine wpAny_bind (wpAny_pure ?_);refine wpAny_bind (wpAny_dictEntries hod rfl ?_);rw [if_neg (by simp)];refine wpAny_bind (wpAny_pure ?_);refine wpAny_bind (wpAny_dictEpoch hod rfl ?_);rw [if_neg (by simp)];refine wpAny_pure ?_;cases hx:es[i]? with
 |some e=>
  simp only [show ¬((i:Int)<0) from by lia,if_false,Jz,(by rw [QM];exact hx:es.toArray[i]?=some e)];refine wpAny_bind ?_
  first|refine wpAny_bind (wpAny_typeNameOfWhole_keyiter hit.typeIs (wpAny_pure ?_))|refine wpAny_bind (wpAny_typeNameOf_keyiter hit.typeIs (wpAny_pure ?_))
  refine wpAny_bind (wpAny_isOneOf_keyiter hit.typeIs ?_);show wpAny _ _ (setField (.ref it) 1 (rawInt ((i:Int)+1))>>=_) _ _ s;refine wpAny_bind (wpAny_setField zq23.1 zq23.2.2 (by simp) ?_);have hit':(s.heap.update it (Obj.mapFields (·.setIfInBounds 1 (rawInt ((i:Int)+1))))).IsKeyIter it d (i+1) es.length ep:=
   ⟨_,JO _ zq23.1 (Obj.isFreed_of_fields (Obj.data_mapFields zq23.2.2 _)),(Obj.cls_mapFields ..).trans zq23.2.1,by rw [Obj.data_mapFields zq23.2.2];simp [rawInt]⟩
  refine wpAny_bind (wpAny_holding ?_);refine wpAny_bind (wpAny_isOneOf_keyiter (s:={s with heap:=s.heap.update it (Obj.mapFields (·.setIfInBounds 1 (rawInt ((i:Int)+1))))}) hit'.typeIs ?_);show wpAny _ _ (pure e.key) _ _ _;exact wpAny_pure (wpAny_pure ⟨_,rfl,wpAny_pure (h1 e _ hx hit' (Heap.SameBut.update ..))⟩)
 |none=>
  have hx':es.toArray[i]?=none:=by rw [QM];exact hx
  simp only [show ¬((i:Int)<0) from by lia,if_false,Jz,hx'];refine wpAny_bind ?_
  first|refine wpAny_bind (wpAny_typeNameOfWhole_keyiter hit.typeIs (wpAny_pure ?_))|refine wpAny_bind (wpAny_typeNameOf_keyiter hit.typeIs (wpAny_pure ?_))
  show wpAny _ _ (setField (.ref it) 0 .none>>=_) _ _ s;refine wpAny_bind (wpAny_setField zq23.1 zq23.2.2 (by simp) ?_);show wpAny _ _ (newExc (.type "StopIteration") [] >>= _) _ _ _;refine wpAny_bind ?_;simp only [newExc,newTuple];refine wpAny_bind (wpAny_newObj_type ?_ (by size_fits));refine wpAny_bind (m:=firstArgMember _ _) (wpAny_of_eq (a:=QN) (by first|rfl|(simp only [firstArgMember];rfl)) ?_);refine wpAny_newObj_type ?_ (by size_fits);simp only [raiseNew];refine wpAny_bind (wpAny_handled ?_);rw [show A.in1.handled=none from hh];refine wpAny_bind (wpAny_pure (wpAny_throw ?_));refine wpAny_bind (wpAny_isInstance (T:="StopIteration") (b:=true) ⟨_,Heap.get?_push_size _ rfl,rfl⟩ isSubtype_stop ?_);exact wpAny_pure (h2 _ hx (((Heap.SameBut.update ..).extBut.push _).push _))
end
abbrev Kp.ext (k:Kp) (p:Addr×Obj):Kp:= {k with ex:=p::k.ex}
theorem cK (k:Kp) (w:Wd) (os:List Led) (p:Addr×Obj):((k.ext p).all w os).Perm (p::k.all w os):=by
 have:=Zz (a:=p) (l₁:=os.flatten++(w.tp++k.ce)) (l₂:=k.ex)
 rw [Jb,Jb,Jb,Jb] at this;exact this
section
variable {C:Cfg}{h₀:Heap}{L:Addr}{k:Kp}{w:Wd}{H:MH}{h h':Heap}{b:Addr}{o o':Obj}
theorem Sta.addEx (S:Sta C h₀ L k w H h) (o:Obj) (hf:o.isFreed=false):Sta C h₀ L (k.ext (h.objs.size,o)) w H (h.push o):=by
 obtain ⟨os,he,hn,hd⟩:=S.os;exact ⟨S.fr.push o,⟨os,he,λp hp=>hn.push S.fr o hf p ((cK k w os _).mem_iff.mp hp),Led.nd.perm (cK k w os (h.objs.size,o)).symm (rA (cD _) hd (News.fresh hn λp hp=>Ql.mp hp▸Qo _))⟩,S.big,S.lo⟩
theorem Sta.exHead (S:Sta C h₀ L (k.ext (b,o)) w H h):h.get? b=some o/\b≠L/\h₀.get? b=none:=by
 obtain ⟨os,he,hn,hd⟩:=S.os;exact hn (b,o) ((cK k w os (b,o)).mem_iff.mpr (.head _))
theorem Fr.sameBut {m:Str->Option Value} (F:Fr h₀ L h m) (hs:Heap.SameBut b h h') (g:b≠L/\h₀.get? b=none):Fr h₀ L h' m:=
 ⟨F.ns.sameBut hs (KM g.1),λc x e=>(hs.2 c λq=>by rw [q,g.2] at e;cases e).trans (F.keep c x e),F.above⟩
theorem Sta.setEx (S:Sta C h₀ L (k.ext (b,o)) w H h) (hs:Heap.SameBut b h h') (ho:h'.get? b=some o'):Sta C h₀ L (k.ext (b,o')) w H h':=by
 have g:=S.exHead;obtain ⟨os,he,hn,hd⟩:=S.os;have hd':=Qu.mp (Led.nd.perm (cK k w os (b,o)) hd);refine ⟨Fr.sameBut S.fr hs g.2,⟨os,he,λp hp=>?_,Led.nd.perm (cK k w os (b,o')).symm (Qu.mpr hd')⟩,S.big,S.lo⟩;rcases Qy.mp ((cK k w os (b,o')).mem_iff.mp hp) with e|hp
 ·rw [e];exact ⟨ho,g.2⟩
 ·have:=hn p ((cK k w os (b,o)).mem_iff.mpr (.tail _ hp))
  exact ⟨(hs.2 p.1 λe=>hd'.1 (QC.mpr ⟨p,hp,e⟩)).trans this.1,this.2⟩
theorem Sta.endEx (S:Sta C h₀ L (k.ext (b,o)) w H h) (hx:Heap.ExtBut b h h'):Sta C h₀ L k w H h':=by
 have g:=S.exHead;obtain ⟨os,he,hn,hd⟩:=S.os;have hd':=Qu.mp (Led.nd.perm (cK k w os (b,o)) hd);refine ⟨⟨S.fr.ns.extBut hx (KM g.2.1),λc x e=>hx c x (λq=>by rw [q,g.2.2] at e;cases e) (S.fr.keep c x e),S.fr.above⟩,⟨os,he,λp hp=>?_,hd'.2⟩,S.big,S.lo⟩
 have:=hn p ((cK k w os (b,o)).mem_iff.mpr (.tail _ hp))
 exact ⟨hx p.1 p.2 (λe=>hd'.1 (QC.mpr ⟨p,hp,e⟩)) this.1,this.2⟩
theorem Sta.exSwap {p q:Addr×Obj} (S:Sta C h₀ L ((k.ext q).ext p) w H h):Sta C h₀ L ((k.ext p).ext q) w H h:=by
 obtain ⟨os,he,hn,hd⟩:=S.os;have hp:(((k.ext p).ext q).all w os).Perm (((k.ext q).ext p).all w os):=List.Perm.append_left _ (List.Perm.append_left _ (List.Perm.append_left _ (List.Perm.swap p q k.ex)));exact ⟨S.fr,⟨os,he,λr hr=>hn r (hp.mem_iff.mp hr),Led.nd.perm hp.symm hd⟩,S.big,S.lo⟩
theorem Sta.fromEx {m:MObj} (S:Sta C h₀ L (k.ext (b,o)) w H h) (h4:4<=b) (hr:gQ C ⟨w.σ++ [b],w.tp⟩ b m [(b,o)]):Sta C h₀ L k ⟨w.σ++ [b],w.tp⟩ (H++ [m]) h:=by
 obtain ⟨os,he,hn,hd⟩:=S.os;have hp:=(cK k w os (b,o)).trans (l3 k w b [(b,o)] os);exact ⟨S.fr,⟨os++ [[(b,o)]],eW.snoc hr (eW.mono (w:=w) (w':=⟨w.σ++ [b],w.tp⟩) ⟨Qs _ _,λ_ x=>x⟩ he),λp hp'=>hn p (hp.mem_iff.mpr hp'),Led.nd.perm hp hd⟩,S.big,S.loNew h4⟩
end
inductive zdH (io:Obj) (T:String) (v:Value) (i:Nat):Prop
 |mk (c:io.cls= .type T) (d:io.data= .fields #[v,.int (i:Nat) 0]):zdH io T v i
inductive zgp (io:Obj) (x:List Nat) (i:Nat):Prop
 | mk (T : String) (t : Tok) (h : T = "str_ascii_iterator" \/ T = "str_iterator") (q : zdH io T (.str ⟨x.toArray⟩ t) i) : zgp io x i
inductive zgr (io:Obj) (n:Int) (i:Nat):Prop
 | mk (left : Int) (h1 : 0 < left ↔ (i : Int) < n) (h2 : 0 < left -> left = n - i) (e : io = { cls := .type "range_iterator",dict := Qv,data := .fields #[rawInt (i : Nat),rawInt left,rawInt 1],slots := #[] }) : zgr io n i
def dF (C:Cfg) (w:Wd) (io:Obj) (i:Nat) (k:It):Prop:=It.casesOn (motive:=λ_=>Prop) k
 (λa => ∃ la,w.σ[a]? = some la /\ zdH io "list_iterator" (.ref la) i)
 (λmvs => ∃ ta,aB C w (.tup mvs) (.ref ta) /\ zdH io "tuple_iterator" (.ref ta) i)
 (λa n ep => ∃ la,w.σ[a]? = some la /\ io.cls = .type "dict_keyiterator" /\ io.data = .fields #[.ref la,.int (i : Nat) 0,.int (n : Nat) 0,.int (ep : Nat) 0])
 (λx=>sOk x/\zgp io x i)
 (λn=>zgr io n i)
 (λmvs => ∃ la,aB C w (.fl mvs) (.ref la) /\ zdH io "list_iterator" (.ref la) i)
theorem dF.mono {C:Cfg}{w w':Wd} (l:w.le w') {io:Obj}{i:Nat}{k:It}:dF C w io i k->dF C w' io i k:=
 It.casesOn (motive:=λk=>dF C w io i k->dF C w' io i k) k (λ_ h=>h.elim λla h=>⟨la,l.get h.1,h.2⟩) (λ_ h=>h.elim λla h=>⟨la,h.1.mono l,h.2⟩) (λ_ _ _ h=>h.elim λla h=>⟨la,l.get h.1,h.2⟩) (λ_ h=>h) (λ_ h=>h) (λ_ h=>h.elim λla h=>⟨la,h.1.mono l,h.2⟩)
section
variable {C:Cfg}{d e:Nat}{Y:aH C d e}{k:Kp}{w:Wd}{H:MH}{s:Shared}{cx:CC}{env:Env}{mE:Str->Option Value}{fr:Frame}
theorem dT.entries {mes:List (Val×Val)}{es:List DictEntry} (h:dT C w mes es):es.length=mes.length/\∀ (i:Nat) (p:Val×Val),mes[i]?=some p-> ∃e:DictEntry,es[i]?=some e/\aB C w p.1 e.key:=by
 rcases h with ⟨kvs,D⟩| ⟨xs,D⟩
 ·have l1:=iU D.e
  have l2:=D.p.length;refine ⟨by lia,λi p hp=>?_⟩;have hi:i<mes.length:=(Qk.mp hp).1;have hik:i<kvs.length:=Qn hi (QP l1);have hie:i<es.length:=Qn hik (QP (Kt l2));refine ⟨es[i],Qh hie,?_⟩;have hk:=(D.p.get? (i:=i) (Qh hie) (Qh hik)).1;have he:(mes.map (·.1))[i]?=(kvs.map λp=>p.1.val)[i]?:=by rw [D.e]
  rw [Jc,Jc,hp,Qh hik] at he;rw [show p.1=kvs[i].1.val from Qf.inj he];have hok:=D.ok kvs[i] (ZA hik)
  generalize kvs[i].1=a at hk hok
  cases a with
  |i z=>exact Q5 hk
  |s x=>
   obtain ⟨t,ht⟩:=Jd hk;exact ⟨t,ht,hok⟩
 ·have l1:=iU D.e
  refine ⟨by rw [D.es,Qz,l1],λi p hp=>?_⟩;have hik:i<xs.length:=l1▸(Qk.mp hp).1;refine ⟨entryOfKey (tupleKind (bB C.prog C.w)) xs[i],by rw [D.es,Jc,Qh hik];rfl,?_⟩;have he:(mes.map (·.1))[i]?=(xs.map λx=>Val.tup (x.1.map Atom.val))[i]?:=by rw [D.e]
  rw [Jc,Jc,hp,Qh hik] at he;rw [show p.1=_ from Qf.inj he];exact D.v xs[i] (ZA hik)
theorem tA {n:Int} (h1:n<=lim) (h2: -(lim:Int)<=n):Builtin.Range.small 0 n 1=true:=by
 have hl:(lim:Int)=1000000:=rfl;refine small_one ?_ ?_ ?_ ?_<;>lia
theorem l0 (n:Int):(0<JE 0 n 1 ↔ 0<n)/\(0<JE 0 n 1->JE 0 n 1=n):=by
 unfold JE;simp only [gt_iff_lt,Int.zero_lt_one,if_true];split
 ·rename_i h
  refine ⟨?_,?_⟩<;>lia
 ·rename_i h
  refine ⟨?_,?_⟩<;>lia
theorem sT (S:St Y k w H s) {v:Val}{rv:Value}{z:It} (hv:aB C w v rv) {Q:Value->Shared->Prop}{E:Value->Shared->Prop}
  (h: ∀I io h',Sta C Y.h₀ Y.L (k.ext (I,io)) w H h'->dF C w io 0 z->Q (.ref I) {s with heap:=h'}):bW H v=some z->wpAny C.M Y.A (pyIter rv) Q E s:=by
 refine aT (aF λn e1=>bE λhn e=>?_) (aT (aF λa e1=>aT (aX λvs e2 e=>?_) (aF λp e2=>aX λep e3 e=>?_)) (aT (aX λvs e1 e=>?_) (aT (aX λx e1 e=>?_) (aX λvs e1 e=>?_))))
 ·cases e;cases rng?_s e1
  obtain ⟨r,t,u,v,rfl,hr⟩:=hv;exact wpAny_pyIter_range (S.tpAt hr) (tA (of_decide_eq_true (Qa.mp hn).1) (of_decide_eq_true (Qa.mp hn).2)) (h _ _ _ (S.addEx _ rfl) ⟨_,(l0 n).1,λhh=>((l0 n).2 hh).trans (Int.sub_zero n).symm,rfl⟩)
 ·subst e;cases ref?_s e1
  obtain ⟨la,ws,n,rfl,ho,rr,hl⟩:=S.list hv e2;refine QY hv λ_ zq20=>?_;exact wpAny_pyIter_list (items:=ws.toArray) ⟨_,ho,rfl,n,rfl⟩ (h _ _ _ (S.addEx _ rfl) ⟨la,JL.inj zq20.1▸zq20.2,rfl,rfl⟩)
 ·subst e;cases ref?_s e1
  obtain ⟨b,n,es,rfl,hmod,hep,hg,dr,_,_⟩:=S.dictI hv e2;cases hep ep e3;refine QY hv λ_ zq18=>?_;exact zb6 hmod hg (h _ _ _ (S.addEx _ rfl) ⟨b,JL.inj zq18.1▸zq18.2,rfl,by rw [<-dr.entries.1];rfl⟩)
 ·subst e;cases tup?_s e1
  obtain ⟨t,o,n,ws,rfl,ho,hc,hd,rr,hl⟩:=S.tup hv;exact iter_tuple (items:=ws.toArray) ⟨o,ho,hc,n,hd⟩ (h _ _ _ (S.addEx _ rfl) ⟨t,hv,rfl,rfl⟩)
 ·subst e
  obtain ⟨t,rfl,ok⟩:=hv.str? e1;refine wpAny_pyIter_strU (h _ _ _ (S.addEx _ rfl) ⟨ok,strIterType ⟨x.toArray⟩,t,?_,rfl,rfl⟩);unfold strIterType;split
  ·exact .inl rfl
  ·exact .inr rfl
 ·subst e;cases fl?_s e1
  obtain ⟨la,o,n,ws,rfl,q,rr,hl⟩:=id hv;exact wpAny_pyIter_list (items:=ws.toArray) ⟨o,S.kIn _ _ q.1,q.2,n,q.3⟩ (h _ _ _ (S.addEx _ rfl) ⟨la,hv,rfl,rfl⟩)
structure zgq {C:Cfg}{d e:Nat} (Y:aH C d e) (k:Kp) (w:Wd) (H:MH) (s:Shared) (I:Addr) (i:Nat) (z:It) (r:Option Val) (Q:Option Value->Shared->Prop):Prop where
 go: ∀v rv io' h' tk,r=some v->Sta C Y.h₀ Y.L (k.ext (I,io')) w H h'->dF C w io' (i+1) z->aB C w v rv->Q (some rv) {s with heap:=h',toks:=tk}
 fin: ∀h',r=none->Sta C Y.h₀ Y.L k w H h'->Q none {s with heap:=h'}
theorem lX {I:Addr}{io:Obj}{i:Nat}{mvs:List Val}{vs:List Value}{z:It}{r:Option Val}{Q:Option Value->Shared->Prop} (S:St Y (k.ext (I,io)) w H s) (rr:aA C w mvs vs) (er:mvs[i]?=r) (G:zgq Y k w H s I i z r Q)
  (item: ∀x (Q:Option Value->Shared->Prop),vs.toArray[i]?=some x->(∀h' o',h'.get? I=some o'->dF C w o' (i+1) z->Heap.SameBut I s.heap h'->Q (some x) {s with heap:=h'}) ->wpAny C.M Y.A (pyNext (.ref I)) Q (λ_ _=>False) s)
  (fin: ∀ (Q:Option Value->Shared->Prop),vs.toArray[i]?=none->(∀h',Heap.ExtBut I s.heap h'->Q none {s with heap:=h'}) ->wpAny C.M Y.A (pyNext (.ref I)) Q (λ_ _=>False) s) {E:Value->Shared->Prop}:wpAny C.M Y.A (pyNext (.ref I)) Q E s:=by
 refine wpAny_mono (Q:=Q) (E:=λ_ _=>False) ?_ (λ_ _ q=>q) (λ_ _ q=>q.elim);cases r with
 |none=>
  refine fin Q ?_ λh' he=>G.fin h' rfl (S.endEx he);rw [QM,Q1,<-rr.length];exact Q1.mp er
 |some v=>
  refine (rr.get er).elim λrv zq14=>?_;exact item rv Q (by rw [QM];exact zq14.1) λh' o' g1 g2 hs=>G.go v rv o' h' _ rfl (S.setEx hs g1) g2 zq14.2
theorem sR {I:Addr}{io:Obj}{z:It}{i:Nat}{r:Option Val} (S:St Y (k.ext (I,io)) w H s) (R:dF C w io i z) (e:aZ H i z=some r) {Q:Option Value->Shared->Prop}{E:Value->Shared->Prop} (G:zgq Y k w H s I i z r Q):wpAny C.M Y.A (pyNext (.ref I)) Q E s:=by
 have hI:=S.exHead.1;cases z with
 |fs mvs=>
  obtain ⟨la,hv,ic⟩:=R;have zq12:=id hv;obtain ⟨_,o,n,vs,e1,q,rr,_⟩:=zq12;cases e1;have hl0:s.heap.IsList la vs.toArray:=⟨o,S.kIn _ _ q.1,q.2,n,q.3⟩;exact lX S rr (Qf.inj e) G (λx Q hx g=>wpAny_pyNext_list_item ⟨io,hI,ic.1,ic.2⟩ hl0 hx λh' hit' hs=>hit'.elim λo' p=>g h' o' p.1 ⟨la,hv,p.2.1,p.2.2⟩ hs) (λQ hx g=>wpAny_pyNext_list_end Y.handled ⟨io,hI,ic.1,ic.2⟩ hl0 hx g)
 |ls a=>
  obtain ⟨la,ha,ic⟩:=R;obtain ⟨mvs,hm,er⟩:=ms e;obtain ⟨_,ws,n,e1,ho,rr,hl⟩:=S.list (x:=.ref a) ⟨la,rfl,ha⟩ hm;cases e1;have hl0:s.heap.IsList la ws.toArray:=⟨_,ho,rfl,n,rfl⟩;exact lX S rr er G (λx Q hx g=>wpAny_pyNext_list_item ⟨io,hI,ic.1,ic.2⟩ hl0 hx λh' hit' hs=>hit'.elim λo' p=>g h' o' p.1 ⟨la,ha,p.2.1,p.2.2⟩ hs) (λQ hx g=>wpAny_pyNext_list_end Y.handled ⟨io,hI,ic.1,ic.2⟩ hl0 hx g)
 |tp mvs=>
  obtain ⟨ta,ht,ic⟩:=R;have zq7:=S.tup ht;obtain ⟨_,o,n,ws,e1,ho,hc,hd,rr,hl⟩:=zq7;cases e1;have hl0:IsTup s.heap ta ws.toArray:=⟨o,ho,hc,n,hd⟩;exact lX S rr (Qf.inj e) G (λx Q hx g=>next_tuple_item ⟨io,hI,ic.1,ic.2⟩ hl0 hx λh' hit' hs=>hit'.elim λo' p=>g h' o' p.1 ⟨ta,ht,p.2.1,p.2.2⟩ hs) (λQ hx g=>next_tuple_end Y.handled ⟨io,hI,ic.1,ic.2⟩ hl0 hx g)
 |sq x=>
  obtain ⟨ok,T,t,hT,ic⟩:=R;have er:=Qf.inj e;cases hc:x[i]? with
  |none=>
   rw [hc] at er;have hvs:(⟨x.toArray⟩:Str).cps[i]?=none:=(QM).trans hc;rcases hT with rfl|rfl
   ·exact wpAny_pyNext_ascii_end Y.handled ⟨io,hI,ic.1,ic.2⟩ hvs λh' he=>G.fin h' er.symm (S.endEx he)
   ·exact wpAny_pyNext_wide_end Y.handled ⟨io,hI,ic.1,ic.2⟩ hvs λh' he=>G.fin h' er.symm (S.endEx he)
  |some c=>
   rw [hc] at er;have hvs:(⟨x.toArray⟩:Str).cps[i]?=some c:=(QM).trans hc;have hck: ∀u:Tok,aB C w (.str [c]) (.str ⟨#[c]⟩ u):=λu=>⟨u,rfl,λy hy=>Ql.mp hy▸ok.1 c (Q8 hc),(by decide:1<=lim)⟩;rcases hT with rfl|rfl
   ·exact wpAny_pyNext_ascii_item ⟨io,hI,ic.1,ic.2⟩ hvs λh' hit' hs=>hit'.elim λo' p=>G.go (.str [c]) _ o' h' _ er.symm (S.setEx hs p.1) ⟨ok,_,t,.inl rfl,p.2.1,p.2.2⟩ (hck _)
   ·exact wpAny_pyNext_wide_item ⟨io,hI,ic.1,ic.2⟩ hvs λh' hit' hs=>hit'.elim λo' p=>G.go (.str [c]) _ o' h' _ er.symm (S.setEx hs p.1) ⟨ok,_,t,.inr rfl,p.2.1,p.2.2⟩ (hck _)
 |dk a n ep=>
  refine QY R λla zq6=>?_;obtain ⟨p,e2,e3⟩:=bs e;obtain ⟨hc,e4⟩:=gs e3;have er:=Qf.inj e4
  clear e e3 e4
  have hc:=Qa.mp hc;obtain ⟨b,n',es,e1,hmod,hep,hg,dr,_,_⟩:=S.dictI ⟨la,rfl,zq6.1⟩ e2;cases e1;obtain ⟨hlen,hget⟩:=dr.entries;cases hep ep (beq_iff_eq.mp hc.1);have hn:n=es.length:=(beq_iff_eq.mp hc.2).symm.trans hlen.symm;subst hn;refine zb5 Y.handled ⟨io,hI,zq6.2.1,zq6.2.2⟩ hg (λde h' hde hit' hs=>?_) λh' hde he=>G.fin h' ?_ (S.endEx he)
  ·cases hv:p.2[i]? with
   |none=>rw [Q1] at hv;rw [Q1.mpr (Qe (QP hlen) hv)] at hde;cases hde
   |some q=>
    obtain ⟨de',hde',hr⟩:=hget i q hv;rw [hde] at hde';cases hde';rw [hv] at er;refine QY hit' λo' zq1=>?_;exact G.go q.1 de.key o' h' s.toks er.symm (S.setEx hs zq1.1) ⟨la,zq6.1,zq1.2.1,zq1.2.2⟩ hr
  ·rw [<-er,Q1.mpr (by rw [<-hlen];exact Q1.mp hde)];rfl
 |rg n=>
  obtain ⟨left,hl,hl2,rfl⟩:=R;have er:=Qf.inj e;cases hin:decide ((i:Int)<n) with
  |true=>
   rw [hin] at er;refine wpAny_pyNext_range_item hI (hl.mpr (of_decide_eq_true hin)) λh' hit' hs=>G.go (.int i) _ _ h' _ er.symm (S.setEx hs hit') ?_ ⟨_,rfl⟩
   have:=hl2 (hl.mpr (of_decide_eq_true hin))
   have e1:left-1=n-((i+1:Nat):Int):=(congrArg (· -1) this).trans (Int.sub_sub n i 1);exact ⟨left-1,by rw [e1];exact Int.sub_pos,λ_=>e1,rfl⟩
  |false=>
   rw [hin] at er;exact wpAny_pyNext_range_end Y.handled hI (Zn.mp λq=>absurd (hl.mp q) (of_decide_eq_false hin)) λh' he=>G.fin h' er.symm (S.endEx he)
end
structure Sy (e:Expr):Prop where
 star: ∀rest env,starEach (e::rest) env=(false,PySem.eval e env)::starEach rest env
 sub: ∀o i,subscripted e false o i=operate [o,i] (getItem o i)
 marks: ∀op,behindInMarks op e=false
 fold: ∀env x,foldedSetIterable e env x=pure x
 swap:cF e=false-> ∀t n env,swapsWith e t n env=pure false
structure Sd (C:Cfg) (d:Nat) (cx:CC) (e:Expr) (ir:Ex):Prop where
 es:bU C d cx e ir
 ts:lI C d cx e ir
 sy:Sy e
abbrev Sds (C:Cfg) (d:Nat) (cx:CC):List Expr->List Ex->Prop:=bM (Sd C d cx)
def zrG (C:Cfg) (d:Nat) (cx:CC) (es:List Expr) (irs:List Ex):Prop:=
 ∀ (Y:aH C d 2) (env:Env) (k:Kp) (mE:Str->Option Value) (fr:Frame) (w:Wd) (H:MH) (s:Shared) (pos:Pos),Pl Y cx env k mE fr w H s->Ref Y k (VRS C) (spliced (backTo pos (starEach es env))) w s (dE (C.cx d) irs fr H)
section
variable {C:Cfg}{d e:Nat}{Y:aH C d e}{k:Kp}{w:Wd}{H:MH}{s:Shared}{cx:CC}{env:Env}{mE:Str->Option Value}{fr:Frame}
theorem vO {e:Expr}{ir:Ex} (h:bU C d cx e ir) (he: ∀ (env:Env) (whole:Sem Value),PySem.isTrue e env whole=(do let v<-whole;standAt e.pos;holding [v] (PySem.truthy v))):lI C d cx e ir:=
 λY env k mE fr w H s p r=>aC λx H1 e1=>aX λb e2 e=>e▸λQ E hq=>isTrue_plain (h Y env k mE fr w H s p _ e1 _ _ λw1 a1 s1 n1 r1=>dW n1.st r1 e2 λtk=>hq w1 b _ (n1.trans (.toks n1.st tk)) rfl) (he _ _)
theorem bJ {pos:Pos}{es:List Expr}{irs:List Ex} (h:Sds C d cx es irs):(backTo pos (starEach es env)).any (·.1)=false:=by
 induction h with
 |nil=>rfl
 |cons h _ ih=>rw [h.sy.star];exact ih
theorem d7 {c:Cx}{irs:List Ex}: ∀ {H:MH}{r:List Val×MH},dE c irs fr H=some r->r.1.length=irs.length:=by
 induction irs with
 |nil=>intro H r h;cases h;rfl
 |cons e irs ih=>exact λ{H r} =>aC λv h1 e1=>aC λvs h2 e2 e=>Qf.inj e▸congrArg (· +1) (ih e2)
theorem fA {es:List Expr}{irs:List Ex} (h:Sds C d cx es irs):zrG C d cx es irs:=by
 induction h with
 |nil=>intro Y env k mE fr w H s pos p r e;cases e;exact λQ E hq=>args_nil (hq w [] s (.refl p.st) .nil)
 |cons h _ ih=>
  intro Y env k mE fr w H s pos p r;refine aC λv H1 e1=>aC λvs H2 e2 e=>?_;cases e;exact λQ E hq=>args_cons (h.es Y env k mE fr w H s p _ e1 _ _ λw1 a1 s1 n1 r1=>ih Y env k mE fr w1 H1 s1 pos (p.next n1) _ e2 _ _ λw2 a2 s2 n2 r2=>hq w2 _ s2 (n1.trans n2) (.cons (r1.mono n2.le) r2)) (h.sy.star _ _)
theorem Nxt.newTup {mvs : List Val} {vs : List Value} (S : St Y k w H s) (r : aA C w mvs vs) (hl : mvs.length <= lim) : ∃ w',Nxt Y k w w' H s { s with heap := s.heap.push { cls := .type "tuple",data := .seq vs.toArray } } /\ aB C w' (.tup mvs) (.ref s.heap.objs.size) := by
 obtain ⟨all,hn,_,tp,_⟩:=S.ledger;have le : w.le ⟨w.σ,(s.heap.objs.size,({ cls := .type "tuple",data := .seq vs.toArray } : Obj)) :: w.tp⟩ := ⟨JD _,λ_ x => .tail _ x⟩;exact ⟨_,⟨le,tp _ _ _ (S.fr.push _) (hn.push S.fr _) (Qo _),rfl,rfl⟩,_,_,0,vs,rfl,⟨.inl (.head _),rfl,rfl⟩,r.mono le,hl⟩
theorem zaa {es:List Expr}{irs:List Ex}{n:Nat}{pos:Pos} (h:Sds C d cx es irs) (hi:Qg es.length 1000=true):bU C d cx (.Tuple es n pos) (.tup irs):=by
 intro Y env k mE fr w H s p r;refine aC λvs H1 e1 e=>?_;cases e;have hl:vs.length<=lim:=by rw [d7 e1,h.length];exact Qe (Qr.mp hi) (by decide)
 refine λQ E hq=>wpAny_Tuple (fA h Y env k mE fr w H s pos p _ e1 _ _ λw1 a1 s1 n1 r1=>⟨by rw [<-r1.length];exact Qe hl aY,?_⟩);refine (Nxt.newTup n1.st r1 hl).elim λw2 zq26=>?_;exact hq w2 _ _ (n1.trans zq26.1) zq26.2
theorem zbM {es:List Expr}{irs:List Ex}{pos:Pos} (h:Sds C d cx es irs) (hi:Qg es.length 1000=true):bU C d cx (.List es pos) (.list irs):=by
 intro Y env k mE fr w H s p r;refine aC λvs H1 e1 e=>?_;have hl:vs.length<=lim:=by rw [d7 e1,h.length];exact Qe (Qr.mp hi) (by decide)
 refine λQ E hq=>wpAny_List (fA h Y env k mE fr w H s pos p _ e1 _ _ λw1 a1 s1 n1 r1=>⟨by rw [<-r1.length];exact Qe hl aY,?_⟩);cases e;obtain ⟨all,hn,add,_,_⟩:=n1.st.ledger;exact hq _ _ _ (n1.trans ⟨(⟨Qs _ _,λ_ x=>x⟩:w1.le ⟨w1.σ++ [s1.heap.objs.size],w1.tp⟩),add _ (.list vs) [_] _ ⟨a1,0,rfl,r1.mono (⟨Qs _ _,λ_ x=>x⟩:w1.le ⟨w1.σ++ [s1.heap.objs.size],w1.tp⟩),hl⟩ (n1.st.fr.push _) (hn.push n1.st.fr _) (cD _) (News.fresh hn λp hp=>Ql.mp hp▸Qo _) (n1.st.four (Qo _)),rfl,rfl⟩) ⟨_,rfl,by rw [<-n1.st.len];exact Qt⟩
theorem zE {n:Nat}{i:Val}{j:Nat}{v:Value} (hv:aB C w i v) (h:idx n i=some j): ∃z t,v= .int z t/\0<=z/\z<n/\j=z.toNat:=by
 obtain ⟨z,e1,h⟩:=bs h;obtain ⟨hb,e⟩:=gs h;refine (hv.int? e1).elim λt zq23=>?_;exact ⟨z,t,zq23,of_decide_eq_true (Qa.mp hb).1,of_decide_eq_true (Qa.mp hb).2,(Qf.inj e).symm⟩
theorem zb2 {z:Int}{n:Nat} (h0:0<=z) (h1:z<n):seqIndex? z n=some z.toNat:=by
 unfold seqIndex?;simp only [if_neg (Zn.mpr h0)];rw [if_pos (Qa.mpr ⟨decide_eq_true h0,decide_eq_true h1⟩)]
theorem x5 : typeLookup (.type "bool") "__index__" = pure (some (.builtin "int.__index__")) := by rw [typeLookup_type,builtinLookup_eq_fast]; kernel_rfl
theorem zba (b:Bool):asIndex (.bool b)=pure (cond b 1 0:Int):=by cases b<;>rfl
theorem oK {prog:Program}{w:World}{A:Around}{E:Value->Shared->Prop}{s:Shared}{l:Addr}{items:Array Value}{b:Bool}{x:Value}{Q:Value->Shared->Prop} (hl:s.heap.IsList l items)
  (hx:items[(cond b 1 0:Nat)]?=some x) (h:Q x s):wpAny (model prog w) A (PySem.getItem (.ref l) (.bool b)) Q E s:=by
 refine QY (id hl) λo zq21=>zq21.2.2.elim λne zq22=>?_;unfold PySem.getItem
 try with_reducible refine wpAny_holding ?_
 first|refine wpAny_bind (wpAny_pure ?_)|skip
 refine wpAny_bind (wpAny_sequenceKey hl.typeIs (by decide) ?_);refine wpAny_bind (wpAny_callSpecial?_slot (name:=Str.ofString "__getitem__") hl.typeIs slot_list_getitem
  (wpAny_call_entry slot_list_getitem hl.typeIs entry_list_getitem ?_ (args_list_getitem _ _)))
 show wpAny _ _ (JS (.bool b)>>=_) _ _ s;refine wpAny_bind ?_;unfold JS;refine wpAny_bind (wpAny_specialOf (T:="bool") (PySem.typeIs_bool s b) x5 ?_);show wpAny _ _ (asIndex (.bool b)>>=_) _ _ s;refine wpAny_bind (wpAny_of_eq (zba b) ?_);cases b with
 |false=>
  have hx:items[0]?=some x:=hx;refine wpAny_pure ?_;show wpAny _ _ ((seqItemAt l 0>>=λr=>pure (r.map (0,·)))>>=_) _ _ s;refine wpAny_bind (wpAny_bind (wpAny_seqItemAt zq21.1 zq22 (wpAny_pure ?_)));rw [hx]
  first
   |exact wpAny_bind (wpAny_pure (wpAny_pure ⟨x,rfl,wpAny_pure h⟩))
   |exact wpAny_pure ⟨x,rfl,wpAny_pure h⟩
 |true=>
  have hx:items[1]?=some x:=hx;refine wpAny_pure ?_;show wpAny _ _ ((seqItemAt l 1>>=λr=>pure (r.map (1,·)))>>=_) _ _ s;refine wpAny_bind (wpAny_bind (wpAny_seqItemAt zq21.1 zq22 (wpAny_pure ?_)));rw [hx]
  first
   |exact wpAny_bind (wpAny_pure (wpAny_pure ⟨x,rfl,wpAny_pure h⟩))
   |exact wpAny_pure ⟨x,rfl,wpAny_pure h⟩
theorem zbK {value sl:Expr} (hsl:Sy sl) (S:St Y k w H s) {x y:Val}{vx vy:Value} (hx:aB C w x vx) (hy:aB C w y vy):Ref Y k (VR C) (subscriptTail value sl vx vy) w s ((dG H x y).map λv=>(v,H)):=by
 refine .omap λv e=> .val S λQ E h=>?_;have lst: ∀ {b:Addr}{mvs:List Val}{ws:List Value},s.heap.IsList b ws.toArray->aA C w mvs ws->mvs.length<=lim->vx= .ref b->(idx mvs.length y).bind (λj=>mvs[j]?)=some v->wpAny C.M Y.A (subscriptTail value sl vx vy) Q E s:=by
  intro b mvs ws hL rr hl e1 e;obtain ⟨j,hj,e⟩:=bs e;obtain ⟨z,t,rfl,h0,h1,rfl⟩:=zE hy hj;refine (rr.get e).elim λrv zq17=>?_;have hl':=eI hl;subst e1;exact tail_any hL.typeIs slot_list_getitem.lookup (wpAny_getItem_list hL h0 (Ki h1 hl') (by rw [QM];exact zq17.1) (h rv s.toks zq17.2)) (hsl.sub _ _)
 revert e
 refine aT (aF λvs e1=>aF λj hj e=>?_) (aT (aF λvs e1 e=>?_) (aT (aF λvs e1 e=>?_) (aT (aF λstr e1=>aF λj hj=>aX λc hc e=>?_) (aT (aF λp e1=>bE λhf e=>?_) (aF λvs e1=>aF λbb e2 e=>?_)))))
 ·cases tup?_s e1
  obtain ⟨z,t,rfl,h0,h1,rfl⟩:=zE hy hj;obtain ⟨b,o,n,ws,rfl,ho,hc,hd,rr,hl⟩:=S.tup hx;refine (rr.get e).elim λrv zq13=>?_;exact item_tupleT (l:=ws) ⟨o,ho,hc,n,hd⟩ (by lia) (Ki h1 (eI hl)) (zb2 h0 (by rw [<-rr.length];exact h1)) zq13.1 (h rv s.toks zq13.2) (hsl.sub _ _)
 ·cases fl?_s e1
  obtain ⟨b,o,n,ws,e2,q,rr,hl⟩:=hx;exact lst ⟨o,S.kIn _ _ q.1,q.2,n,q.3⟩ rr hl e2 e
 ·obtain ⟨b,ws,n,e2,ho,rr,hl⟩:=S.list hx e1
  exact lst ⟨_,ho,rfl,n,rfl⟩ rr hl e2 e
 ·obtain ⟨u,rfl,ok⟩:=hx.str? e1
  obtain ⟨z,t,rfl,h0,h1,rfl⟩:=zE hy hj;have hl':=eI ok.2;subst e;refine tail_any (typeIs_str s ⟨str.toArray⟩ u) F.slot_str_getitem.lookup (P.getItem_str (c:=c) ?_ ?_ (h _ _ ⟨s.toks,rfl,λy hy=>Ql.mp hy▸ok.1 c (Q8 hc),(by decide:1<=lim)⟩)) (hsl.sub _ _)
  ·rw [decide_eq_false (by lia),decide_eq_false (by lia)];rfl
  ·rw [show seqIndex? z (⟨str.toArray⟩:Str).length=some z.toNat from zb2 h0 h1]
   exact (QM).trans hc
 ·refine (S.dict hx e1).elim λi zq8=>?_
  obtain ⟨b,n,es,rfl,_,_,hg,hdr,_,_⟩:=zq8.2;rcases gB (Qa.mp hf).1 with ⟨q,rfl⟩| ⟨q,rfl⟩
  ·refine (hdr.atom hf).elim λkvs zq7=>?_
   have D:=zq7;have hD:=D.dictOf hg;rcases D.get q with ⟨q1,_⟩| ⟨mv,rv,q1,q2,q3⟩
   ·exact nos (q1.symm.trans e)
   ·cases q1.symm.trans e
    exact tail_any hD.typeIs slot_dict_getitem.lookup (wpAny_getItem_of hy.atom.1 hD.mapOf q2 (h rv _ q3)) (hsl.sub _ _)
  ·obtain ⟨xs,D⟩:=hdr.tups hf
   obtain ⟨t,rfl,ht⟩:=S.tupKey hy;rcases D.get q with ⟨q1,_⟩| ⟨mv,rv,q1,q2,q3⟩
   ·exact nos (q1.symm.trans e)
   ·cases q1.symm.trans e
    obtain ⟨pp,q4,rfl⟩:=ms q2;exact tail_any (D.dictOf S hg).typeIs slot_dict_getitem.lookup (wpAny_getItem_heap Y.room ht (D.dictOf S hg) q4 (h pp.2 _ q3)) (hsl.sub _ _)
 ·cases bool?_s e2
  cases (show vy= .bool bb from hy);obtain ⟨b,ws,n,e3,ho,rr,hl⟩:=(S.list hx e1);subst e3;refine (rr.get e).elim λrv zq2=>?_;have hL:s.heap.IsList b ws.toArray:=⟨_,ho,rfl,n,rfl⟩;exact tail_any hL.typeIs slot_list_getitem.lookup (oK hL (by rw [QM];exact zq2.1) (h rv s.toks zq2.2)) (hsl.sub _ _)
theorem zei {v sl:Expr}{ie ii:Ex}{pos:Pos} (hv:bU C d cx v ie) (hi:Sd C d cx sl ii):bU C d cx (.Subscript v sl pos) (.sub ie ii):=
 λY env k mE fr w H s p r=>aC λx H1 e1=>aC λy H2 e2 e Q E hq=>Subscript_ (hv Y env k mE fr w H s p _ e1 _ _ λw1 a1 s1 n1 r1=>hi.es Y env k mE fr w1 H1 s1 (p.next n1) _ e2 _ _ λw2 a2 s2 n2 r2=>
  zbK hi.sy n2.st (r1.mono n2.le) r2 r e _ _ λw3 a3 s3 n3 r3=>hq w3 a3 s3 ((n1.trans n2).trans n3) r3)
theorem sX (K:jM C) {l r:Expr}{op:CmpOp}{il ir:Ex}{pos:Pos} (hl:bU C d cx l il) (hr:Sd C d cx r ir):bU C d cx (.Compare l [op] [r] pos) (.cmp (zL op) il ir):=
 λY env k mE fr w H s p r=>aC λx H1 e1=>aC λy H2 e2 e Q E hq=>wpAny_Compare1 (hl Y env k mE fr w H s p _ e1 _ _ λw1 a1 s1 n1 r1=>hr.es Y env k mE fr w1 H1 s1 (p.next n1) _ e2 _ _ λw2 a2 s2 n2 r2=>
  yV K n2.st (r1.mono n2.le) r2 r e _ _ λw3 a3 s3 n3 r3=>hq w3 a3 s3 ((n1.trans n2).trans n3) r3) (hr.sy.marks _)
theorem qO (K:jM C) {l r:Expr}{op:CmpOp}{il ir:Ex}{pos:Pos} (hl:bU C d cx l il) (hr:Sd C d cx r ir):lI C d cx (.Compare l [op] [r] pos) (.cmp (zL op) il ir):=by
 intro Y env k mE fr w H s p r;refine aC λv H' e0=>aX λb et e=>?_
 revert e0
 refine aC λx H1 e1=>aC λy H2 e2=>aX λc e3 e4=>?_;cases e4;cases et;subst e;exact λQ E hq=>wpAny_isTrue_Compare1 (hl Y env k mE fr w H s p _ e1 _ _ λw1 a1 s1 n1 r1=>hr.es Y env k mE fr w1 H1 s1 (p.next n1) _ e2 _ _ λw2 a2 s2 n2 r2=>
  yV K n2.st (r1.mono n2.le) r2 (.bool b,H') (by rw [e3];rfl) _ _ λw3 a3 s3 n3 r3=>by rw [show a3= .bool b from r3];exact wpAny_truthy_bool (hq w3 b s3 ((n1.trans n2).trans n3) rfl)) (hr.sy.marks _)
theorem zej {x:Expr}{ix:Ex}{pos:Pos} (hx:bU C d cx x ix):bU C d cx (.UnaryOp .Not x pos) (.not ix):=by
 intro Y env k mE fr w H s p r;refine aC λb H1 e0 e=>?_
 revert e0
 refine aC λx' H1' e1=>aX λb' e2 e3=>?_;cases e3;cases e;exact λQ E hq=>wpAny_bind (hx Y env k mE fr w H s p _ e1 _ _ λw1 a1 s1 n1 r1=>wpAny_bind (wpAny_standAt (wpAny_holding (not_value (dW n1.st r1 e2 λtk=>hq w1 _ _ (n1.trans (.toks n1.st tk)) rfl)))))
theorem zbt {x:Expr}{ix:Ex}{pos:Pos} (hx:lI C d cx x ix):lI C d cx (.UnaryOp .Not x pos) (.not ix):=by
 intro Y env k mE fr w H s p r;refine aC λv H' e0=>aX λb et e=>?_
 revert e0
 refine aC λb' H1 e1 e2=>?_;cases e2;cases et;subst e;exact λQ E hq=>isTrue_not (hx Y env k mE fr w H s p _ e1 _ _ λw1 a1 s1 n1 r1=>by rw [show a1=b' from r1];exact hq w1 _ s1 n1 rfl)
theorem zeo {t x y:Expr}{it ix iy:Ex}{pos:Pos} (ht:lI C d cx t it) (hx:bU C d cx x ix) (hy:bU C d cx y iy):bU C d cx (.IfExp t x y pos) (.ite it ix iy):=by
 intro Y env k mE fr w H s p r;refine aC λb H1 e1 e=>?_;refine λQ E hq=>wpAny_bind (ht Y env k mE fr w H s p _ e1 _ _ λw1 a1 s1 n1 r1=>?_);rw [show a1=b from r1];cases b with
 |true=>exact hx Y env k mE fr w1 H1 s1 (p.next n1) _ e _ _ λw2 a2 s2 n2 r2=>hq w2 a2 s2 (n1.trans n2) r2
 |false=>exact hy Y env k mE fr w1 H1 s1 (p.next n1) _ e _ _ λw2 a2 s2 n2 r2=>hq w2 a2 s2 (n1.trans n2) r2
theorem zbu {t x y:Expr}{it ix iy:Ex}{pos:Pos} (ht:lI C d cx t it) (hx:lI C d cx x ix) (hy:lI C d cx y iy):lI C d cx (.IfExp t x y pos) (.ite it ix iy):=by
 intro Y env k mE fr w H s p r;refine aC λv H' e0 e=>?_
 revert e0
 refine aC λb H1 e1 e0=>?_;refine λQ E hq=>isTrue_IfExp (ht Y env k mE fr w H s p _ e1 _ _ λw1 a1 s1 n1 r1=>?_);rw [show a1=b from r1];cases b with
 |true=>exact hx Y env k mE fr w1 H1 s1 (p.next n1) r (by show aQ (eval _ _ _ _)=_;rw [show eval (C.cx d) ix fr H1=some (v,H') from e0];exact e) _ _ λw2 a2 s2 n2 r2=>hq w2 a2 s2 (n1.trans n2) r2
 |false=>exact hy Y env k mE fr w1 H1 s1 (p.next n1) r (by show aQ (eval _ _ _ _)=_;rw [show eval (C.cx d) iy fr H1=some (v,H') from e0];exact e) _ _ λw2 a2 s2 n2 r2=>hq w2 a2 s2 (n1.trans n2) r2
theorem zer {op:BoolOp}{pos:Pos}{es:List Expr}{irs:List Ex} (h:Sds C d cx es irs): ∀ (Y:aH C d 2) (env:Env) (k:Kp) (mE:Str->Option Value) (fr:Frame) (w:Wd) (H:MH) (s:Shared),Pl Y cx env k mE fr w H s->Ref Y k (VR C) (boolOp pos op (evalEach es env)) w s (gV (C.cx d) (op== .Or) irs fr H):=by
 induction h with
 |nil=>exact λY env k mE fr w H s p=> .none
 | @cons ex i es irs he hs ih=>
  intro Y env k mE fr w H s p r;refine aC λv H1 e1 e=>?_;cases hs with
  |nil=>cases e;exact he.es Y env k mE fr w H s p _ e1
  | @cons e' i' es' irs' he' hs'=>
   revert e
   refine aF λb e2 e=>?_;intro Q E hq;show wpAny C.M Y.A (do
    let v<-PySem.eval ex env
    standAt pos
    let t<-holding [v] (PySem.truthy v)
    match op,t with
    | .And,false| .Or,true=>pure v
    |_,_=>boolOp pos op (evalEach (e'::es') env)) Q E s
   refine wpAny_bind (he.es Y env k mE fr w H s p _ e1 _ _ λw1 a1 s1 n1 r1=>wpAny_bind (wpAny_standAt (wpAny_bind (wpAny_holding (dW n1.st r1 e2 λtk=>?_)))));have n2:=n1.trans (.toks n1.st tk);have stop:some (v,H1)=some r->wpAny C.M Y.A (pure a1) Q E {s1 with toks:=tk}:=λe=>by cases e;exact wpAny_pure (hq w1 a1 _ n2 r1)
   have go:gV (C.cx d) (op== .Or) (i'::irs') fr H1=some r->wpAny C.M Y.A (boolOp pos op (evalEach (e'::es') env)) Q E {s1 with toks:=tk}:=λe=>ih Y env k mE fr w1 H1 _ (p.next n2) r e Q E λw2 a2 s2 n3 r2=>hq w2 a2 s2 (n2.trans n3) r2;cases op<;>cases b
   ·exact stop e
   ·exact go e
   ·exact go e
   ·exact stop e
theorem zbv {op:BoolOp}{es:List Expr}{irs:List Ex} (h:Sds C d cx es irs): ∀ (Y:aH C d 2) (env:Env) (k:Kp) (mE:Str->Option Value) (fr:Frame) (w:Wd) (H:MH) (s:Shared),Pl Y cx env k mE fr w H s->Ref Y k EqR (allTrue op es env) w s (aQ (gV (C.cx d) (op== .Or) irs fr H)):=by
 induction h with
 |nil=>exact λY env k mE fr w H s p=> .none
 | @cons ex i es irs he hs ih=>
  intro Y env k mE fr w H s p r;refine aC λv H' e0=>aX λb et e=>?_
  revert e0
  refine aC λv1 H1 e1 e2=>?_
  --the first test
  have first: ∀c,truthy H1 v1=some c-> ∀ {Q:Bool->Shared->Prop}{E:Value->Shared->Prop},(∀w1 s1,Nxt Y k w w1 H1 s s1->Q c s1) ->wpAny C.M Y.A (PySem.isTrue ex env (PySem.eval ex env)) Q E s:=λc hc Q E hq=>
   he.ts Y env k mE fr w H s p (c,H1) (by show bnd (eval _ _ _ _) _=_;rw [show eval (C.cx d) i fr H=some (v1,H1) from e1];show Ku _ (truthy H1 v1)=_;rw [hc];rfl) Q E λw1 a1 s1 n1 r1=>by rw [show a1=c from r1];exact hq w1 s1 n1
  subst e;intro Q E hq;cases hs with
  |nil=>
   cases e2;cases op with
   |And=>
    refine wpAny_allTrue_And_cons (first b et λw1 s1 n1=>?_);cases b with
    |true=>exact wpAny_allTrue_And_nil (hq w1 _ s1 n1 rfl)
    |false=>exact hq w1 _ s1 n1 rfl
   |Or=>
    refine wpAny_allTrue_Or_cons (first b et λw1 s1 n1=>?_);cases b with
    |true=>exact hq w1 _ s1 n1 rfl
    |false=>exact wpAny_allTrue_Or_nil (hq w1 _ s1 n1 rfl)
  | @cons e' i' es' irs' he' hs'=>
   refine (bs e2).elim λc zq1=>?_;have stop:some (v1,H1)=some (v,H') ->c=b/\H1=H':=λq=>by
    cases q;exact ⟨Qf.inj (zq1.1.symm.trans et),rfl⟩
   have go: ∀w1 s1,Nxt Y k w w1 H1 s s1->gV (C.cx d) (op== .Or) (i'::irs') fr H1=some (v,H') ->wpAny C.M Y.A (allTrue op (e'::es') env) Q E s1:=λw1 s1 n1 q=>
    ih Y env k mE fr w1 H1 s1 (p.next n1) (b,H') (by show bnd (gV _ _ _ _ _) _=_;rw [q];show Ku _ (truthy H' v)=_;rw [et];rfl) Q E λw2 a2 s2 n2 r2=>hq w2 a2 s2 (n1.trans n2) r2
   cases op with
   |And=>
    refine wpAny_allTrue_And_cons (first c zq1.1 λw1 s1 n1=>?_);cases c with
    |true=>exact go w1 s1 n1 zq1.2
    |false=>obtain ⟨rfl,rfl⟩:=stop zq1.2;exact hq w1 _ s1 n1 rfl
   |Or=>
    refine wpAny_allTrue_Or_cons (first c zq1.1 λw1 s1 n1=>?_);cases c with
    |true=>obtain ⟨rfl,rfl⟩:=stop zq1.2;exact hq w1 _ s1 n1 rfl
    |false=>exact go w1 s1 n1 zq1.2
end
section
variable {C:Cfg}{d e:Nat}{Y:aH C d e}{k:Kp}{w:Wd}{H:MH}{s:Shared}{cx:CC}{env:Env}{mE:Str->Option Value}{fr:Frame}
structure ziO (C:Cfg) (w:Wd) {α:Type} (mk:α->Val) (mes:List (Val×Val)) (kvs:List (α×Value)):Prop where
 e:mes.map (·.1)=kvs.map (λp=>mk p.1)
 r:aA C w (mes.map (·.2)) (kvs.map (·.2))
theorem pZ {α:Type} [DecidableEq α] {mk:α->Val} (hmk: ∀a b,kEq (mk a) (mk b)=decide (a=b)) (k:α) {mv:Val}{rv:Value} (hv:aB C w mv rv) {mes:List (Val×Val)}{kvs:List (α×Value)} (P:ziO C w mk mes kvs) (hany:(bA mes (mk k)).isSome=kvs.any (λkv=>kv.1=k)):
  ziO C w mk (fQ mes (mk k) mv) (stored kvs k rv):=by
 unfold fQ stored;rw [hany];cases hc:kvs.any (λkv=>decide (kv.1=k)) with
 |false=>
  refine ⟨?_,?_⟩
  ·show (mes++ [_]).map _=(kvs++ [_]).map _
   rw [QF,QF,P.e];rfl
  ·show aA C w ((mes++ [_]).map _) ((kvs++ [_]).map _)
   rw [QF,QF];exact aA.append (.one hv) P.r
 |true=>
  obtain ⟨e,r⟩:=P
  clear hc hany
  show ziO C w mk (mes.map _) (kvs.map _)
  induction kvs generalizing mes with
  |nil=>rw [Je.mp e];exact ⟨rfl,.nil⟩
  |cons y kvs ih=>
   cases mes with
   |nil=>cases e
   |cons x mes=>
    obtain ⟨e1,e2⟩:=Q6.inj e;obtain ⟨v,t,ev,h,r⟩:=r;obtain ⟨rfl,rfl⟩:=Q6.inj ev;have zq32:=ih e2 r;have e1:x.1=mk y.1:=e1;have hk:kEq x.1 (mk k)=decide (y.1=k):=by rw [e1,hmk]
    by_cases q:y.1=k
    ·rw [decide_eq_true q] at hk
     refine ⟨?_,?_⟩
     ·show (bif kEq x.1 (mk k) then _ else _:Val×Val).1::_=_
      rw [zq32.e,hk,QJ,QJ,if_pos q];exact congrArg (· ::_) e1
     ·show aA C w ((bif kEq x.1 (mk k) then _ else _:Val×Val).2::_) _
      rw [hk,QJ,QJ,if_pos q];exact .cons hv zq32.r
    ·rw [decide_eq_false q] at hk
     refine ⟨?_,?_⟩
     ·show (bif kEq x.1 (mk k) then _ else _:Val×Val).1::_=_
      rw [zq32.e,hk,QJ,QJ,if_neg q];exact congrArg (· ::_) e1
     ·show aA C w ((bif kEq x.1 (mk k) then _ else _:Val×Val).2::_) _
      rw [hk,QJ,QJ,if_neg q];exact .cons h zq32.r
theorem uS (mes:List (Val×Val)) (k v:Val):(fQ mes k v).length=(bif (bA mes k).isSome then mes.length else mes.length+1):=by
 unfold fQ;cases (bA mes k).isSome with
 |true=>exact Qz ..
 |false=>exact QG
theorem rT {mes:List (Val×Val)}{k v:Val}{n:Nat} (h:mes.length<n):(fQ mes k v).length<=n:=by
 rw [uS];cases (bA mes k).isSome with
 |true=>exact Jq h
 |false=>exact h
theorem kM {α:Type} [DecidableEq α] (kvs:List (α×Value)) (k:α):(valueAt kvs k).isSome=kvs.any (λkv=>kv.1=k):=by
 unfold valueAt;rw [J3,QL,List.find?_isSome,Kl]
theorem zbi {A:Around} (S:St Y k w H s) (hu:A.units+1<cLine) {D:Addr}{mes:List (Val×Val)}{es:List DictEntry}{n:Nat} (hob:s.heap.get? D=some (dictOf es n)) (j:dT C w mes es) {x v:Val}{kv vv:Value} (hf:aE mes x=true) (hlen:mes.length<lim) (hk:aB C w x kv) (hv:aB C w v vv)
  {Q:Unit->Shared->Prop}{E:Value->Shared->Prop}
  (h: ∀es' h' tk,Heap.SameBut D s.heap h'->h'.get? D=some (dictOf es' (bif (bA mes x).isSome then n else n+1)) ->dT C w (fQ mes x v) es'->Q () {s with heap:=h',toks:=tk}):wpAny C.M A (dictSet D kv vv) Q E s:=by
 have ci: ∀ {b:Bool}{x y:Nat},(if b=true then x else y)=(bif b then x else y):=λ{b x y} =>by cases b<;>rfl
 rcases gB (Qa.mp hf).1 with ⟨q,rfl⟩| ⟨q,rfl⟩
 ·obtain ⟨kvs,DD⟩:=j.atom hf
  obtain ⟨h1,h2⟩:=hk.atom;have hl:es.length<=sizeLine:=by rw [(dT.entries (.inl ⟨kvs,DD⟩)).1];exact Qe (Jq hlen) aY
  have hany:=(DD.get q).isSome.trans (kM kvs q);refine vK (knd:=bB C.prog C.w) h1 hob DD.k DD.p DD.n hl λes' f hfe q1 q2 q3=>?_;rw [<-hany,ci] at hfe;have P:=pZ mB q hv ⟨DD.e,DD.r⟩ hany;refine h es' _ _ (Heap.SameBut.update ..) ?_ (.inl ⟨_,q2,q1,q3,P.e,λp hp=>?_,P.r⟩)
  ·rw [<-hfe]
   exact JO _ hob (by rw [hfe];rfl)
  ·unfold stored at hp
   split at hp
   ·obtain ⟨q,hq,rfl⟩:=QC.mp hp
    split<;>exact DD.ok q hq
   ·rcases Jf.mp hp with hp|hp
    ·exact DD.ok p hp
    ·rw [Ql.mp hp];exact h2
 ·obtain ⟨xs,DD⟩:=j.tups hf
  obtain ⟨t,rfl,ht⟩:=S.tupKey hk;have hl:xs.length<=sizeLine:=by rw [<-iU DD.e];exact Qe (Jq hlen) aY
  refine sH (knd:=tupleKind (bB C.prog C.w)) (show A.units<cLine from Nat.lt_of_succ_lt hu) ht (DD.es▸hob) (DD.keys S) DD.n hl λf hfe q3=>?_;have hany:=(DD.get q).isSome;rw [J3] at hany;rw [<-hany,ci] at hfe;have P:=pZ (mk:=λas:List Atom=>Val.tup (as.map Atom.val)) rJ q hv ⟨DD.sides.1,DD.sides.2⟩ (by rw [<-kM,valueAt_kvsOf,J3];exact hany);rw [<-kvsOf_storedH xs q t vv] at P;refine h _ _ _ (Heap.SameBut.update ..) ?_ (.inr ⟨_,rfl,q3,λx hx=>?_,?_,?_⟩)
  ·rw [<-hfe,<-DD.es]
   exact JO _ hob (by rw [DD.es,hfe];rfl)
  ·rcases mem_storedH hx with ⟨y,hy,q1,q2⟩| ⟨q1,q2⟩
   ·rw [q1,q2];exact DD.v y hy
   ·rw [q1,q2];exact hk
  ·rw [P.e];simp [kvsOf]
  ·have:=P.r
   simpa [kvsOf,Function.comp_def] using this
theorem Pl.ext (p:Pl Y cx env k mE fr w H s) {q:Addr×Obj}{s':Shared} (S:St Y (k.ext q) w H s'):Pl Y cx env (k.ext q) mE fr w H s':=
 ⟨⟨p.b.kind,p.b.gl,p.b.bl,p.b.sc,p.b.cells,p.b.loc.imp id λ⟨o,h⟩=>⟨o,.tail _ h.1,h.2⟩⟩,p.f,S⟩
def zH:List (Value×Value) ->List Value
 | []=> []
 |p::r=>p.1::p.2::zH r
theorem zaX (ws:List (Value×Value)):(zH ws).length=2*ws.length:=by
 induction ws with
 |nil=>rfl
 |cons p ws ih=>rw [JF,KF];exact congrArg (· +2) ih
abbrev SdK (C:Cfg) (d:Nat) (cx:CC) (o:Option Expr) (i:Ex):Prop:= ∃e,o=some e/\Sd C d cx e i
theorem zag {pos:Pos}{ks:List (Option Expr)}{ia:List Ex} (hk:bM (SdK C d cx) ks ia): ∀ {vs:List Expr}{ib:List Ex},Sds C d cx vs ib->ks.length=vs.length-> ∀ (Y:aH C d 2) (env:Env) (k:Kp) (mE:Str->Option Value) (fr:Frame) (w:Wd) (H:MH) (s:Shared),Pl Y cx env k mE fr w H s->
  Ref Y k (λw l ws=>aA C w l (zH ws)) (evalPairs (pairTrees ks vs env pos)) w s (dE (C.cx d) (pQ ia ib) fr H):=by
 induction hk with
 |nil=>
  intro vs ib hv hl Y env k mE fr w H s p r e;cases hv with
  |nil=>cases e;exact λQ E hq=>evalPairs_nil (hq w [] s (.refl p.st) .nil)
  |cons _ _=>cases hl
 |cons hk _ ih=>
  intro vs ib hv hl Y env k mE fr w H s p r;cases hv with
  |nil=>cases hl
  | @cons v b vs ib hv hvs=>
   obtain ⟨ke,rfl,hk⟩:=hk;refine aC λx H1 e1=>aC λl H2 e0 e=>?_
   revert e0
   refine aC λy H3 e2=>aC λl' H4 e3 e4=>?_;cases e4;cases e;exact λQ E hq=>evalPairs_cons (hk.es Y env k mE fr w H s p _ e1 _ _ λw1 a1 s1 n1 r1=>wpAny_bind (hv.es Y env k mE fr w1 H1 s1 (p.next n1) _ e2 _ _ λw2 a2 s2 n2 r2=>wpAny_bind (wpAny_standAt (wpAny_pure
    (ih hvs (Qp.inj hl) Y env k mE fr w2 H3 s2 ((p.next n1).next n2) _ e3 _ _ λw3 a3 s3 n3 r3=>hq w3 ((a1,a2)::a3) s3 ((n1.trans n2).trans n3) (.cons (r1.mono (n2.le.trans n3.le)) (.cons (r2.mono n3.le) r3)))))))
theorem zbB {D:Addr}: ∀ {ws:List (Value×Value)}{l:List Val}{mes mes':List (Val×Val)}{es:List DictEntry}{s:Shared}{Q:PUnit->Shared->Prop}{E:Value->Shared->Prop},
  aA C w l (zH ws) ->d8 l mes=some mes'->mes.length+ws.length<=1000->St Y (k.ext (D,dictOf es mes.length)) w H s->dT C w mes es->
  (∀es' s',St Y (k.ext (D,dictOf es' mes'.length)) w H s'->dT C w mes' es'->dR s s'->Q PUnit.unit s') ->wpAny C.M Y.A (storeAll D ws) Q E s:=by
 intro ws
 induction ws with
 |nil=>
  intro l mes mes' es s Q E r e _ S j hq;cases l with
  |nil=>cases e;exact wpAny_pure (hq es s S j (.refl s))
  |cons _ _=>obtain ⟨_,_,e,_,_⟩:=r;cases e
 |cons p ws ih=>
  intro l mes mes' es s Q E r e hl S j hq;cases l with
  |nil=>cases r
  |cons x l=>
   obtain ⟨kv,t,e1,hk,r⟩:=r;cases e1;cases l with
   |nil=>cases r
   |cons v l=>
    obtain ⟨vv,t,e1,hv,r⟩:=r;cases e1;obtain ⟨hf,e⟩:=gs e;unfold storeAll;rw [Ze];refine wpAny_bind (wpAny_bind (zbi S (Y.u (n:=1) (by decide)) S.exHead.1 j hf (Kj (Qn (Jl (JV _)) hl:mes.length<1000) (by decide)) hk hv λes' h' tk hs hg j'=>wpAny_pure ?_));rw [<-uS (v:=v)] at hg;refine ih (s:={s with heap:=h',toks:=tk}) r e ?_ (S.setEx hs hg) j' λes'' s'' S'' j'' sm=>hq es'' s'' S'' j'' ⟨sm.1,sm.2⟩;exact Qe (JU (rT (QS _)) _) (by rw [Nat.succ_add_eq_add_succ];exact hl)
theorem zdM {ks:List (Option Expr)}{ia:List Ex} (hk:bM (SdK C d cx) ks ia): ∀ {ib:List Ex},ib.length=ks.length->ks.all (·.isSome)=true/\(pQ ia ib).length=2*ks.length:=by
 induction hk with
 |nil=>exact λ_=>⟨rfl,rfl⟩
 |cons h _ ih=>
  intro ib hl;cases ib with
  |nil=>cases hl
  |cons b ib=>
   refine QY h λ_ zq25=>?_;obtain rfl:=zq25.1;exact ⟨(ih (Qp.inj hl)).1,by rw [JF,KF,<-(ih (Qp.inj hl)).2];rfl⟩
theorem zbR {ks:List (Option Expr)}{vs:List Expr}{ia ib:List Ex}{pos:Pos} (hk:bM (SdK C d cx) ks ia) (hv:Sds C d cx vs ib) (hl:ks.length=vs.length):bU C d cx (.Dict ks vs pos) (.dict (pQ ia ib)):=by
 intro Y env k mE fr w H s p r;refine aC λl H1 e1=>aF λes e2=>bE λhlen e=>?_;cases e;have hlen:=Qr.mp hlen;obtain ⟨hall,hz⟩:=zdM hk (hv.length.trans hl.symm);intro Q E hq;have S0 := p.st.addEx { cls := .type "dict",data := .dict #[] } rfl;have fin: ∀ {w':Wd}{des:List DictEntry}{s':Shared},w.le w'->St Y (k.ext (s.heap.objs.size,dictOf des es.length)) w' H1 s'->dT C w' es des->es.length<=lim->dR s s'->Q (.ref s.heap.objs.size) s':=λ{w' des s'} le S' j' hl sm=>
  hq _ _ s' ⟨le.trans (⟨Qs _ _,λ_ x=>x⟩:w'.le ⟨w'.σ++ [s.heap.objs.size],w'.tp⟩),S'.fromEx (p.st.four (Qo _)) ⟨des,_,rfl,λe he=>Qf.inj he,j'.mono (⟨Qs _ _,λ_ x=>x⟩:w'.le ⟨w'.σ++ [s.heap.objs.size],w'.tp⟩),hl⟩,sm⟩ ⟨_,rfl,by rw [<-S'.len];exact Qt⟩
 by_cases h0:ks= []
 ·subst h0
  cases hk;have hvs:vs= []:=QR.mp hl.symm;subst hvs;cases hv;cases e1;cases e2;exact wpAny_Dict_empty (fin (s' := { s with heap := s.heap.push { cls := .type "dict",data := .dict #[] } }) (.refl w) S0 (.inl ⟨[],.nil⟩) (QO _) ⟨rfl,rfl⟩)
 ·refine wpAny_Dict_any hall hl h0 (by lia) (zag hk hv hl Y env _ mE fr w H _ (p.ext S0) _ e1 _ _ λw1 ws s1 n1 r1=>?_)
  have hws:l.length=2*ws.length:=by rw [<-zaX];exact r1.length
  have hel:l.length=(pQ ia ib).length:=d7 e1;have hsz: ∀ {l:List Val}{mes mes':List (Val×Val)},d8 l mes=some mes'->mes'.length<=mes.length+l.length:=by
   intro l mes mes' e
   fun_induction d8 l mes with
   |case1=>cases e;exact Qo _
   |case2=>cases e
   |case3 es k v r ih=>
    obtain ⟨_,e⟩:=gs e;refine Qe (ih e) (Qe (JU (rT (QS _)) _) ?_);simp only [JF];lia
  have hes:=hsz e2;exact zbB (mes:=[]) (es:=[]) r1 e2 (by rw [Zf];lia) n1.st (.inl ⟨[],.nil⟩) λdes s' S' j' sm=>fin n1.le S' j' (by rw [Zf] at hes;exact Qe hes (Qe (Qe (QP (JA _)) (Qe (QP hel) hlen):_<=30) (by decide))) (dR.trans (b:=s1) ⟨n1.same.1,n1.same.2⟩ sm)
theorem zdu {i:Int}{n:Nat} (h:0<=i):max 0 (min (if i<0 then i+(n:Int) else i) (n:Int))=((min i.toNat n:Nat):Int):=by
 rw [if_neg (Zn.mpr h)];obtain ⟨m,rfl⟩:=Int.eq_ofNat_of_zero_le h;rw [Jz];rcases Nat.le_total m n with e|e
 ·rw [Zg e,Int.min_eq_left (Jr.mpr e)];exact Int.max_eq_right (QH m)
 ·rw [J9 e,Int.min_eq_right (Jr.mpr e)];exact Int.max_eq_right (QH n)
theorem zZ (s:List Nat) {l u:Option Int} (hl: ∀i,l=some i->0<=i) (hu: ∀i,u=some i->0<=i):
  Txt.slice ⟨s.toArray⟩ l u=⟨(cut s (l.elim 0 (λi=>min i.toNat s.length)) (u.elim s.length (λi=>min i.toNat s.length))).toArray⟩:=by
 have hlen:(⟨s.toArray⟩:Str).length=s.length:=rfl
 generalize ha:l.elim 0 (λi=>min i.toNat s.length)=a
 generalize hb:u.elim s.length (λi=>min i.toNat s.length)=b
 have hbn:b<=s.length:=by
  cases u with
  |none=>exact QP hb.symm
  |some j=>exact hb▸ZC _ _
 have hidx:Zj l u 1 s.length=(ZK (b-a)).map (a+ ·):=by
  rw [<-sliceRange_one];unfold Zj;simp only [show (1:Int)>0 by decide,if_true]
  congr 1
  ·cases l with
   |none=>exact congrArg Kw ha
   |some i=>
    have:=hl i rfl
    simp only [KI] at ha;exact (zdu this).trans (congrArg Kw ha)
  ·cases u with
   |none=>exact congrArg Kw hb
   |some i=>
    have:=hu i rfl
    simp only [KI] at hb;exact (zdu this).trans (congrArg Kw hb)
 unfold Txt.slice;rw [hlen,hidx];rw [(pick_run s.toArray a (b-a):(J4 (λx=>a+x) (ZK (b-a))).filterMap (λx=>(⟨s.toArray⟩:Str).cps[x]?)=(s.drop a).take (b-a)),(by unfold cut;rw [List.drop_take]:cut s a b=(s.drop a).take (b-a))];split
 ·rename_i h
  simp only [beq_self_eq_true,KA,beq_iff_eq,Qz,Zt] at h;by_cases h0:s.length=0
  ·rw [QR.mp h0];simp
  ·rw [show a=0 from Nat.eq_zero_of_not_pos λha=>JG (Qn (Nat.sub_lt (Nat.pos_of_ne_zero λe=>h0 (by rw [<-h,e,Nat.zero_sub])) ha) hbn) h,show b=s.length by exact JJ hbn (Qe (QP (Kt h)) (Kx _ _))];simp
 ·rfl
theorem aA.cut {ms:List Val}{vs:List Value} (r:aA C w ms vs) (a b:Nat):aA C w (Internal.cut ms a b) (Internal.cut vs a b):=by
 have hd: ∀ {ms:List Val}{vs:List Value},aA C w ms vs-> ∀b,aA C w (ms.drop b) (vs.drop b):=by
  intro ms
  induction ms with
  |nil=>intro vs r b;cases r;simp only [JM];exact .nil
  |cons x ms ih=>
   intro vs r b;cases b with
   |zero=>exact r
   |succ b=>obtain ⟨v,t,rfl,_,r⟩:=r;exact ih r b
 have ht: ∀ {ms:List Val}{vs:List Value},aA C w ms vs-> ∀b,aA C w (ms.take b) (vs.take b):=by
  intro ms
  induction ms with
  |nil=>intro vs r b;cases r;simp only [List.take_nil];exact .nil
  |cons x ms ih=>
   intro vs r b;cases b with
   |zero=>exact .nil
   |succ b=>obtain ⟨v,t,rfl,h,r⟩:=r;exact .cons h (ih r b)
 exact hd (ht r b) a
structure BdO (C:Cfg) (v:Value) (l:Option Int):Prop where
 nn: ∀i,l=some i->0<=i
 p:(l=none/\v= .none)\/∃i t,l=some i/\v= .int i t
theorem BdO.none:BdO C .none none:=⟨λ_ q=>nos q,.inl ⟨rfl,rfl⟩⟩
theorem lO {n c:Nat}{x:Val}{v:Value} (hv:aB C w x v) (h:dA n x=some c): ∃i,BdO C v (some i)/\c=min i.toNat n:=by
 obtain ⟨i,e1,h⟩:=bs h;obtain ⟨hb,e⟩:=gs h;obtain ⟨t,e2⟩:=hv.int? e1;exact ⟨i,⟨λj q=>Qf.inj q▸of_decide_eq_true hb,.inr ⟨i,t,rfl,e2⟩⟩,(Qf.inj e).symm⟩
theorem zfw {x:List Nat}{a b:Nat} (h:sOk x):sOk (cut x a b):=
 ⟨λc hc=>h.1 c (List.mem_of_mem_take (List.mem_of_mem_drop hc)),Qe (by unfold cut;rw [ZD,ZE];exact Qe (Kx _ _) (ZC _ _)) h.2⟩
theorem zeq {value:Expr}{lo' hi':Option Expr}{sp:Pos} (hc:(cI value).isSome=true) {s0:Shared} (S:St Y k w H s0) {o:Val}{ov vl vu:Value}{n':Nat}{bvs:List Val} (ho:aB C w o ov)
  (hb : ∀ n p,j3 n n' bvs = some p -> ∃ l u,BdO C vl l /\ BdO C vu u /\ p = (l.elim 0 (λi => min i.toNat n),u.elim n (λi => min i.toNat n))) (hs : s = { s0 with heap := s0.heap.push { cls := .type "slice",data := .fields #[vl,vu,.none] } }) {r : Val × MH} (e : slice H o n' bvs = some r) {Q : Value -> Shared -> Prop} {E : Value -> Shared -> Prop}
  (hq: ∀w' a s',Nxt Y k w w' r.2 s0 s'->aB C w' r.1 a->Q a s'):wpAny C.M Y.A (subscriptTail value (.Slice lo' hi' none sp) ov (.ref s0.heap.objs.size)) Q E s:=by
 subst hs;have hgo: ∀o r,letTemporaryGo value o r=pure ():=by
  refine (QK.mp hc).elim λp zq18=>?_;rw [cT zq18];exact λ_ _=>rfl
 revert e
 refine aT (aF λx e1=>aF λp e2 e=>?_) (aF λx e1=>aF λp e2 e=>?_)
 ·cases e
  obtain ⟨t,rfl,ok⟩:=ho.str? e1;obtain ⟨l,u,⟨p1,p2⟩,⟨p3,p4⟩,rfl⟩:=hb _ _ e2;obtain ⟨all,hn,_,_,g3⟩:=S.ledger;have hsz:(⟨x.toArray⟩:Str).length<=sizeLine:=Qe ok.2 aY;have fin: ∀ (h':Heap) (t':Tok) (tk:Nat),Fr Y.h₀ Y.L h' k.m->News Y.h₀ Y.L h' all->Q (.str (Txt.slice ⟨x.toArray⟩ l u) t') {s0 with heap:=h',toks:=tk}:=λh' t' tk F N=>by
   rw [zZ x p1 p3];exact hq w _ _ ⟨.refl w,g3 h' F N,rfl,rfl⟩ ⟨t',rfl,zfw ok⟩
  rcases p2 with ⟨rfl,rfl⟩| ⟨i,ti,rfl,rfl⟩
  ·rcases p4 with ⟨rfl,rfl⟩| ⟨j,tj,rfl,rfl⟩
   ·exact slice_strN_nn S.fr hn fin rfl (hgo _) hsz
   ·exact slice_strN_ns S.fr hn fin rfl (hgo _) hsz
  ·rcases p4 with ⟨rfl,rfl⟩| ⟨j,tj,rfl,rfl⟩
   ·exact slice_strN_sn S.fr hn fin rfl (hgo _) hsz
   ·exact slice_strN_ss S.fr hn fin rfl (hgo _) hsz
 ·cases e
  obtain ⟨la,ws,n,rfl,hg,rr,hlen⟩:=S.list ho e1;refine (hb _ _ e2).elim λl zq12=>zq12.elim λu zq13=>?_;obtain rfl:=zq13.2.2;obtain ⟨all,hn,add,_,_⟩:=S.ledger;have hpart: ∀ {v:Value}{l:Option Int},((l=none/\v= .none)\/∃i t,l=some i/\v= .int i t) ->IsPart v l:=λh=>by
   rcases h with ⟨rfl,rfl⟩| ⟨i,t,rfl,rfl⟩
   ·exact .none
   ·exact .int i t
  refine slice_list (lo:=l) (hi:=u) S.fr hn ⟨_,hg,rfl,n,rfl⟩ (hpart zq13.1.p) (hpart zq13.2.1.p) (λh' F N=>?_) rfl (hgo _) (by rw [Qw,<-rr.length];exact Qe hlen aY);have hclip: ∀ {l:Option Int} (k:Nat),(∀i,l=some i->0<=i) ->l.elim k (clipAt ws.length)=l.elim k (λi=>min i.toNat x.length):=λ{l} k hl=>by
   cases l with
   |none=>rfl
   |some i=>
    have:=clipAt_nat ws.length i.toNat
    rw [Int.toNat_of_nonneg (hl i rfl)] at this;exact this.trans (by show min _ _=min _ _;rw [rr.length])
  have hpk:slicePick ws.toArray l u none=(Internal.cut ws (l.elim 0 λi=>min i.toNat x.length) (u.elim x.length λi=>min i.toNat x.length)).toArray:=by
   rw [slicePick_plain];simp only [Qw];rw [hclip 0 zq13.1.nn,hclip ws.length zq13.2.1.nn,show ws.length=x.length from rr.length.symm];unfold Internal.cut;rw [List.drop_take]
  rw [hpk] at N;refine hq _ _ {s0 with heap:=h'} ⟨(⟨Qs _ _,λ_ x=>x⟩:w.le ⟨w.σ++ [s0.heap.objs.size+1],w.tp⟩),add _ (.list _) [_] h' ⟨_,0,rfl,(rr.cut _ _).mono (⟨Qs _ _,λ_ x=>x⟩:w.le ⟨w.σ++ [s0.heap.objs.size+1],w.tp⟩),?_⟩ F N (cD _) (News.fresh hn λp hp=>Ql.mp hp▸Zu _) (S.four (Zu _)),rfl,rfl⟩ ⟨_,rfl,by rw [<-S.len];exact Qt⟩;unfold Internal.cut;rw [ZD,ZE];exact Nat.sub_le_of_le_add (Qe (ZC _ _) (Nat.le_add_right_of_le hlen))
theorem zad {v:Expr}{lo hi:Option Expr}{sp pos:Pos}{ie:Ex}{f:Expr->Option Ex}{q:Nat×List Ex} (hc:(cI v).isSome=true) (hv:bU C d cx v ie) (hf: ∀e i,f e=some i->Sd C d cx e i) (hb:rX f lo hi=some q):bU C d cx (.Subscript v (.Slice lo hi none sp) pos) (.slice ie q.1 q.2):=by
 intro Y env k mE fr w H s p r;refine aC λx H1 e1=>aC λbv H2 e2 e=>?_;intro Q E hq;refine Subscript_ (hv Y env k mE fr w H s p _ e1 _ _ λw1 a1 s1 n1 r1=>wpAny_Slice ?_);have p1:=p.next n1;have fin: ∀ {w3:Wd}{s3:Shared}{vl vu:Value},Nxt Y k w1 w3 H2 s1 s3->(∀n p,j3 n q.1 bv=some p-> ∃l u,BdO C vl l/\BdO C vu u/\p=(l.elim 0 (λi=>min i.toNat n),u.elim n (λi=>min i.toNat n))) ->
   wpAny C.M Y.A (evalPart none env) (λst s₃ => wpAny C.M Y.A (subscriptTail v (.Slice lo hi none sp) a1 (.ref s₃.heap.objs.size)) Q E { s₃ with heap := s₃.heap.push { cls := .type "slice",data := .fields #[vl,vu,st] } }) E s3 := λ{w3 s3 vl vu} n3 hbb =>
  wpAny_pure (zeq hc n3.st (r1.mono n3.le) hbb rfl e λw4 a4 s4 n4 r4=>hq w4 a4 s4 ((n1.trans n3).trans n4) r4)
 cases lo with
 |none=>
  cases hi with
  |none=>
   cases hb;cases e2;exact wpAny_pure (wpAny_pure (fin (.refl n1.st) λn p h=>⟨none,none,.none,.none,by cases h;rfl⟩))
  |some b=>
   obtain ⟨y,hy,e3⟩:=ms hb;cases e3;refine wpAny_pure ?_
   revert e2
   refine aC λy' H3 e2=>aC λl H4 e3 e4=>?_;cases e3;cases e4;refine (hf _ _ hy).es Y env k mE fr w1 H1 s1 p1 _ e2 _ _ λw2 a2 s2 n2 r2=>fin n2 λn p h=>?_;obtain ⟨c,h1,rfl⟩:=ms (o:=dA n y') (f:=λy=>(0,y)) h;obtain ⟨i,hi,rfl⟩:=lO r2 h1;exact ⟨none,some i,.none,hi,rfl⟩
 |some a=>
  obtain ⟨xa,hxa,hb⟩:=bs hb;cases hi with
  |none=>
   cases hb
   revert e2
   refine aC λy' H3 e2=>aC λl H4 e3 e4=>?_;cases e3;cases e4;refine (hf _ _ hxa).es Y env k mE fr w1 H1 s1 p1 _ e2 _ _ λw2 a2 s2 n2 r2=>wpAny_pure (fin n2 λn p h=>?_);obtain ⟨c,h1,rfl⟩:=ms (o:=dA n y') (f:=λx=>(x,n)) h;obtain ⟨i,hi,rfl⟩:=lO r2 h1;exact ⟨some i,none,hi,.none,rfl⟩
  |some b=>
   refine (ms hb).elim λy zq5=>?_;have e3:=zq5.2;cases e3
   revert e2
   refine aC λx' H3 e2=>aC λl H4 e5 e4=>?_;cases e4
   revert e5
   refine aC λy' H5 e3=>aC λl' H6 e6 e7=>?_;cases e6;cases e7;refine (hf _ _ hxa).es Y env k mE fr w1 H1 s1 p1 _ e2 _ _ λw2 a2 s2 n2 r2=>(hf _ _ zq5.1).es Y env k mE fr w2 H3 s2 (p1.next n2) _ e3 _ _ λw3 a3 s3 n3 r3=>fin (n2.trans n3) λn p h=>?_;obtain ⟨c,h1,h⟩:=bs (o:=dA n x') (f:=λx=>(dA n y').map λy=>(x,y)) h;obtain ⟨c',h2,rfl⟩:=ms h;refine (lO (r2.mono n3.le) h1).elim λi zq2=>?_;obtain rfl:=zq2.2;refine (lO r3 h2).elim λj zq1=>?_;obtain rfl:=zq1.2;exact ⟨some i,some j,zq2.1,zq1.1,rfl⟩
end
section
variable {K:Type} [DecidableEq K]
def gG (l:List K) (k:K):List K:=if k∈l then l else l++ [k]
def kS (val:Nat->K):Nat->Nat->List K->List K
 |0,_,l=>l
 |n+1,i,l=>kS val n (i+1) (gG l (val i))
theorem mD {l:List K}{k:K}:(gG l k).length=(if k∈l then l.length else l.length+1):=by
 unfold gG;by_cases h:k∈l
 ·rw [if_pos h,if_pos h]
 ·rw [if_neg h,if_neg h,QG];rfl
theorem zqp {val:Nat->K}: ∀ {n i:Nat}{l:List K},(kS val n i l).length<=l.length+n:=by
 intro n
 induction n with
 |zero=>exact λ{i l} =>Qo _
 |succ n ih=>
  intro i l;refine Qe (ih (i:=i+1) (l:=gG l (val i))) ?_;rw [mD];by_cases h:val i∈l
  ·rw [if_pos h];exact Zo (Qo _) (Jh _ _)
  ·rw [if_neg h];exact Qe (QP (KG _ _)) (QP (Nat.add_left_comm _ _ _))
end
abbrev kN {prog:Program}{w:World}{K:Type} [DecidableEq K] (knd:KeyKind prog w K) (h:Heap) (a:Addr) (l:List K):Prop:=h.SetOf knd a (λk=>decide (k∈l)) l.length
section
variable {prog:Program}{w:World}{K:Type} [DecidableEq K] {knd:KeyKind prog w K}{A:Around}{E:Value->Shared->Prop}
theorem kN.keep {h h':Heap}{a:Addr}{l:List K} (S:kN knd h a l) (hk: ∀o,h.get? a=some o->h'.get? a=some o):kN knd h' a l:=by
 obtain ⟨o,es,ep,t,ho,r⟩:=S;exact ⟨o,es,ep,t,hk o ho,r⟩
theorem zbX {R:Result->Shared->Prop}{I S:Addr}{fp wr:List Addr}{G:Array GenState->Array GenState->Prop}{n:Nat}{P:Nat->Value->Prop}{Z:Nat->Shared->Prop} (W:WalksS prog w A.in1 I fp wr G n P Z) (hS:S∉fp) (val:Nat->K)
  (hv: ∀i v,P i v->knd.is (val i) v=true/\v.scannable=true): ∀ (m i:Nat) (l:List K) (s:Shared),i+m=n->l.length+m+1<scanBound->Z i s->kN knd s.heap S l->
  (∀ s',Moved (S :: wr) G s s' -> kN knd s'.heap S (kS val m i l) -> R (.ok (.ret .none)) s') -> codeAny (model prog w) A (.builtin "set.update.loop" ⟨[.ref S,.ref I],[]⟩) R s := by
 have hw:S∉wr:=λh=>hS (W.sub _ h);have sub: ∀b∈wr,b∈S::wr:=λb hb=> .tail _ hb;intro m
 induction m with
 |zero=>
  intro i l s hi hb z hs hR;cases hi;refine codeAny_builtin F.entry_set_update_loop ?_;rw [Around.under_plainId F.plain_set_update_loop _];show wpAny _ A.in1 (pyNext (.ref I)>>=_) _ _ s;refine wpAny_bind (W.done s _ _ z λs' hm=>?_);exact wpAny_pure (hR s' (hm.mono sub) (hs.keep λo ho=>hm.heap S o hw ho))
 |succ m ih=>
  intro i l s hi hb z hs hR;refine codeAny_builtin F.entry_set_update_loop ?_;rw [Around.under_plainId F.plain_set_update_loop _];show wpAny _ A.in1 (pyNext (.ref I)>>=_) _ _ s;refine wpAny_bind (W.item i s _ _ (Qn (Jl (JV _)) (QP hi)) z λv s' hp z' hm=>?_);obtain ⟨q1,q2⟩:=hv i v hp;have hs':=hs.keep λo ho=>hm.heap S o hw ho;show wpAny _ A.in1 (holding [v] (setAdd S v)>>=_) _ _ s';refine wpAny_bind (wpAny_holding ?_);unfold setAdd;refine wpAny_holding (wpAny_bind (knd.pyHash q1 (wpAny_setAddHashed_of (knd:=knd) (s:={s' with toks:=s'.toks+1}) q1 q2 hs' (Nat.add_lt_of_lt_sub (QU (Jh _ _) (Nat.lt_sub_of_add_lt hb))) λh' hb' hs2=>?_)));have e:kN knd h' S (gG l (val i)):=by
   have e1:(λk'=>decide (k'∈l)||decide (k'=val i))=λk'=>decide (k'∈gG l (val i)):=funext λk'=>by
    unfold gG;rw [QL,JY,decide_eq_true_iff,decide_eq_true_iff,decide_eq_true_iff];by_cases h:val i∈l
    ·rw [if_pos h];exact ⟨λq=>q.elim id λq=>q▸h,.inl⟩
    ·rw [if_neg h,Jf,Ql]
   have e2:(if decide (val i∈l)=true then l.length else l.length+1)=(gG l (val i)).length:=by
    rw [mD];by_cases h:val i∈l
    ·rw [if_pos h,if_pos (decide_eq_true h)]
    ·rw [if_neg h,if_neg λq=>h (of_decide_eq_true q)]
   rw [e1,e2] at hs2;exact hs2
  have hl:(gG l (val i)).length<=l.length+1:=by
   rw [mD];by_cases h:val i∈l
   ·rw [if_pos h];exact Jh _ _
   ·rw [if_neg h];exact Qo _
  refine wpAny_pure ⟨plainId_quiet F.plain_set_update_loop _,ih (i+1) _ _ (by lia) (by lia) (W.frame _ s' _ _ z' (Zu _) λb hb o e=>?_) e λs'' hm' hs3=>?_⟩
  ·rw [hb'.2 b λh=>hS (h▸hb)];exact e
  ·refine hR s'' (Moved.trans W.gtrans ((hm.mono sub).then_heap (Zu _) λb o hb e=>?_) hm') hs3
   rw [hb'.2 b λh=>hb (h▸ .head _)];exact e
end
section
variable {prog:Program}{w:World}{A:Around}{E:Value->Shared->Prop}{s:Shared}
theorem sM : isSubtype (.type "str") (.type "set") = pure false := by rw [isSubtype_type]; kernel_rfl
theorem iK : isSubtype (.type "str") (.type "frozenset") = pure false := by rw [isSubtype_type]; kernel_rfl
abbrev zb1 (led : Bool) : Obj := { cls := .type "set",dict := none,data := .set #[] 0 (.fresh 0 0 led) }
def zao (x:PySem.Str) (i:Nat):PySem.Str:=⟨#[(x.cps[i]?).getD 0]⟩
theorem rV {x:PySem.Str}{t:Tok}{Q:Value->Shared->Prop} (hh:A.handled=none) (hb:x.cps.size+1<scanBound)
  (h: ∀ (h':Heap) (tk:Nat),kN (PySem.strKind prog w) h' s.heap.objs.size (kS (zao x) x.cps.size 0 []) ->(∀b o,s.heap.get? b=some o->h'.get? b=some o) ->Q (.ref s.heap.objs.size) {s with heap:=h',toks:=tk}):
  wpAny (model prog w) A (call (.type "set") [.str x t]) Q E s := by
 obtain ⟨c,tl,hmro⟩:=F.called_set.mro;have hmade:=F.called_set.made;have hsub:=F.called_set.sub;refine wpAny_call (codeAny_of_tree ?_);show wpAny _ _ (callAny (.type "set") _) _ _ _;refine wpAny_pure ⟨Code.quiet_builtin _ (by decide+kernel),codeAny_builtin F.entry_type_call ?_⟩;rw [Around.under_plain (weight_type_call_type "set" [.str x t] []) rfl];have h1:=F.called_set.notType;have h2:=F.called_set.canCreate;have hct:=F.typeCall_set_1 (.str x t)
 repeat (any_goals (first|assumption|wp_step))
 refine codeAny_mono (code_set_new_1 (.str x t) (E:=E) (Q₁:=λobj s₁=> ∃led:Bool,obj= .ref s.heap.objs.size/\s₁= {s with heap:=s.heap.push (zb1 led)}) λled=>⟨led,rfl,rfl⟩) λr s₁ hr=>?_;cases r with
 |error e=>exact hr
 |ok fl=>
  cases fl with
  |ret obj=>
   obtain ⟨led,rfl,rfl⟩:=hr;have hS:(s.heap.push (zb1 led)).get? s.heap.objs.size=some (zb1 led):=Heap.get?_push_size _ rfl;have hT : Shared.TypeIs { s with heap := s.heap.push (zb1 led) } (.ref s.heap.objs.size) "set" := ⟨_,hS,rfl⟩;have hli:=F.called_set.init.lookup;have hbi:=F.called_set.init.bind (.ref s.heap.objs.size)
   repeat (any_goals (first|assumption|wp_step))
   refine codeAny_mono (codeAny_call_builtin (R:=wants (λr s₂=>r= .none/\∃h' tk,s₂= {s with heap:=h',toks:=tk} /\kN (PySem.strKind prog w) h' s.heap.objs.size (kS (zao x) x.cps.size 0 [])/\(∀b o,s.heap.get? b=some o->h'.get? b=some o)) E) F.called_set.init.plain F.entry_set_init (check_set_init_1 hT ?_)) λr₂ s₂ hr₂=>?_
   ·have hsls:=sM
    have hslf:=iK;have hne : (Qb "str" == Qb "dict") = false := by decide
    unfold Builtin.«set.__init__» noKeywords Builtin.Frozenset.updateFrom
    generalize hPI:pyIter=PI
    wp_walk
    subst hPI;refine wpAny_pyIter_str λoi Z hW z0=>wpAny_bind (wpAny_runValue ?_);have hh3:A.in1.in1.in1.handled=none:=by simp [hh]
    have hSf:s.heap.objs.size∉ [(s.heap.push (zb1 led)).objs.size]:=by
     rw [Heap.size_push,Ql];exact JG (QS _)
    refine zbX (knd:=PySem.strKind prog w) (hW _ hh3).toS hSf (zao x) (λi v hv=>?_) x.cps.size 0 [] _ (JA _) (by rw [Zf,JA];exact hb) z0 ?_ λs' hm hS'=>?_
    ·obtain ⟨c,u,hc,rfl⟩:=hv
     unfold zao;rw [hc];exact ⟨by simp [PySem.strKind,Value.isStrOf],rfl⟩
    ·refine SetOf_congr ((setObjOf_fresh (knd:=PySem.strKind prog w) led).setOf (Heap.get?_push_of_some _ hS) (by unfold scanBound;exact JV _)) (λ_=>?_) rfl
     rfl
    ·obtain ⟨h',g',d',tk',os'⟩:=s'
     have eg:g'=s.gens:=hm.gens;have ed:d'=s.drawn:=hm.drawn;have eo:os'=s.os:=hm.os;subst eg;subst ed;subst eo;refine wpAny_pure ?_;show wpAny _ _ (ret QN) _ _ _;refine wpAny_pure ⟨rfl,h',tk',rfl,hS',λb o e=>hm.heap b o ?_ (Heap.get?_push_of_some _ (Heap.get?_push_of_some _ e))⟩;have hb1:=Zi e;rw [Qy,Ql,Heap.size_push];exact λq=>q.elim (JG hb1) (JG (Zv hb1))
   ·cases r₂ with
    |error e=>exact hr₂
    |ok fl₂=>
     cases fl₂ with
     |ret r=>
      obtain ⟨rfl,h',tk,rfl,hS',hk'⟩:=hr₂
      repeat (any_goals (first|assumption|wp_step))
      exact h _ _ hS' hk'
     |_=>exact hr₂.elim
  |_=>exact hr.elim
end
theorem zfi {K:Type} [DecidableEq K] {sg:Nat->K} (inj: ∀a b,sg a=sg b->a=b) (f:Nat->Nat): ∀ (n i:Nat) (l:List Nat),kS (λj=>sg (f j)) n i (l.map sg)=(kS f n i l).map sg:=by
 intro n
 induction n with
 |zero=>exact λ_ _=>rfl
 |succ n ih=>
  intro i l
  have:gG (l.map sg) (sg (f i))=(gG l (f i)).map sg:=by
   unfold gG;by_cases h:f i∈l
   ·rw [if_pos h,if_pos (QC.mpr ⟨_,h,rfl⟩)]
   ·rw [if_neg h,if_neg λq=>h (by obtain ⟨y,hy,e⟩:=QC.mp q;rw [<-inj _ _ e];exact hy),QF];rfl
  show kS _ n (i+1) (gG (l.map sg) (sg (f i)))=(kS f n (i+1) (gG l (f i))).map sg;rw [this,ih]
theorem zfj (l:List Nat): ∀ (n i:Nat) (r:List Nat),i+n=l.length->kS (λj=>(l[j]?).getD 0) n i r=(l.drop i).foldl (λr c=>bif r.contains c then r else r++ [c]) r:=by
 intro n
 induction n with
 |zero=>
  intro i r hi;rw [Js (Qe (QP (Kt hi)) (Jm (QS _)))];rfl
 |succ n ih=>
  intro i r hi;have hl:i<l.length:=Qn (Jl (JV _)) (QP hi);rw [Zr hl,Zh];show kS _ n (i+1) (gG r ((l[i]?).getD 0))=_;rw [Qh hl,ih (i+1) _ (by lia)]
  congr 1
  unfold gG;show (if l[i] ∈r then r else r++ [l[i]])=_;by_cases h:l[i] ∈r
  ·rw [if_pos h,Q7.mpr h];rfl
  ·rw [if_neg h,show r.contains l[i]=false from by rw [Bool.eq_false_iff];exact λq=>h (Q7.mp q)];rfl
section
variable {C:Cfg}{d e:Nat}{Y:aH C d e}{k:Kp}{w:Wd}{H:MH}{s:Shared}{as:List Val}{vs:List Value}
theorem zae (S : St Y k w H s) {x : Val} {v : Value} (hx : aB C w x v) : Ref Y k (VR C) (call (.type "set") [v]) w s (zfV x H) := by
 refine .opt λl e=> .grd λhl=>?_;obtain ⟨t,rfl,ok⟩:=hx.str? e;have hl:l.length+1<scanBound:=Nat.lt_of_succ_le (Qr.mp hl);intro r' e';cases e';obtain ⟨all,hn,_,tp,_⟩:=S.ledger;refine λQ E hq=>rV Y.handled hl λh' tk hS hk=>?_;obtain ⟨o,es,ep,t',ho,hex,hd,_,_,hsz,hf,hn'⟩:=hS;have hlen:es.size=(xV l).length:=by
  rw [hn'];have e1:zao ⟨l.toArray⟩=λj=>(⟨#[(λj=>(l[j]?).getD 0) j]⟩:PySem.Str):=funext λj=>by
   unfold zao;rw [QM]
  rw [e1]
  have:=zfi (sg:=λc=>(⟨#[c]⟩:PySem.Str)) (λa b e=>by cases e;rfl) (λj=>(l[j]?).getD 0) l.length 0 []
  rw [show (kS (λj=>(⟨#[(λj=>(l[j]?).getD 0) j]⟩:PySem.Str)) l.toArray.size 0 [])=_ from this,Qz,zfj l l.length 0 [] (JA _)];rfl
 have le:w.le ⟨w.σ,(s.heap.objs.size,o)::w.tp⟩:=⟨JD _,λp hp=> .tail _ hp⟩;refine hq _ _ {s with heap:=h',toks:=tk} ⟨le,tp _ _ h' (S.fr.keeps hk) (λq hq=>?_) (Qo _),rfl,rfl⟩ ⟨_,o,es,ep,t',rfl,.head _,hex,hd,hf,hlen,?_⟩
 ·rcases Qy.mp hq with e|hq
  ·rw [e]
   exact ⟨ho,Zk S.fr.ns.lt,Heap.get?_none_of_le (Qe S.fr.above (Jq S.fr.ns.lt))⟩
  ·exact ⟨hk _ _ (hn q hq).1,(hn q hq).2⟩
 ·rw [<-hlen]
  exact Qe (Jq hsz) (by decide)
end
end Internal
namespace Internal
open PySem PySem.W PySem.Calls PySem.NumText PyProof.Rows
section
variable {α β:Type}{C:Cfg}{d e:Nat}{Y:aH C d e}{k:Kp}{R:Wd->β->α->Prop}{w:Wd}{s:Shared}{T:List Value->Sem α}{as:List Val}{vs:List Value}
theorem Ref.a0 {o:Option (β×MH)} (r:aA C w as vs) (h:Ref Y k R (T []) w s o):Ref Y k R (T vs) w s (a0 as o):=by
 cases as with
 |nil=>cases r;exact h
 |cons _ _=>exact .none
theorem Ref.a1 {f:Val->Option (β×MH)} (r:aA C w as vs) (h: ∀v rv,aB C w v rv->Ref Y k R (T [rv]) w s (f v)):Ref Y k R (T vs) w s (a1 as f):=by
 cases as with
 |nil=>exact .none
 |cons v as=>obtain ⟨rv,t,rfl,hv,r⟩:=r;exact .a0 (T:=λl=>T (rv::l)) r (h v rv hv)
theorem Ref.a2 {f:Val->Val->Option (β×MH)} (r:aA C w as vs) (h: ∀v rv,aB C w v rv-> ∀v' rv',aB C w v' rv'->Ref Y k R (T [rv,rv']) w s (f v v')):Ref Y k R (T vs) w s (a2 as f):=by
 cases as with
 |nil=>exact .none
 |cons v as=>obtain ⟨rv,t,rfl,hv,r⟩:=r;exact .a1 (T:=λl=>T (rv::l)) r (h v rv hv)
theorem Ref.a3 {f:Val->Val->Val->Option (β×MH)} (r:aA C w as vs) (h: ∀v rv,aB C w v rv-> ∀v' rv',aB C w v' rv'-> ∀u ru,aB C w u ru->Ref Y k R (T [rv,rv',ru]) w s (f v v' u)):Ref Y k R (T vs) w s (a3 as f):=by
 cases as with
 |nil=>exact .none
 |cons v as=>obtain ⟨rv,t,rfl,hv,r⟩:=r;exact .a2 (T:=λl=>T (rv::l)) r (h v rv hv)
end
def zaY (l:List Nat):Nat:=l.foldl (λa c=>a*256+c) 0
theorem jZ (l:List Nat) (c:Nat):zaY (l++ [c])=zaY l*256+c:=by unfold zaY;rw [List.foldl_append];rfl
theorem zdl {a b c c':Nat} (h1:c<=255) (h2:c'<=255) (e:a*256+c=b*256+c'):a=b/\c=c':=by lia
theorem zdm: ∀ (n:Nat) (l l':List Nat),l.length<=n->(∀c∈l,1<=c/\c<=255) ->(∀c∈l',1<=c/\c<=255) ->zaY l=zaY l'->l=l':=by
 have nz: ∀ {r:List Nat}{c:Nat},(∀x∈r++ [c],1<=x/\x<=255) ->zaY (r++ [c])≠0:=λ{r c} h e=>by
  rw [jZ] at e
  have:=(h c (Qi _ (.head _))).1
  lia
 intro n
 induction n with
 |zero=>
  intro l l' hl h h' e;cases QR.mp (Kq.mp hl);rcases JP l' with rfl| ⟨r,c,rfl⟩
  ·rfl
  ·rw [Jv] at*;exact absurd e.symm (nz h')
 |succ n ih=>
  intro l l' hl h h' e;rcases JP l with rfl| ⟨r,c,rfl⟩
  ·rcases JP l' with rfl| ⟨r',c',rfl⟩
   ·rfl
   ·rw [Jv] at*;exact absurd e.symm (nz h')
  ·rcases JP l' with rfl| ⟨r',c',rfl⟩
   ·rw [Jv] at*;exact absurd e (nz h)
   ·rw [Jv] at*
    rw [Jv,jZ,jZ] at*;obtain ⟨e1,e2⟩:=zdl (h c (Qi _ (.head _))).2 (h' c' (Qi _ (.head _))).2 e;rw [e2,ih r r' (by rw [QG] at hl;exact J5 hl) (λx hx=>h x (QT _ hx)) (λx hx=>h' x (QT _ hx)) e1]
theorem rS {x y:Str} (hx:aD x=true) (hy:aD y=true) (e:enc x=enc y):x=y:=by
 have hd: ∀z:Str,aD z=true-> ∀c∈z.cps.toList,1<=c/\c<=255:=by
  intro z hz c hc;unfold aD at hz;simp only [QX,QD,decide_eq_true_eq] at hz;exact hz.1.1.1.1 c hc
 have:=zdm _ x.cps.toList y.cps.toList (Qo _) (hd x hx) (hd y hy) e
 cases x;cases y;exact congrArg Str.mk (Array.toList_inj.mp this)
section
variable {prog:Program}{w:World}{A:Around}{E:Value->Shared->Prop}{s:Shared}
theorem zb7 (d:Addr) (es:List DictEntry) (n:Nat) (hd:(d==sysModules)=false):
  MeetsIn prog w (Builtin.«dict.__len__» ⟨[.ref d],[]⟩) (λ_ R s=>s.heap.get? d=some (dictOf es n)/\R (.ok (.ret (.int es.length s.toks))) {s with toks:=s.toks+1}):=
 .of_wp λA R s ⟨ho,h⟩=>by
  show wpAny _ _ (dictSize d>>=_) _ _ s;unfold dictSize;refine wpAny_bind (wpAny_bind (wpAny_dictEntries ho rfl (wpAny_pure ?_)));show wpAny _ _ (Builtin.Dict.pendingCount d>>=_) _ _ s;exact wpAny_bind (wpAny_pendingCount_other hd (wpAny_ret_mkInt (by simpa using h)))
theorem zez {d:Addr}{es:List DictEntry}{n:Nat}{Q:Value->Shared->Prop} (hd:(d==sysModules)=false) (ho:s.heap.get? d=some (dictOf es n)) (hfit:(es.length:Int)<2 ^ 63)
  (h : Q (.int es.length (s.toks + 1)) { s with toks := s.toks + 1 + 1 }) : wpAny (model prog w) A (call (.builtin "len") [.ref d]) Q E s := by
 refine Calls.call_function_entry kind_len plain_len entry_len (args_len1 _) ?_;unfold Builtin.«len»;refine wpAny_bind (m:=oneArg "len" _) (wpAny_pure ?_);refine wpAny_bind (m:=callSpecial? (.ref d) (Str.ofString "__len__")) (wpAny_callSpecial?_slot (name:=Str.ofString "__len__") (⟨_,ho,rfl⟩ : s.TypeIs (.ref d) "dict") F.slot_dict_len
  (call_meetsIn F.slot_dict_len (⟨_,ho,rfl⟩ : s.TypeIs (.ref d) "dict") F.entry_dict_len (F.args_dict_len_1 _) (zb7 d es n hd) ⟨ho,?_⟩))
 show wpAny _ _ _ _ _ {s with toks:=s.toks+1};refine wpAny_bind (wpAny_holding (wpAny_pure ?_));refine wpAny_bind (wpAny_letGo ?_);show wpAny _ _ (if ((es.length:Nat):Int)<0 then _ else _) _ _ _;rw [if_neg (Zn.mpr (QH _))];show wpAny _ _ (if ((es.length:Nat):Int) ≥ 2 ^ 63 then _ else _) _ _ _;rw [if_neg (Zp.mpr hfit)];exact wpAny_bind (wpAny_mkInt (wpAny_pure ⟨_,rfl,h⟩))
end
section
variable {C:Cfg}{d e:Nat}{Y:aH C d e}{k:Kp}{w:Wd}{H:MH}{s:Shared}{as:List Val}{vs:List Value}
theorem zen (S : St Y k w H s) (r : aA C w as vs) : Ref Y k (VR C) (call (.builtin "len") vs) w s (zgl as H) := by
 refine .a1 (T:=λl => call (.builtin "len") l) r λx v hx => .omap λn e => .val S λQ E q => ?_;have q: ∀t tk,Q (.int n t) {s with toks:=tk}:=λt tk=>q _ tk ⟨t,rfl⟩;have lst : ∀ {b : Addr} {ws : List Value},s.heap.IsList b ws.toArray -> n = ws.length -> n <= lim -> wpAny C.M Y.A (call (.builtin "len") [.ref b]) Q E s := λ{b ws} hL e hl => by
  subst e;exact len_list hL (eI hl) (q _ _)
 cases x with
 |str l=>cases e;obtain ⟨t,rfl,ok⟩:=hx;exact len_str (Zp.mpr (eI ok.2)) (q _ _)
 |tup l=>
  cases e;obtain ⟨t,o,n',ws,rfl,ho,hc,hd,rr,hl⟩:=S.tup hx;refine PyProof.Rows.len_tuple (items:=ws.toArray) ⟨o,ho,hc,n',hd⟩ (by rw [(by rw [Qw,rr.length]:ws.toArray.size=l.length)];exact eI hl) ?_;rw [(by rw [Qw,rr.length]:ws.toArray.size=l.length)];exact q _ _
 |fl l=>cases e;obtain ⟨b,o,n',ws,rfl,h,rr,hl⟩:=hx;exact lst ⟨o,S.kIn _ _ h.1,h.2,n',h.3⟩ rr.length hl
 |ref i=>
  revert e
  refine aT (aX λl hl e=>?_) (aX λp hp e=>?_)
  ·obtain ⟨t,ws,n',rfl,ho,rr,hl⟩:=S.list hx hl
   exact lst ⟨_,ho,rfl,n',rfl⟩ (e.symm.trans rr.length) (e▸hl)
  ·obtain ⟨_,_,b,n',es,rfl,hmod,_,hg,hdr,hl,_⟩:=S.dict hx hp
   exact zez hmod hg (by rw [hdr.entries.1];exact eI hl) (by rw [(hdr.entries.1.trans e)];exact q _ _)
 |setn i=>
  cases e;obtain ⟨_,_,_,_,_,rfl,h⟩:=hx;exact call_len_set (S.tpAt h.1) h.2 h.3 h.4 (by rw [h.5];exact eI h.6) (by rw [h.5];exact q _ _)
 |_=>exact nos e
theorem Sta.kept {h h':Heap} (S:Sta C Y.h₀ Y.L k w H h) (hk: ∀b o,h.get? b=some o->h'.get? b=some o):Sta C Y.h₀ Y.L k w H h':=
 zfO.casesOn S.ledger λall hn _ _ g=>g h' (S.fr.keeps hk) λp hp=>⟨hk _ _ (hn p hp).1,(hn p hp).2⟩
theorem Ref.int {t:Sem Value}{z:Int} (S:St Y k w H s) (h: ∀ (Q:Value->Shared->Prop) (E:Value->Shared->Prop),(∀u h' tk,(∀b o,s.heap.get? b=some o->h'.get? b=some o) ->Q (.int z u) {s with heap:=h',toks:=tk}) ->wpAny C.M Y.A t Q E s):Ref Y k (VR C) t w s (some (.int z,H)):=by
 intro r e;cases e;exact λQ E hq=>h Q E λu h' tk hk=>hq w _ _ ⟨.refl w,S.kept hk,rfl,rfl⟩ ⟨u,rfl⟩
theorem zdF {mvs:List Val}: ∀ {vs:List Value}{ns:List Int},aA C w mvs vs->fG mvs=some ns->IntsAre vs ns:=by
 induction mvs with
 |nil=>intro vs ns h e;cases h;cases e;exact .nil
 |cons m mvs ih=>
  intro vs ns h e;obtain ⟨y,ys,e1,e2,rfl⟩:=fD e;obtain ⟨v,r,rfl,h,h'⟩:=h;refine (h.int? e1).elim λt zq27=>?_;obtain rfl:=zq27;exact .cons y t (ih h' e2)
theorem ze3 {ns:List Int}{z M:Int} (e:zqb ns=some z) (h1:M∈ns) (h2: ∀a∈ns,a<=M):M=z:=by
 have go: ∀ (r:List Int) (a:Int),a<=r.foldl max a/\(∀x∈r,x<=r.foldl max a)/\(r.foldl max a=a\/r.foldl max a∈r):=by
  intro r
  induction r with
  |nil=>intro a;exact ⟨Int.le_refl a,λ_ h=>absurd h QB,.inl rfl⟩
  |cons b r ih=>
   intro a;obtain ⟨q1,q2,q3⟩:=ih (max a b);refine ⟨Jy (Int.le_max_left a b) q1,λx hx=>?_,?_⟩
   ·rcases Qy.mp hx with rfl|hx
    ·exact Jy (Int.le_max_right a _) q1
    ·exact q2 x hx
   ·rcases q3 with q3|q3
    ·rw [Zh,q3]
     by_cases hab:a<=b
     ·rw [Int.max_eq_right hab];exact .inr (.head _)
     ·rw [Int.max_eq_left (by lia)];exact .inl rfl
    ·exact .inr (.tail _ q3)
 cases ns with
 |nil=>exact nos e
 |cons a r=>
  obtain ⟨q1,q2,q3⟩:=go r a;rw [(Qf.inj e:r.foldl max a=z)] at q1 q2 q3;refine Int.le_antisymm ((Qy.mp h1).elim (λh=>h▸q1) (q2 M)) (h2 z ?_);rcases q3 with q|q
  ·rw [q];exact .head _
  ·exact .tail _ q
theorem zem (S : St Y k w H s) (r : aA C w as vs) : Ref Y k (VR C) (call (.builtin "max") vs) w s (zgk as H) := by
 refine .alt (.a2 (T:=λl => call (.builtin "max") l) r λx v hx y u hy => .opt λa ea => .omap λb eb => ?_) (.alt (.a3 (T:=λl => call (.builtin "max") l) r λx v hx y u hy z t hz => .opt λa ea => .opt λb eb => .omap λc ec => ?_) (.a1 (T:=λl => call (.builtin "max") l) r λx v hx => .opt λl hl => .omap λz hz => ?_))
 ·refine (hx.int? ea).elim λ_ zq24=>?_
  obtain rfl:=zq24;obtain ⟨_,rfl⟩:=hy.int? eb;refine .int S λQ E q=>max_two_ints Y.handled λh' tk hk=>?_;by_cases c:b>a
  ·rw [if_pos c] at q ⊢;exact q _ h' tk hk
  ·rw [if_neg c] at q ⊢;exact q _ h' tk hk
 ·refine (hx.int? ea).elim λ_ zq22=>?_
  obtain rfl:=zq22;obtain ⟨_,rfl⟩:=hy.int? eb;obtain ⟨_,rfl⟩:=hz.int? ec;refine .int S λQ E q=>max_three_ints Y.handled λh' tk hk=>?_;by_cases c1:b>a
  ·rw [if_pos c1] at q ⊢
   by_cases c2:c>b
   ·rw [if_pos c2] at q ⊢;exact q _ h' tk hk
   ·rw [if_neg c2] at q ⊢;exact q _ h' tk hk
  ·rw [if_neg c1] at q ⊢
   by_cases c2:c>a
   ·rw [if_pos c2] at q ⊢;exact q _ h' tk hk
   ·rw [if_neg c2] at q ⊢;exact q _ h' tk hk
 ·obtain ⟨ns,e1,e2⟩:=bs hz
  have zq18:=S.list hx hl;obtain ⟨la,ws,n,rfl,hg,rr,hl⟩:=zq18;obtain ⟨all,hn,_,_,g3⟩:=S.ledger;have hne:0<ns.length:=by
   cases ns with
   |nil=>exact nos e2
   |cons _ _=>exact JV _
  intro r' e';cases e';refine λQ E hq=>kso_max S.fr hn ⟨_,hg,rfl,n,rfl⟩ (zdF rr e1) hne Y.handled λh' M t tk F N q1 q2=>?_;rw [ze3 e2 q1 q2];exact hq w _ {s with heap:=h',toks:=tk} ⟨.refl w,g3 h' F N,rfl,rfl⟩ ⟨t,rfl⟩
theorem zel (S : St Y k w H s) (r : aA C w as vs) : Ref Y k (VR C) (call (.builtin "min") vs) w s (zgj as H) := by
 refine .a2 (T:=λl => call (.builtin "min") l) r λx v hx y u hy => .opt λa ea => .omap λb eb => ?_;obtain ⟨_,rfl⟩:=hx.int? ea;obtain ⟨_,rfl⟩:=hy.int? eb;refine .int S λQ E q=>min_two_ints Y.handled λh' tk hk=>?_;by_cases c:b<a
 ·rw [if_pos c] at q ⊢;exact q _ h' tk hk
 ·rw [if_neg c] at q ⊢;exact q _ h' tk hk
theorem eZ {t:List (Nat×String)}{n m:Nat}{x y:String} (h:(n==m)=true) (hx:t.lookup n=some x) (hy:t.lookup m=some y):x=y:=by rw [beq_iff_eq.mp h] at hx;exact Qf.inj (hx.symm.trans hy)
theorem zaf (S : St Y k w H s) (r : aA C w as vs) : Ref Y k (VR C) (call (.type "range") vs) w s (yP as H) := by
 refine .a1 (T:=λl => call (.type "range") l) r λx v hx => .omap λn e => ?_;obtain ⟨t,rfl⟩:=hx.int? e;intro r' e';cases e';obtain ⟨all,hn,_,tp,_⟩:=S.ledger;exact λQ E hq=>call_range_1 (hq ⟨w.σ,_::w.tp⟩ _ {s with heap:=_,toks:=_} ⟨⟨JD _,λp hp=> .tail _ hp⟩,tp _ _ _ (S.fr.push _) (hn.push S.fr _) (Qo _),rfl,rfl⟩ ⟨_,_,_,_,rfl,.head _⟩)
theorem vZ (S : St Y k w H s) (r : aA C w as vs) : Ref Y k (VR C) (call (.type "list") vs) w s (vN as H) := by
 have key : ∀ {mvs : List Val} {ws : List Value} {la : Addr} {o : Obj} {n : Nat},aA C w mvs ws -> mvs.length <= lim -> s.heap.get? la = some o -> (o.cls = .type "list" \/ o.cls = .type "tuple") -> o.data = .seq ws.toArray n -> Ref Y k (VR C) (call (.type "list") [.ref la]) w s (aS H (.list mvs)) := by
  intro mvs ws la o n rr hl ho hc hd r' e' Q E hq;cases e';obtain ⟨all,hn,add,_,_⟩:=S.ledger;have le:w.le ⟨w.σ++ [s.heap.objs.size],w.tp⟩:=⟨Qs _ _,λ_ x=>x⟩;have hsz:ws.toArray.size<=sizeLine:=by rw [Qw,<-rr.length];exact Qe hl aY
  have fin: ∀h' c',(∀b o,s.heap.get? b=some o->h'.get? b=some o) ->h'.get? s.heap.objs.size=some (listOf ws.toArray c') ->Q (.ref s.heap.objs.size) {s with heap:=h'}:=λh' c' hk hD=>
   hq _ _ _ ⟨le,add _ (.list mvs) [_] h' ⟨ws,c',rfl,rr.mono le,hl⟩ (S.fr.keeps hk) (news_pushed S.fr hn hk hD rfl) (cD _) (News.fresh hn λp hp=>Ql.mp hp▸Qo _) (S.four (Qo _)),rfl,rfl⟩ ⟨_,rfl,by rw [<-S.len];exact Qt⟩
  rcases hc with hc|hc
  ·exact call_list_seq (hsz:=hsz) la (.inl rfl) ho hc hd fin
  ·exact call_list_seq (hsz:=hsz) la (.inr rfl) ho hc hd fin
 refine .a1 (T:=λl => call (.type "list") l) r λx v hx => .alt (.opt λl e => ?_) (.alt (.opt λl e => ?_) (.opt λl e => ?_))
 ·cases tup?_s e
  obtain ⟨t,o,n,ws,rfl,ho,hc,hd,rr,hl⟩:=S.tup hx;exact key rr hl ho (.inr hc) hd
 ·cases fl?_s e
  obtain ⟨t,o,n,ws,rfl,q,rr,hl⟩:=hx;exact key rr hl (S.kIn _ _ q.1) (.inl q.2) q.3
 ·obtain ⟨la,ws,n,rfl,ho,rr,hl⟩:=S.list hx e
  exact key rr hl ho (.inl rfl) rfl
theorem tJ (n:Nat):(toString n).toList=Nat.toDigits 10 n:=by
 show (Nat.repr n).toList=_;unfold Nat.repr
 simp
theorem sY (i:Int):(toString i).toList.map Char.toNat=lL i:=by
 unfold lL zim;cases i with
 |ofNat n=>
  show J4 Char.toNat (toString n).toList=_;rw [tJ,show decide (KC n<0)=false from decide_eq_false (Zn.mpr (QH n))];rfl
 |negSucc n=>
  rw [show decide (Int.negSucc n<0)=true from decide_eq_true (Int.negSucc_lt_zero n)];show J4 Char.toNat ("-" ++ toString (n + 1)).toList = _;rw [String.toList_append,QF,tJ];rfl
theorem zac (S : St Y k w H s) (r : aA C w as vs) : Ref Y k (VR C) (call (.type "str") vs) w s (zfU as H) := by
 refine .a1 (T:=λl => call (.type "str") l) r λx v hx => .alt (.opt λi e => .grd λhi => ?_) (.omap λx' e => ?_)
 ·refine (hx.int? e).elim λt zq12=>?_
  obtain rfl:=zq12;have hi:=Qa.mp hi;refine .val S λQ E q=>P.str_of_int ?_ ?_
  ·by_cases h0:i.natAbs=0
   ·rw [h0];decide
   ·have:=(Ko h0).mpr (Qr.mp hi.1)
    exact Qn this (QV _ _)
  ·refine q _ _ ⟨s.toks,?_,λc hc=>?_,Qr.mp hi.2⟩
   ·rw [Str.ofString_eq_toList,sY]
   ·rw [<-sY] at hc
    refine (QC.mp hc).elim λch zq11=>?_;obtain rfl:=zq11.2;exact ch.valid.elim (λh=>Kj h (by decide)) (·.2)
 ·obtain ⟨t,rfl,ok⟩:=hx.str? e
  exact .val S λQ E q=>P.str_of_str (q _ s.toks ⟨t,rfl,ok⟩)
theorem vX (S : St Y k w H s) (r : aA C w as vs) : Ref Y k (VR C) (call (.type "type") vs) w s (zbr as H) := by
 refine .a1 (T:=λl => call (.type "type") l) r λx v hx => .omap λn e => .val S λQ E q => ?_;have fin: ∀ {T:String},dC.lookup n=some T->Q (.type T) s:=λhT=>q _ s.toks ⟨_,rfl,hT⟩;cases x with
 | none => cases e; cases hx; exact call_type_of (Tx:="NoneType") rfl (by decide) (fin rfl)
 | bool b => cases e; cases hx; exact call_type_of (Tx:="bool") rfl (by decide) (fin rfl)
 | int i => cases e; obtain ⟨_,rfl⟩ := hx; exact call_type_of (Tx:="int") rfl (by decide) (fin rfl)
 | str l => cases e; obtain ⟨_,rfl,_⟩ := hx; exact call_type_of (Tx:="str") rfl (by decide) (fin rfl)
 | tup l => cases e; obtain ⟨t,o,n,ws,rfl,ho,hc,_,_,_⟩ := S.tup hx; exact call_type_of (Tx:="tuple") ⟨o,ho,hc⟩ (by decide) (fin rfl)
 |ref i=>
  refine (ms e).elim λl zq9=>?_;have e:=zq9.2;subst e;have zq8:=S.list hx zq9.1;obtain ⟨la,ws,n,rfl,ho,_,_⟩:=zq8;exact call_type_of (Tx:="list") ⟨_,ho,rfl⟩ (by decide) (fin rfl)
 |_=>exact nos e
theorem zah (S : St Y k w H s) (r : aA C w as vs) : Ref Y k (VR C) (call (.type "int") vs) w s (zfW as H) := by
 refine .a1 (T:=λl => call (.type "int") l) r λx v hx => .omap λn e => ?_;obtain ⟨l,e1,e⟩:=bs e;obtain ⟨hc,e⟩:=gs e;obtain ⟨t,rfl,ok⟩:=hx.str? e1;have hc':=Qa.mp (Qa.mp hc).1;have hl:=Qr.mp hc'.2;have hd:AllDigits (⟨l.toArray⟩:Str).cps.toList:=λc hc0=>by
  have:=Qa.mp (QD.mp (Qa.mp hc).2 c hc0)
  exact ⟨Qr.mp this.1,Qr.mp this.2⟩
 cases e;refine .val S λQ E q=>KIN.call_text (intText_digits hd (λh=>by rw [show l= [] from h] at hc';cases hc'.1) (show l.length<=_ by exact Qe hl (QV _ _))) (show l.length<=_ by exact hl) ?_;exact q _ _ ⟨_,rfl⟩
theorem v5 (S : St Y k w H s) (r : aA C w as vs) : Ref Y k (VR C) (call (.type "dict") vs) w s (zbs as H) := by
 refine .a1 (T:=λl => call (.type "dict") l) r λx v hx => .opt λp hp => .grd λhk => ?_;intro r' e';cases e';refine (S.dict hx hp).elim λ_ zq4=>?_;obtain ⟨b,n,es,rfl,hmod,_,hg,hdr,hl,_⟩:=zq4.2;obtain ⟨kvs,D⟩: ∃kvs,DA C w p.2 es kvs:=by
  cases hp2:p.2 with
  |nil=>rw [hp2] at hdr;exact hdr.atom (a:=.i 0) rfl
  |cons q qs=>
   rw [hp2] at hdr hk;have h1:=beq_iff_eq.mp (Qa.mp hk).1;rcases hdr with h| ⟨xs,D⟩
   ·exact h
   ·have e:=D.e
    cases xs with
    |nil=>cases e
    |cons x xs=>rw [show q.1= .tup (x.1.map Atom.val) from (Q6.inj e).1,cP] at h1;cases h1
 obtain ⟨all,hn,add,_,_⟩:=S.ledger;refine λQ E hq=>kt_call_dict (knd:=bB C.prog C.w) hmod (D.dictOf hg) (by rw [<-iU D.e];exact Qe hl aY) λh' hD hs=>?_;obtain ⟨o,es',ep',ho',hex,hd,q1,q2,q3⟩:=hD;have hoe:o=dictOf es'.toList ep':=by
  obtain ⟨oc,od,odata,osl⟩:=o;obtain ⟨x1,x2,x3⟩:=hex;cases x1;cases x2;cases x3;cases hd;rfl
 have hkeep: ∀c x,s.heap.get? c=some x->h'.get? c=some x:=λc x hc=>(hs.2 c (JG (Zi hc))).trans (Heap.get?_push_of_some _ hc);refine hq _ _ {s with heap:=h'} ⟨(⟨Qs _ _,λ_ x=>x⟩:w.le ⟨w.σ++ [s.heap.objs.size],w.tp⟩),add _ (.dict none p.2) [(s.heap.objs.size,dictOf es'.toList ep')] h' ⟨_,_,rfl,λe he=>nos he,dT.mono (⟨Qs _ _,λ_ x=>x⟩:w.le ⟨w.σ++ [s.heap.objs.size],w.tp⟩) (.inl ⟨kvs,q2,q1,D.n,D.e,D.ok,D.r⟩),hl⟩ (S.fr.keeps hkeep) (λq hq=>?_) (cD _) (News.fresh hn λp hp=>Ql.mp hp▸Qo _) (S.four (Qo _)),rfl,rfl⟩ ⟨_,rfl,by rw [<-S.len];exact Qt⟩;rcases Qy.mp hq with e|hq
 ·rw [e]
  exact ⟨by rw [<-hoe];exact ho',Zk S.fr.ns.lt,Heap.get?_none_of_le (Qe S.fr.above (Jq S.fr.ns.lt))⟩
 ·exact ⟨hkeep _ _ (hn q hq).1,(hn q hq).2⟩
theorem zgU {n:Nat}{nm:String} (hb:dC.lookup n=some nm) (S:St Y k w H s) (r:aA C w as vs):Ref Y k (VR C) (call (.type nm) vs) w s (fS n as H):=
 .alt (.grd λh => eZ (t:=dC) h hb (y:="range") rfl ▸ zaf S r) (.alt (.grd λh => eZ (t:=dC) h hb (y:="list") rfl ▸ vZ S r) (.alt (.grd λh => eZ (t:=dC) h hb (y:="str") rfl ▸ zac S r)
 (.alt (.grd λh => eZ (t:=dC) h hb (y:="type") rfl ▸ vX S r) (.alt (.grd λh => eZ (t:=dC) h hb (y:="dict") rfl ▸ v5 S r) (.alt (.grd λh => eZ (t:=dC) h hb (y:="int") rfl ▸ zah S r) (.grd λh => eZ (t:=dC) h hb (y:="set") rfl ▸ .a1 (T:=λl => call (.type "set") l) r λx v hx => zae S hx))))))
end
theorem zax : aD "append" = true /\ enc "append" = nAppend := by decide +kernel
theorem zcm : aD "index" = true /\ enc "index" = nIndex := by decide +kernel
theorem zg4 : aD "pop" = true /\ enc "pop" = nPop := by decide +kernel
theorem zg5 : aD "get" = true /\ enc "get" = nGet := by decide +kernel
theorem wD : aD "isspace" = true /\ enc "isspace" = nIsspace := by decide +kernel
theorem zeB : aD "join" = true /\ enc "join" = nJoin := by decide +kernel
theorem qY : aD "partition" = true /\ enc "partition" = nPartition := by decide +kernel
theorem oF : aD "startswith" = true /\ enc "startswith" = nStartswith := by decide +kernel
theorem zck : aD "strip" = true /\ enc "strip" = nStrip := by decide +kernel
theorem zcl : aD "split" = true /\ enc "split" = nSplit := by decide +kernel
theorem zeC : aD "find" = true /\ enc "find" = nFind := by decide +kernel
theorem vQ {C:Cfg}{w:Wd}{z:Str}{v:Val}{t:Tok} (h:g8 z=some v):aB C w v (.str z t):=by
 obtain ⟨h1,e⟩:=gs h;cases e;exact ⟨t,by rw [Array.toArray_toList],qX h1⟩
theorem zdV {C:Cfg}{w:Wd}: ∀ {zs:List Str}{us:List Val}{l:List (Str×Tok)},zs.mapM g8=some us->l.map (·.1)=zs->aA C w us (strValues l):=by
 intro zs
 induction zs with
 |nil=>
  intro us l h e;cases h;rw [Je.mp e];exact .nil
 |cons z zs ih=>
  intro us l h e;cases l with
  |nil=>cases e
  |cons p l=>
   obtain ⟨e1,e2⟩:=Q6.inj e;rw [Jk] at h;obtain ⟨v,h1,h⟩:=bs h;obtain ⟨vs,h2,h⟩:=bs h;cases h;have e1:p.1=z:=e1;subst e1;exact .cons (vQ h1) (ih h2 e2)
theorem c6 {nm x:Str}{n:Nat} (hn:aD nm=true) (ok:aD x=true/\enc x=n) (h:(enc nm==n)=true):x=nm:=rS ok.1 hn (ok.2.trans (beq_iff_eq.mp h).symm)
theorem nZ (s t:List Nat):Txt.startswith ⟨s.toArray⟩ ⟨t.toArray⟩=t.isPrefixOf s:=by
 unfold Txt.startswith;rw [StrLaws.subAt_eq];rw [show (⟨t.toArray⟩:Str).length=t.length from rfl,show (⟨s.toArray⟩:Str).length=s.length from rfl];simp only [List.drop_zero,JA];rw [QL,QX,List.isPrefixOf_iff_prefix,decide_eq_true_eq,beq_iff_eq]
 constructor
 ·exact λh=>⟨s.drop t.length,by have:=List.take_append_drop t.length s;rw [h.2] at this;exact this⟩
 ·rintro ⟨r,rfl⟩
  simp
inductive JnO (sep:List Nat) (ws:List Value) (t:List Nat) (n:Nat):Prop
 |mk (l:List (Str×Tok)) (e:ws=strValues l) (j:(Str.join ⟨sep.toArray⟩ (l.map (·.1))).cps.toList=t) (s:((l.map (·.1)).map (·.length)).sum<=t.length) (c: ∀c∈t,c<0x110000) (l:l.length=n):JnO sep ws t n
theorem zfd {C:Cfg}{w:Wd}{sep:List Nat} (hs:sOk sep): ∀ {mvs:List Val}{ws:List Value}{t:List Nat},aA C w mvs ws->zcW sep mvs=some t->JnO sep ws t mvs.length:=by
 intro mvs
 induction mvs with
 |nil=>intro ws t r e;cases r;cases e;exact ⟨[],rfl,rfl,Qo _,λ_ h=>absurd h QB,rfl⟩
 |cons m mvs ih=>
  intro ws t r e;obtain ⟨x,e1,e⟩:=bs e;obtain ⟨v,vs,rfl,h,r⟩:=r;obtain ⟨u,rfl,ok⟩:=h.str? e1;cases mvs with
  |nil=>
   cases r;cases e;exact ⟨[(_,u)],rfl,rfl,Qo _,ok.1,rfl⟩
  |cons m2 mvs=>
   obtain ⟨t',ht,rfl⟩:=ms e;obtain ⟨l,rfl,q1,q2,q3,q4⟩:=ih r ht;refine ⟨(⟨x.toArray⟩,u)::l,rfl,?_,?_,?_,congrArg (· +1) q4⟩
   ·cases l with
    |nil=>cases q4
    |cons p l=>
     rw [QJ,QJ,Str.join,<-QJ (f:=λx:Str×Tok=>x.1)]
     ·show (⟨x.toArray++sep.toArray++_⟩:Str).cps.toList=_
      simp [<-q1]
     ·simp
   ·rw [QJ,QJ,List.sum_cons,QG,QG]
    exact Zo (Jh _ _) q2
   ·intro c hc
    rcases Jf.mp hc with hc|hc
    ·exact (Jf.mp hc).elim (ok.1 c) (hs.1 c)
    ·exact q3 c hc
def zW {C:Cfg}{d e:Nat} (Y:aH C d e) (k:Kp) (w:Wd) (vx:Value) (vs:List Val) (h2:MH) (r:Val×MH) (id:String):Prop:=
 ∀w2 s2 ws,w.le w2->St Y k w2 h2 s2->aA C w2 vs ws->yJ Y k (VR C) (call (.builtin id) (vx::ws)) w2 s2 r.1 r.2
def zfN {C:Cfg}{d e:Nat} (Y:aH C d e) (k:Kp) (w:Wd) (s:Shared) (vx:Value) (nm:Str) (vs:List Val) (h2:MH) (r:Val×MH):Prop:=
 ∀ (pl:Sem Bool) (Q:Value×List Value->Shared->Prop) (E:Value->Shared->Prop),(∀id,zW Y k w vx vs h2 r id->Q (.builtin id,[vx]) s) ->wpAny C.M Y.A (getMethod vx nm pl) Q E s
section
variable {C:Cfg}{d e:Nat}{Y:aH C d e}{k:Kp}{w:Wd}{H:MH}{s:Shared}
theorem zW.of {vx:Value}{vs:List Val}{h2:MH}{r:Val×MH}{id:String}{o:Option (Val×MH)} (e:o=some r) (h: ∀w2 s2 ws,w.le w2->St Y k w2 h2 s2->aA C w2 vs ws->Ref Y k (VR C) (call (.builtin id) (vx::ws)) w2 s2 o):zW Y k w vx vs h2 r id:=
 λw2 s2 ws l S2 rr=>h w2 s2 ws l S2 rr r e
theorem sQ {nm:Str} (hn:aD nm=true) {x:List Nat}{u:Tok} (ok:sOk x) {vs:List Val}{h2:MH}{r:Val×MH}:bI x (enc nm) vs h2=some r->zfN Y k w s (.str ⟨x.toArray⟩ u) nm vs h2 r:=by
 refine aT (bE λh e=>?_) (aT (bE λh e=>?_) (aT (bE λh e=>?_) (aT (bE λh e=>?_) (aT (bE λh e=>?_) (aT (bE λh e=>?_) (bE λh e=>?_))))))
 ·cases c6 hn wD h
  refine λpl Q E q => GM.isspace (q "str.isspace" (.of e λw2 s2 ws l S2 rr => .a0 (T:=λl => call (.builtin "str.isspace") (_ :: l)) rr (.val S2 λQ E q => SC.isspace (q _ s2.toks rfl))))
 ·cases c6 hn zeB h
  refine λpl Q E q => GM.join (q "str.join" (.of e λw2 s2 ws l S2 rr => .a1 (T:=λl => call (.builtin "str.join") (_ :: l)) rr λy vy hy => .opt λus hus => .opt λt ht => .grd λhl => .val S2 λQ E q => ?_));obtain ⟨la,ws,n,rfl,hg,rr2,hlim⟩:=S2.list hy hus;obtain ⟨l,rfl,q1,q2,q3,q4⟩:=zfd ok rr2 ht;have hl:=Qa.mp hl;have hl1:=Qr.mp hl.1;have hl2:=Qr.mp hl.2;refine SC.join ⟨_,hg,rfl,n,rfl⟩ rfl ?_ λt' tk=>?_
  ·unfold JoinOk
   rw [JT];unfold Builtin.Str.tooLong;rw [decide_eq_false_iff_not];show ¬_>sizeLine;rw [StrLaws.joinTotal,show (⟨x.toArray⟩:Str).length=x.length from rfl,Qz,q4];have e1:sizeLine=16777216:=sizeLine_eq;have e2:lim=1000000:=rfl;lia
  ·have e1:Txt.join ⟨x.toArray⟩ (l.map (·.1))=⟨t.toArray⟩:=by
    show Builtin.Str.glued _ _=_;rw [StrLaws.glued_eq_join]
    generalize Str.join _ _=z at q1;cases z;exact congrArg Str.mk (Array.toList_inj.mp q1)
   rw [e1];exact q _ tk ⟨t',rfl,q3,hl1⟩
 ·cases c6 hn qY h
  refine λpl Q E q => GM.partition (q "str.partition" (.of e λw2 s2 ws l S2 rr => .a1 (T:=λl => call (.builtin "str.partition") (_ :: l)) rr λy vy hy => .opt λt ht => .grd λhne => .opt λp hp => .grd λhok => ?_));cases hp;obtain ⟨v,rfl,oky⟩:=hy.str? ht;have hok:=Qa.mp hok;have hok':=Qa.mp hok.1;obtain ⟨all,hnn,_,tp,_⟩:=S2.ledger;intro r' e';cases e';have hlen:((⟨t.toArray⟩:Str).length==0)=false:=by
   cases t with
   |nil=>cases hne
   |cons _ _=>rfl
  refine λQ E hq=>partitionN S2.fr hnn hlen (λta tb tc h' tk F N=>?_) (Qe ok.2 aY);have hv: ∀ (w:Wd) (z:Str) (tz:Tok),cL z.cps.toList=true->aB C w (.str z.cps.toList) (.str z tz):=λw z tz hz=>⟨tz,rfl,qX hz⟩;exact hq ⟨w2.σ,_::w2.tp⟩ _ {s2 with heap:=h',toks:=tk} ⟨⟨JD _,λ_ x=> .tail _ x⟩,tp _ _ h' F N (Qo _),rfl,rfl⟩ ⟨_,_,_,[_,_,_],rfl,⟨.inl (.head _),rfl,rfl⟩,.cons (hv _ _ ta hok'.1) (.cons (hv _ _ tb hok'.2) (.cons (hv _ _ tc hok.2) .nil)),(by decide:3<=lim)⟩
 ·cases c6 hn oF h
  refine λpl Q E q => GM.startswith (q "str.startswith" (.of e λw2 s2 ws l S2 rr => .a1 (T:=λl => call (.builtin "str.startswith") (_ :: l)) rr λy vy hy => .omap λt ht => .val S2 λQ E q => ?_));obtain ⟨v,rfl,oky⟩:=hy.str? ht;refine SC.startswith ?_;rw [nZ];exact q _ s2.toks rfl
 ·cases c6 hn zck h
  refine λpl Q E q => GM.strip (q "str.strip" (.of e λw2 s2 ws l S2 rr => .alt (.a0 (T:=λl => call (.builtin "str.strip") (_ :: l)) rr (.omap λv hv => .val S2 λQ E q => SC.strip (λt' tk => q _ tk (vQ hv)) (Qe ok.2 aY)))
   (.a1 (T:=λl => call (.builtin "str.strip") (_ :: l)) rr λy vy hy => .opt λt ht => .omap λv hv => .val S2 λQ E q => ?_)))
  obtain ⟨v,rfl,oky⟩:=hy.str? ht;exact SC.stripChars (λt' tk=>q _ tk (vQ hv)) (Qe ok.2 aY)
 ·cases c6 hn zcl h
  refine λpl Q E q => GM.split (q "str.split" (.of e λw2 s2 ws l S2 rr => .a0 (T:=λl => call (.builtin "str.split") (_ :: l)) rr (.opt λus hus => .grd λhl => ?_)));obtain ⟨all,hnn,add,tp,_⟩:=S2.ledger;intro r' e';cases e';intro Q E hq;refine splitN0 S2.fr hnn (λl h' tk hl' F N=>?_) (Qe (JU ok.2 2) (by decide+kernel:lim+2<=sizeLine));have le:w2.le ⟨w2.σ++ [s2.heap.objs.size],w2.tp⟩:=⟨Qs _ _,λ_ x=>x⟩;exact hq ⟨w2.σ++ [s2.heap.objs.size],w2.tp⟩ _ {s2 with heap:=h',toks:=tk} ⟨le,add _ (.list us) [_] h' ⟨strValues l,0,rfl,zdV hus hl',Qr.mp hl⟩ F N (cD _) (News.fresh hnn λp hp=>Ql.mp hp▸Qo _) (S2.four (Qo _)),rfl,rfl⟩ ⟨_,rfl,by rw [<-S2.len];exact Qt⟩
 ·cases c6 hn zeC h
  suffices hm : zW Y k w (.str ⟨x.toArray⟩ u) vs h2 r "str.find" from by
   intro pl Q E q;have q:=q _ hm;exact @GM.find _ _ _ _ _ _ _ _ q
  refine .of e λw2 s2 ws l S2 rr=>?_;refine Ref.a2 (T:=λl => call (.builtin "str.find") (.str ⟨x.toArray⟩ u :: l)) rr λy vy hy z vz hz => ?_;refine Ref.opt λt ht=>Ref.omap λi hi=>?_;obtain ⟨v,rfl,oky⟩:=hy.str? ht;obtain ⟨u2,rfl⟩:=hz.int? hi;refine Ref.val S2 λQ E q=>?_;refine call_gives F.slot_str_find (typeIs_str _ _ _) F.entry_str_find (F.args_str_find_3 _ _ _) (gives_str_find_from _ _ i _ _ _) ?_;have q:=λi tk=>q (.int i s2.toks) tk;unfold zge at q
  revert q
  show (∀i tk,_->_) ->Made.post (.int (match Builtin.Str.occurrences ⟨x.toArray⟩ ⟨t.toArray⟩ (fromIndex x.length i) x.length 1 with|k::_=>(k:Int)| []=> -1)) Q s2;cases Builtin.Str.occurrences ⟨x.toArray⟩ ⟨t.toArray⟩ (fromIndex x.length i) x.length 1 with
  |nil=>exact λq=>q (-1) _ ⟨_,rfl⟩
  |cons k _=>exact λq=>q (k:Int) _ ⟨_,rfl⟩
theorem zcU {mvs:List Val}: ∀ {ws:List Value}{v:Val},aA C w mvs ws->mvs.getLast?=some v-> ∃p y,kl_last ws=some (p,y)/\aA C w mvs.dropLast p/\aB C w v y:=by
 intro ws v r e;have hne:mvs≠ []:=λq=>by rw [q] at e;cases e
 have hl:kl_last ws≠none:=λq=>by
  rw [kl_last_none q] at r;cases mvs with
  |nil=>exact hne rfl
  |cons _ _=>obtain ⟨_,_,e,_,_⟩:=r;cases e
 obtain ⟨⟨p,y⟩,hpy⟩:=Option.ne_none_iff_exists'.mp hl;refine ⟨p,y,hpy,?_⟩;have hm:mvs.dropLast++ [v]=mvs:=by
  have h1:=List.dropLast_concat_getLast hne;rwa [show mvs.getLast hne=v from Qf.inj ((List.getLast?_eq_getLast hne).symm.trans e)] at h1
 rw [<-hm,kl_last_spec hpy] at r
 clear hm hpy hl e hne
 generalize mvs.dropLast=q at r ⊢
 induction q generalizing p with
 |nil=>
  cases p with
  |nil=>obtain ⟨_,_,e,h,_⟩:=r;cases e;exact ⟨.nil,h⟩
  |cons a p=>have:=r.length;simp at this
 |cons b q ih=>
  cases p with
  |nil=>have:=r.length;simp at this
  |cons a p=>
   obtain ⟨_,_,e,h,r⟩:=r;cases e;obtain ⟨h1,h2⟩:=ih p r;exact ⟨.cons h h1,h2⟩
inductive zgs {C:Cfg}{d e:Nat} (Y:aH C d e) (k:Kp) (w:Wd) (H:MH) (s:Shared) (i:Nat) (la:Addr) (mvs:List Val):Prop
 |mk (ws:List Value) (n:Nat) (pre post:Led) (r:aA C w mvs ws) (l:mvs.length<=lim) (hn:News Y.h₀ Y.L s.heap (pre++(la,listOf ws.toArray n)::post))
   (u: ∀ws' n',Upd la (listOf ws.toArray n) (listOf ws' n') (pre++(la,listOf ws.toArray n)::post) (pre++(la,listOf ws' n')::post))
   (g: ∀mvs' ws' n' h',aA C w mvs' ws'->mvs'.length<=lim->Fr Y.h₀ Y.L h' k.m->News Y.h₀ Y.L h' (pre++(la,listOf ws'.toArray n')::post) ->Sta C Y.h₀ Y.L k w (H.set i (.list mvs')) h'):zgs Y k w H s i la mvs
theorem Sta.lstAt (S:St Y k w H s) {i:Nat}{la:Addr}{mvs:List Val} (ha:w.σ[i]?=some la) (hm:H[i]?.bind MObj.list?=some mvs):zgs Y k w H s i la mvs:=by
 obtain ⟨o,hi,h2⟩:=bs hm;cases list?_s h2;obtain ⟨pre,en,post,⟨ws,n,rfl,r,l⟩,hn,hd,g⟩:=S.at ha hi;exact ⟨ws,n,pre,post,r,l,hn,λws' n'=>iJ hd,λmvs' ws' n' h' r' l' F N=>g (.list mvs') [(la,listOf ws'.toArray n')] h' rfl ⟨ws',n',rfl,r',l'⟩ F N⟩
theorem lY {i : Nat} {la : Addr} {mvs : List Val} {y : Val} {yv : Value} (S : St Y k w H s) (ha : w.σ[i]? = some la) (hm : H[i]?.bind MObj.list? = some mvs) (hy : aB C w y yv) (hlen : mvs.length < lim) : Ref Y k (VR C) (call (.builtin "list.append") [.ref la,yv]) w s (some (.none,H.set i (.list (mvs ++ [y])))) := by
 obtain ⟨ws,n,pre,post,r,l,hn,u,g⟩:=S.lstAt ha hm;intro r' e';cases e';refine λQ E hq=>append_K S.fr hn (u (ws.toArray.push yv) (n+1)) (λh' F' N'=>hq w _ {s with heap:=h'} ⟨.refl w,g (mvs++ [y]) (ws++ [yv]) (n+1) h' (aA.append (.one hy) r) (by rw [QG];exact hlen) F' (by rw [List.push_toArray] at N';exact N'),rfl,rfl⟩ rfl) ?_;rw [Qw,<-r.length];exact Qe l aY
theorem zby {mvs:List Val}{ss:List (List Nat)}: ∀ {ws:List Value},aA C w mvs ws->mvs.mapM Val.str?=some ss->ws.length=ss.length/\∀ (j:Nat) (v:Value) (t:List Nat),ws[j]?=some v->ss[j]?=some t-> ∃u,v= .str ⟨t.toArray⟩ u:=by
 induction mvs generalizing ss with
 |nil=>intro ws r e;cases e;cases r;exact ⟨rfl,λj v t h=>nomatch h⟩
 |cons m mvs ih=>
  intro ws r e;rw [Jk] at e;obtain ⟨x,e1,e⟩:=bs e;refine (bs e).elim λxs zq28=>?_;have e:=zq28.2;cases e;obtain ⟨v,vs,rfl,h,r⟩:=r;refine (h.str? e1).elim λu zq27=>?_;obtain rfl:=zq27.1;have zq26:=ih r zq28.1;refine ⟨congrArg (· +1) zq26.1,λj v t a b=>?_⟩;cases j with
  |zero=>cases a;cases b;exact ⟨u,rfl⟩
  |succ j=>exact zq26.2 j v t a b
theorem zai {i : Nat} {la : Addr} {mvs : List Val} {y : Val} {yv : Value} {t : List Nat} {ss : List (List Nat)} (S : St Y k w H s) (ha : w.σ[i]? = some la) (hm : H[i]?.bind MObj.list? = some mvs) (hy : aB C w y yv) (ht : y.str? = some t) (hs : mvs.mapM Val.str? = some ss) (hc : ss.contains t = true) : Ref Y k (VR C) (call (.builtin "list.index") [.ref la,yv]) w s (some (.int (ss.idxOf t : Nat),H)) := by
 refine (hy.str? ht).elim λu zq25=>?_;obtain rfl:=zq25.1;obtain ⟨la',ws,n,e0,ho,rr,hlim⟩:=S.list (x:=.ref i) ⟨la,rfl,ha⟩ hm;cases e0;obtain ⟨h1,h2⟩:=zby rr hs;have hj:ss.idxOf t<ss.length:=List.idxOf_lt_length_iff.mpr (Q7.mp hc);have hl:ws.length<=lim:=rr.length▸hlim;have at': ∀ (j:Nat) (h:j<ws.length),∃t' u',ss[j]?=some t'/\ws[j]= .str ⟨t'.toArray⟩ u':=λj h=>by
  refine (h2 j ws[j] _ (Qh h) (Qh (l:=ss) (i:=j) (h1▸h))).elim λu' zq22=>?_;exact ⟨_,u',(Qh (l:=ss) (i:=j) (h1▸h)),zq22⟩
 refine .val S λQ E q=>call_meets PySem.F.slot_list_index ⟨_,ho,rfl⟩ PySem.F.entry_list_index (PySem.F.args_list_index_2 _ _) (MeetsSeq.list_index la ws.toArray n (.str ⟨t.toArray⟩ u) (isStrOf ⟨t.toArray⟩) (λy hy=>?_) (ss.idxOf t) (by rw [Qw,h1];exact hj) ?_ ?_ (λm hm' hlt=>?_)) ⟨ho,q _ _ ⟨_,rfl⟩⟩
 ·obtain ⟨j,hj',rfl⟩:=List.mem_iff_getElem.mp (List.mem_toArray.mp hy)
  refine (at' j hj').elim λt' zq18=>zq18.elim λu' zq19=>?_;rw [zq19.2];exact eqGives_str _ _ _ _
 ·exact J6.mpr (Qn hj (h1▸Qe hl (by decide)))
 ·refine (at' (ss.idxOf t) (h1▸hj)).elim λt' zq16=>zq16.elim λu' zq17=>?_
  have e1:=zq17.1;rw [Qh hj,List.getElem_idxOf hj] at e1;cases e1;show isStrOf _ ws[ss.idxOf t]=true;rw [zq17.2];exact beq_self_eq_true _
 ·have hm2:m<ws.length:=by rw [Qw] at hm';exact hm'
  refine (at' m hm2).elim λt' zq14=>zq14.elim λu' zq15=>?_;show isStrOf _ ws[m]=false;rw [zq15.2];refine beq_false_of_ne λq=>?_;have q:t'.toArray=t.toArray:=congrArg Str.cps q;have q:t'=t:=by have:=congrArg Array.toList q;rwa [List.toList_toArray,List.toList_toArray] at this
  obtain ⟨l1,e2⟩:=Qk.mp zq15.1;have hn:=List.not_of_lt_findIdx (p:=(· ==t)) (xs:=ss) (show m<ss.findIdx (· ==t) from hlt);rw [e2,q] at hn;exact absurd (beq_self_eq_true t) (by simp at hn)
theorem qQ {nm:Str} (hn:aD nm=true) (S:St Y k w H s) {i:Nat}{la:Addr} (ha:w.σ[i]?=some la) {mvs0 mvs:List Val}{vs:List Val}{h2:MH}{r:Val×MH} (hm0:H[i]?.bind MObj.list?=some mvs0) (hm:h2[i]?.bind MObj.list?=some mvs):dN i mvs (enc nm) vs h2=some r->zfN Y k w s (.ref la) nm vs h2 r:=by
 have zq12:=S.list (x:=.ref i) ⟨la,rfl,ha⟩ hm0;obtain ⟨_,ws0,n0,e0,ho,_,_⟩:=zq12;cases e0;refine aT (bE λh e=>?_) (aT (bE λh e=>?_) (bE λh e=>?_))
 ·cases c6 hn zax h
  exact λpl Q E q => getMethod_list_append ho rfl rfl (q "list.append" (.of e λw2 s2 ws l S2 rr => .a1 (T:=λl => call (.builtin "list.append") (_ :: l)) rr λy vy hy => .grd λhl => lY S2 (l.get ha) hm hy (Qr.mp hl)))
 ·cases c6 hn zg4 h
  refine λpl Q E q => getMethod_builtin ⟨_,ho,rfl⟩ PySem.F.plainAttrs_list PySem.F.slot_list_pop PySem.F.type_list_pop (λa e => by cases e; exact ⟨_,ho,rfl⟩) (q "list.pop" (.of e λw2 s2 ws l S2 rr => .a0 (T:=λl => call (.builtin "list.pop") (_ :: l)) rr (.omap λv hv => ?_)));obtain ⟨ws,n,pre,post,r,l',hn,u,g⟩:=S2.lstAt (l.get ha) hm;refine (zcU r hv).elim λp zq9=>zq9.elim λy zq10=>?_;intro r' e';cases e';exact λQ E hq=>kl_pop S2.fr hn zq10.1 (u p.toArray (n+1)) (by rw [List.toList_toArray,<-r.length];exact Qe l' aY) λh' F' N'=>hq w2 y {s2 with heap:=h'} ⟨.refl w2,g mvs.dropLast p (n+1) h' zq10.2.1 (Qe (by rw [List.length_dropLast];exact Kx _ _) l') F' N',rfl,rfl⟩ zq10.2.2
 ·cases c6 hn zcm h
  exact λpl Q E q => getMethod_builtin ⟨_,ho,rfl⟩ PySem.F.plainAttrs_list PySem.F.slot_list_index PySem.F.type_list_index (λa e => by cases e; exact ⟨_,ho,rfl⟩) (q "list.index" (.of e λw2 s2 ws l S2 rr => .a1 (T:=λl => call (.builtin "list.index") (_ :: l)) rr λy vy hy => .opt λt ht => .opt λss hss => .grd λhc => zai S2 (l.get ha) hm hy ht hss hc))
theorem qS {nm:Str} (hn:aD nm=true) (S:St Y k w H s) {i:Nat}{la:Addr} (ha:w.σ[i]?=some la) {p0 p:Option Nat×List (Val×Val)}{vs:List Val}{h2:MH}{r:Val×MH} (hm0:H[i]?.bind MObj.dict?=some p0) (hm:h2[i]?.bind MObj.dict?=some p):dO p.2 (enc nm) vs h2=some r->zfN Y k w s (.ref la) nm vs h2 r:=by
 obtain ⟨_,n0,es0,e0,_,_,hg,_,_,_⟩:=S.dictI ⟨la,rfl,ha⟩ hm0;cases e0;refine bE λh e=>?_;cases c6 hn zg5 h;refine λpl Q E q => getMethod_builtin ⟨_,hg,rfl⟩ PySem.F.plainAttrs_dict Jw PySem.F.type_dict_get (λa e => by cases e; exact ⟨_,hg,rfl⟩) (q "dict.get" (.of e λw2 s2 ws l S2 rr => ?_));have key : ∀ {x dv : Val} {kv dvv : Value} {args : List Value},aB C w2 x kv -> aB C w2 dv dvv -> aE p.2 x = true -> ((args = [.ref la,kv] /\ dvv = .none) \/ args = [.ref la,kv,dvv]) -> Ref Y k (VR C) (call (.builtin "dict.get") args) w2 s2 (some ((bA p.2 x).getD dv,h2)) := by
  intro x dv kv dvv args hk hdv hf hargs;refine .val S2 λQ E q=>?_;obtain ⟨_,n2,es,e2,hmod,_,hg2,hdr,_,_⟩:=S2.dictI ⟨la,rfl,l.get ha⟩ hm;cases e2;have fin: ∀ {o:Option Value},yG C w2 (bA p.2 x) o-> ∀tk,Q (o.getD dvv) {s2 with toks:=tk}:=λh tk=>by
   rcases h with ⟨q1,rfl⟩| ⟨mv,rv,q1,rfl,q3⟩
   ·rw [q1] at q;exact q _ tk hdv
   ·rw [q1] at q;exact q _ tk q3
  rcases gB (Qa.mp hf).1 with ⟨ka,rfl⟩| ⟨ka,rfl⟩
  ·obtain ⟨kvs,D⟩:=hdr.atom hf
   have hD:=D.dictOf hg2;rcases hargs with ⟨rfl,rfl⟩|rfl
   ·exact call_meetsIn Jw hD.typeIs JH (ZF _ _) (meets_dict_get _ la hk.atom.1 hmod) ⟨_,hD.mapOf,fin (D.get ka) _⟩
   ·exact call_meetsIn Jw hD.typeIs JH (ZG _ _ _) (meets_dict_get_default _ la hk.atom.1 hmod dvv) ⟨_,hD.mapOf,fin (D.get ka) _⟩
  ·obtain ⟨xs,D⟩:=hdr.tups hf
   have hD:=D.dictOf S2 hg2;obtain ⟨t,rfl,ht⟩:=S2.tupKey hk;rcases hargs with ⟨rfl,rfl⟩|rfl
   ·exact call_meetsIn Jw hD.typeIs JH (ZF _ _) (meetsH_dict_get _ la t hmod) ⟨Y.room,ka,xs,ht,hD,fin (D.get ka) _⟩
   ·exact call_meetsIn Jw hD.typeIs JH (ZG _ _ _) (meetsH_dict_get_default _ la t hmod dvv) ⟨Y.room,ka,xs,ht,hD,fin (D.get ka) _⟩
 exact .alt (.a1 (T:=λl => call (.builtin "dict.get") (_ :: l)) rr λx kv hk => .grd λhf => key hk rfl hf (.inl ⟨rfl,rfl⟩)) (.a2 (T:=λl => call (.builtin "dict.get") (_ :: l)) rr λx kv hk dv dvv hd => .grd λhf => key hk hd hf (.inr rfl))
theorem zbS {nm:Str} (hn:aD nm=true) (S:St Y k w H s) {x:Val}{vx:Value} (hx:aB C w x vx) {vs:List Val}{h2:MH}{r:Val×MH}:cX x (enc nm) vs H h2=some r->zfN Y k w s vx nm vs h2 r:=by
 refine aT (aF λl e1 e=>?_) (aF λi e1=>aT (aF λm0 e2=>aF λm e3 e=>?_) (aF λm0 e2=>aF λm e3 e=>?_))
 ·obtain ⟨u,rfl,ok⟩:=hx.str? e1
  exact sQ hn ok e
 ·cases ref?_s e1
  obtain ⟨la,rfl,ha⟩:=hx;exact qQ hn S ha e2 e3 e
 ·cases ref?_s e1
  obtain ⟨la,rfl,ha⟩:=hx;exact qS hn S ha e2 e3 e
end
end Internal
namespace Internal
open PySem PySem.W PySem.Calls PyProof.Rows
inductive nW (C:Cfg) (id c:Nat):Prop
 |mk (a ca dx:Addr) (n:Nat) (k1:C.ad.lookup id=some a) (k2:C.ad.lookup c=some ca) (k3:C.K.lookup a=some ⟨.ref ca,some dx,.plain,#[]⟩) (k4:C.K.lookup dx=some (dictOf [] n)):nW C id c
inductive dS (C:Cfg) (c n:Nat) (P:Addr->Str->Prop):Prop
 |mk (ca:Addr) (name:Str) (k1:C.ad.lookup c=some ca) (k2:aD name=true) (k3:enc name=n) (k4:plainGet C.K ca name=true) (k5:hasDictIn C.K ca=true) (p:P ca name):dS C c n P
inductive zdK (C:Cfg) (v:Val) (ca:Addr) (name:Str):Prop
 |mk (av:Value) (k6:findIn C.K (.ref ca) name=some (some av)) (k7: ∀w,aB C w v av)
  (k8 : qB C.P v = true -> isFn C.K av = true /\ specialIn C.K (.ref ca) "__getattribute__" = some (some (.builtin "type.__getattribute__")) /\ ∃ mc,typeIn C.K (.ref ca) = some mc /\ readsIn C.K ca mc = true /\ findCls C.K (.ref ca) mc name = some (.val av)) (k9 : qB C.P v = false -> specialIn C.K av "__get__" = some none /\ handedIn av = true /\ copiedNames.contains name = false) : zdK C v ca name
inductive ziR (C:Cfg) (ca:Addr) (name:Str):Prop
 |mk (attr:Option Value) (k6:findIn C.K (.ref ca) name=some attr) (k7:noGet C.K attr=true)
  (k8 : takerIn C.K ca name = some none) (k9 : findIn C.K (.ref ca) "__setattr__" = some (some (.builtin "object.__setattr__"))) (k10 : plainOver C.K ca = true) : ziR C ca name
inductive nX (C:Cfg) (c i:Nat):Prop
 | mk (ca fI : Addr) (k1 : C.ad.lookup c = some ca) (k2 : C.ad.lookup i = some fI) (k3 : makesIn C.K ca = true) (k4 : findIn C.K (.ref ca) "__init__" = some (some (.ref fI))) (k5 : isFn C.K (.ref fI) = true) (k6 : keepIn C.K (.ref ca) = true) : nX C c i
def jN (C:Cfg) (f:Fn) (fd:FuncData) (xs:List Str):Prop:=
 (f.dfl= []/\∀vs:List Value,vs.length=f.np->bindArgs fd ⟨vs,[]⟩=pure (xs.zip vs))\/
 (f.dfl≠ []/\∃dvs,(∀w,aA C w f.dfl dvs)/\∀ (S:Setting) (vs:List Value),vs.length<=f.np->f.np-vs.length<=dvs.length->peek C.K S (bindArgs fd ⟨vs,[]⟩)=some (xs.zip (vs++dvs.drop (dvs.length-(f.np-vs.length)))))
inductive sF (C:Cfg) (gl:List (Str×Val)) (f:Fn):Prop
 |mk (a:Addr) (name qual:Str) (params:Arguments) (body:List Stmt) (scope:Scope) (dV kV doc pm:Value) (an:Option Addr) (cdv ct oc:Value) (od:Option Addr) (osl:Array (Option Value)) (k1:C.ad.lookup f.addr=some a) (k2:C.K.lookup a=some ⟨oc,od,.func (fnOf name qual params body scope dV kV doc pm an cdv ct),osl⟩)
  (k3:codeIn C.K cdv qual=true) (k4:mZ gl params body scope=some (f.np,f.ns,f.body)) (k6:keepIn C.K (.ref a)=true)
  (k7:jN C f (fnOf name qual params body scope dV kV doc pm an cdv ct) (params.args.map (·.arg)))
  (k8:(params.args.map (·.arg)).Nodup) (k10:((cellsFrom 0 scope.names []).map (·.1)).Nodup):sF C gl f
def zV (C : Cfg) : Prop := ∀ {d e : Nat} {Y : aH C d e} {k : Kp} {w : Wd} {H : MH} {s : Shared} {as : List Val} {vs : List Value},jM C -> St Y k w H s -> aA C w as vs -> Ref Y k (VR C) (call (.builtin "sorted") vs) w s (m4 as H)
structure cA (C:Cfg) (gl:List (Str×Val)):Prop where
 glob:zdI C gl
 fns: ∀a f,C.P.fnAt a=some f->f.addr=a/\sF C gl f
 insts: ∀id c,C.P.instAt id=some c->nW C id c
 attrs: ∀c n v,C.P.clsAttr c n=some v->dS C c n (zdK C v)
 flds: ∀c n,C.P.hasFld c n=true->dS C c n (ziR C)
 inits: ∀c k i,C.P.clsAt c=some k->k.init=some i->nX C c i
 cfg:jM C
 srt:zV C
section
variable {C:Cfg}{d e:Nat}{Y:aH C d e}{k:Kp}{w:Wd}{H:MH}{s:Shared}{cx:CC}{env:Env}{mE:Str->Option Value}{fr:Frame}{gl:List (Str×Val)}
theorem dS.use {c n:Nat}{P:Addr->Str->Prop} (h:dS C c n P) {nm:Str}{ca:Addr} (hn:aD nm=true) (e:n=enc nm) (hc:C.ad.lookup c=some ca):plainGet C.K ca nm=true/\hasDictIn C.K ca=true/\P ca nm:=by
 obtain ⟨ca',name,k1,k2,k3,k4,k5,p⟩:=h;cases Qf.inj (k1.symm.trans hc);cases rS k2 hn (k3.trans e);exact ⟨k4,k5,p⟩
theorem za8: ∀p∈jF,handedIn (.builtin p.2)=true:=by decide+kernel
theorem zaW {v:Val}{rv:Value} (h:aB C w v rv):handedIn rv=true:=by
 cases v with
 |none=>cases h;rfl
 |bool b=>cases h;rfl
 |int i=>obtain ⟨t,rfl⟩:=h;rfl
 |str i=>obtain ⟨t,rfl,_⟩:=h;rfl
 |tup i=>obtain ⟨_,_,_,_,rfl,_,_,_⟩:=h;rfl
 |ref i=>obtain ⟨_,rfl,_⟩:=h;rfl
 |top i=>obtain ⟨_,rfl,_⟩:=h;rfl
 |ty i=>obtain ⟨_,rfl,_⟩:=h;rfl
 |bi i=>obtain ⟨n,rfl,hb⟩:=h;exact za8 _ (aU hb)
 |rng i=>obtain ⟨_,_,_,_,rfl,_⟩:=h;rfl
 |fl i=>obtain ⟨_,_,_,_,rfl,_,_,_⟩:=h;rfl
 |setn i=>obtain ⟨_,_,_,_,_,rfl,_⟩:=h;rfl
theorem qA {x nm:Str}{t:Tok} (hx:aD x=true) (hn:aD nm=true):(QW x t).isStr nm=(enc x==enc nm):=by
 show (x==nm)=_;rw [QL,beq_iff_eq,beq_iff_eq];exact ⟨λe=>e▸rfl,rS hx hn⟩
inductive ziT (C:Cfg) (w:Wd) (m:Option Val) (o:Option (Option Value)):Prop
 |none (h1:m= .none) (h2:o=some .none):ziT C w m o
 |some (v:Val) (rv:Value) (h1:m=some v) (h2:o=some (some rv)) (r:aB C w v rv):ziT C w m o
theorem f5.get {nm:Str} (hn:aD nm=true): ∀ {fs:List (Nat×Val)}{es:List DictEntry},f5 C w fs es->es.any (·.refKey)=false/\((cH fs (enc nm)=none/\es.find? (·.key.isStr nm)=none)\/∃v e,cH fs (enc nm)=some v/\es.find? (·.key.isStr nm)=some e/\aB C w v e.val):=by
 intro fs
 induction fs with
 |nil=>intro es h;rw [show es= [] from h];exact ⟨rfl,.inl ⟨rfl,rfl⟩⟩
 |cons p fs ih=>
  intro es h;obtain ⟨x,t,hsh,v,r,rfl,h1,h2,h3,h4⟩:=h;obtain ⟨i1,i2⟩:=ih h4;refine ⟨i1,?_⟩;unfold cH at i2 ⊢;rw [Jg,Jg]
  dsimp only
  rw [qA h1 hn,h2];cases hq:(p.1==enc nm) with
  |true=>exact .inr ⟨_,_,rfl,rfl,h3⟩
  |false=>exact i2
theorem f5.getL {nm:Str} (hn:aD nm=true) {fs:List (Nat×Val)}{es:List DictEntry} (r:f5 C w fs es):ziT C w (cH fs (enc nm)) (getL nm es):=by
 obtain ⟨hr,h⟩:=r.get hn;unfold W.getL;rcases h with ⟨h1,h2⟩| ⟨v,e,h1,h2,h3⟩
 ·rw [h2]
  exact .none h1 (by dsimp only;rw [hr];rfl)
 ·rw [h2]
  exact .some v e.val h1 rfl h3
theorem f5.put {nm:Str} (hn:aD nm=true) {hsh:Int}{t:Tok}{v:Val}{rv:Value} (hv:aB C w v rv): ∀ {fs:List (Nat×Val)}{es:List DictEntry},f5 C w fs es->f5 C w (kU fs (enc nm) v) (putL nm hsh (.str nm t) rv es):=by
 intro fs
 induction fs with
 |nil=>intro es h;rw [show es= [] from h];exact ⟨nm,t,hsh,rv,[],rfl,hn,rfl,hv,rfl⟩
 |cons p fs ih=>
  intro es h;obtain ⟨x,t',hsh',v',r,rfl,h1,h2,h3,h4⟩:=h;show f5 C w (bif p.1==enc nm then _ else _) _;unfold putL;rw [qA h1 hn,h2];cases hq:(p.1==enc nm) with
  |true=>
   rw [if_pos rfl];exact ⟨x,t',hsh',rv,r,rfl,h1,h2.trans (beq_iff_eq.mp hq),hv,h4⟩
  |false=>
   rw [if_neg QZ];exact ⟨x,t',hsh',v',_,rfl,h1,h2,h3,(ih h4)⟩
theorem f5.length: ∀ {fs:List (Nat×Val)}{es:List DictEntry},f5 C w fs es->es.length=fs.length:=by
 intro fs
 induction fs with
 |nil=>intro es h;rw [show es= [] from h];rfl
 |cons p fs ih=>intro es h;obtain ⟨_,_,_,_,r,rfl,_,_,_,h4⟩:=h;exact congrArg (· +1) (ih h4)
theorem zdc (fs:List (Nat×Val)) (n:Nat) (v:Val):(kU fs n v).length<=fs.length+1:=by
 induction fs with
 |nil=>exact Qo _
 |cons p fs ih=>
  show (bif p.1==n then _ else _:List (Nat×Val)).length<=_;cases (p.1==n) with
  |true=>exact Zu _
  |false=>exact J7 ih
inductive zgt {C:Cfg}{d e:Nat} (Y:aH C d e) (k:Kp) (w:Wd) (H:MH) (s:Shared) (i:Nat) (v:Value) (q:Nat×List (Nat×Val)):Prop
 |mk (a ca dx:Addr) (es:List DictEntry) (n:Nat) (pre post:Led) (e:v= .ref a) (hc:C.ad.lookup q.1=some ca) (f:f5 C w q.2 es) (l:q.2.length<=500) (hn:News Y.h₀ Y.L s.heap ((pre++ [(a,instObj ca dx)])++(dx,dictOf es n)::post)) (I:InstAt s.heap a (instObj ca dx) ca (some (dictOf es n)))
   (u: ∀o',Upd dx (dictOf es n) o' ((pre++ [(a,instObj ca dx)])++(dx,dictOf es n)::post) ((pre++ [(a,instObj ca dx)])++(dx,o')::post))
   (g: ∀fs' es' n' h',f5 C w fs' es'->fs'.length<=500->Fr Y.h₀ Y.L h' k.m->News Y.h₀ Y.L h' ((pre++ [(a,instObj ca dx)])++(dx,dictOf es' n')::post) ->Sta C Y.h₀ Y.L k w (H.set i (.inst q.1 fs')) h'):zgt Y k w H s i v q
theorem Sta.insAt (S:St Y k w H s) {i:Nat}{v:Value}{q:Nat×List (Nat×Val)} (hv:aB C w (.ref i) v) (ho:H[i]?.bind MObj.inst?=some q):zgt Y k w H s i v q:=by
 obtain ⟨o,hi,h2⟩:=bs ho;cases inst?_s h2;obtain ⟨a,e,ha⟩:=hv;obtain ⟨pre,en,post,⟨c,dx,es,n,rfl,hc,f,l⟩,hn,hd,g⟩:=S.at ha hi;have eq: ∀o',pre++([(a,instObj c dx),(dx,o')]++post)=(pre++ [(a,instObj c dx)])++(dx,o')::post:=λo'=>by rw [Jb];rfl
 rw [eq] at hn hd;exact ⟨a,c,dx,es,n,pre,post,e,hc,f,l,hn,InstAt.of_news hn (QT _ (Qi _ (.head _))) (Qi _ (.head _)),λo'=>iJ hd,λfs' es' n' h' r l' F N=>g (.inst q.1 fs') [(a,instObj c dx),(dx,dictOf es' n')] h' rfl ⟨c,dx,es',n',rfl,hc,r,l'⟩ F (by rw [eq];exact N)⟩
theorem sV (O:cA C gl) (S:St Y k w H s) {x:Val}{vx:Value}{nm:Str} (hnm:aD nm=true) (hx:aB C w x vx):Ref Y k (VR C) (PySem.getAttr vx nm true) w s ((getAttr C.P H x (enc nm)).map λv=>(v,H)):=by
 refine .omap λv e=> .val S λQ E q=>?_;have att: ∀ {a ca dx:Addr}{c n:Nat}{es:List DictEntry},InstAt s.heap a (instObj ca dx) ca (some (dictOf es n)) ->C.ad.lookup c=some ca->getL nm es=some none->cC C.P c (enc nm)=some v->wpAny C.M Y.A (PySem.getAttr (.ref a) nm true) Q E s:=λI hc q2 e=>by
  obtain ⟨u,hu,e⟩:=bs e;obtain ⟨hf,e⟩:=gs e;cases e;obtain ⟨t4,t5,av,t6,t7,_,t9⟩:=(O.attrs _ _ _ hu).use hnm rfl hc;have zq35:=t9 (by cases hq:qB C.P v;rfl;rw [hq] at hf;cases hf);exact get_cls S.fr Y.k I t4 t5 t6 zq35.1 zq35.2.1 zq35.2.2 q2 (q av _ (t7 w))
 revert e
 refine aT (aF λp hp e=>?_) (aF λa e1=>aF λc hc e=>?_)
 ·obtain ⟨i,e1,hp⟩:=bs hp
  cases ref?_s e1;obtain ⟨a,ca,dx,es,n,pre,post,rfl,hc,hF,hl,hN,I,_,_⟩:=S.insAt hx hp;cases hF.getL hnm with
  |none h1 h2=>rw [h1] at e;exact att I hc h2 e
  |some u rv h1 h2 r=>
   rw [h1] at e;obtain ⟨hfl,e⟩:=gs e;cases e;obtain ⟨t4,t5,attr,t6,t7,_,_,_⟩:=(O.flds _ _ hfl).use hnm rfl hc;exact get_own S.fr Y.k I t4 t5 t6 t7 h2 (zaW r) (q rv _ r)
 ·cases top?_s e1
  obtain ⟨xa,rfl,hx⟩:=hx;obtain ⟨xa',ca,dx,n,i1,i2,i3,i4⟩:=O.insts _ _ hc;cases Qf.inj (i1.symm.trans hx);exact att (InstAt.of_K S.kIn i3 i4) i2 rfl e
theorem sU (O:cA C gl) (S:St Y k w H s) {x:Val}{vx:Value}{nm:Str}{r:Nat×List Val}{pl:Sem Bool} (hnm:aD nm=true) (hx:aB C w x vx) {Q:Value×List Value->Shared->Prop}{E:Value->Shared->Prop}
  (h: ∀fa first tk,C.ad.lookup r.1=some fa->aA C w r.2 first->Q (.ref fa,first) {s with toks:=tk}):bL C.P H x (enc nm)=some r->wpAny C.M Y.A (PySem.getMethod vx nm pl) Q E s:=by
 have met: ∀ {a ca dx:Addr}{c n f:Nat}{es:List DictEntry},vx= .ref a->InstAt s.heap a (instObj ca dx) ca (some (dictOf es n)) ->C.ad.lookup c=some ca->getL nm es=some none->bS C.P c (enc nm)=some f->(f,[x])=r->wpAny C.M Y.A (PySem.getMethod vx nm pl) Q E s:=λea I hc q2 e er=>by
  obtain ⟨u,hu,e⟩:=bs e;obtain ⟨hf,e⟩:=gs e;cases top?_s e;have zq26:=(O.attrs _ _ _ hu).use hnm rfl hc;obtain ⟨av,t6,t7,t8,_⟩:=zq26.2.2;obtain ⟨ga,rfl,hg⟩:=t7 w;subst er ea;exact method_inst S.fr Y.k I zq26.1 t6 (t8 hf).1 q2 (h _ _ s.toks hg (.one hx))
 refine aT (aF λa e1 e=>?_) (aF λq hq=>bE λhnone=>aX λf hf e=>?_)
 ·cases top?_s e1
  obtain ⟨xa,e2,hxa⟩:=id hx;cases hi:C.P.instAt a with
  |some c=>
   rw [hi] at e;obtain ⟨f,hf,e⟩:=ms e;obtain ⟨xa',ca,dx,n,i1,i2,i3,i4⟩:=O.insts _ _ hi;cases Qf.inj (i1.symm.trans hxa);exact met e2 (InstAt.of_K S.kIn i3 i4) i2 rfl hf e
  |none=>
   rw [hi] at e;obtain ⟨f,hf,e⟩:=ms e;refine (bs hf).elim λu zq20=>?_;have hf:=zq20.2;obtain ⟨hfn,hf⟩:=gs hf;cases top?_s hf;obtain ⟨av,t6,t7,t8,_⟩:=((O.attrs _ _ _ zq20.1).use hnm rfl hxa).2.2;obtain ⟨ga,rfl,hg⟩:=t7 w;refine (t8 hfn).2.2.elim λmc zq16=>?_;subst e e2;exact method_of_cls S.fr Y.k (t8 hfn).2.1 (cls_val S.fr Y.k zq16.1 zq16.2.1 zq16.2.2 rfl (h _ _ _ hg .nil))
 ·obtain ⟨i,e1,hq⟩:=bs hq
  cases ref?_s e1;obtain ⟨a,ca,dx,es,n,pre,post,ea,hc,hF,hl,hN,I,_,_⟩:=S.insAt hx hq;cases hF.getL hnm with
  |none h1 h2=>exact met ea I hc h2 hf e
  |some u rv h1 h2 r'=>rw [h1] at hnone;cases hnone
theorem kH (O:cA C gl) (S:St Y k w H s) {x v:Val}{vx vv:Value}{nm:Str}{H':MH} (hnm:aD nm=true) (hx:aB C w x vx) (hv:aB C w v vv) {Q:Unit->Shared->Prop}{E:Value->Shared->Prop}
  (h: ∀s',Nxt Y k w w H' s s'->Q () s'):setAttr C.P H x (enc nm) v=some H'->wpAny C.M Y.A (PySem.setAttr vx nm vv) Q E s:=by
 refine aF λi e1=>aF λq hq=>bE λhfl e=>?_;cases ref?_s e1;cases e;have zq12:=S.insAt hx hq;obtain ⟨a,ca,dx,es,n,pre,post,rfl,hc,hF,hl,hN,I,U,g⟩:=zq12;have zq11:=(O.flds _ _ (Qa.mp hfl).1).use hnm rfl hc;obtain ⟨attr,t6,t7,t8,t9,t10⟩:=zq11.2.2;have hp:=hF.put (hsh:=Ky C.w.params nm) (t:=s.toks+1) hnm hv;have hlen:=zdc q.2 (enc nm) v;have hl4:=Qr.mp (Qa.mp hfl).2;exact set_dict S.fr Y.k hN I rfl t9 t10 t8 zq11.2.1 (by cases hF.getL hnm with|none _ h2=>rw [h2];rfl|some _ _ _ h2 _=>rw [h2];rfl:(getL nm es).isSome=true) rfl (U _) (by rw [hp.length];exact Qe (Qe hlen hl4) (QV _ _)) λh' F' N'=>h _ ⟨.refl w,g _ _ _ h' hp (Qe (Qe hlen hl4) (QV _ _)) F' N',rfl,rfl⟩
theorem nM {o:Expr}{attr:Str}{whole:Sem Value} (h:nN o=true):attributeBase o attr env whole=whole:=by
 cases o with
 |Call f as ks pos=>
  cases as with
  |nil=>cases h
  |cons x r=>cases f<;>rfl
 |_=>rfl
theorem zbT (O:cA C gl) {v:Expr}{nm:Str}{iv:Ex}{pos:Pos} (hv:bU C d cx v iv) (hn:aD nm=true) (hb:nN v=true):bU C d cx (.Attribute v nm pos) (.attr iv (enc nm)):=by
 intro Y env k mE fr w H s p r;refine aC λx H1 e1 e Q E hq=>Attribute_any_ (hv Y env k mE fr w H s p _ e1 _ _ λw1 a1 s1 n1 r1=>sV O n1.st hn r1 r e _ _ λw2 a2 s2 n2 r2=>hq w2 a2 s2 (n1.trans n2) r2) ?_;show (do
   let o<-attributeBase v nm env (PySem.eval v env)
   standAt pos.atName
   let r<-holding [o] (PySem.getAttr o nm true)
   letTemporaryGo v o r
   pure r)=_
 rw [nM hb]
theorem cZ {M:Model}{A:Around}{f:Value}{args:List (Bool×Sem Value)}{Q:Args->Shared->Prop}{E:Value->Shared->Prop} (hp:args.any (·.1)=false) (h:wpAny M A (spliced args) (λvs s'=>Q ⟨vs,[]⟩ s') E s):wpAny M A (evalArgs f true args []) Q E s:=by
 cases args with
 |nil=>
  unfold evalArgs;show wpAny M A (spliced [] >>=_) Q E s;exact wpAny_bind (wpAny_mono h (λvs s' h'=>wpAny_holding (wpAny_bind (wpAny_pure (wpAny_bind (wpAny_pure (wpAny_pure h')))))) λ_ _ x=>x)
 |cons p r=>
  obtain ⟨b,x⟩:=p;cases b with
  |false=>exact evalArgs_plain h
  |true=>cases hp
theorem dI {M:Model}{A:Around}{K:Frag}{pos:Pos}{f:Value}{first:List Value}{es:List Expr}{irs:List Ex}{Q:Value->Shared->Prop}{E:Value->Shared->Prop} (hk:keepIn K f=true) (hc:Sds C d cx es irs)
  (h:wpAny M A (spliced (backTo pos (starEach es env))) (λvs s₁=>K.In s₁.heap/\wpAny M A (call f (first++vs)) Q E s₁) E s):wpAny M A (callWith pos f first (backTo pos (starEach es env)) []) Q E s:=
 callWith_of (by rw [bJ hc];rfl) (keeps_K hk) (cZ (bJ hc) h)
def c5 (C:Cfg) (d:Nat):Prop:=
 ∀ (Y:aH C d 0) (k:Kp) (w:Wd) (H:MH) (s:Shared) (f:Nat) (fa:Addr) (as:List Val) (vs:List Value) (r:Val×MH),St Y k w H s->C.ad.lookup f=some fa->aA C w as vs->bC C.P i5 d f as H=some r->
  ∀R:Result->Shared->Prop,(∀w' rv s',Nxt Y k w w' r.2 s s'->aB C w' r.1 rv->R (.ok (.ret rv)) s') ->codeAny C.M Y.A (.call (.ref fa) ⟨vs,[]⟩) R s
theorem c5.wp (hC:c5 C d) (Y:aH C d e) {f:Nat}{fa:Addr}{as:List Val}{vs:List Value} (S:St Y k w H s) (hf:C.ad.lookup f=some fa) (r:aA C w as vs):Ref Y k (VR C) (call (.ref fa) vs) w s (bC C.P i5 d f as H):=
 λr' ev Q E hq=>wpAny_call (hC Y.toW k w H s f fa as vs r' S hf r ev _ λw' rv s' n r2=>hq w' rv s' ⟨n.le,n.st,n.same⟩ r2)
theorem zB (O:cA C gl) {f:Nat}{fa:Addr}{as:List Val}{H:MH}{r:Val×MH} (hf:C.ad.lookup f=some fa) (e:bC C.P i5 d f as H=some r):keepIn C.K (.ref fa)=true:=by
 cases d with
 |zero=>exact nos e
 |succ d=>
  obtain ⟨fn,hfn,e⟩:=bs e;obtain ⟨h1,fa',_,_,_,_,_,_,_,_,_,_,_,_,_,_,_,k1,_,_,_,k6,_,_,_⟩:=O.fns _ _ hfn;rw [h1,hf] at k1;cases k1;exact k6
theorem xX {A : Around} {ca : Addr} {vs : List Value} {f : Option (List Env)} (h : A.frames = f) : (A.under (.builtin "type.__call__" ⟨.ref ca :: vs,[]⟩)).frames = f := by
 show pushEnvs (Code.envs (.builtin "type.__call__" ⟨.ref ca :: vs,[]⟩)) A.frames = _;rw [show Code.envs (.builtin "type.__call__" ⟨.ref ca :: vs,[]⟩) = [] by unfold Code.envs; rw [show Code.isFrame (.builtin "type.__call__" ⟨.ref ca :: vs,[]⟩) = false from rfl,if_neg QZ]];exact h
theorem za1 {a n:Nat} (h:a+n+2+2<=900):a+1+n+2+0<=900:=by rw [Kc a 1 n];exact Qe (Jo (by decide:3<=4) (a+n)) h
theorem za0 {a n:Nat} (h:a+n+190+5*2<=9900):a+1+n+190+5*0<=9900:=by rw [Kc a 1 n];exact Qe (Jo (by decide:191<=200) (a+n)) h
def aH.underCls (Y:aH C d 2) (ca:Addr) (vs:List Value):aH C d 0 where
 A := Y.A.under (.builtin "type.__call__" ⟨.ref ca :: vs,[]⟩)
 h₀:=Y.h₀
 L:=Y.L
 envF:=Y.envF
 below:=Y.below.elim λA₀ h=>h.elim λbase h=>h.elim λouter h=>⟨A₀,base,outer,h.1,xX h.2⟩
 k:=Y.k
 top:=Y.top
 frame:=Y.frame
 kind:=Y.kind
 handled:=Y.handled
 depth:=za1 Y.depth
 units:=za0 Y.units
theorem zbL (O:cA C gl) (hC:c5 C d) {Y:aH C d 2} (S:St Y k w H s) {c:Nat}{ca:Addr}{cl:Cl}{as:List Val}{vs:List Value} (hk:C.P.clsAt c=some cl) (hca:C.ad.lookup c=some ca) (r:aA C w as vs):Ref Y k (VR C) (call (.ref ca) vs) w s (tI (C.cx d) c cl as H):=by
 refine .opt λi hi=>λr'=>aC λx H' ev=>bE λhx e=>?_;cases uE hx;cases e;intro Q E hq;obtain ⟨ca',fI,t1,t2,t3,t4,t5,t6⟩:=O.inits _ _ _ hk hi;cases Qf.inj (t1.symm.trans hca);obtain ⟨all,hn,add,_,_⟩:=S.ledger;refine call_cls S.fr Y.k hn t3 t4 t5 λx dx h' F' N' l1 l2=>?_;have hx4:4<=x:=Zs λhlt=>by
  obtain ⟨o,ho⟩:=O.cfg.low x (Nat.lt_of_not_le hlt)
  have:=(N' (x,instObj ca dx) (.head _)).2.2
  rw [Y.k _ _ ho] at this;cases this
 have le:w.le ⟨w.σ++ [x],w.tp⟩:=⟨Qs _ _,λ_ x=>x⟩;have hS:Sta C Y.h₀ Y.L k ⟨w.σ++ [x],w.tp⟩ (H++ [.inst c []]) h':=by
  refine add x (.inst c []) [(x,instObj ca dx),(dx,dictOf [] 0)] h' ⟨ca,dx,[],0,rfl,hca,rfl,QO _⟩ F' N' ?_ ?_ hx4
  ·exact Qu.mpr ⟨λh=>absurd (Ql.mp h) (Zk l2),cD _⟩
  ·intro p hp q hq
   have:=l1 q hq
   rcases Qy.mp hp with rfl|hp
   ·exact Zk (Kj this l2)
   ·rw [Ql.mp hp];exact Zk this
 have hr:(w.σ++ [x])[H.length]?=some x:=by rw [<-S.len];exact Qt
 exact hC (Y.underCls ca vs) k ⟨w.σ++ [x],w.tp⟩ (H++ [MObj.inst c []]) {s with heap:=h'} i fI (.ref H.length::as) (.ref x::vs) (.none,H') hS t2 (.cons ⟨x,rfl,hr⟩ (r.mono le)) ev _ λw' rv s' n r2=>⟨r2,hq w' _ s' ⟨le.trans n.le,n.st,n.same.1,n.same.2⟩ ⟨x,rfl,n.le.get hr⟩⟩
theorem zgV (O:cA C gl) {n:Nat}{nm:String} (hb:jF.lookup n=some nm) (S:St Y k w H s) {as:List Val}{vs:List Value} (r:aA C w as vs):Ref Y k (VR C) (call (.builtin nm) vs) w s (j2 n as H):=
 .alt (.grd λh => eZ (t:=jF) h hb (y:="len") rfl ▸ zen S r) (.alt (.grd λh => eZ (t:=jF) h hb (y:="max") rfl ▸ zem S r) (.alt (.grd λh => eZ (t:=jF) h hb (y:="min") rfl ▸ zel S r) (.grd λh => eZ (t:=jF) h hb (y:="sorted") rfl ▸ O.srt O.cfg S r)))
theorem zak (O:cA C gl) (hC:c5 C d) {es:List Expr}{irs:List Ex} (hc:Sds C d cx es irs) {Y:aH C d 2}{pos:Pos}{g:Val}{gv:Value}{vs:List Val}{H1:MH} (p:Pl Y cx env k mE fr w H s) (hg:aB C w g gv) (e1:dE (C.cx d) irs fr H=some (vs,H1)):Ref Y k (VR C) (callWith pos gv [] (backTo pos (starEach es env)) []) w s (gY (C.cx d) g vs H1):=by
 have args: ∀ {Q:List Value->Shared->Prop}{E:Value->Shared->Prop},(∀w1 a1 s1,Nxt Y k w w1 H1 s s1->aA C w1 vs a1->Q a1 s1) ->wpAny C.M Y.A (spliced (backTo pos (starEach es env))) Q E s:=λhq=>fA hc Y env k mE fr w H s pos p _ e1 _ _ hq;refine .alt (.opt λf hf=> .case (λhcl=>?_) (λcl hcl=>?_)) (.alt (.opt λn hn=>?_) (.opt λn hn=>?_))
 ·cases top?_s hf
  refine QY hg λga zq6=>?_;obtain rfl:=zq6.1;have hga:=zq6.2;intro r e Q E hq;exact dI (zB O hga e) hc (args λw1 a1 s1 n1 r1=>⟨n1.st.kIn,hC.wp Y n1.st hga r1 r e Q E λw2 a2 s2 n2 r2=>hq w2 a2 s2 (n1.trans n2) r2⟩)
 ·cases top?_s hf
  obtain ⟨ga,rfl,hga⟩:=hg;intro r e Q E hq;refine (bs e).elim λi zq4=>?_;obtain ⟨ca',fI,t1,t2,t3,t4,t5,t6⟩:=O.inits _ _ _ hcl zq4.1;cases Qf.inj (t1.symm.trans hga);exact dI t6 hc (args λw1 a1 s1 n1 r1=>⟨n1.st.kIn,zbL O hC n1.st hcl hga r1 r e Q E λw2 a2 s2 n2 r2=>hq w2 a2 s2 (n1.trans n2) r2⟩)
 ·cases bi?_s hn
  obtain ⟨nm,rfl,hb⟩:=hg;exact λr e Q E hq=>callWith_builtin (bJ hc) (cZ (bJ hc) (args λw1 a1 s1 n1 r1=>zgV O hb n1.st r1 r e Q E λw2 a2 s2 n2 r2=>hq w2 a2 s2 (n1.trans n2) r2))
 ·cases ty?_s hn
  obtain ⟨nm,rfl,hb⟩:=hg;exact λr e Q E hq=>PySem.callWith_type (bJ hc) (cZ (bJ hc) (args λw1 a1 s1 n1 r1=>zgU hb n1.st r1 r e Q E λw2 a2 s2 n2 r2=>hq w2 a2 s2 (n1.trans n2) r2))
theorem qT (O:cA C gl) (hC:c5 C d) {x:Str}{xp pos:Pos}{ig:Ex}{es:List Expr}{irs:List Ex} (hc:Sds C d cx es irs) (hx:bU C d cx (.Name x xp) ig):bU C d cx (.Call (.Name x xp) es [] pos) (.call ig irs):=
 λY env k mE fr w H s p r=>aC λg H1 e1=>aC λvs H2 e2 e Q E hq=>Call_ (hx Y env k mE fr w H s p _ e1 _ _ λw1 a1 s1 n1 r1=>zak O hC hc (p.next n1) r1 e2 r e Q E λw2 a2 s2 n2 r2=>hq w2 a2 s2 (n1.trans n2) r2)
theorem zcP {n:Nat}{es:List Expr}{irs:List Ex}{pos:Pos} (hc:Sds C d cx es irs) (hn:n<30):methodCallForm n (backTo pos (starEach es env)) []=true:=by
 unfold methodCallForm;rw [QX,QX];refine ⟨⟨?_,rfl⟩,decide_eq_true hn⟩;rw [QD];intro x hx
 have:=(List.any_eq_false.mp (bJ (env:=env) (pos:=pos) hc)) x hx
 cases hb:x.1 with
 |false=>rfl
 |true=>exact absurd hb this
theorem qU (O:cA C gl) (hC:c5 C d) {o:Expr}{nm:Str}{apos pos:Pos}{io:Ex}{es:List Expr}{irs:List Ex} (hc:Sds C d cx es irs) (hlen:es.length<=20) (ho:bU C d cx o io) (hn:aD nm=true) (hb:nN o=true)
  (hp:(apos.endLine==pos.line)=true):bU C d cx (.Call (.Attribute o nm apos) es [] pos) (.meth io (enc nm) irs):=by
 intro Y env k mE fr w H s p r;refine aC λx H1 e1=>aC λvs H2 e2 e Q E hq=>?_;show wpAny C.M Y.A (do
  let ov<-attributeBase o nm env (PySem.eval o env)
  standAt apos.atName
  methodCall o nm apos pos env ov (es.length+0) (backTo pos (starEach es env)) (backToKw pos (keywordEach [] env))) Q E s
 rw [nM hb];refine wpAny_bind (ho Y env k mE fr w H s p _ e1 _ _ λw1 a1 s1 n1 r1=>wpAny_bind (wpAny_standAt ?_));unfold methodCall;rw [show methodCallForm (es.length+0) (backTo pos (starEach es env)) (backToKw pos (keywordEach [] env))=true from zcP hc (QU hlen (by decide))];unfold calleeOf methodCallPos;rw [if_pos rfl];refine wpAny_bind (wpAny_holding ?_);cases hm:bL C.P H1 x (enc nm) with
 |some q=>
  have e:bC C.P i5 d q.1 (q.2++vs) H2=some r:=by
   have e':Qc (motive:=λ_=>Option (Val×MH)) (bL C.P H1 x (enc nm)) (cX x (enc nm) vs H1 H2) (λp=>bC C.P i5 d p.1 (p.2++vs) H2)=some r:=e;rw [hm] at e';exact e'
  refine sU O n1.st hn r1 (λfa first tk hfa hself=>?_) hm;rw [if_pos (by rw [hp];rfl)];refine wpAny_bind (wpAny_pure ?_);have n1':=n1.trans (.toks n1.st tk);exact dI (s:={s1 with toks:=tk}) (zB O hfa e) hc (fA hc Y env k mE fr w1 H1 {s1 with toks:=tk} pos (p.next n1') _ e2 _ _ λw2 a2 s2 n2 r2=>⟨n2.st.kIn,hC.wp Y n2.st hfa (aA.append r2 (hself.mono n2.le)) r e Q E λw3 a3 s3 n3 r3=>hq w3 a3 s3 ((n1'.trans n2).trans n3) r3⟩)
 |none=>
  have e:cX x (enc nm) vs H1 H2=some r:=by
   have e':Qc (motive:=λ_=>Option (Val×MH)) (bL C.P H1 x (enc nm)) (cX x (enc nm) vs H1 H2) (λp=>bC C.P i5 d p.1 (p.2++vs) H2)=some r:=e;rw [hm] at e';exact e'
  refine zbS hn n1.st r1 e _ _ _ λid hid=>?_;rw [if_pos (by rw [hp];rfl)];refine wpAny_bind (wpAny_pure ?_);exact callWith_builtin (bJ hc) (cZ (bJ hc) (fA hc Y env k mE fr w1 H1 s1 pos (p.next n1) _ e2 _ _ λw2 a2 s2 n2 r2=>hid w2 s2 a2 n2.le n2.st r2 Q E λw3 a3 s3 n3 r3=>hq w3 a3 s3 ((n1.trans n2).trans n3) r3))
end
theorem gL {prog:Program}{w:World}{A:Around}{s:Shared}{elt target iter:Expr}{ifs:List Expr}{scope:Scope}{pos:Pos}{it acc:Value}{env:Env}{R:Result->Shared->Prop} (I:Nat->Shared->Prop)
  (turn: ∀n s,I n s->wpAny (model prog w) A (pyNext it) (λr s₁=>match r with
   |none=>R (.ok .next) s₁
   |some v=>wpAny (model prog w) A (letOwnedTupleGo target it v) (λ_ s₁'=>wpAny (model prog w) A (assign target env v) (λ_ s₂=>
     wpAny (model prog w) A (forIn ifs true λc r=>if r=true then do let ok<-PySem.isTrue c env (PySem.eval c env);pure (ForInStep.yield ok) else pure (ForInStep.yield r)) (λok s₃=>
      if ok=true then wpAny (model prog w) A (PySem.eval elt env) (λx s₄=>
       wpAny (model prog w) A (call (.builtin "list.append") [acc,x]) (λ_ s₅ => ∃ m,m < n /\ I m s₅) (notedBy (model prog w) A env λe s' => R (.error e) s') s₄) (notedBy (model prog w) A env λe s' => R (.error e) s') s₃
      else ∃m,m<n/\I m s₃) (notedBy (model prog w) A env λe s'=>R (.error e) s') s₂)
     (notedBy (model prog w) A env λe s'=>R (.error e) s') s₁') (notedBy (model prog w) A env λe s'=>R (.error e) s') s₁) (notedBy (model prog w) A env λe s'=>R (.error e) s') s)
  (n:Nat) (h:I n s):codeAny (model prog w) A (.compLoop (.ListComp elt [⟨target,iter,ifs,0⟩] scope pos) 0 it acc env) R s:=by
 refine codeAny_loop rfl I (λn s hI=>?_) n h;show wpAny _ A ((compTurn (.ListComp elt [⟨target,iter,ifs,0⟩] scope pos) 0 it acc env).onRaise (λx=>do noteFrame x env;theTreesLotGoes x)) _ _ s;refine wpAny_noted ?_;rw [compTurn_list];refine wpAny_bind (wpAny_standAt (wpAny_bind (wpAny_mono (turn n s hI) (λr s₁ h₁=>?_) λ_ _ h'=>h')));cases r with
 |none=>exact wpAny_pure h₁
 |some v=>
  refine wpAny_bind (wpAny_mono h₁ (λ_ s₁' h₁'=>?_) λ_ _ h'=>h');refine wpAny_bind (wpAny_mono h₁' (λ_ s₂ h₂=>wpAny_bind (wpAny_mono h₂ (λok s₃ h₃=>?_) λ_ _ h'=>h')) λ_ _ h'=>h');cases ok with
  |false=>exact wpAny_pure ⟨rfl,h₃⟩
  |true=>exact wpAny_bind (wpAny_bind (wpAny_mono h₃ (λx s₄ h₄=>wpAny_bind (wpAny_mono h₄ (λ_ s₅ h₅=>wpAny_pure (wpAny_pure ⟨rfl,h₅⟩)) λ_ _ h'=>h')) λ_ _ h'=>h'))
theorem uV (outer:List (Str×NameKind)) (sc:Scope) (x:Str):(hX outer sc).lookup x=(sc.names.lookup x).map λk=>if (k== .free && outer.lookup x==some .cell)=true then .cell else k:=by
 unfold hX
 generalize sc.names=l
 induction l with
 |nil=>rfl
 |cons p l ih=>
  rw [QJ,QE,QE];cases hxy:x==p.1 with
  |true=>rw [beq_iff_eq.mp hxy];rfl
  |false=>exact ih
def cS (env:Env) (p:Str×NameKind) (cs:List (Str×Addr)):List (Str×Addr):=if p.2== .free then (match env.cells.lookup p.1 with|some a=>(p.1,a)::cs|none=>cs) else cs
theorem zfz {env:Env}: ∀ (l:List (Str×NameKind)) (acc:List (Str×Addr)),(∀p∈l,p.2= .free->(env.cells.lookup p.1).isSome=true) ->
  (forIn l acc λx r=>match x with
   |(name,kind)=>if (kind==NameKind.free)=true then do let a<-cellOf env name;pure (ForInStep.yield ((name,a)::r)) else pure (ForInStep.yield r):Sem (List (Str×Addr)))=pure (l.foldl (λcs p=>cS env p cs) acc):=by
 intro l
 induction l with
 |nil=>exact λacc _=>rfl
 |cons p l ih=>
  intro acc h;obtain ⟨n,k⟩:=p;rw [Ze,Zh]
  dsimp only
  by_cases hk:(k==NameKind.free)=true
  ·rw [if_pos hk]
   obtain ⟨a,ha⟩:=QK.mp (h (n,k) (.head _) (beq_iff_eq.mp hk));rw [(by unfold cellOf;rw [show env.cells.lookup n=some a from ha]:cellOf env n=pure a),pure_bind,pure_bind]
   dsimp only
   rw [(λacc=>ih acc λp hp=>h p (.tail _ hp))]
   congr 2
   unfold cS;rw [if_pos hk]
   dsimp only at ha ⊢
   rw [ha]
  ·rw [if_neg hk,pure_bind]
   dsimp only
   rw [(λacc=>ih acc λp hp=>h p (.tail _ hp))]
   congr 2
   unfold cS;rw [if_neg hk]
theorem za2 {env:Env}{x:Str}{c:Addr} (hc:env.cells.lookup x=some c): ∀ (l:List (Str×NameKind)) (acc:List (Str×Addr)),((x,NameKind.free)∈l\/acc.lookup x=some c) ->(l.foldl (λcs p=>cS env p cs) acc).lookup x=some c:=by
 intro l
 induction l with
 |nil=>exact λacc h=>h.elim (λh=>absurd h QB) id
 |cons p l ih=>
  intro acc h;rw [Zh];refine ih _ ?_;have keep:acc.lookup x=some c->(cS env p acc).lookup x=some c:=λh=>by
   unfold cS;split
   ·split
    ·rename_i a ha
     rw [QE];cases hxy:x==p.1 with
     |true=>rw [beq_iff_eq.mp hxy] at hc;exact ha.symm.trans hc
     |false=>exact h
    ·exact h
   ·exact h
  rcases h with h|h
  ·rcases Qy.mp h with e|h
   ·refine .inr ?_
    rw [<-e];unfold cS
    dsimp only
    rw [hc,if_pos (show (NameKind.free==NameKind.free)=true from rfl)];show ZW x ((x,c)::acc)=some c;rw [QE,beq_self_eq_true]
   ·exact .inl h
  ·exact .inr (keep h)
theorem xY {scope:Scope}{env:Env} (h: ∀p∈scope.names,p.2= .free->(env.cells.lookup p.1).isSome=true): ∃cl,closureFor scope env=pure cl/\∀x c,(x,NameKind.free)∈scope.names->env.cells.lookup x=some c->cl.lookup x=some c:=by
 refine ⟨scope.names.foldl (λcs p=>cS env p cs) [],?_,λx c hx hc=>za2 hc _ _ (.inl hx)⟩
 have:=zfz (env:=env) scope.names [] h
 unfold closureFor;rw [<-this];simp only [bind_pure]
structure zfM (cx:CC) (sc:Scope) (xs:List Str):Prop where
 kind:sc.kind= .function
 nocell: ∀p∈sc.names,p.2≠ .cell
 loc: ∀p∈sc.names,p.2= .local->sc.names.lookup p.1=some .local/\(p.1∈xs\/cx.vars.lookup p.1=none)
 free: ∀p∈sc.names,p.2= .free->sc.names.lookup p.1=some .free/\cx.sc.lookup p.1=some .cell
 nd:xs.Nodup
 xs: ∀x∈xs,sc.names.lookup x=some .local
theorem yY {cx:CC}{sc:Scope}{xs:List Str} (h:mX cx sc xs=true):zfM cx sc xs:=by
 unfold mX at h;simp only [QX,QD,beq_iff_eq,JY,bne_iff_ne,ne_eq,decide_eq_true_eq,Q7,Q4] at h;obtain ⟨⟨⟨h1,h2⟩,h3⟩,h4⟩:=h;exact ⟨h1,λp hp=>(h2 p hp).1.1,λp hp hl=>(h2 p hp).1.2.elim (absurd hl) id,λp hp hf=>(h2 p hp).2.elim (absurd hf) id,h4,h3⟩
def sG (cx:CC):Prop:= ∀x i,cx.vars.lookup x=some i->i<cx.next
theorem xI {α β:Type} [BEq α] (a:α) (r:List (α×β)): ∀ (l:List (α×β)),(l++r).lookup a=(l.lookup a).or (r.lookup a):=by
 intro l
 induction l with
 |nil=>rfl
 |cons p l ih=>
  rw [List.cons_append,QE,QE];cases a==p.1 with
  |true=>rfl
  |false=>exact ih
theorem g9 (x:Str): ∀ (l:List Str) (n:Nat),(∀i,(l.zip (QA n l.length)).lookup x=some i-> ∃j,i=n+j/\l[j]?=some x)/\(x∉l->(l.zip (QA n l.length)).lookup x=none)/\(x∈l->((l.zip (QA n l.length)).lookup x).isSome=true):=by
 intro l
 induction l with
 |nil=>exact λn=>⟨λi h=>nos h,λ_=>rfl,λh=>absurd h QB⟩
 |cons y l ih=>
  intro n;have zq25:=ih (n+1);rw [JF,J8,JZ,QE];cases hxy:x==y with
  |true=>exact ⟨λi h=>⟨0,(Qf.inj h).symm,by rw [beq_iff_eq.mp hxy];rfl⟩,λh=>absurd (beq_iff_eq.mp hxy▸List.mem_cons_self) h,λ_=>rfl⟩
  |false=>
   refine ⟨λi h=>?_,λh=>zq25.2.1 λh'=>h (.tail _ h'),λh=>zq25.2.2 ((Qy.mp h).resolve_left (beq_eq_false_iff_ne.mp hxy))⟩;refine (zq25.1 i h).elim λj zq24=>?_;exact ⟨j+1,zq24.1.trans (by rw [Z5,KG 1]),zq24.2⟩
theorem fH {cx:CC}{sc:Scope}{xs:List Str}{x:Str}{i:Nat} (h:(inComp cx sc xs).vars.lookup x=some i):(∃j,i=cx.next+j/\xs[j]?=some x)\/(x∉xs/\cx.vars.lookup x=some i):=by
 have h:(xs.zip (QA cx.next xs.length)++cx.vars).lookup x=some i:=h;have zq23:=g9 x xs cx.next;rw [xI] at h;by_cases hx:x∈xs
 ·refine (QK.mp (zq23.2.2 hx)).elim λj zq22=>?_
  rw [zq22] at h;cases h;exact .inl (zq23.1 _ zq22)
 ·rw [zq23.2.1 hx] at h
  exact .inr ⟨hx,h⟩
theorem sG.inComp {cx:CC} (h:sG cx) (sc:Scope) (xs:List Str):sG (inComp cx sc xs):=by
 intro x i hi;show i<cx.next+xs.length;rcases fH hi with ⟨j,rfl,hj⟩| ⟨_,hi⟩
 ·exact Z2 (Qk.mp hj).1 _
 ·exact Qn (h x i hi) (Jh _ _)
theorem lK {cx:CC}{x:Str}{i:Nat} (h:b0 cx x=some i):(cx.sc.lookup x=some .local\/cx.sc.lookup x=some .cell)/\cx.vars.lookup x=some i:=by
 exact ⟨(Jp.mp (gs h).1).imp beq_iff_eq.mp beq_iff_eq.mp,(gs h).2⟩
theorem zbW {fr:Frame}{i j:Nat}{v u:Val} (h:(fr.set i (some v))[j]?=some (some u)):(i=j/\u=v)\/(i≠j/\fr[j]?=some (some u)):=by
 by_cases hij:i=j
 ·subst hij
  rw [List.getElem?_set] at h;simp only [if_true] at h
  split at h
  ·cases h;exact .inl ⟨rfl,rfl⟩
  ·cases h
 ·rw [Zc hij] at h
  exact .inr ⟨hij,h⟩
theorem lZ (i:Nat) (u:Val): ∀ (vs:List Val) (n:Nat) (fr:Frame),(eK (QA n vs.length) vs fr)[i]?=some (some u) ->(∃j,i=n+j/\vs[j]?=some u)\/((i<n\/n+vs.length<=i)/\fr[i]?=some (some u)):=by
 intro vs
 induction vs with
 |nil=>exact λn fr h=> .inr ⟨Nat.lt_or_ge i n,h⟩
 |cons v vs ih=>
  intro n fr h;rw [JF,J8] at h;rcases ih (n+1) (fr.set n (some v)) h with ⟨j,h1,h2⟩| ⟨h1,h2⟩
  ·exact .inl ⟨j+1,by lia,h2⟩
  ·rcases zbW h2 with ⟨e,rfl⟩| ⟨hne,h3⟩
   ·exact .inl ⟨0,e.symm,rfl⟩
   ·exact .inr ⟨by rw [JF];lia,h3⟩
section
variable {C:Cfg}{d e:Nat}{Y:aH C d e}{k:Kp}{w:Wd}{H:MH}{s:Shared}{cx:CC}{env:Env}{mE:Str->Option Value}{fr:Frame}
theorem qR {A:Around}{I:Addr}{io:Obj}{z:It}{i:Nat} (hI:s.heap.get? I=some io) (R:dF C w io i z) {Q:Value->Shared->Prop}{E:Value->Shared->Prop} (h:Q (.ref I) s):wpAny C.M A (pyIter (.ref I)) Q E s:=by
 cases z with
 |fs _=>obtain ⟨la,_,ic⟩:=R;exact wpAny_pyIter_listiter ⟨io,hI,ic.1,ic.2⟩ h
 |ls _=>obtain ⟨la,_,ic⟩:=R;exact wpAny_pyIter_listiter ⟨io,hI,ic.1,ic.2⟩ h
 |tp _=>obtain ⟨la,_,ic⟩:=R;exact wpAny_pyIter_tupleiter ⟨io,hI,ic.1,ic.2⟩ h
 |sq _=>
  obtain ⟨T,t,hT,ic⟩:=R.2;rcases hT with rfl|rfl
  ·exact wpAny_pyIter_striter_ascii ⟨io,hI,ic.1,ic.2⟩ h
  ·exact wpAny_pyIter_striter_wide ⟨io,hI,ic.1,ic.2⟩ h
 |dk _ _ _=>obtain ⟨la,_,ic,id⟩:=R;exact wpAny_pyIter_keyiter ⟨io,hI,ic,id⟩ h
 |rg _=>obtain ⟨_,_,_,rfl⟩:=R;exact wpAny_pyIter_rangeiter hI h
abbrev sJ : List String := ["enumerate","zip","dict_itemiterator","dict_reverseitemiterator","odict_iterator","itertools.zip_longest","itertools.pairwise"]
theorem dF.cls {io:Obj}{z:It}{i:Nat} (R:dF C w io i z): ∃T vs,io.cls= .type T/\io.data= .fields vs/\sJ.contains T=false:=by
 cases z with
 |fs _=>obtain ⟨la,_,ic⟩:=R;exact ⟨_,_,ic.1,ic.2,by decide⟩
 |ls _=>obtain ⟨la,_,ic⟩:=R;exact ⟨_,_,ic.1,ic.2,by decide⟩
 |tp _=>obtain ⟨la,_,ic⟩:=R;exact ⟨_,_,ic.1,ic.2,by decide⟩
 |sq _=>obtain ⟨_,T,t,hT,ic⟩:=R;rcases hT with rfl|rfl<;>exact ⟨_,_,ic.1,ic.2,by decide⟩
 |dk _ _ _=>obtain ⟨la,_,ic,id⟩:=R;exact ⟨_,_,ic,id,by decide⟩
 |rg _=>obtain ⟨_,_,_,rfl⟩:=R;exact ⟨_,_,rfl,rfl,by decide⟩
theorem l4 {A:Around}{I:Addr}{io:Obj} (hI:s.heap.get? I=some io) {tg:Expr}{v:Value} (R: ∃T vs,io.cls= .type T/\io.data= .fields vs/\sJ.contains T=false) {Q:Unit->Shared->Prop}{E:Value->Shared->Prop} (h:Q () s):wpAny C.M A (letOwnedTupleGo tg (.ref I) v) Q E s:=by
 refine R.elim λT zq19=>zq19.elim λvs zq20=>?_;have key:wpAny C.M A (do
  let (.ref r,.ref a):=((JL I),v)|return
  let o<-load r
  match o.cls,o.data with
  | .type n,.fields vs=>
   if ["enumerate","zip","dict_itemiterator","dict_reverseitemiterator","odict_iterator","itertools.zip_longest","itertools.pairwise"].contains n && vs[0]? == some (rawInt a) then
    rule "for.unpacks-the-owned-tuple"
    updateField r 0 .none
  |_,_=>pure ()) Q E s:=by
  cases v with
  |ref b=>
   refine wpAny_bind (wpAny_load hI ?_);rw [zq20.1,zq20.2.1]
   dsimp only
   rw [show (["enumerate","zip","dict_itemiterator","dict_reverseitemiterator","odict_iterator","itertools.zip_longest","itertools.pairwise"].contains T) = false from zq20.2.2];exact wpAny_pure h
  |_=>exact wpAny_pure h
 cases tg<;>first|exact wpAny_pure h|exact key
abbrev lV (env:Env) (ifs:List Expr) (b:Bool):Sem Bool:=forIn ifs b λc r=>if r=true then do let ok<-PySem.isTrue c env (PySem.eval c env);pure (ForInStep.yield ok) else pure (ForInStep.yield r)
theorem sL: ∀ (ifs:List Expr),lV env ifs false=pure false:=by
 intro ifs
 induction ifs with
 |nil=>rfl
 |cons c r ih=>
  unfold lV;rw [Ze];simp only [Ji,if_false,pure_bind];exact ih
theorem zab {ifs:List Expr}{irs:List Ex} (h:Sds C d cx ifs irs): ∀ (Y:aH C d 2) (env:Env) (k:Kp) (mE:Str->Option Value) (fr:Frame) (w:Wd) (H:MH) (s:Shared),Pl Y cx env k mE fr w H s->Ref Y k EqR (lV env ifs true) w s (jA (C.cx d) irs fr H):=by
 induction h with
 |nil=>exact λY env k mE fr w H s p=> .pure' p.st rfl
 |cons he _ ih=>
  intro Y env k mE fr w H s p r;refine aC λb H1 e1 e Q E hq=>?_;unfold lV;rw [Ze];simp only [if_true];refine wpAny_bind (wpAny_bind (he.ts Y env k mE fr w H s p _ e1 _ _ λw1 a1 s1 n1 r1=>wpAny_pure ?_));rw [show a1=b from r1];cases b with
  |true=>exact ih Y env k mE fr w1 H1 s1 (p.next n1) _ e _ _ λw2 a2 s2 n2 r2=>hq w2 a2 s2 (n1.trans n2) r2
  |false=>
   cases e;show wpAny C.M Y.A (lV env _ false) Q E s1;rw [sL];exact wpAny_pure (hq w1 _ s1 n1 rfl)
theorem oA {sc:Scope} (hk:env.scope.kind= .function) (hs:env.scope.names=cx.sc):(relabel sc env).names=hX cx.sc sc:=by
 unfold relabel hX
 dsimp only
 apply Z3
 intro p _;rw [hk,<-hs];unfold Env.kindOf;obtain ⟨n,k⟩:=p
 dsimp only
 rw [show (ScopeKind.function==ScopeKind.function)=true from rfl,Z7]
 split<;>rfl
theorem d3 {sc:Scope}{xs:List Str} (O:zfM cx sc xs) {x:Str}:((hX cx.sc sc).lookup x=some .local->sc.names.lookup x=some .local)/\((hX cx.sc sc).lookup x=some .cell->sc.names.lookup x=some .free/\cx.sc.lookup x=some .cell):=by
 rw [uV];refine ⟨aX λk hk e=>?_,aX λk hk e=>?_⟩
 ·split at e
  ·cases e
  ·rw [hk,e]
 ·split at e
  ·rename_i hc
   rw [QX,beq_iff_eq,beq_iff_eq] at hc;rw [hk,hc.1];exact ⟨rfl,hc.2⟩
  ·exact absurd e (O.nocell _ (aU hk))
theorem Pl.inner (p:Pl Y cx env k mE fr w H s) {sc:Scope}{xs:List Str} (O:zfM cx sc xs) (hn:sG cx) {cl:List (Str×Addr)} (hcl: ∀x c,(x,NameKind.free)∈sc.names->env.cells.lookup x=some c->cl.lookup x=some c) {N:Addr}{oN:Obj}{k':Kp} (hk:k'.ce=k.ce) {mN:Str->Option Value} (hm:(N,oN)∈k'.ex) (hns:NsO oN mN)
  {w':Wd} (le:w.le w') {H':MH}{s':Shared} (S':St Y k' w' H' s') {mvs:List Val}{vs:List Value} (r:aA C w' mvs vs) (hl:mvs.length=xs.length) (hv: ∀ (j:Nat) x,xs[j]?=some x->mN x=vs[j]?):Pl Y (inComp cx sc xs) (compEnvC sc cl N env) k' mN (eK (QA cx.next xs.length) mvs fr) w' H' s':=by
 refine ⟨⟨O.kind,p.b.gl,p.b.bl,oA p.b.kind p.b.sc,λx hx=>?_,.inr ⟨oN,hm,hns⟩⟩,λx i v hx hvv=>?_,S'⟩
 ·refine (p.b.cells x ((d3 O).2 hx).2).elim λc zq15=>zq15.elim λo zq16=>zq16.elim λv₀ zq17=>?_
  exact ⟨c,o,v₀,hcl x c (aU ((d3 O).2 hx).1) zq17.1,hk▸zq17.2.1,zq17.2.2⟩
 ·obtain ⟨hkd,hi⟩:=lK hx
  rw [<-hl] at hvv;rcases hkd with hkd|hkd
  ·have hloc:=(d3 O).1 hkd
   rcases fH hi with ⟨j,rfl,hj⟩| ⟨hne,hi'⟩
   ·have hjl:=(Qk.mp hj).1
    rcases lZ _ _ _ _ _ hvv with ⟨j',e,hj'⟩| ⟨hlt,_⟩
    ·cases Nat.add_left_cancel e
     refine (r.get hj').elim λrv zq13=>?_;exact .loc rv hkd ((hv _ _ hj).trans zq13.1) zq13.2
    ·lia
   ·rcases (O.loc _ (aU hloc) rfl).2 with h|h
    ·exact absurd h hne
    ·rw [h] at hi';cases hi'
  ·have zq12:=(d3 O).2 hkd
   rcases fH hi with ⟨j,rfl,hj⟩| ⟨_,hi'⟩
   ·have:=O.xs x (Q8 hj)
    rw [zq12.1] at this;cases this
   ·have hlt:=hn x i hi'
    rcases lZ _ _ _ _ _ hvv with ⟨j',e,hj'⟩| ⟨_,hv'⟩
    ·lia
    ·have hvar:b0 cx x=some i:=by unfold b0;rw [zq12.2];exact hi'
     cases (p.f x i v hvar hv').mono le with
     |loc _ h3 _ _=>rw [zq12.2] at h3;cases h3
     |cell rv c o _ e1 e2 e3 e4=>exact .cell rv c o hkd (hcl x c (aU zq12.1) e1) (hk▸e2) e3 e4
abbrev rM (env:Env) (x:Str) (f:Value->Sem Unit):Prop:= ∀ (M:Model) (A:Around) (v:Value) (Q:Unit->Shared->Prop) (E:Value->Shared->Prop) (s:Shared),wpAny M A (storeName env x v) Q E s->wpAny M A (f v) Q E s
theorem j4 {es:List Expr}{xs:List Str} (h:bM (λe x=>dY e=some x) es xs):bM (rM env) xs ((assignEach es env).map (·.2))/\(assignEach es env).length=xs.length/\(assignEach es env).findIdx? (·.1)=none:=by
 induction h with
 |nil=>exact ⟨.nil,rfl,rfl⟩
 | @cons e x es xs h _ ih=>
  obtain ⟨p,hp,rfl⟩:=ms h;cases cT hp;refine ⟨.cons (λ_ _ _ _ _ _ z=>PySem.wpAny_assign_Name z) ih.1,congrArg (· +1) ih.2.1,?_⟩;show KB _ ((false,assign (.Name p.1 p.2) env)::assignEach es env)=none;rw [Kd];simp only [Ji,if_false,ih.2.2,ZQ]
theorem zfX {t:Expr}{q:List Str×Bool} (h:kF t=some q):(∃x p,t= .Name x p/\q=([x],false))\/∃es n p,t= .Tuple es n p/\q.2=true/\bM (λe x=>dY e=some x) es q.1:=by
 revert h
 refine aT (aX λp hp e=>?_) (aF λp hp=>aX λxs hx e=>?_)
 ·exact .inl ⟨p.1,p.2,cT hp,e.symm⟩
 ·subst e
  exact .inr ⟨p.1,p.2.1,p.2.2,lR hp,rfl,dZ hx⟩
inductive zgv (fr fr1:Frame) (tg:List Nat) (many:Bool) (v:Val):Prop
 |mk (mvs:List Val) (l:mvs.length=tg.length) (e:fr1=eK tg mvs fr) (t:many=true->v= .tup mvs) (f:many=false->mvs= [v]):zgv fr fr1 tg many v
theorem zR {tg:List Nat}{many:Bool}{v:Val}{fr1:Frame} (h:b9 fr tg many v=some fr1):zgv fr fr1 tg many v:=by
 cases many with
 |true=>
  obtain ⟨vs,h1,h⟩:=bs (o:=v.tup?) h;exact ⟨vs,beq_iff_eq.mp (gs h).1,(Qf.inj (gs h).2).symm,λ_=>tup?_s h1,λq=>Km q⟩
 |false=>
  exact ⟨[v],(beq_iff_eq.mp (gs (b:=tg.length==1) h).1).symm,(Qf.inj (gs (b:=tg.length==1) h).2).symm,λq=>Km q,λ_=>rfl⟩
theorem kG (hk:env.scope.kind= .function) {x:Str} (hx:env.kindOf x=some .local) {oN:Obj}{mN:Str->Option Value} (S:St Y (k.ext (env.locals,oN)) w H s) (hns:NsO oN mN) {rv:Value}{Q:Unit->Shared->Prop}{E:Value->Shared->Prop}
  (h: ∀oN' mN' h' tk,Sta C Y.h₀ Y.L (k.ext (env.locals,oN')) w H h'->NsO oN' mN'->mN' x=some rv->(∀y,y≠x->mN' y=mN y) ->Q () {s with heap:=h',toks:=tk}):wpAny C.M Y.A (storeName env x rv) Q E s:=by
 refine QY hns λes zq6=>zq6.elim λep zq7=>?_;refine wpAny_storeName_local (m:=mN) hx ⟨oN,es,ep,S.exHead.1,zq7⟩ (λh' hn hs=>?_) (by rw [hk];rfl);refine QY hn λo' zq3=>zq3.elim λes' zq4=>zq4.elim λep' zq5=>?_;exact h o' _ h' _ (S.setEx hs zq5.1) ⟨es',ep',zq5.2⟩ (if_pos rfl) (λy hy=>if_neg hy)
theorem zec (hk:env.scope.kind= .function) {xs:List Str}{fs:List (Value->Sem Unit)} (hb:bM (rM env) xs fs):(∀x∈xs,env.kindOf x=some .local) ->xs.Nodup-> ∀ {vs:List Value}{oN:Obj}{mN:Str->Option Value}{s:Shared}{Q:Unit->Shared->Prop}{E:Value->Shared->Prop},
  vs.length=xs.length->St Y (k.ext (env.locals,oN)) w H s->NsO oN mN->
  (∀oN' mN' h' tk,Sta C Y.h₀ Y.L (k.ext (env.locals,oN')) w H h'->NsO oN' mN'->(∀ (j:Nat) x,xs[j]?=some x->mN' x=vs[j]?) ->(∀y,y∉xs->mN' y=mN y) ->Q () {s with heap:=h',toks:=tk}) ->wpAny C.M Y.A (assignInOrder fs vs) Q E s:=by
 induction hb with
 |nil=>
  intro _ _ vs oN mN s Q E hl S hns h;cases QR.mp hl;exact wpAny_pure (h oN mN s.heap s.toks S hns (λj x hj=>nos hj) (λ_ _=>rfl))
 | @cons x f xs fs hf _ ih=>
  intro hx hd vs oN mN s Q E hl S hns h;cases vs with
  |nil=>cases hl
  |cons v vs=>
   show wpAny C.M Y.A (do holding _ _;assignInOrder _ _) Q E s;refine wpAny_bind (wpAny_holding (hf _ _ _ _ _ _ (kG hk (hx x (.head _)) S hns λoN1 mN1 h1 tk S1 hns1 e1 e2=>?_)));refine ih (λy hy=>hx y (.tail _ hy)) (Qu.mp hd).2 (s:={s with heap:=h1,toks:=tk}) (Qp.inj hl) S1 hns1 λoN2 mN2 h2 tk2 S2 hns2 k1 k2=>?_;refine h oN2 mN2 h2 tk2 S2 hns2 (λj y hj=>?_) (λy hy=>(k2 y λq=>hy (.tail _ q)).trans (e2 y λq=>hy (q▸ .head _)));cases j with
   |zero=>cases hj;rw [k2 _ (Qu.mp hd).1,e1];rfl
   |succ j=>exact k1 j y hj
theorem zfG (hk:env.scope.kind= .function) {t:Expr}{q:List Str×Bool} (ht:kF t=some q) (hx: ∀x∈q.1,env.kindOf x=some .local) (hd:q.1.Nodup) {v:Val}{mvs:List Val}{rv:Value} (h1:q.2=true->v= .tup mvs) (h2:q.2=false->mvs= [v]) (hl:mvs.length=q.1.length) (hv:aB C w v rv)
  {oN:Obj}{mN:Str->Option Value} (S:St Y (k.ext (env.locals,oN)) w H s) (hns:NsO oN mN) {Q:Unit->Shared->Prop}{E:Value->Shared->Prop}
  (h: ∀vs oN' mN' h' tk,aA C w mvs vs->Sta C Y.h₀ Y.L (k.ext (env.locals,oN')) w H h'->NsO oN' mN'->(∀ (j:Nat) x,q.1[j]?=some x->mN' x=vs[j]?) ->Q () {s with heap:=h',toks:=tk}):wpAny C.M Y.A (assign t env rv) Q E s:=by
 rcases zfX ht with ⟨x,p,rfl,rfl⟩| ⟨es,n,p,rfl,hq,hes⟩
 ·cases h2 rfl
  refine PySem.wpAny_assign_Name (kG hk (hx x (.head _)) S hns λoN' mN' h' tk S' hns' e1 _=>h [rv] oN' mN' h' tk (.one hv) S' hns' λj y hj=>?_);cases j with
  |zero=>cases hj;exact e1
  |succ j=>exact nos hj
 ·cases h1 hq
  have zq2:=j4 (env:=env) hes;obtain ⟨tt,o,n',ws,rfl,ho,hc,hdd,rr,_⟩:=S.tup hv;exact assign_Tuple_tuple (items:=ws.toArray) Y.handled ⟨o,ho,hc,n',hdd⟩ (by rw [zq2.2.1,Qw,<-rr.length,hl]) zq2.2.2 λh' he=>zec hk zq2.1 hx hd (s:={s with heap:=h'}) (by rw [<-rr.length,hl]) (S.grown he) hns λoN' mN' h'' tk S2 hns2 k1 _=>h ws oN' mN' h'' tk rr S2 hns2 k1
end
structure CpO (C:Cfg) (d:Nat) (cx:CC) (g:Comprehension) (sc:Scope) (elt:Expr) (q:List Str×Bool) (ie ii:Ex) (iifs:List Ex):Prop where
 as:g.is_async=0
 t:kF g.target=some q
 o:zfM cx sc q.1
 it:Sd C d cx g.iter ii
 elt:Sd C d (inComp cx sc q.1) elt ie
 ifs:Sds C d (inComp cx sc q.1) g.ifs iifs
section
variable {C:Cfg}{d e:Nat}{k:Kp}{w:Wd}{H:MH}{s:Shared}{cx:CC}{env:Env}{mE:Str->Option Value}{fr:Frame}{gl:List (Str×Val)}
inductive zrE (C:Cfg) {d e:Nat} (Y:aH C d e) (k:Kp) (w0:Wd) (s0:Shared) (I N:Addr) (z:It) (F:Nat->MH->Option (Unit×MH)) (r:Unit×MH) (s:Shared):Prop
 |mk (w:Wd) (H:MH) (j:Nat) (io oN:Obj) (mN:Str->Option Value) (le:w0.le w) (st:St Y ((k.ext (N,oN)).ext (I,io)) w H s) (ns:NsO oN mN) (it:dF C w io j z) (sm:dR s0 s) (lp:F j H=some r):zrE C Y k w0 s0 I N z F r s
theorem zM {Y:aH C d 2}{g:Comprehension}{sc:Scope}{elt:Expr}{q:List Str×Bool}{ie ii:Ex}{iifs:List Ex}{pos ps:Pos} (O:CpO C d cx g sc elt q ie ii iifs) (hn:sG cx) (p:Pl Y cx env k mE fr w H s) {r:Val×MH}
  (ev:eval (C.cx d) (.comp ie (QA cx.next q.1.length) q.2 ii iifs) fr H=some r) {use:Option (Value->Sem Unit)}{Q:Value->Shared->Prop}{E:Value->Shared->Prop}
  (hpost: ∀w' D N oN mN s',w.le w'->St Y (k.ext (N,oN)) w' r.2 s'->NsO oN mN->aB C w' r.1 (.ref D) ->dR s s'->compPost C.M Y.A E use Q (.ref D) N (.ok .next) s'):
  wpAny C.M Y.A (comprehension (.ListComp elt [g] sc pos) sc env ps (newList []) false (PySem.eval g.iter env) use) Q E s:=by
 have as:=O.as;have Os:=O.o;obtain ⟨t,it,ifs,a⟩:=g;have as:a=0:=as;subst as
 revert ev
 refine aC λv H1 ev1=>aF λz hz=>aC λ_ H2 lp e=>?_;cases e;obtain ⟨cl,hclos,hcl⟩:=xY (scope:=sc) (env:=env) λx hx hf=>by
  refine (p.b.cells x.1 (Os.free x hx hf).2).elim λc zq11=>zq11.elim λ_ zq12=>zq12.elim λ_ zq13=>?_;rw [zq13.1];rfl
 refine wpAny_comprehension_free rfl (O.it.sy.fold env) hclos Os.kind (λx hx hl=>(Os.loc x hx hl).1) (O.it.es Y env k mE fr w H s p _ ev1 _ _ λw1 a1 s1 n1 r1=>sT n1.st r1 (λI io h2 S2 R2=>?_) hz);obtain ⟨all,hnn,add,_,_⟩:=S2.ledger;refine wpAny_newObj_type (wpAny_newFunctionEnv Os.nocell (by intro y hy;simp at hy) (λh₁ hns₁ hsb₁=>?_) Os.kind);have le2:w1.le ⟨w1.σ++ [h2.objs.size],w1.tp⟩:=⟨Qs _ _,λ_ x=>x⟩;have S3:=add _ (.list []) [(h2.objs.size,listOf ([]:List Value).toArray 0)] _ ⟨[],0,rfl,.nil,QO _⟩ (S2.fr.push _) (hnn.push S2.fr _) (cD _) (News.fresh hnn λp hp=>Ql.mp hp▸Qo _) (S2.four (Qo _));have hD:(w1.σ++ [h2.objs.size])[H1.length]?=some h2.objs.size:=by rw [<-S2.len];exact Qt
 refine QY hns₁ λoN zq8=>zq8.elim λesN zq9=>zq9.elim λepN zq10=>?_;have n1':=zq10.1;have nn:=zq10.2;have S4 := (S3.addEx { cls := .type "dict",data := .dict #[] } rfl).setEx hsb₁ n1';have hns:NsO oN (λx=>ZW x ([]:List (Str×Value)).reverse):=⟨esN,epN,nn⟩
 generalize hNN:(h2.push _).objs.size=N at*
 generalize hDD:h2.objs.size=D at*
 clear hNN add hnn S3 hsb₁ n1' nn
 have loop: ∀s4:Shared,s4.heap=h₁->dR s s4->codeAny C.M Y.A (.compLoop (.ListComp elt [⟨t,it,ifs,0⟩] sc pos) 0 (.ref I) (.ref D) (compEnvC sc cl N env)) (compPost C.M Y.A E use Q (.ref D) N) s4:=by
  intro s4 hs4 sm4;refine gL (λn s'=>zrE C Y k ⟨w1.σ++ [D],w1.tp⟩ s I N z (compLoop (λi h=>aZ h i z) (λv h=>(b9 fr (QA cx.next q.1.length) q.2 v).bind λfr'=>bnd (jA (C.cx d) iifs fr' h) λb h'=>some (bif b then some fr' else none,h')) (λfr' h=>eval (C.cx d) ie fr' h) H1.length n) ((),H2) s')
   ?_ (C.cx d).fuel ⟨_,_,0,io,oN,_,.refl _,by rw [St,hs4];exact S4.exSwap,hns,R2.mono le2,sm4,lp⟩
  rintro n s' ⟨w5,H5,j,io',oN',mN',le5,S5,hns5,R5,sm5,lp5⟩
  cases n with
  |zero=>exact nos lp5
  |succ n=>
   revert lp5
   refine aF λov hov lp5=>sR S5 R5 hov ⟨λu rv io6 h' tk hu S6 R6 hr=>?_,λh' hu S6=>?_⟩
   ·subst hu
    refine l4 (s:={s' with heap:=h',toks:=tk}) S6.exHead.1 R6.cls ?_
    revert lp5
    refine aC λofr H7 htest lp5=>?_;obtain ⟨fr2,hbind,htest⟩:=bs htest;obtain ⟨mvs,b1,b2,b3,b4⟩:=zR hbind;rw [List.length_range'] at b1;refine zfG (s:={s' with heap:=h',toks:=tk}) (env:=compEnvC sc cl N env) (k:=k.ext (I,io6)) Os.kind O.t (λx hx=>lookup_relabel_local (Os.xs x hx)) Os.nd b3 b4 b1 hr (Sta.exSwap S6) hns5 λvs oN7 mN7 h7 tk7 rr7 S7 hns7 hm7=>?_;have S7':St Y ((k.ext (N,oN7)).ext (I,io6)) w5 H5 {s' with heap:=h7,toks:=tk7}:=Sta.exSwap S7;have P7:=(p.next n1).inner (k':=(k.ext (N,oN7)).ext (I,io6)) Os hn hcl rfl (.tail _ (.head _)) hns7 (le2.trans le5) S7' rr7 b1 hm7;rw [<-b2] at P7
    revert htest
    refine aC λb H8 htt e8=>?_;cases e8;refine zab O.ifs Y _ _ _ _ _ _ _ P7 _ htt _ _ λw8 ok s8 n8 r8=>?_;rw [show ok=b from r8];cases b with
    |false=>exact ⟨n,QS n,w8,_,j+1,io6,oN7,mN7,le5.trans n8.le,n8.st,hns7,R6.mono n8.le,((dR.trans sm5 ⟨n8.same.1,n8.same.2⟩):dR s s8),lp5⟩
    |true=>
     revert lp5
     refine aC λx9 H9 ev9=>aF λacc hacc=>bE λhlen lp9=>?_;refine O.elt.es Y _ _ _ _ _ _ _ (P7.next n8) _ ev9 _ _ λw9 xv s9 n9 r9=>?_;refine lY n9.st (((le5.trans n8.le).trans n9.le).get hD:w9.σ[H1.length]?=some D) hacc r9 (Qr.mp hlen) _ rfl _ _ λw10 _ s10 n10 _=>?_;exact ⟨n,QS n,w10,_,j+1,io6,oN7,mN7,((le5.trans n8.le).trans n9.le).trans n10.le,n10.st,hns7,R6.mono ((n8.le.trans n9.le).trans n10.le),(((dR.trans sm5 ⟨n8.same.1,n8.same.2⟩):dR s s8).trans n9.same).trans n10.same,lp9⟩
   ·subst hu
    cases lp5;exact hpost w5 D N oN' mN' {s' with heap:=h'} ((n1.le.trans le2).trans le5) S6 hns5 ⟨D,rfl,le5.get hD⟩ ⟨sm5.1,sm5.2⟩
 exact codeAny_compStart_list (loop _ rfl ⟨n1.same.1,n1.same.2⟩) (qR (s:={s1 with heap:=h₁,toks:=_}) (Sta.exHead (Sta.exSwap S4)).1 R2 (loop _ rfl ⟨n1.same.1,n1.same.2⟩))
theorem bD {e:Expr} (h1: ∀rest env,starEach (e::rest) env=(false,PySem.eval e env)::starEach rest env) (h2: ∀o i,subscripted e false o i=operate [o,i] (getItem o i)) (h3: ∀op,behindInMarks op e=false) (h4: ∀env x,foldedSetIterable e env x=pure x) (h5: ∀t n env,swapsWith e t n env=pure false):Sy e:=⟨h1,h2,h3,h4,λ_=>h5⟩
theorem Sd.of {e:Expr}{ir:Ex} (h:bU C d cx e ir) (he: ∀ (env:Env) (whole:Sem Value),PySem.isTrue e env whole=(do let v<-whole;standAt e.pos;holding [v] (PySem.truthy v))) (sy:Sy e):Sd C d cx e ir:=⟨h,vO h he,sy⟩
theorem lS (O:cA C gl) (hC:c5 C d): ∀ (n:Nat) (cx:CC),zdI C cx.gl->sG cx-> ∀ (e:Expr) (ir:Ex),bF n cx e=some ir->Sd C d cx e ir:=by
 intro n
 induction n with
 |zero=>exact λcx _ _ e ir h=>nos h
 |succ n ih'=>
  intro cx hg hcc e ir;have ih:=ih' cx hg hcc;have ihs: ∀ {es irs},cW (bF n cx) es=some irs->Sds C d cx es irs:=λh=>(dZ h).mono ih;cases e with
  |Constant c m pos=>exact aX λv hv e=>e▸ .of (zaj hv) (λ_ _=>rfl) (bD (λ_ _=>rfl) (λ_ _=>rfl) (λ_=>rfl) (λ_ _=>rfl) (λ_ _ _=>rfl))
  |Name x pos=>exact λh=> .of (sS hg h) (λ_ _=>rfl) (bD (λ_ _=>rfl) (λ_ _=>rfl) (λ_=>rfl) (λ_ _=>rfl) (λ_ _ _=>rfl))
  |BoolOp op vs pos=>
   exact aX λirs hi e=>e▸ ⟨λY env k mE fr w H s p=>zer (pos:=pos) (ihs hi) Y env k mE fr w H s p,λY env k mE fr w H s p r e Q E hq=>wpAny_isTrue_BoolOp (zbv (ihs hi) Y env k mE fr w H s p r e Q E hq),bD (λ_ _=>rfl) (λ_ _=>rfl) (λ_=>rfl) (λ_ _=>rfl) (λ_ _ _=>rfl)⟩
  |BinOp l op r pos=>
   exact aF λo ho=>aF λa ha=>aX λb hb e=>e▸ .of (zes ho (ih _ _ ha).es (ih _ _ hb).es) (λ_ _=>rfl) (bD (λ_ _=>rfl) (λ_ _=>rfl) (λ_=>rfl) (λ_ _=>rfl) (λ_ _ _=>rfl))
  |UnaryOp op x pos=>
   refine bE λho=>aX λa ha e=>e▸?_;cases op with
   |Not=>exact ⟨zej (ih _ _ ha).es,zbt (ih _ _ ha).ts,bD (λ_ _=>rfl) (λ_ _=>rfl) (λ_=>rfl) (λ_ _=>rfl) (λ_ _ _=>rfl)⟩
   |_=>cases ho
  |IfExp t x y pos=>
   exact aF λa ha=>aF λb hb=>aX λc hc e=>e▸ ⟨zeo (ih _ _ ha).ts (ih _ _ hb).es (ih _ _ hc).es,zbu (ih _ _ ha).ts (ih _ _ hb).ts (ih _ _ hc).ts,bD (λ_ _=>rfl) (λ_ _=>rfl) (λ_=>rfl) (λ_ _=>rfl) (λ_ _ _=>rfl)⟩
  |List es pos=>exact bE λhl=>aX λirs hi e=>e▸ .of (zbM (ihs hi) hl) (λ_ _=>rfl) (bD (λ_ _=>rfl) (λ_ _=>rfl) (λ_=>rfl) (λ_ _=>rfl) (λ_ _ _=>rfl))
  |Tuple es m pos=>exact bE λhl=>aX λirs hi e=>e▸ .of (zaa (ihs hi) hl) (λ_ _=>rfl) (bD (λ_ _=>rfl) (λ_ _=>rfl) (λ_=>rfl) (λ_ _=>rfl) (λ_ _ _=>rfl))
  |Compare l ops cs pos=>
   intro h;obtain ⟨o,rfl,h⟩:=dX h;obtain ⟨r,rfl,h⟩:=dX h
   revert h
   exact aF λa ha=>aX λb hb e=>e▸ ⟨sX O.cfg (ih _ _ ha).es (ih _ _ hb),qO O.cfg (ih _ _ ha).es (ih _ _ hb),bD (λ_ _=>rfl) (λ_ _=>rfl) (λ_=>rfl) (λ_ _=>rfl) (λ_ _ _=>rfl)⟩
  |Call f as ks pos=>
   refine bE λhk=>aF λirs hi h=>?_;have hk:=Qa.mp hk;cases ks with
   |cons _ _=>cases hk.1
   |nil=>
    refine .of ?_ (λ_ _=>rfl) (bD (λ_ _=>rfl) (λ_ _=>rfl) (λ_=>rfl) (λ_ _=>rfl) (λ_ _ _=>rfl))
    revert h
    refine aT (aF λp hp=>aX λg hgn e=>?_) (aF λp hp=>bE λhc=>aX λg hgn e=>?_)
    ·rw [<-e,cT hp]
     exact qT O hC (ihs hi) (sS hg hgn)
    ·have hc:=Qa.mp hc
     rw [<-e,nT hp];exact qU O hC (ihs hi) (Qr.mp hk.2) (ih _ _ hgn).es (Qa.mp hc.1).1 (Qa.mp hc.1).2 hc.2
  |Attribute v nm pos=>
   exact bE λhc=>aX λa ha e=>e▸ .of (zbT O (ih _ _ ha).es (Qa.mp hc).1 (Qa.mp hc).2) (λ_ _=>rfl) (bD (λ_ _=>rfl) (λ_ _=>rfl) (λ_=>rfl) (λ_ _=>rfl) (λ_ _ _=>rfl))
  |Subscript v sl pos=>
   intro h;refine .of ?_ (λ_ _=>rfl) (bD (λ_ _=>rfl) (λ_ _=>rfl) (λ_=>rfl) (λ_ _=>rfl) (λ_ _ _=>rfl));have h:Qc (motive:=λ_=>Option Ex) (jL sl) ((bF n cx v).bind λe=>(bF n cx sl).map λi=> .sub e i) (λp=>grd ((cI v).isSome && p.2.2.1.isNone) ((bF n cx v).bind λe=>(rX (bF n cx) p.1 p.2.1).map λq=> .slice e q.1 q.2))=some ir:=h;cases hs:jL sl with
   |none=>
    rw [hs] at h
    revert h
    exact aF λa ha=>aX λb hb e=>e▸zei (ih _ _ ha).es (ih _ _ hb)
   |some p=>
    rw [hs] at h
    revert h
    refine bE λhc=>aF λa ha=>aX λq hq e=>?_;rw [<-e,za9 hs,Q4.mp (Qa.mp hc).2];exact zad (Qa.mp hc).1 (ih _ _ ha).es ih hq
  |Dict ks vs pos=>
   refine bE λhl=>aF λia ha=>aX λib hb e=>e▸?_;exact .of (zbR ((dZ ha).mono λo i h=>(bs h).elim λe h=>⟨e,h.1,ih _ _ h.2⟩) (ihs hb) (beq_iff_eq.mp hl)) (λ_ _=>rfl) (bD (λ_ _=>rfl) (λ_ _=>rfl) (λ_=>rfl) (λ_ _=>rfl) (λ_ _ _=>rfl))
  |ListComp elt gens sc pos=>
   intro h;obtain ⟨g,rfl,h⟩:=dX h
   revert h
   refine aF λq hq=>bE λhc=>aF λii hi=>aF λiifs hf=>aX λie he e=>e▸?_;have hc:=Qa.mp hc;have P:CpO C d cx g sc elt q ie ii iifs:=⟨beq_iff_eq.mp hc.1,hq,yY hc.2,ih _ _ hi,(ih' (inComp cx sc q.1) hg (hcc.inComp sc q.1)) _ _ he,(dZ hf).mono (ih' (inComp cx sc q.1) hg (hcc.inComp sc q.1))⟩;refine .of (λY env k mE fr w H s p r ev Q E hQ=>?_) (λ_ _=>rfl) ⟨λ_ _=>rfl,λ_ _=>rfl,λ_=>rfl,λ_ _=>rfl,λq=>nomatch q⟩;obtain ⟨t,it,ifs,a⟩:=g;have ha:a=0:=beq_iff_eq.mp hc.1;subst ha;rw [eval_ListComp];refine zM P hcc p ev λw' D N oN mN s' le S' hns r' sm=>?_;refine QY hns λes zq1=>zq1.elim λep zq2=>?_;exact ⟨mN,⟨oN,es,ep,S'.exHead.1,zq2⟩,λh' hs=>hQ w' _ {s' with heap:=h'} ⟨le,S'.endEx hs.extBut,sm.1,sm.2⟩ r'⟩
  |_=>exact λh=>nos h
end
inductive FlR (C:Cfg) (w:Wd):Fl->Flow->Prop
 |nx:FlR C w .nx .next
 |bk:FlR C w .bk .brk
 |ct:FlR C w .ct .cont
 |rt {v:Val}{rv:Value}:aB C w v rv->FlR C w (.rt v) (.ret rv)
structure zrF (cx:CC) (env:Env) (L:Addr):Prop where
 kind:env.scope.kind= .function
 gl:env.globals=mainGlobals
 bl:env.builtins=builtinsNs
 sc:env.scope.names=cx.sc
 cells: ∀x,cx.sc.lookup x=some .cell-> ∃c,env.cells.lookup x=some c
 cinj: ∀x y c,cx.sc.lookup x=some .cell->cx.sc.lookup y=some .cell->env.cells.lookup x=some c->env.cells.lookup y=some c->x=y
 loc:env.locals=L
 inj: ∀x y i,b0 cx x=some i->b0 cx y=some i->x=y
def zyi (cx:CC) (env:Env) (ce:Led):Prop:= ∀x c,cx.sc.lookup x=some .cell->env.cells.lookup x=some c-> ∃o v₀,(c,o)∈ce/\o.data= .cell v₀
structure PlS {C:Cfg}{d e:Nat} (Y:aH C d e) (cx:CC) (env:Env) (k:Kp) (fr:Frame) (w:Wd) (H:MH) (s:Shared):Prop where
 b:zrF cx env Y.L
 c:zyi cx env k.ce
 f:zrD C w cx env k.ce k.m fr
 st:St Y k w H s
theorem PlS.pl {C:Cfg}{d e:Nat}{Y:aH C d e}{cx:CC}{env:Env}{k:Kp}{fr:Frame}{w:Wd}{H:MH}{s:Shared} (p:PlS Y cx env k fr w H s):Pl Y cx env k k.m fr w H s:=
 ⟨⟨p.b.kind,p.b.gl,p.b.bl,p.b.sc,λx h=>(p.b.cells x h).elim λc hc=>(p.c x c h hc).elim λo h=>h.elim λv₀ h=>⟨c,o,v₀,hc,h.1,h.2⟩,.inl ⟨p.b.loc,rfl⟩⟩,p.f,p.st⟩
theorem PlS.next {C:Cfg}{d e:Nat}{Y:aH C d e}{cx:CC}{env:Env}{k:Kp}{fr:Frame}{w w':Wd}{H H':MH}{s s':Shared} (p:PlS Y cx env k fr w H s) (n:Nxt Y k w w' H' s s'):PlS Y cx env k fr w' H' s':=⟨p.b,p.c,λx i v a b=>(p.f x i v a b).mono n.le,n.st⟩
structure NxS {C:Cfg}{d e:Nat} (Y:aH C d e) (cx:CC) (env:Env) (ex:Led) (w:Wd) (s:Shared) (k':Kp) (fr':Frame) (w':Wd) (H':MH) (s':Shared):Prop where
 ex:k'.ex=ex
 le:w.le w'
 pl:PlS Y cx env k' fr' w' H' s'
 same:dR s s'
theorem NxS.trans {C:Cfg}{d e:Nat}{Y:aH C d e}{cx:CC}{env:Env}{ex:Led}{w w1 w2:Wd}{s s1 s2:Shared}{k1 k2:Kp}{fr1 fr2:Frame}{H1 H2:MH} (a:NxS Y cx env ex w s k1 fr1 w1 H1 s1) (b:NxS Y cx env k1.ex w1 s1 k2 fr2 w2 H2 s2):NxS Y cx env ex w s k2 fr2 w2 H2 s2:=⟨b.ex.trans a.ex,a.le.trans b.le,b.pl,a.same.trans b.same⟩
theorem PlS.nx {C:Cfg}{d e:Nat}{Y:aH C d e}{cx:CC}{env:Env}{k:Kp}{fr:Frame}{w w':Wd}{H H':MH}{s s':Shared} (p:PlS Y cx env k fr w H s) (n:Nxt Y k w w' H' s s'):NxS Y cx env k.ex w s k fr w' H' s':=⟨rfl,n.le,p.next n,n.same⟩
theorem PlS.rf {C:Cfg}{d e:Nat}{Y:aH C d e}{cx:CC}{env:Env}{k:Kp}{fr:Frame}{w:Wd}{H:MH}{s:Shared} (p:PlS Y cx env k fr w H s):NxS Y cx env k.ex w s k fr w H s:=⟨rfl,.refl w,p,.refl s⟩
def SBr {C:Cfg}{d e:Nat} (Y:aH C d e) (cx:CC) (env:Env) (ex:Led) (t:Sem Flow) (w:Wd) (s:Shared) (r:(Fl×Frame)×MH):Prop:=
 ∀ (Q:Flow->Shared->Prop) (E:Value->Shared->Prop),(∀k' w' f s',NxS Y cx env ex w s k' r.1.2 w' r.2 s'->FlR C w' r.1.1 f->Q f s') ->wpAny C.M Y.A t Q E s
def iI (C:Cfg) (d:Nat) (cx:CC) (st:Stmt) (ir:Sm):Prop:=
 ∀ (Y:aH C d 2) (env:Env) (k:Kp) (fr:Frame) (w:Wd) (H:MH) (s:Shared),PlS Y cx env k fr w H s-> ∀r,exec (C.cx d) ir fr H=some r->SBr Y cx env k.ex (PySem.exec st env) w s r
def g5 (C:Cfg) (d:Nat) (cx:CC) (st:List Stmt) (ir:List Sm):Prop:=
 ∀ (Y:aH C d 2) (env:Env) (k:Kp) (fr:Frame) (w:Wd) (H:MH) (s:Shared),PlS Y cx env k fr w H s-> ∀r,execs (C.cx d) ir fr H=some r->SBr Y cx env k.ex (PySem.execs st env) w s r
section
variable {C:Cfg}{d e:Nat}{Y:aH C d e}{k:Kp}{w:Wd}{H:MH}{s:Shared}{cx:CC}{env:Env}{fr:Frame}{gl:List (Str×Val)}
def qH (ce:Led) (c:Addr) (o:Obj):Led:=ce.map λp=>if p.1=c then (c,o) else p
theorem za4 (ce:Led) (c:Addr) (o:Obj):(qH ce c o).map (·.1)=ce.map (·.1):=by
 unfold qH;rw [List.map_map]
 apply Z3
 intro p _;show (if p.1=c then (c,o) else p).1=p.1;split
 ·rename_i h;exact h.symm
 ·rfl
theorem Sta.setCe {h₀:Heap}{L:Addr}{h h':Heap}{c:Addr}{o o':Obj} (S:Sta C h₀ L k w H h) (hc:(c,o)∈k.ce) (hs:Heap.SameBut c h h') (ho:h'.get? c=some o'):Sta C h₀ L {k with ce:=qH k.ce c o'} w H h':=by
 obtain ⟨os,he,hn,hd⟩:=S.os;have g:=hn (c,o) (Qi _ (Qi _ (QT _ hc)));have hp: ∀ce:Led,({k with ce:=ce}:Kp).all w os|>.Perm (ce++(os.flatten++(w.tp++k.ex))):=λce=>
  (List.Perm.append_left os.flatten (Q9 w.tp ce k.ex)).trans (Q9 os.flatten ce (w.tp++k.ex))
 have hd1:=Led.nd.perm (hp k.ce) hd;unfold Led.nd at hd1;have hd2:=hd1;rw [QF,J2] at hd2;refine ⟨Fr.sameBut S.fr hs g.2,⟨os,he,λp hpm=>?_,Led.nd.perm (hp _).symm ?_⟩,S.big,S.lo⟩
 ·rcases Jf.mp ((hp _).mem_iff.mp hpm) with hpm|hpm
  ·refine (QC.mp hpm).elim λq zq14=>?_
   have e:=zq14.2;by_cases hqc:q.1=c
   ·rw [if_pos hqc] at e
    rw [<-e];exact ⟨ho,g.2⟩
   ·rw [if_neg hqc] at e
    rw [<-e]
    have:=hn q (Qi _ (Qi _ (QT _ zq14.1)))
    exact ⟨(hs.2 q.1 hqc).trans this.1,this.2⟩
  ·have:=hn p ((hp k.ce).mem_iff.mpr (Qi _ hpm))
   exact ⟨(hs.2 p.1 λe=>hd2.2.2 c (QC.mpr ⟨_,hc,rfl⟩) p.1 (QC.mpr ⟨_,hpm,rfl⟩) e.symm).trans this.1,this.2⟩
 ·unfold Led.nd
  rw [QF,za4,<-QF];exact hd1
theorem dU (p:PlS Y cx env k fr w H s) {x:Str}{i:Nat}{v:Val}{rv:Value} (hi:b0 cx x=some i) (r:aB C w v rv) {A':Around}{Q:Unit->Shared->Prop}{E:Value->Shared->Prop}
  (h: ∀k' s',NxS Y cx env k.ex w s k' (fr.set i (some v)) w H s'->Q () s'):wpAny C.M A' (storeName env x rv) Q E s:=by
 have other: ∀ {y j},b0 cx y=some j->i≠j->y≠x:=λhj hij e=>hij (by rw [e,hi] at hj;exact Qf.inj hj);rcases (lK hi).1 with hk|hk
 ·refine wpAny_storeName_local (p.pl.b.kindOf hk) (by rw [p.b.loc];exact p.st.fr.ns) (λh' hn hs=>?_) (by rw [p.b.kind];rfl)
  rw [p.b.loc] at hn hs;obtain ⟨os,he,hnn,hd⟩:=p.st.os;refine h {k with m:=λy=>if y=x then some rv else k.m y} _ ⟨rfl,.refl w,⟨p.b,p.c,λy j u hj hu=>?_,⟨p.st.fr.set hn hs,⟨os,he,hnn.set hs,hd⟩,p.st.big,p.st.lo⟩⟩,rfl,rfl⟩;rcases zbW hu with ⟨rfl,rfl⟩| ⟨hij,hu'⟩
  ·cases p.b.inj y x _ hj hi
   exact .loc rv hk (if_pos rfl) r
  ·cases p.f y j u hj hu' with
   |loc rv' h1 h2 h3=>exact .loc rv' h1 ((if_neg (other hj hij)).trans h2) h3
   |cell rv' c o h1 h2 h3 h4 h5=>exact .cell rv' c o h1 h2 h3 h4 h5
 ·refine (p.b.cells x hk).elim λc zq13=>?_
  have hc:=zq13;refine (p.c x c hk hc).elim λo zq11=>zq11.elim λv₀ zq12=>?_;refine wpAny_storeName_cell p.b.kind (p.pl.b.kindOf hk) hc ⟨o,p.st.ceAt zq12.1,zq12.2⟩ λh' hv hs=>?_;refine QY hv λo' zq10=>?_;have g2:=zq10.2;have hmem: ∀ {y cy oy},cx.sc.lookup y=some .cell->env.cells.lookup y=some cy->(cy,oy)∈k.ce->y≠x->(cy,oy)∈qH k.ce c o':=λ{y cy oy} hy hcy hm hyx=>
   QC.mpr ⟨(cy,oy),hm,if_neg λe=>hyx (p.b.cinj y x c hy hk (by rw [hcy];exact congrArg some e) hc)⟩
  have hself:(c,o')∈qH k.ce c o':=QC.mpr ⟨(c,o),zq12.1,if_pos rfl⟩;refine h {k with ce:=qH k.ce c o'} _ ⟨rfl,.refl w,⟨p.b,λy cy hy hcy=>?_,λy j u hj hu=>?_,p.st.setCe zq12.1 hs zq10.1⟩,rfl,rfl⟩
  ·by_cases hyx:y=x
   ·subst hyx
    rw [hc] at hcy;cases hcy;exact ⟨o',some rv,hself,g2⟩
   ·refine (p.c y cy hy hcy).elim λoy zq8=>zq8.elim λvy zq9=>?_
    exact ⟨oy,vy,hmem hy hcy zq9.1 hyx,zq9.2⟩
  ·rcases zbW hu with ⟨rfl,rfl⟩| ⟨hij,hu'⟩
   ·cases p.b.inj y x _ hj hi
    exact .cell rv c o' hk hc hself g2 r
   ·cases p.f y j u hj hu' with
    |loc rv' h1 h2 h3=>exact .loc rv' h1 h2 h3
    |cell rv' cy oy h1 h2 h3 h4 h5=>exact .cell rv' cy oy h1 h2 (hmem h1 h2 h3 (other hj hij)) h4 h5
theorem zbE:g5 C d cx [] []:=λY env k fr w H s p r e=>by
 cases e;exact λQ E hq=>wpAny_execs_nil (hq k w .next s p.rf .nx)
theorem z6 {st:Stmt}{r:List Stmt}{i:Sm}{is:List Sm} (h1:iI C d cx st i) (h2:g5 C d cx r is):g5 C d cx (st::r) (i::is):=by
 intro Y env k fr w H s p r;refine aC λq H1 e1 e Q E hq=>wpAny_execs_cons (h1 Y env k fr w H s p _ e1 _ _ λk1 w1 f s1 n1 r1=>?_);obtain ⟨fl,fr1⟩:=q;cases r1 with
 |nx=>exact h2 Y env k1 fr1 w1 H1 s1 n1.pl _ e _ _ λk2 w2 f2 s2 n2 r2=>hq k2 w2 f2 s2 (n1.trans n2) r2
 |bk=>cases e;exact hq k1 w1 .brk s1 n1 .bk
 |ct=>cases e;exact hq k1 w1 .cont s1 n1 .ct
 |rt h=>cases e;exact hq k1 w1 _ s1 n1 (.rt h)
theorem zbG (hcc:sG cx) {x:Str}{xp pos:Pos}{v:Expr}{i:Nat}{iv:Ex} (hi:b0 cx x=some i) (hv:Sd C d cx v iv) (hL: ∀ {elt gens sc cp},v= .ListComp elt gens sc cp-> ∃g q ie ii iifs,gens= [g]/\CpO C d cx g sc elt q ie ii iifs/\iv= .comp ie (QA cx.next q.1.length) q.2 ii iifs):iI C d cx (.Assign [.Name x xp] v pos) (.asg (.nm i) iv):=by
 intro Y env k fr w H s p r;show bnd (eval (C.cx d) iv fr H) (λv h1=>bnd (iL (C.cx d) fr h1 v (.nm i)) λfr' h2=>some ((.nx,fr'),h2))=some r->_;refine aC λu H1 e1 e=>?_;cases e;intro Q E hq;have plain:swapsWith v (some (.Name x xp)) pos.line env=pure false->wpAny C.M Y.A (PySem.exec (.Assign [.Name x xp] v pos) env) Q E s:=λhsw=>
  wpAny_Assign_Name (hv.es Y env k k.m fr w H s p.pl _ e1 _ _ λw1 a1 s1 n1 r1=>dU (p.next n1) hi r1 λk' s' n2=>hq k' w1 .next s' ((p.nx n1).trans n2) .nx) hsw
 cases hc:cF v with
 |false=>exact plain (hv.sy.swap hc _ _ _)
 |true=>
  clear hv
  cases v with
  |ListComp elt gens sc cpos=>
   obtain ⟨b,hb⟩: ∃b,swapsWith (.ListComp elt gens sc cpos) (some (.Name x xp)) pos.line env=pure b:=⟨_,rfl⟩;cases b with
   |false=>exact plain hb
   |true=>
    obtain ⟨g,q,ie,ii,iifs,rfl,P,rfl⟩:=hL rfl;obtain ⟨t,it,ifs,a⟩:=g;cases P.as;rw [exec_Assign_Name_used _ _ _ _ hb];refine wpAny_bind (wpAny_standAt (wpAny_bind ?_));show wpAny _ Y.A (do let _<-comprehension (.ListComp elt [⟨t,it,ifs,0⟩] sc cpos) sc env _ (newList []) false (PySem.eval it env) (some (assign (.Name x xp) env))) _ _ s;refine wpAny_bind (wpAny_mono (zM (use:=some (assign (.Name x xp) env)) (Q:=λ_ s'=>Q .next s') P hcc p.pl e1 λw1 D N oN mN s1 le S1 hns r1 sm1=>?_) (λ_ s' hq=>wpAny_pure (wpAny_pure hq)) λ_ _ e=>e);show wpAny C.M Y.A (assign (.Name x xp) env (.ref D)) _ _ s1;refine PySem.wpAny_assign_Name (dU (⟨p.b,p.c,λx i v a b=>(p.f x i v a b).mono le,S1⟩:PlS Y cx env (k.ext (N,oN)) fr w1 H1 s1) hi r1 λk' s' n2=>?_);refine QY hns λes zq1=>zq1.elim λep zq2=>?_;obtain ⟨ce',ex',m'⟩:=k';cases n2.ex;exact ⟨mN,⟨oN,es,ep,Sta.exHead (k:=⟨ce',k.ex,m'⟩) n2.pl.st|>.1,zq2⟩,λh'' hs=>hq ⟨ce',k.ex,m'⟩ w1 .next {s' with heap:=h''} ⟨rfl,le,⟨n2.pl.b,n2.pl.c,n2.pl.f,Sta.endEx (k:=⟨ce',k.ex,m'⟩) n2.pl.st hs.extBut⟩,(sm1.trans n2.same).1,(sm1.trans n2.same).2⟩ .nx⟩
  |_=>cases hc
theorem zbD {v:Expr}{pos:Pos}{iv:Ex} (hv:bU C d cx v iv):iI C d cx (.Return (some v) pos) (.ret iv):=by
 intro Y env k fr w H s p r;show bnd (eval (C.cx d) iv fr H) (λv h1=>some ((.rt v,fr),h1))=some r->_;refine aC λu H1 e1 e=>?_;cases e;exact λQ E hq=>wpAny_Return_some (hv Y env k k.m fr w H s p.pl _ e1 _ _ λw1 a1 s1 n1 r1=>hq k w1 _ s1 (p.nx n1) (.rt r1))
theorem z4 {pos:Pos}:iI C d cx (.Return none pos) (.ret (.lit .none)):=by
 intro Y env k fr w H s p r e;cases e;exact λQ E hq=>wpAny_Return_none (hq k w _ s p.rf (.rt rfl))
theorem zed {t:Expr}{x y:List Stmt}{pos:Pos}{it:Ex}{ix iy:List Sm} (ht:lI C d cx t it) (hx:g5 C d cx x ix) (hy:g5 C d cx y iy):iI C d cx (.If t x y pos) (.ite it ix iy):=by
 intro Y env k fr w H s p r;show bnd (aQ (eval (C.cx d) it fr H)) (λr h1=>bif r then execs (C.cx d) ix fr h1 else execs (C.cx d) iy fr h1)=some r->_;refine aC λb H1 e1 e Q E hq=>wpAny_If (ht Y env k k.m fr w H s p.pl _ e1 _ _ λw1 a1 s1 n1 r1=>?_);rw [show a1=b from r1];cases b with
 |true=>exact hx Y env k fr w1 H1 s1 (p.next n1) _ e _ _ λk2 w2 f2 s2 n2 r2=>hq k2 w2 f2 s2 ((p.nx n1).trans n2) r2
 |false=>exact hy Y env k fr w1 H1 s1 (p.next n1) _ e _ _ λk2 w2 f2 s2 n2 r2=>hq k2 w2 f2 s2 ((p.nx n1).trans n2) r2
inductive zrC {C:Cfg}{d e:Nat} (Y:aH C d e) (cx:CC) (env:Env) (ex:Led) (w0:Wd) (s0:Shared) (F:Frame->MH->SR) (r:(Fl×Frame)×MH) (s:Shared):Prop
 |mk (k:Kp) (fr:Frame) (w:Wd) (H:MH) (n:NxS Y cx env ex w0 s0 k fr w H s) (lp:F fr H=some r):zrC Y cx env ex w0 s0 F r s
theorem vV {t:Expr}{b:List Stmt}{pos:Pos}{it:Ex}{ib:List Sm} (ht:lI C d cx t it) (hb:g5 C d cx b ib):iI C d cx (.While t b [] pos) (.wh it ib):=by
 intro Y env k fr w H s p r ev Q E hq;refine wpAny_While (codeAny_whileLoop (λn s'=>zrC Y cx env k.ex w s (eH (λfr h=>aQ (eval (C.cx d) it fr h)) (λfr h=>execs (C.cx d) ib fr h) n) r s') ?_ (C.cx d).fuel ⟨k,fr,w,H,p.rf,ev⟩)
 rintro n s' ⟨k1,fr1,w1,H1,n1,lp⟩
 cases n with
 |zero=>exact nos lp
 |succ n=>
  revert lp
  refine aC λc H2 e2 lp=>ht Y env k1 k1.m fr1 w1 H1 s' n1.pl.pl _ e2 _ _ λw2 a2 s2 n2 r2=>?_;rw [show a2=c from r2];have n2':=n1.trans (n1.pl.nx n2);cases c with
  |false=>
   cases lp;rw [if_neg QZ];exact wpAny_execs_nil (hq k1 w2 .next s2 n2' .nx)
  |true=>
   rw [if_pos rfl]
   revert lp
   show bnd (execs (C.cx d) ib fr1 H2) (λp h2=>Fl.casesOn (motive:=λ_=>SR) p.1 (eH (λfr h=>aQ (eval (C.cx d) it fr h)) (λfr h=>execs (C.cx d) ib fr h) n p.2 h2) (some ((.nx,p.2),h2)) (eH (λfr h=>aQ (eval (C.cx d) it fr h)) (λfr h=>execs (C.cx d) ib fr h) n p.2 h2) (λv=>some ((.rt v,p.2),h2)))=some r->_;refine aC λq H3 e3 lp=>hb Y env k1 fr1 w2 H2 s2 n2'.pl _ e3 _ _ λk3 w3 f3 s3 n3 r3=>?_;have n3':=n2'.trans n3;obtain ⟨fl,fr3⟩:=q;cases r3 with
   |nx=>exact ⟨n,QS n,k3,fr3,w3,H3,n3',lp⟩
   |ct=>exact ⟨n,QS n,k3,fr3,w3,H3,n3',lp⟩
   |bk=>cases lp;exact hq k3 w3 .next s3 n3' .nx
   |rt h=>cases lp;exact hq k3 w3 _ s3 n3' (.rt h)
end
theorem zav {i:Nat}{v:Val}: ∀ (is:List Nat) (vs:List Val) (fr:Frame),i∉is->(eK is vs fr).set i (some v)=eK is vs (fr.set i (some v)):=by
 intro is
 induction is with
 |nil=>exact λvs fr _=>rfl
 |cons j is ih=>
  intro vs fr h;cases vs with
  |nil=>rfl
  |cons u vs=>
   show (eK is vs (fr.set j (some u))).set i (some v)=eK is vs ((fr.set i (some v)).set j (some u));rw [ih vs _ λq=>h (.tail _ q),List.set_comm _ _ λq:j=i=>h (q▸ .head _)]
theorem zca: ∀ (is:List Nat) (vs:List Val) (i:Nat) (v:Val) (fr:Frame),is.length=vs.length->eK (is++ [i]) (vs++ [v]) fr=(eK is vs fr).set i (some v):=by
 intro is
 induction is with
 |nil=>intro vs i v fr h;cases QR.mp h.symm;rfl
 |cons j is ih=>
  intro vs i v fr h;cases vs with
  |nil=>cases h
  |cons u vs=>exact ih vs i v _ (Qp.inj h)
theorem zb9: ∀ (is:List Nat) (vs:List Val) (fr:Frame),is.Nodup->is.length=vs.length->eK is.reverse vs.reverse fr=eK is vs fr:=by
 intro is
 induction is with
 |nil=>intro vs fr _ h;cases QR.mp h.symm;rfl
 |cons i is ih=>
  intro vs fr hd h;cases vs with
  |nil=>cases h
  |cons v vs=>
   rw [JB,JB,zca _ _ _ _ _ (by rw [JX,JX];exact Qp.inj h),ih vs fr (Qu.mp hd).2 (Qp.inj h),zav is vs fr (Qu.mp hd).1];rfl
section
variable {C:Cfg}{d e:Nat}{Y:aH C d e}{k:Kp}{w:Wd}{H:MH}{s:Shared}{cx:CC}{env:Env}{fr:Frame}{gl:List (Str×Val)}
theorem aA.reverse: ∀ {ms:List Val}{vs:List Value},aA C w ms vs->aA C w ms.reverse vs.reverse:=by
 intro ms
 induction ms with
 |nil=>intro vs h;cases h;exact .nil
 |cons m ms ih=>intro vs h;obtain ⟨v,r,rfl,h,h'⟩:=h;rw [JB,JB];exact aA.append (.one h) (ih h')
theorem bM.reverse {α β:Type}{R:α->β->Prop}{as:List α}{bs:List β} (h:bM R as bs):bM R as.reverse bs.reverse:=by
 have app: ∀ {as:List α}{bs:List β}{a b},bM R as bs->R a b->bM R (as++ [a]) (bs++ [b]):=λh hab=>by
  induction h with
  |nil=>exact .cons hab .nil
  |cons x _ ih=>exact .cons x ih
 induction h with
 |nil=>exact .nil
 |cons x _ ih=>rw [JB,JB];exact app ih x
abbrev fF (cx:CC) (x:Str) (i:Nat):Prop:=b0 cx x=some i
theorem jO: ∀ {xs:List Str}{is:List Nat}{fs:List (Value->Sem Unit)},bM (fF cx) xs is->bM (rM env) xs fs-> ∀ {mvs:List Val}{vs:List Value}{k:Kp}{fr:Frame}{s:Shared}{Q:Unit->Shared->Prop}{E:Value->Shared->Prop},
  aA C w mvs vs->mvs.length=is.length->PlS Y cx env k fr w H s->(∀k' s',NxS Y cx env k.ex w s k' (eK is mvs fr) w H s'->Q () s') ->wpAny C.M Y.A (assignInOrder fs vs) Q E s:=by
 intro xs is fs hi
 induction hi generalizing fs with
 |nil=>
  intro hf mvs vs k fr s Q E r hl p h;cases hf;cases QR.mp hl;cases r;exact wpAny_pure (h k s p.rf)
 |cons hi _ ih=>
  intro hf mvs vs k fr s Q E r hl p h;cases hf with
  |cons hf hfs=>
   cases mvs with
   |nil=>cases hl
   |cons mv mvs=>
    obtain ⟨v,t,rfl,hv,r⟩:=r;show wpAny C.M Y.A (do holding _ _;assignInOrder _ _) Q E s;exact wpAny_bind (wpAny_holding (hf _ _ _ _ _ _ (dU p hi hv λk1 s1 n1=>ih hfs r (Qp.inj hl) n1.pl λk2 s2 n2=>h k2 s2 (n1.trans n2))))
theorem x8: ∀ (xs:List Str),bM (rM env) xs (xs.map λn=>bindName env n):=by
 intro xs
 induction xs with
 |nil=>exact .nil
 |cons x xs ih=>exact .cons (λ_ _ _ _ _ _ z=>wpAny_bindName z) ih
theorem yW {xs:List Str}{is:List Nat} (h:cW (jP cx) xs=some is):bM (fF cx) xs is:=(dZ h).mono λ_ _ h=>(gs h).2
theorem zbV (B:zrF cx env Y.L) {xs:List Str}{is:List Nat} (h:bM (fF cx) xs is):xs.Nodup->is.Nodup:=by
 have mem: ∀ {xs:List Str}{is:List Nat},bM (fF cx) xs is-> ∀i∈is,∃y∈xs,b0 cx y=some i:=λh=>by
  induction h with
  |nil=>exact λi hi=>absurd hi QB
  | @cons x j _ _ h _ ih=>
   intro i hi;rcases Qy.mp hi with rfl|hi
   ·exact ⟨x,.head _,h⟩
   ·obtain ⟨y,hy,e⟩:=ih i hi;exact ⟨y,.tail _ hy,e⟩
 induction h with
 |nil=>exact λ_=> .nil
 | @cons x i xs is h1 h2 ih=>
  intro hd;have hd:=Qu.mp hd;refine Qu.mpr ⟨λhi=>?_,ih hd.2⟩;refine (mem h2 i hi).elim λy zq13=>?_;exact hd.1 (B.inj x y i h1 zq13.2▸zq13.1)
theorem tK (F:Expr->Option Str) (kk:Str->Pos->Bool) (hF: ∀i p,F (.Name i p)=if kk i p then some i else none) {es:List Expr}{xs:List Str} (h:bM (λe x=>dY e=some x) es xs):(es.filterMap F).length=es.length->es.filterMap F=xs:=by
 induction h with
 |nil=>exact λ_=>rfl
 | @cons e x es xs h _ ih=>
  intro hl;obtain ⟨p,hp,rfl⟩:=ms h;cases cT hp;rw [JC,hF] at hl ⊢;cases hk:kk p.1 p.2 with
  |true=>
   rw [hk] at hl;exact congrArg (Q6 _) (ih (Qp.inj hl))
  |false=>
   rw [hk] at hl;exact absurd (List.length_filterMap_le F es) (KL.mpr (Nat.lt_of_lt_of_eq (QS _) hl.symm))
theorem rK {α:Type}{c:Prop} [Decidable c] {a b x y:Sem α} (ha:a=x) (hb: ¬c->b=x\/b=y):(if c then a else b)=x\/(if c then a else b)=y:=by
 by_cases h:c
 ·rw [if_pos h];exact .inl ha
 ·rw [if_neg h];exact hb h
theorem xN {α:Type}{c:Prop} [Decidable c] {a b x:Sem α} (ha:a=x) (hb: ¬c->b=x):(if c then a else b)=x:=by
 by_cases h:c
 ·rw [if_pos h];exact ha
 ·rw [if_neg h];exact hb h
theorem ne2 {a b c d:Nat} (h: ¬((a !=b||c !=d)=true)):a=b:=by
 rw [JY,bne_iff_ne] at h;exact Decidable.not_not.mp λq=>h (.inl q)
theorem pX {es:List Expr}{n:Nat}{tpos:Pos}{v:Expr} (h:gZ v=none):swappedStores [.Tuple es n tpos] v env=pure none:=by cases v<;>first|rfl|cases h
theorem zgQ {es:List Expr}{n:Nat}{tpos:Pos}{v:Expr}{xs:List Str} (hok:pV v=true) (hn:bM (λe x=>dY e=some x) es xs):
  swappedStores [.Tuple es n tpos] v env=pure none\/swappedStores [.Tuple es n tpos] v env=pure (some xs):=by
 cases ht:gZ v with
 |none=>exact .inl (pX ht)
 |some p=>
  cases lR ht;have hok:(!p.1.all (constantsAlone 8))=true:=(Qa.mp hok).2;have hok:p.1.all (constantsAlone 8)=false:=by
   cases hq:p.1.all (constantsAlone 8) with
   |false=>rfl
   |true=>rw [hq] at hok;cases hok
  refine rK rfl λ_=>rK rfl λ_=>rK rfl λh3=>rK rfl λ_=> .inr ?_;rw [hok];exact congrArg (λz=>(pure (some z):Sem (Option (List Str)))) (tK _ (λid pos=>env.kindOf id==some .local && pos.line==((es.head?.map (·.pos.line)).getD 0)) (λi p=>rfl) hn (ne2 h3))
theorem z1 {c:Cx}{h:MH}: ∀ {is:List Nat}{mvs:List Val}{fr:Frame}{r:Frame×MH},bN c (is.map T1.nm) mvs fr h=some r->mvs.length=is.length/\r=(eK is mvs fr,h):=by
 intro is
 induction is with
 |nil=>
  intro mvs fr r e;obtain ⟨h1,e⟩:=gs e;cases e;cases mvs with
  |nil=>exact ⟨rfl,rfl⟩
  |cons _ _=>cases h1
 |cons i is ih=>
  intro mvs fr r e;cases mvs with
  |nil=>exact nos e
  |cons v mvs=>
   have zq10:=ih (show bN c (is.map T1.nm) mvs (fr.set i (some v)) h=some r from e);exact ⟨congrArg (· +1) zq10.1,zq10.2⟩
theorem mC {v:Val}{rv:Value}{mvs:List Val} (S:St Y k w H s) (hv:aB C w v rv) (hi:items H v=some mvs) {Q:List Value->Shared->Prop}{E:Value->Shared->Prop}
  (h: ∀vs h',aA C w mvs vs->Sta C Y.h₀ Y.L k w H h'->Q vs {s with heap:=h'}):wpAny C.M Y.A (unpackItems rv mvs.length none) Q E s:=by
 revert hi
 refine aT (λe=>?_) (λe=>?_)
 ·cases tup?_s e
  obtain ⟨t,o,n,ws,rfl,ho,hc,hdt,rr,_⟩:=S.tup hv;rw [rr.length,<-Qw];exact unpackItems_tuple (items:=ws.toArray) Y.handled ⟨o,ho,hc,n,hdt⟩ λh' he=>h ws h' rr (S.grown he)
 ·obtain ⟨t,ws,n,rfl,ho,rr,_⟩:=S.list hv e
  rw [rr.length,<-Qw];exact kun_itemsOf Y.handled ⟨_,ho,rfl,n,rfl⟩ λh' he=>h ws h' rr (S.grown he)
theorem lW {v:Expr}{i:Ex} (hv:Sd C d cx v i) (hok:pV v=true) {t:Expr}{n:Nat}:swapsWith v (some t) n env=pure false:=hv.sy.swap (by have:=(Qa.mp hok).1;cases hq:cF v;rfl;rw [hq] at this;cases this) _ _ _
theorem z7 {es:List Expr}{n:Nat}{tpos pos:Pos}{v:Expr}{xs:List Str}{is:List Nat}{iv:Ex} (hok:pV v=true) (hn:bM (λe x=>dY e=some x) es xs) (hnd:xs.Nodup) (hs:bM (fF cx) xs is) (hv:Sd C d cx v iv):
  iI C d cx (.Assign [.Tuple es n tpos] v pos) (.asgs (is.map T1.nm) iv):=by
 intro Y env k fr w H s p r;show bnd (eval (C.cx d) iv fr H) (λv h1=>(items h1 v).bind λvs=>bnd (bN (C.cx d) (is.map T1.nm) vs fr h1) λfr' h2=>some ((.nx,fr'),h2))=some r->_;refine aC λu H1 e1=>aF λmvs hm=>aC λfr' H2 e2 e=>?_;obtain ⟨hl,e3⟩:=z1 e2;cases e3;cases e;have hl':mvs.length=xs.length:=hl.trans hs.length;intro Q E hq;rcases zgQ (env:=env) (tpos:=tpos) (n:=n) hok hn with hw|hw
 ·have zq6:=j4 (env:=env) hn
  refine Assign_Tuple (hv.es Y env k k.m fr w H s p.pl _ e1 _ _ λw1 a1 s1 n1 r1=>?_) (by unfold swapsWithSole;exact lW hv hok) hw;rw [assign_Tuple];refine wpAny_bind (wpAny_standAt ?_);unfold unpack;rw [zq6.2.1,zq6.2.2,<-hl'];exact wpAny_bind (wpAny_holding (mC n1.st r1 hm λvs h' rr S'=>jO hs zq6.1 rr hl (⟨p.b,p.c,(p.next n1).f,S'⟩:PlS Y cx env k fr w1 H1 {s1 with heap:=h'}) λk2 s2 n2=>hq k2 w1 .next s2 ⟨n2.ex,n1.le.trans n2.le,n2.pl,n1.same.trans ⟨n2.same.1,n2.same.2⟩⟩ .nx))
 ·refine Assign_Tuple_swapped (names:=xs) (hv.es Y env k k.m fr w H s p.pl _ e1 _ _ λw1 a1 s1 n1 r1=>?_) (by unfold swapsWithSole;exact lW hv hok) hw
  rw [<-hl'];refine mC n1.st r1 hm λvs h' rr S'=>jO hs.reverse (x8 xs.reverse) rr.reverse (by rw [JX,JX];exact hl) (⟨p.b,p.c,(p.next n1).f,S'⟩:PlS Y cx env k fr w1 H1 {s1 with heap:=h'}) λk2 s2 n2=>?_;rw [zb9 is mvs fr (zbV p.b hs hnd) hl.symm] at n2;exact hq k2 w1 .next s2 ⟨n2.ex,n1.le.trans n2.le,n2.pl,n1.same.trans ⟨n2.same.1,n2.same.2⟩⟩ .nx
abbrev zfe (C:Cfg) (d:Nat) (cx:CC) (e:Expr) (q:Ex×Nat):Prop:= ∃o nm pos,e= .Attribute o nm pos/\aD nm=true/\q.2=enc nm/\Sd C d cx o q.1
theorem zaC {F:Expr->Option Str}{es:List Expr}{ts:List (Ex×Nat)} (h4:(es.filterMap F).length=es.length) (hF: ∀o nm pos,F (.Attribute o nm pos)=none) (h:bM (zfe C d cx) es ts) (he:es.isEmpty=false):False:=by
 have e:es.filterMap F= []:=by
  clear h4 he
  induction h with
  |nil=>rfl
  |cons h _ ih=>obtain ⟨o,nm,pos,rfl,_⟩:=h;rw [JC,hF];exact ih
 rw [e] at h4;cases es with
 |nil=>cases he
 |cons _ _=>cases h4
theorem zgR {es:List Expr}{ts:List (Ex×Nat)}{n:Nat}{tpos:Pos}{v:Expr} (he:es.isEmpty=false) (ht:bM (zfe C d cx) es ts):swappedStores [.Tuple es n tpos] v env=pure none:=by
 cases hv:gZ v with
 |none=>exact pX hv
 |some p=>
  cases lR hv;refine xN rfl λ_=>xN rfl λ_=>xN rfl λh3=>(zaC (ne2 h3) (λ_ _ _=>rfl) ht he).elim
theorem z2 (O:cA C gl) {es:List Expr}{ts:List (Ex×Nat)} (ht:bM (zfe C d cx) es ts):(assignEach es env).length=es.length/\(assignEach es env).findIdx? (·.1)=none/\∀ {Y:aH C d 2}{k:Kp}{fr:Frame}{w:Wd}{H:MH}{mvs:List Val}{vs:List Value}{r:Frame×MH}{s:Shared}{Q:Unit->Shared->Prop}{E:Value->Shared->Prop},
   aA C w mvs vs->PlS Y cx env k fr w H s->bN (C.cx d) (ts.map λq=>T1.at q.1 q.2) mvs fr H=some r->(r.1=fr->mvs.length=es.length-> ∀w' s',Nxt Y k w w' r.2 s s'->Q () s') ->wpAny C.M Y.A (assignInOrder ((assignEach es env).map (·.2)) vs) Q E s:=by
 induction ht with
 |nil=>
  refine ⟨rfl,rfl,λ{Y k fr w H mvs vs r s Q E} rr p e h=>?_⟩;obtain ⟨h1,e⟩:=gs e;cases e;cases mvs with
  |nil=>cases rr;exact wpAny_pure (h rfl rfl w s (.refl p.st))
  |cons _ _=>cases h1
 | @cons _ q _ _ ha _ ih=>
  refine QY ha λo zq2=>zq2.elim λnm zq3=>zq3.elim λpos zq4=>?_;obtain rfl:=zq4.1;refine ⟨congrArg (· +1) ih.1,?_,λ{Y k fr w H mvs vs r s Q E} rr p e h=>?_⟩
  ·show KB _ ((false,assign (.Attribute o nm pos) env)::assignEach _ env)=none
   rw [Kd];simp only [Ji,if_false,ih.2.1,ZQ]
  ·cases mvs with
   |nil=>exact nos e
   |cons mv mvs=>
    obtain ⟨v,t,rfl,hv,rr⟩:=rr
    revert e
    refine aC λfr1 H1 e1 e=>?_
    revert e1
    show bnd (eval (C.cx d) q.1 fr H) (λov h1=>(setAttr C.P h1 ov q.2 mv).map λh2=>(fr,h2))=some (fr1,H1) ->_;refine aC λov H2 e3=>aX λH3 hs e4=>?_;cases e4;rw [zq4.2.2.1] at hs;show wpAny C.M Y.A (do holding _ (assign (.Attribute o nm pos) env v);assignInOrder _ _) Q E s;refine wpAny_bind (wpAny_holding ?_);rw [assign_Attribute];refine wpAny_bind (wpAny_holding (zq4.2.2.2.es Y env k k.m _ w H s p.pl _ e3 _ _ λw1 a1 s1 n1 r1=>?_));refine wpAny_bind (wpAny_standAt (wpAny_bind (wpAny_holding (kH O n1.st zq4.2.1 r1 (hv.mono n1.le) (λs2 n2=>wpAny_release ?_) hs))));exact ih.2.2 (rr.mono n1.le) (p.next (n1.trans n2)) e λe5 e6 w' s' n3=>h e5 (congrArg (· +1) e6) w' s' ((n1.trans n2).trans n3)
theorem sO (O:cA C gl) {es:List Expr}{n:Nat}{tpos pos:Pos}{v:Expr}{ts:List (Ex×Nat)}{iv:Ex} (hok:pV v=true) (hne:es.isEmpty=false) (ht:bM (zfe C d cx) es ts) (hv:Sd C d cx v iv):
  iI C d cx (.Assign [.Tuple es n tpos] v pos) (.asgs (ts.map λq=>T1.at q.1 q.2) iv):=by
 intro Y env k fr w H s p r;show bnd (eval (C.cx d) iv fr H) (λv h1=>(items h1 v).bind λvs=>bnd (bN (C.cx d) (ts.map λq=>T1.at q.1 q.2) vs fr h1) λfr' h2=>some ((.nx,fr'),h2))=some r->_;refine aC λu H1 e1=>aF λmvs hm=>aC λfr' H2 e2 e=>?_;cases e;have zq1:=z2 (env:=env) O ht;have hlen: ∀ {ts:List T1}{mvs:List Val}{fr:Frame}{h:MH}{r:Frame×MH},bN (C.cx d) ts mvs fr h=some r->mvs.length=ts.length:=by
  intro ts
  induction ts with
  |nil=>intro mvs fr h r e;have:=(gs e).1;cases mvs with|nil=>rfl|cons _ _=>cases this
  |cons t ts ih=>
   intro mvs fr h r e;cases mvs with
   |nil=>exact nos e
   |cons v mvs=>revert e;exact aC λfr' h' _ e=>congrArg (· +1) (ih e)
 have hl:mvs.length=es.length:=(hlen e2).trans ((Qz ..).trans ht.length);intro Q E hq;refine Assign_Tuple (hv.es Y env k k.m fr w H s p.pl _ e1 _ _ λw1 a1 s1 n1 r1=>?_) (by unfold swapsWithSole;exact lW hv hok) (zgR hne ht);rw [assign_Tuple];refine wpAny_bind (wpAny_standAt ?_);unfold unpack;rw [zq1.1,zq1.2.1,<-hl];refine wpAny_bind (wpAny_holding (mC n1.st r1 hm λvs h' rr S'=>?_));have n2:Nxt Y k w w1 H1 s {s1 with heap:=h'}:=⟨n1.le,S',n1.same.1,n1.same.2⟩;exact zq1.2.2 rr (p.next n2) e2 λe5 _ w' s' n3=>by
  cases e5;exact hq k w' .next s' (p.nx (n2.trans n3)) .nx
end
theorem vH {prog:Program}{w:World}{A:Around}{s:Shared}{l:Addr}{its:Array Value}{n:Nat}{z:Int}{t:Tok}{v:Value}{Q:Unit->Shared->Prop}{E:Value->Shared->Prop} (ho:s.heap.get? l=some (listOf its n)) (h0:0<=z) (hj:z<its.size) (hfit:z<2 ^ 63)
  (hQ: ∀h' n',h'.get? l=some (listOf (its.setIfInBounds z.toNat v) n') ->Heap.SameBut l s.heap h'->Q () {s with heap:=h'}):wpAny (model prog w) A (setItem (.ref l) (.int z t) v) Q E s:=by
 have hT : s.TypeIs (.ref l) "list" := ⟨_,ho,rfl⟩;unfold setItem
 try with_reducible refine wpAny_holding ?_
 refine wpAny_bind (wpAny_sequenceKey hT (by decide) ?_);refine wpAny_bind (wpAny_callSpecial?_slot (name:=Str.ofString "__setitem__") hT slot_list_setitem
  (wpAny_call_entry slot_list_setitem hT entry_list_setitem ?_ (args_list_setitem _ _ _)))
 show wpAny _ _ (JS (.int z t)>>=_) _ _ s;refine wpAny_bind (wpAny_listSubscript_int (fitsIndex_of h0 hfit) ?_)
 clear hfit
 obtain ⟨j,rfl⟩:=Int.eq_ofNat_of_zero_le h0;have hj':j<its.size:=J6.mp hj;show wpAny _ _ ((seqItemAt l j>>=λr=>pure (r.map (j,·)))>>=_) _ _ s;refine wpAny_bind (wpAny_bind (wpAny_seqItemAt ho rfl (wpAny_pure ?_)));rw [(Array.getElem?_eq_getElem hj':its[j]?=some its[j])];show wpAny _ _ (setSeqItemAt l j v>>=_) _ _ s;refine wpAny_bind (wpAny_setSeqItemAt ho rfl ?_);have fin:Q () {s with heap:=s.heap.update l (Obj.mapSeq (·.setIfInBounds j v))}:=hQ _ _ (JO _ ho rfl) (Heap.SameBut.update ..)
 first
  |exact wpAny_bind (wpAny_pure (wpAny_pure ⟨.none,rfl,wpAny_pure fin⟩))
  |exact wpAny_pure ⟨.none,rfl,wpAny_pure fin⟩
section
variable {C:Cfg}{d e:Nat}{Y:aH C d e}{k:Kp}{w:Wd}{H:MH}{s:Shared}{cx:CC}{env:Env}{fr:Frame}{gl:List (Str×Val)}
theorem uY (p:PlS Y cx env k fr w H s) {t:Expr}{q:List Str×Bool}{sl:List Nat} (ht:kF t=some q) (hs:bM (fF cx) q.1 sl) {v:Val}{rv:Value}{fr1:Frame} (hv:aB C w v rv) (hb:b9 fr sl q.2 v=some fr1) {Q:Unit->Shared->Prop}{E:Value->Shared->Prop}
  (h: ∀k' s',NxS Y cx env k.ex w s k' fr1 w H s'->Q () s'):wpAny C.M Y.A (assign t env rv) Q E s:=by
 obtain ⟨mvs,b1,rfl,b3,b4⟩:=zR hb;rcases zfX ht with ⟨x,pp,rfl,rfl⟩| ⟨es,n,pp,rfl,hq,hes⟩
 ·cases b4 rfl
  cases hs with
  |cons hi hs=>
   cases hs;exact PySem.wpAny_assign_Name (dU p hi hv h)
 ·cases b3 hq
  have zq52:=j4 (env:=env) hes;obtain ⟨tt,o,n',ws,rfl,ho,hc,hd,rr,_⟩:=p.st.tup hv;exact assign_Tuple_tuple (items:=ws.toArray) Y.handled ⟨o,ho,hc,n',hd⟩ (by rw [zq52.2.1,Qw,<-rr.length,b1,hs.length]) zq52.2.2 λh' he=>jO hs zq52.1 rr b1 (⟨p.b,p.c,p.f,p.st.grown he⟩:PlS Y cx env k fr w H {s with heap:=h'}) λk' s' n2=>h k' s' ⟨n2.ex,n2.le,n2.pl,n2.same.1,n2.same.2⟩
inductive zbd {C:Cfg}{d e:Nat} (Y:aH C d e) (cx:CC) (env:Env) (ex:Led) (w0:Wd) (s0:Shared) (I:Addr) (z:It) (F:Nat->Frame->MH->SR) (r:(Fl×Frame)×MH) (s:Shared):Prop
 |mk (k:Kp) (fr:Frame) (w:Wd) (H:MH) (j:Nat) (io:Obj) (ex':k.ex=ex) (le:w0.le w) (p:PlS Y cx env (k.ext (I,io)) fr w H s) (it:dF C w io j z) (sm:dR s0 s) (lp:F j fr H=some r):zbd Y cx env ex w0 s0 I z F r s
theorem PlS.endEx {q:Addr×Obj}{h':Heap} (p:PlS Y cx env (k.ext q) fr w H s) (hx:Heap.ExtBut q.1 s.heap h'):PlS Y cx env k fr w H {s with heap:=h'}:=⟨p.b,p.c,p.f,Sta.endEx (b:=q.1) (o:=q.2) p.st hx⟩
theorem zci {β:Type}{ov:Option Val}{v:Val}{a:β}{f:Val->β}{r:β} (h:ov=some v) (q:Qc (motive:=λ_=>β) ov a f=r):f v=r:=by subst h;exact q
theorem zcj {β:Type}{ov:Option Val}{a:β}{f:Val->β}{r:β} (h:ov=none) (q:Qc (motive:=λ_=>β) ov a f=r):a=r:=by subst h;exact q
section
variable (M:Model) (A:Around) (env:Env) (R:Result->Shared->Prop) (I:Nat->Shared->Prop) (n:Nat)
def noE:Value->Shared->Prop:=notedBy M A env λe s'=>R (.error e) s'
def foB:Flow->Shared->Prop:=λf s=>Flow.casesOn (motive:=λ_=>Prop) f (∃m,m<n/\I m s) (R (.ok .next) s) (∃m,m<n/\I m s) λv=>R (.ok (.ret v)) s
def foT (t:Expr) (it:Value) (b:List Stmt) (v:Value) (s:Shared):Prop:=wpAny M A (letOwnedTupleGo t it v) (λ_ s₁'=>wpAny M A (assign t env v) (λ_ s₂=>wpAny M A (PySem.execs b env) (foB R I n) (noE M A env R) s₂) (noE M A env R) s₁') (noE M A env R) s
def foQ (t:Expr) (it:Value) (b:List Stmt):Option Value->Shared->Prop:=λr s=>Qc (motive:=λ_=>Prop) r (wpAny M A (PySem.execs [] env) (λf s₃=>R (.ok f) s₃) (noE M A env R) s) λv=>foT M A env R I n t it b v s
end
def zfp (C:Cfg) (d:Nat) (z:It) (sl:List Nat) (m:Bool) (ib:List Sm):Nat->Nat->Frame->MH->SR:=fE (λi h=>aZ h i z) (λfr v=>b9 fr sl m v) (λfr h=>execs (C.cx d) ib fr h)
theorem zfo {Y:aH C d 2}{ex:Led}{w0:Wd}{s0:Shared}{Ia:Addr}{z:It}{F:Nat->Nat->Frame->MH->SR}{r:(Fl×Frame)×MH}{R:Result->Shared->Prop}{I:Nat->Shared->Prop}{n j:Nat}{g:Fl×Frame}{k6:Kp}{w6:Wd}{H6:MH}{s6:Shared}{f6:Flow}
  (hI: ∀m s,zbd Y cx env ex w0 s0 Ia z (F m) r s->I m s) (hq: ∀k' w' f s',NxS Y cx env ex w0 s0 k' r.1.2 w' r.2 s'->FlR C w' r.1.1 f->R (.ok f) s')
  (st: ∀m,F m (j+1) g.2 H6=some r->zbd Y cx env ex w0 s0 Ia z (F m) r s6) (out:NxS Y cx env ex w0 s0 k6 g.2 w6 H6 s6) (r6:FlR C w6 g.1 f6)
  (lp:Fl.casesOn (motive:=λ_=>SR) g.1 (F n (j+1) g.2 H6) (some ((.nx,g.2),H6)) (F n (j+1) g.2 H6) (λv=>some ((.rt v,g.2),H6))=some r):foB R I (n+1) f6 s6:=by
 obtain ⟨fl,fr6⟩:=g;cases r6 with
 |nx=>exact ⟨n,QS n,hI n s6 (st n lp)⟩
 |ct=>exact ⟨n,QS n,hI n s6 (st n lp)⟩
 |bk=>cases lp;exact hq _ w6 .next s6 out .nx
 |rt h=>cases lp;exact hq _ w6 _ s6 out (.rt h)
theorem zdf {t:Expr}{b:List Stmt}{q:List Str×Bool}{sl:List Nat}{ib:List Sm} (ht:kF t=some q) (hsl:bM (fF cx) q.1 sl) (hb:g5 C d cx b ib) {Y:aH C d 2}{ex:Led}{w0:Wd}{s0:Shared}{Ia:Addr}{z:It}{r:(Fl×Frame)×MH}{R:Result->Shared->Prop}{I:Nat->Shared->Prop}{n:Nat}{s':Shared}
  (hI: ∀m s,zbd Y cx env ex w0 s0 Ia z (zfp C d z sl q.2 ib m) r s->I m s) (hq: ∀k' w' f s',NxS Y cx env ex w0 s0 k' r.1.2 w' r.2 s'->FlR C w' r.1.1 f->R (.ok f) s')
  (h:zbd Y cx env ex w0 s0 Ia z (zfp C d z sl q.2 ib n) r s'):wpAny C.M Y.A (pyNext (.ref Ia)) (foQ C.M Y.A env R I n t (.ref Ia) b) (noE C.M Y.A env R) s':=by
 obtain ⟨k3,fr3,w3,H3,j,io3,ex3,le3,p3,R3,sm3,lp⟩:=h;cases n with
 |zero=>exact nos lp
 |succ n=>
  refine aF (λov hov lp=>?_) lp;refine sR p3.st R3 hov ⟨λv rv io4 h' tk hv S4 R4 hr=>?_,λh' hv S4=>?_⟩
  ·refine l4 (s:={s' with heap:=h',toks:=tk}) S4.exHead.1 R4.cls ?_
   refine aF (λfr5 hb5 lp=>?_) (zci hv lp);have p4:PlS Y cx env (k3.ext (Ia,io4)) fr3 w3 H3 {s' with heap:=h',toks:=tk}:=⟨p3.b,p3.c,p3.f,S4⟩;refine uY p4 ht hsl hr hb5 λk5 s5 n5=>?_;refine aC (λg H6 e6 lp=>?_) lp;refine hb Y env k5 fr5 w3 H3 s5 n5.pl _ e6 _ _ λk6 w6 f6 s6 n6 r6=>?_;have n6':=n5.trans n6;have sm6:dR s0 s6:=sm3.trans ⟨n6'.same.1,n6'.same.2⟩;have p6:PlS Y cx env ((⟨k6.ce,k3.ex,k6.m⟩:Kp).ext (Ia,io4)) g.2 w6 H6 s6:=by
    have:=n6'.pl
    obtain ⟨ce6,ex6,m6⟩:=k6;cases n6'.ex;exact this
   exact zfo hI hq (λm lp=>⟨⟨k6.ce,k3.ex,k6.m⟩,g.2,w6,H6,j+1,io4,ex3,le3.trans n6'.le,p6,R4.mono n6'.le,sm6,lp⟩) (⟨ex3,le3.trans n6'.le,p6.endEx λ_ _ _ e=>e,sm6⟩:NxS Y cx env ex w0 s0 ⟨k6.ce,k3.ex,k6.m⟩ g.2 w6 H6 s6) r6 lp
  ·have lp:=zcj hv lp
   cases lp;exact wpAny_execs_nil (hq k3 w3 .next {s' with heap:=h'} ⟨ex3,le3,⟨p3.b,p3.c,p3.f,S4⟩,sm3.1,sm3.2⟩ .nx)
theorem zbF {t:Expr}{pos:Pos}{it:Expr}{b:List Stmt}{q:List Str×Bool}{sl:List Nat}{ii:Ex}{ib:List Sm} (ht:kF t=some q) (hsl:bM (fF cx) q.1 sl) (hi:Sd C d cx it ii) (hb:g5 C d cx b ib):iI C d cx (.For t it b [] pos) (.fo sl q.2 ii ib):=by
 intro Y env k fr w H s p r;show bnd (eval (C.cx d) ii fr H) (λv h1=>(bW h1 v).bind λk=>zfp C d k sl q.2 ib (C.cx d).fuel 0 fr h1)=some r->_;refine aC λu H1 e1=>aF λz hz lp=>?_;intro Q E hq;refine wpAny_For (hi.es Y env k k.m fr w H s p.pl _ e1 _ _ λw1 a1 s1 n1 r1=>sT n1.st r1 (λI io h2 S2 R2=>?_) hz) (hi.sy.fold env);exact codeAny_forLoop_any (λn s'=>zbd Y cx env k.ex w s I z (zfp C d z sl q.2 ib n) r s') (λn s' h=>Eq.mp (by kernel_rfl) (zdf (R:=λr s=>match r with| .ok f=>Q f s| .error e=>cameBackBy C.M Y.A env E e s) (n:=n) ht hsl hb (λ_ _ h=>h) hq h)) (C.cx d).fuel ⟨k,fr,w1,H1,0,io,rfl,n1.le,⟨p.b,p.c,(p.next n1).f,S2⟩,R2,⟨n1.same.1,n1.same.2⟩,lp⟩
theorem zqy {e : Expr} {pos : Pos} {v : Value} : dropValue e pos v = pure .next \/ dropValue e pos v = (do standAt pos; let _ <- runValue (.builtin "proto.let_go" {}); pure .next) := by
 have h : dropValue (.Tuple [] 0 pos) pos v = pure .next \/ dropValue (.Tuple [] 0 pos) pos v = (do standAt pos; let _ <- runValue (.builtin "proto.let_go" {}); pure .next) := by
  cases v<;>first|exact .inl rfl|exact .inr rfl
 cases e<;>first|exact .inl rfl|exact Eq.mp (by kernel_rfl) h
theorem z5 {v:Expr}{pos:Pos}{iv:Ex} (hc:cF v=false) (hv:Sd C d cx v iv):iI C d cx (.Expr v pos) (.expr iv):=by
 intro Y env k fr w H s p r;show bnd (eval (C.cx d) iv fr H) (λ_ h1=>some ((.nx,fr),h1))=some r->_;refine aC λu H1 e1 e=>?_;cases e;intro Q E hq;rw [exec_Expr env v pos (by unfold interactive;rw [p.b.kind];rfl) (hv.sy.swap hc _ _ _)];refine wpAny_bind (wpAny_standAt (wpAny_bind (hv.es Y env k k.m fr w H s p.pl _ e1 _ _ λw1 a1 s1 n1 r1=>?_)));have fin:=hq k w1 .next s1 (p.nx n1) .nx;rcases zqy (e:=v) (pos:=pos) (v:=a1) with h|h
 ·rw [h];exact wpAny_pure fin
 ·rw [h];exact wpAny_bind (wpAny_standAt (wpAny_bind (wpAny_runValue (codeAny_builtin entry_let_go (show wpAny _ _ (ret .none) _ _ s1 from wpAny_pure (wpAny_pure fin))))))
theorem cO {P:Prop} (h:false=true):P:=absurd h QZ
def LC (e:Expr):Prop:= ∃a b c p,e= .ListComp a b c p
theorem zc0 {e:Expr}:cF e=true->LC e:=Expr.casesOn (motive_1:=λe=>cF e=true->LC e) e (λ_ _ _ h=>cO h) (λ_ _ _ h=>cO h) (λ_ _ _ _ h=>cO h) (λ_ _ _ h=>cO h) (λ_ _ _ _ h=>cO h) (λ_ _ _ _ h=>cO h) (λ_ _ _ h=>cO h) (λ_ _ _ h=>cO h) (λa b c p _=>⟨a,b,c,p,rfl⟩) (λ_ _ _ _ h=>cO h) (λ_ _ _ _ _ h=>cO h) (λ_ _ _ _ h=>cO h) (λ_ _ h=>cO h) (λ_ _ h=>cO h) (λ_ _ h=>cO h) (λ_ _ _ _ h=>cO h) (λ_ _ _ _ h=>cO h) (λ_ _ _ _ h=>cO h) (λ_ _ h=>cO h) (λ_ _ _ h=>cO h) (λ_ _ _ h=>cO h) (λ_ _ _ h=>cO h) (λ_ _ h=>cO h) (λ_ _ h=>cO h) (λ_ _ h=>cO h) (λ_ _ _ h=>cO h) (λ_ _ _ _ h=>cO h)
theorem zbw {v o:Expr}{i:Ex} (hv:Sd C d cx v i) {n:Nat} (hr: ∀a b c p,swapsWith (.ListComp a b c p) (some o) n env=pure false):swapsWith v (some o) n env=pure false:=by
 cases hc:cF v with
 |false=>exact hv.sy.swap hc _ _ _
 |true=>obtain ⟨a,b,c,p,rfl⟩:=zc0 hc;exact hr a b c p
theorem vW (O:cA C gl) {o:Expr}{nm:Str}{xp pos:Pos}{v:Expr}{io iv:Ex} (hn:aD nm=true) (ho:Sd C d cx o io) (hv:Sd C d cx v iv):iI C d cx (.Assign [.Attribute o nm xp] v pos) (.asg (.at io (enc nm)) iv):=by
 intro Y env k fr w H s p r;show bnd (eval (C.cx d) iv fr H) (λv h1=>bnd (bnd (eval (C.cx d) io fr h1) λov h2=>(setAttr C.P h2 ov (enc nm) v).map λh3=>(fr,h3)) λfr' h2=>some ((.nx,fr'),h2))=some r->_;refine aC λu H1 e1=>aC λfr' H2 e2 e=>?_;cases e
 revert e2
 refine aC λov H3 e3=>aX λH4 hs e4=>?_;cases e4;exact λQ E hq=>plainObj_wpAny_Assign_Attribute (hv.es Y env k k.m _ w H s p.pl _ e1 _ _ λw1 a1 s1 n1 r1=>ho.es Y env k k.m _ w1 H1 s1 (p.next n1).pl _ e3 _ _ λw2 a2 s2 n2 r2=>
  kH O n2.st hn r2 (r1.mono n2.le) (λs3 n3=>hq k w2 .next s3 (p.nx ((n1.trans n2).trans n3)) .nx) hs) (zbw hv λ_ _ _ _=>rfl)
theorem zX {v:Val}{rv:Value} (hv:aB C w v rv): ∀ {ms:List Val}{vs:List Value}{j:Nat},aA C w ms vs->aA C w (ms.set j v) (vs.set j rv):=by
 intro ms
 induction ms with
 |nil=>intro vs j h;cases h;exact .nil
 |cons m ms ih=>
  intro vs j h;obtain ⟨x,t,rfl,h,r⟩:=h;cases j with
  |zero=>exact .cons hv r
  |succ j=>exact .cons h (ih r)
theorem vY (S:St Y k w H s) {o i v:Val}{vo vi vv:Value}{H':MH} (ho:aB C w o vo) (hi:aB C w i vi) (hv:aB C w v vv) {Q:Unit->Shared->Prop}{E:Value->Shared->Prop}
  (h: ∀s',Nxt Y k w w H' s s'->Q () s'):bV H o i v=some H'->wpAny C.M Y.A (setItem vo vi vv) Q E s:=by
 refine aF λx e1=>aT (aF λmvs hm=>aX λj hj e=>?_) (aF λp hp=>bE λhf e=>?_)
 ·cases ref?_s e1;subst e
  obtain ⟨z,t,rfl,h0,h1,rfl⟩:=zE hi hj;obtain ⟨la,rfl,ha⟩:=ho;refine (bs hm).elim λob zq47=>?_;have h2:=zq47.2;cases list?_s h2;obtain ⟨_,ws,n,e,hget,rr,hl⟩:=S.list (x:=.ref x) ⟨la,rfl,ha⟩ hm;cases e;refine vH hget h0 (by rw [Qw,<-rr.length];exact h1) (Ki h1 (eI hl)) λh' n' hg hs=>h _ ⟨.refl w,S.upd ha zq47.1 (λen h=>?_) hs (by rw [hg,List.setIfInBounds_toArray]) ⟨_,n',rfl,zX hv rr,by rw [Kr];exact hl⟩,rfl,rfl⟩;obtain ⟨_,_,rfl,_,_⟩:=h;exact ⟨_,rfl⟩
 ·cases ref?_s e1;cases e
  have hf:=Qa.mp hf;obtain ⟨b,n,es,rfl,hmod,hep,hg,hdr,hl,upd⟩:=S.dictI ho hp;refine nY ⟨_,hg,rfl⟩ (zbi S (A:=Y.A.in1) (show Y.A.units+1+1<9900 from Y.u (n:=2) (by decide)) hg hdr hf.1 (Qr.mp hf.2) hi hv λes' h' tk hs hgo j'=>h _ ⟨.refl w,upd h' _ _ hs hgo ⟨es',_,rfl,λe he=>?_,j',rT (Qr.mp hf.2)⟩,rfl,rfl⟩);cases hq:(bA p.2 i).isSome with
  |true=>rw [hq] at he;exact hep e he
  |false=>
   rw [hq] at he;obtain ⟨e0,he0,rfl⟩:=ms he;exact congrArg (· +1) (hep e0 he0)
theorem sP {o i:Expr}{xp pos:Pos}{v:Expr}{io ii iv:Ex} (ho:Sd C d cx o io) (hi:Sd C d cx i ii) (hv:Sd C d cx v iv):iI C d cx (.Assign [.Subscript o i xp] v pos) (.asg (.sb io ii) iv):=by
 intro Y env k fr w H s p r;show bnd (eval (C.cx d) iv fr H) (λv h1=>bnd (bnd (eval (C.cx d) io fr h1) λov h2=>bnd (eval (C.cx d) ii fr h2) λiv h3=>(bV h3 ov iv v).map λh4=>(fr,h4)) λfr' h2=>some ((.nx,fr'),h2))=some r->_;refine aC λu H1 e1=>aC λfr' H2 e2 e=>?_;cases e
 revert e2
 refine aC λov H3 e3=>aC λix H4 e4=>aX λH5 hs e5=>?_;cases e5;exact λQ E hq=>wpAny_Assign_Subscript (hv.es Y env k k.m _ w H s p.pl _ e1 _ _ λw1 a1 s1 n1 r1=>ho.es Y env k k.m _ w1 H1 s1 (p.next n1).pl _ e3 _ _ λw2 a2 s2 n2 r2=>hi.es Y env k k.m _ w2 H3 s2 ((p.next n1).next n2).pl _ e4 _ _ λw3 a3 s3 n3 r3=>
  vY n3.st (r2.mono n3.le) r3 (r1.mono (n2.le.trans n3.le)) (λs4 n4=>hq k w3 .next s4 (p.nx (((n1.trans n2).trans n3).trans n4)) .nx) hs) (zbw hv λ_ _ _ _=>rfl)
theorem wA {o c:Option Expr}{ir:Sm} (h:zb8 cx o c=some ir): ∃i,ir= .rse i:=by
 obtain ⟨_,h⟩:=gs h;obtain ⟨e,_,h⟩:=bs h;obtain ⟨p,_,h⟩:=bs h;obtain ⟨_,h⟩:=gs h;obtain ⟨q,_,h⟩:=bs h;obtain ⟨_,h⟩:=gs h;obtain ⟨a,_,h⟩:=dX h;refine (ms h).elim λi zq36=>?_;obtain rfl:=zq36.2;exact ⟨i,rfl⟩
inductive TrF (cx:CC) (b:List Stmt) (hs:List ExceptHandler) (ir:Sm):Prop
 |mk (x y:Str) (xp yp p1 p2 p3 p4 p5:Pos) (v:Expr) (k:Const) (n:Nat) (e:Ex) (i j:Nat) (u:Val) (eb:b= [.Assign [.Name x xp] v p1]) (eh:hs= [.ExceptHandler (some (.Name yO p2)) none [.Assign [.Name y yp] (.Constant k n p3) p4] p5])
   (hk:cx.sc.lookup yO=some .globalImplicit) (hc:cF v=false) (hi:b0 cx x=some i) (hj:b0 cx y=some j) (he:cR cx v=some e) (hu:rU k=some u) (er:ir= .tr i e j u):TrF cx b hs ir
theorem zS {s:Stmt}{q:Str×Expr} (h:zdE s=some q): ∃xp p1,s= .Assign [.Name q.1 xp] q.2 p1:=by
 cases s with
 |Assign ts v p1=>
  obtain _| ⟨t,_| ⟨_,_⟩⟩:=ts
  ·exact nos h
  ·obtain ⟨p,hp,rfl⟩:=ms h
   cases cT hp;exact ⟨_,_,rfl⟩
  ·exact nos h
 |_=>exact nos h
theorem zgK {b:List Stmt}{hs:List ExceptHandler}{ir:Sm} (h:zgL cx b hs=some ir):TrF cx b hs ir:=by
 obtain ⟨s,eb,h1⟩:=dX h;obtain ⟨g,eg,h2⟩:=dX h1
 clear h h1
 split at h2
 ·rename_i t hb gp
  refine (bs h2).elim λq zq32=>?_;have hq:=zq32.1;have h3:=zq32.2;obtain ⟨hk,h4⟩:=gs h3;obtain ⟨s2,e4,h5⟩:=dX h4;obtain ⟨a,ha,h6⟩:=bs h5;refine (bs h6).elim λa2 zq28=>?_;have h7:=zq28.2;refine (bs h7).elim λk zq27=>?_;have h8:=zq27.2;obtain ⟨hc,h9⟩:=gs h8;refine (bs h9).elim λi zq25=>?_;have hi:=zq25.1;have hA:=zq25.2;refine (bs hA).elim λj zq24=>?_;have hj:=zq24.1;have hB:=zq24.2;refine (bs hB).elim λe zq23=>?_;have he:=zq23.1;have hC:=zq23.2;refine (ms hC).elim λu zq22=>?_;have hu:=zq22.1;have hD:=zq22.2
  clear h2 h3 h4 h5 h6 h7 h8 h9 hA hB hC
  refine (zS ha).elim λxp zq20=>zq20.elim λp1 zq21=>?_;refine (zS zq28.1).elim λyp zq18=>zq18.elim λp4 zq19=>?_;refine ⟨a.1,a2.1,xp,yp,p1,q.2,k.2.2,p4,gp,a.2,k.1,k.2.1,e,i,j,u,?_,?_,beq_iff_eq.mp (Qa.mp hk).2,(by cases hq:cF a.2;rfl;rw [hq] at hc;cases hc),(gs hi).2,(gs hj).2,he,hu,hD.symm⟩
  ·rw [eb,zq21]
  ·rw [eg,(cT hq),(beq_iff_eq.mp (Qa.mp hk).1),e4,zq19,(zbb zq27.1)]
 ·exact nos h2
theorem zd4 {b:List Stmt}{hs:List ExceptHandler}{ir:Sm} (h:zgL cx b hs=some ir): ∃x i y v,ir= .tr x i y v:=by
 obtain ⟨x,y,xp,yp,p1,p2,p3,p4,p5,v,k,n,e,i,j,u,_,_,_,_,_,_,_,_,er⟩:=zgK h;exact ⟨_,_,_,_,er⟩
theorem vB (O:cA C gl) (hC:c5 C d) (hg:zdI C cx.gl) (hcc:sG cx): ∀ (n:Nat),(∀ (st:Stmt) (ir:Sm),fR n cx st=some ir->iI C d cx st ir)/\∀ (sts:List Stmt) (irs:List Sm),cW (λs=>some ((fR n cx s).getD .raise)) sts=some irs->g5 C d cx sts irs:=by
 intro n;have hE: ∀ {e ir},cR cx e=some ir->Sd C d cx e ir:=λh=>lS O hC 60 cx hg hcc _ _ h;have lists: ∀ {n:Nat},(∀ (st:Stmt) (ir:Sm),fR n cx st=some ir->iI C d cx st ir) -> ∀ (sts:List Stmt) (irs:List Sm),cW (λs=>some ((fR n cx s).getD .raise)) sts=some irs->g5 C d cx sts irs:=by
  intro n h sts irs e
  induction dZ e with
  |nil=>exact zbE
  | @cons st i _ _ h1 h2 ih=>
   have rest:=ih (by
    refine (bs e).elim λb zq16=>?_;have e:=zq16.2;obtain ⟨c,h3,e⟩:=ms e;cases e;exact h3)
   refine z6 ?_ rest;cases hs:fR n cx st with
   |some i'=>rw [hs] at h1;cases h1;exact h st _ hs
   |none=>rw [hs] at h1;cases h1;exact λY env k fr w H s p r e=>nos e
 have st: ∀ (st:Stmt) (ir:Sm),fR n cx st=some ir->iI C d cx st ir:=by
  induction n with
  |zero=>exact λst ir h=>nos h
  |succ n ih=>
   have ihs:=lists ih;intro st ir;cases st with
   |Pass pos=>intro h;cases h;exact λY env k fr w H s p r e Q E hq=>by cases e;exact wpAny_Pass (hq k w _ s p.rf .nx)
   |Break pos=>intro h;cases h;exact λY env k fr w H s p r e Q E hq=>by cases e;exact λ_ _ _=>hq k w _ s p.rf .bk
   |Continue pos=>intro h;cases h;exact λY env k fr w H s p r e Q E hq=>by cases e;exact λ_ _ _=>hq k w _ s p.rf .ct
   |Return v pos=>
    intro h;cases v with
    |none=>cases h;exact z4
    |some e=>obtain ⟨i,hi,rfl⟩:=ms h;exact zbD (hE hi).es
   |Assign ts v pos=>
    intro h;obtain ⟨t,rfl,h⟩:=dX h;have h:Qc (motive:=λ_=>Option Sm) (gZ t) ((zds cx t).bind λa=>(cR cx v).map λb=> .asg a b) (λp=>grd (pV v) ((cR cx v).bind λb=>alt ((zct p.1).bind λxs=>(cW (jP cx) xs).map λis=> .asgs (is.map .nm) b) (grd (!p.1.isEmpty) ((cW (zdt cx) p.1).map λts=> .asgs (ts.map λq=> .at q.1 q.2) b))))=some ir:=h;cases ht:gZ t with
    |some p=>
     rw [ht] at h;cases lR ht
     revert h
     refine bE λhok=>aF λb hb=>aT (aF λxs hx=>aX λis his e=>?_) (bE λhne=>aX λts hts e=>?_)
     ·refine (bs hx).elim λxs' zq13=>?_
      have h2:=zq13.2;obtain ⟨h2,h3⟩:=gs h2;cases h3;exact e▸z7 hok (dZ zq13.1) (of_decide_eq_true h2) (yW his) (hE hb)
     ·refine e▸sO O hok (by cases hq:p.1.isEmpty;rfl;rw [hq] at hne;cases hne) ((dZ hts).mono λe q h=>?_) (hE hb)
      obtain ⟨p,hp,h⟩:=bs h;obtain ⟨hn,h⟩:=gs h;obtain ⟨i,hi,rfl⟩:=ms h;exact ⟨p.1,p.2.1,p.2.2,nT hp,hn,rfl,hE hi⟩
    |none=>
     rw [ht] at h;obtain ⟨a,ha,h⟩:=bs h;obtain ⟨b,hb,rfl⟩:=ms h
     revert ha
     refine aT (aF λp hp=>bE λ_=>aX λi hi e=>?_) (aT (aF λp hp=>bE λhn=>aX λi hi e=>?_) (aF λp hp=>aF λi hi=>aX λj hj e=>?_))
     ·rw [<-e,cT hp]
      refine zbG hcc hi (hE hb) λ{elt gens sc cp} ev=>?_;subst ev
      clear h
      obtain ⟨g,eg,hz⟩:=dX (show oE gens _=some b from hb);subst eg;refine (bs hz).elim λq zq5=>?_;have zq4:=gs zq5.2;refine (bs zq4.2).elim λii zq3=>?_;refine (bs zq3.2).elim λiifs zq2=>?_;refine (ms zq2.2).elim λie zq1=>?_;exact ⟨g,q,ie,ii,iifs,rfl,⟨beq_iff_eq.mp (Qa.mp zq4.1).1,zq5.1,yY (Qa.mp zq4.1).2,lS O hC 59 cx hg hcc _ _ zq3.1,(lS O hC 59 (inComp cx sc q.1) hg (hcc.inComp sc q.1)) _ _ zq1.1,(dZ zq2.1).mono (lS O hC 59 (inComp cx sc q.1) hg (hcc.inComp sc q.1))⟩,zq1.2.symm⟩
     ·rw [<-e,nT hp];exact vW O hn (hE hi) (hE hb)
     ·rw [<-e,zfK hp];exact sP (hE hi) (hE hj) (hE hb)
   |If t x y pos=>exact aF λa ha=>aF λb hb=>aX λc hc e=>e▸zed (hE ha).ts (ihs _ _ hb) (ihs _ _ hc)
   |While t b e pos=>
    refine bE λhe=>aF λa ha=>aX λc hc e'=>?_;cases e with
    |nil=>exact e'▸vV (hE ha).ts (ihs _ _ hc)
    |cons _ _=>cases he
   |For t it b e pos=>
    refine bE λhe=>aF λq hq=>bE λ_=>aF λa ha=>aF λsl hs=>aX λc hc e'=>?_;cases e with
    |nil=>exact e'▸zbF hq (yW hs) (hE ha) (ihs _ _ hc)
    |cons _ _=>cases he
   |Expr v pos=>exact bE λhc=>aX λi hi e=>e▸z5 (by cases hq:cF v;rfl;rw [hq] at hc;cases hc) (hE hi)
   |Raise o c pos=>exact λh=>by obtain ⟨i,rfl⟩:=wA h;exact λY env k fr w H s p r e=>nos e
   |Try b hs e f pos=>exact bE λ_ h=>by obtain ⟨x,i,y,v,rfl⟩:=zd4 h;exact λY env k fr w H s p r e=>nos e
   |_=>exact λh=>nos h
 exact ⟨st,lists st⟩
end
theorem zN (ps:List Str) (sc:Scope) (gl:List (Str×Val)):sG (zdh ps sc gl):=λx i h=>by
 refine ((g9 x _ 0).1 i h).elim λj zq32=>?_;obtain rfl:=zq32.1;rw [JA];exact (Qk.mp zq32.2).1
theorem yA {kindOf:Str->Option NameKind}{x:Str}: ∀ {r:List (Str×Value)}{m:Str->Option Value},x∉r.map (·.1) ->bindL kindOf r m x=m x:=by
 intro r
 induction r with
 |nil=>exact λ_=>rfl
 |cons p r ih=>
  intro m h;unfold bindL;rw [ih λq=>h (.tail _ q)];split
  ·exact if_neg λq:x=p.1=>h (q▸ .head _)
  ·rfl
theorem yB {kindOf:Str->Option NameKind}{x:Str}: ∀ {r:List (Str×Value)}{m:Str->Option Value},x∉r.map (·.1) ->bindC kindOf r m x=m x:=by
 intro r
 induction r with
 |nil=>exact λ_=>rfl
 |cons p r ih=>
  intro m h;unfold bindC;rw [ih λq=>h (.tail _ q)];split
  ·rfl
  ·exact if_neg λq:x=p.1=>h (q▸ .head _)
theorem zQ {kindOf:Str->Option NameKind}{x:Str}{v:Value}: ∀ {r:List (Str×Value)}{m:Str->Option Value},(x,v)∈r->(r.map (·.1)).Nodup->(kindOf x=some .local->bindL kindOf r m x=some v)/\(kindOf x≠some .local->bindC kindOf r m x=some v):=by
 intro r
 induction r with
 |nil=>exact λh _=>absurd h QB
 |cons p r ih=>
  intro m h hd;have hd:=Qu.mp hd;unfold bindL bindC;rcases Qy.mp h with e|h
  ·subst e
   exact ⟨λhk=>by rw [yA hd.1,if_pos hk];exact if_pos rfl,λhk=>by rw [yB hd.1,if_neg hk];exact if_pos rfl⟩
  ·exact ⟨(ih h hd.2).1,(ih h hd.2).2⟩
theorem m3 {cm:Str->Option Value}{x:Str}{c:Addr}{cs:List (Str×Addr)}{cells:Led} (h:CellsAre cm cs cells):cs.lookup x=some c-> ∃o,(c,o)∈cells/\o.data= .cell (cm x):=by
 induction h with
 |nil=>exact λh=>nos h
 | @cons n a o cs cells hd r ih=>
  intro h;rw [QE] at h;cases e:x==n with
  |true=>rw [e] at h;cases h;rw [beq_iff_eq.mp e];exact ⟨o,.head _,hd⟩
  |false=>rw [e] at h;obtain ⟨o',h1,h2⟩:=ih h;exact ⟨o',.tail _ h1,h2⟩
theorem j1 {cm:Str->Option Value}{cs:List (Str×Addr)}{cells:Led} (h:CellsAre cm cs cells):cells.map (·.1)=cs.map (·.2):=by
 induction h with
 |nil=>rfl
 |cons _ _ ih=>exact congrArg (_:: ·) ih
theorem eA (lo:Nat): ∀ (names:List (Str×NameKind)) (n:Nat) (acc:List (Str×Addr)),lo<=n->(acc.map (·.2)).Nodup->(∀p∈acc,p.2<n/\lo<=p.2) ->((cellsFrom n names acc).map (·.2)).Nodup/\∀p∈cellsFrom n names acc,lo<=p.2:=by
 intro names
 induction names with
 |nil=>exact λn acc _ h hl=>⟨h,λp hp=>(hl p hp).2⟩
 |cons q r ih=>
  intro n acc hn h hl;unfold cellsFrom;split
  ·refine ih (n+1) _ (Kg hn) ?_ ?_
   ·rw [QJ,Qu]
    refine ⟨λhx=>?_,h⟩;refine (QC.mp hx).elim λp zq31=>?_;exact absurd (hl p zq31.1).1 (by rw [zq31.2];exact JN _)
   ·intro p hp
    rcases Qy.mp hp with rfl|hp
    ·exact ⟨QS _,hn⟩
    ·exact ⟨Zv (hl p hp).1,(hl p hp).2⟩
  ·exact ih n acc hn h hl
theorem zcS {x y:Str}{c:Addr}{cs:List (Str×Addr)}:(cs.map (·.2)).Nodup->cs.lookup x=some c->cs.lookup y=some c->x=y:=by
 induction cs with
 |nil=>exact λ_ h _=>nos h
 |cons p r ih=>
  intro hd hx hy;have hd:=Qu.mp hd;rw [QE] at hx hy;cases ex:x==p.1 with
  |true=>
   rw [ex] at hx;cases ey:y==p.1 with
   |true=>exact (beq_iff_eq.mp ex).trans (beq_iff_eq.mp ey).symm
   |false=>rw [ey] at hy;exact ((λh e=>hd.1 (QC.mpr ⟨_,aU h,e⟩): ∀ {z},r.lookup z=some c->c=p.2->False) hy (Qf.inj hx).symm).elim
  |false=>
   rw [ex] at hx;cases ey:y==p.1 with
   |true=>rw [ey] at hy;exact ((λh e=>hd.1 (QC.mpr ⟨_,aU h,e⟩): ∀ {z},r.lookup z=some c->c=p.2->False) hx (Qf.inj hy).symm).elim
   |false=>rw [ey] at hy;exact ih hd.2 hx hy
section
variable {C:Cfg}{d e:Nat}{w:Wd}{H:MH}{s:Shared}{gl:List (Str×Val)}
theorem uQ {Y:aH C d 2}{qual:Str}{scope:Scope}{fa:Addr}{cdv:Value}{xs:List Str}{us:List Value}{ws:List Val}{fn:Fn}{cells ex:Led} (hkind:scope.kind= .function) (hbn:xs.Nodup) (ru:aA C w ws us) (hlen:ws.length=xs.length)
  (hc:CellsAre (bindC (envOfC qual scope Y.L fa cdv).kindOf (xs.zip us) λ_=>none) (cellsFrom (Y.L+1) scope.names []) cells)
  (S:St Y ⟨cells,ex,bindL (envOfC qual scope Y.L fa cdv).kindOf (xs.zip us) λ_=>none⟩ w H s):PlS Y (zdh xs scope gl) (envOfC qual scope Y.L fa cdv) ⟨cells,ex,bindL (envOfC qual scope Y.L fa cdv).kindOf (xs.zip us) λ_=>none⟩ (bX fn ws) w H s:=by
 have slot: ∀ {x i},b0 (zdh xs scope gl) x=some i->(hV xs scope)[i]?=some x:=λ{x i} h=>by
  refine ((g9 x (hV xs scope) 0).1 i (lK h).2).elim λj zq30=>?_;have e:=zq30.1;rw [JA] at e;exact e▸zq30.2
 have hz:((xs.zip us).map (·.1)).Nodup:=by rw [List.map_fst_zip (by rw [<-hlen,ru.length];exact Qo _)];exact hbn
 refine ⟨⟨hkind,rfl,rfl,rfl,λx hx=>QK.mp (cellsFrom_some scope.names (Y.L+1) [] (.inl hx)),λx y c hx hy hcx hcy=>zcS ((eA 0 scope.names (Y.L+1) [] (QO _) .nil λ_ h=>absurd h QB).1) hcx hcy,rfl,λx y i hx hy=>Qf.inj ((slot hx).symm.trans (slot hy))⟩,
  λx c _ hcx=>(m3 hc hcx).elim λo h=>⟨o,_,h.1,h.2⟩,λx i u hx hu=>?_,S⟩
 have hlt:i<ws.length:=Zs λhge=>by
  unfold bX at hu;rw [Ju (by rw [Qz];exact Jt hge)] at hu;obtain ⟨_,hu'⟩:=Qk.mp hu;rw [List.getElem_replicate] at hu';cases hu'
 unfold bX at hu;rw [Q0 (by rw [Qz];exact hlt),Jc] at hu;refine (ms hu).elim λu' zq28=>?_;have hu2:=zq28.2;cases hu2;refine (ru.get zq28.1).elim λrv zq27=>?_;have hr:=zq27.2;have hpx:xs[i]?=some x:=by
  have:=slot hx
  unfold hV at this;rwa [Q0 (by rw [<-hlen];exact hlt)] at this
 have hmem:(x,rv)∈xs.zip us:=Q8 (List.getElem?_zip_eq_some.mpr ⟨hpx,zq27.1⟩);rcases (lK hx).1 with hk|hk
 ·exact .loc rv hk ((zQ hmem hz).1 hk) hr
 ·refine (QK.mp (cellsFrom_some scope.names (Y.L+1) [] (.inl hk))).elim λc zq26=>?_
  refine (m3 hc zq26).elim λo zq25=>?_;refine .cell rv c o hk zq26 zq25.1 ?_ hr;rw [zq25.2,(zQ hmem hz).2 (by show scope.names.lookup x≠_;rw [show scope.names.lookup x=some .cell from hk];decide)]
inductive CfO (gl:List (Str×Val)) (params:Arguments) (body:List Stmt) (sc:Scope) (f:Fn):Prop
 |mk (kind:sc.kind= .function) (gen:sc.isGenerator=false) (co:sc.isCoroutine=false) (ps: ∀x∈params.args.map (·.arg),sc.names.lookup x=some .local\/sc.names.lookup x=some .cell) (b:zgh (zdh (params.args.map (·.arg)) sc gl) body=some f.body) (np:(params.args.map (·.arg)).length=f.np):CfO gl params body sc f
theorem mY {params:Arguments}{body:List Stmt}{sc:Scope}{f:Fn} (h:mZ gl params body sc=some (f.np,f.ns,f.body)):CfO gl params body sc f:=by
 obtain ⟨hb,h⟩:=gs h;refine (ms h).elim λb zq23=>?_;have h2:=zq23.2;simp only [QX,QD,JY,beq_iff_eq,JT] at hb;simp only [Prod.mk.injEq] at h2;exact ⟨hb.1.1.1.2,hb.1.1.2,hb.1.2,hb.2,h2.2.2▸zq23.1,h2.1⟩
theorem aA.drop {ms:List Val}: ∀ {vs:List Value}{n:Nat},aA C w ms vs->aA C w (ms.drop n) (vs.drop n):=by
 induction ms with
 |nil=>intro vs n h;cases h;rw [JM,JM];exact .nil
 |cons m ms ih=>
  intro vs n h;cases n with
  |zero=>exact h
  |succ n=>obtain ⟨v,t,rfl,_,r⟩:=h;exact ih r
theorem ziH {fn:Fn}{fd:FuncData}{xs:List Str}{as ws:List Val}{vs:List Value} (hk:C.K.In s.heap) (k7:jN C fn fd xs) (r:aA C w as vs) (ha:cJ fn as=some ws): ∃us,aA C w ws us/\ws.length=fn.np/\BindsTo s fd ⟨vs,[]⟩ (xs.zip us):=by
 obtain ⟨hc,e⟩:=gs ha;have h1:=Qr.mp (Qa.mp hc).1;have h2:=Qr.mp (Qa.mp hc).2;have e:=(Qf.inj e).symm;rcases k7 with ⟨k5,k7⟩| ⟨_,dvs,k7a,k7b⟩
 ·rw [k5] at h2 e
  have hl:as.length=fn.np:=JJ h1 (ZR (Kq.mp h2));rw [JM,Jn] at e;subst e;exact ⟨vs,r,hl,BindsTo.of_eq (k7 vs (r.length▸hl))⟩
 ·have hdl:=(k7a w).length
  have hrl:=r.length;refine ⟨vs++dvs.drop (dvs.length-(fn.np-vs.length)),?_,?_,kp_binds hk λSt=>k7b St vs (Qe (QP (Kt hrl)) h1) (Qe (Nat.sub_le_sub_left (QP hrl) _) (Qe h2 (QP hdl)))⟩
  ·rw [e,<-hdl,<-hrl]
   exact aA.append (k7a w).drop r
  ·rw [e,QG,ZD];exact (congrArg (as.length+ ·) (Nat.sub_sub_self h2)).trans (Nat.add_sub_of_le h1)
abbrev flV (f:Flow):Value:=match f with| .ret v=>v|_=> .none
theorem xQ {fl:Fl}{f:Flow}{fr:Frame}{H:MH}{r:Val×MH} (hr:FlR C w fl f) (e:xR (fl,fr) H=some r):aB C w r.1 (flV f)/\H=r.2:=by
 cases hr with
 |nx=>cases e;exact ⟨rfl,rfl⟩
 |bk=>exact nos e
 |ct=>exact nos e
 |rt h=>cases e;exact ⟨h,rfl⟩
theorem zdv (O:cA C gl): ∀d,c5 C d:=by
 intro d
 induction d with
 |zero=>exact λY k w H s f fa as vs r S hf rr e=>nos e
 |succ d ih=>
  intro Y k w H s f fa as vs r S hf rr;refine aF λfn hfn=>aF λws hargs=>aC λq HE ev er R hq=>?_;obtain ⟨hfa,ad,name,qual,params,body,scope,dV,kV,doc,pm,an,cdv,ct,oc,od,osl,k1,k2,k3,k4,k6,k7,k8,k10⟩:=O.fns _ _ hfn;rw [hfa,hf] at k1;cases k1;refine (ziH S.kIn k7 rr hargs).elim λus zq20=>?_;obtain ⟨hkind,hgen,hco,hps,hbd,hnp⟩:=mY k4;refine Y.below.elim λA₀ zq16=>zq16.elim λbase zq17=>zq17.elim λouter zq18=>?_;refine Y.top.elim λp zq11=>zq11.elim λloose zq12=>zq12.elim λmean zq13=>zq13.elim λmg zq14=>zq14.elim λmb zq15=>?_;obtain ⟨os,he,hn,hd⟩:=S.os;refine code_defC (binds:=(params.args.map (·.arg)).zip us) zq18.1 S.fr Y.k hn zq15 zq18.2 Y.frame Y.kind k2 k3 (by have:=Y.depth;show Y.A.depth<1000;exact Qn (Zw (Jh _ _)) (Qe (J5 this) (QV _ _))) zq20.2.2 ?_ k10 (λg L' h₁ tk cells FG F' N' Yc B' Xg Tg hlt=>?_) hco hgen hkind
  ·rw [QD]
   intro y hy;rw [JY,beq_iff_eq,beq_iff_eq];exact hps y.1 (Ks hy).1
  let Y':aH C d 2:=⟨Y.A.deeper (envOfC qual scope L' fa cdv),g,L',envOfC qual scope L' fa cdv,⟨Y.A,base,Y.envF::outer,B',Around.frames_deeper zq18.2⟩,Xg,⟨p,loose,mean,mg,mb,Tg⟩,rfl,hkind,Y.handled,by have:=Y.depth;show Y.A.depth+1+4*d+2+2<=900;lia,by have:=Y.units;show Y.A.units+3+20*d+190+5*2<=9900;lia⟩
  have zq10:=eA (L'+1) scope.names (L'+1) [] (Qo _) .nil λ_ h=>absurd h QB;have pm': ∀cells:Led,(os.flatten++(w.tp++(cells++(k.ce++k.ex)))).Perm (cells++(os.flatten++(w.tp++(k.ce++k.ex)))):=λcells=>(List.Perm.append_left _ (Q9 _ _ _)).trans (Q9 _ _ _);have S':St Y' ⟨cells,k.ce++k.ex,bindL (envOfC qual scope L' fa cdv).kindOf ((params.args.map (·.arg)).zip us) λ_=>none⟩ w H {s with heap:=h₁,toks:=tk}:=by
   refine ⟨F',⟨os,he,λp hp=>N' p ((pm' cells).mem_iff.mp hp),Led.nd.perm (pm' cells).symm (rA ?_ hd λx hx y hy e=>?_)⟩,Qe S.big (Qe FG.above (Jq FG.ns.lt)),S.lo⟩
   ·unfold Led.nd;rw [j1 Yc];exact zq10.1
   ·have hx':x.1∈cells.map (·.1):=QC.mpr ⟨x,hx,rfl⟩
    rw [j1 Yc] at hx';refine (QC.mp hx').elim λq zq9=>?_;exact absurd (Qn (hlt y hy) (Nat.le_of_succ_le (zq10.2 q zq9.1))) (by rw [zq9.2,e];exact JN _)
  refine (vB O ih O.glob (zN _ _ _) 40).2 _ _ hbd Y' _ _ _ _ _ _ (uQ (Y:=Y') (gl:=gl) (fn:=fn) (ex:=k.ce++k.ex) hkind k8 zq20.1 (zq20.2.1.trans hnp.symm) Yc S') _ ev _ _ λk1 w1 f1 s1 n1 r1=>?_;have hv:=(xQ r1 er).1;obtain ⟨os1,he1,hn1,hd1⟩:=n1.pl.st.os;rw [show k1.all w1 os1=os1.flatten++(w1.tp++(k1.ce++(k.ce++k.ex))) from by unfold Kp.all;rw [n1.ex]] at hn1 hd1;have sub:(k.all w1 os1).Sublist (os1.flatten++(w1.tp++(k1.ce++(k.ce++k.ex)))):=(List.Sublist.refl _).append ((List.Sublist.refl _).append (List.sublist_append_right _ _));exact leaveK_ n1.pl.st.fr hn1 λF2 N2=>hq w1 _ s1 ⟨n1.le,⟨F2,⟨os1,(xQ r1 er).2▸he1,λp hp=>N2 p (sub.subset hp),List.Sublist.nodup (List.Sublist.map _ sub) hd1⟩,S.big,n1.pl.st.lo⟩,n1.same.1,n1.same.2⟩ hv
theorem zcT (O:cA C gl) {s₁:Shared}{p:Program}{loose:List Str}{mean:ExcName->Option Value}{mg mb:Str->Option Value} (X:C.K.In s₁.heap) (T:Top p loose mean mg mb s₁.heap) (hbig:4<=s₁.heap.objs.size)
  {f:Nat}{fa:Addr}{mvs:List Val}{rv:Value}{r:Val×MH} (hf:C.ad.lookup f=some fa) (hlaw: ∀fn,C.P.fnAt f=some fn->fn.dfl= []) (hv:aB C ⟨[],[]⟩ (.fl mvs) rv) (ev:bC C.P i5 61 f [.fl mvs] []=some r) {Q:Value->Shared->Prop}{E:Value->Shared->Prop}
  (hq: ∀w v s',aB C w r.1 v->(∀b o,s₁.heap.get? b=some o->s'.heap.get? b=some o) ->s'.gens=s₁.gens->s'.os=s₁.os->Q v s'):
  wpAny C.M callerA (call (.ref fa) [rv]) Q E s₁:=by
 revert ev
 refine aF λfn hfn=>aF λws hargs=>aC λq HE ev er=>?_;obtain ⟨hfa,ad,name,qual,params,body,scope,dV,kV,doc,pm,an,cdv,ct,oc,od,osl,k1,k2,k3,k4,k6,k7,k8,k10⟩:=O.fns _ _ hfn;rw [hfa,hf] at k1;cases k1;obtain ⟨k5,k7⟩:=k7.resolve_right λh=>h.1 (hlaw fn hfn);obtain ⟨hkind,hgen,hco,hps,hbd,hnp⟩:=mY k4;obtain ⟨hc,e⟩:=gs hargs;have hc:=Qa.mp hc;rw [k5] at hc e;rw [JM,Jn] at e;cases e;have hl:1=fn.np:=JJ (Qr.mp hc.1) (ZR (Kq.mp (Qr.mp hc.2)));refine wpAny_call (codeAny_call_cells (binds:=(params.args.map (·.arg)).zip [rv]) (fd:=fnOf name qual params body scope dV kV doc pm an cdv ct) (body:=body) (by decide) (X _ _ k2) rfl T.nolimit (codeRec_of X k3) rfl (k7 [rv] hl) rfl ?_ (λs2 x=>?_) hco hgen hkind)
 ·intro y hy
  rcases hps y.1 (Ks hy).1 with h|h
  ·exact .inl h
  ·exact .inr ⟨h,cellsFrom_some _ _ _ (.inl h)⟩
 show wpAny C.M (callerA.deeper (envOfC qual scope s₁.heap.objs.size fa cdv)) (PySem.execs body (envOfC qual scope s₁.heap.objs.size fa cdv)) _ _ _;have x':InCallC s₁ s₁.heap.objs.size (bindL (envOfC qual scope s₁.heap.objs.size fa cdv).kindOf ((params.args.map (·.arg)).zip [rv]) λ_=>none) (cellsFrom (s₁.heap.objs.size+1) scope.names []) (bindC (envOfC qual scope s₁.heap.objs.size fa cdv).kindOf ((params.args.map (·.arg)).zip [rv]) λ_=>none) s2:=x;refine x.done.elim λh₁ zq2=>zq2.elim λtk zq3=>?_;obtain rfl:=zq3.1;have hk₁:=x'.toInCall.keep;refine (Cl.news (h₀:=s₁.heap) (Qo _) λn c hm=>⟨x'.cell n c (lookup_of_mem_nodup (cellsFrom_names scope.names 0 (s₁.heap.objs.size+1) [] [] rfl▸k10) hm),x'.above n c hm⟩).elim λcells zq1=>?_
 let Y':aH C 60 2:=⟨callerA.deeper (envOfC qual scope s₁.heap.objs.size fa cdv),s₁.heap,s₁.heap.objs.size,envOfC qual scope s₁.heap.objs.size fa cdv,⟨callerA,s₁.heap,[],below_caller _,rfl⟩,X,⟨p,loose,mean,mg,mb,T⟩,rfl,hkind,rfl,(by decide:301+1+4*60+2+2<=900),(by decide:4+3+20*60+190+5*2<=9900)⟩
 have eq:(⟨cells,[],bindL (envOfC qual scope s₁.heap.objs.size fa cdv).kindOf ((params.args.map (·.arg)).zip [rv]) λ_=>none⟩:Kp).all ⟨[],[]⟩ []=cells:=Jn _;have S':St Y' ⟨cells,[],bindL (envOfC qual scope s₁.heap.objs.size fa cdv).kindOf ((params.args.map (·.arg)).zip [rv]) λ_=>none⟩ ⟨[],[]⟩ [] {s₁ with heap:=h₁,toks:=tk}:=
  ⟨(⟨x'.toInCall.ns,hk₁,Qo _⟩:Fr s₁.heap s₁.heap.objs.size h₁ (bindL (envOfC qual scope s₁.heap.objs.size fa cdv).kindOf ((params.args.map (·.arg)).zip [rv]) λ_=>none)),⟨[],⟨rfl,rfl⟩,eq.symm▸zq1.1,eq.symm▸(by unfold Led.nd;rw [j1 zq1.2];exact ((eA 0 scope.names (s₁.heap.objs.size+1) [] (QO _) .nil λ_ h=>absurd h QB).1))⟩,hbig,λ_ h=>absurd h QB⟩
 refine (vB O (zdv O 60) O.glob (zN _ _ _) 40).2 _ _ hbd Y' _ _ _ _ _ _ (uQ (Y:=Y') (gl:=gl) (fn:=fn) (ex:=[]) hkind k8 (.one hv) (by rw [hnp];exact hl) zq1.2 S') _ ev _ _ λk1 w1 f1 s1 n1 r1=>?_;exact hq w1 _ s1 (xQ r1 er).1 n1.pl.st.fr.keep n1.same.1 n1.same.2
end
def Data.seq? (d:Data):Option (List Value×Nat):=ZL (motive:=λ_=>Option (List Value×Nat)) d none (λ_=>none) (λxs n=>some (xs.toList,n)) (λ_ _=>none) (λ_ _ _=>none) (λ_ _=>none) (λ_=>none) (λ_=>none) (λ_=>none) (λ_=>none) none
theorem seq?_s {d:Data}{p:List Value×Nat}:Data.seq? d=some p->d= .seq p.1.toArray p.2:=by
 cases d<;>first|exact λe=>nos e|(intro e;cases e;rfl)
def Data.func? (d:Data):Option FuncData:=ZL (motive:=λ_=>Option FuncData) d none (λ_=>none) (λ_ _=>none) (λ_ _=>none) (λ_ _ _=>none) (λ_ _=>none) (λ_=>none) some (λ_=>none) (λ_=>none) none
theorem func?_s {d:Data}{f:FuncData}:Data.func? d=some f->d= .func f:=by
 cases d<;>first|exact λe=>nos e|(intro e;cases e;rfl)
def Value.ref? (v:Value):Option Addr:=Z8 (motive:=λ_=>Option Addr) v none none none (λ_=>none) (λ_ _=>none) (λ_ _=>none) (λ_ _=>none) (λ_ _=>none) (λ_=>none) (λ_=>none) some
theorem zsE?_s {v:Value}{a:Addr}:Value.ref? v=some a->v= .ref a:=by
 cases v<;>first|exact λe=>nos e|(intro e;cases e;rfl)
def zf9 (v:Value) (i:Int):Bool:=Z8 (motive:=λ_=>Bool) v false false false (λ_=>false) (λj _=>j==i) (λ_ _=>false) (λ_ _=>false) (λ_ _=>false) (λ_=>false) (λ_=>false) (λ_=>false)
theorem zfg {v:Value}{i:Int}:zf9 v i=true-> ∃t,v= .int i t:=by
 cases v with
 |int j t=>exact λe=>⟨t,by rw [beq_iff_eq.mp e]⟩
 |_=>exact λe=>nomatch e
def zf2 (v:Value) (s:List Nat):Bool:=Z8 (motive:=λ_=>Bool) v false false false (λ_=>false) (λ_ _=>false) (λ_ _=>false) (λx _=>x.cps.toList==s) (λ_ _=>false) (λ_=>false) (λ_=>false) (λ_=>false)
theorem zeb {v:Value}{s:List Nat}:zf2 v s=true-> ∃t,v= .str ⟨s.toArray⟩ t:=by
 cases v with
 |str x t=>exact λe=>⟨t,by rw [<-beq_iff_eq.mp e]⟩
 |_=>exact λe=>nomatch e
def typeIs (v:Value) (o:Option String):Bool:=Qc (motive:=λ_=>Bool) o false λn=>v== .type n
def zwJ (v:Value) (o:Option String):Bool:=Qc (motive:=λ_=>Bool) o false λn=>v== .builtin n
def sZ (C:Cfg) (v:Value) (n:String):Option (List Value×Nat):=(Value.ref? v).bind λa=>(C.K.lookup a).bind λo=>grd (o.cls== .type n) (Data.seq? o.data)
inductive zrA (C:Cfg) (v:Value) (n:String) (p:List Value×Nat):Prop
 |mk (a:Addr) (o:Obj) (e:v= .ref a) (k:C.K.lookup a=some o) (c:o.cls= .type n) (d:o.data= .seq p.1.toArray p.2):zrA C v n p
theorem yX {C:Cfg}{v:Value}{n:String}{p:List Value×Nat} (h:sZ C v n=some p):zrA C v n p:=by
 refine (bs h).elim λa zq37=>?_;have h:=zq37.2;refine (bs h).elim λo zq36=>?_;have h:=zq36.2;obtain ⟨e3,h⟩:=gs h;exact ⟨a,o,zsE?_s zq37.1,zq36.1,beq_iff_eq.mp e3,seq?_s h⟩
def zU (f:Val->Value->Bool):List Val->List Value->Bool
 | [],vs=>vs.isEmpty
 |m::ms,vs=>Ja (motive:=λ_=>Bool) vs false λv r=>f m v && zU f ms r
def zat (C:Cfg):Nat->Val->Value->Bool
 |0,_,_=>false
 |k+1,m,v=>Val.casesOn (motive_1:=λ_=>Bool) m (v== .none) (λb=>v== .bool b) (λi=>zf9 v i) (λs=>zf2 v s && cL s)
  (λms => Qc (motive:=λ_ => Bool) (sZ C v "tuple") false λp => zU (zat C k) ms p.1 && Qg ms.length lim) (λ_ => false)
  (λid=>Qc (motive:=λ_=>Bool) (C.ad.lookup id) false λa=>v== .ref a) (λc=>typeIs v (dC.lookup c)) (λc=>zwJ v (jF.lookup c)) (λ_=>false)
  (λms => Qc (motive:=λ_ => Bool) (sZ C v "list") false λp => zU (zat C k) ms p.1 && Qg ms.length lim) (λ_ => false)
theorem eD {C:Cfg}{f:Val->Value->Bool} (hf: ∀m v,f m v=true-> ∀w,aB C w m v) (w:Wd): ∀ (ms:List Val) (vs:List Value),zU f ms vs=true->aA C w ms vs:=by
 intro ms
 induction ms with
 |nil=>intro vs h;exact Za.mp h
 |cons m ms ih=>
  intro vs h;cases vs with
  |nil=>exact nomatch h
  |cons v r=>
   exact .cons (hf _ _ (Qa.mp h).1 w) (ih r (Qa.mp h).2)
theorem eL {α:Type}{o:Option α}{f:α->Bool} (h:Qc (motive:=λ_=>Bool) o false f=true): ∃a,o=some a/\f a=true:=by
 cases o with
 |none=>exact nomatch h
 |some a=>exact ⟨a,rfl,h⟩
theorem fB {C:Cfg}: ∀ (k:Nat) (m:Val) (v:Value),zat C k m v=true-> ∀w,aB C w m v:=by
 intro k
 induction k with
 |zero=>exact λm v h=>nomatch h
 |succ k ih=>
  intro m v h w;cases m with
  |none=>exact beq_iff_eq.mp h
  |bool b=>exact beq_iff_eq.mp h
  |int i=>exact zfg h
  |str s=>
   have h:=Qa.mp h;refine (zeb h.1).elim λt zq34=>?_;exact ⟨t,zq34,qX h.2⟩
  |tup ms=>
   obtain ⟨p,e,h⟩ := eL (o:=sZ C v "tuple") h;obtain ⟨a,o,e,q1,q2,q3⟩:=yX e;have h:=Qa.mp h;exact ⟨a,o,p.2,p.1,e,⟨.inr q1,q2,q3⟩,eD ih w _ _ h.1,Qr.mp h.2⟩
  |ref a=>exact nomatch h
  |top id=>
   obtain ⟨a,e,h⟩:=eL (o:=C.ad.lookup id) h;exact ⟨a,beq_iff_eq.mp h,e⟩
  |ty c=>
   obtain ⟨n,e,h⟩:=eL (o:=dC.lookup c) h;exact ⟨n,beq_iff_eq.mp h,e⟩
  |bi c=>
   obtain ⟨n,e,h⟩:=eL (o:=jF.lookup c) h;exact ⟨n,beq_iff_eq.mp h,e⟩
  |rng n=>exact nomatch h
  |fl ms=>
   obtain ⟨p,e,h⟩ := eL (o:=sZ C v "list") h;obtain ⟨a,o,e,q1,q2,q3⟩:=yX e;have h:=Qa.mp h;exact ⟨a,o,p.2,p.1,e,⟨q1,q2,q3⟩,eD ih w _ _ h.1,Qr.mp h.2⟩
  |setn n=>exact nomatch h
section
variable {C:Cfg}{gl:List (Str×Val)}
def oo (o:Option (Option Value)) (f:Value->Bool) (g:Bool):Bool:=Qc (motive:=λ_=>Bool) o false λx=>Qc (motive:=λ_=>Bool) x g f
theorem zg3 {o:Option (Option Value)}{f:Value->Bool}{g:Bool} (h:oo o f g=true):(∃v,o=some (some v)/\f v=true)\/o=some none/\g=true:=by
 rcases o with _|_|v
 ·exact nomatch h
 ·exact .inr ⟨rfl,h⟩
 ·exact .inl ⟨v,rfl,h⟩
def glB (C : Cfg) (p : Str × Val) : Bool := oo (nsIn C.K mainGlobals p.1) (zat C 5 p.2) (!(p.1 == "__name__") && oo (some (bootBuiltins p.1)) (zat C 5 p.2) false)
theorem zqr {p:Str×Val} (h:glB C p=true): ∃rv,GlR C p rv:=by
 rcases zg3 h with ⟨v,e,h⟩| ⟨e,h⟩
 ·exact ⟨v,fB _ _ _ h,.inl e⟩
 ·have h:=Qa.mp h
  rcases zg3 h.2 with ⟨v,e2,h2⟩| ⟨_,h2⟩
  ·exact ⟨v,fB _ _ _ h2,.inr ⟨e,λq=>by rw [q] at h;exact absurd h.1 (by decide+kernel),Qf.inj e2⟩⟩
  ·exact nomatch h2
def zpK (nms:List Str) (n:Nat):Option Str:=nms.find? λx=>enc x==n && aD x
theorem zcq {nms:List Str}{n:Nat}{x:Str} (h:zpK nms n=some x):aD x=true/\enc x=n:=by
 exact ⟨(Qa.mp (JK (p:=λx=>enc x==n && aD x) h:(enc x==n && aD x)=true)).2,beq_iff_eq.mp (Qa.mp (JK (p:=λx=>enc x==n && aD x) h:(enc x==n && aD x)=true)).1⟩
def zcv (C:Cfg) (nms:List Str) (c n:Nat) (f:Addr->Str->Bool):Bool:=Qc (motive:=λ_=>Bool) (C.ad.lookup c) false λca=>Qc (motive:=λ_=>Bool) (zpK nms n) false λx=>plainGet C.K ca x && hasDictIn C.K ca && f ca x
theorem y7 {nms:List Str}{c n:Nat}{f:Addr->Str->Bool}{P:Addr->Str->Prop} (hf: ∀a x,f a x=true->P a x) (h:zcv C nms c n f=true):dS C c n P:=by
 refine (eL h).elim λca zq26=>?_;have h:=zq26.2;refine (eL h).elim λx zq25=>?_;have h:=zq25.2;have h:=Qa.mp h;exact ⟨ca,x,zq26.1,(zcq zq25.1).1,(zcq zq25.1).2,(Qa.mp h.1).1,(Qa.mp h.1).2,hf _ _ h.2⟩
def zrm (o:Option CFound) (v:Value):Bool:=Qc (motive:=λ_=>Bool) o false λx=>CFound.casesOn (motive:=λ_=>Bool) x (λu=>u==v) λ_ _ _ _=>false
theorem ziw {o:Option CFound}{v:Value} (h:zrm o v=true):o=some (.val v):=by
 rcases o with _|_|_
 ·exact nomatch h
 ·rw [beq_iff_eq.mp h]
 ·exact nomatch h
def zgm (C:Cfg) (v:Val) (ca:Addr) (x:Str):Bool:=oo (findIn C.K (.ref ca) x) (λav=>zat C 5 v av && bif qB C.P v then
 isFn C.K av && (specialIn C.K (.ref ca) "__getattribute__" == some (some (.builtin "type.__getattribute__")) && Qc (motive:=λ_ => Bool) (typeIn C.K (.ref ca)) false λmc => readsIn C.K ca mc && zrm (findCls C.K (.ref ca) mc x) av)
 else specialIn C.K av "__get__" == some none && (handedIn av && !copiedNames.contains x)) false
theorem zfE {v:Val}{ca:Addr}{x:Str} (h:zgm C v ca x=true):zdK C v ca x:=by
 rcases zg3 h with ⟨av,e,h⟩| ⟨_,h⟩
 ·have h:=Qa.mp h
  refine ⟨av,e,fB _ _ _ h.1,λhi=>?_,λhi=>?_⟩
  ·rw [hi] at h
   have h1:=Qa.mp h.2;refine (eL (Qa.mp h1.2).2).elim λmc zq24=>?_;exact ⟨h1.1,beq_iff_eq.mp (Qa.mp h1.2).1,mc,zq24.1,(Qa.mp zq24.2).1,ziw (Qa.mp zq24.2).2⟩
  ·rw [hi] at h
   have h1:=Qa.mp h.2;exact ⟨beq_iff_eq.mp h1.1,(Qa.mp h1.2).1,JT _▸(Qa.mp h1.2).2⟩
 ·exact nomatch h
def zqu (C : Cfg) (ca : Addr) (x : Str) : Bool := Qc (motive:=λ_ => Bool) (findIn C.K (.ref ca) x) false λat' => noGet C.K at' && (takerIn C.K ca x == some none && (findIn C.K (.ref ca) "__setattr__" == some (some (.builtin "object.__setattr__")) && plainOver C.K ca))
theorem zih {ca:Addr}{x:Str} (h:zqu C ca x=true):ziR C ca x:=by
 refine (eL h).elim λat' zq23=>?_;have e:=zq23.1;have h:=zq23.2;have h:=Qa.mp h;have h2:=Qa.mp h.2;have h3:=Qa.mp h2.2;exact ⟨at',e,h.1,beq_iff_eq.mp h2.1,beq_iff_eq.mp h3.1,h3.2⟩
def zga (C : Cfg) (c i : Nat) : Bool := Qc (motive:=λ_ => Bool) (C.ad.lookup c) false λca => Qc (motive:=λ_ => Bool) (C.ad.lookup i) false λfI => makesIn C.K ca && (findIn C.K (.ref ca) "__init__" == some (some (.ref fI)) && (isFn C.K (.ref fI) && keepIn C.K (.ref ca)))
theorem zfl {c i:Nat} (h:zga C c i=true):nX C c i:=by
 refine (eL h).elim λca zq22=>?_;refine (eL zq22.2).elim λfI zq21=>?_;have h2:=Qa.mp (Qa.mp zq21.2).2;exact ⟨ca,fI,zq22.1,zq21.1,(Qa.mp zq21.2).1,beq_iff_eq.mp h2.1,(Qa.mp h2.2).1,(Qa.mp h2.2).2⟩
def clB (C:Cfg) (nms:List Str) (k:Cl):Bool:=(k.attrs.all λp=>zcv C nms k.addr p.1 (zgm C p.2)) && ((k.flds.all λn=>zcv C nms k.addr n (zqu C)) && (k.init.all λi=>zga C k.addr i))
theorem zdi {α β:Type}{f g:α->Option β}: ∀ {l:List α},(∀x∈l,f x=g x) ->l.filterMap f=l.filterMap g:=by
 intro l
 induction l with
 |nil=>exact λ_=>rfl
 |cons x l ih=>intro h;rw [JC,JC,h x (.head _),ih λy hy=>h y (.tail _ hy)]
theorem zbe {xs:List Str}: ∀ {vs:List Value},xs.Nodup->vs.length=xs.length->(∀n∈xs,((xs.zip vs).lookup n).isSome=true)/\(xs.filterMap λn=>((xs.zip vs).lookup n).map (n,·))=xs.zip vs:=by
 induction xs with
 |nil=>exact λ_ _=>⟨λ_ h=>absurd h QB,rfl⟩
 |cons x xs ih=>
  intro vs nd hl;cases vs with
  |nil=>exact nomatch hl
  |cons v vs=>
   have nd:=Qu.mp nd;have i1:=(ih (vs:=vs) nd.2 (Qp.inj hl)).1;have ne: ∀n∈xs,(((x::xs).zip (v::vs)).lookup n)=(xs.zip vs).lookup n:=λn hn=>by
    rw [JZ,QE,beq_false_of_ne (show n≠x from λe=>nd.1 (e▸hn))]
   refine ⟨λn hn=>?_,?_⟩
   ·rcases Qy.mp hn with rfl|hn
    ·rw [JZ,QE,beq_self_eq_true];rfl
    ·rw [ne n hn];exact i1 n hn
   ·rw [JC,(zdi λn hn=>by rw [ne n hn]:(xs.filterMap λn=>(((x::xs).zip (v::vs)).lookup n).map (n,·))=xs.filterMap λn=>((xs.zip vs).lookup n).map (n,·)),(ih (vs:=vs) nd.2 (Qp.inj hl)).2,JZ,QE,beq_self_eq_true];rfl
theorem x7 {fd:FuncData}{vs:List Value} (h1:fd.params.posonlyargs= []) (h2:fd.params.vararg=none) (h3:fd.params.kwonlyargs= []) (h4:fd.params.kwarg=none) (hd:fd.defaults= .none) (hl:vs.length=(fd.params.args.map (·.arg)).length) (nd:(fd.params.args.map (·.arg)).Nodup):
  bindArgs fd ⟨vs,[]⟩=pure ((fd.params.args.map (·.arg)).zip vs):=by
 obtain ⟨e1,e2⟩:=zbe nd hl;unfold bindArgs;have e3:((fd.params.args.map (·.arg)).take (fd.params.args.map (·.arg)).length).filter (λn=>(((fd.params.args.map (·.arg)).zip vs).lookup n).isNone)= []:=by
  rw [Zb,List.filter_eq_nil_iff];intro n hn;rw [Q4];intro q
  have:=e1 n hn
  rw [q] at this;exact nomatch this
 generalize hx:fd.params.args.map (·.arg)=xs at*
 have g2:((Qv:Option (Array Value)).getD #[]).toList= []:=rfl;simp only [hx,h1,h2,h3,h4,hd,List.map_nil,List.nil_append,Jn,List.forIn_nil,pure_bind,seqItems?,notAStandIn,(by rw [hl,decide_eq_false (JN _)];rfl:(decide (vs.length>xs.length) && (Qv:Option Arg).isNone)=false),g2,JM,Zf,KD,e3,List.isEmpty_nil,Z6,Ji,if_false,List.zip_nil_right,e2]
def stm? (b:FuncBody):Option (List Stmt):=FuncBody.casesOn (motive:=λ_=>Option (List Stmt)) b some (λ_=>none)
theorem stm?_s {b:FuncBody}{l:List Stmt}:stm? b=some l->b= .stmts l:=by
 cases b<;>first|exact λe=>nos e|(intro e;cases e;rfl)
structure FdP where
 a:Addr
 o:Obj
 fd:FuncData
def uR (C:Cfg) (f:Fn):Option FdP:=(C.ad.lookup f.addr).bind λa=>(C.K.lookup a).bind λo=>(Data.func? o.data).map λfd=>⟨a,o,fd⟩
def zfx (C:Cfg) (gl:List (Str×Val)) (f:Fn):Option (Nat×Nat×List Sm):=(uR C f).bind λp=>(stm? p.fd.body).bind λb=>mZ gl p.fd.params b p.fd.scope
def ndB {α:Type} [BEq α]:List α->Bool
 | []=>true
 |a::r=>!r.contains a && ndB r
theorem zcs {α:Type} [BEq α] [LawfulBEq α]: ∀ {l:List α},ndB l=true->l.Nodup:=by
 intro l
 induction l with
 |nil=>exact λ_=>List.nodup_nil
 |cons a r ih=>
  intro h;have h:=Qa.mp h;refine Qu.mpr ⟨λhm=>?_,ih h.2⟩;rw [Q7.mpr hm] at h;exact nomatch h.1
def wB (fd:FuncData):Bool:=fd.params.posonlyargs.isEmpty && (fd.params.vararg.isNone && (fd.params.kwonlyargs.isEmpty && (fd.params.kwarg.isNone && fd.defaults== .none)))
def fnB (C:Cfg) (f:Fn):Bool:=Qc (motive:=λ_=>Bool) (uR C f) false λp=>(p.fd.globals==mainGlobals && (p.fd.closure.isEmpty && (p.fd.builtins==builtinsNs && (codeIn C.K p.fd.code p.fd.qualname && keepIn C.K (.ref p.a))))) && ((ndB (p.fd.params.args.map (·.arg)) && ndB ((cellsFrom 0 p.fd.scope.names []).map (·.1))) && (!f.dfl.isEmpty||wB p.fd))
def g6 (C:Cfg) (f:Fn):Prop:=f.dfl≠ []-> ∀p,uR C f=some p->jN C f p.fd (p.fd.params.args.map (·.arg))
theorem zqw {fd:FuncData}{b:List Stmt} (k1:fd.globals=mainGlobals) (k2:fd.closure= []) (k3:fd.builtins=builtinsNs) (k4:fd.body= .stmts b):fd=fnOf fd.name fd.qualname fd.params b fd.scope fd.defaults fd.kwdefaults fd.doc fd.pyModule fd.annotations fd.code fd.closureTuple:=by
 cases fd;cases k1;cases k2;cases k3;cases k4;rfl
theorem zce {fd:FuncData}{vs:List Value} (h:wB fd=true) (hl:vs.length=(fd.params.args.map (·.arg)).length) (nd:(fd.params.args.map (·.arg)).Nodup):bindArgs fd ⟨vs,[]⟩=pure ((fd.params.args.map (·.arg)).zip vs):=
 let h7:=Qa.mp h
 let h8:=Qa.mp h7.2
 let h9:=Qa.mp h8.2
 let h10:=Qa.mp h9.2
 x7 (Za.mp h7.1) (Q4.mp h8.1) (Za.mp h9.1) (Q4.mp h10.1) (beq_iff_eq.mp h10.2) hl nd
theorem fnF {f:Fn}{a:Addr}{o:Obj}{fd:FuncData}{b:List Stmt} (e1:C.ad.lookup f.addr=some a) (e2:C.K.lookup a=some o) (e3:Data.func? o.data=some fd) (eb:stm? fd.body=some b) (hc:mZ gl fd.params b fd.scope=some (f.np,f.ns,f.body)) (hD:f.dfl≠ []->jN C f fd (fd.params.args.map (·.arg)))
  (h1:(fd.globals==mainGlobals && (fd.closure.isEmpty && (fd.builtins==builtinsNs && (codeIn C.K fd.code fd.qualname && keepIn C.K (.ref a)))))=true) (nd:(fd.params.args.map (·.arg)).Nodup) (nc:((cellsFrom 0 fd.scope.names []).map (·.1)).Nodup) (h2:(!f.dfl.isEmpty||wB fd)=true):sF C gl f:=by
 have h1:=Qa.mp h1;have h4:=Qa.mp (Qa.mp h1.2).2;have ef:=zqw (beq_iff_eq.mp h1.1) (Za.mp (Qa.mp h1.2).1) (beq_iff_eq.mp h4.1) (stm?_s eb);exact ⟨a,fd.name,fd.qualname,fd.params,b,fd.scope,fd.defaults,fd.kwdefaults,fd.doc,fd.pyModule,fd.annotations,fd.code,fd.closureTuple,o.cls,o.dict,o.slots,e1,ef▸func?_s e3▸e2,(Qa.mp h4.2).1,hc,(Qa.mp h4.2).2,ef▸((Decidable.em (f.dfl= [])).elim .inr λh=> .inl (hD h):jN C f fd (fd.params.args.map (·.arg))\/f.dfl= []).elim id λhd=> .inl ⟨hd,λvs hl=>zce ((Jp.mp h2).resolve_left (by rw [hd];exact λh=>nomatch h)) (hl.trans (by obtain ⟨_,_,_,_,_,np⟩:=mY hc;exact np:(fd.params.args.map (·.arg)).length=f.np).symm) nd⟩,nd,nc⟩
theorem zqt {f:Fn} (h:fnB C f=true) (hc:zfx C gl f=some (f.np,f.ns,f.body)) (hD:g6 C f):sF C gl f:=by
 obtain ⟨p,e,h⟩:=eL h;unfold zfx at hc;rw [e] at hc;obtain ⟨b,eb,hc⟩:=bs (show ((stm? p.fd.body).bind λb=>mZ gl p.fd.params b p.fd.scope)=_ from hc);have hD:=λh=>hD h p e;obtain ⟨a,e1,e⟩:=bs e;obtain ⟨o,e2,e⟩:=bs e;refine (ms e).elim λfd zq14=>?_;obtain rfl:=zq14.2;have h5:=Qa.mp (Qa.mp h).2;exact fnF e1 e2 zq14.1 eb hc hD (Qa.mp h).1 (zcs (Qa.mp h5.1).1) (zcs (Qa.mp h5.1).2) h5.2
def zcd (o:Obj):Bool:=ZL (motive:=λ_=>Bool) o.data true (λ_=>false) (λ_ _=>false) (λ_ _=>false) (λ_ _ _=>false) (λ_ _=>false) (λ_=>false) (λ_=>false) (λ_=>false) (λ_=>false) false
def zdo (o:Obj):Bool:=ZL (motive:=λ_=>Bool) o.data false (λ_=>false) (λ_ _=>false) (λes _=>es.isEmpty) (λ_ _ _=>false) (λ_ _=>false) (λ_=>false) (λ_=>false) (λ_=>false) (λ_=>false) false
def zc2 (C:Cfg) (p:Nat×Nat):Bool:=Qc (motive:=λ_=>Bool) (C.ad.lookup p.1) false λa=>Qc (motive:=λ_=>Bool) (C.ad.lookup p.2) false λca=>Qc (motive:=λ_=>Bool) (C.K.lookup a) false λo=>Qc (motive:=λ_=>Bool) o.dict false λdx=>
 Qc (motive:=λ_ => Bool) (C.K.lookup dx) false λo' => (o.cls == .ref ca && (zcd o && o.slots.isEmpty)) && ((o'.cls == .type "dict" && o'.dict.isNone) && (zdo o' && o'.slots.isEmpty))
theorem zcc {o:Obj} (h:zcd o=true):o.data= .plain:=by
 obtain ⟨c,d,x,s⟩:=o;cases x<;>first|rfl|exact nomatch h
theorem zdn {o:Obj} (h:zdo o=true): ∃n,o.data= .dict #[] n:=by
 obtain ⟨c,d,x,s⟩:=o;cases x with
 |dict es n=>exact ⟨n,by rw [Zx.mp h]⟩
 |_=>exact nomatch h
theorem zfh {p:Nat×Nat} (h:zc2 C p=true):nW C p.1 p.2:=by
 refine (eL h).elim λa zq13=>?_;have h:=zq13.2;refine (eL h).elim λca zq12=>?_;have h:=zq12.2;refine (eL h).elim λo zq11=>?_;have h:=zq11.2;refine (eL h).elim λdx zq10=>?_;have h:=zq10.2;obtain ⟨o',e5,h⟩:=eL h;have h:=Qa.mp h;have h1:=Qa.mp h.1;have h4:=Qa.mp (Qa.mp h.2).1;have h5:=Qa.mp (Qa.mp h.2).2;obtain ⟨n,e6⟩:=zdn h5.1;refine ⟨a,ca,dx,n,zq13.1,zq12.1,?_,?_⟩
 ·rw [zq11.1,<-beq_iff_eq.mp h1.1,<-zq10.1,<-zcc (Qa.mp h1.2).1,<-Zx.mp (Qa.mp h1.2).2]
 ·obtain ⟨c,d,x,s⟩:=o'
  cases beq_iff_eq.mp h4.1;cases Q4.mp h4.2;cases e6;cases Zx.mp h5.2;exact e5
def adB (C : Cfg) : Bool := C.ad.all λp => Qc (motive:=λ_ => Bool) (C.K.lookup p.2) false λo => !(o.cls == .type "tuple")
def zwB (C:Cfg):Bool:=(C.K.lookup 0).isSome && ((C.K.lookup 1).isSome && ((C.K.lookup 2).isSome && (C.K.lookup 3).isSome))
theorem zfk {l:List (Nat×Addr)}:(l.map (·.2)).Nodup-> ∀ {i j:Nat}{a:Addr},(i,a)∈l->(j,a)∈l->i=j:=by
 induction l with
 |nil=>exact λ_ _ _ _ h _=>absurd h QB
 |cons p r ih=>
  intro hn i j a h1 h2;have hn:=Qu.mp hn;rcases Qy.mp h1 with h1|h1<;>rcases Qy.mp h2 with h2|h2
  ·exact congrArg (·.1) (h1.trans h2.symm)
  ·exact absurd (QC.mpr ⟨(j,a),h2,show a=p.2 from congrArg (λq:Nat×Addr=>q.2) h1⟩) hn.1
  ·exact absurd (QC.mpr ⟨(i,a),h1,show a=p.2 from congrArg (λq:Nat×Addr=>q.2) h2⟩) hn.1
  ·exact ih hn.2 h1 h2
theorem ziv (h1:adB C=true) (h2:ndB (C.ad.map (·.2))=true) (h3:zwB C=true):jM C:=by
 refine ⟨λid a h=>?_,λi j a hi hj=>zfk (zcs h2) (aU hi) (aU hj),λb hb=>?_⟩
 ·refine (eL (QD.mp h1 _ (aU h))).elim λo zq7=>?_
  have h:=zq7.2;exact ⟨o,zq7.1,λhc=>by rw [hc] at h;exact absurd h (by decide+kernel)⟩
 ·have h3:=Qa.mp h3
  have h4:=Qa.mp h3.2;have h5:=Qa.mp h4.2;rcases b with _|_|_|_|b
  ·exact QK.mp h3.1
  ·exact QK.mp h4.1
  ·exact QK.mp h5.1
  ·exact QK.mp h5.2
  ·exact absurd hb (ZJ.mpr (QV 4 b))
theorem zgP {nms:List Str} (hc:C.P.fns.map (zfx C gl)=C.P.fns.map λf=>some (f.np,f.ns,f.body)) (hf:C.P.fns.all (fnB C)=true) (hD: ∀f∈C.P.fns,g6 C f) (hg:gl.all (glB C)=true) (hi:C.P.insts.all (zc2 C)=true) (hk:C.P.cls.all (clB C nms)=true) (h5:jM C) (h6:zV C):cA C gl:=by
 have cls: ∀ {c k},C.P.clsAt c=some k->k.addr=c/\clB C nms k=true:=λ{c k} h=>⟨beq_iff_eq.mp (JK (p:=λx:Cl=>x.addr==c) h),QD.mp hk k (Jx h)⟩;refine ⟨λx v h=>zqr (QD.mp hg (x,v) (aU h)),λa f h=>?_,λid c h=>?_,λc n v h=>?_,λc n h=>?_,λc k i h hi=>?_,h5,h6⟩
 ·have hm:=Jx h
  exact ⟨beq_iff_eq.mp (JK (p:=λf:Fn=>f.addr==a) h),zqt (QD.mp hf f hm) (List.map_inj_left.mp hc f hm) (hD f hm)⟩
 ·obtain ⟨p,hp,rfl⟩:=ms h
  rw [<-beq_iff_eq.mp (JK (p:=λp:Nat×Nat=>p.1==id) hp)];exact zfh (QD.mp hi p (Jx hp))
 ·obtain ⟨k,hk,h⟩:=bs h
  obtain ⟨p,hp,rfl⟩:=ms h;obtain ⟨e,hb⟩:=cls hk;rw [<-e,<-beq_iff_eq.mp (JK (p:=λp:Nat×Val=>p.1==n) hp)];exact y7 (λ_ _=>zfE) (QD.mp (Qa.mp hb).1 p (Jx hp))
 ·unfold Prg.hasFld at h
  cases hk:C.P.clsAt c with
  |none=>rw [hk] at h;exact nomatch h
  |some k=>
   rw [hk] at h;rw [<-(cls hk).1];exact y7 (λ_ _=>zih) (QD.mp (Qa.mp (Qa.mp (cls hk).2).2).1 n (Q7.mp h))
 ·obtain ⟨e,hb⟩:=cls h
  have:=(Qa.mp (Qa.mp hb).2).2
  rw [hi] at this;rw [<-e];exact zfl this
end
theorem zC {vs:List Value}{ns:List Int} (h:IntsAre vs ns):kf_ints vs=true/\lks_nums vs=ns:=by
 induction h with
 |nil=>exact ⟨rfl,rfl⟩
 |cons n t _ ih=>exact ⟨ih.1,congrArg (n:: ·) ih.2⟩
theorem ziG {l:List Int} (h:l.Pairwise (· <= ·)):lks_asc l=true:=by
 induction h with
 |nil=>rfl
 |cons h _ ih=>exact Qa.mpr ⟨QD.mpr λb hb=>decide_eq_true (h b hb),ih⟩
theorem zbq {C:Cfg}{w:Wd}{t:Nat->Tok}: ∀ {l:List Int}{i:Nat},aA C w (l.map Val.int) (lks_vals l i t):=by
 intro l
 induction l with
 |nil=>exact λ{i} => .nil
 |cons a l ih=>exact λ{i} => .cons ⟨_,rfl⟩ ih
theorem zeg (l:List Int):(gD l).Perm l/\(gD l).Pairwise (· <= ·):=by
 refine ⟨Z4 ..,?_⟩
 have:=List.pairwise_mergeSort (le:=λa b:Int=>decide (a<=b)) (λa b c h1 h2=>decide_eq_true (Jy (of_decide_eq_true h1) (of_decide_eq_true h2))) (λa b=>by rcases Int.le_total a b with h|h<;>simp [h]) l
 exact this.imp λh=>of_decide_eq_true h
def mkS (s:List Nat):Str:=⟨s.toArray⟩
theorem qI {a b:Nat}:Qg a b=true ↔ a<=b:=⟨Nat.le_of_ble_eq_true,ZS⟩
theorem y9 (a:List Nat): ∀b:List Nat,xH a b=decide (a<b):=by
 induction a with
 |nil=>
  intro b;cases b with
  |nil=>rfl
  |cons y b=>exact (decide_eq_true (List.nil_lt_cons y b)).symm
 |cons x a ih=>
  intro b;cases b with
  |nil=>exact (decide_eq_false (List.not_lt_nil _)).symm
  |cons y b=>
   show Bool.rec (motive:=λ_=>Bool) (Bool.rec (motive:=λ_=>Bool) (xH a b) false (Qg (Qp y) x)) true (Qg (Qp x) y)=_;rw [ih,QL,decide_eq_true_eq,List.cons_lt_cons_iff];cases q:Qg (Qp x) y with
   |true=>exact ⟨λ_=> .inl (qI.mp q),λ_=>rfl⟩
   |false=>
    have q1: ¬x<y:=λe=>by rw [qI.mpr e] at q;cases q
    cases q':Qg (Qp y) x with
    |true=>exact ⟨λe=>(nomatch e:False).elim,λe=>e.elim (λe=>absurd e q1) λe=>absurd (qI.mp q') (by rw [e.1];exact JN _)⟩
    |false=>
     have q2: ¬y<x:=λe=>by rw [qI.mpr e] at q';cases q'
     exact ⟨λe=> .inr ⟨JJ (ZJ.mp q2) (ZJ.mp q1),of_decide_eq_true e⟩,λe=>e.elim (λe=>absurd e q1) λe=>decide_eq_true e.2⟩
def NLt (a b:List Nat):Prop:= ¬b<a
theorem p8 {a b c:List Nat} (h1:NLt a b) (h2:NLt b c):NLt a c:=λh=>h1 (List.lt_of_le_of_lt (List.not_lt.mp h2) h)
theorem qC (a:List Nat) (l:List (List Nat)):(zc5 a l).Perm (a::l):=by
 induction l with
 |nil=>exact .refl _
 |cons x l ih=>
  show (Bool.rec (motive:=λ_=>List (List Nat)) (a::x::l) (x::zc5 a l) (xH x a)).Perm _;cases xH x a with
  |false=>exact .refl _
  |true=>exact (ih.cons x).trans (.swap a x l)
theorem uG {a:List Nat}{l:List (List Nat)} (h:l.Pairwise NLt):(zc5 a l).Pairwise NLt:=by
 induction l with
 |nil=>exact List.pairwise_singleton _ _
 |cons x l ih=>
  obtain ⟨h1,h2⟩:=List.pairwise_cons.mp h;show (Bool.rec (motive:=λ_=>List (List Nat)) (a::x::l) (x::zc5 a l) (xH x a)).Pairwise _;cases q:xH x a with
  |false=>
   rw [y9,decide_eq_false_iff_not] at q;exact List.pairwise_cons.mpr ⟨λy hy=>(Qy.mp hy).elim (λe=>e▸q) λhy=>p8 q (h1 y hy),h⟩
  |true=>
   rw [y9,decide_eq_true_eq] at q;exact List.pairwise_cons.mpr ⟨λy hy=>(Qy.mp ((qC a l).mem_iff.mp hy)).elim (λe=>e▸λh=>List.lt_irrefl _ (List.lt_trans h q)) (h1 y),ih h2⟩
theorem f7 (l:List (List Nat)):(iM l).Perm l/\(iM l).Pairwise NLt:=by
 induction l with
 |nil=>exact ⟨.refl _,.nil⟩
 |cons a l ih=>exact ⟨(qC a _).trans (ih.1.cons a),uG ih.2⟩
theorem zd9 {a b:Str} (h:a.cps.toList=b.cps.toList):a=b:=by
 cases a;cases b;simp only [Str.mk.injEq];exact Array.toList_inj.mp h
def SLt (a b:Str):Prop:=NLt a.cps.toList b.cps.toList
theorem zbU: ∀ {a b:List Str},a.Perm b->a.Pairwise SLt->b.Pairwise SLt->a=b:=by
 intro a
 induction a with
 |nil=>intro b p _ _;exact (List.nil_perm.mp p).symm
 |cons x a ih=>
  intro b p ha hb;cases b with
  |nil=>exact (List.perm_nil.mp p)
  |cons y b=>
   have e:x=y:=by
    rcases Qy.mp (p.mem_iff.mp (.head _)) with e|hx
    ·exact e
    ·rcases Qy.mp (p.mem_iff.mpr (.head _)) with e|hy
     ·exact e.symm
     ·exact zd9 (List.le_antisymm (List.not_lt.mp ((List.pairwise_cons.mp ha).1 y hy)) (List.not_lt.mp ((List.pairwise_cons.mp hb).1 x hx)))
   subst e;rw [ih (List.Perm.cons_inv p) (List.pairwise_cons.mp ha).2 (List.pairwise_cons.mp hb).2]
theorem zas: ∀ {l:List Str}{p:Str},risingS p l=true->(p::l).Pairwise SLt:=by
 intro l
 induction l with
 |nil=>intro p _;exact List.pairwise_singleton _ _
 |cons x r ih=>
  intro p h;have h:(_ && risingS x r)=true:=h;obtain ⟨h1,h2⟩:=Qa.mp h;have h3:=ih h2;rw [ltCps_eq,JT,decide_eq_false_iff_not] at h1;exact List.pairwise_cons.mpr ⟨λy hy=>(Qy.mp hy).elim (λe=>e▸h1) λhy=>p8 h1 ((List.pairwise_cons.mp h3).1 y hy),h3⟩
theorem z9 {l:List Str} (h:sortedS l=true):l.Pairwise SLt:=by
 cases l with
 |nil=>exact .nil
 |cons x r=>exact zas h
theorem zcg {l:List (List Nat)}{ss':List Str} (p:ss'.Perm (l.map mkS)) (h:sortedS ss'=true):ss'=(iM l).map mkS:=
 zbU (p.trans ((f7 l).1.map mkS).symm) (z9 h) (List.pairwise_map.mpr ((f7 l).2.imp λh=>h))
theorem zbz {C:Cfg}{w:Wd}: ∀ {ms:List Val}{vs:List Value}{l:List (List Nat)},aA C w ms vs->eF ms=some l->StrsAre vs (l.map mkS)/\∀x∈l,sOk x:=by
 intro ms
 induction ms with
 |nil=>
  intro vs l r e;cases e;cases r;exact ⟨.nil,nofun⟩
 |cons m ms ih=>
  intro vs l r e;obtain ⟨y,ys,e1,e2,rfl⟩:=fD e;obtain ⟨v,vs',rfl,h,r⟩:=r;obtain ⟨t,rfl,ok⟩:=h.str? e1;obtain ⟨q1,q2⟩:=ih r e2;exact ⟨.cons (mkS y) t q1,λx hx=>(Qy.mp hx).elim (λe=>e▸ok) (q2 x)⟩
theorem pY {C:Cfg}{w:Wd}: ∀ {l:List (List Nat)}{vs:List Value},StrsAre vs (l.map mkS) ->(∀x∈l,sOk x) ->aA C w (l.map Val.str) vs:=by
 intro l
 induction l with
 |nil=>intro vs h _;cases h;exact .nil
 |cons x l ih=>
  intro vs h ok;cases h with
  |cons _ t h=>exact .cons ⟨t,rfl,ok x (.head _)⟩ (ih h λy hy=>ok y (.tail _ hy))
section
variable {prog:Program}{w:World}{A:Around}{E:Value->Shared->Prop}{s:Shared}{h₀:Heap}{L D:Addr}{m:Str->Option Value}{news:List (Addr×Obj)}{n:Nat}
theorem zcR {vs:List Value}{ss:List Str}{Q:Value->Shared->Prop} (F:Fr h₀ L s.heap m) (N:News h₀ L s.heap ((D,listOf vs.toArray n)::news)) (hna: ∀p∈news,p.1≠D) (hS:StrsAre vs ss) (h64:vs.length<64)
  (h: ∀ (h':Heap) (out:List Value) (ss':List Str) (c:Nat),Fr h₀ L h' m->News h₀ L h' ((D,listOf out.toArray c)::news) ->StrsAre out ss'->ss'.Perm ss->sortedS ss'=true->Q .none {s with heap:=h'}):
  wpAny (model prog w) A (call (.builtin "list.sort") [.ref D]) Q E s := by
 have z:=N _ (.head _);have ho : s.heap.get? D = some (seqObj "list" vs.toArray n) := z.1;refine wpAny_call_entry slot_list_sort ⟨_,z.1,rfl⟩ entry_list_sort (list_sort_treeK strKind_oneLt ho hS.keysOf (λv₁ v₂ rest e=>keyKind_strs (by rw [<-e];exact hS)) h64 λst' hp hs=>⟨.none,rfl,?_⟩) (args_list_sort _);obtain ⟨ss',h1,h2,h3⟩:=sorted_out_str hS hp hs
 generalize (arrOf st').map (·.2)=out at h1
 have hN0:News h₀ L s.heap news:=λp hp=>N p (.tail _ hp);have s1:=Heap.SameBut.update s.heap D (Obj.mapSeq λ_=>(#[]:Array Value));obtain ⟨e1,ho1⟩ : ∃ e1,(s.heap.update D (Obj.mapSeq λ_ => (#[] : Array Value))).get? D = some (seqObj "list" #[] e1) := ⟨_,get?_update_seq ho λ_ => #[]⟩;have F1:=kas_fr F s1 z.2.1 z.2.2;have N1:=kas_news hN0 s1 hna;have F3 := (F1.push (seqObj "tuple" vs.toArray 0)).push (seqObj "list" #[] 0);have ho3 : (((s.heap.update D (Obj.mapSeq λ_ => (#[] : Array Value))).push (seqObj "tuple" vs.toArray 0)).push (seqObj "list" #[] 0)).get? D = some (seqObj "list" #[] e1) := Heap.get?_push_of_some _ (Heap.get?_push_of_some _ ho1);have N3 : News h₀ L (((s.heap.update D (Obj.mapSeq λ_ => (#[] : Array Value))).push (seqObj "tuple" vs.toArray 0)).push (seqObj "list" #[] 0)) news := N1.grown λb x e => Heap.get?_push_of_some _ (Heap.get?_push_of_some _ e);have s2 := Heap.SameBut.update (((s.heap.update D (Obj.mapSeq λ_ => (#[] : Array Value))).push (seqObj "tuple" vs.toArray 0)).push (seqObj "list" #[] 0)) D (Obj.mapSeq λ_ => out);obtain ⟨c2,hc2⟩ : ∃ c2,((((s.heap.update D (Obj.mapSeq λ_ => (#[] : Array Value))).push (seqObj "tuple" vs.toArray 0)).push (seqObj "list" #[] 0)).update D (Obj.mapSeq λ_ => out)).get? D = some (seqObj "list" out c2) := ⟨_,get?_update_seq ho3 λ_ => out⟩;refine h _ out.toList ss' c2 (kas_fr F3 s2 z.2.1 z.2.2) (λp hp=>?_) h1 h2 h3;rcases Qy.mp hp with rfl|hp
 ·exact ⟨by rw [Array.toArray_toList];exact hc2,z.2⟩
 ·exact kas_news N3 s2 hna p hp
end
theorem zsN (C : Cfg) : zV C := λ{d e Y k w H s as vs} K S r => .a1 (T:=λl => call (.builtin "sorted") l) r λx v hx => .alt (.opt λp hp => .opt λl hl => .grd λhc => by
 intro r' e' Q E hq;cases e';have hc:=Qa.mp hc;have h64:l.length<64:=Qr.mp hc.2;refine (S.dict hx hp).elim λ_ zq17=>?_;obtain ⟨b,n,es,rfl,hmod,_,hg,hdr,hlim,_⟩:=zq17.2;have hll:l.length=p.2.length:=by
  have go: ∀ {ms:List Val}{l:List Int},fG ms=some l->l.length=ms.length:=by
   intro ms
   induction ms with
   |nil=>intro l h;cases h;rfl
   |cons m ms ih=>
    intro l h;obtain ⟨y,ys,_,e2,rfl⟩:=fD h;exact congrArg Qp (ih e2)
  rw [go hl,Qz]
 rcases hdr with ⟨kvs,D⟩| ⟨xs,D⟩
 ·have hkl:kvs.length=l.length:=by rw [hll];exact (iU D.e).symm
  have hk: ∀ (j:Nat) (q:Atom×Value),kvs[j]?=some q-> ∃z,l[j]?=some z/\q.1= .i z:=by
   have go: ∀ {kvs:List (Atom×Value)}{l:List Int},fG (kvs.map λp=>p.1.val)=some l-> ∀ (j:Nat) (q:Atom×Value),kvs[j]?=some q-> ∃z,l[j]?=some z/\q.1= .i z:=by
    intro kvs
    induction kvs with
    |nil=>exact λ_ _ _ e=>nos e
    |cons a kvs ih=>
     intro l h j q hq;obtain ⟨y,ys,e1,e2,rfl⟩:=fD h;cases j with
     |zero=>
      cases hq;obtain ⟨at1,_⟩:=a;cases at1 with
      |i n=>cases e1;exact ⟨_,rfl,rfl⟩
      |s x=>exact nos e1
     |succ j=>exact ih (l:=ys) e2 j q hq
   exact go (by rw [<-D.e];exact hl)
  obtain ⟨all,hn,add,_,_⟩:=S.ledger;obtain ⟨ep,hat⟩:=(D.dictOf hg).dictAt;refine kdu_sorted (kdl_dict (knd:=bB C.prog C.w) (kvs:=kvs) (ep:=ep) hmod) Y.handled S.fr hn hat (by rw [hkl];exact Qe (Jq h64) (by decide)) λB h' tk vs F' N' hlt hvl hvs=>?_;have hI:IntsAre vs l:=by
   have go: ∀ {vs:List Value}{l:List Int},vs.length=l.length->(∀ (j:Nat) (v:Value),vs[j]?=some v-> ∃z t,l[j]?=some z/\v= .int z t) ->IntsAre vs l:=by
    intro vs
    induction vs with
    |nil=>intro l h _;cases l with
     |nil=>exact .nil
     |cons _ _=>exact nomatch h
    |cons v vs ih=>intro l h hj;cases l with
     |nil=>exact nomatch h
     |cons z l=>
      obtain ⟨z',t,e1,rfl⟩:=hj 0 v rfl;cases e1;exact .cons z t (ih (Qp.inj h) λj v hv=>hj (j+1) v hv)
   refine go (hvl.trans hkl) λj v hv=>?_;obtain ⟨a,x,hx,ha⟩:=hvs j v hv;obtain ⟨z,hz,e⟩:=hk j _ hx;have e:a= .i z:=e;subst e;obtain ⟨t,rfl⟩:=Q5 (show KH z v=true from ha);exact ⟨z,t,hz,rfl⟩
  have zq4:=zeg l;refine lks_sort (its:=vs.toArray) (n:=0) (q:=gD l) (news':=λt=>(B,listOf (lks_vals (gD l) 0 t).toArray (0+2))::all) F' N' (λt=> .head λp hp=>JG (hlt p hp)) (zC hI).1 ?_ ?_ ?_ λt h2 F2 N2=>?_
  ·show ((lks_nums vs).isPerm (gD l) && lks_asc (gD l))=true
   rw [(zC hI).2,ziG zq4.2,Z7];exact List.isPerm_iff.mpr zq4.1.symm
  ·show vs.isEmpty=false
   cases vs with
   |nil=>rw [show l= [] from by cases hI;rfl] at hc;exact nomatch hc.1
   |cons _ _=>rfl
  ·show vs.length<64
   rw [hvl,hkl];exact h64
  ·have h4:4<=B:=Jt λhlt4=>by
    refine (K.low B hlt4).elim λo zq3=>?_
    have:=(N' (B,_) (.head _)).2.2
    rw [Y.k B o zq3] at this;exact nomatch this
   refine hq _ _ {s with heap:=h2,toks:=tk} ⟨(⟨Qs _ _,λ_ x=>x⟩:w.le ⟨w.σ++ [B],w.tp⟩),add B (.list ((gD l).map .int)) [(B,listOf (lks_vals (gD l) 0 t).toArray (0+2))] h2 ⟨_,_,rfl,zbq,by rw [Qz,zq4.1.length_eq];exact Qe (Jq h64) (by decide)⟩ F2 N2 (cD _) (λp hp q hq=>by rw [Ql.mp hp];exact λe=>absurd (hlt q hq) (by rw [<-e];exact JN _)) h4,rfl,rfl⟩ ⟨_,rfl,by rw [<-S.len];exact Qt⟩
 ·exfalso
  have e:=D.e;cases xs with
  |nil=>rw [Je.mp e] at hl;cases hl;exact nomatch hc.1
  |cons a xs=>
   cases hp2:p.2 with
   |nil=>rw [hp2] at e;cases e
   |cons q qs=>
    rw [hp2] at e hl;refine (fD hl).elim λy zq1=>zq1.elim λys zq2=>?_;have e1:=zq2.1;have e1:q.1.int?=some y:=e1;rw [show q.1= .tup (a.1.map Atom.val) from (Q6.inj e).1] at e1;exact nos e1)
 (.alt (.opt λms hp=> .opt λl hl=> .grd λhc=>by
  intro r' e' Q E hq;cases e';have h60:=qI.mp hc;obtain ⟨b,ws,n,rfl,hg,rr,hlim⟩:=S.list hx hp;obtain ⟨hS,ok⟩:=zbz rr hl;obtain ⟨all,hn,add,_,_⟩:=S.ledger;have hwl:ws.length=l.length:=by rw [hS.length,Qz]
  have hlt: ∀q∈all,q.1<s.heap.objs.size+1:=λq hq=>Zv (Zi (hn q hq).1);refine sorted_N_str S.fr hn ⟨_,hg,rfl,n,rfl⟩ hS (by rw [hwl];exact QU h60 (by decide)) λh2 out ss' e F2 N2 hO hp hs=>?_;have h4:4<=s.heap.objs.size+1:=Jt λhlt4=>by
   refine (K.low _ hlt4).elim λo zq3=>?_
   have:=(N2 (s.heap.objs.size+1,_) (.head _)).2.2
   rw [Y.k _ o zq3] at this;exact nomatch this
  rw [zcg hp hs] at hO;exact hq _ _ {s with heap:=h2} ⟨(⟨Qs _ _,λ_ x=>x⟩:w.le ⟨w.σ++ [s.heap.objs.size+1],w.tp⟩),add (s.heap.objs.size+1) (.list ((iM l).map .str)) [(s.heap.objs.size+1,listOf out.toArray e)] h2 ⟨_,_,rfl,pY hO λx hx=>ok x ((f7 l).1.mem_iff.mp hx),by rw [Qz,(f7 l).1.length_eq];exact Qe h60 (by decide)⟩ F2 N2 (cD _) (λp hp q hq=>by rw [Ql.mp hp];exact λe=>absurd (hlt q hq) (by rw [<-e];exact JN _)) h4,rfl,rfl⟩ ⟨_,rfl,by rw [<-S.len];exact Qt⟩)
 (.opt λp hp=> .opt λl hl=> .grd λhc=>by
  intro r' e' Q E hq;cases e';have hc:=Qa.mp hc;have h60:=qI.mp hc.2;refine (S.dict hx hp).elim λ_ zq17=>?_;obtain ⟨b,n,es,rfl,hmod,_,hg,hdr,hlim,_⟩:=zq17.2;rcases hdr with ⟨kvs,D⟩| ⟨xs,D⟩
  ·have go: ∀ {kvs:List (Atom×Value)}{l:List (List Nat)},eF (kvs.map λp=>p.1.val)=some l->kvs.length=l.length/\∀ (j:Nat) (q:Atom×Value),kvs[j]?=some q-> ∃z,l[j]?=some z/\q.1= .s (mkS z):=by
    intro kvs
    induction kvs with
    |nil=>intro l h;cases h;exact ⟨rfl,nofun⟩
    |cons a kvs ih=>
     intro l h;obtain ⟨y,ys,e1,e2,rfl⟩:=fD h;obtain ⟨q1,q2⟩:=ih (l:=ys) e2;refine ⟨congrArg Qp q1,λj q hq=>?_⟩;cases j with
     |zero=>
      cases hq;obtain ⟨at1,_⟩:=a;cases at1 with
      |i n=>exact nos e1
      |s x=>cases e1;exact ⟨_,rfl,rfl⟩
     |succ j=>exact q2 j q hq
   obtain ⟨hkl,hk⟩:=go (by rw [<-D.e];exact hl);have ok: ∀x∈l,sOk x:=λx hx=>by
    obtain ⟨j,hj⟩:=List.getElem?_of_mem hx;have hj2:j<kvs.length:=by rw [hkl];exact (Qk.mp hj).1
    obtain ⟨z,hz,e⟩:=hk j _ (Qh hj2);rw [hj] at hz;cases hz
    have:=D.ok _ (ZA hj2)
    rw [e] at this;exact this
   obtain ⟨all,hn,add,_,_⟩:=S.ledger;obtain ⟨ep,hat⟩:=(D.dictOf hg).dictAt;refine kdu_sorted (kdl_dict (knd:=bB C.prog C.w) (kvs:=kvs) (ep:=ep) hmod) Y.handled S.fr hn hat (by rw [hkl];exact Qe h60 (by decide)) λB h' tk vs F' N' hlt hvl hvs=>?_;have hS:StrsAre vs (l.map mkS):=by
    have go: ∀ {vs:List Value}{l:List (List Nat)},vs.length=l.length->(∀ (j:Nat) (v:Value),vs[j]?=some v-> ∃z t,l[j]?=some z/\v= .str (mkS z) t) ->StrsAre vs (l.map mkS):=by
     intro vs
     induction vs with
     |nil=>intro l h _;cases l with
      |nil=>exact .nil
      |cons _ _=>exact nomatch h
     |cons v vs ih=>intro l h hj;cases l with
      |nil=>exact nomatch h
      |cons z l=>
       obtain ⟨z',t,e1,rfl⟩:=hj 0 v rfl;cases e1;exact .cons (mkS z) t (ih (Qp.inj h) λj v hv=>hj (j+1) v hv)
    refine go (hvl.trans hkl) λj v hv=>?_;obtain ⟨a,x,hx,ha⟩:=hvs j v hv;obtain ⟨z,hz,e⟩:=hk j _ hx;have e:a= .s (mkS z):=e;subst e;obtain ⟨t,rfl⟩:=Jd (show Value.isStrOf (mkS z) v=true from ha);exact ⟨z,t,hz,rfl⟩
   refine zcR (s:={s with heap:=h',toks:=tk}) F' N' (λp hp=>JG (hlt p hp)) hS (by rw [hvl,hkl];exact QU h60 (by decide)) λh2 out ss' c F2 N2 hO hp hs=>?_;have h4:4<=B:=Jt λhlt4=>by
    refine (K.low B hlt4).elim λo zq3=>?_
    have:=(N2 (B,_) (.head _)).2.2
    rw [Y.k B o zq3] at this;exact nomatch this
   rw [zcg hp hs] at hO;exact hq _ _ {s with heap:=h2,toks:=tk} ⟨(⟨Qs _ _,λ_ x=>x⟩:w.le ⟨w.σ++ [B],w.tp⟩),add B (.list ((iM l).map .str)) [(B,listOf out.toArray c)] h2 ⟨_,_,rfl,pY hO λx hx=>ok x ((f7 l).1.mem_iff.mp hx),by rw [Qz,(f7 l).1.length_eq];exact Qe h60 (by decide)⟩ F2 N2 (cD _) (λp hp q hq=>by rw [Ql.mp hp];exact λe=>absurd (hlt q hq) (by rw [<-e];exact JN _)) h4,rfl,rfl⟩ ⟨_,rfl,by rw [<-S.len];exact Qt⟩
  ·exfalso
   have e:=D.e;cases xs with
   |nil=>rw [Je.mp e] at hl;cases hl;exact nomatch hc.1
   |cons a xs=>
    cases hp2:p.2 with
    |nil=>rw [hp2] at e;cases e
    |cons q qs=>
     rw [hp2] at e hl;refine (fD hl).elim λy zq1=>zq1.elim λys zq2=>?_;have e1:=zq2.1;have e1:q.1.str?=some y:=e1;rw [show q.1= .tup (a.1.map Atom.val) from (Q6.inj e).1] at e1;exact nos e1))
end Internal
namespace Internal
structure W {α:Type} (o:Option (α×MH)) (Q:α->MH->Prop):Prop where
 w:Qc (motive:=λ_=>Prop) o False λp=>Q p.1 p.2
structure Wo {α:Type} (o:Option α) (Q:α->Prop):Prop where
 w:Qc (motive:=λ_=>Prop) o False Q
section
variable {α β:Type}{o:Option (α×MH)}{Q:α->MH->Prop}
theorem W.get (h:W o Q): ∃a g,o=some (a,g)/\Q a g:=by
 cases o with
 |none=>exact h.w.elim
 |some p=>exact ⟨p.1,p.2,rfl,h.w⟩
theorem W.mono {Q':α->MH->Prop} (h:W o Q) (i: ∀a g,Q a g->Q' a g):W o Q':=by
 cases o with
 |none=>exact ⟨h.w⟩
 |some p=>exact ⟨i _ _ h.w⟩
theorem W.of {a:α}{g:MH} (e:o=some (a,g)) (q:Q a g):W o Q:=by subst e;exact ⟨q⟩
theorem a6 {a:α}{g:MH} (q:Q a g):W (some (a,g)) Q:=⟨q⟩
theorem w_bnd {f:α->MH->Option (β×MH)}{R:β->MH->Prop} (h:W o λa g=>W (f a g) R):W (bnd o f) R:=by
 cases o with
 |none=>exact h.w.elim
 |some p=>exact h.w
theorem w_bnd' {f:α->MH->Option (β×MH)}{R:β->MH->Prop} (h:W (bnd o f) R):W o λa g=>W (f a g) R:=by
 cases o with
 |none=>exact ⟨h.w⟩
 |some p=>exact ⟨h⟩
theorem yL {b:β}{P:β->Prop} (q:P b):Wo (some b) P:=⟨q⟩
theorem gR {x:Option β}{f:β->Option (α×MH)} (h:Wo x λb=>W (f b) Q):W (x.bind f) Q:=by
 cases x with
 |none=>exact h.w.elim
 |some b=>exact h.w
theorem gS {x:Option β}{f:β->α×MH} (h:Wo x λb=>Q (f b).1 (f b).2):W (x.map f) Q:=by
 cases x with
 |none=>exact h.w.elim
 |some b=>exact ⟨h.w⟩
theorem pT {b:Bool} (hb:b=true) (h:W o Q):W (grd b o) Q:=by subst hb;exact h
theorem pU {o':Option (α×MH)} (h:W o Q):W (alt o o') Q:=by
 cases o with
 |none=>exact h.w.elim
 |some p=>exact ⟨h.w⟩
theorem Wo.mono {o:Option β}{P P':β->Prop} (h:Wo o P) (i: ∀a,P a->P' a):Wo o P':=by
 cases o with
 |none=>exact ⟨h.w⟩
 |some a=>exact ⟨i a h.w⟩
theorem Wo.of {o:Option β}{P:β->Prop}{a:β} (e:o=some a) (q:P a):Wo o P:=by subst e;exact ⟨q⟩
theorem eX {p:Option (Val×MH)}{Q:Bool->MH->Prop} (h:W p λv g=>Wo (truthy g v) λb=>Q b g):W (aQ p) Q:=w_bnd (h.mono λv g h=>gS (f:=λb=>(b,g)) h)
end
def WB (op:BOp) (x y:Val) (h:MH) (Q:Val->MH->Prop):Prop:=W (eJ op x y h) Q
def WC (op:COp) (x y:Val) (h:MH) (Q:Val->MH->Prop):Prop:=Wo (jD op x y h) λr=>Q (.bool r) h
def WT (x:Val) (h:MH) (Q:Bool->Prop):Prop:=Wo (truthy h x) Q
def WI (o k:Val) (h:MH) (Q:Val->MH->Prop):Prop:=Wo (dG h o k) λv=>Q v h
def WA (P:Prg) (o:Val) (n:Nat) (h:MH) (Q:Val->MH->Prop):Prop:=Wo (getAttr P h o n) λv=>Q v h
def WSl (o:Val) (k:Nat) (bs:List Val) (h:MH) (Q:Val->MH->Prop):Prop:=W (slice h o k bs) Q
def WV (c:Cx) (f:Val) (as:List Val) (h:MH) (Q:Val->MH->Prop):Prop:=W (gY c f as h) Q
def WM (c:Cx) (o:Val) (n:Nat) (as:List Val) (h0 h:MH) (Q:Val->MH->Prop):Prop:=W (uX c o n as h0 h) Q
def WSt (c:Cx) (ts:List T1) (vs:List Val) (fr:Frame) (h:MH) (Q:Frame->MH->Prop):Prop:=W (bN c ts vs fr h) Q
def Br (r:Bool) (A B:Prop):Prop:=(r=true->A)/\(r=false->B)
theorem br {r:Bool}{A B:Prop} (a:r=true->A) (b:r=false->B):Br r A B:=⟨a,b⟩
theorem za7 {A B:Prop} (a:A):Br true A B:=⟨λ_=>a,λh=>nomatch h⟩
theorem zfB {A B:Prop} (b:B):Br false A B:=⟨λh=>(nomatch h:False).elim,λ_=>b⟩
theorem zys {r s:Bool}{A B:Prop} (e:r=s) (q:Br s A B):Br r A B:=e▸q
abbrev Cxd (P:Prg) (d:Nat):Cx:=⟨P,200000,bC P 200000 d⟩
section
variable {c:Cx}{fr:Frame}{h:MH}{Q:Val->MH->Prop}{P:Prg}{d:Nat}
def WE (c:Cx) (fr:Frame) (e:Ex) (h:MH) (Q:Val->MH->Prop):Prop:=W (eval c e fr h) Q
def WEs (c:Cx) (fr:Frame) (es:List Ex) (h:MH) (Q:List Val->MH->Prop):Prop:=W (dE c es fr h) Q
theorem zbm {x:Nat}{v:Val} (hx:fr[x]?=some (some v)) (q:Q v h):WE c fr (.var x) h Q:=by
 show W ((fr[x]?).bind λo=>o.map λv=>(v,h)) Q;rw [hx];exact ⟨q⟩
theorem zgD {v:Val} (q:Q v h):WE c fr (.lit v) h Q:=a6 q
theorem zdY {Q:List Val->MH->Prop} (q:Q [] h):WEs c fr [] h Q:=a6 q
theorem zbl {Q:List Val->MH->Prop}{e:Ex}{r:List Ex} (q:WE c fr e h λv h1=>WEs c fr r h1 λvs h2=>Q (v::vs) h2):WEs c fr (e::r) h Q:=w_bnd (W.mono q λv h1 q=>w_bnd (W.mono q λ_ _ q=>a6 q))
theorem zd0 {es:List Ex} (q:WEs c fr es h λvs h1=>Q (.ref h1.length) (h1++ [.list vs])):WE c fr (.list es) h Q:=w_bnd (W.mono q λ_ _ q=>a6 q)
theorem zgA {es:List Ex} (q:WEs c fr es h λvs h1=>Q (.tup vs) h1):WE c fr (.tup es) h Q:=w_bnd (W.mono q λ_ _ q=>a6 q)
theorem zrR {es:List Ex} (hl:Qg es.length 30=true) (q:WEs c fr es h λvs h1=>Wo (d8 vs []) λps=>Q (.ref h1.length) (h1++ [.dict (some ps.length) ps])):WE c fr (.dict es) h Q:=w_bnd (W.mono q λvs h1 q=>gR (Wo.mono q λps q=>pT hl (a6 q)))
theorem zgG {op:BOp}{a b:Ex} (q:WE c fr a h λx h1=>WE c fr b h1 λy h2=>WB op x y h2 Q):WE c fr (.bin op a b) h Q:=w_bnd (W.mono q λx h1 q=>w_bnd q)
theorem zgC {a:Ex} (q:WE c fr a h λx h1=>WT x h1 λb=>Q (.bool (!b)) h1):WE c fr (.not a) h Q:=w_bnd (eX (W.mono q λ_ _ q=>Wo.mono q λ_ q=>a6 q))
theorem zgF {op:COp}{a b:Ex} (q:WE c fr a h λx h1=>WE c fr b h1 λy h2=>WC op x y h2 Q):WE c fr (.cmp op a b) h Q:=w_bnd (W.mono q λx h1 q=>w_bnd (W.mono q λy h2 q=>gS (f:=λr=>(Val.bool r,h2)) q))
theorem rW {α:Type}{r:Bool}{a b:Option (α×MH)}{Q:α->MH->Prop} (q:Br r (W a Q) (W b Q)):W (bif r then a else b) Q:=by
 cases r with
 |true=>exact q.1 rfl
 |false=>exact q.2 rfl
theorem zgE {t a b:Ex} (q:WE c fr t h λx h1=>WT x h1 λr=>Br r (WE c fr a h1 Q) (WE c fr b h1 Q)):WE c fr (.ite t a b) h Q:=w_bnd (eX (W.mono q λx h1 q=>Wo.mono q λr q=>rW q))
theorem zd3 {e:Ex}{n:Nat} (q:WE c fr e h λo h1=>WA c.P o n h1 Q):WE c fr (.attr e n) h Q:=w_bnd (W.mono q λo h1 q=>gS (f:=λv=>(v,h1)) q)
theorem zgB {e i:Ex} (q:WE c fr e h λo h1=>WE c fr i h1 λk h2=>WI o k h2 Q):WE c fr (.sub e i) h Q:=w_bnd (W.mono q λo h1 q=>w_bnd (W.mono q λk h2 q=>gS (f:=λv=>(v,h2)) q))
theorem zbn {e:Ex}{k:Nat}{bs:List Ex} (q:WE c fr e h λo h1=>WEs c fr bs h1 λvs h2=>WSl o k vs h2 Q):WE c fr (.slice e k bs) h Q:=w_bnd (W.mono q λo h1 q=>w_bnd q)
theorem zd1 {f:Ex}{as:List Ex} (q:WE c fr f h λg h1=>WEs c fr as h1 λvs h2=>WV c g vs h2 Q):WE c fr (.call f as) h Q:=w_bnd (W.mono q λo h1 q=>w_bnd q)
theorem zdZ {o:Ex}{n:Nat}{as:List Ex} (q:WE c fr o h λg h1=>WEs c fr as h1 λvs h2=>WM c g n vs h1 h2 Q):WE c fr (.meth o n as) h Q:=w_bnd (W.mono q λo h1 q=>w_bnd q)
theorem zd2 {st:Bool}{e:Ex} (q:WE c fr e h Q):WE c fr (.bop st [e]) h Q:=w_bnd (f:=λv h1=>some (v,h1)) (W.mono q λ_ _ q=>a6 q)
theorem vL {st:Bool}{e f:Ex}{r:List Ex} (q:WE c fr e h λv h1=>WT v h1 λb=>Br (b==st) (Q v h1) (WE c fr (.bop st (f::r)) h1 Q)):WE c fr (.bop st (e::f::r)) h Q:=w_bnd (f:=λv h1=>(truthy h1 v).bind λb=>bif b==st then some (v,h1) else gV c st (f::r) fr h1) (W.mono q λv h1 q=>gR (Wo.mono q λb q=>rW ⟨λh=>a6 (q.1 h),q.2⟩))
variable {R:Fl->Frame->MH->Prop}
def WS (c:Cx) (s:Sm) (fr:Frame) (h:MH) (R:Fl->Frame->MH->Prop):Prop:=W (exec c s fr h) λp h=>R p.1 p.2 h
def WSs (c:Cx) (s:List Sm) (fr:Frame) (h:MH) (R:Fl->Frame->MH->Prop):Prop:=W (execs c s fr h) λp h=>R p.1 p.2 h
theorem zdN (q:R .nx fr h):WSs c [] fr h R:=a6 (a:=(Fl.nx,fr)) q
def Beh (c:Cx) (r:List Sm) (R:Fl->Frame->MH->Prop) (fl:Fl) (fr:Frame) (h:MH):Prop:=Fl.casesOn (motive:=λ_=>Prop) fl (WSs c r fr h R) (R .bk fr h) (R .ct fr h) λv=>R (.rt v) fr h
theorem zbf {s:Sm}{r:List Sm} (q:WS c s fr h (Beh c r R)):WSs c (s::r) fr h R:=by
 show W (bnd (exec c s fr h) λ(p:Fl×Frame) h1=>Fl.casesOn (motive:=λ_=>SR) p.1 (execs c r p.2 h1) (some (p,h1)) (some (p,h1)) (λ_=>some (p,h1))) λp h=>R p.1 p.2 h;exact w_bnd (W.mono q λp h1 q=>by
  obtain ⟨fl,f2⟩:=p;cases fl with
  |nx=>exact q
  |bk=>exact ⟨q⟩
  |ct=>exact ⟨q⟩
  |rt v=>exact ⟨q⟩)
theorem zdR {e:Ex} (q:WE c fr e h λ_ h1=>R .nx fr h1):WS c (.expr e) fr h R:=by
 show W (bnd (eval c e fr h) λ_ h1=>some ((Fl.nx,fr),h1)) λp h=>R p.1 p.2 h;exact w_bnd (W.mono q λ_ _ q=>⟨q⟩)
theorem zsi {x:Nat}{e:Ex} (q:WE c fr e h λv h1=>R .nx (fr.set x (some v)) h1):WS c (.asg (.nm x) e) fr h R:=by
 show W (bnd (eval c e fr h) λv h1=>some ((Fl.nx,fr.set x (some v)),h1)) λp h=>R p.1 p.2 h;exact w_bnd (W.mono q λ_ _ q=>⟨q⟩)
theorem zi3 {o e:Ex}{n:Nat} (q:WE c fr e h λv h1=>WE c fr o h1 λov h2=>Wo (setAttr c.P h2 ov n v) λh3=>R .nx fr h3):WS c (.asg (.at o n) e) fr h R:=by
 show W (bnd (eval c e fr h) λv h1=>bnd (bnd (eval c o fr h1) λov h2=>(setAttr c.P h2 ov n v).map λh3=>(fr,h3)) λfr' h2=>some ((Fl.nx,fr'),h2)) λp h=>R p.1 p.2 h;exact w_bnd (W.mono q λv h1 q=>w_bnd (w_bnd (W.mono q λov h2 q=>gS (f:=λh3=>(fr,h3)) (Q:=λfr' h2=>W (some ((Fl.nx,fr'),h2)) λp h=>R p.1 p.2 h) (Wo.mono q λ_ q=>⟨q⟩))))
theorem zi2 {o i e:Ex} (q:WE c fr e h λv h1=>WE c fr o h1 λov h2=>WE c fr i h2 λiv h3=>Wo (bV h3 ov iv v) λh4=>R .nx fr h4):WS c (.asg (.sb o i) e) fr h R:=by
 show W (bnd (eval c e fr h) λv h1=>bnd (bnd (eval c o fr h1) λov h2=>bnd (eval c i fr h2) λiv h3=>(bV h3 ov iv v).map λh4=>(fr,h4)) λfr' h2=>some ((Fl.nx,fr'),h2)) λp h=>R p.1 p.2 h;exact w_bnd (W.mono q λv h1 q=>w_bnd (w_bnd (W.mono q λov h2 q=>w_bnd (W.mono q λiv h3 q=>gS (f:=λh4=>(fr,h4)) (Q:=λfr' h2=>W (some ((Fl.nx,fr'),h2)) λp h=>R p.1 p.2 h) (Wo.mono q λ_ q=>⟨q⟩)))))
theorem zdT {ts:List T1}{e:Ex} (q:WE c fr e h λv h1=>Wo (items h1 v) λvs=>WSt c ts vs fr h1 λf2 h2=>R .nx f2 h2):WS c (.asgs ts e) fr h R:=by
 show W (bnd (eval c e fr h) λv h1=>(items h1 v).bind λvs=>bnd (bN c ts vs fr h1) λfr' h2=>some ((Fl.nx,fr'),h2)) λp h=>R p.1 p.2 h;exact w_bnd (W.mono q λv h1 q=>gR (Wo.mono q λvs q=>w_bnd (W.mono q λ_ _ q=>⟨q⟩)))
theorem zgw {e:Ex} (q:WE c fr e h λv h1=>R (.rt v) fr h1):WS c (.ret e) fr h R:=by
 show W (bnd (eval c e fr h) λv h1=>some ((Fl.rt v,fr),h1)) λp h=>R p.1 p.2 h;exact w_bnd (W.mono q λ_ _ q=>⟨q⟩)
theorem zgx {t:Ex}{a b:List Sm} (q:WE c fr t h λx h1=>WT x h1 λr=>Br r (WSs c a fr h1 R) (WSs c b fr h1 R)):WS c (.ite t a b) fr h R:=by
 show W (bnd (aQ (eval c t fr h)) λr h1=>bif r then execs c a fr h1 else execs c b fr h1) λp h=>R p.1 p.2 h;exact w_bnd (eX (W.mono q λx h1 q=>Wo.mono q λr q=>rW q))
theorem zgy (q:R .bk fr h):WS c .brk fr h R:=a6 (a:=(Fl.bk,fr)) q
theorem zdS (q:R .ct fr h):WS c .cont fr h R:=a6 (a:=(Fl.ct,fr)) q
theorem zdP (q:R .nx fr h):WS c .pass fr h R:=a6 (a:=(Fl.nx,fr)) q
def WK (c:Cx) (f:Nat) (as:List Val) (h:MH) (Q:Val->MH->Prop):Prop:=W (c.call f as h) Q
def WF (P:Prg) (d f:Nat) (as:List Val) (h:MH) (Q:Val->MH->Prop):Prop:=W (bC P 200000 d f as h) Q
def Fin (Q:Val->MH->Prop) (fl:Fl) (_:Frame) (h:MH):Prop:=Fl.casesOn (motive:=λ_=>Prop) fl (Q .none h) False False λv=>Q v h
theorem yM {f:Nat}{fn:Fn}{as vs:List Val} (hf:P.fnAt f=some fn) (ha:cJ fn as=some vs) (q:WSs (Cxd P d) fn.body (bX fn vs) h (Fin Q)):WF P (d+1) f as h Q:=by
 show W ((P.fnAt f).bind λf=>(cJ f as).bind λvs=>bnd (execs ⟨P,200000,bC P 200000 d⟩ f.body (bX f vs) h) xR) Q;rw [hf];show W ((cJ fn as).bind λvs=>bnd (execs ⟨P,200000,bC P 200000 d⟩ fn.body (bX fn vs) h) xR) Q;rw [ha];exact w_bnd (W.mono q λp h1 q=>by
  obtain ⟨fl,f2⟩:=p;cases fl with
  |nx=>exact ⟨q⟩
  |bk=>exact q.elim
  |ct=>exact q.elim
  |rt v=>exact ⟨q⟩)
theorem zbk {K f:Nat}{fn:Fn}{as vs:List Val} (hd:K+1<=d) (hf:P.fnAt f=some fn) (ha:cJ fn as=some vs) (q: ∀d',K<=d'->WSs (Cxd P d') fn.body (bX fn vs) h (Fin Q)):WF P d f as h Q:=by
 refine (Jj hd).elim λd' zq1=>?_;obtain rfl:=zq1;exact yM (d:=d'+K) hf ha (q _ (QV _ _))
end
end Internal
namespace Internal
theorem rO {h t:MH}{a:Nat}{o:MObj} (e:h[a]?=some o):(h++t)[a]?=some o:=by
 rw [Q0 (Qk.mp e).1];exact e
theorem i0 {h t:MH}{o:MObj}:(h++o::t)[h.length]?=some o:=by
 rw [Ju (Qo _),ZM];rfl
theorem zwE {h:MH}{a b:Nat}{o x:MObj} (ne:b≠a) (e:h[a]?=some o):(h.set b x)[a]?=some o:=by rw [Zc ne];exact e
theorem zid {h:MH}{a:Nat}{o:MObj} (e:h[a]?=some o):a<h.length:=(Qk.mp e).1
theorem zqs {h:MH}{a:Nat}{o x:MObj} (e:h[a]?=some o):(h.set a x)[a]?=some x:=ZO (zid e)
theorem lM {h t:MH}{o x:MObj}:(h++o::t).set h.length x=h++x::t:=by
 rw [List.set_append_right _ _ (Qo _),ZM];rfl
theorem b7 {h:MH}{a:Nat}{vs:List Val} (e:h[a]?=some (.list vs)):aI h (.ref a)=some vs:=by
 show (h[a]?).bind MObj.list?=_;rw [e];rfl
theorem uT {h:MH}{a:Nat}{ep:Option Nat}{es:List (Val×Val)} (e:h[a]?=some (.dict ep es)):dictAt h (.ref a)=some (ep,es):=by
 show (h[a]?).bind MObj.dict?=_;rw [e];rfl
theorem zdr {h:MH}{a:Nat}{vs:List Val} (e:h[a]?=some (.list vs)):dictAt h (.ref a)=none:=by
 show (h[a]?).bind MObj.dict?=_;rw [e];rfl
theorem tZ {h:MH}{a:Nat}{ep:Option Nat}{es:List (Val×Val)} (e:h[a]?=some (.dict ep es)):aI h (.ref a)=none:=by
 show (h[a]?).bind MObj.list?=_;rw [e];rfl
theorem uF {h:MH}{a k:Nat}{fs:List (Nat×Val)} (e:h[a]?=some (.inst k fs)):instAt h (.ref a)=some (k,fs):=by
 show (h[a]?).bind MObj.inst?=_;rw [e];rfl
section
variable {c:Cx}{fr:Frame}{h:MH}{Q:Val->MH->Prop}{P:Prg}{d:Nat}
theorem zsC {a b:Int} (q:Q (.int (a+b)) h):WB .add (.int a) (.int b) h Q:=⟨q⟩
theorem zsz {a b:Int} (q:Q (.int (a-b)) h):WB .sub (.int a) (.int b) h Q:=⟨q⟩
theorem zrZ {a b:List Nat} (hl:a.length+b.length<=lim) (q:Q (.str (a++b)) h):WB .add (.str a) (.str b) h Q:=by
 show W (alt (grd (Qg (a.length+b.length) lim) (some (Val.str (a++b),h))) _) Q;rw [Qr.mpr hl];exact ⟨q⟩
theorem zr0 {a b:Nat}{x y:List Val} (ha:h[a]?=some (.list x)) (hb:h[b]?=some (.list y)) (hl:x.length+y.length<=lim) (q:Q (.ref h.length) (h++ [.list (x++y)])):WB .add (.ref a) (.ref b) h Q:=by
 show W ((aI h (.ref a)).bind λa=>(aI h (.ref b)).bind λb=>grd (Qg (a.length+b.length) lim) (aS h (.list (a++b)))) Q;rw [b7 ha,b7 hb];exact pT (o:=aS h (.list (x++y))) (Qr.mpr hl) (a6 q)
theorem zqq {α:Type}{b:Bool}{o:Option α} (hb:b=true):grd b o=o:=by subst hb;rfl
theorem zsB {a b:Int} (hm:zcO a b=true) (q:Q (.int (a*b)) h):WB .mul (.int a) (.int b) h Q:=by
 have e:tY h (.int a) (.int b)=some (.int (a*b),h):=by
  unfold tY;simp only [Val.int?,ZH,zqq hm];rfl
 have e2:eJ .mul (.int a) (.int b) h=alt none (tY h (.int a) (.int b)):=by
  unfold eJ;simp only [Val.int?,ZH,qK,ZQ]
 unfold WB;rw [e2,e];exact ⟨q⟩
theorem zrX {a:Int}{b:Bool} (q:Q (.int (a*(if b then 1 else 0))) h):WB .mul (.int a) (.bool b) h Q:=⟨q⟩
theorem zb4 {l n:Nat} (hn:n<=lim) (hl:l*n<=lim):eG l (n:Int)=true:=by
 unfold eG;rw [QX,QX];exact ⟨⟨decide_eq_true (by lia),decide_eq_true (by lia)⟩,Qr.mpr (by rw [Jz];exact hl)⟩
theorem zr5 {α:Type}{x:α}{n:Nat}:(Qm n [x]).flatten=Qm n x:=by
 induction n with
 |zero=>rfl
 |succ n ih=>rw [JW,JR,ih];rfl
theorem zrW {a:Nat}{n:Nat}{x:List Val} (ha:h[a]?=some (.list x)) (hl:n<=lim) (hx:x.length*n<=lim) (q:Q (.ref h.length) (h++ [.list (Qm n x).flatten])):WB .mul (.ref a) (.int n) h Q:=by
 show W (alt ((aI h (.ref a)).bind λa=>(some (n:Int)).bind λn=>grd (eG a.length n) (aS h (.list (Qm n.toNat a).flatten))) _) Q;rw [b7 ha];exact pU (pT (o:=aS h (.list (Qm n x).flatten)) (zb4 hl hx) (a6 q))
theorem zrV {n:Nat}{x:List Nat} (hl:n<=lim) (hx:x.length*n<=lim) (q:Q (.str (Qm n x).flatten) h):WB .mul (.str x) (.int n) h Q:=by
 show W (grd (eG x.length (n:Int)) (some (Val.str (Qm (n:Int).toNat x).flatten,h))) Q;rw [zb4 hl hx];exact ⟨q⟩
theorem lT {o:Option Int}{k:Int} (e:o=some k) (q:Q (.int k) h) {o':Option (Val×MH)}:W (alt (o.map λk=>(Val.int k,h)) o') Q:=by subst e;exact ⟨q⟩
theorem zrY {a b:Int} (hb:b≠0) (hl:b.natAbs<zft) (q:Q (.int (Int.fdiv a b)) h):WB .fdiv (.int a) (.int b) h Q:=by
 refine lT (o:=qK .fdiv a b) ?_ q;show grd _ _=_;rw [show (b !=0 && Qg (b.natAbs+1) zft)=true by rw [QX];exact ⟨bne_iff_ne.mpr hb,Qr.mpr hl⟩];rfl
theorem zgH {a b:Int} (hb:b≠0) (q:Q (.int (Zm a b)) h):WB .mod (.int a) (.int b) h Q:=by
 refine lT (o:=qK .mod a b) ?_ q;show grd _ _=_;rw [bne_iff_ne.mpr hb];rfl
theorem zsA {a b r:Int} (e:qK .pow a b=some r) (q:Q (.int r) h):WB .pow (.int a) (.int b) h Q:=lT e q
theorem pS {op:COp}{a b:Val}{r:Bool} (e:jD op a b h=some r) (q:Q (.bool r) h):WC op a b h Q:=Wo.of e q
theorem zyn {a b:Int} (q:Q (.bool (decide (a<b))) h):WC .lt (.int a) (.int b) h Q:=⟨q⟩
theorem zyo {a b:Int} (q:Q (.bool (decide (a<=b))) h):WC .le (.int a) (.int b) h Q:=⟨q⟩
theorem zyp {a b:Int} (q:Q (.bool (decide (b<a))) h):WC .gt (.int a) (.int b) h Q:=⟨q⟩
theorem zyq {a b:Int} (q:Q (.bool (decide (b<=a))) h):WC .ge (.int a) (.int b) h Q:=⟨q⟩
theorem zfT {a b:Val}{r:Bool} (e:veq h a b=some r) (q:Q (.bool r) h):WC .eq a b h Q:=pS e q
theorem yN {a b:Val}{r:Bool} (e:veq h a b=some r) (q:Q (.bool (!r)) h):WC .ne a b h Q:=pS (r:=!r) (by show (veq h a b).map _=_;rw [e];rfl) q
theorem zss {a b:Val} (e:veq h a b=some true) (q:Q (.bool false) h):WC .ne a b h Q:=yN e q
theorem zst {a b:Val} (e:veq h a b=some false) (q:Q (.bool true) h):WC .ne a b h Q:=yN e q
theorem zfS {a b:Val}{r:Bool} (e:isV a b=some r) (q:Q (.bool r) h):WC .is a b h Q:=pS e q
theorem sI {a b:Val}{r:Bool} (e:isV a b=some r) (q:Q (.bool (!r)) h):WC .isnot a b h Q:=pS (r:=!r) (by show (isV a b).map _=_;rw [e];rfl) q
theorem zjb {a b:Val}{r:Bool} (e:rL h a b=some r) (q:Q (.bool r) h):WC .isin a b h Q:=pS e q
theorem zbo {a b:Val}{r:Bool} (e:rL h a b=some r) (q:Q (.bool (!r)) h):WC .notin a b h Q:=pS (r:=!r) (by show (rL h a b).map _=_;rw [e];rfl) q
theorem zrN {b:Bool}{Q:Bool->Prop} (q:Q b):WT (.bool b) h Q:=⟨q⟩
theorem zi0 {v:Val}{b:Bool}{Q:Bool->Prop} (e:truthy h v=some b) (q:Q b):WT v h Q:=Wo.of e q
theorem mF {n i:Nat} (hi:i<n):idx n (.int i)=some i:=by
 show grd _ _=_;rw [decide_eq_true (show (0:Int)<=(i:Int) by exact QH _),decide_eq_true (show (i:Int)<(n:Int) by lia),Jz];rfl
theorem jK {α:Type}{vs:List α}{i:Nat}{v:α} (hv:vs[i]?=some v):i<vs.length:=(Qk.mp hv).1
theorem g7 {α:Type}{a b:Option α}{v:α}{Q:α->Prop} (e:a=some v) (q:Q v):Wo (alt a b) Q:=by subst e;exact ⟨q⟩
theorem zdW {a i:Nat}{vs:List Val}{v:Val} (ha:h[a]?=some (.list vs)) (hv:vs[i]?=some v) (q:Q v h):WI (.ref a) (.int i) h Q:=by
 refine g7 (a:=(aI h (.ref a)).bind λvs=>(idx vs.length (.int i)).bind λk=>vs[k]?) ?_ q;rw [b7 ha];show (idx vs.length (.int i)).bind _=_;rw [mF (jK hv)];exact hv
theorem zsl {i:Nat}{vs:List Val}{v:Val} (hv:vs[i]?=some v) (q:Q v h):WI (.tup vs) (.int i) h Q:=by
 refine g7 (a:=(idx vs.length (.int i)).bind λk=>vs[k]?) ?_ q;rw [mF (jK hv)];exact hv
theorem zyk {i:Int}{vs:List Val}{v:Val} (hv:((idx vs.length (.int i)).bind λk=>vs[k]?)=some v) (q:Q v h):WI (.tup vs) (.int i) h Q:=g7 (a:=(idx vs.length (.int i)).bind λk=>vs[k]?) hv q
theorem zi6 {i:Nat}{vs:List Val}{v:Val} (hv:vs[i]?=some v) (q:Q v h):WI (.fl vs) (.int i) h Q:=by
 refine g7 (a:=(idx vs.length (.int i)).bind λk=>vs[k]?) ?_ q;rw [mF (jK hv)];exact hv
theorem zsm {i x:Nat}{s:List Nat} (hv:s[i]?=some x) (q:Q (.str [x]) h):WI (.str s) (.int i) h Q:=by
 refine g7 (a:=(idx s.length (.int i)).bind λk=>s[k]?.map λc=>Val.str [c]) ?_ q;rw [mF (jK hv)];show (s[i]?).map _=_;rw [hv];rfl
theorem zdX {a:Nat}{ep:Option Nat}{es:List (Val×Val)}{k v:Val} (ha:h[a]?=some (.dict ep es)) (hf:aE es k=true) (hv:bA es k=some v) (q:Q v h):WI (.ref a) k h Q:=by
 show Wo (alt ((aI h (.ref a)).bind _) (alt ((dictAt h (.ref a)).bind λd=>grd (aE d.2 k) (bA d.2 k)) _)) _;rw [tZ ha,uT ha];show Wo (alt (grd (aE es k) (bA es k)) _) _;rw [hf,hv];exact ⟨q⟩
theorem zi5 {a:Nat}{b:Bool}{vs:List Val}{v:Val} (ha:h[a]?=some (.list vs)) (hv:vs[cond b 1 0]?=some v) (q:Q v h):WI (.ref a) (.bool b) h Q:=by
 show Wo (alt ((aI h (.ref a)).bind λ_=>none) (alt ((dictAt h (.ref a)).bind λd=>grd (aE d.2 (.bool b)) (bA d.2 (.bool b))) ((aI h (.ref a)).bind λvs=>vs[cond b 1 0]?))) _;rw [b7 ha,zdr ha];show Wo (vs[cond b 1 0]?) _;rw [hv];exact ⟨q⟩
theorem zgI {a k n:Nat}{fs:List (Nat×Val)}{v:Val} (ha:h[a]?=some (.inst k fs)) (hv:cH fs n=some v) (hf:P.hasFld k n=true) (q:Q v h):WA P (.ref a) n h Q:=by
 refine g7 (a:=(instAt h (.ref a)).bind λq=>Qc (motive:=λ_=>Option Val) (cH q.2 n) (cC P q.1 n) λv=>grd (P.hasFld q.1 n) (some v)) ?_ q;rw [uF ha];show Qc (motive:=λ_=>Option Val) (cH fs n) (cC P k n) (λv=>grd (P.hasFld k n) (some v))=_;rw [hv];show grd _ _=_;rw [hf];rfl
theorem zsD {a n:Nat}{v:Val} (e:((P.instAt a).bind λc=>cC P c n)=some v) (q:Q v h):WA P (.top a) n h Q:=by
 show Wo ((P.instAt a).bind λc=>cC P c n) _;rw [e];exact ⟨q⟩
theorem zaq {a k n:Nat}{fs:List (Nat×Val)}{v:Val}{Q:MH->Prop} (ha:h[a]?=some (.inst k fs)) (hf:P.hasFld k n=true) (hl:fs.length<400) (q:Q (h.set a (.inst k (kU fs n v)))):Wo (setAttr P h (.ref a) n v) Q:=by
 show Wo ((h[a]?.bind MObj.inst?).bind λq=>grd (P.hasFld q.1 n && Qg (q.2.length+1) 400) (some (h.set a (.inst q.1 (kU q.2 n v))))) Q;rw [ha];show Wo (grd (P.hasFld k n && Qg (fs.length+1) 400) (some (h.set a (.inst k (kU fs n v))))) Q;rw [hf,Qr.mpr hl];exact ⟨q⟩
theorem zbY {a i:Nat}{vs:List Val}{v:Val}{Q:MH->Prop} (ha:h[a]?=some (.list vs)) (hi:i<vs.length) (q:Q (h.set a (.list (vs.set i v)))):Wo (bV h (.ref a) (.int i) v) Q:=by
 refine g7 (a:=(h[a]?.bind MObj.list?).bind λvs=>(idx vs.length (.int i)).map λk=>h.set a (.list (vs.set k v))) ?_ q;rw [ha];show (idx vs.length (.int i)).map _=_;rw [mF hi];rfl
theorem zbZ {a:Nat}{ep:Option Nat}{es:List (Val×Val)}{k v:Val}{Q:MH->Prop} (ha:h[a]?=some (.dict ep es)) (hf:aE es k=true) (hl:es.length<lim) (q:Q (h.set a (.dict (bif (bA es k).isSome then ep else ep.map (· +1)) (fQ es k v)))):Wo (bV h (.ref a) k v) Q:=by
 show Wo (alt ((h[a]?.bind MObj.list?).bind _) ((h[a]?.bind MObj.dict?).bind λd=>grd (aE d.2 k && Qg (d.2.length+1) lim) (some (h.set a (.dict (bif (bA d.2 k).isSome then d.1 else d.1.map (· +1)) (fQ d.2 k v)))))) Q;rw [ha];show Wo (grd (aE es k && Qg (es.length+1) lim) (some (h.set a (.dict (bif (bA es k).isSome then ep else ep.map (· +1)) (fQ es k v))))) Q;rw [hf,Qr.mpr hl];exact ⟨q⟩
theorem ziX {a:Nat}{as:List Val} (hc:P.clsAt a=none) (q:WF P d a as h Q):WV (Cxd P d) (.top a) as h Q:=by
 show W (alt (Qc (motive:=λ_=>Option (Val×MH)) (P.clsAt a) (bC P 200000 d a as h) λk=>tI (Cxd P d) a k as h) _) Q;rw [hc];exact pU (q:W (bC P 200000 d a as h) Q)
theorem zsa {a i:Nat}{k:Cl}{as:List Val} (hc:P.clsAt a=some k) (hi:k.init=some i) (q:WF P d i (.ref h.length::as) (h++ [.inst a []]) λv h'=>v= .none/\Q (.ref h.length) h'):WV (Cxd P d) (.top a) as h Q:=by
 show W (alt (Qc (motive:=λ_=>Option (Val×MH)) (P.clsAt a) (bC P 200000 d a as h) λk=>tI (Cxd P d) a k as h) _) Q;rw [hc];refine pU ?_;show W (k.init.bind λi=>bnd (bC P 200000 d i (.ref h.length::as) (h++ [.inst a []])) λr h'=>grd r.isNone (some (.ref h.length,h'))) Q;rw [hi];exact w_bnd (f:=λr h'=>grd r.isNone (some (Val.ref h.length,h'))) (R:=Q) (W.mono q λv h' q=>by rw [q.1];exact ⟨q.2⟩)
theorem ziY {n:Nat}{as:List Val}{v:Val}{h':MH} (e:j2 n as h=some (v,h')) (q:Q v h'):WV c (.bi n) as h Q:=by
 show W (alt (j2 n as h) none) Q;rw [e];exact ⟨q⟩
theorem zfQ {n:Nat}{as:List Val}{v:Val}{h':MH} (e:fS n as h=some (v,h')) (q:Q v h'):WV c (.ty n) as h Q:=by
 show W (fS n as h) Q;rw [e];exact ⟨q⟩
theorem qL {v:Val}{n:Nat} (e:zaU h v=some n) (q:Q (.int n) h):WV c (.bi wJ) [v] h Q:=by
 refine ziY (v:=.int n) (h':=h) ?_ q;show alt ((zaU h v).map λ(k:Nat)=>(Val.int (k:Int),h)) _=_;rw [e];rfl
theorem ziW {k:Int} (q:Q (.rng k) h):WV c (.ty rC) [.int k] h Q:=⟨q⟩
theorem zrI {a:Nat}{vs:List Val} (ha:h[a]?=some (.list vs)) (q:Q (.ref h.length) (h++ [.list vs])):WV c (.ty tL) [.ref a] h Q:=by
 refine zfQ (v:=.ref h.length) (h':=h++ [.list vs]) ?_ q;show alt (vN [.ref a] h) _=_;show alt ((aI h (.ref a)).bind λvs=>aS h (.list vs)) _=_;rw [b7 ha];rfl
theorem zsc {a b:Int} (q:Q (.int (if b>a then b else a)) h):WV c (.bi zeN) [.int a,.int b] h Q:=⟨q⟩
theorem zsb {a b:Int} (q:Q (.int (if b<a then b else a)) h):WV c (.bi zcw) [.int a,.int b] h Q:=⟨q⟩
theorem zrH {v:Val}{n:Nat} (e:vM h v=some n) (q:Q (.ty n) h):WV c (.ty y8) [v] h Q:=by
 refine zfQ (v:=.ty n) (h':=h) ?_ q;show alt ((vM h v).map λk=>(Val.ty k,h)) _=_;rw [e];rfl
theorem zh9 {a:Nat}{vs:List Val} (ha:h[a]?=some (.list vs)):zaU h (.ref a)=some vs.length:=by
 show alt ((aI h (.ref a)).map (·.length)) _=_;rw [b7 ha];rfl
theorem zia {a:Nat}{ep:Option Nat}{es:List (Val×Val)} (ha:h[a]?=some (.dict ep es)):zaU h (.ref a)=some es.length:=by
 show alt ((aI h (.ref a)).map (·.length)) ((dictAt h (.ref a)).map (·.2.length))=_;rw [tZ ha,uT ha];rfl
theorem zgz {o:Val}{n f:Nat}{self as:List Val}{h0:MH} (hg:bL P h0 o n=some (f,self)) (q:WF P d f (self++as) h Q):WM (Cxd P d) o n as h0 h Q:=by
 show W (Qc (motive:=λ_=>Option (Val×MH)) (bL P h0 o n) (cX o n as h0 h) λp=>bC P 200000 d p.1 (p.2++as) h) Q;rw [hg];exact (q:W (bC P 200000 d f (self++as) h) Q)
theorem zr9 {a k n f:Nat}{fs:List (Nat×Val)}{h0:MH} (ha:h0[a]?=some (.inst k fs)) (hn:cH fs n=none) (hm:bS P k n=some f):bL P h0 (.ref a) n=some (f,[.ref a]):=by
 show ((instAt h0 (.ref a)).bind λq=>grd (cH q.2 n).isNone ((bS P q.1 n).map λf=>(f,[Val.ref a])))=_;rw [uF ha];show grd (cH fs n).isNone ((bS P k n).map λf=>(f,[Val.ref a]))=_;rw [hn,hm];rfl
theorem zfR {a n:Nat}{as:List Val}{h0:MH} (hi:instAt h0 (.ref a)=none) (q:W (cX (.ref a) n as h0 h) Q):WM c (.ref a) n as h0 h Q:=by
 show W (Qc (motive:=λ_=>Option (Val×MH)) ((instAt h0 (.ref a)).bind _) (cX (.ref a) n as h0 h) λ(p:Nat×List Val)=>c.call p.1 (p.2++as) h) Q;rw [hi];exact q
theorem zc3 {a:Nat}{vs:List Val} (e:h[a]?=some (.list vs)):instAt h (.ref a)=none:=by
 show (h[a]?).bind MObj.inst?=_;rw [e];rfl
theorem zc4 {a:Nat}{ep:Option Nat}{es:List (Val×Val)} (e:h[a]?=some (.dict ep es)):instAt h (.ref a)=none:=by
 show (h[a]?).bind MObj.inst?=_;rw [e];rfl
theorem rY {a n:Nat}{as us vs:List Val}{h0:MH} (h0a:h0[a]?=some (.list us)) (ha:h[a]?=some (.list vs)) (q:W (dN a vs n as h) Q):WM c (.ref a) n as h0 h Q:=by
 refine zfR (zc3 h0a) ?_;show W (alt ((h0[a]?.bind MObj.list?).bind λ_=>(h[a]?.bind MObj.list?).bind λvs=>dN a vs n as h) _) Q;rw [h0a,ha];exact pU q
theorem ziV {a:Nat}{vs us:List Val}{v:Val}{h0:MH} (h0a:h0[a]?=some (.list us)) (ha:h[a]?=some (.list vs)) (hl:vs.length<lim) (q:Q .none (h.set a (.list (vs++ [v])))):WM c (.ref a) nAppend [v] h0 h Q:=
 rY h0a ha (pU (pT (o:=some (Val.none,h.set a (.list (vs++ [v])))) (Qr.mpr hl) (a6 q)))
theorem zsj {a:Nat}{vs us:List Val}{v:Val}{h0:MH} (h0a:h0[a]?=some (.list us)) (ha:h[a]?=some (.list (vs++ [v]))) (q:Q v (h.set a (.list vs))):WM c (.ref a) nPop [] h0 h Q:=by
 refine rY h0a ha ?_;show W (alt ((vs++ [v]).getLast?.map λw=>(w,h.set a (.list (vs++ [v]).dropLast))) none) Q;rw [List.getLast?_concat,List.dropLast_concat];exact ⟨q⟩
theorem zi4 {a:Nat}{vs us:List Val}{ss:List (List Nat)}{t:List Nat}{h0:MH} (h0a:h0[a]?=some (.list us)) (ha:h[a]?=some (.list vs)) (hs:vs.mapM Val.str?=some ss) (hc:ss.contains t=true) (q:Q (.int (ss.idxOf t:Nat)) h):WM c (.ref a) nIndex [.str t] h0 h Q:=by
 refine rY h0a ha ?_;show W ((vs.mapM Val.str?).bind λss=>grd (ss.contains t) (some (Val.int (ss.idxOf t:Nat),h))) Q;rw [hs,ZH,hc];exact ⟨q⟩
theorem zP {a n:Nat}{as:List Val}{ep ep0:Option Nat}{es es0:List (Val×Val)}{h0:MH} (h0a:h0[a]?=some (.dict ep0 es0)) (ha:h[a]?=some (.dict ep es)) (q:W (dO es n as h) Q):WM c (.ref a) n as h0 h Q:=by
 refine zfR (zc4 h0a) ?_;show W (alt ((h0[a]?.bind MObj.list?).bind _) ((h0[a]?.bind MObj.dict?).bind λ_=>(h[a]?.bind MObj.dict?).bind λd=>dO d.2 n as h)) Q;rw [h0a,ha];exact q
theorem zsk {a:Nat}{ep ep0:Option Nat}{es es0:List (Val×Val)}{k e:Val}{h0:MH} (h0a:h0[a]?=some (.dict ep0 es0)) (ha:h[a]?=some (.dict ep es)) (hf:aE es k=true) (q:Q ((bA es k).getD e) h):WM c (.ref a) nGet [k,e] h0 h Q:=
 zP h0a ha (pT (o:=some ((bA es k).getD e,h)) hf (a6 q))
theorem zrQ {a:Nat}{ep ep0:Option Nat}{es es0:List (Val×Val)}{k:Val}{h0:MH} (h0a:h0[a]?=some (.dict ep0 es0)) (ha:h[a]?=some (.dict ep es)) (hf:aE es k=true) (q:Q ((bA es k).getD .none) h):WM c (.ref a) nGet [k] h0 h Q:=
 zP h0a ha (pU (pT (o:=some ((bA es k).getD .none,h)) hf (a6 q)))
theorem zrO {Q:Frame->MH->Prop} (q:Q fr h):WSt c [] [] fr h Q:=⟨q⟩
theorem zsf {x:Nat}{ts:List T1}{v:Val}{vs:List Val}{Q:Frame->MH->Prop} (q:WSt c ts vs (fr.set x (some v)) h Q):WSt c (.nm x::ts) (v::vs) fr h Q:=q
theorem zse {o i:Ex}{ts:List T1}{v:Val}{vs:List Val}{Q:Frame->MH->Prop} (q:WE c fr o h λov h1=>WE c fr i h1 λiv h2=>Wo (bV h2 ov iv v) λh3=>WSt c ts vs fr h3 Q):WSt c (.sb o i::ts) (v::vs) fr h Q:=by
 show W (bnd (bnd (eval c o fr h) λov h1=>bnd (eval c i fr h1) λiv h2=>(bV h2 ov iv v).map λh3=>(fr,h3)) λfr' h'=>bN c ts vs fr' h') Q;exact w_bnd (w_bnd (W.mono q λov h1 q=>w_bnd (W.mono q λiv h2 q=>gS (f:=λh3=>(fr,h3)) (Q:=λfr' h'=>W (bN c ts vs fr' h') Q) q)))
theorem zsg {o:Ex}{n:Nat}{ts:List T1}{v:Val}{vs:List Val}{Q:Frame->MH->Prop} (q:WE c fr o h λov h1=>Wo (setAttr c.P h1 ov n v) λh3=>WSt c ts vs fr h3 Q):WSt c (.at o n::ts) (v::vs) fr h Q:=by
 show W (bnd (bnd (eval c o fr h) λov h1=>(setAttr c.P h1 ov n v).map λh3=>(fr,h3)) λfr' h'=>bN c ts vs fr' h') Q;exact w_bnd (w_bnd (W.mono q λov h1 q=>gS (f:=λh3=>(fr,h3)) (Q:=λfr' h'=>W (bN c ts vs fr' h') Q) q))
theorem zr8 {a:Nat}{vs:List Val}{Q:List Val->Prop} (ha:h[a]?=some (.list vs)) (q:Q vs):Wo (items h (.ref a)) Q:=by
 show Wo (alt none (aI h (.ref a))) Q;rw [b7 ha];exact ⟨q⟩
theorem zr7 {vs:List Val}{Q:List Val->Prop} (q:Q vs):Wo (items h (.tup vs)) Q:=⟨q⟩
end
end Internal
namespace Internal
def nV (I:Frame->MH->Prop) (R:Fl->Frame->MH->Prop) (fl:Fl) (fr:Frame) (h:MH):Prop:=Fl.casesOn (motive:=λ_=>Prop) fl (I fr h) (R .nx fr h) (I fr h) λv=>R (.rt v) fr h
section
variable {c:Cx}{fr:Frame}{h:MH}{Q:Val->MH->Prop}{R:Fl->Frame->MH->Prop}
theorem ze7 {next:Nat->MH->Option (Option Val)}{bd:Frame->Val->Option Frame}{b:Frame->MH->SR} (n:Nat) (I:Nat->Frame->MH->Prop)
  (step: ∀i,i<n-> ∀fr h,I i fr h->Wo (next i h) λov=>Wo ov λv=>Wo (bd fr v) λfr1=>W (b fr1 h) λp h'=>nV (I (i+1)) R p.1 p.2 h')
  (stop: ∀fr h,I n fr h->Wo (next n h) λov=>ov=none/\R .nx fr h): ∀ (m i fu:Nat),i+m=n->m<fu-> ∀fr h,I i fr h->W (fE next bd b fu i fr h) λp h=>R p.1 p.2 h:=by
 intro m
 induction m with
 |zero=>
  intro i fu hi hf fr h I0;refine (Jj hf).elim λfu zq12=>?_;obtain rfl:=zq12;cases hi;have q:Wo (next i h) λov=>ov=none/\R .nx fr h:=stop fr h I0;show W ((next i h).bind _) _;exact gR (q.mono λov q=>by obtain ⟨rfl,q⟩:=q;exact ⟨q⟩)
 |succ m ih=>
  intro i fu hi hf fr h I0;obtain ⟨fu,rfl⟩:=Jj (QU (QO _) hf);have q:=step i (Qn (Jl (JV _)) (QP hi)) fr h I0;show W ((next i h).bind _) _;refine gR (q.mono λov q=>?_);cases ov with
  |none=>exact q.w.elim
  |some v=>
   show W ((bd fr v).bind _) _;refine gR (Wo.mono q.w λfr1 q=>w_bnd (W.mono q λp h2 q=>?_));obtain ⟨fl,f2⟩:=p;cases fl with
   |nx=>exact ih (i+1) _ (by lia) (JI hf) f2 h2 q
   |ct=>exact ih (i+1) _ (by lia) (JI hf) f2 h2 q
   |bk=>exact ⟨q⟩
   |rt v=>exact ⟨q⟩
theorem vG {tg:List Nat}{many:Bool}{e:Ex}{b:List Sm}
  (q:WE c fr e h λv h1=> ∃k,∃xs:List Val,bW h1 v=some k/\xs.length<c.fuel/\∃I:Nat->Frame->MH->Prop,I 0 fr h1/\(∀i fr h,I i fr h->aZ h i k=some xs[i]?)/\
   (∀i x,xs[i]?=some x-> ∀fr h,I i fr h->Wo (b9 fr tg many x) λfr1=>WSs c b fr1 h (nV (I (i+1)) R))/\∀fr h,I xs.length fr h->R .nx fr h):WS c (.fo tg many e b) fr h R:=by
 show W (bnd (eval c e fr h) λv h1=>(bW h1 v).bind λk=>fE (λi h=>aZ h i k) (λfr v=>b9 fr tg many v) (λfr h=>execs c b fr h) c.fuel 0 fr h1) λp h=>R p.1 p.2 h;refine w_bnd (W.mono q λv h1 q=>?_);refine q.elim λk zq8=>zq8.elim λxs zq9=>zq9.2.2.elim λI zq10=>?_;rw [zq9.1];show W (fE (λi h=>aZ h i k) (λfr v=>b9 fr tg many v) (λfr h=>execs c b fr h) c.fuel 0 fr h1) λp h=>R p.1 p.2 h;refine ze7 xs.length I (λi hi fr h hI=>?_) (λfr h hI=>?_) xs.length 0 c.fuel (JA _) zq9.2.1 fr h1 zq10.1
 ·rw [zq10.2.1 i fr h hI,Qh hi]
  exact ⟨⟨zq10.2.2.1 i _ (Qh hi) fr h hI⟩⟩
 ·rw [zq10.2.1 _ fr h hI,JQ (Qo _)]
  exact ⟨rfl,zq10.2.2.2 fr h hI⟩
theorem iY {a:Nat}{vs:List Val} (ha:h[a]?=some (.list vs)):bW h (.ref a)=some (.ls a):=by
 show alt none (alt (alt ((h[a]?.bind MObj.list?).map λ_=>It.ls a) _) _)=_;rw [ha];rfl
theorem iR {a i:Nat}{vs:List Val} (ha:h[a]?=some (.list vs)):aZ h i (.ls a)=some vs[i]?:=by
 show (h[a]?.bind MObj.list?).map _=_;rw [ha];rfl
theorem zcX {n:Nat} (hn:n<=lim):bW h (.rng n)=some (.rg n):=by
 show alt (grd _ _) _=_;rw [decide_eq_true (show (n:Int)<=(lim:Int) by lia),decide_eq_true (show-(lim:Int)<=(n:Int) by lia)];rfl
def s7 (n:Nat):List Val:=(ZK n).map λ(i:Nat)=>Val.int (i:Int)
theorem dK {n:Nat}:(s7 n).length=n:=by unfold s7;rw [Qz,Zt]
theorem y1 {n i:Nat} (hi:i<n):(s7 n)[i]?=some (.int i):=by
 unfold s7;rw [Jc,List.getElem?_range hi];rfl
theorem y0 {n i:Nat}{x:Val} (hx:(s7 n)[i]?=some x):i<n/\x= .int i:=by
 have hi:i<n:=by have:=jK hx;rwa [dK] at this
 rw [y1 hi] at hx;exact ⟨hi,(Qf.inj hx).symm⟩
theorem zco {n i:Nat} (hi:i<=n):aZ h i (.rg n)=some (s7 n)[i]?:=by
 show some (bif decide ((i:Int)<(n:Int)) then some (Val.int i) else none)=_;by_cases hl:i<n
 ·rw [decide_eq_true (show (i:Int)<(n:Int) by lia),y1 hl];rfl
 ·rw [decide_eq_false (show ¬(i:Int)<(n:Int) by lia),JQ (by rw [dK];exact Jt hl)];rfl
theorem qJ {x:Nat}{v:Val}{Q:Frame->Prop} (q:Q (fr.set x (some v))):Wo (b9 fr [x] false v) Q:=⟨q⟩
theorem zrP {x a:Nat}{e:Ex}{b:List Sm}{vs:List Val} (hn:vs.length<c.fuel) (I:Nat->Frame->MH->Prop)
  (hk: ∀i fr h,I i fr h->h[a]?=some (.list vs)) (q:WE c fr e h λv h1=>v= .ref a/\I 0 fr h1)
  (step: ∀i v,vs[i]?=some v-> ∀fr h,I i fr h->WSs c b (fr.set x (some v)) h (nV (I (i+1)) R))
  (stop: ∀fr h,I vs.length fr h->R .nx fr h):WS c (.fo [x] false e b) fr h R:=
 vG (W.mono q λv h1 q=>by
  obtain rfl:=q.1;exact ⟨.ls a,vs,iY (hk _ _ _ q.2),hn,I,q.2,λi fr h hI=>iR (hk _ _ _ hI),λi x hx fr h hI=>qJ (step i x hx fr h hI),stop⟩)
theorem zdQ {x n:Nat}{e:Ex}{b:List Sm} (hn:n<c.fuel) (hl:n<=lim) (I:Nat->Frame->MH->Prop)
  (q:WE c fr e h λv h1=>v= .rng n/\I 0 fr h1)
  (step: ∀i,i<n-> ∀fr h,I i fr h->WSs c b (fr.set x (some (.int i))) h (nV (I (i+1)) R))
  (stop: ∀fr h,I n fr h->R .nx fr h):WS c (.fo [x] false e b) fr h R:=
 vG (W.mono q λv h1 q=>by
  obtain ⟨rfl,I0⟩:=q;refine ⟨.rg n,s7 n,zcX hl,by rw [dK];exact hn,λi fr h=>i<=n/\I i fr h,⟨QO _,I0⟩,λi fr h hI=>zco hI.1,λi x hx fr h hI=>?_,λfr h hI=>stop fr h (dK (n:=n)▸hI.2)⟩;obtain ⟨hi,rfl⟩:=y0 hx;refine qJ (W.mono (step i hi fr h hI.2) λp h' q=>?_);obtain ⟨fl,f2⟩:=p;cases fl with
  |nx=>exact ⟨hi,q⟩
  |ct=>exact ⟨hi,q⟩
  |bk=>exact q
  |rt v=>exact q)
theorem ze6 {cond:Frame->MH->Option (Bool×MH)}{b:Frame->MH->SR} (I:Nat->Frame->MH->Prop)
  (step: ∀k fr h,I k fr h->W (cond fr h) λr h1=>Br r (W (b fr h1) λp h'=>nV (λfr h=> ∃j,j<k/\I j fr h) R p.1 p.2 h') (R .nx fr h1)): ∀ (m k:Nat),k<m-> ∀fr h,I k fr h->W (eH cond b m fr h) λp h=>R p.1 p.2 h:=by
 intro m
 induction m with
 |zero=>exact λk hk=>absurd hk (Nat.not_lt_zero _)
 |succ m ih=>
  intro k hk fr h I0;show W (bnd (cond fr h) _) _;refine w_bnd (W.mono (step k fr h I0) λr h1 q=>?_);cases r with
  |false=>exact ⟨q.2 rfl⟩
  |true=>
   rw [cond_true];refine w_bnd (W.mono (q.1 rfl) λp h2 q=>?_);obtain ⟨fl,f2⟩:=p;cases fl with
   |nx=>obtain ⟨j,hj,q⟩:=q;exact ih j (Qn hj (Jm hk)) f2 h2 q
   |ct=>obtain ⟨j,hj,q⟩:=q;exact ih j (Qn hj (Jm hk)) f2 h2 q
   |bk=>exact ⟨q⟩
   |rt v=>exact ⟨q⟩
theorem zi1 {t:Ex}{b:List Sm}{k:Nat} (I:Nat->Frame->MH->Prop) (hk:k<c.fuel) (I0:I k fr h)
  (step: ∀k fr h,I k fr h->WE c fr t h λv h1=>WT v h1 λr=>Br r (WSs c b fr h1 (nV (λfr h=> ∃j,j<k/\I j fr h) R)) (R .nx fr h1)):WS c (.wh t b) fr h R:=by
 show W (eH (λfr h=>aQ (eval c t fr h)) (λfr h=>execs c b fr h) c.fuel fr h) λp h=>R p.1 p.2 h;exact ze6 I (λk fr h hI=>eX (step k fr h hI)) c.fuel k hk fr h I0
def WTs (c:Cx) (fr:Frame) (es:List Ex) (h:MH) (Q:Bool->MH->Prop):Prop:=W (jA c es fr h) Q
theorem yK {Q:Bool->MH->Prop} (q:Q true h):WTs c fr [] h Q:=a6 q
theorem ziZ {Q:Bool->MH->Prop}{e:Ex}{r:List Ex} (q:WE c fr e h λv h1=>WT v h1 λb=>Br b (WTs c fr r h1 Q) (Q false h1)):WTs c fr (e::r) h Q:=by
 show W (bnd (aQ (eval c e fr h)) λb h1=>bif b then jA c r fr h1 else some (false,h1)) Q;exact w_bnd (eX (W.mono q λv h1 q=>Wo.mono q λb q=>rW ⟨q.1,λh=>a6 (q.2 h)⟩))
theorem xW {next:Nat->MH->Option (Option Val)}{t:Val->MH->Option (Option Frame×MH)}{el:Frame->MH->Option (Val×MH)}{ac:Nat}{R:MH->Prop} (n:Nat) (I:Nat->MH->Prop)
  (step: ∀i,i<n-> ∀h,I i h->Wo (next i h) λov=>Wo ov λv=>W (t v h) λo h1=>(o=none->I (i+1) h1)/\∀fr,o=some fr->W (el fr h1) λx h2=> ∃vs,h2[ac]?=some (.list vs)/\vs.length<lim/\I (i+1) (h2.set ac (.list (vs++ [x]))))
  (stop: ∀h,I n h->Wo (next n h) λov=>ov=none/\R h): ∀ (m i fu:Nat),i+m=n->m<fu-> ∀h,I i h->W (compLoop next t el ac fu i h) λ_ h=>R h:=by
 intro m
 induction m with
 |zero=>
  intro i fu hi hf h I0;refine (Jj hf).elim λfu zq6=>?_;obtain rfl:=zq6;cases hi;have q:Wo (next i h) λov=>ov=none/\R h:=stop h I0;show W ((next i h).bind _) _;exact gR (q.mono λov q=>by obtain ⟨rfl,q⟩:=q;exact ⟨q⟩)
 |succ m ih=>
  intro i fu hi hf h I0;obtain ⟨fu,rfl⟩:=Jj (QU (QO _) hf);have q:=step i (Qn (Jl (JV _)) (QP hi)) h I0;show W ((next i h).bind _) _;refine gR (q.mono λov q=>?_);cases ov with
  |none=>exact q.w.elim
  |some v=>
   have q:W (t v h) λo h1=>(o=none->I (i+1) h1)/\∀fr,o=some fr->W (el fr h1) λx h2=> ∃vs,h2[ac]?=some (.list vs)/\vs.length<lim/\I (i+1) (h2.set ac (.list (vs++ [x]))):=q.w;refine w_bnd (W.mono q λo h1 q=>?_);cases o with
   |none=>exact ih (i+1) _ (by lia) (JI hf) h1 (q.1 rfl)
   |some fr=>
    refine w_bnd (W.mono (q.2 fr rfl) λx h2 q=>?_);obtain ⟨vs,e1,e2,q⟩:=q;rw [e1];show W (grd (Qg (vs.length+1) lim) _) _;rw [Qr.mpr e2];exact ih (i+1) _ (by lia) (JI hf) _ q
theorem lJ {elt it:Ex}{tg:List Nat}{many:Bool}{ifs:List Ex}
  (q:WE c fr it h λv h1=> ∃k,∃xs:List Val,bW h1 v=some k/\xs.length<c.fuel/\∃I:Nat->MH->Prop,I 0 (h1++ [.list []])/\(∀i h,I i h->aZ h i k=some xs[i]?)/\
   (∀i x,xs[i]?=some x-> ∀hh,I i hh->Wo (b9 fr tg many x) λfr1=>WTs c fr1 ifs hh λb h2=>Br b (WE c fr1 elt h2 λx h3=> ∃vs,h3[h1.length]?=some (.list vs)/\vs.length<lim/\I (i+1) (h3.set h1.length (.list (vs++ [x])))) (I (i+1) h2))/\
   ∀hh,I xs.length hh->Q (.ref h1.length) hh):WE c fr (.comp elt tg many it ifs) h Q:=by
 show W (bnd (eval c it fr h) λv h1=>(bW h1 v).bind λk=>bnd (compLoop (λi h=>aZ h i k) (λv h=>(b9 fr tg many v).bind λfr'=>bnd (jA c ifs fr' h) λb h'=>some (bif b then some fr' else none,h')) (λfr' h=>eval c elt fr' h) h1.length c.fuel 0 (h1++ [.list []])) λ_ h2=>some (.ref h1.length,h2)) Q;refine w_bnd (W.mono q λv h1 q=>?_);refine q.elim λk zq1=>zq1.elim λxs zq2=>zq2.2.2.elim λI zq3=>?_;rw [zq2.1];refine w_bnd (f:=λ_ h2=>some (Val.ref h1.length,h2)) ?_;refine W.mono (Q:=λ_ h2=>Q (.ref h1.length) h2) ?_ λ_ _ q=>a6 q;refine xW (R:=λh2=>Q (.ref h1.length) h2) xs.length I (λi hi hh hI=>?_) (λhh hI=>?_) xs.length 0 c.fuel (JA _) zq2.2.1 _ zq3.1
 ·rw [zq3.2.1 i hh hI,Qh hi]
  refine yL (yL (gR (Wo.mono (zq3.2.2.1 i _ (Qh hi) hh hI) λfr1 q=>w_bnd (W.mono q λb h2 q=>?_))));cases b with
  |true=>exact ⟨nofun,λfr e=>by cases e;exact q.1 rfl⟩
  |false=>exact ⟨λ_=>q.2 rfl,nofun⟩
 ·rw [zq3.2.1 _ hh hI,JQ (Qo _)]
  exact ⟨rfl,zq3.2.2.2 hh hI⟩
theorem zwL {r:List Sm} (q:WSs c r fr h R):Beh c r R .nx fr h:=q
theorem zwN {r:List Sm} (q:R .bk fr h):Beh c r R .bk fr h:=q
theorem zwM {r:List Sm} (q:R .ct fr h):Beh c r R .ct fr h:=q
theorem zwK {r:List Sm}{v:Val} (q:R (.rt v) fr h):Beh c r R (.rt v) fr h:=q
theorem zwF {v:Val} (q:Q v h):Fin Q (.rt v) fr h:=q
theorem zwG (q:Q .none h):Fin Q .nx fr h:=q
variable {I:Frame->MH->Prop}
theorem zr2 (q:I fr h):nV I R .nx fr h:=q
theorem zr3 (q:I fr h):nV I R .ct fr h:=q
theorem zr4 (q:R .nx fr h):nV I R .bk fr h:=q
theorem zr1 {v:Val} (q:R (.rt v) fr h):nV I R (.rt v) fr h:=q
abbrev nn (k:Nat):Frame:=Qm k none
theorem zyl {P:Prg}{d K f np ns:Nat}{dfl as vs:List Val}{bd:List Sm} (hd:K+1<=d) (fr:Frame) (hf:P.fnAt f=some ⟨f,np,dfl,ns,bd⟩) (ha:cJ ⟨f,np,dfl,ns,bd⟩ as=some vs) (hfr:bX ⟨f,np,dfl,ns,bd⟩ vs=fr) (q: ∀d',K<=d'->WSs (Cxd P d') bd fr h (Fin Q)):WF P d f as h Q:=
 zbk hd hf ha λd' h'=>hfr▸q d' h'
end
end Internal
namespace Internal
section
variable {c:Cx}{fr:Frame}{h:MH}{Q:Val->MH->Prop}
theorem kL {α:Type}{vs:List α}{p:α->Bool}{i:Nat}{v:α} (hv:vs[i]?=some v):(vs.take (i+1)).filter p=(vs.take i).filter p++(bif p v then [v] else []):=by
 refine (Qk.mp hv).elim λhi zq1=>?_;obtain rfl:=zq1;rw [List.take_succ_eq_append_getElem hi,Ke];cases hb:p vs[i] <;>simp [hb]
theorem zi8 {elt it:Ex}{x:Nat}{ifs:List Ex} (a:Nat) (vs:List Val) (p:Val->Bool) (f:Val->Val) (hf:vs.length<c.fuel) (hl:vs.length<=lim)
  (q:WE c fr it h λv h1=>v= .ref a/\h1[a]?=some (.list vs)/\
   (∀v,v∈vs-> ∀acc,WTs c (fr.set x (some v)) ifs (h1++ [.list acc]) λb h2=>h2=h1++ [.list acc]/\b=p v/\(b=true->WE c (fr.set x (some v)) elt h2 λy h3=>h3=h2/\y=f v))/\Q (.ref h1.length) (h1++ [.list ((vs.filter p).map f)])):WE c fr (.comp elt [x] false it ifs) h Q:=by
 refine lJ (W.mono q λv h1 q=>?_);obtain rfl:=q.1;have h1a:=q.2.1;have st:=q.2.2.1;have q:=q.2.2.2;refine ⟨.ls a,vs,iY h1a,hf,λi hh=>hh=h1++ [.list (((vs.take i).filter p).map f)],rfl,?_,?_,?_⟩
 ·rintro i hh rfl;exact iR (rO h1a)
 ·rintro i v hv hh rfl
  refine qJ (W.mono (st v (Q8 hv) _) λb h2 q=>?_);obtain rfl:=q.1;obtain rfl:=q.2.1;refine br (λhb=>W.mono (q.2.2 hb) λy h3 q=>?_) λhb=>?_
  ·obtain ⟨rfl,rfl⟩:=q
   refine ⟨_,i0,?_,?_⟩
   ·rw [Qz]
    have h1:=ZU p (vs.take i);rw [ZE] at h1
    have:=jK hv
    exact QU h1 (QU (Zd _ _) (Qn this hl))
   ·rw [lM]
    show _=h1++ [MObj.list (((vs.take (i+1)).filter p).map f)];rw [(kL (p:=p) hv),hb,QF];rfl
  ·show _=h1++ [MObj.list (((vs.take (i+1)).filter p).map f)]
   rw [(kL (p:=p) hv),hb,cond_false,Jn]
 ·rintro hh rfl
  rw [Zb];exact q
end
end Internal
namespace Internal
section
variable {c:Cx}{fr:Frame}{h:MH}{Q:Val->MH->Prop}
theorem zsp {e f:Ex}{r:List Ex} (q:WE c fr e h λv h1=>WT v h1 λb=>Br b (WE c fr (.bop false (f::r)) h1 Q) (Q v h1)):WE c fr (.bop false (e::f::r)) h Q:=
 vL (W.mono q λv h1 q=>Wo.mono q λb q=>by cases b;exact za7 (q.2 rfl);exact zfB (q.1 rfl))
theorem zym {e f:Ex}{r:List Ex} (q:WE c fr e h λv h1=>WT v h1 λb=>Br b (Q v h1) (WE c fr (.bop true (f::r)) h1 Q)):WE c fr (.bop true (e::f::r)) h Q:=
 vL (W.mono q λv h1 q=>Wo.mono q λb q=>by cases b;exact zfB (q.2 rfl);exact za7 (q.1 rfl))
theorem zsu {a b:Val} (e:isV a b=some true) (q:Q (.bool true) h):WC .is a b h Q:=zfS e q
theorem zsv {a b:Val} (e:isV a b=some false) (q:Q (.bool false) h):WC .is a b h Q:=zfS e q
theorem zrT {a b:Val} (e:isV a b=some true) (q:Q (.bool false) h):WC .isnot a b h Q:=sI e q
theorem zrU {a b:Val} (e:isV a b=some false) (q:Q (.bool true) h):WC .isnot a b h Q:=sI e q
theorem ztZ (q:Q (.bool false) h):Q (.bool (!true)) h:=q
theorem qM {s t:List Nat}:veq h (.str s) (.str t)=some (s==t):=by
 show some (Kn (.str ⟨s.toArray⟩) (.str ⟨t.toArray⟩))=_;have e:Kn (.str ⟨s.toArray⟩) (.str ⟨t.toArray⟩)=((⟨s.toArray⟩:PySem.Str)==⟨t.toArray⟩):=rfl;rw [e];by_cases hs:s=t
 ·subst hs;simp
 ·rw [beq_false_of_ne hs,beq_false_of_ne]
  intro e
  apply hs
  injection e with e;injection e
theorem zsx {s t:List Nat} (q:Q (.bool (s==t)) h):WC .eq (.str s) (.str t) h Q:=zfT qM q
theorem zsq {s t:List Nat} (q:Q (.bool (!(s==t))) h):WC .ne (.str s) (.str t) h Q:=yN qM q
theorem qN {a b:Int}:veq h (.int a) (.int b)=some (a==b):=by
 show some (a==b)=_;rfl
theorem zsy {a b:Int} (q:Q (.bool (a==b)) h):WC .eq (.int a) (.int b) h Q:=zfT qN q
theorem zsr {a b:Int} (q:Q (.bool (!(a==b))) h):WC .ne (.int a) (.int b) h Q:=yN qN q
theorem zsw {x:Nat}{t:List Nat} (q:Q (.bool (t.contains x)) h):WC .isin (.str [x]) (.str t) h Q:=zjb (r:=t.contains x) rfl q
theorem zrS {x:Nat}{t:List Nat} (q:Q (.bool (!t.contains x)) h):WC .notin (.str [x]) (.str t) h Q:=zbo (r:=t.contains x) rfl q
theorem zwI {r:Bool}{A B:Prop} (q:Br r B A):Br (!r) A B:=by
 cases r with
 |false=>exact za7 (q.2 rfl)
 |true=>exact zfB (q.1 rfl)
theorem zsd {s:List Nat}{Q:Bool->Prop} (q:Q (!s.isEmpty)):WT (.str s) h Q:=⟨q⟩
theorem zrM {a:Nat}{vs:List Val}{Q:Bool->Prop} (ha:h[a]?=some (.list vs)) (q:Q (!vs.isEmpty)):WT (.ref a) h Q:=zi0 (by
 show (aI h (.ref a)).map _=_;rw [b7 ha];rfl) q
theorem zwD {s:List Nat}:bW h (.str s)=some (.sq s):=rfl
theorem zwC {vs:List Val}:bW h (.tup vs)=some (.tp vs):=rfl
theorem zrJ {s:List Nat} (q:Q (.int s.length) h):WV c (.bi wJ) [.str s] h Q:=qL rfl q
theorem zrK {a:Nat}{vs:List Val} (ha:h[a]?=some (.list vs)) (q:Q (.int vs.length) h):WV c (.bi wJ) [.ref a] h Q:=qL (zh9 ha) q
theorem zrL {a:Nat}{ep:Option Nat}{es:List (Val×Val)} (ha:h[a]?=some (.dict ep es)) (q:Q (.int es.length) h):WV c (.bi wJ) [.ref a] h Q:=qL (zia ha) q
end
end Internal
namespace Internal
section
variable {c:Cx}{fr:Frame}{h:MH}{Q:Val->MH->Prop}
theorem zi7 {elt it:Ex}{x:Nat}{a:Nat}{vs:List Val} (T:Nat->Val->MH->Prop) (hf:vs.length<c.fuel) (hl:vs.length<=lim) (hT: ∀i y t s,T i y t->T i y (t++s))
  (q:WE c fr it h λv h1=>v= .ref a/\h1[a]?=some (.list vs)/\
   (∀i v,vs[i]?=some v-> ∀acc t,WE c (fr.set x (some v)) elt (h1++ .list acc::t) λy h3=> ∃s,h3=h1++ .list acc::(t++s)/\T i y (t++s))/\
   ∀ys t,ys.length=vs.length->(∀ (i:Nat) (y:Val),ys[i]?=some y->T i y t) ->Q (.ref h1.length) (h1++ .list ys::t)):WE c fr (.comp elt [x] false it []) h Q:=by
 refine lJ (W.mono q λv h1 q=>?_);obtain rfl:=q.1;have h1a:=q.2.1;have st:=q.2.2.1;have q:=q.2.2.2;refine ⟨.ls a,vs,iY h1a,hf,λi hh=> ∃ys t,hh=h1++ .list ys::t/\ys.length=i/\∀ (j:Nat) (y:Val),ys[j]?=some y->T j y t,⟨[],[],rfl,rfl,λj y hy=>nomatch hy⟩,?_,?_,?_⟩
 ·rintro i hh ⟨ys,t,rfl,_,_⟩;exact iR (rO h1a)
 ·rintro i v hv hh ⟨ys,t,rfl,rfl,hy⟩
  refine qJ (yK (za7 (W.mono (st _ v hv ys t) λy h3 q=>?_)));obtain ⟨s,rfl,ht⟩:=q;have hi:=jK hv;refine ⟨ys,i0,Qn hi hl,ys++ [y],t++s,lM,by rw [QG];rfl,λj z hz=>?_⟩;by_cases hj:j<ys.length
  ·rw [Q0 hj] at hz
   exact hT _ _ _ _ (hy j z hz)
  ·have hjl:=jK hz
   rw [QG,List.length_singleton] at hjl
   have:j=ys.length:=JJ (Jm hjl) (Jt hj)
   subst this;rw [Ju (Qo _),ZM] at hz;cases hz;exact ht
 ·rintro hh ⟨ys,t,rfl,hl,hy⟩;exact q ys t hl hy
theorem zi9 {elt it:Ex}{x:Nat}{a:Nat}{vs:List Val} (J:MH->List Val->MH->Prop) (hf:vs.length<c.fuel) (hl:vs.length<=lim)
  (q:WE c fr it h λv h1=>v= .ref a/\h1[a]?=some (.list vs)/\J h1 [] []/\
   (∀ys t v,J h1 ys t->vs[ys.length]?=some v->WE c (fr.set x (some v)) elt (h1++ .list ys::t) λy h3=> ∃s,h3=h1++ .list ys::(t++s)/\J h1 (ys++ [y]) (t++s))/\
   ∀ys t,ys.length=vs.length->J h1 ys t->Q (.ref h1.length) (h1++ .list ys::t)):WE c fr (.comp elt [x] false it []) h Q:=by
 refine lJ (W.mono q λv h1 q=>?_);obtain ⟨rfl,h1a,j0,st,q⟩:=q;refine ⟨.ls a,vs,iY h1a,hf,λi hh=> ∃ys t,hh=h1++ .list ys::t/\ys.length=i/\J h1 ys t,⟨[],[],rfl,rfl,j0⟩,?_,?_,?_⟩
 ·rintro i hh ⟨ys,t,rfl,_,_⟩;exact iR (rO h1a)
 ·rintro i v hv hh ⟨ys,t,rfl,rfl,hy⟩
  refine qJ (yK (za7 (W.mono (st ys t v hy hv) λy h3 q=>?_)));obtain ⟨s,rfl,ht⟩:=q;have hi:=jK hv;exact ⟨ys,i0,Qn hi hl,ys++ [y],t++s,lM,by rw [QG];rfl,ht⟩
 ·rintro hh ⟨ys,t,rfl,hl,hy⟩;exact q ys t hl hy
def zaw (p:Nat->Bool) (n:Nat):List Nat:=(ZK n).filter p
theorem p7 {p:Nat->Bool}{n:Nat}:zaw p (n+1)=zaw p n++(bif p n then [n] else []):=by
 unfold zaw;rw [List.range_succ,Ke];cases hb:p n<;>simp [hb]
theorem zcf {p:Nat->Bool}{n:Nat}:(zaw p n).length<=n:=by
 have:=ZU p (ZK n)
 rwa [Zt] at this
def iVs (l:List Nat):List Val:=l.map λ(k:Nat)=>Val.int (k:Int)
theorem zja {it:Ex}{x n:Nat}{ifs:List Ex} (p:Nat->Bool) (hf:n<c.fuel) (hl:n<=lim)
  (q:WE c fr it h λv h1=>v= .rng n/\(∀i,i<n-> ∀acc,WTs c (fr.set x (some (.int i))) ifs (h1++ [.list acc]) λb h2=>h2=h1++ [.list acc]/\b=p i)/\(∀i:Nat,(fr.set x (some (.int (i:Int))))[x]?=some (some (.int (i:Int))))/\Q (.ref h1.length) (h1++ [.list (iVs (zaw p n))])):WE c fr (.comp (.var x) [x] false it ifs) h Q:=by
 refine lJ (W.mono q λv h1 q=>?_);obtain ⟨rfl,st,hx,q⟩:=q;refine ⟨.rg n,s7 n,zcX hl,by rw [dK];exact hf,λi hh=>i<=n/\hh=h1++ [.list (iVs (zaw p i))],⟨QO _,rfl⟩,?_,?_,?_⟩
 ·rintro i hh ⟨hi,_⟩;exact zco hi
 ·rintro i v hv hh ⟨_,rfl⟩
  obtain ⟨hi,rfl⟩:=y0 hv;refine qJ (W.mono (st i hi _) λb h2 q=>?_);obtain ⟨rfl,rfl⟩:=q;refine br (λhb=>zbm (hx i) ⟨_,i0,?_,hi,?_⟩) (λhb=>⟨hi,?_⟩)
  ·unfold iVs
   rw [Qz]
   have:=zcf (p:=p) (n:=i)
   exact Qn (QU this hi) hl
  ·rw [lM,p7,hb]
   unfold iVs;rw [QF];rfl
  ·rw [p7,hb,cond_false,Jn]
 ·rintro hh ⟨_,rfl⟩
  rw [dK];exact q
end
end Internal
namespace Internal
section
variable {c:Cx}{fr:Frame}{h:MH}{R:Fl->Frame->MH->Prop}{σ:Type}
structure Inv (F:σ->Frame) (G:σ->MH) (P:σ->Prop) (fr:Frame) (h:MH):Prop where
 x: ∃s,fr=F s/\h=G s/\P s
theorem Inv.of {F:σ->Frame}{G:σ->MH}{P:σ->Prop} (s:σ) (hp:P s):Inv F G P (F s) (G s):=⟨s,rfl,rfl,hp⟩
structure To (F:σ->Frame) (G:σ->MH) (P:σ->Prop) (R R':Fl->Frame->MH->Prop):Prop where
 nx: ∀s,P s->R' .nx (F s) (G s)
 ct: ∀s,P s->R' .ct (F s) (G s)
 bk: ∀fr h,R .nx fr h->R' .bk fr h
 rt: ∀v fr h,R (.rt v) fr h->R' (.rt v) fr h
theorem yQ {F:σ->Frame}{G:σ->MH}{P:σ->Prop}:To F G P R (nV (Inv F G P) R):=⟨λs hp=>Inv.of s hp,λs hp=>Inv.of s hp,λ_ _ h=>h,λ_ _ _ h=>h⟩
theorem zbh {tg:List Nat}{many:Bool}{a:Nat}{e:Ex}{b:List Sm}{vs:List Val} (F:σ->Frame) (G:σ->MH) (P:Nat->σ->Prop) (hn:vs.length<c.fuel) (s0:σ)
  (hk: ∀i s,P i s->(G s)[a]?=some (.list vs)) (q:WE c fr e h λv h1=>v= .ref a/\fr=F s0/\h1=G s0/\P 0 s0)
  (step: ∀i v s R',vs[i]?=some v->P i s->To F G (P (i+1)) R R'->Wo (b9 (F s) tg many v) λfr1=>WSs c b fr1 (G s) R')
  (stop: ∀s,P vs.length s->R .nx (F s) (G s)):WS c (.fo tg many e b) fr h R:=
 vG (W.mono q λv h1 q=>by
  obtain rfl:=q.1;obtain rfl:=q.2.1;obtain rfl:=q.2.2.1;refine ⟨.ls a,vs,iY (hk _ _ q.2.2.2),hn,λi=>Inv F G (P i),Inv.of s0 q.2.2.2,λi fr h hI=>?_,λi x hx fr h hI=>?_,λfr h hI=>?_⟩
  ·obtain ⟨s,rfl,rfl,hp⟩:=hI.x
   exact iR (hk i s hp)
  ·refine hI.x.elim λs zq5=>?_
   obtain rfl:=zq5.1;obtain rfl:=zq5.2.1;exact step i x s _ hx zq5.2.2 yQ
  ·obtain ⟨s,rfl,rfl,hp⟩:=hI.x
   exact stop s hp)
theorem zbg {x n:Nat}{e:Ex}{b:List Sm} (F:σ->Frame) (G:σ->MH) (P:Nat->σ->Prop) (hn:n<c.fuel) (hl:n<=lim) (s0:σ)
  (q:WE c fr e h λv h1=>v= .rng n/\fr=F s0/\h1=G s0/\P 0 s0)
  (step: ∀i s R',i<n->P i s->To F G (P (i+1)) R R'->WSs c b ((F s).set x (some (.int i))) (G s) R')
  (stop: ∀s,P n s->R .nx (F s) (G s)):WS c (.fo [x] false e b) fr h R:=
 zdQ hn hl (λi=>Inv F G (P i)) (W.mono q λv h1 q=>⟨q.1,by rw [q.2.1,q.2.2.1];exact Inv.of s0 q.2.2.2⟩) (λi hi fr h hI=>by
  obtain ⟨s,rfl,rfl,hp⟩:=hI.x;exact step i s _ hi hp yQ) λfr h hI=>by
  obtain ⟨s,rfl,rfl,hp⟩:=hI.x;exact stop s hp
theorem zsh {t:Ex}{b:List Sm}{k:Nat} (F:σ->Frame) (G:σ->MH) (P:Nat->σ->Prop) (hk:k<c.fuel) (s0:σ) (e1:fr=F s0) (e2:h=G s0) (I0:P k s0)
  (step: ∀k s R',P k s->To F G (λs=> ∃j,j<k/\P j s) R R'->WE c (F s) t (G s) λv h1=>WT v h1 λr=>Br r (WSs c b (F s) h1 R') (R .nx (F s) h1)):WS c (.wh t b) fr h R:=by
 subst e1;subst e2;refine zi1 (λk=>Inv F G (P k)) hk (Inv.of s0 I0) λk fr h hI=>?_;refine hI.x.elim λs zq1=>?_;obtain rfl:=zq1.1;obtain rfl:=zq1.2.1;have hp:=zq1.2.2;exact step k s _ hp ⟨λs hp=>⟨hp.choose,hp.choose_spec.1,Inv.of s hp.choose_spec.2⟩,λs hp=>⟨hp.choose,hp.choose_spec.1,Inv.of s hp.choose_spec.2⟩,λ_ _ h=>h,λ_ _ _ h=>h⟩
end
end Internal
namespace Internal
set_option genCtorIdx false in
inductive Hs where
 |nil
 |c (t:Hs)
 |v (v:Val) (t:Hs)
 |p (v:Val) (h:MH) (t:Hs)
 |h (h:MH) (t:Hs)
 |b (b:Bool) (t:Hs)
 |br (x y:Hs)
 |s (fl:Fl) (fr:Frame) (h:MH) (t:Hs)
 |l (vs:List Val) (t:Hs)
structure aN {α:Type} (a:α):Prop where
 f:False
def now {α:Type} (o:Option α) (k:α->Prop):Prop:=Qc (motive:=λ_=>Prop) o (aN o) k
section
variable {α:Type} (o:Option α) (hs:Hs)
def zfH (o:Option Val) (hs:Hs) (k:Val->Hs->Prop):Prop:=
 Hs.casesOn (motive:=λ_=>Prop) hs (aN o) (λt=>now o λv=>k v t) (λv t=>o=some v/\k v t) (λ_ _ _=>aN o) (λ_ _=>aN o) (λ_ _=>aN o) (λ_ _=>aN o) (λ_ _ _ _=>aN o) (λ_ _=>aN o)
def u7 (o:Option (Val×MH)) (hs:Hs) (k:Val->MH->Hs->Prop):Prop:=
 Hs.casesOn (motive:=λ_=>Prop) hs (aN o) (λt=>now o λv=>k v.1 v.2 t) (λ_ _=>aN o) (λv h t=>o=some (v,h)/\k v h t) (λ_ _=>aN o) (λ_ _=>aN o) (λ_ _=>aN o) (λ_ _ _ _=>aN o) (λ_ _=>aN o)
def zfJ (o:Option MH) (hs:Hs) (k:MH->Hs->Prop):Prop:=
 Hs.casesOn (motive:=λ_=>Prop) hs (aN o) (λt=>now o λv=>k v t) (λ_ _=>aN o) (λ_ _ _=>aN o) (λh t=>o=some h/\k h t) (λ_ _=>aN o) (λ_ _=>aN o) (λ_ _ _ _=>aN o) (λ_ _=>aN o)
def yC (o:Option Bool) (hs:Hs) (k:Bool->Hs->Prop):Prop:=
 Hs.casesOn (motive:=λ_=>Prop) hs (aN o) (λt=>now o λv=>k v t) (λ_ _=>aN o) (λ_ _ _=>aN o) (λ_ _=>aN o) (λb t=>o=some b/\k b t) (λx y=>now o λr=>(r=true->k true x)/\(r=false->k false y)) (λ_ _ _ _=>aN o) (λ_ _=>aN o)
def zfI (o:SR) (hs:Hs) (k:Fl->Frame->MH->Hs->Prop):Prop:=
 Hs.casesOn (motive:=λ_=>Prop) hs (aN o) (λt=>now o λv=>k v.1.1 v.1.2 v.2 t) (λ_ _=>aN o) (λ_ _ _=>aN o) (λ_ _=>aN o) (λ_ _=>aN o) (λ_ _=>aN o) (λfl fr h t=>o=some ((fl,fr),h)/\k fl fr h t) (λ_ _=>aN o)
def zrs (o:Option (List Val)) (hs:Hs) (k:List Val->Hs->Prop):Prop:=
 Hs.casesOn (motive:=λ_=>Prop) hs (aN o) (λt=>now o λv=>k v t) (λ_ _=>aN o) (λ_ _ _=>aN o) (λ_ _=>aN o) (λ_ _=>aN o) (λ_ _=>aN o) (λ_ _ _ _=>aN o) (λvs t=>o=some vs/\k vs t)
end
theorem gU {α:Type}{o:Option α}{k:α->Prop} (q:now o k): ∃v,o=some v/\k v:=by
 cases o with
 |none=>exact q.f.elim
 |some v=>exact ⟨v,rfl,q⟩
theorem ziA {o:Option Val}{hs:Hs}{k:Val->Hs->Prop} (q:zfH o hs k): ∃v t,o=some v/\k v t:=by
 cases hs with
 |c t=>exact (gU q).elim λv q=>⟨v,t,q⟩
 |v v t=>exact ⟨v,t,q⟩
 |_=>exact q.f.elim
theorem ziC {o:Option (Val×MH)}{hs:Hs}{k:Val->MH->Hs->Prop} (q:u7 o hs k): ∃v h t,o=some (v,h)/\k v h t:=by
 cases hs with
 |c t=>exact (gU q).elim λv q=>⟨v.1,v.2,t,q⟩
 |p v h t=>exact ⟨v,h,t,q⟩
 |_=>exact q.f.elim
theorem ziE {o:Option MH}{hs:Hs}{k:MH->Hs->Prop} (q:zfJ o hs k): ∃h t,o=some h/\k h t:=by
 cases hs with
 |c t=>exact (gU q).elim λv q=>⟨v,t,q⟩
 |h h t=>exact ⟨h,t,q⟩
 |_=>exact q.f.elim
theorem ziF {o:Option Bool}{hs:Hs}{k:Bool->Hs->Prop} (q:yC o hs k): ∃b t,o=some b/\k b t:=by
 cases hs with
 |c t=>exact (gU q).elim λv q=>⟨v,t,q⟩
 |b b t=>exact ⟨b,t,q⟩
 |br x y=>
  refine (gU q).elim λr q=>⟨r,cond r x y,q.1,?_⟩;cases r with
  |true=>exact q.2.1 rfl
  |false=>exact q.2.2 rfl
 |_=>exact q.f.elim
theorem ziB {o:SR}{hs:Hs}{k:Fl->Frame->MH->Hs->Prop} (q:zfI o hs k): ∃fl fr h t,o=some ((fl,fr),h)/\k fl fr h t:=by
 cases hs with
 |c t=>exact (gU q).elim λv q=>⟨v.1.1,v.1.2,v.2,t,q⟩
 |s fl fr h t=>exact ⟨fl,fr,h,t,q⟩
 |_=>exact q.f.elim
theorem ziD {o:Option (List Val)}{hs:Hs}{k:List Val->Hs->Prop} (q:zrs o hs k): ∃vs t,o=some vs/\k vs t:=by
 cases hs with
 |c t=>exact (gU q).elim λv q=>⟨v,t,q⟩
 |l vs t=>exact ⟨vs,t,q⟩
 |_=>exact q.f.elim
mutual
noncomputable def bH (c:Cx):Ex->Frame->MH->Hs->(Val->MH->Hs->Prop) ->Prop
 | .var x,fr,h,hs,K=>now fr[x]? λo=>now o λv=>K v h hs
 | .lit v,_,h,hs,K=>K v h hs
 | .list es,fr,h,hs,K=>fP c es fr h hs λvs h1 hs=>K (.ref h1.length) (h1++ [.list vs]) hs
 | .tup es,fr,h,hs,K=>fP c es fr h hs λvs h1 hs=>K (.tup vs) h1 hs
 | .dict es,fr,h,hs,K=>fP c es fr h hs λl h1 hs=>u7 ((d8 l []).bind λps=>grd (Qg es.length 30) (aS h1 (.dict (some ps.length) ps))) hs K
 | .bin op a b,fr,h,hs,K=>bH c a fr h hs λx h1 hs=>bH c b fr h1 hs λy h2 hs=>u7 (eJ op x y h2) hs K
 | .not a,fr,h,hs,K=>bH c a fr h hs λx h1 hs=>yC (truthy h1 x) hs λb hs=>K (.bool (!b)) h1 hs
 | .cmp op a b,fr,h,hs,K=>bH c a fr h hs λx h1 hs=>bH c b fr h1 hs λy h2 hs=>yC (jD op x y h2) hs λr hs=>K (.bool r) h2 hs
 | .bop stop es,fr,h,hs,K=>xT c stop es fr h hs K
 | .ite t a b,fr,h,hs,K=>bH c t fr h hs λx h1 hs=>yC (truthy h1 x) hs λr hs=>bif r then bH c a fr h1 hs K else bH c b fr h1 hs K
 | .attr e n,fr,h,hs,K=>bH c e fr h hs λo h1 hs=>zfH (getAttr c.P h1 o n) hs λv hs=>K v h1 hs
 | .sub e i,fr,h,hs,K=>bH c e fr h hs λo h1 hs=>bH c i fr h1 hs λk h2 hs=>zfH (dG h2 o k) hs λv hs=>K v h2 hs
 | .slice e k bs,fr,h,hs,K=>bH c e fr h hs λo h1 hs=>fP c bs fr h1 hs λvs h2 hs=>u7 (slice h2 o k vs) hs K
 | .call f as,fr,h,hs,K=>bH c f fr h hs λg h1 hs=>fP c as fr h1 hs λvs h2 hs=>u7 (gY c g vs h2) hs K
 | .meth o n as,fr,h,hs,K=>bH c o fr h hs λg h1 hs=>fP c as fr h1 hs λvs h2 hs=>u7 (uX c g n vs h1 h2) hs K
 | .comp elt tg many it ifs,fr,h,hs,K=>u7 (eval c (.comp elt tg many it ifs) fr h) hs K
noncomputable def fP (c:Cx):List Ex->Frame->MH->Hs->(List Val->MH->Hs->Prop) ->Prop
 | [],_,h,hs,K=>K [] h hs
 |e::r,fr,h,hs,K=>bH c e fr h hs λv h1 hs=>fP c r fr h1 hs λvs h2 hs=>K (v::vs) h2 hs
noncomputable def xT (c:Cx) (stop:Bool):List Ex->Frame->MH->Hs->(Val->MH->Hs->Prop) ->Prop
 | [],_,_,_,_=>False
 |e::r,fr,h,hs,K=>bH c e fr h hs λv h1 hs=>bif r.isEmpty then K v h1 hs else yC (truthy h1 v) hs λb hs=>bif b==stop then K v h1 hs else xT c stop r fr h1 hs K
end
def vU (c:Cx) (fr:Frame) (h:MH) (v:Val) (hs:Hs) (K:Frame->MH->Hs->Prop):T1->Prop
 | .nm x=>K (fr.set x (some v)) h hs
 | .at o n=>bH c o fr h hs λov h1 hs=>zfJ (setAttr c.P h1 ov n v) hs λh2 hs=>K fr h2 hs
 | .sb o i=>bH c o fr h hs λov h1 hs=>bH c i fr h1 hs λiv h2 hs=>zfJ (bV h2 ov iv v) hs λh3 hs=>K fr h3 hs
def qP (c:Cx):List T1->List Val->Frame->MH->Hs->(Frame->MH->Hs->Prop) ->Prop
 | [],vs,fr,h,hs,K=>bif vs.isEmpty then K fr h hs else False
 |t::ts,vs,fr,h,hs,K=>now vs.head? λv=>vU c fr h v hs (λfr' h' hs=>qP c ts vs.tail fr' h' hs K) t
mutual
noncomputable def zgf (c:Cx):Sm->Frame->MH->Hs->(Fl->Frame->MH->Hs->Prop) ->Prop
 | .expr e,fr,h,hs,K=>bH c e fr h hs λ_ h1 hs=>K .nx fr h1 hs
 | .asg t e,fr,h,hs,K=>bH c e fr h hs λv h1 hs=>vU c fr h1 v hs (λfr' h2 hs=>K .nx fr' h2 hs) t
 | .asgs ts e,fr,h,hs,K=>bH c e fr h hs λv h1 hs=>zrs (items h1 v) hs λvs hs=>qP c ts vs fr h1 hs λfr' h2 hs=>K .nx fr' h2 hs
 | .ret e,fr,h,hs,K=>bH c e fr h hs λv h1 hs=>K (.rt v) fr h1 hs
 | .ite t a b,fr,h,hs,K=>bH c t fr h hs λx h1 hs=>yC (truthy h1 x) hs λr hs=>bif r then jX c a fr h1 hs K else jX c b fr h1 hs K
 | .wh t b,fr,h,hs,K=>zfI (exec c (.wh t b) fr h) hs K
 | .fo tg many e b,fr,h,hs,K=>zfI (exec c (.fo tg many e b) fr h) hs K
 | .brk,fr,h,hs,K=>K .bk fr h hs
 | .cont,fr,h,hs,K=>K .ct fr h hs
 | .pass,fr,h,hs,K=>K .nx fr h hs
 | .raise,_,_,_,_=>False
 | .rse _,_,_,_,_=>False
 | .tr _ _ _ _,_,_,_,_=>False
noncomputable def jX (c:Cx):List Sm->Frame->MH->Hs->(Fl->Frame->MH->Hs->Prop) ->Prop
 | [],fr,h,hs,K=>K .nx fr h hs
 |s::r,fr,h,hs,K=>zgf c s fr h hs λfl fr1 h1 hs=>Fl.casesOn (motive:=λ_=>Prop) fl (jX c r fr1 h1 hs K) (K fl fr1 h1 hs) (K fl fr1 h1 hs) (λ_=>K fl fr1 h1 hs)
end
abbrev Ev {α:Type} (K:α->MH->Hs->Prop) (v:α) (h:MH):Prop:= ∃t,K v h t
theorem kD {o:Option (Val×MH)}{hs:Hs}{k:Val->MH->Hs->Prop} (q:u7 o hs k):W o (Ev k):=let ⟨_,_,t,e,q⟩:=ziC q; .of e ⟨t,q⟩
theorem zdA {o:Option Val}{hs:Hs}{k:Val->Hs->Prop} (q:zfH o hs k):Wo o λv=> ∃t,k v t:=let ⟨_,t,e,q⟩:=ziA q; .of e ⟨t,q⟩
theorem zdC {o:Option MH}{hs:Hs}{k:MH->Hs->Prop} (q:zfJ o hs k):Wo o λv=> ∃t,k v t:=let ⟨_,t,e,q⟩:=ziE q; .of e ⟨t,q⟩
theorem nS {o:Option Bool}{hs:Hs}{k:Bool->Hs->Prop} (q:yC o hs k):Wo o λv=> ∃t,k v t:=let ⟨_,t,e,q⟩:=ziF q; .of e ⟨t,q⟩
theorem zix {r:Bool}{A B A' B':Prop} (a:A->A') (b:B->B') (q:cond r A B):Br r A' B':=by
 cases r with
 |true=>exact za7 (a q)
 |false=>exact zfB (b q)
structure HE (c:Cx) (e:Ex):Prop where
 o: ∀ {fr h hs K},bH c e fr h hs K->W (eval c e fr h) (Ev K)
structure HEs (c:Cx) (es:List Ex):Prop where
 o: ∀ {fr h hs K},fP c es fr h hs K->W (dE c es fr h) (Ev K)
 b: ∀ {stop fr h hs K},xT c stop es fr h hs K->WE c fr (.bop stop es) h (Ev K)
section
variable {c:Cx}
theorem cY (e:Ex):HE c e:=by
 refine Ex.rec (motive_1:=HE c) (motive_2:=HEs c) ?_ ?_ ?_ ?_ ?_ ?_ ?_ ?_ ?_ ?_ ?_ ?_ ?_ ?_ ?_ ?_ ?_ ?_ e
 ·exact λx=>⟨λq=>let ⟨o,e1,q⟩:=gU q;let ⟨v,e2,q⟩:=gU q;zbm (e1.trans (congrArg some e2)) ⟨_,q⟩⟩
 ·exact λv=>⟨λq=>zgD ⟨_,q⟩⟩
 ·exact λes i=>⟨λq=>zd0 ((i.o q).mono λ_ _ q=>q)⟩
 ·exact λes i=>⟨λq=>zgA ((i.o q).mono λ_ _ q=>q)⟩
 ·exact λes i=>⟨λq=>w_bnd ((i.o q).mono λ_ _ q=>q.elim λ_ q=>kD q)⟩
 ·exact λop a b i j=>⟨λq=>zgG ((i.o q).mono λ_ _ q=>q.elim λ_ q=>(j.o q).mono λ_ _ q=>q.elim λ_ q=>kD q)⟩
 ·exact λa i=>⟨λq=>zgC ((i.o q).mono λ_ _ q=>q.elim λ_ q=>nS q)⟩
 ·exact λop a b i j=>⟨λq=>zgF ((i.o q).mono λ_ _ q=>q.elim λ_ q=>(j.o q).mono λ_ _ q=>q.elim λ_ q=>nS q)⟩
 ·exact λst es i=>⟨λq=>i.b q⟩
 ·exact λt a b i j k=>⟨λq=>zgE ((i.o q).mono λ_ _ q=>q.elim λ_ q=>(nS q).mono λr q=>q.elim λ_ q=>zix j.o k.o q)⟩
 ·exact λa n i=>⟨λq=>zd3 ((i.o q).mono λ_ _ q=>q.elim λ_ q=>zdA q)⟩
 ·exact λa b i j=>⟨λq=>zgB ((i.o q).mono λ_ _ q=>q.elim λ_ q=>(j.o q).mono λ_ _ q=>q.elim λ_ q=>zdA q)⟩
 ·exact λa k bs i j=>⟨λq=>zbn ((i.o q).mono λ_ _ q=>q.elim λ_ q=>(j.o q).mono λ_ _ q=>q.elim λ_ q=>kD q)⟩
 ·exact λf as i j=>⟨λq=>zd1 ((i.o q).mono λ_ _ q=>q.elim λ_ q=>(j.o q).mono λ_ _ q=>q.elim λ_ q=>kD q)⟩
 ·exact λo n as i j=>⟨λq=>zdZ ((i.o q).mono λ_ _ q=>q.elim λ_ q=>(j.o q).mono λ_ _ q=>q.elim λ_ q=>kD q)⟩
 ·exact λelt tg many it ifs _ _ _=>⟨λq=>kD q⟩
 ·exact ⟨λq=>zdY ⟨_,q⟩,λq=>q.elim⟩
 ·refine λe r i j=>⟨λq=>zbl ((i.o q).mono λ_ _ q=>q.elim λ_ q=>(j.o q).mono λ_ _ q=>q),λ{st fr h hs K} q=>?_⟩
  cases r with
  |nil=>exact zd2 (i.o q)
  |cons f r=>exact vL ((i.o q).mono λ_ _ q=>q.elim λ_ q=>(nS q).mono λb q=>q.elim λ_ q=>zix (λq=>⟨_,q⟩) j.b q)
theorem sN {fr:Frame}{h:MH}{v:Val}{hs:Hs}{K:Frame->MH->Hs->Prop}{t:T1} (q:vU c fr h v hs K t):W (iL c fr h v t) (Ev K):=by
 cases t with
 |nm x=>exact a6 (a:=fr.set x (some v)) ⟨_,q⟩
 | «at» o n=>
  show W (bnd (eval c o fr h) λov h1=>(setAttr c.P h1 ov n v).map λh2=>(fr,h2)) _;exact w_bnd (((cY o).o q).mono λov h1 q=>q.elim λ_ q=>gS (f:=λh2=>(fr,h2)) (zdC q))
 |sb o i=>
  show W (bnd (eval c o fr h) λov h1=>bnd (eval c i fr h1) λiv h2=>(bV h2 ov iv v).map λh3=>(fr,h3)) _;exact w_bnd (((cY o).o q).mono λov h1 q=>q.elim λ_ q=>w_bnd (((cY i).o q).mono λiv h2 q=>q.elim λ_ q=>gS (f:=λh2=>(fr,h2)) (zdC q)))
theorem z3 {ts:List T1}: ∀ {vs:List Val}{fr:Frame}{h:MH}{hs:Hs}{K:Frame->MH->Hs->Prop} (q:qP c ts vs fr h hs K),WSt c ts vs fr h (Ev K):=by
 induction ts with
 |nil=>
  intro vs fr h hs K q;cases vs with
  |nil=>exact a6 (a:=fr) ⟨_,q⟩
  |cons _ _=>exact q.elim
 |cons t ts i=>
  intro vs fr h hs K q;refine (gU q).elim λv zq2=>?_;have q:=zq2.2;show W (vs.head?.bind λv=>bnd (iL c fr h v t) λfr' h'=>bN c ts vs.tail fr' h') _;exact gR (Wo.of zq2.1 (w_bnd ((sN q).mono λ_ _ q=>q.elim λ_ q=>i q)))
abbrev Ex' (K:Fl->Frame->MH->Hs->Prop) (fl:Fl) (fr:Frame) (h:MH):Prop:= ∃t,K fl fr h t
structure HX (c:Cx) (s:Sm):Prop where
 o: ∀ {fr h hs K},zgf c s fr h hs K->WS c s fr h (Ex' K)
structure HXs (c:Cx) (s:List Sm):Prop where
 o: ∀ {fr h hs K},jX c s fr h hs K->WSs c s fr h (Ex' K)
theorem zdB {o:SR}{hs:Hs}{k:Fl->Frame->MH->Hs->Prop} (q:zfI o hs k):W o λp h=>Ex' k p.1 p.2 h:=let ⟨_,_,_,t,e,q⟩:=ziB q; .of e ⟨t,q⟩
theorem zdU {t:T1}{e:Ex}{fr:Frame}{h:MH}{R:Fl->Frame->MH->Prop} (q:WE c fr e h λv h1=>W (iL c fr h1 v t) λf2 h2=>R .nx f2 h2):WS c (.asg t e) fr h R:=by
 show W (bnd (eval c e fr h) λv h1=>bnd (iL c fr h1 v t) λfr' h2=>some ((Fl.nx,fr'),h2)) λp h=>R p.1 p.2 h;exact w_bnd (W.mono q λv h1 q=>w_bnd (W.mono q λ_ _ q=>⟨q⟩))
theorem zdj (s:List Sm):HXs c s:=by
 refine Sm.rec_1 (motive_1:=HX c) (motive_2:=HXs c) ?_ ?_ ?_ ?_ ?_ ?_ ?_ ?_ ?_ ?_ ?_ ?_ ?_ ?_ ?_ s
 ·exact λe=>⟨λq=>zdR ((cY e).o q)⟩
 ·exact λt e=>⟨λq=>zdU (((cY e).o q).mono λ_ _ q=>q.elim λ_ q=>sN q)⟩
 ·exact λts e=>⟨λq=>zdT (((cY e).o q).mono λ_ _ q=>q.elim λ_ q=>let ⟨_,_,e2,q⟩:=ziD q; .of e2 (z3 q))⟩
 ·exact λe=>⟨λq=>zgw ((cY e).o q)⟩
 ·exact λt a b j k=>⟨λq=>zgx (((cY t).o q).mono λ_ _ q=>q.elim λ_ q=>(nS q).mono λr q=>q.elim λ_ q=>zix j.o k.o q)⟩
 ·exact λt b _=>⟨λq=>zdB q⟩
 ·exact λtg many e b _=>⟨λq=>zdB q⟩
 ·exact ⟨λq=>zgy ⟨_,q⟩⟩
 ·exact ⟨λq=>zdS ⟨_,q⟩⟩
 ·exact ⟨λq=>zdP ⟨_,q⟩⟩
 ·exact ⟨λq=>q.elim⟩
 ·exact λ_=>⟨λq=>q.elim⟩
 ·exact λ_ _ _ _=>⟨λq=>q.elim⟩
 ·exact ⟨λq=>zdN ⟨_,q⟩⟩
 ·exact λs r i j=>⟨λq=>zbf ((i.o q).mono λp _ q=>by
   obtain ⟨fl,fr⟩:=p;obtain ⟨t,q⟩:=q;cases fl with
   |nx=>exact j.o q
   |bk=>exact ⟨_,q⟩
   |ct=>exact ⟨_,q⟩
   |rt v=>exact ⟨_,q⟩)⟩
end
structure S (h:MH) (hs:Hs) (p:Prop):Prop where
 o:p
section
variable {g g':MH}{hs ht:Hs}{pr pq:Prop}
theorem S.z (f:pr):S g .nil pr:=⟨f⟩
theorem S.at (g':MH) (r:S g' hs pr):S g hs pr:=⟨r.o⟩
theorem S.c (r:S g hs pr):S g (.c hs) pr:=⟨r.o⟩
theorem S.c2 (r:S g hs pr):S g (.c (.c hs)) pr:=⟨r.o⟩
theorem S.c3 (r:S g hs pr):S g (.c (.c (.c hs))) pr:=⟨r.o⟩
theorem S.c4 (r:S g hs pr):S g (.c (.c (.c (.c hs)))) pr:=⟨r.o⟩
theorem S.v {o:Option Val}{v:Val} (f:o=some v) (r:S g hs pr):S g (.v v hs) (o=some v/\pr):=⟨f,r.o⟩
theorem S.w {o:MH->Option Val}{v:Val} (f: ∀h,o h=some v) (r:S g hs pr):S g (.v v hs) (o g=some v/\pr):=⟨f g,r.o⟩
theorem S.p {o:Option (Val×MH)}{v:Val} (f:o=some (v,g')) (r:S g' hs pr):S g (.p v g' hs) (o=some (v,g')/\pr):=⟨f,r.o⟩
theorem S.q {o:MH->Option (Val×MH)}{v:Val} (f: ∀h,o h=some (v,h)) (r:S g hs pr):S g (.p v g hs) (o g=some (v,g)/\pr):=⟨f g,r.o⟩
theorem S.h {o:Option MH} (f:o=some g') (r:S g' hs pr):S g (.h g' hs) (o=some g'/\pr):=⟨f,r.o⟩
theorem S.b {o:Option Bool}{b:Bool} (f:o=some b) (r:S g hs pr):S g (.b b hs) (o=some b/\pr):=⟨f,r.o⟩
theorem S.k {o:MH->Option Bool}{b:Bool} (f: ∀h,o h=some b) (r:S g hs pr):S g (.b b hs) (o g=some b/\pr):=⟨f g,r.o⟩
theorem S.t {x:Bool} (f:x=true) (r:S g hs pr):S g (.b true hs) (some x=some true/\pr):=⟨congrArg some f,r.o⟩
theorem S.f {x:Bool} (f:x=false) (r:S g hs pr):S g (.b false hs) (some x=some false/\pr):=⟨congrArg some f,r.o⟩
theorem S.br (x:Bool) (f:x=true->S g hs pr) (h:x=false->S g ht pq):S g (.br hs ht) ((x=true->pr)/\(x=false->pq)):=⟨λe=>(f e).o,λe=>(h e).o⟩
theorem S.s {o:SR}{fl:Fl}{fr:Frame} (f:o=some ((fl,fr),g')) (r:S g' hs pr):S g (.s fl fr g' hs) (o=some ((fl,fr),g')/\pr):=⟨f,r.o⟩
theorem S.l {o:Option (List Val)}{vs:List Val} (f:o=some vs) (r:S g hs pr):S g (.l vs hs) (o=some vs/\pr):=⟨f,r.o⟩
end
section
variable {b:List Sm}{fr:Frame}{h:MH}{hs:Hs}{R:Fl->Frame->MH->Prop}{p:Prop}{P:Prg}{d:Nat}{Q:Val->MH->Prop}
theorem run {c:Cx} (s:S h hs p) (e:jX c b fr h hs (λfl fr h _=>R fl fr h)=p):WSs c b fr h R:=by
 exact ((zdj b).o (e▸s.o)).mono λ_ _ q=>q.elim λ_ q=>q
theorem zsn {K f:Nat}{fn:Fn}{as vs:List Val} (hd:K+1<=d) (hf:P.fnAt f=some fn) (ha:cJ fn as=some vs) (q: ∀d',K<=d'-> ∃hs p,S h hs p/\jX (Cxd P d') fn.body (bX fn vs) h hs (λfl fr h _=>Fin Q fl fr h)=p):WF P d f as h Q:=
 zbk hd hf ha λd' h'=>let ⟨_,_,s,e⟩:=q d' h';run s e
end
end Internal
namespace Internal
section
variable {P:Prg}{c:Cx}{h:MH}{α:Type}
theorem W.eq {o:Option (α×MH)}{v:α}{g:MH} (w:W o λa b=>a=v/\b=g):o=some (v,g):=let ⟨_,_,e,q⟩:=w.get;by obtain ⟨rfl,rfl⟩:=q;exact e
theorem Wo.eq {o:Option α}{v:α} (w:Wo o λa=>a=v):o=some v:=by
 cases o with
 |none=>exact w.w.elim
 |some p=>exact congrArg some w.w
theorem ga {a k n:Nat}{fs:List (Nat×Val)}{v:Val} (ha:h[a]?=some (.inst k fs)) (hv:cH fs n=some v) (hf:P.hasFld k n=true):getAttr P h (.ref a) n=some v:=Wo.eq (zgI ha hv hf (Q:=λa _=>a=v) rfl)
theorem sl {a i:Nat}{vs:List Val}{v:Val} (ha:h[a]?=some (.list vs)) (hv:vs[i]?=some v):dG h (.ref a) (.int i)=some v:=Wo.eq (zdW ha hv (Q:=λa _=>a=v) rfl)
theorem sd {a:Nat}{ep:Option Nat}{es:List (Val×Val)}{k v:Val} (ha:h[a]?=some (.dict ep es)) (hf:aE es k=true) (hv:bA es k=some v):dG h (.ref a) k=some v:=Wo.eq (zdX ha hf hv (Q:=λa _=>a=v) rfl)
theorem zyt {a i:Nat}{vs:List Val}{v:Val} (ha:h[a]?=some (.list vs)) (hi:i<vs.length):bV h (.ref a) (.int i) v=some (h.set a (.list (vs.set i v))):=Wo.eq (zbY ha hi rfl)
theorem zyu {a:Nat}{ep:Option Nat}{es:List (Val×Val)}{k v:Val} (ha:h[a]?=some (.dict ep es)) (hf:aE es k=true) (hl:es.length<lim):bV h (.ref a) k v=some (h.set a (.dict (bif (bA es k).isSome then ep else ep.map (· +1)) (fQ es k v))):=Wo.eq (zbZ ha hf hl rfl)
theorem zyv {a k n:Nat}{fs:List (Nat×Val)}{v:Val} (ha:h[a]?=some (.inst k fs)) (hf:P.hasFld k n=true) (hl:fs.length<400):setAttr P h (.ref a) n v=some (h.set a (.inst k (kU fs n v))):=Wo.eq (zaq ha hf hl rfl)
theorem eqs (s t:List Nat) (h:MH):veq h (.str s) (.str t)=some (s==t):=qM
theorem eqi (s t:Int) (h:MH):veq h (.int s) (.int t)=some (s==t):=qN
theorem ne_of {a b:Val}{r:Bool} (e:veq h a b=some r):jD .ne a b h=some (!r):=by
 show (veq h a b).map _=_;rw [e];rfl
theorem zyr {a b:Val}{r:Bool} (e:rL h a b=some r):jD .notin a b h=some (!r):=by
 show (rL h a b).map _=_;rw [e];rfl
theorem fn {d a:Nat}{as:List Val}{v:Val}{g:MH} (hc:P.clsAt a=none) (w:WF P d a as h λx y=>x=v/\y=g):gY (Cxd P d) (.top a) as h=some (v,g):=W.eq (ziX hc w)
theorem me {d n f:Nat}{o:Val}{self as:List Val}{h0:MH}{v:Val}{g:MH} (hg:bL P h0 o n=some (f,self)) (w:WF P d f (self++as) h λx y=>x=v/\y=g):uX (Cxd P d) o n as h0 h=some (v,g):=W.eq (zgz hg w)
theorem WF.to {d f:Nat}{as:List Val}{v:Val}{g:MH}{Q:Val->MH->Prop} (w:WF P d f as h λx y=>x=v/\y=g) (q:Q v g):WF P d f as h Q:=W.of (W.eq w) q
theorem zyw {s:List Nat}{n:Nat}{bs:List Val}{p:Nat×Nat} (e:j3 s.length n bs=some p):slice h (.str s) n bs=some (.str (cut s p.1 p.2),h):=by
 show alt ((j3 s.length n bs).bind _) _=_;rw [e];rfl
theorem WS.at {s:Sm}{fr f:Frame}{g:MH}{fl:Fl} (w:WS c s fr h λa b k=>a=fl/\b=f/\k=g):exec c s fr h=some ((fl,f),g):=by
 obtain ⟨⟨a,b⟩,k,e,q1,q2,q3⟩:=W.get w;cases q1;cases q2;cases q3;exact e
theorem zyx {e:Ex}{fr:Frame}{hs:Hs}{Q:Val->MH->Prop}{p:Prop} (s:S h hs p) (q:bH c e fr h hs (λv h _=>Q v h)=p):WE c fr e h Q:=((cY e).o (q▸s.o)).mono λ_ _ q=>q.elim λ_ q=>q
theorem two (v:Val) (g:MH):v=v/\g=g:=⟨rfl,rfl⟩
theorem foR {σ:Type}{x n:Nat}{e:Ex}{b:List Sm} (F:σ->Frame) (G:σ->MH) (P:Nat->σ->Prop) (s0:σ) (hn:n<=100000) (hc:c.fuel=200000)
  (e0:WE c (F s0) e (G s0) λv g=>v= .rng n/\g=G s0) (p0:P 0 s0)
  (step: ∀i s R' R,i<n->P i s->To F G (P (i+1)) R R'->WSs c b ((F s).set x (some (.int i))) (G s) R'): ∃s,P n s/\exec c (.fo [x] false e b) (F s0) (G s0)=some ((.nx,F s),G s):=by
 have w:WS c (.fo [x] false e b) (F s0) (G s0) λfl f g=> ∃s,P n s/\fl= .nx/\f=F s/\g=G s:=
  zbg F G P (by rw [hc];exact Qn (Zw hn) (QV _ _)) (by show n<=1000000;exact Qe hn (QV _ _)) s0 (e0.mono λv g q=>⟨q.1,rfl,q.2,p0⟩) (λi s R' hi hp T=>step i s R' _ hi hp T) λs hp=>⟨s,hp,rfl,rfl,rfl⟩
 obtain ⟨⟨fl,f⟩,g,e,s,hp,q1,q2,q3⟩:=W.get w;cases q1;cases q2;cases q3;exact ⟨s,hp,e⟩
theorem foL {σ:Type}{tg:List Nat}{many:Bool}{a:Nat}{e:Ex}{b:List Sm}{vs:List Val} (F:σ->Frame) (G:σ->MH) (P:Nat->σ->Prop) (s0:σ) (hn:vs.length<=100000) (hc:c.fuel=200000)
  (hk: ∀i s,P i s->(G s)[a]?=some (.list vs)) (e0:WE c (F s0) e (G s0) λv g=>v= .ref a/\g=G s0) (p0:P 0 s0)
  (step: ∀i v s R' R,vs[i]?=some v->P i s->To F G (P (i+1)) R R'->Wo (b9 (F s) tg many v) λfr1=>WSs c b fr1 (G s) R'): ∃s,P vs.length s/\exec c (.fo tg many e b) (F s0) (G s0)=some ((.nx,F s),G s):=by
 have w:WS c (.fo tg many e b) (F s0) (G s0) λfl f g=> ∃s,P vs.length s/\fl= .nx/\f=F s/\g=G s:=
  zbh F G P (by rw [hc];exact Qn (Zw hn) (QV _ _)) s0 hk (e0.mono λv g q=>⟨q.1,rfl,q.2,p0⟩) (λi v s R' hi hp T=>step i v s R' _ hi hp T) λs hp=>⟨s,hp,rfl,rfl,rfl⟩
 obtain ⟨⟨fl,f⟩,g,e,s,hp,q1,q2,q3⟩:=W.get w;cases q1;cases q2;cases q3;exact ⟨s,hp,e⟩
def zqx (P:Prg) (a:Nat) (as:List Val):Option (List Sm×Frame):=(P.fnAt a).bind λf=>(cJ f as).map λvs=>(f.body,bX f vs)
theorem zso {d K f:Nat}{as:List Val}{Q:Val->MH->Prop} (hd:K+1<=d) (fr:Frame) (bd:List Sm) (e:zqx P f as=some (bd,fr)) (q: ∀d',K<=d'->WSs (Cxd P d') bd fr h (Fin Q)):WF P d f as h Q:=by
 obtain ⟨fn,e1,e⟩:=Zy.mp e;obtain ⟨vs,e2,e⟩:=ZI.mp e;cases e;exact zbk hd e1 e2 q
theorem zdO {a b:List Sm}{R:Fl->Frame->MH->Prop}: ∀ {fr:Frame}{h:MH},WSs c a fr h (Beh c b R) ->WSs c (a++b) fr h R:=by
 induction a with
 |nil=>exact λq=>q.w
 |cons s a ih=>
  intro fr h q;show W (bnd (exec c s fr h) λ(p:Fl×Frame) h1=>Fl.casesOn (motive:=λ_=>SR) p.1 (execs c (a++b) p.2 h1) (some (p,h1)) (some (p,h1)) (λ_=>some (p,h1))) λp h=>R p.1 p.2 h;have q:W (bnd (exec c s fr h) λ(p:Fl×Frame) h1=>Fl.casesOn (motive:=λ_=>SR) p.1 (execs c a p.2 h1) (some (p,h1)) (some (p,h1)) (λ_=>some (p,h1))) λp h=>Beh c b R p.1 p.2 h:=q;refine w_bnd ((w_bnd' q).mono λp h1 q=>?_);obtain ⟨fl,f2⟩:=p;cases fl with
  |nx=>exact ih q
  |bk=>exact ⟨q.w⟩
  |ct=>exact ⟨q.w⟩
  |rt v=>exact ⟨q.w⟩
theorem zyj {s:Sm}{r:List Sm}{R:Fl->Frame->MH->Prop}{fr:Frame}{h:MH} (q:WSs c [s] fr h (Beh c r R)):WSs c (s::r) fr h R:=zdO q
end
end Internal
namespace Internal
open PySem
inductive Tr (α:Type) where
 |lf
 |nd (x:α) (l r:Tr α)
def Tr.get {α:Type} (t:Tr α):Nat->Option α:=Tr.rec (motive:=λ_=>Nat->Option α) (λ_=>none)
 (λx _ _ gl gr n=>Nat.rec (motive:=λ_=>Option α) (some x) (λm _=>Bool.rec (motive:=λ_=>Option α) (gr (Nat.div m 2)) (gl (Nat.div m 2)) (Qq (Nat.mod m 2) 0)) n) t
def Tr.put {α:Type} (t:Tr α):Nat->α->Tr α:=Tr.rec (motive:=λ_=>Nat->α->Tr α)
 (λn o=>Bool.rec (motive:=λ_=>Tr α) .lf (.nd o .lf .lf) (Qq n 0))
 (λx l r pl pr n o=>Nat.rec (motive:=λ_=>Tr α) (.nd o l r) (λm _=>Bool.rec (motive:=λ_=>Tr α) (.nd x l (pr (Nat.div m 2) o)) (.nd x (pl (Nat.div m 2) o) r) (Qq (Nat.mod m 2) 0)) n) t
structure TH where
 t:Tr MObj
 n:Nat
inductive Re (α:Type) where
 |no
 |ok (a:α) (h:TH)
def bn {α β:Type} (r:Re α) (f:α->TH->Re β):Re β:=Re.rec (motive:=λ_=>Re β) .no f r
def ob {α β:Type} (o:Option α) (f:α->Re β):Re β:=Option.rec (motive:=λ_=>Re β) .no f o
def ooX {α β:Type} (o:Option α) (f:α->Option β):Option β:=Option.rec (motive:=λ_=>Option β) none f o
def gd {α:Type} (b:Bool) (o:Option α):Option α:=Bool.rec (motive:=λ_=>Option α) none o b
def gr {α:Type} (b:Bool) (o:Re α):Re α:=Bool.rec (motive:=λ_=>Re α) .no o b
def TH.push (H:TH) (o:MObj):TH:=⟨H.t.put H.n o,Qp H.n⟩
def TH.upd (H:TH) (a:Nat) (o:MObj):TH:=⟨H.t.put a o,H.n⟩
def mk (H:TH) (o:MObj):Re Val:= .ok (.ref H.n) (H.push o)
def kR {α:Type} (l:List α):Nat->Option α:=Qj (motive:=λ_=>Nat->Option α) (λ_=>none) (λx _ ih n=>Nat.rec (motive:=λ_=>Option α) (some x) (λm _=>ih m) n) l
def zaS {α:Type} (l:List α) (v:α):Nat->List α:=Qj (motive:=λ_=>Nat->List α) (λ_=> []) (λx r ih n=>Nat.rec (motive:=λ_=>List α) (v::r) (λm _=>x::ih m) n) l
def bK {α:Type} (l:List α):Nat:=Qj (motive:=λ_=>Nat) 0 (λ_ _ ih=>Qp ih) l
def xM {α:Type} (l r:List α):List α:=Qj (motive:=λ_=>List α) r (λx _ ih=>x::ih) l
def p9 {α:Type} (l:List α):Nat->List α:=Qj (motive:=λ_=>Nat->List α) (λ_=> []) (λx r ih n=>Nat.rec (motive:=λ_=>List α) (x::r) (λm _=>ih m) n) l
def zf6 {α:Type} (l:List α):Nat->List α:=Qj (motive:=λ_=>Nat->List α) (λ_=> []) (λx _ ih n=>Nat.rec (motive:=λ_=>List α) [] (λm _=>x::ih m) n) l
def ze9 (l:List Nat) (c:Nat):Bool:=Qj (motive:=λ_=>Bool) false (λx _ ih=>Bool.rec (motive:=λ_=>Bool) ih true (Qq c x)) l
def leq (a:List Nat):List Nat->Bool:=Qj (motive:=λ_=>List Nat->Bool) (λb=>Qj (motive:=λ_=>Bool) true (λ_ _ _=>false) b) (λx _ ih b=>Qj (motive:=λ_=>Bool) false (λy r _=>Bool.rec (motive:=λ_=>Bool) false (ih r) (Qq x y)) b) a
def pfx (t:List Nat):List Nat->Bool:=Qj (motive:=λ_=>List Nat->Bool) (λ_=>true) (λx _ ih s=>Qj (motive:=λ_=>Bool) false (λy r _=>Bool.rec (motive:=λ_=>Bool) false (ih r) (Qq x y)) s) t
def bZ {α:Type} (l:List α):Bool:=Qj (motive:=λ_=>Bool) true (λ_ _ _=>false) l
def vI {α:Type} (x:Val) (d:α) (f:Int->α):α:=Val.casesOn (motive_1:=λ_=>α) x d (λ_=>d) f (λ_=>d) (λ_=>d) (λ_=>d) (λ_=>d) (λ_=>d) (λ_=>d) (λ_=>d) (λ_=>d) (λ_=>d)
def vS {α:Type} (x:Val) (d:α) (f:List Nat->α):α:=Val.casesOn (motive_1:=λ_=>α) x d (λ_=>d) (λ_=>d) f (λ_=>d) (λ_=>d) (λ_=>d) (λ_=>d) (λ_=>d) (λ_=>d) (λ_=>d) (λ_=>d)
def vT {α:Type} (x:Val) (d:α) (f:List Val->α):α:=Val.casesOn (motive_1:=λ_=>α) x d (λ_=>d) (λ_=>d) (λ_=>d) f (λ_=>d) (λ_=>d) (λ_=>d) (λ_=>d) (λ_=>d) (λ_=>d) (λ_=>d)
def vR {α:Type} (x:Val) (d:α) (f:Nat->α):α:=Val.casesOn (motive_1:=λ_=>α) x d (λ_=>d) (λ_=>d) (λ_=>d) (λ_=>d) f (λ_=>d) (λ_=>d) (λ_=>d) (λ_=>d) (λ_=>d) (λ_=>d)
def oL {α:Type} (o:MObj) (d:α) (f:List Val->α):α:=MObj.casesOn (motive:=λ_=>α) o f (λ_ _=>d) (λ_ _=>d)
def oD {α:Type} (o:MObj) (d:α) (f:Option Nat->List (Val×Val) ->α):α:=MObj.casesOn (motive:=λ_=>α) o (λ_=>d) f (λ_ _=>d)
def oN {α:Type} (o:MObj) (d:α) (f:Nat->List (Nat×Val) ->α):α:=MObj.casesOn (motive:=λ_=>α) o (λ_=>d) (λ_ _=>d) f
def iT (H:TH) (x:Val):Option (List Val):=vR x none λa=>ooX (H.t.get a) λo=>oL o none some
def zJ (H:TH) (x:Val):Option (List (Val×Val)):=vR x none λa=>ooX (H.t.get a) λo=>oD o none λ_ es=>some es
def iEq (a b:Int):Bool:=Int.casesOn (motive:=λ_=>Bool) a (λm=>Int.casesOn (motive:=λ_=>Bool) b (λn=>Qq m n) λ_=>false) (λm=>Int.casesOn (motive:=λ_=>Bool) b (λ_=>false) λn=>Qq m n)
def iLt (a b:Int):Bool:=Int.casesOn (motive:=λ_=>Bool) a (λm=>Int.casesOn (motive:=λ_=>Bool) b (λn=>Qg (Qp m) n) λ_=>false) (λm=>Int.casesOn (motive:=λ_=>Bool) b (λ_=>true) λn=>Qg (Qp n) m)
def iLe (a b:Int):Bool:=Int.casesOn (motive:=λ_=>Bool) a (λm=>Int.casesOn (motive:=λ_=>Bool) b (λn=>Qg m n) λ_=>false) (λm=>Int.casesOn (motive:=λ_=>Bool) b (λ_=>true) λn=>Qg n m)
def aEq (a b:Val):Option Bool:=vI a (vS a none λs=>vS b none λt=>some (leq s t)) λi=>vI b none λj=>some (iEq i j)
def zrx (a:List Val):List Val->Option Bool:=Qj (motive:=λ_=>List Val->Option Bool) (λb=>Qj (motive:=λ_=>Option Bool) (some true) (λ_ _ _=>none) b) (λx _ ih b=>Qj (motive:=λ_=>Option Bool) none (λy r _=>ooX (aEq x y) λe=>ooX (ih r) λe'=>some (Bool.rec (motive:=λ_=>Bool) false e' e)) b) a
def kE (a b:Val):Option Bool:=vT a (aEq a b) λs=>vT b none λt=>zrx s t
def gX (es:List (Val×Val)) (k:Val):Option (Option Val):=Qj (motive:=λ_=>Option (Option Val)) (some none) (λp _ ih=>ooX (kE p.1 k) λe=>Bool.rec (motive:=λ_=>Option (Option Val)) ih (some (some p.2)) e) es
def zgg (es:List (Val×Val)) (k v:Val):Option (List (Val×Val)):=Qj (motive:=λ_=>Option (List (Val×Val))) (some []) (λp _ ih=>ooX (kE p.1 k) λe=>ooX ih λr=>some (Bool.rec (motive:=λ_=>List (Val×Val)) (p::r) ((p.1,v)::r) e)) es
def zdp (es:List (Val×Val)) (k v:Val) (r:Option Val):Option (List (Val×Val)):=Option.rec (motive:=λ_=>Option (List (Val×Val))) (some (xM es [(k,v)])) (λ_=>zgg es k v) r
def kOk (k:Val):Bool:=vI k (vS k (vT k false λvs=>Qj (motive:=λ_=>Bool) true (λv _ ih=>vI v (vS v false λ_=>ih) λ_=>ih) vs) λ_=>true) λ_=>true
def tru (H:TH) (x:Val):Option Bool:=Val.casesOn (motive_1:=λ_=>Option Bool) x (some false) some (λi=>some (Bool.not (iEq i 0))) (λs=>some (Bool.not (bZ s))) (λvs=>some (Bool.not (bZ vs)))
 (λa=>ooX (iT H (.ref a)) λvs=>some (Bool.not (bZ vs))) (λ_=>none) (λ_=>none) (λ_=>none) (λ_=>none) (λ_=>none) (λ_=>none)
def trB (H:TH) (x:Val) (f:Bool->Re Val):Re Val:=ob (tru H x) f
def zpL (a b:Int):Option Int:=Int.casesOn (motive:=λ_=>Option Int) a (λm=>Int.casesOn (motive:=λ_=>Option Int) b (λn=>some (.ofNat (Nat.add m n))) λ_=>none) λ_=>none
def zpH (a b:Int):Option Int:=Int.casesOn (motive:=λ_=>Option Int) a (λm=>Int.casesOn (motive:=λ_=>Option Int) b (λn=>Bool.rec (motive:=λ_=>Option Int) none (some (.ofNat (Nat.sub m n))) (Qg n m)) λ_=>none) λ_=>none
def ze5 (v:Val) (n:Nat):List Val:=Nat.rec (motive:=λ_=>List Val) [] (λ_ ih=>v::ih) n
def ziy (op:BOp) (x y:Val) (H:TH):Re Val:=BOp.casesOn (motive:=λ_=>Re Val) op
 (vI x (vS x .no λs=>vS y .no λt=>gr (Qg (Nat.add (bK s) (bK t)) lim) (.ok (.str (xM s t)) H)) λa=>vI y .no λb=>ob (zpL a b) λc=> .ok (.int c) H)
 (vI x .no λa=>vI y .no λb=>ob (zpH a b) λc=> .ok (.int c) H)
 (ob (iT H x) λvs=>vI y .no λi=>Qj (motive:=λ_=>Re Val) .no (λv r _=>gr (bZ r) (Int.casesOn (motive:=λ_=>Re Val) i (λn=>gr (Qg n lim) (mk H (.list (ze5 v n)))) λ_=> .no)) vs)
 .no .no .no
def zgb (es2:List (Val×Val)) (es:List (Val×Val)):Option Bool:=Qj (motive:=λ_=>Option Bool) (some true) (λp _ ih=>ooX (gX es2 p.1) λo=>Option.rec (motive:=λ_=>Option Bool) (some false) (λy=>ooX (aEq p.2 y) λe=>ooX ih λb=>some (Bool.and e b)) o) es
def xP (es:List (Val×Val)):Nat:=Qj (motive:=λ_=>Nat) 0 (λp _ _=>vI p.1 (vS p.1 (vT p.1 0 λ_=>3) λ_=>1) λ_=>1) es
def zgn (es:List (Val×Val)):Bool:=Qj (motive:=λ_=>Bool) true (λp _ ih=>vI p.1 (vS p.1 false λ_=>ih) λ_=>ih) es
def ziq (a b:List (Val×Val)):Option Bool:=gd (Bool.and (Bool.not (bZ a)) (Bool.and (Bool.not (bZ b)) (Bool.and (Qq (xP a) 1) (Qq (xP b) 1)))) (Bool.rec (motive:=λ_=>Option Bool) (some false) (zgb b a) (Qq (bK a) (bK b)))
def eqT (H:TH) (x y:Val):Option Bool:=vR x (aEq x y) λa=>ooX (zJ H (.ref a)) λd=>ooX (zJ H y) λe=>ziq d e
def isT (a b:Val):Option Bool:=Val.casesOn (motive_1:=λ_=>Option Bool) b (some (Val.isNone a)) (λ_=>none) (λ_=>none) (λ_=>none) (λ_=>none) (λ_=>none) (λm=>Val.casesOn (motive_1:=λ_=>Option Bool) a (some false) (λ_=>none) (λ_=>some false) (λ_=>none) (λ_=>some false) (λ_=>none) (λn=>some (Qq n m)) (λ_=>none) (λ_=>none) (λ_=>none) (λ_=>none) (λ_=>none))
 (λm=>Val.casesOn (motive_1:=λ_=>Option Bool) a none (λ_=>none) (λ_=>none) (λ_=>none) (λ_=>none) (λ_=>none) (λ_=>none) (λn=>some (Qq n m)) (λ_=>none) (λ_=>none) (λ_=>none) (λ_=>none)) (λ_=>none) (λ_=>none) (λ_=>none) (λ_=>none)
def zrv (i:Int) (vs:List Val):Option Bool:=Qj (motive:=λ_=>Option Bool) (some false) (λv _ ih=>vI v none λj=>ooX ih λb=>some (Bool.or (iEq j i) b)) vs
def inT (H:TH) (x y:Val):Option Bool:=vS y (vR y none λa=>ooX (H.t.get a) λo=>MObj.casesOn (motive:=λ_=>Option Bool) o (λvs=>vI x none λi=>zrv i vs) (λ_ es=>gd (kOk x) (ooX (gX es x) λr=>some (Option.isSome r))) (λ_ _=>none))
 λt=>vS x none λs=>Qj (motive:=λ_=>Option Bool) none (λc r _=>gd (bZ r) (some (ze9 t c))) s
def zis (op:COp) (x y:Val) (H:TH):Option Bool:=COp.casesOn (motive:=λ_=>Option Bool) op (eqT H x y) (ooX (eqT H x y) λb=>some (Bool.not b))
 (vI x none λa=>vI y none λb=>some (iLt a b)) (vI x none λa=>vI y none λb=>some (iLe a b)) (vI x none λa=>vI y none λb=>some (iLt b a)) (vI x none λa=>vI y none λb=>some (iLe b a))
 (inT H x y) (ooX (inT H x y) λb=>some (Bool.not b)) (isT x y) (ooX (isT x y) λb=>some (Bool.not b))
def nI {α:Type} (i:Val) (d:α) (f:Nat->α):α:=vI i d λi=>Int.casesOn (motive:=λ_=>α) i f λ_=>d
def zgS (H:TH) (o i:Val):Option Val:=vT o (vS o (vR o none λa=>ooX (H.t.get a) λob=>MObj.casesOn (motive:=λ_=>Option Val) ob (λvs=>nI i none λn=>kR vs n) (λ_ es=>gd (kOk i) (ooX (gX es i) id)) (λ_ _=>none))
 λs=>nI i none λn=>ooX (kR s n) λc=>some (.str [c])) λvs=>nI i none λn=>kR vs n
def v8 (H:TH) (o:Val) (k:Nat) (bsX:List Val):Re Val:=
 vS o (ob (iT H o) λvs=>gr (Qq k 1) (Qj (motive:=λ_=>Re Val) .no (λb r _=>gr (bZ r) (nI b .no λn=>mk H (.list (p9 vs n)))) bsX))
 λs=>Qj (motive:=λ_=>Re Val) .no (λb r _=>Qj (motive:=λ_=>Re Val) (gr (Qq k 1) (nI b .no λn=> .ok (.str (p9 s n)) H))
  (λb2 r2 _=>gr (Bool.and (Qq k 3) (bZ r2)) (nI b .no λm=>nI b2 .no λn=> .ok (.str (p9 (zf6 s n) m)) H)) r) bsX
def fgt {α:Type} (fs:List (Nat×α)) (n:Nat):Option α:=Qj (motive:=λ_=>Option α) none (λp _ ih=>Prod.rec (motive:=λ_=>Option α) (λa v=>Bool.rec (motive:=λ_=>Option α) ih (some v) (Qq a n)) p) fs
def fpt (fs:List (Nat×Val)) (n:Nat) (v:Val):List (Nat×Val):=Qj (motive:=λ_=>List (Nat×Val)) [(n,v)] (λp r ih=>Bool.rec (motive:=λ_=>List (Nat×Val)) (p::ih) ((n,v)::r) (Qq p.1 n)) fs
def zeI (l:List Nat) (c:Nat):Bool:=ze9 l c
structure CT where
 ats:List (Nat×Val)
 ms:List (Nat×Nat)
 init:Option Nat
 fl:List Nat
structure PT where
 fn:Tr (Option Fn)
 cl:List (Nat×CT)
 io:List (Nat×Nat)
structure CCt where
 P:PT
 call:Nat->List Val->TH->Re Val
def zdz (P:PT) (H:TH) (o:Val) (n:Nat):Option Val:=
 Val.casesOn (motive_1:=λ_=>Option Val) o none (λ_=>none) (λ_=>none) (λ_=>none) (λ_=>none)
  (λa=>ooX (H.t.get a) λob=>oN ob none λc fs=>Option.rec (motive:=λ_=>Option Val) none (λv=>some v) (fgt fs n))
  (λa=>ooX (fgt P.io a) λc=>ooX (fgt P.cl c) λk=>fgt k.ats n) (λ_=>none) (λ_=>none) (λ_=>none) (λ_=>none) (λ_=>none)
def qV (P:PT) (H:TH) (o:Val) (n:Nat) (v:Val):Option TH:=vR o none λa=>ooX (H.t.get a) λob=>oN ob none λc fs=>
 ooX (fgt P.cl c) λk=>gd (Bool.and (zeI k.fl n) (Qg (Qp (bK fs)) 400)) (some (H.upd a (.inst c (fpt fs n v))))
def lN (H:TH) (o i v:Val):Option TH:=vR o none λa=>ooX (H.t.get a) λob=>MObj.casesOn (motive:=λ_=>Option TH) ob
 (λvs=>nI i none λn=>gd (Qg (Qp n) (bK vs)) (some (H.upd a (.list (zaS vs v n)))))
 (λep es=>gd (Bool.and (kOk i) (Qg (Qp (bK es)) lim)) (ooX (gX es i) λr=>ooX (zdp es i v r) λes'=>some (H.upd a (.dict (Option.rec (motive:=λ_=>Option Nat) (Option.rec (motive:=λ_=>Option Nat) none (λe=>some (Qp e)) ep) (λ_=>ep) r) es'))))
 (λ_ _=>none)
inductive IT where
 |ls (a:Nat)
 |tp (vs:List Val)
 |dk (a n ep:Nat)
 |sq (s:List Nat)
 |rg (n:Nat)
def uD (H:TH) (x:Val):Option IT:=Val.casesOn (motive_1:=λ_=>Option IT) x none (λ_=>none) (λ_=>none) (λs=>some (.sq s)) (λvs=>some (.tp vs))
 (λa=>ooX (H.t.get a) λob=>MObj.casesOn (motive:=λ_=>Option IT) ob (λ_=>some (.ls a)) (λep es=>ooX ep λe=>some (.dk a (bK es) e)) (λ_ _=>none))
 (λ_=>none) (λ_=>none) (λ_=>none) (λn=>Int.casesOn (motive:=λ_=>Option IT) n (λn=>gd (Qg n lim) (some (.rg n))) λ_=>none) (λ_=>none) (λ_=>none)
def kJ (H:TH) (i:Nat) (k:IT):Option (Option Val):=IT.casesOn (motive:=λ_=>Option (Option Val)) k
 (λa=>ooX (H.t.get a) λob=>oL ob none λvs=>some (kR vs i))
 (λvs=>some (kR vs i))
 (λa n ep=>ooX (H.t.get a) λob=>oD ob none λe es=>ooX e λe=>gd (Bool.and (Qq e ep) (Qq (bK es) n)) (some (ooX (kR es i) λp=>some p.1)))
 (λs=>some (ooX (kR s i) λc=>some (.str [c])))
 (λn=>some (Bool.rec (motive:=λ_=>Option Val) none (some (.int (.ofNat i))) (Qg (Qp i) n)))
def zcb (tg:List Nat):List Val->Frame->Option Frame:=Qj (motive:=λ_=>List Val->Frame->Option Frame) (λvs fr=>gd (bZ vs) (some fr))
 (λx _ ih vs fr=>Qj (motive:=λ_=>Option Frame) none (λv r _=>ih r (zaS fr (some v) x)) vs) tg
def fT (fr:Frame) (tg:List Nat) (many:Bool) (v:Val):Option Frame:=Bool.rec (motive:=λ_=>Option Frame) (zcb tg [v] fr) (vT v none λvs=>zcb tg vs fr) many
def zqf (H:TH) (x:Val):Option Nat:=Val.casesOn (motive_1:=λ_=>Option Nat) x none (λ_=>none) (λ_=>none) (λs=>some (bK s)) (λvs=>some (bK vs))
 (λa=>ooX (H.t.get a) λob=>MObj.casesOn (motive:=λ_=>Option Nat) ob (λvs=>some (bK vs)) (λ_ es=>some (bK es)) (λ_ _=>none)) (λ_=>none) (λ_=>none) (λ_=>none) (λ_=>none) (λvs=>some (bK vs)) some
def zD (vs:List Val):Option (List Int):=Qj (motive:=λ_=>Option (List Int)) (some []) (λv _ ih=>vI v none λi=>ooX ih λl=>some (i::l)) vs
def zc6 (a:Int) (l:List Int):List Int:=Qj (motive:=λ_=>List Int) [a] (λx r ih=>Bool.rec (motive:=λ_=>List Int) (x::ih) (a::x::r) (iLe a x)) l
def z8 (l:List Int):List Int:=Qj (motive:=λ_=>List Int) [] (λx _ ih=>zc6 x ih) l
def uB (es:List (Val×Val)):List Val:=Qj (motive:=λ_=>List Val) [] (λp _ ih=>p.1::ih) es
def yS (vs:List Val):Option (List (List Nat)):=Qj (motive:=λ_=>Option (List (List Nat))) (some []) (λv _ ih=>vS v none λi=>ooX ih λl=>some (i::l)) vs
def zaT {α β:Type} (f:α->β) (l:List α):List β:=Qj (motive:=λ_=>List β) [] (λx _ ih=>f x::ih) l
def zbI (vs:List Val) (H:TH):Re Val:=ob (yS vs) λl=>gr (Qg (bK l) 60) (mk H (.list (zaT Val.str (iM l))))
def yU (vs:List Val) (H:TH):Re Val:=ob (yS vs) λl=>gr (Bool.and (Bool.not (bZ l)) (Qg (bK l) 60)) (mk H (.list (zaT Val.str (iM l))))
def zf3 (H:TH) (x:Val):Re Val:=vR x .no λa=>ob (H.t.get a) λob'=>MObj.casesOn (motive:=λ_=>Re Val) ob' (λvs=>zbI vs H)
 (λ_ es=>Option.rec (motive:=λ_=>Re Val) (yU (uB es) H) (λl=>gr (Bool.and (Bool.not (bZ l)) (Qg (Qp (bK l)) 64)) (mk H (.list (zaT Val.int (z8 l))))) (zD (uB es))) (λ_ _=> .no)
def u9 {α:Type} (as:List Val) (f:Val->Re α):Re α:=Qj (motive:=λ_=>Re α) .no (λv r _=>gr (bZ r) (f v)) as
def zru {α:Type} (as:List Val) (f:Val->Val->Re α):Re α:=Qj (motive:=λ_=>Re α) .no (λv r _=>u9 r (f v)) as
def xF (a b:Int):Int:=Bool.rec (motive:=λ_=>Int) a b (iLt a b)
def biT (n:Nat) (as:List Val) (H:TH):Re Val:=
 Bool.rec (motive:=λ_=>Re Val) (Bool.rec (motive:=λ_=>Re Val) (Bool.rec (motive:=λ_=>Re Val) (gr (Qq n zcw) (zru as λx y=>vI x .no λa=>vI y .no λb=> .ok (.int (Bool.rec (motive:=λ_=>Int) a b (iLt b a))) H))
  (Qj (motive:=λ_=>Re Val) .no (λx r _=>Qj (motive:=λ_=>Re Val) .no (λy r _=>vI x .no λa=>vI y .no λb=>Qj (motive:=λ_=>Re Val) (.ok (.int (xF a b)) H) (λz r _=>gr (bZ r) (vI z .no λc=> .ok (.int (xF (xF a b) c)) H)) r) r) as) (Qq n zeN))
  (u9 as (zf3 H)) (Qq n rB))
  (u9 as λv=>ob (zqf H v) λk=> .ok (.int (.ofNat k)) H) (Qq n wJ)
def tyT (n:Nat) (as:List Val) (H:TH):Re Val:=u9 as λx=>
 Bool.rec (motive:=λ_=>Re Val) (Bool.rec (motive:=λ_=>Re Val) (Bool.rec (motive:=λ_=>Re Val) (Bool.rec (motive:=λ_=>Re Val) (gr (Qq n zeL) (vS x .no λl=>gr (Qg (Nat.add (bK l) 2) 4096) (.ok (.setn (bK (xV l))) H)))
  (ob (zJ H x) λes=>gr (zgn es) (mk H (.dict none es))) (Qq n zcx))
  (ob (vT x (iT H x) some) λvs=>mk H (.list vs)) (Qq n tL))
  (vI x .no λk=> .ok (.rng k) H) (Qq n rC))
  (Val.casesOn (motive_1:=λ_=>Re Val) x (.ok (.ty jQ) H) (λ_=> .ok (.ty zcy) H) (λ_=> .ok (.ty zeO) H) (λ_=> .ok (.ty zeK) H) (λ_=> .ok (.ty wI) H) (λ_=> .no) (λ_=> .no) (λ_=> .no) (λ_=> .no) (λ_=> .no) (λ_=> .no) (λ_=> .no)) (Qq n y8)
def zhg (c:CCt) (a:Nat) (k:CT) (as:List Val) (H:TH):Re Val:=ob k.init λi=>bn (c.call i (.ref H.n::as) (H.push (.inst a []))) λr H'=>gr r.isNone (.ok (.ref H.n) H')
def xZ (c:CCt) (f:Val) (as:List Val) (H:TH):Re Val:=Val.casesOn (motive_1:=λ_=>Re Val) f .no (λ_=> .no) (λ_=> .no) (λ_=> .no) (λ_=> .no) (λ_=> .no)
 (λa=>Option.rec (motive:=λ_=>Re Val) (c.call a as H) (λk=>zhg c a k as H) (fgt c.P.cl a)) (λn=>tyT n as H) (λn=>biT n as H) (λ_=> .no) (λ_=> .no) (λ_=> .no)
def zA (vs:List Val):Option (Val×List Val):=Qj (motive:=λ_=>Option (Val×List Val)) none (λv _ ih=>some (Option.rec (motive:=λ_=>Val×List Val) (v,[]) (λp=>(p.1,v::p.2)) ih)) vs
def zf1 (s:List Nat) (n:Nat) (as:List Val) (H:TH):Re Val:=Qj (motive:=λ_=>Re Val)
 (Bool.rec (motive:=λ_=>Re Val) (Option.rec (motive:=λ_=>Re Val) .no (λp=> .ok p.1 H) (gd (Qq n nStrip) (bI s n [] []))) (.ok (.bool (Txt.isspace ⟨s.toArray⟩)) H) (Qq n nIsspace))
 (λx r _=>Bool.rec (motive:=λ_=>Re Val) (Option.rec (motive:=λ_=>Re Val) .no (λp=> .ok p.1 H) (gd (Bool.or (Qq n nStrip) (Bool.or (Qq n nPartition) (Qq n nFind))) (bI s n (x::r) []))) (gr (bZ r) (vS x .no λt=> .ok (.bool (pfx t s)) H)) (Qq n nStartswith)) as
def bmT (o:Val) (n:Nat) (as:List Val) (H0 H:TH):Re Val:=vS o (vR o .no λa=>ob (H.t.get a) λob'=>ob (H0.t.get a) λob0=>MObj.casesOn (motive:=λ_=>Re Val) ob'
 (λvs=>oL ob0 .no λ_=>Bool.rec (motive:=λ_=>Re Val) (gr (Bool.and (Qq n nPop) (bZ as)) (ob (zA vs) λp=> .ok p.1 (H.upd a (.list p.2)))) (u9 as λv=>gr (Qg (Qp (bK vs)) lim) (.ok .none (H.upd a (.list (xM vs [v]))))) (Qq n nAppend))
 (λ_ es=>oD ob0 .no λ_ _=>gr (Qq n nGet) (Qj (motive:=λ_=>Re Val) .no (λk r _=>gr (kOk k) (ob (gX es k) λg=>Option.rec (motive:=λ_=>Re Val) (Qj (motive:=λ_=>Re Val) (.ok .none H) (λd r _=>gr (bZ r) (.ok d H)) r) (λv=>Qj (motive:=λ_=>Re Val) (.ok v H) (λ_ r _=>gr (bZ r) (.ok v H)) r) g)) as))
 (λ_ _=> .no)) λs=>Bool.rec (motive:=λ_=>Re Val) (zf1 s n as H) (gr (bZ as) (ob (zbj s) λvs=>gr (Qg (bK vs) lim) (mk H (.list vs)))) (Qq n nSplit)
def x4 (c:CCt) (o:Val) (n:Nat) (as:List Val) (H0 H:TH):Re Val:=Val.casesOn (motive_1:=λ_=>Re Val) o .no (λ_=> .no) (λ_=> .no) (λ_=>bmT o n as H0 H) (λ_=> .no)
 (λa=>ob (H0.t.get a) λob'=>MObj.casesOn (motive:=λ_=>Re Val) ob' (λ_=>bmT o n as H0 H) (λ_ _=>bmT o n as H0 H) λc' fs=>Option.rec (motive:=λ_=>Re Val) (ob (fgt c.P.cl c') λk=>ob (fgt k.ms n) λf=>c.call f (o::as) H) (λ_=> .no) (fgt fs n))
 (λa=>Option.rec (motive:=λ_=>Re Val) (ob (fgt c.P.cl a) λk=>ob (fgt k.ms n) λf=>c.call f as H) (λc'=>ob (fgt c.P.cl c') λk=>ob (fgt k.ms n) λf=>c.call f (o::as) H) (fgt c.P.io a))
 (λ_=> .no) (λ_=> .no) (λ_=> .no) (λ_=> .no) (λ_=> .no)
abbrev KEt:=Frame->TH->Re Val
def jY (ks:List KEt):Frame->TH->Re (List Val):=Qj (motive:=λ_=>Frame->TH->Re (List Val)) (λ_ H=> .ok [] H) (λk _ ih fr H=>bn (k fr H) λv H1=>bn (ih fr H1) λvs H2=> .ok (v::vs) H2) ks
def zdk (stop:Bool) (ks:List KEt):Frame->TH->Re Val:=Qj (motive:=λ_=>Frame->TH->Re Val) (λ_ _=> .no)
 (λk r ih fr H=>bn (k fr H) λv H1=>Bool.rec (motive:=λ_=>Re Val) (ob (tru H1 v) λb=>Bool.rec (motive:=λ_=>Re Val) (Bool.rec (motive:=λ_=>Re Val) (.ok v H1) (ih fr H1) stop) (Bool.rec (motive:=λ_=>Re Val) (ih fr H1) (.ok v H1) stop) b) (.ok v H1) (bZ r)) ks
def zfr (ks:List KEt):Frame->TH->Re Bool:=Qj (motive:=λ_=>Frame->TH->Re Bool) (λ_ H=> .ok true H)
 (λk _ ih fr H=>bn (k fr H) λv H1=>ob (tru H1 v) λb=>Bool.rec (motive:=λ_=>Re Bool) (.ok false H1) (ih fr H1) b) ks
def cpT (next:TH->Nat->Option (Option Val)) (bind:Val->Option Frame) (test:Frame->TH->Re Bool) (elt:Frame->TH->Re Val) (acc:Nat) (fuel:Nat):Nat->TH->Re Unit:=
 Nat.rec (motive:=λ_=>Nat->TH->Re Unit) (λ_ _=> .no) (λ_ ih i H=>ob (next H i) λov=>Option.rec (motive:=λ_=>Re Unit) (.ok () H) (λv=>
  ob (bind v) λfr=>bn (test fr H) λb H1=>Bool.rec (motive:=λ_=>Re Unit) (ih (Qp i) H1) (bn (elt fr H1) λx H2=>ob (H2.t.get acc) λo=>oL o .no λvs=>gr (Qg (Qp (bK vs)) lim) (ih (Qp i) (H2.upd acc (.list (xM vs [x]))))) b) ov) fuel
def zil (l:List Val):Nat->List (Val×Val) ->Option (List (Val×Val)):=λfuel=>Nat.rec (motive:=λ_=>List Val->List (Val×Val) ->Option (List (Val×Val))) (λ_ _=>none) (λ_ ih l es=>
  Qj (motive:=λ_=>Option (List (Val×Val))) (some es) (λk r _=>Qj (motive:=λ_=>Option (List (Val×Val))) none (λv r' _=>gd (kOk k) (ooX (gX es k) λo=>ooX (zdp es k v o) λes'=>ih r' es')) r) l) fuel l
def bG:Nat:=200000
def ev (c:CCt) (e:Ex):KEt:=Ex.rec (motive_1:=λ_=>KEt) (motive_2:=λ_=>List KEt)
 (λx fr H=>ob (kR fr x) λo=>ob o λv=> .ok v H)
 (λv _ H=> .ok v H)
 (λ_ ks fr H=>bn (jY ks fr H) λvs H1=>mk H1 (.list vs))
 (λ_ ks fr H=>bn (jY ks fr H) λvs H1=> .ok (.tup vs) H1)
 (λkvs ks fr H=>bn (jY ks fr H) λvs H1=>gr (Qg (bK kvs) 30) (ob (zil vs 16 []) λes=>mk H1 (.dict (some (bK es)) es)))
 (λop _ _ ka kb fr H=>bn (ka fr H) λx H1=>bn (kb fr H1) λy H2=>ziy op x y H2)
 (λ_ ka fr H=>bn (ka fr H) λv H1=>ob (tru H1 v) λb=> .ok (.bool (Bool.not b)) H1)
 (λop _ _ ka kb fr H=>bn (ka fr H) λx H1=>bn (kb fr H1) λy H2=>ob (zis op x y H2) λr=> .ok (.bool r) H2)
 (λstop _ ks fr H=>zdk stop ks fr H)
 (λ_ _ _ kt ka kb fr H=>bn (kt fr H) λv H1=>ob (tru H1 v) λb=>Bool.rec (motive:=λ_=>Re Val) (kb fr H1) (ka fr H1) b)
 (λ_ n ke fr H=>bn (ke fr H) λo H1=>ob (zdz c.P H1 o n) λv=> .ok v H1)
 (λ_ _ ke ki fr H=>bn (ke fr H) λo H1=>bn (ki fr H1) λi H2=>ob (zgS H2 o i) λv=> .ok v H2)
 (λ_ k _ ke ks fr H=>bn (ke fr H) λo H1=>bn (jY ks fr H1) λvs H2=>v8 H2 o k vs)
 (λ_ _ kf ks fr H=>bn (kf fr H) λg H1=>bn (jY ks fr H1) λvs H2=>xZ c g vs H2)
 (λ_ n _ ko ks fr H=>bn (ko fr H) λo H1=>bn (jY ks fr H1) λvs H2=>x4 c o n vs H1 H2)
 (λ_ tg many _ _ kel kit kifs fr H=>bn (kit fr H) λv H1=>ob (uD H1 v) λk=>
  bn (cpT (λH i=>kJ H i k) (λv=>fT fr tg many v) (zfr kifs) kel H1.n bG 0 (H1.push (.list []))) λ_ H2=> .ok (.ref H1.n) H2)
 [] (λ_ _ k ks=>k::ks) e
def evl (c:CCt) (e:List Ex):List KEt:=Ex.rec_1 (motive_1:=λ_=>KEt) (motive_2:=λ_=>List KEt)
 (λx fr H=>ob (kR fr x) λo=>ob o λv=> .ok v H)
 (λv _ H=> .ok v H)
 (λ_ ks fr H=>bn (jY ks fr H) λvs H1=>mk H1 (.list vs))
 (λ_ ks fr H=>bn (jY ks fr H) λvs H1=> .ok (.tup vs) H1)
 (λkvs ks fr H=>bn (jY ks fr H) λvs H1=>gr (Qg (bK kvs) 30) (ob (zil vs 16 []) λes=>mk H1 (.dict (some (bK es)) es)))
 (λop _ _ ka kb fr H=>bn (ka fr H) λx H1=>bn (kb fr H1) λy H2=>ziy op x y H2)
 (λ_ ka fr H=>bn (ka fr H) λv H1=>ob (tru H1 v) λb=> .ok (.bool (Bool.not b)) H1)
 (λop _ _ ka kb fr H=>bn (ka fr H) λx H1=>bn (kb fr H1) λy H2=>ob (zis op x y H2) λr=> .ok (.bool r) H2)
 (λstop _ ks fr H=>zdk stop ks fr H)
 (λ_ _ _ kt ka kb fr H=>bn (kt fr H) λv H1=>ob (tru H1 v) λb=>Bool.rec (motive:=λ_=>Re Val) (kb fr H1) (ka fr H1) b)
 (λ_ n ke fr H=>bn (ke fr H) λo H1=>ob (zdz c.P H1 o n) λv=> .ok v H1)
 (λ_ _ ke ki fr H=>bn (ke fr H) λo H1=>bn (ki fr H1) λi H2=>ob (zgS H2 o i) λv=> .ok v H2)
 (λ_ k _ ke ks fr H=>bn (ke fr H) λo H1=>bn (jY ks fr H1) λvs H2=>v8 H2 o k vs)
 (λ_ _ kf ks fr H=>bn (kf fr H) λg H1=>bn (jY ks fr H1) λvs H2=>xZ c g vs H2)
 (λ_ n _ ko ks fr H=>bn (ko fr H) λo H1=>bn (jY ks fr H1) λvs H2=>x4 c o n vs H1 H2)
 (λ_ tg many _ _ kel kit kifs fr H=>bn (kit fr H) λv H1=>ob (uD H1 v) λk=>
  bn (cpT (λH i=>kJ H i k) (λv=>fT fr tg many v) (zfr kifs) kel H1.n bG 0 (H1.push (.list []))) λ_ H2=> .ok (.ref H1.n) H2)
 [] (λ_ _ k ks=>k::ks) e
inductive RSX where
 |no
 |nx (fr:Frame) (H:TH)
 |bk (fr:Frame) (H:TH)
 |ct (fr:Frame) (H:TH)
 |rt (v:Val) (H:TH)
def bsX {α:Type} (r:Re α) (f:α->TH->RSX):RSX:=Re.rec (motive:=λ_=>RSX) .no f r
def os {α:Type} (o:Option α) (f:α->RSX):RSX:=Option.rec (motive:=λ_=>RSX) .no f o
def stT (c:CCt) (fr:Frame) (H:TH) (v:Val) (t:T1) (k:Frame->TH->RSX):RSX:=T1.casesOn (motive:=λ_=>RSX) t (λx=>k (zaS fr (some v) x) H)
 (λo n=>bsX (ev c o fr H) λov H1=>os (qV c.P H1 ov n v) λH2=>k fr H2)
 (λo i=>bsX (ev c o fr H) λov H1=>bsX (ev c i fr H1) λiv H2=>os (lN H2 ov iv v) λH3=>k fr H3)
def zd7 (c:CCt) (ts:List T1):List Val->Frame->TH->(Frame->TH->RSX) ->RSX:=Qj (motive:=λ_=>List Val->Frame->TH->(Frame->TH->RSX) ->RSX)
 (λvs fr H k=>Bool.rec (motive:=λ_=>RSX) .no (k fr H) (bZ vs)) (λt _ ih vs fr H k=>Qj (motive:=λ_=>RSX) .no (λv r _=>stT c fr H v t λfr' H'=>ih r fr' H' k) vs) ts
def lpW (cond:Frame->TH->Re Val) (body:Frame->TH->RSX) (fuel:Nat):Frame->TH->RSX:=Nat.rec (motive:=λ_=>Frame->TH->RSX) (λ_ _=> .no)
 (λ_ ih fr H=>bsX (cond fr H) λv H1=>os (tru H1 v) λb=>Bool.rec (motive:=λ_=>RSX) (.nx fr H1) (RSX.rec (motive:=λ_=>RSX) .no (λfr H=>ih fr H) (λfr H=> .nx fr H) (λfr H=>ih fr H) (λv H=> .rt v H) (body fr H1)) b) fuel
def lpF (next:TH->Nat->Option (Option Val)) (bind:Frame->Val->Option Frame) (body:Frame->TH->RSX) (fuel:Nat):Nat->Frame->TH->RSX:=Nat.rec (motive:=λ_=>Nat->Frame->TH->RSX) (λ_ _ _=> .no)
 (λ_ ih i fr H=>os (next H i) λov=>Option.rec (motive:=λ_=>RSX) (.nx fr H) (λv=>os (bind fr v) λfr1=>RSX.rec (motive:=λ_=>RSX) .no (λfr H=>ih (Qp i) fr H) (λfr H=> .nx fr H) (λfr H=>ih (Qp i) fr H) (λv H=> .rt v H) (body fr1 H)) ov) fuel
def sq (a:RSX) (k:Frame->TH->RSX):RSX:=RSX.rec (motive:=λ_=>RSX) .no k (λfr H=> .bk fr H) (λfr H=> .ct fr H) (λv H=> .rt v H) a
def xs (ks:List (Frame->TH->RSX)):Frame->TH->RSX:=Qj (motive:=λ_=>Frame->TH->RSX) (λfr H=> .nx fr H) (λk _ ih fr H=>sq (k fr H) ih) ks
def ex (c:CCt) (s:Sm):Frame->TH->RSX:=Sm.rec (motive_1:=λ_=>Frame->TH->RSX) (motive_2:=λ_=>Frame->TH->RSX)
 (λe fr H=>bsX (ev c e fr H) λ_ H1=> .nx fr H1)
 (λt e fr H=>bsX (ev c e fr H) λv H1=>stT c fr H1 v t λfr' H2=> .nx fr' H2)
 (λts e fr H=>bsX (ev c e fr H) λv H1=>os (vT v (iT H1 v) some) λvs=>zd7 c ts vs fr H1 λfr' H2=> .nx fr' H2)
 (λe fr H=>bsX (ev c e fr H) λv H1=> .rt v H1)
 (λt _ _ ka kb fr H=>bsX (ev c t fr H) λv H1=>os (tru H1 v) λb=>Bool.rec (motive:=λ_=>RSX) (kb fr H1) (ka fr H1) b)
 (λt _ kb fr H=>lpW (ev c t) kb bG fr H)
 (λtg many e _ kb fr H=>bsX (ev c e fr H) λv H1=>os (uD H1 v) λk=>lpF (λH i=>kJ H i k) (λfr v=>fT fr tg many v) kb bG 0 fr H1)
 (λfr H=> .bk fr H) (λfr H=> .ct fr H) (λfr H=> .nx fr H) (λ_ _=> .no) (λ_ _ _=> .no) (λ_ _ _ _ _ _=> .no)
 (λfr H=> .nx fr H) (λ_ _ k ks fr H=>sq (k fr H) ks) s
def exl (c:CCt) (s:List Sm):Frame->TH->RSX:=Sm.rec_1 (motive_1:=λ_=>Frame->TH->RSX) (motive_2:=λ_=>Frame->TH->RSX)
 (λe fr H=>bsX (ev c e fr H) λ_ H1=> .nx fr H1)
 (λt e fr H=>bsX (ev c e fr H) λv H1=>stT c fr H1 v t λfr' H2=> .nx fr' H2)
 (λts e fr H=>bsX (ev c e fr H) λv H1=>os (vT v (iT H1 v) some) λvs=>zd7 c ts vs fr H1 λfr' H2=> .nx fr' H2)
 (λe fr H=>bsX (ev c e fr H) λv H1=> .rt v H1)
 (λt _ _ ka kb fr H=>bsX (ev c t fr H) λv H1=>os (tru H1 v) λb=>Bool.rec (motive:=λ_=>RSX) (kb fr H1) (ka fr H1) b)
 (λt _ kb fr H=>lpW (ev c t) kb bG fr H)
 (λtg many e _ kb fr H=>bsX (ev c e fr H) λv H1=>os (uD H1 v) λk=>lpF (λH i=>kJ H i k) (λfr v=>fT fr tg many v) kb bG 0 fr H1)
 (λfr H=> .bk fr H) (λfr H=> .ct fr H) (λfr H=> .nx fr H) (λ_ _=> .no) (λ_ _ _=> .no) (λ_ _ _ _ _ _=> .no)
 (λfr H=> .nx fr H) (λ_ _ k ks fr H=>sq (k fr H) ks) s
def arT (f:Fn) (as:List Val):Option (List Val):=gd (Bool.and (Qg (bK as) f.np) (Qg (Nat.sub f.np (bK as)) (bK f.dfl))) (some (xM as (p9 f.dfl (Nat.sub (bK f.dfl) (Nat.sub f.np (bK as))))))
def zf5 (n:Nat):Frame:=Nat.rec (motive:=λ_=>Frame) [] (λ_ ih=>none::ih) n
def fr0 (vs:List Val) (n:Nat):Frame:=Qj (motive:=λ_=>Frame) (zf5 n) (λv _ ih=>some v::ih) vs
def uW (P:PT) (d:Nat):Nat->List Val->TH->Re Val:=Nat.rec (motive:=λ_=>Nat->List Val->TH->Re Val) (λ_ _ _=> .no)
 (λ_ ih a as H=>ob (P.fn.get a) λo=>ob o λf=>ob (arT f as) λvs=>RSX.rec (motive:=λ_=>Re Val) .no (λ_ H=> .ok .none H) (λ_ _=> .no) (λ_ _=> .no) (λv H=> .ok v H) (exl ⟨P,ih⟩ f.body (fr0 vs (Nat.sub f.ns f.np)) H)) d
section
variable {α β:Type}
theorem zfC {r:Re α}{f:α->TH->Re β}{b:β}{G:TH} (e:bn r f= .ok b G): ∃a H,r= .ok a H/\f a H= .ok b G:=by
 cases r with
 |no=>cases e
 |ok a H=>exact ⟨a,H,rfl,e⟩
theorem cB {r:Option α}{f:α->Re β}{b:β}{G:TH} (e:ob r f= .ok b G): ∃a,r=some a/\f a= .ok b G:=by
 cases r with
 |none=>cases e
 |some a=>exact ⟨a,rfl,e⟩
theorem bO {r:Option α}{f:α->Option β}{b:β} (e:ooX r f=some b): ∃a,r=some a/\f a=some b:=by
 cases r with
 |none=>cases e
 |some a=>exact ⟨a,rfl,e⟩
theorem kT {b:Bool}{o:Option α}{a:α} (e:gd b o=some a):b=true/\o=some a:=by
 cases b with
 |false=>cases e
 |true=>exact ⟨rfl,e⟩
theorem d4 {b:Bool}{o:Re α}{a:α}{G:TH} (e:gr b o= .ok a G):b=true/\o= .ok a G:=by
 cases b with
 |false=>cases e
 |true=>exact ⟨rfl,e⟩
theorem d0 (l:List α): ∀n:Nat,kR l n=l[n]?:=by
 induction l with
 |nil=>exact λn=>rfl
 |cons x l ih=>intro n;cases n with
  |zero=>rfl
  |succ n=>exact ih n
theorem rG (l:List α) (v:α): ∀n:Nat,zaS l v n=l.set n v:=by
 induction l with
 |nil=>exact λn=>rfl
 |cons x l ih=>intro n;cases n with
  |zero=>rfl
  |succ n=>exact congrArg (x:: ·) (ih n)
theorem aL (l:List α):bK l=l.length:=by
 induction l with
 |nil=>rfl
 |cons x l ih=>exact congrArg Qp ih
theorem iW (l r:List α):xM l r=l++r:=by
 induction l with
 |nil=>rfl
 |cons x l ih=>exact congrArg (x:: ·) ih
theorem iV (l:List α): ∀n:Nat,p9 l n=l.drop n:=by
 induction l with
 |nil=>exact λn=>(JM).symm
 |cons x l ih=>intro n;cases n with
  |zero=>rfl
  |succ n=>exact ih n
theorem zcQ (l:List α): ∀n:Nat,zf6 l n=l.take n:=by
 induction l with
 |nil=>exact λn=>(List.take_nil).symm
 |cons x l ih=>intro n;cases n with
  |zero=>rfl
  |succ n=>exact congrArg (x:: ·) (ih n)
theorem rH (f:α->β) (l:List α):zaT f l=l.map f:=by
 induction l with
 |nil=>rfl
 |cons x l ih=>exact congrArg (f x:: ·) ih
theorem gA (l:List α):bZ l=l.isEmpty:=by cases l<;>rfl
theorem c9 {l:List α} (e:bZ l=true):l= []:=by
 cases l with
 |nil=>rfl
 |cons _ _=>cases e
end
theorem aK {a b:Nat} (e:Qq a b=true):a=b:=Nat.eq_of_beq_eq_true e
theorem c0 (a b:Nat):Qq a b=(a==b):=by rw [QL,beq_iff_eq];exact ⟨aK,λe=>e▸Nat.beq_refl a⟩
theorem ze8 (l:List Nat) (c:Nat):ze9 l c=l.contains c:=by
 induction l with
 |nil=>rfl
 |cons x l ih=>
  rw [List.contains_cons,<-ih];show Bool.rec (motive:=λ_=>Bool) (ze9 l c) true (Qq c x)=_;rw [c0];cases c==x<;>rfl
theorem zh8 (a:List Nat): ∀b:List Nat,leq a b=decide (a=b):=by
 induction a with
 |nil=>exact λb=>by cases b<;>rfl
 |cons x a ih=>intro b;cases b with
  |nil=>rfl
  |cons y b=>
   show Bool.rec (motive:=λ_=>Bool) false (leq a b) (Qq x y)=_;rw [ih,c0];by_cases h:x=y
   ·subst h;simp
   ·rw [beq_false_of_ne h];exact (decide_eq_false λe=>h (Q6.inj e).1).symm
theorem zgX (a:List Nat): ∀b:List Nat,pfx a b=a.isPrefixOf b:=by
 induction a with
 |nil=>exact λb=>by cases b<;>rfl
 |cons x a ih=>intro b;cases b with
  |nil=>rfl
  |cons y b=>
   show Bool.rec (motive:=λ_=>Bool) false (pfx a b) (Qq x y)=(x==y && a.isPrefixOf b);rw [ih,c0];cases x==y<;>rfl
theorem xO (a b:Int):iEq a b=decide (a=b):=by
 cases a with
 |ofNat m=>
  cases b with
  |ofNat n=>rw [QL,decide_eq_true_eq];exact ⟨λe=>congrArg KC (aK e),λe=>by cases e;exact Nat.beq_refl m⟩
  |negSucc n=>rfl
 |negSucc m=>
  cases b with
  |ofNat n=>rfl
  |negSucc n=>rw [QL,decide_eq_true_eq];exact ⟨λe=>congrArg Int.negSucc (aK e),λe=>by cases e;exact Nat.beq_refl m⟩
theorem jE {a b:Nat}:Qg a b=true ↔ a<=b:=⟨Nat.le_of_ble_eq_true,ZS⟩
theorem mG (a b:Int):iLe a b=decide (a<=b):=by
 rw [QL,decide_eq_true_eq];cases a with
 |ofNat m=>
  cases b with
  |ofNat n=>exact jE.trans Jr.symm
  |negSucc n=>exact ⟨λe=>(nomatch e:False).elim,λe=>absurd e (Zp.mpr (Int.lt_of_lt_of_le (Int.negSucc_lt_zero n) (QH m)))⟩
 |negSucc m=>
  cases b with
  |ofNat n=>exact ⟨λ_=>Int.le_of_lt (Int.lt_of_lt_of_le (Int.negSucc_lt_zero m) (QH n)),λ_=>rfl⟩
  |negSucc n=>exact jE.trans ⟨λh=>Int.neg_le_neg (Jr.mpr (J7 h)),λh=>J5 (Jr.mp (Int.neg_le_neg_iff.mp h))⟩
theorem rN (a b:Int):iLt a b=decide (a<b):=by
 have e:iLt a b=!(iLe b a):=by
  have q: ∀m n:Nat,Qg (Qp m) n=!(Qg n m):=λm n=>by
   rw [QL,jE,JT,<-Bool.not_eq_true,jE];exact KL.symm
  cases a with
  |ofNat m=>
   cases b with
   |ofNat n=>exact q m n
   |negSucc n=>rfl
  |negSucc m=>
   cases b with
   |ofNat n=>rfl
   |negSucc n=>exact q n m
 rw [e,mG,<-decide_not,decide_eq_decide];exact Zp
theorem zf4 {m k:Nat} (e:m % 2=k % 2) (e2:m / 2=k / 2):m=k:=by omega
theorem iZ {α:Type} (t:Tr α): ∀ {n:Nat}{o:α}{j:Nat}{y:α},(t.put n o).get j=some y->(j=n/\y=o)\/(j≠n/\t.get j=some y):=by
 induction t with
 |lf=>
  intro n o j y h;cases n with
  |zero=>
   cases j with
   |zero=>cases h;exact .inl ⟨rfl,rfl⟩
   |succ m=>
    exfalso;have h:(Bool.rec ((Tr.lf:Tr α).get (Nat.div m 2)) ((Tr.lf:Tr α).get (Nat.div m 2)) (Qq (Nat.mod m 2) 0):Option α)=some y:=h;cases q:Qq (Nat.mod m 2) 0<;>rw [q] at h<;>cases h
  |succ n=>cases h
 |nd x l r il ir=>
  intro n o j y h;cases n with
  |zero=>
   cases j with
   |zero=>cases h;exact .inl ⟨rfl,rfl⟩
   |succ m=>exact .inr ⟨nofun,h⟩
  |succ k=>
   have h:(Bool.rec (motive:=λ_=>Tr α) (.nd x l (r.put (Nat.div k 2) o)) (.nd x (l.put (Nat.div k 2) o) r) (Qq (Nat.mod k 2) 0)).get j=some y:=h;cases qk:Qq (Nat.mod k 2) 0 with
   |false=>
    rw [qk] at h;cases j with
    |zero=>exact .inr ⟨nofun,h⟩
    |succ m=>
     have h:(Bool.rec (motive:=λ_=>Option α) ((r.put (Nat.div k 2) o).get (Nat.div m 2)) (l.get (Nat.div m 2)) (Qq (Nat.mod m 2) 0))=some y:=h;have g:(Tr.nd x l r).get (m+1)=Bool.rec (motive:=λ_=>Option α) (r.get (Nat.div m 2)) (l.get (Nat.div m 2)) (Qq (Nat.mod m 2) 0):=rfl;cases qm:Qq (Nat.mod m 2) 0 with
     |false=>
      rw [qm] at h g;rcases ir h with ⟨e,rfl⟩| ⟨e,e2⟩
      ·have hk: ¬k % 2=0:=λe=>by rw [show Nat.mod k 2=0 from e] at qk;cases qk
       have hm: ¬m % 2=0:=λe=>by rw [show Nat.mod m 2=0 from e] at qm;cases qm
       exact .inl ⟨congrArg Qp (zf4 ((Nat.mod_two_ne_zero.mp hm).trans (Nat.mod_two_ne_zero.mp hk).symm) e),rfl⟩
      ·exact .inr ⟨λq=>e (by rw [Qp.inj q]),g.trans e2⟩
     |true=>
      rw [qm] at h g;exact .inr ⟨λq=>(by rw [Qp.inj q] at qm;rw [qm] at qk;cases qk),g.trans h⟩
   |true=>
    rw [qk] at h;cases j with
    |zero=>exact .inr ⟨nofun,h⟩
    |succ m=>
     have h:(Bool.rec (motive:=λ_=>Option α) (r.get (Nat.div m 2)) ((l.put (Nat.div k 2) o).get (Nat.div m 2)) (Qq (Nat.mod m 2) 0))=some y:=h;have g:(Tr.nd x l r).get (m+1)=Bool.rec (motive:=λ_=>Option α) (r.get (Nat.div m 2)) (l.get (Nat.div m 2)) (Qq (Nat.mod m 2) 0):=rfl;cases qm:Qq (Nat.mod m 2) 0 with
     |true=>
      rw [qm] at h g;rcases il h with ⟨e,rfl⟩| ⟨e,e2⟩
      ·exact .inl ⟨congrArg Qp (zf4 ((aK qm:m % 2=0).trans (aK qk:k % 2=0).symm) e),rfl⟩
      ·exact .inr ⟨λq=>e (by rw [Qp.inj q]),g.trans e2⟩
     |false=>
      rw [qm] at h g;exact .inr ⟨λq=>(by rw [Qp.inj q] at qm;rw [qm] at qk;cases qk),g.trans h⟩
def zfq (P:Prg) (o:MObj):Prop:=MObj.casesOn (motive:=λ_=>Prop) o (λ_=>True) (λ_ _=>True) λc fs=> ∀n v,cH fs n=some v->P.hasFld c n=true
structure Rep (P:Prg) (H:TH) (h:MH):Prop where
 n:H.n=h.length
 g: ∀ {i:Nat}{o:MObj},H.t.get i=some o->h[i]?=some o
 f: ∀ {i:Nat}{o:MObj},H.t.get i=some o->zfq P o
section
variable {P:Prg}{H:TH}{h:MH}
theorem Rep.push (R:Rep P H h) {o:MObj} (k:zfq P o):Rep P (H.push o) (h++ [o]):=by
 refine ⟨?_,λ{i x} e=>?_,λ{i x} e=>?_⟩
 ·show Qp H.n=_;rw [R.n,QG];rfl
 ·rcases iZ H.t e with ⟨rfl,rfl⟩| ⟨_,e⟩
  ·rw [R.n,Ju (Qo _),ZM];rfl
  ·have e:=R.g e
   exact (Q0 (Qk.mp e).1).trans e
 ·rcases iZ H.t e with ⟨rfl,rfl⟩| ⟨_,e⟩
  ·exact k
  ·exact R.f e
theorem Rep.upd (R:Rep P H h) {a:Nat}{o o':MObj} (g:H.t.get a=some o') (k:zfq P o):Rep P (H.upd a o) (h.set a o):=by
 have hl:=(Qk.mp (R.g g)).1;refine ⟨?_,λ{i x} e=>?_,λ{i x} e=>?_⟩
 ·show H.n=_;rw [R.n,Kr]
 ·rcases iZ H.t e with ⟨rfl,rfl⟩| ⟨q,e⟩
  ·exact ZO hl
  ·exact (Zc (λe=>q e.symm)).trans (R.g e)
 ·rcases iZ H.t e with ⟨rfl,rfl⟩| ⟨_,e⟩
  ·exact k
  ·exact R.f e
end
def Of {α:Type} (P:Prg) (r:Re α) (o:Option (α×MH)):Prop:= ∀a H,r= .ok a H-> ∃h,o=some (a,h)/\Rep P H h
section
variable {P:Prg}{H:TH}{h:MH}{α β:Type}
theorem a7 {o:Option (α×MH)}:Of P .no o:=nofun
theorem b5 (R:Rep P H h) {a:α}:Of P (.ok a H) (some (a,h)):=λ_ _ e=>by cases e;exact ⟨h,rfl,R⟩
theorem iP (R:Rep P H h) {o:MObj} (k:zfq P o):Of P (mk H o) (aS h o):=λ_ _ e=>by cases e;rw [R.n];exact ⟨_,rfl,R.push k⟩
theorem bR {r:Re α}{o:Option (α×MH)}{f:α->TH->Re β}{g:α->MH->Option (β×MH)} (a:Of P r o) (b: ∀x G k,Rep P G k->Of P (f x G) (g x k)):Of P (bn r f) (bnd o g):=λy G e=>by
 obtain ⟨x,H,e1,e2⟩:=zfC e;obtain ⟨k,rfl,R⟩:=a _ _ e1;exact b x H k R y G e2
def Le (a b:Option α):Prop:= ∀x,a=some x->b=some x
theorem kI {r o:Option α}{f:α->Re β}{g:α->Option (β×MH)} (a:Le r o) (b: ∀x,r=some x->Of P (f x) (g x)):Of P (ob r f) (o.bind g):=λy G e=>by
 obtain ⟨x,e1,e2⟩:=cB e;rw [a x e1];exact b x e1 y G e2
theorem tD {r o:Option α}{f:α->β} (a:Le r o) (R:Rep P H h):Of P (ob r λx=> .ok (f x) H) (o.map λx=>(f x,h)):=λy G e=>by
 obtain ⟨x,e1,e2⟩:=cB e;cases e2;rw [a x e1];exact ⟨h,rfl,R⟩
theorem iQ {b c:Bool}{r:Re α}{o:Option (α×MH)} (e:b=true->c=true) (a:b=true->Of P r o):Of P (gr b r) (grd c o):=λy G q=>by
 obtain ⟨q1,q2⟩:=d4 q;rw [e q1];exact a q1 y G q2
theorem b6 {r:Re α}{o o':Option (α×MH)} (a:Of P r o):Of P r (alt o o'):=λy G e=>by
 obtain ⟨k,rfl,R⟩:=a y G e;exact ⟨k,rfl,R⟩
theorem aW {r:Re α}{o o':Option (α×MH)} (e:o=none) (a:Of P r o'):Of P r (alt o o'):=by subst e;exact a
theorem zqk {a b b':Option α} (l:Le a b):Le a (alt b b'):=λx e=>by rw [l x e];rfl
theorem zqj {a b b':Option α} (e:b=none) (l:Le a b'):Le a (alt b b'):=by subst e;exact l
theorem bP {b:Option α}:Le none b:=nofun
theorem xJ {b:Option α}:Le b b:=λ_ e=>e
theorem zqh {a b:Option α}{f g:α->Option β} (l:Le a b) (m: ∀x,a=some x->Le (f x) (g x)):Le (ooX a f) (b.bind g):=λy e=>by
 obtain ⟨x,e1,e2⟩:=bO e;rw [l x e1];exact m x e1 y e2
theorem zqi {a b:Option α}{f:α->β} (l:Le a b):Le (ooX a λx=>some (f x)) (b.map f):=λy e=>by
 obtain ⟨x,e1,e2⟩:=bO e;cases e2;rw [l x e1];rfl
theorem zf7 {b c:Bool}{r o:Option α} (e:b=true->c=true) (a:b=true->Le r o):Le (gd b r) (grd c o):=λy q=>by
 obtain ⟨q1,q2⟩:=kT q;rw [e q1];exact a q1 y q2
end
section
variable {P:Prg}{H:TH}{h:MH}
theorem Rep.le (R:Rep P H h) (a:Nat):Le (H.t.get a) h[a]?:=λ_ e=>R.g e
theorem Rep.list (R:Rep P H h) (x:Val):Le (iT H x) (aI h x):=by
 cases x with
 |ref a=>exact zqh (R.le a) λo _=>by cases o<;>first|exact xJ|exact bP
 |_=>exact bP
theorem Rep.dict (R:Rep P H h) (x:Val) {es:List (Val×Val)} (e:zJ H x=some es): ∃ep,dictAt h x=some (ep,es):=by
 cases x with
 |ref a=>
  obtain ⟨o,e1,e2⟩:=bO e;cases o with
  |dict ep es'=>cases e2;exact ⟨ep,by show h[a]?.bind _=_;rw [R.g e1];rfl⟩
  |_=>cases e2
 |_=>cases e
end
theorem zdG {a b:Val}{e:Bool} (h:aEq a b=some e): ∃x y:Atom,a=x.val/\b=y.val/\e=decide (x=y):=by
 cases a with
 |int i=>
  cases b with
  |int j=>cases h;exact ⟨.i i,.i j,rfl,rfl,(xO i j).trans (decide_eq_decide.mpr ⟨congrArg Atom.i,λe=>Atom.i.inj e⟩)⟩
  |_=>cases h
 |str s=>
  cases b with
  |str t=>cases h;exact ⟨.s ⟨s.toArray⟩,.s ⟨t.toArray⟩,rfl,rfl,(zh8 s t).trans (decide_eq_decide.mpr ⟨λe=>e▸rfl,λe=>congrArg (λx:Str=>x.cps.toList) (Atom.s.inj e)⟩)⟩
  |_=>cases h
 |_=>cases h
theorem ziL (a:List Val): ∀ {b:List Val}{e:Bool},zrx a b=some e-> ∃x y:List Atom,a=x.map Atom.val/\b=y.map Atom.val/\e=decide (x=y):=by
 induction a with
 |nil=>
  intro b e h;cases b with
  |nil=>cases h;exact ⟨[],[],rfl,rfl,rfl⟩
  |cons _ _=>cases h
 |cons x a ih=>
  intro b e h;cases b with
  |nil=>cases h
  |cons y b=>
   obtain ⟨e1,h1,h⟩:=bO h;obtain ⟨e2,h2,h⟩:=bO h;obtain ⟨p,q,rfl,rfl,rfl⟩:=zdG h1;obtain ⟨ps,qs,rfl,rfl,rfl⟩:=ih h2;refine ⟨p::ps,q::qs,rfl,rfl,?_⟩;cases h;by_cases c:p=q
   ·subst c;simp
   ·rw [decide_eq_false c];exact (decide_eq_false λe=>c (Q6.inj e).1).symm
theorem uA (x:List Atom):aG (.tup (x.map Atom.val))=3:=by
 have:(x.map Atom.val).all cG=true:=by
  induction x with
  |nil=>rfl
  |cons a x ih=>rw [QJ,List.all_cons,ih];cases a<;>rfl
 show (bif false then 1 else bif (x.map Atom.val).all cG then 3 else 0)=3;rw [this];rfl
theorem zqo {a b:Val}{e:Bool} (h:kE a b=some e):kEq a b=e/\aG a=aG b/\aG b≠0:=by
 have at':aEq a b=some e->kEq a b=e/\aG a=aG b/\aG b≠0:=λh=>by
  obtain ⟨x,y,rfl,rfl,rfl⟩:=zdG h;rw [bQ,bQ];exact ⟨mB x y,rfl,nofun⟩
 cases a with
 |tup s=>
  cases b with
  |tup t=>
   obtain ⟨x,y,rfl,rfl,rfl⟩:=ziL s h;rw [uA,uA];exact ⟨rJ x y,rfl,nofun⟩
  |_=>cases h
 |_=>exact at' h
theorem dget_cons' {k k' v:Val}{es:List (Val×Val)}:bA ((k',v)::es) k=bif kEq k' k then some v else bA es k:=by
 unfold bA;rw [Jg];cases kEq k' k<;>rfl
theorem d9 {k:Val} (es:List (Val×Val)): ∀ {r:Option Val},gX es k=some r->bA es k=r/\(es= []\/iX es=some (aG k)):=by
 induction es with
 |nil=>intro r h;cases h;exact ⟨rfl,.inl rfl⟩
 |cons p es ih=>
  intro r h;obtain ⟨e,h1,h⟩:=bO h;obtain ⟨q1,q2,_⟩:=zqo h1;have q3:iX (p::es)=some (aG k):=congrArg some q2;refine ⟨?_,.inr q3⟩;show bA ((p.1,p.2)::es) k=r;rw [dget_cons',q1];cases e with
  |false=>exact (ih h).1
  |true=>exact Qf.inj h
theorem zqn {k:Val} (h:kOk k=true):aG k≠0:=by
 cases k with
 |tup vs=>
  have:vs.all cG=true:=by
   induction vs with
   |nil=>rfl
   |cons v vs ih=>
    rw [List.all_cons];cases v with
    |int i=>exact ih h
    |str s=>exact ih h
    |_=>cases h
  show (bif false then 1 else bif vs.all cG then 3 else 0)≠0;rw [this];nofun
 |int i=>nofun
 |str s=>nofun
 |_=>cases h
theorem mV {es:List (Val×Val)}{k:Val}{r:Option Val} (h:kOk k=true) (g:gX es k=some r):aE es k=true:=by
 have h1:(aG k !=0)=true:=bne_iff_ne.mpr (zqn h);unfold aE;rw [h1];rcases (d9 es g).2 with rfl|q
 ·rfl
 ·rw [q,beq_self_eq_true];cases es.isEmpty<;>rfl
theorem zfs {k v:Val} (es:List (Val×Val)): ∀ {r:List (Val×Val)},zgg es k v=some r->r=es.map λp=>bif kEq p.1 k then (p.1,v) else p:=by
 induction es with
 |nil=>intro r h;cases h;rfl
 |cons p es ih=>
  intro r h;obtain ⟨e,h1,h⟩:=bO h;obtain ⟨r',h2,h⟩:=bO h;rw [QJ,(zqo h1).1,<-ih h2];cases h;cases e<;>rfl
theorem zI {es r:List (Val×Val)}{k v:Val}{g:Option Val} (h:gX es k=some g) (e:zdp es k v g=some r):r=fQ es k v:=by
 unfold fQ;rw [(d9 es h).1];cases g with
 |none=>cases e;exact iW _ _
 |some y=>exact zfs es e
section
variable {P:Prg}{H:TH}{h:MH}
theorem vP (R:Rep P H h) (x:Val):Le (tru H x) (truthy h x):=by
 cases x with
 |ref a=>
  intro b e;obtain ⟨vs,e1,e2⟩:=bO e;cases e2;show (aI h (.ref a)).map _=_;rw [R.list _ _ e1,gA];rfl
 |int i=>
  intro b e;cases e;show some (i !=0)=some (Bool.not (iEq i 0));rw [xO];rfl
 |str s=>exact λb e=>by cases e;rw [gA];rfl
 |tup s=>exact λb e=>by cases e;rw [gA];rfl
 |_=>exact λb e=>e
theorem zhh {a b c:Int} (e:zpL a b=some c):c=a+b:=by
 cases a with
 |ofNat m=>
  cases b with
  |ofNat n=>cases e;rfl
  |negSucc n=>cases e
 |negSucc m=>cases e
theorem zhb {a b c:Int} (e:zpH a b=some c):c=a-b:=by
 cases a with
 |ofNat m=>
  cases b with
  |ofNat n=>
   have e:Bool.rec (motive:=λ_=>Option Int) none (some (.ofNat (Nat.sub m n))) (Qg n m)=some c:=e;cases q:Qg n m with
   |false=>rw [q] at e;cases e
   |true=>rw [q] at e;cases e;exact Int.ofNat_sub (jE.mp q)
  |negSucc n=>cases e
 |negSucc m=>cases e
theorem ze4 (v:Val) (n:Nat):ze5 v n=(Qm n [v]).flatten:=by
 induction n with
 |zero=>rfl
 |succ n ih=>rw [JW,JR,<-ih];rfl
theorem zfD (R:Rep P H h) (op:BOp) (x y:Val):Of P (ziy op x y H) (eJ op x y h):=by
 cases op with
 |add=>
  cases x with
  |int a=>
   cases y with
   |int b=>
    intro v G e;obtain ⟨c,e1,e2⟩:=cB e;cases e2;rw [zhh e1];exact ⟨h,rfl,R⟩
   |_=>exact a7
  |str s=>
   cases y with
   |str t=>exact aW rfl (aW rfl (b6 (iQ (λe=>by rw [<-aL,<-aL];exact e) λ_=>by rw [iW];exact b5 R)))
   |_=>exact a7
  |_=>exact a7
 |sub=>
  cases x with
  |int a=>
   cases y with
   |int b=>
    intro v G e;obtain ⟨c,e1,e2⟩:=cB e;cases e2;rw [zhb e1];exact ⟨h,rfl,R⟩
   |_=>exact a7
  |_=>exact a7
 |mul=>
  cases x with
  |ref a=>
   intro v G e;obtain ⟨vs,e1,e⟩:=cB e;cases y with
   |int i=>
    cases vs with
    |nil=>cases e
    |cons w r=>
     obtain ⟨e2,e⟩:=d4 e;cases c9 e2;cases i with
     |negSucc n=>cases e
     |ofNat n=>
      obtain ⟨e3,e⟩:=d4 e;have e4:=jE.mp e3;cases e;refine ⟨h++ [.list (ze5 w n)],?_,R.push (o:=.list (ze5 w n)) trivial⟩;show alt ((aI h (.ref a)).bind λa=>some (grd (eG a.length (n:Int)) (aS h (.list (Qm (n:Int).toNat a).flatten)))|>.bind id) _=_;rw [R.list _ _ e1]
      have:eG 1 (n:Int)=true:=by
       unfold eG;rw [Nat.one_mul,Jz,e3,Z7,decide_eq_true (Jr.mpr e4),decide_eq_true (Jy (Int.neg_nonpos_of_nonneg (QH _)) (QH _))];rfl
      show alt (grd (eG 1 (n:Int)) (aS h (.list (Qm n [w]).flatten))) _=_;rw [this,<-ze4,R.n];rfl
   |_=>cases e
  |_=>exact a7
 |_=>exact a7
theorem zbp {a b:Val}{e:Bool} (h':MH) (q:aEq a b=some e):lU h' a b=some e:=by
 obtain ⟨x,y,rfl,rfl,rfl⟩:=zdG q;unfold lU;rw [eY,eY];exact congrArg some (mW x y)
theorem zfn (es2 es:List (Val×Val)):Le (zgb es2 es) (b8 h es2 es):=by
 induction es with
 |nil=>exact λ_ e=>e
 |cons p es ih=>
  intro b e;obtain ⟨o,e1,e⟩:=bO e;unfold b8;rw [(d9 es2 e1).1];cases o with
  |none=>exact e
  |some y=>
   obtain ⟨e2,q1,e⟩:=bO e;obtain ⟨e3,q2,e⟩:=bO e;show (lU h p.2 y).bind _=_;rw [zbp h q1,ih _ q2];exact e
theorem uJ {es:List (Val×Val)} (e:xP es=1):iX es=some 1:=by
 cases es with
 |nil=>cases e
 |cons p r=>
  have q:aG p.1=1:=by
   obtain ⟨k,v⟩:=p;cases k with
   |int i=>rfl
   |str s=>rfl
   |_=>cases e
  exact congrArg some q
theorem zfu {a b:List (Val×Val)}:Le (ziq a b) (grd (dJ a b) (bif a.length==b.length then b8 h b a else some false)):=by
 unfold ziq;refine zf7 (λe=>?_) λ_=>?_
 ·have e:=(Qa.mp (Qa.mp (Qa.mp e).2).2)
  unfold dJ;rw [uJ (aK e.1),uJ (aK e.2)];cases a.isEmpty<;>cases b.isEmpty<;>rfl
 ·rw [<-aL a,<-aL b,<-c0]
  cases Qq (bK a) (bK b) with
  |false=>exact xJ
  |true=>exact zfn b a
theorem xU (R:Rep P H h) (x y:Val):Le (eqT H x y) (veq h x y):=by
 have at':aEq x y=eqT H x y->dictAt h x=none->Le (eqT H x y) (veq h x y):=λq n b e=>by
  rw [<-q] at e;unfold veq;rw [n];exact zbp h e
 cases x with
 |ref a=>
  intro b e;obtain ⟨d,e1,e⟩:=bO e;obtain ⟨d2,e2,e⟩:=bO e;obtain ⟨p1,q1⟩:=R.dict _ e1;obtain ⟨p2,q2⟩:=R.dict _ e2;unfold veq;rw [q1,q2];show alt (grd (dJ d d2) (bif d.length==d2.length then b8 h d2 d else some false)) _=_;rw [zfu _ e];rfl
 |_=>exact at' rfl rfl
theorem zcZ (a b:Val):Le (isT a b) (isV a b):=by
 cases b with
 |none=>cases a<;>exact λ_ e=>e
 |top m=>cases a<;>first|exact bP|exact λ_ e=>e|exact λ_ e=>by cases e;exact congrArg some (c0 _ _).symm
 |ty m=>cases a<;>first|exact bP|exact λ_ e=>e|exact λ_ e=>by cases e;exact congrArg some (c0 _ _).symm
 |_=>exact bP
theorem ziJ {i:Int}: ∀ {vs:List Val}{b:Bool},zrv i vs=some b-> ∃ds,vs.mapM (toD h 7)=some ds/\(ds.any λy=>Zl y (.int i))=b:=by
 intro vs
 induction vs with
 |nil=>intro b e;cases e;exact ⟨[],rfl,rfl⟩
 |cons v vs ih=>
  intro b e;cases v with
  |int j=>
   obtain ⟨b',e1,e⟩:=bO e;obtain ⟨ds,q1,q2⟩:=ih e1;refine ⟨.int j::ds,?_,?_⟩
   ·rw [Jk,q1];rfl
   ·cases e
    rw [List.any_cons,q2,xO];rfl
  |_=>cases e
theorem zc7 (R:Rep P H h) (x y:Val):Le (inT H x y) (rL h x y):=by
 cases y with
 |str t=>
  cases x with
  |str s=>
   cases s with
   |nil=>exact bP
   |cons c r=>
    intro b e;obtain ⟨e1,e⟩:=kT e;cases c9 e1;cases e;rw [ze8];rfl
  |_=>exact bP
 |ref a=>
  intro b e;obtain ⟨o,e1,e⟩:=bO e;have g:=R.g e1;cases o with
  |list vs=>
   cases x with
   |int i=>
    obtain ⟨ds,q1,q2⟩:=ziJ (h:=h) e;show alt none (alt none (alt ((h[a]?.bind MObj.list?).bind λvs=>zT h (.int i) vs) _))=_;rw [g];show alt none (alt none (alt ((vs.mapM (toD h 7)).bind λds=>(some (J0 i)).map λd=>ds.any λy=>Zl y d) _))=_;rw [q1];exact congrArg some q2
   |_=>cases e
  |dict ep es=>
   obtain ⟨k1,e⟩:=kT e;obtain ⟨r,k2,e⟩:=bO e;show alt none (alt none (alt ((h[a]?.bind MObj.list?).bind λvs=>zT h x vs) ((h[a]?.bind MObj.dict?).bind λd=>grd (aE d.2 x) (some (bA d.2 x).isSome))))=_;rw [g];show grd (aE es x) (some (bA es x).isSome)=_;rw [mV k1 k2,(d9 es k2).1];exact e
  |inst c fs=>cases e
 |_=>exact bP
theorem xK {a b:Option Bool} (l:Le a b):Le (ooX a λb=>some (Bool.not b)) (b.map (!·)):=zqi l
theorem zfy (R:Rep P H h) (op:COp) (x y:Val):Le (zis op x y H) (jD op x y h):=by
 have ci: ∀ (f g:Int->Int->Bool),(∀a b,f a b=g a b) ->Le (vI x none λa=>vI y none λb=>some (f a b)) (zaZ x y g):=λf g q=>by
  cases x with
  |int a=>
   cases y with
   |int b=>exact λ_ e=>by cases e;rw [q];rfl
   |_=>exact bP
  |_=>exact bP
 cases op with
 |eq=>exact xU R x y
 |ne=>exact xK (xU R x y)
 |lt=>exact ci _ _ λa b=>rN a b
 |le=>exact ci _ _ λa b=>mG a b
 |gt=>exact ci _ _ λa b=>rN b a
 |ge=>exact ci _ _ λa b=>mG b a
 |isin=>exact zc7 R x y
 |notin=>exact xK (zc7 R x y)
 |is=>exact zcZ x y
 |isnot=>exact xK (zcZ x y)
end
theorem xS {α:Type} (fs:List (Nat×α)) (n:Nat):fgt fs n=(fs.find? λp=>p.1==n).map (·.2):=by
 induction fs with
 |nil=>rfl
 |cons p r ih=>
  obtain ⟨a,v⟩:=p;show Bool.rec (motive:=λ_=>Option α) (fgt r n) (some v) (Qq a n)=_;rw [ih,Jg,c0];cases a==n<;>rfl
theorem zde (fs:List (Nat×Val)) (n:Nat) (v:Val):fpt fs n v=kU fs n v:=by
 induction fs with
 |nil=>rfl
 |cons p r ih=>
  show Bool.rec (motive:=λ_=>List (Nat×Val)) (p::fpt r n v) ((n,v)::r) (Qq p.1 n)=bif p.1==n then (n,v)::r else p::kU r n v;rw [ih,c0];cases p.1==n<;>rfl
theorem gC {p:Nat×Val}{r:List (Nat×Val)}{n:Nat}:cH (p::r) n=bif p.1==n then some p.2 else cH r n:=by
 unfold cH;rw [Jg];cases p.1==n<;>rfl
theorem zdd {n m:Nat}{v w:Val}: ∀ {fs:List (Nat×Val)},cH (kU fs n v) m=some w->m=n\/cH fs m=some w:=by
 intro fs
 induction fs with
 |nil=>
  intro e;have e:cH [(n,v)] m=some w:=e;rw [gC] at e;cases q:n==m with
  |true=>exact .inl (beq_iff_eq.mp q).symm
  |false=>rw [q] at e;cases e
 |cons p r ih=>
  intro e;have e:cH (bif p.1==n then (n,v)::r else p::kU r n v) m=some w:=e;rw [gC];cases q:p.1==n with
  |true=>
   rw [q,cond_true,gC] at e;rw [beq_iff_eq.mp q];cases q':n==m with
   |true=>exact .inl (beq_iff_eq.mp q').symm
   |false=>rw [q'] at e;exact .inr e
  |false=>
   rw [q,cond_false,gC] at e;cases q':p.1==m with
   |true=>rw [q'] at e;exact .inr e
   |false=>rw [q'] at e;exact ih e
structure pP (P:Prg) (a:Nat) (k:CT):Prop where
 ats: ∀n v,fgt k.ats n=some v->cC P a n=some v
 ms: ∀n f,fgt k.ms n=some f->bS P a n=some f
 cl: ∃c,P.clsAt a=some c/\c.init=k.init
 fl: ∀n,zeI k.fl n=true->P.hasFld a n=true
structure yF (P:Prg) (T:PT):Prop where
 fn: ∀a f,T.fn.get a=some (some f) ->P.fnAt a=some f
 io:T.io=P.insts
 cl: ∀a k,fgt T.cl a=some k->pP P a k
 cn: ∀a,fgt T.cl a=none->P.clsAt a=none
theorem yF.inst {P:Prg}{T:PT} (K:yF P T) (a:Nat):P.instAt a=fgt T.io a:=by rw [xS,K.io];rfl
theorem zhi {α:Type}{i:Val}{f:Nat->Option α}{v:α} (e:nI i none f=some v): ∃n:Nat,i= .int (n:Int)/\f n=some v:=by
 cases i with
 |int i=>
  cases i with
  |ofNat n=>exact ⟨n,rfl,e⟩
  |negSucc n=>cases e
 |_=>cases e
theorem zeM {α:Type}{i:Val}{f:Nat->Re α}{v:α}{G:TH} (e:nI i .no f= .ok v G): ∃n:Nat,i= .int (n:Int)/\f n= .ok v G:=by
 cases i with
 |int i=>
  cases i with
  |ofNat n=>exact ⟨n,rfl,e⟩
  |negSucc n=>cases e
 |_=>cases e
theorem zc8 {n k:Nat} (h:k<n):idx n (.int (k:Int))=some k:=by
 show grd (decide (0<=(k:Int)) && decide ((k:Int)<(n:Int))) (some (k:Int).toNat)=_;rw [decide_eq_true (QH k),decide_eq_true (J6.mpr h)];rfl
theorem zrr {α:Type}{vs:List α}{i:Val}{v:α} (e:nI i none (λn=>kR vs n)=some v):(idx vs.length i).bind (λk=>vs[k]?)=some v:=by
 obtain ⟨n,rfl,e2⟩:=zhi e;rw [d0] at e2;rw [zc8 (Qk.mp e2).1];exact e2
section
variable {P:Prg}{T:PT}{H:TH}{h:MH}
theorem zd5 (R:Rep P H h) (o i:Val):Le (zgS H o i) (dG h o i):=by
 cases o with
 |tup vs=>exact zqk λv e=>zrr e
 |str s=>
  intro v e;obtain ⟨n,rfl,e2⟩:=zhi e;obtain ⟨c,e1,e3⟩:=bO e2;cases e3;rw [d0] at e1;show alt none (alt none (alt none (alt ((idx s.length (.int (n:Int))).bind λk=>s[k]?.map λc=>Val.str [c]) _)))=_;rw [zc8 (Qk.mp e1).1];show alt none (alt none (alt none (alt (s[n]?.map λc=>Val.str [c]) _)))=_;rw [e1];rfl
 |ref a=>
  intro v e;obtain ⟨ob,e1,e⟩:=bO e;have g:=R.g e1;show alt none (alt none (alt ((h[a]?.bind MObj.list?).bind λvs=>(idx vs.length i).bind λk=>vs[k]?) (alt none (alt ((h[a]?.bind MObj.dict?).bind λd=>grd (aE d.2 i) (bA d.2 i)) _))))=_;rw [g];cases ob with
  |list vs=>
   show alt ((idx vs.length i).bind λk=>vs[k]?) _=_;rw [zrr e];rfl
  |dict ep es=>
   obtain ⟨k1,e⟩:=kT e;obtain ⟨r,k2,e⟩:=bO e;show alt (grd (aE es i) (bA es i)) _=_;rw [mV k1 k2,(d9 es k2).1,show r=some v from e];rfl
  |inst _ _=>cases e
 |_=>exact bP
theorem lP {n k:Nat}:dA n (.int (k:Int))=some (min k n):=by
 show grd (decide (0<=(k:Int))) (some (min (k:Int).toNat n))=_;rw [decide_eq_true (QH k)];rfl
theorem zK {α:Type} (l:List α) (n:Nat):cut l (min n l.length) l.length=l.drop n:=by
 unfold cut;rw [Zb];rcases Nat.le_total n l.length with q|q
 ·rw [Zg q]
 ·rw [J9 q,Js (Qo _),Js q]
theorem zfv {α:Type} (l:List α) (m n:Nat):cut l (min m l.length) (min n l.length)=(l.take n).drop m:=by
 unfold cut
 have:l.take (min n l.length)=l.take n:=by
  rcases Nat.le_total n l.length with q|q
  ·rw [Zg q]
  ·rw [J9 q,Zb,List.take_of_length_le q]
 rw [this];rcases Nat.le_total m l.length with q|q
 ·rw [Zg q]
 ·rw [J9 q,Js (List.length_take_le' ..),Js (Qe (List.length_take_le' ..) q)]
theorem zan (R:Rep P H h) (o:Val) (k:Nat) (bs:List Val):Of P (v8 H o k bs) (slice h o k bs):=by
 cases o with
 |str s=>
  cases bs with
  |nil=>exact a7
  |cons b r=>
   cases r with
   |nil=>
    intro v G e;obtain ⟨q1,e2⟩:=d4 e
    clear e
    obtain ⟨n,rfl,e3⟩:=zeM e2
    clear e2
    cases aK q1;cases e3;refine ⟨h,?_,R⟩;show alt (((dA s.length (.int (n:Int))).map λx=>(x,s.length)).bind λp=>some (Val.str (cut s p.1 p.2),h)) _=_;rw [lP];show some (Val.str (cut s (min n s.length) s.length),h)=_;rw [zK,iV]
   |cons b2 r2=>
    intro v G e;obtain ⟨q,e2⟩:=d4 e
    clear e
    obtain ⟨q1,q2⟩:=Qa.mp q
    clear q
    obtain ⟨m,rfl,e3⟩:=zeM e2
    clear e2
    obtain ⟨n,rfl,e4⟩:=zeM e3
    clear e3
    cases aK q1;cases c9 q2;cases e4;refine ⟨h,?_,R⟩;show alt (((dA s.length (.int (m:Int))).bind λx=>(dA s.length (.int (n:Int))).map λy=>(x,y)).bind λp=>some (Val.str (cut s p.1 p.2),h)) _=_;rw [lP,lP];show some (Val.str (cut s (min m s.length) (min n s.length)),h)=_;rw [zfv,iV,zcQ]
 |ref a=>
  intro v G e;obtain ⟨vs,e1,e2⟩:=cB e
  clear e
  obtain ⟨q1,e3⟩:=d4 e2
  clear e2
  cases aK q1;cases bs with
  |nil=>cases e3
  |cons b r=>
   obtain ⟨q2,e4⟩:=d4 e3
   clear e3
   cases c9 q2;obtain ⟨n,rfl,e5⟩:=zeM e4
   clear e4
   cases e5;refine ⟨_,?_,R.push (o:=.list (p9 vs n)) trivial⟩;show alt none ((aI h (.ref a)).bind λs=>((dA s.length (.int (n:Int))).map λx=>(x,s.length)).bind λp=>aS h (.list (cut s p.1 p.2)))=_;rw [R.list _ _ e1];show (((dA vs.length (.int (n:Int))).map λx=>(x,vs.length)).bind λp=>aS h (.list (cut vs p.1 p.2)))=_;rw [lP];show aS h (.list (cut vs (min n vs.length) vs.length))=_;rw [zK,iV,R.n];rfl
 |_=>exact a7
theorem zdy (K:yF P T) (R:Rep P H h) (o:Val) (n:Nat):Le (zdz T H o n) (getAttr P h o n):=by
 cases o with
 |ref a=>
  intro v e;obtain ⟨ob,e1,e⟩:=bO e;cases ob with
  |inst c fs=>
   have e2:cH fs n=some v:=by
    have e:Option.rec (motive:=λ_=>Option Val) none (λv=>some v) (fgt fs n)=some v:=e;rw [xS] at e;show (fs.find? λp=>p.1==n).map (·.2)=_;cases q:(fs.find? λp=>p.1==n).map (·.2) with
    |none=>rw [q] at e;cases e
    |some w=>rw [q] at e;exact e
   show alt ((h[a]?.bind MObj.inst?).bind _) _=_;rw [R.g e1];show alt (Qc (motive:=λ_=>Option Val) (cH fs n) (cC P c n) λv=>grd (P.hasFld c n) (some v)) _=_;rw [e2];show alt (grd (P.hasFld c n) (some v)) _=_;rw [R.f e1 n v e2];rfl
  |_=>cases e
 |top a=>
  intro v e;obtain ⟨c,e1,e⟩:=bO e;obtain ⟨k,e2,e⟩:=bO e;show alt none ((P.instAt a).bind λc=>cC P c n)=_;rw [K.inst,e1];exact (K.cl c k e2).ats n v e
 |_=>exact bP
theorem zb0 (K:yF P T) (R:Rep P H h) {o:Val}{n:Nat}{v:Val}{G:TH} (e:qV T H o n v=some G): ∃g,setAttr P h o n v=some g/\Rep P G g:=by
 cases o with
 |ref a=>
  obtain ⟨ob,e1,e⟩:=bO e;cases ob with
  |inst c fs=>
   obtain ⟨k,e2,e⟩:=bO e;obtain ⟨q,e⟩:=kT e;obtain ⟨q1,q2⟩:=Qa.mp q;cases e;have hf:=(K.cl c k e2).fl n q1;refine ⟨h.set a (.inst c (fpt fs n v)),?_,R.upd e1 ?_⟩
   ·show (h[a]?.bind MObj.inst?).bind _=_
    rw [R.g e1];show grd (P.hasFld c n && Qg (fs.length+1) 400) _=_;rw [aL] at q2;rw [hf,q2,zde];rfl
   ·intro m w e
    rw [zde] at e;rcases zdd e with rfl|e
    ·exact hf
    ·exact R.f e1 m w e
  |_=>cases e
 |_=>cases e
theorem zap (R:Rep P H h) {o i v:Val}{G:TH} (e:lN H o i v=some G): ∃g,bV h o i v=some g/\Rep P G g:=by
 cases o with
 |ref a=>
  obtain ⟨ob,e1,e⟩:=bO e;have g:=R.g e1;cases ob with
  |list vs=>
   obtain ⟨n,rfl,e⟩:=zhi e;obtain ⟨q,e⟩:=kT e;cases e;rw [aL] at q;refine ⟨h.set a (.list (zaS vs v n)),?_,R.upd e1 trivial⟩;show alt ((h[a]?.bind MObj.list?).bind λvs=>(idx vs.length (.int (n:Int))).map λk=>h.set a (.list (vs.set k v))) _=_;rw [g];show alt ((idx vs.length (.int (n:Int))).map λk=>h.set a (.list (vs.set k v))) _=_;rw [zc8 (jE.mp q),rG];rfl
  |dict ep es=>
   obtain ⟨q,e⟩:=kT e;obtain ⟨q1,q2⟩:=Qa.mp q;obtain ⟨r,e2,e⟩:=bO e;obtain ⟨es',e3,e⟩:=bO e;cases e;rw [aL] at q2;refine ⟨_,?_,R.upd e1 trivial⟩;show alt ((h[a]?.bind MObj.list?).bind _) ((h[a]?.bind MObj.dict?).bind λd=>grd (aE d.2 i && Qg (d.2.length+1) lim) (some (h.set a (.dict (bif (bA d.2 i).isSome then d.1 else d.1.map (· +1)) (fQ d.2 i v)))))=_;rw [g];show grd (aE es i && Qg (es.length+1) lim) (some (h.set a (.dict (bif (bA es i).isSome then ep else ep.map (· +1)) (fQ es i v))))=_;rw [mV q1 e2,q2,(d9 es e2).1,zI e2 e3];cases r<;>cases ep<;>rfl
  |inst _ _=>cases e
 |_=>cases e
def IT.to (k:IT):It:=IT.casesOn (motive:=λ_=>It) k .ls .tp .dk .sq λn=> .rg (n:Int)
theorem zcY (R:Rep P H h) {x:Val}{k:IT} (e:uD H x=some k):bW h x=some k.to:=by
 cases x with
 |str s=>cases e;rfl
 |tup vs=>cases e;rfl
 |ref a=>
  obtain ⟨ob,e1,e⟩:=bO e;show alt none (alt (alt ((h[a]?.bind MObj.list?).map λ_=>It.ls a) ((h[a]?.bind MObj.dict?).bind λd=>d.1.map λep=>It.dk a d.2.length ep)) _)=_;rw [R.g e1];cases ob with
  |list vs=>cases e;rfl
  |dict ep es=>
   obtain ⟨p,rfl,e⟩:=bO e;cases e;exact congrArg (λn=>some (It.dk a n p)) (aL es).symm
  |inst _ _=>cases e
 |rng n=>
  cases n with
  |ofNat n=>
   obtain ⟨q,e⟩:=kT e;cases e;show alt (grd (decide ((n:Int)<=lim) && decide (-(lim:Int)<=n)) (some (It.rg n))) _=_;rw [decide_eq_true (Jr.mpr (jE.mp q)),decide_eq_true (Jy (Int.neg_nonpos_of_nonneg (QH _)) (QH _))];rfl
  |negSucc n=>cases e
 |_=>cases e
theorem tH (R:Rep P H h) (i:Nat) (k:IT):Le (kJ H i k) (aZ h i k.to):=by
 cases k with
 |ls a=>
  intro v e;obtain ⟨ob,e1,e⟩:=bO e;cases ob with
  |list vs=>
   cases e;show (h[a]?.bind MObj.list?).map _=_;rw [R.g e1,d0];rfl
  |_=>cases e
 |tp vs=>intro v e;cases e;rw [d0];rfl
 |dk a n ep=>
  intro v e;obtain ⟨ob,e1,e⟩:=bO e;cases ob with
  |dict ep' es=>
   obtain ⟨p,rfl,e2⟩:=bO e
   clear e
   obtain ⟨q,e3⟩:=kT e2
   clear e2
   obtain ⟨q1,q2⟩:=Qa.mp q
   clear q
   cases aK q1;cases aK q2;cases e3;show (h[a]?.bind MObj.dict?).bind (λd=>grd (d.1==some ep && d.2.length==bK es) (some (d.2[i]?.map (·.1))))=_;rw [R.g e1];show grd (some ep==some ep && es.length==bK es) (some (es[i]?.map (·.1)))=_;rw [aL,beq_self_eq_true,beq_self_eq_true,d0];cases es[i]?<;>rfl
  |_=>cases e
 |sq s=>intro v e;cases e;rw [d0];show some (s[i]?.map _)=_;cases s[i]?<;>rfl
 |rg n=>
  intro v e;cases e;show some (bif decide ((i:Int)<(n:Int)) then some (Val.int i) else none)=_
  have:decide ((i:Int)<(n:Int))=Qg (Qp i) n:=by rw [QL,decide_eq_true_eq,jE];exact J6
  rw [this];cases Qg (Qp i) n<;>rfl
theorem y4 (tg:List Nat): ∀ {vs:List Val}{fr fr':Frame},zcb tg vs fr=some fr'->vs.length=tg.length/\eK tg vs fr=fr':=by
 induction tg with
 |nil=>
  intro vs fr fr' e;obtain ⟨q,e⟩:=kT e;cases c9 q;cases e;exact ⟨rfl,rfl⟩
 |cons x tg ih=>
  intro vs fr fr' e;cases vs with
  |nil=>cases e
  |cons v vs=>
   obtain ⟨q1,q2⟩:=ih e;refine ⟨congrArg Qp q1,?_⟩;rw [rG] at q2;exact q2
theorem uZ (fr:Frame) (tg:List Nat) (many:Bool) (v:Val):Le (fT fr tg many v) (b9 fr tg many v):=by
 intro fr' e;cases many with
 |false=>
  obtain ⟨q1,q2⟩:=y4 tg e;show grd (tg.length==1) (some (eK tg [v] fr))=_;rw [<-q1,q2];rfl
 |true=>
  cases v with
  |tup vs=>
   obtain ⟨q1,q2⟩:=y4 tg e;show grd (vs.length==tg.length) (some (eK tg vs fr))=_;rw [q1,q2,beq_self_eq_true];rfl
  |_=>cases e
theorem zfa (R:Rep P H h) (x:Val):Le (zqf H x) (zaU h x):=by
 cases x with
 |str s=>intro v e;cases e;rw [aL];rfl
 |tup s=>intro v e;cases e;rw [aL];rfl
 |fl s=>intro v e;cases e;rw [aL];rfl
 |setn n=>exact λv e=>e
 |ref a=>
  intro v e;obtain ⟨ob,e1,e⟩:=bO e;show alt ((h[a]?.bind MObj.list?).map _) ((h[a]?.bind MObj.dict?).map _)=_;rw [R.g e1];cases ob with
  |list vs=>cases e;rw [aL];rfl
  |dict ep es=>cases e;rw [aL];rfl
  |inst _ _=>cases e
 |_=>exact bP
end
section
variable {P:Prg}{T:PT}{H:TH}{h:MH}{α β:Type}
theorem fC {A B:Re α}{b:Bool}{o:Option (α×MH)} (f:b=false->Of P A o) (t:b=true->Of P B o):Of P (Bool.rec (motive:=λ_=>Re α) A B b) o:=by
 cases b with
 |false=>exact f rfl
 |true=>exact t rfl
theorem dM {r:Re α}{c:Bool}{o:Option (α×MH)} (e:c=true) (a:Of P r o):Of P r (grd c o):=by subst e;exact a
theorem y6 {as:List Val}{f:Val->Re α}{g:Val->Option (α×MH)} (q: ∀v,Of P (f v) (g v)):Of P (u9 as f) (a1 as g):=by
 cases as with
 |nil=>exact a7
 |cons v r=>
  cases r with
  |nil=>exact q v
  |cons _ _=>exact a7
theorem zjA {as:List Val}{f:Val->Val->Re α}{g:Val->Val->Option (α×MH)} (q: ∀v w,Of P (f v w) (g v w)):Of P (zru as f) (a2 as g):=by
 cases as with
 |nil=>exact a7
 |cons v r=>exact y6 (q v)
theorem rF (a b:Int):xF a b=if b>a then b else a:=by
 show Bool.rec (motive:=λ_=>Int) a b (iLt a b)=_;rw [rN];by_cases q:a<b
 ·rw [decide_eq_true q,if_pos q]
 ·rw [decide_eq_false q,if_neg q]
def eE (P:Prg):Prop:= ∀ {H:TH}{h:MH} (as:List Val),Rep P H h->Of P (u9 as (zf3 H)) (m4 as h)
theorem ziz (Z:eE P) (R:Rep P H h) (n:Nat) (as:List Val):Of P (biT n as H) (j2 n as h):=by
 refine fC (λq0=>fC (λq1=>fC (λq2=>λv G e=>?_) λq=>?_) λq=>?_) λq=>?_
 ·obtain ⟨q3,e2⟩:=d4 e
  have:=aK q3
  subst this;refine (aW rfl (aW rfl (b6 (dM (beq_self_eq_true _) ?_))):Of P _ (j2 zcw as h)) v G e2;refine zjA λx y=>?_;cases x with
  |int a=>
   cases y with
   |int b=>
    have:Bool.rec (motive:=λ_=>Int) a b (iLt b a)=if b<a then b else a:=by
     rw [rN];by_cases q:b<a
     ·rw [decide_eq_true q,if_pos q]
     ·rw [decide_eq_false q,if_neg q]
    show Of P (.ok (Val.int (Bool.rec (motive:=λ_=>Int) a b (iLt b a))) H) (some (Val.int (if b<a then b else a),h));rw [this];exact b5 R
   |_=>exact a7
  |_=>exact a7
 ·have:=aK q
  subst this;refine aW rfl (b6 (dM (beq_self_eq_true _) ?_));cases as with
  |nil=>exact a7
  |cons x r=>
   cases r with
   |nil=>exact a7
   |cons y r=>
    cases x with
    |int a=>
     cases y with
     |int b=>
      cases r with
      |nil=>
       show Of P (.ok (Val.int (xF a b)) H) _;rw [rF];exact b6 (b5 R)
      |cons z r=>
       intro v G e;obtain ⟨q1,e2⟩:=d4 e
       clear e
       cases c9 q1;cases z with
       |int c=>
        cases e2;refine ⟨h,?_,R⟩;show alt none (alt (some (Val.int (if b>a then (if c>b then c else b) else (if c>a then c else a)),h)) _)=some (.int (xF (xF a b) c),h);rw [rF,rF];by_cases q:b>a
        ·rw [if_pos q,if_pos q];rfl
        ·rw [if_neg q,if_neg q];rfl
       |_=>cases e2
     |_=>exact a7
    |_=>exact a7
 ·have:=aK q
  subst this;exact aW rfl (aW rfl (aW rfl (dM (beq_self_eq_true _) (Z as R))))
 ·have:=aK q
  subst this;exact b6 (dM (beq_self_eq_true _) (y6 λv=>tD (zfa R v) R))
theorem zfF {es:List (Val×Val)} (e:zgn es=true):(es.all λp=>aG p.1==1)=true:=by
 induction es with
 |nil=>rfl
 |cons p es ih=>
  obtain ⟨k,v⟩:=p;rw [List.all_cons];cases k with
  |int i=>exact ih e
  |str s=>exact ih e
  |_=>cases e
theorem zgJ (R:Rep P H h) (n:Nat) (as:List Val):Of P (tyT n as H) (fS n as h):=by
 have go: ∀ {f:Val->Re Val},(∀x,as= [x]->Of P (f x) (fS n as h)) ->Of P (u9 as f) (fS n as h):=λ{f} q=>by
  cases as with
  |nil=>exact a7
  |cons v r=>
   cases r with
   |nil=>exact q v rfl
   |cons _ _=>exact a7
 refine go λx ex=>?_
 clear go
 subst ex;refine fC (λq0=>fC (λq1=>fC (λq2=>fC (λq3=>λv G e=>?_) λq=>?_) λq=>?_) λq=>?_) λq=>?_
 ·obtain ⟨q3,e2⟩:=d4 e
  have:=aK q3
  subst this;refine (aW rfl (aW rfl (aW rfl (aW rfl (aW rfl (aW rfl (dM (beq_self_eq_true _) ?_)))))):Of P _ (fS zeL [x] h)) v G e2;cases x with
  |str l=>exact iQ (λe=>by rw [<-aL];exact e) λ_=>by rw [aL];exact b5 R
  |_=>exact a7
 ·have:=aK q
  subst this;refine aW rfl (aW rfl (aW rfl (aW rfl (b6 (dM (beq_self_eq_true _) λv G e=>?_)))));obtain ⟨es,e1,e2⟩:=cB e;obtain ⟨ep,d⟩:=R.dict _ e1;refine (show Of P _ ((dictAt h x).bind λd=>grd (d.2.all λp=>aG p.1==1) (aS h (.dict none d.2))) from ?_) v G e2;rw [d];exact iQ zfF λ_=>iP (o:=.dict none es) R trivial
 ·have:=aK q
  subst this;refine aW rfl (b6 (dM (beq_self_eq_true _) λv G e=>?_));obtain ⟨vs,e1,e2⟩:=cB e;cases x with
  |tup l=>
   cases e1;exact (show Of P _ (alt (aS h (.list vs)) (alt none ((aI h (.tup vs)).bind λvs=>aS h (.list vs)))) from b6 (iP (o:=.list vs) R trivial)) v G e2
  |ref a=>exact aW rfl (aW rfl (kI (r:=iT H (.ref a)) (R.list _) λvs _=>iP (o:=.list vs) R trivial)) v G e
  |_=>cases e1
 ·have:=aK q
  subst this;refine b6 (dM (beq_self_eq_true _) ?_);cases x with
  |int k=>exact b5 R
  |_=>exact a7
 ·have:=aK q
  subst this;refine aW rfl (aW rfl (aW rfl (b6 (dM (beq_self_eq_true _) ?_))));cases x<;>first|exact a7|exact b5 R
structure yI (P:Prg) (T:PT) (c:CCt) (d:Cx):Prop where
 t:c.P=T
 k:yF P T
 p:d.P=P
 z:eE P
 u:d.fuel=bG
 c: ∀a as {H h},Rep P H h->Of P (c.call a as H) (d.call a as h)
variable {c:CCt}{d:Cx}
theorem zeJ (K:yI P T c d) (R:Rep P H h) (a:Nat) {k:CT}{k':Cl} (e:k'.init=k.init) (as:List Val):Of P (zhg c a k as H) (tI d a k' as h):=by
 unfold tI;rw [e,<-R.n];exact kI (λ_ e=>e) λi _=>bR (K.c _ _ (R.push nofun)) λr G g Q=>iQ id λ_=>b5 Q
theorem za5 (K:yI P T c d) (R:Rep P H h) (f:Val) (as:List Val):Of P (xZ c f as H) (gY d f as h):=by
 cases f with
 |top a=>
  refine b6 ?_;show Of P (Option.rec (motive:=λ_=>Re Val) (c.call a as H) (λk=>zhg c a k as H) (fgt c.P.cl a)) (Qc (motive:=λ_=>Option (Val×MH)) (d.P.clsAt a) (d.call a as h) λk=>tI d a k as h);rw [K.p,K.t];cases q:fgt T.cl a with
  |none=>rw [K.k.cn a q];exact K.c _ _ R
  |some k=>
   obtain ⟨k',e1,e2⟩:=(K.k.cl a k q).cl;rw [e1];exact zeJ K R a e2 as
 |ty n=>exact aW rfl (aW rfl (zgJ R n as))
 |bi n=>exact aW rfl (b6 (ziz K.z R n as))
 |_=>exact a7
theorem zfb {vs:List Val}{p:Val×List Val} (e:zA vs=some p):vs.getLast?=some p.1/\vs.dropLast=p.2:=by
 induction vs generalizing p with
 |nil=>cases e
 |cons v vs ih=>
  cases vs with
  |nil=>cases e;exact ⟨rfl,rfl⟩
  |cons w vs=>
   cases q:zA (w::vs) with
   |none=>cases q
   |some p'=>
    have e:some (Option.rec (motive:=λ_=>Val×List Val) (v,[]) (λp=>(p.1,v::p.2)) (zA (w::vs)))=some p:=e;rw [q] at e;cases e;obtain ⟨q1,q2⟩:=ih q;exact ⟨by rw [List.getLast?_cons_cons];exact q1,by rw [List.dropLast_cons₂];exact congrArg (v:: ·) q2⟩
theorem zwP {α:Type}{as:List Val}{f g:Val->Option α}{x y:α} (q: ∀v,f v=some x->g v=some y) (e:a1 as f=some x):a1 as g=some y:=by
 cases as with
 |nil=>cases e
 |cons v r=>
  cases r with
  |nil=>exact q v e
  |cons _ _=>cases e
end
section
variable {P:Prg}{T:PT}{H:TH}{h:MH}{α β:Type}{c:CCt}{d:Cx}
theorem zyz {as:List Val}{f g:Val->Val->Option α}{x y:α} (q: ∀v w,f v w=some x->g v w=some y) (e:a2 as f=some x):a2 as g=some y:=by
 cases as with
 |nil=>cases e
 |cons v r=>exact zwP (q v) e
theorem zd8 {s:List Nat}{as:List Val}{p:Val×MH} (e:bI s nStrip as []=some p):bI s nStrip as h=some (p.1,h):=by
 have e:alt (alt (a0 as ((g8 (Txt.strip ⟨s.toArray⟩)).map λv=>(v,[]))) (a1 as λx=>x.str?.bind λt=>(g8 (Txt.stripChars ⟨s.toArray⟩ ⟨t.toArray⟩)).map λv=>(v,[]))) none=some p:=e;show alt (alt (a0 as ((g8 (Txt.strip ⟨s.toArray⟩)).map λv=>(v,h))) (a1 as λx=>x.str?.bind λt=>(g8 (Txt.stripChars ⟨s.toArray⟩ ⟨t.toArray⟩)).map λv=>(v,h))) none=some (p.1,h);cases as with
 |nil=>
  have e:alt (alt ((g8 (Txt.strip ⟨s.toArray⟩)).map λv=>(v,[])) none) none=some p:=e;show alt (alt ((g8 (Txt.strip ⟨s.toArray⟩)).map λv=>(v,h)) none) none=_;cases q:g8 (Txt.strip ⟨s.toArray⟩) with
  |none=>rw [q] at e;cases e
  |some v=>rw [q] at e;cases e;rfl
 |cons x r=>
  cases r with
  |cons _ _=>cases e
  |nil=>
   cases x with
   |str t=>
    have e:alt ((g8 (Txt.stripChars ⟨s.toArray⟩ ⟨t.toArray⟩)).map λv=>(v,[])) none=some p:=e;show alt ((g8 (Txt.stripChars ⟨s.toArray⟩ ⟨t.toArray⟩)).map λv=>(v,h)) none=_;cases q:g8 (Txt.stripChars ⟨s.toArray⟩ ⟨t.toArray⟩) with
    |none=>rw [q] at e;cases e
    |some v=>rw [q] at e;cases e;rfl
   |_=>cases e
theorem zg1 {s:List Nat}{as:List Val}{p:Val×MH} (e:bI s nPartition as []=some p):bI s nPartition as h=some (p.1,h):=by
 cases as with
 |nil=>cases e
 |cons x r=>
  cases r with
  |cons _ _=>cases e
  |nil=>
   cases x with
   |str t=>
    cases q:!t.isEmpty with
    |false=>
     have e:alt (grd (!t.isEmpty) (some (Txt.partition ⟨s.toArray⟩ ⟨t.toArray⟩)|>.bind λp=>grd (cL p.1.cps.toList && cL p.2.1.cps.toList && cL p.2.2.cps.toList) (some (Val.tup [.str p.1.cps.toList,.str p.2.1.cps.toList,.str p.2.2.cps.toList],[])))) none=some p:=e;rw [q] at e;cases e
    |true=>
     have e:alt (grd (!t.isEmpty) (some (Txt.partition ⟨s.toArray⟩ ⟨t.toArray⟩)|>.bind λp=>grd (cL p.1.cps.toList && cL p.2.1.cps.toList && cL p.2.2.cps.toList) (some (Val.tup [.str p.1.cps.toList,.str p.2.1.cps.toList,.str p.2.2.cps.toList],[])))) none=some p:=e;show alt (grd (!t.isEmpty) (some (Txt.partition ⟨s.toArray⟩ ⟨t.toArray⟩)|>.bind λp=>grd (cL p.1.cps.toList && cL p.2.1.cps.toList && cL p.2.2.cps.toList) (some (Val.tup [.str p.1.cps.toList,.str p.2.1.cps.toList,.str p.2.2.cps.toList],h)))) none=_;rw [q] at e ⊢
     generalize Txt.partition ⟨s.toArray⟩ ⟨t.toArray⟩=z at e ⊢
     have e:alt (grd (cL z.1.cps.toList && cL z.2.1.cps.toList && cL z.2.2.cps.toList) (some (Val.tup [.str z.1.cps.toList,.str z.2.1.cps.toList,.str z.2.2.cps.toList],[]))) none=some p:=e;show alt (grd (cL z.1.cps.toList && cL z.2.1.cps.toList && cL z.2.2.cps.toList) (some (Val.tup [.str z.1.cps.toList,.str z.2.1.cps.toList,.str z.2.2.cps.toList],h))) none=_;cases q2:cL z.1.cps.toList && cL z.2.1.cps.toList && cL z.2.2.cps.toList with
     |false=>rw [q2] at e;cases e
     |true=>rw [q2] at e;cases e;rfl
   |_=>cases e
theorem zii {s:List Nat}{as:List Val}{p:Val×MH} (e:bI s nFind as []=some p):bI s nFind as h=some (p.1,h):=by
 cases as with
 |nil=>cases e
 |cons x r=>
  cases r with
  |nil=>cases e
  |cons y r=>
   cases r with
   |cons _ _=>cases e
   |nil=>
    cases x with
    |str t=>
     cases y with
     |int i=>cases e;rfl
     |_=>cases e
    |_=>cases e
theorem zbA (R:Rep P H h) (s:List Nat) (n:Nat) (as:List Val):Of P (zf1 s n as H) (bI s n as h):=by
 have any: ∀ {b:Bool},(b=true->n=nStrip\/n=nPartition\/n=nFind) ->Of P (Option.rec (motive:=λ_=>Re Val) .no (λp=> .ok p.1 H) (gd b (bI s n as []))) (bI s n as h):=λ{b} qb v G e=>by
  cases q:gd b (bI s n as []) with
  |none=>rw [q] at e;cases e
  |some p=>
   rw [q] at e;cases e;obtain ⟨q1,q2⟩:=kT q;refine ⟨h,?_,R⟩;rcases qb q1 with rfl|rfl|rfl
   ·exact zd8 q2
   ·exact zg1 q2
   ·exact zii q2
 cases as with
 |nil=>
  refine fC (λ_=>any λq=> .inl (aK q)) λq=>?_
  have:=aK q
  subst this;exact b6 (dM (beq_self_eq_true _) (b5 R))
 |cons x r=>
  refine fC (λ_=>any λq=>?_) λq=>?_
  ·rcases Jp.mp q with q|q
   ·exact .inl (aK q)
   ·exact .inr ((Jp.mp q).imp aK aK)
  ·have:=aK q
   subst this;intro v G e;obtain ⟨q1,e2⟩:=d4 e
   clear e
   cases c9 q1;cases x with
   |str t=>
    cases e2;rw [zgX];exact ⟨h,rfl,R⟩
   |_=>cases e2
theorem zdq (R:Rep P H h) {es:List (Val×Val)}{as:List Val}:Of P (Qj (motive:=λ_=>Re Val) .no (λk r _=>gr (kOk k) (ob (gX es k) λg=>Option.rec (motive:=λ_=>Re Val) (Qj (motive:=λ_=>Re Val) (.ok .none H) (λd r _=>gr (bZ r) (.ok d H)) r) (λv=>Qj (motive:=λ_=>Re Val) (.ok v H) (λ_ r _=>gr (bZ r) (.ok v H)) r) g)) as) (dO es nGet as h):=by
 refine dM (beq_self_eq_true _) ?_;cases as with
 |nil=>exact a7
 |cons k r=>
  intro v G e;obtain ⟨q1,e2⟩:=d4 e
  clear e
  obtain ⟨g,q2,e3⟩:=cB e2
  clear e2
  have f:=mV q1 q2;have dg:=(d9 es q2).1;cases r with
  |nil=>
   have:v=g.getD .none/\G=H:=by cases g<;>(cases e3;exact ⟨rfl,rfl⟩)
   obtain ⟨rfl,rfl⟩:=this;refine ⟨h,?_,R⟩;show alt (grd (aE es k) (some ((bA es k).getD .none,h))) _=_;rw [f,dg];rfl
  |cons d r=>
   have:r= []/\v=g.getD d/\G=H:=by
    cases g with
    |none=>
     obtain ⟨q3,e4⟩:=d4 e3;cases e4;exact ⟨c9 q3,rfl,rfl⟩
    |some w=>
     obtain ⟨q3,e4⟩:=d4 e3;cases e4;exact ⟨c9 q3,rfl,rfl⟩
   obtain ⟨rfl,rfl,rfl⟩:=this;refine ⟨h,?_,R⟩;show alt none (grd (aE es k) (some ((bA es k).getD d,h)))=_;rw [f,dg];rfl
theorem x6 {H0:TH}{h0:MH} (R0:Rep P H0 h0) (R:Rep P H h) (o:Val) (n:Nat) (as:List Val):Of P (bmT o n as H0 H) (cX o n as h0 h):=by
 cases o with
 |str s=>
  refine b6 (fC (λ_=>zbA R s n as) λq=>?_)
  have:=aK q
  subst this;intro v G e;obtain ⟨q1,e2⟩:=d4 e
  clear e
  cases c9 q1;refine (aW rfl (aW rfl (aW rfl (aW rfl (aW rfl (b6 (dM (beq_self_eq_true _) ?_)))))):Of P _ (bI s nSplit [] h)) v G e2;refine kI (λ_ e=>e) λvs q=>iQ (λq=>by rw [<-aL];exact q) λ_=>iP (o:=.list vs) R trivial
 |ref a=>
  refine aW rfl ?_;intro v G e;obtain ⟨x,e1,e2⟩:=cB e
  clear e
  obtain ⟨x0,e3,e4⟩:=cB e2
  clear e2
  have g:=R.g e1;have g0:=R0.g e3;show ∃h',alt ((h0[a]?.bind MObj.list?).bind λ_=>(h[a]?.bind MObj.list?).bind λvs=>dN a vs n as h) ((h0[a]?.bind MObj.dict?).bind λ_=>(h[a]?.bind MObj.dict?).bind λd=>dO d.2 n as h)=some (v,h')/\Rep P G h';rw [g,g0];cases x with
  |list vs=>
   cases x0 with
   |list vs0=>
    refine (show Of P _ (alt (dN a vs n as h) none) from b6 (fC (λ_=>?_) λq=>?_)) v G e4
    ·intro v G e
     obtain ⟨q,e2⟩:=d4 e
     clear e
     obtain ⟨q1,q2⟩:=Qa.mp q
     have:=aK q1
     subst this;cases c9 q2;obtain ⟨p,q3,e3⟩:=cB e2
     clear e2
     cases e3;obtain ⟨q4,q5⟩:=zfb q3;refine ⟨h.set a (.list p.2),?_,R.upd e1 trivial⟩;show alt none (alt (vs.getLast?.map λv=>(v,h.set a (.list vs.dropLast))) _)=_;rw [q4,q5];rfl
    ·have:=aK q
     subst this;refine b6 (dM (beq_self_eq_true _) (y6 λw=>iQ (λq=>by rw [<-aL];exact q) λ_ v G e=>?_));cases e;rw [<-iW];exact ⟨_,rfl,R.upd e1 trivial⟩
   |_=>cases e4
  |dict ep es=>
   cases x0 with
   |dict ep0 es0=>
    obtain ⟨q,e5⟩:=d4 e4
    have:=aK q
    subst this;exact zdq R v G e5
   |_=>cases e4
  |inst _ _=>cases e4
 |_=>exact a7
theorem za6 {H0:TH}{h0:MH} (K:yI P T c d) (R0:Rep P H0 h0) (R:Rep P H h) (o:Val) (n:Nat) (as:List Val):Of P (x4 c o n as H0 H) (uX d o n as h0 h):=by
 have hP:=K.p;cases o with
 |str s=>exact x6 R0 R (.str s) n as
 |ref a=>
  intro v G e;obtain ⟨x,e1,e2⟩:=cB e
  clear e
  have g0:=R0.g e1;have m:bL d.P h0 (.ref a) n=(x.inst?).bind λq=>grd (cH q.2 n).isNone ((bS d.P q.1 n).map λf=>(f,[.ref a])):=by
   show alt none ((h0[a]?.bind MObj.inst?).bind _)=_;rw [g0];rfl
  cases x with
  |list vs=>
   show ∃h',Qc (motive:=λ_=>Option (Val×MH)) (bL d.P h0 (.ref a) n) (cX (.ref a) n as h0 h) (λp=>d.call p.1 (p.2++as) h)=some (v,h')/\_;rw [m];exact x6 R0 R (.ref a) n as v G e2
  |dict ep es=>
   show ∃h',Qc (motive:=λ_=>Option (Val×MH)) (bL d.P h0 (.ref a) n) (cX (.ref a) n as h0 h) (λp=>d.call p.1 (p.2++as) h)=some (v,h')/\_;rw [m];exact x6 R0 R (.ref a) n as v G e2
  |inst c' fs=>
   have e2:Option.rec (motive:=λ_=>Re Val) (ob (fgt c.P.cl c') λk=>ob (fgt k.ms n) λf=>c.call f (.ref a::as) H) (λ_=> .no) (fgt fs n)= .ok v G:=e2;cases q:fgt fs n with
   |some w=>rw [q] at e2;cases e2
   |none=>
    rw [q] at e2;obtain ⟨k,e3,e4⟩:=cB e2;obtain ⟨f,e5,e6⟩:=cB e4;rw [K.t] at e3;have q2:cH fs n=none:=by rw [xS] at q;exact q
    show ∃h',Qc (motive:=λ_=>Option (Val×MH)) (bL d.P h0 (.ref a) n) (cX (.ref a) n as h0 h) (λp=>d.call p.1 (p.2++as) h)=some (v,h')/\_;rw [m];show ∃h',Qc (motive:=λ_=>Option (Val×MH)) (grd (cH fs n).isNone ((bS d.P c' n).map λf=>(f,[Val.ref a]))) (cX (.ref a) n as h0 h) (λp=>d.call p.1 (p.2++as) h)=some (v,h')/\_;rw [q2,hP,(K.k.cl c' k e3).ms n f e5];exact K.c _ _ R v G e6
 |top a=>
  intro v G e;have e:Option.rec (motive:=λ_=>Re Val) (ob (fgt c.P.cl a) λk=>ob (fgt k.ms n) λf=>c.call f as H) (λc'=>ob (fgt c.P.cl c') λk=>ob (fgt k.ms n) λf=>c.call f (.top a::as) H) (fgt c.P.io a)= .ok v G:=e;have m:bL d.P h0 (.top a) n=alt (Qc (motive:=λ_=>Option (Nat×List Val)) (d.P.instAt a) ((bS d.P a n).map λf=>(f,[])) λc=>(bS d.P c n).map λf=>(f,[.top a])) none:=rfl;show ∃h',Qc (motive:=λ_=>Option (Val×MH)) (bL d.P h0 (.top a) n) (cX (.top a) n as h0 h) (λp=>d.call p.1 (p.2++as) h)=some (v,h')/\_;rw [m,hP,K.k.inst];rw [K.t] at e;cases q:fgt T.io a with
  |none=>
   rw [q] at e;obtain ⟨k,e3,e4⟩:=cB e;obtain ⟨f,e5,e6⟩:=cB e4;show ∃h',Qc (motive:=λ_=>Option (Val×MH)) (alt ((bS P a n).map λf=>(f,([]:List Val))) none) (cX (.top a) n as h0 h) (λp=>d.call p.1 (p.2++as) h)=some (v,h')/\_;rw [(K.k.cl a k e3).ms n f e5];exact K.c _ _ R v G e6
  |some c'=>
   rw [q] at e;obtain ⟨k,e3,e4⟩:=cB e;obtain ⟨f,e5,e6⟩:=cB e4;show ∃h',Qc (motive:=λ_=>Option (Val×MH)) (alt ((bS P c' n).map λf=>(f,[Val.top a])) none) (cX (.top a) n as h0 h) (λp=>d.call p.1 (p.2++as) h)=some (v,h')/\_;rw [(K.k.cl c' k e3).ms n f e5];exact K.c _ _ R v G e6
 |_=>exact a7
end
section
variable {P:Prg}{T:PT}{H:TH}{h:MH}{α β:Type}{c:CCt}{d:Cx}
structure zyh (P:Prg) (d:Cx) (ks:List KEt) (es:List Ex):Prop where
 n:bZ ks=es.isEmpty
 s: ∀fr {H h},Rep P H h->Of P (jY ks fr H) (dE d es fr h)
 b: ∀stop fr {H h},Rep P H h->Of P (zdk stop ks fr H) (gV d stop es fr h)
 t: ∀fr {H h},Rep P H h->Of P (zfr ks fr H) (jA d es fr h)
theorem zcn {r:Re Val}{o:Option (Val×MH)}{f:Bool->TH->Re α}{g:Bool->MH->Option (α×MH)} (a:Of P r o) (b: ∀x G k,Rep P G k->Of P (f x G) (g x k)):Of P (bn r λv H1=>ob (tru H1 v) λb=>f b H1) (bnd (aQ o) g):=λy G e=>by
 obtain ⟨v,H1,e1,e2⟩:=zfC e;obtain ⟨t,e3,e4⟩:=cB e2;obtain ⟨k,rfl,R⟩:=a _ _ e1;show ∃h',bnd ((truthy k v).map λb=>(b,k)) g=_/\_;rw [vP R v t e3];exact b t H1 k R y G e4
theorem zik (n:Nat): ∀ {l:List Val}{es r:List (Val×Val)},zil l n es=some r->d8 l es=some r:=by
 induction n with
 |zero=>intro l es r e;cases e
 |succ n ih=>
  intro l es r e;cases l with
  |nil=>exact e
  |cons k l=>
   cases l with
   |nil=>cases e
   |cons v l=>
    obtain ⟨q1,e2⟩:=kT e;obtain ⟨o,q2,e3⟩:=bO e2;obtain ⟨es',q3,e4⟩:=bO e3;show grd (aE es k) (d8 l (fQ es k v))=_;rw [mV q1 q2,<-zI q2 q3];exact ih e4
theorem zir {next:TH->Nat->Option (Option Val)}{nx:Nat->MH->Option (Option Val)}{bind bd:Val->Option Frame}{test:Frame->TH->Re Bool}{ts:Frame->MH->Option (Bool×MH)}{elt:Frame->TH->Re Val}{el:Frame->MH->Option (Val×MH)}{acc:Nat}
  (a1: ∀ {H h} i,Rep P H h->Le (next H i) (nx i h)) (a2: ∀v,Le (bind v) (bd v)) (a3: ∀fr {H h},Rep P H h->Of P (test fr H) (ts fr h)) (a4: ∀fr {H h},Rep P H h->Of P (elt fr H) (el fr h)) (n:Nat):
  ∀ (i:Nat) {H:TH}{h:MH},Rep P H h->Of P (cpT next bind test elt acc n i H) (compLoop nx (λv h=>(bd v).bind λfr'=>bnd (ts fr' h) λb h'=>some (bif b then some fr' else none,h')) el acc n i h):=by
 induction n with
 |zero=>intro i H h R;exact a7
 |succ n ih=>
  intro i H h R;refine kI (a1 i R) λov _=>?_;cases ov with
  |none=>exact b5 R
  |some v=>
   intro y G e;obtain ⟨fr,e1,e2⟩:=cB e;obtain ⟨b,H1,e3,e4⟩:=zfC e2;obtain ⟨h1,q1,R1⟩:=a3 fr R _ _ e3;show ∃h',bnd ((bd v).bind λfr'=>bnd (ts fr' h) λb h'=>some (bif b then some fr' else none,h')) (λofr h1=>Qc (motive:=λ_=>Option (Unit×MH)) ofr (compLoop nx _ el acc n (i+1) h1) λfr=>
    bnd (el fr h1) λx h2=>(h2[acc]?.bind MObj.list?).bind λvs=>grd (Qg (vs.length+1) lim) (compLoop nx _ el acc n (i+1) (h2.set acc (.list (vs++ [x])))))=_/\_
   rw [a2 v fr e1];show ∃h',bnd (bnd (ts fr h) λb h'=>some (bif b then some fr else none,h')) _=_/\_;rw [q1];cases b with
   |false=>exact ih (i+1) R1 y G e4
   |true=>
    obtain ⟨x,H2,e5,e6⟩:=zfC e4;obtain ⟨h2,q2,R2⟩:=a4 fr R1 _ _ e5;obtain ⟨o,e7,e8⟩:=cB e6;cases o with
    |list vs=>
     obtain ⟨q3,e9⟩:=d4 e8;show ∃h',bnd (el fr h1) (λx h2=>(h2[acc]?.bind MObj.list?).bind λvs=>grd (Qg (vs.length+1) lim) (compLoop nx _ el acc n (i+1) (h2.set acc (.list (vs++ [x])))))=_/\_;rw [q2];show ∃h',((h2[acc]?.bind MObj.list?).bind λvs=>grd (Qg (vs.length+1) lim) (compLoop nx _ el acc n (i+1) (h2.set acc (.list (vs++ [x])))))=_/\_;rw [R2.g e7];show ∃h',grd (Qg (vs.length+1) lim) (compLoop nx _ el acc n (i+1) (h2.set acc (.list (vs++ [x]))))=_/\_;rw [aL] at q3;rw [q3,<-iW];exact ih (i+1) (R2.upd (o:=.list (xM vs [x])) e7 trivial) y G e9
    |_=>cases e8
theorem gW (K:yI P T c d) (e:Ex): ∀fr {H h},Rep P H h->Of P (ev c e fr H) (eval d e fr h):=by
 refine Ex.rec (motive_1:=λe=> ∀fr {H h},Rep P H h->Of P (ev c e fr H) (eval d e fr h)) (motive_2:=λes=>zyh P d (evl c es) es) ?_ ?_ ?_ ?_ ?_ ?_ ?_ ?_ ?_ ?_ ?_ ?_ ?_ ?_ ?_ ?_ ?_ ?_ e
 ·intro x fr H h R
  show Of P (ob (kR fr x) λo=>ob o λv=> .ok v H) (fr[x]?.bind λo=>o.map λv=>(v,h));rw [d0];exact kI (λ_ e=>e) λo _=>tD (λ_ e=>e) R
 ·intro v fr H h R;exact b5 R
 ·intro es k fr H h R;exact bR (k.s fr R) λvs G g Q=>iP (o:=.list vs) Q trivial
 ·intro es k fr H h R;exact bR (k.s fr R) λvs G g Q=>b5 Q
 ·intro kvs k fr H h R
  refine bR (k.s fr R) λvs G g Q y G' e=>?_;obtain ⟨q1,e2⟩:=d4 e;obtain ⟨es,q2,e3⟩:=cB e2;rw [zik _ q2];rw [aL] at q1;show ∃h',grd (Qg kvs.length 30) (aS g (.dict (some es.length) es))=_/\_;rw [q1,<-aL];exact iP (o:=.dict (some (bK es)) es) Q trivial y G' e3
 ·intro op a b ka kb fr H h R;exact bR (ka fr R) λx G g Q=>bR (kb fr Q) λy G2 g2 Q2=>zfD Q2 op x y
 ·intro a ka fr H h R;exact zcn (ka fr R) λb G g Q=>b5 Q
 ·intro op a b ka kb fr H h R;exact bR (ka fr R) λx G g Q=>bR (kb fr Q) λy G2 g2 Q2=>tD (zfy Q2 op x y) Q2
 ·intro stop es k fr H h R;exact k.b stop fr R
 ·intro t a b kt ka kb fr H h R
  refine zcn (f:=λb G=>Bool.rec (motive:=λ_=>Re Val) (ev c _ fr G) (ev c _ fr G) b) (kt fr R) λb G g Q=>?_;cases b with
  |false=>exact kb fr Q
  |true=>exact ka fr Q
 ·intro e n ke fr H h R
  refine bR (ke fr R) λo G g Q=>?_;rw [K.t,K.p];exact tD (zdy K.k Q o n) Q
 ·intro e i ke ki fr H h R;exact bR (ke fr R) λo G g Q=>bR (ki fr Q) λk G2 g2 Q2=>tD (zd5 Q2 o k) Q2
 ·intro e k bs ke ks fr H h R;exact bR (ke fr R) λo G g Q=>bR (ks.s fr Q) λvs G2 g2 Q2=>zan Q2 o k vs
 ·intro f as kf ks fr H h R;exact bR (kf fr R) λo G g Q=>bR (ks.s fr Q) λvs G2 g2 Q2=>za5 K Q2 o vs
 ·intro o n as ko ks fr H h R;exact bR (ko fr R) λo G g Q=>bR (ks.s fr Q) λvs G2 g2 Q2=>za6 K Q Q2 o n vs
 ·intro el tg many it ifs kel kit kifs fr H h R
  refine bR (kit fr R) λv G g Q y G' e=>?_;obtain ⟨k,e1,e2⟩:=cB e;rw [zcY Q e1];show ∃h',bnd (compLoop (λi h=>aZ h i k.to) (λv h=>(b9 fr tg many v).bind λfr'=>bnd (jA d ifs fr' h) λb h'=>some (bif b then some fr' else none,h')) (λfr' h=>eval d el fr' h) g.length d.fuel 0 (g++ [.list []])) (λ_ h2=>some (Val.ref g.length,h2))=_/\_;rw [K.u,<-Q.n];exact bR (zir (λi R=>tH R i k) (uZ fr tg many) kifs.t kel bG 0 (Q.push (o:=.list []) trivial)) (λu G2 g2 Q2=>b5 Q2) y G' e2
 ·exact ⟨rfl,λfr {H h} R=>b5 R,λstop fr {H h} R=>a7,λfr {H h} R=>b5 R⟩
 ·intro e es k ks
  refine ⟨rfl,λfr {H h} R=>bR (k fr R) λv G g Q=>bR (ks.s fr Q) λvs G2 g2 Q2=>b5 Q2,λstop fr {H h} R=>bR (k fr R) λv G g Q=>?_,λfr {H h} R=>zcn (f:=λb G=>Bool.rec (motive:=λ_=>Re Bool) (.ok false G) (zfr (evl c es) fr G) b) (k fr R) λb G g Q=>?_⟩
  ·show Of P (Bool.rec (motive:=λ_=>Re Val) (ob (tru G v) λb=>Bool.rec (motive:=λ_=>Re Val) (Bool.rec (motive:=λ_=>Re Val) (.ok v G) (zdk stop (evl c es) fr G) stop) (Bool.rec (motive:=λ_=>Re Val) (zdk stop (evl c es) fr G) (.ok v G) stop) b) (.ok v G) (bZ (evl c es))) (bif es.isEmpty then some (v,g) else (truthy g v).bind λb=>bif b==stop then some (v,g) else gV d stop es fr g)
   rw [ks.n];cases es.isEmpty with
   |true=>exact b5 Q
   |false=>
    refine kI (vP Q v) λb _=>?_;cases b<;>cases stop<;>first|exact b5 Q|exact ks.b _ fr Q
  ·cases b with
   |false=>exact b5 Q
   |true=>exact ks.t fr Q
end
def OfS (P:Prg) (r:RSX) (o:SR):Prop:=RSX.casesOn (motive:=λ_=>Prop) r True (λfr H=> ∃h,o=some ((.nx,fr),h)/\Rep P H h) (λfr H=> ∃h,o=some ((.bk,fr),h)/\Rep P H h)
 (λfr H=> ∃h,o=some ((.ct,fr),h)/\Rep P H h) (λv H=> ∃fr h,o=some ((.rt v,fr),h)/\Rep P H h)
section
variable {P:Prg}{T:PT}{H:TH}{h:MH}{α β:Type}{c:CCt}{d:Cx}
theorem tC {r:Re α}{o:Option (α×MH)}{f:α->TH->RSX}{g:α->MH->SR} (a:Of P r o) (b: ∀x G k,Rep P G k->OfS P (f x G) (g x k)):OfS P (bsX r f) (bnd o g):=by
 cases r with
 |no=>trivial
 |ok x G=>
  obtain ⟨k,rfl,R⟩:=a x G rfl;exact b x G k R
theorem zg2 {r o:Option α}{f:α->RSX}{g:α->SR} (a:Le r o) (b: ∀x,r=some x->OfS P (f x) (g x)):OfS P (os r f) (o.bind g):=by
 cases r with
 |none=>trivial
 |some x=>rw [a x rfl];exact b x rfl
theorem zjy {r:Re Val}{o:Option (Val×MH)}{f:Bool->TH->RSX}{g:Bool->MH->SR} (a:Of P r o) (b: ∀x G k,Rep P G k->OfS P (f x G) (g x k)):OfS P (bsX r λv H1=>os (tru H1 v) λb=>f b H1) (bnd (aQ o) g):=by
 cases r with
 |no=>trivial
 |ok v G=>
  obtain ⟨k,rfl,R⟩:=a v G rfl;show OfS P (os (tru G v) λb=>f b G) (bnd ((truthy k v).map λb=>(b,k)) g);cases q:tru G v with
  |none=>trivial
  |some t=>rw [vP R v t q];exact b t G k R
theorem zch {fr:Frame} (R:Rep P H h):OfS P (.nx fr H) (some ((.nx,fr),h)):=⟨h,rfl,R⟩
theorem zjz {fr:Frame}{v:Val} (R:Rep P H h):OfS P (.rt v H) (some ((.rt v,fr),h)):=⟨fr,h,rfl,R⟩
def sqM (o:SR) (g:Frame->MH->SR):SR:=bnd o λp h1=>Fl.casesOn (motive:=λ_=>SR) p.1 (g p.2 h1) (some (p,h1)) (some (p,h1)) (λ_=>some (p,h1))
theorem zsQ {a:RSX}{o:SR}{k:Frame->TH->RSX}{g:Frame->MH->SR} (q:OfS P a o) (b: ∀fr G h,Rep P G h->OfS P (k fr G) (g fr h)):OfS P (sq a k) (sqM o g):=by
 cases a with
 |no=>trivial
 |nx fr G=>obtain ⟨h,rfl,R⟩:=q;exact b fr G h R
 |bk fr G=>obtain ⟨h,rfl,R⟩:=q;exact ⟨h,rfl,R⟩
 |ct fr G=>obtain ⟨h,rfl,R⟩:=q;exact ⟨h,rfl,R⟩
 |rt v G=>obtain ⟨fr,h,rfl,R⟩:=q;exact ⟨fr,h,rfl,R⟩
theorem lQ {γ:Type}{o:Option (α×MH)}{f:α->MH->Option (β×MH)}{g:β->MH->Option (γ×MH)}:bnd (bnd o f) g=bnd o λa h=>bnd (f a h) g:=by cases o<;>rfl
theorem zrp {γ:Type}{o:Option α}{f:α->Option (β×MH)}{g:β->MH->Option (γ×MH)}:bnd (o.bind f) g=o.bind λa=>bnd (f a) g:=by cases o<;>rfl
theorem zr6 {γ:Type}{o:Option α}{f:α->β×MH}{g:β->MH->Option (γ×MH)}:bnd (o.map f) g=o.bind λa=>g (f a).1 (f a).2:=by cases o<;>rfl
theorem zbC (K:yI P T c d) {k:Frame->TH->RSX}{g:Frame->MH->SR} (q: ∀fr {G h},Rep P G h->OfS P (k fr G) (g fr h)) (v:Val) (t:T1) (fr:Frame) (R:Rep P H h):OfS P (stT c fr H v t k) (bnd (iL d fr h v t) g):=by
 cases t with
 |nm x=>
  show OfS P (k (zaS fr (some v) x) H) (g (fr.set x (some v)) h);rw [rG];exact q _ R
 | «at» o n=>
  show OfS P _ (bnd (bnd (eval d o fr h) λov h1=>(setAttr d.P h1 ov n v).map λh2=>(fr,h2)) g);rw [lQ];refine tC (gW K o fr R) λov G g1 Q=>?_;rw [K.p];show OfS P (os (qV c.P G ov n v) λH2=>k fr H2) _;rw [K.t];cases e:qV T G ov n v with
  |none=>trivial
  |some G2=>
   obtain ⟨g2,e2,Q2⟩:=zb0 K.k Q e;rw [e2];exact q fr Q2
 |sb o i=>
  show OfS P _ (bnd (bnd (eval d o fr h) λov h1=>bnd (eval d i fr h1) λiv h2=>(bV h2 ov iv v).map λh3=>(fr,h3)) g);rw [lQ];refine tC (gW K o fr R) λov G g1 Q=>?_;rw [lQ];refine tC (gW K i fr Q) λiv G2 g2 Q2=>?_;show OfS P (os (lN G2 ov iv v) λH2=>k fr H2) _;cases e:lN G2 ov iv v with
  |none=>trivial
  |some G3=>
   obtain ⟨g3,e3,Q3⟩:=zap Q2 e;rw [e3];exact q fr Q3
theorem zd6 (K:yI P T c d) {k:Frame->TH->RSX}{g:Frame->MH->SR} (q: ∀fr {G h},Rep P G h->OfS P (k fr G) (g fr h)) (ts:List T1): ∀ (vs:List Val) (fr:Frame) {H:TH}{h:MH},Rep P H h->OfS P (zd7 c ts vs fr H k) (bnd (bN d ts vs fr h) g):=by
 induction ts with
 |nil=>
  intro vs fr H h R;show OfS P (Bool.rec (motive:=λ_=>RSX) .no (k fr H) (bZ vs)) (bnd (grd vs.isEmpty (some (fr,h))) g);rw [gA];cases vs.isEmpty with
  |false=>trivial
  |true=>exact q fr R
 |cons t ts ih=>
  intro vs fr H h R;cases vs with
  |nil=>trivial
  |cons v vs=>
   show OfS P _ (bnd (bnd (iL d fr h v t) λfr' h'=>bN d ts vs fr' h') g);rw [lQ];exact zbC K (λfr' {G h'} Q=>ih vs fr' Q) v t fr R
theorem zh6 {cond:Frame->TH->Re Val}{cd:Frame->MH->Option (Val×MH)}{body:Frame->TH->RSX}{bd:Frame->MH->SR} (a: ∀fr {H h},Rep P H h->Of P (cond fr H) (cd fr h)) (b: ∀fr {H h},Rep P H h->OfS P (body fr H) (bd fr h)) (n:Nat):
  ∀ (fr:Frame) {H:TH}{h:MH},Rep P H h->OfS P (lpW cond body n fr H) (eH (λfr h=>aQ (cd fr h)) bd n fr h):=by
 induction n with
 |zero=>intro fr H h R;trivial
 |succ n ih=>
  intro fr H h R;refine zjy (f:=λb G=>Bool.rec (motive:=λ_=>RSX) (.nx fr G) (RSX.rec (motive:=λ_=>RSX) .no (λfr H=>lpW cond body n fr H) (λfr H=> .nx fr H) (λfr H=>lpW cond body n fr H) (λv H=> .rt v H) (body fr G)) b) (a fr R) λt G g Q=>?_;cases t with
  |false=>exact ⟨g,rfl,Q⟩
  |true=>
   have q:=b fr Q;show OfS P (RSX.rec (motive:=λ_=>RSX) .no (λfr H=>lpW cond body n fr H) (λfr H=> .nx fr H) (λfr H=>lpW cond body n fr H) (λv H=> .rt v H) (body fr G)) (bnd (bd fr g) λp h2=>Fl.casesOn (motive:=λ_=>SR) p.1 (eH (λfr h=>aQ (cd fr h)) bd n p.2 h2) (some ((.nx,p.2),h2)) (eH (λfr h=>aQ (cd fr h)) bd n p.2 h2) (λv=>some ((.rt v,p.2),h2)));cases e:body fr G with
   |no=>trivial
   |nx fr2 G2=>rw [e] at q;obtain ⟨h2,e2,Q2⟩:=q;rw [e2];exact ih fr2 Q2
   |bk fr2 G2=>rw [e] at q;obtain ⟨h2,e2,Q2⟩:=q;rw [e2];exact ⟨h2,rfl,Q2⟩
   |ct fr2 G2=>rw [e] at q;obtain ⟨h2,e2,Q2⟩:=q;rw [e2];exact ih fr2 Q2
   |rt v G2=>rw [e] at q;obtain ⟨fr2,h2,e2,Q2⟩:=q;rw [e2];exact ⟨fr2,h2,rfl,Q2⟩
theorem zh7 {next:TH->Nat->Option (Option Val)}{nx:Nat->MH->Option (Option Val)}{bind bn':Frame->Val->Option Frame}{body:Frame->TH->RSX}{bd:Frame->MH->SR} (a1: ∀ {H h} i,Rep P H h->Le (next H i) (nx i h)) (a2: ∀fr v,Le (bind fr v) (bn' fr v)) (b: ∀fr {H h},Rep P H h->OfS P (body fr H) (bd fr h)) (n:Nat):
  ∀ (i:Nat) (fr:Frame) {H:TH}{h:MH},Rep P H h->OfS P (lpF next bind body n i fr H) (fE nx bn' bd n i fr h):=by
 induction n with
 |zero=>intro i fr H h R;trivial
 |succ n ih=>
  intro i fr H h R;refine zg2 (a1 i R) λov _=>?_;cases ov with
  |none=>exact ⟨h,rfl,R⟩
  |some v=>
   refine zg2 (a2 fr v) λfr1 _=>?_;have q:=b fr1 R;show OfS P (RSX.rec (motive:=λ_=>RSX) .no (λfr H=>lpF next bind body n (Qp i) fr H) (λfr H=> .nx fr H) (λfr H=>lpF next bind body n (Qp i) fr H) (λv H=> .rt v H) (body fr1 H)) (bnd (bd fr1 h) _);cases e:body fr1 H with
   |no=>trivial
   |nx fr2 G2=>rw [e] at q;obtain ⟨h2,e2,Q2⟩:=q;rw [e2];exact ih (i+1) fr2 Q2
   |bk fr2 G2=>rw [e] at q;obtain ⟨h2,e2,Q2⟩:=q;rw [e2];exact ⟨h2,rfl,Q2⟩
   |ct fr2 G2=>rw [e] at q;obtain ⟨h2,e2,Q2⟩:=q;rw [e2];exact ih (i+1) fr2 Q2
   |rt v G2=>rw [e] at q;obtain ⟨fr2,h2,e2,Q2⟩:=q;rw [e2];exact ⟨fr2,h2,rfl,Q2⟩
theorem zij (K:yI P T c d) (ss:List Sm): ∀fr {H h},Rep P H h->OfS P (exl c ss fr H) (execs d ss fr h):=by
 refine Sm.rec_1 (motive_1:=λs=> ∀fr {H h},Rep P H h->OfS P (ex c s fr H) (exec d s fr h)) (motive_2:=λss=> ∀fr {H h},Rep P H h->OfS P (exl c ss fr H) (execs d ss fr h)) ?_ ?_ ?_ ?_ ?_ ?_ ?_ ?_ ?_ ?_ ?_ ?_ ?_ ?_ ?_ ss
 ·intro e fr H h R;exact tC (f:=λ_ H1=> .nx fr H1) (g:=λ_ h1=>some ((.nx,fr),h1)) (gW K e fr R) λv G g Q=>zch Q
 ·intro t e fr H h R;exact tC (gW K e fr R) λv G g Q=>zbC K (g:=λfr' h2=>some ((.nx,fr'),h2)) (k:=λfr' H2=> .nx fr' H2) (λfr' {G h'} Q=>zch Q) v t fr Q
 ·intro ts e fr H h R
  refine tC (f:=λv H1=>os (vT v (iT H1 v) some) λvs=>zd7 c ts vs fr H1 λfr' H2=> .nx fr' H2) (g:=λv h1=>(items h1 v).bind λvs=>bnd (bN d ts vs fr h1) λfr' h2=>some ((.nx,fr'),h2)) (gW K e fr R) λv G g Q=>zg2 (λvs e=>?_) λvs _=>zd6 K (g:=λfr' h2=>some ((.nx,fr'),h2)) (k:=λfr' H2=> .nx fr' H2) (λfr' {G h'} Q=>zch Q) ts vs fr Q;cases v with
  |tup l=>cases e;rfl
  |ref a=>exact zqj rfl (Q.list (.ref a)) vs e
  |_=>cases e
 ·intro e fr H h R;exact tC (f:=λv H1=> .rt v H1) (g:=λv h1=>some ((.rt v,fr),h1)) (gW K e fr R) λv G g Q=>zjz Q
 ·intro t a b ka kb fr H h R
  refine zjy (f:=λb' G=>Bool.rec (motive:=λ_=>RSX) (exl c b fr G) (exl c a fr G) b') (g:=λr h1=>bif r then execs d a fr h1 else execs d b fr h1) (gW K t fr R) λt G g Q=>?_;cases t with
  |false=>exact kb fr Q
  |true=>exact ka fr Q
 ·intro t b kb fr H h R
  show OfS P (lpW (ev c t) (exl c b) bG fr H) (eH (λfr h=>aQ (eval d t fr h)) (λfr h=>execs d b fr h) d.fuel fr h);rw [K.u];exact zh6 (gW K t) kb bG fr R
 ·intro tg many e b kb fr H h R
  refine tC (f:=λv H1=>os (uD H1 v) λk=>lpF (λH i=>kJ H i k) (λfr v=>fT fr tg many v) (exl c b) bG 0 fr H1) (g:=λv h1=>(bW h1 v).bind λk=>fE (λi h=>aZ h i k) (λfr v=>b9 fr tg many v) (λfr h=>execs d b fr h) d.fuel 0 fr h1) (gW K e fr R) λv G g Q=>?_;show OfS P (os (uD G v) λk=>lpF (λH i=>kJ H i k) (λfr v=>fT fr tg many v) (exl c b) bG 0 fr G) ((bW g v).bind λk=>fE (λi h=>aZ h i k) (λfr v=>b9 fr tg many v) (λfr h=>execs d b fr h) d.fuel 0 fr g);cases q:uD G v with
  |none=>trivial
  |some k=>
   rw [zcY Q q,K.u];have main: ∀n,OfS P (os (some k) λk=>lpF (λH i=>kJ H i k) (λfr v=>fT fr tg many v) (exl c b) n 0 fr G) (fE (λi h=>aZ h i k.to) (λfr v=>b9 fr tg many v) (λfr h=>execs d b fr h) n 0 fr g):=λn=>zh7 (λi R=>tH R i k) (λfr v=>uZ fr tg many v) kb n 0 fr Q;exact main bG
 ·intro fr H h R;exact ⟨h,rfl,R⟩
 ·intro fr H h R;exact ⟨h,rfl,R⟩
 ·intro fr H h R;exact ⟨h,rfl,R⟩
 ·intro fr H h R;trivial
 ·intro e fr H h R;trivial
 ·intro x e y v fr H h R;trivial
 ·intro fr H h R;exact ⟨h,rfl,R⟩
 ·intro s ss k ks fr H h R;exact zsQ (g:=λfr h=>execs d ss fr h) (k fr R) λfr' G g Q=>ks fr' Q
theorem zcp (n:Nat):zf5 n=Qm n none:=by
 induction n with
 |zero=>rfl
 |succ n ih=>rw [JW,<-ih];rfl
theorem zif (vs:List Val) (n:Nat):fr0 vs n=vs.map some++Qm n none:=by
 induction vs with
 |nil=>exact zcp n
 |cons v vs ih=>exact congrArg (some v:: ·) ih
theorem ziI (f:Fn) (as:List Val):Le (arT f as) (cJ f as):=by
 unfold arT cJ;rw [aL,aL,iV,iW];exact zf7 id λ_=>xJ
theorem zdw (K:yF P T) (Z:eE P) (n:Nat): ∀a as {H h},Rep P H h->Of P (uW T n a as H) (bC P bG n a as h):=by
 induction n with
 |zero=>intro a as H h R;exact a7
 |succ n ih=>
  intro a as H h R y G e;obtain ⟨o,e1,e2⟩:=cB e;obtain ⟨f,rfl,e3⟩:=cB e2;obtain ⟨vs,e4,e5⟩:=cB e3;have q:=zij (P:=P) (T:=T) (c:=⟨T,uW T n⟩) (d:=⟨P,bG,bC P bG n⟩) ⟨rfl,K,rfl,Z,rfl,ih⟩ f.body (fr0 vs (Nat.sub f.ns f.np)) R;show ∃h',((P.fnAt a).bind λf=>(cJ f as).bind λvs=>bnd (execs ⟨P,bG,bC P bG n⟩ f.body (bX f vs) h) xR)=_/\_;rw [K.fn a f e1];show ∃h',((cJ f as).bind λvs=>bnd (execs ⟨P,bG,bC P bG n⟩ f.body (bX f vs) h) xR)=_/\_;rw [ziI f as vs e4];show ∃h',bnd (execs ⟨P,bG,bC P bG n⟩ f.body (bX f vs) h) xR=_/\_;unfold bX;rw [<-zif];have e5:RSX.rec (motive:=λ_=>Re Val) .no (λ_ H=> .ok .none H) (λ_ _=> .no) (λ_ _=> .no) (λv H=> .ok v H) (exl ⟨T,uW T n⟩ f.body (fr0 vs (Nat.sub f.ns f.np)) H)= .ok y G:=e5;cases z:exl ⟨T,uW T n⟩ f.body (fr0 vs (Nat.sub f.ns f.np)) H with
  |nx fr2 G2=>rw [z] at e5 q;cases e5;obtain ⟨h2,e6,Q⟩:=q;exact ⟨h2,by rw [show execs ⟨P,bG,bC P bG n⟩ f.body (fr0 vs (f.ns-f.np)) h=_ from e6];rfl,Q⟩
  |rt v G2=>rw [z] at e5 q;cases e5;obtain ⟨fr2,h2,e6,Q⟩:=q;exact ⟨h2,by rw [show execs ⟨P,bG,bC P bG n⟩ f.body (fr0 vs (f.ns-f.np)) h=_ from e6];rfl,Q⟩
  |_=>rw [z] at e5;cases e5
end
theorem zff {vs:List Val}:zD vs=fG vs:=by
 induction vs with
 |nil=>rfl
 |cons v vs ih=>
  cases v with
  |int i=>
   show ooX (zD vs) (λl=>some (i::l))=_;rw [ih];unfold fG;rw [Jk];show _=(vs.mapM Val.int?).bind λl=>some (i::l);cases vs.mapM Val.int?<;>rfl
  |_=>unfold fG;rw [Jk];rfl
theorem yR {vs:List Val}:yS vs=eF vs:=by
 induction vs with
 |nil=>rfl
 |cons v vs ih=>
  cases v with
  |str i=>
   show ooX (yS vs) (λl=>some (i::l))=_;rw [ih];unfold eF;rw [Jk];show _=(vs.mapM Val.str?).bind λl=>some (i::l);cases vs.mapM Val.str?<;>rfl
  |_=>unfold eF;rw [Jk];rfl
theorem zfc {es:List (Val×Val)}:uB es=es.map (·.1):=by
 induction es with
 |nil=>rfl
 |cons p es ih=>exact congrArg (p.1:: ·) ih
theorem qD (a:Int) (l:List Int):(zc6 a l).Perm (a::l):=by
 induction l with
 |nil=>exact .refl _
 |cons x l ih=>
  show (Bool.rec (motive:=λ_=>List Int) (x::zc6 a l) (a::x::l) (iLe a x)).Perm _;cases iLe a x with
  |true=>exact .refl _
  |false=>exact (ih.cons x).trans (.swap a x l)
theorem uH {a:Int}{l:List Int} (h:l.Pairwise (· <= ·)):(zc6 a l).Pairwise (· <= ·):=by
 induction l with
 |nil=>exact List.pairwise_singleton _ _
 |cons x l ih=>
  obtain ⟨h1,h2⟩:=List.pairwise_cons.mp h;show (Bool.rec (motive:=λ_=>List Int) (x::zc6 a l) (a::x::l) (iLe a x)).Pairwise _;cases q:iLe a x with
  |true=>
   rw [mG,decide_eq_true_eq] at q;exact List.pairwise_cons.mpr ⟨λy hy=>(Qy.mp hy).elim (λe=>e▸q) λhy=>Jy q (h1 y hy),h⟩
  |false=>
   rw [mG,decide_eq_false_iff_not,Zp] at q;exact List.pairwise_cons.mpr ⟨λy hy=>(Qy.mp ((qD a l).mem_iff.mp hy)).elim (λe=>e▸Int.le_of_lt q) (h1 y),ih h2⟩
theorem yT (l:List Int):(z8 l).Perm l/\(z8 l).Pairwise (· <= ·):=by
 induction l with
 |nil=>exact ⟨.refl _,.nil⟩
 |cons a l ih=>exact ⟨(qD a _).trans (ih.1.cons a),uH ih.2⟩
theorem zee (l:List Int):z8 l=gD l:=by
 have h:(gD l).Perm l/\(gD l).Pairwise (· <= ·):=by
  refine ⟨Z4 ..,?_⟩
  have:=List.pairwise_mergeSort (le:=λa b:Int=>decide (a<=b)) (λa b c h1 h2=>decide_eq_true (Jy (of_decide_eq_true h1) (of_decide_eq_true h2))) (λa b=>by rcases Int.le_total a b with h|h<;>simp [h]) l
  exact this.imp λh=>of_decide_eq_true h
 exact PySem.W.lks_uniq ((yT l).1.trans h.1.symm) (yT l).2 h.2
section
variable {P:Prg}{H:TH}{h:MH}
theorem zbH (R:Rep P H h) (vs:List Val):Of P (zbI vs H) ((eF vs).bind λl=>grd (Qg l.length 60) (aS h (.list ((iM l).map .str)))):=by
 unfold zbI;rw [yR];refine kI (λ_ e=>e) λl _=>iQ (λe=>by rw [<-aL];exact e) λ_=>?_;rw [rH];exact iP R trivial
theorem zbJ (R:Rep P H h) (vs:List Val):Of P (yU vs H) ((eF vs).bind λl=>grd (!l.isEmpty && Qg l.length 60) (aS h (.list ((iM l).map .str)))):=by
 unfold yU;rw [yR];refine kI (λ_ e=>e) λl _=>iQ (λe=>by rw [<-aL,<-gA];exact e) λ_=>?_;rw [rH];exact iP R trivial
theorem zef (P:Prg):eE P:=λ{H h} as R=>y6 λx=>by
 cases x with
 |ref a=>
  intro v G e;obtain ⟨o,e1,e2⟩:=cB e;have g:=R.g e1;show ∃h',alt ((h[a]?.bind MObj.dict?).bind λp=>(fG (p.2.map (·.1))).bind λl=>grd (!l.isEmpty && Qg (l.length+1) 64) (aS h (.list ((gD l).map .int)))) (alt ((h[a]?.bind MObj.list?).bind λvs=>(eF vs).bind λl=>grd (Qg l.length 60) (aS h (.list ((iM l).map .str)))) ((h[a]?.bind MObj.dict?).bind λp=>(eF (p.2.map (·.1))).bind λl=>grd (!l.isEmpty && Qg l.length 60) (aS h (.list ((iM l).map .str)))))=_/\_;rw [g];cases o with
  |list vs=>exact aW rfl (b6 (zbH R vs)) v G e2
  |dict ep es=>
   have e2:Option.rec (motive:=λ_=>Re Val) (yU (uB es) H) (λl=>gr (Bool.and (Bool.not (bZ l)) (Qg (Qp (bK l)) 64)) (mk H (.list (zaT Val.int (z8 l))))) (zD (uB es))= .ok v G:=e2;rw [zff,zfc] at e2;show ∃h',alt ((fG (es.map (·.1))).bind λl=>grd (!l.isEmpty && Qg (l.length+1) 64) (aS h (.list ((gD l).map .int)))) (alt none ((eF (es.map (·.1))).bind λl=>grd (!l.isEmpty && Qg l.length 60) (aS h (.list ((iM l).map .str)))))=_/\_;cases q:fG (es.map (·.1)) with
   |none=>rw [q] at e2;exact aW rfl (aW rfl (zbJ R _)) v G e2
   |some l=>
    rw [q] at e2;have e2:gr (Bool.and (Bool.not (bZ l)) (Qg (Qp (bK l)) 64)) (mk H (.list (zaT Val.int (z8 l))))= .ok v G:=e2;rw [rH,zee,gA,aL] at e2;exact (show Of P _ (alt (grd (!l.isEmpty && Qg (l.length+1) 64) (aS h (.list ((gD l).map .int)))) _) from b6 (iQ (λe=>e) λ_=>iP (o:=.list ((gD l).map .int)) R trivial)) v G e2
  |inst _ _=>cases e2
 |_=>exact a7
end
end Internal
namespace Internal
theorem zsO (C:Cfg):zV C:=zsN C
end Internal
open PySem PySem.W PySem.W.X PyProof.Rows PySem.Calls
set_option linter.unusedVariables false
lay_quick PySem.W.staticsOk PySem.W.namesBound PySem.W.laidKept PySem.W.xlAt PySem.W.recOk PySem.W.openGood
namespace Tactic
def lits0 : List String := ["builtins.copyright#opaque","builtins.credits#opaque","builtins.license#opaque"]
end Tactic
lay_quick Tactic.lits0
namespace Tactic
abbrev TP:Program:=PySem.Challenge.pw_ui0508_20
theorem zsF:PySem.Challenge.pw_ui0508_20=TP:=rfl
abbrev TWtopGo:=PySem.W.Fast.tw15667345088766844465
theorem yH: @topGo=TWtopGo:=PySem.W.Fast.te15667345088766844465
abbrev TWtopRun:=PySem.W.Fast.tw14082659384304107361
theorem vC: @topRun=TWtopRun:=PySem.W.Fast.te14082659384304107361
abbrev TWsegRun:=PySem.W.Fast.tw14374325043358763698
theorem vD: @segRun=TWsegRun:=PySem.W.Fast.te14374325043358763698
abbrev TWsegRunT:=PySem.W.Fast.tw10110043849684766642
theorem aM: @segRunT=TWsegRunT:=PySem.W.Fast.te10110043849684766642
abbrev TWtable:=PySem.W.Fast.tw14364793385576792824
theorem aP: @treeTable=TWtable:=PySem.W.Fast.te14364793385576792824
abbrev TWdenote:=PySem.W.Fast.tw11892475500146522536
theorem vE: @denote=TWdenote:=PySem.W.Fast.te11892475500146522536
def dD:Nat->List Stmt->List Stmt
 |0,_=> []
 |_+1,[]=> []
 |n+1,s::r=>s::dD n r
def cQ:Nat->List Stmt->List Stmt
 |0,l=>l
 |_+1,[]=> []
 |n+1,_::r=>cQ n r
abbrev FnT:=Arguments×List Stmt×Scope
def zt0:FnT:=(⟨[],[],none,[],[],none,[]⟩,[],⟨.function,[],false,false,[]⟩)
def zgd:List Stmt->FnT
 | .FunctionDef _ a b _ _ _ sc _ _ _::_=>(a,b,sc)
 |_=>zt0
def zit:List Stmt->List Stmt
 | .ClassDef _ _ _ b _ _ _ _ _ _ _::_=>b
 |_=> []
def fnA (i:Nat):FnT:=zgd (cQ i TP.main.body)
def fnB (i j:Nat):FnT:=zgd (cQ j (zit (cQ i TP.main.body)))
def zwH (f:FnT) (name qual:PySem.Str) (g:Addr) (cl:List (PySem.Str×Addr)) (dV kV doc pm:Value) (an:Option Addr) (cd ct:Value) (b:Addr):FuncData:=
 {name:=name,qualname:=qual,params:=f.1,body:= .stmts f.2.1,scope:=f.2.2,globals:=g,closure:=cl,defaults:=dV,kwdefaults:=kV,doc:=doc,pyModule:=pm,annotations:=an,code:=cd,closureTuple:=ct,builtins:=b}
def de (P:Params) (n:PySem.Str) (t:Tok) (v:Value):DictEntry:=⟨Ky P n,.str n t,v⟩
def XZ (f:Nat):Nat->List Nat:= @Nat.rec (λ_=>Nat->List Nat) (λ_=> []) (λ_ ih k=>bif Qq k 0 then [] else (k % 128)::ih (k / 128)) f
abbrev XN (k:Nat):PySem.Str:=⟨⟨XZ 60 k⟩⟩
abbrev X9 (i:Int) (t:Tok):Value:=ZX i t
abbrev X0 (i:Int):Value:=ZX i 0
abbrev XS (s:PySem.Str) (t:Tok):Value:=QW s t
abbrev XB (b:Bool):Value:=ZP b
abbrev X7:Value:=QN
abbrev X6 {α:Type}:Option α:=Qv
abbrev X8 {α:Type} (l:List α):Array α:=Qx l
abbrev X1 (a:Addr):Value:= .ref a
def XO (c:Value) (d:Option Addr) (b:Data):Params->Obj:=λ_=>⟨c,d,b,Qx []⟩
def X2 (n:PySem.Str) (t:Tok) (v:Value):Params->DictEntry:=λP=>de P n t v
abbrev XF (f:FnT) (n q:PySem.Str) (g:Addr) (dV kV doc pm:Value) (an:Option Addr) (cd ct:Value)   :Data:= .func (zwH f n q g [] dV kV doc pm an cd ct 0)
abbrev X3 (o:Params->Obj) (x y:Params->BT):Params->BT:=λP=> .node (o P) (x P) (y P)
abbrev X4 (o:Params->Obj):Params->BT:=λP=> .node (o P) .nil .nil
abbrev X5:Params->BT:=λ_=> .nil
abbrev XT0:Value:=Qb s2766695959194262286x5
abbrev XT1:Value:=Qb s5856160107412720595x4
abbrev XT2:Value:=Qb s14018661285674007319x4
abbrev XT3:Value:=Qb s7174869446012820540x8
abbrev XT4:Value:=Qb s6070975301684473832x10
abbrev XT5:Value:=Qb s11030030927630378310x26
abbrev XT6:Value:=Qb s17162191345867700912x4
abbrev XT7:Value:=Qb s14755015743595814543x17
abbrev XT8:Value:=Qb s4290257624100764138x5
abbrev XT9:Value:=Qb s9222952809800978799x4
abbrev zrz:Value:=Qb s2742458400755230247x6
abbrev zye:Value:=Qb s11695548795398191787x4
abbrev zyd:Value:=Qb s4156966113859768872x10
abbrev zyc:Value:=Qb s9501651726347032510x9
abbrev zyb:Value:=Qb s15722918466584999320x5
abbrev zya:Value:=Qb s591115383303110208x11
abbrev zx9:Value:=Qb s15721156781594690315x7
abbrev zx8:Value:=Qb s14340494229221121180x9
abbrev zx7:Value:=Qb s13429844117177748173x6
abbrev zx6:Value:=Qb s16463266125957815391x5
abbrev zx5:Value:=Qb s4922535414793169389x9
abbrev zx4:Value:=Qb s8101838861749082086x8
abbrev zx3:Value:=Qb s7066276694103001551x3
abbrev zx2:Value:=Qb s462964344163437139x3
abbrev zx1:Value:=Qb s1438033511350832697x5
abbrev zx0:Value:=Qb s14365286008749172514x8
abbrev zxZ:Value:=Qb s3642769012341782148x3
abbrev zxY:Value:=Qb s4674234679698826739x5
abbrev zxX:Value:=Qb s16656946322747308186x12
abbrev zxW:Value:=Qb s10796804682411823810x3
abbrev zxV:Value:=Qb s14339709457334898076x3
abbrev zxU:Value:=Qb s4278001404047624695x13
abbrev zxT:Value:=Qb s6585700554429387442x18
abbrev zxS:Value:=Qb s5946037652744460706x9
abbrev zxR:Value:=Qb s7410770068591931388x13
abbrev zxQ:Value:=Qb s11817881795495490833x17
abbrev zxP:Value:=Qb s15679963881808890155x10
abbrev zxO:Value:=Qb s3871700062485845797x15
abbrev zxN:Value:=Qb s7689518266570723881x14
abbrev zxM:Value:=Qb s9001593270443806431x14
abbrev zxL:Value:=Qb s6882542574934516792x11
abbrev zxK:Value:=Qb s14403400214490484960x8
abbrev zxJ:Value:=Qb s14457978657717015782x11
abbrev zxI:Value:=Qb s1753610191782819921x11
abbrev zxH:Value:=Qb s14119380538032626715x11
abbrev zxG:Value:=Qb s11437920000406562045x9
abbrev ziM:Value:=Qb s10852414792293593619x7
abbrev zxF:Value:=Qb s14816307405966870543x14
abbrev zxE:Value:=Qb s8682627914449686677x12
abbrev zxD:Value:=Qb s4428170145600203450x18
abbrev zxC:Value:=Qb s5991306692159431302x13
abbrev zxB:Value:=Qb s16067994140765818257x11
abbrev zxA:Value:=Qb s2327743974964600596x11
abbrev zxz:Value:=Qb s2804747833354056582x9
abbrev zxy:Value:=Qb s14270485950484850486x7
abbrev zxx:Value:=Qb s12041534306414923332x18
abbrev zxw:Value:=Qb s2531307568338490285x13
abbrev zxv:Value:=Qb s631175304937289666x17
abbrev zxu:Value:=Qb s5144983644357021410x12
abbrev zxt:Value:=Qb s18039099521571816885x18
abbrev zxs:Value:=Qb s6011586214260557989x15
abbrev zxr:Value:=Qb s5430567037509283100x13
abbrev zxq:Value:=Qb s8117915138073963741x13
abbrev zxp:Value:=Qb s3423317712779056401x25
abbrev zxo:Value:=Qb s2007317383269046180x15
abbrev zxn:Value:=Qb s17481586968713580700x14
abbrev zxm:Value:=Qb s2450899226349176912x13
abbrev zxl:Value:=Qb s16626165730633575011x14
abbrev zxk:Value:=Qb s14288496050688921416x11
abbrev zxj:Value:=Qb s5735081916595925998x15
abbrev zxi:Value:=Qb s3865607918536308442x17
abbrev zxh:Value:=Qb s13337502604062700212x15
abbrev zxg:Value:=Qb s13114017843053701147x15
abbrev zxf:Value:=Qb s17467278006356818441x17
abbrev zxe:Value:=Qb s17722149559621369488x16
abbrev zxd:Value:=Qb s7855274175708717672x17
abbrev zxc:Value:=Qb s13351283678309829046x18
abbrev zxb:Value:=Qb s6668348653404991179x15
abbrev zxa:Value:=Qb s12913350958174193794x18
abbrev zw9:Value:=Qb s16115879512475548326x12
abbrev zw8:Value:=Qb s15920661018069861047x16
abbrev zw7:Value:=Qb s10779130036587390575x21
abbrev zw6:Value:=Qb s7801419657504700863x10
abbrev zw5:Value:=Qb s1688129525768580628x8
abbrev zw4:Value:=Qb s1031832959479892071x19
abbrev zw3:Value:=Qb s8991790508128307865x19
abbrev zw2:Value:=Qb s14539662485746970245x23
abbrev zw1:Value:=Qb s11643622729373238714x14
abbrev zw0:Value:=Qb s3386828779285465597x17
abbrev zwZ:Value:=Qb s13042696260734638735x12
abbrev zwY:Value:=Qb s18239426817015966623x15
abbrev zwX:Value:=Qb s1270395311379034370x22
abbrev zwW:Value:=Qb s10696252587037064777x22
abbrev zwV:Value:=Qb s7852717498200857586x20
abbrev zwU:Value:=Qb s6377248116197321094x8
abbrev zwT:Value:=Qb s3834378056692298002x18
abbrev zwS:Value:=Qb s17586630440231065808x18
abbrev zwR:Value:=Qb s15234114252648025395x21
abbrev zwQ:Value:=Qb s8496462677383758984x14
abbrev zry:Value:=Qb s6658869562736209489x6
def n0:=XN 0x7d97675c9bf6bc
def n1:=XN 0x79e0bba75c6bf6e9c3b31af
def n2:=XN 0xbf7f769c3b6fdf
def n3:=XN 0xbf7f2edc3bafdf
def n4:=XN 0x1cf3eed3c9765c7d7273dd87974
def n5:=XN 421105403244511
def n6:=XN 0x17efe5cf875e3c3c2fdf
def n7:=XN 0x2fdfe597261dfb2fdf
def n8:=XN 0xbf7f1e5e1cefdf
def n9:=XN 0x17eff3ddbf4f4c3d37eedd86fdf
def n10:=XN 0xbf7f9eed3d3669eb8afdf
def n11:=XN 0xbf7f2ecd39afdf
def n12:=XN 0x2fdfc997463c38efdf
def n13:=XN 29219126239
def n14:=XN 2874561127620
def n15:=XN 0x1cb86ed9ab466c98b0
def n16:=XN 367430873507014
def n17:=XN 0xa94e2d48316947
def n18:=XN 22438781133
def n19:=XN 0x3d7eed1bebb6efaf74284a0
def n20:=XN 0xe5bf9728b97769d18f0cd
def n21:=XN 0x72cbd3a65d97f9e9
def n22:=XN 0x1cb2f4e99765fc9972ee
def n23:=XN 0x3665c58765fc9972ee
def n24:=XN 0x64e5bfbdfc9972ee
def n25:=XN 0xe7cb2f4e99765fc9972ee
def n26:=XN 0x3a6eebbf1dfc9972ee
def n27:=XN 29779293299
def n28:=XN 509276531061990
def n29:=XN 0x66df7fa68cfa72f7
def n30:=XN 107
def n31:=XN 0x2fdfcbb3ae4dfb6fdf
def n32:=XN 0xe7cb7f2e595765c7d7273dd87974
def n33:=XN 0xbf7f2edc3bb661ebc6fdf
def n34:=XN 0x17efefdd97769d9d39f2d39afdf
def n35:=XN 0x5fbfcf2f4eb8b4f2e9d30dfc7a7a61e9cefdf
def n36:=XN 0x17efe6cbcb5e1cbdefdf
def n37:=XN 232387827
def n38:=XN 211597303
def n39:=XN 509719716115180
def n40:=XN 27359129846
def n41:=XN 31381287660
def n42:=XN 245168109
def n43:=XN 244872311
def n44:=XN 245248756
def n45:=XN 1897177
def n46:=XN 213610734
def n47:=XN 1897209
def n48:=XN 0x72cb9396fbfcf0e8
def n49:=XN 0xe9cb0f0bfbb0e3
def n50:=XN 4013864876014
def n51:=XN 1668975
def n52:=XN 211383022
def n53:=XN 243103344
def n54:=XN 31083689204
def n55:=XN 240679539
def n56:=XN 3809597945827
def n57:=XN 240745327
def n58:=XN 0x72cbd3a65c57f9e9
def n59:=XN 251393139
def n60:=XN 211317490
def n61:=XN 215692019
def n62:=XN 97
def n63:=XN 0xc9972ee5dcf2d9
def n64:=XN 98
def n65:=XN 0xe7d76705dcf2d9
def n66:=XN 0x73cbb74f45dcf2d9
def n67:=XN 0xe587a735dcf2d9
def n68:=XN 1964018
def n69:=XN 0x376fdbb77e35dcf2d9
def n70:=XN 0xe597b6f5dcf2d9
def n71:=XN 0x72cbd3a65c57f9e95dcf2d9
def n72:=XN 0xefbf4735dcf2d9
def n73:=XN 0xc9872f25dcf2d9
def n74:=XN 0xbf7fa63d392fdf
def n75:=XN 31381287628
def n76:=XN 0x3265cbb9774e7872cc
def n77:=XN 0x39f5d9c1774e7872cc
def n78:=XN 0x1cf2edd3d1774e7872cc
def n79:=XN 0x3961e9cd774e7872cc
def n80:=XN 0xddbf6eddf8d774e7872cc
def n81:=XN 0x3965edbd774e7872cc
def n82:=XN 0x1cb2f4e99715fe7a5774e7872cc
def n83:=XN 0x3befd1cd774e7872cc
def n84:=XN 0x3261cbc9774e7872cc
def n85:=XN 31371130819
def n86:=XN 211350495
def n87:=XN 31371130851
def n88:=XN 0x3265cbb9774ddd77c3
def n89:=XN 0x39f5d9c1774ddd77c3
def n90:=XN 0x1cf2edd3d1774ddd77c3
def n91:=XN 0x3961e9cd774ddd77c3
def n92:=XN 0xddbf6eddf8d774ddd77c3
def n93:=XN 0x3965edbd774ddd77c3
def n94:=XN 0x1cb2f4e99715fe7a5774ddd77c3
def n95:=XN 0x3befd1cd774ddd77c3
def n96:=XN 0x3261cbc9774ddd77c3
def n97:=XN 3497140974659
def n98:=XN 3497140974691
def n99:=XN 0x1932e5dcbb2e3dd87443
def zh4:=XN 0x1cfaece0bb2e3dd87443
def zh3:=XN 0xe7976e9e8bb2e3dd87443
def zh2:=XN 0x1cb0f4e6bb2e3dd87443
def zh1:=XN 0x6edfb76efc6bb2e3dd87443
def zh0:=XN 0x1cb2f6debb2e3dd87443
def zhZ:=XN 0xe597a74cb8aff3d2bb2e3dd87443
def zhY:=XN 0x1df7e8e6bb2e3dd87443
def zaR:=XN 30815303797
def zqa:=XN 226275565
def zaQ:=XN 30815418348
def zhX:=XN 0x1930e5e4bb2e3dd87443
def mA:=XN 4186732950732
def oJ:=XN 0xddbf4f4c787966
def zp9:=XN 4186732950764
def zhW:=XN 0x1932e5dcbbceccbaf4cc
def zhV:=XN 0x1cfaece0bbceccbaf4cc
def zhU:=XN 0x1cb0f4e6bbceccbaf4cc
def zhT:=XN 0xe597a74cb8aff3d2bbceccbaf4cc
def zwA:=XN 110
def zwz:=XN 100
def zwy:=XN 15586
def bT:=XN 0x65dda7463c3b5765c7d7273dd87974
def zcN:=XN 22430328018
def c8:=XN 217822450
def zcM:=XN 0x14e2d483529dfa94e7cd
def zcL:=XN 0x53874a0dfa94e7cd
def zcK:=XN 1140559
def tX:=XN 1636673
def gF:=XN 0xbf7fa69dda6fdf
def zaP:=XN 0xf3d386dcb7f9e9
def zcJ:=XN 29204459756
def l9:=XN 4013864678135
def zcI:=XN 4013059518708
def zhS:=XN 0xbf7fa69dda6fdf5d8f941
def zhR:=XN 0xf3d386dcb7f9e95d8f941
def zhQ:=XN 0x6ccb8b0ec5d8f941
def tW:=XN 448010674303181
def zaO:=XN 0x36efdfcafe4cb9775f
def l8:=XN 27356854899
def zcH:=XN 3978726767219
def zaN:=XN 0x32f4c3d39dfc9972ee
def tV:=XN 1636705
def zaM:=XN 29749703779
def xE:=XN 29749801698
def tU:=XN 1652581
def tT:=XN 213824755
def zcG:=XN 0x39e3e586ff4ddd77e3
def zaL:=XN 0x79e9c36e5bfcf0e8
def zcF:=XN 3980574372076
def zcE:=XN 0xdda70ece17f9e9
def zcD:=XN 255604707
def zcC:=XN 31083705580
def zhP:=XN 0xbf7fa69dda6fdf5d97769d18f0cd
def zhO:=XN 0x36efdfcafe4cb9775f5d97769d18f0cd
def zhN:=XN 0x65e987a735d97769d18f0cd
def zhM:=XN 0x39e5e987a735d97769d18f0cd
def zp8:=XN 3944329476846
def zhL:=XN 0x32f4c3d39dfc9972ee5d97769d18f0cd
def zhK:=XN 3497149691891
def zhJ:=XN 0x18f9615d97769d18f0cd
def zwx:=XN 14945
def zhI:=XN 3465723654882
def zhH:=XN 0x6ed3874635d97769d18f0cd
def zhG:=XN 31379192435
def ze0:=XN 0x6ed39f2e25d97769d18f0cd
def zeZ:=XN 0x1937655d97769d18f0cd
def zhF:=XN 0xcbeb4f35d97769d18f0cd
def zhE:=XN 0x39e3e586ff4ddd77e35d97769d18f0cd
def zhD:=XN 0x79e9c36e5bfcf0e85d97769d18f0cd
def zhC:=XN 0x39eccb8b0ec5d97769d18f0cd
def zhB:=XN 0xdda70ece17f9e95d97769d18f0cd
def zhA:=XN 0xf3c37e35d97769d18f0cd
def zhz:=XN 0x73cbbb4ec5d97769d18f0cd
def zp7:=XN 4015504749023
def zp6:=XN 242809185
def zp5:=XN 242825061
def zhy:=XN 31381566694
def c7:=XN 0x1cf2ecebc9765c7d7273dd87974
def tS:=XN 230324596
def tR:=XN 443747950901215
def tQ:=XN 0x64e587bebc78715f
def tP:=XN 244938463
def zeY:=XN 145875525
def zhx:=XN 35
def zeX:=XN 177531597
def rE:=XN 245168877
def zeW:=XN 0x73cbb3af2bf529c58f3a7cc
def zeV:=XN 22449056339
def xD:=XN 213596882
def tO:=XN 0x74cbcefe4cb9775f
def xC:=XN 0x39f4cbceff7dfa39df
def tN:=XN 0x73e9979dfc9872f2
def l7:=XN 0x65d9d795fc9872f2
def xB:=XN 448010674303213
def zww:=XN 3497399218914
def zwv:=XN 1913581
def zhw:=XN 226277367
def zwu:=XN 30815173231
def zaK:=XN 0x74e7bf1dfc9972ee
def zaJ:=XN 213628140
def zeU:=XN 0x5fbfd34eed37efaecbb3ad2
def zhv:=XN 0x3a73df8efe4cb9772ecbb3ad2
def zhu:=XN 0x65dda762ecbb3ad2
def zeT:=XN 245168099
def zcB:=XN 244953836
def zht:=XN 31358317810
def xA:=XN 243136498
def zwt:=XN 0x1973e4cb7f2e2bfe70ed
def w7:=XN 1915631
def zws:=XN 28954883682
def zwr:=XN 211317480
def zeS:=XN 228225268
def zeR:=XN 1652335
def zwq:=XN 32178485601
def zeQ:=XN 1962734
def zhs:=XN 27321202288
def tM:=XN 0x6eebc9765c7d7273dd87974
def wZ:=XN 0xe793761e9ceff4cd9765f
def wY:=XN 0x73c9bb0f4e77fa68cfa795f
def oI:=XN 0x1d396fd1cefe4cb9775f
def zhr:=XN 0xe797675e57fa72dfa39dfc9972ee
def wX:=XN 443610480245986
def wW:=XN 0xcbd34f2ef9795f
def zhq:=XN 1368793
def zhp:=XN 10190
def zho:=XN 18661925069
def wV:=XN 509241055853023
def wU:=XN 0xe7971e9dfa31df
def wR:=XN 447944932817375
def wQ:=XN 29212834399
def wO:=XN 0xcbb3af2bf97669e1b77e3
def zhn:=XN 177530829
def wN:=XN 27340091636
def wM:=XN 1651297
def wL:=XN 0x73cbb74f4bfdf7f2
def wK:=XN 0x3961e9ceff9e9c36e5
def zhm:=XN 22424102871
def zhl:=XN 0x1bbaf2bf529c58f3a7cc
def oH:=XN 213596914
def zcA:=XN 487286833314167
def zwp:=XN 243086067
def zp4:=XN 245166834
def zp3:=XN 27076163558
def zeP:=XN 211497704
def zhk:=XN 3465715120737
def zwo:=XN 213628903
def zwn:=XN 245166316
def zp2:=XN 3944367338220
def zp1:=XN 1995499
def zcz:=XN 0x1cf961e9cd765c7d7273dd87974
def zwm:=XN 105
def zwl:=XN 106
def zhj:=XN 0x30657dc306ac34f5bfdf0ec
def zp0:=XN 0x3775e57fa72dfa39dfc9972ee
def zaI:=XN 4016840536927
def zaH:=XN 211366111
def zaG:=XN 3463297348319
def rD:=XN 509792722172655
def zaF:=XN 443164898638303
def zaE:=XN 0x6cd9971dfef8765f
def zaD:=XN 1962220
def zwk:=XN 30815449324
def zpZ:=XN 4016016503283
def zwj:=XN 1669860
def zpY:=XN 0xe7bb4f4d9a7ae2
def zwi:=XN 0x17eff3e787663bf93669eb8afdf
def zwh:=XN 0x2fdfe9cb7f0dba6fdf
def zwg:=XN 1896801
def zwf:=XN 1783393
def zwe:=XN 1996641
def zwd:=XN 28407560673
def zwc:=XN 1815778
def zwb:=XN 0x3a6ed3bf86bc397962
def zwa:=XN 0xcbb3161d9b30e3
def zv9:=XN 1881187
def zv8:=XN 447941971769315
def zv7:=XN 505394375635684
def zv6:=XN 1881316
def zv5:=XN 3466000708836
def zv4:=XN 228096869
def zv3:=XN 209288293
def zv2:=XN 4011998361574
def zv1:=XN 505394375766759
def zv0:=XN 509512446113383
def zvZ:=XN 505394375749864
def zvY:=XN 220000488
def zvX:=XN 1979112
def zvW:=XN 12905
def zvV:=XN 31385728873
def zvU:=XN 0x32e3dd87a73dda79e9
def zvT:=XN 0x39f3c3b31e2ebcf9e9
def zvS:=XN 240745065
def zvR:=XN 30815368417
def zpX:=XN 1815276
def zvQ:=XN 3980566001644
def zpW:=XN 1978605
def zpV:=XN 1815789
def zvP:=XN 245248750
def zvO:=XN 31391840097
def zvN:=XN 1913327
def zvM:=XN 1653103
def zvL:=XN 1964016
def zvK:=XN 31370934640
def zvJ:=XN 240923378
def zvI:=XN 27076163570
def zvH:=XN 505394375766771
def zpU:=XN 3463330969587
def zvG:=XN 1800947
def zvF:=XN 243052790
def zvE:=XN 213628878
def zvD:=XN 0xe7a79f0d3b3645
def zvC:=XN 0x3265e9bb2edcbb386d93d37ce
def zvB:=XN 27354935494
def zvA:=XN 213743956
def zvz:=XN 228325346
def zvy:=XN 0x3be5d3dbcf2dfb72ed
def zvx:=XN 0x79c3cb961cbd3ce2
def zvw:=XN 31083805922
def zvv:=XN 0x1937e8e9976f3e787663
def zvu:=XN 531265142618083
def zpT:=XN 244905188
def zvt:=XN 0x65e987965dbd7765
def zvs:=XN 3944367207654
def zvr:=XN 31343769190
def zvq:=XN 0x74cbcf765f5bf966
def zvp:=XN 0xf3d3965e1bf970
def zpS:=XN 1914729
def zpR:=XN 245167340
def zvo:=XN 1847533
def zvn:=XN 4012518322543
def zpQ:=XN 27329802482
def zvm:=XN 0xc9979f2cbdb2f2
def zpP:=XN 1913587
def zvl:=XN 27321333363
def zvk:=XN 0xc9bf474cbb71e9e987a73
def zpO:=XN 1882739
def zvj:=XN 30815304435
def zpN:=XN 27340323572
def zpM:=XN 213662964
def zvi:=XN 1848570
def zvh:=XN 0x5fbf9fae2cb92fdf
def zvg:=XN 0x6edfa7a70cb8fc45cbcf0c2
def zvf:=XN 0x3875dfca3eedfa7a70cb8fc45cbcf0c2
def zve:=XN 0x6edfa7a70cb8fc45
def zvd:=XN 0x74d3e22f2dfd30f2cbbb2c7
def zvc:=XN 0x74e1d7972cbd3749c9cb0efc5e72cb
def zvb:=XN 0x3a69f1176e5e9cfcd3
def zva:=XN 0x1cb7f2e5171e9e9976e8e9a7941
def zu9:=XN 0x396fe5ca2eedfa7a72cbcf9c1
def zu8:=XN 0x396fe5ca2e5e9d7169e5d3a41
def zu7:=XN 0x1cb7f2e517965cd9bac2
def zu6:=XN 0xe5bf9728b1a7c5
def zu5:=XN 0x1cb7f2e517a72dfc36c9
def zu4:=XN 0x1cb7f2e517875d7bf7cc
def zu3:=XN 0x1cb7f2e517cf2dfb72cd
def zu2:=XN 0x72dfcb945cbb70ce
def zu1:=XN 505222075083215
def zu0:=XN 0x396fe5ca2e5c7bb2f2cb9b2d2
def zuZ:=XN 0xe5bf9728b976e9e9bbad2
def zuY:=XN 0x376fd3d30f2cbd24e3dde79c1e1bfa53
def zuX:=XN 0x6edfa7a61e597a49e1bfa53
def zuW:=XN 0x1cb7f2e517c61e9bbcd3
def zuV:=XN 0x1cb7f2e5176e5e9cfcd3
def zuU:=XN 0x72dfcb945cbc3cd4
def zuT:=XN 0x396fe5ca2e5ebb30d6
def zuS:=XN 456806780154071
def zuR:=XN 0x396fe5ca2f4dda77d0cfbb4f4c3bf646
def zuQ:=XN 0x72dfcb945efbf666e597b4f
def zuP:=XN 0x72dfcb945ddbf4f3d3db4c4dfcb2da
def zuO:=XN 0xcfbb4eee586bf3cbd3cc2
def zuN:=XN 0x33eed3bb961afbb7e9e9871e5e5c32c4
def zuM:=XN 0x19f769ddcb0d7cfbb4e4df8f745
def zuL:=XN 0x67dda7772c35f2f2ebd3ac6
def zuK:=XN 0x67dda7772c35fa72dfc36c9
def zuJ:=XN 0x67dda7772c35f76fd3d30e3cbcb865899f769c9bb2d0
def zuI:=XN 0x19f769ddcb0d7cb8f975dfcf2d2
def zuH:=XN 0x33eed3bb961af976e9e9bbad2
def zuG:=XN 0x67dda7772c35fc61e9bbcd3
def zuF:=XN 0x33eed3bb961af9726fc7a7755
def zuE:=XN 0x19f769ddcb0d7e5979d5
def zuD:=XN 0x1cb7f2e5167c9cfbb4ebc7bf642
def zuC:=XN 0x72dfcb945e7cf2e3dfca864d9a7443
def zuB:=XN 0x1cb7f2e51776fd3d31e5ddbb7c3
def zuA:=XN 0x1cb7f2e5179f4e7a7c45cbb34c6
def zuz:=XN 0x72dfcb945c9bbaef8dd37cecbb34c6
def zuy:=XN 0xe5bf9728b932f4e1d7972cbd3749
def zux:=XN 0x72dfcb945f3cb7f4c79796989079c9
def zuw:=XN 0x396fe5ca2f9e5bfa63cbcb4c483d37ce
def zuv:=XN 0x1cb7f2e51776fd3cf9e9dbcb2d0
def zuu:=XN 0x396fe5ca2f0ebaf7ef99cf9e5c7bf950
def zut:=XN 0xe5bf9728bd3aefcbb74d4
def zus:=XN 0xe5bf9728bbb7e9e987a6ecb93749
def zur:=XN 0x72dfcb945e9d786e9397a65d9c36efc7ba4df
def zuq:=XN 0x396fe5ca2f8cb93749
def zup:=XN 0xe5bf9728be72cb
def zuo:=XN 0x1cb7f2e51726eebbe374df3b2eceb937cd
def zun:=XN 0x1cb7f2e517265e9bb2edcbb386d93d37ce
def zum:=XN 0x1cb7f2e51776fd3d30fad3b30eed31b76fd1d3cd0
def zul:=XN 0x396fe5ca2eedfa79f2eb8f2d2
def zuk:=XN 0x72dfcb945d9871ef9993775df8b755
def zuj:=XN 0xe5bf9728b9726fc7a7755
def zui:=XN 0x1cb7f2e5172f0d343765d7bf942
def zuh:=XN 0x396fe5ca2e4cbd396fc50776fd3d31e5ddbb7c3
def zug:=XN 0x396fe5ca2e4cbcfae6cb4b76fd3d31e5ddbb7c3
def zuf:=XN 0xe5bf9728bd32f3cb4b76fd3d31e5ddbb7c3
def zue:=XN 0xe5bf9728b8b0d4
def zud:=XN 0x396fe5ca2e5c9bf1e5899726fc7a7755
def zuc:=XN 0x396fe5ca2e5c9bf1ee8b9726fc7a7755
def zub:=XN 0x72dfcb945cbd30ece7bb0f2a99726fc7a7755
def zua:=XN 0x3875dfca3eedfa7a70cb8fc45
def zt9:=XN 0xe5bf9728bd3765dbbb7f2d3db745
def zt8:=XN 505222075082697
def zt7:=XN 232355951
def zt6:=XN 245005041
def zt5:=XN 245005413
def zt4:=XN 0x74d19f4f2f3c37e3
def zt3:=XN 509789475535203
def zt2:=XN 448183808881900
def zt1:=XN 236663528
def zdx:Int:=KC (10 ^ 4000)
def XI (t:BT):Nat->Obj->BT:= @BT.rec (λ_=>Nat->Obj->BT) (λ_ o=> .node o .nil .nil) (λv l r L R i o=>bif Qq i 0 then .node o l r else bif Qq (i % 2) 1 then .node v (L (i / 2) o) r else .node v l (R (i / 2-1) o)) t
def XR (P:Params) (l:List (Params->Obj)):Nat->BT->BT:= @Qj _ (λ_=>Nat->BT->BT) (λ_ t=>t) (λo _ ih a t=>ih (Qp a) (XI t a (o P))) l
def XQ (t:Nat) (l:List (PySem.Str×Value)):List (Params->DictEntry):= @Qj _ (λ_=>Nat->List (Params->DictEntry)) (λ_=> []) (λe _ ih t=>X2 e.1 t e.2::ih (Qp t)) l t
def XKr (P:Params) (l:List (Params->Obj)):Nat->Frag->Frag:= @Qj _ (λ_=>Nat->Frag->Frag) (λ_ r=>r) (λo _ ih a r=>(a,o P)::ih (Qp a) r) l
def XK (P:Params) (l:List (Nat×List (Params->Obj))):Frag:= @Qj (Nat×List (Params->Obj)) (λ_=>Frag) [] (λe _ ih=>XKr P e.2 e.1 ih) l
def XP (t:Params->BT) (l:List (Nat×List (Params->Obj))):Params->BT:=λP=> @Qj (Nat×List (Params->Obj)) (λ_=>BT->BT) (λt=>t) (λe _ ih t=>ih (XR P e.2 e.1 t)) l (t P)
def XD (c:Value) (d:Option Addr) (l:List (Params->DictEntry)) (n:Nat):Params->Obj:=λP=>⟨c,d,.dict (Qx (l.map λe=>e P)) n,Qx []⟩
def XM (o:Obj):Params->Obj:=λ_=>o
def Y0 (a:PySem.Str) (b:Nat) (c:PySem.Str) (d e:Int) (f:Nat) (g:Int) (h:Nat):Params->Obj:=XO XT1 X6 (.fields (X8 [(XS a b),(XS c (b+1)),(XS n1 (b+2)),(X0 d),(X0 e),(X0 0),(X0 0),(X0 3),(X1 f),(XB true),(X0 181),(X1 (f+1)),X7,(X1 (f+2)),(X1 (f+3)),(X1 (f+4)),(X0 g),(X0 d),(XS n1 h)]))
def Y1 (a b:Nat) (c d e:PySem.Str) (f g:Nat):Params->Obj:=XO XT3 X6 (XF (fnB a b) c d 3 X7 X7 X7 (XS e f) X6 (X1 g) X7)
def Y2 (a b:Nat) (c d:PySem.Str):Params->Obj:=XO X7 X6 (XF (fnB a b) c d 0 X7 X7 X7 X7 X6 X7 X7)
def Y3 (a:Nat) (b c:PySem.Str) (d e:Nat):Params->Obj:=XO XT3 X6 (XF (fnA a) b b 3 X7 X7 X7 (XS c d) X6 (X1 e) X7)
def Y4 (a:PySem.Str) (b c d:Nat):Params->Obj:=XM ⟨(Qb s17162191345867700912x4),Qv,(.cls (ClassData.mk a [(Qb s2742458400755230247x6)] [(.ref b),(Qb s2742458400755230247x6)] c a true [] [] false Qv false)),Qx [Qv,Qv,(some (QW a d)),(some (QW a (d+8))),(some (Qd s11443829558043349243x14)),(some (ZP true))]⟩
def Y5 (a:Nat) (b:PySem.Str):Params->Obj:=XO X7 X6 (XF (fnA a) b b 0 X7 X7 X7 X7 X6 X7 X7)
def Y6 (a b:Nat) (c:PySem.Str) (d:Nat):Params->Obj:=XM ⟨(Qb s658472552662922059x5),Qv,.plain,Qx [(some (.ref a)),(some (.ref 3)),(some (.ref b)),Qv,(some (QW c d)),Qv,(some (.ref 0))]⟩
def Y7 (a:PySem.Str) (b:Nat) (c:Int) (d:Nat) (e f:Int):Params->Obj:=XO XT1 X6 (.fields (X8 [(XS a b),(XS a (b+1)),(XS n1 (b+2)),(X0 c),(X0 0),(X0 0),(X0 0),(X0 0),(X1 d),(XB false),(X0 e),(X1 (d+1)),X7,X7,X7,X7,(X0 f),(X0 c),(XS n1 (b+4))]))
def Y8 (a:PySem.Str) (b:Nat) (c:PySem.Str) (d e:Int) (f:Nat) (g:Int):Params->Obj:=XO XT1 X6 (.fields (X8 [(XS a b),(XS c (b+1)),(XS n1 (b+2)),(X0 d),(X0 e),(X0 0),(X0 0),(X0 3),(X1 f),(XB true),(X0 181),(X1 (f+1)),X7,X7,X7,(X1 (f+2)),(X0 g),(X0 d),(XS n1 (b+4))]))
def Y9 (a:PySem.Str) (b:Nat) (c:PySem.Str):Params->Obj:=XO XT0 X6 (.seq (X8 [(XS a b),(XS c (b+1))]) 0)
def Y10 (a:PySem.Str) (b:Nat) (c d:PySem.Str):Params->Obj:=XO XT0 X6 (.seq (X8 [(XS a b),(XS c (b+1)),(XS d (b+2))]) 0)
def Y11 (a b:Nat):Params->Obj:=XO XT7 X6 (.fields (X8 [(XS n74 a),(X1 b),(Qd s6511155373996960695x17),(Qd s12411053484034534018x21)]))
def Y12 (a b:Nat):Params->Obj:=XO XT7 X6 (.fields (X8 [(XS n36 a),(X1 b),(Qd s10220274742760427390x26),X7]))
def Y13 (a:Nat):Params->Obj:=XO XT5 X6 (.fields (X8 [(Qd s4860613602091757760x24),(X1 a)]))
def Y14 (a:PySem.Str) (b:Nat):Params->Obj:=XO XT0 X6 (.seq (X8 [(XS a b)]) 0)
def Y15 (a:PySem.Str) (b:Nat) (c d e:PySem.Str):Params->Obj:=XO XT0 X6 (.seq (X8 [(XS a b),(XS c (b+1)),(XS d (b+2)),(XS e (b+3))]) 0)
def Y16 (a:Nat):Params->Obj:=XO XT8 X6 (.fields (X8 [(X1 a),(X1 a),(X1 a)]))
def Y17 (a:PySem.Str) (b:Nat) (c d e f g:PySem.Str):Params->Obj:=XO XT0 X6 (.seq (X8 [(XS a b),(XS c (b+1)),(XS d (b+2)),(XS e (b+3)),(XS f (b+4)),(XS g (b+5))]) 0)
def Y18 (a:PySem.Str) (b:Nat) (c d e f:PySem.Str):Params->Obj:=XO XT0 X6 (.seq (X8 [(XS a b),(XS c (b+1)),(XS d (b+2)),(XS e (b+3)),(XS f (b+4))]) 0)
def Y19 (a b:Nat) (c d:PySem.Str) (e:Nat) (f:PySem.Str) (g h:Nat):Params->Obj:=XO XT3 X6 (XF (fnB a b) c d 3 (X1 e) X7 X7 (XS f g) X6 (X1 h) X7)
def Y20 (a b:Nat):Params->Obj:=XO (X1 a) (some b) .plain
def o0:=XO XT0 X6 (.seq (X8 []) 0)
def o1:=XO X7 X6 (.fields (X8 []))
def o2:=Y7 n0 182 1 11 181 185
def o3:=Y6 13 3 n2 164
def q0:List (Params->DictEntry):=XQ 165 [(n3,XS n4 291),(n5,X7),(n6,X7),(n7,Qd s7097527257260152453x26),(n8,X7),(n9,X1 6),(n10,X1 4)]++XQ 173 [(n11,XS n1 172),(n12,X7)]++ [X2 n13 193 (X1 21),X2 n14 197 (XS n15 196),X2 n16 199 (X9 4000 198),X2 n17 202 (X9 zdx 201),X2 n18 204 (XS n19 203),X2 n20 222 (X1 31),X2 n21 229 (X1 41),X2 n22 236 (X1 48),X2 n23 243 (X1 55),X2 n24 251 (X1 62),X2 n25 258 (X1 69),X2 n26 268 (X1 76),X2 n27 275 (X1 83),X2 n28 282 (X1 90),X2 n29 290 (X1 97)]
def o4:=XD XT2 X6 q0 24
def q1:List Value:= [(X0 1),(X0 0),(X1 20),(X0 9),(X0 0),(X1 27),(X0 11),(X0 0),(X1 40),(X0 13),(X0 0),(X1 47),(X0 17),(X0 0),(X1 54),(X0 21),(X0 0),(X1 61),(X0 27),(X0 0),(X1 68),(X0 32),(X0 0),(X1 75),(X0 36),(X0 0),(X1 82),(X0 42),(X0 0),(X1 89),(X0 46),(X0 0),(X1 96)]
def o5:=XO X7 X6 (.fields (X8 q1))
def o6:=Y14 n30 190
def o7:=Y5 0 n13
def o8:=Y0 n13 187 n13 1 1 15 191 192
def o9:=Y3 0 n13 n2 164 20
def o10:=XO XT0 X6 (.seq (X8 [XT4]) 0)
def o11:=XO XT5 X6 (.fields (X8 [(Qd s10062305145149207511x16),XT6]))
def o12:=XD XT2 X6 [(X2 n31 212 (XS n32 194)),(X2 n33 214 (XS n20 213)),(X2 n34 216 (X9 9 215)),(X2 n35 217 (X1 29))] 4
def o13:=Y7 n20 207 9 25 181 210
def o14:=Y6 27 24 n32 194
def o15:=XD XT2 X6 [(X2 n31 212 (XS n32 194)),(X2 n34 216 (X9 9 215)),(X2 n35 217 (X1 29)),(X2 n36 219 (X1 32)),(X2 n5 220 X7)] 3
def o16:=XM ⟨(Qb s17162191345867700912x4),Qv,(.cls (ClassData.mk n20 [(Qb s6070975301684473832x10)] [(.ref 31),(Qb s6070975301684473832x10),(Qb s5946037652744460706x9),(Qb s4278001404047624695x13),(Qb s2742458400755230247x6)] 30 n20 true [] [] false Qv false)),Qx [(some (.ref 22)),Qv,(some (QW n20 205)),(some (QW n20 213)),(some (Qd s4209523147560561109x18)),(some (ZP true))]⟩
def o17:=Y12 218 31
def o18:=Y16 31
def o19:=Y13 31
def o20:=Y14 n37 226
def o21:=Y5 7 n21
def o22:=Y0 n21 223 n21 11 1 35 227 228
def o23:=Y3 7 n21 n32 194 40
def o24:=Y14 n37 233
def o25:=Y5 8 n22
def o26:=Y0 n22 230 n22 13 1 42 234 235
def o27:=Y3 8 n22 n32 194 47
def o28:=Y14 n37 240
def o29:=Y5 9 n23
def o30:=Y0 n23 237 n23 17 1 49 241 242
def o31:=Y3 9 n23 n32 194 54
def o32:=Y9 n38 247 n37
def o33:=Y5 10 n24
def o34:=Y0 n24 244 n24 21 1 56 249 250
def o35:=Y3 10 n24 n32 194 61
def o36:=Y14 n39 255
def o37:=Y5 11 n25
def o38:=Y0 n25 252 n25 27 1 63 256 257
def o39:=Y3 11 n25 n32 194 68
def o40:=Y15 n40 262 n41 n42 n43
def o41:=Y5 12 n26
def o42:=Y0 n26 259 n26 32 4 70 266 267
def o43:=Y3 12 n26 n32 194 75
def o44:=Y14 n40 272
def o45:=Y5 13 n27
def o46:=Y0 n27 269 n27 36 1 77 273 274
def o47:=Y3 13 n27 n32 194 82
def o48:=Y14 n40 279
def o49:=Y5 14 n28
def o50:=Y0 n28 276 n28 42 1 84 280 281
def o51:=Y3 14 n28 n32 194 89
def o52:=Y9 n44 286 n37
def o53:=Y5 15 n29
def o54:=Y0 n29 283 n29 46 1 91 288 289
def o55:=Y3 15 n29 n32 194 96
def q2:List (Params->DictEntry):=q0++ [X2 n45 396 (X1 170)]
def o56:=XD XT2 X6 q2 25
def q3:List Value:=q1++ [(X0 54),(X0 0),(X1 103)]
def o57:=XO X7 X6 (.fields (X8 q3))
def q4:List (Params->DictEntry):= [X2 n31 300 (XS n4 291),X2 n33 302 (XS n45 301),X2 n34 304 (X9 54 303)]++XQ 306 [(n46,XS n47 305),(n48,XB true),(n49,XB true)]++ [X2 n50 310 (X9 0 309),X2 n51 312 (X9 1 311),X2 n52 320 (X1 111),X2 n53 329 (X1 118),X2 n54 338 (X1 125),X2 n55 346 (X1 132),X2 n56 354 (X1 139),X2 n57 363 (X1 146),X2 n58 372 (X1 153),X2 n59 380 (X1 160)]++XQ 388 [(n60,X1 167),(n35,X1 168)]
def o58:=XD XT2 X6 q4 18
def q5:List Value:= [(X0 61),(X0 4),(X1 110),(X0 66),(X0 4),(X1 117),(X0 69),(X0 4),(X1 124),(X0 72),(X0 4),(X1 131),(X0 75),(X0 4),(X1 138),(X0 78),(X0 4),(X1 145),(X0 81),(X0 4),(X1 152),(X0 84),(X0 4),(X1 159),(X0 87),(X0 4),(X1 166)]
def o59:=XO X7 X6 (.fields (X8 q5))
def o60:=Y7 n45 295 54 101 181 298
def o61:=Y6 103 100 n4 291
def o62:=Y9 n61 316 n62
def o63:=Y2 17 5 n52 n63
def o64:=Y0 n52 313 n63 61 2 105 318 319
def o65:=Y1 17 5 n52 n63 n4 291 110
def o66:=Y10 n61 324 n62 n64
def o67:=Y2 17 6 n53 n65
def o68:=Y0 n53 321 n65 66 3 112 327 328
def o69:=Y1 17 6 n53 n65 n4 291 117
def o70:=Y10 n61 333 n62 n64
def o71:=Y2 17 7 n54 n66
def o72:=Y0 n54 330 n66 69 3 119 336 337
def o73:=Y1 17 7 n54 n66 n4 291 124
def o74:=Y9 n61 342 n62
def o75:=Y2 17 8 n55 n67
def o76:=Y0 n55 339 n67 72 2 126 344 345
def o77:=Y1 17 8 n55 n67 n4 291 131
def o78:=Y9 n61 350 n68
def o79:=Y2 17 9 n56 n69
def o80:=Y0 n56 347 n69 75 2 133 352 353
def o81:=Y1 17 9 n56 n69 n4 291 138
def o82:=Y10 n61 358 n62 n64
def o83:=Y2 17 10 n57 n70
def o84:=Y0 n57 355 n70 78 3 140 361 362
def o85:=Y1 17 10 n57 n70 n4 291 145
def o86:=Y10 n61 367 n62 n64
def o87:=Y2 17 11 n58 n71
def o88:=Y0 n58 364 n71 81 3 147 370 371
def o89:=Y1 17 11 n58 n71 n4 291 152
def o90:=Y9 n61 376 n62
def o91:=Y2 17 12 n59 n72
def o92:=Y0 n59 373 n72 84 2 154 378 379
def o93:=Y1 17 12 n59 n72 n4 291 159
def o94:=Y9 n61 384 n44
def o95:=Y2 17 13 n60 n73
def o96:=Y0 n60 381 n73 87 2 161 386 387
def o97:=Y1 17 13 n60 n73 n4 291 166
def q6:List (Params->DictEntry):= [X2 n31 300 (XS n4 291),X2 n34 304 (X9 54 303)]++XQ 306 [(n46,XS n47 305),(n48,XB true),(n49,XB true)]++ [X2 n50 310 (X9 0 309),X2 n51 312 (X9 1 311),X2 n52 320 (X1 111),X2 n53 329 (X1 118),X2 n54 338 (X1 125),X2 n55 346 (X1 132),X2 n56 354 (X1 139),X2 n57 363 (X1 146),X2 n58 372 (X1 153),X2 n59 380 (X1 160)]++XQ 388 [(n60,X1 167),(n35,X1 168)]++ [X2 n74 391 (X1 171)]++XQ 393 [(n36,X1 172),(n5,X7)]
def o98:=XD XT2 X6 q6 4
def o99:=Y4 n45 170 169 293
def zpG:=Y11 390 170
def zpF:=Y12 392 170
def ztY:=Y16 170
def ztX:=Y13 170
def q7:List (Params->DictEntry):=q2++ [X2 n75 499 (X1 247)]
def ztW:=XD XT2 X6 q7 26
def q8:List Value:=q3++ [(X0 89),(X0 0),(X1 180)]
def ztV:=XO X7 X6 (.fields (X8 q8))
def q9:List (Params->DictEntry):= [X2 n31 404 (XS n4 291),X2 n33 406 (XS n75 405),X2 n34 408 (X9 89 407)]++XQ 410 [(n46,XS n41 409),(n48,XB true),(n49,XB true),(n50,X7)]++ [X2 n51 415 (X9 0 414),X2 n52 423 (X1 188),X2 n53 432 (X1 195),X2 n54 441 (X1 202),X2 n55 449 (X1 209),X2 n56 457 (X1 216),X2 n57 466 (X1 223),X2 n58 475 (X1 230),X2 n59 483 (X1 237)]++XQ 491 [(n60,X1 244),(n35,X1 245)]
def ztU:=XD XT2 X6 q9 18
def q10:List Value:= [(X0 96),(X0 4),(X1 187),(X0 101),(X0 4),(X1 194),(X0 108),(X0 4),(X1 201),(X0 113),(X0 4),(X1 208),(X0 116),(X0 4),(X1 215),(X0 119),(X0 4),(X1 222),(X0 124),(X0 4),(X1 229),(X0 127),(X0 4),(X1 236),(X0 130),(X0 4),(X1 243)]
def ztT:=XO X7 X6 (.fields (X8 q10))
def ztS:=Y7 n75 399 89 178 181 402
def ztR:=Y6 180 177 n4 291
def zpE:=Y9 n61 419 n62
def zpD:=Y2 18 5 n52 n76
def zpC:=Y0 n52 416 n76 96 2 182 421 422
def zpB:=Y1 18 5 n52 n76 n4 291 187
def zpA:=Y10 n61 427 n62 n64
def zpz:=Y2 18 6 n53 n77
def zpy:=Y0 n53 424 n77 101 3 189 430 431
def zpx:=Y1 18 6 n53 n77 n4 291 194
def zpw:=Y10 n61 436 n62 n64
def zpv:=Y2 18 7 n54 n78
def zpu:=Y0 n54 433 n78 108 3 196 439 440
def zpt:=Y1 18 7 n54 n78 n4 291 201
def zps:=Y9 n61 445 n62
def zpr:=Y2 18 8 n55 n79
def zpq:=Y0 n55 442 n79 113 2 203 447 448
def zpp:=Y1 18 8 n55 n79 n4 291 208
def zpo:=Y9 n61 453 n68
def zpn:=Y2 18 9 n56 n80
def zpm:=Y0 n56 450 n80 116 2 210 455 456
def zpl:=Y1 18 9 n56 n80 n4 291 215
def zpk:=Y10 n61 461 n62 n64
def zpj:=Y2 18 10 n57 n81
def zpi:=Y0 n57 458 n81 119 3 217 464 465
def zph:=Y1 18 10 n57 n81 n4 291 222
def zpg:=Y10 n61 470 n62 n64
def zpf:=Y2 18 11 n58 n82
def zpe:=Y0 n58 467 n82 124 3 224 473 474
def zpd:=Y1 18 11 n58 n82 n4 291 229
def zpc:=Y9 n61 479 n62
def zpb:=Y2 18 12 n59 n83
def zpa:=Y0 n59 476 n83 127 2 231 481 482
def zo9:=Y1 18 12 n59 n83 n4 291 236
def zo8:=Y9 n61 487 n44
def zo7:=Y2 18 13 n60 n84
def zo6:=Y0 n60 484 n84 130 2 238 489 490
def zo5:=Y1 18 13 n60 n84 n4 291 243
def q11:List (Params->DictEntry):= [X2 n31 404 (XS n4 291),X2 n34 408 (X9 89 407)]++XQ 410 [(n46,XS n41 409),(n48,XB true),(n49,XB true),(n50,X7)]++ [X2 n51 415 (X9 0 414),X2 n52 423 (X1 188),X2 n53 432 (X1 195),X2 n54 441 (X1 202),X2 n55 449 (X1 209),X2 n56 457 (X1 216),X2 n57 466 (X1 223),X2 n58 475 (X1 230),X2 n59 483 (X1 237)]++XQ 491 [(n60,X1 244),(n35,X1 245)]++ [X2 n74 494 (X1 248)]++XQ 496 [(n36,X1 249),(n5,X7)]
def zo4:=XD XT2 X6 q11 4
def zo3:=Y4 n75 247 246 397
def zo2:=Y11 493 247
def zo1:=Y12 495 247
def ztQ:=Y16 247
def ztP:=Y13 247
def q12:List (Params->DictEntry):=q7++ [X2 n85 603 (X1 324),X2 n86 611 (X1 335)]
def ztO:=XD XT2 X6 q12 28
def q13:List Value:=q8++ [(X0 134),(X0 0),(X1 257),(X0 171),(X0 0),(X1 334)]
def ztN:=XO X7 X6 (.fields (X8 q13))
def q14:List (Params->DictEntry):= [X2 n31 507 (XS n4 291),X2 n33 509 (XS n85 508),X2 n34 511 (X9 134 510)]++XQ 513 [(n46,XS n87 512),(n48,XB false),(n49,XB true)]++ [X2 n50 517 (X9 0 516),X2 n51 519 (X9 1 518),X2 n52 527 (X1 265),X2 n53 536 (X1 272),X2 n54 545 (X1 279),X2 n55 553 (X1 286),X2 n56 561 (X1 293),X2 n57 570 (X1 300),X2 n58 579 (X1 307),X2 n59 587 (X1 314)]++XQ 595 [(n60,X1 321),(n35,X1 322)]
def ztM:=XD XT2 X6 q14 18
def q15:List Value:= [(X0 141),(X0 4),(X1 264),(X0 146),(X0 4),(X1 271),(X0 149),(X0 4),(X1 278),(X0 152),(X0 4),(X1 285),(X0 157),(X0 4),(X1 292),(X0 160),(X0 4),(X1 299),(X0 163),(X0 4),(X1 306),(X0 166),(X0 4),(X1 313),(X0 169),(X0 4),(X1 320)]
def ztL:=XO X7 X6 (.fields (X8 q15))
def ztK:=Y7 n85 502 134 255 181 505
def ztJ:=Y6 257 254 n4 291
def zo0:=Y9 n61 523 n62
def zoZ:=Y2 19 5 n52 n88
def zoY:=Y0 n52 520 n88 141 2 259 525 526
def zoX:=Y1 19 5 n52 n88 n4 291 264
def zoW:=Y10 n61 531 n62 n64
def zoV:=Y2 19 6 n53 n89
def zoU:=Y0 n53 528 n89 146 3 266 534 535
def zoT:=Y1 19 6 n53 n89 n4 291 271
def zoS:=Y10 n61 540 n62 n64
def zoR:=Y2 19 7 n54 n90
def zoQ:=Y0 n54 537 n90 149 3 273 543 544
def zoP:=Y1 19 7 n54 n90 n4 291 278
def zoO:=Y9 n61 549 n62
def zoN:=Y2 19 8 n55 n91
def zoM:=Y0 n55 546 n91 152 2 280 551 552
def zoL:=Y1 19 8 n55 n91 n4 291 285
def zoK:=Y9 n61 557 n68
def zoJ:=Y2 19 9 n56 n92
def zoI:=Y0 n56 554 n92 157 2 287 559 560
def zoH:=Y1 19 9 n56 n92 n4 291 292
def zoG:=Y10 n61 565 n62 n64
def zoF:=Y2 19 10 n57 n93
def zoE:=Y0 n57 562 n93 160 3 294 568 569
def zoD:=Y1 19 10 n57 n93 n4 291 299
def zoC:=Y10 n61 574 n62 n64
def zoB:=Y2 19 11 n58 n94
def zoA:=Y0 n58 571 n94 163 3 301 577 578
def zoz:=Y1 19 11 n58 n94 n4 291 306
def zoy:=Y9 n61 583 n62
def zox:=Y2 19 12 n59 n95
def zow:=Y0 n59 580 n95 166 2 308 585 586
def zov:=Y1 19 12 n59 n95 n4 291 313
def zou:=Y9 n61 591 n44
def zot:=Y2 19 13 n60 n96
def zos:=Y0 n60 588 n96 169 2 315 593 594
def zor:=Y1 19 13 n60 n96 n4 291 320
def q16:List (Params->DictEntry):= [X2 n31 507 (XS n4 291),X2 n34 511 (X9 134 510)]++XQ 513 [(n46,XS n87 512),(n48,XB false),(n49,XB true)]++ [X2 n50 517 (X9 0 516),X2 n51 519 (X9 1 518),X2 n52 527 (X1 265),X2 n53 536 (X1 272),X2 n54 545 (X1 279),X2 n55 553 (X1 286),X2 n56 561 (X1 293),X2 n57 570 (X1 300),X2 n58 579 (X1 307),X2 n59 587 (X1 314)]++XQ 595 [(n60,X1 321),(n35,X1 322)]++ [X2 n74 598 (X1 325)]++XQ 600 [(n36,X1 326),(n5,X7)]
def zoq:=XD XT2 X6 q16 4
def zop:=Y4 n85 324 323 500
def zoo:=Y11 597 324
def zon:=Y12 599 324
def ztI:=Y16 324
def ztH:=Y13 324
def zom:=Y9 n62 607 n64
def zol:=Y5 20 n86
def zok:=Y0 n86 604 n86 171 2 329 609 610
def zoj:=Y3 20 n86 n4 291 334
def q17:List (Params->DictEntry):=q12++ [X2 n97 720 (X1 410)]
def ztG:=XD XT2 X6 q17 29
def q18:List Value:=q13++ [(X0 175),(X0 0),(X1 341)]
def ztF:=XO X7 X6 (.fields (X8 q18))
def q19:List (Params->DictEntry):= [X2 n31 619 (XS n4 291),X2 n33 621 (XS n97 620),X2 n34 623 (X9 175 622)]++XQ 625 [(n46,XS n98 624),(n48,XB false),(n49,XB true)]++ [X2 n50 630 (X1 343),X2 n51 633 (X1 344),X2 n52 641 (X1 351),X2 n53 650 (X1 358),X2 n54 659 (X1 365),X2 n55 667 (X1 372),X2 n56 675 (X1 379),X2 n57 684 (X1 386),X2 n58 693 (X1 393),X2 n59 701 (X1 400)]++XQ 712 [(n60,X1 407),(n35,X1 408)]
def ztE:=XD XT2 X6 q19 18
def q20:List Value:= [(X0 182),(X0 4),(X1 350),(X0 189),(X0 4),(X1 357),(X0 192),(X0 4),(X1 364),(X0 195),(X0 4),(X1 371),(X0 200),(X0 4),(X1 378),(X0 203),(X0 4),(X1 385),(X0 206),(X0 4),(X1 392),(X0 209),(X0 4),(X1 399),(X0 212),(X0 4),(X1 406)]
def ztD:=XO X7 X6 (.fields (X8 q20))
def ztC:=Y7 n97 614 175 339 181 617
def ztB:=Y6 341 338 n4 291
def zoi:=XO XT0 X6 (.seq (X8 [(X9 0 628),(X9 1 629)]) 0)
def zoh:=XO XT0 X6 (.seq (X8 [(X9 1 631),(X9 1 632)]) 0)
def zog:=Y9 n61 637 n62
def zof:=Y2 21 5 n52 n99
def zoe:=Y0 n52 634 n99 182 2 345 639 640
def zod:=Y1 21 5 n52 n99 n4 291 350
def zoc:=Y10 n61 645 n62 n64
def zob:=Y2 21 6 n53 zh4
def zoa:=Y0 n53 642 zh4 189 3 352 648 649
def zn9:=Y1 21 6 n53 zh4 n4 291 357
def zn8:=Y10 n61 654 n62 n64
def zn7:=Y2 21 7 n54 zh3
def zn6:=Y0 n54 651 zh3 192 3 359 657 658
def zn5:=Y1 21 7 n54 zh3 n4 291 364
def zn4:=Y9 n61 663 n62
def zn3:=Y2 21 8 n55 zh2
def zn2:=Y0 n55 660 zh2 195 2 366 665 666
def zn1:=Y1 21 8 n55 zh2 n4 291 371
def zn0:=Y9 n61 671 n68
def znZ:=Y2 21 9 n56 zh1
def znY:=Y0 n56 668 zh1 200 2 373 673 674
def znX:=Y1 21 9 n56 zh1 n4 291 378
def znW:=Y10 n61 679 n62 n64
def znV:=Y2 21 10 n57 zh0
def znU:=Y0 n57 676 zh0 203 3 380 682 683
def znT:=Y1 21 10 n57 zh0 n4 291 385
def znS:=Y10 n61 688 n62 n64
def znR:=Y2 21 11 n58 zhZ
def znQ:=Y0 n58 685 zhZ 206 3 387 691 692
def znP:=Y1 21 11 n58 zhZ n4 291 392
def znO:=Y9 n61 697 n62
def znN:=Y2 21 12 n59 zhY
def znM:=Y0 n59 694 zhY 209 2 394 699 700
def znL:=Y1 21 12 n59 zhY n4 291 399
def znK:=Y18 n61 705 n44 zaR zqa zaQ
def znJ:=Y2 21 13 n60 zhX
def znI:=Y0 n60 702 zhX 212 2 401 710 711
def znH:=Y1 21 13 n60 zhX n4 291 406
def q21:List (Params->DictEntry):= [X2 n31 619 (XS n4 291),X2 n34 623 (X9 175 622)]++XQ 625 [(n46,XS n98 624),(n48,XB false),(n49,XB true)]++ [X2 n50 630 (X1 343),X2 n51 633 (X1 344),X2 n52 641 (X1 351),X2 n53 650 (X1 358),X2 n54 659 (X1 365),X2 n55 667 (X1 372),X2 n56 675 (X1 379),X2 n57 684 (X1 386),X2 n58 693 (X1 393),X2 n59 701 (X1 400)]++XQ 712 [(n60,X1 407),(n35,X1 408)]++ [X2 n74 715 (X1 411)]++XQ 717 [(n36,X1 412),(n5,X7)]
def znG:=XD XT2 X6 q21 4
def ztA:=Y4 n97 410 409 612
def znF:=Y11 714 410
def znE:=Y12 716 410
def ztz:=Y16 410
def zty:=Y13 410
def q22:List (Params->DictEntry):=q17++ [X2 mA 773 (X1 452),X2 oJ 782 (X1 461)]
def ztx:=XD XT2 X6 q22 31
def q23:List Value:=q18++ [(X0 217),(X0 0),(X1 420),(X0 237),(X0 0),(X1 460)]
def ztw:=XO X7 X6 (.fields (X8 q23))
def znD:=XM ⟨(Qb s17162191345867700912x4),Qv,(.cls (ClassData.mk n97 [(Qb s2742458400755230247x6)] [(.ref 410),(Qb s2742458400755230247x6)] 409 n97 true [] [(.ref 452)] false Qv false)),Qx [Qv,Qv,(some (QW n97 612)),(some (QW n97 620)),(some (Qd s11443829558043349243x14)),(some (ZP true))]⟩
def znC:=XO XT0 X6 (.seq (X8 [(X1 410)]) 0)
def q24:List (Params->DictEntry):= [X2 n31 728 (XS n4 291),X2 n33 730 (XS mA 729),X2 n34 732 (X9 217 731)]++XQ 734 [(n46,XS zp9 733),(n48,XB true)]++ [X2 n52 743 (X1 428),X2 n53 752 (X1 435),X2 n55 760 (X1 442)]++XQ 769 [(n58,X1 449),(n35,X1 450)]
def ztv:=XD XT2 X6 q24 10
def ztu:=XO X7 X6 (.fields (X8 [(X0 221),(X0 4),(X1 427),(X0 227),(X0 4),(X1 434),(X0 232),(X0 4),(X1 441),(X0 235),(X0 4),(X1 448)]))
def ztt:=Y7 mA 723 217 418 181 726
def zts:=Y6 420 417 n4 291
def znB:=Y9 n61 739 n62
def znA:=Y2 22 2 n52 zhW
def znz:=Y0 n52 736 zhW 221 2 422 741 742
def zny:=Y1 22 2 n52 zhW n4 291 427
def znx:=Y10 n61 747 n62 n64
def znw:=Y2 22 3 n53 zhV
def znv:=Y0 n53 744 zhV 227 3 429 750 751
def znu:=Y1 22 3 n53 zhV n4 291 434
def znt:=Y9 n61 756 n62
def zns:=Y2 22 4 n55 zhU
def znr:=Y0 n55 753 zhU 232 2 436 758 759
def znq:=Y1 22 4 n55 zhU n4 291 441
def znp:=Y10 n61 764 n62 n64
def zno:=Y2 22 5 n58 zhT
def znn:=Y0 n58 761 zhT 235 3 443 767 768
def znm:=Y1 22 5 n58 zhT n4 291 448
def q25:List (Params->DictEntry):= [X2 n31 728 (XS n4 291),X2 n34 732 (X9 217 731)]++XQ 734 [(n46,XS zp9 733),(n48,XB true)]++ [X2 n52 743 (X1 428),X2 n53 752 (X1 435),X2 n55 760 (X1 442)]++XQ 769 [(n58,X1 449),(n35,X1 450),(n5,X7)]
def znl:=XD XT2 X6 q25 2
def znk:=XM ⟨(Qb s17162191345867700912x4),Qv,(.cls (ClassData.mk mA [(.ref 410)] [(.ref 452),(.ref 410),(Qb s2742458400755230247x6)] 451 mA true [] [] false Qv false)),Qx [(some (.ref 415)),Qv,(some (QW mA 721)),(some (QW mA 729)),(some (Qd s11443829558043349243x14)),(some (ZP true))]⟩
def ztr:=Y16 452
def ztq:=Y13 452
def znj:=Y10 zwA 777 zwz zwy
def zni:=Y5 23 oJ
def znh:=Y0 oJ 774 oJ 237 2 455 780 781
def zng:=Y3 23 oJ n4 291 460
def q26:List (Params->DictEntry):=XQ 165 [(n3,XS bT 792),(n5,X7),(n6,X7),(n7,Qd s7097527257260152453x26),(n8,X7),(n9,X1 6),(n10,X1 4)]++XQ 173 [(n11,XS n1 172),(n12,X7)]++ [X2 n13 193 (X1 21),X2 n14 197 (XS n15 196),X2 n16 199 (X9 4000 198),X2 n17 202 (X9 zdx 201),X2 n18 204 (XS n19 203),X2 n20 222 (X1 31),X2 n21 229 (X1 41),X2 n22 236 (X1 48),X2 n23 243 (X1 55),X2 n24 251 (X1 62),X2 n25 258 (X1 69),X2 n26 268 (X1 76),X2 n27 275 (X1 83),X2 n28 282 (X1 90),X2 n29 290 (X1 97),X2 n45 396 (X1 170),X2 n75 499 (X1 247),X2 n85 603 (X1 324),X2 n86 611 (X1 335),X2 n97 720 (X1 410),X2 mA 773 (X1 452)]++XQ 782 [(oJ,X1 461),(zcN,X1 472)]++ [X2 c8 791 (X1 479),X2 zcM 795 (X9 20000 794)]++XQ 797 [(zcL,X9 200000 796),(zcK,X1 480)]
def ztp:=XD XT2 X6 q26 36
def q27:List Value:=q23++ [(X0 241),(X0 0),(X1 478)]
def zto:=XO X7 X6 (.fields (X8 q27))
def l5:=XO XT2 X6 (.dict (X8 []) 0)
def znf:=Y20 170 462
def zne:=Y20 247 464
def znd:=Y20 324 466
def znc:=Y20 410 468
def znb:=Y20 452 470
def zna:=XO XT9 X6 (.seq (X8 [(X1 463),(X1 465),(X1 467),(X1 469),(X1 471)]) 0)
def zm9:=Y9 n46 787 n51
def zm8:=Y5 25 c8
def zm7:=Y0 c8 784 c8 241 1 473 789 790
def zm6:=Y3 25 c8 n4 291 478
def zm5:=XO zrz X6 .plain
def q28:List (Params->DictEntry):=q26++ [X2 tX 847 (X1 511)]
def ztn:=XD XT2 X6 q28 37
def q29:List Value:=q27++ [(X0 250),(X0 0),(X1 486)]
def ztm:=XO X7 X6 (.fields (X8 q29))
def ztl:=XD XT2 X6 [(X2 n31 806 (XS bT 792)),(X2 n33 808 (XS tX 807)),(X2 n34 810 (X9 250 809)),(X2 gF 821 (X1 494)),(X2 zaP 828 (X1 501)),(X2 zcJ 835 (X1 508)),(X2 n35 840 (X1 509))] 7
def ztk:=XO X7 X6 (.fields (X8 [(X0 252),(X0 4),(X1 493),(X0 258),(X0 4),(X1 500),(X0 261),(X0 4),(X1 507)]))
def ztj:=Y7 tX 801 250 484 181 804
def zti:=Y6 486 483 bT 792
def zm4:=Y18 n61 814 zaR zaQ l9 zcI
def zm3:=Y2 30 0 gF zhS
def zm2:=Y0 gF 811 zhS 252 5 488 819 820
def zm1:=Y1 30 0 gF zhS bT 792 493
def zm0:=Y14 n61 825
def zmZ:=Y2 30 1 zaP zhR
def zmY:=Y0 zaP 822 zhR 258 1 495 826 827
def zmX:=Y1 30 1 zaP zhR bT 792 500
def zmW:=Y14 n61 832
def zmV:=Y2 30 2 zcJ zhQ
def zmU:=Y0 zcJ 829 zhQ 261 1 502 833 834
def zmT:=Y1 30 2 zcJ zhQ bT 792 507
def zmS:=Y15 zaQ 836 zcI zaR l9
def q30:List (Params->DictEntry):= [X2 n31 806 (XS bT 792),X2 n34 810 (X9 250 809),X2 gF 821 (X1 494),X2 zaP 828 (X1 501),X2 zcJ 835 (X1 508),X2 n35 840 (X1 509),X2 n74 842 (X1 512)]++XQ 844 [(n36,X1 513),(n5,X7)]
def zmR:=XD XT2 X6 q30 4
def zmQ:=Y4 tX 511 510 799
def zmP:=Y11 841 511
def zmO:=Y12 843 511
def zth:=Y16 511
def ztg:=Y13 511
def q31:List (Params->DictEntry):=q28++ [X2 tW 1007 (X1 637)]
def ztf:=XD XT2 X6 q31 38
def q32:List Value:=q29++ [(X0 263),(X0 0),(X1 521)]
def zte:=XO X7 X6 (.fields (X8 q32))
def q33:List (Params->DictEntry):= [X2 n31 855 (XS bT 792),X2 n33 857 (XS tW 856),X2 n34 859 (X9 263 858),X2 gF 867 (X1 529),X2 zaO 875 (X1 536),X2 l8 882 (X1 543),X2 zcH 888 (X1 548),X2 zaN 896 (X1 555),X2 tV 908 (X1 562),X2 zaM 924 (X1 569),X2 xE 933 (X1 577),X2 tU 942 (X1 585),X2 tT 949 (X1 592),X2 zcG 956 (X1 599),X2 zaL 965 (X1 606),X2 zcF 972 (X1 613),X2 zcE 979 (X1 620),X2 zcD 986 (X1 627),X2 zcC 993 (X1 634),X2 n35 1000 (X1 635)]
def ztd:=XD XT2 X6 q33 20
def q34:List Value:= [(X0 265),(X0 4),(X1 528),(X0 273),(X0 4),(X1 535),(X0 277),(X0 4),(X1 542),(X0 283),(X0 4),(X1 547),(X0 287),(X0 4),(X1 554),(X0 290),(X0 4),(X1 561),(X0 303),(X0 4),(X1 568),(X0 319),(X0 4),(X1 576),(X0 324),(X0 4),(X1 584),(X0 328),(X0 4),(X1 591),(X0 331),(X0 4),(X1 598),(X0 334),(X0 4),(X1 605),(X0 341),(X0 4),(X1 612),(X0 344),(X0 4),(X1 619),(X0 347),(X0 4),(X1 626),(X0 350),(X0 4),(X1 633)]
def ztc:=XO X7 X6 (.fields (X8 q34))
def ztb:=Y7 tW 850 263 519 181 853
def zta:=Y6 521 518 bT 792
def zmN:=Y9 n61 863 c8
def zmM:=Y2 31 0 gF zhP
def zmL:=Y0 gF 860 zhP 265 2 523 865 866
def zmK:=Y1 31 0 gF zhP bT 792 528
def zmJ:=Y9 n61 871 n87
def zmI:=Y2 31 1 zaO zhO
def zmH:=Y0 zaO 868 zhO 273 2 530 873 874
def zmG:=Y1 31 1 zaO zhO bT 792 535
def zmF:=Y14 n61 879
def zmE:=Y2 31 2 l8 zhN
def zmD:=Y0 l8 876 zhN 277 1 537 880 881
def zmC:=Y1 31 2 l8 zhN bT 792 542
def zmB:=Y2 31 3 zcH zhM
def zmA:=Y8 zcH 883 zhM 283 2 544 886
def zmz:=Y1 31 3 zcH zhM bT 792 547
def zmy:=Y9 n61 892 zp8
def zmx:=Y2 31 4 zaN zhL
def zmw:=Y0 zaN 889 zhL 287 2 549 894 895
def zmv:=Y1 31 4 zaN zhL bT 792 554
def zmu:=Y17 n61 900 zhK zaR zaQ l9 zcI
def zmt:=Y2 31 5 tV zhJ
def zms:=Y0 tV 897 zhJ 290 6 556 906 907
def zmr:=Y1 31 5 tV zhJ bT 792 561
def zmq:=XO XT0 X6 (.seq (X8 [(XS n61 912),(XS zhK 913),(XS zaR 914),(XS zaQ 915),(XS l9 916),(XS zcI 917),(XS tT 918),(XS zwx 919),(XS n30 920),(XS zhI 921)]) 0)
def zmp:=Y2 31 6 zaM zhH
def zmo:=Y0 zaM 909 zhH 303 6 563 922 923
def zmn:=Y1 31 6 zaM zhH bT 792 568
def zeE:=XO XT0 X6 (.seq (X8 [(X1 480)]) 0)
def zmm:=Y10 n61 928 zhG l9
def zml:=Y2 31 7 xE ze0
def zmk:=Y0 xE 925 ze0 319 3 571 931 932
def zha:=Y19 31 7 xE ze0 570 bT 792 576
def zmj:=Y10 n61 937 l8 l9
def zmi:=Y2 31 8 tU zeZ
def zmh:=Y0 tU 934 zeZ 324 3 579 940 941
def zg9:=Y19 31 8 tU zeZ 578 bT 792 584
def zmg:=Y14 n61 946
def zmf:=Y2 31 9 tT zhF
def zme:=Y0 tT 943 zhF 328 1 586 947 948
def zmd:=Y1 31 9 tT zhF bT 792 591
def zmc:=Y14 n61 953
def zmb:=Y2 31 10 zcG zhE
def zma:=Y0 zcG 950 zhE 331 1 593 954 955
def zl9:=Y1 31 10 zcG zhE bT 792 598
def zl8:=Y10 n61 960 n68 tV
def zl7:=Y2 31 11 zaL zhD
def zl6:=Y0 zaL 957 zhD 334 1 600 963 964
def zl5:=Y1 31 11 zaL zhD bT 792 605
def zl4:=Y14 n61 969
def zl3:=Y2 31 12 zcF zhC
def zl2:=Y0 zcF 966 zhC 341 1 607 970 971
def zl1:=Y1 31 12 zcF zhC bT 792 612
def zl0:=Y14 n61 976
def zlZ:=Y2 31 13 zcE zhB
def zlY:=Y0 zcE 973 zhB 344 1 614 977 978
def zlX:=Y1 31 13 zcE zhB bT 792 619
def zlW:=Y14 n61 983
def zlV:=Y2 31 14 zcD zhA
def zlU:=Y0 zcD 980 zhA 347 1 621 984 985
def zlT:=Y1 31 14 zcD zhA bT 792 626
def zlS:=Y14 n61 990
def zlR:=Y2 31 15 zcC zhz
def zlQ:=Y0 zcC 987 zhz 350 1 628 991 992
def zlP:=Y1 31 15 zcC zhz bT 792 633
def zlO:=Y17 zp7 994 zp6 zp5 zhy c8 zhG
def q35:List (Params->DictEntry):= [X2 n31 855 (XS bT 792),X2 n34 859 (X9 263 858),X2 gF 867 (X1 529),X2 zaO 875 (X1 536),X2 l8 882 (X1 543),X2 zcH 888 (X1 548),X2 zaN 896 (X1 555),X2 tV 908 (X1 562),X2 zaM 924 (X1 569),X2 xE 933 (X1 577),X2 tU 942 (X1 585),X2 tT 949 (X1 592),X2 zcG 956 (X1 599),X2 zaL 965 (X1 606),X2 zcF 972 (X1 613),X2 zcE 979 (X1 620),X2 zcD 986 (X1 627),X2 zcC 993 (X1 634),X2 n35 1000 (X1 635),X2 n74 1002 (X1 638)]++XQ 1004 [(n36,X1 639),(n5,X7)]
def zlN:=XD XT2 X6 q35 4
def zlM:=Y4 tW 637 636 848
def zlL:=Y11 1001 637
def zlK:=Y12 1003 637
def zs9:=Y16 637
def zs8:=Y13 637
def q36:List (Params->DictEntry):=XQ 165 [(n3,XS c7 1039),(n5,X7),(n6,X7),(n7,Qd s7097527257260152453x26),(n8,X7),(n9,X1 6),(n10,X1 4)]++XQ 173 [(n11,XS n1 172),(n12,X7)]++ [X2 n13 193 (X1 21),X2 n14 197 (XS n15 196),X2 n16 199 (X9 4000 198),X2 n17 202 (X9 zdx 201),X2 n18 204 (XS n19 203),X2 n20 222 (X1 31),X2 n21 229 (X1 41),X2 n22 236 (X1 48),X2 n23 243 (X1 55),X2 n24 251 (X1 62),X2 n25 258 (X1 69),X2 n26 268 (X1 76),X2 n27 275 (X1 83),X2 n28 282 (X1 90),X2 n29 290 (X1 97),X2 n45 396 (X1 170),X2 n75 499 (X1 247),X2 n85 603 (X1 324),X2 n86 611 (X1 335),X2 n97 720 (X1 410),X2 mA 773 (X1 452)]++XQ 782 [(oJ,X1 461),(zcN,X1 472)]++ [X2 c8 791 (X1 479),X2 zcM 795 (X9 20000 794)]++XQ 797 [(zcL,X9 200000 796),(zcK,X1 480)]++ [X2 tX 847 (X1 511),X2 tW 1007 (X1 637),X2 tS 1013 (X1 646),X2 tR 1019 (X1 651),X2 tQ 1025 (X1 656),X2 tP 1038 (X1 663),X2 zeY 1042 (XS zhx 1041),X2 zeX 1044 (XS rE 1043),X2 zeW 1046 (X9 200 1045),X2 zeV 1048 (X9 20000 1047),X2 xD 1092 (X1 694),X2 tO 1100 (X1 705),X2 xC 1106 (X1 710),X2 tN 1116 (X1 717),X2 l7 1137 (X1 725)]
def zs7:=XD XT2 X6 q36 51
def q37:List Value:=q32++ [(X0 352),(X0 0),(X1 645),(X0 373),(X0 0),(X1 650),(X0 375),(X0 0),(X1 655),(X0 381),(X0 0),(X1 662),(X0 398),(X0 0),(X1 669),(X0 431),(X0 0),(X1 704),(X0 437),(X0 0),(X1 709),(X0 439),(X0 0),(X1 716),(X0 453),(X0 0),(X1 724)]
def zs6:=XO X7 X6 (.fields (X8 q37))
def zlJ:=Y5 32 tS
def zlI:=Y8 tS 1008 tS 352 1 642 1011
def zlH:=Y3 32 tS bT 792 645
def zlG:=Y5 33 tR
def zlF:=Y8 tR 1014 tR 373 1 647 1017
def zlE:=Y3 33 tR bT 792 650
def zlD:=Y5 34 tQ
def zlC:=Y8 tQ 1020 tQ 375 1 652 1023
def zlB:=Y3 34 tQ bT 792 655
def zlA:=XO XT0 X6 (.seq (X8 [(XS xB 1029),(XS zhy 1030),(XS zww 1031),(XS zwv 1032),(XS zhw 1033),(XS l8 1034),(XS zwu 1035)]) 0)
def zlz:=Y5 35 tP
def zly:=Y0 tP 1026 tP 381 3 657 1036 1037
def zlx:=Y3 35 tP bT 792 662
def zs5:=XD XT2 X6 [(X2 n31 1056 (XS c7 1039)),(X2 n33 1058 (XS xD 1057)),(X2 n34 1060 (X9 398 1059)),(X2 gF 1066 (X1 678)),(X2 zaK 1074 (X1 685)),(X2 zaJ 1080 (X1 691)),(X2 n35 1085 (X1 692))] 7
def zs4:=XO X7 X6 (.fields (X8 [(X0 400),(X0 4),(X1 677),(X0 417),(X0 4),(X1 684),(X0 421),(X0 4),(X1 690)]))
def zs3:=Y7 xD 1051 398 667 181 1054
def zs2:=Y6 669 666 c7 1039
def zlw:=XO XT0 X6 (.seq (X8 [(X1 671),(X1 672),(XS rE 1043)]) 0)
def zlv:=Y2 41 0 gF zeU
def zlu:=Y8 gF 1061 zeU 400 5 674 1064
def zg8:=Y19 41 0 gF zeU 673 c7 1039 677
def zlt:=Y9 n61 1070 c8
def zls:=Y2 41 1 zaK zhv
def zlr:=Y0 zaK 1067 zhv 417 2 679 1072 1073
def zlq:=Y1 41 1 zaK zhv c7 1039 684
def zeD:=XO XT0 X6 (.seq (X8 [X7]) 0)
def zlp:=Y2 41 2 zaJ zhu
def zlo:=Y8 zaJ 1075 zhu 421 2 687 1078
def zln:=Y19 41 2 zaJ zhu 686 c7 1039 690
def zlm:=Y15 zeT 1081 zcB zht xA
def q38:List (Params->DictEntry):= [X2 n31 1056 (XS c7 1039),X2 n34 1060 (X9 398 1059),X2 gF 1066 (X1 678),X2 zaK 1074 (X1 685),X2 zaJ 1080 (X1 691),X2 n35 1085 (X1 692),X2 n74 1087 (X1 695)]++XQ 1089 [(n36,X1 696),(n5,X7)]
def zll:=XD XT2 X6 q38 4
def zlk:=Y4 xD 694 693 1049
def zlj:=Y11 1086 694
def zli:=Y12 1088 694
def zs1:=Y16 694
def zs0:=Y13 694
def zlh:=Y9 n39 1096 zwt
def zlg:=Y5 42 tO
def zlf:=Y0 tO 1093 tO 431 2 699 1098 1099
def zle:=Y3 42 tO c7 1039 704
def zld:=Y5 43 xC
def zlc:=Y8 xC 1101 xC 437 1 706 1104
def zlb:=Y3 43 xC c7 1039 709
def zla:=Y15 n44 1110 w7 n30 tU
def zk9:=Y5 44 tN
def zk8:=Y0 tN 1107 tN 439 1 711 1114 1115
def zk7:=Y3 44 tN c7 1039 716
def zk6:=XO XT0 X6 (.seq (X8 [(XS n44 1120),(XS c8 1121),(XS zeT 1122),(XS n38 1123),(XS zws 1124),(XS zwr 1125),(XS zqa 1126),(XS zeS 1127),(XS xA 1128),(XS zeR 1129),(XS zwq 1130),(XS zeQ 1131),(XS zcB 1132),(XS zht 1133),(XS zhs 1134)]) 0)
def zk5:=Y5 45 l7
def zk4:=Y0 l7 1117 l7 453 2 719 1135 1136
def zg7:=XO XT3 X6 (XF (fnA 45) l7 l7 3 (X1 718) X7 X7 (XS c7 1039) X6 (X1 724) X7)
def q39:List (Params->DictEntry):=XQ 165 [(n3,XS tM 1320),(n5,X7),(n6,X7),(n7,Qd s7097527257260152453x26),(n8,X7),(n9,X1 6),(n10,X1 4)]++XQ 173 [(n11,XS n1 172),(n12,X7)]++ [X2 n13 193 (X1 21),X2 n14 197 (XS n15 196),X2 n16 199 (X9 4000 198),X2 n17 202 (X9 zdx 201),X2 n18 204 (XS n19 203),X2 n20 222 (X1 31),X2 n21 229 (X1 41),X2 n22 236 (X1 48),X2 n23 243 (X1 55),X2 n24 251 (X1 62),X2 n25 258 (X1 69),X2 n26 268 (X1 76),X2 n27 275 (X1 83),X2 n28 282 (X1 90),X2 n29 290 (X1 97),X2 n45 396 (X1 170),X2 n75 499 (X1 247),X2 n85 603 (X1 324),X2 n86 611 (X1 335),X2 n97 720 (X1 410),X2 mA 773 (X1 452)]++XQ 782 [(oJ,X1 461),(zcN,X1 472)]++ [X2 c8 791 (X1 479),X2 zcM 795 (X9 20000 794)]++XQ 797 [(zcL,X9 200000 796),(zcK,X1 480)]++ [X2 tX 847 (X1 511),X2 tW 1007 (X1 637),X2 tS 1013 (X1 646),X2 tR 1019 (X1 651),X2 tQ 1025 (X1 656),X2 tP 1038 (X1 663),X2 zeY 1042 (XS zhx 1041),X2 zeX 1044 (XS rE 1043),X2 zeW 1046 (X9 200 1045),X2 zeV 1048 (X9 20000 1047),X2 xD 1092 (X1 694),X2 tO 1100 (X1 705),X2 xC 1106 (X1 710),X2 tN 1116 (X1 717),X2 l7 1137 (X1 725),X2 wZ 1147 (X1 732),X2 wY 1156 (X1 739)]++XQ 1163 [(oI,X1 746),(zhr,X1 746)]++ [X2 wX 1174 (X1 753),X2 wW 1191 (X1 760),X2 zhq 1193 (X9 1 1192),X2 zhp 1195 (X9 0 1194),X2 zho 1197 (X9 2 1196),X2 wV 1209 (X1 767),X2 wU 1223 (X1 774),X2 wR 1242 (X1 781),X2 wQ 1251 (X1 788),X2 wO 1274 (X1 795),X2 zhn 1278 (X9 2000 1277),X2 wN 1284 (X1 800),X2 wM 1294 (X1 807),X2 n55 1300 (X1 812),X2 wL 1312 (X1 819),X2 wK 1319 (X1 826),X2 zhm 1323 (X9 20000 1322),X2 zhl 1325 (X9 200 1324)]
def zsZ:=XD XT2 X6 q39 73
def q40:List Value:=q37++ [(X0 477),(X0 0),(X1 731),(X0 489),(X0 0),(X1 738),(X0 497),(X0 0),(X1 745),(X0 502),(X0 0),(X1 752),(X0 508),(X0 0),(X1 759),(X0 533),(X0 0),(X1 766),(X0 550),(X0 0),(X1 773),(X0 561),(X0 0),(X1 780),(X0 575),(X0 0),(X1 787),(X0 578),(X0 0),(X1 794),(X0 603),(X0 0),(X1 799),(X0 612),(X0 0),(X1 806),(X0 615),(X0 0),(X1 811),(X0 630),(X0 0),(X1 818),(X0 637),(X0 0),(X1 825)]
def zsY:=XO X7 X6 (.fields (X8 q40))
def zk3:=Y15 oH 1141 zcA zwp n30
def zk2:=Y5 46 wZ
def zk1:=Y0 wZ 1138 wZ 477 2 726 1145 1146
def zk0:=Y3 46 wZ c7 1039 731
def zkZ:=Y10 oH 1151 zp4 n30
def zkY:=Y5 47 wY
def zkX:=Y0 wY 1148 wY 489 2 733 1154 1155
def zkW:=Y3 47 wY c7 1039 738
def zkV:=Y14 n38 1160
def zkU:=Y5 48 oI
def zkT:=Y0 oI 1157 oI 497 1 740 1161 1162
def zkS:=Y3 48 oI c7 1039 745
def zkR:=Y15 oH 1168 n38 c8 w7
def zkQ:=Y5 50 wX
def zkP:=Y0 wX 1165 wX 502 3 747 1172 1173
def zkO:=Y3 50 wX c7 1039 752
def zkN:=XO XT0 X6 (.seq (X8 [(XS oH 1178),(XS zp4 1179),(XS c8 1180),(XS zcA 1181),(XS l9 1182),(XS w7 1183),(XS zcB 1184),(XS zp3 1185),(XS zeR 1186),(XS zeQ 1187),(XS n40 1188)]) 0)
def zkM:=Y5 51 wW
def zkL:=Y0 wW 1175 wW 508 7 754 1189 1190
def zkK:=Y3 51 wW c7 1039 759
def zkJ:=Y17 oH 1201 zeR zeP zhk n30 zhs
def zkI:=Y5 55 wV
def zkH:=Y0 wV 1198 wV 533 4 761 1207 1208
def zkG:=Y3 55 wV c7 1039 766
def zkF:=XO XT0 X6 (.seq (X8 [(XS oH 1213),(XS zeS 1214),(XS zeP 1215),(XS zhk 1216),(XS c8 1217),(XS zeR 1218),(XS zeQ 1219),(XS zp3 1220)]) 0)
def zkE:=Y5 56 wU
def zkD:=Y0 wU 1210 wU 550 5 768 1221 1222
def zkC:=Y3 56 wU c7 1039 773
def zkB:=XO XT0 X6 (.seq (X8 [(XS oH 1227),(XS zeS 1228),(XS zeP 1229),(XS zhk 1230),(XS c8 1231),(XS w7 1232),(XS zhw 1233),(XS zcA 1234),(XS l9 1235),(XS xA 1236),(XS zeQ 1237),(XS zwo 1238),(XS zeT 1239)]) 0)
def zkA:=Y5 57 wR
def zkz:=Y0 wR 1224 wR 561 5 775 1240 1241
def zky:=Y3 57 wR c7 1039 780
def zkx:=Y10 oH 1246 zcA tT
def zkw:=Y5 58 wQ
def zkv:=Y0 wQ 1243 wQ 575 2 782 1249 1250
def zku:=Y3 58 wQ c7 1039 787
def zkt:=XO XT0 X6 (.seq (X8 [(XS oH 1255),(XS n39 1256),(XS c8 1257),(XS w7 1258),(XS zp8 1259),(XS zhw 1260),(XS zwn 1261),(XS n30 1262),(XS zeS 1263),(XS zeP 1264),(XS zhK 1265),(XS zp2 1266),(XS zcA 1267),(XS zhI 1268),(XS zcB 1269),(XS l9 1270),(XS zp1 1271)]) 0)
def zks:=Y5 59 wO
def zkr:=Y0 wO 1252 wO 578 3 789 1272 1273
def zkq:=Y3 59 wO c7 1039 794
def zkp:=Y5 62 wN
def zko:=Y8 wN 1279 wN 603 2 796 1282
def zkn:=Y3 62 wN zcz 1275 799
def zkm:=Y15 c8 1288 n68 zhs l9
def zkl:=Y5 63 wM
def zkk:=Y0 wM 1285 wM 612 4 801 1292 1293
def zkj:=Y3 63 wM zcz 1275 806
def zki:=Y5 64 n55
def zkh:=Y8 n55 1295 n55 615 2 808 1298
def zkg:=Y3 64 n55 zcz 1275 811
def zkf:=Y17 c8 1304 n68 xA w7 zwm zwl
def zke:=Y5 65 wL
def zkd:=Y0 wL 1301 wL 630 3 813 1310 1311
def zkc:=Y3 65 wL zcz 1275 818
def zkb:=Y14 xB 1316
def zka:=Y5 66 wK
def zj9:=Y0 wK 1313 wK 637 1 820 1317 1318
def zj8:=Y3 66 wK zcz 1275 825
def q41:List (Params->DictEntry):=XQ 165 [(n3,XS zhj 1388),(n5,X7),(n6,X7),(n7,Qd s7097527257260152453x26),(n8,X7),(n9,X1 6),(n10,X1 4)]++XQ 173 [(n11,XS n1 172),(n12,X7)]++ [X2 n13 193 (X1 21),X2 n14 197 (XS n15 196),X2 n16 199 (X9 4000 198),X2 n17 202 (X9 zdx 201),X2 n18 204 (XS n19 203),X2 n20 222 (X1 31),X2 n21 229 (X1 41),X2 n22 236 (X1 48),X2 n23 243 (X1 55),X2 n24 251 (X1 62),X2 n25 258 (X1 69),X2 n26 268 (X1 76),X2 n27 275 (X1 83),X2 n28 282 (X1 90),X2 n29 290 (X1 97),X2 n45 396 (X1 170),X2 n75 499 (X1 247),X2 n85 603 (X1 324),X2 n86 611 (X1 335),X2 n97 720 (X1 410),X2 mA 773 (X1 452)]++XQ 782 [(oJ,X1 461),(zcN,X1 472)]++ [X2 c8 791 (X1 479),X2 zcM 795 (X9 20000 794)]++XQ 797 [(zcL,X9 200000 796),(zcK,X1 480)]++ [X2 tX 847 (X1 511),X2 tW 1007 (X1 637),X2 tS 1013 (X1 646),X2 tR 1019 (X1 651),X2 tQ 1025 (X1 656),X2 tP 1038 (X1 663),X2 zeY 1042 (XS zhx 1041),X2 zeX 1044 (XS rE 1043),X2 zeW 1046 (X9 200 1045),X2 zeV 1048 (X9 20000 1047),X2 xD 1092 (X1 694),X2 tO 1100 (X1 705),X2 xC 1106 (X1 710),X2 tN 1116 (X1 717),X2 l7 1137 (X1 725),X2 wZ 1147 (X1 732),X2 wY 1156 (X1 739)]++XQ 1163 [(oI,X1 833),(zhr,X1 746)]++ [X2 wX 1174 (X1 753),X2 wW 1191 (X1 760),X2 zhq 1193 (X9 1 1192),X2 zhp 1195 (X9 0 1194),X2 zho 1197 (X9 2 1196),X2 wV 1209 (X1 767),X2 wU 1223 (X1 774),X2 wR 1242 (X1 781),X2 wQ 1251 (X1 788),X2 wO 1274 (X1 795),X2 zhn 1278 (X9 2000 1277),X2 wN 1284 (X1 800),X2 wM 1294 (X1 807),X2 n55 1300 (X1 812),X2 wL 1312 (X1 819),X2 wK 1319 (X1 826),X2 zhm 1323 (X9 20000 1322),X2 zhl 1325 (X9 200 1324),X2 zp0 1333 (X1 833),X2 zaI 1341 (X1 840),X2 zaH 1352 (X1 847),X2 zaG 1363 (X1 854),X2 rD 1370 (X1 860),X2 zaF 1387 (X1 867),X2 zaE 1397 (X1 874),X2 zaD 1412 (X1 881)]
def zj7:=XD XT2 X6 q41 81
def q42:List Value:=q40++ [(X0 644),(X0 0),(X1 832),(X0 649),(X0 0),(X1 839),(X0 653),(X0 0),(X1 846),(X0 657),(X0 0),(X1 853),(X0 664),(X0 0),(X1 859),(X0 687),(X0 0),(X1 866),(X0 704),(X0 0),(X1 873),(X0 708),(X0 0),(X1 880)]
def zj6:=XO X7 X6 (.fields (X8 q42))
def zj5:=Y14 n38 1329
def zj4:=Y5 70 oI
def zj3:=Y0 oI 1326 oI 644 1 827 1330 1331
def zj2:=Y3 70 oI tM 1320 832
def zj1:=Y9 xB 1337 n68
def zj0:=Y5 72 zaI
def zjZ:=Y0 zaI 1334 zaI 649 1 834 1339 1340
def zjY:=Y3 72 zaI tM 1320 839
def zjX:=Y18 xB 1345 xA zp1 l8 n40
def zjW:=Y5 73 zaH
def zjV:=Y0 zaH 1342 zaH 653 5 841 1350 1351
def zjU:=Y3 73 zaH tM 1320 846
def zjT:=Y18 xB 1356 n68 c8 w7 l8
def zjS:=Y5 74 zaG
def zjR:=Y0 zaG 1353 zaG 657 2 848 1361 1362
def zjQ:=Y3 74 zaG tM 1320 853
def zjP:=XO XT0 X6 (.seq (X8 [(X9 40 1364)]) 0)
def zjO:=Y5 75 rD
def zjN:=Y8 rD 1365 rD 664 3 856 1368
def zg6:=XO XT3 X6 (XF (fnA 75) rD rD 3 (X1 855) X7 X7 (XS tM 1320) X6 (X1 859) X7)
def zjM:=XO XT0 X6 (.seq (X8 [(XS xB 1374),(XS zwk 1375),(XS zhI 1376),(XS n38 1377),(XS zp2 1378),(XS n42 1379),(XS c8 1380),(XS n68 1381),(XS l8 1382),(XS tV 1383),(XS n40 1384)]) 0)
def zjL:=Y5 76 zaF
def zjK:=Y0 zaF 1371 zaF 687 6 861 1385 1386
def zjJ:=Y3 76 zaF tM 1320 866
def zjI:=Y9 zpZ 1393 n30
def zjH:=Y5 78 zaE
def zjG:=Y0 zaE 1390 zaE 704 2 868 1395 1396
def zjF:=Y3 78 zaE zhj 1388 873
def zjE:=XO XT0 X6 (.seq (X8 [(XS zpZ 1401),(XS xA 1402),(XS n30 1403),(XS zaJ 1404),(XS n38 1405),(XS zwj 1406),(XS oH 1407),(XS n54 1408),(XS xB 1409)]) 0)
def zjD:=Y5 79 zaD
def zjC:=Y0 zaD 1398 zaD 708 1 875 1410 1411
def zjB:=Y3 79 zaD zhj 1388 880
def q43 : List (Params -> DictEntry) := XQ 1 [(n3,XS zpY 160),(n5,Qd "builtins.__doc__:str#opaque"),(n6,Qd "builtins.__package__:str#opaque"),(n7,Qd "builtins.__loader__:shared#opaque"),(n8,Qd s11665532747177232413x24),(zwi,Qd s15183661809925369436x15),(zwh,Qd s13915890719876406383x10),(zwg,Qd s13459172003223722735x3),(zwf,Qd s10557405761357834076x3),(zwe,Qd s4233737765568776869x3),(zwd,Qd s2508922471967985374x5),(zwc,Qd s15574269061696679450x3),(zwb,Qd s6016482663378992977x10),(zwa,Qd s5596568736180474577x8),(zv9,Qd s2839554839881490554x3),(zv8,Qd s725004073602090463x7),(zv7,Qd s9436932552931045734x7),(zv6,Qd s2754603736356183583x3),(zv5,Qd s15185746759980889043x6),(zv4,Qd s8192189862530294059x4),(zv3,Qd s7038307821325472102x4),(zv2,Qd s5662562618415449548x6),(zv1,Qd s15281542589158584767x7),(zv0,Qd s17651547275483570877x7),(zvZ,Qd s4036449017235975746x7),(zvY,Qd s8879979712987360175x4),(zvX,Qd s1801250619170735830x3),(zvW,Qd s17659931425627118568x2),(zvV,Qd s6063217899685152688x5),(zvU,Qd s8008927332132565319x10),(zvT,Qd s3544116645089599534x10),(zvS,Qd s13761710972054866084x4),(zvR,Qd s12896375587409280029x5),(zpX,Qd s13014049009108672802x3),(zvQ,Qd s13935586738268321596x6),(zpW,Qd s8200498257699607233x3),(zpV,Qd s14114244577727609259x3),(zvP,Qd s1499430450269397089x4),(zvO,Qd s8755793994789770505x5),(zvN,Qd s15725212667919936108x3),(zvM,Qd s15791221867095933363x3),(zvL,Qd s81309575031448614x3),(zvK,Qd s8069831620301644142x5),(zvJ,Qd s10061844253413749634x4),(zvI,Qd s9496514870978017513x5),(zvH,Qd s8899691144933366716x7),(zpU,Qd s15201008993051130160x6),(zvG,Qd s741896355592496720x3),(zvF,Qd s17925004256654032244x4),(zvE,X7),(zvD,Value.ellipsis),(zvC,Value.notImplemented),(zvB,XB false),(zvA,XB true),(zvz,zye),(zvy,zyd),(zvx,zyc),(zvw,zyb),(zvv,zya),(zvu,zx9),(zpT,XT2),(zvt,zx8),(zvs,zx7),(zvr,zx6),(zvq,zx5),(zvp,zx4),(zpS,zx3),(zpR,XT9),(zvo,zx2),(zvn,zrz),(zpQ,zx1),(zvm,zx0),(zpP,zxZ),(zvl,zxY),(zvk,zxX),(zpO,zxW),(zvj,XT8),(zpN,XT0),(zpM,XT6),(zvi,zxV),(zvh,XB true),(zvg,zxU),(zvf,zxT),(zve,zxS),(zvd,zxR),(zvc,zxQ),(zvb,zxP),(zva,zxO),(zu9,zxN),(zu8,zxM),(zu7,zxL),(zu6,zxK),(zu5,zxJ),(zu4,zxI),(zu3,zxH),(zu2,zxG),(zu1,ziM),(zu0,zxF),(zuZ,zxE),(zuY,zxD),(zuX,zxC),(zuW,zxB),(zuV,zxA),(zuU,zxz),(zuT,XT4),(zuS,zxy),(zuR,zxx),(zuQ,zxw),(zuP,zxv),(zuO,zxu),(zuN,zxt),(zuM,zxs),(zuL,zxr),(zuK,zxq),(zuJ,zxp),(zuI,zxo),(zuH,zxn),(zuG,zxm),(zuF,zxl),(zuE,zxk),(zuD,zxj),(zuC,zxi),(zuB,zxh),(zuA,zxg),(zuz,zxf),(zuy,zxe),(zux,zxd),(zuw,zxc),(zuv,zxb),(zuu,zxa),(zut,zw9),(zus,zw8),(zur,zw7),(zuq,zw6),(zup,zw5),(zuo,zw4),(zun,zw3),(zum,zw2),(zul,zw1),(zuk,zw0),(zuj,zwZ),(zui,zwY),(zuh,zwX),(zug,zwW),(zuf,zwV),(zue,zwU),(zud,zwT),(zuc,zwS),(zub,zwR),(zua,zwQ),(zt9,ziM),(zt8,ziM),(zt7,Qd s16789243406116112673x4),(zt6,Qd s14400166428656793546x20),(zt5,Qd s5857708277339239366x20),(zt4,Qd s11855354603118919900x25),(zt3,Qd s9233592162442887856x23),(zt2,Qd s5312253846380744199x23),(zt1,Qd s7804999707787243718x20)]
def zsX:=XD XT2 X6 q43 159
def zsW:=XD XT2 X6 [(X2 zpY 162 (X1 4)),(X2 n2 163 (X1 5))] 2
def zsV:=XO X7 X6 (.dict (X8 []) 0)
def zsU:=XO zry (some 0) .plain
def zsT:=XO zry (some 3) .plain
def zsS:=Y7 n0 176 1 7 175 179
def zsR:=Y6 9 3 n2 164
def zgc (P:Params):Heap:=⟨⟨[boot_o_0 P,boot_o_1 P,boot_o_2 P,boot_o_3 P,boot_o_4 P,boot_o_5 P,boot_o_6 P,boot_o_7 P,boot_o_8 P,boot_o_9 P,boot_o_10 P,o0 P,o1 P,o2 P,o3 P]⟩,{}⟩
def tr0:=XP X5 [(0,[boot_o_0,boot_o_1,boot_o_2,boot_o_3,boot_o_4,boot_o_5,boot_o_6,boot_o_7,boot_o_8,boot_o_9,boot_o_10,o0,o1,o2,o3])]
def tr1:=XP tr0 [(3,[o4]),(12,[o5]),(15,[o0,o1,o6,o0,o7,o8,o9,o10,o11,o12,o0,o1,o13,o14,o0,o15,o16,o17,o18,o19,o0,o1,o20,o0,o21,o22,o23,o0,o1,o24,o0,o25,o26,o27,o0,o1,o28,o0,o29,o30,o31,o0,o1,o32,o0,o33,o34,o35,o0,o1,o36,o0,o37,o38,o39,o0,o1,o40,o0,o41,o42,o43,o0,o1,o44,o0,o45,o46,o47,o0,o1,o48,o0,o49,o50,o51,o0,o1,o52,o0,o53,o54,o55])]
def tr2:=XP tr1 [(3,[o56]),(12,[o57]),(98,[o0,o11,o58,o0,o59,o60,o61,o0,o1,o62,o0,o63,o64,o65,o0,o1,o66,o0,o67,o68,o69,o0,o1,o70,o0,o71,o72,o73,o0,o1,o74,o0,o75,o76,o77,o0,o1,o78,o0,o79,o80,o81,o0,o1,o82,o0,o83,o84,o85,o0,o1,o86,o0,o87,o88,o89,o0,o1,o90,o0,o91,o92,o93,o0,o1,o94,o0,o95,o96,o97,o0,o98,o99,zpG,zpF,ztY,ztX])]
def tr3:=XP tr2 [(3,[ztW]),(12,[ztV]),(175,[o0,o11,ztU,o0,ztT,ztS,ztR,o0,o1,zpE,o0,zpD,zpC,zpB,o0,o1,zpA,o0,zpz,zpy,zpx,o0,o1,zpw,o0,zpv,zpu,zpt,o0,o1,zps,o0,zpr,zpq,zpp,o0,o1,zpo,o0,zpn,zpm,zpl,o0,o1,zpk,o0,zpj,zpi,zph,o0,o1,zpg,o0,zpf,zpe,zpd,o0,o1,zpc,o0,zpb,zpa,zo9,o0,o1,zo8,o0,zo7,zo6,zo5,o0,zo4,zo3,zo2,zo1,ztQ,ztP])]
def tr4:=XP tr3 [(3,[ztO]),(12,[ztN]),(252,[o0,o11,ztM,o0,ztL,ztK,ztJ,o0,o1,zo0,o0,zoZ,zoY,zoX,o0,o1,zoW,o0,zoV,zoU,zoT,o0,o1,zoS,o0,zoR,zoQ,zoP,o0,o1,zoO,o0,zoN,zoM,zoL,o0,o1,zoK,o0,zoJ,zoI,zoH,o0,o1,zoG,o0,zoF,zoE,zoD,o0,o1,zoC,o0,zoB,zoA,zoz,o0,o1,zoy,o0,zox,zow,zov,o0,o1,zou,o0,zot,zos,zor,o0,zoq,zop,zoo,zon,ztI,ztH,o0,o1,zom,o0,zol,zok,zoj])]
def tr5:=XP tr4 [(3,[ztG]),(12,[ztF]),(336,[o0,o11,ztE,o0,ztD,ztC,ztB,zoi,zoh,o0,o1,zog,o0,zof,zoe,zod,o0,o1,zoc,o0,zob,zoa,zn9,o0,o1,zn8,o0,zn7,zn6,zn5,o0,o1,zn4,o0,zn3,zn2,zn1,o0,o1,zn0,o0,znZ,znY,znX,o0,o1,znW,o0,znV,znU,znT,o0,o1,znS,o0,znR,znQ,znP,o0,o1,znO,o0,znN,znM,znL,o0,o1,znK,o0,znJ,znI,znH,o0,znG,ztA,znF,znE,ztz,zty])]
def tr6:=XP tr5 [(3,[ztx]),(12,[ztw]),(410,[znD]),(415,[znC,o11,ztv,o0,ztu,ztt,zts,o0,o1,znB,o0,znA,znz,zny,o0,o1,znx,o0,znw,znv,znu,o0,o1,znt,o0,zns,znr,znq,o0,o1,znp,o0,zno,znn,znm,o0,znl,znk,ztr,ztq,o0,o1,znj,o0,zni,znh,zng])]
def tr7:=XP tr6 [(3,[ztp]),(12,[zto]),(462,[l5,znf,l5,zne,l5,znd,l5,znc,l5,znb,zna,o0,o1,zm9,o0,zm8,zm7,zm6,zm5])]
def tr8:=XP tr7 [(3,[ztn]),(12,[ztm]),(481,[o0,o11,ztl,o0,ztk,ztj,zti,o0,o1,zm4,o0,zm3,zm2,zm1,o0,o1,zm0,o0,zmZ,zmY,zmX,o0,o1,zmW,o0,zmV,zmU,zmT,zmS,zmR,zmQ,zmP,zmO,zth,ztg])]
def tr9:=XP tr8 [(3,[ztf]),(12,[zte]),(516,[o0,o11,ztd,o0,ztc,ztb,zta,o0,o1,zmN,o0,zmM,zmL,zmK,o0,o1,zmJ,o0,zmI,zmH,zmG,o0,o1,zmF,o0,zmE,zmD,zmC,o0,o1,zmB,zmA,zmz,o0,o1,zmy,o0,zmx,zmw,zmv,o0,o1,zmu,o0,zmt,zms,zmr,o0,o1,zmq,o0,zmp,zmo,zmn,zeE,o0,o1,zmm,o0,zml,zmk,zha,zeE,o0,o1,zmj,o0,zmi,zmh,zg9,o0,o1,zmg,o0,zmf,zme,zmd,o0,o1,zmc,o0,zmb,zma,zl9,o0,o1,zl8,o0,zl7,zl6,zl5,o0,o1,zl4,o0,zl3,zl2,zl1,o0,o1,zl0,o0,zlZ,zlY,zlX,o0,o1,zlW,o0,zlV,zlU,zlT,o0,o1,zlS,o0,zlR,zlQ,zlP,zlO,zlN,zlM,zlL,zlK,zs9,zs8])]
def zgO:=XP tr9 [(3,[zs7]),(12,[zs6]),(642,[o0,o1,zlJ,zlI,zlH,o0,o1,zlG,zlF,zlE,o0,o1,zlD,zlC,zlB,o0,o1,zlA,o0,zlz,zly,zlx,o0,o11,zs5,o0,zs4,zs3,zs2,o0,o0,zlw,o0,o1,zlv,zlu,zg8,o0,o1,zlt,o0,zls,zlr,zlq,zeD,o0,o1,zlp,zlo,zln,zlm,zll,zlk,zlj,zli,zs1,zs0,o0,o1,zlh,o0,zlg,zlf,zle,o0,o1,zld,zlc,zlb,o0,o1,zla,o0,zk9,zk8,zk7,zeD,o0,o1,zk6,o0,zk5,zk4,zg7])]
def zgN:=XP zgO [(3,[zsZ]),(12,[zsY]),(726,[o0,o1,zk3,o0,zk2,zk1,zk0,o0,o1,zkZ,o0,zkY,zkX,zkW,o0,o1,zkV,o0,zkU,zkT,zkS,o0,o1,zkR,o0,zkQ,zkP,zkO,o0,o1,zkN,o0,zkM,zkL,zkK,o0,o1,zkJ,o0,zkI,zkH,zkG,o0,o1,zkF,o0,zkE,zkD,zkC,o0,o1,zkB,o0,zkA,zkz,zky,o0,o1,zkx,o0,zkw,zkv,zku,o0,o1,zkt,o0,zks,zkr,zkq,o0,o1,zkp,zko,zkn,o0,o1,zkm,o0,zkl,zkk,zkj,o0,o1,zki,zkh,zkg,o0,o1,zkf,o0,zke,zkd,zkc,o0,o1,zkb,o0,zka,zj9,zj8])]
def zgM:=XP zgN [(3,[zj7]),(12,[zj6]),(827,[o0,o1,zj5,o0,zj4,zj3,zj2,o0,o1,zj1,o0,zj0,zjZ,zjY,o0,o1,zjX,o0,zjW,zjV,zjU,o0,o1,zjT,o0,zjS,zjR,zjQ,zjP,o0,o1,zjO,zjN,zg6,o0,o1,zjM,o0,zjL,zjK,zjJ,o0,o1,zjI,o0,zjH,zjG,zjF,o0,o1,zjE,o0,zjD,zjC,zjB])]
def kK (P:Params):Heap:=absHeap (zgM P) 882 {}
def zjl:List Stmt:=dD 17 (cQ 0 TP.main.body)
def zjk:List Stmt:=dD 1 (cQ 17 TP.main.body)
def zjj:List Stmt:=dD 1 (cQ 18 TP.main.body)
def zji:List Stmt:=dD 2 (cQ 19 TP.main.body)
def zjh:List Stmt:=dD 1 (cQ 21 TP.main.body)
def zjg:List Stmt:=dD 2 (cQ 22 TP.main.body)
def zjf:List Stmt:=dD 6 (cQ 24 TP.main.body)
def zje:List Stmt:=dD 1 (cQ 30 TP.main.body)
def zjd:List Stmt:=dD 1 (cQ 31 TP.main.body)
def zf0:List Stmt:=dD 14 (cQ 32 TP.main.body)
def zfZ:List Stmt:=dD 24 (cQ 46 TP.main.body)
def zfY:List Stmt:=dD 10 (cQ 70 TP.main.body)
def zbx:List Stmt:=zjl++(zjk++(zjj++(zji++(zjh++(zjg++(zjf++(zje++(zjd++(zf0++(zfZ++(zfY++([]))))))))))))
def jB:Env:= {scope:=TP.main.scope,locals:=mainNs,globals:=mainNs,cells:= [],code:=(.ref 13),frame:=some 14}
def fp:Pos:=⟨0,0,0,0⟩
abbrev cE:Code:=Code.body zbx jB
abbrev fZ:Option Value:=(some (.ref 6))
theorem zjo (w:World):(λos=>TWtopGo TWtable TP w 11 fZ 12 ⟨boot_heap w.params,Qx [],boot_drawn,boot_toks,os⟩ (topStub TP))=λos=>some (⟨zgc w.params,Qx [],{},187,os⟩,Thread.mk (TWdenote TWtable cE) cE ⟨0,0,0,0⟩ [topFrame fp]):=by kernel_rfl
theorem zro (w:World):(λos=>TWsegRun TWtable TP w 11 fZ 1 1 ⟨zgc w.params,Qx [],{},187,os⟩ (blockOf zbx jB cE ⟨0,0,0,0⟩ [topFrame fp]))=λos=>some (Flow.next,KJ (QI (tr0 w.params) 15 {} (Qx []) {} 187 os),cE,⟨0,0,0,0⟩):=by kernel_rfl
theorem zjx (w:World):(λos=>TWsegRunT TWtable TP w 11 fZ 1 543 (QI (tr0 w.params) 15 {} (Qx []) {} 187 os) (piecesOf zjl jB cE ⟨0,0,0,0⟩ [topFrame fp]))=λos=>some (Flow.next,(QI (tr1 w.params) 98 {} (Qx []) {} 293 os),cE,⟨53,0,53,8⟩):=by kernel_rfl
theorem zjw (w:World):(λos=>TWsegRunT TWtable TP w 11 fZ 1 530 (QI (tr1 w.params) 98 {} (Qx []) {} 293 os) (piecesOf zjk jB cE ⟨53,0,53,8⟩ [topFrame fp]))=λos=>some (Flow.next,(QI (tr2 w.params) 175 {} (Qx []) {} 397 os),cE,⟨54,0,88,41⟩):=by kernel_rfl
theorem zjv (w:World):(λos=>TWsegRunT TWtable TP w 11 fZ 1 529 (QI (tr2 w.params) 175 {} (Qx []) {} 397 os) (piecesOf zjj jB cE ⟨54,0,88,41⟩ [topFrame fp]))=λos=>some (Flow.next,(QI (tr3 w.params) 252 {} (Qx []) {} 500 os),cE,⟨89,0,133,30⟩):=by kernel_rfl
theorem zju (w:World):(λos=>TWsegRunT TWtable TP w 11 fZ 1 560 (QI (tr3 w.params) 252 {} (Qx []) {} 500 os) (piecesOf zji jB cE ⟨89,0,133,30⟩ [topFrame fp]))=λos=>some (Flow.next,(QI (tr4 w.params) 336 {} (Qx []) {} 612 os),cE,⟨171,0,174,12⟩):=by kernel_rfl
theorem zjt (w:World):(λos=>TWsegRunT TWtable TP w 11 fZ 1 541 (QI (tr4 w.params) 336 {} (Qx []) {} 612 os) (piecesOf zjh jB cE ⟨171,0,174,12⟩ [topFrame fp]))=λos=>some (Flow.next,(QI (tr5 w.params) 415 {} (Qx []) {} 721 os),cE,⟨175,0,216,70⟩):=by kernel_rfl
theorem zjs (w:World):(λos=>TWsegRunT TWtable TP w 11 fZ 1 393 (QI (tr5 w.params) 415 {} (Qx []) {} 721 os) (piecesOf zjg jB cE ⟨175,0,216,70⟩ [topFrame fp]))=λos=>some (Flow.next,(QI (tr6 w.params) 462 {} (Qx []) {} 783 os),cE,⟨237,0,239,29⟩):=by kernel_rfl
theorem zjr (w:World):(λos=>TWsegRunT TWtable TP w 11 fZ 1 331 (QI (tr6 w.params) 462 {} (Qx []) {} 783 os) (piecesOf zjf jB cE ⟨237,0,239,29⟩ [topFrame fp]))=λos=>some (Flow.next,(QI (tr7 w.params) 481 {} (Qx []) {} 799 os),cE,⟨249,0,249,3⟩):=by kernel_rfl
theorem zjq (w:World):(λos=>TWsegRunT TWtable TP w 11 fZ 1 291 (QI (tr7 w.params) 481 {} (Qx []) {} 799 os) (piecesOf zje jB cE ⟨249,0,249,3⟩ [topFrame fp]))=λos=>some (Flow.next,(QI (tr8 w.params) 516 {} (Qx []) {} 848 os),cE,⟨250,0,262,16⟩):=by kernel_rfl
theorem zjp (w:World):(λos=>TWsegRunT TWtable TP w 11 fZ 1 722 (QI (tr8 w.params) 516 {} (Qx []) {} 848 os) (piecesOf zjd jB cE ⟨250,0,262,16⟩ [topFrame fp]))=λos=>some (Flow.next,(QI (tr9 w.params) 642 {} (Qx []) {} 1008 os),cE,⟨263,0,351,17⟩):=by kernel_rfl
theorem zg0 (w:World):(λos=>TWsegRunT TWtable TP w 11 fZ 1 582 (QI (tr9 w.params) 642 {} (Qx []) {} 1008 os) (piecesOf zf0 jB cE ⟨263,0,351,17⟩ [topFrame fp]))=λos=>some (Flow.next,(QI (zgO w.params) 726 {} (Qx []) {} 1138 os),cE,⟨453,0,476,62⟩):=by kernel_rfl
theorem zgZ (w:World):(λos=>TWsegRunT TWtable TP w 11 fZ 1 580 (QI (zgO w.params) 726 {} (Qx []) {} 1138 os) (piecesOf zfZ jB cE ⟨453,0,476,62⟩ [topFrame fp]))=λos=>some (Flow.next,(QI (zgN w.params) 827 {} (Qx []) {} 1326 os),cE,⟨643,0,643,11⟩):=by kernel_rfl
theorem zgY (w:World):(λos=>TWsegRunT TWtable TP w 11 fZ 1 279 (QI (zgN w.params) 827 {} (Qx []) {} 1326 os) (piecesOf zfY jB cE ⟨643,0,643,11⟩ [topFrame fp]))=λos=>some (Flow.next,(QI (zgM w.params) 882 {} (Qx []) {} 1413 os),cE,⟨708,0,719,95⟩):=by kernel_rfl
theorem zqv (w:World):(λos=>TWtopRun TWtable TP w 11 fZ 2 (KJ (QI (zgM w.params) 882 {} (Qx []) {} 1413 os)) (Thread.mk (doneF Flow.next) cE ⟨708,0,719,95⟩ [topFrame fp]))=λos=>some (⟨kK w.params,Qx [],{},1413,os⟩):=by kernel_rfl
abbrev zgT:Nat:=(12+(1+(543+(530+(529+(560+(541+(393+(331+(291+(722+(582+(580+(279+2))))))))))))))
theorem zsP (w:World) (os:OsState):topRun treeTable TP w 11 fZ zgT ⟨boot_heap w.params,Qx [],boot_drawn,boot_toks,os⟩ (topStub TP)=some ⟨kK w.params,Qx [],{},1413,os⟩:=
 go_top (by have h:=congrFun (zjo w) os;rw [<-yH,<-aP,<-vE] at h;exact h) (piece_block (by have h:=congrFun (zro w) os;rw [<-vD,<-aP] at h;exact h) (piece_app (segRun_of (by have h:=congrFun (zjx w) os;rw [<-aM,<-aP] at h;exact h)) (piece_app (segRun_of (by have h:=congrFun (zjw w) os;rw [<-aM,<-aP] at h;exact h)) (piece_app (segRun_of (by have h:=congrFun (zjv w) os;rw [<-aM,<-aP] at h;exact h)) (piece_app (segRun_of (by have h:=congrFun (zju w) os;rw [<-aM,<-aP] at h;exact h)) (piece_app (segRun_of (by have h:=congrFun (zjt w) os;rw [<-aM,<-aP] at h;exact h)) (piece_app (segRun_of (by have h:=congrFun (zjs w) os;rw [<-aM,<-aP] at h;exact h)) (piece_app (segRun_of (by have h:=congrFun (zjr w) os;rw [<-aM,<-aP] at h;exact h)) (piece_app (segRun_of (by have h:=congrFun (zjq w) os;rw [<-aM,<-aP] at h;exact h)) (piece_app (segRun_of (by have h:=congrFun (zjp w) os;rw [<-aM,<-aP] at h;exact h)) (piece_app (segRun_of (by have h:=congrFun (zg0 w) os;rw [<-aM,<-aP] at h;exact h)) (piece_app (segRun_of (by have h:=congrFun (zgZ w) os;rw [<-aM,<-aP] at h;exact h)) (piece_app (segRun_of (by have h:=congrFun (zgY w) os;rw [<-aM,<-aP] at h;exact h)) (by have h:=congrFun (zqv w) os;rw [<-vC,<-aP] at h;exact h))))))))))))))
def KK (P:Params):Frag:=XK P [(0,[zsX,zsW,zsV,zj7,zsU,zsT,l5,o0,o1,zsS,zsR,o0,zj6,o2,o3,o0,o1,o6,o0,o7,o8,o9,o10]),(29,[o0,o15,o16,o17]),(35,[o0,o1,o20,o0,o21,o22,o23,o0,o1,o24,o0,o25,o26,o27,o0,o1,o28,o0,o29,o30,o31,o0,o1,o32,o0,o33,o34,o35,o0,o1,o36,o0,o37,o38,o39,o0,o1,o40,o0,o41,o42,o43,o0,o1,o44,o0,o45,o46,o47,o0,o1,o48,o0,o49,o50,o51,o0,o1,o52,o0,o53,o54,o55]),(105,[o0,o1,o62,o0,o63,o64,o65,o0,o1,o66,o0,o67,o68,o69,o0,o1,o70,o0,o71,o72,o73,o0,o1,o74,o0,o75,o76,o77,o0,o1,o78,o0,o79,o80,o81,o0,o1,o82,o0,o83,o84,o85,o0,o1,o86,o0,o87,o88,o89,o0,o1,o90,o0,o91,o92,o93,o0,o1,o94,o0,o95,o96,o97,o0,o98,o99,zpG,zpF]),(182,[o0,o1,zpE,o0,zpD,zpC,zpB,o0,o1,zpA,o0,zpz,zpy,zpx,o0,o1,zpw,o0,zpv,zpu,zpt,o0,o1,zps,o0,zpr,zpq,zpp,o0,o1,zpo,o0,zpn,zpm,zpl,o0,o1,zpk,o0,zpj,zpi,zph,o0,o1,zpg,o0,zpf,zpe,zpd,o0,o1,zpc,o0,zpb,zpa,zo9,o0,o1,zo8,o0,zo7,zo6,zo5,o0,zo4,zo3,zo2,zo1]),(259,[o0,o1,zo0,o0,zoZ,zoY,zoX,o0,o1,zoW,o0,zoV,zoU,zoT,o0,o1,zoS,o0,zoR,zoQ,zoP,o0,o1,zoO,o0,zoN,zoM,zoL,o0,o1,zoK,o0,zoJ,zoI,zoH,o0,o1,zoG,o0,zoF,zoE,zoD,o0,o1,zoC,o0,zoB,zoA,zoz,o0,o1,zoy,o0,zox,zow,zov,o0,o1,zou,o0,zot,zos,zor,o0,zoq,zop,zoo,zon]),(329,[o0,o1,zom,o0,zol,zok,zoj]),(343,[zoi,zoh,o0,o1,zog,o0,zof,zoe,zod,o0,o1,zoc,o0,zob,zoa,zn9,o0,o1,zn8,o0,zn7,zn6,zn5,o0,o1,zn4,o0,zn3,zn2,zn1,o0,o1,zn0,o0,znZ,znY,znX,o0,o1,znW,o0,znV,znU,znT,o0,o1,znS,o0,znR,znQ,znP,o0,o1,znO,o0,znN,znM,znL,o0,o1,znK,o0,znJ,znI,znH,o0,znG,znD,znF,znE]),(415,[znC]),(422,[o0,o1,znB,o0,znA,znz,zny,o0,o1,znx,o0,znw,znv,znu,o0,o1,znt,o0,zns,znr,znq,o0,o1,znp,o0,zno,znn,znm,o0,znl,znk]),(455,[o0,o1,znj,o0,zni,znh,zng,l5,znf,l5,zne,l5,znd,l5,znc,l5,znb,zna,o0,o1,zm9,o0,zm8,zm7,zm6,zm5]),(488,[o0,o1,zm4,o0,zm3,zm2,zm1,o0,o1,zm0,o0,zmZ,zmY,zmX,o0,o1,zmW,o0,zmV,zmU,zmT,zmS,zmR,zmQ,zmP,zmO]),(523,[o0,o1,zmN,o0,zmM,zmL,zmK,o0,o1,zmJ,o0,zmI,zmH,zmG,o0,o1,zmF,o0,zmE,zmD,zmC,o0,o1,zmB,zmA,zmz,o0,o1,zmy,o0,zmx,zmw,zmv,o0,o1,zmu,o0,zmt,zms,zmr,o0,o1,zmq,o0,zmp,zmo,zmn,zeE,o0,o1,zmm,o0,zml,zmk,zha,zeE,o0,o1,zmj,o0,zmi,zmh,zg9,o0,o1,zmg,o0,zmf,zme,zmd,o0,o1,zmc,o0,zmb,zma,zl9,o0,o1,zl8,o0,zl7,zl6,zl5,o0,o1,zl4,o0,zl3,zl2,zl1,o0,o1,zl0,o0,zlZ,zlY,zlX,o0,o1,zlW,o0,zlV,zlU,zlT,o0,o1,zlS,o0,zlR,zlQ,zlP,zlO,zlN,zlM,zlL,zlK]),(642,[o0,o1,zlJ,zlI,zlH,o0,o1,zlG,zlF,zlE,o0,o1,zlD,zlC,zlB,o0,o1,zlA,o0,zlz,zly,zlx]),(671,[o0,o0,zlw,o0,o1,zlv,zlu,zg8,o0,o1,zlt,o0,zls,zlr,zlq,zeD,o0,o1,zlp,zlo,zln,zlm,zll,zlk,zlj,zli]),(699,[o0,o1,zlh,o0,zlg,zlf,zle,o0,o1,zld,zlc,zlb,o0,o1,zla,o0,zk9,zk8,zk7,zeD,o0,o1,zk6,o0,zk5,zk4,zg7,o0,o1,zk3,o0,zk2,zk1,zk0,o0,o1,zkZ,o0,zkY,zkX,zkW,o0,o1,zkV,o0,zkU,zkT,zkS,o0,o1,zkR,o0,zkQ,zkP,zkO,o0,o1,zkN,o0,zkM,zkL,zkK,o0,o1,zkJ,o0,zkI,zkH,zkG,o0,o1,zkF,o0,zkE,zkD,zkC,o0,o1,zkB,o0,zkA,zkz,zky,o0,o1,zkx,o0,zkw,zkv,zku,o0,o1,zkt,o0,zks,zkr,zkq,o0,o1,zkp,zko,zkn,o0,o1,zkm,o0,zkl,zkk,zkj,o0,o1,zki,zkh,zkg,o0,o1,zkf,o0,zke,zkd,zkc,o0,o1,zkb,o0,zka,zj9,zj8,o0,o1,zj5,o0,zj4,zj3,zj2,o0,o1,zj1,o0,zj0,zjZ,zjY,o0,o1,zjX,o0,zjW,zjV,zjU,o0,o1,zjT,o0,zjS,zjR,zjQ,zjP,o0,o1,zjO,zjN,zg6,o0,o1,zjM,o0,zjL,zjK,zjJ,o0,o1,zjI,o0,zjH,zjG,zjF,o0,o1,zjE,o0,zjD,zjC,zjB])]
def as0:List Addr:=QA 0 23++(QA 29 4++(QA 35 63++(QA 105 68++(QA 182 68++(QA 259 68++(QA 329 7++(QA 343 70++([415]++(QA 422 31++(QA 455 26++(QA 488 26++(QA 523 117++(QA 642 22++(QA 671 26++(QA 699 183)))))))))))))))
abbrev iN:Nat:=882
abbrev pW:Nat:=1413
abbrev m00:Nat:=11
abbrev TSt:=PySem.W.Fast.tw13471830651028734593
theorem eSt: @staticsOk=TSt:=PySem.W.Fast.te13471830651028734593
abbrev TNb:=PySem.W.Fast.tw4683006035507612052
theorem eNb: @namesBound=TNb:=PySem.W.Fast.te4683006035507612052
abbrev TLk:=PySem.W.Fast.tw16898566250750103049
theorem eLk: @laidKept=TLk:=PySem.W.Fast.te16898566250750103049
abbrev TXl:=PySem.W.Fast.tw4757257242682413121
theorem eXl: @xlAt=TXl:=PySem.W.Fast.te4757257242682413121
abbrev TRo:=PySem.W.Fast.tw6483871617321286689
theorem eRo: @recOk=TRo:=PySem.W.Fast.te6483871617321286689
abbrev TOg:=PySem.W.Fast.tw3486900944545009338
theorem eOg: @openGood=TOg:=PySem.W.Fast.te3486900944545009338
abbrev TIm:=PySem.W.Fast.tw5923862056798008813
theorem eIm: @importedModules=TIm:=PySem.W.Fast.te5923862056798008813
abbrev TOs:=PySem.W.Fast.tw4187177175401517315
theorem eOs: @openSeen=TOs:=PySem.W.Fast.te4187177175401517315
def qOf (p:Program):Program:= {p with main:= {p.main with body:=cQ 79 p.main.body} }
abbrev qv:Program:=qOf TP
def loose0:List PySem.Str:=(dD 79 TP.main.body).flatMap λs=>match s with
 | .FunctionDef n .. => [n] | .ClassDef n .. => [n] | .Assign [.Name n ..] .. =>if n==⟨#[95,95,110,97,109,101,95,95]⟩ then [] else [n] |_=> []
abbrev NN:Nat:=7000
theorem zcV: ∀P,as0=(KK P).map (·.1):=λP=>by kernel_rfl
theorem facts1 {w:World}{s t:Shared} (y:obsZ as0 s=valZ KK iN pW w) (k: ∀b o,s.heap.get? b=some o->t.heap.get? b=some o):Frag.In (KK w.params) t.heap/\s.heap.objs.size=nat_lit 882/\s.toks=nat_lit 1413:=
 ⟨InK.keeps w s.heap t.heap (z_facts zcV y).2.1 k,(z_facts zcV y).2.2.1,(z_facts zcV y).2.2.2⟩
theorem zio: ∀w:World,(fencedOpening treeTable TP w NN).map (λs=>(s.heap,s.gens,s.drawn,s.toks))=some (boot_heap w.params,Qx [],boot_drawn,boot_toks):=
 boot_open (p:=TP) (N:=NN) (by kernel_rfl) (by decide) (λs=>by rfl)
theorem zin : ∀ w : World,((boot_heap w.params).isNs mainGlobals && (Qx [] : Array GenState).size == 0,(boot_heap w.params).objs.size,(boot_heap w.params).nsMap mainGlobals "__annotations__") = (true,11,fZ) := λw => by kernel_rfl
def XtT (s:Shared):Bool:=TXl qv [] s && TRo [] s
theorem zqe (w:World):(λos:OsState=>(TSt (TIm TP.main.body) (boot_heap w.params) (kK w.params) && TNb TP (kK w.params) && gensDone ⟨kK w.params,Qx [],{},pW,os⟩ && TLk (boot_heap w.params) (kK w.params)))=λ_=>true:=by kernel_rfl
theorem zqc (w:World):(λos:OsState=>obsZ as0 ⟨kK w.params,Qx [],{},pW,os⟩)=λ_=>valZ KK iN pW w:=by kernel_rfl
theorem zqd (w:World):(λos:OsState=>TOs qv loose0 (TIm TP.main.body) XtT true ⟨kK w.params,Qx [],{},pW,os⟩)=λ_=>TOg qv loose0:=by kernel_rfl
theorem eXt:XtT=λs=>xlAt qv [] s && recOk [] s:=by unfold XtT;rw [eXl,eRo]
abbrev pw:Program:=PySem.Challenge.pw_ui0508_20
theorem left0:LeftO pw (qOf pw) loose0 (λs=>xlAt (qOf pw) [] s && recOk [] s) (obsZ as0) (valZ KK iN pW) NN:=by
 rw [show pw=TP from zsF];refine LeftO.of_pieces (g0:=true) zio zin zsP (by decide) (λw=>?_);have h1:=zqe w;have h2:=zqd w;have h3:=zqc w;rw [<-eSt,<-eIm,<-eNb,<-eLk] at h1;rw [<-eOs,<-eIm,<-eOg,eXt] at h2
 funext os
 exact KN (congrFun h1 os) (KN (congrFun h2 os) (congrFun h3 os))
abbrev QQ (s₀ s₁:Shared) (ns:List Int):Value->Shared->Prop:=λv s'=>GoodWG PySem.Challenge.rw_ui0508_20.row.claim (classAt s₀.heap) (ExcName.means s₀.heap) [ofPy (J1 (J4 J0 ns))] s₁ (.ok (.ret v)) s'
abbrev EE (s₀ s₁:Shared) (ns:List Int):Value->Shared->Prop:=λe s'=>GoodWG PySem.Challenge.rw_ui0508_20.row.claim (classAt s₀.heap) (ExcName.means s₀.heap) [ofPy (J1 (J4 J0 ns))] s₁ (.error e) s'
theorem small {p:Program}{w:World}{A:Around}{t:Sem Value}{s₀ s₁ s:Shared}{ns:List Int} (h:wpAny (model p w) A t (QQ s₀ s₁ ns) (EE s₀ s₁ ns) s):
  wpAny (model p w) A t (λv s'=>GoodWG PySem.Challenge.rw_ui0508_20.row.claim (classAt s₀.heap) (ExcName.means s₀.heap) [ofPy (J1 (J4 J0 ns))] s₁ (.ok (.ret v)) s')
   (λe s'=>GoodWG PySem.Challenge.rw_ui0508_20.row.claim (classAt s₀.heap) (ExcName.means s₀.heap) [ofPy (J1 (J4 J0 ns))] s₁ (.error e) s') s:=h
end Tactic
namespace Tactic
open Internal
abbrev nq0:Nat:=1954115685
abbrev nq1:Nat:=491260897125
abbrev nq2:Nat:=1818850164
abbrev nq3:Nat:=126922498794852
abbrev nq4:Nat:=1851878757
abbrev nq5:Nat:=1852138852
abbrev nq6:Nat:=2073057139020767260526
abbrev nq7:Nat:=504397587826
abbrev nq8:Nat:=465726563698
abbrev nq9:Nat:=131277443786868
abbrev qZ:Nat:=127961880028532
abbrev dB:Nat:=1919512167
abbrev gE:Nat:=1634886515
abbrev tG:Nat:=1701733491
abbrev wH:Nat:=495873782388
abbrev zaB:Nat:=439855772532
abbrev zaA:Nat:=104880676367988
abbrev zhf:Nat:=450661264077055929053037
abbrev l6:Nat:=107135549927012
abbrev dH:Nat:=121424990136436
abbrev wG:Nat:=521330740336550618428517
abbrev wF:Nat:=495873782885
abbrev zeH:Nat:=7598521885536580729
abbrev kQ:Nat:=1936292453
abbrev zeG:Nat:=1919907699
abbrev zeF:Nat:=1818584692
abbrev tF:Nat:=491394656372
abbrev tE:Nat:=1668248436
abbrev zhe:Nat:=495874894192
abbrev zpJ:Nat:=545218989645367805047912
abbrev zaz:Nat:=1919246692
abbrev zhd:Nat:=2036448204439382094708
abbrev kP:Nat:=499984983411
abbrev oG:Nat:=1886156147
abbrev zhc:Nat:=426952976750
abbrev zay:Nat:=1937006962
abbrev zpI:Nat:=1925483444799026525305
def gl0:List (PySem.Str×Val):= [(n18,(.str [32,9,10,58,47,95,91,93,62,35,59,63,61])),(zpX,(.bi 7103854)),(zpO,(.ty 7566450)),(zpM,(.ty nq0)),(n20,(.top 100)),(n21,(.top 101)),(n27,(.top 102)),(n22,(.top 103)),(n24,(.top 134)),(zpP,(.ty 7562612)),(zpS,(.ty 6909556)),(n14,(.str [48,49,50,51,52,53,54,55,56,57])),(n16,(.int 4000)),(zpW,(.bi 7168376)),(zpV,(.bi 7170414)),(n29,(.top 237)),(n17,(.int (10 ^ 4000))),(n86,(.top 109)),(zpN,(.ty 500186508389)),(oJ,(.top 110)),(n97,(.top 111)),(zcN,(.fl [.top 112,.top 113,.top 114,.top 115,.top 116])),(c8,(.top 105)),(zcM,(.int 20000)),(n26,(.top 117)),(tX,(.top 118)),(zcL,(.int 200000)),(n23,(.top 119)),(zpQ,(.ty nq1)),(zcK,(.top 120)),(tW,(.top 121)),(tQ,(.top 123)),(tP,(.top 124)),(tR,(.top 125)),(zpR,(.ty nq2)),(zeX,(.str [109,117,115,116])),(tO,(.top 218)),(zeY,(.str [35])),(n25,(.top 219)),(xD,(.top 229)),(tN,(.top 238)),(zeW,(.int 200)),(zeV,(.int 20000)),(wW,(.top 220)),(zhr,(.top 221)),(wZ,(.top 222)),(wY,(.top 223)),(zho,(.int 2)),(zhp,(.int 0)),(zhq,(.int 1)),(wV,(.top 225)),(wU,(.top 226)),(wQ,(.top 227)),(wR,(.top 228)),(tS,(.top 133)),(zhn,(.int 2000)),(wM,(.top 104)),(zpT,(.ty 1684628340)),(zpU,(.bi nq3)),(n55,(.top 107)),(wN,(.top 108)),(zhl,(.int 200)),(zaG,(.top 127)),(zaI,(.top 128)),(zaF,(.top 135)),(wK,(.top 131)),(zp0,(.top 130)),(wL,(.top 132)),(zhm,(.int 20000)),(zaH,(.top 126)),(zaE,(.top 137)),(wX,(.top 224)),(wO,(.top 234)),(rD,(.top 136)),(l7,(.top 239))]
def gP:List Sm:= [.ret (.bop false [.cmp .is (.call (.lit (.ty nq0)) [.var 0]) (.lit (.ty 7566450)),.cmp .eq (.call (.lit (.bi 7103854)) [.var 0]) (.lit (.int 1)),.cmp .notin (.var 0) (.lit (.str [32,9,10,58,47,95,91,93,62,35,59,63,61])),.not (.meth (.var 0) 29681812198482789 [])])]
def gK:Fn:=⟨101,1,[],7,gP⟩
def eT:List Sm:= [.ite (.not (.call (.lit (.top 101)) [.var 0])) [.rse (.bin .add (.lit (.str [110,111,32,108,101,116,116,101,114,58,32])) (.call (.lit (.top 102)) [.var 0]))] [],.ret (.var 0)]
def eO:Fn:=⟨103,1,[],7,eT⟩
def fW:List Sm:= [.ite (.cmp .ne (.var 0) (.lit (.str []))) [.expr (.call (.lit (.top 103)) [.var 0])] [],.ret (.var 0)]
def fM:Fn:=⟨119,1,[],7,fW⟩
def gO:List Sm:= [.ite (.cmp .isnot (.call (.lit (.ty nq0)) [.var 0]) (.lit (.ty 7566450))) [.rse (.bin .add (.lit (.str [110,111,32,119,111,114,100,58,32])) (.call (.lit (.top 102)) [.var 0]))] [],.fo [1] false (.var 0) [.expr (.call (.lit (.top 103)) [.var 1])],.ret (.var 0)]
def gJ:Fn:=⟨134,1,[],8,gO⟩
def eC:List Sm:= [.expr (.call (.lit (.top 134)) [.var 0]),.ite (.cmp .ne (.call (.lit (.bi 7103854)) [.call (.lit (.ty 7562612)) [.var 0]]) (.call (.lit (.bi 7103854)) [.var 0])) [.rse (.bin .add (.lit (.str [97,32,108,101,116,116,101,114,32,116,119,105,99,101,58,32])) (.call (.lit (.top 102)) [.var 0]))] [],.ret (.var 0)]
def d6:Fn:=⟨219,1,[],7,eC⟩
def fX:List Sm:= [.ite (.bop true [.cmp .isnot (.call (.lit (.ty nq0)) [.var 0]) (.lit (.ty 6909556)),.cmp .lt (.var 0) (.var 1),.cmp .gt (.var 0) (.var 2)]) [.rse (.bin .add (.bin .add (.bin .add (.lit (.str [110,111,32])) (.var 3)) (.lit (.str [58,32]))) (.call (.lit (.top 102)) [.var 0]))] [],.ret (.var 0)]
def fN:Fn:=⟨117,4,[],10,fX⟩
def gN:List Sm:= [.ite (.bop true [.cmp .isnot (.call (.lit (.ty nq0)) [.var 0]) (.lit (.ty 7566450)),.cmp .eq (.var 0) (.lit (.str [])),.cmp .gt (.call (.lit (.bi 7103854)) [.var 0]) (.lit (.int 4000))]) [.rse (.bin .add (.lit (.str [110,111,32,119,101,105,103,104,116,58,32])) (.call (.lit (.top 102)) [.var 0]))] [],.fo [1] false (.var 0) [.ite (.cmp .notin (.var 1) (.lit (.str [48,49,50,51,52,53,54,55,56,57]))) [.rse (.bin .add (.lit (.str [110,111,32,119,101,105,103,104,116,58,32])) (.call (.lit (.top 102)) [.var 0]))] []],.ret (.call (.lit (.ty 6909556)) [.var 0])]
def gI:Fn:=⟨237,1,[],8,gN⟩
def u5:List Sm:= [.ite (.bop true [.cmp .isnot (.call (.lit (.ty nq0)) [.var 1]) (.lit (.ty 6909556)),.cmp .lt (.var 1) (.lit (.int 0)),.cmp .gt (.var 1) (.lit (.int 1))]) [.rse (.bin .add (.lit (.str [110,111,32,119,101,105,103,104,116,32,111,102,32])) (.attr (.var 0) nq4))] [],.ret (.var 1)]
def uO:Fn:=⟨142,2,[],8,u5⟩
def u4:List Sm:= [.ret (.call (.lit (.bi 7168376)) [.var 1,.var 2])]
def uN:Fn:=⟨143,3,[],9,u4⟩
def r0:List Sm:= [.ret (.call (.lit (.bi 7170414)) [.var 1,.var 2])]
def rQ:Fn:=⟨144,3,[],9,r0⟩
def u1:List Sm:= [.ret (.lit (.int 1))]
def uL:Fn:=⟨145,2,[],8,u1⟩
def u3:List Sm:= [.ret (.meth (.var 0) nq5 [.call (.lit (.top 237)) [.var 1]])]
def uM:Fn:=⟨240,2,[],8,u3⟩
def pK:List Sm:= [.ite (.bop false [.cmp .isnot (.var 1) (.lit .none),.bop true [.cmp .isnot (.call (.lit (.ty nq0)) [.var 1]) (.lit (.ty 6909556)),.cmp .lt (.var 1) (.lit (.int 0)),.cmp .ge (.var 1) (.lit (.int (10 ^ 4000)))]]) [.rse (.bin .add (.lit (.str [110,111,32,119,101,105,103,104,116,32,111,102,32])) (.attr (.var 0) nq4))] [],.ret (.var 1)]
def oV:Fn:=⟨147,2,[],8,pK⟩
def pJ:List Sm:= [.ite (.cmp .is (.var 1) (.lit .none)) [.ret (.var 2)] [],.ite (.cmp .is (.var 2) (.lit .none)) [.ret (.var 1)] [],.ret (.call (.lit (.bi 7170414)) [.var 1,.var 2])]
def oU:Fn:=⟨148,3,[],9,pJ⟩
def nF:List Sm:= [.ite (.bop true [.cmp .is (.var 1) (.lit .none),.cmp .is (.var 2) (.lit .none)]) [.ret (.lit .none)] [],.ret (.bin .add (.var 1) (.var 2))]
def mP:Fn:=⟨149,3,[],9,nF⟩
def pH:List Sm:= [.ret (.lit (.int 0))]
def oS:Fn:=⟨150,2,[],8,pH⟩
def pI:List Sm:= [.ite (.cmp .eq (.var 1) (.lit (.str [110,111,110,101]))) [.ret (.lit .none)] [],.ret (.call (.lit (.top 237)) [.var 1])]
def oT:Fn:=⟨241,2,[],8,pI⟩
def pO:List Sm:= [.ite (.bop true [.cmp .isnot (.call (.lit (.ty nq0)) [.var 1]) (.lit (.ty 6909556)),.cmp .lt (.var 1) (.lit (.int 0)),.cmp .ge (.var 1) (.lit (.int (10 ^ 4000)))]) [.rse (.bin .add (.lit (.str [110,111,32,119,101,105,103,104,116,32,111,102,32])) (.attr (.var 0) nq4))] [],.ret (.var 1)]
def oZ:Fn:=⟨152,2,[],8,pO⟩
def pN:List Sm:= [.ret (.bin .add (.var 1) (.var 2))]
def oY:Fn:=⟨153,3,[],9,pN⟩
def nG:List Sm:= [.ret (.bin .mul (.var 1) (.var 2))]
def mQ:Fn:=⟨154,3,[],9,nG⟩
def pL:List Sm:= [.ite (.cmp .ne (.var 1) (.lit (.int 0))) [.rse (.lit (.str [119,97,121,115,32,119,105,116,104,111,117,116,32,101,110,100]))] [],.ret (.lit (.int 1))]
def oW:Fn:=⟨155,2,[],8,pL⟩
def pM:List Sm:= [.ret (.call (.lit (.top 237)) [.var 1])]
def oX:Fn:=⟨242,2,[],8,pM⟩
def pG:List Sm:= [.wh (.cmp .gt (.var 1) (.lit (.int 0))) [.asgs [.nm 0,.nm 1] (.tup [.var 1,.bin .mod (.var 0) (.var 1)])],.ret (.var 0)]
def oR:Fn:=⟨109,2,[],8,pG⟩
def nL:List Sm:= [.ite (.bop true [.cmp .isnot (.call (.lit (.ty nq0)) [.var 1]) (.lit (.ty 500186508389)),.cmp .ne (.call (.lit (.bi 7103854)) [.var 1]) (.lit (.int 2)),.cmp .isnot (.call (.lit (.ty nq0)) [.sub (.var 1) (.lit (.int 0))]) (.lit (.ty 6909556)),.cmp .isnot (.call (.lit (.ty nq0)) [.sub (.var 1) (.lit (.int 1))]) (.lit (.ty 6909556))]) [.rse (.bin .add (.lit (.str [110,111,32,119,101,105,103,104,116,32,111,102,32])) (.attr (.var 0) nq4))] [],.ite (.bop true [.cmp .lt (.sub (.var 1) (.lit (.int 0))) (.lit (.int 0)),.cmp .lt (.sub (.var 1) (.lit (.int 1))) (.lit (.int 1)),.cmp .ge (.sub (.var 1) (.lit (.int 0))) (.lit (.int (10 ^ 4000))),.cmp .ge (.sub (.var 1) (.lit (.int 1))) (.lit (.int (10 ^ 4000))),.cmp .ne (.call (.lit (.top 109)) [.sub (.var 1) (.lit (.int 1)),.sub (.var 1) (.lit (.int 0))]) (.lit (.int 1))]) [.rse (.bin .add (.lit (.str [110,111,32,119,101,105,103,104,116,32,111,102,32])) (.attr (.var 0) nq4))] [],.ret (.var 1)]
def mU:Fn:=⟨157,2,[],8,nL⟩
def nK:List Sm:= [.ret (.call (.lit (.top 110)) [.bin .add (.bin .mul (.sub (.var 1) (.lit (.int 0))) (.sub (.var 2) (.lit (.int 1)))) (.bin .mul (.sub (.var 2) (.lit (.int 0))) (.sub (.var 1) (.lit (.int 1)))),.bin .mul (.sub (.var 1) (.lit (.int 1))) (.sub (.var 2) (.lit (.int 1)))])]
def mT:Fn:=⟨158,3,[],9,nK⟩
def lG:List Sm:= [.ret (.call (.lit (.top 110)) [.bin .mul (.sub (.var 1) (.lit (.int 0))) (.sub (.var 2) (.lit (.int 0))),.bin .mul (.sub (.var 1) (.lit (.int 1))) (.sub (.var 2) (.lit (.int 1)))])]
def k0:Fn:=⟨159,3,[],9,lG⟩
def nH:List Sm:= [.ite (.cmp .ge (.sub (.var 1) (.lit (.int 0))) (.sub (.var 1) (.lit (.int 1)))) [.rse (.lit (.str [99,104,97,110,99,101,115,32,119,105,116,104,111,117,116,32,101,110,100]))] [],.ret (.call (.lit (.top 110)) [.sub (.var 1) (.lit (.int 1)),.bin .sub (.sub (.var 1) (.lit (.int 1))) (.sub (.var 1) (.lit (.int 0)))])]
def mR:Fn:=⟨160,2,[],8,nH⟩
def nJ:List Sm:= [.asgs [.nm 2,.nm 3,.nm 4] (.meth (.var 1) nq6 [.lit (.str [47])]),.ite (.bop true [.cmp .eq (.var 3) (.lit (.str [])),.cmp .eq (.call (.lit (.top 237)) [.var 4]) (.lit (.int 0))]) [.rse (.bin .add (.lit (.str [110,111,32,102,114,97,99,116,105,111,110,58,32])) (.slice (.var 1) 2 [.lit (.int 40)]))] [],.ret (.meth (.var 0) nq5 [.call (.lit (.top 110)) [.call (.lit (.top 237)) [.var 2],.call (.lit (.top 237)) [.var 4]]])]
def mS:Fn:=⟨243,2,[],11,nJ⟩
def nE:List Sm:= [.expr (.meth (.lit (.top 111)) nq5 [.var 0,.var 1]),.ite (.cmp .gt (.sub (.var 1) (.lit (.int 0))) (.sub (.var 1) (.lit (.int 1)))) [.rse (.bin .add (.lit (.str [110,111,32,119,101,105,103,104,116,32,111,102,32])) (.attr (.var 0) nq4))] [],.ret (.var 1)]
def mO:Fn:=⟨161,2,[],8,nE⟩
def nD:List Sm:= [.ite (.cmp .lt (.bin .mul (.sub (.var 1) (.lit (.int 0))) (.sub (.var 2) (.lit (.int 1)))) (.bin .mul (.sub (.var 2) (.lit (.int 0))) (.sub (.var 1) (.lit (.int 1))))) [.ret (.var 2)] [],.ret (.var 1)]
def mM:Fn:=⟨162,3,[],9,nD⟩
def nC:List Sm:= [.ret (.attr (.var 0) 7302757)]
def mL:Fn:=⟨163,2,[],8,nC⟩
def jI:List Sm:= [.asg (.nm 2) (.call (.lit (.top 109)) [.var 1,.var 0]),.ret (.tup [.bin .fdiv (.var 0) (.var 2),.bin .fdiv (.var 1) (.var 2)])]
def i8:Fn:=⟨110,2,[],9,jI⟩
def pF:List Sm:= [.fo [1] false (.lit (.fl [.top 112,.top 113,.top 114,.top 115,.top 116])) [.ite (.cmp .eq (.attr (.var 1) nq4) (.var 0)) [.ret (.var 1)] []],.raise]
def oQ:Fn:=⟨105,1,[],8,pF⟩
def u6:List Sm:= [.asg (.at (.var 0) nq7) (.var 1),.asg (.at (.var 0) nq8) (.var 2),.asg (.at (.var 0) nq9) (.var 3),.asg (.at (.var 0) qZ) (.var 4)]
def uP:Fn:=⟨166,5,[],11,u6⟩
def lH:List Sm:= [.ret (.bop false [.cmp .eq (.attr (.var 0) nq7) (.lit (.str [])),.cmp .eq (.attr (.var 0) nq8) (.lit (.str []))])]
def lA:Fn:=⟨165,1,[],7,lH⟩
def lF:List Sm:= [.asg (.at (.var 0) dB) (.var 1),.asg (.at (.var 0) gE) (.list []),.asg (.at (.var 0) tG) (.list []),.asg (.at (.var 0) wH) (.lit (.int 0)),.asg (.at (.var 0) zaB) (.attr (.var 1) 7302757),.asg (.at (.var 0) zaA) (.lit (.int 0))]
def kZ:Fn:=⟨177,2,[],8,lF⟩
def eV:List Sm:= [.ite (.cmp .gt (.bin .add (.call (.lit (.bi 7103854)) [.attr (.var 0) gE]) (.var 1)) (.lit (.int 20000))) [.rse (.lit (.str [116,111,111,32,109,97,110,121,32,115,116,97,116,101,115]))] []]
def eQ:Fn:=⟨167,2,[],8,eV⟩
def j8:List Sm:= [.expr (.meth (.var 0) zhf [.lit (.int 1)]),.expr (.meth (.attr (.var 0) gE) l6 [.list []]),.expr (.meth (.attr (.var 0) tG) l6 [.attr (.attr (.var 0) dB) dH]),.ret (.bin .sub (.call (.lit (.bi 7103854)) [.attr (.var 0) gE]) (.lit (.int 1)))]
def jV:Fn:=⟨168,1,[],7,j8⟩
def eU:List Sm:= [.ret (.call (.lit (.top 117)) [.var 1,.lit (.int 0),.bin .sub (.call (.lit (.bi 7103854)) [.attr (.var 0) gE]) (.lit (.int 1)),.lit (.str [115,116,97,116,101])])]
def eP:Fn:=⟨170,2,[],8,eU⟩
def nB:List Sm:= [.expr (.meth (.var 0) wG [.var 1]),.expr (.meth (.var 0) wG [.var 5]),.expr (.call (.lit (.top 119)) [.var 2]),.expr (.call (.lit (.top 119)) [.var 3]),.expr (.meth (.attr (.var 0) dB) nq5 [.var 4]),.ite (.cmp .eq (.var 4) (.attr (.attr (.var 0) dB) dH)) [.ret (.lit .none)] [],.ite (.cmp .ge (.attr (.var 0) zaA) (.lit (.int 200000))) [.rse (.lit (.str [116,111,111,32,109,97,110,121,32,97,114,99,115]))] [],.asg (.at (.var 0) zaA) (.bin .add (.attr (.var 0) zaA) (.lit (.int 1))),.expr (.meth (.sub (.attr (.var 0) gE) (.var 1)) l6 [.call (.lit (.top 118)) [.var 2,.var 3,.var 4,.var 5]])]
def mK:Fn:=⟨171,6,[],12,nB⟩
def j9:List Sm:= [.expr (.meth (.var 0) wG [.var 1]),.expr (.meth (.var 0) wG [.var 5]),.expr (.meth (.attr (.var 0) dB) nq5 [.var 4]),.expr (.call (.lit (.top 134)) [.var 2]),.expr (.call (.lit (.top 134)) [.var 3]),.asg (.nm 6) (.call (.lit (.bi 7168376)) [.call (.lit (.bi 7103854)) [.var 2],.call (.lit (.bi 7103854)) [.var 3],.lit (.int 1)]),.expr (.meth (.var 0) zhf [.bin .sub (.var 6) (.lit (.int 1))]),.ite (.cmp .gt (.bin .add (.attr (.var 0) zaA) (.var 6)) (.lit (.int 200000))) [.rse (.lit (.str [116,111,111,32,109,97,110,121,32,97,114,99,115]))] [],.asg (.nm 7) (.var 1),.fo [8] false (.call (.lit (.ty nq1)) [.var 6]) [.asg (.nm 9) (.ite (.cmp .eq (.var 8) (.bin .sub (.var 6) (.lit (.int 1)))) (.var 5) (.meth (.var 0) wF [])),.expr (.meth (.var 0) 6386275 [.var 7,.slice (.var 2) 3 [.var 8,.bin .add (.var 8) (.lit (.int 1))],.slice (.var 3) 3 [.var 8,.bin .add (.var 8) (.lit (.int 1))],.ite (.cmp .eq (.var 8) (.lit (.int 0))) (.var 4) (.attr (.attr (.var 0) dB) 7302757),.var 9]),.asg (.nm 7) (.var 9)]]
def jW:Fn:=⟨191,6,[],16,j9⟩
def kA:List Sm:= [.expr (.meth (.var 0) wG [.var 1]),.asg (.at (.var 0) zaB) (.ite (.cmp .is (.var 2) (.lit (.top 120))) (.attr (.attr (.var 0) dB) 7302757) (.meth (.attr (.var 0) dB) nq5 [.var 2])),.asg (.at (.var 0) wH) (.var 1)]
def fn_Machine_begin:Fn:=⟨172,3,[(Val.top 120)],9,kA⟩
def nA:List Sm:= [.expr (.meth (.var 0) wG [.var 1]),.asg (.sb (.attr (.var 0) tG) (.var 1)) (.ite (.cmp .is (.var 2) (.lit (.top 120))) (.attr (.attr (.var 0) dB) 7302757) (.meth (.attr (.var 0) dB) nq5 [.var 2]))]
def fn_Machine_end:Fn:=⟨173,3,[(Val.top 120)],9,nA⟩
def lE:List Sm:= [.ret (.call (.lit (.bi 7103854)) [.attr (.var 0) gE])]
def kY:Fn:=⟨174,1,[],7,lE⟩
def fY:List Sm:= [.fo [1] false (.attr (.var 0) gE) [.fo [2] false (.var 1) [.ite (.meth (.var 2) zeH []) [.ret (.lit (.bool true))] []]],.ret (.lit (.bool false))]
def fO:Fn:=⟨175,1,[],9,fY⟩
def lC:List Sm:= [.ite (.cmp .eq (.meth (.var 0) kQ []) (.lit (.int 0))) [.rse (.lit (.str [97,32,109,97,99,104,105,110,101,32,119,105,116,104,111,117,116,32,115,116,97,116,101,115]))] [],.asg (.nm 1) (.call (.lit (.top 124)) [.var 0,.list [.attr (.var 0) wH],.call (.lit (.top 125)) [.var 0]]),.asg (.nm 3) (.comp (.var 9) [9] false (.call (.lit (.ty nq1)) [.meth (.var 0) kQ []]) [.cmp .ne (.sub (.attr (.var 0) tG) (.var 9)) (.attr (.attr (.var 0) dB) dH)]),.asg (.nm 4) (.call (.lit (.top 124)) [.var 0,.var 3,.call (.lit (.top 123)) [.var 0]]),.asg (.nm 5) (.comp (.var 9) [9] false (.call (.lit (.ty nq1)) [.meth (.var 0) kQ []]) [.bop false [.sub (.var 1) (.var 9),.sub (.var 4) (.var 9)]]),.asg (.nm 6) (.call (.lit (.top 121)) [.attr (.var 0) dB]),.ite (.bop true [.cmp .notin (.attr (.var 0) wH) (.var 5),.cmp .eq (.attr (.var 0) zaB) (.attr (.attr (.var 0) dB) dH)]) [.expr (.meth (.var 6) wF []),.ret (.var 6)] [],.asg (.nm 7) (.dict []),.fo [2] false (.var 5) [.asg (.sb (.var 7) (.var 2)) (.meth (.var 6) wF [])],.fo [2] false (.var 5) [.fo [8] false (.sub (.attr (.var 0) gE) (.var 2)) [.ite (.cmp .isin (.attr (.var 8) qZ) (.var 7)) [.expr (.meth (.var 6) 6386275 [.sub (.var 7) (.var 2),.attr (.var 8) nq7,.attr (.var 8) nq8,.attr (.var 8) nq9,.sub (.var 7) (.attr (.var 8) qZ)])] []],.asg (.sb (.attr (.var 6) tG) (.sub (.var 7) (.var 2))) (.sub (.attr (.var 0) tG) (.var 2))],.expr (.meth (.var 6) 422608071022 [.sub (.var 7) (.attr (.var 0) wH),.attr (.var 0) zaB]),.ret (.var 6)]
def kW:Fn:=⟨133,1,[],15,lC⟩
def iE:List Sm:= [.ret (.comp (.comp (.attr (.var 2) qZ) [2] false (.var 1) []) [1] false (.attr (.var 0) gE) [])]
def hM:Fn:=⟨125,1,[],7,iE⟩
def fV:List Sm:= [.asg (.nm 1) (.comp (.list []) [4] false (.attr (.var 0) gE) []),.fo [2] false (.call (.lit (.ty nq1)) [.meth (.var 0) kQ []]) [.fo [3] false (.sub (.attr (.var 0) gE) (.var 2)) [.expr (.meth (.sub (.var 1) (.attr (.var 3) qZ)) l6 [.var 2])]],.ret (.var 1)]
def fL:Fn:=⟨123,1,[],10,fV⟩
def lD:List Sm:= [.asg (.nm 3) (.bin .mul (.list [.lit (.bool false)]) (.meth (.var 0) kQ [])),.asg (.nm 4) (.call (.lit (.ty nq2)) [.var 1]),.fo [5] false (.var 4) [.asg (.sb (.var 3) (.var 5)) (.lit (.bool true))],.wh (.cmp .gt (.call (.lit (.bi 7103854)) [.var 4]) (.lit (.int 0))) [.asg (.nm 5) (.meth (.var 4) 7368560 []),.fo [6] false (.sub (.var 2) (.var 5)) [.ite (.not (.sub (.var 3) (.var 6))) [.asg (.sb (.var 3) (.var 6)) (.lit (.bool true)),.expr (.meth (.var 4) l6 [.var 6])] []]],.ret (.var 3)]
def kX:Fn:=⟨124,3,[],13,lD⟩
def r5:List Sm:= [.ite (.bop true [.cmp .eq (.call (.lit (.bi 7103854)) [.var 1]) (.lit (.int 0)),.cmp .gt (.call (.lit (.bi 7103854)) [.comp (.var 8) [8] false (.var 1) [.cmp .ne (.call (.lit (.bi 7103854)) [.var 8]) (.lit (.int 2))]]) (.lit (.int 0))]) [.rse (.lit (.str [97,32,114,117,108,101,32,119,105,116,104,111,117,116,32,112,97,105,114,115]))] [],.fo [5,6] true (.var 1) [.expr (.call (.lit (.top 134)) [.var 5]),.expr (.call (.lit (.top 134)) [.var 6]),.ite (.cmp .eq (.var 5) (.lit (.str []))) [.rse (.lit (.str [97,32,114,117,108,101,32,116,104,97,116,32,114,101,119,114,105,116,101,115,32,110,111,116,104,105,110,103]))] []],.fo [7] false (.call (.lit (.ty nq1)) [.call (.lit (.bi 7103854)) [.var 2]]) [.expr (.call (.lit (.top 218)) [.sub (.var 2) (.var 7),.cmp .eq (.var 7) (.lit (.int 0))])],.fo [7] false (.call (.lit (.ty nq1)) [.call (.lit (.bi 7103854)) [.var 3]]) [.expr (.call (.lit (.top 218)) [.sub (.var 3) (.var 7),.cmp .eq (.var 7) (.bin .sub (.call (.lit (.bi 7103854)) [.var 3]) (.lit (.int 1)))])],.asg (.at (.var 0) zeG) (.comp (.tup [.var 8,.var 9]) [8,9] true (.var 1) []),.asg (.at (.var 0) zeF) (.call (.lit (.ty nq2)) [.var 2]),.asg (.at (.var 0) tF) (.call (.lit (.ty nq2)) [.var 3]),.asg (.at (.var 0) tE) (.var 4)]
def fn_Rule_init:Fn:=⟨236,5,[(Val.tup []),(Val.tup []),(Val.str [109,117,115,116])],14,r5⟩
def jJ:List Sm:= [.ite (.cmp .ne (.attr (.var 0) tE) (.lit (.str [109,117,115,116]))) [.expr (.meth (.var 1) nq5 [.attr (.var 0) tE])] []]
def i9:Fn:=⟨235,2,[],8,jJ⟩
def iD:List Sm:= [.ite (.bop false [.cmp .eq (.var 0) (.lit (.str [35])),.var 1]) [.ret (.lit .none)] [],.expr (.call (.lit (.top 219)) [.var 0]),.ite (.cmp .eq (.var 0) (.lit (.str []))) [.rse (.lit (.str [97,32,99,111,110,116,101,120,116,32,111,102,32,110,111,32,108,101,116,116,101,114,115]))] []]
def hK:Fn:=⟨218,2,[],8,iD⟩
def iB:List Sm:= [.asg (.nm 1) (.list []),.asg (.nm 2) (.lit (.int 0)),.wh (.cmp .lt (.var 2) (.call (.lit (.bi 7103854)) [.var 0])) [.ite (.cmp .eq (.sub (.var 0) (.var 2)) (.lit (.str [91]))) [.asg (.nm 3) (.meth (.var 0) 1718185572 [.lit (.str [93]),.var 2]),.ite (.cmp .lt (.var 3) (.lit (.int 0))) [.rse (.bin .add (.lit (.str [97,110,32,111,112,101,110,32,98,114,97,99,107,101,116,58,32])) (.call (.lit (.top 102)) [.var 0]))] [],.expr (.meth (.var 1) l6 [.slice (.var 0) 3 [.bin .add (.var 2) (.lit (.int 1)),.var 3]]),.asg (.nm 2) (.bin .add (.var 3) (.lit (.int 1)))] [.expr (.meth (.var 1) l6 [.sub (.var 0) (.var 2)]),.asg (.nm 2) (.bin .add (.var 2) (.lit (.int 1)))]],.ret (.var 1)]
def hJ:Fn:=⟨238,1,[],10,iB⟩
def iC:List Sm:= [.asg (.nm 2) (.lit (.str [109,117,115,116])),.asg (.nm 0) (.meth (.var 0) zhe []),.ite (.meth (.var 0) zpJ [.lit (.str [63])]) [.ite (.cmp .is (.var 1) (.lit .none)) [.rse (.lit (.str [97,32,99,111,115,116,32,119,105,116,104,111,117,116,32,97,32,115,101,109,105,114,105,110,103]))] [],.asgs [.nm 3,.nm 4,.nm 0] (.meth (.var 0) nq6 [.lit (.str [32])]),.asg (.nm 2) (.meth (.var 1) nq5 [.meth (.var 1) zaz [.slice (.var 3) 1 [.lit (.int 1)]]])] [],.asgs [.nm 5,.nm 6,.nm 7] (.meth (.var 0) nq6 [.lit (.str [47])]),.asg (.nm 8) (.list []),.fo [3] false (.meth (.var 5) 495807392116 []) [.asgs [.nm 9,.nm 10,.nm 11] (.meth (.var 3) nq6 [.lit (.str [62])]),.ite (.cmp .eq (.var 10) (.lit (.str []))) [.rse (.bin .add (.lit (.str [110,111,32,112,97,105,114,58,32])) (.call (.lit (.top 102)) [.var 3]))] [],.expr (.meth (.var 8) l6 [.tup [.var 9,.var 11]])],.asg (.nm 12) (.lit (.str [])),.asg (.nm 13) (.lit (.str [])),.ite (.cmp .ne (.var 6) (.lit (.str []))) [.asgs [.nm 12,.nm 14,.nm 13] (.meth (.var 7) nq6 [.lit (.str [95])]),.ite (.cmp .eq (.var 14) (.lit (.str []))) [.rse (.bin .add (.lit (.str [110,111,32,112,108,97,99,101,32,105,110,32,97,32,99,111,110,116,101,120,116,58,32])) (.call (.lit (.top 102)) [.var 7]))] [],.asg (.nm 12) (.meth (.var 12) zhe [.lit (.str [32])]),.asg (.nm 13) (.meth (.var 13) zhe [.lit (.str [32])])] [],.ret (.call (.lit (.top 229)) [.var 8,.call (.lit (.top 238)) [.var 12],.call (.lit (.top 238)) [.var 13],.var 2])]
def fn_rules_read_rule:Fn:=⟨239,2,[Val.none],21,iC⟩
def eS:List Sm:= [.asg (.nm 2) (.attr (.var 0) zeF),.ite (.bop false [.cmp .gt (.call (.lit (.bi 7103854)) [.var 2]) (.lit (.int 0)),.cmp .eq (.sub (.var 2) (.lit (.int 0))) (.lit (.str [35]))]) [.asg (.nm 2) (.slice (.var 2) 1 [.lit (.int 1)]),.ite (.cmp .ne (.call (.lit (.bi 7103854)) [.var 1]) (.call (.lit (.bi 7103854)) [.var 2])) [.ret (.lit (.bool false))] []] [],.ite (.cmp .lt (.call (.lit (.bi 7103854)) [.var 1]) (.call (.lit (.bi 7103854)) [.var 2])) [.ret (.lit (.bool false))] [],.fo [3] false (.call (.lit (.ty nq1)) [.call (.lit (.bi 7103854)) [.var 2]]) [.ite (.cmp .notin (.sub (.var 1) (.bin .add (.bin .sub (.call (.lit (.bi 7103854)) [.var 1]) (.call (.lit (.bi 7103854)) [.var 2])) (.var 3))) (.sub (.var 2) (.var 3))) [.ret (.lit (.bool false))] []],.ret (.lit (.bool true))]
def eN:Fn:=⟨222,2,[],10,eS⟩
def eB:List Sm:= [.fo [2] false (.call (.lit (.ty nq1)) [.call (.lit (.bi 7103854)) [.attr (.var 0) tF]]) [.ite (.cmp .eq (.sub (.attr (.var 0) tF) (.var 2)) (.lit (.str [35]))) [.ite (.cmp .ne (.call (.lit (.bi 7103854)) [.var 1]) (.var 2)) [.ret (.lit (.bool false))] []] [.ite (.bop true [.cmp .ge (.var 2) (.call (.lit (.bi 7103854)) [.var 1]),.cmp .notin (.sub (.var 1) (.var 2)) (.sub (.attr (.var 0) tF) (.var 2))]) [.ret (.lit (.bool false))] []]],.ret (.lit (.bool true))]
def d5:Fn:=⟨223,2,[],9,eB⟩
def fU:List Sm:= [.expr (.call (.lit (.top 134)) [.var 0]),.ite (.cmp .gt (.call (.lit (.bi 7103854)) [.var 0]) (.lit (.int 200))) [.rse (.lit (.str [97,32,119,111,114,100,32,116,111,111,32,108,111,110,103]))] []]
def fK:Fn:=⟨221,1,[],7,fU⟩
def j5:List Sm:= [.expr (.call (.lit (.top 221)) [.var 1]),.expr (.meth (.var 0) zhd [.var 2]),.asg (.nm 3) (.dict []),.expr (.call (.lit (.top 220)) [.var 0,.var 1,.var 2,.lit (.str []),.attr (.var 2) 7302757,.var 3,.list [.lit (.int 20000)]]),.ret (.var 3)]
def jR:Fn:=⟨224,3,[],10,j5⟩
def jG:List Sm:= [.asg (.sb (.var 6) (.lit (.int 0))) (.bin .sub (.sub (.var 6) (.lit (.int 0))) (.lit (.int 1))),.ite (.cmp .lt (.sub (.var 6) (.lit (.int 0))) (.lit (.int 0))) [.rse (.lit (.str [116,111,111,32,109,97,110,121,32,119,97,121,115,32,116,111,32,114,101,119,114,105,116,101,32,97,32,119,111,114,100]))] [],.wh (.cmp .ne (.var 1) (.lit (.str []))) [.asg (.nm 7) (.lit .none),.fo [8,9] true (.attr (.var 0) zeG) [.ite (.bop false [.meth (.var 1) zpJ [.var 8],.call (.lit (.top 222)) [.var 0,.var 3],.call (.lit (.top 223)) [.var 0,.slice (.var 1) 1 [.call (.lit (.bi 7103854)) [.var 8]]]]) [.asg (.nm 7) (.tup [.var 8,.var 9]),.brk] []],.ite (.cmp .isnot (.var 7) (.lit .none)) [.ite (.cmp .ne (.attr (.var 0) tE) (.lit (.str [109,117,115,116]))) [.expr (.call (.lit (.top 220)) [.var 0,.slice (.var 1) 1 [.lit (.int 1)],.var 2,.bin .add (.var 3) (.sub (.var 1) (.lit (.int 0))),.var 4,.var 5,.var 6]),.asg (.nm 4) (.meth (.var 2) kP [.var 4,.attr (.var 0) tE])] [],.asg (.nm 3) (.bin .add (.var 3) (.sub (.var 7) (.lit (.int 1)))),.asg (.nm 1) (.slice (.var 1) 1 [.call (.lit (.bi 7103854)) [.sub (.var 7) (.lit (.int 0))]])] [.asg (.nm 3) (.bin .add (.var 3) (.sub (.var 1) (.lit (.int 0)))),.asg (.nm 1) (.slice (.var 1) 1 [.lit (.int 1)])]],.asg (.nm 10) (.meth (.var 2) nq5 [.meth (.var 2) oG [.meth (.var 5) 6776180 [.var 3,.attr (.var 2) dH],.var 4]]),.ite (.cmp .ne (.var 10) (.attr (.var 2) dH)) [.asg (.sb (.var 5) (.var 3)) (.var 10)] []]
def i6:Fn:=⟨220,7,[],17,jG⟩
def j6:List Sm:= [.fo [4] false (.call (.lit (.ty nq1)) [.call (.lit (.bi 7103854)) [.var 1]]) [.ite (.cmp .ge (.var 4) (.call (.lit (.bi 7103854)) [.var 2])) [.ret (.ite (.var 3) (.lit (.int 0)) (.lit (.int 2)))] [],.ite (.cmp .ne (.sub (.var 2) (.var 4)) (.sub (.var 1) (.var 4))) [.ret (.lit (.int 0))] []],.fo [4] false (.call (.lit (.ty nq1)) [.call (.lit (.bi 7103854)) [.attr (.var 0) tF]]) [.asg (.nm 5) (.bin .add (.call (.lit (.bi 7103854)) [.var 1]) (.var 4)),.ite (.cmp .eq (.sub (.attr (.var 0) tF) (.var 4)) (.lit (.str [35]))) [.ite (.cmp .lt (.var 5) (.call (.lit (.bi 7103854)) [.var 2])) [.ret (.lit (.int 0))] [],.ret (.ite (.var 3) (.lit (.int 1)) (.lit (.int 2)))] [],.ite (.cmp .ge (.var 5) (.call (.lit (.bi 7103854)) [.var 2])) [.ret (.ite (.var 3) (.lit (.int 0)) (.lit (.int 2)))] [],.ite (.cmp .notin (.sub (.var 2) (.var 5)) (.sub (.attr (.var 0) tF) (.var 4))) [.ret (.lit (.int 0))] []],.ret (.lit (.int 1))]
def jS:Fn:=⟨225,4,[],12,j6⟩
def jH:List Sm:= [.ite (.call (.lit (.top 222)) [.var 0,.var 1]) [.fo [5,6] true (.attr (.var 0) zeG) [.asg (.nm 7) (.call (.lit (.top 225)) [.var 0,.var 5,.var 2,.var 3]),.ite (.cmp .eq (.var 7) (.lit (.int 2))) [.ret (.lit .none)] [],.ite (.cmp .eq (.var 7) (.lit (.int 1))) [.ite (.cmp .eq (.attr (.var 0) tE) (.lit (.str [109,117,115,116]))) [.ret (.list [.tup [.var 6,.call (.lit (.bi 7103854)) [.var 5],.attr (.var 4) 7302757]])] [],.ret (.list [.tup [.var 6,.call (.lit (.bi 7103854)) [.var 5],.attr (.var 0) tE],.tup [.sub (.var 2) (.lit (.int 0)),.lit (.int 1),.attr (.var 4) 7302757]])] []]] [],.ret (.list [.tup [.sub (.var 2) (.lit (.int 0)),.lit (.int 1),.attr (.var 4) 7302757]])]
def i7:Fn:=⟨226,5,[],14,jH⟩
def j7:List Sm:= [.asg (.nm 5) (.list []),.asg (.nm 6) (.list [.tup [.lit (.str []),.var 1,.var 2,.attr (.var 4) 7302757]]),.wh (.cmp .gt (.call (.lit (.bi 7103854)) [.var 6]) (.lit (.int 0))) [.asgs [.nm 7,.nm 1,.nm 2,.nm 8] (.meth (.var 6) 7368560 []),.asg (.nm 9) (.lit .none),.ite (.cmp .ne (.var 2) (.lit (.str []))) [.asg (.nm 9) (.call (.lit (.top 226)) [.var 0,.var 1,.var 2,.var 3,.var 4])] [],.ite (.cmp .is (.var 9) (.lit .none)) [.expr (.meth (.var 5) l6 [.tup [.var 7,.var 1,.var 2,.var 8]]),.cont] [],.fo [10,11,12] true (.var 9) [.expr (.meth (.var 6) l6 [.tup [.bin .add (.var 7) (.var 10),.call (.lit (.top 227)) [.var 0,.bin .add (.var 1) (.var 10)],.slice (.var 2) 1 [.var 11],.meth (.var 4) kP [.var 8,.var 12]]])]],.ret (.var 5)]
def jT:Fn:=⟨228,5,[],19,j7⟩
def m9:List Sm:= [.asg (.nm 2) (.call (.lit (.bi 7103854)) [.attr (.var 0) zeF]),.ret (.ite (.cmp .gt (.call (.lit (.bi 7103854)) [.var 1]) (.var 2)) (.slice (.var 1) 1 [.bin .sub (.call (.lit (.bi 7103854)) [.var 1]) (.var 2)]) (.var 1))]
def mJ:Fn:=⟨227,2,[],9,m9⟩
def eR:List Sm:= [.expr (.call (.lit (.top 219)) [.var 1]),.expr (.meth (.var 0) zhd [.var 2]),.asg (.nm 3) (.call (.lit (.top 121)) [.var 2]),.asg (.nm 4) (.dict [.tup [.lit (.str []),.lit (.str [])],.meth (.var 3) wF []]),.asg (.nm 5) (.list [.tup [.lit (.str []),.lit (.str [])]]),.asg (.nm 6) (.meth (.var 3) wF []),.expr (.meth (.var 3) 6647396 [.var 6]),.asg (.nm 7) (.lit (.int 0)),.wh (.cmp .lt (.var 7) (.call (.lit (.bi 7103854)) [.var 5])) [.asgs [.nm 8,.nm 9] (.sub (.var 5) (.var 7)),.asg (.nm 10) (.sub (.var 4) (.tup [.var 8,.var 9])),.fo [11] false (.var 1) [.fo [12,13,14,15] true (.call (.lit (.top 228)) [.var 0,.var 8,.bin .add (.var 9) (.var 11),.lit (.bool false),.var 2]) [.asg (.nm 16) (.tup [.var 13,.var 14]),.ite (.cmp .notin (.var 16) (.var 4)) [.asg (.sb (.var 4) (.var 16)) (.meth (.var 3) wF []),.expr (.meth (.var 5) l6 [.var 16])] [],.expr (.meth (.var 3) zhc [.var 10,.var 11,.var 12,.var 15,.sub (.var 4) (.var 16)])]],.fo [12,13,14,15] true (.call (.lit (.top 228)) [.var 0,.var 8,.var 9,.lit (.bool true),.var 2]) [.expr (.meth (.var 3) zhc [.var 10,.lit (.str []),.var 12,.var 15,.var 6])],.asg (.nm 7) (.bin .add (.var 7) (.lit (.int 1)))],.ret (.call (.lit (.top 133)) [.var 3])]
def eM:Fn:=⟨234,3,[],23,eR⟩
def m5:List Sm:= [.ite (.cmp .gt (.meth (.var 0) kQ []) (.lit (.int 2000))) [.rse (.lit (.str [116,111,111,32,109,97,110,121,32,115,116,97,116,101,115,32,102,111,114,32,97,32,116,97,98,108,101]))] [],.asg (.nm 2) (.comp (.dict []) [5] false (.attr (.var 0) gE) []),.fo [3] false (.call (.lit (.ty nq1)) [.meth (.var 0) kQ []]) [.fo [4] false (.sub (.attr (.var 0) gE) (.var 3)) [.ite (.bop true [.meth (.var 4) zeH [],.not (.var 1)]) [.expr (.call (.lit (.top 104)) [.attr (.var 0) dB,.sub (.var 2) (.var 3),.attr (.var 4) qZ,.attr (.var 4) nq9])] []]],.ret (.var 2)]
def mH:Fn:=⟨108,2,[],11,m5⟩
def rZ:List Sm:= [.ite (.cmp .ne (.var 3) (.attr (.var 0) dH)) [.asg (.sb (.var 1) (.var 2)) (.meth (.var 0) oG [.meth (.var 1) 6776180 [.var 2,.attr (.var 0) dH],.var 3])] []]
def rP:Fn:=⟨104,4,[],10,rZ⟩
def pC:List Sm:= [.asg (.nm 2) (.comp (.call (.lit (.ty 1684628340)) [.var 9]) [9] false (.var 1) []),.fo [3] false (.call (.lit (.ty nq1)) [.call (.lit (.bi 7103854)) [.var 2]]) [.asg (.nm 4) (.call (.lit (.ty 1684628340)) [.sub (.var 2) (.var 3)]),.ite (.cmp .eq (.call (.lit (.bi 7103854)) [.var 4]) (.lit (.int 0))) [.cont] [],.asg (.nm 5) (.meth (.var 0) zay [.meth (.var 4) 6776180 [.var 3,.attr (.var 0) dH]]),.fo [6] false (.call (.lit (.ty nq1)) [.call (.lit (.bi 7103854)) [.var 2]]) [.ite (.cmp .isin (.var 3) (.sub (.var 2) (.var 6))) [.asg (.nm 7) (.meth (.var 0) kP [.sub (.sub (.var 2) (.var 6)) (.var 3),.var 5]),.fo [8] false (.call (.lit (.bi nq3)) [.var 4]) [.expr (.call (.lit (.top 104)) [.var 0,.sub (.var 2) (.var 6),.var 8,.meth (.var 0) kP [.var 7,.sub (.var 4) (.var 8)]])]] []]],.fo [3] false (.call (.lit (.ty nq1)) [.call (.lit (.bi 7103854)) [.var 2]]) [.expr (.call (.lit (.top 104)) [.var 0,.sub (.var 2) (.var 3),.var 3,.attr (.var 0) 7302757])],.ret (.var 2)]
def oM:Fn:=⟨107,2,[],15,pC⟩
def hZ:List Sm:= [.asg (.nm 3) (.bin .mul (.list [.attr (.var 0) dH]) (.call (.lit (.bi 7103854)) [.var 1])),.fo [4] false (.call (.lit (.ty nq1)) [.call (.lit (.bi 7103854)) [.var 1]]) [.ite (.cmp .ne (.sub (.var 1) (.var 4)) (.attr (.var 0) dH)) [.fo [5] false (.call (.lit (.bi nq3)) [.sub (.var 2) (.var 4)]) [.asg (.sb (.var 3) (.var 5)) (.meth (.var 0) oG [.sub (.var 3) (.var 5),.meth (.var 0) kP [.sub (.var 1) (.var 4),.sub (.sub (.var 2) (.var 4)) (.var 5)]])]] []],.ret (.var 3)]
def hG:Fn:=⟨132,3,[],12,hZ⟩
def gM:List Sm:= [.ite (.not (.meth (.var 0) zpI [])) [.ret (.lit .none)] [],.ret (.call (.lit (.top 107)) [.attr (.var 0) dB,.call (.lit (.top 108)) [.var 0,.lit (.bool true)]])]
def gH:Fn:=⟨131,1,[],7,gM⟩
def iA:List Sm:= [.expr (.call (.lit (.top 134)) [.var 0]),.ite (.cmp .gt (.call (.lit (.bi 7103854)) [.var 0]) (.lit (.int 200))) [.rse (.lit (.str [97,32,119,111,114,100,32,116,111,111,32,108,111,110,103]))] []]
def hH:Fn:=⟨130,1,[],7,iA⟩
def pD:List Sm:= [.asg (.nm 1) (.bin .mul (.list [.attr (.attr (.var 0) dB) dH]) (.meth (.var 0) kQ [])),.asg (.sb (.var 1) (.attr (.var 0) wH)) (.attr (.var 0) zaB),.ret (.var 1)]
def oO:Fn:=⟨128,1,[],8,pD⟩
def u0:List Sm:= [.ite (.cmp .notin (.var 2) (.var 1)) [.asg (.sb (.var 1) (.var 2)) (.bin .mul (.list [.attr (.attr (.var 0) dB) dH]) (.meth (.var 0) kQ []))] [],.asg (.sb (.sub (.var 1) (.var 2)) (.var 3)) (.meth (.attr (.var 0) dB) oG [.sub (.sub (.var 1) (.var 2)) (.var 3),.var 4])]
def uK:Fn:=⟨126,5,[],11,u0⟩
def pE:List Sm:= [.asg (.nm 2) (.attr (.var 0) dB),.asg (.nm 3) (.attr (.var 2) dH),.ite (.cmp .isnot (.var 1) (.lit .none)) [.fo [4] false (.call (.lit (.ty nq1)) [.meth (.var 0) kQ []]) [.asg (.nm 3) (.meth (.var 2) oG [.var 3,.meth (.var 2) kP [.sub (.var 1) (.var 4),.sub (.attr (.var 0) tG) (.var 4)]])]] [],.ret (.meth (.var 2) nq5 [.var 3])]
def oP:Fn:=⟨127,2,[],11,pE⟩
def m7:List Sm:= [.expr (.call (.lit (.top 130)) [.var 1]),.expr (.call (.lit (.top 117)) [.var 2,.lit (.int 0),.lit (.int 200),.lit (.str [108,101,110,103,116,104])]),.asg (.nm 3) (.attr (.var 0) dB),.asg (.nm 0) (.call (.lit (.top 133)) [.var 0]),.asg (.nm 4) (.call (.lit (.top 131)) [.var 0]),.asg (.nm 5) (.dict [.lit (.str []),.call (.lit (.top 128)) [.var 0]]),.fo [6] false (.call (.lit (.ty nq1)) [.bin .add (.call (.lit (.bi 7103854)) [.var 1]) (.lit (.int 1))]) [.asg (.nm 7) (.dict []),.fo [8] false (.call (.lit (.ty nq1)) [.bin .add (.var 2) (.lit (.int 1))]) [.fo [9] false (.call (.lit (.bi nq3)) [.comp (.var 12) [12] false (.var 5) [.cmp .eq (.call (.lit (.bi 7103854)) [.var 12]) (.var 8)]]) [.ite (.cmp .isnot (.var 4) (.lit .none)) [.asg (.sb (.var 5) (.var 9)) (.call (.lit (.top 132)) [.var 3,.sub (.var 5) (.var 9),.var 4])] [],.expr (.call (.lit (.top 135)) [.var 0,.var 5,.var 7,.var 9,.slice (.var 1) 3 [.var 6,.bin .add (.var 6) (.lit (.int 1))],.var 2])]],.ite (.cmp .eq (.var 6) (.call (.lit (.bi 7103854)) [.var 1])) [.brk] [],.asg (.nm 5) (.var 7)],.asg (.nm 10) (.dict []),.fo [9] false (.call (.lit (.bi nq3)) [.var 5]) [.asg (.nm 11) (.call (.lit (.top 127)) [.var 0,.sub (.var 5) (.var 9)]),.ite (.cmp .ne (.var 11) (.attr (.var 3) dH)) [.asg (.sb (.var 10) (.var 9)) (.var 11)] []],.ret (.var 10)]
def fn_run_outputs:Fn:=⟨136,3,[(Val.int 40)],18,m7⟩
def m8:List Sm:= [.asg (.nm 6) (.attr (.var 0) dB),.asg (.nm 7) (.sub (.var 1) (.var 3)),.fo [8] false (.call (.lit (.ty nq1)) [.meth (.var 0) kQ []]) [.ite (.cmp .eq (.sub (.var 7) (.var 8)) (.attr (.var 6) dH)) [.cont] [],.fo [9] false (.sub (.attr (.var 0) gE) (.var 8)) [.ite (.bop true [.meth (.var 9) zeH [],.cmp .gt (.bin .add (.call (.lit (.bi 7103854)) [.var 3]) (.call (.lit (.bi 7103854)) [.attr (.var 9) nq8])) (.var 5)]) [.cont] [],.asg (.nm 10) (.meth (.var 6) kP [.sub (.var 7) (.var 8),.attr (.var 9) nq9]),.ite (.cmp .eq (.attr (.var 9) nq7) (.lit (.str []))) [.expr (.call (.lit (.top 126)) [.var 0,.var 1,.bin .add (.var 3) (.attr (.var 9) nq8),.attr (.var 9) qZ,.var 10])] [.ite (.cmp .eq (.attr (.var 9) nq7) (.var 4)) [.expr (.call (.lit (.top 126)) [.var 0,.var 2,.bin .add (.var 3) (.attr (.var 9) nq8),.attr (.var 9) qZ,.var 10])] []]]],.ite (.cmp .gt (.bin .add (.call (.lit (.bi 7103854)) [.var 1]) (.call (.lit (.bi 7103854)) [.var 2])) (.lit (.int 20000))) [.rse (.lit (.str [116,111,111,32,109,97,110,121,32,119,111,114,100,115]))] []]
def mI:Fn:=⟨135,6,[],17,m8⟩
def dP:List Sm:= [.ite (.cmp .lt (.var 1) (.call (.lit (.bi 7103854)) [.var 0])) [.ret (.sub (.var 0) (.var 1))] [],.ret (.lit (.int 0))]
def jU:Fn:=⟨137,2,[],8,dP⟩
def iF:List Sm:= [.asg (.nm 1) (.list [.tup [.lit (.str [97,62,98,32,47,32,35,95]),.lit (.str [97,97,98,97]),.lit (.str [98,97,98,97])],.tup [.lit (.str [97,62,98,32,47,32,95,35]),.lit (.str [97,97,98,97]),.lit (.str [97,97,98,98])],.tup [.lit (.str [97,62,32,47,32,95,98]),.lit (.str [97,97,98,97,98]),.lit (.str [97,98,98])],.tup [.lit (.str [97,62,97,98,32,47,32,95]),.lit (.str [97,98,97]),.lit (.str [97,98,98,97,98])],.tup [.lit (.str [97,62,98,32,47,32,98,95]),.lit (.str [98,97,97,97]),.lit (.str [98,98,98,98])],.tup [.lit (.str [97,62,98,32,47,32,95,97]),.lit (.str [97,97,97,97]),.lit (.str [98,98,98,97])],.tup [.lit (.str [97,97,62,99,32,97,62,98]),.lit (.str [97,97,97,97,98]),.lit (.str [99,99,98])],.tup [.lit (.str [97,62,98,32,97,97,62,99]),.lit (.str [97,97,97,98]),.lit (.str [98,98,98,98])],.tup [.lit (.str [97,98,62,98,97]),.lit (.str [97,97,98,98]),.lit (.str [97,98,97,98])],.tup [.lit (.str [99,62,97,32,47,32,91,97,98,93,95,91,97,98,93,35]),.lit (.str [97,99,98,99,97]),.lit (.str [97,99,98,97,97])]]),.asg (.nm 2) (.bin .mod (.call (.lit (.top 137)) [.var 0,.lit (.int 0)]) (.lit (.int 10))),.asgs [.nm 3,.nm 4,.nm 5] (.sub (.var 1) (.var 2)),.asg (.nm 6) (.call (.lit (.top 239)) [.var 3]),.asg (.nm 7) (.bin .add (.lit (.int 1)) (.bin .mod (.call (.lit (.top 137)) [.var 0,.lit (.int 1)]) (.lit (.int 3)))),.ite (.cmp .ne (.call (.lit (.top 224)) [.var 6,.var 4,.call (.lit (.top 105)) [.lit (.str [121,101,115])]]) (.dict [.var 5,.lit (.int 1)])) [.ret (.lit (.bool false))] [],.asg (.nm 8) (.call (.lit (.top 234)) [.var 6,.sub (.list [.lit (.str [97,98,99]),.lit (.str [99,98,97]),.lit (.str [97,98,99,100])]) (.bin .mod (.call (.lit (.top 137)) [.var 0,.lit (.int 2)]) (.lit (.int 3))),.call (.lit (.top 105)) [.lit (.str [121,101,115])]]),.ite (.cmp .ne (.call (.lit (.top 136)) [.var 8,.var 4]) (.dict [.var 5,.lit (.int 1)])) [.ret (.lit (.bool false))] [],.ret (.cmp .eq (.call (.lit (.top 136)) [.var 8,.bin .add (.bin .mul (.lit (.str [99])) (.var 7)) (.lit (.str [98]))]) (.call (.lit (.top 224)) [.var 6,.bin .add (.bin .mul (.lit (.str [99])) (.var 7)) (.lit (.str [98])),.call (.lit (.top 105)) [.lit (.str [121,101,115])]]))]
def hU:Fn:=⟨178,1,[],15,iF⟩
def P0:Prg:=⟨[gK,eO,fM,gJ,d6,fN,gI,uO,uN,rQ,uL,uM,oV,oU,mP,oS,oT,oZ,oY,mQ,oW,oX,oR,mU,mT,k0,mR,mS,mO,mM,mL,i8,oQ,uP,lA,kZ,eQ,jV,eP,mK,jW,fn_Machine_begin,fn_Machine_end,kY,fO,kW,hM,fL,kX,fn_Rule_init,i9,hK,hJ,fn_rules_read_rule,eN,d5,fK,jR,i6,jS,i7,jT,mJ,eM,mH,rP,oM,hG,gH,hH,oO,uK,oP,fn_run_outputs,mI,jU,hU],
 [⟨146,[(nq4,(.str [121,101,115])),(dH,(.int 0)),(7302757,(.int 1)),(nq5,(.top 142)),(oG,(.top 143)),(kP,(.top 144)),(zay,(.top 145)),(zaz,(.top 240))],Qv,[]⟩,
  ⟨151,[(nq4,(.str [108,101,97,115,116])),(dH,.none),(7302757,(.int 0)),(nq5,(.top 147)),(oG,(.top 148)),(kP,(.top 149)),(zay,(.top 150)),(zaz,(.top 241))],Qv,[]⟩,
  ⟨156,[(nq4,(.str [99,111,117,110,116])),(dH,(.int 0)),(7302757,(.int 1)),(nq5,(.top 152)),(oG,(.top 153)),(kP,(.top 154)),(zay,(.top 155)),(zaz,(.top 242))],Qv,[]⟩,
  ⟨111,[(nq4,(.str [99,104,97,110,99,101])),(dH,(.tup [.int 0,.int 1])),(7302757,(.tup [.int 1,.int 1])),(nq5,(.top 157)),(oG,(.top 158)),(kP,(.top 159)),(zay,(.top 160)),(zaz,(.top 243))],Qv,[]⟩,
  ⟨164,[(nq4,(.str [108,105,107,101,108,121])),(nq5,(.top 161)),(oG,(.top 162)),(zay,(.top 163)),(dH,(.tup [.int 0,.int 1])),(7302757,(.tup [.int 1,.int 1])),(kP,(.top 159)),(zaz,(.top 243))],Qv,[]⟩,
  ⟨118,[(zeH,(.top 165))],some 166,[nq7,nq8,nq9,qZ]⟩,
  ⟨121,[(zhf,(.top 167)),(wF,(.top 168)),(wG,(.top 170)),(6386275,(.top 171)),(zhc,(.top 191)),(422608071022,(.top 172)),(6647396,(.top 173)),(kQ,(.top 174)),(zpI,(.top 175))],some 177,[dB,gE,tG,wH,zaB,zaA]⟩,
  ⟨229,[(zhd,(.top 235))],some 236,[zeG,zeF,tF,tE]⟩],
 [(112,146),(113,151),(114,156),(115,111),(116,164)]⟩
def ad0:List (Nat×Addr):= [(100,31),(101,41),(102,83),(103,48),(104,807),(105,479),(107,812),(108,800),(109,335),(110,461),(111,410),(112,463),(113,465),(114,467),(115,469),(116,471),(117,76),(118,511),(119,55),(120,480),(121,637),(123,656),(124,663),(125,651),(126,847),(127,854),(128,840),(130,833),(131,826),(132,819),(133,646),(134,62),(135,867),(136,860),(137,874),(142,111),(143,118),(144,125),(145,132),(146,170),(147,188),(148,195),(149,202),(150,209),(151,247),(152,265),(153,272),(154,279),(155,286),(156,324),(157,351),(158,358),(159,365),(160,372),(161,428),(162,435),(163,442),(164,452),(165,501),(166,494),(167,536),(168,543),(169,548),(170,555),(171,562),(172,577),(173,585),(174,592),(175,606),(176,627),(177,529),(178,881),(187,620),(191,569),(192,90),(202,139),(203,146),(204,160),(205,216),(206,223),(207,237),(208,293),(209,300),(210,314),(211,379),(212,386),(213,400),(214,508),(215,634),(218,705),(219,69),(220,760),(221,746),(222,732),(223,739),(224,753),(225,767),(226,774),(227,788),(228,781),(229,694),(234,795),(235,685),(236,678),(237,97),(238,717),(239,725),(240,167),(241,244),(242,321),(243,407),(244,710),(245,691)]
def nm0:List PySem.Str:= [zp7,zaO,tV,zp6,xE,zaM,zeT,tU,zp5,zhy,zaL,zaP,zcB,zaQ,n46,n52,zaK,zaN,n50,n51,n53,n60,zht,c8,xA,tT,n55,zhG,l8,zcI,n54,zaR,l9]
def cfg (w:World) (so:Obj):Cfg:= {prog:=pw,w:=w,K:=(iN,so)::KK w.params,P:=P0,ad:=ad0}
section
variable (w:World) (so:Obj)
theorem zjc:P0.fns.map (zfx (cfg w so) gl0)=P0.fns.map λf=>some (f.np,f.ns,f.body):=by kernel_rfl
theorem zsI:P0.fns.all (Internal.fnB (cfg w so))=true:=by kernel_rfl
theorem zsH:gl0.all (glB (cfg w so))=true:=by kernel_rfl
theorem zsG:P0.insts.all (zc2 (cfg w so))=true:=by kernel_rfl
theorem zsK:P0.cls.all (clB (cfg w so) nm0)=true:=by kernel_rfl
theorem zsL:jM (cfg w so):=ziv (by kernel_rfl) (by kernel_rfl) (by kernel_rfl)
def aV:FuncData:=fnOf xE ze0 (fnB 31 7).1 (fnB 31 7).2.1 (fnB 31 7).2.2 (.ref 570) QN QN (QW bT 792) Qv (.ref 576) QN
theorem kC (S:Setting) (v0:Value) (v1:Value):peek (cfg w so).K S (bindArgs aV ⟨[v0,v1],[]⟩)=some ((aV.params.args.map (·.arg)).zip [v0,v1,(.ref 480)]):=by kernel_rfl
theorem kB (S:Setting) (v0:Value) (v1:Value) (v2:Value):peek (cfg w so).K S (bindArgs aV ⟨[v0,v1,v2],[]⟩)=some ((aV.params.args.map (·.arg)).zip [v0,v1,v2]):=by kernel_rfl
theorem kO (S:Setting): ∀ (vs:List Value),vs.length<=3->3-vs.length<=1->peek (cfg w so).K S (bindArgs aV ⟨vs,[]⟩)=some ((aV.params.args.map (·.arg)).zip (vs++ZY (1-(3-vs.length)) [(.ref 480)])):=λvs h1 h2=>match vs,h1,h2 with
 | [],_,h2=>absurd h2 (show ¬3-0<=1 by decide)
 | [_],_,h2=>absurd h2 (show ¬3-1<=1 by decide)
 | [v0,v1],_,_=>kC w so S v0 v1
 | [v0,v1,v2],_,_=>kB w so S v0 v1 v2
 |_::_::_::_::r,h1,_=>absurd h1 (show ¬r.length+4<=3 by omega)
theorem lB:g6 (cfg w so) fn_Machine_begin:=λh p e=>by
 rw [show uR (cfg w so) fn_Machine_begin=some ⟨577,zha w.params,aV⟩ from by kernel_rfl] at e;cases e;exact .inr ⟨h,[(.ref 480)],λw'=>eD (fB 5) w' _ _ (by kernel_rfl),λS vs h1 h2=>kO w so S vs h1 h2⟩
def a9:FuncData:=fnOf tU zeZ (fnB 31 8).1 (fnB 31 8).2.1 (fnB 31 8).2.2 (.ref 578) QN QN (QW bT 792) Qv (.ref 584) QN
theorem nR (S:Setting) (v0:Value) (v1:Value):peek (cfg w so).K S (bindArgs a9 ⟨[v0,v1],[]⟩)=some ((a9.params.args.map (·.arg)).zip [v0,v1,(.ref 480)]):=by kernel_rfl
theorem nQ (S:Setting) (v0:Value) (v1:Value) (v2:Value):peek (cfg w so).K S (bindArgs a9 ⟨[v0,v1,v2],[]⟩)=some ((a9.params.args.map (·.arg)).zip [v0,v1,v2]):=by kernel_rfl
theorem oC (S:Setting): ∀ (vs:List Value),vs.length<=3->3-vs.length<=1->peek (cfg w so).K S (bindArgs a9 ⟨vs,[]⟩)=some ((a9.params.args.map (·.arg)).zip (vs++ZY (1-(3-vs.length)) [(.ref 480)])):=λvs h1 h2=>match vs,h1,h2 with
 | [],_,h2=>absurd h2 (show ¬3-0<=1 by decide)
 | [_],_,h2=>absurd h2 (show ¬3-1<=1 by decide)
 | [v0,v1],_,_=>nR w so S v0 v1
 | [v0,v1,v2],_,_=>nQ w so S v0 v1 v2
 |_::_::_::_::r,h1,_=>absurd h1 (show ¬r.length+4<=3 by omega)
theorem pB:g6 (cfg w so) fn_Machine_end:=λh p e=>by
 rw [show uR (cfg w so) fn_Machine_end=some ⟨585,zg9 w.params,a9⟩ from by kernel_rfl] at e;cases e;exact .inr ⟨h,[(.ref 480)],λw'=>eD (fB 5) w' _ _ (by kernel_rfl),λS vs h1 h2=>oC w so S vs h1 h2⟩
def aR:FuncData:=fnOf gF zeU (fnB 41 0).1 (fnB 41 0).2.1 (fnB 41 0).2.2 (.ref 673) QN QN (QW c7 1039) Qv (.ref 677) QN
theorem sD (S:Setting) (v0:Value) (v1:Value):peek (cfg w so).K S (bindArgs aR ⟨[v0,v1],[]⟩)=some ((aR.params.args.map (·.arg)).zip [v0,v1,(.ref 671),(.ref 672),(QW rE 1043)]):=by kernel_rfl
theorem sC (S:Setting) (v0:Value) (v1:Value) (v2:Value):peek (cfg w so).K S (bindArgs aR ⟨[v0,v1,v2],[]⟩)=some ((aR.params.args.map (·.arg)).zip [v0,v1,v2,(.ref 672),(QW rE 1043)]):=by kernel_rfl
theorem sA (S:Setting) (v0:Value) (v1:Value) (v2:Value) (v3:Value):peek (cfg w so).K S (bindArgs aR ⟨[v0,v1,v2,v3],[]⟩)=some ((aR.params.args.map (·.arg)).zip [v0,v1,v2,v3,(QW rE 1043)]):=by kernel_rfl
theorem r7 (S:Setting) (v0:Value) (v1:Value) (v2:Value) (v3:Value) (v4:Value):peek (cfg w so).K S (bindArgs aR ⟨[v0,v1,v2,v3,v4],[]⟩)=some ((aR.params.args.map (·.arg)).zip [v0,v1,v2,v3,v4]):=by kernel_rfl
theorem tB (S:Setting): ∀ (vs:List Value),vs.length<=5->5-vs.length<=3->peek (cfg w so).K S (bindArgs aR ⟨vs,[]⟩)=some ((aR.params.args.map (·.arg)).zip (vs++ZY (3-(5-vs.length)) [(.ref 671),(.ref 672),(QW rE 1043)])):=λvs h1 h2=>match vs,h1,h2 with
 | [],_,h2=>absurd h2 (show ¬5-0<=3 by decide)
 | [_],_,h2=>absurd h2 (show ¬5-1<=3 by decide)
 | [v0,v1],_,_=>sD w so S v0 v1
 | [v0,v1,v2],_,_=>sC w so S v0 v1 v2
 | [v0,v1,v2,v3],_,_=>sA w so S v0 v1 v2 v3
 | [v0,v1,v2,v3,v4],_,_=>r7 w so S v0 v1 v2 v3 v4
 |_::_::_::_::_::_::r,h1,_=>absurd h1 (show ¬r.length+6<=5 by omega)
theorem uU:g6 (cfg w so) fn_Rule_init:=λh p e=>by
 rw [show uR (cfg w so) fn_Rule_init=some ⟨678,zg8 w.params,aR⟩ from by kernel_rfl] at e;cases e;exact .inr ⟨h,[(.ref 671),(.ref 672),(QW rE 1043)],λw'=>eD (fB 5) w' _ _ (by kernel_rfl),λS vs h1 h2=>tB w so S vs h1 h2⟩
def aO:FuncData:=fnOf l7 l7 (fnA 45).1 (fnA 45).2.1 (fnA 45).2.2 (.ref 718) QN QN (QW c7 1039) Qv (.ref 724) QN
theorem iH (S:Setting) (v0:Value):peek (cfg w so).K S (bindArgs aO ⟨[v0],[]⟩)=some ((aO.params.args.map (·.arg)).zip [v0,QN]):=by kernel_rfl
theorem iG (S:Setting) (v0:Value) (v1:Value):peek (cfg w so).K S (bindArgs aO ⟨[v0,v1],[]⟩)=some ((aO.params.args.map (·.arg)).zip [v0,v1]):=by kernel_rfl
theorem iO (S:Setting): ∀ (vs:List Value),vs.length<=2->2-vs.length<=1->peek (cfg w so).K S (bindArgs aO ⟨vs,[]⟩)=some ((aO.params.args.map (·.arg)).zip (vs++ZY (1-(2-vs.length)) [QN])):=λvs h1 h2=>match vs,h1,h2 with
 | [],_,h2=>absurd h2 (show ¬2-0<=1 by decide)
 | [v0],_,_=>iH w so S v0
 | [v0,v1],_,_=>iG w so S v0 v1
 |_::_::_::r,h1,_=>absurd h1 (show ¬r.length+3<=2 by omega)
theorem jC:g6 (cfg w so) fn_rules_read_rule:=λh p e=>by
 rw [show uR (cfg w so) fn_rules_read_rule=some ⟨725,zg7 w.params,aO⟩ from by kernel_rfl] at e;cases e;exact .inr ⟨h,[QN],λw'=>eD (fB 5) w' _ _ (by kernel_rfl),λS vs h1 h2=>iO w so S vs h1 h2⟩
def a8:FuncData:=fnOf rD rD (fnA 75).1 (fnA 75).2.1 (fnA 75).2.2 (.ref 855) QN QN (QW tM 1320) Qv (.ref 859) QN
theorem nP (S:Setting) (v0:Value) (v1:Value):peek (cfg w so).K S (bindArgs a8 ⟨[v0,v1],[]⟩)=some ((a8.params.args.map (·.arg)).zip [v0,v1,(ZX 40 1364)]):=by kernel_rfl
theorem nO (S:Setting) (v0:Value) (v1:Value) (v2:Value):peek (cfg w so).K S (bindArgs a8 ⟨[v0,v1,v2],[]⟩)=some ((a8.params.args.map (·.arg)).zip [v0,v1,v2]):=by kernel_rfl
theorem oB (S:Setting): ∀ (vs:List Value),vs.length<=3->3-vs.length<=1->peek (cfg w so).K S (bindArgs a8 ⟨vs,[]⟩)=some ((a8.params.args.map (·.arg)).zip (vs++ZY (1-(3-vs.length)) [(ZX 40 1364)])):=λvs h1 h2=>match vs,h1,h2 with
 | [],_,h2=>absurd h2 (show ¬3-0<=1 by decide)
 | [_],_,h2=>absurd h2 (show ¬3-1<=1 by decide)
 | [v0,v1],_,_=>nP w so S v0 v1
 | [v0,v1,v2],_,_=>nO w so S v0 v1 v2
 |_::_::_::_::r,h1,_=>absurd h1 (show ¬r.length+4<=3 by omega)
theorem pA:g6 (cfg w so) fn_run_outputs:=λh p e=>by
 rw [show uR (cfg w so) fn_run_outputs=some ⟨860,zg6 w.params,a8⟩ from by kernel_rfl] at e;cases e;exact .inr ⟨h,[(ZX 40 1364)],λw'=>eD (fB 5) w' _ _ (by kernel_rfl),λS vs h1 h2=>oB w so S vs h1 h2⟩
def zdL:List Fn->Prop
 | []=>True
 |f::r=>g6 (cfg w so) f/\zdL r
theorem zdL.at: ∀ {l:List Fn},zdL w so l-> ∀f∈l,g6 (cfg w so) f:=by
 intro l
 induction l with
 |nil=>exact λ_ _ h=>absurd h QB
 |cons f l ih=>exact λh g hg=>(Qy.mp hg).elim (λe=>e▸h.1) λhg=>ih h.2 g hg
theorem aJ {α:Sort _}{a:α}{P:Prop} (h: ¬a=a):P:=absurd rfl h
theorem zsJ: ∀f∈P0.fns,g6 (cfg w so) f:=zdL.at w so (show zdL w so P0.fns from ⟨aJ,⟨aJ,⟨aJ,⟨aJ,⟨aJ,⟨aJ,⟨aJ,⟨aJ,⟨aJ,⟨aJ,⟨aJ,⟨aJ,⟨aJ,⟨aJ,⟨aJ,⟨aJ,⟨aJ,⟨aJ,⟨aJ,⟨aJ,⟨aJ,⟨aJ,⟨aJ,⟨aJ,⟨aJ,⟨aJ,⟨aJ,⟨aJ,⟨aJ,⟨aJ,⟨aJ,⟨aJ,⟨aJ,⟨aJ,⟨aJ,⟨aJ,⟨aJ,⟨aJ,⟨aJ,⟨aJ,⟨aJ,⟨lB w so,⟨pB w so,⟨aJ,⟨aJ,⟨aJ,⟨aJ,⟨aJ,⟨aJ,⟨uU w so,⟨aJ,⟨aJ,⟨aJ,⟨jC w so,⟨aJ,⟨aJ,⟨aJ,⟨aJ,⟨aJ,⟨aJ,⟨aJ,⟨aJ,⟨aJ,⟨aJ,⟨aJ,⟨aJ,⟨aJ,⟨aJ,⟨aJ,⟨aJ,⟨aJ,⟨aJ,⟨aJ,⟨pA w so,⟨aJ,⟨aJ,⟨aJ,trivial⟩⟩⟩⟩⟩⟩⟩⟩⟩⟩⟩⟩⟩⟩⟩⟩⟩⟩⟩⟩⟩⟩⟩⟩⟩⟩⟩⟩⟩⟩⟩⟩⟩⟩⟩⟩⟩⟩⟩⟩⟩⟩⟩⟩⟩⟩⟩⟩⟩⟩⟩⟩⟩⟩⟩⟩⟩⟩⟩⟩⟩⟩⟩⟩⟩⟩⟩⟩⟩⟩⟩⟩⟩⟩⟩⟩⟩)
theorem tab:cA (cfg w so) gl0:=zgP (zjc w so) (zsI w so) (zsJ w so) (zsH w so) (zsG w so) (zsK w so) (zsL w so) (zsO _)
end
abbrev zqm:Nat:=178
abbrev zf8:Addr:=881
theorem zic (w:World):nsIn (KK w.params) mainGlobals (zaD)=some (some (.ref 881)):=by kernel_rfl
end Tactic
open Internal
namespace Tactic
open Internal
def cell (ns:List Int) (k:Nat):Int:=ns[k]?.getD 0
theorem zqg (z:Cx) (ns:List Int) (h:MH):gY z (.bi 7103854) [.fl (ns.map .int)] h=some (.int ns.length,h):=W.eq (qL (n:=ns.length) (by show some _=_;rw [Qz]) (two _ _))
theorem zfA {d:Nat} (hd:1<=d) {ns:List Int}{k:Nat}{i:Int} (hi:i=k) {h:MH}{Q:Val->MH->Prop} (q:Q (.int (cell ns k)) h):WF P0 d 137 [.fl (ns.map .int),.int i] h Q:=by
 subst hi;refine zso (K:=0) hd (some (.fl (ns.map .int))::some (.int k)::nn 6) dP (by kernel_rfl) λd' h'=>?_;by_cases hk:k<ns.length
 ·have e:cell ns k=ns[k]:=by unfold cell;rw [Qh hk];rfl
  exact run (.q (zqg (Cxd P0 d') ns)<| .c<| .t (decide_eq_true (J6.mpr hk))<| .v ((Wo.eq (zi6 (Q:=λa _=>a= .int (cell ns k)) (v:=.int (cell ns k)) (by rw [Jc,Qh hk,e];rfl) rfl):dG h (.fl (ns.map .int)) (.int k)=some (.int (cell ns k))))<| .z (q)) (by kernel_rfl)
 ·have e:cell ns k=0:=by
   unfold cell;rw [JQ (Jt hk)];rfl
  rw [e] at q;exact run (.q (zqg (Cxd P0 d') ns)<| .c<| .f (decide_eq_false (λh=>hk (J6.mp h)))<| .z (q)) (by kernel_rfl)
theorem v9 (x:Int) {m:Nat} (hm:0<m): ∃n:Nat,n<m/\Zm x m=n:=by
 have g1:=Int.fmod_nonneg_of_pos x (b:=m) (by lia);have g2:=Int.fmod_lt_of_pos x (b:=m) (by lia);exact ⟨(Zm x m).toNat,by lia,by lia⟩
def zG (d:Nat):Tr (Option Fn):=Nat.rec (motive:=λ_=>Tr (Option Fn)) .lf (λ_ t=> .nd none t t) d
def zig (fs:List Fn):Tr (Option Fn):=Qj (motive:=λ_=>Tr (Option Fn)) (zG 8) (λf _ t=>t.put f.addr (some f)) fs
theorem zdb (d:Nat): ∀ {a:Nat}{x:Option Fn},(zG d).get a=some x->x=none:=by
 induction d with
 |zero=>intro a x e;cases e
 |succ d ih=>
  intro a x e;cases a with
  |zero=>cases e;rfl
  |succ m=>
   have e:(Bool.rec (motive:=λ_=>Option (Option Fn)) ((zG d).get (Nat.div m 2)) ((zG d).get (Nat.div m 2)) (Qq (Nat.mod m 2) 0))=some x:=e;cases q:Qq (Nat.mod m 2) 0<;>rw [q] at e<;>exact ih e
theorem zdg (fs:List Fn) {a:Nat}{f:Fn} (e:(zig fs).get a=some (some f)):fs.find? (λf=>f.addr==a)=some f:=by
 induction fs with
 |nil=>cases zdb 8 e
 |cons g fs ih=>
  rw [Jg];rcases iZ (zig fs) e with ⟨rfl,q⟩| ⟨q,e⟩
  ·rw [beq_self_eq_true];exact q.symm
  ·rw [beq_false_of_ne λe=>q e.symm];exact ih e
def zrw {α:Type} (l:List α) (p:α->Prop):Prop:=Qj (motive:=λ_=>Prop) True (λx _ ih=>p x/\ih) l
theorem a5 {α:Type}{fs:List (Nat×α)}{p:Nat×α->Prop} (h:zrw fs p) {n:Nat}{v:α} (e:fgt fs n=some v):p (n,v):=by
 induction fs with
 |nil=>cases e
 |cons q r ih=>
  obtain ⟨a,w⟩:=q;have e:Bool.rec (motive:=λ_=>Option α) (fgt r n) (some w) (Qq a n)=some v:=e;cases z:Qq a n with
  |true=>rw [z] at e;cases e;cases aK z;exact h.1
  |false=>rw [z] at e;exact ih h.2 e
theorem cU {l:List Nat}{p:Nat->Prop} (h:zrw l p) {n:Nat} (e:zeI l n=true):p n:=by
 induction l with
 |nil=>cases e
 |cons x r ih=>
  have e:Bool.rec (motive:=λ_=>Bool) (zeI r n) true (Qq n x)=true:=e;cases z:Qq n x with
  |true=>cases aK z;exact h.1
  |false=>rw [z] at e;exact ih h.2 e
theorem zqH: ∀ {l:List (Nat×CT)}{cs:List Cl}{a:Nat},l.map (·.1)=cs.map (·.addr) ->fgt l a=none->cs.find? (λx=>x.addr==a)=none:=by
 intro l
 induction l with
 |nil=>intro cs a e _;rw [Je.mp e.symm];rfl
 |cons p l ih=>
  intro cs a e h;cases cs with
  |nil=>cases e
  |cons c cs=>
   obtain ⟨b,k⟩:=p;obtain ⟨e1,e2⟩:=Q6.inj e;have h:Bool.rec (motive:=λ_=>Option CT) (fgt l a) (some k) (Qq b a)=none:=h;rw [Jg];cases z:Qq b a with
   |true=>rw [z] at h;cases h
   |false=>
    rw [z] at h;have e1:b=c.addr:=e1;rw [<-e1,<-c0,z];exact ih e2 h
def ctb146:CT:=⟨[(1851878757,.str [121,101,115]),(121424990136436,.int 0),(7302757,.int 1)],[(1852138852,142),(1886156147,143),(499984983411,144),(1937006962,145),(1919246692,240)],none,[]⟩
def ctb151:CT:=⟨[(1851878757,.str [108,101,97,115,116]),(121424990136436,.none),(7302757,.int 0)],[(1852138852,147),(1886156147,148),(499984983411,149),(1937006962,150),(1919246692,241)],none,[]⟩
def ctb156:CT:=⟨[(1851878757,.str [99,111,117,110,116]),(121424990136436,.int 0),(7302757,.int 1)],[(1852138852,152),(1886156147,153),(499984983411,154),(1937006962,155),(1919246692,242)],none,[]⟩
def ctb111:CT:=⟨[(1851878757,.str [99,104,97,110,99,101]),(121424990136436,.tup [(.int 0),(.int 1)]),(7302757,.tup [(.int 1),(.int 1)])],[(1852138852,157),(1886156147,158),(499984983411,159),(1937006962,160),(1919246692,243)],none,[]⟩
def ctb164:CT:=⟨[(1851878757,.str [108,105,107,101,108,121]),(121424990136436,.tup [(.int 0),(.int 1)]),(7302757,.tup [(.int 1),(.int 1)])],[(1852138852,161),(1886156147,162),(1937006962,163),(499984983411,159),(1919246692,243)],none,[]⟩
def ctb118:CT:=⟨[],[(7598521885536580729,165)],some 166,[504397587826,465726563698,131277443786868,127961880028532]⟩
def ctb121:CT:=⟨[],[(450661264077055929053037,167),(495873782885,168),(521330740336550618428517,170),(6386275,171),(426952976750,191),(422608071022,172),(6647396,173),(1936292453,174),(1925483444799026525305,175)],some 177,[1919512167,1634886515,1701733491,495873782388,439855772532,104880676367988]⟩
def ctb229:CT:=⟨[],[(2036448204439382094708,235)],some 236,[1919907699,1818584692,491394656372,1668248436]⟩
def PT0:PT:=⟨zig P0.fns,[(146,ctb146),(151,ctb151),(156,ctb156),(111,ctb111),(164,ctb164),(118,ctb118),(121,ctb121),(229,ctb229)],P0.insts⟩
theorem zqD:pP P0 146 ctb146:=⟨λn v e=>a5 (fs:=ctb146.ats) (p:=λp=>cC P0 146 p.1=some p.2) ⟨rfl,rfl,rfl,trivial⟩ e,λn v e=>a5 (fs:=ctb146.ms) (p:=λp=>bS P0 146 p.1=some p.2) ⟨rfl,rfl,rfl,rfl,rfl,trivial⟩ e,⟨_,rfl,rfl⟩,λn e=>cU (l:=ctb146.fl) (p:=λn=>P0.hasFld 146 n=true) trivial e⟩
theorem zqC:pP P0 151 ctb151:=⟨λn v e=>a5 (fs:=ctb151.ats) (p:=λp=>cC P0 151 p.1=some p.2) ⟨rfl,rfl,rfl,trivial⟩ e,λn v e=>a5 (fs:=ctb151.ms) (p:=λp=>bS P0 151 p.1=some p.2) ⟨rfl,rfl,rfl,rfl,rfl,trivial⟩ e,⟨_,rfl,rfl⟩,λn e=>cU (l:=ctb151.fl) (p:=λn=>P0.hasFld 151 n=true) trivial e⟩
theorem zqB:pP P0 156 ctb156:=⟨λn v e=>a5 (fs:=ctb156.ats) (p:=λp=>cC P0 156 p.1=some p.2) ⟨rfl,rfl,rfl,trivial⟩ e,λn v e=>a5 (fs:=ctb156.ms) (p:=λp=>bS P0 156 p.1=some p.2) ⟨rfl,rfl,rfl,rfl,rfl,trivial⟩ e,⟨_,rfl,rfl⟩,λn e=>cU (l:=ctb156.fl) (p:=λn=>P0.hasFld 156 n=true) trivial e⟩
theorem zqG:pP P0 111 ctb111:=⟨λn v e=>a5 (fs:=ctb111.ats) (p:=λp=>cC P0 111 p.1=some p.2) ⟨rfl,rfl,rfl,trivial⟩ e,λn v e=>a5 (fs:=ctb111.ms) (p:=λp=>bS P0 111 p.1=some p.2) ⟨rfl,rfl,rfl,rfl,rfl,trivial⟩ e,⟨_,rfl,rfl⟩,λn e=>cU (l:=ctb111.fl) (p:=λn=>P0.hasFld 111 n=true) trivial e⟩
theorem zqA:pP P0 164 ctb164:=⟨λn v e=>a5 (fs:=ctb164.ats) (p:=λp=>cC P0 164 p.1=some p.2) ⟨rfl,rfl,rfl,trivial⟩ e,λn v e=>a5 (fs:=ctb164.ms) (p:=λp=>bS P0 164 p.1=some p.2) ⟨rfl,rfl,rfl,rfl,rfl,trivial⟩ e,⟨_,rfl,rfl⟩,λn e=>cU (l:=ctb164.fl) (p:=λn=>P0.hasFld 164 n=true) trivial e⟩
theorem zqF:pP P0 118 ctb118:=⟨λn v e=>a5 (fs:=ctb118.ats) (p:=λp=>cC P0 118 p.1=some p.2) trivial e,λn v e=>a5 (fs:=ctb118.ms) (p:=λp=>bS P0 118 p.1=some p.2) ⟨rfl,trivial⟩ e,⟨_,rfl,rfl⟩,λn e=>cU (l:=ctb118.fl) (p:=λn=>P0.hasFld 118 n=true) ⟨rfl,rfl,rfl,rfl,trivial⟩ e⟩
theorem zqE:pP P0 121 ctb121:=⟨λn v e=>a5 (fs:=ctb121.ats) (p:=λp=>cC P0 121 p.1=some p.2) trivial e,λn v e=>a5 (fs:=ctb121.ms) (p:=λp=>bS P0 121 p.1=some p.2) ⟨rfl,rfl,rfl,rfl,rfl,rfl,rfl,rfl,rfl,trivial⟩ e,⟨_,rfl,rfl⟩,λn e=>cU (l:=ctb121.fl) (p:=λn=>P0.hasFld 121 n=true) ⟨rfl,rfl,rfl,rfl,rfl,rfl,trivial⟩ e⟩
theorem zqz:pP P0 229 ctb229:=⟨λn v e=>a5 (fs:=ctb229.ats) (p:=λp=>cC P0 229 p.1=some p.2) trivial e,λn v e=>a5 (fs:=ctb229.ms) (p:=λp=>bS P0 229 p.1=some p.2) ⟨rfl,trivial⟩ e,⟨_,rfl,rfl⟩,λn e=>cU (l:=ctb229.fl) (p:=λn=>P0.hasFld 229 n=true) ⟨rfl,rfl,rfl,rfl,trivial⟩ e⟩
theorem zjn:yF P0 PT0:=⟨λa f e=>zdg P0.fns e,rfl,λa k e=>a5 (fs:=PT0.cl) (p:=λp=>pP P0 p.1 p.2) ⟨zqD,zqC,zqB,zqG,zqA,zqF,zqE,zqz,trivial⟩ e,λa e=>zqH rfl e⟩
def zjm:List (List Nat×List Nat×List Nat):= [([97,62,98,32,47,32,35,95],[97,97,98,97],[98,97,98,97]),([97,62,98,32,47,32,95,35],[97,97,98,97],[97,97,98,98]),([97,62,32,47,32,95,98],[97,97,98,97,98],[97,98,98]),([97,62,97,98,32,47,32,95],[97,98,97],[97,98,98,97,98]),([97,62,98,32,47,32,98,95],[98,97,97,97],[98,98,98,98]),([97,62,98,32,47,32,95,97],[97,97,97,97],[98,98,98,97]),([97,97,62,99,32,97,62,98],[97,97,97,97,98],[99,99,98]),([97,62,98,32,97,97,62,99],[97,97,97,98],[98,98,98,98]),([97,98,62,98,97],[97,97,98,98],[97,98,97,98]),([99,62,97,32,47,32,91,97,98,93,95,91,97,98,93,35],[97,99,98,99,97],[97,99,98,97,97])]
def gT:List Val:=zjm.map λp=> .tup [.str p.1,.str p.2.1,.str p.2.2]
def vA:List (List Nat):= [[97,98,99],[99,98,97],[97,98,99,100]]
def row (k:Nat):List Nat×List Nat×List Nat:=(zjm[k]?).getD ([],[],[])
def als (a:Nat):List Nat:=(vA[a]?).getD []
def cf (f:Nat) (as:List Val) (H:TH):Re Val:=uW PT0 60 f as H
def goB {α:Type} (r:Re α) (k:α->TH->Bool):Bool:=Re.rec (motive:=λ_=>Bool) false k r
def yZ (H:TH) (x y:Val) (b:Bool):Bool:=Option.rec (motive:=λ_=>Bool) false (λc=>Bool.rec (motive:=λ_=>Bool) false b c) (eqT H x y)
def dct (u:List Nat):MObj:= .dict (some 1) [(.str u,.int 1)]
def wd (t:Nat):List Nat:=Nat.rec (motive:=λ_=>List Nat) [99,98] (λ_ ih=>99::ih) t
def zeA (r m:Val) (t:Nat) (H:TH):Bool:=goB (cf 136 [m,.str (wd t)] H) λx H=>goB (cf 224 [r,.str (wd t),.top 112] H) λy H=>yZ H x y true
def chk (t w u al:List Nat):Bool:=goB (cf 239 [.str t] ⟨.nd (.list gT) .lf .lf,1⟩) λr H=>goB (cf 224 [r,.str w,.top 112] H) λo H=>yZ (H.push (dct u)) o (.ref H.n)
 (goB (cf 234 [r,.str al,.top 112] ((H.push (dct u)).push (.list (vA.map .str)))) λm H=>goB (cf 136 [m,.str w] H) λx H=>yZ (H.push (dct u)) x (.ref H.n)
 (Bool.and (zeA r m 0 (H.push (dct u))) (Bool.and (zeA r m 1 (H.push (dct u))) (zeA r m 2 (H.push (dct u))))))
def bY (k a:Nat):Bool:=chk (row k).1 (row k).2.1 (row k).2.2 (als a)
def cN (f:Nat) (as:List Val) (h:MH):Option (Val×MH):=bC P0 200000 60 f as h
structure One (r m:Val) (t:Nat) (h:MH) (x y:Val) (h1 h2:MH):Prop where
 a:cN 136 [m,.str (wd t)] h=some (x,h1)
 b:cN 224 [r,.str (wd t),.top 112] h1=some (y,h2)
 c:veq h2 x y=some true
structure Two (t w u al:List Nat) (r o m x:Val) (h1 h2 h4 h5:MH):Prop where
 a:cN 239 [.str t] [.list gT]=some (r,h1)
 b:cN 224 [r,.str w,.top 112] h1=some (o,h2)
 c:veq (h2++ [dct u]) o (.ref h2.length)=some true
 d:cN 234 [r,.str al,.top 112] (h2++ [dct u]++ [.list (vA.map .str)])=some (m,h4)
 e:cN 136 [m,.str w] h4=some (x,h5)
 f:veq (h5++ [dct u]) x (.ref h5.length)=some true
 g: ∀s,s<3-> ∃y z h6 h7,One r m s (h5++ [dct u]) y z h6 h7
theorem qE {α:Type}{r:Re α}{k:α->TH->Bool} (e:goB r k=true): ∃a H,r= .ok a H/\k a H=true:=by
 cases r with
 |no=>cases e
 |ok a H=>exact ⟨a,H,rfl,e⟩
theorem qW {H:TH}{h:MH} (R:Rep P0 H h) {x y:Val}{b:Bool} (e:yZ H x y b=true):veq h x y=some true/\b=true:=by
 have e:Option.rec (motive:=λ_=>Bool) false (λc=>Bool.rec (motive:=λ_=>Bool) false b c) (eqT H x y)=true:=e;cases q:eqT H x y with
 |none=>rw [q] at e;cases e
 |some c=>
  rw [q] at e;cases c with
  |false=>cases e
  |true=>exact ⟨xU R x y _ q,e⟩
theorem za3 (Z:eE P0) {f:Nat}{as:List Val}{H G:TH}{h:MH}{v:Val} (R:Rep P0 H h) (e:cf f as H= .ok v G): ∃g,cN f as h=some (v,g)/\Rep P0 G g:=zdw zjn Z 60 f as R v G e
theorem wC (Z:eE P0) {r m:Val}{t:Nat}{H:TH}{h:MH} (R:Rep P0 H h) (e:zeA r m t H=true): ∃y z h6 h7,One r m t h y z h6 h7:=by
 obtain ⟨x,G,e1,e⟩:=qE e;obtain ⟨g,q1,R1⟩:=za3 Z R e1;obtain ⟨y,G2,e2,e⟩:=qE e;obtain ⟨g2,q2,R2⟩:=za3 Z R1 e2;exact ⟨x,y,g,g2,q1,q2,(qW R2 e).1⟩
theorem zrl (Z:eE P0) {t w u al:List Nat} (e:chk t w u al=true): ∃r o m x h1 h2 h4 h5,Two t w u al r o m x h1 h2 h4 h5:=by
 have R0:Rep P0 ⟨.nd (.list gT) .lf .lf,1⟩ [.list gT]:=(Rep.push (H:=⟨.lf,0⟩) (h:=[]) ⟨rfl,nofun,nofun⟩ (o:=.list gT) trivial);obtain ⟨r,G1,e1,e⟩:=qE e;obtain ⟨h1,q1,R1⟩:=za3 Z R0 e1;obtain ⟨o,G2,e2,e⟩:=qE e;obtain ⟨h2,q2,R2⟩:=za3 Z R1 e2;have R3:=R2.push (o:=dct u) trivial;obtain ⟨q3,e⟩:=qW R3 e;rw [R2.n] at q3;obtain ⟨m,G4,e4,e⟩:=qE e;obtain ⟨h4,q4,R4⟩:=za3 Z (R3.push (o:=.list (vA.map .str)) trivial) e4;obtain ⟨x,G5,e5,e⟩:=qE e;obtain ⟨h5,q5,R5⟩:=za3 Z R4 e5;have R6:=R5.push (o:=dct u) trivial;obtain ⟨q6,e⟩:=qW R6 e;rw [R5.n] at q6;obtain ⟨a,e⟩:=Qa.mp e;obtain ⟨b,c⟩:=Qa.mp e;refine ⟨r,o,m,x,h1,h2,h4,h5,q1,q2,q3,q4,q5,q6,λs hs=>?_⟩;rcases Zq (Jm hs) with hs|rfl
 ·rcases Zq (Jm hs) with hs|rfl
  ·cases Nat.lt_one_iff.mp hs
   exact wC Z R6 a
  ·exact wC Z R6 b
 ·exact wC Z R6 c
def ziK (n:Nat) (C:Nat->Prop):Prop:=Nat.rec (motive:=λ_=>Prop) True (λm ih=>C m/\ih) n
theorem dQ {C:Nat->Prop}{n:Nat} (h:ziK n C) {k:Nat} (hk:k<n):C k:=by
 induction n with
 |zero=>cases hk
 |succ n ih=>
  rcases Zq (Jm hk) with hk|rfl
  ·exact ih h.2 hk
  ·exact h.1
theorem zrk:bY 0 0=true:=by kernel_rfl
theorem zrj:bY 0 1=true:=by kernel_rfl
theorem zri:bY 0 2=true:=by kernel_rfl
theorem zrh:bY 1 0=true:=by kernel_rfl
theorem zrg:bY 1 1=true:=by kernel_rfl
theorem zrf:bY 1 2=true:=by kernel_rfl
theorem zre:bY 2 0=true:=by kernel_rfl
theorem zrd:bY 2 1=true:=by kernel_rfl
theorem zrc:bY 2 2=true:=by kernel_rfl
theorem zrb:bY 3 0=true:=by kernel_rfl
theorem zra:bY 3 1=true:=by kernel_rfl
theorem zq0:bY 3 2=true:=by kernel_rfl
theorem zqZ:bY 4 0=true:=by kernel_rfl
theorem zqY:bY 4 1=true:=by kernel_rfl
theorem zqX:bY 4 2=true:=by kernel_rfl
theorem zqW:bY 5 0=true:=by kernel_rfl
theorem zqV:bY 5 1=true:=by kernel_rfl
theorem zqU:bY 5 2=true:=by kernel_rfl
theorem zqT:bY 6 0=true:=by kernel_rfl
theorem zqS:bY 6 1=true:=by kernel_rfl
theorem zqR:bY 6 2=true:=by kernel_rfl
theorem zqQ:bY 7 0=true:=by kernel_rfl
theorem zqP:bY 7 1=true:=by kernel_rfl
theorem zqO:bY 7 2=true:=by kernel_rfl
theorem zqN:bY 8 0=true:=by kernel_rfl
theorem zqM:bY 8 1=true:=by kernel_rfl
theorem zqL:bY 8 2=true:=by kernel_rfl
theorem zqK:bY 9 0=true:=by kernel_rfl
theorem zqJ:bY 9 1=true:=by kernel_rfl
theorem zqI:bY 9 2=true:=by kernel_rfl
theorem ziu:ziK 10 λk=>ziK 3 λa=>bY k a=true:=⟨⟨zqI,zqJ,zqK,trivial⟩,⟨zqL,zqM,zqN,trivial⟩,⟨zqO,zqP,zqQ,trivial⟩,⟨zqR,zqS,zqT,trivial⟩,⟨zqU,zqV,zqW,trivial⟩,⟨zqX,zqY,zqZ,trivial⟩,⟨zq0,zra,zrb,trivial⟩,⟨zrc,zrd,zre,trivial⟩,⟨zrf,zrg,zrh,trivial⟩,⟨zri,zrj,zrk,trivial⟩,trivial⟩
theorem zie {a b r:Int} (e:Zm a b=r) (hb:b≠0) (h:MH):eJ .mod (.int a) (.int b) h=some (.int r,h):=W.eq (zgH hb ⟨by rw [e],rfl⟩)
theorem zda {d:Nat} (hd:1<=d) (ns:List Int) (k:Nat) (h:MH):gY (Cxd P0 d) (.top 137) [.fl (ns.map .int),.int k] h=some (.int (cell ns k),h):=fn rfl (zfA (d:=d) (k:=k) hd rfl ⟨rfl,rfl⟩)
theorem zc9 (h:MH):gY (Cxd P0 60) (.top 105) [.str [121,101,115]] h=some (.top 112,h):=by kernel_rfl
theorem cV {f:Nat}{as:List Val}{h g:MH}{v:Val} (hc:P0.clsAt f=none) (e:cN f as h=some (v,g)):gY (Cxd P0 60) (.top f) as h=some (v,g):=by
 show alt (Qc (motive:=λ_=>Option (Val×MH)) (P0.clsAt f) (cN f as h) λk=>tI (Cxd P0 60) f k as h) _=_;rw [hc,e];rfl
theorem zql {ns:List Int}{k a t:Nat}{r o m x y z:Val}{h1 h2 h4 h5 h6 h7:MH} (e0:Zm (cell ns 0) 10=(k:Nat)) (e1:Zm (cell ns 1) 3=(t:Nat)) (e2:Zm (cell ns 2) 3=(a:Nat))
  (hr:gT[k]?=some (.tup [.str (row k).1,.str (row k).2.1,.str (row k).2.2])) (ha:(vA.map Val.str)[a]?=some (.str (als a))) (hw: ∀h,eJ .mul (.str [99]) (.int (1+(t:Int))) h=some (.str (Qm (t+1) 99),h)) (hw2: ∀h,eJ .add (.str (Qm (t+1) 99)) (.str [98]) h=some (.str (wd t),h))
  (X:Two (row k).1 (row k).2.1 (row k).2.2 (als a) r o m x h1 h2 h4 h5) (Y:One r m t (h5++ [dct (row k).2.2]) y z h6 h7):WSs (Cxd P0 60) iF (some (.fl (ns.map .int))::nn 14) [] (Internal.Fin λv _=>v= .bool true):=by
 have A:=cV (f:=239) rfl X.a;have B:=cV (f:=224) rfl X.b;have D:=cV (f:=234) rfl X.d;have E:=cV (f:=136) rfl X.e;have F:=cV (f:=136) rfl Y.a;have G:=cV (f:=224) rfl Y.b;have s1:dG [.list gT] (.ref 0) (.int (k:Nat))=some (.tup [.str (row k).1,.str (row k).2.1,.str (row k).2.2]):=sl (vs:=gT) rfl hr;have s2:dG (h2++ [dct (row k).2.2]++ [.list (vA.map .str)]) (.ref (h2++ [dct (row k).2.2]).length) (.int (a:Nat))=some (.str (als a)):=sl i0 ha;have c3:jD .eq y z h7=some true:=Y.c;exact run (.at [.list gT] <| .q (zda (d:=60) (by decide) ns 0)<| .q (zie e0 (by decide))<| .v s1<| .c<| .p A<|
  .q (zda (d:=60) (by decide) ns 1)<| .q (zie e1 (by decide))<| .c<|
  .q zc9<| .p B<| .c<| .at (h2++ [dct (row k).2.2])<| .b (Internal.ne_of X.c)<| .c<|
  .at (h2++ [dct (row k).2.2]++ [.list (vA.map .str)])<| .q (zda (d:=60) (by decide) ns 2)<| .q (zie e2 (by decide))<| .v s2<| .q zc9<| .p D<|
  .p E<| .c<| .at (h5++ [dct (row k).2.2])<| .b (Internal.ne_of X.f)<| .c<|
  .q hw<| .q hw2<| .p F<| .q hw<| .q hw2<| .q zc9<| .p G<| .b c3<| .z (rfl:Val.bool true=Val.bool true)) (by kernel_rfl)
theorem zib (Z:eE P0) (ns:List Int):WF P0 61 178 [.fl (ns.map .int)] [] λv _=>v= .bool true:=by
 refine yM (d:=60) (fn:=hU) rfl rfl ?_;show WSs (Cxd P0 60) iF (some (.fl (ns.map .int))::nn 14) _ _;obtain ⟨k,hk,ek⟩:=v9 (cell ns 0) (show 0<10 by decide);obtain ⟨t,ht,et⟩:=v9 (cell ns 1) (show 0<3 by decide);obtain ⟨a,ha,ea⟩:=v9 (cell ns 2) (show 0<3 by decide);have c:=dQ (dQ ziu hk) ha;obtain ⟨r,o,m,x,h1,h2,h4,h5,X⟩:=zrl Z c;obtain ⟨y,z,h6,h7,Y⟩:=X.g t ht;have hr:=dQ (n:=10) (C:=λk=>gT[k]?=some (.tup [.str (row k).1,.str (row k).2.1,.str (row k).2.2])) ⟨by kernel_rfl,by kernel_rfl,by kernel_rfl,by kernel_rfl,by kernel_rfl,by kernel_rfl,by kernel_rfl,by kernel_rfl,by kernel_rfl,by kernel_rfl,trivial⟩ hk;have hl:=dQ (n:=3) (C:=λa=>(vA.map Val.str)[a]?=some (.str (als a))) ⟨by kernel_rfl,by kernel_rfl,by kernel_rfl,trivial⟩ ha;have hw:=dQ (n:=3) (C:=λt=> ∀h,eJ .mul (.str [99]) (.int (1+(t:Int))) h=some (.str (Qm (t+1) 99),h)) ⟨λ_=>by kernel_rfl,λ_=>by kernel_rfl,λ_=>by kernel_rfl,trivial⟩ ht;have hw2:=dQ (n:=3) (C:=λt=> ∀h,eJ .add (.str (Qm (t+1) 99)) (.str [98]) h=some (.str (wd t),h)) ⟨λ_=>by kernel_rfl,λ_=>by kernel_rfl,λ_=>by kernel_rfl,trivial⟩ ht;exact zql ek et ea hr hl hw hw2 X Y
theorem zb3 (Z:eE P0) (ns:List Int): ∃H',bC P0 200000 61 178 [Val.fl (ns.map Val.int)] []=some (Val.bool true,H'):=by
 obtain ⟨v,h,e,rfl⟩:=W.get (zib Z ns);exact ⟨h,e⟩
theorem zeu (ns:List Int): ∃H',bC P0 200000 61 178 [Val.fl (ns.map Val.int)] []=some (Val.bool true,H'):=zb3 (zef P0) ns
theorem zc1 {C:Cfg}{w:Wd}{vs:List Value}{ns:List Int} (h:IntsAre vs ns):aA C w (ns.map Val.int) vs:=by
 induction h with
 |nil=>exact .nil
 |cons n t _ ih=>exact .cons ⟨t,rfl⟩ ih
theorem fin_law {p:Program}{loose:List PySem.Str}{mean:ExcName->Option Value}{w:World}{s₀ s₁:Shared}{mg mb:PySem.Str->Option Value}{fa a:Addr}{vs:List Value}{ns:List Int}{R:WRecords}{as:List Addr} (KX:Frag.In (KK w.params) s₁.heap) (ZN:s₀.heap.objs.size=nat_lit 882)
  (T : Top p loose mean mg mb s₁.heap) (hmg : mg (Kf "law") = some (.ref fa)) (L : Laid R w s₀ s₁ [ofPy (J1 (J4 J0 ns))] [.ref a] as) (hL : s₁.heap.IsList a vs.toArray) (hI : IntsAre vs ns) (hlen : ¬ ((63 : Int) < (ns.length : Int))) (hg : s₁.gens = #[]) :
  wpAny (model pw w) callerA (call (.ref fa) [.ref a]) (λv s'=>GoodWG PySem.Challenge.rw_ui0508_20.row.claim (classAt s₀.heap) (ExcName.means s₀.heap) [ofPy (J1 (J4 J0 ns))] s₁ (.ok (.ret v)) s')
   (λe s'=>GoodWG PySem.Challenge.rw_ui0508_20.row.claim (classAt s₀.heap) (ExcName.means s₀.heap) [ofPy (J1 (J4 J0 ns))] s₁ (.error e) s') s₁:=by
 obtain ⟨hat,hsz⟩:=script_at L;rw [ZN] at hat hsz;subst hat;obtain ⟨so,h1,h2,n,h3⟩:=hL;have e:=mg_of KX T.g (zic w);have e' : mg (Kf "law") = some (.ref zf8) := e;rw [hmg] at e';cases e';have X:(cfg w so).K.In s₁.heap:=by
  intro b o hb;have hb':ZW b ((iN,so)::KK w.params)=some o:=hb;rw [QE] at hb'
  split at hb'
  ·rename_i q
   rw [beq_iff_eq] at q;cases hb';subst q;exact h1
  ·exact KX b o hb'
 have hv:aB (cfg w so) ⟨[],[]⟩ (Val.fl (ns.map Val.int)) (.ref iN):=by
  refine ⟨iN,so,n,vs,rfl,⟨?_,h2,h3⟩,zc1 hI,?_⟩
  ·show ZW iN ((iN,so)::KK w.params)=some so
   rw [QE,beq_self_eq_true]
  ·rw [Qz]
   have:lim=1000000:=rfl
   omega
 obtain ⟨H',hr⟩:=zeu ns;refine zcT (C:=cfg w so) (tab w so) X T (by rw [hsz];decide) (f:=zqm) (fa:=zf8) (by kernel_rfl) (λfn h=>by
  have e:P0.fnAt 178=some fn:=h;rw [show P0.fnAt 178=some hU from by kernel_rfl] at e;cases e;rfl) hv hr λw' v s' r hk hgs hos=>?_
 have r:v= .bool true:=r;subst r;exact GoodW.toG ⟨.inl ⟨.bool true,.bool true,[],rfl,λ_=>rfl,.bool true,by first|kernel_rfl|wrow_post,unshared_nil⟩,hk,hos,hgs.trans hg⟩
end Tactic
end
open PySem PySem.W PySem.W.X PySem.Calls PyProof.Rows
set_option maxHeartbeats 0 in
theorem PySem.Challenge.cw_ui0508_20_holds : PySem.Challenge.rw_ui0508_20.Holds := by
 w_on
 refine holds_law (by
  rw [PySem.W.Fast.te9446332074065402090]
  kernel_rfl) fun said=>?_
 refine holds_openX Tactic.left0 (XP:=XL (Tactic.qOf Tactic.pw) []) (fun s e=>xl_of s (Bool.and_eq_true_iff.mp e).1) XL.keeps (by rfl) (by rfl) (by rfl) (fun s e=>recFacts_of (Bool.and_eq_true_iff.mp e).2) (by rfl) (by assumption) (by decide+kernel) ⟨rfl,rfl,rfl,rfl,rfl,by decide+kernel⟩ ?hw ?hc
 case hw=>w_witness2
 clear said
 intro w s₀ s₁ mg mb G y fa o pm cd doc dV kV ho hd hcd hD hmg hg args vals as L hpre hlay hrd hwl hlo;have hf:=Tactic.facts1 y L.keeps
 clear y
 obtain ⟨KX,ZN,ZT⟩:=hf;refine Ground.open G ?_;intro T B D TE TW
 wrow_args hpre hlay hrd hwl hlo
 exact Tactic.fin_law KX ZN T hmg L (by assumption) (by assumption) (by assumption) hg
