import PyProof.Rows.All
import Wide.All
import OpenK.AllK
import Wide.FinOn
import PySem.Claim
import PySem.PyData
import PyProof.P3Statements
import PyProof.StrBlockL
import PyProof.Rows.StrNews2
import OpenK.KCell
import OpenK.KMeth
import PyProof.P3Eq
import PyProof.P3In
import PyProof.EqKinds
import PyProof.TupleKey
import PyProof.SetKind
import PyProof.Rows.RotEnd
import PyProof.Rows.ListMul
import PyProof.IsRules
import PyProof.Rows.TupDisplay
import PyProof.Rows.DictRows
import PyProof.DictStraight
import PyProof.DictIter
import KE.KEqDict
import PyProof.EnumMake
import PyProof.WalksMore
import PyProof.StrWalks
import PyProof.CompFree
import PyProof.Rows.StrNews
import PyProof.Rows.SeqSlice
import PyProof.SliceMore
import PyProof.Rows.StrTemp
import PyProof.StrLawsIdx
import PyProof.MaxThree
import PyProof.TypeOfCall
import PyProof.CallType
import PyProof.Rows.GenSrcRange
import OpenK.KRaise
import KE.KSorted
import KE.KDictOf
import KE.KIntText
import KE.KxPart
import KE.KPop
import PyProof.StrLawsAffix
import PyProof.SetRoads
import KE.KUnpack
import KE.KPar
import KE.KSort
import KE.KDictSum
import PySem.Challenge.RW_ui0508_13
set_option Elab.async false
set_option linter.all false
set_option autoImplicit false
set_option maxHeartbeats 8000000
set_option maxRecDepth 100000
set_option genInjectivity false
set_option genSizeOfSpec false
set_option genSizeOf false
open Nat renaming le_trans->Qa,le_add_right->Qf,lt_of_lt_of_le->Qi,le_refl->Qj,lt_of_le_of_lt->Qk,add_le_add_left->Ql,le_add_left->Qn,zero_le->Qs,le_of_eq->Qt,add_le_add->QA,le_of_lt->QC,lt_succ_self->QD,mul_le_mul_left->QH,lt_succ_of_le->QK,succ_le_of_lt->QM,le_of_lt_succ->QP,add_lt_add_left->QT,add_le_add_right->QV,ble_eq->QW,not_lt_zero->QX,le_of_not_lt->Q0,add_assoc->Q1,lt_irrefl->Q2,lt_succ_of_lt->Q4,not_lt_of_le->Q6,lt_trans->Q8,le_succ_of_le->Jd,lt_of_le_of_ne->Jh,succ_pos->Jo,succ_le_succ->Jq,ble->Jt,le_succ->Ju,zero_add->Jv,le_mul_of_pos_right->JC,lt_of_succ_le->JF,mul_le_mul_right->JG,ne_of_gt->JI,add_right_comm->JL,sub_lt_of_lt->JO,gcd->JU,one_mul->JV,exists_eq_add_of_le'->JX,succ->JZ,lt_add_of_pos_right->J0,add_comm->J6,lt_of_succ_lt_succ->J7,ne_of_lt->Zd,mul_succ->Ze,le_antisymm->Zx,sub_self->ZK,min_eq_left->ZL,not_lt->ZV,add_lt_add_of_le_of_lt->ZY,add_mul->ZZ,gcd_pos_of_pos_right->Z7,min_le_left->Z9,sub_le->Kb,lt_of_lt_of_eq->Kd,sub_add_cancel->Ke,le_of_succ_le_succ->Kh,le_of_succ_le->Ki,le_add_left_of_le->Km,min_eq_right->Kt,add_lt_add_right->KB,mul_pos->KC,not_succ_le_self->KF,mul_comm->KR,pos_of_ne_zero->KW,lt_or_eq_of_le->K3,div_eq_of_eq_mul_right->K4,le_of_mul_le_mul_right->K5,pow_add->Ya,sub_pos_of_lt->Yb,one_pos->Yd,succ_add_eq_add_succ->Ye,min_le_right->Yi,add_sub_cancel_left->Yn,sub_zero->Yr,eq_zero_of_le_zero->Yt,le_mul_of_pos_left->Yu,le_min_of_le_of_le->Yv,le_of_sub_eq_zero->Yy,le_sub_of_add_le'->Yz,ble_eq_true_of_le->YA,pow_lt_pow_right->YD,pow_le_pow_right->YE,add_add_add_comm->YI,sub_lt_sub_right->YJ,one_dvd->YK,add_left_cancel->YP,mul_assoc->YU,sub_lt->YZ,lt_of_succ_lt->Xf,lt_of_not_le->Xm,lt_add_right->Xo,le_zero->Xq,mul_ne_zero->Xt,pow_dvd_pow->Xu,cast->Xx,not_le->Xz,mul_le_mul->XA,sub_add_eq->XE,dvd_trans->XT,pow_succ->XX,log2_lt->X3,two_mul->Wb,mul_add->Wc,mul_one->We,pow_pos->Wf,pow_one->Wg,mod_lt->Wh,beq->Wi
open Bool renaming and_eq_true_iff->Qb,and_eq_true->Jz,and_eq_false_iff->JW,false_ne_true->Zn,eq_iff_iff->Zw,true_and->Z6,false_eq_true->Kc,false_and->Kj,or_eq_true->KI,and_true->Yf,noConfusion->Yl,and_false->YH,or_eq_true_iff->YO,false_or->YV,not_eq_true'->Xh,not_true->XJ
open List renaming getElem?_eq_getElem->Qc,mem_of_getElem?->Qd,length_map->Qe,getElem?_eq_some_iff->Qg,append_assoc->Qm,getElem?_map->Qo,not_mem_nil->Qq,mem_singleton->Qu,length_append->Qv,nodup_cons->Qw,map_append->Qy,map_cons->Qz,replicate->QB,mem_cons->QE,mem_map->QF,mem_append_right->QG,getElem?_set_self->QI,getElem?_set_ne->QJ,length_set->QL,range'->QO,take_length->QR,range->QS,mem_append->QU,length_range->QZ,length_replicate->Q5,append_nil->Q7,prefix_append->Q9,map_congr_left->Ja,all_eq_true->Jc,size_toArray->Je,lookup_cons->Jf,getElem_mem->Jg,getElem?_concat_length->Jk,eq_of_mem_replicate->Jm,getElem?_eq_none->Jp,mem_append_left->Jr,idxOf_lt_length_iff->Js,length_reverse->Jx,getElem?_range->Jy,length_cons->JA,length_eq_zero_iff->JB,take_succ->JD,drop_eq_getElem_cons->JH,getElem?_replicate->JJ,length->JK,getElem?_append_right->JM,length_take->JN,getElem?_append_left->JQ,map_map->JY,replicate_succ'->J4,perm_append_comm_assoc->J5,mem_range->J8,mem_or_eq_of_mem_set->J9,length_drop->Za,drop_length->Zc,mem_iff_getElem->Zf,nodup_append->Zg,reverse_cons->Zh,filterMap_cons->Zk,length_range'->Zo,contains_iff_mem->Zp,getElem?_toArray->Zq,concat_eq_append->Zr,take_append_drop->Zt,set_getElem_self->Zu,mem_of_find?_eq_some->Zv,foldl_cons->Zy,flatten_cons->ZA,foldl_append->ZC,take_succ_eq_append_getElem->ZD,any_eq_true->ZE,cons_append->ZG,casesOn->ZH,zip_cons_cons->ZJ,find?_some->ZM,range_succ->ZO,eq_nil_or_concat->ZP,set_append_right->ZQ,any_eq_false->ZS,ext_getElem?->ZU,mapM_cons->ZW,mem_of_mem_take->ZX,cons->Z0,getElem_inj->Z3,mem_flatten->Z4,flatten_append->Z5,sum_cons->Z8,find?_cons->Ka,drop_eq_nil_of_le->Kl,length_singleton->Ko,mem_iff_getElem?->Kq,prefix_refl->Kr,perm_middle->Ks,isEmpty_iff->Ku,drop_nil->Ky,map->KA,getElem?_of_mem->KD,forIn_cons->KG,dropLast_concat_getLast->KH,nil_append->KJ,sum_append->KL,mem_filter->KN,map_eq_nil_iff->KO,mergeSort_perm->KQ,map_replicate->KU,getElem_idxOf->KY,map_singleton->KZ,getElem?_eq_none_iff->K6,length_filterMap_le->Yg,nodup_range->Yo,length_nil->Yw,lookup->YC,getElem?_range'->YF,mem_cons_of_mem->YG,replicate_succ->YL,append_toArray->YM,flatten_concat->YR,length_pos_iff->YS,findIdx?_cons->Xa,range'_concat->Xb,rec->Xi,set_set->Xl,range'_succ->Xn,of_mem_zip->Xr,set->XC,findIdx?->XH,drop->Wl
open PySem.Value renaming type->Qh,builtin->Qp,isInt_shape->JT,isStrOf_shape->Zj,str->Zl,none->Kw,bool->Ys,casesOn->YT,isInt->XY,ref->Wj,int->Wk
open Option renaming casesOn->Qr,some->Qx,none->QY,map_eq_some_iff->Jj,isSome_iff_exists->Jl,isNone_iff_eq_none->JR,isSome_map->Kg,bind_some->Kv,map_some->KM,isSome_some->K1,isSome_none->K2,bind_eq_some_iff->Yh,map_none->Yx,map->Xw,elim->X4
open Array renaming mk->Q3,isEmpty_iff->K9
open Exists renaming elim->Ji
open PySem.W.SharedT renaming mk->Jn,abs->Wa
open Int renaming ofNat_lt->Jw,ofNat_eq_zero->Zi,natCast_nonneg->Zm,natCast_mul->Zz,toNat_natCast->ZR,fmod->Kz,not_lt->KV,ofNat->Ym,ofNat_le->Yp,fdiv->YB,toNat_of_nonneg->YQ,natAbs_eq_zero->YX,not_le->YY,lt_trans->Xe,natCast_add->Xs,toNat->XU
open Ne renaming symm->JE
open PySem.PyData renaming eqv->Zb,list->Kf,int->Kx,eqv->YW,int->Xp,keyHash->Xy,eqvAll->XG
open PySem.F renaming slot_dict_get->Zs,entry_dict_get->ZI,args_dict_get_2->Yj,args_dict_get_3->Yk
open PySem.Builtin.Range renaming rangeSize->ZF
open PySem.Heap renaming get?_update_self->Kn,lt_size->Xd
open PySem.Builtin.Str renaming strSliceIndices->KS
open Decidable renaming byContradiction->K7
open Eq renaming symm->K8
open PySem.Data renaming casesOn->Yq
open PySem.Builtin.Int renaming intBits->YN
open PySem.Str renaming ofString->Xc
open Prod renaming ext->Xj,mk->XW
open PySem.Txt renaming isspace->Xk
open PySem.Builtin.List renaming listSubscript?->Xv
open PySem.W.SL
section
open Lean in
local macro_rules (kind:=Lean.Parser.Command.declaration)
 |s=>match s.getHeadInfo with
  |.original .. =>pure (if s[0].getPos?.isNone&&(s[1].isOfKind `Lean.Parser.Command.definition||s[1].isOfKind `Lean.Parser.Command.abbrev) then s.setArg 0 (s[0].setArg 4 (mkNullNode #[.node .none `Lean.Parser.Command.noncomputable #[.atom .none "noncomputable"]])) else s.setHeadInfo .none)
  |_=>Macro.throwUnsupported
namespace Internal
open PySem
set_option genCtorIdx false in
inductive Val where
 |none
 |bool (b:Bool)
 |int (i:Int)
 |str (s:List Nat)
 |tup (vs:List Val)
 |ref (a:Nat)
 |top (a:Nat)
 |ty (n:Nat)
 |bi (n:Nat)
 |rng (n:Int)
 |fl (vs:List Val)
 |setn (n:Nat)
set_option genCtorIdx false in
inductive MObj where
 |list (vs:List Val)
 |dict (ep:Option Nat) (es:List (Val×Val))
 |inst (c:Nat) (fs:List (Nat×Val))
def Val.ctorIdx (x:Val):Nat:=Val.casesOn (motive_1:=λ_=>Nat) x 0 (λ_=>1) (λ_=>2) (λ_=>3) (λ_=>4) (λ_=>5) (λ_=>6) (λ_=>7) (λ_=>8) (λ_=>9) (λ_=>10) (λ_=>11)
def MObj.ctorIdx (x:MObj):Nat:=MObj.casesOn (motive:=λ_=>Nat) x (λ_=>0) (λ_ _=>1) (λ_ _=>2)
abbrev MH:=List MObj
abbrev Frame:=List (Option Val)
inductive BOp where
 |add|sub|mul|fdiv|mod|pow
inductive COp where
 |eq|ne|lt|le|gt|ge|isin|notin|is|isnot
set_option genCtorIdx false in
inductive Ex where
 |var (x:Nat)
 |lit (v:Val)
 |list (es:List Ex)
 |tup (es:List Ex)
 |dict (kvs:List Ex)
 |bin (op:BOp) (a b:Ex)
 |not (a:Ex)
 |cmp (op:COp) (a b:Ex)
 |bop (stop:Bool) (es:List Ex)
 |ite (c a b:Ex)
 |attr (e:Ex) (n:Nat)
 |sub (e i:Ex)
 |slice (e:Ex) (k:Nat) (bs:List Ex)
 |call (f:Ex) (as:List Ex)
 |meth (o:Ex) (n:Nat) (as:List Ex)
 |comp (elt:Ex) (tg:List Nat) (many:Bool) (it:Ex) (ifs:List Ex)
set_option genCtorIdx false in
inductive T1 where
 |nm (x:Nat)
 |at (o:Ex) (n:Nat)
 |sb (o i:Ex)
set_option genCtorIdx false in
inductive Sm where
 |expr (e:Ex)
 |asg (t:T1) (e:Ex)
 |asgs (ts:List T1) (e:Ex)
 |ret (e:Ex)
 |ite (c:Ex) (a b:List Sm)
 |wh (c:Ex) (b:List Sm)
 |fo (tg:List Nat) (many:Bool) (e:Ex) (b:List Sm)
 |brk|cont|pass
 |raise
 |rse (e:Ex)
 |tr (x:Nat) (e:Ex) (y:Nat) (v:Val)
set_option genCtorIdx false in
inductive Fl where
 |nx|bk|ct
 |rt (v:Val)
structure Fn where
 addr:Nat
 np:Nat
 dfl:List Val
 ns:Nat
 body:List Sm
structure Cl where
 addr:Nat
 attrs:List (Nat×Val)
 init:Option Nat
 flds:List Nat
structure Prg where
 fns:List Fn
 cls:List Cl
 insts:List (Nat×Nat)
def enc (x:Str):Nat:=x.cps.toList.foldl (λa c=>a*256+c) 0
def bnd {α β:Type} (o:Option (α×MH)) (f:α->MH->Option (β×MH)):Option (β×MH):=Qr (motive:=λ_=>Option (β×MH)) o none λp=>f p.1 p.2
def alt {α:Type} (a b:Option α):Option α:=Qr (motive:=λ_=>Option α) a b some
def grd {α:Type} (b:Bool) (o:Option α):Option α:=Bool.casesOn (motive:=λ_=>Option α) b none o
def Val.int? (x:Val):Option Int:=Val.casesOn (motive_1:=λ_=>Option Int) x .none (λ_=> .none) some (λ_=> .none) (λ_=> .none) (λ_=> .none) (λ_=> .none) (λ_=> .none) (λ_=> .none) (λ_=> .none) (λ_=> .none) (λ_=> .none)
def Val.str? (x:Val):Option (List Nat):=Val.casesOn (motive_1:=λ_=>Option (List Nat)) x .none (λ_=> .none) (λ_=> .none) some (λ_=> .none) (λ_=> .none) (λ_=> .none) (λ_=> .none) (λ_=> .none) (λ_=> .none) (λ_=> .none) (λ_=> .none)
def Val.tup? (x:Val):Option (List Val):=Val.casesOn (motive_1:=λ_=>Option (List Val)) x .none (λ_=> .none) (λ_=> .none) (λ_=> .none) some (λ_=> .none) (λ_=> .none) (λ_=> .none) (λ_=> .none) (λ_=> .none) (λ_=> .none) (λ_=> .none)
def Val.ref? (x:Val):Option Nat:=Val.casesOn (motive_1:=λ_=>Option Nat) x .none (λ_=> .none) (λ_=> .none) (λ_=> .none) (λ_=> .none) some (λ_=> .none) (λ_=> .none) (λ_=> .none) (λ_=> .none) (λ_=> .none) (λ_=> .none)
def Val.top? (x:Val):Option Nat:=Val.casesOn (motive_1:=λ_=>Option Nat) x .none (λ_=> .none) (λ_=> .none) (λ_=> .none) (λ_=> .none) (λ_=> .none) some (λ_=> .none) (λ_=> .none) (λ_=> .none) (λ_=> .none) (λ_=> .none)
def Val.ty? (x:Val):Option Nat:=Val.casesOn (motive_1:=λ_=>Option Nat) x .none (λ_=> .none) (λ_=> .none) (λ_=> .none) (λ_=> .none) (λ_=> .none) (λ_=> .none) some (λ_=> .none) (λ_=> .none) (λ_=> .none) (λ_=> .none)
def Val.bi? (x:Val):Option Nat:=Val.casesOn (motive_1:=λ_=>Option Nat) x .none (λ_=> .none) (λ_=> .none) (λ_=> .none) (λ_=> .none) (λ_=> .none) (λ_=> .none) (λ_=> .none) some (λ_=> .none) (λ_=> .none) (λ_=> .none)
def Val.fl? (x:Val):Option (List Val):=Val.casesOn (motive_1:=λ_=>Option (List Val)) x .none (λ_=> .none) (λ_=> .none) (λ_=> .none) (λ_=> .none) (λ_=> .none) (λ_=> .none) (λ_=> .none) (λ_=> .none) (λ_=> .none) some (λ_=> .none)
def Val.bool? (x:Val):Option Bool:=Val.casesOn (motive_1:=λ_=>Option Bool) x .none some (λ_=> .none) (λ_=> .none) (λ_=> .none) (λ_=> .none) (λ_=> .none) (λ_=> .none) (λ_=> .none) (λ_=> .none) (λ_=> .none) (λ_=> .none)
def Val.rng? (x:Val):Option Int:=Val.casesOn (motive_1:=λ_=>Option Int) x .none (λ_=> .none) (λ_=> .none) (λ_=> .none) (λ_=> .none) (λ_=> .none) (λ_=> .none) (λ_=> .none) (λ_=> .none) some (λ_=> .none) (λ_=> .none)
def Val.isNone (x:Val):Bool:=Val.casesOn (motive_1:=λ_=>Bool) x true (λ_=>false) (λ_=>false) (λ_=>false) (λ_=>false) (λ_=>false) (λ_=>false) (λ_=>false) (λ_=>false) (λ_=>false) (λ_=>false) (λ_=>false)
def MObj.list? (o:MObj):Option (List Val):=MObj.casesOn (motive:=λ_=>Option (List Val)) o some (λ_ _=>none) (λ_ _=>none)
def MObj.dict? (o:MObj):Option (Option Nat×List (Val×Val)):=MObj.casesOn (motive:=λ_=>Option (Option Nat×List (Val×Val))) o (λ_=>none) (λe es=>some (e,es)) (λ_ _=>none)
def MObj.inst? (o:MObj):Option (Nat×List (Nat×Val)):=MObj.casesOn (motive:=λ_=>Option (Nat×List (Nat×Val))) o (λ_=>none) (λ_ _=>none) (λc fs=>some (c,fs))
def b5 (h:MH) (x:Val):Option (List Val):=x.ref?.bind λa=>h[a]?.bind MObj.list?
def dictAt (h:MH) (x:Val):Option (Option Nat×List (Val×Val)):=x.ref?.bind λa=>h[a]?.bind MObj.dict?
def instAt (h:MH) (x:Val):Option (Nat×List (Nat×Val)):=x.ref?.bind λa=>h[a]?.bind MObj.inst?
def a0 {α:Type} (as:List Val) (f:Option α):Option α:=ZH (motive:=λ_=>Option α) as f λ_ _=>none
def a1 {α:Type} (as:List Val) (f:Val->Option α):Option α:=ZH (motive:=λ_=>Option α) as none λv r=>a0 r (f v)
def a2 {α:Type} (as:List Val) (f:Val->Val->Option α):Option α:=ZH (motive:=λ_=>Option α) as none λv r=>a1 r (f v)
def toD (h:MH):Nat->Val->Option PyData
 |_,.none=>some .none
 |_,.bool b=>some (.bool b)
 |_,.int i=>some (.int i)
 |_,.str s=>some (.str ⟨s.toArray⟩)
 |k+1,.tup vs=>(vs.mapM (toD h k)).map .tuple
 |k+1,.ref a=>(b5 h (.ref a)).bind λvs=>(vs.mapM (toD h k)).map .list
 |_,_=>none
def z8 (h:MH) (a b:Val):Option Bool:=(toD h 8 a).bind λx=>(toD h 8 b).map λy=>YW x y
def kEq (a b:Val):Bool:=(z8 [] a b).getD false
def a9 (es:List (Val×Val)) (k:Val):Option Val:=(es.find? λp=>kEq p.1 k).map (·.2)
def iA (v:Val):Bool:=v.int?.isSome||v.str?.isSome
def cW (v:Val):Nat:=bif iA v then 1 else bif (v.tup?.map λvs=>vs.all iA).getD false then 3 else 0
def zuO (es:List (Val×Val)):Option Nat:=es.head?.map λp=>cW p.1
def veq (h:MH) (a b:Val):Option Bool:=
 alt ((dictAt h a).bind λ_=>none) (z8 h a b)
def truthy (h:MH) (x:Val):Option Bool:=Val.casesOn (motive_1:=λ_=>Option Bool) x (some false) some (λi=>some (i !=0)) (λs=>some (!s.isEmpty)) (λvs=>some (!vs.isEmpty))
 (λa=>(b5 h (.ref a)).map λvs=>!vs.isEmpty) (λ_=>none) (λ_=>none) (λ_=>none) (λ_=>none) (λ_=>none) (λ_=>none)
def aN (es:List (Val×Val)) (k:Val):Bool:=cW k !=0 && (es.isEmpty||zuO es==some (cW k))
def fP (es:List (Val×Val)) (k v:Val):List (Val×Val):=
 bif (a9 es k).isSome then es.map λp=>bif kEq p.1 k then (p.1,v) else p else es++ [(k,v)]
def oE:List Val->List (Val×Val) ->Option (List (Val×Val))
 | [],es=>some es
 | [_],_=>none
 |k::v::r,es=>grd (aN es k) (oE r (fP es k v))
def dW (h:MH) (o:MObj):Option (Val×MH):=some (.ref h.length,h++ [o])
def lim:Nat:=1000000
def bigB:Nat:=2 ^ 100000
def divB:Nat:=2 ^ 8000
def yY (a b:Int):Bool:=Jt (a.natAbs+1) bigB && Jt (b.natAbs+1) bigB
def yJ (l:Nat) (n:Int):Bool:=decide (n<=lim) && decide (-(lim:Int)<=n) && Jt (l*n.toNat) lim
def zkB (h:MH) (x y:Val):Option (Val×MH):=
 alt (x.int?.bind λa=>y.int?.bind λb=>some (.int (a+b),h))
 (x.str?.bind λa=>y.str?.bind λb=>grd (Jt (a.length+b.length) lim) (some (.str (a++b),h)))
def yX (h:MH) (x y:Val):Option (Val×MH):=
 alt (x.int?.bind λa=>y.int?.bind λb=>grd (yY a b) (some (.int (a*b),h)))
 (alt (x.int?.bind λa=>y.bool?.bind λb=>some (.int (a*(if b then 1 else 0)),h))
 ((b5 h x).bind λa=>y.int?.bind λn=>grd (yJ a.length n) (dW h (.list (QB n.toNat a).flatten))))
def zT (op:BOp) (a b:Int):Option Int:=BOp.casesOn (motive:=λ_=>Option Int) op none (some (a-b)) none
 (grd (b !=0 && Jt (b.natAbs+1) divB) (some (YB a b))) (grd (b !=0) (some (Kz a b))) none
def gA (op:BOp) (x y:Val) (h:MH):Option (Val×MH):=
 alt (x.int?.bind λa=>y.int?.bind λb=>(zT op a b).map λk=>(.int k,h))
 (BOp.casesOn (motive:=λ_=>Option (Val×MH)) op (zkB h x y) none (yX h x y) none none none)
def isV (a b:Val):Option Bool:=
 alt (grd b.isNone (some a.isNone))
 (alt (a.ty?.bind λi=>b.ty?.map λj=>i==j)
 (alt (a.top?.bind λi=>b.top?.map λj=>i==j)
 (grd (a.isNone||a.int?.isSome||a.tup?.isSome) (b.top?.map λ_=>false))))
def vB (h:MH) (x:Val) (vs:List Val):Option Bool:=(vs.mapM (toD h 7)).bind λds=>(toD h 7 x).map λd=>ds.any λy=>YW y d
def one? (s:List Nat):Option Nat:=ZH (motive:=λ_=>Option Nat) s none λc r=>ZH (motive:=λ_=>Option Nat) r (some c) λ_ _=>none
def za1 (h:MH) (x y:Val):Option Bool:=
 alt (y.str?.bind λt=>(x.str?.bind one?).map λc=>t.contains c)
 (alt (y.tup?.bind λvs=>vB h x vs)
 (alt ((b5 h y).bind λvs=>vB h x vs)
 ((dictAt h y).bind λd=>grd (aN d.2 x) (some (a9 d.2 x).isSome))))
def zgN (x y:Val) (f:Int->Int->Bool):Option Bool:=x.int?.bind λa=>y.int?.map λb=>f a b
def dQ (op:COp) (a b:Val) (h:MH):Option Bool:=COp.casesOn (motive:=λ_=>Option Bool) op (veq h a b) ((veq h a b).map (!·))
 (zgN a b λx y=>decide (x<y)) (zgN a b λx y=>decide (x<=y)) (zgN a b λx y=>decide (y<x)) (zgN a b λx y=>decide (y<=x))
 (za1 h a b) ((za1 h a b).map (!·)) (isV a b) ((isV a b).map (!·))
def idx (n:Nat) (i:Val):Option Nat:=i.int?.bind λi=>grd (decide (0<=i) && decide (i<n)) (some i.toNat)
def bV (h:MH) (o i:Val):Option Val:=
 alt (o.tup?.bind λvs=>(idx vs.length i).bind λk=>vs[k]?)
 (alt (o.fl?.bind λvs=>(idx vs.length i).bind λk=>vs[k]?)
 (alt ((b5 h o).bind λvs=>(idx vs.length i).bind λk=>vs[k]?)
 ((dictAt h o).bind λd=>grd (aN d.2 i) (a9 d.2 i))))
def nD (n:Nat) (v:Val):Option Nat:=v.int?.bind λi=>grd (decide (0<=i)) (some (min i.toNat n))
def r0 (n k:Nat) (bs:List Val):Option (Nat×Nat):=
 bif k==3 then a2 bs λa b=>(nD n a).bind λx=>(nD n b).map λy=>(x,y) else none
def cut {α:Type} (l:List α) (a b:Nat):List α:=(l.take b).drop a
def slice (h:MH) (o:Val) (k:Nat) (bs:List Val):Option (Val×MH):=o.str?.bind λs=>(r0 s.length k bs).bind λp=>some (.str (cut s p.1 p.2),h)
def dI (h:MH) (o i v:Val):Option MH:=o.ref?.bind λa=>
 alt ((h[a]?.bind MObj.list?).bind λvs=>(idx vs.length i).map λk=>h.set a (.list (vs.set k v)))
 ((h[a]?.bind MObj.dict?).bind λd=>grd (aN d.2 i && Jt (d.2.length+1) lim) (some (h.set a (.dict (bif (a9 d.2 i).isSome then d.1 else d.1.map (· +1)) (fP d.2 i v)))))
def l8 (fs:List (Nat×Val)) (n:Nat):Option Val:=(fs.find? λp=>p.1==n).map (·.2)
def rG:List (Nat×Val) ->Nat->Val->List (Nat×Val)
 | [],n,v=> [(n,v)]
 |p::r,n,v=>bif p.1==n then (n,v)::r else p::rG r n v
def Prg.clsAt (P:Prg) (c:Nat):Option Cl:=P.cls.find? λx=>x.addr==c
def Prg.clsAttr (P:Prg) (c n:Nat):Option Val:=(P.clsAt c).bind λx=>l8 x.attrs n
def Prg.hasFld (P:Prg) (c n:Nat):Bool:=((P.clsAt c).map λk=>k.flds.contains n).getD false
def Prg.instAt (P:Prg) (a:Nat):Option Nat:=(P.insts.find? λp=>p.1==a).map (·.2)
def u1 (P:Prg) (v:Val):Bool:=(v.top?.map λa=>P.fns.any λf=>f.addr==a).getD false
def lM (P:Prg) (c n:Nat):Option Val:=(P.clsAttr c n).bind λv=>grd (!u1 P v) (some v)
def getAttr (P:Prg) (h:MH) (o:Val) (n:Nat):Option Val:=
 alt ((instAt h o).bind λq=>Qr (motive:=λ_=>Option Val) (l8 q.2 n) (lM P q.1 n) λv=>grd (P.hasFld q.1 n) (some v))
 (o.top?.bind λa=>(P.instAt a).bind λc=>lM P c n)
def setAttr (P:Prg) (h:MH) (o:Val) (n:Nat) (v:Val):Option MH:=o.ref?.bind λa=>(h[a]?.bind MObj.inst?).bind λq=>
 grd (P.hasFld q.1 n && Jt (q.2.length+1) 400) (some (h.set a (.inst q.1 (rG q.2 n v))))
def oT (P:Prg) (c n:Nat):Option Nat:=(P.clsAttr c n).bind λv=>grd (u1 P v) v.top?
def dK (P:Prg) (h:MH) (o:Val) (n:Nat):Option (Nat×List Val):=
 alt (o.top?.bind λa=>Qr (motive:=λ_=>Option (Nat×List Val)) (P.instAt a) ((oT P a n).map λf=>(f,[])) λc=>(oT P c n).map λf=>(f,[o]))
 ((instAt h o).bind λq=>grd (l8 q.2 n).isNone ((oT P q.1 n).map λf=>(f,[o])))
set_option genCtorIdx false in
inductive It where
 |ls (a:Nat)
 |tp (vs:List Val)
 |dk (a n ep:Nat)
 |sq (s:List Nat)
 |rg (n:Int)
 |fs (vs:List Val)
def fO (h:MH) (x:Val):Option It:=
 alt (x.rng?.bind λn=>grd (decide (n<=lim) && decide (-(lim:Int)<=n)) (some (.rg n)))
 (alt (x.ref?.bind λa=>alt ((h[a]?.bind MObj.list?).map λ_=> .ls a) none)
 (alt (x.tup?.map .tp) (alt (x.str?.map .sq) (x.fl?.map .fs))))
def cF (h:MH) (i:Nat) (k:It):Option (Option Val):=It.casesOn (motive:=λ_=>Option (Option Val)) k
 (λa=>(h[a]?.bind MObj.list?).map λvs=>vs[i]?)
 (λvs=>some vs[i]?)
 (λ_ _ _=>none)
 (λs=>some (s[i]?.map λc=> .str [c]))
 (λn=>some (bif decide ((i:Int)<n) then some (.int i) else none))
 (λvs=>some vs[i]?)
def items (h:MH) (x:Val):Option (List Val):=alt x.tup? (b5 h x)
def lR (tg:List Nat) (vs:List Val) (fr:Frame):Frame:=(tg.zip vs).foldl (λf p=>f.set p.1 (some p.2)) fr
def eC (fr:Frame) (tg:List Nat) (many:Bool) (v:Val):Option Frame:=
 bif many then v.tup?.bind λvs=>grd (vs.length==tg.length) (some (lR tg vs fr)) else grd (tg.length==1) (some (lR tg [v] fr))
def pC (l:List Int):List Int:=l.mergeSort λa b=>decide (a<=b)
abbrev lT:Nat:=7103854
abbrev zfF:Nat:=7168376
abbrev zlY:Nat:=7170414
abbrev fB:Nat:=126922498794852
abbrev v8:Nat:=491260897125
abbrev yR:Nat:=1818850164
abbrev zbU:Nat:=1684628340
abbrev zfB:Nat:=500186508389
abbrev zlW:Nat:=7566450
abbrev zlZ:Nat:=6909556
abbrev zj9:Nat:=1954115685
abbrev zt7:Nat:=7562612
abbrev zkc:Nat:=1651470188
abbrev uT:Nat:=5651857438861258853
abbrev nAppend:Nat:=107135549927012
abbrev nPop:Nat:=7368560
abbrev nIndex:Nat:=452823639416
abbrev nGet:Nat:=6776180
abbrev nIsspace:Nat:=29681812198482789
abbrev zBg:Nat:=1785686382
abbrev zlX:Nat:=2073057139020767260526
abbrev zwV:Nat:=495807392116
abbrev zwU:Nat:=495874894192
abbrev zka:Nat:=545218989645367805047912
abbrev zBh:Nat:=1718185572
abbrev zBi:Nat:=6382692
def zk5 (h:MH) (x:Val):Option Nat:=Val.casesOn (motive_1:=λ_=>Option Nat) x (some uT) (λ_=>some zkc) (λ_=>some zlZ) (λ_=>some zlW) (λ_=>some zfB)
 (λa=>(b5 h (.ref a)).map λ_=>yR) (λ_=>none) (λ_=>none) (λ_=>none) (λ_=>none) (λ_=>none) (λ_=>none)
def zf5 (h:MH) (x:Val):Option Nat:=Val.casesOn (motive_1:=λ_=>Option Nat) x none (λ_=>none) (λ_=>none) (λs=>some s.length) (λvs=>some vs.length)
 (λa=>alt ((b5 h (.ref a)).map (·.length)) ((dictAt h (.ref a)).map (·.2.length))) (λ_=>none) (λ_=>none) (λ_=>none) (λ_=>none) (λvs=>some vs.length) some
def u2 (l:List Val):Option (List Int):=l.mapM Val.int?
def zkx (as:List Val) (h:MH):Option (Val×MH):=a1 as λv=>(zf5 h v).map λ(k:Nat)=>(Val.int (k:Int),h)
def zkw (as:List Val) (h:MH):Option (Val×MH):=a2 as λx y=>x.int?.bind λa=>y.int?.map λb=>(.int (if b>a then b else a),h)
def zkv (as:List Val) (h:MH):Option (Val×MH):=a2 as λx y=>x.int?.bind λa=>y.int?.map λb=>(.int (if b<a then b else a),h)
def r7 (as:List Val) (h:MH):Option (Val×MH):=a1 as λx=>(dictAt h x).bind λp=>(u2 (p.2.map (·.1))).bind λl=>grd (!l.isEmpty && Jt (l.length+1) 64) (dW h (.list ((pC l).map .int)))
def wY (n:Nat) (as:List Val) (h:MH):Option (Val×MH):=
 alt (grd (n==lT) (zkx as h)) (alt (grd (n==zfF) (zkw as h)) (alt (grd (n==zlY) (zkv as h)) (grd (n==fB) (r7 as h))))
def zby (as:List Val) (h:MH):Option (Val×MH):=a1 as λx=>x.int?.map λk=>(.rng k,h)
def z9 (as:List Val) (h:MH):Option (Val×MH):=a1 as λx=>alt (x.tup?.bind λvs=>dW h (.list vs)) (alt (x.fl?.bind λvs=>dW h (.list vs)) ((b5 h x).bind λvs=>dW h (.list vs)))
def zaa (as:List Val) (h:MH):Option (Val×MH):=a1 as λx=>(dictAt h x).bind λd=>grd (d.2.all λp=>cW p.1==1) (dW h (.dict none d.2))
def znJ (as:List Val) (h:MH):Option (Val×MH):=none
def znK (as:List Val) (h:MH):Option (Val×MH):=none
def zej (as:List Val) (h:MH):Option (Val×MH):=a1 as λx=>(zk5 h x).map λk=>(.ty k,h)
def zjZ (x:Val) (h:MH):Option (Val×MH):=none
def wW (n:Nat) (as:List Val) (h:MH):Option (Val×MH):=
 alt (grd (n==v8) (zby as h)) (alt (grd (n==yR) (z9 as h)) (alt (grd (n==zlW) (znJ as h)) (alt (grd (n==zj9) (zej as h)) (alt (grd (n==zbU) (zaa as h)) (alt (grd (n==zlZ) (znK as h)) (grd (n==zt7) (a1 as λx=>zjZ x h)))))))
def zlo (s:List Nat):Bool:=s.all (λc=>Jt (c+1) 0x110000) && Jt s.length lim
def zbD (s:List Nat) (n:Nat) (as:List Val) (h:MH):Option (Val×MH):=grd (n==nIsspace) (a0 as (some (.bool (Txt.isspace ⟨s.toArray⟩),h)))
def mX (a:Nat) (vs:List Val) (n:Nat) (as:List Val) (h:MH):Option (Val×MH):=
 alt (grd (n==nAppend) (a1 as λv=>grd (Jt (vs.length+1) lim) (some (.none,h.set a (.list (vs++ [v]))))))
 (alt (grd (n==nPop) (a0 as (vs.getLast?.map λv=>(v,h.set a (.list vs.dropLast)))))
 (grd (n==nIndex) (a1 as λx=>x.str?.bind λt=>(vs.mapM Val.str?).bind λss=>grd (ss.contains t) (some (.int (ss.idxOf t:Nat),h)))))
def nB (es:List (Val×Val)) (n:Nat) (as:List Val) (h:MH):Option (Val×MH):=
 grd (n==nGet) (alt (a1 as λk=>grd (aN es k) (some ((a9 es k).getD .none,h))) (a2 as λk d=>grd (aN es k) (some ((a9 es k).getD d,h))))
def oX (o:Val) (n:Nat) (as:List Val) (h0 h:MH):Option (Val×MH):=
 alt (o.str?.bind λs=>zbD s n as h)
 (o.ref?.bind λa=>alt ((h0[a]?.bind MObj.list?).bind λ_=>(h[a]?.bind MObj.list?).bind λvs=>mX a vs n as h) ((h0[a]?.bind MObj.dict?).bind λ_=>(h[a]?.bind MObj.dict?).bind λd=>nB d.2 n as h))
structure Cx where
 P:Prg
 fuel:Nat
 call:Nat->List Val->MH->Option (Val×MH)
def ziG (c:Cx) (a:Nat) (k:Cl) (as:List Val) (h:MH):Option (Val×MH):=
 k.init.bind λi=>bnd (c.call i (.ref h.length::as) (h++ [.inst a []])) λr h'=>grd r.isNone (some (.ref h.length,h'))
def aM (c:Cx) (f:Val) (as:List Val) (h:MH):Option (Val×MH):=
 alt (f.top?.bind λa=>Qr (motive:=λ_=>Option (Val×MH)) (c.P.clsAt a) (c.call a as h) λk=>ziG c a k as h)
 (alt (f.bi?.bind λn=>wY n as h) (f.ty?.bind λn=>wW n as h))
def bI (c:Cx) (o:Val) (n:Nat) (as:List Val) (h0 h:MH):Option (Val×MH):=
 Qr (motive:=λ_=>Option (Val×MH)) (dK c.P h0 o n) (oX o n as h0 h) λp=>c.call p.1 (p.2++as) h
def b6 (p:Option (Val×MH)):Option (Bool×MH):=bnd p λv h=>(truthy h v).map λb=>(b,h)
def compLoop (next:Nat->MH->Option (Option Val)) (test:Val->MH->Option (Option Frame×MH)) (elt:Frame->MH->Option (Val×MH)) (acc:Nat):Nat->Nat->MH->Option (Unit×MH)
 |0,_,_=>none
 |n+1,i,h=>(next i h).bind λov=>Qr (motive:=λ_=>Option (Unit×MH)) ov (some ((),h)) λv=>
  bnd (test v h) λofr h1=>Qr (motive:=λ_=>Option (Unit×MH)) ofr (compLoop next test elt acc n (i+1) h1) λfr=>
   bnd (elt fr h1) λx h2=>(h2[acc]?.bind MObj.list?).bind λvs=>grd (Jt (vs.length+1) lim) (compLoop next test elt acc n (i+1) (h2.set acc (.list (vs++ [x]))))
mutual
noncomputable def eval (c:Cx):Ex->Frame->MH->Option (Val×MH)
 | .var x,fr,h=>fr[x]?.bind λo=>o.map λv=>(v,h)
 | .lit v,_,h=>some (v,h)
 | .list es,fr,h=>bnd (gT c es fr h) λvs h1=>dW h1 (.list vs)
 | .tup es,fr,h=>bnd (gT c es fr h) λvs h1=>some (.tup vs,h1)
 | .dict kvs,fr,h=>bnd (gT c kvs fr h) λl h1=>(oE l []).bind λes=>grd (Jt kvs.length 30) (dW h1 (.dict (some es.length) es))
 | .bin op a b,fr,h=>bnd (eval c a fr h) λx h1=>bnd (eval c b fr h1) λy h2=>gA op x y h2
 | .not a,fr,h=>bnd (b6 (eval c a fr h)) λb h1=>some (.bool (!b),h1)
 | .cmp op a b,fr,h=>bnd (eval c a fr h) λx h1=>bnd (eval c b fr h1) λy h2=>(dQ op x y h2).map λr=>(.bool r,h2)
 | .bop stop es,fr,h=>oW c stop es fr h
 | .ite t a b,fr,h=>bnd (b6 (eval c t fr h)) λr h1=>bif r then eval c a fr h1 else eval c b fr h1
 | .attr e n,fr,h=>bnd (eval c e fr h) λo h1=>(getAttr c.P h1 o n).map λv=>(v,h1)
 | .sub e i,fr,h=>bnd (eval c e fr h) λo h1=>bnd (eval c i fr h1) λk h2=>(bV h2 o k).map λv=>(v,h2)
 | .slice e k bs,fr,h=>bnd (eval c e fr h) λo h1=>bnd (gT c bs fr h1) λvs h2=>slice h2 o k vs
 | .call f as,fr,h=>bnd (eval c f fr h) λg h1=>bnd (gT c as fr h1) λvs h2=>aM c g vs h2
 | .meth o n as,fr,h=>bnd (eval c o fr h) λv h1=>bnd (gT c as fr h1) λvs h2=>bI c v n vs h1 h2
 | .comp elt tg many it ifs,fr,h=>bnd (eval c it fr h) λv h1=>(fO h1 v).bind λk=>
   bnd (compLoop (λi h=>cF h i k) (λv h=>(eC fr tg many v).bind λfr'=>bnd (rV c ifs fr' h) λb h'=>some (bif b then some fr' else none,h')) (λfr' h=>eval c elt fr' h) h1.length c.fuel 0 (h1++ [.list []]))
    λ_ h2=>some (.ref h1.length,h2)
noncomputable def gT (c:Cx):List Ex->Frame->MH->Option (List Val×MH)
 | [],_,h=>some ([],h)
 |e::r,fr,h=>bnd (eval c e fr h) λv h1=>bnd (gT c r fr h1) λvs h2=>some (v::vs,h2)
noncomputable def oW (c:Cx) (stop:Bool):List Ex->Frame->MH->Option (Val×MH)
 | [],_,_=>none
 |e::r,fr,h=>bnd (eval c e fr h) λv h1=>bif r.isEmpty then some (v,h1) else (truthy h1 v).bind λb=>bif b==stop then some (v,h1) else oW c stop r fr h1
noncomputable def rV (c:Cx):List Ex->Frame->MH->Option (Bool×MH)
 | [],_,h=>some (true,h)
 |e::r,fr,h=>bnd (b6 (eval c e fr h)) λb h1=>bif b then rV c r fr h1 else some (false,h1)
end
def qH (c:Cx) (fr:Frame) (h:MH) (v:Val):T1->Option (Frame×MH)
 | .nm x=>some (fr.set x (some v),h)
 | .at o n=>bnd (eval c o fr h) λov h1=>(setAttr c.P h1 ov n v).map λh2=>(fr,h2)
 | .sb o i=>bnd (eval c o fr h) λov h1=>bnd (eval c i fr h1) λiv h2=>(dI h2 ov iv v).map λh3=>(fr,h3)
def fM (c:Cx):List T1->List Val->Frame->MH->Option (Frame×MH)
 | [],vs,fr,h=>grd vs.isEmpty (some (fr,h))
 |t::ts,vs,fr,h=>vs.head?.bind λv=>bnd (qH c fr h v t) λfr' h'=>fM c ts vs.tail fr' h'
abbrev SR:=Option ((Fl×Frame)×MH)
def oU (cond:Frame->MH->Option (Bool×MH)) (body:Frame->MH->SR):Nat->Frame->MH->SR
 |0,_,_=>none
 |n+1,fr,h=>bnd (cond fr h) λb h1=>bif b then bnd (body fr h1) λp h2=>Fl.casesOn (motive:=λ_=>SR) p.1 (oU cond body n p.2 h2) (some ((.nx,p.2),h2)) (oU cond body n p.2 h2) (λv=>some ((.rt v,p.2),h2))
  else some ((.nx,fr),h1)
def rC (next:Nat->MH->Option (Option Val)) (bind:Frame->Val->Option Frame) (body:Frame->MH->SR):Nat->Nat->Frame->MH->SR
 |0,_,_,_=>none
 |n+1,i,fr,h=>(next i h).bind λov=>Qr (motive:=λ_=>SR) ov (some ((.nx,fr),h)) λv=>(bind fr v).bind λfr1=>
   bnd (body fr1 h) λp h2=>Fl.casesOn (motive:=λ_=>SR) p.1 (rC next bind body n (i+1) p.2 h2) (some ((.nx,p.2),h2)) (rC next bind body n (i+1) p.2 h2) (λv=>some ((.rt v,p.2),h2))
mutual
noncomputable def exec (c:Cx):Sm->Frame->MH->SR
 | .expr e,fr,h=>bnd (eval c e fr h) λ_ h1=>some ((.nx,fr),h1)
 | .asg t e,fr,h=>bnd (eval c e fr h) λv h1=>bnd (qH c fr h1 v t) λfr' h2=>some ((.nx,fr'),h2)
 | .asgs ts e,fr,h=>bnd (eval c e fr h) λv h1=>(items h1 v).bind λvs=>bnd (fM c ts vs fr h1) λfr' h2=>some ((.nx,fr'),h2)
 | .ret e,fr,h=>bnd (eval c e fr h) λv h1=>some ((.rt v,fr),h1)
 | .ite t a b,fr,h=>bnd (b6 (eval c t fr h)) λr h1=>bif r then execs c a fr h1 else execs c b fr h1
 | .wh t b,fr,h=>oU (λfr h=>b6 (eval c t fr h)) (λfr h=>execs c b fr h) c.fuel fr h
 | .fo tg many e b,fr,h=>bnd (eval c e fr h) λv h1=>(fO h1 v).bind λk=>rC (λi h=>cF h i k) (λfr v=>eC fr tg many v) (λfr h=>execs c b fr h) c.fuel 0 fr h1
 | .brk,fr,h=>some ((.bk,fr),h)
 | .cont,fr,h=>some ((.ct,fr),h)
 | .pass,fr,h=>some ((.nx,fr),h)
 | .raise,_,_=>none
 | .rse _,_,_=>none
 | .tr _ _ _ _,_,_=>none
noncomputable def execs (c:Cx):List Sm->Frame->MH->SR
 | [],fr,h=>some ((.nx,fr),h)
 |s::r,fr,h=>bnd (exec c s fr h) λp h1=>Fl.casesOn (motive:=λ_=>SR) p.1 (execs c r p.2 h1) (some (p,h1)) (some (p,h1)) (λ_=>some (p,h1))
end
def Prg.fnAt (P:Prg) (a:Nat):Option Fn:=P.fns.find? λf=>f.addr==a
def mB (f:Fn) (as:List Val):Option (List Val):=grd (Jt as.length f.np && Jt (f.np-as.length) f.dfl.length) (some (as++f.dfl.drop (f.dfl.length-(f.np-as.length))))
def iD (f:Fn) (vs:List Val):Frame:=vs.map some++QB (f.ns-f.np) none
def zjh (p:Fl×Frame) (h:MH):Option (Val×MH):=Fl.casesOn (motive:=λ_=>Option (Val×MH)) p.1 (some (.none,h)) none none λv=>some (v,h)
def c7 (P:Prg) (fuel:Nat):Nat->Nat->List Val->MH->Option (Val×MH)
 |0,_,_,_=>none
 |d+1,a,as,h=>(P.fnAt a).bind λf=>(mB f as).bind λvs=>bnd (execs ⟨P,fuel,c7 P fuel d⟩ f.body (iD f vs) h) zjh
structure CC where
 sc:List (Str×NameKind)
 vars:List (Str×Nat)
 next:Nat
 gl:List (Str×Val)
def aI (x : Str) : Bool := x.cps.toList.all (λc => 1 <= c && c <= 255) && x != ("__debug__" : Str) && x != ("__class__" : Str) && x != ("super" : Str) && !x.cps.toList.isEmpty
def zgJ:Const->Option Val
 | .none=>some .none
 | .bool b=>some (.bool b)
 | .int i=>some (.int i)
 | .str s=>grd (zlo s.cps.toList) (some (.str s.cps.toList))
 |_=>none
def d4 (cx:CC) (x:Str):Option Nat:=grd (cx.sc.lookup x==some .local||cx.sc.lookup x==some .cell) (cx.vars.lookup x)
def zcd:Operator->Option BOp
 | .Add=>some .add
 | .Sub=>some .sub
 | .Mult=>some .mul
 | .FloorDiv=>some .fdiv
 | .Mod=>some .mod
 | .Pow=>some .pow
 |_=>none
def zb8:CmpOp->COp
 | .Eq=> .eq
 | .NotEq=> .ne
 | .Lt=> .lt
 | .LtE=> .le
 | .Gt=> .gt
 | .GtE=> .ge
 | .In=> .isin
 | .NotIn=> .notin
 | .Is=> .is
 | .IsNot=> .isnot
def gM (e:Expr):Option (Str×Pos):=Expr.casesOn (motive_1:=λ_=>Option (Str×Pos)) e (λ_ _ _=>none) (λ_ _ _=>none) (λ_ _ _ _=>none) (λ_ _ _=>none) (λ_ _ _ _=>none) (λ_ _ _ _=>none) (λ_ _ _=>none) (λ_ _ _=>none) (λ_ _ _ _=>none) (λ_ _ _ _=>none) (λ_ _ _ _ _=>none) (λ_ _ _ _=>none) (λ_ _=>none) (λ_ _=>none) (λ_ _=>none) (λ_ _ _ _=>none) (λ_ _ _ _=>none) (λ_ _ _ _=>none) (λ_ _=>none) (λ_ _ _=>none) (λ_ _ _=>none) (λ_ _ _=>none) (λ_ _=>none) (λx y=>some (x,y)) (λ_ _=>none) (λ_ _ _=>none) (λ_ _ _ _=>none)
def sQ (e:Expr):Option (Expr×Str×Pos):=Expr.casesOn (motive_1:=λ_=>Option (Expr×Str×Pos)) e (λ_ _ _=>none) (λ_ _ _=>none) (λ_ _ _ _=>none) (λ_ _ _=>none) (λ_ _ _ _=>none) (λ_ _ _ _=>none) (λ_ _ _=>none) (λ_ _ _=>none) (λ_ _ _ _=>none) (λ_ _ _ _=>none) (λ_ _ _ _ _=>none) (λ_ _ _ _=>none) (λ_ _=>none) (λ_ _=>none) (λ_ _=>none) (λ_ _ _ _=>none) (λ_ _ _ _=>none) (λ_ _ _ _=>none) (λ_ _=>none) (λ_ _ _=>none) (λx y z=>some (x,y,z)) (λ_ _ _=>none) (λ_ _=>none) (λ_ _=>none) (λ_ _=>none) (λ_ _ _=>none) (λ_ _ _ _=>none)
def lN (e:Expr):Option (List Expr×Nat×Pos):=Expr.casesOn (motive_1:=λ_=>Option (List Expr×Nat×Pos)) e (λ_ _ _=>none) (λ_ _ _=>none) (λ_ _ _ _=>none) (λ_ _ _=>none) (λ_ _ _ _=>none) (λ_ _ _ _=>none) (λ_ _ _=>none) (λ_ _ _=>none) (λ_ _ _ _=>none) (λ_ _ _ _=>none) (λ_ _ _ _ _=>none) (λ_ _ _ _=>none) (λ_ _=>none) (λ_ _=>none) (λ_ _=>none) (λ_ _ _ _=>none) (λ_ _ _ _=>none) (λ_ _ _ _=>none) (λ_ _=>none) (λ_ _ _=>none) (λ_ _ _=>none) (λ_ _ _=>none) (λ_ _=>none) (λ_ _=>none) (λ_ _=>none) (λx y z=>some (x,y,z)) (λ_ _ _ _=>none)
def zgX (e:Expr):Option (Expr×Expr×Pos):=Expr.casesOn (motive_1:=λ_=>Option (Expr×Expr×Pos)) e (λ_ _ _=>none) (λ_ _ _=>none) (λ_ _ _ _=>none) (λ_ _ _=>none) (λ_ _ _ _=>none) (λ_ _ _ _=>none) (λ_ _ _=>none) (λ_ _ _=>none) (λ_ _ _ _=>none) (λ_ _ _ _=>none) (λ_ _ _ _ _=>none) (λ_ _ _ _=>none) (λ_ _=>none) (λ_ _=>none) (λ_ _=>none) (λ_ _ _ _=>none) (λ_ _ _ _=>none) (λ_ _ _ _=>none) (λ_ _=>none) (λ_ _ _=>none) (λ_ _ _=>none) (λx y z=>some (x,y,z)) (λ_ _=>none) (λ_ _=>none) (λ_ _=>none) (λ_ _ _=>none) (λ_ _ _ _=>none)
def nI (e:Expr):Option (Option Expr×Option Expr×Option Expr×Pos):=Expr.casesOn (motive_1:=λ_=>Option (Option Expr×Option Expr×Option Expr×Pos)) e (λ_ _ _=>none) (λ_ _ _=>none) (λ_ _ _ _=>none) (λ_ _ _=>none) (λ_ _ _ _=>none) (λ_ _ _ _=>none) (λ_ _ _=>none) (λ_ _ _=>none) (λ_ _ _ _=>none) (λ_ _ _ _=>none) (λ_ _ _ _ _=>none) (λ_ _ _ _=>none) (λ_ _=>none) (λ_ _=>none) (λ_ _=>none) (λ_ _ _ _=>none) (λ_ _ _ _=>none) (λ_ _ _ _=>none) (λ_ _=>none) (λ_ _ _=>none) (λ_ _ _=>none) (λ_ _ _=>none) (λ_ _=>none) (λ_ _=>none) (λ_ _=>none) (λ_ _ _=>none) (λx y z u=>some (x,y,z,u))
def gI (e:Expr):Bool:=Expr.casesOn (motive_1:=λ_=>Bool) e (λ_ _ _=>false) (λ_ _ _=>false) (λ_ _ _ _=>false) (λ_ _ _=>false) (λ_ _ _ _=>false) (λ_ _ _ _=>false) (λ_ _ _=>false) (λ_ _ _=>false) (λx y z u=>true) (λ_ _ _ _=>false) (λ_ _ _ _ _=>false) (λ_ _ _ _=>false) (λ_ _=>false) (λ_ _=>false) (λ_ _=>false) (λ_ _ _ _=>false) (λ_ _ _ _=>false) (λ_ _ _ _=>false) (λ_ _=>false) (λ_ _ _=>false) (λ_ _ _=>false) (λ_ _ _=>false) (λ_ _=>false) (λ_ _=>false) (λ_ _=>false) (λ_ _ _=>false) (λ_ _ _ _=>false)
def sG (e:Expr):Bool:=Expr.casesOn (motive_1:=λ_=>Bool) e (λ_ _ _=>true) (λ_ _ _=>true) (λ_ _ _ _=>true) (λ_ _ _=>true) (λ_ _ _ _=>true) (λ_ _ _ _=>true) (λ_ _ _=>true) (λ_ _ _=>true) (λ_ _ _ _=>true) (λ_ _ _ _=>true) (λ_ _ _ _ _=>true) (λ_ _ _ _=>true) (λ_ _=>true) (λ_ _=>true) (λ_ _=>true) (λ_ _ _ _=>true) (λx y z u=>!y.isEmpty) (λ_ _ _ _=>true) (λ_ _=>true) (λ_ _ _=>true) (λ_ _ _=>true) (λ_ _ _=>true) (λ_ _=>true) (λ_ _=>true) (λ_ _=>true) (λ_ _ _=>true) (λ_ _ _ _=>true)
section
variable {α β γ:Type}
def eL (f:α->Option β):List α->Option (List β)
 | []=>some []
 |a::r=>(f a).bind λb=>(eL f r).map λbs=>b::bs
def zcY (l:List α) (f:α->Option β):Option β:=ZH (motive:=λ_=>Option β) l none λa r=>ZH (motive:=λ_=>Option β) r (f a) λ_ _=>none
inductive cL (R:α->β->Prop):List α->List β->Prop
 |nil:cL R [] []
 |cons {a:α}{b:β}{as:List α}{bs:List β}:R a b->cL R as bs->cL R (a::as) (b::bs)
theorem bs {o:Option α}{f:α->Option β}{r:β} (h:o.bind f=some r): ∃a,o=some a/\f a=some r:=Yh.mp h
theorem ms {o:Option α}{f:α->β}{r:β} (h:o.map f=some r): ∃a,o=some a/\f a=r:=Jj.mp h
theorem gs {b:Bool}{o:Option α}{r:α} (h:grd b o=some r):b=true/\o=some r:=by
 cases b
 ·cases h
 ·exact ⟨rfl,h⟩
theorem aX {P:Prop}{o:Option α}{f:α->Option β}{r:β} (g: ∀a,o=some a->f a=some r->P) (h:o.bind f=some r):P:=(bs h).elim λa h=>g a h.1 h.2
theorem bU {P:Prop}{o:Option α}{f:α->β}{r:β} (g: ∀a,o=some a->f a=r->P) (h:o.map f=some r):P:=(ms h).elim λa h=>g a h.1 h.2
theorem cZ {P:Prop}{b:Bool}{o:Option α}{r:α} (g:b=true->o=some r->P) (h:grd b o=some r):P:=g (gs h).1 (gs h).2
theorem cA {P:Prop}{a b:Option α}{r:α} (g:a=some r->P) (g':b=some r->P):alt a b=some r->P:=Qr (motive:=λa=>(a=some r->P) ->alt a b=some r->P) a (λ_ h=>g' h) (λ_ g h=>g h) g
theorem aG {P:Prop}{o:Option (α×MH)}{f:α->MH->Option (β×MH)}{r:β×MH} (g: ∀a h,o=some (a,h) ->f a h=some r->P):bnd o f=some r->P:=Qr (motive:=λo=>(∀a h,o=some (a,h) ->f a h=some r->P) ->bnd o f=some r->P) o (λ_ h=>Option.noConfusion rfl (heq_of_eq h)) (λp g h=>g p.1 p.2 rfl h) g
theorem qV {l:List α}{f:α->Option β}{r:β} (h:zcY l f=some r): ∃a,l= [a]/\f a=some r:=by
 cases l with
 |nil=>cases h
 |cons a l=>
  cases l with
  |nil=>exact ⟨a,rfl,h⟩
  |cons _ _=>cases h
theorem hW {f:α->Option β}{l:List α}: ∀ {r:List β},eL f l=some r->cL (λa b=>f a=some b) l r:=by
 induction l with
 |nil=>intro r h;cases h;exact .nil
 |cons a l ih=>
  intro r h;obtain ⟨b,h1,h⟩:=bs h;refine (ms h).elim λbs zq1=>?_;obtain rfl:=zq1.2;exact .cons h1 (ih zq1.1)
theorem cL.mono {R S:α->β->Prop} (h: ∀a b,R a b->S a b) {as:List α}{bs:List β} (r:cL R as bs):cL S as bs:=by
 induction r with
 |nil=>exact .nil
 |cons x _ ih=>exact .cons (h _ _ x) ih
theorem cL.length {R:α->β->Prop}{as:List α}{bs:List β} (r:cL R as bs):bs.length=as.length:=by
 induction r with
 |nil=>rfl
 |cons _ _ ih=>exact congrArg (· +1) ih
end
theorem nos {α:Type}{p:α}{P:Prop} (h:none=some p):P:=nomatch h
theorem gY {e:Expr}{p:Str×Pos}:gM e=some p->e= .Name p.1 p.2:=Expr.casesOn (motive_1:=λe=>gM e=some p->e= .Name p.1 p.2) e (λ_ _ _ h=>nos h) (λ_ _ _ h=>nos h) (λ_ _ _ _ h=>nos h) (λ_ _ _ h=>nos h) (λ_ _ _ _ h=>nos h) (λ_ _ _ _ h=>nos h) (λ_ _ _ h=>nos h) (λ_ _ _ h=>nos h) (λ_ _ _ _ h=>nos h) (λ_ _ _ _ h=>nos h) (λ_ _ _ _ _ h=>nos h) (λ_ _ _ _ h=>nos h) (λ_ _ h=>nos h) (λ_ _ h=>nos h) (λ_ _ h=>nos h) (λ_ _ _ _ h=>nos h) (λ_ _ _ _ h=>nos h) (λ_ _ _ _ h=>nos h) (λ_ _ h=>nos h) (λ_ _ _ h=>nos h) (λ_ _ _ h=>nos h) (λ_ _ _ h=>nos h) (λ_ _ h=>nos h) (λx y h=>Qx.inj h▸rfl) (λ_ _ h=>nos h) (λ_ _ _ h=>nos h) (λ_ _ _ _ h=>nos h)
theorem sP {e:Expr}{p:Expr×Str×Pos}:sQ e=some p->e= .Attribute p.1 p.2.1 p.2.2:=Expr.casesOn (motive_1:=λe=>sQ e=some p->e= .Attribute p.1 p.2.1 p.2.2) e (λ_ _ _ h=>nos h) (λ_ _ _ h=>nos h) (λ_ _ _ _ h=>nos h) (λ_ _ _ h=>nos h) (λ_ _ _ _ h=>nos h) (λ_ _ _ _ h=>nos h) (λ_ _ _ h=>nos h) (λ_ _ _ h=>nos h) (λ_ _ _ _ h=>nos h) (λ_ _ _ _ h=>nos h) (λ_ _ _ _ _ h=>nos h) (λ_ _ _ _ h=>nos h) (λ_ _ h=>nos h) (λ_ _ h=>nos h) (λ_ _ h=>nos h) (λ_ _ _ _ h=>nos h) (λ_ _ _ _ h=>nos h) (λ_ _ _ _ h=>nos h) (λ_ _ h=>nos h) (λ_ _ _ h=>nos h) (λx y z h=>Qx.inj h▸rfl) (λ_ _ _ h=>nos h) (λ_ _ h=>nos h) (λ_ _ h=>nos h) (λ_ _ h=>nos h) (λ_ _ _ h=>nos h) (λ_ _ _ _ h=>nos h)
theorem pY {e:Expr}{p:List Expr×Nat×Pos}:lN e=some p->e= .Tuple p.1 p.2.1 p.2.2:=Expr.casesOn (motive_1:=λe=>lN e=some p->e= .Tuple p.1 p.2.1 p.2.2) e (λ_ _ _ h=>nos h) (λ_ _ _ h=>nos h) (λ_ _ _ _ h=>nos h) (λ_ _ _ h=>nos h) (λ_ _ _ _ h=>nos h) (λ_ _ _ _ h=>nos h) (λ_ _ _ h=>nos h) (λ_ _ _ h=>nos h) (λ_ _ _ _ h=>nos h) (λ_ _ _ _ h=>nos h) (λ_ _ _ _ _ h=>nos h) (λ_ _ _ _ h=>nos h) (λ_ _ h=>nos h) (λ_ _ h=>nos h) (λ_ _ h=>nos h) (λ_ _ _ _ h=>nos h) (λ_ _ _ _ h=>nos h) (λ_ _ _ _ h=>nos h) (λ_ _ h=>nos h) (λ_ _ _ h=>nos h) (λ_ _ _ h=>nos h) (λ_ _ _ h=>nos h) (λ_ _ h=>nos h) (λ_ _ h=>nos h) (λ_ _ h=>nos h) (λx y z h=>Qx.inj h▸rfl) (λ_ _ _ _ h=>nos h)
theorem zjE {e:Expr}{p:Expr×Expr×Pos}:zgX e=some p->e= .Subscript p.1 p.2.1 p.2.2:=Expr.casesOn (motive_1:=λe=>zgX e=some p->e= .Subscript p.1 p.2.1 p.2.2) e (λ_ _ _ h=>nos h) (λ_ _ _ h=>nos h) (λ_ _ _ _ h=>nos h) (λ_ _ _ h=>nos h) (λ_ _ _ _ h=>nos h) (λ_ _ _ _ h=>nos h) (λ_ _ _ h=>nos h) (λ_ _ _ h=>nos h) (λ_ _ _ _ h=>nos h) (λ_ _ _ _ h=>nos h) (λ_ _ _ _ _ h=>nos h) (λ_ _ _ _ h=>nos h) (λ_ _ h=>nos h) (λ_ _ h=>nos h) (λ_ _ h=>nos h) (λ_ _ _ _ h=>nos h) (λ_ _ _ _ h=>nos h) (λ_ _ _ _ h=>nos h) (λ_ _ h=>nos h) (λ_ _ _ h=>nos h) (λ_ _ _ h=>nos h) (λx y z h=>Qx.inj h▸rfl) (λ_ _ h=>nos h) (λ_ _ h=>nos h) (λ_ _ h=>nos h) (λ_ _ _ h=>nos h) (λ_ _ _ _ h=>nos h)
theorem zdP {e:Expr}{p:Option Expr×Option Expr×Option Expr×Pos}:nI e=some p->e= .Slice p.1 p.2.1 p.2.2.1 p.2.2.2:=Expr.casesOn (motive_1:=λe=>nI e=some p->e= .Slice p.1 p.2.1 p.2.2.1 p.2.2.2) e (λ_ _ _ h=>nos h) (λ_ _ _ h=>nos h) (λ_ _ _ _ h=>nos h) (λ_ _ _ h=>nos h) (λ_ _ _ _ h=>nos h) (λ_ _ _ _ h=>nos h) (λ_ _ _ h=>nos h) (λ_ _ _ h=>nos h) (λ_ _ _ _ h=>nos h) (λ_ _ _ _ h=>nos h) (λ_ _ _ _ _ h=>nos h) (λ_ _ _ _ h=>nos h) (λ_ _ h=>nos h) (λ_ _ h=>nos h) (λ_ _ h=>nos h) (λ_ _ _ _ h=>nos h) (λ_ _ _ _ h=>nos h) (λ_ _ _ _ h=>nos h) (λ_ _ h=>nos h) (λ_ _ _ h=>nos h) (λ_ _ _ h=>nos h) (λ_ _ _ h=>nos h) (λ_ _ h=>nos h) (λ_ _ h=>nos h) (λ_ _ h=>nos h) (λ_ _ _ h=>nos h) (λx y z u h=>Qx.inj h▸rfl)
def hP (e:Expr):Option Str:=(gM e).map (·.1)
def oM (e:Expr):Option (List Str×Bool):=alt ((gM e).map λp=>([p.1],false)) ((lN e).bind λp=>(eL hP p.1).map λxs=>(xs,true))
def l9 (outer:List (Str×NameKind)) (sc:Scope):List (Str×NameKind):=
 sc.names.map λp=>(p.1,if (p.2== .free && outer.lookup p.1==some .cell)=true then .cell else p.2)
def inComp (cx:CC) (sc:Scope) (xs:List Str):CC:=
 {sc:=l9 cx.sc sc,vars:=xs.zip (QO cx.next xs.length)++cx.vars,next:=cx.next+xs.length,gl:=cx.gl}
def rW (cx:CC) (sc:Scope) (xs:List Str):Bool:=
 sc.kind== .function &&
 (sc.names.all λp=>p.2 != .cell && (p.2 != .local||(sc.names.lookup p.1==some .local && (xs.contains p.1||(cx.vars.lookup p.1).isNone))) && (p.2 != .free||(sc.names.lookup p.1==some .free && cx.sc.lookup p.1==some .cell))) &&
 xs.all (λx=>sc.names.lookup x==some .local) && decide xs.Nodup
def uD:List Ex->List Ex->List Ex
 |k::ks,v::vs=>k::v::uD ks vs
 |_,_=> []
def zfz (cx:CC) (x:Str):Option Ex:=grd (aI x) (Qr (motive:=λ_=>Option Ex) (d4 cx x) (grd (cx.sc.lookup x==some .globalImplicit) ((cx.gl.lookup x).map .lit)) λi=>some (.var i))
def zvd (f:Expr->Option Ex) (cx:CC) (pos:Pos) (as:List Ex) (g:Expr):Option Ex:=
 alt ((gM g).bind λp=>(zfz cx p.1).map λe=> .call e as)
 ((sQ g).bind λp=>grd (aI p.2.1 && sG p.1 && p.2.2.endLine==pos.line) ((f p.1).map λe=> .meth e (enc p.2.1) as))
def w7 (f:Expr->Option Ex) (lo hi:Option Expr):Option (Nat×List Ex):=
 Qr (motive:=λ_=>Option (Nat×List Ex)) lo none
  λa=>(f a).bind λx=>Qr (motive:=λ_=>Option (Nat×List Ex)) hi none λb=>(f b).map λy=>(3,[x,y])
def zvN (f:Expr->Option Ex) (v sl:Expr):Option Ex:=
 Qr (motive:=λ_=>Option Ex) (nI sl) ((f v).bind λe=>(f sl).map λi=> .sub e i)
  λp=>grd ((gM v).isSome && p.2.2.1.isNone) ((f v).bind λe=>(w7 f p.1 p.2.1).map λq=> .slice e q.1 q.2)
def cG:Nat->CC->Expr->Option Ex
 |0,_,_=>none
 |n+1,cx,e=>match e with
  | .Constant c _ _=>(zgJ c).map .lit
  | .Name x _=>zfz cx x
  | .BoolOp op vs _=>(eL (cG n cx) vs).map (.bop (op== .Or))
  | .BinOp l op r _=>(zcd op).bind λo=>(cG n cx l).bind λa=>(cG n cx r).map λb=> .bin o a b
  | .UnaryOp op x _=>grd (op== .Not) ((cG n cx x).map .not)
  | .IfExp t a b _=>(cG n cx t).bind λt'=>(cG n cx a).bind λa'=>(cG n cx b).map λb'=> .ite t' a' b'
  | .List es _=>grd (Jt es.length 1000) ((eL (cG n cx) es).map .list)
  | .Tuple es _ _=>grd (Jt es.length 1000) ((eL (cG n cx) es).map .tup)
  | .Compare l ops cs _=>zcY ops λo=>zcY cs λr=>(cG n cx l).bind λa=>(cG n cx r).map λb=> .cmp (zb8 o) a b
  | .Call f as ks pos=>grd (ks.isEmpty && Jt as.length 20) ((eL (cG n cx) as).bind λbs=>zvd (cG n cx) cx pos bs f)
  | .Attribute v nm _=>grd (aI nm && sG v) ((cG n cx v).map λe=> .attr e (enc nm))
  | .Subscript v sl _=>zvN (cG n cx) v sl
  | .Dict ks vs _=>grd (ks.length==vs.length) ((eL (λo=>o.bind (cG n cx)) ks).bind λa=>(eL (cG n cx) vs).map λb=> .dict (uD a b))
  | .ListComp elt gens sc _=>zcY gens λg=>(oM g.target).bind λt=>grd (g.is_async==0 && rW cx sc t.1) ((cG n cx g.iter).bind λit=>(eL (cG n (inComp cx sc t.1)) g.ifs).bind λifs=>
    (cG n (inComp cx sc t.1) elt).map λe=> .comp e (QO cx.next t.1.length) t.2 it ifs)
  |_=>none
abbrev f9:CC->Expr->Option Ex:=cG 60
def zgK (cx:CC) (t:Expr):Option T1:=
 alt ((gM t).bind λp=>grd (aI p.1) ((d4 cx p.1).map .nm))
 (alt ((sQ t).bind λp=>grd (aI p.2.1) ((f9 cx p.1).map λe=> .at e (enc p.2.1)))
 ((zgX t).bind λp=>(f9 cx p.1).bind λa=>(f9 cx p.2.1).map λb=> .sb a b))
def vT (cx:CC) (x:Str):Option Nat:=grd (aI x) (d4 cx x)
def zgL (cx:CC) (t:Expr):Option (Ex×Nat):=(sQ t).bind λp=>grd (aI p.2.1) ((f9 cx p.1).map λe=>(e,enc p.2.1))
def uH (v:Expr):Bool:=!gI v && ((lN v).map λp=>!p.1.all (constantsAlone 8)).getD true
def zfy (es:List Expr):Option (List Str):=(eL hP es).bind λxs=>grd (decide xs.Nodup) (some xs)
def zzI (cx:CC) (v t:Expr):Option Sm:=
 Qr (motive:=λ_=>Option Sm) (lN t) ((zgK cx t).bind λa=>(f9 cx v).map λb=> .asg a b)
  λp=>grd (uH v) ((f9 cx v).bind λb=>alt ((zfy p.1).bind λxs=>(eL (vT cx) xs).map λis=> .asgs (is.map .nm) b)
   (grd (!p.1.isEmpty) ((eL (zgL cx) p.1).map λts=> .asgs (ts.map λq=> .at q.1 q.2) b)))
def jR:Nat->CC->Stmt->Option Sm
 |0,_,_=>none
 |n+1,cx,st=>match st with
  | .Expr v _=>grd (!gI v) ((f9 cx v).map .expr)
  | .Pass _=>some .pass
  | .Break _=>some .brk
  | .Continue _=>some .cont
  | .Return v _=>Qr (motive:=λ_=>Option Sm) v (some (.ret (.lit .none))) λe=>(f9 cx e).map .ret
  | .Assign ts v _=>zcY ts (zzI cx v)
  | .If t a b _=>(f9 cx t).bind λx=>(eL (λs=>some ((jR n cx s).getD .raise)) a).bind λy=>(eL (λs=>some ((jR n cx s).getD .raise)) b).map λz=> .ite x y z
  | .While t b e _=>grd e.isEmpty ((f9 cx t).bind λx=>(eL (λs=>some ((jR n cx s).getD .raise)) b).map λy=> .wh x y)
  | .For t it b e _=>grd e.isEmpty ((oM t).bind λq=>grd (decide q.1.Nodup) ((f9 cx it).bind λx=>(eL (vT cx) q.1).bind λsl=>(eL (λs=>some ((jR n cx s).getD .raise)) b).map λy=> .fo sl q.2 x y))
  |_=>none
abbrev zks (cx:CC):List Stmt->Option (List Sm):=eL λs=>some ((jR 40 cx s).getD .raise)
def l7 (ps:List Str) (sc:Scope):List Str:=
 ps++(sc.names.filter λp=>(p.2== .local||p.2== .cell) && !ps.contains p.1).map (·.1)
def zgs (ps:List Str) (sc:Scope) (gl:List (Str×Val)):CC:=
 {sc:=sc.names,vars:=(l7 ps sc).zip (QO 0 (l7 ps sc).length),next:=(l7 ps sc).length,gl:=gl}
def rY (gl:List (Str×Val)) (params:Arguments) (body:List Stmt) (sc:Scope):Option (Nat×Nat×List Sm):=
 grd (params.posonlyargs.isEmpty && params.vararg.isNone && params.kwonlyargs.isEmpty && params.kwarg.isNone && sc.kind== .function && !sc.isGenerator && !sc.isCoroutine && (params.args.map (·.arg)).all (λx=>sc.names.lookup x==some .local||sc.names.lookup x==some .cell))
  ((zks (zgs (params.args.map (·.arg)) sc gl) body).map λb=>((params.args.map (·.arg)).length,(l7 (params.args.map (·.arg)) sc).length+6,b))
end Internal
namespace Internal
open PySem PySem.W PySem.Calls PyProof.Rows
abbrev Led:=List (Addr×Obj)
structure Cfg where
 prog:Program
 w:World
 K:Frag
 P:Prg
 ad:List (Nat×Addr)
abbrev Cfg.M (C:Cfg):Model:=model C.prog C.w
def iK : List (Nat × String) := [(v8,"range"),(yR,"list"),(zbU,"dict"),(zfB,"tuple"),(zlW,"str"),(zlZ,"int"),(zj9,"type"),(zt7,"set"),(zkc,"bool"),(uT,"NoneType")]
def nG : List (Nat × String) := [(lT,"len"),(zfF,"max"),(zlY,"min"),(fB,"sorted")]
def sOk (s:List Nat):Prop:=(∀c∈s,c<0x110000)/\s.length<=lim
structure Wd where
 σ:List Addr
 tp:Led
structure Wd.le (w w':Wd):Prop where
 s:w.σ<+:w'.σ
 t: ∀p∈w.tp,p∈w'.tp
theorem Wd.le.refl (w:Wd):w.le w:=⟨Kr _,λ_ x=>x⟩
theorem Wd.le.trans {a b c:Wd} (x:a.le b) (y:b.le c):a.le c:=⟨x.1.trans y.1,λp hp=>y.2 p (x.2 p hp)⟩
theorem Wd.le.get {w w':Wd} (l:w.le w') {i:Nat}{a:Addr} (h:w.σ[i]?=some a):w'.σ[i]?=some a:=by
 refine Ji l.s λt zq21=>?_;refine (Qg.mp h).elim λhl zq20=>?_;rw [<-zq21,JQ hl];exact h
structure zBd (C:Cfg) (tp:Led) (a:Addr) (o:Obj) (n:Nat) (vs:List Value):Prop where
 at':(a,o)∈tp\/C.K.lookup a=some o
 cls : o.cls = .type "tuple"
 data:o.data= .seq vs.toArray n
structure FlO (C:Cfg) (a:Addr) (o:Obj) (n:Nat) (vs:List Value):Prop where
 at':C.K.lookup a=some o
 cls : o.cls = .type "list"
 data:o.data= .seq vs.toArray n
abbrev zly (t : Tok) (n : Int) (u v : Tok) : Obj := { cls := .type "range",dict := QY,data := .fields #[.int 0 t,.int n u,.int 1 v],slots := #[] }
structure zBc (tp:Led) (a:Addr) (o:Obj) (es:Array (Int×Value)) (ep:Nat) (t:SetTable) (n:Nat):Prop where
 at':(a,o)∈tp
 ex:o.ExactSet
 data:o.data= .set es ep t
 fits:t.fits es.size=true
 size:es.size=n
 le:n<=lim
inductive zjJ (C:Cfg) (tp:Led) (l:Nat) (R:List Value->Prop) (v:Value):Prop
 |mk (a:Addr) (o:Obj) (n:Nat) (vs:List Value) (e:v= .ref a) (q:zBd C tp a o n vs) (r:R vs) (hl:l<=lim):zjJ C tp l R v
inductive FlL (C:Cfg) (l:Nat) (R:List Value->Prop) (v:Value):Prop
 |mk (a:Addr) (o:Obj) (n:Nat) (vs:List Value) (e:v= .ref a) (q:FlO C a o n vs) (r:R vs) (hl:l<=lim):FlL C l R v
inductive zns (tp:Led) (n:Int) (x:Value):Prop
 |mk (a:Addr) (t u v:Tok) (e:x= .ref a) (h:(a,zly t n u v)∈tp):zns tp n x
inductive z0 (P:Value->Prop) (R:List Value->Prop) (vs:List Value):Prop
 |mk (v:Value) (r:List Value) (e:vs=v::r) (h:P v) (t:R r):z0 P R vs
mutual
noncomputable def aF (C:Cfg) (w:Wd):Val->Value->Prop
 | .none=>λv=>v= .none
 | .bool b=>λv=>v= .bool b
 | .int i=>λv=> ∃t,v= .int i t
 | .str s=>λv=> ∃t,v= .str ⟨s.toArray⟩ t/\sOk s
 | .tup mvs=>λv=>zjJ C w.tp mvs.length (aD C w mvs) v
 | .ref i=>λv=> ∃a,v= .ref a/\w.σ[i]?=some a
 | .top id=>λv=> ∃a,v= .ref a/\C.ad.lookup id=some a
 | .ty c=>λv=> ∃n,v= .type n/\iK.lookup c=some n
 | .bi c=>λv=> ∃n,v= .builtin n/\nG.lookup c=some n
 | .rng n=>λx=>zns w.tp n x
 | .fl mvs=>λv=>FlL C mvs.length (aD C w mvs) v
 | .setn n=>λv=> ∃a o es ep t,v= .ref a/\zBc w.tp a o es ep t n
noncomputable def aD (C:Cfg) (w:Wd):List Val->List Value->Prop
 | []=>λvs=>vs= []
 |m::ms=>λvs=>z0 (aF C w m) (aD C w ms) vs
end
section
variable {C:Cfg}{w w':Wd}{x:Val}{v:Value}{mvs:List Val}{vs:List Value}
theorem aD.nil:aD C w [] []:=rfl
theorem aD.cons {m:Val}{ms:List Val} (h:aF C w m v) (r:aD C w ms vs):aD C w (m::ms) (v::vs):=⟨v,vs,rfl,h,r⟩
theorem aD.one (h:aF C w x v):aD C w [x] [v]:= .cons h .nil
theorem aD.length: ∀ {ms:List Val}{vs:List Value},aD C w ms vs->ms.length=vs.length:=by
 intro ms
 induction ms with
 |nil=>intro vs h;exact congrArg JK (K8 h)
 |cons m ms ih=>
  intro vs h;obtain ⟨v,r,rfl,_,h⟩:=h;exact congrArg JZ (ih h)
theorem aF.mono' (l:w.le w') (m:Val): ∀v,aF C w m v->aF C w' m v:=by
 refine Val.rec (motive_1:=λm=> ∀v,aF C w m v->aF C w' m v) (motive_2:=λms=> ∀vs,aD C w ms vs->aD C w' ms vs) (λ_ h=>h) (λ_ _ h=>h) (λ_ _ h=>h) (λ_ _ h=>h) ?_ ?_ (λ_ _ h=>h) (λ_ _ h=>h) (λ_ _ h=>h) ?_ ?_ ?_ (λ_ h=>h) ?_ m
 ·exact λms ih v h=>zjJ.casesOn h λa o n vs e h r k=>⟨a,o,n,vs,e,⟨h.1.imp (l.t _) id,h.2,h.3⟩,ih vs r,k⟩
 ·exact λi v h=>h.elim λa h=>⟨a,h.1,l.get h.2⟩
 ·exact λn v h=>zns.casesOn h λa t u x e h=>⟨a,t,u,x,e,l.t _ h⟩
 ·exact λms ih v h=>FlL.casesOn h λa o n vs e h r k=>⟨a,o,n,vs,e,h,ih vs r,k⟩
 ·exact λn v h=>by
   obtain ⟨a,o,es,ep,t,e,h⟩:=h;exact ⟨a,o,es,ep,t,e,l.t _ h.1,h.2,h.3,h.4,h.5,h.6⟩
 ·exact λm ms i1 i2 vs h=>z0.casesOn h λv r e h h'=>⟨v,r,e,i1 v h,i2 r h'⟩
theorem aF.mono (l:w.le w') (h:aF C w x v):aF C w' x v:=aF.mono' l x v h
theorem aD.mono (l:w.le w'): ∀ {ms:List Val}{vs:List Value},aD C w ms vs->aD C w' ms vs:=by
 intro ms
 induction ms with
 |nil=>exact λh=>h
 |cons m ms ih=>
  exact λh=>z0.casesOn h λv r e h h'=>⟨v,r,e,h.mono l,ih h'⟩
theorem aD.get: ∀ {ms:List Val}{vs:List Value}{i:Nat}{m:Val},aD C w ms vs->ms[i]?=some m-> ∃v,vs[i]?=some v/\aF C w m v:=by
 intro ms
 induction ms with
 |nil=>exact λ_ e=>nos e
 |cons m ms ih=>
  intro vs i m' h e;obtain ⟨v,r,rfl,h,h'⟩:=h;cases i with
  |zero=>exact ⟨v,rfl,Qx.inj e▸h⟩
  |succ i=>exact ih (i:=i) h' e
theorem aD.append {ms':List Val}{vs':List Value} (h':aD C w ms' vs'): ∀ {ms:List Val}{vs:List Value},aD C w ms vs->aD C w (ms++ms') (vs++vs'):=by
 intro ms
 induction ms with
 |nil=>intro vs h;rw [show vs= [] from h];exact h'
 |cons m ms ih=>
  exact λh=>z0.casesOn h λv r e h hr=>⟨v,r++vs',congrArg (· ++vs') e,h,ih hr⟩
theorem aF.int? {i:Int}:aF C w x v->x.int?=some i-> ∃t,v= .int i t:=
 Val.casesOn (motive_1:=λx=>aF C w x v->x.int?=some i-> ∃t,v= .int i t) x (λ_ e=>nos e) (λ_ _ e=>nos e) (λ_ h e=>Qx.inj e▸h) (λ_ _ e=>nos e) (λ_ _ e=>nos e) (λ_ _ e=>nos e) (λ_ _ e=>nos e) (λ_ _ e=>nos e) (λ_ _ e=>nos e) (λ_ _ e=>nos e) (λ_ _ e=>nos e) (λ_ _ e=>nos e)
theorem aF.str? {i:List Nat}:aF C w x v->x.str?=some i-> ∃t,v= .str ⟨i.toArray⟩ t/\sOk i:=
 Val.casesOn (motive_1:=λx=>aF C w x v->x.str?=some i-> ∃t,v= .str ⟨i.toArray⟩ t/\sOk i) x (λ_ e=>nos e) (λ_ _ e=>nos e) (λ_ _ e=>nos e) (λ_ h e=>Qx.inj e▸h) (λ_ _ e=>nos e) (λ_ _ e=>nos e) (λ_ _ e=>nos e) (λ_ _ e=>nos e) (λ_ _ e=>nos e) (λ_ _ e=>nos e) (λ_ _ e=>nos e) (λ_ _ e=>nos e)
theorem tup?_s {i:List Val}:x.tup?=some i->x= .tup i:=
 Val.casesOn (motive_1:=λx=>x.tup?=some i->x= .tup i) x (λe=>nos e) (λ_ e=>nos e) (λ_ e=>nos e) (λ_ e=>nos e) (λ_ e=>Qx.inj e▸rfl) (λ_ e=>nos e) (λ_ e=>nos e) (λ_ e=>nos e) (λ_ e=>nos e) (λ_ e=>nos e) (λ_ e=>nos e) (λ_ e=>nos e)
theorem ref?_s {i:Nat}:x.ref?=some i->x= .ref i:=
 Val.casesOn (motive_1:=λx=>x.ref?=some i->x= .ref i) x (λe=>nos e) (λ_ e=>nos e) (λ_ e=>nos e) (λ_ e=>nos e) (λ_ e=>nos e) (λ_ e=>Qx.inj e▸rfl) (λ_ e=>nos e) (λ_ e=>nos e) (λ_ e=>nos e) (λ_ e=>nos e) (λ_ e=>nos e) (λ_ e=>nos e)
theorem top?_s {i:Nat}:x.top?=some i->x= .top i:=
 Val.casesOn (motive_1:=λx=>x.top?=some i->x= .top i) x (λe=>nos e) (λ_ e=>nos e) (λ_ e=>nos e) (λ_ e=>nos e) (λ_ e=>nos e) (λ_ e=>nos e) (λ_ e=>Qx.inj e▸rfl) (λ_ e=>nos e) (λ_ e=>nos e) (λ_ e=>nos e) (λ_ e=>nos e) (λ_ e=>nos e)
theorem ty?_s {i:Nat}:x.ty?=some i->x= .ty i:=
 Val.casesOn (motive_1:=λx=>x.ty?=some i->x= .ty i) x (λe=>nos e) (λ_ e=>nos e) (λ_ e=>nos e) (λ_ e=>nos e) (λ_ e=>nos e) (λ_ e=>nos e) (λ_ e=>nos e) (λ_ e=>Qx.inj e▸rfl) (λ_ e=>nos e) (λ_ e=>nos e) (λ_ e=>nos e) (λ_ e=>nos e)
theorem bi?_s {i:Nat}:x.bi?=some i->x= .bi i:=
 Val.casesOn (motive_1:=λx=>x.bi?=some i->x= .bi i) x (λe=>nos e) (λ_ e=>nos e) (λ_ e=>nos e) (λ_ e=>nos e) (λ_ e=>nos e) (λ_ e=>nos e) (λ_ e=>nos e) (λ_ e=>nos e) (λ_ e=>Qx.inj e▸rfl) (λ_ e=>nos e) (λ_ e=>nos e) (λ_ e=>nos e)
theorem fl?_s {i:List Val}:x.fl?=some i->x= .fl i:=
 Val.casesOn (motive_1:=λx=>x.fl?=some i->x= .fl i) x (λe=>nos e) (λ_ e=>nos e) (λ_ e=>nos e) (λ_ e=>nos e) (λ_ e=>nos e) (λ_ e=>nos e) (λ_ e=>nos e) (λ_ e=>nos e) (λ_ e=>nos e) (λ_ e=>nos e) (λ_ e=>Qx.inj e▸rfl) (λ_ e=>nos e)
theorem bool?_s {i:Bool}:x.bool?=some i->x= .bool i:=
 Val.casesOn (motive_1:=λx=>x.bool?=some i->x= .bool i) x (λe=>nos e) (λ_ e=>Qx.inj e▸rfl) (λ_ e=>nos e) (λ_ e=>nos e) (λ_ e=>nos e) (λ_ e=>nos e) (λ_ e=>nos e) (λ_ e=>nos e) (λ_ e=>nos e) (λ_ e=>nos e) (λ_ e=>nos e) (λ_ e=>nos e)
theorem rng?_s {i:Int}:x.rng?=some i->x= .rng i:=
 Val.casesOn (motive_1:=λx=>x.rng?=some i->x= .rng i) x (λe=>nos e) (λ_ e=>nos e) (λ_ e=>nos e) (λ_ e=>nos e) (λ_ e=>nos e) (λ_ e=>nos e) (λ_ e=>nos e) (λ_ e=>nos e) (λ_ e=>nos e) (λ_ e=>Qx.inj e▸rfl) (λ_ e=>nos e) (λ_ e=>nos e)
theorem y8:x.isNone=true->x= .none:=
 Val.casesOn (motive_1:=λx=>x.isNone=true->x= .none) x (λ_=>rfl) (λ_=>nofun) (λ_=>nofun) (λ_=>nofun) (λ_=>nofun) (λ_=>nofun) (λ_=>nofun) (λ_=>nofun) (λ_=>nofun) (λ_=>nofun) (λ_=>nofun) (λ_=>nofun)
theorem list?_s {o:MObj}{i:List Val}:o.list?=some i->o= .list i:=
 MObj.casesOn (motive:=λo=>o.list?=some i->o= .list i) o (λ_ e=>Qx.inj e▸rfl) (λ_ _ e=>nos e) (λ_ _ e=>nos e)
theorem dict?_s {o:MObj}{i:Option Nat×List (Val×Val)}:o.dict?=some i->o= .dict i.1 i.2:=
 MObj.casesOn (motive:=λo=>o.dict?=some i->o= .dict i.1 i.2) o (λ_ e=>nos e) (λ_ _ e=>Qx.inj e▸rfl) (λ_ _ e=>nos e)
theorem inst?_s {o:MObj}{i:Nat×List (Nat×Val)}:o.inst?=some i->o= .inst i.1 i.2:=
 MObj.casesOn (motive:=λo=>o.inst?=some i->o= .inst i.1 i.2) o (λ_ e=>nos e) (λ_ _ e=>nos e) (λ_ _ e=>Qx.inj e▸rfl)
end
inductive zny (n:Nat) (P:Value->Prop) (R:List DictEntry->Prop) (es:List DictEntry):Prop
 |mk (x:Str) (t:Tok) (hsh:Int) (v:Value) (r:List DictEntry) (e:es=⟨hsh,.str x t,v⟩::r) (nm:aI x=true) (en:enc x=n) (h:P v) (t:R r):zny n P R es
def j8 (C:Cfg) (w:Wd):List (Nat×Val) ->List DictEntry->Prop
 | []=>λes=>es= []
 |p::fs=>λes=>zny p.1 (aF C w p.2) (j8 C w fs) es
theorem j8.mono {C:Cfg}{w w':Wd} (l:w.le w'): ∀ {fs:List (Nat×Val)}{es:List DictEntry},j8 C w fs es->j8 C w' fs es:=by
 intro fs
 induction fs with
 |nil=>exact λh=>h
 |cons p fs ih=>
  exact λh=>zny.casesOn h λx t hsh v r e h1 h2 h3 h4=>⟨x,t,hsh,v,r,e,h1,h2,h3.mono l,ih h4⟩
set_option genInjectivity true in
inductive Atom where
 |i (n:Int)
 |s (x:Str)
 deriving DecidableEq
def Atom.val (a:Atom):Val:=Atom.casesOn (motive:=λ_=>Val) a .int (λx=> .str x.cps.toList)
def Atom.is (a:Atom) (v:Value):Bool:=Atom.casesOn (motive:=λ_=>Bool) a (λn=>XY n v) (λx=>Value.isStrOf x v)
def Atom.hash (w:World) (a:Atom):Int:=Atom.casesOn (motive:=λ_=>Int) a hashInt (λx=>hashStr w x)
theorem Atom.inj (v:Value) (a b:Atom) (ha:a.is v=true) (hb:b.is v=true):a=b:=by
 cases a with
 |i n=>
  cases b with
  |i k=>rw [Value.isInt_inj v _ _ ha hb]
  |s y=>obtain ⟨t,rfl⟩:=JT ha;cases hb
 |s x=>
  cases b with
  |i k=>obtain ⟨t,rfl⟩:=JT hb;cases ha
  |s y=>rw [Value.isStrOf_inj v _ _ ha hb]
theorem Atom.byValue (k:Atom) (v:Value) (h:k.is v=true):carriedByValue v=true:=by
 cases k with
 |i n=>obtain ⟨t,rfl⟩:=JT h;rfl
 |s x=>obtain ⟨t,rfl⟩:=Zj h;rfl
theorem Atom.pyHash {prog:Program}{w:World}{A:Around}{E:Value->Shared->Prop}{s:Shared}{k:Atom}{v:Value}{Q:Int->Shared->Prop} (hv:k.is v=true) (h:Q (k.hash w) {s with toks:=s.toks+1}):wpAny (model prog w) A (PySem.pyHash v) Q E s:=by
 cases k with
 |i n=>obtain ⟨t,rfl⟩:=JT hv;exact wpAny_pyHash_int h
 |s x=>obtain ⟨t,rfl⟩:=Zj hv;exact wpAny_pyHash_str h
theorem Atom.eqBool {prog:Program}{w:World}{A:Around}{E:Value->Shared->Prop}{s:Shared}{a b:Atom}{u v:Value}{Q:Bool->Shared->Prop} (hu:a.is u=true) (hv:b.is v=true) (h:Q (decide (a=b)) s):wpAny (model prog w) A (PySem.eqBool u v) Q E s:=by
 cases a with
 |i n=>
  obtain ⟨t,rfl⟩:=JT hu;cases b with
  |i k=>
   obtain ⟨u,rfl⟩:=JT hv;refine wpAny_eqBool_int ?_;simp only [Atom.i.injEq] at h
   first|exact h|(simp only [beq_eq_decide];exact h)
  |s y=>
   obtain ⟨u,rfl⟩:=Zj hv;exact SeqAt.EqAt.int_str _ _ _ _ _ _ _ _ (by simpa using h)
 |s x=>
  obtain ⟨t,rfl⟩:=Zj hu;cases b with
  |i k=>
   obtain ⟨u,rfl⟩:=JT hv;exact SeqAt.EqAt.str_int _ _ _ _ _ _ _ _ (by simpa using h)
  |s y=>
   obtain ⟨u,rfl⟩:=Zj hv;exact wpAny_eqBool_str (by simpa using h)
theorem Atom.strKeys (k:Atom) (x:Str) (t:Tok) (v:Value) (h:k.is (.str x t)=true):k.is v=v.isStr x:=by
 cases k with
 |i n=>cases h
 |s y=>
  have h':(x==y)=true:=h;rw [beq_iff_eq] at h';subst h';cases v<;>rfl
def b9 (prog:Program) (w:World):KeyKind prog w Atom:=
 ⟨Atom.is,Atom.hash w,Atom.inj,Atom.byValue,Atom.pyHash,Atom.eqBool,Atom.strKeys⟩
def Atom.ok (a:Atom):Prop:=Atom.casesOn (motive:=λ_=>Prop) a (λ_=>True) (λx=>sOk x.cps.toList)
structure DA (C:Cfg) (w:Wd) (mes:List (Val×Val)) (es:List DictEntry) (kvs:List (Atom×Value)):Prop where
 p:Pairs (b9 C.prog C.w) es kvs
 k:KeysOf (b9 C.prog C.w) es.toArray
 n:(kvs.map (·.1)).Nodup
 e:mes.map (·.1)=kvs.map (λp=>p.1.val)
 ok: ∀p∈kvs,p.1.ok
 r:aD C w (mes.map (·.2)) (kvs.map (·.2))
structure DT (C:Cfg) (w:Wd) (mes:List (Val×Val)) (es:List DictEntry) (xs:List (List Atom×Addr×Value)):Prop where
 es:es=xs.map (entryOfKey (tupleKind (b9 C.prog C.w)))
 n:(xs.map (·.1)).Nodup
 v: ∀x∈xs,aF C w (.tup (x.1.map Atom.val)) (.ref x.2.1)
 e:mes.map (·.1)=xs.map (λx=>Val.tup (x.1.map Atom.val))
 r:aD C w (mes.map (·.2)) (xs.map (·.2.2))
def i0 (C:Cfg) (w:Wd) (mes:List (Val×Val)) (es:List DictEntry):Prop:=(∃kvs,DA C w mes es kvs)\/∃xs,DT C w mes es xs
theorem i0.mono {C:Cfg}{w w':Wd} (l:w.le w') {mes:List (Val×Val)}{es:List DictEntry} (h:i0 C w mes es):i0 C w' mes es:=
 h.imp (λ⟨kvs,D⟩=>⟨kvs,D.p,D.k,D.n,D.e,D.ok,D.r.mono l⟩) λ⟨xs,D⟩=>⟨xs,D.es,D.n,λx hx=>(D.v x hx).mono l,D.e,D.r.mono l⟩
inductive znv (C:Cfg) (w:Wd) (a:Addr) (mvs:List Val) (en:Led):Prop
 |mk (vs:List Value) (n:Nat) (e:en= [(a,listOf vs.toArray n)]) (r:aD C w mvs vs) (l:mvs.length<=lim):znv C w a mvs en
inductive znA (C:Cfg) (w:Wd) (a:Addr) (ep:Option Nat) (mes:List (Val×Val)) (en:Led):Prop
 |mk (es:List DictEntry) (n:Nat) (e:en= [(a,dictOf es n)]) (hep: ∀e,ep=some e->n=e) (d:i0 C w mes es) (l:mes.length<=lim):znA C w a ep mes en
inductive znw (C:Cfg) (w:Wd) (a:Addr) (id:Nat) (fs:List (Nat×Val)) (en:Led):Prop
 |mk (c dx:Addr) (es:List DictEntry) (n:Nat) (e:en= [(a,instObj c dx),(dx,dictOf es n)]) (hc:C.ad.lookup id=some c) (f:j8 C w fs es) (l:fs.length<=500):znw C w a id fs en
def lB (C:Cfg) (w:Wd) (a:Addr) (o:MObj):Led->Prop:=MObj.casesOn (motive:=λ_=>Led->Prop) o
 (znv C w a) (znA C w a) (znw C w a)
theorem lB.mono {C:Cfg}{w w':Wd} (l:w.le w') {a:Addr}{o:MObj}{en:Led}:lB C w a o en->lB C w' a o en:=
 MObj.casesOn (motive:=λo=>lB C w a o en->lB C w' a o en) o
  (λ_ h=>znv.casesOn h λvs n e h k=> .mk vs n e (h.mono l) k) (λ_ _ h=>znA.casesOn h λes n e h h' k=> .mk es n e h (h'.mono l) k) (λ_ _ h=>znw.casesOn h λc dx es n e h h' k=> .mk c dx es n e h (h'.mono l) k)
inductive zhj (P:MObj->Led->Prop) (R:MH->List Led->Prop) (H:MH) (os:List Led):Prop
 |mk (o:MObj) (H':MH) (en:Led) (os':List Led) (e1:H=o::H') (e2:os=en::os') (h:P o en) (t:R H' os'):zhj P R H os
def iZ (C:Cfg) (w:Wd):List Addr->MH->List Led->Prop
 | []=>λH os=>H= []/\os= []
 |a::as=>zhj (lB C w a) (iZ C w as)
theorem iZ.mono {C:Cfg}{w w':Wd} (l:w.le w'): ∀ {as:List Addr}{H:MH}{os:List Led},iZ C w as H os->iZ C w' as H os:=by
 intro as
 induction as with
 |nil=>exact λh=>h
 |cons a as ih=>
  exact λh=>zhj.casesOn h λo H' en os' e1 e2 h r=>⟨o,H',en,os',e1,e2,h.mono l,ih r⟩
theorem iZ.snoc {C:Cfg}{w:Wd}{a:Addr}{o:MObj}{en:Led} (h':lB C w a o en): ∀ {as:List Addr}{H:MH}{os:List Led},iZ C w as H os->iZ C w (as++ [a]) (H++ [o]) (os++ [en]):=by
 intro as
 induction as with
 |nil=>
  exact λh=>⟨o,[],en,[],congrArg (· ++ [o]) h.1,congrArg (· ++ [en]) h.2,h',rfl,rfl⟩
 |cons b as ih=>
  exact λh=>zhj.casesOn h λo1 H' en1 os' e1 e2 h r=>⟨o1,H'++ [o],en1,os'++ [en],congrArg (· ++ [o]) e1,congrArg (· ++ [en]) e2,h,ih r⟩
theorem iZ.length {C:Cfg}{w:Wd}: ∀ {as:List Addr}{H:MH}{os:List Led},iZ C w as H os->as.length=H.length:=by
 intro as
 induction as with
 |nil=>exact λh=>congrArg JK h.1.symm
 |cons b as ih=>exact λh=>zhj.casesOn h λo1 H' en1 os' e1 _ _ r=>(congrArg JZ (ih r)).trans (congrArg JK e1.symm)
inductive zkI (C:Cfg) (w:Wd) (as:List Addr) (i:Nat) (a:Addr) (o:MObj) (H:MH) (os:List Led):Prop
 |mk (pre:List Led) (en:Led) (post:List Led) (e:os=pre++en::post) (r:lB C w a o en) (g: ∀o' en',lB C w a o' en'->iZ C w as (H.set i o') (pre++en'::post)):zkI C w as i a o H os
theorem iZ.at {C:Cfg}{w:Wd}{a:Addr}{o:MObj}: ∀ {as:List Addr}{i:Nat}{H:MH}{os:List Led},iZ C w as H os->as[i]?=some a->H[i]?=some o->
  zkI C w as i a o H os:=by
 intro as
 induction as with
 |nil=>exact λ_ e=>nos e
 |cons b as ih=>
  intro i H os h ha ho;obtain ⟨o1,H',en1,os',rfl,rfl,h,r⟩:=h;cases i with
  |zero=>
   cases ha;cases ho;exact ⟨[],en1,os',rfl,h,λo' en' h'=>⟨o',H',en',os',rfl,rfl,h',r⟩⟩
  |succ i=>
   obtain ⟨pre,en,post,rfl,hr,k⟩:=ih (i:=i) r ha ho;exact ⟨en1::pre,en,post,rfl,hr,λo' en' h'=>⟨o1,_,en1,_,rfl,rfl,h,k o' en' h'⟩⟩
structure Kp where
 ce:Led
 ex:Led
 m:Str->Option Value
def Led.nd (l:Led):Prop:=(l.map (·.1)).Nodup
theorem Led.nd.perm {a b:Led} (p:a.Perm b) (h:Led.nd a):Led.nd b:=(p.map λq:Addr×Obj=>q.1).nodup_iff.mp h
def Kp.all (k:Kp) (w:Wd) (os:List Led):Led:=os.flatten++(w.tp++(k.ce++k.ex))
inductive OsO (C:Cfg) (h₀:Heap) (L:Addr) (k:Kp) (w:Wd) (H:MH) (h:Heap):Prop
 |mk (os:List Led) (he:iZ C w w.σ H os) (hn:News h₀ L h (k.all w os)) (hd:Led.nd (k.all w os)):OsO C h₀ L k w H h
structure Sta (C:Cfg) (h₀:Heap) (L:Addr) (k:Kp) (w:Wd) (H:MH) (h:Heap):Prop where
 fr:Fr h₀ L h k.m
 os:OsO C h₀ L k w H h
 big:4<=h₀.objs.size
 lo: ∀a∈w.σ,4<=a
theorem mJ {d:Addr}{o o':Obj}{post:Led}: ∀ {pre:Led},Led.nd (pre++(d,o)::post) ->Upd d o o' (pre++(d,o)::post) (pre++(d,o')::post):=by
 intro pre
 induction pre with
 |nil=>exact λh=> .head λp hp e=>(Qw.mp h).1 (QF.mpr ⟨p,hp,e⟩)
 |cons q pre ih=>exact λh=> .tail (λe=>(Qw.mp h).1 (QF.mpr ⟨(d,o),QG _ (.head _),e.symm⟩)) (ih (Qw.mp h).2)
section
variable {C:Cfg}{h₀:Heap}{L:Addr}{k:Kp}{w:Wd}{H:MH}{h:Heap}
theorem Sta.len (S:Sta C h₀ L k w H h):w.σ.length=H.length:=OsO.casesOn S.os λ_ he _ _=>he.length
inductive SAt (C:Cfg) (h₀:Heap) (L:Addr) (k:Kp) (w:Wd) (H:MH) (h:Heap) (i:Nat) (a:Addr) (o:MObj):Prop
 |mk (pre en post:Led) (r:lB C w a o en) (n:News h₀ L h (pre++(en++post))) (d:Led.nd (pre++(en++post)))
   (g: ∀o' en' h',en'.map (·.1)=en.map (·.1) ->lB C w a o' en'->Fr h₀ L h' k.m->News h₀ L h' (pre++(en'++post)) ->Sta C h₀ L k w (H.set i o') h'):SAt C h₀ L k w H h i a o
theorem Sta.at (S:Sta C h₀ L k w H h) {i:Nat}{a:Addr}{o:MObj} (ha:w.σ[i]?=some a) (ho:H[i]?=some o):
  SAt C h₀ L k w H h i a o:=by
 obtain ⟨os,he,hn,hd⟩:=S.os;obtain ⟨pre,en,post,rfl,hr,g⟩:=he.at ha ho;have e: ∀en1:Led,k.all w (pre++en1::post)=pre.flatten++(en1++(post.flatten++(w.tp++(k.ce++k.ex)))):=by
  intro en1;unfold Kp.all;rw [Z5,ZA,Qm,Qm]
 rw [e] at hn hd;refine ⟨pre.flatten,en,_,hr,hn,hd,λo' en' h' hm hr' F N=>⟨F,⟨pre++en'::post,g o' en' hr',(e en').symm▸N,(e en').symm▸?_⟩,S.big,S.lo⟩⟩;unfold Led.nd at hd ⊢;rw [Qy,Qy] at hd ⊢;rw [hm];exact hd
theorem qS (k:Kp) (w:Wd) (a:Addr) (en:Led) (os:List Led):(en++k.all w os).Perm (k.all ⟨w.σ++ [a],w.tp⟩ (os++ [en])):=by
 unfold Kp.all;rw [Z5,ZA,List.flatten_nil,Q7,Qm];exact J5 _ _ _
theorem zbQ (k:Kp) (w:Wd) (p:Addr×Obj) (os:List Led):([p]++k.all w os).Perm (k.all ⟨w.σ,p::w.tp⟩ os):=(Ks (a:=p) (l₁:=os.flatten) (l₂:=w.tp++(k.ce++k.ex))).symm
theorem Sta.loNew (S:Sta C h₀ L k w H h) {a:Addr} (ha:4<=a): ∀b∈w.σ++ [a],4<=b:=λb hb=>(QU.mp hb).elim (S.lo b) λhb=>Qu.mp hb▸ha
theorem Sta.four (S:Sta C h₀ L k w H h) {a:Addr} (ha:h.objs.size<=a):4<=a:=Qa S.big (Qa S.fr.above (Qa (QC S.fr.ns.lt) ha))
inductive zjN (C:Cfg) (h₀:Heap) (L:Addr) (k:Kp) (w:Wd) (H:MH) (h:Heap):Prop
 |mk (all:Led) (n:News h₀ L h all)
  (add: ∀ (a:Addr) (o:MObj) (en:Led) (h':Heap),lB C ⟨w.σ++ [a],w.tp⟩ a o en->Fr h₀ L h' k.m->News h₀ L h' (en++all) ->Led.nd en->(∀p∈en,∀q∈all,p.1≠q.1) ->4<=a->Sta C h₀ L k ⟨w.σ++ [a],w.tp⟩ (H++ [o]) h')
  (tp: ∀ (a:Addr) (o:Obj) (h':Heap),Fr h₀ L h' k.m->News h₀ L h' ((a,o)::all) ->h.objs.size<=a->Sta C h₀ L k ⟨w.σ,(a,o)::w.tp⟩ H h')
  (heap: ∀h':Heap,Fr h₀ L h' k.m->News h₀ L h' all->Sta C h₀ L k w H h'):zjN C h₀ L k w H h
theorem v7 {en all:Led} (h:Led.nd en) (h':Led.nd all) (hf: ∀p∈en,∀q∈all,p.1≠q.1):Led.nd (en++all):=by
 unfold Led.nd;rw [Qy,Zg];refine ⟨h,h',λx hx y hy=>?_⟩;obtain ⟨p,hp,rfl⟩:=QF.mp hx;obtain ⟨q,hq,rfl⟩:=QF.mp hy;exact hf p hp q hq
theorem News.fresh {all en:Led} (hn:News h₀ L h all) (he: ∀p∈en,h.objs.size<=p.1): ∀p∈en,∀q∈all,p.1≠q.1:=
 λp hp q hq e=>absurd (Xd (hn q hq).1) (ZV.mpr (e▸he p hp))
theorem hO (p:Addr×Obj):Led.nd [p]:=Qw.mpr ⟨Qq,.nil⟩
theorem Sta.ledger (S:Sta C h₀ L k w H h):zjN C h₀ L k w H h:=by
 obtain ⟨os,he,hn,hd⟩:=S.os;refine ⟨_,hn,λa o en h' hr F N hen hf h4=>⟨F,⟨os++ [en],iZ.snoc hr (iZ.mono (w:=w) (w':=⟨w.σ++ [a],w.tp⟩) ⟨Q9 _ _,λ_ x=>x⟩ he),λp hp=>N p ((qS k w a en os).mem_iff.mpr hp),Led.nd.perm (qS k w a en os) (v7 hen hd hf)⟩,S.big,S.loNew h4⟩,
  λa o h' F N ha=>⟨F,⟨os,iZ.mono (w:=w) (w':=⟨w.σ,(a,o)::w.tp⟩) ⟨Kr _,λ_ x=> .tail _ x⟩ he,λp hp=>N p ((zbQ k w (a,o) os).mem_iff.mpr hp),Led.nd.perm (zbQ k w (a,o) os) (v7 (hO _) hd (News.fresh hn λp hp=>Qu.mp hp▸ha))⟩,S.big,S.lo⟩,
  λh' F N=>⟨F,⟨os,he,N,hd⟩,S.big,S.lo⟩⟩
theorem Sta.tpAt (S:Sta C h₀ L k w H h) {c:Addr}{o:Obj} (hc:(c,o)∈w.tp):h.get? c=some o:=OsO.casesOn S.os λ_ _ hn _=>(hn (c,o) (QG _ (Jr _ hc))).1
theorem Sta.ceAt (S:Sta C h₀ L k w H h) {c:Addr}{o:Obj} (hc:(c,o)∈k.ce):h.get? c=some o:=OsO.casesOn S.os λ_ _ hn _=>(hn (c,o) (QG _ (QG _ (Jr _ hc)))).1
theorem Sta.exAt (S:Sta C h₀ L k w H h) {c:Addr}{o:Obj} (hc:(c,o)∈k.ex):h.get? c=some o:=OsO.casesOn S.os λ_ _ hn _=>(hn (c,o) (QG _ (QG _ (QG _ hc)))).1
inductive IsL (C:Cfg) (w:Wd) (h:Heap) (v:Value) (mvs:List Val):Prop
 |mk (a:Addr) (vs:List Value) (n:Nat) (e:v= .ref a) (g:h.get? a=some (listOf vs.toArray n)) (r:aD C w mvs vs) (l:mvs.length<=lim):IsL C w h v mvs
theorem Sta.list (S:Sta C h₀ L k w H h) {x:Val}{v:Value}{mvs:List Val} (hv:aF C w x v) (ho:b5 H x=some mvs):
  IsL C w h v mvs:=by
 obtain ⟨i,e,h1⟩:=bs ho;obtain ⟨o,hi,h2⟩:=bs h1;cases ref?_s e;cases list?_s h2;obtain ⟨a,rfl,ha⟩:=hv;obtain ⟨pre,en,post,⟨vs,n,rfl,r,l⟩,hn,_,_⟩:=S.at ha hi;exact ⟨a,vs,n,rfl,(hn (a,_) (QG _ (.head _))).1,r,l⟩
end
structure aY (C:Cfg) (d e:Nat) where
 A:Around
 h₀:Heap
 L:Addr
 envF:Env
 below: ∃A₀ base outer,Below A₀ base outer h₀/\A.frames=some (envF::outer)
 k:C.K.In h₀
 top: ∃p loose mean mg mb,Top p loose mean mg mb h₀
 frame:envF.frame=some L
 kind:envF.scope.kind= .function
 handled:A.handled=none
 depth:A.depth+4*d+2+e<=900
 units:A.units+20*d+190+5*e<=9900
def aY.toW {C:Cfg}{d e:Nat} (Y:aY C d e):aY C d 0:=
 {A:=Y.A,h₀:=Y.h₀,L:=Y.L,envF:=Y.envF,below:=Y.below,k:=Y.k,top:=Y.top,frame:=Y.frame,kind:=Y.kind,handled:=Y.handled,depth:=Qa (Ql (Qs e) _) Y.depth,units:=Qa (Ql (Qs _) _) Y.units}
abbrev St {C:Cfg}{d e:Nat} (Y:aY C d e) (k:Kp) (w:Wd) (H:MH) (s:Shared):Prop:=Sta C Y.h₀ Y.L k w H s.heap
structure gZ (s s':Shared):Prop where
 g:s'.gens=s.gens
 o:s'.os=s.os
theorem gZ.refl (s:Shared):gZ s s:=⟨rfl,rfl⟩
theorem gZ.trans {a b c:Shared} (x:gZ a b) (y:gZ b c):gZ a c:=⟨y.1.trans x.1,y.2.trans x.2⟩
structure Nxt {C:Cfg}{d e:Nat} (Y:aY C d e) (k:Kp) (w w':Wd) (H':MH) (s s':Shared):Prop where
 le:w.le w'
 st:St Y k w' H' s'
 same:gZ s s'
def zhk {α β:Type}{C:Cfg}{d e:Nat} (Y:aY C d e) (k:Kp) (R:Wd->β->α->Prop) (t:Sem α) (w:Wd) (s:Shared) (r:β) (H':MH):Prop:=
 ∀ (Q:α->Shared->Prop) (E:Value->Shared->Prop),(∀w' a s',Nxt Y k w w' H' s s'->R w' r a->Q a s') ->wpAny C.M Y.A t Q E s
def Ref {α β:Type}{C:Cfg}{d e:Nat} (Y:aY C d e) (k:Kp) (R:Wd->β->α->Prop) (t:Sem α) (w:Wd) (s:Shared) (o:Option (β×MH)):Prop:=
 ∀r,o=some r->zhk Y k R t w s r.1 r.2
section
variable {α β γ δ:Type}{C:Cfg}{d e:Nat}{Y:aY C d e}{k:Kp}{R:Wd->β->α->Prop}{R':Wd->δ->γ->Prop}{w:Wd}{s:Shared}{t:Sem α}{o:Option (β×MH)}{H:MH}
theorem Nxt.refl (S:St Y k w H s):Nxt Y k w w H s s:=⟨.refl w,S,.refl s⟩
theorem Nxt.toks (S:St Y k w H s) (n:Nat):Nxt Y k w w H s {s with toks:=n}:=⟨.refl w,S,rfl,rfl⟩
theorem Nxt.trans {w1 w2:Wd}{H1 H2:MH}{s1 s2:Shared} (a:Nxt Y k w w1 H1 s s1) (b:Nxt Y k w1 w2 H2 s1 s2):Nxt Y k w w2 H2 s s2:=⟨a.le.trans b.le,b.st,a.same.trans b.same⟩
theorem Ref.none:Ref Y k R t w s none:=λ_ h=>nos h
theorem Ref.bind {f:β->MH->Option (δ×MH)}{g:α->Sem γ} (h:Ref Y k R t w s o) (hk: ∀w' a s' r H1,Nxt Y k w w' H1 s s'->R w' r a->Ref Y k R' (g a) w' s' (f r H1)):Ref Y k R' (t>>=g) w s (bnd o f):=by
 intro r' e Q E hq;cases o with
 |none=>exact nos e
 |some p=>exact wpAny_bind (h p rfl _ _ λw' a s' n1 r1=>hk w' a s' p.1 p.2 n1 r1 r' e Q E λw2 a2 s2 n2 r2=>hq w2 a2 s2 (n1.trans n2) r2)
theorem Ref.pure' {r:β}{a:α} (S:St Y k w H s) (hr:R w r a):Ref Y k R (pure a:Sem α) w s (some (r,H)):=by
 intro r' e Q E hq;cases e;exact wpAny_pure (hq w a s (.refl S) hr)
theorem Ref.alt {o':Option (β×MH)} (h:Ref Y k R t w s o) (h':Ref Y k R t w s o'):Ref Y k R t w s (alt o o'):=by
 cases o with
 |none=>exact h'
 |some p=>exact h
theorem Ref.grd {b:Bool} (h:b=true->Ref Y k R t w s o):Ref Y k R t w s (grd b o):=by
 cases b with
 |false=>exact .none
 |true=>exact h rfl
theorem Ref.opt {x:Option γ}{f:γ->Option (β×MH)} (h: ∀a,x=some a->Ref Y k R t w s (f a)):Ref Y k R t w s (x.bind f):=by
 cases x with
 |none=>exact .none
 |some a=>exact h a rfl
theorem Ref.omap {x:Option γ}{f:γ->β×MH} (h: ∀a,x=some a->Ref Y k R t w s (some (f a))):Ref Y k R t w s (x.map f):=by
 cases x with
 |none=>exact .none
 |some a=>exact h a rfl
theorem Ref.case {x:Option γ}{f:γ->Option (β×MH)} (h0:x=QY->Ref Y k R t w s o) (h: ∀a,x=some a->Ref Y k R t w s (f a)):Ref Y k R t w s (Qr (motive:=λ_=>Option (β×MH)) x o f):=by
 cases x with
 |none=>exact h0 rfl
 |some a=>exact h a rfl
theorem Ref.val {r:β} (S:St Y k w H s) (h: ∀ (Q:α->Shared->Prop) (E:Value->Shared->Prop),(∀a tk,R w r a->Q a {s with toks:=tk}) ->wpAny C.M Y.A t Q E s):Ref Y k R t w s (some (r,H)):=by
 intro r' e Q E hq;cases e;exact h Q E λa tk hr=>hq w a _ (.toks S tk) hr
theorem Ref.stand {p:Pos} (h:Ref Y k R t w s o):Ref Y k R (standAt p>>=λ_=>t) w s o:=λr e Q E hq=>wpAny_bind (wpAny_standAt (h r e Q E hq))
theorem Ref.hold {vs:List Value} (h:Ref Y k R t w s o):Ref Y k R (holding vs t) w s o:=λr e Q E hq=>wpAny_holding (h r e Q E hq)
end
abbrev VR (C:Cfg):Wd->Val->Value->Prop:=λw m v=>aF C w m v
abbrev VRS (C:Cfg):Wd->List Val->List Value->Prop:=λw m v=>aD C w m v
abbrev EqR {α:Type}:Wd->α->α->Prop:=λ_ r a=>a=r
structure nL (C:Cfg):Prop where
 adK : ∀ id a,C.ad.lookup id = some a -> ∃ o,C.K.lookup a = some o /\ o.cls ≠ .type "tuple"
 adInj: ∀i j a,C.ad.lookup i=some a->C.ad.lookup j=some a->i=j
 low: ∀b,b<4-> ∃o,C.K.lookup b=some o
def GlR (C : Cfg) (p : Str × Val) (rv : Value) : Prop := (∀ w,aF C w p.2 rv) /\ (nsIn C.K mainGlobals p.1 = some (some rv) \/ (nsIn C.K mainGlobals p.1 = some none /\ p.1 ≠ "__name__" /\ bootBuiltins p.1 = some rv))
def zhi (C:Cfg) (gl:List (Str×Val)):Prop:= ∀x v,gl.lookup x=some v-> ∃rv,GlR C (x,v) rv
def m4:Nat:=200000
def Cfg.cx (C:Cfg) (d:Nat):Cx:=⟨C.P,m4,c7 C.P m4 d⟩
def NsO (o:Obj) (m:Str->Option Value):Prop:= ∃es ep,o.data= .dict es ep/\StrKeys es/\∀name,nsFind es name=m name
structure Blk (cx:CC) (env:Env) (L:Addr) (k:Kp) (mE:Str->Option Value):Prop where
 kind:env.scope.kind= .function
 gl:env.globals=mainGlobals
 bl:env.builtins=builtinsNs
 sc:env.scope.names=cx.sc
 cells: ∀x,cx.sc.lookup x=some .cell-> ∃c o v₀,env.cells.lookup x=some c/\(c,o)∈k.ce/\o.data= .cell v₀
 loc:(env.locals=L/\mE=k.m)\/∃o,(env.locals,o)∈k.ex/\NsO o mE
inductive zbk (C:Cfg) (w:Wd) (cx:CC) (env:Env) (ce:Led) (mE:Str->Option Value) (x:Str) (v:Val):Prop
 |loc (rv:Value) (k:cx.sc.lookup x=some .local) (e:mE x=some rv) (r:aF C w v rv):zbk C w cx env ce mE x v
 |cell (rv:Value) (c:Addr) (o:Obj) (k:cx.sc.lookup x=some .cell) (e:env.cells.lookup x=some c) (m:(c,o)∈ce) (h:o.data= .cell (some rv)) (r:aF C w v rv):zbk C w cx env ce mE x v
theorem zbk.mono {C:Cfg}{w w':Wd} (l:w.le w') {cx:CC}{env:Env}{ce:Led}{mE:Str->Option Value}{x:Str}{v:Val} (h:zbk C w cx env ce mE x v):zbk C w' cx env ce mE x v:=
 zbk.casesOn h (λrv a b r=> .loc rv a b (r.mono l)) (λrv c o a b m h r=> .cell rv c o a b m h (r.mono l))
def zvs (C:Cfg) (w:Wd) (cx:CC) (env:Env) (ce:Led) (mE:Str->Option Value) (fr:Frame):Prop:=
 ∀x i v,d4 cx x=some i->fr[i]?=some (some v) ->zbk C w cx env ce mE x v
structure Pl {C:Cfg}{d e:Nat} (Y:aY C d e) (cx:CC) (env:Env) (k:Kp) (mE:Str->Option Value) (fr:Frame) (w:Wd) (H:MH) (s:Shared):Prop where
 b:Blk cx env Y.L k mE
 f:zvs C w cx env k.ce mE fr
 st:St Y k w H s
theorem Pl.next {C:Cfg}{d e:Nat}{Y:aY C d e}{cx:CC}{env:Env}{k:Kp}{mE:Str->Option Value}{fr:Frame}{w w':Wd}{H H':MH}{s s':Shared} (p:Pl Y cx env k mE fr w H s) (n:Nxt Y k w w' H' s s'):Pl Y cx env k mE fr w' H' s':=
 ⟨p.b,λx i v a b=>(p.f x i v a b).mono n.le,n.st⟩
def dA (C:Cfg) (d:Nat) (cx:CC) (e:Expr) (ir:Ex):Prop:=
 ∀ (Y:aY C d 2) (env:Env) (k:Kp) (mE:Str->Option Value) (fr:Frame) (w:Wd) (H:MH) (s:Shared),Pl Y cx env k mE fr w H s->Ref Y k (VR C) (PySem.eval e env) w s (eval (C.cx d) ir fr H)
def pM (C:Cfg) (d:Nat) (cx:CC) (e:Expr) (ir:Ex):Prop:=
 ∀ (Y:aY C d 2) (env:Env) (k:Kp) (mE:Str->Option Value) (fr:Frame) (w:Wd) (H:MH) (s:Shared),Pl Y cx env k mE fr w H s->Ref Y k EqR (PySem.isTrue e env (PySem.eval e env)) w s (b6 (eval (C.cx d) ir fr H))
section
variable {C:Cfg}{d e:Nat}{Y:aY C d e}{k:Kp}{w:Wd}{H:MH}{s:Shared}{cx:CC}{env:Env}{mE:Str->Option Value}{fr:Frame}
theorem Sta.kIn {h:Heap} (S:Sta C Y.h₀ Y.L k w H h):C.K.In h:=Y.k.keeps S.fr.keep
theorem Blk.ns (B:Blk cx env Y.L k mE) (S:St Y k w H s):s.heap.Ns env.locals mE:=by
 rcases B.loc with h| ⟨o,ho,es,ep,h⟩
 ·rw [h.1,h.2];exact S.fr.ns
 ·exact ⟨o,es,ep,S.exAt ho,h⟩
theorem zeZ {x:List Nat} (h:zlo x=true):sOk x:=by
 have h:=Qb.mp h;exact ⟨λc hc=>QW.mp (Jc.mp h.1 c hc),QW.mp h.2⟩
theorem zcP {c:Const}{n:Nat}{pos:Pos}{v:Val} (hc:zgJ c=some v):dA C d cx (.Constant c n pos) (.lit v):=by
 intro Y env k mE fr w H s p;refine .val p.st λQ E q=>?_;cases c with
 |none=>cases hc;exact wpAny_pure (q _ s.toks rfl)
 |bool b=>cases hc;exact wpAny_pure (q _ s.toks rfl)
 |int i=>cases hc;exact λ_ _ _=>q _ _ ⟨_,rfl⟩
 |str x=>
  obtain ⟨h,e⟩:=gs hc;cases e;exact λ_ _ _=>q _ _ ⟨_,by rw [Array.toArray_toList],zeZ h⟩
 |_=>exact nos hc
theorem mR {x : Str} (h : aI x = true) : (x == ("__debug__" : Str)) = false := by
 have h1:=(Qb.mp (Qb.mp (Qb.mp (Qb.mp h).1).1).1).2;cases hx : (x == ("__debug__" : Str)) with
 |false=>rfl
 | true => rw [show (x != ("__debug__" : Str)) = !(x == ("__debug__" : Str)) from rfl,hx] at h1; cases h1
theorem Blk.kindOf (B:Blk cx env Y.L k mE) {x:Str}{n:NameKind} (h:cx.sc.lookup x=some n):env.kindOf x=some n:=by unfold Env.kindOf;rw [B.sc];exact h
theorem zh5 {x:Str}{pos:Pos}{i:Nat} (hx:aI x=true) (hi:d4 cx x=some i):dA C d cx (.Name x pos) (.var i):=by
 intro Y env k mE fr w H s p;refine .opt λov ho=> .omap λv hv=> .val p.st λQ E q=>wpAny_Name ?_ (mR hx);subst hv;cases p.f x i v hi ho with
 |loc rv hk e r=>exact wpAny_loadName_local p.b.kind (p.b.kindOf hk) (p.b.ns p.st) e (q rv s.toks r)
 |cell rv c o hk e m h r=>exact wpAny_loadName_cell p.b.kind (p.b.kindOf hk) e ⟨o,p.st.ceAt m,h⟩ (q rv s.toks r)
theorem zeQ (G:zhi C cx.gl) {x:Str}{pos:Pos}{v:Val} (hx:aI x=true) (hk:cx.sc.lookup x=some .globalImplicit) (hg:cx.gl.lookup x=some v):dA C d cx (.Name x pos) (.lit v):=by
 intro Y env k mE fr w H s p;refine .val p.st λQ E q=>?_;refine (G x v hg).elim λrv zq9=>?_;have hn:=zq9.2;obtain ⟨_,_,_,mg,mb,T⟩:=Y.top;have q:=q rv s.toks (zq9.1 w);refine Name_function_global p.b.kind (p.b.kindOf hk) ?_ (mR hx);have tg:=T.g.keeps p.st.fr.keep;rw [<-p.b.gl] at tg;rcases hn with hn| ⟨hn,hne,hb⟩
 ·exact loadGlobal_global tg (mg_of Y.k T.g hn) q
 ·have tb:=T.b.keeps p.st.fr.keep
  rw [<-p.b.bl] at tb;exact loadGlobal_builtin tg (mg_none_of Y.k T.g hn) tb ((T.builtins x hne).trans hb) q
theorem x8 {x:Str}{pos:Pos}{ir:Ex} (G:zhi C cx.gl) (hc:zfz cx x=some ir):dA C d cx (.Name x pos) ir:=by
 obtain ⟨hx,hc⟩:=gs hc;cases hv:d4 cx x with
 |none=>
  rw [hv] at hc;obtain ⟨hk,hc⟩:=gs hc;refine (ms hc).elim λv zq1=>?_;obtain rfl:=zq1.2;exact zeQ G hx (beq_iff_eq.mp hk) zq1.1
 |some i=>
  rw [hv] at hc;cases hc;exact zh5 hx hv
theorem z3 {M:Model}{A:Around}{operands:List Value}{t:Sem Value}{Q:Value->Shared->Prop}{E:Value->Shared->Prop} (h:wpAny M A t Q E s):wpAny M A (operate operands t) Q E s:=by
 unfold operate;exact wpAny_bind (wpAny_holding (wpAny_mono h (λr s' q=>wpAny_bind (wpAny_release (wpAny_pure q))) λ_ _ x=>x))
theorem Ref.operate {operands:List Value}{t:Sem Value}{o:Option (Val×MH)} (h:Ref Y k (VR C) t w s o):Ref Y k (VR C) (operate operands t) w s o:=λr e Q E hq=>z3 (h r e Q E hq)
end
section
variable {C:Cfg}{d e:Nat}{Y:aY C d e}{k:Kp}{w:Wd}{H:MH}{s:Shared}{cx:CC}{env:Env}{mE:Str->Option Value}{fr:Frame}
theorem c5:lim<=sizeLine:=by decide+kernel
theorem jE {n:Nat} (h:n<=lim):(n:Int)<2 ^ 63:=Int.lt_of_le_of_lt (Yp.mpr h) (by decide)
theorem Ref.newL {t:Sem Value}{mvs:List Val}{vs:List Value} (S:St Y k w H s) (r:aD C w mvs vs) (hl:mvs.length<=lim)
  (h: ∀ (Q:Value->Shared->Prop) (E:Value->Shared->Prop) all,News Y.h₀ Y.L s.heap all->(∀h' tk,Fr Y.h₀ Y.L h' k.m->News Y.h₀ Y.L h' ((s.heap.objs.size,listOf vs.toArray 0)::all) ->Q (.ref s.heap.objs.size) {s with heap:=h',toks:=tk}) ->wpAny C.M Y.A t Q E s):
  Ref Y k (VR C) t w s (dW H (.list mvs)):=by
 intro r' er Q E hq;cases er;obtain ⟨all,hn,add,_,_⟩:=S.ledger;exact h Q E all hn λh' tk F N=>hq _ _ _ ⟨(⟨Q9 _ _,λ_ x=>x⟩:w.le ⟨w.σ++ [s.heap.objs.size],w.tp⟩),add _ (.list mvs) [_] h' ⟨vs,0,rfl,r.mono (⟨Q9 _ _,λ_ x=>x⟩:w.le ⟨w.σ++ [s.heap.objs.size],w.tp⟩),hl⟩ F N (hO _) (News.fresh hn λp hp=>Qu.mp hp▸Qj _) (S.four (Qj _)),rfl,rfl⟩ ⟨_,rfl,by rw [<-S.len];exact Jk⟩
theorem zis {mvs:List Val}{vs:List Value} (r:aD C w mvs vs) (n:Nat):aD C w (QB n mvs).flatten (QB n vs).flatten:=by
 induction n with
 |zero=>exact .nil
 |succ n ih=>exact ih.append r
theorem ziu {α:Type} (vs:List α) (k:Nat): ∀acc:Array α,(List.foldl (λx1 x2=>x1++x2) acc (QB k vs.toArray))=acc++(QB k vs).flatten.toArray:=by
 induction k with
 |zero=>intro acc;exact (Array.append_empty).symm
 |succ k ih=>
  intro acc;refine (ih _).trans ?_;simp only [YL,ZA,Array.append_assoc,YM]
theorem zit {α:Type} (n:Nat) (vs:List α):(QB (if vs.toArray.isEmpty=true then 0 else n) vs).flatten=(QB n vs).flatten:=by
 cases vs with
 |nil=>simp
 |cons v r=>rfl
theorem zi2 {α:Type}{n:Nat}{s:List α}:(QB n s).flatten.length=s.length*n:=by rw [List.length_flatten,KU,List.sum_replicate_nat,KR]
theorem zhV (a b:List Nat):((⟨a.toArray⟩:Str)++(⟨b.toArray⟩:Str))=⟨(a++b).toArray⟩:=congrArg Str.mk (YM a b)
theorem zih {x y:Val}{a b:Value} (S:St Y k w H s) (ha:aF C w x a) (hb:aF C w y b):Ref Y k (VR C) (binaryOp .Add a b) w s (zkB H x y):=by
 refine .alt (.opt λi hi=> .opt λj hj=>?_) (.opt λi hi=> .opt λj hj=> .grd λhl=>?_)
 ·obtain ⟨t,rfl⟩:=ha.int? hi
  obtain ⟨u,rfl⟩:=hb.int? hj;exact .val S λQ E q=>add_int (q _ _ ⟨_,rfl⟩)
 ·refine (ha.str? hi).elim λt zq18=>?_
  obtain rfl:=zq18.1;refine (hb.str? hj).elim λu zq17=>?_;obtain rfl:=zq17.1;have hl:=QW.mp hl;exact .val S λQ E q=>add_str (λt' tk=>q _ tk ⟨t',congrArg (Zl · t') (zhV i j),λc hc=>(QU.mp hc).elim (zq18.2.1 c) (zq17.2.1 c),by rw [Qv];exact hl⟩) (Qa hl c5)
theorem r5 {a:Int}{b:Nat} (h:a.natAbs<2 ^ b):YN a<=b+1:=by
 unfold YN;split
 ·exact Qs _
 ·rename_i h0
  exact Jd ((X3 λe=>h0 (by rw [YX.mp e];rfl)).mpr h)
theorem zmu {a b:Int} (h:yY a b=true):IntMulOk a b:=by
 have h:=Qb.mp h;have h1:=r5 (QW.mp h.1);have h2:=r5 (QW.mp h.2);unfold IntMulOk;rw [Jz,not_and];intro _;unfold Builtin.Int.intTooBig;rw [decide_eq_true_eq,show bitsLine=134217728 by decide+kernel];lia
theorem ziv {l:Nat}{n:Int} (h:yJ l n=true):n<=1000000/\ -1000000<=n/\l*n.toNat<=lim:=by
 have h:=Qb.mp h;exact ⟨of_decide_eq_true (Qb.mp h.1).1,of_decide_eq_true (Qb.mp h.1).2,QW.mp h.2⟩
theorem zh8 {x y:Val}{a b:Value} (S:St Y k w H s) (ha:aF C w x a) (hb:aF C w y b):Ref Y k (VR C) (binaryOp .Mult a b) w s (yX H x y):=by
 refine .alt (.opt λi hi=> .opt λj hj=> .grd λhl=>?_) (.alt (.opt λi hi=> .opt λj hj=>?_) (.opt λi hi=> .opt λj hj=> .grd λhl=>?_))
 ·obtain ⟨t,rfl⟩:=ha.int? hi
  obtain ⟨u,rfl⟩:=hb.int? hj;exact .val S λQ E q=>mul_int (q _ _ ⟨_,rfl⟩) (zmu hl)
 ·obtain ⟨t,rfl⟩:=ha.int? hi
  cases bool?_s hj;cases hb;exact .val S λQ E q=>IntBool.mul_int_bool (q _ _ ⟨_,rfl⟩)
 ·obtain ⟨u,rfl⟩:=hb.int? hj
  obtain ⟨a1,vs,n,rfl,g1,r1,l1⟩:=S.list ha hi;obtain ⟨h1,h2,h3⟩:=ziv hl;refine .newL S (zis r1 j.toNat) (by rw [zi2];exact h3) λQ E all hn q=>mul_list S.fr hn g1 (by lia) (by lia) ?_ λh' F N=>q h' _ F ?_
  ·rw [Je,<-r1.length];exact Qa h3 (by decide)
  ·have e:=ziu vs (if vs.toArray.isEmpty=true then 0 else j.toNat) #[]
   rw [Array.empty_append,zit] at e;rw [<-e];exact N
theorem zcV {x y:Int} (h:y.natAbs<divB):Builtin.divisionGoesByPylong x y=false:=by
 unfold Builtin.divisionGoesByPylong
 have:(if (y==0)=true then 0 else y.natAbs.log2 / 30+1)<=300:=by
  split
  ·exact Qs _
  ·rename_i hz
   have:=(X3 λe=>hz (by rw [YX.mp e];rfl)).mpr h
   lia
 simp only [JW,decide_eq_false_iff_not];exact .inl (Q6 this)
theorem zkt {b:Int} (h:(b !=0)=true): ¬b=0:=bne_iff_ne.mp h
theorem zcS {op:Operator}{o:BOp} (ho:zcd op=some o) {x y:Int}{t u:Tok}{z:Int} (S:St Y k w H s) (e:zT o x y=some z):Ref Y k (VR C) (binaryOp op (.int x t) (.int y u)) w s (some (.int z,H)):=by
 refine .val S λQ E q=>?_;cases op<;>cases ho
 ·exact nos e
 ·cases e;exact sub_int (q _ _ ⟨_,rfl⟩)
 ·exact nos e
 ·obtain ⟨h,e⟩:=gs e
  cases e;exact mod_int' (zkt h) (q _ _ ⟨_,rfl⟩)
 ·exact nos e
 ·obtain ⟨h,e⟩:=gs e
  cases e;exact floordiv_int (zkt (Qb.mp h).1) (q _ _ ⟨_,rfl⟩) (.inl (zcV (QW.mp (Qb.mp h).2)))
theorem zcR {op:Operator}{o:BOp} (ho:zcd op=some o) {x y:Val}{a b:Value} (S:St Y k w H s) (ha:aF C w x a) (hb:aF C w y b):Ref Y k (VR C) (binaryOp op a b) w s (gA o x y H):=by
 refine .alt (.opt λi hi=> .opt λj hj=> .omap λz hz=>?_) ?_
 ·obtain ⟨t,rfl⟩:=ha.int? hi
  obtain ⟨u,rfl⟩:=hb.int? hj;exact zcS ho S hz
 ·cases op<;>cases ho
  ·exact zih S ha hb
  ·exact .none
  ·exact zh8 S ha hb
  ·exact .none
  ·exact .none
  ·exact .none
theorem zig {l r:Expr}{op:Operator}{pos:Pos}{o:BOp}{il ir:Ex} (ho:zcd op=some o) (hl:dA C d cx l il) (hr:dA C d cx r ir):dA C d cx (.BinOp l op r pos) (.bin o il ir):=
 λY env k mE fr w H s p=> .bind (hl Y env k mE fr w H s p) λw1 a1 s1 x H1 n1 r1=> .bind (.hold (hr Y env k mE fr w1 H1 s1 (p.next n1))) λw2 a2 s2 y H2 n2 r2=> .stand (.operate (zcR ho n2.st (r1.mono n2.le) r2))
end
theorem wA {α β:Type}{f:α->Option β}{x:α}{l:List α}{r:List β} (h:(x::l).mapM f=some r): ∃y ys,f x=some y/\l.mapM f=some ys/\r=y::ys:=by
 rw [ZW] at h;refine (bs h).elim λy zq33=>?_;have h:=zq33.2;obtain ⟨ys,hys,h⟩:=bs h;exact ⟨y,ys,zq33.1,hys,(Qx.inj h).symm⟩
inductive RdO (h:Heap) (v:Value) (d:PyData) (k:Nat):Prop
 |mk (as:List Addr) (r:Reads h v d as) (c:d.canLay0=true) (l:d.depth<=k):RdO h v d k
inductive zvp (h:Heap) (v:List Value) (d:List PyData) (k:Nat):Prop
 |mk (as:List Addr) (r:ReadsAll h v d as) (c:PyData.canLayAll0 d=true) (l:PyData.depthAll d<=k):zvp h v d k
section
variable {C:Cfg}{d e:Nat}{Y:aY C d e}{k:Kp}{w:Wd}{H:MH}{s:Shared}{cx:CC}{env:Env}{mE:Str->Option Value}{fr:Frame}
inductive IsT (C:Cfg) (w:Wd) (h:Heap) (v:Value) (mvs:List Val):Prop
 | mk (a : Addr) (o : Obj) (n : Nat) (vs : List Value) (e : v = .ref a) (g : h.get? a = some o) (c : o.cls = .type "tuple") (dt : o.data = .seq vs.toArray n) (r : aD C w mvs vs) (l : mvs.length <= lim) : IsT C w h v mvs
theorem Sta.tup {h:Heap} (S:Sta C Y.h₀ Y.L k w H h) {mvs:List Val}{v:Value} (hv:aF C w (.tup mvs) v):IsT C w h v mvs:=
 zjJ.casesOn hv λa o n vs e q r l=>⟨a,o,n,vs,e,q.1.elim S.tpAt (S.kIn _ _),q.2,q.3,r,l⟩
theorem kA {n:Nat}{h:Heap} (ih: ∀v rv dt,aF C w v rv->toD H n v=some dt->RdO h rv dt n):
  ∀ {mvs:List Val}{vs:List Value}{ds:List PyData},aD C w mvs vs->mvs.mapM (toD H n)=some ds->zvp h vs ds n:=by
 intro mvs
 induction mvs with
 |nil=>intro vs ds h e;cases h;cases e;exact ⟨[],.nil,rfl,Qs _⟩
 |cons m mvs ih'=>
  intro vs ds h e;obtain ⟨y,ys,e1,e2,rfl⟩:=wA e;obtain ⟨v,r,rfl,h,h'⟩:=h;obtain ⟨as,r1,c1,d1⟩:=ih _ _ _ h e1;obtain ⟨bs,r2,c2,d2⟩:=ih' h' e2;exact ⟨as++bs,.cons r1 r2,Qb.mpr ⟨c1,c2⟩,Nat.max_le.mpr ⟨d1,d2⟩⟩
theorem gQ {h:Heap} (S:Sta C Y.h₀ Y.L k w H h): ∀ (n:Nat) (v:Val) (rv:Value) (dt:PyData),aF C w v rv->toD H n v=some dt->RdO h rv dt n:=by
 have flat: ∀ (n:Nat) (v:Val) (rv:Value) (dt:PyData),aF C w v rv->toD H 0 v=some dt->RdO h rv dt n:=by
  intro n v rv dt hv e;cases v with
  |none=>cases e;cases hv;exact ⟨[],.none,rfl,Qs _⟩
  |bool b=>cases e;cases hv;exact ⟨[],.bool b,rfl,Qs _⟩
  |int i=>cases e;obtain ⟨t,rfl⟩:=hv;exact ⟨[],.int i t,rfl,Qs _⟩
  |str x=>cases e;obtain ⟨t,rfl,ok⟩:=hv;exact ⟨[],.str _ t,by simpa [PyData.canLay0,PyData.strOk] using ok.1,Qs _⟩
  |_=>exact nos e
 intro n
 induction n with
 |zero=>exact flat 0
 |succ n ih=>
  intro v rv dt hv e;cases v with
  |tup vs=>
   obtain ⟨ds,e1,rfl⟩:=ms e;obtain ⟨a,o,n',ws,rfl,g,hc,hd,r,_⟩:=S.tup hv;obtain ⟨as,ra,c1,d1⟩:=kA ih r e1;exact ⟨as,.tuple g hc hd ra,c1,Jq d1⟩
  |ref i=>
   obtain ⟨vs,hl,e⟩:=bs e;obtain ⟨ds,e1,rfl⟩:=ms e;obtain ⟨a,ws,n',rfl,g,r,_⟩:=S.list hv hl;obtain ⟨as,ra,c1,d1⟩:=kA ih r e1;exact ⟨a::as,.list g rfl rfl ra,c1,Jq d1⟩
  |none=>exact flat _ _ _ _ hv e
  |bool b=>exact flat _ _ _ _ hv e
  |int i=>exact flat _ _ _ _ hv e
  |str x=>exact flat _ _ _ _ hv e
  |_=>exact nos e
theorem aY.u (Y:aY C d e) {n:Nat} (h:n<=180):Y.A.units+n<9900:=Qi (QT (Qk h (by decide:180<190)) _) (Qa (Qa (QV (Qf _ (20*d)) 190) (Qf _ _)) Y.units)
def EqW {C:Cfg}{d e:Nat} (Y:aY C d e) (s:Shared) (vx vy:Value) (r:Bool):Prop:=
 ∀ (Q:Value->Shared->Prop) (E:Value->Shared->Prop),(Q (.bool r) s->wpAny C.M Y.A (compareOp .Eq vx vy) Q E s)/\(Q (.bool (!r)) s->wpAny C.M Y.A (compareOp .NotEq vx vy) Q E s)
theorem zid (S:St Y k w H s) {x y:Val}{vx vy:Value}{r:Bool} (hx:aF C w x vx) (hy:aF C w y vy) (e:z8 H x y=some r):EqW Y s vx vy r:=by
 obtain ⟨dx,e1,e⟩:=bs e;obtain ⟨dy,e2,rfl⟩:=ms e;obtain ⟨_,r1,c1,d1⟩:=gQ S 8 x vx dx hx e1;obtain ⟨_,r2,c2,d2⟩:=gQ S 8 y vy dy hy e2;have hu:Y.A.units+min dx.depth dy.depth<9900:=Y.u (Qa (Km (Z9 _ _)) (Qa (QA d2 d1) (Qn _ _)));exact λQ E=>⟨SeqAt.compareEq_reads r1 r2 c1 c2 hu,SeqAt.compareNe_reads r1 r2 c1 c2 hu⟩
end
def Atom.dat (a:Atom):PyData:=Atom.casesOn (motive:=λ_=>PyData) a .int .str
theorem qC (h:MH) (k:Nat) (a:Atom):toD h k a.val=some a.dat:=by cases a<;>cases k<;>rfl
theorem zI (a b:Atom):YW a.dat b.dat=decide (a=b):=by
 cases a with
 |i x=>
  cases b with
  |i y=>show (x==y)=_;rw [Zw,beq_iff_eq,decide_eq_true_eq,Atom.i.injEq]
  |s y=>rfl
 |s x=>
  cases b with
  |i y=>rfl
  |s y=>show (x==y)=_;rw [Zw,beq_iff_eq,decide_eq_true_eq,Atom.s.injEq]
theorem zaV (h:MH) (k:Nat) (as:List Atom):(as.map Atom.val).mapM (toD h k)=some (as.map Atom.dat):=by
 induction as with
 |nil=>rfl
 |cons a r ih=>rw [Qz,ZW,qC,ih];rfl
theorem wQ (as:List Atom): ∀bs:List Atom,XG (as.map Atom.dat) (bs.map Atom.dat)=decide (as=bs):=by
 induction as with
 |nil=>intro bs;cases bs<;>rfl
 |cons a x ih=>
  intro bs;cases bs with
  |nil=>rfl
  |cons b y=>
   show (YW a.dat b.dat && XG (x.map Atom.dat) (y.map Atom.dat))=_;rw [zI,ih,<-Bool.decide_and,decide_eq_decide,Z0.injEq]
theorem y6 (a b:Atom):kEq a.val b.val=decide (a=b):=by
 unfold kEq z8;rw [qC,qC];exact zI a b
theorem zb0 (as bs:List Atom):kEq (.tup (as.map Atom.val)) (.tup (bs.map Atom.val))=decide (as=bs):=by
 have e: ∀l:List Atom,toD [] 8 (.tup (l.map Atom.val))=some (.tuple (l.map Atom.dat)):=λl=>congrArg (Xw PyData.tuple) (zaV [] 7 l);unfold kEq z8;rw [e,e];exact wQ as bs
theorem y5 {v:Val} (h:iA v=true): ∃a:Atom,v=a.val:=by
 cases v with
 |int n=>exact ⟨.i n,rfl⟩
 |str x=>exact ⟨.s ⟨x.toArray⟩,rfl⟩
 |_=>cases h
theorem mY (a:Atom):cW a.val=1:=by cases a<;>rfl
theorem zdp {vs:List Val} (h:vs.all iA=true): ∃as:List Atom,vs=as.map Atom.val:=by
 induction vs with
 |nil=>exact ⟨[],rfl⟩
 |cons v r ih=>
  refine (y5 (Qb.mp h).1).elim λa zq12=>?_;obtain rfl:=zq12;refine (ih (Qb.mp h).2).elim λas zq11=>?_;obtain rfl:=zq11;exact ⟨a::as,rfl⟩
theorem zdR (as:List Atom):(as.map Atom.val).all iA=true:=by
 induction as with
 |nil=>rfl
 |cons a r ih=>exact Qb.mpr ⟨by cases a<;>rfl,ih⟩
theorem jF (as:List Atom):cW (.tup (as.map Atom.val))=3:=by
 show (bif (as.map Atom.val).all iA then 3 else 0)=3;rw [zdR];rfl
theorem kG {v:Val} (h:(cW v !=0)=true):(∃a:Atom,v=a.val)\/∃as:List Atom,v= .tup (as.map Atom.val):=by
 unfold cW at h;cases ha:iA v with
 |true=>exact .inl (y5 ha)
 |false=>
  rw [ha] at h;cases ht:v.tup? with
  |none=>rw [ht] at h;cases h
  |some vs=>
   cases tup?_s ht;cases hal:vs.all iA with
   |true=>obtain ⟨as,rfl⟩:=zdp hal;exact .inr ⟨as,rfl⟩
   |false=>
    have h':((bif vs.all iA then 3 else 0:Nat) !=0)=true:=h;rw [hal] at h';cases h'
section
variable {prog:Program}{w:World}{Kk:Type} [DecidableEq Kk] {knd:KeyKind prog w Kk}{A:Around}{E:Value->Shared->Prop}{s:Shared}
theorem z4 {d:Addr}{es:List DictEntry}{ep:Nat}{kvs:List (Kk×Value)}{k:Kk}{key v:Value}{Q:Unit->Shared->Prop} (hkey:knd.is k key=true) (ho:s.heap.get? d=some (dictOf es ep)) (hk:KeysOf knd es.toArray) (hp:Pairs knd es kvs) (hn:(kvs.map (·.1)).Nodup) (hsz:es.length<=sizeLine)
  (h: ∀ (es':List DictEntry) (f:Obj->Obj),f (dictOf es ep)=dictOf es' (if kvs.any (λkv=>kv.1=k) then ep else ep+1) ->KeysOf knd es'.toArray->Pairs knd es' (stored kvs k v) ->((stored kvs k v).map (·.1)).Nodup->
   Q () {s with heap:=s.heap.update d f,toks:=s.toks+1}):wpAny (model prog w) A (dictSet d key v) Q E s:=by
 unfold dictSet
 try with_reducible refine wpAny_holding ?_
 refine wpAny_bind (knd.pyHash hkey ?_);unfold dictSetHashed
 try with_reducible refine wpAny_holding ?_
 refine wpAny_bind (wpAny_dictFind_of (s:={s with toks:=s.toks+1}) hkey ho rfl hk ?_);have hidx:(es.toArray.findIdx? λe=>knd.is k e.key)=kvs.findIdx? λkv=>decide (kv.1=k):=by
  rw [<-hp.findIdx k];simp
 cases hi:es.toArray.findIdx? λe=>knd.is k e.key with
 |some i=>
  have hany:=any_of_findIdx_some (hidx▸hi);refine wpAny_bind (wpAny_rule (wpAny_bind (wpAny_updateDict (s:={s with toks:=s.toks+1}) ho rfl (wpAny_point ?_))));refine h (es.modify i λe=> {e with val:=v}) _ ?_ ?_ ?_ ?_
  ·rw [if_pos hany];simp [dictOf,Obj.mapDict]
  ·have:=hk.modify i v;simpa using this
  ·rw [(by rw [stored,if_pos hany]:stored kvs k v=kvs.map (λkv=>if kv.1=k then (kv.1,v) else kv))];exact hp.modify hn (by rw [<-hi];simp:(es.findIdx? λe=>knd.is k e.key)=some i) v
  ·rw [(by rw [stored,if_pos hany]:stored kvs k v=kvs.map (λkv=>if kv.1=k then (kv.1,v) else kv)),keys_map_store];exact hn
 |none=>
  have hnot:k∉kvs.map (·.1):=not_mem_of_findIdx_none (hidx▸hi);have hany: ¬(kvs.any λkv=>decide (kv.1=k))=true:=by
   rw [ZE];rintro ⟨kv,hkv,he⟩;exact hnot (QF.mpr ⟨kv,hkv,of_decide_eq_true he⟩)
  refine wpAny_bind (wpAny_rule (wpAny_updateDictKeys (hz:=by simpa using hsz) (s:={s with toks:=s.toks+1}) ho rfl ?_));refine h (es++ [⟨knd.hash k,key,v⟩]) _ ?_ ?_ ?_ ?_
  ·rw [if_neg hany];simp [dictOf,Obj.mapDictKeys]
  ·have:=hk.push hkey v;simpa using this
  ·rw [(by rw [stored,if_neg hany]:stored kvs k v=kvs++ [(k,v)])];exact hp.append hkey (knd.hash k) v
  ·rw [(by rw [stored,if_neg hany]:stored kvs k v=kvs++ [(k,v)]),Qy,Zg]
   refine ⟨hn,Qw.mpr ⟨Qq,.nil⟩,?_⟩;intro a ha b hb;rw [Qu.mp hb];exact λe=>hnot (show k∈_ from (show a=k from e)▸ha)
theorem s7 {d : Addr} {key v : Value} {Q : Unit -> Shared -> Prop} (hT : s.TypeIs (.ref d) "dict") (h : wpAny (model prog w) A.in1 (dictSet d key v) Q E s) : wpAny (model prog w) A (setItem (.ref d) key v) Q E s := by
 unfold setItem
 try with_reducible refine wpAny_holding ?_
 refine wpAny_bind (wpAny_sequenceKey hT (by decide) ?_);refine wpAny_bind (wpAny_callSpecial?_slot (name:=Str.ofString "__setitem__") hT slot_dict_setitem
  (wpAny_call_entry slot_dict_setitem hT entry_dict_setitem ?_ (args_dict_setitem _ _ _)))
 show wpAny _ _ (Builtin.Dict.notOrdered "__setitem__" ⟨[.ref d,key,v],[]⟩ >>= _) _ _ s;refine wpAny_bind (wpAny_notOrdered_dict hT ?_);show wpAny _ _ (dictSet d key v>>=_) _ _ s;exact wpAny_bind (wpAny_mono h (λ_ s' q=>wpAny_pure ⟨.none,rfl,wpAny_pure q⟩) λ_ _ e=>e)
end
section
variable {prog:Program}{w:World}{Kk:Type} [DecidableEq Kk] {knd:HeapKind prog w Kk}{A:Around}{E:Value->Shared->Prop}{s:Shared}
theorem xO {d a:Addr}{ep:Nat}{xs:List (Kk×Addr×Value)}{k:Kk}{v:Value}{Q:Unit->Shared->Prop} (hu:knd.room A) (hkey:knd.is s.heap k a) (ho:s.heap.get? d=some (dictOf (xs.map (entryOfKey knd)) ep)) (his: ∀x∈xs,knd.is s.heap x.1 x.2.1) (hn:(xs.map (·.1)).Nodup) (hsz:xs.length<=sizeLine)
  (h: ∀ (f:Obj->Obj),f (dictOf (xs.map (entryOfKey knd)) ep)=dictOf ((storedH xs k a v).map (entryOfKey knd)) (if (atKey xs k).isSome then ep else ep+1) ->((storedH xs k a v).map (·.1)).Nodup->
   Q () {s with heap:=s.heap.update d f,toks:=s.toks+knd.draws k}):wpAny (model prog w) A (dictSet d (.ref a) v) Q E s:=by
 have he:((xs.map (entryOfKey knd)).toArray).toList=xs.map (entryOfKey knd):=rfl;unfold dictSet
 try with_reducible refine wpAny_holding ?_
 refine wpAny_bind (knd.pyHash hu hkey ?_);unfold dictSetHashed
 try with_reducible refine wpAny_holding ?_
 refine wpAny_bind (wpAny_dictFind_heap (s:={s with toks:=s.toks+knd.draws k}) hu hkey ho rfl he his hn ?_ ?_)
 ·intro hno
  have hnot:k∉xs.map (·.1):=not_mem_keys_of_get hno;refine wpAny_bind (wpAny_rule (wpAny_updateDictKeys (hz:=by have e:=size_of_entries he;exact Qa (Qt e) hsz) (s:={s with toks:=s.toks+knd.draws k}) ho rfl ?_));refine h _ ?_ ?_
  ·rw [storedH_new (atKey_none_of_get hno),atKey_none_of_get hno]
   simp [dictOf,Obj.mapDictKeys,entryOfKey]
  ·rw [storedH_new (atKey_none_of_get hno),Qy,Zg]
   refine ⟨hn,Qw.mpr ⟨Qq,.nil⟩,?_⟩;intro x hx y hy;rw [Qu.mp hy];exact λe=>hnot (show k∈_ from (show x=k from e)▸hx)
 ·intro j p hj
  refine wpAny_bind (wpAny_rule (wpAny_bind (wpAny_updateDict (s:={s with toks:=s.toks+knd.draws k}) ho rfl (wpAny_point ?_))));refine h _ ?_ ?_
  ·rw [storedH_old (atKey_of_get hn hj),atKey_of_get hn hj]
   have:=modify_map_putAt (entryOfKey knd) (λe:DictEntry=> {e with val:=v}) k v (λ_ _=>rfl) hn hj
   rw [<-this]
   simp [dictOf,Obj.mapDict]
  ·rw [storedH_old (atKey_of_get hn hj),keys_map_putAt];exact hn
end
section
variable {C:Cfg}{d e:Nat}{Y:aY C d e}{k:Kp}{w:Wd}{H:MH}{s:Shared}{cx:CC}{env:Env}{mE:Str->Option Value}{fr:Frame}
theorem aF.atom {a:Atom}{v:Value} (h:aF C w a.val v):a.is v=true/\a.ok:=by
 cases a with
 |i n=>obtain ⟨t,rfl⟩:=h;exact ⟨beq_self_eq_true n,trivial⟩
 |s x=>obtain ⟨t,rfl,ok⟩:=h;exact ⟨beq_self_eq_true x,ok⟩
theorem aD.items {as:List Atom}: ∀ {vs:List Value},aD C w (as.map Atom.val) vs->ItemsAre (b9 C.prog C.w) as vs:=by
 induction as with
 |nil=>intro vs h;cases h;exact .nil
 |cons a r ih=>intro vs h;obtain ⟨v,t,rfl,h1,h2⟩:=h;exact .cons h1.atom.1 (ih h2)
theorem Sta.tupKey {h:Heap} (S:Sta C Y.h₀ Y.L k w H h) {as:List Atom}{v:Value} (hv:aF C w (.tup (as.map Atom.val)) v): ∃t,v= .ref t/\IsTupleKey (b9 C.prog C.w) h as t:=by
 obtain ⟨t,o,n,ws,e,ho,hc,hd,rr,hl⟩:=S.tup hv;exact ⟨t,e,o,ws.toArray,n,ho,hc,hd,rr.items⟩
theorem zfw {a:Addr}{o:Obj}{pre post:Led} (h:Led.nd (pre++([(a,o)]++post))): ∀q∈pre++post,q.1≠a:=
 λq hq e=>(Qw.mp (Led.nd.perm (Ks (a:=(a,o)) (l₁:=pre) (l₂:=post)) h)).1 (QF.mpr ⟨q,hq,e⟩)
theorem Sta.upd (S:St Y k w H s) {i:Nat}{a:Addr}{o o':MObj}{ob':Obj}{h':Heap} (ha:w.σ[i]?=some a) (ho:H[i]?=some o) (hen: ∀en,lB C w a o en-> ∃ob,en= [(a,ob)])
  (hs:Heap.SameBut a s.heap h') (hg:h'.get? a=some ob') (hr':lB C w a o' [(a,ob')]):Sta C Y.h₀ Y.L k w (H.set i o') h':=by
 obtain ⟨pre,en,post,hr,hn,hd,g⟩:=S.at ha ho;refine (hen en hr).elim λob1 zq8=>?_;obtain rfl:=zq8;have hm:=hn (a,ob1) (QG _ (.head _));refine g o' [(a,ob')] h' rfl hr' ⟨S.fr.ns.sameBut hs (JE hm.2.1),λc x e=>(hs.2 c (λq=>?_)).trans (S.fr.keep c x e),S.fr.above⟩ ?_
 ·rw [q,hm.2.2] at e;cases e
 ·intro p hp
  rcases QU.mp hp with hp|hp
  ·have:=hn p (Jr _ hp)
   exact ⟨(hs.2 p.1 ((zfw hd) p (Jr _ hp))).trans this.1,this.2⟩
  ·rcases QU.mp hp with hp|hp
   ·rw [Qu.mp hp]
    exact ⟨hg,hm.2⟩
   ·have:=hn p (QG _ (QG _ hp))
    exact ⟨(hs.2 p.1 ((zfw hd) p (QG _ hp))).trans this.1,this.2⟩
inductive IsD {C:Cfg}{d e:Nat} (Y:aY C d e) (k:Kp) (w:Wd) (H:MH) (s:Shared) (i:Nat) (v:Value) (p:Option Nat×List (Val×Val)):Prop
 |mk (a:Addr) (n:Nat) (es:List DictEntry) (e:v= .ref a) (m:(a==sysModules)=false) (hep: ∀x,p.1=some x->n=x) (g:s.heap.get? a=some (dictOf es n)) (r:i0 C w p.2 es) (l:p.2.length<=lim)
   (upd: ∀h' o' ob',Heap.SameBut a s.heap h'->h'.get? a=some ob'->lB C w a o' [(a,ob')]->Sta C Y.h₀ Y.L k w (H.set i o') h'):IsD Y k w H s i v p
theorem Sta.dictI (S:St Y k w H s) {i:Nat}{v:Value}{p:Option Nat×List (Val×Val)} (hv:aF C w (.ref i) v) (ho:H[i]?.bind MObj.dict?=some p):IsD Y k w H s i v p:=by
 obtain ⟨o,hi,h2⟩:=bs ho;cases dict?_s h2;obtain ⟨a,e,ha⟩:=hv;obtain ⟨pre,en,post,⟨es,n,rfl,hep,dr,l⟩,hn,_,_⟩:=S.at ha hi;refine ⟨a,n,es,e,beq_eq_false_iff_ne.mpr λq=>absurd (S.lo a (Qd ha)) (by rw [q];decide),hep,(hn (a,_) (QG _ (.head _))).1,dr,l,λh' o' ob' g2 g3 g4=>S.upd ha hi (λen h=>?_) g2 g3 g4⟩;obtain ⟨_,_,rfl,_,_,_⟩:=h;exact ⟨_,rfl⟩
theorem Sta.dict (S:St Y k w H s) {x:Val}{v:Value}{p:Option Nat×List (Val×Val)} (hv:aF C w x v) (ho:dictAt H x=some p): ∃i,x= .ref i/\IsD Y k w H s i v p:=by
 refine (bs ho).elim λi zq4=>?_;have e:=zq4.1;cases ref?_s e;exact ⟨i,rfl,S.dictI hv zq4.2⟩
theorem y3 {α:Type}{mes:List (Val×Val)}{f:α->Val}{l:List α} (e:mes.map (·.1)=l.map f):mes.length=l.length:=by
 have:=congrArg JK e
 rwa [Qe,Qe] at this
theorem DA.nil:DA C w [] [] []:=⟨.nil,λe he=>absurd he (by simp),.nil,rfl,λ_ h=>absurd h Qq,.nil⟩
theorem DT.nil:DT C w [] [] []:=⟨rfl,.nil,λ_ h=>absurd h Qq,rfl,.nil⟩
theorem u4 {mes:List (Val×Val)}{x:Val}{p:Val×Val}{r:List (Val×Val)} (hf:aN mes x=true) (e:mes=p::r):cW p.1=cW x:=by
 subst e;exact Qx.inj (beq_iff_eq.mp (Qb.mp hf).2)
theorem i0.atom {mes:List (Val×Val)}{es:List DictEntry}{a:Atom} (hf:aN mes a.val=true) (h:i0 C w mes es): ∃kvs,DA C w mes es kvs:=by
 rcases h with h| ⟨xs,D⟩
 ·exact h
 ·cases mes with
  |nil=>
   have:=D.e
   cases xs with
   |nil=>rw [D.es];exact ⟨[],.nil⟩
   |cons _ _=>cases this
  |cons p r=>
   have e:=D.e;cases xs with
   |nil=>cases e
   |cons x xs=>
    have:=u4 hf rfl
    rw [show p.1= .tup (x.1.map Atom.val) from (Z0.inj e).1,jF,mY] at this;cases this
theorem i0.tups {mes:List (Val×Val)}{es:List DictEntry}{as:List Atom} (hf:aN mes (.tup (as.map Atom.val))=true) (h:i0 C w mes es): ∃xs,DT C w mes es xs:=by
 rcases h with ⟨kvs,D⟩|h
 ·cases mes with
  |nil=>
   have:=D.e
   cases kvs with
   |nil=>have p:=D.p;cases p;exact ⟨[],.nil⟩
   |cons _ _=>cases this
  |cons p r=>
   have e:=D.e;cases kvs with
   |nil=>cases e
   |cons x kvs=>
    have:=u4 hf rfl
    rw [show p.1=x.1.val from (Z0.inj e).1,jF,mY] at this;cases this
 ·exact h
theorem DA.dictOf {mes:List (Val×Val)}{es:List DictEntry}{kvs:List (Atom×Value)}{a n:Nat}{h:Heap} (D:DA C w mes es kvs) (hg:h.get? a=some (W.dictOf es n)):h.DictOf (b9 C.prog C.w) a kvs:=
 ⟨_,es.toArray,n,hg,⟨rfl,rfl,rfl⟩,rfl,D.k,D.p,D.n⟩
theorem DT.keys {h:Heap} (S:Sta C Y.h₀ Y.L k w H h) {mes:List (Val×Val)}{es:List DictEntry}{xs:List (List Atom×Addr×Value)} (D:DT C w mes es xs): ∀x∈xs,IsTupleKey (b9 C.prog C.w) h x.1 x.2.1:=λx hx=>by
 obtain ⟨t,e,q⟩:=S.tupKey (D.v x hx);cases e;exact q
theorem DT.dictOf {h:Heap} (S:Sta C Y.h₀ Y.L k w H h) {mes:List (Val×Val)}{es:List DictEntry}{xs:List (List Atom×Addr×Value)}{b n:Nat} (D:DT C w mes es xs) (hg:h.get? b=some (W.dictOf es n)):h.DictOfH (tupleKind (b9 C.prog C.w)) b xs:=
 ⟨_,_,n,D.es▸hg,⟨rfl,rfl,rfl⟩,rfl,rfl,D.keys S,D.n⟩
def zdY (C:Cfg) (w:Wd) (m:Option Val) (v:Option Value):Prop:=(m=none/\v=none)\/∃mv rv,m=some mv/\v=some rv/\aF C w mv rv
theorem u3 {α:Type} [DecidableEq α] {mk:α->Val} (hmk: ∀a b,kEq (mk a) (mk b)=decide (a=b)) (k:α): ∀ {kvs:List (α×Value)}{mes:List (Val×Val)},mes.map (·.1)=kvs.map (λp=>mk p.1) ->aD C w (mes.map (·.2)) (kvs.map (·.2)) ->zdY C w (a9 mes (mk k)) (valueAt kvs k):=by
 intro kvs
 induction kvs with
 |nil=>intro mes e r;rw [KO.mp e];exact .inl ⟨rfl,rfl⟩
 |cons y kvs ih=>
  intro mes e r;cases mes with
  |nil=>cases e
  |cons x mes=>
   obtain ⟨e1,e2⟩:=Z0.inj e;obtain ⟨v,t,ev,h,r⟩:=r;obtain ⟨rfl,rfl⟩:=Z0.inj ev;have ih:=ih e2 r;unfold a9 valueAt at ih ⊢;rw [Ka,Ka,show x.1=mk y.1 from e1,hmk];cases hk:decide (y.1=k) with
   |true=>exact .inr ⟨_,_,rfl,rfl,h⟩
   |false=>exact ih
theorem zdY.isSome {m:Option Val}{v:Option Value} (h:zdY C w m v):m.isSome=v.isSome:=by
 rcases h with ⟨rfl,rfl⟩| ⟨_,_,rfl,rfl,_⟩<;>rfl
theorem DA.get {mes:List (Val×Val)}{es:List DictEntry}{kvs:List (Atom×Value)} (D:DA C w mes es kvs) (k:Atom):zdY C w (a9 mes k.val) (valueAt kvs k):=u3 y6 k D.e D.r
theorem DT.sides {mes:List (Val×Val)}{es:List DictEntry}{xs:List (List Atom×Addr×Value)} (D:DT C w mes es xs):mes.map (·.1)=(kvsOf xs).map (λp=>Val.tup (p.1.map Atom.val))/\aD C w (mes.map (·.2)) ((kvsOf xs).map (·.2)):=by
 refine ⟨?_,?_⟩
 ·rw [D.e];simp [kvsOf]
 ·have:=D.r
  simpa [kvsOf,Function.comp_def] using this
theorem DT.get {mes:List (Val×Val)}{es:List DictEntry}{xs:List (List Atom×Addr×Value)} (D:DT C w mes es xs) (k:List Atom):zdY C w (a9 mes (.tup (k.map Atom.val))) ((atKey xs k).map (·.2)):=by
 rw [<-valueAt_kvsOf];exact u3 (mk:=λas:List Atom=>Val.tup (as.map Atom.val)) zb0 k D.sides.1 D.sides.2
theorem aY.room (Y:aY C d e):(tupleKind (b9 C.prog C.w)).room Y.A.in1:=tupleKind_room_in1 (Y.u (by decide))
end
section
variable {C:Cfg}{d e:Nat}{Y:aY C d e}{k:Kp}{w:Wd}{H:MH}{s:Shared}{cx:CC}{env:Env}{mE:Str->Option Value}{fr:Frame}
theorem yD (S:St Y k w H s) {x y:Val}{vx vy:Value}{r:Bool} (hx:aF C w x vx) (hy:aF C w y vy):veq H x y=some r->EqW Y s vx vy r:=
 cA (aX λ_ _ e=>nos e) (zid S hx hy)
theorem Sta.grown {h h':Heap} (S:Sta C Y.h₀ Y.L k w H h) (he:Heap.ExtBut h.objs.size h h'):Sta C Y.h₀ Y.L k w H h':=
 zjN.casesOn S.ledger λall hn _ _ g=>g h' (S.fr.extBut he (Qj _)) λp hp=>⟨he p.1 p.2 (Zd (Xd (hn p hp).1)) (hn p hp).1,(hn p hp).2⟩
theorem aD.empty {mvs:List Val}{vs:List Value} (r:aD C w mvs vs):vs.toArray.isEmpty=mvs.isEmpty:=by
 cases mvs with
 |nil=>cases r;rfl
 |cons m mvs=>obtain ⟨v,t,rfl,_,_⟩:=r;rfl
theorem lQ (S:St Y k w H s) {x:Val}{v:Value}{r:Bool} (hx:aF C w x v) (e:truthy H x=some r) {Q:Bool->Shared->Prop}{E:Value->Shared->Prop} (h: ∀tk,Q r {s with toks:=tk}):wpAny C.M Y.A (PySem.truthy v) Q E s:=by
 cases x with
 |none=>cases hx;cases e;exact truthy_none (h s.toks)
 |bool b=>cases hx;cases e;exact wpAny_truthy_bool (h s.toks)
 |int i=>obtain ⟨t,rfl⟩:=hx;cases e;exact truthy_int (h s.toks)
 |str l=>
  cases e;obtain ⟨t,rfl,ok⟩:=hx;refine P.truthy_str (YY.mpr (jE ok.2)) ?_;have e:(((⟨l.toArray⟩:Str).length:Int) !=0)=!l.isEmpty:=by cases l<;>rfl
  rw [e];exact h _
 |tup vs=>
  cases e;obtain ⟨t,o,n,ws,rfl,ho,hc,hd,rr,hl⟩:=S.tup hx;refine truthy_tuple (items:=ws.toArray) ⟨o,ho,hc,n,hd⟩ (by rw [Je,<-rr.length];exact jE hl) ?_;rw [rr.empty];exact h _
 |ref i=>
  refine (ms e).elim λvs zq31=>?_;obtain rfl:=zq31.2;obtain ⟨t,ws,n,rfl,ho,rr,hl⟩:=S.list hx zq31.1;refine wpAny_truthy_list (items:=ws.toArray) ⟨_,ho,rfl,n,rfl⟩ (by rw [Je,<-rr.length];exact jE hl) ?_;rw [rr.empty];exact h _
 |_=>exact nos e
theorem bO {α β:Type} [BEq α] [LawfulBEq α] {a:α}{b:β}: ∀ {l:List (α×β)},l.lookup a=some b->(a,b)∈l:=by
 intro l
 induction l with
 |nil=>exact λh=>nos h
 |cons p l ih=>
  intro h;rw [Jf] at h;cases e:(a==p.1) with
  |true=>rw [e] at h;cases h;rw [beq_iff_eq.mp e];exact .head _
  |false=>rw [e] at h;exact .tail _ (ih h)
theorem zco: ∀p∈iK,∀q∈iK,(p.1==q.1)=(p.2==q.2):=by decide
theorem uE {A : Around} {a b : Addr} {oa ob : Obj} {Q : Bool -> Shared -> Prop} {E : Value -> Shared -> Prop} (ha : s.heap.get? a = some oa) (hb : s.heap.get? b = some ob) (hc : ob.cls ≠ .type "tuple") (h : Q (a == b) s) : wpAny C.M A (isSame (.ref a) (.ref b)) Q E s := by
 unfold isSame
 dsimp only
 by_cases e:a=b
 ·subst e
  rw [if_pos (by simp)];rw [beq_self_eq_true] at h;exact wpAny_pure h
 ·rw [if_neg (by simpa using e)]
  rw [beq_eq_false_iff_ne.mpr e] at h;refine wpAny_bind (wpAny_load ha (wpAny_bind (wpAny_load hb ?_)));split
  ·rename_i q _ _
   exact absurd q hc
  ·exact wpAny_pure h
theorem aF.isNone {x:Val}{v:Value} (h:aF C w x v):isSame v .none=pure x.isNone:=by
 rw [isSame_none];cases x with
 |none=>cases h;rfl
 |bool b=>cases h;rfl
 |int i=>obtain ⟨t,rfl⟩:=h;rfl
 |str i=>obtain ⟨t,rfl,_⟩:=h;rfl
 |tup i=>obtain ⟨_,_,_,_,rfl,_,_,_⟩:=h;rfl
 |ref i=>obtain ⟨_,rfl,_⟩:=h;rfl
 |top i=>obtain ⟨_,rfl,_⟩:=h;rfl
 |ty i=>obtain ⟨_,rfl,_⟩:=h;rfl
 |bi i=>obtain ⟨_,rfl,_⟩:=h;rfl
 |rng i=>obtain ⟨_,_,_,_,rfl,_⟩:=h;rfl
 |fl i=>obtain ⟨_,_,_,_,rfl,_,_,_⟩:=h;rfl
 |setn i=>obtain ⟨_,_,_,_,_,rfl,_⟩:=h;rfl
theorem zeO (K:nL C) (S:St Y k w H s) {x y:Val}{vx vy:Value}{r:Bool} (hx:aF C w x vx) (hy:aF C w y vy) {Q:Bool->Shared->Prop}{E:Value->Shared->Prop} (h:Q r s):isV x y=some r->wpAny C.M Y.A (isSame vx vy) Q E s:=by
 have plain:isSame vx vy=pure r->wpAny C.M Y.A (isSame vx vy) Q E s:=λq=>by rw [q];exact wpAny_pure h
 refine cA (cZ λq e=>?_) (cA (aX λi e1=>bU λj e2 e=>?_) (cA (aX λi e1=>bU λj e2 e=>?_) (cZ λq=>bU λj e2 e=>?_)))
 ·clear h
  cases y8 q;cases hy;exact plain (hx.isNone.trans (congrArg pure (Qx.inj e)))
 ·clear h
  cases ty?_s e1;cases ty?_s e2;obtain ⟨n1,rfl,h1⟩:=hx;obtain ⟨n2,rfl,h2⟩:=hy;refine plain (congrArg pure (Eq.trans ?_ ((zco _ (bO h1) _ (bO h2)).symm.trans e)));by_cases e:n1=n2
  ·subst e;simp
  ·rw [beq_eq_false_iff_ne.mpr e,beq_eq_false_iff_ne.mpr (λq=>e (Qh.inj q))]
 ·clear plain
  cases top?_s e1;cases top?_s e2;obtain ⟨a1,rfl,h1⟩:=hx;obtain ⟨a2,rfl,h2⟩:=hy;refine (K.adK _ _ h1).elim λo1 zq25=>?_;refine (K.adK _ _ h2).elim λo2 zq24=>?_;refine uE (S.kIn _ _ zq25.1) (S.kIn _ _ zq24.1) zq24.2 ?_;have e':(a1==a2)=(i==j):=by
   rw [Zw,beq_iff_eq,beq_iff_eq];exact ⟨λq=>K.adInj _ _ _ h1 (q▸h2),λq=>Qx.inj ((q▸h1:C.ad.lookup j=some a1).symm.trans h2)⟩
  rw [e',e];exact h
 ·cases top?_s e2
  obtain ⟨b,rfl,h2⟩:=hy;subst e;cases x with
  |none=>cases hx;exact plain rfl
  |int i=>obtain ⟨t,rfl⟩:=hx;exact plain rfl
  |tup vs=>
   clear plain
   refine (K.adK _ _ h2).elim λo zq22=>?_;obtain ⟨ta,ot,n,ws,rfl,hg,hct,_,_,_⟩:=S.tup hx;refine uE hg (S.kIn _ _ zq22.1) zq22.2 ?_;rw [beq_eq_false_iff_ne.mpr λq=>zq22.2 (by rw [<-hct,Qx.inj ((q▸hg:s.heap.get? b=some ot).symm.trans (S.kIn _ _ zq22.1))])];exact h
  |_=>cases q
def InW {C:Cfg}{d e:Nat} (Y:aY C d e) (s:Shared) (vx vy:Value) (r:Bool):Prop:=
 ∀ (Q:Value->Shared->Prop) (E:Value->Shared->Prop),((∀tk,Q (.bool r) {s with toks:=tk}) ->wpAny C.M Y.A (compareOp .In vx vy) Q E s)/\((∀tk,Q (.bool (!r)) {s with toks:=tk}) ->wpAny C.M Y.A (compareOp .NotIn vx vy) Q E s)
theorem one?_s {s:List Nat}{c:Nat} (h:one? s=some c):s= [c]:=by
 cases s with
 |nil=>exact nos h
 |cons a r=>
  cases r with
  |nil=>cases h;rfl
  |cons _ _=>exact nos h
theorem zeP (S:St Y k w H s) {x y:Val}{vx vy:Value}{r:Bool} (hx:aF C w x vx) (hy:aF C w y vy):za1 H x y=some r->InW Y s vx vy r:=by
 have hu: ∀ {a b:Nat},a<=7->Y.A.units+1+min a b<cLine:=λh=>by rw [Q1];exact Y.u (Qa (Ql (Qa (Z9 _ _) h) 1) (by decide))
 refine cA (aX λt e1=>bU λc e2 e=>?_) (cA (aX λvs e1=>aX λds e2=>bU λdx e3 e=>?_) (cA (aX λvs e1=>aX λds e2=>bU λdx e3 e=>?_) (aX λp e1=>cZ λhf e=>?_)))
 ·obtain ⟨x',e3,e2⟩:=bs e2
  cases one?_s e2;refine (hx.str? e3).elim λu zq19=>?_;obtain rfl:=zq19.1;refine (hy.str? e1).elim λt' zq18=>?_;obtain rfl:=zq18.1;have hc:t.contains c=decide (c∈t):=by rw [Zw,Zp,decide_eq_true_eq]
  rw [<-e,hc];refine λQ E=>⟨λh=>in_str ?_,λh=>notIn_str ?_⟩
  ·rw [show (⟨[c].toArray⟩:Str)=⟨#[c]⟩ from rfl,(StrLaws.found_one ⟨t.toArray⟩ c)]
   exact h s.toks
  ·rw [show (⟨[c].toArray⟩:Str)=⟨#[c]⟩ from rfl,(StrLaws.found_one ⟨t.toArray⟩ c)]
   exact h s.toks
 ·cases tup?_s e1
  obtain ⟨t,o,n,ws,rfl,ho,hc,hd,rr,_⟩:=S.tup hy;obtain ⟨as,ra,c1,d1⟩:=kA (gQ S 7) rr e2;obtain ⟨bs,rb,c2,d2⟩:=gQ S 7 x vx dx hx e3;rw [<-e];exact λQ E=>⟨λh=>SeqAt.in_tuple_reads (.tuple ho hc hd ra:Reads s.heap (.ref t) (.tuple ds) as) rb c1 c2 (hu d1) (h s.toks),λh=>SeqAt.notIn_tuple_reads (.tuple ho hc hd ra:Reads s.heap (.ref t) (.tuple ds) as) rb c1 c2 (hu d1) (h s.toks)⟩
 ·obtain ⟨t,ws,n,rfl,ho,rr,_⟩:=S.list hy e1
  obtain ⟨as,ra,c1,d1⟩:=kA (gQ S 7) rr e2;obtain ⟨bs,rb,c2,d2⟩:=gQ S 7 x vx dx hx e3;rw [<-e];have R:Reads s.heap (.ref t) (.list ds) (t::as):= .list ho rfl rfl ra;exact λQ E=>⟨λh=>SeqAt.in_list_reads R rb c1 c2 (hu d1) (h s.toks),λh=>SeqAt.notIn_list_reads R rb c1 c2 (hu d1) (h s.toks)⟩
 ·refine (S.dict hy e1).elim λi zq11=>?_
  obtain ⟨b,n,es,rfl,hmod,_,hg,hdr,_,_⟩:=zq11.2;rw [<-Qx.inj e];rcases kG (Qb.mp hf).1 with ⟨q,rfl⟩| ⟨q,rfl⟩
  ·obtain ⟨kvs,D⟩:=hdr.atom hf
   rw [(D.get q).isSome];exact λQ E=>⟨λh=>wpAny_in_of hx.atom.1 hmod (D.dictOf hg).mapOf (h _),λh=>wpAny_notIn_of hx.atom.1 hmod (D.dictOf hg).mapOf (h _)⟩
  ·obtain ⟨xs,D⟩:=hdr.tups hf
   obtain ⟨t,rfl,ht⟩:=S.tupKey hx;rw [(D.get q).isSome,Kg];exact λQ E=>⟨λh=>wpAny_in_heap Y.room ht hmod (D.dictOf S hg) (h _),λh=>wpAny_notIn_heap Y.room ht hmod (D.dictOf S hg) (h _)⟩
theorem zbF {op:CmpOp} (K:nL C) (S:St Y k w H s) {x y:Val}{vx vy:Value} (hx:aF C w x vx) (hy:aF C w y vy):Ref Y k (VR C) (compareOp op vx vy) w s ((dQ (zb8 op) x y H).map λr=>(.bool r,H)):=by
 refine .omap λr e=> .val S λQ E q=>?_;have h: ∀tk,Q (.bool r) {s with toks:=tk}:=λtk=>q _ tk rfl;have h0:=h s.toks;have cmpQ: ∀ {f:Int->Int->Bool}{t:Sem Value},zgN x y f=some r->(∀a b t1 t2,vx= .int a t1->vy= .int b t2->r=f a b->wpAny C.M Y.A t Q E s) ->wpAny C.M Y.A t Q E s:=λe g=>by
  obtain ⟨a,e1,e⟩:=bs e;obtain ⟨b,e2,rfl⟩:=ms e;obtain ⟨t1,q1⟩:=hx.int? e1;obtain ⟨t2,q2⟩:=hy.int? e2;exact g a b t1 t2 q1 q2 rfl
 cases op with
 |Eq=>exact (yD S hx hy e Q E).1 h0
 |NotEq=>
  obtain ⟨q,hq,rfl⟩:=ms e;exact (yD S hx hy hq Q E).2 h0
 |Lt=>exact cmpQ e λa b t1 t2 e1 e2 e3=>by subst e1 e2 e3;exact lt_int h0
 |LtE=>exact cmpQ e λa b t1 t2 e1 e2 e3=>by subst e1 e2 e3;exact le_int h0
 |Gt=>exact cmpQ e λa b t1 t2 e1 e2 e3=>by subst e1 e2 e3;exact gt_int h0
 |GtE=>exact cmpQ e λa b t1 t2 e1 e2 e3=>by subst e1 e2 e3;exact ge_int h0
 |In=>exact (zeP S hx hy e Q E).1 h
 |NotIn=>
  obtain ⟨q,hq,rfl⟩:=ms e;exact (zeP S hx hy hq Q E).2 h
 |Is=>exact wpAny_bind (zeO K S hx hy (wpAny_pure h0) e)
 |IsNot=>
  obtain ⟨q,hq,rfl⟩:=ms e;exact wpAny_bind (zeO K S hx hy (wpAny_pure h0) hq)
end
abbrev Kp.ext (k:Kp) (p:Addr×Obj):Kp:= {k with ex:=p::k.ex}
theorem dZ (k:Kp) (w:Wd) (os:List Led) (p:Addr×Obj):((k.ext p).all w os).Perm (p::k.all w os):=by
 have:=Ks (a:=p) (l₁:=os.flatten++(w.tp++k.ce)) (l₂:=k.ex)
 rw [Qm,Qm,Qm,Qm] at this;exact this
section
variable {C:Cfg}{h₀:Heap}{L:Addr}{k:Kp}{w:Wd}{H:MH}{h h':Heap}{b:Addr}{o o':Obj}
theorem Sta.addEx (S:Sta C h₀ L k w H h) (o:Obj) (hf:o.isFreed=false):Sta C h₀ L (k.ext (h.objs.size,o)) w H (h.push o):=by
 obtain ⟨os,he,hn,hd⟩:=S.os;exact ⟨S.fr.push o,⟨os,he,λp hp=>hn.push S.fr o hf p ((dZ k w os _).mem_iff.mp hp),Led.nd.perm (dZ k w os (h.objs.size,o)).symm (v7 (hO _) hd (News.fresh hn λp hp=>Qu.mp hp▸Qj _))⟩,S.big,S.lo⟩
theorem Sta.exHead (S:Sta C h₀ L (k.ext (b,o)) w H h):h.get? b=some o/\b≠L/\h₀.get? b=none:=by
 obtain ⟨os,he,hn,hd⟩:=S.os;exact hn (b,o) ((dZ k w os (b,o)).mem_iff.mpr (.head _))
theorem Fr.sameBut {m:Str->Option Value} (F:Fr h₀ L h m) (hs:Heap.SameBut b h h') (g:b≠L/\h₀.get? b=none):Fr h₀ L h' m:=
 ⟨F.ns.sameBut hs (JE g.1),λc x e=>(hs.2 c λq=>by rw [q,g.2] at e;cases e).trans (F.keep c x e),F.above⟩
theorem Sta.setEx (S:Sta C h₀ L (k.ext (b,o)) w H h) (hs:Heap.SameBut b h h') (ho:h'.get? b=some o'):Sta C h₀ L (k.ext (b,o')) w H h':=by
 have g:=S.exHead;obtain ⟨os,he,hn,hd⟩:=S.os;have hd':=Qw.mp (Led.nd.perm (dZ k w os (b,o)) hd);refine ⟨Fr.sameBut S.fr hs g.2,⟨os,he,λp hp=>?_,Led.nd.perm (dZ k w os (b,o')).symm (Qw.mpr hd')⟩,S.big,S.lo⟩;rcases QE.mp ((dZ k w os (b,o')).mem_iff.mp hp) with e|hp
 ·rw [e];exact ⟨ho,g.2⟩
 ·have:=hn p ((dZ k w os (b,o)).mem_iff.mpr (.tail _ hp))
  exact ⟨(hs.2 p.1 λe=>hd'.1 (QF.mpr ⟨p,hp,e⟩)).trans this.1,this.2⟩
theorem Sta.endEx (S:Sta C h₀ L (k.ext (b,o)) w H h) (hx:Heap.ExtBut b h h'):Sta C h₀ L k w H h':=by
 have g:=S.exHead;obtain ⟨os,he,hn,hd⟩:=S.os;have hd':=Qw.mp (Led.nd.perm (dZ k w os (b,o)) hd);refine ⟨⟨S.fr.ns.extBut hx (JE g.2.1),λc x e=>hx c x (λq=>by rw [q,g.2.2] at e;cases e) (S.fr.keep c x e),S.fr.above⟩,⟨os,he,λp hp=>?_,hd'.2⟩,S.big,S.lo⟩
 have:=hn p ((dZ k w os (b,o)).mem_iff.mpr (.tail _ hp))
 exact ⟨hx p.1 p.2 (λe=>hd'.1 (QF.mpr ⟨p,hp,e⟩)) this.1,this.2⟩
theorem Sta.exSwap {p q:Addr×Obj} (S:Sta C h₀ L ((k.ext q).ext p) w H h):Sta C h₀ L ((k.ext p).ext q) w H h:=by
 obtain ⟨os,he,hn,hd⟩:=S.os;have hp:(((k.ext p).ext q).all w os).Perm (((k.ext q).ext p).all w os):=List.Perm.append_left _ (List.Perm.append_left _ (List.Perm.append_left _ (List.Perm.swap p q k.ex)));exact ⟨S.fr,⟨os,he,λr hr=>hn r (hp.mem_iff.mp hr),Led.nd.perm hp.symm hd⟩,S.big,S.lo⟩
theorem Sta.fromEx {m:MObj} (S:Sta C h₀ L (k.ext (b,o)) w H h) (h4:4<=b) (hr:lB C ⟨w.σ++ [b],w.tp⟩ b m [(b,o)]):Sta C h₀ L k ⟨w.σ++ [b],w.tp⟩ (H++ [m]) h:=by
 obtain ⟨os,he,hn,hd⟩:=S.os;have hp:=(dZ k w os (b,o)).trans (qS k w b [(b,o)] os);exact ⟨S.fr,⟨os++ [[(b,o)]],iZ.snoc hr (iZ.mono (w:=w) (w':=⟨w.σ++ [b],w.tp⟩) ⟨Q9 _ _,λ_ x=>x⟩ he),λp hp'=>hn p (hp.mem_iff.mpr hp'),Led.nd.perm hp hd⟩,S.big,S.loNew h4⟩
end
inductive zhh (io:Obj) (T:String) (v:Value) (i:Nat):Prop
 |mk (c:io.cls= .type T) (d:io.data= .fields #[v,.int (i:Nat) 0]):zhh io T v i
inductive zkD (io:Obj) (x:List Nat) (i:Nat):Prop
 | mk (T : String) (t : Tok) (h : T = "str_ascii_iterator" \/ T = "str_iterator") (q : zhh io T (.str ⟨x.toArray⟩ t) i) : zkD io x i
inductive zkF (io:Obj) (n:Int) (i:Nat):Prop
 | mk (left : Int) (h1 : 0 < left ↔ (i : Int) < n) (h2 : 0 < left -> left = n - i) (e : io = { cls := .type "range_iterator",dict := QY,data := .fields #[rawInt (i : Nat),rawInt left,rawInt 1],slots := #[] }) : zkF io n i
def gH (C:Cfg) (w:Wd) (io:Obj) (i:Nat) (k:It):Prop:=It.casesOn (motive:=λ_=>Prop) k
 (λa => ∃ la,w.σ[a]? = some la /\ zhh io "list_iterator" (.ref la) i)
 (λmvs => ∃ ta,aF C w (.tup mvs) (.ref ta) /\ zhh io "tuple_iterator" (.ref ta) i)
 (λa n ep => ∃ la,w.σ[a]? = some la /\ io.cls = .type "dict_keyiterator" /\ io.data = .fields #[.ref la,.int (i : Nat) 0,.int (n : Nat) 0,.int (ep : Nat) 0])
 (λx=>sOk x/\zkD io x i)
 (λn=>zkF io n i)
 (λmvs => ∃ la,aF C w (.fl mvs) (.ref la) /\ zhh io "list_iterator" (.ref la) i)
theorem gH.mono {C:Cfg}{w w':Wd} (l:w.le w') {io:Obj}{i:Nat}{k:It}:gH C w io i k->gH C w' io i k:=
 It.casesOn (motive:=λk=>gH C w io i k->gH C w' io i k) k (λ_ h=>h.elim λla h=>⟨la,l.get h.1,h.2⟩) (λ_ h=>h.elim λla h=>⟨la,h.1.mono l,h.2⟩) (λ_ _ _ h=>h.elim λla h=>⟨la,l.get h.1,h.2⟩) (λ_ h=>h) (λ_ h=>h) (λ_ h=>h.elim λla h=>⟨la,h.1.mono l,h.2⟩)
section
variable {C:Cfg}{d e:Nat}{Y:aY C d e}{k:Kp}{w:Wd}{H:MH}{s:Shared}{cx:CC}{env:Env}{mE:Str->Option Value}{fr:Frame}
theorem i0.entries {mes:List (Val×Val)}{es:List DictEntry} (h:i0 C w mes es):es.length=mes.length/\∀ (i:Nat) (p:Val×Val),mes[i]?=some p-> ∃e:DictEntry,es[i]?=some e/\aF C w p.1 e.key:=by
 rcases h with ⟨kvs,D⟩| ⟨xs,D⟩
 ·have l1:=y3 D.e
  have l2:=D.p.length;refine ⟨by lia,λi p hp=>?_⟩;have hi:i<mes.length:=(Qg.mp hp).1;have hik:i<kvs.length:=Qi hi (Qt l1);have hie:i<es.length:=Qi hik (Qt (K8 l2));refine ⟨es[i],Qc hie,?_⟩;have hk:=(D.p.get? (i:=i) (Qc hie) (Qc hik)).1;have he:(mes.map (·.1))[i]?=(kvs.map λp=>p.1.val)[i]?:=by rw [D.e]
  rw [Qo,Qo,hp,Qc hik] at he;rw [show p.1=kvs[i].1.val from Qx.inj he];have hok:=D.ok kvs[i] (Jg hik)
  generalize kvs[i].1=a at hk hok
  cases a with
  |i z=>exact JT hk
  |s x=>
   obtain ⟨t,ht⟩:=Zj hk;exact ⟨t,ht,hok⟩
 ·have l1:=y3 D.e
  refine ⟨by rw [D.es,Qe,l1],λi p hp=>?_⟩;have hik:i<xs.length:=l1▸(Qg.mp hp).1;refine ⟨entryOfKey (tupleKind (b9 C.prog C.w)) xs[i],by rw [D.es,Qo,Qc hik];rfl,?_⟩;have he:(mes.map (·.1))[i]?=(xs.map λx=>Val.tup (x.1.map Atom.val))[i]?:=by rw [D.e]
  rw [Qo,Qo,hp,Qc hik] at he;rw [show p.1=_ from Qx.inj he];exact D.v xs[i] (Jg hik)
theorem yK {n:Int} (h1:n<=lim) (h2: -(lim:Int)<=n):Builtin.Range.small 0 n 1=true:=by
 have hl:(lim:Int)=1000000:=rfl;refine small_one ?_ ?_ ?_ ?_<;>lia
theorem qO (n:Int):(0<ZF 0 n 1 ↔ 0<n)/\(0<ZF 0 n 1->ZF 0 n 1=n):=by
 unfold ZF;simp only [gt_iff_lt,Int.zero_lt_one,if_true];split
 ·rename_i h
  refine ⟨?_,?_⟩<;>lia
 ·rename_i h
  refine ⟨?_,?_⟩<;>lia
theorem yA (S:St Y k w H s) {v:Val}{rv:Value}{z:It} (hv:aF C w v rv) {Q:Value->Shared->Prop}{E:Value->Shared->Prop}
  (h: ∀I io h',Sta C Y.h₀ Y.L (k.ext (I,io)) w H h'->gH C w io 0 z->Q (.ref I) {s with heap:=h'}):fO H v=some z->wpAny C.M Y.A (pyIter rv) Q E s:=by
 refine cA (aX λn e1=>cZ λhn e=>?_) (cA (aX λa e1=>cA (bU λvs e2 e=>?_) (λe=>nos e)) (cA (bU λvs e1 e=>?_) (cA (bU λx e1 e=>?_) (bU λvs e1 e=>?_))))
 ·cases e;cases rng?_s e1
  obtain ⟨r,t,u,v,rfl,hr⟩:=hv;exact wpAny_pyIter_range (S.tpAt hr) (yK (of_decide_eq_true (Qb.mp hn).1) (of_decide_eq_true (Qb.mp hn).2)) (h _ _ _ (S.addEx _ rfl) ⟨_,(qO n).1,λhh=>((qO n).2 hh).trans (Int.sub_zero n).symm,rfl⟩)
 ·subst e;cases ref?_s e1
  obtain ⟨la,ws,n,rfl,ho,rr,hl⟩:=S.list hv e2;refine Ji hv λ_ zq20=>?_;exact wpAny_pyIter_list (items:=ws.toArray) ⟨_,ho,rfl,n,rfl⟩ (h _ _ _ (S.addEx _ rfl) ⟨la,Wj.inj zq20.1▸zq20.2,rfl,rfl⟩)
 ·subst e;cases tup?_s e1
  obtain ⟨t,o,n,ws,rfl,ho,hc,hd,rr,hl⟩:=S.tup hv;exact iter_tuple (items:=ws.toArray) ⟨o,ho,hc,n,hd⟩ (h _ _ _ (S.addEx _ rfl) ⟨t,hv,rfl,rfl⟩)
 ·subst e
  obtain ⟨t,rfl,ok⟩:=hv.str? e1;refine wpAny_pyIter_strU (h _ _ _ (S.addEx _ rfl) ⟨ok,strIterType ⟨x.toArray⟩,t,?_,rfl,rfl⟩);unfold strIterType;split
  ·exact .inl rfl
  ·exact .inr rfl
 ·subst e;cases fl?_s e1
  obtain ⟨la,o,n,ws,rfl,q,rr,hl⟩:=id hv;exact wpAny_pyIter_list (items:=ws.toArray) ⟨o,S.kIn _ _ q.1,q.2,n,q.3⟩ (h _ _ _ (S.addEx _ rfl) ⟨la,hv,rfl,rfl⟩)
structure zkE {C:Cfg}{d e:Nat} (Y:aY C d e) (k:Kp) (w:Wd) (H:MH) (s:Shared) (I:Addr) (i:Nat) (z:It) (r:Option Val) (Q:Option Value->Shared->Prop):Prop where
 go: ∀v rv io' h' tk,r=some v->Sta C Y.h₀ Y.L (k.ext (I,io')) w H h'->gH C w io' (i+1) z->aF C w v rv->Q (some rv) {s with heap:=h',toks:=tk}
 fin: ∀h',r=none->Sta C Y.h₀ Y.L k w H h'->Q none {s with heap:=h'}
theorem qI {I:Addr}{io:Obj}{i:Nat}{mvs:List Val}{vs:List Value}{z:It}{r:Option Val}{Q:Option Value->Shared->Prop} (S:St Y (k.ext (I,io)) w H s) (rr:aD C w mvs vs) (er:mvs[i]?=r) (G:zkE Y k w H s I i z r Q)
  (item: ∀x (Q:Option Value->Shared->Prop),vs.toArray[i]?=some x->(∀h' o',h'.get? I=some o'->gH C w o' (i+1) z->Heap.SameBut I s.heap h'->Q (some x) {s with heap:=h'}) ->wpAny C.M Y.A (pyNext (.ref I)) Q (λ_ _=>False) s)
  (fin: ∀ (Q:Option Value->Shared->Prop),vs.toArray[i]?=none->(∀h',Heap.ExtBut I s.heap h'->Q none {s with heap:=h'}) ->wpAny C.M Y.A (pyNext (.ref I)) Q (λ_ _=>False) s) {E:Value->Shared->Prop}:wpAny C.M Y.A (pyNext (.ref I)) Q E s:=by
 refine wpAny_mono (Q:=Q) (E:=λ_ _=>False) ?_ (λ_ _ q=>q) (λ_ _ q=>q.elim);cases r with
 |none=>
  refine fin Q ?_ λh' he=>G.fin h' rfl (S.endEx he);rw [Zq,K6,<-rr.length];exact K6.mp er
 |some v=>
  refine (rr.get er).elim λrv zq14=>?_;exact item rv Q (by rw [Zq];exact zq14.1) λh' o' g1 g2 hs=>G.go v rv o' h' _ rfl (S.setEx hs g1) g2 zq14.2
theorem x7 {I:Addr}{io:Obj}{z:It}{i:Nat}{r:Option Val} (S:St Y (k.ext (I,io)) w H s) (R:gH C w io i z) (e:cF H i z=some r) {Q:Option Value->Shared->Prop}{E:Value->Shared->Prop} (G:zkE Y k w H s I i z r Q):wpAny C.M Y.A (pyNext (.ref I)) Q E s:=by
 have hI:=S.exHead.1;cases z with
 |fs mvs=>
  obtain ⟨la,hv,ic⟩:=R;have zq12:=id hv;obtain ⟨_,o,n,vs,e1,q,rr,_⟩:=zq12;cases e1;have hl0:s.heap.IsList la vs.toArray:=⟨o,S.kIn _ _ q.1,q.2,n,q.3⟩;exact qI S rr (Qx.inj e) G (λx Q hx g=>wpAny_pyNext_list_item ⟨io,hI,ic.1,ic.2⟩ hl0 hx λh' hit' hs=>hit'.elim λo' p=>g h' o' p.1 ⟨la,hv,p.2.1,p.2.2⟩ hs) (λQ hx g=>wpAny_pyNext_list_end Y.handled ⟨io,hI,ic.1,ic.2⟩ hl0 hx g)
 |ls a=>
  obtain ⟨la,ha,ic⟩:=R;obtain ⟨mvs,hm,er⟩:=ms e;obtain ⟨_,ws,n,e1,ho,rr,hl⟩:=S.list (x:=.ref a) ⟨la,rfl,ha⟩ hm;cases e1;have hl0:s.heap.IsList la ws.toArray:=⟨_,ho,rfl,n,rfl⟩;exact qI S rr er G (λx Q hx g=>wpAny_pyNext_list_item ⟨io,hI,ic.1,ic.2⟩ hl0 hx λh' hit' hs=>hit'.elim λo' p=>g h' o' p.1 ⟨la,ha,p.2.1,p.2.2⟩ hs) (λQ hx g=>wpAny_pyNext_list_end Y.handled ⟨io,hI,ic.1,ic.2⟩ hl0 hx g)
 |tp mvs=>
  obtain ⟨ta,ht,ic⟩:=R;have zq7:=S.tup ht;obtain ⟨_,o,n,ws,e1,ho,hc,hd,rr,hl⟩:=zq7;cases e1;have hl0:IsTup s.heap ta ws.toArray:=⟨o,ho,hc,n,hd⟩;exact qI S rr (Qx.inj e) G (λx Q hx g=>next_tuple_item ⟨io,hI,ic.1,ic.2⟩ hl0 hx λh' hit' hs=>hit'.elim λo' p=>g h' o' p.1 ⟨ta,ht,p.2.1,p.2.2⟩ hs) (λQ hx g=>next_tuple_end Y.handled ⟨io,hI,ic.1,ic.2⟩ hl0 hx g)
 |sq x=>
  obtain ⟨ok,T,t,hT,ic⟩:=R;have er:=Qx.inj e;cases hc:x[i]? with
  |none=>
   rw [hc] at er;have hvs:(⟨x.toArray⟩:Str).cps[i]?=none:=(Zq).trans hc;rcases hT with rfl|rfl
   ·exact wpAny_pyNext_ascii_end Y.handled ⟨io,hI,ic.1,ic.2⟩ hvs λh' he=>G.fin h' er.symm (S.endEx he)
   ·exact wpAny_pyNext_wide_end Y.handled ⟨io,hI,ic.1,ic.2⟩ hvs λh' he=>G.fin h' er.symm (S.endEx he)
  |some c=>
   rw [hc] at er;have hvs:(⟨x.toArray⟩:Str).cps[i]?=some c:=(Zq).trans hc;have hck: ∀u:Tok,aF C w (.str [c]) (.str ⟨#[c]⟩ u):=λu=>⟨u,rfl,λy hy=>Qu.mp hy▸ok.1 c (Qd hc),(by decide:1<=lim)⟩;rcases hT with rfl|rfl
   ·exact wpAny_pyNext_ascii_item ⟨io,hI,ic.1,ic.2⟩ hvs λh' hit' hs=>hit'.elim λo' p=>G.go (.str [c]) _ o' h' _ er.symm (S.setEx hs p.1) ⟨ok,_,t,.inl rfl,p.2.1,p.2.2⟩ (hck _)
   ·exact wpAny_pyNext_wide_item ⟨io,hI,ic.1,ic.2⟩ hvs λh' hit' hs=>hit'.elim λo' p=>G.go (.str [c]) _ o' h' _ er.symm (S.setEx hs p.1) ⟨ok,_,t,.inr rfl,p.2.1,p.2.2⟩ (hck _)
 |dk a n ep=>exact nos e
 |rg n=>
  obtain ⟨left,hl,hl2,rfl⟩:=R;have er:=Qx.inj e;cases hin:decide ((i:Int)<n) with
  |true=>
   rw [hin] at er;refine wpAny_pyNext_range_item hI (hl.mpr (of_decide_eq_true hin)) λh' hit' hs=>G.go (.int i) _ _ h' _ er.symm (S.setEx hs hit') ?_ ⟨_,rfl⟩
   have:=hl2 (hl.mpr (of_decide_eq_true hin))
   have e1:left-1=n-((i+1:Nat):Int):=(congrArg (· -1) this).trans (Int.sub_sub n i 1);exact ⟨left-1,by rw [e1];exact Int.sub_pos,λ_=>e1,rfl⟩
  |false=>
   rw [hin] at er;exact wpAny_pyNext_range_end Y.handled hI (KV.mp λq=>absurd (hl.mp q) (of_decide_eq_false hin)) λh' he=>G.fin h' er.symm (S.endEx he)
end
structure Sy (e:Expr):Prop where
 star: ∀rest env,starEach (e::rest) env=(false,PySem.eval e env)::starEach rest env
 sub: ∀o i,subscripted e false o i=operate [o,i] (getItem o i)
 marks: ∀op,behindInMarks op e=false
 fold: ∀env x,foldedSetIterable e env x=pure x
 swap:gI e=false-> ∀t n env,swapsWith e t n env=pure false
structure Sd (C:Cfg) (d:Nat) (cx:CC) (e:Expr) (ir:Ex):Prop where
 es:dA C d cx e ir
 ts:pM C d cx e ir
 sy:Sy e
abbrev Sds (C:Cfg) (d:Nat) (cx:CC):List Expr->List Ex->Prop:=cL (Sd C d cx)
def zvv (C:Cfg) (d:Nat) (cx:CC) (es:List Expr) (irs:List Ex):Prop:=
 ∀ (Y:aY C d 2) (env:Env) (k:Kp) (mE:Str->Option Value) (fr:Frame) (w:Wd) (H:MH) (s:Shared) (pos:Pos),Pl Y cx env k mE fr w H s->Ref Y k (VRS C) (spliced (backTo pos (starEach es env))) w s (gT (C.cx d) irs fr H)
section
variable {C:Cfg}{d e:Nat}{Y:aY C d e}{k:Kp}{w:Wd}{H:MH}{s:Shared}{cx:CC}{env:Env}{mE:Str->Option Value}{fr:Frame}
theorem zab {e:Expr}{ir:Ex} (h:dA C d cx e ir) (he: ∀ (env:Env) (whole:Sem Value),PySem.isTrue e env whole=(do let v<-whole;standAt e.pos;holding [v] (PySem.truthy v))):pM C d cx e ir:=
 λY env k mE fr w H s p r=>aG λx H1 e1=>bU λb e2 e=>e▸λQ E hq=>isTrue_plain (h Y env k mE fr w H s p _ e1 _ _ λw1 a1 s1 n1 r1=>lQ n1.st r1 e2 λtk=>hq w1 b _ (n1.trans (.toks n1.st tk)) rfl) (he _ _)
theorem cJ {pos:Pos}{es:List Expr}{irs:List Ex} (h:Sds C d cx es irs):(backTo pos (starEach es env)).any (·.1)=false:=by
 induction h with
 |nil=>rfl
 |cons h _ ih=>rw [h.sy.star];exact ih
theorem iE {c:Cx}{irs:List Ex}: ∀ {H:MH}{r:List Val×MH},gT c irs fr H=some r->r.1.length=irs.length:=by
 induction irs with
 |nil=>intro H r h;cases h;rfl
 |cons e irs ih=>exact λ{H r} =>aG λv h1 e1=>aG λvs h2 e2 e=>Qx.inj e▸congrArg (· +1) (ih e2)
theorem i7 {es:List Expr}{irs:List Ex} (h:Sds C d cx es irs):zvv C d cx es irs:=by
 induction h with
 |nil=>intro Y env k mE fr w H s pos p r e;cases e;exact λQ E hq=>args_nil (hq w [] s (.refl p.st) .nil)
 |cons h _ ih=>
  intro Y env k mE fr w H s pos p r;refine aG λv H1 e1=>aG λvs H2 e2 e=>?_;cases e;exact λQ E hq=>args_cons (h.es Y env k mE fr w H s p _ e1 _ _ λw1 a1 s1 n1 r1=>ih Y env k mE fr w1 H1 s1 pos (p.next n1) _ e2 _ _ λw2 a2 s2 n2 r2=>hq w2 _ s2 (n1.trans n2) (.cons (r1.mono n2.le) r2)) (h.sy.star _ _)
theorem Nxt.newTup {mvs : List Val} {vs : List Value} (S : St Y k w H s) (r : aD C w mvs vs) (hl : mvs.length <= lim) : ∃ w',Nxt Y k w w' H s { s with heap := s.heap.push { cls := .type "tuple",data := .seq vs.toArray } } /\ aF C w' (.tup mvs) (.ref s.heap.objs.size) := by
 obtain ⟨all,hn,_,tp,_⟩:=S.ledger;have le : w.le ⟨w.σ,(s.heap.objs.size,({ cls := .type "tuple",data := .seq vs.toArray } : Obj)) :: w.tp⟩ := ⟨Kr _,λ_ x => .tail _ x⟩;exact ⟨_,⟨le,tp _ _ _ (S.fr.push _) (hn.push S.fr _) (Qj _),rfl,rfl⟩,_,_,0,vs,rfl,⟨.inl (.head _),rfl,rfl⟩,r.mono le,hl⟩
theorem zcI {es:List Expr}{irs:List Ex}{n:Nat}{pos:Pos} (h:Sds C d cx es irs) (hi:Jt es.length 1000=true):dA C d cx (.Tuple es n pos) (.tup irs):=by
 intro Y env k mE fr w H s p r;refine aG λvs H1 e1 e=>?_;cases e;have hl:vs.length<=lim:=by rw [iE e1,h.length];exact Qa (QW.mp hi) (by decide)
 refine λQ E hq=>wpAny_Tuple (i7 h Y env k mE fr w H s pos p _ e1 _ _ λw1 a1 s1 n1 r1=>⟨by rw [<-r1.length];exact Qa hl c5,?_⟩);refine (Nxt.newTup n1.st r1 hl).elim λw2 zq26=>?_;exact hq w2 _ _ (n1.trans zq26.1) zq26.2
theorem zeN {es:List Expr}{irs:List Ex}{pos:Pos} (h:Sds C d cx es irs) (hi:Jt es.length 1000=true):dA C d cx (.List es pos) (.list irs):=by
 intro Y env k mE fr w H s p r;refine aG λvs H1 e1 e=>?_;have hl:vs.length<=lim:=by rw [iE e1,h.length];exact Qa (QW.mp hi) (by decide)
 refine λQ E hq=>wpAny_List (i7 h Y env k mE fr w H s pos p _ e1 _ _ λw1 a1 s1 n1 r1=>⟨by rw [<-r1.length];exact Qa hl c5,?_⟩);cases e;obtain ⟨all,hn,add,_,_⟩:=n1.st.ledger;exact hq _ _ _ (n1.trans ⟨(⟨Q9 _ _,λ_ x=>x⟩:w1.le ⟨w1.σ++ [s1.heap.objs.size],w1.tp⟩),add _ (.list vs) [_] _ ⟨a1,0,rfl,r1.mono (⟨Q9 _ _,λ_ x=>x⟩:w1.le ⟨w1.σ++ [s1.heap.objs.size],w1.tp⟩),hl⟩ (n1.st.fr.push _) (hn.push n1.st.fr _) (hO _) (News.fresh hn λp hp=>Qu.mp hp▸Qj _) (n1.st.four (Qj _)),rfl,rfl⟩) ⟨_,rfl,by rw [<-n1.st.len];exact Jk⟩
theorem zgj {n:Nat}{i:Val}{j:Nat}{v:Value} (hv:aF C w i v) (h:idx n i=some j): ∃z t,v= .int z t/\0<=z/\z<n/\j=z.toNat:=by
 obtain ⟨z,e1,h⟩:=bs h;obtain ⟨hb,e⟩:=gs h;refine (hv.int? e1).elim λt zq23=>?_;exact ⟨z,t,zq23,of_decide_eq_true (Qb.mp hb).1,of_decide_eq_true (Qb.mp hb).2,(Qx.inj e).symm⟩
theorem zln {z:Int}{n:Nat} (h0:0<=z) (h1:z<n):seqIndex? z n=some z.toNat:=by
 unfold seqIndex?;simp only [if_neg (KV.mpr h0)];rw [if_pos (Qb.mpr ⟨decide_eq_true h0,decide_eq_true h1⟩)]
theorem zeL {value sl:Expr} (hsl:Sy sl) (S:St Y k w H s) {x y:Val}{vx vy:Value} (hx:aF C w x vx) (hy:aF C w y vy):Ref Y k (VR C) (subscriptTail value sl vx vy) w s ((bV H x y).map λv=>(v,H)):=by
 refine .omap λv e=> .val S λQ E h=>?_;have lst: ∀ {b:Addr}{mvs:List Val}{ws:List Value},s.heap.IsList b ws.toArray->aD C w mvs ws->mvs.length<=lim->vx= .ref b->(idx mvs.length y).bind (λj=>mvs[j]?)=some v->wpAny C.M Y.A (subscriptTail value sl vx vy) Q E s:=by
  intro b mvs ws hL rr hl e1 e;obtain ⟨j,hj,e⟩:=bs e;obtain ⟨z,t,rfl,h0,h1,rfl⟩:=zgj hy hj;refine (rr.get e).elim λrv zq17=>?_;have hl':=jE hl;subst e1;exact tail_any hL.typeIs slot_list_getitem.lookup (wpAny_getItem_list hL h0 (Xe h1 hl') (by rw [Zq];exact zq17.1) (h rv s.toks zq17.2)) (hsl.sub _ _)
 revert e
 refine cA (aX λvs e1=>aX λj hj e=>?_) (cA (aX λvs e1 e=>?_) (cA (aX λvs e1 e=>?_) (aX λp e1=>cZ λhf e=>?_)))
 ·cases tup?_s e1
  obtain ⟨z,t,rfl,h0,h1,rfl⟩:=zgj hy hj;obtain ⟨b,o,n,ws,rfl,ho,hc,hd,rr,hl⟩:=S.tup hx;refine (rr.get e).elim λrv zq13=>?_;exact item_tupleT (l:=ws) ⟨o,ho,hc,n,hd⟩ (by lia) (Xe h1 (jE hl)) (zln h0 (by rw [<-rr.length];exact h1)) zq13.1 (h rv s.toks zq13.2) (hsl.sub _ _)
 ·cases fl?_s e1
  obtain ⟨b,o,n,ws,e2,q,rr,hl⟩:=hx;exact lst ⟨o,S.kIn _ _ q.1,q.2,n,q.3⟩ rr hl e2 e
 ·obtain ⟨b,ws,n,e2,ho,rr,hl⟩:=S.list hx e1
  exact lst ⟨_,ho,rfl,n,rfl⟩ rr hl e2 e
 ·refine (S.dict hx e1).elim λi zq8=>?_
  obtain ⟨b,n,es,rfl,_,_,hg,hdr,_,_⟩:=zq8.2;rcases kG (Qb.mp hf).1 with ⟨q,rfl⟩| ⟨q,rfl⟩
  ·refine (hdr.atom hf).elim λkvs zq7=>?_
   have D:=zq7;have hD:=D.dictOf hg;rcases D.get q with ⟨q1,_⟩| ⟨mv,rv,q1,q2,q3⟩
   ·exact nos (q1.symm.trans e)
   ·cases q1.symm.trans e
    exact tail_any hD.typeIs slot_dict_getitem.lookup (wpAny_getItem_of hy.atom.1 hD.mapOf q2 (h rv _ q3)) (hsl.sub _ _)
  ·obtain ⟨xs,D⟩:=hdr.tups hf
   obtain ⟨t,rfl,ht⟩:=S.tupKey hy;rcases D.get q with ⟨q1,_⟩| ⟨mv,rv,q1,q2,q3⟩
   ·exact nos (q1.symm.trans e)
   ·cases q1.symm.trans e
    obtain ⟨pp,q4,rfl⟩:=ms q2;exact tail_any (D.dictOf S hg).typeIs slot_dict_getitem.lookup (wpAny_getItem_heap Y.room ht (D.dictOf S hg) q4 (h pp.2 _ q3)) (hsl.sub _ _)
theorem zh6 {v sl:Expr}{ie ii:Ex}{pos:Pos} (hv:dA C d cx v ie) (hi:Sd C d cx sl ii):dA C d cx (.Subscript v sl pos) (.sub ie ii):=
 λY env k mE fr w H s p r=>aG λx H1 e1=>aG λy H2 e2 e Q E hq=>Subscript_ (hv Y env k mE fr w H s p _ e1 _ _ λw1 a1 s1 n1 r1=>hi.es Y env k mE fr w1 H1 s1 (p.next n1) _ e2 _ _ λw2 a2 s2 n2 r2=>
  zeL hi.sy n2.st (r1.mono n2.le) r2 r e _ _ λw3 a3 s3 n3 r3=>hq w3 a3 s3 ((n1.trans n2).trans n3) r3)
theorem yE (K:nL C) {l r:Expr}{op:CmpOp}{il ir:Ex}{pos:Pos} (hl:dA C d cx l il) (hr:Sd C d cx r ir):dA C d cx (.Compare l [op] [r] pos) (.cmp (zb8 op) il ir):=
 λY env k mE fr w H s p r=>aG λx H1 e1=>aG λy H2 e2 e Q E hq=>wpAny_Compare1 (hl Y env k mE fr w H s p _ e1 _ _ λw1 a1 s1 n1 r1=>hr.es Y env k mE fr w1 H1 s1 (p.next n1) _ e2 _ _ λw2 a2 s2 n2 r2=>
  zbF K n2.st (r1.mono n2.le) r2 r e _ _ λw3 a3 s3 n3 r3=>hq w3 a3 s3 ((n1.trans n2).trans n3) r3) (hr.sy.marks _)
theorem vH (K:nL C) {l r:Expr}{op:CmpOp}{il ir:Ex}{pos:Pos} (hl:dA C d cx l il) (hr:Sd C d cx r ir):pM C d cx (.Compare l [op] [r] pos) (.cmp (zb8 op) il ir):=by
 intro Y env k mE fr w H s p r;refine aG λv H' e0=>bU λb et e=>?_
 revert e0
 refine aG λx H1 e1=>aG λy H2 e2=>bU λc e3 e4=>?_;cases e4;cases et;subst e;exact λQ E hq=>wpAny_isTrue_Compare1 (hl Y env k mE fr w H s p _ e1 _ _ λw1 a1 s1 n1 r1=>hr.es Y env k mE fr w1 H1 s1 (p.next n1) _ e2 _ _ λw2 a2 s2 n2 r2=>
  zbF K n2.st (r1.mono n2.le) r2 (.bool b,H') (by rw [e3];rfl) _ _ λw3 a3 s3 n3 r3=>by rw [show a3= .bool b from r3];exact wpAny_truthy_bool (hq w3 b s3 ((n1.trans n2).trans n3) rfl)) (hr.sy.marks _)
theorem zh7 {x:Expr}{ix:Ex}{pos:Pos} (hx:dA C d cx x ix):dA C d cx (.UnaryOp .Not x pos) (.not ix):=by
 intro Y env k mE fr w H s p r;refine aG λb H1 e0 e=>?_
 revert e0
 refine aG λx' H1' e1=>bU λb' e2 e3=>?_;cases e3;cases e;exact λQ E hq=>wpAny_bind (hx Y env k mE fr w H s p _ e1 _ _ λw1 a1 s1 n1 r1=>wpAny_bind (wpAny_standAt (wpAny_holding (not_value (lQ n1.st r1 e2 λtk=>hq w1 _ _ (n1.trans (.toks n1.st tk)) rfl)))))
theorem zek {x:Expr}{ix:Ex}{pos:Pos} (hx:pM C d cx x ix):pM C d cx (.UnaryOp .Not x pos) (.not ix):=by
 intro Y env k mE fr w H s p r;refine aG λv H' e0=>bU λb et e=>?_
 revert e0
 refine aG λb' H1 e1 e2=>?_;cases e2;cases et;subst e;exact λQ E hq=>isTrue_not (hx Y env k mE fr w H s p _ e1 _ _ λw1 a1 s1 n1 r1=>by rw [show a1=b' from r1];exact hq w1 _ s1 n1 rfl)
theorem zic {t x y:Expr}{it ix iy:Ex}{pos:Pos} (ht:pM C d cx t it) (hx:dA C d cx x ix) (hy:dA C d cx y iy):dA C d cx (.IfExp t x y pos) (.ite it ix iy):=by
 intro Y env k mE fr w H s p r;refine aG λb H1 e1 e=>?_;refine λQ E hq=>wpAny_bind (ht Y env k mE fr w H s p _ e1 _ _ λw1 a1 s1 n1 r1=>?_);rw [show a1=b from r1];cases b with
 |true=>exact hx Y env k mE fr w1 H1 s1 (p.next n1) _ e _ _ λw2 a2 s2 n2 r2=>hq w2 a2 s2 (n1.trans n2) r2
 |false=>exact hy Y env k mE fr w1 H1 s1 (p.next n1) _ e _ _ λw2 a2 s2 n2 r2=>hq w2 a2 s2 (n1.trans n2) r2
theorem zel {t x y:Expr}{it ix iy:Ex}{pos:Pos} (ht:pM C d cx t it) (hx:pM C d cx x ix) (hy:pM C d cx y iy):pM C d cx (.IfExp t x y pos) (.ite it ix iy):=by
 intro Y env k mE fr w H s p r;refine aG λv H' e0 e=>?_
 revert e0
 refine aG λb H1 e1 e0=>?_;refine λQ E hq=>isTrue_IfExp (ht Y env k mE fr w H s p _ e1 _ _ λw1 a1 s1 n1 r1=>?_);rw [show a1=b from r1];cases b with
 |true=>exact hx Y env k mE fr w1 H1 s1 (p.next n1) r (by show b6 (eval _ _ _ _)=_;rw [show eval (C.cx d) ix fr H1=some (v,H') from e0];exact e) _ _ λw2 a2 s2 n2 r2=>hq w2 a2 s2 (n1.trans n2) r2
 |false=>exact hy Y env k mE fr w1 H1 s1 (p.next n1) r (by show b6 (eval _ _ _ _)=_;rw [show eval (C.cx d) iy fr H1=some (v,H') from e0];exact e) _ _ λw2 a2 s2 n2 r2=>hq w2 a2 s2 (n1.trans n2) r2
theorem zif {op:BoolOp}{pos:Pos}{es:List Expr}{irs:List Ex} (h:Sds C d cx es irs): ∀ (Y:aY C d 2) (env:Env) (k:Kp) (mE:Str->Option Value) (fr:Frame) (w:Wd) (H:MH) (s:Shared),Pl Y cx env k mE fr w H s->Ref Y k (VR C) (boolOp pos op (evalEach es env)) w s (oW (C.cx d) (op== .Or) irs fr H):=by
 induction h with
 |nil=>exact λY env k mE fr w H s p=> .none
 | @cons ex i es irs he hs ih=>
  intro Y env k mE fr w H s p r;refine aG λv H1 e1 e=>?_;cases hs with
  |nil=>cases e;exact he.es Y env k mE fr w H s p _ e1
  | @cons e' i' es' irs' he' hs'=>
   revert e
   refine aX λb e2 e=>?_;intro Q E hq;show wpAny C.M Y.A (do
    let v<-PySem.eval ex env
    standAt pos
    let t<-holding [v] (PySem.truthy v)
    match op,t with
    | .And,false| .Or,true=>pure v
    |_,_=>boolOp pos op (evalEach (e'::es') env)) Q E s
   refine wpAny_bind (he.es Y env k mE fr w H s p _ e1 _ _ λw1 a1 s1 n1 r1=>wpAny_bind (wpAny_standAt (wpAny_bind (wpAny_holding (lQ n1.st r1 e2 λtk=>?_)))));have n2:=n1.trans (.toks n1.st tk);have stop:some (v,H1)=some r->wpAny C.M Y.A (pure a1) Q E {s1 with toks:=tk}:=λe=>by cases e;exact wpAny_pure (hq w1 a1 _ n2 r1)
   have go:oW (C.cx d) (op== .Or) (i'::irs') fr H1=some r->wpAny C.M Y.A (boolOp pos op (evalEach (e'::es') env)) Q E {s1 with toks:=tk}:=λe=>ih Y env k mE fr w1 H1 _ (p.next n2) r e Q E λw2 a2 s2 n3 r2=>hq w2 a2 s2 (n2.trans n3) r2;cases op<;>cases b
   ·exact stop e
   ·exact go e
   ·exact go e
   ·exact stop e
theorem zem {op:BoolOp}{es:List Expr}{irs:List Ex} (h:Sds C d cx es irs): ∀ (Y:aY C d 2) (env:Env) (k:Kp) (mE:Str->Option Value) (fr:Frame) (w:Wd) (H:MH) (s:Shared),Pl Y cx env k mE fr w H s->Ref Y k EqR (allTrue op es env) w s (b6 (oW (C.cx d) (op== .Or) irs fr H)):=by
 induction h with
 |nil=>exact λY env k mE fr w H s p=> .none
 | @cons ex i es irs he hs ih=>
  intro Y env k mE fr w H s p r;refine aG λv H' e0=>bU λb et e=>?_
  revert e0
  refine aG λv1 H1 e1 e2=>?_
  --the first test
  have first: ∀c,truthy H1 v1=some c-> ∀ {Q:Bool->Shared->Prop}{E:Value->Shared->Prop},(∀w1 s1,Nxt Y k w w1 H1 s s1->Q c s1) ->wpAny C.M Y.A (PySem.isTrue ex env (PySem.eval ex env)) Q E s:=λc hc Q E hq=>
   he.ts Y env k mE fr w H s p (c,H1) (by show bnd (eval _ _ _ _) _=_;rw [show eval (C.cx d) i fr H=some (v1,H1) from e1];show Xw _ (truthy H1 v1)=_;rw [hc];rfl) Q E λw1 a1 s1 n1 r1=>by rw [show a1=c from r1];exact hq w1 s1 n1
  subst e;intro Q E hq;cases hs with
  |nil=>
   cases e2;cases op with
   |And=>
    refine wpAny_allTrue_And_cons (first b et λw1 s1 n1=>?_);cases b with
    |true=>exact wpAny_allTrue_And_nil (hq w1 _ s1 n1 rfl)
    |false=>exact hq w1 _ s1 n1 rfl
   |Or=>
    refine wpAny_allTrue_Or_cons (first b et λw1 s1 n1=>?_);cases b with
    |true=>exact hq w1 _ s1 n1 rfl
    |false=>exact wpAny_allTrue_Or_nil (hq w1 _ s1 n1 rfl)
  | @cons e' i' es' irs' he' hs'=>
   refine (bs e2).elim λc zq1=>?_;have stop:some (v1,H1)=some (v,H') ->c=b/\H1=H':=λq=>by
    cases q;exact ⟨Qx.inj (zq1.1.symm.trans et),rfl⟩
   have go: ∀w1 s1,Nxt Y k w w1 H1 s s1->oW (C.cx d) (op== .Or) (i'::irs') fr H1=some (v,H') ->wpAny C.M Y.A (allTrue op (e'::es') env) Q E s1:=λw1 s1 n1 q=>
    ih Y env k mE fr w1 H1 s1 (p.next n1) (b,H') (by show bnd (oW _ _ _ _ _) _=_;rw [q];show Xw _ (truthy H' v)=_;rw [et];rfl) Q E λw2 a2 s2 n2 r2=>hq w2 a2 s2 (n1.trans n2) r2
   cases op with
   |And=>
    refine wpAny_allTrue_And_cons (first c zq1.1 λw1 s1 n1=>?_);cases c with
    |true=>exact go w1 s1 n1 zq1.2
    |false=>obtain ⟨rfl,rfl⟩:=stop zq1.2;exact hq w1 _ s1 n1 rfl
   |Or=>
    refine wpAny_allTrue_Or_cons (first c zq1.1 λw1 s1 n1=>?_);cases c with
    |true=>obtain ⟨rfl,rfl⟩:=stop zq1.2;exact hq w1 _ s1 n1 rfl
    |false=>exact go w1 s1 n1 zq1.2
end
section
variable {C:Cfg}{d e:Nat}{Y:aY C d e}{k:Kp}{w:Wd}{H:MH}{s:Shared}{cx:CC}{env:Env}{mE:Str->Option Value}{fr:Frame}
structure znu (C:Cfg) (w:Wd) {α:Type} (mk:α->Val) (mes:List (Val×Val)) (kvs:List (α×Value)):Prop where
 e:mes.map (·.1)=kvs.map (λp=>mk p.1)
 r:aD C w (mes.map (·.2)) (kvs.map (·.2))
theorem uQ {α:Type} [DecidableEq α] {mk:α->Val} (hmk: ∀a b,kEq (mk a) (mk b)=decide (a=b)) (k:α) {mv:Val}{rv:Value} (hv:aF C w mv rv) {mes:List (Val×Val)}{kvs:List (α×Value)} (P:znu C w mk mes kvs) (hany:(a9 mes (mk k)).isSome=kvs.any (λkv=>kv.1=k)):
  znu C w mk (fP mes (mk k) mv) (stored kvs k rv):=by
 unfold fP stored;rw [hany];cases hc:kvs.any (λkv=>decide (kv.1=k)) with
 |false=>
  refine ⟨?_,?_⟩
  ·show (mes++ [_]).map _=(kvs++ [_]).map _
   rw [Qy,Qy,P.e];rfl
  ·show aD C w ((mes++ [_]).map _) ((kvs++ [_]).map _)
   rw [Qy,Qy];exact aD.append (.one hv) P.r
 |true=>
  obtain ⟨e,r⟩:=P
  clear hc hany
  show znu C w mk (mes.map _) (kvs.map _)
  induction kvs generalizing mes with
  |nil=>rw [KO.mp e];exact ⟨rfl,.nil⟩
  |cons y kvs ih=>
   cases mes with
   |nil=>cases e
   |cons x mes=>
    obtain ⟨e1,e2⟩:=Z0.inj e;obtain ⟨v,t,ev,h,r⟩:=r;obtain ⟨rfl,rfl⟩:=Z0.inj ev;have zq32:=ih e2 r;have e1:x.1=mk y.1:=e1;have hk:kEq x.1 (mk k)=decide (y.1=k):=by rw [e1,hmk]
    by_cases q:y.1=k
    ·rw [decide_eq_true q] at hk
     refine ⟨?_,?_⟩
     ·show (bif kEq x.1 (mk k) then _ else _:Val×Val).1::_=_
      rw [zq32.e,hk,Qz,Qz,if_pos q];exact congrArg (· ::_) e1
     ·show aD C w ((bif kEq x.1 (mk k) then _ else _:Val×Val).2::_) _
      rw [hk,Qz,Qz,if_pos q];exact .cons hv zq32.r
    ·rw [decide_eq_false q] at hk
     refine ⟨?_,?_⟩
     ·show (bif kEq x.1 (mk k) then _ else _:Val×Val).1::_=_
      rw [zq32.e,hk,Qz,Qz,if_neg q];exact congrArg (· ::_) e1
     ·show aD C w ((bif kEq x.1 (mk k) then _ else _:Val×Val).2::_) _
      rw [hk,Qz,Qz,if_neg q];exact .cons h zq32.r
theorem zJ (mes:List (Val×Val)) (k v:Val):(fP mes k v).length=(bif (a9 mes k).isSome then mes.length else mes.length+1):=by
 unfold fP;cases (a9 mes k).isSome with
 |true=>exact Qe ..
 |false=>exact Qv
theorem wU {mes:List (Val×Val)}{k v:Val}{n:Nat} (h:mes.length<n):(fP mes k v).length<=n:=by
 rw [zJ];cases (a9 mes k).isSome with
 |true=>exact QC h
 |false=>exact h
theorem oZ {α:Type} [DecidableEq α] (kvs:List (α×Value)) (k:α):(valueAt kvs k).isSome=kvs.any (λkv=>kv.1=k):=by
 unfold valueAt;rw [Kg,Zw,List.find?_isSome,ZE]
theorem zd5 {A:Around} (S:St Y k w H s) (hu:A.units+1<cLine) {D:Addr}{mes:List (Val×Val)}{es:List DictEntry}{n:Nat} (hob:s.heap.get? D=some (dictOf es n)) (j:i0 C w mes es) {x v:Val}{kv vv:Value} (hf:aN mes x=true) (hlen:mes.length<lim) (hk:aF C w x kv) (hv:aF C w v vv)
  {Q:Unit->Shared->Prop}{E:Value->Shared->Prop}
  (h: ∀es' h' tk,Heap.SameBut D s.heap h'->h'.get? D=some (dictOf es' (bif (a9 mes x).isSome then n else n+1)) ->i0 C w (fP mes x v) es'->Q () {s with heap:=h',toks:=tk}):wpAny C.M A (dictSet D kv vv) Q E s:=by
 have ci: ∀ {b:Bool}{x y:Nat},(if b=true then x else y)=(bif b then x else y):=λ{b x y} =>by cases b<;>rfl
 rcases kG (Qb.mp hf).1 with ⟨q,rfl⟩| ⟨q,rfl⟩
 ·obtain ⟨kvs,DD⟩:=j.atom hf
  obtain ⟨h1,h2⟩:=hk.atom;have hl:es.length<=sizeLine:=by rw [(i0.entries (.inl ⟨kvs,DD⟩)).1];exact Qa (QC hlen) c5
  have hany:=(DD.get q).isSome.trans (oZ kvs q);refine z4 (knd:=b9 C.prog C.w) h1 hob DD.k DD.p DD.n hl λes' f hfe q1 q2 q3=>?_;rw [<-hany,ci] at hfe;have P:=uQ y6 q hv ⟨DD.e,DD.r⟩ hany;refine h es' _ _ (Heap.SameBut.update ..) ?_ (.inl ⟨_,q2,q1,q3,P.e,λp hp=>?_,P.r⟩)
  ·rw [<-hfe]
   exact Kn _ hob (by rw [hfe];rfl)
  ·unfold stored at hp
   split at hp
   ·obtain ⟨q,hq,rfl⟩:=QF.mp hp
    split<;>exact DD.ok q hq
   ·rcases QU.mp hp with hp|hp
    ·exact DD.ok p hp
    ·rw [Qu.mp hp];exact h2
 ·obtain ⟨xs,DD⟩:=j.tups hf
  obtain ⟨t,rfl,ht⟩:=S.tupKey hk;have hl:xs.length<=sizeLine:=by rw [<-y3 DD.e];exact Qa (QC hlen) c5
  refine xO (knd:=tupleKind (b9 C.prog C.w)) (show A.units<cLine from Xf hu) ht (DD.es▸hob) (DD.keys S) DD.n hl λf hfe q3=>?_;have hany:=(DD.get q).isSome;rw [Kg] at hany;rw [<-hany,ci] at hfe;have P:=uQ (mk:=λas:List Atom=>Val.tup (as.map Atom.val)) zb0 q hv ⟨DD.sides.1,DD.sides.2⟩ (by rw [<-oZ,valueAt_kvsOf,Kg];exact hany);rw [<-kvsOf_storedH xs q t vv] at P;refine h _ _ _ (Heap.SameBut.update ..) ?_ (.inr ⟨_,rfl,q3,λx hx=>?_,?_,?_⟩)
  ·rw [<-hfe,<-DD.es]
   exact Kn _ hob (by rw [DD.es,hfe];rfl)
  ·rcases mem_storedH hx with ⟨y,hy,q1,q2⟩| ⟨q1,q2⟩
   ·rw [q1,q2];exact DD.v y hy
   ·rw [q1,q2];exact hk
  ·rw [P.e];simp [kvsOf]
  ·have:=P.r
   simpa [kvsOf,Function.comp_def] using this
theorem Pl.ext (p:Pl Y cx env k mE fr w H s) {q:Addr×Obj}{s':Shared} (S:St Y (k.ext q) w H s'):Pl Y cx env (k.ext q) mE fr w H s':=
 ⟨⟨p.b.kind,p.b.gl,p.b.bl,p.b.sc,p.b.cells,p.b.loc.imp id λ⟨o,h⟩=>⟨o,.tail _ h.1,h.2⟩⟩,p.f,S⟩
def zb3:List (Value×Value) ->List Value
 | []=> []
 |p::r=>p.1::p.2::zb3 r
theorem zdv (ws:List (Value×Value)):(zb3 ws).length=2*ws.length:=by
 induction ws with
 |nil=>rfl
 |cons p ws ih=>rw [JA,Ze];exact congrArg (· +2) ih
abbrev SdK (C:Cfg) (d:Nat) (cx:CC) (o:Option Expr) (i:Ex):Prop:= ∃e,o=some e/\Sd C d cx e i
theorem zcN {pos:Pos}{ks:List (Option Expr)}{ia:List Ex} (hk:cL (SdK C d cx) ks ia): ∀ {vs:List Expr}{ib:List Ex},Sds C d cx vs ib->ks.length=vs.length-> ∀ (Y:aY C d 2) (env:Env) (k:Kp) (mE:Str->Option Value) (fr:Frame) (w:Wd) (H:MH) (s:Shared),Pl Y cx env k mE fr w H s->
  Ref Y k (λw l ws=>aD C w l (zb3 ws)) (evalPairs (pairTrees ks vs env pos)) w s (gT (C.cx d) (uD ia ib) fr H):=by
 induction hk with
 |nil=>
  intro vs ib hv hl Y env k mE fr w H s p r e;cases hv with
  |nil=>cases e;exact λQ E hq=>evalPairs_nil (hq w [] s (.refl p.st) .nil)
  |cons _ _=>cases hl
 |cons hk _ ih=>
  intro vs ib hv hl Y env k mE fr w H s p r;cases hv with
  |nil=>cases hl
  | @cons v b vs ib hv hvs=>
   obtain ⟨ke,rfl,hk⟩:=hk;refine aG λx H1 e1=>aG λl H2 e0 e=>?_
   revert e0
   refine aG λy H3 e2=>aG λl' H4 e3 e4=>?_;cases e4;cases e;exact λQ E hq=>evalPairs_cons (hk.es Y env k mE fr w H s p _ e1 _ _ λw1 a1 s1 n1 r1=>wpAny_bind (hv.es Y env k mE fr w1 H1 s1 (p.next n1) _ e2 _ _ λw2 a2 s2 n2 r2=>wpAny_bind (wpAny_standAt (wpAny_pure
    (ih hvs (JZ.inj hl) Y env k mE fr w2 H3 s2 ((p.next n1).next n2) _ e3 _ _ λw3 a3 s3 n3 r3=>hq w3 ((a1,a2)::a3) s3 ((n1.trans n2).trans n3) (.cons (r1.mono (n2.le.trans n3.le)) (.cons (r2.mono n3.le) r3)))))))
theorem zeB {D:Addr}: ∀ {ws:List (Value×Value)}{l:List Val}{mes mes':List (Val×Val)}{es:List DictEntry}{s:Shared}{Q:PUnit->Shared->Prop}{E:Value->Shared->Prop},
  aD C w l (zb3 ws) ->oE l mes=some mes'->mes.length+ws.length<=1000->St Y (k.ext (D,dictOf es mes.length)) w H s->i0 C w mes es->
  (∀es' s',St Y (k.ext (D,dictOf es' mes'.length)) w H s'->i0 C w mes' es'->gZ s s'->Q PUnit.unit s') ->wpAny C.M Y.A (storeAll D ws) Q E s:=by
 intro ws
 induction ws with
 |nil=>
  intro l mes mes' es s Q E r e _ S j hq;cases l with
  |nil=>cases e;exact wpAny_pure (hq es s S j (.refl s))
  |cons _ _=>obtain ⟨_,_,e,_,_⟩:=r;cases e
 |cons p ws ih=>
  intro l mes mes' es s Q E r e hl S j hq;cases l with
  |nil=>cases r
  |cons x l=>
   obtain ⟨kv,t,e1,hk,r⟩:=r;cases e1;cases l with
   |nil=>cases r
   |cons v l=>
    obtain ⟨vv,t,e1,hv,r⟩:=r;cases e1;obtain ⟨hf,e⟩:=gs e;unfold storeAll;rw [KG];refine wpAny_bind (wpAny_bind (zd5 S (Y.u (n:=1) (by decide)) S.exHead.1 j hf (Q8 (Qi (J0 (Jo _)) hl:mes.length<1000) (by decide)) hk hv λes' h' tk hs hg j'=>wpAny_pure ?_));rw [<-zJ (v:=v)] at hg;refine ih (s:={s with heap:=h',toks:=tk}) r e ?_ (S.setEx hs hg) j' λes'' s'' S'' j'' sm=>hq es'' s'' S'' j'' ⟨sm.1,sm.2⟩;exact Qa (QV (wU (QD _)) _) (by rw [Ye];exact hl)
theorem zho {ks:List (Option Expr)}{ia:List Ex} (hk:cL (SdK C d cx) ks ia): ∀ {ib:List Ex},ib.length=ks.length->ks.all (·.isSome)=true/\(uD ia ib).length=2*ks.length:=by
 induction hk with
 |nil=>exact λ_=>⟨rfl,rfl⟩
 |cons h _ ih=>
  intro ib hl;cases ib with
  |nil=>cases hl
  |cons b ib=>
   refine Ji h λ_ zq25=>?_;obtain rfl:=zq25.1;exact ⟨(ih (JZ.inj hl)).1,by rw [JA,Ze,<-(ih (JZ.inj hl)).2];rfl⟩
theorem zeR {ks:List (Option Expr)}{vs:List Expr}{ia ib:List Ex}{pos:Pos} (hk:cL (SdK C d cx) ks ia) (hv:Sds C d cx vs ib) (hl:ks.length=vs.length):dA C d cx (.Dict ks vs pos) (.dict (uD ia ib)):=by
 intro Y env k mE fr w H s p r;refine aG λl H1 e1=>aX λes e2=>cZ λhlen e=>?_;cases e;have hlen:=QW.mp hlen;obtain ⟨hall,hz⟩:=zho hk (hv.length.trans hl.symm);intro Q E hq;have S0 := p.st.addEx { cls := .type "dict",data := .dict #[] } rfl;have fin: ∀ {w':Wd}{des:List DictEntry}{s':Shared},w.le w'->St Y (k.ext (s.heap.objs.size,dictOf des es.length)) w' H1 s'->i0 C w' es des->es.length<=lim->gZ s s'->Q (.ref s.heap.objs.size) s':=λ{w' des s'} le S' j' hl sm=>
  hq _ _ s' ⟨le.trans (⟨Q9 _ _,λ_ x=>x⟩:w'.le ⟨w'.σ++ [s.heap.objs.size],w'.tp⟩),S'.fromEx (p.st.four (Qj _)) ⟨des,_,rfl,λe he=>Qx.inj he,j'.mono (⟨Q9 _ _,λ_ x=>x⟩:w'.le ⟨w'.σ++ [s.heap.objs.size],w'.tp⟩),hl⟩,sm⟩ ⟨_,rfl,by rw [<-S'.len];exact Jk⟩
 by_cases h0:ks= []
 ·subst h0
  cases hk;have hvs:vs= []:=JB.mp hl.symm;subst hvs;cases hv;cases e1;cases e2;exact wpAny_Dict_empty (fin (s' := { s with heap := s.heap.push { cls := .type "dict",data := .dict #[] } }) (.refl w) S0 (.inl ⟨[],.nil⟩) (Qs _) ⟨rfl,rfl⟩)
 ·refine wpAny_Dict_any hall hl h0 (by lia) (zcN hk hv hl Y env _ mE fr w H _ (p.ext S0) _ e1 _ _ λw1 ws s1 n1 r1=>?_)
  have hws:l.length=2*ws.length:=by rw [<-zdv];exact r1.length
  have hel:l.length=(uD ia ib).length:=iE e1;have hsz: ∀ {l:List Val}{mes mes':List (Val×Val)},oE l mes=some mes'->mes'.length<=mes.length+l.length:=by
   intro l mes mes' e
   fun_induction oE l mes with
   |case1=>cases e;exact Qj _
   |case2=>cases e
   |case3 es k v r ih=>
    obtain ⟨_,e⟩:=gs e;refine Qa (ih e) (Qa (QV (wU (QD _)) _) ?_);simp only [JA];lia
  have hes:=hsz e2;exact zeB (mes:=[]) (es:=[]) r1 e2 (by rw [Yw];lia) n1.st (.inl ⟨[],.nil⟩) λdes s' S' j' sm=>fin n1.le S' j' (by rw [Yw] at hes;exact Qa hes (Qa (Qa (Qt (Jv _)) (Qa (Qt hel) hlen):_<=30) (by decide))) (gZ.trans (b:=s1) ⟨n1.same.1,n1.same.2⟩ sm)
theorem zgO {i:Int}{n:Nat} (h:0<=i):max 0 (min (if i<0 then i+(n:Int) else i) (n:Int))=((min i.toNat n:Nat):Int):=by
 rw [if_neg (KV.mpr h)];obtain ⟨m,rfl⟩:=Int.eq_ofNat_of_zero_le h;rw [ZR];rcases Nat.le_total m n with e|e
 ·rw [ZL e,Int.min_eq_left (Yp.mpr e)];exact Int.max_eq_right (Zm m)
 ·rw [Kt e,Int.min_eq_right (Yp.mpr e)];exact Int.max_eq_right (Zm n)
theorem zcp (s:List Nat) {l u:Option Int} (hl: ∀i,l=some i->0<=i) (hu: ∀i,u=some i->0<=i):
  Txt.slice ⟨s.toArray⟩ l u=⟨(cut s (l.elim 0 (λi=>min i.toNat s.length)) (u.elim s.length (λi=>min i.toNat s.length))).toArray⟩:=by
 have hlen:(⟨s.toArray⟩:Str).length=s.length:=rfl
 generalize ha:l.elim 0 (λi=>min i.toNat s.length)=a
 generalize hb:u.elim s.length (λi=>min i.toNat s.length)=b
 have hbn:b<=s.length:=by
  cases u with
  |none=>exact Qt hb.symm
  |some j=>exact hb▸Yi _ _
 have hidx:KS l u 1 s.length=(QS (b-a)).map (a+ ·):=by
  rw [<-sliceRange_one];unfold KS;simp only [show (1:Int)>0 by decide,if_true]
  congr 1
  ·cases l with
   |none=>exact congrArg Xx ha
   |some i=>
    have:=hl i rfl
    simp only [X4] at ha;exact (zgO this).trans (congrArg Xx ha)
  ·cases u with
   |none=>exact congrArg Xx hb
   |some i=>
    have:=hu i rfl
    simp only [X4] at hb;exact (zgO this).trans (congrArg Xx hb)
 unfold Txt.slice;rw [hlen,hidx];rw [(pick_run s.toArray a (b-a):(KA (λx=>a+x) (QS (b-a))).filterMap (λx=>(⟨s.toArray⟩:Str).cps[x]?)=(s.drop a).take (b-a)),(by unfold cut;rw [List.drop_take]:cut s a b=(s.drop a).take (b-a))];split
 ·rename_i h
  simp only [beq_self_eq_true,Z6,beq_iff_eq,Qe,QZ] at h;by_cases h0:s.length=0
  ·rw [JB.mp h0];simp
  ·rw [show a=0 from Nat.eq_zero_of_not_pos λha=>Zd (Qi (YZ (KW λe=>h0 (by rw [<-h,e,Nat.zero_sub])) ha) hbn) h,show b=s.length by exact Zx hbn (Qa (Qt (K8 h)) (Kb _ _))];simp
 ·rfl
structure BdO (C:Cfg) (v:Value) (l:Option Int):Prop where
 nn: ∀i,l=some i->0<=i
 p:(l=none/\v= .none)\/∃i t,l=some i/\v= .int i t
theorem zcc {n c:Nat}{x:Val}{v:Value} (hv:aF C w x v) (h:nD n x=some c): ∃i,BdO C v (some i)/\c=min i.toNat n:=by
 obtain ⟨i,e1,h⟩:=bs h;obtain ⟨hb,e⟩:=gs h;obtain ⟨t,e2⟩:=hv.int? e1;exact ⟨i,⟨λj q=>Qx.inj q▸of_decide_eq_true hb,.inr ⟨i,t,rfl,e2⟩⟩,(Qx.inj e).symm⟩
theorem zjp {x:List Nat}{a b:Nat} (h:sOk x):sOk (cut x a b):=
 ⟨λc hc=>h.1 c (ZX (List.mem_of_mem_drop hc)),Qa (by unfold cut;rw [Za,JN];exact Qa (Kb _ _) (Yi _ _)) h.2⟩
theorem zie {value:Expr}{lo' hi':Option Expr}{sp:Pos} (hc:(gM value).isSome=true) {s0:Shared} (S:St Y k w H s0) {o:Val}{ov vl vu:Value}{n':Nat}{bvs:List Val} (ho:aF C w o ov)
  (hb : ∀ n p,r0 n n' bvs = some p -> ∃ l u,BdO C vl l /\ BdO C vu u /\ p = (l.elim 0 (λi => min i.toNat n),u.elim n (λi => min i.toNat n))) (hs : s = { s0 with heap := s0.heap.push { cls := .type "slice",data := .fields #[vl,vu,.none] } }) {r : Val × MH} (e : slice H o n' bvs = some r) {Q : Value -> Shared -> Prop} {E : Value -> Shared -> Prop}
  (hq: ∀w' a s',Nxt Y k w w' r.2 s0 s'->aF C w' r.1 a->Q a s'):wpAny C.M Y.A (subscriptTail value (.Slice lo' hi' none sp) ov (.ref s0.heap.objs.size)) Q E s:=by
 subst hs;have hgo: ∀o r,letTemporaryGo value o r=pure ():=by
  refine (Jl.mp hc).elim λp zq18=>?_;rw [gY zq18];exact λ_ _=>rfl
 revert e
 refine aX λx e1=>aX λp e2 e=>?_
 ·cases e
  obtain ⟨t,rfl,ok⟩:=ho.str? e1;obtain ⟨l,u,⟨p1,p2⟩,⟨p3,p4⟩,rfl⟩:=hb _ _ e2;obtain ⟨all,hn,_,_,g3⟩:=S.ledger;have hsz:(⟨x.toArray⟩:Str).length<=sizeLine:=Qa ok.2 c5;have fin: ∀ (h':Heap) (t':Tok) (tk:Nat),Fr Y.h₀ Y.L h' k.m->News Y.h₀ Y.L h' all->Q (.str (Txt.slice ⟨x.toArray⟩ l u) t') {s0 with heap:=h',toks:=tk}:=λh' t' tk F N=>by
   rw [zcp x p1 p3];exact hq w _ _ ⟨.refl w,g3 h' F N,rfl,rfl⟩ ⟨t',rfl,zjp ok⟩
  rcases p2 with ⟨rfl,rfl⟩| ⟨i,ti,rfl,rfl⟩
  ·rcases p4 with ⟨rfl,rfl⟩| ⟨j,tj,rfl,rfl⟩
   ·exact slice_strN_nn S.fr hn fin rfl (hgo _) hsz
   ·exact slice_strN_ns S.fr hn fin rfl (hgo _) hsz
  ·rcases p4 with ⟨rfl,rfl⟩| ⟨j,tj,rfl,rfl⟩
   ·exact slice_strN_sn S.fr hn fin rfl (hgo _) hsz
   ·exact slice_strN_ss S.fr hn fin rfl (hgo _) hsz
theorem zcK {v:Expr}{lo hi:Option Expr}{sp pos:Pos}{ie:Ex}{f:Expr->Option Ex}{q:Nat×List Ex} (hc:(gM v).isSome=true) (hv:dA C d cx v ie) (hf: ∀e i,f e=some i->Sd C d cx e i) (hb:w7 f lo hi=some q):dA C d cx (.Subscript v (.Slice lo hi none sp) pos) (.slice ie q.1 q.2):=by
 intro Y env k mE fr w H s p r;refine aG λx H1 e1=>aG λbv H2 e2 e=>?_;intro Q E hq;refine Subscript_ (hv Y env k mE fr w H s p _ e1 _ _ λw1 a1 s1 n1 r1=>wpAny_Slice ?_);have p1:=p.next n1;have fin: ∀ {w3:Wd}{s3:Shared}{vl vu:Value},Nxt Y k w1 w3 H2 s1 s3->(∀n p,r0 n q.1 bv=some p-> ∃l u,BdO C vl l/\BdO C vu u/\p=(l.elim 0 (λi=>min i.toNat n),u.elim n (λi=>min i.toNat n))) ->
   wpAny C.M Y.A (evalPart none env) (λst s₃ => wpAny C.M Y.A (subscriptTail v (.Slice lo hi none sp) a1 (.ref s₃.heap.objs.size)) Q E { s₃ with heap := s₃.heap.push { cls := .type "slice",data := .fields #[vl,vu,st] } }) E s3 := λ{w3 s3 vl vu} n3 hbb =>
  wpAny_pure (zie hc n3.st (r1.mono n3.le) hbb rfl e λw4 a4 s4 n4 r4=>hq w4 a4 s4 ((n1.trans n3).trans n4) r4)
 cases lo with
 |none=>cases hb
 |some a=>
  obtain ⟨xa,hxa,hb⟩:=bs hb;cases hi with
  |none=>cases hb
  |some b=>
   refine (ms hb).elim λy zq5=>?_;have e3:=zq5.2;cases e3
   revert e2
   refine aG λx' H3 e2=>aG λl H4 e5 e4=>?_;cases e4
   revert e5
   refine aG λy' H5 e3=>aG λl' H6 e6 e7=>?_;cases e6;cases e7;refine (hf _ _ hxa).es Y env k mE fr w1 H1 s1 p1 _ e2 _ _ λw2 a2 s2 n2 r2=>(hf _ _ zq5.1).es Y env k mE fr w2 H3 s2 (p1.next n2) _ e3 _ _ λw3 a3 s3 n3 r3=>fin (n2.trans n3) λn p h=>?_;obtain ⟨c,h1,h⟩:=bs (o:=nD n x') (f:=λx=>(nD n y').map λy=>(x,y)) h;obtain ⟨c',h2,rfl⟩:=ms h;refine (zcc (r2.mono n3.le) h1).elim λi zq2=>?_;obtain rfl:=zq2.2;refine (zcc r3 h2).elim λj zq1=>?_;obtain rfl:=zq1.2;exact ⟨some i,some j,zq2.1,zq1.1,rfl⟩
end
section
variable {C:Cfg}{d e:Nat}{Y:aY C d e}{k:Kp}{w:Wd}{H:MH}{s:Shared}{as:List Val}{vs:List Value}
theorem zcL (S : St Y k w H s) {x : Val} {v : Value} (hx : aF C w x v) : Ref Y k (VR C) (call (.type "set") [v]) w s (zjZ x H) := .none
end
end Internal
namespace Internal
open PySem PySem.W PySem.Calls PySem.NumText PyProof.Rows
section
variable {α β:Type}{C:Cfg}{d e:Nat}{Y:aY C d e}{k:Kp}{R:Wd->β->α->Prop}{w:Wd}{s:Shared}{T:List Value->Sem α}{as:List Val}{vs:List Value}
theorem Ref.a0 {o:Option (β×MH)} (r:aD C w as vs) (h:Ref Y k R (T []) w s o):Ref Y k R (T vs) w s (a0 as o):=by
 cases as with
 |nil=>cases r;exact h
 |cons _ _=>exact .none
theorem Ref.a1 {f:Val->Option (β×MH)} (r:aD C w as vs) (h: ∀v rv,aF C w v rv->Ref Y k R (T [rv]) w s (f v)):Ref Y k R (T vs) w s (a1 as f):=by
 cases as with
 |nil=>exact .none
 |cons v as=>obtain ⟨rv,t,rfl,hv,r⟩:=r;exact .a0 (T:=λl=>T (rv::l)) r (h v rv hv)
theorem Ref.a2 {f:Val->Val->Option (β×MH)} (r:aD C w as vs) (h: ∀v rv,aF C w v rv-> ∀v' rv',aF C w v' rv'->Ref Y k R (T [rv,rv']) w s (f v v')):Ref Y k R (T vs) w s (a2 as f):=by
 cases as with
 |nil=>exact .none
 |cons v as=>obtain ⟨rv,t,rfl,hv,r⟩:=r;exact .a1 (T:=λl=>T (rv::l)) r (h v rv hv)
end
def zdy (l:List Nat):Nat:=l.foldl (λa c=>a*256+c) 0
theorem oD (l:List Nat) (c:Nat):zdy (l++ [c])=zdy l*256+c:=by unfold zdy;rw [ZC];rfl
theorem zgz {a b c c':Nat} (h1:c<=255) (h2:c'<=255) (e:a*256+c=b*256+c'):a=b/\c=c':=by lia
theorem zgA: ∀ (n:Nat) (l l':List Nat),l.length<=n->(∀c∈l,1<=c/\c<=255) ->(∀c∈l',1<=c/\c<=255) ->zdy l=zdy l'->l=l':=by
 have nz: ∀ {r:List Nat}{c:Nat},(∀x∈r++ [c],1<=x/\x<=255) ->zdy (r++ [c])≠0:=λ{r c} h e=>by
  rw [oD] at e
  have:=(h c (QG _ (.head _))).1
  lia
 intro n
 induction n with
 |zero=>
  intro l l' hl h h' e;cases JB.mp (Xq.mp hl);rcases ZP l' with rfl| ⟨r,c,rfl⟩
  ·rfl
  ·rw [Zr] at*;exact absurd e.symm (nz h')
 |succ n ih=>
  intro l l' hl h h' e;rcases ZP l with rfl| ⟨r,c,rfl⟩
  ·rcases ZP l' with rfl| ⟨r',c',rfl⟩
   ·rfl
   ·rw [Zr] at*;exact absurd e.symm (nz h')
  ·rcases ZP l' with rfl| ⟨r',c',rfl⟩
   ·rw [Zr] at*;exact absurd e (nz h)
   ·rw [Zr] at*
    rw [Zr,oD,oD] at*;obtain ⟨e1,e2⟩:=zgz (h c (QG _ (.head _))).2 (h' c' (QG _ (.head _))).2 e;rw [e2,ih r r' (by rw [Qv] at hl;exact Kh hl) (λx hx=>h x (Jr _ hx)) (λx hx=>h' x (Jr _ hx)) e1]
theorem wR {x y:Str} (hx:aI x=true) (hy:aI y=true) (e:enc x=enc y):x=y:=by
 have hd: ∀z:Str,aI z=true-> ∀c∈z.cps.toList,1<=c/\c<=255:=by
  intro z hz c hc;unfold aI at hz;simp only [Jz,Jc,decide_eq_true_eq] at hz;exact hz.1.1.1.1 c hc
 have:=zgA _ x.cps.toList y.cps.toList (Qj _) (hd x hx) (hd y hy) e
 cases x;cases y;exact congrArg Str.mk (Array.toList_inj.mp this)
section
variable {prog:Program}{w:World}{A:Around}{E:Value->Shared->Prop}{s:Shared}
theorem ze5 (d:Addr) (es:List DictEntry) (n:Nat) (hd:(d==sysModules)=false):
  MeetsIn prog w (Builtin.«dict.__len__» ⟨[.ref d],[]⟩) (λ_ R s=>s.heap.get? d=some (dictOf es n)/\R (.ok (.ret (.int es.length s.toks))) {s with toks:=s.toks+1}):=
 .of_wp λA R s ⟨ho,h⟩=>by
  show wpAny _ _ (dictSize d>>=_) _ _ s;unfold dictSize;refine wpAny_bind (wpAny_bind (wpAny_dictEntries ho rfl (wpAny_pure ?_)));show wpAny _ _ (Builtin.Dict.pendingCount d>>=_) _ _ s;exact wpAny_bind (wpAny_pendingCount_other hd (wpAny_ret_mkInt (by simpa using h)))
theorem zix {d:Addr}{es:List DictEntry}{n:Nat}{Q:Value->Shared->Prop} (hd:(d==sysModules)=false) (ho:s.heap.get? d=some (dictOf es n)) (hfit:(es.length:Int)<2 ^ 63)
  (h : Q (.int es.length (s.toks + 1)) { s with toks := s.toks + 1 + 1 }) : wpAny (model prog w) A (call (.builtin "len") [.ref d]) Q E s := by
 refine Calls.call_function_entry kind_len plain_len entry_len (args_len1 _) ?_;unfold Builtin.«len»;refine wpAny_bind (m:=oneArg "len" _) (wpAny_pure ?_);refine wpAny_bind (m:=callSpecial? (.ref d) (Str.ofString "__len__")) (wpAny_callSpecial?_slot (name:=Str.ofString "__len__") (⟨_,ho,rfl⟩ : s.TypeIs (.ref d) "dict") F.slot_dict_len
  (call_meetsIn F.slot_dict_len (⟨_,ho,rfl⟩ : s.TypeIs (.ref d) "dict") F.entry_dict_len (F.args_dict_len_1 _) (ze5 d es n hd) ⟨ho,?_⟩))
 show wpAny _ _ _ _ _ {s with toks:=s.toks+1};refine wpAny_bind (wpAny_holding (wpAny_pure ?_));refine wpAny_bind (wpAny_letGo ?_);show wpAny _ _ (if ((es.length:Nat):Int)<0 then _ else _) _ _ _;rw [if_neg (KV.mpr (Zm _))];show wpAny _ _ (if ((es.length:Nat):Int) ≥ 2 ^ 63 then _ else _) _ _ _;rw [if_neg (YY.mpr hfit)];exact wpAny_bind (wpAny_mkInt (wpAny_pure ⟨_,rfl,h⟩))
end
section
variable {C:Cfg}{d e:Nat}{Y:aY C d e}{k:Kp}{w:Wd}{H:MH}{s:Shared}{as:List Val}{vs:List Value}
theorem zib (S : St Y k w H s) (r : aD C w as vs) : Ref Y k (VR C) (call (.builtin "len") vs) w s (zkx as H) := by
 refine .a1 (T:=λl => call (.builtin "len") l) r λx v hx => .omap λn e => .val S λQ E q => ?_;have q: ∀t tk,Q (.int n t) {s with toks:=tk}:=λt tk=>q _ tk ⟨t,rfl⟩;have lst : ∀ {b : Addr} {ws : List Value},s.heap.IsList b ws.toArray -> n = ws.length -> n <= lim -> wpAny C.M Y.A (call (.builtin "len") [.ref b]) Q E s := λ{b ws} hL e hl => by
  subst e;exact len_list hL (jE hl) (q _ _)
 cases x with
 |str l=>cases e;obtain ⟨t,rfl,ok⟩:=hx;exact len_str (YY.mpr (jE ok.2)) (q _ _)
 |tup l=>
  cases e;obtain ⟨t,o,n',ws,rfl,ho,hc,hd,rr,hl⟩:=S.tup hx;refine PyProof.Rows.len_tuple (items:=ws.toArray) ⟨o,ho,hc,n',hd⟩ (by rw [(by rw [Je,rr.length]:ws.toArray.size=l.length)];exact jE hl) ?_;rw [(by rw [Je,rr.length]:ws.toArray.size=l.length)];exact q _ _
 |fl l=>cases e;obtain ⟨b,o,n',ws,rfl,h,rr,hl⟩:=hx;exact lst ⟨o,S.kIn _ _ h.1,h.2,n',h.3⟩ rr.length hl
 |ref i=>
  revert e
  refine cA (bU λl hl e=>?_) (bU λp hp e=>?_)
  ·obtain ⟨t,ws,n',rfl,ho,rr,hl⟩:=S.list hx hl
   exact lst ⟨_,ho,rfl,n',rfl⟩ (e.symm.trans rr.length) (e▸hl)
  ·obtain ⟨_,_,b,n',es,rfl,hmod,_,hg,hdr,hl,_⟩:=S.dict hx hp
   exact zix hmod hg (by rw [hdr.entries.1];exact jE hl) (by rw [(hdr.entries.1.trans e)];exact q _ _)
 |setn i=>
  cases e;obtain ⟨_,_,_,_,_,rfl,h⟩:=hx;exact call_len_set (S.tpAt h.1) h.2 h.3 h.4 (by rw [h.5];exact jE h.6) (by rw [h.5];exact q _ _)
 |_=>exact nos e
theorem Sta.kept {h h':Heap} (S:Sta C Y.h₀ Y.L k w H h) (hk: ∀b o,h.get? b=some o->h'.get? b=some o):Sta C Y.h₀ Y.L k w H h':=
 zjN.casesOn S.ledger λall hn _ _ g=>g h' (S.fr.keeps hk) λp hp=>⟨hk _ _ (hn p hp).1,(hn p hp).2⟩
theorem Ref.int {t:Sem Value}{z:Int} (S:St Y k w H s) (h: ∀ (Q:Value->Shared->Prop) (E:Value->Shared->Prop),(∀u h' tk,(∀b o,s.heap.get? b=some o->h'.get? b=some o) ->Q (.int z u) {s with heap:=h',toks:=tk}) ->wpAny C.M Y.A t Q E s):Ref Y k (VR C) t w s (some (.int z,H)):=by
 intro r e;cases e;exact λQ E hq=>h Q E λu h' tk hk=>hq w _ _ ⟨.refl w,S.kept hk,rfl,rfl⟩ ⟨u,rfl⟩
theorem zia (S : St Y k w H s) (r : aD C w as vs) : Ref Y k (VR C) (call (.builtin "max") vs) w s (zkw as H) := by
 refine .a2 (T:=λl => call (.builtin "max") l) r λx v hx y u hy => .opt λa ea => .omap λb eb => ?_;obtain ⟨_,rfl⟩:=hx.int? ea;obtain ⟨_,rfl⟩:=hy.int? eb;refine .int S λQ E q=>max_two_ints Y.handled λh' tk hk=>?_;by_cases c:b>a
 ·rw [if_pos c] at q ⊢;exact q _ h' tk hk
 ·rw [if_neg c] at q ⊢;exact q _ h' tk hk
theorem zh9 (S : St Y k w H s) (r : aD C w as vs) : Ref Y k (VR C) (call (.builtin "min") vs) w s (zkv as H) := by
 refine .a2 (T:=λl => call (.builtin "min") l) r λx v hx y u hy => .opt λa ea => .omap λb eb => ?_;obtain ⟨_,rfl⟩:=hx.int? ea;obtain ⟨_,rfl⟩:=hy.int? eb;refine .int S λQ E q=>min_two_ints Y.handled λh' tk hk=>?_;by_cases c:b<a
 ·rw [if_pos c] at q ⊢;exact q _ h' tk hk
 ·rw [if_neg c] at q ⊢;exact q _ h' tk hk
theorem mK {t:List (Nat×String)}{n m:Nat}{x y:String} (h:(n==m)=true) (hx:t.lookup n=some x) (hy:t.lookup m=some y):x=y:=by rw [beq_iff_eq.mp h] at hx;exact Qx.inj (hx.symm.trans hy)
theorem zcM (S : St Y k w H s) (r : aD C w as vs) : Ref Y k (VR C) (call (.type "range") vs) w s (zby as H) := by
 refine .a1 (T:=λl => call (.type "range") l) r λx v hx => .omap λn e => ?_;obtain ⟨t,rfl⟩:=hx.int? e;intro r' e';cases e';obtain ⟨all,hn,_,tp,_⟩:=S.ledger;exact λQ E hq=>call_range_1 (hq ⟨w.σ,_::w.tp⟩ _ {s with heap:=_,toks:=_} ⟨⟨Kr _,λp hp=> .tail _ hp⟩,tp _ _ _ (S.fr.push _) (hn.push S.fr _) (Qj _),rfl,rfl⟩ ⟨_,_,_,_,rfl,.head _⟩)
theorem zak (S : St Y k w H s) (r : aD C w as vs) : Ref Y k (VR C) (call (.type "list") vs) w s (z9 as H) := by
 have key : ∀ {mvs : List Val} {ws : List Value} {la : Addr} {o : Obj} {n : Nat},aD C w mvs ws -> mvs.length <= lim -> s.heap.get? la = some o -> (o.cls = .type "list" \/ o.cls = .type "tuple") -> o.data = .seq ws.toArray n -> Ref Y k (VR C) (call (.type "list") [.ref la]) w s (dW H (.list mvs)) := by
  intro mvs ws la o n rr hl ho hc hd r' e' Q E hq;cases e';obtain ⟨all,hn,add,_,_⟩:=S.ledger;have le:w.le ⟨w.σ++ [s.heap.objs.size],w.tp⟩:=⟨Q9 _ _,λ_ x=>x⟩;have hsz:ws.toArray.size<=sizeLine:=by rw [Je,<-rr.length];exact Qa hl c5
  have fin: ∀h' c',(∀b o,s.heap.get? b=some o->h'.get? b=some o) ->h'.get? s.heap.objs.size=some (listOf ws.toArray c') ->Q (.ref s.heap.objs.size) {s with heap:=h'}:=λh' c' hk hD=>
   hq _ _ _ ⟨le,add _ (.list mvs) [_] h' ⟨ws,c',rfl,rr.mono le,hl⟩ (S.fr.keeps hk) (news_pushed S.fr hn hk hD rfl) (hO _) (News.fresh hn λp hp=>Qu.mp hp▸Qj _) (S.four (Qj _)),rfl,rfl⟩ ⟨_,rfl,by rw [<-S.len];exact Jk⟩
  rcases hc with hc|hc
  ·exact call_list_seq (hsz:=hsz) la (.inl rfl) ho hc hd fin
  ·exact call_list_seq (hsz:=hsz) la (.inr rfl) ho hc hd fin
 refine .a1 (T:=λl => call (.type "list") l) r λx v hx => .alt (.opt λl e => ?_) (.alt (.opt λl e => ?_) (.opt λl e => ?_))
 ·cases tup?_s e
  obtain ⟨t,o,n,ws,rfl,ho,hc,hd,rr,hl⟩:=S.tup hx;exact key rr hl ho (.inr hc) hd
 ·cases fl?_s e
  obtain ⟨t,o,n,ws,rfl,q,rr,hl⟩:=hx;exact key rr hl (S.kIn _ _ q.1) (.inl q.2) q.3
 ·obtain ⟨la,ws,n,rfl,ho,rr,hl⟩:=S.list hx e
  exact key rr hl ho (.inl rfl) rfl
theorem zai (S : St Y k w H s) (r : aD C w as vs) : Ref Y k (VR C) (call (.type "type") vs) w s (zej as H) := by
 refine .a1 (T:=λl => call (.type "type") l) r λx v hx => .omap λn e => .val S λQ E q => ?_;have fin: ∀ {T:String},iK.lookup n=some T->Q (.type T) s:=λhT=>q _ s.toks ⟨_,rfl,hT⟩;cases x with
 | none => cases e; cases hx; exact call_type_of (Tx:="NoneType") rfl (by decide) (fin rfl)
 | bool b => cases e; cases hx; exact call_type_of (Tx:="bool") rfl (by decide) (fin rfl)
 | int i => cases e; obtain ⟨_,rfl⟩ := hx; exact call_type_of (Tx:="int") rfl (by decide) (fin rfl)
 | str l => cases e; obtain ⟨_,rfl,_⟩ := hx; exact call_type_of (Tx:="str") rfl (by decide) (fin rfl)
 | tup l => cases e; obtain ⟨t,o,n,ws,rfl,ho,hc,_,_,_⟩ := S.tup hx; exact call_type_of (Tx:="tuple") ⟨o,ho,hc⟩ (by decide) (fin rfl)
 |ref i=>
  refine (ms e).elim λl zq9=>?_;have e:=zq9.2;subst e;have zq8:=S.list hx zq9.1;obtain ⟨la,ws,n,rfl,ho,_,_⟩:=zq8;exact call_type_of (Tx:="list") ⟨_,ho,rfl⟩ (by decide) (fin rfl)
 |_=>exact nos e
theorem zal (S : St Y k w H s) (r : aD C w as vs) : Ref Y k (VR C) (call (.type "dict") vs) w s (zaa as H) := by
 refine .a1 (T:=λl => call (.type "dict") l) r λx v hx => .opt λp hp => .grd λhk => ?_;intro r' e';cases e';refine (S.dict hx hp).elim λ_ zq4=>?_;obtain ⟨b,n,es,rfl,hmod,_,hg,hdr,hl,_⟩:=zq4.2;obtain ⟨kvs,D⟩: ∃kvs,DA C w p.2 es kvs:=by
  cases hp2:p.2 with
  |nil=>rw [hp2] at hdr;exact hdr.atom (a:=.i 0) rfl
  |cons q qs=>
   rw [hp2] at hdr hk;have h1:=beq_iff_eq.mp (Qb.mp hk).1;rcases hdr with h| ⟨xs,D⟩
   ·exact h
   ·have e:=D.e
    cases xs with
    |nil=>cases e
    |cons x xs=>rw [show q.1= .tup (x.1.map Atom.val) from (Z0.inj e).1,jF] at h1;cases h1
 obtain ⟨all,hn,add,_,_⟩:=S.ledger;refine λQ E hq=>kt_call_dict (knd:=b9 C.prog C.w) hmod (D.dictOf hg) (by rw [<-y3 D.e];exact Qa hl c5) λh' hD hs=>?_;obtain ⟨o,es',ep',ho',hex,hd,q1,q2,q3⟩:=hD;have hoe:o=dictOf es'.toList ep':=by
  obtain ⟨oc,od,odata,osl⟩:=o;obtain ⟨x1,x2,x3⟩:=hex;cases x1;cases x2;cases x3;cases hd;rfl
 have hkeep: ∀c x,s.heap.get? c=some x->h'.get? c=some x:=λc x hc=>(hs.2 c (Zd (Xd hc))).trans (Heap.get?_push_of_some _ hc);refine hq _ _ {s with heap:=h'} ⟨(⟨Q9 _ _,λ_ x=>x⟩:w.le ⟨w.σ++ [s.heap.objs.size],w.tp⟩),add _ (.dict none p.2) [(s.heap.objs.size,dictOf es'.toList ep')] h' ⟨_,_,rfl,λe he=>nos he,i0.mono (⟨Q9 _ _,λ_ x=>x⟩:w.le ⟨w.σ++ [s.heap.objs.size],w.tp⟩) (.inl ⟨kvs,q2,q1,D.n,D.e,D.ok,D.r⟩),hl⟩ (S.fr.keeps hkeep) (λq hq=>?_) (hO _) (News.fresh hn λp hp=>Qu.mp hp▸Qj _) (S.four (Qj _)),rfl,rfl⟩ ⟨_,rfl,by rw [<-S.len];exact Jk⟩;rcases QE.mp hq with e|hq
 ·rw [e]
  exact ⟨by rw [<-hoe];exact ho',JI S.fr.ns.lt,Heap.get?_none_of_le (Qa S.fr.above (QC S.fr.ns.lt))⟩
 ·exact ⟨hkeep _ _ (hn q hq).1,(hn q hq).2⟩
theorem zll {n:Nat}{nm:String} (hb:iK.lookup n=some nm) (S:St Y k w H s) (r:aD C w as vs):Ref Y k (VR C) (call (.type nm) vs) w s (wW n as H):=
 .alt (.grd λh => mK (t:=iK) h hb (y:="range") rfl ▸ zcM S r) (.alt (.grd λh => mK (t:=iK) h hb (y:="list") rfl ▸ zak S r) (.alt (.grd λh => .none)
 (.alt (.grd λh => mK (t:=iK) h hb (y:="type") rfl ▸ zai S r) (.alt (.grd λh => mK (t:=iK) h hb (y:="dict") rfl ▸ zal S r) (.alt (.grd λh => .none) (.grd λh => mK (t:=iK) h hb (y:="set") rfl ▸ .a1 (T:=λl => call (.type "set") l) r λx v hx => zcL S hx))))))
end
theorem zcZ : aI "append" = true /\ enc "append" = nAppend := by decide +kernel
theorem zfk : aI "index" = true /\ enc "index" = nIndex := by decide +kernel
theorem zlK : aI "pop" = true /\ enc "pop" = nPop := by decide +kernel
theorem zlL : aI "get" = true /\ enc "get" = nGet := by decide +kernel
theorem zaq : aI "isspace" = true /\ enc "isspace" = nIsspace := by decide +kernel
theorem qY {nm x:Str}{n:Nat} (hn:aI nm=true) (ok:aI x=true/\enc x=n) (h:(enc nm==n)=true):x=nm:=wR ok.1 hn (ok.2.trans (beq_iff_eq.mp h).symm)
def zhg {C:Cfg}{d e:Nat} (Y:aY C d e) (k:Kp) (w:Wd) (vx:Value) (vs:List Val) (h2:MH) (r:Val×MH) (id:String):Prop:=
 ∀w2 s2 ws,w.le w2->St Y k w2 h2 s2->aD C w2 vs ws->zhk Y k (VR C) (call (.builtin id) (vx::ws)) w2 s2 r.1 r.2
def zjM {C:Cfg}{d e:Nat} (Y:aY C d e) (k:Kp) (w:Wd) (s:Shared) (vx:Value) (nm:Str) (vs:List Val) (h2:MH) (r:Val×MH):Prop:=
 ∀ (pl:Sem Bool) (Q:Value×List Value->Shared->Prop) (E:Value->Shared->Prop),(∀id,zhg Y k w vx vs h2 r id->Q (.builtin id,[vx]) s) ->wpAny C.M Y.A (getMethod vx nm pl) Q E s
section
variable {C:Cfg}{d e:Nat}{Y:aY C d e}{k:Kp}{w:Wd}{H:MH}{s:Shared}
theorem zhg.of {vx:Value}{vs:List Val}{h2:MH}{r:Val×MH}{id:String}{o:Option (Val×MH)} (e:o=some r) (h: ∀w2 s2 ws,w.le w2->St Y k w2 h2 s2->aD C w2 vs ws->Ref Y k (VR C) (call (.builtin id) (vx::ws)) w2 s2 o):zhg Y k w vx vs h2 r id:=
 λw2 s2 ws l S2 rr=>h w2 s2 ws l S2 rr r e
theorem x6 {nm:Str} (hn:aI nm=true) {x:List Nat}{u:Tok} (ok:sOk x) {vs:List Val}{h2:MH}{r:Val×MH}:zbD x (enc nm) vs h2=some r->zjM Y k w s (.str ⟨x.toArray⟩ u) nm vs h2 r:=by
 refine cZ λh e=>?_;cases qY hn zaq h;refine λpl Q E q => GM.isspace (q "str.isspace" (.of e λw2 s2 ws l S2 rr => .a0 (T:=λl => call (.builtin "str.isspace") (_ :: l)) rr (.val S2 λQ E q => SC.isspace (q _ s2.toks rfl))))
theorem zf7 {mvs:List Val}: ∀ {ws:List Value}{v:Val},aD C w mvs ws->mvs.getLast?=some v-> ∃p y,kl_last ws=some (p,y)/\aD C w mvs.dropLast p/\aF C w v y:=by
 intro ws v r e;have hne:mvs≠ []:=λq=>by rw [q] at e;cases e
 have hl:kl_last ws≠none:=λq=>by
  rw [kl_last_none q] at r;cases mvs with
  |nil=>exact hne rfl
  |cons _ _=>obtain ⟨_,_,e,_,_⟩:=r;cases e
 obtain ⟨⟨p,y⟩,hpy⟩:=Option.ne_none_iff_exists'.mp hl;refine ⟨p,y,hpy,?_⟩;have hm:mvs.dropLast++ [v]=mvs:=by
  have h1:=KH hne;rwa [show mvs.getLast hne=v from Qx.inj ((List.getLast?_eq_getLast hne).symm.trans e)] at h1
 rw [<-hm,kl_last_spec hpy] at r
 clear hm hpy hl e hne
 generalize mvs.dropLast=q at r ⊢
 induction q generalizing p with
 |nil=>
  cases p with
  |nil=>obtain ⟨_,_,e,h,_⟩:=r;cases e;exact ⟨.nil,h⟩
  |cons a p=>have:=r.length;simp at this
 |cons b q ih=>
  cases p with
  |nil=>have:=r.length;simp at this
  |cons a p=>
   obtain ⟨_,_,e,h,r⟩:=r;cases e;obtain ⟨h1,h2⟩:=ih p r;exact ⟨.cons h h1,h2⟩
inductive zkG {C:Cfg}{d e:Nat} (Y:aY C d e) (k:Kp) (w:Wd) (H:MH) (s:Shared) (i:Nat) (la:Addr) (mvs:List Val):Prop
 |mk (ws:List Value) (n:Nat) (pre post:Led) (r:aD C w mvs ws) (l:mvs.length<=lim) (hn:News Y.h₀ Y.L s.heap (pre++(la,listOf ws.toArray n)::post))
   (u: ∀ws' n',Upd la (listOf ws.toArray n) (listOf ws' n') (pre++(la,listOf ws.toArray n)::post) (pre++(la,listOf ws' n')::post))
   (g: ∀mvs' ws' n' h',aD C w mvs' ws'->mvs'.length<=lim->Fr Y.h₀ Y.L h' k.m->News Y.h₀ Y.L h' (pre++(la,listOf ws'.toArray n')::post) ->Sta C Y.h₀ Y.L k w (H.set i (.list mvs')) h'):zkG Y k w H s i la mvs
theorem Sta.lstAt (S:St Y k w H s) {i:Nat}{la:Addr}{mvs:List Val} (ha:w.σ[i]?=some la) (hm:H[i]?.bind MObj.list?=some mvs):zkG Y k w H s i la mvs:=by
 obtain ⟨o,hi,h2⟩:=bs hm;cases list?_s h2;obtain ⟨pre,en,post,⟨ws,n,rfl,r,l⟩,hn,hd,g⟩:=S.at ha hi;exact ⟨ws,n,pre,post,r,l,hn,λws' n'=>mJ hd,λmvs' ws' n' h' r' l' F N=>g (.list mvs') [(la,listOf ws'.toArray n')] h' rfl ⟨ws',n',rfl,r',l'⟩ F N⟩
theorem qK {i : Nat} {la : Addr} {mvs : List Val} {y : Val} {yv : Value} (S : St Y k w H s) (ha : w.σ[i]? = some la) (hm : H[i]?.bind MObj.list? = some mvs) (hy : aF C w y yv) (hlen : mvs.length < lim) : Ref Y k (VR C) (call (.builtin "list.append") [.ref la,yv]) w s (some (.none,H.set i (.list (mvs ++ [y])))) := by
 obtain ⟨ws,n,pre,post,r,l,hn,u,g⟩:=S.lstAt ha hm;intro r' e';cases e';refine λQ E hq=>append_K S.fr hn (u (ws.toArray.push yv) (n+1)) (λh' F' N'=>hq w _ {s with heap:=h'} ⟨.refl w,g (mvs++ [y]) (ws++ [yv]) (n+1) h' (aD.append (.one hy) r) (by rw [Qv];exact hlen) F' (by rw [List.push_toArray] at N';exact N'),rfl,rfl⟩ rfl) ?_;rw [Je,<-r.length];exact Qa l c5
theorem zeA {mvs:List Val}{ss:List (List Nat)}: ∀ {ws:List Value},aD C w mvs ws->mvs.mapM Val.str?=some ss->ws.length=ss.length/\∀ (j:Nat) (v:Value) (t:List Nat),ws[j]?=some v->ss[j]?=some t-> ∃u,v= .str ⟨t.toArray⟩ u:=by
 induction mvs generalizing ss with
 |nil=>intro ws r e;cases e;cases r;exact ⟨rfl,λj v t h=>nomatch h⟩
 |cons m mvs ih=>
  intro ws r e;rw [ZW] at e;obtain ⟨x,e1,e⟩:=bs e;refine (bs e).elim λxs zq28=>?_;have e:=zq28.2;cases e;obtain ⟨v,vs,rfl,h,r⟩:=r;refine (h.str? e1).elim λu zq27=>?_;obtain rfl:=zq27.1;have zq26:=ih r zq28.1;refine ⟨congrArg (· +1) zq26.1,λj v t a b=>?_⟩;cases j with
  |zero=>cases a;cases b;exact ⟨u,rfl⟩
  |succ j=>exact zq26.2 j v t a b
theorem zcO {i : Nat} {la : Addr} {mvs : List Val} {y : Val} {yv : Value} {t : List Nat} {ss : List (List Nat)} (S : St Y k w H s) (ha : w.σ[i]? = some la) (hm : H[i]?.bind MObj.list? = some mvs) (hy : aF C w y yv) (ht : y.str? = some t) (hs : mvs.mapM Val.str? = some ss) (hc : ss.contains t = true) : Ref Y k (VR C) (call (.builtin "list.index") [.ref la,yv]) w s (some (.int (ss.idxOf t : Nat),H)) := by
 refine (hy.str? ht).elim λu zq25=>?_;obtain rfl:=zq25.1;obtain ⟨la',ws,n,e0,ho,rr,hlim⟩:=S.list (x:=.ref i) ⟨la,rfl,ha⟩ hm;cases e0;obtain ⟨h1,h2⟩:=zeA rr hs;have hj:ss.idxOf t<ss.length:=Js.mpr (Zp.mp hc);have hl:ws.length<=lim:=rr.length▸hlim;have at': ∀ (j:Nat) (h:j<ws.length),∃t' u',ss[j]?=some t'/\ws[j]= .str ⟨t'.toArray⟩ u':=λj h=>by
  refine (h2 j ws[j] _ (Qc h) (Qc (l:=ss) (i:=j) (h1▸h))).elim λu' zq22=>?_;exact ⟨_,u',(Qc (l:=ss) (i:=j) (h1▸h)),zq22⟩
 refine .val S λQ E q=>call_meets PySem.F.slot_list_index ⟨_,ho,rfl⟩ PySem.F.entry_list_index (PySem.F.args_list_index_2 _ _) (MeetsSeq.list_index la ws.toArray n (.str ⟨t.toArray⟩ u) (isStrOf ⟨t.toArray⟩) (λy hy=>?_) (ss.idxOf t) (by rw [Je,h1];exact hj) ?_ ?_ (λm hm' hlt=>?_)) ⟨ho,q _ _ ⟨_,rfl⟩⟩
 ·obtain ⟨j,hj',rfl⟩:=Zf.mp (List.mem_toArray.mp hy)
  refine (at' j hj').elim λt' zq18=>zq18.elim λu' zq19=>?_;rw [zq19.2];exact eqGives_str _ _ _ _
 ·exact Jw.mpr (Qi hj (h1▸Qa hl (by decide)))
 ·refine (at' (ss.idxOf t) (h1▸hj)).elim λt' zq16=>zq16.elim λu' zq17=>?_
  have e1:=zq17.1;rw [Qc hj,KY hj] at e1;cases e1;show isStrOf _ ws[ss.idxOf t]=true;rw [zq17.2];exact beq_self_eq_true _
 ·have hm2:m<ws.length:=by rw [Je] at hm';exact hm'
  refine (at' m hm2).elim λt' zq14=>zq14.elim λu' zq15=>?_;show isStrOf _ ws[m]=false;rw [zq15.2];refine beq_false_of_ne λq=>?_;have q:t'.toArray=t.toArray:=congrArg Str.cps q;have q:t'=t:=by have:=congrArg Array.toList q;rwa [List.toList_toArray,List.toList_toArray] at this
  obtain ⟨l1,e2⟩:=Qg.mp zq15.1;have hn:=List.not_of_lt_findIdx (p:=(· ==t)) (xs:=ss) (show m<ss.findIdx (· ==t) from hlt);rw [e2,q] at hn;exact absurd (beq_self_eq_true t) (by simp at hn)
theorem vM {nm:Str} (hn:aI nm=true) (S:St Y k w H s) {i:Nat}{la:Addr} (ha:w.σ[i]?=some la) {mvs0 mvs:List Val}{vs:List Val}{h2:MH}{r:Val×MH} (hm0:H[i]?.bind MObj.list?=some mvs0) (hm:h2[i]?.bind MObj.list?=some mvs):mX i mvs (enc nm) vs h2=some r->zjM Y k w s (.ref la) nm vs h2 r:=by
 have zq12:=S.list (x:=.ref i) ⟨la,rfl,ha⟩ hm0;obtain ⟨_,ws0,n0,e0,ho,_,_⟩:=zq12;cases e0;refine cA (cZ λh e=>?_) (cA (cZ λh e=>?_) (cZ λh e=>?_))
 ·cases qY hn zcZ h
  exact λpl Q E q => getMethod_list_append ho rfl rfl (q "list.append" (.of e λw2 s2 ws l S2 rr => .a1 (T:=λl => call (.builtin "list.append") (_ :: l)) rr λy vy hy => .grd λhl => qK S2 (l.get ha) hm hy (QW.mp hl)))
 ·cases qY hn zlK h
  refine λpl Q E q => getMethod_builtin ⟨_,ho,rfl⟩ PySem.F.plainAttrs_list PySem.F.slot_list_pop PySem.F.type_list_pop (λa e => by cases e; exact ⟨_,ho,rfl⟩) (q "list.pop" (.of e λw2 s2 ws l S2 rr => .a0 (T:=λl => call (.builtin "list.pop") (_ :: l)) rr (.omap λv hv => ?_)));obtain ⟨ws,n,pre,post,r,l',hn,u,g⟩:=S2.lstAt (l.get ha) hm;refine (zf7 r hv).elim λp zq9=>zq9.elim λy zq10=>?_;intro r' e';cases e';exact λQ E hq=>kl_pop S2.fr hn zq10.1 (u p.toArray (n+1)) (by rw [List.toList_toArray,<-r.length];exact Qa l' c5) λh' F' N'=>hq w2 y {s2 with heap:=h'} ⟨.refl w2,g mvs.dropLast p (n+1) h' zq10.2.1 (Qa (by rw [List.length_dropLast];exact Kb _ _) l') F' N',rfl,rfl⟩ zq10.2.2
 ·cases qY hn zfk h
  exact λpl Q E q => getMethod_builtin ⟨_,ho,rfl⟩ PySem.F.plainAttrs_list PySem.F.slot_list_index PySem.F.type_list_index (λa e => by cases e; exact ⟨_,ho,rfl⟩) (q "list.index" (.of e λw2 s2 ws l S2 rr => .a1 (T:=λl => call (.builtin "list.index") (_ :: l)) rr λy vy hy => .opt λt ht => .opt λss hss => .grd λhc => zcO S2 (l.get ha) hm hy ht hss hc))
theorem vP {nm:Str} (hn:aI nm=true) (S:St Y k w H s) {i:Nat}{la:Addr} (ha:w.σ[i]?=some la) {p0 p:Option Nat×List (Val×Val)}{vs:List Val}{h2:MH}{r:Val×MH} (hm0:H[i]?.bind MObj.dict?=some p0) (hm:h2[i]?.bind MObj.dict?=some p):nB p.2 (enc nm) vs h2=some r->zjM Y k w s (.ref la) nm vs h2 r:=by
 obtain ⟨_,n0,es0,e0,_,_,hg,_,_,_⟩:=S.dictI ⟨la,rfl,ha⟩ hm0;cases e0;refine cZ λh e=>?_;cases qY hn zlL h;refine λpl Q E q => getMethod_builtin ⟨_,hg,rfl⟩ PySem.F.plainAttrs_dict Zs PySem.F.type_dict_get (λa e => by cases e; exact ⟨_,hg,rfl⟩) (q "dict.get" (.of e λw2 s2 ws l S2 rr => ?_));have key : ∀ {x dv : Val} {kv dvv : Value} {args : List Value},aF C w2 x kv -> aF C w2 dv dvv -> aN p.2 x = true -> ((args = [.ref la,kv] /\ dvv = .none) \/ args = [.ref la,kv,dvv]) -> Ref Y k (VR C) (call (.builtin "dict.get") args) w2 s2 (some ((a9 p.2 x).getD dv,h2)) := by
  intro x dv kv dvv args hk hdv hf hargs;refine .val S2 λQ E q=>?_;obtain ⟨_,n2,es,e2,hmod,_,hg2,hdr,_,_⟩:=S2.dictI ⟨la,rfl,l.get ha⟩ hm;cases e2;have fin: ∀ {o:Option Value},zdY C w2 (a9 p.2 x) o-> ∀tk,Q (o.getD dvv) {s2 with toks:=tk}:=λh tk=>by
   rcases h with ⟨q1,rfl⟩| ⟨mv,rv,q1,rfl,q3⟩
   ·rw [q1] at q;exact q _ tk hdv
   ·rw [q1] at q;exact q _ tk q3
  rcases kG (Qb.mp hf).1 with ⟨ka,rfl⟩| ⟨ka,rfl⟩
  ·obtain ⟨kvs,D⟩:=hdr.atom hf
   have hD:=D.dictOf hg2;rcases hargs with ⟨rfl,rfl⟩|rfl
   ·exact call_meetsIn Zs hD.typeIs ZI (Yj _ _) (meets_dict_get _ la hk.atom.1 hmod) ⟨_,hD.mapOf,fin (D.get ka) _⟩
   ·exact call_meetsIn Zs hD.typeIs ZI (Yk _ _ _) (meets_dict_get_default _ la hk.atom.1 hmod dvv) ⟨_,hD.mapOf,fin (D.get ka) _⟩
  ·obtain ⟨xs,D⟩:=hdr.tups hf
   have hD:=D.dictOf S2 hg2;obtain ⟨t,rfl,ht⟩:=S2.tupKey hk;rcases hargs with ⟨rfl,rfl⟩|rfl
   ·exact call_meetsIn Zs hD.typeIs ZI (Yj _ _) (meetsH_dict_get _ la t hmod) ⟨Y.room,ka,xs,ht,hD,fin (D.get ka) _⟩
   ·exact call_meetsIn Zs hD.typeIs ZI (Yk _ _ _) (meetsH_dict_get_default _ la t hmod dvv) ⟨Y.room,ka,xs,ht,hD,fin (D.get ka) _⟩
 exact .alt (.a1 (T:=λl => call (.builtin "dict.get") (_ :: l)) rr λx kv hk => .grd λhf => key hk rfl hf (.inl ⟨rfl,rfl⟩)) (.a2 (T:=λl => call (.builtin "dict.get") (_ :: l)) rr λx kv hk dv dvv hd => .grd λhf => key hk hd hf (.inr rfl))
theorem zeS {nm:Str} (hn:aI nm=true) (S:St Y k w H s) {x:Val}{vx:Value} (hx:aF C w x vx) {vs:List Val}{h2:MH}{r:Val×MH}:oX x (enc nm) vs H h2=some r->zjM Y k w s vx nm vs h2 r:=by
 refine cA (aX λl e1 e=>?_) (aX λi e1=>cA (aX λm0 e2=>aX λm e3 e=>?_) (aX λm0 e2=>aX λm e3 e=>?_))
 ·obtain ⟨u,rfl,ok⟩:=hx.str? e1
  exact x6 hn ok e
 ·cases ref?_s e1
  obtain ⟨la,rfl,ha⟩:=hx;exact vM hn S ha e2 e3 e
 ·cases ref?_s e1
  obtain ⟨la,rfl,ha⟩:=hx;exact vP hn S ha e2 e3 e
end
end Internal
namespace Internal
open PySem PySem.W PySem.Calls PyProof.Rows
inductive sV (C:Cfg) (id c:Nat):Prop
 |mk (a ca dx:Addr) (n:Nat) (k1:C.ad.lookup id=some a) (k2:C.ad.lookup c=some ca) (k3:C.K.lookup a=some ⟨.ref ca,some dx,.plain,#[]⟩) (k4:C.K.lookup dx=some (dictOf [] n)):sV C id c
inductive g8 (C:Cfg) (c n:Nat) (P:Addr->Str->Prop):Prop
 |mk (ca:Addr) (name:Str) (k1:C.ad.lookup c=some ca) (k2:aI name=true) (k3:enc name=n) (k4:plainGet C.K ca name=true) (k5:hasDictIn C.K ca=true) (p:P ca name):g8 C c n P
inductive zhl (C:Cfg) (v:Val) (ca:Addr) (name:Str):Prop
 |mk (av:Value) (k6:findIn C.K (.ref ca) name=some (some av)) (k7: ∀w,aF C w v av)
  (k8 : u1 C.P v = true -> isFn C.K av = true /\ specialIn C.K (.ref ca) "__getattribute__" = some (some (.builtin "type.__getattribute__")) /\ ∃ mc,typeIn C.K (.ref ca) = some mc /\ readsIn C.K ca mc = true /\ findCls C.K (.ref ca) mc name = some (.val av)) (k9 : u1 C.P v = false -> specialIn C.K av "__get__" = some none /\ handedIn av = true /\ copiedNames.contains name = false) : zhl C v ca name
inductive znx (C:Cfg) (ca:Addr) (name:Str):Prop
 |mk (attr:Option Value) (k6:findIn C.K (.ref ca) name=some attr) (k7:noGet C.K attr=true)
  (k8 : takerIn C.K ca name = some none) (k9 : findIn C.K (.ref ca) "__setattr__" = some (some (.builtin "object.__setattr__"))) (k10 : plainOver C.K ca = true) : znx C ca name
inductive sW (C:Cfg) (c i:Nat):Prop
 | mk (ca fI : Addr) (k1 : C.ad.lookup c = some ca) (k2 : C.ad.lookup i = some fI) (k3 : makesIn C.K ca = true) (k4 : findIn C.K (.ref ca) "__init__" = some (some (.ref fI))) (k5 : isFn C.K (.ref fI) = true) (k6 : keepIn C.K (.ref ca) = true) : sW C c i
def nM (C:Cfg) (f:Fn) (fd:FuncData) (xs:List Str):Prop:=
 (f.dfl= []/\∀vs:List Value,vs.length=f.np->bindArgs fd ⟨vs,[]⟩=pure (xs.zip vs))\/
 (f.dfl≠ []/\∃dvs,(∀w,aD C w f.dfl dvs)/\∀ (S:Setting) (vs:List Value),vs.length<=f.np->f.np-vs.length<=dvs.length->peek C.K S (bindArgs fd ⟨vs,[]⟩)=some (xs.zip (vs++dvs.drop (dvs.length-(f.np-vs.length)))))
inductive xK (C:Cfg) (gl:List (Str×Val)) (f:Fn):Prop
 |mk (a:Addr) (name qual:Str) (params:Arguments) (body:List Stmt) (scope:Scope) (dV kV doc pm:Value) (an:Option Addr) (cdv ct oc:Value) (od:Option Addr) (osl:Array (Option Value)) (k1:C.ad.lookup f.addr=some a) (k2:C.K.lookup a=some ⟨oc,od,.func (fnOf name qual params body scope dV kV doc pm an cdv ct),osl⟩)
  (k3:codeIn C.K cdv qual=true) (k4:rY gl params body scope=some (f.np,f.ns,f.body)) (k6:keepIn C.K (.ref a)=true)
  (k7:nM C f (fnOf name qual params body scope dV kV doc pm an cdv ct) (params.args.map (·.arg)))
  (k8:(params.args.map (·.arg)).Nodup) (k10:((cellsFrom 0 scope.names []).map (·.1)).Nodup):xK C gl f
def zck (C : Cfg) : Prop := ∀ {d e : Nat} {Y : aY C d e} {k : Kp} {w : Wd} {H : MH} {s : Shared} {as : List Val} {vs : List Value},nL C -> St Y k w H s -> aD C w as vs -> Ref Y k (VR C) (call (.builtin "sorted") vs) w s (r7 as H)
structure dN (C:Cfg) (gl:List (Str×Val)):Prop where
 glob:zhi C gl
 fns: ∀a f,C.P.fnAt a=some f->f.addr=a/\xK C gl f
 insts: ∀id c,C.P.instAt id=some c->sV C id c
 attrs: ∀c n v,C.P.clsAttr c n=some v->g8 C c n (zhl C v)
 flds: ∀c n,C.P.hasFld c n=true->g8 C c n (znx C)
 inits: ∀c k i,C.P.clsAt c=some k->k.init=some i->sW C c i
 cfg:nL C
 srt:zck C
section
variable {C:Cfg}{d e:Nat}{Y:aY C d e}{k:Kp}{w:Wd}{H:MH}{s:Shared}{cx:CC}{env:Env}{mE:Str->Option Value}{fr:Frame}{gl:List (Str×Val)}
theorem g8.use {c n:Nat}{P:Addr->Str->Prop} (h:g8 C c n P) {nm:Str}{ca:Addr} (hn:aI nm=true) (e:n=enc nm) (hc:C.ad.lookup c=some ca):plainGet C.K ca nm=true/\hasDictIn C.K ca=true/\P ca nm:=by
 obtain ⟨ca',name,k1,k2,k3,k4,k5,p⟩:=h;cases Qx.inj (k1.symm.trans hc);cases wR k2 hn (k3.trans e);exact ⟨k4,k5,p⟩
theorem zdM: ∀p∈nG,handedIn (.builtin p.2)=true:=by decide+kernel
theorem zdr {v:Val}{rv:Value} (h:aF C w v rv):handedIn rv=true:=by
 cases v with
 |none=>cases h;rfl
 |bool b=>cases h;rfl
 |int i=>obtain ⟨t,rfl⟩:=h;rfl
 |str i=>obtain ⟨t,rfl,_⟩:=h;rfl
 |tup i=>obtain ⟨_,_,_,_,rfl,_,_,_⟩:=h;rfl
 |ref i=>obtain ⟨_,rfl,_⟩:=h;rfl
 |top i=>obtain ⟨_,rfl,_⟩:=h;rfl
 |ty i=>obtain ⟨_,rfl,_⟩:=h;rfl
 |bi i=>obtain ⟨n,rfl,hb⟩:=h;exact zdM _ (bO hb)
 |rng i=>obtain ⟨_,_,_,_,rfl,_⟩:=h;rfl
 |fl i=>obtain ⟨_,_,_,_,rfl,_,_,_⟩:=h;rfl
 |setn i=>obtain ⟨_,_,_,_,_,rfl,_⟩:=h;rfl
theorem u0 {x nm:Str}{t:Tok} (hx:aI x=true) (hn:aI nm=true):(Zl x t).isStr nm=(enc x==enc nm):=by
 show (x==nm)=_;rw [Zw,beq_iff_eq,beq_iff_eq];exact ⟨λe=>e▸rfl,wR hx hn⟩
inductive znz (C:Cfg) (w:Wd) (m:Option Val) (o:Option (Option Value)):Prop
 |none (h1:m= .none) (h2:o=some .none):znz C w m o
 |some (v:Val) (rv:Value) (h1:m=some v) (h2:o=some (some rv)) (r:aF C w v rv):znz C w m o
theorem j8.get {nm:Str} (hn:aI nm=true): ∀ {fs:List (Nat×Val)}{es:List DictEntry},j8 C w fs es->es.any (·.refKey)=false/\((l8 fs (enc nm)=none/\es.find? (·.key.isStr nm)=none)\/∃v e,l8 fs (enc nm)=some v/\es.find? (·.key.isStr nm)=some e/\aF C w v e.val):=by
 intro fs
 induction fs with
 |nil=>intro es h;rw [show es= [] from h];exact ⟨rfl,.inl ⟨rfl,rfl⟩⟩
 |cons p fs ih=>
  intro es h;obtain ⟨x,t,hsh,v,r,rfl,h1,h2,h3,h4⟩:=h;obtain ⟨i1,i2⟩:=ih h4;refine ⟨i1,?_⟩;unfold l8 at i2 ⊢;rw [Ka,Ka]
  dsimp only
  rw [u0 h1 hn,h2];cases hq:(p.1==enc nm) with
  |true=>exact .inr ⟨_,_,rfl,rfl,h3⟩
  |false=>exact i2
theorem j8.getL {nm:Str} (hn:aI nm=true) {fs:List (Nat×Val)}{es:List DictEntry} (r:j8 C w fs es):znz C w (l8 fs (enc nm)) (getL nm es):=by
 obtain ⟨hr,h⟩:=r.get hn;unfold W.getL;rcases h with ⟨h1,h2⟩| ⟨v,e,h1,h2,h3⟩
 ·rw [h2]
  exact .none h1 (by dsimp only;rw [hr];rfl)
 ·rw [h2]
  exact .some v e.val h1 rfl h3
theorem j8.put {nm:Str} (hn:aI nm=true) {hsh:Int}{t:Tok}{v:Val}{rv:Value} (hv:aF C w v rv): ∀ {fs:List (Nat×Val)}{es:List DictEntry},j8 C w fs es->j8 C w (rG fs (enc nm) v) (putL nm hsh (.str nm t) rv es):=by
 intro fs
 induction fs with
 |nil=>intro es h;rw [show es= [] from h];exact ⟨nm,t,hsh,rv,[],rfl,hn,rfl,hv,rfl⟩
 |cons p fs ih=>
  intro es h;obtain ⟨x,t',hsh',v',r,rfl,h1,h2,h3,h4⟩:=h;show j8 C w (bif p.1==enc nm then _ else _) _;unfold putL;rw [u0 h1 hn,h2];cases hq:(p.1==enc nm) with
  |true=>
   rw [if_pos rfl];exact ⟨x,t',hsh',rv,r,rfl,h1,h2.trans (beq_iff_eq.mp hq),hv,h4⟩
  |false=>
   rw [if_neg Zn];exact ⟨x,t',hsh',v',_,rfl,h1,h2,h3,(ih h4)⟩
theorem j8.length: ∀ {fs:List (Nat×Val)}{es:List DictEntry},j8 C w fs es->es.length=fs.length:=by
 intro fs
 induction fs with
 |nil=>intro es h;rw [show es= [] from h];rfl
 |cons p fs ih=>intro es h;obtain ⟨_,_,_,_,r,rfl,_,_,_,h4⟩:=h;exact congrArg (· +1) (ih h4)
theorem zgq (fs:List (Nat×Val)) (n:Nat) (v:Val):(rG fs n v).length<=fs.length+1:=by
 induction fs with
 |nil=>exact Qj _
 |cons p fs ih=>
  show (bif p.1==n then _ else _:List (Nat×Val)).length<=_;cases (p.1==n) with
  |true=>exact Ju _
  |false=>exact Jq ih
inductive zkH {C:Cfg}{d e:Nat} (Y:aY C d e) (k:Kp) (w:Wd) (H:MH) (s:Shared) (i:Nat) (v:Value) (q:Nat×List (Nat×Val)):Prop
 |mk (a ca dx:Addr) (es:List DictEntry) (n:Nat) (pre post:Led) (e:v= .ref a) (hc:C.ad.lookup q.1=some ca) (f:j8 C w q.2 es) (l:q.2.length<=500) (hn:News Y.h₀ Y.L s.heap ((pre++ [(a,instObj ca dx)])++(dx,dictOf es n)::post)) (I:InstAt s.heap a (instObj ca dx) ca (some (dictOf es n)))
   (u: ∀o',Upd dx (dictOf es n) o' ((pre++ [(a,instObj ca dx)])++(dx,dictOf es n)::post) ((pre++ [(a,instObj ca dx)])++(dx,o')::post))
   (g: ∀fs' es' n' h',j8 C w fs' es'->fs'.length<=500->Fr Y.h₀ Y.L h' k.m->News Y.h₀ Y.L h' ((pre++ [(a,instObj ca dx)])++(dx,dictOf es' n')::post) ->Sta C Y.h₀ Y.L k w (H.set i (.inst q.1 fs')) h'):zkH Y k w H s i v q
theorem Sta.insAt (S:St Y k w H s) {i:Nat}{v:Value}{q:Nat×List (Nat×Val)} (hv:aF C w (.ref i) v) (ho:H[i]?.bind MObj.inst?=some q):zkH Y k w H s i v q:=by
 obtain ⟨o,hi,h2⟩:=bs ho;cases inst?_s h2;obtain ⟨a,e,ha⟩:=hv;obtain ⟨pre,en,post,⟨c,dx,es,n,rfl,hc,f,l⟩,hn,hd,g⟩:=S.at ha hi;have eq: ∀o',pre++([(a,instObj c dx),(dx,o')]++post)=(pre++ [(a,instObj c dx)])++(dx,o')::post:=λo'=>by rw [Qm];rfl
 rw [eq] at hn hd;exact ⟨a,c,dx,es,n,pre,post,e,hc,f,l,hn,InstAt.of_news hn (Jr _ (QG _ (.head _))) (QG _ (.head _)),λo'=>mJ hd,λfs' es' n' h' r l' F N=>g (.inst q.1 fs') [(a,instObj c dx),(dx,dictOf es' n')] h' rfl ⟨c,dx,es',n',rfl,hc,r,l'⟩ F (by rw [eq];exact N)⟩
theorem yC (O:dN C gl) (S:St Y k w H s) {x:Val}{vx:Value}{nm:Str} (hnm:aI nm=true) (hx:aF C w x vx):Ref Y k (VR C) (PySem.getAttr vx nm true) w s ((getAttr C.P H x (enc nm)).map λv=>(v,H)):=by
 refine .omap λv e=> .val S λQ E q=>?_;have att: ∀ {a ca dx:Addr}{c n:Nat}{es:List DictEntry},InstAt s.heap a (instObj ca dx) ca (some (dictOf es n)) ->C.ad.lookup c=some ca->getL nm es=some none->lM C.P c (enc nm)=some v->wpAny C.M Y.A (PySem.getAttr (.ref a) nm true) Q E s:=λI hc q2 e=>by
  obtain ⟨u,hu,e⟩:=bs e;obtain ⟨hf,e⟩:=gs e;cases e;obtain ⟨t4,t5,av,t6,t7,_,t9⟩:=(O.attrs _ _ _ hu).use hnm rfl hc;have zq35:=t9 (by cases hq:u1 C.P v;rfl;rw [hq] at hf;cases hf);exact get_cls S.fr Y.k I t4 t5 t6 zq35.1 zq35.2.1 zq35.2.2 q2 (q av _ (t7 w))
 revert e
 refine cA (aX λp hp e=>?_) (aX λa e1=>aX λc hc e=>?_)
 ·obtain ⟨i,e1,hp⟩:=bs hp
  cases ref?_s e1;obtain ⟨a,ca,dx,es,n,pre,post,rfl,hc,hF,hl,hN,I,_,_⟩:=S.insAt hx hp;cases hF.getL hnm with
  |none h1 h2=>rw [h1] at e;exact att I hc h2 e
  |some u rv h1 h2 r=>
   rw [h1] at e;obtain ⟨hfl,e⟩:=gs e;cases e;obtain ⟨t4,t5,attr,t6,t7,_,_,_⟩:=(O.flds _ _ hfl).use hnm rfl hc;exact get_own S.fr Y.k I t4 t5 t6 t7 h2 (zdr r) (q rv _ r)
 ·cases top?_s e1
  obtain ⟨xa,rfl,hx⟩:=hx;obtain ⟨xa',ca,dx,n,i1,i2,i3,i4⟩:=O.insts _ _ hc;cases Qx.inj (i1.symm.trans hx);exact att (InstAt.of_K S.kIn i3 i4) i2 rfl e
theorem yB (O:dN C gl) (S:St Y k w H s) {x:Val}{vx:Value}{nm:Str}{r:Nat×List Val}{pl:Sem Bool} (hnm:aI nm=true) (hx:aF C w x vx) {Q:Value×List Value->Shared->Prop}{E:Value->Shared->Prop}
  (h: ∀fa first tk,C.ad.lookup r.1=some fa->aD C w r.2 first->Q (.ref fa,first) {s with toks:=tk}):dK C.P H x (enc nm)=some r->wpAny C.M Y.A (PySem.getMethod vx nm pl) Q E s:=by
 have met: ∀ {a ca dx:Addr}{c n f:Nat}{es:List DictEntry},vx= .ref a->InstAt s.heap a (instObj ca dx) ca (some (dictOf es n)) ->C.ad.lookup c=some ca->getL nm es=some none->oT C.P c (enc nm)=some f->(f,[x])=r->wpAny C.M Y.A (PySem.getMethod vx nm pl) Q E s:=λea I hc q2 e er=>by
  obtain ⟨u,hu,e⟩:=bs e;obtain ⟨hf,e⟩:=gs e;cases top?_s e;have zq26:=(O.attrs _ _ _ hu).use hnm rfl hc;obtain ⟨av,t6,t7,t8,_⟩:=zq26.2.2;obtain ⟨ga,rfl,hg⟩:=t7 w;subst er ea;exact method_inst S.fr Y.k I zq26.1 t6 (t8 hf).1 q2 (h _ _ s.toks hg (.one hx))
 refine cA (aX λa e1 e=>?_) (aX λq hq=>cZ λhnone=>bU λf hf e=>?_)
 ·cases top?_s e1
  obtain ⟨xa,e2,hxa⟩:=id hx;cases hi:C.P.instAt a with
  |some c=>
   rw [hi] at e;obtain ⟨f,hf,e⟩:=ms e;obtain ⟨xa',ca,dx,n,i1,i2,i3,i4⟩:=O.insts _ _ hi;cases Qx.inj (i1.symm.trans hxa);exact met e2 (InstAt.of_K S.kIn i3 i4) i2 rfl hf e
  |none=>
   rw [hi] at e;obtain ⟨f,hf,e⟩:=ms e;refine (bs hf).elim λu zq20=>?_;have hf:=zq20.2;obtain ⟨hfn,hf⟩:=gs hf;cases top?_s hf;obtain ⟨av,t6,t7,t8,_⟩:=((O.attrs _ _ _ zq20.1).use hnm rfl hxa).2.2;obtain ⟨ga,rfl,hg⟩:=t7 w;refine (t8 hfn).2.2.elim λmc zq16=>?_;subst e e2;exact method_of_cls S.fr Y.k (t8 hfn).2.1 (cls_val S.fr Y.k zq16.1 zq16.2.1 zq16.2.2 rfl (h _ _ _ hg .nil))
 ·obtain ⟨i,e1,hq⟩:=bs hq
  cases ref?_s e1;obtain ⟨a,ca,dx,es,n,pre,post,ea,hc,hF,hl,hN,I,_,_⟩:=S.insAt hx hq;cases hF.getL hnm with
  |none h1 h2=>exact met ea I hc h2 hf e
  |some u rv h1 h2 r'=>rw [h1] at hnone;cases hnone
theorem oQ (O:dN C gl) (S:St Y k w H s) {x v:Val}{vx vv:Value}{nm:Str}{H':MH} (hnm:aI nm=true) (hx:aF C w x vx) (hv:aF C w v vv) {Q:Unit->Shared->Prop}{E:Value->Shared->Prop}
  (h: ∀s',Nxt Y k w w H' s s'->Q () s'):setAttr C.P H x (enc nm) v=some H'->wpAny C.M Y.A (PySem.setAttr vx nm vv) Q E s:=by
 refine aX λi e1=>aX λq hq=>cZ λhfl e=>?_;cases ref?_s e1;cases e;have zq12:=S.insAt hx hq;obtain ⟨a,ca,dx,es,n,pre,post,rfl,hc,hF,hl,hN,I,U,g⟩:=zq12;have zq11:=(O.flds _ _ (Qb.mp hfl).1).use hnm rfl hc;obtain ⟨attr,t6,t7,t8,t9,t10⟩:=zq11.2.2;have hp:=hF.put (hsh:=Xy C.w.params nm) (t:=s.toks+1) hnm hv;have hlen:=zgq q.2 (enc nm) v;have hl4:=QW.mp (Qb.mp hfl).2;exact set_dict S.fr Y.k hN I rfl t9 t10 t8 zq11.2.1 (by cases hF.getL hnm with|none _ h2=>rw [h2];rfl|some _ _ _ h2 _=>rw [h2];rfl:(getL nm es).isSome=true) rfl (U _) (by rw [hp.length];exact Qa (Qa hlen hl4) (Qn _ _)) λh' F' N'=>h _ ⟨.refl w,g _ _ _ h' hp (Qa (Qa hlen hl4) (Qn _ _)) F' N',rfl,rfl⟩
theorem sF {o:Expr}{attr:Str}{whole:Sem Value} (h:sG o=true):attributeBase o attr env whole=whole:=by
 cases o with
 |Call f as ks pos=>
  cases as with
  |nil=>cases h
  |cons x r=>cases f<;>rfl
 |_=>rfl
theorem zeT (O:dN C gl) {v:Expr}{nm:Str}{iv:Ex}{pos:Pos} (hv:dA C d cx v iv) (hn:aI nm=true) (hb:sG v=true):dA C d cx (.Attribute v nm pos) (.attr iv (enc nm)):=by
 intro Y env k mE fr w H s p r;refine aG λx H1 e1 e Q E hq=>Attribute_any_ (hv Y env k mE fr w H s p _ e1 _ _ λw1 a1 s1 n1 r1=>yC O n1.st hn r1 r e _ _ λw2 a2 s2 n2 r2=>hq w2 a2 s2 (n1.trans n2) r2) ?_;show (do
   let o<-attributeBase v nm env (PySem.eval v env)
   standAt pos.atName
   let r<-holding [o] (PySem.getAttr o nm true)
   letTemporaryGo v o r
   pure r)=_
 rw [sF hb]
theorem fF {M:Model}{A:Around}{f:Value}{args:List (Bool×Sem Value)}{Q:Args->Shared->Prop}{E:Value->Shared->Prop} (hp:args.any (·.1)=false) (h:wpAny M A (spliced args) (λvs s'=>Q ⟨vs,[]⟩ s') E s):wpAny M A (evalArgs f true args []) Q E s:=by
 cases args with
 |nil=>
  unfold evalArgs;show wpAny M A (spliced [] >>=_) Q E s;exact wpAny_bind (wpAny_mono h (λvs s' h'=>wpAny_holding (wpAny_bind (wpAny_pure (wpAny_bind (wpAny_pure (wpAny_pure h')))))) λ_ _ x=>x)
 |cons p r=>
  obtain ⟨b,x⟩:=p;cases b with
  |false=>exact evalArgs_plain h
  |true=>cases hp
theorem gK {M:Model}{A:Around}{K:Frag}{pos:Pos}{f:Value}{first:List Value}{es:List Expr}{irs:List Ex}{Q:Value->Shared->Prop}{E:Value->Shared->Prop} (hk:keepIn K f=true) (hc:Sds C d cx es irs)
  (h:wpAny M A (spliced (backTo pos (starEach es env))) (λvs s₁=>K.In s₁.heap/\wpAny M A (call f (first++vs)) Q E s₁) E s):wpAny M A (callWith pos f first (backTo pos (starEach es env)) []) Q E s:=
 callWith_of (by rw [cJ hc];rfl) (keeps_K hk) (fF (cJ hc) h)
def fH (C:Cfg) (d:Nat):Prop:=
 ∀ (Y:aY C d 0) (k:Kp) (w:Wd) (H:MH) (s:Shared) (f:Nat) (fa:Addr) (as:List Val) (vs:List Value) (r:Val×MH),St Y k w H s->C.ad.lookup f=some fa->aD C w as vs->c7 C.P m4 d f as H=some r->
  ∀R:Result->Shared->Prop,(∀w' rv s',Nxt Y k w w' r.2 s s'->aF C w' r.1 rv->R (.ok (.ret rv)) s') ->codeAny C.M Y.A (.call (.ref fa) ⟨vs,[]⟩) R s
theorem fH.wp (hC:fH C d) (Y:aY C d e) {f:Nat}{fa:Addr}{as:List Val}{vs:List Value} (S:St Y k w H s) (hf:C.ad.lookup f=some fa) (r:aD C w as vs):Ref Y k (VR C) (call (.ref fa) vs) w s (c7 C.P m4 d f as H):=
 λr' ev Q E hq=>wpAny_call (hC Y.toW k w H s f fa as vs r' S hf r ev _ λw' rv s' n r2=>hq w' rv s' ⟨n.le,n.st,n.same⟩ r2)
theorem zbZ (O:dN C gl) {f:Nat}{fa:Addr}{as:List Val}{H:MH}{r:Val×MH} (hf:C.ad.lookup f=some fa) (e:c7 C.P m4 d f as H=some r):keepIn C.K (.ref fa)=true:=by
 cases d with
 |zero=>exact nos e
 |succ d=>
  obtain ⟨fn,hfn,e⟩:=bs e;obtain ⟨h1,fa',_,_,_,_,_,_,_,_,_,_,_,_,_,_,_,k1,_,_,_,k6,_,_,_⟩:=O.fns _ _ hfn;rw [h1,hf] at k1;cases k1;exact k6
theorem zba {A : Around} {ca : Addr} {vs : List Value} {f : Option (List Env)} (h : A.frames = f) : (A.under (.builtin "type.__call__" ⟨.ref ca :: vs,[]⟩)).frames = f := by
 show pushEnvs (Code.envs (.builtin "type.__call__" ⟨.ref ca :: vs,[]⟩)) A.frames = _;rw [show Code.envs (.builtin "type.__call__" ⟨.ref ca :: vs,[]⟩) = [] by unfold Code.envs; rw [show Code.isFrame (.builtin "type.__call__" ⟨.ref ca :: vs,[]⟩) = false from rfl,if_neg Zn]];exact h
theorem zdJ {a n:Nat} (h:a+n+2+2<=900):a+1+n+2+0<=900:=by rw [JL a 1 n];exact Qa (Ql (by decide:3<=4) (a+n)) h
theorem zdI {a n:Nat} (h:a+n+190+5*2<=9900):a+1+n+190+5*0<=9900:=by rw [JL a 1 n];exact Qa (Ql (by decide:191<=200) (a+n)) h
def aY.underCls (Y:aY C d 2) (ca:Addr) (vs:List Value):aY C d 0 where
 A := Y.A.under (.builtin "type.__call__" ⟨.ref ca :: vs,[]⟩)
 h₀:=Y.h₀
 L:=Y.L
 envF:=Y.envF
 below:=Y.below.elim λA₀ h=>h.elim λbase h=>h.elim λouter h=>⟨A₀,base,outer,h.1,zba h.2⟩
 k:=Y.k
 top:=Y.top
 frame:=Y.frame
 kind:=Y.kind
 handled:=Y.handled
 depth:=zdJ Y.depth
 units:=zdI Y.units
theorem zeM (O:dN C gl) (hC:fH C d) {Y:aY C d 2} (S:St Y k w H s) {c:Nat}{ca:Addr}{cl:Cl}{as:List Val}{vs:List Value} (hk:C.P.clsAt c=some cl) (hca:C.ad.lookup c=some ca) (r:aD C w as vs):Ref Y k (VR C) (call (.ref ca) vs) w s (ziG (C.cx d) c cl as H):=by
 refine .opt λi hi=>λr'=>aG λx H' ev=>cZ λhx e=>?_;cases y8 hx;cases e;intro Q E hq;obtain ⟨ca',fI,t1,t2,t3,t4,t5,t6⟩:=O.inits _ _ _ hk hi;cases Qx.inj (t1.symm.trans hca);obtain ⟨all,hn,add,_,_⟩:=S.ledger;refine call_cls S.fr Y.k hn t3 t4 t5 λx dx h' F' N' l1 l2=>?_;have hx4:4<=x:=K7 λhlt=>by
  obtain ⟨o,ho⟩:=O.cfg.low x (Xm hlt)
  have:=(N' (x,instObj ca dx) (.head _)).2.2
  rw [Y.k _ _ ho] at this;cases this
 have le:w.le ⟨w.σ++ [x],w.tp⟩:=⟨Q9 _ _,λ_ x=>x⟩;have hS:Sta C Y.h₀ Y.L k ⟨w.σ++ [x],w.tp⟩ (H++ [.inst c []]) h':=by
  refine add x (.inst c []) [(x,instObj ca dx),(dx,dictOf [] 0)] h' ⟨ca,dx,[],0,rfl,hca,rfl,Qs _⟩ F' N' ?_ ?_ hx4
  ·exact Qw.mpr ⟨λh=>absurd (Qu.mp h) (JI l2),hO _⟩
  ·intro p hp q hq
   have:=l1 q hq
   rcases QE.mp hp with rfl|hp
   ·exact JI (Q8 this l2)
   ·rw [Qu.mp hp];exact JI this
 have hr:(w.σ++ [x])[H.length]?=some x:=by rw [<-S.len];exact Jk
 exact hC (Y.underCls ca vs) k ⟨w.σ++ [x],w.tp⟩ (H++ [MObj.inst c []]) {s with heap:=h'} i fI (.ref H.length::as) (.ref x::vs) (.none,H') hS t2 (.cons ⟨x,rfl,hr⟩ (r.mono le)) ev _ λw' rv s' n r2=>⟨r2,hq w' _ s' ⟨le.trans n.le,n.st,n.same.1,n.same.2⟩ ⟨x,rfl,n.le.get hr⟩⟩
theorem zlm (O:dN C gl) {n:Nat}{nm:String} (hb:nG.lookup n=some nm) (S:St Y k w H s) {as:List Val}{vs:List Value} (r:aD C w as vs):Ref Y k (VR C) (call (.builtin nm) vs) w s (wY n as H):=
 .alt (.grd λh => mK (t:=nG) h hb (y:="len") rfl ▸ zib S r) (.alt (.grd λh => mK (t:=nG) h hb (y:="max") rfl ▸ zia S r) (.alt (.grd λh => mK (t:=nG) h hb (y:="min") rfl ▸ zh9 S r) (.grd λh => mK (t:=nG) h hb (y:="sorted") rfl ▸ O.srt O.cfg S r)))
theorem zcQ (O:dN C gl) (hC:fH C d) {es:List Expr}{irs:List Ex} (hc:Sds C d cx es irs) {Y:aY C d 2}{pos:Pos}{g:Val}{gv:Value}{vs:List Val}{H1:MH} (p:Pl Y cx env k mE fr w H s) (hg:aF C w g gv) (e1:gT (C.cx d) irs fr H=some (vs,H1)):Ref Y k (VR C) (callWith pos gv [] (backTo pos (starEach es env)) []) w s (aM (C.cx d) g vs H1):=by
 have args: ∀ {Q:List Value->Shared->Prop}{E:Value->Shared->Prop},(∀w1 a1 s1,Nxt Y k w w1 H1 s s1->aD C w1 vs a1->Q a1 s1) ->wpAny C.M Y.A (spliced (backTo pos (starEach es env))) Q E s:=λhq=>i7 hc Y env k mE fr w H s pos p _ e1 _ _ hq;refine .alt (.opt λf hf=> .case (λhcl=>?_) (λcl hcl=>?_)) (.alt (.opt λn hn=>?_) (.opt λn hn=>?_))
 ·cases top?_s hf
  refine Ji hg λga zq6=>?_;obtain rfl:=zq6.1;have hga:=zq6.2;intro r e Q E hq;exact gK (zbZ O hga e) hc (args λw1 a1 s1 n1 r1=>⟨n1.st.kIn,hC.wp Y n1.st hga r1 r e Q E λw2 a2 s2 n2 r2=>hq w2 a2 s2 (n1.trans n2) r2⟩)
 ·cases top?_s hf
  obtain ⟨ga,rfl,hga⟩:=hg;intro r e Q E hq;refine (bs e).elim λi zq4=>?_;obtain ⟨ca',fI,t1,t2,t3,t4,t5,t6⟩:=O.inits _ _ _ hcl zq4.1;cases Qx.inj (t1.symm.trans hga);exact gK t6 hc (args λw1 a1 s1 n1 r1=>⟨n1.st.kIn,zeM O hC n1.st hcl hga r1 r e Q E λw2 a2 s2 n2 r2=>hq w2 a2 s2 (n1.trans n2) r2⟩)
 ·cases bi?_s hn
  obtain ⟨nm,rfl,hb⟩:=hg;exact λr e Q E hq=>callWith_builtin (cJ hc) (fF (cJ hc) (args λw1 a1 s1 n1 r1=>zlm O hb n1.st r1 r e Q E λw2 a2 s2 n2 r2=>hq w2 a2 s2 (n1.trans n2) r2))
 ·cases ty?_s hn
  obtain ⟨nm,rfl,hb⟩:=hg;exact λr e Q E hq=>PySem.callWith_type (cJ hc) (fF (cJ hc) (args λw1 a1 s1 n1 r1=>zll hb n1.st r1 r e Q E λw2 a2 s2 n2 r2=>hq w2 a2 s2 (n1.trans n2) r2))
theorem vQ (O:dN C gl) (hC:fH C d) {x:Str}{xp pos:Pos}{ig:Ex}{es:List Expr}{irs:List Ex} (hc:Sds C d cx es irs) (hx:dA C d cx (.Name x xp) ig):dA C d cx (.Call (.Name x xp) es [] pos) (.call ig irs):=
 λY env k mE fr w H s p r=>aG λg H1 e1=>aG λvs H2 e2 e Q E hq=>Call_ (hx Y env k mE fr w H s p _ e1 _ _ λw1 a1 s1 n1 r1=>zcQ O hC hc (p.next n1) r1 e2 r e Q E λw2 a2 s2 n2 r2=>hq w2 a2 s2 (n1.trans n2) r2)
theorem zfY {n:Nat}{es:List Expr}{irs:List Ex}{pos:Pos} (hc:Sds C d cx es irs) (hn:n<30):methodCallForm n (backTo pos (starEach es env)) []=true:=by
 unfold methodCallForm;rw [Jz,Jz];refine ⟨⟨?_,rfl⟩,decide_eq_true hn⟩;rw [Jc];intro x hx
 have:=(ZS.mp (cJ (env:=env) (pos:=pos) hc)) x hx
 cases hb:x.1 with
 |false=>rfl
 |true=>exact absurd hb this
theorem vS (O:dN C gl) (hC:fH C d) {o:Expr}{nm:Str}{apos pos:Pos}{io:Ex}{es:List Expr}{irs:List Ex} (hc:Sds C d cx es irs) (hlen:es.length<=20) (ho:dA C d cx o io) (hn:aI nm=true) (hb:sG o=true)
  (hp:(apos.endLine==pos.line)=true):dA C d cx (.Call (.Attribute o nm apos) es [] pos) (.meth io (enc nm) irs):=by
 intro Y env k mE fr w H s p r;refine aG λx H1 e1=>aG λvs H2 e2 e Q E hq=>?_;show wpAny C.M Y.A (do
  let ov<-attributeBase o nm env (PySem.eval o env)
  standAt apos.atName
  methodCall o nm apos pos env ov (es.length+0) (backTo pos (starEach es env)) (backToKw pos (keywordEach [] env))) Q E s
 rw [sF hb];refine wpAny_bind (ho Y env k mE fr w H s p _ e1 _ _ λw1 a1 s1 n1 r1=>wpAny_bind (wpAny_standAt ?_));unfold methodCall;rw [show methodCallForm (es.length+0) (backTo pos (starEach es env)) (backToKw pos (keywordEach [] env))=true from zfY hc (Qk hlen (by decide))];unfold calleeOf methodCallPos;rw [if_pos rfl];refine wpAny_bind (wpAny_holding ?_);cases hm:dK C.P H1 x (enc nm) with
 |some q=>
  have e:c7 C.P m4 d q.1 (q.2++vs) H2=some r:=by
   have e':Qr (motive:=λ_=>Option (Val×MH)) (dK C.P H1 x (enc nm)) (oX x (enc nm) vs H1 H2) (λp=>c7 C.P m4 d p.1 (p.2++vs) H2)=some r:=e;rw [hm] at e';exact e'
  refine yB O n1.st hn r1 (λfa first tk hfa hself=>?_) hm;rw [if_pos (by rw [hp];rfl)];refine wpAny_bind (wpAny_pure ?_);have n1':=n1.trans (.toks n1.st tk);exact gK (s:={s1 with toks:=tk}) (zbZ O hfa e) hc (i7 hc Y env k mE fr w1 H1 {s1 with toks:=tk} pos (p.next n1') _ e2 _ _ λw2 a2 s2 n2 r2=>⟨n2.st.kIn,hC.wp Y n2.st hfa (aD.append r2 (hself.mono n2.le)) r e Q E λw3 a3 s3 n3 r3=>hq w3 a3 s3 ((n1'.trans n2).trans n3) r3⟩)
 |none=>
  have e:oX x (enc nm) vs H1 H2=some r:=by
   have e':Qr (motive:=λ_=>Option (Val×MH)) (dK C.P H1 x (enc nm)) (oX x (enc nm) vs H1 H2) (λp=>c7 C.P m4 d p.1 (p.2++vs) H2)=some r:=e;rw [hm] at e';exact e'
  refine zeS hn n1.st r1 e _ _ _ λid hid=>?_;rw [if_pos (by rw [hp];rfl)];refine wpAny_bind (wpAny_pure ?_);exact callWith_builtin (cJ hc) (fF (cJ hc) (i7 hc Y env k mE fr w1 H1 s1 pos (p.next n1) _ e2 _ _ λw2 a2 s2 n2 r2=>hid w2 s2 a2 n2.le n2.st r2 Q E λw3 a3 s3 n3 r3=>hq w3 a3 s3 ((n1.trans n2).trans n3) r3))
end
theorem kZ {prog:Program}{w:World}{A:Around}{s:Shared}{elt target iter:Expr}{ifs:List Expr}{scope:Scope}{pos:Pos}{it acc:Value}{env:Env}{R:Result->Shared->Prop} (I:Nat->Shared->Prop)
  (turn: ∀n s,I n s->wpAny (model prog w) A (pyNext it) (λr s₁=>match r with
   |none=>R (.ok .next) s₁
   |some v=>wpAny (model prog w) A (letOwnedTupleGo target it v) (λ_ s₁'=>wpAny (model prog w) A (assign target env v) (λ_ s₂=>
     wpAny (model prog w) A (forIn ifs true λc r=>if r=true then do let ok<-PySem.isTrue c env (PySem.eval c env);pure (ForInStep.yield ok) else pure (ForInStep.yield r)) (λok s₃=>
      if ok=true then wpAny (model prog w) A (PySem.eval elt env) (λx s₄=>
       wpAny (model prog w) A (call (.builtin "list.append") [acc,x]) (λ_ s₅ => ∃ m,m < n /\ I m s₅) (notedBy (model prog w) A env λe s' => R (.error e) s') s₄) (notedBy (model prog w) A env λe s' => R (.error e) s') s₃
      else ∃m,m<n/\I m s₃) (notedBy (model prog w) A env λe s'=>R (.error e) s') s₂)
     (notedBy (model prog w) A env λe s'=>R (.error e) s') s₁') (notedBy (model prog w) A env λe s'=>R (.error e) s') s₁) (notedBy (model prog w) A env λe s'=>R (.error e) s') s)
  (n:Nat) (h:I n s):codeAny (model prog w) A (.compLoop (.ListComp elt [⟨target,iter,ifs,0⟩] scope pos) 0 it acc env) R s:=by
 refine codeAny_loop rfl I (λn s hI=>?_) n h;show wpAny _ A ((compTurn (.ListComp elt [⟨target,iter,ifs,0⟩] scope pos) 0 it acc env).onRaise (λx=>do noteFrame x env;theTreesLotGoes x)) _ _ s;refine wpAny_noted ?_;rw [compTurn_list];refine wpAny_bind (wpAny_standAt (wpAny_bind (wpAny_mono (turn n s hI) (λr s₁ h₁=>?_) λ_ _ h'=>h')));cases r with
 |none=>exact wpAny_pure h₁
 |some v=>
  refine wpAny_bind (wpAny_mono h₁ (λ_ s₁' h₁'=>?_) λ_ _ h'=>h');refine wpAny_bind (wpAny_mono h₁' (λ_ s₂ h₂=>wpAny_bind (wpAny_mono h₂ (λok s₃ h₃=>?_) λ_ _ h'=>h')) λ_ _ h'=>h');cases ok with
  |false=>exact wpAny_pure ⟨rfl,h₃⟩
  |true=>exact wpAny_bind (wpAny_bind (wpAny_mono h₃ (λx s₄ h₄=>wpAny_bind (wpAny_mono h₄ (λ_ s₅ h₅=>wpAny_pure (wpAny_pure ⟨rfl,h₅⟩)) λ_ _ h'=>h')) λ_ _ h'=>h'))
theorem zK (outer:List (Str×NameKind)) (sc:Scope) (x:Str):(l9 outer sc).lookup x=(sc.names.lookup x).map λk=>if (k== .free && outer.lookup x==some .cell)=true then .cell else k:=by
 unfold l9
 generalize sc.names=l
 induction l with
 |nil=>rfl
 |cons p l ih=>
  rw [Qz,Jf,Jf];cases hxy:x==p.1 with
  |true=>rw [beq_iff_eq.mp hxy];rfl
  |false=>exact ih
def eA (env:Env) (p:Str×NameKind) (cs:List (Str×Addr)):List (Str×Addr):=if p.2== .free then (match env.cells.lookup p.1 with|some a=>(p.1,a)::cs|none=>cs) else cs
theorem zjr {env:Env}: ∀ (l:List (Str×NameKind)) (acc:List (Str×Addr)),(∀p∈l,p.2= .free->(env.cells.lookup p.1).isSome=true) ->
  (forIn l acc λx r=>match x with
   |(name,kind)=>if (kind==NameKind.free)=true then do let a<-cellOf env name;pure (ForInStep.yield ((name,a)::r)) else pure (ForInStep.yield r):Sem (List (Str×Addr)))=pure (l.foldl (λcs p=>eA env p cs) acc):=by
 intro l
 induction l with
 |nil=>exact λacc _=>rfl
 |cons p l ih=>
  intro acc h;obtain ⟨n,k⟩:=p;rw [KG,Zy]
  dsimp only
  by_cases hk:(k==NameKind.free)=true
  ·rw [if_pos hk]
   obtain ⟨a,ha⟩:=Jl.mp (h (n,k) (.head _) (beq_iff_eq.mp hk));rw [(by unfold cellOf;rw [show env.cells.lookup n=some a from ha]:cellOf env n=pure a),pure_bind,pure_bind]
   dsimp only
   rw [(λacc=>ih acc λp hp=>h p (.tail _ hp))]
   congr 2
   unfold eA;rw [if_pos hk]
   dsimp only at ha ⊢
   rw [ha]
  ·rw [if_neg hk,pure_bind]
   dsimp only
   rw [(λacc=>ih acc λp hp=>h p (.tail _ hp))]
   congr 2
   unfold eA;rw [if_neg hk]
theorem zdK {env:Env}{x:Str}{c:Addr} (hc:env.cells.lookup x=some c): ∀ (l:List (Str×NameKind)) (acc:List (Str×Addr)),((x,NameKind.free)∈l\/acc.lookup x=some c) ->(l.foldl (λcs p=>eA env p cs) acc).lookup x=some c:=by
 intro l
 induction l with
 |nil=>exact λacc h=>h.elim (λh=>absurd h Qq) id
 |cons p l ih=>
  intro acc h;rw [Zy];refine ih _ ?_;have keep:acc.lookup x=some c->(eA env p acc).lookup x=some c:=λh=>by
   unfold eA;split
   ·split
    ·rename_i a ha
     rw [Jf];cases hxy:x==p.1 with
     |true=>rw [beq_iff_eq.mp hxy] at hc;exact ha.symm.trans hc
     |false=>exact h
    ·exact h
   ·exact h
  rcases h with h|h
  ·rcases QE.mp h with e|h
   ·refine .inr ?_
    rw [<-e];unfold eA
    dsimp only
    rw [hc,if_pos (show (NameKind.free==NameKind.free)=true from rfl)];show YC x ((x,c)::acc)=some c;rw [Jf,beq_self_eq_true]
   ·exact .inl h
  ·exact .inr (keep h)
theorem zbb {scope:Scope}{env:Env} (h: ∀p∈scope.names,p.2= .free->(env.cells.lookup p.1).isSome=true): ∃cl,closureFor scope env=pure cl/\∀x c,(x,NameKind.free)∈scope.names->env.cells.lookup x=some c->cl.lookup x=some c:=by
 refine ⟨scope.names.foldl (λcs p=>eA env p cs) [],?_,λx c hx hc=>zdK hc _ _ (.inl hx)⟩
 have:=zjr (env:=env) scope.names [] h
 unfold closureFor;rw [<-this];simp only [bind_pure]
structure zjK (cx:CC) (sc:Scope) (xs:List Str):Prop where
 kind:sc.kind= .function
 nocell: ∀p∈sc.names,p.2≠ .cell
 loc: ∀p∈sc.names,p.2= .local->sc.names.lookup p.1=some .local/\(p.1∈xs\/cx.vars.lookup p.1=none)
 free: ∀p∈sc.names,p.2= .free->sc.names.lookup p.1=some .free/\cx.sc.lookup p.1=some .cell
 nd:xs.Nodup
 xs: ∀x∈xs,sc.names.lookup x=some .local
theorem zbI {cx:CC}{sc:Scope}{xs:List Str} (h:rW cx sc xs=true):zjK cx sc xs:=by
 unfold rW at h;simp only [Jz,Jc,beq_iff_eq,KI,bne_iff_ne,ne_eq,decide_eq_true_eq,Zp,JR] at h;obtain ⟨⟨⟨h1,h2⟩,h3⟩,h4⟩:=h;exact ⟨h1,λp hp=>(h2 p hp).1.1,λp hp hl=>(h2 p hp).1.2.elim (absurd hl) id,λp hp hf=>(h2 p hp).2.elim (absurd hf) id,h4,h3⟩
def xM (cx:CC):Prop:= ∀x i,cx.vars.lookup x=some i->i<cx.next
theorem zaW {α β:Type} [BEq α] (a:α) (r:List (α×β)): ∀ (l:List (α×β)),(l++r).lookup a=(l.lookup a).or (r.lookup a):=by
 intro l
 induction l with
 |nil=>rfl
 |cons p l ih=>
  rw [ZG,Jf,Jf];cases a==p.1 with
  |true=>rfl
  |false=>exact ih
theorem lX (x:Str): ∀ (l:List Str) (n:Nat),(∀i,(l.zip (QO n l.length)).lookup x=some i-> ∃j,i=n+j/\l[j]?=some x)/\(x∉l->(l.zip (QO n l.length)).lookup x=none)/\(x∈l->((l.zip (QO n l.length)).lookup x).isSome=true):=by
 intro l
 induction l with
 |nil=>exact λn=>⟨λi h=>nos h,λ_=>rfl,λh=>absurd h Qq⟩
 |cons y l ih=>
  intro n;have zq25:=ih (n+1);rw [JA,Xn,ZJ,Jf];cases hxy:x==y with
  |true=>exact ⟨λi h=>⟨0,(Qx.inj h).symm,by rw [beq_iff_eq.mp hxy];rfl⟩,λh=>absurd (beq_iff_eq.mp hxy▸List.mem_cons_self) h,λ_=>rfl⟩
  |false=>
   refine ⟨λi h=>?_,λh=>zq25.2.1 λh'=>h (.tail _ h'),λh=>zq25.2.2 ((QE.mp h).resolve_left (beq_eq_false_iff_ne.mp hxy))⟩;refine (zq25.1 i h).elim λj zq24=>?_;exact ⟨j+1,zq24.1.trans (by rw [Q1,J6 1]),zq24.2⟩
theorem jI {cx:CC}{sc:Scope}{xs:List Str}{x:Str}{i:Nat} (h:(inComp cx sc xs).vars.lookup x=some i):(∃j,i=cx.next+j/\xs[j]?=some x)\/(x∉xs/\cx.vars.lookup x=some i):=by
 have h:(xs.zip (QO cx.next xs.length)++cx.vars).lookup x=some i:=h;have zq23:=lX x xs cx.next;rw [zaW] at h;by_cases hx:x∈xs
 ·refine (Jl.mp (zq23.2.2 hx)).elim λj zq22=>?_
  rw [zq22] at h;cases h;exact .inl (zq23.1 _ zq22)
 ·rw [zq23.2.1 hx] at h
  exact .inr ⟨hx,h⟩
theorem xM.inComp {cx:CC} (h:xM cx) (sc:Scope) (xs:List Str):xM (inComp cx sc xs):=by
 intro x i hi;show i<cx.next+xs.length;rcases jI hi with ⟨j,rfl,hj⟩| ⟨_,hi⟩
 ·exact QT (Qg.mp hj).1 _
 ·exact Qi (h x i hi) (Qf _ _)
theorem pN {cx:CC}{x:Str}{i:Nat} (h:d4 cx x=some i):(cx.sc.lookup x=some .local\/cx.sc.lookup x=some .cell)/\cx.vars.lookup x=some i:=by
 exact ⟨(YO.mp (gs h).1).imp beq_iff_eq.mp beq_iff_eq.mp,(gs h).2⟩
theorem zeV {fr:Frame}{i j:Nat}{v u:Val} (h:(fr.set i (some v))[j]?=some (some u)):(i=j/\u=v)\/(i≠j/\fr[j]?=some (some u)):=by
 by_cases hij:i=j
 ·subst hij
  rw [List.getElem?_set] at h;simp only [if_true] at h
  split at h
  ·cases h;exact .inl ⟨rfl,rfl⟩
  ·cases h
 ·rw [QJ hij] at h
  exact .inr ⟨hij,h⟩
theorem qL (i:Nat) (u:Val): ∀ (vs:List Val) (n:Nat) (fr:Frame),(lR (QO n vs.length) vs fr)[i]?=some (some u) ->(∃j,i=n+j/\vs[j]?=some u)\/((i<n\/n+vs.length<=i)/\fr[i]?=some (some u)):=by
 intro vs
 induction vs with
 |nil=>exact λn fr h=> .inr ⟨Nat.lt_or_ge i n,h⟩
 |cons v vs ih=>
  intro n fr h;rw [JA,Xn] at h;rcases ih (n+1) (fr.set n (some v)) h with ⟨j,h1,h2⟩| ⟨h1,h2⟩
  ·exact .inl ⟨j+1,by lia,h2⟩
  ·rcases zeV h2 with ⟨e,rfl⟩| ⟨hne,h3⟩
   ·exact .inl ⟨0,e.symm,rfl⟩
   ·exact .inr ⟨by rw [JA];lia,h3⟩
section
variable {C:Cfg}{d e:Nat}{Y:aY C d e}{k:Kp}{w:Wd}{H:MH}{s:Shared}{cx:CC}{env:Env}{mE:Str->Option Value}{fr:Frame}
theorem vO {A:Around}{I:Addr}{io:Obj}{z:It}{i:Nat} (hI:s.heap.get? I=some io) (R:gH C w io i z) {Q:Value->Shared->Prop}{E:Value->Shared->Prop} (h:Q (.ref I) s):wpAny C.M A (pyIter (.ref I)) Q E s:=by
 cases z with
 |fs _=>obtain ⟨la,_,ic⟩:=R;exact wpAny_pyIter_listiter ⟨io,hI,ic.1,ic.2⟩ h
 |ls _=>obtain ⟨la,_,ic⟩:=R;exact wpAny_pyIter_listiter ⟨io,hI,ic.1,ic.2⟩ h
 |tp _=>obtain ⟨la,_,ic⟩:=R;exact wpAny_pyIter_tupleiter ⟨io,hI,ic.1,ic.2⟩ h
 |sq _=>
  obtain ⟨T,t,hT,ic⟩:=R.2;rcases hT with rfl|rfl
  ·exact wpAny_pyIter_striter_ascii ⟨io,hI,ic.1,ic.2⟩ h
  ·exact wpAny_pyIter_striter_wide ⟨io,hI,ic.1,ic.2⟩ h
 |dk _ _ _=>obtain ⟨la,_,ic,id⟩:=R;exact wpAny_pyIter_keyiter ⟨io,hI,ic,id⟩ h
 |rg _=>obtain ⟨_,_,_,rfl⟩:=R;exact wpAny_pyIter_rangeiter hI h
abbrev xS : List String := ["enumerate","zip","dict_itemiterator","dict_reverseitemiterator","odict_iterator","itertools.zip_longest","itertools.pairwise"]
theorem gH.cls {io:Obj}{z:It}{i:Nat} (R:gH C w io i z): ∃T vs,io.cls= .type T/\io.data= .fields vs/\xS.contains T=false:=by
 cases z with
 |fs _=>obtain ⟨la,_,ic⟩:=R;exact ⟨_,_,ic.1,ic.2,by decide⟩
 |ls _=>obtain ⟨la,_,ic⟩:=R;exact ⟨_,_,ic.1,ic.2,by decide⟩
 |tp _=>obtain ⟨la,_,ic⟩:=R;exact ⟨_,_,ic.1,ic.2,by decide⟩
 |sq _=>obtain ⟨_,T,t,hT,ic⟩:=R;rcases hT with rfl|rfl<;>exact ⟨_,_,ic.1,ic.2,by decide⟩
 |dk _ _ _=>obtain ⟨la,_,ic,id⟩:=R;exact ⟨_,_,ic,id,by decide⟩
 |rg _=>obtain ⟨_,_,_,rfl⟩:=R;exact ⟨_,_,rfl,rfl,by decide⟩
theorem qT {A:Around}{I:Addr}{io:Obj} (hI:s.heap.get? I=some io) {tg:Expr}{v:Value} (R: ∃T vs,io.cls= .type T/\io.data= .fields vs/\xS.contains T=false) {Q:Unit->Shared->Prop}{E:Value->Shared->Prop} (h:Q () s):wpAny C.M A (letOwnedTupleGo tg (.ref I) v) Q E s:=by
 refine R.elim λT zq19=>zq19.elim λvs zq20=>?_;have key:wpAny C.M A (do
  let (.ref r,.ref a):=((Wj I),v)|return
  let o<-load r
  match o.cls,o.data with
  | .type n,.fields vs=>
   if ["enumerate","zip","dict_itemiterator","dict_reverseitemiterator","odict_iterator","itertools.zip_longest","itertools.pairwise"].contains n && vs[0]? == some (rawInt a) then
    rule "for.unpacks-the-owned-tuple"
    updateField r 0 .none
  |_,_=>pure ()) Q E s:=by
  cases v with
  |ref b=>
   refine wpAny_bind (wpAny_load hI ?_);rw [zq20.1,zq20.2.1]
   dsimp only
   rw [show (["enumerate","zip","dict_itemiterator","dict_reverseitemiterator","odict_iterator","itertools.zip_longest","itertools.pairwise"].contains T) = false from zq20.2.2];exact wpAny_pure h
  |_=>exact wpAny_pure h
 cases tg<;>first|exact wpAny_pure h|exact key
abbrev qD (env:Env) (ifs:List Expr) (b:Bool):Sem Bool:=forIn ifs b λc r=>if r=true then do let ok<-PySem.isTrue c env (PySem.eval c env);pure (ForInStep.yield ok) else pure (ForInStep.yield r)
theorem xU: ∀ (ifs:List Expr),qD env ifs false=pure false:=by
 intro ifs
 induction ifs with
 |nil=>rfl
 |cons c r ih=>
  unfold qD;rw [KG];simp only [Kc,if_false,pure_bind];exact ih
theorem zcJ {ifs:List Expr}{irs:List Ex} (h:Sds C d cx ifs irs): ∀ (Y:aY C d 2) (env:Env) (k:Kp) (mE:Str->Option Value) (fr:Frame) (w:Wd) (H:MH) (s:Shared),Pl Y cx env k mE fr w H s->Ref Y k EqR (qD env ifs true) w s (rV (C.cx d) irs fr H):=by
 induction h with
 |nil=>exact λY env k mE fr w H s p=> .pure' p.st rfl
 |cons he _ ih=>
  intro Y env k mE fr w H s p r;refine aG λb H1 e1 e Q E hq=>?_;unfold qD;rw [KG];simp only [if_true];refine wpAny_bind (wpAny_bind (he.ts Y env k mE fr w H s p _ e1 _ _ λw1 a1 s1 n1 r1=>wpAny_pure ?_));rw [show a1=b from r1];cases b with
  |true=>exact ih Y env k mE fr w1 H1 s1 (p.next n1) _ e _ _ λw2 a2 s2 n2 r2=>hq w2 a2 s2 (n1.trans n2) r2
  |false=>
   cases e;show wpAny C.M Y.A (qD env _ false) Q E s1;rw [xU];exact wpAny_pure (hq w1 _ s1 n1 rfl)
theorem tB {sc:Scope} (hk:env.scope.kind= .function) (hs:env.scope.names=cx.sc):(relabel sc env).names=l9 cx.sc sc:=by
 unfold relabel l9
 dsimp only
 apply Ja
 intro p _;rw [hk,<-hs];unfold Env.kindOf;obtain ⟨n,k⟩:=p
 dsimp only
 rw [show (ScopeKind.function==ScopeKind.function)=true from rfl,Yf]
 split<;>rfl
theorem iC {sc:Scope}{xs:List Str} (O:zjK cx sc xs) {x:Str}:((l9 cx.sc sc).lookup x=some .local->sc.names.lookup x=some .local)/\((l9 cx.sc sc).lookup x=some .cell->sc.names.lookup x=some .free/\cx.sc.lookup x=some .cell):=by
 rw [zK];refine ⟨bU λk hk e=>?_,bU λk hk e=>?_⟩
 ·split at e
  ·cases e
  ·rw [hk,e]
 ·split at e
  ·rename_i hc
   rw [Jz,beq_iff_eq,beq_iff_eq] at hc;rw [hk,hc.1];exact ⟨rfl,hc.2⟩
  ·exact absurd e (O.nocell _ (bO hk))
theorem Pl.inner (p:Pl Y cx env k mE fr w H s) {sc:Scope}{xs:List Str} (O:zjK cx sc xs) (hn:xM cx) {cl:List (Str×Addr)} (hcl: ∀x c,(x,NameKind.free)∈sc.names->env.cells.lookup x=some c->cl.lookup x=some c) {N:Addr}{oN:Obj}{k':Kp} (hk:k'.ce=k.ce) {mN:Str->Option Value} (hm:(N,oN)∈k'.ex) (hns:NsO oN mN)
  {w':Wd} (le:w.le w') {H':MH}{s':Shared} (S':St Y k' w' H' s') {mvs:List Val}{vs:List Value} (r:aD C w' mvs vs) (hl:mvs.length=xs.length) (hv: ∀ (j:Nat) x,xs[j]?=some x->mN x=vs[j]?):Pl Y (inComp cx sc xs) (compEnvC sc cl N env) k' mN (lR (QO cx.next xs.length) mvs fr) w' H' s':=by
 refine ⟨⟨O.kind,p.b.gl,p.b.bl,tB p.b.kind p.b.sc,λx hx=>?_,.inr ⟨oN,hm,hns⟩⟩,λx i v hx hvv=>?_,S'⟩
 ·refine (p.b.cells x ((iC O).2 hx).2).elim λc zq15=>zq15.elim λo zq16=>zq16.elim λv₀ zq17=>?_
  exact ⟨c,o,v₀,hcl x c (bO ((iC O).2 hx).1) zq17.1,hk▸zq17.2.1,zq17.2.2⟩
 ·obtain ⟨hkd,hi⟩:=pN hx
  rw [<-hl] at hvv;rcases hkd with hkd|hkd
  ·have hloc:=(iC O).1 hkd
   rcases jI hi with ⟨j,rfl,hj⟩| ⟨hne,hi'⟩
   ·have hjl:=(Qg.mp hj).1
    rcases qL _ _ _ _ _ hvv with ⟨j',e,hj'⟩| ⟨hlt,_⟩
    ·cases YP e
     refine (r.get hj').elim λrv zq13=>?_;exact .loc rv hkd ((hv _ _ hj).trans zq13.1) zq13.2
    ·lia
   ·rcases (O.loc _ (bO hloc) rfl).2 with h|h
    ·exact absurd h hne
    ·rw [h] at hi';cases hi'
  ·have zq12:=(iC O).2 hkd
   rcases jI hi with ⟨j,rfl,hj⟩| ⟨_,hi'⟩
   ·have:=O.xs x (Qd hj)
    rw [zq12.1] at this;cases this
   ·have hlt:=hn x i hi'
    rcases qL _ _ _ _ _ hvv with ⟨j',e,hj'⟩| ⟨_,hv'⟩
    ·lia
    ·have hvar:d4 cx x=some i:=by unfold d4;rw [zq12.2];exact hi'
     cases (p.f x i v hvar hv').mono le with
     |loc _ h3 _ _=>rw [zq12.2] at h3;cases h3
     |cell rv c o _ e1 e2 e3 e4=>exact .cell rv c o hkd (hcl x c (bO zq12.1) e1) (hk▸e2) e3 e4
abbrev wI (env:Env) (x:Str) (f:Value->Sem Unit):Prop:= ∀ (M:Model) (A:Around) (v:Value) (Q:Unit->Shared->Prop) (E:Value->Shared->Prop) (s:Shared),wpAny M A (storeName env x v) Q E s->wpAny M A (f v) Q E s
theorem oH {es:List Expr}{xs:List Str} (h:cL (λe x=>hP e=some x) es xs):cL (wI env) xs ((assignEach es env).map (·.2))/\(assignEach es env).length=xs.length/\(assignEach es env).findIdx? (·.1)=none:=by
 induction h with
 |nil=>exact ⟨.nil,rfl,rfl⟩
 | @cons e x es xs h _ ih=>
  obtain ⟨p,hp,rfl⟩:=ms h;cases gY hp;refine ⟨.cons (λ_ _ _ _ _ _ z=>PySem.wpAny_assign_Name z) ih.1,congrArg (· +1) ih.2.1,?_⟩;show XH _ ((false,assign (.Name p.1 p.2) env)::assignEach es env)=none;rw [Xa];simp only [Kc,if_false,ih.2.2,Yx]
theorem zj0 {t:Expr}{q:List Str×Bool} (h:oM t=some q):(∃x p,t= .Name x p/\q=([x],false))\/∃es n p,t= .Tuple es n p/\q.2=true/\cL (λe x=>hP e=some x) es q.1:=by
 revert h
 refine cA (bU λp hp e=>?_) (aX λp hp=>bU λxs hx e=>?_)
 ·exact .inl ⟨p.1,p.2,gY hp,e.symm⟩
 ·subst e
  exact .inr ⟨p.1,p.2.1,p.2.2,pY hp,rfl,hW hx⟩
inductive zkJ (fr fr1:Frame) (tg:List Nat) (many:Bool) (v:Val):Prop
 |mk (mvs:List Val) (l:mvs.length=tg.length) (e:fr1=lR tg mvs fr) (t:many=true->v= .tup mvs) (f:many=false->mvs= [v]):zkJ fr fr1 tg many v
theorem zcg {tg:List Nat}{many:Bool}{v:Val}{fr1:Frame} (h:eC fr tg many v=some fr1):zkJ fr fr1 tg many v:=by
 cases many with
 |true=>
  obtain ⟨vs,h1,h⟩:=bs (o:=v.tup?) h;exact ⟨vs,beq_iff_eq.mp (gs h).1,(Qx.inj (gs h).2).symm,λ_=>tup?_s h1,λq=>Yl q⟩
 |false=>
  exact ⟨[v],(beq_iff_eq.mp (gs (b:=tg.length==1) h).1).symm,(Qx.inj (gs (b:=tg.length==1) h).2).symm,λq=>Yl q,λ_=>rfl⟩
theorem oP (hk:env.scope.kind= .function) {x:Str} (hx:env.kindOf x=some .local) {oN:Obj}{mN:Str->Option Value} (S:St Y (k.ext (env.locals,oN)) w H s) (hns:NsO oN mN) {rv:Value}{Q:Unit->Shared->Prop}{E:Value->Shared->Prop}
  (h: ∀oN' mN' h' tk,Sta C Y.h₀ Y.L (k.ext (env.locals,oN')) w H h'->NsO oN' mN'->mN' x=some rv->(∀y,y≠x->mN' y=mN y) ->Q () {s with heap:=h',toks:=tk}):wpAny C.M Y.A (storeName env x rv) Q E s:=by
 refine Ji hns λes zq6=>zq6.elim λep zq7=>?_;refine wpAny_storeName_local (m:=mN) hx ⟨oN,es,ep,S.exHead.1,zq7⟩ (λh' hn hs=>?_) (by rw [hk];rfl);refine Ji hn λo' zq3=>zq3.elim λes' zq4=>zq4.elim λep' zq5=>?_;exact h o' _ h' _ (S.setEx hs zq5.1) ⟨es',ep',zq5.2⟩ (if_pos rfl) (λy hy=>if_neg hy)
theorem zhY (hk:env.scope.kind= .function) {xs:List Str}{fs:List (Value->Sem Unit)} (hb:cL (wI env) xs fs):(∀x∈xs,env.kindOf x=some .local) ->xs.Nodup-> ∀ {vs:List Value}{oN:Obj}{mN:Str->Option Value}{s:Shared}{Q:Unit->Shared->Prop}{E:Value->Shared->Prop},
  vs.length=xs.length->St Y (k.ext (env.locals,oN)) w H s->NsO oN mN->
  (∀oN' mN' h' tk,Sta C Y.h₀ Y.L (k.ext (env.locals,oN')) w H h'->NsO oN' mN'->(∀ (j:Nat) x,xs[j]?=some x->mN' x=vs[j]?) ->(∀y,y∉xs->mN' y=mN y) ->Q () {s with heap:=h',toks:=tk}) ->wpAny C.M Y.A (assignInOrder fs vs) Q E s:=by
 induction hb with
 |nil=>
  intro _ _ vs oN mN s Q E hl S hns h;cases JB.mp hl;exact wpAny_pure (h oN mN s.heap s.toks S hns (λj x hj=>nos hj) (λ_ _=>rfl))
 | @cons x f xs fs hf _ ih=>
  intro hx hd vs oN mN s Q E hl S hns h;cases vs with
  |nil=>cases hl
  |cons v vs=>
   show wpAny C.M Y.A (do holding _ _;assignInOrder _ _) Q E s;refine wpAny_bind (wpAny_holding (hf _ _ _ _ _ _ (oP hk (hx x (.head _)) S hns λoN1 mN1 h1 tk S1 hns1 e1 e2=>?_)));refine ih (λy hy=>hx y (.tail _ hy)) (Qw.mp hd).2 (s:={s with heap:=h1,toks:=tk}) (JZ.inj hl) S1 hns1 λoN2 mN2 h2 tk2 S2 hns2 k1 k2=>?_;refine h oN2 mN2 h2 tk2 S2 hns2 (λj y hj=>?_) (λy hy=>(k2 y λq=>hy (.tail _ q)).trans (e2 y λq=>hy (q▸ .head _)));cases j with
   |zero=>cases hj;rw [k2 _ (Qw.mp hd).1,e1];rfl
   |succ j=>exact k1 j y hj
theorem zjA (hk:env.scope.kind= .function) {t:Expr}{q:List Str×Bool} (ht:oM t=some q) (hx: ∀x∈q.1,env.kindOf x=some .local) (hd:q.1.Nodup) {v:Val}{mvs:List Val}{rv:Value} (h1:q.2=true->v= .tup mvs) (h2:q.2=false->mvs= [v]) (hl:mvs.length=q.1.length) (hv:aF C w v rv)
  {oN:Obj}{mN:Str->Option Value} (S:St Y (k.ext (env.locals,oN)) w H s) (hns:NsO oN mN) {Q:Unit->Shared->Prop}{E:Value->Shared->Prop}
  (h: ∀vs oN' mN' h' tk,aD C w mvs vs->Sta C Y.h₀ Y.L (k.ext (env.locals,oN')) w H h'->NsO oN' mN'->(∀ (j:Nat) x,q.1[j]?=some x->mN' x=vs[j]?) ->Q () {s with heap:=h',toks:=tk}):wpAny C.M Y.A (assign t env rv) Q E s:=by
 rcases zj0 ht with ⟨x,p,rfl,rfl⟩| ⟨es,n,p,rfl,hq,hes⟩
 ·cases h2 rfl
  refine PySem.wpAny_assign_Name (oP hk (hx x (.head _)) S hns λoN' mN' h' tk S' hns' e1 _=>h [rv] oN' mN' h' tk (.one hv) S' hns' λj y hj=>?_);cases j with
  |zero=>cases hj;exact e1
  |succ j=>exact nos hj
 ·cases h1 hq
  have zq2:=oH (env:=env) hes;obtain ⟨tt,o,n',ws,rfl,ho,hc,hdd,rr,_⟩:=S.tup hv;exact assign_Tuple_tuple (items:=ws.toArray) Y.handled ⟨o,ho,hc,n',hdd⟩ (by rw [zq2.2.1,Je,<-rr.length,hl]) zq2.2.2 λh' he=>zhY hk zq2.1 hx hd (s:={s with heap:=h'}) (by rw [<-rr.length,hl]) (S.grown he) hns λoN' mN' h'' tk S2 hns2 k1 _=>h ws oN' mN' h'' tk rr S2 hns2 k1
end
structure CpO (C:Cfg) (d:Nat) (cx:CC) (g:Comprehension) (sc:Scope) (elt:Expr) (q:List Str×Bool) (ie ii:Ex) (iifs:List Ex):Prop where
 as:g.is_async=0
 t:oM g.target=some q
 o:zjK cx sc q.1
 it:Sd C d cx g.iter ii
 elt:Sd C d (inComp cx sc q.1) elt ie
 ifs:Sds C d (inComp cx sc q.1) g.ifs iifs
section
variable {C:Cfg}{d e:Nat}{k:Kp}{w:Wd}{H:MH}{s:Shared}{cx:CC}{env:Env}{mE:Str->Option Value}{fr:Frame}{gl:List (Str×Val)}
inductive zvt (C:Cfg) {d e:Nat} (Y:aY C d e) (k:Kp) (w0:Wd) (s0:Shared) (I N:Addr) (z:It) (F:Nat->MH->Option (Unit×MH)) (r:Unit×MH) (s:Shared):Prop
 |mk (w:Wd) (H:MH) (j:Nat) (io oN:Obj) (mN:Str->Option Value) (le:w0.le w) (st:St Y ((k.ext (N,oN)).ext (I,io)) w H s) (ns:NsO oN mN) (it:gH C w io j z) (sm:gZ s0 s) (lp:F j H=some r):zvt C Y k w0 s0 I N z F r s
theorem zb9 {Y:aY C d 2}{g:Comprehension}{sc:Scope}{elt:Expr}{q:List Str×Bool}{ie ii:Ex}{iifs:List Ex}{pos ps:Pos} (O:CpO C d cx g sc elt q ie ii iifs) (hn:xM cx) (p:Pl Y cx env k mE fr w H s) {r:Val×MH}
  (ev:eval (C.cx d) (.comp ie (QO cx.next q.1.length) q.2 ii iifs) fr H=some r) {use:Option (Value->Sem Unit)}{Q:Value->Shared->Prop}{E:Value->Shared->Prop}
  (hpost: ∀w' D N oN mN s',w.le w'->St Y (k.ext (N,oN)) w' r.2 s'->NsO oN mN->aF C w' r.1 (.ref D) ->gZ s s'->compPost C.M Y.A E use Q (.ref D) N (.ok .next) s'):
  wpAny C.M Y.A (comprehension (.ListComp elt [g] sc pos) sc env ps (newList []) false (PySem.eval g.iter env) use) Q E s:=by
 have as:=O.as;have Os:=O.o;obtain ⟨t,it,ifs,a⟩:=g;have as:a=0:=as;subst as
 revert ev
 refine aG λv H1 ev1=>aX λz hz=>aG λ_ H2 lp e=>?_;cases e;obtain ⟨cl,hclos,hcl⟩:=zbb (scope:=sc) (env:=env) λx hx hf=>by
  refine (p.b.cells x.1 (Os.free x hx hf).2).elim λc zq11=>zq11.elim λ_ zq12=>zq12.elim λ_ zq13=>?_;rw [zq13.1];rfl
 refine wpAny_comprehension_free rfl (O.it.sy.fold env) hclos Os.kind (λx hx hl=>(Os.loc x hx hl).1) (O.it.es Y env k mE fr w H s p _ ev1 _ _ λw1 a1 s1 n1 r1=>yA n1.st r1 (λI io h2 S2 R2=>?_) hz);obtain ⟨all,hnn,add,_,_⟩:=S2.ledger;refine wpAny_newObj_type (wpAny_newFunctionEnv Os.nocell (by intro y hy;simp at hy) (λh₁ hns₁ hsb₁=>?_) Os.kind);have le2:w1.le ⟨w1.σ++ [h2.objs.size],w1.tp⟩:=⟨Q9 _ _,λ_ x=>x⟩;have S3:=add _ (.list []) [(h2.objs.size,listOf ([]:List Value).toArray 0)] _ ⟨[],0,rfl,.nil,Qs _⟩ (S2.fr.push _) (hnn.push S2.fr _) (hO _) (News.fresh hnn λp hp=>Qu.mp hp▸Qj _) (S2.four (Qj _));have hD:(w1.σ++ [h2.objs.size])[H1.length]?=some h2.objs.size:=by rw [<-S2.len];exact Jk
 refine Ji hns₁ λoN zq8=>zq8.elim λesN zq9=>zq9.elim λepN zq10=>?_;have n1':=zq10.1;have nn:=zq10.2;have S4 := (S3.addEx { cls := .type "dict",data := .dict #[] } rfl).setEx hsb₁ n1';have hns:NsO oN (λx=>YC x ([]:List (Str×Value)).reverse):=⟨esN,epN,nn⟩
 generalize hNN:(h2.push _).objs.size=N at*
 generalize hDD:h2.objs.size=D at*
 clear hNN add hnn S3 hsb₁ n1' nn
 have loop: ∀s4:Shared,s4.heap=h₁->gZ s s4->codeAny C.M Y.A (.compLoop (.ListComp elt [⟨t,it,ifs,0⟩] sc pos) 0 (.ref I) (.ref D) (compEnvC sc cl N env)) (compPost C.M Y.A E use Q (.ref D) N) s4:=by
  intro s4 hs4 sm4;refine kZ (λn s'=>zvt C Y k ⟨w1.σ++ [D],w1.tp⟩ s I N z (compLoop (λi h=>cF h i z) (λv h=>(eC fr (QO cx.next q.1.length) q.2 v).bind λfr'=>bnd (rV (C.cx d) iifs fr' h) λb h'=>some (bif b then some fr' else none,h')) (λfr' h=>eval (C.cx d) ie fr' h) H1.length n) ((),H2) s')
   ?_ (C.cx d).fuel ⟨_,_,0,io,oN,_,.refl _,by rw [St,hs4];exact S4.exSwap,hns,R2.mono le2,sm4,lp⟩
  rintro n s' ⟨w5,H5,j,io',oN',mN',le5,S5,hns5,R5,sm5,lp5⟩
  cases n with
  |zero=>exact nos lp5
  |succ n=>
   revert lp5
   refine aX λov hov lp5=>x7 S5 R5 hov ⟨λu rv io6 h' tk hu S6 R6 hr=>?_,λh' hu S6=>?_⟩
   ·subst hu
    refine qT (s:={s' with heap:=h',toks:=tk}) S6.exHead.1 R6.cls ?_
    revert lp5
    refine aG λofr H7 htest lp5=>?_;obtain ⟨fr2,hbind,htest⟩:=bs htest;obtain ⟨mvs,b1,b2,b3,b4⟩:=zcg hbind;rw [Zo] at b1;refine zjA (s:={s' with heap:=h',toks:=tk}) (env:=compEnvC sc cl N env) (k:=k.ext (I,io6)) Os.kind O.t (λx hx=>lookup_relabel_local (Os.xs x hx)) Os.nd b3 b4 b1 hr (Sta.exSwap S6) hns5 λvs oN7 mN7 h7 tk7 rr7 S7 hns7 hm7=>?_;have S7':St Y ((k.ext (N,oN7)).ext (I,io6)) w5 H5 {s' with heap:=h7,toks:=tk7}:=Sta.exSwap S7;have P7:=(p.next n1).inner (k':=(k.ext (N,oN7)).ext (I,io6)) Os hn hcl rfl (.tail _ (.head _)) hns7 (le2.trans le5) S7' rr7 b1 hm7;rw [<-b2] at P7
    revert htest
    refine aG λb H8 htt e8=>?_;cases e8;refine zcJ O.ifs Y _ _ _ _ _ _ _ P7 _ htt _ _ λw8 ok s8 n8 r8=>?_;rw [show ok=b from r8];cases b with
    |false=>exact ⟨n,QD n,w8,_,j+1,io6,oN7,mN7,le5.trans n8.le,n8.st,hns7,R6.mono n8.le,((gZ.trans sm5 ⟨n8.same.1,n8.same.2⟩):gZ s s8),lp5⟩
    |true=>
     revert lp5
     refine aG λx9 H9 ev9=>aX λacc hacc=>cZ λhlen lp9=>?_;refine O.elt.es Y _ _ _ _ _ _ _ (P7.next n8) _ ev9 _ _ λw9 xv s9 n9 r9=>?_;refine qK n9.st (((le5.trans n8.le).trans n9.le).get hD:w9.σ[H1.length]?=some D) hacc r9 (QW.mp hlen) _ rfl _ _ λw10 _ s10 n10 _=>?_;exact ⟨n,QD n,w10,_,j+1,io6,oN7,mN7,((le5.trans n8.le).trans n9.le).trans n10.le,n10.st,hns7,R6.mono ((n8.le.trans n9.le).trans n10.le),(((gZ.trans sm5 ⟨n8.same.1,n8.same.2⟩):gZ s s8).trans n9.same).trans n10.same,lp9⟩
   ·subst hu
    cases lp5;exact hpost w5 D N oN' mN' {s' with heap:=h'} ((n1.le.trans le2).trans le5) S6 hns5 ⟨D,rfl,le5.get hD⟩ ⟨sm5.1,sm5.2⟩
 exact codeAny_compStart_list (loop _ rfl ⟨n1.same.1,n1.same.2⟩) (vO (s:={s1 with heap:=h₁,toks:=_}) (Sta.exHead (Sta.exSwap S4)).1 R2 (loop _ rfl ⟨n1.same.1,n1.same.2⟩))
theorem cC {e:Expr} (h1: ∀rest env,starEach (e::rest) env=(false,PySem.eval e env)::starEach rest env) (h2: ∀o i,subscripted e false o i=operate [o,i] (getItem o i)) (h3: ∀op,behindInMarks op e=false) (h4: ∀env x,foldedSetIterable e env x=pure x) (h5: ∀t n env,swapsWith e t n env=pure false):Sy e:=⟨h1,h2,h3,h4,λ_=>h5⟩
theorem Sd.of {e:Expr}{ir:Ex} (h:dA C d cx e ir) (he: ∀ (env:Env) (whole:Sem Value),PySem.isTrue e env whole=(do let v<-whole;standAt e.pos;holding [v] (PySem.truthy v))) (sy:Sy e):Sd C d cx e ir:=⟨h,zab h he,sy⟩
theorem pZ (O:dN C gl) (hC:fH C d): ∀ (n:Nat) (cx:CC),zhi C cx.gl->xM cx-> ∀ (e:Expr) (ir:Ex),cG n cx e=some ir->Sd C d cx e ir:=by
 intro n
 induction n with
 |zero=>exact λcx _ _ e ir h=>nos h
 |succ n ih'=>
  intro cx hg hcc e ir;have ih:=ih' cx hg hcc;have ihs: ∀ {es irs},eL (cG n cx) es=some irs->Sds C d cx es irs:=λh=>(hW h).mono ih;cases e with
  |Constant c m pos=>exact bU λv hv e=>e▸ .of (zcP hv) (λ_ _=>rfl) (cC (λ_ _=>rfl) (λ_ _=>rfl) (λ_=>rfl) (λ_ _=>rfl) (λ_ _ _=>rfl))
  |Name x pos=>exact λh=> .of (x8 hg h) (λ_ _=>rfl) (cC (λ_ _=>rfl) (λ_ _=>rfl) (λ_=>rfl) (λ_ _=>rfl) (λ_ _ _=>rfl))
  |BoolOp op vs pos=>
   exact bU λirs hi e=>e▸ ⟨λY env k mE fr w H s p=>zif (pos:=pos) (ihs hi) Y env k mE fr w H s p,λY env k mE fr w H s p r e Q E hq=>wpAny_isTrue_BoolOp (zem (ihs hi) Y env k mE fr w H s p r e Q E hq),cC (λ_ _=>rfl) (λ_ _=>rfl) (λ_=>rfl) (λ_ _=>rfl) (λ_ _ _=>rfl)⟩
  |BinOp l op r pos=>
   exact aX λo ho=>aX λa ha=>bU λb hb e=>e▸ .of (zig ho (ih _ _ ha).es (ih _ _ hb).es) (λ_ _=>rfl) (cC (λ_ _=>rfl) (λ_ _=>rfl) (λ_=>rfl) (λ_ _=>rfl) (λ_ _ _=>rfl))
  |UnaryOp op x pos=>
   refine cZ λho=>bU λa ha e=>e▸?_;cases op with
   |Not=>exact ⟨zh7 (ih _ _ ha).es,zek (ih _ _ ha).ts,cC (λ_ _=>rfl) (λ_ _=>rfl) (λ_=>rfl) (λ_ _=>rfl) (λ_ _ _=>rfl)⟩
   |_=>cases ho
  |IfExp t x y pos=>
   exact aX λa ha=>aX λb hb=>bU λc hc e=>e▸ ⟨zic (ih _ _ ha).ts (ih _ _ hb).es (ih _ _ hc).es,zel (ih _ _ ha).ts (ih _ _ hb).ts (ih _ _ hc).ts,cC (λ_ _=>rfl) (λ_ _=>rfl) (λ_=>rfl) (λ_ _=>rfl) (λ_ _ _=>rfl)⟩
  |List es pos=>exact cZ λhl=>bU λirs hi e=>e▸ .of (zeN (ihs hi) hl) (λ_ _=>rfl) (cC (λ_ _=>rfl) (λ_ _=>rfl) (λ_=>rfl) (λ_ _=>rfl) (λ_ _ _=>rfl))
  |Tuple es m pos=>exact cZ λhl=>bU λirs hi e=>e▸ .of (zcI (ihs hi) hl) (λ_ _=>rfl) (cC (λ_ _=>rfl) (λ_ _=>rfl) (λ_=>rfl) (λ_ _=>rfl) (λ_ _ _=>rfl))
  |Compare l ops cs pos=>
   intro h;obtain ⟨o,rfl,h⟩:=qV h;obtain ⟨r,rfl,h⟩:=qV h
   revert h
   exact aX λa ha=>bU λb hb e=>e▸ ⟨yE O.cfg (ih _ _ ha).es (ih _ _ hb),vH O.cfg (ih _ _ ha).es (ih _ _ hb),cC (λ_ _=>rfl) (λ_ _=>rfl) (λ_=>rfl) (λ_ _=>rfl) (λ_ _ _=>rfl)⟩
  |Call f as ks pos=>
   refine cZ λhk=>aX λirs hi h=>?_;have hk:=Qb.mp hk;cases ks with
   |cons _ _=>cases hk.1
   |nil=>
    refine .of ?_ (λ_ _=>rfl) (cC (λ_ _=>rfl) (λ_ _=>rfl) (λ_=>rfl) (λ_ _=>rfl) (λ_ _ _=>rfl))
    revert h
    refine cA (aX λp hp=>bU λg hgn e=>?_) (aX λp hp=>cZ λhc=>bU λg hgn e=>?_)
    ·rw [<-e,gY hp]
     exact vQ O hC (ihs hi) (x8 hg hgn)
    ·have hc:=Qb.mp hc
     rw [<-e,sP hp];exact vS O hC (ihs hi) (QW.mp hk.2) (ih _ _ hgn).es (Qb.mp hc.1).1 (Qb.mp hc.1).2 hc.2
  |Attribute v nm pos=>
   exact cZ λhc=>bU λa ha e=>e▸ .of (zeT O (ih _ _ ha).es (Qb.mp hc).1 (Qb.mp hc).2) (λ_ _=>rfl) (cC (λ_ _=>rfl) (λ_ _=>rfl) (λ_=>rfl) (λ_ _=>rfl) (λ_ _ _=>rfl))
  |Subscript v sl pos=>
   intro h;refine .of ?_ (λ_ _=>rfl) (cC (λ_ _=>rfl) (λ_ _=>rfl) (λ_=>rfl) (λ_ _=>rfl) (λ_ _ _=>rfl));have h:Qr (motive:=λ_=>Option Ex) (nI sl) ((cG n cx v).bind λe=>(cG n cx sl).map λi=> .sub e i) (λp=>grd ((gM v).isSome && p.2.2.1.isNone) ((cG n cx v).bind λe=>(w7 (cG n cx) p.1 p.2.1).map λq=> .slice e q.1 q.2))=some ir:=h;cases hs:nI sl with
   |none=>
    rw [hs] at h
    revert h
    exact aX λa ha=>bU λb hb e=>e▸zh6 (ih _ _ ha).es (ih _ _ hb)
   |some p=>
    rw [hs] at h
    revert h
    refine cZ λhc=>aX λa ha=>bU λq hq e=>?_;rw [<-e,zdP hs,JR.mp (Qb.mp hc).2];exact zcK (Qb.mp hc).1 (ih _ _ ha).es ih hq
  |Dict ks vs pos=>
   refine cZ λhl=>aX λia ha=>bU λib hb e=>e▸?_;exact .of (zeR ((hW ha).mono λo i h=>(bs h).elim λe h=>⟨e,h.1,ih _ _ h.2⟩) (ihs hb) (beq_iff_eq.mp hl)) (λ_ _=>rfl) (cC (λ_ _=>rfl) (λ_ _=>rfl) (λ_=>rfl) (λ_ _=>rfl) (λ_ _ _=>rfl))
  |ListComp elt gens sc pos=>
   intro h;obtain ⟨g,rfl,h⟩:=qV h
   revert h
   refine aX λq hq=>cZ λhc=>aX λii hi=>aX λiifs hf=>bU λie he e=>e▸?_;have hc:=Qb.mp hc;have P:CpO C d cx g sc elt q ie ii iifs:=⟨beq_iff_eq.mp hc.1,hq,zbI hc.2,ih _ _ hi,(ih' (inComp cx sc q.1) hg (hcc.inComp sc q.1)) _ _ he,(hW hf).mono (ih' (inComp cx sc q.1) hg (hcc.inComp sc q.1))⟩;refine .of (λY env k mE fr w H s p r ev Q E hQ=>?_) (λ_ _=>rfl) ⟨λ_ _=>rfl,λ_ _=>rfl,λ_=>rfl,λ_ _=>rfl,λq=>nomatch q⟩;obtain ⟨t,it,ifs,a⟩:=g;have ha:a=0:=beq_iff_eq.mp hc.1;subst ha;rw [eval_ListComp];refine zb9 P hcc p ev λw' D N oN mN s' le S' hns r' sm=>?_;refine Ji hns λes zq1=>zq1.elim λep zq2=>?_;exact ⟨mN,⟨oN,es,ep,S'.exHead.1,zq2⟩,λh' hs=>hQ w' _ {s' with heap:=h'} ⟨le,S'.endEx hs.extBut,sm.1,sm.2⟩ r'⟩
  |_=>exact λh=>nos h
end
inductive FlR (C:Cfg) (w:Wd):Fl->Flow->Prop
 |nx:FlR C w .nx .next
 |bk:FlR C w .bk .brk
 |ct:FlR C w .ct .cont
 |rt {v:Val}{rv:Value}:aF C w v rv->FlR C w (.rt v) (.ret rv)
structure zvu (cx:CC) (env:Env) (L:Addr):Prop where
 kind:env.scope.kind= .function
 gl:env.globals=mainGlobals
 bl:env.builtins=builtinsNs
 sc:env.scope.names=cx.sc
 cells: ∀x,cx.sc.lookup x=some .cell-> ∃c,env.cells.lookup x=some c
 cinj: ∀x y c,cx.sc.lookup x=some .cell->cx.sc.lookup y=some .cell->env.cells.lookup x=some c->env.cells.lookup y=some c->x=y
 loc:env.locals=L
 inj: ∀x y i,d4 cx x=some i->d4 cx y=some i->x=y
def zBf (cx:CC) (env:Env) (ce:Led):Prop:= ∀x c,cx.sc.lookup x=some .cell->env.cells.lookup x=some c-> ∃o v₀,(c,o)∈ce/\o.data= .cell v₀
structure PlS {C:Cfg}{d e:Nat} (Y:aY C d e) (cx:CC) (env:Env) (k:Kp) (fr:Frame) (w:Wd) (H:MH) (s:Shared):Prop where
 b:zvu cx env Y.L
 c:zBf cx env k.ce
 f:zvs C w cx env k.ce k.m fr
 st:St Y k w H s
theorem PlS.pl {C:Cfg}{d e:Nat}{Y:aY C d e}{cx:CC}{env:Env}{k:Kp}{fr:Frame}{w:Wd}{H:MH}{s:Shared} (p:PlS Y cx env k fr w H s):Pl Y cx env k k.m fr w H s:=
 ⟨⟨p.b.kind,p.b.gl,p.b.bl,p.b.sc,λx h=>(p.b.cells x h).elim λc hc=>(p.c x c h hc).elim λo h=>h.elim λv₀ h=>⟨c,o,v₀,hc,h.1,h.2⟩,.inl ⟨p.b.loc,rfl⟩⟩,p.f,p.st⟩
theorem PlS.next {C:Cfg}{d e:Nat}{Y:aY C d e}{cx:CC}{env:Env}{k:Kp}{fr:Frame}{w w':Wd}{H H':MH}{s s':Shared} (p:PlS Y cx env k fr w H s) (n:Nxt Y k w w' H' s s'):PlS Y cx env k fr w' H' s':=⟨p.b,p.c,λx i v a b=>(p.f x i v a b).mono n.le,n.st⟩
structure NxS {C:Cfg}{d e:Nat} (Y:aY C d e) (cx:CC) (env:Env) (ex:Led) (w:Wd) (s:Shared) (k':Kp) (fr':Frame) (w':Wd) (H':MH) (s':Shared):Prop where
 ex:k'.ex=ex
 le:w.le w'
 pl:PlS Y cx env k' fr' w' H' s'
 same:gZ s s'
theorem NxS.trans {C:Cfg}{d e:Nat}{Y:aY C d e}{cx:CC}{env:Env}{ex:Led}{w w1 w2:Wd}{s s1 s2:Shared}{k1 k2:Kp}{fr1 fr2:Frame}{H1 H2:MH} (a:NxS Y cx env ex w s k1 fr1 w1 H1 s1) (b:NxS Y cx env k1.ex w1 s1 k2 fr2 w2 H2 s2):NxS Y cx env ex w s k2 fr2 w2 H2 s2:=⟨b.ex.trans a.ex,a.le.trans b.le,b.pl,a.same.trans b.same⟩
theorem PlS.nx {C:Cfg}{d e:Nat}{Y:aY C d e}{cx:CC}{env:Env}{k:Kp}{fr:Frame}{w w':Wd}{H H':MH}{s s':Shared} (p:PlS Y cx env k fr w H s) (n:Nxt Y k w w' H' s s'):NxS Y cx env k.ex w s k fr w' H' s':=⟨rfl,n.le,p.next n,n.same⟩
theorem PlS.rf {C:Cfg}{d e:Nat}{Y:aY C d e}{cx:CC}{env:Env}{k:Kp}{fr:Frame}{w:Wd}{H:MH}{s:Shared} (p:PlS Y cx env k fr w H s):NxS Y cx env k.ex w s k fr w H s:=⟨rfl,.refl w,p,.refl s⟩
def SBr {C:Cfg}{d e:Nat} (Y:aY C d e) (cx:CC) (env:Env) (ex:Led) (t:Sem Flow) (w:Wd) (s:Shared) (r:(Fl×Frame)×MH):Prop:=
 ∀ (Q:Flow->Shared->Prop) (E:Value->Shared->Prop),(∀k' w' f s',NxS Y cx env ex w s k' r.1.2 w' r.2 s'->FlR C w' r.1.1 f->Q f s') ->wpAny C.M Y.A t Q E s
def mC (C:Cfg) (d:Nat) (cx:CC) (st:Stmt) (ir:Sm):Prop:=
 ∀ (Y:aY C d 2) (env:Env) (k:Kp) (fr:Frame) (w:Wd) (H:MH) (s:Shared),PlS Y cx env k fr w H s-> ∀r,exec (C.cx d) ir fr H=some r->SBr Y cx env k.ex (PySem.exec st env) w s r
def lO (C:Cfg) (d:Nat) (cx:CC) (st:List Stmt) (ir:List Sm):Prop:=
 ∀ (Y:aY C d 2) (env:Env) (k:Kp) (fr:Frame) (w:Wd) (H:MH) (s:Shared),PlS Y cx env k fr w H s-> ∀r,execs (C.cx d) ir fr H=some r->SBr Y cx env k.ex (PySem.execs st env) w s r
section
variable {C:Cfg}{d e:Nat}{Y:aY C d e}{k:Kp}{w:Wd}{H:MH}{s:Shared}{cx:CC}{env:Env}{fr:Frame}{gl:List (Str×Val)}
def vA (ce:Led) (c:Addr) (o:Obj):Led:=ce.map λp=>if p.1=c then (c,o) else p
theorem zdL (ce:Led) (c:Addr) (o:Obj):(vA ce c o).map (·.1)=ce.map (·.1):=by
 unfold vA;rw [JY]
 apply Ja
 intro p _;show (if p.1=c then (c,o) else p).1=p.1;split
 ·rename_i h;exact h.symm
 ·rfl
theorem Sta.setCe {h₀:Heap}{L:Addr}{h h':Heap}{c:Addr}{o o':Obj} (S:Sta C h₀ L k w H h) (hc:(c,o)∈k.ce) (hs:Heap.SameBut c h h') (ho:h'.get? c=some o'):Sta C h₀ L {k with ce:=vA k.ce c o'} w H h':=by
 obtain ⟨os,he,hn,hd⟩:=S.os;have g:=hn (c,o) (QG _ (QG _ (Jr _ hc)));have hp: ∀ce:Led,({k with ce:=ce}:Kp).all w os|>.Perm (ce++(os.flatten++(w.tp++k.ex))):=λce=>
  (List.Perm.append_left os.flatten (J5 w.tp ce k.ex)).trans (J5 os.flatten ce (w.tp++k.ex))
 have hd1:=Led.nd.perm (hp k.ce) hd;unfold Led.nd at hd1;have hd2:=hd1;rw [Qy,Zg] at hd2;refine ⟨Fr.sameBut S.fr hs g.2,⟨os,he,λp hpm=>?_,Led.nd.perm (hp _).symm ?_⟩,S.big,S.lo⟩
 ·rcases QU.mp ((hp _).mem_iff.mp hpm) with hpm|hpm
  ·refine (QF.mp hpm).elim λq zq14=>?_
   have e:=zq14.2;by_cases hqc:q.1=c
   ·rw [if_pos hqc] at e
    rw [<-e];exact ⟨ho,g.2⟩
   ·rw [if_neg hqc] at e
    rw [<-e]
    have:=hn q (QG _ (QG _ (Jr _ zq14.1)))
    exact ⟨(hs.2 q.1 hqc).trans this.1,this.2⟩
  ·have:=hn p ((hp k.ce).mem_iff.mpr (QG _ hpm))
   exact ⟨(hs.2 p.1 λe=>hd2.2.2 c (QF.mpr ⟨_,hc,rfl⟩) p.1 (QF.mpr ⟨_,hpm,rfl⟩) e.symm).trans this.1,this.2⟩
 ·unfold Led.nd
  rw [Qy,zdL,<-Qy];exact hd1
theorem g9 (p:PlS Y cx env k fr w H s) {x:Str}{i:Nat}{v:Val}{rv:Value} (hi:d4 cx x=some i) (r:aF C w v rv) {A':Around}{Q:Unit->Shared->Prop}{E:Value->Shared->Prop}
  (h: ∀k' s',NxS Y cx env k.ex w s k' (fr.set i (some v)) w H s'->Q () s'):wpAny C.M A' (storeName env x rv) Q E s:=by
 have other: ∀ {y j},d4 cx y=some j->i≠j->y≠x:=λhj hij e=>hij (by rw [e,hi] at hj;exact Qx.inj hj);rcases (pN hi).1 with hk|hk
 ·refine wpAny_storeName_local (p.pl.b.kindOf hk) (by rw [p.b.loc];exact p.st.fr.ns) (λh' hn hs=>?_) (by rw [p.b.kind];rfl)
  rw [p.b.loc] at hn hs;obtain ⟨os,he,hnn,hd⟩:=p.st.os;refine h {k with m:=λy=>if y=x then some rv else k.m y} _ ⟨rfl,.refl w,⟨p.b,p.c,λy j u hj hu=>?_,⟨p.st.fr.set hn hs,⟨os,he,hnn.set hs,hd⟩,p.st.big,p.st.lo⟩⟩,rfl,rfl⟩;rcases zeV hu with ⟨rfl,rfl⟩| ⟨hij,hu'⟩
  ·cases p.b.inj y x _ hj hi
   exact .loc rv hk (if_pos rfl) r
  ·cases p.f y j u hj hu' with
   |loc rv' h1 h2 h3=>exact .loc rv' h1 ((if_neg (other hj hij)).trans h2) h3
   |cell rv' c o h1 h2 h3 h4 h5=>exact .cell rv' c o h1 h2 h3 h4 h5
 ·refine (p.b.cells x hk).elim λc zq13=>?_
  have hc:=zq13;refine (p.c x c hk hc).elim λo zq11=>zq11.elim λv₀ zq12=>?_;refine wpAny_storeName_cell p.b.kind (p.pl.b.kindOf hk) hc ⟨o,p.st.ceAt zq12.1,zq12.2⟩ λh' hv hs=>?_;refine Ji hv λo' zq10=>?_;have g2:=zq10.2;have hmem: ∀ {y cy oy},cx.sc.lookup y=some .cell->env.cells.lookup y=some cy->(cy,oy)∈k.ce->y≠x->(cy,oy)∈vA k.ce c o':=λ{y cy oy} hy hcy hm hyx=>
   QF.mpr ⟨(cy,oy),hm,if_neg λe=>hyx (p.b.cinj y x c hy hk (by rw [hcy];exact congrArg some e) hc)⟩
  have hself:(c,o')∈vA k.ce c o':=QF.mpr ⟨(c,o),zq12.1,if_pos rfl⟩;refine h {k with ce:=vA k.ce c o'} _ ⟨rfl,.refl w,⟨p.b,λy cy hy hcy=>?_,λy j u hj hu=>?_,p.st.setCe zq12.1 hs zq10.1⟩,rfl,rfl⟩
  ·by_cases hyx:y=x
   ·subst hyx
    rw [hc] at hcy;cases hcy;exact ⟨o',some rv,hself,g2⟩
   ·refine (p.c y cy hy hcy).elim λoy zq8=>zq8.elim λvy zq9=>?_
    exact ⟨oy,vy,hmem hy hcy zq9.1 hyx,zq9.2⟩
  ·rcases zeV hu with ⟨rfl,rfl⟩| ⟨hij,hu'⟩
   ·cases p.b.inj y x _ hj hi
    exact .cell rv c o' hk hc hself g2 r
   ·cases p.f y j u hj hu' with
    |loc rv' h1 h2 h3=>exact .loc rv' h1 h2 h3
    |cell rv' cy oy h1 h2 h3 h4 h5=>exact .cell rv' cy oy h1 h2 (hmem h1 h2 h3 (other hj hij)) h4 h5
theorem zeI:lO C d cx [] []:=λY env k fr w H s p r e=>by
 cases e;exact λQ E hq=>wpAny_execs_nil (hq k w .next s p.rf .nx)
theorem zcG {st:Stmt}{r:List Stmt}{i:Sm}{is:List Sm} (h1:mC C d cx st i) (h2:lO C d cx r is):lO C d cx (st::r) (i::is):=by
 intro Y env k fr w H s p r;refine aG λq H1 e1 e Q E hq=>wpAny_execs_cons (h1 Y env k fr w H s p _ e1 _ _ λk1 w1 f s1 n1 r1=>?_);obtain ⟨fl,fr1⟩:=q;cases r1 with
 |nx=>exact h2 Y env k1 fr1 w1 H1 s1 n1.pl _ e _ _ λk2 w2 f2 s2 n2 r2=>hq k2 w2 f2 s2 (n1.trans n2) r2
 |bk=>cases e;exact hq k1 w1 .brk s1 n1 .bk
 |ct=>cases e;exact hq k1 w1 .cont s1 n1 .ct
 |rt h=>cases e;exact hq k1 w1 _ s1 n1 (.rt h)
theorem zeK (hcc:xM cx) {x:Str}{xp pos:Pos}{v:Expr}{i:Nat}{iv:Ex} (hi:d4 cx x=some i) (hv:Sd C d cx v iv) (hL: ∀ {elt gens sc cp},v= .ListComp elt gens sc cp-> ∃g q ie ii iifs,gens= [g]/\CpO C d cx g sc elt q ie ii iifs/\iv= .comp ie (QO cx.next q.1.length) q.2 ii iifs):mC C d cx (.Assign [.Name x xp] v pos) (.asg (.nm i) iv):=by
 intro Y env k fr w H s p r;show bnd (eval (C.cx d) iv fr H) (λv h1=>bnd (qH (C.cx d) fr h1 v (.nm i)) λfr' h2=>some ((.nx,fr'),h2))=some r->_;refine aG λu H1 e1 e=>?_;cases e;intro Q E hq;have plain:swapsWith v (some (.Name x xp)) pos.line env=pure false->wpAny C.M Y.A (PySem.exec (.Assign [.Name x xp] v pos) env) Q E s:=λhsw=>
  wpAny_Assign_Name (hv.es Y env k k.m fr w H s p.pl _ e1 _ _ λw1 a1 s1 n1 r1=>g9 (p.next n1) hi r1 λk' s' n2=>hq k' w1 .next s' ((p.nx n1).trans n2) .nx) hsw
 cases hc:gI v with
 |false=>exact plain (hv.sy.swap hc _ _ _)
 |true=>
  clear hv
  cases v with
  |ListComp elt gens sc cpos=>
   obtain ⟨b,hb⟩: ∃b,swapsWith (.ListComp elt gens sc cpos) (some (.Name x xp)) pos.line env=pure b:=⟨_,rfl⟩;cases b with
   |false=>exact plain hb
   |true=>
    obtain ⟨g,q,ie,ii,iifs,rfl,P,rfl⟩:=hL rfl;obtain ⟨t,it,ifs,a⟩:=g;cases P.as;rw [exec_Assign_Name_used _ _ _ _ hb];refine wpAny_bind (wpAny_standAt (wpAny_bind ?_));show wpAny _ Y.A (do let _<-comprehension (.ListComp elt [⟨t,it,ifs,0⟩] sc cpos) sc env _ (newList []) false (PySem.eval it env) (some (assign (.Name x xp) env))) _ _ s;refine wpAny_bind (wpAny_mono (zb9 (use:=some (assign (.Name x xp) env)) (Q:=λ_ s'=>Q .next s') P hcc p.pl e1 λw1 D N oN mN s1 le S1 hns r1 sm1=>?_) (λ_ s' hq=>wpAny_pure (wpAny_pure hq)) λ_ _ e=>e);show wpAny C.M Y.A (assign (.Name x xp) env (.ref D)) _ _ s1;refine PySem.wpAny_assign_Name (g9 (⟨p.b,p.c,λx i v a b=>(p.f x i v a b).mono le,S1⟩:PlS Y cx env (k.ext (N,oN)) fr w1 H1 s1) hi r1 λk' s' n2=>?_);refine Ji hns λes zq1=>zq1.elim λep zq2=>?_;obtain ⟨ce',ex',m'⟩:=k';cases n2.ex;exact ⟨mN,⟨oN,es,ep,Sta.exHead (k:=⟨ce',k.ex,m'⟩) n2.pl.st|>.1,zq2⟩,λh'' hs=>hq ⟨ce',k.ex,m'⟩ w1 .next {s' with heap:=h''} ⟨rfl,le,⟨n2.pl.b,n2.pl.c,n2.pl.f,Sta.endEx (k:=⟨ce',k.ex,m'⟩) n2.pl.st hs.extBut⟩,(sm1.trans n2.same).1,(sm1.trans n2.same).2⟩ .nx⟩
  |_=>cases hc
theorem zeH {v:Expr}{pos:Pos}{iv:Ex} (hv:dA C d cx v iv):mC C d cx (.Return (some v) pos) (.ret iv):=by
 intro Y env k fr w H s p r;show bnd (eval (C.cx d) iv fr H) (λv h1=>some ((.rt v,fr),h1))=some r->_;refine aG λu H1 e1 e=>?_;cases e;exact λQ E hq=>wpAny_Return_some (hv Y env k k.m fr w H s p.pl _ e1 _ _ λw1 a1 s1 n1 r1=>hq k w1 _ s1 (p.nx n1) (.rt r1))
theorem zcE {pos:Pos}:mC C d cx (.Return none pos) (.ret (.lit .none)):=by
 intro Y env k fr w H s p r e;cases e;exact λQ E hq=>wpAny_Return_none (hq k w _ s p.rf (.rt rfl))
theorem zh3 {t:Expr}{x y:List Stmt}{pos:Pos}{it:Ex}{ix iy:List Sm} (ht:pM C d cx t it) (hx:lO C d cx x ix) (hy:lO C d cx y iy):mC C d cx (.If t x y pos) (.ite it ix iy):=by
 intro Y env k fr w H s p r;show bnd (b6 (eval (C.cx d) it fr H)) (λr h1=>bif r then execs (C.cx d) ix fr h1 else execs (C.cx d) iy fr h1)=some r->_;refine aG λb H1 e1 e Q E hq=>wpAny_If (ht Y env k k.m fr w H s p.pl _ e1 _ _ λw1 a1 s1 n1 r1=>?_);rw [show a1=b from r1];cases b with
 |true=>exact hx Y env k fr w1 H1 s1 (p.next n1) _ e _ _ λk2 w2 f2 s2 n2 r2=>hq k2 w2 f2 s2 ((p.nx n1).trans n2) r2
 |false=>exact hy Y env k fr w1 H1 s1 (p.next n1) _ e _ _ λk2 w2 f2 s2 n2 r2=>hq k2 w2 f2 s2 ((p.nx n1).trans n2) r2
inductive zvr {C:Cfg}{d e:Nat} (Y:aY C d e) (cx:CC) (env:Env) (ex:Led) (w0:Wd) (s0:Shared) (F:Frame->MH->SR) (r:(Fl×Frame)×MH) (s:Shared):Prop
 |mk (k:Kp) (fr:Frame) (w:Wd) (H:MH) (n:NxS Y cx env ex w0 s0 k fr w H s) (lp:F fr H=some r):zvr Y cx env ex w0 s0 F r s
theorem zag {t:Expr}{b:List Stmt}{pos:Pos}{it:Ex}{ib:List Sm} (ht:pM C d cx t it) (hb:lO C d cx b ib):mC C d cx (.While t b [] pos) (.wh it ib):=by
 intro Y env k fr w H s p r ev Q E hq;refine wpAny_While (codeAny_whileLoop (λn s'=>zvr Y cx env k.ex w s (oU (λfr h=>b6 (eval (C.cx d) it fr h)) (λfr h=>execs (C.cx d) ib fr h) n) r s') ?_ (C.cx d).fuel ⟨k,fr,w,H,p.rf,ev⟩)
 rintro n s' ⟨k1,fr1,w1,H1,n1,lp⟩
 cases n with
 |zero=>exact nos lp
 |succ n=>
  revert lp
  refine aG λc H2 e2 lp=>ht Y env k1 k1.m fr1 w1 H1 s' n1.pl.pl _ e2 _ _ λw2 a2 s2 n2 r2=>?_;rw [show a2=c from r2];have n2':=n1.trans (n1.pl.nx n2);cases c with
  |false=>
   cases lp;rw [if_neg Zn];exact wpAny_execs_nil (hq k1 w2 .next s2 n2' .nx)
  |true=>
   rw [if_pos rfl]
   revert lp
   show bnd (execs (C.cx d) ib fr1 H2) (λp h2=>Fl.casesOn (motive:=λ_=>SR) p.1 (oU (λfr h=>b6 (eval (C.cx d) it fr h)) (λfr h=>execs (C.cx d) ib fr h) n p.2 h2) (some ((.nx,p.2),h2)) (oU (λfr h=>b6 (eval (C.cx d) it fr h)) (λfr h=>execs (C.cx d) ib fr h) n p.2 h2) (λv=>some ((.rt v,p.2),h2)))=some r->_;refine aG λq H3 e3 lp=>hb Y env k1 fr1 w2 H2 s2 n2'.pl _ e3 _ _ λk3 w3 f3 s3 n3 r3=>?_;have n3':=n2'.trans n3;obtain ⟨fl,fr3⟩:=q;cases r3 with
   |nx=>exact ⟨n,QD n,k3,fr3,w3,H3,n3',lp⟩
   |ct=>exact ⟨n,QD n,k3,fr3,w3,H3,n3',lp⟩
   |bk=>cases lp;exact hq k3 w3 .next s3 n3' .nx
   |rt h=>cases lp;exact hq k3 w3 _ s3 n3' (.rt h)
end
theorem zcW {i:Nat}{v:Val}: ∀ (is:List Nat) (vs:List Val) (fr:Frame),i∉is->(lR is vs fr).set i (some v)=lR is vs (fr.set i (some v)):=by
 intro is
 induction is with
 |nil=>exact λvs fr _=>rfl
 |cons j is ih=>
  intro vs fr h;cases vs with
  |nil=>rfl
  |cons u vs=>
   show (lR is vs (fr.set j (some u))).set i (some v)=lR is vs ((fr.set i (some v)).set j (some u));rw [ih vs _ λq=>h (.tail _ q),List.set_comm _ _ λq:j=i=>h (q▸ .head _)]
theorem ze7: ∀ (is:List Nat) (vs:List Val) (i:Nat) (v:Val) (fr:Frame),is.length=vs.length->lR (is++ [i]) (vs++ [v]) fr=(lR is vs fr).set i (some v):=by
 intro is
 induction is with
 |nil=>intro vs i v fr h;cases JB.mp h.symm;rfl
 |cons j is ih=>
  intro vs i v fr h;cases vs with
  |nil=>cases h
  |cons u vs=>exact ih vs i v _ (JZ.inj h)
theorem ze6: ∀ (is:List Nat) (vs:List Val) (fr:Frame),is.Nodup->is.length=vs.length->lR is.reverse vs.reverse fr=lR is vs fr:=by
 intro is
 induction is with
 |nil=>intro vs fr _ h;cases JB.mp h.symm;rfl
 |cons i is ih=>
  intro vs fr hd h;cases vs with
  |nil=>cases h
  |cons v vs=>
   rw [Zh,Zh,ze7 _ _ _ _ _ (by rw [Jx,Jx];exact JZ.inj h),ih vs fr (Qw.mp hd).2 (JZ.inj h),zcW is vs fr (Qw.mp hd).1];rfl
section
variable {C:Cfg}{d e:Nat}{Y:aY C d e}{k:Kp}{w:Wd}{H:MH}{s:Shared}{cx:CC}{env:Env}{fr:Frame}{gl:List (Str×Val)}
theorem aD.reverse: ∀ {ms:List Val}{vs:List Value},aD C w ms vs->aD C w ms.reverse vs.reverse:=by
 intro ms
 induction ms with
 |nil=>intro vs h;cases h;exact .nil
 |cons m ms ih=>intro vs h;obtain ⟨v,r,rfl,h,h'⟩:=h;rw [Zh,Zh];exact aD.append (.one h) (ih h')
theorem cL.reverse {α β:Type}{R:α->β->Prop}{as:List α}{bs:List β} (h:cL R as bs):cL R as.reverse bs.reverse:=by
 have app: ∀ {as:List α}{bs:List β}{a b},cL R as bs->R a b->cL R (as++ [a]) (bs++ [b]):=λh hab=>by
  induction h with
  |nil=>exact .cons hab .nil
  |cons x _ ih=>exact .cons x ih
 induction h with
 |nil=>exact .nil
 |cons x _ ih=>rw [Zh,Zh];exact app ih x
abbrev jH (cx:CC) (x:Str) (i:Nat):Prop:=d4 cx x=some i
theorem nR: ∀ {xs:List Str}{is:List Nat}{fs:List (Value->Sem Unit)},cL (jH cx) xs is->cL (wI env) xs fs-> ∀ {mvs:List Val}{vs:List Value}{k:Kp}{fr:Frame}{s:Shared}{Q:Unit->Shared->Prop}{E:Value->Shared->Prop},
  aD C w mvs vs->mvs.length=is.length->PlS Y cx env k fr w H s->(∀k' s',NxS Y cx env k.ex w s k' (lR is mvs fr) w H s'->Q () s') ->wpAny C.M Y.A (assignInOrder fs vs) Q E s:=by
 intro xs is fs hi
 induction hi generalizing fs with
 |nil=>
  intro hf mvs vs k fr s Q E r hl p h;cases hf;cases JB.mp hl;cases r;exact wpAny_pure (h k s p.rf)
 |cons hi _ ih=>
  intro hf mvs vs k fr s Q E r hl p h;cases hf with
  |cons hf hfs=>
   cases mvs with
   |nil=>cases hl
   |cons mv mvs=>
    obtain ⟨v,t,rfl,hv,r⟩:=r;show wpAny C.M Y.A (do holding _ _;assignInOrder _ _) Q E s;exact wpAny_bind (wpAny_holding (hf _ _ _ _ _ _ (g9 p hi hv λk1 s1 n1=>ih hfs r (JZ.inj hl) n1.pl λk2 s2 n2=>h k2 s2 (n1.trans n2))))
theorem zbe: ∀ (xs:List Str),cL (wI env) xs (xs.map λn=>bindName env n):=by
 intro xs
 induction xs with
 |nil=>exact .nil
 |cons x xs ih=>exact .cons (λ_ _ _ _ _ _ z=>wpAny_bindName z) ih
theorem zbG {xs:List Str}{is:List Nat} (h:eL (vT cx) xs=some is):cL (jH cx) xs is:=(hW h).mono λ_ _ h=>(gs h).2
theorem zeU (B:zvu cx env Y.L) {xs:List Str}{is:List Nat} (h:cL (jH cx) xs is):xs.Nodup->is.Nodup:=by
 have mem: ∀ {xs:List Str}{is:List Nat},cL (jH cx) xs is-> ∀i∈is,∃y∈xs,d4 cx y=some i:=λh=>by
  induction h with
  |nil=>exact λi hi=>absurd hi Qq
  | @cons x j _ _ h _ ih=>
   intro i hi;rcases QE.mp hi with rfl|hi
   ·exact ⟨x,.head _,h⟩
   ·obtain ⟨y,hy,e⟩:=ih i hi;exact ⟨y,.tail _ hy,e⟩
 induction h with
 |nil=>exact λ_=> .nil
 | @cons x i xs is h1 h2 ih=>
  intro hd;have hd:=Qw.mp hd;refine Qw.mpr ⟨λhi=>?_,ih hd.2⟩;refine (mem h2 i hi).elim λy zq13=>?_;exact hd.1 (B.inj x y i h1 zq13.2▸zq13.1)
theorem yQ (F:Expr->Option Str) (kk:Str->Pos->Bool) (hF: ∀i p,F (.Name i p)=if kk i p then some i else none) {es:List Expr}{xs:List Str} (h:cL (λe x=>hP e=some x) es xs):(es.filterMap F).length=es.length->es.filterMap F=xs:=by
 induction h with
 |nil=>exact λ_=>rfl
 | @cons e x es xs h _ ih=>
  intro hl;obtain ⟨p,hp,rfl⟩:=ms h;cases gY hp;rw [Zk,hF] at hl ⊢;cases hk:kk p.1 p.2 with
  |true=>
   rw [hk] at hl;exact congrArg (Z0 _) (ih (JZ.inj hl))
  |false=>
   rw [hk] at hl;exact absurd (Yg F es) (Xz.mpr (Kd (QD _) hl.symm))
theorem wG {α:Type}{c:Prop} [Decidable c] {a b x y:Sem α} (ha:a=x) (hb: ¬c->b=x\/b=y):(if c then a else b)=x\/(if c then a else b)=y:=by
 by_cases h:c
 ·rw [if_pos h];exact .inl ha
 ·rw [if_neg h];exact hb h
theorem zaZ {α:Type}{c:Prop} [Decidable c] {a b x:Sem α} (ha:a=x) (hb: ¬c->b=x):(if c then a else b)=x:=by
 by_cases h:c
 ·rw [if_pos h];exact ha
 ·rw [if_neg h];exact hb h
theorem ne2 {a b c d:Nat} (h: ¬((a !=b||c !=d)=true)):a=b:=by
 rw [KI,bne_iff_ne] at h;exact Decidable.not_not.mp λq=>h (.inl q)
theorem uK {es:List Expr}{n:Nat}{tpos:Pos}{v:Expr} (h:lN v=none):swappedStores [.Tuple es n tpos] v env=pure none:=by cases v<;>first|rfl|cases h
theorem zlf {es:List Expr}{n:Nat}{tpos:Pos}{v:Expr}{xs:List Str} (hok:uH v=true) (hn:cL (λe x=>hP e=some x) es xs):
  swappedStores [.Tuple es n tpos] v env=pure none\/swappedStores [.Tuple es n tpos] v env=pure (some xs):=by
 cases ht:lN v with
 |none=>exact .inl (uK ht)
 |some p=>
  cases pY ht;have hok:(!p.1.all (constantsAlone 8))=true:=(Qb.mp hok).2;have hok:p.1.all (constantsAlone 8)=false:=by
   cases hq:p.1.all (constantsAlone 8) with
   |false=>rfl
   |true=>rw [hq] at hok;cases hok
  refine wG rfl λ_=>wG rfl λ_=>wG rfl λh3=>wG rfl λ_=> .inr ?_;rw [hok];exact congrArg (λz=>(pure (some z):Sem (Option (List Str)))) (yQ _ (λid pos=>env.kindOf id==some .local && pos.line==((es.head?.map (·.pos.line)).getD 0)) (λi p=>rfl) hn (ne2 h3))
theorem zcA {c:Cx}{h:MH}: ∀ {is:List Nat}{mvs:List Val}{fr:Frame}{r:Frame×MH},fM c (is.map T1.nm) mvs fr h=some r->mvs.length=is.length/\r=(lR is mvs fr,h):=by
 intro is
 induction is with
 |nil=>
  intro mvs fr r e;obtain ⟨h1,e⟩:=gs e;cases e;cases mvs with
  |nil=>exact ⟨rfl,rfl⟩
  |cons _ _=>cases h1
 |cons i is ih=>
  intro mvs fr r e;cases mvs with
  |nil=>exact nos e
  |cons v mvs=>
   have zq10:=ih (show fM c (is.map T1.nm) mvs (fr.set i (some v)) h=some r from e);exact ⟨congrArg (· +1) zq10.1,zq10.2⟩
theorem rD {v:Val}{rv:Value}{mvs:List Val} (S:St Y k w H s) (hv:aF C w v rv) (hi:items H v=some mvs) {Q:List Value->Shared->Prop}{E:Value->Shared->Prop}
  (h: ∀vs h',aD C w mvs vs->Sta C Y.h₀ Y.L k w H h'->Q vs {s with heap:=h'}):wpAny C.M Y.A (unpackItems rv mvs.length none) Q E s:=by
 revert hi
 refine cA (λe=>?_) (λe=>?_)
 ·cases tup?_s e
  obtain ⟨t,o,n,ws,rfl,ho,hc,hdt,rr,_⟩:=S.tup hv;rw [rr.length,<-Je];exact unpackItems_tuple (items:=ws.toArray) Y.handled ⟨o,ho,hc,n,hdt⟩ λh' he=>h ws h' rr (S.grown he)
 ·obtain ⟨t,ws,n,rfl,ho,rr,_⟩:=S.list hv e
  rw [rr.length,<-Je];exact kun_itemsOf Y.handled ⟨_,ho,rfl,n,rfl⟩ λh' he=>h ws h' rr (S.grown he)
theorem qE {v:Expr}{i:Ex} (hv:Sd C d cx v i) (hok:uH v=true) {t:Expr}{n:Nat}:swapsWith v (some t) n env=pure false:=hv.sy.swap (by have:=(Qb.mp hok).1;cases hq:gI v;rfl;rw [hq] at this;cases this) _ _ _
theorem zcH {es:List Expr}{n:Nat}{tpos pos:Pos}{v:Expr}{xs:List Str}{is:List Nat}{iv:Ex} (hok:uH v=true) (hn:cL (λe x=>hP e=some x) es xs) (hnd:xs.Nodup) (hs:cL (jH cx) xs is) (hv:Sd C d cx v iv):
  mC C d cx (.Assign [.Tuple es n tpos] v pos) (.asgs (is.map T1.nm) iv):=by
 intro Y env k fr w H s p r;show bnd (eval (C.cx d) iv fr H) (λv h1=>(items h1 v).bind λvs=>bnd (fM (C.cx d) (is.map T1.nm) vs fr h1) λfr' h2=>some ((.nx,fr'),h2))=some r->_;refine aG λu H1 e1=>aX λmvs hm=>aG λfr' H2 e2 e=>?_;obtain ⟨hl,e3⟩:=zcA e2;cases e3;cases e;have hl':mvs.length=xs.length:=hl.trans hs.length;intro Q E hq;rcases zlf (env:=env) (tpos:=tpos) (n:=n) hok hn with hw|hw
 ·have zq6:=oH (env:=env) hn
  refine Assign_Tuple (hv.es Y env k k.m fr w H s p.pl _ e1 _ _ λw1 a1 s1 n1 r1=>?_) (by unfold swapsWithSole;exact qE hv hok) hw;rw [assign_Tuple];refine wpAny_bind (wpAny_standAt ?_);unfold unpack;rw [zq6.2.1,zq6.2.2,<-hl'];exact wpAny_bind (wpAny_holding (rD n1.st r1 hm λvs h' rr S'=>nR hs zq6.1 rr hl (⟨p.b,p.c,(p.next n1).f,S'⟩:PlS Y cx env k fr w1 H1 {s1 with heap:=h'}) λk2 s2 n2=>hq k2 w1 .next s2 ⟨n2.ex,n1.le.trans n2.le,n2.pl,n1.same.trans ⟨n2.same.1,n2.same.2⟩⟩ .nx))
 ·refine Assign_Tuple_swapped (names:=xs) (hv.es Y env k k.m fr w H s p.pl _ e1 _ _ λw1 a1 s1 n1 r1=>?_) (by unfold swapsWithSole;exact qE hv hok) hw
  rw [<-hl'];refine rD n1.st r1 hm λvs h' rr S'=>nR hs.reverse (zbe xs.reverse) rr.reverse (by rw [Jx,Jx];exact hl) (⟨p.b,p.c,(p.next n1).f,S'⟩:PlS Y cx env k fr w1 H1 {s1 with heap:=h'}) λk2 s2 n2=>?_;rw [ze6 is mvs fr (zeU p.b hs hnd) hl.symm] at n2;exact hq k2 w1 .next s2 ⟨n2.ex,n1.le.trans n2.le,n2.pl,n1.same.trans ⟨n2.same.1,n2.same.2⟩⟩ .nx
abbrev zi6 (C:Cfg) (d:Nat) (cx:CC) (e:Expr) (q:Ex×Nat):Prop:= ∃o nm pos,e= .Attribute o nm pos/\aI nm=true/\q.2=enc nm/\Sd C d cx o q.1
theorem zc3 {F:Expr->Option Str}{es:List Expr}{ts:List (Ex×Nat)} (h4:(es.filterMap F).length=es.length) (hF: ∀o nm pos,F (.Attribute o nm pos)=none) (h:cL (zi6 C d cx) es ts) (he:es.isEmpty=false):False:=by
 have e:es.filterMap F= []:=by
  clear h4 he
  induction h with
  |nil=>rfl
  |cons h _ ih=>obtain ⟨o,nm,pos,rfl,_⟩:=h;rw [Zk,hF];exact ih
 rw [e] at h4;cases es with
 |nil=>cases he
 |cons _ _=>cases h4
theorem zlg {es:List Expr}{ts:List (Ex×Nat)}{n:Nat}{tpos:Pos}{v:Expr} (he:es.isEmpty=false) (ht:cL (zi6 C d cx) es ts):swappedStores [.Tuple es n tpos] v env=pure none:=by
 cases hv:lN v with
 |none=>exact uK hv
 |some p=>
  cases pY hv;refine zaZ rfl λ_=>zaZ rfl λ_=>zaZ rfl λh3=>(zc3 (ne2 h3) (λ_ _ _=>rfl) ht he).elim
theorem zcB (O:dN C gl) {es:List Expr}{ts:List (Ex×Nat)} (ht:cL (zi6 C d cx) es ts):(assignEach es env).length=es.length/\(assignEach es env).findIdx? (·.1)=none/\∀ {Y:aY C d 2}{k:Kp}{fr:Frame}{w:Wd}{H:MH}{mvs:List Val}{vs:List Value}{r:Frame×MH}{s:Shared}{Q:Unit->Shared->Prop}{E:Value->Shared->Prop},
   aD C w mvs vs->PlS Y cx env k fr w H s->fM (C.cx d) (ts.map λq=>T1.at q.1 q.2) mvs fr H=some r->(r.1=fr->mvs.length=es.length-> ∀w' s',Nxt Y k w w' r.2 s s'->Q () s') ->wpAny C.M Y.A (assignInOrder ((assignEach es env).map (·.2)) vs) Q E s:=by
 induction ht with
 |nil=>
  refine ⟨rfl,rfl,λ{Y k fr w H mvs vs r s Q E} rr p e h=>?_⟩;obtain ⟨h1,e⟩:=gs e;cases e;cases mvs with
  |nil=>cases rr;exact wpAny_pure (h rfl rfl w s (.refl p.st))
  |cons _ _=>cases h1
 | @cons _ q _ _ ha _ ih=>
  refine Ji ha λo zq2=>zq2.elim λnm zq3=>zq3.elim λpos zq4=>?_;obtain rfl:=zq4.1;refine ⟨congrArg (· +1) ih.1,?_,λ{Y k fr w H mvs vs r s Q E} rr p e h=>?_⟩
  ·show XH _ ((false,assign (.Attribute o nm pos) env)::assignEach _ env)=none
   rw [Xa];simp only [Kc,if_false,ih.2.1,Yx]
  ·cases mvs with
   |nil=>exact nos e
   |cons mv mvs=>
    obtain ⟨v,t,rfl,hv,rr⟩:=rr
    revert e
    refine aG λfr1 H1 e1 e=>?_
    revert e1
    show bnd (eval (C.cx d) q.1 fr H) (λov h1=>(setAttr C.P h1 ov q.2 mv).map λh2=>(fr,h2))=some (fr1,H1) ->_;refine aG λov H2 e3=>bU λH3 hs e4=>?_;cases e4;rw [zq4.2.2.1] at hs;show wpAny C.M Y.A (do holding _ (assign (.Attribute o nm pos) env v);assignInOrder _ _) Q E s;refine wpAny_bind (wpAny_holding ?_);rw [assign_Attribute];refine wpAny_bind (wpAny_holding (zq4.2.2.2.es Y env k k.m _ w H s p.pl _ e3 _ _ λw1 a1 s1 n1 r1=>?_));refine wpAny_bind (wpAny_standAt (wpAny_bind (wpAny_holding (oQ O n1.st zq4.2.1 r1 (hv.mono n1.le) (λs2 n2=>wpAny_release ?_) hs))));exact ih.2.2 (rr.mono n1.le) (p.next (n1.trans n2)) e λe5 e6 w' s' n3=>h e5 (congrArg (· +1) e6) w' s' ((n1.trans n2).trans n3)
theorem x4 (O:dN C gl) {es:List Expr}{n:Nat}{tpos pos:Pos}{v:Expr}{ts:List (Ex×Nat)}{iv:Ex} (hok:uH v=true) (hne:es.isEmpty=false) (ht:cL (zi6 C d cx) es ts) (hv:Sd C d cx v iv):
  mC C d cx (.Assign [.Tuple es n tpos] v pos) (.asgs (ts.map λq=>T1.at q.1 q.2) iv):=by
 intro Y env k fr w H s p r;show bnd (eval (C.cx d) iv fr H) (λv h1=>(items h1 v).bind λvs=>bnd (fM (C.cx d) (ts.map λq=>T1.at q.1 q.2) vs fr h1) λfr' h2=>some ((.nx,fr'),h2))=some r->_;refine aG λu H1 e1=>aX λmvs hm=>aG λfr' H2 e2 e=>?_;cases e;have zq1:=zcB (env:=env) O ht;have hlen: ∀ {ts:List T1}{mvs:List Val}{fr:Frame}{h:MH}{r:Frame×MH},fM (C.cx d) ts mvs fr h=some r->mvs.length=ts.length:=by
  intro ts
  induction ts with
  |nil=>intro mvs fr h r e;have:=(gs e).1;cases mvs with|nil=>rfl|cons _ _=>cases this
  |cons t ts ih=>
   intro mvs fr h r e;cases mvs with
   |nil=>exact nos e
   |cons v mvs=>revert e;exact aG λfr' h' _ e=>congrArg (· +1) (ih e)
 have hl:mvs.length=es.length:=(hlen e2).trans ((Qe ..).trans ht.length);intro Q E hq;refine Assign_Tuple (hv.es Y env k k.m fr w H s p.pl _ e1 _ _ λw1 a1 s1 n1 r1=>?_) (by unfold swapsWithSole;exact qE hv hok) (zlg hne ht);rw [assign_Tuple];refine wpAny_bind (wpAny_standAt ?_);unfold unpack;rw [zq1.1,zq1.2.1,<-hl];refine wpAny_bind (wpAny_holding (rD n1.st r1 hm λvs h' rr S'=>?_));have n2:Nxt Y k w w1 H1 s {s1 with heap:=h'}:=⟨n1.le,S',n1.same.1,n1.same.2⟩;exact zq1.2.2 rr (p.next n2) e2 λe5 _ w' s' n3=>by
  cases e5;exact hq k w' .next s' (p.nx (n2.trans n3)) .nx
end
theorem z2 {prog:Program}{w:World}{A:Around}{s:Shared}{l:Addr}{its:Array Value}{n:Nat}{z:Int}{t:Tok}{v:Value}{Q:Unit->Shared->Prop}{E:Value->Shared->Prop} (ho:s.heap.get? l=some (listOf its n)) (h0:0<=z) (hj:z<its.size) (hfit:z<2 ^ 63)
  (hQ: ∀h' n',h'.get? l=some (listOf (its.setIfInBounds z.toNat v) n') ->Heap.SameBut l s.heap h'->Q () {s with heap:=h'}):wpAny (model prog w) A (setItem (.ref l) (.int z t) v) Q E s:=by
 have hT : s.TypeIs (.ref l) "list" := ⟨_,ho,rfl⟩;unfold setItem
 try with_reducible refine wpAny_holding ?_
 refine wpAny_bind (wpAny_sequenceKey hT (by decide) ?_);refine wpAny_bind (wpAny_callSpecial?_slot (name:=Str.ofString "__setitem__") hT slot_list_setitem
  (wpAny_call_entry slot_list_setitem hT entry_list_setitem ?_ (args_list_setitem _ _ _)))
 show wpAny _ _ (Xv (.int z t)>>=_) _ _ s;refine wpAny_bind (wpAny_listSubscript_int (fitsIndex_of h0 hfit) ?_)
 clear hfit
 obtain ⟨j,rfl⟩:=Int.eq_ofNat_of_zero_le h0;have hj':j<its.size:=Jw.mp hj;show wpAny _ _ ((seqItemAt l j>>=λr=>pure (r.map (j,·)))>>=_) _ _ s;refine wpAny_bind (wpAny_bind (wpAny_seqItemAt ho rfl (wpAny_pure ?_)));rw [(Array.getElem?_eq_getElem hj':its[j]?=some its[j])];show wpAny _ _ (setSeqItemAt l j v>>=_) _ _ s;refine wpAny_bind (wpAny_setSeqItemAt ho rfl ?_);have fin:Q () {s with heap:=s.heap.update l (Obj.mapSeq (·.setIfInBounds j v))}:=hQ _ _ (Kn _ ho rfl) (Heap.SameBut.update ..)
 first
  |exact wpAny_bind (wpAny_pure (wpAny_pure ⟨.none,rfl,wpAny_pure fin⟩))
  |exact wpAny_pure ⟨.none,rfl,wpAny_pure fin⟩
section
variable {C:Cfg}{d e:Nat}{Y:aY C d e}{k:Kp}{w:Wd}{H:MH}{s:Shared}{cx:CC}{env:Env}{fr:Frame}{gl:List (Str×Val)}
theorem zM (p:PlS Y cx env k fr w H s) {t:Expr}{q:List Str×Bool}{sl:List Nat} (ht:oM t=some q) (hs:cL (jH cx) q.1 sl) {v:Val}{rv:Value}{fr1:Frame} (hv:aF C w v rv) (hb:eC fr sl q.2 v=some fr1) {Q:Unit->Shared->Prop}{E:Value->Shared->Prop}
  (h: ∀k' s',NxS Y cx env k.ex w s k' fr1 w H s'->Q () s'):wpAny C.M Y.A (assign t env rv) Q E s:=by
 obtain ⟨mvs,b1,rfl,b3,b4⟩:=zcg hb;rcases zj0 ht with ⟨x,pp,rfl,rfl⟩| ⟨es,n,pp,rfl,hq,hes⟩
 ·cases b4 rfl
  cases hs with
  |cons hi hs=>
   cases hs;exact PySem.wpAny_assign_Name (g9 p hi hv h)
 ·cases b3 hq
  have zq52:=oH (env:=env) hes;obtain ⟨tt,o,n',ws,rfl,ho,hc,hd,rr,_⟩:=p.st.tup hv;exact assign_Tuple_tuple (items:=ws.toArray) Y.handled ⟨o,ho,hc,n',hd⟩ (by rw [zq52.2.1,Je,<-rr.length,b1,hs.length]) zq52.2.2 λh' he=>nR hs zq52.1 rr b1 (⟨p.b,p.c,p.f,p.st.grown he⟩:PlS Y cx env k fr w H {s with heap:=h'}) λk' s' n2=>h k' s' ⟨n2.ex,n2.le,n2.pl,n2.same.1,n2.same.2⟩
inductive zdZ {C:Cfg}{d e:Nat} (Y:aY C d e) (cx:CC) (env:Env) (ex:Led) (w0:Wd) (s0:Shared) (I:Addr) (z:It) (F:Nat->Frame->MH->SR) (r:(Fl×Frame)×MH) (s:Shared):Prop
 |mk (k:Kp) (fr:Frame) (w:Wd) (H:MH) (j:Nat) (io:Obj) (ex':k.ex=ex) (le:w0.le w) (p:PlS Y cx env (k.ext (I,io)) fr w H s) (it:gH C w io j z) (sm:gZ s0 s) (lp:F j fr H=some r):zdZ Y cx env ex w0 s0 I z F r s
theorem PlS.endEx {q:Addr×Obj}{h':Heap} (p:PlS Y cx env (k.ext q) fr w H s) (hx:Heap.ExtBut q.1 s.heap h'):PlS Y cx env k fr w H {s with heap:=h'}:=⟨p.b,p.c,p.f,Sta.endEx (b:=q.1) (o:=q.2) p.st hx⟩
theorem zfi {β:Type}{ov:Option Val}{v:Val}{a:β}{f:Val->β}{r:β} (h:ov=some v) (q:Qr (motive:=λ_=>β) ov a f=r):f v=r:=by subst h;exact q
theorem zfj {β:Type}{ov:Option Val}{a:β}{f:Val->β}{r:β} (h:ov=none) (q:Qr (motive:=λ_=>β) ov a f=r):a=r:=by subst h;exact q
section
variable (M:Model) (A:Around) (env:Env) (R:Result->Shared->Prop) (I:Nat->Shared->Prop) (n:Nat)
def noE:Value->Shared->Prop:=notedBy M A env λe s'=>R (.error e) s'
def foB:Flow->Shared->Prop:=λf s=>Flow.casesOn (motive:=λ_=>Prop) f (∃m,m<n/\I m s) (R (.ok .next) s) (∃m,m<n/\I m s) λv=>R (.ok (.ret v)) s
def foT (t:Expr) (it:Value) (b:List Stmt) (v:Value) (s:Shared):Prop:=wpAny M A (letOwnedTupleGo t it v) (λ_ s₁'=>wpAny M A (assign t env v) (λ_ s₂=>wpAny M A (PySem.execs b env) (foB R I n) (noE M A env R) s₂) (noE M A env R) s₁') (noE M A env R) s
def foQ (t:Expr) (it:Value) (b:List Stmt):Option Value->Shared->Prop:=λr s=>Qr (motive:=λ_=>Prop) r (wpAny M A (PySem.execs [] env) (λf s₃=>R (.ok f) s₃) (noE M A env R) s) λv=>foT M A env R I n t it b v s
end
def zjf (C:Cfg) (d:Nat) (z:It) (sl:List Nat) (m:Bool) (ib:List Sm):Nat->Nat->Frame->MH->SR:=rC (λi h=>cF h i z) (λfr v=>eC fr sl m v) (λfr h=>execs (C.cx d) ib fr h)
theorem zje {Y:aY C d 2}{ex:Led}{w0:Wd}{s0:Shared}{Ia:Addr}{z:It}{F:Nat->Nat->Frame->MH->SR}{r:(Fl×Frame)×MH}{R:Result->Shared->Prop}{I:Nat->Shared->Prop}{n j:Nat}{g:Fl×Frame}{k6:Kp}{w6:Wd}{H6:MH}{s6:Shared}{f6:Flow}
  (hI: ∀m s,zdZ Y cx env ex w0 s0 Ia z (F m) r s->I m s) (hq: ∀k' w' f s',NxS Y cx env ex w0 s0 k' r.1.2 w' r.2 s'->FlR C w' r.1.1 f->R (.ok f) s')
  (st: ∀m,F m (j+1) g.2 H6=some r->zdZ Y cx env ex w0 s0 Ia z (F m) r s6) (out:NxS Y cx env ex w0 s0 k6 g.2 w6 H6 s6) (r6:FlR C w6 g.1 f6)
  (lp:Fl.casesOn (motive:=λ_=>SR) g.1 (F n (j+1) g.2 H6) (some ((.nx,g.2),H6)) (F n (j+1) g.2 H6) (λv=>some ((.rt v,g.2),H6))=some r):foB R I (n+1) f6 s6:=by
 obtain ⟨fl,fr6⟩:=g;cases r6 with
 |nx=>exact ⟨n,QD n,hI n s6 (st n lp)⟩
 |ct=>exact ⟨n,QD n,hI n s6 (st n lp)⟩
 |bk=>cases lp;exact hq _ w6 .next s6 out .nx
 |rt h=>cases lp;exact hq _ w6 _ s6 out (.rt h)
theorem zgr {t:Expr}{b:List Stmt}{q:List Str×Bool}{sl:List Nat}{ib:List Sm} (ht:oM t=some q) (hsl:cL (jH cx) q.1 sl) (hb:lO C d cx b ib) {Y:aY C d 2}{ex:Led}{w0:Wd}{s0:Shared}{Ia:Addr}{z:It}{r:(Fl×Frame)×MH}{R:Result->Shared->Prop}{I:Nat->Shared->Prop}{n:Nat}{s':Shared}
  (hI: ∀m s,zdZ Y cx env ex w0 s0 Ia z (zjf C d z sl q.2 ib m) r s->I m s) (hq: ∀k' w' f s',NxS Y cx env ex w0 s0 k' r.1.2 w' r.2 s'->FlR C w' r.1.1 f->R (.ok f) s')
  (h:zdZ Y cx env ex w0 s0 Ia z (zjf C d z sl q.2 ib n) r s'):wpAny C.M Y.A (pyNext (.ref Ia)) (foQ C.M Y.A env R I n t (.ref Ia) b) (noE C.M Y.A env R) s':=by
 obtain ⟨k3,fr3,w3,H3,j,io3,ex3,le3,p3,R3,sm3,lp⟩:=h;cases n with
 |zero=>exact nos lp
 |succ n=>
  refine aX (λov hov lp=>?_) lp;refine x7 p3.st R3 hov ⟨λv rv io4 h' tk hv S4 R4 hr=>?_,λh' hv S4=>?_⟩
  ·refine qT (s:={s' with heap:=h',toks:=tk}) S4.exHead.1 R4.cls ?_
   refine aX (λfr5 hb5 lp=>?_) (zfi hv lp);have p4:PlS Y cx env (k3.ext (Ia,io4)) fr3 w3 H3 {s' with heap:=h',toks:=tk}:=⟨p3.b,p3.c,p3.f,S4⟩;refine zM p4 ht hsl hr hb5 λk5 s5 n5=>?_;refine aG (λg H6 e6 lp=>?_) lp;refine hb Y env k5 fr5 w3 H3 s5 n5.pl _ e6 _ _ λk6 w6 f6 s6 n6 r6=>?_;have n6':=n5.trans n6;have sm6:gZ s0 s6:=sm3.trans ⟨n6'.same.1,n6'.same.2⟩;have p6:PlS Y cx env ((⟨k6.ce,k3.ex,k6.m⟩:Kp).ext (Ia,io4)) g.2 w6 H6 s6:=by
    have:=n6'.pl
    obtain ⟨ce6,ex6,m6⟩:=k6;cases n6'.ex;exact this
   exact zje hI hq (λm lp=>⟨⟨k6.ce,k3.ex,k6.m⟩,g.2,w6,H6,j+1,io4,ex3,le3.trans n6'.le,p6,R4.mono n6'.le,sm6,lp⟩) (⟨ex3,le3.trans n6'.le,p6.endEx λ_ _ _ e=>e,sm6⟩:NxS Y cx env ex w0 s0 ⟨k6.ce,k3.ex,k6.m⟩ g.2 w6 H6 s6) r6 lp
  ·have lp:=zfj hv lp
   cases lp;exact wpAny_execs_nil (hq k3 w3 .next {s' with heap:=h'} ⟨ex3,le3,⟨p3.b,p3.c,p3.f,S4⟩,sm3.1,sm3.2⟩ .nx)
theorem zeJ {t:Expr}{pos:Pos}{it:Expr}{b:List Stmt}{q:List Str×Bool}{sl:List Nat}{ii:Ex}{ib:List Sm} (ht:oM t=some q) (hsl:cL (jH cx) q.1 sl) (hi:Sd C d cx it ii) (hb:lO C d cx b ib):mC C d cx (.For t it b [] pos) (.fo sl q.2 ii ib):=by
 intro Y env k fr w H s p r;show bnd (eval (C.cx d) ii fr H) (λv h1=>(fO h1 v).bind λk=>zjf C d k sl q.2 ib (C.cx d).fuel 0 fr h1)=some r->_;refine aG λu H1 e1=>aX λz hz lp=>?_;intro Q E hq;refine wpAny_For (hi.es Y env k k.m fr w H s p.pl _ e1 _ _ λw1 a1 s1 n1 r1=>yA n1.st r1 (λI io h2 S2 R2=>?_) hz) (hi.sy.fold env);exact codeAny_forLoop_any (λn s'=>zdZ Y cx env k.ex w s I z (zjf C d z sl q.2 ib n) r s') (λn s' h=>Eq.mp (by kernel_rfl) (zgr (R:=λr s=>match r with| .ok f=>Q f s| .error e=>cameBackBy C.M Y.A env E e s) (n:=n) ht hsl hb (λ_ _ h=>h) hq h)) (C.cx d).fuel ⟨k,fr,w1,H1,0,io,rfl,n1.le,⟨p.b,p.c,(p.next n1).f,S2⟩,R2,⟨n1.same.1,n1.same.2⟩,lp⟩
theorem zu8 {e : Expr} {pos : Pos} {v : Value} : dropValue e pos v = pure .next \/ dropValue e pos v = (do standAt pos; let _ <- runValue (.builtin "proto.let_go" {}); pure .next) := by
 have h : dropValue (.Tuple [] 0 pos) pos v = pure .next \/ dropValue (.Tuple [] 0 pos) pos v = (do standAt pos; let _ <- runValue (.builtin "proto.let_go" {}); pure .next) := by
  cases v<;>first|exact .inl rfl|exact .inr rfl
 cases e<;>first|exact .inl rfl|exact Eq.mp (by kernel_rfl) h
theorem zcF {v:Expr}{pos:Pos}{iv:Ex} (hc:gI v=false) (hv:Sd C d cx v iv):mC C d cx (.Expr v pos) (.expr iv):=by
 intro Y env k fr w H s p r;show bnd (eval (C.cx d) iv fr H) (λ_ h1=>some ((.nx,fr),h1))=some r->_;refine aG λu H1 e1 e=>?_;cases e;intro Q E hq;rw [exec_Expr env v pos (by unfold interactive;rw [p.b.kind];rfl) (hv.sy.swap hc _ _ _)];refine wpAny_bind (wpAny_standAt (wpAny_bind (hv.es Y env k k.m fr w H s p.pl _ e1 _ _ λw1 a1 s1 n1 r1=>?_)));have fin:=hq k w1 .next s1 (p.nx n1) .nx;rcases zu8 (e:=v) (pos:=pos) (v:=a1) with h|h
 ·rw [h];exact wpAny_pure fin
 ·rw [h];exact wpAny_bind (wpAny_standAt (wpAny_bind (wpAny_runValue (codeAny_builtin entry_let_go (show wpAny _ _ (ret .none) _ _ s1 from wpAny_pure (wpAny_pure fin))))))
theorem d8 {P:Prop} (h:false=true):P:=absurd h Zn
def LC (e:Expr):Prop:= ∃a b c p,e= .ListComp a b c p
theorem zgd {e:Expr}:gI e=true->LC e:=Expr.casesOn (motive_1:=λe=>gI e=true->LC e) e (λ_ _ _ h=>d8 h) (λ_ _ _ h=>d8 h) (λ_ _ _ _ h=>d8 h) (λ_ _ _ h=>d8 h) (λ_ _ _ _ h=>d8 h) (λ_ _ _ _ h=>d8 h) (λ_ _ _ h=>d8 h) (λ_ _ _ h=>d8 h) (λa b c p _=>⟨a,b,c,p,rfl⟩) (λ_ _ _ _ h=>d8 h) (λ_ _ _ _ _ h=>d8 h) (λ_ _ _ _ h=>d8 h) (λ_ _ h=>d8 h) (λ_ _ h=>d8 h) (λ_ _ h=>d8 h) (λ_ _ _ _ h=>d8 h) (λ_ _ _ _ h=>d8 h) (λ_ _ _ _ h=>d8 h) (λ_ _ h=>d8 h) (λ_ _ _ h=>d8 h) (λ_ _ _ h=>d8 h) (λ_ _ _ h=>d8 h) (λ_ _ h=>d8 h) (λ_ _ h=>d8 h) (λ_ _ h=>d8 h) (λ_ _ _ h=>d8 h) (λ_ _ _ _ h=>d8 h)
theorem zeu {v o:Expr}{i:Ex} (hv:Sd C d cx v i) {n:Nat} (hr: ∀a b c p,swapsWith (.ListComp a b c p) (some o) n env=pure false):swapsWith v (some o) n env=pure false:=by
 cases hc:gI v with
 |false=>exact hv.sy.swap hc _ _ _
 |true=>obtain ⟨a,b,c,p,rfl⟩:=zgd hc;exact hr a b c p
theorem zah (O:dN C gl) {o:Expr}{nm:Str}{xp pos:Pos}{v:Expr}{io iv:Ex} (hn:aI nm=true) (ho:Sd C d cx o io) (hv:Sd C d cx v iv):mC C d cx (.Assign [.Attribute o nm xp] v pos) (.asg (.at io (enc nm)) iv):=by
 intro Y env k fr w H s p r;show bnd (eval (C.cx d) iv fr H) (λv h1=>bnd (bnd (eval (C.cx d) io fr h1) λov h2=>(setAttr C.P h2 ov (enc nm) v).map λh3=>(fr,h3)) λfr' h2=>some ((.nx,fr'),h2))=some r->_;refine aG λu H1 e1=>aG λfr' H2 e2 e=>?_;cases e
 revert e2
 refine aG λov H3 e3=>bU λH4 hs e4=>?_;cases e4;exact λQ E hq=>plainObj_wpAny_Assign_Attribute (hv.es Y env k k.m _ w H s p.pl _ e1 _ _ λw1 a1 s1 n1 r1=>ho.es Y env k k.m _ w1 H1 s1 (p.next n1).pl _ e3 _ _ λw2 a2 s2 n2 r2=>
  oQ O n2.st hn r2 (r1.mono n2.le) (λs3 n3=>hq k w2 .next s3 (p.nx ((n1.trans n2).trans n3)) .nx) hs) (zeu hv λ_ _ _ _=>rfl)
theorem zcm {v:Val}{rv:Value} (hv:aF C w v rv): ∀ {ms:List Val}{vs:List Value}{j:Nat},aD C w ms vs->aD C w (ms.set j v) (vs.set j rv):=by
 intro ms
 induction ms with
 |nil=>intro vs j h;cases h;exact .nil
 |cons m ms ih=>
  intro vs j h;obtain ⟨x,t,rfl,h,r⟩:=h;cases j with
  |zero=>exact .cons hv r
  |succ j=>exact .cons h (ih r)
theorem zaj (S:St Y k w H s) {o i v:Val}{vo vi vv:Value}{H':MH} (ho:aF C w o vo) (hi:aF C w i vi) (hv:aF C w v vv) {Q:Unit->Shared->Prop}{E:Value->Shared->Prop}
  (h: ∀s',Nxt Y k w w H' s s'->Q () s'):dI H o i v=some H'->wpAny C.M Y.A (setItem vo vi vv) Q E s:=by
 refine aX λx e1=>cA (aX λmvs hm=>bU λj hj e=>?_) (aX λp hp=>cZ λhf e=>?_)
 ·cases ref?_s e1;subst e
  obtain ⟨z,t,rfl,h0,h1,rfl⟩:=zgj hi hj;obtain ⟨la,rfl,ha⟩:=ho;refine (bs hm).elim λob zq47=>?_;have h2:=zq47.2;cases list?_s h2;obtain ⟨_,ws,n,e,hget,rr,hl⟩:=S.list (x:=.ref x) ⟨la,rfl,ha⟩ hm;cases e;refine z2 hget h0 (by rw [Je,<-rr.length];exact h1) (Xe h1 (jE hl)) λh' n' hg hs=>h _ ⟨.refl w,S.upd ha zq47.1 (λen h=>?_) hs (by rw [hg,List.setIfInBounds_toArray]) ⟨_,n',rfl,zcm hv rr,by rw [QL];exact hl⟩,rfl,rfl⟩;obtain ⟨_,_,rfl,_,_⟩:=h;exact ⟨_,rfl⟩
 ·cases ref?_s e1;cases e
  have hf:=Qb.mp hf;obtain ⟨b,n,es,rfl,hmod,hep,hg,hdr,hl,upd⟩:=S.dictI ho hp;refine s7 ⟨_,hg,rfl⟩ (zd5 S (A:=Y.A.in1) (show Y.A.units+1+1<9900 from Y.u (n:=2) (by decide)) hg hdr hf.1 (QW.mp hf.2) hi hv λes' h' tk hs hgo j'=>h _ ⟨.refl w,upd h' _ _ hs hgo ⟨es',_,rfl,λe he=>?_,j',wU (QW.mp hf.2)⟩,rfl,rfl⟩);cases hq:(a9 p.2 i).isSome with
  |true=>rw [hq] at he;exact hep e he
  |false=>
   rw [hq] at he;obtain ⟨e0,he0,rfl⟩:=ms he;exact congrArg (· +1) (hep e0 he0)
theorem x5 {o i:Expr}{xp pos:Pos}{v:Expr}{io ii iv:Ex} (ho:Sd C d cx o io) (hi:Sd C d cx i ii) (hv:Sd C d cx v iv):mC C d cx (.Assign [.Subscript o i xp] v pos) (.asg (.sb io ii) iv):=by
 intro Y env k fr w H s p r;show bnd (eval (C.cx d) iv fr H) (λv h1=>bnd (bnd (eval (C.cx d) io fr h1) λov h2=>bnd (eval (C.cx d) ii fr h2) λiv h3=>(dI h3 ov iv v).map λh4=>(fr,h4)) λfr' h2=>some ((.nx,fr'),h2))=some r->_;refine aG λu H1 e1=>aG λfr' H2 e2 e=>?_;cases e
 revert e2
 refine aG λov H3 e3=>aG λix H4 e4=>bU λH5 hs e5=>?_;cases e5;exact λQ E hq=>wpAny_Assign_Subscript (hv.es Y env k k.m _ w H s p.pl _ e1 _ _ λw1 a1 s1 n1 r1=>ho.es Y env k k.m _ w1 H1 s1 (p.next n1).pl _ e3 _ _ λw2 a2 s2 n2 r2=>hi.es Y env k k.m _ w2 H3 s2 ((p.next n1).next n2).pl _ e4 _ _ λw3 a3 s3 n3 r3=>
  zaj n3.st (r2.mono n3.le) r3 (r1.mono (n2.le.trans n3.le)) (λs4 n4=>hq k w3 .next s4 (p.nx (((n1.trans n2).trans n3).trans n4)) .nx) hs) (zeu hv λ_ _ _ _=>rfl)
theorem zV (O:dN C gl) (hC:fH C d) (hg:zhi C cx.gl) (hcc:xM cx): ∀ (n:Nat),(∀ (st:Stmt) (ir:Sm),jR n cx st=some ir->mC C d cx st ir)/\∀ (sts:List Stmt) (irs:List Sm),eL (λs=>some ((jR n cx s).getD .raise)) sts=some irs->lO C d cx sts irs:=by
 intro n;have hE: ∀ {e ir},f9 cx e=some ir->Sd C d cx e ir:=λh=>pZ O hC 60 cx hg hcc _ _ h;have lists: ∀ {n:Nat},(∀ (st:Stmt) (ir:Sm),jR n cx st=some ir->mC C d cx st ir) -> ∀ (sts:List Stmt) (irs:List Sm),eL (λs=>some ((jR n cx s).getD .raise)) sts=some irs->lO C d cx sts irs:=by
  intro n h sts irs e
  induction hW e with
  |nil=>exact zeI
  | @cons st i _ _ h1 h2 ih=>
   have rest:=ih (by
    refine (bs e).elim λb zq16=>?_;have e:=zq16.2;obtain ⟨c,h3,e⟩:=ms e;cases e;exact h3)
   refine zcG ?_ rest;cases hs:jR n cx st with
   |some i'=>rw [hs] at h1;cases h1;exact h st _ hs
   |none=>rw [hs] at h1;cases h1;exact λY env k fr w H s p r e=>nos e
 have st: ∀ (st:Stmt) (ir:Sm),jR n cx st=some ir->mC C d cx st ir:=by
  induction n with
  |zero=>exact λst ir h=>nos h
  |succ n ih=>
   have ihs:=lists ih;intro st ir;cases st with
   |Pass pos=>intro h;cases h;exact λY env k fr w H s p r e Q E hq=>by cases e;exact wpAny_Pass (hq k w _ s p.rf .nx)
   |Break pos=>intro h;cases h;exact λY env k fr w H s p r e Q E hq=>by cases e;exact λ_ _ _=>hq k w _ s p.rf .bk
   |Continue pos=>intro h;cases h;exact λY env k fr w H s p r e Q E hq=>by cases e;exact λ_ _ _=>hq k w _ s p.rf .ct
   |Return v pos=>
    intro h;cases v with
    |none=>cases h;exact zcE
    |some e=>obtain ⟨i,hi,rfl⟩:=ms h;exact zeH (hE hi).es
   |Assign ts v pos=>
    intro h;obtain ⟨t,rfl,h⟩:=qV h;have h:Qr (motive:=λ_=>Option Sm) (lN t) ((zgK cx t).bind λa=>(f9 cx v).map λb=> .asg a b) (λp=>grd (uH v) ((f9 cx v).bind λb=>alt ((zfy p.1).bind λxs=>(eL (vT cx) xs).map λis=> .asgs (is.map .nm) b) (grd (!p.1.isEmpty) ((eL (zgL cx) p.1).map λts=> .asgs (ts.map λq=> .at q.1 q.2) b))))=some ir:=h;cases ht:lN t with
    |some p=>
     rw [ht] at h;cases pY ht
     revert h
     refine cZ λhok=>aX λb hb=>cA (aX λxs hx=>bU λis his e=>?_) (cZ λhne=>bU λts hts e=>?_)
     ·refine (bs hx).elim λxs' zq13=>?_
      have h2:=zq13.2;obtain ⟨h2,h3⟩:=gs h2;cases h3;exact e▸zcH hok (hW zq13.1) (of_decide_eq_true h2) (zbG his) (hE hb)
     ·refine e▸x4 O hok (by cases hq:p.1.isEmpty;rfl;rw [hq] at hne;cases hne) ((hW hts).mono λe q h=>?_) (hE hb)
      obtain ⟨p,hp,h⟩:=bs h;obtain ⟨hn,h⟩:=gs h;obtain ⟨i,hi,rfl⟩:=ms h;exact ⟨p.1,p.2.1,p.2.2,sP hp,hn,rfl,hE hi⟩
    |none=>
     rw [ht] at h;obtain ⟨a,ha,h⟩:=bs h;obtain ⟨b,hb,rfl⟩:=ms h
     revert ha
     refine cA (aX λp hp=>cZ λ_=>bU λi hi e=>?_) (cA (aX λp hp=>cZ λhn=>bU λi hi e=>?_) (aX λp hp=>aX λi hi=>bU λj hj e=>?_))
     ·rw [<-e,gY hp]
      refine zeK hcc hi (hE hb) λ{elt gens sc cp} ev=>?_;subst ev
      clear h
      obtain ⟨g,eg,hz⟩:=qV (show zcY gens _=some b from hb);subst eg;refine (bs hz).elim λq zq5=>?_;have zq4:=gs zq5.2;refine (bs zq4.2).elim λii zq3=>?_;refine (bs zq3.2).elim λiifs zq2=>?_;refine (ms zq2.2).elim λie zq1=>?_;exact ⟨g,q,ie,ii,iifs,rfl,⟨beq_iff_eq.mp (Qb.mp zq4.1).1,zq5.1,zbI (Qb.mp zq4.1).2,pZ O hC 59 cx hg hcc _ _ zq3.1,(pZ O hC 59 (inComp cx sc q.1) hg (hcc.inComp sc q.1)) _ _ zq1.1,(hW zq2.1).mono (pZ O hC 59 (inComp cx sc q.1) hg (hcc.inComp sc q.1))⟩,zq1.2.symm⟩
     ·rw [<-e,sP hp];exact zah O hn (hE hi) (hE hb)
     ·rw [<-e,zjE hp];exact x5 (hE hi) (hE hj) (hE hb)
   |If t x y pos=>exact aX λa ha=>aX λb hb=>bU λc hc e=>e▸zh3 (hE ha).ts (ihs _ _ hb) (ihs _ _ hc)
   |While t b e pos=>
    refine cZ λhe=>aX λa ha=>bU λc hc e'=>?_;cases e with
    |nil=>exact e'▸zag (hE ha).ts (ihs _ _ hc)
    |cons _ _=>cases he
   |For t it b e pos=>
    refine cZ λhe=>aX λq hq=>cZ λ_=>aX λa ha=>aX λsl hs=>bU λc hc e'=>?_;cases e with
    |nil=>exact e'▸zeJ hq (zbG hs) (hE ha) (ihs _ _ hc)
    |cons _ _=>cases he
   |Expr v pos=>exact cZ λhc=>bU λi hi e=>e▸zcF (by cases hq:gI v;rfl;rw [hq] at hc;cases hc) (hE hi)
   |_=>exact λh=>nos h
 exact ⟨st,lists st⟩
end
theorem zcb (ps:List Str) (sc:Scope) (gl:List (Str×Val)):xM (zgs ps sc gl):=λx i h=>by
 refine ((lX x _ 0).1 i h).elim λj zq32=>?_;obtain rfl:=zq32.1;rw [Jv];exact (Qg.mp zq32.2).1
theorem zbf {kindOf:Str->Option NameKind}{x:Str}: ∀ {r:List (Str×Value)}{m:Str->Option Value},x∉r.map (·.1) ->bindL kindOf r m x=m x:=by
 intro r
 induction r with
 |nil=>exact λ_=>rfl
 |cons p r ih=>
  intro m h;unfold bindL;rw [ih λq=>h (.tail _ q)];split
  ·exact if_neg λq:x=p.1=>h (q▸ .head _)
  ·rfl
theorem zbg {kindOf:Str->Option NameKind}{x:Str}: ∀ {r:List (Str×Value)}{m:Str->Option Value},x∉r.map (·.1) ->bindC kindOf r m x=m x:=by
 intro r
 induction r with
 |nil=>exact λ_=>rfl
 |cons p r ih=>
  intro m h;unfold bindC;rw [ih λq=>h (.tail _ q)];split
  ·rfl
  ·exact if_neg λq:x=p.1=>h (q▸ .head _)
theorem zcf {kindOf:Str->Option NameKind}{x:Str}{v:Value}: ∀ {r:List (Str×Value)}{m:Str->Option Value},(x,v)∈r->(r.map (·.1)).Nodup->(kindOf x=some .local->bindL kindOf r m x=some v)/\(kindOf x≠some .local->bindC kindOf r m x=some v):=by
 intro r
 induction r with
 |nil=>exact λh _=>absurd h Qq
 |cons p r ih=>
  intro m h hd;have hd:=Qw.mp hd;unfold bindL bindC;rcases QE.mp h with e|h
  ·subst e
   exact ⟨λhk=>by rw [zbf hd.1,if_pos hk];exact if_pos rfl,λhk=>by rw [zbg hd.1,if_neg hk];exact if_pos rfl⟩
  ·exact ⟨(ih h hd.2).1,(ih h hd.2).2⟩
theorem rZ {cm:Str->Option Value}{x:Str}{c:Addr}{cs:List (Str×Addr)}{cells:Led} (h:CellsAre cm cs cells):cs.lookup x=some c-> ∃o,(c,o)∈cells/\o.data= .cell (cm x):=by
 induction h with
 |nil=>exact λh=>nos h
 | @cons n a o cs cells hd r ih=>
  intro h;rw [Jf] at h;cases e:x==n with
  |true=>rw [e] at h;cases h;rw [beq_iff_eq.mp e];exact ⟨o,.head _,hd⟩
  |false=>rw [e] at h;obtain ⟨o',h1,h2⟩:=ih h;exact ⟨o',.tail _ h1,h2⟩
theorem oG {cm:Str->Option Value}{cs:List (Str×Addr)}{cells:Led} (h:CellsAre cm cs cells):cells.map (·.1)=cs.map (·.2):=by
 induction h with
 |nil=>rfl
 |cons _ _ ih=>exact congrArg (_:: ·) ih
theorem iG (lo:Nat): ∀ (names:List (Str×NameKind)) (n:Nat) (acc:List (Str×Addr)),lo<=n->(acc.map (·.2)).Nodup->(∀p∈acc,p.2<n/\lo<=p.2) ->((cellsFrom n names acc).map (·.2)).Nodup/\∀p∈cellsFrom n names acc,lo<=p.2:=by
 intro names
 induction names with
 |nil=>exact λn acc _ h hl=>⟨h,λp hp=>(hl p hp).2⟩
 |cons q r ih=>
  intro n acc hn h hl;unfold cellsFrom;split
  ·refine ih (n+1) _ (Jd hn) ?_ ?_
   ·rw [Qz,Qw]
    refine ⟨λhx=>?_,h⟩;refine (QF.mp hx).elim λp zq31=>?_;exact absurd (hl p zq31.1).1 (by rw [zq31.2];exact Q2 _)
   ·intro p hp
    rcases QE.mp hp with rfl|hp
    ·exact ⟨QD _,hn⟩
    ·exact ⟨Q4 (hl p hp).1,(hl p hp).2⟩
  ·exact ih n acc hn h hl
theorem zf2 {x y:Str}{c:Addr}{cs:List (Str×Addr)}:(cs.map (·.2)).Nodup->cs.lookup x=some c->cs.lookup y=some c->x=y:=by
 induction cs with
 |nil=>exact λ_ h _=>nos h
 |cons p r ih=>
  intro hd hx hy;have hd:=Qw.mp hd;rw [Jf] at hx hy;cases ex:x==p.1 with
  |true=>
   rw [ex] at hx;cases ey:y==p.1 with
   |true=>exact (beq_iff_eq.mp ex).trans (beq_iff_eq.mp ey).symm
   |false=>rw [ey] at hy;exact ((λh e=>hd.1 (QF.mpr ⟨_,bO h,e⟩): ∀ {z},r.lookup z=some c->c=p.2->False) hy (Qx.inj hx).symm).elim
  |false=>
   rw [ex] at hx;cases ey:y==p.1 with
   |true=>rw [ey] at hy;exact ((λh e=>hd.1 (QF.mpr ⟨_,bO h,e⟩): ∀ {z},r.lookup z=some c->c=p.2->False) hx (Qx.inj hy).symm).elim
   |false=>rw [ey] at hy;exact ih hd.2 hx hy
section
variable {C:Cfg}{d e:Nat}{w:Wd}{H:MH}{s:Shared}{gl:List (Str×Val)}
theorem zG {Y:aY C d 2}{qual:Str}{scope:Scope}{fa:Addr}{cdv:Value}{xs:List Str}{us:List Value}{ws:List Val}{fn:Fn}{cells ex:Led} (hkind:scope.kind= .function) (hbn:xs.Nodup) (ru:aD C w ws us) (hlen:ws.length=xs.length)
  (hc:CellsAre (bindC (envOfC qual scope Y.L fa cdv).kindOf (xs.zip us) λ_=>none) (cellsFrom (Y.L+1) scope.names []) cells)
  (S:St Y ⟨cells,ex,bindL (envOfC qual scope Y.L fa cdv).kindOf (xs.zip us) λ_=>none⟩ w H s):PlS Y (zgs xs scope gl) (envOfC qual scope Y.L fa cdv) ⟨cells,ex,bindL (envOfC qual scope Y.L fa cdv).kindOf (xs.zip us) λ_=>none⟩ (iD fn ws) w H s:=by
 have slot: ∀ {x i},d4 (zgs xs scope gl) x=some i->(l7 xs scope)[i]?=some x:=λ{x i} h=>by
  refine ((lX x (l7 xs scope) 0).1 i (pN h).2).elim λj zq30=>?_;have e:=zq30.1;rw [Jv] at e;exact e▸zq30.2
 have hz:((xs.zip us).map (·.1)).Nodup:=by rw [List.map_fst_zip (by rw [<-hlen,ru.length];exact Qj _)];exact hbn
 refine ⟨⟨hkind,rfl,rfl,rfl,λx hx=>Jl.mp (cellsFrom_some scope.names (Y.L+1) [] (.inl hx)),λx y c hx hy hcx hcy=>zf2 ((iG 0 scope.names (Y.L+1) [] (Qs _) .nil λ_ h=>absurd h Qq).1) hcx hcy,rfl,λx y i hx hy=>Qx.inj ((slot hx).symm.trans (slot hy))⟩,
  λx c _ hcx=>(rZ hc hcx).elim λo h=>⟨o,_,h.1,h.2⟩,λx i u hx hu=>?_,S⟩
 have hlt:i<ws.length:=K7 λhge=>by
  unfold iD at hu;rw [JM (by rw [Qe];exact Q0 hge)] at hu;obtain ⟨_,hu'⟩:=Qg.mp hu;rw [List.getElem_replicate] at hu';cases hu'
 unfold iD at hu;rw [JQ (by rw [Qe];exact hlt),Qo] at hu;refine (ms hu).elim λu' zq28=>?_;have hu2:=zq28.2;cases hu2;refine (ru.get zq28.1).elim λrv zq27=>?_;have hr:=zq27.2;have hpx:xs[i]?=some x:=by
  have:=slot hx
  unfold l7 at this;rwa [JQ (by rw [<-hlen];exact hlt)] at this
 have hmem:(x,rv)∈xs.zip us:=Qd (List.getElem?_zip_eq_some.mpr ⟨hpx,zq27.1⟩);rcases (pN hx).1 with hk|hk
 ·exact .loc rv hk ((zcf hmem hz).1 hk) hr
 ·refine (Jl.mp (cellsFrom_some scope.names (Y.L+1) [] (.inl hk))).elim λc zq26=>?_
  refine (rZ hc zq26).elim λo zq25=>?_;refine .cell rv c o hk zq26 zq25.1 ?_ hr;rw [zq25.2,(zcf hmem hz).2 (by show scope.names.lookup x≠_;rw [show scope.names.lookup x=some .cell from hk];decide)]
inductive CfO (gl:List (Str×Val)) (params:Arguments) (body:List Stmt) (sc:Scope) (f:Fn):Prop
 |mk (kind:sc.kind= .function) (gen:sc.isGenerator=false) (co:sc.isCoroutine=false) (ps: ∀x∈params.args.map (·.arg),sc.names.lookup x=some .local\/sc.names.lookup x=some .cell) (b:zks (zgs (params.args.map (·.arg)) sc gl) body=some f.body) (np:(params.args.map (·.arg)).length=f.np):CfO gl params body sc f
theorem rX {params:Arguments}{body:List Stmt}{sc:Scope}{f:Fn} (h:rY gl params body sc=some (f.np,f.ns,f.body)):CfO gl params body sc f:=by
 obtain ⟨hb,h⟩:=gs h;refine (ms h).elim λb zq23=>?_;have h2:=zq23.2;simp only [Jz,Jc,KI,beq_iff_eq,Xh] at hb;simp only [XW.injEq] at h2;exact ⟨hb.1.1.1.2,hb.1.1.2,hb.1.2,hb.2,h2.2.2▸zq23.1,h2.1⟩
theorem aD.drop {ms:List Val}: ∀ {vs:List Value}{n:Nat},aD C w ms vs->aD C w (ms.drop n) (vs.drop n):=by
 induction ms with
 |nil=>intro vs n h;cases h;rw [Ky,Ky];exact .nil
 |cons m ms ih=>
  intro vs n h;cases n with
  |zero=>exact h
  |succ n=>obtain ⟨v,t,rfl,_,r⟩:=h;exact ih r
theorem zni {fn:Fn}{fd:FuncData}{xs:List Str}{as ws:List Val}{vs:List Value} (hk:C.K.In s.heap) (k7:nM C fn fd xs) (r:aD C w as vs) (ha:mB fn as=some ws): ∃us,aD C w ws us/\ws.length=fn.np/\BindsTo s fd ⟨vs,[]⟩ (xs.zip us):=by
 obtain ⟨hc,e⟩:=gs ha;have h1:=QW.mp (Qb.mp hc).1;have h2:=QW.mp (Qb.mp hc).2;have e:=(Qx.inj e).symm;rcases k7 with ⟨k5,k7⟩| ⟨_,dvs,k7a,k7b⟩
 ·rw [k5] at h2 e
  have hl:as.length=fn.np:=Zx h1 (Yy (Xq.mp h2));rw [Ky,Q7] at e;subst e;exact ⟨vs,r,hl,BindsTo.of_eq (k7 vs (r.length▸hl))⟩
 ·have hdl:=(k7a w).length
  have hrl:=r.length;refine ⟨vs++dvs.drop (dvs.length-(fn.np-vs.length)),?_,?_,kp_binds hk λSt=>k7b St vs (Qa (Qt (K8 hrl)) h1) (Qa (Nat.sub_le_sub_left (Qt hrl) _) (Qa h2 (Qt hdl)))⟩
  ·rw [e,<-hdl,<-hrl]
   exact aD.append (k7a w).drop r
  ·rw [e,Qv,Za];exact (congrArg (as.length+ ·) (Nat.sub_sub_self h2)).trans (Nat.add_sub_of_le h1)
abbrev flV (f:Flow):Value:=match f with| .ret v=>v|_=> .none
theorem za3 {fl:Fl}{f:Flow}{fr:Frame}{H:MH}{r:Val×MH} (hr:FlR C w fl f) (e:zjh (fl,fr) H=some r):aF C w r.1 (flV f)/\H=r.2:=by
 cases hr with
 |nx=>cases e;exact ⟨rfl,rfl⟩
 |bk=>exact nos e
 |ct=>exact nos e
 |rt h=>cases e;exact ⟨h,rfl⟩
theorem zgP (O:dN C gl): ∀d,fH C d:=by
 intro d
 induction d with
 |zero=>exact λY k w H s f fa as vs r S hf rr e=>nos e
 |succ d ih=>
  intro Y k w H s f fa as vs r S hf rr;refine aX λfn hfn=>aX λws hargs=>aG λq HE ev er R hq=>?_;obtain ⟨hfa,ad,name,qual,params,body,scope,dV,kV,doc,pm,an,cdv,ct,oc,od,osl,k1,k2,k3,k4,k6,k7,k8,k10⟩:=O.fns _ _ hfn;rw [hfa,hf] at k1;cases k1;refine (zni S.kIn k7 rr hargs).elim λus zq20=>?_;obtain ⟨hkind,hgen,hco,hps,hbd,hnp⟩:=rX k4;refine Y.below.elim λA₀ zq16=>zq16.elim λbase zq17=>zq17.elim λouter zq18=>?_;refine Y.top.elim λp zq11=>zq11.elim λloose zq12=>zq12.elim λmean zq13=>zq13.elim λmg zq14=>zq14.elim λmb zq15=>?_;obtain ⟨os,he,hn,hd⟩:=S.os;refine code_defC (binds:=(params.args.map (·.arg)).zip us) zq18.1 S.fr Y.k hn zq15 zq18.2 Y.frame Y.kind k2 k3 (by have:=Y.depth;show Y.A.depth<1000;exact Qi (QK (Qf _ _)) (Qa (Kh this) (Qn _ _))) zq20.2.2 ?_ k10 (λg L' h₁ tk cells FG F' N' Yc B' Xg Tg hlt=>?_) hco hgen hkind
  ·rw [Jc]
   intro y hy;rw [KI,beq_iff_eq,beq_iff_eq];exact hps y.1 (Xr hy).1
  let Y':aY C d 2:=⟨Y.A.deeper (envOfC qual scope L' fa cdv),g,L',envOfC qual scope L' fa cdv,⟨Y.A,base,Y.envF::outer,B',Around.frames_deeper zq18.2⟩,Xg,⟨p,loose,mean,mg,mb,Tg⟩,rfl,hkind,Y.handled,by have:=Y.depth;show Y.A.depth+1+4*d+2+2<=900;lia,by have:=Y.units;show Y.A.units+3+20*d+190+5*2<=9900;lia⟩
  have zq10:=iG (L'+1) scope.names (L'+1) [] (Qj _) .nil λ_ h=>absurd h Qq;have pm': ∀cells:Led,(os.flatten++(w.tp++(cells++(k.ce++k.ex)))).Perm (cells++(os.flatten++(w.tp++(k.ce++k.ex)))):=λcells=>(List.Perm.append_left _ (J5 _ _ _)).trans (J5 _ _ _);have S':St Y' ⟨cells,k.ce++k.ex,bindL (envOfC qual scope L' fa cdv).kindOf ((params.args.map (·.arg)).zip us) λ_=>none⟩ w H {s with heap:=h₁,toks:=tk}:=by
   refine ⟨F',⟨os,he,λp hp=>N' p ((pm' cells).mem_iff.mp hp),Led.nd.perm (pm' cells).symm (v7 ?_ hd λx hx y hy e=>?_)⟩,Qa S.big (Qa FG.above (QC FG.ns.lt)),S.lo⟩
   ·unfold Led.nd;rw [oG Yc];exact zq10.1
   ·have hx':x.1∈cells.map (·.1):=QF.mpr ⟨x,hx,rfl⟩
    rw [oG Yc] at hx';refine (QF.mp hx').elim λq zq9=>?_;exact absurd (Qi (hlt y hy) (Ki (zq10.2 q zq9.1))) (by rw [zq9.2,e];exact Q2 _)
  refine (zV O ih O.glob (zcb _ _ _) 40).2 _ _ hbd Y' _ _ _ _ _ _ (zG (Y:=Y') (gl:=gl) (fn:=fn) (ex:=k.ce++k.ex) hkind k8 zq20.1 (zq20.2.1.trans hnp.symm) Yc S') _ ev _ _ λk1 w1 f1 s1 n1 r1=>?_;have hv:=(za3 r1 er).1;obtain ⟨os1,he1,hn1,hd1⟩:=n1.pl.st.os;rw [show k1.all w1 os1=os1.flatten++(w1.tp++(k1.ce++(k.ce++k.ex))) from by unfold Kp.all;rw [n1.ex]] at hn1 hd1;have sub:(k.all w1 os1).Sublist (os1.flatten++(w1.tp++(k1.ce++(k.ce++k.ex)))):=(List.Sublist.refl _).append ((List.Sublist.refl _).append (List.sublist_append_right _ _));exact leaveK_ n1.pl.st.fr hn1 λF2 N2=>hq w1 _ s1 ⟨n1.le,⟨F2,⟨os1,(za3 r1 er).2▸he1,λp hp=>N2 p (sub.subset hp),List.Sublist.nodup (List.Sublist.map _ sub) hd1⟩,S.big,n1.pl.st.lo⟩,n1.same.1,n1.same.2⟩ hv
theorem zf6 (O:dN C gl) {s₁:Shared}{p:Program}{loose:List Str}{mean:ExcName->Option Value}{mg mb:Str->Option Value} (X:C.K.In s₁.heap) (T:Top p loose mean mg mb s₁.heap) (hbig:4<=s₁.heap.objs.size)
  {f:Nat}{fa:Addr}{mvs:List Val}{rv:Value}{r:Val×MH} (hf:C.ad.lookup f=some fa) (hlaw: ∀fn,C.P.fnAt f=some fn->fn.dfl= []) (hv:aF C ⟨[],[]⟩ (.fl mvs) rv) (ev:c7 C.P m4 61 f [.fl mvs] []=some r) {Q:Value->Shared->Prop}{E:Value->Shared->Prop}
  (hq: ∀w v s',aF C w r.1 v->(∀b o,s₁.heap.get? b=some o->s'.heap.get? b=some o) ->s'.gens=s₁.gens->s'.os=s₁.os->Q v s'):
  wpAny C.M callerA (call (.ref fa) [rv]) Q E s₁:=by
 revert ev
 refine aX λfn hfn=>aX λws hargs=>aG λq HE ev er=>?_;obtain ⟨hfa,ad,name,qual,params,body,scope,dV,kV,doc,pm,an,cdv,ct,oc,od,osl,k1,k2,k3,k4,k6,k7,k8,k10⟩:=O.fns _ _ hfn;rw [hfa,hf] at k1;cases k1;obtain ⟨k5,k7⟩:=k7.resolve_right λh=>h.1 (hlaw fn hfn);obtain ⟨hkind,hgen,hco,hps,hbd,hnp⟩:=rX k4;obtain ⟨hc,e⟩:=gs hargs;have hc:=Qb.mp hc;rw [k5] at hc e;rw [Ky,Q7] at e;cases e;have hl:1=fn.np:=Zx (QW.mp hc.1) (Yy (Xq.mp (QW.mp hc.2)));refine wpAny_call (codeAny_call_cells (binds:=(params.args.map (·.arg)).zip [rv]) (fd:=fnOf name qual params body scope dV kV doc pm an cdv ct) (body:=body) (by decide) (X _ _ k2) rfl T.nolimit (codeRec_of X k3) rfl (k7 [rv] hl) rfl ?_ (λs2 x=>?_) hco hgen hkind)
 ·intro y hy
  rcases hps y.1 (Xr hy).1 with h|h
  ·exact .inl h
  ·exact .inr ⟨h,cellsFrom_some _ _ _ (.inl h)⟩
 show wpAny C.M (callerA.deeper (envOfC qual scope s₁.heap.objs.size fa cdv)) (PySem.execs body (envOfC qual scope s₁.heap.objs.size fa cdv)) _ _ _;have x':InCallC s₁ s₁.heap.objs.size (bindL (envOfC qual scope s₁.heap.objs.size fa cdv).kindOf ((params.args.map (·.arg)).zip [rv]) λ_=>none) (cellsFrom (s₁.heap.objs.size+1) scope.names []) (bindC (envOfC qual scope s₁.heap.objs.size fa cdv).kindOf ((params.args.map (·.arg)).zip [rv]) λ_=>none) s2:=x;refine x.done.elim λh₁ zq2=>zq2.elim λtk zq3=>?_;obtain rfl:=zq3.1;have hk₁:=x'.toInCall.keep;refine (Cl.news (h₀:=s₁.heap) (Qj _) λn c hm=>⟨x'.cell n c (lookup_of_mem_nodup (cellsFrom_names scope.names 0 (s₁.heap.objs.size+1) [] [] rfl▸k10) hm),x'.above n c hm⟩).elim λcells zq1=>?_
 let Y':aY C 60 2:=⟨callerA.deeper (envOfC qual scope s₁.heap.objs.size fa cdv),s₁.heap,s₁.heap.objs.size,envOfC qual scope s₁.heap.objs.size fa cdv,⟨callerA,s₁.heap,[],below_caller _,rfl⟩,X,⟨p,loose,mean,mg,mb,T⟩,rfl,hkind,rfl,(by decide:301+1+4*60+2+2<=900),(by decide:4+3+20*60+190+5*2<=9900)⟩
 have eq:(⟨cells,[],bindL (envOfC qual scope s₁.heap.objs.size fa cdv).kindOf ((params.args.map (·.arg)).zip [rv]) λ_=>none⟩:Kp).all ⟨[],[]⟩ []=cells:=Q7 _;have S':St Y' ⟨cells,[],bindL (envOfC qual scope s₁.heap.objs.size fa cdv).kindOf ((params.args.map (·.arg)).zip [rv]) λ_=>none⟩ ⟨[],[]⟩ [] {s₁ with heap:=h₁,toks:=tk}:=
  ⟨(⟨x'.toInCall.ns,hk₁,Qj _⟩:Fr s₁.heap s₁.heap.objs.size h₁ (bindL (envOfC qual scope s₁.heap.objs.size fa cdv).kindOf ((params.args.map (·.arg)).zip [rv]) λ_=>none)),⟨[],⟨rfl,rfl⟩,eq.symm▸zq1.1,eq.symm▸(by unfold Led.nd;rw [oG zq1.2];exact ((iG 0 scope.names (s₁.heap.objs.size+1) [] (Qs _) .nil λ_ h=>absurd h Qq).1))⟩,hbig,λ_ h=>absurd h Qq⟩
 refine (zV O (zgP O 60) O.glob (zcb _ _ _) 40).2 _ _ hbd Y' _ _ _ _ _ _ (zG (Y:=Y') (gl:=gl) (fn:=fn) (ex:=[]) hkind k8 (.one hv) (by rw [hnp];exact hl) zq1.2 S') _ ev _ _ λk1 w1 f1 s1 n1 r1=>?_;exact hq w1 _ s1 (za3 r1 er).1 n1.pl.st.fr.keep n1.same.1 n1.same.2
end
def Data.seq? (d:Data):Option (List Value×Nat):=Yq (motive:=λ_=>Option (List Value×Nat)) d none (λ_=>none) (λxs n=>some (xs.toList,n)) (λ_ _=>none) (λ_ _ _=>none) (λ_ _=>none) (λ_=>none) (λ_=>none) (λ_=>none) (λ_=>none) none
theorem seq?_s {d:Data}{p:List Value×Nat}:Data.seq? d=some p->d= .seq p.1.toArray p.2:=by
 cases d<;>first|exact λe=>nos e|(intro e;cases e;rfl)
def Data.func? (d:Data):Option FuncData:=Yq (motive:=λ_=>Option FuncData) d none (λ_=>none) (λ_ _=>none) (λ_ _=>none) (λ_ _ _=>none) (λ_ _=>none) (λ_=>none) some (λ_=>none) (λ_=>none) none
theorem func?_s {d:Data}{f:FuncData}:Data.func? d=some f->d= .func f:=by
 cases d<;>first|exact λe=>nos e|(intro e;cases e;rfl)
def Value.ref? (v:Value):Option Addr:=YT (motive:=λ_=>Option Addr) v none none none (λ_=>none) (λ_ _=>none) (λ_ _=>none) (λ_ _=>none) (λ_ _=>none) (λ_=>none) (λ_=>none) some
theorem zvA?_s {v:Value}{a:Addr}:Value.ref? v=some a->v= .ref a:=by
 cases v<;>first|exact λe=>nos e|(intro e;cases e;rfl)
def zkg (v:Value) (i:Int):Bool:=YT (motive:=λ_=>Bool) v false false false (λ_=>false) (λj _=>j==i) (λ_ _=>false) (λ_ _=>false) (λ_ _=>false) (λ_=>false) (λ_=>false) (λ_=>false)
theorem zi7 {v:Value}{i:Int}:zkg v i=true-> ∃t,v= .int i t:=by
 cases v with
 |int j t=>exact λe=>⟨t,by rw [beq_iff_eq.mp e]⟩
 |_=>exact λe=>nomatch e
def zj3 (v:Value) (s:List Nat):Bool:=YT (motive:=λ_=>Bool) v false false false (λ_=>false) (λ_ _=>false) (λ_ _=>false) (λx _=>x.cps.toList==s) (λ_ _=>false) (λ_=>false) (λ_=>false) (λ_=>false)
theorem zhX {v:Value}{s:List Nat}:zj3 v s=true-> ∃t,v= .str ⟨s.toArray⟩ t:=by
 cases v with
 |str x t=>exact λe=>⟨t,by rw [<-beq_iff_eq.mp e]⟩
 |_=>exact λe=>nomatch e
def typeIs (v:Value) (o:Option String):Bool:=Qr (motive:=λ_=>Bool) o false λn=>v== .type n
def zzH (v:Value) (o:Option String):Bool:=Qr (motive:=λ_=>Bool) o false λn=>v== .builtin n
def yH (C:Cfg) (v:Value) (n:String):Option (List Value×Nat):=(Value.ref? v).bind λa=>(C.K.lookup a).bind λo=>grd (o.cls== .type n) (Data.seq? o.data)
inductive zvo (C:Cfg) (v:Value) (n:String) (p:List Value×Nat):Prop
 |mk (a:Addr) (o:Obj) (e:v= .ref a) (k:C.K.lookup a=some o) (c:o.cls= .type n) (d:o.data= .seq p.1.toArray p.2):zvo C v n p
theorem zbH {C:Cfg}{v:Value}{n:String}{p:List Value×Nat} (h:yH C v n=some p):zvo C v n p:=by
 refine (bs h).elim λa zq37=>?_;have h:=zq37.2;refine (bs h).elim λo zq36=>?_;have h:=zq36.2;obtain ⟨e3,h⟩:=gs h;exact ⟨a,o,zvA?_s zq37.1,zq36.1,beq_iff_eq.mp e3,seq?_s h⟩
def zcj (f:Val->Value->Bool):List Val->List Value->Bool
 | [],vs=>vs.isEmpty
 |m::ms,vs=>ZH (motive:=λ_=>Bool) vs false λv r=>f m v && zcj f ms r
def zcU (C:Cfg):Nat->Val->Value->Bool
 |0,_,_=>false
 |k+1,m,v=>Val.casesOn (motive_1:=λ_=>Bool) m (v== .none) (λb=>v== .bool b) (λi=>zkg v i) (λs=>zj3 v s && zlo s)
  (λms => Qr (motive:=λ_ => Bool) (yH C v "tuple") false λp => zcj (zcU C k) ms p.1 && Jt ms.length lim) (λ_ => false)
  (λid=>Qr (motive:=λ_=>Bool) (C.ad.lookup id) false λa=>v== .ref a) (λc=>typeIs v (iK.lookup c)) (λc=>zzH v (nG.lookup c)) (λ_=>false)
  (λms => Qr (motive:=λ_ => Bool) (yH C v "list") false λp => zcj (zcU C k) ms p.1 && Jt ms.length lim) (λ_ => false)
theorem p5 {C:Cfg}{f:Val->Value->Bool} (hf: ∀m v,f m v=true-> ∀w,aF C w m v) (w:Wd): ∀ (ms:List Val) (vs:List Value),zcj f ms vs=true->aD C w ms vs:=by
 intro ms
 induction ms with
 |nil=>intro vs h;exact Ku.mp h
 |cons m ms ih=>
  intro vs h;cases vs with
  |nil=>exact nomatch h
  |cons v r=>
   exact .cons (hf _ _ (Qb.mp h).1 w) (ih r (Qb.mp h).2)
theorem iU {α:Type}{o:Option α}{f:α->Bool} (h:Qr (motive:=λ_=>Bool) o false f=true): ∃a,o=some a/\f a=true:=by
 cases o with
 |none=>exact nomatch h
 |some a=>exact ⟨a,rfl,h⟩
theorem qN {C:Cfg}: ∀ (k:Nat) (m:Val) (v:Value),zcU C k m v=true-> ∀w,aF C w m v:=by
 intro k
 induction k with
 |zero=>exact λm v h=>nomatch h
 |succ k ih=>
  intro m v h w;cases m with
  |none=>exact beq_iff_eq.mp h
  |bool b=>exact beq_iff_eq.mp h
  |int i=>exact zi7 h
  |str s=>
   have h:=Qb.mp h;refine (zhX h.1).elim λt zq34=>?_;exact ⟨t,zq34,zeZ h.2⟩
  |tup ms=>
   obtain ⟨p,e,h⟩ := iU (o:=yH C v "tuple") h;obtain ⟨a,o,e,q1,q2,q3⟩:=zbH e;have h:=Qb.mp h;exact ⟨a,o,p.2,p.1,e,⟨.inr q1,q2,q3⟩,p5 ih w _ _ h.1,QW.mp h.2⟩
  |ref a=>exact nomatch h
  |top id=>
   obtain ⟨a,e,h⟩:=iU (o:=C.ad.lookup id) h;exact ⟨a,beq_iff_eq.mp h,e⟩
  |ty c=>
   obtain ⟨n,e,h⟩:=iU (o:=iK.lookup c) h;exact ⟨n,beq_iff_eq.mp h,e⟩
  |bi c=>
   obtain ⟨n,e,h⟩:=iU (o:=nG.lookup c) h;exact ⟨n,beq_iff_eq.mp h,e⟩
  |rng n=>exact nomatch h
  |fl ms=>
   obtain ⟨p,e,h⟩ := iU (o:=yH C v "list") h;obtain ⟨a,o,e,q1,q2,q3⟩:=zbH e;have h:=Qb.mp h;exact ⟨a,o,p.2,p.1,e,⟨q1,q2,q3⟩,p5 ih w _ _ h.1,QW.mp h.2⟩
  |setn n=>exact nomatch h
section
variable {C:Cfg}{gl:List (Str×Val)}
def oo (o:Option (Option Value)) (f:Value->Bool) (g:Bool):Bool:=Qr (motive:=λ_=>Bool) o false λx=>Qr (motive:=λ_=>Bool) x g f
theorem zlI {o:Option (Option Value)}{f:Value->Bool}{g:Bool} (h:oo o f g=true):(∃v,o=some (some v)/\f v=true)\/o=some none/\g=true:=by
 rcases o with _|_|v
 ·exact nomatch h
 ·exact .inr ⟨rfl,h⟩
 ·exact .inl ⟨v,rfl,h⟩
def glB (C : Cfg) (p : Str × Val) : Bool := oo (nsIn C.K mainGlobals p.1) (zcU C 5 p.2) (!(p.1 == "__name__") && oo (some (bootBuiltins p.1)) (zcU C 5 p.2) false)
theorem zuV {p:Str×Val} (h:glB C p=true): ∃rv,GlR C p rv:=by
 rcases zlI h with ⟨v,e,h⟩| ⟨e,h⟩
 ·exact ⟨v,qN _ _ _ h,.inl e⟩
 ·have h:=Qb.mp h
  rcases zlI h.2 with ⟨v,e2,h2⟩| ⟨_,h2⟩
  ·exact ⟨v,qN _ _ _ h2,.inr ⟨e,λq=>by rw [q] at h;exact absurd h.1 (by decide+kernel),Qx.inj e2⟩⟩
  ·exact nomatch h2
def zt6 (nms:List Str) (n:Nat):Option Str:=nms.find? λx=>enc x==n && aI x
theorem zft {nms:List Str}{n:Nat}{x:Str} (h:zt6 nms n=some x):aI x=true/\enc x=n:=by
 exact ⟨(Qb.mp (ZM (p:=λx=>enc x==n && aI x) h:(enc x==n && aI x)=true)).2,beq_iff_eq.mp (Qb.mp (ZM (p:=λx=>enc x==n && aI x) h:(enc x==n && aI x)=true)).1⟩
def zfA (C:Cfg) (nms:List Str) (c n:Nat) (f:Addr->Str->Bool):Bool:=Qr (motive:=λ_=>Bool) (C.ad.lookup c) false λca=>Qr (motive:=λ_=>Bool) (zt6 nms n) false λx=>plainGet C.K ca x && hasDictIn C.K ca && f ca x
theorem zbT {nms:List Str}{c n:Nat}{f:Addr->Str->Bool}{P:Addr->Str->Prop} (hf: ∀a x,f a x=true->P a x) (h:zfA C nms c n f=true):g8 C c n P:=by
 refine (iU h).elim λca zq26=>?_;have h:=zq26.2;refine (iU h).elim λx zq25=>?_;have h:=zq25.2;have h:=Qb.mp h;exact ⟨ca,x,zq26.1,(zft zq25.1).1,(zft zq25.1).2,(Qb.mp h.1).1,(Qb.mp h.1).2,hf _ _ h.2⟩
def zvb (o:Option CFound) (v:Value):Bool:=Qr (motive:=λ_=>Bool) o false λx=>CFound.casesOn (motive:=λ_=>Bool) x (λu=>u==v) λ_ _ _ _=>false
theorem zm3 {o:Option CFound}{v:Value} (h:zvb o v=true):o=some (.val v):=by
 rcases o with _|_|_
 ·exact nomatch h
 ·rw [beq_iff_eq.mp h]
 ·exact nomatch h
def zky (C:Cfg) (v:Val) (ca:Addr) (x:Str):Bool:=oo (findIn C.K (.ref ca) x) (λav=>zcU C 5 v av && bif u1 C.P v then
 isFn C.K av && (specialIn C.K (.ref ca) "__getattribute__" == some (some (.builtin "type.__getattribute__")) && Qr (motive:=λ_ => Bool) (typeIn C.K (.ref ca)) false λmc => readsIn C.K ca mc && zvb (findCls C.K (.ref ca) mc x) av)
 else specialIn C.K av "__get__" == some none && (handedIn av && !copiedNames.contains x)) false
theorem zjz {v:Val}{ca:Addr}{x:Str} (h:zky C v ca x=true):zhl C v ca x:=by
 rcases zlI h with ⟨av,e,h⟩| ⟨_,h⟩
 ·have h:=Qb.mp h
  refine ⟨av,e,qN _ _ _ h.1,λhi=>?_,λhi=>?_⟩
  ·rw [hi] at h
   have h1:=Qb.mp h.2;refine (iU (Qb.mp h1.2).2).elim λmc zq24=>?_;exact ⟨h1.1,beq_iff_eq.mp (Qb.mp h1.2).1,mc,zq24.1,(Qb.mp zq24.2).1,zm3 (Qb.mp zq24.2).2⟩
  ·rw [hi] at h
   have h1:=Qb.mp h.2;exact ⟨beq_iff_eq.mp h1.1,(Qb.mp h1.2).1,Xh _▸(Qb.mp h1.2).2⟩
 ·exact nomatch h
def zu2 (C : Cfg) (ca : Addr) (x : Str) : Bool := Qr (motive:=λ_ => Bool) (findIn C.K (.ref ca) x) false λat' => noGet C.K at' && (takerIn C.K ca x == some none && (findIn C.K (.ref ca) "__setattr__" == some (some (.builtin "object.__setattr__")) && plainOver C.K ca))
theorem zmR {ca:Addr}{x:Str} (h:zu2 C ca x=true):znx C ca x:=by
 refine (iU h).elim λat' zq23=>?_;have e:=zq23.1;have h:=zq23.2;have h:=Qb.mp h;have h2:=Qb.mp h.2;have h3:=Qb.mp h2.2;exact ⟨at',e,h.1,beq_iff_eq.mp h2.1,beq_iff_eq.mp h3.1,h3.2⟩
def zkh (C : Cfg) (c i : Nat) : Bool := Qr (motive:=λ_ => Bool) (C.ad.lookup c) false λca => Qr (motive:=λ_ => Bool) (C.ad.lookup i) false λfI => makesIn C.K ca && (findIn C.K (.ref ca) "__init__" == some (some (.ref fI)) && (isFn C.K (.ref fI) && keepIn C.K (.ref ca)))
theorem zjb {c i:Nat} (h:zkh C c i=true):sW C c i:=by
 refine (iU h).elim λca zq22=>?_;refine (iU zq22.2).elim λfI zq21=>?_;have h2:=Qb.mp (Qb.mp zq21.2).2;exact ⟨ca,fI,zq22.1,zq21.1,(Qb.mp zq21.2).1,beq_iff_eq.mp h2.1,(Qb.mp h2.2).1,(Qb.mp h2.2).2⟩
def clB (C:Cfg) (nms:List Str) (k:Cl):Bool:=(k.attrs.all λp=>zfA C nms k.addr p.1 (zky C p.2)) && ((k.flds.all λn=>zfA C nms k.addr n (zu2 C)) && (k.init.all λi=>zkh C k.addr i))
theorem zgt {α β:Type}{f g:α->Option β}: ∀ {l:List α},(∀x∈l,f x=g x) ->l.filterMap f=l.filterMap g:=by
 intro l
 induction l with
 |nil=>exact λ_=>rfl
 |cons x l ih=>intro h;rw [Zk,Zk,h x (.head _),ih λy hy=>h y (.tail _ hy)]
theorem zd0 {xs:List Str}: ∀ {vs:List Value},xs.Nodup->vs.length=xs.length->(∀n∈xs,((xs.zip vs).lookup n).isSome=true)/\(xs.filterMap λn=>((xs.zip vs).lookup n).map (n,·))=xs.zip vs:=by
 induction xs with
 |nil=>exact λ_ _=>⟨λ_ h=>absurd h Qq,rfl⟩
 |cons x xs ih=>
  intro vs nd hl;cases vs with
  |nil=>exact nomatch hl
  |cons v vs=>
   have nd:=Qw.mp nd;have i1:=(ih (vs:=vs) nd.2 (JZ.inj hl)).1;have ne: ∀n∈xs,(((x::xs).zip (v::vs)).lookup n)=(xs.zip vs).lookup n:=λn hn=>by
    rw [ZJ,Jf,beq_false_of_ne (show n≠x from λe=>nd.1 (e▸hn))]
   refine ⟨λn hn=>?_,?_⟩
   ·rcases QE.mp hn with rfl|hn
    ·rw [ZJ,Jf,beq_self_eq_true];rfl
    ·rw [ne n hn];exact i1 n hn
   ·rw [Zk,(zgt λn hn=>by rw [ne n hn]:(xs.filterMap λn=>(((x::xs).zip (v::vs)).lookup n).map (n,·))=xs.filterMap λn=>((xs.zip vs).lookup n).map (n,·)),(ih (vs:=vs) nd.2 (JZ.inj hl)).2,ZJ,Jf,beq_self_eq_true];rfl
theorem zbd {fd:FuncData}{vs:List Value} (h1:fd.params.posonlyargs= []) (h2:fd.params.vararg=none) (h3:fd.params.kwonlyargs= []) (h4:fd.params.kwarg=none) (hd:fd.defaults= .none) (hl:vs.length=(fd.params.args.map (·.arg)).length) (nd:(fd.params.args.map (·.arg)).Nodup):
  bindArgs fd ⟨vs,[]⟩=pure ((fd.params.args.map (·.arg)).zip vs):=by
 obtain ⟨e1,e2⟩:=zd0 nd hl;unfold bindArgs;have e3:((fd.params.args.map (·.arg)).take (fd.params.args.map (·.arg)).length).filter (λn=>(((fd.params.args.map (·.arg)).zip vs).lookup n).isNone)= []:=by
  rw [QR,List.filter_eq_nil_iff];intro n hn;rw [JR];intro q
  have:=e1 n hn
  rw [q] at this;exact nomatch this
 generalize hx:fd.params.args.map (·.arg)=xs at*
 have g2:((QY:Option (Array Value)).getD #[]).toList= []:=rfl;simp only [hx,h1,h2,h3,h4,hd,List.map_nil,KJ,Q7,List.forIn_nil,pure_bind,seqItems?,notAStandIn,(by rw [hl,decide_eq_false (Q2 _)];rfl:(decide (vs.length>xs.length) && (QY:Option Arg).isNone)=false),g2,Ky,Yw,Yr,e3,List.isEmpty_nil,XJ,Kc,if_false,List.zip_nil_right,e2]
def stm? (b:FuncBody):Option (List Stmt):=FuncBody.casesOn (motive:=λ_=>Option (List Stmt)) b some (λ_=>none)
theorem stm?_s {b:FuncBody}{l:List Stmt}:stm? b=some l->b= .stmts l:=by
 cases b<;>first|exact λe=>nos e|(intro e;cases e;rfl)
structure FdP where
 a:Addr
 o:Obj
 fd:FuncData
def zgv (C:Cfg) (f:Fn):Option FdP:=(C.ad.lookup f.addr).bind λa=>(C.K.lookup a).bind λo=>(Data.func? o.data).map λfd=>⟨a,o,fd⟩
def zjq (C:Cfg) (gl:List (Str×Val)) (f:Fn):Option (Nat×Nat×List Sm):=(zgv C f).bind λp=>(stm? p.fd.body).bind λb=>rY gl p.fd.params b p.fd.scope
def ndB {α:Type} [BEq α]:List α->Bool
 | []=>true
 |a::r=>!r.contains a && ndB r
theorem zfx {α:Type} [BEq α] [LawfulBEq α]: ∀ {l:List α},ndB l=true->l.Nodup:=by
 intro l
 induction l with
 |nil=>exact λ_=>List.nodup_nil
 |cons a r ih=>
  intro h;have h:=Qb.mp h;refine Qw.mpr ⟨λhm=>?_,ih h.2⟩;rw [Zp.mpr hm] at h;exact nomatch h.1
def zao (fd:FuncData):Bool:=fd.params.posonlyargs.isEmpty && (fd.params.vararg.isNone && (fd.params.kwonlyargs.isEmpty && (fd.params.kwarg.isNone && fd.defaults== .none)))
def fnB (C:Cfg) (f:Fn):Bool:=Qr (motive:=λ_=>Bool) (zgv C f) false λp=>(p.fd.globals==mainGlobals && (p.fd.closure.isEmpty && (p.fd.builtins==builtinsNs && (codeIn C.K p.fd.code p.fd.qualname && keepIn C.K (.ref p.a))))) && ((ndB (p.fd.params.args.map (·.arg)) && ndB ((cellsFrom 0 p.fd.scope.names []).map (·.1))) && (!f.dfl.isEmpty||zao p.fd))
def sY (C:Cfg) (f:Fn):Prop:=f.dfl≠ []-> ∀p,zgv C f=some p->nM C f p.fd (p.fd.params.args.map (·.arg))
theorem zu4 {fd:FuncData}{b:List Stmt} (k1:fd.globals=mainGlobals) (k2:fd.closure= []) (k3:fd.builtins=builtinsNs) (k4:fd.body= .stmts b):fd=fnOf fd.name fd.qualname fd.params b fd.scope fd.defaults fd.kwdefaults fd.doc fd.pyModule fd.annotations fd.code fd.closureTuple:=by
 cases fd;cases k1;cases k2;cases k3;cases k4;rfl
theorem zfe {fd:FuncData}{vs:List Value} (h:zao fd=true) (hl:vs.length=(fd.params.args.map (·.arg)).length) (nd:(fd.params.args.map (·.arg)).Nodup):bindArgs fd ⟨vs,[]⟩=pure ((fd.params.args.map (·.arg)).zip vs):=
 let h7:=Qb.mp h
 let h8:=Qb.mp h7.2
 let h9:=Qb.mp h8.2
 let h10:=Qb.mp h9.2
 zbd (Ku.mp h7.1) (JR.mp h8.1) (Ku.mp h9.1) (JR.mp h10.1) (beq_iff_eq.mp h10.2) hl nd
theorem fnF {f:Fn}{a:Addr}{o:Obj}{fd:FuncData}{b:List Stmt} (e1:C.ad.lookup f.addr=some a) (e2:C.K.lookup a=some o) (e3:Data.func? o.data=some fd) (eb:stm? fd.body=some b) (hc:rY gl fd.params b fd.scope=some (f.np,f.ns,f.body)) (hD:f.dfl≠ []->nM C f fd (fd.params.args.map (·.arg)))
  (h1:(fd.globals==mainGlobals && (fd.closure.isEmpty && (fd.builtins==builtinsNs && (codeIn C.K fd.code fd.qualname && keepIn C.K (.ref a)))))=true) (nd:(fd.params.args.map (·.arg)).Nodup) (nc:((cellsFrom 0 fd.scope.names []).map (·.1)).Nodup) (h2:(!f.dfl.isEmpty||zao fd)=true):xK C gl f:=by
 have h1:=Qb.mp h1;have h4:=Qb.mp (Qb.mp h1.2).2;have ef:=zu4 (beq_iff_eq.mp h1.1) (Ku.mp (Qb.mp h1.2).1) (beq_iff_eq.mp h4.1) (stm?_s eb);exact ⟨a,fd.name,fd.qualname,fd.params,b,fd.scope,fd.defaults,fd.kwdefaults,fd.doc,fd.pyModule,fd.annotations,fd.code,fd.closureTuple,o.cls,o.dict,o.slots,e1,ef▸func?_s e3▸e2,(Qb.mp h4.2).1,hc,(Qb.mp h4.2).2,ef▸((Decidable.em (f.dfl= [])).elim .inr λh=> .inl (hD h):nM C f fd (fd.params.args.map (·.arg))\/f.dfl= []).elim id λhd=> .inl ⟨hd,λvs hl=>zfe ((YO.mp h2).resolve_left (by rw [hd];exact λh=>nomatch h)) (hl.trans (by obtain ⟨_,_,_,_,_,np⟩:=rX hc;exact np:(fd.params.args.map (·.arg)).length=f.np).symm) nd⟩,nd,nc⟩
theorem zu1 {f:Fn} (h:fnB C f=true) (hc:zjq C gl f=some (f.np,f.ns,f.body)) (hD:sY C f):xK C gl f:=by
 obtain ⟨p,e,h⟩:=iU h;unfold zjq at hc;rw [e] at hc;obtain ⟨b,eb,hc⟩:=bs (show ((stm? p.fd.body).bind λb=>rY gl p.fd.params b p.fd.scope)=_ from hc);have hD:=λh=>hD h p e;obtain ⟨a,e1,e⟩:=bs e;obtain ⟨o,e2,e⟩:=bs e;refine (ms e).elim λfd zq14=>?_;obtain rfl:=zq14.2;have h5:=Qb.mp (Qb.mp h).2;exact fnF e1 e2 zq14.1 eb hc hD (Qb.mp h).1 (zfx (Qb.mp h5.1).1) (zfx (Qb.mp h5.1).2) h5.2
def zfd (o:Obj):Bool:=Yq (motive:=λ_=>Bool) o.data true (λ_=>false) (λ_ _=>false) (λ_ _=>false) (λ_ _ _=>false) (λ_ _=>false) (λ_=>false) (λ_=>false) (λ_=>false) (λ_=>false) false
def zgC (o:Obj):Bool:=Yq (motive:=λ_=>Bool) o.data false (λ_=>false) (λ_ _=>false) (λes _=>es.isEmpty) (λ_ _ _=>false) (λ_ _=>false) (λ_=>false) (λ_=>false) (λ_=>false) (λ_=>false) false
def zgf (C:Cfg) (p:Nat×Nat):Bool:=Qr (motive:=λ_=>Bool) (C.ad.lookup p.1) false λa=>Qr (motive:=λ_=>Bool) (C.ad.lookup p.2) false λca=>Qr (motive:=λ_=>Bool) (C.K.lookup a) false λo=>Qr (motive:=λ_=>Bool) o.dict false λdx=>
 Qr (motive:=λ_ => Bool) (C.K.lookup dx) false λo' => (o.cls == .ref ca && (zfd o && o.slots.isEmpty)) && ((o'.cls == .type "dict" && o'.dict.isNone) && (zgC o' && o'.slots.isEmpty))
theorem zfc {o:Obj} (h:zfd o=true):o.data= .plain:=by
 obtain ⟨c,d,x,s⟩:=o;cases x<;>first|rfl|exact nomatch h
theorem zgB {o:Obj} (h:zgC o=true): ∃n,o.data= .dict #[] n:=by
 obtain ⟨c,d,x,s⟩:=o;cases x with
 |dict es n=>exact ⟨n,by rw [K9.mp h]⟩
 |_=>exact nomatch h
theorem zi8 {p:Nat×Nat} (h:zgf C p=true):sV C p.1 p.2:=by
 refine (iU h).elim λa zq13=>?_;have h:=zq13.2;refine (iU h).elim λca zq12=>?_;have h:=zq12.2;refine (iU h).elim λo zq11=>?_;have h:=zq11.2;refine (iU h).elim λdx zq10=>?_;have h:=zq10.2;obtain ⟨o',e5,h⟩:=iU h;have h:=Qb.mp h;have h1:=Qb.mp h.1;have h4:=Qb.mp (Qb.mp h.2).1;have h5:=Qb.mp (Qb.mp h.2).2;obtain ⟨n,e6⟩:=zgB h5.1;refine ⟨a,ca,dx,n,zq13.1,zq12.1,?_,?_⟩
 ·rw [zq11.1,<-beq_iff_eq.mp h1.1,<-zq10.1,<-zfc (Qb.mp h1.2).1,<-K9.mp (Qb.mp h1.2).2]
 ·obtain ⟨c,d,x,s⟩:=o'
  cases beq_iff_eq.mp h4.1;cases JR.mp h4.2;cases e6;cases K9.mp h5.2;exact e5
def adB (C : Cfg) : Bool := C.ad.all λp => Qr (motive:=λ_ => Bool) (C.K.lookup p.2) false λo => !(o.cls == .type "tuple")
def zzz (C:Cfg):Bool:=(C.K.lookup 0).isSome && ((C.K.lookup 1).isSome && ((C.K.lookup 2).isSome && (C.K.lookup 3).isSome))
theorem zi9 {l:List (Nat×Addr)}:(l.map (·.2)).Nodup-> ∀ {i j:Nat}{a:Addr},(i,a)∈l->(j,a)∈l->i=j:=by
 induction l with
 |nil=>exact λ_ _ _ _ h _=>absurd h Qq
 |cons p r ih=>
  intro hn i j a h1 h2;have hn:=Qw.mp hn;rcases QE.mp h1 with h1|h1<;>rcases QE.mp h2 with h2|h2
  ·exact congrArg (·.1) (h1.trans h2.symm)
  ·exact absurd (QF.mpr ⟨(j,a),h2,show a=p.2 from congrArg (λq:Nat×Addr=>q.2) h1⟩) hn.1
  ·exact absurd (QF.mpr ⟨(i,a),h1,show a=p.2 from congrArg (λq:Nat×Addr=>q.2) h2⟩) hn.1
  ·exact ih hn.2 h1 h2
theorem zm2 (h1:adB C=true) (h2:ndB (C.ad.map (·.2))=true) (h3:zzz C=true):nL C:=by
 refine ⟨λid a h=>?_,λi j a hi hj=>zi9 (zfx h2) (bO hi) (bO hj),λb hb=>?_⟩
 ·refine (iU (Jc.mp h1 _ (bO h))).elim λo zq7=>?_
  have h:=zq7.2;exact ⟨o,zq7.1,λhc=>by rw [hc] at h;exact absurd h (by decide+kernel)⟩
 ·have h3:=Qb.mp h3
  have h4:=Qb.mp h3.2;have h5:=Qb.mp h4.2;rcases b with _|_|_|_|b
  ·exact Jl.mp h3.1
  ·exact Jl.mp h4.1
  ·exact Jl.mp h5.1
  ·exact Jl.mp h5.2
  ·exact absurd hb (ZV.mpr (Qn 4 b))
theorem zla {nms:List Str} (hc:C.P.fns.map (zjq C gl)=C.P.fns.map λf=>some (f.np,f.ns,f.body)) (hf:C.P.fns.all (fnB C)=true) (hD: ∀f∈C.P.fns,sY C f) (hg:gl.all (glB C)=true) (hi:C.P.insts.all (zgf C)=true) (hk:C.P.cls.all (clB C nms)=true) (h5:nL C) (h6:zck C):dN C gl:=by
 have cls: ∀ {c k},C.P.clsAt c=some k->k.addr=c/\clB C nms k=true:=λ{c k} h=>⟨beq_iff_eq.mp (ZM (p:=λx:Cl=>x.addr==c) h),Jc.mp hk k (Zv h)⟩;refine ⟨λx v h=>zuV (Jc.mp hg (x,v) (bO h)),λa f h=>?_,λid c h=>?_,λc n v h=>?_,λc n h=>?_,λc k i h hi=>?_,h5,h6⟩
 ·have hm:=Zv h
  exact ⟨beq_iff_eq.mp (ZM (p:=λf:Fn=>f.addr==a) h),zu1 (Jc.mp hf f hm) (List.map_inj_left.mp hc f hm) (hD f hm)⟩
 ·obtain ⟨p,hp,rfl⟩:=ms h
  rw [<-beq_iff_eq.mp (ZM (p:=λp:Nat×Nat=>p.1==id) hp)];exact zi8 (Jc.mp hi p (Zv hp))
 ·obtain ⟨k,hk,h⟩:=bs h
  obtain ⟨p,hp,rfl⟩:=ms h;obtain ⟨e,hb⟩:=cls hk;rw [<-e,<-beq_iff_eq.mp (ZM (p:=λp:Nat×Val=>p.1==n) hp)];exact zbT (λ_ _=>zjz) (Jc.mp (Qb.mp hb).1 p (Zv hp))
 ·unfold Prg.hasFld at h
  cases hk:C.P.clsAt c with
  |none=>rw [hk] at h;exact nomatch h
  |some k=>
   rw [hk] at h;rw [<-(cls hk).1];exact zbT (λ_ _=>zmR) (Jc.mp (Qb.mp (Qb.mp (cls hk).2).2).1 n (Zp.mp h))
 ·obtain ⟨e,hb⟩:=cls h
  have:=(Qb.mp (Qb.mp hb).2).2
  rw [hi] at this;rw [<-e];exact zjb this
end
theorem zb2 {vs:List Value}{ns:List Int} (h:IntsAre vs ns):kf_ints vs=true/\lks_nums vs=ns:=by
 induction h with
 |nil=>exact ⟨rfl,rfl⟩
 |cons n t _ ih=>exact ⟨ih.1,congrArg (n:: ·) ih.2⟩
theorem znh {l:List Int} (h:l.Pairwise (· <= ·)):lks_asc l=true:=by
 induction h with
 |nil=>rfl
 |cons h _ ih=>exact Qb.mpr ⟨Jc.mpr λb hb=>decide_eq_true (h b hb),ih⟩
theorem zei {C:Cfg}{w:Wd}{t:Nat->Tok}: ∀ {l:List Int}{i:Nat},aD C w (l.map Val.int) (lks_vals l i t):=by
 intro l
 induction l with
 |nil=>exact λ{i} => .nil
 |cons a l ih=>exact λ{i} => .cons ⟨_,rfl⟩ ih
theorem zh4 (l:List Int):(pC l).Perm l/\(pC l).Pairwise (· <= ·):=by
 refine ⟨KQ ..,?_⟩
 have:=List.pairwise_mergeSort (le:=λa b:Int=>decide (a<=b)) (λa b c h1 h2=>decide_eq_true (Int.le_trans (of_decide_eq_true h1) (of_decide_eq_true h2))) (λa b=>by rcases Int.le_total a b with h|h<;>simp [h]) l
 exact this.imp λh=>of_decide_eq_true h
theorem zvO (C : Cfg) : zck C := λ{d e Y k w H s as vs} K S r => .a1 (T:=λl => call (.builtin "sorted") l) r λx v hx => .opt λp hp => .opt λl hl => .grd λhc => by
 intro r' e' Q E hq;cases e';have hc:=Qb.mp hc;have h64:l.length<64:=QW.mp hc.2;refine (S.dict hx hp).elim λ_ zq17=>?_;obtain ⟨b,n,es,rfl,hmod,_,hg,hdr,hlim,_⟩:=zq17.2;have hll:l.length=p.2.length:=by
  have go: ∀ {ms:List Val}{l:List Int},u2 ms=some l->l.length=ms.length:=by
   intro ms
   induction ms with
   |nil=>intro l h;cases h;rfl
   |cons m ms ih=>
    intro l h;obtain ⟨y,ys,_,e2,rfl⟩:=wA h;exact congrArg JZ (ih e2)
  rw [go hl,Qe]
 rcases hdr with ⟨kvs,D⟩| ⟨xs,D⟩
 ·have hkl:kvs.length=l.length:=by rw [hll];exact (y3 D.e).symm
  have hk: ∀ (j:Nat) (q:Atom×Value),kvs[j]?=some q-> ∃z,l[j]?=some z/\q.1= .i z:=by
   have go: ∀ {kvs:List (Atom×Value)}{l:List Int},u2 (kvs.map λp=>p.1.val)=some l-> ∀ (j:Nat) (q:Atom×Value),kvs[j]?=some q-> ∃z,l[j]?=some z/\q.1= .i z:=by
    intro kvs
    induction kvs with
    |nil=>exact λ_ _ _ e=>nos e
    |cons a kvs ih=>
     intro l h j q hq;obtain ⟨y,ys,e1,e2,rfl⟩:=wA h;cases j with
     |zero=>
      cases hq;obtain ⟨at1,_⟩:=a;cases at1 with
      |i n=>cases e1;exact ⟨_,rfl,rfl⟩
      |s x=>exact nos e1
     |succ j=>exact ih (l:=ys) e2 j q hq
   exact go (by rw [<-D.e];exact hl)
  obtain ⟨all,hn,add,_,_⟩:=S.ledger;obtain ⟨ep,hat⟩:=(D.dictOf hg).dictAt;refine kdu_sorted (kdl_dict (knd:=b9 C.prog C.w) (kvs:=kvs) (ep:=ep) hmod) Y.handled S.fr hn hat (by rw [hkl];exact Qa (QC h64) (by decide)) λB h' tk vs F' N' hlt hvl hvs=>?_;have hI:IntsAre vs l:=by
   have go: ∀ {vs:List Value}{l:List Int},vs.length=l.length->(∀ (j:Nat) (v:Value),vs[j]?=some v-> ∃z t,l[j]?=some z/\v= .int z t) ->IntsAre vs l:=by
    intro vs
    induction vs with
    |nil=>intro l h _;cases l with
     |nil=>exact .nil
     |cons _ _=>exact nomatch h
    |cons v vs ih=>intro l h hj;cases l with
     |nil=>exact nomatch h
     |cons z l=>
      obtain ⟨z',t,e1,rfl⟩:=hj 0 v rfl;cases e1;exact .cons z t (ih (JZ.inj h) λj v hv=>hj (j+1) v hv)
   refine go (hvl.trans hkl) λj v hv=>?_;obtain ⟨a,x,hx,ha⟩:=hvs j v hv;obtain ⟨z,hz,e⟩:=hk j _ hx;have e:a= .i z:=e;subst e;obtain ⟨t,rfl⟩:=JT (show XY z v=true from ha);exact ⟨z,t,hz,rfl⟩
  have zq4:=zh4 l;refine lks_sort (its:=vs.toArray) (n:=0) (q:=pC l) (news':=λt=>(B,listOf (lks_vals (pC l) 0 t).toArray (0+2))::all) F' N' (λt=> .head λp hp=>Zd (hlt p hp)) (zb2 hI).1 ?_ ?_ ?_ λt h2 F2 N2=>?_
  ·show ((lks_nums vs).isPerm (pC l) && lks_asc (pC l))=true
   rw [(zb2 hI).2,znh zq4.2,Yf];exact List.isPerm_iff.mpr zq4.1.symm
  ·show vs.isEmpty=false
   cases vs with
   |nil=>rw [show l= [] from by cases hI;rfl] at hc;exact nomatch hc.1
   |cons _ _=>rfl
  ·show vs.length<64
   rw [hvl,hkl];exact h64
  ·have h4:4<=B:=Q0 λhlt4=>by
    refine (K.low B hlt4).elim λo zq3=>?_
    have:=(N' (B,_) (.head _)).2.2
    rw [Y.k B o zq3] at this;exact nomatch this
   refine hq _ _ {s with heap:=h2,toks:=tk} ⟨(⟨Q9 _ _,λ_ x=>x⟩:w.le ⟨w.σ++ [B],w.tp⟩),add B (.list ((pC l).map .int)) [(B,listOf (lks_vals (pC l) 0 t).toArray (0+2))] h2 ⟨_,_,rfl,zei,by rw [Qe,zq4.1.length_eq];exact Qa (QC h64) (by decide)⟩ F2 N2 (hO _) (λp hp q hq=>by rw [Qu.mp hp];exact λe=>absurd (hlt q hq) (by rw [<-e];exact Q2 _)) h4,rfl,rfl⟩ ⟨_,rfl,by rw [<-S.len];exact Jk⟩
 ·exfalso
  have e:=D.e;cases xs with
  |nil=>rw [KO.mp e] at hl;cases hl;exact nomatch hc.1
  |cons a xs=>
   cases hp2:p.2 with
   |nil=>rw [hp2] at e;cases e
   |cons q qs=>
    rw [hp2] at e hl;refine (wA hl).elim λy zq1=>zq1.elim λys zq2=>?_;have e1:=zq2.1;have e1:q.1.int?=some y:=e1;rw [show q.1= .tup (a.1.map Atom.val) from (Z0.inj e).1] at e1;exact nos e1
end Internal
namespace Internal
structure W {α:Type} (o:Option (α×MH)) (Q:α->MH->Prop):Prop where
 w:Qr (motive:=λ_=>Prop) o False λp=>Q p.1 p.2
structure Wo {α:Type} (o:Option α) (Q:α->Prop):Prop where
 w:Qr (motive:=λ_=>Prop) o False Q
section
variable {α β:Type}{o:Option (α×MH)}{Q:α->MH->Prop}
theorem W.get (h:W o Q): ∃a g,o=some (a,g)/\Q a g:=by
 cases o with
 |none=>exact h.w.elim
 |some p=>exact ⟨p.1,p.2,rfl,h.w⟩
theorem W.mono {Q':α->MH->Prop} (h:W o Q) (i: ∀a g,Q a g->Q' a g):W o Q':=by
 cases o with
 |none=>exact ⟨h.w⟩
 |some p=>exact ⟨i _ _ h.w⟩
theorem W.of {a:α}{g:MH} (e:o=some (a,g)) (q:Q a g):W o Q:=by subst e;exact ⟨q⟩
theorem cB {a:α}{g:MH} (q:Q a g):W (some (a,g)) Q:=⟨q⟩
theorem w_bnd {f:α->MH->Option (β×MH)}{R:β->MH->Prop} (h:W o λa g=>W (f a g) R):W (bnd o f) R:=by
 cases o with
 |none=>exact h.w.elim
 |some p=>exact h.w
theorem w_bnd' {f:α->MH->Option (β×MH)}{R:β->MH->Prop} (h:W (bnd o f) R):W o λa g=>W (f a g) R:=by
 cases o with
 |none=>exact ⟨h.w⟩
 |some p=>exact ⟨h⟩
theorem zbq {b:β}{P:β->Prop} (q:P b):Wo (some b) P:=⟨q⟩
theorem mH {x:Option β}{f:β->Option (α×MH)} (h:Wo x λb=>W (f b) Q):W (x.bind f) Q:=by
 cases x with
 |none=>exact h.w.elim
 |some b=>exact h.w
theorem uG {x:Option β}{f:β->α×MH} (h:Wo x λb=>Q (f b).1 (f b).2):W (x.map f) Q:=by
 cases x with
 |none=>exact h.w.elim
 |some b=>exact ⟨h.w⟩
theorem zbv {b:Bool} (hb:b=true) (h:W o Q):W (grd b o) Q:=by subst hb;exact h
theorem xR {o':Option (α×MH)} (h:W o Q):W (alt o o') Q:=by
 cases o with
 |none=>exact h.w.elim
 |some p=>exact ⟨h.w⟩
theorem Wo.mono {o:Option β}{P P':β->Prop} (h:Wo o P) (i: ∀a,P a->P' a):Wo o P':=by
 cases o with
 |none=>exact ⟨h.w⟩
 |some a=>exact ⟨i a h.w⟩
theorem Wo.of {o:Option β}{P:β->Prop}{a:β} (e:o=some a) (q:P a):Wo o P:=by subst e;exact ⟨q⟩
theorem i5 {p:Option (Val×MH)}{Q:Bool->MH->Prop} (h:W p λv g=>Wo (truthy g v) λb=>Q b g):W (b6 p) Q:=w_bnd (h.mono λv g h=>uG (f:=λb=>(b,g)) h)
end
def WB (op:BOp) (x y:Val) (h:MH) (Q:Val->MH->Prop):Prop:=W (gA op x y h) Q
def WC (op:COp) (x y:Val) (h:MH) (Q:Val->MH->Prop):Prop:=Wo (dQ op x y h) λr=>Q (.bool r) h
def WT (x:Val) (h:MH) (Q:Bool->Prop):Prop:=Wo (truthy h x) Q
def WI (o k:Val) (h:MH) (Q:Val->MH->Prop):Prop:=Wo (bV h o k) λv=>Q v h
def WA (P:Prg) (o:Val) (n:Nat) (h:MH) (Q:Val->MH->Prop):Prop:=Wo (getAttr P h o n) λv=>Q v h
def WSl (o:Val) (k:Nat) (bs:List Val) (h:MH) (Q:Val->MH->Prop):Prop:=W (slice h o k bs) Q
def WV (c:Cx) (f:Val) (as:List Val) (h:MH) (Q:Val->MH->Prop):Prop:=W (aM c f as h) Q
def WM (c:Cx) (o:Val) (n:Nat) (as:List Val) (h0 h:MH) (Q:Val->MH->Prop):Prop:=W (bI c o n as h0 h) Q
def WSt (c:Cx) (ts:List T1) (vs:List Val) (fr:Frame) (h:MH) (Q:Frame->MH->Prop):Prop:=W (fM c ts vs fr h) Q
def Br (r:Bool) (A B:Prop):Prop:=(r=true->A)/\(r=false->B)
theorem br {r:Bool}{A B:Prop} (a:r=true->A) (b:r=false->B):Br r A B:=⟨a,b⟩
theorem zm5 {A B:Prop} (a:A):Br true A B:=⟨λ_=>a,λh=>nomatch h⟩
theorem zzG {A B:Prop} (b:B):Br false A B:=⟨λh=>(nomatch h:False).elim,λ_=>b⟩
abbrev Cxd (P:Prg) (d:Nat):Cx:=⟨P,200000,c7 P 200000 d⟩
section
variable {c:Cx}{fr:Frame}{h:MH}{Q:Val->MH->Prop}{P:Prg}{d:Nat}
def WE (c:Cx) (fr:Frame) (e:Ex) (h:MH) (Q:Val->MH->Prop):Prop:=W (eval c e fr h) Q
def WEs (c:Cx) (fr:Frame) (es:List Ex) (h:MH) (Q:List Val->MH->Prop):Prop:=W (gT c es fr h) Q
theorem z6 {x:Nat}{v:Val} (hx:fr[x]?=some (some v)) (q:Q v h):WE c fr (.var x) h Q:=by
 show W ((fr[x]?).bind λo=>o.map λv=>(v,h)) Q;rw [hx];exact ⟨q⟩
theorem zkV {v:Val} (q:Q v h):WE c fr (.lit v) h Q:=cB q
theorem zbs {Q:List Val->MH->Prop} (q:Q [] h):WEs c fr [] h Q:=cB q
theorem zd7 {Q:List Val->MH->Prop}{e:Ex}{r:List Ex} (q:WE c fr e h λv h1=>WEs c fr r h1 λvs h2=>Q (v::vs) h2):WEs c fr (e::r) h Q:=w_bnd (W.mono q λv h1 q=>w_bnd (W.mono q λ_ _ q=>cB q))
theorem zbt {es:List Ex} (q:WEs c fr es h λvs h1=>Q (.ref h1.length) (h1++ [.list vs])):WE c fr (.list es) h Q:=w_bnd (W.mono q λ_ _ q=>cB q)
theorem zkS {es:List Ex} (q:WEs c fr es h λvs h1=>Q (.tup vs) h1):WE c fr (.tup es) h Q:=w_bnd (W.mono q λ_ _ q=>cB q)
theorem zkZ {op:BOp}{a b:Ex} (q:WE c fr a h λx h1=>WE c fr b h1 λy h2=>WB op x y h2 Q):WE c fr (.bin op a b) h Q:=w_bnd (W.mono q λx h1 q=>w_bnd q)
theorem zkU {a:Ex} (q:WE c fr a h λx h1=>WT x h1 λb=>Q (.bool (!b)) h1):WE c fr (.not a) h Q:=w_bnd (i5 (W.mono q λ_ _ q=>Wo.mono q λ_ q=>cB q))
theorem zkX {op:COp}{a b:Ex} (q:WE c fr a h λx h1=>WE c fr b h1 λy h2=>WC op x y h2 Q):WE c fr (.cmp op a b) h Q:=w_bnd (W.mono q λx h1 q=>w_bnd (W.mono q λy h2 q=>uG (f:=λr=>(Val.bool r,h2)) q))
theorem wZ {α:Type}{r:Bool}{a b:Option (α×MH)}{Q:α->MH->Prop} (q:Br r (W a Q) (W b Q)):W (bif r then a else b) Q:=by
 cases r with
 |true=>exact q.1 rfl
 |false=>exact q.2 rfl
theorem zkW {t a b:Ex} (q:WE c fr t h λx h1=>WT x h1 λr=>Br r (WE c fr a h1 Q) (WE c fr b h1 Q)):WE c fr (.ite t a b) h Q:=w_bnd (i5 (W.mono q λx h1 q=>Wo.mono q λr q=>wZ q))
theorem zhG {e:Ex}{n:Nat} (q:WE c fr e h λo h1=>WA c.P o n h1 Q):WE c fr (.attr e n) h Q:=w_bnd (W.mono q λo h1 q=>uG (f:=λv=>(v,h1)) q)
theorem zkT {e i:Ex} (q:WE c fr e h λo h1=>WE c fr i h1 λk h2=>WI o k h2 Q):WE c fr (.sub e i) h Q:=w_bnd (W.mono q λo h1 q=>w_bnd (W.mono q λk h2 q=>uG (f:=λv=>(v,h2)) q))
theorem zd8 {e:Ex}{k:Nat}{bs:List Ex} (q:WE c fr e h λo h1=>WEs c fr bs h1 λvs h2=>WSl o k vs h2 Q):WE c fr (.slice e k bs) h Q:=w_bnd (W.mono q λo h1 q=>w_bnd q)
theorem zhE {f:Ex}{as:List Ex} (q:WE c fr f h λg h1=>WEs c fr as h1 λvs h2=>WV c g vs h2 Q):WE c fr (.call f as) h Q:=w_bnd (W.mono q λo h1 q=>w_bnd q)
theorem zhD {o:Ex}{n:Nat}{as:List Ex} (q:WE c fr o h λg h1=>WEs c fr as h1 λvs h2=>WM c g n vs h1 h2 Q):WE c fr (.meth o n as) h Q:=w_bnd (W.mono q λo h1 q=>w_bnd q)
theorem zhF {st:Bool}{e:Ex} (q:WE c fr e h Q):WE c fr (.bop st [e]) h Q:=w_bnd (f:=λv h1=>some (v,h1)) (W.mono q λ_ _ q=>cB q)
theorem zkY {st:Bool}{e f:Ex}{r:List Ex} (q:WE c fr e h λv h1=>WT v h1 λb=>Br (b==st) (Q v h1) (WE c fr (.bop st (f::r)) h1 Q)):WE c fr (.bop st (e::f::r)) h Q:=w_bnd (f:=λv h1=>(truthy h1 v).bind λb=>bif b==st then some (v,h1) else oW c st (f::r) fr h1) (W.mono q λv h1 q=>mH (Wo.mono q λb q=>wZ ⟨λh=>cB (q.1 h),q.2⟩))
variable {R:Fl->Frame->MH->Prop}
def WS (c:Cx) (s:Sm) (fr:Frame) (h:MH) (R:Fl->Frame->MH->Prop):Prop:=W (exec c s fr h) λp h=>R p.1 p.2 h
def WSs (c:Cx) (s:List Sm) (fr:Frame) (h:MH) (R:Fl->Frame->MH->Prop):Prop:=W (execs c s fr h) λp h=>R p.1 p.2 h
theorem zhs (q:R .nx fr h):WSs c [] fr h R:=cB (a:=(Fl.nx,fr)) q
def Beh (c:Cx) (r:List Sm) (R:Fl->Frame->MH->Prop) (fl:Fl) (fr:Frame) (h:MH):Prop:=Fl.casesOn (motive:=λ_=>Prop) fl (WSs c r fr h R) (R .bk fr h) (R .ct fr h) λv=>R (.rt v) fr h
theorem zd3 {s:Sm}{r:List Sm} (q:WS c s fr h (Beh c r R)):WSs c (s::r) fr h R:=by
 show W (bnd (exec c s fr h) λ(p:Fl×Frame) h1=>Fl.casesOn (motive:=λ_=>SR) p.1 (execs c r p.2 h1) (some (p,h1)) (some (p,h1)) (λ_=>some (p,h1))) λp h=>R p.1 p.2 h;exact w_bnd (W.mono q λp h1 q=>by
  obtain ⟨fl,f2⟩:=p;cases fl with
  |nx=>exact q
  |bk=>exact ⟨q⟩
  |ct=>exact ⟨q⟩
  |rt v=>exact ⟨q⟩)
theorem zhw {e:Ex} (q:WE c fr e h λ_ h1=>R .nx fr h1):WS c (.expr e) fr h R:=by
 show W (bnd (eval c e fr h) λ_ h1=>some ((Fl.nx,fr),h1)) λp h=>R p.1 p.2 h;exact w_bnd (W.mono q λ_ _ q=>⟨q⟩)
theorem zhy {ts:List T1}{e:Ex} (q:WE c fr e h λv h1=>Wo (items h1 v) λvs=>WSt c ts vs fr h1 λf2 h2=>R .nx f2 h2):WS c (.asgs ts e) fr h R:=by
 show W (bnd (eval c e fr h) λv h1=>(items h1 v).bind λvs=>bnd (fM c ts vs fr h1) λfr' h2=>some ((Fl.nx,fr'),h2)) λp h=>R p.1 p.2 h;exact w_bnd (W.mono q λv h1 q=>mH (Wo.mono q λvs q=>w_bnd (W.mono q λ_ _ q=>⟨q⟩)))
theorem zkN {e:Ex} (q:WE c fr e h λv h1=>R (.rt v) fr h1):WS c (.ret e) fr h R:=by
 show W (bnd (eval c e fr h) λv h1=>some ((Fl.rt v,fr),h1)) λp h=>R p.1 p.2 h;exact w_bnd (W.mono q λ_ _ q=>⟨q⟩)
theorem zkO {t:Ex}{a b:List Sm} (q:WE c fr t h λx h1=>WT x h1 λr=>Br r (WSs c a fr h1 R) (WSs c b fr h1 R)):WS c (.ite t a b) fr h R:=by
 show W (bnd (b6 (eval c t fr h)) λr h1=>bif r then execs c a fr h1 else execs c b fr h1) λp h=>R p.1 p.2 h;exact w_bnd (i5 (W.mono q λx h1 q=>Wo.mono q λr q=>wZ q))
theorem zkP (q:R .bk fr h):WS c .brk fr h R:=cB (a:=(Fl.bk,fr)) q
theorem zhx (q:R .ct fr h):WS c .cont fr h R:=cB (a:=(Fl.ct,fr)) q
theorem zht (q:R .nx fr h):WS c .pass fr h R:=cB (a:=(Fl.nx,fr)) q
def WF (P:Prg) (d f:Nat) (as:List Val) (h:MH) (Q:Val->MH->Prop):Prop:=W (c7 P 200000 d f as h) Q
def Fin (Q:Val->MH->Prop) (fl:Fl) (_:Frame) (h:MH):Prop:=Fl.casesOn (motive:=λ_=>Prop) fl (Q .none h) False False λv=>Q v h
theorem zbr {f:Nat}{fn:Fn}{as vs:List Val} (hf:P.fnAt f=some fn) (ha:mB fn as=some vs) (q:WSs (Cxd P d) fn.body (iD fn vs) h (Fin Q)):WF P (d+1) f as h Q:=by
 show W ((P.fnAt f).bind λf=>(mB f as).bind λvs=>bnd (execs ⟨P,200000,c7 P 200000 d⟩ f.body (iD f vs) h) zjh) Q;rw [hf];show W ((mB fn as).bind λvs=>bnd (execs ⟨P,200000,c7 P 200000 d⟩ fn.body (iD fn vs) h) zjh) Q;rw [ha];exact w_bnd (W.mono q λp h1 q=>by
  obtain ⟨fl,f2⟩:=p;cases fl with
  |nx=>exact ⟨q⟩
  |bk=>exact q.elim
  |ct=>exact q.elim
  |rt v=>exact ⟨q⟩)
theorem znE {K f:Nat}{fn:Fn}{as vs:List Val} (hd:K+1<=d) (hf:P.fnAt f=some fn) (ha:mB fn as=some vs) (q: ∀d',K<=d'->WSs (Cxd P d') fn.body (iD fn vs) h (Fin Q)):WF P d f as h Q:=by
 refine (JX hd).elim λd' zq1=>?_;obtain rfl:=zq1;exact zbr (d:=d'+K) hf ha (q _ (Qn _ _))
end
end Internal
namespace Internal
theorem aB {h t:MH}{a:Nat}{o:MObj} (e:h[a]?=some o):(h++t)[a]?=some o:=by
 rw [JQ (Qg.mp e).1];exact e
theorem aV {h t:MH}{o:MObj}:(h++o::t)[h.length]?=some o:=by
 rw [JM (Qj _),ZK];rfl
theorem aZ {h:MH}{a b:Nat}{o x:MObj} (ne:b≠a) (e:h[a]?=some o):(h.set b x)[a]?=some o:=by rw [QJ ne];exact e
theorem bT {h:MH}{a:Nat}{o:MObj} (e:h[a]?=some o):a<h.length:=(Qg.mp e).1
theorem bS {h:MH}{a:Nat}{o x:MObj} (e:h[a]?=some o):(h.set a x)[a]?=some x:=QI (bT e)
theorem pP {h t:MH}{o x:MObj}:(h++o::t).set h.length x=h++x::t:=by
 rw [ZQ _ _ (Qj _),ZK];rfl
theorem jC {h:MH}{a:Nat}{vs:List Val} (e:h[a]?=some (.list vs)):b5 h (.ref a)=some vs:=by
 show (h[a]?).bind MObj.list?=_;rw [e];rfl
theorem fQ {h:MH}{a:Nat}{ep:Option Nat}{es:List (Val×Val)} (e:h[a]?=some (.dict ep es)):dictAt h (.ref a)=some (ep,es):=by
 show (h[a]?).bind MObj.dict?=_;rw [e];rfl
theorem jD {h:MH}{a:Nat}{ep:Option Nat}{es:List (Val×Val)} (e:h[a]?=some (.dict ep es)):b5 h (.ref a)=none:=by
 show (h[a]?).bind MObj.list?=_;rw [e];rfl
theorem y9 {h:MH}{a k:Nat}{fs:List (Nat×Val)} (e:h[a]?=some (.inst k fs)):instAt h (.ref a)=some (k,fs):=by
 show (h[a]?).bind MObj.inst?=_;rw [e];rfl
section
variable {c:Cx}{fr:Frame}{h:MH}{Q:Val->MH->Prop}{P:Prg}{d:Nat}
theorem zhM {a b:List Nat} (hl:a.length+b.length<=lim) (q:Q (.str (a++b)) h):WB .add (.str a) (.str b) h Q:=by
 show W (grd (Jt (a.length+b.length) lim) (some (Val.str (a++b),h))) Q;rw [QW.mpr hl];exact ⟨q⟩
theorem zgm {α:Type}{b:Bool}{o:Option α} (hb:b=true):grd b o=o:=by subst hb;rfl
theorem zk0 {a b:Int} (hm:yY a b=true) (q:Q (.int (a*b)) h):WB .mul (.int a) (.int b) h Q:=by
 have e:yX h (.int a) (.int b)=some (.int (a*b),h):=by
  unfold yX;simp only [Val.int?,Kv,zgm hm];rfl
 have e2:gA .mul (.int a) (.int b) h=alt none (yX h (.int a) (.int b)):=by
  unfold gA;simp only [Val.int?,Kv,zT,Yx]
 unfold WB;rw [e2,e];exact ⟨q⟩
theorem zlA {l n:Nat} (hn:n<=lim) (hl:l*n<=lim):yJ l (n:Int)=true:=by
 unfold yJ;rw [Jz,Jz];exact ⟨⟨decide_eq_true (by lia),decide_eq_true (by lia)⟩,QW.mpr (by rw [ZR];exact hl)⟩
theorem zbM {α:Type}{x:α}{n:Nat}:(QB n [x]).flatten=QB n x:=by
 induction n with
 |zero=>rfl
 |succ n ih=>rw [YL,ZA,ih];rfl
theorem zbu {a:Nat}{n:Nat}{x:List Val} (ha:h[a]?=some (.list x)) (hl:n<=lim) (hx:x.length*n<=lim) (q:Q (.ref h.length) (h++ [.list (QB n x).flatten])):WB .mul (.ref a) (.int n) h Q:=by
 show W ((b5 h (.ref a)).bind λa=>(some (n:Int)).bind λn=>grd (yJ a.length n) (dW h (.list (QB n.toNat a).flatten))) Q;rw [jC ha];exact zbv (o:=dW h (.list (QB n x).flatten)) (zlA hl hx) (cB q)
theorem xQ {o:Option Int}{k:Int} (e:o=some k) (q:Q (.int k) h) {o':Option (Val×MH)}:W (alt (o.map λk=>(Val.int k,h)) o') Q:=by subst e;exact ⟨q⟩
theorem zhL {a b:Int} (hb:b≠0) (hl:b.natAbs<divB) (q:Q (.int (YB a b)) h):WB .fdiv (.int a) (.int b) h Q:=by
 refine xQ (o:=zT .fdiv a b) ?_ q;show grd _ _=_;rw [show (b !=0 && Jt (b.natAbs+1) divB)=true by rw [Jz];exact ⟨bne_iff_ne.mpr hb,QW.mpr hl⟩];rfl
theorem zk1 {a b:Int} (hb:b≠0) (q:Q (.int (Kz a b)) h):WB .mod (.int a) (.int b) h Q:=by
 refine xQ (o:=zT .mod a b) ?_ q;show grd _ _=_;rw [bne_iff_ne.mpr hb];rfl
theorem znF {op:COp}{a b:Val}{r:Bool} (e:dQ op a b h=some r) (q:Q (.bool r) h):WC op a b h Q:=Wo.of e q
theorem zee {a b:Val}{r:Bool} (e:za1 h a b=some r) (q:Q (.bool (!r)) h):WC .notin a b h Q:=znF (r:=!r) (by show (za1 h a b).map _=_;rw [e];rfl) q
theorem zbp {b:Bool}{Q:Bool->Prop} (q:Q b):WT (.bool b) h Q:=⟨q⟩
theorem za2 {n i:Nat} (hi:i<n):idx n (.int i)=some i:=by
 show grd _ _=_;rw [decide_eq_true (show (0:Int)<=(i:Int) by exact Zm _),decide_eq_true (show (i:Int)<(n:Int) by lia),ZR];rfl
theorem aH {α:Type}{vs:List α}{i:Nat}{v:α} (hv:vs[i]?=some v):i<vs.length:=(Qg.mp hv).1
theorem vF {α:Type}{a b:Option α}{v:α}{Q:α->Prop} (e:a=some v) (q:Q v):Wo (alt a b) Q:=by subst e;exact ⟨q⟩
theorem zhB {a i:Nat}{vs:List Val}{v:Val} (ha:h[a]?=some (.list vs)) (hv:vs[i]?=some v) (q:Q v h):WI (.ref a) (.int i) h Q:=by
 refine vF (a:=(b5 h (.ref a)).bind λvs=>(idx vs.length (.int i)).bind λk=>vs[k]?) ?_ q;rw [jC ha];show (idx vs.length (.int i)).bind _=_;rw [za2 (aH hv)];exact hv
theorem znC {i:Nat}{vs:List Val}{v:Val} (hv:vs[i]?=some v) (q:Q v h):WI (.fl vs) (.int i) h Q:=by
 refine vF (a:=(idx vs.length (.int i)).bind λk=>vs[k]?) ?_ q;rw [za2 (aH hv)];exact hv
theorem zhC {a:Nat}{ep:Option Nat}{es:List (Val×Val)}{k v:Val} (ha:h[a]?=some (.dict ep es)) (hf:aN es k=true) (hv:a9 es k=some v) (q:Q v h):WI (.ref a) k h Q:=by
 show Wo (alt ((b5 h (.ref a)).bind _) ((dictAt h (.ref a)).bind λd=>grd (aN d.2 k) (a9 d.2 k))) _;rw [jD ha,fQ ha];show Wo (grd (aN es k) (a9 es k)) _;rw [hf,hv];exact ⟨q⟩
theorem zk2 {a k n:Nat}{fs:List (Nat×Val)}{v:Val} (ha:h[a]?=some (.inst k fs)) (hv:l8 fs n=some v) (hf:P.hasFld k n=true) (q:Q v h):WA P (.ref a) n h Q:=by
 refine vF (a:=(instAt h (.ref a)).bind λq=>Qr (motive:=λ_=>Option Val) (l8 q.2 n) (lM P q.1 n) λv=>grd (P.hasFld q.1 n) (some v)) ?_ q;rw [y9 ha];show Qr (motive:=λ_=>Option Val) (l8 fs n) (lM P k n) (λv=>grd (P.hasFld k n) (some v))=_;rw [hv];show grd _ _=_;rw [hf];rfl
theorem z7 {a n:Nat}{v:Val} (e:((P.instAt a).bind λc=>lM P c n)=some v) (q:Q v h):WA P (.top a) n h Q:=by
 show Wo ((P.instAt a).bind λc=>lM P c n) _;rw [e];exact ⟨q⟩
theorem zcT {a k n:Nat}{fs:List (Nat×Val)}{v:Val}{Q:MH->Prop} (ha:h[a]?=some (.inst k fs)) (hf:P.hasFld k n=true) (hl:fs.length<400) (q:Q (h.set a (.inst k (rG fs n v)))):Wo (setAttr P h (.ref a) n v) Q:=by
 show Wo ((h[a]?.bind MObj.inst?).bind λq=>grd (P.hasFld q.1 n && Jt (q.2.length+1) 400) (some (h.set a (.inst q.1 (rG q.2 n v))))) Q;rw [ha];show Wo (grd (P.hasFld k n && Jt (fs.length+1) 400) (some (h.set a (.inst k (rG fs n v))))) Q;rw [hf,QW.mpr hl];exact ⟨q⟩
theorem zeX {a i:Nat}{vs:List Val}{v:Val}{Q:MH->Prop} (ha:h[a]?=some (.list vs)) (hi:i<vs.length) (q:Q (h.set a (.list (vs.set i v)))):Wo (dI h (.ref a) (.int i) v) Q:=by
 refine vF (a:=(h[a]?.bind MObj.list?).bind λvs=>(idx vs.length (.int i)).map λk=>h.set a (.list (vs.set k v))) ?_ q;rw [ha];show (idx vs.length (.int i)).map _=_;rw [za2 hi];rfl
theorem zeY {a:Nat}{ep:Option Nat}{es:List (Val×Val)}{k v:Val}{Q:MH->Prop} (ha:h[a]?=some (.dict ep es)) (hf:aN es k=true) (hl:es.length<lim) (q:Q (h.set a (.dict (bif (a9 es k).isSome then ep else ep.map (· +1)) (fP es k v)))):Wo (dI h (.ref a) k v) Q:=by
 show Wo (alt ((h[a]?.bind MObj.list?).bind _) ((h[a]?.bind MObj.dict?).bind λd=>grd (aN d.2 k && Jt (d.2.length+1) lim) (some (h.set a (.dict (bif (a9 d.2 k).isSome then d.1 else d.1.map (· +1)) (fP d.2 k v)))))) Q;rw [ha];show Wo (grd (aN es k && Jt (es.length+1) lim) (some (h.set a (.dict (bif (a9 es k).isSome then ep else ep.map (· +1)) (fP es k v))))) Q;rw [hf,QW.mpr hl];exact ⟨q⟩
theorem dO {a:Nat}{as:List Val} (hc:P.clsAt a=none) (q:WF P d a as h Q):WV (Cxd P d) (.top a) as h Q:=by
 show W (alt (Qr (motive:=λ_=>Option (Val×MH)) (P.clsAt a) (c7 P 200000 d a as h) λk=>ziG (Cxd P d) a k as h) _) Q;rw [hc];exact xR (q:W (c7 P 200000 d a as h) Q)
theorem zd1 {a i:Nat}{k:Cl}{as:List Val} (hc:P.clsAt a=some k) (hi:k.init=some i) (q:WF P d i (.ref h.length::as) (h++ [.inst a []]) λv h'=>v= .none/\Q (.ref h.length) h'):WV (Cxd P d) (.top a) as h Q:=by
 show W (alt (Qr (motive:=λ_=>Option (Val×MH)) (P.clsAt a) (c7 P 200000 d a as h) λk=>ziG (Cxd P d) a k as h) _) Q;rw [hc];refine xR ?_;show W (k.init.bind λi=>bnd (c7 P 200000 d i (.ref h.length::as) (h++ [.inst a []])) λr h'=>grd r.isNone (some (.ref h.length,h'))) Q;rw [hi];exact w_bnd (f:=λr h'=>grd r.isNone (some (Val.ref h.length,h'))) (R:=Q) (W.mono q λv h' q=>by rw [q.1];exact ⟨q.2⟩)
theorem zjS {n:Nat}{as:List Val}{v:Val}{h':MH} (e:wY n as h=some (v,h')) (q:Q v h'):WV c (.bi n) as h Q:=by
 show W (alt (wY n as h) none) Q;rw [e];exact ⟨q⟩
theorem zjR {n:Nat}{as:List Val}{v:Val}{h':MH} (e:wW n as h=some (v,h')) (q:Q v h'):WV c (.ty n) as h Q:=by
 show W (wW n as h) Q;rw [e];exact ⟨q⟩
theorem z1 {v:Val}{n:Nat} (e:zf5 h v=some n) (q:Q (.int n) h):WV c (.bi lT) [v] h Q:=by
 refine zjS (v:=.int n) (h':=h) ?_ q;show alt ((zf5 h v).map λ(k:Nat)=>(Val.int (k:Int),h)) _=_;rw [e];rfl
theorem zhp {a:Nat}{vs:List Val} (ha:h[a]?=some (.list vs)) (q:Q (.ref h.length) (h++ [.list vs])):WV c (.ty yR) [.ref a] h Q:=by
 refine zjR (v:=.ref h.length) (h':=h++ [.list vs]) ?_ q;show alt (z9 [.ref a] h) _=_;show alt ((b5 h (.ref a)).bind λvs=>dW h (.list vs)) _=_;rw [jC ha];rfl
theorem zkK {a b:Int} (q:Q (.int (if b>a then b else a)) h):WV c (.bi zfF) [.int a,.int b] h Q:=⟨q⟩
theorem zmH {a:Nat}{vs:List Val} (ha:h[a]?=some (.list vs)):zf5 h (.ref a)=some vs.length:=by
 show alt ((b5 h (.ref a)).map (·.length)) _=_;rw [jC ha];rfl
theorem zmI {a:Nat}{ep:Option Nat}{es:List (Val×Val)} (ha:h[a]?=some (.dict ep es)):zf5 h (.ref a)=some es.length:=by
 show alt ((b5 h (.ref a)).map (·.length)) ((dictAt h (.ref a)).map (·.2.length))=_;rw [jD ha,fQ ha];rfl
theorem a8 {o:Val}{n f:Nat}{self as:List Val}{h0:MH} (hg:dK P h0 o n=some (f,self)) (q:WF P d f (self++as) h Q):WM (Cxd P d) o n as h0 h Q:=by
 show W (Qr (motive:=λ_=>Option (Val×MH)) (dK P h0 o n) (oX o n as h0 h) λp=>c7 P 200000 d p.1 (p.2++as) h) Q;rw [hg];exact (q:W (c7 P 200000 d f (self++as) h) Q)
theorem b8 {a k n f:Nat}{fs:List (Nat×Val)}{h0:MH} (ha:h0[a]?=some (.inst k fs)) (hn:l8 fs n=none) (hm:oT P k n=some f):dK P h0 (.ref a) n=some (f,[.ref a]):=by
 show ((instAt h0 (.ref a)).bind λq=>grd (l8 q.2 n).isNone ((oT P q.1 n).map λf=>(f,[Val.ref a])))=_;rw [y9 ha];show grd (l8 fs n).isNone ((oT P k n).map λf=>(f,[Val.ref a]))=_;rw [hn,hm];rfl
theorem zjV {a n:Nat}{as:List Val}{h0:MH} (hi:instAt h0 (.ref a)=none) (q:W (oX (.ref a) n as h0 h) Q):WM c (.ref a) n as h0 h Q:=by
 show W (Qr (motive:=λ_=>Option (Val×MH)) ((instAt h0 (.ref a)).bind _) (oX (.ref a) n as h0 h) λ(p:Nat×List Val)=>c.call p.1 (p.2++as) h) Q;rw [hi];exact q
theorem zgg {a:Nat}{vs:List Val} (e:h[a]?=some (.list vs)):instAt h (.ref a)=none:=by
 show (h[a]?).bind MObj.inst?=_;rw [e];rfl
theorem zgh {a:Nat}{ep:Option Nat}{es:List (Val×Val)} (e:h[a]?=some (.dict ep es)):instAt h (.ref a)=none:=by
 show (h[a]?).bind MObj.inst?=_;rw [e];rfl
theorem xA {a n:Nat}{as us vs:List Val}{h0:MH} (h0a:h0[a]?=some (.list us)) (ha:h[a]?=some (.list vs)) (q:W (mX a vs n as h) Q):WM c (.ref a) n as h0 h Q:=by
 refine zjV (zgg h0a) ?_;show W (alt ((h0[a]?.bind MObj.list?).bind λ_=>(h[a]?.bind MObj.list?).bind λvs=>mX a vs n as h) _) Q;rw [h0a,ha];exact xR q
theorem uF {a:Nat}{vs us:List Val}{v:Val}{h0:MH} (h0a:h0[a]?=some (.list us)) (ha:h[a]?=some (.list vs)) (hl:vs.length<lim) (q:Q .none (h.set a (.list (vs++ [v])))):WM c (.ref a) nAppend [v] h0 h Q:=
 xA h0a ha (xR (zbv (o:=some (Val.none,h.set a (.list (vs++ [v])))) (QW.mpr hl) (cB q)))
theorem zkQ {a:Nat}{vs us:List Val}{v:Val}{h0:MH} (h0a:h0[a]?=some (.list us)) (ha:h[a]?=some (.list (vs++ [v]))) (q:Q v (h.set a (.list vs))):WM c (.ref a) nPop [] h0 h Q:=by
 refine xA h0a ha ?_;show W (alt ((vs++ [v]).getLast?.map λw=>(w,h.set a (.list (vs++ [v]).dropLast))) none) Q;rw [List.getLast?_concat,List.dropLast_concat];exact ⟨q⟩
theorem zd6 {a:Nat}{vs us:List Val}{ss:List (List Nat)}{t:List Nat}{h0:MH} (h0a:h0[a]?=some (.list us)) (ha:h[a]?=some (.list vs)) (hs:vs.mapM Val.str?=some ss) (hc:ss.contains t=true) (q:Q (.int (ss.idxOf t:Nat)) h):WM c (.ref a) nIndex [.str t] h0 h Q:=by
 refine xA h0a ha ?_;show W ((vs.mapM Val.str?).bind λss=>grd (ss.contains t) (some (Val.int (ss.idxOf t:Nat),h))) Q;rw [hs,Kv,hc];exact ⟨q⟩
theorem zce {a n:Nat}{as:List Val}{ep ep0:Option Nat}{es es0:List (Val×Val)}{h0:MH} (h0a:h0[a]?=some (.dict ep0 es0)) (ha:h[a]?=some (.dict ep es)) (q:W (nB es n as h) Q):WM c (.ref a) n as h0 h Q:=by
 refine zjV (zgh h0a) ?_;show W (alt ((h0[a]?.bind MObj.list?).bind _) ((h0[a]?.bind MObj.dict?).bind λ_=>(h[a]?.bind MObj.dict?).bind λd=>nB d.2 n as h)) Q;rw [h0a,ha];exact q
theorem zkR {a:Nat}{ep ep0:Option Nat}{es es0:List (Val×Val)}{k e:Val}{h0:MH} (h0a:h0[a]?=some (.dict ep0 es0)) (ha:h[a]?=some (.dict ep es)) (hf:aN es k=true) (q:Q ((a9 es k).getD e) h):WM c (.ref a) nGet [k,e] h0 h Q:=
 zce h0a ha (zbv (o:=some ((a9 es k).getD e,h)) hf (cB q))
theorem zhA {a:Nat}{ep ep0:Option Nat}{es es0:List (Val×Val)}{k:Val}{h0:MH} (h0a:h0[a]?=some (.dict ep0 es0)) (ha:h[a]?=some (.dict ep es)) (hf:aN es k=true) (q:Q ((a9 es k).getD .none) h):WM c (.ref a) nGet [k] h0 h Q:=
 zce h0a ha (xR (zbv (o:=some ((a9 es k).getD .none,h)) hf (cB q)))
end
end Internal
namespace Internal
def zbl (I:Frame->MH->Prop) (R:Fl->Frame->MH->Prop) (fl:Fl) (fr:Frame) (h:MH):Prop:=Fl.casesOn (motive:=λ_=>Prop) fl (I fr h) (R .nx fr h) (I fr h) λv=>R (.rt v) fr h
section
variable {c:Cx}{fr:Frame}{h:MH}{Q:Val->MH->Prop}{R:Fl->Frame->MH->Prop}
theorem zi1 {next:Nat->MH->Option (Option Val)}{bd:Frame->Val->Option Frame}{b:Frame->MH->SR} (n:Nat) (I:Nat->Frame->MH->Prop)
  (step: ∀i,i<n-> ∀fr h,I i fr h->Wo (next i h) λov=>Wo ov λv=>Wo (bd fr v) λfr1=>W (b fr1 h) λp h'=>zbl (I (i+1)) R p.1 p.2 h')
  (stop: ∀fr h,I n fr h->Wo (next n h) λov=>ov=none/\R .nx fr h): ∀ (m i fu:Nat),i+m=n->m<fu-> ∀fr h,I i fr h->W (rC next bd b fu i fr h) λp h=>R p.1 p.2 h:=by
 intro m
 induction m with
 |zero=>
  intro i fu hi hf fr h I0;refine (JX hf).elim λfu zq12=>?_;obtain rfl:=zq12;cases hi;have q:Wo (next i h) λov=>ov=none/\R .nx fr h:=stop fr h I0;show W ((next i h).bind _) _;exact mH (q.mono λov q=>by obtain ⟨rfl,q⟩:=q;exact ⟨q⟩)
 |succ m ih=>
  intro i fu hi hf fr h I0;obtain ⟨fu,rfl⟩:=JX (Qk (Qs _) hf);have q:=step i (Qi (J0 (Jo _)) (Qt hi)) fr h I0;show W ((next i h).bind _) _;refine mH (q.mono λov q=>?_);cases ov with
  |none=>exact q.w.elim
  |some v=>
   show W ((bd fr v).bind _) _;refine mH (Wo.mono q.w λfr1 q=>w_bnd (W.mono q λp h2 q=>?_));obtain ⟨fl,f2⟩:=p;cases fl with
   |nx=>exact ih (i+1) _ (by lia) (J7 hf) f2 h2 q
   |ct=>exact ih (i+1) _ (by lia) (J7 hf) f2 h2 q
   |bk=>exact ⟨q⟩
   |rt v=>exact ⟨q⟩
theorem vE {tg:List Nat}{many:Bool}{e:Ex}{b:List Sm}
  (q:WE c fr e h λv h1=> ∃k,∃xs:List Val,fO h1 v=some k/\xs.length<c.fuel/\∃I:Nat->Frame->MH->Prop,I 0 fr h1/\(∀i fr h,I i fr h->cF h i k=some xs[i]?)/\
   (∀i x,xs[i]?=some x-> ∀fr h,I i fr h->Wo (eC fr tg many x) λfr1=>WSs c b fr1 h (zbl (I (i+1)) R))/\∀fr h,I xs.length fr h->R .nx fr h):WS c (.fo tg many e b) fr h R:=by
 show W (bnd (eval c e fr h) λv h1=>(fO h1 v).bind λk=>rC (λi h=>cF h i k) (λfr v=>eC fr tg many v) (λfr h=>execs c b fr h) c.fuel 0 fr h1) λp h=>R p.1 p.2 h;refine w_bnd (W.mono q λv h1 q=>?_);refine q.elim λk zq8=>zq8.elim λxs zq9=>zq9.2.2.elim λI zq10=>?_;rw [zq9.1];show W (rC (λi h=>cF h i k) (λfr v=>eC fr tg many v) (λfr h=>execs c b fr h) c.fuel 0 fr h1) λp h=>R p.1 p.2 h;refine zi1 xs.length I (λi hi fr h hI=>?_) (λfr h hI=>?_) xs.length 0 c.fuel (Jv _) zq9.2.1 fr h1 zq10.1
 ·rw [zq10.2.1 i fr h hI,Qc hi]
  exact ⟨⟨zq10.2.2.1 i _ (Qc hi) fr h hI⟩⟩
 ·rw [zq10.2.1 _ fr h hI,Jp (Qj _)]
  exact ⟨rfl,zq10.2.2.2 fr h hI⟩
theorem wH {a:Nat}{vs:List Val} (ha:h[a]?=some (.list vs)):fO h (.ref a)=some (.ls a):=by
 show alt none (alt (alt ((h[a]?.bind MObj.list?).map λ_=>It.ls a) _) _)=_;rw [ha];rfl
theorem v3 {a i:Nat}{vs:List Val} (ha:h[a]?=some (.list vs)):cF h i (.ls a)=some vs[i]?:=by
 show (h[a]?.bind MObj.list?).map _=_;rw [ha];rfl
theorem za0 {n:Nat} (hn:n<=lim):fO h (.rng n)=some (.rg n):=by
 show alt (grd _ _) _=_;rw [decide_eq_true (show (n:Int)<=(lim:Int) by lia),decide_eq_true (show-(lim:Int)<=(n:Int) by lia)];rfl
def vY (n:Nat):List Val:=(QS n).map λ(i:Nat)=>Val.int (i:Int)
theorem d6 {n:Nat}:(vY n).length=n:=by unfold vY;rw [Qe,QZ]
theorem zbL {n i:Nat} (hi:i<n):(vY n)[i]?=some (.int i):=by
 unfold vY;rw [Qo,Jy hi];rfl
theorem vX {n i:Nat}{x:Val} (hx:(vY n)[i]?=some x):i<n/\x= .int i:=by
 have hi:i<n:=by have:=aH hx;rwa [d6] at this
 rw [zbL hi] at hx;exact ⟨hi,(Qx.inj hx).symm⟩
theorem zar {n i:Nat} (hi:i<=n):cF h i (.rg n)=some (vY n)[i]?:=by
 show some (bif decide ((i:Int)<(n:Int)) then some (Val.int i) else none)=_;by_cases hl:i<n
 ·rw [decide_eq_true (show (i:Int)<(n:Int) by lia),zbL hl];rfl
 ·rw [decide_eq_false (show ¬(i:Int)<(n:Int) by lia),Jp (by rw [d6];exact Q0 hl)];rfl
theorem c8 {x:Nat}{v:Val}{Q:Frame->Prop} (q:Q (fr.set x (some v))):Wo (eC fr [x] false v) Q:=⟨q⟩
theorem zhv {x a:Nat}{e:Ex}{b:List Sm}{vs:List Val} (hn:vs.length<c.fuel) (I:Nat->Frame->MH->Prop)
  (hk: ∀i fr h,I i fr h->h[a]?=some (.list vs)) (q:WE c fr e h λv h1=>v= .ref a/\I 0 fr h1)
  (step: ∀i v,vs[i]?=some v-> ∀fr h,I i fr h->WSs c b (fr.set x (some v)) h (zbl (I (i+1)) R))
  (stop: ∀fr h,I vs.length fr h->R .nx fr h):WS c (.fo [x] false e b) fr h R:=
 vE (W.mono q λv h1 q=>by
  obtain rfl:=q.1;exact ⟨.ls a,vs,wH (hk _ _ _ q.2),hn,I,q.2,λi fr h hI=>v3 (hk _ _ _ hI),λi x hx fr h hI=>c8 (step i x hx fr h hI),stop⟩)
theorem zhu {x n:Nat}{e:Ex}{b:List Sm} (hn:n<c.fuel) (hl:n<=lim) (I:Nat->Frame->MH->Prop)
  (q:WE c fr e h λv h1=>v= .rng n/\I 0 fr h1)
  (step: ∀i,i<n-> ∀fr h,I i fr h->WSs c b (fr.set x (some (.int i))) h (zbl (I (i+1)) R))
  (stop: ∀fr h,I n fr h->R .nx fr h):WS c (.fo [x] false e b) fr h R:=
 vE (W.mono q λv h1 q=>by
  obtain ⟨rfl,I0⟩:=q;refine ⟨.rg n,vY n,za0 hl,by rw [d6];exact hn,λi fr h=>i<=n/\I i fr h,⟨Qs _,I0⟩,λi fr h hI=>zar hI.1,λi x hx fr h hI=>?_,λfr h hI=>stop fr h (d6 (n:=n)▸hI.2)⟩;obtain ⟨hi,rfl⟩:=vX hx;refine c8 (W.mono (step i hi fr h hI.2) λp h' q=>?_);obtain ⟨fl,f2⟩:=p;cases fl with
  |nx=>exact ⟨hi,q⟩
  |ct=>exact ⟨hi,q⟩
  |bk=>exact q
  |rt v=>exact q)
theorem zi0 {cond:Frame->MH->Option (Bool×MH)}{b:Frame->MH->SR} (I:Nat->Frame->MH->Prop)
  (step: ∀k fr h,I k fr h->W (cond fr h) λr h1=>Br r (W (b fr h1) λp h'=>zbl (λfr h=> ∃j,j<k/\I j fr h) R p.1 p.2 h') (R .nx fr h1)): ∀ (m k:Nat),k<m-> ∀fr h,I k fr h->W (oU cond b m fr h) λp h=>R p.1 p.2 h:=by
 intro m
 induction m with
 |zero=>exact λk hk=>absurd hk (QX _)
 |succ m ih=>
  intro k hk fr h I0;show W (bnd (cond fr h) _) _;refine w_bnd (W.mono (step k fr h I0) λr h1 q=>?_);cases r with
  |false=>exact ⟨q.2 rfl⟩
  |true=>
   rw [cond_true];refine w_bnd (W.mono (q.1 rfl) λp h2 q=>?_);obtain ⟨fl,f2⟩:=p;cases fl with
   |nx=>obtain ⟨j,hj,q⟩:=q;exact ih j (Qi hj (QP hk)) f2 h2 q
   |ct=>obtain ⟨j,hj,q⟩:=q;exact ih j (Qi hj (QP hk)) f2 h2 q
   |bk=>exact ⟨q⟩
   |rt v=>exact ⟨q⟩
theorem znB {t:Ex}{b:List Sm}{k:Nat} (I:Nat->Frame->MH->Prop) (hk:k<c.fuel) (I0:I k fr h)
  (step: ∀k fr h,I k fr h->WE c fr t h λv h1=>WT v h1 λr=>Br r (WSs c b fr h1 (zbl (λfr h=> ∃j,j<k/\I j fr h) R)) (R .nx fr h1)):WS c (.wh t b) fr h R:=by
 show W (oU (λfr h=>b6 (eval c t fr h)) (λfr h=>execs c b fr h) c.fuel fr h) λp h=>R p.1 p.2 h;exact zi0 I (λk fr h hI=>i5 (step k fr h hI)) c.fuel k hk fr h I0
def WTs (c:Cx) (fr:Frame) (es:List Ex) (h:MH) (Q:Bool->MH->Prop):Prop:=W (rV c es fr h) Q
theorem vD {Q:Bool->MH->Prop} (q:Q true h):WTs c fr [] h Q:=cB q
theorem zd2 {Q:Bool->MH->Prop}{e:Ex}{r:List Ex} (q:WE c fr e h λv h1=>WT v h1 λb=>Br b (WTs c fr r h1 Q) (Q false h1)):WTs c fr (e::r) h Q:=by
 show W (bnd (b6 (eval c e fr h)) λb h1=>bif b then rV c r fr h1 else some (false,h1)) Q;exact w_bnd (i5 (W.mono q λv h1 q=>Wo.mono q λb q=>wZ ⟨q.1,λh=>cB (q.2 h)⟩))
theorem za7 {next:Nat->MH->Option (Option Val)}{t:Val->MH->Option (Option Frame×MH)}{el:Frame->MH->Option (Val×MH)}{ac:Nat}{R:MH->Prop} (n:Nat) (I:Nat->MH->Prop)
  (step: ∀i,i<n-> ∀h,I i h->Wo (next i h) λov=>Wo ov λv=>W (t v h) λo h1=>(o=none->I (i+1) h1)/\∀fr,o=some fr->W (el fr h1) λx h2=> ∃vs,h2[ac]?=some (.list vs)/\vs.length<lim/\I (i+1) (h2.set ac (.list (vs++ [x]))))
  (stop: ∀h,I n h->Wo (next n h) λov=>ov=none/\R h): ∀ (m i fu:Nat),i+m=n->m<fu-> ∀h,I i h->W (compLoop next t el ac fu i h) λ_ h=>R h:=by
 intro m
 induction m with
 |zero=>
  intro i fu hi hf h I0;refine (JX hf).elim λfu zq6=>?_;obtain rfl:=zq6;cases hi;have q:Wo (next i h) λov=>ov=none/\R h:=stop h I0;show W ((next i h).bind _) _;exact mH (q.mono λov q=>by obtain ⟨rfl,q⟩:=q;exact ⟨q⟩)
 |succ m ih=>
  intro i fu hi hf h I0;obtain ⟨fu,rfl⟩:=JX (Qk (Qs _) hf);have q:=step i (Qi (J0 (Jo _)) (Qt hi)) h I0;show W ((next i h).bind _) _;refine mH (q.mono λov q=>?_);cases ov with
  |none=>exact q.w.elim
  |some v=>
   have q:W (t v h) λo h1=>(o=none->I (i+1) h1)/\∀fr,o=some fr->W (el fr h1) λx h2=> ∃vs,h2[ac]?=some (.list vs)/\vs.length<lim/\I (i+1) (h2.set ac (.list (vs++ [x]))):=q.w;refine w_bnd (W.mono q λo h1 q=>?_);cases o with
   |none=>exact ih (i+1) _ (by lia) (J7 hf) h1 (q.1 rfl)
   |some fr=>
    refine w_bnd (W.mono (q.2 fr rfl) λx h2 q=>?_);obtain ⟨vs,e1,e2,q⟩:=q;rw [e1];show W (grd (Jt (vs.length+1) lim) _) _;rw [QW.mpr e2];exact ih (i+1) _ (by lia) (J7 hf) _ q
theorem vG {elt it:Ex}{tg:List Nat}{many:Bool}{ifs:List Ex}
  (q:WE c fr it h λv h1=> ∃k,∃xs:List Val,fO h1 v=some k/\xs.length<c.fuel/\∃I:Nat->MH->Prop,I 0 (h1++ [.list []])/\(∀i h,I i h->cF h i k=some xs[i]?)/\
   (∀i x,xs[i]?=some x-> ∀hh,I i hh->Wo (eC fr tg many x) λfr1=>WTs c fr1 ifs hh λb h2=>Br b (WE c fr1 elt h2 λx h3=> ∃vs,h3[h1.length]?=some (.list vs)/\vs.length<lim/\I (i+1) (h3.set h1.length (.list (vs++ [x])))) (I (i+1) h2))/\
   ∀hh,I xs.length hh->Q (.ref h1.length) hh):WE c fr (.comp elt tg many it ifs) h Q:=by
 show W (bnd (eval c it fr h) λv h1=>(fO h1 v).bind λk=>bnd (compLoop (λi h=>cF h i k) (λv h=>(eC fr tg many v).bind λfr'=>bnd (rV c ifs fr' h) λb h'=>some (bif b then some fr' else none,h')) (λfr' h=>eval c elt fr' h) h1.length c.fuel 0 (h1++ [.list []])) λ_ h2=>some (.ref h1.length,h2)) Q;refine w_bnd (W.mono q λv h1 q=>?_);refine q.elim λk zq1=>zq1.elim λxs zq2=>zq2.2.2.elim λI zq3=>?_;rw [zq2.1];refine w_bnd (f:=λ_ h2=>some (Val.ref h1.length,h2)) ?_;refine W.mono (Q:=λ_ h2=>Q (.ref h1.length) h2) ?_ λ_ _ q=>cB q;refine za7 (R:=λh2=>Q (.ref h1.length) h2) xs.length I (λi hi hh hI=>?_) (λhh hI=>?_) xs.length 0 c.fuel (Jv _) zq2.2.1 _ zq3.1
 ·rw [zq3.2.1 i hh hI,Qc hi]
  refine zbq (zbq (mH (Wo.mono (zq3.2.2.1 i _ (Qc hi) hh hI) λfr1 q=>w_bnd (W.mono q λb h2 q=>?_))));cases b with
  |true=>exact ⟨nofun,λfr e=>by cases e;exact q.1 rfl⟩
  |false=>exact ⟨λ_=>q.2 rfl,nofun⟩
 ·rw [zq3.2.1 _ hh hI,Jp (Qj _)]
  exact ⟨rfl,zq3.2.2.2 hh hI⟩
theorem dC {r:List Sm} (q:WSs c r fr h R):Beh c r R .nx fr h:=q
variable {I:Frame->MH->Prop}
abbrev nn (k:Nat):Frame:=QB k none
end
end Internal
namespace Internal
section
variable {c:Cx}{fr:Frame}{h:MH}{Q:Val->MH->Prop}
end
end Internal
namespace Internal
section
variable {c:Cx}{fr:Frame}{h:MH}{Q:Val->MH->Prop}
theorem zbx {s t:List Nat}:veq h (.str s) (.str t)=some (s==t):=by
 show some (Zb (.str ⟨s.toArray⟩) (.str ⟨t.toArray⟩))=_;have e:Zb (.str ⟨s.toArray⟩) (.str ⟨t.toArray⟩)=((⟨s.toArray⟩:PySem.Str)==⟨t.toArray⟩):=rfl;rw [e];by_cases hs:s=t
 ·subst hs;simp
 ·rw [beq_false_of_ne hs,beq_false_of_ne]
  intro e
  apply hs
  injection e with e;injection e
theorem mI {a b:Int}:veq h (.int a) (.int b)=some (a==b):=by
 show some (a==b)=_;rfl
theorem zbo {a:Nat}{vs:List Val} (ha:h[a]?=some (.list vs)) (q:Q (.int vs.length) h):WV c (.bi lT) [.ref a] h Q:=z1 (zmH ha) q
theorem zhq {a:Nat}{ep:Option Nat}{es:List (Val×Val)} (ha:h[a]?=some (.dict ep es)) (q:Q (.int es.length) h):WV c (.bi lT) [.ref a] h Q:=z1 (zmI ha) q
end
end Internal
namespace Internal
section
variable {c:Cx}{fr:Frame}{h:MH}{Q:Val->MH->Prop}
theorem mD {elt it:Ex}{x:Nat}{a:Nat}{vs:List Val} (J:MH->List Val->MH->Prop) (hf:vs.length<c.fuel) (hl:vs.length<=lim)
  (q:WE c fr it h λv h1=>v= .ref a/\h1[a]?=some (.list vs)/\J h1 [] []/\
   (∀ys t v,J h1 ys t->vs[ys.length]?=some v->WE c (fr.set x (some v)) elt (h1++ .list ys::t) λy h3=> ∃s,h3=h1++ .list ys::(t++s)/\J h1 (ys++ [y]) (t++s))/\
   ∀ys t,ys.length=vs.length->J h1 ys t->Q (.ref h1.length) (h1++ .list ys::t)):WE c fr (.comp elt [x] false it []) h Q:=by
 refine vG (W.mono q λv h1 q=>?_);obtain ⟨rfl,h1a,j0,st,q⟩:=q;refine ⟨.ls a,vs,wH h1a,hf,λi hh=> ∃ys t,hh=h1++ .list ys::t/\ys.length=i/\J h1 ys t,⟨[],[],rfl,rfl,j0⟩,?_,?_,?_⟩
 ·rintro i hh ⟨ys,t,rfl,_,_⟩;exact v3 (aB h1a)
 ·rintro i v hv hh ⟨ys,t,rfl,rfl,hy⟩
  refine c8 (vD (zm5 (W.mono (st ys t v hy hv) λy h3 q=>?_)));obtain ⟨s,rfl,ht⟩:=q;have hi:=aH hv;exact ⟨ys,aV,Qi hi hl,ys++ [y],t++s,pP,by rw [Qv];rfl,ht⟩
 ·rintro hh ⟨ys,t,rfl,hl,hy⟩;exact q ys t hl hy
def eJ (p:Nat->Bool) (n:Nat):List Nat:=(QS n).filter p
theorem uR {p:Nat->Bool}{n:Nat}:eJ p (n+1)=eJ p n++(bif p n then [n] else []):=by
 unfold eJ;rw [ZO,List.filter_append];cases hb:p n<;>simp [hb]
theorem qR {p:Nat->Bool}{n:Nat}:(eJ p n).length<=n:=by
 have:=List.length_filter_le p (QS n)
 rwa [QZ] at this
def iVs (l:List Nat):List Val:=l.map λ(k:Nat)=>Val.int (k:Int)
theorem zea {it:Ex}{x n:Nat}{ifs:List Ex} (p:Nat->Bool) (hf:n<c.fuel) (hl:n<=lim)
  (q:WE c fr it h λv h1=>v= .rng n/\(∀i,i<n-> ∀acc,WTs c (fr.set x (some (.int i))) ifs (h1++ [.list acc]) λb h2=>h2=h1++ [.list acc]/\b=p i)/\(∀i:Nat,(fr.set x (some (.int (i:Int))))[x]?=some (some (.int (i:Int))))/\Q (.ref h1.length) (h1++ [.list (iVs (eJ p n))])):WE c fr (.comp (.var x) [x] false it ifs) h Q:=by
 refine vG (W.mono q λv h1 q=>?_);obtain ⟨rfl,st,hx,q⟩:=q;refine ⟨.rg n,vY n,za0 hl,by rw [d6];exact hf,λi hh=>i<=n/\hh=h1++ [.list (iVs (eJ p i))],⟨Qs _,rfl⟩,?_,?_,?_⟩
 ·rintro i hh ⟨hi,_⟩;exact zar hi
 ·rintro i v hv hh ⟨_,rfl⟩
  obtain ⟨hi,rfl⟩:=vX hv;refine c8 (W.mono (st i hi _) λb h2 q=>?_);obtain ⟨rfl,rfl⟩:=q;refine br (λhb=>z6 (hx i) ⟨_,aV,?_,hi,?_⟩) (λhb=>⟨hi,?_⟩)
  ·unfold iVs
   rw [Qe]
   have:=qR (p:=p) (n:=i)
   exact Qi (Qk this hi) hl
  ·rw [pP,uR,hb]
   unfold iVs;rw [Qy];rfl
  ·rw [uR,hb,cond_false,Q7]
 ·rintro hh ⟨_,rfl⟩
  rw [d6];exact q
end
end Internal
namespace Internal
section
variable {c:Cx}{fr:Frame}{h:MH}{R:Fl->Frame->MH->Prop}{σ:Type}
structure Inv (F:σ->Frame) (G:σ->MH) (P:σ->Prop) (fr:Frame) (h:MH):Prop where
 x: ∃s,fr=F s/\h=G s/\P s
theorem Inv.of {F:σ->Frame}{G:σ->MH}{P:σ->Prop} (s:σ) (hp:P s):Inv F G P (F s) (G s):=⟨s,rfl,rfl,hp⟩
structure To (F:σ->Frame) (G:σ->MH) (P:σ->Prop) (R R':Fl->Frame->MH->Prop):Prop where
 nx: ∀s,P s->R' .nx (F s) (G s)
 ct: ∀s,P s->R' .ct (F s) (G s)
 bk: ∀fr h,R .nx fr h->R' .bk fr h
 rt: ∀v fr h,R (.rt v) fr h->R' (.rt v) fr h
theorem zbz {F:σ->Frame}{G:σ->MH}{P:σ->Prop}:To F G P R (zbl (Inv F G P) R):=⟨λs hp=>Inv.of s hp,λs hp=>Inv.of s hp,λ_ _ h=>h,λ_ _ _ h=>h⟩
theorem p9 {tg:List Nat}{many:Bool}{a:Nat}{e:Ex}{b:List Sm}{vs:List Val} (F:σ->Frame) (G:σ->MH) (P:Nat->σ->Prop) (hn:vs.length<c.fuel) (s0:σ)
  (hk: ∀i s,P i s->(G s)[a]?=some (.list vs)) (q:WE c fr e h λv h1=>v= .ref a/\fr=F s0/\h1=G s0/\P 0 s0)
  (step: ∀i v s R',vs[i]?=some v->P i s->To F G (P (i+1)) R R'->Wo (eC (F s) tg many v) λfr1=>WSs c b fr1 (G s) R')
  (stop: ∀s,P vs.length s->R .nx (F s) (G s)):WS c (.fo tg many e b) fr h R:=
 vE (W.mono q λv h1 q=>by
  obtain rfl:=q.1;obtain rfl:=q.2.1;obtain rfl:=q.2.2.1;refine ⟨.ls a,vs,wH (hk _ _ q.2.2.2),hn,λi=>Inv F G (P i),Inv.of s0 q.2.2.2,λi fr h hI=>?_,λi x hx fr h hI=>?_,λfr h hI=>?_⟩
  ·obtain ⟨s,rfl,rfl,hp⟩:=hI.x
   exact v3 (hk i s hp)
  ·refine hI.x.elim λs zq5=>?_
   obtain rfl:=zq5.1;obtain rfl:=zq5.2.1;exact step i x s _ hx zq5.2.2 zbz
  ·obtain ⟨s,rfl,rfl,hp⟩:=hI.x
   exact stop s hp)
theorem zd4 {x n:Nat}{e:Ex}{b:List Sm} (F:σ->Frame) (G:σ->MH) (P:Nat->σ->Prop) (hn:n<c.fuel) (hl:n<=lim) (s0:σ)
  (q:WE c fr e h λv h1=>v= .rng n/\fr=F s0/\h1=G s0/\P 0 s0)
  (step: ∀i s R',i<n->P i s->To F G (P (i+1)) R R'->WSs c b ((F s).set x (some (.int i))) (G s) R')
  (stop: ∀s,P n s->R .nx (F s) (G s)):WS c (.fo [x] false e b) fr h R:=
 zhu hn hl (λi=>Inv F G (P i)) (W.mono q λv h1 q=>⟨q.1,by rw [q.2.1,q.2.2.1];exact Inv.of s0 q.2.2.2⟩) (λi hi fr h hI=>by
  obtain ⟨s,rfl,rfl,hp⟩:=hI.x;exact step i s _ hi hp zbz) λfr h hI=>by
  obtain ⟨s,rfl,rfl,hp⟩:=hI.x;exact stop s hp
theorem zkM {t:Ex}{b:List Sm}{k:Nat} (F:σ->Frame) (G:σ->MH) (P:Nat->σ->Prop) (hk:k<c.fuel) (s0:σ) (e1:fr=F s0) (e2:h=G s0) (I0:P k s0)
  (step: ∀k s R',P k s->To F G (λs=> ∃j,j<k/\P j s) R R'->WE c (F s) t (G s) λv h1=>WT v h1 λr=>Br r (WSs c b (F s) h1 R') (R .nx (F s) h1)):WS c (.wh t b) fr h R:=by
 subst e1;subst e2;refine znB (λk=>Inv F G (P k)) hk (Inv.of s0 I0) λk fr h hI=>?_;refine hI.x.elim λs zq1=>?_;obtain rfl:=zq1.1;obtain rfl:=zq1.2.1;have hp:=zq1.2.2;exact step k s _ hp ⟨λs hp=>⟨hp.choose,hp.choose_spec.1,Inv.of s hp.choose_spec.2⟩,λs hp=>⟨hp.choose,hp.choose_spec.1,Inv.of s hp.choose_spec.2⟩,λ_ _ h=>h,λ_ _ _ h=>h⟩
end
end Internal
namespace Internal
set_option genCtorIdx false in
inductive Hs where
 |nil
 |c (t:Hs)
 |v (v:Val) (t:Hs)
 |p (v:Val) (h:MH) (t:Hs)
 |h (h:MH) (t:Hs)
 |b (b:Bool) (t:Hs)
 |br (x y:Hs)
 |s (fl:Fl) (fr:Frame) (h:MH) (t:Hs)
 |l (vs:List Val) (t:Hs)
structure bB {α:Type} (a:α):Prop where
 f:False
def now {α:Type} (o:Option α) (k:α->Prop):Prop:=Qr (motive:=λ_=>Prop) o (bB o) k
section
variable {α:Type} (o:Option α) (hs:Hs)
def zjB (o:Option Val) (hs:Hs) (k:Val->Hs->Prop):Prop:=
 Hs.casesOn (motive:=λ_=>Prop) hs (bB o) (λt=>now o λv=>k v t) (λv t=>o=some v/\k v t) (λ_ _ _=>bB o) (λ_ _=>bB o) (λ_ _=>bB o) (λ_ _=>bB o) (λ_ _ _ _=>bB o) (λ_ _=>bB o)
def zS (o:Option (Val×MH)) (hs:Hs) (k:Val->MH->Hs->Prop):Prop:=
 Hs.casesOn (motive:=λ_=>Prop) hs (bB o) (λt=>now o λv=>k v.1 v.2 t) (λ_ _=>bB o) (λv h t=>o=some (v,h)/\k v h t) (λ_ _=>bB o) (λ_ _=>bB o) (λ_ _=>bB o) (λ_ _ _ _=>bB o) (λ_ _=>bB o)
def zjD (o:Option MH) (hs:Hs) (k:MH->Hs->Prop):Prop:=
 Hs.casesOn (motive:=λ_=>Prop) hs (bB o) (λt=>now o λv=>k v t) (λ_ _=>bB o) (λ_ _ _=>bB o) (λh t=>o=some h/\k h t) (λ_ _=>bB o) (λ_ _=>bB o) (λ_ _ _ _=>bB o) (λ_ _=>bB o)
def zbi (o:Option Bool) (hs:Hs) (k:Bool->Hs->Prop):Prop:=
 Hs.casesOn (motive:=λ_=>Prop) hs (bB o) (λt=>now o λv=>k v t) (λ_ _=>bB o) (λ_ _ _=>bB o) (λ_ _=>bB o) (λb t=>o=some b/\k b t) (λx y=>now o λr=>(r=true->k true x)/\(r=false->k false y)) (λ_ _ _ _=>bB o) (λ_ _=>bB o)
def zjC (o:SR) (hs:Hs) (k:Fl->Frame->MH->Hs->Prop):Prop:=
 Hs.casesOn (motive:=λ_=>Prop) hs (bB o) (λt=>now o λv=>k v.1.1 v.1.2 v.2 t) (λ_ _=>bB o) (λ_ _ _=>bB o) (λ_ _=>bB o) (λ_ _=>bB o) (λ_ _=>bB o) (λfl fr h t=>o=some ((fl,fr),h)/\k fl fr h t) (λ_ _=>bB o)
def zvh (o:Option (List Val)) (hs:Hs) (k:List Val->Hs->Prop):Prop:=
 Hs.casesOn (motive:=λ_=>Prop) hs (bB o) (λt=>now o λv=>k v t) (λ_ _=>bB o) (λ_ _ _=>bB o) (λ_ _=>bB o) (λ_ _=>bB o) (λ_ _=>bB o) (λ_ _ _ _=>bB o) (λvs t=>o=some vs/\k vs t)
end
theorem lE {α:Type}{o:Option α}{k:α->Prop} (q:now o k): ∃v,o=some v/\k v:=by
 cases o with
 |none=>exact q.f.elim
 |some v=>exact ⟨v,rfl,q⟩
theorem znb {o:Option Val}{hs:Hs}{k:Val->Hs->Prop} (q:zjB o hs k): ∃v t,o=some v/\k v t:=by
 cases hs with
 |c t=>exact (lE q).elim λv q=>⟨v,t,q⟩
 |v v t=>exact ⟨v,t,q⟩
 |_=>exact q.f.elim
theorem znd {o:Option (Val×MH)}{hs:Hs}{k:Val->MH->Hs->Prop} (q:zS o hs k): ∃v h t,o=some (v,h)/\k v h t:=by
 cases hs with
 |c t=>exact (lE q).elim λv q=>⟨v.1,v.2,t,q⟩
 |p v h t=>exact ⟨v,h,t,q⟩
 |_=>exact q.f.elim
theorem znf {o:Option MH}{hs:Hs}{k:MH->Hs->Prop} (q:zjD o hs k): ∃h t,o=some h/\k h t:=by
 cases hs with
 |c t=>exact (lE q).elim λv q=>⟨v,t,q⟩
 |h h t=>exact ⟨h,t,q⟩
 |_=>exact q.f.elim
theorem zng {o:Option Bool}{hs:Hs}{k:Bool->Hs->Prop} (q:zbi o hs k): ∃b t,o=some b/\k b t:=by
 cases hs with
 |c t=>exact (lE q).elim λv q=>⟨v,t,q⟩
 |b b t=>exact ⟨b,t,q⟩
 |br x y=>
  refine (lE q).elim λr q=>⟨r,cond r x y,q.1,?_⟩;cases r with
  |true=>exact q.2.1 rfl
  |false=>exact q.2.2 rfl
 |_=>exact q.f.elim
theorem znc {o:SR}{hs:Hs}{k:Fl->Frame->MH->Hs->Prop} (q:zjC o hs k): ∃fl fr h t,o=some ((fl,fr),h)/\k fl fr h t:=by
 cases hs with
 |c t=>exact (lE q).elim λv q=>⟨v.1.1,v.1.2,v.2,t,q⟩
 |s fl fr h t=>exact ⟨fl,fr,h,t,q⟩
 |_=>exact q.f.elim
theorem zne {o:Option (List Val)}{hs:Hs}{k:List Val->Hs->Prop} (q:zvh o hs k): ∃vs t,o=some vs/\k vs t:=by
 cases hs with
 |c t=>exact (lE q).elim λv q=>⟨v,t,q⟩
 |l vs t=>exact ⟨vs,t,q⟩
 |_=>exact q.f.elim
mutual
noncomputable def cI (c:Cx):Ex->Frame->MH->Hs->(Val->MH->Hs->Prop) ->Prop
 | .var x,fr,h,hs,K=>now fr[x]? λo=>now o λv=>K v h hs
 | .lit v,_,h,hs,K=>K v h hs
 | .list es,fr,h,hs,K=>jP c es fr h hs λvs h1 hs=>K (.ref h1.length) (h1++ [.list vs]) hs
 | .tup es,fr,h,hs,K=>jP c es fr h hs λvs h1 hs=>K (.tup vs) h1 hs
 | .dict es,fr,h,hs,K=>jP c es fr h hs λl h1 hs=>zS ((oE l []).bind λps=>grd (Jt es.length 30) (dW h1 (.dict (some ps.length) ps))) hs K
 | .bin op a b,fr,h,hs,K=>cI c a fr h hs λx h1 hs=>cI c b fr h1 hs λy h2 hs=>zS (gA op x y h2) hs K
 | .not a,fr,h,hs,K=>cI c a fr h hs λx h1 hs=>zbi (truthy h1 x) hs λb hs=>K (.bool (!b)) h1 hs
 | .cmp op a b,fr,h,hs,K=>cI c a fr h hs λx h1 hs=>cI c b fr h1 hs λy h2 hs=>zbi (dQ op x y h2) hs λr hs=>K (.bool r) h2 hs
 | .bop stop es,fr,h,hs,K=>za4 c stop es fr h hs K
 | .ite t a b,fr,h,hs,K=>cI c t fr h hs λx h1 hs=>zbi (truthy h1 x) hs λr hs=>bif r then cI c a fr h1 hs K else cI c b fr h1 hs K
 | .attr e n,fr,h,hs,K=>cI c e fr h hs λo h1 hs=>zjB (getAttr c.P h1 o n) hs λv hs=>K v h1 hs
 | .sub e i,fr,h,hs,K=>cI c e fr h hs λo h1 hs=>cI c i fr h1 hs λk h2 hs=>zjB (bV h2 o k) hs λv hs=>K v h2 hs
 | .slice e k bs,fr,h,hs,K=>cI c e fr h hs λo h1 hs=>jP c bs fr h1 hs λvs h2 hs=>zS (slice h2 o k vs) hs K
 | .call f as,fr,h,hs,K=>cI c f fr h hs λg h1 hs=>jP c as fr h1 hs λvs h2 hs=>zS (aM c g vs h2) hs K
 | .meth o n as,fr,h,hs,K=>cI c o fr h hs λg h1 hs=>jP c as fr h1 hs λvs h2 hs=>zS (bI c g n vs h1 h2) hs K
 | .comp elt tg many it ifs,fr,h,hs,K=>zS (eval c (.comp elt tg many it ifs) fr h) hs K
noncomputable def jP (c:Cx):List Ex->Frame->MH->Hs->(List Val->MH->Hs->Prop) ->Prop
 | [],_,h,hs,K=>K [] h hs
 |e::r,fr,h,hs,K=>cI c e fr h hs λv h1 hs=>jP c r fr h1 hs λvs h2 hs=>K (v::vs) h2 hs
noncomputable def za4 (c:Cx) (stop:Bool):List Ex->Frame->MH->Hs->(Val->MH->Hs->Prop) ->Prop
 | [],_,_,_,_=>False
 |e::r,fr,h,hs,K=>cI c e fr h hs λv h1 hs=>bif r.isEmpty then K v h1 hs else zbi (truthy h1 v) hs λb hs=>bif b==stop then K v h1 hs else za4 c stop r fr h1 hs K
end
def zaf (c:Cx) (fr:Frame) (h:MH) (v:Val) (hs:Hs) (K:Frame->MH->Hs->Prop):T1->Prop
 | .nm x=>K (fr.set x (some v)) h hs
 | .at o n=>cI c o fr h hs λov h1 hs=>zjD (setAttr c.P h1 ov n v) hs λh2 hs=>K fr h2 hs
 | .sb o i=>cI c o fr h hs λov h1 hs=>cI c i fr h1 hs λiv h2 hs=>zjD (dI h2 ov iv v) hs λh3 hs=>K fr h3 hs
def vK (c:Cx):List T1->List Val->Frame->MH->Hs->(Frame->MH->Hs->Prop) ->Prop
 | [],vs,fr,h,hs,K=>bif vs.isEmpty then K fr h hs else False
 |t::ts,vs,fr,h,hs,K=>now vs.head? λv=>zaf c fr h v hs (λfr' h' hs=>vK c ts vs.tail fr' h' hs K) t
mutual
noncomputable def zkp (c:Cx):Sm->Frame->MH->Hs->(Fl->Frame->MH->Hs->Prop) ->Prop
 | .expr e,fr,h,hs,K=>cI c e fr h hs λ_ h1 hs=>K .nx fr h1 hs
 | .asg t e,fr,h,hs,K=>cI c e fr h hs λv h1 hs=>zaf c fr h1 v hs (λfr' h2 hs=>K .nx fr' h2 hs) t
 | .asgs ts e,fr,h,hs,K=>cI c e fr h hs λv h1 hs=>zvh (items h1 v) hs λvs hs=>vK c ts vs fr h1 hs λfr' h2 hs=>K .nx fr' h2 hs
 | .ret e,fr,h,hs,K=>cI c e fr h hs λv h1 hs=>K (.rt v) fr h1 hs
 | .ite t a b,fr,h,hs,K=>cI c t fr h hs λx h1 hs=>zbi (truthy h1 x) hs λr hs=>bif r then rU c a fr h1 hs K else rU c b fr h1 hs K
 | .wh t b,fr,h,hs,K=>zjC (exec c (.wh t b) fr h) hs K
 | .fo tg many e b,fr,h,hs,K=>zjC (exec c (.fo tg many e b) fr h) hs K
 | .brk,fr,h,hs,K=>K .bk fr h hs
 | .cont,fr,h,hs,K=>K .ct fr h hs
 | .pass,fr,h,hs,K=>K .nx fr h hs
 | .raise,_,_,_,_=>False
 | .rse _,_,_,_,_=>False
 | .tr _ _ _ _,_,_,_,_=>False
noncomputable def rU (c:Cx):List Sm->Frame->MH->Hs->(Fl->Frame->MH->Hs->Prop) ->Prop
 | [],fr,h,hs,K=>K .nx fr h hs
 |s::r,fr,h,hs,K=>zkp c s fr h hs λfl fr1 h1 hs=>Fl.casesOn (motive:=λ_=>Prop) fl (rU c r fr1 h1 hs K) (K fl fr1 h1 hs) (K fl fr1 h1 hs) (λ_=>K fl fr1 h1 hs)
end
abbrev Ev {α:Type} (K:α->MH->Hs->Prop) (v:α) (h:MH):Prop:= ∃t,K v h t
theorem oK {o:Option (Val×MH)}{hs:Hs}{k:Val->MH->Hs->Prop} (q:zS o hs k):W o (Ev k):=let ⟨_,_,t,e,q⟩:=znd q; .of e ⟨t,q⟩
theorem zgU {o:Option Val}{hs:Hs}{k:Val->Hs->Prop} (q:zjB o hs k):Wo o λv=> ∃t,k v t:=let ⟨_,t,e,q⟩:=znb q; .of e ⟨t,q⟩
theorem zgW {o:Option MH}{hs:Hs}{k:MH->Hs->Prop} (q:zjD o hs k):Wo o λv=> ∃t,k v t:=let ⟨_,t,e,q⟩:=znf q; .of e ⟨t,q⟩
theorem sO {o:Option Bool}{hs:Hs}{k:Bool->Hs->Prop} (q:zbi o hs k):Wo o λv=> ∃t,k v t:=let ⟨_,t,e,q⟩:=zng q; .of e ⟨t,q⟩
theorem zm6 {r:Bool}{A B A' B':Prop} (a:A->A') (b:B->B') (q:cond r A B):Br r A' B':=by
 cases r with
 |true=>exact zm5 (a q)
 |false=>exact zzG (b q)
structure HE (c:Cx) (e:Ex):Prop where
 o: ∀ {fr h hs K},cI c e fr h hs K->W (eval c e fr h) (Ev K)
structure HEs (c:Cx) (es:List Ex):Prop where
 o: ∀ {fr h hs K},jP c es fr h hs K->W (gT c es fr h) (Ev K)
 b: ∀ {stop fr h hs K},za4 c stop es fr h hs K->WE c fr (.bop stop es) h (Ev K)
section
variable {c:Cx}
theorem fE (e:Ex):HE c e:=by
 refine Ex.rec (motive_1:=HE c) (motive_2:=HEs c) ?_ ?_ ?_ ?_ ?_ ?_ ?_ ?_ ?_ ?_ ?_ ?_ ?_ ?_ ?_ ?_ ?_ ?_ e
 ·exact λx=>⟨λq=>let ⟨o,e1,q⟩:=lE q;let ⟨v,e2,q⟩:=lE q;z6 (e1.trans (congrArg some e2)) ⟨_,q⟩⟩
 ·exact λv=>⟨λq=>zkV ⟨_,q⟩⟩
 ·exact λes i=>⟨λq=>zbt ((i.o q).mono λ_ _ q=>q)⟩
 ·exact λes i=>⟨λq=>zkS ((i.o q).mono λ_ _ q=>q)⟩
 ·exact λes i=>⟨λq=>w_bnd ((i.o q).mono λ_ _ q=>q.elim λ_ q=>oK q)⟩
 ·exact λop a b i j=>⟨λq=>zkZ ((i.o q).mono λ_ _ q=>q.elim λ_ q=>(j.o q).mono λ_ _ q=>q.elim λ_ q=>oK q)⟩
 ·exact λa i=>⟨λq=>zkU ((i.o q).mono λ_ _ q=>q.elim λ_ q=>sO q)⟩
 ·exact λop a b i j=>⟨λq=>zkX ((i.o q).mono λ_ _ q=>q.elim λ_ q=>(j.o q).mono λ_ _ q=>q.elim λ_ q=>sO q)⟩
 ·exact λst es i=>⟨λq=>i.b q⟩
 ·exact λt a b i j k=>⟨λq=>zkW ((i.o q).mono λ_ _ q=>q.elim λ_ q=>(sO q).mono λr q=>q.elim λ_ q=>zm6 j.o k.o q)⟩
 ·exact λa n i=>⟨λq=>zhG ((i.o q).mono λ_ _ q=>q.elim λ_ q=>zgU q)⟩
 ·exact λa b i j=>⟨λq=>zkT ((i.o q).mono λ_ _ q=>q.elim λ_ q=>(j.o q).mono λ_ _ q=>q.elim λ_ q=>zgU q)⟩
 ·exact λa k bs i j=>⟨λq=>zd8 ((i.o q).mono λ_ _ q=>q.elim λ_ q=>(j.o q).mono λ_ _ q=>q.elim λ_ q=>oK q)⟩
 ·exact λf as i j=>⟨λq=>zhE ((i.o q).mono λ_ _ q=>q.elim λ_ q=>(j.o q).mono λ_ _ q=>q.elim λ_ q=>oK q)⟩
 ·exact λo n as i j=>⟨λq=>zhD ((i.o q).mono λ_ _ q=>q.elim λ_ q=>(j.o q).mono λ_ _ q=>q.elim λ_ q=>oK q)⟩
 ·exact λelt tg many it ifs _ _ _=>⟨λq=>oK q⟩
 ·exact ⟨λq=>zbs ⟨_,q⟩,λq=>q.elim⟩
 ·refine λe r i j=>⟨λq=>zd7 ((i.o q).mono λ_ _ q=>q.elim λ_ q=>(j.o q).mono λ_ _ q=>q),λ{st fr h hs K} q=>?_⟩
  cases r with
  |nil=>exact zhF (i.o q)
  |cons f r=>exact zkY ((i.o q).mono λ_ _ q=>q.elim λ_ q=>(sO q).mono λb q=>q.elim λ_ q=>zm6 (λq=>⟨_,q⟩) j.b q)
theorem xX {fr:Frame}{h:MH}{v:Val}{hs:Hs}{K:Frame->MH->Hs->Prop}{t:T1} (q:zaf c fr h v hs K t):W (qH c fr h v t) (Ev K):=by
 cases t with
 |nm x=>exact cB (a:=fr.set x (some v)) ⟨_,q⟩
 | «at» o n=>
  show W (bnd (eval c o fr h) λov h1=>(setAttr c.P h1 ov n v).map λh2=>(fr,h2)) _;exact w_bnd (((fE o).o q).mono λov h1 q=>q.elim λ_ q=>uG (f:=λh2=>(fr,h2)) (zgW q))
 |sb o i=>
  show W (bnd (eval c o fr h) λov h1=>bnd (eval c i fr h1) λiv h2=>(dI h2 ov iv v).map λh3=>(fr,h3)) _;exact w_bnd (((fE o).o q).mono λov h1 q=>q.elim λ_ q=>w_bnd (((fE i).o q).mono λiv h2 q=>q.elim λ_ q=>uG (f:=λh2=>(fr,h2)) (zgW q)))
theorem zcC {ts:List T1}: ∀ {vs:List Val}{fr:Frame}{h:MH}{hs:Hs}{K:Frame->MH->Hs->Prop} (q:vK c ts vs fr h hs K),WSt c ts vs fr h (Ev K):=by
 induction ts with
 |nil=>
  intro vs fr h hs K q;cases vs with
  |nil=>exact cB (a:=fr) ⟨_,q⟩
  |cons _ _=>exact q.elim
 |cons t ts i=>
  intro vs fr h hs K q;refine (lE q).elim λv zq2=>?_;have q:=zq2.2;show W (vs.head?.bind λv=>bnd (qH c fr h v t) λfr' h'=>fM c ts vs.tail fr' h') _;exact mH (Wo.of zq2.1 (w_bnd ((xX q).mono λ_ _ q=>q.elim λ_ q=>i q)))
abbrev Ex' (K:Fl->Frame->MH->Hs->Prop) (fl:Fl) (fr:Frame) (h:MH):Prop:= ∃t,K fl fr h t
structure HX (c:Cx) (s:Sm):Prop where
 o: ∀ {fr h hs K},zkp c s fr h hs K->WS c s fr h (Ex' K)
structure HXs (c:Cx) (s:List Sm):Prop where
 o: ∀ {fr h hs K},rU c s fr h hs K->WSs c s fr h (Ex' K)
theorem zgV {o:SR}{hs:Hs}{k:Fl->Frame->MH->Hs->Prop} (q:zjC o hs k):W o λp h=>Ex' k p.1 p.2 h:=let ⟨_,_,_,t,e,q⟩:=znc q; .of e ⟨t,q⟩
theorem zhz {t:T1}{e:Ex}{fr:Frame}{h:MH}{R:Fl->Frame->MH->Prop} (q:WE c fr e h λv h1=>W (qH c fr h1 v t) λf2 h2=>R .nx f2 h2):WS c (.asg t e) fr h R:=by
 show W (bnd (eval c e fr h) λv h1=>bnd (qH c fr h1 v t) λfr' h2=>some ((Fl.nx,fr'),h2)) λp h=>R p.1 p.2 h;exact w_bnd (W.mono q λv h1 q=>w_bnd (W.mono q λ_ _ q=>⟨q⟩))
theorem zgw (s:List Sm):HXs c s:=by
 refine Sm.rec_1 (motive_1:=HX c) (motive_2:=HXs c) ?_ ?_ ?_ ?_ ?_ ?_ ?_ ?_ ?_ ?_ ?_ ?_ ?_ ?_ ?_ s
 ·exact λe=>⟨λq=>zhw ((fE e).o q)⟩
 ·exact λt e=>⟨λq=>zhz (((fE e).o q).mono λ_ _ q=>q.elim λ_ q=>xX q)⟩
 ·exact λts e=>⟨λq=>zhy (((fE e).o q).mono λ_ _ q=>q.elim λ_ q=>let ⟨_,_,e2,q⟩:=zne q; .of e2 (zcC q))⟩
 ·exact λe=>⟨λq=>zkN ((fE e).o q)⟩
 ·exact λt a b j k=>⟨λq=>zkO (((fE t).o q).mono λ_ _ q=>q.elim λ_ q=>(sO q).mono λr q=>q.elim λ_ q=>zm6 j.o k.o q)⟩
 ·exact λt b _=>⟨λq=>zgV q⟩
 ·exact λtg many e b _=>⟨λq=>zgV q⟩
 ·exact ⟨λq=>zkP ⟨_,q⟩⟩
 ·exact ⟨λq=>zhx ⟨_,q⟩⟩
 ·exact ⟨λq=>zht ⟨_,q⟩⟩
 ·exact ⟨λq=>q.elim⟩
 ·exact λ_=>⟨λq=>q.elim⟩
 ·exact λ_ _ _ _=>⟨λq=>q.elim⟩
 ·exact ⟨λq=>zhs ⟨_,q⟩⟩
 ·exact λs r i j=>⟨λq=>zd3 ((i.o q).mono λp _ q=>by
   obtain ⟨fl,fr⟩:=p;obtain ⟨t,q⟩:=q;cases fl with
   |nx=>exact j.o q
   |bk=>exact ⟨_,q⟩
   |ct=>exact ⟨_,q⟩
   |rt v=>exact ⟨_,q⟩)⟩
end
structure S (h:MH) (hs:Hs) (p:Prop):Prop where
 o:p
section
variable {g g':MH}{hs ht:Hs}{pr pq:Prop}
theorem S.z (f:pr):S g .nil pr:=⟨f⟩
theorem S.at (g':MH) (r:S g' hs pr):S g hs pr:=⟨r.o⟩
theorem S.c (r:S g hs pr):S g (.c hs) pr:=⟨r.o⟩
theorem S.c2 (r:S g hs pr):S g (.c (.c hs)) pr:=⟨r.o⟩
theorem S.c3 (r:S g hs pr):S g (.c (.c (.c hs))) pr:=⟨r.o⟩
theorem S.c4 (r:S g hs pr):S g (.c (.c (.c (.c hs)))) pr:=⟨r.o⟩
theorem S.v {o:Option Val}{v:Val} (f:o=some v) (r:S g hs pr):S g (.v v hs) (o=some v/\pr):=⟨f,r.o⟩
theorem S.w {o:MH->Option Val}{v:Val} (f: ∀h,o h=some v) (r:S g hs pr):S g (.v v hs) (o g=some v/\pr):=⟨f g,r.o⟩
theorem S.p {o:Option (Val×MH)}{v:Val} (f:o=some (v,g')) (r:S g' hs pr):S g (.p v g' hs) (o=some (v,g')/\pr):=⟨f,r.o⟩
theorem S.q {o:MH->Option (Val×MH)}{v:Val} (f: ∀h,o h=some (v,h)) (r:S g hs pr):S g (.p v g hs) (o g=some (v,g)/\pr):=⟨f g,r.o⟩
theorem S.h {o:Option MH} (f:o=some g') (r:S g' hs pr):S g (.h g' hs) (o=some g'/\pr):=⟨f,r.o⟩
theorem S.b {o:Option Bool}{b:Bool} (f:o=some b) (r:S g hs pr):S g (.b b hs) (o=some b/\pr):=⟨f,r.o⟩
theorem S.k {o:MH->Option Bool}{b:Bool} (f: ∀h,o h=some b) (r:S g hs pr):S g (.b b hs) (o g=some b/\pr):=⟨f g,r.o⟩
theorem S.t {x:Bool} (f:x=true) (r:S g hs pr):S g (.b true hs) (some x=some true/\pr):=⟨congrArg some f,r.o⟩
theorem S.f {x:Bool} (f:x=false) (r:S g hs pr):S g (.b false hs) (some x=some false/\pr):=⟨congrArg some f,r.o⟩
theorem S.br (x:Bool) (f:x=true->S g hs pr) (h:x=false->S g ht pq):S g (.br hs ht) ((x=true->pr)/\(x=false->pq)):=⟨λe=>(f e).o,λe=>(h e).o⟩
theorem S.s {o:SR}{fl:Fl}{fr:Frame} (f:o=some ((fl,fr),g')) (r:S g' hs pr):S g (.s fl fr g' hs) (o=some ((fl,fr),g')/\pr):=⟨f,r.o⟩
end
section
variable {b:List Sm}{fr:Frame}{h:MH}{hs:Hs}{R:Fl->Frame->MH->Prop}{p:Prop}{P:Prg}{d:Nat}{Q:Val->MH->Prop}
theorem run {c:Cx} (s:S h hs p) (e:rU c b fr h hs (λfl fr h _=>R fl fr h)=p):WSs c b fr h R:=by
 exact ((zgw b).o (e▸s.o)).mono λ_ _ q=>q.elim λ_ q=>q
end
end Internal
namespace Internal
section
variable {P:Prg}{c:Cx}{h:MH}{α:Type}
theorem W.eq {o:Option (α×MH)}{v:α}{g:MH} (w:W o λa b=>a=v/\b=g):o=some (v,g):=let ⟨_,_,e,q⟩:=w.get;by obtain ⟨rfl,rfl⟩:=q;exact e
theorem Wo.eq {o:Option α}{v:α} (w:Wo o λa=>a=v):o=some v:=by
 cases o with
 |none=>exact w.w.elim
 |some p=>exact congrArg some w.w
theorem ga {a k n:Nat}{fs:List (Nat×Val)}{v:Val} (ha:h[a]?=some (.inst k fs)) (hv:l8 fs n=some v) (hf:P.hasFld k n=true):getAttr P h (.ref a) n=some v:=Wo.eq (zk2 ha hv hf (Q:=λa _=>a=v) rfl)
theorem sl {a i:Nat}{vs:List Val}{v:Val} (ha:h[a]?=some (.list vs)) (hv:vs[i]?=some v):bV h (.ref a) (.int i)=some v:=Wo.eq (zhB ha hv (Q:=λa _=>a=v) rfl)
theorem sd {a:Nat}{ep:Option Nat}{es:List (Val×Val)}{k v:Val} (ha:h[a]?=some (.dict ep es)) (hf:aN es k=true) (hv:a9 es k=some v):bV h (.ref a) k=some v:=Wo.eq (zhC ha hf hv (Q:=λa _=>a=v) rfl)
theorem zlk {a i:Nat}{vs:List Val}{v:Val} (ha:h[a]?=some (.list vs)) (hi:i<vs.length):dI h (.ref a) (.int i) v=some (h.set a (.list (vs.set i v))):=Wo.eq (zeX ha hi rfl)
theorem zh1 {a:Nat}{ep:Option Nat}{es:List (Val×Val)}{k v:Val} (ha:h[a]?=some (.dict ep es)) (hf:aN es k=true) (hl:es.length<lim):dI h (.ref a) k v=some (h.set a (.dict (bif (a9 es k).isSome then ep else ep.map (· +1)) (fP es k v))):=Wo.eq (zeY ha hf hl rfl)
theorem vL {a k n:Nat}{fs:List (Nat×Val)}{v:Val} (ha:h[a]?=some (.inst k fs)) (hf:P.hasFld k n=true) (hl:fs.length<400):setAttr P h (.ref a) n v=some (h.set a (.inst k (rG fs n v))):=Wo.eq (zcT ha hf hl rfl)
theorem eqs (s t:List Nat) (h:MH):veq h (.str s) (.str t)=some (s==t):=zbx
theorem eqi (s t:Int) (h:MH):veq h (.int s) (.int t)=some (s==t):=mI
theorem ne_of {a b:Val}{r:Bool} (e:veq h a b=some r):dQ .ne a b h=some (!r):=by
 show (veq h a b).map _=_;rw [e];rfl
theorem zgi {a b:Val}{r:Bool} (e:za1 h a b=some r):dQ .notin a b h=some (!r):=by
 show (za1 h a b).map _=_;rw [e];rfl
theorem fn {d a:Nat}{as:List Val}{v:Val}{g:MH} (hc:P.clsAt a=none) (w:WF P d a as h λx y=>x=v/\y=g):aM (Cxd P d) (.top a) as h=some (v,g):=W.eq (dO hc w)
theorem me {d n f:Nat}{o:Val}{self as:List Val}{h0:MH}{v:Val}{g:MH} (hg:dK P h0 o n=some (f,self)) (w:WF P d f (self++as) h λx y=>x=v/\y=g):bI (Cxd P d) o n as h0 h=some (v,g):=W.eq (a8 hg w)
theorem zvQ {s:List Nat}{n:Nat}{bs:List Val}{p:Nat×Nat} (e:r0 s.length n bs=some p):slice h (.str s) n bs=some (.str (cut s p.1 p.2),h):=by
 show (r0 s.length n bs).bind _=_;rw [e];rfl
theorem bM {e:Ex}{fr:Frame}{hs:Hs}{Q:Val->MH->Prop}{p:Prop} (s:S h hs p) (q:cI c e fr h hs (λv h _=>Q v h)=p):WE c fr e h Q:=((fE e).o (q▸s.o)).mono λ_ _ q=>q.elim λ_ q=>q
theorem two (v:Val) (g:MH):v=v/\g=g:=⟨rfl,rfl⟩
theorem foR {σ:Type}{x n:Nat}{e:Ex}{b:List Sm} (F:σ->Frame) (G:σ->MH) (P:Nat->σ->Prop) (s0:σ) (hn:n<=100000) (hc:c.fuel=200000)
  (e0:WE c (F s0) e (G s0) λv g=>v= .rng n/\g=G s0) (p0:P 0 s0)
  (step: ∀i s R' R,i<n->P i s->To F G (P (i+1)) R R'->WSs c b ((F s).set x (some (.int i))) (G s) R'): ∃s,P n s/\exec c (.fo [x] false e b) (F s0) (G s0)=some ((.nx,F s),G s):=by
 have w:WS c (.fo [x] false e b) (F s0) (G s0) λfl f g=> ∃s,P n s/\fl= .nx/\f=F s/\g=G s:=
  zd4 F G P (by rw [hc];exact Qi (QK hn) (Qn _ _)) (by show n<=1000000;exact Qa hn (Qn _ _)) s0 (e0.mono λv g q=>⟨q.1,rfl,q.2,p0⟩) (λi s R' hi hp T=>step i s R' _ hi hp T) λs hp=>⟨s,hp,rfl,rfl,rfl⟩
 obtain ⟨⟨fl,f⟩,g,e,s,hp,q1,q2,q3⟩:=W.get w;cases q1;cases q2;cases q3;exact ⟨s,hp,e⟩
theorem foL {σ:Type}{tg:List Nat}{many:Bool}{a:Nat}{e:Ex}{b:List Sm}{vs:List Val} (F:σ->Frame) (G:σ->MH) (P:Nat->σ->Prop) (s0:σ) (hn:vs.length<=100000) (hc:c.fuel=200000)
  (hk: ∀i s,P i s->(G s)[a]?=some (.list vs)) (e0:WE c (F s0) e (G s0) λv g=>v= .ref a/\g=G s0) (p0:P 0 s0)
  (step: ∀i v s R' R,vs[i]?=some v->P i s->To F G (P (i+1)) R R'->Wo (eC (F s) tg many v) λfr1=>WSs c b fr1 (G s) R'): ∃s,P vs.length s/\exec c (.fo tg many e b) (F s0) (G s0)=some ((.nx,F s),G s):=by
 have w:WS c (.fo tg many e b) (F s0) (G s0) λfl f g=> ∃s,P vs.length s/\fl= .nx/\f=F s/\g=G s:=
  p9 F G P (by rw [hc];exact Qi (QK hn) (Qn _ _)) s0 hk (e0.mono λv g q=>⟨q.1,rfl,q.2,p0⟩) (λi v s R' hi hp T=>step i v s R' _ hi hp T) λs hp=>⟨s,hp,rfl,rfl,rfl⟩
 obtain ⟨⟨fl,f⟩,g,e,s,hp,q1,q2,q3⟩:=W.get w;cases q1;cases q2;cases q3;exact ⟨s,hp,e⟩
def zu6 (P:Prg) (a:Nat) (as:List Val):Option (List Sm×Frame):=(P.fnAt a).bind λf=>(mB f as).map λvs=>(f.body,iD f vs)
theorem bJ {d K f:Nat}{as:List Val}{Q:Val->MH->Prop} (hd:K+1<=d) (fr:Frame) (bd:List Sm) (e:zu6 P f as=some (bd,fr)) (q: ∀d',K<=d'->WSs (Cxd P d') bd fr h (Fin Q)):WF P d f as h Q:=by
 obtain ⟨fn,e1,e⟩:=Yh.mp e;obtain ⟨vs,e2,e⟩:=Jj.mp e;cases e;exact znE hd e1 e2 q
theorem dH {a b:List Sm}{R:Fl->Frame->MH->Prop}: ∀ {fr:Frame}{h:MH},WSs c a fr h (Beh c b R) ->WSs c (a++b) fr h R:=by
 induction a with
 |nil=>exact λq=>q.w
 |cons s a ih=>
  intro fr h q;show W (bnd (exec c s fr h) λ(p:Fl×Frame) h1=>Fl.casesOn (motive:=λ_=>SR) p.1 (execs c (a++b) p.2 h1) (some (p,h1)) (some (p,h1)) (λ_=>some (p,h1))) λp h=>R p.1 p.2 h;have q:W (bnd (exec c s fr h) λ(p:Fl×Frame) h1=>Fl.casesOn (motive:=λ_=>SR) p.1 (execs c a p.2 h1) (some (p,h1)) (some (p,h1)) (λ_=>some (p,h1))) λp h=>Beh c b R p.1 p.2 h:=q;refine w_bnd ((w_bnd' q).mono λp h1 q=>?_);obtain ⟨fl,f2⟩:=p;cases fl with
  |nx=>exact ih q
  |bk=>exact ⟨q.w⟩
  |ct=>exact ⟨q.w⟩
  |rt v=>exact ⟨q.w⟩
theorem zjU {s:Sm}{r:List Sm}{R:Fl->Frame->MH->Prop}{fr:Frame}{h:MH} (q:WSs c [s] fr h (Beh c r R)):WSs c (s::r) fr h R:=dH q
end
end Internal
namespace Internal
theorem zvP (C:Cfg):zck C:=zvO C
end Internal
open PySem PySem.W PySem.W.X PyProof.Rows PySem.Calls
set_option linter.unusedVariables false
lay_quick PySem.W.staticsOk PySem.W.namesBound PySem.W.laidKept PySem.W.xlAt PySem.W.recOk PySem.W.openGood
namespace Tactic
def lits0 : List String := ["builtins.copyright#opaque","builtins.credits#opaque","builtins.license#opaque"]
end Tactic
lay_quick Tactic.lits0
namespace Tactic
abbrev TP:Program:=PySem.Challenge.pw_ui0508_13
theorem zvD:PySem.Challenge.pw_ui0508_13=TP:=rfl
abbrev TWtopGo:=PySem.W.Fast.tw15667345088766844465
theorem zbn: @topGo=TWtopGo:=PySem.W.Fast.te15667345088766844465
abbrev TWtopRun:=PySem.W.Fast.tw14082659384304107361
theorem zX: @topRun=TWtopRun:=PySem.W.Fast.te14082659384304107361
abbrev TWsegRun:=PySem.W.Fast.tw14374325043358763698
theorem zY: @segRun=TWsegRun:=PySem.W.Fast.te14374325043358763698
abbrev TWsegRunT:=PySem.W.Fast.tw10110043849684766642
theorem bF: @segRunT=TWsegRunT:=PySem.W.Fast.te10110043849684766642
abbrev TWtable:=PySem.W.Fast.tw14364793385576792824
theorem bE: @treeTable=TWtable:=PySem.W.Fast.te14364793385576792824
abbrev TWdenote:=PySem.W.Fast.tw11892475500146522536
theorem zZ: @denote=TWdenote:=PySem.W.Fast.te11892475500146522536
def gO:Nat->List Stmt->List Stmt
 |0,_=> []
 |_+1,[]=> []
 |n+1,s::r=>s::gO n r
def eR:Nat->List Stmt->List Stmt
 |0,l=>l
 |_+1,[]=> []
 |n+1,_::r=>eR n r
abbrev FnT:=Arguments×List Stmt×Scope
def zwT:FnT:=(⟨[],[],none,[],[],none,[]⟩,[],⟨.function,[],false,false,[]⟩)
def zkn:List Stmt->FnT
 | .FunctionDef _ a b _ _ _ sc _ _ _::_=>(a,b,sc)
 |_=>zwT
def zm1:List Stmt->List Stmt
 | .ClassDef _ _ _ b _ _ _ _ _ _ _::_=>b
 |_=> []
def fnA (i:Nat):FnT:=zkn (eR i TP.main.body)
def fnB (i j:Nat):FnT:=zkn (eR j (zm1 (eR i TP.main.body)))
def zzE (f:FnT) (name qual:PySem.Str) (g:Addr) (cl:List (PySem.Str×Addr)) (dV kV doc pm:Value) (an:Option Addr) (cd ct:Value) (b:Addr):FuncData:=
 {name:=name,qualname:=qual,params:=f.1,body:= .stmts f.2.1,scope:=f.2.2,globals:=g,closure:=cl,defaults:=dV,kwdefaults:=kV,doc:=doc,pyModule:=pm,annotations:=an,code:=cd,closureTuple:=ct,builtins:=b}
def de (P:Params) (n:PySem.Str) (t:Tok) (v:Value):DictEntry:=⟨Xy P n,.str n t,v⟩
def XZ (f:Nat):Nat->List Nat:= @Nat.rec (λ_=>Nat->List Nat) (λ_=> []) (λ_ ih k=>bif Wi k 0 then [] else (k % 128)::ih (k / 128)) f
abbrev XN (k:Nat):PySem.Str:=⟨⟨XZ 60 k⟩⟩
abbrev X9 (i:Int) (t:Tok):Value:=Wk i t
abbrev X0 (i:Int):Value:=Wk i 0
abbrev XS (s:PySem.Str) (t:Tok):Value:=Zl s t
abbrev XB (b:Bool):Value:=Ys b
abbrev X7:Value:=Kw
abbrev X6 {α:Type}:Option α:=QY
abbrev X8 {α:Type} (l:List α):Array α:=Q3 l
abbrev X1 (a:Addr):Value:= .ref a
def XO (c:Value) (d:Option Addr) (b:Data):Params->Obj:=λ_=>⟨c,d,b,Q3 []⟩
def X2 (n:PySem.Str) (t:Tok) (v:Value):Params->DictEntry:=λP=>de P n t v
abbrev XF (f:FnT) (n q:PySem.Str) (g:Addr) (dV kV doc pm:Value) (an:Option Addr) (cd ct:Value)   :Data:= .func (zzE f n q g [] dV kV doc pm an cd ct 0)
abbrev X5:Params->BT:=λ_=> .nil
abbrev XT0:Value:=Qh s2766695959194262286x5
abbrev XT1:Value:=Qh s5856160107412720595x4
abbrev XT2:Value:=Qh s14018661285674007319x4
abbrev XT3:Value:=Qh s7174869446012820540x8
abbrev XT4:Value:=Qh s6070975301684473832x10
abbrev XT5:Value:=Qh s11030030927630378310x26
abbrev XT6:Value:=Qh s17162191345867700912x4
abbrev XT7:Value:=Qh s14755015743595814543x17
abbrev XT8:Value:=Qh s4290257624100764138x5
abbrev XT9:Value:=Qh s9222952809800978799x4
abbrev zvl:Value:=Qh s2742458400755230247x6
abbrev zBa:Value:=Qh s11695548795398191787x4
abbrev zA9:Value:=Qh s4156966113859768872x10
abbrev zA8:Value:=Qh s9501651726347032510x9
abbrev zA7:Value:=Qh s15722918466584999320x5
abbrev zA6:Value:=Qh s591115383303110208x11
abbrev zA5:Value:=Qh s15721156781594690315x7
abbrev zA4:Value:=Qh s14340494229221121180x9
abbrev zA3:Value:=Qh s13429844117177748173x6
abbrev zA2:Value:=Qh s16463266125957815391x5
abbrev zA1:Value:=Qh s4922535414793169389x9
abbrev zA0:Value:=Qh s8101838861749082086x8
abbrev zAZ:Value:=Qh s7066276694103001551x3
abbrev zAY:Value:=Qh s462964344163437139x3
abbrev zAX:Value:=Qh s1438033511350832697x5
abbrev zAW:Value:=Qh s14365286008749172514x8
abbrev zAV:Value:=Qh s3642769012341782148x3
abbrev zAU:Value:=Qh s4674234679698826739x5
abbrev zAT:Value:=Qh s16656946322747308186x12
abbrev zAS:Value:=Qh s10796804682411823810x3
abbrev zAR:Value:=Qh s14339709457334898076x3
abbrev zAQ:Value:=Qh s4278001404047624695x13
abbrev zAP:Value:=Qh s6585700554429387442x18
abbrev zAO:Value:=Qh s5946037652744460706x9
abbrev zAN:Value:=Qh s7410770068591931388x13
abbrev zAM:Value:=Qh s11817881795495490833x17
abbrev zAL:Value:=Qh s15679963881808890155x10
abbrev zAK:Value:=Qh s3871700062485845797x15
abbrev zAJ:Value:=Qh s7689518266570723881x14
abbrev zAI:Value:=Qh s9001593270443806431x14
abbrev zAH:Value:=Qh s6882542574934516792x11
abbrev zAG:Value:=Qh s14403400214490484960x8
abbrev zAF:Value:=Qh s14457978657717015782x11
abbrev zAE:Value:=Qh s1753610191782819921x11
abbrev zAD:Value:=Qh s14119380538032626715x11
abbrev zAC:Value:=Qh s11437920000406562045x9
abbrev znr:Value:=Qh s10852414792293593619x7
abbrev zAB:Value:=Qh s14816307405966870543x14
abbrev zAA:Value:=Qh s8682627914449686677x12
abbrev zAz:Value:=Qh s4428170145600203450x18
abbrev zAy:Value:=Qh s5991306692159431302x13
abbrev zAx:Value:=Qh s16067994140765818257x11
abbrev zAw:Value:=Qh s2327743974964600596x11
abbrev zAv:Value:=Qh s2804747833354056582x9
abbrev zAu:Value:=Qh s14270485950484850486x7
abbrev zAt:Value:=Qh s12041534306414923332x18
abbrev zAs:Value:=Qh s2531307568338490285x13
abbrev zAr:Value:=Qh s631175304937289666x17
abbrev zAq:Value:=Qh s5144983644357021410x12
abbrev zAp:Value:=Qh s18039099521571816885x18
abbrev zAo:Value:=Qh s6011586214260557989x15
abbrev zAn:Value:=Qh s5430567037509283100x13
abbrev zAm:Value:=Qh s8117915138073963741x13
abbrev zAl:Value:=Qh s3423317712779056401x25
abbrev zAk:Value:=Qh s2007317383269046180x15
abbrev zAj:Value:=Qh s17481586968713580700x14
abbrev zAi:Value:=Qh s2450899226349176912x13
abbrev zAh:Value:=Qh s16626165730633575011x14
abbrev zAg:Value:=Qh s14288496050688921416x11
abbrev zAf:Value:=Qh s5735081916595925998x15
abbrev zAe:Value:=Qh s3865607918536308442x17
abbrev zAd:Value:=Qh s13337502604062700212x15
abbrev zAc:Value:=Qh s13114017843053701147x15
abbrev zAb:Value:=Qh s17467278006356818441x17
abbrev zAa:Value:=Qh s17722149559621369488x16
abbrev zz9:Value:=Qh s7855274175708717672x17
abbrev zz8:Value:=Qh s13351283678309829046x18
abbrev zz7:Value:=Qh s6668348653404991179x15
abbrev zz6:Value:=Qh s12913350958174193794x18
abbrev zz5:Value:=Qh s16115879512475548326x12
abbrev zz4:Value:=Qh s15920661018069861047x16
abbrev zz3:Value:=Qh s10779130036587390575x21
abbrev zz2:Value:=Qh s7801419657504700863x10
abbrev zz1:Value:=Qh s1688129525768580628x8
abbrev zz0:Value:=Qh s1031832959479892071x19
abbrev zzZ:Value:=Qh s8991790508128307865x19
abbrev zzY:Value:=Qh s14539662485746970245x23
abbrev zzX:Value:=Qh s11643622729373238714x14
abbrev zzW:Value:=Qh s3386828779285465597x17
abbrev zzV:Value:=Qh s13042696260734638735x12
abbrev zzU:Value:=Qh s18239426817015966623x15
abbrev zzT:Value:=Qh s1270395311379034370x22
abbrev zzS:Value:=Qh s10696252587037064777x22
abbrev zzR:Value:=Qh s7852717498200857586x20
abbrev zzQ:Value:=Qh s6377248116197321094x8
abbrev zzP:Value:=Qh s3834378056692298002x18
abbrev zzO:Value:=Qh s17586630440231065808x18
abbrev zzN:Value:=Qh s15234114252648025395x21
abbrev zzM:Value:=Qh s8496462677383758984x14
abbrev zvk:Value:=Qh s6658869562736209489x6
def n0:=XN 0x7d97675c9bf6bc
def n1:=XN 0x79e0bba75c6bf6e9c3b31af
def n2:=XN 0xbf7f769c3b6fdf
def n3:=XN 0xbf7f2edc3bafdf
def n4:=XN 0x1cf3eed3c9765c7d7273dd87974
def n5:=XN 421105403244511
def n6:=XN 0x17efe5cf875e3c3c2fdf
def n7:=XN 0x2fdfe597261dfb2fdf
def n8:=XN 0xbf7f1e5e1cefdf
def n9:=XN 0x17eff3ddbf4f4c3d37eedd86fdf
def n10:=XN 0xbf7f9eed3d3669eb8afdf
def n11:=XN 0xbf7f2ecd39afdf
def n12:=XN 0x2fdfc997463c38efdf
def n13:=XN 29219126239
def n14:=XN 2874561127620
def n15:=XN 0x1cb86ed9ab466c98b0
def n16:=XN 367430873507014
def n17:=XN 0xa94e2d48316947
def n18:=XN 22438781133
def n19:=XN 0x3d7eed1bebb6efaf74284a0
def n20:=XN 0xe5bf9728b97769d18f0cd
def n21:=XN 0x72cbd3a65d97f9e9
def n22:=XN 0x1cb2f4e99765fc9972ee
def n23:=XN 0x3665c58765fc9972ee
def n24:=XN 0x64e5bfbdfc9972ee
def n25:=XN 0x3a6eebbf1dfc9972ee
def n26:=XN 29779293299
def n27:=XN 0x66df7fa68cfa72f7
def n28:=XN 107
def n29:=XN 0x2fdfcbb3ae4dfb6fdf
def n30:=XN 0xe7cb7f2e595765c7d7273dd87974
def n31:=XN 0xbf7f2edc3bb661ebc6fdf
def n32:=XN 0x17efefdd97769d9d39f2d39afdf
def n33:=XN 0x5fbfcf2f4eb8b4f2e9d30dfc7a7a61e9cefdf
def n34:=XN 0x17efe6cbcb5e1cbdefdf
def n35:=XN 232387827
def n36:=XN 211597303
def n37:=XN 27359129846
def n38:=XN 31381287660
def n39:=XN 245168109
def n40:=XN 244872311
def n41:=XN 245248756
def n42:=XN 1897177
def n43:=XN 213610734
def n44:=XN 1897209
def n45:=XN 0x72cb9396fbfcf0e8
def n46:=XN 0xe9cb0f0bfbb0e3
def n47:=XN 4013864876014
def n48:=XN 1668975
def n49:=XN 211383022
def n50:=XN 243103344
def n51:=XN 31083689204
def n52:=XN 240679539
def n53:=XN 3809597945827
def n54:=XN 240745327
def n55:=XN 0x72cbd3a65c57f9e9
def n56:=XN 251393139
def n57:=XN 211317490
def n58:=XN 215692019
def n59:=XN 97
def n60:=XN 0xc9972ee5dcf2d9
def n61:=XN 98
def n62:=XN 0xe7d76705dcf2d9
def n63:=XN 0x73cbb74f45dcf2d9
def n64:=XN 0xe587a735dcf2d9
def n65:=XN 1964018
def n66:=XN 0x376fdbb77e35dcf2d9
def n67:=XN 0xe597b6f5dcf2d9
def n68:=XN 0x72cbd3a65c57f9e95dcf2d9
def n69:=XN 0xefbf4735dcf2d9
def n70:=XN 0xc9872f25dcf2d9
def n71:=XN 0xbf7fa63d392fdf
def n72:=XN 31381287628
def n73:=XN 0x3265cbb9774e7872cc
def n74:=XN 0x39f5d9c1774e7872cc
def n75:=XN 0x1cf2edd3d1774e7872cc
def n76:=XN 0x3961e9cd774e7872cc
def n77:=XN 0xddbf6eddf8d774e7872cc
def n78:=XN 0x3965edbd774e7872cc
def n79:=XN 0x1cb2f4e99715fe7a5774e7872cc
def n80:=XN 0x3befd1cd774e7872cc
def n81:=XN 0x3261cbc9774e7872cc
def n82:=XN 31371130819
def n83:=XN 211350495
def n84:=XN 31371130851
def n85:=XN 0x3265cbb9774ddd77c3
def n86:=XN 0x39f5d9c1774ddd77c3
def n87:=XN 0x1cf2edd3d1774ddd77c3
def n88:=XN 0x3961e9cd774ddd77c3
def n89:=XN 0xddbf6eddf8d774ddd77c3
def n90:=XN 0x3965edbd774ddd77c3
def n91:=XN 0x1cb2f4e99715fe7a5774ddd77c3
def n92:=XN 0x3befd1cd774ddd77c3
def n93:=XN 0x3261cbc9774ddd77c3
def n94:=XN 3497140974659
def n95:=XN 3497140974691
def n96:=XN 0x1932e5dcbb2e3dd87443
def n97:=XN 0x1cfaece0bb2e3dd87443
def n98:=XN 0xe7976e9e8bb2e3dd87443
def n99:=XN 0x1cb0f4e6bb2e3dd87443
def zmt:=XN 0x6edfb76efc6bb2e3dd87443
def zms:=XN 0x1cb2f6debb2e3dd87443
def zmr:=XN 0xe597a74cb8aff3d2bb2e3dd87443
def zmq:=XN 0x1df7e8e6bb2e3dd87443
def yV:=XN 30815303797
def zzr:=XN 226275565
def yU:=XN 30815418348
def zmp:=XN 0x1930e5e4bb2e3dd87443
def tE:=XN 4186732950732
def v9:=XN 0xddbf4f4c787966
def zuu:=XN 4186732950764
def zmo:=XN 0x1932e5dcbbceccbaf4cc
def zmn:=XN 0x1cfaece0bbceccbaf4cc
def zmm:=XN 0x1cb0f4e6bbceccbaf4cc
def zml:=XN 0xe597a74cb8aff3d2bbceccbaf4cc
def zut:=XN 110
def zzq:=XN 100
def zzp:=XN 15586
def cY:=XN 0x65dda7463c3b5765c7d7273dd87974
def ziQ:=XN 22430328018
def lV:=XN 217822450
def yT:=XN 29196367860
def ziP:=XN 0x14e2d483529dfa94e7cd
def ziO:=XN 0x53874a0dfa94e7cd
def ziN:=XN 1140559
def zaP:=XN 1915631
def zaO:=XN 1636673
def tD:=XN 0xbf7fa69dda6fdf
def zdj:=XN 0xf3d386dcb7f9e9
def zfN:=XN 29204459756
def lU:=XN 4013864678135
def zdi:=XN 4013059518708
def zmk:=XN 0xbf7fa69dda6fdf5d8f941
def zmj:=XN 0xf3d386dcb7f9e95d8f941
def zmi:=XN 0x6ccb8b0ec5d8f941
def zaN:=XN 448010674303181
def zdh:=XN 0x36efdfcafe4cb9775f
def rA:=XN 27356854899
def zdg:=XN 3978726767219
def zdf:=XN 0x32f4c3d39dfc9972ee
def nW:=XN 1636705
def zfM:=XN 29749703779
def zaM:=XN 29749801698
def zaL:=XN 1652581
def zaK:=XN 213824755
def zfL:=XN 0x39e3e586ff4ddd77e3
def zde:=XN 0x79e9c36e5bfcf0e8
def zfK:=XN 3980574372076
def zdd:=XN 0xdda70ece17f9e9
def zdc:=XN 255604707
def zfJ:=XN 31083705580
def zmh:=XN 0xbf7fa69dda6fdf5d97769d18f0cd
def zmg:=XN 0x36efdfcafe4cb9775f5d97769d18f0cd
def zmf:=XN 0x65e987a735d97769d18f0cd
def zme:=XN 0x39e5e987a735d97769d18f0cd
def zzo:=XN 3944329476846
def zmd:=XN 0x32f4c3d39dfc9972ee5d97769d18f0cd
def zfI:=XN 3497149691891
def zmc:=XN 0x18f9615d97769d18f0cd
def zmb:=XN 0x6ed3874635d97769d18f0cd
def ziM:=XN 31379192435
def ziL:=XN 0x6ed39f2e25d97769d18f0cd
def ziK:=XN 0x1937655d97769d18f0cd
def zma:=XN 0xcbeb4f35d97769d18f0cd
def zl9:=XN 0x39e3e586ff4ddd77e35d97769d18f0cd
def zl8:=XN 0x79e9c36e5bfcf0e85d97769d18f0cd
def zl7:=XN 0x39eccb8b0ec5d97769d18f0cd
def zl6:=XN 0xdda70ece17f9e95d97769d18f0cd
def zl5:=XN 0xf3c37e35d97769d18f0cd
def zl4:=XN 0x73cbbb4ec5d97769d18f0cd
def zus:=XN 4015504749023
def zur:=XN 242809185
def zuq:=XN 242825061
def zl3:=XN 31381566694
def zaJ:=XN 0x6eebc9765c7d7273dd87974
def zaI:=XN 3845270352481
def zaH:=XN 230324596
def zaG:=XN 443747950901215
def zaF:=XN 0x64e587bebc78715f
def zaE:=XN 244938463
def zaD:=XN 0xe797a61e9cefe4cb9775f
def zaC:=XN 4016545052521
def zaB:=XN 513602345498992
def zaA:=XN 448184882934514
def zl2:=XN 177530829
def zaz:=XN 27340091636
def zay:=XN 1651297
def zax:=XN 0x73cbb74f4bfdf7f2
def zaw:=XN 0x3961e9ceff9e9c36e5
def zl1:=XN 372306437449676
def zav:=XN 0x1d396fd1cefe4cb9775f
def zau:=XN 4016840536927
def zat:=XN 31115080543
def yS:=XN 448010674303213
def zup:=XN 30815173231
def zzn:=XN 31354156147
def zzm:=XN 3497399218914
def zzl:=XN 1913581
def zzk:=XN 226277367
def ziJ:=XN 0x3661ddbf4f4c3c9765c7d7273dd87974
def zzj:=XN 213464307
def zfH:=XN 0x1cf961e9cd765c7d7273dd87974
def zuo:=XN 27321202288
def zl0:=XN 243136498
def zun:=XN 105
def zum:=XN 106
def zul:=XN 14945
def zzi:=XN 3944367338220
def zfG:=XN 0x33637dc306ac34f5bfdf0ec
def zdb:=XN 211366111
def zda:=XN 3463297348319
def zc9:=XN 0x6cd9971dfef8765f
def zc8:=XN 0xe7d3467d397bdfef8765f
def zc7:=XN 0xcbbb4e8c7876dfef8765f
def zc6:=XN 1962220
def zzh:=XN 1995499
def zuk:=XN 4016016503283
def zzg:=XN 3982185216117
def zzf:=XN 3466780866415
def zuj:=XN 0xe7bb4f4d9a7ae2
def zze:=XN 0x17eff3e787663bf93669eb8afdf
def zzd:=XN 0x2fdfe9cb7f0dba6fdf
def zzc:=XN 1896801
def zzb:=XN 1783393
def zza:=XN 1996641
def zy9:=XN 28407560673
def zy8:=XN 1815778
def zy7:=XN 0x3a6ed3bf86bc397962
def zy6:=XN 0xcbb3161d9b30e3
def zy5:=XN 1881187
def zy4:=XN 447941971769315
def zy3:=XN 505394375635684
def zy2:=XN 1881316
def zy1:=XN 3466000708836
def zy0:=XN 228096869
def zyZ:=XN 209288293
def zyY:=XN 4011998361574
def zyX:=XN 505394375766759
def zyW:=XN 509512446113383
def zyV:=XN 505394375749864
def zyU:=XN 220000488
def zyT:=XN 1979112
def zyS:=XN 12905
def zyR:=XN 31385728873
def zyQ:=XN 0x32e3dd87a73dda79e9
def zyP:=XN 0x39f3c3b31e2ebcf9e9
def zyO:=XN 240745065
def zyN:=XN 30815368417
def zui:=XN 1815276
def zyM:=XN 3980566001644
def zuh:=XN 1978605
def zug:=XN 1815789
def zyL:=XN 245248750
def zyK:=XN 31391840097
def zyJ:=XN 1913327
def zyI:=XN 1653103
def zyH:=XN 1964016
def zyG:=XN 31370934640
def zyF:=XN 240923378
def zyE:=XN 27076163570
def zyD:=XN 505394375766771
def zuf:=XN 3463330969587
def zyC:=XN 1800947
def zyB:=XN 243052790
def zyA:=XN 213628878
def zyz:=XN 0xe7a79f0d3b3645
def zyy:=XN 0x3265e9bb2edcbb386d93d37ce
def zyx:=XN 27354935494
def zyw:=XN 213743956
def zyv:=XN 228325346
def zyu:=XN 0x3be5d3dbcf2dfb72ed
def zyt:=XN 0x79c3cb961cbd3ce2
def zys:=XN 31083805922
def zyr:=XN 0x1937e8e9976f3e787663
def zyq:=XN 531265142618083
def zue:=XN 244905188
def zyp:=XN 0x65e987965dbd7765
def zyo:=XN 3944367207654
def zyn:=XN 31343769190
def zym:=XN 0x74cbcf765f5bf966
def zyl:=XN 0xf3d3965e1bf970
def zud:=XN 1914729
def zuc:=XN 245167340
def zyk:=XN 1847533
def zyj:=XN 4012518322543
def zub:=XN 27329802482
def zyi:=XN 0xc9979f2cbdb2f2
def zyh:=XN 1913587
def zyg:=XN 27321333363
def zyf:=XN 0xc9bf474cbb71e9e987a73
def zua:=XN 1882739
def zye:=XN 30815304435
def zt9:=XN 27340323572
def zt8:=XN 213662964
def zyd:=XN 1848570
def zyc:=XN 0x5fbf9fae2cb92fdf
def zyb:=XN 0x6edfa7a70cb8fc45cbcf0c2
def zya:=XN 0x3875dfca3eedfa7a70cb8fc45cbcf0c2
def zx9:=XN 0x6edfa7a70cb8fc45
def zx8:=XN 0x74d3e22f2dfd30f2cbbb2c7
def zx7:=XN 0x74e1d7972cbd3749c9cb0efc5e72cb
def zx6:=XN 0x3a69f1176e5e9cfcd3
def zx5:=XN 0x1cb7f2e5171e9e9976e8e9a7941
def zx4:=XN 0x396fe5ca2eedfa7a72cbcf9c1
def zx3:=XN 0x396fe5ca2e5e9d7169e5d3a41
def zx2:=XN 0x1cb7f2e517965cd9bac2
def zx1:=XN 0xe5bf9728b1a7c5
def zx0:=XN 0x1cb7f2e517a72dfc36c9
def zxZ:=XN 0x1cb7f2e517875d7bf7cc
def zxY:=XN 0x1cb7f2e517cf2dfb72cd
def zxX:=XN 0x72dfcb945cbb70ce
def zxW:=XN 505222075083215
def zxV:=XN 0x396fe5ca2e5c7bb2f2cb9b2d2
def zxU:=XN 0xe5bf9728b976e9e9bbad2
def zxT:=XN 0x376fd3d30f2cbd24e3dde79c1e1bfa53
def zxS:=XN 0x6edfa7a61e597a49e1bfa53
def zxR:=XN 0x1cb7f2e517c61e9bbcd3
def zxQ:=XN 0x1cb7f2e5176e5e9cfcd3
def zxP:=XN 0x72dfcb945cbc3cd4
def zxO:=XN 0x396fe5ca2e5ebb30d6
def zxN:=XN 456806780154071
def zxM:=XN 0x396fe5ca2f4dda77d0cfbb4f4c3bf646
def zxL:=XN 0x72dfcb945efbf666e597b4f
def zxK:=XN 0x72dfcb945ddbf4f3d3db4c4dfcb2da
def zxJ:=XN 0xcfbb4eee586bf3cbd3cc2
def zxI:=XN 0x33eed3bb961afbb7e9e9871e5e5c32c4
def zxH:=XN 0x19f769ddcb0d7cfbb4e4df8f745
def zxG:=XN 0x67dda7772c35f2f2ebd3ac6
def zxF:=XN 0x67dda7772c35fa72dfc36c9
def zxE:=XN 0x67dda7772c35f76fd3d30e3cbcb865899f769c9bb2d0
def zxD:=XN 0x19f769ddcb0d7cb8f975dfcf2d2
def zxC:=XN 0x33eed3bb961af976e9e9bbad2
def zxB:=XN 0x67dda7772c35fc61e9bbcd3
def zxA:=XN 0x33eed3bb961af9726fc7a7755
def zxz:=XN 0x19f769ddcb0d7e5979d5
def zxy:=XN 0x1cb7f2e5167c9cfbb4ebc7bf642
def zxx:=XN 0x72dfcb945e7cf2e3dfca864d9a7443
def zxw:=XN 0x1cb7f2e51776fd3d31e5ddbb7c3
def zxv:=XN 0x1cb7f2e5179f4e7a7c45cbb34c6
def zxu:=XN 0x72dfcb945c9bbaef8dd37cecbb34c6
def zxt:=XN 0xe5bf9728b932f4e1d7972cbd3749
def zxs:=XN 0x72dfcb945f3cb7f4c79796989079c9
def zxr:=XN 0x396fe5ca2f9e5bfa63cbcb4c483d37ce
def zxq:=XN 0x1cb7f2e51776fd3cf9e9dbcb2d0
def zxp:=XN 0x396fe5ca2f0ebaf7ef99cf9e5c7bf950
def zxo:=XN 0xe5bf9728bd3aefcbb74d4
def zxn:=XN 0xe5bf9728bbb7e9e987a6ecb93749
def zxm:=XN 0x72dfcb945e9d786e9397a65d9c36efc7ba4df
def zxl:=XN 0x396fe5ca2f8cb93749
def zxk:=XN 0xe5bf9728be72cb
def zxj:=XN 0x1cb7f2e51726eebbe374df3b2eceb937cd
def zxi:=XN 0x1cb7f2e517265e9bb2edcbb386d93d37ce
def zxh:=XN 0x1cb7f2e51776fd3d30fad3b30eed31b76fd1d3cd0
def zxg:=XN 0x396fe5ca2eedfa79f2eb8f2d2
def zxf:=XN 0x72dfcb945d9871ef9993775df8b755
def zxe:=XN 0xe5bf9728b9726fc7a7755
def zxd:=XN 0x1cb7f2e5172f0d343765d7bf942
def zxc:=XN 0x396fe5ca2e4cbd396fc50776fd3d31e5ddbb7c3
def zxb:=XN 0x396fe5ca2e4cbcfae6cb4b76fd3d31e5ddbb7c3
def zxa:=XN 0xe5bf9728bd32f3cb4b76fd3d31e5ddbb7c3
def zw9:=XN 0xe5bf9728b8b0d4
def zw8:=XN 0x396fe5ca2e5c9bf1e5899726fc7a7755
def zw7:=XN 0x396fe5ca2e5c9bf1ee8b9726fc7a7755
def zw6:=XN 0x72dfcb945cbd30ece7bb0f2a99726fc7a7755
def zw5:=XN 0x3875dfca3eedfa7a70cb8fc45
def zw4:=XN 0xe5bf9728bd3765dbbb7f2d3db745
def zw3:=XN 505222075082697
def zw2:=XN 232355951
def zw1:=XN 245005041
def zw0:=XN 245005413
def zwZ:=XN 0x74d19f4f2f3c37e3
def zwY:=XN 509789475535203
def zwX:=XN 448183808881900
def zwW:=XN 236663528
def zjv:Int:=Ym (10 ^ 4000)
def XI (t:BT):Nat->Obj->BT:= @BT.rec (λ_=>Nat->Obj->BT) (λ_ o=> .node o .nil .nil) (λv l r L R i o=>bif Wi i 0 then .node o l r else bif Wi (i % 2) 1 then .node v (L (i / 2) o) r else .node v l (R (i / 2-1) o)) t
def XR (P:Params) (l:List (Params->Obj)):Nat->BT->BT:= @Xi _ (λ_=>Nat->BT->BT) (λ_ t=>t) (λo _ ih a t=>ih (JZ a) (XI t a (o P))) l
def XQ (t:Nat) (l:List (PySem.Str×Value)):List (Params->DictEntry):= @Xi _ (λ_=>Nat->List (Params->DictEntry)) (λ_=> []) (λe _ ih t=>X2 e.1 t e.2::ih (JZ t)) l t
def XKr (P:Params) (l:List (Params->Obj)):Nat->Frag->Frag:= @Xi _ (λ_=>Nat->Frag->Frag) (λ_ r=>r) (λo _ ih a r=>(a,o P)::ih (JZ a) r) l
def XK (P:Params) (l:List (Nat×List (Params->Obj))):Frag:= @Xi (Nat×List (Params->Obj)) (λ_=>Frag) [] (λe _ ih=>XKr P e.2 e.1 ih) l
def XP (t:Params->BT) (l:List (Nat×List (Params->Obj))):Params->BT:=λP=> @Xi (Nat×List (Params->Obj)) (λ_=>BT->BT) (λt=>t) (λe _ ih t=>ih (XR P e.2 e.1 t)) l (t P)
def XD (c:Value) (d:Option Addr) (l:List (Params->DictEntry)) (n:Nat):Params->Obj:=λP=>⟨c,d,.dict (Q3 (l.map λe=>e P)) n,Q3 []⟩
def XM (o:Obj):Params->Obj:=λ_=>o
def Y0 (a:PySem.Str) (b:Nat) (c:PySem.Str) (d e:Int) (f:Nat) (g:Int) (h:Nat):Params->Obj:=XO XT1 X6 (.fields (X8 [(XS a b),(XS c (b+1)),(XS n1 (b+2)),(X0 d),(X0 e),(X0 0),(X0 0),(X0 3),(X1 f),(XB true),(X0 181),(X1 (f+1)),X7,(X1 (f+2)),(X1 (f+3)),(X1 (f+4)),(X0 g),(X0 d),(XS n1 h)]))
def Y1 (a b:Nat) (c d e:PySem.Str) (f g:Nat):Params->Obj:=XO XT3 X6 (XF (fnB a b) c d 3 X7 X7 X7 (XS e f) X6 (X1 g) X7)
def Y2 (a b:Nat) (c d:PySem.Str):Params->Obj:=XO X7 X6 (XF (fnB a b) c d 0 X7 X7 X7 X7 X6 X7 X7)
def Y3 (a:Nat) (b c:PySem.Str) (d e:Nat):Params->Obj:=XO XT3 X6 (XF (fnA a) b b 3 X7 X7 X7 (XS c d) X6 (X1 e) X7)
def Y4 (a:PySem.Str) (b c d:Nat):Params->Obj:=XM ⟨(Qh s17162191345867700912x4),QY,(.cls (ClassData.mk a [(Qh s2742458400755230247x6)] [(.ref b),(Qh s2742458400755230247x6)] c a true [] [] false QY false)),Q3 [QY,QY,(some (Zl a d)),(some (Zl a (d+8))),(some (Qp s11443829558043349243x14)),(some (Ys true))]⟩
def Y5 (a b:Nat) (c:PySem.Str) (d:Nat):Params->Obj:=XM ⟨(Qh s658472552662922059x5),QY,.plain,Q3 [(some (.ref a)),(some (.ref 3)),(some (.ref b)),QY,(some (Zl c d)),QY,(some (.ref 0))]⟩
def Y6 (a:Nat) (b:PySem.Str):Params->Obj:=XO X7 X6 (XF (fnA a) b b 0 X7 X7 X7 X7 X6 X7 X7)
def Y7 (a:PySem.Str) (b:Nat) (c:Int) (d:Nat) (e f:Int):Params->Obj:=XO XT1 X6 (.fields (X8 [(XS a b),(XS a (b+1)),(XS n1 (b+2)),(X0 c),(X0 0),(X0 0),(X0 0),(X0 0),(X1 d),(XB false),(X0 e),(X1 (d+1)),X7,X7,X7,X7,(X0 f),(X0 c),(XS n1 (b+4))]))
def Y8 (a:PySem.Str) (b:Nat) (c d:PySem.Str):Params->Obj:=XO XT0 X6 (.seq (X8 [(XS a b),(XS c (b+1)),(XS d (b+2))]) 0)
def Y9 (a:PySem.Str) (b:Nat) (c:PySem.Str):Params->Obj:=XO XT0 X6 (.seq (X8 [(XS a b),(XS c (b+1))]) 0)
def Y10 (a:PySem.Str) (b:Nat) (c:PySem.Str) (d e:Int) (f:Nat) (g:Int):Params->Obj:=XO XT1 X6 (.fields (X8 [(XS a b),(XS c (b+1)),(XS n1 (b+2)),(X0 d),(X0 e),(X0 0),(X0 0),(X0 3),(X1 f),(XB true),(X0 181),(X1 (f+1)),X7,X7,X7,(X1 (f+2)),(X0 g),(X0 d),(XS n1 (b+4))]))
def Y11 (a b:Nat):Params->Obj:=XO XT7 X6 (.fields (X8 [(XS n71 a),(X1 b),(Qp s6511155373996960695x17),(Qp s12411053484034534018x21)]))
def Y12 (a b:Nat):Params->Obj:=XO XT7 X6 (.fields (X8 [(XS n34 a),(X1 b),(Qp s10220274742760427390x26),X7]))
def Y13 (a:Nat):Params->Obj:=XO XT5 X6 (.fields (X8 [(Qp s4860613602091757760x24),(X1 a)]))
def Y14 (a:PySem.Str) (b:Nat):Params->Obj:=XO XT0 X6 (.seq (X8 [(XS a b)]) 0)
def Y15 (a:PySem.Str) (b:Nat) (c d e f:PySem.Str):Params->Obj:=XO XT0 X6 (.seq (X8 [(XS a b),(XS c (b+1)),(XS d (b+2)),(XS e (b+3)),(XS f (b+4))]) 0)
def Y16 (a:PySem.Str) (b:Nat) (c d e f g:PySem.Str):Params->Obj:=XO XT0 X6 (.seq (X8 [(XS a b),(XS c (b+1)),(XS d (b+2)),(XS e (b+3)),(XS f (b+4)),(XS g (b+5))]) 0)
def Y17 (a:Nat):Params->Obj:=XO XT8 X6 (.fields (X8 [(X1 a),(X1 a),(X1 a)]))
def Y18 (a:PySem.Str) (b:Nat) (c d e:PySem.Str):Params->Obj:=XO XT0 X6 (.seq (X8 [(XS a b),(XS c (b+1)),(XS d (b+2)),(XS e (b+3))]) 0)
def Y19 (a b:Nat):Params->Obj:=XO (X1 a) (some b) .plain
def o0:=XO XT0 X6 (.seq (X8 []) 0)
def o1:=XO X7 X6 (.fields (X8 []))
def o2:=Y7 n0 182 1 11 181 185
def o3:=Y5 13 3 n2 164
def q0:List (Params->DictEntry):=XQ 165 [(n3,XS n4 277),(n5,X7),(n6,X7),(n7,Qp s7097527257260152453x26),(n8,X7),(n9,X1 6),(n10,X1 4)]++XQ 173 [(n11,XS n1 172),(n12,X7)]++ [X2 n13 193 (X1 21),X2 n14 197 (XS n15 196),X2 n16 199 (X9 4000 198),X2 n17 202 (X9 zjv 201),X2 n18 204 (XS n19 203),X2 n20 222 (X1 31),X2 n21 229 (X1 41),X2 n22 236 (X1 48),X2 n23 243 (X1 55),X2 n24 251 (X1 62),X2 n25 261 (X1 69),X2 n26 268 (X1 76),X2 n27 276 (X1 83)]
def o4:=XD XT2 X6 q0 22
def q1:List Value:= [(X0 1),(X0 0),(X1 20),(X0 9),(X0 0),(X1 27),(X0 11),(X0 0),(X1 40),(X0 13),(X0 0),(X1 47),(X0 17),(X0 0),(X1 54),(X0 21),(X0 0),(X1 61),(X0 27),(X0 0),(X1 68),(X0 31),(X0 0),(X1 75),(X0 37),(X0 0),(X1 82)]
def o5:=XO X7 X6 (.fields (X8 q1))
def o6:=Y14 n28 190
def o7:=Y6 0 n13
def o8:=Y0 n13 187 n13 1 1 15 191 192
def o9:=Y3 0 n13 n2 164 20
def o10:=XO XT0 X6 (.seq (X8 [XT4]) 0)
def o11:=XO XT5 X6 (.fields (X8 [(Qp s10062305145149207511x16),XT6]))
def o12:=XD XT2 X6 [(X2 n29 212 (XS n30 194)),(X2 n31 214 (XS n20 213)),(X2 n32 216 (X9 9 215)),(X2 n33 217 (X1 29))] 4
def o13:=Y7 n20 207 9 25 181 210
def o14:=Y5 27 24 n30 194
def o15:=XD XT2 X6 [(X2 n29 212 (XS n30 194)),(X2 n32 216 (X9 9 215)),(X2 n33 217 (X1 29)),(X2 n34 219 (X1 32)),(X2 n5 220 X7)] 3
def o16:=XM ⟨(Qh s17162191345867700912x4),QY,(.cls (ClassData.mk n20 [(Qh s6070975301684473832x10)] [(.ref 31),(Qh s6070975301684473832x10),(Qh s5946037652744460706x9),(Qh s4278001404047624695x13),(Qh s2742458400755230247x6)] 30 n20 true [] [] false QY false)),Q3 [(some (.ref 22)),QY,(some (Zl n20 205)),(some (Zl n20 213)),(some (Qp s4209523147560561109x18)),(some (Ys true))]⟩
def o17:=Y12 218 31
def o18:=Y17 31
def o19:=Y13 31
def o20:=Y14 n35 226
def o21:=Y6 7 n21
def o22:=Y0 n21 223 n21 11 1 35 227 228
def o23:=Y3 7 n21 n30 194 40
def o24:=Y14 n35 233
def o25:=Y6 8 n22
def o26:=Y0 n22 230 n22 13 1 42 234 235
def o27:=Y3 8 n22 n30 194 47
def o28:=Y14 n35 240
def o29:=Y6 9 n23
def o30:=Y0 n23 237 n23 17 1 49 241 242
def o31:=Y3 9 n23 n30 194 54
def o32:=Y9 n36 247 n35
def o33:=Y6 10 n24
def o34:=Y0 n24 244 n24 21 1 56 249 250
def o35:=Y3 10 n24 n30 194 61
def o36:=Y18 n37 255 n38 n39 n40
def o37:=Y6 11 n25
def o38:=Y0 n25 252 n25 27 4 63 259 260
def o39:=Y3 11 n25 n30 194 68
def o40:=Y14 n37 265
def o41:=Y6 12 n26
def o42:=Y0 n26 262 n26 31 1 70 266 267
def o43:=Y3 12 n26 n30 194 75
def o44:=Y9 n41 272 n35
def o45:=Y6 13 n27
def o46:=Y0 n27 269 n27 37 1 77 274 275
def o47:=Y3 13 n27 n30 194 82
def q2:List (Params->DictEntry):=q0++ [X2 n42 382 (X1 156)]
def o48:=XD XT2 X6 q2 23
def q3:List Value:=q1++ [(X0 45),(X0 0),(X1 89)]
def o49:=XO X7 X6 (.fields (X8 q3))
def q4:List (Params->DictEntry):= [X2 n29 286 (XS n4 277),X2 n31 288 (XS n42 287),X2 n32 290 (X9 45 289)]++XQ 292 [(n43,XS n44 291),(n45,XB true),(n46,XB true)]++ [X2 n47 296 (X9 0 295),X2 n48 298 (X9 1 297),X2 n49 306 (X1 97),X2 n50 315 (X1 104),X2 n51 324 (X1 111),X2 n52 332 (X1 118),X2 n53 340 (X1 125),X2 n54 349 (X1 132),X2 n55 358 (X1 139),X2 n56 366 (X1 146)]++XQ 374 [(n57,X1 153),(n33,X1 154)]
def o50:=XD XT2 X6 q4 18
def q5:List Value:= [(X0 52),(X0 4),(X1 96),(X0 57),(X0 4),(X1 103),(X0 60),(X0 4),(X1 110),(X0 63),(X0 4),(X1 117),(X0 66),(X0 4),(X1 124),(X0 69),(X0 4),(X1 131),(X0 72),(X0 4),(X1 138),(X0 75),(X0 4),(X1 145),(X0 78),(X0 4),(X1 152)]
def o51:=XO X7 X6 (.fields (X8 q5))
def o52:=Y7 n42 281 45 87 181 284
def o53:=Y5 89 86 n4 277
def o54:=Y9 n58 302 n59
def o55:=Y2 15 5 n49 n60
def o56:=Y0 n49 299 n60 52 2 91 304 305
def o57:=Y1 15 5 n49 n60 n4 277 96
def o58:=Y8 n58 310 n59 n61
def o59:=Y2 15 6 n50 n62
def o60:=Y0 n50 307 n62 57 3 98 313 314
def o61:=Y1 15 6 n50 n62 n4 277 103
def o62:=Y8 n58 319 n59 n61
def o63:=Y2 15 7 n51 n63
def o64:=Y0 n51 316 n63 60 3 105 322 323
def o65:=Y1 15 7 n51 n63 n4 277 110
def o66:=Y9 n58 328 n59
def o67:=Y2 15 8 n52 n64
def o68:=Y0 n52 325 n64 63 2 112 330 331
def o69:=Y1 15 8 n52 n64 n4 277 117
def o70:=Y9 n58 336 n65
def o71:=Y2 15 9 n53 n66
def o72:=Y0 n53 333 n66 66 2 119 338 339
def o73:=Y1 15 9 n53 n66 n4 277 124
def o74:=Y8 n58 344 n59 n61
def o75:=Y2 15 10 n54 n67
def o76:=Y0 n54 341 n67 69 3 126 347 348
def o77:=Y1 15 10 n54 n67 n4 277 131
def o78:=Y8 n58 353 n59 n61
def o79:=Y2 15 11 n55 n68
def o80:=Y0 n55 350 n68 72 3 133 356 357
def o81:=Y1 15 11 n55 n68 n4 277 138
def o82:=Y9 n58 362 n59
def o83:=Y2 15 12 n56 n69
def o84:=Y0 n56 359 n69 75 2 140 364 365
def o85:=Y1 15 12 n56 n69 n4 277 145
def o86:=Y9 n58 370 n41
def o87:=Y2 15 13 n57 n70
def o88:=Y0 n57 367 n70 78 2 147 372 373
def o89:=Y1 15 13 n57 n70 n4 277 152
def q6:List (Params->DictEntry):= [X2 n29 286 (XS n4 277),X2 n32 290 (X9 45 289)]++XQ 292 [(n43,XS n44 291),(n45,XB true),(n46,XB true)]++ [X2 n47 296 (X9 0 295),X2 n48 298 (X9 1 297),X2 n49 306 (X1 97),X2 n50 315 (X1 104),X2 n51 324 (X1 111),X2 n52 332 (X1 118),X2 n53 340 (X1 125),X2 n54 349 (X1 132),X2 n55 358 (X1 139),X2 n56 366 (X1 146)]++XQ 374 [(n57,X1 153),(n33,X1 154)]++ [X2 n71 377 (X1 157)]++XQ 379 [(n34,X1 158),(n5,X7)]
def o90:=XD XT2 X6 q6 4
def o91:=Y4 n42 156 155 279
def o92:=Y11 376 156
def o93:=Y12 378 156
def o94:=Y17 156
def o95:=Y13 156
def q7:List (Params->DictEntry):=q2++ [X2 n72 485 (X1 233)]
def o96:=XD XT2 X6 q7 24
def q8:List Value:=q3++ [(X0 80),(X0 0),(X1 166)]
def o97:=XO X7 X6 (.fields (X8 q8))
def q9:List (Params->DictEntry):= [X2 n29 390 (XS n4 277),X2 n31 392 (XS n72 391),X2 n32 394 (X9 80 393)]++XQ 396 [(n43,XS n38 395),(n45,XB true),(n46,XB true),(n47,X7)]++ [X2 n48 401 (X9 0 400),X2 n49 409 (X1 174),X2 n50 418 (X1 181),X2 n51 427 (X1 188),X2 n52 435 (X1 195),X2 n53 443 (X1 202),X2 n54 452 (X1 209),X2 n55 461 (X1 216),X2 n56 469 (X1 223)]++XQ 477 [(n57,X1 230),(n33,X1 231)]
def o98:=XD XT2 X6 q9 18
def q10:List Value:= [(X0 87),(X0 4),(X1 173),(X0 92),(X0 4),(X1 180),(X0 99),(X0 4),(X1 187),(X0 104),(X0 4),(X1 194),(X0 107),(X0 4),(X1 201),(X0 110),(X0 4),(X1 208),(X0 115),(X0 4),(X1 215),(X0 118),(X0 4),(X1 222),(X0 121),(X0 4),(X1 229)]
def o99:=XO X7 X6 (.fields (X8 q10))
def zwQ:=Y7 n72 385 80 164 181 388
def zwP:=Y5 166 163 n4 277
def zt1:=Y9 n58 405 n59
def zt0:=Y2 16 5 n49 n73
def ztZ:=Y0 n49 402 n73 87 2 168 407 408
def ztY:=Y1 16 5 n49 n73 n4 277 173
def ztX:=Y8 n58 413 n59 n61
def ztW:=Y2 16 6 n50 n74
def ztV:=Y0 n50 410 n74 92 3 175 416 417
def ztU:=Y1 16 6 n50 n74 n4 277 180
def ztT:=Y8 n58 422 n59 n61
def ztS:=Y2 16 7 n51 n75
def ztR:=Y0 n51 419 n75 99 3 182 425 426
def ztQ:=Y1 16 7 n51 n75 n4 277 187
def ztP:=Y9 n58 431 n59
def ztO:=Y2 16 8 n52 n76
def ztN:=Y0 n52 428 n76 104 2 189 433 434
def ztM:=Y1 16 8 n52 n76 n4 277 194
def ztL:=Y9 n58 439 n65
def ztK:=Y2 16 9 n53 n77
def ztJ:=Y0 n53 436 n77 107 2 196 441 442
def ztI:=Y1 16 9 n53 n77 n4 277 201
def ztH:=Y8 n58 447 n59 n61
def ztG:=Y2 16 10 n54 n78
def ztF:=Y0 n54 444 n78 110 3 203 450 451
def ztE:=Y1 16 10 n54 n78 n4 277 208
def ztD:=Y8 n58 456 n59 n61
def ztC:=Y2 16 11 n55 n79
def ztB:=Y0 n55 453 n79 115 3 210 459 460
def ztA:=Y1 16 11 n55 n79 n4 277 215
def ztz:=Y9 n58 465 n59
def zty:=Y2 16 12 n56 n80
def ztx:=Y0 n56 462 n80 118 2 217 467 468
def ztw:=Y1 16 12 n56 n80 n4 277 222
def ztv:=Y9 n58 473 n41
def ztu:=Y2 16 13 n57 n81
def ztt:=Y0 n57 470 n81 121 2 224 475 476
def zts:=Y1 16 13 n57 n81 n4 277 229
def q11:List (Params->DictEntry):= [X2 n29 390 (XS n4 277),X2 n32 394 (X9 80 393)]++XQ 396 [(n43,XS n38 395),(n45,XB true),(n46,XB true),(n47,X7)]++ [X2 n48 401 (X9 0 400),X2 n49 409 (X1 174),X2 n50 418 (X1 181),X2 n51 427 (X1 188),X2 n52 435 (X1 195),X2 n53 443 (X1 202),X2 n54 452 (X1 209),X2 n55 461 (X1 216),X2 n56 469 (X1 223)]++XQ 477 [(n57,X1 230),(n33,X1 231)]++ [X2 n71 480 (X1 234)]++XQ 482 [(n34,X1 235),(n5,X7)]
def ztr:=XD XT2 X6 q11 4
def ztq:=Y4 n72 233 232 383
def ztp:=Y11 479 233
def zto:=Y12 481 233
def zwO:=Y17 233
def zwN:=Y13 233
def q12:List (Params->DictEntry):=q7++ [X2 n82 589 (X1 310),X2 n83 597 (X1 321)]
def zwM:=XD XT2 X6 q12 26
def q13:List Value:=q8++ [(X0 125),(X0 0),(X1 243),(X0 162),(X0 0),(X1 320)]
def zwL:=XO X7 X6 (.fields (X8 q13))
def q14:List (Params->DictEntry):= [X2 n29 493 (XS n4 277),X2 n31 495 (XS n82 494),X2 n32 497 (X9 125 496)]++XQ 499 [(n43,XS n84 498),(n45,XB false),(n46,XB true)]++ [X2 n47 503 (X9 0 502),X2 n48 505 (X9 1 504),X2 n49 513 (X1 251),X2 n50 522 (X1 258),X2 n51 531 (X1 265),X2 n52 539 (X1 272),X2 n53 547 (X1 279),X2 n54 556 (X1 286),X2 n55 565 (X1 293),X2 n56 573 (X1 300)]++XQ 581 [(n57,X1 307),(n33,X1 308)]
def zwK:=XD XT2 X6 q14 18
def q15:List Value:= [(X0 132),(X0 4),(X1 250),(X0 137),(X0 4),(X1 257),(X0 140),(X0 4),(X1 264),(X0 143),(X0 4),(X1 271),(X0 148),(X0 4),(X1 278),(X0 151),(X0 4),(X1 285),(X0 154),(X0 4),(X1 292),(X0 157),(X0 4),(X1 299),(X0 160),(X0 4),(X1 306)]
def zwJ:=XO X7 X6 (.fields (X8 q15))
def zwI:=Y7 n82 488 125 241 181 491
def zwH:=Y5 243 240 n4 277
def ztn:=Y9 n58 509 n59
def ztm:=Y2 17 5 n49 n85
def ztl:=Y0 n49 506 n85 132 2 245 511 512
def ztk:=Y1 17 5 n49 n85 n4 277 250
def ztj:=Y8 n58 517 n59 n61
def zti:=Y2 17 6 n50 n86
def zth:=Y0 n50 514 n86 137 3 252 520 521
def ztg:=Y1 17 6 n50 n86 n4 277 257
def ztf:=Y8 n58 526 n59 n61
def zte:=Y2 17 7 n51 n87
def ztd:=Y0 n51 523 n87 140 3 259 529 530
def ztc:=Y1 17 7 n51 n87 n4 277 264
def ztb:=Y9 n58 535 n59
def zta:=Y2 17 8 n52 n88
def zs9:=Y0 n52 532 n88 143 2 266 537 538
def zs8:=Y1 17 8 n52 n88 n4 277 271
def zs7:=Y9 n58 543 n65
def zs6:=Y2 17 9 n53 n89
def zs5:=Y0 n53 540 n89 148 2 273 545 546
def zs4:=Y1 17 9 n53 n89 n4 277 278
def zs3:=Y8 n58 551 n59 n61
def zs2:=Y2 17 10 n54 n90
def zs1:=Y0 n54 548 n90 151 3 280 554 555
def zs0:=Y1 17 10 n54 n90 n4 277 285
def zsZ:=Y8 n58 560 n59 n61
def zsY:=Y2 17 11 n55 n91
def zsX:=Y0 n55 557 n91 154 3 287 563 564
def zsW:=Y1 17 11 n55 n91 n4 277 292
def zsV:=Y9 n58 569 n59
def zsU:=Y2 17 12 n56 n92
def zsT:=Y0 n56 566 n92 157 2 294 571 572
def zsS:=Y1 17 12 n56 n92 n4 277 299
def zsR:=Y9 n58 577 n41
def zsQ:=Y2 17 13 n57 n93
def zsP:=Y0 n57 574 n93 160 2 301 579 580
def zsO:=Y1 17 13 n57 n93 n4 277 306
def q16:List (Params->DictEntry):= [X2 n29 493 (XS n4 277),X2 n32 497 (X9 125 496)]++XQ 499 [(n43,XS n84 498),(n45,XB false),(n46,XB true)]++ [X2 n47 503 (X9 0 502),X2 n48 505 (X9 1 504),X2 n49 513 (X1 251),X2 n50 522 (X1 258),X2 n51 531 (X1 265),X2 n52 539 (X1 272),X2 n53 547 (X1 279),X2 n54 556 (X1 286),X2 n55 565 (X1 293),X2 n56 573 (X1 300)]++XQ 581 [(n57,X1 307),(n33,X1 308)]++ [X2 n71 584 (X1 311)]++XQ 586 [(n34,X1 312),(n5,X7)]
def zsN:=XD XT2 X6 q16 4
def zsM:=Y4 n82 310 309 486
def zsL:=Y11 583 310
def zsK:=Y12 585 310
def zwG:=Y17 310
def zwF:=Y13 310
def zsJ:=Y9 n59 593 n61
def zsI:=Y6 18 n83
def zsH:=Y0 n83 590 n83 162 2 315 595 596
def zsG:=Y3 18 n83 n4 277 320
def q17:List (Params->DictEntry):=q12++ [X2 n94 706 (X1 396)]
def zwE:=XD XT2 X6 q17 27
def q18:List Value:=q13++ [(X0 166),(X0 0),(X1 327)]
def zwD:=XO X7 X6 (.fields (X8 q18))
def q19:List (Params->DictEntry):= [X2 n29 605 (XS n4 277),X2 n31 607 (XS n94 606),X2 n32 609 (X9 166 608)]++XQ 611 [(n43,XS n95 610),(n45,XB false),(n46,XB true)]++ [X2 n47 616 (X1 329),X2 n48 619 (X1 330),X2 n49 627 (X1 337),X2 n50 636 (X1 344),X2 n51 645 (X1 351),X2 n52 653 (X1 358),X2 n53 661 (X1 365),X2 n54 670 (X1 372),X2 n55 679 (X1 379),X2 n56 687 (X1 386)]++XQ 698 [(n57,X1 393),(n33,X1 394)]
def zwC:=XD XT2 X6 q19 18
def q20:List Value:= [(X0 173),(X0 4),(X1 336),(X0 180),(X0 4),(X1 343),(X0 183),(X0 4),(X1 350),(X0 186),(X0 4),(X1 357),(X0 191),(X0 4),(X1 364),(X0 194),(X0 4),(X1 371),(X0 197),(X0 4),(X1 378),(X0 200),(X0 4),(X1 385),(X0 203),(X0 4),(X1 392)]
def zwB:=XO X7 X6 (.fields (X8 q20))
def zwA:=Y7 n94 600 166 325 181 603
def zwz:=Y5 327 324 n4 277
def zsF:=XO XT0 X6 (.seq (X8 [(X9 0 614),(X9 1 615)]) 0)
def zsE:=XO XT0 X6 (.seq (X8 [(X9 1 617),(X9 1 618)]) 0)
def zsD:=Y9 n58 623 n59
def zsC:=Y2 19 5 n49 n96
def zsB:=Y0 n49 620 n96 173 2 331 625 626
def zsA:=Y1 19 5 n49 n96 n4 277 336
def zsz:=Y8 n58 631 n59 n61
def zsy:=Y2 19 6 n50 n97
def zsx:=Y0 n50 628 n97 180 3 338 634 635
def zsw:=Y1 19 6 n50 n97 n4 277 343
def zsv:=Y8 n58 640 n59 n61
def zsu:=Y2 19 7 n51 n98
def zst:=Y0 n51 637 n98 183 3 345 643 644
def zss:=Y1 19 7 n51 n98 n4 277 350
def zsr:=Y9 n58 649 n59
def zsq:=Y2 19 8 n52 n99
def zsp:=Y0 n52 646 n99 186 2 352 651 652
def zso:=Y1 19 8 n52 n99 n4 277 357
def zsn:=Y9 n58 657 n65
def zsm:=Y2 19 9 n53 zmt
def zsl:=Y0 n53 654 zmt 191 2 359 659 660
def zsk:=Y1 19 9 n53 zmt n4 277 364
def zsj:=Y8 n58 665 n59 n61
def zsi:=Y2 19 10 n54 zms
def zsh:=Y0 n54 662 zms 194 3 366 668 669
def zsg:=Y1 19 10 n54 zms n4 277 371
def zsf:=Y8 n58 674 n59 n61
def zse:=Y2 19 11 n55 zmr
def zsd:=Y0 n55 671 zmr 197 3 373 677 678
def zsc:=Y1 19 11 n55 zmr n4 277 378
def zsb:=Y9 n58 683 n59
def zsa:=Y2 19 12 n56 zmq
def zr9:=Y0 n56 680 zmq 200 2 380 685 686
def zr8:=Y1 19 12 n56 zmq n4 277 385
def zr7:=Y15 n58 691 n41 yV zzr yU
def zr6:=Y2 19 13 n57 zmp
def zr5:=Y0 n57 688 zmp 203 2 387 696 697
def zr4:=Y1 19 13 n57 zmp n4 277 392
def q21:List (Params->DictEntry):= [X2 n29 605 (XS n4 277),X2 n32 609 (X9 166 608)]++XQ 611 [(n43,XS n95 610),(n45,XB false),(n46,XB true)]++ [X2 n47 616 (X1 329),X2 n48 619 (X1 330),X2 n49 627 (X1 337),X2 n50 636 (X1 344),X2 n51 645 (X1 351),X2 n52 653 (X1 358),X2 n53 661 (X1 365),X2 n54 670 (X1 372),X2 n55 679 (X1 379),X2 n56 687 (X1 386)]++XQ 698 [(n57,X1 393),(n33,X1 394)]++ [X2 n71 701 (X1 397)]++XQ 703 [(n34,X1 398),(n5,X7)]
def zr3:=XD XT2 X6 q21 4
def zwy:=Y4 n94 396 395 598
def zr2:=Y11 700 396
def zr1:=Y12 702 396
def zwx:=Y17 396
def zww:=Y13 396
def q22:List (Params->DictEntry):=q17++ [X2 tE 759 (X1 438),X2 v9 768 (X1 447)]
def zwv:=XD XT2 X6 q22 29
def q23:List Value:=q18++ [(X0 208),(X0 0),(X1 406),(X0 228),(X0 0),(X1 446)]
def zwu:=XO X7 X6 (.fields (X8 q23))
def zr0:=XM ⟨(Qh s17162191345867700912x4),QY,(.cls (ClassData.mk n94 [(Qh s2742458400755230247x6)] [(.ref 396),(Qh s2742458400755230247x6)] 395 n94 true [] [(.ref 438)] false QY false)),Q3 [QY,QY,(some (Zl n94 598)),(some (Zl n94 606)),(some (Qp s11443829558043349243x14)),(some (Ys true))]⟩
def zrZ:=XO XT0 X6 (.seq (X8 [(X1 396)]) 0)
def q24:List (Params->DictEntry):= [X2 n29 714 (XS n4 277),X2 n31 716 (XS tE 715),X2 n32 718 (X9 208 717)]++XQ 720 [(n43,XS zuu 719),(n45,XB true)]++ [X2 n49 729 (X1 414),X2 n50 738 (X1 421),X2 n52 746 (X1 428)]++XQ 755 [(n55,X1 435),(n33,X1 436)]
def zwt:=XD XT2 X6 q24 10
def zws:=XO X7 X6 (.fields (X8 [(X0 212),(X0 4),(X1 413),(X0 218),(X0 4),(X1 420),(X0 223),(X0 4),(X1 427),(X0 226),(X0 4),(X1 434)]))
def zwr:=Y7 tE 709 208 404 181 712
def zwq:=Y5 406 403 n4 277
def zrY:=Y9 n58 725 n59
def zrX:=Y2 20 2 n49 zmo
def zrW:=Y0 n49 722 zmo 212 2 408 727 728
def zrV:=Y1 20 2 n49 zmo n4 277 413
def zrU:=Y8 n58 733 n59 n61
def zrT:=Y2 20 3 n50 zmn
def zrS:=Y0 n50 730 zmn 218 3 415 736 737
def zrR:=Y1 20 3 n50 zmn n4 277 420
def zrQ:=Y9 n58 742 n59
def zrP:=Y2 20 4 n52 zmm
def zrO:=Y0 n52 739 zmm 223 2 422 744 745
def zrN:=Y1 20 4 n52 zmm n4 277 427
def zrM:=Y8 n58 750 n59 n61
def zrL:=Y2 20 5 n55 zml
def zrK:=Y0 n55 747 zml 226 3 429 753 754
def zrJ:=Y1 20 5 n55 zml n4 277 434
def q25:List (Params->DictEntry):= [X2 n29 714 (XS n4 277),X2 n32 718 (X9 208 717)]++XQ 720 [(n43,XS zuu 719),(n45,XB true)]++ [X2 n49 729 (X1 414),X2 n50 738 (X1 421),X2 n52 746 (X1 428)]++XQ 755 [(n55,X1 435),(n33,X1 436),(n5,X7)]
def zrI:=XD XT2 X6 q25 2
def zrH:=XM ⟨(Qh s17162191345867700912x4),QY,(.cls (ClassData.mk tE [(.ref 396)] [(.ref 438),(.ref 396),(Qh s2742458400755230247x6)] 437 tE true [] [] false QY false)),Q3 [(some (.ref 401)),QY,(some (Zl tE 707)),(some (Zl tE 715)),(some (Qp s11443829558043349243x14)),(some (Ys true))]⟩
def zwp:=Y17 438
def zwo:=Y13 438
def zrG:=Y8 zut 763 zzq zzp
def zrF:=Y6 21 v9
def zrE:=Y0 v9 760 v9 228 2 441 766 767
def zrD:=Y3 21 v9 n4 277 446
def q26:List (Params->DictEntry):=XQ 165 [(n3,XS cY 788),(n5,X7),(n6,X7),(n7,Qp s7097527257260152453x26),(n8,X7),(n9,X1 6),(n10,X1 4)]++XQ 173 [(n11,XS n1 172),(n12,X7)]++ [X2 n13 193 (X1 21),X2 n14 197 (XS n15 196),X2 n16 199 (X9 4000 198),X2 n17 202 (X9 zjv 201),X2 n18 204 (XS n19 203),X2 n20 222 (X1 31),X2 n21 229 (X1 41),X2 n22 236 (X1 48),X2 n23 243 (X1 55),X2 n24 251 (X1 62),X2 n25 261 (X1 69),X2 n26 268 (X1 76),X2 n27 276 (X1 83),X2 n42 382 (X1 156),X2 n72 485 (X1 233),X2 n82 589 (X1 310),X2 n83 597 (X1 321),X2 n94 706 (X1 396),X2 tE 759 (X1 438)]++XQ 768 [(v9,X1 447),(ziQ,X1 458)]++ [X2 lV 777 (X1 465),X2 yT 787 (X1 472),X2 ziP 791 (X9 20000 790)]++XQ 793 [(ziO,X9 200000 792),(ziN,X1 473)]
def zwn:=XD XT2 X6 q26 35
def q27:List Value:=q23++ [(X0 232),(X0 0),(X1 464),(X0 237),(X0 0),(X1 471)]
def zwm:=XO X7 X6 (.fields (X8 q27))
def qW:=XO XT2 X6 (.dict (X8 []) 0)
def zrC:=Y19 156 448
def zrB:=Y19 233 450
def zrA:=Y19 310 452
def zrz:=Y19 396 454
def zry:=Y19 438 456
def zrx:=XO XT9 X6 (.seq (X8 [(X1 449),(X1 451),(X1 453),(X1 455),(X1 457)]) 0)
def zrw:=Y9 n43 773 n48
def zrv:=Y6 23 lV
def zru:=Y0 lV 770 lV 232 1 459 775 776
def zrt:=Y3 23 lV n4 277 464
def zrs:=Y18 n48 781 n65 zaP n59
def zrr:=Y6 24 yT
def zrq:=Y0 yT 778 yT 237 2 466 785 786
def zrp:=Y3 24 yT n4 277 471
def zro:=XO zvl X6 .plain
def q28:List (Params->DictEntry):=q26++ [X2 zaO 843 (X1 504)]
def zwl:=XD XT2 X6 q28 36
def q29:List Value:=q27++ [(X0 246),(X0 0),(X1 479)]
def zwk:=XO X7 X6 (.fields (X8 q29))
def zwj:=XD XT2 X6 [(X2 n29 802 (XS cY 788)),(X2 n31 804 (XS zaO 803)),(X2 n32 806 (X9 246 805)),(X2 tD 817 (X1 487)),(X2 zdj 824 (X1 494)),(X2 zfN 831 (X1 501)),(X2 n33 836 (X1 502))] 7
def zwi:=XO X7 X6 (.fields (X8 [(X0 248),(X0 4),(X1 486),(X0 254),(X0 4),(X1 493),(X0 257),(X0 4),(X1 500)]))
def zwh:=Y7 zaO 797 246 477 181 800
def zwg:=Y5 479 476 cY 788
def zrn:=Y15 n58 810 yV yU lU zdi
def zrm:=Y2 29 0 tD zmk
def zrl:=Y0 tD 807 zmk 248 5 481 815 816
def zrk:=Y1 29 0 tD zmk cY 788 486
def zrj:=Y14 n58 821
def zri:=Y2 29 1 zdj zmj
def zrh:=Y0 zdj 818 zmj 254 1 488 822 823
def zrg:=Y1 29 1 zdj zmj cY 788 493
def zrf:=Y14 n58 828
def zre:=Y2 29 2 zfN zmi
def zrd:=Y0 zfN 825 zmi 257 1 495 829 830
def zrc:=Y1 29 2 zfN zmi cY 788 500
def zrb:=Y18 yU 832 zdi yV lU
def q30:List (Params->DictEntry):= [X2 n29 802 (XS cY 788),X2 n32 806 (X9 246 805),X2 tD 817 (X1 487),X2 zdj 824 (X1 494),X2 zfN 831 (X1 501),X2 n33 836 (X1 502),X2 n71 838 (X1 505)]++XQ 840 [(n34,X1 506),(n5,X7)]
def zra:=XD XT2 X6 q30 4
def zq0:=Y4 zaO 504 503 795
def zqZ:=Y11 837 504
def zqY:=Y12 839 504
def zwf:=Y17 504
def zwe:=Y13 504
def q31:List (Params->DictEntry):=q28++ [X2 zaN 1003 (X1 630)]
def zwd:=XD XT2 X6 q31 37
def q32:List Value:=q29++ [(X0 259),(X0 0),(X1 514)]
def zwc:=XO X7 X6 (.fields (X8 q32))
def q33:List (Params->DictEntry):= [X2 n29 851 (XS cY 788),X2 n31 853 (XS zaN 852),X2 n32 855 (X9 259 854),X2 tD 863 (X1 522),X2 zdh 871 (X1 529),X2 rA 878 (X1 536),X2 zdg 884 (X1 541),X2 zdf 892 (X1 548),X2 nW 904 (X1 555),X2 zfM 916 (X1 562),X2 zaM 925 (X1 570),X2 zaL 934 (X1 578),X2 zaK 941 (X1 585),X2 zfL 948 (X1 592),X2 zde 957 (X1 599),X2 zfK 964 (X1 606),X2 zdd 973 (X1 613),X2 zdc 982 (X1 620),X2 zfJ 989 (X1 627),X2 n33 996 (X1 628)]
def zwb:=XD XT2 X6 q33 20
def q34:List Value:= [(X0 261),(X0 4),(X1 521),(X0 269),(X0 4),(X1 528),(X0 273),(X0 4),(X1 535),(X0 279),(X0 4),(X1 540),(X0 283),(X0 4),(X1 547),(X0 286),(X0 4),(X1 554),(X0 299),(X0 4),(X1 561),(X0 302),(X0 4),(X1 569),(X0 307),(X0 4),(X1 577),(X0 311),(X0 4),(X1 584),(X0 314),(X0 4),(X1 591),(X0 317),(X0 4),(X1 598),(X0 324),(X0 4),(X1 605),(X0 327),(X0 4),(X1 612),(X0 334),(X0 4),(X1 619),(X0 345),(X0 4),(X1 626)]
def zwa:=XO X7 X6 (.fields (X8 q34))
def zv9:=Y7 zaN 846 259 512 181 849
def zv8:=Y5 514 511 cY 788
def zqX:=Y9 n58 859 lV
def zqW:=Y2 30 0 tD zmh
def zqV:=Y0 tD 856 zmh 261 2 516 861 862
def zqU:=Y1 30 0 tD zmh cY 788 521
def zqT:=Y9 n58 867 n84
def zqS:=Y2 30 1 zdh zmg
def zqR:=Y0 zdh 864 zmg 269 2 523 869 870
def zqQ:=Y1 30 1 zdh zmg cY 788 528
def zqP:=Y14 n58 875
def zqO:=Y2 30 2 rA zmf
def zqN:=Y0 rA 872 zmf 273 1 530 876 877
def zqM:=Y1 30 2 rA zmf cY 788 535
def zqL:=Y2 30 3 zdg zme
def zqK:=Y10 zdg 879 zme 279 2 537 882
def zqJ:=Y1 30 3 zdg zme cY 788 540
def zqI:=Y9 n58 888 zzo
def zqH:=Y2 30 4 zdf zmd
def zqG:=Y0 zdf 885 zmd 283 2 542 890 891
def zqF:=Y1 30 4 zdf zmd cY 788 547
def zqE:=Y16 n58 896 zfI yV yU lU zdi
def zqD:=Y2 30 5 nW zmc
def zqC:=Y0 nW 893 zmc 286 6 549 902 903
def zqB:=Y1 30 5 nW zmc cY 788 554
def zqA:=Y16 n58 908 zfI yV yU lU zdi
def zqz:=Y2 30 6 zfM zmb
def zqy:=Y0 zfM 905 zmb 299 6 556 914 915
def zqx:=Y1 30 6 zfM zmb cY 788 561
def ziE:=XO XT0 X6 (.seq (X8 [(X1 473)]) 0)
def zqw:=Y8 n58 920 ziM lU
def zqv:=Y2 30 7 zaM ziL
def zqu:=Y0 zaM 917 ziL 302 3 564 923 924
def zlN:=XO XT3 X6 (XF (fnB 30 7) zaM ziL 3 (X1 563) X7 X7 (XS cY 788) X6 (X1 569) X7)
def zqt:=Y8 n58 929 rA lU
def zqs:=Y2 30 8 zaL ziK
def zqr:=Y0 zaL 926 ziK 307 3 572 932 933
def zlM:=XO XT3 X6 (XF (fnB 30 8) zaL ziK 3 (X1 571) X7 X7 (XS cY 788) X6 (X1 577) X7)
def zqq:=Y14 n58 938
def zqp:=Y2 30 9 zaK zma
def zqo:=Y0 zaK 935 zma 311 1 579 939 940
def zqn:=Y1 30 9 zaK zma cY 788 584
def zqm:=Y14 n58 945
def zql:=Y2 30 10 zfL zl9
def zqk:=Y0 zfL 942 zl9 314 1 586 946 947
def zqj:=Y1 30 10 zfL zl9 cY 788 591
def zqi:=Y8 n58 952 n65 nW
def zqh:=Y2 30 11 zde zl8
def zqg:=Y0 zde 949 zl8 317 1 593 955 956
def zqf:=Y1 30 11 zde zl8 cY 788 598
def zqe:=Y14 n58 961
def zqd:=Y2 30 12 zfK zl7
def zqc:=Y0 zfK 958 zl7 324 1 600 962 963
def zqb:=Y1 30 12 zfK zl7 cY 788 605
def zqa:=Y8 n58 968 n65 nW
def zp9:=Y2 30 13 zdd zl6
def zp8:=Y0 zdd 965 zl6 327 1 607 971 972
def zp7:=Y1 30 13 zdd zl6 cY 788 612
def zp6:=Y8 n58 977 zaP n28
def zp5:=Y2 30 14 zdc zl5
def zp4:=Y0 zdc 974 zl5 334 1 614 980 981
def zp3:=Y1 30 14 zdc zl5 cY 788 619
def zp2:=Y14 n58 986
def zp1:=Y2 30 15 zfJ zl4
def zp0:=Y0 zfJ 983 zl4 345 1 621 987 988
def zpZ:=Y1 30 15 zfJ zl4 cY 788 626
def zpY:=Y16 zus 990 zur zuq zl3 lV ziM
def q35:List (Params->DictEntry):= [X2 n29 851 (XS cY 788),X2 n32 855 (X9 259 854),X2 tD 863 (X1 522),X2 zdh 871 (X1 529),X2 rA 878 (X1 536),X2 zdg 884 (X1 541),X2 zdf 892 (X1 548),X2 nW 904 (X1 555),X2 zfM 916 (X1 562),X2 zaM 925 (X1 570),X2 zaL 934 (X1 578),X2 zaK 941 (X1 585),X2 zfL 948 (X1 592),X2 zde 957 (X1 599),X2 zfK 964 (X1 606),X2 zdd 973 (X1 613),X2 zdc 982 (X1 620),X2 zfJ 989 (X1 627),X2 n33 996 (X1 628),X2 n71 998 (X1 631)]++XQ 1000 [(n34,X1 632),(n5,X7)]
def zpX:=XD XT2 X6 q35 4
def zpW:=Y4 zaN 630 629 844
def zpV:=Y11 997 630
def zpU:=Y12 999 630
def zv7:=Y17 630
def zv6:=Y13 630
def q36:List (Params->DictEntry):=XQ 165 [(n3,XS zaJ 1133),(n5,X7),(n6,X7),(n7,Qp s7097527257260152453x26),(n8,X7),(n9,X1 6),(n10,X1 4)]++XQ 173 [(n11,XS n1 172),(n12,X7)]++ [X2 n13 193 (X1 21),X2 n14 197 (XS n15 196),X2 n16 199 (X9 4000 198),X2 n17 202 (X9 zjv 201),X2 n18 204 (XS n19 203),X2 n20 222 (X1 31),X2 n21 229 (X1 41),X2 n22 236 (X1 48),X2 n23 243 (X1 55),X2 n24 251 (X1 62),X2 n25 261 (X1 69),X2 n26 268 (X1 76),X2 n27 276 (X1 83),X2 n42 382 (X1 156),X2 n72 485 (X1 233),X2 n82 589 (X1 310),X2 n83 597 (X1 321),X2 n94 706 (X1 396),X2 tE 759 (X1 438)]++XQ 768 [(v9,X1 447),(ziQ,X1 458)]++ [X2 lV 777 (X1 465),X2 yT 787 (X1 472),X2 ziP 791 (X9 20000 790)]++XQ 793 [(ziO,X9 200000 792),(ziN,X1 473)]++ [X2 zaO 843 (X1 504),X2 zaN 1003 (X1 630),X2 zaI 1014 (X1 641),X2 zaH 1020 (X1 646),X2 zaG 1026 (X1 651),X2 zaF 1032 (X1 656),X2 zaE 1045 (X1 663),X2 zaD 1054 (X1 670),X2 zaC 1064 (X1 677),X2 zaB 1075 (X1 684),X2 zaA 1087 (X1 691),X2 zl2 1091 (X9 2000 1090),X2 zaz 1097 (X1 696),X2 zay 1107 (X1 703),X2 n52 1113 (X1 708),X2 zax 1125 (X1 715),X2 zaw 1132 (X1 722),X2 zl1 1136 (X9 200 1135),X2 lU 1154 (X1 729),X2 zav 1161 (X1 736),X2 zau 1169 (X1 743),X2 zat 1178 (X1 750)]
def zv5:=XD XT2 X6 q36 57
def q37:List Value:=q32++ [(X0 347),(X0 0),(X1 640),(X0 351),(X0 0),(X1 645),(X0 372),(X0 0),(X1 650),(X0 374),(X0 0),(X1 655),(X0 380),(X0 0),(X1 662),(X0 393),(X0 0),(X1 669),(X0 396),(X0 0),(X1 676),(X0 403),(X0 0),(X1 683),(X0 415),(X0 0),(X1 690),(X0 429),(X0 0),(X1 695),(X0 438),(X0 0),(X1 702),(X0 441),(X0 0),(X1 707),(X0 456),(X0 0),(X1 714),(X0 463),(X0 0),(X1 721),(X0 469),(X0 0),(X1 728),(X0 493),(X0 0),(X1 735),(X0 497),(X0 0),(X1 742),(X0 501),(X0 0),(X1 749)]
def zv4:=XO X7 X6 (.fields (X8 q37))
def zpT:=Y15 yS 1007 zup zzn zfI nW
def zpS:=Y6 31 zaI
def zpR:=Y0 zaI 1004 zaI 347 3 635 1012 1013
def zpQ:=Y3 31 zaI cY 788 640
def zpP:=Y6 32 zaH
def zpO:=Y10 zaH 1015 zaH 351 1 642 1018
def zpN:=Y3 32 zaH cY 788 645
def zpM:=Y6 33 zaG
def zpL:=Y10 zaG 1021 zaG 372 1 647 1024
def zpK:=Y3 33 zaG cY 788 650
def zpJ:=Y6 34 zaF
def zpI:=Y10 zaF 1027 zaF 374 1 652 1030
def zpH:=Y3 34 zaF cY 788 655
def zpG:=XO XT0 X6 (.seq (X8 [(XS yS 1036),(XS zl3 1037),(XS zzm 1038),(XS zzl 1039),(XS zzk 1040),(XS rA 1041),(XS zup 1042)]) 0)
def zpF:=Y6 35 zaE
def zpE:=Y0 zaE 1033 zaE 380 3 657 1043 1044
def zpD:=Y3 35 zaE cY 788 662
def zpC:=Y14 n48 1051
def zpB:=Y6 37 zaD
def zpA:=Y0 zaD 1048 zaD 393 1 664 1052 1053
def zpz:=Y3 37 zaD ziJ 1046 669
def zpy:=Y18 n48 1058 zaP n65 nW
def zpx:=Y6 38 zaC
def zpw:=Y0 zaC 1055 zaC 396 1 671 1062 1063
def zpv:=Y3 38 zaC ziJ 1046 676
def zpu:=Y15 n48 1068 zzj zaP n65 nW
def zpt:=Y6 39 zaB
def zps:=Y0 zaB 1065 zaB 403 2 678 1073 1074
def zpr:=Y3 39 zaB ziJ 1046 683
def zpq:=Y16 n48 1079 zaP ziM zfI nW n28
def zpp:=Y6 40 zaA
def zpo:=Y0 zaA 1076 zaA 415 1 685 1085 1086
def zpn:=Y3 40 zaA ziJ 1046 690
def zpm:=Y6 43 zaz
def zpl:=Y10 zaz 1092 zaz 429 2 692 1095
def zpk:=Y3 43 zaz zfH 1088 695
def zpj:=Y18 lV 1101 n65 zuo lU
def zpi:=Y6 44 zay
def zph:=Y0 zay 1098 zay 438 4 697 1105 1106
def zpg:=Y3 44 zay zfH 1088 702
def zpf:=Y6 45 n52
def zpe:=Y10 n52 1108 n52 441 2 704 1111
def zpd:=Y3 45 n52 zfH 1088 707
def zpc:=Y16 lV 1117 n65 zl0 zaP zun zum
def zpb:=Y6 46 zax
def zpa:=Y0 zax 1114 zax 456 3 709 1123 1124
def zo9:=Y3 46 zax zfH 1088 714
def zo8:=Y14 yS 1129
def zo7:=Y6 47 zaw
def zo6:=Y0 zaw 1126 zaw 463 1 716 1130 1131
def zo5:=Y3 47 zaw zfH 1088 721
def zo4:=XO XT0 X6 (.seq (X8 [(XS yS 1140),(XS yV 1141),(XS yU 1142),(XS lV 1143),(XS n54 1144),(XS zl0 1145),(XS zun 1146),(XS zum 1147),(XS n65 1148),(XS rA 1149),(XS nW 1150),(XS zuo 1151)]) 0)
def zo3:=Y6 50 lU
def zo2:=Y0 lU 1137 lU 469 3 723 1152 1153
def zo1:=Y3 50 lU zaJ 1133 728
def zo0:=Y14 n36 1158
def zoZ:=Y6 51 zav
def zoY:=Y0 zav 1155 zav 493 1 730 1159 1160
def zoX:=Y3 51 zav zaJ 1133 735
def zoW:=Y9 yS 1165 n65
def zoV:=Y6 52 zau
def zoU:=Y0 zau 1162 zau 497 1 737 1167 1168
def zoT:=Y3 52 zau zaJ 1133 742
def zoS:=Y8 n36 1173 zul zzi
def zoR:=Y6 53 zat
def zoQ:=Y0 zat 1170 zat 501 3 744 1176 1177
def zoP:=Y3 53 zat zaJ 1133 749
def q38:List (Params->DictEntry):=XQ 165 [(n3,XS zfG 1201),(n5,X7),(n6,X7),(n7,Qp s7097527257260152453x26),(n8,X7),(n9,X1 6),(n10,X1 4)]++XQ 173 [(n11,XS n1 172),(n12,X7)]++ [X2 n13 193 (X1 21),X2 n14 197 (XS n15 196),X2 n16 199 (X9 4000 198),X2 n17 202 (X9 zjv 201),X2 n18 204 (XS n19 203),X2 n20 222 (X1 31),X2 n21 229 (X1 41),X2 n22 236 (X1 48),X2 n23 243 (X1 55),X2 n24 251 (X1 62),X2 n25 261 (X1 69),X2 n26 268 (X1 76),X2 n27 276 (X1 83),X2 n42 382 (X1 156),X2 n72 485 (X1 233),X2 n82 589 (X1 310),X2 n83 597 (X1 321),X2 n94 706 (X1 396),X2 tE 759 (X1 438)]++XQ 768 [(v9,X1 447),(ziQ,X1 458)]++ [X2 lV 777 (X1 465),X2 yT 787 (X1 472),X2 ziP 791 (X9 20000 790)]++XQ 793 [(ziO,X9 200000 792),(ziN,X1 473)]++ [X2 zaO 843 (X1 504),X2 zaN 1003 (X1 630),X2 zaI 1014 (X1 641),X2 zaH 1020 (X1 646),X2 zaG 1026 (X1 651),X2 zaF 1032 (X1 656),X2 zaE 1045 (X1 663),X2 zaD 1054 (X1 670),X2 zaC 1064 (X1 677),X2 zaB 1075 (X1 684),X2 zaA 1087 (X1 691),X2 zl2 1091 (X9 2000 1090),X2 zaz 1097 (X1 696),X2 zay 1107 (X1 703),X2 n52 1113 (X1 708),X2 zax 1125 (X1 715),X2 zaw 1132 (X1 722),X2 zl1 1136 (X9 200 1135),X2 lU 1154 (X1 729),X2 zav 1161 (X1 736),X2 zau 1169 (X1 743),X2 zat 1178 (X1 750),X2 zdb 1189 (X1 757),X2 zda 1200 (X1 764),X2 zc9 1210 (X1 771),X2 zc8 1217 (X1 778),X2 zc7 1237 (X1 785),X2 zc6 1243 (X1 790)]
def zoO:=XD XT2 X6 q38 63
def q39:List Value:=q37++ [(X0 503),(X0 0),(X1 756),(X0 507),(X0 0),(X1 763),(X0 515),(X0 0),(X1 770),(X0 519),(X0 0),(X1 777),(X0 521),(X0 0),(X1 784),(X0 540),(X0 0),(X1 789)]
def zoN:=XO X7 X6 (.fields (X8 q39))
def zoM:=Y15 yS 1182 zl0 zzh rA n37
def zoL:=Y6 54 zdb
def zoK:=Y0 zdb 1179 zdb 503 5 751 1187 1188
def zoJ:=Y3 54 zdb zaJ 1133 756
def zoI:=Y15 yS 1193 n65 lV zaP rA
def zoH:=Y6 55 zda
def zoG:=Y0 zda 1190 zda 507 2 758 1198 1199
def zoF:=Y3 55 zda zaJ 1133 763
def zoE:=Y9 zuk 1206 n28
def zoD:=Y6 57 zc9
def zoC:=Y0 zc9 1203 zc9 515 2 765 1208 1209
def zoB:=Y3 57 zc9 zfG 1201 770
def zoA:=Y14 n43 1214
def zoz:=Y6 58 zc8
def zoy:=Y0 zc8 1211 zc8 519 1 772 1215 1216
def zox:=Y3 58 zc8 zfG 1201 777
def zow:=XO XT0 X6 (.seq (X8 [(XS zuk 1221),(XS zul 1222),(XS n48 1223),(XS zzg 1224),(XS zzf 1225),(XS yS 1226),(XS zaK 1227),(XS n65 1228),(XS n28 1229),(XS zut 1230),(XS zfI 1231),(XS zdi 1232),(XS yV 1233),(XS yU 1234)]) 0)
def zov:=Y6 59 zc7
def zou:=Y0 zc7 1218 zc7 521 5 779 1235 1236
def zot:=Y3 59 zc7 zfG 1201 784
def zos:=Y6 60 zc6
def zor:=Y10 zc6 1238 zc6 540 1 786 1241
def zoq:=Y3 60 zc6 zfG 1201 789
def q40 : List (Params -> DictEntry) := XQ 1 [(n3,XS zuj 160),(n5,Qp "builtins.__doc__:str#opaque"),(n6,Qp "builtins.__package__:str#opaque"),(n7,Qp "builtins.__loader__:shared#opaque"),(n8,Qp s11665532747177232413x24),(zze,Qp s15183661809925369436x15),(zzd,Qp s13915890719876406383x10),(zzc,Qp s13459172003223722735x3),(zzb,Qp s10557405761357834076x3),(zza,Qp s4233737765568776869x3),(zy9,Qp s2508922471967985374x5),(zy8,Qp s15574269061696679450x3),(zy7,Qp s6016482663378992977x10),(zy6,Qp s5596568736180474577x8),(zy5,Qp s2839554839881490554x3),(zy4,Qp s725004073602090463x7),(zy3,Qp s9436932552931045734x7),(zy2,Qp s2754603736356183583x3),(zy1,Qp s15185746759980889043x6),(zy0,Qp s8192189862530294059x4),(zyZ,Qp s7038307821325472102x4),(zyY,Qp s5662562618415449548x6),(zyX,Qp s15281542589158584767x7),(zyW,Qp s17651547275483570877x7),(zyV,Qp s4036449017235975746x7),(zyU,Qp s8879979712987360175x4),(zyT,Qp s1801250619170735830x3),(zyS,Qp s17659931425627118568x2),(zyR,Qp s6063217899685152688x5),(zyQ,Qp s8008927332132565319x10),(zyP,Qp s3544116645089599534x10),(zyO,Qp s13761710972054866084x4),(zyN,Qp s12896375587409280029x5),(zui,Qp s13014049009108672802x3),(zyM,Qp s13935586738268321596x6),(zuh,Qp s8200498257699607233x3),(zug,Qp s14114244577727609259x3),(zyL,Qp s1499430450269397089x4),(zyK,Qp s8755793994789770505x5),(zyJ,Qp s15725212667919936108x3),(zyI,Qp s15791221867095933363x3),(zyH,Qp s81309575031448614x3),(zyG,Qp s8069831620301644142x5),(zyF,Qp s10061844253413749634x4),(zyE,Qp s9496514870978017513x5),(zyD,Qp s8899691144933366716x7),(zuf,Qp s15201008993051130160x6),(zyC,Qp s741896355592496720x3),(zyB,Qp s17925004256654032244x4),(zyA,X7),(zyz,Value.ellipsis),(zyy,Value.notImplemented),(zyx,XB false),(zyw,XB true),(zyv,zBa),(zyu,zA9),(zyt,zA8),(zys,zA7),(zyr,zA6),(zyq,zA5),(zue,XT2),(zyp,zA4),(zyo,zA3),(zyn,zA2),(zym,zA1),(zyl,zA0),(zud,zAZ),(zuc,XT9),(zyk,zAY),(zyj,zvl),(zub,zAX),(zyi,zAW),(zyh,zAV),(zyg,zAU),(zyf,zAT),(zua,zAS),(zye,XT8),(zt9,XT0),(zt8,XT6),(zyd,zAR),(zyc,XB true),(zyb,zAQ),(zya,zAP),(zx9,zAO),(zx8,zAN),(zx7,zAM),(zx6,zAL),(zx5,zAK),(zx4,zAJ),(zx3,zAI),(zx2,zAH),(zx1,zAG),(zx0,zAF),(zxZ,zAE),(zxY,zAD),(zxX,zAC),(zxW,znr),(zxV,zAB),(zxU,zAA),(zxT,zAz),(zxS,zAy),(zxR,zAx),(zxQ,zAw),(zxP,zAv),(zxO,XT4),(zxN,zAu),(zxM,zAt),(zxL,zAs),(zxK,zAr),(zxJ,zAq),(zxI,zAp),(zxH,zAo),(zxG,zAn),(zxF,zAm),(zxE,zAl),(zxD,zAk),(zxC,zAj),(zxB,zAi),(zxA,zAh),(zxz,zAg),(zxy,zAf),(zxx,zAe),(zxw,zAd),(zxv,zAc),(zxu,zAb),(zxt,zAa),(zxs,zz9),(zxr,zz8),(zxq,zz7),(zxp,zz6),(zxo,zz5),(zxn,zz4),(zxm,zz3),(zxl,zz2),(zxk,zz1),(zxj,zz0),(zxi,zzZ),(zxh,zzY),(zxg,zzX),(zxf,zzW),(zxe,zzV),(zxd,zzU),(zxc,zzT),(zxb,zzS),(zxa,zzR),(zw9,zzQ),(zw8,zzP),(zw7,zzO),(zw6,zzN),(zw5,zzM),(zw4,znr),(zw3,znr),(zw2,Qp s16789243406116112673x4),(zw1,Qp s14400166428656793546x20),(zw0,Qp s5857708277339239366x20),(zwZ,Qp s11855354603118919900x25),(zwY,Qp s9233592162442887856x23),(zwX,Qp s5312253846380744199x23),(zwW,Qp s7804999707787243718x20)]
def zv3:=XD XT2 X6 q40 159
def zv2:=XD XT2 X6 [(X2 zuj 162 (X1 4)),(X2 n2 163 (X1 5))] 2
def zv1:=XO X7 X6 (.dict (X8 []) 0)
def zv0:=XO zvk (some 0) .plain
def zvZ:=XO zvk (some 3) .plain
def zvY:=Y7 n0 176 1 7 175 179
def zvX:=Y5 9 3 n2 164
def zki (P:Params):Heap:=⟨⟨[boot_o_0 P,boot_o_1 P,boot_o_2 P,boot_o_3 P,boot_o_4 P,boot_o_5 P,boot_o_6 P,boot_o_7 P,boot_o_8 P,boot_o_9 P,boot_o_10 P,o0 P,o1 P,o2 P,o3 P]⟩,{}⟩
def tr0:=XP X5 [(0,[boot_o_0,boot_o_1,boot_o_2,boot_o_3,boot_o_4,boot_o_5,boot_o_6,boot_o_7,boot_o_8,boot_o_9,boot_o_10,o0,o1,o2,o3])]
def tr1:=XP tr0 [(3,[o4]),(12,[o5]),(15,[o0,o1,o6,o0,o7,o8,o9,o10,o11,o12,o0,o1,o13,o14,o0,o15,o16,o17,o18,o19,o0,o1,o20,o0,o21,o22,o23,o0,o1,o24,o0,o25,o26,o27,o0,o1,o28,o0,o29,o30,o31,o0,o1,o32,o0,o33,o34,o35,o0,o1,o36,o0,o37,o38,o39,o0,o1,o40,o0,o41,o42,o43,o0,o1,o44,o0,o45,o46,o47])]
def tr2:=XP tr1 [(3,[o48]),(12,[o49]),(84,[o0,o11,o50,o0,o51,o52,o53,o0,o1,o54,o0,o55,o56,o57,o0,o1,o58,o0,o59,o60,o61,o0,o1,o62,o0,o63,o64,o65,o0,o1,o66,o0,o67,o68,o69,o0,o1,o70,o0,o71,o72,o73,o0,o1,o74,o0,o75,o76,o77,o0,o1,o78,o0,o79,o80,o81,o0,o1,o82,o0,o83,o84,o85,o0,o1,o86,o0,o87,o88,o89,o0,o90,o91,o92,o93,o94,o95])]
def tr3:=XP tr2 [(3,[o96]),(12,[o97]),(161,[o0,o11,o98,o0,o99,zwQ,zwP,o0,o1,zt1,o0,zt0,ztZ,ztY,o0,o1,ztX,o0,ztW,ztV,ztU,o0,o1,ztT,o0,ztS,ztR,ztQ,o0,o1,ztP,o0,ztO,ztN,ztM,o0,o1,ztL,o0,ztK,ztJ,ztI,o0,o1,ztH,o0,ztG,ztF,ztE,o0,o1,ztD,o0,ztC,ztB,ztA,o0,o1,ztz,o0,zty,ztx,ztw,o0,o1,ztv,o0,ztu,ztt,zts,o0,ztr,ztq,ztp,zto,zwO,zwN])]
def tr4:=XP tr3 [(3,[zwM]),(12,[zwL]),(238,[o0,o11,zwK,o0,zwJ,zwI,zwH,o0,o1,ztn,o0,ztm,ztl,ztk,o0,o1,ztj,o0,zti,zth,ztg,o0,o1,ztf,o0,zte,ztd,ztc,o0,o1,ztb,o0,zta,zs9,zs8,o0,o1,zs7,o0,zs6,zs5,zs4,o0,o1,zs3,o0,zs2,zs1,zs0,o0,o1,zsZ,o0,zsY,zsX,zsW,o0,o1,zsV,o0,zsU,zsT,zsS,o0,o1,zsR,o0,zsQ,zsP,zsO,o0,zsN,zsM,zsL,zsK,zwG,zwF,o0,o1,zsJ,o0,zsI,zsH,zsG])]
def tr5:=XP tr4 [(3,[zwE]),(12,[zwD]),(322,[o0,o11,zwC,o0,zwB,zwA,zwz,zsF,zsE,o0,o1,zsD,o0,zsC,zsB,zsA,o0,o1,zsz,o0,zsy,zsx,zsw,o0,o1,zsv,o0,zsu,zst,zss,o0,o1,zsr,o0,zsq,zsp,zso,o0,o1,zsn,o0,zsm,zsl,zsk,o0,o1,zsj,o0,zsi,zsh,zsg,o0,o1,zsf,o0,zse,zsd,zsc,o0,o1,zsb,o0,zsa,zr9,zr8,o0,o1,zr7,o0,zr6,zr5,zr4,o0,zr3,zwy,zr2,zr1,zwx,zww])]
def tr6:=XP tr5 [(3,[zwv]),(12,[zwu]),(396,[zr0]),(401,[zrZ,o11,zwt,o0,zws,zwr,zwq,o0,o1,zrY,o0,zrX,zrW,zrV,o0,o1,zrU,o0,zrT,zrS,zrR,o0,o1,zrQ,o0,zrP,zrO,zrN,o0,o1,zrM,o0,zrL,zrK,zrJ,o0,zrI,zrH,zwp,zwo,o0,o1,zrG,o0,zrF,zrE,zrD])]
def tr7:=XP tr6 [(3,[zwn]),(12,[zwm]),(448,[qW,zrC,qW,zrB,qW,zrA,qW,zrz,qW,zry,zrx,o0,o1,zrw,o0,zrv,zru,zrt,o0,o1,zrs,o0,zrr,zrq,zrp,zro])]
def tr8:=XP tr7 [(3,[zwl]),(12,[zwk]),(474,[o0,o11,zwj,o0,zwi,zwh,zwg,o0,o1,zrn,o0,zrm,zrl,zrk,o0,o1,zrj,o0,zri,zrh,zrg,o0,o1,zrf,o0,zre,zrd,zrc,zrb,zra,zq0,zqZ,zqY,zwf,zwe])]
def tr9:=XP tr8 [(3,[zwd]),(12,[zwc]),(509,[o0,o11,zwb,o0,zwa,zv9,zv8,o0,o1,zqX,o0,zqW,zqV,zqU,o0,o1,zqT,o0,zqS,zqR,zqQ,o0,o1,zqP,o0,zqO,zqN,zqM,o0,o1,zqL,zqK,zqJ,o0,o1,zqI,o0,zqH,zqG,zqF,o0,o1,zqE,o0,zqD,zqC,zqB,o0,o1,zqA,o0,zqz,zqy,zqx,ziE,o0,o1,zqw,o0,zqv,zqu,zlN,ziE,o0,o1,zqt,o0,zqs,zqr,zlM,o0,o1,zqq,o0,zqp,zqo,zqn,o0,o1,zqm,o0,zql,zqk,zqj,o0,o1,zqi,o0,zqh,zqg,zqf,o0,o1,zqe,o0,zqd,zqc,zqb,o0,o1,zqa,o0,zp9,zp8,zp7,o0,o1,zp6,o0,zp5,zp4,zp3,o0,o1,zp2,o0,zp1,zp0,zpZ,zpY,zpX,zpW,zpV,zpU,zv7,zv6])]
def zk8:=XP tr9 [(3,[zv5]),(12,[zv4]),(635,[o0,o1,zpT,o0,zpS,zpR,zpQ,o0,o1,zpP,zpO,zpN,o0,o1,zpM,zpL,zpK,o0,o1,zpJ,zpI,zpH,o0,o1,zpG,o0,zpF,zpE,zpD,o0,o1,zpC,o0,zpB,zpA,zpz,o0,o1,zpy,o0,zpx,zpw,zpv,o0,o1,zpu,o0,zpt,zps,zpr,o0,o1,zpq,o0,zpp,zpo,zpn,o0,o1,zpm,zpl,zpk,o0,o1,zpj,o0,zpi,zph,zpg,o0,o1,zpf,zpe,zpd,o0,o1,zpc,o0,zpb,zpa,zo9,o0,o1,zo8,o0,zo7,zo6,zo5,o0,o1,zo4,o0,zo3,zo2,zo1,o0,o1,zo0,o0,zoZ,zoY,zoX,o0,o1,zoW,o0,zoV,zoU,zoT,o0,o1,zoS,o0,zoR,zoQ,zoP])]
def zk7:=XP zk8 [(3,[zoO]),(12,[zoN]),(751,[o0,o1,zoM,o0,zoL,zoK,zoJ,o0,o1,zoI,o0,zoH,zoG,zoF,o0,o1,zoE,o0,zoD,zoC,zoB,o0,o1,zoA,o0,zoz,zoy,zox,o0,o1,zow,o0,zov,zou,zot,o0,o1,zos,zor,zoq])]
def oV (P:Params):Heap:=absHeap (zk7 P) 791 {}
def znY:List Stmt:=gO 15 (eR 0 TP.main.body)
def znX:List Stmt:=gO 1 (eR 15 TP.main.body)
def znW:List Stmt:=gO 1 (eR 16 TP.main.body)
def znV:List Stmt:=gO 2 (eR 17 TP.main.body)
def znU:List Stmt:=gO 1 (eR 19 TP.main.body)
def znT:List Stmt:=gO 2 (eR 20 TP.main.body)
def znS:List Stmt:=gO 7 (eR 22 TP.main.body)
def znR:List Stmt:=gO 1 (eR 29 TP.main.body)
def znQ:List Stmt:=gO 1 (eR 30 TP.main.body)
def zj2:List Stmt:=gO 23 (eR 31 TP.main.body)
def zj1:List Stmt:=gO 7 (eR 54 TP.main.body)
def zez:List Stmt:=znY++(znX++(znW++(znV++(znU++(znT++(znS++(znR++(znQ++(zj2++(zj1++([])))))))))))
def oC:Env:= {scope:=TP.main.scope,locals:=mainNs,globals:=mainNs,cells:= [],code:=(.ref 13),frame:=some 14}
def fp:Pos:=⟨0,0,0,0⟩
abbrev cE:Code:=Code.body zez oC
abbrev lA:Option Value:=(some (.ref 6))
theorem zoc (w:World):(λos=>TWtopGo TWtable TP w 11 lA 12 ⟨boot_heap w.params,Q3 [],boot_drawn,boot_toks,os⟩ (topStub TP))=λos=>some (⟨zki w.params,Q3 [],{},187,os⟩,Thread.mk (TWdenote TWtable cE) cE ⟨0,0,0,0⟩ [topFrame fp]):=by kernel_rfl
theorem zve (w:World):(λos=>TWsegRun TWtable TP w 11 lA 1 1 ⟨zki w.params,Q3 [],{},187,os⟩ (blockOf zez oC cE ⟨0,0,0,0⟩ [topFrame fp]))=λos=>some (Flow.next,Wa (Jn (tr0 w.params) 15 {} (Q3 []) {} 187 os),cE,⟨0,0,0,0⟩):=by kernel_rfl
theorem zom (w:World):(λos=>TWsegRunT TWtable TP w 11 lA 1 485 (Jn (tr0 w.params) 15 {} (Q3 []) {} 187 os) (piecesOf znY oC cE ⟨0,0,0,0⟩ [topFrame fp]))=λos=>some (Flow.next,(Jn (tr1 w.params) 84 {} (Q3 []) {} 279 os),cE,⟨44,0,44,8⟩):=by kernel_rfl
theorem zol (w:World):(λos=>TWsegRunT TWtable TP w 11 lA 1 530 (Jn (tr1 w.params) 84 {} (Q3 []) {} 279 os) (piecesOf znX oC cE ⟨44,0,44,8⟩ [topFrame fp]))=λos=>some (Flow.next,(Jn (tr2 w.params) 161 {} (Q3 []) {} 383 os),cE,⟨45,0,79,41⟩):=by kernel_rfl
theorem zok (w:World):(λos=>TWsegRunT TWtable TP w 11 lA 1 529 (Jn (tr2 w.params) 161 {} (Q3 []) {} 383 os) (piecesOf znW oC cE ⟨45,0,79,41⟩ [topFrame fp]))=λos=>some (Flow.next,(Jn (tr3 w.params) 238 {} (Q3 []) {} 486 os),cE,⟨80,0,124,30⟩):=by kernel_rfl
theorem zoj (w:World):(λos=>TWsegRunT TWtable TP w 11 lA 1 560 (Jn (tr3 w.params) 238 {} (Q3 []) {} 486 os) (piecesOf znV oC cE ⟨80,0,124,30⟩ [topFrame fp]))=λos=>some (Flow.next,(Jn (tr4 w.params) 322 {} (Q3 []) {} 598 os),cE,⟨162,0,165,12⟩):=by kernel_rfl
theorem zoi (w:World):(λos=>TWsegRunT TWtable TP w 11 lA 1 541 (Jn (tr4 w.params) 322 {} (Q3 []) {} 598 os) (piecesOf znU oC cE ⟨162,0,165,12⟩ [topFrame fp]))=λos=>some (Flow.next,(Jn (tr5 w.params) 401 {} (Q3 []) {} 707 os),cE,⟨166,0,207,70⟩):=by kernel_rfl
theorem zoh (w:World):(λos=>TWsegRunT TWtable TP w 11 lA 1 393 (Jn (tr5 w.params) 401 {} (Q3 []) {} 707 os) (piecesOf znT oC cE ⟨166,0,207,70⟩ [topFrame fp]))=λos=>some (Flow.next,(Jn (tr6 w.params) 448 {} (Q3 []) {} 769 os),cE,⟨228,0,230,29⟩):=by kernel_rfl
theorem zog (w:World):(λos=>TWsegRunT TWtable TP w 11 lA 1 363 (Jn (tr6 w.params) 448 {} (Q3 []) {} 769 os) (piecesOf znS oC cE ⟨228,0,230,29⟩ [topFrame fp]))=λos=>some (Flow.next,(Jn (tr7 w.params) 474 {} (Q3 []) {} 795 os),cE,⟨245,0,245,3⟩):=by kernel_rfl
theorem zof (w:World):(λos=>TWsegRunT TWtable TP w 11 lA 1 291 (Jn (tr7 w.params) 474 {} (Q3 []) {} 795 os) (piecesOf znR oC cE ⟨245,0,245,3⟩ [topFrame fp]))=λos=>some (Flow.next,(Jn (tr8 w.params) 509 {} (Q3 []) {} 844 os),cE,⟨246,0,258,17⟩):=by kernel_rfl
theorem zoe (w:World):(λos=>TWsegRunT TWtable TP w 11 lA 1 722 (Jn (tr8 w.params) 509 {} (Q3 []) {} 844 os) (piecesOf znQ oC cE ⟨246,0,258,17⟩ [topFrame fp]))=λos=>some (Flow.next,(Jn (tr9 w.params) 635 {} (Q3 []) {} 1004 os),cE,⟨259,0,346,17⟩):=by kernel_rfl
theorem zlG (w:World):(λos=>TWsegRunT TWtable TP w 11 lA 1 597 (Jn (tr9 w.params) 635 {} (Q3 []) {} 1004 os) (piecesOf zj2 oC cE ⟨259,0,346,17⟩ [topFrame fp]))=λos=>some (Flow.next,(Jn (zk8 w.params) 751 {} (Q3 []) {} 1179 os),cE,⟨501,0,502,52⟩):=by kernel_rfl
theorem zlF (w:World):(λos=>TWsegRunT TWtable TP w 11 lA 1 203 (Jn (zk8 w.params) 751 {} (Q3 []) {} 1179 os) (piecesOf zj1 oC cE ⟨501,0,502,52⟩ [topFrame fp]))=λos=>some (Flow.next,(Jn (zk7 w.params) 791 {} (Q3 []) {} 1244 os),cE,⟨540,0,559,110⟩):=by kernel_rfl
theorem zu3 (w:World):(λos=>TWtopRun TWtable TP w 11 lA 2 (Wa (Jn (zk7 w.params) 791 {} (Q3 []) {} 1244 os)) (Thread.mk (doneF Flow.next) cE ⟨540,0,559,110⟩ [topFrame fp]))=λos=>some (⟨oV w.params,Q3 [],{},1244,os⟩):=by kernel_rfl
abbrev zli:Nat:=(12+(1+(485+(530+(529+(560+(541+(393+(363+(291+(722+(597+(203+2)))))))))))))
theorem zvT (w:World) (os:OsState):topRun treeTable TP w 11 lA zli ⟨boot_heap w.params,Q3 [],boot_drawn,boot_toks,os⟩ (topStub TP)=some ⟨oV w.params,Q3 [],{},1244,os⟩:=
 go_top (by have h:=congrFun (zoc w) os;rw [<-zbn,<-bE,<-zZ] at h;exact h) (piece_block (by have h:=congrFun (zve w) os;rw [<-zY,<-bE] at h;exact h) (piece_app (segRun_of (by have h:=congrFun (zom w) os;rw [<-bF,<-bE] at h;exact h)) (piece_app (segRun_of (by have h:=congrFun (zol w) os;rw [<-bF,<-bE] at h;exact h)) (piece_app (segRun_of (by have h:=congrFun (zok w) os;rw [<-bF,<-bE] at h;exact h)) (piece_app (segRun_of (by have h:=congrFun (zoj w) os;rw [<-bF,<-bE] at h;exact h)) (piece_app (segRun_of (by have h:=congrFun (zoi w) os;rw [<-bF,<-bE] at h;exact h)) (piece_app (segRun_of (by have h:=congrFun (zoh w) os;rw [<-bF,<-bE] at h;exact h)) (piece_app (segRun_of (by have h:=congrFun (zog w) os;rw [<-bF,<-bE] at h;exact h)) (piece_app (segRun_of (by have h:=congrFun (zof w) os;rw [<-bF,<-bE] at h;exact h)) (piece_app (segRun_of (by have h:=congrFun (zoe w) os;rw [<-bF,<-bE] at h;exact h)) (piece_app (segRun_of (by have h:=congrFun (zlG w) os;rw [<-bF,<-bE] at h;exact h)) (piece_app (segRun_of (by have h:=congrFun (zlF w) os;rw [<-bF,<-bE] at h;exact h)) (by have h:=congrFun (zu3 w) os;rw [<-zX,<-bE] at h;exact h)))))))))))))
def KK (P:Params):Frag:=XK P [(0,[zv3,zv2,zv1,zoO,zv0,zvZ,qW,o0,o1,zvY,zvX,o0,zoN,o2,o3,o0,o1,o6,o0,o7,o8,o9,o10]),(29,[o0,o15,o16,o17]),(35,[o0,o1,o20,o0,o21,o22,o23,o0,o1,o24,o0,o25,o26,o27,o0,o1,o28,o0,o29,o30,o31,o0,o1,o32,o0,o33,o34,o35,o0,o1,o36,o0,o37,o38,o39,o0,o1,o40,o0,o41,o42,o43,o0,o1,o44,o0,o45,o46,o47]),(91,[o0,o1,o54,o0,o55,o56,o57,o0,o1,o58,o0,o59,o60,o61,o0,o1,o62,o0,o63,o64,o65,o0,o1,o66,o0,o67,o68,o69,o0,o1,o70,o0,o71,o72,o73,o0,o1,o74,o0,o75,o76,o77,o0,o1,o78,o0,o79,o80,o81,o0,o1,o82,o0,o83,o84,o85,o0,o1,o86,o0,o87,o88,o89,o0,o90,o91,o92,o93]),(168,[o0,o1,zt1,o0,zt0,ztZ,ztY,o0,o1,ztX,o0,ztW,ztV,ztU,o0,o1,ztT,o0,ztS,ztR,ztQ,o0,o1,ztP,o0,ztO,ztN,ztM,o0,o1,ztL,o0,ztK,ztJ,ztI,o0,o1,ztH,o0,ztG,ztF,ztE,o0,o1,ztD,o0,ztC,ztB,ztA,o0,o1,ztz,o0,zty,ztx,ztw,o0,o1,ztv,o0,ztu,ztt,zts,o0,ztr,ztq,ztp,zto]),(245,[o0,o1,ztn,o0,ztm,ztl,ztk,o0,o1,ztj,o0,zti,zth,ztg,o0,o1,ztf,o0,zte,ztd,ztc,o0,o1,ztb,o0,zta,zs9,zs8,o0,o1,zs7,o0,zs6,zs5,zs4,o0,o1,zs3,o0,zs2,zs1,zs0,o0,o1,zsZ,o0,zsY,zsX,zsW,o0,o1,zsV,o0,zsU,zsT,zsS,o0,o1,zsR,o0,zsQ,zsP,zsO,o0,zsN,zsM,zsL,zsK]),(315,[o0,o1,zsJ,o0,zsI,zsH,zsG]),(329,[zsF,zsE,o0,o1,zsD,o0,zsC,zsB,zsA,o0,o1,zsz,o0,zsy,zsx,zsw,o0,o1,zsv,o0,zsu,zst,zss,o0,o1,zsr,o0,zsq,zsp,zso,o0,o1,zsn,o0,zsm,zsl,zsk,o0,o1,zsj,o0,zsi,zsh,zsg,o0,o1,zsf,o0,zse,zsd,zsc,o0,o1,zsb,o0,zsa,zr9,zr8,o0,o1,zr7,o0,zr6,zr5,zr4,o0,zr3,zr0,zr2,zr1]),(401,[zrZ]),(408,[o0,o1,zrY,o0,zrX,zrW,zrV,o0,o1,zrU,o0,zrT,zrS,zrR,o0,o1,zrQ,o0,zrP,zrO,zrN,o0,o1,zrM,o0,zrL,zrK,zrJ,o0,zrI,zrH]),(441,[o0,o1,zrG,o0,zrF,zrE,zrD,qW,zrC,qW,zrB,qW,zrA,qW,zrz,qW,zry,zrx,o0,o1,zrw,o0,zrv,zru,zrt,o0,o1,zrs,o0,zrr,zrq,zrp,zro]),(481,[o0,o1,zrn,o0,zrm,zrl,zrk,o0,o1,zrj,o0,zri,zrh,zrg,o0,o1,zrf,o0,zre,zrd,zrc,zrb,zra,zq0,zqZ,zqY]),(516,[o0,o1,zqX,o0,zqW,zqV,zqU,o0,o1,zqT,o0,zqS,zqR,zqQ,o0,o1,zqP,o0,zqO,zqN,zqM,o0,o1,zqL,zqK,zqJ,o0,o1,zqI,o0,zqH,zqG,zqF,o0,o1,zqE,o0,zqD,zqC,zqB,o0,o1,zqA,o0,zqz,zqy,zqx,ziE,o0,o1,zqw,o0,zqv,zqu,zlN,ziE,o0,o1,zqt,o0,zqs,zqr,zlM,o0,o1,zqq,o0,zqp,zqo,zqn,o0,o1,zqm,o0,zql,zqk,zqj,o0,o1,zqi,o0,zqh,zqg,zqf,o0,o1,zqe,o0,zqd,zqc,zqb,o0,o1,zqa,o0,zp9,zp8,zp7,o0,o1,zp6,o0,zp5,zp4,zp3,o0,o1,zp2,o0,zp1,zp0,zpZ,zpY,zpX,zpW,zpV,zpU]),(635,[o0,o1,zpT,o0,zpS,zpR,zpQ,o0,o1,zpP,zpO,zpN,o0,o1,zpM,zpL,zpK,o0,o1,zpJ,zpI,zpH,o0,o1,zpG,o0,zpF,zpE,zpD,o0,o1,zpC,o0,zpB,zpA,zpz,o0,o1,zpy,o0,zpx,zpw,zpv,o0,o1,zpu,o0,zpt,zps,zpr,o0,o1,zpq,o0,zpp,zpo,zpn,o0,o1,zpm,zpl,zpk,o0,o1,zpj,o0,zpi,zph,zpg,o0,o1,zpf,zpe,zpd,o0,o1,zpc,o0,zpb,zpa,zo9,o0,o1,zo8,o0,zo7,zo6,zo5,o0,o1,zo4,o0,zo3,zo2,zo1,o0,o1,zo0,o0,zoZ,zoY,zoX,o0,o1,zoW,o0,zoV,zoU,zoT,o0,o1,zoS,o0,zoR,zoQ,zoP,o0,o1,zoM,o0,zoL,zoK,zoJ,o0,o1,zoI,o0,zoH,zoG,zoF,o0,o1,zoE,o0,zoD,zoC,zoB,o0,o1,zoA,o0,zoz,zoy,zox,o0,o1,zow,o0,zov,zou,zot,o0,o1,zos,zor,zoq])]
def as0:List Addr:=QO 0 23++(QO 29 4++(QO 35 49++(QO 91 68++(QO 168 68++(QO 245 68++(QO 315 7++(QO 329 70++([401]++(QO 408 31++(QO 441 33++(QO 481 26++(QO 516 117++(QO 635 156)))))))))))))
abbrev mM:Nat:=791
abbrev uI:Nat:=1244
abbrev m00:Nat:=11
abbrev TSt:=PySem.W.Fast.tw13471830651028734593
theorem eSt: @staticsOk=TSt:=PySem.W.Fast.te13471830651028734593
abbrev TNb:=PySem.W.Fast.tw4683006035507612052
theorem eNb: @namesBound=TNb:=PySem.W.Fast.te4683006035507612052
abbrev TLk:=PySem.W.Fast.tw16898566250750103049
theorem eLk: @laidKept=TLk:=PySem.W.Fast.te16898566250750103049
abbrev TXl:=PySem.W.Fast.tw4757257242682413121
theorem eXl: @xlAt=TXl:=PySem.W.Fast.te4757257242682413121
abbrev TRo:=PySem.W.Fast.tw6483871617321286689
theorem eRo: @recOk=TRo:=PySem.W.Fast.te6483871617321286689
abbrev TOg:=PySem.W.Fast.tw3486900944545009338
theorem eOg: @openGood=TOg:=PySem.W.Fast.te3486900944545009338
abbrev TIm:=PySem.W.Fast.tw5923862056798008813
theorem eIm: @importedModules=TIm:=PySem.W.Fast.te5923862056798008813
abbrev TOs:=PySem.W.Fast.tw4187177175401517315
theorem eOs: @openSeen=TOs:=PySem.W.Fast.te4187177175401517315
def qOf (p:Program):Program:= {p with main:= {p.main with body:=eR 60 p.main.body} }
abbrev qv:Program:=qOf TP
def loose0:List PySem.Str:=(gO 60 TP.main.body).flatMap λs=>match s with
 | .FunctionDef n .. => [n] | .ClassDef n .. => [n] | .Assign [.Name n ..] .. =>if n==⟨#[95,95,110,97,109,101,95,95]⟩ then [] else [n] |_=> []
abbrev NN:Nat:=7000
theorem zf8: ∀P,as0=(KK P).map (·.1):=λP=>by kernel_rfl
theorem facts1 {w:World}{s t:Shared} (y:obsZ as0 s=valZ KK mM uI w) (k: ∀b o,s.heap.get? b=some o->t.heap.get? b=some o):Frag.In (KK w.params) t.heap/\s.heap.objs.size=nat_lit 791/\s.toks=nat_lit 1244:=
 ⟨InK.keeps w s.heap t.heap (z_facts zf8 y).2.1 k,(z_facts zf8 y).2.2.1,(z_facts zf8 y).2.2.2⟩
theorem zm0: ∀w:World,(fencedOpening treeTable TP w NN).map (λs=>(s.heap,s.gens,s.drawn,s.toks))=some (boot_heap w.params,Q3 [],boot_drawn,boot_toks):=
 boot_open (p:=TP) (N:=NN) (by kernel_rfl) (by decide) (λs=>by rfl)
theorem zmZ : ∀ w : World,((boot_heap w.params).isNs mainGlobals && (Q3 [] : Array GenState).size == 0,(boot_heap w.params).objs.size,(boot_heap w.params).nsMap mainGlobals "__annotations__") = (true,11,lA) := λw => by kernel_rfl
def XtT (s:Shared):Bool:=TXl qv [] s && TRo [] s
theorem zuG (w:World):(λos:OsState=>(TSt (TIm TP.main.body) (boot_heap w.params) (oV w.params) && TNb TP (oV w.params) && gensDone ⟨oV w.params,Q3 [],{},uI,os⟩ && TLk (boot_heap w.params) (oV w.params)))=λ_=>true:=by kernel_rfl
theorem zuE (w:World):(λos:OsState=>obsZ as0 ⟨oV w.params,Q3 [],{},uI,os⟩)=λ_=>valZ KK mM uI w:=by kernel_rfl
theorem zuF (w:World):(λos:OsState=>TOs qv loose0 (TIm TP.main.body) XtT true ⟨oV w.params,Q3 [],{},uI,os⟩)=λ_=>TOg qv loose0:=by kernel_rfl
theorem eXt:XtT=λs=>xlAt qv [] s && recOk [] s:=by unfold XtT;rw [eXl,eRo]
abbrev pw:Program:=PySem.Challenge.pw_ui0508_13
theorem left0:LeftO pw (qOf pw) loose0 (λs=>xlAt (qOf pw) [] s && recOk [] s) (obsZ as0) (valZ KK mM uI) NN:=by
 rw [show pw=TP from zvD];refine LeftO.of_pieces (g0:=true) zm0 zmZ zvT (by decide) (λw=>?_);have h1:=zuG w;have h2:=zuF w;have h3:=zuE w;rw [<-eSt,<-eIm,<-eNb,<-eLk] at h1;rw [<-eOs,<-eIm,<-eOg,eXt] at h2
 funext os
 exact Xj (congrFun h1 os) (Xj (congrFun h2 os) (congrFun h3 os))
abbrev QQ (s₀ s₁:Shared) (ns:List Int):Value->Shared->Prop:=λv s'=>GoodWG PySem.Challenge.rw_ui0508_13.row.claim (classAt s₀.heap) (ExcName.means s₀.heap) [ofPy (Kf (KA Kx ns))] s₁ (.ok (.ret v)) s'
abbrev EE (s₀ s₁:Shared) (ns:List Int):Value->Shared->Prop:=λe s'=>GoodWG PySem.Challenge.rw_ui0508_13.row.claim (classAt s₀.heap) (ExcName.means s₀.heap) [ofPy (Kf (KA Kx ns))] s₁ (.error e) s'
theorem small {p:Program}{w:World}{A:Around}{t:Sem Value}{s₀ s₁ s:Shared}{ns:List Int} (h:wpAny (model p w) A t (QQ s₀ s₁ ns) (EE s₀ s₁ ns) s):
  wpAny (model p w) A t (λv s'=>GoodWG PySem.Challenge.rw_ui0508_13.row.claim (classAt s₀.heap) (ExcName.means s₀.heap) [ofPy (Kf (KA Kx ns))] s₁ (.ok (.ret v)) s')
   (λe s'=>GoodWG PySem.Challenge.rw_ui0508_13.row.claim (classAt s₀.heap) (ExcName.means s₀.heap) [ofPy (Kf (KA Kx ns))] s₁ (.error e) s') s:=h
end Tactic
namespace Tactic
open Internal
abbrev nq0:Nat:=1954115685
abbrev nq1:Nat:=491260897125
abbrev nq2:Nat:=126922498794852
abbrev nq3:Nat:=1852138852
abbrev nq4:Nat:=1851878757
abbrev nq5:Nat:=121424990136436
abbrev nq6:Nat:=1886156147
abbrev nq7:Nat:=504397587826
abbrev nq8:Nat:=465726563698
abbrev nq9:Nat:=131277443786868
abbrev kM:Nat:=127961880028532
abbrev fZ:Nat:=1919512167
abbrev eK:Nat:=1634886515
abbrev lS:Nat:=1701733491
abbrev v5:Nat:=495873782388
abbrev yO:Nat:=439855772532
abbrev zfr:Nat:=104880676367988
abbrev zlS:Nat:=450661264077055929053037
abbrev zfq:Nat:=107135549927012
abbrev zc2:Nat:=495873782885
abbrev zfp:Nat:=521330740336550618428517
abbrev zc1:Nat:=7598521885536580729
abbrev zfo:Nat:=422608071022
abbrev iV:Nat:=1936292453
abbrev zlR:Nat:=126943688418675
abbrev zas:Nat:=1937006962
abbrev mQ:Nat:=499984983411
abbrev zt3:Nat:=1925483444799026525305
def gl0:List (PySem.Str×Val):= [(n18,(.str [32,9,10,58,47,95,91,93,62,35,59,63,61])),(zui,(.bi 7103854)),(zua,(.ty 7566450)),(zt8,(.ty nq0)),(n20,(.top 100)),(n21,(.top 101)),(n26,(.top 102)),(n22,(.top 103)),(zud,(.ty 6909556)),(zuh,(.bi 7168376)),(zug,(.bi 7170414)),(n17,(.int (10 ^ 4000))),(n83,(.top 109)),(zt9,(.ty 500186508389)),(v9,(.top 110)),(n94,(.top 111)),(ziQ,(.fl [.top 112,.top 113,.top 114,.top 115,.top 116])),(lU,(.top 106)),(lV,(.top 105)),(ziP,(.int 20000)),(zub,(.ty nq1)),(n25,(.top 117)),(zaO,(.top 118)),(ziO,(.int 200000)),(n23,(.top 119)),(ziN,(.top 120)),(zaN,(.top 121)),(zaI,(.top 122)),(zaF,(.top 123)),(zaE,(.top 124)),(zaG,(.top 125)),(zuc,(.ty 1818850164)),(zaD,(.top 181)),(zl2,(.int 2000)),(zay,(.top 104)),(zue,(.ty 1684628340)),(zuf,(.bi nq2)),(n52,(.top 107)),(zaz,(.top 108)),(zdb,(.top 126)),(zda,(.top 127)),(zau,(.top 128)),(zat,(.top 129)),(zav,(.top 130)),(zaw,(.top 131)),(zax,(.top 132)),(zaH,(.top 133)),(zl1,(.int 200)),(n24,(.top 134)),(zc9,(.top 137)),(zc8,(.top 138)),(zc7,(.top 139)),(zaC,(.top 182)),(zaB,(.top 184)),(zaA,(.top 185)),(yT,(.top 186))]
def e9:List Sm:= [.ret (.bop false [.cmp .is (.call (.lit (.ty nq0)) [.var 0]) (.lit (.ty 7566450)),.cmp .eq (.call (.lit (.bi 7103854)) [.var 0]) (.lit (.int 1)),.cmp .notin (.var 0) (.lit (.str [32,9,10,58,47,95,91,93,62,35,59,63,61])),.not (.meth (.var 0) 29681812198482789 [])])]
def kX:Fn:=⟨101,1,[],7,e9⟩
def dR:List Sm:= [.ite (.not (.call (.lit (.top 101)) [.var 0])) [.raise] [],.ret (.var 0)]
def iW:Fn:=⟨103,1,[],7,dR⟩
def eG:List Sm:= [.ite (.cmp .ne (.var 0) (.lit (.str []))) [.expr (.call (.lit (.top 103)) [.var 0])] [],.ret (.var 0)]
def jL:Fn:=⟨119,1,[],7,eG⟩
def eZ:List Sm:= [.ite (.cmp .isnot (.call (.lit (.ty nq0)) [.var 0]) (.lit (.ty 7566450))) [.raise] [],.fo [1] false (.var 0) [.expr (.call (.lit (.top 103)) [.var 1])],.ret (.var 0)]
def kU:Fn:=⟨134,1,[],8,eZ⟩
def eH:List Sm:= [.ite (.bop true [.cmp .isnot (.call (.lit (.ty nq0)) [.var 0]) (.lit (.ty 6909556)),.cmp .lt (.var 0) (.var 1),.cmp .gt (.var 0) (.var 2)]) [.raise] [],.ret (.var 0)]
def jM:Fn:=⟨117,4,[],10,eH⟩
def zR:List Sm:= [.ite (.bop true [.cmp .isnot (.call (.lit (.ty nq0)) [.var 1]) (.lit (.ty 6909556)),.cmp .lt (.var 1) (.lit (.int 0)),.cmp .gt (.var 1) (.lit (.int 1))]) [.raise] [],.ret (.var 1)]
def zE:Fn:=⟨142,2,[],8,zR⟩
def zQ:List Sm:= [.ret (.call (.lit (.bi 7168376)) [.var 1,.var 2])]
def zD:Fn:=⟨143,3,[],9,zQ⟩
def xC:List Sm:= [.ret (.call (.lit (.bi 7170414)) [.var 1,.var 2])]
def wM:Fn:=⟨144,3,[],9,xC⟩
def zP:List Sm:= [.ret (.lit (.int 1))]
def zC:Fn:=⟨145,2,[],8,zP⟩
def lK:List Sm:= [.ite (.bop false [.cmp .isnot (.var 1) (.lit .none),.bop true [.cmp .isnot (.call (.lit (.ty nq0)) [.var 1]) (.lit (.ty 6909556)),.cmp .lt (.var 1) (.lit (.int 0)),.cmp .ge (.var 1) (.lit (.int (10 ^ 4000)))]]) [.raise] [],.ret (.var 1)]
def tQ:Fn:=⟨147,2,[],8,lK⟩
def tZ:List Sm:= [.ite (.cmp .is (.var 1) (.lit .none)) [.ret (.var 2)] [],.ite (.cmp .is (.var 2) (.lit .none)) [.ret (.var 1)] [],.ret (.call (.lit (.bi 7170414)) [.var 1,.var 2])]
def tP:Fn:=⟨148,3,[],9,tZ⟩
def sD:List Sm:= [.ite (.bop true [.cmp .is (.var 1) (.lit .none),.cmp .is (.var 2) (.lit .none)]) [.ret (.lit .none)] [],.ret (.bin .add (.var 1) (.var 2))]
def rN:Fn:=⟨149,3,[],9,sD⟩
def tY:List Sm:= [.ret (.lit (.int 0))]
def tO:Fn:=⟨150,2,[],8,tY⟩
def lL:List Sm:= [.ite (.bop true [.cmp .isnot (.call (.lit (.ty nq0)) [.var 1]) (.lit (.ty 6909556)),.cmp .lt (.var 1) (.lit (.int 0)),.cmp .ge (.var 1) (.lit (.int (10 ^ 4000)))]) [.raise] [],.ret (.var 1)]
def tT:Fn:=⟨152,2,[],8,lL⟩
def uB:List Sm:= [.ret (.bin .add (.var 1) (.var 2))]
def tS:Fn:=⟨153,3,[],9,uB⟩
def jY:List Sm:= [.ret (.bin .mul (.var 1) (.var 2))]
def rO:Fn:=⟨154,3,[],9,jY⟩
def uA:List Sm:= [.ite (.cmp .ne (.var 1) (.lit (.int 0))) [.raise] [],.ret (.lit (.int 1))]
def tR:Fn:=⟨155,2,[],8,uA⟩
def lJ:List Sm:= [.wh (.cmp .gt (.var 1) (.lit (.int 0))) [.asgs [.nm 0,.nm 1] (.tup [.var 1,.bin .mod (.var 0) (.var 1)])],.ret (.var 0)]
def tN:Fn:=⟨109,2,[],8,lJ⟩
def j3:List Sm:= [.ite (.bop true [.cmp .isnot (.call (.lit (.ty nq0)) [.var 1]) (.lit (.ty 500186508389)),.cmp .ne (.call (.lit (.bi 7103854)) [.var 1]) (.lit (.int 2)),.cmp .isnot (.call (.lit (.ty nq0)) [.sub (.var 1) (.lit (.int 0))]) (.lit (.ty 6909556)),.cmp .isnot (.call (.lit (.ty nq0)) [.sub (.var 1) (.lit (.int 1))]) (.lit (.ty 6909556))]) [.raise] [],.ite (.bop true [.cmp .lt (.sub (.var 1) (.lit (.int 0))) (.lit (.int 0)),.cmp .lt (.sub (.var 1) (.lit (.int 1))) (.lit (.int 1)),.cmp .ge (.sub (.var 1) (.lit (.int 0))) (.lit (.int (10 ^ 4000))),.cmp .ge (.sub (.var 1) (.lit (.int 1))) (.lit (.int (10 ^ 4000))),.cmp .ne (.call (.lit (.top 109)) [.sub (.var 1) (.lit (.int 1)),.sub (.var 1) (.lit (.int 0))]) (.lit (.int 1))]) [.raise] [],.ret (.var 1)]
def rS:Fn:=⟨157,2,[],8,j3⟩
def jZ:List Sm:= [.ret (.call (.lit (.top 110)) [.bin .add (.bin .mul (.sub (.var 1) (.lit (.int 0))) (.sub (.var 2) (.lit (.int 1)))) (.bin .mul (.sub (.var 2) (.lit (.int 0))) (.sub (.var 1) (.lit (.int 1)))),.bin .mul (.sub (.var 1) (.lit (.int 1))) (.sub (.var 2) (.lit (.int 1)))])]
def rQ:Fn:=⟨158,3,[],9,jZ⟩
def iS:List Sm:= [.ret (.call (.lit (.top 110)) [.bin .mul (.sub (.var 1) (.lit (.int 0))) (.sub (.var 2) (.lit (.int 0))),.bin .mul (.sub (.var 1) (.lit (.int 1))) (.sub (.var 2) (.lit (.int 1)))])]
def pJ:Fn:=⟨159,3,[],9,iS⟩
def sE:List Sm:= [.ite (.cmp .ge (.sub (.var 1) (.lit (.int 0))) (.sub (.var 1) (.lit (.int 1)))) [.raise] [],.ret (.call (.lit (.top 110)) [.sub (.var 1) (.lit (.int 1)),.bin .sub (.sub (.var 1) (.lit (.int 1))) (.sub (.var 1) (.lit (.int 0)))])]
def rP:Fn:=⟨160,2,[],8,sE⟩
def jX:List Sm:= [.expr (.meth (.lit (.top 111)) nq3 [.var 0,.var 1]),.ite (.cmp .gt (.sub (.var 1) (.lit (.int 0))) (.sub (.var 1) (.lit (.int 1)))) [.raise] [],.ret (.var 1)]
def rM:Fn:=⟨161,2,[],8,jX⟩
def jW:List Sm:= [.ite (.cmp .lt (.bin .mul (.sub (.var 1) (.lit (.int 0))) (.sub (.var 2) (.lit (.int 1)))) (.bin .mul (.sub (.var 2) (.lit (.int 0))) (.sub (.var 1) (.lit (.int 1))))) [.ret (.var 2)] [],.ret (.var 1)]
def rL:Fn:=⟨162,3,[],9,jW⟩
def sC:List Sm:= [.ret (.attr (.var 0) 7302757)]
def rK:Fn:=⟨163,2,[],8,sC⟩
def gD:List Sm:= [.asg (.nm 2) (.call (.lit (.top 109)) [.var 1,.var 0]),.ret (.tup [.bin .fdiv (.var 0) (.var 2),.bin .fdiv (.var 1) (.var 2)])]
def m5:Fn:=⟨110,2,[],9,gD⟩
def tX:List Sm:= [.fo [1] false (.lit (.fl [.top 112,.top 113,.top 114,.top 115,.top 116])) [.ite (.cmp .eq (.attr (.var 1) nq4) (.var 0)) [.ret (.var 1)] []],.raise]
def tM:Fn:=⟨105,1,[],8,tX⟩
def jU:List Sm:= [.asg (.nm 2) (.attr (.var 0) nq5),.fo [3] false (.var 1) [.asg (.nm 2) (.meth (.var 0) nq6 [.var 2,.var 3])],.ret (.var 2)]
def rI:Fn:=⟨186,2,[],10,jU⟩
def oY:List Sm:= [.asg (.at (.var 0) nq7) (.var 1),.asg (.at (.var 0) nq8) (.var 2),.asg (.at (.var 0) nq9) (.var 3),.asg (.at (.var 0) kM) (.var 4)]
def zF:Fn:=⟨166,5,[],11,oY⟩
def iT:List Sm:= [.ret (.bop false [.cmp .eq (.attr (.var 0) nq7) (.lit (.str [])),.cmp .eq (.attr (.var 0) nq8) (.lit (.str []))])]
def pK:Fn:=⟨165,1,[],7,iT⟩
def iQ:List Sm:= [.asg (.at (.var 0) fZ) (.var 1),.asg (.at (.var 0) eK) (.list []),.asg (.at (.var 0) lS) (.list []),.asg (.at (.var 0) v5) (.lit (.int 0)),.asg (.at (.var 0) yO) (.attr (.var 1) 7302757),.asg (.at (.var 0) zfr) (.lit (.int 0))]
def pH:Fn:=⟨177,2,[],8,iQ⟩
def dU:List Sm:= [.ite (.cmp .gt (.bin .add (.call (.lit (.bi 7103854)) [.attr (.var 0) eK]) (.var 1)) (.lit (.int 20000))) [.raise] []]
def iY:Fn:=⟨167,2,[],8,dU⟩
def gW:List Sm:= [.expr (.meth (.var 0) zlS [.lit (.int 1)]),.expr (.meth (.attr (.var 0) eK) zfq [.list []]),.expr (.meth (.attr (.var 0) lS) zfq [.attr (.attr (.var 0) fZ) nq5]),.ret (.bin .sub (.call (.lit (.bi 7103854)) [.attr (.var 0) eK]) (.lit (.int 1)))]
def oB:Fn:=⟨168,1,[],7,gW⟩
def gG:List Sm:= [.expr (.meth (.var 0) zlS [.var 1]),.ret (.comp (.meth (.var 0) zc2 []) [2] false (.call (.lit (.ty nq1)) [.var 1]) [])]
def m8:Fn:=⟨169,2,[],8,gG⟩
def dS:List Sm:= [.ret (.call (.lit (.top 117)) [.var 1,.lit (.int 0),.bin .sub (.call (.lit (.bi 7103854)) [.attr (.var 0) eK]) (.lit (.int 1)),.lit (.str [115,116,97,116,101])])]
def iX:Fn:=⟨170,2,[],8,dS⟩
def jV:List Sm:= [.expr (.meth (.var 0) zfp [.var 1]),.expr (.meth (.var 0) zfp [.var 5]),.expr (.call (.lit (.top 119)) [.var 2]),.expr (.call (.lit (.top 119)) [.var 3]),.expr (.meth (.attr (.var 0) fZ) nq3 [.var 4]),.ite (.cmp .eq (.var 4) (.attr (.attr (.var 0) fZ) nq5)) [.ret (.lit .none)] [],.ite (.cmp .ge (.attr (.var 0) zfr) (.lit (.int 200000))) [.raise] [],.asg (.at (.var 0) zfr) (.bin .add (.attr (.var 0) zfr) (.lit (.int 1))),.expr (.meth (.sub (.attr (.var 0) eK) (.var 1)) zfq [.call (.lit (.top 118)) [.var 2,.var 3,.var 4,.var 5]])]
def rJ:Fn:=⟨171,6,[],12,jV⟩
def gX:List Sm:= [.expr (.meth (.var 0) zfp [.var 1]),.asg (.at (.var 0) yO) (.ite (.cmp .is (.var 2) (.lit (.top 120))) (.attr (.attr (.var 0) fZ) 7302757) (.meth (.attr (.var 0) fZ) nq3 [.var 2])),.asg (.at (.var 0) v5) (.var 1)]
def fn_Machine_begin:Fn:=⟨172,3,[(Val.top 120)],9,gX⟩
def fY:List Sm:= [.expr (.meth (.var 0) zfp [.var 1]),.asg (.sb (.attr (.var 0) lS) (.var 1)) (.ite (.cmp .is (.var 2) (.lit (.top 120))) (.attr (.attr (.var 0) fZ) 7302757) (.meth (.attr (.var 0) fZ) nq3 [.var 2]))]
def fn_Machine_end:Fn:=⟨173,3,[(Val.top 120)],9,fY⟩
def iP:List Sm:= [.ret (.call (.lit (.bi 7103854)) [.attr (.var 0) eK])]
def pG:Fn:=⟨174,1,[],7,iP⟩
def eI:List Sm:= [.fo [1] false (.attr (.var 0) eK) [.fo [2] false (.var 1) [.ite (.meth (.var 2) zc1 []) [.ret (.lit (.bool true))] []]],.ret (.lit (.bool false))]
def jN:Fn:=⟨175,1,[],9,eI⟩
def fA:List Sm:= [.fo [1] false (.attr (.var 0) eK) [.fo [2] false (.var 1) [.ite (.cmp .ne (.attr (.var 2) nq7) (.attr (.var 2) nq8)) [.ret (.lit (.bool false))] []]],.ret (.lit (.bool true))]
def kY:Fn:=⟨187,1,[],9,fA⟩
def iR:List Sm:= [.asg (.nm 1) (.call (.lit (.top 121)) [.attr (.var 0) fZ]),.fo [2] false (.call (.lit (.ty nq1)) [.call (.lit (.bi 7103854)) [.attr (.var 0) eK]]) [.expr (.meth (.var 1) zc2 [])],.expr (.call (.lit (.top 122)) [.var 1,.var 0,.lit (.int 0)]),.fo [2] false (.call (.lit (.ty nq1)) [.call (.lit (.bi 7103854)) [.attr (.var 0) lS]]) [.asg (.sb (.attr (.var 1) lS) (.var 2)) (.sub (.attr (.var 0) lS) (.var 2))],.ite (.cmp .gt (.call (.lit (.bi 7103854)) [.attr (.var 0) eK]) (.lit (.int 0))) [.expr (.meth (.var 1) zfo [.attr (.var 0) v5,.attr (.var 0) yO])] [],.ret (.var 1)]
def pI:Fn:=⟨176,1,[],9,iR⟩
def gE:List Sm:= [.fo [3] false (.call (.lit (.ty nq1)) [.meth (.var 1) iV []]) [.fo [4] false (.sub (.attr (.var 1) eK) (.var 3)) [.expr (.meth (.var 0) 6386275 [.bin .add (.var 3) (.var 2),.attr (.var 4) nq7,.attr (.var 4) nq8,.attr (.var 4) nq9,.bin .add (.attr (.var 4) kM) (.var 2)])]]]
def m7:Fn:=⟨122,3,[],11,gE⟩
def cM:List Sm:= [.ite (.cmp .eq (.meth (.var 0) iV []) (.lit (.int 0))) [.raise] [],.asg (.nm 1) (.call (.lit (.top 124)) [.var 0,.list [.attr (.var 0) v5],.call (.lit (.top 125)) [.var 0]]),.asg (.nm 3) (.comp (.var 9) [9] false (.call (.lit (.ty nq1)) [.meth (.var 0) iV []]) [.cmp .ne (.sub (.attr (.var 0) lS) (.var 9)) (.attr (.attr (.var 0) fZ) nq5)]),.asg (.nm 4) (.call (.lit (.top 124)) [.var 0,.var 3,.call (.lit (.top 123)) [.var 0]]),.asg (.nm 5) (.comp (.var 9) [9] false (.call (.lit (.ty nq1)) [.meth (.var 0) iV []]) [.bop false [.sub (.var 1) (.var 9),.sub (.var 4) (.var 9)]]),.asg (.nm 6) (.call (.lit (.top 121)) [.attr (.var 0) fZ]),.ite (.bop true [.cmp .notin (.attr (.var 0) v5) (.var 5),.cmp .eq (.attr (.var 0) yO) (.attr (.attr (.var 0) fZ) nq5)]) [.expr (.meth (.var 6) zc2 []),.ret (.var 6)] [],.asg (.nm 7) (.dict []),.fo [2] false (.var 5) [.asg (.sb (.var 7) (.var 2)) (.meth (.var 6) zc2 [])],.fo [2] false (.var 5) [.fo [8] false (.sub (.attr (.var 0) eK) (.var 2)) [.ite (.cmp .isin (.attr (.var 8) kM) (.var 7)) [.expr (.meth (.var 6) 6386275 [.sub (.var 7) (.var 2),.attr (.var 8) nq7,.attr (.var 8) nq8,.attr (.var 8) nq9,.sub (.var 7) (.attr (.var 8) kM)])] []],.asg (.sb (.attr (.var 6) lS) (.sub (.var 7) (.var 2))) (.sub (.attr (.var 0) lS) (.var 2))],.expr (.meth (.var 6) zfo [.sub (.var 7) (.attr (.var 0) v5),.attr (.var 0) yO]),.ret (.var 6)]
def pE:Fn:=⟨133,1,[],15,cM⟩
def fX:List Sm:= [.ret (.comp (.comp (.attr (.var 2) kM) [2] false (.var 1) []) [1] false (.attr (.var 0) eK) [])]
def l5:Fn:=⟨125,1,[],7,fX⟩
def eF:List Sm:= [.asg (.nm 1) (.comp (.list []) [4] false (.attr (.var 0) eK) []),.fo [2] false (.call (.lit (.ty nq1)) [.meth (.var 0) iV []]) [.fo [3] false (.sub (.attr (.var 0) eK) (.var 2)) [.expr (.meth (.sub (.var 1) (.attr (.var 3) kM)) zfq [.var 2])]],.ret (.var 1)]
def jK:Fn:=⟨123,1,[],10,eF⟩
def iO:List Sm:= [.asg (.nm 3) (.bin .mul (.list [.lit (.bool false)]) (.meth (.var 0) iV [])),.asg (.nm 4) (.call (.lit (.ty 1818850164)) [.var 1]),.fo [5] false (.var 4) [.asg (.sb (.var 3) (.var 5)) (.lit (.bool true))],.wh (.cmp .gt (.call (.lit (.bi 7103854)) [.var 4]) (.lit (.int 0))) [.asg (.nm 5) (.meth (.var 4) 7368560 []),.fo [6] false (.sub (.var 2) (.var 5)) [.ite (.not (.sub (.var 3) (.var 6))) [.asg (.sb (.var 3) (.var 6)) (.lit (.bool true)),.expr (.meth (.var 4) zfq [.var 6])] []]],.ret (.var 3)]
def pF:Fn:=⟨124,3,[],13,iO⟩
def c9:List Sm:= [.ite (.cmp .eq (.meth (.var 0) iV []) (.lit (.int 0))) [.raise] []]
def gJ:Fn:=⟨181,1,[],7,c9⟩
def fW:List Sm:= [.expr (.call (.lit (.top 181)) [.var 0]),.asg (.nm 1) (.meth (.var 0) 1668247673 []),.fo [2] false (.attr (.var 1) eK) [.fo [3] false (.var 2) [.asgs [.at (.var 3) nq7,.at (.var 3) nq8] (.tup [.attr (.var 3) nq8,.attr (.var 3) nq7])]],.ret (.var 1)]
def l0:Fn:=⟨182,1,[],10,fW⟩
def eX:List Sm:= [.ite (.cmp .notin (.var 1) (.tup [.lit (.str [117,112,112,101,114]),.lit (.str [108,111,119,101,114])])) [.raise] [],.expr (.call (.lit (.top 181)) [.var 0]),.asg (.nm 2) (.meth (.var 0) 1668247673 []),.fo [3] false (.attr (.var 2) eK) [.fo [4] false (.var 3) [.ite (.cmp .eq (.var 1) (.lit (.str [117,112,112,101,114]))) [.asg (.at (.var 4) nq8) (.attr (.var 4) nq7)] [.asg (.at (.var 4) nq7) (.attr (.var 4) nq8)]]],.ret (.var 2)]
def kQ:Fn:=⟨184,2,[],11,eX⟩
def eU:List Sm:= [.expr (.call (.lit (.top 181)) [.var 0]),.asg (.nm 1) (.call (.lit (.top 121)) [.attr (.var 0) fZ]),.asg (.nm 2) (.meth (.var 1) zc2 []),.expr (.meth (.var 1) zlR [.meth (.var 0) iV []]),.fo [3] false (.call (.lit (.ty nq1)) [.meth (.var 0) iV []]) [.fo [4] false (.sub (.attr (.var 0) eK) (.var 3)) [.expr (.meth (.var 1) 6386275 [.bin .add (.lit (.int 1)) (.attr (.var 4) kM),.attr (.var 4) nq7,.attr (.var 4) nq8,.attr (.var 4) nq9,.bin .add (.lit (.int 1)) (.var 3)])]],.fo [5] false (.call (.lit (.ty nq1)) [.meth (.var 0) iV []]) [.expr (.meth (.var 1) 6386275 [.var 2,.lit (.str []),.lit (.str []),.sub (.attr (.var 0) lS) (.var 5),.bin .add (.lit (.int 1)) (.var 5)])],.expr (.meth (.var 1) 6647396 [.bin .add (.lit (.int 1)) (.attr (.var 0) v5),.attr (.var 0) yO]),.ret (.var 1)]
def kP:Fn:=⟨185,1,[],12,eU⟩
def jT:List Sm:= [.ite (.cmp .gt (.meth (.var 0) iV []) (.lit (.int 2000))) [.raise] [],.asg (.nm 2) (.comp (.dict []) [5] false (.attr (.var 0) eK) []),.fo [3] false (.call (.lit (.ty nq1)) [.meth (.var 0) iV []]) [.fo [4] false (.sub (.attr (.var 0) eK) (.var 3)) [.ite (.bop true [.meth (.var 4) zc1 [],.not (.var 1)]) [.expr (.call (.lit (.top 104)) [.attr (.var 0) fZ,.sub (.var 2) (.var 3),.attr (.var 4) kM,.attr (.var 4) nq9])] []]],.ret (.var 2)]
def rH:Fn:=⟨108,2,[],11,jT⟩
def iH:List Sm:= [.ite (.cmp .ne (.var 3) (.attr (.var 0) nq5)) [.asg (.sb (.var 1) (.var 2)) (.meth (.var 0) nq6 [.meth (.var 1) 6776180 [.var 2,.attr (.var 0) nq5],.var 3])] []]
def wJ:Fn:=⟨104,4,[],10,iH⟩
def lH:List Sm:= [.asg (.nm 2) (.comp (.call (.lit (.ty 1684628340)) [.var 9]) [9] false (.var 1) []),.fo [3] false (.call (.lit (.ty nq1)) [.call (.lit (.bi 7103854)) [.var 2]]) [.asg (.nm 4) (.call (.lit (.ty 1684628340)) [.sub (.var 2) (.var 3)]),.ite (.cmp .eq (.call (.lit (.bi 7103854)) [.var 4]) (.lit (.int 0))) [.cont] [],.asg (.nm 5) (.meth (.var 0) zas [.meth (.var 4) 6776180 [.var 3,.attr (.var 0) nq5]]),.fo [6] false (.call (.lit (.ty nq1)) [.call (.lit (.bi 7103854)) [.var 2]]) [.ite (.cmp .isin (.var 3) (.sub (.var 2) (.var 6))) [.asg (.nm 7) (.meth (.var 0) mQ [.sub (.sub (.var 2) (.var 6)) (.var 3),.var 5]),.fo [8] false (.call (.lit (.bi nq2)) [.var 4]) [.expr (.call (.lit (.top 104)) [.var 0,.sub (.var 2) (.var 6),.var 8,.meth (.var 0) mQ [.var 7,.sub (.var 4) (.var 8)]])]] []]],.fo [3] false (.call (.lit (.ty nq1)) [.call (.lit (.bi 7103854)) [.var 2]]) [.expr (.call (.lit (.top 104)) [.var 0,.sub (.var 2) (.var 3),.var 3,.attr (.var 0) 7302757])],.ret (.var 2)]
def tI:Fn:=⟨107,2,[],15,lH⟩
def fU:List Sm:= [.asg (.nm 3) (.bin .mul (.list [.attr (.var 0) nq5]) (.call (.lit (.bi 7103854)) [.var 1])),.fo [4] false (.call (.lit (.ty nq1)) [.call (.lit (.bi 7103854)) [.var 1]]) [.ite (.cmp .ne (.sub (.var 1) (.var 4)) (.attr (.var 0) nq5)) [.fo [5] false (.call (.lit (.bi nq2)) [.sub (.var 2) (.var 4)]) [.asg (.sb (.var 3) (.var 5)) (.meth (.var 0) nq6 [.sub (.var 3) (.var 5),.meth (.var 0) mQ [.sub (.var 1) (.var 4),.sub (.sub (.var 2) (.var 4)) (.var 5)]])]] []],.ret (.var 3)]
def lY:Fn:=⟨132,3,[],12,fU⟩
def eS:List Sm:= [.ite (.not (.meth (.var 0) zt3 [])) [.ret (.lit .none)] [],.ret (.call (.lit (.top 107)) [.attr (.var 0) fZ,.call (.lit (.top 108)) [.var 0,.lit (.bool true)]])]
def kO:Fn:=⟨131,1,[],7,eS⟩
def cO:List Sm:= [.expr (.call (.lit (.top 130)) [.var 1]),.expr (.call (.lit (.top 130)) [.var 2]),.asg (.nm 3) (.attr (.var 0) fZ),.asg (.nm 0) (.call (.lit (.top 133)) [.var 0]),.asg (.nm 4) (.call (.lit (.top 131)) [.var 0]),.asg (.nm 5) (.dict [.tup [.lit (.int 0),.lit (.int 0)],.call (.lit (.top 128)) [.var 0]]),.fo [6] false (.call (.lit (.ty nq1)) [.bin .add (.call (.lit (.bi 7103854)) [.var 1]) (.lit (.int 1))]) [.fo [7] false (.call (.lit (.ty nq1)) [.bin .add (.call (.lit (.bi 7103854)) [.var 2]) (.lit (.int 1))]) [.asg (.nm 8) (.meth (.var 5) 6776180 [.tup [.var 6,.var 7]]),.ite (.cmp .is (.var 8) (.lit .none)) [.cont] [],.ite (.cmp .isnot (.var 4) (.lit .none)) [.asg (.nm 8) (.call (.lit (.top 132)) [.var 3,.var 8,.var 4]),.asg (.sb (.var 5) (.tup [.var 6,.var 7])) (.var 8)] [],.fo [9] false (.call (.lit (.ty nq1)) [.meth (.var 0) iV []]) [.ite (.cmp .eq (.sub (.var 8) (.var 9)) (.attr (.var 3) nq5)) [.cont] [],.fo [10] false (.sub (.attr (.var 0) eK) (.var 9)) [.ite (.bop true [.meth (.var 10) zc1 [],.not (.call (.lit (.top 129)) [.var 1,.var 6,.attr (.var 10) nq7]),.not (.call (.lit (.top 129)) [.var 2,.var 7,.attr (.var 10) nq8])]) [.cont] [],.asg (.nm 11) (.tup [.bin .add (.var 6) (.call (.lit (.bi 7103854)) [.attr (.var 10) nq7]),.bin .add (.var 7) (.call (.lit (.bi 7103854)) [.attr (.var 10) nq8])]),.expr (.call (.lit (.top 126)) [.var 0,.var 5,.var 11,.attr (.var 10) kM,.meth (.var 3) mQ [.sub (.var 8) (.var 9),.attr (.var 10) nq9]])]]]],.ret (.call (.lit (.top 127)) [.var 0,.meth (.var 5) 6776180 [.tup [.call (.lit (.bi 7103854)) [.var 1],.call (.lit (.bi 7103854)) [.var 2]]]])]
def tJ:Fn:=⟨106,3,[],18,cO⟩
def fV:List Sm:= [.expr (.call (.lit (.top 134)) [.var 0]),.ite (.cmp .gt (.call (.lit (.bi 7103854)) [.var 0]) (.lit (.int 200))) [.raise] []]
def lZ:Fn:=⟨130,1,[],7,fV⟩
def lI:List Sm:= [.asg (.nm 1) (.bin .mul (.list [.attr (.attr (.var 0) fZ) nq5]) (.meth (.var 0) iV [])),.asg (.sb (.var 1) (.attr (.var 0) v5)) (.attr (.var 0) yO),.ret (.var 1)]
def tK:Fn:=⟨128,1,[],8,lI⟩
def nH:List Sm:= [.ret (.bop true [.cmp .eq (.var 2) (.lit (.str [])),.cmp .eq (.slice (.var 0) 3 [.var 1,.bin .add (.var 1) (.lit (.int 1))]) (.var 2)])]
def wK:Fn:=⟨129,3,[],9,nH⟩
def gC:List Sm:= [.ite (.cmp .notin (.var 2) (.var 1)) [.asg (.sb (.var 1) (.var 2)) (.bin .mul (.list [.attr (.attr (.var 0) fZ) nq5]) (.meth (.var 0) iV []))] [],.asg (.sb (.sub (.var 1) (.var 2)) (.var 3)) (.meth (.attr (.var 0) fZ) nq6 [.sub (.sub (.var 1) (.var 2)) (.var 3),.var 4])]
def zB:Fn:=⟨126,5,[],11,gC⟩
def gL:List Sm:= [.asg (.nm 2) (.attr (.var 0) fZ),.asg (.nm 3) (.attr (.var 2) nq5),.ite (.cmp .isnot (.var 1) (.lit .none)) [.fo [4] false (.call (.lit (.ty nq1)) [.meth (.var 0) iV []]) [.asg (.nm 3) (.meth (.var 2) nq6 [.var 3,.meth (.var 2) mQ [.sub (.var 1) (.var 4),.sub (.attr (.var 0) lS) (.var 4)]])]] [],.ret (.meth (.var 2) nq3 [.var 3])]
def tL:Fn:=⟨127,2,[],11,gL⟩
def gV:List Sm:= [.ite (.cmp .lt (.var 1) (.call (.lit (.bi 7103854)) [.var 0])) [.ret (.sub (.var 0) (.var 1))] [],.ret (.lit (.int 0))]
def oA:Fn:=⟨137,2,[],8,gV⟩
def eY:List Sm:= [.ret (.sub (.dict [.lit (.str [121,101,115]),.list [.lit (.int 1),.lit (.int 1),.lit (.int 1)],.lit (.str [108,101,97,115,116]),.list [.lit (.int 0),.lit (.int 1),.lit (.int 3)],.lit (.str [99,111,117,110,116]),.list [.lit (.int 1),.lit (.int 1),.lit (.int 2)],.lit (.str [99,104,97,110,99,101]),.list [.tup [.lit (.int 1),.lit (.int 4)],.tup [.lit (.int 1),.lit (.int 3)],.tup [.lit (.int 1),.lit (.int 2)]],.lit (.str [108,105,107,101,108,121]),.list [.tup [.lit (.int 1),.lit (.int 2)],.tup [.lit (.int 1),.lit (.int 3)],.tup [.lit (.int 1),.lit (.int 1)]]]) (.var 0))]
def kR:Fn:=⟨138,1,[],7,eY⟩
def bG:List Sm:= [.asg (.nm 5) (.call (.lit (.top 121)) [.var 2]),.asg (.nm 6) (.bin .add (.lit (.int 1)) (.bin .mod (.call (.lit (.top 137)) [.var 0,.var 1]) (.lit (.int 4)))),.expr (.meth (.var 5) zlR [.var 6]),.asg (.nm 7) (.call (.lit (.top 138)) [.attr (.var 2) nq4]),.fo [8] false (.call (.lit (.ty nq1)) [.bin .add (.lit (.int 2)) (.bin .mod (.call (.lit (.top 137)) [.var 0,.bin .add (.var 1) (.lit (.int 1))]) (.lit (.int 6)))]) [.asg (.nm 9) (.call (.lit (.top 137)) [.var 0,.bin .add (.bin .add (.var 1) (.lit (.int 2))) (.var 8)]),.asg (.nm 10) (.bin .mod (.var 9) (.var 6)),.asg (.nm 11) (.bin .mod (.bin .fdiv (.var 9) (.lit (.int 4))) (.var 6)),.asg (.nm 12) (.sub (.var 3) (.bin .mod (.bin .fdiv (.var 9) (.lit (.int 16))) (.call (.lit (.bi 7103854)) [.var 3]))),.asg (.nm 13) (.sub (.list [.lit (.str [97]),.lit (.str [98]),.lit (.str [])]) (.bin .mod (.bin .fdiv (.var 9) (.lit (.int 48))) (.lit (.int 3)))),.asg (.nm 11) (.call (.lit (.bi 7168376)) [.var 11,.bin .mul (.bin .add (.var 10) (.lit (.int 1))) (.bop true [.cmp .eq (.bin .add (.var 12) (.var 13)) (.lit (.str [])),.var 4])]),.ite (.cmp .lt (.var 11) (.var 6)) [.expr (.meth (.var 5) 6386275 [.var 10,.var 12,.var 13,.sub (.var 7) (.bin .mod (.bin .fdiv (.var 9) (.lit (.int 144))) (.lit (.int 3))),.var 11])] []],.expr (.meth (.var 5) 6647396 [.bin .sub (.var 6) (.lit (.int 1)),.sub (.var 7) (.bin .mod (.call (.lit (.top 137)) [.var 0,.bin .add (.var 1) (.lit (.int 9))]) (.lit (.int 3)))]),.ite (.cmp .eq (.bin .mod (.call (.lit (.top 137)) [.var 0,.bin .add (.var 1) (.lit (.int 9))]) (.lit (.int 2))) (.lit (.int 1))) [.expr (.meth (.var 5) 6647396 [.lit (.int 0)])] [],.expr (.meth (.var 5) zfo [.lit (.int 0),.sub (.var 7) (.bin .mod (.call (.lit (.top 137)) [.var 0,.bin .add (.var 1) (.lit (.int 10))]) (.lit (.int 3)))]),.ret (.var 5)]
def kT:Fn:=⟨139,5,[],20,bG⟩
def aP:List Sm:= [.asg (.nm 1) (.call (.lit (.top 105)) [.sub (.list [.lit (.str [121,101,115]),.lit (.str [108,101,97,115,116]),.lit (.str [99,111,117,110,116]),.lit (.str [99,104,97,110,99,101]),.lit (.str [108,105,107,101,108,121])]) (.bin .mod (.call (.lit (.top 137)) [.var 0,.lit (.int 0)]) (.lit (.int 5)))]),.asg (.nm 2) (.call (.lit (.top 139)) [.var 0,.lit (.int 1),.var 1,.list [.lit (.str [97]),.lit (.str [98])],.lit (.bool false)]),.asg (.nm 3) (.list [.lit (.str []),.lit (.str [97]),.lit (.str [98]),.lit (.str [97,97]),.lit (.str [97,98]),.lit (.str [98,97]),.lit (.str [98,98])]),.asg (.nm 4) (.sub (.var 3) (.bin .mod (.call (.lit (.top 137)) [.var 0,.lit (.int 25)]) (.lit (.int 7)))),.asg (.nm 5) (.sub (.var 3) (.bin .mod (.call (.lit (.top 137)) [.var 0,.lit (.int 26)]) (.lit (.int 7)))),.asg (.nm 6) (.call (.lit (.top 186)) [.var 1,.comp (.call (.lit (.top 106)) [.var 2,.var 4,.var 10]) [10] false (.var 3) []]),.asg (.nm 7) (.call (.lit (.top 184)) [.var 2,.lit (.str [117,112,112,101,114])]),.ite (.cmp .ne (.call (.lit (.top 106)) [.var 7,.var 4,.var 4]) (.var 6)) [.ret (.lit (.bool false))] [],.ite (.cmp .ne (.var 4) (.var 5)) [.ite (.cmp .ne (.call (.lit (.top 106)) [.var 7,.var 4,.var 5]) (.attr (.var 1) nq5)) [.ret (.lit (.bool false))] []] [],.ite (.cmp .ne (.call (.lit (.top 106)) [.call (.lit (.top 184)) [.call (.lit (.top 182)) [.var 2],.lit (.str [108,111,119,101,114])],.var 4,.var 4]) (.var 6)) [.ret (.lit (.bool false))] [],.ite (.not (.meth (.var 7) 7598521932763457902 [])) [.ret (.lit (.bool false))] [],.asg (.nm 8) (.call (.lit (.top 185)) [.var 2]),.asg (.nm 9) (.list [.lit (.str []),.lit (.str [97]),.lit (.str [98]),.lit (.str [97,97]),.lit (.str [98,97]),.lit (.str [97,98]),.lit (.str [98,98])]),.ret (.cmp .eq (.call (.lit (.top 106)) [.var 8,.sub (.var 9) (.meth (.var 3) 452823639416 [.var 4]),.sub (.var 9) (.meth (.var 3) 452823639416 [.var 5])]) (.call (.lit (.top 106)) [.var 2,.var 4,.var 5]))]
def l6:Fn:=⟨178,1,[],16,aP⟩
def P0:Prg:=⟨[kX,iW,jL,kU,jM,zE,zD,wM,zC,tQ,tP,rN,tO,tT,tS,rO,tR,tN,rS,rQ,pJ,rP,rM,rL,rK,m5,tM,rI,zF,pK,pH,iY,oB,m8,iX,rJ,fn_Machine_begin,fn_Machine_end,pG,jN,kY,pI,m7,pE,l5,jK,pF,gJ,l0,kQ,kP,rH,wJ,tI,lY,kO,tJ,lZ,tK,wK,zB,tL,oA,kR,kT,l6],
 [⟨146,[(nq4,(.str [121,101,115])),(nq5,(.int 0)),(7302757,(.int 1)),(nq3,(.top 142)),(nq6,(.top 143)),(mQ,(.top 144)),(zas,(.top 145))],QY,[]⟩,
  ⟨151,[(nq4,(.str [108,101,97,115,116])),(nq5,.none),(7302757,(.int 0)),(nq3,(.top 147)),(nq6,(.top 148)),(mQ,(.top 149)),(zas,(.top 150))],QY,[]⟩,
  ⟨156,[(nq4,(.str [99,111,117,110,116])),(nq5,(.int 0)),(7302757,(.int 1)),(nq3,(.top 152)),(nq6,(.top 153)),(mQ,(.top 154)),(zas,(.top 155))],QY,[]⟩,
  ⟨111,[(nq4,(.str [99,104,97,110,99,101])),(nq5,(.tup [.int 0,.int 1])),(7302757,(.tup [.int 1,.int 1])),(nq3,(.top 157)),(nq6,(.top 158)),(mQ,(.top 159)),(zas,(.top 160))],QY,[]⟩,
  ⟨164,[(nq4,(.str [108,105,107,101,108,121])),(nq3,(.top 161)),(nq6,(.top 162)),(zas,(.top 163)),(nq5,(.tup [.int 0,.int 1])),(7302757,(.tup [.int 1,.int 1])),(mQ,(.top 159))],QY,[]⟩,
  ⟨118,[(zc1,(.top 165))],some 166,[nq7,nq8,nq9,kM]⟩,
  ⟨121,[(zlS,(.top 167)),(zc2,(.top 168)),(zlR,(.top 169)),(zfp,(.top 170)),(6386275,(.top 171)),(zfo,(.top 172)),(6647396,(.top 173)),(iV,(.top 174)),(zt3,(.top 175)),(7598521932763457902,(.top 187)),(1668247673,(.top 176))],some 177,[fZ,eK,lS,v5,yO,zfr]⟩],
 [(112,146),(113,151),(114,156),(115,111),(116,164)]⟩
def ad0:List (Nat×Addr):= [(100,31),(101,41),(102,76),(103,48),(104,703),(105,465),(106,729),(107,708),(108,696),(109,321),(110,447),(111,396),(112,449),(113,451),(114,453),(115,455),(116,457),(117,69),(118,504),(119,55),(120,473),(121,630),(122,641),(123,656),(124,663),(125,651),(126,757),(127,764),(128,743),(129,750),(130,736),(131,722),(132,715),(133,646),(134,62),(137,771),(138,778),(139,785),(142,97),(143,104),(144,111),(145,118),(146,156),(147,174),(148,181),(149,188),(150,195),(151,233),(152,251),(153,258),(154,265),(155,272),(156,310),(157,337),(158,344),(159,351),(160,358),(161,414),(162,421),(163,428),(164,438),(165,494),(166,487),(167,529),(168,536),(169,541),(170,548),(171,555),(172,570),(173,578),(174,585),(175,599),(176,620),(177,522),(178,790),(181,670),(182,677),(184,684),(185,691),(186,472),(187,613),(191,562),(202,125),(203,132),(204,146),(205,202),(206,209),(207,223),(208,279),(209,286),(210,300),(211,365),(212,372),(213,386),(214,501),(215,627),(237,83),(240,153),(241,230),(242,307),(243,393)]
def nm0:List PySem.Str:= [zus,zdh,nW,zur,zaM,zdc,zaL,zuq,zl3,zde,zdj,zdd,yU,n43,n49,zdf,n47,n48,n50,lV,zaK,n52,ziM,rA,zdg,zdi,n51,yV,lU]
def cfg (w:World) (so:Obj):Cfg:= {prog:=pw,w:=w,K:=(mM,so)::KK w.params,P:=P0,ad:=ad0}
section
variable (w:World) (so:Obj)
theorem znM:P0.fns.map (zjq (cfg w so) gl0)=P0.fns.map λf=>some (f.np,f.ns,f.body):=by kernel_rfl
theorem zvI:P0.fns.all (Internal.fnB (cfg w so))=true:=by kernel_rfl
theorem zvH:gl0.all (glB (cfg w so))=true:=by kernel_rfl
theorem zvG:P0.insts.all (zgf (cfg w so))=true:=by kernel_rfl
theorem zvK:P0.cls.all (clB (cfg w so) nm0)=true:=by kernel_rfl
theorem zvL:nL (cfg w so):=zm2 (by kernel_rfl) (by kernel_rfl) (by kernel_rfl)
def bP:FuncData:=fnOf zaM ziL (fnB 30 7).1 (fnB 30 7).2.1 (fnB 30 7).2.2 (.ref 563) Kw Kw (Zl cY 788) QY (.ref 569) Kw
theorem oJ (S:Setting) (v0:Value) (v1:Value):peek (cfg w so).K S (bindArgs bP ⟨[v0,v1],[]⟩)=some ((bP.params.args.map (·.arg)).zip [v0,v1,(.ref 473)]):=by kernel_rfl
theorem oI (S:Setting) (v0:Value) (v1:Value) (v2:Value):peek (cfg w so).K S (bindArgs bP ⟨[v0,v1,v2],[]⟩)=some ((bP.params.args.map (·.arg)).zip [v0,v1,v2]):=by kernel_rfl
theorem pD (S:Setting): ∀ (vs:List Value),vs.length<=3->3-vs.length<=1->peek (cfg w so).K S (bindArgs bP ⟨vs,[]⟩)=some ((bP.params.args.map (·.arg)).zip (vs++Wl (1-(3-vs.length)) [(.ref 473)])):=λvs h1 h2=>match vs,h1,h2 with
 | [],_,h2=>absurd h2 (show ¬3-0<=1 by decide)
 | [_],_,h2=>absurd h2 (show ¬3-1<=1 by decide)
 | [v0,v1],_,_=>oJ w so S v0 v1
 | [v0,v1,v2],_,_=>oI w so S v0 v1 v2
 |_::_::_::_::r,h1,_=>absurd h1 (show ¬r.length+4<=3 by omega)
theorem pL:sY (cfg w so) fn_Machine_begin:=λh p e=>by
 rw [show zgv (cfg w so) fn_Machine_begin=some ⟨570,zlN w.params,bP⟩ from by kernel_rfl] at e;cases e;exact .inr ⟨h,[(.ref 473)],λw'=>p5 (qN 5) w' _ _ (by kernel_rfl),λS vs h1 h2=>pD w so S vs h1 h2⟩
def bY:FuncData:=fnOf zaL ziK (fnB 30 8).1 (fnB 30 8).2.1 (fnB 30 8).2.2 (.ref 571) Kw Kw (Zl cY 788) QY (.ref 577) Kw
theorem sI (S:Setting) (v0:Value) (v1:Value):peek (cfg w so).K S (bindArgs bY ⟨[v0,v1],[]⟩)=some ((bY.params.args.map (·.arg)).zip [v0,v1,(.ref 473)]):=by kernel_rfl
theorem sH (S:Setting) (v0:Value) (v1:Value) (v2:Value):peek (cfg w so).K S (bindArgs bY ⟨[v0,v1,v2],[]⟩)=some ((bY.params.args.map (·.arg)).zip [v0,v1,v2]):=by kernel_rfl
theorem tC (S:Setting): ∀ (vs:List Value),vs.length<=3->3-vs.length<=1->peek (cfg w so).K S (bindArgs bY ⟨vs,[]⟩)=some ((bY.params.args.map (·.arg)).zip (vs++Wl (1-(3-vs.length)) [(.ref 473)])):=λvs h1 h2=>match vs,h1,h2 with
 | [],_,h2=>absurd h2 (show ¬3-0<=1 by decide)
 | [_],_,h2=>absurd h2 (show ¬3-1<=1 by decide)
 | [v0,v1],_,_=>sI w so S v0 v1
 | [v0,v1,v2],_,_=>sH w so S v0 v1 v2
 |_::_::_::_::r,h1,_=>absurd h1 (show ¬r.length+4<=3 by omega)
theorem tW:sY (cfg w so) fn_Machine_end:=λh p e=>by
 rw [show zgv (cfg w so) fn_Machine_end=some ⟨578,zlM w.params,bY⟩ from by kernel_rfl] at e;cases e;exact .inr ⟨h,[(.ref 473)],λw'=>p5 (qN 5) w' _ _ (by kernel_rfl),λS vs h1 h2=>tC w so S vs h1 h2⟩
def zhm:List Fn->Prop
 | []=>True
 |f::r=>sY (cfg w so) f/\zhm r
theorem zhm.at: ∀ {l:List Fn},zhm w so l-> ∀f∈l,sY (cfg w so) f:=by
 intro l
 induction l with
 |nil=>exact λ_ _ h=>absurd h Qq
 |cons f l ih=>exact λh g hg=>(QE.mp hg).elim (λe=>e▸h.1) λhg=>ih h.2 g hg
theorem bA {α:Sort _}{a:α}{P:Prop} (h: ¬a=a):P:=absurd rfl h
theorem zvJ: ∀f∈P0.fns,sY (cfg w so) f:=zhm.at w so (show zhm w so P0.fns from ⟨bA,⟨bA,⟨bA,⟨bA,⟨bA,⟨bA,⟨bA,⟨bA,⟨bA,⟨bA,⟨bA,⟨bA,⟨bA,⟨bA,⟨bA,⟨bA,⟨bA,⟨bA,⟨bA,⟨bA,⟨bA,⟨bA,⟨bA,⟨bA,⟨bA,⟨bA,⟨bA,⟨bA,⟨bA,⟨bA,⟨bA,⟨bA,⟨bA,⟨bA,⟨bA,⟨bA,⟨pL w so,⟨tW w so,⟨bA,⟨bA,⟨bA,⟨bA,⟨bA,⟨bA,⟨bA,⟨bA,⟨bA,⟨bA,⟨bA,⟨bA,⟨bA,⟨bA,⟨bA,⟨bA,⟨bA,⟨bA,⟨bA,⟨bA,⟨bA,⟨bA,⟨bA,⟨bA,⟨bA,⟨bA,⟨bA,⟨bA,trivial⟩⟩⟩⟩⟩⟩⟩⟩⟩⟩⟩⟩⟩⟩⟩⟩⟩⟩⟩⟩⟩⟩⟩⟩⟩⟩⟩⟩⟩⟩⟩⟩⟩⟩⟩⟩⟩⟩⟩⟩⟩⟩⟩⟩⟩⟩⟩⟩⟩⟩⟩⟩⟩⟩⟩⟩⟩⟩⟩⟩⟩⟩⟩⟩⟩⟩)
theorem tab:dN (cfg w so) gl0:=zla (znM w so) (zvI w so) (zvJ w so) (zvH w so) (zvG w so) (zvK w so) (zvL w so) (zvP _)
end
abbrev zuM:Nat:=178
abbrev zkf:Addr:=790
theorem zmL (w:World):nsIn (KK w.params) mainGlobals (zc6)=some (some (.ref 790)):=by kernel_rfl
end Tactic
open Internal
namespace Tactic
open Internal
abbrev oS:Nat:=1886156147
abbrev qZ:Nat:=499984983411
abbrev mS:Nat:=121424990136436
abbrev zc5:Nat:=7302757
abbrev zkb:Nat:=1937006962
abbrev zfD:Nat:=1852138852
theorem foW {σ:Type}{c:Cx}{t:Ex}{b:List Sm}{k0:Nat} (F:σ->Internal.Frame) (G:σ->MH) (P:Nat->σ->Prop) (D:σ->Prop) (s0:σ) (hk:k0<=190000) (hc:c.fuel=200000) (p0:P k0 s0)
  (step: ∀k s,P k s-> ∃r:Bool,WE c (F s) t (G s) (λv g=>v= .bool r/\g=G s)/\(r=true-> ∀R' R,To F G (λs=> ∃j,j<k/\P j s) R R'->WSs c b (F s) (G s) R')/\(r=false->D s)): ∃s,D s/\exec c (.wh t b) (F s0) (G s0)=some ((.nx,F s),G s):=by
 have w:WS c (.wh t b) (F s0) (G s0) λfl f g=> ∃s,D s/\fl= .nx/\f=F s/\g=G s:=
  zkM F G P (by rw [hc];exact Qk hk (by decide)) s0 rfl rfl p0 λk s R' hp T=>by
   refine (step k s hp).elim λr zq1=>?_;refine zq1.1.mono λv g q=>?_;obtain rfl:=q.1;obtain rfl:=q.2;exact zbp ⟨λh=>zq1.2.1 h R' _ T,λh=>⟨s,zq1.2.2 h,rfl,rfl,rfl⟩⟩
 obtain ⟨⟨fl,f⟩,g,e,s,hp,q1,q2,q3⟩:=W.get w;cases q1;cases q2;cases q3;exact ⟨s,hp,e⟩
theorem gS {a b r:Int} (e:Kz a b=r) (hb:b≠0) (h:MH):gA .mod (.int a) (.int b) h=some (.int r,h):=W.eq (zk1 hb ⟨by rw [e],rfl⟩)
theorem gFd {a b:Nat} (hb:b≠0) (hl:b<divB) (h:MH):gA .fdiv (.int a) (.int b) h=some (.int (a / b:Nat),h):=W.eq (zhL (λe=>hb (Zi.mp e)) hl ⟨by rw [<-Int.ofNat_fdiv],rfl⟩)
theorem nes (s t:List Nat) (h:MH):dQ .ne (.str s) (.str t) h=some (!(s==t)):=Internal.ne_of zbx
theorem zvM {n:Nat} (h:0<n):(((n:Nat):Int)==0)=false:=beq_false_of_ne λe=>absurd (Zi.mp e▸h) (Q2 _)
section
variable {d:Nat}{h h0:MH}{Q:Val->MH->Prop}
def frV (n m:Nat):Val:= .tup [.int (n / JU n m:Nat),.int (m / JU n m:Nat)]
theorem zgl {b r:Nat} (hr:0<r) (h:r<=b):2*(b % r)<b:=by
 have h1:=Wh b hr;have h2:=Nat.div_add_mod b r;have h4:r<=r*(b / r):=JC _ ((Nat.one_le_div_iff hr).mpr h:1<=b / r);exact Qk (Qt (Wb _)) (Qi (KB h1 _) (Qa (QV h4 _) (Qt h2)))
def gB:Nat:=2 ^ 90000
theorem zu0: ∃J,gB=2 ^ J/\2*J+1<=190000:=⟨90000,rfl,by decide⟩
structure GS where
 x:Nat
 y:Nat
abbrev gF (s:GS):Internal.Frame:=some (.int s.x)::some (.int s.y)::nn 6
structure GP (g k:Nat) (s:GS):Prop where
 g:JU s.y s.x=g
 j: ∃j,(s.y<2 ^ j/\2*j<=k)\/(s.y<s.x/\s.x<2 ^ j/\2*j<=k+1)
theorem GP.next {g k:Nat}{s:GS} (P:GP g k s) (hy:0<s.y): ∃j,j<k/\GP g j ⟨s.y,s.x % s.y⟩:=by
 obtain ⟨hg,j,hj⟩:=P;have hg':JU (s.x % s.y) s.y=g:=by rw [<-Nat.gcd_rec];exact hg
 rcases hj with ⟨h1,h2⟩| ⟨h1,h2,h3⟩
 ·have hk:0<k:=KW λe=>by
   rw [show j=0 from Yt (Qa (Yu j (Jo 1)) (e▸h2))] at h1;exact Q6 (QM hy) h1
  exact ⟨k-1,YZ hk (Jo _),hg',j,.inr ⟨(Wh s.x hy),h1,Qa h2 (Qt (Ke hk).symm)⟩⟩
 ·cases j with
  |zero=>exact absurd h2 (Q6 (QC (Qk hy h1)))
  |succ j=>
   rw [XX] at h2
   have:=zgl hy (QC h1)
   have h4:2*j+1<=k:=Kh h3;exact ⟨k-1,YZ (Qi (Jo _) h4) (Jo 0),hg',j,.inl ⟨Nat.lt_of_mul_lt_mul_left (a:=2) (Q8 this (Kd h2 (KR _ _))),Nat.le_sub_one_of_lt h4⟩⟩
theorem zmQ {a b J:Nat} (hb:b<2 ^ J) (hJ:2*J+1<=190000): ∃s:GS,(s.y=0/\s.x=JU b a)/\exec (Cxd P0 d) (.wh (.cmp .gt (.var 1) (.lit (.int 0))) [.asgs [.nm 0,.nm 1] (.tup [.var 1,.bin .mod (.var 0) (.var 1)])]) (gF ⟨a,b⟩) h=some ((.nx,gF s),h):=
 foW (c:=Cxd P0 d) (k0:=2*J+1) gF (λ_=>h) (GP (JU b a)) (λs=>s.y=0/\s.x=JU b a) ⟨a,b⟩ hJ rfl ⟨rfl,J,.inl ⟨hb,Ju _⟩⟩ λk s P=>⟨decide ((0:Int)<s.y),by exact bM (.c<| .z (two (.bool (decide ((0:Int)<s.y))) h)) (by kernel_rfl),λhr R' R T=>by
  have hy:0<s.y:=Jw.mp (of_decide_eq_true hr);exact run (.q (gS (r:=(s.x % s.y:Nat)) (Int.ofNat_fmod s.x s.y).symm (λe=>JI hy (Zi.mp e)))<| .c<| .z (T.nx ⟨s.y,s.x % s.y⟩ (P.next hy))) (by kernel_rfl),λhr=>by
  have hy:s.y=0:=Nat.eq_zero_of_not_pos λh=>of_decide_eq_false hr (Jw.mpr h);have hg:=P.g;rw [hy,Nat.gcd_zero_left] at hg;exact ⟨hy,hg⟩⟩
theorem zmP {a b:Nat} (hd:1<=d) (hb:b<gB) (q:Q (.int (JU b a:Nat)) h):WF P0 d 109 [.int a,.int b] h Q:=by
 refine zu0.elim λJ e=>?_;refine bJ (K:=0) hd (gF ⟨a,b⟩) lJ (by kernel_rfl) λd' _=>?_;refine (zmQ (d:=d') (h:=h) (a:=a) (e.1▸hb) e.2).elim λs f=>?_;exact run (.s (f.2)<| .z ((f.1.2▸q:Q (.int s.x) h))) (by kernel_rfl)
theorem zuY {a b:Nat} (hd:1<=d) (hb:b<gB) (h:MH):aM (Cxd P0 d) (.top 109) [.int a,.int b] h=some (.int (JU b a:Nat),h):=fn rfl (zmP hd hb (two _ _))
theorem zjd {n m:Nat} (hd:2<=d) (hn:n<gB) (hm:0<m) (hl:m<divB) (q:Q (frV n m) h):WF P0 d 110 [.int n,.int m] h Q:=by
 refine bJ (K:=1) hd (some (.int n)::some (.int m)::nn 7) gD (by kernel_rfl) λd' h'=>?_;have g0:JU n m≠0:=Nat.pos_iff_ne_zero.mp (Z7 _ hm);have gl:JU n m<divB:=Qk (Nat.gcd_le_right _ hm) hl;exact run (.q (zuY (a:=m) h' hn)<| .q (gFd (a:=n) g0 gl)<| .q (gFd (a:=m) g0 gl)<| .z (q)) (by kernel_rfl)
theorem gFr {n m:Nat} (hd:2<=d) (hn:n<gB) (hm:0<m) (hl:m<divB) (h:MH):aM (Cxd P0 d) (.top 110) [.int n,.int m] h=some (frV n m,h):=fn rfl (zjd hd hn hm hl (two _ _))
theorem iv {x:Val}{i:Int} (e:x.int?=some i):x= .int i:=by
 cases x<;>first|exact nos e|(cases e;rfl)
theorem tv {x:Val}{i:List Val} (e:x.tup?=some i):x= .tup i:=by
 cases x<;>first|exact nos e|(cases e;rfl)
theorem nv {x:Val} (e:x.isNone=true):x= .none:=by
 cases x<;>first|rfl|cases e
theorem zzL {α:Type}{vs:List Val}{f:Val->Val->Option α}{r:α} (e:a2 vs f=some r): ∃x y,vs= [x,y]/\f x y=some r:=by
 obtain _| ⟨x,_| ⟨y,_| ⟨z,l⟩⟩⟩:=vs
 ·exact nos e
 ·exact nos e
 ·exact ⟨x,y,rfl,e⟩
 ·exact nos e
def wB:Nat:=2 ^ 3900
theorem zef:wB*wB<divB/\divB+divB<=gB:=by decide+kernel
theorem zeh:wB<=bigB:=by decide+kernel
def nat? (v:Val):Option Nat:=v.int?.bind λa=>grd (decide (0<=a) && Jt (a.toNat+1) wB) (some a.toNat)
theorem nat?_s {v:Val}{n:Nat} (e:nat? v=some n):v= .int n/\n<wB:=by
 obtain ⟨a,e1,e⟩:=bs e;obtain ⟨hb,e⟩:=gs e;cases e;exact ⟨by rw [iv e1,YQ (of_decide_eq_true (Qb.mp hb).1)],QW.mp (Qb.mp hb).2⟩
def fr? (v:Val):Option (Nat×Nat):=v.tup?.bind λvs=>a2 vs λx y=>(nat? x).bind λa=>(nat? y).bind λb=>grd (Jt 1 b) (some (a,b))
structure zBe (v:Val) (p:Nat×Nat):Prop where
 e:v= .tup [.int p.1,.int p.2]
 n:p.1<wB
 d:p.2<wB
 pos:0<p.2
theorem fr?_s {v:Val}{p:Nat×Nat} (e:fr? v=some p):zBe v p:=by
 obtain ⟨vs,e1,e⟩:=bs e;obtain ⟨x,y,rfl,e⟩:=zzL e;obtain ⟨a,ea,e⟩:=bs e;obtain ⟨b,eb,e⟩:=bs e;obtain ⟨hb,e⟩:=gs e;cases e;obtain ⟨rfl,h1⟩:=nat?_s ea;obtain ⟨rfl,h2⟩:=nat?_s eb;exact ⟨tv e1,h1,h2,QW.mp hb⟩
def onF (f:Nat->Nat->Nat->Nat->Val) (x y:Val):Option Val:=(fr? x).bind λp=>(fr? y).map λq=>f p.1 p.2 q.1 q.2
def onI (f:Int->Int->Int) (x y:Val):Option Val:=x.int?.bind λa=>y.int?.map λb=> .int (f a b)
def onN (f:Nat->Nat->Nat) (x y:Val):Option Val:=(nat? x).bind λa=>(nat? y).map λb=> .int (f a b:Nat)
def pl1 (x y:Val):Option Val:=bif x.isNone then some y else x.int?.bind λa=>bif y.isNone then some x else y.int?.map λb=> .int (if b<a then b else a)
def ti1 (x y:Val):Option Val:=bif x.isNone then some .none else x.int?.bind λa=>bif y.isNone then some .none else y.int?.map λb=> .int (a+b)
def pl3 (a b c d:Nat):Val:=frV (a*d+c*b) (b*d)
def ti3 (a b c d:Nat):Val:=frV (a*c) (b*d)
def pl4 (a b c d:Nat):Val:=if a*d<c*b then .tup [.int c,.int d] else .tup [.int a,.int b]
def zdw {α:Type} (a b c d e:α) (i:Nat):α:=bif i==0 then a else bif i==1 then b else bif i==2 then c else bif i==3 then d else e
def plF (i:Nat):Val->Val->Option Val:=zdw (onI λa b=>if b>a then b else a) pl1 (onI (· + ·)) (onF pl3) (onF pl4) i
def tiF (i:Nat):Val->Val->Option Val:=zdw (onI λa b=>if b<a then b else a) ti1 (onN (· * ·)) (onF ti3) (onF ti3) i
theorem fR {C:Nat->Prop} (i:Nat) (hi:i<5) (c0:C 0) (c1:C 1) (c2:C 2) (c3:C 3) (c4:C 4):C i:=by
 rcases i with _|_|_|_|_|i
 ·exact c0
 ·exact c1
 ·exact c2
 ·exact c3
 ·exact c4
 ·exact absurd hi (Q6 (Qn 5 i))
theorem zzs {a b:Nat} (ha:a<wB) (hb:b<wB):yY (.ofNat a) (.ofNat b)=true:=by
 unfold yY;rw [Jz];exact ⟨QW.mpr (Qa ha zeh),QW.mpr (Qa hb zeh)⟩
theorem yZ {a b:Nat} (ha:a<wB) (hb:b<wB):a*b<divB:=Qi (Nat.mul_lt_mul'' ha hb) (QC zef.1)
theorem tH {a b:Nat} (ha:a<wB) (hb:b<wB) (h:MH):gA .mul (.int a) (.int b) h=some (.int (a*b:Nat),h):=W.eq (zk0 (zzs ha hb) (two _ _))
theorem b0 {K f:Nat}{as:List Val}{z:Val} (hd:K+1<=d) (e: ∀d',c7 P0 200000 (d'+K+1) f as h=some (z,h)) (q:Q z h):WF P0 d f as h Q:=by
 refine (JX hd).elim λd' zq21=>?_;obtain rfl:=zq21;exact W.of (e d') q
theorem ziB {x y z:Val} (r:Val) (hd:3<=d) (e:onF pl3 x y=some z) (q:Q z h):WF P0 d 158 [r,x,y] h Q:=by
 obtain ⟨⟨a,b⟩,ea,e⟩:=bs e;obtain ⟨⟨c,e'⟩,eb,rfl⟩:=ms e;obtain ⟨rfl,a1,a2,a3⟩:=fr?_s ea;obtain ⟨rfl,b1,b2,b3⟩:=fr?_s eb;refine bJ (K:=2) hd (some r::some (.tup [.int a,.int b])::some (.tup [.int c,.int e'])::nn 6) jZ (by kernel_rfl) λd' h'=>?_;exact run (.c2<| .q (tH a1 b2)<| .c2<| .q (tH b1 a2)<| .c3<| .q (tH a2 b2)<| .q (gFr (n:=a*e'+c*b) (m:=b*e') h' (Qi (Nat.add_lt_add (yZ a1 b2) (yZ b1 a2)) zef.2) (KC a3 b3) (yZ a2 b2))<| .z (q)) (by kernel_rfl)
theorem zbA {x y z:Val} (r:Val) (hd:3<=d) (e:onF ti3 x y=some z) (q:Q z h):WF P0 d 159 [r,x,y] h Q:=by
 obtain ⟨⟨a,b⟩,ea,e⟩:=bs e;obtain ⟨⟨c,e'⟩,eb,rfl⟩:=ms e;obtain ⟨rfl,a1,a2,a3⟩:=fr?_s ea;obtain ⟨rfl,b1,b2,b3⟩:=fr?_s eb;refine bJ (K:=2) hd (some r::some (.tup [.int a,.int b])::some (.tup [.int c,.int e'])::nn 6) iS (by kernel_rfl) λd' h'=>?_;exact run (.c2<| .q (tH a1 b1)<| .c2<| .q (tH a2 b2)<| .q (gFr (n:=a*c) (m:=b*e') h' (Qi (Qi (yZ a1 b1) (Qf _ _)) zef.2) (KC a3 b3) (yZ a2 b2))<| .z (q)) (by kernel_rfl)
theorem zlC {x y z:Val}{s:Val} (hd:1<=d) (e:pl1 x y=some z) (q:Q z h):WF P0 d 148 [s,x,y] h Q:=by
 unfold pl1 at e;cases hx:x.isNone with
 |true=>
  rw [hx] at e;cases e;cases nv hx;exact b0 (K:=0) hd (λ_=>rfl) q
 |false=>
  rw [hx] at e;obtain ⟨a,ea,e⟩:=bs e;cases iv ea;cases hy:y.isNone with
  |true=>
   rw [hy] at e;cases e;cases nv hy;exact b0 (K:=0) hd (λ_=>rfl) q
  |false=>
   rw [hy] at e;obtain ⟨b,eb,rfl⟩:=ms e;cases iv eb;exact b0 (K:=0) hd (λ_=>rfl) q
theorem zk9 {x y z:Val}{s:Val} (hd:1<=d) (e:ti1 x y=some z) (q:Q z h):WF P0 d 149 [s,x,y] h Q:=by
 unfold ti1 at e;cases hx:x.isNone with
 |true=>
  rw [hx] at e;cases e;cases nv hx;exact b0 (K:=0) hd (λ_=>rfl) q
 |false=>
  rw [hx] at e;obtain ⟨a,ea,e⟩:=bs e;cases iv ea;cases hy:y.isNone with
  |true=>
   rw [hy] at e;cases e;cases nv hy;exact b0 (K:=0) hd (λ_=>rfl) q
  |false=>
   rw [hy] at e;obtain ⟨b,eb,rfl⟩:=ms e;cases iv eb;exact b0 (K:=0) hd (λ_=>rfl) q
theorem zlB {x y z:Val}{s:Val} (hd:1<=d) (e:onF pl4 x y=some z) (q:Q z h):WF P0 d 162 [s,x,y] h Q:=by
 obtain ⟨⟨a,b⟩,ea,e⟩:=bs e;obtain ⟨⟨c,e'⟩,eb,rfl⟩:=ms e;obtain ⟨rfl,a1,a2,a3⟩:=fr?_s ea;obtain ⟨rfl,b1,b2,b3⟩:=fr?_s eb;have q:Q (if a*e'<c*b then .tup [.int c,.int e'] else .tup [.int a,.int b]) h:=q;refine bJ (K:=0) hd (some s::some (.tup [.int a,.int b])::some (.tup [.int c,.int e'])::nn 6) jW (by kernel_rfl) λd' h'=>?_;by_cases hr:a*e'<c*b
 ·rw [if_pos hr] at q
  exact run (.c2<| .q (tH a1 b2)<| .c2<| .q (tH b1 a2)<| .c<| .t (decide_eq_true (Jw.mpr hr))<| .z (q)) (by kernel_rfl)
 ·rw [if_neg hr] at q
  exact run (.c2<| .q (tH a1 b2)<| .c2<| .q (tH b1 a2)<| .c<| .f (decide_eq_false (λh=>hr (Jw.mp h)))<| .z (q)) (by kernel_rfl)
theorem zod {i:Nat}{x y z:Val} (hi:i<5) (hd:3<=d) (e:plF i x y=some z) (q:Q z h):WM (Cxd P0 d) (.top (112+i)) oS [x,y] h0 h Q:=by
 revert e
 refine fR (C:=λi=>plF i x y=some z->WM (Cxd P0 d) (.top (112+i)) oS [x,y] h0 h Q) i hi (λe=>?_) (λe=>?_) (λe=>?_) (λe=>?_) (λe=>?_)
 ·obtain ⟨a,ea,e⟩:=bs (show onI _ x y=some z from e)
  obtain ⟨b,eb,rfl⟩:=ms e;cases iv ea;cases iv eb;exact a8 (f:=143) (self:=[.top 112]) rfl (b0 (K:=0) (Qa (Qn _ _) hd) (λ_=>rfl) q)
 ·exact a8 (f:=148) (self:=[.top 113]) rfl (zlC (Qa (Qn _ _) hd) e q)
 ·obtain ⟨a,ea,e⟩:=bs (show onI _ x y=some z from e)
  obtain ⟨b,eb,rfl⟩:=ms e;cases iv ea;cases iv eb;exact a8 (f:=153) (self:=[.top 114]) rfl (b0 (K:=0) (Qa (Qn _ _) hd) (λ_=>rfl) q)
 ·exact a8 (f:=158) (self:=[.top 115]) rfl (ziB _ hd e q)
 ·exact a8 (f:=162) (self:=[.top 116]) rfl (zlB (Qa (Qn _ _) hd) e q)
theorem znL {i:Nat}{x y z:Val} (hi:i<5) (hd:3<=d) (e:tiF i x y=some z) (q:Q z h):WM (Cxd P0 d) (.top (112+i)) qZ [x,y] h0 h Q:=by
 revert e
 refine fR (C:=λi=>tiF i x y=some z->WM (Cxd P0 d) (.top (112+i)) qZ [x,y] h0 h Q) i hi (λe=>?_) (λe=>?_) (λe=>?_) (λe=>?_) (λe=>?_)
 ·obtain ⟨a,ea,e⟩:=bs (show onI _ x y=some z from e)
  obtain ⟨b,eb,rfl⟩:=ms e;cases iv ea;cases iv eb;exact a8 (f:=144) (self:=[.top 112]) rfl (b0 (K:=0) (Qa (Qn _ _) hd) (λ_=>rfl) q)
 ·exact a8 (f:=149) (self:=[.top 113]) rfl (zk9 (Qa (Qn _ _) hd) e q)
 ·obtain ⟨a,ea,e⟩:=bs (show onN _ x y=some z from e)
  obtain ⟨b,eb,rfl⟩:=ms e;obtain ⟨rfl,h1⟩:=nat?_s ea;obtain ⟨rfl,h2⟩:=nat?_s eb;refine a8 (f:=154) (self:=[.top 114]) rfl (bJ (K:=0) (Qa (Qn _ _) hd) (some (.top 114)::some (.int a)::some (.int b)::nn 6) jY (by kernel_rfl) λd' _=>?_);exact run (.q (tH h1 h2)<| .z (q)) (by kernel_rfl)
 ·exact a8 (f:=159) (self:=[.top 115]) rfl (zbA _ hd e q)
 ·exact a8 (f:=159) (self:=[.top 116]) rfl (zbA _ hd e q)
def noF (i:Nat):Val:=zdw (.int 0) .none (.int 0) (.tup [.int 0,.int 1]) (.tup [.int 0,.int 1]) i
def onV (i:Nat):Val:=zdw (.int 1) (.int 0) (.int 1) (.tup [.int 1,.int 1]) (.tup [.int 1,.int 1]) i
theorem zt4 {i:Nat} (hi:i<5) (q:Q (noF i) h):WA P0 (.top (112+i)) mS h Q:=
 z7 (fR (C:=λi=>((P0.instAt (112+i)).bind λc=>lM P0 c mS)=some (noF i)) i hi rfl rfl rfl rfl rfl) q
theorem zop {i:Nat} (hi:i<5) (q:Q (onV i) h):WA P0 (.top (112+i)) zc5 h Q:=
 z7 (fR (C:=λi=>((P0.instAt (112+i)).bind λc=>lM P0 c zc5)=some (onV i)) i hi rfl rfl rfl rfl rfl) q
end
theorem iL {h t:MH}{j:Nat}:(h++t)[h.length+j]?=t[j]?:=by rw [JM (Qf _ _),Yn]
theorem zeW {h t:MH}{j:Nat}{o:MObj}:(h++t).set (h.length+j) o=h++t.set j o:=by rw [ZQ _ _ (Qf _ _),Yn]
structure Rg where
 i:Nat
 hi:i<5
 α:Type
 deq:DecidableEq α
 e:α->Val
 zero:α
 one:α
 add:α->α->α
 mul:α->α->α
 D:Nat->Nat->α->Prop
 add_comm: ∀a b,add a b=add b a
 add_assoc: ∀a b c,add (add a b) c=add a (add b c)
 zero_add: ∀a,add zero a=a
 mul_comm: ∀a b,mul a b=mul b a
 mul_assoc: ∀a b c,mul (mul a b) c=mul a (mul b c)
 one_mul: ∀a,mul one a=a
 zero_mul: ∀a,mul zero a=zero
 mul_add: ∀a b c,mul a (add b c)=add (mul a b) (mul a c)
 noE:noF i=e zero
 onE:onV i=e one
 isv: ∀a,isV (e a) (.top 120)=some false
 veq_ok: ∀h a b,veq h (e a) (e b)=some (decide (a=b))
 D_mono: ∀ {p q k l a},p<=q->k<=l->D p k a->D q l a
 D_zero:D 0 0 zero
 D_one:D 0 0 one
 D_add: ∀ {p k a b},D p k a->D p k b->D p (k+1) (add a b)
 D_mul: ∀ {p q k l a b},D p k a->D q l b->D (p+q) (k+l) (mul a b)
 plus_ok: ∀ {p k a b},D p k a->D p k b->4*p+k<=3800->plF i (e a) (e b)=some (e (add a b))
 times_ok: ∀ {p q k l a b},D p k a->D q l b->4*(p+q)+(k+l)<=3800->tiF i (e a) (e b)=some (e (mul a b))
 need_ok: ∀ {p k a d h0 h}{Q:Val->MH->Prop},3<=d->D p k a->4*p+k<=3800->Q (e a) h->WM (Cxd P0 d) (.top (112+i)) zfD [e a] h0 h Q
 star_ok: ∀ {d h0 h}{Q:Val->MH->Prop},3<=d->Q (e one) h->WM (Cxd P0 d) (.top (112+i)) zkb [e zero] h0 h Q
section
variable {d:Nat}{h h0:MH}{Q:Val->MH->Prop} (R:Rg)
theorem Rg.plus {p k:Nat}{a b:R.α} (hd:3<=d) (ha:R.D p k a) (hb:R.D p k b) (hl:4*p+k<=3800) (q:Q (R.e (R.add a b)) h):WM (Cxd P0 d) (.top (112+R.i)) oS [R.e a,R.e b] h0 h Q:=zod R.hi hd (R.plus_ok ha hb hl) q
theorem Rg.times {p p' k l:Nat}{a b:R.α} (hd:3<=d) (ha:R.D p k a) (hb:R.D p' l b) (hl:4*(p+p')+(k+l)<=3800) (q:Q (R.e (R.mul a b)) h):WM (Cxd P0 d) (.top (112+R.i)) qZ [R.e a,R.e b] h0 h Q:=znL R.hi hd (R.times_ok ha hb hl) q
theorem Rg.nought (q:Q (R.e R.zero) h):WA P0 (.top (112+R.i)) mS h Q:=zt4 R.hi (R.noE▸q)
theorem Rg.oneW (q:Q (R.e R.one) h):WA P0 (.top (112+R.i)) zc5 h Q:=zop R.hi (R.onE▸q)
end
section
variable {R:Rg}{d:Nat}
theorem Rg.pl {p k:Nat}{a b:R.α} (hd:3<=d) (ha:R.D p k a) (hb:R.D p k b) (hl:4*p+k<=3800) (h:MH):bI (Cxd P0 d) (.top (112+R.i)) oS [R.e a,R.e b] h h=some (R.e (R.add a b),h):=W.eq (R.plus hd ha hb hl ⟨rfl,rfl⟩)
theorem Rg.ti {p p' k l:Nat}{a b:R.α} (hd:3<=d) (ha:R.D p k a) (hb:R.D p' l b) (hl:4*(p+p')+(k+l)<=3800) (h:MH):bI (Cxd P0 d) (.top (112+R.i)) qZ [R.e a,R.e b] h h=some (R.e (R.mul a b),h):=W.eq (R.times hd ha hb hl ⟨rfl,rfl⟩)
theorem Rg.nd {p k:Nat}{a:R.α} (hd:3<=d) (ha:R.D p k a) (hl:4*p+k<=3800) (h:MH):bI (Cxd P0 d) (.top (112+R.i)) zfD [R.e a] h h=some (R.e a,h):=W.eq (R.need_ok hd ha hl ⟨rfl,rfl⟩)
theorem Rg.on (R:Rg) (h:MH):getAttr P0 h (.top (112+R.i)) zc5=some (R.e R.one):=Wo.eq (R.oneW (Q:=λa _=>a=_) rfl)
theorem Rg.no (R:Rg) (h:MH):getAttr P0 h (.top (112+R.i)) mS=some (R.e R.zero):=Wo.eq (R.nought (Q:=λa _=>a=_) rfl)
theorem Rg.qe (a b:R.α) (h:MH):veq h (R.e a) (R.e b)=some (@decide (a=b) (R.deq a b)):=R.veq_ok h a b
theorem Rg.yes {a b:R.α} (h:a=b): @decide (a=b) (R.deq a b)=true:= @decide_eq_true _ (R.deq a b) h
theorem Rg.not {a b:R.α} (h: ¬a=b): @decide (a=b) (R.deq a b)=false:= @decide_eq_false _ (R.deq a b) h
end
theorem dT {p:Prop}{i:Decidable p} (h: @decide p i=true):p:= @of_decide_eq_true p i h
theorem dF {p:Prop}{i:Decidable p} (h: @decide p i=false): ¬p:= @of_decide_eq_false p i h
theorem y2 {k n:Nat} (hk:k<=3800) (hn:n<=2 ^ k):n<wB:=Qk hn (YD (by decide) (Qi (QK hk) (Qn _ _)))
theorem nat?_of {n:Nat} (hn:n<wB):nat? (.int n)=some n:=by
 show grd _ _=_;rw [zgm (by rw [Jz];exact ⟨decide_eq_true (Zm _),QW.mpr hn⟩),ZR]
def great:Nat:=10 ^ 4000
theorem zeg:wB<=great:=by decide+kernel
theorem mW {n:Nat} (hn:n<wB):decide ((10 ^ 4000:Int)<=n)=false:=decide_eq_false λhg=>absurd (Yp.mp (show ((great:Nat):Int)<=(n:Int) from hg)) (Xz.mpr (Qi hn zeg))
theorem zgM {d n:Nat}{h:MH}{Q:Val->MH->Prop}{s:Val} (hd:1<=d) (hn:n<wB) (q:Q (.int n) h):WF P0 d 152 [s,.int n] h Q:=by
 refine bJ (K:=0) hd (some s::some (.int n)::nn 6) lL (by kernel_rfl) λd' h'=>?_;exact run (.c4<| .c2<| .f (mW hn)<| .z (q)) (by kernel_rfl)
def zbm:Rg where
 i:=2
 hi:=by decide
 α:=Nat
 deq:=inferInstance
 e:=λn=> .int n
 zero:=0
 one:=1
 add:=(· + ·)
 mul:=(· * ·)
 D:=λp k n=>n<=2 ^ k
 add_comm:=J6
 add_assoc:=Q1
 zero_add:=Jv
 mul_comm:=KR
 mul_assoc:=YU
 one_mul:=JV
 zero_mul:=Nat.zero_mul
 mul_add:=Wc
 noE:=rfl
 onE:=rfl
 isv:=λ_=>rfl
 veq_ok:=λh a b=>mI.trans (congrArg some (by
  by_cases hab:a=b
  ·subst hab;simp
  ·rw [decide_eq_false hab,beq_false_of_ne];exact λe=>hab (Ym.inj e)))
 D_mono:=λ_ hk ha=>Qa ha (YE (by decide) hk)
 D_zero:=by decide
 D_one:=by decide
 D_add:=λha hb=>by exact Qa (QA ha hb) (Qt (Nat.mul_two _).symm)
 D_mul:=λha hb=>by rw [Ya];exact XA ha hb
 plus_ok:=λ_ _ _=>rfl
 times_ok:=λ{p q k l a b} ha hb hl=>by
  show onN (· * ·) (.int a) (.int b)=_;unfold onN;rw [nat?_of (y2 (k:=k) (Qa (Qf _ _) (Qa (Qn _ _) hl)) ha),nat?_of (y2 (k:=l) (Qa (Qn _ _) (Qa (Qn _ _) hl)) hb)];rfl
 need_ok:=λ{p k a d h0 h Q} hd ha hl q=>a8 (f:=152) (self:=[.top 114]) rfl (zgM (Qa (Qn _ _) hd) (y2 (k:=k) (Qa (Qn _ _) hl) ha) q)
 star_ok:=λ{d h0 h Q} hd q=>a8 (f:=155) (self:=[.top 114]) rfl (b0 (K:=0) (Qa (Qn _ _) hd) (λ_=>rfl) q)
section
variable {d:Nat}{h h0:MH}{Q:Val->MH->Prop}
def marks:List Nat:= [32,9,10,58,47,95,91,93,62,35,59,63,61]
def tF (c:Nat):Bool:=!marks.contains c && !Xk ⟨#[c]⟩
theorem zmG {c:Nat} (hd:1<=d) (hc:tF c=true) (q:Q (.bool true) h):WF P0 d 101 [.str [c]] h Q:=by
 refine bJ (K:=0) hd (some (.str [c])::nn 6) e9 (by kernel_rfl) λd' h'=>?_;exact run (.c4<| .c3<| .t ((Qb.mp hc).1)<| .c2<| .z ((show Q (.bool (!Xk ⟨#[c]⟩)) h by rw [(Qb.mp hc).2];exact q))) (by kernel_rfl)
theorem zbR {c:Nat} (hd:2<=d) (hc:tF c=true) (q:Q (.str [c]) h):WF P0 d 103 [.str [c]] h Q:=by
 refine bJ (K:=1) hd (some (.str [c])::nn 6) dR (by kernel_rfl) λd' h'=>?_;exact run (.p (fn (as:=[.str [c]]) rfl (zmG h' hc (two (.bool true) h)))<| .c2<| .z (q)) (by kernel_rfl)
theorem foS {c:Cx}{x:Nat}{e:Ex}{b:List Sm}{s:List Nat} (F:Option Val->Internal.Frame) (hs:s.length<c.fuel) (he:WE c (F none) e h λv g=>v= .str s/\g=h)
  (step: ∀a R o,a∈s->R .nx (F (some (.str [a]))) h->WSs c b ((F o).set x (some (.str [a]))) h R): ∃o,exec c (.fo [x] false e b) (F none) h=some ((.nx,F o),h):=by
 have w:WS c (.fo [x] false e b) (F none) h λfl f g=> ∃o,fl= .nx/\f=F o/\g=h:=vE (he.mono λv g q=>by
  obtain rfl:=q.1;obtain rfl:=q.2;refine ⟨.sq s,s.map λc=> .str [c],rfl,by rw [Qe];exact hs,λ_ f g'=>g'=g/\∃o,f=F o,⟨rfl,none,rfl⟩,λi _ _ _=>by rw [Qo];rfl,λi v hv f g' q=>?_,λf g' q=>q.2.elim λo e=>⟨o,rfl,e,q.1⟩⟩;obtain ⟨rfl,o,rfl⟩:=q;rw [Qo] at hv;obtain ⟨a,ha,rfl⟩:=ms hv;exact c8 (step a _ o (Qd ha) ⟨rfl,_,rfl⟩))
 obtain ⟨⟨fl,f⟩,g,e,o,q1,q2,q3⟩:=W.get w;cases q1;cases q2;cases q3;exact ⟨o,e⟩
theorem zfl {s:List Nat} (hd:3<=d) (hs: ∀c∈s,tF c=true) (hl:s.length<1000) (q:Q (.str s) h):WF P0 d 134 [.str s] h Q:=by
 refine bJ (K:=2) hd (some (.str s)::nn 7) eZ (by kernel_rfl) λd' h'=>?_;obtain ⟨o,e⟩:=foS (h:=h) (c:=Cxd P0 d') (x:=1) (e:=.var 0) (b:=[.expr (.call (.lit (.top 103)) [.var 1])]) (λo=>some (.str s)::o::nn 6) (Q8 hl (by show 1000<200000;decide)) (by exact bM (.z (two (.str s) h)) (by kernel_rfl)) λa R o ha q=>by
  exact run (.p (fn (as:=[.str [a]]) rfl (zbR h' (hs a ha) (two (.str [a]) h)))<| .z (q)) (by kernel_rfl)
 exact run (.c3<| .s (e)<| .z (q)) (by kernel_rfl)
end
section
variable {d:Nat}{h h0:MH}{Q:Val->MH->Prop}
def lab (s:List Nat):Prop:=s= []\/∃c,s= [c]/\tF c=true
theorem zbS {s:List Nat} (hd:3<=d) (hs:lab s) (q:Q (.str s) h):WF P0 d 119 [.str s] h Q:=by
 refine bJ (K:=2) hd (some (.str s)::nn 6) eG (by kernel_rfl) λd' h'=>?_;rcases hs with rfl| ⟨c,rfl,hc⟩
 ·exact run (.c2<| .z (q)) (by kernel_rfl)
 ·exact run (.c2<| .p (fn (as:=[.str [c]]) rfl (zbR h' hc (two (.str [c]) h)))<| .z (q)) (by kernel_rfl)
theorem ziH {a b c:Int}{x:Val} (hd:1<=d) (h1:b<=a) (h2:a<=c) (q:Q (.int a) h):WF P0 d 117 [.int a,.int b,.int c,x] h Q:=by
 refine bJ (K:=0) hd (some (.int a)::some (.int b)::some (.int c)::some x::nn 6) eH (by kernel_rfl) λd' h'=>?_;exact run (.c4<| .f (decide_eq_false (KV.mpr h1))<| .c<| .f (decide_eq_false (KV.mpr h2))<| .z (q)) (by kernel_rfl)
theorem zlQ {s:List Nat} (hd:4<=d) (hs: ∀c∈s,tF c=true) (hl:s.length<=200) (q:Q .none h):WF P0 d 130 [.str s] h Q:=by
 refine bJ (K:=3) hd (some (.str s)::nn 6) fV (by kernel_rfl) λd' h'=>?_;exact run (.p (fn (as:=[.str s]) rfl (zfl h' hs (Qi (QK hl) (Qn _ _)) (two (.str s) h)))<| .c2<| .f (decide_eq_false (p:=(200:Int)<s.length) (by lia))<| .z (q)) (by kernel_rfl)
end
abbrev dY:Nat:=1919512167
abbrev aQ:Nat:=1634886515
abbrev cQ:Nat:=1701733491
abbrev hY:Nat:=495873782388
abbrev kH:Nat:=439855772532
abbrev m3:Nat:=104880676367988
abbrev cK:Nat:=504397587826
abbrev cX:Nat:=465726563698
abbrev mZ:Nat:=131277443786868
abbrev gR:Nat:=127961880028532
theorem zuN {a b:List Val} (e:some (MObj.list a)=some (.list b)):a=b:=by cases e;rfl
theorem zvU: ∀ {as bs:List Nat},as.map Val.ref=bs.map Val.ref->as=bs:=by
 intro as
 induction as with
 |nil=>intro bs e;cases bs with|nil=>rfl|cons _ _=>cases e
 |cons a as ih=>
  intro bs e;cases bs with
  |nil=>cases e
  |cons b bs=>injection e with e1 e2;injection e1 with e1;rw [e1,ih e2]
theorem ziD {as bs:List Nat} (e:some (MObj.list (as.map .ref))=some (.list (bs.map .ref))):as=bs:=zvU (zuN e)
structure Ar (α:Type) where
 up:List Nat
 lo:List Nat
 w:α
 t:Nat
structure Mc (α:Type) where
 arcs:List (List (Ar α))
 ends:List α
 start:Nat
 first:α
 cnt:Nat
structure Ly where
 m:Nat
 aA:Nat
 aE:Nat
 rows:List Nat
section
variable (R:Rg)
def cS (a:Ar R.α):MObj:= .inst 118 [(cK,.str a.up),(cX,.str a.lo),(mZ,R.e a.w),(gR,.int a.t)]
def mO (L:Ly) (M:Mc R.α):MObj:= .inst 121 [(dY,.top (112+R.i)),(aQ,.ref L.aA),(cQ,.ref L.aE),(hY,.int M.start),(kH,R.e M.first),(m3,.int M.cnt)]
def g7 (h:MH) (r:Nat) (xs:List (Ar R.α)):Prop:= ∃as:List Nat,h[r]?=some (.list (as.map .ref))/\as.length=xs.length/\∀ (j a:Nat) (x:Ar R.α),as[j]?=some a->xs[j]?=some x->h[a]?=some (cS R x)
def Dst (h:MH) (rows:List Nat) (m:Nat):Prop:= ∃ads:List (List Nat),ads.flatten.Nodup/\(∀a∈ads.flatten,m<a)/\rows.map (λr=>h[r]?)=ads.map λas=>some (.list (as.map .ref))
structure IsM (h:MH) (L:Ly) (M:Mc R.α):Prop where
 obj:h[L.m]?=some (mO R L M)
 arcs:h[L.aA]?=some (.list (L.rows.map .ref))
 ends:h[L.aE]?=some (.list (M.ends.map R.e))
 len:L.rows.length=M.arcs.length
 lenE:M.ends.length=M.arcs.length
 rows: ∀ (k r:Nat) (xs:List (Ar R.α)),L.rows[k]?=some r->M.arcs[k]?=some xs->g7 R h r xs
 nd:(L.aA::L.aE::L.rows).Nodup
 lim:M.arcs.length<=10000
 ct:(M.arcs.map JK).sum=M.cnt
 cl:M.cnt<=100000
 ds:Dst h L.rows L.m
end
theorem Dst.to {h h':MH}{rows:List Nat}{m:Nat} (D:Dst h rows m) (e: ∀r∈rows,∀vs,h[r]?=some (.list vs) ->h'[r]?=some (.list vs)):Dst h' rows m:=by
 refine Ji D λads zq3=>?_;refine ⟨ads,zq3.1,zq3.2.1,(Ja λr hr=>?_).trans zq3.2.2⟩;have hm:h[r]?∈rows.map λr=>h[r]?:=QF.mpr ⟨r,hr,rfl⟩;rw [zq3.2.2] at hm;refine (QF.mp hm).elim λas zq2=>?_;rw [<-zq2.2];exact e r hr _ zq2.2.symm
theorem wD {α:Type}{l:List (List α)}{xs:List α} (h:xs∈l):xs.length<=(l.map JK).sum:=by
 induction l with
 |nil=>exact absurd h Qq
 |cons y l ih=>
  rw [Qz,Z8];rcases QE.mp h with rfl|h
  ·exact Qf _ _
  ·have:=ih h;exact Km this
theorem zbX {α:Type}{l:List (List α)}{s:Nat}{a:α} (hs:s<l.length):((l.set s (l[s]++ [a])).map JK).sum=(l.map JK).sum+1:=by
 induction l generalizing s with
 |nil=>exact absurd hs (QX _)
 |cons y l ih=>
  cases s with
  |zero=>simp;exact JL _ _ _
  |succ s=>
   have:=ih (s:=s) (J7 hs)
   simp only [List.set_cons_succ,List.getElem_cons_succ,Qz,Z8,this];exact K8 (Q1 _ _ _)
theorem IsM.cr {R:Rg}{h:MH}{L:Ly}{M:Mc R.α} (I:IsM R h L M): ∀xs∈M.arcs,xs.length<=M.cnt:=λxs hx=>I.ct▸wD hx
structure cU (h h':MH) (S:List Nat):Prop where
 len:h.length<=h'.length
 at': ∀ (a:Nat) (o:MObj),a∉S->h[a]?=some o->h'[a]?=some o
def own (L:Ly):List Nat:=L.m::L.aA::L.aE::L.rows
theorem cU.refl {h:MH}{S:List Nat}:cU h h S:=⟨Qj _,λ_ _ _ e=>e⟩
theorem cU.trans {h h' h'':MH}{S:List Nat} (x:cU h h' S) (y:cU h' h'' S):cU h h'' S:=⟨Qa x.len y.len,λa o hs e=>y.at' a o hs (x.at' a o hs e)⟩
theorem cU.sub {h h':MH}{S T:List Nat} (x:cU h h' S) (hs: ∀a∈S,a∈T):cU h h' T:=⟨x.len,λa o ht e=>x.at' a o (λq=>ht (hs a q)) e⟩
theorem cU.app {h t:MH}{S:List Nat}:cU h (h++t) S:=⟨by rw [Qv];exact Qf _ _,λ_ _ _ e=>aB e⟩
theorem cU.set {h:MH}{a:Nat}{o:MObj}:cU h (h.set a o) [a]:=⟨by rw [QL];exact Qj _,λb x hb e=>aZ (λq=>hb (q▸ .head _)) e⟩
section
variable {R:Rg}{d:Nat}{h h0:MH}{Q:Val->MH->Prop}{L:Ly}{M:Mc R.α}
theorem g7.mono {r:Nat}{xs:List (Ar R.α)}{h':MH} (x:g7 R h r xs) (hk: ∀ (a:Nat) (o:MObj),h[a]?=some o->(∃x,o=cS R x)\/a=r->h'[a]?=some o):g7 R h' r xs:=by
 refine Ji x λas zq1=>?_;exact ⟨as,hk _ _ zq1.1 (.inr rfl),zq1.2.1,λj a x ha hx=>hk _ _ (zq1.2.2 j a x ha hx) (.inl ⟨x,rfl⟩)⟩
theorem IsM.app {t:MH} (I:IsM R h L M):IsM R (h++t) L M:=
 ⟨aB I.obj,aB I.arcs,aB I.ends,I.len,I.lenE,λk r xs hr hx=>(I.rows k r xs hr hx).mono λa o e _=>aB e,I.nd,I.lim,I.ct,I.cl,I.ds.to λ_ _ _ e=>aB e⟩
theorem c6 (I:IsM R h L M):getAttr P0 h (.ref L.m) dY=some (.top (112+R.i)):=ga I.obj rfl rfl
theorem lG (I:IsM R h L M):getAttr P0 h (.ref L.m) cQ=some (.ref L.aE):=ga I.obj rfl rfl
theorem dM (I:IsM R h L M):getAttr P0 h (.ref L.m) aQ=some (.ref L.aA):=ga I.obj rfl rfl
theorem jJ (I:IsM R h L M):getAttr P0 h (.ref L.m) hY=some (.int M.start):=ga I.obj rfl rfl
theorem nZ (I:IsM R h L M):getAttr P0 h (.ref L.m) kH=some (R.e M.first):=ga I.obj rfl rfl
theorem zds (I:IsM R h L M) (d:Nat):aM (Cxd P0 d) (.bi 7103854) [.ref L.aA] h=some (.int M.arcs.length,h):=W.eq (zbo I.arcs (by rw [Qe,I.len];exact two _ _))
theorem zii (hd:1<=d) (I:IsM R h L M) (q:Q (.int M.arcs.length) h):WF P0 d 174 [.ref L.m] h Q:=by
 refine bJ (K:=0) hd (some (.ref L.m)::nn 6) iP (by kernel_rfl) λd' h'=>?_;exact run (.v (dM I)<| .p (zds I d')<| .z (q)) (by kernel_rfl)
theorem zlP {k:Nat} (hd:2<=d) (I:IsM R h L M) (hk:k<M.arcs.length) (q:Q (.int k) h):WF P0 d 170 [.ref L.m,.int k] h Q:=by
 refine bJ (K:=1) hd (some (.ref L.m)::some (.int k)::nn 6) dS (by kernel_rfl) λd' h'=>?_;exact run (.v (dM I)<| .p (zds I d')<| .c<| .p (fn (as:=[.int k,.int 0,.int ((M.arcs.length:Int) -1),.str [115,116,97,116,101]]) rfl (ziH h' (Zm _) (by lia) (two (.int k) h)))<| .z (q)) (by kernel_rfl)
theorem zzA {n f:Nat} (I:IsM R h L M) (hn:l8 [(dY,.top (112+R.i)),(aQ,.ref L.aA),(cQ,.ref L.aE),(hY,.int M.start),(kH,R.e M.first),(m3,.int M.cnt)] n=none) (hm:oT P0 121 n=some f):dK P0 h (.ref L.m) n=some (f,[.ref L.m]):=b8 I.obj hn hm
end
section
variable {R:Rg}{d:Nat}{h h0:MH}{Q:Val->MH->Prop}{L:Ly}{M:Mc R.α}
theorem ne_of {a b:Nat}{o p:MObj} (e1:h[a]?=some o) (e2:h[b]?=some p) (hn:o≠p):a≠b:=λq=>hn (by subst q;exact Qx.inj (e1.symm.trans e2))
theorem IsM.mA (I:IsM R h L M):L.m≠L.aA:=ne_of I.obj I.arcs nofun
theorem IsM.mE (I:IsM R h L M):L.m≠L.aE:=ne_of I.obj I.ends nofun
theorem IsM.AE (I:IsM R h L M):L.aA≠L.aE:=λq=>(Qw.mp I.nd).1 (q▸ .head _)
theorem IsM.A_nr (I:IsM R h L M):L.aA∉L.rows:=λq=>(Qw.mp I.nd).1 (.tail _ q)
theorem IsM.E_nr (I:IsM R h L M):L.aE∉L.rows:=(Qw.mp (Qw.mp I.nd).2).1
theorem IsM.nr (I:IsM R h L M):L.rows.Nodup:=(Qw.mp (Qw.mp I.nd).2).2
theorem IsM.row (I:IsM R h L M) {k:Nat} (hk:k<M.arcs.length): ∃r,L.rows[k]?=some r/\g7 R h r M.arcs[k]:=by
 exact ⟨_,Qc (by rw [I.len];exact hk:k<L.rows.length),I.rows k _ _ (Qc (by rw [I.len];exact hk:k<L.rows.length)) (Qc hk)⟩
theorem IsM.r_lt (I:IsM R h L M) {r:Nat} (hr:r∈L.rows):r<h.length:=by
 obtain ⟨k,hk,rfl⟩:=Zf.mp hr;obtain ⟨r,h1,as,h2,_⟩:=I.row (k:=k) (by rw [<-I.len];exact hk);rw [Qc hk] at h1;cases h1;exact bT h2
theorem IsM.m_nr (I:IsM R h L M):L.m∉L.rows:=λq=>by
 obtain ⟨k,hk,e⟩:=Zf.mp q;obtain ⟨r,h1,as,h2,_⟩:=I.row (k:=k) (by rw [<-I.len];exact hk);rw [Qc hk,e] at h1;cases h1;exact ne_of I.obj h2 nofun rfl
theorem zir {n:Nat} (hd:1<=d) (I:IsM R h L M) (hn:M.arcs.length+n<=20000) (q:Q .none h):WF P0 d 167 [.ref L.m,.int n] h Q:=by
 refine bJ (K:=0) hd (some (.ref L.m)::some (.int n)::nn 6) dU (by kernel_rfl) λd' h'=>?_;exact run (.v (dM I)<| .p (zds I d')<| .c2<| .f (decide_eq_false (p:=(20000:Int)<M.arcs.length+n) (by lia))<| .z (q)) (by kernel_rfl)
theorem znl (z:Cx) {a:Nat}{vs us:List Val} (v:Val) (h0a:h0[a]?=some (.list us)) (ha:h[a]?=some (.list vs)) (hl:vs.length<1000000):bI z (.ref a) nAppend [v] h0 h=some (.none,h.set a (.list (vs++ [v]))):=W.eq (uF h0a ha hl (two _ _))
theorem zkk {n:Nat} (hd:1<=d) (I:IsM R h L M) (hn:M.arcs.length+n<=20000):bI (Cxd P0 d) (.ref L.m) 450661264077055929053037 [.int n] h h=some (.none,h):=me (b8 I.obj rfl rfl) (zir hd I hn (two _ _))
def Ly.more (L:Ly) (r:Nat):Ly:= {L with rows:=L.rows++ [r]}
def Mc.more (M:Mc R.α):Mc R.α:= {M with arcs:=M.arcs++ [[]],ends:=M.ends++ [R.zero]}
def zaS (h:MH) (L:Ly):MH:=(h++ [MObj.list []]).set L.aA (MObj.list (L.rows.map Val.ref++ [Val.ref h.length]))
def mT (R:Rg) (h:MH) (L:Ly) (M:Mc R.α):MH:=(zaS h L).set L.aE (MObj.list (M.ends.map R.e++ [R.e R.zero]))
section
variable {a:Nat}{o:MObj}
theorem kD (e:(h++ [MObj.list []])[a]?=some o) (h1:a≠L.aA):(zaS h L)[a]?=some o:=aZ (JE h1) e
theorem kC (e:(h++ [MObj.list []])[a]?=some o) (h1:a≠L.aA) (h2:a≠L.aE):(mT R h L M)[a]?=some o:=aZ (JE h2) (kD e h1)
theorem ziT (I:IsM R h L M) {r:Nat}{xs:List (Ar R.α)} (hm:r∈L.rows) (hr:g7 R h r xs):g7 R (mT R h L M) r xs:=hr.mono λa o e ho=>kC (aB e) (ho.elim (λ⟨_,q⟩=>ne_of e I.arcs (q▸nofun)) λq p=>I.A_nr (p▸q▸hm)) (ho.elim (λ⟨_,q⟩=>ne_of e I.ends (q▸nofun)) λq p=>I.E_nr (p▸q▸hm))
end
theorem nX {α:Type}{l:List α}{x:α}:(l++ [x]).length=l.length+1:=by rw [Qv,Ko]
theorem zch {α β:Type}{l:List α}{m:List β}{x z:α}{y w:β}{k:Nat} (hl:l.length=m.length) (h1:(l++ [x])[k]?=some z) (h2:(m++ [y])[k]?=some w):(l[k]?=some z/\m[k]?=some w)\/(z=x/\w=y):=by
 by_cases hk:k<l.length
 ·rw [JQ hk] at h1
  rw [JQ (hl▸hk)] at h2;exact .inl ⟨h1,h2⟩
 ·have e:k=l.length:=Zx (QP (Qi (aH h1) (Qt nX))) (ZV.mp hk)
  subst e;rw [JM (Qj _),ZK] at h1;rw [hl,JM (Qj _),ZK] at h2;exact .inr ⟨(Qx.inj h1).symm,(Qx.inj h2).symm⟩
theorem zfT (I:IsM R h L M) (k r:Nat) (xs:List (Ar R.α)) (hr:(L.rows++ [h.length])[k]?=some r) (hx:(M.arcs++ [[]])[k]?=some xs):g7 R (mT R h L M) r xs:=by
 rcases zch I.len hr hx with ⟨h1,h2⟩| ⟨rfl,rfl⟩
 ·exact ziT I (Qd h1) (I.rows k r xs h1 h2)
 ·exact ⟨[],kC aV (JI (bT I.arcs)) (JI (bT I.ends)),rfl,λj a x ha=>nomatch ha⟩
theorem ziS (I:IsM R h L M):(L.aA::L.aE::(L.rows++ [h.length])).Nodup:=by
 rw [<-ZG,<-ZG];refine Zg.mpr ⟨I.nd,Qw.mpr ⟨Qq,.nil⟩,λa ha b hb e=>?_⟩;rw [Qu.mp hb] at e;subst e;rcases QE.mp ha with e|ha
 ·exact absurd (e▸bT I.arcs) (Q2 _)
 ·rcases QE.mp ha with e|ha
  ·exact absurd (e▸bT I.ends) (Q2 _)
  ·exact absurd (I.r_lt ha) (Q2 _)
theorem ziU (I:IsM R h L M):Dst (mT R h L M) (L.rows++ [h.length]) L.m:=by
 obtain ⟨ads,n,b,q⟩:=I.ds.to (h':=mT R h L M) λr hr o e=>kC (aB e) (λq=>I.A_nr (q▸hr)) λq=>I.E_nr (q▸hr);refine ⟨ads++ [[]],by rw [YR,Q7];exact n,by rw [YR,Q7];exact b,?_⟩;rw [Qy,Qy,q,KZ,kC aV (JI (bT I.arcs)) (JI (bT I.ends))];rfl
theorem IsM.more (I:IsM R h L M) (hl:M.arcs.length<10000):IsM R (mT R h L M) (L.more h.length) M.more where
 obj:=kC (aB I.obj) I.mA I.mE
 arcs:=(aZ (JE I.AE) (bS (aB I.arcs))).trans (by rw [<-KZ,<-Qy];rfl)
 ends:=(bS (kD (aB I.ends) (JE I.AE))).trans (by rw [<-KZ,<-Qy];rfl)
 len:=nX.trans ((congrArg (· +1) I.len).trans nX.symm)
 lenE:=nX.trans ((congrArg (· +1) I.lenE).trans nX.symm)
 rows:=zfT I
 nd:=ziS I
 lim:=(show (M.arcs++ [[]]).length<=10000 from nX▸hl)
 ct:=(show ((M.arcs++ [[]]).map JK).sum=M.cnt by rw [Qy,KL];exact I.ct)
 cl:=I.cl
 ds:=ziU I
theorem zdk:cU h (mT R h L M) [L.aA,L.aE]:=⟨by unfold mT zaS;rw [QL,QL,nX];exact Ju _,λa o ha e=>kC (aB e) (λq=>ha (q▸ .head _)) λq=>ha (q▸ .tail _ (.head _))⟩
theorem xY (hd:2<=d) (I:IsM R h L M) (hl:M.arcs.length<10000) (q: ∀h',IsM R h' (L.more h.length) M.more->cU h h' [L.aA,L.aE]->Q (.int M.arcs.length) h'):WF P0 d 168 [.ref L.m] h Q:=by
 refine bJ (K:=1) hd (some (.ref L.m)::nn 6) gW (by kernel_rfl) λd' h'=>?_;have J:=I.more hl;have e4:((M.more.arcs.length:Nat):Int) -1=M.arcs.length:=by
  rw [show M.more.arcs.length=M.arcs.length+1 from nX,Xs];exact Int.add_sub_cancel ..
 exact run (.p (zkk (n:=1) h' I (Qa (Jq (QC hl)) (by decide)))<| .v (dM I)<| .at (h++ [MObj.list []])<| .p (znl (Cxd P0 d') (.ref h.length) I.arcs (aB (t:=[MObj.list []]) I.arcs) (by rw [Qe,I.len];exact Q8 hl (by decide)))<| .v ((ga (kD (aB I.obj) I.mA:(zaS h L)[L.m]?=some (mO R L M)) rfl rfl:getAttr P0 (zaS h L) (.ref L.m) cQ=some (.ref L.aE)))<| .v ((ga (kD (aB I.obj) I.mA:(zaS h L)[L.m]?=some (mO R L M)) rfl rfl:getAttr P0 (zaS h L) (.ref L.m) dY=some (.top (112+R.i))))<| .w (R.no)<| .p (znl (Cxd P0 d') (R.e R.zero) (kD (h:=h) (aB I.ends) (JE I.AE)) (kD (h:=h) (aB I.ends) (JE I.AE)) (by rw [Qe,I.lenE];exact Q8 hl (by decide)))<| .v (dM J)<| .p (zds J d')<| .c<| .z ((show Q (.int ((M.more.arcs.length:Int) -1)) (mT R h L M) by rw [e4];exact q _ J zdk))) (by kernel_rfl)
end
section
variable {R:Rg}{d:Nat}{h h0:MH}{Q:Val->MH->Prop}{L:Ly}{M:Mc R.α}
theorem pO {a k n:Nat}{fs fs':List (Nat×Val)}{v:Val}{o:MObj} (ha:h[a]?=some o) (hf:P0.hasFld k n=true) (hl:fs.length<400) (e:rG fs n v=fs'):setAttr P0 (h.set a (.inst k fs)) (.ref a) n v=some (h.set a (.inst k fs')):=(vL (bS ha) hf hl).trans (by rw [Xl,e])
theorem zg3 {a:Nat}{up lo:List Nat}{w:R.α}{t:Nat} (hd:1<=d) (ha:h[a]?=some (.inst 118 [])) (q:Q .none (h.set a (cS R ⟨up,lo,w,t⟩))):WF P0 d 166 [.ref a,.str up,.str lo,R.e w,.int t] h Q:=by
 refine bJ (K:=0) hd (some (.ref a)::some (.str up)::some (.str lo)::some (R.e w)::some (.int t)::nn 6) oY (by kernel_rfl) λd' h'=>?_;exact run (.h ((vL ha rfl (by decide):setAttr P0 h (.ref a) cK (.str up)=some (h.set a (.inst 118 [(cK,.str up)]))))<| .h ((pO (k:=118) (n:=cX) (fs:=[(cK,.str up)]) (v:=.str lo) ha rfl (by decide:1<400) rfl))<| .h ((pO (k:=118) (n:=mZ) (fs:=[(cK,.str up),(cX,.str lo)]) (v:=R.e w) ha rfl (by decide:2<400) rfl))<| .h ((pO (k:=118) (n:=gR) (fs:=[(cK,.str up),(cX,.str lo),(mZ,R.e w)]) (v:=.int t) ha rfl (by decide:3<400) rfl))<| .z ((show Internal.Fin Q .nx [] (h.set a (cS R ⟨up,lo,w,t⟩)) from q))) (by kernel_rfl)
theorem zci {x:Ar R.α}:cS R x≠mO R L M:=λe=>by
 injection e with e1 e2;exact absurd e1 (by decide)
def Mc.arc (M:Mc R.α) (s:Nat) (a:Ar R.α):Mc R.α:= {M with arcs:=M.arcs.set s (M.arcs[s]?.getD []++ [a]),cnt:=M.cnt+1}
def zU (R:Rg) (h:MH) (L:Ly) (M:Mc R.α):MH:=h.set L.m (mO R L {M with cnt:=M.cnt+1})
def sS (R:Rg) (h:MH) (L:Ly) (M:Mc R.α) (a:Ar R.α) (r:Nat) (as:List Nat):MH:=(zU R h L M++ [cS R a]).set r (.list (as.map Val.ref++ [Val.ref h.length]))
theorem zmJ:(zU R h L M).length=h.length:=QL ..
section
variable {a:Ar R.α}{s r b:Nat}{as:List Nat}{o:MObj}
theorem nJ (e:h[b]?=some o) (h1:b≠L.m):(zU R h L M)[b]?=some o:=aZ (JE h1) e
theorem kL (e:h[b]?=some o) (h1:b≠L.m) (h2:b≠r):(sS R h L M a r as)[b]?=some o:=aZ (JE h2) (aB (nJ e h1))
theorem zg2 (hr:r<h.length):(sS R h L M a r as)[h.length]?=some (cS R a):=aZ (Zd hr) ((congrArg (λn=>(zU R h L M++ [cS R a])[n]?) zmJ.symm).trans aV)
theorem zg1 (hr:r∈L.rows):cU h (sS R h L M a r as) (own L):=⟨by unfold sS;rw [QL,nX,zmJ];exact Ju _,λb o hb e=>kL e (λq=>hb (q▸ .head _)) λq=>hb (q▸ .tail _ (.tail _ (.tail _ hr)))⟩
structure zW (R:Rg) (h:MH) (L:Ly) (M:Mc R.α) (s r:Nat) (as:List Nat) (xs:List (Ar R.α)):Prop where
 i:L.rows[s]?=some r
 x:M.arcs[s]?=some xs
 a:h[r]?=some (.list (as.map Val.ref))
 l:as.length=xs.length
 o: ∀ (j b:Nat) (x:Ar R.α),as[j]?=some b->xs[j]?=some x->h[b]?=some (cS R x)
theorem zgZ {xs:List (Ar R.α)} (I:IsM R h L M) (W:zW R h L M s r as xs):g7 R (sS R h L M a r as) r (xs++ [a]):=by
 have hm:=Qd W.i;refine ⟨as++ [h.length],?_,nX.trans ((congrArg (· +1) W.l).trans nX.symm),λj b x hb hx=>?_⟩
 ·rw [Qy];exact bS (aB (nJ W.a λq=>I.m_nr (q▸hm)))
 ·rcases zch W.l hb hx with ⟨h1,h2⟩| ⟨rfl,rfl⟩
  ·exact kL (W.o j b x h1 h2) (ne_of (W.o j b x h1 h2) I.obj zci) (ne_of (W.o j b x h1 h2) W.a nofun)
  ·exact zg2 (I.r_lt hm)
theorem zdQ {xs:List (Ar R.α)}{k r':Nat}{ys:List (Ar R.α)} (I:IsM R h L M) (W:zW R h L M s r as xs) (hk:s≠k) (hr:L.rows[k]?=some r') (hy:M.arcs[k]?=some ys):g7 R (sS R h L M a r as) r' ys:=by
 have hn:r'≠r:=λq=>by
  subst q;obtain ⟨l1,e1⟩:=Qg.mp W.i;obtain ⟨l2,e2⟩:=Qg.mp hr;exact hk (Z3 I.nr|>.mp (e1.trans e2.symm))
 exact (I.rows k r' ys hr hy).mono λb o e ho=>kL e (ho.elim (λ⟨_,q⟩=>ne_of e I.obj (q▸zci)) λq p=>I.m_nr (p▸q▸(Qd hr))) (ho.elim (λ⟨_,q⟩=>ne_of e W.a (q▸nofun)) λq=>q▸hn)
theorem lW {l:List Nat}{k r:Nat} (h:l[k]?=some r):(l.map Val.ref)[k]?=some (.ref r):=by rw [Qo,h];rfl
theorem IsM.ad_lt (I:IsM R h L M) {as:List Nat}{k r:Nat} (hr:L.rows[k]?=some r) (ha:h[r]?=some (.list (as.map Val.ref))): ∀b∈as,b<h.length:=λb hb=>by
 have hk:k<M.arcs.length:=I.len▸aH hr;refine Ji (I.rows k r _ hr (Qc hk)) λas' zq15=>?_;have h1:=zq15.1;refine (KD hb).elim λj zq14=>?_;rw [ha] at h1;have e1:(as'.map Val.ref)[j]?=some (.ref b):=(zuN h1:as.map Val.ref=as'.map Val.ref)▸lW zq14;rw [Qo] at e1;refine (Jj.mp e1).elim λb' zq13=>?_;have e3:=zq13.2;cases e3;exact bT (zq15.2.2 j _ _ zq13.1 (Qc (zq15.2.1▸aH zq13.1:j<M.arcs[k].length)))
theorem zlV {l:List (List Nat)}{s x:Nat}{as:List Nat} (n:l.flatten.Nodup) (hs:l[s]?=some as) (hx: ∀bs∈l,x∉bs):(l.set s (as++ [x])).flatten.Nodup:=by
 refine (Qg.mp hs).elim λh zq12=>?_;obtain rfl:=zq12;have e:=Zt s l;rw [JH h] at e;have hf:x∉l.flatten:=λq=>let ⟨bs,h1,h2⟩:=Z4.mp q;hx bs h1 h2;rw [List.set_eq_take_append_cons_drop,if_pos h,Z5,ZA];rw [(by conv=>lhs;rw [<-e,Z5,ZA]:l.flatten=(l.take s).flatten++(l[s]++(l.drop (s+1)).flatten))] at n hf;rw [Qm,List.singleton_append,<-Qm];refine Ks.nodup_iff.mpr (Qw.mpr ⟨?_,?_⟩)
 ·rw [Qm];exact hf
 ·rw [Qm];exact n
theorem znk {xs:List (Ar R.α)} (I:IsM R h L M) (W:zW R h L M s r as xs):Dst (sS R h L M a r as) L.rows L.m:=by
 refine Ji I.ds λads zq11=>?_;have n:=zq11.1;have b:=zq11.2.1;have q:=zq11.2.2;have g: ∀ (k:Nat),(L.rows.map λr=>h[r]?)[k]?=L.rows[k]?.map λr=>h[r]?:=λk=>Qo ..;have g2: ∀ (k:Nat),(L.rows.map λr=>h[r]?)[k]?=ads[k]?.map λas=>some (.list (as.map .ref)):=λk=>by rw [q];exact Qo ..
 have hs:ads[s]?=some as:=by
  have e:=(g s).symm.trans (g2 s);rw [W.i,KM,W.a] at e;refine (Jj.mp e.symm).elim λas' zq10=>?_;rw [zq10.1];exact congrArg some (ziD zq10.2)
 refine ⟨ads.set s (as++ [h.length]),zlV n hs λbs hb hx=>?_,λx hx=>?_,?_⟩
 ·refine (KD hb).elim λk zq9=>?_
  have e:=(g k).symm.trans (g2 k);rw [zq9] at e;refine (Jj.mp e).elim λr' zq8=>?_;exact Q2 _ (I.ad_lt zq8.1 zq8.2 _ hx)
 ·obtain ⟨bs,hb,hx⟩:=Z4.mp hx
  rcases J9 hb with hb|rfl
  ·exact b x (Z4.mpr ⟨bs,hb,hx⟩)
  ·rcases QU.mp hx with hx|hx
   ·exact b x (Z4.mpr ⟨as,Qd hs,hx⟩)
   ·rw [Qu.mp hx];exact bT I.obj
 ·refine ZU λk=>?_
  rw [Qo,Qo];by_cases e:s=k
  ·subst e
   rw [W.i,QI (aH hs),KM,KM,Qy];exact congrArg some (bS (aB (nJ W.a λq=>I.m_nr (q▸(Qd W.i)))))
  ·rw [QJ e,<-g2 k,g k]
   cases hr:L.rows[k]? with
   |none=>rfl
   |some r'=>
    obtain ⟨o,ho⟩: ∃o,h[r']?=some o:=⟨_,Qc (I.r_lt (Qd hr))⟩;have hn:r'≠r:=λq=>by
     subst q;obtain ⟨l1,e1⟩:=Qg.mp W.i;obtain ⟨l2,e2⟩:=Qg.mp hr;exact e (Z3 I.nr|>.mp (e1.trans e2.symm))
    show some (sS R h L M a r as)[r']?=some h[r']?;rw [ho,kL ho (λq=>I.m_nr (q▸(Qd hr))) hn]
theorem IsM.arc {xs:List (Ar R.α)} (I:IsM R h L M) (W:zW R h L M s r as xs) (hc:M.cnt<100000):IsM R (sS R h L M a r as) L (M.arc s a):=by
 have hm:=Qd W.i;have hs:=aH W.x;refine ⟨aZ (λq=>I.m_nr (q▸hm)) (aB (bS I.obj)),kL I.arcs (JE I.mA) λq=>I.A_nr (q▸hm),kL I.ends (JE I.mE) λq=>I.E_nr (q▸hm),I.len.trans (QL ..).symm,I.lenE.trans (QL ..).symm,λk r' ys hr hy=>?_,I.nd,Qa (Qt (QL ..)) I.lim,?_,hc,znk I W⟩
 ·have hy:(M.arcs.set s (M.arcs[s]?.getD []++ [a]))[k]?=some ys:=hy
  rw [(by rw [W.x];rfl:M.arcs[s]?.getD []=xs)] at hy;by_cases hk:s=k
  ·subst hk
   rw [QI hs] at hy;cases hy;cases W.i.symm.trans hr;exact zgZ I W
  ·rw [QJ hk] at hy
   exact zdQ I W hk hr hy
 ·show ((M.arcs.set s (M.arcs[s]?.getD []++ [a])).map JK).sum=M.cnt+1
  rw [(by rw [W.x];rfl:M.arcs[s]?.getD []=xs),<-(Qg.mp W.x).2];exact (zbX hs).trans (congrArg (· +1) I.ct)
theorem IsM.rwAt (I:IsM R h L M) (hs:s<M.arcs.length): ∃r as,zW R h L M s r as M.arcs[s]:=by
 refine (I.row hs).elim λr zq3=>Ji zq3.2 λas zq4=>?_;exact ⟨r,as,zq3.1,Qc hs,zq4.1,zq4.2.1,zq4.2.2⟩
end
theorem zuZ (I:IsM R h L M):getAttr P0 h (.ref L.m) m3=some (.int M.cnt):=ga I.obj rfl rfl
theorem zgn {k:Nat} (hd:2<=d) (I:IsM R h L M) (hk:k<M.arcs.length):bI (Cxd P0 d) (.ref L.m) 521330740336550618428517 [.int k] h h=some (.int k,h):=me (b8 I.obj rfl rfl) (zlP hd I hk (two (.int k) h))
theorem ziF (a:Ar R.α) (hd:1<=d):aM (Cxd P0 d) (.top 118) [.str a.up,.str a.lo,R.e a.w,.int a.t] h=some (.ref h.length,h++ [cS R a]):=W.eq (zd1 (i:=166) rfl rfl (zg3 (up:=a.up) (lo:=a.lo) (w:=a.w) (t:=a.t) hd aV ⟨rfl,rfl,pP⟩))
theorem zzJ {s:Nat}{a:Ar R.α}{p k:Nat} (hd:4<=d) (I:IsM R h L M) (hs:s<M.arcs.length) (ht:a.t<M.arcs.length) (lu:lab a.up) (ll:lab a.lo) (hw:R.D p k a.w) (hl:4*p+k<=3800) (hc:M.cnt<100000) {r:Nat}{as:List Nat} (W:zW R h L M s r as M.arcs[s])
  (q0:a.w=R.zero->Q .none h) (q1:a.w≠R.zero->Q .none (sS R h L M a r as)):WF P0 d 171 [.ref L.m,.int s,.str a.up,.str a.lo,R.e a.w,.int a.t] h Q:=by
 refine bJ (K:=3) hd (some (.ref L.m)::some (.int s)::some (.str a.up)::some (.str a.lo)::some (R.e a.w)::some (.int a.t)::nn 6) jV (by kernel_rfl) λd' h'=>?_;have e1:setAttr P0 h (.ref L.m) m3 (.int ((M.cnt:Int)+1))=some (zU R h L M):=vL I.obj rfl (by decide:6<400);have r1:=nJ (R:=R) (M:=M) W.a λq=>I.m_nr (q▸Qd W.i);have e4:=ziF (h:=zU R h L M) (d:=d') a (Qa (by decide) h');rw [zmJ] at e4;exact run (.p (zgn (Qa (by decide) h':2<=d') I hs)<| .p (zgn (Qa (by decide) h':2<=d') I ht)<| .p (fn (as:=[.str a.up]) rfl (zbS h' lu (two (.str a.up) h)))<| .p (fn (as:=[.str a.lo]) rfl (zbS h' ll (two (.str a.lo) h)))<| .v (c6 I)<| .q (R.nd h' hw hl)<| .v (c6 I)<| .w (R.no)<| .k (R.qe a.w R.zero)<| .br (@decide (a.w=R.zero) (R.deq a.w R.zero)) (λhz=> .z (q0 (dT hz))) (λhz=> .v (zuZ I)<| .c<| .f (decide_eq_false (p:=(200000:Int)<=M.cnt) (YY.mpr (Jw.mpr (Q8 hc (by decide)))))<| .v (zuZ I)<| .c<| .h (e1)<| .v ((ga (bS I.obj) rfl rfl:getAttr P0 (zU R h L M) (.ref L.m) aQ=some (.ref L.aA)))<| .v ((sl (nJ I.arcs (JE I.mA)) (lW W.i):bV (zU R h L M) (.ref L.aA) (.int s)=some (.ref r)))<| .p (e4)<| .p ((znl (Cxd P0 d') (.ref h.length) r1 (aB (t:=[cS R a]) r1) (by rw [Qe,W.l];exact Qk (I.cr _ (Jg hs)) (Q8 hc (by decide)))))<| .z ((show Internal.Fin Q .nx [] (sS R h L M a r as) from q1 (dF hz))))) (by kernel_rfl)
theorem zg0 {s:Nat}{a:Ar R.α}{p k:Nat} (hd:4<=d) (I:IsM R h L M) (hs:s<M.arcs.length) (ht:a.t<M.arcs.length) (lu:lab a.up) (ll:lab a.lo) (hw:R.D p k a.w) (hl:4*p+k<=3800) (hc:M.cnt<100000)
  (q: ∀h' M',IsM R h' L M'->cU h h' (own L) ->(a.w=R.zero->M'=M) ->(a.w≠R.zero->M'=M.arc s a) ->Q .none h'):WF P0 d 171 [.ref L.m,.int s,.str a.up,.str a.lo,R.e a.w,.int a.t] h Q:=by
 refine (I.rwAt hs).elim λr zq1=>zq1.elim λas zq2=>?_;exact zzJ hd I hs ht lu ll hw hl hc zq2 (λe=>q h M I .refl (λ_=>rfl) λhn=>absurd e hn) λe=>q _ _ (I.arc zq2 hc) (zg1 (Qd zq2.i)) (λh=>absurd h e) λ_=>rfl
end
section
variable {R:Rg}{d:Nat}{h h0:MH}{Q:Val->MH->Prop}{L:Ly}{M:Mc R.α}
theorem IsM.setM {M':Mc R.α} (I:IsM R h L M) (e1:M'.arcs=M.arcs) (e2:M'.ends=M.ends) (e3:M'.cnt=M.cnt):IsM R (h.set L.m (mO R L M')) L M':=by
 refine ⟨bS I.obj,aZ I.mA I.arcs,aZ I.mE (e2▸I.ends),e1▸I.len,by rw [e1,e2];exact I.lenE,λk r xs hr hx=>?_,I.nd,e1▸I.lim,by rw [e1,e3];exact I.ct,e3▸I.cl,I.ds.to λr hr _ e=>aZ (λq=>I.m_nr (q▸hr)) e⟩;rw [e1] at hx;refine (I.rows k r xs hr hx).mono λa o e ho=>aZ ?_ e;rcases ho with ⟨x,rfl⟩|rfl
 ·exact JE (ne_of e I.obj zci)
 ·exact λq=>I.m_nr (q▸Qd hr)
theorem zj7 {L:Ly}:L.m∈own L:= .head _
theorem zon {L:Ly}:L.aE∈own L:= .tail _ (.tail _ (.head _))
theorem zfh {h:MH}{o:MObj}{L:Ly}{a:Nat} (ha:a∈own L):cU h (h.set a o) (own L):=cU.set.sub λb hb=>by rw [Qu.mp hb];exact ha
theorem zO {s p k:Nat}{w:R.α} (hd:4<=d) (I:IsM R h L M) (hs:s<M.arcs.length) (hw:R.D p k w) (hl:4*p+k<=3800) (q: ∀h',IsM R h' L {M with start:=s,first:=w} ->cU h h' (own L) ->Q .none h'):WF P0 d 172 [.ref L.m,.int s,R.e w] h Q:=by
 refine bJ (K:=3) hd (some (.ref L.m)::some (.int s)::some (R.e w)::nn 6) gX (by kernel_rfl) λd' h'=>?_;have e1:setAttr P0 h (.ref L.m) kH (R.e w)=some (h.set L.m (mO R L {M with first:=w})):=vL I.obj rfl (by decide:6<400);have e2:setAttr P0 (h.set L.m (mO R L {M with first:=w})) (.ref L.m) hY (.int s)=some ((h.set L.m (mO R L {M with first:=w})).set L.m (mO R L {M with start:=s,first:=w})):=vL (I.setM (M':= {M with first:=w}) rfl rfl rfl).obj rfl (by decide:6<400);exact run (.p (zgn (Qa (by decide) h') I hs)<| .b (R.isv w)<| .c<| .v (c6 I)<| .q (R.nd h' hw hl)<| .h (e1)<| .h (e2)<| .z ((show Internal.Fin Q .nx [] ((h.set L.m (mO R L {M with first:=w})).set L.m (mO R L {M with start:=s,first:=w})) from q _ ((I.setM (M':= {M with first:=w}) rfl rfl rfl).setM (M':= {M with start:=s,first:=w}) rfl rfl rfl) ((zfh zj7).trans (zfh zj7))))) (by kernel_rfl)
theorem IsM.setE {s:Nat}{w:R.α} (I:IsM R h L M):IsM R (h.set L.aE (.list ((M.ends.set s w).map R.e))) L {M with ends:=M.ends.set s w}:=by
 refine ⟨aZ (JE I.mE) I.obj,aZ (JE I.AE) I.arcs,bS I.ends,I.len,(QL ..).trans I.lenE,λk r xs hr hx=>?_,I.nd,I.lim,I.ct,I.cl,I.ds.to λr hr _ e=>aZ (λq=>I.E_nr (q▸hr)) e⟩;refine (I.rows k r xs hr hx).mono λa o e ho=>aZ ?_ e;rcases ho with ⟨x,rfl⟩|rfl
 ·exact JE (ne_of e I.ends nofun)
 ·exact λq=>I.E_nr (q▸Qd hr)
theorem map_set' {α β:Type}{f:α->β}{l:List α}{i:Nat}{x:α}:(l.map f).set i (f x)=(l.set i x).map f:=(List.map_set ..).symm
theorem pQ {s:Nat} (w:R.α) (I:IsM R h L M) (hs:s<M.arcs.length): ∃g,dI h (.ref L.aE) (.int s) (R.e w)=some g/\IsM R g L {M with ends:=M.ends.set s w} /\cU h g (own L):=
 ⟨_,(zlk I.ends (by rw [Qe,I.lenE];exact hs)).trans (by rw [map_set']),I.setE,zfh zon⟩
theorem zmV {s p k:Nat}{w:R.α} (hd:4<=d) (I:IsM R h L M) (hs:s<M.arcs.length) (hw:R.D p k w) (hl:4*p+k<=3800) (q: ∀h',IsM R h' L {M with ends:=M.ends.set s w} ->cU h h' (own L) ->Q .none h'):WF P0 d 173 [.ref L.m,.int s,R.e w] h Q:=by
 refine (pQ w I hs).elim λg zq2=>?_;refine bJ (K:=3) hd (some (.ref L.m)::some (.int s)::some (R.e w)::nn 6) fY (by kernel_rfl) λd' h'=>?_;exact run (.p (zgn (Qa (by decide) h') I hs)<| .b (R.isv w)<| .c<| .v (c6 I)<| .q (R.nd h' hw hl)<| .v (lG I)<| .h (zq2.1)<| .z ((show Internal.Fin Q .nx [] g from q g zq2.2.1 zq2.2.2))) (by kernel_rfl)
theorem zjl {s:Nat} (hd:4<=d) (I:IsM R h L M) (hs:s<M.arcs.length) (q: ∀h',IsM R h' L {M with ends:=M.ends.set s R.one} ->cU h h' (own L) ->Q .none h'):WF P0 d 173 [.ref L.m,.int s] h Q:=by
 refine (pQ R.one I hs).elim λg zq1=>?_;refine bJ (K:=3) hd (some (.ref L.m)::some (.int s)::some (.top 120)::nn 6) fY (by kernel_rfl) λd' h'=>?_;exact run (.p (zgn (Qa (by decide) h') I hs)<| .c2<| .v (c6 I)<| .w (R.on)<| .v (lG I)<| .h (zq1.1)<| .z ((show Internal.Fin Q .nx [] g from q g zq1.2.1 zq1.2.2))) (by kernel_rfl)
def M0:Mc R.α:=⟨[],[],0,R.one,0⟩
theorem qJ {k n:Nat}{fs fs':List (Nat×Val)}{v:Val}{t:MH} (hf:P0.hasFld k n=true) (hl:fs.length<400) (e:rG fs n v=fs'):setAttr P0 (h++ .inst k fs::t) (.ref h.length) n v=some (h++ .inst k fs'::t):=(vL aV hf hl).trans (by rw [pP,e])
theorem zbE {k n j:Nat}{fs fs':List (Nat×Val)}{t:MH} (hj:t.length+1=j) (hf:P0.hasFld k n=true) (hl:fs.length<400) (e:rG fs n (.ref (h.length+j))=fs'):setAttr P0 (h++ .inst k fs::t++ [.list []]) (.ref h.length) n (.ref (h++ .inst k fs::t).length)=some (h++ .inst k fs'::(t++ [.list []])):=by
 rw [Qm,Qv,JA,hj];exact qJ hf hl e
theorem zja (hd:1<=d) (q:Q .none (h++ [mO R ⟨h.length,h.length+1,h.length+2,[]⟩ M0,.list [],.list []])):WF P0 d 177 [.ref h.length,.top (112+R.i)] (h++ [.inst 121 []]) Q:=by
 refine bJ (K:=0) hd (some (.ref h.length)::some (.top (112+R.i))::nn 6) iQ (by kernel_rfl) λd' h'=>?_;have e2:=zbE (h:=h) (t:=[]) (k:=121) (n:=aQ) (j:=1) (fs:=[(dY,.top (112+R.i))]) rfl rfl (by decide:1<400) rfl;have e3:=zbE (h:=h) (t:=[.list []]) (k:=121) (n:=cQ) (j:=2) (fs:=[(dY,.top (112+R.i)),(aQ,.ref (h.length+1))]) rfl rfl (by decide:2<400) rfl;have e4:=qJ (h:=h) (t:=[.list [],.list []]) (k:=121) (n:=hY) (fs:=[(dY,.top (112+R.i)),(aQ,.ref (h.length+1)),(cQ,.ref (h.length+2))]) (v:=.int 0) rfl (by decide:3<400) rfl;have e5:=qJ (h:=h) (t:=[.list [],.list []]) (k:=121) (n:=kH) (fs:=[(dY,.top (112+R.i)),(aQ,.ref (h.length+1)),(cQ,.ref (h.length+2)),(hY,.int 0)]) (v:=R.e R.one) rfl (by decide:4<400) rfl;have e6:=qJ (h:=h) (t:=[.list [],.list []]) (k:=121) (n:=m3) (fs:=[(dY,.top (112+R.i)),(aQ,.ref (h.length+1)),(cQ,.ref (h.length+2)),(hY,.int 0),(kH,R.e R.one)]) (v:=.int 0) rfl (by decide:5<400) rfl;exact run (.h ((qJ (h:=h) (t:=[]) (k:=121) (n:=dY) (fs:=[]) (v:=.top (112+R.i)) rfl (by decide:0<400) rfl))<| .at (h++ [.inst 121 [(dY,.top (112+R.i))]]++ [.list []])<| .h (e2)<| .at (h++ [.inst 121 [(dY,.top (112+R.i)),(aQ,.ref (h.length+1))],.list []]++ [.list []])<| .h (e3)<| .h (e4)<| .w (R.on)<| .h (e5)<| .h (e6)<| .z ((show Internal.Fin Q .nx [] _ from q))) (by kernel_rfl)
theorem zlU (R:Rg) (h:MH):IsM R (h++ [mO R ⟨h.length,h.length+1,h.length+2,[]⟩ M0,.list [],.list []]) ⟨h.length,h.length+1,h.length+2,[]⟩ (M0 (R:=R)):=
 ⟨aV,iL (j:=1),iL (j:=2),rfl,rfl,(λk r xs hr=>nomatch hr),by show [h.length+1,h.length+2].Nodup;exact Qw.mpr ⟨λq=>absurd (Qu.mp q) (Zd (QD _)),Qw.mpr ⟨Qq,.nil⟩⟩,Qs _,rfl,Qs _,[],.nil,λa ha=>absurd ha Qq,rfl⟩
theorem zfu (R:Rg) (hd:1<=d) (h:MH): ∃t,aM (Cxd P0 d) (.top 121) [.top (112+R.i)] h=some (.ref h.length,h++t)/\IsM R (h++t) ⟨h.length,h.length+1,h.length+2,[]⟩ (M0 (R:=R)):=
 ⟨_,W.eq (zd1 (i:=177) rfl rfl (zja hd ⟨rfl,two _ _⟩)),zlU R h⟩
end
section
variable {R:Rg}{d:Nat}{h h0:MH}{Q:Val->MH->Prop}{L:Ly}{M:Mc R.α}
def Ar.emp {α:Type} (x:Ar α):Bool:=x.up== [] && x.lo== []
abbrev hZ:Nat:=7598521885536580729
theorem zmX {a:Nat}{x:Ar R.α} (hd:1<=d) (ha:h[a]?=some (cS R x)) (q:Q (.bool x.emp) h):WF P0 d 165 [.ref a] h Q:=by
 refine bJ (K:=0) hd (some (.ref a)::nn 6) iT (by kernel_rfl) λd' h'=>?_;unfold Ar.emp at q;exact run (.v ((ga ha rfl rfl:getAttr P0 h (.ref a) cK=some (.str x.up)))<| .k (eqs x.up [])<| .br (x.up== []) (λhb=> .v ((ga ha rfl rfl:getAttr P0 h (.ref a) cX=some (.str x.lo)))<| .k (eqs x.lo [])<| .z ((show Q (.bool (x.lo== [])) h by rw [hb] at q;exact q))) (λhb=> .z ((show Q (.bool (x.up== [])) h by rw [hb] at q ⊢;exact q)))) (by kernel_rfl)
theorem zgc {a:Nat}{x:Ar R.α} (hd:1<=d) (h0a:h0[a]?=some (cS R x)) (ha:h[a]?=some (cS R x)) (q:Q (.bool x.emp) h):WM (Cxd P0 d) (.ref a) hZ [] h0 h Q:=
 a8 (b8 h0a rfl rfl) (zmX hd ha q)
theorem IsM.rowlt (I:IsM R h L M) {xs:List (Ar R.α)} (hx:xs∈M.arcs):xs.length<200000:=Qk (I.cr _ hx) (Qk I.cl (by decide))
theorem f7 {l:List Nat}{k:Nat}{v:Val} (h:(l.map Val.ref)[k]?=some v): ∃r,l[k]?=some r/\v= .ref r:=by
 rw [Qo] at h;refine (ms h).elim λr zq9=>?_;exact ⟨r,zq9.1,zq9.2.symm⟩
def FoF (r:Val) (Fr:Internal.Frame->Prop) (A:Prop) (n:Nat) (B:Nat->Prop) (h:MH) (o:SR):Prop:= ∃f,(A/\o=some ((.rt r,f),h))\/(Fr f/\(∀i,i<n->B i)/\o=some ((.nx,f),h))
section
variable {r:Val}{Fr:Internal.Frame->Prop}{A:Prop}{n:Nat}{B:Nat->Prop}
theorem FoF.of {o:SR} (w:W o λp g=>g=h/\((A/\p.1= .rt r)\/(Fr p.2/\(∀i,i<n->B i)/\p.1= .nx))):FoF r Fr A n B h o:=by
 obtain ⟨⟨fl,f⟩,g,e,q1,q⟩:=W.get w;cases q1;exact ⟨f,q.imp (λq=>⟨q.1,e.trans (by rw [show fl=_ from q.2])⟩) λq=>⟨q.1,q.2.1,e.trans (by rw [show fl=_ from q.2.2])⟩⟩
theorem foF {c:Cx}{x a:Nat}{e:Ex}{b:List Sm}{vs:List Val}{fr:Internal.Frame} (hl:vs.length=n) (hn:n<c.fuel) (hk:h[a]?=some (.list vs)) (e0:WE c fr e h λv g=>v= .ref a/\g=h) (f0:Fr fr)
  (step: ∀i v f R,vs[i]?=some v->Fr f->(∀f,A->R (.rt r) f h) ->(∀f,B i->Fr f->R .nx f h) ->WSs c b (f.set x (some v)) h R):FoF r Fr A n B h (exec c (.fo [x] false e b) fr h):=by
 subst hl;exact .of (zhv (R:=λfl f g=>g=h/\((A/\fl= .rt r)\/(Fr f/\(∀i,i<vs.length->B i)/\fl= .nx))) hn (λi f g=>g=h/\Fr f/\∀j,j<i->B j) (λi f g q=>q.1▸hk) (e0.mono λv g q=>⟨q.1,q.2,f0,λj hj=>absurd hj (QX _)⟩)
  (λi v hv f g q=>by
   obtain rfl:=q.1;have hf:=q.2.1;exact step i v f _ hv hf (λ_ h=>⟨rfl,.inl ⟨h,rfl⟩⟩) λf h hf=>⟨rfl,hf,λj hj=>(Nat.lt_succ_iff_lt_or_eq.mp hj).elim (q.2.2 j) λq=>q▸h⟩)
  λf g q=>⟨q.1,.inr ⟨q.2.1,q.2.2,rfl⟩⟩)
end
theorem zgT {α:Type}{l:List α}{i:Nat}{x:α}{p:α->Prop} (h:l[i]?=some x) (hp:p x) (y:α) (e:l[i]?=some y):p y:=Qx.inj (h.symm.trans e)▸hp
theorem zkz {α:Type}{l:List α}{p:α->Bool}{x:α} (h:x∈l) (hp:p x=true):l.any p=true:=ZE.mpr ⟨x,h,hp⟩
theorem zkA {α:Type}{l:List α}{p:α->Bool} (h: ∀i,i<l.length-> ∀x,l[i]?=some x->p x=false):l.any p=false:=ZS.mpr λx hx=>(KD hx).elim λi hi=>by rw [h i (aH hi) x hi];exact Zn
abbrev tG (m:Nat) (o1 o2:Option Val):Internal.Frame:=some (.ref m)::o1::o2::nn 6
abbrev zmO:List Sm:= [.ite (.meth (.var 2) hZ []) [.ret (.lit (.bool true))] []]
abbrev zkj:List Sm:= [.fo [2] false (.var 1) zmO]
def arE (r:List (Ar R.α)):Bool:=r.any Ar.emp
theorem zzB {m b:Nat}{o1 o:Option Val}{x:Ar R.α}{X:Fl->Internal.Frame->MH->Prop} (hd:1<=d) (hx:h[b]?=some (cS R x)) (q1: ∀f,x.emp=true->X (.rt (.bool true)) f h) (q2:x.emp=false->X .nx (tG m o1 (some (.ref b))) h):WSs (Cxd P0 d) zmO ((tG m o1 o).set 2 (some (.ref b))) h X:=by
 exact run (.p ((W.eq (zgc hd hx hx (two _ _)):bI (Cxd P0 d) (.ref b) hZ [] h h=some (.bool x.emp,h)))<| .br (x.emp) (λhe=> .z (q1 (tG m o1 (some (.ref b))) he)) (λhe=> .z (q2 he))) (by kernel_rfl)
theorem zzC {m r:Nat}{o2:Option Val}{xs:List (Ar R.α)} (hd:1<=d) (W:g7 R h r xs) (hl:xs.length<200000):FoF (.bool true) (λf=> ∃o,f=tG m (some (.ref r)) o) (arE xs=true) xs.length (λi=> ∀x,xs[i]?=some x->x.emp=false) h (exec (Cxd P0 d) (.fo [2] false (.var 1) zmO) (tG m (some (.ref r)) o2) h):=by
 refine Ji W λas zq8=>?_;exact foF ((Qe ..).trans zq8.2.1) hl zq8.1 (by exact bM (.z (two (.ref r) h)) (by kernel_rfl)) ⟨o2,rfl⟩ λi v f R' hv hf q1 q2=>by
  obtain ⟨b,hb,rfl⟩:=f7 hv;obtain ⟨o,rfl⟩:=hf;have hx:=Qc (l:=xs) (i:=i) (zq8.2.1▸aH hb);exact zzB hd (zq8.2.2 _ _ _ hb hx) (λf he=>q1 f (zkz (Qd hx) he)) λhe=>q2 _ (zgT hx he) ⟨_,rfl⟩
theorem zuU {m r:Nat}{o1 o2:Option Val}{xs:List (Ar R.α)}{X:Fl->Internal.Frame->MH->Prop} (hd:1<=d) (W:g7 R h r xs) (hl:xs.length<200000) (q1: ∀f,arE xs=true->X (.rt (.bool true)) f h) (q2: ∀o,arE xs=false->X .nx (tG m (some (.ref r)) o) h):WSs (Cxd P0 d) zkj ((tG m o1 o2).set 1 (some (.ref r))) h X:=by
 refine Ji (zzC (m:=m) (o2:=o2) hd W hl) λf zq5=>?_;obtain ⟨ha,e⟩| ⟨⟨o,hf⟩,ha,e⟩:=zq5
 ·exact run (.s (e)<| .z (q1 f ha)) (by kernel_rfl)
 ·rw [hf] at e
  exact run (.s (e)<| .z (q2 o (zkA ha))) (by kernel_rfl)
theorem zzD (hd:1<=d) (I:IsM R h L M):FoF (.bool true) (λf=> ∃o o2,f=tG L.m o o2) (M.arcs.any arE=true) M.arcs.length (λi=> ∀x,M.arcs[i]?=some x->arE x=false) h (exec (Cxd P0 d) (.fo [1] false (.attr (.var 0) aQ) zkj) (tG L.m none none) h):=by
 exact foF ((Qe ..).trans I.len) (Qk I.lim (show 10000<200000 by decide)) I.arcs (by exact bM (.v (dM I)<| .z (two (.ref L.aA) h)) (by kernel_rfl)) ⟨none,none,rfl⟩ λi v f R' hv hf q1 q2=>by
  obtain ⟨r,hr,rfl⟩:=f7 hv;obtain ⟨o,o2,rfl⟩:=hf;have hx:=Qc (l:=M.arcs) (i:=i) (I.len▸aH hr);exact zuU hd (I.rows i r _ hr hx) (I.rowlt (Qd hx)) (λf ha=>q1 f (zkz (Qd hx) ha)) λo ha=>q2 _ (zgT hx ha) ⟨_,_,rfl⟩
theorem zjc (hd:2<=d) (I:IsM R h L M) (q:Q (.bool (M.arcs.any λr=>r.any Ar.emp)) h):WF P0 d 175 [.ref L.m] h Q:=by
 refine bJ (K:=1) hd (tG L.m none none) eI (by kernel_rfl) λd' h'=>?_;refine Ji (zzD h' I) λf zq1=>?_;obtain ⟨ha,e⟩| ⟨⟨o,o2,hf⟩,ha,e⟩:=zq1
 ·exact run (.s (e)<| .z ((show Q (.bool true) h by rw [<-ha];exact q))) (by kernel_rfl)
 ·rw [hf] at e
  exact run (.s (e)<| .z ((show Q (.bool false) h by rw [<-zkA ha];exact q))) (by kernel_rfl)
end
section
variable {R:Rg}{d:Nat}{h h0:MH}{Q:Val->MH->Prop}{L:Ly}{M:Mc R.α}
def j7 (h:MH) (b:Nat) (xss:List (List Nat)):Prop:= ∃rs:List Nat,h[b]?=some (.list (rs.map .ref))/\rs.length=xss.length/\∀ (k r:Nat) (xs:List Nat),rs[k]?=some r->xss[k]?=some xs->h[r]?=some (.list (iVs xs))
theorem kF {α:Type}{l m:List α} (hl:l.length=m.length) (h: ∀ (i:Nat) (y:α),l[i]?=some y->m[i]?=some y):l=m:=by
 refine ZU λi=>?_;by_cases hi:i<l.length
 ·rw [Qc hi];exact (h i _ (Qc hi)).symm
 ·rw [Jp (ZV.mp hi),Jp (Qa (Qt (K8 hl)) (Q0 hi))]
theorem pV {l:List Nat}{i:Nat}{v:Val} (h:(iVs l)[i]?=some v): ∃x,l[i]?=some x/\v= .int x:=by
 unfold iVs at h;rw [Qo] at h;refine (ms h).elim λx zq5=>?_;exact ⟨x,zq5.1,zq5.2.symm⟩
theorem dJ {l:List Nat}:(iVs l).length=l.length:=Qe ..
theorem fC {n:Nat} (h:n<200000):n<=lim:=QC (Q8 h (by decide))
theorem qA {cx:Cx}{fr:Internal.Frame}{elt it:Ex}{x a:Nat}{vs:List Val} (G:Nat->MObj) (hf:vs.length<cx.fuel) (hl:vs.length<=lim)
  (q:WE cx fr it h λv h1=>v= .ref a/\h1[a]?=some (.list vs)/\(∀i v t,vs[i]?=some v->WE cx (fr.set x (some v)) elt (h1++t) λy h3=>y= .ref (h1++t).length/\h3=(h1++t)++ [G i])/\
   Q (.ref h1.length) (h1++ .list ((QO (h1.length+1) vs.length).map .ref)::(QS vs.length).map G)):WE cx fr (.comp elt [x] false it []) h Q:=by
 refine mD (a:=a) (vs:=vs) (λh1 ys t=>ys=(QO (h1.length+1) ys.length).map Val.ref/\t=(QS ys.length).map G) hf hl (W.mono q λv h1 q=>?_);obtain ⟨rfl,h1a,st,q⟩:=q;refine ⟨rfl,h1a,⟨rfl,rfl⟩,λys t v J hv=>W.mono (st ys.length v (.list ys::t) hv) λy h3 q=>?_,λys t hy J=>?_⟩
 ·obtain ⟨rfl,rfl⟩:=q
  refine ⟨[G ys.length],Qm ..,?_,?_⟩
  ·rw [(λy=>by rw [Qv];rfl: ∀y:Val,(ys++ [y]).length=ys.length+1),Xb,Qy,<-J.1]
   congr 2
   rw [Qv,JA,J.2,Qe,QZ]
   congr 1;lia
  ·rw [(λy=>by rw [Qv];rfl: ∀y:Val,(ys++ [y]).length=ys.length+1),ZO,Qy,<-J.2];rfl
 ·obtain ⟨J1,J2⟩:=J
  rw [hy] at J1 J2;rw [J1,J2];exact q
def aAt (M:Mc R.α) (k:Nat):List (Ar R.α):=M.arcs[k]?.getD []
theorem zd9 {cx:Cx}{fr:Internal.Frame}{elt it:Ex}{x a:Nat}{vs:List Val} (F:Nat->Val) (hf:vs.length<cx.fuel) (hl:vs.length<=lim)
  (q:WE cx fr it h λv h1=>v= .ref a/\h1[a]?=some (.list vs)/\(∀i v t,vs[i]?=some v->WE cx (fr.set x (some v)) elt (h1++t) λy h3=>y=F i/\h3=h1++t)/\Q (.ref h1.length) (h1++ [.list ((QS vs.length).map F)])):WE cx fr (.comp elt [x] false it []) h Q:=by
 refine mD (a:=a) (vs:=vs) (λh1 ys t=>ys=(QS ys.length).map F/\t= []) hf hl (W.mono q λv h1 q=>?_);obtain ⟨rfl,h1a,st,q⟩:=q;refine ⟨rfl,h1a,⟨rfl,rfl⟩,λys t v J hv=>W.mono (st ys.length v (.list ys::t) hv) λy h3 q=>?_,λys t hy J=>?_⟩
 ·obtain ⟨rfl,rfl⟩:=q
  refine ⟨[],by rw [Q7],?_,by rw [J.2];rfl⟩;rw [nX,ZO,Qy,<-J.1];rfl
 ·obtain ⟨J1,rfl⟩:=J
  rw [J1,hy];exact q
abbrev onE:Ex:= .comp (.attr (.var 2) gR) [2] false (.var 1) []
theorem zdm {α β:Type}{l:List α}{F:Nat->β}{f:α->β} (h: ∀ (i:Nat) (x:α),l[i]?=some x->F i=f x):(QS l.length).map F=l.map f:=
 kF (by rw [Qe,QZ,Qe]) λi y hi=>by
  rw [Qo] at hi ⊢;have hl:i<l.length:=QZ (n:=l.length)▸aH (ms hi).choose_spec.1;rw [Jy hl] at hi;rw [Qc hl];exact (congrArg some (h i _ (Qc hl))).symm.trans hi
theorem onR {r m:Nat}{o2:Option Val}{xs:List (Ar R.α)} (W:g7 R h r xs) (hl:xs.length<200000) (t:MH):WE (Cxd P0 d) (some (.ref m)::some (.ref r)::o2::nn 4) onE (h++t) λy g=>y= .ref (h++t).length/\g=(h++t)++ [.list (iVs (xs.map Ar.t))]:=by
 refine Ji W λas zq4=>?_;have e:(as.map Val.ref).length=xs.length:=(Qe ..).trans zq4.2.1;have e2:(QS (as.map Val.ref).length).map (λi=>Val.int (((xs[i]?.map Ar.t).getD 0:Nat):Int))=iVs (xs.map Ar.t):=by
  unfold iVs;rw [e,JY];exact zdm λi x hx=>by rw [hx];rfl
 refine zd9 (a:=r) (vs:=as.map .ref) (λi=> .int (((xs[i]?.map Ar.t).getD 0:Nat):Int)) (by rw [e];exact hl) (by rw [e];exact fC hl) ((by exact bM (.z (two (.ref r) (h++t))) (by kernel_rfl):WE (Cxd P0 d) (some (.ref m)::some (.ref r)::o2::nn 4) (.var 1) (h++t) λv g=>v= .ref r/\g=h++t).mono λv g q=>?_);obtain rfl:=q.1;obtain rfl:=q.2;rw [e2];refine ⟨rfl,aB zq4.1,λi v t' hv=>?_,two _ _⟩;refine (f7 hv).elim λb zq3=>?_;obtain rfl:=zq3.2;obtain ⟨x,hx⟩: ∃x,xs[i]?=some x:=⟨_,Qc (zq4.2.1▸aH zq3.1)⟩;have e1:getAttr P0 (h++t++t') (.ref b) gR=some (.int x.t):=ga (aB (aB (zq4.2.2 i b _ zq3.1 hx))) rfl rfl;have e3:x.t=(xs[i]?.map Ar.t).getD 0:=by rw [hx];rfl
 rw [<-e3];exact bM (.v (e1)<| .z (two (.int (x.t:Nat)) (h++t++t'))) (by kernel_rfl)
theorem onH (I:IsM R h L M):eval (Cxd P0 d) (.comp onE [1] false (.attr (.var 0) aQ) []) (some (.ref L.m)::nn 6) h=some (.ref h.length,h++ .list ((QO (h.length+1) M.arcs.length).map .ref)::(QS M.arcs.length).map λi=> .list (iVs ((aAt M i).map Ar.t))):=by
 have hn:(L.rows.map Val.ref).length=M.arcs.length:=(Qe ..).trans I.len;have hl:=Qk I.lim (show 10000<200000 by decide);refine W.eq (qA (cx:=Cxd P0 d) (a:=L.aA) (x:=1) (elt:=onE) (vs:=L.rows.map .ref) (λi=> .list (iVs ((aAt M i).map Ar.t))) (by rw [hn];exact hl) (by rw [hn];exact fC hl) (W.mono (by exact bM (.v (dM I)<| .z (two (.ref L.aA) h)) (by kernel_rfl):WE (Cxd P0 d) (some (.ref L.m)::nn 6) (.attr (.var 0) aQ) h λv g=>v= .ref L.aA/\g=h) λv g q=>?_));obtain rfl:=q.1;obtain rfl:=q.2;rw [hn];refine ⟨rfl,I.arcs,λi v t hv=>?_,two _ _⟩;refine (f7 hv).elim λr zq2=>?_;obtain rfl:=zq2.2;obtain ⟨x,hx⟩: ∃x,M.arcs[i]?=some x:=⟨_,Qc (I.len▸aH zq2.1)⟩;rw [(by unfold aAt;rw [hx];rfl:aAt M i=x)];exact onR (m:=L.m) (o2:=none) (I.rows i r x zq2.1 hx) (I.rowlt (Qd hx)) t
theorem onA (M:Mc R.α):j7 (h++ .list ((QO (h.length+1) M.arcs.length).map .ref)::(QS M.arcs.length).map λi=> .list (iVs ((aAt M i).map Ar.t))) h.length (M.arcs.map λr=>r.map Ar.t):=by
 refine ⟨_,aV,by rw [Zo,Qe],λk r xs hr hx=>?_⟩;have hk:k<M.arcs.length:=Qe (λr:List (Ar R.α)=>r.map Ar.t)▸aH hx;rw [YF hk] at hr;cases hr;rw [Qo] at hx;refine (ms hx).elim λx zq1=>?_;obtain rfl:=zq1.2;rw [show h.length+1+1*k=h.length+(k+1) by rw [JV,Q1,J6 1 k],iL,List.getElem?_cons_succ,Qo,Jy hk];rw [<-(by unfold aAt;rw [zq1.1];rfl:aAt M k=x)];rfl
theorem zcX (hd:1<=d) (I:IsM R h L M) (q: ∀t b,j7 (h++t) b (M.arcs.map λr=>r.map Ar.t) ->Q (.ref b) (h++t)):WF P0 d 125 [.ref L.m] h Q:=by
 refine bJ (K:=0) hd (some (.ref L.m)::nn 6) fX (by kernel_rfl) λd' h'=>?_;exact run (.p (onH (d:=d') I)<| .z (q _ _ (onA M))) (by kernel_rfl)
end
section
variable {R:Rg}{d:Nat}{h g:MH}{Q:Val->MH->Prop}{L:Ly}{M:Mc R.α}
abbrev jG:Nat:=1936292453
theorem eP {h:MH} (hd:1<=d) (I:IsM R h L M):bI (Cxd P0 d) (.ref L.m) jG [] h h=some (.int M.arcs.length,h):=me (b8 I.obj rfl rfl) (zii hd I ⟨rfl,rfl⟩)
theorem tU {l:List R.α}{s:Nat}{x:R.α} (hs:l[s]?=some x):(l.map R.e)[s]?=some (R.e x):=by rw [Qo,hs];rfl
abbrev at' (l:List R.α) (s:Nat):R.α:=l[s]?.getD R.zero
theorem xD {l:List R.α}{s:Nat} (hs:s<l.length):l[s]?=some (at' l s):=by rw [Qc hs];unfold at';rw [Qc hs];rfl
theorem zgS {l:List R.α}{s:Nat} (hs:s<l.length):at' l s∈l:=Qd (xD hs)
theorem gUp {b:Nat}{a:Ar R.α} (hB:h[b]?=some (cS R a)):getAttr P0 h (.ref b) cK=some (.str a.up):=ga hB rfl rfl
theorem gLo {b:Nat}{a:Ar R.α} (hB:h[b]?=some (cS R a)):getAttr P0 h (.ref b) cX=some (.str a.lo):=ga hB rfl rfl
theorem gWt {b:Nat}{a:Ar R.α} (hB:h[b]?=some (cS R a)):getAttr P0 h (.ref b) mZ=some (R.e a.w):=ga hB rfl rfl
theorem gTg {b:Nat}{a:Ar R.α} (hB:h[b]?=some (cS R a)):getAttr P0 h (.ref b) gR=some (.int a.t):=ga hB rfl rfl
theorem zdt {b:Nat}{a:Ar R.α} (hd:1<=d) (hB:h[b]?=some (cS R a)):bI (Cxd P0 d) (.ref b) hZ [] h h=some (.bool a.emp,h):=W.eq (zgc hd hB hB ⟨rfl,rfl⟩)
theorem nT {x:Bool} (h:x=true):(!x)=false:=by rw [h];rfl
theorem nF {x:Bool} (h:x=false):(!x)=true:=by rw [h];rfl
structure zhe (R:Rg) (h:MH) (r:Nat) (as:List Nat) (xs:List (Ar R.α)):Prop where
 l:h[r]?=some (.list (as.map .ref))
 n:(as.map Val.ref).length=xs.length
 a: ∀ (j:Nat) (v:Val),(as.map Val.ref)[j]?=some v-> ∃b x,v= .ref b/\xs[j]?=some x/\h[b]?=some (cS R x)
theorem IsM.rowR (I:IsM R h L M) {k:Nat} (hk:k<M.arcs.length): ∃r as,(L.rows.map Val.ref)[k]?=some (.ref r)/\zhe R h r as (aAt M k)/\aAt M k∈M.arcs:=by
 refine (I.row hk).elim λr zq8=>Ji zq8.2 λas zq9=>?_;rw [(by unfold aAt;rw [Qc hk];rfl:aAt M k=M.arcs[k])];refine ⟨r,as,lW zq8.1,⟨zq9.1,(Qe ..).trans zq9.2.1,λj v hv=>?_⟩,Jg hk⟩;refine (f7 hv).elim λb zq7=>?_;obtain rfl:=zq7.2;have hj:j<M.arcs[k].length:=by rw [<-zq9.2.1];exact aH zq7.1
 exact ⟨b,M.arcs[k][j],rfl,Qc hj,zq9.2.2 j b _ zq7.1 (Qc hj)⟩
def dP (M:Mc R.α) (s:Nat):Nat:=((M.arcs.take s).map JK).sum
theorem za9 {s:Nat} (hs:s<M.arcs.length):dP M (s+1)=dP M s+M.arcs[s].length:=by
 unfold dP;rw [ZD hs,Qy,KL];simp
theorem nC (I:IsM R h L M) (s:Nat):dP M s<=M.cnt:=by
 unfold dP;rw [<-I.ct]
 conv=>rhs;rw [<-Zt s M.arcs,Qy,KL]
 exact Qf _ _
theorem jS {s:Nat} (hs:s<M.arcs.length):dP M (s+1)=dP M s+(aAt M s).length:=by
 rw [za9 hs];unfold aAt;rw [Qc hs];rfl
theorem zdo {z:Cx}{a:Nat}{vs:List Val} (ha:h[a]?=some (.list vs)):aM z (.bi lT) [.ref a] h=some (.int vs.length,h):=W.eq (zbo ha ⟨rfl,rfl⟩)
theorem apd (z:Cx) {a:Nat}{vs:List Val} (v:Val) (ha:h[a]?=some (.list vs)) (hl:vs.length<1000000):bI z (.ref a) nAppend [v] h h=some (.none,h.set a (.list (vs++ [v]))):=W.eq (uF ha ha hl ⟨rfl,rfl⟩)
theorem zvi (z:Cx) {a:Nat}{xs:List Nat} (i:Nat) (ha:h[a]?=some (.list (iVs xs))) (hl:xs.length<1000000):bI z (.ref a) nAppend [.int i] h h=some (.none,h.set a (.list (iVs (xs++ [i])))):=by
 rw [apd z _ ha (by rw [dJ];exact hl)];unfold iVs;rw [Qy];rfl
abbrev fD:Nat:=495873782885
abbrev zga:Nat:=6386275
abbrev wF:Nat:=422608071022
theorem xZ (hd:2<=d) (I:IsM R h L M) (hl:M.arcs.length<10000): ∃g,bI (Cxd P0 d) (.ref L.m) fD [] h h=some (.int M.arcs.length,g)/\IsM R g (L.more h.length) M.more/\cU h g [L.aA,L.aE]:=by
 refine (W.get (a8 (P:=P0) (b8 (n:=fD) I.obj rfl rfl) (xY (Q:=λv g=>v= .int M.arcs.length/\IsM R g (L.more h.length) M.more/\cU h g [L.aA,L.aE]) hd I hl λg I' K=>⟨rfl,I',K⟩))).elim λv zq5=>zq5.elim λg zq6=>?_;obtain rfl:=zq6.2.1;exact ⟨g,zq6.1,zq6.2.2⟩
theorem znj {s p k:Nat}{a:Ar R.α} (hd:4<=d) (I:IsM R h L M) (hs:s<M.arcs.length) (ht:a.t<M.arcs.length) (lu:lab a.up) (ll:lab a.lo) (hw:R.D p k a.w) (hl:4*p+k<=3800) (hc:M.cnt<100000) (hz:a.w≠R.zero): ∃g,bI (Cxd P0 d) (.ref L.m) zga [.int s,.str a.up,.str a.lo,R.e a.w,.int a.t] h h=some (.none,g)/\IsM R g L (M.arc s a)/\cU h g (own L):=by
 refine (W.get (a8 (P:=P0) (b8 (n:=zga) I.obj rfl rfl) (zg0 (Q:=λv g=>v= .none/\IsM R g L (M.arc s a)/\cU h g (own L)) hd I hs ht lu ll hw hl hc λg M' I' K _ hM=>⟨rfl,hM hz▸I',K⟩))).elim λv zq3=>zq3.elim λg zq4=>?_;obtain rfl:=zq4.2.1;exact ⟨g,zq4.1,zq4.2.2⟩
theorem zgR {s p k:Nat}{w:R.α} (hd:4<=d) (I:IsM R h L M) (hs:s<M.arcs.length) (hw:R.D p k w) (hl:4*p+k<=3800): ∃g,bI (Cxd P0 d) (.ref L.m) wF [.int s,R.e w] h h=some (.none,g)/\IsM R g L {M with start:=s,first:=w} /\cU h g (own L):=by
 refine (W.get (a8 (P:=P0) (b8 (n:=wF) I.obj rfl rfl) (zO (Q:=λv g=>v= .none/\IsM R g L {M with start:=s,first:=w} /\cU h g (own L)) hd I hs hw hl λg I' K=>⟨rfl,I',K⟩))).elim λv zq1=>zq1.elim λg zq2=>?_;obtain rfl:=zq2.2.1;exact ⟨g,zq2.1,zq2.2.2⟩
theorem wC (I:IsM R h L M):M.arcs.length<=100000:=Qa I.lim (by decide)
theorem zhe.le {r:Nat}{as:List Nat}{xs:List (Ar R.α)} (H:zhe R h r as xs) (I:IsM R g L M) (hm:xs∈M.arcs):(as.map Val.ref).length<=100000:=H.n▸Qa (I.cr _ hm) I.cl
end
def lC (mb:List Bool):Nat:=mb.countP (!·)
theorem zcn {mb:List Bool}{k:Nat} (hk:mb[k]?=some false):lC (mb.set k true)+1=lC mb:=by
 unfold lC;refine (Qg.mp hk).elim λhl zq7=>?_;rw [(List.countP_set (p:=λb:Bool=>!b) (l:=mb) (i:=k) (a:=true) hl),zq7]
 have:0<mb.countP (!·):=List.countP_pos_iff.mpr ⟨false,Qd hk,rfl⟩
 simp only [Bool.not_false,XJ]
 simp
 exact Ke (QM this)
structure sU (fs:List Nat) (xss:List (List Nat)) (mb:List Bool):Prop where
 first: ∀s∈fs,mb[s]?=some true
 least: ∀P:Nat->Prop,(∀s∈fs,P s) ->(∀s xs,P s->xss[s]?=some xs-> ∀o∈xs,P o) -> ∀s:Nat,mb[s]?=some true->P s
section
variable {R:Rg}{d:Nat}{h h0:MH}{Q:Val->MH->Prop}{L:Ly}{M:Mc R.α}
theorem nE {mb:List Bool}{k:Nat}{b:Bool} (h:mb[k]?=some b):(mb.map Val.bool)[k]?=some (.bool b):=by rw [Qo,h];rfl
structure MSt where
 mb:List Bool
 wk:List Nat
 a:Option Val
 b:Option Val
structure MX where
 h:MH
 m:Nat
 f:Nat
 b:Nat
 x0:MObj
 n:Nat
 fs:List Nat
 xss:List (List Nat)
def mG (X:MX) (s:MSt):MH:=X.h++ [X.x0,.list (s.mb.map Val.bool),.list (iVs s.wk)]
def mF (X:MX) (a b:Option Val):Internal.Frame:=some (.ref X.m)::some (.ref X.f)::some (.ref X.b)::some (.ref (X.h.length+1))::some (.ref (X.h.length+2))::a::b::nn 6
section
variable {X:MX}{R':Fl->Internal.Frame->MH->Prop}{s:MSt}
theorem zuy:(mG X s)[X.h.length+1]?=some (.list (s.mb.map Val.bool)):=iL
theorem zfW:(mG X s)[X.h.length+2]?=some (.list (iVs s.wk)):=iL
theorem zux {mb:List Bool}:(mG X s).set (X.h.length+1) (.list (mb.map Val.bool))=mG X {s with mb:=mb}:=zeW
theorem zke {wk:List Nat}:(mG X s).set (X.h.length+2) (.list (iVs wk))=mG X {s with wk:=wk}:=zeW
structure MP1 (X:MX) (i:Nat) (s:MSt):Prop where
 w:s.wk=X.fs
 l:s.mb.length=X.n
 h1: ∀y∈X.fs.take i,s.mb[y]?=some true
 h2: ∀y:Nat,s.mb[y]?=some true->y∈X.fs
theorem sM (X:MX) (s:MSt) {o:Nat}{b:Bool} (e:s.mb[o]?=some b):bV (mG X s) (.ref (X.h.length+1)) (.int o)=some (.bool b):=sl zuy (nE e)
theorem zfX (X:MX) (s:MSt) {y:Nat} (v:Bool) (hn:y<s.mb.length):dI (mG X s) (.ref (X.h.length+1)) (.int y) (.bool v)=some (mG X {s with mb:=s.mb.set y v}):=by rw [zlk zuy (by rw [Qe];exact hn),map_set',zux]
theorem zuA {i y:Nat} (P:MP1 X i s) (hy:X.fs[i]?=some y) (hn:y<X.n) (q: ∀s',MP1 X (i+1) s'->R' .nx (mF X s'.a s'.b) (mG X s')):WSs (Cxd P0 d) [.asg (.sb (.var 3) (.var 5)) (.lit (.bool true))] (mF X (some (.int y)) s.b) (mG X s) R':=by
 have hsn:y<s.mb.length:=by rw [P.l];exact hn
 have N:MP1 X (i+1) {s with mb:=s.mb.set y true,a:=some (.int y)}:=by
  refine ⟨P.w,by show (s.mb.set y true).length=_;rw [QL];exact P.l,λz hz=>?_,λz hz=>?_⟩
  ·show (s.mb.set y true)[z]?=_
   rw [JD,hy] at hz;by_cases e:y=z
   ·subst e;rw [QI hsn]
   ·rw [QJ e]
    exact (QU.mp hz).elim (P.h1 z) λhz=>absurd (Qu.mp (by simpa using hz)).symm e
  ·have hz:(s.mb.set y true)[z]?=some true:=hz
   by_cases e:y=z
   ·subst e;exact Qd hy
   ·rw [QJ e] at hz;exact P.h2 z hz
 exact run (.h (zfX X s true hsn)<| .z (q _ N)) (by kernel_rfl)
structure MP2 (X:MX) (k:Nat) (s:MSt):Prop where
 kk:k=2*lC s.mb+s.wk.length
 kl:k<=30000
 l:s.mb.length=X.n
 B:sU X.fs X.xss s.mb
 w: ∀y∈s.wk,s.mb[y]?=some true
 c: ∀ (y:Nat) xs,s.mb[y]?=some true->y∉s.wk->X.xss[y]?=some xs-> ∀o∈xs,s.mb[o]?=some true
structure MP3 (X:MX) (y:Nat) (xs:List Nat) (k:Nat) (j:Nat) (s:MSt):Prop where
 kk:2*lC s.mb+s.wk.length<=k
 l:s.mb.length=X.n
 B:sU X.fs X.xss s.mb
 yy:s.mb[y]?=some true
 w: ∀z∈s.wk,s.mb[z]?=some true
 c: ∀ (z:Nat) xs,s.mb[z]?=some true->z∉s.wk->z≠y->X.xss[z]?=some xs-> ∀o∈xs,s.mb[o]?=some true
 t: ∀o∈xs.take j,s.mb[o]?=some true
theorem zmw (X:MX) (s:MSt) (z:Cx):aM z (.bi lT) [.ref (X.h.length+2)] (mG X s)=some (.int s.wk.length,mG X s):=by rw [zdo zfW,dJ]
theorem zmx (X:MX) (s:MSt) (z:Cx) (o:Nat) (hl:s.wk.length<1000000):bI z (.ref (X.h.length+2)) nAppend [.int o] (mG X s) (mG X s)=some (.none,mG X {s with wk:=s.wk++ [o]}):=(zvi z o zfW hl).trans (by rw [zke])
abbrev m3B:List Sm:= [.ite (.not (.sub (.var 3) (.var 6))) [.asg (.sb (.var 3) (.var 6)) (.lit (.bool true)),.expr (.meth (.var 4) nAppend [.var 6])] []]
theorem MP3.more {y j o k:Nat}{xs:List Nat} (P:MP3 X y xs k j s) (hx:X.xss[y]?=some xs) (ho:xs[j]?=some o) (he:s.mb[o]?=some false):MP3 X y xs k (j+1) {s with mb:=s.mb.set o true,wk:=s.wk++ [o],b:=some (.int o)}:=by
 have up: ∀ {z:Nat},s.mb[z]?=some true->(s.mb.set o true)[z]?=some true:=λ{z} hz=>by
  rw [QJ λe=>by subst e;rw [he] at hz;exact nomatch hz];exact hz
 have dn: ∀ {z:Nat},(s.mb.set o true)[z]?=some true->z=o\/s.mb[z]?=some true:=λ{z} hz=>by
  by_cases e:o=z
  ·exact .inl e.symm
  ·rw [QJ e] at hz;exact .inr hz
 have hu:=zcn he;refine ⟨?_,by show (s.mb.set o true).length=_;rw [QL];exact P.l,⟨λz hz=>up (P.B.first z hz),λT p1 p2 z hz=>?_⟩,up P.yy,λz hz=>?_,λz zs e1 e2 e3 e4 w hw=>?_,λz hz=>?_⟩
 ·show 2*lC (s.mb.set o true)+(s.wk++ [o]).length<=k
  refine Qa ?_ P.kk;rw [Qv,<-hu,Ze,JL];exact Ju _
 ·exact (dn hz).elim (λe=>e▸p2 y xs (P.B.least T p1 p2 y P.yy) hx o (Qd ho)) (P.B.least T p1 p2 z)
 ·exact (QU.mp hz).elim (λhz=>up (P.w z hz)) λhz=>(Qu.mp hz)▸(QI (aH he):(s.mb.set o true)[o]?=some true)
 ·exact (dn e1).elim (λe=>absurd (QU.mpr (.inr (e▸ .head _))) e2) λe1=>up (P.c z zs e1 (λq=>e2 (QU.mpr (.inl q))) e3 e4 w hw)
 ·rw [JD,ho] at hz
  exact (QU.mp hz).elim (λhz=>up (P.t z hz)) λhz=>(Qu.mp hz)▸(QI (aH he):(s.mb.set o true)[o]?=some true)
theorem zuz {y j o k:Nat}{xs:List Nat} (P:MP3 X y xs k j s) (hx:X.xss[y]?=some xs) (ho:xs[j]?=some o) (hn:o<X.n) (hk:k<100000) (q: ∀s',MP3 X y xs k (j+1) s'->R' .nx (mF X (some (.int y)) s'.b) (mG X s')):
  WSs (Cxd P0 d) m3B (mF X (some (.int y)) (some (.int o))) (mG X s) R':=by
 have hon:o<s.mb.length:=by rw [P.l];exact hn
 have hoe:=Qc hon;cases hb:s.mb[o] with
 |true=>
  rw [hb] at hoe;have N:MP3 X y xs k (j+1) {s with b:=some (.int o)}:=⟨P.kk,P.l,P.B,P.yy,P.w,P.c,λz hz=>by
   rw [JD,ho] at hz;exact (QU.mp hz).elim (P.t z) λhz=>(Qu.mp hz)▸hoe⟩
  exact run (.v (sM X s hoe)<| .c2<| .z (q _ N)) (by kernel_rfl)
 |false=>
  rw [hb] at hoe;have hw:s.wk.length<1000000:=Qk (Qa (Qn _ _) P.kk) (Q8 hk (by decide));exact run (.v (sM X s hoe)<| .c2<| .h (zfX X s true hon)<| .p (zmx X {s with mb:=s.mb.set o true} (Cxd P0 d) o hw)<| .z (q _ (P.more hx ho hoe))) (by kernel_rfl)
end
structure MOk (X:MX):Prop where
 A:j7 X.h X.b X.xss
 hl:X.xss.length=X.n
 hn:X.n<=10000
 hfs: ∀s∈X.fs,s<X.n
 hfl:X.fs.length<=10000
 hxs: ∀xs∈X.xss,xs.length<200000->True
 hxl: ∀xs∈X.xss,xs.length<=100000/\∀o∈xs,o<X.n
section
variable {X:MX} (O:MOk X)
include O
abbrev m0 (X:MX):MSt:=⟨QB X.n false,X.fs,none,none⟩
theorem zzw: ∃s,MP1 X X.fs.length s/\exec (Cxd P0 d) (.fo [5] false (.var 4) [.asg (.sb (.var 3) (.var 5)) (.lit (.bool true))]) (mF X none none) (mG X (m0 X))=some ((.nx,mF X s.a s.b),mG X s):=by
 have:=foL (c:=Cxd P0 d) (tg:=[5]) (many:=false) (a:=X.h.length+2) (e:=.var 4) (b:=[.asg (.sb (.var 3) (.var 5)) (.lit (.bool true))]) (vs:=iVs X.fs) (λs:MSt=>mF X s.a s.b) (mG X) (MP1 X) (m0 X) (by rw [dJ];exact Qa O.hfl (by decide)) rfl (λi s P=>by have e:= @zfW X s;rw [show s.wk=X.fs from P.w] at e;exact e) (by exact bM (.z (two (.ref (X.h.length+2)) (mG X (m0 X)))) (by kernel_rfl)) ⟨rfl,Q5 ..,(λs hs=>nomatch hs),λs hs=>nomatch (Jm (Qd hs))⟩ λi v s R1 _ hv P1 T1=>by
  obtain ⟨y,hy,rfl⟩:=pV hv;exact c8 (zuA P1 hy (O.hfs y (Qd hy)) T1.nx)
 rwa [dJ] at this
structure MD (X:MX) (s:MSt):Prop where
 l:s.mb.length=X.n
 B:sU X.fs X.xss s.mb
 c: ∀ (y:Nat) xs,s.mb[y]?=some true->X.xss[y]?=some xs-> ∀o∈xs,s.mb[o]?=some true
abbrev m3L:Sm:= .fo [6] false (.sub (.var 2) (.var 5)) m3B
theorem zzu {y k:Nat}{wk:List Nat}{s:MSt} (P:MP2 X k s) (hw:s.wk=wk++ [y]): ∃s',(∃j,j<k/\MP2 X j s')/\exec (Cxd P0 d) m3L (mF X (some (.int y)) s.b) (mG X {s with wk:=wk})=some ((.nx,mF X s'.a s'.b),mG X s'):=by
 have hym:=P.w y (hw▸QU.mpr (.inr (.head _)));have hyn:y<X.xss.length:=by rw [O.hl,<-P.l];exact aH hym
 obtain ⟨rs,A1,A2,A3⟩:=O.A;have hxe:=Qc hyn;have hre:=Qc (l:=rs) (i:=y) (by rw [A2];exact hyn);have hkk:2*lC s.mb+wk.length+1=k:=by rw [P.kk,hw,Qv];rfl
 have hkl:=P.kl;have hx:=O.hxl _ (Jg hyn);obtain ⟨s',P3,e⟩:=foL (c:=Cxd P0 d) (tg:=[6]) (many:=false) (a:=rs[y]) (e:=.sub (.var 2) (.var 5)) (b:=m3B) (vs:=iVs X.xss[y]) (λs:MSt=>mF X (some (.int y)) s.b) (mG X) (MP3 X y X.xss[y] (2*lC s.mb+wk.length)) {s with wk:=wk} (by rw [dJ];exact hx.1) rfl (λi s P=>aB (A3 y _ _ hre hxe)) (by exact bM (.v (sl (aB (t:=[X.x0,.list (s.mb.map Val.bool),.list (iVs wk)]) A1) (lW hre))<| .z (two (.ref rs[y]) (mG X {s with wk:=wk}))) (by kernel_rfl)) ⟨Qj _,P.l,P.B,hym,λx hx=>P.w x (hw▸QU.mpr (.inl hx)),λz ys e1 e2 e3=>P.c z ys e1 λq=>by
    rw [hw] at q;exact (QU.mp q).elim e2 λq=>e3 (Qu.mp q),λo ho=>nomatch ho⟩ λi v s R1 _ hv P1 T1=>by
  obtain ⟨o,ho,rfl⟩:=pV hv;exact c8 (zuz P1 hxe ho (hx.2 o (Qd ho)) (Qi (JF (Qt hkk)) (Qa hkl (Qn _ _))) T1.nx)
 have kt:=P3.t;rw [dJ,QR] at kt;refine ⟨{s' with a:=some (.int y)},⟨_,Qk P3.kk (hkk▸QD _),rfl,Qa P3.kk (Ki (Qa (Qt hkk) hkl)),P3.l,P3.B,P3.w,λz ys e1 e2 e3=>?_⟩,e⟩;by_cases e:z=y
 ·subst e
  rw [show X.xss[z]?=some ys from e3] at hxe;cases hxe;exact kt
 ·exact P3.c z ys e1 e2 e e3
abbrev m2B:List Sm:= [.asg (.nm 5) (.meth (.var 4) nPop []),m3L]
theorem zzv {k:Nat}{s:MSt} (P:MP2 X k s): ∃s',MD X s'/\exec (Cxd P0 d) (.wh (.cmp .gt (.call (.lit (.bi lT)) [.var 4]) (.lit (.int 0))) m2B) (mF X s.a s.b) (mG X s)=some ((.nx,mF X s'.a s'.b),mG X s'):=by
 refine foW (c:=Cxd P0 d) (t:=.cmp .gt (.call (.lit (.bi lT)) [.var 4]) (.lit (.int 0))) (b:=m2B) (λs:MSt=>mF X s.a s.b) (mG X) (MP2 X) (MD X) s (Qa P.kl (by decide)) rfl P λk s P=>⟨decide ((0:Int)<(s.wk.length:Nat)),?_,λhc R' _ T=>?_,λhc=>?_⟩
 ·exact bM (.p (zmw X s (Cxd P0 d))<| .c<| .z (two (.bool (decide ((0:Int)<(s.wk.length:Nat)))) (mG X s))) (by kernel_rfl)
 ·obtain ⟨wk,y,hw⟩: ∃wk y,s.wk=wk++ [y]:=⟨s.wk.dropLast,s.wk.getLast (List.ne_nil_of_length_pos (Jw.mp (dT hc):0<s.wk.length)),(KH _).symm⟩
  refine (zzu (d:=d) O P hw).elim λs' zq3=>?_;have e1:bI (Cxd P0 d) (.ref (X.h.length+2)) nPop [] (mG X s) (mG X s)=some (.int y,mG X {s with wk:=wk}):=by
   exact W.eq (zkQ zfW (by rw [<-(by rw [hw];exact Qy .. :iVs s.wk=iVs wk++ [.int y])];exact zfW) ⟨rfl,zke⟩)
  exact run (.p (e1)<| .s (zq3.2)<| .z (T.nx s' zq3.1)) (by kernel_rfl)
 ·exact ⟨P.l,P.B,λy xs e1=>P.c y xs e1 (by rw [(JB.mp (by have:=dF hc;lia):s.wk= [])];exact Qq)⟩
end
theorem zmy {f b:Nat}{fs:List Nat}{xss:List (List Nat)} (hd:2<=d) (I:IsM R h L M) (hf:h[f]?=some (.list (iVs fs))) (A:j7 h b xss) (hl:xss.length=M.arcs.length) (hfs: ∀s∈fs,s<M.arcs.length) (hfl:fs.length<=10000) (hxs: ∀xs∈xss,xs.length<=100000/\∀o∈xs,o<M.arcs.length)
  (q: ∀mb t,mb.length=M.arcs.length->sU fs xss mb->(∀ (s:Nat) xs,mb[s]?=some true->xss[s]?=some xs-> ∀o∈xs,mb[o]?=some true) ->(h++t)[h.length+1]?=some (.list (mb.map Val.bool)) ->Q (.ref (h.length+1)) (h++t)):WF P0 d 124 [.ref L.m,.ref f,.ref b] h Q:=by
 refine bJ (K:=1) hd (some (.ref L.m)::some (.ref f)::some (.ref b)::nn 10) iO (by kernel_rfl) λd' h'=>?_;obtain ⟨s,P,e⟩:=zzw (d:=d') (⟨A,hl,I.lim,hfs,hfl,λ_ _ _=>trivial,hxs⟩:MOk ⟨h,L.m,f,b,.list [.bool false],M.arcs.length,fs,xss⟩);have h1:=P.h1;rw [QR] at h1;have hw:s.wk=fs:=P.w;have P2:MP2 ⟨h,L.m,f,b,.list [.bool false],M.arcs.length,fs,xss⟩ (2*lC s.mb+s.wk.length) s:=⟨rfl,by
   have h2:lC s.mb<=s.mb.length:=List.countP_le_length ..;rw [show s.mb.length=M.arcs.length from P.l] at h2
   have:=I.lim
   rw [hw]
   lia,P.l,⟨h1,λT p1 _ y hy=>p1 y (P.h2 y hy)⟩,λy hy=>h1 y (hw▸hy),λy xs hy hn=>absurd (hw.symm▸P.h2 y hy) hn⟩
 refine (zzv (d:=d') (⟨A,hl,I.lim,hfs,hfl,λ_ _ _=>trivial,hxs⟩:MOk ⟨h,L.m,f,b,.list [.bool false],M.arcs.length,fs,xss⟩) P2).elim λs' zq1=>?_;have e1:gA .mul (.ref h.length) (.int M.arcs.length) (h++ [.list [.bool false]])=some (.ref (h.length+1),h++ [.list [.bool false],.list ((QB M.arcs.length false).map Val.bool)]):=by
  refine W.eq (zbu (n:=M.arcs.length) aV (fC (Qk I.lim (by decide))) (by show 1*_<=_;rw [JV];exact fC (Qk I.lim (by decide))) ⟨by rw [Qv];rfl,?_⟩);rw [zbM,Qm,<-KU];rfl
 have e2:aM (Cxd P0 d') (.ty yR) [.ref f] (h++ [.list [.bool false],.list ((QB M.arcs.length false).map Val.bool)])=some (.ref (h.length+2),mG ⟨h,L.m,f,b,.list [.bool false],M.arcs.length,fs,xss⟩ (m0 ⟨h,L.m,f,b,.list [.bool false],M.arcs.length,fs,xss⟩)):=by
  refine W.eq (zhp (aB hf) ⟨by rw [Qv];rfl,?_⟩);rw [Qm];rfl
 exact run (.p (eP (h:=h++ [.list [.bool false]]) h' I.app)<| .p (e1)<| .p (e2)<| .s (e)<| .s (zq1.2)<| .z (q s'.mb [.list [.bool false],.list (s'.mb.map Val.bool),.list (iVs s'.wk)] zq1.1.l zq1.1.B zq1.1.c iL)) (by kernel_rfl)
end
structure sZ (h hh:MH) (rs:List Nat) (xss:List (List Nat)):Prop where
 app: ∃t,hh=h++t
 at0:hh[h.length]?=some (.list (rs.map .ref))
 len:rs.length=xss.length
 low: ∀r∈rs,h.length<r
 nd:rs.Nodup
 row: ∀ (k r:Nat) (xs:List Nat),rs[k]?=some r->xss[k]?=some xs->hh[r]?=some (.list (iVs xs))
theorem i8 {h t:MH}{r:Nat}{o:MObj} (hr:h.length<=r):(h++t).set r o=h++t.set (r-h.length) o:=ZQ _ _ hr
theorem sZ.push {h hh:MH}{rs:List Nat}{xss:List (List Nat)}{k r s:Nat}{xs:List Nat} (A:sZ h hh rs xss) (hr:rs[k]?=some r) (hx:xss[k]?=some xs):sZ h (hh.set r (.list (iVs (xs++ [s])))) rs (xss.set k (xs++ [s])):=by
 refine A.app.elim λt zq12=>?_;obtain rfl:=zq12;have hm:=A.low r (Qd hr);refine ⟨⟨_,i8 (QC hm)⟩,aZ (JI hm) A.at0,by rw [QL];exact A.len,A.low,A.nd,λk' r' xs' hr' hx'=>?_⟩;by_cases e:k=k'
 ·subst e
  rw [hr] at hr';cases hr';rw [QI (aH hx)] at hx';cases hx';exact bS (A.row k r xs hr hx)
 ·rw [QJ e] at hx'
  refine aZ (λq=>?_) (A.row k' r' xs' hr' hx');subst q;obtain ⟨l1,e1⟩:=Qg.mp hr;refine (Qg.mp hr').elim λl2 zq10=>?_;exact e (Z3 A.nd|>.mp (e1.trans zq10.symm))
theorem sZ.isAdj {h hh:MH}{rs:List Nat}{xss:List (List Nat)} (A:sZ h hh rs xss):j7 hh h.length xss:=⟨rs,A.at0,A.len,A.row⟩
section
variable {R:Rg}{d:Nat}{h h0:MH}{Q:Val->MH->Prop}{L:Ly}{M:Mc R.α}
structure dG (M:Mc R.α) (i j:Nat) (xss:List (List Nat)):Prop where
 len:xss.length=M.arcs.length
 sum:(xss.map JK).sum=((M.arcs.take i).map JK).sum+j
 mem: ∀ (k:Nat) xs,xss[k]?=some xs-> ∀s,s∈xs ↔ ∃ys,M.arcs[s]?=some ys/\((s<i/\∃a∈ys,a.t=k)\/(s=i/\∃a∈ys.take j,a.t=k))
theorem dG.step {i j k:Nat}{xss:List (List Nat)}{xs:List Nat}{ys:List (Ar R.α)}{a:Ar R.α} (B:dG M i j xss) (hy:M.arcs[i]?=some ys) (ha:ys[j]?=some a) (hk:a.t=k) (hx:xss[k]?=some xs):dG M i (j+1) (xss.set k (xs++ [i])):=by
 obtain ⟨hkl,e⟩:=Qg.mp hx;subst e;refine ⟨by rw [QL];exact B.len,by rw [zbX hkl,B.sum];exact Q1 _ _ _,λk' xs' hx' s=>?_⟩;have tk: ∀ {b},b∈ys.take (j+1) ↔ b∈ys.take j\/b=a:=λ{b} =>by
  rw [JD,ha,QU];simp
 by_cases e:k=k'
 ·subst e
  rw [QI hkl] at hx';cases hx';rw [QU,B.mem k _ hx s,Qu]
  constructor
  ·rintro (⟨zs,h1,h2| ⟨h2,b,h3,h4⟩⟩|rfl)
   ·exact ⟨zs,h1,.inl h2⟩
   ·exact ⟨zs,h1,.inr ⟨h2,b,by subst h2;rw [hy] at h1;cases h1;exact tk.mpr (.inl h3),h4⟩⟩
   ·exact ⟨ys,hy,.inr ⟨rfl,a,tk.mpr (.inr rfl),hk⟩⟩
  ·rintro ⟨zs,h1,h2| ⟨rfl,b,h3,h4⟩⟩
   ·exact .inl ⟨zs,h1,.inl h2⟩
   ·exact .inr rfl
 ·rw [QJ e] at hx'
  rw [B.mem k' xs' hx' s]
  constructor
  ·rintro ⟨zs,h1,h2| ⟨h2,b,h3,h4⟩⟩
   ·exact ⟨zs,h1,.inl h2⟩
   ·exact ⟨zs,h1,.inr ⟨h2,b,by subst h2;rw [hy] at h1;cases h1;exact tk.mpr (.inl h3),h4⟩⟩
  ·rintro ⟨zs,h1,h2| ⟨h2,b,h3,h4⟩⟩
   ·exact ⟨zs,h1,.inl h2⟩
   ·refine ⟨zs,h1,.inr ⟨h2,b,?_,h4⟩⟩
    subst h2;rw [hy] at h1;cases h1;rcases tk.mp h3 with h3|rfl
    ·exact h3
    ·exact absurd (hk.symm.trans h4) e
theorem dG.next {i:Nat}{xss:List (List Nat)}{ys:List (Ar R.α)} (B:dG M i ys.length xss) (hy:M.arcs[i]?=some ys):dG M (i+1) 0 xss:=by
 obtain ⟨hil,e⟩:=Qg.mp hy;refine ⟨B.len,?_,λk xs hx s=>?_⟩
 ·rw [B.sum,ZD hil,Qy,KL,e];simp
 ·rw [B.mem k xs hx s]
  constructor
  ·rintro ⟨zs,h1,⟨h2,h3⟩| ⟨h2,h3⟩⟩
   ·exact ⟨zs,h1,.inl ⟨Xo _ h2,h3⟩⟩
   ·subst h2;rw [hy] at h1;cases h1
    rw [QR] at h3;exact ⟨ys,hy,.inl ⟨QD _,h3⟩⟩
  ·rintro ⟨zs,h1,⟨h2,h3⟩| ⟨h2,b,h3,_⟩⟩
   ·by_cases e:s=i
    ·subst e;rw [hy] at h1;cases h1
     exact ⟨ys,hy,.inr ⟨rfl,by rw [QR];exact h3⟩⟩
    ·exact ⟨zs,h1,.inl ⟨Jh (QP h2) e,h3⟩⟩
   ·exact absurd h3 Qq
theorem sZ.im {hh:MH}{rs:List Nat}{xss:List (List Nat)} (A:sZ h hh rs xss) (I:IsM R h L M):IsM R hh L M:=by obtain ⟨t,rfl⟩:=A.app;exact I.app
theorem sZ.up {hh:MH}{rs:List Nat}{xss:List (List Nat)}{a:Nat}{o:MObj} (A:sZ h hh rs xss) (e:h[a]?=some o):hh[a]?=some o:=by obtain ⟨t,rfl⟩:=A.app;exact aB e
structure BS where
 g:MH
 xss:List (List Nat)
 a:Option Val:=none
 b:Option Val:=none
abbrev bkF (L:Ly) (n:Nat) (a b:Option Val):Internal.Frame:=some (.ref L.m)::some (.ref n)::a::b::nn 6
structure BP (h:MH) (M:Mc R.α) (rs:List Nat) (i j:Nat) (s:BS):Prop where
 A:sZ h s.g rs s.xss
 B:dG M i j s.xss
abbrev bkB:List Sm:= [.expr (.meth (.sub (.var 1) (.attr (.var 3) gR)) nAppend [.var 2])]
abbrev bkL:Sm:= .fo [3] false (.sub (.attr (.var 0) aQ) (.var 2)) bkB
theorem zjx (I:IsM R h L M) {i j k:Nat}{xss:List (List Nat)}{xs:List Nat} (B:dG M i j xss) (hi:i<M.arcs.length) (hj:j<(aAt M i).length) (hx:xss[k]?=some xs):xs.length<1000000:=by
 have h1:=wD (Qd hx);rw [B.sum] at h1;have h2:=nC I (i+1);rw [jS hi] at h2;exact Qk (Qa h1 (Qa (Ql (QC hj) _) h2)) (Qk I.cl (by decide))
theorem zm7 {i:Nat}{rs:List Nat}{s:BS} (I:IsM R h L M) (ht: ∀ys∈M.arcs,∀a∈ys,a.t<M.arcs.length) (hi:i<M.arcs.length) (P:BP h M rs i 0 s):
  ∃s',BP h M rs (i+1) 0 s'/\exec (Cxd P0 d) bkL (bkF L h.length (some (.int i)) s.b) s.g=some ((.nx,bkF L h.length (some (.int i)) s'.b),s'.g):=by
 refine (I.rowR hi).elim λr zq6=>zq6.elim λas zq7=>?_;have hr:=zq7.1;have J:=P.A.im I;have hie:M.arcs[i]?=some (aAt M i):=by unfold aAt;rw [Qc hi];rfl
 refine (foL (c:=Cxd P0 d) (tg:=[3]) (many:=false) (a:=r) (e:=.sub (.attr (.var 0) aQ) (.var 2)) (b:=bkB) (vs:=as.map .ref) (λs:BS=>bkF L h.length (some (.int i)) s.b) BS.g (λj=>BP h M rs i j) s (zq7.2.1.le I zq7.2.2) rfl (λj s P=>P.A.up zq7.2.1.l) (by exact bM (.v (dM J)<| .v (sl J.arcs hr)<| .z (two (.ref r) s.g)) (by kernel_rfl)) P λj v s X _ hv P T=>?_).elim λs' q=>⟨s',⟨q.1.A,(zq7.2.1.n▸q.1.B).next hie⟩,q.2⟩;obtain ⟨b,x,rfl,hx,hb⟩:=zq7.2.1.a j v hv;have htg:=ht _ zq7.2.2 x (Qd hx);have hr':=Qc (l:=rs) (i:=x.t) (by rw [P.A.len,P.B.len];exact htg);have hx':=Qc (l:=s.xss) (i:=x.t) (by rw [P.B.len];exact htg);refine c8 ?_;exact run (.v (gTg (P.A.up hb))<| .v (sl P.A.at0 (lW hr'))<| .p (zvi (Cxd P0 d) i (P.A.row _ _ _ hr' hx') (zjx I P.B hi (aH hx) hx'))<| .z (T.nx ⟨_,_,s.a,some (.ref b)⟩ ⟨P.A.push hr' hx',P.B.step hie hx rfl hx'⟩)) (by kernel_rfl)
theorem zvg:dG M 0 0 (QB M.arcs.length []):=by
 refine ⟨Q5,by simp,λk xs hx s=>?_⟩;rw [Jm (Qd hx)];exact ⟨λh=>absurd h Qq,λ⟨ys,_,q⟩=>q.elim (λq=>absurd q.1 (QX _)) λq=>q.2.elim λb q=>absurd q.1 Qq⟩
abbrev adH (h:MH) (n:Nat):MH:=h++MObj.list ((QO (h.length+1) n).map Val.ref)::QB n (.list [])
theorem zzK {n:Nat}:sZ h (adH h n) (QO (h.length+1) n) (QB n []):=by
 refine ⟨⟨_,rfl⟩,aV,by rw [Zo,Q5],λr hr=>(List.mem_range'_1.mp hr).1,List.nodup_range' ..,λk r xs hr hx=>?_⟩;obtain ⟨hk,e⟩:=Qg.mp hr;rw [List.getElem_range',JV,Q1,J6 1] at e;rw [Zo] at hk;rw [Jm (Qd hx),<-e,iL];show (QB _ _)[k]?=_;rw [JJ,if_pos hk];rfl
theorem zju (I:IsM R h L M):eval (Cxd P0 d) (.comp (.list []) [4] false (.attr (.var 0) aQ) []) (some (.ref L.m)::nn 9) h=some (.ref h.length,adH h M.arcs.length):=by
 have hn:(L.rows.map Val.ref).length<200000:=by
  rw [Qe,I.len];exact Qk I.lim (by decide)
 refine W.eq (mD (a:=L.aA) (vs:=L.rows.map .ref) (λ_ ys t=>ys=(QO (h.length+1) ys.length).map Val.ref/\t=QB ys.length (.list [])) hn (fC hn) ?_);refine W.of (a:=.ref L.aA) (W.eq (by exact bM (.v (dM I)<| .z (two (.ref L.aA) h)) (by kernel_rfl):WE (Cxd P0 d) (some (.ref L.m)::nn 9) (.attr (.var 0) aQ) h λv g=>v= .ref L.aA/\g=h)) ⟨rfl,I.arcs,⟨rfl,rfl⟩,λys t v J hv=>?_,λys t hl J=>?_⟩
 ·refine zbt (zbs ⟨[.list []],by rw [Qm];rfl,?_,?_⟩)
  ·rw [(λy=>by rw [Qv];rfl: ∀y:Val,(ys++ [y]).length=ys.length+1),Xb,Qy,<-J.1]
   congr 2
   rw [Qv,JA,J.2,Q5,JV,Q1,J6 1]
  ·rw [(λy=>by rw [Qv];rfl: ∀y:Val,(ys++ [y]).length=ys.length+1),J4,<-J.2]
 ·obtain ⟨J1,J2⟩:=J
  rw [Qe,I.len] at hl;rw [hl] at J1 J2;subst J1;subst J2;exact ⟨rfl,rfl⟩
theorem zjw (hd:2<=d) (I:IsM R h L M) (ht: ∀ys∈M.arcs,∀a∈ys,a.t<M.arcs.length) (q: ∀t xss,dG M M.arcs.length 0 xss->j7 (h++t) h.length xss->Q (.ref h.length) (h++t)):WF P0 d 123 [.ref L.m] h Q:=by
 refine bJ (K:=1) hd (some (.ref L.m)::nn 9) eF (by kernel_rfl) λd' h'=>?_;have A0:=zzK (h:=h) (n:=M.arcs.length);obtain ⟨s,P,e⟩:=foR (c:=Cxd P0 d') (x:=2) (n:=M.arcs.length) (e:=.call (.lit (.ty 491260897125)) [.meth (.var 0) jG []]) (b:=[bkL]) (λs:BS=>bkF L h.length s.a s.b) BS.g (λi=>BP h M (QO (h.length+1) M.arcs.length) i 0) ⟨_,_,none,none⟩ (wC I) rfl (by exact bM (.p (eP h' (A0.im I))<| .c<| .z (two (.rng M.arcs.length) (adH h M.arcs.length))) (by kernel_rfl)) ⟨A0,zvg⟩ λi s X _ hi P T=>by
  refine (zm7 (d:=d') I ht hi P).elim λs' zq2=>?_;exact run (.s (zq2.2)<| .z (T.nx ⟨s'.g,s'.xss,some (.int i),s'.b⟩ ⟨zq2.1.A,zq2.1.B⟩)) (by kernel_rfl)
 obtain ⟨t,ht⟩:=P.A.app;have A':=P.A.isAdj;rw [ht] at A' e;exact run (.p (zju (d:=d') I)<| .s (e)<| .z (q t s.xss P.B A')) (by kernel_rfl)
end
def i9:List Nat->Nat->List (Val×Val)
 | [],_=> []
 |k::r,o=>(.int (k:Int),.int (o:Int))::i9 r (o+1)
theorem zb1 {a b:Nat}:kEq (.int a) (.int b)=(a==b):=by
 show Zb (.int a) (.int b)=_;show ((a:Int)==(b:Int))=_;by_cases h:a=b
 ·subst h;simp
 ·rw [beq_false_of_ne h,beq_false_of_ne];exact λe=>h (Ym.inj e)
theorem zfn {l:List Nat}: ∀ {o:Nat},(i9 l o).length=l.length:=by
 induction l with
 |nil=>exact rfl
 |cons k l ih=>exact congrArg (· +1) ih
theorem cN {k k' v:Val}{es:List (Val×Val)}:a9 ((k',v)::es) k=bif kEq k' k then some v else a9 es k:=by
 unfold a9;rw [Ka];cases kEq k' k<;>rfl
theorem qX {l:List Nat}{k:Nat}: ∀ {o:Nat},a9 (i9 l o) (.int k)=if k∈l then some (.int ((o+l.idxOf k:Nat):Int)) else none:=by
 induction l with
 |nil=>intro o;rfl
 |cons x l ih=>
  intro o;show a9 ((.int (x:Int),.int (o:Int))::i9 l (o+1)) _=_;rw [cN,zb1,ih];by_cases h:x=k
  ·subst h;simp
  ·rw [beq_false_of_ne h,cond_false,List.idxOf_cons,beq_false_of_ne h,cond_false]
   by_cases hk:k∈l
   ·rw [if_pos hk,if_pos (YG _ hk)]
    congr 2;lia
   ·rw [if_neg hk,if_neg λq=>(QE.mp q).elim (λe=>h e.symm) hk]
theorem zc0 {l:List Nat}{k:Nat}: ∀ {o:Nat},i9 (l++ [k]) o=i9 l o++ [(.int (k:Int),.int ((o+l.length:Nat):Int))]:=by
 induction l with
 |nil=>intro o;rfl
 |cons x l ih=>
  intro o;show _::i9 (l++ [k]) (o+1)=_;rw [ih,show o+(x::l).length=o+1+l.length by rw [JA];lia];rfl
theorem nV {l:List Nat}{k o:Nat}:aN (i9 l o) (.int k)=true:=by cases l<;>rfl
theorem zfm {l:List Nat}{k:Nat} (hk:k∉l) {v:Val} (hv:v= .int (l.length:Nat)):fP (i9 l 0) (.int k) v=i9 (l++ [k]) 0:=by
 unfold fP;rw [qX,if_neg hk,zc0,hv,Jv];rfl
section
variable {h:MH}{Q:Val->MH->Prop}{c:Cx}
theorem zhK {a k:Nat}{l:List Nat} (ha:h[a]?=some (.list (iVs l))) (q:Q (.bool (!decide (k∈l))) h):WC .notin (.int k) (.ref a) h Q:=by
 refine zee (r:=decide (k∈l)) ?_ q;show alt ((b5 h (.ref a)).bind λvs=>vB h (.int k) vs) _=_;rw [jC ha];show alt (vB h (.int k) (iVs l)) _=_;have e:(iVs l).mapM (toD h 7)=some (l.map λ(x:Nat)=>Xp x):=by
  clear ha q
  unfold iVs
  induction l with
  |nil=>rfl
  |cons x l ih=>rw [Qz,ZW,ih];rfl
 have e2:vB h (.int k) (iVs l)=some (decide (k∈l)):=by
  unfold vB;rw [e];show some ((l.map λ(x:Nat)=>Xp x).any λy=>Zb y (.int k))=_
  congr 1
  rw [List.any_map]
  clear ha q e
  induction l with
  |nil=>rfl
  |cons x l ih=>
   have ex:Zb (.int (x:Int)) (.int (k:Int))=(x==k):=zb1;rw [List.any_cons,ih];show (Zb (.int (x:Int)) (.int (k:Int))||decide (k∈l))=_;rw [ex];by_cases hx:x=k
   ·subst hx;simp
   ·rw [beq_false_of_ne hx,YV]
    by_cases hk:k∈l
    ·rw [decide_eq_true hk,decide_eq_true (YG _ hk)]
    ·rw [decide_eq_false hk,decide_eq_false λq=>(QE.mp q).elim (λe=>hx e.symm) hk]
 rw [e2];rfl
end
section
variable {R:Rg}{h h':MH}{S:List Nat}
theorem cU.pre {g t:MH} (K:cU (g++t) h' S) (hs: ∀a∈S,g.length<=a): ∃t',h'=g++t':=by
 refine ⟨h'.drop g.length,?_⟩;have hl:=K.len;rw [Qv] at hl
 have:g=h'.take g.length:=by
  refine kF (by rw [JN];exact Zx (Yv (Qj _) (Qa (Qf _ _) hl)) (QP (QK (Z9 _ _)))) λi o hi=>?_;have hlt:=bT hi;rw [List.getElem?_take,if_pos hlt];exact K.at' i o (λq=>absurd (hs i q) (Xz.mpr hlt)) (aB hi)
 conv=>rhs;lhs;rw [this]
 exact (Zt ..).symm
end
section
variable {R:Rg}{d:Nat}{h h0:MH}{Q:Val->MH->Prop}{L:Ly}{M:Mc R.α}
structure bD (M:Mc R.α) (p k:Nat):Prop where
 st:M.start<M.arcs.length
 arc: ∀ys∈M.arcs,∀a∈ys,a.t<M.arcs.length/\lab a.up/\lab a.lo/\R.D p k a.w/\a.w≠R.zero
 fst:R.D p k M.first
 ed: ∀e∈M.ends,R.D p k e
 bd:4*p+k<=3800
 n:M.arcs.length<=300
 c:M.cnt<=300
def onw (M:Mc R.α):List (List Nat):=M.arcs.map λr=>r.map Ar.t
def zbc (xss:List (List Nat)) (mb:List Bool):Prop:= ∀ (s:Nat) xs,mb[s]?=some true->xss[s]?=some xs-> ∀o∈xs,mb[o]?=some true
def m9 (M:Mc R.α) (k:Nat):Bool:=!@decide (M.ends[k]?.getD R.zero=R.zero) (R.deq _ _)
structure xF (M:Mc R.α) (ks:List Nat) (mb1 mb2:List Bool) (xss:List (List Nat)):Prop where
 l1:mb1.length=M.arcs.length
 m1:sU [M.start] (onw M) mb1
 c1:zbc (onw M) mb1
 l2:mb2.length=M.arcs.length
 m2:sU (eJ (m9 M) M.arcs.length) xss mb2
 c2:zbc xss mb2
 b2:dG M M.arcs.length 0 xss
 ks:ks=eJ (λk=>mb1[k]?.getD false && mb2[k]?.getD false) M.arcs.length
def eAt (M:Mc R.α) (k:Nat):R.α:=M.ends[k]?.getD R.zero
def fL (ks:List Nat) (xs:List (Ar R.α)):List (Ar R.α):=xs.filterMap λa=>if a.t∈ks then some {a with t:=ks.idxOf a.t} else none
inductive iJ (M:Mc R.α) (ks:List Nat) (T:Mc R.α):Prop
 |full (h1:M.start∈ks) (h2:M.first≠R.zero) (ha:T.arcs=ks.map λk=>fL ks (aAt M k)) (he:T.ends=ks.map (eAt M)) (hs:T.start=ks.idxOf M.start) (hf:T.first=M.first):iJ M ks T
 |bare (h1:M.start∉ks\/M.first=R.zero) (ha:T.arcs= [[]]) (he:T.ends= [R.zero]) (hs:T.start=0) (hf:T.first=R.one):iJ M ks T
theorem pR {p:Nat->Bool}{n k:Nat} (h:k∈eJ p n):k<n/\p k=true:=by
 have:=KN.mp h
 exact ⟨J8.mp this.1,this.2⟩
theorem zbP {p:Nat->Bool}{n:Nat}:(eJ p n).Nodup:=Yo.filter _
theorem IsM.end_at (I:IsM R h L M) {k:Nat} (hk:k<M.arcs.length):(M.ends.map R.e)[k]?=some (R.e (eAt M k)):=by
 have:k<M.ends.length:=by rw [I.lenE];exact hk
 unfold eAt;rw [Qo,Qc this];rfl
structure TS (h g:MH) (m D aK:Nat) (ks l:List Nat) (L:Ly) (M:Mc R.α):Prop where
 pre: ∃t,g=h++t
 kK:g[aK]?=some (.list (iVs ks))
 dD: ∃ep,g[D]?=some (.dict ep (i9 l 0))
 I:IsM R g L M
 em:L.m=m
 own: ∀a∈own L,h.length<=a/\a≠aK/\a≠D
theorem TS.kept {g g':MH}{m D aK:Nat}{ks l:List Nat}{L':Ly}{M':Mc R.α} (S:TS h g m D aK ks l L M) (K:cU g g' (Tactic.own L)) (I':IsM R g' L' M') (em:L'.m=L.m) (ho: ∀a∈Tactic.own L',a∈Tactic.own L\/g.length<=a):TS h g' m D aK ks l L' M':=by
 refine S.pre.elim λt zq36=>?_;obtain rfl:=zq36;obtain ⟨ep,hD⟩:=S.dD;have lt:h.length<=(h++t).length:=by rw [Qv];exact Qf _ _
 have l1:=bT S.kK;have l2:=bT hD;refine ⟨K.pre λa ha=>(S.own a ha).1,K.at' _ _ (λq=>(S.own _ q).2.1 rfl) S.kK,⟨ep,K.at' _ _ (λq=>(S.own _ q).2.2 rfl) hD⟩,I',em.trans S.em,λa ha=>?_⟩;rcases ho a ha with ha|ha
 ·exact S.own a ha
 ·exact ⟨Qa lt ha,JI (Qi l1 ha),JI (Qi l2 ha)⟩
theorem IsM.other {D:Nat}{ep:Option Nat}{es:List (Val×Val)}{o:MObj} (I:IsM R h L M) (hD:h[D]?=some (.dict ep es)):IsM R (h.set D o) L M:=by
 have g: ∀ (a:Nat) (x:MObj),h[a]?=some x->(∀ep es,x≠ .dict ep es) ->(h.set D o)[a]?=some x:=λa x e hn=>aZ (λq=>by subst q;exact hn _ _ (Qx.inj (e.symm.trans hD))) e;refine ⟨g _ _ I.obj nofun,g _ _ I.arcs nofun,g _ _ I.ends nofun,I.len,I.lenE,λk r xs hr hx=>?_,I.nd,I.lim,I.ct,I.cl,I.ds.to λ_ _ _ e=>g _ _ e nofun⟩;refine (I.rows k r xs hr hx).mono λa x e ho=>?_;rcases ho with ⟨y,rfl⟩|rfl
 ·exact g _ _ e nofun
 ·obtain ⟨as,h1,_⟩:=I.rows k a xs hr hx
  refine g _ _ e ?_;rw [h1] at e;cases e
  nofun
theorem TS.put {g:MH}{m D aK x:Nat}{ks l:List Nat}{ep:Option Nat} (S:TS h g m D aK ks l L M) (hh:h.length<=D) (hx:x∉l):TS h (g.set D (.dict ep (i9 (l++ [x]) 0))) m D aK ks (l++ [x]) L M:=by
 refine S.dD.elim λep' zq33=>?_;refine S.pre.elim λt zq32=>?_;obtain rfl:=zq32;exact ⟨⟨_,i8 hh⟩,aZ (ne_of zq33 S.kK nofun) S.kK,⟨ep,bS zq33⟩,S.I.other zq33,S.em,S.own⟩
theorem qU {r:Nat}: ∀a∈Tactic.own (L.more r),a∈Tactic.own L\/a=r:=λa ha=>by
 simp only [Tactic.own,Ly.more,QE,QU,Qq,or_false] at ha ⊢;rcases ha with h|h|h|h|h
 ·exact .inl (.inl h)
 ·exact .inl (.inr (.inl h))
 ·exact .inl (.inr (.inr (.inl h)))
 ·exact .inl (.inr (.inr (.inr h)))
 ·exact .inr h
structure ST (M:Mc R.α) (ks:List Nat) (i j:Nat) (T:Mc R.α):Prop where
 al:T.arcs.length=ks.length
 a: ∀ (m k:Nat),ks[m]?=some k->T.arcs[m]?=some (if m<i then fL ks (aAt M k) else if m=i then fL ks ((aAt M k).take j) else [])
 e: ∀ (m k:Nat),ks[m]?=some k->T.ends[m]?=some (if m<i then eAt M k else R.zero)
 c:T.cnt<=i*300+j
theorem qB {ks:List Nat}{xs:List (Ar R.α)}{a:Ar R.α}:fL ks (xs++ [a])=fL ks xs++if a.t∈ks then [{a with t:=ks.idxOf a.t}] else []:=by
 unfold fL;rw [List.filterMap_append]
 congr 1
 by_cases h:a.t∈ks
 ·simp [h]
 ·simp [h]
theorem ST.skip {ks:List Nat}{i j k:Nat}{T:Mc R.α}{a:Ar R.α} (S:ST M ks i j T) (hk:ks[i]?=some k) (ha:(aAt M k)[j]?=some a) (hn:a.t∉ks):ST M ks i (j+1) T:=by
 refine ⟨S.al,λm k' hk'=>?_,S.e,Jd S.c⟩;rw [S.a m k' hk'];by_cases h1:m<i
 ·rw [if_pos h1,if_pos h1]
 ·rw [if_neg h1,if_neg h1]
  by_cases h2:m=i
  ·subst h2
   rw [hk] at hk';cases hk';rw [if_pos rfl,if_pos rfl,JD,ha];show some _=some (fL ks (_++ [a]));rw [qB,if_neg hn,Q7]
  ·rw [if_neg h2,if_neg h2]
theorem ST.add {ks:List Nat}{i j k:Nat}{T:Mc R.α}{a:Ar R.α} (S:ST M ks i j T) (hk:ks[i]?=some k) (ha:(aAt M k)[j]?=some a) (hn:a.t∈ks):ST M ks i (j+1) (T.arc i {a with t:=ks.idxOf a.t}):=by
 refine ⟨by show (T.arcs.set i _).length=_;rw [QL];exact S.al,λm k' hk'=>?_,S.e,by have:=S.c;show T.cnt+1<=_;exact Qa (QA this (Qj _)) (Qt (Q1 _ _ _))⟩;show (T.arcs.set i (T.arcs[i]?.getD []++ [{a with t:=ks.idxOf a.t}]))[m]?=_;by_cases h2:i=m
 ·subst h2
  rw [hk] at hk';cases hk';rw [QI (by rw [S.al];exact aH hk:i<T.arcs.length),S.a i k hk,if_neg (Q2 _),if_pos rfl,if_neg (Q2 _),if_pos rfl,JD,ha];show some _=some (fL ks (_++ [a]));rw [qB,if_pos hn];rfl
 ·rw [QJ h2,S.a m k' hk']
  by_cases h1:m<i
  ·rw [if_pos h1,if_pos h1]
  ·rw [if_neg h1,if_neg h1,if_neg (JE h2),if_neg (JE h2)]
theorem ST.next {ks:List Nat}{i k:Nat}{T:Mc R.α} (S:ST M ks i (aAt M k).length T) (hk:ks[i]?=some k) (hl:(aAt M k).length<=300) (hE:T.ends.length=T.arcs.length):ST M ks (i+1) 0 {T with ends:=T.ends.set i (eAt M k)}:=by
 refine ⟨S.al,λm k' hk'=>?_,λm k' hk'=>?_,Qa S.c (Qa (Ql hl _) (Qt (Nat.succ_mul i 300).symm))⟩
 ·rw [S.a m k' hk']
  by_cases h1:m<i
  ·rw [if_pos h1,if_pos (Q4 h1)]
  ·rw [if_neg h1]
   by_cases h2:m=i
   ·subst h2
    rw [hk] at hk';cases hk';rw [if_pos rfl,if_pos (QD _),QR]
   ·rw [if_neg h2,if_neg (Q6 (QM (Jh (Q0 h1) (JE h2))))]
    by_cases h3:m=i+1
    ·rw [if_pos h3];rfl
    ·rw [if_neg h3]
 ·show (T.ends.set i (eAt M k))[m]?=_
  by_cases h2:i=m
  ·subst h2
   rw [hk] at hk';cases hk';rw [QI (by rw [hE,S.al];exact aH hk:i<T.ends.length),if_pos (QD _)]
  ·rw [QJ h2,S.e m k' hk']
   by_cases h1:m<i
   ·rw [if_pos h1,if_pos (Q4 h1)]
   ·rw [if_neg h1,if_neg (Q6 (QM (Jh (Q0 h1) h2)))]
structure TrS (R:Rg) where
 g:MH
 L:Ly
 M:Mc R.α
 a:Option Val
 b:Option Val
structure TX (R:Rg) where
 h:MH
 L:Ly
 M:Mc R.α
 ks:List Nat
 m:Nat
 D:Nat
 aK:Nat
 o1:Option Val
 o3:Option Val
 o4:Option Val
 p:Nat
 k:Nat
def tFr (X:TX R) (a b:Option Val):Internal.Frame:=some (.ref X.L.m)::X.o1::a::X.o3::X.o4::some (.ref X.aK)::some (.ref X.m)::some (.ref X.D)::b::nn 6
structure TOk (X:TX R):Prop where
 I:IsM R X.h X.L X.M
 G:bD X.M X.p X.k
 ks: ∀x∈X.ks,x<X.M.arcs.length
 nk:X.ks.Nodup
 n:X.ks.length<=300
 D:X.h.length<=X.D
abbrev TSx (X:TX R) (l:List Nat) (s:TrS R):Prop:=TS X.h s.g X.m X.D X.aK X.ks l s.L s.M
variable {X:TX R}{R':Fl->Internal.Frame->MH->Prop}
theorem TS.im {g:MH}{m D aK:Nat}{ks l:List Nat}{L1:Ly}{M1:Mc R.α} (S:TS h g m D aK ks l L1 M1) (I:IsM R h L M):IsM R g L M:=by obtain ⟨t,rfl⟩:=S.pre;exact I.app
theorem TS.up {g:MH}{m D aK:Nat}{ks l:List Nat}{L1:Ly}{M1:Mc R.α} (S:TS h g m D aK ks l L1 M1) {a:Nat}{o:MObj} (e:h[a]?=some o):g[a]?=some o:=by obtain ⟨t,rfl⟩:=S.pre;exact aB e
structure TP1 (X:TX R) (i:Nat) (s:TrS R):Prop where
 S:TSx X (X.ks.take i) s
 a:s.M.arcs=QB i []
 e:s.M.ends=QB i R.zero
 c:s.M.cnt=0
theorem inN (k:Nat) {D:Nat}{ep:Option Nat}{l:List Nat} (hD:h[D]?=some (.dict ep (i9 l 0))):dQ .isin (.int k) (.ref D) h=some (decide (k∈l)):=by
 show alt ((b5 h (.ref D)).bind _) ((dictAt h (.ref D)).bind λd=>grd (aN d.2 (.int k)) (some (a9 d.2 (.int k)).isSome))=_;rw [jD hD,fQ hD];show grd (aN (i9 l 0) (.int k)) (some (a9 (i9 l 0) (.int k)).isSome)=_;rw [nV,qX];by_cases hk:k∈l
 ·rw [if_pos hk,decide_eq_true hk];rfl
 ·rw [if_neg hk,decide_eq_false hk];rfl
theorem sN {D k i:Nat}{ep:Option Nat}{l:List Nat} (hD:h[D]?=some (.dict ep (i9 l 0))) (hk:k∈l) (hi:l.idxOf k=i):bV h (.ref D) (.int k)=some (.int i):=sd hD nV (by rw [qX,if_pos hk,Jv,hi])
theorem zgk {l:List Nat} (nk:l.Nodup) {i x:Nat} (hx:l[i]?=some x):l.idxOf x=i:=by
 rw [<-(Qg.mp hx).2];exact nk.idxOf_getElem i (aH hx)
theorem zer {l:List Nat} (nk:l.Nodup) {i x:Nat} (hx:l[i]?=some x):x∉l.take i:=λhq=>by
 obtain ⟨j,hj,e⟩:=Zf.mp hq;rw [JN] at hj;rw [List.getElem_take] at e
 have:=Z3 nk|>.mp (e.trans (Qg.mp hx).2.symm)
 exact absurd (this▸Qi hj (Z9 _ _)) (Q2 _)
theorem zey {a:Nat} (ha:a∈ [L.aA,L.aE]):a∈Tactic.own L:=(QE.mp ha).elim (λe=>e▸ .tail _ (.head _)) λha=>(Qu.mp ha)▸ .tail _ (.tail _ (.head _))
abbrev tB1:List Sm:= [.asg (.sb (.var 7) (.var 2)) (.meth (.var 6) fD [])]
theorem znP {i x:Nat}{s:TrS R} (hd:5<=d) (O:TOk X) (P:TP1 X i s) (hx:X.ks[i]?=some x) (q: ∀s',TP1 X (i+1) s'->R' .nx (tFr X s'.a s'.b) s'.g):
  WSs (Cxd P0 d) tB1 (tFr X (some (.int x)) s.b) s.g R':=by
 have hi:=aH hx;have em:=P.S.em;have hl1:s.M.arcs.length=i:=by rw [P.a,Q5]
 have hli:(X.ks.take i).length=i:=by rw [JN,ZL (QC hi)]
 have hxn:=zer O.nk hx;have hil:=Qi hi O.n;refine (xZ (d:=d) (Qa (by decide) hd) P.S.I (by rw [hl1];exact Q8 hil (by decide))).elim λg' zq29=>?_;have e1:=zq29.1;have S':=P.S.kept (zq29.2.2.sub λa ha=>zey ha) zq29.2.1 rfl λa ha=>(qU a ha).imp id λe=>Qt e.symm;rw [em] at e1;obtain ⟨ep,hD⟩:=S'.dD;have e2:=zh1 (v:=.int s.M.arcs.length) hD (nV (k:=x)) (by rw [zfn,hli];exact Q8 hil (by decide));rw [zfm hxn (by rw [hl1,hli])] at e2;have S'':=S'.put (ep:=bif (a9 (i9 (X.ks.take i) 0) (.int x)).isSome then ep else ep.map (· +1)) O.D hxn;rw [(by rw [JD,hx];rfl:X.ks.take i++ [x]=X.ks.take (i+1))] at S'' e2;exact run (.p (e1)<| .h (e2)<| .z (q ⟨_,s.L.more s.g.length,s.M.more,some (.int x),s.b⟩ ⟨S'',by show s.M.arcs++ [[]]=_;rw [P.a,J4],by show s.M.ends++ [R.zero]=_;rw [P.e,J4],P.c⟩)) (by kernel_rfl)
structure TP2 (X:TX R) (i j:Nat) (s:TrS R):Prop where
 S:TSx X X.ks s
 T:ST X.M X.ks i j s.M
abbrev tB2:List Sm:= [.ite (.cmp .isin (.attr (.var 8) kM) (.var 7)) [.expr (.meth (.var 6) 6386275 [.sub (.var 7) (.var 2),.attr (.var 8) nq7,.attr (.var 8) nq8,.attr (.var 8) nq9,.sub (.var 7) (.attr (.var 8) kM)])] []]
theorem znO {i j x b:Nat}{y:Ar R.α}{s:TrS R} (hd:5<=d) (O:TOk X) (P:TP2 X i j s) (hx:X.ks[i]?=some x) (hje:(aAt X.M x)[j]?=some y) (hj:j<300) (hA:X.h[b]?=some (cS R y)) (ga:y.t<X.M.arcs.length/\lab y.up/\lab y.lo/\R.D X.p X.k y.w/\y.w≠R.zero)
  (q: ∀s',TP2 X i (j+1) s'->R' .nx (tFr X (some (.int x)) s'.b) s'.g):WSs (Cxd P0 d) tB2 (tFr X (some (.int x)) (some (.ref b))) s.g R':=by
 have S:=P.S;have T:=P.T;have hA':=S.up hA;obtain ⟨ep,hD⟩:=S.dD;cases (inferInstance:Decidable (y.t∈X.ks)) with
 |isTrue hk=>
  obtain ⟨g',e,I',K⟩:=znj (d:=d) (s:=i) (a:={y with t:=X.ks.idxOf y.t}) (Qa (by decide) hd) S.I (by rw [T.al];exact (aH hx)) (by show X.ks.idxOf y.t<_;rw [T.al];exact Js.mpr hk) ga.2.1 ga.2.2.1 ga.2.2.2.1 O.G.bd (Qk T.c (by
   have:i*300<=299*300:=JG _ (QP (Qi (aH hx) O.n))
   exact Qi (ZY this hj) (Qn _ _))) ga.2.2.2.2
  rw [S.em] at e;exact run (.v (gTg hA')<| .b (inN y.t hD)<| .t (decide_eq_true hk)<| .v (sN hD (Qd hx) (zgk O.nk hx))<| .v (gUp hA')<| .v (gLo hA')<| .v (gWt hA')<| .v (gTg hA')<| .v (sN hD hk rfl)<| .p (e)<| .z (q ⟨g',s.L,_,s.a,some (.ref b)⟩ ⟨S.kept K I' rfl λa ha=> .inl ha,T.add hx hje hk⟩)) (by kernel_rfl)
 |isFalse hk=>exact run (.v (gTg hA')<| .b (inN y.t hD)<| .f (decide_eq_false hk)<| .z (q ⟨s.g,s.L,s.M,s.a,some (.ref b)⟩ ⟨S,T.skip hx hje hk⟩)) (by kernel_rfl)
abbrev tL2:Sm:= .fo [8] false (.sub (.attr (.var 0) 1634886515) (.var 2)) tB2
theorem zld {i x:Nat}{s:TrS R} (hd:5<=d) (O:TOk X) (P:TP2 X i 0 s) (hx:X.ks[i]?=some x): ∃s',TP2 X i (aAt X.M x).length s'/\exec (Cxd P0 d) tL2 (tFr X (some (.int x)) s.b) s.g=some ((.nx,tFr X (some (.int x)) s'.b),s'.g):=by
 refine (O.I.rowR (O.ks x (Qd hx))).elim λr zq25=>zq25.elim λas zq26=>?_;have hr:=zq26.1;have J:=P.S.im O.I;rw [<-zq26.2.1.n];exact foL (c:=Cxd P0 d) (tg:=[8]) (many:=false) (a:=r) (e:=.sub (.attr (.var 0) 1634886515) (.var 2)) (b:=tB2) (vs:=as.map .ref) (λs':TrS R=>tFr X (some (.int x)) s'.b) TrS.g (λj=>TP2 X i j) s (zq26.2.1.le O.I zq26.2.2) rfl (λj s P=>P.S.up zq26.2.1.l) (by exact bM (.v (dM J)<| .v (sl J.arcs hr)<| .z (two (.ref r) s.g)) (by kernel_rfl)) P λj v s' R1 _ hv P1 T1=>by
  refine (zq26.2.1.a j v hv).elim λb zq23=>zq23.elim λy zq24=>?_;obtain rfl:=zq24.1;exact c8 (znO hd O P1 hx zq24.2.1 (Qi (aH zq24.2.1) (Qa (O.I.cr _ zq26.2.2) O.G.c)) zq24.2.2 (O.G.arc _ zq26.2.2 y (Qd zq24.2.1)) T1.nx)
abbrev tB3:List Sm:= [tL2,.asg (.sb (.attr (.var 6) lS) (.sub (.var 7) (.var 2))) (.sub (.attr (.var 0) lS) (.var 2))]
theorem znN {i x:Nat}{s:TrS R} (hd:5<=d) (O:TOk X) (P:TP2 X i 0 s) (hx:X.ks[i]?=some x) (q: ∀s',TP2 X (i+1) 0 s'->R' .nx (tFr X s'.a s'.b) s'.g):WSs (Cxd P0 d) tB3 (tFr X (some (.int x)) s.b) s.g R':=by
 obtain ⟨s',P',e⟩:=zld (d:=d) hd O P hx;have hxk:=Qd hx;have hxn:=O.ks x hxk;have S:=P'.S;obtain ⟨ep,hD⟩:=S.dD;obtain ⟨g',e2,I',K⟩:=pQ (s:=i) (eAt X.M x) S.I (by rw [P'.T.al];exact aH hx);have J:=S.im O.I;have eE:getAttr P0 s'.g (.ref X.m) cQ=some (.ref s'.L.aE):=S.em▸lG S.I;exact run (.s (e)<| .v (lG J)<| .v (sl J.ends (O.I.end_at hxn))<| .v (eE)<| .v (sN hD hxk (zgk O.nk hx))<| .h (e2)<| .z (q ⟨g',s'.L,_,some (.int x),s'.b⟩ ⟨S.kept K I' rfl λa ha=> .inl ha,P'.T.next hx (Qa (O.I.cr _ (by unfold aAt;rw [Qc hxn];exact Jg hxn:aAt X.M x∈X.M.arcs)) O.G.c) S.I.lenE⟩)) (by kernel_rfl)
section
variable (hd:5<=d) (O:TOk X)
include hd O
theorem kLe:(iVs X.ks).length<=100000:=by rw [dJ];exact Qa O.n (by decide)
theorem zle {s:TrS R} (P:TP1 X 0 s): ∃s',TP1 X X.ks.length s'/\exec (Cxd P0 d) (.fo [2] false (.var 5) tB1) (tFr X s.a s.b) s.g=some ((.nx,tFr X s'.a s'.b),s'.g):=by
 rw [<-dJ];exact foL (c:=Cxd P0 d) (tg:=[2]) (many:=false) (a:=X.aK) (e:=.var 5) (b:=tB1) (vs:=iVs X.ks) (λs:TrS R=>tFr X s.a s.b) TrS.g (λi=>TP1 X i) s (kLe hd O) rfl (λi s P=>P.S.kK) (by exact bM (.z (two (.ref X.aK) s.g)) (by kernel_rfl)) P λi v s R1 _ hv P1 T1=>by
  obtain ⟨x,hx,rfl⟩:=pV hv;exact c8 (znP hd O P1 hx T1.nx)
theorem zlc {s:TrS R} (P:TP2 X 0 0 s): ∃s',TP2 X X.ks.length 0 s'/\exec (Cxd P0 d) (.fo [2] false (.var 5) tB3) (tFr X s.a s.b) s.g=some ((.nx,tFr X s'.a s'.b),s'.g):=by
 rw [<-dJ];exact foL (c:=Cxd P0 d) (tg:=[2]) (many:=false) (a:=X.aK) (e:=.var 5) (b:=tB3) (vs:=iVs X.ks) (λs:TrS R=>tFr X s.a s.b) TrS.g (λi=>TP2 X i 0) s (kLe hd O) rfl (λi s P=>P.S.kK) (by exact bM (.z (two (.ref X.aK) s.g)) (by kernel_rfl)) P λi v s R1 _ hv P1 T1=>by
  obtain ⟨x,hx,rfl⟩:=pV hv;exact c8 (znN hd O P1 hx T1.nx)
end
theorem TP1.go {s:TrS R} (P:TP1 X X.ks.length s):TP2 X 0 0 s:=by
 have S:=P.S;unfold TSx at S;rw [QR] at S;refine ⟨S,by rw [P.a,Q5],λm k hk=>?_,λm k hk=>?_,by rw [P.c];exact Qs _⟩
 ·rw [P.a,JJ,if_pos (aH hk),if_neg (QX _)]
  by_cases h0:m=0
  ·rw [if_pos h0];rfl
  ·rw [if_neg h0]
 ·rw [P.e,JJ,if_pos (aH hk),if_neg (QX _)]
theorem ST.done {ks:List Nat}{T:Mc R.α} (T':ST M ks ks.length 0 T) (hE:T.ends.length=T.arcs.length):T.arcs=ks.map (λk=>fL ks (aAt M k))/\T.ends=ks.map (eAt M):=by
 refine ⟨kF (by rw [Qe];exact T'.al) λm y hy=>?_,kF (by rw [Qe];exact hE.trans T'.al) λm y hy=>?_⟩
 ·have hm:m<ks.length:=by rw [<-T'.al];exact aH hy
  have:=T'.a m _ (Qc hm)
  rw [if_pos hm] at this;rw [Qo,Qc hm];exact this.symm.trans hy
 ·have hm:m<ks.length:=by rw [<-T'.al,<-hE];exact aH hy
  have:=T'.e m _ (Qc hm)
  rw [if_pos hm] at this;rw [Qo,Qc hm];exact this.symm.trans hy
structure zvm (R:Rg) (h:MH) (M:Mc R.α) (ks:List Nat) (t:MH) (L':Ly) (T:Mc R.α):Prop where
 J:IsM R (h++t) L' T
 ho: ∀a∈own L',h.length<=a
 res:iJ M ks T
abbrev m3L' (m:Nat):Ly:=⟨m,m+1,m+2,[]⟩
theorem zlH {m a:Nat} (ha:a∈own (m3L' m)):m<=a/\a<=m+2:=by
 simp only [own,QE,Qq,or_false] at ha;rcases ha with rfl|rfl|rfl<;>lia
theorem zlT (k:Nat) {a:Nat}{l:List Nat} (ha:h[a]?=some (.list (iVs l))):dQ .notin (.int k) (.ref a) h=some (!decide (k∈l)):=by
 have:=zhK (k:=k) (Q:=λv _=>v= .bool (!decide (k∈l))) ha rfl
 have w:=this.w
 revert w
 cases dQ .notin (.int k) (.ref a) h with
 |none=>exact λw=>w.elim
 |some r=>exact λw=>by injection (show Val.bool r=_ from w) with w;rw [w]
theorem zlb {g:MH}{s0:TrS R} (hd:5<=d) (O:TOk X) (hs:X.M.start∈X.ks) (hz: ¬X.M.first=R.zero) (P:TP1 X 0 s0) (eg:s0.g=g) (ea:s0.b=none): ∃t L' T,∃s':TrS R,exec (Cxd P0 d) (.fo [2] false (.var 5) tB1) (tFr X s0.a none) g=some ((.nx,tFr X s'.a s'.b),s'.g)/\∃s2:TrS R,exec (Cxd P0 d) (.fo [2] false (.var 5) tB3) (tFr X s'.a s'.b) s'.g=some ((.nx,tFr X s2.a s2.b),s2.g)/\TP2 X X.ks.length 0 s2/\bI (Cxd P0 d) (.ref X.m) wF [.int (X.ks.idxOf X.M.start:Nat),R.e X.M.first] s2.g s2.g=some (.none,X.h++t)/\L'.m=X.m/\zvm R X.h X.M X.ks t L' T:=by
 subst eg;refine (zle (d:=d) hd O P).elim λs1 zq17=>?_;have e1:=zq17.2;rw [ea] at e1;refine (zlc (d:=d) hd O zq17.1.go).elim λs2 zq16=>?_;have S:=zq16.1.S;refine (zgR (d:=d) (s:=X.ks.idxOf X.M.start) (Qa (by decide) hd) S.I (by rw [zq16.1.T.al];exact Js.mpr hs) O.G.fst O.G.bd).elim λg' zq15=>?_;have e3:=zq15.1;have S':=S.kept zq15.2.2 zq15.2.1 rfl λa ha=> .inl ha;refine S'.pre.elim λt zq14=>?_;rw [S.em,zq14] at e3;exact ⟨t,s2.L,{s2.M with start:=X.ks.idxOf X.M.start,first:=X.M.first},s1,e1,s2,zq16.2,zq16.1,e3,S.em,zq14▸zq15.2.1,λa ha=>(S'.own a ha).1,.full hs hz (zq16.1.T.done S.I.lenE).1 (zq16.1.T.done S.I.lenE).2 rfl rfl⟩
theorem zhU {p k aK:Nat}{t0 t1:MH}{ks:List Nat}{o1 o2 o3 o4:Option Val} (I:IsM R h L M) (G:bD M p k) (hks: ∀x∈ks,x<M.arcs.length) (nk:ks.Nodup) (hK:(h++t0)[aK]?=some (.list (iVs ks))) (J:IsM R (h++t0++t1) ⟨(h++t0).length,(h++t0).length+1,(h++t0).length+2,[]⟩ (M0 (R:=R))):
  TOk (⟨h,L,M,ks,(h++t0).length,(h++t0++t1).length,aK,o1,o3,o4,p,k⟩:TX R)/\TP1 (⟨h,L,M,ks,(h++t0).length,(h++t0++t1).length,aK,o1,o3,o4,p,k⟩:TX R) 0 ⟨h++t0++t1++ [.dict (some 0) []],⟨(h++t0).length,(h++t0).length+1,(h++t0).length+2,[]⟩,M0,o2,none⟩:=by
 have hm:h.length<=(h++t0).length:=by rw [Qv];exact Qf _ _
 have kl:=nk.length_le_of_subset (l₂:=QS M.arcs.length) λx hx=>J8.mpr (hks x hx);rw [QZ] at kl;refine ⟨⟨I,G,hks,nk,Qa kl G.n,Qa hm (by rw [Qv (as:=h++t0)];exact Qf _ _:(h++t0).length<=(h++t0++t1).length)⟩,⟨⟨t0++(t1++ [.dict (some 0) []]),by rw [<-Qm,<-Qm]⟩,aB (aB hK),⟨some 0,aV⟩,J.app,rfl,λa ha=>?_⟩,rfl,rfl,rfl⟩
 have:=zlH ha
 exact ⟨Qa hm this.1,λe=>absurd (e▸(bT hK)) (ZV.mpr this.1),λe=>absurd (e▸Qk this.2 (bT J.ends)) (Q2 _)⟩
theorem zen {p k:Nat}{g:MH}{ks:List Nat}{aK:Nat}{o1 o2 o3 o4:Option Val} (hd:5<=d) (I:IsM R h L M) (G:bD M p k) (hks: ∀x∈ks,x<M.arcs.length) (nk:ks.Nodup) (eg: ∃t,g=h++t) (hK:g[aK]?=some (.list (iVs ks)))
  (q: ∀t L' T,IsM R (h++t) L' T->(∀a∈own L',h.length<=a) ->iJ M ks T->Q (.ref L'.m) (h++t)):WSs (Cxd P0 d) (cM.drop 5) (some (.ref L.m)::o1::o2::o3::o4::some (.ref aK)::nn 9) g (Internal.Fin Q):=by
 obtain ⟨t0,rfl⟩:=eg;have I0:IsM R (h++t0) L M:=I.app;refine (zfu (d:=d) R (Qa (by decide) hd) (h++t0)).elim λt1 zq12=>?_;have e1:=zq12.1;have I1:IsM R (h++t0++t1) L M:=I0.app;have hK1:=aB (t:=t1) hK;have hm:h.length<=(h++t0).length:=by rw [Qv];exact Qf _ _
 have bare:(M.start∉ks\/M.first=R.zero) -> ∃t',bI (Cxd P0 d) (.ref (h++t0).length) fD [] (h++t0++t1) (h++t0++t1)=some (.int 0,h++t')/\Q (.ref (h++t0).length) (h++t'):=λhb=>by
  refine (xZ (d:=d) (Qa (by decide) hd) zq12.2 (by show 0<10000;decide)).elim λg' zq11=>?_;have K':=zq11.2.2;rw [Qm] at K';obtain ⟨t',rfl⟩:=K'.pre λa ha=>Qa hm (zlH (m:=(h++t0).length) (zey (L:=m3L' (h++t0).length) ha)).1;refine ⟨t',zq11.1,q t' _ _ zq11.2.1 (λa ha=>?_) (.bare hb rfl rfl rfl rfl)⟩;exact (qU a ha).elim (λha=>Qa hm (zlH (m:=(h++t0).length) ha).1) λe=>e▸Qa hm (by rw [Qv (as:=h++t0)];exact Qf _ _)
 cases (inferInstance:Decidable (M.start∈ks)) with
 |isFalse hs=>
  obtain ⟨t',e2,q⟩:=bare (.inl hs);have hb:(!decide (M.start∈ks))=true:=by rw [decide_eq_false hs];rfl
  exact run (.v (c6 I0)<| .p (e1)<| .v (jJ I1)<| .b (zlT M.start hK1)<| .t (hb)<| .t (hb)<| .p (e2)<| .z (q)) (by kernel_rfl)
 |isTrue hs=>
  have hb:(!decide (M.start∈ks))=false:=by rw [decide_eq_true hs];rfl
  cases R.deq M.first R.zero with
  |isTrue hz=>
   refine (bare (.inr hz)).elim λt' zq8=>?_;exact run (.v (c6 I0)<| .p (e1)<| .v (jJ I1)<| .b (zlT M.start hK1)<| .f (hb)<| .v (nZ I1)<| .v (c6 I1)<| .w (R.no)<| .k (R.qe M.first R.zero)<| .t (R.yes hz)<| .p (zq8.1)<| .z (zq8.2)) (by kernel_rfl)
  |isFalse hz=>
   have zq7:=zhU (o1:=o1) (o2:=o2) (o3:=o3) (o4:=o4) I G hks nk hK zq12.2;refine (zlb (d:=d) hd zq7.1 hs hz zq7.2 rfl rfl).elim λt zq2=>zq2.elim λL' zq3=>zq3.elim λT zq4=>zq4.elim λs1 zq5=>zq5.2.elim λs2 zq6=>?_;have em:=zq6.2.2.2.1;have em:L'.m=(h++t0).length:=em;obtain ⟨ep,hD⟩:=zq6.2.1.S.dD;exact run (.v (c6 I0)<| .p (e1)<| .v (jJ I1)<| .b (zlT M.start hK1)<| .f (hb)<| .v (nZ I1)<| .v (c6 I1)<| .w (R.no)<| .k (R.qe M.first R.zero)<| .f (R.not hz)<| .c<| .s (zq5.1)<| .s (zq6.1)<| .v (jJ (zq6.2.1.S.im I:IsM R s2.g L M))<| .v (sN hD hs rfl)<| .v (nZ (zq6.2.1.S.im I:IsM R s2.g L M))<| .p (zq6.2.2.1)<| .z ((show Internal.Fin Q (.rt (.ref (h++t0).length)) [] (h++t) from em▸q t L' T zq6.2.2.2.2.J zq6.2.2.2.2.ho zq6.2.2.2.2.res))) (by kernel_rfl)
end
section
variable {R:Rg}{d:Nat}{h h0:MH}{Q:Val->MH->Prop}{L:Ly}{M:Mc R.α}
theorem zm8 {xss:List (List Nat)} (B:dG M M.arcs.length 0 xss) (I:IsM R h L M) (G: ∀ys∈M.arcs,∀a∈ys,a.t<M.arcs.length): ∀xs∈xss,xs.length<=100000/\∀o∈xs,o<M.arcs.length:=λxs hx=>by
 have h2:=B.sum;rw [QR,I.ct] at h2;refine ⟨Qa (wD hx) (h2▸I.cl),λo ho=>?_⟩;obtain ⟨k,hk,rfl⟩:=Zf.mp hx;refine ((B.mem k _ (Qc hk) o).mp ho).elim λys zq34=>?_;exact aH zq34.1
theorem zkr {c:Cx}{it e:Ex}{x n:Nat}{fr:Internal.Frame} (p:Nat->Bool) (hn:n<=100000) (hc:c.fuel=200000) (hx: ∀i:Nat,(fr.set x (some (.int (i:Int))))[x]?=some (some (.int (i:Int)))) (e0:WE c fr it h λv g=>v= .rng n/\g=h)
  (step: ∀i,i<n-> ∀acc,WE c (fr.set x (some (.int i))) e (h++ [.list acc]) λv g=>v= .bool (p i)/\g=h++ [.list acc]):eval c (.comp (.var x) [x] false it [e]) fr h=some (.ref h.length,h++ [.list (iVs (eJ p n))]):=by
 refine W.eq (zea p (by rw [hc];exact Qk hn (by decide)) (Qa hn (by decide)) (e0.mono λv g q=>?_));obtain rfl:=q.1;obtain rfl:=q.2;refine ⟨rfl,λi hi acc=>zd2 ((step i hi acc).mono λv g q=>?_),hx,rfl,rfl⟩;obtain rfl:=q.1;obtain rfl:=q.2;exact zbp ⟨λhb=>vD ⟨rfl,hb.symm⟩,λhb=>⟨rfl,hb.symm⟩⟩
theorem Rg.qn (a b:R.α) (h:MH):dQ .ne (R.e a) (R.e b) h=some (!@decide (a=b) (R.deq a b)):=Internal.ne_of (R.veq_ok h a b)
abbrev trF (L:Ly) (o1 o3 o4:Option Val):Internal.Frame:=some (.ref L.m)::o1::none::o3::o4::nn 10
theorem zmU {o1:Option Val} (hd:1<=d) (I:IsM R h L M):eval (Cxd P0 d) (.comp (.var 9) [9] false (.call (.lit (.ty 491260897125)) [.meth (.var 0) jG []]) [.cmp .ne (.sub (.attr (.var 0) cQ) (.var 9)) (.attr (.attr (.var 0) dY) mS)]) (trF L o1 none none) h=some (.ref h.length,h++ [.list (iVs (eJ (m9 M) M.arcs.length))]):=
 zkr (m9 M) (wC I) rfl (λ_=>rfl) (by exact bM (.p (eP hd I)<| .c<| .z (two (.rng M.arcs.length) h)) (by kernel_rfl)) λi hi acc=>by
  have J:IsM R (h++ [.list acc]) L M:=I.app;exact bM (.v (lG J)<| .v (sl J.ends (I.end_at hi))<| .v (c6 J)<| .w (R.no)<| .k (R.qn (eAt M i) R.zero)<| .z (two (.bool (m9 M i)) (h++ [.list acc]))) (by kernel_rfl)
theorem zmN {a1 a2:Nat}{o3:Option Val}{mb1 mb2:List Bool} (hd:1<=d) (I:IsM R h L M) (h1:h[a1]?=some (.list (mb1.map Val.bool))) (h2:h[a2]?=some (.list (mb2.map Val.bool))) (l1:mb1.length=M.arcs.length) (l2:mb2.length=M.arcs.length):eval (Cxd P0 d) (.comp (.var 9) [9] false (.call (.lit (.ty 491260897125)) [.meth (.var 0) jG []]) [.bop false [.sub (.var 1) (.var 9),.sub (.var 4) (.var 9)]]) (trF L (some (.ref a1)) o3 (some (.ref a2))) h=some (.ref h.length,h++ [.list (iVs (eJ (λk=>mb1[k]?.getD false && mb2[k]?.getD false) M.arcs.length))]):=
 zkr _ (wC I) rfl (λ_=>rfl) (by exact bM (.p (eP hd I)<| .c<| .z (two (.rng M.arcs.length) h)) (by kernel_rfl)) λi hi acc=>by
  have e1:=Qc (l:=mb1) (i:=i) (l1▸hi);have e2:=Qc (l:=mb2) (i:=i) (l2▸hi)
  generalize mb1[i]'(l1▸hi)=b1 at e1
  generalize mb2[i]'(l2▸hi)=b2 at e2
  rw [e1,e2];cases b1 with
  |false=>exact bM (.v ((sl (aB (t:=[.list acc]) h1) (nE e1)))<| .c<| .z (two (.bool false) (h++ [.list acc]))) (by kernel_rfl)
  |true=>exact bM (.v ((sl (aB (t:=[.list acc]) h1) (nE e1)))<| .c<| .v ((sl (aB (t:=[.list acc]) h2) (nE e2)))<| .z (two (.bool b2) (h++ [.list acc]))) (by kernel_rfl)
theorem zlJ (hd:1<=d) (I:IsM R h L M): ∃t,∃b:Nat,aM (Cxd P0 d) (.top 125) [.ref L.m] h=some (.ref b,h++t)/\j7 (h++t) b (onw M):=by
 obtain ⟨v,g,e,t,b,rfl,rfl,q⟩:=W.get (dO (P:=P0) (d:=d) rfl (zcX (Q:=λv g=> ∃t b,v= .ref b/\g=h++t/\j7 (h++t) b (onw M)) hd I λt b A=>⟨t,b,rfl,rfl,A⟩));exact ⟨t,b,e,q⟩
structure zjL (h t:MH) (n a:Nat) (fs:List Nat) (xss:List (List Nat)) (mb:List Bool):Prop where
 l:mb.length=n
 B:sU fs xss mb
 c:zbc xss mb
 at':(h++t)[a]?=some (.list (mb.map Val.bool))
theorem zfZ {f b:Nat}{fs:List Nat}{xss:List (List Nat)} (hd:2<=d) (I:IsM R h L M) (hf:h[f]?=some (.list (iVs fs))) (A:j7 h b xss) (hl:xss.length=M.arcs.length) (hfs: ∀s∈fs,s<M.arcs.length) (hfl:fs.length<=10000) (hxs: ∀xs∈xss,xs.length<=100000/\∀o∈xs,o<M.arcs.length):
  ∃t,∃a:Nat,aM (Cxd P0 d) (.top 124) [.ref L.m,.ref f,.ref b] h=some (.ref a,h++t)/\∃mb,zjL h t M.arcs.length a fs xss mb:=by
 obtain ⟨v,g,e,t,a,rfl,rfl,q⟩:=W.get (dO (P:=P0) (d:=d) rfl (zmy (Q:=λv g=> ∃t a,v= .ref a/\g=h++t/\∃mb,zjL h t M.arcs.length a fs xss mb) hd I hf A hl hfs hfl hxs λmb t l B c m=>⟨t,_,rfl,rfl,mb,l,B,c,m⟩));exact ⟨t,a,e,q⟩
theorem zjy (hd:2<=d) (I:IsM R h L M) (ht: ∀ys∈M.arcs,∀a∈ys,a.t<M.arcs.length): ∃t,∃b:Nat,aM (Cxd P0 d) (.top 123) [.ref L.m] h=some (.ref b,h++t)/\∃xss,dG M M.arcs.length 0 xss/\j7 (h++t) b xss:=by
 obtain ⟨v,g,e,t,b,rfl,rfl,q⟩:=W.get (dO (P:=P0) (d:=d) rfl (zjw (Q:=λv g=> ∃t b,v= .ref b/\g=h++t/\∃xss,dG M M.arcs.length 0 xss/\j7 (h++t) b xss) hd I ht λt xss B A=>⟨t,_,rfl,rfl,xss,B,A⟩));exact ⟨t,b,e,q⟩
theorem zvC {p k:Nat} (hd:5<=d) (I:IsM R h L M) (G:bD M p k): ∃t,∃b:Nat,aM (Cxd P0 d) (.top 125) [.ref L.m] (h++ [.list [.int M.start]])=some (.ref b,h++ [.list [.int M.start]]++t)/\∃t2,∃a:Nat,aM (Cxd P0 d) (.top 124) [.ref L.m,.ref h.length,.ref b] (h++ [.list [.int M.start]]++t)=some (.ref a,h++t2)/\∃mb,zjL h t2 M.arcs.length a [M.start] (onw M) mb:=by
 refine (zlJ (d:=d) (h:=h++ [.list [.int M.start]]) (Qa (by decide) hd) I.app).elim λt zq20=>zq20.elim λb zq21=>?_;obtain ⟨t2,a,e2,mb,m⟩:=zfZ (d:=d) (f:=h.length) (fs:=[M.start]) (Qa (by decide) hd) I.app.app (aB aV) zq21.2 (Qe ..) (λs hs=>by rw [Qu.mp hs];exact G.st) (by show 1<=10000;decide) λxs hx=>by
  obtain ⟨ys,hy,rfl⟩:=QF.mp hx;refine ⟨by rw [Qe];exact Qa (I.cr _ hy) I.cl,λo ho=>?_⟩;obtain ⟨a,ha,rfl⟩:=QF.mp ho;exact (G.arc ys hy a ha).1
 have hg:((h++ [MObj.list [.int M.start]])++t)++t2=h++([MObj.list [.int M.start]]++t++t2):=by rw [Qm,Qm,Qm]
 exact ⟨t,b,zq21.1,[MObj.list [.int M.start]]++t++t2,a,hg▸e2,mb,m.l,m.B,m.c,hg▸m.at'⟩
theorem zvB {p k:Nat} (hd:5<=d) (I:IsM R h L M) (G:bD M p k): ∃t,∃b:Nat,aM (Cxd P0 d) (.top 123) [.ref L.m] (h++ [.list (iVs (eJ (m9 M) M.arcs.length))])=some (.ref b,h++ [.list (iVs (eJ (m9 M) M.arcs.length))]++t)/\∃t2,∃a:Nat,aM (Cxd P0 d) (.top 124) [.ref L.m,.ref h.length,.ref b] (h++ [.list (iVs (eJ (m9 M) M.arcs.length))]++t)=some (.ref a,h++t2)/\∃mb xss,dG M M.arcs.length 0 xss/\zjL h t2 M.arcs.length a (eJ (m9 M) M.arcs.length) xss mb:=by
 refine (zjy (d:=d) (h:=h++ [.list (iVs (eJ (m9 M) M.arcs.length))]) (Qa (by decide) hd) I.app (λys hy a ha=>(G.arc ys hy a ha).1: ∀ys∈M.arcs,∀a∈ys,a.t<M.arcs.length)).elim λt zq15=>zq15.elim λb zq16=>zq16.2.elim λxss zq17=>?_;refine (zfZ (d:=d) (f:=h.length) (fs:=eJ (m9 M) M.arcs.length) (Qa (by decide) hd) I.app.app (aB aV) zq17.2 zq17.1.len (λs hs=>(pR hs).1) (Qa qR I.lim) (zm8 zq17.1 I (λys hy a ha=>(G.arc ys hy a ha).1: ∀ys∈M.arcs,∀a∈ys,a.t<M.arcs.length))).elim λt2 zq12=>zq12.elim λa zq13=>zq13.2.elim λmb zq14=>?_;have hg:((h++ [MObj.list (iVs (eJ (m9 M) M.arcs.length))])++t)++t2=h++([MObj.list (iVs (eJ (m9 M) M.arcs.length))]++t++t2):=by rw [Qm,Qm,Qm]
 exact ⟨t,b,zq16.1,_,a,hg▸zq13.1,mb,xss,zq17.1,zq14.l,zq14.B,zq14.c,hg▸zq14.at'⟩
abbrev trK (M:Mc R.α) (mb1 mb2:List Bool):List Nat:=eJ (λk=>mb1[k]?.getD false && mb2[k]?.getD false) M.arcs.length
theorem zhQ {p k:Nat} (hd:6<=d) (I:IsM R h L M) (G:bD M p k) (q: ∀t L' T ks mb1 mb2 xss,IsM R (h++t) L' T->(∀a∈own L',h.length<=a) ->xF M ks mb1 mb2 xss->iJ M ks T->Q (.ref L'.m) (h++t)):WF P0 d 133 [.ref L.m] h Q:=by
 refine bJ (K:=5) hd (some (.ref L.m)::nn 14) cM (by kernel_rfl) λd' h'=>?_;have d1:1<=d':=Qa (by decide) h';refine (zvC (d:=d') h' I G).elim λt1 zq7=>zq7.elim λb1 zq8=>zq8.2.elim λt2 zq9=>zq9.elim λa1 zq10=>zq10.2.elim λmb1 zq11=>?_;have m1:=zq11;have I2:IsM R (h++t2) L M:=I.app;refine (zvB (d:=d') h' I2 G).elim λt3 zq1=>zq1.elim λb2 zq2=>zq2.2.elim λt4 zq3=>zq3.elim λa2 zq4=>zq4.2.elim λmb2 zq5=>zq5.elim λxss zq6=>?_;have B:=zq6.1;have m2:=zq6.2;refine dH (a:=cM.take 5) (b:=cM.drop 5) ?_;exact run (.p (eP d1 I)<| .k (eqi M.arcs.length 0)<| .f ((beq_false_of_ne λe=>absurd G.st (by rw [Zi.mp e];exact QX _):((M.arcs.length:Int)==0)=false))<| .v (jJ I)<| .p (zq8.1)<| .p (zq10.1)<| .p (zmU (o1:=some (.ref a1)) d1 I2)<| .p (zq2.1)<| .p (zq4.1)<| .p (zmN (o3:=some (.ref (h++t2).length)) d1 (I2.app:IsM R (h++t2++t4) L M) (aB m1.at') m2.at' m1.l m2.l)<| .z (dC (zen (Q:=Q) (g:=h++t2++t4++ [.list (iVs (trK M mb1 mb2))]) (o1:=some (.ref a1)) (o2:=none) (o3:=some (.ref (h++t2).length)) (o4:=some (.ref a2)) h' I G (λx hx=>(pR hx).1) zbP ⟨t2++(t4++ [.list (iVs (trK M mb1 mb2))]),by rw [Qm,Qm]⟩ aV λt' L' T J ho TR=>q t' L' T _ mb1 mb2 xss J ho ⟨m1.l,m1.B,m1.c,m2.l,m2.B,m2.c,B,rfl⟩ TR))) (by kernel_rfl)
end
abbrev b7 (i j:Nat):Val:= .tup [.int (i:Int),.int (j:Int)]
theorem y7 {i j i' j':Nat}:kEq (b7 i j) (b7 i' j')=(i==i' && j==j'):=by
 show Zb (.tuple [.int i,.int j]) (.tuple [.int i',.int j'])=_;have e: ∀ {a b:Nat},((a:Int)==(b:Int))=(a==b):=λ{a b} =>by
  by_cases h:a=b
  ·subst h;simp
  ·rw [beq_false_of_ne h,beq_false_of_ne];exact λe=>h (Ym.inj e)
 show (((i:Int)==(i':Int)) && (((j:Int)==(j':Int)) && true))=_;rw [e,e,Yf]
def j6 (es:List (Val×Val)):Prop:= ∀p∈es,∃i j,p.1=b7 i j
theorem u5 {es:List (Val×Val)}{i j:Nat} (K:j6 es):aN es (b7 i j)=true:=by
 cases es with
 |nil=>rfl
 |cons p r=>
  obtain ⟨a,b,e⟩:=K p (.head _);obtain ⟨x,y⟩:=p;cases e;rfl
theorem zdF {es:List (Val×Val)}{i j i' j':Nat}{v:Val} (K:j6 es):a9 (es.map λp=>bif kEq p.1 (b7 i j) then (p.1,v) else p) (b7 i' j')=if i=i'/\j=j' then (a9 es (b7 i' j')).map λ_=>v else a9 es (b7 i' j'):=by
 induction es with
 |nil=>by_cases h:i=i'/\j=j'<;>simp [h] <;>rfl
 |cons p r ih=>
  obtain ⟨a,b,e⟩:=K p (.head _);obtain ⟨x,y⟩:=p;cases e;rw [Qz,y7];by_cases h1:a=i/\b=j
  ·obtain ⟨rfl,rfl⟩:=h1
   rw [beq_self_eq_true,beq_self_eq_true,Bool.and_self,cond_true,cN,cN,y7];by_cases h2:a=i'/\b=j'
   ·obtain ⟨rfl,rfl⟩:=h2
    simp
   ·have:(a==i' && b==j')=false:=by
     rw [JW];by_cases h3:a=i'
     ·exact .inr (beq_false_of_ne λe=>h2 ⟨h3,e⟩)
     ·exact .inl (beq_false_of_ne h3)
    rw [this,cond_false,cond_false,(ih λp hp=>K p (.tail _ hp))]
  ·have:(a==i && b==j)=false:=by
    rw [JW];by_cases h3:a=i
    ·exact .inr (beq_false_of_ne λe=>h1 ⟨h3,e⟩)
    ·exact .inl (beq_false_of_ne h3)
   rw [this,cond_false,cN,cN,y7,(ih λp hp=>K p (.tail _ hp))];by_cases h2:a=i'/\b=j'
   ·obtain ⟨rfl,rfl⟩:=h2
    have h4: ¬(i=a/\j=b):=λh=>h1 ⟨h.1.symm,h.2.symm⟩
    simp [h4]
   ·have:(a==i' && b==j')=false:=by
     rw [JW];by_cases h3:a=i'
     ·exact .inr (beq_false_of_ne λe=>h2 ⟨h3,e⟩)
     ·exact .inl (beq_false_of_ne h3)
    rw [this,cond_false,cond_false]
theorem zdG {es:List (Val×Val)}{k v k':Val}:a9 (es++ [(k,v)]) k'=(a9 es k').or (bif kEq k k' then some v else none):=by
 induction es with
 |nil=>rw [KJ,cN];rfl
 |cons p r ih=>
  obtain ⟨x,y⟩:=p;rw [ZG,cN,cN,ih];cases kEq x k'<;>rfl
theorem zdE {es:List (Val×Val)}{i j i' j':Nat}{v:Val} (K:j6 es):a9 (fP es (b7 i j) v) (b7 i' j')=if i=i'/\j=j' then some v else a9 es (b7 i' j'):=by
 unfold fP;cases hg:a9 es (b7 i j) with
 |some x=>
  rw [K1,cond_true,zdF K];by_cases h:i=i'/\j=j'
  ·obtain ⟨rfl,rfl⟩:=h
   rw [if_pos ⟨rfl,rfl⟩,if_pos ⟨rfl,rfl⟩,hg];rfl
  ·rw [if_neg h,if_neg h]
 |none=>
  rw [K2,cond_false,zdG,y7];by_cases h:i=i'/\j=j'
  ·obtain ⟨rfl,rfl⟩:=h
   rw [if_pos ⟨rfl,rfl⟩,hg];simp
  ·rw [if_neg h]
   have:(i==i' && j==j')=false:=by
    rw [JW];by_cases h3:i=i'
    ·exact .inr (beq_false_of_ne λe=>h ⟨h3,e⟩)
    ·exact .inl (beq_false_of_ne h3)
   rw [this,cond_false,Option.or_none]
theorem uZ {es:List (Val×Val)}{i j:Nat}{v:Val} (K:j6 es):j6 (fP es (b7 i j) v)/\(fP es (b7 i j) v).length<=es.length+1:=by
 unfold fP;cases hg:a9 es (b7 i j) with
 |some x=>
  rw [K1,cond_true];refine ⟨λp hp=>?_,by rw [Qe];exact Qf _ _⟩;obtain ⟨q,hq,rfl⟩:=QF.mp hp;cases kEq q.1 (b7 i j)
  ·exact K q hq
  ·exact K q hq
 |none=>
  rw [K2,cond_false];refine ⟨λp hp=>?_,by rw [Qv];exact Qj _⟩;rcases QU.mp hp with hp|hp
  ·exact K p hp
  ·rw [Qu.mp hp];exact ⟨i,j,rfl⟩
section
variable {R:Rg}{d:Nat}{h h0:MH}{Q:Val->MH->Prop}{L:Ly}{M:Mc R.α}
def cR (R:Rg) (n:Nat):List R.α:=QB n R.zero
structure RW (R:Rg) (h g:MH) (D N c:Nat) (Ad:Nat->Nat->Option Nat) (V:Nat->Nat->List R.α):Prop where
 pre: ∃t,g=h++t
 lowD:h.length<=D
 dd: ∃ep es,g[D]?=some (.dict ep es)/\j6 es/\es.length<=c/\∀i j,a9 es (b7 i j)=(Ad i j).map Val.ref
 inj: ∀i j i' j' a,Ad i j=some a->Ad i' j'=some a->i=i'/\j=j'
 low: ∀i j a,Ad i j=some a->h.length<=a
 row: ∀ (i j a:Nat),Ad i j=some a->g[a]?=some (.list ((V i j).map R.e))
 non: ∀i j,Ad i j=none->V i j=cR R N
 len: ∀i j,(V i j).length=N
def upd {β:Type} (f:Nat->Nat->β) (i j:Nat) (x:β):Nat->Nat->β:=λa b=>if a=i/\b=j then x else f a b
theorem a5 {β:Type}{f:Nat->Nat->β}{i j:Nat}{x:β}:upd f i j x i j=x:=if_pos ⟨rfl,rfl⟩
theorem bN {β:Type}{f:Nat->Nat->β}{i j a b:Nat}{x:β} (h: ¬(a=i/\b=j)):upd f i j x a b=f a b:=if_neg h
theorem RW.app {g t:MH}{D N c:Nat}{Ad:Nat->Nat->Option Nat}{V:Nat->Nat->List R.α} (S:RW R h g D N c Ad V):RW R h (g++t) D N c Ad V:=by
 refine S.pre.elim λt0 zq9=>?_;obtain rfl:=zq9;refine S.dd.elim λep zq7=>zq7.elim λes zq8=>?_;exact ⟨⟨_,Qm ..⟩,S.lowD,⟨ep,es,aB zq8.1,zq8.2⟩,S.inj,S.low,λi j a ha=>aB (S.row i j a ha),S.non,S.len⟩
theorem RW.setRow {g:MH}{D N c i j a:Nat}{Ad:Nat->Nat->Option Nat}{V:Nat->Nat->List R.α}{x:List R.α} (S:RW R h g D N c Ad V) (ha:Ad i j=some a) (hx:x.length=N):RW R h (g.set a (.list (x.map R.e))) D N c Ad (upd V i j x):=by
 refine S.pre.elim λt0 zq6=>?_;obtain rfl:=zq6;refine S.dd.elim λep zq4=>zq4.elim λes zq5=>?_;have hr:=S.row i j a ha;refine ⟨⟨_,i8 (S.low i j a ha)⟩,S.lowD,⟨ep,es,aZ (ne_of hr zq5.1 nofun) zq5.1,zq5.2⟩,S.inj,S.low,λi' j' a' ha'=>?_,λi' j' hn=>?_,λi' j'=>?_⟩
 ·by_cases e:i'=i/\j'=j
  ·obtain rfl:=e.1
   obtain rfl:=e.2;rw [ha] at ha';cases ha';rw [a5];exact bS hr
  ·rw [bN e]
   exact aZ (λq=>by subst q;exact e (S.inj _ _ _ _ _ ha' ha)) (S.row i' j' a' ha')
 ·rw [bN λe=>by obtain ⟨rfl,rfl⟩:=e;rw [ha] at hn;exact nomatch hn]
  exact S.non i' j' hn
 ·by_cases e:i'=i/\j'=j
  ·obtain ⟨rfl,rfl⟩:=e;rw [a5];exact hx
  ·rw [bN e];exact S.len i' j'
theorem RW.put {g:MH}{D N c i j a:Nat}{ep:Option Nat}{es:List (Val×Val)}{Ad:Nat->Nat->Option Nat}{V:Nat->Nat->List R.α}{x:List R.α} (S:RW R h g D N c Ad V) (hD:g[D]?=some (.dict ep es)) (ha:g[a]?=some (.list (x.map R.e))) (hl:h.length<=a) (hn: ∀i j,Ad i j≠some a) (hx:x.length=N) (ep':Option Nat):RW R h (g.set D (.dict ep' (fP es (b7 i j) (.ref a)))) D N (c+1) (upd Ad i j (some a)) (upd V i j x):=by
 refine S.pre.elim λt0 zq3=>?_;obtain rfl:=zq3;obtain ⟨ep0,es0,h1,K,hc,h2⟩:=S.dd;rw [hD] at h1;cases h1;refine ⟨⟨_,i8 S.lowD⟩,S.lowD,⟨ep',_,bS hD,(uZ (i:=i) (j:=j) (v:=.ref a) K).1,by have:=(uZ (i:=i) (j:=j) (v:=.ref a) K).2;exact Qa this (Jq hc),λi' j'=>?_⟩,λi1 j1 i2 j2 a' e1 e2=>?_,λi' j' a' e=>?_,λi' j' a' e=>?_,λi' j' e=>?_,λi' j'=>?_⟩
 ·rw [zdE K]
  by_cases e:i=i'/\j=j'
  ·obtain ⟨rfl,rfl⟩:=e;rw [if_pos ⟨rfl,rfl⟩,a5];rfl
  ·rw [if_neg e,bN λq=>e ⟨q.1.symm,q.2.symm⟩,h2]
 ·by_cases q1:i1=i/\j1=j<;>by_cases q2:i2=i/\j2=j
  ·exact ⟨q1.1.trans q2.1.symm,q1.2.trans q2.2.symm⟩
  ·obtain ⟨rfl,rfl⟩:=q1
   rw [a5] at e1;rw [bN q2] at e2;cases e1;exact absurd e2 (hn _ _)
  ·obtain ⟨rfl,rfl⟩:=q2
   rw [a5] at e2;rw [bN q1] at e1;cases e2;exact absurd e1 (hn _ _)
  ·rw [bN q1] at e1;rw [bN q2] at e2
   exact S.inj _ _ _ _ _ e1 e2
 ·by_cases q1:i'=i/\j'=j
  ·obtain ⟨rfl,rfl⟩:=q1;rw [a5] at e;cases e;exact hl
  ·rw [bN q1] at e;exact S.low _ _ _ e
 ·by_cases q1:i'=i/\j'=j
  ·obtain ⟨rfl,rfl⟩:=q1;rw [a5] at e ⊢;cases e;exact aZ (ne_of hD ha nofun) ha
  ·rw [bN q1] at e ⊢
   have:=S.row _ _ _ e
   exact aZ (ne_of hD this nofun) this
 ·by_cases q1:i'=i/\j'=j
  ·obtain ⟨rfl,rfl⟩:=q1;rw [a5] at e;exact nomatch e
  ·rw [bN q1] at e ⊢;exact S.non _ _ e
 ·by_cases q1:i'=i/\j'=j
  ·obtain ⟨rfl,rfl⟩:=q1;rw [a5];exact hx
  ·rw [bN q1];exact S.len i' j'
end
section
variable {R:Rg}{d:Nat}{h g:MH}{Q:Val->MH->Prop}{L:Ly}{M:Mc R.α}
theorem slc (s:List Nat) (a b:Nat) (h:MH):slice h (.str s) 3 [.int a,.int b]=some (.str (cut s (min a s.length) (min b s.length)),h):=by
 have e: ∀n:Nat,nD s.length (.int n)=some (min n s.length):=λn=>by
  unfold nD;simp only [Val.int?,Kv];rw [zgm (decide_eq_true (by omega)),ZR]
 exact zvQ (s:=s) (n:=3) (bs:=[.int a,.int b]) (p:=(min a s.length,min b s.length)) (by show ((nD s.length (.int a)).bind λx=>(nD s.length (.int b)).map λy=>(x,y))=_;rw [e,e];rfl)
def fit (u:List Nat) (i:Nat) (s:List Nat):Bool:=s== [] ||cut u (min i u.length) (min (i+1) u.length)==s
theorem zjg {u s:List Nat}{i:Nat} (hd:1<=d) (q:Q (.bool (fit u i s)) h):WF P0 d 129 [.str u,.int i,.str s] h Q:=by
 refine bJ (K:=0) hd (some (.str u)::some (.int i)::some (.str s)::nn 6) nH (by kernel_rfl) λd' h'=>?_;unfold fit at q;exact run (.k (eqs s [])<| .br (s== []) (λhb=> .z ((show Q (.bool (s== [])) h by rw [hb] at q ⊢;exact q))) (λhb=> .c<| .q (slc u i (i+1))<| .k (eqs (cut u (min i u.length) (min (i+1) u.length)) s)<| .z ((show Q (.bool (cut u (min i u.length) (min (i+1) u.length)==s)) h by rw [hb] at q;exact q)))) (by kernel_rfl)
theorem RW.ism {g:MH}{D N c:Nat}{Ad:Nat->Nat->Option Nat}{V:Nat->Nat->List R.α} (S:RW R h g D N c Ad V) (I:IsM R h L M):IsM R g L M:=by obtain ⟨t,rfl⟩:=S.pre;exact I.app
theorem zuv {n a:Nat} (ha:h[a]?=some (.list [R.e R.zero])) (hn:n<=10000):gA .mul (.ref a) (.int n) h=some (.ref h.length,h++ [.list ((cR R n).map R.e)]):=by
 refine W.eq (zbu (n:=n) ha (fC (by omega)) (by show 1*_<=_;rw [JV];exact fC (by omega)) ⟨rfl,?_⟩);rw [zbM,show QB n (R.e R.zero)=(cR R n).map R.e from (KU ..).symm]
theorem Rg.mulN (R:Rg) (g:MH) {n:Nat} (hn:n<=10000):gA .mul (.ref g.length) (.int n) (g++ [.list [R.e R.zero]])=some (.ref (g++ [MObj.list [R.e R.zero]]).length,g++ [.list [R.e R.zero]]++ [.list ((cR R n).map R.e)]):=zuv aV hn
theorem zlj {l:List R.α}{a s:Nat} (x:R.α) (hr:h[a]?=some (.list (l.map R.e))) (hs:s<l.length):dI h (.ref a) (.int s) (R.e x)=some (h.set a (.list ((l.set s x).map R.e))):=by rw [zlk hr (by rw [Qe];exact hs),map_set']
theorem zhn {n:Nat}:(cR R n).length=n:=by unfold cR;rw [Q5]
theorem zgu (hd:2<=d) (I:IsM R h L M) (hs:M.start<M.arcs.length) (q:Q (.ref (h.length+1)) (h++ [.list [R.e R.zero],.list (((cR R M.arcs.length).set M.start M.first).map R.e)])):WF P0 d 128 [.ref L.m] h Q:=by
 refine bJ (K:=1) hd (some (.ref L.m)::nn 7) lI (by kernel_rfl) λd' h'=>?_;have e2:=zuv (h:=h++ [MObj.list [R.e R.zero]]) (R:=R) (n:=M.arcs.length) aV I.lim;rw [(by rw [Qv];rfl:(h++ [MObj.list [R.e R.zero]]).length=h.length+1),Qm] at e2;have e3:=zlj (s:=M.start) M.first (iL (h:=h) (j:=1) (t:=[.list [R.e R.zero],.list ((cR R M.arcs.length).map R.e)])) (by rw [zhn];exact hs);rw [zeW] at e3;exact run (.v (c6 I)<| .w (R.no)<| .p (eP (h:=h++ [.list [R.e R.zero]]) h' I.app)<| .p (e2)<| .v (nZ (I.app:IsM R (h++([MObj.list [R.e R.zero]]++ [MObj.list ((cR R M.arcs.length).map R.e)])) L M))<| .v (jJ (I.app:IsM R (h++([MObj.list [R.e R.zero]]++ [MObj.list ((cR R M.arcs.length).map R.e)])) L M))<| .h (e3)<| .z ((show Internal.Fin Q (.rt (.ref (h.length+1))) [] _ from q))) (by kernel_rfl)
theorem zfs (i j:Nat) {D:Nat}{ep:Option Nat}{es:List (Val×Val)} (hD:h[D]?=some (.dict ep es)) (K:j6 es):dQ .notin (b7 i j) (.ref D) h=some (!(a9 es (b7 i j)).isSome):=by
 refine zgi ?_;show alt ((b5 h (.ref D)).bind _) ((dictAt h (.ref D)).bind λd=>grd (aN d.2 (b7 i j)) (some (a9 d.2 (b7 i j)).isSome))=_;rw [jD hD,fQ hD];show grd (aN es (b7 i j)) (some (a9 es (b7 i j)).isSome)=_;rw [u5 K];rfl
def fS (r:List R.α) (s:Nat) (x:R.α):List R.α:=r.set s (R.add (r[s]?.getD R.zero) x)
abbrev zha (L:Ly) (D i j s:Nat) (x:R.α):Internal.Frame:=some (.ref L.m)::some (.ref D)::some (b7 i j)::some (.int s)::some (R.e x)::nn 6
theorem zg5 {D i j s p k a:Nat}{x:R.α}{ep:Option Nat}{es:List (Val×Val)}{l:List R.α}{F:Fl->Internal.Frame->MH->Prop} (hd:3<=d) (I:IsM R g L M) (hD:g[D]?=some (.dict ep es)) (K:j6 es) (hk:a9 es (b7 i j)=some (.ref a)) (hr:g[a]?=some (.list (l.map R.e))) (hs:s<l.length) (hV: ∀y∈l,R.D p k y) (hx:R.D p k x) (hl:4*p+k<=3800)
  (q:F .nx (zha L D i j s x) (g.set a (.list ((fS l s x).map R.e)))):WSs (Cxd P0 d) (gC.drop 1) (zha L D i j s x) g F:=by
 exact run (.v (c6 I)<| .v (sd hD (u5 K) hk)<| .v (sl hr (tU (xD hs)))<| .q (R.pl hd (hV _ (zgS hs)) hx hl)<| .v (sd hD (u5 K) hk)<| .h (zlj (R.add (at' l s) x) hr hs)<| .z ((show F .nx (zha L D i j s x) (g.set a (.list ((fS l s x).map R.e))) from q))) (by kernel_rfl)
section
variable {D c i j s p k:Nat}{Ad:Nat->Nat->Option Nat}{V:Nat->Nat->List R.α}{x:R.α}{ep:Option Nat}{es:List (Val×Val)}
theorem zjG {a:Nat}{l:List R.α} (hd:4<=d) (I:IsM R g L M) (hD:g[D]?=some (.dict ep es)) (K:j6 es) (hk:a9 es (b7 i j)=some (.ref a)) (hr:g[a]?=some (.list (l.map R.e))) (hs:s<l.length) (hV: ∀y∈l,R.D p k y) (hx:R.D p k x) (hl:4*p+k<=3800)
  (q:Q .none (g.set a (.list ((fS l s x).map R.e)))):WF P0 d 126 [.ref L.m,.ref D,b7 i j,.int s,R.e x] g Q:=by
 refine bJ (K:=3) hd (zha L D i j s x) gC (by kernel_rfl) λd' h'=>zjU ?_;exact run (.b (zfs i j hD K)<| .f ((show (!(a9 es (b7 i j)).isSome)=false by rw [hk];rfl))<| .z (dC (zg5 h' I hD K hk hr hs hV hx hl (F:=Internal.Fin Q) q))) (by kernel_rfl)
abbrev rF (R:Rg) (g:MH) (n D:Nat) (ep:Option Nat) (es:List (Val×Val)) (i j:Nat):MH:=XC (g++ [MObj.list [R.e R.zero]]++ [MObj.list ((cR R n).map R.e)]) D (MObj.dict (bif (a9 es (b7 i j)).isSome then ep else ep.map (· +1)) (fP es (b7 i j) (.ref (g++ [MObj.list [R.e R.zero]]).length)))
theorem zg4 {es':List (Val×Val)}{ep':Option Nat} (hd:4<=d) (I:IsM R g L M) (hD:g[D]?=some (.dict ep es)) (K:j6 es) (hl':es.length<lim) (hk:a9 es (b7 i j)=none) (I3:IsM R (rF R g M.arcs.length D ep es i j) L M) (hD':(rF R g M.arcs.length D ep es i j)[D]?=some (.dict ep' es')) (K':j6 es') (hk':a9 es' (b7 i j)=some (.ref (g++ [MObj.list [R.e R.zero]]).length))
  (hr:(rF R g M.arcs.length D ep es i j)[(g++ [MObj.list [R.e R.zero]]).length]?=some (.list ((cR R M.arcs.length).map R.e))) (hs:s<M.arcs.length) (hx:R.D p k x) (hl:4*p+k<=3800)
  (q:Q .none ((rF R g M.arcs.length D ep es i j).set (g++ [MObj.list [R.e R.zero]]).length (.list ((fS (cR R M.arcs.length) s x).map R.e)))):WF P0 d 126 [.ref L.m,.ref D,b7 i j,.int s,R.e x] g Q:=by
 have hV: ∀y∈cR R M.arcs.length,R.D p k y:=λy hy=>by rw [Jm hy];exact R.D_mono (Qs _) (Qs _) R.D_zero
 refine bJ (K:=3) hd (zha L D i j s x) gC (by kernel_rfl) λd' h'=>zjU ?_;exact run (.b (zfs i j hD K)<| .t ((show (!(a9 es (b7 i j)).isSome)=true by rw [hk];rfl))<| .v (c6 I)<| .w (R.no)<| .p (eP (Qa (by decide) h') (I.app:IsM R (g++ [MObj.list [R.e R.zero]]) L M))<| .p (R.mulN g I.lim)<| .h (zh1 (v:=.ref (g++ [MObj.list [R.e R.zero]]).length) (aB (t:=[MObj.list ((cR R M.arcs.length).map R.e)]) (aB (t:=[MObj.list [R.e R.zero]]) hD)) (u5 (i:=i) (j:=j) K) hl')<| .z (dC (zg5 h' I3 hD' K' hk' hr (by rw [zhn];exact hs) hV hx hl (F:=Internal.Fin Q) q))) (by kernel_rfl)
theorem zgQ {l:List R.α}:(fS l s x).length=l.length:=QL
theorem RW.fresh (S:RW R h g D M.arcs.length c Ad V) (hA:Ad i j=none) (hD:g[D]?=some (.dict ep es)):RW R h (rF R g M.arcs.length D ep es i j) D M.arcs.length (c+1) (upd Ad i j (some (g++ [MObj.list [R.e R.zero]]).length)) V:=by
 have lg:h.length<=(g++ [MObj.list [R.e R.zero]]).length:=by obtain ⟨t0,rfl⟩:=S.pre;rw [Qv,Qv];exact Qa (Qf _ _) (Qf _ _)
 have S3:=(S.app.app:RW R h (g++ [MObj.list [R.e R.zero]]++ [MObj.list ((cR R M.arcs.length).map R.e)]) D M.arcs.length c Ad V).put (i:=i) (j:=j) (x:=cR R M.arcs.length) (aB (aB hD)) aV lg (λi' j' e=>absurd (bT (S.row i' j' _ e)) (by rw [Qv];exact ZV.mpr (Qf _ _))) zhn (bif (a9 es (b7 i j)).isSome then ep else ep.map (· +1));have eV:upd V i j (cR R M.arcs.length)=V:=by
  funext a b
  by_cases e:a=i/\b=j
  ·obtain ⟨rfl,rfl⟩:=e;rw [a5];exact (S.non _ _ hA).symm
  ·exact bN e
 rw [eV] at S3;exact S3
theorem RW.more (S:RW R h g D M.arcs.length c Ad V):RW R h g D M.arcs.length (c+1) Ad V:=by
 refine S.dd.elim λep zq8=>zq8.elim λes zq9=>?_;exact ⟨S.pre,S.lowD,⟨ep,es,zq9.1,zq9.2.1,Jd zq9.2.2.1,zq9.2.2.2⟩,S.inj,S.low,S.row,S.non,S.len⟩
end
theorem znn {g:MH}{D N c i j s p k:Nat}{Ad:Nat->Nat->Option Nat}{V:Nat->Nat->List R.α}{x:R.α} (hd:4<=d) (I:IsM R h L M) (S:RW R h g D N c Ad V) (hN:N=M.arcs.length) (hc:c<100000) (hs:s<N) (hV: ∀y∈V i j,R.D p k y) (hx:R.D p k x) (hl:4*p+k<=3800)
  (q: ∀g' Ad',RW R h g' D N (c+1) Ad' (upd V i j (fS (V i j) s x)) ->(∀i' j' a',Ad i' j'=some a'->Ad' i' j'=some a') ->Q .none g'):WF P0 d 126 [.ref L.m,.ref D,b7 i j,.int s,R.e x] g Q:=by
 subst hN;have hb:(fS (V i j) s x).length=M.arcs.length:=zgQ.trans (S.len i j);cases hA:Ad i j with
 |some a=>
  refine S.dd.elim λep zq6=>zq6.elim λes zq7=>?_;exact zjG hd (S.ism I) zq7.1 zq7.2.1 (by rw [zq7.2.2.2,hA];rfl) (S.row i j a hA) (by rw [S.len];exact hs) hV hx hl (q _ Ad (S.more.setRow hA hb) λ_ _ _ e=>e)
 |none=>
  refine S.dd.elim λep zq4=>zq4.elim λes zq5=>?_;have S3:=S.fresh hA zq5.1;refine S3.dd.elim λep' zq2=>zq2.elim λes' zq3=>?_;have hr:=S3.row i j _ a5;have e:=S.non i j hA;have S4:=S3.setRow (i:=i) (j:=j) (x:=fS (V i j) s x) a5 hb;rw [e] at hr S4 q;exact zg4 hd (S.ism I) zq5.1 zq5.2.1 (Qk zq5.2.2.1 (Q8 hc (by decide))) (by rw [zq5.2.2.2,hA];rfl) (S3.ism I) zq3.1 zq3.2.1 (by rw [zq3.2.2.2,a5];rfl) hr hs hx hl (q _ _ S4 λi' j' a' e=>by rw [bN λq=>by rw [q.1,q.2,hA] at e;exact nomatch e];exact e)
def tV (r e:List R.α):R.α:=(r.zip e).foldl (λo p=>R.add o (R.mul p.1 p.2)) R.zero
theorem zjk {d:Nat} (hd:4<=d) (I:IsM R h L M) (q:Q (R.e R.zero) h):WF P0 d 127 [.ref L.m,.none] h Q:=by
 refine bJ (K:=3) hd (some (.ref L.m)::some .none::nn 9) gL (by kernel_rfl) λd' h'=>?_;exact run (.v (c6 I)<| .w (R.no)<| .c2<| .q (R.nd h' R.D_zero (by decide))<| .z (q)) (by kernel_rfl)
abbrev zmW (R:Rg) (L:Ly) (a:Nat) (o:R.α) (z:Option Val):Internal.Frame:=some (.ref L.m)::some (.ref a)::some (.top (112+R.i))::some (R.e o)::z::nn 6
abbrev zu7:List Sm:= [.asg (.nm 3) (.meth (.var 2) oS [.var 3,.meth (.var 2) qZ [.sub (.var 1) (.var 4),.sub (.attr (.var 0) cQ) (.var 4)]])]
theorem zdD {r e:List R.α}{i:Nat} (h1:i<r.length) (h2:i<e.length):tV (r.take (i+1)) (e.take (i+1))=R.add (tV (r.take i) (e.take i)) (R.mul (at' r i) (at' e i)):=by
 unfold tV;rw [JD,JD,xD h1,xD h2];show ((r.take i++ [_]).zip (e.take i++ [_])).foldl _ _=_;rw [List.zip_append (by rw [JN,JN];omega),ZC];rfl
theorem zgy {a p k p' k':Nat}{r:List R.α} (hd:3<=d) (I:IsM R h L M) (ha:h[a]?=some (.list (r.map R.e))) (hr:r.length=M.arcs.length) (h1: ∀x∈r,R.D p k x) (h2: ∀x∈M.ends,R.D p' k' x) (hl:4*(p+p')+(k+k'+M.arcs.length)<=3800): ∃z,exec (Cxd P0 d) (.fo [4] false (.call (.lit (.ty v8)) [.meth (.var 0) jG []]) zu7) (zmW R L a R.zero none) h=some ((.nx,zmW R L a (tV r M.ends) z),h)/\R.D (p+p') (k+k'+M.arcs.length) (tV r M.ends):=by
 have hN:=I.lim;obtain ⟨⟨o,z⟩,P,e⟩:=foR (c:=Cxd P0 d) (x:=4) (n:=M.arcs.length) (e:=.call (.lit (.ty v8)) [.meth (.var 0) jG []]) (b:=zu7) (σ:=R.α×Option Val) (λs=>zmW R L a s.1 s.2) (λ_=>h) (λi s=>s.1=tV (r.take i) (M.ends.take i)/\R.D (p+p') (k+k'+i) s.1) (R.zero,none) (by omega) rfl
  (by exact bM (.p (eP (Qa (by decide) hd) I)<| .c<| .z (two (.rng M.arcs.length) h)) (by kernel_rfl)) ⟨rfl,R.D_mono (Qs _) (Qs _) R.D_zero⟩ λi s X _ hi P T=>by
   have hi1:i<r.length:=by omega
   have hi2:i<M.ends.length:=by rw [I.lenE];exact hi
   have dm:=R.D_mono (Qj _) (Qf (k+k') i) (R.D_mul (h1 _ (zgS hi1)) (h2 _ (zgS hi2)));exact run (.v (sl ha (tU (xD hi1)))<| .v (lG I)<| .v (sl I.ends (tU (xD hi2)))<| .q (R.ti hd (h1 _ (zgS hi1)) (h2 _ (zgS hi2)) (by omega))<| .q (R.pl hd P.2 dm (by omega))<| .z (T.nx (R.add s.1 (R.mul (at' r i) (at' M.ends i)),some (.int i)) ⟨by rw [zdD hi1 hi2,P.1],R.D_add P.2 dm⟩)) (by kernel_rfl)
 obtain ⟨q,D⟩:o=tV (r.take M.arcs.length) (M.ends.take M.arcs.length)/\R.D (p+p') (k+k'+M.arcs.length) o:=P;subst q;rw [show r.take M.arcs.length=r by rw [<-hr,QR],show M.ends.take M.arcs.length=M.ends by rw [<-I.lenE,QR]] at D e;exact ⟨z,e,D⟩
theorem za5 {d a p k p' k':Nat}{r:List R.α} (hd:4<=d) (I:IsM R h L M) (ha:h[a]?=some (.list (r.map R.e))) (hr:r.length=M.arcs.length) (h1: ∀x∈r,R.D p k x) (h2: ∀x∈M.ends,R.D p' k' x) (hl:4*(p+p')+(k+k'+M.arcs.length)<=3800) (q:Q (R.e (tV r M.ends)) h):WF P0 d 127 [.ref L.m,.ref a] h Q:=by
 refine bJ (K:=3) hd (some (.ref L.m)::some (.ref a)::nn 9) gL (by kernel_rfl) λd' h'=>?_;refine (zgy h' I ha hr h1 h2 hl).elim λz zq1=>?_;exact run (.v (c6 I)<| .w (R.no)<| .c2<| .s (zq1.1)<| .q (R.nd h' zq1.2 hl)<| .z (q)) (by kernel_rfl)
end
section
variable {R:Rg}
theorem Rg.add_zero (a:R.α):R.add a R.zero=a:=by rw [R.add_comm];exact R.zero_add a
theorem Rg.mul_zero (a:R.α):R.mul a R.zero=R.zero:=by rw [R.mul_comm];exact R.zero_mul a
theorem Rg.add_mul (a b c:R.α):R.mul (R.add a b) c=R.add (R.mul a c) (R.mul b c):=by rw [R.mul_comm,R.mul_add,R.mul_comm c a,R.mul_comm c b]
theorem Rg.swap (a b c:R.α):R.add a (R.add b c)=R.add b (R.add a c):=by rw [<-R.add_assoc,R.add_comm a b,R.add_assoc]
def a6 (l:List R.α):R.α:=l.foldr R.add R.zero
theorem aC {a:R.α}{l:List R.α}:a6 (a::l)=R.add a (a6 l):=rfl
theorem bL {β:Type}{F G:β->R.α}{l:List β} (h: ∀x∈l,F x=G x):a6 (l.map F)=a6 (l.map G):=congrArg a6 (Ja h)
theorem zbC {β:Type}{F G:β->R.α}{y:R.α}{c:β}: ∀ {l:List β},l.Nodup->c∈l->(∀x∈l,x≠c->F x=G x) ->F c=R.add y (G c) ->a6 (l.map F)=R.add y (a6 (l.map G)):=by
 intro l
 induction l with
 |nil=>exact λ_ h=>absurd h Qq
 |cons x l ih=>
  intro nd hc he hy;have nd:=Qw.mp nd;rw [Qz,Qz,aC,aC];rcases QE.mp hc with rfl|hc
  ·rw [hy,bL λz hz=>he z (.tail _ hz) λe=>nd.1 (e▸hz),R.add_assoc]
  ·rw [ih nd.2 hc (λz hz=>he z (.tail _ hz)) hy,he x (.head _) λe=>nd.1 (e▸hc),R.swap]
def bK:List R.α->(Nat->R.α) ->Nat->R.α
 | [],_,_=>R.zero
 |x::r,b,o=>R.add (R.mul x (b o)) (bK r b (o+1))
theorem gU {n:Nat}{b:Nat->R.α}: ∀ {o:Nat},bK (cR R n) b o=R.zero:=by
 unfold cR
 induction n with
 |zero=>intro o;rfl
 |succ n ih=>
  intro o;show R.add (R.mul R.zero (b o)) (bK (QB n R.zero) b (o+1))=_;rw [ih,R.zero_mul,R.zero_add]
theorem u6 {b:Nat->R.α}{x:R.α}: ∀ {r:List R.α}{s o:Nat},s<r.length->bK (fS r s x) b o=R.add (R.mul x (b (o+s))) (bK r b o):=by
 intro r
 induction r with
 |nil=>exact λh=>absurd h (QX _)
 |cons y r ih=>
  intro s o hs;cases s with
  |zero=>
   show R.add (R.mul (R.add y x) (b o)) (bK r b (o+1))=R.add (R.mul x (b o)) (R.add (R.mul y (b o)) (bK r b (o+1)));rw [R.add_mul,R.add_assoc,R.swap]
  |succ s=>
   have:=ih (s:=s) (o:=o+1) (J7 hs)
   show R.add (R.mul y (b o)) (bK (fS r s x) b (o+1))=R.add (R.mul x (b (o+(s+1)))) (R.add (R.mul y (b o)) (bK r b (o+1)));rw [this,R.swap,show o+1+s=o+(s+1) by lia]
theorem oF {r:List R.α}{b:Nat->R.α}{s:Nat} (hs:s<r.length):bK (r.drop s) b s=R.add (R.mul r[s] (b s)) (bK (r.drop (s+1)) b (s+1)):=by
 rw [JH hs];rfl
theorem zdu {l:List (R.α×R.α)}{a b:R.α}:l.foldl (λo p=>R.add o (R.mul p.1 p.2)) (R.add a b)=R.add a (l.foldl (λo p=>R.add o (R.mul p.1 p.2)) b):=by
 induction l generalizing b with
 |nil=>rfl
 |cons p l ih=>rw [Zy,Zy,R.add_assoc,ih]
theorem zjo {r e:List R.α}{o:Nat}{b:Nat->R.α} (hl:r.length=e.length) (hb: ∀ (s:Nat) x,e[s]?=some x->b (o+s)=x):tV r e=bK r b o:=by
 unfold tV
 induction r generalizing e o with
 |nil=>rfl
 |cons x r ih=>
  cases e with
  |nil=>exact nomatch hl
  |cons y e=>
   rw [ZJ,Zy];show (r.zip e).foldl _ (R.add R.zero (R.mul x y))=R.add (R.mul x (b o)) (bK r b (o+1));rw [R.add_comm R.zero,zdu,ih (o:=o+1) (JZ.inj hl) λs z hz=>by rw [Ye];exact hb (s+1) z hz,show b o=y from hb 0 y rfl]
def cells (n m:Nat):List (Nat×Nat):=(QS (n+1)).flatMap λi=>(QS (m+1)).map λj=>(i,j)
theorem kE {n m i j:Nat}:(i,j)∈cells n m ↔ i<=n/\j<=m:=by
 unfold cells;simp only [List.mem_flatMap,J8,QF,XW.injEq]
 constructor
 ·rintro ⟨a,ha,b,hb,rfl,rfl⟩;exact ⟨QP ha,QP hb⟩
 ·rintro ⟨h1,h2⟩;exact ⟨i,QK h1,j,QK h2,rfl,rfl⟩
theorem yP {n m:Nat}:(cells n m).Nodup:=by
 unfold cells;refine List.pairwise_flatMap.mpr ⟨λi _=>?_,List.Pairwise.imp ?_ (Yo (n:=n+1))⟩
 ·refine List.pairwise_map.mpr (List.Pairwise.imp ?_ (Yo (n:=m+1)))
  exact λhab e=>hab (XW.inj e).2
 ·intro a b hab x hx y hy e
  obtain ⟨j,_,rfl⟩:=QF.mp hx;obtain ⟨j',_,rfl⟩:=QF.mp hy;exact hab (XW.inj e).1
def done (i j:Nat) (c:Nat×Nat):Prop:=c.1<i\/(c.1=i/\c.2<j)
def pot (n m:Nat) (B:Nat->Nat->Nat->R.α) (i j:Nat) (V:Nat->Nat->List R.α):R.α:=a6 ((cells n m).map λc=> @ite _ (done i j c) (Classical.propDecidable _) R.zero (bK (V c.1 c.2) (B c.1 c.2) 0))
variable {n m:Nat}{B:Nat->Nat->Nat->R.α}{V:Nat->Nat->List R.α}
theorem ze9 {i j:Nat} (hi:i<=n) (hj:j<=m):pot n m B i j V=R.add (bK (V i j) (B i j) 0) (pot n m B i (j+1) V):=by
 refine zbC (c:=(i,j)) yP (kE.mpr ⟨hi,hj⟩) (λc _ hc=>?_) ?_
 ·have:done i j c ↔ done i (j+1) c:=by
   unfold done
   constructor
   ·rintro (h|h)
    ·exact .inl h
    ·exact .inr ⟨h.1,Q4 h.2⟩
   ·rintro (h|h)
    ·exact .inl h
    ·refine .inr ⟨h.1,Jh (QP h.2) λe=>hc (Xj h.1 e)⟩
  by_cases h:done i j c
  ·rw [if_pos h,if_pos (this.mp h)]
  ·rw [if_neg h,if_neg λq=>h (this.mpr q)]
 ·rw [if_neg (by unfold done;simp),if_pos (by unfold done;simp),R.add_zero]
theorem vZ {i:Nat}:pot n m B i (m+1) V=pot n m B (i+1) 0 V:=by
 refine bL λc hc=>?_;obtain ⟨a,b⟩:=c
 have:=kE.mp hc
 have e:done i (m+1) (a,b) ↔ done (i+1) 0 (a,b):=⟨λq=> .inl (q.elim Q4 λq=>QK (Qt q.1)),λq=>q.elim (λq=>(K3 (QP q)).imp id λe=>⟨e,QK this.2⟩) λq=>absurd q.2 (QX _)⟩;by_cases h:done i (m+1) (a,b)
 ·rw [if_pos h,if_pos (e.mp h)]
 ·rw [if_neg h,if_neg λq=>h (e.mpr q)]
theorem yM {i j a b s:Nat}{x:R.α} (ha:a<=n) (hb:b<=m) (hn: ¬done i j (a,b)) (hs:s<(V a b).length):pot n m B i j (upd V a b (fS (V a b) s x))=R.add (R.mul x (B a b s)) (pot n m B i j V):=by
 refine zbC (c:=(a,b)) yP (kE.mpr ⟨ha,hb⟩) (λc _ hc=>?_) ?_
 ·by_cases h:done i j c
  ·rw [if_pos h,if_pos h]
  ·rw [if_neg h,if_neg h,bN λq=>hc (Xj q.1 q.2)]
 ·rw [if_neg hn,if_neg hn,a5,u6 hs,Jv]
theorem zfa {i j a b:Nat}{r:List R.α} (hn:done i j (a,b)):pot n m B i j (upd V a b r)=pot n m B i j V:=by
 refine bL λc _=>?_;by_cases h:done i j c
 ·rw [if_pos h,if_pos h]
 ·rw [if_neg h,if_neg h,bN λq=>h (by rw [show c=(a,b) from Xj q.1 q.2];exact hn)]
theorem ze8 {i j N:Nat} (h: ∀a b,V a b=cR R N):pot n m B i j V=R.zero:=by
 have: ∀l:List (Nat×Nat),a6 (l.map λ_=>R.zero)=R.zero:=λl=>by
  induction l with
  |nil=>rfl
  |cons x l ih=>rw [Qz,aC,ih,R.zero_add]
 refine (bL λc _=>?_).trans (this (cells n m));by_cases hd:done i j c
 ·rw [if_pos hd]
 ·rw [if_neg hd,h,gU]
theorem zbO:pot n m B (n+1) 0 V=R.zero:=by
 have: ∀l:List (Nat×Nat),a6 (l.map λ_=>R.zero)=R.zero:=λl=>by
  induction l with
  |nil=>rfl
  |cons x l ih=>rw [Qz,aC,ih,R.zero_add]
 refine (bL λc hc=>?_).trans (this (cells n m));obtain ⟨a,b⟩:=c
 have:=kE.mp hc
 exact if_pos (.inl (QK this.1))
end
section
variable {R:Rg}{d:Nat}{h h0:MH}{Q:Val->MH->Prop}{L:Ly}{M:Mc R.α}
def nY (u l:List Nat) (i j:Nat) (a:Ar R.α):Bool:=!a.emp && (fit u i a.up && fit l j a.lo)
def xE (B:Nat->Nat->Nat->R.α) (u l:List Nat) (i j:Nat) (xs:List (Ar R.α)):R.α:=a6 (xs.map λa=>bif nY u l i j a then R.mul a.w (B (i+a.up.length) (j+a.lo.length) a.t) else R.zero)
def zN (M:Mc R.α) (B:Nat->Nat->Nat->R.α) (u l:List Nat) (i j s:Nat):R.α:=R.add (if i=u.length/\j=l.length then eAt M s else R.zero) (xE B u l i j (aAt M s))
theorem wN {u s:List Nat}{i:Nat} (hs:lab s) (h:fit u i s=true):i<=u.length->i+s.length<=u.length/\s.length<=1:=λhi=>by
 rcases hs with rfl| ⟨c,rfl,_⟩
 ·exact ⟨by simpa using hi,by decide⟩
 ·refine ⟨?_,Qj _⟩
  by_cases he:i=u.length
  ·subst he
   unfold fit at h;rw [ZL (Qj _),Kt (Ju _)] at h;unfold cut at h;rw [QR,Zc] at h;exact nomatch h
  ·show i+1<=_;exact QM (Jh hi he)
theorem zb5 {a:Ar R.α} (h:a.emp=false):0<a.up.length+a.lo.length:=by
 unfold Ar.emp at h;obtain ⟨up,lo,w,t⟩:=a;cases up with
 |cons _ _=>show 0<_+1+_;exact Xo _ (Jo _)
 |nil=>
  cases lo with
  |cons _ _=>show 0<_+(_+1);exact Nat.lt_add_left _ (Jo _)
  |nil=>exact nomatch h
def zdH (R:Rg) (i j c p k:Nat) (V:Nat->Nat->List R.α):Prop:= ∀a b,¬done i j (a,b) -> ∀x∈V a b,R.D (p*(a+b+1)) (k*(a+b+1)+c) x
theorem zf0 {r:List R.α}{s:Nat}{x y:R.α} (hy:y∈fS r s x):y∈r\/y=R.add (r[s]?.getD R.zero) x:=J9 hy
theorem zdO {B:Nat->Nat->Nat->R.α}{u l:List Nat}{i j q:Nat}{xs:List (Ar R.α)}{a:Ar R.α} (ha:xs[q]?=some a):xE B u l i j (xs.drop q)=R.add (bif nY u l i j a then R.mul a.w (B (i+a.up.length) (j+a.lo.length) a.t) else R.zero) (xE B u l i j (xs.drop (q+1))):=by
 refine (Qg.mp ha).elim λhq zq6=>?_;obtain rfl:=zq6;rw [JH hq];rfl
structure CS (R:Rg) where
 g:MH
 Ad:Nat->Nat->Option Nat
 V:Nat->Nat->List R.α
 c:Nat
 a:Option Val:=none
 b:Option Val:=none
 d:Option Val:=none
 e:Option Val:=none
 f:Option Val:=none
 k:Option Val:=none
structure WX (R:Rg) where
 h:MH
 L:Ly
 M:Mc R.α
 u:List Nat
 l:List Nat
 D:Nat
 ov:Val
 p:Nat
 k:Nat
 p1:Nat
 k1:Nat
 pS:Nat
 kS:Nat
 B:Nat->Nat->Nat->R.α
 W:R.α
structure WOk (X:WX R):Prop where
 I:IsM R X.h X.L X.M
 G:bD X.M X.p1 X.k1
 pp:X.p1+X.pS<=X.p
 kk:X.k1+X.kS<=X.k
 cl:1+(X.u.length+1)*(X.l.length+1)*(X.M.cnt+1)<100000
 bd:4*(X.p*(X.u.length+X.l.length+2))+(X.k*(X.u.length+X.l.length+2)+(1+(X.u.length+1)*(X.l.length+1)*(X.M.cnt+1)+X.M.arcs.length))<=3800
def wFr (X:WX R) (a b d e f k:Option Val):Internal.Frame:=some (.ref X.L.m)::some (.str X.u)::some (.str X.l)::some (.top (112+R.i))::some X.ov::some (.ref X.D)::a::b::d::e::f::k::nn 6
abbrev vN (n:Nat):Option Val:=some (.int n)
abbrev vR (n:Nat):Option Val:=some (.ref n)
structure pA (X:WX R) (i j aR c0:Nat) (row:List R.α) (F:R.α):Prop where
 O:WOk X
 hi:i<=X.u.length
 hj:j<=X.l.length
 cc:c0+X.M.cnt<=1+(X.u.length+1)*(X.l.length+1)*(X.M.cnt+1)
 len:row.length=X.M.arcs.length
 dg: ∀x∈row,R.D (X.p*(i+j+1)+X.pS) (X.k*(i+j+1)+X.kS+c0) x
structure CP (X:WX R) (i j aR c0:Nat) (row:List R.α) (n:Nat) (e:R.α) (s:CS R):Prop where
 rw':RW R X.h s.g X.D X.M.arcs.length s.c s.Ad s.V
 lo:c0<=s.c
 hi:s.c<=c0+n
 dg:zdH R i (j+1) s.c X.p X.k s.V
 vr:s.V i j=row
 ad:s.Ad i j=some aR
 w:R.add (pot X.u.length X.l.length X.B i (j+1) s.V) e=X.W
variable {X:WX R}{i j aR c0:Nat}{row:List R.α}{F:R.α}{Rr R':Fl->Internal.Frame->MH->Prop}
theorem RW.up {g:MH}{D N c:Nat}{Ad:Nat->Nat->Option Nat}{V:Nat->Nat->List R.α} (S:RW R h g D N c Ad V) {a:Nat}{o:MObj} (e:h[a]?=some o):g[a]?=some o:=by obtain ⟨t,rfl⟩:=S.pre;exact aB e
theorem fK {p a b:Nat} (h:a<=b):p*a<=p*b:=QH _ h
structure zBb (X:WX R) (y c0 c x:Nat):Prop where
 p1:X.p*(y+1)+X.pS+X.p1<=X.p*(x+1)
 k1:X.k*(y+1)+X.kS+c0+X.k1<=X.k*(x+1)+c
 b:4*(X.p*(x+1))+(X.k*(x+1)+c)<=3800
 t:4*(X.p*(y+1)+X.pS+X.p1)+(X.k*(y+1)+X.kS+c0+X.k1)<=3800
theorem ac4 (a b c d:Nat):a+b+c+d=a+(d+b)+c:=(JL _ _ _).trans (congrArg (· +c) ((Q1 _ _ _).trans (congrArg (a+ ·) (J6 _ _))))
theorem zhZ (O:WOk X) {y c0 c x:Nat} (h1:x<=X.u.length+X.l.length) (hx:y<x) (h0:c0<=c) (hc:c<=1+(X.u.length+1)*(X.l.length+1)*(X.M.cnt+1)):zBb X y c0 c x:=by
 have e: ∀ {p:Nat},p*(y+1)+p<=p*(x+1):=λ{p} =>by rw [<-Ze];exact fK (Jq hx)
 have f: ∀ {p:Nat},p*(x+1)<=p*(X.u.length+X.l.length+2):=λ{p} =>fK (Jq (Jd h1));have p1:X.p*(y+1)+X.pS+X.p1<=X.p*(x+1):=Qa (by rw [Q1,J6 X.pS];exact Ql O.pp _) e;have k1:X.k*(y+1)+X.kS+c0+X.k1<=X.k*(x+1)+c:=by
  rw [ac4];exact QA (Qa (Ql O.kk _) e) h0
 have b:4*(X.p*(x+1))+(X.k*(x+1)+c)<=3800:=Qa (QA (fK f) (QA f (Qa hc (Qf _ _)))) O.bd;exact ⟨p1,k1,b,Qa (QA (fK p1) k1) b⟩
abbrev zjF:List Sm:= [.ite (.bop true [.meth (.var 10) zc1 [],.not (.call (.lit (.top 129)) [.var 1,.var 6,.attr (.var 10) nq7]),.not (.call (.lit (.top 129)) [.var 2,.var 7,.attr (.var 10) nq8])]) [.cont] [],.asg (.nm 11) (.tup [.bin .add (.var 6) (.call (.lit (.bi 7103854)) [.attr (.var 10) nq7]),.bin .add (.var 7) (.call (.lit (.bi 7103854)) [.attr (.var 10) nq8])]),.expr (.call (.lit (.top 126)) [.var 0,.var 5,.var 11,.attr (.var 10) kM,.meth (.var 3) mQ [.sub (.var 8) (.var 9),.attr (.var 10) nq9]])]
theorem CP.put {n:Nat}{e e' x:R.α}{s:CS R}{g':MH}{Ad':Nat->Nat->Option Nat}{a b t:Nat} (C:pA X i j aR c0 row F) (P:CP X i j aR c0 row n e s) (ha:a<=X.u.length) (hb:b<=X.l.length) (ht:t<X.M.arcs.length) (hn: ¬done i (j+1) (a,b)) (hD:R.D (X.p*(a+b+1)) (X.k*(a+b+1)+s.c) x)
  (S':RW R X.h g' X.D X.M.arcs.length (s.c+1) Ad' (upd s.V a b (fS (s.V a b) t x))) (hk: ∀i' j' a',s.Ad i' j'=some a'->Ad' i' j'=some a') (he:e=R.add (R.mul x (X.B a b t)) e') (z y:Option Val):CP X i j aR c0 row (n+1) e' ⟨g',Ad',upd s.V a b (fS (s.V a b) t x),s.c+1,none,none,none,none,z,y⟩:=by
 have hl:t<(s.V a b).length:=by rw [P.rw'.len];exact ht
 refine ⟨S',Jd P.lo,Jq P.hi,λa' b' hn' y hy=>?_,?_,hk _ _ _ P.ad,?_⟩
 ·have hy:y∈upd s.V a b (fS (s.V a b) t x) a' b':=hy
  show R.D (X.p*(a'+b'+1)) (X.k*(a'+b'+1)+(s.c+1)) y;by_cases q:a'=a/\b'=b
  ·obtain rfl:=q.1
   obtain rfl:=q.2;rw [a5] at hy;rcases zf0 hy with hy|rfl
   ·exact R.D_mono (Qj _) (Ju _) (P.dg _ _ hn' y hy)
   ·rw [Qc hl]
    exact R.D_add (P.dg _ _ hn' _ (Jg hl)) hD
  ·rw [bN q] at hy
   exact R.D_mono (Qj _) (Ju _) (P.dg a' b' hn' y hy)
 ·show upd s.V a b (fS (s.V a b) t x) i j=row
  rw [bN λq=>hn (.inr ⟨q.1.symm,by show b<j+1;rw [<-q.2];exact QD _⟩)];exact P.vr
 ·show R.add (pot X.u.length X.l.length X.B i (j+1) (upd s.V a b (fS (s.V a b) t x))) e'=X.W
  rw [yM ha hb hn hl,<-P.w,he,<-R.add_assoc,R.add_comm (R.mul _ _)]
theorem zgp (hd:1<=d) (u:List Nat) (i:Nat) (s:List Nat) (h:MH):aM (Cxd P0 d) (.top 129) [.str u,.int i,.str s] h=some (.bool (fit u i s),h):=fn rfl (zjg hd ⟨rfl,rfl⟩)
theorem zno {g:MH}{D N c i j s p k:Nat}{Ad:Nat->Nat->Option Nat}{V:Nat->Nat->List R.α}{x:R.α} (hd:4<=d) (I:IsM R h L M) (S:RW R h g D N c Ad V) (hN:N=M.arcs.length) (hc:c<100000) (hs:s<N) (hV: ∀y∈V i j,R.D p k y) (hx:R.D p k x) (hl:4*p+k<=3800):
  ∃g' Ad',aM (Cxd P0 d) (.top 126) [.ref L.m,.ref D,b7 i j,.int s,R.e x] g=some (.none,g')/\RW R h g' D N (c+1) Ad' (upd V i j (fS (V i j) s x))/\∀i' j' a',Ad i' j'=some a'->Ad' i' j'=some a':=by
 refine (W.get (dO (P:=P0) rfl (znn (Q:=λv g'=>v= .none/\∃Ad',RW R h g' D N (c+1) Ad' (upd V i j (fS (V i j) s x))/\∀i' j' a',Ad i' j'=some a'->Ad' i' j'=some a') hd I S hN hc hs hV hx hl λg' Ad' S' hk=>⟨rfl,Ad',S',hk⟩))).elim λv zq3=>zq3.elim λg' zq4=>?_;obtain rfl:=zq4.2.1;refine zq4.2.2.elim λAd' zq5=>?_;exact ⟨g',Ad',zq4.1,zq5⟩
theorem zhN {s n b:Nat}{E y T e0 e1:R.α}{a:Ar R.α}{st:CS R}{z:Option Val} (hd:5<=d) (C:pA X i j aR c0 row F) (hs:row[s]?=some y) (hn:n<X.M.cnt) (hB:X.h[b]?=some (cS R a)) (gt:a.t<X.M.arcs.length) (g2:lab a.up) (g3:lab a.lo) (g4:R.D X.p1 X.k1 a.w)
  (P:CP X i j aR c0 row n e0 st) (h0:e0=R.add (R.mul y (R.add (bif nY X.u X.l i j a then R.mul a.w (X.B (i+a.up.length) (j+a.lo.length) a.t) else R.zero) T)) E) (h1:e1=R.add (R.mul y T) E)
  (q1: ∀s',CP X i j aR c0 row (n+1) e1 s'->R' .nx (wFr X (vN i) (vN j) (vR aR) (vN s) s'.f s'.k) s'.g) (q2: ∀s',CP X i j aR c0 row (n+1) e1 s'->R' .ct (wFr X (vN i) (vN j) (vR aR) (vN s) s'.f s'.k) s'.g):
  WSs (Cxd P0 d) zjF (wFr X (vN i) (vN j) (vR aR) (vN s) (vR b) z) st.g R':=by
 have S:=P.rw';have hB:=S.up hB;have d1:1<=d:=Qa (by decide) hd;have skip:nY X.u X.l i j a=false->R' .ct (wFr X (vN i) (vN j) (vR aR) (vN s) (vR b) z) st.g:=λhh=>by
  rw [hh,cond_false,R.zero_add,<-h1] at h0;exact q2 {st with f:=vR b,k:=z} ⟨S,P.lo,Jd P.hi,P.dg,P.vr,P.ad,h0▸P.w⟩
 cases he:a.emp with
 |true=>exact run (.p (zdt d1 hB)<| .t (he)<| .t (he)<| .z (skip (by unfold nY;rw [he];rfl))) (by kernel_rfl)
 |false=>
  cases hu:fit X.u i a.up with
  |false=>exact run (.p (zdt d1 hB)<| .f (he)<| .v (gUp hB)<| .q (zgp d1 X.u i a.up)<| .c<| .t (nF hu)<| .t (nF hu)<| .z (skip (by unfold nY;rw [hu,Kj,YH]))) (by kernel_rfl)
  |true=>
   cases hlo:fit X.l j a.lo with
   |false=>exact run (.p (zdt d1 hB)<| .f (he)<| .v (gUp hB)<| .q (zgp d1 X.u i a.up)<| .c<| .f (nT hu)<| .v (gLo hB)<| .q (zgp d1 X.l j a.lo)<| .c<| .t (nF hlo)<| .z (skip (by unfold nY;rw [hlo,YH,YH]))) (by kernel_rfl)
   |true=>
    have hh:nY X.u X.l i j a=true:=by unfold nY;rw [he,hu,hlo];rfl
    rw [hh,cond_true,R.mul_add,R.add_assoc,<-h1,<-R.mul_assoc] at h0;have f1:=(wN g2 hu C.hi).1;have f3:=(wN g3 hlo C.hj).1;have f5:=zb5 he;have nds: ¬done i (j+1) (i+a.up.length,j+a.lo.length):=λq=>q.elim (Q6 (Qf _ _)) λq=>Q2 0 (Kd f5 (congr (congrArg _ (YP (q.1:i+a.up.length=i+0))) (Yt (QP (Nat.lt_of_add_lt_add_left q.2)))));have hc:st.c<c0+X.M.cnt:=Qk P.hi (QT hn _);have T1:=zhZ C.O (y:=i+j) (c0:=c0) (c:=st.c) (x:=i+a.up.length+(j+a.lo.length)) (QA f1 f3) (Kd (J0 f5) (YI i j a.up.length a.lo.length)) P.lo (Qa (QC hc) C.cc);have hxd:=C.dg y (Qd hs);have hRa:=S.row i j aR P.ad;rw [P.vr] at hRa;refine (zno (d:=d) (i:=i+a.up.length) (j:=j+a.lo.length) (s:=a.t) (x:=R.mul y a.w) (Qa (by decide) hd) C.O.I S rfl (Qi hc (Qa C.cc (QC C.O.cl))) gt (P.dg _ _ nds) (R.D_mono T1.p1 T1.k1 (R.D_mul hxd g4)) T1.b).elim λg' zq1=>zq1.elim λAd' zq2=>?_;exact run (.p (zdt d1 hB)<| .f (he)<| .v (gUp hB)<| .q (zgp d1 X.u i a.up)<| .c<| .f (nT hu)<| .v (gLo hB)<| .q (zgp d1 X.l j a.lo)<| .c<| .f (nT hlo)<| .v (gUp hB)<| .c2<| .v (gLo hB)<| .c2<| .v (gTg hB)<| .v (sl hRa (tU hs))<| .v (gWt hB)<| .q (R.ti (Qa (by decide) hd) hxd g4 T1.t)<| .p (zq2.1)<| .z (q1 _ (P.put C f1 f3 gt nds (R.D_mono T1.p1 T1.k1 (R.D_mul hxd g4)) zq2.2.1 zq2.2.2 h0 (vR b) (some (b7 (i+a.up.length) (j+a.lo.length)))))) (by kernel_rfl)
end
section
variable {R:Rg}{d:Nat}{h h0:MH}{Q:Val->MH->Prop}{L:Ly}{M:Mc R.α}{X:WX R}{i j aR c0:Nat}{row:List R.α}{F:R.α}{Rr R':Fl->Internal.Frame->MH->Prop}
def uS (M:Mc R.α):Prop:=(M.arcs.any λr=>r.any Ar.emp)=false
theorem za6 {r:List R.α}{b b':Nat->R.α}{o:Nat} (h: ∀s,o<=s->s<o+r.length->b s=b' s):bK r b o=bK r b' o:=by
 induction r generalizing o with
 |nil=>rfl
 |cons x r ih=>
  show R.add (R.mul x (b o)) (bK r b (o+1))=R.add (R.mul x (b' o)) (bK r b' (o+1));rw [h o (Qj _) (by rw [JA];exact J0 (Jo _)),ih λs h1 h2=>h s (QC (JF h1)) (by rw [JA];lia)]
theorem zgF {r:List R.α}{b b':Nat->R.α}{o:Nat}:bK r (λs=>R.add (b s) (b' s)) o=R.add (bK r b o) (bK r b' o):=by
 induction r generalizing o with
 |nil=>exact (R.zero_add _).symm
 |cons x r ih=>
  show R.add (R.mul x (R.add (b o) (b' o))) (bK r _ (o+1))=R.add (R.add (R.mul x (b o)) (bK r b (o+1))) (R.add (R.mul x (b' o)) (bK r b' (o+1)));rw [ih,R.mul_add,R.add_assoc,R.add_assoc]
  congr 1
  rw [R.swap]
theorem zdC {r:List R.α}{o:Nat}:bK r (λ_=>R.zero) o=R.zero:=by
 induction r generalizing o with
 |nil=>rfl
 |cons x r ih=>
  show R.add (R.mul x R.zero) (bK r _ (o+1))=_;rw [ih,R.mul_zero,R.zero_add]
abbrev stB:List Sm:= [.ite (.cmp .eq (.sub (.var 8) (.var 9)) (.attr (.var 3) nq5)) [.cont] [],.fo [10] false (.sub (.attr (.var 0) eK) (.var 9)) zjF]
abbrev zhb (X:WX R) (i j:Nat):Nat->R.α:=λs=>xE X.B X.u X.l i j (aAt X.M s)
theorem znG {s n0 r:Nat}{as:List Nat}{xs:List (Ar R.α)}{y E e0:R.α}{st:CS R} (hd:5<=d) (C:pA X i j aR c0 row F) (hs:row[s]?=some y) (hm:xs∈X.M.arcs) (hr:(X.L.rows.map Val.ref)[s]?=some (.ref r)) (H:zhe R X.h r as xs) (hn:n0+xs.length<=X.M.cnt) (P:CP X i j aR c0 row n0 e0 st) (h0:e0=R.add (R.mul y (xE X.B X.u X.l i j xs)) E):
  ∃s',CP X i j aR c0 row (n0+xs.length) E s'/\exec (Cxd P0 d) (.fo [10] false (.sub (.attr (.var 0) aQ) (.var 9)) zjF) (wFr X (vN i) (vN j) (vR aR) (vN s) st.f st.k) st.g=some ((.nx,wFr X (vN i) (vN j) (vR aR) (vN s) s'.f s'.k),s'.g):=by
 subst h0;have I:=P.rw'.ism C.O.I;obtain ⟨s',P',e⟩:=foL (c:=Cxd P0 d) (tg:=[10]) (many:=false) (a:=r) (e:=.sub (.attr (.var 0) aQ) (.var 9)) (b:=zjF) (vs:=as.map .ref) (λs':CS R=>wFr X (vN i) (vN j) (vR aR) (vN s) s'.f s'.k) CS.g (λq=>CP X i j aR c0 row (n0+q) (R.add (R.mul y (xE X.B X.u X.l i j (xs.drop q))) E)) st
  (H.n▸Qa (Qa (Qn _ _) hn) (Qa C.O.G.c (by decide))) rfl (λq s' P=>P.rw'.up H.l) (by exact bM (.v (dM I)<| .v (sl I.arcs hr)<| .z (two (.ref r) st.g)) (by kernel_rfl)) P (λq v s' R1 _ hv P1 T1=>by
   obtain ⟨b,x,rfl,hx,hb⟩:=H.a q v hv;have ga:=C.O.G.arc _ hm x (Qd hx);exact c8 (zhN hd C hs (n:=n0+q) (Qi (QT (aH hx) _) hn) hb ga.1 ga.2.1 ga.2.2.1 ga.2.2.2.1 P1 (by rw [zdO hx]) rfl T1.nx T1.ct))
 rw [H.n,Zc,show xE X.B X.u X.l i j []=R.zero from rfl,R.mul_zero,R.zero_add] at P';exact ⟨s',P',e⟩
theorem zkL {s n0 n1:Nat}{e0 e1:R.α}{st:CS R} (hd:5<=d) (C:pA X i j aR c0 row F) (hs:s<X.M.arcs.length) (P:CP X i j aR c0 row n0 e0 st) (hn:n1=n0+(aAt X.M s).length) (hc:n1<=X.M.cnt) (h0:e0=R.add (R.mul (at' row s) (zhb X i j s)) e1)
  (q1: ∀s',CP X i j aR c0 row n1 e1 s'->R' .nx (wFr X (vN i) (vN j) (vR aR) s'.e s'.f s'.k) s'.g) (q2: ∀s',CP X i j aR c0 row n1 e1 s'->R' .ct (wFr X (vN i) (vN j) (vR aR) s'.e s'.f s'.k) s'.g):
  WSs (Cxd P0 d) stB (wFr X (vN i) (vN j) (vR aR) (vN s) st.f st.k) st.g R':=by
 have hsr:=xD (l:=row) (s:=s) (by rw [C.len];exact hs);have hRa:=P.rw'.row i j aR P.ad;rw [P.vr] at hRa;cases R.deq (at' row s) R.zero with
 |isTrue hz=>
  rw [hz,R.zero_mul,R.zero_add] at h0;have P':CP X i j aR c0 row n1 e1 {st with e:=vN s}:=⟨P.rw',P.lo,hn▸Qa P.hi (Ql (Qf _ _) _),P.dg,P.vr,P.ad,h0▸P.w⟩;exact run (.v (sl hRa (tU hsr))<| .w (R.no)<| .k (R.qe (at' row s) R.zero)<| .t (R.yes hz)<| .z (q2 _ P')) (by kernel_rfl)
 |isFalse hz=>
  refine (C.O.I.rowR hs).elim λr zq3=>zq3.elim λas zq4=>?_;obtain ⟨s',P',e⟩:=znG hd C hsr zq4.2.2 zq4.1 zq4.2.1 (hn▸hc) P h0;have N:CP X i j aR c0 row n1 e1 {s' with e:=vN s}:=by subst hn;exact ⟨P'.rw',P'.lo,P'.hi,P'.dg,P'.vr,P'.ad,P'.w⟩
  exact run (.v (sl hRa (tU hsr))<| .w (R.no)<| .k (R.qe (at' row s) R.zero)<| .f (R.not hz)<| .s (e)<| .z (q1 _ N)) (by kernel_rfl)
theorem zjn {r:List R.α}{b:Nat->R.α}{s:Nat} (hs:s<r.length):bK (r.drop s) b s=R.add (R.mul (at' r s) (b s)) (bK (r.drop (s+1)) b (s+1)):=by
 rw [oF hs];unfold at';rw [Qc hs];rfl
theorem zvw {st:CS R}{e0:R.α} (hd:5<=d) (C:pA X i j aR c0 row F) (P:CP X i j aR c0 row 0 e0 st) (h0:e0=R.add (bK row (zhb X i j) 0) F):
  ∃s',CP X i j aR c0 row X.M.cnt F s'/\exec (Cxd P0 d) (.fo [9] false (.call (.lit (.ty 491260897125)) [.meth (.var 0) 1936292453 []]) stB) (wFr X (vN i) (vN j) (vR aR) st.e st.f st.k) st.g=some ((.nx,wFr X (vN i) (vN j) (vR aR) s'.e s'.f s'.k),s'.g):=by
 subst h0;have I:=P.rw'.ism C.O.I;obtain ⟨s',P',e⟩:=foR (c:=Cxd P0 d) (x:=9) (n:=X.M.arcs.length) (e:=.call (.lit (.ty 491260897125)) [.meth (.var 0) 1936292453 []]) (b:=stB) (λs':CS R=>wFr X (vN i) (vN j) (vR aR) s'.e s'.f s'.k) CS.g (λs=>CP X i j aR c0 row (dP X.M s) (R.add (bK (row.drop s) (zhb X i j) s) F)) st
  (Qa I.lim (by decide)) rfl (by exact bM (.p (eP (Qa (by decide) hd) I)<| .c<| .z (two (.rng X.M.arcs.length) st.g)) (by kernel_rfl)) P (λs s' R1 _ hs P1 T1=>zkL hd C hs P1 (jS hs) (nC C.O.I _) (by rw [zjn (by rw [C.len];exact hs),R.add_assoc]) T1.nx T1.ct)
 have e1:dP X.M X.M.arcs.length=X.M.cnt:=by unfold dP;rw [QR,I.ct]
 have e2:row.drop X.M.arcs.length= []:=by rw [<-C.len,Zc]
 rw [e1,e2,show bK [] (zhb X i j) X.M.arcs.length=R.zero from rfl,R.zero_add] at P';exact ⟨s',P',e⟩
end
section
variable {R:Rg}{d:Nat}{h h0:MH}{Q:Val->MH->Prop}{L:Ly}{M:Mc R.α}{X:WX R}{i j aR c0:Nat}{row:List R.α}{F:R.α}{Rr R':Fl->Internal.Frame->MH->Prop}
structure xJ (X:WX R):Prop where
 r:X.ov= .none\/∃a,X.ov= .ref a
 no:X.ov= .none-> ∀i j s,i<=X.u.length->j<=X.l.length->s<X.M.arcs.length->X.B i j s=zN X.M X.B X.u X.l i j s
 so: ∀aT,X.ov= .ref aT-> ∀ {d P K aR:Nat}{g:MH}{row:List R.α}{Q:Val->MH->Prop},5<=d->(∃t,g=X.h++t) ->g[aR]?=some (.list (row.map R.e)) ->row.length=X.M.arcs.length->(∀x∈row,R.D P K x) ->4*(P+X.pS)+(K+X.kS)<=3800->
  (∀t a row',g.length<=a->(g++t)[a]?=some (.list (row'.map R.e)) ->row'.length=X.M.arcs.length->(∀x∈row',R.D (P+X.pS) (K+X.kS) x) ->(∀i j,i<=X.u.length->j<=X.l.length->bK row (X.B i j) 0=bK row' (zN X.M X.B X.u X.l i j) 0) ->Q (.ref a) (g++t)) ->
  WF P0 d 132 [.top (112+R.i),.ref aR,.ref aT] g Q
abbrev sJ (X:WX R) (i j:Nat):Nat->R.α:=λs=>if i=X.u.length/\j=X.l.length then eAt X.M s else R.zero
structure PS (X:WX R) (i j:Nat) (s:CS R):Prop where
 rw':RW R X.h s.g X.D X.M.arcs.length s.c s.Ad s.V
 hc:s.c<=1+(i*(X.l.length+1)+j)*(X.M.cnt+1)
 dg:zdH R i j s.c X.p X.k s.V
 w:i<X.u.length\/(i=X.u.length/\j<=X.l.length) ->pot X.u.length X.l.length X.B i j s.V=X.W
 fin:(i=X.u.length/\j=X.l.length+1)\/i=X.u.length+1->bK (s.V X.u.length X.l.length) (eAt X.M) 0=X.W/\∀x∈s.V X.u.length X.l.length,R.D (X.p*(X.u.length+X.l.length+1)+X.pS) (X.k*(X.u.length+X.l.length+1)+X.kS+s.c) x
theorem zm4 {c Y n B:Nat} (h:c<=1+Y+1) (h2:Y+(n+1)<=B):c+n<=1+B:=
 Qa (QV h n) (Qa (Qt ((Q1 (1+Y) 1 n).trans ((Q1 1 Y _).trans (congrArg (λz=>1+(Y+z)) (J6 1 n))))) (Ql h2 1))
theorem za8 (O:WOk X) {i j:Nat} (h1:i<=X.u.length) (h2:j<=X.l.length):(i*(X.l.length+1)+j)*(X.M.cnt+1)+(X.M.cnt+1)<=(X.u.length+1)*(X.l.length+1)*(X.M.cnt+1):=by
 have h3:(i*(X.l.length+1)+j)+1<=(X.u.length+1)*(X.l.length+1):=by
  have h4:i*(X.l.length+1)<=X.u.length*(X.l.length+1):=JG _ h1;rw [ZZ X.u.length];exact (QA h4 (Qa (Jq h2) (Qt (JV _).symm)):i*(X.l.length+1)+(j+1)<=_)
 have h5:=JG (X.M.cnt+1) h3;rwa [ZZ _ 1,JV] at h5
theorem CP.next {s:CS R} (C:pA X i j aR c0 row (bK row (sJ X i j) 0)) (P:CP X i j aR c0 row X.M.cnt (bK row (sJ X i j) 0) s) (h0:c0<=1+(i*(X.l.length+1)+j)*(X.M.cnt+1)+1):PS X i (j+1) s:=by
 have hi:=P.hi;refine ⟨P.rw',by rw [show i*(X.l.length+1)+(j+1)=(i*(X.l.length+1)+j)+1 from rfl,ZZ _ 1,JV];exact Qa P.hi (zm4 h0 (Qj _)),P.dg,λhlt=>?_,λhf=>?_⟩
 ·have: ¬(i=X.u.length/\j=X.l.length):=λe=>hlt.elim (λh=>Zd h e.1) λh=>Zd h.2 e.2
  have hw:=P.w;rw [show sJ X i j=λ_=>R.zero from funext λ_=>if_neg this,zdC,R.add_zero] at hw;exact hw
 ·have hh:i=X.u.length/\j=X.l.length:=hf.elim (λh=>⟨h.1,JZ.inj h.2⟩) λh=>absurd (h▸C.hi) (KF _)
  have hw:=P.w;rw [show sJ X i j=eAt X.M from funext λ_=>if_pos hh] at hw;obtain rfl:=hh.1;obtain rfl:=hh.2;rw [vZ,zbO,R.zero_add] at hw;rw [P.vr];exact ⟨hw,λx hx=>R.D_mono (Qj _) (Ql P.lo _) (C.dg x hx)⟩
abbrev u9:List Sm:= [.asg (.nm 8) (.meth (.var 5) 6776180 [.tup [.var 6,.var 7]]),.ite (.cmp .is (.var 8) (.lit .none)) [.cont] [],.ite (.cmp .isnot (.var 4) (.lit .none)) [.asg (.nm 8) (.call (.lit (.top 132)) [.var 3,.var 8,.var 4]),.asg (.sb (.var 5) (.tup [.var 6,.var 7])) (.var 8)] [],.fo [9] false (.call (.lit (.ty nq1)) [.meth (.var 0) iV []]) stB]
theorem zdN {V:List R.α}:bK V (zN X.M X.B X.u X.l i j) 0=R.add (bK V (zhb X i j) 0) (bK V (sJ X i j) 0):=by
 rw [R.add_comm,<-zgF];rfl
theorem zgo (z:Cx) {D:Nat}{c:Nat}{g:MH}{N:Nat}{Ad:Nat->Nat->Option Nat}{V:Nat->Nat->List R.α} (S:RW R h g D N c Ad V) (i j:Nat) {v:Val} (hv:((Ad i j).map Val.ref).getD .none=v):bI z (.ref D) nGet [b7 i j] g g=some (v,g):=by
 refine S.dd.elim λep zq13=>zq13.elim λes zq14=>?_;exact W.eq (zhA zq14.1 zq14.1 (u5 zq14.2.1) ⟨by rw [zq14.2.2.2];exact hv,rfl⟩)
theorem wV {c c' p k:Nat}{V:Nat->Nat->List R.α} (hc:c<=c') (h:zdH R i j c p k V):zdH R i (j+1) c' p k V:=λa b hn x hx=>R.D_mono (Qj _) (Ql hc _) (h a b (λq=>hn (q.elim .inl λq=> .inr ⟨q.1,Q4 q.2⟩)) x hx)
abbrev zvc:Sm:= .fo [9] false (.call (.lit (.ty 491260897125)) [.meth (.var 0) 1936292453 []]) stB
theorem ze3:1+(i*(X.l.length+1)+(j+1))*(X.M.cnt+1)=1+(i*(X.l.length+1)+j)*(X.M.cnt+1)+(X.M.cnt+1):=by
 rw [show i*(X.l.length+1)+(j+1)=(i*(X.l.length+1)+j)+1 from rfl,ZZ _ 1,JV,Q1]
theorem zca {a:Nat}{st:CS R} (hd:5<=d) (O:WOk X) (hi:i<=X.u.length) (hj:j<=X.l.length) (S:RW R X.h st.g X.D X.M.arcs.length st.c st.Ad st.V) (hA:st.Ad i j=some a) (dg:zdH R i (j+1) st.c X.p X.k st.V) (hD: ∀x∈st.V i j,R.D (X.p*(i+j+1)+X.pS) (X.k*(i+j+1)+X.kS+st.c) x)
  (hc:st.c<=1+(i*(X.l.length+1)+j)*(X.M.cnt+1)+1) (hw:R.add (pot X.u.length X.l.length X.B i (j+1) st.V) (bK (st.V i j) (zN X.M X.B X.u X.l i j) 0)=X.W):
  ∃s',PS X i (j+1) s'/\exec (Cxd P0 d) zvc (wFr X (vN i) (vN j) (vR a) st.e st.f st.k) st.g=some ((.nx,wFr X (vN i) (vN j) (vR a) s'.e s'.f s'.k),s'.g):=by
 have hcl:=za8 O hi hj;rw [zdN] at hw;refine (zvw hd (⟨O,hi,hj,zm4 hc hcl,S.len i j,hD⟩:pA X i j a st.c (st.V i j) (bK (st.V i j) (sJ X i j) 0)) ⟨S,Qj _,Qj _,dg,rfl,hA,hw⟩ rfl).elim λs' zq12=>?_;exact ⟨s',zq12.1.next (⟨O,hi,hj,zm4 hc hcl,S.len i j,hD⟩:pA X i j a st.c (st.V i j) (bK (st.V i j) (sJ X i j) 0)) hc,zq12.2⟩
theorem ovN (e:X.ov= .none) (h:MH):dQ .isnot X.ov .none h=some false:=by rw [e];rfl
theorem ovR {a:Nat} (e:X.ov= .ref a) (h:MH):dQ .isnot X.ov .none h=some true:=by rw [e];rfl
structure zhf (X:WX R) (g t:MH) (a P K:Nat) (row row':List R.α):Prop where
 ge:g.length<=a
 at':(g++t)[a]?=some (.list (row'.map R.e))
 len:row'.length=X.M.arcs.length
 dg: ∀x∈row',R.D (P+X.pS) (K+X.kS) x
 w: ∀i j,i<=X.u.length->j<=X.l.length->bK row (X.B i j) 0=bK row' (zN X.M X.B X.u X.l i j) 0
theorem xJ.ex (V:xJ X) {aT P K aR:Nat}{g:MH}{row:List R.α} (hov:X.ov= .ref aT) (hd:5<=d) (hp: ∃t,g=X.h++t) (hr:g[aR]?=some (.list (row.map R.e))) (hl:row.length=X.M.arcs.length) (hD: ∀x∈row,R.D P K x) (hb:4*(P+X.pS)+(K+X.kS)<=3800):
  ∃t a row',aM (Cxd P0 d) (.top 132) [.top (112+R.i),.ref aR,X.ov] g=some (.ref a,g++t)/\zhf X g t a P K row row':=by
 obtain ⟨v,g',e,t,a,row',rfl,rfl,N⟩:=W.get (dO (P:=P0) (d:=d) rfl (V.so aT hov hd hp hr hl hD hb (Q:=λv g'=> ∃t a row',v= .ref a/\g'=g++t/\zhf X g t a P K row row') λt a row' h1 h2 h3 h4 h5=>⟨t,a,row',rfl,rfl,h1,h2,h3,h4,h5⟩));exact ⟨t,a,row',by rw [hov];exact e,N⟩
abbrev ovS (st:CS R) (g:MH) (i j a:Nat) (row:List R.α):CS R:=⟨g,upd st.Ad i j (some a),upd st.V i j row,st.c+1,st.a,st.b,st.d,st.e,st.f,st.k⟩
theorem zjt (O:WOk X) {c:Nat} (hi:i<=X.u.length) (hj:j<=X.l.length) (hc:c<=1+(i*(X.l.length+1)+j)*(X.M.cnt+1)):4*(X.p*(i+j+1)+X.pS)+(X.k*(i+j+1)+c+X.kS)<=3800:=by
 have e3:=fK (p:=X.p) (show i+j+1+1<=X.u.length+X.l.length+2 by exact QM (ZY (QA hi hj) (QD _)));have e4:=fK (p:=X.k) (show i+j+1+1<=X.u.length+X.l.length+2 by exact QM (ZY (QA hi hj) (QD _)));have h1:=za8 O hi hj;have bd:=O.bd;rw [Ze] at e3 e4;exact Qa (QA (QH 4 (Qa (Ql (Qa (Qn _ _) O.pp) _) e3)) (Qa (Qt (JL _ _ _)) (QA (Qa (Ql (Qa (Qn _ _) O.kk) _) e4) (Qa hc (Qa (Ql (Qa (Qf _ _) h1) 1) (Qf _ _)))))) bd
section
variable {st:CS R} (hd:6<=d) (O:WOk X) (hi:i<=X.u.length) (hj:j<=X.l.length) (P:PS X i j st)
include hd O hi hj P
theorem PS.hw:R.add (bK (st.V i j) (X.B i j) 0) (pot X.u.length X.l.length X.B i (j+1) st.V)=X.W:=by
 have hp:=P.w ((K3 hi).imp id λh=>⟨h,hj⟩);rwa [ze9 hi hj] at hp
theorem PS.dij: ∀x∈st.V i j,R.D (X.p*(i+j+1)) (X.k*(i+j+1)+st.c) x:=P.dg i j (by unfold done;simp)
theorem zhJ (hA:st.Ad i j=none) (q2: ∀s',PS X i (j+1) s'->R' .ct (wFr X (vN i) s'.b s'.d s'.e s'.f s'.k) s'.g):WSs (Cxd P0 d) u9 (wFr X (vN i) (vN j) st.d st.e st.f st.k) st.g R':=by
 have hp:=PS.hw hd O hi hj P;have hz:=P.rw'.non i j hA;rw [hz,gU,R.zero_add] at hp;have N:PS X i (j+1) {st with b:=vN j,d:=some .none}:=by
  refine ⟨P.rw',by rw [ze3];exact Qa P.hc (Qf _ _),wV (Qj _) P.dg,λ_=>hp,λhf=>?_⟩;have hh:i=X.u.length/\j=X.l.length:=hf.elim (λh=>⟨h.1,JZ.inj h.2⟩) λh=>absurd (h▸hi) (KF _);obtain rfl:=hh.1;obtain rfl:=hh.2;rw [vZ,zbO] at hp;exact ⟨by show bK (st.V _ _) _ _=_;rw [hz,gU];exact hp,λx hx=>R.D_mono (Qf _ _) (QV (Qf _ _) _) (PS.dij hd O hi hj P x hx)⟩
 exact run (.p (zgo (Cxd P0 d) P.rw' i j (v:=.none) (by rw [hA];rfl))<| .c2<| .z (q2 _ N)) (by kernel_rfl)
theorem zhI (V:xJ X) {a:Nat} (hA:st.Ad i j=some a) (hov:X.ov= .none) (q1: ∀s',PS X i (j+1) s'->R' .nx (wFr X (vN i) s'.b s'.d s'.e s'.f s'.k) s'.g):WSs (Cxd P0 d) u9 (wFr X (vN i) (vN j) st.d st.e st.f st.k) st.g R':=by
 have hp:=PS.hw hd O hi hj P;rw [za6 λs _ h2=>V.no hov i j s hi hj (by rw [P.rw'.len,Jv] at h2;exact h2),R.add_comm] at hp;refine (zca (Qa (by decide) hd) O hi hj P.rw' hA (wV (Qj _) P.dg) (λx hx=>R.D_mono (Qf _ _) (QV (Qf _ _) _) (PS.dij hd O hi hj P x hx)) (Jd P.hc) hp).elim λs' zq6=>?_;have N:PS X i (j+1) {s' with b:=vN j,d:=vR a}:=⟨zq6.1.rw',zq6.1.hc,zq6.1.dg,zq6.1.w,zq6.1.fin⟩;exact run (.p (zgo (Cxd P0 d) P.rw' i j (v:=.ref a) (by rw [hA];rfl))<| .c2<| .k (ovN hov)<| .c<| .s (zq6.2)<| .z (q1 _ N)) (by kernel_rfl)
theorem zhH (V:xJ X) {a aT:Nat} (hA:st.Ad i j=some a) (hov:X.ov= .ref aT) (q1: ∀s',PS X i (j+1) s'->R' .nx (wFr X (vN i) s'.b s'.d s'.e s'.f s'.k) s'.g):WSs (Cxd P0 d) u9 (wFr X (vN i) (vN j) st.d st.e st.f st.k) st.g R':=by
 have hp:=PS.hw hd O hi hj P;have S:=P.rw';refine (V.ex hov (Qa (by decide) hd) S.pre (S.row i j a hA) (S.len i j) (PS.dij hd O hi hj P) (zjt O hi hj P.hc)).elim λt zq3=>zq3.elim λb zq4=>zq4.elim λrow' zq5=>?_;refine S.dd.elim λep zq1=>zq1.elim λes zq2=>?_;rw [zq5.2.w i j hi hj,<-zfa (r:=row') (a:=i) (b:=j) (i:=i) (j:=j+1) (V:=st.V) (by unfold done;simp),R.add_comm] at hp;obtain ⟨s',P',e⟩:=zca (st:=ovS st _ i j b row') (Qa (by decide) hd) O hi hj ((S.app:RW R X.h (st.g++t) X.D X.M.arcs.length st.c st.Ad st.V).put (i:=i) (j:=j) (aB zq2.1) zq5.2.at' (Qa (by obtain ⟨t0,hg⟩:=S.pre;rw [hg,Qv];exact Qf _ _) zq5.2.ge) (λi' j' e=>absurd (bT (S.row i' j' _ e)) (ZV.mpr zq5.2.ge)) zq5.2.len (bif (a9 es (b7 i j)).isSome then ep else ep.map (· +1))) a5 (λa' b' hn x hx=>by
   have hx:x∈upd st.V i j row' a' b':=hx;rw [bN (λq=>hn (by rw [q.1,q.2];exact .inr ⟨rfl,QD _⟩): ¬(a'=i/\b'=j))] at hx;exact wV (Ju _) P.dg a' b' hn x hx) (λx hx=>by
   have hx:x∈upd st.V i j row' i j:=hx;rw [a5] at hx;exact R.D_mono (Qj _) (by show _<=_+(st.c+1);exact Qa (Qt (JL _ _ _)) (QA (Qj _) (Qf _ _))) (zq5.2.dg x hx)) (Jq P.hc) (by show R.add _ (bK (upd st.V i j row' i j) _ 0)=_;rw [a5];exact hp)
 have N':PS X i (j+1) {s' with b:=vN j,d:=vR b}:=⟨P'.rw',P'.hc,P'.dg,P'.w,P'.fin⟩;exact run (.p (zgo (Cxd P0 d) P.rw' i j (v:=.ref a) (by rw [hA];rfl))<| .c2<| .k (ovR hov)<| .c<| .p (zq5.1)<| .h (zh1 (v:=.ref b) (aB (t:=t) zq2.1) (u5 (i:=i) (j:=j) zq2.2.1) (Qk zq2.2.2.1 (Qk P.hc (Qk (Ql (Qa (Qf _ _) (za8 O hi hj)) 1) (Q8 O.cl (by decide)))):es.length<lim))<| .s (e)<| .z (q1 _ N')) (by kernel_rfl)
end
theorem zed {st:CS R} (hd:6<=d) (O:WOk X) (V:xJ X) (hi:i<=X.u.length) (hj:j<=X.l.length) (P:PS X i j st)
  (q1: ∀s',PS X i (j+1) s'->R' .nx (wFr X (vN i) s'.b s'.d s'.e s'.f s'.k) s'.g) (q2: ∀s',PS X i (j+1) s'->R' .ct (wFr X (vN i) s'.b s'.d s'.e s'.f s'.k) s'.g):
  WSs (Cxd P0 d) u9 (wFr X (vN i) (vN j) st.d st.e st.f st.k) st.g R':=by
 cases hA:st.Ad i j with
 |none=>exact zhJ hd O hi hj P hA q2
 |some a=>exact V.r.elim (λhov=>zhI hd O hi hj P V hA hov q1) λ⟨_,hov⟩=>zhH hd O hi hj P V hA hov q1
end
section
variable {R:Rg}{d:Nat}{h h0:MH}{Q:Val->MH->Prop}{L:Ly}{M:Mc R.α}{X:WX R}{i j aR c0:Nat}{row:List R.α}{F:R.α}{Rr R':Fl->Internal.Frame->MH->Prop}
def vW (M:Mc R.α):List R.α:=(cR R M.arcs.length).set M.start M.first
def rE (h:MH) (M:Mc R.α):MH:=h++([.list [R.e R.zero],.list ((vW M).map R.e)]++ [.dict (some 1) [(b7 0 0,Val.ref (h.length+1))]])
theorem zeE {N:Nat} (hN:N=M.arcs.length):RW R h (rE h M) (h.length+2) N 1 (upd (λ_ _=>none) 0 0 (some (h.length+1))) (upd (λ_ _=>cR R N) 0 0 (vW M)):=by
 subst hN;unfold rE;refine ⟨⟨_,rfl⟩,Qf _ _,⟨_,_,iL,?_,Qj _,λi j=>?_⟩,λi j i' j' a h1 h2=>?_,λi j a h1=>?_,λi j a h1=>?_,λi j h1=>?_,λi j=>?_⟩
 ·intro p hp;rw [Qu.mp hp];exact ⟨0,0,rfl⟩
 ·rw [cN,y7]
  by_cases e:i=0/\j=0
  ·obtain ⟨rfl,rfl⟩:=e;rfl
  ·rw [bN e]
   have:(0==i && 0==j)=false:=by
    rw [JW];by_cases h3:i=0
    ·exact .inr (beq_false_of_ne λq=>e ⟨h3,q.symm⟩)
    ·exact .inl (beq_false_of_ne (JE h3))
   rw [this];rfl
 ·by_cases e1:i=0/\j=0
  ·by_cases e2:i'=0/\j'=0
   ·lia
   ·rw [bN e2] at h2;exact nomatch h2
  ·rw [bN e1] at h1;exact nomatch h1
 ·by_cases e1:i=0/\j=0
  ·obtain ⟨rfl,rfl⟩:=e1;rw [a5] at h1;cases h1;exact Qf _ _
  ·rw [bN e1] at h1;exact nomatch h1
 ·by_cases e1:i=0/\j=0
  ·obtain ⟨rfl,rfl⟩:=e1;rw [a5] at h1 ⊢;cases h1;exact iL
  ·rw [bN e1] at h1;exact nomatch h1
 ·by_cases e1:i=0/\j=0
  ·obtain ⟨rfl,rfl⟩:=e1;rw [a5] at h1;exact nomatch h1
  ·exact bN e1
 ·by_cases e1:i=0/\j=0
  ·obtain ⟨rfl,rfl⟩:=e1;rw [a5];unfold vW;rw [QL];unfold cR;rw [Q5]
  ·rw [bN e1];unfold cR;rw [Q5]
theorem zeF {p k p1 k1:Nat} (G:bD M p1 k1) (hp:p1<=p) (hk:k1<=k):zdH R 0 0 1 p k (upd (λ_ _=>cR R M.arcs.length) 0 0 (vW M)):=λa b _ x hx=>by
 have z: ∀ {P K:Nat},R.D P K R.zero:=R.D_mono (Qs _) (Qs _) R.D_zero;by_cases e1:a=0/\b=0
 ·obtain ⟨rfl,rfl⟩:=e1
  rw [a5] at hx;rcases J9 hx with hx|rfl
  ·rw [Jm hx];exact z
  ·exact R.D_mono (Qa hp (Qt (We p).symm)) (Jd (Qa hk (Qt (We k).symm))) G.fst
 ·rw [bN e1] at hx
  rw [Jm hx];exact z
theorem zcD {n m:Nat}{B:Nat->Nat->Nat->R.α} (hs:M.start<M.arcs.length):pot n m B 0 0 (upd (λ_ _=>cR R M.arcs.length) 0 0 (vW M))=R.mul M.first (B 0 0 M.start):=by
 have e:vW M=fS (cR R M.arcs.length) M.start M.first:=by
  unfold vW fS cR;rw [JJ,if_pos hs];show _=XC _ _ (R.add R.zero M.first);rw [R.zero_add]
 have zl:(cR R M.arcs.length).length=M.arcs.length:=Q5 ..;rw [e,yM (V:=λ_ _=>cR R M.arcs.length) (Qs _) (Qs _) (by unfold done;simp) (by rw [zl];exact hs),ze8 (λ_ _=>rfl),R.add_zero]
abbrev zlx:Sm:= .fo [7] false (.call (.lit (.ty 491260897125)) [.bin .add (.call (.lit (.bi 7103854)) [.var 2]) (.lit (.int 1))]) u9
theorem yN (n:Nat) (g:MH):Val.rng ((n:Int)+1)= .rng (n+1:Nat)/\g=g:=⟨rfl,rfl⟩
theorem zbY {a b c n:Nat} (h:1+(a+1)*(b+1)*(c+1)<n):a+1<n/\b+1<n:=by
 exact ⟨Qk (Qa (JC (a+1) (Jo b)) (JC ((a+1)*(b+1)) (Jo c))) (Qk (Qn _ _) h:(a+1)*(b+1)*(c+1)<n),Qk (Qa (Yu (b+1) (Jo a)) (JC ((a+1)*(b+1)) (Jo c))) (Qk (Qn _ _) h:(a+1)*(b+1)*(c+1)<n)⟩
theorem PS.nrow {s:CS R} (P:PS X i (X.l.length+1) s):PS X (i+1) 0 {s with a:=vN i}:=by
 refine ⟨P.rw',by rw [Nat.add_zero,ZZ i 1,JV];exact P.hc,λa b hn=>P.dg a b λq=>hn ?_,λhlt=>?_,λhf=>P.fin (.inl ⟨by lia,rfl⟩)⟩
 ·exact .inl (q.elim Q4 λq=>QK (Qt q.1))
 ·show pot X.u.length X.l.length X.B (i+1) 0 s.V=X.W
  rw [<-vZ];exact P.w (.inl (hlt.elim Xf λh=>Qt h.1))
theorem zvx {st:CS R} (hd:6<=d) (O:WOk X) (V:xJ X) (hi:i<=X.u.length) (P:PS X i 0 st): ∃s',PS X (i+1) 0 s'/\exec (Cxd P0 d) zlx (wFr X (vN i) st.b st.d st.e st.f st.k) st.g=some ((.nx,wFr X s'.a s'.b s'.d s'.e s'.f s'.k),s'.g):=
 (foR (c:=Cxd P0 d) (x:=7) (n:=X.l.length+1) (e:=.call (.lit (.ty 491260897125)) [.bin .add (.call (.lit (.bi 7103854)) [.var 2]) (.lit (.int 1))]) (b:=u9) (λs':CS R=>wFr X (vN i) s'.b s'.d s'.e s'.f s'.k) CS.g (λj=>PS X i j) st (QC (zbY O.cl).2) rfl (by exact bM (.c3<| .z (yN X.l.length st.g)) (by kernel_rfl)) P λj s' R1 _ hj P1 T1=>zed hd O V hi (QP hj) P1 T1.nx T1.ct).elim λs' q=>⟨{s' with a:=vN i},q.1.nrow,q.2⟩
abbrev st0 (X:WX R):CS R:=⟨rE X.h X.M,upd (λ_ _=>none) 0 0 (some (X.h.length+1)),upd (λ_ _=>cR R X.M.arcs.length) 0 0 (vW X.M),1,none,none,none,none,none,none⟩
theorem zmY {p k p' k':Nat}{b:Nat->R.α} (hb: ∀s,R.D p' k' (b s)): ∀ {r:List R.α}{o:Nat},(∀x∈r,R.D p k x) ->R.D (p+p') (k+k'+r.length) (bK r b o):=by
 intro r
 induction r with
 |nil=>exact λ_=>R.D_mono (Qs _) (Qs _) R.D_zero
 |cons x r ih=>exact λh=>R.D_add (R.D_mono (Qj _) (Qf _ _) (R.D_mul (h x (.head _)) (hb _))) (ih λy hy=>h y (.tail _ hy))
theorem bD.eAtD {M:Mc R.α}{p k:Nat} (G:bD M p k) (s:Nat):R.D p k (eAt M s):=by
 unfold eAt;cases e:M.ends[s]? with
 |none=>exact R.D_mono (Qs _) (Qs _) R.D_zero
 |some x=>exact G.ed x (Qd e)
abbrev zzF:Sm:= .fo [6] false (.call (.lit (.ty 491260897125)) [.bin .add (.call (.lit (.bi 7103854)) [.var 1]) (.lit (.int 1))]) [zlx]
theorem zvz (hd:6<=d) (O:WOk X) (V:xJ X) (P:PS X 0 0 (st0 X)): ∃s',PS X (X.u.length+1) 0 s'/\exec (Cxd P0 d) zzF (wFr X none none none none none none) (rE X.h X.M)=some ((.nx,wFr X s'.a s'.b s'.d s'.e s'.f s'.k),s'.g):=
 foR (c:=Cxd P0 d) (x:=6) (n:=X.u.length+1) (e:=.call (.lit (.ty 491260897125)) [.bin .add (.call (.lit (.bi 7103854)) [.var 1]) (.lit (.int 1))]) (b:=[zlx]) (λs':CS R=>wFr X s'.a s'.b s'.d s'.e s'.f s'.k) CS.g (λi=>PS X i 0) (st0 X) (QC (zbY O.cl).1) rfl (by exact bM (.c3<| .z (yN X.u.length (rE X.h X.M))) (by kernel_rfl)) P λi s' R1 _ hi P1 T1=>by
  refine (zvx hd O V (QP hi) P1).elim λs2 zq5=>?_;exact run (.s (zq5.2)<| .z (T1.nx s2 zq5.1)) (by kernel_rfl)
abbrev zvf (X:WX R):Nat:=X.k*(X.u.length+X.l.length+2)+(1+(X.u.length+1)*(X.l.length+1)*(X.M.cnt+1)+X.M.arcs.length)
theorem zmS {p k n pS kS p1 k1 c C N:Nat} (h1:p1+pS<=p) (h2:k1+kS<=k) (h3:c<=C) (h4:4*(p*(n+2))+(k*(n+2)+(C+N))<=3800):
  p*(n+1)+pS+p1<=p*(n+2)/\k*(n+1)+kS+c+k1+N<=k*(n+2)+(C+N)/\4*(p*(n+1)+pS+p1)+(k*(n+1)+kS+c+k1+N)<=3800:=by
 rw [(Ze .. :p*(n+2)=p*(n+1)+p),(Ze .. :k*(n+2)=k*(n+1)+k)] at h4 ⊢;have A1:=Qa (Qt (Q1 (p*(n+1)) pS p1)) (Ql (Qa (Qt (J6 _ _)) h1) _);have A2:=Qa (QV (Qa (Qt (ac4 (k*(n+1)) kS c k1)) (QA (Ql h2 _) h3)) N) (Qt (Q1 _ _ _));exact ⟨A1,A2,Qa (QA (QH 4 A1) A2) h4⟩
theorem zvy {s:CS R} (hd:4<=d) (O:WOk X) (P:PS X (X.u.length+1) 0 s): ∃v,bI (Cxd P0 d) (.ref X.D) nGet [b7 X.u.length X.l.length] s.g s.g=some (v,s.g)/\aM (Cxd P0 d) (.top 127) [.ref X.L.m,v] s.g=some (R.e X.W,s.g)/\R.D (X.p*(X.u.length+X.l.length+2)) (zvf X) X.W:=by
 have S:=P.rw';obtain ⟨hw,hdg⟩:=P.fin (.inr rfl);cases hA:s.Ad X.u.length X.l.length with
 |none=>
  rw [S.non _ _ hA,gU] at hw;exact ⟨.none,zgo _ S _ _ (by rw [hA];rfl),hw▸fn rfl (zjk hd (S.ism O.I) ⟨rfl,rfl⟩),hw▸R.D_mono (Qs _) (Qs _) R.D_zero⟩
 |some a=>
  have F:=zmS O.pp O.kk P.hc O.bd;have hDv:=zmY (o:=0) (b:=eAt X.M) (λs=>O.G.eAtD s) hdg;rw [hw,S.len] at hDv;refine ⟨.ref a,zgo _ S _ _ (by rw [hA];rfl),?_,R.D_mono F.1 F.2.1 hDv⟩
  have:=fn (P:=P0) rfl (za5 (Q:=λv g=>v=_/\g=_) hd (S.ism O.I) (S.row _ _ _ hA) (S.len _ _) hdg O.G.ed F.2.2 ⟨rfl,rfl⟩)
  rw [zjo (o:=0) (b:=eAt X.M) ((S.len _ _).trans O.I.lenE.symm) λs x hx=>by unfold eAt;rw [Jv,hx];rfl,hw] at this;exact this
theorem znm (eD:X.D=X.h.length+2):dW (X.h++ [MObj.list [R.e R.zero],.list (((cR R X.M.arcs.length).set X.M.start X.M.first).map R.e)]) (.dict (some 1) [(b7 0 0,.ref (X.h.length+1))])=some (.ref X.D,rE X.h X.M):=by
 unfold dW rE vW;rw [Qm,eD,Qv];rfl
theorem ps0 (O:WOk X) (eD:X.D=X.h.length+2) (eW:X.W=R.mul X.M.first (X.B 0 0 X.M.start)) (hk:X.k1<=X.k) (hp:X.p1<=X.p):PS X 0 0 (st0 X):=
 ⟨by rw [eD];exact zeE rfl,Qf _ _,zeF O.G hp hk,λ_=>by rw [eW];exact zcD O.G.st,λe=>e.elim (λe=>nomatch e.2) λe=>nomatch e⟩
theorem xP {g:MH} (hd:7<=d) (O:WOk X) (V:xJ X) (eg:g=X.h) (eD:X.D=X.h.length+2) (eW:X.W=R.mul X.M.first (X.B 0 0 X.M.start)) (hk:X.k1<=X.k) (hp:X.p1<=X.p)
  (q: ∀t,R.D (X.p*(X.u.length+X.l.length+2)) (zvf X) (R.mul X.M.first (X.B 0 0 X.M.start)) ->Q (R.e (R.mul X.M.first (X.B 0 0 X.M.start))) (X.h++t)):WSs (Cxd P0 d) (cO.drop 5) (some (.ref X.L.m)::some (.str X.u)::some (.str X.l)::some (.top (112+R.i))::some X.ov::nn 13) g (Internal.Fin Q):=by
 subst eg;obtain ⟨s,P,e⟩:=zvz (Qa (by decide) hd) O V (ps0 O eD eW hk hp);refine (zvy (d:=d) (Qa (by decide) hd) O P).elim λv zq2=>?_;have e1:=zq2.1;have e2:=zq2.2.1;refine P.rw'.pre.elim λt zq1=>?_;rw [zq1,eW] at e2;rw [zq1] at e e1;exact run (.p ((fn (P:=P0) (d:=d) (h:=X.h) rfl (zgu (Q:=λv g=>v=_/\g=_) (Qa (by decide) hd) O.I O.G.st ⟨rfl,rfl⟩)))<| .p (znm eD)<| .s (e)<| .c2<| .p (e1)<| .p (e2)<| .z (q t (eW▸zq2.2.2))) (by kernel_rfl)
end
section
variable {R:Rg}{d:Nat}{h h0:MH}{Q:Val->MH->Prop}{L:Ly}{M:Mc R.α}
def bW (u l:List Nat) (i j:Nat) (a:Ar R.α):Bool:=fit u i a.up && fit l j a.lo
def cH (B:Nat->Nat->Nat->R.α) (u l:List Nat) (i j:Nat) (xs:List (Ar R.α)):R.α:=a6 (xs.map λa=>bif bW u l i j a then R.mul a.w (B (i+a.up.length) (j+a.lo.length) a.t) else R.zero)
def zH (b:Nat->R.α) (xs:List (Ar R.α)):R.α:=a6 (xs.map λa=>bif a.emp then R.mul a.w (b a.t) else R.zero)
def xB (M:Mc R.α) (B:Nat->Nat->Nat->R.α) (u l:List Nat) (i j s:Nat):R.α:=R.add (if i=u.length/\j=l.length then eAt M s else R.zero) (cH B u l i j (aAt M s))
def BH (M:Mc R.α) (u l:List Nat):Nat->Nat->Nat->Nat->R.α
 |0,_,_,_=>R.zero
 |f+1,i,j,s=>xB M (BH M u l f) u l i j s
def upE (M:Mc R.α):Prop:= ∀ (s:Nat) ys,M.arcs[s]?=some ys-> ∀a∈ys,a.emp=true->s<a.t
theorem iF {a:Ar R.α} (h:a.emp=true):a.up= []/\a.lo= []:=by
 unfold Ar.emp at h;obtain ⟨up,lo,w,t⟩:=a;cases up with
 |cons _ _=>exact nomatch h
 |nil=>
  cases lo with
  |cons _ _=>exact nomatch h
  |nil=>exact ⟨rfl,rfl⟩
theorem zbh {B:Nat->Nat->Nat->R.α}{u l:List Nat}{i j:Nat}{xs:List (Ar R.α)}:cH B u l i j xs=R.add (xE B u l i j xs) (zH (B i j) xs):=by
 induction xs with
 |nil=>exact (R.zero_add _).symm
 |cons a xs ih=>
  unfold cH xE zH at ih ⊢;rw [Qz,Qz,Qz,aC,aC,aC,ih];cases he:a.emp with
  |true=>
   have zq9:=iF he;rw [(by unfold nY;rw [he];rfl:nY u l i j a=false),(by unfold bW;rw [zq9.1,zq9.2];rfl:bW u l i j a=true),zq9.1,zq9.2,cond_true,cond_true,cond_false,R.zero_add,R.swap];rfl
  |false=>
   rw [(by unfold nY bW;rw [he];rfl:nY u l i j a=bW u l i j a),cond_false,R.zero_add,R.add_assoc]
theorem sA {B:Nat->Nat->Nat->R.α}{u l:List Nat}{i j s:Nat}:xB M B u l i j s=R.add (zN M B u l i j s) (zH (B i j) (aAt M s)):=by
 unfold xB zN;rw [zbh,R.add_assoc]
theorem zdx {b:Nat->R.α}{xs:List (Ar R.α)} (h: ∀a∈xs,a.emp=false):zH b xs=R.zero:=by
 unfold zH
 induction xs with
 |nil=>rfl
 |cons a xs ih=>rw [Qz,aC,h a (.head _),ih λa ha=>h a (.tail _ ha)];exact R.zero_add _
theorem sL {B B':Nat->Nat->Nat->R.α}{u l:List Nat}{i j:Nat}{xs:List (Ar R.α)} (h: ∀a∈xs,bW u l i j a=true->B (i+a.up.length) (j+a.lo.length) a.t=B' (i+a.up.length) (j+a.lo.length) a.t):cH B u l i j xs=cH B' u l i j xs:=by
 refine bL λa ha=>?_;cases hh:bW u l i j a with
 |true=>rw [cond_true,cond_true,h a ha hh]
 |false=>rfl
theorem iI {B:Nat->Nat->Nat->R.α}{u l:List Nat}{i j:Nat}{xs:List (Ar R.α)}{a:Ar R.α}:cH B u l i j (a::xs)=R.add (bif bW u l i j a then R.mul a.w (B (i+a.up.length) (j+a.lo.length) a.t) else R.zero) (cH B u l i j xs):=rfl
theorem d0 {s:Nat}{a:Ar R.α} (h:a∈aAt M s): ∃ys,M.arcs[s]?=some ys/\ys∈M.arcs/\a∈ys:=by
 unfold aAt at h;cases hs:M.arcs[s]? with
 |none=>rw [hs] at h;exact absurd h Qq
 |some ys=>rw [hs] at h;exact ⟨ys,rfl,Qd hs,h⟩
structure j5 (M:Mc R.α):Prop where
 l: ∀ys∈M.arcs,∀a∈ys,lab a.up/\lab a.lo
 t: ∀ys∈M.arcs,∀a∈ys,a.t<M.arcs.length
 e:upE M
def mU (M:Mc R.α) (u l:List Nat) (i j s:Nat):Nat:=((u.length-i)+(l.length-j))*(M.arcs.length+1)+(M.arcs.length-s)
theorem zbW {u l:List Nat}{i j s:Nat}{a:Ar R.α} (H:j5 M) (hi:i<=u.length) (hj:j<=l.length) (ha:a∈aAt M s) (hh:bW u l i j a=true):i+a.up.length<=u.length/\j+a.lo.length<=l.length/\mU M u l (i+a.up.length) (j+a.lo.length) a.t<mU M u l i j s:=by
 refine (d0 ha).elim λys zq8=>?_;have zq7:=H.l ys zq8.2.1 a zq8.2.2;have f1:=(wN zq7.1 (Qb.mp hh).1 hi).1;have f2:=(wN zq7.2 (Qb.mp hh).2 hj).1;refine ⟨f1,f2,?_⟩;have hsl:=aH zq8.1;unfold mU;cases he:a.emp with
 |true=>
  have:=H.e s ys zq8.1 a zq8.2.2 he
  rw [(iF he).1,(iF he).2];show (u.length-i+(l.length-j))*(M.arcs.length+1)+(M.arcs.length-a.t)<_;exact QT (Nat.sub_lt_sub_left hsl this) _
 |false=>
  have h5:=zb5 he;have h6:((u.length-(i+a.up.length))+(l.length-(j+a.lo.length))+1)*(M.arcs.length+1)<=((u.length-i)+(l.length-j))*(M.arcs.length+1):=JG _ (Qa (Ql h5 _) (Qt ((YI _ _ _ _).trans (congr (congrArg _ (XE .. ▸Ke (Yz f1))) (XE .. ▸Ke (Yz f2))))));rw [ZZ,JV] at h6;exact Qi (QT (QK (Kb _ _)) _) (Qa h6 (Qf _ _))
theorem xN {u l:List Nat} (H:j5 M): ∀ {f f' i j s:Nat},i<=u.length->j<=l.length->mU M u l i j s<f->mU M u l i j s<f'->BH M u l f i j s=BH M u l f' i j s:=by
 intro f
 induction f with
 |zero=>exact λ_ _ h=>absurd h (QX _)
 |succ f ih=>
  intro f' i j s hi hj h1 h2;cases f' with
  |zero=>exact absurd h2 (QX _)
  |succ f'=>
   show R.add _ (cH (BH M u l f) u l i j (aAt M s))=R.add _ (cH (BH M u l f') u l i j (aAt M s))
   congr 1
   refine sL λa ha hh=>?_;have zq5:=zbW H hi hj ha hh;exact ih zq5.1 zq5.2.1 (Qi zq5.2.2 (QP h1)) (Qi zq5.2.2 (QP h2))
def Bv (M:Mc R.α) (u l:List Nat) (i j s:Nat):R.α:=BH M u l (mU M u l i j s+1) i j s
theorem pB {u l:List Nat} (H:j5 M) {i j s:Nat} (hi:i<=u.length) (hj:j<=l.length):Bv M u l i j s=xB M (Bv M u l) u l i j s:=by
 show R.add _ (cH (BH M u l (mU M u l i j s)) u l i j (aAt M s))=R.add _ (cH (Bv M u l) u l i j (aAt M s))
 congr 1
 refine sL λa ha hh=>?_;have zq4:=zbW H hi hj ha hh;exact xN H zq4.1 zq4.2.1 zq4.2.2 (QD _)
section
variable {ks:List Nat}{mb1 mb2:List Bool}{xss:List (List Nat)} (TB:xF M ks mb1 mb2 xss) (hE:M.ends.length=M.arcs.length)
include TB hE
theorem zgH {k:Nat}{a:Ar R.α} (hk:mb2[k]?≠some true) (ha:a∈aAt M k) (ht:a.t<M.arcs.length):mb2[a.t]?≠some true:=λq=>hk (by
 refine (d0 ha).elim λys zq3=>?_;have hx:=Qc (l:=xss) (i:=a.t) (by rw [TB.b2.len];exact ht);refine TB.c2 _ _ q hx k ((TB.b2.mem _ _ hx k).mpr ⟨ys,zq3.1,.inl ⟨aH zq3.1,a,zq3.2.2,rfl⟩⟩))
theorem zgI {k:Nat} (hk:mb2[k]?≠some true):eAt M k=R.zero:=by
 by_cases hkn:k<M.arcs.length
 ·cases he:m9 M k with
  |true=>exact absurd (TB.m2.first k (KN.mpr ⟨J8.mpr hkn,he⟩)) hk
  |false=>
   unfold m9 at he;exact dT (Bool.not_inj (y:=true) he)
 ·unfold eAt
  rw [Jp (Qa (Qt hE) (Q0 hkn))];rfl
theorem u7 {u l:List Nat} (ht: ∀ys∈M.arcs,∀a∈ys,a.t<M.arcs.length): ∀ {f i j k:Nat},mb2[k]?≠some true->BH M u l f i j k=R.zero:=by
 intro f
 induction f with
 |zero=>exact λ_=>rfl
 |succ f ih=>
  intro i j k hk;show R.add (if i=u.length/\j=l.length then eAt M k else R.zero) (cH (BH M u l f) u l i j (aAt M k))=_;have e1:(if i=u.length/\j=l.length then eAt M k else R.zero)=R.zero:=by rw [zgI TB hE hk];split<;>rfl
  rw [e1,R.zero_add]
  have: ∀xs:List (Ar R.α),(∀a∈xs,a∈aAt M k) ->cH (BH M u l f) u l i j xs=R.zero:=λxs=>by
   induction xs with
   |nil=>exact λ_=>rfl
   |cons a xs ihx=>
    intro h;refine (d0 (h a (.head _))).elim λys zq2=>?_;rw [iI,ihx λb hb=>h b (.tail _ hb),ih (zgH TB hE hk (h a (.head _)) (ht ys zq2.2.1 a zq2.2.2)),R.mul_zero];cases bW u l i j a<;>exact R.zero_add _
  exact this _ λ_ h=>h
theorem zcq {u l:List Nat}{T:Mc R.α} (nk:ks.Nodup) (ht: ∀ys∈M.arcs,∀a∈ys,a.t<M.arcs.length) (ha:T.arcs=ks.map λk=>fL ks (aAt M k)) (he:T.ends=ks.map (eAt M)): ∀ {f i j k:Nat},k∈ks->BH T u l f i j (ks.idxOf k)=BH M u l f i j k:=by
 intro f
 induction f with
 |zero=>exact λ_=>rfl
 |succ f ih=>
  intro i j k hk;have hix:=Js.mpr hk;have hge:ks[ks.idxOf k]=k:=KY hix;have e1:eAt T (ks.idxOf k)=eAt M k:=by
   unfold eAt;rw [he,Qo,Qc hix,hge];rfl
  have e2:aAt T (ks.idxOf k)=fL ks (aAt M k):=by
   unfold aAt;rw [ha,Qo,Qc hix,hge];rfl
  show R.add (if i=u.length/\j=l.length then eAt T (ks.idxOf k) else R.zero) (cH (BH T u l f) u l i j (aAt T (ks.idxOf k)))=R.add _ (cH (BH M u l f) u l i j (aAt M k));rw [e1,e2]
  congr 1
  have hkp:=hk;rw [TB.ks] at hkp;have hp:=Qb.mp (pR hkp).2;have m1k:mb1[k]?=some true:=by
   cases hm:mb1[k]? with
   |none=>rw [hm] at hp;exact nomatch hp.1
   |some b=>rw [hm] at hp;exact congrArg some hp.1
  have: ∀xs:List (Ar R.α),(∀a∈xs,a∈aAt M k) ->cH (BH T u l f) u l i j (fL ks xs)=cH (BH M u l f) u l i j xs:=λxs=>by
   induction xs with
   |nil=>exact λ_=>rfl
   |cons a xs ihx=>
    intro h;have ihx:=ihx λb hb=>h b (.tail _ hb);refine (d0 (h a (.head _))).elim λys zq1=>?_;unfold fL at ihx ⊢;rw [Zk];by_cases hin:a.t∈ks
    ·rw [if_pos hin]
     rw [iI,iI,ihx];show R.add (bif bW u l i j a then R.mul a.w (BH T u l f (i+a.up.length) (j+a.lo.length) (ks.idxOf a.t)) else R.zero) _=_;rw [ih hin]
    ·rw [if_neg hin]
     have hd2:mb2[a.t]?≠some true:=λq=>hin (by
      rw [TB.ks];exact KN.mpr ⟨J8.mpr (ht ys zq1.2.1 a zq1.2.2),by rw [(TB.c1 k (ys.map Ar.t) m1k (by unfold onw;rw [Qo,zq1.1];rfl) a.t (QF.mpr ⟨a,zq1.2.2,rfl⟩):mb1[a.t]?=some true),q];rfl⟩)
     rw [iI,u7 TB hE ht hd2,R.mul_zero];have e0:(bif bW u l i j a then R.zero else R.zero)=R.zero:=by cases bW u l i j a<;>rfl
     rw [e0,R.zero_add];exact ihx
  exact this _ λ_ h=>h
end
end
section
variable {R:Rg}{d:Nat}{h h0:MH}{Q:Val->MH->Prop}{L:Ly}{M:Mc R.α}
theorem zad {l:List Nat}{p:Nat->Bool}{f:Nat->Nat}:((l.filter p).map f).sum<=(l.map f).sum:=by
 induction l with
 |nil=>exact Qj _
 |cons x l ih=>
  rw [List.filter_cons,Qz,Z8];cases p x
  ·show ((l.filter p).map f).sum<=_;exact Km ih
  ·show (((x::l.filter p)).map f).sum<=_
   rw [Qz,Z8];exact Ql ih _
theorem zbj:M.arcs=(QS M.arcs.length).map (aAt M):=by
 refine kF (by rw [Qe,QZ]) λi y hy=>?_;rw [Qo,Jy (aH hy)];show some (M.arcs[i]?.getD [])=_;rw [hy];rfl
theorem zcs {ks:List Nat}{xs:List (Ar R.α)}:(fL ks xs).length<=xs.length:=Yg ..
theorem nP {ks:List Nat}{xs:List (Ar R.α)}{a:Ar R.α} (h:a∈fL ks xs): ∃b∈xs,b.t∈ks/\a= {b with t:=ks.idxOf b.t}:=by
 refine (List.mem_filterMap.mp h).elim λb zq16=>?_;have e:=zq16.2;by_cases hk:b.t∈ks
 ·rw [if_pos hk] at e;exact ⟨b,zq16.1,hk,(Qx.inj e).symm⟩
 ·rw [if_neg hk] at e;exact nomatch e
theorem zlh {l:List Nat}{f g:Nat->Nat} (h: ∀x,f x<=g x):(l.map f).sum<=(l.map g).sum:=by
 induction l with
 |nil=>exact Qj _
 |cons x l ih=>rw [Qz,Qz,Z8,Z8];have:=h x;exact QA this ih
theorem bD.lab {p k:Nat} (G:bD M p k) (H:upE M):j5 M:=⟨λys hy a ha=>⟨(G.arc ys hy a ha).2.1,(G.arc ys hy a ha).2.2.1⟩,λys hy a ha=>(G.arc ys hy a ha).1,H⟩
theorem zap {p:Nat->Bool}{n i j:Nat}{a b:Nat} (ha:(eJ p n)[i]?=some a) (hb:(eJ p n)[j]?=some b) (h:a<b):i<j:=by
 have pw:(eJ p n).Pairwise (· < ·):=List.Pairwise.filter _ List.pairwise_lt_range;obtain ⟨h1,rfl⟩:=Qg.mp ha;obtain ⟨h2,rfl⟩:=Qg.mp hb;refine Xm λhle=>?_;rcases K3 hle with hl|he
 ·exact Nat.lt_asymm h (List.pairwise_iff_getElem.mp pw _ _ h2 h1 hl)
 ·subst he;exact Q2 _ h
structure zvn (M T:Mc R.α) (p k:Nat):Prop where
 g:bD T p k
 cnt:T.cnt<=M.cnt
 len:T.arcs.length<=M.arcs.length
 up:upE M->upE T
 no:uS M->uS T
theorem zcr {p k:Nat}{ks:List Nat}{mb1 mb2:List Bool}{xss:List (List Nat)}{T:Mc R.α}{g:MH}{L':Ly} (I:IsM R h L M) (G:bD M p k) (TB:xF M ks mb1 mb2 xss) (TR:iJ M ks T) (J:IsM R g L' T):zvn M T p k:=by
 have hks: ∀x∈ks,x<M.arcs.length:=λx hx=>by rw [TB.ks] at hx;exact (pR hx).1
 have hkl:ks.length<=M.arcs.length:=by rw [TB.ks];exact qR
 have hst:=G.st;cases TR with
 |full h1 h2 ha he hs hf=>
  have hal:T.arcs.length=ks.length:=by rw [ha,Qe]
  have hcnt:T.cnt<=M.cnt:=by
   rw [<-J.ct,<-I.ct,ha,JY];have e:(M.arcs.map JK)=(QS M.arcs.length).map (λk=>(aAt M k).length):=by
    conv=>lhs;rw [zbj (M:=M)]
    rw [JY];rfl
   rw [e,TB.ks];exact Qa (zlh λx=>zcs) zad
  refine ⟨⟨by rw [hal,hs];exact Js.mpr h1,λys hy a hay=>?_,hf▸G.fst,λx hx=>?_,G.bd,by have:=G.n;exact Qa (Qt hal) (Qa hkl this),Qa hcnt G.c⟩,hcnt,Qa (Qt hal) hkl,λH s ys hys a hay hae=>?_,λhE=>?_⟩
  ·rw [ha] at hy
   refine (QF.mp hy).elim λk' zq13=>?_;obtain rfl:=zq13.2;refine (nP hay).elim λb zq12=>?_;obtain rfl:=zq12.2.2;refine (d0 zq12.1).elim λzs zq11=>?_;have zq10:=G.arc zs zq11.2.1 b zq11.2.2;exact ⟨by rw [hal];exact Js.mpr zq12.2.1,zq10.2.1,zq10.2.2.1,zq10.2.2.2.1,zq10.2.2.2.2⟩
  ·rw [he] at hx
   refine (QF.mp hx).elim λk' zq9=>?_;obtain rfl:=zq9.2;unfold eAt;rw [Qc (by rw [I.lenE];exact (hks k' zq9.1):k'<M.ends.length)];exact G.ed _ (Jg (by rw [I.lenE];exact (hks k' zq9.1):k'<M.ends.length))
  ·rw [ha,Qo] at hys
   obtain ⟨k',hk',rfl⟩:=ms hys;obtain ⟨b,hb,hbt,rfl⟩:=nP hay;refine (d0 hb).elim λzs zq6=>?_;have hlt:=H k' zs zq6.1 b zq6.2.2 hae;have hge:ks[ks.idxOf b.t]?=some b.t:=by rw [Qc (Js.mpr hbt),KY (Js.mpr hbt)]
   rw [TB.ks] at hk' hge;show s<ks.idxOf b.t;rw [TB.ks];exact zap hk' hge hlt
  ·unfold uS
   refine ZS.mpr λys hy=>?_;rw [ha] at hy;obtain ⟨k',hk',rfl⟩:=QF.mp hy;intro q;obtain ⟨a,hay,he⟩:=ZE.mp q;obtain ⟨b,hb,hbt,rfl⟩:=nP hay;refine (d0 hb).elim λzs zq2=>?_;exact absurd (ZE.mpr ⟨b,zq2.2.2,he⟩) (ZS.mp hE zs zq2.2.1)
 |bare h1 ha he hs hf=>
  have hcnt:T.cnt=0:=by rw [<-J.ct,ha];rfl
  refine ⟨⟨by rw [ha,hs];exact Nat.zero_lt_one,λys hy a hay=>?_,hf▸R.D_mono (Qs _) (Qs _) R.D_one,λx hx=>?_,G.bd,by rw [ha];show 1<=300;decide,Qa (Qt hcnt) (Qs _)⟩,Qa (Qt hcnt) (Qs _),by rw [ha];show 1<=_;exact Qa (Qn _ _) (QM hst),λ_ s ys hys a hay _=>?_,λ_=>by unfold uS;rw [ha];rfl⟩
  ·rw [ha] at hy
   cases Qu.mp hy;exact absurd hay Qq
  ·rw [he] at hx
   cases Qu.mp hx;exact R.D_mono (Qs _) (Qs _) R.D_zero
  ·rw [ha] at hys
   cases Qu.mp (Qd hys);exact absurd hay Qq
theorem xT {p k:Nat}{u l:List Nat}{ks:List Nat}{mb1 mb2:List Bool}{xss:List (List Nat)}{T:Mc R.α} (I:IsM R h L M) (G:bD M p k) (TB:xF M ks mb1 mb2 xss) (TR:iJ M ks T) (HM:j5 M) (HT:j5 T):R.mul T.first (Bv T u l 0 0 T.start)=R.mul M.first (Bv M u l 0 0 M.start):=by
 have ht: ∀ys∈M.arcs,∀a∈ys,a.t<M.arcs.length:=λys hy a ha=>(G.arc ys hy a ha).1;have nk:ks.Nodup:=by rw [TB.ks];exact zbP
 cases TR with
 |full h1 h2 ha he hs hf=>
  rw [hs,hf];have eM:Bv M u l 0 0 M.start=BH M u l (mU M u l 0 0 M.start+mU T u l 0 0 (ks.idxOf M.start)+1) 0 0 M.start:=xN HM (Qs _) (Qs _) (QD _) (QK (Qf _ _));have eT:Bv T u l 0 0 (ks.idxOf M.start)=BH T u l (mU M u l 0 0 M.start+mU T u l 0 0 (ks.idxOf M.start)+1) 0 0 (ks.idxOf M.start):=xN HT (Qs _) (Qs _) (QD _) (QK (Qn _ _));rw [eM,eT,(zcq TB I.lenE nk ht ha he h1: ∀ {f:Nat},BH T u l f 0 0 (ks.idxOf M.start)=BH M u l f 0 0 M.start)]
 |bare h1 ha he hs hf=>
  have e1:Bv T u l 0 0 T.start=R.zero:=by
   unfold Bv;show R.add (if 0=u.length/\0=l.length then eAt T T.start else R.zero) (cH (BH T u l _) u l 0 0 (aAt T T.start))=_;have e2:eAt T T.start=R.zero:=by unfold eAt;rw [he,hs];rfl
   have e3:aAt T T.start= []:=by unfold aAt;rw [ha,hs];rfl
   rw [e2,e3]
   have:(if 0=u.length/\0=l.length then R.zero else R.zero)=R.zero:=by split<;>rfl
   rw [this,R.zero_add];rfl
  rw [e1,R.mul_zero];rcases h1 with h1|h1
  ·have hd2:mb2[M.start]?≠some true:=λq=>h1 (by
    rw [TB.ks];exact KN.mpr ⟨J8.mpr G.st,by rw [TB.m1.first M.start (.head _),q];rfl⟩)
   unfold Bv;rw [u7 TB I.lenE ht hd2,R.mul_zero]
  ·rw [h1,R.zero_mul]
theorem zc4 (hE:uS M) {s:Nat}{a:Ar R.α} (h:a∈aAt M s):a.emp=false:=by
 refine (d0 h).elim λys zq1=>?_
 have:=ZS.mp hE ys zq1.2.1
 cases he:a.emp with
 |false=>rfl
 |true=>exact absurd (ZE.mpr ⟨a,zq1.2.2,he⟩) this
abbrev wX (h:MH) (L:Ly) (M:Mc R.α) (u l:List Nat) (ov:Val) (p k p1 k1 pS kS:Nat):WX R:=⟨h,L,M,u,l,h.length+2,ov,p,k,p1,k1,pS,kS,Bv M u l,R.mul M.first (Bv M u l 0 0 M.start)⟩
end
section
variable {R:Rg}{d:Nat}{h h0:MH}{Q:Val->MH->Prop}
abbrev DR (R:Rg):=List (Nat×R.α)
def bQ (r:DR R):List (Val×Val):=r.map λp=>(Val.int (p.1:Int),R.e p.2)
def bR:DR R->Nat->R.α
 | [],_=>R.zero
 |p::t,j=>if p.1=j then p.2 else bR t j
def nS:DR R->Nat->R.α->DR R
 | [],j,v=> [(j,v)]
 |p::t,j,v=>if p.1=j then (j,v)::t else p::nS t j v
theorem dX {p:Nat×R.α}{t:DR R}{j:Nat}:bR (p::t) j=if p.1=j then p.2 else bR t j:=rfl
theorem fJ {p:Nat×R.α}{t:DR R}{j:Nat}{v:R.α}:nS (p::t) j v=if p.1=j then (j,v)::t else p::nS t j v:=rfl
def aJ (r:DR R):List Nat:=r.map (·.1)
def cT (r:DR R) (b:Nat->R.α):R.α:=a6 (r.map λp=>R.mul p.2 (b p.1))
theorem zgb {a b:Nat}:kEq (.int (a:Int)) (.int (b:Int))=(a==b):=by
 show ((z8 [] (.int (a:Int)) (.int (b:Int))).getD false)=_;have e:z8 [] (.int (a:Int)) (.int (b:Int))=some ((a:Int)==(b:Int)):=mI (h:=[]);rw [e];show ((a:Int)==(b:Int))=(a==b);rw [Zw,beq_iff_eq,beq_iff_eq];lia
theorem kI {r:DR R}{j:Nat}:aN (bQ r) (.int (j:Int))=true:=by
 cases r with
 |nil=>rfl
 |cons p t=>rfl
theorem nA {r:DR R}{j:Nat}:a9 (bQ r) (.int (j:Int))=if j∈aJ r then some (R.e (bR r j)) else none:=by
 induction r with
 |nil=>rfl
 |cons p t ih=>
  show a9 ((Val.int (p.1:Int),R.e p.2)::bQ t) _=_;rw [cN,zgb,ih];rw [dX];unfold aJ;by_cases h:p.1=j
  ·rw [beq_iff_eq.mpr h,cond_true,if_pos (by rw [Qz,h];exact .head _),if_pos h]
  ·rw [beq_false_of_ne h,cond_false,if_neg h]
   by_cases h2:j∈t.map (·.1)
   ·rw [if_pos h2,if_pos (.tail _ h2)]
   ·rw [if_neg h2]
    exact (if_neg λq=>(QE.mp q).elim (λe=>h e.symm) h2).symm
theorem zdA {r:DR R}{j:Nat}{v:Val} (h:j∉aJ r):((bQ r).map λp=>bif kEq p.1 (.int (j:Int)) then (p.1,v) else p)=bQ r:=by
 induction r with
 |nil=>rfl
 |cons p t ih=>
  show (bif kEq (Val.int (p.1:Int)) (.int (j:Int)) then _ else _)::(bQ t).map _=_;rw [zgb,beq_false_of_ne λe=>h (by rw [<-e];exact .head _),ih λq=>h (.tail _ q)];rfl
theorem zgE {r:DR R}{j:Nat}{v:R.α} (nd:(aJ r).Nodup):fP (bQ r) (.int (j:Int)) (R.e v)=bQ (nS r j v):=by
 unfold fP;rw [nA];by_cases h:j∈aJ r
 ·rw [if_pos h,K1,cond_true]
  induction r with
  |nil=>exact absurd h Qq
  |cons p t ih=>
   show (bif kEq (Val.int (p.1:Int)) (.int (j:Int)) then _ else _)::(bQ t).map _=_;rw [zgb];rw [fJ];by_cases e:p.1=j
   ·rw [beq_iff_eq.mpr e,cond_true,if_pos e,zdA (e▸(Qw.mp nd).1)]
    show (Val.int (p.1:Int),R.e v)::bQ t=(Val.int (j:Int),R.e v)::bQ t;rw [e]
   ·rw [beq_false_of_ne e,cond_false,if_neg e]
    rw [ih (Qw.mp nd).2 ((QE.mp h).elim (λq=>absurd q.symm e) id:j∈aJ t)];rfl
 ·rw [if_neg h,K2,cond_false]
  induction r with
  |nil=>rfl
  |cons p t ih=>
   rw [fJ];rw [if_neg (λe=>h (by rw [<-e];exact .head _): ¬p.1=j)];show (Val.int (p.1:Int),R.e p.2)::(bQ t++ [(Val.int (j:Int),R.e v)])=_;rw [ih (Qw.mp nd).2 λq=>h (.tail _ q)];rfl
theorem gP {r:DR R}{j:Nat}{v:R.α}: ∀x,x∈aJ (nS r j v) ↔ x∈aJ r\/x=j:=by
 induction r with
 |nil=>intro x;show x∈ [j] ↔ _;rw [Qu];exact ⟨.inr,λh=>h.elim (λh=>absurd h Qq) id⟩
 |cons p t ih=>
  intro x;rw [fJ];by_cases e:p.1=j
  ·rw [if_pos e]
   show x∈j::aJ t ↔ x∈p.1::aJ t\/x=j;rw [e,QE];exact ⟨λh=> .inl h,λh=>h.elim id .inl⟩
  ·rw [if_neg e]
   show x∈p.1::aJ (nS t j v) ↔ x∈p.1::aJ t\/x=j;rw [QE,QE,ih,or_assoc]
theorem zbK {r:DR R}{j:Nat}{v:R.α} (nd:(aJ r).Nodup):(aJ (nS r j v)).Nodup:=by
 induction r with
 |nil=>exact Qw.mpr ⟨Qq,.nil⟩
 |cons p t ih=>
  have nd:=Qw.mp nd;rw [fJ];by_cases e:p.1=j
  ·rw [if_pos e];exact Qw.mpr ⟨e▸nd.1,nd.2⟩
  ·rw [if_neg e]
   exact Qw.mpr ⟨λq=>((gP _).mp q).elim nd.1 e,ih nd.2⟩
theorem qM {r:DR R}{j:Nat}{v:R.α}{q:Nat×R.α} (h:q∈nS r j v):q∈r\/q=(j,v):=by
 induction r with
 |nil=>exact .inr (Qu.mp h)
 |cons p t ih=>
  rw [fJ] at h;by_cases e:p.1=j
  ·rw [if_pos e] at h
   exact (QE.mp h).elim .inr λh=> .inl (.tail _ h)
  ·rw [if_neg e] at h
   rcases QE.mp h with rfl|h
   ·exact .inl (.head _)
   ·exact (ih h).imp (.tail _) id
theorem mP {r:DR R}{j:Nat} (h:j∈aJ r):(j,bR r j)∈r:=by
 induction r with
 |nil=>exact absurd h Qq
 |cons p t ih=>
  rw [dX];by_cases e:p.1=j
  ·rw [if_pos e,<-e];exact .head _
  ·rw [if_neg e];exact .tail _ (ih ((QE.mp h).elim (λq=>absurd q.symm e) id))
theorem j9 {r:DR R}{j:Nat} (h:j∉aJ r):bR r j=R.zero:=by
 induction r with
 |nil=>rfl
 |cons p t ih=>
  rw [dX];rw [if_neg λe=>h (by rw [<-e];exact .head _),ih λq=>h (.tail _ q)]
theorem ze2 {r:DR R}{j:Nat}{w:R.α}{b:Nat->R.α}:cT (nS r j (R.add (bR r j) w)) b=R.add (R.mul w (b j)) (cT r b):=by
 unfold cT
 induction r with
 |nil=>show R.add (R.mul (R.add R.zero w) (b j)) R.zero=R.add (R.mul w (b j)) R.zero;rw [R.zero_add]
 |cons p t ih=>
  rw [fJ,dX];by_cases e:p.1=j
  ·rw [if_pos e,if_pos e,Qz,Qz,aC,aC,e,R.add_mul,R.add_assoc,R.swap]
  ·rw [if_neg e,if_neg e,Qz,Qz,aC,aC,ih,R.swap]
def d7 (r:DR R) (j:Nat) (w:R.α):DR R:= @ite _ (w=R.zero) (R.deq _ _) r (nS r j (R.add (bR r j) w))
theorem qP {r:DR R}{j:Nat}{w:R.α}{b:Nat->R.α}:cT (d7 r j w) b=R.add (R.mul w (b j)) (cT r b):=by
 unfold d7;by_cases h:w=R.zero
 ·rw [if_pos h,h,R.zero_mul,R.zero_add]
 ·rw [if_neg h,ze2]
structure g6 (n P K:Nat) (r:DR R):Prop where
 nd:(aJ r).Nodup
 lt: ∀x∈aJ r,x<n
 dg: ∀p∈r,R.D P K p.2
theorem g6.get {n P K:Nat}{r:DR R} (H:g6 n P K r) (j:Nat):R.D P K (bR r j):=by
 by_cases h:j∈aJ r
 ·exact H.dg _ (mP h)
 ·rw [j9 h];exact R.D_mono (Qs _) (Qs _) R.D_zero
theorem zbN {n P K j:Nat}{r:DR R}{w:R.α} (H:g6 n P K r) (hj:j<n) (hw:R.D P K w):g6 n P (K+1) (d7 r j w):=by
 unfold d7;by_cases h:w=R.zero
 ·rw [if_pos h];exact ⟨H.nd,H.lt,λp hp=>R.D_mono (Qj _) (Ju _) (H.dg p hp)⟩
 ·rw [if_neg h]
  refine ⟨zbK H.nd,λx hx=>((gP x).mp hx).elim (H.lt x) λe=>e▸hj,λp hp=>?_⟩;rcases qM hp with hp|rfl
  ·exact R.D_mono (Qj _) (Ju _) (H.dg p hp)
  ·exact R.D_add (H.get j) hw
theorem g6.len {n P K:Nat}{r:DR R} (H:g6 n P K r):r.length<=n:=by
 have:=H.nd.length_le_of_subset (l₂:=QS n) λx hx=>J8.mpr (H.lt x hx)
 rwa [QZ,show (aJ r).length=r.length from Qe ..] at this
theorem zkm (z:Cx) {a:Nat}{ep:Option Nat}{r:DR R} (hr:h[a]?=some (.dict ep (bQ r))) (j:Nat):bI z (.ref a) nGet [.int j,R.e R.zero] h h=some (R.e (bR r j),h):=by
 refine W.eq (zkR hr hr kI ⟨?_,rfl⟩);rw [nA];by_cases h:j∈aJ r
 ·rw [if_pos h];rfl
 ·rw [if_neg h,j9 h];rfl
theorem zvR {a j:Nat}{ep:Option Nat}{r:DR R} (v:R.α) (hr:h[a]?=some (.dict ep (bQ r))) (nd:(aJ r).Nodup) (hl:r.length<=1000): ∃ep',dI h (.ref a) (.int j) (R.e v)=some (h.set a (.dict ep' (bQ (nS r j v)))):=
 ⟨_,(zh1 hr kI (by unfold bQ;rw [Qe];exact Qk hl (by decide))).trans (by rw [zgE nd])⟩
theorem vU {n P K j a:Nat}{ep:Option Nat}{r:DR R}{w:R.α} (hd:4<=d) (hr:h[a]?=some (.dict ep (bQ r))) (H:g6 n P K r) (hn:n<=1000) (hw:R.D P K w) (hl:4*P+K<=3800): ∃ep',aM (Cxd P0 d) (.top 104) [.top (112+R.i),.ref a,.int (j:Int),R.e w] h=some (.none,h.set a (.dict ep' (bQ (d7 r j w)))):=by
 have hz:dQ .ne (R.e w) (R.e R.zero) h=some (!@decide (w=R.zero) (R.deq _ _)):=Internal.ne_of (R.veq_ok h w R.zero);obtain ⟨ep',e⟩: ∃ep',WF P0 d 104 [.top (112+R.i),.ref a,.int (j:Int),R.e w] h λv g=>v= .none/\g=h.set a (.dict ep' (bQ (d7 r j w))):=by
  cases hq:R.deq w R.zero with
  |isTrue q=>
   have e:h.set a (.dict ep (bQ (d7 r j w)))=h:=by
    refine (Qg.mp hr).elim λhl zq2=>?_;unfold d7;rw [if_pos q,<-zq2,Zu]
   refine ⟨ep,bJ (K:=3) hd (some (.top (112+R.i))::some (.ref a)::some (.int (j:Int))::some (R.e w)::nn 6) iH (by kernel_rfl) λd' h'=>?_⟩;rw [e];have hf:(!@decide (w=R.zero) (R.deq _ _))=false:=by rw [R.yes q];rfl
   exact run (.w (R.no)<| .b (hz)<| .f (hf)<| .z (two .none h)) (by kernel_rfl)
  |isFalse q=>
   obtain ⟨ep',e⟩:=zvR (j:=j) (R.add (bR r j) w) hr H.nd (Qa H.len hn);refine ⟨ep',bJ (K:=3) hd (some (.top (112+R.i))::some (.ref a)::some (.int (j:Int))::some (R.e w)::nn 6) iH (by kernel_rfl) λd' h'=>?_⟩;rw [(by unfold d7;rw [if_neg q]:d7 r j w=nS r j (R.add (bR r j) w))];exact run (.w (R.no)<| .b (hz)<| .t ((by rw [R.not q];rfl:(!@decide (w=R.zero) (R.deq _ _))=true))<| .w (R.no)<| .p (zkm (Cxd P0 d') hr j)<| .q (R.pl h' (H.get j) hw hl)<| .h (e)<| .z (two .none (h.set a (.dict ep' (bQ (nS r j (R.add (bR r j) w))))))) (by kernel_rfl)
 exact ⟨ep',fn rfl e⟩
end
section
variable {R:Rg}
theorem uP {r:DR R}{b:Nat->R.α}{l:List Nat} (hp:l.Perm (aJ r)) (nd:(aJ r).Nodup):a6 (l.map λj=>R.mul (bR r j) (b j))=cT r b:=by
 have sp: ∀ {x y:List R.α},x.Perm y->a6 x=a6 y:=λ{x y} h=>by
  induction h with
  |nil=>rfl
  |cons a _ ih=>rw [aC,aC,ih]
  |swap a b l=>rw [aC,aC,aC,aC,R.swap]
  |trans _ _ h1 h2=>exact h1.trans h2
 rw [sp (hp.map _)];unfold cT aJ;rw [JY]
 clear hp l
 induction r with
 |nil=>rfl
 |cons p t ih=>
  have nd:=Qw.mp nd;rw [Qz,Qz,aC,aC,<-ih nd.2];show R.add (R.mul (bR (p::t) p.1) (b p.1)) _=_;rw [dX,if_pos rfl]
  congr 1
  refine congrArg a6 (Ja λq hq=>?_);show R.mul (bR (p::t) q.1) (b q.1)=R.mul (bR t q.1) (b q.1);rw [dX,if_neg λe=>nd.1 (by rw [show (λx:Nat×R.α=>x.1) p=q.1 from e];exact QF.mpr ⟨q,hq,rfl⟩)]
theorem hH {r:DR R}{b b':Nat->R.α} (h: ∀x∈aJ r,b x=b' x):cT r b=cT r b':=congrArg a6 (Ja λp hp=>by rw [h p.1 (QF.mpr ⟨p,hp,rfl⟩)])
theorem ziw {r:DR R}{b b':Nat->R.α}{k:Nat}{x:R.α} (nd:(aJ r).Nodup) (hk:k∈aJ r) (h: ∀j,j≠k->b j=b' j) (e:b k=R.add (b' k) x):cT r b=R.add (R.mul (bR r k) x) (cT r b'):=by
 induction r with
 |nil=>exact absurd hk Qq
 |cons p t ih=>
  show R.add (R.mul p.2 (b p.1)) (cT t b)=R.add _ (R.add (R.mul p.2 (b' p.1)) (cT t b'));rw [dX];by_cases hp:p.1=k
  ·rw [if_pos hp,hH (b:=b) (b':=b') λy hy=>h y λq=>(Qw.mp nd).1 (by rw [show (λx:Nat×R.α=>x.1) p=k from hp,<-q];exact hy),hp,e,R.mul_add,R.add_comm (R.mul p.2 (b' k)),R.add_assoc]
  ·rw [if_neg hp,ih (Qw.mp nd).2 ((QE.mp hk).elim (λq=>absurd q.symm hp) id),h _ hp,R.swap]
def zdz (ov:DR R) (f:R.α) (l:List Nat) (t:DR R):DR R:=l.foldl (λt j=>d7 t j (R.mul f (bR ov j))) t
theorem zgD {ov:DR R}{f:R.α}{b:Nat->R.α}: ∀ {l:List Nat}{t:DR R},cT (zdz ov f l t) b=R.add (R.mul f (a6 (l.map λj=>R.mul (bR ov j) (b j)))) (cT t b):=by
 intro l
 induction l with
 |nil=>intro t;show cT t b=R.add (R.mul f R.zero) (cT t b);rw [R.mul_zero,R.zero_add]
 |cons j l ih=>
  intro t;show cT (zdz ov f l (d7 t j (R.mul f (bR ov j)))) b=_;rw [ih,qP,Qz,aC,R.mul_add,R.mul_assoc,R.add_assoc,R.swap]
structure SR (n p K i k:Nat) (t:DR R):Prop where
 nd:(aJ t).Nodup
 lt: ∀x∈aJ t,i<x/\x<n
 dg: ∀q∈t,R.D (p*(q.1-i)) (K*(q.1-i)+k) q.2
theorem SR.mono {n p K i k k':Nat}{t:DR R} (H:SR n p K i k t) (h:k<=k'):SR n p K i k' t:=⟨H.nd,H.lt,λq hq=>R.D_mono (Qj _) (Ql h _) (H.dg q hq)⟩
theorem SR.get {n p K i k j:Nat}{t:DR R} (H:SR n p K i k t) (h:j∈aJ t):R.D (p*(j-i)) (K*(j-i)+k) (bR t j):=H.dg _ (mP h)
structure SRl (n p K i k:Nat) (l:List Nat) (t:DR R):Prop where
 nd:(aJ t).Nodup
 lt: ∀x∈aJ t,i<x/\x<n
 dg: ∀q∈t,R.D (p*(q.1-i)) (K*(q.1-i)+(k+1)) q.2
 dl: ∀q∈t,q.1∈l->R.D (p*(q.1-i)) (K*(q.1-i)+k) q.2
theorem SR.l {n p K i k:Nat}{t:DR R} (H:SR n p K i k t) (l:List Nat):SRl n p K i k l t:=⟨H.nd,H.lt,(H.mono (Ju k)).dg,λq hq _=>H.dg q hq⟩
theorem SRl.add {n p K i k j:Nat}{l:List Nat}{t:DR R}{w:R.α} (H:SRl n p K i k (j::l) t) (hj:j∉l) (h1:i<j) (h2:j<n) (hw:R.D (p*(j-i)) (K*(j-i)+k) w):SRl n p K i k l (d7 t j w):=by
 unfold d7;by_cases h:w=R.zero
 ·rw [if_pos h];exact ⟨H.nd,H.lt,H.dg,λq hq hl=>H.dl q hq (.tail _ hl)⟩
 ·rw [if_neg h]
  refine ⟨zbK H.nd,λx hx=>((gP x).mp hx).elim (H.lt x) λe=>e▸ ⟨h1,h2⟩,λq hq=>?_,λq hq hl=>?_⟩
  ·rcases qM hq with hq|rfl
   ·exact H.dg q hq
   ·refine R.D_add (k:=K*(j-i)+k) ?_ hw
    by_cases hj:j∈aJ t
    ·exact H.dl _ (mP hj) (.head _)
    ·rw [j9 hj];exact R.D_mono (Qs _) (Qs _) R.D_zero
  ·rcases qM hq with hq|rfl
   ·exact H.dl q hq (.tail _ hl)
   ·exact absurd hl hj
structure ER (n p K0 k:Nat) (ov:DR R):Prop where
 nd:(aJ ov).Nodup
 lt: ∀x∈aJ ov,k<x/\x<n
 dg: ∀q∈ov,R.D p K0 q.2
theorem uU {n p K K0 i k m j:Nat}{f w:R.α} (hf:R.D (p*(k-i)) (K*(k-i)+m) f) (hw:R.D p K0 w) (hi:i<k) (hj:k<j) (hK:K0<=K):R.D (p*(j-i)) (K*(j-i)+m) (R.mul f w):=by
 have e2:K*(k-i)+K<=K*(j-i):=by rw [<-Ze];exact QH _ (YJ (QC hi) hj)
 exact R.D_mono (by rw [<-Ze];exact QH _ (YJ (QC hi) hj):p*(k-i)+p<=p*(j-i)) (Qa (Qt (JL _ _ _)) (QV (Qa (Ql hK _) e2) _)) (R.D_mul hf hw)
def bk (N B:Nat->R.α) (k:Nat):Nat->R.α:=λj=>if j<k then N j else B j
theorem zeD {n p K0 K i k m:Nat}{t ov:DR R}{N B:Nat->R.α}{l:List Nat} (H:SR n p K i m t) (E:ER n p K0 k ov) (hl:l.Perm (aJ ov)) (hB:B k=R.add (N k) (cT ov B)) (hk:k∈aJ t):cT (zdz ov (bR t k) l t) (bk N B (k+1))=cT t (bk N B k):=by
 rw [zgD,uP hl E.nd,ziw (b:=bk N B k) (b':=bk N B (k+1)) (k:=k) (x:=cT ov B) H.nd hk]
 ·congr 2
  exact hH λx hx=>if_neg (by have:=(E.lt x hx).1;exact Q6 (QM this))
 ·intro j hj
  unfold bk;by_cases h:j<k
  ·rw [if_pos h,if_pos (Q4 h)]
  ·rw [if_neg h,if_neg (Q6 (QM (Jh (Q0 h) (JE hj))))]
 ·unfold bk
  rw [if_neg (Q2 _),if_pos (QD _),hB]
theorem zeC {n p K i k m:Nat}{t:DR R}{N B:Nat->R.α} (H:SR n p K i m t) (hk:k∉aJ t):cT t (bk N B (k+1))=cT t (bk N B k):=hH λx hx=>by
 have:x≠k:=λe=>hk (e▸hx)
 unfold bk;by_cases h:x<k
 ·rw [if_pos h,if_pos (Q4 h)]
 ·rw [if_neg h,if_neg (Q6 (QM (Jh (Q0 h) (JE this))))]
def cP (xs:List (Ar R.α)):DR R:=xs.foldl (λr a=>bif a.emp then d7 r a.t a.w else r) []
theorem oO {xs:List (Ar R.α)}{a:Ar R.α}:cP (xs++ [a])=bif a.emp then d7 (cP xs) a.t a.w else cP xs:=by unfold cP;rw [ZC];rfl
theorem zac {xs:List (Ar R.α)}{b:Nat->R.α}:cT (cP xs) b=zH b xs:=by
 have go: ∀ (xs:List (Ar R.α)) (r:DR R),cT (xs.foldl (λr a=>bif a.emp then d7 r a.t a.w else r) r) b=R.add (cT r b) (zH b xs):=by
  intro xs
  induction xs with
  |nil=>intro r;exact (R.add_zero _).symm
  |cons a xs ih=>
   intro r;rw [Zy,ih];show _=R.add (cT r b) (R.add (bif a.emp then R.mul a.w (b a.t) else R.zero) (zH b xs));cases a.emp with
   |true=>rw [cond_true,cond_true,qP,R.add_assoc,R.swap]
   |false=>rw [cond_false,cond_false,R.zero_add]
 exact (go xs []).trans (R.zero_add _)
theorem uJ {n p k s:Nat}: ∀ {xs:List (Ar R.α)},(∀a∈xs,a.t<n/\R.D p k a.w/\(a.emp=true->s<a.t)) ->g6 n p (k+xs.length) (cP xs)/\∀x∈aJ (cP xs),s<x:=by
 intro xs;rw [<-List.reverse_reverse xs]
 generalize xs.reverse=ys
 induction ys with
 |nil=>exact λ_=>⟨⟨.nil,λx h=>absurd h Qq,λq h=>absurd h Qq⟩,λx h=>absurd h Qq⟩
 |cons a ys ih=>
  intro h;rw [Zh] at h ⊢;obtain ⟨h1,h2⟩:=ih λb hb=>h b (Jr _ hb);have zq1:=h a (QG _ (.head _));rw [oO,Qv,Ko,<-Q1];cases he:a.emp with
  |false=>exact ⟨⟨h1.nd,h1.lt,λq hq=>R.D_mono (Qj _) (Ju _) (h1.dg q hq)⟩,h2⟩
  |true=>
   rw [cond_true];refine ⟨zbN h1 zq1.1 (R.D_mono (Qj _) (Qf _ _) zq1.2.1),λx hx=>?_⟩;unfold d7 at hx;by_cases hw:a.w=R.zero
   ·rw [if_pos hw] at hx;exact h2 x hx
   ·rw [if_neg hw] at hx
    exact ((gP x).mp hx).elim (h2 x) λe=>e▸zq1.2.2 he
end
section
variable {R:Rg}{d:Nat}{h h0:MH}{Q:Val->MH->Prop}{L:Ly}{M:Mc R.α}
structure Tab (h g:MH) (T:List (DR R)):Prop where
 pre: ∃t,g=h++t
 at':g[h.length]?=some (.list ((QO (h.length+1) T.length).map .ref))
 row: ∀ (i:Nat) (t:DR R),T[i]?=some t-> ∃ep,g[h.length+(i+1)]?=some (.dict ep (bQ t))
structure sT (g:MH) (aT:Nat) (T:List (DR R)):Prop where
 x: ∃rs:List Nat,g[aT]?=some (.list (rs.map .ref))/\rs.length=T.length/\∀ (i r:Nat) (t:DR R),rs[i]?=some r->T[i]?=some t-> ∃ep,g[r]?=some (.dict ep (bQ t))
variable {g:MH}{aT:Nat}{T:List (DR R)}
theorem ze4 {a n i:Nat} (hi:i<n):(QO (a+1) n)[i]?=some (a+(i+1)):=by
 rw [YF hi]
 congr 1;lia
theorem Tab.r (H:Tab h g T):sT g h.length T:=⟨_,H.at',by rw [Zo],λi r t hr ht=>by
 rw [ze4 (aH ht)] at hr;cases hr;exact H.row i t ht⟩
theorem sT.app {t:MH} (H:sT g aT T):sT (g++t) aT T:=by
 refine H.x.elim λrs zq7=>?_;exact ⟨rs,aB zq7.1,zq7.2.1,λi r t a b=>(zq7.2.2 i r t a b).elim λep e=>⟨ep,aB e⟩⟩
theorem Tab.app {t:MH} (H:Tab h g T):Tab h (g++t) T:=by
 refine H.pre.elim λt0 zq6=>?_;obtain rfl:=zq6;exact ⟨⟨_,Qm ..⟩,aB H.at',λi t a=>(H.row i t a).elim λep e=>⟨ep,aB e⟩⟩
theorem Tab.set {i:Nat}{t':DR R}{ep:Option Nat} (H:Tab h g T) (hi:i<T.length):Tab h (g.set (h.length+(i+1)) (.dict ep (bQ t'))) (T.set i t'):=by
 refine (H.row i _ (Qc hi)).elim λep0 zq3=>?_;refine H.pre.elim λt0 zq2=>?_;obtain rfl:=zq2;refine ⟨⟨_,i8 (Qf _ _)⟩,by rw [QL];exact aZ (JI (J0 (Jo _))) H.at',λj u hu=>?_⟩;by_cases e:i=j
 ·subst e
  rw [QI hi] at hu;cases hu;exact ⟨ep,bS zq3⟩
 ·rw [QJ e] at hu
  obtain ⟨ep1,e1⟩:=H.row j u hu;exact ⟨ep1,aZ (by lia) e1⟩
theorem zbB {n:Nat}{Tf:Nat->DR R}{ep:Nat->Option Nat}:Tab h (h++ .list ((QO (h.length+1) n).map .ref)::(QS n).map λi=> .dict (ep i) (bQ (Tf i))) ((QS n).map Tf):=by
 refine ⟨⟨_,rfl⟩,by rw [Qe,QZ];exact aV,λi t ht=>⟨ep i,?_⟩⟩;have hk:i<n:=by have:=aH ht;rwa [Qe,QZ] at this
 rw [Qo,Jy hk] at ht;cases ht;rw [iL];show ((QS n).map _)[i]?=_;rw [Qo,Jy hk];rfl
def lP (M:Mc R.α) (i j s:Nat):List (Ar R.α):=if s<i then aAt M s else if s=i then (aAt M s).take j else []
def d5 (M:Mc R.α) (i j:Nat):List (DR R):=(QS M.arcs.length).map λs=>cP (lP M i j s)
theorem vJ {i j s:Nat} (hs:s<M.arcs.length):(d5 M i j)[s]?=some (cP (lP M i j s)):=by
 unfold d5;rw [Qo,Jy hs];rfl
theorem zct {i j:Nat}{a:Ar R.α} (hi:i<M.arcs.length) (ha:(aAt M i)[j]?=some a):d5 M i (j+1)=(d5 M i j).set i (bif a.emp then d7 (cP ((aAt M i).take j)) a.t a.w else cP ((aAt M i).take j)):=by
 refine kF (by unfold d5;rw [Qe,QL,Qe]) λs y hy=>?_;have hs:s<M.arcs.length:=by have:=aH hy;unfold d5 at this;rwa [Qe,QZ] at this
 rw [vJ hs] at hy;cases hy;by_cases e:i=s
 ·subst e
  rw [QI (by unfold d5;rw [Qe,QZ];exact hs)];unfold lP;rw [if_neg (Q2 _),if_pos rfl,JD,ha];show _=some (cP (_++ [a]));rw [oO]
 ·rw [QJ e,vJ hs]
  unfold lP;by_cases h1:s<i
  ·rw [if_pos h1,if_pos h1]
  ·rw [if_neg h1,if_neg h1,if_neg (JE e),if_neg (JE e)]
theorem zcu {i:Nat}:d5 M i (aAt M i).length=d5 M (i+1) 0:=by
 unfold d5;refine Ja λs _=>congrArg cP ?_;unfold lP;by_cases h1:s<i
 ·rw [if_pos h1,if_pos (Q4 h1)]
 ·rw [if_neg h1]
  by_cases h2:s=i
  ·subst h2
   rw [if_pos rfl,if_pos (QD _),QR]
  ·rw [if_neg h2,if_neg (Q6 (QM (Jh (Q0 h1) (JE h2))))]
   by_cases h3:s=i+1
   ·rw [if_pos h3];rfl
   ·rw [if_neg h3]
end
section
variable {R:Rg}{d:Nat}{h h0:MH}{Q:Val->MH->Prop}{L:Ly}{M:Mc R.α}{R':Fl->Internal.Frame->MH->Prop}
structure TbS where
 g:MH
 a:Option Val:=none
 b:Option Val:=none
def tbF (L:Ly) (n0:Nat) (a b:Option Val):Internal.Frame:=some (.ref L.m)::some (.bool true)::some (.ref n0)::a::b::nn 6
abbrev zhT:List Sm:= [.ite (.bop true [.meth (.var 4) zc1 [],.not (.var 1)]) [.expr (.call (.lit (.top 104)) [.attr (.var 0) fZ,.sub (.var 2) (.var 3),.attr (.var 4) kM,.attr (.var 4) nq9])] []]
abbrev zvE:List Sm:= [.fo [4] false (.sub (.attr (.var 0) eK) (.var 3)) zhT]
theorem xV {i j:Nat}:(d5 M i j).length=M.arcs.length:=by unfold d5;rw [Qe,QZ]
theorem Tab.im {g:MH}{T:List (DR R)} (H:Tab h g T) (I:IsM R h L M):IsM R g L M:=by obtain ⟨t,rfl⟩:=H.pre;exact I.app
theorem Tab.up {g:MH}{T:List (DR R)} (H:Tab h g T) {a:Nat}{o:MObj} (e:h[a]?=some o):g[a]?=some o:=by obtain ⟨t,rfl⟩:=H.pre;exact aB e
theorem zhc {i:Nat}{xs:List (Ar R.α)} (h:M.arcs[i]?=some xs):aAt M i=xs:=by unfold aAt;rw [h];rfl
theorem nO {i j:Nat}:lP M i j i=(aAt M i).take j:=by unfold lP;rw [if_neg (Q2 _),if_pos rfl]
theorem Tab.su {i:Nat}{g:MH}{T:List (DR R)} (H:Tab h g T) (hi:i<T.length):bV g (.ref h.length) (.int (i:Int))=some (.ref (h.length+(i+1))):=sl (i:=i) H.at' (lW (ze4 hi))
theorem zhS {p k i j b:Nat}{a:Ar R.α}{s:TbS} (hd:5<=d) (I:IsM R h L M) (G:bD M p k) (U:upE M) (hl:4*p+(k+300)<=3800) (hi:i<M.arcs.length) (ha:(aAt M i)[j]?=some a) (hb:h[b]?=some (cS R a)) (T:Tab h s.g (d5 M i j))
  (q: ∀s':TbS,Tab h s'.g (d5 M i (j+1)) ->R' .nx (tbF L h.length (vN i) s'.b) s'.g):WSs (Cxd P0 d) zhT (tbF L h.length (vN i) (vR b)) s.g R':=by
 have ts:=zct (M:=M) (j:=j) hi ha;have hB:=T.up hb;have hie:M.arcs[i]?=some (aAt M i):=by unfold aAt;rw [Qc hi];rfl
 have hm:=Qd hie;have e0:=vJ (M:=M) (i:=i) (j:=j) hi;rw [nO] at e0;cases he:a.emp with
 |true=>
  rw [he,cond_true] at ts;refine (T.row i _ e0).elim λep hr=>?_;have ok:=(uJ (R:=R) (n:=M.arcs.length) (p:=p) (k:=k) (s:=i) (xs:=(aAt M i).take j) λc hc=>by
   exact ⟨(G.arc _ hm c (ZX hc)).1,(G.arc _ hm c (ZX hc)).2.2.2.1,λhe=>U i _ hie c (ZX hc) he⟩).1
  refine (vU (d:=d) (j:=a.t) (w:=a.w) (Qa (by decide) hd) hr ok (Qa G.n (by decide)) (R.D_mono (Qj _) (Qf _ _) (G.arc _ hm a (Qd ha)).2.2.2.1) (Qa (Ql (Ql (Qa (by rw [JN];exact Yi _ _) (Qa (I.cr _ hm) G.c):((aAt M i).take j).length<=300) k) _) hl)).elim λep' e=>?_;have N:=T.set (t':=d7 (cP ((aAt M i).take j)) a.t a.w) (ep:=ep') (by rw [xV];exact hi);rw [<-ts] at N;exact run (.p (zdt (Qa (by decide) hd:1<=d) hB)<| .t (he)<| .t (he)<| .v (c6 (T.im I))<| .v (T.su (by rw [xV];exact hi))<| .v (gTg hB)<| .v (gWt hB)<| .p (e)<| .z (q ⟨_,none,vR b⟩ N)) (by kernel_rfl)
 |false=>
  rw [he,cond_false] at ts;have N:Tab h s.g (d5 M i (j+1)):=by
   rw [ts,<-Qg.mp e0|>.2,Zu];exact T
  exact run (.p (zdt (Qa (by decide) hd:1<=d) hB)<| .f (he)<| .c2<| .z (q ⟨s.g,none,vR b⟩ N)) (by kernel_rfl)
theorem zhP {p k i:Nat}{s:TbS} (hd:5<=d) (I:IsM R h L M) (G:bD M p k) (U:upE M) (hl:4*p+(k+300)<=3800) (hi:i<M.arcs.length) (T:Tab h s.g (d5 M i 0)):
  ∃s':TbS,Tab h s'.g (d5 M (i+1) 0)/\exec (Cxd P0 d) (.fo [4] false (.sub (.attr (.var 0) 1634886515) (.var 3)) zhT) (tbF L h.length (vN i) s.b) s.g=some ((.nx,tbF L h.length (vN i) s'.b),s'.g):=by
 refine (I.rowR hi).elim λr zq3=>zq3.elim λas zq4=>?_;have hr:=zq4.1;have J:=T.im I;refine (foL (c:=Cxd P0 d) (tg:=[4]) (many:=false) (a:=r) (e:=.sub (.attr (.var 0) 1634886515) (.var 3)) (b:=zhT) (vs:=as.map .ref) (λs':TbS=>tbF L h.length (vN i) s'.b) TbS.g (λj s'=>Tab h s'.g (d5 M i j)) s (zq4.2.1.le I zq4.2.2) rfl (λj s' T2=>T2.up zq4.2.1.l) (by exact bM (.v (dM J)<| .v (sl J.arcs hr)<| .z (two (.ref r) s.g)) (by kernel_rfl)) T λj v s' R2 _ hv T2 C2=>?_).elim λs' e=>⟨s',by rw [<-zcu];exact zq4.2.1.n▸e.1,e.2⟩;refine (zq4.2.1.a j v hv).elim λb zq1=>zq1.elim λx zq2=>?_;obtain rfl:=zq2.1;exact c8 (zhS hd I G U hl hi zq2.2.1 zq2.2.2 T2 C2.nx)
abbrev tb0 (h:MH) (n:Nat):MH:=h++ .list ((QO (h.length+1) n).map .ref)::(QS n).map λ_=> .dict (some 0) []
theorem zvF:Tab h (tb0 h M.arcs.length) (d5 M 0 0):=by
 have e:d5 M 0 0=(QS M.arcs.length).map λ_=>([]:DR R):=by
  unfold d5;refine Ja λs _=>?_;unfold lP;rw [if_neg (QX _)];by_cases h:s=0
  ·rw [if_pos h];rfl
  ·rw [if_neg h];rfl
 rw [e];exact zbB (ep:=λ_=>some 0) (Tf:=λ_=>([]:DR R))
theorem zhR (I:IsM R h L M):eval (Cxd P0 d) (.comp (.dict []) [5] false (.attr (.var 0) aQ) []) (some (.ref L.m)::some (.bool true)::nn 9) h=some (.ref h.length,tb0 h M.arcs.length):=by
 have hl:(L.rows.map Val.ref).length=M.arcs.length:=by rw [Qe,I.len]
 refine W.eq (qA (a:=L.aA) (vs:=L.rows.map .ref) (λi=> .dict (some 0) []) (by rw [hl];exact Qk I.lim (show 10000<200000 by decide)) (by rw [hl];exact Qa I.lim (by decide)) (W.of (a:=.ref L.aA) (W.eq (by exact bM (.v (dM I)<| .z (two (.ref L.aA) h)) (by kernel_rfl):WE (Cxd P0 d) (some (.ref L.m)::some (.bool true)::nn 9) (.attr (.var 0) aQ) h λv g=>v= .ref L.aA/\g=h)) ⟨rfl,I.arcs,λi v t _=>?_,by rw [hl];exact ⟨rfl,rfl⟩⟩));exact bM (.c<| .z (two (.ref (h++t).length) ((h++t)++ [.dict (some 0) []]))) (by kernel_rfl)
theorem zet {p k:Nat} (hd:6<=d) (I:IsM R h L M) (G:bD M p k) (U:upE M) (hl:4*p+(k+300)<=3800) (q: ∀t,Tab h (h++t) (d5 M M.arcs.length 0) ->Q (.ref h.length) (h++t)):WF P0 d 108 [.ref L.m,.bool true] h Q:=by
 refine bJ (K:=5) hd (some (.ref L.m)::some (.bool true)::nn 9) jT (by kernel_rfl) λd' h'=>?_;have d1:1<=d':=Qa (by decide) h';have T0:=zvF (h:=h) (M:=M);refine (foR (c:=Cxd P0 d') (x:=3) (n:=M.arcs.length) (e:=.call (.lit (.ty 491260897125)) [.meth (.var 0) jG []]) (b:=zvE) (λs:TbS=>tbF L h.length s.a s.b) TbS.g (λi s=>Tab h s.g (d5 M i 0)) ⟨tb0 h M.arcs.length,none,none⟩ (wC I) rfl (by exact bM (.p (eP d1 (T0.im I))<| .c<| .z (two (.rng M.arcs.length) (tb0 h M.arcs.length))) (by kernel_rfl)) T0 λi s R1 _ hi T1 C1=>(zhP (d:=d') h' I G U hl hi T1).elim λs' e=>by exact run (.s (e.2)<| .z (C1.nx ⟨s'.g,vN i,s'.b⟩ e.1)) (by kernel_rfl)).elim λs e=>e.1.pre.elim λt ht=>?_;have e2:=e.2;rw [ht] at e2;exact run (.p (eP d1 I)<| .c<| .f ((decide_eq_false (by have:=G.n;lia):decide ((M.arcs.length:Int)>2000)=false))<| .p (zhR (d:=d') I)<| .s (e2)<| .z (q t (ht▸e.1:Tab h (h++t) (d5 M M.arcs.length 0)))) (by kernel_rfl)
end
section
variable {R:Rg}{c:Cx}{h h0:MH}{Q:Val->MH->Prop}
theorem zjm {r:DR R}:((bQ r).all λp=>cW p.1==1)=true:=Jc.mpr λp hp=>by
 refine (QF.mp hp).elim λx zq2=>?_;obtain rfl:=zq2.2;rfl
theorem zhr {a:Nat}{ep:Option Nat}{r:DR R} (ha:h[a]?=some (.dict ep (bQ r))) (q:Q (.ref h.length) (h++ [.dict none (bQ r)])):WV c (.ty zbU) [.ref a] h Q:=by
 refine zjR (v:=.ref h.length) (h':=h++ [.dict none (bQ r)]) ?_ q;show alt (zaa [.ref a] h) _=_;show alt ((dictAt h (.ref a)).bind λd=>grd (d.2.all λp=>cW p.1==1) (dW h (.dict none d.2))) _=_;rw [fQ ha];show alt (grd ((bQ r).all λp=>cW p.1==1) (dW h (.dict none (bQ r)))) _=_;rw [zjm];rfl
def iKs (r:DR R):List Int:=(aJ r).map Ym
theorem zdB {r:DR R}:u2 ((bQ r).map (·.1))=some (iKs r):=by
 unfold u2
 induction r with
 |nil=>rfl
 |cons p t ih=>
  show List.mapM Val.int? (Val.int (p.1:Int)::(bQ t).map (·.1))=_;rw [ZW,ih];rfl
def bH (r:DR R):List Nat:=(pC (iKs r)).map XU
theorem dB {r:DR R}:(bH r).Perm (aJ r):=by
 have h:(pC (iKs r)).Perm (iKs r):=KQ ..;have h:=h.map XU;unfold iKs at h;rw [JY] at h;rw [((Ja λx _=>rfl).trans (List.map_id _):(aJ r).map (XU ∘ Ym)=aJ r)] at h;exact h
theorem zam {r:DR R}:(pC (iKs r)).map Val.int=(bH r).map λn:Nat=>Val.int (n:Int):=by
 unfold bH;rw [JY];refine Ja λx hx=>?_;refine (QF.mp ((KQ ..).mem_iff.mp hx:x∈iKs r)).elim λn zq1=>?_;obtain rfl:=zq1.2;rfl
theorem zcl {a:Nat}{ep:Option Nat}{r:DR R} (ha:h[a]?=some (.dict ep (bQ r))) (h1:r≠ []) (h2:r.length<64) (q:Q (.ref h.length) (h++ [.list ((bH r).map λn:Nat=>Val.int (n:Int))])):WV c (.bi fB) [.ref a] h Q:=by
 refine zjS (v:=.ref h.length) (h':=h++ [.list ((bH r).map λn:Nat=>Val.int (n:Int))]) ?_ q;show alt (grd (fB==lT) _) (alt (grd (fB==zfF) _) (alt (grd (fB==zlY) _) (grd (fB==fB) (r7 [.ref a] h))))=_;show (dictAt h (.ref a)).bind _=_;rw [fQ ha];show (u2 ((bQ r).map (·.1))).bind _=_;rw [zdB];show grd (!(iKs r).isEmpty && Jt ((iKs r).length+1) 64) _=_;have e2:(iKs r).isEmpty=false:=by
  cases r with
  |nil=>exact absurd rfl h1
  |cons _ _=>rfl
 rw [(by unfold iKs aJ;rw [Qe,Qe]:(iKs r).length=r.length),e2,YA (QM h2),zam];rfl
theorem uO {r:DR R}:(aJ r).length=r.length:=Qe ..
theorem gDr (z:Cx) {a:Nat}{ep:Option Nat}{r:DR R} (ha:h[a]?=some (.dict ep (bQ r))):aM z (.ty zbU) [.ref a] h=some (.ref h.length,h++ [.dict none (bQ r)]):=W.eq (zhr ha ⟨rfl,rfl⟩)
theorem gSo (z:Cx) {a:Nat}{ep:Option Nat}{r:DR R} (ha:h[a]?=some (.dict ep (bQ r))) (h1:r≠ []) (h2:r.length<=60):aM z (.bi fB) [.ref a] h=some (.ref h.length,h++ [.list ((bH r).map λn:Nat=>Val.int (n:Int))]):=W.eq (zcl ha h1 (Qk h2 (by decide)) ⟨rfl,rfl⟩)
theorem inR (k:Nat) {a:Nat}{ep:Option Nat}{r:DR R} (ha:h[a]?=some (.dict ep (bQ r))):dQ .isin (.int k) (.ref a) h=some (decide (k∈aJ r)):=by
 show alt ((b5 h (.ref a)).bind _) ((dictAt h (.ref a)).bind λd=>grd (aN d.2 (.int k)) (some (a9 d.2 (.int k)).isSome))=_;rw [jD ha,fQ ha];show grd (aN (bQ r) (.int k)) (some (a9 (bQ r) (.int k)).isSome)=_;rw [kI,nA];by_cases hk:k∈aJ r
 ·rw [if_pos hk,decide_eq_true hk];rfl
 ·rw [if_neg hk,decide_eq_false hk];rfl
theorem sR {k a:Nat}{ep:Option Nat}{r:DR R} (ha:h[a]?=some (.dict ep (bQ r))) (hk:k∈aJ r):bV h (.ref a) (.int k)=some (R.e (bR r k)):=sd ha kI (by rw [nA,if_pos hk])
theorem zkl (z:Cx) {a:Nat}{ep:Option Nat}{r:DR R} (ha:h[a]?=some (.dict ep (bQ r))):aM z (.bi lT) [.ref a] h=some (.int r.length,h):=W.eq (zhq ha ⟨by unfold bQ;rw [Qe],rfl⟩)
end
section
variable {R:Rg}{d:Nat}{h h0:MH}{Q:Val->MH->Prop}{R':Fl->Internal.Frame->MH->Prop}
structure SX (R:Rg) where
 h:MH
 aT:Nat
 n:Nat
 p:Nat
 K:Nat
 Tf:Nat->DR R
structure SOk (X:SX R):Prop where
 er: ∀k,k<X.n->ER X.n X.p X.K k (X.Tf k)
 n:X.n<=60
 bd:4*(X.p*X.n)+(X.K*X.n+X.n+1)<=3800
variable {X:SX R}
structure dE (X:SX R) (i k:Nat) (t:DR R):Prop where
 sr:SR X.n X.p X.K i k t
 ev: ∀N B:Nat->R.α,(∀s,s<X.n->B s=R.add (N s) (cT (X.Tf s) B)) ->cT t (bk N B k)=cT (X.Tf i) B
 un:k<=i->t=X.Tf i
theorem dE.zero {i:Nat} (O:SOk X) (hi:i<X.n):dE X i 0 (X.Tf i):=by
 have E:=O.er i hi;refine ⟨⟨E.nd,E.lt,λq hq=>?_⟩,λN B _=>rfl,λ_=>rfl⟩;have h1:i<q.1:=(E.lt _ (QF.mpr ⟨q,hq,rfl⟩)).1;exact R.D_mono (JC _ (Yb h1)) (JC _ (Yb h1)) (E.dg q hq)
theorem dE.out {i k:Nat}{t:DR R} (H:dE X i k t) (hk:k∉aJ t):dE X i (k+1) t:=
 ⟨H.sr.mono (Ju _),λN B e=>(zeC H.sr hk).trans (H.ev N B e),λh=>H.un (QC (JF h))⟩
theorem dE.step {i k:Nat}{t t':DR R}{l:List Nat} (O:SOk X) (H:dE X i k t) (hk:k∈aJ t) (hl:l.Perm (aJ (X.Tf k))) (e:t'=zdz (X.Tf k) (bR t k) l t) (D:SRl X.n X.p X.K i k [] t'):dE X i (k+1) t':=by
 have hkn:=H.sr.lt k hk;exact ⟨⟨D.nd,D.lt,D.dg⟩,λN B q=>by rw [e,zeD H.sr (O.er k hkn.2) hl (q k hkn.2) hk];exact H.ev N B q,λh=>absurd hkn.1 (Q6 (QC (JF h)))⟩
structure StS (R:Rg) where
 g:MH
 T:List (DR R)
 a:Option Val:=none
 b:Option Val:=none
 c:Option Val:=none
 d:Option Val:=none
 e:Option Val:=none
 f:Option Val:=none
def stF (X:SX R) (a b c d e f:Option Val):Internal.Frame:=some (.top (112+R.i))::some (.ref X.aT)::some (.ref X.h.length)::a::b::c::d::e::f::nn 6
structure uC (X:SX R) (g:MH) (a:Nat) (o:MObj):Prop where
 ge:X.h.length+X.n<a
 at':g[a]?=some o
theorem uC.set {g:MH}{a i:Nat}{o o':MObj} (B:uC X g a o) (hi:i<X.n):uC X (g.set (X.h.length+(i+1)) o') a o:=⟨B.ge,aZ (by have:=B.ge;exact Zd (Qk (QA (Qj _) (QM hi)) this)) B.at'⟩
theorem uC.app {g t:MH}{a:Nat}{o:MObj} (B:uC X g a o):uC X (g++t) a o:=⟨B.ge,aB B.at'⟩
structure JS (R:Rg) where
 g:MH
 t:DR R
 b:Option Val:=none
structure JP (X:SX R) (T:List (DR R)) (i k aO aS:Nat) (t0:DR R) (j:Nat) (s:JS R):Prop where
 T:Tab X.h s.g (T.set i s.t)
 e:s.t=zdz (X.Tf k) (bR t0 k) ((bH (X.Tf k)).take j) t0
 D:SRl X.n X.p X.K i k ((bH (X.Tf k)).drop j) s.t
 o:uC X s.g aO (.dict none (bQ (X.Tf k)))
 l:uC X s.g aS (.list ((bH (X.Tf k)).map λn:Nat=> .int (n:Int)))
theorem yF {r:DR R} (h:(aJ r).Nodup):(bH r).Nodup:=dB.nodup_iff.mpr h
theorem kJ {α:Type}{l:List α}{j:Nat}{x:α} (h:l[j]?=some x):l.drop j=x::l.drop (j+1):=by
 refine (Qg.mp h).elim λh1 zq1=>?_;obtain rfl:=zq1;exact JH h1
theorem vI {α:Type}{l:List α}{j:Nat}{x:α} (h:l[j]?=some x):l.take (j+1)=l.take j++ [x]:=by
 rw [JD,h];rfl
theorem SRl.ok {n p K i k P K':Nat}{l:List Nat}{t:DR R} (H:SRl n p K i k l t) (h1:p*n<=P) (h2:K*n+(k+1)<=K'):g6 n P K' t:=⟨H.nd,λx hx=>(H.lt x hx).2,λq hq=>by
 exact R.D_mono (Qa (QH _ (by have:q.1<n:=((H.lt _ (QF.mpr ⟨q,hq,rfl⟩)).2);exact QC (JO this):q.1-i<=n)) h1) (Qa (QV (QH _ (by have:q.1<n:=((H.lt _ (QF.mpr ⟨q,hq,rfl⟩)).2);exact QC (JO this):q.1-i<=n)) _) h2) (H.dg q hq)⟩
abbrev jB:List Sm:= [.expr (.call (.lit (.top 104)) [.var 0,.sub (.var 2) (.var 6),.var 8,.meth (.var 0) mQ [.var 7,.sub (.var 4) (.var 8)]])]
theorem zn2 {p K n k i x:Nat} (hi:i<k) (hk:k<x) (hx:x<n) (bd:4*(p*n)+(K*n+n+1)<=3800):p*(x-i)<=p*n/\K*(x-i)+k<=K*n+(k+1)/\4*(p*(k-i)+p)+(K*(k-i)+k+K)<=3800/\4*(p*n)+(K*n+(k+1))<=3800:=by
 have e2:K*(x-i)<=K*n:=QH _ (QC (JO hx));have e3:p*(k-i)+p<=p*n:=by rw [<-Ze];exact QH _ (QM (JO (Q8 hk hx)))
 have e4:K*(k-i)+K<=K*n:=by rw [<-Ze];exact QH _ (QM (JO (Q8 hk hx)))
 exact ⟨QH _ (QC (JO hx)),QA e2 (Qf _ _),Qa (QA (QH 4 e3) (Qa (Qt (JL _ _ _)) (Jd (QA e4 (QC (Q8 hk hx)))))) bd,Qa (Ql (Ql (Jd (Q8 hk hx)) _) _) bd⟩
theorem zn1 {T:List (DR R)}{i k aO aS j x:Nat}{t0:DR R}{s:JS R} (hd:5<=d) (O:SOk X) (hT:T.length=X.n) (H:SR X.n X.p X.K i k t0) (hi:i<k) (hk:k∈aJ t0) (hx:(bH (X.Tf k))[j]?=some x) (P:JP X T i k aO aS t0 j s)
  (q: ∀s',JP X T i k aO aS t0 (j+1) s'->R' .nx (stF X (vN k) (vR aO) (some (R.e R.one)) (vN i) (some (R.e (bR t0 k))) s'.b) s'.g):
  WSs (Cxd P0 d) jB (stF X (vN k) (vR aO) (some (R.e R.one)) (vN i) (some (R.e (bR t0 k))) (vN x)) s.g R':=by
 have hkn:=H.lt k hk;have E:=O.er k hkn.2;have hxk:x∈aJ (X.Tf k):=dB.mem_iff.mp (Qd hx);have hxl:=E.lt x hxk;have hin:i<X.n:=Q8 hi hkn.2;have D:=P.D;rw [kJ hx] at D;have nd:=yF E.nd;rw [<-Zt j (bH (X.Tf k)),kJ hx] at nd;have hil:i<(T.set i s.t).length:=by rw [QL,hT];exact hin
 have hf:=H.get hk;have hw:R.D X.p X.K (bR (X.Tf k) x):=E.dg _ (mP hxk);have B:=zn2 (p:=X.p) (K:=X.K) hi hxl.1 hxl.2 O.bd;refine (P.T.row i s.t (QI (by rw [hT];exact hin))).elim λep hr=>?_;refine (vU (d:=d) (j:=x) (w:=R.mul (bR t0 k) (bR (X.Tf k) x)) (n:=X.n) (P:=X.p*X.n) (K:=X.K*X.n+(k+1)) (Qa (by decide) hd) hr (D.ok (Qj _) (Qj _)) (Qa O.n (by decide)) (R.D_mono B.1 B.2.1 (uU (n:=0) (j:=x) hf hw hi hxl.1 (Qj _))) B.2.2.2).elim λep' e=>?_;have T':=P.T.set (t':=d7 s.t x (R.mul (bR t0 k) (bR (X.Tf k) x))) (ep:=ep') hil;rw [Xl] at T';have N:JP X T i k aO aS t0 (j+1) ⟨_,d7 s.t x (R.mul (bR t0 k) (bR (X.Tf k) x)),vN x⟩:=⟨T',by
  show d7 s.t x _=_;rw [vI hx];unfold zdz;rw [ZC,P.e];rfl,D.add ((Qw.mp (Zg.mp nd).2.1).1) (Q8 hi hxl.1) hxl.2 (uU (n:=0) (j:=x) hf hw hi hxl.1 (Qj _)),P.o.set hin,P.l.set hin⟩
 exact run (.v ((P.T.su hil:bV s.g (.ref X.h.length) (.int (i:Int))=some (.ref (X.h.length+(i+1)))))<| .v (sR P.o.at' hxk)<| .q (R.ti (Qa (by decide) hd) hf hw B.2.2.1)<| .p (e)<| .z (q _ N)) (by kernel_rfl)
end
section
variable {R:Rg}{d:Nat}{h h0:MH}{Q:Val->MH->Prop}{R':Fl->Internal.Frame->MH->Prop}{X:SX R}
structure KP (X:SX R) (k i:Nat) (s:StS R):Prop where
 T:Tab X.h s.g s.T
 len:s.T.length=X.n
 row: ∀r t,s.T[r]?=some t->dE X r (if r<i then k+1 else k) t
structure IP (X:SX R) (k aO i:Nat) (s:StS R):Prop where
 K:KP X k i s
 o:uC X s.g aO (.dict none (bQ (X.Tf k)))
theorem KP.next {k:Nat}{s s':StS R} (K:KP X k X.n s) (e1:s'.g=s.g) (e2:s'.T=s.T):KP X (k+1) 0 s':=⟨by rw [e1,e2];exact K.T,by rw [e2];exact K.len,λr t h=>by
 rw [e2] at h
 have:=K.row r t h
 rw [if_pos (by rw [<-K.len];exact aH h)] at this;rwa [if_neg (QX _)]⟩
theorem KP.row1 {k i:Nat}{s s':StS R}{t':DR R} (K:KP X k i s) (hT:Tab X.h s'.g s'.T) (e:s'.T=s.T.set i t') (hi:i<X.n) (ht:dE X i (k+1) t'):KP X k (i+1) s':=⟨hT,by rw [e,QL];exact K.len,λr t h=>by
 rw [e] at h;by_cases hr:i=r
 ·subst hr
  rw [QI (by rw [K.len];exact hi)] at h;cases h;rw [if_pos (QD _)];exact ht
 ·rw [QJ hr] at h
  have:=K.row r t h
  by_cases h1:r<i
  ·rw [if_pos h1] at this;rwa [if_pos (Q4 h1)]
  ·rw [if_neg h1] at this;rwa [if_neg (Q6 (QM (Jh (Q0 h1) hr)))]⟩
theorem yG {α:Type}{l:List α}{i:Nat}{x:α} (h:l[i]?=some x):l.set i x=l:=by
 refine (Qg.mp h).elim λh1 zq2=>?_;obtain rfl:=zq2;exact Zu h1
abbrev iB:List Sm:= [.ite (.cmp .isin (.var 3) (.sub (.var 2) (.var 6))) [.asg (.nm 7) (.meth (.var 0) mQ [.sub (.sub (.var 2) (.var 6)) (.var 3),.var 5]),.fo [8] false (.call (.lit (.bi nq2)) [.var 4]) jB] []]
theorem zuQ {k aO i:Nat}{s:StS R}{t0:DR R} (hd:5<=d) (O:SOk X) (hk:k<X.n) (hi:i<X.n) (hne:X.Tf k≠ []) (P:IP X k aO i s) (hie:s.T[i]?=some t0) (I:dE X i k t0) (hin:k∈aJ t0):
  ∃s',IP X k aO (i+1) s'/\s'.e=some (R.e (bR t0 k))/\exec (Cxd P0 d) (.fo [8] false (.call (.lit (.bi 126922498794852)) [.var 4]) jB) (stF X (vN k) (vR aO) (some (R.e R.one)) (vN i) (some (R.e (bR t0 k))) s.f) s.g=some ((.nx,stF X (vN k) (vR aO) (some (R.e R.one)) (vN i) (some (R.e (bR t0 k))) s'.f),s'.g):=by
 have E:=O.er k hk;have hlen:(X.Tf k).length<=60:=Qa (g6.mk E.nd (λx hx=>(E.lt x hx).2) E.dg:g6 X.n X.p X.K (X.Tf k)).len O.n;have w:WS (Cxd P0 d) (.fo [8] false (.call (.lit (.bi 126922498794852)) [.var 4]) jB) (stF X (vN k) (vR aO) (some (R.e R.one)) (vN i) (some (R.e (bR t0 k))) s.f) s.g λfl f g=> ∃s':JS R,JP X s.T i k aO s.g.length t0 (bH (X.Tf k)).length s'/\fl= .nx/\f=stF X (vN k) (vR aO) (some (R.e R.one)) (vN i) (some (R.e (bR t0 k))) s'.b/\g=s'.g:=by
  have e0:WE (Cxd P0 d) (stF X (vN k) (vR aO) (some (R.e R.one)) (vN i) (some (R.e (bR t0 k))) s.f) (.call (.lit (.bi 126922498794852)) [.var 4]) s.g λv g=>v= .ref s.g.length/\g=s.g++ [.list ((bH (X.Tf k)).map λn:Nat=> .int (n:Int))]:=by exact bM (.p (gSo (Cxd P0 d) P.o.at' hne hlen)<| .z (two (.ref s.g.length) (s.g++ [.list ((bH (X.Tf k)).map λn:Nat=> .int (n:Int))]))) (by kernel_rfl)
  refine p9 (a:=s.g.length) (vs:=(bH (X.Tf k)).map λn:Nat=> .int (n:Int)) (λs':JS R=>stF X (vN k) (vR aO) (some (R.e R.one)) (vN i) (some (R.e (bR t0 k))) s'.b) JS.g (JP X s.T i k aO s.g.length t0) (by rw [(Qe .. :((bH (X.Tf k)).map λn:Nat=>Val.int (n:Int)).length=(bH (X.Tf k)).length)];exact Qk (by rw [dB.length_eq,uO];exact hlen:(bH (X.Tf k)).length<=60) (show 60<200000 by decide)) ⟨s.g++ [.list ((bH (X.Tf k)).map λn:Nat=> .int (n:Int))],t0,s.f⟩ (λj s' P'=>P'.l.at') (e0.mono λv g q=>⟨q.1,rfl,q.2,⟨by rw [yG hie];exact P.K.T.app,rfl,I.sr.l _,P.o.app,⟨Q8 P.o.ge (bT P.o.at'),aV⟩⟩⟩) (λj v s' R2 hv P2 C2=>?_) λs' P'=>⟨s',(Qe .. :((bH (X.Tf k)).map λn:Nat=>Val.int (n:Int)).length=(bH (X.Tf k)).length)▸P',rfl,rfl,rfl⟩;rw [Qo] at hv;refine (Jj.mp hv).elim λx zq1=>?_;obtain rfl:=zq1.2;exact c8 (zn1 hd O P.K.len I.sr (I.sr.lt k hin).1 hin zq1.1 P2 C2.nx)
 obtain ⟨⟨fl,f⟩,g,e,s',P',q1,q2,q3⟩:=W.get w;cases q1;cases q2;cases q3;have D:=P'.D;have e1:=P'.e;rw [Zc] at D;rw [QR] at e1;exact ⟨⟨s'.g,s.T.set i s'.t,none,none,none,none,some (R.e (bR t0 k)),s'.b⟩,⟨P.K.row1 P'.T rfl hi (I.step O hin dB e1 D),P'.o⟩,rfl,e⟩
theorem zn4 {p K n k i:Nat} (hk:k<n) (bd:4*(p*n)+(K*n+n+1)<=3800):4*(p*(k-i)+0)+(K*(k-i)+k+0)<=3800:=by
 have e3:p*(k-i)<=p*n:=QH _ (QC (JO hk));have e4:K*(k-i)<=K*n:=QH _ (QC (JO hk));exact Qa (QA (QH 4 e3) (Jd (QA e4 (QC hk)):K*(k-i)+k<=K*n+n+1)) bd
theorem zn3 {k aO i:Nat}{s:StS R} (hd:5<=d) (O:SOk X) (hk:k<X.n) (hi:i<X.n) (hne:X.Tf k≠ []) (P:IP X k aO i s)
  (q: ∀s',IP X k aO (i+1) s'->R' .nx (stF X (vN k) (vR aO) (some (R.e R.one)) (vN i) s'.e s'.f) s'.g):
  WSs (Cxd P0 d) iB (stF X (vN k) (vR aO) (some (R.e R.one)) (vN i) s.e s.f) s.g R':=by
 have hil:i<s.T.length:=by rw [P.K.len];exact hi
 have hie:=Qc hil;have I:=P.K.row i _ hie;rw [if_neg (Q2 _)] at I;refine (P.K.T.row i _ hie).elim λep hr=>?_;have su:bV s.g (.ref X.h.length) (.int (i:Int))=some (.ref (X.h.length+(i+1))):=P.K.T.su hil;cases (inferInstance:Decidable (k∈aJ s.T[i])) with
 |isTrue hin=>
  refine (zuQ (d:=d) hd O hk hi hne P hie I hin).elim λs' e=>?_;have e1:=R.ti (d:=d) (Qa (by decide) hd) (I.sr.get hin) R.D_one (zn4 hk O.bd);rw [R.mul_comm,R.one_mul] at e1;exact run (.v (su)<| .b (inR k hr)<| .t (decide_eq_true hin)<| .v (su)<| .v (sR hr hin)<| .q (e1)<| .s (e.2.2)<| .z ((show R' .nx (stF X (vN k) (vR aO) (some (R.e R.one)) (vN i) (some (R.e (bR s.T[i] k))) s'.f) s'.g from e.2.1▸q s' e.1))) (by kernel_rfl)
 |isFalse hin=>exact run (.v (su)<| .b (inR k hr)<| .f (decide_eq_false hin)<| .z (q s ⟨P.K.row1 (t':=s.T[i]) P.K.T (yG hie).symm hi (I.out hin),P.o⟩)) (by kernel_rfl)
end
section
variable {R:Rg}{d:Nat}{h h0:MH}{Q:Val->MH->Prop}{R':Fl->Internal.Frame->MH->Prop}{X:SX R}
theorem Tab.lt {h g:MH}{T:List (DR R)} (H:Tab h g T):h.length+T.length<g.length:=by
 cases e:T.length with
 |zero=>have:=bT H.at';exact JF (QM this)
 |succ n=>
  refine (H.row n _ (Qc (JF (Qt (K8 e))))).elim λep zq1=>?_
  have:=bT zq1;exact this
theorem Tab.ln (z:Cx) {h g:MH}{T:List (DR R)}{n:Nat} (H:Tab h g T) (hn:T.length=n):aM z (.bi lT) [.ref h.length] g=some (.int n,g):=by rw [zdo H.at',Qe,Zo,hn]
theorem KP.skip {k:Nat}{s s':StS R} (O:SOk X) (K:KP X k 0 s) (e:X.Tf k= []) (e1:Tab X.h s'.g s'.T) (e2:s'.T=s.T):KP X (k+1) 0 s':=⟨e1,by rw [e2];exact K.len,λr t h=>by
 rw [e2] at h;have I:=K.row r t h;rw [if_neg (QX _)] at I ⊢;by_cases hk:k∈aJ t
 ·refine I.step (l:=[]) O hk (by rw [e];exact .nil) (by rw [e];rfl) ⟨I.sr.nd,I.sr.lt,(I.sr.mono (Ju k)).dg,λq _ hq=>absurd hq Qq⟩
 ·exact I.out hk⟩
abbrev kB:List Sm:= [.asg (.nm 4) (.call (.lit (.ty 1684628340)) [.sub (.var 2) (.var 3)]),.ite (.cmp .eq (.call (.lit (.bi 7103854)) [.var 4]) (.lit (.int 0))) [.cont] [],.asg (.nm 5) (.meth (.var 0) zas [.meth (.var 4) 6776180 [.var 3,.attr (.var 0) nq5]]),.fo [6] false (.call (.lit (.ty nq1)) [.call (.lit (.bi 7103854)) [.var 2]]) iB]
abbrev rgL:Ex:= .call (.lit (.ty 491260897125)) [.call (.lit (.bi 7103854)) [.var 2]]
theorem zuT {k aO:Nat}{s:StS R} (hd:5<=d) (O:SOk X) (hk:k<X.n) (hne:X.Tf k≠ []) (P:IP X k aO 0 s): ∃s',KP X (k+1) 0 s'/\exec (Cxd P0 d) (.fo [6] false rgL iB) (stF X (vN k) (vR aO) (some (R.e R.one)) s.d s.e s.f) s.g=some ((.nx,stF X (vN k) (vR aO) (some (R.e R.one)) s'.d s'.e s'.f),s'.g):=
 (foR (c:=Cxd P0 d) (x:=6) (n:=X.n) (e:=rgL) (b:=iB) (λs':StS R=>stF X (vN k) (vR aO) (some (R.e R.one)) s'.d s'.e s'.f) StS.g (IP X k aO) s (Qa O.n (by decide)) rfl (by exact bM (.p (P.K.T.ln (Cxd P0 d) P.K.len)<| .c<| .z (two (.rng X.n) s.g)) (by kernel_rfl)) P λi s' R1 _ hi P1 C1=>zn3 hd O hk hi hne P1 λs2 P2=>C1.nx {s2 with d:=vN i} ⟨⟨P2.K.T,P2.K.len,P2.K.row⟩,P2.o⟩).elim λs' e=>⟨s',e.1.K.next rfl rfl,e.2⟩
theorem Rg.st (R:Rg) (hd:3<=d) (h:MH):bI (Cxd P0 d) (.top (112+R.i)) zkb [R.e R.zero] h h=some (R.e R.one,h):=W.eq (R.star_ok hd ⟨rfl,rfl⟩)
theorem zn0 {k:Nat}{s:StS R} (hd:6<=d) (O:SOk X) (hk:k<X.n) (K:KP X k 0 s)
  (q1: ∀s',KP X (k+1) 0 s'->R' .nx (stF X (vN k) s'.b s'.c s'.d s'.e s'.f) s'.g) (q2: ∀s',KP X (k+1) 0 s'->R' .ct (stF X (vN k) s'.b s'.c s'.d s'.e s'.f) s'.g):
  WSs (Cxd P0 d) kB (stF X (vN k) s.b s.c s.d s.e s.f) s.g R':=by
 have hkl:k<s.T.length:=by rw [K.len];exact hk
 have I:=K.row k _ (Qc hkl);rw [if_neg (QX _)] at I;refine (K.T.row k _ (Qc hkl)).elim λep hr=>?_;rw [I.un (Qj _)] at hr;have hlt:=K.T.lt;rw [K.len] at hlt;have T1:Tab X.h (s.g++ [.dict none (bQ (X.Tf k))]) s.T:=K.T.app;have o1:uC X (s.g++ [.dict none (bQ (X.Tf k))]) s.g.length (.dict none (bQ (X.Tf k))):=⟨hlt,aV⟩;cases (inferInstance:Decidable ((X.Tf k).length=0)) with
 |isTrue hz=>
  have hb:(((X.Tf k).length:Int)==0)=true:=by rw [hz];rfl
  exact run (.v ((K.T.su hkl:bV s.g (.ref X.h.length) (.int (k:Int))=some (.ref (X.h.length+(k+1)))))<| .p (gDr (Cxd P0 d) hr)<| .p (zkl (Cxd P0 d) o1.at')<| .k (eqi (X.Tf k).length 0)<| .t (hb)<| .z (q2 {s with g:=s.g++ [.dict none (bQ (X.Tf k))],b:=vR s.g.length} (K.skip O (List.eq_nil_of_length_eq_zero hz) T1 rfl))) (by kernel_rfl)
 |isFalse hz=>
  have hb:(((X.Tf k).length:Int)==0)=false:=beq_false_of_ne λe=>hz (Zi.mp e);refine (zuT (d:=d) (s:={s with g:=s.g++ [.dict none (bQ (X.Tf k))]}) (Qa (by decide) hd) O hk (λe=>hz (by rw [e];rfl)) ⟨⟨T1,K.len,K.row⟩,o1⟩).elim λs' e=>?_;have eg:=zkm (Cxd P0 d) o1.at' k;rw [j9 λq=>absurd ((O.er k hk).lt k q).1 (Q2 _)] at eg;exact run (.v ((K.T.su hkl:bV s.g (.ref X.h.length) (.int (k:Int))=some (.ref (X.h.length+(k+1)))))<| .p (gDr (Cxd P0 d) hr)<| .p (zkl (Cxd P0 d) o1.at')<| .k (eqi (X.Tf k).length 0)<| .f (hb)<| .w (R.no)<| .p (eg)<| .q (R.st (d:=d) (Qa (by decide) hd))<| .s (e.2)<| .z (q1 {s' with b:=vR s.g.length,c:=some (R.e R.one)} ⟨e.1.T,e.1.len,e.1.row⟩)) (by kernel_rfl)
end
section
variable {R:Rg}{d:Nat}{h h0:MH}{Q:Val->MH->Prop}{R':Fl->Internal.Frame->MH->Prop}{X:SX R}
structure zjO (X:SX R) (i:Nat) (t:DR R):Prop where
 ok:g6 X.n (X.p*X.n) (X.K*X.n+X.n+1) t
 ev: ∀N B:Nat->R.α,(∀s,s<X.n->B s=R.add (N s) (cT (X.Tf s) B)) ->cT t N=B i
 me:i∈aJ t
theorem SR.ok {n p K i k P K':Nat}{t:DR R} (H:SR n p K i k t) (h1:p*n<=P) (h2:K*n+k<=K'):g6 n P K' t:=⟨H.nd,λx hx=>(H.lt x hx).2,λq hq=>by
 have hx:q.1<n:=(H.lt _ (QF.mpr ⟨q,hq,rfl⟩)).2;exact R.D_mono (Qa (QH _ (QC (JO hx):q.1-i<=n)) h1) (Qa (QV (QH _ (QC (JO hx):q.1-i<=n)) _) h2) (H.dg q hq)⟩
theorem dE.done {i:Nat}{t:DR R} (ne:R.one≠R.zero) (hi:i<X.n) (I:dE X i X.n t):zjO X i (d7 t i R.one):=by
 refine ⟨zbN (I.sr.ok (Qj _) (Qj _)) hi (R.D_mono (Qs _) (Qs _) R.D_one),λN B e=>?_,?_⟩
 ·rw [qP,R.one_mul,e i hi]
  congr 1
  rw [<-I.ev N B e];exact hH λx hx=>(if_pos (I.sr.lt x hx).2).symm
 ·unfold d7
  rw [if_neg ne];exact (gP i).mpr (.inr rfl)
structure FP (X:SX R) (i:Nat) (s:StS R):Prop where
 T:Tab X.h s.g s.T
 len:s.T.length=X.n
 row: ∀r t,s.T[r]?=some t->(i<=r->dE X r X.n t)/\(r<i->zjO X r t)
structure zhd (X:SX R) (g:MH) (T:List (DR R)):Prop where
 tb:Tab X.h g T
 len:T.length=X.n
 row: ∀r t,T[r]?=some t->zjO X r t
theorem Rg.oneF (R:Rg) (h:MH):getAttr P0 h (.top (112+R.i)) zc5=some (R.e R.one):=Wo.eq (R.oneW (Q:=λv _=>v=_) rfl)
theorem znZ {p K n:Nat} (bd:4*(p*n)+(K*n+n+1)<=3800):4*(p*n)+(K*n+n)<=3800:=Qa (QA (Qj _) (Qf _ _)) bd
abbrev s9B:List Sm:= [.expr (.call (.lit (.top 104)) [.var 0,.sub (.var 2) (.var 3),.var 3,.attr (.var 0) zc5])]
theorem zn6 {k:Nat}{s:StS R} (hd:5<=d) (O:SOk X) (ne:R.one≠R.zero) (hk:k<X.n) (P:FP X k s) (q: ∀s',FP X (k+1) s'->R' .nx (stF X s'.a s'.b s'.c s'.d s'.e s'.f) s'.g):WSs (Cxd P0 d) s9B (stF X (vN k) s.b s.c s.d s.e s.f) s.g R':=by
 have hkl:k<s.T.length:=by rw [P.len];exact hk
 have hke:=Qc hkl;refine (P.T.row k _ hke).elim λep hr=>?_;refine (vU (d:=d) (j:=k) (n:=X.n) (P:=X.p*X.n) (K:=X.K*X.n+X.n) (w:=R.one) (Qa (by decide) hd) hr (((P.row k _ hke).1 (Qj _)).sr.ok (Qj _) (Qj _)) (Qa O.n (by decide)) (R.D_mono (Qs _) (Qs _) R.D_one) (znZ O.bd)).elim λep' e=>?_;have N:FP X (k+1) ⟨_,s.T.set k (d7 s.T[k] k R.one),vN k,s.b,s.c,s.d,s.e,s.f⟩:=⟨P.T.set hkl (ep:=ep'),by rw [QL];exact P.len,λr t ht=>by
  by_cases e:k=r
  ·subst e
   rw [QI hkl] at ht;cases ht;exact ⟨λh=>absurd h (KF _),λ_=>((P.row k _ hke).1 (Qj _)).done ne hk⟩
  ·rw [QJ e] at ht
   have:=P.row r t ht
   exact ⟨λh=>this.1 (Ki h),λh=>this.2 (Jh (QP h) (JE e))⟩⟩
 exact run (.v ((P.T.su hkl:bV s.g (.ref X.h.length) (.int (k:Int))=some (.ref (X.h.length+(k+1)))))<| .w (R.oneF)<| .p (e)<| .z (q _ N)) (by kernel_rfl)
abbrev zeG (X:SX R):MH:=X.h++ .list ((QO (X.h.length+1) X.n).map .ref)::(QS X.n).map λi=>MObj.dict none (bQ (X.Tf i))
theorem zh2 (O:SOk X) (T0:sT X.h X.aT ((QS X.n).map X.Tf)):eval (Cxd P0 d) (.comp (.call (.lit (.ty 1684628340)) [.var 9]) [9] false (.var 1) []) (some (.top (112+R.i))::some (.ref X.aT)::nn 13) X.h=some (.ref X.h.length,zeG X):=by
 refine T0.x.elim λrs zq7=>?_;have a2:=zq7.2.1;rw [Qe,QZ] at a2;have hl:(rs.map Val.ref).length=X.n:=by rw [Qe,a2]
 refine W.eq (qA (a:=X.aT) (vs:=rs.map .ref) (λi=> .dict none (bQ (X.Tf i))) (by rw [hl];exact Qk O.n (show 60<200000 by decide)) (by rw [hl];exact Qa O.n (by decide)) (z6 rfl ⟨rfl,zq7.1,λi v t hv=>?_,by rw [hl];exact ⟨rfl,rfl⟩⟩));refine (f7 hv).elim λr zq6=>?_;obtain rfl:=zq6.2;have hi:i<X.n:=by rw [<-a2];exact aH zq6.1
 refine (zq7.2.2 i r (X.Tf i) zq6.1 (by rw [Qo,Jy hi];rfl)).elim λep zq5=>?_;exact bM (.p (gDr (Cxd P0 d) (aB (t:=t) zq5))<| .z (two (.ref (X.h++t).length) (X.h++t++ [.dict none (bQ (X.Tf i))]))) (by kernel_rfl)
theorem KP0 (O:SOk X):KP X 0 0 ⟨zeG X,(QS X.n).map X.Tf,none,none,none,none,none,none⟩:=by
 have ln:((QS X.n).map X.Tf).length=X.n:=by rw [Qe,QZ]
 refine ⟨zbB (ep:=λ_=>none),ln,λr t ht=>?_⟩;have ht:((QS X.n).map X.Tf)[r]?=some t:=ht;rw [if_neg (QX _)];have hr:r<X.n:=by rw [<-ln];exact aH ht
 rw [Qo,Jy hr] at ht;cases ht;exact dE.zero O hr
theorem zuP (hd:6<=d) (O:SOk X): ∃s:StS R,KP X X.n 0 s/\exec (Cxd P0 d) (.fo [3] false rgL kB) (stF X none none none none none none) (zeG X)=some ((.nx,stF X s.a s.b s.c s.d s.e s.f),s.g):=
 foR (c:=Cxd P0 d) (x:=3) (n:=X.n) (e:=rgL) (b:=kB) (λs:StS R=>stF X s.a s.b s.c s.d s.e s.f) StS.g (λk s=>KP X k 0 s) ⟨zeG X,(QS X.n).map X.Tf,none,none,none,none,none,none⟩ (Qa O.n (by decide)) rfl (by exact bM (.p ((KP0 O).T.ln (Cxd P0 d) (KP0 O).len)<| .c<| .z (two (.rng X.n) (zeG X))) (by kernel_rfl)) (KP0 O) λk s R1 _ hk P1 C1=>zn0 hd O hk P1 (λs' P'=>C1.nx {s' with a:=vN k} ⟨P'.T,P'.len,P'.row⟩) λs' P'=>C1.ct {s' with a:=vN k} ⟨P'.T,P'.len,P'.row⟩
theorem zu5 {s:StS R} (hd:6<=d) (O:SOk X) (ne:R.one≠R.zero) (K:KP X X.n 0 s): ∃s':StS R,FP X X.n s'/\exec (Cxd P0 d) (.fo [3] false rgL s9B) (stF X s.a s.b s.c s.d s.e s.f) s.g=some ((.nx,stF X s'.a s'.b s'.c s'.d s'.e s'.f),s'.g):=
 foR (c:=Cxd P0 d) (x:=3) (n:=X.n) (e:=rgL) (b:=s9B) (λs:StS R=>stF X s.a s.b s.c s.d s.e s.f) StS.g (λk s=>FP X k s) s (Qa O.n (by decide)) rfl (by exact bM (.p (K.T.ln (Cxd P0 d) K.len)<| .c<| .z (two (.rng X.n) s.g)) (by kernel_rfl)) ⟨K.T,K.len,λr t ht=>⟨λ_=>by
  have:=K.row r t ht
  rwa [if_neg (QX _)] at this,λh=>absurd h (QX _)⟩⟩ λk s R1 _ hk P1 C1=>zn6 (Qa (by decide) hd) O ne hk P1 C1.nx
theorem zh0 (hd:7<=d) (O:SOk X) (ne:R.one≠R.zero) (T0:sT X.h X.aT ((QS X.n).map X.Tf)): ∃t,aM (Cxd P0 d) (.top 107) [.top (112+R.i),.ref X.aT] X.h=some (.ref X.h.length,X.h++t)/\∃T,zhd X (X.h++t) T:=by
 have w:WF P0 d 107 [.top (112+R.i),.ref X.aT] X.h λv g=>v= .ref X.h.length/\∃s:StS R,g=s.g/\FP X X.n s:=by
  refine bJ (K:=6) hd (some (.top (112+R.i))::some (.ref X.aT)::nn 13) lH (by kernel_rfl) λd' h'=>?_;refine (zuP (d:=d') h' O).elim λs a=>(zu5 (d:=d') h' O ne a.1).elim λs' b=>?_;exact run (.p (zh2 (d:=d') O T0)<| .s (a.2)<| .s (b.2)<| .z ((show Val.ref X.h.length= .ref X.h.length/\∃s2:StS R,s'.g=s2.g/\FP X X.n s2 from ⟨rfl,s',rfl,b.1⟩))) (by kernel_rfl)
 obtain ⟨v,g,e,rfl,s,rfl,P⟩:=W.get (dO (P:=P0) rfl w);obtain ⟨t,ht⟩:=P.T.pre;rw [ht] at e;exact ⟨t,e,s.T,ht▸P.T,P.len,λr t ht=>(P.row r t ht).2 (by rw [<-P.len];exact aH ht)⟩
end
section
variable {R:Rg}{d:Nat}{h h0:MH}{Q:Val->MH->Prop}{R':Fl->Internal.Frame->MH->Prop}{X:SX R}
def NB (X:SX R) (N B:Nat->R.α):Prop:= ∀s,s<X.n->B s=R.add (N s) (cT (X.Tf s) B)
structure RS (R:Rg) where
 g:MH
 V:List R.α
 b:Option Val:=none
 c:Option Val:=none
structure RX (X:SX R) (h:MH) (aR aS:Nat) (T:List (DR R)) (row:List R.α) (P K:Nat):Prop where
 O:SOk X
 rR:h[aR]?=some (.list (row.map R.e))
 len:row.length=X.n
 dg: ∀x∈row,R.D P K x
 tb:sT h aS T
 tl:T.length=X.n
 tr: ∀r t,T[r]?=some t->zjO X r t
 bd:4*(P+X.p*X.n)+(K+(X.K*X.n+X.n+1)+X.n)<=3800
structure RP (X:SX R) (h:MH) (row:List R.α) (P K i:Nat) (s:RS R):Prop where
 pre: ∃t,s.g=h++t
 at':s.g[h.length+1]?=some (.list (s.V.map R.e))
 len:s.V.length=X.n
 ev: ∀N B,NB X N B->R.add (bK s.V N 0) (bK (row.drop i) B i)=bK row B 0
 dg: ∀x∈s.V,R.D (P+X.p*X.n) (K+(X.K*X.n+X.n+1)+i) x
structure RJ (X:SX R) (h:MH) (row:List R.α) (P K i aL:Nat) (y:R.α) (t:DR R) (j:Nat) (s:RS R):Prop where
 pre: ∃t,s.g=h++t
 at':s.g[h.length+1]?=some (.list (s.V.map R.e))
 len:s.V.length=X.n
 ev: ∀N B,NB X N B->R.add (bK s.V N 0) (R.add (R.mul y (a6 (((bH t).drop j).map λx=>R.mul (bR t x) (N x)))) (bK (row.drop (i+1)) B (i+1)))=bK row B 0
 dg: ∀x∈s.V,R.D (P+X.p*X.n) (K+(X.K*X.n+X.n+1)+(i+1)) x
 dl: ∀ (m:Nat) x,s.V[m]?=some x->m∈(bH t).drop j->R.D (P+X.p*X.n) (K+(X.K*X.n+X.n+1)+i) x
 ge:h.length+1<aL
 l:s.g[aL]?=some (.list ((bH t).map λn:Nat=> .int (n:Int)))
def rtF (R:Rg) (h:MH) (aR aS:Nat) (b c:Option Val):Internal.Frame:=some (.top (112+R.i))::some (.ref aR)::some (.ref aS)::some (.ref (h.length+1))::b::c::nn 6
abbrev rtJ:List Sm:= [.asg (.sb (.var 3) (.var 5)) (.meth (.var 0) nq6 [.sub (.var 3) (.var 5),.meth (.var 0) mQ [.sub (.var 1) (.var 4),.sub (.sub (.var 2) (.var 4)) (.var 5)]])]
variable {aR aS:Nat}{T:List (DR R)}{row:List R.α}{P K:Nat}
theorem sT.su {g:MH}{aT:Nat}{T:List (DR R)}{i:Nat}{t:DR R} (H:sT g aT T) (ht:T[i]?=some t): ∃r ep,bV g (.ref aT) (.int (i:Int))=some (.ref r)/\g[r]?=some (.dict ep (bQ t)):=by
 refine H.x.elim λrs zq3=>?_;have hi:i<rs.length:=by rw [zq3.2.1];exact aH ht
 obtain ⟨ep,e⟩:=zq3.2.2 i _ t (Qc hi) ht;exact ⟨_,ep,sl (i:=i) zq3.1 (lW (Qc hi)),e⟩
theorem zn8 {P K p K' n i:Nat} (hi:i<n) (bd:4*(P+p*n)+(K+(K'*n+n+1)+n)<=3800):4*(P+p*n)+(K+(K'*n+n+1))<=3800/\4*(P+p*n)+(K+(K'*n+n+1)+i)<=3800:=⟨Qa (QA (Qj _) (Qf _ _)) bd,QC (Qi (QT (QT hi _) _) bd)⟩
theorem RJ.put {i j x aL:Nat}{y v:R.α}{t:DR R}{s:RS R} (I:RJ X h row P K i aL y t j s) (hx:(bH t)[j]?=some x) (hxd:x∉ (bH t).drop (j+1)) (hVe:s.V[x]?=some v) (hv:R.D (P+X.p*X.n) (K+(X.K*X.n+X.n+1)+i) v) (hm:R.D (P+X.p*X.n) (K+(X.K*X.n+X.n+1)) (R.mul y (bR t x))):
  RJ X h row P K i aL y t (j+1) ⟨s.g.set (h.length+1) (.list ((s.V.set x (R.add v (R.mul y (bR t x)))).map R.e)),s.V.set x (R.add v (R.mul y (bR t x))),none,vN x⟩:=by
 have hxV:=aH hVe;refine I.pre.elim λtl zq1=>?_;refine ⟨⟨_,by show s.g.set _ _=_;rw [zq1];exact i8 (Ju _)⟩,bS I.at',by show (s.V.set _ _).length=_;rw [QL];exact I.len,λN B e=>?_,λz hz=>?_,λm z hz hm=>?_,I.ge,aZ (λe=>absurd (e▸I.ge) (Q2 _)) I.l⟩
 ·rw [<-I.ev N B e,<-(by unfold fS;rw [hVe];rfl:fS s.V x (R.mul y (bR t x))=s.V.set x (R.add v (R.mul y (bR t x)))),u6 hxV,kJ hx,Qz,aC,R.mul_add,Jv,<-R.mul_assoc,R.add_assoc,R.add_assoc,R.swap]
 ·exact (J9 hz).elim (I.dg z) λe=>e▸(R.D_add hv (R.D_mono (Qj _) (Qf _ _) hm):R.D (P+X.p*X.n) (K+(X.K*X.n+X.n+1)+(i+1)) (R.add v (R.mul y (bR t x))))
 ·have hz:(s.V.set x (R.add v (R.mul y (bR t x))))[m]?=some z:=hz
  rw [QJ (λe=>hxd (e▸hm):x≠m)] at hz;exact I.dl m z hz (by rw [kJ hx];exact .tail _ hm)
theorem zlu {i j x aL:Nat}{y:R.α}{t:DR R}{s:RS R} (hd:4<=d) (C:RX X h aR aS T row P K) (hy:row[i]?=some y) (ht:T[i]?=some t) (hx:(bH t)[j]?=some x) (I:RJ X h row P K i aL y t j s)
  (q: ∀s',RJ X h row P K i aL y t (j+1) s'->R' .nx (rtF R h aR aS (vN i) s'.c) s'.g):WSs (Cxd P0 d) rtJ (rtF R h aR aS (vN i) (vN x)) s.g R':=by
 have D:=C.tr i t ht;have hxk:x∈aJ t:=dB.mem_iff.mp (Qd hx);have hVe:=xD (l:=s.V) (s:=x) (by rw [I.len];exact D.ok.lt x hxk);have nd:=yF D.ok.nd;rw [<-Zt j (bH t),kJ hx] at nd;have hxd:=(Qw.mp (Zg.mp nd).2.1).1;have hv:=I.dl x _ hVe (by rw [kJ hx];exact .head _);have hDy:=C.dg y (Qd hy);have hm:=R.D_mul hDy (D.ok.get x);have B:=zn8 (by rw [<-C.len];exact aH hy:i<X.n) C.bd;have d3:3<=d:=Qa (by decide) hd;refine I.pre.elim λtl eg=>?_;have rR:s.g[aR]?=some (.list (row.map R.e)):=eg▸aB C.rR;refine (sT.su (g:=s.g) (eg▸C.tb.app) ht).elim λr w=>w.elim λep w=>?_;have e:=zlj (R.add (at' s.V x) (R.mul y (bR t x))) I.at' (aH hVe);exact run (.v (sl I.at' (tU hVe))<| .v (sl rR (tU hy))<| .v (w.1)<| .v (sR w.2 hxk)<| .q (R.ti d3 hDy (D.ok.get x) B.1)<| .q (R.pl d3 hv (R.D_mono (Qj _) (Qf _ _) hm) B.2)<| .h (e)<| .z (q _ (I.put hx hxd hVe hv hm))) (by kernel_rfl)
end
section
variable {R:Rg}{d:Nat}{h h0:MH}{Q:Val->MH->Prop}{R':Fl->Internal.Frame->MH->Prop}{X:SX R}{aR aS:Nat}{T:List (DR R)}{row:List R.α}{P K:Nat}
abbrev rtI:List Sm:= [.ite (.cmp .ne (.sub (.var 1) (.var 4)) (.attr (.var 0) nq5)) [.fo [5] false (.call (.lit (.bi nq2)) [.sub (.var 2) (.var 4)]) rtJ] []]
theorem RP.next {i:Nat}{s s':RS R} (I:RP X h row P K i s) (e1:s'.g=s.g) (e2:s'.V=s.V) (hi:row[i]?=some R.zero):RP X h row P K (i+1) s':=by
 refine (Qg.mp hi).elim λh1 zq3=>?_;refine ⟨by rw [e1];exact I.pre,by rw [e1,e2];exact I.at',by rw [e2];exact I.len,λN B e=>?_,λx hx=>R.D_mono (Qj _) (Ju _) (I.dg x (e2▸hx))⟩;rw [e2,<-I.ev N B e,oF h1,zq3,R.zero_mul,R.zero_add]
theorem zlw {i:Nat}{y:R.α}{t:DR R}{s:RS R} (hd:4<=d) (C:RX X h aR aS T row P K) (hy:row[i]?=some y) (ht:T[i]?=some t) (I:RP X h row P K i s): ∃s':RS R,RP X h row P K (i+1) s'/\exec (Cxd P0 d) (.fo [5] false (.call (.lit (.bi 126922498794852)) [.sub (.var 2) (.var 4)]) rtJ) (rtF R h aR aS (vN i) s.c) s.g=some ((.nx,rtF R h aR aS (vN i) s'.c),s'.g):=by
 have D:=C.tr i t ht;refine I.pre.elim λtl eg=>(sT.su (g:=s.g) (eg▸C.tb.app) ht).elim λr w=>w.elim λep w=>?_;have tne:t≠ []:=λe=>by have:=D.me;rw [e] at this;exact absurd this Qq
 have hlen:=Qa D.ok.len C.O.n;have lt:=bT I.at';have hvl:((bH t).map λn:Nat=>Val.int (n:Int)).length=(bH t).length:=Qe ..;have W1:WS (Cxd P0 d) (.fo [5] false (.call (.lit (.bi 126922498794852)) [.sub (.var 2) (.var 4)]) rtJ) (rtF R h aR aS (vN i) s.c) s.g λfl f g=> ∃s':RS R,RJ X h row P K i s.g.length y t (bH t).length s'/\fl= .nx/\f=rtF R h aR aS (vN i) s'.c/\g=s'.g:=by
  refine p9 (a:=s.g.length) (vs:=(bH t).map λn:Nat=> .int (n:Int)) (λs':RS R=>rtF R h aR aS (vN i) s'.c) RS.g (RJ X h row P K i s.g.length y t) (by rw [hvl];exact Qk (by rw [dB.length_eq,uO];exact hlen:(bH t).length<=60) (show 60<200000 by decide)) ⟨s.g++ [.list ((bH t).map λn:Nat=> .int (n:Int))],s.V,none,s.c⟩ (λj s' P'=>P'.l) ((by exact bM (.v (w.1)<| .p (gSo (Cxd P0 d) w.2 tne hlen)<| .z (two (.ref s.g.length) (s.g++ [.list ((bH t).map λn:Nat=> .int (n:Int))]))) (by kernel_rfl):WE (Cxd P0 d) (rtF R h aR aS (vN i) s.c) (.call (.lit (.bi 126922498794852)) [.sub (.var 2) (.var 4)]) s.g λv g=>v= .ref s.g.length/\g=s.g++ [.list ((bH t).map λn:Nat=> .int (n:Int))]).mono λv g q=>⟨q.1,rfl,q.2,⟨tl++ [.list ((bH t).map λn:Nat=> .int (n:Int))],by show s.g++_=_;rw [eg,Qm]⟩,aB I.at',I.len,λN B e=>?_,λx hx=>R.D_mono (Qj _) (Ju _) (I.dg x hx),λm x hx _=>I.dg x (Qd hx),lt,aV⟩) (λj v s' R2 hv P2 C2=>?_) λs' P'=>⟨s',hvl▸P',rfl,rfl,rfl⟩
  ·obtain ⟨h1,h2⟩:=Qg.mp hy
   rw [<-I.ev N B e,oF h1,h2,List.drop_zero,uP dB D.ok.nd,D.ev N B e]
  ·rw [Qo] at hv
   refine (Jj.mp hv).elim λx zq1=>?_;obtain rfl:=zq1.2;exact c8 (zlu hd C hy ht zq1.1 P2 C2.nx)
 obtain ⟨⟨fl,f⟩,g,e,s',P2,q1,q2,q3⟩:=W.get W1;cases q1;cases q2;cases q3;refine ⟨s',⟨P2.pre,P2.at',P2.len,λN B hNB=>?_,P2.dg⟩,e⟩;rw [<-P2.ev N B hNB,Zc];show _=R.add _ (R.add (R.mul y R.zero) _);rw [R.mul_zero,R.zero_add]
theorem zlv {i:Nat}{s:RS R} (hd:4<=d) (C:RX X h aR aS T row P K) (hi:i<X.n) (I:RP X h row P K i s)
  (q: ∀s',RP X h row P K (i+1) s'->R' .nx (rtF R h aR aS (vN i) s'.c) s'.g):WSs (Cxd P0 d) rtI (rtF R h aR aS (vN i) s.c) s.g R':=by
 have hy:=xD (l:=row) (s:=i) (by rw [C.len];exact hi);have rR:s.g[aR]?=some (.list (row.map R.e)):=I.pre.elim λtl eg=>eg▸aB C.rR;cases hq:R.deq (at' row i) R.zero with
 |isTrue hz=>
  have hf:(!@decide (at' row i=R.zero) (R.deq _ _))=false:=by rw [R.yes hz];rfl
  exact run (.v (sl rR (tU hy))<| .w (R.no)<| .k (R.qn (at' row i) R.zero)<| .f (hf)<| .z (q s (I.next rfl rfl (hy.trans (congrArg some hz))))) (by kernel_rfl)
 |isFalse hz=>
  have hf:(!@decide (at' row i=R.zero) (R.deq _ _))=true:=by rw [R.not hz];rfl
  refine (zlw (d:=d) hd C hy (Qc (l:=T) (i:=i) (by rw [C.tl];exact hi)) I).elim λs' e=>?_;exact run (.v (sl rR (tU hy))<| .w (R.no)<| .k (R.qn (at' row i) R.zero)<| .t (hf)<| .s (e.2)<| .z (q s' e.1)) (by kernel_rfl)
abbrev rt0 (R:Rg) (h:MH) (n:Nat):MH:=h++ [.list [R.e R.zero]]++ [.list ((cR R n).map R.e)]
theorem vV (hd:5<=d) (C:RX X h aR aS T row P K)
  (q: ∀t V,(h++t)[h.length+1]?=some (.list (V.map R.e)) ->V.length=X.n->(∀x∈V,R.D (P+X.p*X.n) (K+(X.K*X.n+X.n+1)+X.n) x) ->(∀N B,NB X N B->bK V N 0=bK row B 0) ->Q (.ref (h.length+1)) (h++t)):WF P0 d 132 [.top (112+R.i),.ref aR,.ref aS] h Q:=by
 refine bJ (K:=4) hd (some (.top (112+R.i))::some (.ref aR)::some (.ref aS)::nn 9) fU (by kernel_rfl) λd' h'=>?_;have e1:(h++ [MObj.list [R.e R.zero]]).length=h.length+1:=by rw [Qv];rfl
 have em:=R.mulN h (n:=X.n) (Qa C.O.n (by decide));rw [e1] at em;have ln:(row.map R.e).length=X.n:=by rw [Qe,C.len]
 have len1:aM (Cxd P0 d') (.bi lT) [.ref aR] (h++ [.list [R.e R.zero]])=some (.int X.n,h++ [.list [R.e R.zero]]):=by rw [zdo (aB C.rR),ln]
 have P0':RP X h row P K 0 ⟨rt0 R h X.n,cR R X.n,none,none⟩:=⟨⟨_,Qm ..⟩,by rw [<-e1];exact aV,zhn,λN B _=>by rw [gU,R.zero_add];rfl,λx hx=>by rw [Jm hx];exact R.D_mono (Qs _) (Qs _) R.D_zero⟩;refine (foR (c:=Cxd P0 d') (x:=4) (n:=X.n) (e:=.call (.lit (.ty 491260897125)) [.call (.lit (.bi 7103854)) [.var 1]]) (b:=rtI) (λs:RS R=>rtF R h aR aS s.b s.c) RS.g (RP X h row P K) ⟨rt0 R h X.n,cR R X.n,none,none⟩ (Qa C.O.n (by decide)) rfl (by exact bM (.p ((by rw [zdo (aB (aB C.rR):(rt0 R h X.n)[aR]?=some (.list (row.map R.e))),ln]:aM (Cxd P0 d') (.bi lT) [.ref aR] (rt0 R h X.n)=some (.int X.n,rt0 R h X.n)))<| .c<| .z (two (.rng X.n) (rt0 R h X.n))) (by kernel_rfl)) P0' λi s R1 _ hi P1 C1=>zlv h' C hi P1 λs' P'=>C1.nx {s' with b:=vN i} ⟨P'.pre,P'.at',P'.len,P'.ev,P'.dg⟩).elim λs e=>e.1.pre.elim λt ht=>?_;have P1:=e.1;have e2:=e.2;rw [ht] at e2;have ev:=P1.ev;rw [<-C.len,Zc] at ev;exact run (.w (R.no)<| .p (len1)<| .p (em)<| .s (e2)<| .z (q t s.V (ht▸P1.at') P1.len P1.dg λN B hN=>(R.add_zero _).symm.trans (ev N B hN))) (by kernel_rfl)
end
section
variable {R:Rg}{d:Nat}{h h0:MH}{Q:Val->MH->Prop}{R':Fl->Internal.Frame->MH->Prop}{L:Ly}{M:Mc R.α}
abbrev sX (g:MH) (aT:Nat) (M:Mc R.α) (p K:Nat):SX R:=⟨g,aT,M.arcs.length,p,K,λs=>cP (aAt M s)⟩
theorem zes:d5 M M.arcs.length 0=(QS M.arcs.length).map λs=>cP (aAt M s):=Ja λs hs=>by
 unfold lP;rw [if_pos (J8.mp hs)]
theorem zj4 {g:MH}{aT p k K:Nat} (I:IsM R h L M) (G:bD M p k) (U:upE M) (hn:M.arcs.length<=60) (hK:k+M.cnt<=K) (bd:4*(p*M.arcs.length)+(K*M.arcs.length+M.arcs.length+1)<=3800):SOk (sX g aT M p K):=by
 refine ⟨λs hs=>?_,hn,bd⟩;have hs:s<M.arcs.length:=hs;have hx:=zhc (Qc hs);have hm:=Jg hs;obtain ⟨ok,up⟩:=uJ (R:=R) (n:=M.arcs.length) (p:=p) (k:=k) (s:=s) (xs:=M.arcs[s]) λc hc=>by
  exact ⟨(G.arc _ hm c hc).1,(G.arc _ hm c hc).2.2.2.1,λq=>U s _ (Qc hs) c hc q⟩
 show ER _ _ _ _ (cP (aAt M s));rw [hx]
 have:=I.cr _ hm
 exact ⟨ok.nd,λx hx=>⟨up x hx,ok.lt x hx⟩,λq hq=>R.D_mono (Qj _) (by show _<=K;exact Qa (Ql this _) hK) (ok.dg q hq)⟩
theorem zuX (hd:2<=d) (I:IsM R h L M):bI (Cxd P0 d) (.ref L.m) 1925483444799026525305 [] h h=some (.bool (M.arcs.any λr=>r.any Ar.emp),h):=me (b8 I.obj rfl rfl) (zjc hd I ⟨rfl,rfl⟩)
inductive EsR (M:Mc R.α) (p K:Nat) (h:MH) (v:Val) (g:MH):Prop
 |no (e:uS M) (hv:v= .none) (hg:g=h):EsR M p K h v g
 |so (t1 t2:MH) (T:List (DR R)) (S:zhd (sX (h++t1) h.length M p K) (h++t1++t2) T) (hv:v= .ref (h++t1).length) (hg:g=h++t1++t2):EsR M p K h v g
theorem zmT {p k K:Nat} (hd:8<=d) (I:IsM R h L M) (G:bD M p k) (U:upE M) (ne:R.one≠R.zero) (hn:M.arcs.length<=60) (hK:k+M.cnt<=K) (bd:4*(p*M.arcs.length)+(K*M.arcs.length+M.arcs.length+1)<=3800) (bd2:4*p+(k+300)<=3800):
  ∃v g,aM (Cxd P0 d) (.top 131) [.ref L.m] h=some (v,g)/\EsR M p K h v g:=by
 have w:WF P0 d 131 [.ref L.m] h (EsR M p K h):=by
  refine bJ (K:=7) hd (some (.ref L.m)::nn 6) eS (by kernel_rfl) λd' h'=>?_;cases hE:M.arcs.any λr=>r.any Ar.emp with
  |false=>exact run (.p (zuX (Qa (by decide) h':2<=d') I)<| .c<| .t (nF hE)<| .z ((show EsR M p K h .none h from .no hE rfl rfl))) (by kernel_rfl)
  |true=>
   obtain ⟨v,g,e,rfl,t,rfl,T⟩:=W.get (dO (P:=P0) (d:=d') rfl (zet (Q:=λv g=>v= .ref h.length/\∃t,g=h++t/\Tab h (h++t) (d5 M M.arcs.length 0)) (Qa (by decide) h') I G U bd2 λt T=>⟨rfl,t,rfl,T⟩));refine (zh0 (d:=d') (X:=sX (h++t) h.length M p K) h' (zj4 I G U hn hK bd) ne (zes▸T.r)).elim λt2 a=>a.2.elim λT2 S=>?_;exact run (.p (zuX (Qa (by decide) h':2<=d') I)<| .c<| .f (nT hE)<| .v (c6 I)<| .p (e)<| .p (a.1)<| .z ((show EsR M p K h (.ref (h++t).length) (h++t++t2) from .so t t2 T2 S rfl rfl))) (by kernel_rfl)
 refine (W.get (dO (P:=P0) rfl w)).elim λv zq1=>zq1.elim λg zq2=>?_;exact ⟨v,g,zq2.1,zq2.2⟩
end
section
variable {R:Rg}{d:Nat}{h h0:MH}{Q:Val->MH->Prop}{R':Fl->Internal.Frame->MH->Prop}{L:Ly}{M:Mc R.α}
theorem zvq {g:MH}{aT p K i j:Nat}{u l:List Nat} (H:j5 M) (hi:i<=u.length) (hj:j<=l.length):NB (sX g aT M p K) (zN M (Bv M u l) u l i j) (Bv M u l i j):=λs hs=>by
 show Bv M u l i j s=R.add _ (cT (cP (aAt M s)) _);rw [pB H hi hj,sA,zac]
theorem zoo {g g0:MH}{L':Ly}{T:Mc R.α}{u l:List Nat}{S:List (DR R)}{pW kW p k pS kS K aT:Nat} (H:j5 T) (O:SOk (sX g aT T p K)) (Z:zhd (sX g aT T p K) g0 S) (h1:p*T.arcs.length<=pS) (h2:K*T.arcs.length+T.arcs.length+1+T.arcs.length<=kS):
  xJ (wX g0 L' T u l (.ref g.length) pW kW p k pS kS):=by
 refine ⟨.inr ⟨_,rfl⟩,(λe=>nomatch e),λaT' e {d P K' aR g1 row Q} hd hg hR hl hD hb q=>?_⟩;have e:g.length=aT':=by
  injection (e:Val.ref g.length= .ref aT')
 subst e;obtain ⟨t,rfl⟩:=hg;refine vV (X:=sX g aT T p K) (T:=S) (P:=P) (K:=K') hd ⟨O,hR,hl,hD,Z.tb.r.app,Z.len,Z.row,?_⟩ λt2 V a1 a2 a3 a4=>?_
 ·show 4*(P+p*T.arcs.length)+(K'+(K*T.arcs.length+T.arcs.length+1)+T.arcs.length)<=3800
  exact Qa (QA (QH 4 (Ql h1 P)) (Qa (Qt (Q1 _ _ _)) (Ql h2 K'))) hb
 ·refine q t2 _ V (Ju _) a1 a2 (λx hx=>R.D_mono (Ql h1 P) ?_ (a3 x hx)) λi j hi hj=>(a4 _ _ (zvq H hi hj)).symm
  show K'+(K*T.arcs.length+T.arcs.length+1)+T.arcs.length<=K'+kS;exact Qa (Qt (Q1 _ _ _)) (QA (Qj _) h2)
theorem gNs (hd:4<=d) {u:List Nat} (hu: ∀c∈u,tF c=true) (lu:u.length<=200) (h:MH): ∃v,aM (Cxd P0 d) (.top 130) [.str u] h=some (v,h):=by
 obtain ⟨v,g,e,rfl⟩:=W.get (dO (P:=P0) (d:=d) rfl (zlQ (Q:=λ_ g=>g=h) (hd) hu lu rfl));exact ⟨v,e⟩
structure TwR (M:Mc R.α) (h t:MH) (L':Ly) (T:Mc R.α) (p k:Nat) (u l:List Nat):Prop where
 J:IsM R (h++t) L' T
 G:bD T p k
 U:upE T
 n:T.arcs.length<=M.arcs.length
 c:T.cnt<=M.cnt
 w:R.mul T.first (Bv T u l 0 0 T.start)=R.mul M.first (Bv M u l 0 0 M.start)
theorem zk6 {p k:Nat} (hd:6<=d) (I:IsM R h L M) (G:bD M p k) (U:upE M) (u l:List Nat): ∃t L' T,aM (Cxd P0 d) (.top 133) [.ref L.m] h=some (.ref L'.m,h++t)/\TwR M h t L' T p k u l:=by
 obtain ⟨v,g,e,t,L',T,rfl,rfl,q⟩:=W.get (dO (P:=P0) rfl (zhQ (Q:=λv g=> ∃t L' T,v= .ref L'.m/\g=h++t/\TwR M h t L' T p k u l) hd I G λt L' T ks mb1 mb2 xss J ho TB TR=>by
  have TG:=zcr I G TB TR J;exact ⟨t,L',T,rfl,rfl,J,TG.g,TG.up U,TG.len,TG.cnt,xT I G TB TR (G.lab U) (TG.g.lab (TG.up U))⟩))
 exact ⟨t,L',T,e,q⟩
theorem znD {p k n n' c c' x y B:Nat} (hn:n'<=n) (hc:c'<=c) (n60:n<=60) (cl:1+(x+1)*(y+1)*(c+1)<B)
  (bd:4*((p+p*n)*(x+y+2))+((k+((k+c)*n+n+1+n))*(x+y+2)+(1+(x+1)*(y+1)*(c+1)+n))<=3800):
  p*n'<=p*n/\(k+c)*n'+n'+1+n'<=(k+c)*n+n+1+n/\4*(p*n')+((k+c)*n'+n'+1)<=3800/\1+(x+1)*(y+1)*(c'+1)<B/\4*((p+p*n)*(x+y+2))+((k+((k+c)*n+n+1+n))*(x+y+2)+(1+(x+1)*(y+1)*(c'+1)+n'))<=3800/\1+(x+1)*(y+1)*(c'+1)+n'<=1+(x+1)*(y+1)*(c+1)+n:=by
 have h0:=QH ((x+1)*(y+1)) (Jq hc);have h4:(k+c)*n'+n'+1+n'<=(k+c)*n+n+1+n:=QA (QV (QA (QH (k+c) hn) hn) 1) hn;refine ⟨(QH p hn),h4,?_,Qk (Ql h0 1) cl,Qa (Ql (Ql (QA (Ql h0 1) hn:1+(x+1)*(y+1)*(c'+1)+n'<=1+(x+1)*(y+1)*(c+1)+n) _) _) bd,(QA (Ql h0 1) hn:1+(x+1)*(y+1)*(c'+1)+n'<=1+(x+1)*(y+1)*(c+1)+n)⟩;exact Qa (QA (QH 4 (Qa (Qa (QH p hn) (Qn _ _)) (JC (p+p*n) (Jo (x+y+1))):p*n'<=(p+p*n)*(x+y+2))) (Qa (Qa (Qa (Qa (Qf _ n') h4) (Qn _ _)) (JC (k+((k+c)*n+n+1+n)) (Jo (x+y+1))):(k+c)*n'+n'+1<=(k+((k+c)*n+n+1+n))*(x+y+2)) (Qf _ _))) bd
theorem WOk.of {g:MH}{T:Mc R.α}{L':Ly}{u l:List Nat}{ov:Val}{p k pS kS:Nat} (J:IsM R g L' T) (G:bD T p k) (cl:1+(u.length+1)*(l.length+1)*(T.cnt+1)<100000) (bd:4*((p+pS)*(u.length+l.length+2))+((k+kS)*(u.length+l.length+2)+(1+(u.length+1)*(l.length+1)*(T.cnt+1)+T.arcs.length))<=3800):WOk (wX g L' T u l ov (p+pS) (k+kS) p k pS kS):=⟨J,G,Qj _,Qj _,cl,bd⟩
theorem z5 {p k:Nat}{u l:List Nat} (hd:10<=d) (I:IsM R h L M) (G:bD M p k) (U:upE M) (ne:R.one≠R.zero) (hn:M.arcs.length<=60) (hu: ∀c∈u,tF c=true) (hl: ∀c∈l,tF c=true) (lu:u.length<=200) (ll:l.length<=200)
  (cl:1+(u.length+1)*(l.length+1)*(M.cnt+1)<100000) (bd2:4*p+(k+300)<=3800)
  (hbd:4*((p+p*M.arcs.length)*(u.length+l.length+2))+((k+((k+M.cnt)*M.arcs.length+M.arcs.length+1+M.arcs.length))*(u.length+l.length+2)+(1+(u.length+1)*(l.length+1)*(M.cnt+1)+M.arcs.length))<=3800)
  (q: ∀t,R.D ((p+p*M.arcs.length)*(u.length+l.length+2)) ((k+((k+M.cnt)*M.arcs.length+M.arcs.length+1+M.arcs.length))*(u.length+l.length+2)+(1+(u.length+1)*(l.length+1)*(M.cnt+1)+M.arcs.length)) (R.mul M.first (Bv M u l 0 0 M.start)) ->Q (R.e (R.mul M.first (Bv M u l 0 0 M.start))) (h++t)):WF P0 d 106 [.ref L.m,.str u,.str l] h Q:=by
 refine bJ (K:=9) hd (some (.ref L.m)::some (.str u)::some (.str l)::nn 15) cO (by kernel_rfl) λd' h'=>?_;refine (gNs (d:=d') (Qa (by decide) h':4<=d') hu lu h).elim λv1 a=>(gNs (d:=d') (Qa (by decide) h':4<=d') hl ll h).elim λv2 b=>?_;refine (zk6 (d:=d') (Qa (by decide) h') I G U u l).elim λt c=>c.elim λL' c=>c.elim λT c=>?_;have Z:=c.2;have B:=znD Z.n Z.c hn cl hbd;refine (zmT (d:=d') (K:=k+M.cnt) (Qa (by decide) h') Z.J Z.G Z.U ne (Qa Z.n hn) (Ql Z.c k) B.2.2.1 bd2).elim λov e=>e.elim λg e=>?_;refine dH (a:=cO.take 5) (b:=cO.drop 5) ?_;have fin: ∀ (g:MH) (t2:MH),g++t2=h++(g.drop h.length++t2) ->R.D ((p+p*M.arcs.length)*(u.length+l.length+2)) ((k+((k+M.cnt)*M.arcs.length+M.arcs.length+1+M.arcs.length))*(u.length+l.length+2)+(1+(u.length+1)*(l.length+1)*(T.cnt+1)+T.arcs.length)) (R.mul T.first (Bv T u l 0 0 T.start)) ->Q (R.e (R.mul T.first (Bv T u l 0 0 T.start))) (g++t2):=λg t2 hg hD=>by
  rw [Z.w] at hD ⊢;rw [hg];exact q _ (R.D_mono (Qj _) (Ql B.2.2.2.2.2 _) hD)
 have dr: ∀s t2:MH,(h++s)++t2=h++((h++s).drop h.length++t2):=λs t2=>by rw [List.drop_left,Qm]
 have tail:WSs (Cxd P0 d') (cO.drop 5) (some (.ref L'.m)::some (.str u)::some (.str l)::some (.top (112+R.i))::some ov::nn 13) g (Internal.Fin Q):=by
  cases e.2 with
  |no hE hv hg=>
   rw [hv,hg];exact xP (X:=wX (h++t) L' T u l .none (p+p*M.arcs.length) (k+((k+M.cnt)*M.arcs.length+M.arcs.length+1+M.arcs.length)) p k _ _) (Qa (by decide) h') (WOk.of Z.J Z.G B.2.2.2.1 B.2.2.2.2.1) ⟨.inl rfl,λ_ i j s hi hj _=>by
    show Bv T u l i j s=_;rw [pB (Z.G.lab Z.U) hi hj,sA,zdx λa ha=>zc4 hE ha,R.add_zero],λaT e=>nomatch e⟩ rfl rfl rfl (Qf _ _) (Qf _ _) λt2=>fin (h++t) t2 (dr t t2)
  |so t1 t2 S SS hv hg=>
   rw [hv,hg];exact xP (X:=wX (h++t++t1++t2) L' T u l (.ref (h++t++t1).length) (p+p*M.arcs.length) (k+((k+M.cnt)*M.arcs.length+M.arcs.length+1+M.arcs.length)) p k _ _) (Qa (by decide) h') (WOk.of Z.J.app.app Z.G B.2.2.2.1 B.2.2.2.2.1) (zoo (Z.G.lab Z.U) (zj4 Z.J Z.G Z.U (Qa Z.n hn) (Ql Z.c k) B.2.2.1) SS B.1 B.2.1) rfl rfl rfl (Qf _ _) (Qf _ _) λt3=>fin (h++t++t1++t2) t3 (by rw [Qm h,Qm h];exact dr _ t3)
 exact run (.p (a)<| .p (b)<| .v (c6 I)<| .p (c.1)<| .p (e.1)<| .z (dC tail)) (by kernel_rfl)
end
def eB (b:Bool):Val:= .int (bif b then 1 else 0)
def znt:Rg where
 i:=0
 hi:=by decide
 α:=Bool
 deq:=inferInstance
 e:=eB
 zero:=false
 one:=true
 add:=or
 mul:=and
 D:=λ_ _ _=>True
 add_comm:=Bool.or_comm
 add_assoc:=Bool.or_assoc
 zero_add:=YV
 mul_comm:=Bool.and_comm
 mul_assoc:=Bool.and_assoc
 one_mul:=Z6
 zero_mul:=Kj
 mul_add:=Bool.and_or_distrib_left
 noE:=rfl
 onE:=rfl
 isv:=λ_=>rfl
 veq_ok:=λh a b=>mI.trans (congrArg some (by cases a<;>cases b<;>rfl))
 D_mono:=λ_ _ _=>trivial
 D_zero:=trivial
 D_one:=trivial
 D_add:=λ_ _=>trivial
 D_mul:=λ_ _=>trivial
 plus_ok:=λ{p k a b} _ _ _=>by cases a<;>cases b<;>rfl
 times_ok:=λ{p q k l a b} _ _ _=>by cases a<;>cases b<;>rfl
 need_ok:=λ{p k a d h0 h Q} hd _ _ q=>a8 (f:=142) (self:=[.top 112]) rfl (by
  cases a
  ·exact b0 (K:=0) (Qa (Qn _ _) hd) (λ_=>rfl) q
  ·exact b0 (K:=0) (Qa (Qn _ _) hd) (λ_=>rfl) q)
 star_ok:=λ{d h0 h Q} hd q=>a8 (f:=145) (self:=[.top 112]) rfl (b0 (K:=0) (Qa (Qn _ _) hd) (λ_=>rfl) q)
def eO (x:Option Nat):Val:=Qr (motive:=λ_=>Val) x .none λn=> .int n
def zzt (x y:Option Nat):Option Nat:=Qr (motive:=λ_=>Option Nat) x y λn=>Qr (motive:=λ_=>Option Nat) y x λm=>some (if m<n then m else n)
def plO (x y:Option Nat):Option Nat:=x.bind λn=>y.map λm=>n+m
theorem zf3 {d n:Nat}{h:MH}{Q:Val->MH->Prop}{s:Val} (hd:1<=d) (hn:n<wB) (q:Q (.int n) h):WF P0 d 147 [s,.int n] h Q:=by
 refine bJ (K:=0) hd (some s::some (.int n)::nn 6) lK (by kernel_rfl) λd' h'=>?_;exact run (.c4<| .c4<| .f (mW hn)<| .z (q)) (by kernel_rfl)
def xH:Rg where
 i:=1
 hi:=by decide
 α:=Option Nat
 deq:=inferInstance
 e:=eO
 zero:=none
 one:=some 0
 add:=zzt
 mul:=plO
 D:=λp _ x=> ∀n,x=some n->n<=3*p
 add_comm:=λa b=>by
  cases a with
  |none=>cases b<;>rfl
  |some n=>cases b with
   |none=>rfl
   |some m=>show some _=some _;congr 1;split<;>split<;>lia
 add_assoc:=λa b c=>by
  cases a with
  |none=>rfl
  |some n=>cases b with
   |none=>rfl
   |some m=>cases c with
    |none=>rfl
    |some k=>show some _=some _;congr 1;(repeat' split)<;>lia
 zero_add:=λa=>rfl
 mul_comm:=λa b=>by
  cases a with
  |none=>cases b<;>rfl
  |some n=>cases b with
   |none=>rfl
   |some m=>exact congrArg some (J6 n m)
 mul_assoc:=λa b c=>by
  cases a with
  |none=>rfl
  |some n=>cases b with
   |none=>rfl
   |some m=>cases c with
    |none=>rfl
    |some k=>exact congrArg some (Q1 n m k)
 one_mul:=λa=>by
  cases a with
  |none=>rfl
  |some n=>exact congrArg some (Jv n)
 zero_mul:=λa=>rfl
 mul_add:=λa b c=>by
  cases a with
  |none=>rfl
  |some n=>cases b with
   |none=>cases c<;>rfl
   |some m=>cases c with
    |none=>rfl
    |some k=>show some (n+if k<m then k else m)=some (if n+k<n+m then n+k else n+m);congr 1;(repeat' split)<;>lia
 noE:=rfl
 onE:=rfl
 isv:=λa=>by cases a<;>rfl
 veq_ok:=λh a b=>by
  cases a with
  |none=>cases b<;>rfl
  |some n=>cases b with
   |none=>rfl
   |some m=>exact mI.trans (congrArg some (by
     by_cases hab:n=m
     ·subst hab;simp
     ·rw [decide_eq_false (λe=>hab (Qx.inj e)),beq_false_of_ne];lia))
 D_mono:=λhp _ ha n e=>Qa (ha n e) (QH 3 hp)
 D_zero:=λn e=>nomatch e
 D_one:=λn e=>by cases e;exact Qj _
 D_add:=λ{p k a b} ha hb n e=>by
  cases a with
  |none=>exact hb n e
  |some x=>cases b with
   |none=>exact ha n e
   |some y=>
    rw [<-(Qx.inj e:(if y<x then y else x)=n)];split<;>lia
 D_mul:=λ{p q k l a b} ha hb n e=>by
  cases a with
  |none=>exact nomatch e
  |some x=>cases b with
   |none=>exact nomatch e
   |some y=>
    have e:x+y=n:=Qx.inj e;have h1:=ha x rfl;have h2:=hb y rfl;lia
 plus_ok:=λ{p k a b} _ _ _=>by
  cases a with
  |none=>cases b<;>rfl
  |some x=>cases b with
   |none=>rfl
   |some y=>
    show some (Val.int _)=some (Val.int _)
    congr 2
    by_cases hxy:y<x
    ·rw [if_pos hxy,if_pos (Jw.mpr hxy)]
    ·rw [if_neg hxy,if_neg λq=>hxy (Jw.mp q)]
 times_ok:=λ{p q k l a b} _ _ _=>by
  cases a with
  |none=>cases b<;>rfl
  |some x=>cases b with
   |none=>rfl
   |some y=>rfl
 need_ok:=λ{p k a d h0 h Q} hd ha hl q=>a8 (f:=147) (self:=[.top 113]) rfl (by
  cases a with
  |none=>exact b0 (K:=0) (Qa (Qn _ _) hd) (λ_=>rfl) q
  |some n=>exact zf3 (Qa (Qn _ _) hd) (by
    have:=ha n rfl
    have:n<2 ^ 3900:=Qk (show n<=3800 by lia) (by decide+kernel)
    exact this) q)
 star_ok:=λ{d h0 h Q} hd q=>a8 (f:=150) (self:=[.top 113]) rfl (b0 (K:=0) (Qa (Qn _ _) hd) (λ_=>rfl) q)
abbrev QN:Type:= {q:Rat // 0<=q}
def eQ (q:QN):Val:= .tup [.int q.1.num,.int q.1.den]
def nQ (q:QN):Nat:=q.1.num.toNat
theorem oR (q:QN):((nQ q:Nat):Int)=q.1.num:=YQ (Rat.num_nonneg.mpr q.2)
theorem jQ (q:QN):eQ q= .tup [.int (nQ q:Nat),.int q.1.den]:=by unfold eQ;rw [oR]
structure DQ (p k:Nat) (q:QN):Prop where
 d:q.1.den ∣ 12 ^ p
 n:nQ q<=2 ^ k*q.1.den
theorem zgG {p:Nat}{d:Nat} (h:d ∣ 12 ^ p):d<=2 ^ (4*p):=Qa (Nat.le_of_dvd (Wf (by decide)) h) (by rw [Nat.pow_mul];exact Nat.pow_le_pow_left (by decide) p)
theorem DQ.bd {p k:Nat}{q:QN} (H:DQ p k q) (hl:4*p+k<=3800):nQ q<wB/\q.1.den<wB:=by
 refine ⟨y2 (k:=4*p+k) hl (Qa H.n ?_),y2 (k:=4*p) (Qa (Qf _ _) hl) (zgG H.d)⟩;rw [J6,Ya];exact QH _ (zgG H.d)
theorem fr?_of {n m:Nat} (hn:n<wB) (hm:m<wB) (h0:0<m):fr? (.tup [.int n,.int m])=some (n,m):=by
 show (nat? (.int n)).bind (λa=>(nat? (.int m)).bind λb=>grd (Jt 1 b) (some (a,b)))=_;rw [nat?_of hn,nat?_of hm];show grd (Jt 1 m) _=_;rw [YA h0];rfl
theorem frQ {p k:Nat}{q:QN} (H:DQ p k q) (hl:4*p+k<=3800):fr? (eQ q)=some (nQ q,q.1.den):=by
 rw [jQ];exact fr?_of (H.bd hl).1 (H.bd hl).2 q.1.den_pos
theorem pT {n m:Nat} (hm:m≠0):(Rat.normalize (n:Int) m hm).num=((n / JU n m:Nat):Int)/\(Rat.normalize (n:Int) m hm).den=m / JU n m:=by
 rw [Rat.normalize_eq];exact ⟨by show (n:Int) / ((JU n m:Nat):Int)=_;rw [Int.natCast_ediv],rfl⟩
def j4 (a b:QN):QN:=⟨a.1+b.1,Rat.add_nonneg a.2 b.2⟩
def d9 (a b:QN):QN:=⟨a.1*b.1,Rat.mul_nonneg a.2 b.2⟩
theorem p7 (a b:QN):nQ (j4 a b)=(nQ a*b.1.den+nQ b*a.1.den) / JU (nQ a*b.1.den+nQ b*a.1.den) (a.1.den*b.1.den)/\(j4 a b).1.den=a.1.den*b.1.den / JU (nQ a*b.1.den+nQ b*a.1.den) (a.1.den*b.1.den):=by
 have h0:a.1.den*b.1.den≠0:=Xt a.1.den_nz b.1.den_nz;have e:(j4 a b).1=Rat.normalize ((nQ a*b.1.den+nQ b*a.1.den:Nat):Int) (a.1.den*b.1.den) h0:=by
  show a.1+b.1=_;rw [Rat.add_def]
  congr 1
  rw [Xs,Zz,Zz,oR,oR]
 exact ⟨by unfold nQ;rw [e,(pT (n:=nQ a*b.1.den+nQ b*a.1.den) h0).1];rfl,by rw [e,(pT (n:=nQ a*b.1.den+nQ b*a.1.den) h0).2]⟩
theorem pU (a b:QN):nQ (d9 a b)=(nQ a*nQ b) / JU (nQ a*nQ b) (a.1.den*b.1.den)/\(d9 a b).1.den=a.1.den*b.1.den / JU (nQ a*nQ b) (a.1.den*b.1.den):=by
 have h0:a.1.den*b.1.den≠0:=Xt a.1.den_nz b.1.den_nz;have e:(d9 a b).1=Rat.normalize ((nQ a*nQ b:Nat):Int) (a.1.den*b.1.den) h0:=by
  show a.1*b.1=_;rw [Rat.mul_def]
  congr 1
  rw [Zz,oR,oR]
 exact ⟨by unfold nQ;rw [e,(pT (n:=nQ a*nQ b) h0).1];rfl,by rw [e,(pT (n:=nQ a*nQ b) h0).2]⟩
theorem znp (a b:QN):eQ (j4 a b)=pl3 (nQ a) a.1.den (nQ b) b.1.den:=by
 rw [jQ,(p7 a b).1,(p7 a b).2];rfl
theorem zfQ (a b:QN):eQ (d9 a b)=ti3 (nQ a) a.1.den (nQ b) b.1.den:=by
 rw [jQ,(pU a b).1,(pU a b).2];rfl
theorem zfC (q:QN):JU (nQ q) q.1.den=1:=by
 rw [(by have:=oR q;lia:nQ q=q.1.num.natAbs)];exact q.1.reduced
theorem zkq {n d:Nat} (hd:0<d):n / JU n d*d=n*(d / JU n d):=by
 refine Ji (Nat.gcd_dvd_left n d) λx zq6=>?_;obtain ⟨y,hy⟩:=Nat.gcd_dvd_right n d;rw [(K4 (Z7 _ hd:0<JU n d) zq6:n / JU n d=x),(K4 (Z7 _ hd:0<JU n d) hy:d / JU n d=y)]
 calc x*d=x*(JU n d*y):=by rw [<-hy]
  _=(JU n d*x)*y:=by rw [<-YU,KR x]
  _=n*y:=by rw [<-zq6]
theorem zg6 (a b:QN):nQ (j4 a b)*(a.1.den*b.1.den)=(nQ a*b.1.den+nQ b*a.1.den)*(j4 a b).1.den:=by
 rw [(p7 a b).1,(p7 a b).2];exact zkq (KC a.1.den_pos b.1.den_pos)
theorem zfO (a b:QN):nQ (d9 a b)*(a.1.den*b.1.den)=(nQ a*nQ b)*(d9 a b).1.den:=by
 rw [(pU a b).1,(pU a b).2];exact zkq (KC a.1.den_pos b.1.den_pos)
theorem zb6 {q:QN}{M x:Nat} (h:nQ q*M=x*q.1.den):q.1.den ∣ M:=by
 exact (by rw [Nat.Coprime,Nat.gcd_comm];exact zfC q:Nat.Coprime q.1.den (nQ q)).dvd_of_dvd_mul_left ⟨x,by rw [h,KR]⟩
theorem zg7 {a b:QN}{M:Nat} (hM:0<M) (ha:a.1.den ∣ M) (hb:b.1.den ∣ M):(j4 a b).1.den ∣ M:=by
 obtain ⟨x,hx⟩:=ha;obtain ⟨y,hy⟩:=hb;refine zb6 (x:=nQ a*x+nQ b*y) (Nat.eq_of_mul_eq_mul_right hM ?_);have e:=zg6 a b
 generalize nQ (j4 a b)=n at*
 generalize (j4 a b).1.den=c at*
 generalize a.1.den=d at*
 generalize b.1.den=f at*
 generalize nQ a=u at*
 generalize nQ b=v at*
 calc n*M*M=n*(d*x)*(f*y):=by rw [<-hx,<-hy]
  _=(n*(d*f))*(x*y):=by ac_rfl
  _=((u*f+v*d)*c)*(x*y):=by rw [e]
  _=(u*x*(f*y)+v*y*(d*x))*c:=by simp only [ZZ];congr 1<;>ac_rfl
  _=(u*x*M+v*y*M)*c:=by rw [<-hx,<-hy]
  _=(u*x+v*y)*c*M:=by simp only [ZZ];congr 1<;>ac_rfl
theorem yW {a b:QN}{M N:Nat} (ha:a.1.den ∣ M) (hb:b.1.den ∣ N):(d9 a b).1.den ∣ M*N:=by
 obtain ⟨x,hx⟩:=ha;obtain ⟨y,hy⟩:=hb;refine zb6 (x:=nQ a*nQ b*(x*y)) ?_;have e:=zfO a b
 generalize nQ (d9 a b)=n at*
 generalize (d9 a b).1.den=c at*
 rw [hx,hy]
 calc n*(a.1.den*x*(b.1.den*y))=(n*(a.1.den*b.1.den))*(x*y):=by ac_rfl
  _=(nQ a*nQ b*c)*(x*y):=by rw [e]
  _=nQ a*nQ b*(x*y)*c:=by ac_rfl
theorem zjH {a b:QN}{k:Nat} (ha:nQ a<=k*a.1.den) (hb:nQ b<=k*b.1.den):nQ (j4 a b)<=k*2*(j4 a b).1.den:=by
 refine K5 ?_ (KC a.1.den_pos b.1.den_pos);rw [(zg6 a b)];have h3:nQ a*b.1.den+nQ b*a.1.den<=k*2*(a.1.den*b.1.den):=by
  have e1:k*2*(a.1.den*b.1.den)=k*a.1.den*b.1.den+k*b.1.den*a.1.den:=by
   rw [YU k 2,Wb,Wc];congr 1<;>ac_rfl
  rw [e1];exact QA (JG b.1.den ha) (JG a.1.den hb)
 rw [show k*2*(j4 a b).1.den*(a.1.den*b.1.den)=k*2*(a.1.den*b.1.den)*(j4 a b).1.den by ac_rfl];exact (JG (j4 a b).1.den h3)
theorem zbV {a b:QN}{k l:Nat} (ha:nQ a<=k*a.1.den) (hb:nQ b<=l*b.1.den):nQ (d9 a b)<=k*l*(d9 a b).1.den:=by
 refine K5 ?_ (KC a.1.den_pos b.1.den_pos);rw [(zfO a b)];rw [show k*l*(d9 a b).1.den*(a.1.den*b.1.den)=k*a.1.den*(l*b.1.den)*(d9 a b).1.den by ac_rfl];exact (JG (d9 a b).1.den (XA ha hb))
theorem zfR (a b c:QN):d9 a (j4 b c)=j4 (d9 a b) (d9 a c):=Subtype.ext (Rat.mul_add ..)
def kN (a b:QN):QN:=if a.1<b.1 then b else a
theorem fN {a b:QN} (h:b.1<=a.1):kN a b=a:=if_neg (Rat.not_lt.mpr h)
theorem maxQ_l' {a b:QN} (h:a.1<=b.1):kN a b=b:=by
 unfold kN;by_cases q:a.1<b.1
 ·exact if_pos q
 ·rw [if_neg q];exact Subtype.ext (Rat.le_antisymm h (Rat.not_lt.mp q))
theorem zdl (a b:QN):kN a b=kN b a:=by
 rcases Rat.le_total (a:=a.1) (b:=b.1) with h|h
 ·rw [maxQ_l' h,fN h]
 ·rw [fN h,maxQ_l' h]
theorem zaT (a b c:QN):kN (kN a b) c=kN a (kN b c):=by
 rcases Rat.le_total (a:=a.1) (b:=b.1) with h|h<;>rcases Rat.le_total (a:=b.1) (b:=c.1) with h2|h2
 ·rw [maxQ_l' h,maxQ_l' h2,maxQ_l' (Rat.le_trans h h2)]
 ·rw [maxQ_l' h,fN h2,maxQ_l' h]
 ·rw [fN h,maxQ_l' h2]
 ·rw [fN h,fN h2,fN h,fN (Rat.le_trans h2 h)]
theorem zfP (a b c:QN):d9 a (kN b c)=kN (d9 a b) (d9 a c):=by
 rcases Rat.le_total (a:=b.1) (b:=c.1) with h|h
 ·rw [maxQ_l' h,maxQ_l' (a:=d9 a b) (b:=d9 a c) (Rat.mul_le_mul_of_nonneg_left h a.2)]
 ·rw [fN h,fN (a:=d9 a b) (b:=d9 a c) (Rat.mul_le_mul_of_nonneg_left h a.2)]
theorem zmz (a b:QN):eQ (kN a b)=pl4 (nQ a) a.1.den (nQ b) b.1.den:=by
 unfold pl4;have e:a.1<b.1 ↔ nQ a*b.1.den<nQ b*a.1.den:=by
  rw [Rat.lt_iff,<-oR,<-oR]
  constructor
  ·intro h;exact Jw.mp (by rw [Zz,Zz];exact h)
  ·intro h;have:=Jw.mpr h;rw [Zz,Zz] at this;exact this
 unfold kN;by_cases h:a.1<b.1
 ·rw [if_pos h,if_pos (e.mp h),jQ]
 ·rw [if_neg h,if_neg λq=>h (e.mpr q),jQ]
theorem ziY (a b:QN):kN a b=a\/kN a b=b:=by
 rcases Rat.le_total (a:=a.1) (b:=b.1) with h|h
 ·exact .inr (maxQ_l' h)
 ·exact .inl (fN h)
theorem zi5 {h:MH}{a b c e:Int}:veq h (.tup [.int a,.int b]) (.tup [.int c,.int e])=some (a==c && b==e):=by
 show some (Zb (.tuple [.int a,.int b]) (.tuple [.int c,.int e]))=_;show some (a==c && (b==e && true))=_;rw [Yf]
theorem znH:wB<gB:=YD (by decide) (by decide)
theorem zjX {h:MH}{a b:QN}:veq h (eQ a) (eQ b)=some (@decide (a=b) (inferInstance)):=by
 unfold eQ;rw [zi5]
 congr 1
 by_cases q:a=b
 ·subst q;simp
 ·rw [decide_eq_false q,JW]
  by_cases h1:a.1.num=b.1.num
  ·refine .inr (beq_false_of_ne λh2=>q (Subtype.ext (Rat.ext h1 ?_)))
   exact Int.ofNat_inj.mp h2
  ·exact .inl (beq_false_of_ne h1)
theorem yL {d:Nat}{q:QN}{h:MH}{Q:Val->MH->Prop}{s:Val} (hd:2<=d) (h1:nQ q<wB) (h2:q.1.den<wB) (qq:Q (eQ q) h):WF P0 d 157 [s,eQ q] h Q:=by
 have hp:=q.1.den_pos;have hg:=zfC q;rw [jQ] at qq ⊢;refine bJ (K:=1) hd (some s::some (.tup [.int (nQ q),.int q.1.den])::nn 6) j3 (by kernel_rfl) λd' h'=>?_;exact run (.c4<| .c4<| .c4<| .c4<| .c3<| .f (decide_eq_false (p:=(q.1.den:Int)<1) (by lia))<| .c2<| .f (mW h1)<| .c2<| .f (mW h2)<| .c2<| .q ((λh=>(zuY h' (Q8 h1 znH) h).trans (by rw [hg];rfl): ∀h,aM (Cxd P0 d') (.top 109) [.int q.1.den,.int (nQ q)] h=some (.int 1,h)))<| .c2<| .z (qq)) (by kernel_rfl)
theorem q01:(0:Rat)<=1:=by decide
def xI:Rg where
 i:=3
 hi:=by decide
 α:=QN
 deq:=inferInstance
 e:=eQ
 zero:=⟨0,Rat.le_refl⟩
 one:=⟨1,q01⟩
 add:=j4
 mul:=d9
 D:=DQ
 add_comm:=λa b=>Subtype.ext (Rat.add_comm ..)
 add_assoc:=λa b c=>Subtype.ext (Rat.add_assoc ..)
 zero_add:=λa=>Subtype.ext (Rat.zero_add ..)
 mul_comm:=λa b=>Subtype.ext (Rat.mul_comm ..)
 mul_assoc:=λa b c=>Subtype.ext (Rat.mul_assoc ..)
 one_mul:=λa=>Subtype.ext (Rat.one_mul ..)
 zero_mul:=λa=>Subtype.ext (Rat.zero_mul ..)
 mul_add:=zfR
 noE:=rfl
 onE:=rfl
 isv:=λa=>rfl
 veq_ok:=λh a b=>zjX
 D_mono:=λ{p q k l a} hp hk ha=>⟨XT ha.d (Xu 12 hp),Qa ha.n (JG _ (YE (by decide) hk))⟩
 D_zero:=⟨YK _,Qs _⟩
 D_one:=⟨YK _,by show 1<=_;decide⟩
 D_add:=λ{p k a b} ha hb=>⟨zg7 (Wf (by decide)) ha.d hb.d,by rw [XX];exact zjH ha.n hb.n⟩
 D_mul:=λ{p q k l a b} ha hb=>⟨by rw [Ya];exact yW ha.d hb.d,by rw [Ya];exact zbV ha.n hb.n⟩
 plus_ok:=λ{p k a b} ha hb hl=>by
  show onF pl3 (eQ a) (eQ b)=_;unfold onF;rw [frQ ha hl,frQ hb hl,znp];rfl
 times_ok:=λ{p q k l a b} ha hb hl=>by
  show onF ti3 (eQ a) (eQ b)=_;unfold onF;rw [frQ ha (by lia),frQ hb (by lia),zfQ];rfl
 need_ok:=λ{p k a d h0 h Q} hd ha hl q=>a8 (f:=157) (self:=[.top 115]) rfl (yL (QC (JF hd)) (ha.bd hl).1 (ha.bd hl).2 q)
 star_ok:=λ{d h0 h Q} hd q=>a8 (f:=160) (self:=[.top 115]) rfl (b0 (K:=2) hd (λ_=>by kernel_rfl) q)
structure DL (p k:Nat) (q:QN):Prop where
 d:q.1.den ∣ 12 ^ p
 n:nQ q<=q.1.den
theorem DL.q {p k:Nat}{q:QN} (H:DL p k q):DQ p 0 q:=⟨H.d,by rw [Nat.pow_zero,JV];exact H.n⟩
theorem zdn {d:Nat}{q:QN}{h:MH}{Q:Val->MH->Prop}{s:Val} (hd:3<=d) (h1:nQ q<wB) (h2:q.1.den<wB) (h3:nQ q<=q.1.den) (qq:Q (eQ q) h):WF P0 d 161 [s,eQ q] h Q:=by
 rw [jQ] at qq ⊢;refine bJ (K:=2) hd (some s::some (.tup [.int (nQ q),.int q.1.den])::nn 6) jX (by kernel_rfl) λd' h'=>?_;have eg: ∀h,bI (Cxd P0 d') (.top 111) zfD [s,.tup [.int (nQ q),.int q.1.den]] h h=some (.tup [.int (nQ q),.int q.1.den],h):=λh=>by rw [<-jQ];exact me (f:=157) (self:=[]) rfl (yL h' h1 h2 (two _ _))
 exact run (.q (eg)<| .c3<| .f (decide_eq_false (p:=(q.1.den:Int)<nQ q) (by lia))<| .z (qq)) (by kernel_rfl)
def xG:Rg where
 i:=4
 hi:=by decide
 α:=QN
 deq:=inferInstance
 e:=eQ
 zero:=⟨0,Rat.le_refl⟩
 one:=⟨1,q01⟩
 add:=kN
 mul:=d9
 D:=DL
 add_comm:=zdl
 add_assoc:=zaT
 zero_add:=λa=>maxQ_l' a.2
 mul_comm:=λa b=>Subtype.ext (Rat.mul_comm ..)
 mul_assoc:=λa b c=>Subtype.ext (Rat.mul_assoc ..)
 one_mul:=λa=>Subtype.ext (Rat.one_mul ..)
 zero_mul:=λa=>Subtype.ext (Rat.zero_mul ..)
 mul_add:=zfP
 noE:=rfl
 onE:=rfl
 isv:=λa=>rfl
 veq_ok:=λh a b=>zjX
 D_mono:=λ{p q k l a} hp hk ha=>⟨XT ha.d (Xu 12 hp),ha.n⟩
 D_zero:=⟨YK _,Qs _⟩
 D_one:=⟨YK _,Qj 1⟩
 D_add:=λ{p k a b} ha hb=>by
  rcases ziY a b with e|e
  ·rw [e];exact ⟨ha.d,ha.n⟩
  ·rw [e];exact ⟨hb.d,hb.n⟩
 D_mul:=λ{p q k l a b} ha hb=>⟨by rw [Ya];exact yW ha.d hb.d,by
  have:=zbV (k:=1) (l:=1) (by rw [JV];exact ha.n) (by rw [JV];exact hb.n)
  simpa using this⟩
 plus_ok:=λ{p k a b} ha hb hl=>by
  show onF pl4 (eQ a) (eQ b)=_;unfold onF;rw [frQ ha.q (QV (Qa (Qf _ _) hl) _),frQ hb.q (QV (Qa (Qf _ _) hl) _),zmz];rfl
 times_ok:=λ{p q k l a b} ha hb hl=>by
  show onF ti3 (eQ a) (eQ b)=_;unfold onF;rw [frQ ha.q (by lia),frQ hb.q (by lia),zfQ];rfl
 need_ok:=λ{p k a d h0 h Q} hd ha hl q=>a8 (f:=161) (self:=[.top 116]) rfl (zdn hd (ha.q.bd (QV (Qa (Qf _ _) hl) _)).1 (ha.q.bd (QV (Qa (Qf _ _) hl) _)).2 ha.n q)
 star_ok:=λ{d h0 h Q} hd q=>a8 (f:=163) (self:=[.top 116]) rfl (b0 (K:=0) (Qa (Qn _ _) hd) (λ_=>rfl) q)
section
variable {R:Rg}{d:Nat}{h h0 g:MH}{Q:Val->MH->Prop}{m:Nat}{M:Mc R.α}{X:List (Nat×MObj)}
structure Mk (R:Rg) (h g:MH) (m:Nat) (M:Mc R.α) (X:List (Nat×MObj)):Prop where
 x: ∃L:Ly,L.m=m/\IsM R g L M/\(∀a∈own L,h.length<=a)/\∀p∈X,g[p.1]?=some p.2/\p.1∉own L
 pre: ∃t,g=h++t
theorem Mk.ob (H:Mk R h g m M X) {a:Nat}{o:MObj} (hp:(a,o)∈X):g[a]?=some o:=by
 refine H.x.elim λL zq12=>?_;exact (zq12.2.2.2 _ hp).1
theorem Mk.up (H:Mk R h g m M X) {a:Nat}{o:MObj} (e:h[a]?=some o):g[a]?=some o:=by
 refine H.pre.elim λt zq11=>?_;obtain rfl:=zq11;exact aB e
theorem Mk.to {g':MH}{L L':Ly}{M':Mc R.α}{S:List Nat} (H:Mk R h g m M X) (e1:L.m=m) (ho: ∀a∈own L,h.length<=a) (hx: ∀p∈X,g[p.1]?=some p.2/\p.1∉own L) (I':IsM R g' L' M') (em:L'.m=L.m) (K:cU g g' S) (hS: ∀a∈S,a∈own L) (hL: ∀a∈own L',a∈own L\/g.length<=a):Mk R h g' m M' X:=by
 refine H.pre.elim λt zq10=>?_;obtain rfl:=zq10;refine ⟨⟨L',by rw [em,e1],I',λa ha=>(hL a ha).elim (ho a) λq=>Qa (by rw [Qv];exact Qf _ _) q,λp hp=>?_⟩,K.pre λa ha=>ho a (hS a ha)⟩;obtain ⟨h1,h2⟩:=hx p hp;exact ⟨K.at' _ _ (λq=>h2 (hS _ q)) h1,λq=>(hL _ q).elim h2 λq=>absurd (bT h1) (Q6 q)⟩
theorem Mk.more (H:Mk R h g m M X) {t:MH}:Mk R h (g++t) m M X:=by
 refine H.x.elim λL zq8=>?_;exact H.to zq8.1 zq8.2.2.1 zq8.2.2.2 zq8.2.1.app rfl (cU.app (S:=[])) (λa ha=>absurd ha Qq) λa ha=> .inl ha
theorem IsM.own_lt {L:Ly} (I:IsM R g L M) {a:Nat} (ha:a∈own L):a<g.length:=by
 rcases QE.mp ha with rfl|ha
 ·exact bT I.obj
 rcases QE.mp ha with rfl|ha
 ·exact bT I.arcs
 rcases QE.mp ha with rfl|ha
 ·exact bT I.ends
 ·exact I.r_lt ha
theorem Mk.obj (H:Mk R h g m M X) {t:MObj}:Mk R h (g++ [t]) m M ((g.length,t)::X):=by
 refine ((H.more (t:=[t])).x).elim λL zq7=>?_;refine H.x.elim λL0 zq6=>?_;refine ⟨⟨L0,zq6.1,zq6.2.1.app,zq6.2.2.1,λp hp=>?_⟩,(H.to (L:=L0) zq6.1 zq6.2.2.1 zq6.2.2.2 (zq6.2.1.app (t:=[t])) rfl (cU.app (S:=[])) (λa ha=>absurd ha Qq) λa ha=> .inl ha).pre⟩;rcases QE.mp hp with rfl|hp
 ·exact ⟨aV,λq=>absurd (zq6.2.1.own_lt q) (Q2 _)⟩
 ·exact ⟨aB (zq6.2.2.2 p hp).1,(zq6.2.2.2 p hp).2⟩
theorem zaR (hd:1<=d) (q: ∀g,Mk R h g h.length M0 []->Q (.ref h.length) g):WV (Cxd P0 d) (.top 121) [.top (112+R.i)] h Q:=
 (zfu R hd h).elim λt e=>W.of e.1 (q _ ⟨⟨_,rfl,e.2,λa ha=>by
  simp only [own,QE,Qq,or_false] at ha;rcases ha with rfl|rfl|rfl<;>lia,λp hp=>absurd hp Qq⟩,t,rfl⟩)
theorem rB (hd:2<=d) (H:Mk R h g m M X) (hl:M.arcs.length<10000) (q: ∀g',Mk R h g' m M.more X->Q (.int M.arcs.length) g'):WM (Cxd P0 d) (.ref m) 495873782885 [] g g Q:=by
 refine H.x.elim λL zq5=>?_;obtain rfl:=zq5.1;refine a8 (b8 zq5.2.1.obj rfl rfl) (xY hd zq5.2.1 hl λg' I' K=>q g' (H.to rfl zq5.2.2.1 zq5.2.2.2 I' rfl K (λa ha=>?_) λa ha=>?_))
 ·simp only [QE,Qq,or_false] at ha
  rcases ha with rfl|rfl
  ·exact .tail _ (.head _)
  ·exact .tail _ (.tail _ (.head _))
 ·rcases qU a ha with ha|rfl
  ·exact .inl ha
  ·exact .inr (Qj _)
theorem zfV {s p k:Nat}{a:Ar R.α} (hd:4<=d) (H:Mk R h g m M X) (hs:s<M.arcs.length) (ht:a.t<M.arcs.length) (lu:lab a.up) (ll:lab a.lo) (hw:R.D p k a.w) (hl:4*p+k<=3800) (hc:M.cnt<100000)
  (q: ∀g' M',Mk R h g' m M' X->(a.w=R.zero->M'=M) ->(a.w≠R.zero->M'=M.arc s a) ->Q .none g'):WM (Cxd P0 d) (.ref m) 6386275 [.int s,.str a.up,.str a.lo,R.e a.w,.int a.t] g g Q:=by
 refine H.x.elim λL zq4=>?_;obtain rfl:=zq4.1;exact a8 (b8 zq4.2.1.obj rfl rfl) (zg0 hd zq4.2.1 hs ht lu ll hw hl hc λg' M' I' K h1 h2=>q g' M' (H.to rfl zq4.2.2.1 zq4.2.2.2 I' rfl K (λa ha=>ha) λa ha=> .inl ha) h1 h2)
theorem zfU {s p k:Nat}{w:R.α} (hd:4<=d) (H:Mk R h g m M X) (hs:s<M.arcs.length) (hw:R.D p k w) (hl:4*p+k<=3800) (q: ∀g',Mk R h g' m {M with ends:=M.ends.set s w} X->Q .none g'):WM (Cxd P0 d) (.ref m) 6647396 [.int s,R.e w] g g Q:=by
 obtain ⟨L,rfl,I,ho,hx⟩:=H.x;exact a8 (b8 I.obj rfl rfl) (zmV hd I hs hw hl λg' I' K=>q g' (H.to rfl ho hx I' rfl K (λa ha=>ha) λa ha=> .inl ha))
theorem ziW {s:Nat} (hd:4<=d) (H:Mk R h g m M X) (hs:s<M.arcs.length) (q: ∀g',Mk R h g' m {M with ends:=M.ends.set s R.one} X->Q .none g'):WM (Cxd P0 d) (.ref m) 6647396 [.int s] g g Q:=by
 refine H.x.elim λL zq2=>?_;obtain rfl:=zq2.1;exact a8 (b8 zq2.2.1.obj rfl rfl) (zjl hd zq2.2.1 hs λg' I' K=>q g' (H.to rfl zq2.2.2.1 zq2.2.2.2 I' rfl K (λa ha=>ha) λa ha=> .inl ha))
theorem y1 {s p k:Nat}{w:R.α} (hd:4<=d) (H:Mk R h g m M X) (hs:s<M.arcs.length) (hw:R.D p k w) (hl:4*p+k<=3800) (q: ∀g',Mk R h g' m {M with start:=s,first:=w} X->Q .none g'):WM (Cxd P0 d) (.ref m) 422608071022 [.int s,R.e w] g g Q:=by
 obtain ⟨L,rfl,I,ho,hx⟩:=H.x;exact a8 (b8 I.obj rfl rfl) (zO hd I hs hw hl λg' I' K=>q g' (H.to rfl ho hx I' rfl K (λa ha=>ha) λa ha=> .inl ha))
end
section
variable {R:Rg}{d:Nat}{h h0 g:MH}{Q:Val->MH->Prop}{m:Nat}{M:Mc R.α}{X:List (Nat×MObj)}
theorem IsM.setL {L:Ly}{a:Nat}{vs:List Val}{o:MObj} (I:IsM R g L M) (ha:g[a]?=some (.list vs)) (hn:a∉own L):IsM R (g.set a o) L M:=by
 have k: ∀ {b:Nat}{o':MObj},b∈own L->g[b]?=some o'->(g.set a o)[b]?=some o':=λ{b o'} hb e=>aZ (λq=>hn (q▸hb)) e;refine ⟨k (.head _) I.obj,k (.tail _ (.head _)) I.arcs,k (.tail _ (.tail _ (.head _))) I.ends,I.len,I.lenE,λi r xs hr hx=>?_,I.nd,I.lim,I.ct,I.cl,I.ds.to λr hr _ e=>k (.tail _ (.tail _ (.tail _ hr))) e⟩;refine Ji (I.rows i r xs hr hx) λas zq13=>?_;refine ⟨as,k (.tail _ (.tail _ (.tail _ (Qd hr)))) zq13.1,zq13.2.1,λj b x e1 e2=>?_⟩;have hb:=zq13.2.2 j b x e1 e2;exact aZ (λq=>by subst q;rw [ha] at hb;cases hb) hb
theorem Mk.setX {a:Nat}{vs:List Val}{o:MObj} (H:Mk R h g m M ((a,.list vs)::X)) (hX: ∀p∈X,a≠p.1) (ha:h.length<=a):Mk R h (g.set a o) m M ((a,o)::X):=by
 refine H.x.elim λL zq12=>?_;have hx:=zq12.2.2.2;obtain ⟨h1,h2⟩:=hx _ (.head _);refine H.pre.elim λt zq10=>?_;obtain rfl:=zq10;refine ⟨⟨L,zq12.1,zq12.2.1.setL h1 h2,zq12.2.2.1,λp hp=>?_⟩,⟨_,i8 ha⟩⟩;rcases QE.mp hp with rfl|hp
 ·exact ⟨bS h1,h2⟩
 ·exact ⟨aZ (hX p hp) (hx p (.tail _ hp)).1,(hx p (.tail _ hp)).2⟩
theorem Mk.lt (H:Mk R h g m M X): ∀p∈X,g.length≠p.1:=λp hp=>by
 refine H.x.elim λL zq9=>?_
 have:=bT (zq9.2.2.2 p hp).1
 exact JI this
theorem Mk.drop {p:Nat×MObj} (H:Mk R h g m M (p::X)):Mk R h g m M X:=by
 refine H.x.elim λL zq8=>?_;exact ⟨⟨L,zq8.1,zq8.2.1,zq8.2.2.1,λq hq=>zq8.2.2.2 q (.tail _ hq)⟩,H.pre⟩
theorem Mk.le (H:Mk R h g m M X):h.length<=g.length:=by
 refine H.pre.elim λt zq7=>?_;obtain rfl:=zq7;rw [Qv];exact Qf _ _
def bZ (M:Mc R.α):Nat->Mc R.α
 |0=>M
 |n+1=>(bZ M n).more
theorem uV {n:Nat}:(bZ M n).arcs.length=M.arcs.length+n:=by
 induction n with
 |zero=>rfl
 |succ n ih=>show (_++ [[]]).length=_;rw [Qv,ih];rfl
theorem ziX {n:Nat} (hd:2<=d) (H:Mk R h g m M X) (hl:M.arcs.length+n<10000): ∃v g',eval (Cxd P0 d) (.comp (.meth (.var 0) 495873782885 []) [2] false (.call (.lit (.ty 491260897125)) [.var 1]) []) (some (.ref m)::some (.int n)::nn 6) g=some (v,g')/\Mk R h g' m (bZ M n) X:=by
 refine W.get (o:=eval (Cxd P0 d) _ _ g) (Q:=λ_ g'=>Mk R h g' m (bZ M n) X) (vG ?_);have I0: ∃k,∃xs:List Val,fO g (.rng n)=some k/\xs.length<(Cxd P0 d).fuel/\∃I:Nat->MH->Prop,I 0 (g++ [.list []])/\(∀i h,I i h->cF h i k=some xs[i]?)/\
   (∀i x,xs[i]?=some x-> ∀hh,I i hh->Wo (eC (some (.ref m)::some (.int n)::nn 6) [2] false x) λfr1=>WTs (Cxd P0 d) fr1 [] hh λb h2=>Br b (WE (Cxd P0 d) fr1 (.meth (.var 0) 495873782885 []) h2 λx h3=> ∃vs,h3[g.length]?=some (.list vs)/\vs.length<lim/\I (i+1) (h3.set g.length (.list (vs++ [x])))) (I (i+1) h2))/\
   ∀hh,I xs.length hh->Mk R h hh m (bZ M n) X:=by
  refine ⟨.rg n,vY n,za0 (fC (Qi (QK (Qn _ _)) (Qa (QM hl) (Qn _ _)))),by rw [d6];show _<200000;exact Qi (QK (Qn _ _)) (Qa (QM hl) (Qn _ _)),λi hh=>i<=n/\∃vs,vs.length=i/\Mk R h hh m (bZ M i) ((g.length,.list vs)::X),⟨Qs _,[],rfl,(H.obj (t:=.list []))⟩,λi hh q=>zar q.1,λi v hv hh q=>?_,λhh q=>?_⟩
  ·obtain ⟨hi,rfl⟩:=vX hv
   refine q.2.elim λvs zq5=>?_;refine c8 (vD (zm5 ?_))
   have: ∃v g',bI (Cxd P0 d) (.ref m) 495873782885 [] hh hh=some (v,g')/\Mk R h g' m (bZ M (i+1)) ((g.length,.list vs)::X):=W.get (rB hd zq5.2 (by rw [uV];exact Qi (QT hi _) (QC hl)) λg' H2=>H2)
   refine this.elim λv zq3=>zq3.elim λg' zq4=>?_;exact bM (.p (zq4.1)<| .z ((⟨vs,zq4.2.ob (.head _),by rw [zq5.1];exact Qi hi (fC (Qi (QK (Qn _ _)) (Qa (QM hl) (Qn _ _)))),hi,_,by rw [Qv,zq5.1];rfl,zq4.2.setX H.lt H.le⟩: ∃us,g'[g.length]?=some (.list us)/\us.length<lim/\i+1<=n/\∃ws,ws.length=i+1/\Mk R h (g'.set g.length (.list (us++ [v]))) m (bZ M (i+1)) ((g.length,.list ws)::X)))) (by kernel_rfl)
  ·rw [d6] at q
   refine q.2.elim λvs zq2=>?_;exact zq2.2.drop
 exact bM (.c<| .z (I0)) (by kernel_rfl)
theorem uW {n:Nat} (hd:3<=d) (H:Mk R h g m M X) (hl:M.arcs.length+n<10000) (q: ∀v g',Mk R h g' m (bZ M n) X->Q v g'):WM (Cxd P0 d) (.ref m) 126943688418675 [.int n] g g Q:=by
 refine H.x.elim λL zq1=>?_;refine a8 (zq1.1▸b8 zq1.2.1.obj rfl rfl:dK P0 g (.ref m) 126943688418675=some (169,[.ref m])) (bJ (K:=2) hd (some (.ref m)::some (.int n)::nn 6) gG (by kernel_rfl) λd' h'=>?_);have e1:=zkk (n:=n) (d:=d') (QC (JF h')) zq1.2.1 (Qa (QC hl) (Qn _ _));rw [zq1.1] at e1;refine (ziX h' H hl).elim λv a=>a.elim λg' b=>?_;exact run (.p (e1)<| .p (b.1)<| .z (q v g' b.2)) (by kernel_rfl)
end
section
variable {d:Nat}{h h0:MH}{Q:Val->MH->Prop}
def a7 (i:Nat):List Nat:=zdw [121,101,115] [108,101,97,115,116] [99,111,117,110,116] [99,104,97,110,99,101] [108,105,107,101,108,121] i
abbrev zfE:Nat:=1851878757
theorem zt5 {i:Nat} (hi:i<5) (q:Q (.str (a7 i)) h):WA P0 (.top (112+i)) zfE h Q:=
 z7 (fR (C:=λi=>((P0.instAt (112+i)).bind λc=>lM P0 c zfE)=some (.str (a7 i))) i hi rfl rfl rfl rfl rfl) q
theorem zn9 {i:Nat} (hi:i<5) (hd:1<=d) (q:Q (.top (112+i)) h):WF P0 d 105 [.str (a7 i)] h Q:=by
 revert q
 refine fR (C:=λi=>Q (.top (112+i)) h->WF P0 d 105 [.str (a7 i)] h Q) i hi ?_ ?_ ?_ ?_ ?_<;>intro q
 ·exact b0 (K:=0) hd (λ_=>by kernel_rfl) q
 ·exact b0 (K:=0) hd (λ_=>by kernel_rfl) q
 ·exact b0 (K:=0) hd (λ_=>by kernel_rfl) q
 ·exact b0 (K:=0) hd (λ_=>by kernel_rfl) q
 ·exact b0 (K:=0) hd (λ_=>by kernel_rfl) q
def wtF (i:Nat):List Val:=zdw [.int 1,.int 1,.int 1] [.int 0,.int 1,.int 3] [.int 1,.int 1,.int 2] [.tup [.int 1,.int 4],.tup [.int 1,.int 3],.tup [.int 1,.int 2]] [.tup [.int 1,.int 2],.tup [.int 1,.int 3],.tup [.int 1,.int 1]] i
def lwn (h:MH):Nat->MH
 |0=>h
 |n+1=>lwn h n++ [MObj.list (wtF n)]
def wtD (h:MH):List (Val×Val):= [(.str (a7 0),.ref (lwn h 0).length),(.str (a7 1),.ref (lwn h 1).length),(.str (a7 2),.ref (lwn h 2).length),(.str (a7 3),.ref (lwn h 3).length),(.str (a7 4),.ref (lwn h 4).length)]
theorem ziZ (h:MH) (n:Nat):(lwn h n).length=h.length+n:=by
 induction n with
 |zero=>rfl
 |succ n ih=>exact nX.trans (congrArg (· +1) ih)
theorem zuB (h:MH) (x:MObj):lwn h 5++ [x]=h++ [.list (wtF 0),.list (wtF 1),.list (wtF 2),.list (wtF 3),.list (wtF 4),x]:=by unfold lwn lwn lwn lwn lwn lwn;simp only [Qm,ZG,KJ]
theorem zuC {i:Nat} (hi:i<5) (hd:1<=d) (q: ∀t a,h.length<=a->(h++t)[a]?=some (.list (wtF i)) ->Q (.ref a) (h++t)):WF P0 d 138 [.str (a7 i)] h Q:=by
 refine bJ (K:=0) hd (some (.str (a7 i))::nn 6) eY (by kernel_rfl) λd' h'=>?_;have e2:Q (.ref (lwn h i).length) (lwn h 5++ [.dict (some 5) (wtD h)]):=by
  rw [zuB,ziZ];exact q _ _ (Qf _ _) (iL.trans (fR (C:=λi=>([MObj.list (wtF 0),.list (wtF 1),.list (wtF 2),.list (wtF 3),.list (wtF 4),.dict (some 5) (wtD h)]:MH)[i]?=some (.list (wtF i))) i hi rfl rfl rfl rfl rfl))
 exact run (.c<| .v ((sd (ep:=some 5) (es:=wtD h) aV (fR (C:=λi=>aN (wtD h) (.str (a7 i))=true) i hi rfl rfl rfl rfl rfl) (fR (C:=λi=>a9 (wtD h) (.str (a7 i))=some (.ref (lwn h i).length)) i hi rfl rfl rfl rfl rfl):bV (lwn h 5++ [.dict (some 5) (wtD h)]) (.ref (lwn h 5).length) (.str (a7 i))=some (.ref (lwn h i).length)))<| .z (e2)) (by kernel_rfl)
end
def cell (ns:List Int) (k:Nat):Int:=ns[k]?.getD 0
theorem zuL (z:Cx) (ns:List Int) (h:MH):aM z (.bi 7103854) [.fl (ns.map .int)] h=some (.int ns.length,h):=W.eq (z1 (n:=ns.length) (by show some _=_;rw [Qe]) (two _ _))
theorem zjs {d:Nat} (hd:1<=d) {ns:List Int}{k:Nat}{i:Int} (hi:i=k) {h:MH}{Q:Val->MH->Prop} (q:Q (.int (cell ns k)) h):WF P0 d 137 [.fl (ns.map .int),.int i] h Q:=by
 subst hi;refine bJ (K:=0) hd (some (.fl (ns.map .int))::some (.int k)::nn 6) gV (by kernel_rfl) λd' h'=>?_;by_cases hk:k<ns.length
 ·have e:cell ns k=ns[k]:=by unfold cell;rw [Qc hk];rfl
  exact run (.q (zuL (Cxd P0 d') ns)<| .c<| .t (decide_eq_true (Jw.mpr hk))<| .v ((Wo.eq (znC (Q:=λa _=>a= .int (cell ns k)) (v:=.int (cell ns k)) (by rw [Qo,Qc hk,e];rfl) rfl):bV h (.fl (ns.map .int)) (.int k)=some (.int (cell ns k))))<| .z (q)) (by kernel_rfl)
 ·have e:cell ns k=0:=by
   unfold cell;rw [Jp (Q0 hk)];rfl
  rw [e] at q;exact run (.q (zuL (Cxd P0 d') ns)<| .c<| .f (decide_eq_false (λh=>hk (Jw.mp h)))<| .z (q)) (by kernel_rfl)
theorem hG (x:Int) {m:Nat} (hm:0<m): ∃n:Nat,n<m/\Kz x m=n:=by
 have g1:=Int.fmod_nonneg_of_pos x (b:=m) (by lia);have g2:=Int.fmod_lt_of_pos x (b:=m) (by lia);exact ⟨(Kz x m).toNat,by lia,by lia⟩
section
variable {R:Rg}{d:Nat}{h h0 g:MH}{Q:Val->MH->Prop}{m:Nat}{M:Mc R.α}{R':Fl->Internal.Frame->MH->Prop}{k:Nat}
structure RL (R:Rg) (ws:List R.α):Prop where
 ne:R.one≠R.zero
 len:ws.length=3
 dg: ∀w∈ws,R.D 1 1 w/\w≠R.zero
 e:wtF R.i=ws.map R.e
def los:List (List Nat):= [[97],[98],[]]
structure LmP (us:List (List Nat)) (n k:Nat) (M:Mc R.α):Prop where
 len:M.arcs.length=n
 ends: ∀e∈M.ends,R.D 1 1 e
 arc: ∀ (s:Nat) (ys:List (Ar R.α)),M.arcs[s]?=some ys-> ∀a∈ys,a.t<n/\lab a.up/\lab a.lo/\R.D 1 1 a.w/\a.w≠R.zero/\(a.emp=true->s<a.t)/\a.up∈us/\a.lo∈los
 ct:M.cnt<=k
theorem LmP.put {us:List (List Nat)}{n k s:Nat}{a:Ar R.α} (P:LmP us n k M) (hs:s<n) (ha:a.t<n/\lab a.up/\lab a.lo/\R.D 1 1 a.w/\a.w≠R.zero/\(a.emp=true->s<a.t)/\a.up∈us/\a.lo∈los):LmP us n (k+1) (M.arc s a):=by
 have hsl:s<M.arcs.length:=by rw [P.len];exact hs
 refine ⟨by show (XC _ _ _).length=_;rw [QL];exact P.len,P.ends,λs' ys hy x hx=>?_,Jq P.ct⟩;have hy:(M.arcs.set s (M.arcs[s]?.getD []++ [a]))[s']?=some ys:=hy;by_cases e:s=s'
 ·subst e
  rw [QI hsl] at hy;cases hy;rcases QU.mp hx with hx|hx
  ·rw [Qc hsl] at hx
   exact P.arc s _ (Qc hsl) x hx
  ·cases Qu.mp hx;exact ha
 ·rw [QJ e] at hy
  exact P.arc s' ys hy x hx
structure LMs (R:Rg) where
 g:MH
 M:Mc R.α
 a:Option Val:=none
 b:Option Val:=none
 c:Option Val:=none
 d:Option Val:=none
 e:Option Val:=none
 f:Option Val:=none
structure LmX (R:Rg) where
 h:MH
 ns:List Int
 o:Nat
 aU:Nat
 us:List (List Nat)
 ws:List R.α
 n:Nat
 aW:Nat
structure LmC (X:LmX R):Prop where
 Z:RL R X.ws
 hU:X.h[X.aU]?=some (.list (X.us.map .str))
 hu:X.us≠ []
 hul: ∀u∈X.us,lab u
 hn:0<X.n
 hn4:X.n<=4
def lmF (X:LmX R) (a b c d e f:Option Val):Internal.Frame:=some (.fl (X.ns.map .int))::some (.int X.o)::some (.top (112+R.i))::some (.ref X.aU)::some (.bool false)::some (.ref X.h.length)::some (.int X.n)::some (.ref X.aW)::a::b::c::d::e::f::nn 6
structure LmI (X:LmX R) (k:Nat) (s:LMs R):Prop where
 H:Mk R X.h s.g X.h.length s.M [(X.aW,.list (X.ws.map R.e))]
 P:LmP X.us X.n k s.M
abbrev lmB:List Sm:= [(Sm.asg (T1.nm 9) (Ex.call (Ex.lit (Val.top 137)) [(Ex.var 0),(Ex.bin BOp.add (Ex.bin BOp.add (Ex.var 1) (Ex.lit (Val.int 2))) (Ex.var 8))])),(Sm.asg (T1.nm 10) (Ex.bin BOp.mod (Ex.var 9) (Ex.var 6))),(Sm.asg (T1.nm 11) (Ex.bin BOp.mod (Ex.bin BOp.fdiv (Ex.var 9) (Ex.lit (Val.int 4))) (Ex.var 6))),(Sm.asg (T1.nm 12) (Ex.sub (Ex.var 3) (Ex.bin BOp.mod (Ex.bin BOp.fdiv (Ex.var 9) (Ex.lit (Val.int 16))) (Ex.call (Ex.lit (Val.bi 7103854)) [(Ex.var 3)])))),(Sm.asg (T1.nm 13) (Ex.sub (Ex.list [(Ex.lit (Val.str [97])),(Ex.lit (Val.str [98])),(Ex.lit (Val.str []))]) (Ex.bin BOp.mod (Ex.bin BOp.fdiv (Ex.var 9) (Ex.lit (Val.int 48))) (Ex.lit (Val.int 3))))),(Sm.asg (T1.nm 11) (Ex.call (Ex.lit (Val.bi 7168376)) [(Ex.var 11),(Ex.bin BOp.mul (Ex.bin BOp.add (Ex.var 10) (Ex.lit (Val.int 1))) (Ex.bop true [(Ex.cmp COp.eq (Ex.bin BOp.add (Ex.var 12) (Ex.var 13)) (Ex.lit (Val.str []))),(Ex.var 4)]))])),(Sm.ite (Ex.cmp COp.lt (Ex.var 11) (Ex.var 6)) [(Sm.expr (Ex.meth (Ex.var 5) 6386275 [(Ex.var 10),(Ex.var 12),(Ex.var 13),(Ex.sub (Ex.var 7) (Ex.bin BOp.mod (Ex.bin BOp.fdiv (Ex.var 9) (Ex.lit (Val.int 144))) (Ex.lit (Val.int 3)))),(Ex.var 11)]))] [])]
theorem lo3 {u:Nat} (h:u<3): ∃lo,([Val.str [97],.str [98],.str []]:List Val)[u]?=some (.str lo)/\lab lo/\lo∈los:=by
 rcases u with _|_|_|u
 ·exact ⟨[97],rfl,.inr ⟨97,rfl,by decide+kernel⟩,.head _⟩
 ·exact ⟨[98],rfl,.inr ⟨98,rfl,by decide+kernel⟩,.tail _ (.head _)⟩
 ·exact ⟨[],rfl,.inl rfl,.tail _ (.tail _ (.head _))⟩
 ·exact absurd h (ZV.mpr (Qn _ _))
abbrev lmT:List Sm:= [(Sm.ite (Ex.cmp COp.lt (Ex.var 11) (Ex.var 6)) [(Sm.expr (Ex.meth (Ex.var 5) 6386275 [(Ex.var 10),(Ex.var 12),(Ex.var 13),(Ex.sub (Ex.var 7) (Ex.bin BOp.mod (Ex.bin BOp.fdiv (Ex.var 9) (Ex.lit (Val.int 144))) (Ex.lit (Val.int 3)))),(Ex.var 11)]))] [])]
theorem iM (hd:1<=d) (ns:List Int) (k:Nat) (h:MH):aM (Cxd P0 d) (.top 137) [.fl (ns.map .int),.int k] h=some (.int (cell ns k),h):=fn rfl (zjs (d:=d) (k:=k) hd rfl ⟨rfl,rfl⟩)
theorem adS {a b:List Nat} (ha:a.length<=1) (hb:b.length<=1) (h:MH):gA .add (.str a) (.str b) h=some (.str (a++b),h):=W.eq (zhM (Qa (QA ha hb) (by decide)) ⟨rfl,rfl⟩)
theorem zi4 {l:List Nat} (h:lab l):l.length<=1:=h.elim (λe=>e▸Qs _) λ⟨_,e,_⟩=>e▸Qj _
theorem zuW {a b:Int}{r:Nat} (e:(if b>a then b else a)=(r:Int)) (z:Cx) (h:MH):aM z (.bi zfF) [.int a,.int b] h=some (.int r,h):=W.eq (zkK ⟨by rw [e],rfl⟩)
theorem zzx {s t:Nat}{b:Bool} (hb:b=true):(if ((s:Int)+1)*(if b=true then 1 else 0)>(t:Int) then ((s:Int)+1)*(if b=true then 1 else 0) else (t:Int))=((max t (s+1):Nat):Int):=by
 rw [if_pos hb,Int.mul_one]
 split<;>lia
theorem zzy {s t:Nat}:(if ((s:Int)+1)*(if false=true then 1 else 0)>(t:Int) then ((s:Int)+1)*(if false=true then 1 else 0) else (t:Int))=(t:Int):=by
 rw [if_neg Zn,Int.mul_zero]
 split<;>lia
section
variable {X:LmX R} (C:LmC X)
include C
theorem zk3 {g:MH}{M:Mc R.α} (H:Mk R X.h g X.h.length M [(X.aW,.list (X.ws.map R.e))]) (x:Int): ∃i:Nat,Kz x 3=i/\∃w,bV g (.ref X.aW) (.int i)=some (R.e w)/\R.D 1 1 w/\w≠R.zero:=
 (hG x (show 0<3 by decide)).elim λi q=>by
  have hi:i<X.ws.length:=by rw [C.Z.len];exact q.1
  exact ⟨i,q.2,X.ws[i],sl (H.ob (.head _)) (by rw [Qo,Qc hi];rfl),C.Z.dg _ (Jg hi)⟩
theorem zmB {sc T:Nat}{x:Int}{up lo:List Nat}{s:LMs R} (hd:5<=d) (hu:up∈X.us) (l1:lab up) (l2:lab lo/\lo∈los) (hs:sc<X.n) (hk:k<8) (hT:(up++lo== [])=true->sc<T)
  (I:LmI X k s) (q: ∀s',LmI X (k+1) s'->R' .nx (lmF X (vN k) (some (.int x)) (vN sc) (vN T) (some (.str up)) (some (.str lo))) s'.g):
  WSs (Cxd P0 d) lmT (lmF X (vN k) (some (.int x)) (vN sc) (vN T) (some (.str up)) (some (.str lo))) s.g R':=by
 cases (inferInstance:Decidable ((T:Int)<(X.n:Int))) with
 |isTrue hlt=>
  refine (zk3 C I.H (YB x 144)).elim λwi a=>a.2.elim λw b=>?_;obtain ⟨v,g,e,rfl,M',q'⟩:=W.get (zfV (d:=d) (Q:=λv g=>v= .none/\∃M',LmI X (k+1) ⟨g,M',none,none,none,none,none,none⟩) (s:=sc) (a:=⟨up,lo,w,T⟩) (Qa (by decide) hd) I.H (by rw [I.P.len];exact hs) (by rw [I.P.len];exact (Jw.mp hlt:T<X.n)) l1 l2.1 b.2.1 (by decide) (Qk I.P.ct (Q8 hk (by decide))) λg' M' H' _ e=>⟨rfl,M',H',e b.2.2▸I.P.put hs ⟨(Jw.mp hlt:T<X.n),l1,l2.1,b.2.1,b.2.2,λhe=>hT (by rw [show up= [] from (iF he).1,show lo= [] from (iF he).2];rfl),hu,l2.2⟩⟩);exact run (.c<| .t (decide_eq_true hlt)<| .c<| .q (gS a.1 (by decide))<| .v (b.1)<| .p (e)<| .z (q _ q')) (by kernel_rfl)
 |isFalse hlt=>exact run (.c<| .f (decide_eq_false hlt)<| .z (q s ⟨I.H,I.P.len,I.P.ends,I.P.arc,Jd I.P.ct⟩)) (by kernel_rfl)
theorem zj5 (x:Int): ∃i:Nat,i<X.n/\Kz x X.n=i:=hG x C.hn
theorem ziI:(X.n:Int)≠0:=λe=>absurd (Zi.mp e▸C.hn) (Q2 _)
theorem znI (x:Int): ∃i:Nat,Kz x X.us.length=i/\∃up,(X.us.map Val.str)[i]?=some (.str up)/\up∈X.us:=
 (hG x (YS.mpr C.hu)).elim λi q=>⟨i,q.2,X.us[i]'q.1,by rw [Qo,Qc q.1];rfl,Jg q.1⟩
theorem zjY:(X.us.length:Int)≠0:=λe=>absurd (Zi.mp e▸YS.mpr C.hu) (Q2 _)
theorem gUs {g:MH}{z:Cx} (e:g[X.aU]?=some (.list (X.us.map .str))):aM z (.bi lT) [.ref X.aU] g=some (.int X.us.length,g):=by rw [zdo e,Qe]
abbrev l3:MObj:= .list [.str [97],.str [98],.str []]
theorem zmC {s:LMs R} (hd:5<=d) (hk:k<8) (I:LmI X k s) (q: ∀s',LmI X (k+1) s'->R' .nx (lmF X (vN k) s'.b s'.c s'.d s'.e s'.f) s'.g):
  WSs (Cxd P0 d) lmB (lmF X (vN k) s.b s.c s.d s.e s.f) s.g R':=by
 refine (zj5 C (cell X.ns (X.o+2+k))).elim λsc a=>(zj5 C (YB (cell X.ns (X.o+2+k)) 4)).elim λtg b=>(znI C (YB (cell X.ns (X.o+2+k)) 16)).elim λui c=>c.2.elim λup cc=>(hG (YB (cell X.ns (X.o+2+k)) 48) (show 0<3 by decide)).elim λli e=>(lo3 e.1).elim λlo f=>?_;have hU:=I.H.up C.hU;have lu:=C.hul up cc.2;have I1:LmI X k {s with g:=s.g++ [l3]}:=⟨I.H.more,I.P⟩;have g3:bV (s.g++ [l3]) (.ref s.g.length) (.int li)=some (.str lo):=sl aV f.1;have tail: ∀T:Nat,((up++lo== [])=true->sc<T) ->WSs (Cxd P0 d) lmT (lmF X (vN k) (some (.int (cell X.ns (X.o+2+k)))) (vN sc) (vN T) (some (.str up)) (some (.str lo))) (s.g++ [l3]) R':=λT hT=>by
  have:=zmB (R':=R') (x:=cell X.ns (X.o+2+k)) C (s:={s with g:=s.g++ [l3]}) (T:=T) hd cc.2 lu f.2 a.1 hk hT I1
  exact this λs' I'=>q {s' with b:=some (.int (cell X.ns (X.o+2+k))),c:=vN sc,d:=vN T,e:=some (.str up),f:=some (.str lo)} ⟨I'.H,I'.P⟩
 refine dH (a:=lmB.take 6) (b:=lmT) ?_;cases he:(up++lo== []) with
 |true=>exact run (.c2<| .q (iM (Qa (by decide) hd:1<=d) X.ns (X.o+2+k))<| .q (gS a.2 (ziI C))<| .c<| .q (gS b.2 (ziI C))<| .c<| .p (gUs C (z:=Cxd P0 d) hU)<| .q (gS c.1 (zjY C))<| .v (sl hU cc.1)<| .at ((s.g++ [l3]))<| .c<| .q (gS e.2 (by decide))<| .v (g3)<| .c<| .q (adS (zi4 lu) (zi4 f.2.1))<| .k (eqs (up++lo) [])<| .t (he)<| .c<| .q (zuW (zzx (s:=sc) (t:=tg) he) (Cxd P0 d))<| .z (dC (tail (max tg (sc+1)) λ_=>Qi (QD _) (Nat.le_max_right _ _)))) (by kernel_rfl)
 |false=>exact run (.c2<| .q (iM (Qa (by decide) hd:1<=d) X.ns (X.o+2+k))<| .q (gS a.2 (ziI C))<| .c<| .q (gS b.2 (ziI C))<| .c<| .p (gUs C (z:=Cxd P0 d) hU)<| .q (gS c.1 (zjY C))<| .v (sl hU cc.1)<| .at ((s.g++ [l3]))<| .c<| .q (gS e.2 (by decide))<| .v (g3)<| .c<| .q (adS (zi4 lu) (zi4 f.2.1))<| .k (eqs (up++lo) [])<| .f (he)<| .c<| .q (zuW (zzy (s:=sc) (t:=tg)) (Cxd P0 d))<| .z (dC (tail tg λe=>absurd (e.symm.trans he) Yl))) (by kernel_rfl)
end
end
section
variable {R:Rg}{d:Nat}{h h0 g:MH}{Q:Val->MH->Prop}{m:Nat}{M:Mc R.α}{R':Fl->Internal.Frame->MH->Prop}{X:List (Nat×MObj)}
theorem Mk.addX {a:Nat}{o:MObj}{t:MH} (H:Mk R h g m M X) (ha:g.length<=a) (e:(g++t)[a]?=some o):Mk R h (g++t) m M ((a,o)::X):=by
 refine H.x.elim λL0 zq20=>?_;refine ⟨⟨L0,zq20.1,zq20.2.1.app,zq20.2.2.1,λp hp=>?_⟩,H.more.pre⟩;rcases QE.mp hp with rfl|hp
 ·exact ⟨e,λq=>absurd (zq20.2.1.own_lt q) (by show ¬a<_;exact Q6 ha)⟩
 ·exact ⟨aB (zq20.2.2.2 p hp).1,(zq20.2.2.2 p hp).2⟩
structure gN (us:List (List Nat)) (M:Mc R.α):Prop where
 g:bD M 1 1
 up:upE M
 n:M.arcs.length<=4
 c:M.cnt<=7
 us: ∀ys∈M.arcs,∀a∈ys,a.up∈us/\a.lo∈los
theorem zfS {us:List (List Nat)}{n:Nat}:LmP us n 0 (bZ (M0 (R:=R)) n):=by
 have e:(bZ (M0 (R:=R)) n).arcs=QB n []/\(bZ (M0 (R:=R)) n).ends=QB n R.zero/\(bZ (M0 (R:=R)) n).cnt=0:=by
  induction n with
  |zero=>exact ⟨rfl,rfl,rfl⟩
  |succ n ih=>
   refine ⟨?_,?_,ih.2.2⟩
   ·show _++ [[]]=_;rw [ih.1,<-J4]
   ·show _++ [R.zero]=_;rw [ih.2.1,<-J4]
 refine ⟨by rw [e.1,Q5],λx hx=>?_,λs ys hy a ha=>?_,by rw [e.2.2];exact Qj _⟩
 ·rw [e.2.1] at hx
  rw [Jm hx];exact R.D_mono (Qs _) (Qs _) R.D_zero
 ·rw [e.1] at hy
  rw [Jm (Qd hy)] at ha;exact absurd ha Qq
theorem LmP.end' {us:List (List Nat)}{n k s:Nat}{w:R.α} (P:LmP us n k M) (hw:R.D 1 1 w):LmP us n k {M with ends:=M.ends.set s w}:=⟨P.len,λe he=>(J9 he).elim (P.ends e) λq=>q▸hw,P.arc,P.ct⟩
theorem LmP.ok {us:List (List Nat)}{n k:Nat}{w:R.α} (P:LmP us n k M) (hn:0<n) (hn4:n<=4) (hk:k<=7) (hw:R.D 1 1 w):gN us {M with start:=0,first:=w}:=by
 have hc:=P.ct;have at': ∀ys∈M.arcs,∃s,M.arcs[s]?=some ys:=λys hy=>Kq.mp hy;refine ⟨⟨by show 0<M.arcs.length;rw [P.len];exact hn,λys hy a ha=>?_,hw,P.ends,by decide,by show M.arcs.length<=300;rw [P.len];exact Qa hn4 (Qn _ _),by show M.cnt<=300;exact Qa (Qa hc hk) (Qn _ _)⟩,λs ys hy a ha he=>(P.arc s ys hy a ha).2.2.2.2.2.1 he,by show M.arcs.length<=4;rw [P.len];exact hn4,by show M.cnt<=7;exact Qa hc hk,λys hy a ha=>?_⟩
 ·obtain ⟨s,hs⟩:=at' ys hy
  have zq18:=P.arc s ys hs a ha;exact ⟨by show a.t<M.arcs.length;rw [P.len];exact zq18.1,zq18.2.1,zq18.2.2.1,zq18.2.2.2.1,zq18.2.2.2.2.1⟩
 ·obtain ⟨s,hs⟩:=at' ys hy
  exact (P.arc s ys hs a ha).2.2.2.2.2.2
abbrev lmZ:List Sm:= [(Sm.expr (Ex.meth (Ex.var 5) zfo [(Ex.lit (Val.int 0)),(Ex.sub (Ex.var 7) (Ex.bin BOp.mod (Ex.call (Ex.lit (Val.top 137)) [(Ex.var 0),(Ex.bin BOp.add (Ex.var 1) (Ex.lit (Val.int 10)))]) (Ex.lit (Val.int 3))))])),(Sm.ret (Ex.var 5))]
theorem gNm (R:Rg) (h:MH):getAttr P0 h (.top (112+R.i)) zfE=some (.str (a7 R.i)):=Wo.eq (zt5 (Q:=λv _=>v=_) R.hi rfl)
theorem zuD (R:Rg) (hd:1<=d): ∃t,∃a:Nat,aM (Cxd P0 d) (.top 138) [.str (a7 R.i)] h=some (.ref a,h++t)/\h.length<=a/\(h++t)[a]?=some (.list (wtF R.i)):=by
 obtain ⟨v,g,e,t,a,rfl,rfl,q⟩:=W.get (dO (P:=P0) (d:=d) rfl (zuC (h:=h) (Q:=λv g=> ∃t a,v= .ref a/\g=h++t/\h.length<=a/\(h++t)[a]?=some (.list (wtF R.i))) R.hi hd λt a h1 h2=>⟨t,a,rfl,rfl,h1,h2⟩));exact ⟨t,a,e,q⟩
theorem zmD {us:List (List Nat)}{ws:List R.α}{n:Nat} (hd:4<=d) (Z:RL R ws) (hn:n<=4): ∃g0:MH,aM (Cxd P0 d) (.top 121) [.top (112+R.i)] h=some (.ref h.length,g0)/\∃v,∃g1:MH,bI (Cxd P0 d) (.ref h.length) 126943688418675 [.int n] g0 g0=some (v,g1)/\∃aW:Nat,∃s:LMs R,aM (Cxd P0 d) (.top 138) [.str (a7 R.i)] g1=some (.ref aW,s.g)/\Mk R h s.g h.length s.M [(aW,.list (ws.map R.e))]/\LmP us n 0 s.M:=by
 refine (W.get (zaR (h:=h) (R:=R) (d:=d) (Q:=λv g=>v= .ref h.length/\Mk R h g h.length M0 []) (Qa (by decide) hd) λg H=>⟨rfl,H⟩)).elim λv zq11=>zq11.elim λg0 zq12=>?_;obtain rfl:=zq12.2.1;have H:=zq12.2.2;refine (W.get (uW (n:=n) (d:=d) (Q:=λv g=>Mk R h g h.length (bZ (M0 (R:=R)) n) []) (Qa (by decide) hd) H (by show 0+n<10000;exact Qk (by rw [Jv];exact hn) (by decide)) λv g H=>H)).elim λv zq9=>zq9.elim λg1 zq10=>?_;refine (zuD (h:=g1) R (d:=d) (Qa (by decide) hd)).elim λt zq7=>zq7.elim λaW zq8=>?_;exact ⟨g0,zq12.1,v,g1,zq10.1,aW,⟨g1++t,_,none,none,none,none,none,none⟩,zq8.1,zq10.2.addX zq8.2.1 (Z.e▸zq8.2.2),zfS⟩
section
variable {X:LmX R} (C:LmC X)
include C
theorem zf4 {s:LMs R}{k:Nat}{a b c e f o:Option Val} (hd:5<=d) (hk:k<=7) (I:LmI X k s) (q: ∀g M,Mk R X.h g X.h.length M []->gN X.us M->Q (.ref X.h.length) g):WSs (Cxd P0 d) lmZ (lmF X a b c e f o) s.g (Internal.Fin Q):=by
 refine (zk3 C I.H (cell X.ns (X.o+10))).elim λi u=>u.2.elim λw v=>?_;refine (W.get (y1 (d:=d) (s:=0) (Q:=λv g=>v= .none/\Mk R X.h g X.h.length {s.M with start:=0,first:=w} [(X.aW,.list (X.ws.map R.e))]) (Qa (by decide) hd) I.H (by rw [I.P.len];exact C.hn) v.2.1 (by decide) λg H=>⟨rfl,H⟩)).elim λv' zq5=>zq5.elim λg5 zq6=>?_;obtain rfl:=zq6.2.1;exact run (.c<| .q (iM (d:=d) (Qa (by decide) hd) X.ns (X.o+10))<| .q (gS u.1 (by decide))<| .v (v.1)<| .p (zq6.1)<| .z (q g5 _ zq6.2.2.drop (I.P.ok C.hn C.hn4 hk v.2.1))) (by kernel_rfl)
abbrev lmE:List Sm:=(bG.drop 5).take 2
theorem zmF {s:LMs R}{k:Nat} (hd:5<=d) (hk:k<=7) (I:LmI X k s) (q: ∀g M,Mk R X.h g X.h.length M []->gN X.us M->Q (.ref X.h.length) g):WSs (Cxd P0 d) (bG.drop 5) (lmF X s.a s.b s.c s.d s.e s.f) s.g (Internal.Fin Q):=by
 have d1:1<=d:=Qa (by decide) hd;refine (zk3 C I.H (cell X.ns (X.o+9))).elim λi u=>u.2.elim λw v=>(hG (cell X.ns (X.o+9)) (show 0<2 by decide)).elim λr y=>?_;obtain ⟨v1,g4,e4,rfl,H4⟩:=W.get (zfU (d:=d) (s:=X.n-1) (Q:=λv g=>v= .none/\Mk R X.h g X.h.length {s.M with ends:=s.M.ends.set (X.n-1) w} [(X.aW,.list (X.ws.map R.e))]) (Qa (by decide) hd) I.H (by rw [I.P.len];exact YZ C.hn Yd) v.2.1 (by decide) λg H=>⟨rfl,H⟩);have I4:LmI X k {s with g:=g4,M:= {s.M with ends:=s.M.ends.set (X.n-1) w} }:=⟨H4,I.P.end' v.2.1⟩;have eN:gA .sub (.int X.n) (.int 1) s.g=some (.int (X.n-1:Nat),s.g):=by
  show some (Val.int ((X.n:Int) -1),s.g)=_;rw [show (X.n:Int) -1=((X.n-1:Nat):Int) by have:=C.hn;lia]
 refine dH (a:=lmE) (b:=lmZ) ?_;cases (inferInstance:Decidable ((r:Int)=1)) with
 |isFalse hr=>exact run (.p (eN)<| .c<| .q (iM d1 X.ns (X.o+9))<| .q (gS u.1 (by decide))<| .v (v.1)<| .p (e4)<| .c<| .q (iM d1 X.ns (X.o+9))<| .q (gS y.2 (by decide))<| .k (eqi r 1)<| .f (beq_false_of_ne hr)<| .z (dC (zf4 C (a:=s.a) (b:=s.b) (c:=s.c) (e:=s.d) (f:=s.e) (o:=s.f) hd hk I4 q))) (by kernel_rfl)
 |isTrue hr=>
  refine (W.get (ziW (d:=d) (s:=0) (Q:=λv g=>v= .none/\Mk R X.h g X.h.length {s.M with ends:=(s.M.ends.set (X.n-1) w).set 0 R.one} [(X.aW,.list (X.ws.map R.e))]) (Qa (by decide) hd) I4.H (by show 0<s.M.arcs.length;rw [I.P.len];exact C.hn) λg H=>⟨rfl,H⟩)).elim λv2 zq1=>zq1.elim λg5 zq2=>?_;obtain rfl:=zq2.2.1;have I5:LmI X k {s with g:=g5,M:= {s.M with ends:=(s.M.ends.set (X.n-1) w).set 0 R.one} }:=⟨zq2.2.2,(I.P.end' (s:=X.n-1) v.2.1).end' (s:=0) (R.D_mono (Qs _) (Qs _) R.D_one)⟩;exact run (.p (eN)<| .c<| .q (iM d1 X.ns (X.o+9))<| .q (gS u.1 (by decide))<| .v (v.1)<| .p (e4)<| .c<| .q (iM d1 X.ns (X.o+9))<| .q (gS y.2 (by decide))<| .k (eqi r 1)<| .t (beq_iff_eq.mpr hr)<| .p (zq2.1)<| .z (dC (zf4 C (a:=s.a) (b:=s.b) (c:=s.c) (e:=s.d) (f:=s.e) (o:=s.f) hd hk I5 q))) (by kernel_rfl)
abbrev lmN:Ex:= .call (.lit (.ty 491260897125)) [.bin .add (.lit (.int 2)) (.bin .mod (.call (.lit (.top 137)) [.var 0,.bin .add (.var 1) (.lit (.int 1))]) (.lit (.int 6)))]
theorem zmE {s:LMs R} (hd:5<=d) (I:LmI X 0 s): ∃k s',k<=7/\LmI X k s'/\exec (Cxd P0 d) (.fo [8] false lmN lmB) (lmF X s.a s.b s.c s.d s.e s.f) s.g=some ((.nx,lmF X s'.a s'.b s'.c s'.d s'.e s'.f),s'.g):=by
 refine (hG (cell X.ns (X.o+1)) (show 0<6 by decide)).elim λk0 y=>?_;have hk:2+k0<=7:=Ql (QP y.1) 2;refine (foR (c:=Cxd P0 d) (x:=8) (n:=2+k0) (e:=lmN) (b:=lmB) (λs:LMs R=>lmF X s.a s.b s.c s.d s.e s.f) LMs.g (λk s=>LmI X k s) s (Qa hk (by decide)) rfl (by exact bM (.c<| .q (iM (d:=d) (Qa (by decide) hd) X.ns (X.o+1))<| .q (gS y.2 (by decide))<| .c2<| .z (two (.rng (2+k0:Nat)) s.g)) (by kernel_rfl)) I λk s R1 _ hk' I1 C1=>zmC C hd (Qi hk' (Qa hk (by decide))) I1 λs' I'=>C1.nx {s' with a:=vN k} ⟨I'.H,I'.P⟩).elim λs' q=>⟨2+k0,s',hk,q⟩
end
theorem zuH {ns:List Int}{at' aU:Nat}{us:List (List Nat)}{ws:List R.α} (hd:6<=d) (Z:RL R ws) (hU:h[aU]?=some (.list (us.map .str))) (hu:us≠ []) (hul: ∀u∈us,lab u)
  (q: ∀g M,Mk R h g h.length M []->gN us M->Q (.ref h.length) g):WF P0 d 139 [.fl (ns.map .int),.int at',.top (112+R.i),.ref aU,.bool false] h Q:=by
 refine bJ (K:=5) hd (some (.fl (ns.map .int))::some (.int at')::some (.top (112+R.i))::some (.ref aU)::some (.bool false)::nn 15) bG (by kernel_rfl) λd' h'=>?_;refine (hG (cell ns at') (show 0<4 by decide)).elim λn0 y=>?_;have hn4:1+n0<=4:=Ql (QP y.1) 1;refine (zmD (d:=d') (h:=h) (us:=us) (Qa (by decide) h') Z hn4).elim λg0 a=>a.2.elim λv b=>b.elim λg1 c=>c.2.elim λaW e=>e.elim λs f=>?_;have C:LmC (⟨h,ns,at',aU,us,ws,1+n0,aW⟩:LmX R):=⟨Z,hU,hu,hul,Qi Yd (Qf _ _),hn4⟩;refine (zmE C (d:=d') (s:={s with a:=none,b:=none,c:=none,d:=none,e:=none,f:=none}) h' ⟨f.2.1,f.2.2⟩).elim λk z=>z.elim λs' w=>?_;refine dH (a:=bG.take 5) (b:=bG.drop 5) ?_;exact run (.p (a.1)<| .q (iM (d:=d') (Qa (by decide) h') ns at')<| .q (gS y.2 (by decide))<| .c<| .p (c.1)<| .w (gNm R)<| .p (f.1)<| .s (w.2.2)<| .z (dC (zmF C h' w.1 w.2.1 q))) (by kernel_rfl)
end
section
variable {R:Rg}{d:Nat}{h h0 g:MH}{Q:Val->MH->Prop}{m:Nat}{M M1:Mc R.α}{R':Fl->Internal.Frame->MH->Prop}{X:List (Nat×MObj)}{L1:Ly}
def shA (k:Nat) (a:Ar R.α):Ar R.α:= {a with t:=a.t+k}
structure Ma (N c:Nat) (A:Nat->List (Ar R.α)) (es:List R.α) (M:Mc R.α):Prop where
 len:M.arcs.length=N
 at': ∀s,s<N->aAt M s=A s
 ct:M.cnt<=c
 es:M.ends=es
 st:M.start=0
 fi:M.first=R.one
def oL (A:Nat->List (Ar R.α)) (s:Nat) (a:Ar R.α):Nat->List (Ar R.α):=λs'=>if s=s' then A s++ @ite _ (a.w=R.zero) (R.deq _ _) [] [a] else A s'
theorem Ma.put {N c s:Nat}{A:Nat->List (Ar R.α)}{es:List R.α}{a:Ar R.α}{M':Mc R.α} (H:Ma N c A es M) (hs:s<N) (h1:a.w=R.zero->M'=M) (h2:a.w≠R.zero->M'=M.arc s a):Ma N (c+1) (oL A s a) es M':=by
 by_cases hz:a.w=R.zero
 ·rw [h1 hz]
  refine ⟨H.len,λs' hs'=>?_,Jd H.ct,H.es,H.st,H.fi⟩;unfold oL;by_cases e:s=s'
  ·subst e
   rw [if_pos rfl,if_pos hz,Q7];exact H.at' s hs
  ·rw [if_neg e];exact H.at' s' hs'
 ·rw [h2 hz]
  refine ⟨by show (XC _ _ _).length=_;rw [QL];exact H.len,λs' hs'=>?_,Jq H.ct,H.es,H.st,H.fi⟩;unfold oL;show (M.arcs.set s (M.arcs[s]?.getD []++ [a]))[s']?.getD []=_;by_cases e:s=s'
  ·subst e
   rw [QI (by rw [H.len];exact hs:s<M.arcs.length),if_pos rfl,if_neg hz,<-H.at' s hs];rfl
  ·rw [QJ e,if_neg e];exact H.at' s' hs'
def fG (A:Nat->List (Ar R.α)) (M1:Mc R.α) (k i j:Nat):Nat->List (Ar R.α):=λs=>A s++if k<=s then (lP M1 i j (s-k)).map (shA k) else []
theorem zdT {A:Nat->List (Ar R.α)}{k:Nat}:fG A M1 k 0 0=A:=funext λs=>by
 unfold fG;have e:lP M1 0 0 (s-k)= []:=by
  unfold lP;rw [if_neg (QX _)];by_cases h:s-k=0
  ·rw [if_pos h];rfl
  ·rw [if_neg h]
 rw [e];by_cases h:k<=s
 ·rw [if_pos h];exact Q7 _
 ·rw [if_neg h];exact Q7 _
theorem zdW {A:Nat->List (Ar R.α)}{k i:Nat}:fG A M1 k i (aAt M1 i).length=fG A M1 k (i+1) 0:=funext λs=>by
 unfold fG
 congr 2
 congr 1
 unfold lP;by_cases h1:s-k<i
 ·rw [if_pos h1,if_pos (Q4 h1)]
 ·rw [if_neg h1]
  by_cases h2:s-k=i
  ·rw [if_pos h2,if_pos (QK (Qt h2)),h2,QR]
  ·rw [if_neg h2,if_neg (Q6 (QM (Jh (Q0 h1) (JE h2))))]
   by_cases h3:s-k=i+1
   ·rw [if_pos h3];rfl
   ·rw [if_neg h3]
theorem zdU {A:Nat->List (Ar R.α)}{k i j:Nat}{a:Ar R.α} (ha:(aAt M1 i)[j]?=some a) (hz:a.w≠R.zero):fG A M1 k i (j+1)=oL (fG A M1 k i j) (i+k) (shA k a):=funext λs=>by
 have hz': ¬(shA k a).w=R.zero:=hz;unfold oL;by_cases e:i+k=s
 ·subst e
  rw [if_pos rfl,if_neg hz'];unfold fG;rw [if_pos (Qn _ _),if_pos (Qn _ _),Nat.add_sub_cancel,nO,nO,vI ha,Qy,Qm];rfl
 ·rw [if_neg e]
  unfold fG;by_cases hk:k<=s
  ·rw [if_pos hk,if_pos hk]
   congr 2
   unfold lP;by_cases h1:s-k<i
   ·rw [if_pos h1,if_pos h1]
   ·rw [if_neg h1,if_neg h1,if_neg (by lia),if_neg (by lia)]
  ·rw [if_neg hk,if_neg hk]
structure ATs (R:Rg) where
 g:MH
 M:Mc R.α
 a:Option Val:=none
 b:Option Val:=none
structure ATp (R:Rg) (h:MH) (m:Nat) (X:List (Nat×MObj)) (N c:Nat) (A:Nat->List (Ar R.α)) (es:List R.α) (s:ATs R):Prop where
 H:Mk R h s.g m s.M X
 P:Ma N c A es s.M
def atF (m m1 k:Nat) (a b:Option Val):Internal.Frame:=some (.ref m)::some (.ref m1)::some (.int k)::a::b::nn 6
abbrev atA:List Sm:= [.expr (.meth (.var 0) 6386275 [.bin .add (.var 3) (.var 2),.attr (.var 4) nq7,.attr (.var 4) nq8,.attr (.var 4) nq9,.bin .add (.attr (.var 4) kM) (.var 2)])]
theorem mkA {p q0 s N c:Nat}{A:Nat->List (Ar R.α)}{es:List R.α}{a:Ar R.α}{s0:ATs R} (hd:4<=d) (S:ATp R h m X N c A es s0) (hs:s<N) (ht:a.t<N) (lu:lab a.up) (ll:lab a.lo) (hw:R.D p q0 a.w) (hl:4*p+q0<=3800) (hc:c<100000):
  ∃s':ATs R,bI (Cxd P0 d) (.ref m) zga [.int s,.str a.up,.str a.lo,R.e a.w,.int a.t] s0.g s0.g=some (.none,s'.g)/\ATp R h m X N (c+1) (oL A s a) es s':=by
 refine (W.get (zfV (Q:=λv g=>v= .none/\∃M',ATp R h m X N (c+1) (oL A s a) es ⟨g,M',none,none⟩) hd S.H (by rw [S.P.len];exact hs) (by rw [S.P.len];exact ht) lu ll hw hl (Qk S.P.ct hc) λg' M' H' h1 h2=>⟨rfl,M',H',S.P.put hs h1 h2⟩)).elim λv zq1=>zq1.elim λg zq2=>?_;obtain rfl:=zq2.2.1;refine zq2.2.2.elim λM' zq3=>?_;exact ⟨_,zq2.1,zq3⟩
theorem Mk.im {L:Ly}{M1:Mc R.α} (H:Mk R h g m M X) (I:IsM R h L M1):IsM R g L M1:=by obtain ⟨t,rfl⟩:=H.pre;exact I.app
theorem zm9 {p q0 k i j b N c:Nat}{A:Nat->List (Ar R.α)}{es:List R.α}{a:Ar R.α}{s:ATs R} (hd:5<=d) (hb:h[b]?=some (cS R a)) (ga:a.t+k<N/\lab a.up/\lab a.lo/\R.D p q0 a.w/\a.w≠R.zero) (hl:4*p+q0<=3800) (hi:i+k<N) (hc:c<100000) (ha:(aAt M1 i)[j]?=some a) (S:ATp R h m X N c (fG A M1 k i j) es s)
  (q: ∀s',ATp R h m X N (c+1) (fG A M1 k i (j+1)) es s'->R' .nx (atF m L1.m k (vN i) s'.b) s'.g):WSs (Cxd P0 d) atA (atF m L1.m k (vN i) (vR b)) s.g R':=by
 have hB:=S.H.up hb;refine (mkA (d:=d) (a:=shA k a) (Qa (by decide) hd) S hi ga.1 ga.2.1 ga.2.2.1 ga.2.2.2.1 hl hc).elim λs' e=>?_;have N:ATp R h m X N (c+1) (fG A M1 k i (j+1)) es {s' with b:=vR b}:=by rw [zdU ha ga.2.2.2.2];exact ⟨e.2.H,e.2.P⟩
 exact run (.c<| .v (gUp hB)<| .v (gLo hB)<| .v (gWt hB)<| .v (gTg hB)<| .c<| .p (e.1)<| .z (q _ N)) (by kernel_rfl)
end
section
variable {R:Rg}{d:Nat}{h h0 g:MH}{Q:Val->MH->Prop}{m:Nat}{M M1:Mc R.α}{R':Fl->Internal.Frame->MH->Prop}{X:List (Nat×MObj)}{L1:Ly}
theorem zna {p q0 k i N c:Nat}{A:Nat->List (Ar R.α)}{es:List R.α}{s:ATs R} (hd:5<=d) (I:IsM R h L1 M1) (G:bD M1 p q0) (hi:i<M1.arcs.length) (hN:M1.arcs.length+k<=N) (hc:c+(aAt M1 i).length<100000) (S:ATp R h m X N c (fG A M1 k i 0) es s):
  ∃s',ATp R h m X N (c+(aAt M1 i).length) (fG A M1 k (i+1) 0) es s'/\exec (Cxd P0 d) (.fo [4] false (.sub (.attr (.var 1) aQ) (.var 3)) atA) (atF m L1.m k (vN i) s.b) s.g=some ((.nx,atF m L1.m k (vN i) s'.b),s'.g):=by
 refine (I.rowR hi).elim λr zq12=>zq12.elim λas zq13=>?_;have hr:=zq13.1;have J:=S.H.im I;refine (foL (c:=Cxd P0 d) (tg:=[4]) (many:=false) (a:=r) (e:=.sub (.attr (.var 1) aQ) (.var 3)) (b:=atA) (vs:=as.map .ref) (λs':ATs R=>atF m L1.m k (vN i) s'.b) ATs.g (λj s'=>ATp R h m X N (c+j) (fG A M1 k i j) es s') s (zq13.2.1.le I zq13.2.2) rfl (λj s' S2=>S2.H.up zq13.2.1.l) (by exact bM (.v (dM J)<| .v (sl J.arcs hr)<| .z (two (.ref r) s.g)) (by kernel_rfl)) S λj v s' R1 _ hv S2 C2=>?_).elim λs' e=>⟨s',by rw [<-zdW];exact zq13.2.1.n▸e.1,e.2⟩;refine (zq13.2.1.a j v hv).elim λb zq10=>zq10.elim λx zq11=>?_;obtain rfl:=zq11.1;exact c8 (zm9 hd zq11.2.2 ⟨Qi (KB (G.arc _ zq13.2.2 x (Qd zq11.2.1)).1 k) hN,(G.arc _ zq13.2.2 x (Qd zq11.2.1)).2⟩ G.bd (Qi (KB hi k) hN) (Qk (Ql (QC (aH zq11.2.1)) c) hc) zq11.2.1 S2 C2.nx)
theorem zdS {p q0 k N c:Nat}{A:Nat->List (Ar R.α)}{es:List R.α}{s:ATs R} (hd:6<=d) (I:IsM R h L1 M1) (G:bD M1 p q0) (S:ATp R h m X N c A es s) (hN:M1.arcs.length+k<=N) (hc:c+M1.cnt<100000):
  ∃s':ATs R,aM (Cxd P0 d) (.top 122) [.ref m,.ref L1.m,.int k] s.g=some (.none,s'.g)/\ATp R h m X N (c+M1.cnt) (fG A M1 k M1.arcs.length 0) es s':=by
 have w:WF P0 d 122 [.ref m,.ref L1.m,.int k] s.g λv g=>v= .none/\∃s':ATs R,g=s'.g/\ATp R h m X N (c+M1.cnt) (fG A M1 k M1.arcs.length 0) es s':=by
  refine bJ (K:=5) hd (some (.ref m)::some (.ref L1.m)::some (.int k)::nn 8) gE (by kernel_rfl) λd' h'=>?_;refine (foR (c:=Cxd P0 d') (x:=3) (n:=M1.arcs.length) (e:=.call (.lit (.ty 491260897125)) [.meth (.var 1) jG []]) (b:=[.fo [4] false (.sub (.attr (.var 1) aQ) (.var 3)) atA]) (λs:ATs R=>atF m L1.m k s.a s.b) ATs.g (λi s=>ATp R h m X N (c+dP M1 i) (fG A M1 k i 0) es s) ⟨s.g,s.M,none,none⟩ (wC I) rfl (by exact bM (.p (eP (Qa (by decide) h') (S.H.im I))<| .c<| .z (two (.rng M1.arcs.length) s.g)) (by kernel_rfl)) (by rw [zdT];exact ⟨S.H,S.P⟩) λi s R1 _ hi S1 C1=>?_).elim λs' e=>?_
  ·refine (zna (d:=d') h' I G hi hN (Qk (by rw [Q1,<-(jS (M:=M1) hi)];exact Ql (nC I _) c) hc) S1).elim λs' e=>?_
   have N':ATp R h m X N (c+dP M1 (i+1)) (fG A M1 k (i+1) 0) es {s' with a:=vN i}:=by rw [(jS (M:=M1) hi),<-Q1];exact ⟨e.1.H,e.1.P⟩
   exact run (.s (e.2)<| .z (C1.nx _ N')) (by kernel_rfl)
  ·exact run (.s (e.2)<| .z ((show Val.none= .none/\∃s2:ATs R,s'.g=s2.g/\ATp R h m X N (c+M1.cnt) (fG A M1 k M1.arcs.length 0) es s2 from ⟨rfl,s',rfl,((by unfold dP;rw [QR,I.ct]:dP M1 M1.arcs.length=M1.cnt)▸e.1:ATp R h m X N (c+M1.cnt) (fG A M1 k M1.arcs.length 0) es s')⟩))) (by kernel_rfl)
 refine (W.get (dO (P:=P0) rfl w)).elim λv zq7=>zq7.elim λg zq8=>?_;obtain rfl:=zq8.2.1;refine zq8.2.2.elim λs' zq9=>?_;obtain rfl:=zq9.1;exact ⟨s',zq8.1,zq9.2⟩
theorem zaQ {n:Nat}:bZ M.more n=bZ M (n+1):=by
 induction n with
 |zero=>rfl
 |succ n ih=>show (bZ M.more n).more=_;rw [ih];rfl
theorem y0 {n:Nat}:Ma n 0 (λ_=> []) (QB n R.zero) (bZ (M0 (R:=R)) n):=by
 have e:(bZ (M0 (R:=R)) n).arcs=QB n []/\(bZ (M0 (R:=R)) n).ends=QB n R.zero/\(bZ (M0 (R:=R)) n).cnt=0/\(bZ (M0 (R:=R)) n).start=0/\(bZ (M0 (R:=R)) n).first=R.one:=by
  induction n with
  |zero=>exact ⟨rfl,rfl,rfl,rfl,rfl⟩
  |succ n ih=>
   refine ⟨?_,?_,ih.2.2.1,ih.2.2.2.1,ih.2.2.2.2⟩
   ·show _++ [[]]=_;rw [ih.1,<-J4]
   ·show _++ [R.zero]=_;rw [ih.2.1,<-J4]
 refine ⟨by rw [e.1,Q5],λs hs=>?_,Qt e.2.2.1,e.2.1,e.2.2.2.1,e.2.2.2.2⟩;unfold aAt;rw [e.1,JJ,if_pos hs];rfl
theorem zt2 (R:Rg) (h:MH) (hd:4<=d): ∃g0:MH,aM (Cxd P0 d) (.top 121) [.top (112+R.i)] h=some (.ref h.length,g0)/\∃g1:MH,bI (Cxd P0 d) (.ref h.length) fD [] g0 g0=some (.int 0,g1)/\Mk R h g1 h.length (M0.more (R:=R)) []:=by
 refine (W.get (zaR (h:=h) (R:=R) (d:=d) (Q:=λv g=>v= .ref h.length/\Mk R h g h.length M0 []) (Qa (by decide) hd) λg H=>⟨rfl,H⟩)).elim λv zq5=>zq5.elim λg0 zq6=>?_;obtain rfl:=zq6.2.1;have H:=zq6.2.2;refine (W.get (rB (d:=d) (Q:=λv g=>v= .int 0/\Mk R h g h.length (M0.more (R:=R)) []) (Qa (by decide) hd) H (by show 0<10000;decide) λg H=>⟨rfl,H⟩)).elim λv zq3=>zq3.elim λg1 zq4=>?_;obtain rfl:=zq4.2.1;exact ⟨g0,zq6.1,g1,zq4.1,zq4.2.2⟩
theorem zlO {n:Nat} (hd:4<=d) (hn:1+n<10000) (H:Mk R h g h.length (M0.more (R:=R)) []): ∃s:ATs R,(∃v,bI (Cxd P0 d) (.ref h.length) 126943688418675 [.int n] g g=some (v,s.g))/\ATp R h h.length [] (1+n) 0 (λ_=> []) (QB (1+n) R.zero) s:=by
 refine (W.get (uW (n:=n) (d:=d) (Q:=λv g=>Mk R h g h.length (bZ (M0.more (R:=R)) n) []) (Qa (by decide) hd) H hn λv g H=>H)).elim λv zq1=>zq1.elim λg2 zq2=>?_;have H2:=zq2.2;rw [zaQ,J6 n 1] at H2;exact ⟨⟨g2,_,none,none⟩,⟨v,zq2.1⟩,H2,y0⟩
def emA (w:R.α) (t:Nat):Ar R.α:=⟨[],[],w,t⟩
end
section
variable {R:Rg}{M M1 M2:Mc R.α}{u l:List Nat}
def bX:Nat->(Nat->R.α) ->R.α
 |0,_=>R.zero
 |n+1,f=>R.add (bX n f) (f n)
theorem bC {n:Nat}{f g:Nat->R.α} (h: ∀i,i<n->f i=g i):bX n f=bX n g:=by
 induction n with
 |zero=>rfl
 |succ n ih=>show R.add _ _=R.add _ _;rw [ih λi hi=>h i (Q4 hi),h n (QD n)]
theorem zvj (a b c d:R.α):R.add (R.add a b) (R.add c d)=R.add (R.add a c) (R.add b d):=by rw [R.add_assoc,R.add_assoc,R.swap b]
theorem zex {n:Nat}{f g:Nat->R.α}:bX n (λi=>R.add (f i) (g i))=R.add (bX n f) (bX n g):=by
 induction n with
 |zero=>exact (R.zero_add _).symm
 |succ n ih=>show R.add _ _=R.add (R.add _ _) (R.add _ _);rw [ih,zvj]
theorem zew {n:Nat}{f:Nat->R.α}{c:R.α}:bX n (λi=>R.mul c (f i))=R.mul c (bX n f):=by
 induction n with
 |zero=>exact (R.mul_zero c).symm
 |succ n ih=>show R.add _ _=R.mul c (R.add _ _);rw [ih,R.mul_add]
theorem cV {n:Nat}{f:Nat->R.α} (h: ∀i,i<n->f i=R.zero):bX n f=R.zero:=by
 induction n with
 |zero=>rfl
 |succ n ih=>show R.add _ _=_;rw [ih λi hi=>h i (Q4 hi),h n (QD n),R.zero_add]
theorem qF {n i:Nat}{f:Nat->R.α} (hi:i<n) (h: ∀k,k<n->k≠i->f k=R.zero):bX n f=f i:=by
 induction n with
 |zero=>exact absurd hi (QX _)
 |succ n ih=>
  show R.add (bX n f) (f n)=_;by_cases e:i=n
  ·subst e
   rw [cV λk hk=>h k (Q4 hk) (Zd hk),R.zero_add]
  ·rw [ih (Jh (QP hi) e) λk hk=>h k (Q4 hk),h n (QD n) (JE e),R.add_zero]
theorem qG {β:Type}{xs:List β}{f g:β->R.α}:a6 (xs.map λx=>R.add (f x) (g x))=R.add (a6 (xs.map f)) (a6 (xs.map g)):=by
 induction xs with
 |nil=>exact (R.zero_add _).symm
 |cons x xs ih=>rw [Qz,Qz,Qz,aC,aC,aC,ih,zvj]
theorem cD {β:Type}{xs:List β}{f:β->R.α} (h: ∀x∈xs,f x=R.zero):a6 (xs.map f)=R.zero:=by
 induction xs with
 |nil=>rfl
 |cons x xs ih=>rw [Qz,aC,h x (.head _),ih λy hy=>h y (.tail _ hy),R.zero_add]
theorem uM {β:Type}{xs:List β}{n:Nat}{f:β->Nat->R.α}:bX n (λi=>a6 (xs.map λx=>f x i))=a6 (xs.map λx=>bX n (f x)):=by
 induction n with
 |zero=>exact (cD λx _=>rfl).symm
 |succ n ih=>show R.add (bX n _) _=_;rw [ih,<-qG];rfl
theorem zcz {β:Type}{xs:List β}{f:β->R.α}{c:R.α}:R.mul (a6 (xs.map f)) c=a6 (xs.map λx=>R.mul (f x) c):=by
 induction xs with
 |nil=>exact R.zero_mul c
 |cons x xs ih=>rw [Qz,Qz,aC,aC,R.add_mul,ih]
theorem jO {i c:Nat}:fit u i [c]=true ↔ u[i]?=some c:=by
 unfold fit cut;rw [show (([c]:List Nat)== [])=false from rfl,YV,beq_iff_eq];by_cases h:i<u.length
 ·rw [ZL (QC h),ZL h,JD,List.drop_append_of_le_length (by rw [JN];exact Yv (Qj _) (QC h)),Kl (by rw [JN];exact Z9 _ _),Qc h,KJ]
  exact ⟨λe=>by injection e with e;rw [e],λe=>by cases e;rfl⟩
 ·rw [Kt (Q0 h),Kt (Nat.le_add_right_of_le (Q0 h)),QR,Zc,Jp (Q0 h)]
  exact ⟨(λe=>nomatch e),(λe=>nomatch e)⟩
theorem zL {a b:Bool} (h:a=true ↔ b=true):a=b:=by
 cases a<;>cases b<;>simp_all
theorem rT {a i:Nat}{s:List Nat} (hs:lab s):fit (u.drop a) i s=fit u (a+i) s:=by
 rcases hs with rfl| ⟨c,rfl,_⟩
 ·rfl
 ·exact zL (by rw [jO,jO,List.getElem?_drop])
theorem zjQ (H:j5 M) {a b:Nat} (ha:a<=u.length) (hb:b<=l.length): ∀ {f i j s:Nat},BH M (u.drop a) (l.drop b) f i j s=BH M u l f (a+i) (b+j) s:=by
 intro f
 induction f with
 |zero=>exact λ{i j s} =>rfl
 |succ f ih=>
  intro i j s;show R.add _ (cH (BH M (u.drop a) (l.drop b) f) (u.drop a) (l.drop b) i j (aAt M s))=R.add _ (cH (BH M u l f) u l (a+i) (b+j) (aAt M s))
  congr 1
  ·rw [Za,Za]
   by_cases h:i=u.length-a/\j=l.length-b
   ·rw [if_pos h,if_pos (by lia)]
   ·rw [if_neg h,if_neg (by lia)]
  ·refine bL λx hx=>?_
   refine (d0 hx).elim λys zq3=>?_;unfold bW;rw [rT (H.l ys zq3.2.1 x zq3.2.2).1,rT (H.l ys zq3.2.1 x zq3.2.2).2,ih,Q1,Q1]
theorem p8 {M:Mc R.α}{s:Nat}{a:Ar R.α} (h:a∈aAt M s): ∃ys∈M.arcs,M.arcs[s]?=some ys/\a∈ys:=by
 refine (d0 h).elim λys zq1=>?_;exact ⟨ys,zq1.2.1,zq1.1,zq1.2.2⟩
end
section
variable {R:Rg}{d:Nat}{h h0 g:MH}{Q:Val->MH->Prop}{m:Nat}{M M1:Mc R.α}{L L1:Ly}{X:List (Nat×MObj)}
abbrev zf9:Nat:=1668247673
theorem mkS {n:Nat} (hd:2<=d) (H:Mk R h g m (bZ M0 n) X) (hn:n<10000): ∃v g',bI (Cxd P0 d) (.ref m) fD [] g g=some (v,g')/\Mk R h g' m (bZ M0 (n+1)) X:=
 W.get (o:=bI (Cxd P0 d) (.ref m) fD [] g g) (Q:=λ_ g'=>Mk R h g' m (bZ M0 (n+1)) X) (rB hd H (by rw [uV];show 0+n<_;rw [Jv];exact hn) λg' H'=>H')
abbrev cpF (L:Ly) (h:MH) (a:Option Val):Internal.Frame:=some (.ref L.m)::some (.ref h.length)::a::nn 6
theorem zva (hd:3<=d) (I:IsM R h L M) (H:Mk R h g h.length (M0 (R:=R)) []): ∃s:ATs R,Mk R h s.g h.length (bZ (M0 (R:=R)) M.arcs.length) []/\exec (Cxd P0 d) (.fo [2] false (.call (.lit (.ty 491260897125)) [.call (.lit (.bi 7103854)) [.attr (.var 0) aQ]]) [.expr (.meth (.var 1) fD [])]) (cpF L h none) g=some ((.nx,cpF L h s.a),s.g):=
 foR (c:=Cxd P0 d) (x:=2) (n:=M.arcs.length) (e:=.call (.lit (.ty 491260897125)) [.call (.lit (.bi 7103854)) [.attr (.var 0) aQ]]) (b:=[.expr (.meth (.var 1) fD [])]) (λs:ATs R=>cpF L h s.a) ATs.g (λk s=>Mk R h s.g h.length (bZ (M0 (R:=R)) k) []) ⟨g,M0,none,none⟩ (wC I) rfl (by exact bM (.v (dM (H.im I))<| .p (zds (H.im I) d)<| .c<| .z (two (.rng M.arcs.length) g)) (by kernel_rfl)) H λk s R1 _ hk S C=>
  (mkS (d:=d) (Qa (by decide) hd) S (Qi hk I.lim)).elim λv a=>a.elim λg' b=>by exact run (.p (b.1)<| .z (C.nx ⟨g',M0,vN k,none⟩ b.2)) (by kernel_rfl)
theorem ziV {s:Nat}{w:R.α} (H:Mk R h g m M X) (hs:s<M.arcs.length): ∃aE g',getAttr P0 g (.ref m) cQ=some (.ref aE)/\dI g (.ref aE) (.int s) (R.e w)=some g'/\Mk R h g' m {M with ends:=M.ends.set s w} X:=by
 obtain ⟨L,rfl,I,ho,hx⟩:=H.x;obtain ⟨g',e,I',K⟩:=pQ w I hs;exact ⟨L.aE,g',lG I,e,H.to rfl ho hx I' rfl K (λa ha=>ha) λa ha=> .inl ha⟩
theorem Ma.setE {N c s:Nat}{A:Nat->List (Ar R.α)}{es:List R.α}{w:R.α} (H:Ma N c A es M):Ma N c A (es.set s w) {M with ends:=M.ends.set s w}:=⟨H.len,H.at',H.ct,by show M.ends.set s w=_;rw [H.es],H.st,H.fi⟩
theorem eD {p q0 k:Nat} (G:bD M p q0) (hk:k<M.ends.length):R.D p q0 (eAt M k)/\(M.ends.map R.e)[k]?=some (R.e (eAt M k)):=by
 have e:eAt M k=M.ends[k]:=by unfold eAt;rw [Qc hk];rfl
 rw [e];exact ⟨G.ed _ (Jg hk),by rw [Qo,Qc hk];rfl⟩
def esK (M:Mc R.α) (n k:Nat):List R.α:=(QS n).map λi=>if i<k then eAt M i else R.zero
theorem wO {n k i:Nat}:(esK M n k)[i]?=if i<n then some (if i<k then eAt M i else R.zero) else none:=by
 unfold esK;rw [Qo];by_cases h:i<n
 ·rw [Jy h,if_pos h];rfl
 ·rw [Jp (by rw [QZ];exact Q0 h),if_neg h];rfl
theorem zji {n k:Nat} (hk:k<n):(esK M n k).set k (eAt M k)=esK M n (k+1):=by
 refine ZU λi=>?_;rw [wO];by_cases e:k=i
 ·subst e
  rw [QI (by unfold esK;rw [Qe,QZ];exact hk),if_pos hk,if_pos (QD _)]
 ·rw [QJ e,wO]
  congr 2
  by_cases h:i<k
  ·rw [if_pos h,if_pos (Q4 h)]
  ·rw [if_neg h,if_neg (Q6 (QM (Jh (Q0 h) e)))]
theorem zgx {n:Nat}:QB n R.zero=esK M n 0:=by
 refine ZU λi=>?_;rw [wO,JJ];rfl
theorem zjj (I:IsM R h L M):esK M M.arcs.length M.arcs.length=M.ends:=by
 refine ZU λi=>?_;rw [wO,<-I.lenE];by_cases h:i<M.ends.length
 ·rw [if_pos h,if_pos h];unfold eAt;rw [Qc h];rfl
 ·rw [if_neg h,Jp (Q0 h)]
theorem zu9 {p q0 n c:Nat}{A:Nat->List (Ar R.α)}{s:ATs R} (hd:3<=d) (I:IsM R h L M) (G:bD M p q0) (hn:n=M.arcs.length) (S:ATp R h h.length [] n c A (esK M n 0) s): ∃s',ATp R h h.length [] n c A (esK M n n) s'/\exec (Cxd P0 d) (.fo [2] false (.call (.lit (.ty 491260897125)) [.call (.lit (.bi 7103854)) [.attr (.var 0) cQ]]) [.asg (.sb (.attr (.var 1) cQ) (.var 2)) (.sub (.attr (.var 0) cQ) (.var 2))]) (cpF L h s.a) s.g=some ((.nx,cpF L h s'.a),s'.g):=
 foR (c:=Cxd P0 d) (x:=2) (n:=n) (e:=.call (.lit (.ty 491260897125)) [.call (.lit (.bi 7103854)) [.attr (.var 0) cQ]]) (b:=[.asg (.sb (.attr (.var 1) cQ) (.var 2)) (.sub (.attr (.var 0) cQ) (.var 2))]) (λs:ATs R=>cpF L h s.a) ATs.g (λk s=>ATp R h h.length [] n c A (esK M n k) s) s (hn▸wC I) rfl (by
  have e:((M.ends.map R.e).length:Int)=n:=by rw [Qe,I.lenE,hn]
  exact bM (.v (lG (S.H.im I))<| .p (zdo (z:=Cxd P0 d) (S.H.im I).ends)<| .c<| .z ((show Val.rng ((M.ends.map R.e).length:Int)= .rng n/\s.g=s.g from ⟨congrArg Val.rng e,rfl⟩))) (by kernel_rfl)) S λk s R1 _ hk S C=>by
  have hk':k<M.arcs.length:=hn▸hk;have J:=S.H.im I;obtain ⟨_,e1⟩:=eD G (k:=k) (I.lenE▸hk');refine (ziV (s:=k) (w:=eAt M k) S.H (by rw [S.P.len];exact hk)).elim λaE a=>a.elim λg' b=>?_;have N:ATp R h h.length [] n c A (esK M n (k+1)) ⟨g',{s.M with ends:=s.M.ends.set k (eAt M k)},vN k,none⟩:=⟨b.2.2,zji hk▸S.P.setE⟩;exact run (.v (lG J)<| .v (sl J.ends e1)<| .v (b.1)<| .h (b.2.1)<| .z (C.nx _ N)) (by kernel_rfl)
theorem zdV (I:IsM R h L M) {s:Nat} (hs:s<M.arcs.length):fG (λ_=> []) M 0 M.arcs.length 0 s=aAt M s:=by
 unfold fG lP;rw [if_pos (Qs _),Yr,if_pos hs];exact (Ja λa _=>rfl).trans (List.map_id _)
theorem zgY {A B:List (List (Ar R.α))} (hl:A.length=B.length) (h: ∀s,s<A.length->A[s]?.getD []=B[s]?.getD []):A=B:=by
 refine List.ext_getElem hl λi h1 h2=>?_
 have:=h i h1
 rwa [Qc h1,Qc h2] at this
theorem zb7 {p q0:Nat} (hd:8<=d) (I:IsM R h L M) (G:bD M p q0): ∃g,bI (Cxd P0 d) (.ref L.m) zf9 [] h h=some (.ref h.length,g)/\Mk R h g h.length M []:=by
 have w:WF P0 d 176 [.ref L.m] h λv g=>v= .ref h.length/\Mk R h g h.length M []:=by
  refine bJ (K:=7) hd (some (.ref L.m)::nn 8) iR (by kernel_rfl) λd' h'=>?_;have hn:=Qk (Qs _) G.st;have hc:0+M.cnt<100000:=by rw [Jv];exact Qk G.c (by decide)
  obtain ⟨v,g0,e0,rfl,H0⟩:=W.get (zaR (h:=h) (R:=R) (d:=d') (Q:=λv g=>v= .ref h.length/\Mk R h g h.length (M0 (R:=R)) []) (Qa (by decide) h') λg H=>⟨rfl,H⟩);refine (zva (d:=d') (Qa (by decide) h') I H0).elim λs1 a=>?_;refine (zdS (d:=d') (k:=0) (s:=(⟨s1.g,bZ M0 M.arcs.length,none,none⟩:ATs R)) (Qa (by decide) h') I G ⟨a.1,y0⟩ (Qj _) hc).elim λs2 b=>?_;have S2:ATp R h h.length [] M.arcs.length (0+M.cnt) (fG (λ_=> []) M 0 M.arcs.length 0) (esK M M.arcs.length 0) {s2 with a:=s1.a}:=by rw [<-zgx];exact ⟨b.2.H,b.2.P⟩
  refine (zu9 (d:=d') (Qa (by decide) h') I G rfl S2).elim λs3 c=>?_;obtain ⟨v,g4,e4,rfl,H4⟩:=W.get (y1 (d:=d') (Q:=λv g=>v= .none/\Mk R h g h.length {s3.M with start:=M.start,first:=M.first} []) (s:=M.start) (w:=M.first) (Qa (by decide) h') c.1.H (by rw [c.1.P.len];exact G.st) G.fst G.bd λg H=>⟨rfl,H⟩);have ea:s3.M.arcs=M.arcs:=zgY c.1.P.len λs hs=>(c.1.P.at' s (c.1.P.len▸hs)).trans (zdV I (c.1.P.len▸hs));have ec:s3.M.cnt=M.cnt:=c.1.H.x.elim λL' q=>q.2.1.ct.symm.trans (ea▸I.ct);have em:({s3.M with start:=M.start,first:=M.first}:Mc R.α)=M:=by
   have ee:=c.1.P.es.trans (zjj I);cases M;cases s3 with|mk g M3 a b=>cases M3;cases ea;cases ec;cases ee;rfl
  have J3:=c.1.H.im I;have Jb:IsM R s2.g L M:=b.2.H.im I;rw [em] at H4;exact run (.v (c6 I)<| .p (e0)<| .s (a.2)<| .p (b.1)<| .s (c.2)<| .v (dM J3)<| .p (zds J3 d')<| .c<| .t (decide_eq_true (p:=(0:Int)<M.arcs.length) (Jw.mpr hn))<| .v (jJ J3)<| .v (nZ J3)<| .p (e4)<| .z ((show Val.ref h.length= .ref h.length/\Mk R h g4 h.length M [] from ⟨rfl,H4⟩))) (by kernel_rfl)
 obtain ⟨v,g,e,rfl,H⟩:=W.get (a8 (P:=P0) (b8 (n:=zf9) I.obj rfl rfl) w);exact ⟨g,e,H⟩
end
section
variable {R:Rg}{d:Nat}{h h0 g:MH}{Q:Val->MH->Prop}{m:Nat}{M M1:Mc R.α}{L L1:Ly}{X:List (Nat×MObj)}
def lF {α:Type} (f:α->α) (k:Nat) (l:List α):List α:=(l.take k).map f++l.drop k
theorem zaU {α:Type}{f:α->α}{l:List α}:lF f 0 l=l:=rfl
theorem uY {α:Type}{f:α->α}{l:List α}:lF f l.length l=l.map f:=by
 unfold lF;rw [QR,Zc,Q7]
theorem uX {α:Type}{f:α->α}{k:Nat}{l:List α}{a:α} (h:l[k]?=some a):(lF f k l)[k]?=some a/\(lF f k l).set k (f a)=lF f (k+1) l:=by
 obtain ⟨hk,rfl⟩:=Qg.mp h;have e:((l.take k).map f).length=k:=by rw [Qe,JN,ZL (QC hk)]
 unfold lF;refine ⟨?_,?_⟩
 ·rw [JM (Qt e),e,ZK,List.getElem?_drop];exact h
 ·rw [ZQ _ _ (Qt e),e,ZK,JH hk,List.set_cons_zero,ZD hk,Qy,Qm];rfl
theorem Dst.at {rows:List Nat}{k r:Nat}{as:List Nat}{ads:List (List Nat)} (q:rows.map (λr=>h[r]?)=ads.map λas=>some (.list (as.map .ref))) (hr:rows[k]?=some r) (ha:h[r]?=some (.list (as.map .ref))):ads[k]?=some as:=by
 have e:(rows.map λr=>h[r]?)[k]?=ads[k]?.map λas=>some (.list (as.map .ref)):=by rw [q];exact Qo ..
 rw [Qo,hr,KM,ha] at e;obtain ⟨as',e1,e2⟩:=Jj.mp e.symm;rw [e1];exact congrArg some (ziD e2)
theorem Dst.ne {rows:List Nat}{m k k' r r' j j' a:Nat}{as as':List Nat} (D:Dst h rows m) (hr:rows[k]?=some r) (ha:h[r]?=some (.list (as.map .ref))) (hj:as[j]?=some a) (hr':rows[k']?=some r') (ha':h[r']?=some (.list (as'.map .ref))) (hj':as'[j']?=some a):k=k'/\j=j':=by
 obtain ⟨ads,n,_,q⟩:=D;have e1:=Dst.at q hr ha;have e2:=Dst.at q hr' ha';have n:=List.pairwise_flatten.mp n;obtain ⟨l1,f1⟩:=Qg.mp e1;obtain ⟨l2,f2⟩:=Qg.mp e2;have no: ∀ {i i':Nat} (li:i<ads.length) (li':i'<ads.length),i<i'->a∈ads[i]->a∈ads[i']->False:=λli li' hlt m1 m2=>List.pairwise_iff_getElem.mp n.2 _ _ li li' hlt a m1 a m2 rfl;have m1:=f1▸Qd hj;have m2:=f2▸Qd hj';rcases Nat.lt_trichotomy k k' with hk|rfl|hk
 ·exact (no l1 l2 hk m1 m2).elim
 ·rw [e1] at e2
  cases e2;obtain ⟨l3,f3⟩:=Qg.mp hj;obtain ⟨l4,f4⟩:=Qg.mp hj';exact ⟨rfl,(Z3 (n.1 _ (f1▸Jg l1))).mp (f3.trans f4.symm)⟩
 ·exact (no l2 l1 hk m2 m1).elim
theorem Dst.low {rows:List Nat}{m k r j a:Nat}{as:List Nat} (D:Dst h rows m) (hr:rows[k]?=some r) (ha:h[r]?=some (.list (as.map .ref))) (hj:as[j]?=some a):m<a:=by
 obtain ⟨ads,_,b,q⟩:=D;exact b a (Z4.mpr ⟨as,Qd (Dst.at q hr ha),Qd hj⟩)
theorem IsM.setArc {i r j b:Nat}{as:List Nat}{xs:List (Ar R.α)}{a:Ar R.α} (a':Ar R.α) (I:IsM R g L M) (W:zW R g L M i r as xs) (hb:as[j]?=some b) (hx:xs[j]?=some a):IsM R (g.set b (cS R a')) L {M with arcs:=M.arcs.set i (xs.set j a')}:=by
 have o:=W.o j b a hb hx;have nl: ∀ {c:Nat}{vs:List Val},g[c]?=some (.list vs) ->(g.set b (cS R a'))[c]?=some (.list vs):=λe=>aZ (ne_of o e nofun) e;refine ⟨aZ (ne_of o I.obj zci) I.obj,nl I.arcs,nl I.ends,I.len.trans (QL ..).symm,I.lenE.trans (QL ..).symm,λk r' ys hr hy=>?_,I.nd,Qa (Qt (QL ..)) I.lim,?_,I.cl,I.ds.to λ_ _ _ e=>nl e⟩
 ·have hy:(M.arcs.set i (xs.set j a'))[k]?=some ys:=hy
  by_cases hk:i=k
  ·subst hk
   rw [QI (aH W.x)] at hy;cases hy;cases W.i.symm.trans hr;refine ⟨as,nl W.a,W.l.trans (QL ..).symm,λj' b' x h1 h2=>?_⟩;by_cases hj:j=j'
   ·subst hj
    rw [QI (aH hx)] at h2;cases h2;cases hb.symm.trans h1;exact bS o
   ·rw [QJ hj] at h2
    exact aZ (λq=>by subst q;exact hj (I.ds.ne W.i W.a hb W.i W.a h1).2) (W.o j' b' x h1 h2)
  ·rw [QJ hk] at hy
   obtain ⟨as',h1,h2,h3⟩:=I.rows k r' ys hr hy;exact ⟨as',nl h1,h2,λj' b' x e1 e2=>aZ (λq=>by subst q;exact hk (I.ds.ne W.i W.a hb hr h1 e1).1) (h3 j' b' x e1 e2)⟩
 ·show ((M.arcs.set i (xs.set j a')).map JK).sum=M.cnt
  rw [List.map_set,QL,<-I.ct];obtain ⟨l,e⟩:=Qg.mp W.x;rw [<-e,<-List.getElem_map JK (l:=M.arcs) (i:=i) (h:=by rw [Qe];exact l),Zu]
structure MuS where
 g:MH
 a:Option Val:=none
 b:Option Val:=none
structure MuX (R:Rg) where
 h:MH
 L:Ly
 M:Mc R.α
 f:Ar R.α->Ar R.α
 F:Option Val->Option Val->Internal.Frame
 x:Nat
 y:Nat
 e:Ex
 b:List Sm
 d:Nat
structure zdX (X:MuX R):Prop where
 s1: ∀a b v,eC (X.F a b) [X.x] false v=some (X.F (some v) b)
 s2: ∀a b v,eC (X.F a b) [X.y] false v=some (X.F a (some v))
 e: ∀a b g,getAttr P0 g (.ref X.L.m) aQ=some (.ref X.L.aA) ->WE (Cxd P0 X.d) (X.F a b) X.e g λv g'=>v= .ref X.L.aA/\g'=g
 v: ∀r b g,WE (Cxd P0 X.d) (X.F (some (.ref r)) b) (.var X.x) g λv g'=>v= .ref r/\g'=g
 st: ∀r p (a:Ar R.α) g R',g[p]?=some (cS R a) ->R' .nx (X.F (some (.ref r)) (some (.ref p))) (g.set p (cS R (X.f a))) ->WSs (Cxd P0 X.d) X.b (X.F (some (.ref r)) (some (.ref p))) g R'
 lo:X.h.length<=X.L.m
structure MuP (X:MuX R) (A:List (List (Ar R.α))) (s:MuS):Prop where
 I:IsM R s.g X.L {X.M with arcs:=A}
 pre: ∃t,s.g=X.h++t
structure MuR (X:MuX R) (A:List (List (Ar R.α))) (r:Nat) (as:List Nat) (s:MuS):Prop where
 P:MuP X A s
 l:s.g[r]?=some (.list (as.map .ref))
variable {X:MuX R}
theorem ziR {A:List (List (Ar R.α))}{i r j b:Nat}{as:List Nat}{xs:List (Ar R.α)}{a:Ar R.α}{s:MuS} (O:zdX X) (P:MuR X A r as s) (hi:A[i]?=some xs) (hr:X.L.rows[i]?=some r) (hb:as[j]?=some b) (hx:xs[j]?=some a) (z y:Option Val):s.g[b]?=some (cS R a)/\MuR X (A.set i (xs.set j (X.f a))) r as ⟨s.g.set b (cS R (X.f a)),z,y⟩:=by
 obtain ⟨as',h1,h2,h3⟩:=P.P.I.rows i r xs hr hi;rw [P.l] at h1;cases ziD h1;have W:zW R s.g X.L {X.M with arcs:=A} i r as xs:=⟨hr,hi,P.l,h2,h3⟩;have o:=W.o j b a hb hx;refine ⟨o,⟨P.P.I.setArc (X.f a) W hb hx,?_⟩,aZ (ne_of o P.l nofun) P.l⟩;obtain ⟨t,e⟩:=P.P.pre;have lo:=Qa O.lo (QC (P.P.I.ds.low hr P.l hb));exact ⟨_,by show s.g.set b _=_;rw [e];exact i8 lo⟩
theorem zmv {i r:Nat}{as:List Nat}{xs:List (Ar R.α)}{A:List (List (Ar R.α))}{s:MuS} (O:zdX X) (hi:A[i]?=some xs) (hr:X.L.rows[i]?=some r) (hl:xs.length<=100000) (P:MuR X A r as s): ∃s',MuR X (A.set i (xs.map X.f)) r as s'/\exec (Cxd P0 X.d) (.fo [X.y] false (.var X.x) X.b) (X.F (some (.ref r)) s.b) s.g=some ((.nx,X.F (some (.ref r)) s'.b),s'.g):=by
 obtain ⟨as',h1,h2,_⟩:=P.P.I.rows i r xs hr hi;rw [P.l] at h1;cases ziD h1;have hA:=aH hi;have e0:A.set i (lF X.f 0 xs)=A:=by rw [zaU,<-(Qg.mp hi).2,Zu]
 have q:=foL (c:=Cxd P0 X.d) (tg:=[X.y]) (many:=false) (a:=r) (e:=.var X.x) (b:=X.b) (vs:=as.map .ref) (λs:MuS=>X.F (some (.ref r)) s.b) MuS.g (λj s=>MuR X (A.set i (lF X.f j xs)) r as s) s (by rw [Qe,h2];exact hl) rfl (λj s P=>P.l) (O.v r s.b s.g) (by rw [e0];exact P) λj v s R1 _ hv P1 C=>by
  obtain ⟨b,hb,rfl⟩:=f7 hv;obtain ⟨a,ha⟩: ∃a,xs[j]?=some a:=⟨_,Qc (by rw [<-h2];exact aH hb)⟩;have T:=uX (f:=X.f) ha;have S:=ziR (i:=i) O P1 (QI hA) hr hb T.1 none (some (.ref b));rw [T.2,Xl] at S;exact Wo.of (O.s2 _ _ _) (O.st r b a s.g _ S.1 (C.nx _ S.2))
 rw [Qe,h2,uY] at q;exact q
theorem zuw {s:MuS} (O:zdX X) (P:MuP X X.M.arcs s): ∃s',MuP X (X.M.arcs.map λxs=>xs.map X.f) s'/\exec (Cxd P0 X.d) (.fo [X.x] false X.e [.fo [X.y] false (.var X.x) X.b]) (X.F s.a s.b) s.g=some ((.nx,X.F s'.a s'.b),s'.g):=by
 have hl:X.L.rows.length=X.M.arcs.length:=P.I.len;have q:=foL (c:=Cxd P0 X.d) (tg:=[X.x]) (many:=false) (a:=X.L.aA) (e:=X.e) (b:=[.fo [X.y] false (.var X.x) X.b]) (vs:=X.L.rows.map .ref) (λs:MuS=>X.F s.a s.b) MuS.g (λi s=>MuP X (lF (λxs=>xs.map X.f) i X.M.arcs) s) s (by rw [Qe,hl];exact Qa P.I.lim (by decide)) rfl (λj s P=>P.I.arcs) (O.e _ _ _ (dM P.I)) P λi v s R1 _ hv P1 C=>by
  obtain ⟨r,hr,rfl⟩:=f7 hv;have hi:i<X.M.arcs.length:=by rw [<-hl];exact aH hr
  have T:=uX (f:=λxs:List (Ar R.α)=>xs.map X.f) (Qc hi);obtain ⟨as,h1,h2,_⟩:=P1.I.rows i r _ hr T.1;refine Wo.of (O.s1 _ _ _) ?_;refine (zmv (s:={s with a:=some (.ref r)}) O T.1 hr (Qa (P1.I.cr _ (Qd T.1)) P1.I.cl) ⟨⟨P1.I,P1.pre⟩,h1⟩).elim λs' e=>?_;rw [T.2] at e;exact run (.s (e.2)<| .z (C.nx {s' with a:=some (.ref r)} ⟨e.1.P.I,e.1.P.pre⟩)) (by kernel_rfl)
 rw [Qe,hl,uY] at q;exact q
end
section
variable {R:Rg}{d:Nat}{h h0 g:MH}{Q:Val->MH->Prop}{m:Nat}{M M1:Mc R.α}{L L1:Ly}{X:List (Nat×MObj)}
def Mc.mapA (f:Ar R.α->Ar R.α) (M:Mc R.α):Mc R.α:= {M with arcs:=M.arcs.map λxs=>xs.map f}
def swA (a:Ar R.α):Ar R.α:= {a with up:=a.lo,lo:=a.up}
def sdA (u:Bool) (a:Ar R.α):Ar R.α:=bif u then {a with lo:=a.up} else {a with up:=a.lo}
theorem zfv {p q0:Nat} (hd:2<=d) (I:IsM R h L M) (G:bD M p q0):aM (Cxd P0 d) (.top 181) [.ref L.m] h=some (.none,h):=fn rfl (by
 refine bJ (K:=1) hd (some (.ref L.m)::nn 6) c9 (by kernel_rfl) λd' h'=>?_;exact run (.p (eP h' I)<| .k (eqi M.arcs.length 0)<| .f (zvM (Qk (Qs _) G.st))<| .z (two .none h)) (by kernel_rfl))
theorem zkd {X:MuX R} (O:zdX X) (H:Mk R X.h g X.h.length X.M []) (e:X.L.m=X.h.length) (I:IsM R g X.L X.M) (ho: ∀a∈own X.L,X.h.length<=a): ∃s':MuS,Mk R X.h s'.g X.h.length (X.M.mapA X.f) []/\exec (Cxd P0 X.d) (.fo [X.x] false X.e [.fo [X.y] false (.var X.x) X.b]) (X.F none none) g=some ((.nx,X.F s'.a s'.b),s'.g):=
 (zuw O (s:=⟨g,none,none⟩) ⟨I,H.pre⟩).elim λs' q=>⟨s',⟨⟨X.L,e,q.1.I,ho,λp hp=>absurd hp Qq⟩,q.1.pre⟩,q.2⟩
abbrev ivB:List Sm:= [.asgs [.at (.var 3) cK,.at (.var 3) cX] (.tup [.attr (.var 3) cX,.attr (.var 3) cK])]
abbrev ivX (h:MH) (L L':Ly) (M:Mc R.α) (d:Nat):MuX R:=⟨h,L',M,swA,λa b=>some (.ref L.m)::some (.ref h.length)::a::b::nn 6,2,3,.attr (.var 1) aQ,ivB,d⟩
theorem zuS {L':Ly} (e:L'.m=h.length):zdX (ivX h L L' M d):=⟨λ_ _ _=>rfl,λ_ _ _=>rfl,λa b g e1=>by
  have e1:getAttr P0 g (.ref L'.m) aQ=some (.ref L'.aA):=e1;rw [e] at e1;show WE (Cxd P0 d) (some (.ref L.m)::some (.ref h.length)::a::b::nn 6) (.attr (.var 1) aQ) g λv g'=>v= .ref L'.aA/\g'=g;exact bM (.v (e1)<| .z (two (.ref L'.aA) g)) (by kernel_rfl),λr b g=>by
  show WE (Cxd P0 d) (some (.ref L.m)::some (.ref h.length)::some (.ref r)::b::nn 6) (.var 2) g λv g'=>v= .ref r/\g'=g;exact bM (.z (two (.ref r) g)) (by kernel_rfl),λr p a g R' hb q=>by
  have e1:setAttr P0 g (.ref p) cK (.str a.lo)=some (g.set p (cS R {a with up:=a.lo})):=vL hb rfl (by decide:4<400);have e2:setAttr P0 (g.set p (cS R {a with up:=a.lo})) (.ref p) cX (.str a.up)=some (g.set p (cS R (swA a))):=pO hb rfl (by decide:4<400) rfl;show WSs (Cxd P0 d) ivB (some (.ref L.m)::some (.ref h.length)::some (.ref r)::some (.ref p)::nn 6) g R';exact run (.v (gLo hb)<| .v (gUp hb)<| .c<| .h (e1)<| .h (e2)<| .z (q)) (by kernel_rfl),Qt e.symm⟩
theorem zdq {p q0:Nat} (hd:9<=d) (I:IsM R h L M) (G:bD M p q0): ∃g,aM (Cxd P0 d) (.top 182) [.ref L.m] h=some (.ref h.length,g)/\Mk R h g h.length (M.mapA swA) []:=by
 have w:WF P0 d 182 [.ref L.m] h λv g=>v= .ref h.length/\Mk R h g h.length (M.mapA swA) []:=by
  refine bJ (K:=8) hd (some (.ref L.m)::nn 9) fW (by kernel_rfl) λd' h'=>?_;refine (zb7 (d:=d') h' I G).elim λg1 a=>?_;refine a.2.x.elim λL' b=>?_;refine (zkd (zuS (L:=L) (d:=d') b.1) a.2 b.1 b.2.1 b.2.2.1).elim λs' c=>?_;exact run (.p (zfv (Qa (by decide) h') I G)<| .p (a.1)<| .s (c.2)<| .z ((show Val.ref h.length= .ref h.length/\Mk R h s'.g h.length (M.mapA swA) [] from ⟨rfl,c.1⟩))) (by kernel_rfl)
 obtain ⟨v,g,e,rfl,H⟩:=W.get (dO (P:=P0) rfl w);exact ⟨g,e,H⟩
def sdS (u:Bool):List Nat:=bif u then [117,112,112,101,114] else [108,111,119,101,114]
abbrev pjB:List Sm:= [.ite (.cmp .eq (.var 1) (.lit (.str [117,112,112,101,114]))) [.asg (.at (.var 4) cX) (.attr (.var 4) cK)] [.asg (.at (.var 4) cK) (.attr (.var 4) cX)]]
abbrev pjX (h:MH) (L L':Ly) (M:Mc R.α) (d:Nat) (u:Bool):MuX R:=⟨h,L',M,sdA u,λa b=>some (.ref L.m)::some (.str (sdS u))::some (.ref h.length)::a::b::nn 6,3,4,.attr (.var 2) aQ,pjB,d⟩
theorem pj_ok {L':Ly}{u:Bool} (e:L'.m=h.length):zdX (pjX h L L' M d u):=⟨λ_ _ _=>rfl,λ_ _ _=>rfl,λa b g e1=>by
  have e1:getAttr P0 g (.ref L'.m) aQ=some (.ref L'.aA):=e1;rw [e] at e1;show WE (Cxd P0 d) (some (.ref L.m)::some (.str (sdS u))::some (.ref h.length)::a::b::nn 6) (.attr (.var 2) aQ) g λv g'=>v= .ref L'.aA/\g'=g;exact bM (.v (e1)<| .z (two (.ref L'.aA) g)) (by kernel_rfl),λr b g=>by
  show WE (Cxd P0 d) (some (.ref L.m)::some (.str (sdS u))::some (.ref h.length)::some (.ref r)::b::nn 6) (.var 3) g λv g'=>v= .ref r/\g'=g;exact bM (.z (two (.ref r) g)) (by kernel_rfl),λr p a g R' hb q=>by
  cases u with
  |true=>
   have e1:setAttr P0 g (.ref p) cX (.str a.up)=some (g.set p (cS R (sdA true a))):=vL hb rfl (by decide:4<400);show WSs (Cxd P0 d) pjB (some (.ref L.m)::some (.str (sdS true))::some (.ref h.length)::some (.ref r)::some (.ref p)::nn 6) g R';exact run (.k (eqs (sdS true) [117,112,112,101,114])<| .c<| .v (gUp hb)<| .h (e1)<| .z (q)) (by kernel_rfl)
  |false=>
   have e1:setAttr P0 g (.ref p) cK (.str a.lo)=some (g.set p (cS R (sdA false a))):=vL hb rfl (by decide:4<400);show WSs (Cxd P0 d) pjB (some (.ref L.m)::some (.str (sdS false))::some (.ref h.length)::some (.ref r)::some (.ref p)::nn 6) g R';exact run (.k (eqs (sdS false) [117,112,112,101,114])<| .c<| .v (gLo hb)<| .h (e1)<| .z (q)) (by kernel_rfl),Qt e.symm⟩
theorem zn5 (u:Bool) (h:MH):dQ .notin (.str (sdS u)) (.tup [.str [117,112,112,101,114],.str [108,111,119,101,114]]) h=some false:=by
 cases u
 ·exact zgi (r:=true) (by kernel_rfl)
 ·exact zgi (r:=true) (by kernel_rfl)
theorem qQ {p q0:Nat} (u:Bool) (hd:9<=d) (I:IsM R h L M) (G:bD M p q0): ∃g,aM (Cxd P0 d) (.top 184) [.ref L.m,.str (sdS u)] h=some (.ref h.length,g)/\Mk R h g h.length (M.mapA (sdA u)) []:=by
 have w:WF P0 d 184 [.ref L.m,.str (sdS u)] h λv g=>v= .ref h.length/\Mk R h g h.length (M.mapA (sdA u)) []:=by
  refine bJ (K:=8) hd (some (.ref L.m)::some (.str (sdS u))::nn 9) eX (by kernel_rfl) λd' h'=>?_;refine (zb7 (d:=d') h' I G).elim λg1 a=>?_;refine a.2.x.elim λL' b=>?_;refine (zkd (pj_ok (L:=L) (d:=d') (u:=u) b.1) a.2 b.1 b.2.1 b.2.2.1).elim λs' c=>?_;exact run (.k (zn5 u)<| .c<| .p (zfv (Qa (by decide) h') I G)<| .p (a.1)<| .s (c.2)<| .z ((show Val.ref h.length= .ref h.length/\Mk R h s'.g h.length (M.mapA (sdA u)) [] from ⟨rfl,c.1⟩))) (by kernel_rfl)
 obtain ⟨v,g,e,rfl,H⟩:=W.get (dO (P:=P0) rfl w);exact ⟨g,e,H⟩
abbrev zaY:Nat:=7598521932763457902
abbrev plB:List Sm:= [.ite (.cmp .ne (.attr (.var 2) cK) (.attr (.var 2) cX)) [.ret (.lit (.bool false))] []]
theorem ziz {xs:List (Ar R.α)}{r:Nat}{as:List Nat}{b:Option Val} (H:zhe R g r as xs) (hl:xs.length<=100000) (hp: ∀a∈xs,a.up=a.lo): ∃s:Option Val,exec (Cxd P0 d) (.fo [2] false (.var 1) plB) (some (.ref m)::some (.ref r)::b::nn 6) g=some ((.nx,some (.ref m)::some (.ref r)::s::nn 6),g):=
 (foL (c:=Cxd P0 d) (tg:=[2]) (many:=false) (a:=r) (e:=.var 1) (b:=plB) (vs:=as.map .ref) (λs:Option Val=>some (.ref m)::some (.ref r)::s::nn 6) (λ_=>g) (λ_ _=>True) b (H.n▸hl) rfl (λ_ _ _=>H.l) (by exact bM (.z (two (.ref r) g)) (by kernel_rfl)) trivial λj v s R1 _ hv _ C=>by
  obtain ⟨b,x,rfl,hx,hb⟩:=H.a j v hv;have e:=hp x (Qd hx);have e1:=nes x.up x.lo g;rw [e,beq_self_eq_true] at e1;have e2:=gUp hb;rw [e] at e2;refine c8 ?_;show WSs (Cxd P0 d) plB (some (.ref m)::some (.ref r)::some (.ref b)::nn 6) g R1;exact run (.v (e2)<| .v (gLo hb)<| .b (e1)<| .c<| .z (C.nx (some (.ref b)) trivial)) (by kernel_rfl)).elim λs q=>⟨s,q.2⟩
theorem zfb (hd:1<=d) (I:IsM R g L M) (hp: ∀xs∈M.arcs,∀a∈xs,a.up=a.lo):bI (Cxd P0 d) (.ref L.m) zaY [] g g=some (.bool true,g):=me (b8 I.obj rfl rfl) (by
 refine bJ (K:=0) hd (some (.ref L.m)::nn 8) fA (by kernel_rfl) λd' h'=>?_;refine (foL (c:=Cxd P0 d') (tg:=[1]) (many:=false) (a:=L.aA) (e:=.attr (.var 0) aQ) (b:=[.fo [2] false (.var 1) plB]) (vs:=L.rows.map .ref) (λs:Option Val×Option Val=>some (.ref L.m)::s.1::s.2::nn 6) (λ_=>g) (λ_ _=>True) (none,none) (by rw [Qe,I.len];exact Qa I.lim (by decide)) rfl (λ_ _ _=>I.arcs) (by exact bM (.v (dM I)<| .z (two (.ref L.aA) g)) (by kernel_rfl)) trivial λj v s R1 _ hv _ C=>?_).elim λs q=>?_
 ·have hj:j<M.arcs.length:=by rw [<-I.len,<-Qe (f:=Val.ref)];exact aH hv
  obtain ⟨r,as,e,H,hm⟩:=I.rowR hj;cases e.symm.trans hv;refine (ziz (d:=d') (m:=L.m) (b:=s.2) H (Qa (I.cr _ hm) I.cl) (hp _ hm)).elim λo q=>c8 ?_;show WSs (Cxd P0 d') [.fo [2] false (.var 1) plB] (some (.ref L.m)::some (.ref r)::s.2::nn 6) g R1;exact run (.s (q)<| .z (C.nx (some (.ref r),o) trivial)) (by kernel_rfl)
 ·exact run (.s (q.2)<| .z (two (.bool true) g)) (by kernel_rfl))
def tA (ws:List R.α):R.α:=ws.foldl R.add R.zero
theorem zeq {p k:Nat}{ws:List R.α}{a:Nat} (hd:3<=d) (ha:h[a]?=some (.list (ws.map R.e))) (hw': ∀w∈ws,R.D p k w) (hn:ws.length<=100) (hl:4*p+(k+100)<=3800): ∃o,R.D p (k+ws.length) (tA ws)/\exec (Cxd P0 d) (.fo [3] false (.var 1) [.asg (.nm 2) (.meth (.var 0) oS [.var 2,.var 3])]) (some (.top (112+R.i))::some (.ref a)::some (R.e R.zero)::none::nn 6) h=some ((.nx,some (.top (112+R.i))::some (.ref a)::some (R.e (tA ws))::o::nn 6),h):=by
 obtain ⟨s,q,e⟩:=foL (c:=Cxd P0 d) (tg:=[3]) (many:=false) (a:=a) (e:=.var 1) (b:=[.asg (.nm 2) (.meth (.var 0) oS [.var 2,.var 3])]) (vs:=ws.map R.e) (λs:R.α×Option Val=>some (.top (112+R.i))::some (.ref a)::some (R.e s.1)::s.2::nn 6) (λ_=>h) (λi s=>s.1=(ws.take i).foldl R.add R.zero/\R.D p (k+i) s.1) (R.zero,none) (by rw [Qe];exact Qa hn (by decide)) rfl (λ_ _ _=>ha) (by exact bM (.z (two (.ref a) h)) (by kernel_rfl)) ⟨rfl,R.D_mono (Qs _) (Qs _) R.D_zero⟩ λi v s R1 _ hv P C=>by
  rw [Qo] at hv;obtain ⟨w,e1,rfl⟩:=Jj.mp hv;have hi:=aH e1;have D:=R.D_mono (Qj p) (Qf k i) (hw' w (Qd e1));have N:R.add s.1 w=(ws.take (i+1)).foldl R.add R.zero/\R.D p (k+(i+1)) (R.add s.1 w):=⟨by rw [JD,e1,Option.toList_some,ZC,<-P.1];rfl,R.D_add P.2 D⟩;refine c8 ?_;show WSs (Cxd P0 d) [.asg (.nm 2) (.meth (.var 0) oS [.var 2,.var 3])] (some (.top (112+R.i))::some (.ref a)::some (R.e s.1)::some (R.e w)::nn 6) h R1;exact run (.q (R.pl hd P.2 D (by lia))<| .z (C.nx (R.add s.1 w,some (R.e w)) N)) (by kernel_rfl)
 rw [Qe,QR] at q;obtain ⟨q1,q2⟩:=q;have q1:s.1=tA ws:=q1;rw [q1] at q2 e;exact ⟨s.2,q2,e⟩
theorem zeo {p k:Nat}{ws:List R.α}{a:Nat} (hd:4<=d) (ha:h[a]?=some (.list (ws.map R.e))) (hw': ∀w∈ws,R.D p k w) (hn:ws.length<=100) (hl:4*p+(k+100)<=3800):aM (Cxd P0 d) (.top 186) [.top (112+R.i),.ref a] h=some (R.e (tA ws),h):=fn rfl (by
 refine bJ (K:=3) hd (some (.top (112+R.i))::some (.ref a)::nn 8) jU (by kernel_rfl) λd' h'=>?_;refine (zeq (d:=d') h' ha hw' hn hl).elim λo q=>?_;exact run (.w (R.no)<| .s (q.2)<| .z (two (R.e (tA ws)) h)) (by kernel_rfl))
end
section
variable {R:Rg}{d:Nat}{h h0 g:MH}{Q:Val->MH->Prop}{m:Nat}{M M1:Mc R.α}{L L1:Ly}{X:List (Nat×MObj)}
def nK (A:Nat->List (Ar R.α)) (l:List (Nat×Ar R.α)):Nat->List (Ar R.α):=l.foldl (λA p=>oL A p.1 p.2) A
theorem vC {A:Nat->List (Ar R.α)}{l:List (Nat×Ar R.α)}{s:Nat}{a:Ar R.α}:nK A (l++ [(s,a)])=oL (nK A l) s a:=by
 unfold nK;rw [ZC];rfl
def rvP (s:Nat) (a:Ar R.α):Nat×Ar R.α:=(1+a.t,{a with t:=1+s})
def rvR (M:Mc R.α) (i j:Nat):List (Nat×Ar R.α):=((QS i).flatMap λs=>(aAt M s).map (rvP s))++((aAt M i).take j).map (rvP i)
def rvE (M:Mc R.α) (k:Nat):Nat×Ar R.α:=(0,emA (eAt M k) (1+k))
abbrev rvL (M:Mc R.α) (n k:Nat):List (Nat×Ar R.α):=rvR M n 0++(QS k).map (rvE M)
theorem ze0 {i j:Nat}{a:Ar R.α} (ha:(aAt M i)[j]?=some a):rvR M i (j+1)=rvR M i j++ [rvP i a]:=by
 unfold rvR;rw [vI ha,Qy,Qm];rfl
theorem yI {i:Nat}:rvR M i (aAt M i).length=rvR M (i+1) 0:=by
 unfold rvR;rw [QR,ZO,List.flatMap_append,List.take_zero,List.map_nil,Q7,List.flatMap_singleton]
theorem ze1 {k:Nat}{l:List (Nat×Ar R.α)}:l++(QS (k+1)).map (rvE M)=(l++(QS k).map (rvE M))++ [rvE M k]:=by
 rw [ZO,Qy,Qm];rfl
abbrev rvF (L:Ly) (m:Nat) (a b c:Option Val):Internal.Frame:=some (.ref L.m)::some (.ref m)::some (.int 0)::a::b::c::nn 6
abbrev rvA:List Sm:= [.expr (.meth (.var 1) 6386275 [.bin .add (.lit (.int 1)) (.attr (.var 4) kM),.attr (.var 4) nq7,.attr (.var 4) nq8,.attr (.var 4) nq9,.bin .add (.lit (.int 1)) (.var 3)])]
abbrev rvB:List Sm:= [.expr (.meth (.var 1) 6386275 [.var 2,.lit (.str []),.lit (.str []),.sub (.attr (.var 0) lS) (.var 5),.bin .add (.lit (.int 1)) (.var 5)])]
abbrev zij:Ex:= .call (.lit (.ty 491260897125)) [.meth (.var 0) 1936292453 []]
abbrev RvP (R:Rg) (h:MH) (M:Mc R.α) (c:Nat) (l:List (Nat×Ar R.α)) (s:ATs R):Prop:=ATp R h h.length [] (1+M.arcs.length) c (nK (λ_=> []) l) (QB (1+M.arcs.length) R.zero) s
theorem zlq {p q0 i c:Nat}{s:ATs R} (hd:5<=d) (I:IsM R h L M) (G:bD M p q0) (hi:i<M.arcs.length) (hc:c+(aAt M i).length<100000) (S:RvP R h M c (rvR M i 0) s):
  ∃s',RvP R h M (c+(aAt M i).length) (rvR M (i+1) 0) s'/\exec (Cxd P0 d) (.fo [4] false (.sub (.attr (.var 0) aQ) (.var 3)) rvA) (rvF L h.length (vN i) s.b none) s.g=some ((.nx,rvF L h.length (vN i) s'.b none),s'.g):=by
 obtain ⟨r,as,hr,H,hm⟩:=I.rowR hi;have J:=S.H.im I;refine (foL (c:=Cxd P0 d) (tg:=[4]) (many:=false) (a:=r) (e:=.sub (.attr (.var 0) aQ) (.var 3)) (b:=rvA) (vs:=as.map .ref) (λs':ATs R=>rvF L h.length (vN i) s'.b none) ATs.g (λj s'=>RvP R h M (c+j) (rvR M i j) s') s (H.le I hm) rfl (λj s' S2=>S2.H.up H.l) (by exact bM (.v (dM J)<| .v (sl J.arcs hr)<| .z (two (.ref r) s.g)) (by kernel_rfl)) S λj v s' R1 _ hv S2 C2=>?_).elim λs' e=>⟨s',by rw [<-yI];exact H.n▸e.1,e.2⟩;obtain ⟨b,x,rfl,hx,hb⟩:=H.a j v hv;obtain ⟨g1,g2,g3,g4,_⟩:=G.arc _ hm x (Qd hx);have hB:=S2.H.up hb;refine (mkA (d:=d) (s:=1+x.t) (a:={x with t:=1+i}) (Qa (by decide) hd) S2 (QT g1 1) (QT hi 1) g2 g3 g4 G.bd (Qk (Ql (QC (aH hx)) c) hc)).elim λs3 e=>?_;have N:RvP R h M (c+(j+1)) (rvR M i (j+1)) {s3 with b:=vR b}:=by
  rw [ze0 hx];show ATp R h h.length [] _ _ (nK (λ_=> []) (rvR M i j++ [(1+x.t,{x with t:=1+i})])) _ _;rw [vC];exact ⟨e.2.H,e.2.P⟩
 refine c8 ?_;show WSs (Cxd P0 d) rvA (rvF L h.length (vN i) (vR b) none) s'.g R1;exact run (.v (gTg hB)<| .c<| .v (gUp hB)<| .v (gLo hB)<| .v (gWt hB)<| .c<| .p (e.1)<| .z (C2.nx _ N)) (by kernel_rfl)
theorem rv1 {p q0:Nat}{s:ATs R} (hd:6<=d) (I:IsM R h L M) (G:bD M p q0) (S:RvP R h M 0 [] s):
  ∃s':ATs R,RvP R h M M.cnt (rvR M M.arcs.length 0) s'/\exec (Cxd P0 d) (.fo [3] false zij [.fo [4] false (.sub (.attr (.var 0) aQ) (.var 3)) rvA]) (rvF L h.length none none none) s.g=some ((.nx,rvF L h.length s'.a s'.b none),s'.g):=by
 refine (foR (c:=Cxd P0 d) (x:=3) (n:=M.arcs.length) (e:=zij) (b:=[.fo [4] false (.sub (.attr (.var 0) aQ) (.var 3)) rvA]) (λs:ATs R=>rvF L h.length s.a s.b none) ATs.g (λi s=>RvP R h M (dP M i) (rvR M i 0) s) ⟨s.g,s.M,none,none⟩ (wC I) rfl (by exact bM (.p (eP (Qa (by decide) hd) (S.H.im I))<| .c<| .z (two (.rng M.arcs.length) s.g)) (by kernel_rfl)) ⟨S.H,S.P⟩ λi s R1 _ hi S1 C1=>?_).elim λs' e=>⟨s',?_,e.2⟩
 ·have hct:=jS (M:=M) hi
  refine (zlq (d:=d) (Ki hd) I G hi (Qk (by rw [<-hct];exact nC I _) (Qk G.c (by decide))) S1).elim λs' e=>?_;have N':RvP R h M (dP M (i+1)) (rvR M (i+1) 0) {s' with a:=vN i}:=by rw [hct];exact ⟨e.1.H,e.1.P⟩
  exact run (.s (e.2)<| .z (C1.nx _ N')) (by kernel_rfl)
 ·have e1:dP M M.arcs.length=M.cnt:=by unfold dP;rw [QR,I.ct]
  exact e1▸e.1
theorem rv2 {p q0:Nat}{s:ATs R} (hd:6<=d) (I:IsM R h L M) (G:bD M p q0) (S:RvP R h M M.cnt (rvR M M.arcs.length 0) s):
  ∃s':ATs R×Option Val,RvP R h M (M.cnt+M.arcs.length) (rvL M M.arcs.length M.arcs.length) s'.1/\exec (Cxd P0 d) (.fo [5] false zij rvB) (rvF L h.length s.a s.b none) s.g=some ((.nx,rvF L h.length s.a s.b s'.2),s'.1.g):=by
 refine (foR (c:=Cxd P0 d) (x:=5) (n:=M.arcs.length) (e:=zij) (b:=rvB) (λs':ATs R×Option Val=>rvF L h.length s.a s.b s'.2) (λs=>s.1.g) (λk s=>RvP R h M (M.cnt+k) (rvL M M.arcs.length k) s.1) (s,none) (wC I) rfl (by exact bM (.p (eP (Qa (by decide) hd) (S.H.im I))<| .c<| .z (two (.rng M.arcs.length) s.g)) (by kernel_rfl)) (by rw [show rvL M M.arcs.length 0=rvR M M.arcs.length 0 from Q7 _];exact S) λk s' R1 _ hk S1 C1=>?_);have J:=S1.H.im I;obtain ⟨D1,e1⟩:=eD G (k:=k) (I.lenE▸hk);have hc:=G.c;have hn:=G.n;refine (mkA (d:=d) (s:=0) (a:=emA (eAt M k) (1+k)) (Qa (by decide) hd) S1 (Qi Yd (Qf _ _)) (QT hk 1) (.inl rfl) (.inl rfl) D1 G.bd (Qi (QT hk _) (Qa (QA hc hn) (Qn _ _)))).elim λs3 e=>?_;have N:RvP R h M (M.cnt+(k+1)) (rvL M M.arcs.length (k+1)) s3:=by
  rw [show rvL M M.arcs.length (k+1)=rvL M M.arcs.length k++ [rvE M k] from ze1];show ATp R h h.length [] _ _ (nK (λ_=> []) (rvL M M.arcs.length k++ [(0,emA (eAt M k) (1+k))])) _ _;rw [vC];exact ⟨e.2.H,e.2.P⟩
 exact run (.v (lG J)<| .v (sl J.ends e1)<| .c<| .p (e.1)<| .z (C1.nx (s3,vN k) N)) (by kernel_rfl)
theorem zan {p q0:Nat} (hd:8<=d) (I:IsM R h L M) (G:bD M p q0): ∃s:ATs R,aM (Cxd P0 d) (.top 185) [.ref L.m] h=some (.ref h.length,s.g)/\ATp R h h.length [] (1+M.arcs.length) (M.cnt+M.arcs.length) (nK (λ_=> []) (rvL M M.arcs.length M.arcs.length)) ((QB (1+M.arcs.length) R.zero).set (1+M.start) M.first) s:=by
 have w:WF P0 d 185 [.ref L.m] h λv g=>v= .ref h.length/\∃s:ATs R,g=s.g/\ATp R h h.length [] (1+M.arcs.length) (M.cnt+M.arcs.length) (nK (λ_=> []) (rvL M M.arcs.length M.arcs.length)) ((QB (1+M.arcs.length) R.zero).set (1+M.start) M.first) s:=by
  refine bJ (K:=7) hd (some (.ref L.m)::nn 11) eU (by kernel_rfl) λd' h'=>?_;refine (zt2 R h (d:=d') (Qa (by decide) h')).elim λg0 a=>a.2.elim λg1 b=>?_;refine (zlO (n:=M.arcs.length) (d:=d') (Qa (by decide) h') (Qk (Ql G.n 1) (by decide)) b.2).elim λs1 c=>c.1.elim λv1 c1=>?_;refine (rv1 (d:=d') (Qa (by decide) h') I G c.2).elim λs2 e=>?_;refine (rv2 (d:=d') (Qa (by decide) h') I G e.1).elim λs3 f=>?_;obtain ⟨v,g,e4,rfl,H4⟩:=W.get (zfU (d:=d') (Q:=λv g=>v= .none/\Mk R h g h.length {s3.1.M with ends:=s3.1.M.ends.set (1+M.start) M.first} []) (s:=1+M.start) (w:=M.first) (Qa (by decide) h') f.1.H (by rw [f.1.P.len];exact QT G.st 1) G.fst G.bd λg H=>⟨rfl,H⟩);have J:=f.1.H.im I;exact run (.p (zfv (Qa (by decide) h') I G)<| .v (c6 I)<| .p (a.1)<| .p (b.1)<| .p (eP (Qa (by decide) h') (b.2.im I))<| .p (c1)<| .s (e.2)<| .s (f.2)<| .v (jJ J)<| .c<| .v (nZ J)<| .p (e4)<| .z ((show Val.ref h.length= .ref h.length/\∃s:ATs R,g=s.g/\ATp R h h.length [] (1+M.arcs.length) (M.cnt+M.arcs.length) (nK (λ_=> []) (rvL M M.arcs.length M.arcs.length)) ((QB (1+M.arcs.length) R.zero).set (1+M.start) M.first) s from ⟨rfl,⟨g,_,none,none⟩,rfl,H4,f.1.P.setE⟩))) (by kernel_rfl)
 obtain ⟨v,g,e,rfl,s,rfl,q⟩:=W.get (dO (P:=P0) rfl w);exact ⟨s,e,q⟩
end
section
variable {R:Rg}{d:Nat}{h h0 g:MH}{Q:Val->MH->Prop}{M M1 M2 B:Mc R.α}{R':Fl->Internal.Frame->MH->Prop}{L L1 L2 LB:Ly}{u l:List Nat}
theorem zwS: ∀n,n<5-> ∀c,c<8-> ∀x,x<3-> ∀y,y<3->1+(x+1)*(y+1)*(c+1)<100000/\(1+1*n)*(x+y+2)<=30/\(1+((1+c)*n+n+1+n))*(x+y+2)+(1+(x+1)*(y+1)*(c+1)+n)<=329:=by decide+kernel
def wtv (M:Mc R.α) (u l:List Nat):R.α:=R.mul M.first (Bv M u l 0 0 M.start)
structure Wod (u:List Nat):Prop where
 n:u.length<=2
 c: ∀c∈u,tF c=true
theorem zjT {p k:Nat} (hd:10<=d) (ne:R.one≠R.zero) (I:IsM R g L M) (G:bD M p k) (U:upE M) (hn:M.arcs.length<=60) (wu:Wod u) (wl:Wod l) (cl:1+(u.length+1)*(l.length+1)*(M.cnt+1)<100000) (bd2:4*p+(k+300)<=3800)
  (hbd:4*((p+p*M.arcs.length)*(u.length+l.length+2))+((k+((k+M.cnt)*M.arcs.length+M.arcs.length+1+M.arcs.length))*(u.length+l.length+2)+(1+(u.length+1)*(l.length+1)*(M.cnt+1)+M.arcs.length))<=3800):
  ∃t,aM (Cxd P0 d) (.top 106) [.ref L.m,.str u,.str l] g=some (R.e (wtv M u l),g++t)/\R.D ((p+p*M.arcs.length)*(u.length+l.length+2)) ((k+((k+M.cnt)*M.arcs.length+M.arcs.length+1+M.arcs.length))*(u.length+l.length+2)+(1+(u.length+1)*(l.length+1)*(M.cnt+1)+M.arcs.length)) (wtv M u l):=by
 refine (W.get (dO (P:=P0) rfl (z5 (Q:=λv g'=> ∃t,v=R.e (wtv M u l)/\g'=g++t/\R.D _ _ (wtv M u l)) hd I G U ne hn wu.c wl.c (Qa wu.n (by decide)) (Qa wl.n (by decide)) cl bd2 hbd λt hD=>⟨t,rfl,rfl,hD⟩))).elim λv zq6=>zq6.elim λg' zq7=>zq7.2.elim λt zq8=>?_;obtain rfl:=zq8.1;obtain rfl:=zq8.2.1;exact ⟨t,zq7.1,zq8.2.2⟩
theorem nN {us:List (List Nat)} (hd:10<=d) (ne:R.one≠R.zero) (I:IsM R g L M) (Z:gN us M) (wu:Wod u) (wl:Wod l): ∃t,aM (Cxd P0 d) (.top 106) [.ref L.m,.str u,.str l] g=some (R.e (wtv M u l),g++t)/\R.D 30 329 (wtv M u l):=by
 have b:=zwS M.arcs.length (QK Z.n) M.cnt (QK Z.c) u.length (QK wu.n) l.length (QK wl.n);exact (zjT hd ne I Z.g Z.up (Qa Z.n (by decide)) wu wl b.1 (by decide) (Qa (QA (QH 4 b.2.1) b.2.2) (by decide))).elim λt q=>⟨t,q.1,R.D_mono b.2.1 b.2.2 q.2⟩
def wds:List (List Nat):= [[],[97],[98],[97,97],[97,98],[98,97],[98,98]]
theorem zec {i:Nat} (hi:i<7): ∃w,(wds.map Val.str)[i]?=some (.str w)/\Wod w/\w∈wds:=by
 have hl:i<wds.length:=hi
 have: ∀w∈wds,w.length<=2/\∀c∈w,tF c=true:=by decide+kernel
 have:=this _ (Jg hl)
 exact ⟨wds[i],by rw [Qo,Qc hl];rfl,⟨this.1,this.2⟩,Jg hl⟩
theorem zjW {a:Nat} (W:g[a]?=some (.list (wds.map .str))) (x:Int): ∃i:Nat,Kz x 7=i/\∃w,bV g (.ref a) (.int i)=some (.str w)/\Wod w/\w∈wds:=
 (hG x (show 0<7 by decide)).elim λi q=>⟨i,q.2,(zec q.1).elim λw a=>⟨w,sl W a.1,a.2⟩⟩
theorem zi3: ∀u∈los,lab u:=λu hu=>by
 unfold los at hu;simp only [QE,Qq,or_false] at hu;rcases hu with rfl|rfl|rfl
 ·exact .inr ⟨97,rfl,by decide+kernel⟩
 ·exact .inr ⟨98,rfl,by decide+kernel⟩
 ·exact .inl rfl
theorem zuI {ws:List R.α}{us:List (List Nat)} (hu:us≠ []) (hl: ∀u∈us,u∈los) (Z:RL R ws) (ns:List Int) (k:Nat): ∃M:Mc R.α,gN us M/\∃g',aM (Cxd P0 60) (.top 139) [.fl (ns.map .int),.int k,.top (112+R.i),.ref g.length,.bool false] (g++ [.list (us.map .str)])=some (.ref (g++ [MObj.list (us.map .str)]).length,g')/\∃L,L.m=(g++ [MObj.list (us.map .str)]).length/\IsM R g' L M/\∃t,g'=g++t:=by
 obtain ⟨v,g',e,M,rfl,Z1,H⟩:=W.get (dO (P:=P0) (d:=60) (h:=g++ [.list (us.map .str)]) rfl (zuH (Q:=λv g'=> ∃M:Mc R.α,v= .ref (g++ [MObj.list (us.map .str)]).length/\gN us M/\Mk R (g++ [.list (us.map .str)]) g' (g++ [MObj.list (us.map .str)]).length M []) (ns:=ns) (us:=us) (ws:=ws) (at':=k) (by decide) Z aV hu (λu q=>zi3 u (hl u q)) λg1 M1 H1 Z1=>⟨M1,rfl,Z1,H1⟩));refine H.x.elim λL zq2=>?_;obtain ⟨t,ht⟩:=H.pre;exact ⟨M,Z1,g',e,L,zq2.1,zq2.2.1,_,by rw [ht,Qm]⟩
end
theorem zf1 {α:Type}{a b c w:α}{P:α->Prop} (h:w∈ [a,b,c]) (h1:P a) (h2:P b) (h3:P c):P w:=by
 simp only [QE,Qq,or_false] at h;rcases h with rfl|rfl|rfl
 ·exact h1
 ·exact h2
 ·exact h3
theorem rl0:RL znt [true,true,true]:=⟨show true≠false by decide,rfl,λw hw=>zf1 (P:=λw=>znt.D 1 1 w/\w≠znt.zero) hw ⟨trivial,show true≠false by decide⟩ ⟨trivial,show true≠false by decide⟩ ⟨trivial,show true≠false by decide⟩,rfl⟩
theorem lD {n:Nat} (h:n<=3):xH.D 1 1 (some n)/\(some n:Option Nat)≠none:=⟨λm e=>by cases e;exact h,nofun⟩
theorem rl1:RL xH [some 0,some 1,some 3]:=⟨show (some 0:Option Nat)≠none from nofun,rfl,λw hw=>zf1 (P:=λw=>xH.D 1 1 w/\w≠xH.zero) hw (lD (by decide)) (lD (by decide)) (lD (by decide)),rfl⟩
theorem rl2:RL zbm [(1:Nat),(1:Nat),(2:Nat)]:=⟨show (1:Nat)≠0 by decide,rfl,λw hw=>zf1 (P:=λw=>zbm.D 1 1 w/\w≠zbm.zero) hw ⟨show 1<=2 ^ 1 by decide,show (1:Nat)≠0 by decide⟩ ⟨show 1<=2 ^ 1 by decide,show (1:Nat)≠0 by decide⟩ ⟨show 2<=2 ^ 1 by decide,show (2:Nat)≠0 by decide⟩,rfl⟩
def fq1 (n:Nat) (h:n≠0):QN:=⟨⟨1,n,h,Nat.coprime_one_left n⟩,Rat.num_nonneg.mp (show (0:Int)<=1 by decide)⟩
theorem iN {n:Nat}{h:n≠0} (hd:n ∣ 12):DQ 1 1 (fq1 n h)/\DL 1 1 (fq1 n h)/\fq1 n h≠ ⟨0,Rat.le_refl⟩:=by
 refine ⟨⟨by rw [Wg];exact hd,by show 1<=2 ^ 1*n;lia⟩,⟨by rw [Wg];exact hd,(KW h:1<=n)⟩,λe=>?_⟩;have e:(1:Int)=0:=congrArg (λq:QN=>q.1.num) e;exact absurd e (by decide)
theorem zj8:(⟨1,q01⟩:QN)≠ ⟨0,Rat.le_refl⟩:=λe=>by
 have e:(1:Int)=0:=congrArg (λq:QN=>q.1.num) e;exact absurd e (by decide)
theorem rl3:RL xI [fq1 4 (by decide),fq1 3 (by decide),fq1 2 (by decide)]:=⟨zj8,rfl,λw hw=>zf1 (P:=λw=>xI.D 1 1 w/\w≠xI.zero) hw ⟨(iN ⟨3,rfl⟩).1,(iN ⟨3,rfl⟩).2.2⟩ ⟨(iN ⟨4,rfl⟩).1,(iN ⟨4,rfl⟩).2.2⟩ ⟨(iN ⟨6,rfl⟩).1,(iN ⟨6,rfl⟩).2.2⟩,rfl⟩
theorem rl4:RL xG [fq1 2 (by decide),fq1 3 (by decide),fq1 1 (by decide)]:=⟨zj8,rfl,λw hw=>zf1 (P:=λw=>xG.D 1 1 w/\w≠xG.zero) hw ⟨(iN ⟨6,rfl⟩).2.1,(iN ⟨6,rfl⟩).2.2⟩ ⟨(iN ⟨4,rfl⟩).2.1,(iN ⟨4,rfl⟩).2.2⟩ ⟨(iN ⟨12,rfl⟩).2.1,(iN ⟨12,rfl⟩).2.2⟩,rfl⟩
section
variable {R:Rg}{M:Mc R.α}{u l:List Nat}
theorem zjI {f:Ar R.α->Ar R.α}{s:Nat}:aAt (M.mapA f) s=(aAt M s).map f:=by
 unfold aAt Mc.mapA;show ((M.arcs.map λxs=>xs.map f)[s]?).getD []=_;rw [Qo];cases M.arcs[s]?<;>rfl
structure LoF (f:Ar R.α->Ar R.α):Prop where
 w: ∀a,(f a).w=a.w
 t: ∀a,(f a).t=a.t
 l: ∀a,lab a.up->lab a.lo->lab (f a).up/\lab (f a).lo
theorem zuJ:LoF (R:=R) swA:=⟨λ_=>rfl,λ_=>rfl,λ_ a b=>⟨b,a⟩⟩
theorem zuK {b:Bool}:LoF (R:=R) (sdA b):=by
 cases b
 ·exact ⟨λ_=>rfl,λ_=>rfl,λ_ _ b=>⟨b,b⟩⟩
 ·exact ⟨λ_=>rfl,λ_=>rfl,λ_ a _=>⟨a,a⟩⟩
theorem mV {f:Ar R.α->Ar R.α}:(M.mapA f).arcs.length=M.arcs.length:=Qe ..
theorem jA {f:Ar R.α->Ar R.α}{P:Ar R.α->Prop} (h: ∀ys∈M.arcs,∀a∈ys,P (f a)): ∀ys∈(M.mapA f).arcs,∀a∈ys,P a:=λys hy a ha=>by
 obtain ⟨zs,hz,rfl⟩:=QF.mp hy;obtain ⟨b,hb,rfl⟩:=QF.mp ha;exact h zs hz b hb
theorem zA {p k:Nat}{f:Ar R.α->Ar R.α} (G:bD M p k) (F:LoF f):bD (M.mapA f) p k:=⟨by rw [mV];exact G.st,by
 rw [mV];exact jA (P:=λa=>a.t<M.arcs.length/\lab a.up/\lab a.lo/\R.D p k a.w/\a.w≠R.zero) λys hy a ha=>by
  obtain ⟨g1,g2,g3,g4⟩:=G.arc ys hy a ha;rw [F.t,F.w];exact ⟨g1,(F.l a g2 g3).1,(F.l a g2 g3).2,g4⟩,G.fst,G.ed,G.bd,by rw [mV];exact G.n,G.c⟩
def rdM (M:Mc R.α):Prop:= ∀ys∈M.arcs,∀a∈ys,a.up= [97]\/a.up= [98]
theorem zoa (H:rdM M):upE M:=λs ys hs a ha he=>by
 have:=(iF he).1
 rcases H ys (Qd hs) a ha with e|e<;>rw [e] at this<;>exact nomatch this
theorem zjP (H:j5 M) {a b i j s:Nat} (ha:a<=u.length) (hb:b<=l.length):Bv M (u.drop a) (l.drop b) i j s=Bv M u l (a+i) (b+j) s:=by
 unfold Bv;rw [zjQ H ha hb];have em:mU M (u.drop a) (l.drop b) i j s=mU M u l (a+i) (b+j) s:=by unfold mU;rw [Za,Za,Nat.sub_sub,Nat.sub_sub]
 rw [em]
theorem i6 {xs ys:List R.α}:a6 (xs++ys)=R.add (a6 xs) (a6 ys):=by
 induction xs with
 |nil=>exact (R.zero_add _).symm
 |cons x xs ih=>rw [ZG,aC,aC,ih,R.add_assoc]
theorem zcy {xs ys:List R.α} (h:xs.Perm ys):a6 xs=a6 ys:=by
 induction h with
 |nil=>rfl
 |cons x _ ih=>rw [aC,aC,ih]
 |swap x y l=>rw [aC,aC,aC,aC,R.swap]
 |trans _ _ i j=>exact i.trans j
theorem zcx {β γ:Type}{xs:List β}{ys:List γ}{f:β->γ->R.α}:a6 (xs.map λx=>a6 (ys.map (f x)))=a6 (ys.map λy=>a6 (xs.map λx=>f x y)):=by
 induction xs with
 |nil=>exact (cD λ_ _=>rfl).symm
 |cons x xs ih=>rw [Qz,aC,ih,<-qG];rfl
theorem mL {β:Type}{xs:List β}{f:β->R.α}{c:R.α}:a6 (xs.map λx=>R.mul c (f x))=R.mul c (a6 (xs.map f)):=by
 induction xs with
 |nil=>exact (R.mul_zero c).symm
 |cons x xs ih=>rw [Qz,Qz,aC,aC,ih,R.mul_add]
theorem zep {ws:List R.α}:tA ws=a6 ws:=by
 have: ∀ (l:List R.α) (z:R.α),l.foldl R.add z=R.add z (a6 l):=λl=>by
  induction l with
  |nil=>exact λz=>(R.add_zero z).symm
  |cons x l ih=>intro z;rw [Zy,ih,aC,R.add_assoc]
 exact (this ws R.zero).trans (R.zero_add _)
def wL:Nat->List (List Nat)
 |0=> [[]]
 |n+1=> []::((wL n).map (97:: ·)++(wL n).map (98:: ·))
theorem zbw {n:Nat}{f:List Nat->R.α}:a6 ((wL (n+1)).map f)=R.add (f []) (R.add (a6 ((wL n).map λw=>f (97::w))) (a6 ((wL n).map λw=>f (98::w)))):=by
 show a6 (f []::KA f ((wL n).map (97:: ·)++(wL n).map (98:: ·)))=_;rw [aC,Qy,i6,JY,JY];rfl
theorem zk4 {n:Nat}{c:R.α}{f:List Nat->R.α} (h:f []=c) (h2: ∀x w,f (x::w)=R.zero):a6 ((wL n).map f)=c:=by
 cases n with
 |zero=>exact (R.add_zero _).trans h
 |succ n=>rw [zbw,cD (f:=λw=>f (97::w)) λw _=>h2 97 w,cD (f:=λw=>f (98::w)) λw _=>h2 98 w,R.zero_add,R.add_zero,h]
theorem zko {x y:Nat}{w:List Nat}:fit (y::w) 0 [x]=true ↔ y=x:=by
 rw [jO];exact ⟨λe=>Qx.inj e,λe=>congrArg some e⟩
theorem zhO {n x:Nat}{F:List Nat->R.α} (hx:x=97\/x=98):a6 ((wL (n+1)).map λw=>bif fit w 0 [x] then F (w.drop 1) else R.zero)=a6 ((wL n).map F):=by
 have f0:fit [] 0 [x]=false:=by
  cases h:fit [] 0 [x] with
  |false=>rfl
  |true=>exact nomatch jO.mp h
 have ft: ∀ {w:List Nat},fit (x::w) 0 [x]=true:=zko.mpr rfl;have ff: ∀ {y:Nat}{w:List Nat},y≠x->fit (y::w) 0 [x]=false:=λ{y w} hn=>by
  cases h:fit (y::w) 0 [x] with
  |false=>rfl
  |true=>exact absurd (zko.mp h) hn
 rw [zbw,f0,cond_false,R.zero_add];rcases hx with rfl|rfl
 ·rw [cD (f:=λw=>bif fit (98::w) 0 [97] then F ((98::w).drop 1) else R.zero) λw _=>by rw [ff (by decide)];rfl,R.add_zero]
  exact bL λw _=>by rw [ft];rfl
 ·rw [cD (f:=λw=>bif fit (97::w) 0 [98] then F ((97::w).drop 1) else R.zero) λw _=>by rw [ff (by decide)];rfl,R.zero_add]
  exact bL λw _=>by rw [ft];rfl
def wrM (M:Mc R.α):Prop:= ∀ys∈M.arcs,∀a∈ys,a.lo= [97]\/a.lo= [98]\/a.lo= []
theorem zmM {c:List Nat} (h:c= [97]\/c= [98]):lab c:=h.elim (λe=> .inr ⟨97,e,by decide+kernel⟩) λe=> .inr ⟨98,e,by decide+kernel⟩
theorem zlE {i n x:Nat}{a:Ar R.α} (H:j5 M) (hn:u.length<=n+i) (hu:a.up= [x]) (lx:lab a.up) (hl:a.lo= [97]\/a.lo= [98]\/a.lo= []) (ih:i<u.length-> ∀m,u.length<=m+(i+1) ->a6 ((wL m).map λw=>Bv M (u.drop (i+1)) w 0 0 a.t)=Bv (M.mapA (sdA true)) u u (i+1) (i+1) a.t):
  a6 ((wL n).map λw=>bif bW (u.drop i) w 0 0 a then R.mul a.w (Bv M (u.drop i) w (0+a.up.length) (0+a.lo.length) a.t) else R.zero)=(bif bW u u i i (sdA true a) then R.mul a.w (Bv (M.mapA (sdA true)) u u (i+1) (i+1) a.t) else R.zero):=by
 have e0:bW u u i i (sdA true a)=fit u i a.up:=Bool.and_self _;have e1:fit (u.drop i) 0 a.up=fit u i a.up:=by rw [rT lx];rfl
 rw [e0];unfold bW;rw [e1];cases hf:fit u i a.up with
 |false=>exact cD λw _=>rfl
 |true=>
  have hi:i<u.length:=aH (jO.mp (hu▸hf));have ih:=ih hi;have eb: ∀ {w:List Nat}{b:Nat},b<=w.length->Bv M (u.drop i) w (0+a.up.length) (0+b) a.t=Bv M (u.drop (i+1)) (w.drop b) 0 0 a.t:=λ{w b} hb=>by
   rw [hu]
   have:=zjP (u:=u.drop i) (l:=w) (a:=1) (b:=b) (i:=0) (j:=0) (s:=a.t) H (by rw [Za];exact QM (Yb hi)) hb
   rw [List.drop_drop] at this;rw [this];show Bv M (u.drop i) w 1 (0+b) a.t=Bv M (u.drop i) w 1 b a.t;rw [Jv]
  rw [cond_true];have gen: ∀c,(c=97\/c=98) ->a.lo= [c]->a6 ((wL n).map λw=>bif (true && fit w 0 a.lo) then R.mul a.w (Bv M (u.drop i) w (0+a.up.length) (0+a.lo.length) a.t) else R.zero)=R.mul a.w (Bv (M.mapA (sdA true)) u u (i+1) (i+1) a.t):=λc hc e=>by
   obtain ⟨m,rfl⟩: ∃m,n=m+1:=⟨n-1,by lia⟩;rw [<-ih m (by lia),<-mL];refine Eq.trans (bL λw _=>?_) (zhO (n:=m) (F:=λw=>R.mul a.w (Bv M (u.drop (i+1)) w 0 0 a.t)) hc);rw [Z6,e];cases hw:fit w 0 [c] with
   |false=>rfl
   |true=>
    have hl1:1<=w.length:=aH (jO.mp hw);rw [cond_true,cond_true];exact congrArg _ (eb (b:=1) hl1)
  rcases hl with e|e|e
  ·exact gen 97 (.inl rfl) e
  ·exact gen 98 (.inr rfl) e
  ·rw [<-ih n (Qa hn (QA (Qj _) (Qf _ _))),<-mL]
   refine bL λw _=>?_;rw [e];exact congrArg _ (eb (b:=0) (Qs _))
theorem zlD (H:j5 M) (HP:j5 (M.mapA (sdA true))) (Hr:rdM M) (Hw:wrM M): ∀ {k i n s:Nat},u.length-i<k->i<=u.length->u.length<=n+i->a6 ((wL n).map λw=>Bv M (u.drop i) w 0 0 s)=Bv (M.mapA (sdA true)) u u i i s:=by
 intro k
 induction k with
 |zero=>exact λh=>absurd h (QX _)
 |succ k ih=>
  intro i n s hk hi hn;rw [bL (l:=wL n) (F:=λw=>Bv M (u.drop i) w 0 0 s) (G:=λw=>R.add (if 0=(u.drop i).length/\0=w.length then eAt M s else R.zero) (cH (Bv M (u.drop i) w) (u.drop i) w 0 0 (aAt M s))) λw _=>pB H (Qs _) (Qs _)];rw [pB HP hi hi,qG];unfold xB;rw [zjI]
  congr 1
  ·refine zk4 ?_ λx w=>if_neg (λq=>nomatch q.2)
   rw [Za];by_cases e:i=u.length
   ·rw [if_pos ⟨by lia,rfl⟩,if_pos ⟨e,e⟩];rfl
   ·rw [if_neg (by lia),if_neg (by lia)]
  ·unfold cH
   rw [zcx,JY];refine bL λa ha=>?_;obtain ⟨ys,hy,_,hay⟩:=p8 ha;obtain ⟨x,hx⟩: ∃x,a.up= [x]:=(Hr ys hy a hay).elim (λe=>⟨_,e⟩) λe=>⟨_,e⟩
   have:=zlE H hn hx (zmM (Hr ys hy a hay)) (Hw ys hy a hay) λhi' m hm=>ih (s:=a.t) (Qi (Nat.sub_lt_sub_left hi' (QD _)) (QP hk)) hi' hm
   rw [this];show _=bif bW u u i i (sdA true a) then R.mul a.w (Bv (M.mapA (sdA true)) u u (i+a.up.length) (i+a.up.length) a.t) else R.zero;rw [hx];rfl
theorem zeb {f:List Nat->R.α}:a6 (wds.map f)=a6 ((wL 2).map f):=zcy (List.Perm.map f (show wds.Perm (wL 2) from by decide+kernel))
theorem ziA (Hp: ∀ys∈M.arcs,∀a∈ys,a.up=a.lo/\lab a.up): ∀ {f i s:Nat},u.drop i≠l.drop i->BH M u l f i i s=R.zero:=by
 intro f
 induction f with
 |zero=>exact λ_=>rfl
 |succ f ih=>
  intro i s hn;show R.add (if i=u.length/\i=l.length then eAt M s else R.zero) (cH (BH M u l f) u l i i (aAt M s))=_;rw [if_neg (λq=>hn (by rw [Kl (Qt q.1.symm),Kl (Qt q.2.symm)])),R.zero_add];refine cD λa ha=>?_;obtain ⟨ys,hy,_,hay⟩:=p8 ha;obtain ⟨e,la⟩:=Hp ys hy a hay;cases hh:bW u l i i a with
  |false=>rfl
  |true=>
   have h2:=Qb.mp hh;rw [cond_true,<-e,ih,R.mul_zero];rcases la with e0| ⟨c,e0,_⟩
   ·rw [e0];exact hn
   ·rw [<-e,e0] at h2
    rw [e0];have h1:=jO.mp h2.1;have h3:=jO.mp h2.2;obtain ⟨l1,f1⟩:=Qg.mp h1;obtain ⟨l2,f2⟩:=Qg.mp h3;rw [JH l1,JH l2,f1,f2] at hn;exact λq=>hn (congrArg _ q)
end
section
variable {R:Rg}{M V:Mc R.α}{u l U W:List Nat}
theorem uL {n k:Nat}{f:Nat->Nat->R.α}:(bX n λi=>bX k λj=>f i j)=bX k λj=>bX n λi=>f i j:=by
 induction n with
 |zero=>exact (cV λ_ _=>rfl).symm
 |succ n ih=>show R.add _ _=_;rw [ih,<-zex];rfl
theorem zcw {n:Nat}{f:Nat->R.α}:bX (n+1) f=R.add (f 0) (bX n λj=>f (j+1)):=by
 induction n with
 |zero=>show R.add R.zero _=R.add _ R.zero;rw [R.zero_add,R.add_zero]
 |succ n ih=>show R.add (bX (n+1) f) _=R.add _ (R.add _ _);rw [ih,R.add_assoc]
theorem xW {β:Type}{n k:Nat}{A:Nat->List β}{f:Nat->Nat->β->R.α}:(bX n λj=>bX k λs=>a6 ((A s).map λa=>f j s a))=bX k λs=>a6 ((A s).map λa=>bX n λj=>f j s a):=uL.trans (bC λs _=>uM (f:=λa j=>f j s a))
theorem zcv {n:Nat}{f:Nat->R.α}{c:R.α}:R.mul (bX n f) c=bX n λi=>R.mul (f i) c:=by
 rw [R.mul_comm,<-zew];exact bC λi _=>R.mul_comm _ _
theorem uN {n t:Nat}{x:R.α}{Y:Nat->R.α} (ht:t<n):(bX n λk=>R.mul (if t=k then x else R.zero) (Y k))=R.mul x (Y t):=by
 rw [qF ht λk _ hk=>by rw [if_neg (JE hk),R.zero_mul],if_pos rfl]
theorem zg8 {F:Ar R.α->R.α} (h0: ∀a,a.w=R.zero->F a=R.zero) {s:Nat}: ∀ {l:List (Nat×Ar R.α)}{A:Nat->List (Ar R.α)},a6 ((nK A l s).map F)=R.add (a6 ((A s).map F)) (a6 (l.map λp=>if p.1=s then F p.2 else R.zero)):=by
 intro l
 induction l with
 |nil=>exact λ{A} =>(R.add_zero _).symm
 |cons p l ih=>
  intro A;show a6 ((nK (oL A p.1 p.2) l s).map F)=_;rw [ih,Qz,aC,<-R.add_assoc]
  congr 1
  unfold oL;by_cases e:p.1=s
  ·subst e
   rw [if_pos rfl,if_pos rfl,Qy,i6]
   congr 1
   by_cases hz:p.2.w=R.zero
   ·rw [if_pos hz,h0 _ hz];rfl
   ·rw [if_neg hz];exact R.add_zero _
  ·rw [if_neg e,if_neg e,R.add_zero]
theorem zim {G:Nat×Ar R.α->R.α}{n:Nat}:a6 ((rvR M n 0).map G)=bX n λs=>a6 ((aAt M s).map λa=>G (rvP s a)):=by
 induction n with
 |zero=>rfl
 |succ n ih=>
  rw [<-yI];have e:rvR M n (aAt M n).length=rvR M n 0++(aAt M n).map (rvP n):=by
   unfold rvR;rw [QR,List.take_zero,List.map_nil,Q7]
  rw [e,Qy,i6,ih,JY];rfl
theorem zio {G:Nat×Ar R.α->R.α}{n:Nat}:a6 (((QS n).map (rvE M)).map G)=bX n λk=>G (rvE M k):=by
 induction n with
 |zero=>rfl
 |succ n ih=>
  rw [ZO,Qy,Qy,i6,ih];show R.add _ (R.add _ R.zero)=R.add _ _;rw [R.add_zero]
structure RvM (M V:Mc R.α):Prop where
 n:V.arcs.length=1+M.arcs.length
 a: ∀s,s<1+M.arcs.length->aAt V s=nK (λ_=> []) (rvL M M.arcs.length M.arcs.length) s
 e: ∀s,eAt V s=if s=1+M.start then M.first else R.zero
 st:V.start=0
 fi:V.first=R.one
theorem zlp {c:Nat} (P:Ma (1+M.arcs.length) c (nK (λ_=> []) (rvL M M.arcs.length M.arcs.length)) ((QB (1+M.arcs.length) R.zero).set (1+M.start) M.first) V) (hs:M.start<M.arcs.length):RvM M V:=⟨P.len,P.at',λs=>by
 show V.ends[s]?.getD R.zero=_;rw [P.es];by_cases e:1+M.start=s
 ·subst e
  rw [QI (by rw [Q5];exact QT hs 1),if_pos rfl];rfl
 ·rw [QJ e,if_neg (JE e),JJ]
  by_cases h:s<1+M.arcs.length
  ·rw [if_pos h];rfl
  ·rw [if_neg h];rfl,P.st,P.fi⟩
section
variable (H:RvM M V)
include H
theorem zbJ {B:Nat->Nat->Nat->R.α}{i j s:Nat} (hs:s<1+M.arcs.length):cH B U W i j (aAt V s)=R.add (bX M.arcs.length λk=>a6 ((aAt M k).map λa=>if 1+a.t=s then (bif bW U W i j a then R.mul a.w (B (i+a.up.length) (j+a.lo.length) (1+k)) else R.zero) else R.zero)) (bX M.arcs.length λk=>if 0=s then R.mul (eAt M k) (B i j (1+k)) else R.zero):=by
 unfold cH;rw [H.a s hs,zg8 λa h=>by rw [h,R.zero_mul];cases bW U W i j a<;>rfl];rw [Qy,i6,zim,zio];exact R.zero_add _
variable (HV:j5 V)
include HV
theorem zn7 {i j k:Nat} (hi:i<=U.length) (hj:j<=W.length) (hk:k<M.arcs.length):Bv V U W i j (1+k)=R.add (if i=U.length/\j=W.length then (if k=M.start then M.first else R.zero) else R.zero) (bX M.arcs.length λs=>a6 ((aAt M s).map λa=>if a.t=k then (bif bW U W i j a then R.mul a.w (Bv V U W (i+a.up.length) (j+a.lo.length) (1+s)) else R.zero) else R.zero)):=by
 rw [pB HV hi hj];unfold xB;rw [zbJ H (QT hk 1),H.e,cV (f:=λk'=>if 0=1+k then R.mul (eAt M k') (Bv V U W i j (1+k')) else R.zero) λ_ _=>if_neg (by lia),R.add_zero]
 congr 1
 ·have e:(if 1+k=1+M.start then M.first else R.zero)=if k=M.start then M.first else R.zero:=by
   by_cases h:k=M.start
   ·rw [if_pos h,if_pos (Zx (QA (Qj _) (Qt h)) (QA (Qj _) (Qt (K8 h))))]
   ·rw [if_neg h,if_neg (by lia)]
  rw [e]
 ·refine bC λs _=>bL λa _=>?_
  by_cases h:a.t=k
  ·rw [if_pos h,if_pos (Zx (QA (Qj _) (Qt h)) (QA (Qj _) (Qt (K8 h))))]
  ·rw [if_neg h,if_neg (by lia)]
theorem zvS:R.mul V.first (Bv V U W 0 0 V.start)=bX M.arcs.length λk=>R.mul (Bv V U W 0 0 (1+k)) (eAt M k):=by
 rw [H.fi,R.one_mul,H.st,pB HV (Qs _) (Qs _)];unfold xB;rw [zbJ H (by exact JF (Qf _ _)),H.e,if_neg (show ¬(0=1+M.start) by exact Zd (JF (Qf _ _))),cV (f:=λk=>a6 ((aAt M k).map λa=>if 1+a.t=0 then (bif bW U W 0 0 a then R.mul a.w (Bv V U W (0+a.up.length) (0+a.lo.length) (1+k)) else R.zero) else R.zero)) λk _=>cD λa _=>if_neg (by exact JI (JF (Qf _ _)))];have e0:(if 0=U.length/\0=W.length then R.zero else R.zero)=R.zero:=by split<;>rfl
 rw [e0,R.zero_add,R.zero_add];exact bC λk _=>by rw [if_pos rfl,R.mul_comm]
end
theorem zlz {w:List Nat}{i:Nat} (h:i<w.length):w.reverse[i]?=w[w.length-(i+1)]?:=by
 rw [List.getElem?_reverse h];congr 1;lia
theorem zb4 {w:List Nat}{i c:Nat} (h:i<w.length):fit w.reverse i [c]=fit w (w.length-(i+1)) [c]:=zL (by rw [jO,jO,zlz h])
theorem pX {w:List Nat}{c i:Nat} (h:w.length<=i):fit w i [c]=false:=by
 cases e:fit w i [c] with
 |false=>rfl
 |true=>exact absurd (aH (jO.mp e)) (ZV.mpr h)
theorem zae {m:Nat}{F G:Nat->R.α} (h: ∀j,j<m->F j=G (j+1)) (h1:F m=R.zero) (h2:G 0=R.zero):bX (m+1) F=bX (m+1) G:=by
 rw [zcw (f:=G),h2,R.zero_add];show R.add (bX m F) (F m)=_;rw [h1,R.add_zero];exact bC h
theorem zls {i x:Nat}{a:Ar R.α}{Z:Nat->R.α}{Y:Nat->R.α} (hi:i<u.length) (hu:a.up= [x]) (hl:a.lo= []\/∃c,a.lo= [c]):
  (bX (l.length+1) λj=>R.mul (bif bW u.reverse l.reverse i j a then R.mul a.w (Z (j+a.lo.length)) else R.zero) (Y (l.length-j)))=bX (l.length+1) λj=>R.mul (Z j) (bif bW u l (u.length-(i+1)) (l.length-j) a then R.mul a.w (Y (l.length-j+a.lo.length)) else R.zero):=by
 unfold bW;rw [hu,zb4 hi];cases fit u (u.length-(i+1)) [x] with
 |false=>rw [cV λj _=>by rw [Kj,cond_false,R.zero_mul],cV λj _=>by rw [Kj,cond_false,R.mul_zero]]
 |true=>
  rcases hl with e| ⟨c,e⟩
  ·rw [e]
   refine bC λj _=>?_;show R.mul (R.mul a.w (Z j)) (Y (l.length-j))=R.mul (Z j) (R.mul a.w (Y (l.length-j)));rw [R.mul_comm a.w,R.mul_assoc]
  ·rw [e]
   refine zae (λj hj=>?_) ?_ ?_
   ·rw [zb4 hj,Z6,show l.length-(j+1)+ [c].length=l.length-j from by show l.length-(j+1)+1=_;lia]
    cases fit l (l.length-(j+1)) [c] with
    |false=>rw [cond_false,cond_false,R.zero_mul,R.mul_zero]
    |true=>
     show R.mul (R.mul a.w (Z (j+1))) (Y (l.length-j))=R.mul (Z (j+1)) (R.mul a.w (Y (l.length-j)));rw [R.mul_comm a.w,R.mul_assoc]
   ·rw [pX (w:=l.reverse) (by rw [Jx];exact Qj _),Z6,cond_false,R.zero_mul]
   ·rw [Yr,pX (w:=l) (Qj _),Z6,cond_false,R.mul_zero]
def rvX (M V:Mc R.α) (u l:List Nat) (i:Nat):R.α:=bX (l.length+1) λj=>bX M.arcs.length λk=>R.mul (Bv V u.reverse l.reverse i j (1+k)) (Bv M u l (u.length-i) (l.length-j) k)
section
variable (H:RvM M V) (HV:j5 V) (HM:j5 M) (Hr:rdM M)
include H HV HM Hr
theorem nU {s:Nat}{a:Ar R.α} (ha:a∈aAt M s):(∃x,a.up= [x])/\(a.lo= []\/∃c,a.lo= [c])/\a.t<M.arcs.length:=by
 obtain ⟨ys,hy,_,hay⟩:=p8 ha;refine ⟨(Hr ys hy a hay).elim (λe=>⟨_,e⟩) λe=>⟨_,e⟩,?_,HM.t ys hy a hay⟩;exact (HM.l ys hy a hay).2.elim .inl λ⟨c,e,_⟩=> .inr ⟨c,e⟩
theorem zik {i:Nat} (hi:i<u.length):rvX M V u l i=rvX M V u l (i+1):=by
 have lu:u.reverse.length=u.length:=Jx ..;have ll:l.reverse.length=l.length:=Jx ..;have e1:rvX M V u l i=bX M.arcs.length λs=>a6 ((aAt M s).map λa=>bX (l.length+1) λj=>R.mul (bif bW u.reverse l.reverse i j a then R.mul a.w (Bv V u.reverse l.reverse (i+1) (j+a.lo.length) (1+s)) else R.zero) (Bv M u l (u.length-i) (l.length-j) a.t)):=by
  unfold rvX;refine Eq.trans (bC λj hj=>?_) xW;have z: ∀k,k<M.arcs.length->R.mul (Bv V u.reverse l.reverse i j (1+k)) (Bv M u l (u.length-i) (l.length-j) k)=bX M.arcs.length λs=>a6 ((aAt M s).map λa=>R.mul (if a.t=k then (bif bW u.reverse l.reverse i j a then R.mul a.w (Bv V u.reverse l.reverse (i+1) (j+a.lo.length) (1+s)) else R.zero) else R.zero) (Bv M u l (u.length-i) (l.length-j) k)):=λk hk=>by
   rw [zn7 H HV (by rw [lu];exact QC hi) (by rw [ll];exact QP hj) hk,if_neg (by lia),R.zero_add,zcv];refine bC λs _=>?_;rw [zcz];refine bL λa ha=>?_;obtain ⟨x,hx⟩:=(nU H HV HM Hr ha).1;rw [hx];rfl
  rw [bC z,uL];refine bC λs _=>?_;rw [uM];refine bL λa ha=>?_;exact uN (nU H HV HM Hr ha).2.2
 have e2:rvX M V u l (i+1)=bX M.arcs.length λs=>a6 ((aAt M s).map λa=>bX (l.length+1) λj=>R.mul (Bv V u.reverse l.reverse (i+1) j (1+s)) (bif bW u l (u.length-(i+1)) (l.length-j) a then R.mul a.w (Bv M u l (u.length-i) (l.length-j+a.lo.length) a.t) else R.zero)):=by
  unfold rvX;refine Eq.trans (bC λj hj=>bC λs _=>?_) xW;rw [pB HM (Kb _ _) (Kb _ _)];unfold xB cH;rw [if_neg (by lia),R.zero_add,<-mL];refine bL λa ha=>?_;obtain ⟨x,hx⟩:=(nU H HV HM Hr ha).1;rw [show u.length-(i+1)+a.up.length=u.length-i by rw [hx];show u.length-(i+1)+1=_;lia]
 rw [e1,e2];refine bC λs _=>bL λa ha=>?_;obtain ⟨⟨x,hx⟩,hl,_⟩:=nU H HV HM Hr ha;exact zls (Z:=λj=>Bv V u.reverse l.reverse (i+1) j (1+s)) (Y:=λj=>Bv M u l (u.length-i) j a.t) hi hx hl
theorem zlt: ∀ {i:Nat},i<=u.length->rvX M V u l 0=rvX M V u l i:=by
 intro i
 induction i with
 |zero=>exact λ_=>rfl
 |succ i ih=>exact λh=>(ih (QC h)).trans (zik H HV HM Hr h)
theorem zlr (hs:M.start<M.arcs.length):R.mul V.first (Bv V u.reverse l.reverse 0 0 V.start)=R.mul M.first (Bv M u l 0 0 M.start):=by
 have lu:u.reverse.length=u.length:=Jx ..;have ll:l.reverse.length=l.length:=Jx ..;have e1:rvX M V u l 0=bX M.arcs.length λk=>R.mul (Bv V u.reverse l.reverse 0 0 (1+k)) (eAt M k):=by
  unfold rvX;have y: ∀j k,j<l.length+1->Bv M u l (u.length-0) (l.length-j) k=if j=0 then eAt M k else R.zero:=λj k hj=>by
   rw [pB HM (Kb _ _) (Kb _ _)];unfold xB cH;rw [cD λa ha=>by
    obtain ⟨x,hx⟩:=(nU H HV HM Hr ha).1;unfold bW;rw [hx,Yr,pX (w:=u) (Qj _)];rfl,R.add_zero]
   by_cases h:j=0
   ·rw [if_pos h,if_pos (by lia)]
   ·rw [if_neg h,if_neg (by lia)]
  rw [qF (i:=0) (Jo _) λj hj hn=>cV λk _=>by rw [y j k hj,if_neg hn,R.mul_zero]];exact bC λk _=>by rw [y 0 k (Jo _),if_pos rfl]
 have e2:rvX M V u l u.length=R.mul M.first (Bv M u l 0 0 M.start):=by
  unfold rvX;have z: ∀j k,j<l.length+1->k<M.arcs.length->Bv V u.reverse l.reverse u.length j (1+k)=if j=l.length then (if M.start=k then M.first else R.zero) else R.zero:=λj k hj hk=>by
   rw [zn7 H HV (Qt lu.symm) (by rw [ll];exact QP hj) hk,cV λs _=>cD λa ha=>by
    obtain ⟨x,hx⟩:=(nU H HV HM Hr ha).1;unfold bW;rw [hx,pX (w:=u.reverse) (Qt lu),Kj,cond_false]
    split<;>rfl,R.add_zero,lu,ll]
   by_cases h:j=l.length
   ·rw [if_pos ⟨rfl,h⟩,if_pos h]
    by_cases h2:k=M.start
    ·rw [if_pos h2,if_pos h2.symm]
    ·rw [if_neg h2,if_neg (JE h2)]
   ·rw [if_neg h,if_neg λq=>h q.2]
  rw [qF (i:=l.length) (QD _) λj hj hn=>cV λk hk=>by rw [z j k hj hk,if_neg hn,R.zero_mul]];rw [bC λk hk=>by rw [z l.length k (QD _) hk,if_pos rfl],uN hs,ZK,ZK]
 rw [zvS H HV,<-e1,zlt H HV HM Hr (Qj _),e2]
end
end
section
variable {R:Rg}{M V:Mc R.α}{u l:List Nat}
theorem gN.map {us us':List (List Nat)}{f:Ar R.α->Ar R.α} (Z:gN us M) (F:LoF f) (hu:upE (M.mapA f)) (hs: ∀a:Ar R.α,a.up∈us->a.lo∈los->(f a).up∈us'/\(f a).lo∈los):gN us' (M.mapA f):=
 ⟨zA Z.g F,hu,by rw [mV];exact Z.n,Z.c,jA (P:=λa=>a.up∈us'/\a.lo∈los) λys hy a ha=>hs a (Z.us ys hy a ha).1 (Z.us ys hy a ha).2⟩
abbrev ab:List (List Nat):= [[97],[98]]
theorem zkC {c:List Nat} (h:c∈ab):c= [97]\/c= [98]:=(QE.mp h).imp id Qu.mp
theorem znq {c:List Nat} (h:c∈ab):c∈los:=(zkC h).elim (λe=>e▸ .head _) λe=>e▸ .tail _ (.head _)
theorem zmA {c:List Nat} (h:c∈los):c= [97]\/c= [98]\/c= []:=(QE.mp h).imp id λh=>(QE.mp h).imp id Qu.mp
theorem gN.rd (Z:gN ab M):rdM M:=λys hy a ha=>zkC (Z.us ys hy a ha).1
theorem gN.wr (Z:gN ab M):wrM M:=λys hy a ha=>zmA (Z.us ys hy a ha).2
abbrev pjM (M:Mc R.α):Mc R.α:=M.mapA (sdA true)
theorem pj_ok' (Z:gN ab M):gN ab (pjM M):=Z.map zuK (zoa (jA (P:=λa=>a.up= [97]\/a.up= [98]) λys hy a ha=>Z.rd ys hy a ha)) λa h _=>⟨h,znq h⟩
theorem zuR:(M.mapA swA).mapA (sdA false)=pjM M:=by
 have e:(M.arcs.map λxs=>xs.map swA).map (λxs:List (Ar R.α)=>xs.map (sdA false))=M.arcs.map λxs=>xs.map (sdA true):=by
  rw [JY];exact Ja λxs _=>JY ..
 unfold pjM Mc.mapA;exact congrArg (λas=> {M with arcs:=as}) e
theorem zff: ∀ys∈(pjM M).arcs,∀a∈ys,a.up=a.lo:=jA λ_ _ _ _=>rfl
theorem zaX {us:List (List Nat)} (Z:gN us M):j5 M:=Z.g.lab Z.up
theorem zfg (Z:gN ab M) (hu:u.length<=2):tA (wds.map (wtv M u))=wtv (pjM M) u u:=by
 rw [zep,zeb];show a6 ((wL 2).map λw=>R.mul M.first (Bv M u w 0 0 M.start))=R.mul M.first (Bv (pjM M) u u 0 0 M.start);rw [mL,<-zlD (zaX Z) (zaX (pj_ok' Z)) Z.rd Z.wr (i:=0) (n:=2) (QD _) (Qs _) hu];rfl
theorem ziC (Z:gN ab M) (h:u≠l):wtv (pjM M) u l=R.zero:=by
 show R.mul M.first (BH (pjM M) u l _ 0 0 M.start)=_;rw [ziA (M:=pjM M) (jA (f:=sdA true) (P:=λa=>a.up=a.lo/\lab a.up) λys hy a ha=>⟨rfl,(Z.g.arc ys hy a ha).2.1⟩) (i:=0) h,R.mul_zero]
theorem zg9 {a:Ar R.α}{s:Nat}: ∀ {l:List (Nat×Ar R.α)}{A:Nat->List (Ar R.α)},a∈nK A l s->a∈A s\/((s,a)∈l/\a.w≠R.zero):=by
 intro l
 induction l with
 |nil=>exact λh=> .inl h
 |cons p l ih=>
  intro A h;rcases ih (A:=oL A p.1 p.2) h with h|h
  ·unfold oL at h
   by_cases e:p.1=s
   ·subst e
    rw [if_pos rfl] at h;rcases QU.mp h with h|h
    ·exact .inl h
    ·by_cases hz:p.2.w=R.zero
     ·rw [if_pos hz] at h;exact absurd h Qq
     ·rw [if_neg hz] at h;cases Qu.mp h;exact .inr ⟨.head _,hz⟩
   ·rw [if_neg e] at h;exact .inl h
  ·exact .inr ⟨.tail _ h.1,h.2⟩
theorem zin {n k s:Nat}{a:Ar R.α} (h:(s,a)∈rvL M n k):(∃i b,i<n/\b∈aAt M i/\s=1+b.t/\a= {b with t:=1+i})\/(∃i,i<k/\s=0/\a=emA (eAt M i) (1+i)):=by
 rcases QU.mp h with h|h
 ·refine .inl ?_
  unfold rvR at h;rw [List.take_zero,List.map_nil,Q7] at h;obtain ⟨i,hi,h⟩:=List.mem_flatMap.mp h;obtain ⟨b,hb,e⟩:=QF.mp h;cases e;exact ⟨i,b,J8.mp hi,hb,rfl,rfl⟩
 ·obtain ⟨i,hi,e⟩:=QF.mp h
  cases e;exact .inr ⟨i,J8.mp hi,rfl,rfl⟩
theorem zil (Z:gN ab M) (H:RvM M V) (hE:V.ends.length=V.arcs.length) (hc:V.cnt<=11):bD V 1 1/\upE V:=by
 have n4:=Z.n;have arc: ∀ {s:Nat}{ys:List (Ar R.α)},V.arcs[s]?=some ys-> ∀a∈ys,(a.t<V.arcs.length/\lab a.up/\lab a.lo/\R.D 1 1 a.w/\a.w≠R.zero)/\(a.emp=true->s<a.t):=λ{s ys} hs a ha=>by
  have hsl:=aH hs;rw [H.n] at hsl ⊢;rw [<-zhc hs,H.a s hsl] at ha;rcases zg9 ha with ha| ⟨ha,hz⟩
  ·exact absurd ha Qq
  rcases zin ha with ⟨i,b,hi,hb,rfl,rfl⟩| ⟨i,hi,rfl,rfl⟩
  ·obtain ⟨zs,hz2,_,hbz⟩:=p8 hb
   obtain ⟨g1,g2,g3,g4,g5⟩:=Z.g.arc zs hz2 b hbz;refine ⟨⟨QT hi 1,g2,g3,g4,g5⟩,λhe=>?_⟩;have e0:b.up= []:=(iF he).1;rcases Z.rd zs hz2 b hbz with e|e<;>rw [e] at e0<;>exact nomatch e0
  ·exact ⟨⟨QT hi 1,.inl rfl,.inl rfl,Z.g.eAtD i,hz⟩,λ_=>Qi Yd (Qf _ _)⟩
 refine ⟨⟨by rw [H.st,H.n];exact Qi Yd (Qf _ _),λys hy a ha=>?_,by rw [H.fi];exact R.D_mono (Qs _) (Qs _) R.D_one,λe he=>?_,by decide,by rw [H.n];exact Qa (Ql n4 _) (Qn _ _),Qa hc (Qn _ _)⟩,λs ys hs a ha=>(arc hs a ha).2⟩
 ·obtain ⟨s,hs⟩:=Kq.mp hy
  exact (arc hs a ha).1
 ·obtain ⟨s,hs⟩:=Kq.mp he
  have ee:eAt V s=e:=by unfold eAt;rw [hs];rfl
  rw [<-ee,H.e];by_cases h:s=1+M.start
  ·rw [if_pos h];exact Z.g.fst
  ·rw [if_neg h];exact R.D_mono (Qs _) (Qs _) R.D_zero
theorem zwR: ∀n,n<6-> ∀c,c<12-> ∀x,x<3-> ∀y,y<3->1+(x+1)*(y+1)*(c+1)<100000/\4*((1+1*n)*(x+y+2))+((1+((1+c)*n+n+1+n))*(x+y+2)+(1+(x+1)*(y+1)*(c+1)+n))<=3800:=by decide+kernel
def bks:List (List Nat):= [[],[97],[98],[97,97],[98,97],[97,98],[98,98]]
theorem zku: ∀u∈wds,bks[wds.idxOf u]?=some u.reverse/\wds.contains u=true:=by decide+kernel
theorem Wod.rev (w:Wod u):Wod u.reverse:=⟨by rw [Jx];exact w.n,λc hc=>w.c c (List.mem_reverse.mp hc)⟩
theorem zhW: ∀ {l:List (List Nat)},(l.map Val.str).mapM Val.str?=some l:=by
 intro l
 induction l with
 |nil=>rfl
 |cons a l ih=>rw [Qz,ZW,ih];rfl
end
section
variable {R:Rg}{d:Nat}{g h:MH}{Q:Val->MH->Prop}{M V:Mc R.α}{L:Ly}{u l:List Nat}{R':Fl->Internal.Frame->MH->Prop}
structure PX (R:Rg) where
 g0:MH
 M:Mc R.α
 L:Ly
 ns:List Int
 aW:Nat
 u:List Nat
 l:List Nat
structure PO (X:PX R):Prop where
 ne:R.one≠R.zero
 I:IsM R X.g0 X.L X.M
 Z:gN ab X.M
 W:X.g0[X.aW]?=some (.list (wds.map .str))
 wu:Wod X.u/\X.u∈wds
 wl:Wod X.l/\X.l∈wds
abbrev pwF (X:PX R) (a b c e f:Option Val):Internal.Frame:=some (.fl (X.ns.map .int))::some (.top (112+R.i))::some (.ref X.L.m)::some (.ref X.aW)::some (.str X.u)::some (.str X.l)::a::b::c::e::f::nn 5
abbrev pwC:Ex:= .comp (.call (.lit (.top 106)) [.var 2,.var 4,.var 10]) [10] false (.var 3) []
abbrev PX.due (X:PX R):R.α:=tA (wds.map (wtv X.M X.u))
section
variable {X:PX R} (O:PO X)
include O
theorem ziy (hd:10<=d): ∃t,eval (Cxd P0 d) pwC (pwF X none none none none none) X.g0=some (.ref X.g0.length,X.g0++ .list ((wds.map (wtv X.M X.u)).map R.e)::t):=by
 obtain ⟨v,g,e,t,rfl,rfl⟩:=W.get (o:=eval (Cxd P0 d) pwC (pwF X none none none none none) X.g0) (Q:=λv g=> ∃t,v= .ref X.g0.length/\g=X.g0++ .list ((wds.map (wtv X.M X.u)).map R.e)::t) (mD (a:=X.aW) (vs:=wds.map .str) (λh1 ys t=>h1=X.g0/\ys=((wds.take ys.length).map (wtv X.M X.u)).map R.e) (by show 7<200000;decide) (by show 7<=1000000;decide) (by
  have N:Val.ref X.aW= .ref X.aW/\X.g0[X.aW]?=some (.list (wds.map .str))/\(X.g0=X.g0/\([]:List Val)=((wds.take 0).map (wtv X.M X.u)).map R.e)/\(∀ys t v,(X.g0=X.g0/\ys=((wds.take ys.length).map (wtv X.M X.u)).map R.e) ->(wds.map Val.str)[ys.length]?=some v->WE (Cxd P0 d) ((pwF X none none none none none).set 10 (some v)) (.call (.lit (.top 106)) [.var 2,.var 4,.var 10]) (X.g0++ .list ys::t) λy h3=> ∃s,h3=X.g0++ .list ys::(t++s)/\X.g0=X.g0/\ys++ [y]=((wds.take (ys++ [y]).length).map (wtv X.M X.u)).map R.e)/\∀ys t,ys.length=(wds.map Val.str).length->(X.g0=X.g0/\ys=((wds.take ys.length).map (wtv X.M X.u)).map R.e) -> ∃t',Val.ref X.g0.length= .ref X.g0.length/\X.g0++ .list ys::t=X.g0++ .list ((wds.map (wtv X.M X.u)).map R.e)::t':=by
   refine ⟨rfl,O.W,⟨rfl,rfl⟩,λys t v J hv=>?_,λys t hl J=>⟨t,rfl,by rw [J.2,hl,Qe,QR]⟩⟩;rw [Qo] at hv;obtain ⟨w,hw,rfl⟩:=Jj.mp hv;have ww:Wod w:=by
    obtain ⟨w',e',q,_⟩:=zec (i:=ys.length) (aH hw);rw [Qo,hw] at e';cases e';exact q
   refine (nN (d:=d) (g:=X.g0++ .list ys::t) hd O.ne O.I.app O.Z O.wu.1 ww).elim λs e=>?_;show WE (Cxd P0 d) (pwF X none none none none (some (.str w))) (.call (.lit (.top 106)) [.var 2,.var 4,.var 10]) _ _;have N: ∃s',X.g0++MObj.list ys::t++s=X.g0++ .list ys::(t++s')/\X.g0=X.g0/\ys++ [R.e (wtv X.M X.u w)]=((wds.take (ys++ [R.e (wtv X.M X.u w)]).length).map (wtv X.M X.u)).map R.e:=⟨s,Qm ..,rfl,by
    rw [Qv,Ko,JD,hw,Option.toList_some,Qy,Qy,<-J.2];rfl⟩
   exact bM (.p (e.1)<| .z (N)) (by kernel_rfl)
  exact bM (.z (N)) (by kernel_rfl)))
 exact ⟨t,e⟩
theorem zvV: ∀w∈wds.map (wtv X.M X.u),R.D 30 329 w:=λw hw=>by
 obtain ⟨v,hv,rfl⟩:=QF.mp hw;obtain ⟨i,hi,rfl⟩:=Zf.mp hv;obtain ⟨w',e',q,_⟩:=zec (i:=i) hi;rw [Qo,Qc hi] at e';cases e';exact (nN (d:=10) (g:=X.g0) (Qj _) O.ne O.I O.Z O.wu.1 q).elim λ_ e=>e.2
abbrev fT:Val->MH->Prop:=λv _=>v= .bool true
theorem pwB {g:MH}{a b:Option Val} (pre: ∃t,g=X.g0++t):WSs (Cxd P0 60) (aP.drop 11) (pwF X a b none none none) g (Internal.Fin fT):=by
 have I:IsM R g X.L X.M:=pre.elim λt e=>e▸O.I.app;refine (zan (d:=60) (by decide) I O.Z.g).elim λs e=>?_;have RV:RvM X.M s.M:=zlp e.2.P O.Z.g.st;obtain ⟨LV,em,IV,_⟩:=e.2.H.x;have ec:s.M.cnt<=11:=Qa e.2.P.ct (QA O.Z.c O.Z.n);have GV:=zil O.Z RV IV.lenE ec;have n5:s.M.arcs.length<=5:=RV.n▸Ql O.Z.n 1;have up: ∀ {L:Ly}{M:Mc R.α},IsM R g L M->IsM R s.g L M:=λI=>e.2.H.im I;have W7:(s.g++ [MObj.list (bks.map .str)])[X.aW]?=some (.list (wds.map .str)):=aB (e.2.H.up (pre.elim λt q=>q▸aB O.W));have bu:=zku _ O.wu.2;have bl:=zku _ O.wl.2;have ix: ∀ {w:List Nat},wds.contains w=true->bI (Cxd P0 60) (.ref X.aW) nIndex [.str w] (s.g++ [MObj.list (bks.map .str)]) (s.g++ [MObj.list (bks.map .str)])=some (.int (wds.idxOf w:Nat),s.g++ [MObj.list (bks.map .str)]):=λhc=>W.eq (zd6 W7 W7 zhW hc (two _ _));have bk: ∀ {w:List Nat},bks[wds.idxOf w]?=some w.reverse->bV (s.g++ [MObj.list (bks.map .str)]) (.ref s.g.length) (.int (wds.idxOf w:Nat))=some (.str w.reverse):=λh=>sl aV (by rw [Qo,h];rfl);have b3:=zwR s.M.arcs.length (QK n5) s.M.cnt (QK ec) X.u.reverse.length (QK O.wu.1.rev.n) X.l.reverse.length (QK O.wl.1.rev.n);refine (zjT (d:=60) (g:=s.g++ [MObj.list (bks.map .str)]) (by decide) O.ne IV.app GV.1 GV.2 (Qa n5 (by decide)) O.wu.1.rev O.wl.1.rev b3.1 (by decide) b3.2).elim λt f=>?_;refine (nN (d:=60) (g:=s.g++ [MObj.list (bks.map .str)]++t) (by decide) O.ne (up I).app.app O.Z O.wu.1 O.wl.1).elim λt2 f2=>?_;have hz:(@decide (wtv s.M X.u.reverse X.l.reverse=wtv X.M X.u X.l) (R.deq _ _))=true:=R.yes (zlr RV (GV.1.lab GV.2) (zaX O.Z) O.Z.rd O.Z.g.st);have f1:=f.1;have e1:=e.1;rw [em] at f1;exact run (.p (e1)<| .p (ix bu.2)<| .v (bk bu.1)<| .p (ix bl.2)<| .v (bk bl.1)<| .p (f1)<| .p (f2.1)<| .k (R.qe (wtv s.M X.u.reverse X.l.reverse) (wtv X.M X.u X.l))<| .z (congrArg Val.bool hz)) (by kernel_rfl)
theorem zj6 {M':Mc R.α}{w:List Nat} (e:wtv M' X.u w=tA (wds.map (wtv X.M X.u))):(!@decide (wtv M' X.u w=tA (wds.map (wtv X.M X.u))) (R.deq _ _))=false:=by rw [R.yes e];rfl
theorem zob {g:MH}{L2:Ly} (pre: ∃t,g=X.g0++t) (I2:IsM R g L2 (pjM X.M)):WSs (Cxd P0 60) (aP.drop 9) (pwF X (some (R.e X.due)) (some (.ref L2.m)) none none none) g (Internal.Fin fT):=by
 have I:IsM R g X.L X.M:=pre.elim λt e=>e▸O.I.app;refine (zdq (d:=60) (by decide) I O.Z.g).elim λg4 a=>?_;obtain ⟨L4,em4,I4,_⟩:=a.2.x;refine (qQ (d:=60) false (by decide) I4 (zA O.Z.g zuJ)).elim λg5 b=>?_;have b2:=b.2;rw [zuR] at b2;obtain ⟨L5,em5,I5,_⟩:=b2.x;have Z2:=pj_ok' O.Z;refine (nN (d:=60) (g:=g5) (by decide) O.ne I5 Z2 O.wu.1 O.wu.1).elim λt f=>?_;have f1:=f.1;rw [em5] at f1;have b1:=b.1;rw [em4] at b1;have J2:IsM R (g5++t) L2 (pjM X.M):=(b2.im (a.2.im I2)).app;have J: ∃t',g5++t=X.g0++t':=pre.elim λt1 e1=>a.2.pre.elim λt2 e2=>b2.pre.elim λt3 e3=>⟨t1++t2++t3++t,by rw [e3,e2,e1,Qm,Qm,Qm,Qm];simp only [Qm]⟩;refine dH (a:=(aP.drop 9).take 2) (b:=aP.drop 11) ?_;exact run (.p (a.1)<| .p (b1)<| .p (f1)<| .k (R.qn (wtv (pjM X.M) X.u X.u) X.due)<| .f (zj6 O (zfg O.Z O.wu.1.n).symm)<| .p (zfb (d:=60) (by decide) J2 zff)<| .c2<| .z (dC (pwB (a:=some (R.e X.due)) (b:=some (.ref L2.m)) O J))) (by kernel_rfl)
theorem zvW {g:MH}{L2:Ly} (pre: ∃t,g=X.g0++t) (I2:IsM R g L2 (pjM X.M)):WSs (Cxd P0 60) (aP.drop 8) (pwF X (some (R.e X.due)) (some (.ref L2.m)) none none none) g (Internal.Fin fT):=by
 refine dH (a:=(aP.drop 8).take 1) (b:=aP.drop 9) ?_;cases hu:(!(X.u==X.l)) with
 |false=>exact run (.k (nes X.u X.l)<| .f (hu)<| .z (dC (zob O pre I2))) (by kernel_rfl)
 |true=>
  have hn:X.u≠X.l:=λe=>by rw [e,beq_self_eq_true] at hu;exact nomatch hu
  refine (nN (d:=60) (g:=g) (by decide) O.ne I2 (pj_ok' O.Z) O.wu.1 O.wl.1).elim λt f=>?_;have hz:(!@decide (wtv (pjM X.M) X.u X.l=R.zero) (R.deq _ _))=false:=by rw [R.yes (ziC O.Z hn)];rfl
  exact run (.k (nes X.u X.l)<| .t (hu)<| .p (f.1)<| .w (R.no)<| .k (R.qn (wtv (pjM X.M) X.u X.l) R.zero)<| .f (hz)<| .z (dC (zob O (pre.elim λt' e=>⟨t'++t,by rw [e,Qm]⟩) I2.app))) (by kernel_rfl)
theorem pwA:WSs (Cxd P0 60) (aP.drop 5) (pwF X none none none none none) X.g0 (Internal.Fin fT):=by
 refine (ziy O (d:=60) (by decide)).elim λt a=>?_;have I1:IsM R (X.g0++ .list ((wds.map (wtv X.M X.u)).map R.e)::t) X.L X.M:=O.I.app;have e2:=zeo (d:=60) (h:=X.g0++ .list ((wds.map (wtv X.M X.u)).map R.e)::t) (a:=X.g0.length) (by decide) aV (zvV O) (by rw [Qe];show 7<=100;decide) (by decide);refine (qQ (d:=60) true (by decide) I1 O.Z.g).elim λg2 b=>?_;obtain ⟨L2,em,I2,_⟩:=b.2.x;refine (nN (d:=60) (g:=g2) (by decide) O.ne I2 (pj_ok' O.Z) O.wu.1 O.wu.1).elim λt2 f=>?_;have b1:=b.1;rw [<-em] at b1;have J: ∃t',g2++t2=X.g0++t':=b.2.pre.elim λt3 e3=>⟨_,by rw [e3,Qm,Qm]⟩;refine dH (a:=(aP.drop 5).take 3) (b:=aP.drop 8) ?_;exact run (.p (a)<| .p (e2)<| .p (b1)<| .p (f.1)<| .k (R.qn (wtv (pjM X.M) X.u X.u) X.due)<| .f (zj6 O (zfg O.Z O.wu.1.n).symm)<| .z (dC (zvW O J I2.app))) (by kernel_rfl)
end
theorem y4 {ws:List R.α} (Z:RL R ws) (ns:List Int) (h:MH):WSs (Cxd P0 60) (aP.drop 1) (some (.fl (ns.map .int))::some (.top (112+R.i))::nn 14) h (Internal.Fin λv _=>v= .bool true):=by
 refine (zuI (g:=h) (us:=ab) (by decide) (by decide) Z ns 1).elim λM a=>a.2.elim λg1 b=>b.2.elim λL c=>?_;have e1:=b.1;rw [<-c.1] at e1;have W0:(g1++ [MObj.list (wds.map .str)])[g1.length]?=some (.list (wds.map .str)):=aV;refine (zjW W0 (cell ns 25)).elim λi1 a1=>a1.2.elim λu b1=>(zjW W0 (cell ns 26)).elim λi2 a2=>a2.2.elim λl b2=>?_;refine dH (a:=(aP.drop 1).take 4) (b:=aP.drop 5) ?_;have T:=pwA (X:=⟨g1++ [MObj.list (wds.map .str)],M,L,ns,g1.length,u,l⟩) ⟨Z.ne,c.2.1.app,a.1,W0,b1.2,b2.2⟩;exact run (.p (e1)<| .at ((g1++ [MObj.list (wds.map .str)]))<| .q (iM (d:=60) (by decide) ns 25)<| .q (gS a1.1 (by decide))<| .v (b1.1)<| .q (iM (d:=60) (by decide) ns 26)<| .q (gS a2.1 (by decide))<| .v (b2.1)<| .z (dC T)) (by kernel_rfl)
end
theorem zmK (ns:List Int):WF P0 61 178 [.fl (ns.map .int)] [] λv _=>v= .bool true:=by
 refine zbr (d:=60) (fn:=l6) rfl rfl ?_;show WSs (Cxd P0 60) aP (some (.fl (ns.map .int))::nn 15) _ _;obtain ⟨i,hi,ei⟩:=hG (cell ns 0) (show 0<5 by decide);have tail: ∀h,WSs (Cxd P0 60) (aP.drop 1) (some (.fl (ns.map .int))::some (.top (112+i))::nn 14) h (Internal.Fin λv _=>v= .bool true):=
  fR (C:=λi=> ∀h,WSs (Cxd P0 60) (aP.drop 1) (some (.fl (ns.map .int))::some (.top (112+i))::nn 14) h (Internal.Fin λv _=>v= .bool true)) i hi (y4 rl0 ns) (y4 rl1 ns) (y4 rl2 ns) (y4 rl3 ns) (y4 rl4 ns)
 have e1:bV [.list [.str (a7 0),.str (a7 1),.str (a7 2),.str (a7 3),.str (a7 4)]] (.ref 0) (.int i)=some (.str (a7 i)):=sl (i:=i) rfl (fR (C:=λi=>([.str (a7 0),.str (a7 1),.str (a7 2),.str (a7 3),.str (a7 4)]:List Val)[i]?=some (.str (a7 i))) i hi rfl rfl rfl rfl rfl);have e2:=fn (P:=P0) (d:=60) (h:=[.list [.str (a7 0),.str (a7 1),.str (a7 2),.str (a7 3),.str (a7 4)]]) rfl (zn9 (Q:=λv g=>v= .top (112+i)/\g=_) hi (by decide) ⟨rfl,rfl⟩);refine dH (a:=aP.take 1) (b:=aP.drop 1) ?_;exact run (.at ([.list [.str (a7 0),.str (a7 1),.str (a7 2),.str (a7 3),.str (a7 4)]])<| .q (iM (d:=60) (by decide) ns 0)<| .q (gS ei (by decide))<| .v (e1)<| .p (e2)<| .z (dC (tail [.list [.str (a7 0),.str (a7 1),.str (a7 2),.str (a7 3),.str (a7 4)]]))) (by kernel_rfl)
theorem ziq (ns:List Int): ∃H',c7 P0 200000 61 178 [Val.fl (ns.map Val.int)] []=some (Val.bool true,H'):=by
 obtain ⟨v,h,e,rfl⟩:=W.get (zmK ns);exact ⟨h,e⟩
theorem zge {C:Cfg}{w:Wd}{vs:List Value}{ns:List Int} (h:IntsAre vs ns):aD C w (ns.map Val.int) vs:=by
 induction h with
 |nil=>exact .nil
 |cons n t _ ih=>exact .cons ⟨t,rfl⟩ ih
theorem fin_law {p:Program}{loose:List PySem.Str}{mean:ExcName->Option Value}{w:World}{s₀ s₁:Shared}{mg mb:PySem.Str->Option Value}{fa a:Addr}{vs:List Value}{ns:List Int}{R:WRecords}{as:List Addr} (KX:Frag.In (KK w.params) s₁.heap) (ZN:s₀.heap.objs.size=nat_lit 791)
  (T : Top p loose mean mg mb s₁.heap) (hmg : mg (Xc "law") = some (.ref fa)) (L : Laid R w s₀ s₁ [ofPy (Kf (KA Kx ns))] [.ref a] as) (hL : s₁.heap.IsList a vs.toArray) (hI : IntsAre vs ns) (hlen : ¬ ((63 : Int) < (ns.length : Int))) (hg : s₁.gens = #[]) :
  wpAny (model pw w) callerA (call (.ref fa) [.ref a]) (λv s'=>GoodWG PySem.Challenge.rw_ui0508_13.row.claim (classAt s₀.heap) (ExcName.means s₀.heap) [ofPy (Kf (KA Kx ns))] s₁ (.ok (.ret v)) s')
   (λe s'=>GoodWG PySem.Challenge.rw_ui0508_13.row.claim (classAt s₀.heap) (ExcName.means s₀.heap) [ofPy (Kf (KA Kx ns))] s₁ (.error e) s') s₁:=by
 obtain ⟨hat,hsz⟩:=script_at L;rw [ZN] at hat hsz;subst hat;obtain ⟨so,h1,h2,n,h3⟩:=hL;have e:=mg_of KX T.g (zmL w);have e' : mg (Xc "law") = some (.ref zkf) := e;rw [hmg] at e';cases e';have X:(cfg w so).K.In s₁.heap:=by
  intro b o hb;have hb':YC b ((mM,so)::KK w.params)=some o:=hb;rw [Jf] at hb'
  split at hb'
  ·rename_i q
   rw [beq_iff_eq] at q;cases hb';subst q;exact h1
  ·exact KX b o hb'
 have hv:aF (cfg w so) ⟨[],[]⟩ (Val.fl (ns.map Val.int)) (.ref mM):=by
  refine ⟨mM,so,n,vs,rfl,⟨?_,h2,h3⟩,zge hI,?_⟩
  ·show YC mM ((mM,so)::KK w.params)=some so
   rw [Jf,beq_self_eq_true]
  ·rw [Qe]
   have:lim=1000000:=rfl
   omega
 obtain ⟨H',hr⟩:=ziq ns;refine zf6 (C:=cfg w so) (tab w so) X T (by rw [hsz];decide) (f:=zuM) (fa:=zkf) (by kernel_rfl) (λfn h=>by
  have e:P0.fnAt 178=some fn:=h;rw [show P0.fnAt 178=some l6 from by kernel_rfl] at e;cases e;rfl) hv hr λw' v s' r hk hgs hos=>?_
 have r:v= .bool true:=r;subst r;exact GoodW.toG ⟨.inl ⟨.bool true,.bool true,[],rfl,λ_=>rfl,.bool true,by first|kernel_rfl|wrow_post,unshared_nil⟩,hk,hos,hgs.trans hg⟩
end Tactic
end
open PySem PySem.W PySem.W.X PySem.Calls PyProof.Rows
set_option maxHeartbeats 0 in
theorem PySem.Challenge.cw_ui0508_13_holds : PySem.Challenge.rw_ui0508_13.Holds := by
 w_on
 refine holds_law (by
  rw [PySem.W.Fast.te9446332074065402090]
  kernel_rfl) fun said=>?_
 refine holds_openX Tactic.left0 (XP:=XL (Tactic.qOf Tactic.pw) []) (fun s e=>xl_of s (Bool.and_eq_true_iff.mp e).1) XL.keeps (by rfl) (by rfl) (by rfl) (fun s e=>recFacts_of (Bool.and_eq_true_iff.mp e).2) (by rfl) (by assumption) (by decide+kernel) ⟨rfl,rfl,rfl,rfl,rfl,by decide+kernel⟩ ?hw ?hc
 case hw=>w_witness2
 clear said
 intro w s₀ s₁ mg mb G y fa o pm cd doc dV kV ho hd hcd hD hmg hg args vals as L hpre hlay hrd hwl hlo;have hf:=Tactic.facts1 y L.keeps
 clear y
 obtain ⟨KX,ZN,ZT⟩:=hf;refine Ground.open G ?_;intro T B D TE TW
 wrow_args hpre hlay hrd hwl hlo
 exact Tactic.fin_law KX ZN T hmg L (by assumption) (by assumption) (by assumption) hg
