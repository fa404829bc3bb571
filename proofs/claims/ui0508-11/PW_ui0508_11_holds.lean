import PyProof.Rows.All
import Wide.All
import OpenK.AllK
import Wide.FinOn
import PySem.Claim
import PySem.PyData
import PyProof.P3Statements
import PyProof.StrBlockL
import PyProof.Rows.StrNews2
import OpenK.KCell
import OpenK.KMeth
import PyProof.P3Eq
import PyProof.P3In
import PyProof.EqKinds
import PyProof.TupleKey
import PyProof.SetKind
import PyProof.Rows.RotEnd
import PyProof.Rows.ListMul
import PyProof.IsRules
import PyProof.Rows.TupDisplay
import PyProof.Rows.DictRows
import PyProof.DictStraight
import PyProof.DictIter
import KE.KEqDict
import PyProof.EnumMake
import PyProof.WalksMore
import PyProof.StrWalks
import PyProof.CompFree
import PyProof.Rows.StrNews
import PyProof.Rows.SeqSlice
import PyProof.SliceMore
import PyProof.Rows.StrTemp
import PyProof.StrLawsIdx
import PyProof.MaxThree
import PyProof.TypeOfCall
import PyProof.CallType
import PyProof.Rows.GenSrcRange
import OpenK.KRaise
import KE.KSorted
import KE.KDictOf
import KE.KIntText
import KE.KxPart
import KE.KPop
import PyProof.StrLawsAffix
import PyProof.SetRoads
import KE.KUnpack
import KE.KPar
import KE.KSort
import KE.KDictSum
import PySem.Challenge.RW_ui0508_11
set_option Elab.async false
set_option linter.all false
set_option autoImplicit false
set_option maxHeartbeats 8000000
set_option maxRecDepth 100000
set_option genInjectivity false
set_option genSizeOfSpec false
set_option genSizeOf false
open Nat renaming le_trans->Qa,le_add_right->Qd,lt_of_lt_of_le->Qf,le_refl->Qi,lt_of_le_of_lt->Qk,le_add_left->Ql,add_le_add_left->Qm,zero_le->Qs,le_of_eq->QA,lt_succ_of_le->QB,add_le_add->QE,lt_succ_self->QF,mul_le_mul_left->QG,le_of_lt->QJ,add_lt_add_left->QK,le_of_lt_succ->QM,succ_le_of_lt->QT,ble_eq->QV,add_le_add_right->QW,add_assoc->QY,not_lt_zero->QZ,le_of_not_lt->Q0,lt_irrefl->Q4,lt_succ_of_lt->Q7,succ_le_succ->Q8,lt_trans->Q9,not_lt_of_le->Jc,le_succ_of_le->Jf,lt_of_succ_le->Jl,lt_of_le_of_ne->Jn,ble->Jr,succ_pos->Jt,add_comm->Ju,le_succ->Jv,le_mul_of_pos_right->Jy,mul_le_mul_right->Jz,zero_add->JA,add_sub_cancel_left->JH,one_mul->JI,ne_of_gt->JL,sub_lt_of_lt->JM,gcd->JR,exists_eq_add_of_le'->JV,succ->JY,lt_add_of_pos_right->JZ,lt_of_succ_lt_succ->J6,add_right_comm->J9,mul_succ->Zb,min_eq_left->Zf,add_lt_add_of_le_of_lt->Zn,lt_of_add_lt_add_left->Zt,ne_of_lt->Zy,add_mul->ZE,le_add_right_of_le->ZK,not_lt->ZV,lt_add_right->ZZ,min_eq_right->Z0,gcd_pos_of_pos_right->Z6,min_le_left->Z8,le_antisymm->Ka,lt_of_lt_of_eq->Kc,sub_add_cancel->Kd,le_of_succ_le_succ->Kh,le_add_left_of_le->Kj,le_of_not_le->Kw,add_lt_add_right->Kz,mul_pos->KA,not_succ_le_self->KC,mul_comm->KO,lt_or_eq_of_le->K2,div_eq_of_eq_mul_right->K3,le_of_mul_le_mul_right->K4,le_of_succ_le->K6,pow_add->K8,succ_add_eq_add_succ->K9,min_le_right->Ye,not_le_of_lt->Yl,sub_le->Yn,sub_self->Yp,eq_zero_of_le_zero->Yr,le_mul_of_pos_left->Ys,le_min_of_le_of_le->Yt,le_of_sub_eq_zero->Yz,le_sub_of_add_le'->YB,ble_eq_true_of_le->YC,pow_lt_pow_right->YG,pow_le_pow_right->YH,mul_le_mul->YI,add_add_add_comm->YM,sub_lt_sub_right->YN,one_dvd->YO,add_left_cancel->YS,mul_assoc->YX,not_le->Xe,pos_of_ne_zero->Xf,lt_of_succ_lt->Xo,sub_zero->Xq,sub_pos_of_lt->Xv,add_sub_of_le->Xw,lt_of_not_le->Xx,le_zero->XA,one_pos->XC,mul_ne_zero->XH,pow_dvd_pow->XJ,sub_lt->XW,sub_add_eq->X3,dvd_trans->Wf,pow_succ->Wi,log2_lt->Wl,two_mul->Wp,mul_add->Wq,mul_one->Wr,pow_pos->Ws,pow_one->Wt,mod_lt->Wu,beq->Wv
open Bool renaming and_eq_true_iff->Qb,and_eq_true->Jw,and_eq_false_iff->JT,false_ne_true->Zk,eq_iff_iff->Zu,false_eq_true->Kb,or_eq_true->KG,or_eq_true_iff->KJ,and_true->Ya,noConfusion->Yh,and_false->YL,false_or->YY,not_eq_true'->Xp,false_and->XY,true_and->Wb,not_true->We
open List renaming getElem?_eq_getElem->Qc,mem_of_getElem?->Qe,length_map->Qh,getElem?_eq_some_iff->Qn,not_mem_nil->Qr,append_assoc->Qt,getElem?_map->Qu,length_append->Qv,mem_singleton->Qw,nodup_cons->Qx,replicate->Qz,map_cons->QC,mem_append_right->QD,mem_cons->QH,mem_map->QI,map_append->QL,getElem?_set_ne->QO,getElem?_set_self->QP,range'->QR,length_set->QS,append_nil->QU,mem_append->QX,take_length->Q2,range->Q3,length_replicate->Q5,length_range->Q6,size_toArray->Ja,prefix_append->Jb,all_eq_true->Je,lookup_cons->Jg,getElem?_concat_length->Jh,eq_of_mem_replicate->Jj,getElem_mem->Jk,getElem?_eq_none->Jo,length_eq_zero_iff->Jp,map_congr_left->Jq,mem_append_left->Js,length_cons->Jx,length_take->JD,idxOf_lt_length_iff->JE,getElem?_range->JF,take_succ->JJ,getElem?_append_left->JN,getElem?_toArray->JU,length->JW,getElem?_replicate->J0,replicate_succ'->J3,perm_append_comm_assoc->J4,getElem?_append_right->J5,mem_or_eq_of_mem_set->J7,drop_length->Za,nodup_append->Zc,reverse_cons->Zd,filterMap_cons->Zh,length_drop->Zj,length_range'->Zl,mem_range->Zm,concat_eq_append->Zo,take_append_drop->Zq,mem_of_find?_eq_some->Zr,drop_eq_getElem_cons->Zs,nil_append->Zv,flatten_cons->Zx,mem_of_mem_take->Zz,any_eq_true->ZA,cons_append->ZD,casesOn->ZF,zip_cons_cons->ZI,map_map->ZJ,foldl_cons->ZL,find?_some->ZM,contains_iff_mem->ZP,eq_nil_or_concat->ZQ,any_eq_false->ZS,mem_iff_getElem->ZW,mem_flatten->ZX,cons->ZY,flatten_append->Z4,length_reverse->Z5,sum_cons->Z7,find?_cons->Z9,foldl_append->Kg,take_succ_eq_append_getElem->Ki,set_append_right->Km,set_getElem_self->Kn,mem_iff_getElem?->Ko,prefix_refl->Kq,perm_middle->Kr,isEmpty_iff->Ks,getElem_inj->Kv,drop_nil->Kx,getElem?_of_mem->KB,forIn_cons->KD,dropLast_concat_getLast->KF,sum_append->KH,mem_filter->KI,map_eq_nil_iff->KL,mergeSort_perm->KM,map_replicate->KR,mapM_cons->KV,map->KW,map_singleton->KY,getElem?_eq_none_iff->K5,length_filterMap_le->Yb,nodup_range->Yk,drop_eq_nil_of_le->Yu,length_nil->Yv,range_succ->Yx,length_singleton->YA,mem_of_mem_drop->YE,lookup->YF,getElem?_range'->YJ,mem_cons_of_mem->YK,replicate_succ->YP,append_toArray->YQ,flatten_concat->YU,length_pos_iff->YV,findIdx?_cons->Xd,range'_concat->Xh,getElem?_take->Xi,getElem_idxOf->Xj,rec->Xr,ext_getElem?->Xu,range'_succ->Xy,of_mem_zip->XE,set->XX,drop_zero->X4,findIdx?->Wc,set_set->Wj,drop->Wy
open PySem.Value renaming type->Qg,builtin->Qp,isInt_shape->JQ,isStrOf_shape->Zg,str->Zi,none->Kt,bool->Yq,casesOn->YW,isInt->Wk,ref->Ww,int->Wx
open PySem.Str renaming mk->Qj,ofString->Xk
open Array renaming mk->Qo,isEmpty_iff->K7,empty_append->Xb
open Option renaming casesOn->Qq,some->Qy,none->Q1,isSome_iff_exists->Ji,map_eq_some_iff->JK,isNone_iff_eq_none->JO,isSome_map->Kf,isSome_some->KZ,isSome_none->K1,bind_eq_some_iff->Yd,bind_some->Yi,map_none->Yw,map_some->Yy,map->XT,elim->Wm
open Exists renaming elim->Jd
open PySem.W.SharedT renaming mk->Jm,abs->Wn
open PySem.Challenge renaming rw_ui0508_11->JB,pw_ui0508_11->ZO
open Ne renaming symm->JC
open Int renaming ofNat_lt->JG,ofNat_eq_zero->Ze,natCast_mul->Zw,natCast_nonneg->ZG,toNat_natCast->ZU,fmod->Ky,not_lt->KU,ofNat->Yj,ofNat_le->Ym,fdiv->YD,toNat_of_nonneg->YT,natAbs_eq_zero->Xa,not_le->Xc,le_trans->Xm,lt_trans->Xn,natCast_add->XG,toNat->Wg
open PySem.PyData renaming eqv->J8,list->Ke,int->Ku,eqv->YZ,int->Xz,keyHash->XU,eqvAll->Wa
open PySem.F renaming slot_dict_get->Zp,entry_dict_get->ZH,args_dict_get_2->Yf,args_dict_get_3->Yg
open PySem.Builtin.Range renaming rangeSize->ZC
open PySem.Builtin.List renaming listSubscript?->ZR
open Decidable renaming byContradiction->Z3
open PySem.Heap renaming get?_update_self->Kl,lt_size->Xl
open Eq renaming symm->KN
open PySem.Builtin.Str renaming strSliceIndices->KQ
open PySem.Data renaming casesOn->Yo
open PySem.Builtin.Int renaming intBits->YR
open Prod renaming ext->Xs,mk->Wh
open PySem.Txt renaming isspace->Xt
open PySem.W.SL
section
open Lean in
local macro_rules (kind:=Lean.Parser.Command.declaration)
 |s=>match s.getHeadInfo with
  |.original .. =>pure (if s[0].getPos?.isNone&&(s[1].isOfKind `Lean.Parser.Command.definition||s[1].isOfKind `Lean.Parser.Command.abbrev) then s.setArg 0 (s[0].setArg 4 (mkNullNode #[.node .none `Lean.Parser.Command.noncomputable #[.atom .none "noncomputable"]])) else s.setHeadInfo .none)
  |_=>Macro.throwUnsupported
namespace Internal
open PySem
set_option genCtorIdx false in
inductive Val where
 |none
 |bool (b:Bool)
 |int (i:Int)
 |str (s:List Nat)
 |tup (vs:List Val)
 |ref (a:Nat)
 |top (a:Nat)
 |ty (n:Nat)
 |bi (n:Nat)
 |rng (n:Int)
 |fl (vs:List Val)
 |setn (n:Nat)
set_option genCtorIdx false in
inductive MObj where
 |list (vs:List Val)
 |dict (ep:Option Nat) (es:List (Val×Val))
 |inst (c:Nat) (fs:List (Nat×Val))
def Val.ctorIdx (x:Val):Nat:=Val.casesOn (motive_1:=λ_=>Nat) x 0 (λ_=>1) (λ_=>2) (λ_=>3) (λ_=>4) (λ_=>5) (λ_=>6) (λ_=>7) (λ_=>8) (λ_=>9) (λ_=>10) (λ_=>11)
def MObj.ctorIdx (x:MObj):Nat:=MObj.casesOn (motive:=λ_=>Nat) x (λ_=>0) (λ_ _=>1) (λ_ _=>2)
abbrev MH:=List MObj
abbrev Frame:=List (Option Val)
inductive BOp where
 |add|sub|mul|fdiv|mod|pow
inductive COp where
 |eq|ne|lt|le|gt|ge|isin|notin|is|isnot
set_option genCtorIdx false in
inductive Ex where
 |var (x:Nat)
 |lit (v:Val)
 |list (es:List Ex)
 |tup (es:List Ex)
 |dict (kvs:List Ex)
 |bin (op:BOp) (a b:Ex)
 |not (a:Ex)
 |cmp (op:COp) (a b:Ex)
 |bop (stop:Bool) (es:List Ex)
 |ite (c a b:Ex)
 |attr (e:Ex) (n:Nat)
 |sub (e i:Ex)
 |slice (e:Ex) (k:Nat) (bs:List Ex)
 |call (f:Ex) (as:List Ex)
 |meth (o:Ex) (n:Nat) (as:List Ex)
 |comp (elt:Ex) (tg:List Nat) (many:Bool) (it:Ex) (ifs:List Ex)
set_option genCtorIdx false in
inductive T1 where
 |nm (x:Nat)
 |at (o:Ex) (n:Nat)
 |sb (o i:Ex)
set_option genCtorIdx false in
inductive Sm where
 |expr (e:Ex)
 |asg (t:T1) (e:Ex)
 |asgs (ts:List T1) (e:Ex)
 |ret (e:Ex)
 |ite (c:Ex) (a b:List Sm)
 |wh (c:Ex) (b:List Sm)
 |fo (tg:List Nat) (many:Bool) (e:Ex) (b:List Sm)
 |brk|cont|pass
 |raise
 |rse (e:Ex)
 |tr (x:Nat) (e:Ex) (y:Nat) (v:Val)
set_option genCtorIdx false in
inductive Fl where
 |nx|bk|ct
 |rt (v:Val)
structure Fn where
 addr:Nat
 np:Nat
 dfl:List Val
 ns:Nat
 body:List Sm
structure Cl where
 addr:Nat
 attrs:List (Nat×Val)
 init:Option Nat
 flds:List Nat
structure Prg where
 fns:List Fn
 cls:List Cl
 insts:List (Nat×Nat)
def enc (x:Str):Nat:=x.cps.toList.foldl (λa c=>a*256+c) 0
def bnd {α β:Type} (o:Option (α×MH)) (f:α->MH->Option (β×MH)):Option (β×MH):=Qq (motive:=λ_=>Option (β×MH)) o none λp=>f p.1 p.2
def alt {α:Type} (a b:Option α):Option α:=Qq (motive:=λ_=>Option α) a b some
def grd {α:Type} (b:Bool) (o:Option α):Option α:=Bool.casesOn (motive:=λ_=>Option α) b none o
def Val.int? (x:Val):Option Int:=Val.casesOn (motive_1:=λ_=>Option Int) x .none (λ_=> .none) some (λ_=> .none) (λ_=> .none) (λ_=> .none) (λ_=> .none) (λ_=> .none) (λ_=> .none) (λ_=> .none) (λ_=> .none) (λ_=> .none)
def Val.str? (x:Val):Option (List Nat):=Val.casesOn (motive_1:=λ_=>Option (List Nat)) x .none (λ_=> .none) (λ_=> .none) some (λ_=> .none) (λ_=> .none) (λ_=> .none) (λ_=> .none) (λ_=> .none) (λ_=> .none) (λ_=> .none) (λ_=> .none)
def Val.tup? (x:Val):Option (List Val):=Val.casesOn (motive_1:=λ_=>Option (List Val)) x .none (λ_=> .none) (λ_=> .none) (λ_=> .none) some (λ_=> .none) (λ_=> .none) (λ_=> .none) (λ_=> .none) (λ_=> .none) (λ_=> .none) (λ_=> .none)
def Val.ref? (x:Val):Option Nat:=Val.casesOn (motive_1:=λ_=>Option Nat) x .none (λ_=> .none) (λ_=> .none) (λ_=> .none) (λ_=> .none) some (λ_=> .none) (λ_=> .none) (λ_=> .none) (λ_=> .none) (λ_=> .none) (λ_=> .none)
def Val.top? (x:Val):Option Nat:=Val.casesOn (motive_1:=λ_=>Option Nat) x .none (λ_=> .none) (λ_=> .none) (λ_=> .none) (λ_=> .none) (λ_=> .none) some (λ_=> .none) (λ_=> .none) (λ_=> .none) (λ_=> .none) (λ_=> .none)
def Val.ty? (x:Val):Option Nat:=Val.casesOn (motive_1:=λ_=>Option Nat) x .none (λ_=> .none) (λ_=> .none) (λ_=> .none) (λ_=> .none) (λ_=> .none) (λ_=> .none) some (λ_=> .none) (λ_=> .none) (λ_=> .none) (λ_=> .none)
def Val.bi? (x:Val):Option Nat:=Val.casesOn (motive_1:=λ_=>Option Nat) x .none (λ_=> .none) (λ_=> .none) (λ_=> .none) (λ_=> .none) (λ_=> .none) (λ_=> .none) (λ_=> .none) some (λ_=> .none) (λ_=> .none) (λ_=> .none)
def Val.fl? (x:Val):Option (List Val):=Val.casesOn (motive_1:=λ_=>Option (List Val)) x .none (λ_=> .none) (λ_=> .none) (λ_=> .none) (λ_=> .none) (λ_=> .none) (λ_=> .none) (λ_=> .none) (λ_=> .none) (λ_=> .none) some (λ_=> .none)
def Val.bool? (x:Val):Option Bool:=Val.casesOn (motive_1:=λ_=>Option Bool) x .none some (λ_=> .none) (λ_=> .none) (λ_=> .none) (λ_=> .none) (λ_=> .none) (λ_=> .none) (λ_=> .none) (λ_=> .none) (λ_=> .none) (λ_=> .none)
def Val.rng? (x:Val):Option Int:=Val.casesOn (motive_1:=λ_=>Option Int) x .none (λ_=> .none) (λ_=> .none) (λ_=> .none) (λ_=> .none) (λ_=> .none) (λ_=> .none) (λ_=> .none) (λ_=> .none) some (λ_=> .none) (λ_=> .none)
def Val.isNone (x:Val):Bool:=Val.casesOn (motive_1:=λ_=>Bool) x true (λ_=>false) (λ_=>false) (λ_=>false) (λ_=>false) (λ_=>false) (λ_=>false) (λ_=>false) (λ_=>false) (λ_=>false) (λ_=>false) (λ_=>false)
def MObj.list? (o:MObj):Option (List Val):=MObj.casesOn (motive:=λ_=>Option (List Val)) o some (λ_ _=>none) (λ_ _=>none)
def MObj.dict? (o:MObj):Option (Option Nat×List (Val×Val)):=MObj.casesOn (motive:=λ_=>Option (Option Nat×List (Val×Val))) o (λ_=>none) (λe es=>some (e,es)) (λ_ _=>none)
def MObj.inst? (o:MObj):Option (Nat×List (Nat×Val)):=MObj.casesOn (motive:=λ_=>Option (Nat×List (Nat×Val))) o (λ_=>none) (λ_ _=>none) (λc fs=>some (c,fs))
def bG (h:MH) (x:Val):Option (List Val):=x.ref?.bind λa=>h[a]?.bind MObj.list?
def dictAt (h:MH) (x:Val):Option (Option Nat×List (Val×Val)):=x.ref?.bind λa=>h[a]?.bind MObj.dict?
def instAt (h:MH) (x:Val):Option (Nat×List (Nat×Val)):=x.ref?.bind λa=>h[a]?.bind MObj.inst?
def a0 {α:Type} (as:List Val) (f:Option α):Option α:=ZF (motive:=λ_=>Option α) as f λ_ _=>none
def a1 {α:Type} (as:List Val) (f:Val->Option α):Option α:=ZF (motive:=λ_=>Option α) as none λv r=>a0 r (f v)
def a2 {α:Type} (as:List Val) (f:Val->Val->Option α):Option α:=ZF (motive:=λ_=>Option α) as none λv r=>a1 r (f v)
def toD (h:MH):Nat->Val->Option PyData
 |_,.none=>some .none
 |_,.bool b=>some (.bool b)
 |_,.int i=>some (.int i)
 |_,.str s=>some (.str ⟨s.toArray⟩)
 |k+1,.tup vs=>(vs.mapM (toD h k)).map .tuple
 |k+1,.ref a=>(bG h (.ref a)).bind λvs=>(vs.mapM (toD h k)).map .list
 |_,_=>none
def sD (h:MH) (a b:Val):Option Bool:=(toD h 8 a).bind λx=>(toD h 8 b).map λy=>YZ x y
def kEq (a b:Val):Bool:=(sD [] a b).getD false
def aZ (es:List (Val×Val)) (k:Val):Option Val:=(es.find? λp=>kEq p.1 k).map (·.2)
def fA (v:Val):Bool:=v.int?.isSome||v.str?.isSome
def cC (v:Val):Nat:=bif fA v then 1 else bif (v.tup?.map λvs=>vs.all fA).getD false then 3 else 0
def zhv (es:List (Val×Val)):Option Nat:=es.head?.map λp=>cC p.1
def veq (h:MH) (a b:Val):Option Bool:=
 alt ((dictAt h a).bind λ_=>none) (sD h a b)
def truthy (h:MH) (x:Val):Option Bool:=Val.casesOn (motive_1:=λ_=>Option Bool) x (some false) some (λi=>some (i !=0)) (λs=>some (!s.isEmpty)) (λvs=>some (!vs.isEmpty))
 (λa=>(bG h (.ref a)).map λvs=>!vs.isEmpty) (λ_=>none) (λ_=>none) (λ_=>none) (λ_=>none) (λ_=>none) (λ_=>none)
def aM (es:List (Val×Val)) (k:Val):Bool:=cC k !=0 && (es.isEmpty||zhv es==some (cC k))
def dS (es:List (Val×Val)) (k v:Val):List (Val×Val):=
 bif (aZ es k).isSome then es.map λp=>bif kEq p.1 k then (p.1,v) else p else es++ [(k,v)]
def dpairs:List Val->List (Val×Val) ->Option (List (Val×Val))
 | [],es=>some es
 | [_],_=>none
 |k::v::r,es=>grd (aM es k) (dpairs r (dS es k v))
def cQ (h:MH) (o:MObj):Option (Val×MH):=some (.ref h.length,h++ [o])
def lim:Nat:=1000000
def bigB:Nat:=2 ^ 100000
def divB:Nat:=2 ^ 8000
def qX (a b:Int):Bool:=Jr (a.natAbs+1) bigB && Jr (b.natAbs+1) bigB
def kX (l:Nat) (n:Int):Bool:=decide (n<=lim) && decide (-(lim:Int)<=n) && Jr (l*n.toNat) lim
def zew (h:MH) (x y:Val):Option (Val×MH):=
 alt (x.int?.bind λa=>y.int?.bind λb=>some (.int (a+b),h))
 (alt (x.str?.bind λa=>y.str?.bind λb=>grd (Jr (a.length+b.length) lim) (some (.str (a++b),h)))
 ((bG h x).bind λa=>(bG h y).bind λb=>grd (Jr (a.length+b.length) lim) (cQ h (.list (a++b)))))
def qW (h:MH) (x y:Val):Option (Val×MH):=
 alt (x.int?.bind λa=>y.int?.bind λb=>grd (qX a b) (some (.int (a*b),h)))
 (alt (x.int?.bind λa=>y.bool?.bind λb=>some (.int (a*(if b then 1 else 0)),h))
 (alt ((bG h x).bind λa=>y.int?.bind λn=>grd (kX a.length n) (cQ h (.list (Qz n.toNat a).flatten)))
 (x.str?.bind λa=>y.int?.bind λn=>grd (kX a.length n) (some (.str (Qz n.toNat a).flatten,h)))))
def rU (op:BOp) (a b:Int):Option Int:=BOp.casesOn (motive:=λ_=>Option Int) op none (some (a-b)) none
 (grd (b !=0 && Jr (b.natAbs+1) divB) (some (YD a b))) (grd (b !=0) (some (Ky a b)))
 (grd (decide (0<=b) && decide (b<=64) && Jr (a.natAbs+1) (2 ^ 64)) (some (a ^ b.toNat)))
def d4 (op:BOp) (x y:Val) (h:MH):Option (Val×MH):=
 alt (x.int?.bind λa=>y.int?.bind λb=>(rU op a b).map λk=>(.int k,h))
 (BOp.casesOn (motive:=λ_=>Option (Val×MH)) op (zew h x y) none (qW h x y) none none none)
def isV (a b:Val):Option Bool:=
 alt (grd b.isNone (some a.isNone))
 (alt (a.ty?.bind λi=>b.ty?.map λj=>i==j)
 (alt (a.top?.bind λi=>b.top?.map λj=>i==j)
 (grd (a.isNone||a.int?.isSome||a.tup?.isSome) (b.top?.map λ_=>false))))
def nU (h:MH) (x:Val) (vs:List Val):Option Bool:=(vs.mapM (toD h 7)).bind λds=>(toD h 7 x).map λd=>ds.any λy=>YZ y d
def one? (s:List Nat):Option Nat:=ZF (motive:=λ_=>Option Nat) s none λc r=>ZF (motive:=λ_=>Option Nat) r (some c) λ_ _=>none
def tH (h:MH) (x y:Val):Option Bool:=
 alt (y.str?.bind λt=>(x.str?.bind one?).map λc=>t.contains c)
 (alt (y.tup?.bind λvs=>nU h x vs)
 (alt ((bG h y).bind λvs=>nU h x vs)
 ((dictAt h y).bind λd=>grd (aM d.2 x) (some (aZ d.2 x).isSome))))
def zbq (x y:Val) (f:Int->Int->Bool):Option Bool:=x.int?.bind λa=>y.int?.map λb=>f a b
def c7 (op:COp) (a b:Val) (h:MH):Option Bool:=COp.casesOn (motive:=λ_=>Option Bool) op (veq h a b) ((veq h a b).map (!·))
 (zbq a b λx y=>decide (x<y)) (zbq a b λx y=>decide (x<=y)) (zbq a b λx y=>decide (y<x)) (zbq a b λx y=>decide (y<=x))
 (tH h a b) ((tH h a b).map (!·)) (isV a b) ((isV a b).map (!·))
def idx (n:Nat) (i:Val):Option Nat:=i.int?.bind λi=>grd (decide (0<=i) && decide (i<n)) (some i.toNat)
def bJ (h:MH) (o i:Val):Option Val:=
 alt (o.tup?.bind λvs=>(idx vs.length i).bind λk=>vs[k]?)
 (alt (o.fl?.bind λvs=>(idx vs.length i).bind λk=>vs[k]?)
 (alt ((bG h o).bind λvs=>(idx vs.length i).bind λk=>vs[k]?)
 (alt (o.str?.bind λs=>(idx s.length i).bind λk=>s[k]?.map λc=> .str [c])
 (alt ((dictAt h o).bind λd=>grd (aM d.2 i) (aZ d.2 i))
 ((bG h o).bind λvs=>i.bool?.bind λb=>vs[cond b 1 0]?)))))
def dE (n:Nat) (v:Val):Option Nat:=v.int?.bind λi=>grd (decide (0<=i)) (some (min i.toNat n))
def lT (n k:Nat) (bs:List Val):Option (Nat×Nat):=
 bif k==0 then a0 bs (some (0,n)) else bif k==1 then a1 bs λa=>(dE n a).map λx=>(x,n)
 else bif k==2 then a1 bs λb=>(dE n b).map λy=>(0,y) else bif k==3 then a2 bs λa b=>(dE n a).bind λx=>(dE n b).map λy=>(x,y) else none
def cut {α:Type} (l:List α) (a b:Nat):List α:=(l.take b).drop a
def slice (h:MH) (o:Val) (k:Nat) (bs:List Val):Option (Val×MH):=o.str?.bind λs=>(lT s.length k bs).bind λp=>some (.str (cut s p.1 p.2),h)
def cS (h:MH) (o i v:Val):Option MH:=o.ref?.bind λa=>
 alt ((h[a]?.bind MObj.list?).bind λvs=>(idx vs.length i).map λk=>h.set a (.list (vs.set k v)))
 ((h[a]?.bind MObj.dict?).bind λd=>grd (aM d.2 i && Jr (d.2.length+1) lim) (some (h.set a (.dict (bif (aZ d.2 i).isSome then d.1 else d.1.map (· +1)) (dS d.2 i v)))))
def hH (fs:List (Nat×Val)) (n:Nat):Option Val:=(fs.find? λp=>p.1==n).map (·.2)
def fput:List (Nat×Val) ->Nat->Val->List (Nat×Val)
 | [],n,v=> [(n,v)]
 |p::r,n,v=>bif p.1==n then (n,v)::r else p::fput r n v
def Prg.clsAt (P:Prg) (c:Nat):Option Cl:=P.cls.find? λx=>x.addr==c
def Prg.clsAttr (P:Prg) (c n:Nat):Option Val:=(P.clsAt c).bind λx=>hH x.attrs n
def Prg.hasFld (P:Prg) (c n:Nat):Bool:=((P.clsAt c).map λk=>k.flds.contains n).getD false
def Prg.instAt (P:Prg) (a:Nat):Option Nat:=(P.insts.find? λp=>p.1==a).map (·.2)
def nJ (P:Prg) (v:Val):Bool:=(v.top?.map λa=>P.fns.any λf=>f.addr==a).getD false
def gW (P:Prg) (c n:Nat):Option Val:=(P.clsAttr c n).bind λv=>grd (!nJ P v) (some v)
def getAttr (P:Prg) (h:MH) (o:Val) (n:Nat):Option Val:=
 alt ((instAt h o).bind λq=>Qq (motive:=λ_=>Option Val) (hH q.2 n) (gW P q.1 n) λv=>grd (P.hasFld q.1 n) (some v))
 (o.top?.bind λa=>(P.instAt a).bind λc=>gW P c n)
def setAttr (P:Prg) (h:MH) (o:Val) (n:Nat) (v:Val):Option MH:=o.ref?.bind λa=>(h[a]?.bind MObj.inst?).bind λq=>
 grd (P.hasFld q.1 n && Jr (q.2.length+1) 400) (some (h.set a (.inst q.1 (fput q.2 n v))))
def jN (P:Prg) (c n:Nat):Option Nat:=(P.clsAttr c n).bind λv=>grd (nJ P v) v.top?
def cP (P:Prg) (h:MH) (o:Val) (n:Nat):Option (Nat×List Val):=
 alt (o.top?.bind λa=>Qq (motive:=λ_=>Option (Nat×List Val)) (P.instAt a) ((jN P a n).map λf=>(f,[])) λc=>(jN P c n).map λf=>(f,[o]))
 ((instAt h o).bind λq=>grd (hH q.2 n).isNone ((jN P q.1 n).map λf=>(f,[o])))
set_option genCtorIdx false in
inductive It where
 |ls (a:Nat)
 |tp (vs:List Val)
 |dk (a n ep:Nat)
 |sq (s:List Nat)
 |rg (n:Int)
 |fs (vs:List Val)
def dR (h:MH) (x:Val):Option It:=
 alt (x.rng?.bind λn=>grd (decide (n<=lim) && decide (-(lim:Int)<=n)) (some (.rg n)))
 (alt (x.ref?.bind λa=>alt ((h[a]?.bind MObj.list?).map λ_=> .ls a) none)
 (alt (x.tup?.map .tp) (alt (x.str?.map .sq) (x.fl?.map .fs))))
def bT (h:MH) (i:Nat) (k:It):Option (Option Val):=It.casesOn (motive:=λ_=>Option (Option Val)) k
 (λa=>(h[a]?.bind MObj.list?).map λvs=>vs[i]?)
 (λvs=>some vs[i]?)
 (λ_ _ _=>none)
 (λs=>some (s[i]?.map λc=> .str [c]))
 (λn=>some (bif decide ((i:Int)<n) then some (.int i) else none))
 (λvs=>some vs[i]?)
def items (h:MH) (x:Val):Option (List Val):=alt x.tup? (bG h x)
def g7 (tg:List Nat) (vs:List Val) (fr:Frame):Frame:=(tg.zip vs).foldl (λf p=>f.set p.1 (some p.2)) fr
def dY (fr:Frame) (tg:List Nat) (many:Bool) (v:Val):Option Frame:=
 bif many then v.tup?.bind λvs=>grd (vs.length==tg.length) (some (g7 tg vs fr)) else grd (tg.length==1) (some (g7 tg [v] fr))
def jV (l:List Int):List Int:=l.mergeSort λa b=>decide (a<=b)
abbrev nLen:Nat:=7103854
abbrev nMax:Nat:=7168376
abbrev nMin:Nat:=7170414
abbrev nSorted:Nat:=126922498794852
abbrev nRange:Nat:=491260897125
abbrev nList:Nat:=1818850164
abbrev nDict:Nat:=1684628340
abbrev nTuple:Nat:=500186508389
abbrev nStr:Nat:=7566450
abbrev nInt:Nat:=6909556
abbrev nType:Nat:=1954115685
abbrev nSet:Nat:=7562612
abbrev nBool:Nat:=1651470188
abbrev nNoneType:Nat:=5651857438861258853
abbrev nAppend:Nat:=107135549927012
abbrev nPop:Nat:=7368560
abbrev nIndex:Nat:=452823639416
abbrev nGet:Nat:=6776180
abbrev nIsspace:Nat:=29681812198482789
abbrev nJoin:Nat:=1785686382
abbrev nPartition:Nat:=2073057139020767260526
abbrev nSplit:Nat:=495807392116
abbrev nStrip:Nat:=495874894192
abbrev nStartswith:Nat:=545218989645367805047912
abbrev nFind:Nat:=1718185572
abbrev nAdd:Nat:=6382692
def zeZ (h:MH) (x:Val):Option Nat:=Val.casesOn (motive_1:=λ_=>Option Nat) x (some nNoneType) (λ_=>some nBool) (λ_=>some nInt) (λ_=>some nStr) (λ_=>some nTuple)
 (λa=>(bG h (.ref a)).map λ_=>nList) (λ_=>none) (λ_=>none) (λ_=>none) (λ_=>none) (λ_=>none) (λ_=>none)
def zaN (h:MH) (x:Val):Option Nat:=Val.casesOn (motive_1:=λ_=>Option Nat) x none (λ_=>none) (λ_=>none) (λs=>some s.length) (λvs=>some vs.length)
 (λa=>alt ((bG h (.ref a)).map (·.length)) ((dictAt h (.ref a)).map (·.2.length))) (λ_=>none) (λ_=>none) (λ_=>none) (λ_=>none) (λvs=>some vs.length) some
def nK (l:List Val):Option (List Int):=l.mapM Val.int?
def zer (as:List Val) (h:MH):Option (Val×MH):=a1 as λv=>(zaN h v).map λ(k:Nat)=>(Val.int (k:Int),h)
def zeq (as:List Val) (h:MH):Option (Val×MH):=a2 as λx y=>x.int?.bind λa=>y.int?.map λb=>(.int (if b>a then b else a),h)
def zep (as:List Val) (h:MH):Option (Val×MH):=a2 as λx y=>x.int?.bind λa=>y.int?.map λb=>(.int (if b<a then b else a),h)
def lU (as:List Val) (h:MH):Option (Val×MH):=a1 as λx=>(dictAt h x).bind λp=>(nK (p.2.map (·.1))).bind λl=>grd (!l.isEmpty && Jr (l.length+1) 64) (cQ h (.list ((jV l).map .int)))
def pI (n:Nat) (as:List Val) (h:MH):Option (Val×MH):=
 alt (grd (n==nLen) (zer as h)) (alt (grd (n==nMax) (zeq as h)) (alt (grd (n==nMin) (zep as h)) (grd (n==nSorted) (lU as h))))
def uJ (as:List Val) (h:MH):Option (Val×MH):=a1 as λx=>x.int?.map λk=>(.rng k,h)
def sE (as:List Val) (h:MH):Option (Val×MH):=a1 as λx=>alt (x.tup?.bind λvs=>cQ h (.list vs)) (alt (x.fl?.bind λvs=>cQ h (.list vs)) ((bG h x).bind λvs=>cQ h (.list vs)))
def sF (as:List Val) (h:MH):Option (Val×MH):=a1 as λx=>(dictAt h x).bind λd=>grd (d.2.all λp=>cC p.1==1) (cQ h (.dict none d.2))
def zgK (as:List Val) (h:MH):Option (Val×MH):=none
def zgL (as:List Val) (h:MH):Option (Val×MH):=none
def y6 (as:List Val) (h:MH):Option (Val×MH):=a1 as λx=>(zeZ h x).map λk=>(.ty k,h)
def zd6 (x:Val) (h:MH):Option (Val×MH):=none
def pH (n:Nat) (as:List Val) (h:MH):Option (Val×MH):=
 alt (grd (n==nRange) (uJ as h)) (alt (grd (n==nList) (sE as h)) (alt (grd (n==nStr) (zgK as h)) (alt (grd (n==nType) (y6 as h)) (alt (grd (n==nDict) (sF as h)) (alt (grd (n==nInt) (zgL as h)) (grd (n==nSet) (a1 as λx=>zd6 x h)))))))
def zff (s:List Nat):Bool:=s.all (λc=>Jr (c+1) 0x110000) && Jr s.length lim
def uP (s:List Nat) (n:Nat) (as:List Val) (h:MH):Option (Val×MH):=grd (n==nIsspace) (a0 as (some (.bool (Txt.isspace ⟨s.toArray⟩),h)))
def iK (a:Nat) (vs:List Val) (n:Nat) (as:List Val) (h:MH):Option (Val×MH):=
 alt (grd (n==nAppend) (a1 as λv=>grd (Jr (vs.length+1) lim) (some (.none,h.set a (.list (vs++ [v]))))))
 (grd (n==nPop) (a0 as (vs.getLast?.map λv=>(v,h.set a (.list vs.dropLast)))))
def iR (es:List (Val×Val)) (n:Nat) (as:List Val) (h:MH):Option (Val×MH):=
 grd (n==nGet) (alt (a1 as λk=>grd (aM es k) (some ((aZ es k).getD .none,h))) (a2 as λk d=>grd (aM es k) (some ((aZ es k).getD d,h))))
def jS (o:Val) (n:Nat) (as:List Val) (h0 h:MH):Option (Val×MH):=
 alt (o.str?.bind λs=>uP s n as h)
 (o.ref?.bind λa=>alt ((h0[a]?.bind MObj.list?).bind λ_=>(h[a]?.bind MObj.list?).bind λvs=>iK a vs n as h) ((h0[a]?.bind MObj.dict?).bind λ_=>(h[a]?.bind MObj.dict?).bind λd=>iR d.2 n as h))
structure Cx where
 P:Prg
 fuel:Nat
 call:Nat->List Val->MH->Option (Val×MH)
def zc1 (c:Cx) (a:Nat) (k:Cl) (as:List Val) (h:MH):Option (Val×MH):=
 k.init.bind λi=>bnd (c.call i (.ref h.length::as) (h++ [.inst a []])) λr h'=>grd r.isNone (some (.ref h.length,h'))
def aP (c:Cx) (f:Val) (as:List Val) (h:MH):Option (Val×MH):=
 alt (f.top?.bind λa=>Qq (motive:=λ_=>Option (Val×MH)) (c.P.clsAt a) (c.call a as h) λk=>zc1 c a k as h)
 (alt (f.bi?.bind λn=>pI n as h) (f.ty?.bind λn=>pH n as h))
def bI (c:Cx) (o:Val) (n:Nat) (as:List Val) (h0 h:MH):Option (Val×MH):=
 Qq (motive:=λ_=>Option (Val×MH)) (cP c.P h0 o n) (jS o n as h0 h) λp=>c.call p.1 (p.2++as) h
def bO (p:Option (Val×MH)):Option (Bool×MH):=bnd p λv h=>(truthy h v).map λb=>(b,h)
def compLoop (next:Nat->MH->Option (Option Val)) (test:Val->MH->Option (Option Frame×MH)) (elt:Frame->MH->Option (Val×MH)) (acc:Nat):Nat->Nat->MH->Option (Unit×MH)
 |0,_,_=>none
 |n+1,i,h=>(next i h).bind λov=>Qq (motive:=λ_=>Option (Unit×MH)) ov (some ((),h)) λv=>
  bnd (test v h) λofr h1=>Qq (motive:=λ_=>Option (Unit×MH)) ofr (compLoop next test elt acc n (i+1) h1) λfr=>
   bnd (elt fr h1) λx h2=>(h2[acc]?.bind MObj.list?).bind λvs=>grd (Jr (vs.length+1) lim) (compLoop next test elt acc n (i+1) (h2.set acc (.list (vs++ [x]))))
mutual
noncomputable def eval (c:Cx):Ex->Frame->MH->Option (Val×MH)
 | .var x,fr,h=>fr[x]?.bind λo=>o.map λv=>(v,h)
 | .lit v,_,h=>some (v,h)
 | .list es,fr,h=>bnd (eG c es fr h) λvs h1=>cQ h1 (.list vs)
 | .tup es,fr,h=>bnd (eG c es fr h) λvs h1=>some (.tup vs,h1)
 | .dict kvs,fr,h=>bnd (eG c kvs fr h) λl h1=>(dpairs l []).bind λes=>grd (Jr kvs.length 30) (cQ h1 (.dict (some es.length) es))
 | .bin op a b,fr,h=>bnd (eval c a fr h) λx h1=>bnd (eval c b fr h1) λy h2=>d4 op x y h2
 | .not a,fr,h=>bnd (bO (eval c a fr h)) λb h1=>some (.bool (!b),h1)
 | .cmp op a b,fr,h=>bnd (eval c a fr h) λx h1=>bnd (eval c b fr h1) λy h2=>(c7 op x y h2).map λr=>(.bool r,h2)
 | .bop stop es,fr,h=>jR c stop es fr h
 | .ite t a b,fr,h=>bnd (bO (eval c t fr h)) λr h1=>bif r then eval c a fr h1 else eval c b fr h1
 | .attr e n,fr,h=>bnd (eval c e fr h) λo h1=>(getAttr c.P h1 o n).map λv=>(v,h1)
 | .sub e i,fr,h=>bnd (eval c e fr h) λo h1=>bnd (eval c i fr h1) λk h2=>(bJ h2 o k).map λv=>(v,h2)
 | .slice e k bs,fr,h=>bnd (eval c e fr h) λo h1=>bnd (eG c bs fr h1) λvs h2=>slice h2 o k vs
 | .call f as,fr,h=>bnd (eval c f fr h) λg h1=>bnd (eG c as fr h1) λvs h2=>aP c g vs h2
 | .meth o n as,fr,h=>bnd (eval c o fr h) λv h1=>bnd (eG c as fr h1) λvs h2=>bI c v n vs h1 h2
 | .comp elt tg many it ifs,fr,h=>bnd (eval c it fr h) λv h1=>(dR h1 v).bind λk=>
   bnd (compLoop (λi h=>bT h i k) (λv h=>(dY fr tg many v).bind λfr'=>bnd (lN c ifs fr' h) λb h'=>some (bif b then some fr' else none,h')) (λfr' h=>eval c elt fr' h) h1.length c.fuel 0 (h1++ [.list []]))
    λ_ h2=>some (.ref h1.length,h2)
noncomputable def eG (c:Cx):List Ex->Frame->MH->Option (List Val×MH)
 | [],_,h=>some ([],h)
 |e::r,fr,h=>bnd (eval c e fr h) λv h1=>bnd (eG c r fr h1) λvs h2=>some (v::vs,h2)
noncomputable def jR (c:Cx) (stop:Bool):List Ex->Frame->MH->Option (Val×MH)
 | [],_,_=>none
 |e::r,fr,h=>bnd (eval c e fr h) λv h1=>bif r.isEmpty then some (v,h1) else (truthy h1 v).bind λb=>bif b==stop then some (v,h1) else jR c stop r fr h1
noncomputable def lN (c:Cx):List Ex->Frame->MH->Option (Bool×MH)
 | [],_,h=>some (true,h)
 |e::r,fr,h=>bnd (bO (eval c e fr h)) λb h1=>bif b then lN c r fr h1 else some (false,h1)
end
def kO (c:Cx) (fr:Frame) (h:MH) (v:Val):T1->Option (Frame×MH)
 | .nm x=>some (fr.set x (some v),h)
 | .at o n=>bnd (eval c o fr h) λov h1=>(setAttr c.P h1 ov n v).map λh2=>(fr,h2)
 | .sb o i=>bnd (eval c o fr h) λov h1=>bnd (eval c i fr h1) λiv h2=>(cS h2 ov iv v).map λh3=>(fr,h3)
def dP (c:Cx):List T1->List Val->Frame->MH->Option (Frame×MH)
 | [],vs,fr,h=>grd vs.isEmpty (some (fr,h))
 |t::ts,vs,fr,h=>vs.head?.bind λv=>bnd (kO c fr h v t) λfr' h'=>dP c ts vs.tail fr' h'
abbrev SR:=Option ((Fl×Frame)×MH)
def jO (cond:Frame->MH->Option (Bool×MH)) (body:Frame->MH->SR):Nat->Frame->MH->SR
 |0,_,_=>none
 |n+1,fr,h=>bnd (cond fr h) λb h1=>bif b then bnd (body fr h1) λp h2=>Fl.casesOn (motive:=λ_=>SR) p.1 (jO cond body n p.2 h2) (some ((.nx,p.2),h2)) (jO cond body n p.2 h2) (λv=>some ((.rt v,p.2),h2))
  else some ((.nx,fr),h1)
def lI (next:Nat->MH->Option (Option Val)) (bind:Frame->Val->Option Frame) (body:Frame->MH->SR):Nat->Nat->Frame->MH->SR
 |0,_,_,_=>none
 |n+1,i,fr,h=>(next i h).bind λov=>Qq (motive:=λ_=>SR) ov (some ((.nx,fr),h)) λv=>(bind fr v).bind λfr1=>
   bnd (body fr1 h) λp h2=>Fl.casesOn (motive:=λ_=>SR) p.1 (lI next bind body n (i+1) p.2 h2) (some ((.nx,p.2),h2)) (lI next bind body n (i+1) p.2 h2) (λv=>some ((.rt v,p.2),h2))
mutual
noncomputable def exec (c:Cx):Sm->Frame->MH->SR
 | .expr e,fr,h=>bnd (eval c e fr h) λ_ h1=>some ((.nx,fr),h1)
 | .asg t e,fr,h=>bnd (eval c e fr h) λv h1=>bnd (kO c fr h1 v t) λfr' h2=>some ((.nx,fr'),h2)
 | .asgs ts e,fr,h=>bnd (eval c e fr h) λv h1=>(items h1 v).bind λvs=>bnd (dP c ts vs fr h1) λfr' h2=>some ((.nx,fr'),h2)
 | .ret e,fr,h=>bnd (eval c e fr h) λv h1=>some ((.rt v,fr),h1)
 | .ite t a b,fr,h=>bnd (bO (eval c t fr h)) λr h1=>bif r then execs c a fr h1 else execs c b fr h1
 | .wh t b,fr,h=>jO (λfr h=>bO (eval c t fr h)) (λfr h=>execs c b fr h) c.fuel fr h
 | .fo tg many e b,fr,h=>bnd (eval c e fr h) λv h1=>(dR h1 v).bind λk=>lI (λi h=>bT h i k) (λfr v=>dY fr tg many v) (λfr h=>execs c b fr h) c.fuel 0 fr h1
 | .brk,fr,h=>some ((.bk,fr),h)
 | .cont,fr,h=>some ((.ct,fr),h)
 | .pass,fr,h=>some ((.nx,fr),h)
 | .raise,_,_=>none
 | .rse _,_,_=>none
 | .tr _ _ _ _,_,_=>none
noncomputable def execs (c:Cx):List Sm->Frame->MH->SR
 | [],fr,h=>some ((.nx,fr),h)
 |s::r,fr,h=>bnd (exec c s fr h) λp h1=>Fl.casesOn (motive:=λ_=>SR) p.1 (execs c r p.2 h1) (some (p,h1)) (some (p,h1)) (λ_=>some (p,h1))
end
def Prg.fnAt (P:Prg) (a:Nat):Option Fn:=P.fns.find? λf=>f.addr==a
def hW (f:Fn) (as:List Val):Option (List Val):=grd (Jr as.length f.np && Jr (f.np-as.length) f.dfl.length) (some (as++f.dfl.drop (f.dfl.length-(f.np-as.length))))
def fC (f:Fn) (vs:List Val):Frame:=vs.map some++Qz (f.ns-f.np) none
def zds (p:Fl×Frame) (h:MH):Option (Val×MH):=Fl.casesOn (motive:=λ_=>Option (Val×MH)) p.1 (some (.none,h)) none none λv=>some (v,h)
def cG (P:Prg) (fuel:Nat):Nat->Nat->List Val->MH->Option (Val×MH)
 |0,_,_,_=>none
 |d+1,a,as,h=>(P.fnAt a).bind λf=>(hW f as).bind λvs=>bnd (execs ⟨P,fuel,cG P fuel d⟩ f.body (fC f vs) h) zds
end Internal
namespace Internal
open PySem
structure CC where
 sc:List (Str×NameKind)
 vars:List (Str×Nat)
 next:Nat
 gl:List (Str×Val)
def aH (x : Str) : Bool := x.cps.toList.all (λc => 1 <= c && c <= 255) && x != ("__debug__" : Str) && x != ("__class__" : Str) && x != ("super" : Str) && !x.cps.toList.isEmpty
def constV:Const->Option Val
 | .none=>some .none
 | .bool b=>some (.bool b)
 | .int i=>some (.int i)
 | .str s=>grd (zff s.cps.toList) (some (.str s.cps.toList))
 |_=>none
def cW (cx:CC) (x:Str):Option Nat:=grd (cx.sc.lookup x==some .local||cx.sc.lookup x==some .cell) (cx.vars.lookup x)
def bopOf:Operator->Option BOp
 | .Add=>some .add
 | .Sub=>some .sub
 | .Mult=>some .mul
 | .FloorDiv=>some .fdiv
 | .Mod=>some .mod
 | .Pow=>some .pow
 |_=>none
def copOf:CmpOp->COp
 | .Eq=> .eq
 | .NotEq=> .ne
 | .Lt=> .lt
 | .LtE=> .le
 | .Gt=> .gt
 | .GtE=> .ge
 | .In=> .isin
 | .NotIn=> .notin
 | .Is=> .is
 | .IsNot=> .isnot
def d9 (e:Expr):Option (Str×Pos):=Expr.casesOn (motive_1:=λ_=>Option (Str×Pos)) e (λ_ _ _=>none) (λ_ _ _=>none) (λ_ _ _ _=>none) (λ_ _ _=>none) (λ_ _ _ _=>none) (λ_ _ _ _=>none) (λ_ _ _=>none) (λ_ _ _=>none) (λ_ _ _ _=>none) (λ_ _ _ _=>none) (λ_ _ _ _ _=>none) (λ_ _ _ _=>none) (λ_ _=>none) (λ_ _=>none) (λ_ _=>none) (λ_ _ _ _=>none) (λ_ _ _ _=>none) (λ_ _ _ _=>none) (λ_ _=>none) (λ_ _ _=>none) (λ_ _ _=>none) (λ_ _ _=>none) (λ_ _=>none) (λx y=>some (x,y)) (λ_ _=>none) (λ_ _ _=>none) (λ_ _ _ _=>none)
def l7 (e:Expr):Option (Expr×Str×Pos):=Expr.casesOn (motive_1:=λ_=>Option (Expr×Str×Pos)) e (λ_ _ _=>none) (λ_ _ _=>none) (λ_ _ _ _=>none) (λ_ _ _=>none) (λ_ _ _ _=>none) (λ_ _ _ _=>none) (λ_ _ _=>none) (λ_ _ _=>none) (λ_ _ _ _=>none) (λ_ _ _ _=>none) (λ_ _ _ _ _=>none) (λ_ _ _ _=>none) (λ_ _=>none) (λ_ _=>none) (λ_ _=>none) (λ_ _ _ _=>none) (λ_ _ _ _=>none) (λ_ _ _ _=>none) (λ_ _=>none) (λ_ _ _=>none) (λx y z=>some (x,y,z)) (λ_ _ _=>none) (λ_ _=>none) (λ_ _=>none) (λ_ _=>none) (λ_ _ _=>none) (λ_ _ _ _=>none)
def gX (e:Expr):Option (List Expr×Nat×Pos):=Expr.casesOn (motive_1:=λ_=>Option (List Expr×Nat×Pos)) e (λ_ _ _=>none) (λ_ _ _=>none) (λ_ _ _ _=>none) (λ_ _ _=>none) (λ_ _ _ _=>none) (λ_ _ _ _=>none) (λ_ _ _=>none) (λ_ _ _=>none) (λ_ _ _ _=>none) (λ_ _ _ _=>none) (λ_ _ _ _ _=>none) (λ_ _ _ _=>none) (λ_ _=>none) (λ_ _=>none) (λ_ _=>none) (λ_ _ _ _=>none) (λ_ _ _ _=>none) (λ_ _ _ _=>none) (λ_ _=>none) (λ_ _ _=>none) (λ_ _ _=>none) (λ_ _ _=>none) (λ_ _=>none) (λ_ _=>none) (λ_ _=>none) (λx y z=>some (x,y,z)) (λ_ _ _ _=>none)
def zbC (e:Expr):Option (Expr×Expr×Pos):=Expr.casesOn (motive_1:=λ_=>Option (Expr×Expr×Pos)) e (λ_ _ _=>none) (λ_ _ _=>none) (λ_ _ _ _=>none) (λ_ _ _=>none) (λ_ _ _ _=>none) (λ_ _ _ _=>none) (λ_ _ _=>none) (λ_ _ _=>none) (λ_ _ _ _=>none) (λ_ _ _ _=>none) (λ_ _ _ _ _=>none) (λ_ _ _ _=>none) (λ_ _=>none) (λ_ _=>none) (λ_ _=>none) (λ_ _ _ _=>none) (λ_ _ _ _=>none) (λ_ _ _ _=>none) (λ_ _=>none) (λ_ _ _=>none) (λ_ _ _=>none) (λx y z=>some (x,y,z)) (λ_ _=>none) (λ_ _=>none) (λ_ _=>none) (λ_ _ _=>none) (λ_ _ _ _=>none)
def iU (e:Expr):Option (Option Expr×Option Expr×Option Expr×Pos):=Expr.casesOn (motive_1:=λ_=>Option (Option Expr×Option Expr×Option Expr×Pos)) e (λ_ _ _=>none) (λ_ _ _=>none) (λ_ _ _ _=>none) (λ_ _ _=>none) (λ_ _ _ _=>none) (λ_ _ _ _=>none) (λ_ _ _=>none) (λ_ _ _=>none) (λ_ _ _ _=>none) (λ_ _ _ _=>none) (λ_ _ _ _ _=>none) (λ_ _ _ _=>none) (λ_ _=>none) (λ_ _=>none) (λ_ _=>none) (λ_ _ _ _=>none) (λ_ _ _ _=>none) (λ_ _ _ _=>none) (λ_ _=>none) (λ_ _ _=>none) (λ_ _ _=>none) (λ_ _ _=>none) (λ_ _=>none) (λ_ _=>none) (λ_ _=>none) (λ_ _ _=>none) (λx y z u=>some (x,y,z,u))
def ziz (e:Expr):Option (Expr×List Expr×List Keyword×Pos):=Expr.casesOn (motive_1:=λ_=>Option (Expr×List Expr×List Keyword×Pos)) e (λ_ _ _=>none) (λ_ _ _=>none) (λ_ _ _ _=>none) (λ_ _ _=>none) (λ_ _ _ _=>none) (λ_ _ _ _=>none) (λ_ _ _=>none) (λ_ _ _=>none) (λ_ _ _ _=>none) (λ_ _ _ _=>none) (λ_ _ _ _ _=>none) (λ_ _ _ _=>none) (λ_ _=>none) (λ_ _=>none) (λ_ _=>none) (λ_ _ _ _=>none) (λx y z u=>some (x,y,z,u)) (λ_ _ _ _=>none) (λ_ _=>none) (λ_ _ _=>none) (λ_ _ _=>none) (λ_ _ _=>none) (λ_ _=>none) (λ_ _=>none) (λ_ _=>none) (λ_ _ _=>none) (λ_ _ _ _=>none)
def vS (e:Expr):Option (Const×Nat×Pos):=Expr.casesOn (motive_1:=λ_=>Option (Const×Nat×Pos)) e (λ_ _ _=>none) (λ_ _ _=>none) (λ_ _ _ _=>none) (λ_ _ _=>none) (λ_ _ _ _=>none) (λ_ _ _ _=>none) (λ_ _ _=>none) (λ_ _ _=>none) (λ_ _ _ _=>none) (λ_ _ _ _=>none) (λ_ _ _ _ _=>none) (λ_ _ _ _=>none) (λ_ _=>none) (λ_ _=>none) (λ_ _=>none) (λ_ _ _ _=>none) (λ_ _ _ _=>none) (λ_ _ _ _=>none) (λ_ _=>none) (λx y z=>some (x,y,z)) (λ_ _ _=>none) (λ_ _ _=>none) (λ_ _=>none) (λ_ _=>none) (λ_ _=>none) (λ_ _ _=>none) (λ_ _ _ _=>none)
def d6 (e:Expr):Bool:=Expr.casesOn (motive_1:=λ_=>Bool) e (λ_ _ _=>false) (λ_ _ _=>false) (λ_ _ _ _=>false) (λ_ _ _=>false) (λ_ _ _ _=>false) (λ_ _ _ _=>false) (λ_ _ _=>false) (λ_ _ _=>false) (λx y z u=>true) (λ_ _ _ _=>false) (λ_ _ _ _ _=>false) (λ_ _ _ _=>false) (λ_ _=>false) (λ_ _=>false) (λ_ _=>false) (λ_ _ _ _=>false) (λ_ _ _ _=>false) (λ_ _ _ _=>false) (λ_ _=>false) (λ_ _ _=>false) (λ_ _ _=>false) (λ_ _ _=>false) (λ_ _=>false) (λ_ _=>false) (λ_ _=>false) (λ_ _ _=>false) (λ_ _ _ _=>false)
def lX (e:Expr):Bool:=Expr.casesOn (motive_1:=λ_=>Bool) e (λ_ _ _=>true) (λ_ _ _=>true) (λ_ _ _ _=>true) (λ_ _ _=>true) (λ_ _ _ _=>true) (λ_ _ _ _=>true) (λ_ _ _=>true) (λ_ _ _=>true) (λ_ _ _ _=>true) (λ_ _ _ _=>true) (λ_ _ _ _ _=>true) (λ_ _ _ _=>true) (λ_ _=>true) (λ_ _=>true) (λ_ _=>true) (λ_ _ _ _=>true) (λx y z u=>!y.isEmpty) (λ_ _ _ _=>true) (λ_ _=>true) (λ_ _ _=>true) (λ_ _ _=>true) (λ_ _ _=>true) (λ_ _=>true) (λ_ _=>true) (λ_ _=>true) (λ_ _ _=>true) (λ_ _ _ _=>true)
section
variable {α β γ:Type}
def dB (f:α->Option β):List α->Option (List β)
 | []=>some []
 |a::r=>(f a).bind λb=>(dB f r).map λbs=>b::bs
def xD (l:List α) (f:α->Option β):Option β:=ZF (motive:=λ_=>Option β) l none λa r=>ZF (motive:=λ_=>Option β) r (f a) λ_ _=>none
inductive bZ (R:α->β->Prop):List α->List β->Prop
 |nil:bZ R [] []
 |cons {a:α}{b:β}{as:List α}{bs:List β}:R a b->bZ R as bs->bZ R (a::as) (b::bs)
theorem bs {o:Option α}{f:α->Option β}{r:β} (h:o.bind f=some r): ∃a,o=some a/\f a=some r:=Yd.mp h
theorem ms {o:Option α}{f:α->β}{r:β} (h:o.map f=some r): ∃a,o=some a/\f a=r:=JK.mp h
theorem gs {b:Bool}{o:Option α}{r:α} (h:grd b o=some r):b=true/\o=some r:=by
 cases b
 ·cases h
 ·exact ⟨rfl,h⟩
theorem aN {P:Prop}{o:Option α}{f:α->Option β}{r:β} (g: ∀a,o=some a->f a=some r->P) (h:o.bind f=some r):P:=(bs h).elim λa h=>g a h.1 h.2
theorem bF {P:Prop}{o:Option α}{f:α->β}{r:β} (g: ∀a,o=some a->f a=r->P) (h:o.map f=some r):P:=(ms h).elim λa h=>g a h.1 h.2
theorem cF {P:Prop}{b:Bool}{o:Option α}{r:α} (g:b=true->o=some r->P) (h:grd b o=some r):P:=g (gs h).1 (gs h).2
theorem bM {P:Prop}{a b:Option α}{r:α} (g:a=some r->P) (g':b=some r->P):alt a b=some r->P:=Qq (motive:=λa=>(a=some r->P) ->alt a b=some r->P) a (λ_ h=>g' h) (λ_ g h=>g h) g
theorem aD {P:Prop}{o:Option (α×MH)}{f:α->MH->Option (β×MH)}{r:β×MH} (g: ∀a h,o=some (a,h) ->f a h=some r->P):bnd o f=some r->P:=Qq (motive:=λo=>(∀a h,o=some (a,h) ->f a h=some r->P) ->bnd o f=some r->P) o (λ_ h=>Option.noConfusion rfl (heq_of_eq h)) (λp g h=>g p.1 p.2 rfl h) g
theorem lG {l:List α}{f:α->Option β}{r:β} (h:xD l f=some r): ∃a,l= [a]/\f a=some r:=by
 cases l with
 |nil=>cases h
 |cons a l=>
  cases l with
  |nil=>exact ⟨a,rfl,h⟩
  |cons _ _=>cases h
theorem e9 {f:α->Option β}{l:List α}: ∀ {r:List β},dB f l=some r->bZ (λa b=>f a=some b) l r:=by
 induction l with
 |nil=>intro r h;cases h;exact .nil
 |cons a l ih=>
  intro r h;obtain ⟨b,h1,h⟩:=bs h;refine (ms h).elim λbs zq1=>?_;obtain rfl:=zq1.2;exact .cons h1 (ih zq1.1)
theorem bZ.mono {R S:α->β->Prop} (h: ∀a b,R a b->S a b) {as:List α}{bs:List β} (r:bZ R as bs):bZ S as bs:=by
 induction r with
 |nil=>exact .nil
 |cons x _ ih=>exact .cons (h _ _ x) ih
theorem bZ.length {R:α->β->Prop}{as:List α}{bs:List β} (r:bZ R as bs):bs.length=as.length:=by
 induction r with
 |nil=>rfl
 |cons _ _ ih=>exact congrArg (· +1) ih
end
theorem nos {α:Type}{p:α}{P:Prop} (h:none=some p):P:=nomatch h
theorem zgB {e:Expr}{p:Const×Nat×Pos}:vS e=some p->e= .Constant p.1 p.2.1 p.2.2:=Expr.casesOn (motive_1:=λe=>vS e=some p->e= .Constant p.1 p.2.1 p.2.2) e (λ_ _ _ h=>nos h) (λ_ _ _ h=>nos h) (λ_ _ _ _ h=>nos h) (λ_ _ _ h=>nos h) (λ_ _ _ _ h=>nos h) (λ_ _ _ _ h=>nos h) (λ_ _ _ h=>nos h) (λ_ _ _ h=>nos h) (λ_ _ _ _ h=>nos h) (λ_ _ _ _ h=>nos h) (λ_ _ _ _ _ h=>nos h) (λ_ _ _ _ h=>nos h) (λ_ _ h=>nos h) (λ_ _ h=>nos h) (λ_ _ h=>nos h) (λ_ _ _ _ h=>nos h) (λ_ _ _ _ h=>nos h) (λ_ _ _ _ h=>nos h) (λ_ _ h=>nos h) (λx y z h=>Qy.inj h▸rfl) (λ_ _ _ h=>nos h) (λ_ _ _ h=>nos h) (λ_ _ h=>nos h) (λ_ _ h=>nos h) (λ_ _ h=>nos h) (λ_ _ _ h=>nos h) (λ_ _ _ _ h=>nos h)
theorem eI {e:Expr}{p:Str×Pos}:d9 e=some p->e= .Name p.1 p.2:=Expr.casesOn (motive_1:=λe=>d9 e=some p->e= .Name p.1 p.2) e (λ_ _ _ h=>nos h) (λ_ _ _ h=>nos h) (λ_ _ _ _ h=>nos h) (λ_ _ _ h=>nos h) (λ_ _ _ _ h=>nos h) (λ_ _ _ _ h=>nos h) (λ_ _ _ h=>nos h) (λ_ _ _ h=>nos h) (λ_ _ _ _ h=>nos h) (λ_ _ _ _ h=>nos h) (λ_ _ _ _ _ h=>nos h) (λ_ _ _ _ h=>nos h) (λ_ _ h=>nos h) (λ_ _ h=>nos h) (λ_ _ h=>nos h) (λ_ _ _ _ h=>nos h) (λ_ _ _ _ h=>nos h) (λ_ _ _ _ h=>nos h) (λ_ _ h=>nos h) (λ_ _ _ h=>nos h) (λ_ _ _ h=>nos h) (λ_ _ _ h=>nos h) (λ_ _ h=>nos h) (λx y h=>Qy.inj h▸rfl) (λ_ _ h=>nos h) (λ_ _ _ h=>nos h) (λ_ _ _ _ h=>nos h)
theorem l6 {e:Expr}{p:Expr×Str×Pos}:l7 e=some p->e= .Attribute p.1 p.2.1 p.2.2:=Expr.casesOn (motive_1:=λe=>l7 e=some p->e= .Attribute p.1 p.2.1 p.2.2) e (λ_ _ _ h=>nos h) (λ_ _ _ h=>nos h) (λ_ _ _ _ h=>nos h) (λ_ _ _ h=>nos h) (λ_ _ _ _ h=>nos h) (λ_ _ _ _ h=>nos h) (λ_ _ _ h=>nos h) (λ_ _ _ h=>nos h) (λ_ _ _ _ h=>nos h) (λ_ _ _ _ h=>nos h) (λ_ _ _ _ _ h=>nos h) (λ_ _ _ _ h=>nos h) (λ_ _ h=>nos h) (λ_ _ h=>nos h) (λ_ _ h=>nos h) (λ_ _ _ _ h=>nos h) (λ_ _ _ _ h=>nos h) (λ_ _ _ _ h=>nos h) (λ_ _ h=>nos h) (λ_ _ _ h=>nos h) (λx y z h=>Qy.inj h▸rfl) (λ_ _ _ h=>nos h) (λ_ _ h=>nos h) (λ_ _ h=>nos h) (λ_ _ h=>nos h) (λ_ _ _ h=>nos h) (λ_ _ _ _ h=>nos h)
theorem kA {e:Expr}{p:List Expr×Nat×Pos}:gX e=some p->e= .Tuple p.1 p.2.1 p.2.2:=Expr.casesOn (motive_1:=λe=>gX e=some p->e= .Tuple p.1 p.2.1 p.2.2) e (λ_ _ _ h=>nos h) (λ_ _ _ h=>nos h) (λ_ _ _ _ h=>nos h) (λ_ _ _ h=>nos h) (λ_ _ _ _ h=>nos h) (λ_ _ _ _ h=>nos h) (λ_ _ _ h=>nos h) (λ_ _ _ h=>nos h) (λ_ _ _ _ h=>nos h) (λ_ _ _ _ h=>nos h) (λ_ _ _ _ _ h=>nos h) (λ_ _ _ _ h=>nos h) (λ_ _ h=>nos h) (λ_ _ h=>nos h) (λ_ _ h=>nos h) (λ_ _ _ _ h=>nos h) (λ_ _ _ _ h=>nos h) (λ_ _ _ _ h=>nos h) (λ_ _ h=>nos h) (λ_ _ _ h=>nos h) (λ_ _ _ h=>nos h) (λ_ _ _ h=>nos h) (λ_ _ h=>nos h) (λ_ _ h=>nos h) (λ_ _ h=>nos h) (λx y z h=>Qy.inj h▸rfl) (λ_ _ _ _ h=>nos h)
theorem zdN {e:Expr}{p:Expr×Expr×Pos}:zbC e=some p->e= .Subscript p.1 p.2.1 p.2.2:=Expr.casesOn (motive_1:=λe=>zbC e=some p->e= .Subscript p.1 p.2.1 p.2.2) e (λ_ _ _ h=>nos h) (λ_ _ _ h=>nos h) (λ_ _ _ _ h=>nos h) (λ_ _ _ h=>nos h) (λ_ _ _ _ h=>nos h) (λ_ _ _ _ h=>nos h) (λ_ _ _ h=>nos h) (λ_ _ _ h=>nos h) (λ_ _ _ _ h=>nos h) (λ_ _ _ _ h=>nos h) (λ_ _ _ _ _ h=>nos h) (λ_ _ _ _ h=>nos h) (λ_ _ h=>nos h) (λ_ _ h=>nos h) (λ_ _ h=>nos h) (λ_ _ _ _ h=>nos h) (λ_ _ _ _ h=>nos h) (λ_ _ _ _ h=>nos h) (λ_ _ h=>nos h) (λ_ _ _ h=>nos h) (λ_ _ _ h=>nos h) (λx y z h=>Qy.inj h▸rfl) (λ_ _ h=>nos h) (λ_ _ h=>nos h) (λ_ _ h=>nos h) (λ_ _ _ h=>nos h) (λ_ _ _ _ h=>nos h)
theorem yI {e:Expr}{p:Option Expr×Option Expr×Option Expr×Pos}:iU e=some p->e= .Slice p.1 p.2.1 p.2.2.1 p.2.2.2:=Expr.casesOn (motive_1:=λe=>iU e=some p->e= .Slice p.1 p.2.1 p.2.2.1 p.2.2.2) e (λ_ _ _ h=>nos h) (λ_ _ _ h=>nos h) (λ_ _ _ _ h=>nos h) (λ_ _ _ h=>nos h) (λ_ _ _ _ h=>nos h) (λ_ _ _ _ h=>nos h) (λ_ _ _ h=>nos h) (λ_ _ _ h=>nos h) (λ_ _ _ _ h=>nos h) (λ_ _ _ _ h=>nos h) (λ_ _ _ _ _ h=>nos h) (λ_ _ _ _ h=>nos h) (λ_ _ h=>nos h) (λ_ _ h=>nos h) (λ_ _ h=>nos h) (λ_ _ _ _ h=>nos h) (λ_ _ _ _ h=>nos h) (λ_ _ _ _ h=>nos h) (λ_ _ h=>nos h) (λ_ _ _ h=>nos h) (λ_ _ _ h=>nos h) (λ_ _ _ h=>nos h) (λ_ _ h=>nos h) (λ_ _ h=>nos h) (λ_ _ h=>nos h) (λ_ _ _ h=>nos h) (λx y z u h=>Qy.inj h▸rfl)
def eZ (e:Expr):Option Str:=(d9 e).map (·.1)
def jI (e:Expr):Option (List Str×Bool):=alt ((d9 e).map λp=>([p.1],false)) ((gX e).bind λp=>(dB eZ p.1).map λxs=>(xs,true))
def hO (outer:List (Str×NameKind)) (sc:Scope):List (Str×NameKind):=
 sc.names.map λp=>(p.1,if (p.2== .free && outer.lookup p.1==some .cell)=true then .cell else p.2)
def inComp (cx:CC) (sc:Scope) (xs:List Str):CC:=
 {sc:=hO cx.sc sc,vars:=xs.zip (QR cx.next xs.length)++cx.vars,next:=cx.next+xs.length,gl:=cx.gl}
def lO (cx:CC) (sc:Scope) (xs:List Str):Bool:=
 sc.kind== .function &&
 (sc.names.all λp=>p.2 != .cell && (p.2 != .local||(sc.names.lookup p.1==some .local && (xs.contains p.1||(cx.vars.lookup p.1).isNone))) && (p.2 != .free||(sc.names.lookup p.1==some .free && cx.sc.lookup p.1==some .cell))) &&
 xs.all (λx=>sc.names.lookup x==some .local) && decide xs.Nodup
def zipKV:List Ex->List Ex->List Ex
 |k::ks,v::vs=>k::v::zipKV ks vs
 |_,_=> []
def zar (cx:CC) (x:Str):Option Ex:=grd (aH x) (Qq (motive:=λ_=>Option Ex) (cW cx x) (grd (cx.sc.lookup x==some .globalImplicit) ((cx.gl.lookup x).map .lit)) λi=>some (.var i))
def zhO (f:Expr->Option Ex) (cx:CC) (pos:Pos) (as:List Ex) (g:Expr):Option Ex:=
 alt ((d9 g).bind λp=>(zar cx p.1).map λe=> .call e as)
 ((l7 g).bind λp=>grd (aH p.2.1 && lX p.1 && p.2.2.endLine==pos.line) ((f p.1).map λe=> .meth e (enc p.2.1) as))
def pK (f:Expr->Option Ex) (lo hi:Option Expr):Option (Nat×List Ex):=
 Qq (motive:=λ_=>Option (Nat×List Ex)) lo
  (Qq (motive:=λ_=>Option (Nat×List Ex)) hi (some (0,[])) λb=>(f b).map λy=>(2,[y]))
  λa=>(f a).bind λx=>Qq (motive:=λ_=>Option (Nat×List Ex)) hi (some (1,[x])) λb=>(f b).map λy=>(3,[x,y])
def zid (f:Expr->Option Ex) (v sl:Expr):Option Ex:=
 Qq (motive:=λ_=>Option Ex) (iU sl) ((f v).bind λe=>(f sl).map λi=> .sub e i)
  λp=>grd ((d9 v).isSome && p.2.2.1.isNone) ((f v).bind λe=>(pK f p.1 p.2.1).map λq=> .slice e q.1 q.2)
def compE:Nat->CC->Expr->Option Ex
 |0,_,_=>none
 |n+1,cx,e=>match e with
  | .Constant c _ _=>(constV c).map .lit
  | .Name x _=>zar cx x
  | .BoolOp op vs _=>(dB (compE n cx) vs).map (.bop (op== .Or))
  | .BinOp l op r _=>(bopOf op).bind λo=>(compE n cx l).bind λa=>(compE n cx r).map λb=> .bin o a b
  | .UnaryOp op x _=>grd (op== .Not) ((compE n cx x).map .not)
  | .IfExp t a b _=>(compE n cx t).bind λt'=>(compE n cx a).bind λa'=>(compE n cx b).map λb'=> .ite t' a' b'
  | .List es _=>grd (Jr es.length 1000) ((dB (compE n cx) es).map .list)
  | .Tuple es _ _=>grd (Jr es.length 1000) ((dB (compE n cx) es).map .tup)
  | .Compare l ops cs _=>xD ops λo=>xD cs λr=>(compE n cx l).bind λa=>(compE n cx r).map λb=> .cmp (copOf o) a b
  | .Call f as ks pos=>grd (ks.isEmpty && Jr as.length 20) ((dB (compE n cx) as).bind λbs=>zhO (compE n cx) cx pos bs f)
  | .Attribute v nm _=>grd (aH nm && lX v) ((compE n cx v).map λe=> .attr e (enc nm))
  | .Subscript v sl _=>zid (compE n cx) v sl
  | .Dict ks vs _=>grd (ks.length==vs.length) ((dB (λo=>o.bind (compE n cx)) ks).bind λa=>(dB (compE n cx) vs).map λb=> .dict (zipKV a b))
  | .ListComp elt gens sc _=>xD gens λg=>(jI g.target).bind λt=>grd (g.is_async==0 && lO cx sc t.1) ((compE n cx g.iter).bind λit=>(dB (compE n (inComp cx sc t.1)) g.ifs).bind λifs=>
    (compE n (inComp cx sc t.1) elt).map λe=> .comp e (QR cx.next t.1.length) t.2 it ifs)
  |_=>none
abbrev compX:CC->Expr->Option Ex:=compE 60
def zbn (cx:CC) (t:Expr):Option T1:=
 alt ((d9 t).bind λp=>grd (aH p.1) ((cW cx p.1).map .nm))
 (alt ((l7 t).bind λp=>grd (aH p.2.1) ((compX cx p.1).map λe=> .at e (enc p.2.1)))
 ((zbC t).bind λp=>(compX cx p.1).bind λa=>(compX cx p.2.1).map λb=> .sb a b))
def oJ (cx:CC) (x:Str):Option Nat:=grd (aH x) (cW cx x)
def zbo (cx:CC) (t:Expr):Option (Ex×Nat):=(l7 t).bind λp=>grd (aH p.2.1) ((compX cx p.1).map λe=>(e,enc p.2.1))
def m3 (v:Expr):Bool:=!d6 v && ((gX v).map λp=>!p.1.all (constantsAlone 8)).getD true
def zaq (es:List Expr):Option (List Str):=(dB eZ es).bind λxs=>grd (decide xs.Nodup) (some xs)
def ziy (cx:CC) (v t:Expr):Option Sm:=
 Qq (motive:=λ_=>Option Sm) (gX t) ((zbn cx t).bind λa=>(compX cx v).map λb=> .asg a b)
  λp=>grd (m3 v) ((compX cx v).bind λb=>alt ((zaq p.1).bind λxs=>(dB (oJ cx) xs).map λis=> .asgs (is.map .nm) b)
   (grd (!p.1.isEmpty) ((dB (zbo cx) p.1).map λts=> .asgs (ts.map λq=> .at q.1 q.2) b)))
def compS:Nat->CC->Stmt->Option Sm
 |0,_,_=>none
 |n+1,cx,st=>match st with
  | .Expr v _=>grd (!d6 v) ((compX cx v).map .expr)
  | .Pass _=>some .pass
  | .Break _=>some .brk
  | .Continue _=>some .cont
  | .Return v _=>Qq (motive:=λ_=>Option Sm) v (some (.ret (.lit .none))) λe=>(compX cx e).map .ret
  | .Assign ts v _=>xD ts (ziy cx v)
  | .If t a b _=>(compX cx t).bind λx=>(dB (λs=>some ((compS n cx s).getD .raise)) a).bind λy=>(dB (λs=>some ((compS n cx s).getD .raise)) b).map λz=> .ite x y z
  | .While t b e _=>grd e.isEmpty ((compX cx t).bind λx=>(dB (λs=>some ((compS n cx s).getD .raise)) b).map λy=> .wh x y)
  | .For t it b e _=>grd e.isEmpty ((jI t).bind λq=>grd (decide q.1.Nodup) ((compX cx it).bind λx=>(dB (oJ cx) q.1).bind λsl=>(dB (λs=>some ((compS n cx s).getD .raise)) b).map λy=> .fo sl q.2 x y))
  |_=>none
abbrev zen (cx:CC):List Stmt->Option (List Sm):=dB λs=>some ((compS 40 cx s).getD .raise)
def hG (ps:List Str) (sc:Scope):List Str:=
 ps++(sc.names.filter λp=>(p.2== .local||p.2== .cell) && !ps.contains p.1).map (·.1)
def za6 (ps:List Str) (sc:Scope) (gl:List (Str×Val)):CC:=
 {sc:=sc.names,vars:=(hG ps sc).zip (QR 0 (hG ps sc).length),next:=(hG ps sc).length,gl:=gl}
def lQ (gl:List (Str×Val)) (params:Arguments) (body:List Stmt) (sc:Scope):Option (Nat×Nat×List Sm):=
 grd (params.posonlyargs.isEmpty && params.vararg.isNone && params.kwonlyargs.isEmpty && params.kwarg.isNone && sc.kind== .function && !sc.isGenerator && !sc.isCoroutine && (params.args.map (·.arg)).all (λx=>sc.names.lookup x==some .local||sc.names.lookup x==some .cell))
  ((zen (za6 (params.args.map (·.arg)) sc gl) body).map λb=>((params.args.map (·.arg)).length,(hG (params.args.map (·.arg)) sc).length+6,b))
end Internal
namespace Internal
open PySem PySem.W PySem.Calls PyProof.Rows
abbrev Led:=List (Addr×Obj)
structure Cfg where
 prog:Program
 w:World
 K:Frag
 P:Prg
 ad:List (Nat×Addr)
abbrev Cfg.M (C:Cfg):Model:=model C.prog C.w
def tyTab : List (Nat × String) := [(nRange,"range"),(nList,"list"),(nDict,"dict"),(nTuple,"tuple"),(nStr,"str"),(nInt,"int"),(nType,"type"),(nSet,"set"),(nBool,"bool"),(nNoneType,"NoneType")]
def biTab : List (Nat × String) := [(nLen,"len"),(nMax,"max"),(nMin,"min"),(nSorted,"sorted")]
def sOk (s:List Nat):Prop:=(∀c∈s,c<0x110000)/\s.length<=lim
structure Wd where
 σ:List Addr
 tp:Led
structure Wd.le (w w':Wd):Prop where
 s:w.σ<+:w'.σ
 t: ∀p∈w.tp,p∈w'.tp
theorem Wd.le.refl (w:Wd):w.le w:=⟨Kq _,λ_ x=>x⟩
theorem Wd.le.trans {a b c:Wd} (x:a.le b) (y:b.le c):a.le c:=⟨x.1.trans y.1,λp hp=>y.2 p (x.2 p hp)⟩
theorem Wd.le.get {w w':Wd} (l:w.le w') {i:Nat}{a:Addr} (h:w.σ[i]?=some a):w'.σ[i]?=some a:=by
 refine Jd l.s λt zq21=>?_;refine (Qn.mp h).elim λhl zq20=>?_;rw [<-zq21,JN hl];exact h
structure ziF (C:Cfg) (tp:Led) (a:Addr) (o:Obj) (n:Nat) (vs:List Value):Prop where
 at':(a,o)∈tp\/C.K.lookup a=some o
 cls : o.cls = .type "tuple"
 data:o.data= .seq vs.toArray n
structure FlO (C:Cfg) (a:Addr) (o:Obj) (n:Nat) (vs:List Value):Prop where
 at':C.K.lookup a=some o
 cls : o.cls = .type "list"
 data:o.data= .seq vs.toArray n
abbrev zfj (t : Tok) (n : Int) (u v : Tok) : Obj := { cls := .type "range",dict := Q1,data := .fields #[.int 0 t,.int n u,.int 1 v],slots := #[] }
structure ziE (tp:Led) (a:Addr) (o:Obj) (es:Array (Int×Value)) (ep:Nat) (t:SetTable) (n:Nat):Prop where
 at':(a,o)∈tp
 ex:o.ExactSet
 data:o.data= .set es ep t
 fits:t.fits es.size=true
 size:es.size=n
 le:n<=lim
inductive zdQ (C:Cfg) (tp:Led) (l:Nat) (R:List Value->Prop) (v:Value):Prop
 |mk (a:Addr) (o:Obj) (n:Nat) (vs:List Value) (e:v= .ref a) (q:ziF C tp a o n vs) (r:R vs) (hl:l<=lim):zdQ C tp l R v
inductive FlL (C:Cfg) (l:Nat) (R:List Value->Prop) (v:Value):Prop
 |mk (a:Addr) (o:Obj) (n:Nat) (vs:List Value) (e:v= .ref a) (q:FlO C a o n vs) (r:R vs) (hl:l<=lim):FlL C l R v
inductive zgt (tp:Led) (n:Int) (x:Value):Prop
 |mk (a:Addr) (t u v:Tok) (e:x= .ref a) (h:(a,zfj t n u v)∈tp):zgt tp n x
inductive rX (P:Value->Prop) (R:List Value->Prop) (vs:List Value):Prop
 |mk (v:Value) (r:List Value) (e:vs=v::r) (h:P v) (t:R r):rX P R vs
mutual
noncomputable def aF (C:Cfg) (w:Wd):Val->Value->Prop
 | .none=>λv=>v= .none
 | .bool b=>λv=>v= .bool b
 | .int i=>λv=> ∃t,v= .int i t
 | .str s=>λv=> ∃t,v= .str ⟨s.toArray⟩ t/\sOk s
 | .tup mvs=>λv=>zdQ C w.tp mvs.length (aC C w mvs) v
 | .ref i=>λv=> ∃a,v= .ref a/\w.σ[i]?=some a
 | .top id=>λv=> ∃a,v= .ref a/\C.ad.lookup id=some a
 | .ty c=>λv=> ∃n,v= .type n/\tyTab.lookup c=some n
 | .bi c=>λv=> ∃n,v= .builtin n/\biTab.lookup c=some n
 | .rng n=>λx=>zgt w.tp n x
 | .fl mvs=>λv=>FlL C mvs.length (aC C w mvs) v
 | .setn n=>λv=> ∃a o es ep t,v= .ref a/\ziE w.tp a o es ep t n
noncomputable def aC (C:Cfg) (w:Wd):List Val->List Value->Prop
 | []=>λvs=>vs= []
 |m::ms=>λvs=>rX (aF C w m) (aC C w ms) vs
end
section
variable {C:Cfg}{w w':Wd}{x:Val}{v:Value}{mvs:List Val}{vs:List Value}
theorem aC.nil:aC C w [] []:=rfl
theorem aC.cons {m:Val}{ms:List Val} (h:aF C w m v) (r:aC C w ms vs):aC C w (m::ms) (v::vs):=⟨v,vs,rfl,h,r⟩
theorem aC.one (h:aF C w x v):aC C w [x] [v]:= .cons h .nil
theorem aC.length: ∀ {ms:List Val}{vs:List Value},aC C w ms vs->ms.length=vs.length:=by
 intro ms
 induction ms with
 |nil=>intro vs h;exact congrArg JW (KN h)
 |cons m ms ih=>
  intro vs h;obtain ⟨v,r,rfl,_,h⟩:=h;exact congrArg JY (ih h)
theorem aF.mono' (l:w.le w') (m:Val): ∀v,aF C w m v->aF C w' m v:=by
 refine Val.rec (motive_1:=λm=> ∀v,aF C w m v->aF C w' m v) (motive_2:=λms=> ∀vs,aC C w ms vs->aC C w' ms vs) (λ_ h=>h) (λ_ _ h=>h) (λ_ _ h=>h) (λ_ _ h=>h) ?_ ?_ (λ_ _ h=>h) (λ_ _ h=>h) (λ_ _ h=>h) ?_ ?_ ?_ (λ_ h=>h) ?_ m
 ·exact λms ih v h=>zdQ.casesOn h λa o n vs e h r k=>⟨a,o,n,vs,e,⟨h.1.imp (l.t _) id,h.2,h.3⟩,ih vs r,k⟩
 ·exact λi v h=>h.elim λa h=>⟨a,h.1,l.get h.2⟩
 ·exact λn v h=>zgt.casesOn h λa t u x e h=>⟨a,t,u,x,e,l.t _ h⟩
 ·exact λms ih v h=>FlL.casesOn h λa o n vs e h r k=>⟨a,o,n,vs,e,h,ih vs r,k⟩
 ·exact λn v h=>by
   obtain ⟨a,o,es,ep,t,e,h⟩:=h;exact ⟨a,o,es,ep,t,e,l.t _ h.1,h.2,h.3,h.4,h.5,h.6⟩
 ·exact λm ms i1 i2 vs h=>rX.casesOn h λv r e h h'=>⟨v,r,e,i1 v h,i2 r h'⟩
theorem aF.mono (l:w.le w') (h:aF C w x v):aF C w' x v:=aF.mono' l x v h
theorem aC.mono (l:w.le w'): ∀ {ms:List Val}{vs:List Value},aC C w ms vs->aC C w' ms vs:=by
 intro ms
 induction ms with
 |nil=>exact λh=>h
 |cons m ms ih=>
  exact λh=>rX.casesOn h λv r e h h'=>⟨v,r,e,h.mono l,ih h'⟩
theorem aC.get: ∀ {ms:List Val}{vs:List Value}{i:Nat}{m:Val},aC C w ms vs->ms[i]?=some m-> ∃v,vs[i]?=some v/\aF C w m v:=by
 intro ms
 induction ms with
 |nil=>exact λ_ e=>nos e
 |cons m ms ih=>
  intro vs i m' h e;obtain ⟨v,r,rfl,h,h'⟩:=h;cases i with
  |zero=>exact ⟨v,rfl,Qy.inj e▸h⟩
  |succ i=>exact ih (i:=i) h' e
theorem aC.append {ms':List Val}{vs':List Value} (h':aC C w ms' vs'): ∀ {ms:List Val}{vs:List Value},aC C w ms vs->aC C w (ms++ms') (vs++vs'):=by
 intro ms
 induction ms with
 |nil=>intro vs h;rw [show vs= [] from h];exact h'
 |cons m ms ih=>
  exact λh=>rX.casesOn h λv r e h hr=>⟨v,r++vs',congrArg (· ++vs') e,h,ih hr⟩
theorem aF.int? {i:Int}:aF C w x v->x.int?=some i-> ∃t,v= .int i t:=
 Val.casesOn (motive_1:=λx=>aF C w x v->x.int?=some i-> ∃t,v= .int i t) x (λ_ e=>nos e) (λ_ _ e=>nos e) (λ_ h e=>Qy.inj e▸h) (λ_ _ e=>nos e) (λ_ _ e=>nos e) (λ_ _ e=>nos e) (λ_ _ e=>nos e) (λ_ _ e=>nos e) (λ_ _ e=>nos e) (λ_ _ e=>nos e) (λ_ _ e=>nos e) (λ_ _ e=>nos e)
theorem aF.str? {i:List Nat}:aF C w x v->x.str?=some i-> ∃t,v= .str ⟨i.toArray⟩ t/\sOk i:=
 Val.casesOn (motive_1:=λx=>aF C w x v->x.str?=some i-> ∃t,v= .str ⟨i.toArray⟩ t/\sOk i) x (λ_ e=>nos e) (λ_ _ e=>nos e) (λ_ _ e=>nos e) (λ_ h e=>Qy.inj e▸h) (λ_ _ e=>nos e) (λ_ _ e=>nos e) (λ_ _ e=>nos e) (λ_ _ e=>nos e) (λ_ _ e=>nos e) (λ_ _ e=>nos e) (λ_ _ e=>nos e) (λ_ _ e=>nos e)
theorem tup?_s {i:List Val}:x.tup?=some i->x= .tup i:=
 Val.casesOn (motive_1:=λx=>x.tup?=some i->x= .tup i) x (λe=>nos e) (λ_ e=>nos e) (λ_ e=>nos e) (λ_ e=>nos e) (λ_ e=>Qy.inj e▸rfl) (λ_ e=>nos e) (λ_ e=>nos e) (λ_ e=>nos e) (λ_ e=>nos e) (λ_ e=>nos e) (λ_ e=>nos e) (λ_ e=>nos e)
theorem ref?_s {i:Nat}:x.ref?=some i->x= .ref i:=
 Val.casesOn (motive_1:=λx=>x.ref?=some i->x= .ref i) x (λe=>nos e) (λ_ e=>nos e) (λ_ e=>nos e) (λ_ e=>nos e) (λ_ e=>nos e) (λ_ e=>Qy.inj e▸rfl) (λ_ e=>nos e) (λ_ e=>nos e) (λ_ e=>nos e) (λ_ e=>nos e) (λ_ e=>nos e) (λ_ e=>nos e)
theorem top?_s {i:Nat}:x.top?=some i->x= .top i:=
 Val.casesOn (motive_1:=λx=>x.top?=some i->x= .top i) x (λe=>nos e) (λ_ e=>nos e) (λ_ e=>nos e) (λ_ e=>nos e) (λ_ e=>nos e) (λ_ e=>nos e) (λ_ e=>Qy.inj e▸rfl) (λ_ e=>nos e) (λ_ e=>nos e) (λ_ e=>nos e) (λ_ e=>nos e) (λ_ e=>nos e)
theorem ty?_s {i:Nat}:x.ty?=some i->x= .ty i:=
 Val.casesOn (motive_1:=λx=>x.ty?=some i->x= .ty i) x (λe=>nos e) (λ_ e=>nos e) (λ_ e=>nos e) (λ_ e=>nos e) (λ_ e=>nos e) (λ_ e=>nos e) (λ_ e=>nos e) (λ_ e=>Qy.inj e▸rfl) (λ_ e=>nos e) (λ_ e=>nos e) (λ_ e=>nos e) (λ_ e=>nos e)
theorem bi?_s {i:Nat}:x.bi?=some i->x= .bi i:=
 Val.casesOn (motive_1:=λx=>x.bi?=some i->x= .bi i) x (λe=>nos e) (λ_ e=>nos e) (λ_ e=>nos e) (λ_ e=>nos e) (λ_ e=>nos e) (λ_ e=>nos e) (λ_ e=>nos e) (λ_ e=>nos e) (λ_ e=>Qy.inj e▸rfl) (λ_ e=>nos e) (λ_ e=>nos e) (λ_ e=>nos e)
theorem fl?_s {i:List Val}:x.fl?=some i->x= .fl i:=
 Val.casesOn (motive_1:=λx=>x.fl?=some i->x= .fl i) x (λe=>nos e) (λ_ e=>nos e) (λ_ e=>nos e) (λ_ e=>nos e) (λ_ e=>nos e) (λ_ e=>nos e) (λ_ e=>nos e) (λ_ e=>nos e) (λ_ e=>nos e) (λ_ e=>nos e) (λ_ e=>Qy.inj e▸rfl) (λ_ e=>nos e)
theorem bool?_s {i:Bool}:x.bool?=some i->x= .bool i:=
 Val.casesOn (motive_1:=λx=>x.bool?=some i->x= .bool i) x (λe=>nos e) (λ_ e=>Qy.inj e▸rfl) (λ_ e=>nos e) (λ_ e=>nos e) (λ_ e=>nos e) (λ_ e=>nos e) (λ_ e=>nos e) (λ_ e=>nos e) (λ_ e=>nos e) (λ_ e=>nos e) (λ_ e=>nos e) (λ_ e=>nos e)
theorem rng?_s {i:Int}:x.rng?=some i->x= .rng i:=
 Val.casesOn (motive_1:=λx=>x.rng?=some i->x= .rng i) x (λe=>nos e) (λ_ e=>nos e) (λ_ e=>nos e) (λ_ e=>nos e) (λ_ e=>nos e) (λ_ e=>nos e) (λ_ e=>nos e) (λ_ e=>nos e) (λ_ e=>nos e) (λ_ e=>Qy.inj e▸rfl) (λ_ e=>nos e) (λ_ e=>nos e)
theorem isNone_s:x.isNone=true->x= .none:=
 Val.casesOn (motive_1:=λx=>x.isNone=true->x= .none) x (λ_=>rfl) (λ_=>nofun) (λ_=>nofun) (λ_=>nofun) (λ_=>nofun) (λ_=>nofun) (λ_=>nofun) (λ_=>nofun) (λ_=>nofun) (λ_=>nofun) (λ_=>nofun) (λ_=>nofun)
theorem list?_s {o:MObj}{i:List Val}:o.list?=some i->o= .list i:=
 MObj.casesOn (motive:=λo=>o.list?=some i->o= .list i) o (λ_ e=>Qy.inj e▸rfl) (λ_ _ e=>nos e) (λ_ _ e=>nos e)
theorem dict?_s {o:MObj}{i:Option Nat×List (Val×Val)}:o.dict?=some i->o= .dict i.1 i.2:=
 MObj.casesOn (motive:=λo=>o.dict?=some i->o= .dict i.1 i.2) o (λ_ e=>nos e) (λ_ _ e=>Qy.inj e▸rfl) (λ_ _ e=>nos e)
theorem inst?_s {o:MObj}{i:Nat×List (Nat×Val)}:o.inst?=some i->o= .inst i.1 i.2:=
 MObj.casesOn (motive:=λo=>o.inst?=some i->o= .inst i.1 i.2) o (λ_ e=>nos e) (λ_ _ e=>nos e) (λ_ _ e=>Qy.inj e▸rfl)
end
inductive zgy (n:Nat) (P:Value->Prop) (R:List DictEntry->Prop) (es:List DictEntry):Prop
 |mk (x:Str) (t:Tok) (hsh:Int) (v:Value) (r:List DictEntry) (e:es=⟨hsh,.str x t,v⟩::r) (nm:aH x=true) (en:enc x=n) (h:P v) (t:R r):zgy n P R es
def gA (C:Cfg) (w:Wd):List (Nat×Val) ->List DictEntry->Prop
 | []=>λes=>es= []
 |p::fs=>λes=>zgy p.1 (aF C w p.2) (gA C w fs) es
theorem gA.mono {C:Cfg}{w w':Wd} (l:w.le w'): ∀ {fs:List (Nat×Val)}{es:List DictEntry},gA C w fs es->gA C w' fs es:=by
 intro fs
 induction fs with
 |nil=>exact λh=>h
 |cons p fs ih=>
  exact λh=>zgy.casesOn h λx t hsh v r e h1 h2 h3 h4=>⟨x,t,hsh,v,r,e,h1,h2,h3.mono l,ih h4⟩
set_option genInjectivity true in
inductive Atom where
 |i (n:Int)
 |s (x:Str)
 deriving DecidableEq
def Atom.val (a:Atom):Val:=Atom.casesOn (motive:=λ_=>Val) a .int (λx=> .str x.cps.toList)
def Atom.is (a:Atom) (v:Value):Bool:=Atom.casesOn (motive:=λ_=>Bool) a (λn=>Wk n v) (λx=>Value.isStrOf x v)
def Atom.hash (w:World) (a:Atom):Int:=Atom.casesOn (motive:=λ_=>Int) a hashInt (λx=>hashStr w x)
theorem Atom.inj (v:Value) (a b:Atom) (ha:a.is v=true) (hb:b.is v=true):a=b:=by
 cases a with
 |i n=>
  cases b with
  |i k=>rw [Value.isInt_inj v _ _ ha hb]
  |s y=>obtain ⟨t,rfl⟩:=JQ ha;cases hb
 |s x=>
  cases b with
  |i k=>obtain ⟨t,rfl⟩:=JQ hb;cases ha
  |s y=>rw [Value.isStrOf_inj v _ _ ha hb]
theorem Atom.byValue (k:Atom) (v:Value) (h:k.is v=true):carriedByValue v=true:=by
 cases k with
 |i n=>obtain ⟨t,rfl⟩:=JQ h;rfl
 |s x=>obtain ⟨t,rfl⟩:=Zg h;rfl
theorem Atom.pyHash {prog:Program}{w:World}{A:Around}{E:Value->Shared->Prop}{s:Shared}{k:Atom}{v:Value}{Q:Int->Shared->Prop} (hv:k.is v=true) (h:Q (k.hash w) {s with toks:=s.toks+1}):wpAny (model prog w) A (PySem.pyHash v) Q E s:=by
 cases k with
 |i n=>obtain ⟨t,rfl⟩:=JQ hv;exact wpAny_pyHash_int h
 |s x=>obtain ⟨t,rfl⟩:=Zg hv;exact wpAny_pyHash_str h
theorem Atom.eqBool {prog:Program}{w:World}{A:Around}{E:Value->Shared->Prop}{s:Shared}{a b:Atom}{u v:Value}{Q:Bool->Shared->Prop} (hu:a.is u=true) (hv:b.is v=true) (h:Q (decide (a=b)) s):wpAny (model prog w) A (PySem.eqBool u v) Q E s:=by
 cases a with
 |i n=>
  obtain ⟨t,rfl⟩:=JQ hu;cases b with
  |i k=>
   obtain ⟨u,rfl⟩:=JQ hv;refine wpAny_eqBool_int ?_;simp only [Atom.i.injEq] at h
   first|exact h|(simp only [beq_eq_decide];exact h)
  |s y=>
   obtain ⟨u,rfl⟩:=Zg hv;exact SeqAt.EqAt.int_str _ _ _ _ _ _ _ _ (by simpa using h)
 |s x=>
  obtain ⟨t,rfl⟩:=Zg hu;cases b with
  |i k=>
   obtain ⟨u,rfl⟩:=JQ hv;exact SeqAt.EqAt.str_int _ _ _ _ _ _ _ _ (by simpa using h)
  |s y=>
   obtain ⟨u,rfl⟩:=Zg hv;exact wpAny_eqBool_str (by simpa using h)
theorem Atom.strKeys (k:Atom) (x:Str) (t:Tok) (v:Value) (h:k.is (.str x t)=true):k.is v=v.isStr x:=by
 cases k with
 |i n=>cases h
 |s y=>
  have h':(x==y)=true:=h;rw [beq_iff_eq] at h';subst h';cases v<;>rfl
def bQ (prog:Program) (w:World):KeyKind prog w Atom:=
 ⟨Atom.is,Atom.hash w,Atom.inj,Atom.byValue,Atom.pyHash,Atom.eqBool,Atom.strKeys⟩
def Atom.ok (a:Atom):Prop:=Atom.casesOn (motive:=λ_=>Prop) a (λ_=>True) (λx=>sOk x.cps.toList)
structure DA (C:Cfg) (w:Wd) (mes:List (Val×Val)) (es:List DictEntry) (kvs:List (Atom×Value)):Prop where
 p:Pairs (bQ C.prog C.w) es kvs
 k:KeysOf (bQ C.prog C.w) es.toArray
 n:(kvs.map (·.1)).Nodup
 e:mes.map (·.1)=kvs.map (λp=>p.1.val)
 ok: ∀p∈kvs,p.1.ok
 r:aC C w (mes.map (·.2)) (kvs.map (·.2))
structure DT (C:Cfg) (w:Wd) (mes:List (Val×Val)) (es:List DictEntry) (xs:List (List Atom×Addr×Value)):Prop where
 es:es=xs.map (entryOfKey (tupleKind (bQ C.prog C.w)))
 n:(xs.map (·.1)).Nodup
 v: ∀x∈xs,aF C w (.tup (x.1.map Atom.val)) (.ref x.2.1)
 e:mes.map (·.1)=xs.map (λx=>Val.tup (x.1.map Atom.val))
 r:aC C w (mes.map (·.2)) (xs.map (·.2.2))
def fO (C:Cfg) (w:Wd) (mes:List (Val×Val)) (es:List DictEntry):Prop:=(∃kvs,DA C w mes es kvs)\/∃xs,DT C w mes es xs
theorem fO.mono {C:Cfg}{w w':Wd} (l:w.le w') {mes:List (Val×Val)}{es:List DictEntry} (h:fO C w mes es):fO C w' mes es:=
 h.imp (λ⟨kvs,D⟩=>⟨kvs,D.p,D.k,D.n,D.e,D.ok,D.r.mono l⟩) λ⟨xs,D⟩=>⟨xs,D.es,D.n,λx hx=>(D.v x hx).mono l,D.e,D.r.mono l⟩
inductive zgv (C:Cfg) (w:Wd) (a:Addr) (mvs:List Val) (en:Led):Prop
 |mk (vs:List Value) (n:Nat) (e:en= [(a,listOf vs.toArray n)]) (r:aC C w mvs vs) (l:mvs.length<=lim):zgv C w a mvs en
inductive zgA (C:Cfg) (w:Wd) (a:Addr) (ep:Option Nat) (mes:List (Val×Val)) (en:Led):Prop
 |mk (es:List DictEntry) (n:Nat) (e:en= [(a,dictOf es n)]) (hep: ∀e,ep=some e->n=e) (d:fO C w mes es) (l:mes.length<=lim):zgA C w a ep mes en
inductive zgw (C:Cfg) (w:Wd) (a:Addr) (id:Nat) (fs:List (Nat×Val)) (en:Led):Prop
 |mk (c dx:Addr) (es:List DictEntry) (n:Nat) (e:en= [(a,instObj c dx),(dx,dictOf es n)]) (hc:C.ad.lookup id=some c) (f:gA C w fs es) (l:fs.length<=500):zgw C w a id fs en
def gT (C:Cfg) (w:Wd) (a:Addr) (o:MObj):Led->Prop:=MObj.casesOn (motive:=λ_=>Led->Prop) o
 (zgv C w a) (zgA C w a) (zgw C w a)
theorem gT.mono {C:Cfg}{w w':Wd} (l:w.le w') {a:Addr}{o:MObj}{en:Led}:gT C w a o en->gT C w' a o en:=
 MObj.casesOn (motive:=λo=>gT C w a o en->gT C w' a o en) o
  (λ_ h=>zgv.casesOn h λvs n e h k=> .mk vs n e (h.mono l) k) (λ_ _ h=>zgA.casesOn h λes n e h h' k=> .mk es n e h (h'.mono l) k) (λ_ _ h=>zgw.casesOn h λc dx es n e h h' k=> .mk c dx es n e h (h'.mono l) k)
inductive zbX (P:MObj->Led->Prop) (R:MH->List Led->Prop) (H:MH) (os:List Led):Prop
 |mk (o:MObj) (H':MH) (en:Led) (os':List Led) (e1:H=o::H') (e2:os=en::os') (h:P o en) (t:R H' os'):zbX P R H os
def fN (C:Cfg) (w:Wd):List Addr->MH->List Led->Prop
 | []=>λH os=>H= []/\os= []
 |a::as=>zbX (gT C w a) (fN C w as)
theorem fN.mono {C:Cfg}{w w':Wd} (l:w.le w'): ∀ {as:List Addr}{H:MH}{os:List Led},fN C w as H os->fN C w' as H os:=by
 intro as
 induction as with
 |nil=>exact λh=>h
 |cons a as ih=>
  exact λh=>zbX.casesOn h λo H' en os' e1 e2 h r=>⟨o,H',en,os',e1,e2,h.mono l,ih r⟩
theorem fN.snoc {C:Cfg}{w:Wd}{a:Addr}{o:MObj}{en:Led} (h':gT C w a o en): ∀ {as:List Addr}{H:MH}{os:List Led},fN C w as H os->fN C w (as++ [a]) (H++ [o]) (os++ [en]):=by
 intro as
 induction as with
 |nil=>
  exact λh=>⟨o,[],en,[],congrArg (· ++ [o]) h.1,congrArg (· ++ [en]) h.2,h',rfl,rfl⟩
 |cons b as ih=>
  exact λh=>zbX.casesOn h λo1 H' en1 os' e1 e2 h r=>⟨o1,H'++ [o],en1,os'++ [en],congrArg (· ++ [o]) e1,congrArg (· ++ [en]) e2,h,ih r⟩
theorem fN.length {C:Cfg}{w:Wd}: ∀ {as:List Addr}{H:MH}{os:List Led},fN C w as H os->as.length=H.length:=by
 intro as
 induction as with
 |nil=>exact λh=>congrArg JW h.1.symm
 |cons b as ih=>exact λh=>zbX.casesOn h λo1 H' en1 os' e1 _ _ r=>(congrArg JY (ih r)).trans (congrArg JW e1.symm)
inductive zeC (C:Cfg) (w:Wd) (as:List Addr) (i:Nat) (a:Addr) (o:MObj) (H:MH) (os:List Led):Prop
 |mk (pre:List Led) (en:Led) (post:List Led) (e:os=pre++en::post) (r:gT C w a o en) (g: ∀o' en',gT C w a o' en'->fN C w as (H.set i o') (pre++en'::post)):zeC C w as i a o H os
theorem fN.at {C:Cfg}{w:Wd}{a:Addr}{o:MObj}: ∀ {as:List Addr}{i:Nat}{H:MH}{os:List Led},fN C w as H os->as[i]?=some a->H[i]?=some o->
  zeC C w as i a o H os:=by
 intro as
 induction as with
 |nil=>exact λ_ e=>nos e
 |cons b as ih=>
  intro i H os h ha ho;obtain ⟨o1,H',en1,os',rfl,rfl,h,r⟩:=h;cases i with
  |zero=>
   cases ha;cases ho;exact ⟨[],en1,os',rfl,h,λo' en' h'=>⟨o',H',en',os',rfl,rfl,h',r⟩⟩
  |succ i=>
   obtain ⟨pre,en,post,rfl,hr,k⟩:=ih (i:=i) r ha ho;exact ⟨en1::pre,en,post,rfl,hr,λo' en' h'=>⟨o1,_,en1,_,rfl,rfl,h,k o' en' h'⟩⟩
structure Kp where
 ce:Led
 ex:Led
 m:Str->Option Value
def Led.nd (l:Led):Prop:=(l.map (·.1)).Nodup
theorem Led.nd.perm {a b:Led} (p:a.Perm b) (h:Led.nd a):Led.nd b:=(p.map λq:Addr×Obj=>q.1).nodup_iff.mp h
def Kp.all (k:Kp) (w:Wd) (os:List Led):Led:=os.flatten++(w.tp++(k.ce++k.ex))
inductive OsO (C:Cfg) (h₀:Heap) (L:Addr) (k:Kp) (w:Wd) (H:MH) (h:Heap):Prop
 |mk (os:List Led) (he:fN C w w.σ H os) (hn:News h₀ L h (k.all w os)) (hd:Led.nd (k.all w os)):OsO C h₀ L k w H h
structure Sta (C:Cfg) (h₀:Heap) (L:Addr) (k:Kp) (w:Wd) (H:MH) (h:Heap):Prop where
 fr:Fr h₀ L h k.m
 os:OsO C h₀ L k w H h
 big:4<=h₀.objs.size
 lo: ∀a∈w.σ,4<=a
theorem iC {d:Addr}{o o':Obj}{post:Led}: ∀ {pre:Led},Led.nd (pre++(d,o)::post) ->Upd d o o' (pre++(d,o)::post) (pre++(d,o')::post):=by
 intro pre
 induction pre with
 |nil=>exact λh=> .head λp hp e=>(Qx.mp h).1 (QI.mpr ⟨p,hp,e⟩)
 |cons q pre ih=>exact λh=> .tail (λe=>(Qx.mp h).1 (QI.mpr ⟨(d,o),QD _ (.head _),e.symm⟩)) (ih (Qx.mp h).2)
section
variable {C:Cfg}{h₀:Heap}{L:Addr}{k:Kp}{w:Wd}{H:MH}{h:Heap}
theorem Sta.len (S:Sta C h₀ L k w H h):w.σ.length=H.length:=OsO.casesOn S.os λ_ he _ _=>he.length
inductive SAt (C:Cfg) (h₀:Heap) (L:Addr) (k:Kp) (w:Wd) (H:MH) (h:Heap) (i:Nat) (a:Addr) (o:MObj):Prop
 |mk (pre en post:Led) (r:gT C w a o en) (n:News h₀ L h (pre++(en++post))) (d:Led.nd (pre++(en++post)))
   (g: ∀o' en' h',en'.map (·.1)=en.map (·.1) ->gT C w a o' en'->Fr h₀ L h' k.m->News h₀ L h' (pre++(en'++post)) ->Sta C h₀ L k w (H.set i o') h'):SAt C h₀ L k w H h i a o
theorem Sta.at (S:Sta C h₀ L k w H h) {i:Nat}{a:Addr}{o:MObj} (ha:w.σ[i]?=some a) (ho:H[i]?=some o):
  SAt C h₀ L k w H h i a o:=by
 obtain ⟨os,he,hn,hd⟩:=S.os;obtain ⟨pre,en,post,rfl,hr,g⟩:=he.at ha ho;have e: ∀en1:Led,k.all w (pre++en1::post)=pre.flatten++(en1++(post.flatten++(w.tp++(k.ce++k.ex)))):=by
  intro en1;unfold Kp.all;rw [Z4,Zx,Qt,Qt]
 rw [e] at hn hd;refine ⟨pre.flatten,en,_,hr,hn,hd,λo' en' h' hm hr' F N=>⟨F,⟨pre++en'::post,g o' en' hr',(e en').symm▸N,(e en').symm▸?_⟩,S.big,S.lo⟩⟩;unfold Led.nd at hd ⊢;rw [QL,QL] at hd ⊢;rw [hm];exact hd
theorem lC (k:Kp) (w:Wd) (a:Addr) (en:Led) (os:List Led):(en++k.all w os).Perm (k.all ⟨w.σ++ [a],w.tp⟩ (os++ [en])):=by
 unfold Kp.all;rw [Z4,Zx,List.flatten_nil,QU,Qt];exact J4 _ _ _
theorem u2 (k:Kp) (w:Wd) (p:Addr×Obj) (os:List Led):([p]++k.all w os).Perm (k.all ⟨w.σ,p::w.tp⟩ os):=(Kr (a:=p) (l₁:=os.flatten) (l₂:=w.tp++(k.ce++k.ex))).symm
theorem Sta.loNew (S:Sta C h₀ L k w H h) {a:Addr} (ha:4<=a): ∀b∈w.σ++ [a],4<=b:=λb hb=>(QX.mp hb).elim (S.lo b) λhb=>Qw.mp hb▸ha
theorem Sta.four (S:Sta C h₀ L k w H h) {a:Addr} (ha:h.objs.size<=a):4<=a:=Qa S.big (Qa S.fr.above (Qa (QJ S.fr.ns.lt) ha))
inductive zdV (C:Cfg) (h₀:Heap) (L:Addr) (k:Kp) (w:Wd) (H:MH) (h:Heap):Prop
 |mk (all:Led) (n:News h₀ L h all)
  (add: ∀ (a:Addr) (o:MObj) (en:Led) (h':Heap),gT C ⟨w.σ++ [a],w.tp⟩ a o en->Fr h₀ L h' k.m->News h₀ L h' (en++all) ->Led.nd en->(∀p∈en,∀q∈all,p.1≠q.1) ->4<=a->Sta C h₀ L k ⟨w.σ++ [a],w.tp⟩ (H++ [o]) h')
  (tp: ∀ (a:Addr) (o:Obj) (h':Heap),Fr h₀ L h' k.m->News h₀ L h' ((a,o)::all) ->h.objs.size<=a->Sta C h₀ L k ⟨w.σ,(a,o)::w.tp⟩ H h')
  (heap: ∀h':Heap,Fr h₀ L h' k.m->News h₀ L h' all->Sta C h₀ L k w H h'):zdV C h₀ L k w H h
theorem oT {en all:Led} (h:Led.nd en) (h':Led.nd all) (hf: ∀p∈en,∀q∈all,p.1≠q.1):Led.nd (en++all):=by
 unfold Led.nd;rw [QL,Zc];refine ⟨h,h',λx hx y hy=>?_⟩;obtain ⟨p,hp,rfl⟩:=QI.mp hx;obtain ⟨q,hq,rfl⟩:=QI.mp hy;exact hf p hp q hq
theorem News.fresh {all en:Led} (hn:News h₀ L h all) (he: ∀p∈en,h.objs.size<=p.1): ∀p∈en,∀q∈all,p.1≠q.1:=
 λp hp q hq e=>absurd (Xl (hn q hq).1) (ZV.mpr (e▸he p hp))
theorem eY (p:Addr×Obj):Led.nd [p]:=Qx.mpr ⟨Qr,.nil⟩
theorem Sta.ledger (S:Sta C h₀ L k w H h):zdV C h₀ L k w H h:=by
 obtain ⟨os,he,hn,hd⟩:=S.os;refine ⟨_,hn,λa o en h' hr F N hen hf h4=>⟨F,⟨os++ [en],fN.snoc hr (fN.mono (w:=w) (w':=⟨w.σ++ [a],w.tp⟩) ⟨Jb _ _,λ_ x=>x⟩ he),λp hp=>N p ((lC k w a en os).mem_iff.mpr hp),Led.nd.perm (lC k w a en os) (oT hen hd hf)⟩,S.big,S.loNew h4⟩,
  λa o h' F N ha=>⟨F,⟨os,fN.mono (w:=w) (w':=⟨w.σ,(a,o)::w.tp⟩) ⟨Kq _,λ_ x=> .tail _ x⟩ he,λp hp=>N p ((u2 k w (a,o) os).mem_iff.mpr hp),Led.nd.perm (u2 k w (a,o) os) (oT (eY _) hd (News.fresh hn λp hp=>Qw.mp hp▸ha))⟩,S.big,S.lo⟩,
  λh' F N=>⟨F,⟨os,he,N,hd⟩,S.big,S.lo⟩⟩
theorem Sta.tpAt (S:Sta C h₀ L k w H h) {c:Addr}{o:Obj} (hc:(c,o)∈w.tp):h.get? c=some o:=OsO.casesOn S.os λ_ _ hn _=>(hn (c,o) (QD _ (Js _ hc))).1
theorem Sta.ceAt (S:Sta C h₀ L k w H h) {c:Addr}{o:Obj} (hc:(c,o)∈k.ce):h.get? c=some o:=OsO.casesOn S.os λ_ _ hn _=>(hn (c,o) (QD _ (QD _ (Js _ hc)))).1
theorem Sta.exAt (S:Sta C h₀ L k w H h) {c:Addr}{o:Obj} (hc:(c,o)∈k.ex):h.get? c=some o:=OsO.casesOn S.os λ_ _ hn _=>(hn (c,o) (QD _ (QD _ (QD _ hc)))).1
inductive IsL (C:Cfg) (w:Wd) (h:Heap) (v:Value) (mvs:List Val):Prop
 |mk (a:Addr) (vs:List Value) (n:Nat) (e:v= .ref a) (g:h.get? a=some (listOf vs.toArray n)) (r:aC C w mvs vs) (l:mvs.length<=lim):IsL C w h v mvs
theorem Sta.list (S:Sta C h₀ L k w H h) {x:Val}{v:Value}{mvs:List Val} (hv:aF C w x v) (ho:bG H x=some mvs):
  IsL C w h v mvs:=by
 obtain ⟨i,e,h1⟩:=bs ho;obtain ⟨o,hi,h2⟩:=bs h1;cases ref?_s e;cases list?_s h2;obtain ⟨a,rfl,ha⟩:=hv;obtain ⟨pre,en,post,⟨vs,n,rfl,r,l⟩,hn,_,_⟩:=S.at ha hi;exact ⟨a,vs,n,rfl,(hn (a,_) (QD _ (.head _))).1,r,l⟩
end
end Internal
namespace Internal
open PySem PySem.W PySem.Calls PyProof.Rows
structure aQ (C:Cfg) (d e:Nat) where
 A:Around
 h₀:Heap
 L:Addr
 envF:Env
 below: ∃A₀ base outer,Below A₀ base outer h₀/\A.frames=some (envF::outer)
 k:C.K.In h₀
 top: ∃p loose mean mg mb,Top p loose mean mg mb h₀
 frame:envF.frame=some L
 kind:envF.scope.kind= .function
 handled:A.handled=none
 depth:A.depth+4*d+2+e<=900
 units:A.units+20*d+190+5*e<=9900
def aQ.toW {C:Cfg}{d e:Nat} (Y:aQ C d e):aQ C d 0:=
 {A:=Y.A,h₀:=Y.h₀,L:=Y.L,envF:=Y.envF,below:=Y.below,k:=Y.k,top:=Y.top,frame:=Y.frame,kind:=Y.kind,handled:=Y.handled,depth:=Qa (Qm (Qs e) _) Y.depth,units:=Qa (Qm (Qs _) _) Y.units}
abbrev St {C:Cfg}{d e:Nat} (Y:aQ C d e) (k:Kp) (w:Wd) (H:MH) (s:Shared):Prop:=Sta C Y.h₀ Y.L k w H s.heap
structure eJ (s s':Shared):Prop where
 g:s'.gens=s.gens
 o:s'.os=s.os
theorem eJ.refl (s:Shared):eJ s s:=⟨rfl,rfl⟩
theorem eJ.trans {a b c:Shared} (x:eJ a b) (y:eJ b c):eJ a c:=⟨y.1.trans x.1,y.2.trans x.2⟩
structure Nxt {C:Cfg}{d e:Nat} (Y:aQ C d e) (k:Kp) (w w':Wd) (H':MH) (s s':Shared):Prop where
 le:w.le w'
 st:St Y k w' H' s'
 same:eJ s s'
def zbY {α β:Type}{C:Cfg}{d e:Nat} (Y:aQ C d e) (k:Kp) (R:Wd->β->α->Prop) (t:Sem α) (w:Wd) (s:Shared) (r:β) (H':MH):Prop:=
 ∀ (Q:α->Shared->Prop) (E:Value->Shared->Prop),(∀w' a s',Nxt Y k w w' H' s s'->R w' r a->Q a s') ->wpAny C.M Y.A t Q E s
def Ref {α β:Type}{C:Cfg}{d e:Nat} (Y:aQ C d e) (k:Kp) (R:Wd->β->α->Prop) (t:Sem α) (w:Wd) (s:Shared) (o:Option (β×MH)):Prop:=
 ∀r,o=some r->zbY Y k R t w s r.1 r.2
section
variable {α β γ δ:Type}{C:Cfg}{d e:Nat}{Y:aQ C d e}{k:Kp}{R:Wd->β->α->Prop}{R':Wd->δ->γ->Prop}{w:Wd}{s:Shared}{t:Sem α}{o:Option (β×MH)}{H:MH}
theorem Nxt.refl (S:St Y k w H s):Nxt Y k w w H s s:=⟨.refl w,S,.refl s⟩
theorem Nxt.toks (S:St Y k w H s) (n:Nat):Nxt Y k w w H s {s with toks:=n}:=⟨.refl w,S,rfl,rfl⟩
theorem Nxt.trans {w1 w2:Wd}{H1 H2:MH}{s1 s2:Shared} (a:Nxt Y k w w1 H1 s s1) (b:Nxt Y k w1 w2 H2 s1 s2):Nxt Y k w w2 H2 s s2:=⟨a.le.trans b.le,b.st,a.same.trans b.same⟩
theorem Ref.none:Ref Y k R t w s none:=λ_ h=>nos h
theorem Ref.bind {f:β->MH->Option (δ×MH)}{g:α->Sem γ} (h:Ref Y k R t w s o) (hk: ∀w' a s' r H1,Nxt Y k w w' H1 s s'->R w' r a->Ref Y k R' (g a) w' s' (f r H1)):Ref Y k R' (t>>=g) w s (bnd o f):=by
 intro r' e Q E hq;cases o with
 |none=>exact nos e
 |some p=>exact wpAny_bind (h p rfl _ _ λw' a s' n1 r1=>hk w' a s' p.1 p.2 n1 r1 r' e Q E λw2 a2 s2 n2 r2=>hq w2 a2 s2 (n1.trans n2) r2)
theorem Ref.pure' {r:β}{a:α} (S:St Y k w H s) (hr:R w r a):Ref Y k R (pure a:Sem α) w s (some (r,H)):=by
 intro r' e Q E hq;cases e;exact wpAny_pure (hq w a s (.refl S) hr)
theorem Ref.alt {o':Option (β×MH)} (h:Ref Y k R t w s o) (h':Ref Y k R t w s o'):Ref Y k R t w s (alt o o'):=by
 cases o with
 |none=>exact h'
 |some p=>exact h
theorem Ref.grd {b:Bool} (h:b=true->Ref Y k R t w s o):Ref Y k R t w s (grd b o):=by
 cases b with
 |false=>exact .none
 |true=>exact h rfl
theorem Ref.opt {x:Option γ}{f:γ->Option (β×MH)} (h: ∀a,x=some a->Ref Y k R t w s (f a)):Ref Y k R t w s (x.bind f):=by
 cases x with
 |none=>exact .none
 |some a=>exact h a rfl
theorem Ref.omap {x:Option γ}{f:γ->β×MH} (h: ∀a,x=some a->Ref Y k R t w s (some (f a))):Ref Y k R t w s (x.map f):=by
 cases x with
 |none=>exact .none
 |some a=>exact h a rfl
theorem Ref.case {x:Option γ}{f:γ->Option (β×MH)} (h0:x=Q1->Ref Y k R t w s o) (h: ∀a,x=some a->Ref Y k R t w s (f a)):Ref Y k R t w s (Qq (motive:=λ_=>Option (β×MH)) x o f):=by
 cases x with
 |none=>exact h0 rfl
 |some a=>exact h a rfl
theorem Ref.val {r:β} (S:St Y k w H s) (h: ∀ (Q:α->Shared->Prop) (E:Value->Shared->Prop),(∀a tk,R w r a->Q a {s with toks:=tk}) ->wpAny C.M Y.A t Q E s):Ref Y k R t w s (some (r,H)):=by
 intro r' e Q E hq;cases e;exact h Q E λa tk hr=>hq w a _ (.toks S tk) hr
theorem Ref.stand {p:Pos} (h:Ref Y k R t w s o):Ref Y k R (standAt p>>=λ_=>t) w s o:=λr e Q E hq=>wpAny_bind (wpAny_standAt (h r e Q E hq))
theorem Ref.hold {vs:List Value} (h:Ref Y k R t w s o):Ref Y k R (holding vs t) w s o:=λr e Q E hq=>wpAny_holding (h r e Q E hq)
end
abbrev VR (C:Cfg):Wd->Val->Value->Prop:=λw m v=>aF C w m v
abbrev VRS (C:Cfg):Wd->List Val->List Value->Prop:=λw m v=>aC C w m v
abbrev EqR {α:Type}:Wd->α->α->Prop:=λ_ r a=>a=r
structure iW (C:Cfg):Prop where
 adK : ∀ id a,C.ad.lookup id = some a -> ∃ o,C.K.lookup a = some o /\ o.cls ≠ .type "tuple"
 adInj: ∀i j a,C.ad.lookup i=some a->C.ad.lookup j=some a->i=j
 low: ∀b,b<4-> ∃o,C.K.lookup b=some o
def GlR (C : Cfg) (p : Str × Val) (rv : Value) : Prop := (∀ w,aF C w p.2 rv) /\ (nsIn C.K mainGlobals p.1 = some (some rv) \/ (nsIn C.K mainGlobals p.1 = some none /\ p.1 ≠ "__name__" /\ bootBuiltins p.1 = some rv))
def zbW (C:Cfg) (gl:List (Str×Val)):Prop:= ∀x v,gl.lookup x=some v-> ∃rv,GlR C (x,v) rv
def fuel0:Nat:=200000
def Cfg.cx (C:Cfg) (d:Nat):Cx:=⟨C.P,fuel0,cG C.P fuel0 d⟩
def NsO (o:Obj) (m:Str->Option Value):Prop:= ∃es ep,o.data= .dict es ep/\StrKeys es/\∀name,nsFind es name=m name
structure Blk (cx:CC) (env:Env) (L:Addr) (k:Kp) (mE:Str->Option Value):Prop where
 kind:env.scope.kind= .function
 gl:env.globals=mainGlobals
 bl:env.builtins=builtinsNs
 sc:env.scope.names=cx.sc
 cells: ∀x,cx.sc.lookup x=some .cell-> ∃c o v₀,env.cells.lookup x=some c/\(c,o)∈k.ce/\o.data= .cell v₀
 loc:(env.locals=L/\mE=k.m)\/∃o,(env.locals,o)∈k.ex/\NsO o mE
inductive tY (C:Cfg) (w:Wd) (cx:CC) (env:Env) (ce:Led) (mE:Str->Option Value) (x:Str) (v:Val):Prop
 |loc (rv:Value) (k:cx.sc.lookup x=some .local) (e:mE x=some rv) (r:aF C w v rv):tY C w cx env ce mE x v
 |cell (rv:Value) (c:Addr) (o:Obj) (k:cx.sc.lookup x=some .cell) (e:env.cells.lookup x=some c) (m:(c,o)∈ce) (h:o.data= .cell (some rv)) (r:aF C w v rv):tY C w cx env ce mE x v
theorem tY.mono {C:Cfg}{w w':Wd} (l:w.le w') {cx:CC}{env:Env}{ce:Led}{mE:Str->Option Value}{x:Str}{v:Val} (h:tY C w cx env ce mE x v):tY C w' cx env ce mE x v:=
 tY.casesOn h (λrv a b r=> .loc rv a b (r.mono l)) (λrv c o a b m h r=> .cell rv c o a b m h (r.mono l))
def zh0 (C:Cfg) (w:Wd) (cx:CC) (env:Env) (ce:Led) (mE:Str->Option Value) (fr:Frame):Prop:=
 ∀x i v,cW cx x=some i->fr[i]?=some (some v) ->tY C w cx env ce mE x v
structure Pl {C:Cfg}{d e:Nat} (Y:aQ C d e) (cx:CC) (env:Env) (k:Kp) (mE:Str->Option Value) (fr:Frame) (w:Wd) (H:MH) (s:Shared):Prop where
 b:Blk cx env Y.L k mE
 f:zh0 C w cx env k.ce mE fr
 st:St Y k w H s
theorem Pl.next {C:Cfg}{d e:Nat}{Y:aQ C d e}{cx:CC}{env:Env}{k:Kp}{mE:Str->Option Value}{fr:Frame}{w w':Wd}{H H':MH}{s s':Shared} (p:Pl Y cx env k mE fr w H s) (n:Nxt Y k w w' H' s s'):Pl Y cx env k mE fr w' H' s':=
 ⟨p.b,λx i v a b=>(p.f x i v a b).mono n.le,n.st⟩
def cH (C:Cfg) (d:Nat) (cx:CC) (e:Expr) (ir:Ex):Prop:=
 ∀ (Y:aQ C d 2) (env:Env) (k:Kp) (mE:Str->Option Value) (fr:Frame) (w:Wd) (H:MH) (s:Shared),Pl Y cx env k mE fr w H s->Ref Y k (VR C) (PySem.eval e env) w s (eval (C.cx d) ir fr H)
def jY (C:Cfg) (d:Nat) (cx:CC) (e:Expr) (ir:Ex):Prop:=
 ∀ (Y:aQ C d 2) (env:Env) (k:Kp) (mE:Str->Option Value) (fr:Frame) (w:Wd) (H:MH) (s:Shared),Pl Y cx env k mE fr w H s->Ref Y k EqR (PySem.isTrue e env (PySem.eval e env)) w s (bO (eval (C.cx d) ir fr H))
section
variable {C:Cfg}{d e:Nat}{Y:aQ C d e}{k:Kp}{w:Wd}{H:MH}{s:Shared}{cx:CC}{env:Env}{mE:Str->Option Value}{fr:Frame}
theorem Sta.kIn {h:Heap} (S:Sta C Y.h₀ Y.L k w H h):C.K.In h:=Y.k.keeps S.fr.keep
theorem Blk.ns (B:Blk cx env Y.L k mE) (S:St Y k w H s):s.heap.Ns env.locals mE:=by
 rcases B.loc with h| ⟨o,ho,es,ep,h⟩
 ·rw [h.1,h.2];exact S.fr.ns
 ·exact ⟨o,es,ep,S.exAt ho,h⟩
theorem z4 {x:List Nat} (h:zff x=true):sOk x:=by
 have h:=Qb.mp h;exact ⟨λc hc=>QV.mp (Je.mp h.1 c hc),QV.mp h.2⟩
theorem wU {c:Const}{n:Nat}{pos:Pos}{v:Val} (hc:constV c=some v):cH C d cx (.Constant c n pos) (.lit v):=by
 intro Y env k mE fr w H s p;refine .val p.st λQ E q=>?_;cases c with
 |none=>cases hc;exact wpAny_pure (q _ s.toks rfl)
 |bool b=>cases hc;exact wpAny_pure (q _ s.toks rfl)
 |int i=>cases hc;exact λ_ _ _=>q _ _ ⟨_,rfl⟩
 |str x=>
  obtain ⟨h,e⟩:=gs hc;cases e;exact λ_ _ _=>q _ _ ⟨_,by rw [Array.toArray_toList],z4 h⟩
 |_=>exact nos hc
theorem iH {x : Str} (h : aH x = true) : (x == ("__debug__" : Str)) = false := by
 have h1:=(Qb.mp (Qb.mp (Qb.mp (Qb.mp h).1).1).1).2;cases hx : (x == ("__debug__" : Str)) with
 |false=>rfl
 | true => rw [show (x != ("__debug__" : Str)) = !(x == ("__debug__" : Str)) from rfl,hx] at h1; cases h1
theorem Blk.kindOf (B:Blk cx env Y.L k mE) {x:Str}{n:NameKind} (h:cx.sc.lookup x=some n):env.kindOf x=some n:=by unfold Env.kindOf;rw [B.sc];exact h
theorem zcF {x:Str}{pos:Pos}{i:Nat} (hx:aH x=true) (hi:cW cx x=some i):cH C d cx (.Name x pos) (.var i):=by
 intro Y env k mE fr w H s p;refine .opt λov ho=> .omap λv hv=> .val p.st λQ E q=>wpAny_Name ?_ (iH hx);subst hv;cases p.f x i v hi ho with
 |loc rv hk e r=>exact wpAny_loadName_local p.b.kind (p.b.kindOf hk) (p.b.ns p.st) e (q rv s.toks r)
 |cell rv c o hk e m h r=>exact wpAny_loadName_cell p.b.kind (p.b.kindOf hk) e ⟨o,p.st.ceAt m,h⟩ (q rv s.toks r)
theorem zU (G:zbW C cx.gl) {x:Str}{pos:Pos}{v:Val} (hx:aH x=true) (hk:cx.sc.lookup x=some .globalImplicit) (hg:cx.gl.lookup x=some v):cH C d cx (.Name x pos) (.lit v):=by
 intro Y env k mE fr w H s p;refine .val p.st λQ E q=>?_;refine (G x v hg).elim λrv zq9=>?_;have hn:=zq9.2;obtain ⟨_,_,_,mg,mb,T⟩:=Y.top;have q:=q rv s.toks (zq9.1 w);refine Name_function_global p.b.kind (p.b.kindOf hk) ?_ (iH hx);have tg:=T.g.keeps p.st.fr.keep;rw [<-p.b.gl] at tg;rcases hn with hn| ⟨hn,hne,hb⟩
 ·exact loadGlobal_global tg (mg_of Y.k T.g hn) q
 ·have tb:=T.b.keeps p.st.fr.keep
  rw [<-p.b.bl] at tb;exact loadGlobal_builtin tg (mg_none_of Y.k T.g hn) tb ((T.builtins x hne).trans hb) q
theorem qH {x:Str}{pos:Pos}{ir:Ex} (G:zbW C cx.gl) (hc:zar cx x=some ir):cH C d cx (.Name x pos) ir:=by
 obtain ⟨hx,hc⟩:=gs hc;cases hv:cW cx x with
 |none=>
  rw [hv] at hc;obtain ⟨hk,hc⟩:=gs hc;refine (ms hc).elim λv zq1=>?_;obtain rfl:=zq1.2;exact zU G hx (beq_iff_eq.mp hk) zq1.1
 |some i=>
  rw [hv] at hc;cases hc;exact zcF hx hv
theorem r0 {M:Model}{A:Around}{operands:List Value}{t:Sem Value}{Q:Value->Shared->Prop}{E:Value->Shared->Prop} (h:wpAny M A t Q E s):wpAny M A (operate operands t) Q E s:=by
 unfold operate;exact wpAny_bind (wpAny_holding (wpAny_mono h (λr s' q=>wpAny_bind (wpAny_release (wpAny_pure q))) λ_ _ x=>x))
theorem Ref.operate {operands:List Value}{t:Sem Value}{o:Option (Val×MH)} (h:Ref Y k (VR C) t w s o):Ref Y k (VR C) (operate operands t) w s o:=λr e Q E hq=>r0 (h r e Q E hq)
end
end Internal
namespace Internal
open PySem PySem.W PySem.Calls PyProof.Rows
section
variable {C:Cfg}{d e:Nat}{Y:aQ C d e}{k:Kp}{w:Wd}{H:MH}{s:Shared}{cx:CC}{env:Env}{mE:Str->Option Value}{fr:Frame}
theorem lim_line:lim<=sizeLine:=by decide+kernel
theorem fH {n:Nat} (h:n<=lim):(n:Int)<2 ^ 63:=Int.lt_of_le_of_lt (Ym.mpr h) (by decide)
theorem Ref.newL {t:Sem Value}{mvs:List Val}{vs:List Value} (S:St Y k w H s) (r:aC C w mvs vs) (hl:mvs.length<=lim)
  (h: ∀ (Q:Value->Shared->Prop) (E:Value->Shared->Prop) all,News Y.h₀ Y.L s.heap all->(∀h' tk,Fr Y.h₀ Y.L h' k.m->News Y.h₀ Y.L h' ((s.heap.objs.size,listOf vs.toArray 0)::all) ->Q (.ref s.heap.objs.size) {s with heap:=h',toks:=tk}) ->wpAny C.M Y.A t Q E s):
  Ref Y k (VR C) t w s (cQ H (.list mvs)):=by
 intro r' er Q E hq;cases er;obtain ⟨all,hn,add,_,_⟩:=S.ledger;exact h Q E all hn λh' tk F N=>hq _ _ _ ⟨(⟨Jb _ _,λ_ x=>x⟩:w.le ⟨w.σ++ [s.heap.objs.size],w.tp⟩),add _ (.list mvs) [_] h' ⟨vs,0,rfl,r.mono (⟨Jb _ _,λ_ x=>x⟩:w.le ⟨w.σ++ [s.heap.objs.size],w.tp⟩),hl⟩ F N (eY _) (News.fresh hn λp hp=>Qw.mp hp▸Qi _) (S.four (Qi _)),rfl,rfl⟩ ⟨_,rfl,by rw [<-S.len];exact Jh⟩
theorem zcV {mvs:List Val}{vs:List Value} (r:aC C w mvs vs) (n:Nat):aC C w (Qz n mvs).flatten (Qz n vs).flatten:=by
 induction n with
 |zero=>exact .nil
 |succ n ih=>exact ih.append r
theorem uY {α:Type} (vs:List α) (k:Nat): ∀acc:Array α,(List.foldl (λx1 x2=>x1++x2) acc (Qz k vs.toArray))=acc++(Qz k vs).flatten.toArray:=by
 induction k with
 |zero=>intro acc;exact (Array.append_empty).symm
 |succ k ih=>
  intro acc;refine (ih _).trans ?_;simp only [YP,Zx,Array.append_assoc,YQ]
theorem zcW {α:Type} (n:Nat) (vs:List α):(Qz (if vs.toArray.isEmpty=true then 0 else n) vs).flatten=(Qz n vs).flatten:=by
 cases vs with
 |nil=>simp
 |cons v r=>rfl
theorem zc9 {n:Nat}{s:List Nat}{c:Nat} (h:c∈(Qz n s).flatten):c∈s:=by
 refine (ZX.mp h).elim λl zq21=>?_;exact (List.mem_replicate.mp zq21.1).2▸zq21.2
theorem oX {α:Type}{n:Nat}{s:List α}:(Qz n s).flatten.length=s.length*n:=by rw [List.length_flatten,KR,List.sum_replicate_nat,KO]
theorem zcw (a b:List Nat):((⟨a.toArray⟩:Str)++(⟨b.toArray⟩:Str))=⟨(a++b).toArray⟩:=congrArg Str.mk (YQ a b)
theorem zcR {x y:Val}{a b:Value} (S:St Y k w H s) (ha:aF C w x a) (hb:aF C w y b):Ref Y k (VR C) (binaryOp .Add a b) w s (zew H x y):=by
 refine .alt (.opt λi hi=> .opt λj hj=>?_) (.alt (.opt λi hi=> .opt λj hj=> .grd λhl=>?_) (.opt λi hi=> .opt λj hj=> .grd λhl=>?_))
 ·obtain ⟨t,rfl⟩:=ha.int? hi
  obtain ⟨u,rfl⟩:=hb.int? hj;exact .val S λQ E q=>add_int (q _ _ ⟨_,rfl⟩)
 ·refine (ha.str? hi).elim λt zq18=>?_
  obtain rfl:=zq18.1;refine (hb.str? hj).elim λu zq17=>?_;obtain rfl:=zq17.1;have hl:=QV.mp hl;exact .val S λQ E q=>add_str (λt' tk=>q _ tk ⟨t',congrArg (Zi · t') (zcw i j),λc hc=>(QX.mp hc).elim (zq18.2.1 c) (zq17.2.1 c),by rw [Qv];exact hl⟩) (Qa hl lim_line)
 ·obtain ⟨a1,vs,n,rfl,g1,r1,l1⟩:=S.list ha hi
  obtain ⟨a2,ws,n2,rfl,g2,r2,l2⟩:=S.list hb hj;have hl:=QV.mp hl;refine .newL S (r2.append r1) (by rw [Qv];exact hl) λQ E all hn q=>add_arrays S.fr hn ⟨_,g1,rfl,_,rfl⟩ ⟨_,g2,rfl,_,rfl⟩ (λh' F N=>q h' _ F N) ?_;rw [Ja,Ja,<-r1.length,<-r2.length];exact Qa hl lim_line
theorem hP {a:Int}{b:Nat} (h:a.natAbs<2 ^ b):YR a<=b+1:=by
 unfold YR;split
 ·exact Qs _
 ·rename_i h0
  exact Jf ((Wl λe=>h0 (by rw [Xa.mp e];rfl)).mpr h)
theorem zfy {a b:Int} (h:qX a b=true):IntMulOk a b:=by
 have h:=Qb.mp h;have h1:=hP (QV.mp h.1);have h2:=hP (QV.mp h.2);unfold IntMulOk;rw [Jw,not_and];intro _;unfold Builtin.Int.intTooBig;rw [decide_eq_true_eq,show bitsLine=134217728 by decide+kernel];lia
theorem uZ {l:Nat}{n:Int} (h:kX l n=true):n<=1000000/\ -1000000<=n/\l*n.toNat<=lim:=by
 have h:=Qb.mp h;exact ⟨of_decide_eq_true (Qb.mp h.1).1,of_decide_eq_true (Qb.mp h.1).2,QV.mp h.2⟩
theorem zc3 {x:List Nat}{n:Int}{t u:Tok} (S:St Y k w H s) (oa:sOk x) (hl:kX x.length n=true):Ref Y k (VR C) (binaryOp .Mult (.str ⟨x.toArray⟩ t) (.int n u)) w s (some (.str (Qz n.toNat x).flatten,H)):=by
 obtain ⟨h1,h2,h3⟩:=uZ hl;refine .val S λQ E q=>?_;have q: ∀t' tk,Q (.str ⟨(Qz n.toNat x).flatten.toArray⟩ t') {s with toks:=tk}:=λt' tk=>q _ tk ⟨t',rfl,λc hc=>oa.1 c (zc9 hc),by rw [oX];exact h3⟩;have hx:(x.length:Int)<=1000000:=Ym.mpr oa.2;refine P.mul_str (by rw [decide_eq_false (by lia),decide_eq_false (by lia)];rfl) (λhn _=>KU.mpr (Xm hx ((Int.le_ediv_iff_mul_le (by lia)).mpr (by lia)))) (λ_ _=>decide_eq_false (ZV.mpr (Qa h3 lim_line))) ?_;split
 ·rename_i hn
  rw [show n.toNat=0 by lia] at q;exact ⟨by decide,q s.toks _⟩
 ·split
  ·rename_i h1'
   have e1:(Qz n.toNat x).flatten=x:=by
    rcases KJ.mp h1' with h|h
    ·rw [show n=1 from beq_iff_eq.mp h];exact QU x
    ·rw [Jp.mp (show x.length=0 from beq_iff_eq.mp h)];simp
   rw [e1] at q;exact q t s.toks
  ·have e:=uY x n.toNat #[]
   rw [Xb] at e;rw [<-e] at q;refine ⟨?_,q s.toks _⟩;show Array.size _<=_;rw [e];exact Qa (by rw [Ja,oX];exact h3) lim_line
theorem zcI {x y:Val}{a b:Value} (S:St Y k w H s) (ha:aF C w x a) (hb:aF C w y b):Ref Y k (VR C) (binaryOp .Mult a b) w s (qW H x y):=by
 refine .alt (.opt λi hi=> .opt λj hj=> .grd λhl=>?_) (.alt (.opt λi hi=> .opt λj hj=>?_) (.alt (.opt λi hi=> .opt λj hj=> .grd λhl=>?_) (.opt λi hi=> .opt λj hj=> .grd λhl=>?_)))
 ·obtain ⟨t,rfl⟩:=ha.int? hi
  obtain ⟨u,rfl⟩:=hb.int? hj;exact .val S λQ E q=>mul_int (q _ _ ⟨_,rfl⟩) (zfy hl)
 ·obtain ⟨t,rfl⟩:=ha.int? hi
  cases bool?_s hj;cases hb;exact .val S λQ E q=>IntBool.mul_int_bool (q _ _ ⟨_,rfl⟩)
 ·obtain ⟨u,rfl⟩:=hb.int? hj
  obtain ⟨a1,vs,n,rfl,g1,r1,l1⟩:=S.list ha hi;obtain ⟨h1,h2,h3⟩:=uZ hl;refine .newL S (zcV r1 j.toNat) (by rw [oX];exact h3) λQ E all hn q=>mul_list S.fr hn g1 (by lia) (by lia) ?_ λh' F N=>q h' _ F ?_
  ·rw [Ja,<-r1.length];exact Qa h3 (by decide)
  ·have e:=uY vs (if vs.toArray.isEmpty=true then 0 else j.toNat) #[]
   rw [Xb,zcW] at e;rw [<-e];exact N
 ·obtain ⟨u,rfl⟩:=hb.int? hj
  obtain ⟨t,rfl,oa⟩:=ha.str? hi;exact zc3 S oa hl
theorem xA {x y:Int} (h:y.natAbs<divB):Builtin.divisionGoesByPylong x y=false:=by
 unfold Builtin.divisionGoesByPylong
 have:(if (y==0)=true then 0 else y.natAbs.log2 / 30+1)<=300:=by
  split
  ·exact Qs _
  ·rename_i hz
   have:=(Wl λe=>hz (by rw [Xa.mp e];rfl)).mpr h
   lia
 simp only [JT,decide_eq_false_iff_not];exact .inl (Jc this)
theorem zeo {b:Int} (h:(b !=0)=true): ¬b=0:=bne_iff_ne.mp h
theorem wY {op:Operator}{o:BOp} (ho:bopOf op=some o) {x y:Int}{t u:Tok}{z:Int} (S:St Y k w H s) (e:rU o x y=some z):Ref Y k (VR C) (binaryOp op (.int x t) (.int y u)) w s (some (.int z,H)):=by
 refine .val S λQ E q=>?_;cases op<;>cases ho
 ·exact nos e
 ·cases e;exact sub_int (q _ _ ⟨_,rfl⟩)
 ·exact nos e
 ·obtain ⟨h,e⟩:=gs e
  cases e;exact mod_int' (zeo h) (q _ _ ⟨_,rfl⟩)
 ·obtain ⟨h,e⟩:=gs e
  cases e;have h':=Qb.mp (Qb.mp h).1;refine pow_int (of_decide_eq_true h'.1) ?_ (q _ _ ⟨_,rfl⟩);exact Xm (Int.mul_le_mul (Ym.mpr (hP (QV.mp (Qb.mp h).2))) (of_decide_eq_true h'.2) (of_decide_eq_true h'.1) (by decide)) (by decide)
 ·obtain ⟨h,e⟩:=gs e
  cases e;exact floordiv_int (zeo (Qb.mp h).1) (q _ _ ⟨_,rfl⟩) (.inl (xA (QV.mp (Qb.mp h).2)))
theorem wW {op:Operator}{o:BOp} (ho:bopOf op=some o) {x y:Val}{a b:Value} (S:St Y k w H s) (ha:aF C w x a) (hb:aF C w y b):Ref Y k (VR C) (binaryOp op a b) w s (d4 o x y H):=by
 refine .alt (.opt λi hi=> .opt λj hj=> .omap λz hz=>?_) ?_
 ·obtain ⟨t,rfl⟩:=ha.int? hi
  obtain ⟨u,rfl⟩:=hb.int? hj;exact wY ho S hz
 ·cases op<;>cases ho
  ·exact zcR S ha hb
  ·exact .none
  ·exact zcI S ha hb
  ·exact .none
  ·exact .none
  ·exact .none
theorem zcQ {l r:Expr}{op:Operator}{pos:Pos}{o:BOp}{il ir:Ex} (ho:bopOf op=some o) (hl:cH C d cx l il) (hr:cH C d cx r ir):cH C d cx (.BinOp l op r pos) (.bin o il ir):=
 λY env k mE fr w H s p=> .bind (hl Y env k mE fr w H s p) λw1 a1 s1 x H1 n1 r1=> .bind (.hold (hr Y env k mE fr w1 H1 s1 (p.next n1))) λw2 a2 s2 y H2 n2 r2=> .stand (.operate (wW ho n2.st (r1.mono n2.le) r2))
end
end Internal
namespace Internal
open PySem PySem.W PySem.Calls PyProof.Rows
theorem oV {α β:Type}{f:α->Option β}{x:α}{l:List α}{r:List β} (h:(x::l).mapM f=some r): ∃y ys,f x=some y/\l.mapM f=some ys/\r=y::ys:=by
 rw [KV] at h;refine (bs h).elim λy zq33=>?_;have h:=zq33.2;obtain ⟨ys,hys,h⟩:=bs h;exact ⟨y,ys,zq33.1,hys,(Qy.inj h).symm⟩
inductive RdO (h:Heap) (v:Value) (d:PyData) (k:Nat):Prop
 |mk (as:List Addr) (r:Reads h v d as) (c:d.canLay0=true) (l:d.depth<=k):RdO h v d k
inductive zhX (h:Heap) (v:List Value) (d:List PyData) (k:Nat):Prop
 |mk (as:List Addr) (r:ReadsAll h v d as) (c:PyData.canLayAll0 d=true) (l:PyData.depthAll d<=k):zhX h v d k
section
variable {C:Cfg}{d e:Nat}{Y:aQ C d e}{k:Kp}{w:Wd}{H:MH}{s:Shared}{cx:CC}{env:Env}{mE:Str->Option Value}{fr:Frame}
inductive IsT (C:Cfg) (w:Wd) (h:Heap) (v:Value) (mvs:List Val):Prop
 | mk (a : Addr) (o : Obj) (n : Nat) (vs : List Value) (e : v = .ref a) (g : h.get? a = some o) (c : o.cls = .type "tuple") (dt : o.data = .seq vs.toArray n) (r : aC C w mvs vs) (l : mvs.length <= lim) : IsT C w h v mvs
theorem Sta.tup {h:Heap} (S:Sta C Y.h₀ Y.L k w H h) {mvs:List Val}{v:Value} (hv:aF C w (.tup mvs) v):IsT C w h v mvs:=
 zdQ.casesOn hv λa o n vs e q r l=>⟨a,o,n,vs,e,q.1.elim S.tpAt (S.kIn _ _),q.2,q.3,r,l⟩
theorem gG {n:Nat}{h:Heap} (ih: ∀v rv dt,aF C w v rv->toD H n v=some dt->RdO h rv dt n):
  ∀ {mvs:List Val}{vs:List Value}{ds:List PyData},aC C w mvs vs->mvs.mapM (toD H n)=some ds->zhX h vs ds n:=by
 intro mvs
 induction mvs with
 |nil=>intro vs ds h e;cases h;cases e;exact ⟨[],.nil,rfl,Qs _⟩
 |cons m mvs ih'=>
  intro vs ds h e;obtain ⟨y,ys,e1,e2,rfl⟩:=oV e;obtain ⟨v,r,rfl,h,h'⟩:=h;obtain ⟨as,r1,c1,d1⟩:=ih _ _ _ h e1;obtain ⟨bs,r2,c2,d2⟩:=ih' h' e2;exact ⟨as++bs,.cons r1 r2,Qb.mpr ⟨c1,c2⟩,Nat.max_le.mpr ⟨d1,d2⟩⟩
theorem eC {h:Heap} (S:Sta C Y.h₀ Y.L k w H h): ∀ (n:Nat) (v:Val) (rv:Value) (dt:PyData),aF C w v rv->toD H n v=some dt->RdO h rv dt n:=by
 have flat: ∀ (n:Nat) (v:Val) (rv:Value) (dt:PyData),aF C w v rv->toD H 0 v=some dt->RdO h rv dt n:=by
  intro n v rv dt hv e;cases v with
  |none=>cases e;cases hv;exact ⟨[],.none,rfl,Qs _⟩
  |bool b=>cases e;cases hv;exact ⟨[],.bool b,rfl,Qs _⟩
  |int i=>cases e;obtain ⟨t,rfl⟩:=hv;exact ⟨[],.int i t,rfl,Qs _⟩
  |str x=>cases e;obtain ⟨t,rfl,ok⟩:=hv;exact ⟨[],.str _ t,by simpa [PyData.canLay0,PyData.strOk] using ok.1,Qs _⟩
  |_=>exact nos e
 intro n
 induction n with
 |zero=>exact flat 0
 |succ n ih=>
  intro v rv dt hv e;cases v with
  |tup vs=>
   obtain ⟨ds,e1,rfl⟩:=ms e;obtain ⟨a,o,n',ws,rfl,g,hc,hd,r,_⟩:=S.tup hv;obtain ⟨as,ra,c1,d1⟩:=gG ih r e1;exact ⟨as,.tuple g hc hd ra,c1,Q8 d1⟩
  |ref i=>
   obtain ⟨vs,hl,e⟩:=bs e;obtain ⟨ds,e1,rfl⟩:=ms e;obtain ⟨a,ws,n',rfl,g,r,_⟩:=S.list hv hl;obtain ⟨as,ra,c1,d1⟩:=gG ih r e1;exact ⟨a::as,.list g rfl rfl ra,c1,Q8 d1⟩
  |none=>exact flat _ _ _ _ hv e
  |bool b=>exact flat _ _ _ _ hv e
  |int i=>exact flat _ _ _ _ hv e
  |str x=>exact flat _ _ _ _ hv e
  |_=>exact nos e
theorem aQ.u (Y:aQ C d e) {n:Nat} (h:n<=180):Y.A.units+n<9900:=Qf (QK (Qk h (by decide:180<190)) _) (Qa (Qa (QW (Qd _ (20*d)) 190) (Qd _ _)) Y.units)
def EqW {C:Cfg}{d e:Nat} (Y:aQ C d e) (s:Shared) (vx vy:Value) (r:Bool):Prop:=
 ∀ (Q:Value->Shared->Prop) (E:Value->Shared->Prop),(Q (.bool r) s->wpAny C.M Y.A (compareOp .Eq vx vy) Q E s)/\(Q (.bool (!r)) s->wpAny C.M Y.A (compareOp .NotEq vx vy) Q E s)
theorem zcN (S:St Y k w H s) {x y:Val}{vx vy:Value}{r:Bool} (hx:aF C w x vx) (hy:aF C w y vy) (e:sD H x y=some r):EqW Y s vx vy r:=by
 obtain ⟨dx,e1,e⟩:=bs e;obtain ⟨dy,e2,rfl⟩:=ms e;obtain ⟨_,r1,c1,d1⟩:=eC S 8 x vx dx hx e1;obtain ⟨_,r2,c2,d2⟩:=eC S 8 y vy dy hy e2;have hu:Y.A.units+min dx.depth dy.depth<9900:=Y.u (Qa (Kj (Z8 _ _)) (Qa (QE d2 d1) (Ql _ _)));exact λQ E=>⟨SeqAt.compareEq_reads r1 r2 c1 c2 hu,SeqAt.compareNe_reads r1 r2 c1 c2 hu⟩
end
def Atom.dat (a:Atom):PyData:=Atom.casesOn (motive:=λ_=>PyData) a .int .str
theorem kL (h:MH) (k:Nat) (a:Atom):toD h k a.val=some a.dat:=by cases a<;>cases k<;>rfl
theorem rK (a b:Atom):YZ a.dat b.dat=decide (a=b):=by
 cases a with
 |i x=>
  cases b with
  |i y=>show (x==y)=_;rw [Zu,beq_iff_eq,decide_eq_true_eq,Atom.i.injEq]
  |s y=>rfl
 |s x=>
  cases b with
  |i y=>rfl
  |s y=>show (x==y)=_;rw [Zu,beq_iff_eq,decide_eq_true_eq,Atom.s.injEq]
theorem tC (h:MH) (k:Nat) (as:List Atom):(as.map Atom.val).mapM (toD h k)=some (as.map Atom.dat):=by
 induction as with
 |nil=>rfl
 |cons a r ih=>rw [QC,KV,kL,ih];rfl
theorem pD (as:List Atom): ∀bs:List Atom,Wa (as.map Atom.dat) (bs.map Atom.dat)=decide (as=bs):=by
 induction as with
 |nil=>intro bs;cases bs<;>rfl
 |cons a x ih=>
  intro bs;cases bs with
  |nil=>rfl
  |cons b y=>
   show (YZ a.dat b.dat && Wa (x.map Atom.dat) (y.map Atom.dat))=_;rw [rK,ih,<-Bool.decide_and,decide_eq_decide,ZY.injEq]
theorem rE (a b:Atom):kEq a.val b.val=decide (a=b):=by
 unfold kEq sD;rw [kL,kL];exact rK a b
theorem vB (as bs:List Atom):kEq (.tup (as.map Atom.val)) (.tup (bs.map Atom.val))=decide (as=bs):=by
 have e: ∀l:List Atom,toD [] 8 (.tup (l.map Atom.val))=some (.tuple (l.map Atom.dat)):=λl=>congrArg (XT PyData.tuple) (tC [] 7 l);unfold kEq sD;rw [e,e];exact pD as bs
theorem rD {v:Val} (h:fA v=true): ∃a:Atom,v=a.val:=by
 cases v with
 |int n=>exact ⟨.i n,rfl⟩
 |str x=>exact ⟨.s ⟨x.toArray⟩,rfl⟩
 |_=>cases h
theorem iL (a:Atom):cC a.val=1:=by cases a<;>rfl
theorem xM {vs:List Val} (h:vs.all fA=true): ∃as:List Atom,vs=as.map Atom.val:=by
 induction vs with
 |nil=>exact ⟨[],rfl⟩
 |cons v r ih=>
  refine (rD (Qb.mp h).1).elim λa zq12=>?_;obtain rfl:=zq12;refine (ih (Qb.mp h).2).elim λas zq11=>?_;obtain rfl:=zq11;exact ⟨a::as,rfl⟩
theorem yL (as:List Atom):(as.map Atom.val).all fA=true:=by
 induction as with
 |nil=>rfl
 |cons a r ih=>exact Qb.mpr ⟨by cases a<;>rfl,ih⟩
theorem fT (as:List Atom):cC (.tup (as.map Atom.val))=3:=by
 show (bif (as.map Atom.val).all fA then 3 else 0)=3;rw [yL];rfl
theorem gL {v:Val} (h:(cC v !=0)=true):(∃a:Atom,v=a.val)\/∃as:List Atom,v= .tup (as.map Atom.val):=by
 unfold cC at h;cases ha:fA v with
 |true=>exact .inl (rD ha)
 |false=>
  rw [ha] at h;cases ht:v.tup? with
  |none=>rw [ht] at h;cases h
  |some vs=>
   cases tup?_s ht;cases hal:vs.all fA with
   |true=>obtain ⟨as,rfl⟩:=xM hal;exact .inr ⟨as,rfl⟩
   |false=>
    have h':((bif vs.all fA then 3 else 0:Nat) !=0)=true:=h;rw [hal] at h';cases h'
section
variable {prog:Program}{w:World}{Kk:Type} [DecidableEq Kk] {knd:KeyKind prog w Kk}{A:Around}{E:Value->Shared->Prop}{s:Shared}
theorem r5 {d:Addr}{es:List DictEntry}{ep:Nat}{kvs:List (Kk×Value)}{k:Kk}{key v:Value}{Q:Unit->Shared->Prop} (hkey:knd.is k key=true) (ho:s.heap.get? d=some (dictOf es ep)) (hk:KeysOf knd es.toArray) (hp:Pairs knd es kvs) (hn:(kvs.map (·.1)).Nodup) (hsz:es.length<=sizeLine)
  (h: ∀ (es':List DictEntry) (f:Obj->Obj),f (dictOf es ep)=dictOf es' (if kvs.any (λkv=>kv.1=k) then ep else ep+1) ->KeysOf knd es'.toArray->Pairs knd es' (stored kvs k v) ->((stored kvs k v).map (·.1)).Nodup->
   Q () {s with heap:=s.heap.update d f,toks:=s.toks+1}):wpAny (model prog w) A (dictSet d key v) Q E s:=by
 unfold dictSet
 try with_reducible refine wpAny_holding ?_
 refine wpAny_bind (knd.pyHash hkey ?_);unfold dictSetHashed
 try with_reducible refine wpAny_holding ?_
 refine wpAny_bind (wpAny_dictFind_of (s:={s with toks:=s.toks+1}) hkey ho rfl hk ?_);have hidx:(es.toArray.findIdx? λe=>knd.is k e.key)=kvs.findIdx? λkv=>decide (kv.1=k):=by
  rw [<-hp.findIdx k];simp
 cases hi:es.toArray.findIdx? λe=>knd.is k e.key with
 |some i=>
  have hany:=any_of_findIdx_some (hidx▸hi);refine wpAny_bind (wpAny_rule (wpAny_bind (wpAny_updateDict (s:={s with toks:=s.toks+1}) ho rfl (wpAny_point ?_))));refine h (es.modify i λe=> {e with val:=v}) _ ?_ ?_ ?_ ?_
  ·rw [if_pos hany];simp [dictOf,Obj.mapDict]
  ·have:=hk.modify i v;simpa using this
  ·rw [(by rw [stored,if_pos hany]:stored kvs k v=kvs.map (λkv=>if kv.1=k then (kv.1,v) else kv))];exact hp.modify hn (by rw [<-hi];simp:(es.findIdx? λe=>knd.is k e.key)=some i) v
  ·rw [(by rw [stored,if_pos hany]:stored kvs k v=kvs.map (λkv=>if kv.1=k then (kv.1,v) else kv)),keys_map_store];exact hn
 |none=>
  have hnot:k∉kvs.map (·.1):=not_mem_of_findIdx_none (hidx▸hi);have hany: ¬(kvs.any λkv=>decide (kv.1=k))=true:=by
   rw [ZA];rintro ⟨kv,hkv,he⟩;exact hnot (QI.mpr ⟨kv,hkv,of_decide_eq_true he⟩)
  refine wpAny_bind (wpAny_rule (wpAny_updateDictKeys (hz:=by simpa using hsz) (s:={s with toks:=s.toks+1}) ho rfl ?_));refine h (es++ [⟨knd.hash k,key,v⟩]) _ ?_ ?_ ?_ ?_
  ·rw [if_neg hany];simp [dictOf,Obj.mapDictKeys]
  ·have:=hk.push hkey v;simpa using this
  ·rw [(by rw [stored,if_neg hany]:stored kvs k v=kvs++ [(k,v)])];exact hp.append hkey (knd.hash k) v
  ·rw [(by rw [stored,if_neg hany]:stored kvs k v=kvs++ [(k,v)]),QL,Zc]
   refine ⟨hn,Qx.mpr ⟨Qr,.nil⟩,?_⟩;intro a ha b hb;rw [Qw.mp hb];exact λe=>hnot (show k∈_ from (show a=k from e)▸ha)
theorem mK {d : Addr} {key v : Value} {Q : Unit -> Shared -> Prop} (hT : s.TypeIs (.ref d) "dict") (h : wpAny (model prog w) A.in1 (dictSet d key v) Q E s) : wpAny (model prog w) A (setItem (.ref d) key v) Q E s := by
 unfold setItem
 try with_reducible refine wpAny_holding ?_
 refine wpAny_bind (wpAny_sequenceKey hT (by decide) ?_);refine wpAny_bind (wpAny_callSpecial?_slot (name:=Str.ofString "__setitem__") hT slot_dict_setitem
  (wpAny_call_entry slot_dict_setitem hT entry_dict_setitem ?_ (args_dict_setitem _ _ _)))
 show wpAny _ _ (Builtin.Dict.notOrdered "__setitem__" ⟨[.ref d,key,v],[]⟩ >>= _) _ _ s;refine wpAny_bind (wpAny_notOrdered_dict hT ?_);show wpAny _ _ (dictSet d key v>>=_) _ _ s;exact wpAny_bind (wpAny_mono h (λ_ s' q=>wpAny_pure ⟨.none,rfl,wpAny_pure q⟩) λ_ _ e=>e)
end
section
variable {prog:Program}{w:World}{Kk:Type} [DecidableEq Kk] {knd:HeapKind prog w Kk}{A:Around}{E:Value->Shared->Prop}{s:Shared}
theorem pU {d a:Addr}{ep:Nat}{xs:List (Kk×Addr×Value)}{k:Kk}{v:Value}{Q:Unit->Shared->Prop} (hu:knd.room A) (hkey:knd.is s.heap k a) (ho:s.heap.get? d=some (dictOf (xs.map (entryOfKey knd)) ep)) (his: ∀x∈xs,knd.is s.heap x.1 x.2.1) (hn:(xs.map (·.1)).Nodup) (hsz:xs.length<=sizeLine)
  (h: ∀ (f:Obj->Obj),f (dictOf (xs.map (entryOfKey knd)) ep)=dictOf ((storedH xs k a v).map (entryOfKey knd)) (if (atKey xs k).isSome then ep else ep+1) ->((storedH xs k a v).map (·.1)).Nodup->
   Q () {s with heap:=s.heap.update d f,toks:=s.toks+knd.draws k}):wpAny (model prog w) A (dictSet d (.ref a) v) Q E s:=by
 have he:((xs.map (entryOfKey knd)).toArray).toList=xs.map (entryOfKey knd):=rfl;unfold dictSet
 try with_reducible refine wpAny_holding ?_
 refine wpAny_bind (knd.pyHash hu hkey ?_);unfold dictSetHashed
 try with_reducible refine wpAny_holding ?_
 refine wpAny_bind (wpAny_dictFind_heap (s:={s with toks:=s.toks+knd.draws k}) hu hkey ho rfl he his hn ?_ ?_)
 ·intro hno
  have hnot:k∉xs.map (·.1):=not_mem_keys_of_get hno;refine wpAny_bind (wpAny_rule (wpAny_updateDictKeys (hz:=by have e:=size_of_entries he;exact Qa (QA e) hsz) (s:={s with toks:=s.toks+knd.draws k}) ho rfl ?_));refine h _ ?_ ?_
  ·rw [storedH_new (atKey_none_of_get hno),atKey_none_of_get hno]
   simp [dictOf,Obj.mapDictKeys,entryOfKey]
  ·rw [storedH_new (atKey_none_of_get hno),QL,Zc]
   refine ⟨hn,Qx.mpr ⟨Qr,.nil⟩,?_⟩;intro x hx y hy;rw [Qw.mp hy];exact λe=>hnot (show k∈_ from (show x=k from e)▸hx)
 ·intro j p hj
  refine wpAny_bind (wpAny_rule (wpAny_bind (wpAny_updateDict (s:={s with toks:=s.toks+knd.draws k}) ho rfl (wpAny_point ?_))));refine h _ ?_ ?_
  ·rw [storedH_old (atKey_of_get hn hj),atKey_of_get hn hj]
   have:=modify_map_putAt (entryOfKey knd) (λe:DictEntry=> {e with val:=v}) k v (λ_ _=>rfl) hn hj
   rw [<-this]
   simp [dictOf,Obj.mapDict]
  ·rw [storedH_old (atKey_of_get hn hj),keys_map_putAt];exact hn
end
section
variable {C:Cfg}{d e:Nat}{Y:aQ C d e}{k:Kp}{w:Wd}{H:MH}{s:Shared}{cx:CC}{env:Env}{mE:Str->Option Value}{fr:Frame}
theorem aF.atom {a:Atom}{v:Value} (h:aF C w a.val v):a.is v=true/\a.ok:=by
 cases a with
 |i n=>obtain ⟨t,rfl⟩:=h;exact ⟨beq_self_eq_true n,trivial⟩
 |s x=>obtain ⟨t,rfl,ok⟩:=h;exact ⟨beq_self_eq_true x,ok⟩
theorem aC.items {as:List Atom}: ∀ {vs:List Value},aC C w (as.map Atom.val) vs->ItemsAre (bQ C.prog C.w) as vs:=by
 induction as with
 |nil=>intro vs h;cases h;exact .nil
 |cons a r ih=>intro vs h;obtain ⟨v,t,rfl,h1,h2⟩:=h;exact .cons h1.atom.1 (ih h2)
theorem Sta.tupKey {h:Heap} (S:Sta C Y.h₀ Y.L k w H h) {as:List Atom}{v:Value} (hv:aF C w (.tup (as.map Atom.val)) v): ∃t,v= .ref t/\IsTupleKey (bQ C.prog C.w) h as t:=by
 obtain ⟨t,o,n,ws,e,ho,hc,hd,rr,hl⟩:=S.tup hv;exact ⟨t,e,o,ws.toArray,n,ho,hc,hd,rr.items⟩
theorem zao {a:Addr}{o:Obj}{pre post:Led} (h:Led.nd (pre++([(a,o)]++post))): ∀q∈pre++post,q.1≠a:=
 λq hq e=>(Qx.mp (Led.nd.perm (Kr (a:=(a,o)) (l₁:=pre) (l₂:=post)) h)).1 (QI.mpr ⟨q,hq,e⟩)
theorem Sta.upd (S:St Y k w H s) {i:Nat}{a:Addr}{o o':MObj}{ob':Obj}{h':Heap} (ha:w.σ[i]?=some a) (ho:H[i]?=some o) (hen: ∀en,gT C w a o en-> ∃ob,en= [(a,ob)])
  (hs:Heap.SameBut a s.heap h') (hg:h'.get? a=some ob') (hr':gT C w a o' [(a,ob')]):Sta C Y.h₀ Y.L k w (H.set i o') h':=by
 obtain ⟨pre,en,post,hr,hn,hd,g⟩:=S.at ha ho;refine (hen en hr).elim λob1 zq8=>?_;obtain rfl:=zq8;have hm:=hn (a,ob1) (QD _ (.head _));refine g o' [(a,ob')] h' rfl hr' ⟨S.fr.ns.sameBut hs (JC hm.2.1),λc x e=>(hs.2 c (λq=>?_)).trans (S.fr.keep c x e),S.fr.above⟩ ?_
 ·rw [q,hm.2.2] at e;cases e
 ·intro p hp
  rcases QX.mp hp with hp|hp
  ·have:=hn p (Js _ hp)
   exact ⟨(hs.2 p.1 ((zao hd) p (Js _ hp))).trans this.1,this.2⟩
  ·rcases QX.mp hp with hp|hp
   ·rw [Qw.mp hp]
    exact ⟨hg,hm.2⟩
   ·have:=hn p (QD _ (QD _ hp))
    exact ⟨(hs.2 p.1 ((zao hd) p (QD _ hp))).trans this.1,this.2⟩
inductive IsD {C:Cfg}{d e:Nat} (Y:aQ C d e) (k:Kp) (w:Wd) (H:MH) (s:Shared) (i:Nat) (v:Value) (p:Option Nat×List (Val×Val)):Prop
 |mk (a:Addr) (n:Nat) (es:List DictEntry) (e:v= .ref a) (m:(a==sysModules)=false) (hep: ∀x,p.1=some x->n=x) (g:s.heap.get? a=some (dictOf es n)) (r:fO C w p.2 es) (l:p.2.length<=lim)
   (upd: ∀h' o' ob',Heap.SameBut a s.heap h'->h'.get? a=some ob'->gT C w a o' [(a,ob')]->Sta C Y.h₀ Y.L k w (H.set i o') h'):IsD Y k w H s i v p
theorem Sta.dictI (S:St Y k w H s) {i:Nat}{v:Value}{p:Option Nat×List (Val×Val)} (hv:aF C w (.ref i) v) (ho:H[i]?.bind MObj.dict?=some p):IsD Y k w H s i v p:=by
 obtain ⟨o,hi,h2⟩:=bs ho;cases dict?_s h2;obtain ⟨a,e,ha⟩:=hv;obtain ⟨pre,en,post,⟨es,n,rfl,hep,dr,l⟩,hn,_,_⟩:=S.at ha hi;refine ⟨a,n,es,e,beq_eq_false_iff_ne.mpr λq=>absurd (S.lo a (Qe ha)) (by rw [q];decide),hep,(hn (a,_) (QD _ (.head _))).1,dr,l,λh' o' ob' g2 g3 g4=>S.upd ha hi (λen h=>?_) g2 g3 g4⟩;obtain ⟨_,_,rfl,_,_,_⟩:=h;exact ⟨_,rfl⟩
theorem Sta.dict (S:St Y k w H s) {x:Val}{v:Value}{p:Option Nat×List (Val×Val)} (hv:aF C w x v) (ho:dictAt H x=some p): ∃i,x= .ref i/\IsD Y k w H s i v p:=by
 refine (bs ho).elim λi zq4=>?_;have e:=zq4.1;cases ref?_s e;exact ⟨i,rfl,S.dictI hv zq4.2⟩
theorem rB {α:Type}{mes:List (Val×Val)}{f:α->Val}{l:List α} (e:mes.map (·.1)=l.map f):mes.length=l.length:=by
 have:=congrArg JW e
 rwa [Qh,Qh] at this
theorem DA.nil:DA C w [] [] []:=⟨.nil,λe he=>absurd he (by simp),.nil,rfl,λ_ h=>absurd h Qr,.nil⟩
theorem DT.nil:DT C w [] [] []:=⟨rfl,.nil,λ_ h=>absurd h Qr,rfl,.nil⟩
theorem nM {mes:List (Val×Val)}{x:Val}{p:Val×Val}{r:List (Val×Val)} (hf:aM mes x=true) (e:mes=p::r):cC p.1=cC x:=by
 subst e;exact Qy.inj (beq_iff_eq.mp (Qb.mp hf).2)
theorem fO.atom {mes:List (Val×Val)}{es:List DictEntry}{a:Atom} (hf:aM mes a.val=true) (h:fO C w mes es): ∃kvs,DA C w mes es kvs:=by
 rcases h with h| ⟨xs,D⟩
 ·exact h
 ·cases mes with
  |nil=>
   have:=D.e
   cases xs with
   |nil=>rw [D.es];exact ⟨[],.nil⟩
   |cons _ _=>cases this
  |cons p r=>
   have e:=D.e;cases xs with
   |nil=>cases e
   |cons x xs=>
    have:=nM hf rfl
    rw [show p.1= .tup (x.1.map Atom.val) from (ZY.inj e).1,fT,iL] at this;cases this
theorem fO.tups {mes:List (Val×Val)}{es:List DictEntry}{as:List Atom} (hf:aM mes (.tup (as.map Atom.val))=true) (h:fO C w mes es): ∃xs,DT C w mes es xs:=by
 rcases h with ⟨kvs,D⟩|h
 ·cases mes with
  |nil=>
   have:=D.e
   cases kvs with
   |nil=>have p:=D.p;cases p;exact ⟨[],.nil⟩
   |cons _ _=>cases this
  |cons p r=>
   have e:=D.e;cases kvs with
   |nil=>cases e
   |cons x kvs=>
    have:=nM hf rfl
    rw [show p.1=x.1.val from (ZY.inj e).1,fT,iL] at this;cases this
 ·exact h
theorem DA.dictOf {mes:List (Val×Val)}{es:List DictEntry}{kvs:List (Atom×Value)}{a n:Nat}{h:Heap} (D:DA C w mes es kvs) (hg:h.get? a=some (W.dictOf es n)):h.DictOf (bQ C.prog C.w) a kvs:=
 ⟨_,es.toArray,n,hg,⟨rfl,rfl,rfl⟩,rfl,D.k,D.p,D.n⟩
theorem DT.keys {h:Heap} (S:Sta C Y.h₀ Y.L k w H h) {mes:List (Val×Val)}{es:List DictEntry}{xs:List (List Atom×Addr×Value)} (D:DT C w mes es xs): ∀x∈xs,IsTupleKey (bQ C.prog C.w) h x.1 x.2.1:=λx hx=>by
 obtain ⟨t,e,q⟩:=S.tupKey (D.v x hx);cases e;exact q
theorem DT.dictOf {h:Heap} (S:Sta C Y.h₀ Y.L k w H h) {mes:List (Val×Val)}{es:List DictEntry}{xs:List (List Atom×Addr×Value)}{b n:Nat} (D:DT C w mes es xs) (hg:h.get? b=some (W.dictOf es n)):h.DictOfH (tupleKind (bQ C.prog C.w)) b xs:=
 ⟨_,_,n,D.es▸hg,⟨rfl,rfl,rfl⟩,rfl,rfl,D.keys S,D.n⟩
def yQ (C:Cfg) (w:Wd) (m:Option Val) (v:Option Value):Prop:=(m=none/\v=none)\/∃mv rv,m=some mv/\v=some rv/\aF C w mv rv
theorem nL {α:Type} [DecidableEq α] {mk:α->Val} (hmk: ∀a b,kEq (mk a) (mk b)=decide (a=b)) (k:α): ∀ {kvs:List (α×Value)}{mes:List (Val×Val)},mes.map (·.1)=kvs.map (λp=>mk p.1) ->aC C w (mes.map (·.2)) (kvs.map (·.2)) ->yQ C w (aZ mes (mk k)) (valueAt kvs k):=by
 intro kvs
 induction kvs with
 |nil=>intro mes e r;rw [KL.mp e];exact .inl ⟨rfl,rfl⟩
 |cons y kvs ih=>
  intro mes e r;cases mes with
  |nil=>cases e
  |cons x mes=>
   obtain ⟨e1,e2⟩:=ZY.inj e;obtain ⟨v,t,ev,h,r⟩:=r;obtain ⟨rfl,rfl⟩:=ZY.inj ev;have ih:=ih e2 r;unfold aZ valueAt at ih ⊢;rw [Z9,Z9,show x.1=mk y.1 from e1,hmk];cases hk:decide (y.1=k) with
   |true=>exact .inr ⟨_,_,rfl,rfl,h⟩
   |false=>exact ih
theorem yQ.isSome {m:Option Val}{v:Option Value} (h:yQ C w m v):m.isSome=v.isSome:=by
 rcases h with ⟨rfl,rfl⟩| ⟨_,_,rfl,rfl,_⟩<;>rfl
theorem DA.get {mes:List (Val×Val)}{es:List DictEntry}{kvs:List (Atom×Value)} (D:DA C w mes es kvs) (k:Atom):yQ C w (aZ mes k.val) (valueAt kvs k):=nL rE k D.e D.r
theorem DT.sides {mes:List (Val×Val)}{es:List DictEntry}{xs:List (List Atom×Addr×Value)} (D:DT C w mes es xs):mes.map (·.1)=(kvsOf xs).map (λp=>Val.tup (p.1.map Atom.val))/\aC C w (mes.map (·.2)) ((kvsOf xs).map (·.2)):=by
 refine ⟨?_,?_⟩
 ·rw [D.e];simp [kvsOf]
 ·have:=D.r
  simpa [kvsOf,Function.comp_def] using this
theorem DT.get {mes:List (Val×Val)}{es:List DictEntry}{xs:List (List Atom×Addr×Value)} (D:DT C w mes es xs) (k:List Atom):yQ C w (aZ mes (.tup (k.map Atom.val))) ((atKey xs k).map (·.2)):=by
 rw [<-valueAt_kvsOf];exact nL (mk:=λas:List Atom=>Val.tup (as.map Atom.val)) vB k D.sides.1 D.sides.2
theorem aQ.room (Y:aQ C d e):(tupleKind (bQ C.prog C.w)).room Y.A.in1:=tupleKind_room_in1 (Y.u (by decide))
end
end Internal
namespace Internal
open PySem PySem.W PySem.Calls PyProof.Rows
section
variable {C:Cfg}{d e:Nat}{Y:aQ C d e}{k:Kp}{w:Wd}{H:MH}{s:Shared}{cx:CC}{env:Env}{mE:Str->Option Value}{fr:Frame}
theorem qL (S:St Y k w H s) {x y:Val}{vx vy:Value}{r:Bool} (hx:aF C w x vx) (hy:aF C w y vy):veq H x y=some r->EqW Y s vx vy r:=
 bM (aN λ_ _ e=>nos e) (zcN S hx hy)
theorem Sta.grown {h h':Heap} (S:Sta C Y.h₀ Y.L k w H h) (he:Heap.ExtBut h.objs.size h h'):Sta C Y.h₀ Y.L k w H h':=
 zdV.casesOn S.ledger λall hn _ _ g=>g h' (S.fr.extBut he (Qi _)) λp hp=>⟨he p.1 p.2 (Zy (Xl (hn p hp).1)) (hn p hp).1,(hn p hp).2⟩
theorem aC.empty {mvs:List Val}{vs:List Value} (r:aC C w mvs vs):vs.toArray.isEmpty=mvs.isEmpty:=by
 cases mvs with
 |nil=>cases r;rfl
 |cons m mvs=>obtain ⟨v,t,rfl,_,_⟩:=r;rfl
theorem gZ (S:St Y k w H s) {x:Val}{v:Value}{r:Bool} (hx:aF C w x v) (e:truthy H x=some r) {Q:Bool->Shared->Prop}{E:Value->Shared->Prop} (h: ∀tk,Q r {s with toks:=tk}):wpAny C.M Y.A (PySem.truthy v) Q E s:=by
 cases x with
 |none=>cases hx;cases e;exact truthy_none (h s.toks)
 |bool b=>cases hx;cases e;exact wpAny_truthy_bool (h s.toks)
 |int i=>obtain ⟨t,rfl⟩:=hx;cases e;exact truthy_int (h s.toks)
 |str l=>
  cases e;obtain ⟨t,rfl,ok⟩:=hx;refine P.truthy_str (Xc.mpr (fH ok.2)) ?_;have e:(((⟨l.toArray⟩:Str).length:Int) !=0)=!l.isEmpty:=by cases l<;>rfl
  rw [e];exact h _
 |tup vs=>
  cases e;obtain ⟨t,o,n,ws,rfl,ho,hc,hd,rr,hl⟩:=S.tup hx;refine truthy_tuple (items:=ws.toArray) ⟨o,ho,hc,n,hd⟩ (by rw [Ja,<-rr.length];exact fH hl) ?_;rw [rr.empty];exact h _
 |ref i=>
  refine (ms e).elim λvs zq31=>?_;obtain rfl:=zq31.2;obtain ⟨t,ws,n,rfl,ho,rr,hl⟩:=S.list hx zq31.1;refine wpAny_truthy_list (items:=ws.toArray) ⟨_,ho,rfl,n,rfl⟩ (by rw [Ja,<-rr.length];exact fH hl) ?_;rw [rr.empty];exact h _
 |_=>exact nos e
theorem bB {α β:Type} [BEq α] [LawfulBEq α] {a:α}{b:β}: ∀ {l:List (α×β)},l.lookup a=some b->(a,b)∈l:=by
 intro l
 induction l with
 |nil=>exact λh=>nos h
 |cons p l ih=>
  intro h;rw [Jg] at h;cases e:(a==p.1) with
  |true=>rw [e] at h;cases h;rw [beq_iff_eq.mp e];exact .head _
  |false=>rw [e] at h;exact .tail _ (ih h)
theorem tyTab_inj: ∀p∈tyTab,∀q∈tyTab,(p.1==q.1)=(p.2==q.2):=by decide
theorem mW {A : Around} {a b : Addr} {oa ob : Obj} {Q : Bool -> Shared -> Prop} {E : Value -> Shared -> Prop} (ha : s.heap.get? a = some oa) (hb : s.heap.get? b = some ob) (hc : ob.cls ≠ .type "tuple") (h : Q (a == b) s) : wpAny C.M A (isSame (.ref a) (.ref b)) Q E s := by
 unfold isSame
 dsimp only
 by_cases e:a=b
 ·subst e
  rw [if_pos (by simp)];rw [beq_self_eq_true] at h;exact wpAny_pure h
 ·rw [if_neg (by simpa using e)]
  rw [beq_eq_false_iff_ne.mpr e] at h;refine wpAny_bind (wpAny_load ha (wpAny_bind (wpAny_load hb ?_)));split
  ·rename_i q _ _
   exact absurd q hc
  ·exact wpAny_pure h
theorem aF.isNone {x:Val}{v:Value} (h:aF C w x v):isSame v .none=pure x.isNone:=by
 rw [isSame_none];cases x with
 |none=>cases h;rfl
 |bool b=>cases h;rfl
 |int i=>obtain ⟨t,rfl⟩:=h;rfl
 |str i=>obtain ⟨t,rfl,_⟩:=h;rfl
 |tup i=>obtain ⟨_,_,_,_,rfl,_,_,_⟩:=h;rfl
 |ref i=>obtain ⟨_,rfl,_⟩:=h;rfl
 |top i=>obtain ⟨_,rfl,_⟩:=h;rfl
 |ty i=>obtain ⟨_,rfl,_⟩:=h;rfl
 |bi i=>obtain ⟨_,rfl,_⟩:=h;rfl
 |rng i=>obtain ⟨_,_,_,_,rfl,_⟩:=h;rfl
 |fl i=>obtain ⟨_,_,_,_,rfl,_,_,_⟩:=h;rfl
 |setn i=>obtain ⟨_,_,_,_,_,rfl,_⟩:=h;rfl
theorem zS (K:iW C) (S:St Y k w H s) {x y:Val}{vx vy:Value}{r:Bool} (hx:aF C w x vx) (hy:aF C w y vy) {Q:Bool->Shared->Prop}{E:Value->Shared->Prop} (h:Q r s):isV x y=some r->wpAny C.M Y.A (isSame vx vy) Q E s:=by
 have plain:isSame vx vy=pure r->wpAny C.M Y.A (isSame vx vy) Q E s:=λq=>by rw [q];exact wpAny_pure h
 refine bM (cF λq e=>?_) (bM (aN λi e1=>bF λj e2 e=>?_) (bM (aN λi e1=>bF λj e2 e=>?_) (cF λq=>bF λj e2 e=>?_)))
 ·clear h
  cases isNone_s q;cases hy;exact plain (hx.isNone.trans (congrArg pure (Qy.inj e)))
 ·clear h
  cases ty?_s e1;cases ty?_s e2;obtain ⟨n1,rfl,h1⟩:=hx;obtain ⟨n2,rfl,h2⟩:=hy;refine plain (congrArg pure (Eq.trans ?_ ((tyTab_inj _ (bB h1) _ (bB h2)).symm.trans e)));by_cases e:n1=n2
  ·subst e;simp
  ·rw [beq_eq_false_iff_ne.mpr e,beq_eq_false_iff_ne.mpr (λq=>e (Qg.inj q))]
 ·clear plain
  cases top?_s e1;cases top?_s e2;obtain ⟨a1,rfl,h1⟩:=hx;obtain ⟨a2,rfl,h2⟩:=hy;refine (K.adK _ _ h1).elim λo1 zq25=>?_;refine (K.adK _ _ h2).elim λo2 zq24=>?_;refine mW (S.kIn _ _ zq25.1) (S.kIn _ _ zq24.1) zq24.2 ?_;have e':(a1==a2)=(i==j):=by
   rw [Zu,beq_iff_eq,beq_iff_eq];exact ⟨λq=>K.adInj _ _ _ h1 (q▸h2),λq=>Qy.inj ((q▸h1:C.ad.lookup j=some a1).symm.trans h2)⟩
  rw [e',e];exact h
 ·cases top?_s e2
  obtain ⟨b,rfl,h2⟩:=hy;subst e;cases x with
  |none=>cases hx;exact plain rfl
  |int i=>obtain ⟨t,rfl⟩:=hx;exact plain rfl
  |tup vs=>
   clear plain
   refine (K.adK _ _ h2).elim λo zq22=>?_;obtain ⟨ta,ot,n,ws,rfl,hg,hct,_,_,_⟩:=S.tup hx;refine mW hg (S.kIn _ _ zq22.1) zq22.2 ?_;rw [beq_eq_false_iff_ne.mpr λq=>zq22.2 (by rw [<-hct,Qy.inj ((q▸hg:s.heap.get? b=some ot).symm.trans (S.kIn _ _ zq22.1))])];exact h
  |_=>cases q
def InW {C:Cfg}{d e:Nat} (Y:aQ C d e) (s:Shared) (vx vy:Value) (r:Bool):Prop:=
 ∀ (Q:Value->Shared->Prop) (E:Value->Shared->Prop),((∀tk,Q (.bool r) {s with toks:=tk}) ->wpAny C.M Y.A (compareOp .In vx vy) Q E s)/\((∀tk,Q (.bool (!r)) {s with toks:=tk}) ->wpAny C.M Y.A (compareOp .NotIn vx vy) Q E s)
theorem one?_s {s:List Nat}{c:Nat} (h:one? s=some c):s= [c]:=by
 cases s with
 |nil=>exact nos h
 |cons a r=>
  cases r with
  |nil=>cases h;rfl
  |cons _ _=>exact nos h
theorem zT (S:St Y k w H s) {x y:Val}{vx vy:Value}{r:Bool} (hx:aF C w x vx) (hy:aF C w y vy):tH H x y=some r->InW Y s vx vy r:=by
 have hu: ∀ {a b:Nat},a<=7->Y.A.units+1+min a b<cLine:=λh=>by rw [QY];exact Y.u (Qa (Qm (Qa (Z8 _ _) h) 1) (by decide))
 refine bM (aN λt e1=>bF λc e2 e=>?_) (bM (aN λvs e1=>aN λds e2=>bF λdx e3 e=>?_) (bM (aN λvs e1=>aN λds e2=>bF λdx e3 e=>?_) (aN λp e1=>cF λhf e=>?_)))
 ·obtain ⟨x',e3,e2⟩:=bs e2
  cases one?_s e2;refine (hx.str? e3).elim λu zq19=>?_;obtain rfl:=zq19.1;refine (hy.str? e1).elim λt' zq18=>?_;obtain rfl:=zq18.1;have hc:t.contains c=decide (c∈t):=by rw [Zu,ZP,decide_eq_true_eq]
  rw [<-e,hc];refine λQ E=>⟨λh=>in_str ?_,λh=>notIn_str ?_⟩
  ·rw [show (⟨[c].toArray⟩:Str)=⟨#[c]⟩ from rfl,(StrLaws.found_one ⟨t.toArray⟩ c)]
   exact h s.toks
  ·rw [show (⟨[c].toArray⟩:Str)=⟨#[c]⟩ from rfl,(StrLaws.found_one ⟨t.toArray⟩ c)]
   exact h s.toks
 ·cases tup?_s e1
  obtain ⟨t,o,n,ws,rfl,ho,hc,hd,rr,_⟩:=S.tup hy;obtain ⟨as,ra,c1,d1⟩:=gG (eC S 7) rr e2;obtain ⟨bs,rb,c2,d2⟩:=eC S 7 x vx dx hx e3;rw [<-e];exact λQ E=>⟨λh=>SeqAt.in_tuple_reads (.tuple ho hc hd ra:Reads s.heap (.ref t) (.tuple ds) as) rb c1 c2 (hu d1) (h s.toks),λh=>SeqAt.notIn_tuple_reads (.tuple ho hc hd ra:Reads s.heap (.ref t) (.tuple ds) as) rb c1 c2 (hu d1) (h s.toks)⟩
 ·obtain ⟨t,ws,n,rfl,ho,rr,_⟩:=S.list hy e1
  obtain ⟨as,ra,c1,d1⟩:=gG (eC S 7) rr e2;obtain ⟨bs,rb,c2,d2⟩:=eC S 7 x vx dx hx e3;rw [<-e];have R:Reads s.heap (.ref t) (.list ds) (t::as):= .list ho rfl rfl ra;exact λQ E=>⟨λh=>SeqAt.in_list_reads R rb c1 c2 (hu d1) (h s.toks),λh=>SeqAt.notIn_list_reads R rb c1 c2 (hu d1) (h s.toks)⟩
 ·refine (S.dict hy e1).elim λi zq11=>?_
  obtain ⟨b,n,es,rfl,hmod,_,hg,hdr,_,_⟩:=zq11.2;rw [<-Qy.inj e];rcases gL (Qb.mp hf).1 with ⟨q,rfl⟩| ⟨q,rfl⟩
  ·obtain ⟨kvs,D⟩:=hdr.atom hf
   rw [(D.get q).isSome];exact λQ E=>⟨λh=>wpAny_in_of hx.atom.1 hmod (D.dictOf hg).mapOf (h _),λh=>wpAny_notIn_of hx.atom.1 hmod (D.dictOf hg).mapOf (h _)⟩
  ·obtain ⟨xs,D⟩:=hdr.tups hf
   obtain ⟨t,rfl,ht⟩:=S.tupKey hx;rw [(D.get q).isSome,Kf];exact λQ E=>⟨λh=>wpAny_in_heap Y.room ht hmod (D.dictOf S hg) (h _),λh=>wpAny_notIn_heap Y.room ht hmod (D.dictOf S hg) (h _)⟩
theorem uR {op:CmpOp} (K:iW C) (S:St Y k w H s) {x y:Val}{vx vy:Value} (hx:aF C w x vx) (hy:aF C w y vy):Ref Y k (VR C) (compareOp op vx vy) w s ((c7 (copOf op) x y H).map λr=>(.bool r,H)):=by
 refine .omap λr e=> .val S λQ E q=>?_;have h: ∀tk,Q (.bool r) {s with toks:=tk}:=λtk=>q _ tk rfl;have h0:=h s.toks;have cmpQ: ∀ {f:Int->Int->Bool}{t:Sem Value},zbq x y f=some r->(∀a b t1 t2,vx= .int a t1->vy= .int b t2->r=f a b->wpAny C.M Y.A t Q E s) ->wpAny C.M Y.A t Q E s:=λe g=>by
  obtain ⟨a,e1,e⟩:=bs e;obtain ⟨b,e2,rfl⟩:=ms e;obtain ⟨t1,q1⟩:=hx.int? e1;obtain ⟨t2,q2⟩:=hy.int? e2;exact g a b t1 t2 q1 q2 rfl
 cases op with
 |Eq=>exact (qL S hx hy e Q E).1 h0
 |NotEq=>
  obtain ⟨q,hq,rfl⟩:=ms e;exact (qL S hx hy hq Q E).2 h0
 |Lt=>exact cmpQ e λa b t1 t2 e1 e2 e3=>by subst e1 e2 e3;exact lt_int h0
 |LtE=>exact cmpQ e λa b t1 t2 e1 e2 e3=>by subst e1 e2 e3;exact le_int h0
 |Gt=>exact cmpQ e λa b t1 t2 e1 e2 e3=>by subst e1 e2 e3;exact gt_int h0
 |GtE=>exact cmpQ e λa b t1 t2 e1 e2 e3=>by subst e1 e2 e3;exact ge_int h0
 |In=>exact (zT S hx hy e Q E).1 h
 |NotIn=>
  obtain ⟨q,hq,rfl⟩:=ms e;exact (zT S hx hy hq Q E).2 h
 |Is=>exact wpAny_bind (zS K S hx hy (wpAny_pure h0) e)
 |IsNot=>
  obtain ⟨q,hq,rfl⟩:=ms e;exact wpAny_bind (zS K S hx hy (wpAny_pure h0) hq)
end
end Internal
namespace Internal
open PySem PySem.W PySem.Calls PyProof.Rows
abbrev Kp.ext (k:Kp) (p:Addr×Obj):Kp:= {k with ex:=p::k.ex}
theorem cU (k:Kp) (w:Wd) (os:List Led) (p:Addr×Obj):((k.ext p).all w os).Perm (p::k.all w os):=by
 have:=Kr (a:=p) (l₁:=os.flatten++(w.tp++k.ce)) (l₂:=k.ex)
 rw [Qt,Qt,Qt,Qt] at this;exact this
section
variable {C:Cfg}{h₀:Heap}{L:Addr}{k:Kp}{w:Wd}{H:MH}{h h':Heap}{b:Addr}{o o':Obj}
theorem Sta.addEx (S:Sta C h₀ L k w H h) (o:Obj) (hf:o.isFreed=false):Sta C h₀ L (k.ext (h.objs.size,o)) w H (h.push o):=by
 obtain ⟨os,he,hn,hd⟩:=S.os;exact ⟨S.fr.push o,⟨os,he,λp hp=>hn.push S.fr o hf p ((cU k w os _).mem_iff.mp hp),Led.nd.perm (cU k w os (h.objs.size,o)).symm (oT (eY _) hd (News.fresh hn λp hp=>Qw.mp hp▸Qi _))⟩,S.big,S.lo⟩
theorem Sta.exHead (S:Sta C h₀ L (k.ext (b,o)) w H h):h.get? b=some o/\b≠L/\h₀.get? b=none:=by
 obtain ⟨os,he,hn,hd⟩:=S.os;exact hn (b,o) ((cU k w os (b,o)).mem_iff.mpr (.head _))
theorem Fr.sameBut {m:Str->Option Value} (F:Fr h₀ L h m) (hs:Heap.SameBut b h h') (g:b≠L/\h₀.get? b=none):Fr h₀ L h' m:=
 ⟨F.ns.sameBut hs (JC g.1),λc x e=>(hs.2 c λq=>by rw [q,g.2] at e;cases e).trans (F.keep c x e),F.above⟩
theorem Sta.setEx (S:Sta C h₀ L (k.ext (b,o)) w H h) (hs:Heap.SameBut b h h') (ho:h'.get? b=some o'):Sta C h₀ L (k.ext (b,o')) w H h':=by
 have g:=S.exHead;obtain ⟨os,he,hn,hd⟩:=S.os;have hd':=Qx.mp (Led.nd.perm (cU k w os (b,o)) hd);refine ⟨Fr.sameBut S.fr hs g.2,⟨os,he,λp hp=>?_,Led.nd.perm (cU k w os (b,o')).symm (Qx.mpr hd')⟩,S.big,S.lo⟩;rcases QH.mp ((cU k w os (b,o')).mem_iff.mp hp) with e|hp
 ·rw [e];exact ⟨ho,g.2⟩
 ·have:=hn p ((cU k w os (b,o)).mem_iff.mpr (.tail _ hp))
  exact ⟨(hs.2 p.1 λe=>hd'.1 (QI.mpr ⟨p,hp,e⟩)).trans this.1,this.2⟩
theorem Sta.endEx (S:Sta C h₀ L (k.ext (b,o)) w H h) (hx:Heap.ExtBut b h h'):Sta C h₀ L k w H h':=by
 have g:=S.exHead;obtain ⟨os,he,hn,hd⟩:=S.os;have hd':=Qx.mp (Led.nd.perm (cU k w os (b,o)) hd);refine ⟨⟨S.fr.ns.extBut hx (JC g.2.1),λc x e=>hx c x (λq=>by rw [q,g.2.2] at e;cases e) (S.fr.keep c x e),S.fr.above⟩,⟨os,he,λp hp=>?_,hd'.2⟩,S.big,S.lo⟩
 have:=hn p ((cU k w os (b,o)).mem_iff.mpr (.tail _ hp))
 exact ⟨hx p.1 p.2 (λe=>hd'.1 (QI.mpr ⟨p,hp,e⟩)) this.1,this.2⟩
theorem Sta.exSwap {p q:Addr×Obj} (S:Sta C h₀ L ((k.ext q).ext p) w H h):Sta C h₀ L ((k.ext p).ext q) w H h:=by
 obtain ⟨os,he,hn,hd⟩:=S.os;have hp:(((k.ext p).ext q).all w os).Perm (((k.ext q).ext p).all w os):=List.Perm.append_left _ (List.Perm.append_left _ (List.Perm.append_left _ (List.Perm.swap p q k.ex)));exact ⟨S.fr,⟨os,he,λr hr=>hn r (hp.mem_iff.mp hr),Led.nd.perm hp.symm hd⟩,S.big,S.lo⟩
theorem Sta.fromEx {m:MObj} (S:Sta C h₀ L (k.ext (b,o)) w H h) (h4:4<=b) (hr:gT C ⟨w.σ++ [b],w.tp⟩ b m [(b,o)]):Sta C h₀ L k ⟨w.σ++ [b],w.tp⟩ (H++ [m]) h:=by
 obtain ⟨os,he,hn,hd⟩:=S.os;have hp:=(cU k w os (b,o)).trans (lC k w b [(b,o)] os);exact ⟨S.fr,⟨os++ [[(b,o)]],fN.snoc hr (fN.mono (w:=w) (w':=⟨w.σ++ [b],w.tp⟩) ⟨Jb _ _,λ_ x=>x⟩ he),λp hp'=>hn p (hp.mem_iff.mpr hp'),Led.nd.perm hp hd⟩,S.big,S.loNew h4⟩
end
inductive zbV (io:Obj) (T:String) (v:Value) (i:Nat):Prop
 |mk (c:io.cls= .type T) (d:io.data= .fields #[v,.int (i:Nat) 0]):zbV io T v i
inductive zex (io:Obj) (x:List Nat) (i:Nat):Prop
 | mk (T : String) (t : Tok) (h : T = "str_ascii_iterator" \/ T = "str_iterator") (q : zbV io T (.str ⟨x.toArray⟩ t) i) : zex io x i
inductive zez (io:Obj) (n:Int) (i:Nat):Prop
 | mk (left : Int) (h1 : 0 < left ↔ (i : Int) < n) (h2 : 0 < left -> left = n - i) (e : io = { cls := .type "range_iterator",dict := Q1,data := .fields #[rawInt (i : Nat),rawInt left,rawInt 1],slots := #[] }) : zez io n i
def d5 (C:Cfg) (w:Wd) (io:Obj) (i:Nat) (k:It):Prop:=It.casesOn (motive:=λ_=>Prop) k
 (λa => ∃ la,w.σ[a]? = some la /\ zbV io "list_iterator" (.ref la) i)
 (λmvs => ∃ ta,aF C w (.tup mvs) (.ref ta) /\ zbV io "tuple_iterator" (.ref ta) i)
 (λa n ep => ∃ la,w.σ[a]? = some la /\ io.cls = .type "dict_keyiterator" /\ io.data = .fields #[.ref la,.int (i : Nat) 0,.int (n : Nat) 0,.int (ep : Nat) 0])
 (λx=>sOk x/\zex io x i)
 (λn=>zez io n i)
 (λmvs => ∃ la,aF C w (.fl mvs) (.ref la) /\ zbV io "list_iterator" (.ref la) i)
theorem d5.mono {C:Cfg}{w w':Wd} (l:w.le w') {io:Obj}{i:Nat}{k:It}:d5 C w io i k->d5 C w' io i k:=
 It.casesOn (motive:=λk=>d5 C w io i k->d5 C w' io i k) k (λ_ h=>h.elim λla h=>⟨la,l.get h.1,h.2⟩) (λ_ h=>h.elim λla h=>⟨la,h.1.mono l,h.2⟩) (λ_ _ _ h=>h.elim λla h=>⟨la,l.get h.1,h.2⟩) (λ_ h=>h) (λ_ h=>h) (λ_ h=>h.elim λla h=>⟨la,h.1.mono l,h.2⟩)
section
variable {C:Cfg}{d e:Nat}{Y:aQ C d e}{k:Kp}{w:Wd}{H:MH}{s:Shared}{cx:CC}{env:Env}{mE:Str->Option Value}{fr:Frame}
theorem fO.entries {mes:List (Val×Val)}{es:List DictEntry} (h:fO C w mes es):es.length=mes.length/\∀ (i:Nat) (p:Val×Val),mes[i]?=some p-> ∃e:DictEntry,es[i]?=some e/\aF C w p.1 e.key:=by
 rcases h with ⟨kvs,D⟩| ⟨xs,D⟩
 ·have l1:=rB D.e
  have l2:=D.p.length;refine ⟨by lia,λi p hp=>?_⟩;have hi:i<mes.length:=(Qn.mp hp).1;have hik:i<kvs.length:=Qf hi (QA l1);have hie:i<es.length:=Qf hik (QA (KN l2));refine ⟨es[i],Qc hie,?_⟩;have hk:=(D.p.get? (i:=i) (Qc hie) (Qc hik)).1;have he:(mes.map (·.1))[i]?=(kvs.map λp=>p.1.val)[i]?:=by rw [D.e]
  rw [Qu,Qu,hp,Qc hik] at he;rw [show p.1=kvs[i].1.val from Qy.inj he];have hok:=D.ok kvs[i] (Jk hik)
  generalize kvs[i].1=a at hk hok
  cases a with
  |i z=>exact JQ hk
  |s x=>
   obtain ⟨t,ht⟩:=Zg hk;exact ⟨t,ht,hok⟩
 ·have l1:=rB D.e
  refine ⟨by rw [D.es,Qh,l1],λi p hp=>?_⟩;have hik:i<xs.length:=l1▸(Qn.mp hp).1;refine ⟨entryOfKey (tupleKind (bQ C.prog C.w)) xs[i],by rw [D.es,Qu,Qc hik];rfl,?_⟩;have he:(mes.map (·.1))[i]?=(xs.map λx=>Val.tup (x.1.map Atom.val))[i]?:=by rw [D.e]
  rw [Qu,Qu,hp,Qc hik] at he;rw [show p.1=_ from Qy.inj he];exact D.v xs[i] (Jk hik)
theorem qQ {n:Int} (h1:n<=lim) (h2: -(lim:Int)<=n):Builtin.Range.small 0 n 1=true:=by
 have hl:(lim:Int)=1000000:=rfl;refine small_one ?_ ?_ ?_ ?_<;>lia
theorem kZ (n:Int):(0<ZC 0 n 1 ↔ 0<n)/\(0<ZC 0 n 1->ZC 0 n 1=n):=by
 unfold ZC;simp only [gt_iff_lt,Int.zero_lt_one,if_true];split
 ·rename_i h
  refine ⟨?_,?_⟩<;>lia
 ·rename_i h
  refine ⟨?_,?_⟩<;>lia
theorem qI (S:St Y k w H s) {v:Val}{rv:Value}{z:It} (hv:aF C w v rv) {Q:Value->Shared->Prop}{E:Value->Shared->Prop}
  (h: ∀I io h',Sta C Y.h₀ Y.L (k.ext (I,io)) w H h'->d5 C w io 0 z->Q (.ref I) {s with heap:=h'}):dR H v=some z->wpAny C.M Y.A (pyIter rv) Q E s:=by
 refine bM (aN λn e1=>cF λhn e=>?_) (bM (aN λa e1=>bM (bF λvs e2 e=>?_) (λe=>nos e)) (bM (bF λvs e1 e=>?_) (bM (bF λx e1 e=>?_) (bF λvs e1 e=>?_))))
 ·cases e;cases rng?_s e1
  obtain ⟨r,t,u,v,rfl,hr⟩:=hv;exact wpAny_pyIter_range (S.tpAt hr) (qQ (of_decide_eq_true (Qb.mp hn).1) (of_decide_eq_true (Qb.mp hn).2)) (h _ _ _ (S.addEx _ rfl) ⟨_,(kZ n).1,λhh=>((kZ n).2 hh).trans (Int.sub_zero n).symm,rfl⟩)
 ·subst e;cases ref?_s e1
  obtain ⟨la,ws,n,rfl,ho,rr,hl⟩:=S.list hv e2;refine Jd hv λ_ zq20=>?_;exact wpAny_pyIter_list (items:=ws.toArray) ⟨_,ho,rfl,n,rfl⟩ (h _ _ _ (S.addEx _ rfl) ⟨la,Ww.inj zq20.1▸zq20.2,rfl,rfl⟩)
 ·subst e;cases tup?_s e1
  obtain ⟨t,o,n,ws,rfl,ho,hc,hd,rr,hl⟩:=S.tup hv;exact iter_tuple (items:=ws.toArray) ⟨o,ho,hc,n,hd⟩ (h _ _ _ (S.addEx _ rfl) ⟨t,hv,rfl,rfl⟩)
 ·subst e
  obtain ⟨t,rfl,ok⟩:=hv.str? e1;refine wpAny_pyIter_strU (h _ _ _ (S.addEx _ rfl) ⟨ok,strIterType ⟨x.toArray⟩,t,?_,rfl,rfl⟩);unfold strIterType;split
  ·exact .inl rfl
  ·exact .inr rfl
 ·subst e;cases fl?_s e1
  obtain ⟨la,o,n,ws,rfl,q,rr,hl⟩:=id hv;exact wpAny_pyIter_list (items:=ws.toArray) ⟨o,S.kIn _ _ q.1,q.2,n,q.3⟩ (h _ _ _ (S.addEx _ rfl) ⟨la,hv,rfl,rfl⟩)
structure zey {C:Cfg}{d e:Nat} (Y:aQ C d e) (k:Kp) (w:Wd) (H:MH) (s:Shared) (I:Addr) (i:Nat) (z:It) (r:Option Val) (Q:Option Value->Shared->Prop):Prop where
 go: ∀v rv io' h' tk,r=some v->Sta C Y.h₀ Y.L (k.ext (I,io')) w H h'->d5 C w io' (i+1) z->aF C w v rv->Q (some rv) {s with heap:=h',toks:=tk}
 fin: ∀h',r=none->Sta C Y.h₀ Y.L k w H h'->Q none {s with heap:=h'}
theorem kP {I:Addr}{io:Obj}{i:Nat}{mvs:List Val}{vs:List Value}{z:It}{r:Option Val}{Q:Option Value->Shared->Prop} (S:St Y (k.ext (I,io)) w H s) (rr:aC C w mvs vs) (er:mvs[i]?=r) (G:zey Y k w H s I i z r Q)
  (item: ∀x (Q:Option Value->Shared->Prop),vs.toArray[i]?=some x->(∀h' o',h'.get? I=some o'->d5 C w o' (i+1) z->Heap.SameBut I s.heap h'->Q (some x) {s with heap:=h'}) ->wpAny C.M Y.A (pyNext (.ref I)) Q (λ_ _=>False) s)
  (fin: ∀ (Q:Option Value->Shared->Prop),vs.toArray[i]?=none->(∀h',Heap.ExtBut I s.heap h'->Q none {s with heap:=h'}) ->wpAny C.M Y.A (pyNext (.ref I)) Q (λ_ _=>False) s) {E:Value->Shared->Prop}:wpAny C.M Y.A (pyNext (.ref I)) Q E s:=by
 refine wpAny_mono (Q:=Q) (E:=λ_ _=>False) ?_ (λ_ _ q=>q) (λ_ _ q=>q.elim);cases r with
 |none=>
  refine fin Q ?_ λh' he=>G.fin h' rfl (S.endEx he);rw [JU,K5,<-rr.length];exact K5.mp er
 |some v=>
  refine (rr.get er).elim λrv zq14=>?_;exact item rv Q (by rw [JU];exact zq14.1) λh' o' g1 g2 hs=>G.go v rv o' h' _ rfl (S.setEx hs g1) g2 zq14.2
theorem qG {I:Addr}{io:Obj}{z:It}{i:Nat}{r:Option Val} (S:St Y (k.ext (I,io)) w H s) (R:d5 C w io i z) (e:bT H i z=some r) {Q:Option Value->Shared->Prop}{E:Value->Shared->Prop} (G:zey Y k w H s I i z r Q):wpAny C.M Y.A (pyNext (.ref I)) Q E s:=by
 have hI:=S.exHead.1;cases z with
 |fs mvs=>
  obtain ⟨la,hv,ic⟩:=R;have zq12:=id hv;obtain ⟨_,o,n,vs,e1,q,rr,_⟩:=zq12;cases e1;have hl0:s.heap.IsList la vs.toArray:=⟨o,S.kIn _ _ q.1,q.2,n,q.3⟩;exact kP S rr (Qy.inj e) G (λx Q hx g=>wpAny_pyNext_list_item ⟨io,hI,ic.1,ic.2⟩ hl0 hx λh' hit' hs=>hit'.elim λo' p=>g h' o' p.1 ⟨la,hv,p.2.1,p.2.2⟩ hs) (λQ hx g=>wpAny_pyNext_list_end Y.handled ⟨io,hI,ic.1,ic.2⟩ hl0 hx g)
 |ls a=>
  obtain ⟨la,ha,ic⟩:=R;obtain ⟨mvs,hm,er⟩:=ms e;obtain ⟨_,ws,n,e1,ho,rr,hl⟩:=S.list (x:=.ref a) ⟨la,rfl,ha⟩ hm;cases e1;have hl0:s.heap.IsList la ws.toArray:=⟨_,ho,rfl,n,rfl⟩;exact kP S rr er G (λx Q hx g=>wpAny_pyNext_list_item ⟨io,hI,ic.1,ic.2⟩ hl0 hx λh' hit' hs=>hit'.elim λo' p=>g h' o' p.1 ⟨la,ha,p.2.1,p.2.2⟩ hs) (λQ hx g=>wpAny_pyNext_list_end Y.handled ⟨io,hI,ic.1,ic.2⟩ hl0 hx g)
 |tp mvs=>
  obtain ⟨ta,ht,ic⟩:=R;have zq7:=S.tup ht;obtain ⟨_,o,n,ws,e1,ho,hc,hd,rr,hl⟩:=zq7;cases e1;have hl0:IsTup s.heap ta ws.toArray:=⟨o,ho,hc,n,hd⟩;exact kP S rr (Qy.inj e) G (λx Q hx g=>next_tuple_item ⟨io,hI,ic.1,ic.2⟩ hl0 hx λh' hit' hs=>hit'.elim λo' p=>g h' o' p.1 ⟨ta,ht,p.2.1,p.2.2⟩ hs) (λQ hx g=>next_tuple_end Y.handled ⟨io,hI,ic.1,ic.2⟩ hl0 hx g)
 |sq x=>
  obtain ⟨ok,T,t,hT,ic⟩:=R;have er:=Qy.inj e;cases hc:x[i]? with
  |none=>
   rw [hc] at er;have hvs:(⟨x.toArray⟩:Str).cps[i]?=none:=(JU).trans hc;rcases hT with rfl|rfl
   ·exact wpAny_pyNext_ascii_end Y.handled ⟨io,hI,ic.1,ic.2⟩ hvs λh' he=>G.fin h' er.symm (S.endEx he)
   ·exact wpAny_pyNext_wide_end Y.handled ⟨io,hI,ic.1,ic.2⟩ hvs λh' he=>G.fin h' er.symm (S.endEx he)
  |some c=>
   rw [hc] at er;have hvs:(⟨x.toArray⟩:Str).cps[i]?=some c:=(JU).trans hc;have hck: ∀u:Tok,aF C w (.str [c]) (.str ⟨#[c]⟩ u):=λu=>⟨u,rfl,λy hy=>Qw.mp hy▸ok.1 c (Qe hc),(by decide:1<=lim)⟩;rcases hT with rfl|rfl
   ·exact wpAny_pyNext_ascii_item ⟨io,hI,ic.1,ic.2⟩ hvs λh' hit' hs=>hit'.elim λo' p=>G.go (.str [c]) _ o' h' _ er.symm (S.setEx hs p.1) ⟨ok,_,t,.inl rfl,p.2.1,p.2.2⟩ (hck _)
   ·exact wpAny_pyNext_wide_item ⟨io,hI,ic.1,ic.2⟩ hvs λh' hit' hs=>hit'.elim λo' p=>G.go (.str [c]) _ o' h' _ er.symm (S.setEx hs p.1) ⟨ok,_,t,.inr rfl,p.2.1,p.2.2⟩ (hck _)
 |dk a n ep=>exact nos e
 |rg n=>
  obtain ⟨left,hl,hl2,rfl⟩:=R;have er:=Qy.inj e;cases hin:decide ((i:Int)<n) with
  |true=>
   rw [hin] at er;refine wpAny_pyNext_range_item hI (hl.mpr (of_decide_eq_true hin)) λh' hit' hs=>G.go (.int i) _ _ h' _ er.symm (S.setEx hs hit') ?_ ⟨_,rfl⟩
   have:=hl2 (hl.mpr (of_decide_eq_true hin))
   exact ⟨left-1,by lia,λ_=>by lia,rfl⟩
  |false=>
   rw [hin] at er;exact wpAny_pyNext_range_end Y.handled hI (KU.mp λq=>absurd (hl.mp q) (of_decide_eq_false hin)) λh' he=>G.fin h' er.symm (S.endEx he)
end
end Internal
namespace Internal
open PySem PySem.W PySem.Calls PyProof.Rows
structure Sy (e:Expr):Prop where
 star: ∀rest env,starEach (e::rest) env=(false,PySem.eval e env)::starEach rest env
 sub: ∀o i,subscripted e false o i=operate [o,i] (getItem o i)
 marks: ∀op,behindInMarks op e=false
 fold: ∀env x,foldedSetIterable e env x=pure x
 swap:d6 e=false-> ∀t n env,swapsWith e t n env=pure false
structure Sd (C:Cfg) (d:Nat) (cx:CC) (e:Expr) (ir:Ex):Prop where
 es:cH C d cx e ir
 ts:jY C d cx e ir
 sy:Sy e
abbrev Sds (C:Cfg) (d:Nat) (cx:CC):List Expr->List Ex->Prop:=bZ (Sd C d cx)
def zh5 (C:Cfg) (d:Nat) (cx:CC) (es:List Expr) (irs:List Ex):Prop:=
 ∀ (Y:aQ C d 2) (env:Env) (k:Kp) (mE:Str->Option Value) (fr:Frame) (w:Wd) (H:MH) (s:Shared) (pos:Pos),Pl Y cx env k mE fr w H s->Ref Y k (VRS C) (spliced (backTo pos (starEach es env))) w s (eG (C.cx d) irs fr H)
section
variable {C:Cfg}{d e:Nat}{Y:aQ C d e}{k:Kp}{w:Wd}{H:MH}{s:Shared}{cx:CC}{env:Env}{mE:Str->Option Value}{fr:Frame}
theorem sG {e:Expr}{ir:Ex} (h:cH C d cx e ir) (he: ∀ (env:Env) (whole:Sem Value),PySem.isTrue e env whole=(do let v<-whole;standAt e.pos;holding [v] (PySem.truthy v))):jY C d cx e ir:=
 λY env k mE fr w H s p r=>aD λx H1 e1=>bF λb e2 e=>e▸λQ E hq=>isTrue_plain (h Y env k mE fr w H s p _ e1 _ _ λw1 a1 s1 n1 r1=>gZ n1.st r1 e2 λtk=>hq w1 b _ (n1.trans (.toks n1.st tk)) rfl) (he _ _)
theorem bX {pos:Pos}{es:List Expr}{irs:List Ex} (h:Sds C d cx es irs):(backTo pos (starEach es env)).any (·.1)=false:=by
 induction h with
 |nil=>rfl
 |cons h _ ih=>rw [h.sy.star];exact ih
theorem fD {c:Cx}{irs:List Ex}: ∀ {H:MH}{r:List Val×MH},eG c irs fr H=some r->r.1.length=irs.length:=by
 induction irs with
 |nil=>intro H r h;cases h;rfl
 |cons e irs ih=>exact λ{H r} =>aD λv h1 e1=>aD λvs h2 e2 e=>Qy.inj e▸congrArg (· +1) (ih e2)
theorem fQ {es:List Expr}{irs:List Ex} (h:Sds C d cx es irs):zh5 C d cx es irs:=by
 induction h with
 |nil=>intro Y env k mE fr w H s pos p r e;cases e;exact λQ E hq=>args_nil (hq w [] s (.refl p.st) .nil)
 |cons h _ ih=>
  intro Y env k mE fr w H s pos p r;refine aD λv H1 e1=>aD λvs H2 e2 e=>?_;cases e;exact λQ E hq=>args_cons (h.es Y env k mE fr w H s p _ e1 _ _ λw1 a1 s1 n1 r1=>ih Y env k mE fr w1 H1 s1 pos (p.next n1) _ e2 _ _ λw2 a2 s2 n2 r2=>hq w2 _ s2 (n1.trans n2) (.cons (r1.mono n2.le) r2)) (h.sy.star _ _)
theorem Nxt.newTup {mvs : List Val} {vs : List Value} (S : St Y k w H s) (r : aC C w mvs vs) (hl : mvs.length <= lim) : ∃ w',Nxt Y k w w' H s { s with heap := s.heap.push { cls := .type "tuple",data := .seq vs.toArray } } /\ aF C w' (.tup mvs) (.ref s.heap.objs.size) := by
 obtain ⟨all,hn,_,tp,_⟩:=S.ledger;have le : w.le ⟨w.σ,(s.heap.objs.size,({ cls := .type "tuple",data := .seq vs.toArray } : Obj)) :: w.tp⟩ := ⟨Kq _,λ_ x => .tail _ x⟩;exact ⟨_,⟨le,tp _ _ _ (S.fr.push _) (hn.push S.fr _) (Qi _),rfl,rfl⟩,_,_,0,vs,rfl,⟨.inl (.head _),rfl,rfl⟩,r.mono le,hl⟩
theorem wL {es:List Expr}{irs:List Ex}{n:Nat}{pos:Pos} (h:Sds C d cx es irs) (hi:Jr es.length 1000=true):cH C d cx (.Tuple es n pos) (.tup irs):=by
 intro Y env k mE fr w H s p r;refine aD λvs H1 e1 e=>?_;cases e;have hl:vs.length<=lim:=by rw [fD e1,h.length];exact Qa (QV.mp hi) (by decide)
 refine λQ E hq=>wpAny_Tuple (fQ h Y env k mE fr w H s pos p _ e1 _ _ λw1 a1 s1 n1 r1=>⟨by rw [<-r1.length];exact Qa hl lim_line,?_⟩);refine (Nxt.newTup n1.st r1 hl).elim λw2 zq26=>?_;exact hq w2 _ _ (n1.trans zq26.1) zq26.2
theorem zR {es:List Expr}{irs:List Ex}{pos:Pos} (h:Sds C d cx es irs) (hi:Jr es.length 1000=true):cH C d cx (.List es pos) (.list irs):=by
 intro Y env k mE fr w H s p r;refine aD λvs H1 e1 e=>?_;have hl:vs.length<=lim:=by rw [fD e1,h.length];exact Qa (QV.mp hi) (by decide)
 refine λQ E hq=>wpAny_List (fQ h Y env k mE fr w H s pos p _ e1 _ _ λw1 a1 s1 n1 r1=>⟨by rw [<-r1.length];exact Qa hl lim_line,?_⟩);cases e;obtain ⟨all,hn,add,_,_⟩:=n1.st.ledger;exact hq _ _ _ (n1.trans ⟨(⟨Jb _ _,λ_ x=>x⟩:w1.le ⟨w1.σ++ [s1.heap.objs.size],w1.tp⟩),add _ (.list vs) [_] _ ⟨a1,0,rfl,r1.mono (⟨Jb _ _,λ_ x=>x⟩:w1.le ⟨w1.σ++ [s1.heap.objs.size],w1.tp⟩),hl⟩ (n1.st.fr.push _) (hn.push n1.st.fr _) (eY _) (News.fresh hn λp hp=>Qw.mp hp▸Qi _) (n1.st.four (Qi _)),rfl,rfl⟩) ⟨_,rfl,by rw [<-n1.st.len];exact Jh⟩
theorem vE {n:Nat}{i:Val}{j:Nat}{v:Value} (hv:aF C w i v) (h:idx n i=some j): ∃z t,v= .int z t/\0<=z/\z<n/\j=z.toNat:=by
 obtain ⟨z,e1,h⟩:=bs h;obtain ⟨hb,e⟩:=gs h;refine (hv.int? e1).elim λt zq23=>?_;exact ⟨z,t,zq23,of_decide_eq_true (Qb.mp hb).1,of_decide_eq_true (Qb.mp hb).2,(Qy.inj e).symm⟩
theorem z3 {z:Int}{n:Nat} (h0:0<=z) (h1:z<n):seqIndex? z n=some z.toNat:=by
 unfold seqIndex?;simp only [if_neg (KU.mpr h0)];rw [if_pos (Qb.mpr ⟨decide_eq_true h0,decide_eq_true h1⟩)]
theorem bool_index : typeLookup (.type "bool") "__index__" = pure (some (.builtin "int.__index__")) := by rw [typeLookup_type,builtinLookup_eq_fast]; kernel_rfl
theorem yJ (b:Bool):asIndex (.bool b)=pure (cond b 1 0:Int):=by cases b<;>rfl
theorem mR {prog:Program}{w:World}{A:Around}{E:Value->Shared->Prop}{s:Shared}{l:Addr}{items:Array Value}{b:Bool}{x:Value}{Q:Value->Shared->Prop} (hl:s.heap.IsList l items)
  (hx:items[(cond b 1 0:Nat)]?=some x) (h:Q x s):wpAny (model prog w) A (PySem.getItem (.ref l) (.bool b)) Q E s:=by
 refine Jd (id hl) λo zq21=>zq21.2.2.elim λne zq22=>?_;unfold PySem.getItem
 try with_reducible refine wpAny_holding ?_
 first|refine wpAny_bind (wpAny_pure ?_)|skip
 refine wpAny_bind (wpAny_sequenceKey hl.typeIs (by decide) ?_);refine wpAny_bind (wpAny_callSpecial?_slot (name:=Str.ofString "__getitem__") hl.typeIs slot_list_getitem
  (wpAny_call_entry slot_list_getitem hl.typeIs entry_list_getitem ?_ (args_list_getitem _ _)))
 show wpAny _ _ (ZR (.bool b)>>=_) _ _ s;refine wpAny_bind ?_;unfold ZR;refine wpAny_bind (wpAny_specialOf (T:="bool") (PySem.typeIs_bool s b) bool_index ?_);show wpAny _ _ (asIndex (.bool b)>>=_) _ _ s;refine wpAny_bind (wpAny_of_eq (yJ b) ?_);cases b with
 |false=>
  have hx:items[0]?=some x:=hx;refine wpAny_pure ?_;show wpAny _ _ ((seqItemAt l 0>>=λr=>pure (r.map (0,·)))>>=_) _ _ s;refine wpAny_bind (wpAny_bind (wpAny_seqItemAt zq21.1 zq22 (wpAny_pure ?_)));rw [hx]
  first
   |exact wpAny_bind (wpAny_pure (wpAny_pure ⟨x,rfl,wpAny_pure h⟩))
   |exact wpAny_pure ⟨x,rfl,wpAny_pure h⟩
 |true=>
  have hx:items[1]?=some x:=hx;refine wpAny_pure ?_;show wpAny _ _ ((seqItemAt l 1>>=λr=>pure (r.map (1,·)))>>=_) _ _ s;refine wpAny_bind (wpAny_bind (wpAny_seqItemAt zq21.1 zq22 (wpAny_pure ?_)));rw [hx]
  first
   |exact wpAny_bind (wpAny_pure (wpAny_pure ⟨x,rfl,wpAny_pure h⟩))
   |exact wpAny_pure ⟨x,rfl,wpAny_pure h⟩
theorem zP {value sl:Expr} (hsl:Sy sl) (S:St Y k w H s) {x y:Val}{vx vy:Value} (hx:aF C w x vx) (hy:aF C w y vy):Ref Y k (VR C) (subscriptTail value sl vx vy) w s ((bJ H x y).map λv=>(v,H)):=by
 refine .omap λv e=> .val S λQ E h=>?_;have lst: ∀ {b:Addr}{mvs:List Val}{ws:List Value},s.heap.IsList b ws.toArray->aC C w mvs ws->mvs.length<=lim->vx= .ref b->(idx mvs.length y).bind (λj=>mvs[j]?)=some v->wpAny C.M Y.A (subscriptTail value sl vx vy) Q E s:=by
  intro b mvs ws hL rr hl e1 e;obtain ⟨j,hj,e⟩:=bs e;obtain ⟨z,t,rfl,h0,h1,rfl⟩:=vE hy hj;refine (rr.get e).elim λrv zq17=>?_;have hl':=fH hl;subst e1;exact tail_any hL.typeIs slot_list_getitem.lookup (wpAny_getItem_list hL h0 (Xn h1 hl') (by rw [JU];exact zq17.1) (h rv s.toks zq17.2)) (hsl.sub _ _)
 revert e
 refine bM (aN λvs e1=>aN λj hj e=>?_) (bM (aN λvs e1 e=>?_) (bM (aN λvs e1 e=>?_) (bM (aN λstr e1=>aN λj hj=>bF λc hc e=>?_) (bM (aN λp e1=>cF λhf e=>?_) (aN λvs e1=>aN λbb e2 e=>?_)))))
 ·cases tup?_s e1
  obtain ⟨z,t,rfl,h0,h1,rfl⟩:=vE hy hj;obtain ⟨b,o,n,ws,rfl,ho,hc,hd,rr,hl⟩:=S.tup hx;refine (rr.get e).elim λrv zq13=>?_;exact item_tupleT (l:=ws) ⟨o,ho,hc,n,hd⟩ (by lia) (Xn h1 (fH hl)) (z3 h0 (by rw [<-rr.length];exact h1)) zq13.1 (h rv s.toks zq13.2) (hsl.sub _ _)
 ·cases fl?_s e1
  obtain ⟨b,o,n,ws,e2,q,rr,hl⟩:=hx;exact lst ⟨o,S.kIn _ _ q.1,q.2,n,q.3⟩ rr hl e2 e
 ·obtain ⟨b,ws,n,e2,ho,rr,hl⟩:=S.list hx e1
  exact lst ⟨_,ho,rfl,n,rfl⟩ rr hl e2 e
 ·obtain ⟨u,rfl,ok⟩:=hx.str? e1
  obtain ⟨z,t,rfl,h0,h1,rfl⟩:=vE hy hj;have hl':=fH ok.2;subst e;refine tail_any (typeIs_str s ⟨str.toArray⟩ u) F.slot_str_getitem.lookup (P.getItem_str (c:=c) ?_ ?_ (h _ _ ⟨s.toks,rfl,λy hy=>Qw.mp hy▸ok.1 c (Qe hc),(by decide:1<=lim)⟩)) (hsl.sub _ _)
  ·rw [decide_eq_false (by lia),decide_eq_false (by lia)];rfl
  ·rw [show seqIndex? z (⟨str.toArray⟩:Str).length=some z.toNat from z3 h0 h1]
   exact (JU).trans hc
 ·refine (S.dict hx e1).elim λi zq8=>?_
  obtain ⟨b,n,es,rfl,_,_,hg,hdr,_,_⟩:=zq8.2;rcases gL (Qb.mp hf).1 with ⟨q,rfl⟩| ⟨q,rfl⟩
  ·refine (hdr.atom hf).elim λkvs zq7=>?_
   have D:=zq7;have hD:=D.dictOf hg;rcases D.get q with ⟨q1,_⟩| ⟨mv,rv,q1,q2,q3⟩
   ·exact nos (q1.symm.trans e)
   ·cases q1.symm.trans e
    exact tail_any hD.typeIs slot_dict_getitem.lookup (wpAny_getItem_of hy.atom.1 hD.mapOf q2 (h rv _ q3)) (hsl.sub _ _)
  ·obtain ⟨xs,D⟩:=hdr.tups hf
   obtain ⟨t,rfl,ht⟩:=S.tupKey hy;rcases D.get q with ⟨q1,_⟩| ⟨mv,rv,q1,q2,q3⟩
   ·exact nos (q1.symm.trans e)
   ·cases q1.symm.trans e
    obtain ⟨pp,q4,rfl⟩:=ms q2;exact tail_any (D.dictOf S hg).typeIs slot_dict_getitem.lookup (wpAny_getItem_heap Y.room ht (D.dictOf S hg) q4 (h pp.2 _ q3)) (hsl.sub _ _)
 ·cases bool?_s e2
  cases (show vy= .bool bb from hy);obtain ⟨b,ws,n,e3,ho,rr,hl⟩:=(S.list hx e1);subst e3;refine (rr.get e).elim λrv zq2=>?_;have hL:s.heap.IsList b ws.toArray:=⟨_,ho,rfl,n,rfl⟩;exact tail_any hL.typeIs slot_list_getitem.lookup (mR hL (by rw [JU];exact zq2.1) (h rv s.toks zq2.2)) (hsl.sub _ _)
theorem zcG {v sl:Expr}{ie ii:Ex}{pos:Pos} (hv:cH C d cx v ie) (hi:Sd C d cx sl ii):cH C d cx (.Subscript v sl pos) (.sub ie ii):=
 λY env k mE fr w H s p r=>aD λx H1 e1=>aD λy H2 e2 e Q E hq=>Subscript_ (hv Y env k mE fr w H s p _ e1 _ _ λw1 a1 s1 n1 r1=>hi.es Y env k mE fr w1 H1 s1 (p.next n1) _ e2 _ _ λw2 a2 s2 n2 r2=>
  zP hi.sy n2.st (r1.mono n2.le) r2 r e _ _ λw3 a3 s3 n3 r3=>hq w3 a3 s3 ((n1.trans n2).trans n3) r3)
theorem qM (K:iW C) {l r:Expr}{op:CmpOp}{il ir:Ex}{pos:Pos} (hl:cH C d cx l il) (hr:Sd C d cx r ir):cH C d cx (.Compare l [op] [r] pos) (.cmp (copOf op) il ir):=
 λY env k mE fr w H s p r=>aD λx H1 e1=>aD λy H2 e2 e Q E hq=>wpAny_Compare1 (hl Y env k mE fr w H s p _ e1 _ _ λw1 a1 s1 n1 r1=>hr.es Y env k mE fr w1 H1 s1 (p.next n1) _ e2 _ _ λw2 a2 s2 n2 r2=>
  uR K n2.st (r1.mono n2.le) r2 r e _ _ λw3 a3 s3 n3 r3=>hq w3 a3 s3 ((n1.trans n2).trans n3) r3) (hr.sy.marks _)
theorem oA (K:iW C) {l r:Expr}{op:CmpOp}{il ir:Ex}{pos:Pos} (hl:cH C d cx l il) (hr:Sd C d cx r ir):jY C d cx (.Compare l [op] [r] pos) (.cmp (copOf op) il ir):=by
 intro Y env k mE fr w H s p r;refine aD λv H' e0=>bF λb et e=>?_
 revert e0
 refine aD λx H1 e1=>aD λy H2 e2=>bF λc e3 e4=>?_;cases e4;cases et;subst e;exact λQ E hq=>wpAny_isTrue_Compare1 (hl Y env k mE fr w H s p _ e1 _ _ λw1 a1 s1 n1 r1=>hr.es Y env k mE fr w1 H1 s1 (p.next n1) _ e2 _ _ λw2 a2 s2 n2 r2=>
  uR K n2.st (r1.mono n2.le) r2 (.bool b,H') (by rw [e3];rfl) _ _ λw3 a3 s3 n3 r3=>by rw [show a3= .bool b from r3];exact wpAny_truthy_bool (hq w3 b s3 ((n1.trans n2).trans n3) rfl)) (hr.sy.marks _)
theorem zcH {x:Expr}{ix:Ex}{pos:Pos} (hx:cH C d cx x ix):cH C d cx (.UnaryOp .Not x pos) (.not ix):=by
 intro Y env k mE fr w H s p r;refine aD λb H1 e0 e=>?_
 revert e0
 refine aD λx' H1' e1=>bF λb' e2 e3=>?_;cases e3;cases e;exact λQ E hq=>wpAny_bind (hx Y env k mE fr w H s p _ e1 _ _ λw1 a1 s1 n1 r1=>wpAny_bind (wpAny_standAt (wpAny_holding (not_value (gZ n1.st r1 e2 λtk=>hq w1 _ _ (n1.trans (.toks n1.st tk)) rfl)))))
theorem y7 {x:Expr}{ix:Ex}{pos:Pos} (hx:jY C d cx x ix):jY C d cx (.UnaryOp .Not x pos) (.not ix):=by
 intro Y env k mE fr w H s p r;refine aD λv H' e0=>bF λb et e=>?_
 revert e0
 refine aD λb' H1 e1 e2=>?_;cases e2;cases et;subst e;exact λQ E hq=>isTrue_not (hx Y env k mE fr w H s p _ e1 _ _ λw1 a1 s1 n1 r1=>by rw [show a1=b' from r1];exact hq w1 _ s1 n1 rfl)
theorem zcM {t x y:Expr}{it ix iy:Ex}{pos:Pos} (ht:jY C d cx t it) (hx:cH C d cx x ix) (hy:cH C d cx y iy):cH C d cx (.IfExp t x y pos) (.ite it ix iy):=by
 intro Y env k mE fr w H s p r;refine aD λb H1 e1 e=>?_;refine λQ E hq=>wpAny_bind (ht Y env k mE fr w H s p _ e1 _ _ λw1 a1 s1 n1 r1=>?_);rw [show a1=b from r1];cases b with
 |true=>exact hx Y env k mE fr w1 H1 s1 (p.next n1) _ e _ _ λw2 a2 s2 n2 r2=>hq w2 a2 s2 (n1.trans n2) r2
 |false=>exact hy Y env k mE fr w1 H1 s1 (p.next n1) _ e _ _ λw2 a2 s2 n2 r2=>hq w2 a2 s2 (n1.trans n2) r2
theorem y8 {t x y:Expr}{it ix iy:Ex}{pos:Pos} (ht:jY C d cx t it) (hx:jY C d cx x ix) (hy:jY C d cx y iy):jY C d cx (.IfExp t x y pos) (.ite it ix iy):=by
 intro Y env k mE fr w H s p r;refine aD λv H' e0 e=>?_
 revert e0
 refine aD λb H1 e1 e0=>?_;refine λQ E hq=>isTrue_IfExp (ht Y env k mE fr w H s p _ e1 _ _ λw1 a1 s1 n1 r1=>?_);rw [show a1=b from r1];cases b with
 |true=>exact hx Y env k mE fr w1 H1 s1 (p.next n1) r (by show bO (eval _ _ _ _)=_;rw [show eval (C.cx d) ix fr H1=some (v,H') from e0];exact e) _ _ λw2 a2 s2 n2 r2=>hq w2 a2 s2 (n1.trans n2) r2
 |false=>exact hy Y env k mE fr w1 H1 s1 (p.next n1) r (by show bO (eval _ _ _ _)=_;rw [show eval (C.cx d) iy fr H1=some (v,H') from e0];exact e) _ _ λw2 a2 s2 n2 r2=>hq w2 a2 s2 (n1.trans n2) r2
theorem zcP {op:BoolOp}{pos:Pos}{es:List Expr}{irs:List Ex} (h:Sds C d cx es irs): ∀ (Y:aQ C d 2) (env:Env) (k:Kp) (mE:Str->Option Value) (fr:Frame) (w:Wd) (H:MH) (s:Shared),Pl Y cx env k mE fr w H s->Ref Y k (VR C) (boolOp pos op (evalEach es env)) w s (jR (C.cx d) (op== .Or) irs fr H):=by
 induction h with
 |nil=>exact λY env k mE fr w H s p=> .none
 | @cons ex i es irs he hs ih=>
  intro Y env k mE fr w H s p r;refine aD λv H1 e1 e=>?_;cases hs with
  |nil=>cases e;exact he.es Y env k mE fr w H s p _ e1
  | @cons e' i' es' irs' he' hs'=>
   revert e
   refine aN λb e2 e=>?_;intro Q E hq;show wpAny C.M Y.A (do
    let v<-PySem.eval ex env
    standAt pos
    let t<-holding [v] (PySem.truthy v)
    match op,t with
    | .And,false| .Or,true=>pure v
    |_,_=>boolOp pos op (evalEach (e'::es') env)) Q E s
   refine wpAny_bind (he.es Y env k mE fr w H s p _ e1 _ _ λw1 a1 s1 n1 r1=>wpAny_bind (wpAny_standAt (wpAny_bind (wpAny_holding (gZ n1.st r1 e2 λtk=>?_)))));have n2:=n1.trans (.toks n1.st tk);have stop:some (v,H1)=some r->wpAny C.M Y.A (pure a1) Q E {s1 with toks:=tk}:=λe=>by cases e;exact wpAny_pure (hq w1 a1 _ n2 r1)
   have go:jR (C.cx d) (op== .Or) (i'::irs') fr H1=some r->wpAny C.M Y.A (boolOp pos op (evalEach (e'::es') env)) Q E {s1 with toks:=tk}:=λe=>ih Y env k mE fr w1 H1 _ (p.next n2) r e Q E λw2 a2 s2 n3 r2=>hq w2 a2 s2 (n2.trans n3) r2;cases op<;>cases b
   ·exact stop e
   ·exact go e
   ·exact go e
   ·exact stop e
theorem y9 {op:BoolOp}{es:List Expr}{irs:List Ex} (h:Sds C d cx es irs): ∀ (Y:aQ C d 2) (env:Env) (k:Kp) (mE:Str->Option Value) (fr:Frame) (w:Wd) (H:MH) (s:Shared),Pl Y cx env k mE fr w H s->Ref Y k EqR (allTrue op es env) w s (bO (jR (C.cx d) (op== .Or) irs fr H)):=by
 induction h with
 |nil=>exact λY env k mE fr w H s p=> .none
 | @cons ex i es irs he hs ih=>
  intro Y env k mE fr w H s p r;refine aD λv H' e0=>bF λb et e=>?_
  revert e0
  refine aD λv1 H1 e1 e2=>?_
  --the first test
  have first: ∀c,truthy H1 v1=some c-> ∀ {Q:Bool->Shared->Prop}{E:Value->Shared->Prop},(∀w1 s1,Nxt Y k w w1 H1 s s1->Q c s1) ->wpAny C.M Y.A (PySem.isTrue ex env (PySem.eval ex env)) Q E s:=λc hc Q E hq=>
   he.ts Y env k mE fr w H s p (c,H1) (by show bnd (eval _ _ _ _) _=_;rw [show eval (C.cx d) i fr H=some (v1,H1) from e1];show XT _ (truthy H1 v1)=_;rw [hc];rfl) Q E λw1 a1 s1 n1 r1=>by rw [show a1=c from r1];exact hq w1 s1 n1
  subst e;intro Q E hq;cases hs with
  |nil=>
   cases e2;cases op with
   |And=>
    refine wpAny_allTrue_And_cons (first b et λw1 s1 n1=>?_);cases b with
    |true=>exact wpAny_allTrue_And_nil (hq w1 _ s1 n1 rfl)
    |false=>exact hq w1 _ s1 n1 rfl
   |Or=>
    refine wpAny_allTrue_Or_cons (first b et λw1 s1 n1=>?_);cases b with
    |true=>exact hq w1 _ s1 n1 rfl
    |false=>exact wpAny_allTrue_Or_nil (hq w1 _ s1 n1 rfl)
  | @cons e' i' es' irs' he' hs'=>
   refine (bs e2).elim λc zq1=>?_;have stop:some (v1,H1)=some (v,H') ->c=b/\H1=H':=λq=>by
    cases q;exact ⟨Qy.inj (zq1.1.symm.trans et),rfl⟩
   have go: ∀w1 s1,Nxt Y k w w1 H1 s s1->jR (C.cx d) (op== .Or) (i'::irs') fr H1=some (v,H') ->wpAny C.M Y.A (allTrue op (e'::es') env) Q E s1:=λw1 s1 n1 q=>
    ih Y env k mE fr w1 H1 s1 (p.next n1) (b,H') (by show bnd (jR _ _ _ _ _) _=_;rw [q];show XT _ (truthy H' v)=_;rw [et];rfl) Q E λw2 a2 s2 n2 r2=>hq w2 a2 s2 (n1.trans n2) r2
   cases op with
   |And=>
    refine wpAny_allTrue_And_cons (first c zq1.1 λw1 s1 n1=>?_);cases c with
    |true=>exact go w1 s1 n1 zq1.2
    |false=>obtain ⟨rfl,rfl⟩:=stop zq1.2;exact hq w1 _ s1 n1 rfl
   |Or=>
    refine wpAny_allTrue_Or_cons (first c zq1.1 λw1 s1 n1=>?_);cases c with
    |true=>obtain ⟨rfl,rfl⟩:=stop zq1.2;exact hq w1 _ s1 n1 rfl
    |false=>exact go w1 s1 n1 zq1.2
end
end Internal
namespace Internal
open PySem PySem.W PySem.Calls PyProof.Rows
section
variable {C:Cfg}{d e:Nat}{Y:aQ C d e}{k:Kp}{w:Wd}{H:MH}{s:Shared}{cx:CC}{env:Env}{mE:Str->Option Value}{fr:Frame}
structure zgu (C:Cfg) (w:Wd) {α:Type} (mk:α->Val) (mes:List (Val×Val)) (kvs:List (α×Value)):Prop where
 e:mes.map (·.1)=kvs.map (λp=>mk p.1)
 r:aC C w (mes.map (·.2)) (kvs.map (·.2))
theorem nB {α:Type} [DecidableEq α] {mk:α->Val} (hmk: ∀a b,kEq (mk a) (mk b)=decide (a=b)) (k:α) {mv:Val}{rv:Value} (hv:aF C w mv rv) {mes:List (Val×Val)}{kvs:List (α×Value)} (P:zgu C w mk mes kvs) (hany:(aZ mes (mk k)).isSome=kvs.any (λkv=>kv.1=k)):
  zgu C w mk (dS mes (mk k) mv) (stored kvs k rv):=by
 unfold dS stored;rw [hany];cases hc:kvs.any (λkv=>decide (kv.1=k)) with
 |false=>
  refine ⟨?_,?_⟩
  ·show (mes++ [_]).map _=(kvs++ [_]).map _
   rw [QL,QL,P.e];rfl
  ·show aC C w ((mes++ [_]).map _) ((kvs++ [_]).map _)
   rw [QL,QL];exact aC.append (.one hv) P.r
 |true=>
  obtain ⟨e,r⟩:=P
  clear hc hany
  show zgu C w mk (mes.map _) (kvs.map _)
  induction kvs generalizing mes with
  |nil=>rw [KL.mp e];exact ⟨rfl,.nil⟩
  |cons y kvs ih=>
   cases mes with
   |nil=>cases e
   |cons x mes=>
    obtain ⟨e1,e2⟩:=ZY.inj e;obtain ⟨v,t,ev,h,r⟩:=r;obtain ⟨rfl,rfl⟩:=ZY.inj ev;have zq32:=ih e2 r;have e1:x.1=mk y.1:=e1;have hk:kEq x.1 (mk k)=decide (y.1=k):=by rw [e1,hmk]
    by_cases q:y.1=k
    ·rw [decide_eq_true q] at hk
     refine ⟨?_,?_⟩
     ·show (bif kEq x.1 (mk k) then _ else _:Val×Val).1::_=_
      rw [zq32.e,hk,QC,QC,if_pos q];exact congrArg (· ::_) e1
     ·show aC C w ((bif kEq x.1 (mk k) then _ else _:Val×Val).2::_) _
      rw [hk,QC,QC,if_pos q];exact .cons hv zq32.r
    ·rw [decide_eq_false q] at hk
     refine ⟨?_,?_⟩
     ·show (bif kEq x.1 (mk k) then _ else _:Val×Val).1::_=_
      rw [zq32.e,hk,QC,QC,if_neg q];exact congrArg (· ::_) e1
     ·show aC C w ((bif kEq x.1 (mk k) then _ else _:Val×Val).2::_) _
      rw [hk,QC,QC,if_neg q];exact .cons h zq32.r
theorem rL (mes:List (Val×Val)) (k v:Val):(dS mes k v).length=(bif (aZ mes k).isSome then mes.length else mes.length+1):=by
 unfold dS;cases (aZ mes k).isSome with
 |true=>exact Qh ..
 |false=>exact Qv
theorem pF {mes:List (Val×Val)}{k v:Val}{n:Nat} (h:mes.length<n):(dS mes k v).length<=n:=by
 rw [rL];cases (aZ mes k).isSome with
 |true=>exact QJ h
 |false=>exact h
theorem jT {α:Type} [DecidableEq α] (kvs:List (α×Value)) (k:α):(valueAt kvs k).isSome=kvs.any (λkv=>kv.1=k):=by
 unfold valueAt;rw [Kf,Zu,List.find?_isSome,ZA]
theorem yY {A:Around} (S:St Y k w H s) (hu:A.units+1<cLine) {D:Addr}{mes:List (Val×Val)}{es:List DictEntry}{n:Nat} (hob:s.heap.get? D=some (dictOf es n)) (j:fO C w mes es) {x v:Val}{kv vv:Value} (hf:aM mes x=true) (hlen:mes.length<lim) (hk:aF C w x kv) (hv:aF C w v vv)
  {Q:Unit->Shared->Prop}{E:Value->Shared->Prop}
  (h: ∀es' h' tk,Heap.SameBut D s.heap h'->h'.get? D=some (dictOf es' (bif (aZ mes x).isSome then n else n+1)) ->fO C w (dS mes x v) es'->Q () {s with heap:=h',toks:=tk}):wpAny C.M A (dictSet D kv vv) Q E s:=by
 have ci: ∀ {b:Bool}{x y:Nat},(if b=true then x else y)=(bif b then x else y):=λ{b x y} =>by cases b<;>rfl
 rcases gL (Qb.mp hf).1 with ⟨q,rfl⟩| ⟨q,rfl⟩
 ·obtain ⟨kvs,DD⟩:=j.atom hf
  obtain ⟨h1,h2⟩:=hk.atom;have hl:es.length<=sizeLine:=by rw [(fO.entries (.inl ⟨kvs,DD⟩)).1];exact Qa (QJ hlen) lim_line
  have hany:=(DD.get q).isSome.trans (jT kvs q);refine r5 (knd:=bQ C.prog C.w) h1 hob DD.k DD.p DD.n hl λes' f hfe q1 q2 q3=>?_;rw [<-hany,ci] at hfe;have P:=nB rE q hv ⟨DD.e,DD.r⟩ hany;refine h es' _ _ (Heap.SameBut.update ..) ?_ (.inl ⟨_,q2,q1,q3,P.e,λp hp=>?_,P.r⟩)
  ·rw [<-hfe]
   exact Kl _ hob (by rw [hfe];rfl)
  ·unfold stored at hp
   split at hp
   ·obtain ⟨q,hq,rfl⟩:=QI.mp hp
    split<;>exact DD.ok q hq
   ·rcases QX.mp hp with hp|hp
    ·exact DD.ok p hp
    ·rw [Qw.mp hp];exact h2
 ·obtain ⟨xs,DD⟩:=j.tups hf
  obtain ⟨t,rfl,ht⟩:=S.tupKey hk;have hl:xs.length<=sizeLine:=by rw [<-rB DD.e];exact Qa (QJ hlen) lim_line
  refine pU (knd:=tupleKind (bQ C.prog C.w)) (show A.units<cLine from Xo hu) ht (DD.es▸hob) (DD.keys S) DD.n hl λf hfe q3=>?_;have hany:=(DD.get q).isSome;rw [Kf] at hany;rw [<-hany,ci] at hfe;have P:=nB (mk:=λas:List Atom=>Val.tup (as.map Atom.val)) vB q hv ⟨DD.sides.1,DD.sides.2⟩ (by rw [<-jT,valueAt_kvsOf,Kf];exact hany);rw [<-kvsOf_storedH xs q t vv] at P;refine h _ _ _ (Heap.SameBut.update ..) ?_ (.inr ⟨_,rfl,q3,λx hx=>?_,?_,?_⟩)
  ·rw [<-hfe,<-DD.es]
   exact Kl _ hob (by rw [DD.es,hfe];rfl)
  ·rcases mem_storedH hx with ⟨y,hy,q1,q2⟩| ⟨q1,q2⟩
   ·rw [q1,q2];exact DD.v y hy
   ·rw [q1,q2];exact hk
  ·rw [P.e];simp [kvsOf]
  ·have:=P.r
   simpa [kvsOf,Function.comp_def] using this
theorem Pl.ext (p:Pl Y cx env k mE fr w H s) {q:Addr×Obj}{s':Shared} (S:St Y (k.ext q) w H s'):Pl Y cx env (k.ext q) mE fr w H s':=
 ⟨⟨p.b.kind,p.b.gl,p.b.bl,p.b.sc,p.b.cells,p.b.loc.imp id λ⟨o,h⟩=>⟨o,.tail _ h.1,h.2⟩⟩,p.f,S⟩
def flatP:List (Value×Value) ->List Value
 | []=> []
 |p::r=>p.1::p.2::flatP r
theorem xR (ws:List (Value×Value)):(flatP ws).length=2*ws.length:=by
 induction ws with
 |nil=>rfl
 |cons p ws ih=>rw [Jx,Zb];exact congrArg (· +2) ih
abbrev SdK (C:Cfg) (d:Nat) (cx:CC) (o:Option Expr) (i:Ex):Prop:= ∃e,o=some e/\Sd C d cx e i
theorem wR {pos:Pos}{ks:List (Option Expr)}{ia:List Ex} (hk:bZ (SdK C d cx) ks ia): ∀ {vs:List Expr}{ib:List Ex},Sds C d cx vs ib->ks.length=vs.length-> ∀ (Y:aQ C d 2) (env:Env) (k:Kp) (mE:Str->Option Value) (fr:Frame) (w:Wd) (H:MH) (s:Shared),Pl Y cx env k mE fr w H s->
  Ref Y k (λw l ws=>aC C w l (flatP ws)) (evalPairs (pairTrees ks vs env pos)) w s (eG (C.cx d) (zipKV ia ib) fr H):=by
 induction hk with
 |nil=>
  intro vs ib hv hl Y env k mE fr w H s p r e;cases hv with
  |nil=>cases e;exact λQ E hq=>evalPairs_nil (hq w [] s (.refl p.st) .nil)
  |cons _ _=>cases hl
 |cons hk _ ih=>
  intro vs ib hv hl Y env k mE fr w H s p r;cases hv with
  |nil=>cases hl
  | @cons v b vs ib hv hvs=>
   obtain ⟨ke,rfl,hk⟩:=hk;refine aD λx H1 e1=>aD λl H2 e0 e=>?_
   revert e0
   refine aD λy H3 e2=>aD λl' H4 e3 e4=>?_;cases e4;cases e;exact λQ E hq=>evalPairs_cons (hk.es Y env k mE fr w H s p _ e1 _ _ λw1 a1 s1 n1 r1=>wpAny_bind (hv.es Y env k mE fr w1 H1 s1 (p.next n1) _ e2 _ _ λw2 a2 s2 n2 r2=>wpAny_bind (wpAny_standAt (wpAny_pure
    (ih hvs (JY.inj hl) Y env k mE fr w2 H3 s2 ((p.next n1).next n2) _ e3 _ _ λw3 a3 s3 n3 r3=>hq w3 ((a1,a2)::a3) s3 ((n1.trans n2).trans n3) (.cons (r1.mono (n2.le.trans n3.le)) (.cons (r2.mono n3.le) r3)))))))
theorem zG {D:Addr}: ∀ {ws:List (Value×Value)}{l:List Val}{mes mes':List (Val×Val)}{es:List DictEntry}{s:Shared}{Q:PUnit->Shared->Prop}{E:Value->Shared->Prop},
  aC C w l (flatP ws) ->dpairs l mes=some mes'->mes.length+ws.length<=1000->St Y (k.ext (D,dictOf es mes.length)) w H s->fO C w mes es->
  (∀es' s',St Y (k.ext (D,dictOf es' mes'.length)) w H s'->fO C w mes' es'->eJ s s'->Q PUnit.unit s') ->wpAny C.M Y.A (storeAll D ws) Q E s:=by
 intro ws
 induction ws with
 |nil=>
  intro l mes mes' es s Q E r e _ S j hq;cases l with
  |nil=>cases e;exact wpAny_pure (hq es s S j (.refl s))
  |cons _ _=>obtain ⟨_,_,e,_,_⟩:=r;cases e
 |cons p ws ih=>
  intro l mes mes' es s Q E r e hl S j hq;cases l with
  |nil=>cases r
  |cons x l=>
   obtain ⟨kv,t,e1,hk,r⟩:=r;cases e1;cases l with
   |nil=>cases r
   |cons v l=>
    obtain ⟨vv,t,e1,hv,r⟩:=r;cases e1;obtain ⟨hf,e⟩:=gs e;unfold storeAll;rw [KD];refine wpAny_bind (wpAny_bind (yY S (Y.u (n:=1) (by decide)) S.exHead.1 j hf (Q9 (Qf (JZ (Jt _)) hl:mes.length<1000) (by decide)) hk hv λes' h' tk hs hg j'=>wpAny_pure ?_));rw [<-rL (v:=v)] at hg;refine ih (s:={s with heap:=h',toks:=tk}) r e ?_ (S.setEx hs hg) j' λes'' s'' S'' j'' sm=>hq es'' s'' S'' j'' ⟨sm.1,sm.2⟩;exact Qa (QW (pF (QF _)) _) (by rw [K9];exact hl)
theorem zb1 {ks:List (Option Expr)}{ia:List Ex} (hk:bZ (SdK C d cx) ks ia): ∀ {ib:List Ex},ib.length=ks.length->ks.all (·.isSome)=true/\(zipKV ia ib).length=2*ks.length:=by
 induction hk with
 |nil=>exact λ_=>⟨rfl,rfl⟩
 |cons h _ ih=>
  intro ib hl;cases ib with
  |nil=>cases hl
  |cons b ib=>
   refine Jd h λ_ zq25=>?_;obtain rfl:=zq25.1;exact ⟨(ih (JY.inj hl)).1,by rw [Jx,Zb,<-(ih (JY.inj hl)).2];rfl⟩
theorem zV {ks:List (Option Expr)}{vs:List Expr}{ia ib:List Ex}{pos:Pos} (hk:bZ (SdK C d cx) ks ia) (hv:Sds C d cx vs ib) (hl:ks.length=vs.length):cH C d cx (.Dict ks vs pos) (.dict (zipKV ia ib)):=by
 intro Y env k mE fr w H s p r;refine aD λl H1 e1=>aN λes e2=>cF λhlen e=>?_;cases e;have hlen:=QV.mp hlen;obtain ⟨hall,hz⟩:=zb1 hk (hv.length.trans hl.symm);intro Q E hq;have S0 := p.st.addEx { cls := .type "dict",data := .dict #[] } rfl;have fin: ∀ {w':Wd}{des:List DictEntry}{s':Shared},w.le w'->St Y (k.ext (s.heap.objs.size,dictOf des es.length)) w' H1 s'->fO C w' es des->es.length<=lim->eJ s s'->Q (.ref s.heap.objs.size) s':=λ{w' des s'} le S' j' hl sm=>
  hq _ _ s' ⟨le.trans (⟨Jb _ _,λ_ x=>x⟩:w'.le ⟨w'.σ++ [s.heap.objs.size],w'.tp⟩),S'.fromEx (p.st.four (Qi _)) ⟨des,_,rfl,λe he=>Qy.inj he,j'.mono (⟨Jb _ _,λ_ x=>x⟩:w'.le ⟨w'.σ++ [s.heap.objs.size],w'.tp⟩),hl⟩,sm⟩ ⟨_,rfl,by rw [<-S'.len];exact Jh⟩
 by_cases h0:ks= []
 ·subst h0
  cases hk;have hvs:vs= []:=Jp.mp hl.symm;subst hvs;cases hv;cases e1;cases e2;exact wpAny_Dict_empty (fin (s' := { s with heap := s.heap.push { cls := .type "dict",data := .dict #[] } }) (.refl w) S0 (.inl ⟨[],.nil⟩) (Qs _) ⟨rfl,rfl⟩)
 ·refine wpAny_Dict_any hall hl h0 (by lia) (wR hk hv hl Y env _ mE fr w H _ (p.ext S0) _ e1 _ _ λw1 ws s1 n1 r1=>?_)
  have hws:l.length=2*ws.length:=by rw [<-xR];exact r1.length
  have hel:l.length=(zipKV ia ib).length:=fD e1;have hsz: ∀ {l:List Val}{mes mes':List (Val×Val)},dpairs l mes=some mes'->mes'.length<=mes.length+l.length:=by
   intro l mes mes' e
   fun_induction dpairs l mes with
   |case1=>cases e;exact Qi _
   |case2=>cases e
   |case3 es k v r ih=>
    obtain ⟨_,e⟩:=gs e;refine Qa (ih e) (Qa (QW (pF (QF _)) _) ?_);simp only [Jx];lia
  have hes:=hsz e2;exact zG (mes:=[]) (es:=[]) r1 e2 (by rw [Yv];lia) n1.st (.inl ⟨[],.nil⟩) λdes s' S' j' sm=>fin n1.le S' j' (by rw [Yv] at hes;exact Qa hes (Qa (Qa (QA (JA _)) (Qa (QA hel) hlen):_<=30) (by decide))) (eJ.trans (b:=s1) ⟨n1.same.1,n1.same.2⟩ sm)
theorem vY (s:List Nat) {l u:Option Int} (hl: ∀i,l=some i->0<=i) (hu: ∀i,u=some i->0<=i):
  Txt.slice ⟨s.toArray⟩ l u=⟨(cut s (l.elim 0 (λi=>min i.toNat s.length)) (u.elim s.length (λi=>min i.toNat s.length))).toArray⟩:=by
 have hlen:(⟨s.toArray⟩:Str).length=s.length:=rfl
 generalize ha:l.elim 0 (λi=>min i.toNat s.length)=a
 generalize hb:u.elim s.length (λi=>min i.toNat s.length)=b
 have hbn:b<=s.length:=by
  cases u with
  |none=>exact QA hb.symm
  |some j=>exact hb▸Ye _ _
 have hidx:KQ l u 1 s.length=(Q3 (b-a)).map (a+ ·):=by
  rw [<-sliceRange_one];unfold KQ;simp only [show (1:Int)>0 by decide,if_true]
  congr 1
  ·cases l with
   |none=>exact congrArg Nat.cast ha
   |some i=>
    have:=hl i rfl
    simp only [Wm] at ha;show max 0 (min (if i<0 then i+(s.length:Int) else i) (s.length:Int))=(a:Int);rw [if_neg (by lia)];lia
  ·cases u with
   |none=>exact congrArg Nat.cast hb
   |some i=>
    have:=hu i rfl
    simp only [Wm] at hb;show max 0 (min (if i<0 then i+(s.length:Int) else i) (s.length:Int))=(b:Int);rw [if_neg (by lia)];lia
 unfold Txt.slice;rw [hlen,hidx];rw [(pick_run s.toArray a (b-a):(KW (λx=>a+x) (Q3 (b-a))).filterMap (λx=>(⟨s.toArray⟩:Str).cps[x]?)=(s.drop a).take (b-a)),(by unfold cut;rw [List.drop_take]:cut s a b=(s.drop a).take (b-a))];split
 ·rename_i h
  simp only [beq_self_eq_true,Wb,beq_iff_eq,Qh,Q6] at h;by_cases h0:s.length=0
  ·rw [Jp.mp h0];simp
  ·rw [show a=0 by lia,show b=s.length by exact Ka hbn (Qa (QA (KN h)) (Yn _ _))];simp
 ·rfl
structure BdO (C:Cfg) (v:Value) (l:Option Int):Prop where
 nn: ∀i,l=some i->0<=i
 p:(l=none/\v= .none)\/∃i t,l=some i/\v= .int i t
theorem BdO.none:BdO C .none none:=⟨λ_ q=>nos q,.inl ⟨rfl,rfl⟩⟩
theorem j9 {n c:Nat}{x:Val}{v:Value} (hv:aF C w x v) (h:dE n x=some c): ∃i,BdO C v (some i)/\c=min i.toNat n:=by
 obtain ⟨i,e1,h⟩:=bs h;obtain ⟨hb,e⟩:=gs h;obtain ⟨t,e2⟩:=hv.int? e1;exact ⟨i,⟨λj q=>Qy.inj q▸of_decide_eq_true hb,.inr ⟨i,t,rfl,e2⟩⟩,(Qy.inj e).symm⟩
theorem zdy {x:List Nat}{a b:Nat} (h:sOk x):sOk (cut x a b):=
 ⟨λc hc=>h.1 c (Zz (YE hc)),Qa (by unfold cut;rw [Zj,JD];exact Qa (Yn _ _) (Ye _ _)) h.2⟩
theorem zcO {value:Expr}{lo' hi':Option Expr}{sp:Pos} (hc:(d9 value).isSome=true) {s0:Shared} (S:St Y k w H s0) {o:Val}{ov vl vu:Value}{n':Nat}{bvs:List Val} (ho:aF C w o ov)
  (hb : ∀ n p,lT n n' bvs = some p -> ∃ l u,BdO C vl l /\ BdO C vu u /\ p = (l.elim 0 (λi => min i.toNat n),u.elim n (λi => min i.toNat n))) (hs : s = { s0 with heap := s0.heap.push { cls := .type "slice",data := .fields #[vl,vu,.none] } }) {r : Val × MH} (e : slice H o n' bvs = some r) {Q : Value -> Shared -> Prop} {E : Value -> Shared -> Prop}
  (hq: ∀w' a s',Nxt Y k w w' r.2 s0 s'->aF C w' r.1 a->Q a s'):wpAny C.M Y.A (subscriptTail value (.Slice lo' hi' none sp) ov (.ref s0.heap.objs.size)) Q E s:=by
 subst hs;have hgo: ∀o r,letTemporaryGo value o r=pure ():=by
  refine (Ji.mp hc).elim λp zq18=>?_;rw [eI zq18];exact λ_ _=>rfl
 revert e
 refine aN λx e1=>aN λp e2 e=>?_
 ·cases e
  obtain ⟨t,rfl,ok⟩:=ho.str? e1;obtain ⟨l,u,⟨p1,p2⟩,⟨p3,p4⟩,rfl⟩:=hb _ _ e2;obtain ⟨all,hn,_,_,g3⟩:=S.ledger;have hsz:(⟨x.toArray⟩:Str).length<=sizeLine:=Qa ok.2 lim_line;have fin: ∀ (h':Heap) (t':Tok) (tk:Nat),Fr Y.h₀ Y.L h' k.m->News Y.h₀ Y.L h' all->Q (.str (Txt.slice ⟨x.toArray⟩ l u) t') {s0 with heap:=h',toks:=tk}:=λh' t' tk F N=>by
   rw [vY x p1 p3];exact hq w _ _ ⟨.refl w,g3 h' F N,rfl,rfl⟩ ⟨t',rfl,zdy ok⟩
  rcases p2 with ⟨rfl,rfl⟩| ⟨i,ti,rfl,rfl⟩
  ·rcases p4 with ⟨rfl,rfl⟩| ⟨j,tj,rfl,rfl⟩
   ·exact slice_strN_nn S.fr hn fin rfl (hgo _) hsz
   ·exact slice_strN_ns S.fr hn fin rfl (hgo _) hsz
  ·rcases p4 with ⟨rfl,rfl⟩| ⟨j,tj,rfl,rfl⟩
   ·exact slice_strN_sn S.fr hn fin rfl (hgo _) hsz
   ·exact slice_strN_ss S.fr hn fin rfl (hgo _) hsz
theorem wN {v:Expr}{lo hi:Option Expr}{sp pos:Pos}{ie:Ex}{f:Expr->Option Ex}{q:Nat×List Ex} (hc:(d9 v).isSome=true) (hv:cH C d cx v ie) (hf: ∀e i,f e=some i->Sd C d cx e i) (hb:pK f lo hi=some q):cH C d cx (.Subscript v (.Slice lo hi none sp) pos) (.slice ie q.1 q.2):=by
 intro Y env k mE fr w H s p r;refine aD λx H1 e1=>aD λbv H2 e2 e=>?_;intro Q E hq;refine Subscript_ (hv Y env k mE fr w H s p _ e1 _ _ λw1 a1 s1 n1 r1=>wpAny_Slice ?_);have p1:=p.next n1;have fin: ∀ {w3:Wd}{s3:Shared}{vl vu:Value},Nxt Y k w1 w3 H2 s1 s3->(∀n p,lT n q.1 bv=some p-> ∃l u,BdO C vl l/\BdO C vu u/\p=(l.elim 0 (λi=>min i.toNat n),u.elim n (λi=>min i.toNat n))) ->
   wpAny C.M Y.A (evalPart none env) (λst s₃ => wpAny C.M Y.A (subscriptTail v (.Slice lo hi none sp) a1 (.ref s₃.heap.objs.size)) Q E { s₃ with heap := s₃.heap.push { cls := .type "slice",data := .fields #[vl,vu,st] } }) E s3 := λ{w3 s3 vl vu} n3 hbb =>
  wpAny_pure (zcO hc n3.st (r1.mono n3.le) hbb rfl e λw4 a4 s4 n4 r4=>hq w4 a4 s4 ((n1.trans n3).trans n4) r4)
 cases lo with
 |none=>
  cases hi with
  |none=>
   cases hb;cases e2;exact wpAny_pure (wpAny_pure (fin (.refl n1.st) λn p h=>⟨none,none,.none,.none,by cases h;rfl⟩))
  |some b=>
   obtain ⟨y,hy,e3⟩:=ms hb;cases e3;refine wpAny_pure ?_
   revert e2
   refine aD λy' H3 e2=>aD λl H4 e3 e4=>?_;cases e3;cases e4;refine (hf _ _ hy).es Y env k mE fr w1 H1 s1 p1 _ e2 _ _ λw2 a2 s2 n2 r2=>fin n2 λn p h=>?_;obtain ⟨c,h1,rfl⟩:=ms (o:=dE n y') (f:=λy=>(0,y)) h;obtain ⟨i,hi,rfl⟩:=j9 r2 h1;exact ⟨none,some i,.none,hi,rfl⟩
 |some a=>
  obtain ⟨xa,hxa,hb⟩:=bs hb;cases hi with
  |none=>
   cases hb
   revert e2
   refine aD λy' H3 e2=>aD λl H4 e3 e4=>?_;cases e3;cases e4;refine (hf _ _ hxa).es Y env k mE fr w1 H1 s1 p1 _ e2 _ _ λw2 a2 s2 n2 r2=>wpAny_pure (fin n2 λn p h=>?_);obtain ⟨c,h1,rfl⟩:=ms (o:=dE n y') (f:=λx=>(x,n)) h;obtain ⟨i,hi,rfl⟩:=j9 r2 h1;exact ⟨some i,none,hi,.none,rfl⟩
  |some b=>
   refine (ms hb).elim λy zq5=>?_;have e3:=zq5.2;cases e3
   revert e2
   refine aD λx' H3 e2=>aD λl H4 e5 e4=>?_;cases e4
   revert e5
   refine aD λy' H5 e3=>aD λl' H6 e6 e7=>?_;cases e6;cases e7;refine (hf _ _ hxa).es Y env k mE fr w1 H1 s1 p1 _ e2 _ _ λw2 a2 s2 n2 r2=>(hf _ _ zq5.1).es Y env k mE fr w2 H3 s2 (p1.next n2) _ e3 _ _ λw3 a3 s3 n3 r3=>fin (n2.trans n3) λn p h=>?_;obtain ⟨c,h1,h⟩:=bs (o:=dE n x') (f:=λx=>(dE n y').map λy=>(x,y)) h;obtain ⟨c',h2,rfl⟩:=ms h;refine (j9 (r2.mono n3.le) h1).elim λi zq2=>?_;obtain rfl:=zq2.2;refine (j9 r3 h2).elim λj zq1=>?_;obtain rfl:=zq1.2;exact ⟨some i,some j,zq2.1,zq1.1,rfl⟩
end
end Internal
namespace Internal
open PySem PySem.W PySem.Calls PyProof.Rows
section
variable {C:Cfg}{d e:Nat}{Y:aQ C d e}{k:Kp}{w:Wd}{H:MH}{s:Shared}{as:List Val}{vs:List Value}
theorem wO (S : St Y k w H s) {x : Val} {v : Value} (hx : aF C w x v) : Ref Y k (VR C) (call (.type "set") [v]) w s (zd6 x H) := .none
end
end Internal
namespace Internal
open PySem PySem.W PySem.Calls PySem.NumText PyProof.Rows
section
variable {α β:Type}{C:Cfg}{d e:Nat}{Y:aQ C d e}{k:Kp}{R:Wd->β->α->Prop}{w:Wd}{s:Shared}{T:List Value->Sem α}{as:List Val}{vs:List Value}
theorem Ref.a0 {o:Option (β×MH)} (r:aC C w as vs) (h:Ref Y k R (T []) w s o):Ref Y k R (T vs) w s (a0 as o):=by
 cases as with
 |nil=>cases r;exact h
 |cons _ _=>exact .none
theorem Ref.a1 {f:Val->Option (β×MH)} (r:aC C w as vs) (h: ∀v rv,aF C w v rv->Ref Y k R (T [rv]) w s (f v)):Ref Y k R (T vs) w s (a1 as f):=by
 cases as with
 |nil=>exact .none
 |cons v as=>obtain ⟨rv,t,rfl,hv,r⟩:=r;exact .a0 (T:=λl=>T (rv::l)) r (h v rv hv)
theorem Ref.a2 {f:Val->Val->Option (β×MH)} (r:aC C w as vs) (h: ∀v rv,aF C w v rv-> ∀v' rv',aF C w v' rv'->Ref Y k R (T [rv,rv']) w s (f v v')):Ref Y k R (T vs) w s (a2 as f):=by
 cases as with
 |nil=>exact .none
 |cons v as=>obtain ⟨rv,t,rfl,hv,r⟩:=r;exact .a1 (T:=λl=>T (rv::l)) r (h v rv hv)
end
def xU (l:List Nat):Nat:=l.foldl (λa c=>a*256+c) 0
theorem i9 (l:List Nat) (c:Nat):xU (l++ [c])=xU l*256+c:=by unfold xU;rw [Kg];rfl
theorem zbc {a b c c':Nat} (h1:c<=255) (h2:c'<=255) (e:a*256+c=b*256+c'):a=b/\c=c':=by lia
theorem encL_inj: ∀ (n:Nat) (l l':List Nat),l.length<=n->(∀c∈l,1<=c/\c<=255) ->(∀c∈l',1<=c/\c<=255) ->xU l=xU l'->l=l':=by
 have nz: ∀ {r:List Nat}{c:Nat},(∀x∈r++ [c],1<=x/\x<=255) ->xU (r++ [c])≠0:=λ{r c} h e=>by
  rw [i9] at e
  have:=(h c (QD _ (.head _))).1
  lia
 intro n
 induction n with
 |zero=>
  intro l l' hl h h' e;cases Jp.mp (XA.mp hl);rcases ZQ l' with rfl| ⟨r,c,rfl⟩
  ·rfl
  ·rw [Zo] at*;exact absurd e.symm (nz h')
 |succ n ih=>
  intro l l' hl h h' e;rcases ZQ l with rfl| ⟨r,c,rfl⟩
  ·rcases ZQ l' with rfl| ⟨r',c',rfl⟩
   ·rfl
   ·rw [Zo] at*;exact absurd e.symm (nz h')
  ·rcases ZQ l' with rfl| ⟨r',c',rfl⟩
   ·rw [Zo] at*;exact absurd e (nz h)
   ·rw [Zo] at*
    rw [Zo,i9,i9] at*;obtain ⟨e1,e2⟩:=zbc (h c (QD _ (.head _))).2 (h' c' (QD _ (.head _))).2 e;rw [e2,ih r r' (by rw [Qv] at hl;exact Kh hl) (λx hx=>h x (Js _ hx)) (λx hx=>h' x (Js _ hx)) e1]
theorem pE {x y:Str} (hx:aH x=true) (hy:aH y=true) (e:enc x=enc y):x=y:=by
 have hd: ∀z:Str,aH z=true-> ∀c∈z.cps.toList,1<=c/\c<=255:=by
  intro z hz c hc;unfold aH at hz;simp only [Jw,Je,decide_eq_true_eq] at hz;exact hz.1.1.1.1 c hc
 have:=encL_inj _ x.cps.toList y.cps.toList (Qi _) (hd x hx) (hd y hy) e
 cases x;cases y;exact congrArg Str.mk (Array.toList_inj.mp this)
section
variable {prog:Program}{w:World}{A:Around}{E:Value->Shared->Prop}{s:Shared}
theorem z7 (d:Addr) (es:List DictEntry) (n:Nat) (hd:(d==sysModules)=false):
  MeetsIn prog w (Builtin.«dict.__len__» ⟨[.ref d],[]⟩) (λ_ R s=>s.heap.get? d=some (dictOf es n)/\R (.ok (.ret (.int es.length s.toks))) {s with toks:=s.toks+1}):=
 .of_wp λA R s ⟨ho,h⟩=>by
  show wpAny _ _ (dictSize d>>=_) _ _ s;unfold dictSize;refine wpAny_bind (wpAny_bind (wpAny_dictEntries ho rfl (wpAny_pure ?_)));show wpAny _ _ (Builtin.Dict.pendingCount d>>=_) _ _ s;exact wpAny_bind (wpAny_pendingCount_other hd (wpAny_ret_mkInt (by simpa using h)))
theorem zcY {d:Addr}{es:List DictEntry}{n:Nat}{Q:Value->Shared->Prop} (hd:(d==sysModules)=false) (ho:s.heap.get? d=some (dictOf es n)) (hfit:(es.length:Int)<2 ^ 63)
  (h : Q (.int es.length (s.toks + 1)) { s with toks := s.toks + 1 + 1 }) : wpAny (model prog w) A (call (.builtin "len") [.ref d]) Q E s := by
 refine Calls.call_function_entry kind_len plain_len entry_len (args_len1 _) ?_;unfold Builtin.«len»;refine wpAny_bind (m:=oneArg "len" _) (wpAny_pure ?_);refine wpAny_bind (m:=callSpecial? (.ref d) (Str.ofString "__len__")) (wpAny_callSpecial?_slot (name:=Str.ofString "__len__") (⟨_,ho,rfl⟩ : s.TypeIs (.ref d) "dict") F.slot_dict_len
  (call_meetsIn F.slot_dict_len (⟨_,ho,rfl⟩ : s.TypeIs (.ref d) "dict") F.entry_dict_len (F.args_dict_len_1 _) (z7 d es n hd) ⟨ho,?_⟩))
 show wpAny _ _ _ _ _ {s with toks:=s.toks+1};refine wpAny_bind (wpAny_holding (wpAny_pure ?_));refine wpAny_bind (wpAny_letGo ?_);show wpAny _ _ (if ((es.length:Nat):Int)<0 then _ else _) _ _ _;rw [if_neg (KU.mpr (ZG _))];show wpAny _ _ (if ((es.length:Nat):Int) ≥ 2 ^ 63 then _ else _) _ _ _;rw [if_neg (Xc.mpr hfit)];exact wpAny_bind (wpAny_mkInt (wpAny_pure ⟨_,rfl,h⟩))
end
section
variable {C:Cfg}{d e:Nat}{Y:aQ C d e}{k:Kp}{w:Wd}{H:MH}{s:Shared}{as:List Val}{vs:List Value}
theorem zcL (S : St Y k w H s) (r : aC C w as vs) : Ref Y k (VR C) (call (.builtin "len") vs) w s (zer as H) := by
 refine .a1 (T:=λl => call (.builtin "len") l) r λx v hx => .omap λn e => .val S λQ E q => ?_;have q: ∀t tk,Q (.int n t) {s with toks:=tk}:=λt tk=>q _ tk ⟨t,rfl⟩;have lst : ∀ {b : Addr} {ws : List Value},s.heap.IsList b ws.toArray -> n = ws.length -> n <= lim -> wpAny C.M Y.A (call (.builtin "len") [.ref b]) Q E s := λ{b ws} hL e hl => by
  subst e;exact len_list hL (fH hl) (q _ _)
 cases x with
 |str l=>cases e;obtain ⟨t,rfl,ok⟩:=hx;exact len_str (Xc.mpr (fH ok.2)) (q _ _)
 |tup l=>
  cases e;obtain ⟨t,o,n',ws,rfl,ho,hc,hd,rr,hl⟩:=S.tup hx;refine PyProof.Rows.len_tuple (items:=ws.toArray) ⟨o,ho,hc,n',hd⟩ (by rw [(by rw [Ja,rr.length]:ws.toArray.size=l.length)];exact fH hl) ?_;rw [(by rw [Ja,rr.length]:ws.toArray.size=l.length)];exact q _ _
 |fl l=>cases e;obtain ⟨b,o,n',ws,rfl,h,rr,hl⟩:=hx;exact lst ⟨o,S.kIn _ _ h.1,h.2,n',h.3⟩ rr.length hl
 |ref i=>
  revert e
  refine bM (bF λl hl e=>?_) (bF λp hp e=>?_)
  ·obtain ⟨t,ws,n',rfl,ho,rr,hl⟩:=S.list hx hl
   exact lst ⟨_,ho,rfl,n',rfl⟩ (e.symm.trans rr.length) (e▸hl)
  ·obtain ⟨_,_,b,n',es,rfl,hmod,_,hg,hdr,hl,_⟩:=S.dict hx hp
   exact zcY hmod hg (by rw [hdr.entries.1];exact fH hl) (by rw [(hdr.entries.1.trans e)];exact q _ _)
 |setn i=>
  cases e;obtain ⟨_,_,_,_,_,rfl,h⟩:=hx;exact call_len_set (S.tpAt h.1) h.2 h.3 h.4 (by rw [h.5];exact fH h.6) (by rw [h.5];exact q _ _)
 |_=>exact nos e
theorem Sta.kept {h h':Heap} (S:Sta C Y.h₀ Y.L k w H h) (hk: ∀b o,h.get? b=some o->h'.get? b=some o):Sta C Y.h₀ Y.L k w H h':=
 zdV.casesOn S.ledger λall hn _ _ g=>g h' (S.fr.keeps hk) λp hp=>⟨hk _ _ (hn p hp).1,(hn p hp).2⟩
theorem Ref.int {t:Sem Value}{z:Int} (S:St Y k w H s) (h: ∀ (Q:Value->Shared->Prop) (E:Value->Shared->Prop),(∀u h' tk,(∀b o,s.heap.get? b=some o->h'.get? b=some o) ->Q (.int z u) {s with heap:=h',toks:=tk}) ->wpAny C.M Y.A t Q E s):Ref Y k (VR C) t w s (some (.int z,H)):=by
 intro r e;cases e;exact λQ E hq=>h Q E λu h' tk hk=>hq w _ _ ⟨.refl w,S.kept hk,rfl,rfl⟩ ⟨u,rfl⟩
theorem zcK (S : St Y k w H s) (r : aC C w as vs) : Ref Y k (VR C) (call (.builtin "max") vs) w s (zeq as H) := by
 refine .a2 (T:=λl => call (.builtin "max") l) r λx v hx y u hy => .opt λa ea => .omap λb eb => ?_;obtain ⟨_,rfl⟩:=hx.int? ea;obtain ⟨_,rfl⟩:=hy.int? eb;refine .int S λQ E q=>max_two_ints Y.handled λh' tk hk=>?_;by_cases c:b>a
 ·rw [if_pos c] at q ⊢;exact q _ h' tk hk
 ·rw [if_neg c] at q ⊢;exact q _ h' tk hk
theorem zcJ (S : St Y k w H s) (r : aC C w as vs) : Ref Y k (VR C) (call (.builtin "min") vs) w s (zep as H) := by
 refine .a2 (T:=λl => call (.builtin "min") l) r λx v hx y u hy => .opt λa ea => .omap λb eb => ?_;obtain ⟨_,rfl⟩:=hx.int? ea;obtain ⟨_,rfl⟩:=hy.int? eb;refine .int S λQ E q=>min_two_ints Y.handled λh' tk hk=>?_;by_cases c:b<a
 ·rw [if_pos c] at q ⊢;exact q _ h' tk hk
 ·rw [if_neg c] at q ⊢;exact q _ h' tk hk
theorem iD {t:List (Nat×String)}{n m:Nat}{x y:String} (h:(n==m)=true) (hx:t.lookup n=some x) (hy:t.lookup m=some y):x=y:=by rw [beq_iff_eq.mp h] at hx;exact Qy.inj (hx.symm.trans hy)
theorem wQ (S : St Y k w H s) (r : aC C w as vs) : Ref Y k (VR C) (call (.type "range") vs) w s (uJ as H) := by
 refine .a1 (T:=λl => call (.type "range") l) r λx v hx => .omap λn e => ?_;obtain ⟨t,rfl⟩:=hx.int? e;intro r' e';cases e';obtain ⟨all,hn,_,tp,_⟩:=S.ledger;exact λQ E hq=>call_range_1 (hq ⟨w.σ,_::w.tp⟩ _ {s with heap:=_,toks:=_} ⟨⟨Kq _,λp hp=> .tail _ hp⟩,tp _ _ _ (S.fr.push _) (hn.push S.fr _) (Qi _),rfl,rfl⟩ ⟨_,_,_,_,rfl,.head _⟩)
theorem sS (S : St Y k w H s) (r : aC C w as vs) : Ref Y k (VR C) (call (.type "list") vs) w s (sE as H) := by
 have key : ∀ {mvs : List Val} {ws : List Value} {la : Addr} {o : Obj} {n : Nat},aC C w mvs ws -> mvs.length <= lim -> s.heap.get? la = some o -> (o.cls = .type "list" \/ o.cls = .type "tuple") -> o.data = .seq ws.toArray n -> Ref Y k (VR C) (call (.type "list") [.ref la]) w s (cQ H (.list mvs)) := by
  intro mvs ws la o n rr hl ho hc hd r' e' Q E hq;cases e';obtain ⟨all,hn,add,_,_⟩:=S.ledger;have le:w.le ⟨w.σ++ [s.heap.objs.size],w.tp⟩:=⟨Jb _ _,λ_ x=>x⟩;have hsz:ws.toArray.size<=sizeLine:=by rw [Ja,<-rr.length];exact Qa hl lim_line
  have fin: ∀h' c',(∀b o,s.heap.get? b=some o->h'.get? b=some o) ->h'.get? s.heap.objs.size=some (listOf ws.toArray c') ->Q (.ref s.heap.objs.size) {s with heap:=h'}:=λh' c' hk hD=>
   hq _ _ _ ⟨le,add _ (.list mvs) [_] h' ⟨ws,c',rfl,rr.mono le,hl⟩ (S.fr.keeps hk) (news_pushed S.fr hn hk hD rfl) (eY _) (News.fresh hn λp hp=>Qw.mp hp▸Qi _) (S.four (Qi _)),rfl,rfl⟩ ⟨_,rfl,by rw [<-S.len];exact Jh⟩
  rcases hc with hc|hc
  ·exact call_list_seq (hsz:=hsz) la (.inl rfl) ho hc hd fin
  ·exact call_list_seq (hsz:=hsz) la (.inr rfl) ho hc hd fin
 refine .a1 (T:=λl => call (.type "list") l) r λx v hx => .alt (.opt λl e => ?_) (.alt (.opt λl e => ?_) (.opt λl e => ?_))
 ·cases tup?_s e
  obtain ⟨t,o,n,ws,rfl,ho,hc,hd,rr,hl⟩:=S.tup hx;exact key rr hl ho (.inr hc) hd
 ·cases fl?_s e
  obtain ⟨t,o,n,ws,rfl,q,rr,hl⟩:=hx;exact key rr hl (S.kIn _ _ q.1) (.inl q.2) q.3
 ·obtain ⟨la,ws,n,rfl,ho,rr,hl⟩:=S.list hx e
  exact key rr hl ho (.inl rfl) rfl
theorem sP (S : St Y k w H s) (r : aC C w as vs) : Ref Y k (VR C) (call (.type "type") vs) w s (y6 as H) := by
 refine .a1 (T:=λl => call (.type "type") l) r λx v hx => .omap λn e => .val S λQ E q => ?_;have fin: ∀ {T:String},tyTab.lookup n=some T->Q (.type T) s:=λhT=>q _ s.toks ⟨_,rfl,hT⟩;cases x with
 | none => cases e; cases hx; exact call_type_of (Tx:="NoneType") rfl (by decide) (fin rfl)
 | bool b => cases e; cases hx; exact call_type_of (Tx:="bool") rfl (by decide) (fin rfl)
 | int i => cases e; obtain ⟨_,rfl⟩ := hx; exact call_type_of (Tx:="int") rfl (by decide) (fin rfl)
 | str l => cases e; obtain ⟨_,rfl,_⟩ := hx; exact call_type_of (Tx:="str") rfl (by decide) (fin rfl)
 | tup l => cases e; obtain ⟨t,o,n,ws,rfl,ho,hc,_,_,_⟩ := S.tup hx; exact call_type_of (Tx:="tuple") ⟨o,ho,hc⟩ (by decide) (fin rfl)
 |ref i=>
  refine (ms e).elim λl zq9=>?_;have e:=zq9.2;subst e;have zq8:=S.list hx zq9.1;obtain ⟨la,ws,n,rfl,ho,_,_⟩:=zq8;exact call_type_of (Tx:="list") ⟨_,ho,rfl⟩ (by decide) (fin rfl)
 |_=>exact nos e
theorem sT (S : St Y k w H s) (r : aC C w as vs) : Ref Y k (VR C) (call (.type "dict") vs) w s (sF as H) := by
 refine .a1 (T:=λl => call (.type "dict") l) r λx v hx => .opt λp hp => .grd λhk => ?_;intro r' e';cases e';refine (S.dict hx hp).elim λ_ zq4=>?_;obtain ⟨b,n,es,rfl,hmod,_,hg,hdr,hl,_⟩:=zq4.2;obtain ⟨kvs,D⟩: ∃kvs,DA C w p.2 es kvs:=by
  cases hp2:p.2 with
  |nil=>rw [hp2] at hdr;exact hdr.atom (a:=.i 0) rfl
  |cons q qs=>
   rw [hp2] at hdr hk;have h1:=beq_iff_eq.mp (Qb.mp hk).1;rcases hdr with h| ⟨xs,D⟩
   ·exact h
   ·have e:=D.e
    cases xs with
    |nil=>cases e
    |cons x xs=>rw [show q.1= .tup (x.1.map Atom.val) from (ZY.inj e).1,fT] at h1;cases h1
 obtain ⟨all,hn,add,_,_⟩:=S.ledger;refine λQ E hq=>kt_call_dict (knd:=bQ C.prog C.w) hmod (D.dictOf hg) (by rw [<-rB D.e];exact Qa hl lim_line) λh' hD hs=>?_;obtain ⟨o,es',ep',ho',hex,hd,q1,q2,q3⟩:=hD;have hoe:o=dictOf es'.toList ep':=by
  obtain ⟨oc,od,odata,osl⟩:=o;obtain ⟨x1,x2,x3⟩:=hex;cases x1;cases x2;cases x3;cases hd;rfl
 have hkeep: ∀c x,s.heap.get? c=some x->h'.get? c=some x:=λc x hc=>(hs.2 c (Zy (Xl hc))).trans (Heap.get?_push_of_some _ hc);refine hq _ _ {s with heap:=h'} ⟨(⟨Jb _ _,λ_ x=>x⟩:w.le ⟨w.σ++ [s.heap.objs.size],w.tp⟩),add _ (.dict none p.2) [(s.heap.objs.size,dictOf es'.toList ep')] h' ⟨_,_,rfl,λe he=>nos he,fO.mono (⟨Jb _ _,λ_ x=>x⟩:w.le ⟨w.σ++ [s.heap.objs.size],w.tp⟩) (.inl ⟨kvs,q2,q1,D.n,D.e,D.ok,D.r⟩),hl⟩ (S.fr.keeps hkeep) (λq hq=>?_) (eY _) (News.fresh hn λp hp=>Qw.mp hp▸Qi _) (S.four (Qi _)),rfl,rfl⟩ ⟨_,rfl,by rw [<-S.len];exact Jh⟩;rcases QH.mp hq with e|hq
 ·rw [e]
  exact ⟨by rw [<-hoe];exact ho',JL S.fr.ns.lt,Heap.get?_none_of_le (Qa S.fr.above (QJ S.fr.ns.lt))⟩
 ·exact ⟨hkeep _ _ (hn q hq).1,(hn q hq).2⟩
theorem zfc {n:Nat}{nm:String} (hb:tyTab.lookup n=some nm) (S:St Y k w H s) (r:aC C w as vs):Ref Y k (VR C) (call (.type nm) vs) w s (pH n as H):=
 .alt (.grd λh => iD (t:=tyTab) h hb (y:="range") rfl ▸ wQ S r) (.alt (.grd λh => iD (t:=tyTab) h hb (y:="list") rfl ▸ sS S r) (.alt (.grd λh => .none)
 (.alt (.grd λh => iD (t:=tyTab) h hb (y:="type") rfl ▸ sP S r) (.alt (.grd λh => iD (t:=tyTab) h hb (y:="dict") rfl ▸ sT S r) (.alt (.grd λh => .none) (.grd λh => iD (t:=tyTab) h hb (y:="set") rfl ▸ .a1 (T:=λl => call (.type "set") l) r λx v hx => wO S hx))))))
end
end Internal
namespace Internal
open PySem PySem.W PySem.Calls PySem.NumText PyProof.Rows
theorem ok_append : aH "append" = true /\ enc "append" = nAppend := by decide +kernel
theorem ok_pop : aH "pop" = true /\ enc "pop" = nPop := by decide +kernel
theorem ok_get : aH "get" = true /\ enc "get" = nGet := by decide +kernel
theorem ok_isspace : aH "isspace" = true /\ enc "isspace" = nIsspace := by decide +kernel
theorem oU {nm x:Str}{n:Nat} (hn:aH nm=true) (ok:aH x=true/\enc x=n) (h:(enc nm==n)=true):x=nm:=pE ok.1 hn (ok.2.trans (beq_iff_eq.mp h).symm)
def zbU {C:Cfg}{d e:Nat} (Y:aQ C d e) (k:Kp) (w:Wd) (vx:Value) (vs:List Val) (h2:MH) (r:Val×MH) (id:String):Prop:=
 ∀w2 s2 ws,w.le w2->St Y k w2 h2 s2->aC C w2 vs ws->zbY Y k (VR C) (call (.builtin id) (vx::ws)) w2 s2 r.1 r.2
def zdU {C:Cfg}{d e:Nat} (Y:aQ C d e) (k:Kp) (w:Wd) (s:Shared) (vx:Value) (nm:Str) (vs:List Val) (h2:MH) (r:Val×MH):Prop:=
 ∀ (pl:Sem Bool) (Q:Value×List Value->Shared->Prop) (E:Value->Shared->Prop),(∀id,zbU Y k w vx vs h2 r id->Q (.builtin id,[vx]) s) ->wpAny C.M Y.A (getMethod vx nm pl) Q E s
section
variable {C:Cfg}{d e:Nat}{Y:aQ C d e}{k:Kp}{w:Wd}{H:MH}{s:Shared}
theorem zbU.of {vx:Value}{vs:List Val}{h2:MH}{r:Val×MH}{id:String}{o:Option (Val×MH)} (e:o=some r) (h: ∀w2 s2 ws,w.le w2->St Y k w2 h2 s2->aC C w2 vs ws->Ref Y k (VR C) (call (.builtin id) (vx::ws)) w2 s2 o):zbU Y k w vx vs h2 r id:=
 λw2 s2 ws l S2 rr=>h w2 s2 ws l S2 rr r e
theorem qF {nm:Str} (hn:aH nm=true) {x:List Nat}{u:Tok} (ok:sOk x) {vs:List Val}{h2:MH}{r:Val×MH}:uP x (enc nm) vs h2=some r->zdU Y k w s (.str ⟨x.toArray⟩ u) nm vs h2 r:=by
 refine cF λh e=>?_;cases oU hn ok_isspace h;refine λpl Q E q => GM.isspace (q "str.isspace" (.of e λw2 s2 ws l S2 rr => .a0 (T:=λl => call (.builtin "str.isspace") (_ :: l)) rr (.val S2 λQ E q => SC.isspace (q _ s2.toks rfl))))
theorem zaQ {mvs:List Val}: ∀ {ws:List Value}{v:Val},aC C w mvs ws->mvs.getLast?=some v-> ∃p y,kl_last ws=some (p,y)/\aC C w mvs.dropLast p/\aF C w v y:=by
 intro ws v r e;have hne:mvs≠ []:=λq=>by rw [q] at e;cases e
 have hl:kl_last ws≠none:=λq=>by
  rw [kl_last_none q] at r;cases mvs with
  |nil=>exact hne rfl
  |cons _ _=>obtain ⟨_,_,e,_,_⟩:=r;cases e
 obtain ⟨⟨p,y⟩,hpy⟩:=Option.ne_none_iff_exists'.mp hl;refine ⟨p,y,hpy,?_⟩;have hm:mvs.dropLast++ [v]=mvs:=by
  have h1:=KF hne;rwa [show mvs.getLast hne=v from Qy.inj ((List.getLast?_eq_getLast hne).symm.trans e)] at h1
 rw [<-hm,kl_last_spec hpy] at r
 clear hm hpy hl e hne
 generalize mvs.dropLast=q at r ⊢
 induction q generalizing p with
 |nil=>
  cases p with
  |nil=>obtain ⟨_,_,e,h,_⟩:=r;cases e;exact ⟨.nil,h⟩
  |cons a p=>have:=r.length;simp at this
 |cons b q ih=>
  cases p with
  |nil=>have:=r.length;simp at this
  |cons a p=>
   obtain ⟨_,_,e,h,r⟩:=r;cases e;obtain ⟨h1,h2⟩:=ih p r;exact ⟨.cons h h1,h2⟩
inductive zeA {C:Cfg}{d e:Nat} (Y:aQ C d e) (k:Kp) (w:Wd) (H:MH) (s:Shared) (i:Nat) (la:Addr) (mvs:List Val):Prop
 |mk (ws:List Value) (n:Nat) (pre post:Led) (r:aC C w mvs ws) (l:mvs.length<=lim) (hn:News Y.h₀ Y.L s.heap (pre++(la,listOf ws.toArray n)::post))
   (u: ∀ws' n',Upd la (listOf ws.toArray n) (listOf ws' n') (pre++(la,listOf ws.toArray n)::post) (pre++(la,listOf ws' n')::post))
   (g: ∀mvs' ws' n' h',aC C w mvs' ws'->mvs'.length<=lim->Fr Y.h₀ Y.L h' k.m->News Y.h₀ Y.L h' (pre++(la,listOf ws'.toArray n')::post) ->Sta C Y.h₀ Y.L k w (H.set i (.list mvs')) h'):zeA Y k w H s i la mvs
theorem Sta.lstAt (S:St Y k w H s) {i:Nat}{la:Addr}{mvs:List Val} (ha:w.σ[i]?=some la) (hm:H[i]?.bind MObj.list?=some mvs):zeA Y k w H s i la mvs:=by
 obtain ⟨o,hi,h2⟩:=bs hm;cases list?_s h2;obtain ⟨pre,en,post,⟨ws,n,rfl,r,l⟩,hn,hd,g⟩:=S.at ha hi;exact ⟨ws,n,pre,post,r,l,hn,λws' n'=>iC hd,λmvs' ws' n' h' r' l' F N=>g (.list mvs') [(la,listOf ws'.toArray n')] h' rfl ⟨ws',n',rfl,r',l'⟩ F N⟩
theorem kR {i : Nat} {la : Addr} {mvs : List Val} {y : Val} {yv : Value} (S : St Y k w H s) (ha : w.σ[i]? = some la) (hm : H[i]?.bind MObj.list? = some mvs) (hy : aF C w y yv) (hlen : mvs.length < lim) : Ref Y k (VR C) (call (.builtin "list.append") [.ref la,yv]) w s (some (.none,H.set i (.list (mvs ++ [y])))) := by
 obtain ⟨ws,n,pre,post,r,l,hn,u,g⟩:=S.lstAt ha hm;intro r' e';cases e';refine λQ E hq=>append_K S.fr hn (u (ws.toArray.push yv) (n+1)) (λh' F' N'=>hq w _ {s with heap:=h'} ⟨.refl w,g (mvs++ [y]) (ws++ [yv]) (n+1) h' (aC.append (.one hy) r) (by rw [Qv];exact hlen) F' (by rw [List.push_toArray] at N';exact N'),rfl,rfl⟩ rfl) ?_;rw [Ja,<-r.length];exact Qa l lim_line
theorem oE {nm:Str} (hn:aH nm=true) (S:St Y k w H s) {i:Nat}{la:Addr} (ha:w.σ[i]?=some la) {mvs0 mvs:List Val}{vs:List Val}{h2:MH}{r:Val×MH} (hm0:H[i]?.bind MObj.list?=some mvs0) (hm:h2[i]?.bind MObj.list?=some mvs):iK i mvs (enc nm) vs h2=some r->zdU Y k w s (.ref la) nm vs h2 r:=by
 have zq12:=S.list (x:=.ref i) ⟨la,rfl,ha⟩ hm0;obtain ⟨_,ws0,n0,e0,ho,_,_⟩:=zq12;cases e0;refine bM (cF λh e=>?_) (cF λh e=>?_)
 ·cases oU hn ok_append h
  exact λpl Q E q => getMethod_list_append ho rfl rfl (q "list.append" (.of e λw2 s2 ws l S2 rr => .a1 (T:=λl => call (.builtin "list.append") (_ :: l)) rr λy vy hy => .grd λhl => kR S2 (l.get ha) hm hy (QV.mp hl)))
 ·cases oU hn ok_pop h
  refine λpl Q E q => getMethod_builtin ⟨_,ho,rfl⟩ PySem.F.plainAttrs_list PySem.F.slot_list_pop PySem.F.type_list_pop (λa e => by cases e; exact ⟨_,ho,rfl⟩) (q "list.pop" (.of e λw2 s2 ws l S2 rr => .a0 (T:=λl => call (.builtin "list.pop") (_ :: l)) rr (.omap λv hv => ?_)));obtain ⟨ws,n,pre,post,r,l',hn,u,g⟩:=S2.lstAt (l.get ha) hm;refine (zaQ r hv).elim λp zq9=>zq9.elim λy zq10=>?_;intro r' e';cases e';exact λQ E hq=>kl_pop S2.fr hn zq10.1 (u p.toArray (n+1)) (by rw [List.toList_toArray,<-r.length];exact Qa l' lim_line) λh' F' N'=>hq w2 y {s2 with heap:=h'} ⟨.refl w2,g mvs.dropLast p (n+1) h' zq10.2.1 (Qa (by rw [List.length_dropLast];exact Yn _ _) l') F' N',rfl,rfl⟩ zq10.2.2
theorem oG {nm:Str} (hn:aH nm=true) (S:St Y k w H s) {i:Nat}{la:Addr} (ha:w.σ[i]?=some la) {p0 p:Option Nat×List (Val×Val)}{vs:List Val}{h2:MH}{r:Val×MH} (hm0:H[i]?.bind MObj.dict?=some p0) (hm:h2[i]?.bind MObj.dict?=some p):iR p.2 (enc nm) vs h2=some r->zdU Y k w s (.ref la) nm vs h2 r:=by
 obtain ⟨_,n0,es0,e0,_,_,hg,_,_,_⟩:=S.dictI ⟨la,rfl,ha⟩ hm0;cases e0;refine cF λh e=>?_;cases oU hn ok_get h;refine λpl Q E q => getMethod_builtin ⟨_,hg,rfl⟩ PySem.F.plainAttrs_dict Zp PySem.F.type_dict_get (λa e => by cases e; exact ⟨_,hg,rfl⟩) (q "dict.get" (.of e λw2 s2 ws l S2 rr => ?_));have key : ∀ {x dv : Val} {kv dvv : Value} {args : List Value},aF C w2 x kv -> aF C w2 dv dvv -> aM p.2 x = true -> ((args = [.ref la,kv] /\ dvv = .none) \/ args = [.ref la,kv,dvv]) -> Ref Y k (VR C) (call (.builtin "dict.get") args) w2 s2 (some ((aZ p.2 x).getD dv,h2)) := by
  intro x dv kv dvv args hk hdv hf hargs;refine .val S2 λQ E q=>?_;obtain ⟨_,n2,es,e2,hmod,_,hg2,hdr,_,_⟩:=S2.dictI ⟨la,rfl,l.get ha⟩ hm;cases e2;have fin: ∀ {o:Option Value},yQ C w2 (aZ p.2 x) o-> ∀tk,Q (o.getD dvv) {s2 with toks:=tk}:=λh tk=>by
   rcases h with ⟨q1,rfl⟩| ⟨mv,rv,q1,rfl,q3⟩
   ·rw [q1] at q;exact q _ tk hdv
   ·rw [q1] at q;exact q _ tk q3
  rcases gL (Qb.mp hf).1 with ⟨ka,rfl⟩| ⟨ka,rfl⟩
  ·obtain ⟨kvs,D⟩:=hdr.atom hf
   have hD:=D.dictOf hg2;rcases hargs with ⟨rfl,rfl⟩|rfl
   ·exact call_meetsIn Zp hD.typeIs ZH (Yf _ _) (meets_dict_get _ la hk.atom.1 hmod) ⟨_,hD.mapOf,fin (D.get ka) _⟩
   ·exact call_meetsIn Zp hD.typeIs ZH (Yg _ _ _) (meets_dict_get_default _ la hk.atom.1 hmod dvv) ⟨_,hD.mapOf,fin (D.get ka) _⟩
  ·obtain ⟨xs,D⟩:=hdr.tups hf
   have hD:=D.dictOf S2 hg2;obtain ⟨t,rfl,ht⟩:=S2.tupKey hk;rcases hargs with ⟨rfl,rfl⟩|rfl
   ·exact call_meetsIn Zp hD.typeIs ZH (Yf _ _) (meetsH_dict_get _ la t hmod) ⟨Y.room,ka,xs,ht,hD,fin (D.get ka) _⟩
   ·exact call_meetsIn Zp hD.typeIs ZH (Yg _ _ _) (meetsH_dict_get_default _ la t hmod dvv) ⟨Y.room,ka,xs,ht,hD,fin (D.get ka) _⟩
 exact .alt (.a1 (T:=λl => call (.builtin "dict.get") (_ :: l)) rr λx kv hk => .grd λhf => key hk rfl hf (.inl ⟨rfl,rfl⟩)) (.a2 (T:=λl => call (.builtin "dict.get") (_ :: l)) rr λx kv hk dv dvv hd => .grd λhf => key hk hd hf (.inr rfl))
theorem zW {nm:Str} (hn:aH nm=true) (S:St Y k w H s) {x:Val}{vx:Value} (hx:aF C w x vx) {vs:List Val}{h2:MH}{r:Val×MH}:jS x (enc nm) vs H h2=some r->zdU Y k w s vx nm vs h2 r:=by
 refine bM (aN λl e1 e=>?_) (aN λi e1=>bM (aN λm0 e2=>aN λm e3 e=>?_) (aN λm0 e2=>aN λm e3 e=>?_))
 ·obtain ⟨u,rfl,ok⟩:=hx.str? e1
  exact qF hn ok e
 ·cases ref?_s e1
  obtain ⟨la,rfl,ha⟩:=hx;exact oE hn S ha e2 e3 e
 ·cases ref?_s e1
  obtain ⟨la,rfl,ha⟩:=hx;exact oG hn S ha e2 e3 e
end
end Internal
namespace Internal
open PySem PySem.W PySem.Calls PyProof.Rows
inductive mC (C:Cfg) (id c:Nat):Prop
 |mk (a ca dx:Addr) (n:Nat) (k1:C.ad.lookup id=some a) (k2:C.ad.lookup c=some ca) (k3:C.K.lookup a=some ⟨.ref ca,some dx,.plain,#[]⟩) (k4:C.K.lookup dx=some (dictOf [] n)):mC C id c
inductive eP (C:Cfg) (c n:Nat) (P:Addr->Str->Prop):Prop
 |mk (ca:Addr) (name:Str) (k1:C.ad.lookup c=some ca) (k2:aH name=true) (k3:enc name=n) (k4:plainGet C.K ca name=true) (k5:hasDictIn C.K ca=true) (p:P ca name):eP C c n P
inductive zbZ (C:Cfg) (v:Val) (ca:Addr) (name:Str):Prop
 |mk (av:Value) (k6:findIn C.K (.ref ca) name=some (some av)) (k7: ∀w,aF C w v av)
  (k8 : nJ C.P v = true -> isFn C.K av = true /\ specialIn C.K (.ref ca) "__getattribute__" = some (some (.builtin "type.__getattribute__")) /\ ∃ mc,typeIn C.K (.ref ca) = some mc /\ readsIn C.K ca mc = true /\ findCls C.K (.ref ca) mc name = some (.val av)) (k9 : nJ C.P v = false -> specialIn C.K av "__get__" = some none /\ handedIn av = true /\ copiedNames.contains name = false) : zbZ C v ca name
inductive zgx (C:Cfg) (ca:Addr) (name:Str):Prop
 |mk (attr:Option Value) (k6:findIn C.K (.ref ca) name=some attr) (k7:noGet C.K attr=true)
  (k8 : takerIn C.K ca name = some none) (k9 : findIn C.K (.ref ca) "__setattr__" = some (some (.builtin "object.__setattr__"))) (k10 : plainOver C.K ca = true) : zgx C ca name
inductive mD (C:Cfg) (c i:Nat):Prop
 | mk (ca fI : Addr) (k1 : C.ad.lookup c = some ca) (k2 : C.ad.lookup i = some fI) (k3 : makesIn C.K ca = true) (k4 : findIn C.K (.ref ca) "__init__" = some (some (.ref fI))) (k5 : isFn C.K (.ref fI) = true) (k6 : keepIn C.K (.ref ca) = true) : mD C c i
def iX (C:Cfg) (f:Fn) (fd:FuncData) (xs:List Str):Prop:=
 (f.dfl= []/\∀vs:List Value,vs.length=f.np->bindArgs fd ⟨vs,[]⟩=pure (xs.zip vs))\/
 (f.dfl≠ []/\∃dvs,(∀w,aC C w f.dfl dvs)/\∀ (S:Setting) (vs:List Value),vs.length<=f.np->f.np-vs.length<=dvs.length->peek C.K S (bindArgs fd ⟨vs,[]⟩)=some (xs.zip (vs++dvs.drop (dvs.length-(f.np-vs.length)))))
inductive pQ (C:Cfg) (gl:List (Str×Val)) (f:Fn):Prop
 |mk (a:Addr) (name qual:Str) (params:Arguments) (body:List Stmt) (scope:Scope) (dV kV doc pm:Value) (an:Option Addr) (cdv ct oc:Value) (od:Option Addr) (osl:Array (Option Value)) (k1:C.ad.lookup f.addr=some a) (k2:C.K.lookup a=some ⟨oc,od,.func (fnOf name qual params body scope dV kV doc pm an cdv ct),osl⟩)
  (k3:codeIn C.K cdv qual=true) (k4:lQ gl params body scope=some (f.np,f.ns,f.body)) (k6:keepIn C.K (.ref a)=true)
  (k7:iX C f (fnOf name qual params body scope dV kV doc pm an cdv ct) (params.args.map (·.arg)))
  (k8:(params.args.map (·.arg)).Nodup) (k10:((cellsFrom 0 scope.names []).map (·.1)).Nodup):pQ C gl f
def vU (C : Cfg) : Prop := ∀ {d e : Nat} {Y : aQ C d e} {k : Kp} {w : Wd} {H : MH} {s : Shared} {as : List Val} {vs : List Value},iW C -> St Y k w H s -> aC C w as vs -> Ref Y k (VR C) (call (.builtin "sorted") vs) w s (lU as H)
structure cR (C:Cfg) (gl:List (Str×Val)):Prop where
 glob:zbW C gl
 fns: ∀a f,C.P.fnAt a=some f->f.addr=a/\pQ C gl f
 insts: ∀id c,C.P.instAt id=some c->mC C id c
 attrs: ∀c n v,C.P.clsAttr c n=some v->eP C c n (zbZ C v)
 flds: ∀c n,C.P.hasFld c n=true->eP C c n (zgx C)
 inits: ∀c k i,C.P.clsAt c=some k->k.init=some i->mD C c i
 cfg:iW C
 srt:vU C
section
variable {C:Cfg}{d e:Nat}{Y:aQ C d e}{k:Kp}{w:Wd}{H:MH}{s:Shared}{cx:CC}{env:Env}{mE:Str->Option Value}{fr:Frame}{gl:List (Str×Val)}
theorem eP.use {c n:Nat}{P:Addr->Str->Prop} (h:eP C c n P) {nm:Str}{ca:Addr} (hn:aH nm=true) (e:n=enc nm) (hc:C.ad.lookup c=some ca):plainGet C.K ca nm=true/\hasDictIn C.K ca=true/\P ca nm:=by
 obtain ⟨ca',name,k1,k2,k3,k4,k5,p⟩:=h;cases Qy.inj (k1.symm.trans hc);cases pE k2 hn (k3.trans e);exact ⟨k4,k5,p⟩
theorem bi_handed: ∀p∈biTab,handedIn (.builtin p.2)=true:=by decide+kernel
theorem xO {v:Val}{rv:Value} (h:aF C w v rv):handedIn rv=true:=by
 cases v with
 |none=>cases h;rfl
 |bool b=>cases h;rfl
 |int i=>obtain ⟨t,rfl⟩:=h;rfl
 |str i=>obtain ⟨t,rfl,_⟩:=h;rfl
 |tup i=>obtain ⟨_,_,_,_,rfl,_,_,_⟩:=h;rfl
 |ref i=>obtain ⟨_,rfl,_⟩:=h;rfl
 |top i=>obtain ⟨_,rfl,_⟩:=h;rfl
 |ty i=>obtain ⟨_,rfl,_⟩:=h;rfl
 |bi i=>obtain ⟨n,rfl,hb⟩:=h;exact bi_handed _ (bB hb)
 |rng i=>obtain ⟨_,_,_,_,rfl,_⟩:=h;rfl
 |fl i=>obtain ⟨_,_,_,_,rfl,_,_,_⟩:=h;rfl
 |setn i=>obtain ⟨_,_,_,_,_,rfl,_⟩:=h;rfl
theorem nI {x nm:Str}{t:Tok} (hx:aH x=true) (hn:aH nm=true):(Zi x t).isStr nm=(enc x==enc nm):=by
 show (x==nm)=_;rw [Zu,beq_iff_eq,beq_iff_eq];exact ⟨λe=>e▸rfl,pE hx hn⟩
inductive zgz (C:Cfg) (w:Wd) (m:Option Val) (o:Option (Option Value)):Prop
 |none (h1:m= .none) (h2:o=some .none):zgz C w m o
 |some (v:Val) (rv:Value) (h1:m=some v) (h2:o=some (some rv)) (r:aF C w v rv):zgz C w m o
theorem gA.get {nm:Str} (hn:aH nm=true): ∀ {fs:List (Nat×Val)}{es:List DictEntry},gA C w fs es->es.any (·.refKey)=false/\((hH fs (enc nm)=none/\es.find? (·.key.isStr nm)=none)\/∃v e,hH fs (enc nm)=some v/\es.find? (·.key.isStr nm)=some e/\aF C w v e.val):=by
 intro fs
 induction fs with
 |nil=>intro es h;rw [show es= [] from h];exact ⟨rfl,.inl ⟨rfl,rfl⟩⟩
 |cons p fs ih=>
  intro es h;obtain ⟨x,t,hsh,v,r,rfl,h1,h2,h3,h4⟩:=h;obtain ⟨i1,i2⟩:=ih h4;refine ⟨i1,?_⟩;unfold hH at i2 ⊢;rw [Z9,Z9]
  dsimp only
  rw [nI h1 hn,h2];cases hq:(p.1==enc nm) with
  |true=>exact .inr ⟨_,_,rfl,rfl,h3⟩
  |false=>exact i2
theorem gA.getL {nm:Str} (hn:aH nm=true) {fs:List (Nat×Val)}{es:List DictEntry} (r:gA C w fs es):zgz C w (hH fs (enc nm)) (getL nm es):=by
 obtain ⟨hr,h⟩:=r.get hn;unfold W.getL;rcases h with ⟨h1,h2⟩| ⟨v,e,h1,h2,h3⟩
 ·rw [h2]
  exact .none h1 (by dsimp only;rw [hr];rfl)
 ·rw [h2]
  exact .some v e.val h1 rfl h3
theorem gA.put {nm:Str} (hn:aH nm=true) {hsh:Int}{t:Tok}{v:Val}{rv:Value} (hv:aF C w v rv): ∀ {fs:List (Nat×Val)}{es:List DictEntry},gA C w fs es->gA C w (fput fs (enc nm) v) (putL nm hsh (.str nm t) rv es):=by
 intro fs
 induction fs with
 |nil=>intro es h;rw [show es= [] from h];exact ⟨nm,t,hsh,rv,[],rfl,hn,rfl,hv,rfl⟩
 |cons p fs ih=>
  intro es h;obtain ⟨x,t',hsh',v',r,rfl,h1,h2,h3,h4⟩:=h;show gA C w (bif p.1==enc nm then _ else _) _;unfold putL;rw [nI h1 hn,h2];cases hq:(p.1==enc nm) with
  |true=>
   rw [if_pos rfl];exact ⟨x,t',hsh',rv,r,rfl,h1,h2.trans (beq_iff_eq.mp hq),hv,h4⟩
  |false=>
   rw [if_neg Zk];exact ⟨x,t',hsh',v',_,rfl,h1,h2,h3,(ih h4)⟩
theorem gA.length: ∀ {fs:List (Nat×Val)}{es:List DictEntry},gA C w fs es->es.length=fs.length:=by
 intro fs
 induction fs with
 |nil=>intro es h;rw [show es= [] from h];rfl
 |cons p fs ih=>intro es h;obtain ⟨_,_,_,_,r,rfl,_,_,_,h4⟩:=h;exact congrArg (· +1) (ih h4)
theorem za4 (fs:List (Nat×Val)) (n:Nat) (v:Val):(fput fs n v).length<=fs.length+1:=by
 induction fs with
 |nil=>exact Qi _
 |cons p fs ih=>
  show (bif p.1==n then _ else _:List (Nat×Val)).length<=_;cases (p.1==n) with
  |true=>exact Jv _
  |false=>exact Q8 ih
inductive zeB {C:Cfg}{d e:Nat} (Y:aQ C d e) (k:Kp) (w:Wd) (H:MH) (s:Shared) (i:Nat) (v:Value) (q:Nat×List (Nat×Val)):Prop
 |mk (a ca dx:Addr) (es:List DictEntry) (n:Nat) (pre post:Led) (e:v= .ref a) (hc:C.ad.lookup q.1=some ca) (f:gA C w q.2 es) (l:q.2.length<=500) (hn:News Y.h₀ Y.L s.heap ((pre++ [(a,instObj ca dx)])++(dx,dictOf es n)::post)) (I:InstAt s.heap a (instObj ca dx) ca (some (dictOf es n)))
   (u: ∀o',Upd dx (dictOf es n) o' ((pre++ [(a,instObj ca dx)])++(dx,dictOf es n)::post) ((pre++ [(a,instObj ca dx)])++(dx,o')::post))
   (g: ∀fs' es' n' h',gA C w fs' es'->fs'.length<=500->Fr Y.h₀ Y.L h' k.m->News Y.h₀ Y.L h' ((pre++ [(a,instObj ca dx)])++(dx,dictOf es' n')::post) ->Sta C Y.h₀ Y.L k w (H.set i (.inst q.1 fs')) h'):zeB Y k w H s i v q
theorem Sta.insAt (S:St Y k w H s) {i:Nat}{v:Value}{q:Nat×List (Nat×Val)} (hv:aF C w (.ref i) v) (ho:H[i]?.bind MObj.inst?=some q):zeB Y k w H s i v q:=by
 obtain ⟨o,hi,h2⟩:=bs ho;cases inst?_s h2;obtain ⟨a,e,ha⟩:=hv;obtain ⟨pre,en,post,⟨c,dx,es,n,rfl,hc,f,l⟩,hn,hd,g⟩:=S.at ha hi;have eq: ∀o',pre++([(a,instObj c dx),(dx,o')]++post)=(pre++ [(a,instObj c dx)])++(dx,o')::post:=λo'=>by rw [Qt];rfl
 rw [eq] at hn hd;exact ⟨a,c,dx,es,n,pre,post,e,hc,f,l,hn,InstAt.of_news hn (Js _ (QD _ (.head _))) (QD _ (.head _)),λo'=>iC hd,λfs' es' n' h' r l' F N=>g (.inst q.1 fs') [(a,instObj c dx),(dx,dictOf es' n')] h' rfl ⟨c,dx,es',n',rfl,hc,r,l'⟩ F (by rw [eq];exact N)⟩
theorem qK (O:cR C gl) (S:St Y k w H s) {x:Val}{vx:Value}{nm:Str} (hnm:aH nm=true) (hx:aF C w x vx):Ref Y k (VR C) (PySem.getAttr vx nm true) w s ((getAttr C.P H x (enc nm)).map λv=>(v,H)):=by
 refine .omap λv e=> .val S λQ E q=>?_;have att: ∀ {a ca dx:Addr}{c n:Nat}{es:List DictEntry},InstAt s.heap a (instObj ca dx) ca (some (dictOf es n)) ->C.ad.lookup c=some ca->getL nm es=some none->gW C.P c (enc nm)=some v->wpAny C.M Y.A (PySem.getAttr (.ref a) nm true) Q E s:=λI hc q2 e=>by
  obtain ⟨u,hu,e⟩:=bs e;obtain ⟨hf,e⟩:=gs e;cases e;obtain ⟨t4,t5,av,t6,t7,_,t9⟩:=(O.attrs _ _ _ hu).use hnm rfl hc;have zq35:=t9 (by cases hq:nJ C.P v;rfl;rw [hq] at hf;cases hf);exact get_cls S.fr Y.k I t4 t5 t6 zq35.1 zq35.2.1 zq35.2.2 q2 (q av _ (t7 w))
 revert e
 refine bM (aN λp hp e=>?_) (aN λa e1=>aN λc hc e=>?_)
 ·obtain ⟨i,e1,hp⟩:=bs hp
  cases ref?_s e1;obtain ⟨a,ca,dx,es,n,pre,post,rfl,hc,hF,hl,hN,I,_,_⟩:=S.insAt hx hp;cases hF.getL hnm with
  |none h1 h2=>rw [h1] at e;exact att I hc h2 e
  |some u rv h1 h2 r=>
   rw [h1] at e;obtain ⟨hfl,e⟩:=gs e;cases e;obtain ⟨t4,t5,attr,t6,t7,_,_,_⟩:=(O.flds _ _ hfl).use hnm rfl hc;exact get_own S.fr Y.k I t4 t5 t6 t7 h2 (xO r) (q rv _ r)
 ·cases top?_s e1
  obtain ⟨xa,rfl,hx⟩:=hx;obtain ⟨xa',ca,dx,n,i1,i2,i3,i4⟩:=O.insts _ _ hc;cases Qy.inj (i1.symm.trans hx);exact att (InstAt.of_K S.kIn i3 i4) i2 rfl e
theorem qJ (O:cR C gl) (S:St Y k w H s) {x:Val}{vx:Value}{nm:Str}{r:Nat×List Val}{pl:Sem Bool} (hnm:aH nm=true) (hx:aF C w x vx) {Q:Value×List Value->Shared->Prop}{E:Value->Shared->Prop}
  (h: ∀fa first tk,C.ad.lookup r.1=some fa->aC C w r.2 first->Q (.ref fa,first) {s with toks:=tk}):cP C.P H x (enc nm)=some r->wpAny C.M Y.A (PySem.getMethod vx nm pl) Q E s:=by
 have met: ∀ {a ca dx:Addr}{c n f:Nat}{es:List DictEntry},vx= .ref a->InstAt s.heap a (instObj ca dx) ca (some (dictOf es n)) ->C.ad.lookup c=some ca->getL nm es=some none->jN C.P c (enc nm)=some f->(f,[x])=r->wpAny C.M Y.A (PySem.getMethod vx nm pl) Q E s:=λea I hc q2 e er=>by
  obtain ⟨u,hu,e⟩:=bs e;obtain ⟨hf,e⟩:=gs e;cases top?_s e;have zq26:=(O.attrs _ _ _ hu).use hnm rfl hc;obtain ⟨av,t6,t7,t8,_⟩:=zq26.2.2;obtain ⟨ga,rfl,hg⟩:=t7 w;subst er ea;exact method_inst S.fr Y.k I zq26.1 t6 (t8 hf).1 q2 (h _ _ s.toks hg (.one hx))
 refine bM (aN λa e1 e=>?_) (aN λq hq=>cF λhnone=>bF λf hf e=>?_)
 ·cases top?_s e1
  obtain ⟨xa,e2,hxa⟩:=id hx;cases hi:C.P.instAt a with
  |some c=>
   rw [hi] at e;obtain ⟨f,hf,e⟩:=ms e;obtain ⟨xa',ca,dx,n,i1,i2,i3,i4⟩:=O.insts _ _ hi;cases Qy.inj (i1.symm.trans hxa);exact met e2 (InstAt.of_K S.kIn i3 i4) i2 rfl hf e
  |none=>
   rw [hi] at e;obtain ⟨f,hf,e⟩:=ms e;refine (bs hf).elim λu zq20=>?_;have hf:=zq20.2;obtain ⟨hfn,hf⟩:=gs hf;cases top?_s hf;obtain ⟨av,t6,t7,t8,_⟩:=((O.attrs _ _ _ zq20.1).use hnm rfl hxa).2.2;obtain ⟨ga,rfl,hg⟩:=t7 w;refine (t8 hfn).2.2.elim λmc zq16=>?_;subst e e2;exact method_of_cls S.fr Y.k (t8 hfn).2.1 (cls_val S.fr Y.k zq16.1 zq16.2.1 zq16.2.2 rfl (h _ _ _ hg .nil))
 ·obtain ⟨i,e1,hq⟩:=bs hq
  cases ref?_s e1;obtain ⟨a,ca,dx,es,n,pre,post,ea,hc,hF,hl,hN,I,_,_⟩:=S.insAt hx hq;cases hF.getL hnm with
  |none h1 h2=>exact met ea I hc h2 hf e
  |some u rv h1 h2 r'=>rw [h1] at hnone;cases hnone
theorem jL (O:cR C gl) (S:St Y k w H s) {x v:Val}{vx vv:Value}{nm:Str}{H':MH} (hnm:aH nm=true) (hx:aF C w x vx) (hv:aF C w v vv) {Q:Unit->Shared->Prop}{E:Value->Shared->Prop}
  (h: ∀s',Nxt Y k w w H' s s'->Q () s'):setAttr C.P H x (enc nm) v=some H'->wpAny C.M Y.A (PySem.setAttr vx nm vv) Q E s:=by
 refine aN λi e1=>aN λq hq=>cF λhfl e=>?_;cases ref?_s e1;cases e;have zq12:=S.insAt hx hq;obtain ⟨a,ca,dx,es,n,pre,post,rfl,hc,hF,hl,hN,I,U,g⟩:=zq12;have zq11:=(O.flds _ _ (Qb.mp hfl).1).use hnm rfl hc;obtain ⟨attr,t6,t7,t8,t9,t10⟩:=zq11.2.2;have hp:=hF.put (hsh:=XU C.w.params nm) (t:=s.toks+1) hnm hv;have hlen:=za4 q.2 (enc nm) v;have hl4:=QV.mp (Qb.mp hfl).2;exact set_dict S.fr Y.k hN I rfl t9 t10 t8 zq11.2.1 (by cases hF.getL hnm with|none _ h2=>rw [h2];rfl|some _ _ _ h2 _=>rw [h2];rfl:(getL nm es).isSome=true) rfl (U _) (by rw [hp.length];exact Qa (Qa hlen hl4) (Ql _ _)) λh' F' N'=>h _ ⟨.refl w,g _ _ _ h' hp (Qa (Qa hlen hl4) (Ql _ _)) F' N',rfl,rfl⟩
theorem lW {o:Expr}{attr:Str}{whole:Sem Value} (h:lX o=true):attributeBase o attr env whole=whole:=by
 cases o with
 |Call f as ks pos=>
  cases as with
  |nil=>cases h
  |cons x r=>cases f<;>rfl
 |_=>rfl
theorem zX (O:cR C gl) {v:Expr}{nm:Str}{iv:Ex}{pos:Pos} (hv:cH C d cx v iv) (hn:aH nm=true) (hb:lX v=true):cH C d cx (.Attribute v nm pos) (.attr iv (enc nm)):=by
 intro Y env k mE fr w H s p r;refine aD λx H1 e1 e Q E hq=>Attribute_any_ (hv Y env k mE fr w H s p _ e1 _ _ λw1 a1 s1 n1 r1=>qK O n1.st hn r1 r e _ _ λw2 a2 s2 n2 r2=>hq w2 a2 s2 (n1.trans n2) r2) ?_;show (do
   let o<-attributeBase v nm env (PySem.eval v env)
   standAt pos.atName
   let r<-holding [o] (PySem.getAttr o nm true)
   letTemporaryGo v o r
   pure r)=_
 rw [lW hb]
theorem dI {M:Model}{A:Around}{f:Value}{args:List (Bool×Sem Value)}{Q:Args->Shared->Prop}{E:Value->Shared->Prop} (hp:args.any (·.1)=false) (h:wpAny M A (spliced args) (λvs s'=>Q ⟨vs,[]⟩ s') E s):wpAny M A (evalArgs f true args []) Q E s:=by
 cases args with
 |nil=>
  unfold evalArgs;show wpAny M A (spliced [] >>=_) Q E s;exact wpAny_bind (wpAny_mono h (λvs s' h'=>wpAny_holding (wpAny_bind (wpAny_pure (wpAny_bind (wpAny_pure (wpAny_pure h')))))) λ_ _ x=>x)
 |cons p r=>
  obtain ⟨b,x⟩:=p;cases b with
  |false=>exact evalArgs_plain h
  |true=>cases hp
theorem d7 {M:Model}{A:Around}{K:Frag}{pos:Pos}{f:Value}{first:List Value}{es:List Expr}{irs:List Ex}{Q:Value->Shared->Prop}{E:Value->Shared->Prop} (hk:keepIn K f=true) (hc:Sds C d cx es irs)
  (h:wpAny M A (spliced (backTo pos (starEach es env))) (λvs s₁=>K.In s₁.heap/\wpAny M A (call f (first++vs)) Q E s₁) E s):wpAny M A (callWith pos f first (backTo pos (starEach es env)) []) Q E s:=
 callWith_of (by rw [bX hc];rfl) (keeps_K hk) (dI (bX hc) h)
def dK (C:Cfg) (d:Nat):Prop:=
 ∀ (Y:aQ C d 0) (k:Kp) (w:Wd) (H:MH) (s:Shared) (f:Nat) (fa:Addr) (as:List Val) (vs:List Value) (r:Val×MH),St Y k w H s->C.ad.lookup f=some fa->aC C w as vs->cG C.P fuel0 d f as H=some r->
  ∀R:Result->Shared->Prop,(∀w' rv s',Nxt Y k w w' r.2 s s'->aF C w' r.1 rv->R (.ok (.ret rv)) s') ->codeAny C.M Y.A (.call (.ref fa) ⟨vs,[]⟩) R s
theorem dK.wp (hC:dK C d) (Y:aQ C d e) {f:Nat}{fa:Addr}{as:List Val}{vs:List Value} (S:St Y k w H s) (hf:C.ad.lookup f=some fa) (r:aC C w as vs):Ref Y k (VR C) (call (.ref fa) vs) w s (cG C.P fuel0 d f as H):=
 λr' ev Q E hq=>wpAny_call (hC Y.toW k w H s f fa as vs r' S hf r ev _ λw' rv s' n r2=>hq w' rv s' ⟨n.le,n.st,n.same⟩ r2)
theorem vA (O:cR C gl) {f:Nat}{fa:Addr}{as:List Val}{H:MH}{r:Val×MH} (hf:C.ad.lookup f=some fa) (e:cG C.P fuel0 d f as H=some r):keepIn C.K (.ref fa)=true:=by
 cases d with
 |zero=>exact nos e
 |succ d=>
  obtain ⟨fn,hfn,e⟩:=bs e;obtain ⟨h1,fa',_,_,_,_,_,_,_,_,_,_,_,_,_,_,_,k1,_,_,_,k6,_,_,_⟩:=O.fns _ _ hfn;rw [h1,hf] at k1;cases k1;exact k6
theorem tQ {A : Around} {ca : Addr} {vs : List Value} {f : Option (List Env)} (h : A.frames = f) : (A.under (.builtin "type.__call__" ⟨.ref ca :: vs,[]⟩)).frames = f := by
 show pushEnvs (Code.envs (.builtin "type.__call__" ⟨.ref ca :: vs,[]⟩)) A.frames = _;rw [show Code.envs (.builtin "type.__call__" ⟨.ref ca :: vs,[]⟩) = [] by unfold Code.envs; rw [show Code.isFrame (.builtin "type.__call__" ⟨.ref ca :: vs,[]⟩) = false from rfl,if_neg Zk]];exact h
theorem yB {a n:Nat} (h:a+n+2+2<=900):a+1+n+2+0<=900:=by lia
theorem yA {a n:Nat} (h:a+n+190+5*2<=9900):a+1+n+190+5*0<=9900:=by lia
def aQ.underCls (Y:aQ C d 2) (ca:Addr) (vs:List Value):aQ C d 0 where
 A := Y.A.under (.builtin "type.__call__" ⟨.ref ca :: vs,[]⟩)
 h₀:=Y.h₀
 L:=Y.L
 envF:=Y.envF
 below:=Y.below.elim λA₀ h=>h.elim λbase h=>h.elim λouter h=>⟨A₀,base,outer,h.1,tQ h.2⟩
 k:=Y.k
 top:=Y.top
 frame:=Y.frame
 kind:=Y.kind
 handled:=Y.handled
 depth:=yB Y.depth
 units:=yA Y.units
theorem zQ (O:cR C gl) (hC:dK C d) {Y:aQ C d 2} (S:St Y k w H s) {c:Nat}{ca:Addr}{cl:Cl}{as:List Val}{vs:List Value} (hk:C.P.clsAt c=some cl) (hca:C.ad.lookup c=some ca) (r:aC C w as vs):Ref Y k (VR C) (call (.ref ca) vs) w s (zc1 (C.cx d) c cl as H):=by
 refine .opt λi hi=>λr'=>aD λx H' ev=>cF λhx e=>?_;cases isNone_s hx;cases e;intro Q E hq;obtain ⟨ca',fI,t1,t2,t3,t4,t5,t6⟩:=O.inits _ _ _ hk hi;cases Qy.inj (t1.symm.trans hca);obtain ⟨all,hn,add,_,_⟩:=S.ledger;refine call_cls S.fr Y.k hn t3 t4 t5 λx dx h' F' N' l1 l2=>?_;have hx4:4<=x:=Z3 λhlt=>by
  obtain ⟨o,ho⟩:=O.cfg.low x (Xx hlt)
  have:=(N' (x,instObj ca dx) (.head _)).2.2
  rw [Y.k _ _ ho] at this;cases this
 have le:w.le ⟨w.σ++ [x],w.tp⟩:=⟨Jb _ _,λ_ x=>x⟩;have hS:Sta C Y.h₀ Y.L k ⟨w.σ++ [x],w.tp⟩ (H++ [.inst c []]) h':=by
  refine add x (.inst c []) [(x,instObj ca dx),(dx,dictOf [] 0)] h' ⟨ca,dx,[],0,rfl,hca,rfl,Qs _⟩ F' N' ?_ ?_ hx4
  ·exact Qx.mpr ⟨λh=>absurd (Qw.mp h) (JL l2),eY _⟩
  ·intro p hp q hq
   have:=l1 q hq
   rcases QH.mp hp with rfl|hp
   ·exact JL (Q9 this l2)
   ·rw [Qw.mp hp];exact JL this
 have hr:(w.σ++ [x])[H.length]?=some x:=by rw [<-S.len];exact Jh
 exact hC (Y.underCls ca vs) k ⟨w.σ++ [x],w.tp⟩ (H++ [MObj.inst c []]) {s with heap:=h'} i fI (.ref H.length::as) (.ref x::vs) (.none,H') hS t2 (.cons ⟨x,rfl,hr⟩ (r.mono le)) ev _ λw' rv s' n r2=>⟨r2,hq w' _ s' ⟨le.trans n.le,n.st,n.same.1,n.same.2⟩ ⟨x,rfl,n.le.get hr⟩⟩
theorem zfd (O:cR C gl) {n:Nat}{nm:String} (hb:biTab.lookup n=some nm) (S:St Y k w H s) {as:List Val}{vs:List Value} (r:aC C w as vs):Ref Y k (VR C) (call (.builtin nm) vs) w s (pI n as H):=
 .alt (.grd λh => iD (t:=biTab) h hb (y:="len") rfl ▸ zcL S r) (.alt (.grd λh => iD (t:=biTab) h hb (y:="max") rfl ▸ zcK S r) (.alt (.grd λh => iD (t:=biTab) h hb (y:="min") rfl ▸ zcJ S r) (.grd λh => iD (t:=biTab) h hb (y:="sorted") rfl ▸ O.srt O.cfg S r)))
theorem wV (O:cR C gl) (hC:dK C d) {es:List Expr}{irs:List Ex} (hc:Sds C d cx es irs) {Y:aQ C d 2}{pos:Pos}{g:Val}{gv:Value}{vs:List Val}{H1:MH} (p:Pl Y cx env k mE fr w H s) (hg:aF C w g gv) (e1:eG (C.cx d) irs fr H=some (vs,H1)):Ref Y k (VR C) (callWith pos gv [] (backTo pos (starEach es env)) []) w s (aP (C.cx d) g vs H1):=by
 have args: ∀ {Q:List Value->Shared->Prop}{E:Value->Shared->Prop},(∀w1 a1 s1,Nxt Y k w w1 H1 s s1->aC C w1 vs a1->Q a1 s1) ->wpAny C.M Y.A (spliced (backTo pos (starEach es env))) Q E s:=λhq=>fQ hc Y env k mE fr w H s pos p _ e1 _ _ hq;refine .alt (.opt λf hf=> .case (λhcl=>?_) (λcl hcl=>?_)) (.alt (.opt λn hn=>?_) (.opt λn hn=>?_))
 ·cases top?_s hf
  refine Jd hg λga zq6=>?_;obtain rfl:=zq6.1;have hga:=zq6.2;intro r e Q E hq;exact d7 (vA O hga e) hc (args λw1 a1 s1 n1 r1=>⟨n1.st.kIn,hC.wp Y n1.st hga r1 r e Q E λw2 a2 s2 n2 r2=>hq w2 a2 s2 (n1.trans n2) r2⟩)
 ·cases top?_s hf
  obtain ⟨ga,rfl,hga⟩:=hg;intro r e Q E hq;refine (bs e).elim λi zq4=>?_;obtain ⟨ca',fI,t1,t2,t3,t4,t5,t6⟩:=O.inits _ _ _ hcl zq4.1;cases Qy.inj (t1.symm.trans hga);exact d7 t6 hc (args λw1 a1 s1 n1 r1=>⟨n1.st.kIn,zQ O hC n1.st hcl hga r1 r e Q E λw2 a2 s2 n2 r2=>hq w2 a2 s2 (n1.trans n2) r2⟩)
 ·cases bi?_s hn
  obtain ⟨nm,rfl,hb⟩:=hg;exact λr e Q E hq=>callWith_builtin (bX hc) (dI (bX hc) (args λw1 a1 s1 n1 r1=>zfd O hb n1.st r1 r e Q E λw2 a2 s2 n2 r2=>hq w2 a2 s2 (n1.trans n2) r2))
 ·cases ty?_s hn
  obtain ⟨nm,rfl,hb⟩:=hg;exact λr e Q E hq=>PySem.callWith_type (bX hc) (dI (bX hc) (args λw1 a1 s1 n1 r1=>zfc hb n1.st r1 r e Q E λw2 a2 s2 n2 r2=>hq w2 a2 s2 (n1.trans n2) r2))
theorem oH (O:cR C gl) (hC:dK C d) {x:Str}{xp pos:Pos}{ig:Ex}{es:List Expr}{irs:List Ex} (hc:Sds C d cx es irs) (hx:cH C d cx (.Name x xp) ig):cH C d cx (.Call (.Name x xp) es [] pos) (.call ig irs):=
 λY env k mE fr w H s p r=>aD λg H1 e1=>aD λvs H2 e2 e Q E hq=>Call_ (hx Y env k mE fr w H s p _ e1 _ _ λw1 a1 s1 n1 r1=>wV O hC hc (p.next n1) r1 e2 r e Q E λw2 a2 s2 n2 r2=>hq w2 a2 s2 (n1.trans n2) r2)
theorem zaG {n:Nat}{es:List Expr}{irs:List Ex}{pos:Pos} (hc:Sds C d cx es irs) (hn:n<30):methodCallForm n (backTo pos (starEach es env)) []=true:=by
 unfold methodCallForm;rw [Jw,Jw];refine ⟨⟨?_,rfl⟩,decide_eq_true hn⟩;rw [Je];intro x hx
 have:=(ZS.mp (bX (env:=env) (pos:=pos) hc)) x hx
 cases hb:x.1 with
 |false=>rfl
 |true=>exact absurd hb this
theorem oI (O:cR C gl) (hC:dK C d) {o:Expr}{nm:Str}{apos pos:Pos}{io:Ex}{es:List Expr}{irs:List Ex} (hc:Sds C d cx es irs) (hlen:es.length<=20) (ho:cH C d cx o io) (hn:aH nm=true) (hb:lX o=true)
  (hp:(apos.endLine==pos.line)=true):cH C d cx (.Call (.Attribute o nm apos) es [] pos) (.meth io (enc nm) irs):=by
 intro Y env k mE fr w H s p r;refine aD λx H1 e1=>aD λvs H2 e2 e Q E hq=>?_;show wpAny C.M Y.A (do
  let ov<-attributeBase o nm env (PySem.eval o env)
  standAt apos.atName
  methodCall o nm apos pos env ov (es.length+0) (backTo pos (starEach es env)) (backToKw pos (keywordEach [] env))) Q E s
 rw [lW hb];refine wpAny_bind (ho Y env k mE fr w H s p _ e1 _ _ λw1 a1 s1 n1 r1=>wpAny_bind (wpAny_standAt ?_));unfold methodCall;rw [show methodCallForm (es.length+0) (backTo pos (starEach es env)) (backToKw pos (keywordEach [] env))=true from zaG hc (Qk hlen (by decide))];unfold calleeOf methodCallPos;rw [if_pos rfl];refine wpAny_bind (wpAny_holding ?_);cases hm:cP C.P H1 x (enc nm) with
 |some q=>
  have e:cG C.P fuel0 d q.1 (q.2++vs) H2=some r:=by
   have e':Qq (motive:=λ_=>Option (Val×MH)) (cP C.P H1 x (enc nm)) (jS x (enc nm) vs H1 H2) (λp=>cG C.P fuel0 d p.1 (p.2++vs) H2)=some r:=e;rw [hm] at e';exact e'
  refine qJ O n1.st hn r1 (λfa first tk hfa hself=>?_) hm;rw [if_pos (by rw [hp];rfl)];refine wpAny_bind (wpAny_pure ?_);have n1':=n1.trans (.toks n1.st tk);exact d7 (s:={s1 with toks:=tk}) (vA O hfa e) hc (fQ hc Y env k mE fr w1 H1 {s1 with toks:=tk} pos (p.next n1') _ e2 _ _ λw2 a2 s2 n2 r2=>⟨n2.st.kIn,hC.wp Y n2.st hfa (aC.append r2 (hself.mono n2.le)) r e Q E λw3 a3 s3 n3 r3=>hq w3 a3 s3 ((n1'.trans n2).trans n3) r3⟩)
 |none=>
  have e:jS x (enc nm) vs H1 H2=some r:=by
   have e':Qq (motive:=λ_=>Option (Val×MH)) (cP C.P H1 x (enc nm)) (jS x (enc nm) vs H1 H2) (λp=>cG C.P fuel0 d p.1 (p.2++vs) H2)=some r:=e;rw [hm] at e';exact e'
  refine zW hn n1.st r1 e _ _ _ λid hid=>?_;rw [if_pos (by rw [hp];rfl)];refine wpAny_bind (wpAny_pure ?_);exact callWith_builtin (bX hc) (dI (bX hc) (fQ hc Y env k mE fr w1 H1 s1 pos (p.next n1) _ e2 _ _ λw2 a2 s2 n2 r2=>hid w2 s2 a2 n2.le n2.st r2 Q E λw3 a3 s3 n3 r3=>hq w3 a3 s3 ((n1.trans n2).trans n3) r3))
end
end Internal
namespace Internal
open PySem PySem.W PySem.Calls PyProof.Rows
theorem gS {prog:Program}{w:World}{A:Around}{s:Shared}{elt target iter:Expr}{ifs:List Expr}{scope:Scope}{pos:Pos}{it acc:Value}{env:Env}{R:Result->Shared->Prop} (I:Nat->Shared->Prop)
  (turn: ∀n s,I n s->wpAny (model prog w) A (pyNext it) (λr s₁=>match r with
   |none=>R (.ok .next) s₁
   |some v=>wpAny (model prog w) A (letOwnedTupleGo target it v) (λ_ s₁'=>wpAny (model prog w) A (assign target env v) (λ_ s₂=>
     wpAny (model prog w) A (forIn ifs true λc r=>if r=true then do let ok<-PySem.isTrue c env (PySem.eval c env);pure (ForInStep.yield ok) else pure (ForInStep.yield r)) (λok s₃=>
      if ok=true then wpAny (model prog w) A (PySem.eval elt env) (λx s₄=>
       wpAny (model prog w) A (call (.builtin "list.append") [acc,x]) (λ_ s₅ => ∃ m,m < n /\ I m s₅) (notedBy (model prog w) A env λe s' => R (.error e) s') s₄) (notedBy (model prog w) A env λe s' => R (.error e) s') s₃
      else ∃m,m<n/\I m s₃) (notedBy (model prog w) A env λe s'=>R (.error e) s') s₂)
     (notedBy (model prog w) A env λe s'=>R (.error e) s') s₁') (notedBy (model prog w) A env λe s'=>R (.error e) s') s₁) (notedBy (model prog w) A env λe s'=>R (.error e) s') s)
  (n:Nat) (h:I n s):codeAny (model prog w) A (.compLoop (.ListComp elt [⟨target,iter,ifs,0⟩] scope pos) 0 it acc env) R s:=by
 refine codeAny_loop rfl I (λn s hI=>?_) n h;show wpAny _ A ((compTurn (.ListComp elt [⟨target,iter,ifs,0⟩] scope pos) 0 it acc env).onRaise (λx=>do noteFrame x env;theTreesLotGoes x)) _ _ s;refine wpAny_noted ?_;rw [compTurn_list];refine wpAny_bind (wpAny_standAt (wpAny_bind (wpAny_mono (turn n s hI) (λr s₁ h₁=>?_) λ_ _ h'=>h')));cases r with
 |none=>exact wpAny_pure h₁
 |some v=>
  refine wpAny_bind (wpAny_mono h₁ (λ_ s₁' h₁'=>?_) λ_ _ h'=>h');refine wpAny_bind (wpAny_mono h₁' (λ_ s₂ h₂=>wpAny_bind (wpAny_mono h₂ (λok s₃ h₃=>?_) λ_ _ h'=>h')) λ_ _ h'=>h');cases ok with
  |false=>exact wpAny_pure ⟨rfl,h₃⟩
  |true=>exact wpAny_bind (wpAny_bind (wpAny_mono h₃ (λx s₄ h₄=>wpAny_bind (wpAny_mono h₄ (λ_ s₅ h₅=>wpAny_pure (wpAny_pure ⟨rfl,h₅⟩)) λ_ _ h'=>h')) λ_ _ h'=>h'))
theorem rM (outer:List (Str×NameKind)) (sc:Scope) (x:Str):(hO outer sc).lookup x=(sc.names.lookup x).map λk=>if (k== .free && outer.lookup x==some .cell)=true then .cell else k:=by
 unfold hO
 generalize sc.names=l
 induction l with
 |nil=>rfl
 |cons p l ih=>
  rw [QC,Jg,Jg];cases hxy:x==p.1 with
  |true=>rw [beq_iff_eq.mp hxy];rfl
  |false=>exact ih
def c8 (env:Env) (p:Str×NameKind) (cs:List (Str×Addr)):List (Str×Addr):=if p.2== .free then (match env.cells.lookup p.1 with|some a=>(p.1,a)::cs|none=>cs) else cs
theorem zdA {env:Env}: ∀ (l:List (Str×NameKind)) (acc:List (Str×Addr)),(∀p∈l,p.2= .free->(env.cells.lookup p.1).isSome=true) ->
  (forIn l acc λx r=>match x with
   |(name,kind)=>if (kind==NameKind.free)=true then do let a<-cellOf env name;pure (ForInStep.yield ((name,a)::r)) else pure (ForInStep.yield r):Sem (List (Str×Addr)))=pure (l.foldl (λcs p=>c8 env p cs) acc):=by
 intro l
 induction l with
 |nil=>exact λacc _=>rfl
 |cons p l ih=>
  intro acc h;obtain ⟨n,k⟩:=p;rw [KD,ZL]
  dsimp only
  by_cases hk:(k==NameKind.free)=true
  ·rw [if_pos hk]
   obtain ⟨a,ha⟩:=Ji.mp (h (n,k) (.head _) (beq_iff_eq.mp hk));rw [(by unfold cellOf;rw [show env.cells.lookup n=some a from ha]:cellOf env n=pure a),pure_bind,pure_bind]
   dsimp only
   rw [(λacc=>ih acc λp hp=>h p (.tail _ hp))]
   congr 2
   unfold c8;rw [if_pos hk]
   dsimp only at ha ⊢
   rw [ha]
  ·rw [if_neg hk,pure_bind]
   dsimp only
   rw [(λacc=>ih acc λp hp=>h p (.tail _ hp))]
   congr 2
   unfold c8;rw [if_neg hk]
theorem yC {env:Env}{x:Str}{c:Addr} (hc:env.cells.lookup x=some c): ∀ (l:List (Str×NameKind)) (acc:List (Str×Addr)),((x,NameKind.free)∈l\/acc.lookup x=some c) ->(l.foldl (λcs p=>c8 env p cs) acc).lookup x=some c:=by
 intro l
 induction l with
 |nil=>exact λacc h=>h.elim (λh=>absurd h Qr) id
 |cons p l ih=>
  intro acc h;rw [ZL];refine ih _ ?_;have keep:acc.lookup x=some c->(c8 env p acc).lookup x=some c:=λh=>by
   unfold c8;split
   ·split
    ·rename_i a ha
     rw [Jg];cases hxy:x==p.1 with
     |true=>rw [beq_iff_eq.mp hxy] at hc;exact ha.symm.trans hc
     |false=>exact h
    ·exact h
   ·exact h
  rcases h with h|h
  ·rcases QH.mp h with e|h
   ·refine .inr ?_
    rw [<-e];unfold c8
    dsimp only
    rw [hc,if_pos (show (NameKind.free==NameKind.free)=true from rfl)];show YF x ((x,c)::acc)=some c;rw [Jg,beq_self_eq_true]
   ·exact .inl h
  ·exact .inr (keep h)
theorem tR {scope:Scope}{env:Env} (h: ∀p∈scope.names,p.2= .free->(env.cells.lookup p.1).isSome=true): ∃cl,closureFor scope env=pure cl/\∀x c,(x,NameKind.free)∈scope.names->env.cells.lookup x=some c->cl.lookup x=some c:=by
 refine ⟨scope.names.foldl (λcs p=>c8 env p cs) [],?_,λx c hx hc=>yC hc _ _ (.inl hx)⟩
 have:=zdA (env:=env) scope.names [] h
 unfold closureFor;rw [<-this];simp only [bind_pure]
structure zdR (cx:CC) (sc:Scope) (xs:List Str):Prop where
 kind:sc.kind= .function
 nocell: ∀p∈sc.names,p.2≠ .cell
 loc: ∀p∈sc.names,p.2= .local->sc.names.lookup p.1=some .local/\(p.1∈xs\/cx.vars.lookup p.1=none)
 free: ∀p∈sc.names,p.2= .free->sc.names.lookup p.1=some .free/\cx.sc.lookup p.1=some .cell
 nd:xs.Nodup
 xs: ∀x∈xs,sc.names.lookup x=some .local
theorem uU {cx:CC}{sc:Scope}{xs:List Str} (h:lO cx sc xs=true):zdR cx sc xs:=by
 unfold lO at h;simp only [Jw,Je,beq_iff_eq,KG,bne_iff_ne,ne_eq,decide_eq_true_eq,ZP,JO] at h;obtain ⟨⟨⟨h1,h2⟩,h3⟩,h4⟩:=h;exact ⟨h1,λp hp=>(h2 p hp).1.1,λp hp hl=>(h2 p hp).1.2.elim (absurd hl) id,λp hp hf=>(h2 p hp).2.elim (absurd hf) id,h4,h3⟩
def pR (cx:CC):Prop:= ∀x i,cx.vars.lookup x=some i->i<cx.next
theorem tD {α β:Type} [BEq α] (a:α) (r:List (α×β)): ∀ (l:List (α×β)),(l++r).lookup a=(l.lookup a).or (r.lookup a):=by
 intro l
 induction l with
 |nil=>rfl
 |cons p l ih=>
  rw [ZD,Jg,Jg];cases a==p.1 with
  |true=>rfl
  |false=>exact ih
theorem g9 (x:Str): ∀ (l:List Str) (n:Nat),(∀i,(l.zip (QR n l.length)).lookup x=some i-> ∃j,i=n+j/\l[j]?=some x)/\(x∉l->(l.zip (QR n l.length)).lookup x=none)/\(x∈l->((l.zip (QR n l.length)).lookup x).isSome=true):=by
 intro l
 induction l with
 |nil=>exact λn=>⟨λi h=>nos h,λ_=>rfl,λh=>absurd h Qr⟩
 |cons y l ih=>
  intro n;have zq25:=ih (n+1);rw [Jx,Xy,ZI,Jg];cases hxy:x==y with
  |true=>exact ⟨λi h=>⟨0,(Qy.inj h).symm,by rw [beq_iff_eq.mp hxy];rfl⟩,λh=>absurd (beq_iff_eq.mp hxy▸List.mem_cons_self) h,λ_=>rfl⟩
  |false=>
   refine ⟨λi h=>?_,λh=>zq25.2.1 λh'=>h (.tail _ h'),λh=>zq25.2.2 ((QH.mp h).resolve_left (beq_eq_false_iff_ne.mp hxy))⟩;refine (zq25.1 i h).elim λj zq24=>?_;exact ⟨j+1,zq24.1.trans (by rw [QY,Ju 1]),zq24.2⟩
theorem fV {cx:CC}{sc:Scope}{xs:List Str}{x:Str}{i:Nat} (h:(inComp cx sc xs).vars.lookup x=some i):(∃j,i=cx.next+j/\xs[j]?=some x)\/(x∉xs/\cx.vars.lookup x=some i):=by
 have h:(xs.zip (QR cx.next xs.length)++cx.vars).lookup x=some i:=h;have zq23:=g9 x xs cx.next;rw [tD] at h;by_cases hx:x∈xs
 ·refine (Ji.mp (zq23.2.2 hx)).elim λj zq22=>?_
  rw [zq22] at h;cases h;exact .inl (zq23.1 _ zq22)
 ·rw [zq23.2.1 hx] at h
  exact .inr ⟨hx,h⟩
theorem pR.inComp {cx:CC} (h:pR cx) (sc:Scope) (xs:List Str):pR (inComp cx sc xs):=by
 intro x i hi;show i<cx.next+xs.length;rcases fV hi with ⟨j,rfl,hj⟩| ⟨_,hi⟩
 ·exact QK (Qn.mp hj).1 _
 ·exact Qf (h x i hi) (Qd _ _)
theorem jZ {cx:CC}{x:Str}{i:Nat} (h:cW cx x=some i):(cx.sc.lookup x=some .local\/cx.sc.lookup x=some .cell)/\cx.vars.lookup x=some i:=by
 exact ⟨(KJ.mp (gs h).1).imp beq_iff_eq.mp beq_iff_eq.mp,(gs h).2⟩
theorem zZ {fr:Frame}{i j:Nat}{v u:Val} (h:(fr.set i (some v))[j]?=some (some u)):(i=j/\u=v)\/(i≠j/\fr[j]?=some (some u)):=by
 by_cases hij:i=j
 ·subst hij
  rw [List.getElem?_set] at h;simp only [if_true] at h
  split at h
  ·cases h;exact .inl ⟨rfl,rfl⟩
  ·cases h
 ·rw [QO hij] at h
  exact .inr ⟨hij,h⟩
theorem kT (i:Nat) (u:Val): ∀ (vs:List Val) (n:Nat) (fr:Frame),(g7 (QR n vs.length) vs fr)[i]?=some (some u) ->(∃j,i=n+j/\vs[j]?=some u)\/((i<n\/n+vs.length<=i)/\fr[i]?=some (some u)):=by
 intro vs
 induction vs with
 |nil=>exact λn fr h=> .inr ⟨Nat.lt_or_ge i n,h⟩
 |cons v vs ih=>
  intro n fr h;rw [Jx,Xy] at h;rcases ih (n+1) (fr.set n (some v)) h with ⟨j,h1,h2⟩| ⟨h1,h2⟩
  ·exact .inl ⟨j+1,by lia,h2⟩
  ·rcases zZ h2 with ⟨e,rfl⟩| ⟨hne,h3⟩
   ·exact .inl ⟨0,e.symm,rfl⟩
   ·exact .inr ⟨by rw [Jx];lia,h3⟩
section
variable {C:Cfg}{d e:Nat}{Y:aQ C d e}{k:Kp}{w:Wd}{H:MH}{s:Shared}{cx:CC}{env:Env}{mE:Str->Option Value}{fr:Frame}
theorem oF {A:Around}{I:Addr}{io:Obj}{z:It}{i:Nat} (hI:s.heap.get? I=some io) (R:d5 C w io i z) {Q:Value->Shared->Prop}{E:Value->Shared->Prop} (h:Q (.ref I) s):wpAny C.M A (pyIter (.ref I)) Q E s:=by
 cases z with
 |fs _=>obtain ⟨la,_,ic⟩:=R;exact wpAny_pyIter_listiter ⟨io,hI,ic.1,ic.2⟩ h
 |ls _=>obtain ⟨la,_,ic⟩:=R;exact wpAny_pyIter_listiter ⟨io,hI,ic.1,ic.2⟩ h
 |tp _=>obtain ⟨la,_,ic⟩:=R;exact wpAny_pyIter_tupleiter ⟨io,hI,ic.1,ic.2⟩ h
 |sq _=>
  obtain ⟨T,t,hT,ic⟩:=R.2;rcases hT with rfl|rfl
  ·exact wpAny_pyIter_striter_ascii ⟨io,hI,ic.1,ic.2⟩ h
  ·exact wpAny_pyIter_striter_wide ⟨io,hI,ic.1,ic.2⟩ h
 |dk _ _ _=>obtain ⟨la,_,ic,id⟩:=R;exact wpAny_pyIter_keyiter ⟨io,hI,ic,id⟩ h
 |rg _=>obtain ⟨_,_,_,rfl⟩:=R;exact wpAny_pyIter_rangeiter hI h
abbrev tupKinds : List String := ["enumerate","zip","dict_itemiterator","dict_reverseitemiterator","odict_iterator","itertools.zip_longest","itertools.pairwise"]
theorem d5.cls {io:Obj}{z:It}{i:Nat} (R:d5 C w io i z): ∃T vs,io.cls= .type T/\io.data= .fields vs/\tupKinds.contains T=false:=by
 cases z with
 |fs _=>obtain ⟨la,_,ic⟩:=R;exact ⟨_,_,ic.1,ic.2,by decide⟩
 |ls _=>obtain ⟨la,_,ic⟩:=R;exact ⟨_,_,ic.1,ic.2,by decide⟩
 |tp _=>obtain ⟨la,_,ic⟩:=R;exact ⟨_,_,ic.1,ic.2,by decide⟩
 |sq _=>obtain ⟨_,T,t,hT,ic⟩:=R;rcases hT with rfl|rfl<;>exact ⟨_,_,ic.1,ic.2,by decide⟩
 |dk _ _ _=>obtain ⟨la,_,ic,id⟩:=R;exact ⟨_,_,ic,id,by decide⟩
 |rg _=>obtain ⟨_,_,_,rfl⟩:=R;exact ⟨_,_,rfl,rfl,by decide⟩
theorem lE {A:Around}{I:Addr}{io:Obj} (hI:s.heap.get? I=some io) {tg:Expr}{v:Value} (R: ∃T vs,io.cls= .type T/\io.data= .fields vs/\tupKinds.contains T=false) {Q:Unit->Shared->Prop}{E:Value->Shared->Prop} (h:Q () s):wpAny C.M A (letOwnedTupleGo tg (.ref I) v) Q E s:=by
 refine R.elim λT zq19=>zq19.elim λvs zq20=>?_;have key:wpAny C.M A (do
  let (.ref r,.ref a):=((Ww I),v)|return
  let o<-load r
  match o.cls,o.data with
  | .type n,.fields vs=>
   if ["enumerate","zip","dict_itemiterator","dict_reverseitemiterator","odict_iterator","itertools.zip_longest","itertools.pairwise"].contains n && vs[0]? == some (rawInt a) then
    rule "for.unpacks-the-owned-tuple"
    updateField r 0 .none
  |_,_=>pure ()) Q E s:=by
  cases v with
  |ref b=>
   refine wpAny_bind (wpAny_load hI ?_);rw [zq20.1,zq20.2.1]
   dsimp only
   rw [show (["enumerate","zip","dict_itemiterator","dict_reverseitemiterator","odict_iterator","itertools.zip_longest","itertools.pairwise"].contains T) = false from zq20.2.2];exact wpAny_pure h
  |_=>exact wpAny_pure h
 cases tg<;>first|exact wpAny_pure h|exact key
abbrev kM (env:Env) (ifs:List Expr) (b:Bool):Sem Bool:=forIn ifs b λc r=>if r=true then do let ok<-PySem.isTrue c env (PySem.eval c env);pure (ForInStep.yield ok) else pure (ForInStep.yield r)
theorem tests_false: ∀ (ifs:List Expr),kM env ifs false=pure false:=by
 intro ifs
 induction ifs with
 |nil=>rfl
 |cons c r ih=>
  unfold kM;rw [KD];simp only [Kb,if_false,pure_bind];exact ih
theorem wM {ifs:List Expr}{irs:List Ex} (h:Sds C d cx ifs irs): ∀ (Y:aQ C d 2) (env:Env) (k:Kp) (mE:Str->Option Value) (fr:Frame) (w:Wd) (H:MH) (s:Shared),Pl Y cx env k mE fr w H s->Ref Y k EqR (kM env ifs true) w s (lN (C.cx d) irs fr H):=by
 induction h with
 |nil=>exact λY env k mE fr w H s p=> .pure' p.st rfl
 |cons he _ ih=>
  intro Y env k mE fr w H s p r;refine aD λb H1 e1 e Q E hq=>?_;unfold kM;rw [KD];simp only [if_true];refine wpAny_bind (wpAny_bind (he.ts Y env k mE fr w H s p _ e1 _ _ λw1 a1 s1 n1 r1=>wpAny_pure ?_));rw [show a1=b from r1];cases b with
  |true=>exact ih Y env k mE fr w1 H1 s1 (p.next n1) _ e _ _ λw2 a2 s2 n2 r2=>hq w2 a2 s2 (n1.trans n2) r2
  |false=>
   cases e;show wpAny C.M Y.A (kM env _ false) Q E s1;rw [tests_false];exact wpAny_pure (hq w1 _ s1 n1 rfl)
theorem mL {sc:Scope} (hk:env.scope.kind= .function) (hs:env.scope.names=cx.sc):(relabel sc env).names=hO cx.sc sc:=by
 unfold relabel hO
 dsimp only
 apply Jq
 intro p _;rw [hk,<-hs];unfold Env.kindOf;obtain ⟨n,k⟩:=p
 dsimp only
 rw [show (ScopeKind.function==ScopeKind.function)=true from rfl,Ya]
 split<;>rfl
theorem fB {sc:Scope}{xs:List Str} (O:zdR cx sc xs) {x:Str}:((hO cx.sc sc).lookup x=some .local->sc.names.lookup x=some .local)/\((hO cx.sc sc).lookup x=some .cell->sc.names.lookup x=some .free/\cx.sc.lookup x=some .cell):=by
 rw [rM];refine ⟨bF λk hk e=>?_,bF λk hk e=>?_⟩
 ·split at e
  ·cases e
  ·rw [hk,e]
 ·split at e
  ·rename_i hc
   rw [Jw,beq_iff_eq,beq_iff_eq] at hc;rw [hk,hc.1];exact ⟨rfl,hc.2⟩
  ·exact absurd e (O.nocell _ (bB hk))
theorem Pl.inner (p:Pl Y cx env k mE fr w H s) {sc:Scope}{xs:List Str} (O:zdR cx sc xs) (hn:pR cx) {cl:List (Str×Addr)} (hcl: ∀x c,(x,NameKind.free)∈sc.names->env.cells.lookup x=some c->cl.lookup x=some c) {N:Addr}{oN:Obj}{k':Kp} (hk:k'.ce=k.ce) {mN:Str->Option Value} (hm:(N,oN)∈k'.ex) (hns:NsO oN mN)
  {w':Wd} (le:w.le w') {H':MH}{s':Shared} (S':St Y k' w' H' s') {mvs:List Val}{vs:List Value} (r:aC C w' mvs vs) (hl:mvs.length=xs.length) (hv: ∀ (j:Nat) x,xs[j]?=some x->mN x=vs[j]?):Pl Y (inComp cx sc xs) (compEnvC sc cl N env) k' mN (g7 (QR cx.next xs.length) mvs fr) w' H' s':=by
 refine ⟨⟨O.kind,p.b.gl,p.b.bl,mL p.b.kind p.b.sc,λx hx=>?_,.inr ⟨oN,hm,hns⟩⟩,λx i v hx hvv=>?_,S'⟩
 ·refine (p.b.cells x ((fB O).2 hx).2).elim λc zq15=>zq15.elim λo zq16=>zq16.elim λv₀ zq17=>?_
  exact ⟨c,o,v₀,hcl x c (bB ((fB O).2 hx).1) zq17.1,hk▸zq17.2.1,zq17.2.2⟩
 ·obtain ⟨hkd,hi⟩:=jZ hx
  rw [<-hl] at hvv;rcases hkd with hkd|hkd
  ·have hloc:=(fB O).1 hkd
   rcases fV hi with ⟨j,rfl,hj⟩| ⟨hne,hi'⟩
   ·have hjl:=(Qn.mp hj).1
    rcases kT _ _ _ _ _ hvv with ⟨j',e,hj'⟩| ⟨hlt,_⟩
    ·cases YS e
     refine (r.get hj').elim λrv zq13=>?_;exact .loc rv hkd ((hv _ _ hj).trans zq13.1) zq13.2
    ·lia
   ·rcases (O.loc _ (bB hloc) rfl).2 with h|h
    ·exact absurd h hne
    ·rw [h] at hi';cases hi'
  ·have zq12:=(fB O).2 hkd
   rcases fV hi with ⟨j,rfl,hj⟩| ⟨_,hi'⟩
   ·have:=O.xs x (Qe hj)
    rw [zq12.1] at this;cases this
   ·have hlt:=hn x i hi'
    rcases kT _ _ _ _ _ hvv with ⟨j',e,hj'⟩| ⟨_,hv'⟩
    ·lia
    ·have hvar:cW cx x=some i:=by unfold cW;rw [zq12.2];exact hi'
     cases (p.f x i v hvar hv').mono le with
     |loc _ h3 _ _=>rw [zq12.2] at h3;cases h3
     |cell rv c o _ e1 e2 e3 e4=>exact .cell rv c o hkd (hcl x c (bB zq12.1) e1) (hk▸e2) e3 e4
abbrev pB (env:Env) (x:Str) (f:Value->Sem Unit):Prop:= ∀ (M:Model) (A:Around) (v:Value) (Q:Unit->Shared->Prop) (E:Value->Shared->Prop) (s:Shared),wpAny M A (storeName env x v) Q E s->wpAny M A (f v) Q E s
theorem jD {es:List Expr}{xs:List Str} (h:bZ (λe x=>eZ e=some x) es xs):bZ (pB env) xs ((assignEach es env).map (·.2))/\(assignEach es env).length=xs.length/\(assignEach es env).findIdx? (·.1)=none:=by
 induction h with
 |nil=>exact ⟨.nil,rfl,rfl⟩
 | @cons e x es xs h _ ih=>
  obtain ⟨p,hp,rfl⟩:=ms h;cases eI hp;refine ⟨.cons (λ_ _ _ _ _ _ z=>PySem.wpAny_assign_Name z) ih.1,congrArg (· +1) ih.2.1,?_⟩;show Wc _ ((false,assign (.Name p.1 p.2) env)::assignEach es env)=none;rw [Xd];simp only [Kb,if_false,ih.2.2,Yw]
theorem zd7 {t:Expr}{q:List Str×Bool} (h:jI t=some q):(∃x p,t= .Name x p/\q=([x],false))\/∃es n p,t= .Tuple es n p/\q.2=true/\bZ (λe x=>eZ e=some x) es q.1:=by
 revert h
 refine bM (bF λp hp e=>?_) (aN λp hp=>bF λxs hx e=>?_)
 ·exact .inl ⟨p.1,p.2,eI hp,e.symm⟩
 ·subst e
  exact .inr ⟨p.1,p.2.1,p.2.2,kA hp,rfl,e9 hx⟩
inductive zeD (fr fr1:Frame) (tg:List Nat) (many:Bool) (v:Val):Prop
 |mk (mvs:List Val) (l:mvs.length=tg.length) (e:fr1=g7 tg mvs fr) (t:many=true->v= .tup mvs) (f:many=false->mvs= [v]):zeD fr fr1 tg many v
theorem vP {tg:List Nat}{many:Bool}{v:Val}{fr1:Frame} (h:dY fr tg many v=some fr1):zeD fr fr1 tg many v:=by
 cases many with
 |true=>
  obtain ⟨vs,h1,h⟩:=bs (o:=v.tup?) h;exact ⟨vs,beq_iff_eq.mp (gs h).1,(Qy.inj (gs h).2).symm,λ_=>tup?_s h1,λq=>Yh q⟩
 |false=>
  exact ⟨[v],(beq_iff_eq.mp (gs (b:=tg.length==1) h).1).symm,(Qy.inj (gs (b:=tg.length==1) h).2).symm,λq=>Yh q,λ_=>rfl⟩
theorem jK (hk:env.scope.kind= .function) {x:Str} (hx:env.kindOf x=some .local) {oN:Obj}{mN:Str->Option Value} (S:St Y (k.ext (env.locals,oN)) w H s) (hns:NsO oN mN) {rv:Value}{Q:Unit->Shared->Prop}{E:Value->Shared->Prop}
  (h: ∀oN' mN' h' tk,Sta C Y.h₀ Y.L (k.ext (env.locals,oN')) w H h'->NsO oN' mN'->mN' x=some rv->(∀y,y≠x->mN' y=mN y) ->Q () {s with heap:=h',toks:=tk}):wpAny C.M Y.A (storeName env x rv) Q E s:=by
 refine Jd hns λes zq6=>zq6.elim λep zq7=>?_;refine wpAny_storeName_local (m:=mN) hx ⟨oN,es,ep,S.exHead.1,zq7⟩ (λh' hn hs=>?_) (by rw [hk];rfl);refine Jd hn λo' zq3=>zq3.elim λes' zq4=>zq4.elim λep' zq5=>?_;exact h o' _ h' _ (S.setEx hs zq5.1) ⟨es',ep',zq5.2⟩ (if_pos rfl) (λy hy=>if_neg hy)
theorem zcy (hk:env.scope.kind= .function) {xs:List Str}{fs:List (Value->Sem Unit)} (hb:bZ (pB env) xs fs):(∀x∈xs,env.kindOf x=some .local) ->xs.Nodup-> ∀ {vs:List Value}{oN:Obj}{mN:Str->Option Value}{s:Shared}{Q:Unit->Shared->Prop}{E:Value->Shared->Prop},
  vs.length=xs.length->St Y (k.ext (env.locals,oN)) w H s->NsO oN mN->
  (∀oN' mN' h' tk,Sta C Y.h₀ Y.L (k.ext (env.locals,oN')) w H h'->NsO oN' mN'->(∀ (j:Nat) x,xs[j]?=some x->mN' x=vs[j]?) ->(∀y,y∉xs->mN' y=mN y) ->Q () {s with heap:=h',toks:=tk}) ->wpAny C.M Y.A (assignInOrder fs vs) Q E s:=by
 induction hb with
 |nil=>
  intro _ _ vs oN mN s Q E hl S hns h;cases Jp.mp hl;exact wpAny_pure (h oN mN s.heap s.toks S hns (λj x hj=>nos hj) (λ_ _=>rfl))
 | @cons x f xs fs hf _ ih=>
  intro hx hd vs oN mN s Q E hl S hns h;cases vs with
  |nil=>cases hl
  |cons v vs=>
   show wpAny C.M Y.A (do holding _ _;assignInOrder _ _) Q E s;refine wpAny_bind (wpAny_holding (hf _ _ _ _ _ _ (jK hk (hx x (.head _)) S hns λoN1 mN1 h1 tk S1 hns1 e1 e2=>?_)));refine ih (λy hy=>hx y (.tail _ hy)) (Qx.mp hd).2 (s:={s with heap:=h1,toks:=tk}) (JY.inj hl) S1 hns1 λoN2 mN2 h2 tk2 S2 hns2 k1 k2=>?_;refine h oN2 mN2 h2 tk2 S2 hns2 (λj y hj=>?_) (λy hy=>(k2 y λq=>hy (.tail _ q)).trans (e2 y λq=>hy (q▸ .head _)));cases j with
   |zero=>cases hj;rw [k2 _ (Qx.mp hd).1,e1];rfl
   |succ j=>exact k1 j y hj
theorem zdJ (hk:env.scope.kind= .function) {t:Expr}{q:List Str×Bool} (ht:jI t=some q) (hx: ∀x∈q.1,env.kindOf x=some .local) (hd:q.1.Nodup) {v:Val}{mvs:List Val}{rv:Value} (h1:q.2=true->v= .tup mvs) (h2:q.2=false->mvs= [v]) (hl:mvs.length=q.1.length) (hv:aF C w v rv)
  {oN:Obj}{mN:Str->Option Value} (S:St Y (k.ext (env.locals,oN)) w H s) (hns:NsO oN mN) {Q:Unit->Shared->Prop}{E:Value->Shared->Prop}
  (h: ∀vs oN' mN' h' tk,aC C w mvs vs->Sta C Y.h₀ Y.L (k.ext (env.locals,oN')) w H h'->NsO oN' mN'->(∀ (j:Nat) x,q.1[j]?=some x->mN' x=vs[j]?) ->Q () {s with heap:=h',toks:=tk}):wpAny C.M Y.A (assign t env rv) Q E s:=by
 rcases zd7 ht with ⟨x,p,rfl,rfl⟩| ⟨es,n,p,rfl,hq,hes⟩
 ·cases h2 rfl
  refine PySem.wpAny_assign_Name (jK hk (hx x (.head _)) S hns λoN' mN' h' tk S' hns' e1 _=>h [rv] oN' mN' h' tk (.one hv) S' hns' λj y hj=>?_);cases j with
  |zero=>cases hj;exact e1
  |succ j=>exact nos hj
 ·cases h1 hq
  have zq2:=jD (env:=env) hes;obtain ⟨tt,o,n',ws,rfl,ho,hc,hdd,rr,_⟩:=S.tup hv;exact assign_Tuple_tuple (items:=ws.toArray) Y.handled ⟨o,ho,hc,n',hdd⟩ (by rw [zq2.2.1,Ja,<-rr.length,hl]) zq2.2.2 λh' he=>zcy hk zq2.1 hx hd (s:={s with heap:=h'}) (by rw [<-rr.length,hl]) (S.grown he) hns λoN' mN' h'' tk S2 hns2 k1 _=>h ws oN' mN' h'' tk rr S2 hns2 k1
end
end Internal
namespace Internal
open PySem PySem.W PySem.Calls PyProof.Rows
structure CpO (C:Cfg) (d:Nat) (cx:CC) (g:Comprehension) (sc:Scope) (elt:Expr) (q:List Str×Bool) (ie ii:Ex) (iifs:List Ex):Prop where
 as:g.is_async=0
 t:jI g.target=some q
 o:zdR cx sc q.1
 it:Sd C d cx g.iter ii
 elt:Sd C d (inComp cx sc q.1) elt ie
 ifs:Sds C d (inComp cx sc q.1) g.ifs iifs
section
variable {C:Cfg}{d e:Nat}{k:Kp}{w:Wd}{H:MH}{s:Shared}{cx:CC}{env:Env}{mE:Str->Option Value}{fr:Frame}{gl:List (Str×Val)}
inductive zh2 (C:Cfg) {d e:Nat} (Y:aQ C d e) (k:Kp) (w0:Wd) (s0:Shared) (I N:Addr) (z:It) (F:Nat->MH->Option (Unit×MH)) (r:Unit×MH) (s:Shared):Prop
 |mk (w:Wd) (H:MH) (j:Nat) (io oN:Obj) (mN:Str->Option Value) (le:w0.le w) (st:St Y ((k.ext (N,oN)).ext (I,io)) w H s) (ns:NsO oN mN) (it:d5 C w io j z) (sm:eJ s0 s) (lp:F j H=some r):zh2 C Y k w0 s0 I N z F r s
theorem vI {Y:aQ C d 2}{g:Comprehension}{sc:Scope}{elt:Expr}{q:List Str×Bool}{ie ii:Ex}{iifs:List Ex}{pos ps:Pos} (O:CpO C d cx g sc elt q ie ii iifs) (hn:pR cx) (p:Pl Y cx env k mE fr w H s) {r:Val×MH}
  (ev:eval (C.cx d) (.comp ie (QR cx.next q.1.length) q.2 ii iifs) fr H=some r) {use:Option (Value->Sem Unit)}{Q:Value->Shared->Prop}{E:Value->Shared->Prop}
  (hpost: ∀w' D N oN mN s',w.le w'->St Y (k.ext (N,oN)) w' r.2 s'->NsO oN mN->aF C w' r.1 (.ref D) ->eJ s s'->compPost C.M Y.A E use Q (.ref D) N (.ok .next) s'):
  wpAny C.M Y.A (comprehension (.ListComp elt [g] sc pos) sc env ps (newList []) false (PySem.eval g.iter env) use) Q E s:=by
 have as:=O.as;have Os:=O.o;obtain ⟨t,it,ifs,a⟩:=g;have as:a=0:=as;subst as
 revert ev
 refine aD λv H1 ev1=>aN λz hz=>aD λ_ H2 lp e=>?_;cases e;obtain ⟨cl,hclos,hcl⟩:=tR (scope:=sc) (env:=env) λx hx hf=>by
  refine (p.b.cells x.1 (Os.free x hx hf).2).elim λc zq11=>zq11.elim λ_ zq12=>zq12.elim λ_ zq13=>?_;rw [zq13.1];rfl
 refine wpAny_comprehension_free rfl (O.it.sy.fold env) hclos Os.kind (λx hx hl=>(Os.loc x hx hl).1) (O.it.es Y env k mE fr w H s p _ ev1 _ _ λw1 a1 s1 n1 r1=>qI n1.st r1 (λI io h2 S2 R2=>?_) hz);obtain ⟨all,hnn,add,_,_⟩:=S2.ledger;refine wpAny_newObj_type (wpAny_newFunctionEnv Os.nocell (by intro y hy;simp at hy) (λh₁ hns₁ hsb₁=>?_) Os.kind);have le2:w1.le ⟨w1.σ++ [h2.objs.size],w1.tp⟩:=⟨Jb _ _,λ_ x=>x⟩;have S3:=add _ (.list []) [(h2.objs.size,listOf ([]:List Value).toArray 0)] _ ⟨[],0,rfl,.nil,Qs _⟩ (S2.fr.push _) (hnn.push S2.fr _) (eY _) (News.fresh hnn λp hp=>Qw.mp hp▸Qi _) (S2.four (Qi _));have hD:(w1.σ++ [h2.objs.size])[H1.length]?=some h2.objs.size:=by rw [<-S2.len];exact Jh
 refine Jd hns₁ λoN zq8=>zq8.elim λesN zq9=>zq9.elim λepN zq10=>?_;have n1':=zq10.1;have nn:=zq10.2;have S4 := (S3.addEx { cls := .type "dict",data := .dict #[] } rfl).setEx hsb₁ n1';have hns:NsO oN (λx=>YF x ([]:List (Str×Value)).reverse):=⟨esN,epN,nn⟩
 generalize hNN:(h2.push _).objs.size=N at*
 generalize hDD:h2.objs.size=D at*
 clear hNN add hnn S3 hsb₁ n1' nn
 have loop: ∀s4:Shared,s4.heap=h₁->eJ s s4->codeAny C.M Y.A (.compLoop (.ListComp elt [⟨t,it,ifs,0⟩] sc pos) 0 (.ref I) (.ref D) (compEnvC sc cl N env)) (compPost C.M Y.A E use Q (.ref D) N) s4:=by
  intro s4 hs4 sm4;refine gS (λn s'=>zh2 C Y k ⟨w1.σ++ [D],w1.tp⟩ s I N z (compLoop (λi h=>bT h i z) (λv h=>(dY fr (QR cx.next q.1.length) q.2 v).bind λfr'=>bnd (lN (C.cx d) iifs fr' h) λb h'=>some (bif b then some fr' else none,h')) (λfr' h=>eval (C.cx d) ie fr' h) H1.length n) ((),H2) s')
   ?_ (C.cx d).fuel ⟨_,_,0,io,oN,_,.refl _,by rw [St,hs4];exact S4.exSwap,hns,R2.mono le2,sm4,lp⟩
  rintro n s' ⟨w5,H5,j,io',oN',mN',le5,S5,hns5,R5,sm5,lp5⟩
  cases n with
  |zero=>exact nos lp5
  |succ n=>
   revert lp5
   refine aN λov hov lp5=>qG S5 R5 hov ⟨λu rv io6 h' tk hu S6 R6 hr=>?_,λh' hu S6=>?_⟩
   ·subst hu
    refine lE (s:={s' with heap:=h',toks:=tk}) S6.exHead.1 R6.cls ?_
    revert lp5
    refine aD λofr H7 htest lp5=>?_;obtain ⟨fr2,hbind,htest⟩:=bs htest;obtain ⟨mvs,b1,b2,b3,b4⟩:=vP hbind;rw [Zl] at b1;refine zdJ (s:={s' with heap:=h',toks:=tk}) (env:=compEnvC sc cl N env) (k:=k.ext (I,io6)) Os.kind O.t (λx hx=>lookup_relabel_local (Os.xs x hx)) Os.nd b3 b4 b1 hr (Sta.exSwap S6) hns5 λvs oN7 mN7 h7 tk7 rr7 S7 hns7 hm7=>?_;have S7':St Y ((k.ext (N,oN7)).ext (I,io6)) w5 H5 {s' with heap:=h7,toks:=tk7}:=Sta.exSwap S7;have P7:=(p.next n1).inner (k':=(k.ext (N,oN7)).ext (I,io6)) Os hn hcl rfl (.tail _ (.head _)) hns7 (le2.trans le5) S7' rr7 b1 hm7;rw [<-b2] at P7
    revert htest
    refine aD λb H8 htt e8=>?_;cases e8;refine wM O.ifs Y _ _ _ _ _ _ _ P7 _ htt _ _ λw8 ok s8 n8 r8=>?_;rw [show ok=b from r8];cases b with
    |false=>exact ⟨n,QF n,w8,_,j+1,io6,oN7,mN7,le5.trans n8.le,n8.st,hns7,R6.mono n8.le,((eJ.trans sm5 ⟨n8.same.1,n8.same.2⟩):eJ s s8),lp5⟩
    |true=>
     revert lp5
     refine aD λx9 H9 ev9=>aN λacc hacc=>cF λhlen lp9=>?_;refine O.elt.es Y _ _ _ _ _ _ _ (P7.next n8) _ ev9 _ _ λw9 xv s9 n9 r9=>?_;refine kR n9.st (((le5.trans n8.le).trans n9.le).get hD:w9.σ[H1.length]?=some D) hacc r9 (QV.mp hlen) _ rfl _ _ λw10 _ s10 n10 _=>?_;exact ⟨n,QF n,w10,_,j+1,io6,oN7,mN7,((le5.trans n8.le).trans n9.le).trans n10.le,n10.st,hns7,R6.mono ((n8.le.trans n9.le).trans n10.le),(((eJ.trans sm5 ⟨n8.same.1,n8.same.2⟩):eJ s s8).trans n9.same).trans n10.same,lp9⟩
   ·subst hu
    cases lp5;exact hpost w5 D N oN' mN' {s' with heap:=h'} ((n1.le.trans le2).trans le5) S6 hns5 ⟨D,rfl,le5.get hD⟩ ⟨sm5.1,sm5.2⟩
 exact codeAny_compStart_list (loop _ rfl ⟨n1.same.1,n1.same.2⟩) (oF (s:={s1 with heap:=h₁,toks:=_}) (Sta.exHead (Sta.exSwap S4)).1 R2 (loop _ rfl ⟨n1.same.1,n1.same.2⟩))
theorem bS {e:Expr} (h1: ∀rest env,starEach (e::rest) env=(false,PySem.eval e env)::starEach rest env) (h2: ∀o i,subscripted e false o i=operate [o,i] (getItem o i)) (h3: ∀op,behindInMarks op e=false) (h4: ∀env x,foldedSetIterable e env x=pure x) (h5: ∀t n env,swapsWith e t n env=pure false):Sy e:=⟨h1,h2,h3,h4,λ_=>h5⟩
theorem Sd.of {e:Expr}{ir:Ex} (h:cH C d cx e ir) (he: ∀ (env:Env) (whole:Sem Value),PySem.isTrue e env whole=(do let v<-whole;standAt e.pos;holding [v] (PySem.truthy v))) (sy:Sy e):Sd C d cx e ir:=⟨h,sG h he,sy⟩
theorem kC (O:cR C gl) (hC:dK C d): ∀ (n:Nat) (cx:CC),zbW C cx.gl->pR cx-> ∀ (e:Expr) (ir:Ex),compE n cx e=some ir->Sd C d cx e ir:=by
 intro n
 induction n with
 |zero=>exact λcx _ _ e ir h=>nos h
 |succ n ih'=>
  intro cx hg hcc e ir;have ih:=ih' cx hg hcc;have ihs: ∀ {es irs},dB (compE n cx) es=some irs->Sds C d cx es irs:=λh=>(e9 h).mono ih;cases e with
  |Constant c m pos=>exact bF λv hv e=>e▸ .of (wU hv) (λ_ _=>rfl) (bS (λ_ _=>rfl) (λ_ _=>rfl) (λ_=>rfl) (λ_ _=>rfl) (λ_ _ _=>rfl))
  |Name x pos=>exact λh=> .of (qH hg h) (λ_ _=>rfl) (bS (λ_ _=>rfl) (λ_ _=>rfl) (λ_=>rfl) (λ_ _=>rfl) (λ_ _ _=>rfl))
  |BoolOp op vs pos=>
   exact bF λirs hi e=>e▸ ⟨λY env k mE fr w H s p=>zcP (pos:=pos) (ihs hi) Y env k mE fr w H s p,λY env k mE fr w H s p r e Q E hq=>wpAny_isTrue_BoolOp (y9 (ihs hi) Y env k mE fr w H s p r e Q E hq),bS (λ_ _=>rfl) (λ_ _=>rfl) (λ_=>rfl) (λ_ _=>rfl) (λ_ _ _=>rfl)⟩
  |BinOp l op r pos=>
   exact aN λo ho=>aN λa ha=>bF λb hb e=>e▸ .of (zcQ ho (ih _ _ ha).es (ih _ _ hb).es) (λ_ _=>rfl) (bS (λ_ _=>rfl) (λ_ _=>rfl) (λ_=>rfl) (λ_ _=>rfl) (λ_ _ _=>rfl))
  |UnaryOp op x pos=>
   refine cF λho=>bF λa ha e=>e▸?_;cases op with
   |Not=>exact ⟨zcH (ih _ _ ha).es,y7 (ih _ _ ha).ts,bS (λ_ _=>rfl) (λ_ _=>rfl) (λ_=>rfl) (λ_ _=>rfl) (λ_ _ _=>rfl)⟩
   |_=>cases ho
  |IfExp t x y pos=>
   exact aN λa ha=>aN λb hb=>bF λc hc e=>e▸ ⟨zcM (ih _ _ ha).ts (ih _ _ hb).es (ih _ _ hc).es,y8 (ih _ _ ha).ts (ih _ _ hb).ts (ih _ _ hc).ts,bS (λ_ _=>rfl) (λ_ _=>rfl) (λ_=>rfl) (λ_ _=>rfl) (λ_ _ _=>rfl)⟩
  |List es pos=>exact cF λhl=>bF λirs hi e=>e▸ .of (zR (ihs hi) hl) (λ_ _=>rfl) (bS (λ_ _=>rfl) (λ_ _=>rfl) (λ_=>rfl) (λ_ _=>rfl) (λ_ _ _=>rfl))
  |Tuple es m pos=>exact cF λhl=>bF λirs hi e=>e▸ .of (wL (ihs hi) hl) (λ_ _=>rfl) (bS (λ_ _=>rfl) (λ_ _=>rfl) (λ_=>rfl) (λ_ _=>rfl) (λ_ _ _=>rfl))
  |Compare l ops cs pos=>
   intro h;obtain ⟨o,rfl,h⟩:=lG h;obtain ⟨r,rfl,h⟩:=lG h
   revert h
   exact aN λa ha=>bF λb hb e=>e▸ ⟨qM O.cfg (ih _ _ ha).es (ih _ _ hb),oA O.cfg (ih _ _ ha).es (ih _ _ hb),bS (λ_ _=>rfl) (λ_ _=>rfl) (λ_=>rfl) (λ_ _=>rfl) (λ_ _ _=>rfl)⟩
  |Call f as ks pos=>
   refine cF λhk=>aN λirs hi h=>?_;have hk:=Qb.mp hk;cases ks with
   |cons _ _=>cases hk.1
   |nil=>
    refine .of ?_ (λ_ _=>rfl) (bS (λ_ _=>rfl) (λ_ _=>rfl) (λ_=>rfl) (λ_ _=>rfl) (λ_ _ _=>rfl))
    revert h
    refine bM (aN λp hp=>bF λg hgn e=>?_) (aN λp hp=>cF λhc=>bF λg hgn e=>?_)
    ·rw [<-e,eI hp]
     exact oH O hC (ihs hi) (qH hg hgn)
    ·have hc:=Qb.mp hc
     rw [<-e,l6 hp];exact oI O hC (ihs hi) (QV.mp hk.2) (ih _ _ hgn).es (Qb.mp hc.1).1 (Qb.mp hc.1).2 hc.2
  |Attribute v nm pos=>
   exact cF λhc=>bF λa ha e=>e▸ .of (zX O (ih _ _ ha).es (Qb.mp hc).1 (Qb.mp hc).2) (λ_ _=>rfl) (bS (λ_ _=>rfl) (λ_ _=>rfl) (λ_=>rfl) (λ_ _=>rfl) (λ_ _ _=>rfl))
  |Subscript v sl pos=>
   intro h;refine .of ?_ (λ_ _=>rfl) (bS (λ_ _=>rfl) (λ_ _=>rfl) (λ_=>rfl) (λ_ _=>rfl) (λ_ _ _=>rfl));have h:Qq (motive:=λ_=>Option Ex) (iU sl) ((compE n cx v).bind λe=>(compE n cx sl).map λi=> .sub e i) (λp=>grd ((d9 v).isSome && p.2.2.1.isNone) ((compE n cx v).bind λe=>(pK (compE n cx) p.1 p.2.1).map λq=> .slice e q.1 q.2))=some ir:=h;cases hs:iU sl with
   |none=>
    rw [hs] at h
    revert h
    exact aN λa ha=>bF λb hb e=>e▸zcG (ih _ _ ha).es (ih _ _ hb)
   |some p=>
    rw [hs] at h
    revert h
    refine cF λhc=>aN λa ha=>bF λq hq e=>?_;rw [<-e,yI hs,JO.mp (Qb.mp hc).2];exact wN (Qb.mp hc).1 (ih _ _ ha).es ih hq
  |Dict ks vs pos=>
   refine cF λhl=>aN λia ha=>bF λib hb e=>e▸?_;exact .of (zV ((e9 ha).mono λo i h=>(bs h).elim λe h=>⟨e,h.1,ih _ _ h.2⟩) (ihs hb) (beq_iff_eq.mp hl)) (λ_ _=>rfl) (bS (λ_ _=>rfl) (λ_ _=>rfl) (λ_=>rfl) (λ_ _=>rfl) (λ_ _ _=>rfl))
  |ListComp elt gens sc pos=>
   intro h;obtain ⟨g,rfl,h⟩:=lG h
   revert h
   refine aN λq hq=>cF λhc=>aN λii hi=>aN λiifs hf=>bF λie he e=>e▸?_;have hc:=Qb.mp hc;have P:CpO C d cx g sc elt q ie ii iifs:=⟨beq_iff_eq.mp hc.1,hq,uU hc.2,ih _ _ hi,(ih' (inComp cx sc q.1) hg (hcc.inComp sc q.1)) _ _ he,(e9 hf).mono (ih' (inComp cx sc q.1) hg (hcc.inComp sc q.1))⟩;refine .of (λY env k mE fr w H s p r ev Q E hQ=>?_) (λ_ _=>rfl) ⟨λ_ _=>rfl,λ_ _=>rfl,λ_=>rfl,λ_ _=>rfl,λq=>nomatch q⟩;obtain ⟨t,it,ifs,a⟩:=g;have ha:a=0:=beq_iff_eq.mp hc.1;subst ha;rw [eval_ListComp];refine vI P hcc p ev λw' D N oN mN s' le S' hns r' sm=>?_;refine Jd hns λes zq1=>zq1.elim λep zq2=>?_;exact ⟨mN,⟨oN,es,ep,S'.exHead.1,zq2⟩,λh' hs=>hQ w' _ {s' with heap:=h'} ⟨le,S'.endEx hs.extBut,sm.1,sm.2⟩ r'⟩
  |_=>exact λh=>nos h
end
end Internal
namespace Internal
open PySem PySem.W PySem.Calls PyProof.Rows
inductive FlR (C:Cfg) (w:Wd):Fl->Flow->Prop
 |nx:FlR C w .nx .next
 |bk:FlR C w .bk .brk
 |ct:FlR C w .ct .cont
 |rt {v:Val}{rv:Value}:aF C w v rv->FlR C w (.rt v) (.ret rv)
structure zh4 (cx:CC) (env:Env) (L:Addr):Prop where
 kind:env.scope.kind= .function
 gl:env.globals=mainGlobals
 bl:env.builtins=builtinsNs
 sc:env.scope.names=cx.sc
 cells: ∀x,cx.sc.lookup x=some .cell-> ∃c,env.cells.lookup x=some c
 cinj: ∀x y c,cx.sc.lookup x=some .cell->cx.sc.lookup y=some .cell->env.cells.lookup x=some c->env.cells.lookup y=some c->x=y
 loc:env.locals=L
 inj: ∀x y i,cW cx x=some i->cW cx y=some i->x=y
def ziH (cx:CC) (env:Env) (ce:Led):Prop:= ∀x c,cx.sc.lookup x=some .cell->env.cells.lookup x=some c-> ∃o v₀,(c,o)∈ce/\o.data= .cell v₀
structure PlS {C:Cfg}{d e:Nat} (Y:aQ C d e) (cx:CC) (env:Env) (k:Kp) (fr:Frame) (w:Wd) (H:MH) (s:Shared):Prop where
 b:zh4 cx env Y.L
 c:ziH cx env k.ce
 f:zh0 C w cx env k.ce k.m fr
 st:St Y k w H s
theorem PlS.pl {C:Cfg}{d e:Nat}{Y:aQ C d e}{cx:CC}{env:Env}{k:Kp}{fr:Frame}{w:Wd}{H:MH}{s:Shared} (p:PlS Y cx env k fr w H s):Pl Y cx env k k.m fr w H s:=
 ⟨⟨p.b.kind,p.b.gl,p.b.bl,p.b.sc,λx h=>(p.b.cells x h).elim λc hc=>(p.c x c h hc).elim λo h=>h.elim λv₀ h=>⟨c,o,v₀,hc,h.1,h.2⟩,.inl ⟨p.b.loc,rfl⟩⟩,p.f,p.st⟩
theorem PlS.next {C:Cfg}{d e:Nat}{Y:aQ C d e}{cx:CC}{env:Env}{k:Kp}{fr:Frame}{w w':Wd}{H H':MH}{s s':Shared} (p:PlS Y cx env k fr w H s) (n:Nxt Y k w w' H' s s'):PlS Y cx env k fr w' H' s':=⟨p.b,p.c,λx i v a b=>(p.f x i v a b).mono n.le,n.st⟩
structure NxS {C:Cfg}{d e:Nat} (Y:aQ C d e) (cx:CC) (env:Env) (ex:Led) (w:Wd) (s:Shared) (k':Kp) (fr':Frame) (w':Wd) (H':MH) (s':Shared):Prop where
 ex:k'.ex=ex
 le:w.le w'
 pl:PlS Y cx env k' fr' w' H' s'
 same:eJ s s'
theorem NxS.trans {C:Cfg}{d e:Nat}{Y:aQ C d e}{cx:CC}{env:Env}{ex:Led}{w w1 w2:Wd}{s s1 s2:Shared}{k1 k2:Kp}{fr1 fr2:Frame}{H1 H2:MH} (a:NxS Y cx env ex w s k1 fr1 w1 H1 s1) (b:NxS Y cx env k1.ex w1 s1 k2 fr2 w2 H2 s2):NxS Y cx env ex w s k2 fr2 w2 H2 s2:=⟨b.ex.trans a.ex,a.le.trans b.le,b.pl,a.same.trans b.same⟩
theorem PlS.nx {C:Cfg}{d e:Nat}{Y:aQ C d e}{cx:CC}{env:Env}{k:Kp}{fr:Frame}{w w':Wd}{H H':MH}{s s':Shared} (p:PlS Y cx env k fr w H s) (n:Nxt Y k w w' H' s s'):NxS Y cx env k.ex w s k fr w' H' s':=⟨rfl,n.le,p.next n,n.same⟩
theorem PlS.rf {C:Cfg}{d e:Nat}{Y:aQ C d e}{cx:CC}{env:Env}{k:Kp}{fr:Frame}{w:Wd}{H:MH}{s:Shared} (p:PlS Y cx env k fr w H s):NxS Y cx env k.ex w s k fr w H s:=⟨rfl,.refl w,p,.refl s⟩
def SBr {C:Cfg}{d e:Nat} (Y:aQ C d e) (cx:CC) (env:Env) (ex:Led) (t:Sem Flow) (w:Wd) (s:Shared) (r:(Fl×Frame)×MH):Prop:=
 ∀ (Q:Flow->Shared->Prop) (E:Value->Shared->Prop),(∀k' w' f s',NxS Y cx env ex w s k' r.1.2 w' r.2 s'->FlR C w' r.1.1 f->Q f s') ->wpAny C.M Y.A t Q E s
def hY (C:Cfg) (d:Nat) (cx:CC) (st:Stmt) (ir:Sm):Prop:=
 ∀ (Y:aQ C d 2) (env:Env) (k:Kp) (fr:Frame) (w:Wd) (H:MH) (s:Shared),PlS Y cx env k fr w H s-> ∀r,exec (C.cx d) ir fr H=some r->SBr Y cx env k.ex (PySem.exec st env) w s r
def gY (C:Cfg) (d:Nat) (cx:CC) (st:List Stmt) (ir:List Sm):Prop:=
 ∀ (Y:aQ C d 2) (env:Env) (k:Kp) (fr:Frame) (w:Wd) (H:MH) (s:Shared),PlS Y cx env k fr w H s-> ∀r,execs (C.cx d) ir fr H=some r->SBr Y cx env k.ex (PySem.execs st env) w s r
section
variable {C:Cfg}{d e:Nat}{Y:aQ C d e}{k:Kp}{w:Wd}{H:MH}{s:Shared}{cx:CC}{env:Env}{fr:Frame}{gl:List (Str×Val)}
def nR (ce:Led) (c:Addr) (o:Obj):Led:=ce.map λp=>if p.1=c then (c,o) else p
theorem yD (ce:Led) (c:Addr) (o:Obj):(nR ce c o).map (·.1)=ce.map (·.1):=by
 unfold nR;rw [ZJ]
 apply Jq
 intro p _;show (if p.1=c then (c,o) else p).1=p.1;split
 ·rename_i h;exact h.symm
 ·rfl
theorem Sta.setCe {h₀:Heap}{L:Addr}{h h':Heap}{c:Addr}{o o':Obj} (S:Sta C h₀ L k w H h) (hc:(c,o)∈k.ce) (hs:Heap.SameBut c h h') (ho:h'.get? c=some o'):Sta C h₀ L {k with ce:=nR k.ce c o'} w H h':=by
 obtain ⟨os,he,hn,hd⟩:=S.os;have g:=hn (c,o) (QD _ (QD _ (Js _ hc)));have hp: ∀ce:Led,({k with ce:=ce}:Kp).all w os|>.Perm (ce++(os.flatten++(w.tp++k.ex))):=λce=>
  (List.Perm.append_left os.flatten (J4 w.tp ce k.ex)).trans (J4 os.flatten ce (w.tp++k.ex))
 have hd1:=Led.nd.perm (hp k.ce) hd;unfold Led.nd at hd1;have hd2:=hd1;rw [QL,Zc] at hd2;refine ⟨Fr.sameBut S.fr hs g.2,⟨os,he,λp hpm=>?_,Led.nd.perm (hp _).symm ?_⟩,S.big,S.lo⟩
 ·rcases QX.mp ((hp _).mem_iff.mp hpm) with hpm|hpm
  ·refine (QI.mp hpm).elim λq zq14=>?_
   have e:=zq14.2;by_cases hqc:q.1=c
   ·rw [if_pos hqc] at e
    rw [<-e];exact ⟨ho,g.2⟩
   ·rw [if_neg hqc] at e
    rw [<-e]
    have:=hn q (QD _ (QD _ (Js _ zq14.1)))
    exact ⟨(hs.2 q.1 hqc).trans this.1,this.2⟩
  ·have:=hn p ((hp k.ce).mem_iff.mpr (QD _ hpm))
   exact ⟨(hs.2 p.1 λe=>hd2.2.2 c (QI.mpr ⟨_,hc,rfl⟩) p.1 (QI.mpr ⟨_,hpm,rfl⟩) e.symm).trans this.1,this.2⟩
 ·unfold Led.nd
  rw [QL,yD,<-QL];exact hd1
theorem eS (p:PlS Y cx env k fr w H s) {x:Str}{i:Nat}{v:Val}{rv:Value} (hi:cW cx x=some i) (r:aF C w v rv) {A':Around}{Q:Unit->Shared->Prop}{E:Value->Shared->Prop}
  (h: ∀k' s',NxS Y cx env k.ex w s k' (fr.set i (some v)) w H s'->Q () s'):wpAny C.M A' (storeName env x rv) Q E s:=by
 have other: ∀ {y j},cW cx y=some j->i≠j->y≠x:=λhj hij e=>hij (by rw [e,hi] at hj;exact Qy.inj hj);rcases (jZ hi).1 with hk|hk
 ·refine wpAny_storeName_local (p.pl.b.kindOf hk) (by rw [p.b.loc];exact p.st.fr.ns) (λh' hn hs=>?_) (by rw [p.b.kind];rfl)
  rw [p.b.loc] at hn hs;obtain ⟨os,he,hnn,hd⟩:=p.st.os;refine h {k with m:=λy=>if y=x then some rv else k.m y} _ ⟨rfl,.refl w,⟨p.b,p.c,λy j u hj hu=>?_,⟨p.st.fr.set hn hs,⟨os,he,hnn.set hs,hd⟩,p.st.big,p.st.lo⟩⟩,rfl,rfl⟩;rcases zZ hu with ⟨rfl,rfl⟩| ⟨hij,hu'⟩
  ·cases p.b.inj y x _ hj hi
   exact .loc rv hk (if_pos rfl) r
  ·cases p.f y j u hj hu' with
   |loc rv' h1 h2 h3=>exact .loc rv' h1 ((if_neg (other hj hij)).trans h2) h3
   |cell rv' c o h1 h2 h3 h4 h5=>exact .cell rv' c o h1 h2 h3 h4 h5
 ·refine (p.b.cells x hk).elim λc zq13=>?_
  have hc:=zq13;refine (p.c x c hk hc).elim λo zq11=>zq11.elim λv₀ zq12=>?_;refine wpAny_storeName_cell p.b.kind (p.pl.b.kindOf hk) hc ⟨o,p.st.ceAt zq12.1,zq12.2⟩ λh' hv hs=>?_;refine Jd hv λo' zq10=>?_;have g2:=zq10.2;have hmem: ∀ {y cy oy},cx.sc.lookup y=some .cell->env.cells.lookup y=some cy->(cy,oy)∈k.ce->y≠x->(cy,oy)∈nR k.ce c o':=λ{y cy oy} hy hcy hm hyx=>
   QI.mpr ⟨(cy,oy),hm,if_neg λe=>hyx (p.b.cinj y x c hy hk (by rw [hcy];exact congrArg some e) hc)⟩
  have hself:(c,o')∈nR k.ce c o':=QI.mpr ⟨(c,o),zq12.1,if_pos rfl⟩;refine h {k with ce:=nR k.ce c o'} _ ⟨rfl,.refl w,⟨p.b,λy cy hy hcy=>?_,λy j u hj hu=>?_,p.st.setCe zq12.1 hs zq10.1⟩,rfl,rfl⟩
  ·by_cases hyx:y=x
   ·subst hyx
    rw [hc] at hcy;cases hcy;exact ⟨o',some rv,hself,g2⟩
   ·refine (p.c y cy hy hcy).elim λoy zq8=>zq8.elim λvy zq9=>?_
    exact ⟨oy,vy,hmem hy hcy zq9.1 hyx,zq9.2⟩
  ·rcases zZ hu with ⟨rfl,rfl⟩| ⟨hij,hu'⟩
   ·cases p.b.inj y x _ hj hi
    exact .cell rv c o' hk hc hself g2 r
   ·cases p.f y j u hj hu' with
    |loc rv' h1 h2 h3=>exact .loc rv' h1 h2 h3
    |cell rv' cy oy h1 h2 h3 h4 h5=>exact .cell rv' cy oy h1 h2 (hmem h1 h2 h3 (other hj hij)) h4 h5
theorem ssnd_nil:gY C d cx [] []:=λY env k fr w H s p r e=>by
 cases e;exact λQ E hq=>wpAny_execs_nil (hq k w .next s p.rf .nx)
theorem wJ {st:Stmt}{r:List Stmt}{i:Sm}{is:List Sm} (h1:hY C d cx st i) (h2:gY C d cx r is):gY C d cx (st::r) (i::is):=by
 intro Y env k fr w H s p r;refine aD λq H1 e1 e Q E hq=>wpAny_execs_cons (h1 Y env k fr w H s p _ e1 _ _ λk1 w1 f s1 n1 r1=>?_);obtain ⟨fl,fr1⟩:=q;cases r1 with
 |nx=>exact h2 Y env k1 fr1 w1 H1 s1 n1.pl _ e _ _ λk2 w2 f2 s2 n2 r2=>hq k2 w2 f2 s2 (n1.trans n2) r2
 |bk=>cases e;exact hq k1 w1 .brk s1 n1 .bk
 |ct=>cases e;exact hq k1 w1 .cont s1 n1 .ct
 |rt h=>cases e;exact hq k1 w1 _ s1 n1 (.rt h)
theorem zO (hcc:pR cx) {x:Str}{xp pos:Pos}{v:Expr}{i:Nat}{iv:Ex} (hi:cW cx x=some i) (hv:Sd C d cx v iv) (hL: ∀ {elt gens sc cp},v= .ListComp elt gens sc cp-> ∃g q ie ii iifs,gens= [g]/\CpO C d cx g sc elt q ie ii iifs/\iv= .comp ie (QR cx.next q.1.length) q.2 ii iifs):hY C d cx (.Assign [.Name x xp] v pos) (.asg (.nm i) iv):=by
 intro Y env k fr w H s p r;show bnd (eval (C.cx d) iv fr H) (λv h1=>bnd (kO (C.cx d) fr h1 v (.nm i)) λfr' h2=>some ((.nx,fr'),h2))=some r->_;refine aD λu H1 e1 e=>?_;cases e;intro Q E hq;have plain:swapsWith v (some (.Name x xp)) pos.line env=pure false->wpAny C.M Y.A (PySem.exec (.Assign [.Name x xp] v pos) env) Q E s:=λhsw=>
  wpAny_Assign_Name (hv.es Y env k k.m fr w H s p.pl _ e1 _ _ λw1 a1 s1 n1 r1=>eS (p.next n1) hi r1 λk' s' n2=>hq k' w1 .next s' ((p.nx n1).trans n2) .nx) hsw
 cases hc:d6 v with
 |false=>exact plain (hv.sy.swap hc _ _ _)
 |true=>
  clear hv
  cases v with
  |ListComp elt gens sc cpos=>
   obtain ⟨b,hb⟩: ∃b,swapsWith (.ListComp elt gens sc cpos) (some (.Name x xp)) pos.line env=pure b:=⟨_,rfl⟩;cases b with
   |false=>exact plain hb
   |true=>
    obtain ⟨g,q,ie,ii,iifs,rfl,P,rfl⟩:=hL rfl;obtain ⟨t,it,ifs,a⟩:=g;cases P.as;rw [exec_Assign_Name_used _ _ _ _ hb];refine wpAny_bind (wpAny_standAt (wpAny_bind ?_));show wpAny _ Y.A (do let _<-comprehension (.ListComp elt [⟨t,it,ifs,0⟩] sc cpos) sc env _ (newList []) false (PySem.eval it env) (some (assign (.Name x xp) env))) _ _ s;refine wpAny_bind (wpAny_mono (vI (use:=some (assign (.Name x xp) env)) (Q:=λ_ s'=>Q .next s') P hcc p.pl e1 λw1 D N oN mN s1 le S1 hns r1 sm1=>?_) (λ_ s' hq=>wpAny_pure (wpAny_pure hq)) λ_ _ e=>e);show wpAny C.M Y.A (assign (.Name x xp) env (.ref D)) _ _ s1;refine PySem.wpAny_assign_Name (eS (⟨p.b,p.c,λx i v a b=>(p.f x i v a b).mono le,S1⟩:PlS Y cx env (k.ext (N,oN)) fr w1 H1 s1) hi r1 λk' s' n2=>?_);refine Jd hns λes zq1=>zq1.elim λep zq2=>?_;obtain ⟨ce',ex',m'⟩:=k';cases n2.ex;exact ⟨mN,⟨oN,es,ep,Sta.exHead (k:=⟨ce',k.ex,m'⟩) n2.pl.st|>.1,zq2⟩,λh'' hs=>hq ⟨ce',k.ex,m'⟩ w1 .next {s' with heap:=h''} ⟨rfl,le,⟨n2.pl.b,n2.pl.c,n2.pl.f,Sta.endEx (k:=⟨ce',k.ex,m'⟩) n2.pl.st hs.extBut⟩,(sm1.trans n2.same).1,(sm1.trans n2.same).2⟩ .nx⟩
  |_=>cases hc
theorem zM {v:Expr}{pos:Pos}{iv:Ex} (hv:cH C d cx v iv):hY C d cx (.Return (some v) pos) (.ret iv):=by
 intro Y env k fr w H s p r;show bnd (eval (C.cx d) iv fr H) (λv h1=>some ((.rt v,fr),h1))=some r->_;refine aD λu H1 e1 e=>?_;cases e;exact λQ E hq=>wpAny_Return_some (hv Y env k k.m fr w H s p.pl _ e1 _ _ λw1 a1 s1 n1 r1=>hq k w1 _ s1 (p.nx n1) (.rt r1))
theorem wH {pos:Pos}:hY C d cx (.Return none pos) (.ret (.lit .none)):=by
 intro Y env k fr w H s p r e;cases e;exact λQ E hq=>wpAny_Return_none (hq k w _ s p.rf (.rt rfl))
theorem zcD {t:Expr}{x y:List Stmt}{pos:Pos}{it:Ex}{ix iy:List Sm} (ht:jY C d cx t it) (hx:gY C d cx x ix) (hy:gY C d cx y iy):hY C d cx (.If t x y pos) (.ite it ix iy):=by
 intro Y env k fr w H s p r;show bnd (bO (eval (C.cx d) it fr H)) (λr h1=>bif r then execs (C.cx d) ix fr h1 else execs (C.cx d) iy fr h1)=some r->_;refine aD λb H1 e1 e Q E hq=>wpAny_If (ht Y env k k.m fr w H s p.pl _ e1 _ _ λw1 a1 s1 n1 r1=>?_);rw [show a1=b from r1];cases b with
 |true=>exact hx Y env k fr w1 H1 s1 (p.next n1) _ e _ _ λk2 w2 f2 s2 n2 r2=>hq k2 w2 f2 s2 ((p.nx n1).trans n2) r2
 |false=>exact hy Y env k fr w1 H1 s1 (p.next n1) _ e _ _ λk2 w2 f2 s2 n2 r2=>hq k2 w2 f2 s2 ((p.nx n1).trans n2) r2
inductive zhZ {C:Cfg}{d e:Nat} (Y:aQ C d e) (cx:CC) (env:Env) (ex:Led) (w0:Wd) (s0:Shared) (F:Frame->MH->SR) (r:(Fl×Frame)×MH) (s:Shared):Prop
 |mk (k:Kp) (fr:Frame) (w:Wd) (H:MH) (n:NxS Y cx env ex w0 s0 k fr w H s) (lp:F fr H=some r):zhZ Y cx env ex w0 s0 F r s
theorem sL {t:Expr}{b:List Stmt}{pos:Pos}{it:Ex}{ib:List Sm} (ht:jY C d cx t it) (hb:gY C d cx b ib):hY C d cx (.While t b [] pos) (.wh it ib):=by
 intro Y env k fr w H s p r ev Q E hq;refine wpAny_While (codeAny_whileLoop (λn s'=>zhZ Y cx env k.ex w s (jO (λfr h=>bO (eval (C.cx d) it fr h)) (λfr h=>execs (C.cx d) ib fr h) n) r s') ?_ (C.cx d).fuel ⟨k,fr,w,H,p.rf,ev⟩)
 rintro n s' ⟨k1,fr1,w1,H1,n1,lp⟩
 cases n with
 |zero=>exact nos lp
 |succ n=>
  revert lp
  refine aD λc H2 e2 lp=>ht Y env k1 k1.m fr1 w1 H1 s' n1.pl.pl _ e2 _ _ λw2 a2 s2 n2 r2=>?_;rw [show a2=c from r2];have n2':=n1.trans (n1.pl.nx n2);cases c with
  |false=>
   cases lp;rw [if_neg Zk];exact wpAny_execs_nil (hq k1 w2 .next s2 n2' .nx)
  |true=>
   rw [if_pos rfl]
   revert lp
   show bnd (execs (C.cx d) ib fr1 H2) (λp h2=>Fl.casesOn (motive:=λ_=>SR) p.1 (jO (λfr h=>bO (eval (C.cx d) it fr h)) (λfr h=>execs (C.cx d) ib fr h) n p.2 h2) (some ((.nx,p.2),h2)) (jO (λfr h=>bO (eval (C.cx d) it fr h)) (λfr h=>execs (C.cx d) ib fr h) n p.2 h2) (λv=>some ((.rt v,p.2),h2)))=some r->_;refine aD λq H3 e3 lp=>hb Y env k1 fr1 w2 H2 s2 n2'.pl _ e3 _ _ λk3 w3 f3 s3 n3 r3=>?_;have n3':=n2'.trans n3;obtain ⟨fl,fr3⟩:=q;cases r3 with
   |nx=>exact ⟨n,QF n,k3,fr3,w3,H3,n3',lp⟩
   |ct=>exact ⟨n,QF n,k3,fr3,w3,H3,n3',lp⟩
   |bk=>cases lp;exact hq k3 w3 .next s3 n3' .nx
   |rt h=>cases lp;exact hq k3 w3 _ s3 n3' (.rt h)
end
end Internal
namespace Internal
open PySem PySem.W PySem.Calls PyProof.Rows
theorem xB {i:Nat}{v:Val}: ∀ (is:List Nat) (vs:List Val) (fr:Frame),i∉is->(g7 is vs fr).set i (some v)=g7 is vs (fr.set i (some v)):=by
 intro is
 induction is with
 |nil=>exact λvs fr _=>rfl
 |cons j is ih=>
  intro vs fr h;cases vs with
  |nil=>rfl
  |cons u vs=>
   show (g7 is vs (fr.set j (some u))).set i (some v)=g7 is vs ((fr.set i (some v)).set j (some u));rw [ih vs _ λq=>h (.tail _ q),List.set_comm _ _ λq:j=i=>h (q▸ .head _)]
theorem puts_app: ∀ (is:List Nat) (vs:List Val) (i:Nat) (v:Val) (fr:Frame),is.length=vs.length->g7 (is++ [i]) (vs++ [v]) fr=(g7 is vs fr).set i (some v):=by
 intro is
 induction is with
 |nil=>intro vs i v fr h;cases Jp.mp h.symm;rfl
 |cons j is ih=>
  intro vs i v fr h;cases vs with
  |nil=>cases h
  |cons u vs=>exact ih vs i v _ (JY.inj h)
theorem puts_rev: ∀ (is:List Nat) (vs:List Val) (fr:Frame),is.Nodup->is.length=vs.length->g7 is.reverse vs.reverse fr=g7 is vs fr:=by
 intro is
 induction is with
 |nil=>intro vs fr _ h;cases Jp.mp h.symm;rfl
 |cons i is ih=>
  intro vs fr hd h;cases vs with
  |nil=>cases h
  |cons v vs=>
   rw [Zd,Zd,puts_app _ _ _ _ _ (by rw [Z5,Z5];exact JY.inj h),ih vs fr (Qx.mp hd).2 (JY.inj h),xB is vs fr (Qx.mp hd).1];rfl
section
variable {C:Cfg}{d e:Nat}{Y:aQ C d e}{k:Kp}{w:Wd}{H:MH}{s:Shared}{cx:CC}{env:Env}{fr:Frame}{gl:List (Str×Val)}
theorem aC.reverse: ∀ {ms:List Val}{vs:List Value},aC C w ms vs->aC C w ms.reverse vs.reverse:=by
 intro ms
 induction ms with
 |nil=>intro vs h;cases h;exact .nil
 |cons m ms ih=>intro vs h;obtain ⟨v,r,rfl,h,h'⟩:=h;rw [Zd,Zd];exact aC.append (.one h) (ih h')
theorem bZ.reverse {α β:Type}{R:α->β->Prop}{as:List α}{bs:List β} (h:bZ R as bs):bZ R as.reverse bs.reverse:=by
 have app: ∀ {as:List α}{bs:List β}{a b},bZ R as bs->R a b->bZ R (as++ [a]) (bs++ [b]):=λh hab=>by
  induction h with
  |nil=>exact .cons hab .nil
  |cons x _ ih=>exact .cons x ih
 induction h with
 |nil=>exact .nil
 |cons x _ ih=>rw [Zd,Zd];exact app ih x
abbrev fU (cx:CC) (x:Str) (i:Nat):Prop:=cW cx x=some i
theorem stores_wp: ∀ {xs:List Str}{is:List Nat}{fs:List (Value->Sem Unit)},bZ (fU cx) xs is->bZ (pB env) xs fs-> ∀ {mvs:List Val}{vs:List Value}{k:Kp}{fr:Frame}{s:Shared}{Q:Unit->Shared->Prop}{E:Value->Shared->Prop},
  aC C w mvs vs->mvs.length=is.length->PlS Y cx env k fr w H s->(∀k' s',NxS Y cx env k.ex w s k' (g7 is mvs fr) w H s'->Q () s') ->wpAny C.M Y.A (assignInOrder fs vs) Q E s:=by
 intro xs is fs hi
 induction hi generalizing fs with
 |nil=>
  intro hf mvs vs k fr s Q E r hl p h;cases hf;cases Jp.mp hl;cases r;exact wpAny_pure (h k s p.rf)
 |cons hi _ ih=>
  intro hf mvs vs k fr s Q E r hl p h;cases hf with
  |cons hf hfs=>
   cases mvs with
   |nil=>cases hl
   |cons mv mvs=>
    obtain ⟨v,t,rfl,hv,r⟩:=r;show wpAny C.M Y.A (do holding _ _;assignInOrder _ _) Q E s;exact wpAny_bind (wpAny_holding (hf _ _ _ _ _ _ (eS p hi hv λk1 s1 n1=>ih hfs r (JY.inj hl) n1.pl λk2 s2 n2=>h k2 s2 (n1.trans n2))))
theorem bind_names: ∀ (xs:List Str),bZ (pB env) xs (xs.map λn=>bindName env n):=by
 intro xs
 induction xs with
 |nil=>exact .nil
 |cons x xs ih=>exact .cons (λ_ _ _ _ _ _ z=>wpAny_bindName z) ih
theorem uS {xs:List Str}{is:List Nat} (h:dB (oJ cx) xs=some is):bZ (fU cx) xs is:=(e9 h).mono λ_ _ h=>(gs h).2
theorem zY (B:zh4 cx env Y.L) {xs:List Str}{is:List Nat} (h:bZ (fU cx) xs is):xs.Nodup->is.Nodup:=by
 have mem: ∀ {xs:List Str}{is:List Nat},bZ (fU cx) xs is-> ∀i∈is,∃y∈xs,cW cx y=some i:=λh=>by
  induction h with
  |nil=>exact λi hi=>absurd hi Qr
  | @cons x j _ _ h _ ih=>
   intro i hi;rcases QH.mp hi with rfl|hi
   ·exact ⟨x,.head _,h⟩
   ·obtain ⟨y,hy,e⟩:=ih i hi;exact ⟨y,.tail _ hy,e⟩
 induction h with
 |nil=>exact λ_=> .nil
 | @cons x i xs is h1 h2 ih=>
  intro hd;have hd:=Qx.mp hd;refine Qx.mpr ⟨λhi=>?_,ih hd.2⟩;refine (mem h2 i hi).elim λy zq13=>?_;exact hd.1 (B.inj x y i h1 zq13.2▸zq13.1)
theorem qU (F:Expr->Option Str) (kk:Str->Pos->Bool) (hF: ∀i p,F (.Name i p)=if kk i p then some i else none) {es:List Expr}{xs:List Str} (h:bZ (λe x=>eZ e=some x) es xs):(es.filterMap F).length=es.length->es.filterMap F=xs:=by
 induction h with
 |nil=>exact λ_=>rfl
 | @cons e x es xs h _ ih=>
  intro hl;obtain ⟨p,hp,rfl⟩:=ms h;cases eI hp;rw [Zh,hF] at hl ⊢;cases hk:kk p.1 p.2 with
  |true=>
   rw [hk] at hl;exact congrArg (ZY _) (ih (JY.inj hl))
  |false=>
   rw [hk] at hl;exact absurd (Yb F es) (Xe.mpr (Kc (QF _) hl.symm))
theorem oZ {α:Type}{c:Prop} [Decidable c] {a b x y:Sem α} (ha:a=x) (hb: ¬c->b=x\/b=y):(if c then a else b)=x\/(if c then a else b)=y:=by
 by_cases h:c
 ·rw [if_pos h];exact .inl ha
 ·rw [if_neg h];exact hb h
theorem tF {α:Type}{c:Prop} [Decidable c] {a b x:Sem α} (ha:a=x) (hb: ¬c->b=x):(if c then a else b)=x:=by
 by_cases h:c
 ·rw [if_pos h];exact ha
 ·rw [if_neg h];exact hb h
theorem ne2 {a b c d:Nat} (h: ¬((a !=b||c !=d)=true)):a=b:=by
 rw [KG,bne_iff_ne] at h;exact Decidable.not_not.mp λq=>h (.inl q)
theorem m5 {es:List Expr}{n:Nat}{tpos:Pos}{v:Expr} (h:gX v=none):swappedStores [.Tuple es n tpos] v env=pure none:=by cases v<;>first|rfl|cases h
theorem ze7 {es:List Expr}{n:Nat}{tpos:Pos}{v:Expr}{xs:List Str} (hok:m3 v=true) (hn:bZ (λe x=>eZ e=some x) es xs):
  swappedStores [.Tuple es n tpos] v env=pure none\/swappedStores [.Tuple es n tpos] v env=pure (some xs):=by
 cases ht:gX v with
 |none=>exact .inl (m5 ht)
 |some p=>
  cases kA ht;have hok:(!p.1.all (constantsAlone 8))=true:=(Qb.mp hok).2;have hok:p.1.all (constantsAlone 8)=false:=by
   cases hq:p.1.all (constantsAlone 8) with
   |false=>rfl
   |true=>rw [hq] at hok;cases hok
  refine oZ rfl λ_=>oZ rfl λ_=>oZ rfl λh3=>oZ rfl λ_=> .inr ?_;rw [hok];exact congrArg (λz=>(pure (some z):Sem (Option (List Str)))) (qU _ (λid pos=>env.kindOf id==some .local && pos.line==((es.head?.map (·.pos.line)).getD 0)) (λi p=>rfl) hn (ne2 h3))
theorem wA {c:Cx}{h:MH}: ∀ {is:List Nat}{mvs:List Val}{fr:Frame}{r:Frame×MH},dP c (is.map T1.nm) mvs fr h=some r->mvs.length=is.length/\r=(g7 is mvs fr,h):=by
 intro is
 induction is with
 |nil=>
  intro mvs fr r e;obtain ⟨h1,e⟩:=gs e;cases e;cases mvs with
  |nil=>exact ⟨rfl,rfl⟩
  |cons _ _=>cases h1
 |cons i is ih=>
  intro mvs fr r e;cases mvs with
  |nil=>exact nos e
  |cons v mvs=>
   have zq10:=ih (show dP c (is.map T1.nm) mvs (fr.set i (some v)) h=some r from e);exact ⟨congrArg (· +1) zq10.1,zq10.2⟩
theorem lJ {v:Val}{rv:Value}{mvs:List Val} (S:St Y k w H s) (hv:aF C w v rv) (hi:items H v=some mvs) {Q:List Value->Shared->Prop}{E:Value->Shared->Prop}
  (h: ∀vs h',aC C w mvs vs->Sta C Y.h₀ Y.L k w H h'->Q vs {s with heap:=h'}):wpAny C.M Y.A (unpackItems rv mvs.length none) Q E s:=by
 revert hi
 refine bM (λe=>?_) (λe=>?_)
 ·cases tup?_s e
  obtain ⟨t,o,n,ws,rfl,ho,hc,hdt,rr,_⟩:=S.tup hv;rw [rr.length,<-Ja];exact unpackItems_tuple (items:=ws.toArray) Y.handled ⟨o,ho,hc,n,hdt⟩ λh' he=>h ws h' rr (S.grown he)
 ·obtain ⟨t,ws,n,rfl,ho,rr,_⟩:=S.list hv e
  rw [rr.length,<-Ja];exact kun_itemsOf Y.handled ⟨_,ho,rfl,n,rfl⟩ λh' he=>h ws h' rr (S.grown he)
theorem kN {v:Expr}{i:Ex} (hv:Sd C d cx v i) (hok:m3 v=true) {t:Expr}{n:Nat}:swapsWith v (some t) n env=pure false:=hv.sy.swap (by have:=(Qb.mp hok).1;cases hq:d6 v;rfl;rw [hq] at this;cases this) _ _ _
theorem wK {es:List Expr}{n:Nat}{tpos pos:Pos}{v:Expr}{xs:List Str}{is:List Nat}{iv:Ex} (hok:m3 v=true) (hn:bZ (λe x=>eZ e=some x) es xs) (hnd:xs.Nodup) (hs:bZ (fU cx) xs is) (hv:Sd C d cx v iv):
  hY C d cx (.Assign [.Tuple es n tpos] v pos) (.asgs (is.map T1.nm) iv):=by
 intro Y env k fr w H s p r;show bnd (eval (C.cx d) iv fr H) (λv h1=>(items h1 v).bind λvs=>bnd (dP (C.cx d) (is.map T1.nm) vs fr h1) λfr' h2=>some ((.nx,fr'),h2))=some r->_;refine aD λu H1 e1=>aN λmvs hm=>aD λfr' H2 e2 e=>?_;obtain ⟨hl,e3⟩:=wA e2;cases e3;cases e;have hl':mvs.length=xs.length:=hl.trans hs.length;intro Q E hq;rcases ze7 (env:=env) (tpos:=tpos) (n:=n) hok hn with hw|hw
 ·have zq6:=jD (env:=env) hn
  refine Assign_Tuple (hv.es Y env k k.m fr w H s p.pl _ e1 _ _ λw1 a1 s1 n1 r1=>?_) (by unfold swapsWithSole;exact kN hv hok) hw;rw [assign_Tuple];refine wpAny_bind (wpAny_standAt ?_);unfold unpack;rw [zq6.2.1,zq6.2.2,<-hl'];exact wpAny_bind (wpAny_holding (lJ n1.st r1 hm λvs h' rr S'=>stores_wp hs zq6.1 rr hl (⟨p.b,p.c,(p.next n1).f,S'⟩:PlS Y cx env k fr w1 H1 {s1 with heap:=h'}) λk2 s2 n2=>hq k2 w1 .next s2 ⟨n2.ex,n1.le.trans n2.le,n2.pl,n1.same.trans ⟨n2.same.1,n2.same.2⟩⟩ .nx))
 ·refine Assign_Tuple_swapped (names:=xs) (hv.es Y env k k.m fr w H s p.pl _ e1 _ _ λw1 a1 s1 n1 r1=>?_) (by unfold swapsWithSole;exact kN hv hok) hw
  rw [<-hl'];refine lJ n1.st r1 hm λvs h' rr S'=>stores_wp hs.reverse (bind_names xs.reverse) rr.reverse (by rw [Z5,Z5];exact hl) (⟨p.b,p.c,(p.next n1).f,S'⟩:PlS Y cx env k fr w1 H1 {s1 with heap:=h'}) λk2 s2 n2=>?_;rw [puts_rev is mvs fr (zY p.b hs hnd) hl.symm] at n2;exact hq k2 w1 .next s2 ⟨n2.ex,n1.le.trans n2.le,n2.pl,n1.same.trans ⟨n2.same.1,n2.same.2⟩⟩ .nx
abbrev zdg (C:Cfg) (d:Nat) (cx:CC) (e:Expr) (q:Ex×Nat):Prop:= ∃o nm pos,e= .Attribute o nm pos/\aH nm=true/\q.2=enc nm/\Sd C d cx o q.1
theorem xF {F:Expr->Option Str}{es:List Expr}{ts:List (Ex×Nat)} (h4:(es.filterMap F).length=es.length) (hF: ∀o nm pos,F (.Attribute o nm pos)=none) (h:bZ (zdg C d cx) es ts) (he:es.isEmpty=false):False:=by
 have e:es.filterMap F= []:=by
  clear h4 he
  induction h with
  |nil=>rfl
  |cons h _ ih=>obtain ⟨o,nm,pos,rfl,_⟩:=h;rw [Zh,hF];exact ih
 rw [e] at h4;cases es with
 |nil=>cases he
 |cons _ _=>cases h4
theorem ze8 {es:List Expr}{ts:List (Ex×Nat)}{n:Nat}{tpos:Pos}{v:Expr} (he:es.isEmpty=false) (ht:bZ (zdg C d cx) es ts):swappedStores [.Tuple es n tpos] v env=pure none:=by
 cases hv:gX v with
 |none=>exact m5 hv
 |some p=>
  cases kA hv;refine tF rfl λ_=>tF rfl λ_=>tF rfl λh3=>(xF (ne2 h3) (λ_ _ _=>rfl) ht he).elim
theorem wC (O:cR C gl) {es:List Expr}{ts:List (Ex×Nat)} (ht:bZ (zdg C d cx) es ts):(assignEach es env).length=es.length/\(assignEach es env).findIdx? (·.1)=none/\∀ {Y:aQ C d 2}{k:Kp}{fr:Frame}{w:Wd}{H:MH}{mvs:List Val}{vs:List Value}{r:Frame×MH}{s:Shared}{Q:Unit->Shared->Prop}{E:Value->Shared->Prop},
   aC C w mvs vs->PlS Y cx env k fr w H s->dP (C.cx d) (ts.map λq=>T1.at q.1 q.2) mvs fr H=some r->(r.1=fr->mvs.length=es.length-> ∀w' s',Nxt Y k w w' r.2 s s'->Q () s') ->wpAny C.M Y.A (assignInOrder ((assignEach es env).map (·.2)) vs) Q E s:=by
 induction ht with
 |nil=>
  refine ⟨rfl,rfl,λ{Y k fr w H mvs vs r s Q E} rr p e h=>?_⟩;obtain ⟨h1,e⟩:=gs e;cases e;cases mvs with
  |nil=>cases rr;exact wpAny_pure (h rfl rfl w s (.refl p.st))
  |cons _ _=>cases h1
 | @cons _ q _ _ ha _ ih=>
  refine Jd ha λo zq2=>zq2.elim λnm zq3=>zq3.elim λpos zq4=>?_;obtain rfl:=zq4.1;refine ⟨congrArg (· +1) ih.1,?_,λ{Y k fr w H mvs vs r s Q E} rr p e h=>?_⟩
  ·show Wc _ ((false,assign (.Attribute o nm pos) env)::assignEach _ env)=none
   rw [Xd];simp only [Kb,if_false,ih.2.1,Yw]
  ·cases mvs with
   |nil=>exact nos e
   |cons mv mvs=>
    obtain ⟨v,t,rfl,hv,rr⟩:=rr
    revert e
    refine aD λfr1 H1 e1 e=>?_
    revert e1
    show bnd (eval (C.cx d) q.1 fr H) (λov h1=>(setAttr C.P h1 ov q.2 mv).map λh2=>(fr,h2))=some (fr1,H1) ->_;refine aD λov H2 e3=>bF λH3 hs e4=>?_;cases e4;rw [zq4.2.2.1] at hs;show wpAny C.M Y.A (do holding _ (assign (.Attribute o nm pos) env v);assignInOrder _ _) Q E s;refine wpAny_bind (wpAny_holding ?_);rw [assign_Attribute];refine wpAny_bind (wpAny_holding (zq4.2.2.2.es Y env k k.m _ w H s p.pl _ e3 _ _ λw1 a1 s1 n1 r1=>?_));refine wpAny_bind (wpAny_standAt (wpAny_bind (wpAny_holding (jL O n1.st zq4.2.1 r1 (hv.mono n1.le) (λs2 n2=>wpAny_release ?_) hs))));exact ih.2.2 (rr.mono n1.le) (p.next (n1.trans n2)) e λe5 e6 w' s' n3=>h e5 (congrArg (· +1) e6) w' s' ((n1.trans n2).trans n3)
theorem qD (O:cR C gl) {es:List Expr}{n:Nat}{tpos pos:Pos}{v:Expr}{ts:List (Ex×Nat)}{iv:Ex} (hok:m3 v=true) (hne:es.isEmpty=false) (ht:bZ (zdg C d cx) es ts) (hv:Sd C d cx v iv):
  hY C d cx (.Assign [.Tuple es n tpos] v pos) (.asgs (ts.map λq=>T1.at q.1 q.2) iv):=by
 intro Y env k fr w H s p r;show bnd (eval (C.cx d) iv fr H) (λv h1=>(items h1 v).bind λvs=>bnd (dP (C.cx d) (ts.map λq=>T1.at q.1 q.2) vs fr h1) λfr' h2=>some ((.nx,fr'),h2))=some r->_;refine aD λu H1 e1=>aN λmvs hm=>aD λfr' H2 e2 e=>?_;cases e;have zq1:=wC (env:=env) O ht;have hlen: ∀ {ts:List T1}{mvs:List Val}{fr:Frame}{h:MH}{r:Frame×MH},dP (C.cx d) ts mvs fr h=some r->mvs.length=ts.length:=by
  intro ts
  induction ts with
  |nil=>intro mvs fr h r e;have:=(gs e).1;cases mvs with|nil=>rfl|cons _ _=>cases this
  |cons t ts ih=>
   intro mvs fr h r e;cases mvs with
   |nil=>exact nos e
   |cons v mvs=>revert e;exact aD λfr' h' _ e=>congrArg (· +1) (ih e)
 have hl:mvs.length=es.length:=(hlen e2).trans ((Qh ..).trans ht.length);intro Q E hq;refine Assign_Tuple (hv.es Y env k k.m fr w H s p.pl _ e1 _ _ λw1 a1 s1 n1 r1=>?_) (by unfold swapsWithSole;exact kN hv hok) (ze8 hne ht);rw [assign_Tuple];refine wpAny_bind (wpAny_standAt ?_);unfold unpack;rw [zq1.1,zq1.2.1,<-hl];refine wpAny_bind (wpAny_holding (lJ n1.st r1 hm λvs h' rr S'=>?_));have n2:Nxt Y k w w1 H1 s {s1 with heap:=h'}:=⟨n1.le,S',n1.same.1,n1.same.2⟩;exact zq1.2.2 rr (p.next n2) e2 λe5 _ w' s' n3=>by
  cases e5;exact hq k w' .next s' (p.nx (n2.trans n3)) .nx
end
end Internal
namespace Internal
open PySem PySem.W PySem.Calls PyProof.Rows
theorem rZ {prog:Program}{w:World}{A:Around}{s:Shared}{l:Addr}{its:Array Value}{n:Nat}{z:Int}{t:Tok}{v:Value}{Q:Unit->Shared->Prop}{E:Value->Shared->Prop} (ho:s.heap.get? l=some (listOf its n)) (h0:0<=z) (hj:z<its.size) (hfit:z<2 ^ 63)
  (hQ: ∀h' n',h'.get? l=some (listOf (its.setIfInBounds z.toNat v) n') ->Heap.SameBut l s.heap h'->Q () {s with heap:=h'}):wpAny (model prog w) A (setItem (.ref l) (.int z t) v) Q E s:=by
 have hT : s.TypeIs (.ref l) "list" := ⟨_,ho,rfl⟩;unfold setItem
 try with_reducible refine wpAny_holding ?_
 refine wpAny_bind (wpAny_sequenceKey hT (by decide) ?_);refine wpAny_bind (wpAny_callSpecial?_slot (name:=Str.ofString "__setitem__") hT slot_list_setitem
  (wpAny_call_entry slot_list_setitem hT entry_list_setitem ?_ (args_list_setitem _ _ _)))
 show wpAny _ _ (ZR (.int z t)>>=_) _ _ s;refine wpAny_bind (wpAny_listSubscript_int (fitsIndex_of h0 hfit) ?_)
 clear hfit
 obtain ⟨j,rfl⟩:=Int.eq_ofNat_of_zero_le h0;have hj':j<its.size:=JG.mp hj;show wpAny _ _ ((seqItemAt l j>>=λr=>pure (r.map (j,·)))>>=_) _ _ s;refine wpAny_bind (wpAny_bind (wpAny_seqItemAt ho rfl (wpAny_pure ?_)));rw [(Array.getElem?_eq_getElem hj':its[j]?=some its[j])];show wpAny _ _ (setSeqItemAt l j v>>=_) _ _ s;refine wpAny_bind (wpAny_setSeqItemAt ho rfl ?_);have fin:Q () {s with heap:=s.heap.update l (Obj.mapSeq (·.setIfInBounds j v))}:=hQ _ _ (Kl _ ho rfl) (Heap.SameBut.update ..)
 first
  |exact wpAny_bind (wpAny_pure (wpAny_pure ⟨.none,rfl,wpAny_pure fin⟩))
  |exact wpAny_pure ⟨.none,rfl,wpAny_pure fin⟩
section
variable {C:Cfg}{d e:Nat}{Y:aQ C d e}{k:Kp}{w:Wd}{H:MH}{s:Shared}{cx:CC}{env:Env}{fr:Frame}{gl:List (Str×Val)}
theorem rN (p:PlS Y cx env k fr w H s) {t:Expr}{q:List Str×Bool}{sl:List Nat} (ht:jI t=some q) (hs:bZ (fU cx) q.1 sl) {v:Val}{rv:Value}{fr1:Frame} (hv:aF C w v rv) (hb:dY fr sl q.2 v=some fr1) {Q:Unit->Shared->Prop}{E:Value->Shared->Prop}
  (h: ∀k' s',NxS Y cx env k.ex w s k' fr1 w H s'->Q () s'):wpAny C.M Y.A (assign t env rv) Q E s:=by
 obtain ⟨mvs,b1,rfl,b3,b4⟩:=vP hb;rcases zd7 ht with ⟨x,pp,rfl,rfl⟩| ⟨es,n,pp,rfl,hq,hes⟩
 ·cases b4 rfl
  cases hs with
  |cons hi hs=>
   cases hs;exact PySem.wpAny_assign_Name (eS p hi hv h)
 ·cases b3 hq
  have zq52:=jD (env:=env) hes;obtain ⟨tt,o,n',ws,rfl,ho,hc,hd,rr,_⟩:=p.st.tup hv;exact assign_Tuple_tuple (items:=ws.toArray) Y.handled ⟨o,ho,hc,n',hd⟩ (by rw [zq52.2.1,Ja,<-rr.length,b1,hs.length]) zq52.2.2 λh' he=>stores_wp hs zq52.1 rr b1 (⟨p.b,p.c,p.f,p.st.grown he⟩:PlS Y cx env k fr w H {s with heap:=h'}) λk' s' n2=>h k' s' ⟨n2.ex,n2.le,n2.pl,n2.same.1,n2.same.2⟩
inductive yR {C:Cfg}{d e:Nat} (Y:aQ C d e) (cx:CC) (env:Env) (ex:Led) (w0:Wd) (s0:Shared) (I:Addr) (z:It) (F:Nat->Frame->MH->SR) (r:(Fl×Frame)×MH) (s:Shared):Prop
 |mk (k:Kp) (fr:Frame) (w:Wd) (H:MH) (j:Nat) (io:Obj) (ex':k.ex=ex) (le:w0.le w) (p:PlS Y cx env (k.ext (I,io)) fr w H s) (it:d5 C w io j z) (sm:eJ s0 s) (lp:F j fr H=some r):yR Y cx env ex w0 s0 I z F r s
theorem PlS.endEx {q:Addr×Obj}{h':Heap} (p:PlS Y cx env (k.ext q) fr w H s) (hx:Heap.ExtBut q.1 s.heap h'):PlS Y cx env k fr w H {s with heap:=h'}:=⟨p.b,p.c,p.f,Sta.endEx (b:=q.1) (o:=q.2) p.st hx⟩
theorem zaf {β:Type}{ov:Option Val}{v:Val}{a:β}{f:Val->β}{r:β} (h:ov=some v) (q:Qq (motive:=λ_=>β) ov a f=r):f v=r:=by subst h;exact q
theorem zag {β:Type}{ov:Option Val}{a:β}{f:Val->β}{r:β} (h:ov=none) (q:Qq (motive:=λ_=>β) ov a f=r):a=r:=by subst h;exact q
section
variable (M:Model) (A:Around) (env:Env) (R:Result->Shared->Prop) (I:Nat->Shared->Prop) (n:Nat)
def noE:Value->Shared->Prop:=notedBy M A env λe s'=>R (.error e) s'
def foB:Flow->Shared->Prop:=λf s=>Flow.casesOn (motive:=λ_=>Prop) f (∃m,m<n/\I m s) (R (.ok .next) s) (∃m,m<n/\I m s) λv=>R (.ok (.ret v)) s
def foT (t:Expr) (it:Value) (b:List Stmt) (v:Value) (s:Shared):Prop:=wpAny M A (letOwnedTupleGo t it v) (λ_ s₁'=>wpAny M A (assign t env v) (λ_ s₂=>wpAny M A (PySem.execs b env) (foB R I n) (noE M A env R) s₂) (noE M A env R) s₁') (noE M A env R) s
def foQ (t:Expr) (it:Value) (b:List Stmt):Option Value->Shared->Prop:=λr s=>Qq (motive:=λ_=>Prop) r (wpAny M A (PySem.execs [] env) (λf s₃=>R (.ok f) s₃) (noE M A env R) s) λv=>foT M A env R I n t it b v s
end
def zdq (C:Cfg) (d:Nat) (z:It) (sl:List Nat) (m:Bool) (ib:List Sm):Nat->Nat->Frame->MH->SR:=lI (λi h=>bT h i z) (λfr v=>dY fr sl m v) (λfr h=>execs (C.cx d) ib fr h)
theorem zdp {Y:aQ C d 2}{ex:Led}{w0:Wd}{s0:Shared}{Ia:Addr}{z:It}{F:Nat->Nat->Frame->MH->SR}{r:(Fl×Frame)×MH}{R:Result->Shared->Prop}{I:Nat->Shared->Prop}{n j:Nat}{g:Fl×Frame}{k6:Kp}{w6:Wd}{H6:MH}{s6:Shared}{f6:Flow}
  (hI: ∀m s,yR Y cx env ex w0 s0 Ia z (F m) r s->I m s) (hq: ∀k' w' f s',NxS Y cx env ex w0 s0 k' r.1.2 w' r.2 s'->FlR C w' r.1.1 f->R (.ok f) s')
  (st: ∀m,F m (j+1) g.2 H6=some r->yR Y cx env ex w0 s0 Ia z (F m) r s6) (out:NxS Y cx env ex w0 s0 k6 g.2 w6 H6 s6) (r6:FlR C w6 g.1 f6)
  (lp:Fl.casesOn (motive:=λ_=>SR) g.1 (F n (j+1) g.2 H6) (some ((.nx,g.2),H6)) (F n (j+1) g.2 H6) (λv=>some ((.rt v,g.2),H6))=some r):foB R I (n+1) f6 s6:=by
 obtain ⟨fl,fr6⟩:=g;cases r6 with
 |nx=>exact ⟨n,QF n,hI n s6 (st n lp)⟩
 |ct=>exact ⟨n,QF n,hI n s6 (st n lp)⟩
 |bk=>cases lp;exact hq _ w6 .next s6 out .nx
 |rt h=>cases lp;exact hq _ w6 _ s6 out (.rt h)
theorem za5 {t:Expr}{b:List Stmt}{q:List Str×Bool}{sl:List Nat}{ib:List Sm} (ht:jI t=some q) (hsl:bZ (fU cx) q.1 sl) (hb:gY C d cx b ib) {Y:aQ C d 2}{ex:Led}{w0:Wd}{s0:Shared}{Ia:Addr}{z:It}{r:(Fl×Frame)×MH}{R:Result->Shared->Prop}{I:Nat->Shared->Prop}{n:Nat}{s':Shared}
  (hI: ∀m s,yR Y cx env ex w0 s0 Ia z (zdq C d z sl q.2 ib m) r s->I m s) (hq: ∀k' w' f s',NxS Y cx env ex w0 s0 k' r.1.2 w' r.2 s'->FlR C w' r.1.1 f->R (.ok f) s')
  (h:yR Y cx env ex w0 s0 Ia z (zdq C d z sl q.2 ib n) r s'):wpAny C.M Y.A (pyNext (.ref Ia)) (foQ C.M Y.A env R I n t (.ref Ia) b) (noE C.M Y.A env R) s':=by
 obtain ⟨k3,fr3,w3,H3,j,io3,ex3,le3,p3,R3,sm3,lp⟩:=h;cases n with
 |zero=>exact nos lp
 |succ n=>
  refine aN (λov hov lp=>?_) lp;refine qG p3.st R3 hov ⟨λv rv io4 h' tk hv S4 R4 hr=>?_,λh' hv S4=>?_⟩
  ·refine lE (s:={s' with heap:=h',toks:=tk}) S4.exHead.1 R4.cls ?_
   refine aN (λfr5 hb5 lp=>?_) (zaf hv lp);have p4:PlS Y cx env (k3.ext (Ia,io4)) fr3 w3 H3 {s' with heap:=h',toks:=tk}:=⟨p3.b,p3.c,p3.f,S4⟩;refine rN p4 ht hsl hr hb5 λk5 s5 n5=>?_;refine aD (λg H6 e6 lp=>?_) lp;refine hb Y env k5 fr5 w3 H3 s5 n5.pl _ e6 _ _ λk6 w6 f6 s6 n6 r6=>?_;have n6':=n5.trans n6;have sm6:eJ s0 s6:=sm3.trans ⟨n6'.same.1,n6'.same.2⟩;have p6:PlS Y cx env ((⟨k6.ce,k3.ex,k6.m⟩:Kp).ext (Ia,io4)) g.2 w6 H6 s6:=by
    have:=n6'.pl
    obtain ⟨ce6,ex6,m6⟩:=k6;cases n6'.ex;exact this
   exact zdp hI hq (λm lp=>⟨⟨k6.ce,k3.ex,k6.m⟩,g.2,w6,H6,j+1,io4,ex3,le3.trans n6'.le,p6,R4.mono n6'.le,sm6,lp⟩) (⟨ex3,le3.trans n6'.le,p6.endEx λ_ _ _ e=>e,sm6⟩:NxS Y cx env ex w0 s0 ⟨k6.ce,k3.ex,k6.m⟩ g.2 w6 H6 s6) r6 lp
  ·have lp:=zag hv lp
   cases lp;exact wpAny_execs_nil (hq k3 w3 .next {s' with heap:=h'} ⟨ex3,le3,⟨p3.b,p3.c,p3.f,S4⟩,sm3.1,sm3.2⟩ .nx)
theorem zN {t:Expr}{pos:Pos}{it:Expr}{b:List Stmt}{q:List Str×Bool}{sl:List Nat}{ii:Ex}{ib:List Sm} (ht:jI t=some q) (hsl:bZ (fU cx) q.1 sl) (hi:Sd C d cx it ii) (hb:gY C d cx b ib):hY C d cx (.For t it b [] pos) (.fo sl q.2 ii ib):=by
 intro Y env k fr w H s p r;show bnd (eval (C.cx d) ii fr H) (λv h1=>(dR h1 v).bind λk=>zdq C d k sl q.2 ib (C.cx d).fuel 0 fr h1)=some r->_;refine aD λu H1 e1=>aN λz hz lp=>?_;intro Q E hq;refine wpAny_For (hi.es Y env k k.m fr w H s p.pl _ e1 _ _ λw1 a1 s1 n1 r1=>qI n1.st r1 (λI io h2 S2 R2=>?_) hz) (hi.sy.fold env);exact codeAny_forLoop_any (λn s'=>yR Y cx env k.ex w s I z (zdq C d z sl q.2 ib n) r s') (λn s' h=>Eq.mp (by kernel_rfl) (za5 (R:=λr s=>match r with| .ok f=>Q f s| .error e=>cameBackBy C.M Y.A env E e s) (n:=n) ht hsl hb (λ_ _ h=>h) hq h)) (C.cx d).fuel ⟨k,fr,w1,H1,0,io,rfl,n1.le,⟨p.b,p.c,(p.next n1).f,S2⟩,R2,⟨n1.same.1,n1.same.2⟩,lp⟩
theorem zhM {e : Expr} {pos : Pos} {v : Value} : dropValue e pos v = pure .next \/ dropValue e pos v = (do standAt pos; let _ <- runValue (.builtin "proto.let_go" {}); pure .next) := by
 have h : dropValue (.Tuple [] 0 pos) pos v = pure .next \/ dropValue (.Tuple [] 0 pos) pos v = (do standAt pos; let _ <- runValue (.builtin "proto.let_go" {}); pure .next) := by
  cases v<;>first|exact .inl rfl|exact .inr rfl
 cases e<;>first|exact .inl rfl|exact Eq.mp (by kernel_rfl) h
theorem wI {v:Expr}{pos:Pos}{iv:Ex} (hc:d6 v=false) (hv:Sd C d cx v iv):hY C d cx (.Expr v pos) (.expr iv):=by
 intro Y env k fr w H s p r;show bnd (eval (C.cx d) iv fr H) (λ_ h1=>some ((.nx,fr),h1))=some r->_;refine aD λu H1 e1 e=>?_;cases e;intro Q E hq;rw [exec_Expr env v pos (by unfold interactive;rw [p.b.kind];rfl) (hv.sy.swap hc _ _ _)];refine wpAny_bind (wpAny_standAt (wpAny_bind (hv.es Y env k k.m fr w H s p.pl _ e1 _ _ λw1 a1 s1 n1 r1=>?_)));have fin:=hq k w1 .next s1 (p.nx n1) .nx;rcases zhM (e:=v) (pos:=pos) (v:=a1) with h|h
 ·rw [h];exact wpAny_pure fin
 ·rw [h];exact wpAny_bind (wpAny_standAt (wpAny_bind (wpAny_runValue (codeAny_builtin entry_let_go (show wpAny _ _ (ret .none) _ _ s1 from wpAny_pure (wpAny_pure fin))))))
theorem c5 {P:Prop} (h:false=true):P:=absurd h Zk
def LC (e:Expr):Prop:= ∃a b c p,e= .ListComp a b c p
theorem zaT {e:Expr}:d6 e=true->LC e:=Expr.casesOn (motive_1:=λe=>d6 e=true->LC e) e (λ_ _ _ h=>c5 h) (λ_ _ _ h=>c5 h) (λ_ _ _ _ h=>c5 h) (λ_ _ _ h=>c5 h) (λ_ _ _ _ h=>c5 h) (λ_ _ _ _ h=>c5 h) (λ_ _ _ h=>c5 h) (λ_ _ _ h=>c5 h) (λa b c p _=>⟨a,b,c,p,rfl⟩) (λ_ _ _ _ h=>c5 h) (λ_ _ _ _ _ h=>c5 h) (λ_ _ _ _ h=>c5 h) (λ_ _ h=>c5 h) (λ_ _ h=>c5 h) (λ_ _ h=>c5 h) (λ_ _ _ _ h=>c5 h) (λ_ _ _ _ h=>c5 h) (λ_ _ _ _ h=>c5 h) (λ_ _ h=>c5 h) (λ_ _ _ h=>c5 h) (λ_ _ _ h=>c5 h) (λ_ _ _ h=>c5 h) (λ_ _ h=>c5 h) (λ_ _ h=>c5 h) (λ_ _ h=>c5 h) (λ_ _ _ h=>c5 h) (λ_ _ _ _ h=>c5 h)
theorem zD {v o:Expr}{i:Ex} (hv:Sd C d cx v i) {n:Nat} (hr: ∀a b c p,swapsWith (.ListComp a b c p) (some o) n env=pure false):swapsWith v (some o) n env=pure false:=by
 cases hc:d6 v with
 |false=>exact hv.sy.swap hc _ _ _
 |true=>obtain ⟨a,b,c,p,rfl⟩:=zaT hc;exact hr a b c p
theorem sO (O:cR C gl) {o:Expr}{nm:Str}{xp pos:Pos}{v:Expr}{io iv:Ex} (hn:aH nm=true) (ho:Sd C d cx o io) (hv:Sd C d cx v iv):hY C d cx (.Assign [.Attribute o nm xp] v pos) (.asg (.at io (enc nm)) iv):=by
 intro Y env k fr w H s p r;show bnd (eval (C.cx d) iv fr H) (λv h1=>bnd (bnd (eval (C.cx d) io fr h1) λov h2=>(setAttr C.P h2 ov (enc nm) v).map λh3=>(fr,h3)) λfr' h2=>some ((.nx,fr'),h2))=some r->_;refine aD λu H1 e1=>aD λfr' H2 e2 e=>?_;cases e
 revert e2
 refine aD λov H3 e3=>bF λH4 hs e4=>?_;cases e4;exact λQ E hq=>plainObj_wpAny_Assign_Attribute (hv.es Y env k k.m _ w H s p.pl _ e1 _ _ λw1 a1 s1 n1 r1=>ho.es Y env k k.m _ w1 H1 s1 (p.next n1).pl _ e3 _ _ λw2 a2 s2 n2 r2=>
  jL O n2.st hn r2 (r1.mono n2.le) (λs3 n3=>hq k w2 .next s3 (p.nx ((n1.trans n2).trans n3)) .nx) hs) (zD hv λ_ _ _ _=>rfl)
theorem vW {v:Val}{rv:Value} (hv:aF C w v rv): ∀ {ms:List Val}{vs:List Value}{j:Nat},aC C w ms vs->aC C w (ms.set j v) (vs.set j rv):=by
 intro ms
 induction ms with
 |nil=>intro vs j h;cases h;exact .nil
 |cons m ms ih=>
  intro vs j h;obtain ⟨x,t,rfl,h,r⟩:=h;cases j with
  |zero=>exact .cons hv r
  |succ j=>exact .cons h (ih r)
theorem sQ (S:St Y k w H s) {o i v:Val}{vo vi vv:Value}{H':MH} (ho:aF C w o vo) (hi:aF C w i vi) (hv:aF C w v vv) {Q:Unit->Shared->Prop}{E:Value->Shared->Prop}
  (h: ∀s',Nxt Y k w w H' s s'->Q () s'):cS H o i v=some H'->wpAny C.M Y.A (setItem vo vi vv) Q E s:=by
 refine aN λx e1=>bM (aN λmvs hm=>bF λj hj e=>?_) (aN λp hp=>cF λhf e=>?_)
 ·cases ref?_s e1;subst e
  obtain ⟨z,t,rfl,h0,h1,rfl⟩:=vE hi hj;obtain ⟨la,rfl,ha⟩:=ho;refine (bs hm).elim λob zq47=>?_;have h2:=zq47.2;cases list?_s h2;obtain ⟨_,ws,n,e,hget,rr,hl⟩:=S.list (x:=.ref x) ⟨la,rfl,ha⟩ hm;cases e;refine rZ hget h0 (by rw [Ja,<-rr.length];exact h1) (Xn h1 (fH hl)) λh' n' hg hs=>h _ ⟨.refl w,S.upd ha zq47.1 (λen h=>?_) hs (by rw [hg,List.setIfInBounds_toArray]) ⟨_,n',rfl,vW hv rr,by rw [QS];exact hl⟩,rfl,rfl⟩;obtain ⟨_,_,rfl,_,_⟩:=h;exact ⟨_,rfl⟩
 ·cases ref?_s e1;cases e
  have hf:=Qb.mp hf;obtain ⟨b,n,es,rfl,hmod,hep,hg,hdr,hl,upd⟩:=S.dictI ho hp;refine mK ⟨_,hg,rfl⟩ (yY S (A:=Y.A.in1) (show Y.A.units+1+1<9900 from Y.u (n:=2) (by decide)) hg hdr hf.1 (QV.mp hf.2) hi hv λes' h' tk hs hgo j'=>h _ ⟨.refl w,upd h' _ _ hs hgo ⟨es',_,rfl,λe he=>?_,j',pF (QV.mp hf.2)⟩,rfl,rfl⟩);cases hq:(aZ p.2 i).isSome with
  |true=>rw [hq] at he;exact hep e he
  |false=>
   rw [hq] at he;obtain ⟨e0,he0,rfl⟩:=ms he;exact congrArg (· +1) (hep e0 he0)
theorem qE {o i:Expr}{xp pos:Pos}{v:Expr}{io ii iv:Ex} (ho:Sd C d cx o io) (hi:Sd C d cx i ii) (hv:Sd C d cx v iv):hY C d cx (.Assign [.Subscript o i xp] v pos) (.asg (.sb io ii) iv):=by
 intro Y env k fr w H s p r;show bnd (eval (C.cx d) iv fr H) (λv h1=>bnd (bnd (eval (C.cx d) io fr h1) λov h2=>bnd (eval (C.cx d) ii fr h2) λiv h3=>(cS h3 ov iv v).map λh4=>(fr,h4)) λfr' h2=>some ((.nx,fr'),h2))=some r->_;refine aD λu H1 e1=>aD λfr' H2 e2 e=>?_;cases e
 revert e2
 refine aD λov H3 e3=>aD λix H4 e4=>bF λH5 hs e5=>?_;cases e5;exact λQ E hq=>wpAny_Assign_Subscript (hv.es Y env k k.m _ w H s p.pl _ e1 _ _ λw1 a1 s1 n1 r1=>ho.es Y env k k.m _ w1 H1 s1 (p.next n1).pl _ e3 _ _ λw2 a2 s2 n2 r2=>hi.es Y env k k.m _ w2 H3 s2 ((p.next n1).next n2).pl _ e4 _ _ λw3 a3 s3 n3 r3=>
  sQ n3.st (r2.mono n3.le) r3 (r1.mono (n2.le.trans n3.le)) (λs4 n4=>hq k w3 .next s4 (p.nx (((n1.trans n2).trans n3).trans n4)) .nx) hs) (zD hv λ_ _ _ _=>rfl)
theorem rW (O:cR C gl) (hC:dK C d) (hg:zbW C cx.gl) (hcc:pR cx): ∀ (n:Nat),(∀ (st:Stmt) (ir:Sm),compS n cx st=some ir->hY C d cx st ir)/\∀ (sts:List Stmt) (irs:List Sm),dB (λs=>some ((compS n cx s).getD .raise)) sts=some irs->gY C d cx sts irs:=by
 intro n;have hE: ∀ {e ir},compX cx e=some ir->Sd C d cx e ir:=λh=>kC O hC 60 cx hg hcc _ _ h;have lists: ∀ {n:Nat},(∀ (st:Stmt) (ir:Sm),compS n cx st=some ir->hY C d cx st ir) -> ∀ (sts:List Stmt) (irs:List Sm),dB (λs=>some ((compS n cx s).getD .raise)) sts=some irs->gY C d cx sts irs:=by
  intro n h sts irs e
  induction e9 e with
  |nil=>exact ssnd_nil
  | @cons st i _ _ h1 h2 ih=>
   have rest:=ih (by
    refine (bs e).elim λb zq16=>?_;have e:=zq16.2;obtain ⟨c,h3,e⟩:=ms e;cases e;exact h3)
   refine wJ ?_ rest;cases hs:compS n cx st with
   |some i'=>rw [hs] at h1;cases h1;exact h st _ hs
   |none=>rw [hs] at h1;cases h1;exact λY env k fr w H s p r e=>nos e
 have st: ∀ (st:Stmt) (ir:Sm),compS n cx st=some ir->hY C d cx st ir:=by
  induction n with
  |zero=>exact λst ir h=>nos h
  |succ n ih=>
   have ihs:=lists ih;intro st ir;cases st with
   |Pass pos=>intro h;cases h;exact λY env k fr w H s p r e Q E hq=>by cases e;exact wpAny_Pass (hq k w _ s p.rf .nx)
   |Break pos=>intro h;cases h;exact λY env k fr w H s p r e Q E hq=>by cases e;exact λ_ _ _=>hq k w _ s p.rf .bk
   |Continue pos=>intro h;cases h;exact λY env k fr w H s p r e Q E hq=>by cases e;exact λ_ _ _=>hq k w _ s p.rf .ct
   |Return v pos=>
    intro h;cases v with
    |none=>cases h;exact wH
    |some e=>obtain ⟨i,hi,rfl⟩:=ms h;exact zM (hE hi).es
   |Assign ts v pos=>
    intro h;obtain ⟨t,rfl,h⟩:=lG h;have h:Qq (motive:=λ_=>Option Sm) (gX t) ((zbn cx t).bind λa=>(compX cx v).map λb=> .asg a b) (λp=>grd (m3 v) ((compX cx v).bind λb=>alt ((zaq p.1).bind λxs=>(dB (oJ cx) xs).map λis=> .asgs (is.map .nm) b) (grd (!p.1.isEmpty) ((dB (zbo cx) p.1).map λts=> .asgs (ts.map λq=> .at q.1 q.2) b))))=some ir:=h;cases ht:gX t with
    |some p=>
     rw [ht] at h;cases kA ht
     revert h
     refine cF λhok=>aN λb hb=>bM (aN λxs hx=>bF λis his e=>?_) (cF λhne=>bF λts hts e=>?_)
     ·refine (bs hx).elim λxs' zq13=>?_
      have h2:=zq13.2;obtain ⟨h2,h3⟩:=gs h2;cases h3;exact e▸wK hok (e9 zq13.1) (of_decide_eq_true h2) (uS his) (hE hb)
     ·refine e▸qD O hok (by cases hq:p.1.isEmpty;rfl;rw [hq] at hne;cases hne) ((e9 hts).mono λe q h=>?_) (hE hb)
      obtain ⟨p,hp,h⟩:=bs h;obtain ⟨hn,h⟩:=gs h;obtain ⟨i,hi,rfl⟩:=ms h;exact ⟨p.1,p.2.1,p.2.2,l6 hp,hn,rfl,hE hi⟩
    |none=>
     rw [ht] at h;obtain ⟨a,ha,h⟩:=bs h;obtain ⟨b,hb,rfl⟩:=ms h
     revert ha
     refine bM (aN λp hp=>cF λ_=>bF λi hi e=>?_) (bM (aN λp hp=>cF λhn=>bF λi hi e=>?_) (aN λp hp=>aN λi hi=>bF λj hj e=>?_))
     ·rw [<-e,eI hp]
      refine zO hcc hi (hE hb) λ{elt gens sc cp} ev=>?_;subst ev
      clear h
      obtain ⟨g,eg,hz⟩:=lG (show xD gens _=some b from hb);subst eg;refine (bs hz).elim λq zq5=>?_;have zq4:=gs zq5.2;refine (bs zq4.2).elim λii zq3=>?_;refine (bs zq3.2).elim λiifs zq2=>?_;refine (ms zq2.2).elim λie zq1=>?_;exact ⟨g,q,ie,ii,iifs,rfl,⟨beq_iff_eq.mp (Qb.mp zq4.1).1,zq5.1,uU (Qb.mp zq4.1).2,kC O hC 59 cx hg hcc _ _ zq3.1,(kC O hC 59 (inComp cx sc q.1) hg (hcc.inComp sc q.1)) _ _ zq1.1,(e9 zq2.1).mono (kC O hC 59 (inComp cx sc q.1) hg (hcc.inComp sc q.1))⟩,zq1.2.symm⟩
     ·rw [<-e,l6 hp];exact sO O hn (hE hi) (hE hb)
     ·rw [<-e,zdN hp];exact qE (hE hi) (hE hj) (hE hb)
   |If t x y pos=>exact aN λa ha=>aN λb hb=>bF λc hc e=>e▸zcD (hE ha).ts (ihs _ _ hb) (ihs _ _ hc)
   |While t b e pos=>
    refine cF λhe=>aN λa ha=>bF λc hc e'=>?_;cases e with
    |nil=>exact e'▸sL (hE ha).ts (ihs _ _ hc)
    |cons _ _=>cases he
   |For t it b e pos=>
    refine cF λhe=>aN λq hq=>cF λ_=>aN λa ha=>aN λsl hs=>bF λc hc e'=>?_;cases e with
    |nil=>exact e'▸zN hq (uS hs) (hE ha) (ihs _ _ hc)
    |cons _ _=>cases he
   |Expr v pos=>exact cF λhc=>bF λi hi e=>e▸wI (by cases hq:d6 v;rfl;rw [hq] at hc;cases hc) (hE hi)
   |_=>exact λh=>nos h
 exact ⟨st,lists st⟩
end
end Internal
namespace Internal
open PySem PySem.W PySem.Calls PyProof.Rows
theorem vK (ps:List Str) (sc:Scope) (gl:List (Str×Val)):pR (za6 ps sc gl):=λx i h=>by
 refine ((g9 x _ 0).1 i h).elim λj zq32=>?_;obtain rfl:=zq32.1;rw [JA];exact (Qn.mp zq32.2).1
theorem tU {kindOf:Str->Option NameKind}{x:Str}: ∀ {r:List (Str×Value)}{m:Str->Option Value},x∉r.map (·.1) ->bindL kindOf r m x=m x:=by
 intro r
 induction r with
 |nil=>exact λ_=>rfl
 |cons p r ih=>
  intro m h;unfold bindL;rw [ih λq=>h (.tail _ q)];split
  ·exact if_neg λq:x=p.1=>h (q▸ .head _)
  ·rfl
theorem tV {kindOf:Str->Option NameKind}{x:Str}: ∀ {r:List (Str×Value)}{m:Str->Option Value},x∉r.map (·.1) ->bindC kindOf r m x=m x:=by
 intro r
 induction r with
 |nil=>exact λ_=>rfl
 |cons p r ih=>
  intro m h;unfold bindC;rw [ih λq=>h (.tail _ q)];split
  ·rfl
  ·exact if_neg λq:x=p.1=>h (q▸ .head _)
theorem vO {kindOf:Str->Option NameKind}{x:Str}{v:Value}: ∀ {r:List (Str×Value)}{m:Str->Option Value},(x,v)∈r->(r.map (·.1)).Nodup->(kindOf x=some .local->bindL kindOf r m x=some v)/\(kindOf x≠some .local->bindC kindOf r m x=some v):=by
 intro r
 induction r with
 |nil=>exact λh _=>absurd h Qr
 |cons p r ih=>
  intro m h hd;have hd:=Qx.mp hd;unfold bindL bindC;rcases QH.mp h with e|h
  ·subst e
   exact ⟨λhk=>by rw [tU hd.1,if_pos hk];exact if_pos rfl,λhk=>by rw [tV hd.1,if_neg hk];exact if_pos rfl⟩
  ·exact ⟨(ih h hd.2).1,(ih h hd.2).2⟩
theorem lS {cm:Str->Option Value}{x:Str}{c:Addr}{cs:List (Str×Addr)}{cells:Led} (h:CellsAre cm cs cells):cs.lookup x=some c-> ∃o,(c,o)∈cells/\o.data= .cell (cm x):=by
 induction h with
 |nil=>exact λh=>nos h
 | @cons n a o cs cells hd r ih=>
  intro h;rw [Jg] at h;cases e:x==n with
  |true=>rw [e] at h;cases h;rw [beq_iff_eq.mp e];exact ⟨o,.head _,hd⟩
  |false=>rw [e] at h;obtain ⟨o',h1,h2⟩:=ih h;exact ⟨o',.tail _ h1,h2⟩
theorem jC {cm:Str->Option Value}{cs:List (Str×Addr)}{cells:Led} (h:CellsAre cm cs cells):cells.map (·.1)=cs.map (·.2):=by
 induction h with
 |nil=>rfl
 |cons _ _ ih=>exact congrArg (_:: ·) ih
theorem fE (lo:Nat): ∀ (names:List (Str×NameKind)) (n:Nat) (acc:List (Str×Addr)),lo<=n->(acc.map (·.2)).Nodup->(∀p∈acc,p.2<n/\lo<=p.2) ->((cellsFrom n names acc).map (·.2)).Nodup/\∀p∈cellsFrom n names acc,lo<=p.2:=by
 intro names
 induction names with
 |nil=>exact λn acc _ h hl=>⟨h,λp hp=>(hl p hp).2⟩
 |cons q r ih=>
  intro n acc hn h hl;unfold cellsFrom;split
  ·refine ih (n+1) _ (Jf hn) ?_ ?_
   ·rw [QC,Qx]
    refine ⟨λhx=>?_,h⟩;refine (QI.mp hx).elim λp zq31=>?_;exact absurd (hl p zq31.1).1 (by rw [zq31.2];exact Q4 _)
   ·intro p hp
    rcases QH.mp hp with rfl|hp
    ·exact ⟨QF _,hn⟩
    ·exact ⟨Q7 (hl p hp).1,(hl p hp).2⟩
  ·exact ih n acc hn h hl
theorem zaK {x y:Str}{c:Addr}{cs:List (Str×Addr)}:(cs.map (·.2)).Nodup->cs.lookup x=some c->cs.lookup y=some c->x=y:=by
 induction cs with
 |nil=>exact λ_ h _=>nos h
 |cons p r ih=>
  intro hd hx hy;have hd:=Qx.mp hd;rw [Jg] at hx hy;cases ex:x==p.1 with
  |true=>
   rw [ex] at hx;cases ey:y==p.1 with
   |true=>exact (beq_iff_eq.mp ex).trans (beq_iff_eq.mp ey).symm
   |false=>rw [ey] at hy;exact ((λh e=>hd.1 (QI.mpr ⟨_,bB h,e⟩): ∀ {z},r.lookup z=some c->c=p.2->False) hy (Qy.inj hx).symm).elim
  |false=>
   rw [ex] at hx;cases ey:y==p.1 with
   |true=>rw [ey] at hy;exact ((λh e=>hd.1 (QI.mpr ⟨_,bB h,e⟩): ∀ {z},r.lookup z=some c->c=p.2->False) hx (Qy.inj hy).symm).elim
   |false=>rw [ey] at hy;exact ih hd.2 hx hy
section
variable {C:Cfg}{d e:Nat}{w:Wd}{H:MH}{s:Shared}{gl:List (Str×Val)}
theorem rI {Y:aQ C d 2}{qual:Str}{scope:Scope}{fa:Addr}{cdv:Value}{xs:List Str}{us:List Value}{ws:List Val}{fn:Fn}{cells ex:Led} (hkind:scope.kind= .function) (hbn:xs.Nodup) (ru:aC C w ws us) (hlen:ws.length=xs.length)
  (hc:CellsAre (bindC (envOfC qual scope Y.L fa cdv).kindOf (xs.zip us) λ_=>none) (cellsFrom (Y.L+1) scope.names []) cells)
  (S:St Y ⟨cells,ex,bindL (envOfC qual scope Y.L fa cdv).kindOf (xs.zip us) λ_=>none⟩ w H s):PlS Y (za6 xs scope gl) (envOfC qual scope Y.L fa cdv) ⟨cells,ex,bindL (envOfC qual scope Y.L fa cdv).kindOf (xs.zip us) λ_=>none⟩ (fC fn ws) w H s:=by
 have slot: ∀ {x i},cW (za6 xs scope gl) x=some i->(hG xs scope)[i]?=some x:=λ{x i} h=>by
  refine ((g9 x (hG xs scope) 0).1 i (jZ h).2).elim λj zq30=>?_;have e:=zq30.1;rw [JA] at e;exact e▸zq30.2
 have hz:((xs.zip us).map (·.1)).Nodup:=by rw [List.map_fst_zip (by rw [<-hlen,ru.length];exact Qi _)];exact hbn
 refine ⟨⟨hkind,rfl,rfl,rfl,λx hx=>Ji.mp (cellsFrom_some scope.names (Y.L+1) [] (.inl hx)),λx y c hx hy hcx hcy=>zaK ((fE 0 scope.names (Y.L+1) [] (Qs _) .nil λ_ h=>absurd h Qr).1) hcx hcy,rfl,λx y i hx hy=>Qy.inj ((slot hx).symm.trans (slot hy))⟩,
  λx c _ hcx=>(lS hc hcx).elim λo h=>⟨o,_,h.1,h.2⟩,λx i u hx hu=>?_,S⟩
 have hlt:i<ws.length:=Z3 λhge=>by
  unfold fC at hu;rw [J5 (by rw [Qh];exact Q0 hge)] at hu;obtain ⟨_,hu'⟩:=Qn.mp hu;rw [List.getElem_replicate] at hu';cases hu'
 unfold fC at hu;rw [JN (by rw [Qh];exact hlt),Qu] at hu;refine (ms hu).elim λu' zq28=>?_;have hu2:=zq28.2;cases hu2;refine (ru.get zq28.1).elim λrv zq27=>?_;have hr:=zq27.2;have hpx:xs[i]?=some x:=by
  have:=slot hx
  unfold hG at this;rwa [JN (by rw [<-hlen];exact hlt)] at this
 have hmem:(x,rv)∈xs.zip us:=Qe (List.getElem?_zip_eq_some.mpr ⟨hpx,zq27.1⟩);rcases (jZ hx).1 with hk|hk
 ·exact .loc rv hk ((vO hmem hz).1 hk) hr
 ·refine (Ji.mp (cellsFrom_some scope.names (Y.L+1) [] (.inl hk))).elim λc zq26=>?_
  refine (lS hc zq26).elim λo zq25=>?_;refine .cell rv c o hk zq26 zq25.1 ?_ hr;rw [zq25.2,(vO hmem hz).2 (by show scope.names.lookup x≠_;rw [show scope.names.lookup x=some .cell from hk];decide)]
inductive CfO (gl:List (Str×Val)) (params:Arguments) (body:List Stmt) (sc:Scope) (f:Fn):Prop
 |mk (kind:sc.kind= .function) (gen:sc.isGenerator=false) (co:sc.isCoroutine=false) (ps: ∀x∈params.args.map (·.arg),sc.names.lookup x=some .local\/sc.names.lookup x=some .cell) (b:zen (za6 (params.args.map (·.arg)) sc gl) body=some f.body) (np:(params.args.map (·.arg)).length=f.np):CfO gl params body sc f
theorem lP {params:Arguments}{body:List Stmt}{sc:Scope}{f:Fn} (h:lQ gl params body sc=some (f.np,f.ns,f.body)):CfO gl params body sc f:=by
 obtain ⟨hb,h⟩:=gs h;refine (ms h).elim λb zq23=>?_;have h2:=zq23.2;simp only [Jw,Je,KG,beq_iff_eq,Xp] at hb;simp only [Wh.injEq] at h2;exact ⟨hb.1.1.1.2,hb.1.1.2,hb.1.2,hb.2,h2.2.2▸zq23.1,h2.1⟩
theorem aC.drop {ms:List Val}: ∀ {vs:List Value}{n:Nat},aC C w ms vs->aC C w (ms.drop n) (vs.drop n):=by
 induction ms with
 |nil=>intro vs n h;cases h;rw [Kx,Kx];exact .nil
 |cons m ms ih=>
  intro vs n h;cases n with
  |zero=>exact h
  |succ n=>obtain ⟨v,t,rfl,_,r⟩:=h;exact ih r
theorem zgl {fn:Fn}{fd:FuncData}{xs:List Str}{as ws:List Val}{vs:List Value} (hk:C.K.In s.heap) (k7:iX C fn fd xs) (r:aC C w as vs) (ha:hW fn as=some ws): ∃us,aC C w ws us/\ws.length=fn.np/\BindsTo s fd ⟨vs,[]⟩ (xs.zip us):=by
 obtain ⟨hc,e⟩:=gs ha;have h1:=QV.mp (Qb.mp hc).1;have h2:=QV.mp (Qb.mp hc).2;have e:=(Qy.inj e).symm;rcases k7 with ⟨k5,k7⟩| ⟨_,dvs,k7a,k7b⟩
 ·rw [k5] at h2 e
  have hl:as.length=fn.np:=Ka h1 (Yz (XA.mp h2));rw [Kx,QU] at e;subst e;exact ⟨vs,r,hl,BindsTo.of_eq (k7 vs (r.length▸hl))⟩
 ·have hdl:=(k7a w).length
  have hrl:=r.length;refine ⟨vs++dvs.drop (dvs.length-(fn.np-vs.length)),?_,?_,kp_binds hk λSt=>k7b St vs (Qa (QA (KN hrl)) h1) (Qa (Nat.sub_le_sub_left (QA hrl) _) (Qa h2 (QA hdl)))⟩
  ·rw [e,<-hdl,<-hrl]
   exact aC.append (k7a w).drop r
  ·rw [e,Qv,Zj];lia
abbrev flV (f:Flow):Value:=match f with| .ret v=>v|_=> .none
theorem tJ {fl:Fl}{f:Flow}{fr:Frame}{H:MH}{r:Val×MH} (hr:FlR C w fl f) (e:zds (fl,fr) H=some r):aF C w r.1 (flV f)/\H=r.2:=by
 cases hr with
 |nx=>cases e;exact ⟨rfl,rfl⟩
 |bk=>exact nos e
 |ct=>exact nos e
 |rt h=>cases e;exact ⟨h,rfl⟩
theorem zbr (O:cR C gl): ∀d,dK C d:=by
 intro d
 induction d with
 |zero=>exact λY k w H s f fa as vs r S hf rr e=>nos e
 |succ d ih=>
  intro Y k w H s f fa as vs r S hf rr;refine aN λfn hfn=>aN λws hargs=>aD λq HE ev er R hq=>?_;obtain ⟨hfa,ad,name,qual,params,body,scope,dV,kV,doc,pm,an,cdv,ct,oc,od,osl,k1,k2,k3,k4,k6,k7,k8,k10⟩:=O.fns _ _ hfn;rw [hfa,hf] at k1;cases k1;refine (zgl S.kIn k7 rr hargs).elim λus zq20=>?_;obtain ⟨hkind,hgen,hco,hps,hbd,hnp⟩:=lP k4;refine Y.below.elim λA₀ zq16=>zq16.elim λbase zq17=>zq17.elim λouter zq18=>?_;refine Y.top.elim λp zq11=>zq11.elim λloose zq12=>zq12.elim λmean zq13=>zq13.elim λmg zq14=>zq14.elim λmb zq15=>?_;obtain ⟨os,he,hn,hd⟩:=S.os;refine code_defC (binds:=(params.args.map (·.arg)).zip us) zq18.1 S.fr Y.k hn zq15 zq18.2 Y.frame Y.kind k2 k3 (by have:=Y.depth;show Y.A.depth<1000;exact Qf (QB (Qd _ _)) (Qa (Kh this) (Ql _ _))) zq20.2.2 ?_ k10 (λg L' h₁ tk cells FG F' N' Yc B' Xg Tg hlt=>?_) hco hgen hkind
  ·rw [Je]
   intro y hy;rw [KG,beq_iff_eq,beq_iff_eq];exact hps y.1 (XE hy).1
  let Y':aQ C d 2:=⟨Y.A.deeper (envOfC qual scope L' fa cdv),g,L',envOfC qual scope L' fa cdv,⟨Y.A,base,Y.envF::outer,B',Around.frames_deeper zq18.2⟩,Xg,⟨p,loose,mean,mg,mb,Tg⟩,rfl,hkind,Y.handled,by have:=Y.depth;show Y.A.depth+1+4*d+2+2<=900;lia,by have:=Y.units;show Y.A.units+3+20*d+190+5*2<=9900;lia⟩
  have zq10:=fE (L'+1) scope.names (L'+1) [] (Qi _) .nil λ_ h=>absurd h Qr;have pm': ∀cells:Led,(os.flatten++(w.tp++(cells++(k.ce++k.ex)))).Perm (cells++(os.flatten++(w.tp++(k.ce++k.ex)))):=λcells=>(List.Perm.append_left _ (J4 _ _ _)).trans (J4 _ _ _);have S':St Y' ⟨cells,k.ce++k.ex,bindL (envOfC qual scope L' fa cdv).kindOf ((params.args.map (·.arg)).zip us) λ_=>none⟩ w H {s with heap:=h₁,toks:=tk}:=by
   refine ⟨F',⟨os,he,λp hp=>N' p ((pm' cells).mem_iff.mp hp),Led.nd.perm (pm' cells).symm (oT ?_ hd λx hx y hy e=>?_)⟩,Qa S.big (Qa FG.above (QJ FG.ns.lt)),S.lo⟩
   ·unfold Led.nd;rw [jC Yc];exact zq10.1
   ·have hx':x.1∈cells.map (·.1):=QI.mpr ⟨x,hx,rfl⟩
    rw [jC Yc] at hx';refine (QI.mp hx').elim λq zq9=>?_;exact absurd (Qf (hlt y hy) (K6 (zq10.2 q zq9.1))) (by rw [zq9.2,e];exact Q4 _)
  refine (rW O ih O.glob (vK _ _ _) 40).2 _ _ hbd Y' _ _ _ _ _ _ (rI (Y:=Y') (gl:=gl) (fn:=fn) (ex:=k.ce++k.ex) hkind k8 zq20.1 (zq20.2.1.trans hnp.symm) Yc S') _ ev _ _ λk1 w1 f1 s1 n1 r1=>?_;have hv:=(tJ r1 er).1;obtain ⟨os1,he1,hn1,hd1⟩:=n1.pl.st.os;rw [show k1.all w1 os1=os1.flatten++(w1.tp++(k1.ce++(k.ce++k.ex))) from by unfold Kp.all;rw [n1.ex]] at hn1 hd1;have sub:(k.all w1 os1).Sublist (os1.flatten++(w1.tp++(k1.ce++(k.ce++k.ex)))):=(List.Sublist.refl _).append ((List.Sublist.refl _).append (List.sublist_append_right _ _));exact leaveK_ n1.pl.st.fr hn1 λF2 N2=>hq w1 _ s1 ⟨n1.le,⟨F2,⟨os1,(tJ r1 er).2▸he1,λp hp=>N2 p (sub.subset hp),List.Sublist.nodup (List.Sublist.map _ sub) hd1⟩,S.big,n1.pl.st.lo⟩,n1.same.1,n1.same.2⟩ hv
theorem zaP (O:cR C gl) {s₁:Shared}{p:Program}{loose:List Str}{mean:ExcName->Option Value}{mg mb:Str->Option Value} (X:C.K.In s₁.heap) (T:Top p loose mean mg mb s₁.heap) (hbig:4<=s₁.heap.objs.size)
  {f:Nat}{fa:Addr}{mvs:List Val}{rv:Value}{r:Val×MH} (hf:C.ad.lookup f=some fa) (hlaw: ∀fn,C.P.fnAt f=some fn->fn.dfl= []) (hv:aF C ⟨[],[]⟩ (.fl mvs) rv) (ev:cG C.P fuel0 61 f [.fl mvs] []=some r) {Q:Value->Shared->Prop}{E:Value->Shared->Prop}
  (hq: ∀w v s',aF C w r.1 v->(∀b o,s₁.heap.get? b=some o->s'.heap.get? b=some o) ->s'.gens=s₁.gens->s'.os=s₁.os->Q v s'):
  wpAny C.M callerA (call (.ref fa) [rv]) Q E s₁:=by
 revert ev
 refine aN λfn hfn=>aN λws hargs=>aD λq HE ev er=>?_;obtain ⟨hfa,ad,name,qual,params,body,scope,dV,kV,doc,pm,an,cdv,ct,oc,od,osl,k1,k2,k3,k4,k6,k7,k8,k10⟩:=O.fns _ _ hfn;rw [hfa,hf] at k1;cases k1;obtain ⟨k5,k7⟩:=k7.resolve_right λh=>h.1 (hlaw fn hfn);obtain ⟨hkind,hgen,hco,hps,hbd,hnp⟩:=lP k4;obtain ⟨hc,e⟩:=gs hargs;have hc:=Qb.mp hc;rw [k5] at hc e;rw [Kx,QU] at e;cases e;have hl:1=fn.np:=Ka (QV.mp hc.1) (Yz (XA.mp (QV.mp hc.2)));refine wpAny_call (codeAny_call_cells (binds:=(params.args.map (·.arg)).zip [rv]) (fd:=fnOf name qual params body scope dV kV doc pm an cdv ct) (body:=body) (by decide) (X _ _ k2) rfl T.nolimit (codeRec_of X k3) rfl (k7 [rv] hl) rfl ?_ (λs2 x=>?_) hco hgen hkind)
 ·intro y hy
  rcases hps y.1 (XE hy).1 with h|h
  ·exact .inl h
  ·exact .inr ⟨h,cellsFrom_some _ _ _ (.inl h)⟩
 show wpAny C.M (callerA.deeper (envOfC qual scope s₁.heap.objs.size fa cdv)) (PySem.execs body (envOfC qual scope s₁.heap.objs.size fa cdv)) _ _ _;have x':InCallC s₁ s₁.heap.objs.size (bindL (envOfC qual scope s₁.heap.objs.size fa cdv).kindOf ((params.args.map (·.arg)).zip [rv]) λ_=>none) (cellsFrom (s₁.heap.objs.size+1) scope.names []) (bindC (envOfC qual scope s₁.heap.objs.size fa cdv).kindOf ((params.args.map (·.arg)).zip [rv]) λ_=>none) s2:=x;refine x.done.elim λh₁ zq2=>zq2.elim λtk zq3=>?_;obtain rfl:=zq3.1;have hk₁:=x'.toInCall.keep;refine (Cl.news (h₀:=s₁.heap) (Qi _) λn c hm=>⟨x'.cell n c (lookup_of_mem_nodup (cellsFrom_names scope.names 0 (s₁.heap.objs.size+1) [] [] rfl▸k10) hm),x'.above n c hm⟩).elim λcells zq1=>?_
 let Y':aQ C 60 2:=⟨callerA.deeper (envOfC qual scope s₁.heap.objs.size fa cdv),s₁.heap,s₁.heap.objs.size,envOfC qual scope s₁.heap.objs.size fa cdv,⟨callerA,s₁.heap,[],below_caller _,rfl⟩,X,⟨p,loose,mean,mg,mb,T⟩,rfl,hkind,rfl,(by decide:301+1+4*60+2+2<=900),(by decide:4+3+20*60+190+5*2<=9900)⟩
 have eq:(⟨cells,[],bindL (envOfC qual scope s₁.heap.objs.size fa cdv).kindOf ((params.args.map (·.arg)).zip [rv]) λ_=>none⟩:Kp).all ⟨[],[]⟩ []=cells:=QU _;have S':St Y' ⟨cells,[],bindL (envOfC qual scope s₁.heap.objs.size fa cdv).kindOf ((params.args.map (·.arg)).zip [rv]) λ_=>none⟩ ⟨[],[]⟩ [] {s₁ with heap:=h₁,toks:=tk}:=
  ⟨(⟨x'.toInCall.ns,hk₁,Qi _⟩:Fr s₁.heap s₁.heap.objs.size h₁ (bindL (envOfC qual scope s₁.heap.objs.size fa cdv).kindOf ((params.args.map (·.arg)).zip [rv]) λ_=>none)),⟨[],⟨rfl,rfl⟩,eq.symm▸zq1.1,eq.symm▸(by unfold Led.nd;rw [jC zq1.2];exact ((fE 0 scope.names (s₁.heap.objs.size+1) [] (Qs _) .nil λ_ h=>absurd h Qr).1))⟩,hbig,λ_ h=>absurd h Qr⟩
 refine (rW O (zbr O 60) O.glob (vK _ _ _) 40).2 _ _ hbd Y' _ _ _ _ _ _ (rI (Y:=Y') (gl:=gl) (fn:=fn) (ex:=[]) hkind k8 (.one hv) (by rw [hnp];exact hl) zq1.2 S') _ ev _ _ λk1 w1 f1 s1 n1 r1=>?_;exact hq w1 _ s1 (tJ r1 er).1 n1.pl.st.fr.keep n1.same.1 n1.same.2
end
end Internal
namespace Internal
open PySem PySem.W PySem.Calls PyProof.Rows
def Data.seq? (d:Data):Option (List Value×Nat):=Yo (motive:=λ_=>Option (List Value×Nat)) d none (λ_=>none) (λxs n=>some (xs.toList,n)) (λ_ _=>none) (λ_ _ _=>none) (λ_ _=>none) (λ_=>none) (λ_=>none) (λ_=>none) (λ_=>none) none
theorem seq?_s {d:Data}{p:List Value×Nat}:Data.seq? d=some p->d= .seq p.1.toArray p.2:=by
 cases d<;>first|exact λe=>nos e|(intro e;cases e;rfl)
def Data.func? (d:Data):Option FuncData:=Yo (motive:=λ_=>Option FuncData) d none (λ_=>none) (λ_ _=>none) (λ_ _=>none) (λ_ _ _=>none) (λ_ _=>none) (λ_=>none) some (λ_=>none) (λ_=>none) none
theorem func?_s {d:Data}{f:FuncData}:Data.func? d=some f->d= .func f:=by
 cases d<;>first|exact λe=>nos e|(intro e;cases e;rfl)
def Value.ref? (v:Value):Option Addr:=YW (motive:=λ_=>Option Addr) v none none none (λ_=>none) (λ_ _=>none) (λ_ _=>none) (λ_ _=>none) (λ_ _=>none) (λ_=>none) (λ_=>none) some
theorem zia?_s {v:Value}{a:Addr}:Value.ref? v=some a->v= .ref a:=by
 cases v<;>first|exact λe=>nos e|(intro e;cases e;rfl)
def zee (v:Value) (i:Int):Bool:=YW (motive:=λ_=>Bool) v false false false (λ_=>false) (λj _=>j==i) (λ_ _=>false) (λ_ _=>false) (λ_ _=>false) (λ_=>false) (λ_=>false) (λ_=>false)
theorem zdh {v:Value}{i:Int}:zee v i=true-> ∃t,v= .int i t:=by
 cases v with
 |int j t=>exact λe=>⟨t,by rw [beq_iff_eq.mp e]⟩
 |_=>exact λe=>nomatch e
def zd8 (v:Value) (s:List Nat):Bool:=YW (motive:=λ_=>Bool) v false false false (λ_=>false) (λ_ _=>false) (λ_ _=>false) (λx _=>x.cps.toList==s) (λ_ _=>false) (λ_=>false) (λ_=>false) (λ_=>false)
theorem zcx {v:Value}{s:List Nat}:zd8 v s=true-> ∃t,v= .str ⟨s.toArray⟩ t:=by
 cases v with
 |str x t=>exact λe=>⟨t,by rw [<-beq_iff_eq.mp e]⟩
 |_=>exact λe=>nomatch e
def typeIs (v:Value) (o:Option String):Bool:=Qq (motive:=λ_=>Bool) o false λn=>v== .type n
def zix (v:Value) (o:Option String):Bool:=Qq (motive:=λ_=>Bool) o false λn=>v== .builtin n
def qP (C:Cfg) (v:Value) (n:String):Option (List Value×Nat):=(Value.ref? v).bind λa=>(C.K.lookup a).bind λo=>grd (o.cls== .type n) (Data.seq? o.data)
inductive zhW (C:Cfg) (v:Value) (n:String) (p:List Value×Nat):Prop
 |mk (a:Addr) (o:Obj) (e:v= .ref a) (k:C.K.lookup a=some o) (c:o.cls= .type n) (d:o.data= .seq p.1.toArray p.2):zhW C v n p
theorem uT {C:Cfg}{v:Value}{n:String}{p:List Value×Nat} (h:qP C v n=some p):zhW C v n p:=by
 refine (bs h).elim λa zq37=>?_;have h:=zq37.2;refine (bs h).elim λo zq36=>?_;have h:=zq36.2;obtain ⟨e3,h⟩:=gs h;exact ⟨a,o,zia?_s zq37.1,zq36.1,beq_iff_eq.mp e3,seq?_s h⟩
def vT (f:Val->Value->Bool):List Val->List Value->Bool
 | [],vs=>vs.isEmpty
 |m::ms,vs=>ZF (motive:=λ_=>Bool) vs false λv r=>f m v && vT f ms r
def w7 (C:Cfg):Nat->Val->Value->Bool
 |0,_,_=>false
 |k+1,m,v=>Val.casesOn (motive_1:=λ_=>Bool) m (v== .none) (λb=>v== .bool b) (λi=>zee v i) (λs=>zd8 v s && zff s)
  (λms => Qq (motive:=λ_ => Bool) (qP C v "tuple") false λp => vT (w7 C k) ms p.1 && Jr ms.length lim) (λ_ => false)
  (λid=>Qq (motive:=λ_=>Bool) (C.ad.lookup id) false λa=>v== .ref a) (λc=>typeIs v (tyTab.lookup c)) (λc=>zix v (biTab.lookup c)) (λ_=>false)
  (λms => Qq (motive:=λ_ => Bool) (qP C v "list") false λp => vT (w7 C k) ms p.1 && Jr ms.length lim) (λ_ => false)
theorem kD {C:Cfg}{f:Val->Value->Bool} (hf: ∀m v,f m v=true-> ∀w,aF C w m v) (w:Wd): ∀ (ms:List Val) (vs:List Value),vT f ms vs=true->aC C w ms vs:=by
 intro ms
 induction ms with
 |nil=>intro vs h;exact Ks.mp h
 |cons m ms ih=>
  intro vs h;cases vs with
  |nil=>exact nomatch h
  |cons v r=>
   exact .cons (hf _ _ (Qb.mp h).1 w) (ih r (Qb.mp h).2)
theorem fM {α:Type}{o:Option α}{f:α->Bool} (h:Qq (motive:=λ_=>Bool) o false f=true): ∃a,o=some a/\f a=true:=by
 cases o with
 |none=>exact nomatch h
 |some a=>exact ⟨a,rfl,h⟩
theorem kY {C:Cfg}: ∀ (k:Nat) (m:Val) (v:Value),w7 C k m v=true-> ∀w,aF C w m v:=by
 intro k
 induction k with
 |zero=>exact λm v h=>nomatch h
 |succ k ih=>
  intro m v h w;cases m with
  |none=>exact beq_iff_eq.mp h
  |bool b=>exact beq_iff_eq.mp h
  |int i=>exact zdh h
  |str s=>
   have h:=Qb.mp h;refine (zcx h.1).elim λt zq34=>?_;exact ⟨t,zq34,z4 h.2⟩
  |tup ms=>
   obtain ⟨p,e,h⟩ := fM (o:=qP C v "tuple") h;obtain ⟨a,o,e,q1,q2,q3⟩:=uT e;have h:=Qb.mp h;exact ⟨a,o,p.2,p.1,e,⟨.inr q1,q2,q3⟩,kD ih w _ _ h.1,QV.mp h.2⟩
  |ref a=>exact nomatch h
  |top id=>
   obtain ⟨a,e,h⟩:=fM (o:=C.ad.lookup id) h;exact ⟨a,beq_iff_eq.mp h,e⟩
  |ty c=>
   obtain ⟨n,e,h⟩:=fM (o:=tyTab.lookup c) h;exact ⟨n,beq_iff_eq.mp h,e⟩
  |bi c=>
   obtain ⟨n,e,h⟩:=fM (o:=biTab.lookup c) h;exact ⟨n,beq_iff_eq.mp h,e⟩
  |rng n=>exact nomatch h
  |fl ms=>
   obtain ⟨p,e,h⟩ := fM (o:=qP C v "list") h;obtain ⟨a,o,e,q1,q2,q3⟩:=uT e;have h:=Qb.mp h;exact ⟨a,o,p.2,p.1,e,⟨q1,q2,q3⟩,kD ih w _ _ h.1,QV.mp h.2⟩
  |setn n=>exact nomatch h
section
variable {C:Cfg}{gl:List (Str×Val)}
def oo (o:Option (Option Value)) (f:Value->Bool) (g:Bool):Bool:=Qq (motive:=λ_=>Bool) o false λx=>Qq (motive:=λ_=>Bool) x g f
theorem zfq {o:Option (Option Value)}{f:Value->Bool}{g:Bool} (h:oo o f g=true):(∃v,o=some (some v)/\f v=true)\/o=some none/\g=true:=by
 rcases o with _|_|v
 ·exact nomatch h
 ·exact .inr ⟨rfl,h⟩
 ·exact .inl ⟨v,rfl,h⟩
def glB (C : Cfg) (p : Str × Val) : Bool := oo (nsIn C.K mainGlobals p.1) (w7 C 5 p.2) (!(p.1 == "__name__") && oo (some (bootBuiltins p.1)) (w7 C 5 p.2) false)
theorem zhB {p:Str×Val} (h:glB C p=true): ∃rv,GlR C p rv:=by
 rcases zfq h with ⟨v,e,h⟩| ⟨e,h⟩
 ·exact ⟨v,kY _ _ _ h,.inl e⟩
 ·have h:=Qb.mp h
  rcases zfq h.2 with ⟨v,e2,h2⟩| ⟨_,h2⟩
  ·exact ⟨v,kY _ _ _ h2,.inr ⟨e,λq=>by rw [q] at h;exact absurd h.1 (by decide+kernel),Qy.inj e2⟩⟩
  ·exact nomatch h2
def zhh (nms:List Str) (n:Nat):Option Str:=nms.find? λx=>enc x==n && aH x
theorem zam {nms:List Str}{n:Nat}{x:Str} (h:zhh nms n=some x):aH x=true/\enc x=n:=by
 exact ⟨(Qb.mp (ZM (p:=λx=>enc x==n && aH x) h:(enc x==n && aH x)=true)).2,beq_iff_eq.mp (Qb.mp (ZM (p:=λx=>enc x==n && aH x) h:(enc x==n && aH x)=true)).1⟩
def zas (C:Cfg) (nms:List Str) (c n:Nat) (f:Addr->Str->Bool):Bool:=Qq (motive:=λ_=>Bool) (C.ad.lookup c) false λca=>Qq (motive:=λ_=>Bool) (zhh nms n) false λx=>plainGet C.K ca x && hasDictIn C.K ca && f ca x
theorem u5 {nms:List Str}{c n:Nat}{f:Addr->Str->Bool}{P:Addr->Str->Prop} (hf: ∀a x,f a x=true->P a x) (h:zas C nms c n f=true):eP C c n P:=by
 refine (fM h).elim λca zq26=>?_;have h:=zq26.2;refine (fM h).elim λx zq25=>?_;have h:=zq25.2;have h:=Qb.mp h;exact ⟨ca,x,zq26.1,(zam zq25.1).1,(zam zq25.1).2,(Qb.mp h.1).1,(Qb.mp h.1).2,hf _ _ h.2⟩
def zhN (o:Option CFound) (v:Value):Bool:=Qq (motive:=λ_=>Bool) o false λx=>CFound.casesOn (motive:=λ_=>Bool) x (λu=>u==v) λ_ _ _ _=>false
theorem zf3 {o:Option CFound}{v:Value} (h:zhN o v=true):o=some (.val v):=by
 rcases o with _|_|_
 ·exact nomatch h
 ·rw [beq_iff_eq.mp h]
 ·exact nomatch h
def zes (C:Cfg) (v:Val) (ca:Addr) (x:Str):Bool:=oo (findIn C.K (.ref ca) x) (λav=>w7 C 5 v av && bif nJ C.P v then
 isFn C.K av && (specialIn C.K (.ref ca) "__getattribute__" == some (some (.builtin "type.__getattribute__")) && Qq (motive:=λ_ => Bool) (typeIn C.K (.ref ca)) false λmc => readsIn C.K ca mc && zhN (findCls C.K (.ref ca) mc x) av)
 else specialIn C.K av "__get__" == some none && (handedIn av && !copiedNames.contains x)) false
theorem zdI {v:Val}{ca:Addr}{x:Str} (h:zes C v ca x=true):zbZ C v ca x:=by
 rcases zfq h with ⟨av,e,h⟩| ⟨_,h⟩
 ·have h:=Qb.mp h
  refine ⟨av,e,kY _ _ _ h.1,λhi=>?_,λhi=>?_⟩
  ·rw [hi] at h
   have h1:=Qb.mp h.2;refine (fM (Qb.mp h1.2).2).elim λmc zq24=>?_;exact ⟨h1.1,beq_iff_eq.mp (Qb.mp h1.2).1,mc,zq24.1,(Qb.mp zq24.2).1,zf3 (Qb.mp zq24.2).2⟩
  ·rw [hi] at h
   have h1:=Qb.mp h.2;exact ⟨beq_iff_eq.mp h1.1,(Qb.mp h1.2).1,Xp _▸(Qb.mp h1.2).2⟩
 ·exact nomatch h
def zhH (C : Cfg) (ca : Addr) (x : Str) : Bool := Qq (motive:=λ_ => Bool) (findIn C.K (.ref ca) x) false λat' => noGet C.K at' && (takerIn C.K ca x == some none && (findIn C.K (.ref ca) "__setattr__" == some (some (.builtin "object.__setattr__")) && plainOver C.K ca))
theorem zfU {ca:Addr}{x:Str} (h:zhH C ca x=true):zgx C ca x:=by
 refine (fM h).elim λat' zq23=>?_;have e:=zq23.1;have h:=zq23.2;have h:=Qb.mp h;have h2:=Qb.mp h.2;have h3:=Qb.mp h2.2;exact ⟨at',e,h.1,beq_iff_eq.mp h2.1,beq_iff_eq.mp h3.1,h3.2⟩
def zef (C : Cfg) (c i : Nat) : Bool := Qq (motive:=λ_ => Bool) (C.ad.lookup c) false λca => Qq (motive:=λ_ => Bool) (C.ad.lookup i) false λfI => makesIn C.K ca && (findIn C.K (.ref ca) "__init__" == some (some (.ref fI)) && (isFn C.K (.ref fI) && keepIn C.K (.ref ca)))
theorem zdl {c i:Nat} (h:zef C c i=true):mD C c i:=by
 refine (fM h).elim λca zq22=>?_;refine (fM zq22.2).elim λfI zq21=>?_;have h2:=Qb.mp (Qb.mp zq21.2).2;exact ⟨ca,fI,zq22.1,zq21.1,(Qb.mp zq21.2).1,beq_iff_eq.mp h2.1,(Qb.mp h2.2).1,(Qb.mp h2.2).2⟩
def clB (C:Cfg) (nms:List Str) (k:Cl):Bool:=(k.attrs.all λp=>zas C nms k.addr p.1 (zes C p.2)) && ((k.flds.all λn=>zas C nms k.addr n (zhH C)) && (k.init.all λi=>zef C k.addr i))
theorem za7 {α β:Type}{f g:α->Option β}: ∀ {l:List α},(∀x∈l,f x=g x) ->l.filterMap f=l.filterMap g:=by
 intro l
 induction l with
 |nil=>exact λ_=>rfl
 |cons x l ih=>intro h;rw [Zh,Zh,h x (.head _),ih λy hy=>h y (.tail _ hy)]
theorem yS {xs:List Str}: ∀ {vs:List Value},xs.Nodup->vs.length=xs.length->(∀n∈xs,((xs.zip vs).lookup n).isSome=true)/\(xs.filterMap λn=>((xs.zip vs).lookup n).map (n,·))=xs.zip vs:=by
 induction xs with
 |nil=>exact λ_ _=>⟨λ_ h=>absurd h Qr,rfl⟩
 |cons x xs ih=>
  intro vs nd hl;cases vs with
  |nil=>exact nomatch hl
  |cons v vs=>
   have nd:=Qx.mp nd;have i1:=(ih (vs:=vs) nd.2 (JY.inj hl)).1;have ne: ∀n∈xs,(((x::xs).zip (v::vs)).lookup n)=(xs.zip vs).lookup n:=λn hn=>by
    rw [ZI,Jg,beq_false_of_ne (show n≠x from λe=>nd.1 (e▸hn))]
   refine ⟨λn hn=>?_,?_⟩
   ·rcases QH.mp hn with rfl|hn
    ·rw [ZI,Jg,beq_self_eq_true];rfl
    ·rw [ne n hn];exact i1 n hn
   ·rw [Zh,(za7 λn hn=>by rw [ne n hn]:(xs.filterMap λn=>(((x::xs).zip (v::vs)).lookup n).map (n,·))=xs.filterMap λn=>((xs.zip vs).lookup n).map (n,·)),(ih (vs:=vs) nd.2 (JY.inj hl)).2,ZI,Jg,beq_self_eq_true];rfl
theorem tT {fd:FuncData}{vs:List Value} (h1:fd.params.posonlyargs= []) (h2:fd.params.vararg=none) (h3:fd.params.kwonlyargs= []) (h4:fd.params.kwarg=none) (hd:fd.defaults= .none) (hl:vs.length=(fd.params.args.map (·.arg)).length) (nd:(fd.params.args.map (·.arg)).Nodup):
  bindArgs fd ⟨vs,[]⟩=pure ((fd.params.args.map (·.arg)).zip vs):=by
 obtain ⟨e1,e2⟩:=yS nd hl;unfold bindArgs;have e3:((fd.params.args.map (·.arg)).take (fd.params.args.map (·.arg)).length).filter (λn=>(((fd.params.args.map (·.arg)).zip vs).lookup n).isNone)= []:=by
  rw [Q2,List.filter_eq_nil_iff];intro n hn;rw [JO];intro q
  have:=e1 n hn
  rw [q] at this;exact nomatch this
 generalize hx:fd.params.args.map (·.arg)=xs at*
 have g2:((Q1:Option (Array Value)).getD #[]).toList= []:=rfl;simp only [hx,h1,h2,h3,h4,hd,List.map_nil,Zv,QU,List.forIn_nil,pure_bind,seqItems?,notAStandIn,(by rw [hl,decide_eq_false (Q4 _)];rfl:(decide (vs.length>xs.length) && (Q1:Option Arg).isNone)=false),g2,Kx,Yv,Xq,e3,List.isEmpty_nil,We,Kb,if_false,List.zip_nil_right,e2]
def stm? (b:FuncBody):Option (List Stmt):=FuncBody.casesOn (motive:=λ_=>Option (List Stmt)) b some (λ_=>none)
theorem stm?_s {b:FuncBody}{l:List Stmt}:stm? b=some l->b= .stmts l:=by
 cases b<;>first|exact λe=>nos e|(intro e;cases e;rfl)
structure FdP where
 a:Addr
 o:Obj
 fd:FuncData
def za9 (C:Cfg) (f:Fn):Option FdP:=(C.ad.lookup f.addr).bind λa=>(C.K.lookup a).bind λo=>(Data.func? o.data).map λfd=>⟨a,o,fd⟩
def zdz (C:Cfg) (gl:List (Str×Val)) (f:Fn):Option (Nat×Nat×List Sm):=(za9 C f).bind λp=>(stm? p.fd.body).bind λb=>lQ gl p.fd.params b p.fd.scope
def ndB {α:Type} [BEq α]:List α->Bool
 | []=>true
 |a::r=>!r.contains a && ndB r
theorem zap {α:Type} [BEq α] [LawfulBEq α]: ∀ {l:List α},ndB l=true->l.Nodup:=by
 intro l
 induction l with
 |nil=>exact λ_=>List.nodup_nil
 |cons a r ih=>
  intro h;have h:=Qb.mp h;refine Qx.mpr ⟨λhm=>?_,ih h.2⟩;rw [ZP.mpr hm] at h;exact nomatch h.1
def sV (fd:FuncData):Bool:=fd.params.posonlyargs.isEmpty && (fd.params.vararg.isNone && (fd.params.kwonlyargs.isEmpty && (fd.params.kwarg.isNone && fd.defaults== .none)))
def fnB (C:Cfg) (f:Fn):Bool:=Qq (motive:=λ_=>Bool) (za9 C f) false λp=>(p.fd.globals==mainGlobals && (p.fd.closure.isEmpty && (p.fd.builtins==builtinsNs && (codeIn C.K p.fd.code p.fd.qualname && keepIn C.K (.ref p.a))))) && ((ndB (p.fd.params.args.map (·.arg)) && ndB ((cellsFrom 0 p.fd.scope.names []).map (·.1))) && (!f.dfl.isEmpty||sV p.fd))
def mH (C:Cfg) (f:Fn):Prop:=f.dfl≠ []-> ∀p,za9 C f=some p->iX C f p.fd (p.fd.params.args.map (·.arg))
theorem zhJ {fd:FuncData}{b:List Stmt} (k1:fd.globals=mainGlobals) (k2:fd.closure= []) (k3:fd.builtins=builtinsNs) (k4:fd.body= .stmts b):fd=fnOf fd.name fd.qualname fd.params b fd.scope fd.defaults fd.kwdefaults fd.doc fd.pyModule fd.annotations fd.code fd.closureTuple:=by
 cases fd;cases k1;cases k2;cases k3;cases k4;rfl
theorem zad {fd:FuncData}{vs:List Value} (h:sV fd=true) (hl:vs.length=(fd.params.args.map (·.arg)).length) (nd:(fd.params.args.map (·.arg)).Nodup):bindArgs fd ⟨vs,[]⟩=pure ((fd.params.args.map (·.arg)).zip vs):=
 let h7:=Qb.mp h
 let h8:=Qb.mp h7.2
 let h9:=Qb.mp h8.2
 let h10:=Qb.mp h9.2
 tT (Ks.mp h7.1) (JO.mp h8.1) (Ks.mp h9.1) (JO.mp h10.1) (beq_iff_eq.mp h10.2) hl nd
theorem fnF {f:Fn}{a:Addr}{o:Obj}{fd:FuncData}{b:List Stmt} (e1:C.ad.lookup f.addr=some a) (e2:C.K.lookup a=some o) (e3:Data.func? o.data=some fd) (eb:stm? fd.body=some b) (hc:lQ gl fd.params b fd.scope=some (f.np,f.ns,f.body)) (hD:f.dfl≠ []->iX C f fd (fd.params.args.map (·.arg)))
  (h1:(fd.globals==mainGlobals && (fd.closure.isEmpty && (fd.builtins==builtinsNs && (codeIn C.K fd.code fd.qualname && keepIn C.K (.ref a)))))=true) (nd:(fd.params.args.map (·.arg)).Nodup) (nc:((cellsFrom 0 fd.scope.names []).map (·.1)).Nodup) (h2:(!f.dfl.isEmpty||sV fd)=true):pQ C gl f:=by
 have h1:=Qb.mp h1;have h4:=Qb.mp (Qb.mp h1.2).2;have ef:=zhJ (beq_iff_eq.mp h1.1) (Ks.mp (Qb.mp h1.2).1) (beq_iff_eq.mp h4.1) (stm?_s eb);exact ⟨a,fd.name,fd.qualname,fd.params,b,fd.scope,fd.defaults,fd.kwdefaults,fd.doc,fd.pyModule,fd.annotations,fd.code,fd.closureTuple,o.cls,o.dict,o.slots,e1,ef▸func?_s e3▸e2,(Qb.mp h4.2).1,hc,(Qb.mp h4.2).2,ef▸((Decidable.em (f.dfl= [])).elim .inr λh=> .inl (hD h):iX C f fd (fd.params.args.map (·.arg))\/f.dfl= []).elim id λhd=> .inl ⟨hd,λvs hl=>zad ((KJ.mp h2).resolve_left (by rw [hd];exact λh=>nomatch h)) (hl.trans (by obtain ⟨_,_,_,_,_,np⟩:=lP hc;exact np:(fd.params.args.map (·.arg)).length=f.np).symm) nd⟩,nd,nc⟩
theorem zhG {f:Fn} (h:fnB C f=true) (hc:zdz C gl f=some (f.np,f.ns,f.body)) (hD:mH C f):pQ C gl f:=by
 obtain ⟨p,e,h⟩:=fM h;unfold zdz at hc;rw [e] at hc;obtain ⟨b,eb,hc⟩:=bs (show ((stm? p.fd.body).bind λb=>lQ gl p.fd.params b p.fd.scope)=_ from hc);have hD:=λh=>hD h p e;obtain ⟨a,e1,e⟩:=bs e;obtain ⟨o,e2,e⟩:=bs e;refine (ms e).elim λfd zq14=>?_;obtain rfl:=zq14.2;have h5:=Qb.mp (Qb.mp h).2;exact fnF e1 e2 zq14.1 eb hc hD (Qb.mp h).1 (zap (Qb.mp h5.1).1) (zap (Qb.mp h5.1).2) h5.2
def zac (o:Obj):Bool:=Yo (motive:=λ_=>Bool) o.data true (λ_=>false) (λ_ _=>false) (λ_ _=>false) (λ_ _ _=>false) (λ_ _=>false) (λ_=>false) (λ_=>false) (λ_=>false) (λ_=>false) false
def zbe (o:Obj):Bool:=Yo (motive:=λ_=>Bool) o.data false (λ_=>false) (λ_ _=>false) (λes _=>es.isEmpty) (λ_ _ _=>false) (λ_ _=>false) (λ_=>false) (λ_=>false) (λ_=>false) (λ_=>false) false
def zaV (C:Cfg) (p:Nat×Nat):Bool:=Qq (motive:=λ_=>Bool) (C.ad.lookup p.1) false λa=>Qq (motive:=λ_=>Bool) (C.ad.lookup p.2) false λca=>Qq (motive:=λ_=>Bool) (C.K.lookup a) false λo=>Qq (motive:=λ_=>Bool) o.dict false λdx=>
 Qq (motive:=λ_ => Bool) (C.K.lookup dx) false λo' => (o.cls == .ref ca && (zac o && o.slots.isEmpty)) && ((o'.cls == .type "dict" && o'.dict.isNone) && (zbe o' && o'.slots.isEmpty))
theorem zab {o:Obj} (h:zac o=true):o.data= .plain:=by
 obtain ⟨c,d,x,s⟩:=o;cases x<;>first|rfl|exact nomatch h
theorem zbd {o:Obj} (h:zbe o=true): ∃n,o.data= .dict #[] n:=by
 obtain ⟨c,d,x,s⟩:=o;cases x with
 |dict es n=>exact ⟨n,by rw [K7.mp h]⟩
 |_=>exact nomatch h
theorem zdi {p:Nat×Nat} (h:zaV C p=true):mC C p.1 p.2:=by
 refine (fM h).elim λa zq13=>?_;have h:=zq13.2;refine (fM h).elim λca zq12=>?_;have h:=zq12.2;refine (fM h).elim λo zq11=>?_;have h:=zq11.2;refine (fM h).elim λdx zq10=>?_;have h:=zq10.2;obtain ⟨o',e5,h⟩:=fM h;have h:=Qb.mp h;have h1:=Qb.mp h.1;have h4:=Qb.mp (Qb.mp h.2).1;have h5:=Qb.mp (Qb.mp h.2).2;obtain ⟨n,e6⟩:=zbd h5.1;refine ⟨a,ca,dx,n,zq13.1,zq12.1,?_,?_⟩
 ·rw [zq11.1,<-beq_iff_eq.mp h1.1,<-zq10.1,<-zab (Qb.mp h1.2).1,<-K7.mp (Qb.mp h1.2).2]
 ·obtain ⟨c,d,x,s⟩:=o'
  cases beq_iff_eq.mp h4.1;cases JO.mp h4.2;cases e6;cases K7.mp h5.2;exact e5
def adB (C : Cfg) : Bool := C.ad.all λp => Qq (motive:=λ_ => Bool) (C.K.lookup p.2) false λo => !(o.cls == .type "tuple")
def ziq (C:Cfg):Bool:=(C.K.lookup 0).isSome && ((C.K.lookup 1).isSome && ((C.K.lookup 2).isSome && (C.K.lookup 3).isSome))
theorem zdj {l:List (Nat×Addr)}:(l.map (·.2)).Nodup-> ∀ {i j:Nat}{a:Addr},(i,a)∈l->(j,a)∈l->i=j:=by
 induction l with
 |nil=>exact λ_ _ _ _ h _=>absurd h Qr
 |cons p r ih=>
  intro hn i j a h1 h2;have hn:=Qx.mp hn;rcases QH.mp h1 with h1|h1<;>rcases QH.mp h2 with h2|h2
  ·exact congrArg (·.1) (h1.trans h2.symm)
  ·exact absurd (QI.mpr ⟨(j,a),h2,show a=p.2 from congrArg (λq:Nat×Addr=>q.2) h1⟩) hn.1
  ·exact absurd (QI.mpr ⟨(i,a),h1,show a=p.2 from congrArg (λq:Nat×Addr=>q.2) h2⟩) hn.1
  ·exact ih hn.2 h1 h2
theorem zf2 (h1:adB C=true) (h2:ndB (C.ad.map (·.2))=true) (h3:ziq C=true):iW C:=by
 refine ⟨λid a h=>?_,λi j a hi hj=>zdj (zap h2) (bB hi) (bB hj),λb hb=>?_⟩
 ·refine (fM (Je.mp h1 _ (bB h))).elim λo zq7=>?_
  have h:=zq7.2;exact ⟨o,zq7.1,λhc=>by rw [hc] at h;exact absurd h (by decide+kernel)⟩
 ·have h3:=Qb.mp h3
  have h4:=Qb.mp h3.2;have h5:=Qb.mp h4.2;rcases b with _|_|_|_|b
  ·exact Ji.mp h3.1
  ·exact Ji.mp h4.1
  ·exact Ji.mp h5.1
  ·exact Ji.mp h5.2
  ·exact absurd hb (ZV.mpr (Ql 4 b))
theorem ze2 {nms:List Str} (hc:C.P.fns.map (zdz C gl)=C.P.fns.map λf=>some (f.np,f.ns,f.body)) (hf:C.P.fns.all (fnB C)=true) (hD: ∀f∈C.P.fns,mH C f) (hg:gl.all (glB C)=true) (hi:C.P.insts.all (zaV C)=true) (hk:C.P.cls.all (clB C nms)=true) (h5:iW C) (h6:vU C):cR C gl:=by
 have cls: ∀ {c k},C.P.clsAt c=some k->k.addr=c/\clB C nms k=true:=λ{c k} h=>⟨beq_iff_eq.mp (ZM (p:=λx:Cl=>x.addr==c) h),Je.mp hk k (Zr h)⟩;refine ⟨λx v h=>zhB (Je.mp hg (x,v) (bB h)),λa f h=>?_,λid c h=>?_,λc n v h=>?_,λc n h=>?_,λc k i h hi=>?_,h5,h6⟩
 ·have hm:=Zr h
  exact ⟨beq_iff_eq.mp (ZM (p:=λf:Fn=>f.addr==a) h),zhG (Je.mp hf f hm) (List.map_inj_left.mp hc f hm) (hD f hm)⟩
 ·obtain ⟨p,hp,rfl⟩:=ms h
  rw [<-beq_iff_eq.mp (ZM (p:=λp:Nat×Nat=>p.1==id) hp)];exact zdi (Je.mp hi p (Zr hp))
 ·obtain ⟨k,hk,h⟩:=bs h
  obtain ⟨p,hp,rfl⟩:=ms h;obtain ⟨e,hb⟩:=cls hk;rw [<-e,<-beq_iff_eq.mp (ZM (p:=λp:Nat×Val=>p.1==n) hp)];exact u5 (λ_ _=>zdI) (Je.mp (Qb.mp hb).1 p (Zr hp))
 ·unfold Prg.hasFld at h
  cases hk:C.P.clsAt c with
  |none=>rw [hk] at h;exact nomatch h
  |some k=>
   rw [hk] at h;rw [<-(cls hk).1];exact u5 (λ_ _=>zfU) (Je.mp (Qb.mp (Qb.mp (cls hk).2).2).1 n (ZP.mp h))
 ·obtain ⟨e,hb⟩:=cls h
  have:=(Qb.mp (Qb.mp hb).2).2
  rw [hi] at this;rw [<-e];exact zdl this
end
end Internal
namespace Internal
open PySem PySem.W PySem.Calls PyProof.Rows
theorem vD {vs:List Value}{ns:List Int} (h:IntsAre vs ns):kf_ints vs=true/\lks_nums vs=ns:=by
 induction h with
 |nil=>exact ⟨rfl,rfl⟩
 |cons n t _ ih=>exact ⟨ih.1,congrArg (n:: ·) ih.2⟩
theorem zgk {l:List Int} (h:l.Pairwise (· <= ·)):lks_asc l=true:=by
 induction h with
 |nil=>rfl
 |cons h _ ih=>exact Qb.mpr ⟨Je.mpr λb hb=>decide_eq_true (h b hb),ih⟩
theorem y5 {C:Cfg}{w:Wd}{t:Nat->Tok}: ∀ {l:List Int}{i:Nat},aC C w (l.map Val.int) (lks_vals l i t):=by
 intro l
 induction l with
 |nil=>exact λ{i} => .nil
 |cons a l ih=>exact λ{i} => .cons ⟨_,rfl⟩ ih
theorem zcE (l:List Int):(jV l).Perm l/\(jV l).Pairwise (· <= ·):=by
 refine ⟨KM ..,?_⟩
 have:=List.pairwise_mergeSort (le:=λa b:Int=>decide (a<=b)) (λa b c h1 h2=>decide_eq_true (Xm (of_decide_eq_true h1) (of_decide_eq_true h2))) (λa b=>by rcases Int.le_total a b with h|h<;>simp [h]) l
 exact this.imp λh=>of_decide_eq_true h
theorem zie (C : Cfg) : vU C := λ{d e Y k w H s as vs} K S r => .a1 (T:=λl => call (.builtin "sorted") l) r λx v hx => .opt λp hp => .opt λl hl => .grd λhc => by
 intro r' e' Q E hq;cases e';have hc:=Qb.mp hc;have h64:l.length<64:=QV.mp hc.2;refine (S.dict hx hp).elim λ_ zq17=>?_;obtain ⟨b,n,es,rfl,hmod,_,hg,hdr,hlim,_⟩:=zq17.2;have hll:l.length=p.2.length:=by
  have go: ∀ {ms:List Val}{l:List Int},nK ms=some l->l.length=ms.length:=by
   intro ms
   induction ms with
   |nil=>intro l h;cases h;rfl
   |cons m ms ih=>
    intro l h;obtain ⟨y,ys,_,e2,rfl⟩:=oV h;exact congrArg JY (ih e2)
  rw [go hl,Qh]
 rcases hdr with ⟨kvs,D⟩| ⟨xs,D⟩
 ·have hkl:kvs.length=l.length:=by rw [hll];exact (rB D.e).symm
  have hk: ∀ (j:Nat) (q:Atom×Value),kvs[j]?=some q-> ∃z,l[j]?=some z/\q.1= .i z:=by
   have go: ∀ {kvs:List (Atom×Value)}{l:List Int},nK (kvs.map λp=>p.1.val)=some l-> ∀ (j:Nat) (q:Atom×Value),kvs[j]?=some q-> ∃z,l[j]?=some z/\q.1= .i z:=by
    intro kvs
    induction kvs with
    |nil=>exact λ_ _ _ e=>nos e
    |cons a kvs ih=>
     intro l h j q hq;obtain ⟨y,ys,e1,e2,rfl⟩:=oV h;cases j with
     |zero=>
      cases hq;obtain ⟨at1,_⟩:=a;cases at1 with
      |i n=>cases e1;exact ⟨_,rfl,rfl⟩
      |s x=>exact nos e1
     |succ j=>exact ih (l:=ys) e2 j q hq
   exact go (by rw [<-D.e];exact hl)
  obtain ⟨all,hn,add,_,_⟩:=S.ledger;obtain ⟨ep,hat⟩:=(D.dictOf hg).dictAt;refine kdu_sorted (kdl_dict (knd:=bQ C.prog C.w) (kvs:=kvs) (ep:=ep) hmod) Y.handled S.fr hn hat (by rw [hkl];exact Qa (QJ h64) (by decide)) λB h' tk vs F' N' hlt hvl hvs=>?_;have hI:IntsAre vs l:=by
   have go: ∀ {vs:List Value}{l:List Int},vs.length=l.length->(∀ (j:Nat) (v:Value),vs[j]?=some v-> ∃z t,l[j]?=some z/\v= .int z t) ->IntsAre vs l:=by
    intro vs
    induction vs with
    |nil=>intro l h _;cases l with
     |nil=>exact .nil
     |cons _ _=>exact nomatch h
    |cons v vs ih=>intro l h hj;cases l with
     |nil=>exact nomatch h
     |cons z l=>
      obtain ⟨z',t,e1,rfl⟩:=hj 0 v rfl;cases e1;exact .cons z t (ih (JY.inj h) λj v hv=>hj (j+1) v hv)
   refine go (hvl.trans hkl) λj v hv=>?_;obtain ⟨a,x,hx,ha⟩:=hvs j v hv;obtain ⟨z,hz,e⟩:=hk j _ hx;have e:a= .i z:=e;subst e;obtain ⟨t,rfl⟩:=JQ (show Wk z v=true from ha);exact ⟨z,t,hz,rfl⟩
  have zq4:=zcE l;refine lks_sort (its:=vs.toArray) (n:=0) (q:=jV l) (news':=λt=>(B,listOf (lks_vals (jV l) 0 t).toArray (0+2))::all) F' N' (λt=> .head λp hp=>Zy (hlt p hp)) (vD hI).1 ?_ ?_ ?_ λt h2 F2 N2=>?_
  ·show ((lks_nums vs).isPerm (jV l) && lks_asc (jV l))=true
   rw [(vD hI).2,zgk zq4.2,Ya];exact List.isPerm_iff.mpr zq4.1.symm
  ·show vs.isEmpty=false
   cases vs with
   |nil=>rw [show l= [] from by cases hI;rfl] at hc;exact nomatch hc.1
   |cons _ _=>rfl
  ·show vs.length<64
   rw [hvl,hkl];exact h64
  ·have h4:4<=B:=Q0 λhlt4=>by
    refine (K.low B hlt4).elim λo zq3=>?_
    have:=(N' (B,_) (.head _)).2.2
    rw [Y.k B o zq3] at this;exact nomatch this
   refine hq _ _ {s with heap:=h2,toks:=tk} ⟨(⟨Jb _ _,λ_ x=>x⟩:w.le ⟨w.σ++ [B],w.tp⟩),add B (.list ((jV l).map .int)) [(B,listOf (lks_vals (jV l) 0 t).toArray (0+2))] h2 ⟨_,_,rfl,y5,by rw [Qh,zq4.1.length_eq];exact Qa (QJ h64) (by decide)⟩ F2 N2 (eY _) (λp hp q hq=>by rw [Qw.mp hp];exact λe=>absurd (hlt q hq) (by rw [<-e];exact Q4 _)) h4,rfl,rfl⟩ ⟨_,rfl,by rw [<-S.len];exact Jh⟩
 ·exfalso
  have e:=D.e;cases xs with
  |nil=>rw [KL.mp e] at hl;cases hl;exact nomatch hc.1
  |cons a xs=>
   cases hp2:p.2 with
   |nil=>rw [hp2] at e;cases e
   |cons q qs=>
    rw [hp2] at e hl;refine (oV hl).elim λy zq1=>zq1.elim λys zq2=>?_;have e1:=zq2.1;have e1:q.1.int?=some y:=e1;rw [show q.1= .tup (a.1.map Atom.val) from (ZY.inj e).1] at e1;exact nos e1
end Internal
namespace Internal
structure W {α:Type} (o:Option (α×MH)) (Q:α->MH->Prop):Prop where
 w:Qq (motive:=λ_=>Prop) o False λp=>Q p.1 p.2
structure Wo {α:Type} (o:Option α) (Q:α->Prop):Prop where
 w:Qq (motive:=λ_=>Prop) o False Q
section
variable {α β:Type}{o:Option (α×MH)}{Q:α->MH->Prop}
theorem W.get (h:W o Q): ∃a g,o=some (a,g)/\Q a g:=by
 cases o with
 |none=>exact h.w.elim
 |some p=>exact ⟨p.1,p.2,rfl,h.w⟩
theorem W.mono {Q':α->MH->Prop} (h:W o Q) (i: ∀a g,Q a g->Q' a g):W o Q':=by
 cases o with
 |none=>exact ⟨h.w⟩
 |some p=>exact ⟨i _ _ h.w⟩
theorem W.of {a:α}{g:MH} (e:o=some (a,g)) (q:Q a g):W o Q:=by subst e;exact ⟨q⟩
theorem bR {a:α}{g:MH} (q:Q a g):W (some (a,g)) Q:=⟨q⟩
theorem w_bnd {f:α->MH->Option (β×MH)}{R:β->MH->Prop} (h:W o λa g=>W (f a g) R):W (bnd o f) R:=by
 cases o with
 |none=>exact h.w.elim
 |some p=>exact h.w
theorem w_bnd' {f:α->MH->Option (β×MH)}{R:β->MH->Prop} (h:W (bnd o f) R):W o λa g=>W (f a g) R:=by
 cases o with
 |none=>exact ⟨h.w⟩
 |some p=>exact ⟨h⟩
theorem uC {b:β}{P:β->Prop} (q:P b):Wo (some b) P:=⟨q⟩
theorem hZ {x:Option β}{f:β->Option (α×MH)} (h:Wo x λb=>W (f b) Q):W (x.bind f) Q:=by
 cases x with
 |none=>exact h.w.elim
 |some b=>exact h.w
theorem mY {x:Option β}{f:β->α×MH} (h:Wo x λb=>Q (f b).1 (f b).2):W (x.map f) Q:=by
 cases x with
 |none=>exact h.w.elim
 |some b=>exact ⟨h.w⟩
theorem uH {b:Bool} (hb:b=true) (h:W o Q):W (grd b o) Q:=by subst hb;exact h
theorem mZ {o':Option (α×MH)} (h:W o Q):W (alt o o') Q:=by
 cases o with
 |none=>exact h.w.elim
 |some p=>exact ⟨h.w⟩
theorem Wo.mono {o:Option β}{P P':β->Prop} (h:Wo o P) (i: ∀a,P a->P' a):Wo o P':=by
 cases o with
 |none=>exact ⟨h.w⟩
 |some a=>exact ⟨i a h.w⟩
theorem Wo.of {o:Option β}{P:β->Prop}{a:β} (e:o=some a) (q:P a):Wo o P:=by subst e;exact ⟨q⟩
theorem fP {p:Option (Val×MH)}{Q:Bool->MH->Prop} (h:W p λv g=>Wo (truthy g v) λb=>Q b g):W (bO p) Q:=w_bnd (h.mono λv g h=>mY (f:=λb=>(b,g)) h)
end
def WB (op:BOp) (x y:Val) (h:MH) (Q:Val->MH->Prop):Prop:=W (d4 op x y h) Q
def WC (op:COp) (x y:Val) (h:MH) (Q:Val->MH->Prop):Prop:=Wo (c7 op x y h) λr=>Q (.bool r) h
def WT (x:Val) (h:MH) (Q:Bool->Prop):Prop:=Wo (truthy h x) Q
def WI (o k:Val) (h:MH) (Q:Val->MH->Prop):Prop:=Wo (bJ h o k) λv=>Q v h
def WA (P:Prg) (o:Val) (n:Nat) (h:MH) (Q:Val->MH->Prop):Prop:=Wo (getAttr P h o n) λv=>Q v h
def WSl (o:Val) (k:Nat) (bs:List Val) (h:MH) (Q:Val->MH->Prop):Prop:=W (slice h o k bs) Q
def WV (c:Cx) (f:Val) (as:List Val) (h:MH) (Q:Val->MH->Prop):Prop:=W (aP c f as h) Q
def WM (c:Cx) (o:Val) (n:Nat) (as:List Val) (h0 h:MH) (Q:Val->MH->Prop):Prop:=W (bI c o n as h0 h) Q
def WSt (c:Cx) (ts:List T1) (vs:List Val) (fr:Frame) (h:MH) (Q:Frame->MH->Prop):Prop:=W (dP c ts vs fr h) Q
def Br (r:Bool) (A B:Prop):Prop:=(r=true->A)/\(r=false->B)
theorem br {r:Bool}{A B:Prop} (a:r=true->A) (b:r=false->B):Br r A B:=⟨a,b⟩
theorem zf5 {A B:Prop} (a:A):Br true A B:=⟨λ_=>a,λh=>nomatch h⟩
theorem ziw {A B:Prop} (b:B):Br false A B:=⟨λh=>(nomatch h:False).elim,λ_=>b⟩
abbrev Cxd (P:Prg) (d:Nat):Cx:=⟨P,200000,cG P 200000 d⟩
section
variable {c:Cx}{fr:Frame}{h:MH}{Q:Val->MH->Prop}{P:Prg}{d:Nat}
def WE (c:Cx) (fr:Frame) (e:Ex) (h:MH) (Q:Val->MH->Prop):Prop:=W (eval c e fr h) Q
def WEs (c:Cx) (fr:Frame) (es:List Ex) (h:MH) (Q:List Val->MH->Prop):Prop:=W (eG c es fr h) Q
theorem sA {x:Nat}{v:Val} (hx:fr[x]?=some (some v)) (q:Q v h):WE c fr (.var x) h Q:=by
 show W ((fr[x]?).bind λo=>o.map λv=>(v,h)) Q;rw [hx];exact ⟨q⟩
theorem zeQ {v:Val} (q:Q v h):WE c fr (.lit v) h Q:=bR q
theorem uE {Q:List Val->MH->Prop} (q:Q [] h):WEs c fr [] h Q:=bR q
theorem yZ {Q:List Val->MH->Prop}{e:Ex}{r:List Ex} (q:WE c fr e h λv h1=>WEs c fr r h1 λvs h2=>Q (v::vs) h2):WEs c fr (e::r) h Q:=w_bnd (W.mono q λv h1 q=>w_bnd (W.mono q λ_ _ q=>bR q))
theorem uF {es:List Ex} (q:WEs c fr es h λvs h1=>Q (.ref h1.length) (h1++ [.list vs])):WE c fr (.list es) h Q:=w_bnd (W.mono q λ_ _ q=>bR q)
theorem zeN {es:List Ex} (q:WEs c fr es h λvs h1=>Q (.tup vs) h1):WE c fr (.tup es) h Q:=w_bnd (W.mono q λ_ _ q=>bR q)
theorem zeU {op:BOp}{a b:Ex} (q:WE c fr a h λx h1=>WE c fr b h1 λy h2=>WB op x y h2 Q):WE c fr (.bin op a b) h Q:=w_bnd (W.mono q λx h1 q=>w_bnd q)
theorem zeP {a:Ex} (q:WE c fr a h λx h1=>WT x h1 λb=>Q (.bool (!b)) h1):WE c fr (.not a) h Q:=w_bnd (fP (W.mono q λ_ _ q=>Wo.mono q λ_ q=>bR q))
theorem zeS {op:COp}{a b:Ex} (q:WE c fr a h λx h1=>WE c fr b h1 λy h2=>WC op x y h2 Q):WE c fr (.cmp op a b) h Q:=w_bnd (W.mono q λx h1 q=>w_bnd (W.mono q λy h2 q=>mY (f:=λr=>(Val.bool r,h2)) q))
theorem pJ {α:Type}{r:Bool}{a b:Option (α×MH)}{Q:α->MH->Prop} (q:Br r (W a Q) (W b Q)):W (bif r then a else b) Q:=by
 cases r with
 |true=>exact q.1 rfl
 |false=>exact q.2 rfl
theorem zeR {t a b:Ex} (q:WE c fr t h λx h1=>WT x h1 λr=>Br r (WE c fr a h1 Q) (WE c fr b h1 Q)):WE c fr (.ite t a b) h Q:=w_bnd (fP (W.mono q λx h1 q=>Wo.mono q λr q=>pJ q))
theorem zcj {e:Ex}{n:Nat} (q:WE c fr e h λo h1=>WA c.P o n h1 Q):WE c fr (.attr e n) h Q:=w_bnd (W.mono q λo h1 q=>mY (f:=λv=>(v,h1)) q)
theorem zeO {e i:Ex} (q:WE c fr e h λo h1=>WE c fr i h1 λk h2=>WI o k h2 Q):WE c fr (.sub e i) h Q:=w_bnd (W.mono q λo h1 q=>w_bnd (W.mono q λk h2 q=>mY (f:=λv=>(v,h2)) q))
theorem y0 {e:Ex}{k:Nat}{bs:List Ex} (q:WE c fr e h λo h1=>WEs c fr bs h1 λvs h2=>WSl o k vs h2 Q):WE c fr (.slice e k bs) h Q:=w_bnd (W.mono q λo h1 q=>w_bnd q)
theorem zch {f:Ex}{as:List Ex} (q:WE c fr f h λg h1=>WEs c fr as h1 λvs h2=>WV c g vs h2 Q):WE c fr (.call f as) h Q:=w_bnd (W.mono q λo h1 q=>w_bnd q)
theorem zcg {o:Ex}{n:Nat}{as:List Ex} (q:WE c fr o h λg h1=>WEs c fr as h1 λvs h2=>WM c g n vs h1 h2 Q):WE c fr (.meth o n as) h Q:=w_bnd (W.mono q λo h1 q=>w_bnd q)
theorem zci {st:Bool}{e:Ex} (q:WE c fr e h Q):WE c fr (.bop st [e]) h Q:=w_bnd (f:=λv h1=>some (v,h1)) (W.mono q λ_ _ q=>bR q)
theorem zeT {st:Bool}{e f:Ex}{r:List Ex} (q:WE c fr e h λv h1=>WT v h1 λb=>Br (b==st) (Q v h1) (WE c fr (.bop st (f::r)) h1 Q)):WE c fr (.bop st (e::f::r)) h Q:=w_bnd (f:=λv h1=>(truthy h1 v).bind λb=>bif b==st then some (v,h1) else jR c st (f::r) fr h1) (W.mono q λv h1 q=>hZ (Wo.mono q λb q=>pJ ⟨λh=>bR (q.1 h),q.2⟩))
variable {R:Fl->Frame->MH->Prop}
def WS (c:Cx) (s:Sm) (fr:Frame) (h:MH) (R:Fl->Frame->MH->Prop):Prop:=W (exec c s fr h) λp h=>R p.1 p.2 h
def WSs (c:Cx) (s:List Sm) (fr:Frame) (h:MH) (R:Fl->Frame->MH->Prop):Prop:=W (execs c s fr h) λp h=>R p.1 p.2 h
theorem zb5 (q:R .nx fr h):WSs c [] fr h R:=bR (a:=(Fl.nx,fr)) q
def Beh (c:Cx) (r:List Sm) (R:Fl->Frame->MH->Prop) (fl:Fl) (fr:Frame) (h:MH):Prop:=Fl.casesOn (motive:=λ_=>Prop) fl (WSs c r fr h R) (R .bk fr h) (R .ct fr h) λv=>R (.rt v) fr h
theorem yW {s:Sm}{r:List Sm} (q:WS c s fr h (Beh c r R)):WSs c (s::r) fr h R:=by
 show W (bnd (exec c s fr h) λ(p:Fl×Frame) h1=>Fl.casesOn (motive:=λ_=>SR) p.1 (execs c r p.2 h1) (some (p,h1)) (some (p,h1)) (λ_=>some (p,h1))) λp h=>R p.1 p.2 h;exact w_bnd (W.mono q λp h1 q=>by
  obtain ⟨fl,f2⟩:=p;cases fl with
  |nx=>exact q
  |bk=>exact ⟨q⟩
  |ct=>exact ⟨q⟩
  |rt v=>exact ⟨q⟩)
theorem zb9 {e:Ex} (q:WE c fr e h λ_ h1=>R .nx fr h1):WS c (.expr e) fr h R:=by
 show W (bnd (eval c e fr h) λ_ h1=>some ((Fl.nx,fr),h1)) λp h=>R p.1 p.2 h;exact w_bnd (W.mono q λ_ _ q=>⟨q⟩)
theorem zcb {ts:List T1}{e:Ex} (q:WE c fr e h λv h1=>Wo (items h1 v) λvs=>WSt c ts vs fr h1 λf2 h2=>R .nx f2 h2):WS c (.asgs ts e) fr h R:=by
 show W (bnd (eval c e fr h) λv h1=>(items h1 v).bind λvs=>bnd (dP c ts vs fr h1) λfr' h2=>some ((Fl.nx,fr'),h2)) λp h=>R p.1 p.2 h;exact w_bnd (W.mono q λv h1 q=>hZ (Wo.mono q λvs q=>w_bnd (W.mono q λ_ _ q=>⟨q⟩)))
theorem zeI {e:Ex} (q:WE c fr e h λv h1=>R (.rt v) fr h1):WS c (.ret e) fr h R:=by
 show W (bnd (eval c e fr h) λv h1=>some ((Fl.rt v,fr),h1)) λp h=>R p.1 p.2 h;exact w_bnd (W.mono q λ_ _ q=>⟨q⟩)
theorem zeJ {t:Ex}{a b:List Sm} (q:WE c fr t h λx h1=>WT x h1 λr=>Br r (WSs c a fr h1 R) (WSs c b fr h1 R)):WS c (.ite t a b) fr h R:=by
 show W (bnd (bO (eval c t fr h)) λr h1=>bif r then execs c a fr h1 else execs c b fr h1) λp h=>R p.1 p.2 h;exact w_bnd (fP (W.mono q λx h1 q=>Wo.mono q λr q=>pJ q))
theorem zeK (q:R .bk fr h):WS c .brk fr h R:=bR (a:=(Fl.bk,fr)) q
theorem zca (q:R .ct fr h):WS c .cont fr h R:=bR (a:=(Fl.ct,fr)) q
theorem zb6 (q:R .nx fr h):WS c .pass fr h R:=bR (a:=(Fl.nx,fr)) q
def WF (P:Prg) (d f:Nat) (as:List Val) (h:MH) (Q:Val->MH->Prop):Prop:=W (cG P 200000 d f as h) Q
def Fin (Q:Val->MH->Prop) (fl:Fl) (_:Frame) (h:MH):Prop:=Fl.casesOn (motive:=λ_=>Prop) fl (Q .none h) False False λv=>Q v h
theorem uD {f:Nat}{fn:Fn}{as vs:List Val} (hf:P.fnAt f=some fn) (ha:hW fn as=some vs) (q:WSs (Cxd P d) fn.body (fC fn vs) h (Fin Q)):WF P (d+1) f as h Q:=by
 show W ((P.fnAt f).bind λf=>(hW f as).bind λvs=>bnd (execs ⟨P,200000,cG P 200000 d⟩ f.body (fC f vs) h) zds) Q;rw [hf];show W ((hW fn as).bind λvs=>bnd (execs ⟨P,200000,cG P 200000 d⟩ fn.body (fC fn vs) h) zds) Q;rw [ha];exact w_bnd (W.mono q λp h1 q=>by
  obtain ⟨fl,f2⟩:=p;cases fl with
  |nx=>exact ⟨q⟩
  |bk=>exact q.elim
  |ct=>exact q.elim
  |rt v=>exact ⟨q⟩)
theorem zgF {K f:Nat}{fn:Fn}{as vs:List Val} (hd:K+1<=d) (hf:P.fnAt f=some fn) (ha:hW fn as=some vs) (q: ∀d',K<=d'->WSs (Cxd P d') fn.body (fC fn vs) h (Fin Q)):WF P d f as h Q:=by
 refine (JV hd).elim λd' zq1=>?_;obtain rfl:=zq1;exact uD (d:=d'+K) hf ha (q _ (Ql _ _))
end
end Internal
namespace Internal
theorem aB {h t:MH}{a:Nat}{o:MObj} (e:h[a]?=some o):(h++t)[a]?=some o:=by
 rw [JN (Qn.mp e).1];exact e
theorem aX {h t:MH}{o:MObj}:(h++o::t)[h.length]?=some o:=by
 rw [J5 (Qi _),Yp];rfl
theorem a7 {h:MH}{a b:Nat}{o x:MObj} (ne:b≠a) (e:h[a]?=some o):(h.set b x)[a]?=some o:=by rw [QO ne];exact e
theorem bE {h:MH}{a:Nat}{o:MObj} (e:h[a]?=some o):a<h.length:=(Qn.mp e).1
theorem bH {h:MH}{a:Nat}{o x:MObj} (e:h[a]?=some o):(h.set a x)[a]?=some x:=QP (bE e)
theorem j3 {h t:MH}{o x:MObj}:(h++o::t).set h.length x=h++x::t:=by
 rw [Km _ _ (Qi _),Yp];rfl
theorem fR {h:MH}{a:Nat}{vs:List Val} (e:h[a]?=some (.list vs)):bG h (.ref a)=some vs:=by
 show (h[a]?).bind MObj.list?=_;rw [e];rfl
theorem dU {h:MH}{a:Nat}{ep:Option Nat}{es:List (Val×Val)} (e:h[a]?=some (.dict ep es)):dictAt h (.ref a)=some (ep,es):=by
 show (h[a]?).bind MObj.dict?=_;rw [e];rfl
theorem fS {h:MH}{a:Nat}{ep:Option Nat}{es:List (Val×Val)} (e:h[a]?=some (.dict ep es)):bG h (.ref a)=none:=by
 show (h[a]?).bind MObj.list?=_;rw [e];rfl
theorem rG {h:MH}{a k:Nat}{fs:List (Nat×Val)} (e:h[a]?=some (.inst k fs)):instAt h (.ref a)=some (k,fs):=by
 show (h[a]?).bind MObj.inst?=_;rw [e];rfl
section
variable {c:Cx}{fr:Frame}{h:MH}{Q:Val->MH->Prop}{P:Prg}{d:Nat}
theorem zcp {a b:List Nat} (hl:a.length+b.length<=lim) (q:Q (.str (a++b)) h):WB .add (.str a) (.str b) h Q:=by
 show W (alt (grd (Jr (a.length+b.length) lim) (some (Val.str (a++b),h))) _) Q;rw [QV.mpr hl];exact ⟨q⟩
theorem za0 {α:Type}{b:Bool}{o:Option α} (hb:b=true):grd b o=o:=by subst hb;rfl
theorem zeV {a b:Int} (hm:qX a b=true) (q:Q (.int (a*b)) h):WB .mul (.int a) (.int b) h Q:=by
 have e:qW h (.int a) (.int b)=some (.int (a*b),h):=by
  unfold qW;simp only [Val.int?,Yi,za0 hm];rfl
 have e2:d4 .mul (.int a) (.int b) h=alt none (qW h (.int a) (.int b)):=by
  unfold d4;simp only [Val.int?,Yi,rU,Yw]
 unfold WB;rw [e2,e];exact ⟨q⟩
theorem zfk {l n:Nat} (hn:n<=lim) (hl:l*n<=lim):kX l (n:Int)=true:=by
 unfold kX;rw [Jw,Jw];exact ⟨⟨decide_eq_true (by lia),decide_eq_true (by lia)⟩,QV.mpr (by rw [ZU];exact hl)⟩
theorem uX {α:Type}{x:α}{n:Nat}:(Qz n [x]).flatten=Qz n x:=by
 induction n with
 |zero=>rfl
 |succ n ih=>rw [YP,Zx,ih];rfl
theorem uG {a:Nat}{n:Nat}{x:List Val} (ha:h[a]?=some (.list x)) (hl:n<=lim) (hx:x.length*n<=lim) (q:Q (.ref h.length) (h++ [.list (Qz n x).flatten])):WB .mul (.ref a) (.int n) h Q:=by
 show W (alt ((bG h (.ref a)).bind λa=>(some (n:Int)).bind λn=>grd (kX a.length n) (cQ h (.list (Qz n.toNat a).flatten))) _) Q;rw [fR ha];exact mZ (uH (o:=cQ h (.list (Qz n x).flatten)) (zfk hl hx) (bR q))
theorem pX {o:Option Int}{k:Int} (e:o=some k) (q:Q (.int k) h) {o':Option (Val×MH)}:W (alt (o.map λk=>(Val.int k,h)) o') Q:=by subst e;exact ⟨q⟩
theorem zco {a b:Int} (hb:b≠0) (hl:b.natAbs<divB) (q:Q (.int (YD a b)) h):WB .fdiv (.int a) (.int b) h Q:=by
 refine pX (o:=rU .fdiv a b) ?_ q;show grd _ _=_;rw [show (b !=0 && Jr (b.natAbs+1) divB)=true by rw [Jw];exact ⟨bne_iff_ne.mpr hb,QV.mpr hl⟩];rfl
theorem zeW {a b:Int} (hb:b≠0) (q:Q (.int (Ky a b)) h):WB .mod (.int a) (.int b) h Q:=by
 refine pX (o:=rU .mod a b) ?_ q;show grd _ _=_;rw [bne_iff_ne.mpr hb];rfl
theorem zgH {op:COp}{a b:Val}{r:Bool} (e:c7 op a b h=some r) (q:Q (.bool r) h):WC op a b h Q:=Wo.of e q
theorem y4 {a b:Val}{r:Bool} (e:tH h a b=some r) (q:Q (.bool (!r)) h):WC .notin a b h Q:=zgH (r:=!r) (by show (tH h a b).map _=_;rw [e];rfl) q
theorem uB {b:Bool}{Q:Bool->Prop} (q:Q b):WT (.bool b) h Q:=⟨q⟩
theorem tI {n i:Nat} (hi:i<n):idx n (.int i)=some i:=by
 show grd _ _=_;rw [decide_eq_true (show (0:Int)<=(i:Int) by exact ZG _),decide_eq_true (show (i:Int)<(n:Int) by lia),ZU];rfl
theorem aJ {α:Type}{vs:List α}{i:Nat}{v:α} (hv:vs[i]?=some v):i<vs.length:=(Qn.mp hv).1
theorem nY {α:Type}{a b:Option α}{v:α}{Q:α->Prop} (e:a=some v) (q:Q v):Wo (alt a b) Q:=by subst e;exact ⟨q⟩
theorem zce {a i:Nat}{vs:List Val}{v:Val} (ha:h[a]?=some (.list vs)) (hv:vs[i]?=some v) (q:Q v h):WI (.ref a) (.int i) h Q:=by
 refine nY (a:=(bG h (.ref a)).bind λvs=>(idx vs.length (.int i)).bind λk=>vs[k]?) ?_ q;rw [fR ha];show (idx vs.length (.int i)).bind _=_;rw [tI (aJ hv)];exact hv
theorem zgD {i:Nat}{vs:List Val}{v:Val} (hv:vs[i]?=some v) (q:Q v h):WI (.fl vs) (.int i) h Q:=by
 refine nY (a:=(idx vs.length (.int i)).bind λk=>vs[k]?) ?_ q;rw [tI (aJ hv)];exact hv
theorem zcf {a:Nat}{ep:Option Nat}{es:List (Val×Val)}{k v:Val} (ha:h[a]?=some (.dict ep es)) (hf:aM es k=true) (hv:aZ es k=some v) (q:Q v h):WI (.ref a) k h Q:=by
 show Wo (alt ((bG h (.ref a)).bind _) (alt ((dictAt h (.ref a)).bind λd=>grd (aM d.2 k) (aZ d.2 k)) _)) _;rw [fS ha,dU ha];show Wo (alt (grd (aM es k) (aZ es k)) _) _;rw [hf,hv];exact ⟨q⟩
theorem zeX {a k n:Nat}{fs:List (Nat×Val)}{v:Val} (ha:h[a]?=some (.inst k fs)) (hv:hH fs n=some v) (hf:P.hasFld k n=true) (q:Q v h):WA P (.ref a) n h Q:=by
 refine nY (a:=(instAt h (.ref a)).bind λq=>Qq (motive:=λ_=>Option Val) (hH q.2 n) (gW P q.1 n) λv=>grd (P.hasFld q.1 n) (some v)) ?_ q;rw [rG ha];show Qq (motive:=λ_=>Option Val) (hH fs n) (gW P k n) (λv=>grd (P.hasFld k n) (some v))=_;rw [hv];show grd _ _=_;rw [hf];rfl
theorem sC {a n:Nat}{v:Val} (e:((P.instAt a).bind λc=>gW P c n)=some v) (q:Q v h):WA P (.top a) n h Q:=by
 show Wo ((P.instAt a).bind λc=>gW P c n) _;rw [e];exact ⟨q⟩
theorem wZ {a k n:Nat}{fs:List (Nat×Val)}{v:Val}{Q:MH->Prop} (ha:h[a]?=some (.inst k fs)) (hf:P.hasFld k n=true) (hl:fs.length<400) (q:Q (h.set a (.inst k (fput fs n v)))):Wo (setAttr P h (.ref a) n v) Q:=by
 show Wo ((h[a]?.bind MObj.inst?).bind λq=>grd (P.hasFld q.1 n && Jr (q.2.length+1) 400) (some (h.set a (.inst q.1 (fput q.2 n v))))) Q;rw [ha];show Wo (grd (P.hasFld k n && Jr (fs.length+1) 400) (some (h.set a (.inst k (fput fs n v))))) Q;rw [hf,QV.mpr hl];exact ⟨q⟩
theorem z1 {a i:Nat}{vs:List Val}{v:Val}{Q:MH->Prop} (ha:h[a]?=some (.list vs)) (hi:i<vs.length) (q:Q (h.set a (.list (vs.set i v)))):Wo (cS h (.ref a) (.int i) v) Q:=by
 refine nY (a:=(h[a]?.bind MObj.list?).bind λvs=>(idx vs.length (.int i)).map λk=>h.set a (.list (vs.set k v))) ?_ q;rw [ha];show (idx vs.length (.int i)).map _=_;rw [tI hi];rfl
theorem z2 {a:Nat}{ep:Option Nat}{es:List (Val×Val)}{k v:Val}{Q:MH->Prop} (ha:h[a]?=some (.dict ep es)) (hf:aM es k=true) (hl:es.length<lim) (q:Q (h.set a (.dict (bif (aZ es k).isSome then ep else ep.map (· +1)) (dS es k v)))):Wo (cS h (.ref a) k v) Q:=by
 show Wo (alt ((h[a]?.bind MObj.list?).bind _) ((h[a]?.bind MObj.dict?).bind λd=>grd (aM d.2 k && Jr (d.2.length+1) lim) (some (h.set a (.dict (bif (aZ d.2 k).isSome then d.1 else d.1.map (· +1)) (dS d.2 k v)))))) Q;rw [ha];show Wo (grd (aM es k && Jr (es.length+1) lim) (some (h.set a (.dict (bif (aZ es k).isSome then ep else ep.map (· +1)) (dS es k v))))) Q;rw [hf,QV.mpr hl];exact ⟨q⟩
theorem cV {a:Nat}{as:List Val} (hc:P.clsAt a=none) (q:WF P d a as h Q):WV (Cxd P d) (.top a) as h Q:=by
 show W (alt (Qq (motive:=λ_=>Option (Val×MH)) (P.clsAt a) (cG P 200000 d a as h) λk=>zc1 (Cxd P d) a k as h) _) Q;rw [hc];exact mZ (q:W (cG P 200000 d a as h) Q)
theorem yT {a i:Nat}{k:Cl}{as:List Val} (hc:P.clsAt a=some k) (hi:k.init=some i) (q:WF P d i (.ref h.length::as) (h++ [.inst a []]) λv h'=>v= .none/\Q (.ref h.length) h'):WV (Cxd P d) (.top a) as h Q:=by
 show W (alt (Qq (motive:=λ_=>Option (Val×MH)) (P.clsAt a) (cG P 200000 d a as h) λk=>zc1 (Cxd P d) a k as h) _) Q;rw [hc];refine mZ ?_;show W (k.init.bind λi=>bnd (cG P 200000 d i (.ref h.length::as) (h++ [.inst a []])) λr h'=>grd r.isNone (some (.ref h.length,h'))) Q;rw [hi];exact w_bnd (f:=λr h'=>grd r.isNone (some (Val.ref h.length,h'))) (R:=Q) (W.mono q λv h' q=>by rw [q.1];exact ⟨q.2⟩)
theorem zd0 {n:Nat}{as:List Val}{v:Val}{h':MH} (e:pI n as h=some (v,h')) (q:Q v h'):WV c (.bi n) as h Q:=by
 show W (alt (pI n as h) none) Q;rw [e];exact ⟨q⟩
theorem zdZ {n:Nat}{as:List Val}{v:Val}{h':MH} (e:pH n as h=some (v,h')) (q:Q v h'):WV c (.ty n) as h Q:=by
 show W (pH n as h) Q;rw [e];exact ⟨q⟩
theorem rY {v:Val}{n:Nat} (e:zaN h v=some n) (q:Q (.int n) h):WV c (.bi nLen) [v] h Q:=by
 refine zd0 (v:=.int n) (h':=h) ?_ q;show alt ((zaN h v).map λ(k:Nat)=>(Val.int (k:Int),h)) _=_;rw [e];rfl
theorem zb2 {a:Nat}{vs:List Val} (ha:h[a]?=some (.list vs)) (q:Q (.ref h.length) (h++ [.list vs])):WV c (.ty nList) [.ref a] h Q:=by
 refine zdZ (v:=.ref h.length) (h':=h++ [.list vs]) ?_ q;show alt (sE [.ref a] h) _=_;show alt ((bG h (.ref a)).bind λvs=>cQ h (.list vs)) _=_;rw [fR ha];rfl
theorem zeE {a b:Int} (q:Q (.int (if b>a then b else a)) h):WV c (.bi nMax) [.int a,.int b] h Q:=⟨q⟩
theorem zfN {a:Nat}{vs:List Val} (ha:h[a]?=some (.list vs)):zaN h (.ref a)=some vs.length:=by
 show alt ((bG h (.ref a)).map (·.length)) _=_;rw [fR ha];rfl
theorem zfO {a:Nat}{ep:Option Nat}{es:List (Val×Val)} (ha:h[a]?=some (.dict ep es)):zaN h (.ref a)=some es.length:=by
 show alt ((bG h (.ref a)).map (·.length)) ((dictAt h (.ref a)).map (·.2.length))=_;rw [fS ha,dU ha];rfl
theorem a6 {o:Val}{n f:Nat}{self as:List Val}{h0:MH} (hg:cP P h0 o n=some (f,self)) (q:WF P d f (self++as) h Q):WM (Cxd P d) o n as h0 h Q:=by
 show W (Qq (motive:=λ_=>Option (Val×MH)) (cP P h0 o n) (jS o n as h0 h) λp=>cG P 200000 d p.1 (p.2++as) h) Q;rw [hg];exact (q:W (cG P 200000 d f (self++as) h) Q)
theorem bY {a k n f:Nat}{fs:List (Nat×Val)}{h0:MH} (ha:h0[a]?=some (.inst k fs)) (hn:hH fs n=none) (hm:jN P k n=some f):cP P h0 (.ref a) n=some (f,[.ref a]):=by
 show ((instAt h0 (.ref a)).bind λq=>grd (hH q.2 n).isNone ((jN P q.1 n).map λf=>(f,[Val.ref a])))=_;rw [rG ha];show grd (hH fs n).isNone ((jN P k n).map λf=>(f,[Val.ref a]))=_;rw [hn,hm];rfl
theorem zd3 {a n:Nat}{as:List Val}{h0:MH} (hi:instAt h0 (.ref a)=none) (q:W (jS (.ref a) n as h0 h) Q):WM c (.ref a) n as h0 h Q:=by
 show W (Qq (motive:=λ_=>Option (Val×MH)) ((instAt h0 (.ref a)).bind _) (jS (.ref a) n as h0 h) λ(p:Nat×List Val)=>c.call p.1 (p.2++as) h) Q;rw [hi];exact q
theorem zaW {a:Nat}{vs:List Val} (e:h[a]?=some (.list vs)):instAt h (.ref a)=none:=by
 show (h[a]?).bind MObj.inst?=_;rw [e];rfl
theorem zaX {a:Nat}{ep:Option Nat}{es:List (Val×Val)} (e:h[a]?=some (.dict ep es)):instAt h (.ref a)=none:=by
 show (h[a]?).bind MObj.inst?=_;rw [e];rfl
theorem vL {a n:Nat}{as us vs:List Val}{h0:MH} (h0a:h0[a]?=some (.list us)) (ha:h[a]?=some (.list vs)) (q:W (iK a vs n as h) Q):WM c (.ref a) n as h0 h Q:=by
 refine zd3 (zaW h0a) ?_;show W (alt ((h0[a]?.bind MObj.list?).bind λ_=>(h[a]?.bind MObj.list?).bind λvs=>iK a vs n as h) _) Q;rw [h0a,ha];exact mZ q
theorem mX {a:Nat}{vs us:List Val}{v:Val}{h0:MH} (h0a:h0[a]?=some (.list us)) (ha:h[a]?=some (.list vs)) (hl:vs.length<lim) (q:Q .none (h.set a (.list (vs++ [v])))):WM c (.ref a) nAppend [v] h0 h Q:=
 vL h0a ha (mZ (uH (o:=some (Val.none,h.set a (.list (vs++ [v])))) (QV.mpr hl) (bR q)))
theorem zeL {a:Nat}{vs us:List Val}{v:Val}{h0:MH} (h0a:h0[a]?=some (.list us)) (ha:h[a]?=some (.list (vs++ [v]))) (q:Q v (h.set a (.list vs))):WM c (.ref a) nPop [] h0 h Q:=by
 refine vL h0a ha ?_;show W ((vs++ [v]).getLast?.map λw=>(w,h.set a (.list (vs++ [v]).dropLast))) Q;rw [List.getLast?_concat,List.dropLast_concat];exact ⟨q⟩
theorem vM {a n:Nat}{as:List Val}{ep ep0:Option Nat}{es es0:List (Val×Val)}{h0:MH} (h0a:h0[a]?=some (.dict ep0 es0)) (ha:h[a]?=some (.dict ep es)) (q:W (iR es n as h) Q):WM c (.ref a) n as h0 h Q:=by
 refine zd3 (zaX h0a) ?_;show W (alt ((h0[a]?.bind MObj.list?).bind _) ((h0[a]?.bind MObj.dict?).bind λ_=>(h[a]?.bind MObj.dict?).bind λd=>iR d.2 n as h)) Q;rw [h0a,ha];exact q
theorem zeM {a:Nat}{ep ep0:Option Nat}{es es0:List (Val×Val)}{k e:Val}{h0:MH} (h0a:h0[a]?=some (.dict ep0 es0)) (ha:h[a]?=some (.dict ep es)) (hf:aM es k=true) (q:Q ((aZ es k).getD e) h):WM c (.ref a) nGet [k,e] h0 h Q:=
 vM h0a ha (uH (o:=some ((aZ es k).getD e,h)) hf (bR q))
theorem zcd {a:Nat}{ep ep0:Option Nat}{es es0:List (Val×Val)}{k:Val}{h0:MH} (h0a:h0[a]?=some (.dict ep0 es0)) (ha:h[a]?=some (.dict ep es)) (hf:aM es k=true) (q:Q ((aZ es k).getD .none) h):WM c (.ref a) nGet [k] h0 h Q:=
 vM h0a ha (mZ (uH (o:=some ((aZ es k).getD .none,h)) hf (bR q)))
end
end Internal
namespace Internal
def tZ (I:Frame->MH->Prop) (R:Fl->Frame->MH->Prop) (fl:Fl) (fr:Frame) (h:MH):Prop:=Fl.casesOn (motive:=λ_=>Prop) fl (I fr h) (R .nx fr h) (I fr h) λv=>R (.rt v) fr h
section
variable {c:Cx}{fr:Frame}{h:MH}{Q:Val->MH->Prop}{R:Fl->Frame->MH->Prop}
theorem zdd {next:Nat->MH->Option (Option Val)}{bd:Frame->Val->Option Frame}{b:Frame->MH->SR} (n:Nat) (I:Nat->Frame->MH->Prop)
  (step: ∀i,i<n-> ∀fr h,I i fr h->Wo (next i h) λov=>Wo ov λv=>Wo (bd fr v) λfr1=>W (b fr1 h) λp h'=>tZ (I (i+1)) R p.1 p.2 h')
  (stop: ∀fr h,I n fr h->Wo (next n h) λov=>ov=none/\R .nx fr h): ∀ (m i fu:Nat),i+m=n->m<fu-> ∀fr h,I i fr h->W (lI next bd b fu i fr h) λp h=>R p.1 p.2 h:=by
 intro m
 induction m with
 |zero=>
  intro i fu hi hf fr h I0;refine (JV hf).elim λfu zq12=>?_;obtain rfl:=zq12;cases hi;have q:Wo (next i h) λov=>ov=none/\R .nx fr h:=stop fr h I0;show W ((next i h).bind _) _;exact hZ (q.mono λov q=>by obtain ⟨rfl,q⟩:=q;exact ⟨q⟩)
 |succ m ih=>
  intro i fu hi hf fr h I0;obtain ⟨fu,rfl⟩:=JV (Qk (Qs _) hf);have q:=step i (Qf (JZ (Jt _)) (QA hi)) fr h I0;show W ((next i h).bind _) _;refine hZ (q.mono λov q=>?_);cases ov with
  |none=>exact q.w.elim
  |some v=>
   show W ((bd fr v).bind _) _;refine hZ (Wo.mono q.w λfr1 q=>w_bnd (W.mono q λp h2 q=>?_));obtain ⟨fl,f2⟩:=p;cases fl with
   |nx=>exact ih (i+1) _ (by lia) (J6 hf) f2 h2 q
   |ct=>exact ih (i+1) _ (by lia) (J6 hf) f2 h2 q
   |bk=>exact ⟨q⟩
   |rt v=>exact ⟨q⟩
theorem nX {tg:List Nat}{many:Bool}{e:Ex}{b:List Sm}
  (q:WE c fr e h λv h1=> ∃k,∃xs:List Val,dR h1 v=some k/\xs.length<c.fuel/\∃I:Nat->Frame->MH->Prop,I 0 fr h1/\(∀i fr h,I i fr h->bT h i k=some xs[i]?)/\
   (∀i x,xs[i]?=some x-> ∀fr h,I i fr h->Wo (dY fr tg many x) λfr1=>WSs c b fr1 h (tZ (I (i+1)) R))/\∀fr h,I xs.length fr h->R .nx fr h):WS c (.fo tg many e b) fr h R:=by
 show W (bnd (eval c e fr h) λv h1=>(dR h1 v).bind λk=>lI (λi h=>bT h i k) (λfr v=>dY fr tg many v) (λfr h=>execs c b fr h) c.fuel 0 fr h1) λp h=>R p.1 p.2 h;refine w_bnd (W.mono q λv h1 q=>?_);refine q.elim λk zq8=>zq8.elim λxs zq9=>zq9.2.2.elim λI zq10=>?_;rw [zq9.1];show W (lI (λi h=>bT h i k) (λfr v=>dY fr tg many v) (λfr h=>execs c b fr h) c.fuel 0 fr h1) λp h=>R p.1 p.2 h;refine zdd xs.length I (λi hi fr h hI=>?_) (λfr h hI=>?_) xs.length 0 c.fuel (JA _) zq9.2.1 fr h1 zq10.1
 ·rw [zq10.2.1 i fr h hI,Qc hi]
  exact ⟨⟨zq10.2.2.1 i _ (Qc hi) fr h hI⟩⟩
 ·rw [zq10.2.1 _ fr h hI,Jo (Qi _)]
  exact ⟨rfl,zq10.2.2.2 fr h hI⟩
theorem pA {a:Nat}{vs:List Val} (ha:h[a]?=some (.list vs)):dR h (.ref a)=some (.ls a):=by
 show alt none (alt (alt ((h[a]?.bind MObj.list?).map λ_=>It.ls a) _) _)=_;rw [ha];rfl
theorem oS {a i:Nat}{vs:List Val} (ha:h[a]?=some (.list vs)):bT h i (.ls a)=some vs[i]?:=by
 show (h[a]?.bind MObj.list?).map _=_;rw [ha];rfl
theorem tG {n:Nat} (hn:n<=lim):dR h (.rng n)=some (.rg n):=by
 show alt (grd _ _) _=_;rw [decide_eq_true (show (n:Int)<=(lim:Int) by lia),decide_eq_true (show-(lim:Int)<=(n:Int) by lia)];rfl
def oQ (n:Nat):List Val:=(Q3 n).map λ(i:Nat)=>Val.int (i:Int)
theorem cY {n:Nat}:(oQ n).length=n:=by unfold oQ;rw [Qh,Q6]
theorem uW {n i:Nat} (hi:i<n):(oQ n)[i]?=some (.int i):=by
 unfold oQ;rw [Qu,JF hi];rfl
theorem oP {n i:Nat}{x:Val} (hx:(oQ n)[i]?=some x):i<n/\x= .int i:=by
 have hi:i<n:=by have:=aJ hx;rwa [cY] at this
 rw [uW hi] at hx;exact ⟨hi,(Qy.inj hx).symm⟩
theorem sY {n i:Nat} (hi:i<=n):bT h i (.rg n)=some (oQ n)[i]?:=by
 show some (bif decide ((i:Int)<(n:Int)) then some (Val.int i) else none)=_;by_cases hl:i<n
 ·rw [decide_eq_true (show (i:Int)<(n:Int) by lia),uW hl];rfl
 ·rw [decide_eq_false (show ¬(i:Int)<(n:Int) by lia),Jo (by rw [cY];exact Q0 hl)];rfl
theorem c9 {x:Nat}{v:Val}{Q:Frame->Prop} (q:Q (fr.set x (some v))):Wo (dY fr [x] false v) Q:=⟨q⟩
theorem zb8 {x a:Nat}{e:Ex}{b:List Sm}{vs:List Val} (hn:vs.length<c.fuel) (I:Nat->Frame->MH->Prop)
  (hk: ∀i fr h,I i fr h->h[a]?=some (.list vs)) (q:WE c fr e h λv h1=>v= .ref a/\I 0 fr h1)
  (step: ∀i v,vs[i]?=some v-> ∀fr h,I i fr h->WSs c b (fr.set x (some v)) h (tZ (I (i+1)) R))
  (stop: ∀fr h,I vs.length fr h->R .nx fr h):WS c (.fo [x] false e b) fr h R:=
 nX (W.mono q λv h1 q=>by
  obtain rfl:=q.1;exact ⟨.ls a,vs,pA (hk _ _ _ q.2),hn,I,q.2,λi fr h hI=>oS (hk _ _ _ hI),λi x hx fr h hI=>c9 (step i x hx fr h hI),stop⟩)
theorem zb7 {x n:Nat}{e:Ex}{b:List Sm} (hn:n<c.fuel) (hl:n<=lim) (I:Nat->Frame->MH->Prop)
  (q:WE c fr e h λv h1=>v= .rng n/\I 0 fr h1)
  (step: ∀i,i<n-> ∀fr h,I i fr h->WSs c b (fr.set x (some (.int i))) h (tZ (I (i+1)) R))
  (stop: ∀fr h,I n fr h->R .nx fr h):WS c (.fo [x] false e b) fr h R:=
 nX (W.mono q λv h1 q=>by
  obtain ⟨rfl,I0⟩:=q;refine ⟨.rg n,oQ n,tG hl,by rw [cY];exact hn,λi fr h=>i<=n/\I i fr h,⟨Qs _,I0⟩,λi fr h hI=>sY hI.1,λi x hx fr h hI=>?_,λfr h hI=>stop fr h (cY (n:=n)▸hI.2)⟩;obtain ⟨hi,rfl⟩:=oP hx;refine c9 (W.mono (step i hi fr h hI.2) λp h' q=>?_);obtain ⟨fl,f2⟩:=p;cases fl with
  |nx=>exact ⟨hi,q⟩
  |ct=>exact ⟨hi,q⟩
  |bk=>exact q
  |rt v=>exact q)
theorem zdc {cond:Frame->MH->Option (Bool×MH)}{b:Frame->MH->SR} (I:Nat->Frame->MH->Prop)
  (step: ∀k fr h,I k fr h->W (cond fr h) λr h1=>Br r (W (b fr h1) λp h'=>tZ (λfr h=> ∃j,j<k/\I j fr h) R p.1 p.2 h') (R .nx fr h1)): ∀ (m k:Nat),k<m-> ∀fr h,I k fr h->W (jO cond b m fr h) λp h=>R p.1 p.2 h:=by
 intro m
 induction m with
 |zero=>exact λk hk=>absurd hk (QZ _)
 |succ m ih=>
  intro k hk fr h I0;show W (bnd (cond fr h) _) _;refine w_bnd (W.mono (step k fr h I0) λr h1 q=>?_);cases r with
  |false=>exact ⟨q.2 rfl⟩
  |true=>
   rw [cond_true];refine w_bnd (W.mono (q.1 rfl) λp h2 q=>?_);obtain ⟨fl,f2⟩:=p;cases fl with
   |nx=>obtain ⟨j,hj,q⟩:=q;exact ih j (Qf hj (QM hk)) f2 h2 q
   |ct=>obtain ⟨j,hj,q⟩:=q;exact ih j (Qf hj (QM hk)) f2 h2 q
   |bk=>exact ⟨q⟩
   |rt v=>exact ⟨q⟩
theorem zgC {t:Ex}{b:List Sm}{k:Nat} (I:Nat->Frame->MH->Prop) (hk:k<c.fuel) (I0:I k fr h)
  (step: ∀k fr h,I k fr h->WE c fr t h λv h1=>WT v h1 λr=>Br r (WSs c b fr h1 (tZ (λfr h=> ∃j,j<k/\I j fr h) R)) (R .nx fr h1)):WS c (.wh t b) fr h R:=by
 show W (jO (λfr h=>bO (eval c t fr h)) (λfr h=>execs c b fr h) c.fuel fr h) λp h=>R p.1 p.2 h;exact zdc I (λk fr h hI=>fP (step k fr h hI)) c.fuel k hk fr h I0
def WTs (c:Cx) (fr:Frame) (es:List Ex) (h:MH) (Q:Bool->MH->Prop):Prop:=W (lN c es fr h) Q
theorem nW {Q:Bool->MH->Prop} (q:Q true h):WTs c fr [] h Q:=bR q
theorem yU {Q:Bool->MH->Prop}{e:Ex}{r:List Ex} (q:WE c fr e h λv h1=>WT v h1 λb=>Br b (WTs c fr r h1 Q) (Q false h1)):WTs c fr (e::r) h Q:=by
 show W (bnd (bO (eval c e fr h)) λb h1=>bif b then lN c r fr h1 else some (false,h1)) Q;exact w_bnd (fP (W.mono q λv h1 q=>Wo.mono q λb q=>pJ ⟨q.1,λh=>bR (q.2 h)⟩))
theorem tN {next:Nat->MH->Option (Option Val)}{t:Val->MH->Option (Option Frame×MH)}{el:Frame->MH->Option (Val×MH)}{ac:Nat}{R:MH->Prop} (n:Nat) (I:Nat->MH->Prop)
  (step: ∀i,i<n-> ∀h,I i h->Wo (next i h) λov=>Wo ov λv=>W (t v h) λo h1=>(o=none->I (i+1) h1)/\∀fr,o=some fr->W (el fr h1) λx h2=> ∃vs,h2[ac]?=some (.list vs)/\vs.length<lim/\I (i+1) (h2.set ac (.list (vs++ [x]))))
  (stop: ∀h,I n h->Wo (next n h) λov=>ov=none/\R h): ∀ (m i fu:Nat),i+m=n->m<fu-> ∀h,I i h->W (compLoop next t el ac fu i h) λ_ h=>R h:=by
 intro m
 induction m with
 |zero=>
  intro i fu hi hf h I0;refine (JV hf).elim λfu zq6=>?_;obtain rfl:=zq6;cases hi;have q:Wo (next i h) λov=>ov=none/\R h:=stop h I0;show W ((next i h).bind _) _;exact hZ (q.mono λov q=>by obtain ⟨rfl,q⟩:=q;exact ⟨q⟩)
 |succ m ih=>
  intro i fu hi hf h I0;obtain ⟨fu,rfl⟩:=JV (Qk (Qs _) hf);have q:=step i (Qf (JZ (Jt _)) (QA hi)) h I0;show W ((next i h).bind _) _;refine hZ (q.mono λov q=>?_);cases ov with
  |none=>exact q.w.elim
  |some v=>
   have q:W (t v h) λo h1=>(o=none->I (i+1) h1)/\∀fr,o=some fr->W (el fr h1) λx h2=> ∃vs,h2[ac]?=some (.list vs)/\vs.length<lim/\I (i+1) (h2.set ac (.list (vs++ [x]))):=q.w;refine w_bnd (W.mono q λo h1 q=>?_);cases o with
   |none=>exact ih (i+1) _ (by lia) (J6 hf) h1 (q.1 rfl)
   |some fr=>
    refine w_bnd (W.mono (q.2 fr rfl) λx h2 q=>?_);obtain ⟨vs,e1,e2,q⟩:=q;rw [e1];show W (grd (Jr (vs.length+1) lim) _) _;rw [QV.mpr e2];exact ih (i+1) _ (by lia) (J6 hf) _ q
theorem nZ {elt it:Ex}{tg:List Nat}{many:Bool}{ifs:List Ex}
  (q:WE c fr it h λv h1=> ∃k,∃xs:List Val,dR h1 v=some k/\xs.length<c.fuel/\∃I:Nat->MH->Prop,I 0 (h1++ [.list []])/\(∀i h,I i h->bT h i k=some xs[i]?)/\
   (∀i x,xs[i]?=some x-> ∀hh,I i hh->Wo (dY fr tg many x) λfr1=>WTs c fr1 ifs hh λb h2=>Br b (WE c fr1 elt h2 λx h3=> ∃vs,h3[h1.length]?=some (.list vs)/\vs.length<lim/\I (i+1) (h3.set h1.length (.list (vs++ [x])))) (I (i+1) h2))/\
   ∀hh,I xs.length hh->Q (.ref h1.length) hh):WE c fr (.comp elt tg many it ifs) h Q:=by
 show W (bnd (eval c it fr h) λv h1=>(dR h1 v).bind λk=>bnd (compLoop (λi h=>bT h i k) (λv h=>(dY fr tg many v).bind λfr'=>bnd (lN c ifs fr' h) λb h'=>some (bif b then some fr' else none,h')) (λfr' h=>eval c elt fr' h) h1.length c.fuel 0 (h1++ [.list []])) λ_ h2=>some (.ref h1.length,h2)) Q;refine w_bnd (W.mono q λv h1 q=>?_);refine q.elim λk zq1=>zq1.elim λxs zq2=>zq2.2.2.elim λI zq3=>?_;rw [zq2.1];refine w_bnd (f:=λ_ h2=>some (Val.ref h1.length,h2)) ?_;refine W.mono (Q:=λ_ h2=>Q (.ref h1.length) h2) ?_ λ_ _ q=>bR q;refine tN (R:=λh2=>Q (.ref h1.length) h2) xs.length I (λi hi hh hI=>?_) (λhh hI=>?_) xs.length 0 c.fuel (JA _) zq2.2.1 _ zq3.1
 ·rw [zq3.2.1 i hh hI,Qc hi]
  refine uC (uC (hZ (Wo.mono (zq3.2.2.1 i _ (Qc hi) hh hI) λfr1 q=>w_bnd (W.mono q λb h2 q=>?_))));cases b with
  |true=>exact ⟨nofun,λfr e=>by cases e;exact q.1 rfl⟩
  |false=>exact ⟨λ_=>q.2 rfl,nofun⟩
 ·rw [zq3.2.1 _ hh hI,Jo (Qi _)]
  exact ⟨rfl,zq3.2.2.2 hh hI⟩
theorem d8 {r:List Sm} (q:WSs c r fr h R):Beh c r R .nx fr h:=q
variable {I:Frame->MH->Prop}
abbrev nn (k:Nat):Frame:=Qz k none
end
end Internal
namespace Internal
section
variable {c:Cx}{fr:Frame}{h:MH}{Q:Val->MH->Prop}
end
end Internal
namespace Internal
section
variable {c:Cx}{fr:Frame}{h:MH}{Q:Val->MH->Prop}
theorem uI {s t:List Nat}:veq h (.str s) (.str t)=some (s==t):=by
 show some (J8 (.str ⟨s.toArray⟩) (.str ⟨t.toArray⟩))=_;have e:J8 (.str ⟨s.toArray⟩) (.str ⟨t.toArray⟩)=((⟨s.toArray⟩:PySem.Str)==⟨t.toArray⟩):=rfl;rw [e];by_cases hs:s=t
 ·subst hs;simp
 ·rw [beq_false_of_ne hs,beq_false_of_ne]
  intro e
  apply hs
  injection e with e;injection e
theorem iA {a b:Int}:veq h (.int a) (.int b)=some (a==b):=by
 show some (a==b)=_;rfl
theorem uA {a:Nat}{vs:List Val} (ha:h[a]?=some (.list vs)) (q:Q (.int vs.length) h):WV c (.bi nLen) [.ref a] h Q:=rY (zfN ha) q
theorem zb3 {a:Nat}{ep:Option Nat}{es:List (Val×Val)} (ha:h[a]?=some (.dict ep es)) (q:Q (.int es.length) h):WV c (.bi nLen) [.ref a] h Q:=rY (zfO ha) q
end
end Internal
namespace Internal
section
variable {c:Cx}{fr:Frame}{h:MH}{Q:Val->MH->Prop}
theorem kI {elt it:Ex}{x:Nat}{a:Nat}{vs:List Val} (J:MH->List Val->MH->Prop) (hf:vs.length<c.fuel) (hl:vs.length<=lim)
  (q:WE c fr it h λv h1=>v= .ref a/\h1[a]?=some (.list vs)/\J h1 [] []/\
   (∀ys t v,J h1 ys t->vs[ys.length]?=some v->WE c (fr.set x (some v)) elt (h1++ .list ys::t) λy h3=> ∃s,h3=h1++ .list ys::(t++s)/\J h1 (ys++ [y]) (t++s))/\
   ∀ys t,ys.length=vs.length->J h1 ys t->Q (.ref h1.length) (h1++ .list ys::t)):WE c fr (.comp elt [x] false it []) h Q:=by
 refine nZ (W.mono q λv h1 q=>?_);obtain ⟨rfl,h1a,j0,st,q⟩:=q;refine ⟨.ls a,vs,pA h1a,hf,λi hh=> ∃ys t,hh=h1++ .list ys::t/\ys.length=i/\J h1 ys t,⟨[],[],rfl,rfl,j0⟩,?_,?_,?_⟩
 ·rintro i hh ⟨ys,t,rfl,_,_⟩;exact oS (aB h1a)
 ·rintro i v hv hh ⟨ys,t,rfl,rfl,hy⟩
  refine c9 (nW (zf5 (W.mono (st ys t v hy hv) λy h3 q=>?_)));obtain ⟨s,rfl,ht⟩:=q;have hi:=aJ hv;exact ⟨ys,aX,Qf hi hl,ys++ [y],t++s,j3,by rw [Qv];rfl,ht⟩
 ·rintro hh ⟨ys,t,rfl,hl,hy⟩;exact q ys t hl hy
def dA (p:Nat->Bool) (n:Nat):List Nat:=(Q3 n).filter p
theorem nC {p:Nat->Bool}{n:Nat}:dA p (n+1)=dA p n++(bif p n then [n] else []):=by
 unfold dA;rw [Yx,List.filter_append];cases hb:p n<;>simp [hb]
theorem lB {p:Nat->Bool}{n:Nat}:(dA p n).length<=n:=by
 have:=List.length_filter_le p (Q3 n)
 rwa [Q6] at this
def iVs (l:List Nat):List Val:=l.map λ(k:Nat)=>Val.int (k:Int)
theorem y2 {it:Ex}{x n:Nat}{ifs:List Ex} (p:Nat->Bool) (hf:n<c.fuel) (hl:n<=lim)
  (q:WE c fr it h λv h1=>v= .rng n/\(∀i,i<n-> ∀acc,WTs c (fr.set x (some (.int i))) ifs (h1++ [.list acc]) λb h2=>h2=h1++ [.list acc]/\b=p i)/\(∀i:Nat,(fr.set x (some (.int (i:Int))))[x]?=some (some (.int (i:Int))))/\Q (.ref h1.length) (h1++ [.list (iVs (dA p n))])):WE c fr (.comp (.var x) [x] false it ifs) h Q:=by
 refine nZ (W.mono q λv h1 q=>?_);obtain ⟨rfl,st,hx,q⟩:=q;refine ⟨.rg n,oQ n,tG hl,by rw [cY];exact hf,λi hh=>i<=n/\hh=h1++ [.list (iVs (dA p i))],⟨Qs _,rfl⟩,?_,?_,?_⟩
 ·rintro i hh ⟨hi,_⟩;exact sY hi
 ·rintro i v hv hh ⟨_,rfl⟩
  obtain ⟨hi,rfl⟩:=oP hv;refine c9 (W.mono (st i hi _) λb h2 q=>?_);obtain ⟨rfl,rfl⟩:=q;refine br (λhb=>sA (hx i) ⟨_,aX,?_,hi,?_⟩) (λhb=>⟨hi,?_⟩)
  ·unfold iVs
   rw [Qh]
   have:=lB (p:=p) (n:=i)
   exact Qf (Qk this hi) hl
  ·rw [j3,nC,hb]
   unfold iVs;rw [QL];rfl
  ·rw [nC,hb,cond_false,QU]
 ·rintro hh ⟨_,rfl⟩
  rw [cY];exact q
end
end Internal
namespace Internal
section
variable {c:Cx}{fr:Frame}{h:MH}{R:Fl->Frame->MH->Prop}{σ:Type}
structure Inv (F:σ->Frame) (G:σ->MH) (P:σ->Prop) (fr:Frame) (h:MH):Prop where
 x: ∃s,fr=F s/\h=G s/\P s
theorem Inv.of {F:σ->Frame}{G:σ->MH}{P:σ->Prop} (s:σ) (hp:P s):Inv F G P (F s) (G s):=⟨s,rfl,rfl,hp⟩
structure To (F:σ->Frame) (G:σ->MH) (P:σ->Prop) (R R':Fl->Frame->MH->Prop):Prop where
 nx: ∀s,P s->R' .nx (F s) (G s)
 ct: ∀s,P s->R' .ct (F s) (G s)
 bk: ∀fr h,R .nx fr h->R' .bk fr h
 rt: ∀v fr h,R (.rt v) fr h->R' (.rt v) fr h
theorem uK {F:σ->Frame}{G:σ->MH}{P:σ->Prop}:To F G P R (tZ (Inv F G P) R):=⟨λs hp=>Inv.of s hp,λs hp=>Inv.of s hp,λ_ _ h=>h,λ_ _ _ h=>h⟩
theorem kG {tg:List Nat}{many:Bool}{a:Nat}{e:Ex}{b:List Sm}{vs:List Val} (F:σ->Frame) (G:σ->MH) (P:Nat->σ->Prop) (hn:vs.length<c.fuel) (s0:σ)
  (hk: ∀i s,P i s->(G s)[a]?=some (.list vs)) (q:WE c fr e h λv h1=>v= .ref a/\fr=F s0/\h1=G s0/\P 0 s0)
  (step: ∀i v s R',vs[i]?=some v->P i s->To F G (P (i+1)) R R'->Wo (dY (F s) tg many v) λfr1=>WSs c b fr1 (G s) R')
  (stop: ∀s,P vs.length s->R .nx (F s) (G s)):WS c (.fo tg many e b) fr h R:=
 nX (W.mono q λv h1 q=>by
  obtain rfl:=q.1;obtain rfl:=q.2.1;obtain rfl:=q.2.2.1;refine ⟨.ls a,vs,pA (hk _ _ q.2.2.2),hn,λi=>Inv F G (P i),Inv.of s0 q.2.2.2,λi fr h hI=>?_,λi x hx fr h hI=>?_,λfr h hI=>?_⟩
  ·obtain ⟨s,rfl,rfl,hp⟩:=hI.x
   exact oS (hk i s hp)
  ·refine hI.x.elim λs zq5=>?_
   obtain rfl:=zq5.1;obtain rfl:=zq5.2.1;exact step i x s _ hx zq5.2.2 uK
  ·obtain ⟨s,rfl,rfl,hp⟩:=hI.x
   exact stop s hp)
theorem yX {x n:Nat}{e:Ex}{b:List Sm} (F:σ->Frame) (G:σ->MH) (P:Nat->σ->Prop) (hn:n<c.fuel) (hl:n<=lim) (s0:σ)
  (q:WE c fr e h λv h1=>v= .rng n/\fr=F s0/\h1=G s0/\P 0 s0)
  (step: ∀i s R',i<n->P i s->To F G (P (i+1)) R R'->WSs c b ((F s).set x (some (.int i))) (G s) R')
  (stop: ∀s,P n s->R .nx (F s) (G s)):WS c (.fo [x] false e b) fr h R:=
 zb7 hn hl (λi=>Inv F G (P i)) (W.mono q λv h1 q=>⟨q.1,by rw [q.2.1,q.2.2.1];exact Inv.of s0 q.2.2.2⟩) (λi hi fr h hI=>by
  obtain ⟨s,rfl,rfl,hp⟩:=hI.x;exact step i s _ hi hp uK) λfr h hI=>by
  obtain ⟨s,rfl,rfl,hp⟩:=hI.x;exact stop s hp
theorem zeH {t:Ex}{b:List Sm}{k:Nat} (F:σ->Frame) (G:σ->MH) (P:Nat->σ->Prop) (hk:k<c.fuel) (s0:σ) (e1:fr=F s0) (e2:h=G s0) (I0:P k s0)
  (step: ∀k s R',P k s->To F G (λs=> ∃j,j<k/\P j s) R R'->WE c (F s) t (G s) λv h1=>WT v h1 λr=>Br r (WSs c b (F s) h1 R') (R .nx (F s) h1)):WS c (.wh t b) fr h R:=by
 subst e1;subst e2;refine zgC (λk=>Inv F G (P k)) hk (Inv.of s0 I0) λk fr h hI=>?_;refine hI.x.elim λs zq1=>?_;obtain rfl:=zq1.1;obtain rfl:=zq1.2.1;have hp:=zq1.2.2;exact step k s _ hp ⟨λs hp=>⟨hp.choose,hp.choose_spec.1,Inv.of s hp.choose_spec.2⟩,λs hp=>⟨hp.choose,hp.choose_spec.1,Inv.of s hp.choose_spec.2⟩,λ_ _ h=>h,λ_ _ _ h=>h⟩
end
end Internal
namespace Internal
set_option genCtorIdx false in
inductive Hs where
 |nil
 |c (t:Hs)
 |v (v:Val) (t:Hs)
 |p (v:Val) (h:MH) (t:Hs)
 |h (h:MH) (t:Hs)
 |b (b:Bool) (t:Hs)
 |br (x y:Hs)
 |s (fl:Fl) (fr:Frame) (h:MH) (t:Hs)
 |l (vs:List Val) (t:Hs)
structure a5 {α:Type} (a:α):Prop where
 f:False
def now {α:Type} (o:Option α) (k:α->Prop):Prop:=Qq (motive:=λ_=>Prop) o (a5 o) k
section
variable {α:Type} (o:Option α) (hs:Hs)
def zdK (o:Option Val) (hs:Hs) (k:Val->Hs->Prop):Prop:=
 Hs.casesOn (motive:=λ_=>Prop) hs (a5 o) (λt=>now o λv=>k v t) (λv t=>o=some v/\k v t) (λ_ _ _=>a5 o) (λ_ _=>a5 o) (λ_ _=>a5 o) (λ_ _=>a5 o) (λ_ _ _ _=>a5 o) (λ_ _=>a5 o)
def rT (o:Option (Val×MH)) (hs:Hs) (k:Val->MH->Hs->Prop):Prop:=
 Hs.casesOn (motive:=λ_=>Prop) hs (a5 o) (λt=>now o λv=>k v.1 v.2 t) (λ_ _=>a5 o) (λv h t=>o=some (v,h)/\k v h t) (λ_ _=>a5 o) (λ_ _=>a5 o) (λ_ _=>a5 o) (λ_ _ _ _=>a5 o) (λ_ _=>a5 o)
def zdM (o:Option MH) (hs:Hs) (k:MH->Hs->Prop):Prop:=
 Hs.casesOn (motive:=λ_=>Prop) hs (a5 o) (λt=>now o λv=>k v t) (λ_ _=>a5 o) (λ_ _ _=>a5 o) (λh t=>o=some h/\k h t) (λ_ _=>a5 o) (λ_ _=>a5 o) (λ_ _ _ _=>a5 o) (λ_ _=>a5 o)
def tX (o:Option Bool) (hs:Hs) (k:Bool->Hs->Prop):Prop:=
 Hs.casesOn (motive:=λ_=>Prop) hs (a5 o) (λt=>now o λv=>k v t) (λ_ _=>a5 o) (λ_ _ _=>a5 o) (λ_ _=>a5 o) (λb t=>o=some b/\k b t) (λx y=>now o λr=>(r=true->k true x)/\(r=false->k false y)) (λ_ _ _ _=>a5 o) (λ_ _=>a5 o)
def zdL (o:SR) (hs:Hs) (k:Fl->Frame->MH->Hs->Prop):Prop:=
 Hs.casesOn (motive:=λ_=>Prop) hs (a5 o) (λt=>now o λv=>k v.1.1 v.1.2 v.2 t) (λ_ _=>a5 o) (λ_ _ _=>a5 o) (λ_ _=>a5 o) (λ_ _=>a5 o) (λ_ _=>a5 o) (λfl fr h t=>o=some ((fl,fr),h)/\k fl fr h t) (λ_ _=>a5 o)
def zhR (o:Option (List Val)) (hs:Hs) (k:List Val->Hs->Prop):Prop:=
 Hs.casesOn (motive:=λ_=>Prop) hs (a5 o) (λt=>now o λv=>k v t) (λ_ _=>a5 o) (λ_ _ _=>a5 o) (λ_ _=>a5 o) (λ_ _=>a5 o) (λ_ _=>a5 o) (λ_ _ _ _=>a5 o) (λvs t=>o=some vs/\k vs t)
end
theorem gV {α:Type}{o:Option α}{k:α->Prop} (q:now o k): ∃v,o=some v/\k v:=by
 cases o with
 |none=>exact q.f.elim
 |some v=>exact ⟨v,rfl,q⟩
theorem zge {o:Option Val}{hs:Hs}{k:Val->Hs->Prop} (q:zdK o hs k): ∃v t,o=some v/\k v t:=by
 cases hs with
 |c t=>exact (gV q).elim λv q=>⟨v,t,q⟩
 |v v t=>exact ⟨v,t,q⟩
 |_=>exact q.f.elim
theorem zgg {o:Option (Val×MH)}{hs:Hs}{k:Val->MH->Hs->Prop} (q:rT o hs k): ∃v h t,o=some (v,h)/\k v h t:=by
 cases hs with
 |c t=>exact (gV q).elim λv q=>⟨v.1,v.2,t,q⟩
 |p v h t=>exact ⟨v,h,t,q⟩
 |_=>exact q.f.elim
theorem zgi {o:Option MH}{hs:Hs}{k:MH->Hs->Prop} (q:zdM o hs k): ∃h t,o=some h/\k h t:=by
 cases hs with
 |c t=>exact (gV q).elim λv q=>⟨v,t,q⟩
 |h h t=>exact ⟨h,t,q⟩
 |_=>exact q.f.elim
theorem zgj {o:Option Bool}{hs:Hs}{k:Bool->Hs->Prop} (q:tX o hs k): ∃b t,o=some b/\k b t:=by
 cases hs with
 |c t=>exact (gV q).elim λv q=>⟨v,t,q⟩
 |b b t=>exact ⟨b,t,q⟩
 |br x y=>
  refine (gV q).elim λr q=>⟨r,cond r x y,q.1,?_⟩;cases r with
  |true=>exact q.2.1 rfl
  |false=>exact q.2.2 rfl
 |_=>exact q.f.elim
theorem zgf {o:SR}{hs:Hs}{k:Fl->Frame->MH->Hs->Prop} (q:zdL o hs k): ∃fl fr h t,o=some ((fl,fr),h)/\k fl fr h t:=by
 cases hs with
 |c t=>exact (gV q).elim λv q=>⟨v.1.1,v.1.2,v.2,t,q⟩
 |s fl fr h t=>exact ⟨fl,fr,h,t,q⟩
 |_=>exact q.f.elim
theorem zgh {o:Option (List Val)}{hs:Hs}{k:List Val->Hs->Prop} (q:zhR o hs k): ∃vs t,o=some vs/\k vs t:=by
 cases hs with
 |c t=>exact (gV q).elim λv q=>⟨v,t,q⟩
 |l vs t=>exact ⟨vs,t,q⟩
 |_=>exact q.f.elim
mutual
noncomputable def bV (c:Cx):Ex->Frame->MH->Hs->(Val->MH->Hs->Prop) ->Prop
 | .var x,fr,h,hs,K=>now fr[x]? λo=>now o λv=>K v h hs
 | .lit v,_,h,hs,K=>K v h hs
 | .list es,fr,h,hs,K=>fX c es fr h hs λvs h1 hs=>K (.ref h1.length) (h1++ [.list vs]) hs
 | .tup es,fr,h,hs,K=>fX c es fr h hs λvs h1 hs=>K (.tup vs) h1 hs
 | .dict es,fr,h,hs,K=>fX c es fr h hs λl h1 hs=>rT ((dpairs l []).bind λps=>grd (Jr es.length 30) (cQ h1 (.dict (some ps.length) ps))) hs K
 | .bin op a b,fr,h,hs,K=>bV c a fr h hs λx h1 hs=>bV c b fr h1 hs λy h2 hs=>rT (d4 op x y h2) hs K
 | .not a,fr,h,hs,K=>bV c a fr h hs λx h1 hs=>tX (truthy h1 x) hs λb hs=>K (.bool (!b)) h1 hs
 | .cmp op a b,fr,h,hs,K=>bV c a fr h hs λx h1 hs=>bV c b fr h1 hs λy h2 hs=>tX (c7 op x y h2) hs λr hs=>K (.bool r) h2 hs
 | .bop stop es,fr,h,hs,K=>tK c stop es fr h hs K
 | .ite t a b,fr,h,hs,K=>bV c t fr h hs λx h1 hs=>tX (truthy h1 x) hs λr hs=>bif r then bV c a fr h1 hs K else bV c b fr h1 hs K
 | .attr e n,fr,h,hs,K=>bV c e fr h hs λo h1 hs=>zdK (getAttr c.P h1 o n) hs λv hs=>K v h1 hs
 | .sub e i,fr,h,hs,K=>bV c e fr h hs λo h1 hs=>bV c i fr h1 hs λk h2 hs=>zdK (bJ h2 o k) hs λv hs=>K v h2 hs
 | .slice e k bs,fr,h,hs,K=>bV c e fr h hs λo h1 hs=>fX c bs fr h1 hs λvs h2 hs=>rT (slice h2 o k vs) hs K
 | .call f as,fr,h,hs,K=>bV c f fr h hs λg h1 hs=>fX c as fr h1 hs λvs h2 hs=>rT (aP c g vs h2) hs K
 | .meth o n as,fr,h,hs,K=>bV c o fr h hs λg h1 hs=>fX c as fr h1 hs λvs h2 hs=>rT (bI c g n vs h1 h2) hs K
 | .comp elt tg many it ifs,fr,h,hs,K=>rT (eval c (.comp elt tg many it ifs) fr h) hs K
noncomputable def fX (c:Cx):List Ex->Frame->MH->Hs->(List Val->MH->Hs->Prop) ->Prop
 | [],_,h,hs,K=>K [] h hs
 |e::r,fr,h,hs,K=>bV c e fr h hs λv h1 hs=>fX c r fr h1 hs λvs h2 hs=>K (v::vs) h2 hs
noncomputable def tK (c:Cx) (stop:Bool):List Ex->Frame->MH->Hs->(Val->MH->Hs->Prop) ->Prop
 | [],_,_,_,_=>False
 |e::r,fr,h,hs,K=>bV c e fr h hs λv h1 hs=>bif r.isEmpty then K v h1 hs else tX (truthy h1 v) hs λb hs=>bif b==stop then K v h1 hs else tK c stop r fr h1 hs K
end
def sJ (c:Cx) (fr:Frame) (h:MH) (v:Val) (hs:Hs) (K:Frame->MH->Hs->Prop):T1->Prop
 | .nm x=>K (fr.set x (some v)) h hs
 | .at o n=>bV c o fr h hs λov h1 hs=>zdM (setAttr c.P h1 ov n v) hs λh2 hs=>K fr h2 hs
 | .sb o i=>bV c o fr h hs λov h1 hs=>bV c i fr h1 hs λiv h2 hs=>zdM (cS h2 ov iv v) hs λh3 hs=>K fr h3 hs
def oC (c:Cx):List T1->List Val->Frame->MH->Hs->(Frame->MH->Hs->Prop) ->Prop
 | [],vs,fr,h,hs,K=>bif vs.isEmpty then K fr h hs else False
 |t::ts,vs,fr,h,hs,K=>now vs.head? λv=>sJ c fr h v hs (λfr' h' hs=>oC c ts vs.tail fr' h' hs K) t
mutual
noncomputable def zek (c:Cx):Sm->Frame->MH->Hs->(Fl->Frame->MH->Hs->Prop) ->Prop
 | .expr e,fr,h,hs,K=>bV c e fr h hs λ_ h1 hs=>K .nx fr h1 hs
 | .asg t e,fr,h,hs,K=>bV c e fr h hs λv h1 hs=>sJ c fr h1 v hs (λfr' h2 hs=>K .nx fr' h2 hs) t
 | .asgs ts e,fr,h,hs,K=>bV c e fr h hs λv h1 hs=>zhR (items h1 v) hs λvs hs=>oC c ts vs fr h1 hs λfr' h2 hs=>K .nx fr' h2 hs
 | .ret e,fr,h,hs,K=>bV c e fr h hs λv h1 hs=>K (.rt v) fr h1 hs
 | .ite t a b,fr,h,hs,K=>bV c t fr h hs λx h1 hs=>tX (truthy h1 x) hs λr hs=>bif r then lM c a fr h1 hs K else lM c b fr h1 hs K
 | .wh t b,fr,h,hs,K=>zdL (exec c (.wh t b) fr h) hs K
 | .fo tg many e b,fr,h,hs,K=>zdL (exec c (.fo tg many e b) fr h) hs K
 | .brk,fr,h,hs,K=>K .bk fr h hs
 | .cont,fr,h,hs,K=>K .ct fr h hs
 | .pass,fr,h,hs,K=>K .nx fr h hs
 | .raise,_,_,_,_=>False
 | .rse _,_,_,_,_=>False
 | .tr _ _ _ _,_,_,_,_=>False
noncomputable def lM (c:Cx):List Sm->Frame->MH->Hs->(Fl->Frame->MH->Hs->Prop) ->Prop
 | [],fr,h,hs,K=>K .nx fr h hs
 |s::r,fr,h,hs,K=>zek c s fr h hs λfl fr1 h1 hs=>Fl.casesOn (motive:=λ_=>Prop) fl (lM c r fr1 h1 hs K) (K fl fr1 h1 hs) (K fl fr1 h1 hs) (λ_=>K fl fr1 h1 hs)
end
abbrev Ev {α:Type} (K:α->MH->Hs->Prop) (v:α) (h:MH):Prop:= ∃t,K v h t
theorem jG {o:Option (Val×MH)}{hs:Hs}{k:Val->MH->Hs->Prop} (q:rT o hs k):W o (Ev k):=let ⟨_,_,t,e,q⟩:=zgg q; .of e ⟨t,q⟩
theorem zbz {o:Option Val}{hs:Hs}{k:Val->Hs->Prop} (q:zdK o hs k):Wo o λv=> ∃t,k v t:=let ⟨_,t,e,q⟩:=zge q; .of e ⟨t,q⟩
theorem zbB {o:Option MH}{hs:Hs}{k:MH->Hs->Prop} (q:zdM o hs k):Wo o λv=> ∃t,k v t:=let ⟨_,t,e,q⟩:=zgi q; .of e ⟨t,q⟩
theorem l5 {o:Option Bool}{hs:Hs}{k:Bool->Hs->Prop} (q:tX o hs k):Wo o λv=> ∃t,k v t:=let ⟨_,t,e,q⟩:=zgj q; .of e ⟨t,q⟩
theorem zf6 {r:Bool}{A B A' B':Prop} (a:A->A') (b:B->B') (q:cond r A B):Br r A' B':=by
 cases r with
 |true=>exact zf5 (a q)
 |false=>exact ziw (b q)
structure HE (c:Cx) (e:Ex):Prop where
 o: ∀ {fr h hs K},bV c e fr h hs K->W (eval c e fr h) (Ev K)
structure HEs (c:Cx) (es:List Ex):Prop where
 o: ∀ {fr h hs K},fX c es fr h hs K->W (eG c es fr h) (Ev K)
 b: ∀ {stop fr h hs K},tK c stop es fr h hs K->WE c fr (.bop stop es) h (Ev K)
section
variable {c:Cx}
theorem dH (e:Ex):HE c e:=by
 refine Ex.rec (motive_1:=HE c) (motive_2:=HEs c) ?_ ?_ ?_ ?_ ?_ ?_ ?_ ?_ ?_ ?_ ?_ ?_ ?_ ?_ ?_ ?_ ?_ ?_ e
 ·exact λx=>⟨λq=>let ⟨o,e1,q⟩:=gV q;let ⟨v,e2,q⟩:=gV q;sA (e1.trans (congrArg some e2)) ⟨_,q⟩⟩
 ·exact λv=>⟨λq=>zeQ ⟨_,q⟩⟩
 ·exact λes i=>⟨λq=>uF ((i.o q).mono λ_ _ q=>q)⟩
 ·exact λes i=>⟨λq=>zeN ((i.o q).mono λ_ _ q=>q)⟩
 ·exact λes i=>⟨λq=>w_bnd ((i.o q).mono λ_ _ q=>q.elim λ_ q=>jG q)⟩
 ·exact λop a b i j=>⟨λq=>zeU ((i.o q).mono λ_ _ q=>q.elim λ_ q=>(j.o q).mono λ_ _ q=>q.elim λ_ q=>jG q)⟩
 ·exact λa i=>⟨λq=>zeP ((i.o q).mono λ_ _ q=>q.elim λ_ q=>l5 q)⟩
 ·exact λop a b i j=>⟨λq=>zeS ((i.o q).mono λ_ _ q=>q.elim λ_ q=>(j.o q).mono λ_ _ q=>q.elim λ_ q=>l5 q)⟩
 ·exact λst es i=>⟨λq=>i.b q⟩
 ·exact λt a b i j k=>⟨λq=>zeR ((i.o q).mono λ_ _ q=>q.elim λ_ q=>(l5 q).mono λr q=>q.elim λ_ q=>zf6 j.o k.o q)⟩
 ·exact λa n i=>⟨λq=>zcj ((i.o q).mono λ_ _ q=>q.elim λ_ q=>zbz q)⟩
 ·exact λa b i j=>⟨λq=>zeO ((i.o q).mono λ_ _ q=>q.elim λ_ q=>(j.o q).mono λ_ _ q=>q.elim λ_ q=>zbz q)⟩
 ·exact λa k bs i j=>⟨λq=>y0 ((i.o q).mono λ_ _ q=>q.elim λ_ q=>(j.o q).mono λ_ _ q=>q.elim λ_ q=>jG q)⟩
 ·exact λf as i j=>⟨λq=>zch ((i.o q).mono λ_ _ q=>q.elim λ_ q=>(j.o q).mono λ_ _ q=>q.elim λ_ q=>jG q)⟩
 ·exact λo n as i j=>⟨λq=>zcg ((i.o q).mono λ_ _ q=>q.elim λ_ q=>(j.o q).mono λ_ _ q=>q.elim λ_ q=>jG q)⟩
 ·exact λelt tg many it ifs _ _ _=>⟨λq=>jG q⟩
 ·exact ⟨λq=>uE ⟨_,q⟩,λq=>q.elim⟩
 ·refine λe r i j=>⟨λq=>yZ ((i.o q).mono λ_ _ q=>q.elim λ_ q=>(j.o q).mono λ_ _ q=>q),λ{st fr h hs K} q=>?_⟩
  cases r with
  |nil=>exact zci (i.o q)
  |cons f r=>exact zeT ((i.o q).mono λ_ _ q=>q.elim λ_ q=>(l5 q).mono λb q=>q.elim λ_ q=>zf6 (λq=>⟨_,q⟩) j.b q)
theorem p9 {fr:Frame}{h:MH}{v:Val}{hs:Hs}{K:Frame->MH->Hs->Prop}{t:T1} (q:sJ c fr h v hs K t):W (kO c fr h v t) (Ev K):=by
 cases t with
 |nm x=>exact bR (a:=fr.set x (some v)) ⟨_,q⟩
 | «at» o n=>
  show W (bnd (eval c o fr h) λov h1=>(setAttr c.P h1 ov n v).map λh2=>(fr,h2)) _;exact w_bnd (((dH o).o q).mono λov h1 q=>q.elim λ_ q=>mY (f:=λh2=>(fr,h2)) (zbB q))
 |sb o i=>
  show W (bnd (eval c o fr h) λov h1=>bnd (eval c i fr h1) λiv h2=>(cS h2 ov iv v).map λh3=>(fr,h3)) _;exact w_bnd (((dH o).o q).mono λov h1 q=>q.elim λ_ q=>w_bnd (((dH i).o q).mono λiv h2 q=>q.elim λ_ q=>mY (f:=λh2=>(fr,h2)) (zbB q)))
theorem wD {ts:List T1}: ∀ {vs:List Val}{fr:Frame}{h:MH}{hs:Hs}{K:Frame->MH->Hs->Prop} (q:oC c ts vs fr h hs K),WSt c ts vs fr h (Ev K):=by
 induction ts with
 |nil=>
  intro vs fr h hs K q;cases vs with
  |nil=>exact bR (a:=fr) ⟨_,q⟩
  |cons _ _=>exact q.elim
 |cons t ts i=>
  intro vs fr h hs K q;refine (gV q).elim λv zq2=>?_;have q:=zq2.2;show W (vs.head?.bind λv=>bnd (kO c fr h v t) λfr' h'=>dP c ts vs.tail fr' h') _;exact hZ (Wo.of zq2.1 (w_bnd ((p9 q).mono λ_ _ q=>q.elim λ_ q=>i q)))
abbrev Ex' (K:Fl->Frame->MH->Hs->Prop) (fl:Fl) (fr:Frame) (h:MH):Prop:= ∃t,K fl fr h t
structure HX (c:Cx) (s:Sm):Prop where
 o: ∀ {fr h hs K},zek c s fr h hs K->WS c s fr h (Ex' K)
structure HXs (c:Cx) (s:List Sm):Prop where
 o: ∀ {fr h hs K},lM c s fr h hs K->WSs c s fr h (Ex' K)
theorem zbA {o:SR}{hs:Hs}{k:Fl->Frame->MH->Hs->Prop} (q:zdL o hs k):W o λp h=>Ex' k p.1 p.2 h:=let ⟨_,_,_,t,e,q⟩:=zgf q; .of e ⟨t,q⟩
theorem zcc {t:T1}{e:Ex}{fr:Frame}{h:MH}{R:Fl->Frame->MH->Prop} (q:WE c fr e h λv h1=>W (kO c fr h1 v t) λf2 h2=>R .nx f2 h2):WS c (.asg t e) fr h R:=by
 show W (bnd (eval c e fr h) λv h1=>bnd (kO c fr h1 v t) λfr' h2=>some ((Fl.nx,fr'),h2)) λp h=>R p.1 p.2 h;exact w_bnd (W.mono q λv h1 q=>w_bnd (W.mono q λ_ _ q=>⟨q⟩))
theorem zba (s:List Sm):HXs c s:=by
 refine Sm.rec_1 (motive_1:=HX c) (motive_2:=HXs c) ?_ ?_ ?_ ?_ ?_ ?_ ?_ ?_ ?_ ?_ ?_ ?_ ?_ ?_ ?_ s
 ·exact λe=>⟨λq=>zb9 ((dH e).o q)⟩
 ·exact λt e=>⟨λq=>zcc (((dH e).o q).mono λ_ _ q=>q.elim λ_ q=>p9 q)⟩
 ·exact λts e=>⟨λq=>zcb (((dH e).o q).mono λ_ _ q=>q.elim λ_ q=>let ⟨_,_,e2,q⟩:=zgh q; .of e2 (wD q))⟩
 ·exact λe=>⟨λq=>zeI ((dH e).o q)⟩
 ·exact λt a b j k=>⟨λq=>zeJ (((dH t).o q).mono λ_ _ q=>q.elim λ_ q=>(l5 q).mono λr q=>q.elim λ_ q=>zf6 j.o k.o q)⟩
 ·exact λt b _=>⟨λq=>zbA q⟩
 ·exact λtg many e b _=>⟨λq=>zbA q⟩
 ·exact ⟨λq=>zeK ⟨_,q⟩⟩
 ·exact ⟨λq=>zca ⟨_,q⟩⟩
 ·exact ⟨λq=>zb6 ⟨_,q⟩⟩
 ·exact ⟨λq=>q.elim⟩
 ·exact λ_=>⟨λq=>q.elim⟩
 ·exact λ_ _ _ _=>⟨λq=>q.elim⟩
 ·exact ⟨λq=>zb5 ⟨_,q⟩⟩
 ·exact λs r i j=>⟨λq=>yW ((i.o q).mono λp _ q=>by
   obtain ⟨fl,fr⟩:=p;obtain ⟨t,q⟩:=q;cases fl with
   |nx=>exact j.o q
   |bk=>exact ⟨_,q⟩
   |ct=>exact ⟨_,q⟩
   |rt v=>exact ⟨_,q⟩)⟩
end
structure S (h:MH) (hs:Hs) (p:Prop):Prop where
 o:p
section
variable {g g':MH}{hs ht:Hs}{pr pq:Prop}
theorem S.z (f:pr):S g .nil pr:=⟨f⟩
theorem S.at (g':MH) (r:S g' hs pr):S g hs pr:=⟨r.o⟩
theorem S.c (r:S g hs pr):S g (.c hs) pr:=⟨r.o⟩
theorem S.c2 (r:S g hs pr):S g (.c (.c hs)) pr:=⟨r.o⟩
theorem S.c3 (r:S g hs pr):S g (.c (.c (.c hs))) pr:=⟨r.o⟩
theorem S.c4 (r:S g hs pr):S g (.c (.c (.c (.c hs)))) pr:=⟨r.o⟩
theorem S.v {o:Option Val}{v:Val} (f:o=some v) (r:S g hs pr):S g (.v v hs) (o=some v/\pr):=⟨f,r.o⟩
theorem S.w {o:MH->Option Val}{v:Val} (f: ∀h,o h=some v) (r:S g hs pr):S g (.v v hs) (o g=some v/\pr):=⟨f g,r.o⟩
theorem S.p {o:Option (Val×MH)}{v:Val} (f:o=some (v,g')) (r:S g' hs pr):S g (.p v g' hs) (o=some (v,g')/\pr):=⟨f,r.o⟩
theorem S.q {o:MH->Option (Val×MH)}{v:Val} (f: ∀h,o h=some (v,h)) (r:S g hs pr):S g (.p v g hs) (o g=some (v,g)/\pr):=⟨f g,r.o⟩
theorem S.h {o:Option MH} (f:o=some g') (r:S g' hs pr):S g (.h g' hs) (o=some g'/\pr):=⟨f,r.o⟩
theorem S.b {o:Option Bool}{b:Bool} (f:o=some b) (r:S g hs pr):S g (.b b hs) (o=some b/\pr):=⟨f,r.o⟩
theorem S.k {o:MH->Option Bool}{b:Bool} (f: ∀h,o h=some b) (r:S g hs pr):S g (.b b hs) (o g=some b/\pr):=⟨f g,r.o⟩
theorem S.t {x:Bool} (f:x=true) (r:S g hs pr):S g (.b true hs) (some x=some true/\pr):=⟨congrArg some f,r.o⟩
theorem S.f {x:Bool} (f:x=false) (r:S g hs pr):S g (.b false hs) (some x=some false/\pr):=⟨congrArg some f,r.o⟩
theorem S.br (x:Bool) (f:x=true->S g hs pr) (h:x=false->S g ht pq):S g (.br hs ht) ((x=true->pr)/\(x=false->pq)):=⟨λe=>(f e).o,λe=>(h e).o⟩
theorem S.s {o:SR}{fl:Fl}{fr:Frame} (f:o=some ((fl,fr),g')) (r:S g' hs pr):S g (.s fl fr g' hs) (o=some ((fl,fr),g')/\pr):=⟨f,r.o⟩
end
section
variable {b:List Sm}{fr:Frame}{h:MH}{hs:Hs}{R:Fl->Frame->MH->Prop}{p:Prop}{P:Prg}{d:Nat}{Q:Val->MH->Prop}
theorem run {c:Cx} (s:S h hs p) (e:lM c b fr h hs (λfl fr h _=>R fl fr h)=p):WSs c b fr h R:=by
 exact ((zba b).o (e▸s.o)).mono λ_ _ q=>q.elim λ_ q=>q
end
end Internal
namespace Internal
section
variable {P:Prg}{c:Cx}{h:MH}{α:Type}
theorem W.eq {o:Option (α×MH)}{v:α}{g:MH} (w:W o λa b=>a=v/\b=g):o=some (v,g):=let ⟨_,_,e,q⟩:=w.get;by obtain ⟨rfl,rfl⟩:=q;exact e
theorem Wo.eq {o:Option α}{v:α} (w:Wo o λa=>a=v):o=some v:=by
 cases o with
 |none=>exact w.w.elim
 |some p=>exact congrArg some w.w
theorem ga {a k n:Nat}{fs:List (Nat×Val)}{v:Val} (ha:h[a]?=some (.inst k fs)) (hv:hH fs n=some v) (hf:P.hasFld k n=true):getAttr P h (.ref a) n=some v:=Wo.eq (zeX ha hv hf (Q:=λa _=>a=v) rfl)
theorem sl {a i:Nat}{vs:List Val}{v:Val} (ha:h[a]?=some (.list vs)) (hv:vs[i]?=some v):bJ h (.ref a) (.int i)=some v:=Wo.eq (zce ha hv (Q:=λa _=>a=v) rfl)
theorem sd {a:Nat}{ep:Option Nat}{es:List (Val×Val)}{k v:Val} (ha:h[a]?=some (.dict ep es)) (hf:aM es k=true) (hv:aZ es k=some v):bJ h (.ref a) k=some v:=Wo.eq (zcf ha hf hv (Q:=λa _=>a=v) rfl)
theorem zfb {a i:Nat}{vs:List Val}{v:Val} (ha:h[a]?=some (.list vs)) (hi:i<vs.length):cS h (.ref a) (.int i) v=some (h.set a (.list (vs.set i v))):=Wo.eq (z1 ha hi rfl)
theorem zcB {a:Nat}{ep:Option Nat}{es:List (Val×Val)}{k v:Val} (ha:h[a]?=some (.dict ep es)) (hf:aM es k=true) (hl:es.length<lim):cS h (.ref a) k v=some (h.set a (.dict (bif (aZ es k).isSome then ep else ep.map (· +1)) (dS es k v))):=Wo.eq (z2 ha hf hl rfl)
theorem wG {a k n:Nat}{fs:List (Nat×Val)}{v:Val} (ha:h[a]?=some (.inst k fs)) (hf:P.hasFld k n=true) (hl:fs.length<400):setAttr P h (.ref a) n v=some (h.set a (.inst k (fput fs n v))):=Wo.eq (wZ ha hf hl rfl)
theorem eqs (s t:List Nat) (h:MH):veq h (.str s) (.str t)=some (s==t):=uI
theorem eqi (s t:Int) (h:MH):veq h (.int s) (.int t)=some (s==t):=iA
theorem ne_of {a b:Val}{r:Bool} (e:veq h a b=some r):c7 .ne a b h=some (!r):=by
 show (veq h a b).map _=_;rw [e];rfl
theorem zhy {a b:Val}{r:Bool} (e:tH h a b=some r):c7 .notin a b h=some (!r):=by
 show (tH h a b).map _=_;rw [e];rfl
theorem fn {d a:Nat}{as:List Val}{v:Val}{g:MH} (hc:P.clsAt a=none) (w:WF P d a as h λx y=>x=v/\y=g):aP (Cxd P d) (.top a) as h=some (v,g):=W.eq (cV hc w)
theorem me {d n f:Nat}{o:Val}{self as:List Val}{h0:MH}{v:Val}{g:MH} (hg:cP P h0 o n=some (f,self)) (w:WF P d f (self++as) h λx y=>x=v/\y=g):bI (Cxd P d) o n as h0 h=some (v,g):=W.eq (a6 hg w)
theorem zfe {s:List Nat}{n:Nat}{bs:List Val}{p:Nat×Nat} (e:lT s.length n bs=some p):slice h (.str s) n bs=some (.str (cut s p.1 p.2),h):=by
 show (lT s.length n bs).bind _=_;rw [e];rfl
theorem bK {e:Ex}{fr:Frame}{hs:Hs}{Q:Val->MH->Prop}{p:Prop} (s:S h hs p) (q:bV c e fr h hs (λv h _=>Q v h)=p):WE c fr e h Q:=((dH e).o (q▸s.o)).mono λ_ _ q=>q.elim λ_ q=>q
theorem two (v:Val) (g:MH):v=v/\g=g:=⟨rfl,rfl⟩
theorem foR {σ:Type}{x n:Nat}{e:Ex}{b:List Sm} (F:σ->Frame) (G:σ->MH) (P:Nat->σ->Prop) (s0:σ) (hn:n<=100000) (hc:c.fuel=200000)
  (e0:WE c (F s0) e (G s0) λv g=>v= .rng n/\g=G s0) (p0:P 0 s0)
  (step: ∀i s R' R,i<n->P i s->To F G (P (i+1)) R R'->WSs c b ((F s).set x (some (.int i))) (G s) R'): ∃s,P n s/\exec c (.fo [x] false e b) (F s0) (G s0)=some ((.nx,F s),G s):=by
 have w:WS c (.fo [x] false e b) (F s0) (G s0) λfl f g=> ∃s,P n s/\fl= .nx/\f=F s/\g=G s:=
  yX F G P (by rw [hc];exact Qf (QB hn) (Ql _ _)) (by show n<=1000000;exact Qa hn (Ql _ _)) s0 (e0.mono λv g q=>⟨q.1,rfl,q.2,p0⟩) (λi s R' hi hp T=>step i s R' _ hi hp T) λs hp=>⟨s,hp,rfl,rfl,rfl⟩
 obtain ⟨⟨fl,f⟩,g,e,s,hp,q1,q2,q3⟩:=W.get w;cases q1;cases q2;cases q3;exact ⟨s,hp,e⟩
theorem foL {σ:Type}{tg:List Nat}{many:Bool}{a:Nat}{e:Ex}{b:List Sm}{vs:List Val} (F:σ->Frame) (G:σ->MH) (P:Nat->σ->Prop) (s0:σ) (hn:vs.length<=100000) (hc:c.fuel=200000)
  (hk: ∀i s,P i s->(G s)[a]?=some (.list vs)) (e0:WE c (F s0) e (G s0) λv g=>v= .ref a/\g=G s0) (p0:P 0 s0)
  (step: ∀i v s R' R,vs[i]?=some v->P i s->To F G (P (i+1)) R R'->Wo (dY (F s) tg many v) λfr1=>WSs c b fr1 (G s) R'): ∃s,P vs.length s/\exec c (.fo tg many e b) (F s0) (G s0)=some ((.nx,F s),G s):=by
 have w:WS c (.fo tg many e b) (F s0) (G s0) λfl f g=> ∃s,P vs.length s/\fl= .nx/\f=F s/\g=G s:=
  kG F G P (by rw [hc];exact Qf (QB hn) (Ql _ _)) s0 hk (e0.mono λv g q=>⟨q.1,rfl,q.2,p0⟩) (λi v s R' hi hp T=>step i v s R' _ hi hp T) λs hp=>⟨s,hp,rfl,rfl,rfl⟩
 obtain ⟨⟨fl,f⟩,g,e,s,hp,q1,q2,q3⟩:=W.get w;cases q1;cases q2;cases q3;exact ⟨s,hp,e⟩
def zhL (P:Prg) (a:Nat) (as:List Val):Option (List Sm×Frame):=(P.fnAt a).bind λf=>(hW f as).map λvs=>(f.body,fC f vs)
theorem bD {d K f:Nat}{as:List Val}{Q:Val->MH->Prop} (hd:K+1<=d) (fr:Frame) (bd:List Sm) (e:zhL P f as=some (bd,fr)) (q: ∀d',K<=d'->WSs (Cxd P d') bd fr h (Fin Q)):WF P d f as h Q:=by
 obtain ⟨fn,e1,e⟩:=Yd.mp e;obtain ⟨vs,e2,e⟩:=JK.mp e;cases e;exact zgF hd e1 e2 q
theorem eR {a b:List Sm}{R:Fl->Frame->MH->Prop}: ∀ {fr:Frame}{h:MH},WSs c a fr h (Beh c b R) ->WSs c (a++b) fr h R:=by
 induction a with
 |nil=>exact λq=>q.w
 |cons s a ih=>
  intro fr h q;show W (bnd (exec c s fr h) λ(p:Fl×Frame) h1=>Fl.casesOn (motive:=λ_=>SR) p.1 (execs c (a++b) p.2 h1) (some (p,h1)) (some (p,h1)) (λ_=>some (p,h1))) λp h=>R p.1 p.2 h;have q:W (bnd (exec c s fr h) λ(p:Fl×Frame) h1=>Fl.casesOn (motive:=λ_=>SR) p.1 (execs c a p.2 h1) (some (p,h1)) (some (p,h1)) (λ_=>some (p,h1))) λp h=>Beh c b R p.1 p.2 h:=q;refine w_bnd ((w_bnd' q).mono λp h1 q=>?_);obtain ⟨fl,f2⟩:=p;cases fl with
  |nx=>exact ih q
  |bk=>exact ⟨q.w⟩
  |ct=>exact ⟨q.w⟩
  |rt v=>exact ⟨q.w⟩
theorem zd2 {s:Sm}{r:List Sm}{R:Fl->Frame->MH->Prop}{fr:Frame}{h:MH} (q:WSs c [s] fr h (Beh c r R)):WSs c (s::r) fr h R:=eR q
end
end Internal
namespace Internal
theorem zif (C:Cfg):vU C:=zie C
end Internal
open PySem PySem.W PySem.W.X PyProof.Rows PySem.Calls
set_option Elab.async false
set_option maxRecDepth 100000
set_option maxHeartbeats 8000000
set_option linter.unusedVariables false
lay_quick PySem.W.staticsOk PySem.W.namesBound PySem.W.laidKept PySem.W.xlAt PySem.W.recOk PySem.W.openGood
namespace Tactic
def lits0 : List String := ["builtins.copyright#opaque","builtins.credits#opaque","builtins.license#opaque"]
end Tactic
lay_quick Tactic.lits0
namespace Tactic
abbrev TP:Program:=ZO
theorem tePw:ZO=TP:=rfl
abbrev TWtopGo:=PySem.W.Fast.tw15667345088766844465
theorem Fast_topGo: @topGo=TWtopGo:=PySem.W.Fast.te15667345088766844465
abbrev TWtopRun:=PySem.W.Fast.tw14082659384304107361
theorem Fast_topRun: @topRun=TWtopRun:=PySem.W.Fast.te14082659384304107361
abbrev TWsegRun:=PySem.W.Fast.tw14374325043358763698
theorem Fast_segRun: @segRun=TWsegRun:=PySem.W.Fast.te14374325043358763698
abbrev TWsegRunT:=PySem.W.Fast.tw10110043849684766642
theorem Fast_segRunT: @segRunT=TWsegRunT:=PySem.W.Fast.te10110043849684766642
abbrev TWtable:=PySem.W.Fast.tw14364793385576792824
theorem Fast_table: @treeTable=TWtable:=PySem.W.Fast.te14364793385576792824
abbrev TWdenote:=PySem.W.Fast.tw11892475500146522536
theorem Fast_denote: @denote=TWdenote:=PySem.W.Fast.te11892475500146522536
def takeS:Nat->List Stmt->List Stmt
 |0,_=> []
 |_+1,[]=> []
 |n+1,s::r=>s::takeS n r
def dropS:Nat->List Stmt->List Stmt
 |0,l=>l
 |_+1,[]=> []
 |n+1,_::r=>dropS n r
abbrev FnT:=Arguments×List Stmt×Scope
def noFn:FnT:=(⟨[],[],none,[],[],none,[]⟩,[],⟨.function,[],false,false,[]⟩)
def fnOfL:List Stmt->FnT
 | .FunctionDef _ a b _ _ _ sc _ _ _::_=>(a,b,sc)
 |_=>noFn
def clsOfL:List Stmt->List Stmt
 | .ClassDef _ _ _ b _ _ _ _ _ _ _::_=>b
 |_=> []
def fnA (i:Nat):FnT:=fnOfL (dropS i TP.main.body)
def fnB (i j:Nat):FnT:=fnOfL (dropS j (clsOfL (dropS i TP.main.body)))
def ziv (f:FnT) (name qual:PySem.Str) (g:Addr) (cl:List (PySem.Str×Addr)) (dV kV doc pm:Value) (an:Option Addr) (cd ct:Value) (b:Addr):FuncData:=
 {name:=name,qualname:=qual,params:=f.1,body:= .stmts f.2.1,scope:=f.2.2,globals:=g,closure:=cl,defaults:=dV,kwdefaults:=kV,doc:=doc,pyModule:=pm,annotations:=an,code:=cd,closureTuple:=ct,builtins:=b}
def de (P:Params) (n:PySem.Str) (t:Tok) (v:Value):DictEntry:=⟨XU P n,.str n t,v⟩
def XZ (f:Nat):Nat->List Nat:= @Nat.rec (λ_=>Nat->List Nat) (λ_=> []) (λ_ ih k=>bif Wv k 0 then [] else (k % 128)::ih (k / 128)) f
abbrev XN (k:Nat):PySem.Str:=⟨⟨XZ 60 k⟩⟩
abbrev X9 (i:Int) (t:Tok):Value:=Wx i t
abbrev X0 (i:Int):Value:=Wx i 0
abbrev XS (s:PySem.Str) (t:Tok):Value:=Zi s t
abbrev XB (b:Bool):Value:=Yq b
abbrev X7:Value:=Kt
abbrev X6 {α:Type}:Option α:=Q1
abbrev X8 {α:Type} (l:List α):Array α:=Qo l
abbrev X1 (a:Addr):Value:= .ref a
def XO (c:Value) (d:Option Addr) (b:Data):Params->Obj:=λ_=>⟨c,d,b,Qo []⟩
def X2 (n:PySem.Str) (t:Tok) (v:Value):Params->DictEntry:=λP=>de P n t v
abbrev XF (f:FnT) (n q:PySem.Str) (g:Addr) (dV kV doc pm:Value) (an:Option Addr) (cd ct:Value)   :Data:= .func (ziv f n q g [] dV kV doc pm an cd ct 0)
abbrev X5:Params->BT:=λ_=> .nil
abbrev XT0:Value:=Qg s2766695959194262286x5
abbrev XT1:Value:=Qg s5856160107412720595x4
abbrev XT2:Value:=Qg s14018661285674007319x4
abbrev XT3:Value:=Qg s7174869446012820540x8
abbrev XT4:Value:=Qg s6070975301684473832x10
abbrev XT5:Value:=Qg s11030030927630378310x26
abbrev XT6:Value:=Qg s17162191345867700912x4
abbrev XT7:Value:=Qg s14755015743595814543x17
abbrev XT8:Value:=Qg s4290257624100764138x5
abbrev XT9:Value:=Qg s9222952809800978799x4
abbrev XT10:Value:=Qg s2742458400755230247x6
abbrev XT11:Value:=Qg s11695548795398191787x4
abbrev XT12:Value:=Qg s4156966113859768872x10
abbrev XT13:Value:=Qg s9501651726347032510x9
abbrev XT14:Value:=Qg s15722918466584999320x5
abbrev XT15:Value:=Qg s591115383303110208x11
abbrev XT16:Value:=Qg s15721156781594690315x7
abbrev XT17:Value:=Qg s14340494229221121180x9
abbrev XT18:Value:=Qg s13429844117177748173x6
abbrev XT19:Value:=Qg s16463266125957815391x5
abbrev XT20:Value:=Qg s4922535414793169389x9
abbrev XT21:Value:=Qg s8101838861749082086x8
abbrev XT22:Value:=Qg s7066276694103001551x3
abbrev XT23:Value:=Qg s462964344163437139x3
abbrev XT24:Value:=Qg s1438033511350832697x5
abbrev XT25:Value:=Qg s14365286008749172514x8
abbrev XT26:Value:=Qg s3642769012341782148x3
abbrev XT27:Value:=Qg s4674234679698826739x5
abbrev XT28:Value:=Qg s16656946322747308186x12
abbrev XT29:Value:=Qg s10796804682411823810x3
abbrev XT30:Value:=Qg s14339709457334898076x3
abbrev XT31:Value:=Qg s4278001404047624695x13
abbrev XT32:Value:=Qg s6585700554429387442x18
abbrev XT33:Value:=Qg s5946037652744460706x9
abbrev XT34:Value:=Qg s7410770068591931388x13
abbrev XT35:Value:=Qg s11817881795495490833x17
abbrev XT36:Value:=Qg s15679963881808890155x10
abbrev XT37:Value:=Qg s3871700062485845797x15
abbrev XT38:Value:=Qg s7689518266570723881x14
abbrev XT39:Value:=Qg s9001593270443806431x14
abbrev XT40:Value:=Qg s6882542574934516792x11
abbrev XT41:Value:=Qg s14403400214490484960x8
abbrev XT42:Value:=Qg s14457978657717015782x11
abbrev XT43:Value:=Qg s1753610191782819921x11
abbrev XT44:Value:=Qg s14119380538032626715x11
abbrev XT45:Value:=Qg s11437920000406562045x9
abbrev XT46:Value:=Qg s10852414792293593619x7
abbrev XT47:Value:=Qg s14816307405966870543x14
abbrev XT48:Value:=Qg s8682627914449686677x12
abbrev XT49:Value:=Qg s4428170145600203450x18
abbrev XT50:Value:=Qg s5991306692159431302x13
abbrev XT51:Value:=Qg s16067994140765818257x11
abbrev XT52:Value:=Qg s2327743974964600596x11
abbrev XT53:Value:=Qg s2804747833354056582x9
abbrev XT54:Value:=Qg s14270485950484850486x7
abbrev XT55:Value:=Qg s12041534306414923332x18
abbrev XT56:Value:=Qg s2531307568338490285x13
abbrev XT57:Value:=Qg s631175304937289666x17
abbrev XT58:Value:=Qg s5144983644357021410x12
abbrev XT59:Value:=Qg s18039099521571816885x18
abbrev XT60:Value:=Qg s6011586214260557989x15
abbrev XT61:Value:=Qg s5430567037509283100x13
abbrev XT62:Value:=Qg s8117915138073963741x13
abbrev XT63:Value:=Qg s3423317712779056401x25
abbrev XT64:Value:=Qg s2007317383269046180x15
abbrev XT65:Value:=Qg s17481586968713580700x14
abbrev XT66:Value:=Qg s2450899226349176912x13
abbrev XT67:Value:=Qg s16626165730633575011x14
abbrev XT68:Value:=Qg s14288496050688921416x11
abbrev XT69:Value:=Qg s5735081916595925998x15
abbrev XT70:Value:=Qg s3865607918536308442x17
abbrev XT71:Value:=Qg s13337502604062700212x15
abbrev XT72:Value:=Qg s13114017843053701147x15
abbrev XT73:Value:=Qg s17467278006356818441x17
abbrev XT74:Value:=Qg s17722149559621369488x16
abbrev XT75:Value:=Qg s7855274175708717672x17
abbrev XT76:Value:=Qg s13351283678309829046x18
abbrev XT77:Value:=Qg s6668348653404991179x15
abbrev XT78:Value:=Qg s12913350958174193794x18
abbrev XT79:Value:=Qg s16115879512475548326x12
abbrev XT80:Value:=Qg s15920661018069861047x16
abbrev XT81:Value:=Qg s10779130036587390575x21
abbrev XT82:Value:=Qg s7801419657504700863x10
abbrev XT83:Value:=Qg s1688129525768580628x8
abbrev XT84:Value:=Qg s1031832959479892071x19
abbrev XT85:Value:=Qg s8991790508128307865x19
abbrev XT86:Value:=Qg s14539662485746970245x23
abbrev XT87:Value:=Qg s11643622729373238714x14
abbrev XT88:Value:=Qg s3386828779285465597x17
abbrev XT89:Value:=Qg s13042696260734638735x12
abbrev XT90:Value:=Qg s18239426817015966623x15
abbrev XT91:Value:=Qg s1270395311379034370x22
abbrev XT92:Value:=Qg s10696252587037064777x22
abbrev XT93:Value:=Qg s7852717498200857586x20
abbrev XT94:Value:=Qg s6377248116197321094x8
abbrev XT95:Value:=Qg s3834378056692298002x18
abbrev XT96:Value:=Qg s17586630440231065808x18
abbrev XT97:Value:=Qg s15234114252648025395x21
abbrev XT98:Value:=Qg s8496462677383758984x14
abbrev XT99:Value:=Qg s6658869562736209489x6
def n0:=XN 0x7d97675c9bf6bc
def n1:=XN 0x79e0bba75c6bf6e9c3b31af
def n2:=XN 0xbf7f769c3b6fdf
def n3:=XN 0xbf7f2edc3bafdf
def n4:=XN 0x1cf3eed3c9765c7d7273dd87974
def n5:=XN 421105403244511
def n6:=XN 0x17efe5cf875e3c3c2fdf
def n7:=XN 0x2fdfe597261dfb2fdf
def n8:=XN 0xbf7f1e5e1cefdf
def n9:=XN 0x17eff3ddbf4f4c3d37eedd86fdf
def n10:=XN 0xbf7f9eed3d3669eb8afdf
def n11:=XN 0xbf7f2ecd39afdf
def n12:=XN 0x2fdfc997463c38efdf
def n13:=XN 29219126239
def n14:=XN 2874561127620
def n15:=XN 0x1cb86ed9ab466c98b0
def n16:=XN 367430873507014
def n17:=XN 0xa94e2d48316947
def n18:=XN 22438781133
def n19:=XN 0x3d7eed1bebb6efaf74284a0
def n20:=XN 0xe5bf9728b97769d18f0cd
def n21:=XN 0x72cbd3a65d97f9e9
def n22:=XN 0x1cb2f4e99765fc9972ee
def n23:=XN 0x3665c58765fc9972ee
def n24:=XN 0x64e5bfbdfc9972ee
def n25:=XN 0x3a6eebbf1dfc9972ee
def n26:=XN 29779293299
def n27:=XN 0x66df7fa68cfa72f7
def n28:=XN 107
def n29:=XN 0x2fdfcbb3ae4dfb6fdf
def n30:=XN 0xe7cb7f2e595765c7d7273dd87974
def n31:=XN 0xbf7f2edc3bb661ebc6fdf
def n32:=XN 0x17efefdd97769d9d39f2d39afdf
def n33:=XN 0x5fbfcf2f4eb8b4f2e9d30dfc7a7a61e9cefdf
def n34:=XN 0x17efe6cbcb5e1cbdefdf
def n35:=XN 232387827
def n36:=XN 211597303
def n37:=XN 27359129846
def n38:=XN 31381287660
def n39:=XN 245168109
def n40:=XN 244872311
def n41:=XN 245248756
def n42:=XN 1897177
def n43:=XN 213610734
def n44:=XN 1897209
def n45:=XN 0x72cb9396fbfcf0e8
def n46:=XN 0xe9cb0f0bfbb0e3
def n47:=XN 4013864876014
def n48:=XN 1668975
def n49:=XN 211383022
def n50:=XN 243103344
def n51:=XN 31083689204
def n52:=XN 240679539
def n53:=XN 3809597945827
def n54:=XN 240745327
def n55:=XN 0x72cbd3a65c57f9e9
def n56:=XN 251393139
def n57:=XN 211317490
def n58:=XN 215692019
def n59:=XN 97
def n60:=XN 0xc9972ee5dcf2d9
def n61:=XN 98
def n62:=XN 0xe7d76705dcf2d9
def n63:=XN 0x73cbb74f45dcf2d9
def n64:=XN 0xe587a735dcf2d9
def n65:=XN 1964018
def n66:=XN 0x376fdbb77e35dcf2d9
def n67:=XN 0xe597b6f5dcf2d9
def n68:=XN 0x72cbd3a65c57f9e95dcf2d9
def n69:=XN 0xefbf4735dcf2d9
def n70:=XN 0xc9872f25dcf2d9
def n71:=XN 0xbf7fa63d392fdf
def n72:=XN 31381287628
def n73:=XN 0x3265cbb9774e7872cc
def n74:=XN 0x39f5d9c1774e7872cc
def n75:=XN 0x1cf2edd3d1774e7872cc
def n76:=XN 0x3961e9cd774e7872cc
def n77:=XN 0xddbf6eddf8d774e7872cc
def n78:=XN 0x3965edbd774e7872cc
def n79:=XN 0x1cb2f4e99715fe7a5774e7872cc
def n80:=XN 0x3befd1cd774e7872cc
def n81:=XN 0x3261cbc9774e7872cc
def n82:=XN 31371130819
def n83:=XN 211350495
def n84:=XN 31371130851
def n85:=XN 0x3265cbb9774ddd77c3
def n86:=XN 0x39f5d9c1774ddd77c3
def n87:=XN 0x1cf2edd3d1774ddd77c3
def n88:=XN 0x3961e9cd774ddd77c3
def n89:=XN 0xddbf6eddf8d774ddd77c3
def n90:=XN 0x3965edbd774ddd77c3
def n91:=XN 0x1cb2f4e99715fe7a5774ddd77c3
def n92:=XN 0x3befd1cd774ddd77c3
def n93:=XN 0x3261cbc9774ddd77c3
def n94:=XN 3497140974659
def n95:=XN 3497140974691
def n96:=XN 0x1932e5dcbb2e3dd87443
def n97:=XN 0x1cfaece0bb2e3dd87443
def n98:=XN 0xe7976e9e8bb2e3dd87443
def n99:=XN 0x1cb0f4e6bb2e3dd87443
def n100:=XN 0x6edfb76efc6bb2e3dd87443
def n101:=XN 0x1cb2f6debb2e3dd87443
def n102:=XN 0xe597a74cb8aff3d2bb2e3dd87443
def n103:=XN 0x1df7e8e6bb2e3dd87443
def n104:=XN 30815303797
def n105:=XN 226275565
def n106:=XN 30815418348
def n107:=XN 0x1930e5e4bb2e3dd87443
def n108:=XN 4186732950732
def n109:=XN 0xddbf4f4c787966
def n110:=XN 4186732950764
def n111:=XN 0x1932e5dcbbceccbaf4cc
def n112:=XN 0x1cfaece0bbceccbaf4cc
def n113:=XN 0x1cb0f4e6bbceccbaf4cc
def n114:=XN 0xe597a74cb8aff3d2bbceccbaf4cc
def n115:=XN 110
def n116:=XN 100
def n117:=XN 15586
def n118:=XN 0x65dda7463c3b5765c7d7273dd87974
def n119:=XN 22430328018
def n120:=XN 217822450
def n121:=XN 0x14e2d483529dfa94e7cd
def n122:=XN 0x53874a0dfa94e7cd
def n123:=XN 1140559
def n124:=XN 1636673
def n125:=XN 0xbf7fa69dda6fdf
def n126:=XN 0xf3d386dcb7f9e9
def n127:=XN 29204459756
def n128:=XN 4013864678135
def n129:=XN 4013059518708
def n130:=XN 0xbf7fa69dda6fdf5d8f941
def n131:=XN 0xf3d386dcb7f9e95d8f941
def n132:=XN 0x6ccb8b0ec5d8f941
def n133:=XN 448010674303181
def n134:=XN 0x36efdfcafe4cb9775f
def n135:=XN 27356854899
def n136:=XN 3978726767219
def n137:=XN 0x32f4c3d39dfc9972ee
def n138:=XN 1636705
def n139:=XN 29749703779
def n140:=XN 29749801698
def n141:=XN 1652581
def n142:=XN 213824755
def n143:=XN 0x39e3e586ff4ddd77e3
def n144:=XN 0x79e9c36e5bfcf0e8
def n145:=XN 3980574372076
def n146:=XN 0xdda70ece17f9e9
def n147:=XN 255604707
def n148:=XN 31083705580
def n149:=XN 0xbf7fa69dda6fdf5d97769d18f0cd
def n150:=XN 0x36efdfcafe4cb9775f5d97769d18f0cd
def n151:=XN 0x65e987a735d97769d18f0cd
def n152:=XN 0x39e5e987a735d97769d18f0cd
def n153:=XN 3944329476846
def n154:=XN 0x32f4c3d39dfc9972ee5d97769d18f0cd
def n155:=XN 3497149691891
def n156:=XN 0x18f9615d97769d18f0cd
def n157:=XN 0x6ed3874635d97769d18f0cd
def n158:=XN 31379192435
def n159:=XN 0x6ed39f2e25d97769d18f0cd
def n160:=XN 0x1937655d97769d18f0cd
def n161:=XN 0xcbeb4f35d97769d18f0cd
def n162:=XN 0x39e3e586ff4ddd77e35d97769d18f0cd
def n163:=XN 0x79e9c36e5bfcf0e85d97769d18f0cd
def n164:=XN 0x39eccb8b0ec5d97769d18f0cd
def n165:=XN 0xdda70ece17f9e95d97769d18f0cd
def n166:=XN 0xf3c37e35d97769d18f0cd
def n167:=XN 0x73cbbb4ec5d97769d18f0cd
def n168:=XN 4015504749023
def n169:=XN 242809185
def n170:=XN 242825061
def n171:=XN 31381566694
def n172:=XN 0x6eebc9765c7d7273dd87974
def n173:=XN 3845270352481
def n174:=XN 230324596
def n175:=XN 443747950901215
def n176:=XN 0x64e587bebc78715f
def n177:=XN 244938463
def n178:=XN 0x1975e9d986fe4cb9775f
def n179:=XN 443304734618975
def n180:=XN 3465723654882
def n181:=XN 177530829
def n182:=XN 27340091636
def n183:=XN 1651297
def n184:=XN 0x73cbb74f4bfdf7f2
def n185:=XN 0x3961e9ceff9e9c36e5
def n186:=XN 372306437449676
def n187:=XN 0x1d396fd1cefe4cb9775f
def n188:=XN 4016840536927
def n189:=XN 31115080543
def n190:=XN 211366111
def n191:=XN 448010674303213
def n192:=XN 30815173231
def n193:=XN 31354156147
def n194:=XN 3497399218914
def n195:=XN 1913581
def n196:=XN 226277367
def n197:=XN 1833972
def n198:=XN 0x3661ddbf4f4c3c9765c7d7273dd87974
def n199:=XN 1915631
def n200:=XN 3465736155891
def n201:=XN 0x1cf961e9cd765c7d7273dd87974
def n202:=XN 27321202288
def n203:=XN 243136498
def n204:=XN 105
def n205:=XN 106
def n206:=XN 14945
def n207:=XN 3944367338220
def n208:=XN 1995499
def n209:=XN 0x31637dc306ac34f5bfdf0ec
def n210:=XN 3463297348319
def n211:=XN 0x6cd9971dfef8765f
def n212:=XN 0xe7d3467d397bdfef8765f
def n213:=XN 0xcbbb4e8c7876dfef8765f
def n214:=XN 1962220
def n215:=XN 4016016503283
def n216:=XN 3982185216117
def n217:=XN 3466780866415
def n218:=XN 220018658
def n219:=XN 31081674743
def n220:=XN 1669860
def n221:=XN 0xe7bb4f4d9a7ae2
def n222:=XN 0x17eff3e787663bf93669eb8afdf
def n223:=XN 0x2fdfe9cb7f0dba6fdf
def n224:=XN 1896801
def n225:=XN 1783393
def n226:=XN 1996641
def n227:=XN 28407560673
def n228:=XN 1815778
def n229:=XN 0x3a6ed3bf86bc397962
def n230:=XN 0xcbb3161d9b30e3
def n231:=XN 1881187
def n232:=XN 447941971769315
def n233:=XN 505394375635684
def n234:=XN 1881316
def n235:=XN 3466000708836
def n236:=XN 228096869
def n237:=XN 209288293
def n238:=XN 4011998361574
def n239:=XN 505394375766759
def n240:=XN 509512446113383
def n241:=XN 505394375749864
def n242:=XN 220000488
def n243:=XN 1979112
def n244:=XN 12905
def n245:=XN 31385728873
def n246:=XN 0x32e3dd87a73dda79e9
def n247:=XN 0x39f3c3b31e2ebcf9e9
def n248:=XN 240745065
def n249:=XN 30815368417
def n250:=XN 1815276
def n251:=XN 3980566001644
def n252:=XN 1978605
def n253:=XN 1815789
def n254:=XN 245248750
def n255:=XN 31391840097
def n256:=XN 1913327
def n257:=XN 1653103
def n258:=XN 1964016
def n259:=XN 31370934640
def n260:=XN 240923378
def n261:=XN 27076163570
def n262:=XN 505394375766771
def n263:=XN 3463330969587
def n264:=XN 1800947
def n265:=XN 243052790
def n266:=XN 213628878
def n267:=XN 0xe7a79f0d3b3645
def n268:=XN 0x3265e9bb2edcbb386d93d37ce
def n269:=XN 27354935494
def n270:=XN 213743956
def n271:=XN 228325346
def n272:=XN 0x3be5d3dbcf2dfb72ed
def n273:=XN 0x79c3cb961cbd3ce2
def n274:=XN 31083805922
def n275:=XN 0x1937e8e9976f3e787663
def n276:=XN 531265142618083
def n277:=XN 244905188
def n278:=XN 0x65e987965dbd7765
def n279:=XN 3944367207654
def n280:=XN 31343769190
def n281:=XN 0x74cbcf765f5bf966
def n282:=XN 0xf3d3965e1bf970
def n283:=XN 1914729
def n284:=XN 245167340
def n285:=XN 1847533
def n286:=XN 4012518322543
def n287:=XN 27329802482
def n288:=XN 0xc9979f2cbdb2f2
def n289:=XN 1913587
def n290:=XN 27321333363
def n291:=XN 0xc9bf474cbb71e9e987a73
def n292:=XN 1882739
def n293:=XN 30815304435
def n294:=XN 27340323572
def n295:=XN 213662964
def n296:=XN 1848570
def n297:=XN 0x5fbf9fae2cb92fdf
def n298:=XN 0x6edfa7a70cb8fc45cbcf0c2
def n299:=XN 0x3875dfca3eedfa7a70cb8fc45cbcf0c2
def n300:=XN 0x6edfa7a70cb8fc45
def n301:=XN 0x74d3e22f2dfd30f2cbbb2c7
def n302:=XN 0x74e1d7972cbd3749c9cb0efc5e72cb
def n303:=XN 0x3a69f1176e5e9cfcd3
def n304:=XN 0x1cb7f2e5171e9e9976e8e9a7941
def n305:=XN 0x396fe5ca2eedfa7a72cbcf9c1
def n306:=XN 0x396fe5ca2e5e9d7169e5d3a41
def n307:=XN 0x1cb7f2e517965cd9bac2
def n308:=XN 0xe5bf9728b1a7c5
def n309:=XN 0x1cb7f2e517a72dfc36c9
def n310:=XN 0x1cb7f2e517875d7bf7cc
def n311:=XN 0x1cb7f2e517cf2dfb72cd
def n312:=XN 0x72dfcb945cbb70ce
def n313:=XN 505222075083215
def n314:=XN 0x396fe5ca2e5c7bb2f2cb9b2d2
def n315:=XN 0xe5bf9728b976e9e9bbad2
def n316:=XN 0x376fd3d30f2cbd24e3dde79c1e1bfa53
def n317:=XN 0x6edfa7a61e597a49e1bfa53
def n318:=XN 0x1cb7f2e517c61e9bbcd3
def n319:=XN 0x1cb7f2e5176e5e9cfcd3
def n320:=XN 0x72dfcb945cbc3cd4
def n321:=XN 0x396fe5ca2e5ebb30d6
def n322:=XN 456806780154071
def n323:=XN 0x396fe5ca2f4dda77d0cfbb4f4c3bf646
def n324:=XN 0x72dfcb945efbf666e597b4f
def n325:=XN 0x72dfcb945ddbf4f3d3db4c4dfcb2da
def n326:=XN 0xcfbb4eee586bf3cbd3cc2
def n327:=XN 0x33eed3bb961afbb7e9e9871e5e5c32c4
def n328:=XN 0x19f769ddcb0d7cfbb4e4df8f745
def n329:=XN 0x67dda7772c35f2f2ebd3ac6
def n330:=XN 0x67dda7772c35fa72dfc36c9
def n331:=XN 0x67dda7772c35f76fd3d30e3cbcb865899f769c9bb2d0
def n332:=XN 0x19f769ddcb0d7cb8f975dfcf2d2
def n333:=XN 0x33eed3bb961af976e9e9bbad2
def n334:=XN 0x67dda7772c35fc61e9bbcd3
def n335:=XN 0x33eed3bb961af9726fc7a7755
def n336:=XN 0x19f769ddcb0d7e5979d5
def n337:=XN 0x1cb7f2e5167c9cfbb4ebc7bf642
def n338:=XN 0x72dfcb945e7cf2e3dfca864d9a7443
def n339:=XN 0x1cb7f2e51776fd3d31e5ddbb7c3
def n340:=XN 0x1cb7f2e5179f4e7a7c45cbb34c6
def n341:=XN 0x72dfcb945c9bbaef8dd37cecbb34c6
def n342:=XN 0xe5bf9728b932f4e1d7972cbd3749
def n343:=XN 0x72dfcb945f3cb7f4c79796989079c9
def n344:=XN 0x396fe5ca2f9e5bfa63cbcb4c483d37ce
def n345:=XN 0x1cb7f2e51776fd3cf9e9dbcb2d0
def n346:=XN 0x396fe5ca2f0ebaf7ef99cf9e5c7bf950
def n347:=XN 0xe5bf9728bd3aefcbb74d4
def n348:=XN 0xe5bf9728bbb7e9e987a6ecb93749
def n349:=XN 0x72dfcb945e9d786e9397a65d9c36efc7ba4df
def n350:=XN 0x396fe5ca2f8cb93749
def n351:=XN 0xe5bf9728be72cb
def n352:=XN 0x1cb7f2e51726eebbe374df3b2eceb937cd
def n353:=XN 0x1cb7f2e517265e9bb2edcbb386d93d37ce
def n354:=XN 0x1cb7f2e51776fd3d30fad3b30eed31b76fd1d3cd0
def n355:=XN 0x396fe5ca2eedfa79f2eb8f2d2
def n356:=XN 0x72dfcb945d9871ef9993775df8b755
def n357:=XN 0xe5bf9728b9726fc7a7755
def n358:=XN 0x1cb7f2e5172f0d343765d7bf942
def n359:=XN 0x396fe5ca2e4cbd396fc50776fd3d31e5ddbb7c3
def n360:=XN 0x396fe5ca2e4cbcfae6cb4b76fd3d31e5ddbb7c3
def n361:=XN 0xe5bf9728bd32f3cb4b76fd3d31e5ddbb7c3
def n362:=XN 0xe5bf9728b8b0d4
def n363:=XN 0x396fe5ca2e5c9bf1e5899726fc7a7755
def n364:=XN 0x396fe5ca2e5c9bf1ee8b9726fc7a7755
def n365:=XN 0x72dfcb945cbd30ece7bb0f2a99726fc7a7755
def n366:=XN 0x3875dfca3eedfa7a70cb8fc45
def n367:=XN 0xe5bf9728bd3765dbbb7f2d3db745
def n368:=XN 505222075082697
def n369:=XN 232355951
def n370:=XN 245005041
def n371:=XN 245005413
def n372:=XN 0x74d19f4f2f3c37e3
def n373:=XN 509789475535203
def n374:=XN 448183808881900
def n375:=XN 236663528
def big0:Int:=Yj (10 ^ 4000)
def XI (t:BT):Nat->Obj->BT:= @BT.rec (λ_=>Nat->Obj->BT) (λ_ o=> .node o .nil .nil) (λv l r L R i o=>bif Wv i 0 then .node o l r else bif Wv (i % 2) 1 then .node v (L (i / 2) o) r else .node v l (R (i / 2-1) o)) t
def XR (P:Params) (l:List (Params->Obj)):Nat->BT->BT:= @Xr _ (λ_=>Nat->BT->BT) (λ_ t=>t) (λo _ ih a t=>ih (JY a) (XI t a (o P))) l
def XQ (t:Nat) (l:List (PySem.Str×Value)):List (Params->DictEntry):= @Xr _ (λ_=>Nat->List (Params->DictEntry)) (λ_=> []) (λe _ ih t=>X2 e.1 t e.2::ih (JY t)) l t
def XKr (P:Params) (l:List (Params->Obj)):Nat->Frag->Frag:= @Xr _ (λ_=>Nat->Frag->Frag) (λ_ r=>r) (λo _ ih a r=>(a,o P)::ih (JY a) r) l
def XK (P:Params) (l:List (Nat×List (Params->Obj))):Frag:= @Xr (Nat×List (Params->Obj)) (λ_=>Frag) [] (λe _ ih=>XKr P e.2 e.1 ih) l
def XP (t:Params->BT) (l:List (Nat×List (Params->Obj))):Params->BT:=λP=> @Xr (Nat×List (Params->Obj)) (λ_=>BT->BT) (λt=>t) (λe _ ih t=>ih (XR P e.2 e.1 t)) l (t P)
def XD (c:Value) (d:Option Addr) (l:List (Params->DictEntry)) (n:Nat):Params->Obj:=λP=>⟨c,d,.dict (Qo (l.map λe=>e P)) n,Qo []⟩
def XM (o:Obj):Params->Obj:=λ_=>o
def Y0 (a:PySem.Str) (b:Nat) (c:PySem.Str) (d e:Int) (f:Nat) (g:Int) (h:Nat):Params->Obj:=XO XT1 X6 (.fields (X8 [(XS a b),(XS c (b+1)),(XS n1 (b+2)),(X0 d),(X0 e),(X0 0),(X0 0),(X0 3),(X1 f),(XB true),(X0 181),(X1 (f+1)),X7,(X1 (f+2)),(X1 (f+3)),(X1 (f+4)),(X0 g),(X0 d),(XS n1 h)]))
def Y1 (a b:Nat) (c d e:PySem.Str) (f g:Nat):Params->Obj:=XO XT3 X6 (XF (fnB a b) c d 3 X7 X7 X7 (XS e f) X6 (X1 g) X7)
def Y2 (a b:Nat) (c d:PySem.Str):Params->Obj:=XO X7 X6 (XF (fnB a b) c d 0 X7 X7 X7 X7 X6 X7 X7)
def Y3 (a:PySem.Str) (b c d:Nat):Params->Obj:=XM ⟨(Qg s17162191345867700912x4),Q1,(.cls (ClassData.mk a [(Qg s2742458400755230247x6)] [(.ref b),(Qg s2742458400755230247x6)] c a true [] [] false Q1 false)),Qo [Q1,Q1,(some (Zi a d)),(some (Zi a (d+8))),(some (Qp s11443829558043349243x14)),(some (Yq true))]⟩
def Y4 (a:Nat) (b c:PySem.Str) (d e:Nat):Params->Obj:=XO XT3 X6 (XF (fnA a) b b 3 X7 X7 X7 (XS c d) X6 (X1 e) X7)
def Y5 (a b:Nat) (c:PySem.Str) (d:Nat):Params->Obj:=XM ⟨(Qg s658472552662922059x5),Q1,.plain,Qo [(some (.ref a)),(some (.ref 3)),(some (.ref b)),Q1,(some (Zi c d)),Q1,(some (.ref 0))]⟩
def Y6 (a:Nat) (b:PySem.Str):Params->Obj:=XO X7 X6 (XF (fnA a) b b 0 X7 X7 X7 X7 X6 X7 X7)
def Y7 (a:PySem.Str) (b:Nat) (c:Int) (d:Nat) (e f:Int):Params->Obj:=XO XT1 X6 (.fields (X8 [(XS a b),(XS a (b+1)),(XS n1 (b+2)),(X0 c),(X0 0),(X0 0),(X0 0),(X0 0),(X1 d),(XB false),(X0 e),(X1 (d+1)),X7,X7,X7,X7,(X0 f),(X0 c),(XS n1 (b+4))]))
def Y8 (a:PySem.Str) (b:Nat) (c:PySem.Str):Params->Obj:=XO XT0 X6 (.seq (X8 [(XS a b),(XS c (b+1))]) 0)
def Y9 (a:PySem.Str) (b:Nat) (c d:PySem.Str):Params->Obj:=XO XT0 X6 (.seq (X8 [(XS a b),(XS c (b+1)),(XS d (b+2))]) 0)
def Y10 (a:PySem.Str) (b:Nat) (c:PySem.Str) (d e:Int) (f:Nat) (g:Int):Params->Obj:=XO XT1 X6 (.fields (X8 [(XS a b),(XS c (b+1)),(XS n1 (b+2)),(X0 d),(X0 e),(X0 0),(X0 0),(X0 3),(X1 f),(XB true),(X0 181),(X1 (f+1)),X7,X7,X7,(X1 (f+2)),(X0 g),(X0 d),(XS n1 (b+4))]))
def Y11 (a b:Nat):Params->Obj:=XO XT7 X6 (.fields (X8 [(XS n71 a),(X1 b),(Qp s6511155373996960695x17),(Qp s12411053484034534018x21)]))
def Y12 (a b:Nat):Params->Obj:=XO XT7 X6 (.fields (X8 [(XS n34 a),(X1 b),(Qp s10220274742760427390x26),X7]))
def Y13 (a:Nat):Params->Obj:=XO XT5 X6 (.fields (X8 [(Qp s4860613602091757760x24),(X1 a)]))
def Y14 (a:PySem.Str) (b:Nat):Params->Obj:=XO XT0 X6 (.seq (X8 [(XS a b)]) 0)
def Y15 (a:PySem.Str) (b:Nat) (c d e f:PySem.Str):Params->Obj:=XO XT0 X6 (.seq (X8 [(XS a b),(XS c (b+1)),(XS d (b+2)),(XS e (b+3)),(XS f (b+4))]) 0)
def Y16 (a:PySem.Str) (b:Nat) (c d e f g:PySem.Str):Params->Obj:=XO XT0 X6 (.seq (X8 [(XS a b),(XS c (b+1)),(XS d (b+2)),(XS e (b+3)),(XS f (b+4)),(XS g (b+5))]) 0)
def Y17 (a:Nat):Params->Obj:=XO XT8 X6 (.fields (X8 [(X1 a),(X1 a),(X1 a)]))
def Y18 (a b:Nat):Params->Obj:=XO (X1 a) (some b) .plain
def o0:=XO XT0 X6 (.seq (X8 []) 0)
def o1:=XO X7 X6 (.fields (X8 []))
def o2:=Y7 n0 182 1 11 181 185
def o3:=Y5 13 3 n2 164
def q0:List (Params->DictEntry):=XQ 165 [(n3,XS n4 277),(n5,X7),(n6,X7),(n7,Qp s7097527257260152453x26),(n8,X7),(n9,X1 6),(n10,X1 4)]++XQ 173 [(n11,XS n1 172),(n12,X7)]++ [X2 n13 193 (X1 21),X2 n14 197 (XS n15 196),X2 n16 199 (X9 4000 198),X2 n17 202 (X9 big0 201),X2 n18 204 (XS n19 203),X2 n20 222 (X1 31),X2 n21 229 (X1 41),X2 n22 236 (X1 48),X2 n23 243 (X1 55),X2 n24 251 (X1 62),X2 n25 261 (X1 69),X2 n26 268 (X1 76),X2 n27 276 (X1 83)]
def o4:=XD XT2 X6 q0 22
def q1:List Value:= [(X0 1),(X0 0),(X1 20),(X0 9),(X0 0),(X1 27),(X0 11),(X0 0),(X1 40),(X0 13),(X0 0),(X1 47),(X0 17),(X0 0),(X1 54),(X0 21),(X0 0),(X1 61),(X0 27),(X0 0),(X1 68),(X0 31),(X0 0),(X1 75),(X0 37),(X0 0),(X1 82)]
def o5:=XO X7 X6 (.fields (X8 q1))
def o6:=Y14 n28 190
def o7:=Y6 0 n13
def o8:=Y0 n13 187 n13 1 1 15 191 192
def o9:=Y4 0 n13 n2 164 20
def o10:=XO XT0 X6 (.seq (X8 [XT4]) 0)
def o11:=XO XT5 X6 (.fields (X8 [(Qp s10062305145149207511x16),XT6]))
def o12:=XD XT2 X6 [(X2 n29 212 (XS n30 194)),(X2 n31 214 (XS n20 213)),(X2 n32 216 (X9 9 215)),(X2 n33 217 (X1 29))] 4
def o13:=Y7 n20 207 9 25 181 210
def o14:=Y5 27 24 n30 194
def o15:=XD XT2 X6 [(X2 n29 212 (XS n30 194)),(X2 n32 216 (X9 9 215)),(X2 n33 217 (X1 29)),(X2 n34 219 (X1 32)),(X2 n5 220 X7)] 3
def o16:=XM ⟨(Qg s17162191345867700912x4),Q1,(.cls (ClassData.mk n20 [(Qg s6070975301684473832x10)] [(.ref 31),(Qg s6070975301684473832x10),(Qg s5946037652744460706x9),(Qg s4278001404047624695x13),(Qg s2742458400755230247x6)] 30 n20 true [] [] false Q1 false)),Qo [(some (.ref 22)),Q1,(some (Zi n20 205)),(some (Zi n20 213)),(some (Qp s4209523147560561109x18)),(some (Yq true))]⟩
def o17:=Y12 218 31
def o18:=Y17 31
def o19:=Y13 31
def o20:=Y14 n35 226
def o21:=Y6 7 n21
def o22:=Y0 n21 223 n21 11 1 35 227 228
def o23:=Y4 7 n21 n30 194 40
def o24:=Y14 n35 233
def o25:=Y6 8 n22
def o26:=Y0 n22 230 n22 13 1 42 234 235
def o27:=Y4 8 n22 n30 194 47
def o28:=Y14 n35 240
def o29:=Y6 9 n23
def o30:=Y0 n23 237 n23 17 1 49 241 242
def o31:=Y4 9 n23 n30 194 54
def o32:=Y8 n36 247 n35
def o33:=Y6 10 n24
def o34:=Y0 n24 244 n24 21 1 56 249 250
def o35:=Y4 10 n24 n30 194 61
def o36:=XO XT0 X6 (.seq (X8 [(XS n37 255),(XS n38 256),(XS n39 257),(XS n40 258)]) 0)
def o37:=Y6 11 n25
def o38:=Y0 n25 252 n25 27 4 63 259 260
def o39:=Y4 11 n25 n30 194 68
def o40:=Y14 n37 265
def o41:=Y6 12 n26
def o42:=Y0 n26 262 n26 31 1 70 266 267
def o43:=Y4 12 n26 n30 194 75
def o44:=Y8 n41 272 n35
def o45:=Y6 13 n27
def o46:=Y0 n27 269 n27 37 1 77 274 275
def o47:=Y4 13 n27 n30 194 82
def q2:List (Params->DictEntry):=q0++ [X2 n42 382 (X1 156)]
def o48:=XD XT2 X6 q2 23
def q3:List Value:=q1++ [(X0 45),(X0 0),(X1 89)]
def o49:=XO X7 X6 (.fields (X8 q3))
def q4:List (Params->DictEntry):= [X2 n29 286 (XS n4 277),X2 n31 288 (XS n42 287),X2 n32 290 (X9 45 289)]++XQ 292 [(n43,XS n44 291),(n45,XB true),(n46,XB true)]++ [X2 n47 296 (X9 0 295),X2 n48 298 (X9 1 297),X2 n49 306 (X1 97),X2 n50 315 (X1 104),X2 n51 324 (X1 111),X2 n52 332 (X1 118),X2 n53 340 (X1 125),X2 n54 349 (X1 132),X2 n55 358 (X1 139),X2 n56 366 (X1 146)]++XQ 374 [(n57,X1 153),(n33,X1 154)]
def o50:=XD XT2 X6 q4 18
def q5:List Value:= [(X0 52),(X0 4),(X1 96),(X0 57),(X0 4),(X1 103),(X0 60),(X0 4),(X1 110),(X0 63),(X0 4),(X1 117),(X0 66),(X0 4),(X1 124),(X0 69),(X0 4),(X1 131),(X0 72),(X0 4),(X1 138),(X0 75),(X0 4),(X1 145),(X0 78),(X0 4),(X1 152)]
def o51:=XO X7 X6 (.fields (X8 q5))
def o52:=Y7 n42 281 45 87 181 284
def o53:=Y5 89 86 n4 277
def o54:=Y8 n58 302 n59
def o55:=Y2 15 5 n49 n60
def o56:=Y0 n49 299 n60 52 2 91 304 305
def o57:=Y1 15 5 n49 n60 n4 277 96
def o58:=Y9 n58 310 n59 n61
def o59:=Y2 15 6 n50 n62
def o60:=Y0 n50 307 n62 57 3 98 313 314
def o61:=Y1 15 6 n50 n62 n4 277 103
def o62:=Y9 n58 319 n59 n61
def o63:=Y2 15 7 n51 n63
def o64:=Y0 n51 316 n63 60 3 105 322 323
def o65:=Y1 15 7 n51 n63 n4 277 110
def o66:=Y8 n58 328 n59
def o67:=Y2 15 8 n52 n64
def o68:=Y0 n52 325 n64 63 2 112 330 331
def o69:=Y1 15 8 n52 n64 n4 277 117
def o70:=Y8 n58 336 n65
def o71:=Y2 15 9 n53 n66
def o72:=Y0 n53 333 n66 66 2 119 338 339
def o73:=Y1 15 9 n53 n66 n4 277 124
def o74:=Y9 n58 344 n59 n61
def o75:=Y2 15 10 n54 n67
def o76:=Y0 n54 341 n67 69 3 126 347 348
def o77:=Y1 15 10 n54 n67 n4 277 131
def o78:=Y9 n58 353 n59 n61
def o79:=Y2 15 11 n55 n68
def o80:=Y0 n55 350 n68 72 3 133 356 357
def o81:=Y1 15 11 n55 n68 n4 277 138
def o82:=Y8 n58 362 n59
def o83:=Y2 15 12 n56 n69
def o84:=Y0 n56 359 n69 75 2 140 364 365
def o85:=Y1 15 12 n56 n69 n4 277 145
def o86:=Y8 n58 370 n41
def o87:=Y2 15 13 n57 n70
def o88:=Y0 n57 367 n70 78 2 147 372 373
def o89:=Y1 15 13 n57 n70 n4 277 152
def q6:List (Params->DictEntry):= [X2 n29 286 (XS n4 277),X2 n32 290 (X9 45 289)]++XQ 292 [(n43,XS n44 291),(n45,XB true),(n46,XB true)]++ [X2 n47 296 (X9 0 295),X2 n48 298 (X9 1 297),X2 n49 306 (X1 97),X2 n50 315 (X1 104),X2 n51 324 (X1 111),X2 n52 332 (X1 118),X2 n53 340 (X1 125),X2 n54 349 (X1 132),X2 n55 358 (X1 139),X2 n56 366 (X1 146)]++XQ 374 [(n57,X1 153),(n33,X1 154)]++ [X2 n71 377 (X1 157)]++XQ 379 [(n34,X1 158),(n5,X7)]
def o90:=XD XT2 X6 q6 4
def o91:=Y3 n42 156 155 279
def o92:=Y11 376 156
def o93:=Y12 378 156
def o94:=Y17 156
def o95:=Y13 156
def q7:List (Params->DictEntry):=q2++ [X2 n72 485 (X1 233)]
def o96:=XD XT2 X6 q7 24
def q8:List Value:=q3++ [(X0 80),(X0 0),(X1 166)]
def o97:=XO X7 X6 (.fields (X8 q8))
def q9:List (Params->DictEntry):= [X2 n29 390 (XS n4 277),X2 n31 392 (XS n72 391),X2 n32 394 (X9 80 393)]++XQ 396 [(n43,XS n38 395),(n45,XB true),(n46,XB true),(n47,X7)]++ [X2 n48 401 (X9 0 400),X2 n49 409 (X1 174),X2 n50 418 (X1 181),X2 n51 427 (X1 188),X2 n52 435 (X1 195),X2 n53 443 (X1 202),X2 n54 452 (X1 209),X2 n55 461 (X1 216),X2 n56 469 (X1 223)]++XQ 477 [(n57,X1 230),(n33,X1 231)]
def o98:=XD XT2 X6 q9 18
def q10:List Value:= [(X0 87),(X0 4),(X1 173),(X0 92),(X0 4),(X1 180),(X0 99),(X0 4),(X1 187),(X0 104),(X0 4),(X1 194),(X0 107),(X0 4),(X1 201),(X0 110),(X0 4),(X1 208),(X0 115),(X0 4),(X1 215),(X0 118),(X0 4),(X1 222),(X0 121),(X0 4),(X1 229)]
def o99:=XO X7 X6 (.fields (X8 q10))
def o100:=Y7 n72 385 80 164 181 388
def o101:=Y5 166 163 n4 277
def o102:=Y8 n58 405 n59
def o103:=Y2 16 5 n49 n73
def o104:=Y0 n49 402 n73 87 2 168 407 408
def o105:=Y1 16 5 n49 n73 n4 277 173
def o106:=Y9 n58 413 n59 n61
def o107:=Y2 16 6 n50 n74
def o108:=Y0 n50 410 n74 92 3 175 416 417
def o109:=Y1 16 6 n50 n74 n4 277 180
def o110:=Y9 n58 422 n59 n61
def o111:=Y2 16 7 n51 n75
def o112:=Y0 n51 419 n75 99 3 182 425 426
def o113:=Y1 16 7 n51 n75 n4 277 187
def o114:=Y8 n58 431 n59
def o115:=Y2 16 8 n52 n76
def o116:=Y0 n52 428 n76 104 2 189 433 434
def o117:=Y1 16 8 n52 n76 n4 277 194
def o118:=Y8 n58 439 n65
def o119:=Y2 16 9 n53 n77
def o120:=Y0 n53 436 n77 107 2 196 441 442
def o121:=Y1 16 9 n53 n77 n4 277 201
def o122:=Y9 n58 447 n59 n61
def o123:=Y2 16 10 n54 n78
def o124:=Y0 n54 444 n78 110 3 203 450 451
def o125:=Y1 16 10 n54 n78 n4 277 208
def o126:=Y9 n58 456 n59 n61
def o127:=Y2 16 11 n55 n79
def o128:=Y0 n55 453 n79 115 3 210 459 460
def o129:=Y1 16 11 n55 n79 n4 277 215
def o130:=Y8 n58 465 n59
def o131:=Y2 16 12 n56 n80
def o132:=Y0 n56 462 n80 118 2 217 467 468
def o133:=Y1 16 12 n56 n80 n4 277 222
def o134:=Y8 n58 473 n41
def o135:=Y2 16 13 n57 n81
def o136:=Y0 n57 470 n81 121 2 224 475 476
def o137:=Y1 16 13 n57 n81 n4 277 229
def q11:List (Params->DictEntry):= [X2 n29 390 (XS n4 277),X2 n32 394 (X9 80 393)]++XQ 396 [(n43,XS n38 395),(n45,XB true),(n46,XB true),(n47,X7)]++ [X2 n48 401 (X9 0 400),X2 n49 409 (X1 174),X2 n50 418 (X1 181),X2 n51 427 (X1 188),X2 n52 435 (X1 195),X2 n53 443 (X1 202),X2 n54 452 (X1 209),X2 n55 461 (X1 216),X2 n56 469 (X1 223)]++XQ 477 [(n57,X1 230),(n33,X1 231)]++ [X2 n71 480 (X1 234)]++XQ 482 [(n34,X1 235),(n5,X7)]
def o138:=XD XT2 X6 q11 4
def o139:=Y3 n72 233 232 383
def o140:=Y11 479 233
def o141:=Y12 481 233
def o142:=Y17 233
def o143:=Y13 233
def q12:List (Params->DictEntry):=q7++ [X2 n82 589 (X1 310),X2 n83 597 (X1 321)]
def o144:=XD XT2 X6 q12 26
def q13:List Value:=q8++ [(X0 125),(X0 0),(X1 243),(X0 162),(X0 0),(X1 320)]
def o145:=XO X7 X6 (.fields (X8 q13))
def q14:List (Params->DictEntry):= [X2 n29 493 (XS n4 277),X2 n31 495 (XS n82 494),X2 n32 497 (X9 125 496)]++XQ 499 [(n43,XS n84 498),(n45,XB false),(n46,XB true)]++ [X2 n47 503 (X9 0 502),X2 n48 505 (X9 1 504),X2 n49 513 (X1 251),X2 n50 522 (X1 258),X2 n51 531 (X1 265),X2 n52 539 (X1 272),X2 n53 547 (X1 279),X2 n54 556 (X1 286),X2 n55 565 (X1 293),X2 n56 573 (X1 300)]++XQ 581 [(n57,X1 307),(n33,X1 308)]
def o146:=XD XT2 X6 q14 18
def q15:List Value:= [(X0 132),(X0 4),(X1 250),(X0 137),(X0 4),(X1 257),(X0 140),(X0 4),(X1 264),(X0 143),(X0 4),(X1 271),(X0 148),(X0 4),(X1 278),(X0 151),(X0 4),(X1 285),(X0 154),(X0 4),(X1 292),(X0 157),(X0 4),(X1 299),(X0 160),(X0 4),(X1 306)]
def o147:=XO X7 X6 (.fields (X8 q15))
def o148:=Y7 n82 488 125 241 181 491
def o149:=Y5 243 240 n4 277
def o150:=Y8 n58 509 n59
def o151:=Y2 17 5 n49 n85
def o152:=Y0 n49 506 n85 132 2 245 511 512
def o153:=Y1 17 5 n49 n85 n4 277 250
def o154:=Y9 n58 517 n59 n61
def o155:=Y2 17 6 n50 n86
def o156:=Y0 n50 514 n86 137 3 252 520 521
def o157:=Y1 17 6 n50 n86 n4 277 257
def o158:=Y9 n58 526 n59 n61
def o159:=Y2 17 7 n51 n87
def o160:=Y0 n51 523 n87 140 3 259 529 530
def o161:=Y1 17 7 n51 n87 n4 277 264
def o162:=Y8 n58 535 n59
def o163:=Y2 17 8 n52 n88
def o164:=Y0 n52 532 n88 143 2 266 537 538
def o165:=Y1 17 8 n52 n88 n4 277 271
def o166:=Y8 n58 543 n65
def o167:=Y2 17 9 n53 n89
def o168:=Y0 n53 540 n89 148 2 273 545 546
def o169:=Y1 17 9 n53 n89 n4 277 278
def o170:=Y9 n58 551 n59 n61
def o171:=Y2 17 10 n54 n90
def o172:=Y0 n54 548 n90 151 3 280 554 555
def o173:=Y1 17 10 n54 n90 n4 277 285
def o174:=Y9 n58 560 n59 n61
def o175:=Y2 17 11 n55 n91
def o176:=Y0 n55 557 n91 154 3 287 563 564
def o177:=Y1 17 11 n55 n91 n4 277 292
def o178:=Y8 n58 569 n59
def o179:=Y2 17 12 n56 n92
def o180:=Y0 n56 566 n92 157 2 294 571 572
def o181:=Y1 17 12 n56 n92 n4 277 299
def o182:=Y8 n58 577 n41
def o183:=Y2 17 13 n57 n93
def o184:=Y0 n57 574 n93 160 2 301 579 580
def o185:=Y1 17 13 n57 n93 n4 277 306
def q16:List (Params->DictEntry):= [X2 n29 493 (XS n4 277),X2 n32 497 (X9 125 496)]++XQ 499 [(n43,XS n84 498),(n45,XB false),(n46,XB true)]++ [X2 n47 503 (X9 0 502),X2 n48 505 (X9 1 504),X2 n49 513 (X1 251),X2 n50 522 (X1 258),X2 n51 531 (X1 265),X2 n52 539 (X1 272),X2 n53 547 (X1 279),X2 n54 556 (X1 286),X2 n55 565 (X1 293),X2 n56 573 (X1 300)]++XQ 581 [(n57,X1 307),(n33,X1 308)]++ [X2 n71 584 (X1 311)]++XQ 586 [(n34,X1 312),(n5,X7)]
def o186:=XD XT2 X6 q16 4
def o187:=Y3 n82 310 309 486
def o188:=Y11 583 310
def o189:=Y12 585 310
def o190:=Y17 310
def o191:=Y13 310
def o192:=Y8 n59 593 n61
def o193:=Y6 18 n83
def o194:=Y0 n83 590 n83 162 2 315 595 596
def o195:=Y4 18 n83 n4 277 320
def q17:List (Params->DictEntry):=q12++ [X2 n94 706 (X1 396)]
def o196:=XD XT2 X6 q17 27
def q18:List Value:=q13++ [(X0 166),(X0 0),(X1 327)]
def o197:=XO X7 X6 (.fields (X8 q18))
def q19:List (Params->DictEntry):= [X2 n29 605 (XS n4 277),X2 n31 607 (XS n94 606),X2 n32 609 (X9 166 608)]++XQ 611 [(n43,XS n95 610),(n45,XB false),(n46,XB true)]++ [X2 n47 616 (X1 329),X2 n48 619 (X1 330),X2 n49 627 (X1 337),X2 n50 636 (X1 344),X2 n51 645 (X1 351),X2 n52 653 (X1 358),X2 n53 661 (X1 365),X2 n54 670 (X1 372),X2 n55 679 (X1 379),X2 n56 687 (X1 386)]++XQ 698 [(n57,X1 393),(n33,X1 394)]
def o198:=XD XT2 X6 q19 18
def q20:List Value:= [(X0 173),(X0 4),(X1 336),(X0 180),(X0 4),(X1 343),(X0 183),(X0 4),(X1 350),(X0 186),(X0 4),(X1 357),(X0 191),(X0 4),(X1 364),(X0 194),(X0 4),(X1 371),(X0 197),(X0 4),(X1 378),(X0 200),(X0 4),(X1 385),(X0 203),(X0 4),(X1 392)]
def o199:=XO X7 X6 (.fields (X8 q20))
def o200:=Y7 n94 600 166 325 181 603
def o201:=Y5 327 324 n4 277
def o202:=XO XT0 X6 (.seq (X8 [(X9 0 614),(X9 1 615)]) 0)
def o203:=XO XT0 X6 (.seq (X8 [(X9 1 617),(X9 1 618)]) 0)
def o204:=Y8 n58 623 n59
def o205:=Y2 19 5 n49 n96
def o206:=Y0 n49 620 n96 173 2 331 625 626
def o207:=Y1 19 5 n49 n96 n4 277 336
def o208:=Y9 n58 631 n59 n61
def o209:=Y2 19 6 n50 n97
def o210:=Y0 n50 628 n97 180 3 338 634 635
def o211:=Y1 19 6 n50 n97 n4 277 343
def o212:=Y9 n58 640 n59 n61
def o213:=Y2 19 7 n51 n98
def o214:=Y0 n51 637 n98 183 3 345 643 644
def o215:=Y1 19 7 n51 n98 n4 277 350
def o216:=Y8 n58 649 n59
def o217:=Y2 19 8 n52 n99
def o218:=Y0 n52 646 n99 186 2 352 651 652
def o219:=Y1 19 8 n52 n99 n4 277 357
def o220:=Y8 n58 657 n65
def o221:=Y2 19 9 n53 n100
def o222:=Y0 n53 654 n100 191 2 359 659 660
def o223:=Y1 19 9 n53 n100 n4 277 364
def o224:=Y9 n58 665 n59 n61
def o225:=Y2 19 10 n54 n101
def o226:=Y0 n54 662 n101 194 3 366 668 669
def o227:=Y1 19 10 n54 n101 n4 277 371
def o228:=Y9 n58 674 n59 n61
def o229:=Y2 19 11 n55 n102
def o230:=Y0 n55 671 n102 197 3 373 677 678
def o231:=Y1 19 11 n55 n102 n4 277 378
def o232:=Y8 n58 683 n59
def o233:=Y2 19 12 n56 n103
def o234:=Y0 n56 680 n103 200 2 380 685 686
def o235:=Y1 19 12 n56 n103 n4 277 385
def o236:=Y15 n58 691 n41 n104 n105 n106
def o237:=Y2 19 13 n57 n107
def o238:=Y0 n57 688 n107 203 2 387 696 697
def o239:=Y1 19 13 n57 n107 n4 277 392
def q21:List (Params->DictEntry):= [X2 n29 605 (XS n4 277),X2 n32 609 (X9 166 608)]++XQ 611 [(n43,XS n95 610),(n45,XB false),(n46,XB true)]++ [X2 n47 616 (X1 329),X2 n48 619 (X1 330),X2 n49 627 (X1 337),X2 n50 636 (X1 344),X2 n51 645 (X1 351),X2 n52 653 (X1 358),X2 n53 661 (X1 365),X2 n54 670 (X1 372),X2 n55 679 (X1 379),X2 n56 687 (X1 386)]++XQ 698 [(n57,X1 393),(n33,X1 394)]++ [X2 n71 701 (X1 397)]++XQ 703 [(n34,X1 398),(n5,X7)]
def o240:=XD XT2 X6 q21 4
def o241:=Y3 n94 396 395 598
def o242:=Y11 700 396
def o243:=Y12 702 396
def o244:=Y17 396
def o245:=Y13 396
def q22:List (Params->DictEntry):=q17++ [X2 n108 759 (X1 438),X2 n109 768 (X1 447)]
def o246:=XD XT2 X6 q22 29
def q23:List Value:=q18++ [(X0 208),(X0 0),(X1 406),(X0 228),(X0 0),(X1 446)]
def o247:=XO X7 X6 (.fields (X8 q23))
def o248:=XM ⟨(Qg s17162191345867700912x4),Q1,(.cls (ClassData.mk n94 [(Qg s2742458400755230247x6)] [(.ref 396),(Qg s2742458400755230247x6)] 395 n94 true [] [(.ref 438)] false Q1 false)),Qo [Q1,Q1,(some (Zi n94 598)),(some (Zi n94 606)),(some (Qp s11443829558043349243x14)),(some (Yq true))]⟩
def o249:=XO XT0 X6 (.seq (X8 [(X1 396)]) 0)
def q24:List (Params->DictEntry):= [X2 n29 714 (XS n4 277),X2 n31 716 (XS n108 715),X2 n32 718 (X9 208 717)]++XQ 720 [(n43,XS n110 719),(n45,XB true)]++ [X2 n49 729 (X1 414),X2 n50 738 (X1 421),X2 n52 746 (X1 428)]++XQ 755 [(n55,X1 435),(n33,X1 436)]
def o250:=XD XT2 X6 q24 10
def o251:=XO X7 X6 (.fields (X8 [(X0 212),(X0 4),(X1 413),(X0 218),(X0 4),(X1 420),(X0 223),(X0 4),(X1 427),(X0 226),(X0 4),(X1 434)]))
def o252:=Y7 n108 709 208 404 181 712
def o253:=Y5 406 403 n4 277
def o254:=Y8 n58 725 n59
def o255:=Y2 20 2 n49 n111
def o256:=Y0 n49 722 n111 212 2 408 727 728
def o257:=Y1 20 2 n49 n111 n4 277 413
def o258:=Y9 n58 733 n59 n61
def o259:=Y2 20 3 n50 n112
def o260:=Y0 n50 730 n112 218 3 415 736 737
def o261:=Y1 20 3 n50 n112 n4 277 420
def o262:=Y8 n58 742 n59
def o263:=Y2 20 4 n52 n113
def o264:=Y0 n52 739 n113 223 2 422 744 745
def o265:=Y1 20 4 n52 n113 n4 277 427
def o266:=Y9 n58 750 n59 n61
def o267:=Y2 20 5 n55 n114
def o268:=Y0 n55 747 n114 226 3 429 753 754
def o269:=Y1 20 5 n55 n114 n4 277 434
def q25:List (Params->DictEntry):= [X2 n29 714 (XS n4 277),X2 n32 718 (X9 208 717)]++XQ 720 [(n43,XS n110 719),(n45,XB true)]++ [X2 n49 729 (X1 414),X2 n50 738 (X1 421),X2 n52 746 (X1 428)]++XQ 755 [(n55,X1 435),(n33,X1 436),(n5,X7)]
def o270:=XD XT2 X6 q25 2
def o271:=XM ⟨(Qg s17162191345867700912x4),Q1,(.cls (ClassData.mk n108 [(.ref 396)] [(.ref 438),(.ref 396),(Qg s2742458400755230247x6)] 437 n108 true [] [] false Q1 false)),Qo [(some (.ref 401)),Q1,(some (Zi n108 707)),(some (Zi n108 715)),(some (Qp s11443829558043349243x14)),(some (Yq true))]⟩
def o272:=Y17 438
def o273:=Y13 438
def o274:=Y9 n115 763 n116 n117
def o275:=Y6 21 n109
def o276:=Y0 n109 760 n109 228 2 441 766 767
def o277:=Y4 21 n109 n4 277 446
def q26:List (Params->DictEntry):=XQ 165 [(n3,XS n118 778),(n5,X7),(n6,X7),(n7,Qp s7097527257260152453x26),(n8,X7),(n9,X1 6),(n10,X1 4)]++XQ 173 [(n11,XS n1 172),(n12,X7)]++ [X2 n13 193 (X1 21),X2 n14 197 (XS n15 196),X2 n16 199 (X9 4000 198),X2 n17 202 (X9 big0 201),X2 n18 204 (XS n19 203),X2 n20 222 (X1 31),X2 n21 229 (X1 41),X2 n22 236 (X1 48),X2 n23 243 (X1 55),X2 n24 251 (X1 62),X2 n25 261 (X1 69),X2 n26 268 (X1 76),X2 n27 276 (X1 83),X2 n42 382 (X1 156),X2 n72 485 (X1 233),X2 n82 589 (X1 310),X2 n83 597 (X1 321),X2 n94 706 (X1 396),X2 n108 759 (X1 438)]++XQ 768 [(n109,X1 447),(n119,X1 458)]++ [X2 n120 777 (X1 465),X2 n121 781 (X9 20000 780)]++XQ 783 [(n122,X9 200000 782),(n123,X1 466)]
def o278:=XD XT2 X6 q26 34
def q27:List Value:=q23++ [(X0 232),(X0 0),(X1 464)]
def o279:=XO X7 X6 (.fields (X8 q27))
def o280:=XO XT2 X6 (.dict (X8 []) 0)
def o281:=Y18 156 448
def o282:=Y18 233 450
def o283:=Y18 310 452
def o284:=Y18 396 454
def o285:=Y18 438 456
def o286:=XO XT9 X6 (.seq (X8 [(X1 449),(X1 451),(X1 453),(X1 455),(X1 457)]) 0)
def o287:=Y8 n43 773 n48
def o288:=Y6 23 n120
def o289:=Y0 n120 770 n120 232 1 459 775 776
def o290:=Y4 23 n120 n4 277 464
def o291:=XO XT10 X6 .plain
def q28:List (Params->DictEntry):=q26++ [X2 n124 833 (X1 497)]
def o292:=XD XT2 X6 q28 35
def q29:List Value:=q27++ [(X0 241),(X0 0),(X1 472)]
def o293:=XO X7 X6 (.fields (X8 q29))
def o294:=XD XT2 X6 [(X2 n29 792 (XS n118 778)),(X2 n31 794 (XS n124 793)),(X2 n32 796 (X9 241 795)),(X2 n125 807 (X1 480)),(X2 n126 814 (X1 487)),(X2 n127 821 (X1 494)),(X2 n33 826 (X1 495))] 7
def o295:=XO X7 X6 (.fields (X8 [(X0 243),(X0 4),(X1 479),(X0 249),(X0 4),(X1 486),(X0 252),(X0 4),(X1 493)]))
def o296:=Y7 n124 787 241 470 181 790
def o297:=Y5 472 469 n118 778
def o298:=Y15 n58 800 n104 n106 n128 n129
def o299:=Y2 28 0 n125 n130
def o300:=Y0 n125 797 n130 243 5 474 805 806
def o301:=Y1 28 0 n125 n130 n118 778 479
def o302:=Y14 n58 811
def o303:=Y2 28 1 n126 n131
def o304:=Y0 n126 808 n131 249 1 481 812 813
def o305:=Y1 28 1 n126 n131 n118 778 486
def o306:=Y14 n58 818
def o307:=Y2 28 2 n127 n132
def o308:=Y0 n127 815 n132 252 1 488 819 820
def o309:=Y1 28 2 n127 n132 n118 778 493
def o310:=XO XT0 X6 (.seq (X8 [(XS n106 822),(XS n129 823),(XS n104 824),(XS n128 825)]) 0)
def q30:List (Params->DictEntry):= [X2 n29 792 (XS n118 778),X2 n32 796 (X9 241 795),X2 n125 807 (X1 480),X2 n126 814 (X1 487),X2 n127 821 (X1 494),X2 n33 826 (X1 495),X2 n71 828 (X1 498)]++XQ 830 [(n34,X1 499),(n5,X7)]
def o311:=XD XT2 X6 q30 4
def o312:=Y3 n124 497 496 785
def o313:=Y11 827 497
def o314:=Y12 829 497
def o315:=Y17 497
def o316:=Y13 497
def q31:List (Params->DictEntry):=q28++ [X2 n133 989 (X1 623)]
def o317:=XD XT2 X6 q31 36
def q32:List Value:=q29++ [(X0 254),(X0 0),(X1 507)]
def o318:=XO X7 X6 (.fields (X8 q32))
def q33:List (Params->DictEntry):= [X2 n29 841 (XS n118 778),X2 n31 843 (XS n133 842),X2 n32 845 (X9 254 844),X2 n125 853 (X1 515),X2 n134 861 (X1 522),X2 n135 868 (X1 529),X2 n136 874 (X1 534),X2 n137 882 (X1 541),X2 n138 894 (X1 548),X2 n139 906 (X1 555),X2 n140 915 (X1 563),X2 n141 924 (X1 571),X2 n142 931 (X1 578),X2 n143 938 (X1 585),X2 n144 947 (X1 592),X2 n145 954 (X1 599),X2 n146 961 (X1 606),X2 n147 968 (X1 613),X2 n148 975 (X1 620),X2 n33 982 (X1 621)]
def o319:=XD XT2 X6 q33 20
def q34:List Value:= [(X0 256),(X0 4),(X1 514),(X0 264),(X0 4),(X1 521),(X0 268),(X0 4),(X1 528),(X0 274),(X0 4),(X1 533),(X0 278),(X0 4),(X1 540),(X0 281),(X0 4),(X1 547),(X0 294),(X0 4),(X1 554),(X0 297),(X0 4),(X1 562),(X0 302),(X0 4),(X1 570),(X0 306),(X0 4),(X1 577),(X0 309),(X0 4),(X1 584),(X0 312),(X0 4),(X1 591),(X0 319),(X0 4),(X1 598),(X0 322),(X0 4),(X1 605),(X0 325),(X0 4),(X1 612),(X0 328),(X0 4),(X1 619)]
def o320:=XO X7 X6 (.fields (X8 q34))
def o321:=Y7 n133 836 254 505 181 839
def o322:=Y5 507 504 n118 778
def o323:=Y8 n58 849 n120
def o324:=Y2 29 0 n125 n149
def o325:=Y0 n125 846 n149 256 2 509 851 852
def o326:=Y1 29 0 n125 n149 n118 778 514
def o327:=Y8 n58 857 n84
def o328:=Y2 29 1 n134 n150
def o329:=Y0 n134 854 n150 264 2 516 859 860
def o330:=Y1 29 1 n134 n150 n118 778 521
def o331:=Y14 n58 865
def o332:=Y2 29 2 n135 n151
def o333:=Y0 n135 862 n151 268 1 523 866 867
def o334:=Y1 29 2 n135 n151 n118 778 528
def o335:=Y2 29 3 n136 n152
def o336:=Y10 n136 869 n152 274 2 530 872
def o337:=Y1 29 3 n136 n152 n118 778 533
def o338:=Y8 n58 878 n153
def o339:=Y2 29 4 n137 n154
def o340:=Y0 n137 875 n154 278 2 535 880 881
def o341:=Y1 29 4 n137 n154 n118 778 540
def o342:=Y16 n58 886 n155 n104 n106 n128 n129
def o343:=Y2 29 5 n138 n156
def o344:=Y0 n138 883 n156 281 6 542 892 893
def o345:=Y1 29 5 n138 n156 n118 778 547
def o346:=Y16 n58 898 n155 n104 n106 n128 n129
def o347:=Y2 29 6 n139 n157
def o348:=Y0 n139 895 n157 294 6 549 904 905
def o349:=Y1 29 6 n139 n157 n118 778 554
def o350:=XO XT0 X6 (.seq (X8 [(X1 466)]) 0)
def o351:=Y9 n58 910 n158 n128
def o352:=Y2 29 7 n140 n159
def o353:=Y0 n140 907 n159 297 3 557 913 914
def o354:=XO XT3 X6 (XF (fnB 29 7) n140 n159 3 (X1 556) X7 X7 (XS n118 778) X6 (X1 562) X7)
def o355:=Y9 n58 919 n135 n128
def o356:=Y2 29 8 n141 n160
def o357:=Y0 n141 916 n160 302 3 565 922 923
def o358:=XO XT3 X6 (XF (fnB 29 8) n141 n160 3 (X1 564) X7 X7 (XS n118 778) X6 (X1 570) X7)
def o359:=Y14 n58 928
def o360:=Y2 29 9 n142 n161
def o361:=Y0 n142 925 n161 306 1 572 929 930
def o362:=Y1 29 9 n142 n161 n118 778 577
def o363:=Y14 n58 935
def o364:=Y2 29 10 n143 n162
def o365:=Y0 n143 932 n162 309 1 579 936 937
def o366:=Y1 29 10 n143 n162 n118 778 584
def o367:=Y9 n58 942 n65 n138
def o368:=Y2 29 11 n144 n163
def o369:=Y0 n144 939 n163 312 1 586 945 946
def o370:=Y1 29 11 n144 n163 n118 778 591
def o371:=Y14 n58 951
def o372:=Y2 29 12 n145 n164
def o373:=Y0 n145 948 n164 319 1 593 952 953
def o374:=Y1 29 12 n145 n164 n118 778 598
def o375:=Y14 n58 958
def o376:=Y2 29 13 n146 n165
def o377:=Y0 n146 955 n165 322 1 600 959 960
def o378:=Y1 29 13 n146 n165 n118 778 605
def o379:=Y14 n58 965
def o380:=Y2 29 14 n147 n166
def o381:=Y0 n147 962 n166 325 1 607 966 967
def o382:=Y1 29 14 n147 n166 n118 778 612
def o383:=Y14 n58 972
def o384:=Y2 29 15 n148 n167
def o385:=Y0 n148 969 n167 328 1 614 973 974
def o386:=Y1 29 15 n148 n167 n118 778 619
def o387:=Y16 n168 976 n169 n170 n171 n120 n158
def q35:List (Params->DictEntry):= [X2 n29 841 (XS n118 778),X2 n32 845 (X9 254 844),X2 n125 853 (X1 515),X2 n134 861 (X1 522),X2 n135 868 (X1 529),X2 n136 874 (X1 534),X2 n137 882 (X1 541),X2 n138 894 (X1 548),X2 n139 906 (X1 555),X2 n140 915 (X1 563),X2 n141 924 (X1 571),X2 n142 931 (X1 578),X2 n143 938 (X1 585),X2 n144 947 (X1 592),X2 n145 954 (X1 599),X2 n146 961 (X1 606),X2 n147 968 (X1 613),X2 n148 975 (X1 620),X2 n33 982 (X1 621),X2 n71 984 (X1 624)]++XQ 986 [(n34,X1 625),(n5,X7)]
def o388:=XD XT2 X6 q35 4
def o389:=Y3 n133 623 622 834
def o390:=Y11 983 623
def o391:=Y12 985 623
def o392:=Y17 623
def o393:=Y13 623
def q36:List (Params->DictEntry):=XQ 165 [(n3,XS n172 1109),(n5,X7),(n6,X7),(n7,Qp s7097527257260152453x26),(n8,X7),(n9,X1 6),(n10,X1 4)]++XQ 173 [(n11,XS n1 172),(n12,X7)]++ [X2 n13 193 (X1 21),X2 n14 197 (XS n15 196),X2 n16 199 (X9 4000 198),X2 n17 202 (X9 big0 201),X2 n18 204 (XS n19 203),X2 n20 222 (X1 31),X2 n21 229 (X1 41),X2 n22 236 (X1 48),X2 n23 243 (X1 55),X2 n24 251 (X1 62),X2 n25 261 (X1 69),X2 n26 268 (X1 76),X2 n27 276 (X1 83),X2 n42 382 (X1 156),X2 n72 485 (X1 233),X2 n82 589 (X1 310),X2 n83 597 (X1 321),X2 n94 706 (X1 396),X2 n108 759 (X1 438)]++XQ 768 [(n109,X1 447),(n119,X1 458)]++ [X2 n120 777 (X1 465),X2 n121 781 (X9 20000 780)]++XQ 783 [(n122,X9 200000 782),(n123,X1 466)]++ [X2 n124 833 (X1 497),X2 n133 989 (X1 623),X2 n173 1000 (X1 634),X2 n174 1006 (X1 639),X2 n175 1012 (X1 644),X2 n176 1018 (X1 649),X2 n177 1031 (X1 656),X2 n178 1041 (X1 663),X2 n179 1050 (X1 670),X2 n180 1063 (X1 677),X2 n181 1067 (X9 2000 1066),X2 n182 1073 (X1 682),X2 n183 1083 (X1 689),X2 n52 1089 (X1 694),X2 n184 1101 (X1 701),X2 n185 1108 (X1 708),X2 n186 1112 (X9 200 1111),X2 n128 1130 (X1 715),X2 n187 1137 (X1 722),X2 n188 1145 (X1 729),X2 n189 1154 (X1 736),X2 n190 1165 (X1 743)]
def o394:=XD XT2 X6 q36 56
def q37:List Value:=q32++ [(X0 330),(X0 0),(X1 633),(X0 334),(X0 0),(X1 638),(X0 355),(X0 0),(X1 643),(X0 357),(X0 0),(X1 648),(X0 363),(X0 0),(X1 655),(X0 376),(X0 0),(X1 662),(X0 381),(X0 0),(X1 669),(X0 389),(X0 0),(X1 676),(X0 400),(X0 0),(X1 681),(X0 409),(X0 0),(X1 688),(X0 412),(X0 0),(X1 693),(X0 427),(X0 0),(X1 700),(X0 434),(X0 0),(X1 707),(X0 440),(X0 0),(X1 714),(X0 464),(X0 0),(X1 721),(X0 468),(X0 0),(X1 728),(X0 472),(X0 0),(X1 735),(X0 474),(X0 0),(X1 742)]
def o395:=XO X7 X6 (.fields (X8 q37))
def o396:=Y15 n191 993 n192 n193 n155 n138
def o397:=Y6 30 n173
def o398:=Y0 n173 990 n173 330 3 628 998 999
def o399:=Y4 30 n173 n118 778 633
def o400:=Y6 31 n174
def o401:=Y10 n174 1001 n174 334 1 635 1004
def o402:=Y4 31 n174 n118 778 638
def o403:=Y6 32 n175
def o404:=Y10 n175 1007 n175 355 1 640 1010
def o405:=Y4 32 n175 n118 778 643
def o406:=Y6 33 n176
def o407:=Y10 n176 1013 n176 357 1 645 1016
def o408:=Y4 33 n176 n118 778 648
def o409:=XO XT0 X6 (.seq (X8 [(XS n191 1022),(XS n171 1023),(XS n194 1024),(XS n195 1025),(XS n196 1026),(XS n135 1027),(XS n192 1028)]) 0)
def o410:=Y6 34 n177
def o411:=Y0 n177 1019 n177 363 3 650 1029 1030
def o412:=Y4 34 n177 n118 778 655
def o413:=Y8 n48 1037 n197
def o414:=Y6 36 n178
def o415:=Y0 n178 1034 n178 376 2 657 1039 1040
def o416:=Y4 36 n178 n198 1032 662
def o417:=Y9 n48 1045 n197 n199
def o418:=Y6 37 n179
def o419:=Y0 n179 1042 n179 381 2 664 1048 1049
def o420:=Y4 37 n179 n198 1032 669
def o421:=XO XT0 X6 (.seq (X8 [(XS n48 1054),(XS n197 1055),(XS n199 1056),(XS n171 1057),(XS n200 1058),(XS n120 1059),(XS n28 1060)]) 0)
def o422:=Y6 38 n180
def o423:=Y0 n180 1051 n180 389 2 671 1061 1062
def o424:=Y4 38 n180 n198 1032 676
def o425:=Y6 41 n182
def o426:=Y10 n182 1068 n182 400 2 678 1071
def o427:=Y4 41 n182 n201 1064 681
def o428:=XO XT0 X6 (.seq (X8 [(XS n120 1077),(XS n65 1078),(XS n202 1079),(XS n128 1080)]) 0)
def o429:=Y6 42 n183
def o430:=Y0 n183 1074 n183 409 4 683 1081 1082
def o431:=Y4 42 n183 n201 1064 688
def o432:=Y6 43 n52
def o433:=Y10 n52 1084 n52 412 2 690 1087
def o434:=Y4 43 n52 n201 1064 693
def o435:=Y16 n120 1093 n65 n203 n199 n204 n205
def o436:=Y6 44 n184
def o437:=Y0 n184 1090 n184 427 3 695 1099 1100
def o438:=Y4 44 n184 n201 1064 700
def o439:=Y14 n191 1105
def o440:=Y6 45 n185
def o441:=Y0 n185 1102 n185 434 1 702 1106 1107
def o442:=Y4 45 n185 n201 1064 707
def o443:=XO XT0 X6 (.seq (X8 [(XS n191 1116),(XS n104 1117),(XS n106 1118),(XS n120 1119),(XS n54 1120),(XS n203 1121),(XS n204 1122),(XS n205 1123),(XS n65 1124),(XS n135 1125),(XS n138 1126),(XS n202 1127)]) 0)
def o444:=Y6 48 n128
def o445:=Y0 n128 1113 n128 440 3 709 1128 1129
def o446:=Y4 48 n128 n172 1109 714
def o447:=Y14 n36 1134
def o448:=Y6 49 n187
def o449:=Y0 n187 1131 n187 464 1 716 1135 1136
def o450:=Y4 49 n187 n172 1109 721
def o451:=Y8 n191 1141 n65
def o452:=Y6 50 n188
def o453:=Y0 n188 1138 n188 468 1 723 1143 1144
def o454:=Y4 50 n188 n172 1109 728
def o455:=Y9 n36 1149 n206 n207
def o456:=Y6 51 n189
def o457:=Y0 n189 1146 n189 472 3 730 1152 1153
def o458:=Y4 51 n189 n172 1109 735
def o459:=Y15 n191 1158 n203 n208 n135 n37
def o460:=Y6 52 n190
def o461:=Y0 n190 1155 n190 474 5 737 1163 1164
def o462:=Y4 52 n190 n172 1109 742
def q38:List (Params->DictEntry):=XQ 165 [(n3,XS n209 1177),(n5,X7),(n6,X7),(n7,Qp s7097527257260152453x26),(n8,X7),(n9,X1 6),(n10,X1 4)]++XQ 173 [(n11,XS n1 172),(n12,X7)]++ [X2 n13 193 (X1 21),X2 n14 197 (XS n15 196),X2 n16 199 (X9 4000 198),X2 n17 202 (X9 big0 201),X2 n18 204 (XS n19 203),X2 n20 222 (X1 31),X2 n21 229 (X1 41),X2 n22 236 (X1 48),X2 n23 243 (X1 55),X2 n24 251 (X1 62),X2 n25 261 (X1 69),X2 n26 268 (X1 76),X2 n27 276 (X1 83),X2 n42 382 (X1 156),X2 n72 485 (X1 233),X2 n82 589 (X1 310),X2 n83 597 (X1 321),X2 n94 706 (X1 396),X2 n108 759 (X1 438)]++XQ 768 [(n109,X1 447),(n119,X1 458)]++ [X2 n120 777 (X1 465),X2 n121 781 (X9 20000 780)]++XQ 783 [(n122,X9 200000 782),(n123,X1 466)]++ [X2 n124 833 (X1 497),X2 n133 989 (X1 623),X2 n173 1000 (X1 634),X2 n174 1006 (X1 639),X2 n175 1012 (X1 644),X2 n176 1018 (X1 649),X2 n177 1031 (X1 656),X2 n178 1041 (X1 663),X2 n179 1050 (X1 670),X2 n180 1063 (X1 677),X2 n181 1067 (X9 2000 1066),X2 n182 1073 (X1 682),X2 n183 1083 (X1 689),X2 n52 1089 (X1 694),X2 n184 1101 (X1 701),X2 n185 1108 (X1 708),X2 n186 1112 (X9 200 1111),X2 n128 1130 (X1 715),X2 n187 1137 (X1 722),X2 n188 1145 (X1 729),X2 n189 1154 (X1 736),X2 n190 1165 (X1 743),X2 n210 1176 (X1 750),X2 n211 1186 (X1 757),X2 n212 1193 (X1 764),X2 n213 1213 (X1 771),X2 n214 1231 (X1 778)]
def o463:=XD XT2 X6 q38 61
def q39:List Value:=q37++ [(X0 478),(X0 0),(X1 749),(X0 486),(X0 0),(X1 756),(X0 490),(X0 0),(X1 763),(X0 492),(X0 0),(X1 770),(X0 511),(X0 0),(X1 777)]
def o464:=XO X7 X6 (.fields (X8 q39))
def o465:=Y15 n191 1169 n65 n120 n199 n135
def o466:=Y6 53 n210
def o467:=Y0 n210 1166 n210 478 2 744 1174 1175
def o468:=Y4 53 n210 n172 1109 749
def o469:=Y8 n215 1182 n28
def o470:=Y6 55 n211
def o471:=Y0 n211 1179 n211 486 2 751 1184 1185
def o472:=Y4 55 n211 n209 1177 756
def o473:=Y14 n43 1190
def o474:=Y6 56 n212
def o475:=Y0 n212 1187 n212 490 1 758 1191 1192
def o476:=Y4 56 n212 n209 1177 763
def o477:=XO XT0 X6 (.seq (X8 [(XS n215 1197),(XS n206 1198),(XS n48 1199),(XS n216 1200),(XS n217 1201),(XS n191 1202),(XS n142 1203),(XS n65 1204),(XS n28 1205),(XS n115 1206),(XS n155 1207),(XS n129 1208),(XS n104 1209),(XS n106 1210)]) 0)
def o478:=Y6 57 n213
def o479:=Y0 n213 1194 n213 492 5 765 1211 1212
def o480:=Y4 57 n213 n209 1177 770
def o481:=XO XT0 X6 (.seq (X8 [(XS n215 1217),(XS n48 1218),(XS n171 1219),(XS n200 1220),(XS n218 1221),(XS n219 1222),(XS n28 1223),(XS n104 1224),(XS n106 1225),(XS n220 1226),(XS n204 1227),(XS n205 1228)]) 0)
def o482:=Y6 58 n214
def o483:=Y0 n214 1214 n214 511 1 772 1229 1230
def o484:=Y4 58 n214 n209 1177 777
def q40 : List (Params -> DictEntry) := XQ 1 [(n3,XS n221 160),(n5,Qp "builtins.__doc__:str#opaque"),(n6,Qp "builtins.__package__:str#opaque"),(n7,Qp "builtins.__loader__:shared#opaque"),(n8,Qp s11665532747177232413x24),(n222,Qp s15183661809925369436x15),(n223,Qp s13915890719876406383x10),(n224,Qp s13459172003223722735x3),(n225,Qp s10557405761357834076x3),(n226,Qp s4233737765568776869x3),(n227,Qp s2508922471967985374x5),(n228,Qp s15574269061696679450x3),(n229,Qp s6016482663378992977x10),(n230,Qp s5596568736180474577x8),(n231,Qp s2839554839881490554x3),(n232,Qp s725004073602090463x7),(n233,Qp s9436932552931045734x7),(n234,Qp s2754603736356183583x3),(n235,Qp s15185746759980889043x6),(n236,Qp s8192189862530294059x4),(n237,Qp s7038307821325472102x4),(n238,Qp s5662562618415449548x6),(n239,Qp s15281542589158584767x7),(n240,Qp s17651547275483570877x7),(n241,Qp s4036449017235975746x7),(n242,Qp s8879979712987360175x4),(n243,Qp s1801250619170735830x3),(n244,Qp s17659931425627118568x2),(n245,Qp s6063217899685152688x5),(n246,Qp s8008927332132565319x10),(n247,Qp s3544116645089599534x10),(n248,Qp s13761710972054866084x4),(n249,Qp s12896375587409280029x5),(n250,Qp s13014049009108672802x3),(n251,Qp s13935586738268321596x6),(n252,Qp s8200498257699607233x3),(n253,Qp s14114244577727609259x3),(n254,Qp s1499430450269397089x4),(n255,Qp s8755793994789770505x5),(n256,Qp s15725212667919936108x3),(n257,Qp s15791221867095933363x3),(n258,Qp s81309575031448614x3),(n259,Qp s8069831620301644142x5),(n260,Qp s10061844253413749634x4),(n261,Qp s9496514870978017513x5),(n262,Qp s8899691144933366716x7),(n263,Qp s15201008993051130160x6),(n264,Qp s741896355592496720x3),(n265,Qp s17925004256654032244x4),(n266,X7),(n267,Value.ellipsis),(n268,Value.notImplemented),(n269,XB false),(n270,XB true),(n271,XT11),(n272,XT12),(n273,XT13),(n274,XT14),(n275,XT15),(n276,XT16),(n277,XT2),(n278,XT17),(n279,XT18),(n280,XT19),(n281,XT20),(n282,XT21),(n283,XT22),(n284,XT9),(n285,XT23),(n286,XT10),(n287,XT24),(n288,XT25),(n289,XT26),(n290,XT27),(n291,XT28),(n292,XT29),(n293,XT8),(n294,XT0),(n295,XT6),(n296,XT30),(n297,XB true),(n298,XT31),(n299,XT32),(n300,XT33),(n301,XT34),(n302,XT35),(n303,XT36),(n304,XT37),(n305,XT38),(n306,XT39),(n307,XT40),(n308,XT41),(n309,XT42),(n310,XT43),(n311,XT44),(n312,XT45),(n313,XT46),(n314,XT47),(n315,XT48),(n316,XT49),(n317,XT50),(n318,XT51),(n319,XT52),(n320,XT53),(n321,XT4),(n322,XT54),(n323,XT55),(n324,XT56),(n325,XT57),(n326,XT58),(n327,XT59),(n328,XT60),(n329,XT61),(n330,XT62),(n331,XT63),(n332,XT64),(n333,XT65),(n334,XT66),(n335,XT67),(n336,XT68),(n337,XT69),(n338,XT70),(n339,XT71),(n340,XT72),(n341,XT73),(n342,XT74),(n343,XT75),(n344,XT76),(n345,XT77),(n346,XT78),(n347,XT79),(n348,XT80),(n349,XT81),(n350,XT82),(n351,XT83),(n352,XT84),(n353,XT85),(n354,XT86),(n355,XT87),(n356,XT88),(n357,XT89),(n358,XT90),(n359,XT91),(n360,XT92),(n361,XT93),(n362,XT94),(n363,XT95),(n364,XT96),(n365,XT97),(n366,XT98),(n367,XT46),(n368,XT46),(n369,Qp s16789243406116112673x4),(n370,Qp s14400166428656793546x20),(n371,Qp s5857708277339239366x20),(n372,Qp s11855354603118919900x25),(n373,Qp s9233592162442887856x23),(n374,Qp s5312253846380744199x23),(n375,Qp s7804999707787243718x20)]
def o485:=XD XT2 X6 q40 159
def o486:=XD XT2 X6 [(X2 n221 162 (X1 4)),(X2 n2 163 (X1 5))] 2
def o487:=XO X7 X6 (.dict (X8 []) 0)
def o488:=XO XT99 (some 0) .plain
def o489:=XO XT99 (some 3) .plain
def o490:=Y7 n0 176 1 7 175 179
def o491:=Y5 9 3 n2 164
def zeg (P:Params):Heap:=⟨⟨[boot_o_0 P,boot_o_1 P,boot_o_2 P,boot_o_3 P,boot_o_4 P,boot_o_5 P,boot_o_6 P,boot_o_7 P,boot_o_8 P,boot_o_9 P,boot_o_10 P,o0 P,o1 P,o2 P,o3 P]⟩,{}⟩
def tr0:=XP X5 [(0,[boot_o_0,boot_o_1,boot_o_2,boot_o_3,boot_o_4,boot_o_5,boot_o_6,boot_o_7,boot_o_8,boot_o_9,boot_o_10,o0,o1,o2,o3])]
def tr1:=XP tr0 [(3,[o4]),(12,[o5]),(15,[o0,o1,o6,o0,o7,o8,o9,o10,o11,o12,o0,o1,o13,o14,o0,o15,o16,o17,o18,o19,o0,o1,o20,o0,o21,o22,o23,o0,o1,o24,o0,o25,o26,o27,o0,o1,o28,o0,o29,o30,o31,o0,o1,o32,o0,o33,o34,o35,o0,o1,o36,o0,o37,o38,o39,o0,o1,o40,o0,o41,o42,o43,o0,o1,o44,o0,o45,o46,o47])]
def tr2:=XP tr1 [(3,[o48]),(12,[o49]),(84,[o0,o11,o50,o0,o51,o52,o53,o0,o1,o54,o0,o55,o56,o57,o0,o1,o58,o0,o59,o60,o61,o0,o1,o62,o0,o63,o64,o65,o0,o1,o66,o0,o67,o68,o69,o0,o1,o70,o0,o71,o72,o73,o0,o1,o74,o0,o75,o76,o77,o0,o1,o78,o0,o79,o80,o81,o0,o1,o82,o0,o83,o84,o85,o0,o1,o86,o0,o87,o88,o89,o0,o90,o91,o92,o93,o94,o95])]
def tr3:=XP tr2 [(3,[o96]),(12,[o97]),(161,[o0,o11,o98,o0,o99,o100,o101,o0,o1,o102,o0,o103,o104,o105,o0,o1,o106,o0,o107,o108,o109,o0,o1,o110,o0,o111,o112,o113,o0,o1,o114,o0,o115,o116,o117,o0,o1,o118,o0,o119,o120,o121,o0,o1,o122,o0,o123,o124,o125,o0,o1,o126,o0,o127,o128,o129,o0,o1,o130,o0,o131,o132,o133,o0,o1,o134,o0,o135,o136,o137,o0,o138,o139,o140,o141,o142,o143])]
def tr4:=XP tr3 [(3,[o144]),(12,[o145]),(238,[o0,o11,o146,o0,o147,o148,o149,o0,o1,o150,o0,o151,o152,o153,o0,o1,o154,o0,o155,o156,o157,o0,o1,o158,o0,o159,o160,o161,o0,o1,o162,o0,o163,o164,o165,o0,o1,o166,o0,o167,o168,o169,o0,o1,o170,o0,o171,o172,o173,o0,o1,o174,o0,o175,o176,o177,o0,o1,o178,o0,o179,o180,o181,o0,o1,o182,o0,o183,o184,o185,o0,o186,o187,o188,o189,o190,o191,o0,o1,o192,o0,o193,o194,o195])]
def tr5:=XP tr4 [(3,[o196]),(12,[o197]),(322,[o0,o11,o198,o0,o199,o200,o201,o202,o203,o0,o1,o204,o0,o205,o206,o207,o0,o1,o208,o0,o209,o210,o211,o0,o1,o212,o0,o213,o214,o215,o0,o1,o216,o0,o217,o218,o219,o0,o1,o220,o0,o221,o222,o223,o0,o1,o224,o0,o225,o226,o227,o0,o1,o228,o0,o229,o230,o231,o0,o1,o232,o0,o233,o234,o235,o0,o1,o236,o0,o237,o238,o239,o0,o240,o241,o242,o243,o244,o245])]
def tr6:=XP tr5 [(3,[o246]),(12,[o247]),(396,[o248]),(401,[o249,o11,o250,o0,o251,o252,o253,o0,o1,o254,o0,o255,o256,o257,o0,o1,o258,o0,o259,o260,o261,o0,o1,o262,o0,o263,o264,o265,o0,o1,o266,o0,o267,o268,o269,o0,o270,o271,o272,o273,o0,o1,o274,o0,o275,o276,o277])]
def tr7:=XP tr6 [(3,[o278]),(12,[o279]),(448,[o280,o281,o280,o282,o280,o283,o280,o284,o280,o285,o286,o0,o1,o287,o0,o288,o289,o290,o291])]
def tr8:=XP tr7 [(3,[o292]),(12,[o293]),(467,[o0,o11,o294,o0,o295,o296,o297,o0,o1,o298,o0,o299,o300,o301,o0,o1,o302,o0,o303,o304,o305,o0,o1,o306,o0,o307,o308,o309,o310,o311,o312,o313,o314,o315,o316])]
def tr9:=XP tr8 [(3,[o317]),(12,[o318]),(502,[o0,o11,o319,o0,o320,o321,o322,o0,o1,o323,o0,o324,o325,o326,o0,o1,o327,o0,o328,o329,o330,o0,o1,o331,o0,o332,o333,o334,o0,o1,o335,o336,o337,o0,o1,o338,o0,o339,o340,o341,o0,o1,o342,o0,o343,o344,o345,o0,o1,o346,o0,o347,o348,o349,o350,o0,o1,o351,o0,o352,o353,o354,o350,o0,o1,o355,o0,o356,o357,o358,o0,o1,o359,o0,o360,o361,o362,o0,o1,o363,o0,o364,o365,o366,o0,o1,o367,o0,o368,o369,o370,o0,o1,o371,o0,o372,o373,o374,o0,o1,o375,o0,o376,o377,o378,o0,o1,o379,o0,o380,o381,o382,o0,o1,o383,o0,o384,o385,o386,o387,o388,o389,o390,o391,o392,o393])]
def tr10:=XP tr9 [(3,[o394]),(12,[o395]),(628,[o0,o1,o396,o0,o397,o398,o399,o0,o1,o400,o401,o402,o0,o1,o403,o404,o405,o0,o1,o406,o407,o408,o0,o1,o409,o0,o410,o411,o412,o0,o1,o413,o0,o414,o415,o416,o0,o1,o417,o0,o418,o419,o420,o0,o1,o421,o0,o422,o423,o424,o0,o1,o425,o426,o427,o0,o1,o428,o0,o429,o430,o431,o0,o1,o432,o433,o434,o0,o1,o435,o0,o436,o437,o438,o0,o1,o439,o0,o440,o441,o442,o0,o1,o443,o0,o444,o445,o446,o0,o1,o447,o0,o448,o449,o450,o0,o1,o451,o0,o452,o453,o454,o0,o1,o455,o0,o456,o457,o458,o0,o1,o459,o0,o460,o461,o462])]
def tr11:=XP tr10 [(3,[o463]),(12,[o464]),(744,[o0,o1,o465,o0,o466,o467,o468,o0,o1,o469,o0,o470,o471,o472,o0,o1,o473,o0,o474,o475,o476,o0,o1,o477,o0,o478,o479,o480,o0,o1,o481,o0,o482,o483,o484])]
def jP (P:Params):Heap:=absHeap (tr11 P) 779 {}
def sts1:List Stmt:=takeS 15 (dropS 0 TP.main.body)
def sts2:List Stmt:=takeS 1 (dropS 15 TP.main.body)
def sts3:List Stmt:=takeS 1 (dropS 16 TP.main.body)
def sts4:List Stmt:=takeS 2 (dropS 17 TP.main.body)
def sts5:List Stmt:=takeS 1 (dropS 19 TP.main.body)
def sts6:List Stmt:=takeS 2 (dropS 20 TP.main.body)
def sts7:List Stmt:=takeS 6 (dropS 22 TP.main.body)
def sts8:List Stmt:=takeS 1 (dropS 28 TP.main.body)
def sts9:List Stmt:=takeS 1 (dropS 29 TP.main.body)
def sts10:List Stmt:=takeS 23 (dropS 30 TP.main.body)
def sts11:List Stmt:=takeS 6 (dropS 53 TP.main.body)
def stsAll:List Stmt:=sts1++(sts2++(sts3++(sts4++(sts5++(sts6++(sts7++(sts8++(sts9++(sts10++(sts11++([])))))))))))
def env0:Env:= {scope:=TP.main.scope,locals:=mainNs,globals:=mainNs,cells:= [],code:=(.ref 13),frame:=some 14}
def fp:Pos:=⟨0,0,0,0⟩
abbrev cE:Code:=Code.body stsAll env0
abbrev ann0:Option Value:=(some (.ref 6))
theorem zg0 (w:World):(λos=>TWtopGo TWtable TP w 11 ann0 12 ⟨boot_heap w.params,Qo [],boot_drawn,boot_toks,os⟩ (topStub TP))=λos=>some (⟨zeg w.params,Qo [],{},187,os⟩,Thread.mk (TWdenote TWtable cE) cE ⟨0,0,0,0⟩ [topFrame fp]):=by kernel_rfl
theorem zhP (w:World):(λos=>TWsegRun TWtable TP w 11 ann0 1 1 ⟨zeg w.params,Qo [],{},187,os⟩ (blockOf stsAll env0 cE ⟨0,0,0,0⟩ [topFrame fp]))=λos=>some (Flow.next,Wn (Jm (tr0 w.params) 15 {} (Qo []) {} 187 os),cE,⟨0,0,0,0⟩):=by kernel_rfl
theorem zha (w:World):(λos=>TWsegRunT TWtable TP w 11 ann0 1 485 (Jm (tr0 w.params) 15 {} (Qo []) {} 187 os) (piecesOf sts1 env0 cE ⟨0,0,0,0⟩ [topFrame fp]))=λos=>some (Flow.next,(Jm (tr1 w.params) 84 {} (Qo []) {} 279 os),cE,⟨44,0,44,8⟩):=by kernel_rfl
theorem zg9 (w:World):(λos=>TWsegRunT TWtable TP w 11 ann0 1 530 (Jm (tr1 w.params) 84 {} (Qo []) {} 279 os) (piecesOf sts2 env0 cE ⟨44,0,44,8⟩ [topFrame fp]))=λos=>some (Flow.next,(Jm (tr2 w.params) 161 {} (Qo []) {} 383 os),cE,⟨45,0,79,41⟩):=by kernel_rfl
theorem zg8 (w:World):(λos=>TWsegRunT TWtable TP w 11 ann0 1 529 (Jm (tr2 w.params) 161 {} (Qo []) {} 383 os) (piecesOf sts3 env0 cE ⟨45,0,79,41⟩ [topFrame fp]))=λos=>some (Flow.next,(Jm (tr3 w.params) 238 {} (Qo []) {} 486 os),cE,⟨80,0,124,30⟩):=by kernel_rfl
theorem zg7 (w:World):(λos=>TWsegRunT TWtable TP w 11 ann0 1 560 (Jm (tr3 w.params) 238 {} (Qo []) {} 486 os) (piecesOf sts4 env0 cE ⟨80,0,124,30⟩ [topFrame fp]))=λos=>some (Flow.next,(Jm (tr4 w.params) 322 {} (Qo []) {} 598 os),cE,⟨162,0,165,12⟩):=by kernel_rfl
theorem zg6 (w:World):(λos=>TWsegRunT TWtable TP w 11 ann0 1 541 (Jm (tr4 w.params) 322 {} (Qo []) {} 598 os) (piecesOf sts5 env0 cE ⟨162,0,165,12⟩ [topFrame fp]))=λos=>some (Flow.next,(Jm (tr5 w.params) 401 {} (Qo []) {} 707 os),cE,⟨166,0,207,70⟩):=by kernel_rfl
theorem zg5 (w:World):(λos=>TWsegRunT TWtable TP w 11 ann0 1 393 (Jm (tr5 w.params) 401 {} (Qo []) {} 707 os) (piecesOf sts6 env0 cE ⟨166,0,207,70⟩ [topFrame fp]))=λos=>some (Flow.next,(Jm (tr6 w.params) 448 {} (Qo []) {} 769 os),cE,⟨228,0,230,29⟩):=by kernel_rfl
theorem zg4 (w:World):(λos=>TWsegRunT TWtable TP w 11 ann0 1 331 (Jm (tr6 w.params) 448 {} (Qo []) {} 769 os) (piecesOf sts7 env0 cE ⟨228,0,230,29⟩ [topFrame fp]))=λos=>some (Flow.next,(Jm (tr7 w.params) 467 {} (Qo []) {} 785 os),cE,⟨240,0,240,3⟩):=by kernel_rfl
theorem zg3 (w:World):(λos=>TWsegRunT TWtable TP w 11 ann0 1 291 (Jm (tr7 w.params) 467 {} (Qo []) {} 785 os) (piecesOf sts8 env0 cE ⟨240,0,240,3⟩ [topFrame fp]))=λos=>some (Flow.next,(Jm (tr8 w.params) 502 {} (Qo []) {} 834 os),cE,⟨241,0,253,17⟩):=by kernel_rfl
theorem zg2 (w:World):(λos=>TWsegRunT TWtable TP w 11 ann0 1 718 (Jm (tr8 w.params) 502 {} (Qo []) {} 834 os) (piecesOf sts9 env0 cE ⟨241,0,253,17⟩ [topFrame fp]))=λos=>some (Flow.next,(Jm (tr9 w.params) 628 {} (Qo []) {} 990 os),cE,⟨254,0,329,17⟩):=by kernel_rfl
theorem zfo (w:World):(λos=>TWsegRunT TWtable TP w 11 ann0 1 598 (Jm (tr9 w.params) 628 {} (Qo []) {} 990 os) (piecesOf sts10 env0 cE ⟨254,0,329,17⟩ [topFrame fp]))=λos=>some (Flow.next,(Jm (tr10 w.params) 744 {} (Qo []) {} 1166 os),cE,⟨474,0,477,65⟩):=by kernel_rfl
theorem zfn (w:World):(λos=>TWsegRunT TWtable TP w 11 ann0 1 184 (Jm (tr10 w.params) 744 {} (Qo []) {} 1166 os) (piecesOf sts11 env0 cE ⟨474,0,477,65⟩ [topFrame fp]))=λos=>some (Flow.next,(Jm (tr11 w.params) 779 {} (Qo []) {} 1232 os),cE,⟨511,0,526,15⟩):=by kernel_rfl
theorem zhI (w:World):(λos=>TWtopRun TWtable TP w 11 ann0 2 (Wn (Jm (tr11 w.params) 779 {} (Qo []) {} 1232 os)) (Thread.mk (doneF Flow.next) cE ⟨511,0,526,15⟩ [topFrame fp]))=λos=>some (⟨jP w.params,Qo [],{},1232,os⟩):=by kernel_rfl
abbrev steps0:Nat:=(12+(1+(485+(530+(529+(560+(541+(393+(331+(291+(718+(598+(184+2)))))))))))))
theorem zih (w:World) (os:OsState):topRun treeTable TP w 11 ann0 steps0 ⟨boot_heap w.params,Qo [],boot_drawn,boot_toks,os⟩ (topStub TP)=some ⟨jP w.params,Qo [],{},1232,os⟩:=
 go_top (by have h:=congrFun (zg0 w) os;rw [<-Fast_topGo,<-Fast_table,<-Fast_denote] at h;exact h) (piece_block (by have h:=congrFun (zhP w) os;rw [<-Fast_segRun,<-Fast_table] at h;exact h) (piece_app (segRun_of (by have h:=congrFun (zha w) os;rw [<-Fast_segRunT,<-Fast_table] at h;exact h)) (piece_app (segRun_of (by have h:=congrFun (zg9 w) os;rw [<-Fast_segRunT,<-Fast_table] at h;exact h)) (piece_app (segRun_of (by have h:=congrFun (zg8 w) os;rw [<-Fast_segRunT,<-Fast_table] at h;exact h)) (piece_app (segRun_of (by have h:=congrFun (zg7 w) os;rw [<-Fast_segRunT,<-Fast_table] at h;exact h)) (piece_app (segRun_of (by have h:=congrFun (zg6 w) os;rw [<-Fast_segRunT,<-Fast_table] at h;exact h)) (piece_app (segRun_of (by have h:=congrFun (zg5 w) os;rw [<-Fast_segRunT,<-Fast_table] at h;exact h)) (piece_app (segRun_of (by have h:=congrFun (zg4 w) os;rw [<-Fast_segRunT,<-Fast_table] at h;exact h)) (piece_app (segRun_of (by have h:=congrFun (zg3 w) os;rw [<-Fast_segRunT,<-Fast_table] at h;exact h)) (piece_app (segRun_of (by have h:=congrFun (zg2 w) os;rw [<-Fast_segRunT,<-Fast_table] at h;exact h)) (piece_app (segRun_of (by have h:=congrFun (zfo w) os;rw [<-Fast_segRunT,<-Fast_table] at h;exact h)) (piece_app (segRun_of (by have h:=congrFun (zfn w) os;rw [<-Fast_segRunT,<-Fast_table] at h;exact h)) (by have h:=congrFun (zhI w) os;rw [<-Fast_topRun,<-Fast_table] at h;exact h)))))))))))))
def KK (P:Params):Frag:=XK P [(0,[o485,o486,o487,o463,o488,o489,o280,o0,o1,o490,o491,o0,o464,o2,o3,o0,o1,o6,o0,o7,o8,o9,o10]),(29,[o0,o15,o16,o17]),(35,[o0,o1,o20,o0,o21,o22,o23,o0,o1,o24,o0,o25,o26,o27,o0,o1,o28,o0,o29,o30,o31,o0,o1,o32,o0,o33,o34,o35,o0,o1,o36,o0,o37,o38,o39,o0,o1,o40,o0,o41,o42,o43,o0,o1,o44,o0,o45,o46,o47]),(91,[o0,o1,o54,o0,o55,o56,o57,o0,o1,o58,o0,o59,o60,o61,o0,o1,o62,o0,o63,o64,o65,o0,o1,o66,o0,o67,o68,o69,o0,o1,o70,o0,o71,o72,o73,o0,o1,o74,o0,o75,o76,o77,o0,o1,o78,o0,o79,o80,o81,o0,o1,o82,o0,o83,o84,o85,o0,o1,o86,o0,o87,o88,o89,o0,o90,o91,o92,o93]),(168,[o0,o1,o102,o0,o103,o104,o105,o0,o1,o106,o0,o107,o108,o109,o0,o1,o110,o0,o111,o112,o113,o0,o1,o114,o0,o115,o116,o117,o0,o1,o118,o0,o119,o120,o121,o0,o1,o122,o0,o123,o124,o125,o0,o1,o126,o0,o127,o128,o129,o0,o1,o130,o0,o131,o132,o133,o0,o1,o134,o0,o135,o136,o137,o0,o138,o139,o140,o141]),(245,[o0,o1,o150,o0,o151,o152,o153,o0,o1,o154,o0,o155,o156,o157,o0,o1,o158,o0,o159,o160,o161,o0,o1,o162,o0,o163,o164,o165,o0,o1,o166,o0,o167,o168,o169,o0,o1,o170,o0,o171,o172,o173,o0,o1,o174,o0,o175,o176,o177,o0,o1,o178,o0,o179,o180,o181,o0,o1,o182,o0,o183,o184,o185,o0,o186,o187,o188,o189]),(315,[o0,o1,o192,o0,o193,o194,o195]),(329,[o202,o203,o0,o1,o204,o0,o205,o206,o207,o0,o1,o208,o0,o209,o210,o211,o0,o1,o212,o0,o213,o214,o215,o0,o1,o216,o0,o217,o218,o219,o0,o1,o220,o0,o221,o222,o223,o0,o1,o224,o0,o225,o226,o227,o0,o1,o228,o0,o229,o230,o231,o0,o1,o232,o0,o233,o234,o235,o0,o1,o236,o0,o237,o238,o239,o0,o240,o248,o242,o243]),(401,[o249]),(408,[o0,o1,o254,o0,o255,o256,o257,o0,o1,o258,o0,o259,o260,o261,o0,o1,o262,o0,o263,o264,o265,o0,o1,o266,o0,o267,o268,o269,o0,o270,o271]),(441,[o0,o1,o274,o0,o275,o276,o277,o280,o281,o280,o282,o280,o283,o280,o284,o280,o285,o286,o0,o1,o287,o0,o288,o289,o290,o291]),(474,[o0,o1,o298,o0,o299,o300,o301,o0,o1,o302,o0,o303,o304,o305,o0,o1,o306,o0,o307,o308,o309,o310,o311,o312,o313,o314]),(509,[o0,o1,o323,o0,o324,o325,o326,o0,o1,o327,o0,o328,o329,o330,o0,o1,o331,o0,o332,o333,o334,o0,o1,o335,o336,o337,o0,o1,o338,o0,o339,o340,o341,o0,o1,o342,o0,o343,o344,o345,o0,o1,o346,o0,o347,o348,o349,o350,o0,o1,o351,o0,o352,o353,o354,o350,o0,o1,o355,o0,o356,o357,o358,o0,o1,o359,o0,o360,o361,o362,o0,o1,o363,o0,o364,o365,o366,o0,o1,o367,o0,o368,o369,o370,o0,o1,o371,o0,o372,o373,o374,o0,o1,o375,o0,o376,o377,o378,o0,o1,o379,o0,o380,o381,o382,o0,o1,o383,o0,o384,o385,o386,o387,o388,o389,o390,o391]),(628,[o0,o1,o396,o0,o397,o398,o399,o0,o1,o400,o401,o402,o0,o1,o403,o404,o405,o0,o1,o406,o407,o408,o0,o1,o409,o0,o410,o411,o412,o0,o1,o413,o0,o414,o415,o416,o0,o1,o417,o0,o418,o419,o420,o0,o1,o421,o0,o422,o423,o424,o0,o1,o425,o426,o427,o0,o1,o428,o0,o429,o430,o431,o0,o1,o432,o433,o434,o0,o1,o435,o0,o436,o437,o438,o0,o1,o439,o0,o440,o441,o442,o0,o1,o443,o0,o444,o445,o446,o0,o1,o447,o0,o448,o449,o450,o0,o1,o451,o0,o452,o453,o454,o0,o1,o455,o0,o456,o457,o458,o0,o1,o459,o0,o460,o461,o462,o0,o1,o465,o0,o466,o467,o468,o0,o1,o469,o0,o470,o471,o472,o0,o1,o473,o0,o474,o475,o476,o0,o1,o477,o0,o478,o479,o480,o0,o1,o481,o0,o482,o483,o484])]
def as0:List Addr:=QR 0 23++(QR 29 4++(QR 35 49++(QR 91 68++(QR 168 68++(QR 245 68++(QR 315 7++(QR 329 70++([401]++(QR 408 31++(QR 441 26++(QR 474 26++(QR 509 117++(QR 628 151)))))))))))))
abbrev size0:Nat:=779
abbrev toksZ:Nat:=1232
abbrev m00:Nat:=11
abbrev TSt:=PySem.W.Fast.tw13471830651028734593
theorem eSt: @staticsOk=TSt:=PySem.W.Fast.te13471830651028734593
abbrev TNb:=PySem.W.Fast.tw4683006035507612052
theorem eNb: @namesBound=TNb:=PySem.W.Fast.te4683006035507612052
abbrev TLk:=PySem.W.Fast.tw16898566250750103049
theorem eLk: @laidKept=TLk:=PySem.W.Fast.te16898566250750103049
abbrev TXl:=PySem.W.Fast.tw4757257242682413121
theorem eXl: @xlAt=TXl:=PySem.W.Fast.te4757257242682413121
abbrev TRo:=PySem.W.Fast.tw6483871617321286689
theorem eRo: @recOk=TRo:=PySem.W.Fast.te6483871617321286689
abbrev TOg:=PySem.W.Fast.tw3486900944545009338
theorem eOg: @openGood=TOg:=PySem.W.Fast.te3486900944545009338
abbrev TIm:=PySem.W.Fast.tw5923862056798008813
theorem eIm: @importedModules=TIm:=PySem.W.Fast.te5923862056798008813
abbrev TOs:=PySem.W.Fast.tw4187177175401517315
theorem eOs: @openSeen=TOs:=PySem.W.Fast.te4187177175401517315
def qOf (p:Program):Program:= {p with main:= {p.main with body:=dropS 58 p.main.body} }
abbrev qv:Program:=qOf TP
def loose0:List PySem.Str:=(takeS 58 TP.main.body).flatMap λs=>match s with
 | .FunctionDef n .. => [n] | .ClassDef n .. => [n] | .Assign [.Name n ..] .. =>if n==⟨#[95,95,110,97,109,101,95,95]⟩ then [] else [n] |_=> []
abbrev NN:Nat:=7000
theorem keys0: ∀P,as0=(KK P).map (·.1):=λP=>by kernel_rfl
theorem facts1 {w:World}{s t:Shared} (y:obsZ as0 s=valZ KK size0 toksZ w) (k: ∀b o,s.heap.get? b=some o->t.heap.get? b=some o):Frag.In (KK w.params) t.heap/\s.heap.objs.size=nat_lit 779/\s.toks=nat_lit 1232:=
 ⟨InK.keeps w s.heap t.heap (z_facts keys0 y).2.1 k,(z_facts keys0 y).2.2.1,(z_facts keys0 y).2.2.2⟩
theorem d_open: ∀w:World,(fencedOpening treeTable TP w NN).map (λs=>(s.heap,s.gens,s.drawn,s.toks))=some (boot_heap w.params,Qo [],boot_drawn,boot_toks):=
 boot_open (p:=TP) (N:=NN) (by kernel_rfl) (by decide) (λs=>by rfl)
theorem d_size : ∀ w : World,((boot_heap w.params).isNs mainGlobals && (Qo [] : Array GenState).size == 0,(boot_heap w.params).objs.size,(boot_heap w.params).nsMap mainGlobals "__annotations__") = (true,11,ann0) := λw => by kernel_rfl
def XtT (s:Shared):Bool:=TXl qv [] s && TRo [] s
theorem zhr (w:World):(λos:OsState=>(TSt (TIm TP.main.body) (boot_heap w.params) (jP w.params) && TNb TP (jP w.params) && gensDone ⟨jP w.params,Qo [],{},toksZ,os⟩ && TLk (boot_heap w.params) (jP w.params)))=λ_=>true:=by kernel_rfl
theorem zhp (w:World):(λos:OsState=>obsZ as0 ⟨jP w.params,Qo [],{},toksZ,os⟩)=λ_=>valZ KK size0 toksZ w:=by kernel_rfl
theorem zhq (w:World):(λos:OsState=>TOs qv loose0 (TIm TP.main.body) XtT true ⟨jP w.params,Qo [],{},toksZ,os⟩)=λ_=>TOg qv loose0:=by kernel_rfl
theorem eXt:XtT=λs=>xlAt qv [] s && recOk [] s:=by unfold XtT;rw [eXl,eRo]
abbrev pw:Program:=ZO
theorem left0:LeftO pw (qOf pw) loose0 (λs=>xlAt (qOf pw) [] s && recOk [] s) (obsZ as0) (valZ KK size0 toksZ) NN:=by
 rw [show pw=TP from tePw];refine LeftO.of_pieces (g0:=true) d_open d_size zih (by decide) (λw=>?_);have h1:=zhr w;have h2:=zhq w;have h3:=zhp w;rw [<-eSt,<-eIm,<-eNb,<-eLk] at h1;rw [<-eOs,<-eIm,<-eOg,eXt] at h2
 funext os
 exact Xs (congrFun h1 os) (Xs (congrFun h2 os) (congrFun h3 os))
abbrev QQ (s₀ s₁:Shared) (ns:List Int):Value->Shared->Prop:=λv s'=>GoodWG JB.row.claim (classAt s₀.heap) (ExcName.means s₀.heap) [ofPy (Ke (KW Ku ns))] s₁ (.ok (.ret v)) s'
abbrev EE (s₀ s₁:Shared) (ns:List Int):Value->Shared->Prop:=λe s'=>GoodWG JB.row.claim (classAt s₀.heap) (ExcName.means s₀.heap) [ofPy (Ke (KW Ku ns))] s₁ (.error e) s'
theorem small {p:Program}{w:World}{A:Around}{t:Sem Value}{s₀ s₁ s:Shared}{ns:List Int} (h:wpAny (model p w) A t (QQ s₀ s₁ ns) (EE s₀ s₁ ns) s):
  wpAny (model p w) A t (λv s'=>GoodWG JB.row.claim (classAt s₀.heap) (ExcName.means s₀.heap) [ofPy (Ke (KW Ku ns))] s₁ (.ok (.ret v)) s')
   (λe s'=>GoodWG JB.row.claim (classAt s₀.heap) (ExcName.means s₀.heap) [ofPy (Ke (KW Ku ns))] s₁ (.error e) s') s:=h
end Tactic
namespace Tactic
open Internal
def gl0:List (PySem.Str×Val):= [(Qj (Qo [77,65,82,75,83]),(Val.str [32,9,10,58,47,95,91,93,62,35,59,63,61])),(Qj (Qo [108,101,110]),(Val.bi 7103854)),(Qj (Qo [115,116,114]),(Val.ty 7566450)),(Qj (Qo [116,121,112,101]),(Val.ty 1954115685)),(Qj (Qo [77,97,99,104,105,110,101,69,114,114,111,114]),(Val.top 100)),(Qj (Qo [105,115,95,108,101,116,116,101,114]),(Val.top 101)),(Qj (Qo [115,104,111,119,110]),(Val.top 102)),(Qj (Qo [110,101,101,100,95,108,101,116,116,101,114]),(Val.top 103)),(Qj (Qo [105,110,116]),(Val.ty 6909556)),(Qj (Qo [109,97,120]),(Val.bi 7168376)),(Qj (Qo [109,105,110]),(Val.bi 7170414)),(Qj (Qo [71,82,69,65,84,69,83,84]),(Val.int (10 ^ 4000))),(Qj (Qo [95,103,99,100]),(Val.top 109)),(Qj (Qo [116,117,112,108,101]),(Val.ty 500186508389)),(Qj (Qo [102,114,97,99,116,105,111,110]),(Val.top 110)),(Qj (Qo [67,104,97,110,99,101]),(Val.top 111)),(Qj (Qo [82,73,78,71,83]),(Val.fl [(Val.top 112),(Val.top 113),(Val.top 114),(Val.top 115),(Val.top 116)])),(Qj (Qo [119,101,105,103,104,116]),(Val.top 106)),(Qj (Qo [114,105,110,103]),(Val.top 105)),(Qj (Qo [77,79,83,84,95,83,84,65,84,69,83]),(Val.int 20000)),(Qj (Qo [114,97,110,103,101]),(Val.ty 491260897125)),(Qj (Qo [110,101,101,100,95,99,111,117,110,116]),(Val.top 117)),(Qj (Qo [65,114,99]),(Val.top 118)),(Qj (Qo [77,79,83,84,95,65,82,67,83]),(Val.int 200000)),(Qj (Qo [110,101,101,100,95,108,97,98,101,108]),(Val.top 119)),(Qj (Qo [79,78,69]),(Val.top 120)),(Qj (Qo [77,97,99,104,105,110,101]),(Val.top 121)),(Qj (Qo [95,98,97,99,107,119,97,114,100]),(Val.top 123)),(Qj (Qo [95,109,101,116]),(Val.top 124)),(Qj (Qo [95,111,110,119,97,114,100]),(Val.top 125)),(Qj (Qo [108,105,115,116]),(Val.ty 1818850164)),(Qj (Qo [95,110,101,101,100,95,97,108,105,107,101]),(Val.top 179)),(Qj (Qo [97,100,100,95,116,111]),(Val.top 122)),(Qj (Qo [95,106,111,105,110,101,100]),(Val.top 180)),(Qj (Qo [77,79,83,84]),(Val.int 2000)),(Qj (Qo [97,100,100]),(Val.top 104)),(Qj (Qo [100,105,99,116]),(Val.ty 1684628340)),(Qj (Qo [115,111,114,116,101,100]),(Val.bi 126922498794852)),(Qj (Qo [115,116,97,114]),(Val.top 107)),(Qj (Qo [116,97,98,108,101]),(Val.top 108)),(Qj (Qo [95,97,100,100]),(Val.top 126)),(Qj (Qo [95,101,110,100,101,100]),(Val.top 127)),(Qj (Qo [95,102,105,114,115,116]),(Val.top 128)),(Qj (Qo [95,102,105,116,115]),(Val.top 129)),(Qj (Qo [95,110,101,101,100,95,115,104,111,114,116]),(Val.top 130)),(Qj (Qo [101,109,112,116,121,95,115,116,97,114]),(Val.top 131)),(Qj (Qo [114,111,119,95,116,105,109,101,115]),(Val.top 132)),(Qj (Qo [116,114,105,109]),(Val.top 133)),(Qj (Qo [76,79,78,71,69,83,84]),(Val.int 200)),(Qj (Qo [110,101,101,100,95,119,111,114,100]),(Val.top 134)),(Qj (Qo [95,108,97,119,95,99,101,108,108]),(Val.top 137)),(Qj (Qo [95,108,97,119,95,119,101,105,103,104,116,115]),(Val.top 138)),(Qj (Qo [95,108,97,119,95,109,97,99,104,105,110,101]),(Val.top 139)),(Qj (Qo [98,101,104,105,110,100]),(Val.top 189))]
def bd_errors_is_letter:List Sm:= [.ret (.bop false [.cmp .is (.call (.lit (.ty 1954115685)) [.var 0]) (.lit (.ty 7566450)),.cmp .eq (.call (.lit (.bi 7103854)) [.var 0]) (.lit (.int 1)),.cmp .notin (.var 0) (.lit (.str [32,9,10,58,47,95,91,93,62,35,59,63,61])),.not (.meth (.var 0) 29681812198482789 [])])]
def fn_errors_is_letter:Fn:=⟨101,1,[],7,bd_errors_is_letter⟩
def bd_errors_need_letter:List Sm:= [.ite (.not (.call (.lit (.top 101)) [.var 0])) [.raise] [],.ret (.var 0)]
def fn_errors_need_letter:Fn:=⟨103,1,[],7,bd_errors_need_letter⟩
def bd_errors_need_label:List Sm:= [.ite (.cmp .ne (.var 0) (.lit (.str []))) [.expr (.call (.lit (.top 103)) [.var 0])] [],.ret (.var 0)]
def fn_errors_need_label:Fn:=⟨119,1,[],7,bd_errors_need_label⟩
def bd_errors_need_word:List Sm:= [.ite (.cmp .isnot (.call (.lit (.ty 1954115685)) [.var 0]) (.lit (.ty 7566450))) [.raise] [],.fo [1] false (.var 0) [.expr (.call (.lit (.top 103)) [.var 1])],.ret (.var 0)]
def fn_errors_need_word:Fn:=⟨134,1,[],8,bd_errors_need_word⟩
def bd_errors_need_count:List Sm:= [.ite (.bop true [.cmp .isnot (.call (.lit (.ty 1954115685)) [.var 0]) (.lit (.ty 6909556)),.cmp .lt (.var 0) (.var 1),.cmp .gt (.var 0) (.var 2)]) [.raise] [],.ret (.var 0)]
def fn_errors_need_count:Fn:=⟨117,4,[],10,bd_errors_need_count⟩
def bd_Yes_need:List Sm:= [.ite (.bop true [.cmp .isnot (.call (.lit (.ty 1954115685)) [.var 1]) (.lit (.ty 6909556)),.cmp .lt (.var 1) (.lit (.int 0)),.cmp .gt (.var 1) (.lit (.int 1))]) [.raise] [],.ret (.var 1)]
def fn_Yes_need:Fn:=⟨142,2,[],8,bd_Yes_need⟩
def bd_Yes_plus:List Sm:= [.ret (.call (.lit (.bi 7168376)) [.var 1,.var 2])]
def fn_Yes_plus:Fn:=⟨143,3,[],9,bd_Yes_plus⟩
def bd_Yes_times:List Sm:= [.ret (.call (.lit (.bi 7170414)) [.var 1,.var 2])]
def fn_Yes_times:Fn:=⟨144,3,[],9,bd_Yes_times⟩
def bd_Yes_star:List Sm:= [.ret (.lit (.int 1))]
def fn_Yes_star:Fn:=⟨145,2,[],8,bd_Yes_star⟩
def bd_Least_need:List Sm:= [.ite (.bop false [.cmp .isnot (.var 1) (.lit .none),.bop true [.cmp .isnot (.call (.lit (.ty 1954115685)) [.var 1]) (.lit (.ty 6909556)),.cmp .lt (.var 1) (.lit (.int 0)),.cmp .ge (.var 1) (.lit (.int (10 ^ 4000)))]]) [.raise] [],.ret (.var 1)]
def fn_Least_need:Fn:=⟨147,2,[],8,bd_Least_need⟩
def bd_Least_plus:List Sm:= [.ite (.cmp .is (.var 1) (.lit .none)) [.ret (.var 2)] [],.ite (.cmp .is (.var 2) (.lit .none)) [.ret (.var 1)] [],.ret (.call (.lit (.bi 7170414)) [.var 1,.var 2])]
def fn_Least_plus:Fn:=⟨148,3,[],9,bd_Least_plus⟩
def bd_Least_times:List Sm:= [.ite (.bop true [.cmp .is (.var 1) (.lit .none),.cmp .is (.var 2) (.lit .none)]) [.ret (.lit .none)] [],.ret (.bin .add (.var 1) (.var 2))]
def fn_Least_times:Fn:=⟨149,3,[],9,bd_Least_times⟩
def bd_Least_star:List Sm:= [.ret (.lit (.int 0))]
def fn_Least_star:Fn:=⟨150,2,[],8,bd_Least_star⟩
def bd_Count_need:List Sm:= [.ite (.bop true [.cmp .isnot (.call (.lit (.ty 1954115685)) [.var 1]) (.lit (.ty 6909556)),.cmp .lt (.var 1) (.lit (.int 0)),.cmp .ge (.var 1) (.lit (.int (10 ^ 4000)))]) [.raise] [],.ret (.var 1)]
def fn_Count_need:Fn:=⟨152,2,[],8,bd_Count_need⟩
def bd_Count_plus:List Sm:= [.ret (.bin .add (.var 1) (.var 2))]
def fn_Count_plus:Fn:=⟨153,3,[],9,bd_Count_plus⟩
def bd_Count_times:List Sm:= [.ret (.bin .mul (.var 1) (.var 2))]
def fn_Count_times:Fn:=⟨154,3,[],9,bd_Count_times⟩
def bd_Count_star:List Sm:= [.ite (.cmp .ne (.var 1) (.lit (.int 0))) [.raise] [],.ret (.lit (.int 1))]
def fn_Count_star:Fn:=⟨155,2,[],8,bd_Count_star⟩
def bd_rings__gcd:List Sm:= [.wh (.cmp .gt (.var 1) (.lit (.int 0))) [.asgs [.nm 0,.nm 1] (.tup [.var 1,.bin .mod (.var 0) (.var 1)])],.ret (.var 0)]
def fn_rings__gcd:Fn:=⟨109,2,[],8,bd_rings__gcd⟩
def bd_Chance_need:List Sm:= [.ite (.bop true [.cmp .isnot (.call (.lit (.ty 1954115685)) [.var 1]) (.lit (.ty 500186508389)),.cmp .ne (.call (.lit (.bi 7103854)) [.var 1]) (.lit (.int 2)),.cmp .isnot (.call (.lit (.ty 1954115685)) [.sub (.var 1) (.lit (.int 0))]) (.lit (.ty 6909556)),.cmp .isnot (.call (.lit (.ty 1954115685)) [.sub (.var 1) (.lit (.int 1))]) (.lit (.ty 6909556))]) [.raise] [],.ite (.bop true [.cmp .lt (.sub (.var 1) (.lit (.int 0))) (.lit (.int 0)),.cmp .lt (.sub (.var 1) (.lit (.int 1))) (.lit (.int 1)),.cmp .ge (.sub (.var 1) (.lit (.int 0))) (.lit (.int (10 ^ 4000))),.cmp .ge (.sub (.var 1) (.lit (.int 1))) (.lit (.int (10 ^ 4000))),.cmp .ne (.call (.lit (.top 109)) [.sub (.var 1) (.lit (.int 1)),.sub (.var 1) (.lit (.int 0))]) (.lit (.int 1))]) [.raise] [],.ret (.var 1)]
def fn_Chance_need:Fn:=⟨157,2,[],8,bd_Chance_need⟩
def bd_Chance_plus:List Sm:= [.ret (.call (.lit (.top 110)) [.bin .add (.bin .mul (.sub (.var 1) (.lit (.int 0))) (.sub (.var 2) (.lit (.int 1)))) (.bin .mul (.sub (.var 2) (.lit (.int 0))) (.sub (.var 1) (.lit (.int 1)))),.bin .mul (.sub (.var 1) (.lit (.int 1))) (.sub (.var 2) (.lit (.int 1)))])]
def fn_Chance_plus:Fn:=⟨158,3,[],9,bd_Chance_plus⟩
def bd_Chance_times:List Sm:= [.ret (.call (.lit (.top 110)) [.bin .mul (.sub (.var 1) (.lit (.int 0))) (.sub (.var 2) (.lit (.int 0))),.bin .mul (.sub (.var 1) (.lit (.int 1))) (.sub (.var 2) (.lit (.int 1)))])]
def fn_Chance_times:Fn:=⟨159,3,[],9,bd_Chance_times⟩
def bd_Chance_star:List Sm:= [.ite (.cmp .ge (.sub (.var 1) (.lit (.int 0))) (.sub (.var 1) (.lit (.int 1)))) [.raise] [],.ret (.call (.lit (.top 110)) [.sub (.var 1) (.lit (.int 1)),.bin .sub (.sub (.var 1) (.lit (.int 1))) (.sub (.var 1) (.lit (.int 0)))])]
def fn_Chance_star:Fn:=⟨160,2,[],8,bd_Chance_star⟩
def bd_Likely_need:List Sm:= [.expr (.meth (.lit (.top 111)) 1852138852 [.var 0,.var 1]),.ite (.cmp .gt (.sub (.var 1) (.lit (.int 0))) (.sub (.var 1) (.lit (.int 1)))) [.raise] [],.ret (.var 1)]
def fn_Likely_need:Fn:=⟨161,2,[],8,bd_Likely_need⟩
def bd_Likely_plus:List Sm:= [.ite (.cmp .lt (.bin .mul (.sub (.var 1) (.lit (.int 0))) (.sub (.var 2) (.lit (.int 1)))) (.bin .mul (.sub (.var 2) (.lit (.int 0))) (.sub (.var 1) (.lit (.int 1))))) [.ret (.var 2)] [],.ret (.var 1)]
def fn_Likely_plus:Fn:=⟨162,3,[],9,bd_Likely_plus⟩
def bd_Likely_star:List Sm:= [.ret (.attr (.var 0) 7302757)]
def fn_Likely_star:Fn:=⟨163,2,[],8,bd_Likely_star⟩
def bd_rings_fraction:List Sm:= [.asg (.nm 2) (.call (.lit (.top 109)) [.var 1,.var 0]),.ret (.tup [.bin .fdiv (.var 0) (.var 2),.bin .fdiv (.var 1) (.var 2)])]
def fn_rings_fraction:Fn:=⟨110,2,[],9,bd_rings_fraction⟩
def bd_rings_ring:List Sm:= [.fo [1] false (.lit (.fl [.top 112,.top 113,.top 114,.top 115,.top 116])) [.ite (.cmp .eq (.attr (.var 1) 1851878757) (.var 0)) [.ret (.var 1)] []],.raise]
def fn_rings_ring:Fn:=⟨105,1,[],8,bd_rings_ring⟩
def bd_Arc_init:List Sm:= [.asg (.at (.var 0) 504397587826) (.var 1),.asg (.at (.var 0) 465726563698) (.var 2),.asg (.at (.var 0) 131277443786868) (.var 3),.asg (.at (.var 0) 127961880028532) (.var 4)]
def fn_Arc_init:Fn:=⟨166,5,[],11,bd_Arc_init⟩
def bd_Arc_is_empty:List Sm:= [.ret (.bop false [.cmp .eq (.attr (.var 0) 504397587826) (.lit (.str [])),.cmp .eq (.attr (.var 0) 465726563698) (.lit (.str []))])]
def fn_Arc_is_empty:Fn:=⟨165,1,[],7,bd_Arc_is_empty⟩
def bd_Machine_init:List Sm:= [.asg (.at (.var 0) 1919512167) (.var 1),.asg (.at (.var 0) 1634886515) (.list []),.asg (.at (.var 0) 1701733491) (.list []),.asg (.at (.var 0) 495873782388) (.lit (.int 0)),.asg (.at (.var 0) 439855772532) (.attr (.var 1) 7302757),.asg (.at (.var 0) 104880676367988) (.lit (.int 0))]
def fn_Machine_init:Fn:=⟨177,2,[],8,bd_Machine_init⟩
def bd_Machine__need_room:List Sm:= [.ite (.cmp .gt (.bin .add (.call (.lit (.bi 7103854)) [.attr (.var 0) 1634886515]) (.var 1)) (.lit (.int 20000))) [.raise] []]
def fn_Machine__need_room:Fn:=⟨167,2,[],8,bd_Machine__need_room⟩
def bd_Machine_state:List Sm:= [.expr (.meth (.var 0) 450661264077055929053037 [.lit (.int 1)]),.expr (.meth (.attr (.var 0) 1634886515) 107135549927012 [.list []]),.expr (.meth (.attr (.var 0) 1701733491) 107135549927012 [.attr (.attr (.var 0) 1919512167) 121424990136436]),.ret (.bin .sub (.call (.lit (.bi 7103854)) [.attr (.var 0) 1634886515]) (.lit (.int 1)))]
def fn_Machine_state:Fn:=⟨168,1,[],7,bd_Machine_state⟩
def bd_Machine_states:List Sm:= [.expr (.meth (.var 0) 450661264077055929053037 [.var 1]),.ret (.comp (.meth (.var 0) 495873782885 []) [2] false (.call (.lit (.ty 491260897125)) [.var 1]) [])]
def fn_Machine_states:Fn:=⟨169,2,[],8,bd_Machine_states⟩
def bd_Machine_need_state:List Sm:= [.ret (.call (.lit (.top 117)) [.var 1,.lit (.int 0),.bin .sub (.call (.lit (.bi 7103854)) [.attr (.var 0) 1634886515]) (.lit (.int 1)),.lit (.str [115,116,97,116,101])])]
def fn_Machine_need_state:Fn:=⟨170,2,[],8,bd_Machine_need_state⟩
def bd_Machine_arc:List Sm:= [.expr (.meth (.var 0) 521330740336550618428517 [.var 1]),.expr (.meth (.var 0) 521330740336550618428517 [.var 5]),.expr (.call (.lit (.top 119)) [.var 2]),.expr (.call (.lit (.top 119)) [.var 3]),.expr (.meth (.attr (.var 0) 1919512167) 1852138852 [.var 4]),.ite (.cmp .eq (.var 4) (.attr (.attr (.var 0) 1919512167) 121424990136436)) [.ret (.lit .none)] [],.ite (.cmp .ge (.attr (.var 0) 104880676367988) (.lit (.int 200000))) [.raise] [],.asg (.at (.var 0) 104880676367988) (.bin .add (.attr (.var 0) 104880676367988) (.lit (.int 1))),.expr (.meth (.sub (.attr (.var 0) 1634886515) (.var 1)) 107135549927012 [.call (.lit (.top 118)) [.var 2,.var 3,.var 4,.var 5]])]
def fn_Machine_arc:Fn:=⟨171,6,[],12,bd_Machine_arc⟩
def bd_Machine_begin:List Sm:= [.expr (.meth (.var 0) 521330740336550618428517 [.var 1]),.asg (.at (.var 0) 439855772532) (.ite (.cmp .is (.var 2) (.lit (.top 120))) (.attr (.attr (.var 0) 1919512167) 7302757) (.meth (.attr (.var 0) 1919512167) 1852138852 [.var 2])),.asg (.at (.var 0) 495873782388) (.var 1)]
def fn_Machine_begin:Fn:=⟨172,3,[(Val.top 120)],9,bd_Machine_begin⟩
def bd_Machine_end:List Sm:= [.expr (.meth (.var 0) 521330740336550618428517 [.var 1]),.asg (.sb (.attr (.var 0) 1701733491) (.var 1)) (.ite (.cmp .is (.var 2) (.lit (.top 120))) (.attr (.attr (.var 0) 1919512167) 7302757) (.meth (.attr (.var 0) 1919512167) 1852138852 [.var 2]))]
def fn_Machine_end:Fn:=⟨173,3,[(Val.top 120)],9,bd_Machine_end⟩
def bd_Machine_size:List Sm:= [.ret (.call (.lit (.bi 7103854)) [.attr (.var 0) 1634886515])]
def fn_Machine_size:Fn:=⟨174,1,[],7,bd_Machine_size⟩
def bd_Machine_has_empty:List Sm:= [.fo [1] false (.attr (.var 0) 1634886515) [.fo [2] false (.var 1) [.ite (.meth (.var 2) 7598521885536580729 []) [.ret (.lit (.bool true))] []]],.ret (.lit (.bool false))]
def fn_Machine_has_empty:Fn:=⟨175,1,[],9,bd_Machine_has_empty⟩
def bd_machine_add_to:List Sm:= [.fo [3] false (.call (.lit (.ty 491260897125)) [.meth (.var 1) 1936292453 []]) [.fo [4] false (.sub (.attr (.var 1) 1634886515) (.var 3)) [.expr (.meth (.var 0) 6386275 [.bin .add (.var 3) (.var 2),.attr (.var 4) 504397587826,.attr (.var 4) 465726563698,.attr (.var 4) 131277443786868,.bin .add (.attr (.var 4) 127961880028532) (.var 2)])]]]
def fn_machine_add_to:Fn:=⟨122,3,[],11,bd_machine_add_to⟩
def bd_machine_trim:List Sm:= [.ite (.cmp .eq (.meth (.var 0) 1936292453 []) (.lit (.int 0))) [.raise] [],.asg (.nm 1) (.call (.lit (.top 124)) [.var 0,.list [.attr (.var 0) 495873782388],.call (.lit (.top 125)) [.var 0]]),.asg (.nm 3) (.comp (.var 9) [9] false (.call (.lit (.ty 491260897125)) [.meth (.var 0) 1936292453 []]) [.cmp .ne (.sub (.attr (.var 0) 1701733491) (.var 9)) (.attr (.attr (.var 0) 1919512167) 121424990136436)]),.asg (.nm 4) (.call (.lit (.top 124)) [.var 0,.var 3,.call (.lit (.top 123)) [.var 0]]),.asg (.nm 5) (.comp (.var 9) [9] false (.call (.lit (.ty 491260897125)) [.meth (.var 0) 1936292453 []]) [.bop false [.sub (.var 1) (.var 9),.sub (.var 4) (.var 9)]]),.asg (.nm 6) (.call (.lit (.top 121)) [.attr (.var 0) 1919512167]),.ite (.bop true [.cmp .notin (.attr (.var 0) 495873782388) (.var 5),.cmp .eq (.attr (.var 0) 439855772532) (.attr (.attr (.var 0) 1919512167) 121424990136436)]) [.expr (.meth (.var 6) 495873782885 []),.ret (.var 6)] [],.asg (.nm 7) (.dict []),.fo [2] false (.var 5) [.asg (.sb (.var 7) (.var 2)) (.meth (.var 6) 495873782885 [])],.fo [2] false (.var 5) [.fo [8] false (.sub (.attr (.var 0) 1634886515) (.var 2)) [.ite (.cmp .isin (.attr (.var 8) 127961880028532) (.var 7)) [.expr (.meth (.var 6) 6386275 [.sub (.var 7) (.var 2),.attr (.var 8) 504397587826,.attr (.var 8) 465726563698,.attr (.var 8) 131277443786868,.sub (.var 7) (.attr (.var 8) 127961880028532)])] []],.asg (.sb (.attr (.var 6) 1701733491) (.sub (.var 7) (.var 2))) (.sub (.attr (.var 0) 1701733491) (.var 2))],.expr (.meth (.var 6) 422608071022 [.sub (.var 7) (.attr (.var 0) 495873782388),.attr (.var 0) 439855772532]),.ret (.var 6)]
def fn_machine_trim:Fn:=⟨133,1,[],15,bd_machine_trim⟩
def bd_machine__onward:List Sm:= [.ret (.comp (.comp (.attr (.var 2) 127961880028532) [2] false (.var 1) []) [1] false (.attr (.var 0) 1634886515) [])]
def fn_machine__onward:Fn:=⟨125,1,[],7,bd_machine__onward⟩
def bd_machine__backward:List Sm:= [.asg (.nm 1) (.comp (.list []) [4] false (.attr (.var 0) 1634886515) []),.fo [2] false (.call (.lit (.ty 491260897125)) [.meth (.var 0) 1936292453 []]) [.fo [3] false (.sub (.attr (.var 0) 1634886515) (.var 2)) [.expr (.meth (.sub (.var 1) (.attr (.var 3) 127961880028532)) 107135549927012 [.var 2])]],.ret (.var 1)]
def fn_machine__backward:Fn:=⟨123,1,[],10,bd_machine__backward⟩
def bd_machine__met:List Sm:= [.asg (.nm 3) (.bin .mul (.list [.lit (.bool false)]) (.meth (.var 0) 1936292453 [])),.asg (.nm 4) (.call (.lit (.ty 1818850164)) [.var 1]),.fo [5] false (.var 4) [.asg (.sb (.var 3) (.var 5)) (.lit (.bool true))],.wh (.cmp .gt (.call (.lit (.bi 7103854)) [.var 4]) (.lit (.int 0))) [.asg (.nm 5) (.meth (.var 4) 7368560 []),.fo [6] false (.sub (.var 2) (.var 5)) [.ite (.not (.sub (.var 3) (.var 6))) [.asg (.sb (.var 3) (.var 6)) (.lit (.bool true)),.expr (.meth (.var 4) 107135549927012 [.var 6])] []]],.ret (.var 3)]
def fn_machine__met:Fn:=⟨124,3,[],13,bd_machine__met⟩
def bd_rational__need_alike:List Sm:= [.ite (.cmp .ne (.attr (.attr (.var 0) 1919512167) 1851878757) (.attr (.attr (.var 1) 1919512167) 1851878757)) [.raise] [],.ite (.bop true [.cmp .eq (.meth (.var 0) 1936292453 []) (.lit (.int 0)),.cmp .eq (.meth (.var 1) 1936292453 []) (.lit (.int 0))]) [.raise] []]
def fn_rational__need_alike:Fn:=⟨179,2,[],8,bd_rational__need_alike⟩
def bd_rational__joined:List Sm:= [.expr (.call (.lit (.top 179)) [.var 0,.var 1]),.asg (.nm 2) (.call (.lit (.top 121)) [.attr (.var 0) 1919512167]),.expr (.meth (.var 2) 495873782885 []),.expr (.meth (.var 2) 126943688418675 [.bin .add (.meth (.var 0) 1936292453 []) (.meth (.var 1) 1936292453 [])]),.expr (.call (.lit (.top 122)) [.var 2,.var 0,.lit (.int 1)]),.expr (.call (.lit (.top 122)) [.var 2,.var 1,.bin .add (.lit (.int 1)) (.meth (.var 0) 1936292453 [])]),.ret (.tup [.var 2,.lit (.int 1),.bin .add (.lit (.int 1)) (.meth (.var 0) 1936292453 [])])]
def fn_rational__joined:Fn:=⟨180,2,[],9,bd_rational__joined⟩
def bd_rational_behind:List Sm:= [.asgs [.nm 2,.nm 3,.nm 4] (.call (.lit (.top 180)) [.var 0,.var 1]),.asg (.nm 5) (.attr (.var 0) 1919512167),.expr (.meth (.var 2) 6386275 [.lit (.int 0),.lit (.str []),.lit (.str []),.attr (.var 0) 439855772532,.bin .add (.var 3) (.attr (.var 0) 495873782388)]),.fo [6] false (.call (.lit (.ty 491260897125)) [.meth (.var 0) 1936292453 []]) [.expr (.meth (.var 2) 6386275 [.bin .add (.var 3) (.var 6),.lit (.str []),.lit (.str []),.meth (.var 5) 499984983411 [.sub (.attr (.var 0) 1701733491) (.var 6),.attr (.var 1) 439855772532],.bin .add (.var 4) (.attr (.var 1) 495873782388)])],.fo [6] false (.call (.lit (.ty 491260897125)) [.meth (.var 1) 1936292453 []]) [.expr (.meth (.var 2) 6647396 [.bin .add (.var 4) (.var 6),.sub (.attr (.var 1) 1701733491) (.var 6)])],.ret (.var 2)]
def fn_rational_behind:Fn:=⟨189,2,[],13,bd_rational_behind⟩
def bd_stars_table:List Sm:= [.ite (.cmp .gt (.meth (.var 0) 1936292453 []) (.lit (.int 2000))) [.raise] [],.asg (.nm 2) (.comp (.dict []) [5] false (.attr (.var 0) 1634886515) []),.fo [3] false (.call (.lit (.ty 491260897125)) [.meth (.var 0) 1936292453 []]) [.fo [4] false (.sub (.attr (.var 0) 1634886515) (.var 3)) [.ite (.bop true [.meth (.var 4) 7598521885536580729 [],.not (.var 1)]) [.expr (.call (.lit (.top 104)) [.attr (.var 0) 1919512167,.sub (.var 2) (.var 3),.attr (.var 4) 127961880028532,.attr (.var 4) 131277443786868])] []]],.ret (.var 2)]
def fn_stars_table:Fn:=⟨108,2,[],11,bd_stars_table⟩
def bd_stars_add:List Sm:= [.ite (.cmp .ne (.var 3) (.attr (.var 0) 121424990136436)) [.asg (.sb (.var 1) (.var 2)) (.meth (.var 0) 1886156147 [.meth (.var 1) 6776180 [.var 2,.attr (.var 0) 121424990136436],.var 3])] []]
def fn_stars_add:Fn:=⟨104,4,[],10,bd_stars_add⟩
def bd_stars_star:List Sm:= [.asg (.nm 2) (.comp (.call (.lit (.ty 1684628340)) [.var 9]) [9] false (.var 1) []),.fo [3] false (.call (.lit (.ty 491260897125)) [.call (.lit (.bi 7103854)) [.var 2]]) [.asg (.nm 4) (.call (.lit (.ty 1684628340)) [.sub (.var 2) (.var 3)]),.ite (.cmp .eq (.call (.lit (.bi 7103854)) [.var 4]) (.lit (.int 0))) [.cont] [],.asg (.nm 5) (.meth (.var 0) 1937006962 [.meth (.var 4) 6776180 [.var 3,.attr (.var 0) 121424990136436]]),.fo [6] false (.call (.lit (.ty 491260897125)) [.call (.lit (.bi 7103854)) [.var 2]]) [.ite (.cmp .isin (.var 3) (.sub (.var 2) (.var 6))) [.asg (.nm 7) (.meth (.var 0) 499984983411 [.sub (.sub (.var 2) (.var 6)) (.var 3),.var 5]),.fo [8] false (.call (.lit (.bi 126922498794852)) [.var 4]) [.expr (.call (.lit (.top 104)) [.var 0,.sub (.var 2) (.var 6),.var 8,.meth (.var 0) 499984983411 [.var 7,.sub (.var 4) (.var 8)]])]] []]],.fo [3] false (.call (.lit (.ty 491260897125)) [.call (.lit (.bi 7103854)) [.var 2]]) [.expr (.call (.lit (.top 104)) [.var 0,.sub (.var 2) (.var 3),.var 3,.attr (.var 0) 7302757])],.ret (.var 2)]
def fn_stars_star:Fn:=⟨107,2,[],15,bd_stars_star⟩
def bd_stars_row_times:List Sm:= [.asg (.nm 3) (.bin .mul (.list [.attr (.var 0) 121424990136436]) (.call (.lit (.bi 7103854)) [.var 1])),.fo [4] false (.call (.lit (.ty 491260897125)) [.call (.lit (.bi 7103854)) [.var 1]]) [.ite (.cmp .ne (.sub (.var 1) (.var 4)) (.attr (.var 0) 121424990136436)) [.fo [5] false (.call (.lit (.bi 126922498794852)) [.sub (.var 2) (.var 4)]) [.asg (.sb (.var 3) (.var 5)) (.meth (.var 0) 1886156147 [.sub (.var 3) (.var 5),.meth (.var 0) 499984983411 [.sub (.var 1) (.var 4),.sub (.sub (.var 2) (.var 4)) (.var 5)]])]] []],.ret (.var 3)]
def fn_stars_row_times:Fn:=⟨132,3,[],12,bd_stars_row_times⟩
def bd_stars_empty_star:List Sm:= [.ite (.not (.meth (.var 0) 1925483444799026525305 [])) [.ret (.lit .none)] [],.ret (.call (.lit (.top 107)) [.attr (.var 0) 1919512167,.call (.lit (.top 108)) [.var 0,.lit (.bool true)]])]
def fn_stars_empty_star:Fn:=⟨131,1,[],7,bd_stars_empty_star⟩
def bd_run_weight:List Sm:= [.expr (.call (.lit (.top 130)) [.var 1]),.expr (.call (.lit (.top 130)) [.var 2]),.asg (.nm 3) (.attr (.var 0) 1919512167),.asg (.nm 0) (.call (.lit (.top 133)) [.var 0]),.asg (.nm 4) (.call (.lit (.top 131)) [.var 0]),.asg (.nm 5) (.dict [.tup [.lit (.int 0),.lit (.int 0)],.call (.lit (.top 128)) [.var 0]]),.fo [6] false (.call (.lit (.ty 491260897125)) [.bin .add (.call (.lit (.bi 7103854)) [.var 1]) (.lit (.int 1))]) [.fo [7] false (.call (.lit (.ty 491260897125)) [.bin .add (.call (.lit (.bi 7103854)) [.var 2]) (.lit (.int 1))]) [.asg (.nm 8) (.meth (.var 5) 6776180 [.tup [.var 6,.var 7]]),.ite (.cmp .is (.var 8) (.lit .none)) [.cont] [],.ite (.cmp .isnot (.var 4) (.lit .none)) [.asg (.nm 8) (.call (.lit (.top 132)) [.var 3,.var 8,.var 4]),.asg (.sb (.var 5) (.tup [.var 6,.var 7])) (.var 8)] [],.fo [9] false (.call (.lit (.ty 491260897125)) [.meth (.var 0) 1936292453 []]) [.ite (.cmp .eq (.sub (.var 8) (.var 9)) (.attr (.var 3) 121424990136436)) [.cont] [],.fo [10] false (.sub (.attr (.var 0) 1634886515) (.var 9)) [.ite (.bop true [.meth (.var 10) 7598521885536580729 [],.not (.call (.lit (.top 129)) [.var 1,.var 6,.attr (.var 10) 504397587826]),.not (.call (.lit (.top 129)) [.var 2,.var 7,.attr (.var 10) 465726563698])]) [.cont] [],.asg (.nm 11) (.tup [.bin .add (.var 6) (.call (.lit (.bi 7103854)) [.attr (.var 10) 504397587826]),.bin .add (.var 7) (.call (.lit (.bi 7103854)) [.attr (.var 10) 465726563698])]),.expr (.call (.lit (.top 126)) [.var 0,.var 5,.var 11,.attr (.var 10) 127961880028532,.meth (.var 3) 499984983411 [.sub (.var 8) (.var 9),.attr (.var 10) 131277443786868]])]]]],.ret (.call (.lit (.top 127)) [.var 0,.meth (.var 5) 6776180 [.tup [.call (.lit (.bi 7103854)) [.var 1],.call (.lit (.bi 7103854)) [.var 2]]]])]
def fn_run_weight:Fn:=⟨106,3,[],18,bd_run_weight⟩
def bd_run__need_short:List Sm:= [.expr (.call (.lit (.top 134)) [.var 0]),.ite (.cmp .gt (.call (.lit (.bi 7103854)) [.var 0]) (.lit (.int 200))) [.raise] []]
def fn_run__need_short:Fn:=⟨130,1,[],7,bd_run__need_short⟩
def bd_run__first:List Sm:= [.asg (.nm 1) (.bin .mul (.list [.attr (.attr (.var 0) 1919512167) 121424990136436]) (.meth (.var 0) 1936292453 [])),.asg (.sb (.var 1) (.attr (.var 0) 495873782388)) (.attr (.var 0) 439855772532),.ret (.var 1)]
def fn_run__first:Fn:=⟨128,1,[],8,bd_run__first⟩
def bd_run__fits:List Sm:= [.ret (.bop true [.cmp .eq (.var 2) (.lit (.str [])),.cmp .eq (.slice (.var 0) 3 [.var 1,.bin .add (.var 1) (.lit (.int 1))]) (.var 2)])]
def fn_run__fits:Fn:=⟨129,3,[],9,bd_run__fits⟩
def bd_run__add:List Sm:= [.ite (.cmp .notin (.var 2) (.var 1)) [.asg (.sb (.var 1) (.var 2)) (.bin .mul (.list [.attr (.attr (.var 0) 1919512167) 121424990136436]) (.meth (.var 0) 1936292453 []))] [],.asg (.sb (.sub (.var 1) (.var 2)) (.var 3)) (.meth (.attr (.var 0) 1919512167) 1886156147 [.sub (.sub (.var 1) (.var 2)) (.var 3),.var 4])]
def fn_run__add:Fn:=⟨126,5,[],11,bd_run__add⟩
def bd_run__ended:List Sm:= [.asg (.nm 2) (.attr (.var 0) 1919512167),.asg (.nm 3) (.attr (.var 2) 121424990136436),.ite (.cmp .isnot (.var 1) (.lit .none)) [.fo [4] false (.call (.lit (.ty 491260897125)) [.meth (.var 0) 1936292453 []]) [.asg (.nm 3) (.meth (.var 2) 1886156147 [.var 3,.meth (.var 2) 499984983411 [.sub (.var 1) (.var 4),.sub (.attr (.var 0) 1701733491) (.var 4)]])]] [],.ret (.meth (.var 2) 1852138852 [.var 3])]
def fn_run__ended:Fn:=⟨127,2,[],11,bd_run__ended⟩
def bd_law__law_cell:List Sm:= [.ite (.cmp .lt (.var 1) (.call (.lit (.bi 7103854)) [.var 0])) [.ret (.sub (.var 0) (.var 1))] [],.ret (.lit (.int 0))]
def fn_law__law_cell:Fn:=⟨137,2,[],8,bd_law__law_cell⟩
def bd_law__law_weights:List Sm:= [.ret (.sub (.dict [.lit (.str [121,101,115]),.list [.lit (.int 1),.lit (.int 1),.lit (.int 1)],.lit (.str [108,101,97,115,116]),.list [.lit (.int 0),.lit (.int 1),.lit (.int 3)],.lit (.str [99,111,117,110,116]),.list [.lit (.int 1),.lit (.int 1),.lit (.int 2)],.lit (.str [99,104,97,110,99,101]),.list [.tup [.lit (.int 1),.lit (.int 4)],.tup [.lit (.int 1),.lit (.int 3)],.tup [.lit (.int 1),.lit (.int 2)]],.lit (.str [108,105,107,101,108,121]),.list [.tup [.lit (.int 1),.lit (.int 2)],.tup [.lit (.int 1),.lit (.int 3)],.tup [.lit (.int 1),.lit (.int 1)]]]) (.var 0))]
def fn_law__law_weights:Fn:=⟨138,1,[],7,bd_law__law_weights⟩
def bd_law__law_machine:List Sm:= [.asg (.nm 5) (.call (.lit (.top 121)) [.var 2]),.asg (.nm 6) (.bin .add (.lit (.int 1)) (.bin .mod (.call (.lit (.top 137)) [.var 0,.var 1]) (.lit (.int 4)))),.expr (.meth (.var 5) 126943688418675 [.var 6]),.asg (.nm 7) (.call (.lit (.top 138)) [.attr (.var 2) 1851878757]),.fo [8] false (.call (.lit (.ty 491260897125)) [.bin .add (.lit (.int 2)) (.bin .mod (.call (.lit (.top 137)) [.var 0,.bin .add (.var 1) (.lit (.int 1))]) (.lit (.int 6)))]) [.asg (.nm 9) (.call (.lit (.top 137)) [.var 0,.bin .add (.bin .add (.var 1) (.lit (.int 2))) (.var 8)]),.asg (.nm 10) (.bin .mod (.var 9) (.var 6)),.asg (.nm 11) (.bin .mod (.bin .fdiv (.var 9) (.lit (.int 4))) (.var 6)),.asg (.nm 12) (.sub (.var 3) (.bin .mod (.bin .fdiv (.var 9) (.lit (.int 16))) (.call (.lit (.bi 7103854)) [.var 3]))),.asg (.nm 13) (.sub (.list [.lit (.str [97]),.lit (.str [98]),.lit (.str [])]) (.bin .mod (.bin .fdiv (.var 9) (.lit (.int 48))) (.lit (.int 3)))),.asg (.nm 11) (.call (.lit (.bi 7168376)) [.var 11,.bin .mul (.bin .add (.var 10) (.lit (.int 1))) (.bop true [.cmp .eq (.bin .add (.var 12) (.var 13)) (.lit (.str [])),.var 4])]),.ite (.cmp .lt (.var 11) (.var 6)) [.expr (.meth (.var 5) 6386275 [.var 10,.var 12,.var 13,.sub (.var 7) (.bin .mod (.bin .fdiv (.var 9) (.lit (.int 144))) (.lit (.int 3))),.var 11])] []],.expr (.meth (.var 5) 6647396 [.bin .sub (.var 6) (.lit (.int 1)),.sub (.var 7) (.bin .mod (.call (.lit (.top 137)) [.var 0,.bin .add (.var 1) (.lit (.int 9))]) (.lit (.int 3)))]),.ite (.cmp .eq (.bin .mod (.call (.lit (.top 137)) [.var 0,.bin .add (.var 1) (.lit (.int 9))]) (.lit (.int 2))) (.lit (.int 1))) [.expr (.meth (.var 5) 6647396 [.lit (.int 0)])] [],.expr (.meth (.var 5) 422608071022 [.lit (.int 0),.sub (.var 7) (.bin .mod (.call (.lit (.top 137)) [.var 0,.bin .add (.var 1) (.lit (.int 10))]) (.lit (.int 3)))]),.ret (.var 5)]
def fn_law__law_machine:Fn:=⟨139,5,[],20,bd_law__law_machine⟩
def bd_law_law:List Sm:= [.asg (.nm 1) (.call (.lit (.top 105)) [.sub (.list [.lit (.str [121,101,115]),.lit (.str [108,101,97,115,116]),.lit (.str [99,111,117,110,116]),.lit (.str [99,104,97,110,99,101]),.lit (.str [108,105,107,101,108,121])]) (.bin .mod (.call (.lit (.top 137)) [.var 0,.lit (.int 0)]) (.lit (.int 5)))]),.asg (.nm 2) (.call (.lit (.top 139)) [.var 0,.lit (.int 1),.var 1,.list [.lit (.str [97]),.lit (.str [98]),.lit (.str [])],.lit (.bool false)]),.asg (.nm 3) (.call (.lit (.top 139)) [.var 0,.lit (.int 13),.var 1,.list [.lit (.str [97]),.lit (.str [98]),.lit (.str [])],.lit (.bool false)]),.asg (.nm 4) (.call (.lit (.top 189)) [.var 2,.var 3]),.asg (.nm 5) (.list [.lit (.str []),.lit (.str [97]),.lit (.str [98]),.lit (.str [97,97]),.lit (.str [97,98]),.lit (.str [98,97]),.lit (.str [98,98])]),.fo [6] false (.call (.lit (.ty 491260897125)) [.lit (.int 3)]) [.asg (.nm 7) (.sub (.var 5) (.bin .mod (.call (.lit (.top 137)) [.var 0,.bin .add (.lit (.int 25)) (.var 6)]) (.lit (.int 7)))),.asg (.nm 8) (.sub (.var 5) (.bin .mod (.call (.lit (.top 137)) [.var 0,.bin .add (.lit (.int 28)) (.var 6)]) (.lit (.int 7)))),.asg (.nm 9) (.attr (.var 1) 121424990136436),.fo [10] false (.call (.lit (.ty 491260897125)) [.bin .add (.call (.lit (.bi 7103854)) [.var 7]) (.lit (.int 1))]) [.fo [11] false (.call (.lit (.ty 491260897125)) [.bin .add (.call (.lit (.bi 7103854)) [.var 8]) (.lit (.int 1))]) [.asg (.nm 9) (.meth (.var 1) 1886156147 [.var 9,.meth (.var 1) 499984983411 [.call (.lit (.top 106)) [.var 2,.slice (.var 7) 2 [.var 10],.slice (.var 8) 2 [.var 11]],.call (.lit (.top 106)) [.var 3,.slice (.var 7) 1 [.var 10],.slice (.var 8) 1 [.var 11]]]])]],.ite (.cmp .ne (.call (.lit (.top 106)) [.var 4,.var 7,.var 8]) (.var 9)) [.ret (.lit (.bool false))] []],.ret (.lit (.bool true))]
def fn_law_law:Fn:=⟨178,1,[],18,bd_law_law⟩
def P0:Prg:=⟨[fn_errors_is_letter,fn_errors_need_letter,fn_errors_need_label,fn_errors_need_word,fn_errors_need_count,fn_Yes_need,fn_Yes_plus,fn_Yes_times,fn_Yes_star,fn_Least_need,fn_Least_plus,fn_Least_times,fn_Least_star,fn_Count_need,fn_Count_plus,fn_Count_times,fn_Count_star,fn_rings__gcd,fn_Chance_need,fn_Chance_plus,fn_Chance_times,fn_Chance_star,fn_Likely_need,fn_Likely_plus,fn_Likely_star,fn_rings_fraction,fn_rings_ring,fn_Arc_init,fn_Arc_is_empty,fn_Machine_init,fn_Machine__need_room,fn_Machine_state,fn_Machine_states,fn_Machine_need_state,fn_Machine_arc,fn_Machine_begin,fn_Machine_end,fn_Machine_size,fn_Machine_has_empty,fn_machine_add_to,fn_machine_trim,fn_machine__onward,fn_machine__backward,fn_machine__met,fn_rational__need_alike,fn_rational__joined,fn_rational_behind,fn_stars_table,fn_stars_add,fn_stars_star,fn_stars_row_times,fn_stars_empty_star,fn_run_weight,fn_run__need_short,fn_run__first,fn_run__fits,fn_run__add,fn_run__ended,fn_law__law_cell,fn_law__law_weights,fn_law__law_machine,fn_law_law],
 [⟨146,[(1851878757,(Val.str [121,101,115])),(121424990136436,(Val.int 0)),(7302757,(Val.int 1)),(1852138852,(Val.top 142)),(1886156147,(Val.top 143)),(499984983411,(Val.top 144)),(1937006962,(Val.top 145))],Q1,[]⟩,
  ⟨151,[(1851878757,(Val.str [108,101,97,115,116])),(121424990136436,Val.none),(7302757,(Val.int 0)),(1852138852,(Val.top 147)),(1886156147,(Val.top 148)),(499984983411,(Val.top 149)),(1937006962,(Val.top 150))],Q1,[]⟩,
  ⟨156,[(1851878757,(Val.str [99,111,117,110,116])),(121424990136436,(Val.int 0)),(7302757,(Val.int 1)),(1852138852,(Val.top 152)),(1886156147,(Val.top 153)),(499984983411,(Val.top 154)),(1937006962,(Val.top 155))],Q1,[]⟩,
  ⟨111,[(1851878757,(Val.str [99,104,97,110,99,101])),(121424990136436,(Val.tup [(Val.int 0),(Val.int 1)])),(7302757,(Val.tup [(Val.int 1),(Val.int 1)])),(1852138852,(Val.top 157)),(1886156147,(Val.top 158)),(499984983411,(Val.top 159)),(1937006962,(Val.top 160))],Q1,[]⟩,
  ⟨164,[(1851878757,(Val.str [108,105,107,101,108,121])),(1852138852,(Val.top 161)),(1886156147,(Val.top 162)),(1937006962,(Val.top 163)),(121424990136436,(Val.tup [(Val.int 0),(Val.int 1)])),(7302757,(Val.tup [(Val.int 1),(Val.int 1)])),(499984983411,(Val.top 159))],Q1,[]⟩,
  ⟨118,[(7598521885536580729,(Val.top 165))],(some 166),[504397587826,465726563698,131277443786868,127961880028532]⟩,
  ⟨121,[(450661264077055929053037,(Val.top 167)),(495873782885,(Val.top 168)),(126943688418675,(Val.top 169)),(521330740336550618428517,(Val.top 170)),(6386275,(Val.top 171)),(422608071022,(Val.top 172)),(6647396,(Val.top 173)),(1936292453,(Val.top 174)),(1925483444799026525305,(Val.top 175))],(some 177),[1919512167,1634886515,1701733491,495873782388,439855772532,104880676367988]⟩],
 [(112,146),(113,151),(114,156),(115,111),(116,164)]⟩
def ad0:List (Nat×Addr):= [(100,31),(101,41),(102,76),(103,48),(104,689),(105,465),(106,715),(107,694),(108,682),(109,321),(110,447),(111,396),(112,449),(113,451),(114,453),(115,455),(116,457),(117,69),(118,497),(119,55),(120,466),(121,623),(122,634),(123,649),(124,656),(125,644),(126,743),(127,750),(128,729),(129,736),(130,722),(131,708),(132,701),(133,639),(134,62),(137,757),(138,764),(139,771),(142,97),(143,104),(144,111),(145,118),(146,156),(147,174),(148,181),(149,188),(150,195),(151,233),(152,251),(153,258),(154,265),(155,272),(156,310),(157,337),(158,344),(159,351),(160,358),(161,414),(162,421),(163,428),(164,438),(165,487),(166,480),(167,522),(168,529),(169,534),(170,541),(171,548),(172,563),(173,571),(174,578),(175,592),(176,613),(177,515),(178,778),(179,663),(180,670),(187,606),(189,677),(191,555),(202,125),(203,132),(204,146),(205,202),(206,209),(207,223),(208,279),(209,286),(210,300),(211,365),(212,372),(213,386),(214,494),(215,620),(237,83),(240,153),(241,230),(242,307),(243,393)]
def nm0:List PySem.Str:= [Qj (Qo [95,99,111,117,110,116]),Qj (Qo [95,110,101,101,100,95,114,111,111,109]),Qj (Qo [97,114,99]),Qj (Qo [97,114,99,115]),Qj (Qo [98,101,103,105,110]),Qj (Qo [101,110,100]),Qj (Qo [101,110,100,115]),Qj (Qo [102,105,114,115,116]),Qj (Qo [104,97,115,95,101,109,112,116,121]),Qj (Qo [105,115,95,101,109,112,116,121]),Qj (Qo [108,111,119,101,114]),Qj (Qo [110,97,109,101]),Qj (Qo [110,101,101,100]),Qj (Qo [110,101,101,100,95,115,116,97,116,101]),Qj (Qo [110,111,117,103,104,116]),Qj (Qo [111,110,101]),Qj (Qo [112,108,117,115]),Qj (Qo [114,105,110,103]),Qj (Qo [115,105,122,101]),Qj (Qo [115,116,97,114]),Qj (Qo [115,116,97,114,116]),Qj (Qo [115,116,97,116,101]),Qj (Qo [115,116,97,116,101,115]),Qj (Qo [116,97,114,103,101,116]),Qj (Qo [116,105,109,101,115]),Qj (Qo [117,112,112,101,114]),Qj (Qo [119,101,105,103,104,116])]
def cfg (w:World) (so:Obj):Cfg:= {prog:=pw,w:=w,K:=(size0,so)::KK w.params,P:=P0,ad:=ad0}
section
variable (w:World) (so:Obj)
theorem t_cmp:P0.fns.map (zdz (cfg w so) gl0)=P0.fns.map λf=>some (f.np,f.ns,f.body):=by kernel_rfl
theorem t_fn:P0.fns.all (Internal.fnB (cfg w so))=true:=by kernel_rfl
theorem t_gl:gl0.all (glB (cfg w so))=true:=by kernel_rfl
theorem t_in:P0.insts.all (zaV (cfg w so))=true:=by kernel_rfl
theorem t_cl:P0.cls.all (clB (cfg w so) nm0)=true:=by kernel_rfl
theorem t_cf:iW (cfg w so):=zf2 (by kernel_rfl) (by kernel_rfl) (by kernel_rfl)
def fd_Machine_begin:FuncData:=fnOf n140 n159 (fnB 29 7).1 (fnB 29 7).2.1 (fnB 29 7).2.2 (.ref 556) Kt Kt (Zi n118 778) Q1 (.ref 562) Kt
theorem jF (S:Setting) (v0:Value) (v1:Value):peek (cfg w so).K S (bindArgs fd_Machine_begin ⟨[v0,v1],[]⟩)=some ((fd_Machine_begin.params.args.map (·.arg)).zip [v0,v1,(.ref 466)]):=by kernel_rfl
theorem jE (S:Setting) (v0:Value) (v1:Value) (v2:Value):peek (cfg w so).K S (bindArgs fd_Machine_begin ⟨[v0,v1,v2],[]⟩)=some ((fd_Machine_begin.params.args.map (·.arg)).zip [v0,v1,v2]):=by kernel_rfl
theorem jW (S:Setting): ∀ (vs:List Value),vs.length<=3->3-vs.length<=1->peek (cfg w so).K S (bindArgs fd_Machine_begin ⟨vs,[]⟩)=some ((fd_Machine_begin.params.args.map (·.arg)).zip (vs++Wy (1-(3-vs.length)) [(.ref 466)])):=λvs h1 h2=>match vs,h1,h2 with
 | [],_,h2=>absurd h2 (show ¬3-0<=1 by decide)
 | [_],_,h2=>absurd h2 (show ¬3-1<=1 by decide)
 | [v0,v1],_,_=>jF w so S v0 v1
 | [v0,v1,v2],_,_=>jE w so S v0 v1 v2
 |_::_::_::_::r,h1,_=>absurd h1 (show ¬r.length+4<=3 by omega)
theorem d_Machine_begin:mH (cfg w so) fn_Machine_begin:=λh p e=>by
 rw [show za9 (cfg w so) fn_Machine_begin=some ⟨563,o354 w.params,fd_Machine_begin⟩ from by kernel_rfl] at e;cases e;exact .inr ⟨h,[(.ref 466)],λw'=>kD (kY 5) w' _ _ (by kernel_rfl),λS vs h1 h2=>jW w so S vs h1 h2⟩
def fd_Machine_end:FuncData:=fnOf n141 n160 (fnB 29 8).1 (fnB 29 8).2.1 (fnB 29 8).2.2 (.ref 564) Kt Kt (Zi n118 778) Q1 (.ref 570) Kt
theorem lZ (S:Setting) (v0:Value) (v1:Value):peek (cfg w so).K S (bindArgs fd_Machine_end ⟨[v0,v1],[]⟩)=some ((fd_Machine_end.params.args.map (·.arg)).zip [v0,v1,(.ref 466)]):=by kernel_rfl
theorem lY (S:Setting) (v0:Value) (v1:Value) (v2:Value):peek (cfg w so).K S (bindArgs fd_Machine_end ⟨[v0,v1,v2],[]⟩)=some ((fd_Machine_end.params.args.map (·.arg)).zip [v0,v1,v2]):=by kernel_rfl
theorem mM (S:Setting): ∀ (vs:List Value),vs.length<=3->3-vs.length<=1->peek (cfg w so).K S (bindArgs fd_Machine_end ⟨vs,[]⟩)=some ((fd_Machine_end.params.args.map (·.arg)).zip (vs++Wy (1-(3-vs.length)) [(.ref 466)])):=λvs h1 h2=>match vs,h1,h2 with
 | [],_,h2=>absurd h2 (show ¬3-0<=1 by decide)
 | [_],_,h2=>absurd h2 (show ¬3-1<=1 by decide)
 | [v0,v1],_,_=>lZ w so S v0 v1
 | [v0,v1,v2],_,_=>lY w so S v0 v1 v2
 |_::_::_::_::r,h1,_=>absurd h1 (show ¬r.length+4<=3 by omega)
theorem d_Machine_end:mH (cfg w so) fn_Machine_end:=λh p e=>by
 rw [show za9 (cfg w so) fn_Machine_end=some ⟨571,o358 w.params,fd_Machine_end⟩ from by kernel_rfl] at e;cases e;exact .inr ⟨h,[(.ref 466)],λw'=>kD (kY 5) w' _ _ (by kernel_rfl),λS vs h1 h2=>mM w so S vs h1 h2⟩
def AllD:List Fn->Prop
 | []=>True
 |f::r=>mH (cfg w so) f/\AllD r
theorem AllD.at: ∀ {l:List Fn},AllD w so l-> ∀f∈l,mH (cfg w so) f:=by
 intro l
 induction l with
 |nil=>exact λ_ _ h=>absurd h Qr
 |cons f l ih=>exact λh g hg=>(QH.mp hg).elim (λe=>e▸h.1) λhg=>ih h.2 g hg
theorem t_df: ∀f∈P0.fns,mH (cfg w so) f:=AllD.at w so (show AllD w so P0.fns from ⟨(λh=>absurd rfl h),⟨(λh=>absurd rfl h),⟨(λh=>absurd rfl h),⟨(λh=>absurd rfl h),⟨(λh=>absurd rfl h),⟨(λh=>absurd rfl h),⟨(λh=>absurd rfl h),⟨(λh=>absurd rfl h),⟨(λh=>absurd rfl h),⟨(λh=>absurd rfl h),⟨(λh=>absurd rfl h),⟨(λh=>absurd rfl h),⟨(λh=>absurd rfl h),⟨(λh=>absurd rfl h),⟨(λh=>absurd rfl h),⟨(λh=>absurd rfl h),⟨(λh=>absurd rfl h),⟨(λh=>absurd rfl h),⟨(λh=>absurd rfl h),⟨(λh=>absurd rfl h),⟨(λh=>absurd rfl h),⟨(λh=>absurd rfl h),⟨(λh=>absurd rfl h),⟨(λh=>absurd rfl h),⟨(λh=>absurd rfl h),⟨(λh=>absurd rfl h),⟨(λh=>absurd rfl h),⟨(λh=>absurd rfl h),⟨(λh=>absurd rfl h),⟨(λh=>absurd rfl h),⟨(λh=>absurd rfl h),⟨(λh=>absurd rfl h),⟨(λh=>absurd rfl h),⟨(λh=>absurd rfl h),⟨(λh=>absurd rfl h),⟨d_Machine_begin w so,⟨d_Machine_end w so,⟨(λh=>absurd rfl h),⟨(λh=>absurd rfl h),⟨(λh=>absurd rfl h),⟨(λh=>absurd rfl h),⟨(λh=>absurd rfl h),⟨(λh=>absurd rfl h),⟨(λh=>absurd rfl h),⟨(λh=>absurd rfl h),⟨(λh=>absurd rfl h),⟨(λh=>absurd rfl h),⟨(λh=>absurd rfl h),⟨(λh=>absurd rfl h),⟨(λh=>absurd rfl h),⟨(λh=>absurd rfl h),⟨(λh=>absurd rfl h),⟨(λh=>absurd rfl h),⟨(λh=>absurd rfl h),⟨(λh=>absurd rfl h),⟨(λh=>absurd rfl h),⟨(λh=>absurd rfl h),⟨(λh=>absurd rfl h),⟨(λh=>absurd rfl h),⟨(λh=>absurd rfl h),⟨(λh=>absurd rfl h),⟨(λh=>absurd rfl h),trivial⟩⟩⟩⟩⟩⟩⟩⟩⟩⟩⟩⟩⟩⟩⟩⟩⟩⟩⟩⟩⟩⟩⟩⟩⟩⟩⟩⟩⟩⟩⟩⟩⟩⟩⟩⟩⟩⟩⟩⟩⟩⟩⟩⟩⟩⟩⟩⟩⟩⟩⟩⟩⟩⟩⟩⟩⟩⟩⟩⟩⟩⟩)
theorem tab:cR (cfg w so) gl0:=ze2 (t_cmp w so) (t_fn w so) (t_df w so) (t_gl w so) (t_in w so) (t_cl w so) (t_cf w so) (zif _)
end
abbrev lawAt:Nat:=178
abbrev lawAd:Addr:=778
theorem zfQ (w:World):nsIn (KK w.params) mainGlobals (Qj (Qo [108,97,119]))=some (some (.ref 778)):=by kernel_rfl
end Tactic
open Internal
namespace Tactic
open Internal
abbrev nPlus:Nat:=1886156147
abbrev nTimes:Nat:=499984983411
abbrev nNought:Nat:=121424990136436
abbrev nOne:Nat:=7302757
abbrev nStar:Nat:=1937006962
abbrev nNeed:Nat:=1852138852
end Tactic
namespace Tactic
open Internal
theorem foW {σ:Type}{c:Cx}{t:Ex}{b:List Sm}{k0:Nat} (F:σ->Internal.Frame) (G:σ->MH) (P:Nat->σ->Prop) (D:σ->Prop) (s0:σ) (hk:k0<=190000) (hc:c.fuel=200000) (p0:P k0 s0)
  (step: ∀k s,P k s-> ∃r:Bool,WE c (F s) t (G s) (λv g=>v= .bool r/\g=G s)/\(r=true-> ∀R' R,To F G (λs=> ∃j,j<k/\P j s) R R'->WSs c b (F s) (G s) R')/\(r=false->D s)): ∃s,D s/\exec c (.wh t b) (F s0) (G s0)=some ((.nx,F s),G s):=by
 have w:WS c (.wh t b) (F s0) (G s0) λfl f g=> ∃s,D s/\fl= .nx/\f=F s/\g=G s:=
  zeH F G P (by rw [hc];exact Qk hk (by decide)) s0 rfl rfl p0 λk s R' hp T=>by
   refine (step k s hp).elim λr zq1=>?_;refine zq1.1.mono λv g q=>?_;obtain rfl:=q.1;obtain rfl:=q.2;exact uB ⟨λh=>zq1.2.1 h R' _ T,λh=>⟨s,zq1.2.2 h,rfl,rfl,rfl⟩⟩
 obtain ⟨⟨fl,f⟩,g,e,s,hp,q1,q2,q3⟩:=W.get w;cases q1;cases q2;cases q3;exact ⟨s,hp,e⟩
theorem eF {a b r:Int} (e:Ky a b=r) (hb:b≠0) (h:MH):d4 .mod (.int a) (.int b) h=some (.int r,h):=W.eq (zeW hb ⟨by rw [e],rfl⟩)
theorem gFd {a b:Nat} (hb:b≠0) (hl:b<divB) (h:MH):d4 .fdiv (.int a) (.int b) h=some (.int (a / b:Nat),h):=W.eq (zco (λe=>hb (Ze.mp e)) hl ⟨by rw [<-Int.ofNat_fdiv],rfl⟩)
theorem nes (s t:List Nat) (h:MH):c7 .ne (.str s) (.str t) h=some (!(s==t)):=Internal.ne_of uI
theorem zgQ {n:Nat} (h:0<n):(((n:Nat):Int)==0)=false:=beq_false_of_ne λe=>absurd (Ze.mp e▸h) (Q4 _)
end Tactic
namespace Tactic
open Internal
section
variable {d:Nat}{h h0:MH}{Q:Val->MH->Prop}
def frV (n m:Nat):Val:= .tup [.int (n / JR n m:Nat),.int (m / JR n m:Nat)]
theorem zaZ {b r:Nat} (hr:0<r) (h:r<=b):2*(b % r)<b:=by
 have h1:=Wu b hr;have h2:=Nat.div_add_mod b r;have h4:r<=r*(b / r):=Jy _ ((Nat.one_le_div_iff hr).mpr h:1<=b / r);exact Qk (QA (Wp _)) (Qf (Kz h1 _) (Qa (QW h4 _) (QA h2)))
def gB:Nat:=2 ^ 90000
theorem gB_ex: ∃J,gB=2 ^ J/\2*J+1<=190000:=⟨90000,rfl,by decide⟩
structure GS where
 x:Nat
 y:Nat
abbrev gF (s:GS):Internal.Frame:=some (.int s.x)::some (.int s.y)::nn 6
structure GP (g k:Nat) (s:GS):Prop where
 g:JR s.y s.x=g
 j: ∃j,(s.y<2 ^ j/\2*j<=k)\/(s.y<s.x/\s.x<2 ^ j/\2*j<=k+1)
theorem GP.next {g k:Nat}{s:GS} (P:GP g k s) (hy:0<s.y): ∃j,j<k/\GP g j ⟨s.y,s.x % s.y⟩:=by
 obtain ⟨hg,j,hj⟩:=P;have hg':JR (s.x % s.y) s.y=g:=by rw [<-Nat.gcd_rec];exact hg
 rcases hj with ⟨h1,h2⟩| ⟨h1,h2,h3⟩
 ·have hk:0<k:=Xf λe=>by
   rw [show j=0 from Yr (Qa (Ys j (Jt 1)) (e▸h2))] at h1;exact Jc (QT hy) h1
  exact ⟨k-1,XW hk (Jt _),hg',j,.inr ⟨(Wu s.x hy),h1,Qa h2 (QA (Kd hk).symm)⟩⟩
 ·cases j with
  |zero=>exact absurd h2 (Jc (QJ (Qk hy h1)))
  |succ j=>
   rw [Wi] at h2
   have:=zaZ hy (QJ h1)
   have h4:2*j+1<=k:=Kh h3;exact ⟨k-1,XW (Qf (Jt _) h4) (Jt 0),hg',j,.inl ⟨Nat.lt_of_mul_lt_mul_left (a:=2) (Q9 this (Kc h2 (KO _ _))),Nat.le_sub_one_of_lt h4⟩⟩
theorem zfT {a b J:Nat} (hb:b<2 ^ J) (hJ:2*J+1<=190000): ∃s:GS,(s.y=0/\s.x=JR b a)/\exec (Cxd P0 d) (.wh (.cmp .gt (.var 1) (.lit (.int 0))) [.asgs [.nm 0,.nm 1] (.tup [.var 1,.bin .mod (.var 0) (.var 1)])]) (gF ⟨a,b⟩) h=some ((.nx,gF s),h):=
 foW (c:=Cxd P0 d) (k0:=2*J+1) gF (λ_=>h) (GP (JR b a)) (λs=>s.y=0/\s.x=JR b a) ⟨a,b⟩ hJ rfl ⟨rfl,J,.inl ⟨hb,Jv _⟩⟩ λk s P=>⟨decide ((0:Int)<s.y),by exact bK (.c<| .z (two (.bool (decide ((0:Int)<s.y))) h)) (by kernel_rfl),λhr R' R T=>by
  have hy:0<s.y:=JG.mp (of_decide_eq_true hr);exact run (.q (eF (r:=(s.x % s.y:Nat)) (Int.ofNat_fmod s.x s.y).symm (λe=>JL hy (Ze.mp e)))<| .c<| .z (T.nx ⟨s.y,s.x % s.y⟩ (P.next hy))) (by kernel_rfl),λhr=>by
  have hy:s.y=0:=Nat.eq_zero_of_not_pos λh=>of_decide_eq_false hr (JG.mpr h);have hg:=P.g;rw [hy,Nat.gcd_zero_left] at hg;exact ⟨hy,hg⟩⟩
theorem zfS {a b:Nat} (hd:1<=d) (hb:b<gB) (q:Q (.int (JR b a:Nat)) h):WF P0 d 109 [.int a,.int b] h Q:=by
 refine gB_ex.elim λJ e=>?_;refine bD (K:=0) hd (gF ⟨a,b⟩) bd_rings__gcd (by kernel_rfl) λd' _=>?_;refine (zfT (d:=d') (h:=h) (a:=a) (e.1▸hb) e.2).elim λs f=>?_;exact run (.s (f.2)<| .z ((f.1.2▸q:Q (.int s.x) h))) (by kernel_rfl)
theorem zhE {a b:Nat} (hd:1<=d) (hb:b<gB) (h:MH):aP (Cxd P0 d) (.top 109) [.int a,.int b] h=some (.int (JR b a:Nat),h):=fn rfl (zfS hd hb (two _ _))
theorem zdo {n m:Nat} (hd:2<=d) (hn:n<gB) (hm:0<m) (hl:m<divB) (q:Q (frV n m) h):WF P0 d 110 [.int n,.int m] h Q:=by
 refine bD (K:=1) hd (some (.int n)::some (.int m)::nn 7) bd_rings_fraction (by kernel_rfl) λd' h'=>?_;have g0:JR n m≠0:=Nat.pos_iff_ne_zero.mp (Z6 _ hm);have gl:JR n m<divB:=Qk (Nat.gcd_le_right _ hm) hl;exact run (.q (zhE (a:=m) h' hn)<| .q (gFd (a:=n) g0 gl)<| .q (gFd (a:=m) g0 gl)<| .z (q)) (by kernel_rfl)
theorem gFr {n m:Nat} (hd:2<=d) (hn:n<gB) (hm:0<m) (hl:m<divB) (h:MH):aP (Cxd P0 d) (.top 110) [.int n,.int m] h=some (frV n m,h):=fn rfl (zdo hd hn hm hl (two _ _))
theorem iv {x:Val}{i:Int} (e:x.int?=some i):x= .int i:=by
 cases x<;>first|exact nos e|(cases e;rfl)
theorem tv {x:Val}{i:List Val} (e:x.tup?=some i):x= .tup i:=by
 cases x<;>first|exact nos e|(cases e;rfl)
theorem nv {x:Val} (e:x.isNone=true):x= .none:=by
 cases x<;>first|rfl|cases e
theorem ziC {α:Type}{vs:List Val}{f:Val->Val->Option α}{r:α} (e:a2 vs f=some r): ∃x y,vs= [x,y]/\f x y=some r:=by
 obtain _| ⟨x,_| ⟨y,_| ⟨z,l⟩⟩⟩:=vs
 ·exact nos e
 ·exact nos e
 ·exact ⟨x,y,rfl,e⟩
 ·exact nos e
def wB:Nat:=2 ^ 3900
theorem wB_sq:wB*wB<divB/\divB+divB<=gB:=by decide+kernel
theorem wB_big:wB<=bigB:=by decide+kernel
def nat? (v:Val):Option Nat:=v.int?.bind λa=>grd (decide (0<=a) && Jr (a.toNat+1) wB) (some a.toNat)
theorem nat?_s {v:Val}{n:Nat} (e:nat? v=some n):v= .int n/\n<wB:=by
 obtain ⟨a,e1,e⟩:=bs e;obtain ⟨hb,e⟩:=gs e;cases e;exact ⟨by rw [iv e1,YT (of_decide_eq_true (Qb.mp hb).1)],QV.mp (Qb.mp hb).2⟩
def fr? (v:Val):Option (Nat×Nat):=v.tup?.bind λvs=>a2 vs λx y=>(nat? x).bind λa=>(nat? y).bind λb=>grd (Jr 1 b) (some (a,b))
structure ziG (v:Val) (p:Nat×Nat):Prop where
 e:v= .tup [.int p.1,.int p.2]
 n:p.1<wB
 d:p.2<wB
 pos:0<p.2
theorem fr?_s {v:Val}{p:Nat×Nat} (e:fr? v=some p):ziG v p:=by
 obtain ⟨vs,e1,e⟩:=bs e;obtain ⟨x,y,rfl,e⟩:=ziC e;obtain ⟨a,ea,e⟩:=bs e;obtain ⟨b,eb,e⟩:=bs e;obtain ⟨hb,e⟩:=gs e;cases e;obtain ⟨rfl,h1⟩:=nat?_s ea;obtain ⟨rfl,h2⟩:=nat?_s eb;exact ⟨tv e1,h1,h2,QV.mp hb⟩
def onF (f:Nat->Nat->Nat->Nat->Val) (x y:Val):Option Val:=(fr? x).bind λp=>(fr? y).map λq=>f p.1 p.2 q.1 q.2
def onI (f:Int->Int->Int) (x y:Val):Option Val:=x.int?.bind λa=>y.int?.map λb=> .int (f a b)
def onN (f:Nat->Nat->Nat) (x y:Val):Option Val:=(nat? x).bind λa=>(nat? y).map λb=> .int (f a b:Nat)
def pl1 (x y:Val):Option Val:=bif x.isNone then some y else x.int?.bind λa=>bif y.isNone then some x else y.int?.map λb=> .int (if b<a then b else a)
def ti1 (x y:Val):Option Val:=bif x.isNone then some .none else x.int?.bind λa=>bif y.isNone then some .none else y.int?.map λb=> .int (a+b)
def pl3 (a b c d:Nat):Val:=frV (a*d+c*b) (b*d)
def ti3 (a b c d:Nat):Val:=frV (a*c) (b*d)
def pl4 (a b c d:Nat):Val:=if a*d<c*b then .tup [.int c,.int d] else .tup [.int a,.int b]
def xS {α:Type} (a b c d e:α) (i:Nat):α:=bif i==0 then a else bif i==1 then b else bif i==2 then c else bif i==3 then d else e
def plF (i:Nat):Val->Val->Option Val:=xS (onI λa b=>if b>a then b else a) pl1 (onI (· + ·)) (onF pl3) (onF pl4) i
def tiF (i:Nat):Val->Val->Option Val:=xS (onI λa b=>if b<a then b else a) ti1 (onN (· * ·)) (onF ti3) (onF ti3) i
theorem dW {C:Nat->Prop} (i:Nat) (hi:i<5) (c0:C 0) (c1:C 1) (c2:C 2) (c3:C 3) (c4:C 4):C i:=by
 rcases i with _|_|_|_|_|i
 ·exact c0
 ·exact c1
 ·exact c2
 ·exact c3
 ·exact c4
 ·exact absurd hi (Jc (Ql 5 i))
theorem zij {a b:Nat} (ha:a<wB) (hb:b<wB):qX (.ofNat a) (.ofNat b)=true:=by
 unfold qX;rw [Jw];exact ⟨QV.mpr (Qa ha wB_big),QV.mpr (Qa hb wB_big)⟩
theorem qY {a b:Nat} (ha:a<wB) (hb:b<wB):a*b<divB:=Qf (Nat.mul_lt_mul'' ha hb) (QJ wB_sq.1)
theorem mS {a b:Nat} (ha:a<wB) (hb:b<wB) (h:MH):d4 .mul (.int a) (.int b) h=some (.int (a*b:Nat),h):=W.eq (zeV (zij ha hb) (two _ _))
theorem bN {K f:Nat}{as:List Val}{z:Val} (hd:K+1<=d) (e: ∀d',cG P0 200000 (d'+K+1) f as h=some (z,h)) (q:Q z h):WF P0 d f as h Q:=by
 refine (JV hd).elim λd' zq21=>?_;obtain rfl:=zq21;exact W.of (e d') q
theorem zcZ {x y z:Val} (r:Val) (hd:3<=d) (e:onF pl3 x y=some z) (q:Q z h):WF P0 d 158 [r,x,y] h Q:=by
 obtain ⟨⟨a,b⟩,ea,e⟩:=bs e;obtain ⟨⟨c,e'⟩,eb,rfl⟩:=ms e;obtain ⟨rfl,a1,a2,a3⟩:=fr?_s ea;obtain ⟨rfl,b1,b2,b3⟩:=fr?_s eb;refine bD (K:=2) hd (some r::some (.tup [.int a,.int b])::some (.tup [.int c,.int e'])::nn 6) bd_Chance_plus (by kernel_rfl) λd' h'=>?_;exact run (.c2<| .q (mS a1 b2)<| .c2<| .q (mS b1 a2)<| .c3<| .q (mS a2 b2)<| .q (gFr (n:=a*e'+c*b) (m:=b*e') h' (Qf (Nat.add_lt_add (qY a1 b2) (qY b1 a2)) wB_sq.2) (KA a3 b3) (qY a2 b2))<| .z (q)) (by kernel_rfl)
theorem uL {x y z:Val} (r:Val) (hd:3<=d) (e:onF ti3 x y=some z) (q:Q z h):WF P0 d 159 [r,x,y] h Q:=by
 obtain ⟨⟨a,b⟩,ea,e⟩:=bs e;obtain ⟨⟨c,e'⟩,eb,rfl⟩:=ms e;obtain ⟨rfl,a1,a2,a3⟩:=fr?_s ea;obtain ⟨rfl,b1,b2,b3⟩:=fr?_s eb;refine bD (K:=2) hd (some r::some (.tup [.int a,.int b])::some (.tup [.int c,.int e'])::nn 6) bd_Chance_times (by kernel_rfl) λd' h'=>?_;exact run (.c2<| .q (mS a1 b1)<| .c2<| .q (mS a2 b2)<| .q (gFr (n:=a*c) (m:=b*e') h' (Qf (Qf (qY a1 b1) (Qd _ _)) wB_sq.2) (KA a3 b3) (qY a2 b2))<| .z (q)) (by kernel_rfl)
theorem zfm {x y z:Val}{s:Val} (hd:1<=d) (e:pl1 x y=some z) (q:Q z h):WF P0 d 148 [s,x,y] h Q:=by
 unfold pl1 at e;cases hx:x.isNone with
 |true=>
  rw [hx] at e;cases e;cases nv hx;exact bN (K:=0) hd (λ_=>rfl) q
 |false=>
  rw [hx] at e;obtain ⟨a,ea,e⟩:=bs e;cases iv ea;cases hy:y.isNone with
  |true=>
   rw [hy] at e;cases e;cases nv hy;exact bN (K:=0) hd (λ_=>rfl) q
  |false=>
   rw [hy] at e;obtain ⟨b,eb,rfl⟩:=ms e;cases iv eb;exact bN (K:=0) hd (λ_=>rfl) q
theorem ze1 {x y z:Val}{s:Val} (hd:1<=d) (e:ti1 x y=some z) (q:Q z h):WF P0 d 149 [s,x,y] h Q:=by
 unfold ti1 at e;cases hx:x.isNone with
 |true=>
  rw [hx] at e;cases e;cases nv hx;exact bN (K:=0) hd (λ_=>rfl) q
 |false=>
  rw [hx] at e;obtain ⟨a,ea,e⟩:=bs e;cases iv ea;cases hy:y.isNone with
  |true=>
   rw [hy] at e;cases e;cases nv hy;exact bN (K:=0) hd (λ_=>rfl) q
  |false=>
   rw [hy] at e;obtain ⟨b,eb,rfl⟩:=ms e;cases iv eb;exact bN (K:=0) hd (λ_=>rfl) q
theorem zfl {x y z:Val}{s:Val} (hd:1<=d) (e:onF pl4 x y=some z) (q:Q z h):WF P0 d 162 [s,x,y] h Q:=by
 obtain ⟨⟨a,b⟩,ea,e⟩:=bs e;obtain ⟨⟨c,e'⟩,eb,rfl⟩:=ms e;obtain ⟨rfl,a1,a2,a3⟩:=fr?_s ea;obtain ⟨rfl,b1,b2,b3⟩:=fr?_s eb;have q:Q (if a*e'<c*b then .tup [.int c,.int e'] else .tup [.int a,.int b]) h:=q;refine bD (K:=0) hd (some s::some (.tup [.int a,.int b])::some (.tup [.int c,.int e'])::nn 6) bd_Likely_plus (by kernel_rfl) λd' h'=>?_;by_cases hr:a*e'<c*b
 ·rw [if_pos hr] at q
  exact run (.c2<| .q (mS a1 b2)<| .c2<| .q (mS b1 a2)<| .c<| .t (decide_eq_true (JG.mpr hr))<| .z (q)) (by kernel_rfl)
 ·rw [if_neg hr] at q
  exact run (.c2<| .q (mS a1 b2)<| .c2<| .q (mS b1 a2)<| .c<| .f (decide_eq_false (λh=>hr (JG.mp h)))<| .z (q)) (by kernel_rfl)
theorem zg1 {i:Nat}{x y z:Val} (hi:i<5) (hd:3<=d) (e:plF i x y=some z) (q:Q z h):WM (Cxd P0 d) (.top (112+i)) nPlus [x,y] h0 h Q:=by
 revert e
 refine dW (C:=λi=>plF i x y=some z->WM (Cxd P0 d) (.top (112+i)) nPlus [x,y] h0 h Q) i hi (λe=>?_) (λe=>?_) (λe=>?_) (λe=>?_) (λe=>?_)
 ·obtain ⟨a,ea,e⟩:=bs (show onI _ x y=some z from e)
  obtain ⟨b,eb,rfl⟩:=ms e;cases iv ea;cases iv eb;exact a6 (f:=143) (self:=[.top 112]) rfl (bN (K:=0) (Qa (Ql _ _) hd) (λ_=>rfl) q)
 ·exact a6 (f:=148) (self:=[.top 113]) rfl (zfm (Qa (Ql _ _) hd) e q)
 ·obtain ⟨a,ea,e⟩:=bs (show onI _ x y=some z from e)
  obtain ⟨b,eb,rfl⟩:=ms e;cases iv ea;cases iv eb;exact a6 (f:=153) (self:=[.top 114]) rfl (bN (K:=0) (Qa (Ql _ _) hd) (λ_=>rfl) q)
 ·exact a6 (f:=158) (self:=[.top 115]) rfl (zcZ _ hd e q)
 ·exact a6 (f:=162) (self:=[.top 116]) rfl (zfl (Qa (Ql _ _) hd) e q)
theorem zgM {i:Nat}{x y z:Val} (hi:i<5) (hd:3<=d) (e:tiF i x y=some z) (q:Q z h):WM (Cxd P0 d) (.top (112+i)) nTimes [x,y] h0 h Q:=by
 revert e
 refine dW (C:=λi=>tiF i x y=some z->WM (Cxd P0 d) (.top (112+i)) nTimes [x,y] h0 h Q) i hi (λe=>?_) (λe=>?_) (λe=>?_) (λe=>?_) (λe=>?_)
 ·obtain ⟨a,ea,e⟩:=bs (show onI _ x y=some z from e)
  obtain ⟨b,eb,rfl⟩:=ms e;cases iv ea;cases iv eb;exact a6 (f:=144) (self:=[.top 112]) rfl (bN (K:=0) (Qa (Ql _ _) hd) (λ_=>rfl) q)
 ·exact a6 (f:=149) (self:=[.top 113]) rfl (ze1 (Qa (Ql _ _) hd) e q)
 ·obtain ⟨a,ea,e⟩:=bs (show onN _ x y=some z from e)
  obtain ⟨b,eb,rfl⟩:=ms e;obtain ⟨rfl,h1⟩:=nat?_s ea;obtain ⟨rfl,h2⟩:=nat?_s eb;refine a6 (f:=154) (self:=[.top 114]) rfl (bD (K:=0) (Qa (Ql _ _) hd) (some (.top 114)::some (.int a)::some (.int b)::nn 6) bd_Count_times (by kernel_rfl) λd' _=>?_);exact run (.q (mS h1 h2)<| .z (q)) (by kernel_rfl)
 ·exact a6 (f:=159) (self:=[.top 115]) rfl (uL _ hd e q)
 ·exact a6 (f:=159) (self:=[.top 116]) rfl (uL _ hd e q)
def noF (i:Nat):Val:=xS (.int 0) .none (.int 0) (.tup [.int 0,.int 1]) (.tup [.int 0,.int 1]) i
def onV (i:Nat):Val:=xS (.int 1) (.int 0) (.int 1) (.tup [.int 1,.int 1]) (.tup [.int 1,.int 1]) i
theorem zhf {i:Nat} (hi:i<5) (q:Q (noF i) h):WA P0 (.top (112+i)) nNought h Q:=
 sC (dW (C:=λi=>((P0.instAt (112+i)).bind λc=>gW P0 c nNought)=some (noF i)) i hi rfl rfl rfl rfl rfl) q
theorem zhd {i:Nat} (hi:i<5) (q:Q (onV i) h):WA P0 (.top (112+i)) nOne h Q:=
 sC (dW (C:=λi=>((P0.instAt (112+i)).bind λc=>gW P0 c nOne)=some (onV i)) i hi rfl rfl rfl rfl rfl) q
end
end Tactic
namespace Tactic
open Internal
theorem fJ {h t:MH}{j:Nat}:(h++t)[h.length+j]?=t[j]?:=by rw [J5 (Qd _ _),JH]
theorem z0 {h t:MH}{j:Nat}{o:MObj}:(h++t).set (h.length+j) o=h++t.set j o:=by rw [Km _ _ (Qd _ _),JH]
structure Rg where
 i:Nat
 hi:i<5
 α:Type
 deq:DecidableEq α
 e:α->Val
 zero:α
 one:α
 add:α->α->α
 mul:α->α->α
 D:Nat->Nat->α->Prop
 add_comm: ∀a b,add a b=add b a
 add_assoc: ∀a b c,add (add a b) c=add a (add b c)
 zero_add: ∀a,add zero a=a
 mul_comm: ∀a b,mul a b=mul b a
 mul_assoc: ∀a b c,mul (mul a b) c=mul a (mul b c)
 one_mul: ∀a,mul one a=a
 zero_mul: ∀a,mul zero a=zero
 mul_add: ∀a b c,mul a (add b c)=add (mul a b) (mul a c)
 noE:noF i=e zero
 onE:onV i=e one
 isv: ∀a,isV (e a) (.top 120)=some false
 veq_ok: ∀h a b,veq h (e a) (e b)=some (decide (a=b))
 D_mono: ∀ {p q k l a},p<=q->k<=l->D p k a->D q l a
 D_zero:D 0 0 zero
 D_one:D 0 0 one
 D_add: ∀ {p k a b},D p k a->D p k b->D p (k+1) (add a b)
 D_mul: ∀ {p q k l a b},D p k a->D q l b->D (p+q) (k+l) (mul a b)
 plus_ok: ∀ {p k a b},D p k a->D p k b->4*p+k<=3800->plF i (e a) (e b)=some (e (add a b))
 times_ok: ∀ {p q k l a b},D p k a->D q l b->4*(p+q)+(k+l)<=3800->tiF i (e a) (e b)=some (e (mul a b))
 need_ok: ∀ {p k a d h0 h}{Q:Val->MH->Prop},3<=d->D p k a->4*p+k<=3800->Q (e a) h->WM (Cxd P0 d) (.top (112+i)) nNeed [e a] h0 h Q
 star_ok: ∀ {d h0 h}{Q:Val->MH->Prop},3<=d->Q (e one) h->WM (Cxd P0 d) (.top (112+i)) nStar [e zero] h0 h Q
section
variable {d:Nat}{h h0:MH}{Q:Val->MH->Prop} (R:Rg)
theorem Rg.plus {p k:Nat}{a b:R.α} (hd:3<=d) (ha:R.D p k a) (hb:R.D p k b) (hl:4*p+k<=3800) (q:Q (R.e (R.add a b)) h):WM (Cxd P0 d) (.top (112+R.i)) nPlus [R.e a,R.e b] h0 h Q:=zg1 R.hi hd (R.plus_ok ha hb hl) q
theorem Rg.times {p p' k l:Nat}{a b:R.α} (hd:3<=d) (ha:R.D p k a) (hb:R.D p' l b) (hl:4*(p+p')+(k+l)<=3800) (q:Q (R.e (R.mul a b)) h):WM (Cxd P0 d) (.top (112+R.i)) nTimes [R.e a,R.e b] h0 h Q:=zgM R.hi hd (R.times_ok ha hb hl) q
theorem Rg.nought (q:Q (R.e R.zero) h):WA P0 (.top (112+R.i)) nNought h Q:=zhf R.hi (R.noE▸q)
theorem Rg.oneW (q:Q (R.e R.one) h):WA P0 (.top (112+R.i)) nOne h Q:=zhd R.hi (R.onE▸q)
end
section
variable {R:Rg}{d:Nat}
theorem Rg.pl {p k:Nat}{a b:R.α} (hd:3<=d) (ha:R.D p k a) (hb:R.D p k b) (hl:4*p+k<=3800) (h:MH):bI (Cxd P0 d) (.top (112+R.i)) nPlus [R.e a,R.e b] h h=some (R.e (R.add a b),h):=W.eq (R.plus hd ha hb hl ⟨rfl,rfl⟩)
theorem Rg.ti {p p' k l:Nat}{a b:R.α} (hd:3<=d) (ha:R.D p k a) (hb:R.D p' l b) (hl:4*(p+p')+(k+l)<=3800) (h:MH):bI (Cxd P0 d) (.top (112+R.i)) nTimes [R.e a,R.e b] h h=some (R.e (R.mul a b),h):=W.eq (R.times hd ha hb hl ⟨rfl,rfl⟩)
theorem Rg.nd {p k:Nat}{a:R.α} (hd:3<=d) (ha:R.D p k a) (hl:4*p+k<=3800) (h:MH):bI (Cxd P0 d) (.top (112+R.i)) nNeed [R.e a] h h=some (R.e a,h):=W.eq (R.need_ok hd ha hl ⟨rfl,rfl⟩)
theorem Rg.on (R:Rg) (h:MH):getAttr P0 h (.top (112+R.i)) nOne=some (R.e R.one):=Wo.eq (R.oneW (Q:=λa _=>a=_) rfl)
theorem Rg.no (R:Rg) (h:MH):getAttr P0 h (.top (112+R.i)) nNought=some (R.e R.zero):=Wo.eq (R.nought (Q:=λa _=>a=_) rfl)
theorem Rg.qe (a b:R.α) (h:MH):veq h (R.e a) (R.e b)=some (@decide (a=b) (R.deq a b)):=R.veq_ok h a b
theorem Rg.yes {a b:R.α} (h:a=b): @decide (a=b) (R.deq a b)=true:= @decide_eq_true _ (R.deq a b) h
theorem Rg.not {a b:R.α} (h: ¬a=b): @decide (a=b) (R.deq a b)=false:= @decide_eq_false _ (R.deq a b) h
end
theorem dT {p:Prop}{i:Decidable p} (h: @decide p i=true):p:= @of_decide_eq_true p i h
theorem dF {p:Prop}{i:Decidable p} (h: @decide p i=false): ¬p:= @of_decide_eq_false p i h
theorem rA {k n:Nat} (hk:k<=3800) (hn:n<=2 ^ k):n<wB:=Qk hn (YG (by decide) (Qf (QB hk) (Ql _ _)))
theorem nat?_of {n:Nat} (hn:n<wB):nat? (.int n)=some n:=by
 show grd _ _=_;rw [za0 (by rw [Jw];exact ⟨decide_eq_true (ZG _),QV.mpr hn⟩),ZU]
def great:Nat:=10 ^ 4000
theorem wB_great:wB<=great:=by decide+kernel
theorem iJ {n:Nat} (hn:n<wB):decide ((10 ^ 4000:Int)<=n)=false:=decide_eq_false λhg=>absurd (Ym.mp (show ((great:Nat):Int)<=(n:Int) from hg)) (Xe.mpr (Qf hn wB_great))
theorem zbp {d n:Nat}{h:MH}{Q:Val->MH->Prop}{s:Val} (hd:1<=d) (hn:n<wB) (q:Q (.int n) h):WF P0 d 152 [s,.int n] h Q:=by
 refine bD (K:=0) hd (some s::some (.int n)::nn 6) bd_Count_need (by kernel_rfl) λd' h'=>?_;exact run (.c4<| .c2<| .f (iJ hn)<| .z (q)) (by kernel_rfl)
def RCount:Rg where
 i:=2
 hi:=by decide
 α:=Nat
 deq:=inferInstance
 e:=λn=> .int n
 zero:=0
 one:=1
 add:=(· + ·)
 mul:=(· * ·)
 D:=λp k n=>n<=2 ^ k
 add_comm:=Ju
 add_assoc:=QY
 zero_add:=JA
 mul_comm:=KO
 mul_assoc:=YX
 one_mul:=JI
 zero_mul:=Nat.zero_mul
 mul_add:=Wq
 noE:=rfl
 onE:=rfl
 isv:=λ_=>rfl
 veq_ok:=λh a b=>iA.trans (congrArg some (by
  by_cases hab:a=b
  ·subst hab;simp
  ·rw [decide_eq_false hab,beq_false_of_ne];exact λe=>hab (Yj.inj e)))
 D_mono:=λ_ hk ha=>Qa ha (YH (by decide) hk)
 D_zero:=by decide
 D_one:=by decide
 D_add:=λha hb=>by exact Qa (QE ha hb) (QA (Nat.mul_two _).symm)
 D_mul:=λha hb=>by rw [K8];exact YI ha hb
 plus_ok:=λ_ _ _=>rfl
 times_ok:=λ{p q k l a b} ha hb hl=>by
  show onN (· * ·) (.int a) (.int b)=_;unfold onN;rw [nat?_of (rA (k:=k) (Qa (Qd _ _) (Qa (Ql _ _) hl)) ha),nat?_of (rA (k:=l) (Qa (Ql _ _) (Qa (Ql _ _) hl)) hb)];rfl
 need_ok:=λ{p k a d h0 h Q} hd ha hl q=>a6 (f:=152) (self:=[.top 114]) rfl (zbp (Qa (Ql _ _) hd) (rA (k:=k) (Qa (Ql _ _) hl) ha) q)
 star_ok:=λ{d h0 h Q} hd q=>a6 (f:=155) (self:=[.top 114]) rfl (bN (K:=0) (Qa (Ql _ _) hd) (λ_=>rfl) q)
end Tactic
namespace Tactic
open Internal
section
variable {d:Nat}{h h0:MH}{Q:Val->MH->Prop}
def marks:List Nat:= [32,9,10,58,47,95,91,93,62,35,59,63,61]
def mP (c:Nat):Bool:=!marks.contains c && !Xt ⟨#[c]⟩
theorem zfM {c:Nat} (hd:1<=d) (hc:mP c=true) (q:Q (.bool true) h):WF P0 d 101 [.str [c]] h Q:=by
 refine bD (K:=0) hd (some (.str [c])::nn 6) bd_errors_is_letter (by kernel_rfl) λd' h'=>?_;exact run (.c4<| .c3<| .t ((Qb.mp hc).1)<| .c2<| .z ((show Q (.bool (!Xt ⟨#[c]⟩)) h by rw [(Qb.mp hc).2];exact q))) (by kernel_rfl)
theorem u3 {c:Nat} (hd:2<=d) (hc:mP c=true) (q:Q (.str [c]) h):WF P0 d 103 [.str [c]] h Q:=by
 refine bD (K:=1) hd (some (.str [c])::nn 6) bd_errors_need_letter (by kernel_rfl) λd' h'=>?_;exact run (.p (fn (as:=[.str [c]]) rfl (zfM h' hc (two (.bool true) h)))<| .c2<| .z (q)) (by kernel_rfl)
theorem foS {c:Cx}{x:Nat}{e:Ex}{b:List Sm}{s:List Nat} (F:Option Val->Internal.Frame) (hs:s.length<c.fuel) (he:WE c (F none) e h λv g=>v= .str s/\g=h)
  (step: ∀a R o,a∈s->R .nx (F (some (.str [a]))) h->WSs c b ((F o).set x (some (.str [a]))) h R): ∃o,exec c (.fo [x] false e b) (F none) h=some ((.nx,F o),h):=by
 have w:WS c (.fo [x] false e b) (F none) h λfl f g=> ∃o,fl= .nx/\f=F o/\g=h:=nX (he.mono λv g q=>by
  obtain rfl:=q.1;obtain rfl:=q.2;refine ⟨.sq s,s.map λc=> .str [c],rfl,by rw [Qh];exact hs,λ_ f g'=>g'=g/\∃o,f=F o,⟨rfl,none,rfl⟩,λi _ _ _=>by rw [Qu];rfl,λi v hv f g' q=>?_,λf g' q=>q.2.elim λo e=>⟨o,rfl,e,q.1⟩⟩;obtain ⟨rfl,o,rfl⟩:=q;rw [Qu] at hv;obtain ⟨a,ha,rfl⟩:=ms hv;exact c9 (step a _ o (Qe ha) ⟨rfl,_,rfl⟩))
 obtain ⟨⟨fl,f⟩,g,e,o,q1,q2,q3⟩:=W.get w;cases q1;cases q2;cases q3;exact ⟨o,e⟩
theorem zai {s:List Nat} (hd:3<=d) (hs: ∀c∈s,mP c=true) (hl:s.length<1000) (q:Q (.str s) h):WF P0 d 134 [.str s] h Q:=by
 refine bD (K:=2) hd (some (.str s)::nn 7) bd_errors_need_word (by kernel_rfl) λd' h'=>?_;obtain ⟨o,e⟩:=foS (h:=h) (c:=Cxd P0 d') (x:=1) (e:=.var 0) (b:=[.expr (.call (.lit (.top 103)) [.var 1])]) (λo=>some (.str s)::o::nn 6) (Q9 hl (by show 1000<200000;decide)) (by exact bK (.z (two (.str s) h)) (by kernel_rfl)) λa R o ha q=>by
  exact run (.p (fn (as:=[.str [a]]) rfl (u3 h' (hs a ha) (two (.str [a]) h)))<| .z (q)) (by kernel_rfl)
 exact run (.c3<| .s (e)<| .z (q)) (by kernel_rfl)
end
end Tactic
namespace Tactic
open Internal
section
variable {d:Nat}{h h0:MH}{Q:Val->MH->Prop}
def lab (s:List Nat):Prop:=s= []\/∃c,s= [c]/\mP c=true
theorem u4 {s:List Nat} (hd:3<=d) (hs:lab s) (q:Q (.str s) h):WF P0 d 119 [.str s] h Q:=by
 refine bD (K:=2) hd (some (.str s)::nn 6) bd_errors_need_label (by kernel_rfl) λd' h'=>?_;rcases hs with rfl| ⟨c,rfl,hc⟩
 ·exact run (.c2<| .z (q)) (by kernel_rfl)
 ·exact run (.c2<| .p (fn (as:=[.str [c]]) rfl (u3 h' hc (two (.str [c]) h)))<| .z (q)) (by kernel_rfl)
theorem zc2 {a b c:Int}{x:Val} (hd:1<=d) (h1:b<=a) (h2:a<=c) (q:Q (.int a) h):WF P0 d 117 [.int a,.int b,.int c,x] h Q:=by
 refine bD (K:=0) hd (some (.int a)::some (.int b)::some (.int c)::some x::nn 6) bd_errors_need_count (by kernel_rfl) λd' h'=>?_;exact run (.c4<| .f (decide_eq_false (KU.mpr h1))<| .c<| .f (decide_eq_false (KU.mpr h2))<| .z (q)) (by kernel_rfl)
theorem zfu {s:List Nat} (hd:4<=d) (hs: ∀c∈s,mP c=true) (hl:s.length<=200) (q:Q .none h):WF P0 d 130 [.str s] h Q:=by
 refine bD (K:=3) hd (some (.str s)::nn 6) bd_run__need_short (by kernel_rfl) λd' h'=>?_;exact run (.p (fn (as:=[.str s]) rfl (zai h' hs (Qf (QB hl) (Ql _ _)) (two (.str s) h)))<| .c2<| .f (decide_eq_false (p:=(200:Int)<s.length) (by lia))<| .z (q)) (by kernel_rfl)
end
end Tactic
namespace Tactic
open Internal
abbrev k_ring:Nat:=1919512167
abbrev k_arcs:Nat:=1634886515
abbrev k_ends:Nat:=1701733491
abbrev k_start:Nat:=495873782388
abbrev k_first:Nat:=439855772532
abbrev k_count:Nat:=104880676367988
abbrev k_upper:Nat:=504397587826
abbrev k_lower:Nat:=465726563698
abbrev k_weight:Nat:=131277443786868
abbrev k_target:Nat:=127961880028532
theorem zhu {a b:List Val} (e:some (MObj.list a)=some (.list b)):a=b:=by cases e;rfl
theorem rInj: ∀ {as bs:List Nat},as.map Val.ref=bs.map Val.ref->as=bs:=by
 intro as
 induction as with
 |nil=>intro bs e;cases bs with|nil=>rfl|cons _ _=>cases e
 |cons a as ih=>
  intro bs e;cases bs with
  |nil=>cases e
  |cons b bs=>injection e with e1 e2;injection e1 with e1;rw [e1,ih e2]
theorem zii {as bs:List Nat} (e:some (MObj.list (as.map .ref))=some (.list (bs.map .ref))):as=bs:=rInj (zhu e)
structure Ar (α:Type) where
 up:List Nat
 lo:List Nat
 w:α
 t:Nat
structure Mc (α:Type) where
 arcs:List (List (Ar α))
 ends:List α
 start:Nat
 first:α
 cnt:Nat
structure Ly where
 m:Nat
 aA:Nat
 aE:Nat
 rows:List Nat
section
variable (R:Rg)
def dC (a:Ar R.α):MObj:= .inst 118 [(k_upper,.str a.up),(k_lower,.str a.lo),(k_weight,R.e a.w),(k_target,.int a.t)]
def mO (L:Ly) (M:Mc R.α):MObj:= .inst 121 [(k_ring,.top (112+R.i)),(k_arcs,.ref L.aA),(k_ends,.ref L.aE),(k_start,.int M.start),(k_first,R.e M.first),(k_count,.int M.cnt)]
def eL (h:MH) (r:Nat) (xs:List (Ar R.α)):Prop:= ∃as:List Nat,h[r]?=some (.list (as.map .ref))/\as.length=xs.length/\∀ (j a:Nat) (x:Ar R.α),as[j]?=some a->xs[j]?=some x->h[a]?=some (dC R x)
def Dst (h:MH) (rows:List Nat) (m:Nat):Prop:= ∃ads:List (List Nat),ads.flatten.Nodup/\(∀a∈ads.flatten,m<a)/\rows.map (λr=>h[r]?)=ads.map λas=>some (.list (as.map .ref))
structure IsM (h:MH) (L:Ly) (M:Mc R.α):Prop where
 obj:h[L.m]?=some (mO R L M)
 arcs:h[L.aA]?=some (.list (L.rows.map .ref))
 ends:h[L.aE]?=some (.list (M.ends.map R.e))
 len:L.rows.length=M.arcs.length
 lenE:M.ends.length=M.arcs.length
 rows: ∀ (k r:Nat) (xs:List (Ar R.α)),L.rows[k]?=some r->M.arcs[k]?=some xs->eL R h r xs
 nd:(L.aA::L.aE::L.rows).Nodup
 lim:M.arcs.length<=10000
 ct:(M.arcs.map JW).sum=M.cnt
 cl:M.cnt<=100000
 ds:Dst h L.rows L.m
end
theorem Dst.to {h h':MH}{rows:List Nat}{m:Nat} (D:Dst h rows m) (e: ∀r∈rows,∀vs,h[r]?=some (.list vs) ->h'[r]?=some (.list vs)):Dst h' rows m:=by
 refine Jd D λads zq3=>?_;refine ⟨ads,zq3.1,zq3.2.1,(Jq λr hr=>?_).trans zq3.2.2⟩;have hm:h[r]?∈rows.map λr=>h[r]?:=QI.mpr ⟨r,hr,rfl⟩;rw [zq3.2.2] at hm;refine (QI.mp hm).elim λas zq2=>?_;rw [<-zq2.2];exact e r hr _ zq2.2.symm
theorem oW {α:Type}{l:List (List α)}{xs:List α} (h:xs∈l):xs.length<=(l.map JW).sum:=by
 induction l with
 |nil=>exact absurd h Qr
 |cons y l ih=>
  rw [QC,Z7];rcases QH.mp h with rfl|h
  ·exact Qd _ _
  ·have:=ih h;exact Kj this
theorem u7 {α:Type}{l:List (List α)}{s:Nat}{a:α} (hs:s<l.length):((l.set s (l[s]++ [a])).map JW).sum=(l.map JW).sum+1:=by
 induction l generalizing s with
 |nil=>exact absurd hs (QZ _)
 |cons y l ih=>
  cases s with
  |zero=>simp;exact J9 _ _ _
  |succ s=>
   have:=ih (s:=s) (J6 hs)
   simp only [List.set_cons_succ,List.getElem_cons_succ,QC,Z7,this];exact KN (QY _ _ _)
theorem IsM.cr {R:Rg}{h:MH}{L:Ly}{M:Mc R.α} (I:IsM R h L M): ∀xs∈M.arcs,xs.length<=M.cnt:=λxs hx=>I.ct▸oW hx
structure cB (h h':MH) (S:List Nat):Prop where
 len:h.length<=h'.length
 at': ∀ (a:Nat) (o:MObj),a∉S->h[a]?=some o->h'[a]?=some o
def own (L:Ly):List Nat:=L.m::L.aA::L.aE::L.rows
theorem cB.refl {h:MH}{S:List Nat}:cB h h S:=⟨Qi _,λ_ _ _ e=>e⟩
theorem cB.trans {h h' h'':MH}{S:List Nat} (x:cB h h' S) (y:cB h' h'' S):cB h h'' S:=⟨Qa x.len y.len,λa o hs e=>y.at' a o hs (x.at' a o hs e)⟩
theorem cB.sub {h h':MH}{S T:List Nat} (x:cB h h' S) (hs: ∀a∈S,a∈T):cB h h' T:=⟨x.len,λa o ht e=>x.at' a o (λq=>ht (hs a q)) e⟩
theorem cB.app {h t:MH}{S:List Nat}:cB h (h++t) S:=⟨by rw [Qv];exact Qd _ _,λ_ _ _ e=>aB e⟩
theorem cB.set {h:MH}{a:Nat}{o:MObj}:cB h (h.set a o) [a]:=⟨by rw [QS];exact Qi _,λb x hb e=>a7 (λq=>hb (q▸ .head _)) e⟩
section
variable {R:Rg}{d:Nat}{h h0:MH}{Q:Val->MH->Prop}{L:Ly}{M:Mc R.α}
theorem eL.mono {r:Nat}{xs:List (Ar R.α)}{h':MH} (x:eL R h r xs) (hk: ∀ (a:Nat) (o:MObj),h[a]?=some o->(∃x,o=dC R x)\/a=r->h'[a]?=some o):eL R h' r xs:=by
 refine Jd x λas zq1=>?_;exact ⟨as,hk _ _ zq1.1 (.inr rfl),zq1.2.1,λj a x ha hx=>hk _ _ (zq1.2.2 j a x ha hx) (.inl ⟨x,rfl⟩)⟩
theorem IsM.app {t:MH} (I:IsM R h L M):IsM R (h++t) L M:=
 ⟨aB I.obj,aB I.arcs,aB I.ends,I.len,I.lenE,λk r xs hr hx=>(I.rows k r xs hr hx).mono λa o e _=>aB e,I.nd,I.lim,I.ct,I.cl,I.ds.to λ_ _ _ e=>aB e⟩
theorem cA (I:IsM R h L M):getAttr P0 h (.ref L.m) k_ring=some (.top (112+R.i)):=ga I.obj rfl rfl
theorem jQ (I:IsM R h L M):getAttr P0 h (.ref L.m) k_ends=some (.ref L.aE):=ga I.obj rfl rfl
theorem dZ (I:IsM R h L M):getAttr P0 h (.ref L.m) k_arcs=some (.ref L.aA):=ga I.obj rfl rfl
theorem fW (I:IsM R h L M):getAttr P0 h (.ref L.m) k_start=some (.int M.start):=ga I.obj rfl rfl
theorem i8 (I:IsM R h L M):getAttr P0 h (.ref L.m) k_first=some (R.e M.first):=ga I.obj rfl rfl
theorem zdn (I:IsM R h L M) (d:Nat):aP (Cxd P0 d) (.bi 7103854) [.ref L.aA] h=some (.int M.arcs.length,h):=W.eq (uA I.arcs (by rw [Qh,I.len];exact two _ _))
theorem zcS (hd:1<=d) (I:IsM R h L M) (q:Q (.int M.arcs.length) h):WF P0 d 174 [.ref L.m] h Q:=by
 refine bD (K:=0) hd (some (.ref L.m)::nn 6) bd_Machine_size (by kernel_rfl) λd' h'=>?_;exact run (.v (dZ I)<| .p (zdn I d')<| .z (q)) (by kernel_rfl)
theorem zft {k:Nat} (hd:2<=d) (I:IsM R h L M) (hk:k<M.arcs.length) (q:Q (.int k) h):WF P0 d 170 [.ref L.m,.int k] h Q:=by
 refine bD (K:=1) hd (some (.ref L.m)::some (.int k)::nn 6) bd_Machine_need_state (by kernel_rfl) λd' h'=>?_;exact run (.v (dZ I)<| .p (zdn I d')<| .c<| .p (fn (as:=[.int k,.int 0,.int ((M.arcs.length:Int) -1),.str [115,116,97,116,101]]) rfl (zc2 h' (ZG _) (by lia) (two (.int k) h)))<| .z (q)) (by kernel_rfl)
theorem zir {n f:Nat} (I:IsM R h L M) (hn:hH [(k_ring,.top (112+R.i)),(k_arcs,.ref L.aA),(k_ends,.ref L.aE),(k_start,.int M.start),(k_first,R.e M.first),(k_count,.int M.cnt)] n=none) (hm:jN P0 121 n=some f):cP P0 h (.ref L.m) n=some (f,[.ref L.m]):=bY I.obj hn hm
end
end Tactic
namespace Tactic
open Internal
section
variable {R:Rg}{d:Nat}{h h0:MH}{Q:Val->MH->Prop}{L:Ly}{M:Mc R.α}
theorem ne_of {a b:Nat}{o p:MObj} (e1:h[a]?=some o) (e2:h[b]?=some p) (hn:o≠p):a≠b:=λq=>hn (by subst q;exact Qy.inj (e1.symm.trans e2))
theorem IsM.mA (I:IsM R h L M):L.m≠L.aA:=ne_of I.obj I.arcs nofun
theorem IsM.mE (I:IsM R h L M):L.m≠L.aE:=ne_of I.obj I.ends nofun
theorem IsM.AE (I:IsM R h L M):L.aA≠L.aE:=λq=>(Qx.mp I.nd).1 (q▸ .head _)
theorem IsM.A_nr (I:IsM R h L M):L.aA∉L.rows:=λq=>(Qx.mp I.nd).1 (.tail _ q)
theorem IsM.E_nr (I:IsM R h L M):L.aE∉L.rows:=(Qx.mp (Qx.mp I.nd).2).1
theorem IsM.nr (I:IsM R h L M):L.rows.Nodup:=(Qx.mp (Qx.mp I.nd).2).2
theorem IsM.row (I:IsM R h L M) {k:Nat} (hk:k<M.arcs.length): ∃r,L.rows[k]?=some r/\eL R h r M.arcs[k]:=by
 exact ⟨_,Qc (by rw [I.len];exact hk:k<L.rows.length),I.rows k _ _ (Qc (by rw [I.len];exact hk:k<L.rows.length)) (Qc hk)⟩
theorem IsM.r_lt (I:IsM R h L M) {r:Nat} (hr:r∈L.rows):r<h.length:=by
 obtain ⟨k,hk,rfl⟩:=ZW.mp hr;obtain ⟨r,h1,as,h2,_⟩:=I.row (k:=k) (by rw [<-I.len];exact hk);rw [Qc hk] at h1;cases h1;exact bE h2
theorem IsM.m_nr (I:IsM R h L M):L.m∉L.rows:=λq=>by
 obtain ⟨k,hk,e⟩:=ZW.mp q;obtain ⟨r,h1,as,h2,_⟩:=I.row (k:=k) (by rw [<-I.len];exact hk);rw [Qc hk,e] at h1;cases h1;exact ne_of I.obj h2 nofun rfl
theorem zcU {n:Nat} (hd:1<=d) (I:IsM R h L M) (hn:M.arcs.length+n<=20000) (q:Q .none h):WF P0 d 167 [.ref L.m,.int n] h Q:=by
 refine bD (K:=0) hd (some (.ref L.m)::some (.int n)::nn 6) bd_Machine__need_room (by kernel_rfl) λd' h'=>?_;exact run (.v (dZ I)<| .p (zdn I d')<| .c2<| .f (decide_eq_false (p:=(20000:Int)<M.arcs.length+n) (by lia))<| .z (q)) (by kernel_rfl)
theorem zgo (z:Cx) {a:Nat}{vs us:List Val} (v:Val) (h0a:h0[a]?=some (.list us)) (ha:h[a]?=some (.list vs)) (hl:vs.length<1000000):bI z (.ref a) nAppend [v] h0 h=some (.none,h.set a (.list (vs++ [v]))):=W.eq (mX h0a ha hl (two _ _))
theorem zeh {n:Nat} (hd:1<=d) (I:IsM R h L M) (hn:M.arcs.length+n<=20000):bI (Cxd P0 d) (.ref L.m) 450661264077055929053037 [.int n] h h=some (.none,h):=me (bY I.obj rfl rfl) (zcU hd I hn (two _ _))
def Ly.more (L:Ly) (r:Nat):Ly:= {L with rows:=L.rows++ [r]}
def Mc.more (M:Mc R.α):Mc R.α:= {M with arcs:=M.arcs++ [[]],ends:=M.ends++ [R.zero]}
def tA (h:MH) (L:Ly):MH:=(h++ [MObj.list []]).set L.aA (MObj.list (L.rows.map Val.ref++ [Val.ref h.length]))
def iI (R:Rg) (h:MH) (L:Ly) (M:Mc R.α):MH:=(tA h L).set L.aE (MObj.list (M.ends.map R.e++ [R.e R.zero]))
section
variable {a:Nat}{o:MObj}
theorem gI (e:(h++ [MObj.list []])[a]?=some o) (h1:a≠L.aA):(tA h L)[a]?=some o:=a7 (JC h1) e
theorem gH (e:(h++ [MObj.list []])[a]?=some o) (h1:a≠L.aA) (h2:a≠L.aE):(iI R h L M)[a]?=some o:=a7 (JC h2) (gI e h1)
theorem zc5 (I:IsM R h L M) {r:Nat}{xs:List (Ar R.α)} (hm:r∈L.rows) (hr:eL R h r xs):eL R (iI R h L M) r xs:=hr.mono λa o e ho=>gH (aB e) (ho.elim (λ⟨_,q⟩=>ne_of e I.arcs (q▸nofun)) λq p=>I.A_nr (p▸q▸hm)) (ho.elim (λ⟨_,q⟩=>ne_of e I.ends (q▸nofun)) λq p=>I.E_nr (p▸q▸hm))
end
theorem i6 {α:Type}{l:List α}{x:α}:(l++ [x]).length=l.length+1:=by rw [Qv,YA]
theorem vQ {α β:Type}{l:List α}{m:List β}{x z:α}{y w:β}{k:Nat} (hl:l.length=m.length) (h1:(l++ [x])[k]?=some z) (h2:(m++ [y])[k]?=some w):(l[k]?=some z/\m[k]?=some w)\/(z=x/\w=y):=by
 by_cases hk:k<l.length
 ·rw [JN hk] at h1
  rw [JN (hl▸hk)] at h2;exact .inl ⟨h1,h2⟩
 ·have e:k=l.length:=Ka (QM (Qf (aJ h1) (QA i6))) (ZV.mp hk)
  subst e;rw [J5 (Qi _),Yp] at h1;rw [hl,J5 (Qi _),Yp] at h2;exact .inr ⟨(Qy.inj h1).symm,(Qy.inj h2).symm⟩
theorem zaA (I:IsM R h L M) (k r:Nat) (xs:List (Ar R.α)) (hr:(L.rows++ [h.length])[k]?=some r) (hx:(M.arcs++ [[]])[k]?=some xs):eL R (iI R h L M) r xs:=by
 rcases vQ I.len hr hx with ⟨h1,h2⟩| ⟨rfl,rfl⟩
 ·exact zc5 I (Qe h1) (I.rows k r xs h1 h2)
 ·exact ⟨[],gH aX (JL (bE I.arcs)) (JL (bE I.ends)),rfl,λj a x ha=>nomatch ha⟩
theorem zc4 (I:IsM R h L M):(L.aA::L.aE::(L.rows++ [h.length])).Nodup:=by
 rw [<-ZD,<-ZD];refine Zc.mpr ⟨I.nd,Qx.mpr ⟨Qr,.nil⟩,λa ha b hb e=>?_⟩;rw [Qw.mp hb] at e;subst e;rcases QH.mp ha with e|ha
 ·exact absurd (e▸bE I.arcs) (Q4 _)
 ·rcases QH.mp ha with e|ha
  ·exact absurd (e▸bE I.ends) (Q4 _)
  ·exact absurd (I.r_lt ha) (Q4 _)
theorem zc6 (I:IsM R h L M):Dst (iI R h L M) (L.rows++ [h.length]) L.m:=by
 obtain ⟨ads,n,b,q⟩:=I.ds.to (h':=iI R h L M) λr hr o e=>gH (aB e) (λq=>I.A_nr (q▸hr)) λq=>I.E_nr (q▸hr);refine ⟨ads++ [[]],by rw [YU,QU];exact n,by rw [YU,QU];exact b,?_⟩;rw [QL,QL,q,KY,gH aX (JL (bE I.arcs)) (JL (bE I.ends))];rfl
theorem IsM.more (I:IsM R h L M) (hl:M.arcs.length<10000):IsM R (iI R h L M) (L.more h.length) M.more where
 obj:=gH (aB I.obj) I.mA I.mE
 arcs:=(a7 (JC I.AE) (bH (aB I.arcs))).trans (by rw [<-KY,<-QL];rfl)
 ends:=(bH (gI (aB I.ends) (JC I.AE))).trans (by rw [<-KY,<-QL];rfl)
 len:=i6.trans ((congrArg (· +1) I.len).trans i6.symm)
 lenE:=i6.trans ((congrArg (· +1) I.lenE).trans i6.symm)
 rows:=zaA I
 nd:=zc4 I
 lim:=(show (M.arcs++ [[]]).length<=10000 from i6▸hl)
 ct:=(show ((M.arcs++ [[]]).map JW).sum=M.cnt by rw [QL,KH];exact I.ct)
 cl:=I.cl
 ds:=zc6 I
theorem more_kept:cB h (iI R h L M) [L.aA,L.aE]:=⟨by unfold iI tA;rw [QS,QS,i6];exact Jv _,λa o ha e=>gH (aB e) (λq=>ha (q▸ .head _)) λq=>ha (q▸ .tail _ (.head _))⟩
theorem qB (hd:2<=d) (I:IsM R h L M) (hl:M.arcs.length<10000) (q: ∀h',IsM R h' (L.more h.length) M.more->cB h h' [L.aA,L.aE]->Q (.int M.arcs.length) h'):WF P0 d 168 [.ref L.m] h Q:=by
 refine bD (K:=1) hd (some (.ref L.m)::nn 6) bd_Machine_state (by kernel_rfl) λd' h'=>?_;have J:=I.more hl;have e4:((M.more.arcs.length:Nat):Int) -1=M.arcs.length:=by
  rw [show M.more.arcs.length=M.arcs.length+1 from i6,XG];exact Int.add_sub_cancel ..
 exact run (.p (zeh (n:=1) h' I (Qa (Q8 (QJ hl)) (by decide)))<| .v (dZ I)<| .at (h++ [MObj.list []])<| .p (zgo (Cxd P0 d') (.ref h.length) I.arcs (aB (t:=[MObj.list []]) I.arcs) (by rw [Qh,I.len];exact Q9 hl (by decide)))<| .v ((ga (gI (aB I.obj) I.mA:(tA h L)[L.m]?=some (mO R L M)) rfl rfl:getAttr P0 (tA h L) (.ref L.m) k_ends=some (.ref L.aE)))<| .v ((ga (gI (aB I.obj) I.mA:(tA h L)[L.m]?=some (mO R L M)) rfl rfl:getAttr P0 (tA h L) (.ref L.m) k_ring=some (.top (112+R.i))))<| .w (R.no)<| .p (zgo (Cxd P0 d') (R.e R.zero) (gI (h:=h) (aB I.ends) (JC I.AE)) (gI (h:=h) (aB I.ends) (JC I.AE)) (by rw [Qh,I.lenE];exact Q9 hl (by decide)))<| .v (dZ J)<| .p (zdn J d')<| .c<| .z ((show Q (.int ((M.more.arcs.length:Int) -1)) (iI R h L M) by rw [e4];exact q _ J more_kept))) (by kernel_rfl)
end
end Tactic
namespace Tactic
open Internal
section
variable {R:Rg}{d:Nat}{h h0:MH}{Q:Val->MH->Prop}{L:Ly}{M:Mc R.α}
theorem oD {a k n:Nat}{fs fs':List (Nat×Val)}{v:Val}{o:MObj} (ha:h[a]?=some o) (hf:P0.hasFld k n=true) (hl:fs.length<400) (e:fput fs n v=fs'):setAttr P0 (h.set a (.inst k fs)) (.ref a) n v=some (h.set a (.inst k fs')):=(wG (bH ha) hf hl).trans (by rw [Wj,e])
theorem zbJ {a:Nat}{up lo:List Nat}{w:R.α}{t:Nat} (hd:1<=d) (ha:h[a]?=some (.inst 118 [])) (q:Q .none (h.set a (dC R ⟨up,lo,w,t⟩))):WF P0 d 166 [.ref a,.str up,.str lo,R.e w,.int t] h Q:=by
 refine bD (K:=0) hd (some (.ref a)::some (.str up)::some (.str lo)::some (R.e w)::some (.int t)::nn 6) bd_Arc_init (by kernel_rfl) λd' h'=>?_;exact run (.h ((wG ha rfl (by decide):setAttr P0 h (.ref a) k_upper (.str up)=some (h.set a (.inst 118 [(k_upper,.str up)]))))<| .h ((oD (k:=118) (n:=k_lower) (fs:=[(k_upper,.str up)]) (v:=.str lo) ha rfl (by decide:1<400) rfl))<| .h ((oD (k:=118) (n:=k_weight) (fs:=[(k_upper,.str up),(k_lower,.str lo)]) (v:=R.e w) ha rfl (by decide:2<400) rfl))<| .h ((oD (k:=118) (n:=k_target) (fs:=[(k_upper,.str up),(k_lower,.str lo),(k_weight,R.e w)]) (v:=.int t) ha rfl (by decide:3<400) rfl))<| .z ((show Internal.Fin Q .nx [] (h.set a (dC R ⟨up,lo,w,t⟩)) from q))) (by kernel_rfl)
theorem zbF {x:Ar R.α}:dC R x≠mO R L M:=λe=>by
 injection e with e1 e2;exact absurd e1 (by decide)
def Mc.arc (M:Mc R.α) (s:Nat) (a:Ar R.α):Mc R.α:= {M with arcs:=M.arcs.set s (M.arcs[s]?.getD []++ [a]),cnt:=M.cnt+1}
def rV (R:Rg) (h:MH) (L:Ly) (M:Mc R.α):MH:=h.set L.m (mO R L {M with cnt:=M.cnt+1})
def l8 (R:Rg) (h:MH) (L:Ly) (M:Mc R.α) (a:Ar R.α) (r:Nat) (as:List Nat):MH:=(rV R h L M++ [dC R a]).set r (.list (as.map Val.ref++ [Val.ref h.length]))
theorem lenG:(rV R h L M).length=h.length:=QS ..
section
variable {a:Ar R.α}{s r b:Nat}{as:List Nat}{o:MObj}
theorem iV (e:h[b]?=some o) (h1:b≠L.m):(rV R h L M)[b]?=some o:=a7 (JC h1) e
theorem gO (e:h[b]?=some o) (h1:b≠L.m) (h2:b≠r):(l8 R h L M a r as)[b]?=some o:=a7 (JC h2) (aB (iV e h1))
theorem zbH (hr:r<h.length):(l8 R h L M a r as)[h.length]?=some (dC R a):=a7 (Zy hr) ((congrArg (λn=>(rV R h L M++ [dC R a])[n]?) lenG.symm).trans aX)
theorem zbG (hr:r∈L.rows):cB h (l8 R h L M a r as) (own L):=⟨by unfold l8;rw [QS,i6,lenG];exact Jv _,λb o hb e=>gO e (λq=>hb (q▸ .head _)) λq=>hb (q▸ .tail _ (.tail _ (.tail _ hr)))⟩
structure yP (R:Rg) (h:MH) (L:Ly) (M:Mc R.α) (s r:Nat) (as:List Nat) (xs:List (Ar R.α)):Prop where
 i:L.rows[s]?=some r
 x:M.arcs[s]?=some xs
 a:h[r]?=some (.list (as.map Val.ref))
 l:as.length=xs.length
 o: ∀ (j b:Nat) (x:Ar R.α),as[j]?=some b->xs[j]?=some x->h[b]?=some (dC R x)
theorem zbD {xs:List (Ar R.α)} (I:IsM R h L M) (W:yP R h L M s r as xs):eL R (l8 R h L M a r as) r (xs++ [a]):=by
 have hm:=Qe W.i;refine ⟨as++ [h.length],?_,i6.trans ((congrArg (· +1) W.l).trans i6.symm),λj b x hb hx=>?_⟩
 ·rw [QL];exact bH (aB (iV W.a λq=>I.m_nr (q▸hm)))
 ·rcases vQ W.l hb hx with ⟨h1,h2⟩| ⟨rfl,rfl⟩
  ·exact gO (W.o j b x h1 h2) (ne_of (W.o j b x h1 h2) I.obj zbF) (ne_of (W.o j b x h1 h2) W.a nofun)
  ·exact zbH (I.r_lt hm)
theorem yK {xs:List (Ar R.α)}{k r':Nat}{ys:List (Ar R.α)} (I:IsM R h L M) (W:yP R h L M s r as xs) (hk:s≠k) (hr:L.rows[k]?=some r') (hy:M.arcs[k]?=some ys):eL R (l8 R h L M a r as) r' ys:=by
 have hn:r'≠r:=λq=>by
  subst q;obtain ⟨l1,e1⟩:=Qn.mp W.i;obtain ⟨l2,e2⟩:=Qn.mp hr;exact hk (Kv I.nr|>.mp (e1.trans e2.symm))
 exact (I.rows k r' ys hr hy).mono λb o e ho=>gO e (ho.elim (λ⟨_,q⟩=>ne_of e I.obj (q▸zbF)) λq p=>I.m_nr (p▸q▸(Qe hr))) (ho.elim (λ⟨_,q⟩=>ne_of e W.a (q▸nofun)) λq=>q▸hn)
theorem g8 {l:List Nat}{k r:Nat} (h:l[k]?=some r):(l.map Val.ref)[k]?=some (.ref r):=by rw [Qu,h];rfl
theorem IsM.ad_lt (I:IsM R h L M) {as:List Nat}{k r:Nat} (hr:L.rows[k]?=some r) (ha:h[r]?=some (.list (as.map Val.ref))): ∀b∈as,b<h.length:=λb hb=>by
 have hk:k<M.arcs.length:=I.len▸aJ hr;refine Jd (I.rows k r _ hr (Qc hk)) λas' zq15=>?_;have h1:=zq15.1;refine (KB hb).elim λj zq14=>?_;rw [ha] at h1;have e1:(as'.map Val.ref)[j]?=some (.ref b):=(zhu h1:as.map Val.ref=as'.map Val.ref)▸g8 zq14;rw [Qu] at e1;refine (JK.mp e1).elim λb' zq13=>?_;have e3:=zq13.2;cases e3;exact bE (zq15.2.2 j _ _ zq13.1 (Qc (zq15.2.1▸aJ zq13.1:j<M.arcs[k].length)))
theorem zfx {l:List (List Nat)}{s x:Nat}{as:List Nat} (n:l.flatten.Nodup) (hs:l[s]?=some as) (hx: ∀bs∈l,x∉bs):(l.set s (as++ [x])).flatten.Nodup:=by
 refine (Qn.mp hs).elim λh zq12=>?_;obtain rfl:=zq12;have e:=Zq s l;rw [Zs h] at e;have hf:x∉l.flatten:=λq=>let ⟨bs,h1,h2⟩:=ZX.mp q;hx bs h1 h2;rw [List.set_eq_take_append_cons_drop,if_pos h,Z4,Zx];rw [(by conv=>lhs;rw [<-e,Z4,Zx]:l.flatten=(l.take s).flatten++(l[s]++(l.drop (s+1)).flatten))] at n hf;rw [Qt,List.singleton_append,<-Qt];refine Kr.nodup_iff.mpr (Qx.mpr ⟨?_,?_⟩)
 ·rw [Qt];exact hf
 ·rw [Qt];exact n
theorem zgn {xs:List (Ar R.α)} (I:IsM R h L M) (W:yP R h L M s r as xs):Dst (l8 R h L M a r as) L.rows L.m:=by
 refine Jd I.ds λads zq11=>?_;have n:=zq11.1;have b:=zq11.2.1;have q:=zq11.2.2;have g: ∀ (k:Nat),(L.rows.map λr=>h[r]?)[k]?=L.rows[k]?.map λr=>h[r]?:=λk=>Qu ..;have g2: ∀ (k:Nat),(L.rows.map λr=>h[r]?)[k]?=ads[k]?.map λas=>some (.list (as.map .ref)):=λk=>by rw [q];exact Qu ..
 have hs:ads[s]?=some as:=by
  have e:=(g s).symm.trans (g2 s);rw [W.i,Yy,W.a] at e;refine (JK.mp e.symm).elim λas' zq10=>?_;rw [zq10.1];exact congrArg some (zii zq10.2)
 refine ⟨ads.set s (as++ [h.length]),zfx n hs λbs hb hx=>?_,λx hx=>?_,?_⟩
 ·refine (KB hb).elim λk zq9=>?_
  have e:=(g k).symm.trans (g2 k);rw [zq9] at e;refine (JK.mp e).elim λr' zq8=>?_;exact Q4 _ (I.ad_lt zq8.1 zq8.2 _ hx)
 ·obtain ⟨bs,hb,hx⟩:=ZX.mp hx
  rcases J7 hb with hb|rfl
  ·exact b x (ZX.mpr ⟨bs,hb,hx⟩)
  ·rcases QX.mp hx with hx|hx
   ·exact b x (ZX.mpr ⟨as,Qe hs,hx⟩)
   ·rw [Qw.mp hx];exact bE I.obj
 ·refine Xu λk=>?_
  rw [Qu,Qu];by_cases e:s=k
  ·subst e
   rw [W.i,QP (aJ hs),Yy,Yy,QL];exact congrArg some (bH (aB (iV W.a λq=>I.m_nr (q▸(Qe W.i)))))
  ·rw [QO e,<-g2 k,g k]
   cases hr:L.rows[k]? with
   |none=>rfl
   |some r'=>
    obtain ⟨o,ho⟩: ∃o,h[r']?=some o:=⟨_,Qc (I.r_lt (Qe hr))⟩;have hn:r'≠r:=λq=>by
     subst q;obtain ⟨l1,e1⟩:=Qn.mp W.i;obtain ⟨l2,e2⟩:=Qn.mp hr;exact e (Kv I.nr|>.mp (e1.trans e2.symm))
    show some (l8 R h L M a r as)[r']?=some h[r']?;rw [ho,gO ho (λq=>I.m_nr (q▸(Qe hr))) hn]
theorem IsM.arc {xs:List (Ar R.α)} (I:IsM R h L M) (W:yP R h L M s r as xs) (hc:M.cnt<100000):IsM R (l8 R h L M a r as) L (M.arc s a):=by
 have hm:=Qe W.i;have hs:=aJ W.x;refine ⟨a7 (λq=>I.m_nr (q▸hm)) (aB (bH I.obj)),gO I.arcs (JC I.mA) λq=>I.A_nr (q▸hm),gO I.ends (JC I.mE) λq=>I.E_nr (q▸hm),I.len.trans (QS ..).symm,I.lenE.trans (QS ..).symm,λk r' ys hr hy=>?_,I.nd,Qa (QA (QS ..)) I.lim,?_,hc,zgn I W⟩
 ·have hy:(M.arcs.set s (M.arcs[s]?.getD []++ [a]))[k]?=some ys:=hy
  rw [(by rw [W.x];rfl:M.arcs[s]?.getD []=xs)] at hy;by_cases hk:s=k
  ·subst hk
   rw [QP hs] at hy;cases hy;cases W.i.symm.trans hr;exact zbD I W
  ·rw [QO hk] at hy
   exact yK I W hk hr hy
 ·show ((M.arcs.set s (M.arcs[s]?.getD []++ [a])).map JW).sum=M.cnt+1
  rw [(by rw [W.x];rfl:M.arcs[s]?.getD []=xs),<-(Qn.mp W.x).2];exact (u7 hs).trans (congrArg (· +1) I.ct)
theorem IsM.rwAt (I:IsM R h L M) (hs:s<M.arcs.length): ∃r as,yP R h L M s r as M.arcs[s]:=by
 refine (I.row hs).elim λr zq3=>Jd zq3.2 λas zq4=>?_;exact ⟨r,as,zq3.1,Qc hs,zq4.1,zq4.2.1,zq4.2.2⟩
end
theorem zhF (I:IsM R h L M):getAttr P0 h (.ref L.m) k_count=some (.int M.cnt):=ga I.obj rfl rfl
theorem za1 {k:Nat} (hd:2<=d) (I:IsM R h L M) (hk:k<M.arcs.length):bI (Cxd P0 d) (.ref L.m) 521330740336550618428517 [.int k] h h=some (.int k,h):=me (bY I.obj rfl rfl) (zft hd I hk (two (.int k) h))
theorem zc0 (a:Ar R.α) (hd:1<=d):aP (Cxd P0 d) (.top 118) [.str a.up,.str a.lo,R.e a.w,.int a.t] h=some (.ref h.length,h++ [dC R a]):=W.eq (yT (i:=166) rfl rfl (zbJ (up:=a.up) (lo:=a.lo) (w:=a.w) (t:=a.t) hd aX ⟨rfl,rfl,j3⟩))
theorem ziA {s:Nat}{a:Ar R.α}{p k:Nat} (hd:4<=d) (I:IsM R h L M) (hs:s<M.arcs.length) (ht:a.t<M.arcs.length) (lu:lab a.up) (ll:lab a.lo) (hw:R.D p k a.w) (hl:4*p+k<=3800) (hc:M.cnt<100000) {r:Nat}{as:List Nat} (W:yP R h L M s r as M.arcs[s])
  (q0:a.w=R.zero->Q .none h) (q1:a.w≠R.zero->Q .none (l8 R h L M a r as)):WF P0 d 171 [.ref L.m,.int s,.str a.up,.str a.lo,R.e a.w,.int a.t] h Q:=by
 refine bD (K:=3) hd (some (.ref L.m)::some (.int s)::some (.str a.up)::some (.str a.lo)::some (R.e a.w)::some (.int a.t)::nn 6) bd_Machine_arc (by kernel_rfl) λd' h'=>?_;have e1:setAttr P0 h (.ref L.m) k_count (.int ((M.cnt:Int)+1))=some (rV R h L M):=wG I.obj rfl (by decide:6<400);have r1:=iV (R:=R) (M:=M) W.a λq=>I.m_nr (q▸Qe W.i);have e4:=zc0 (h:=rV R h L M) (d:=d') a (Qa (by decide) h');rw [lenG] at e4;exact run (.p (za1 (Qa (by decide) h':2<=d') I hs)<| .p (za1 (Qa (by decide) h':2<=d') I ht)<| .p (fn (as:=[.str a.up]) rfl (u4 h' lu (two (.str a.up) h)))<| .p (fn (as:=[.str a.lo]) rfl (u4 h' ll (two (.str a.lo) h)))<| .v (cA I)<| .q (R.nd h' hw hl)<| .v (cA I)<| .w (R.no)<| .k (R.qe a.w R.zero)<| .br (@decide (a.w=R.zero) (R.deq a.w R.zero)) (λhz=> .z (q0 (dT hz))) (λhz=> .v (zhF I)<| .c<| .f (decide_eq_false (p:=(200000:Int)<=M.cnt) (Xc.mpr (JG.mpr (Q9 hc (by decide)))))<| .v (zhF I)<| .c<| .h (e1)<| .v ((ga (bH I.obj) rfl rfl:getAttr P0 (rV R h L M) (.ref L.m) k_arcs=some (.ref L.aA)))<| .v ((sl (iV I.arcs (JC I.mA)) (g8 W.i):bJ (rV R h L M) (.ref L.aA) (.int s)=some (.ref r)))<| .p (e4)<| .p ((zgo (Cxd P0 d') (.ref h.length) r1 (aB (t:=[dC R a]) r1) (by rw [Qh,W.l];exact Qk (I.cr _ (Jk hs)) (Q9 hc (by decide)))))<| .z ((show Internal.Fin Q .nx [] (l8 R h L M a r as) from q1 (dF hz))))) (by kernel_rfl)
theorem zbE {s:Nat}{a:Ar R.α}{p k:Nat} (hd:4<=d) (I:IsM R h L M) (hs:s<M.arcs.length) (ht:a.t<M.arcs.length) (lu:lab a.up) (ll:lab a.lo) (hw:R.D p k a.w) (hl:4*p+k<=3800) (hc:M.cnt<100000)
  (q: ∀h' M',IsM R h' L M'->cB h h' (own L) ->(a.w=R.zero->M'=M) ->(a.w≠R.zero->M'=M.arc s a) ->Q .none h'):WF P0 d 171 [.ref L.m,.int s,.str a.up,.str a.lo,R.e a.w,.int a.t] h Q:=by
 refine (I.rwAt hs).elim λr zq1=>zq1.elim λas zq2=>?_;exact ziA hd I hs ht lu ll hw hl hc zq2 (λe=>q h M I .refl (λ_=>rfl) λhn=>absurd e hn) λe=>q _ _ (I.arc zq2 hc) (zbG (Qe zq2.i)) (λh=>absurd h e) λ_=>rfl
end
end Tactic
namespace Tactic
open Internal
section
variable {R:Rg}{d:Nat}{h h0:MH}{Q:Val->MH->Prop}{L:Ly}{M:Mc R.α}
theorem IsM.setM {M':Mc R.α} (I:IsM R h L M) (e1:M'.arcs=M.arcs) (e2:M'.ends=M.ends) (e3:M'.cnt=M.cnt):IsM R (h.set L.m (mO R L M')) L M':=by
 refine ⟨bH I.obj,a7 I.mA I.arcs,a7 I.mE (e2▸I.ends),e1▸I.len,by rw [e1,e2];exact I.lenE,λk r xs hr hx=>?_,I.nd,e1▸I.lim,by rw [e1,e3];exact I.ct,e3▸I.cl,I.ds.to λr hr _ e=>a7 (λq=>I.m_nr (q▸hr)) e⟩;rw [e1] at hx;refine (I.rows k r xs hr hx).mono λa o e ho=>a7 ?_ e;rcases ho with ⟨x,rfl⟩|rfl
 ·exact JC (ne_of e I.obj zbF)
 ·exact λq=>I.m_nr (q▸Qe hr)
theorem zeb {L:Ly}:L.m∈own L:= .head _
theorem zhb {L:Ly}:L.aE∈own L:= .tail _ (.tail _ (.head _))
theorem zae {h:MH}{o:MObj}{L:Ly}{a:Nat} (ha:a∈own L):cB h (h.set a o) (own L):=cB.set.sub λb hb=>by rw [Qw.mp hb];exact ha
theorem rQ {s p k:Nat}{w:R.α} (hd:4<=d) (I:IsM R h L M) (hs:s<M.arcs.length) (hw:R.D p k w) (hl:4*p+k<=3800) (q: ∀h',IsM R h' L {M with start:=s,first:=w} ->cB h h' (own L) ->Q .none h'):WF P0 d 172 [.ref L.m,.int s,R.e w] h Q:=by
 refine bD (K:=3) hd (some (.ref L.m)::some (.int s)::some (R.e w)::nn 6) bd_Machine_begin (by kernel_rfl) λd' h'=>?_;have e1:setAttr P0 h (.ref L.m) k_first (R.e w)=some (h.set L.m (mO R L {M with first:=w})):=wG I.obj rfl (by decide:6<400);have e2:setAttr P0 (h.set L.m (mO R L {M with first:=w})) (.ref L.m) k_start (.int s)=some ((h.set L.m (mO R L {M with first:=w})).set L.m (mO R L {M with start:=s,first:=w})):=wG (I.setM (M':= {M with first:=w}) rfl rfl rfl).obj rfl (by decide:6<400);exact run (.p (za1 (Qa (by decide) h') I hs)<| .b (R.isv w)<| .c<| .v (cA I)<| .q (R.nd h' hw hl)<| .h (e1)<| .h (e2)<| .z ((show Internal.Fin Q .nx [] ((h.set L.m (mO R L {M with first:=w})).set L.m (mO R L {M with start:=s,first:=w})) from q _ ((I.setM (M':= {M with first:=w}) rfl rfl rfl).setM (M':= {M with start:=s,first:=w}) rfl rfl rfl) ((zae zeb).trans (zae zeb))))) (by kernel_rfl)
theorem IsM.setE {s:Nat}{w:R.α} (I:IsM R h L M):IsM R (h.set L.aE (.list ((M.ends.set s w).map R.e))) L {M with ends:=M.ends.set s w}:=by
 refine ⟨a7 (JC I.mE) I.obj,a7 (JC I.AE) I.arcs,bH I.ends,I.len,(QS ..).trans I.lenE,λk r xs hr hx=>?_,I.nd,I.lim,I.ct,I.cl,I.ds.to λr hr _ e=>a7 (λq=>I.E_nr (q▸hr)) e⟩;refine (I.rows k r xs hr hx).mono λa o e ho=>a7 ?_ e;rcases ho with ⟨x,rfl⟩|rfl
 ·exact JC (ne_of e I.ends nofun)
 ·exact λq=>I.E_nr (q▸Qe hr)
theorem map_set' {α β:Type}{f:α->β}{l:List α}{i:Nat}{x:α}:(l.map f).set i (f x)=(l.set i x).map f:=(List.map_set ..).symm
theorem oK {s:Nat} (w:R.α) (I:IsM R h L M) (hs:s<M.arcs.length): ∃g,cS h (.ref L.aE) (.int s) (R.e w)=some g/\IsM R g L {M with ends:=M.ends.set s w} /\cB h g (own L):=
 ⟨_,(zfb I.ends (by rw [Qh,I.lenE];exact hs)).trans (by rw [map_set']),I.setE,zae zhb⟩
theorem zfY {s p k:Nat}{w:R.α} (hd:4<=d) (I:IsM R h L M) (hs:s<M.arcs.length) (hw:R.D p k w) (hl:4*p+k<=3800) (q: ∀h',IsM R h' L {M with ends:=M.ends.set s w} ->cB h h' (own L) ->Q .none h'):WF P0 d 173 [.ref L.m,.int s,R.e w] h Q:=by
 refine (oK w I hs).elim λg zq2=>?_;refine bD (K:=3) hd (some (.ref L.m)::some (.int s)::some (R.e w)::nn 6) bd_Machine_end (by kernel_rfl) λd' h'=>?_;exact run (.p (za1 (Qa (by decide) h') I hs)<| .b (R.isv w)<| .c<| .v (cA I)<| .q (R.nd h' hw hl)<| .v (jQ I)<| .h (zq2.1)<| .z ((show Internal.Fin Q .nx [] g from q g zq2.2.1 zq2.2.2))) (by kernel_rfl)
theorem zdu {s:Nat} (hd:4<=d) (I:IsM R h L M) (hs:s<M.arcs.length) (q: ∀h',IsM R h' L {M with ends:=M.ends.set s R.one} ->cB h h' (own L) ->Q .none h'):WF P0 d 173 [.ref L.m,.int s] h Q:=by
 refine (oK R.one I hs).elim λg zq1=>?_;refine bD (K:=3) hd (some (.ref L.m)::some (.int s)::some (.top 120)::nn 6) bd_Machine_end (by kernel_rfl) λd' h'=>?_;exact run (.p (za1 (Qa (by decide) h') I hs)<| .c2<| .v (cA I)<| .w (R.on)<| .v (jQ I)<| .h (zq1.1)<| .z ((show Internal.Fin Q .nx [] g from q g zq1.2.1 zq1.2.2))) (by kernel_rfl)
def M0:Mc R.α:=⟨[],[],0,R.one,0⟩
theorem kQ {k n:Nat}{fs fs':List (Nat×Val)}{v:Val}{t:MH} (hf:P0.hasFld k n=true) (hl:fs.length<400) (e:fput fs n v=fs'):setAttr P0 (h++ .inst k fs::t) (.ref h.length) n v=some (h++ .inst k fs'::t):=(wG aX hf hl).trans (by rw [j3,e])
theorem uQ {k n j:Nat}{fs fs':List (Nat×Val)}{t:MH} (hj:t.length+1=j) (hf:P0.hasFld k n=true) (hl:fs.length<400) (e:fput fs n (.ref (h.length+j))=fs'):setAttr P0 (h++ .inst k fs::t++ [.list []]) (.ref h.length) n (.ref (h++ .inst k fs::t).length)=some (h++ .inst k fs'::(t++ [.list []])):=by
 rw [Qt,Qv,Jx,hj];exact kQ hf hl e
theorem zdk (hd:1<=d) (q:Q .none (h++ [mO R ⟨h.length,h.length+1,h.length+2,[]⟩ M0,.list [],.list []])):WF P0 d 177 [.ref h.length,.top (112+R.i)] (h++ [.inst 121 []]) Q:=by
 refine bD (K:=0) hd (some (.ref h.length)::some (.top (112+R.i))::nn 6) bd_Machine_init (by kernel_rfl) λd' h'=>?_;have e2:=uQ (h:=h) (t:=[]) (k:=121) (n:=k_arcs) (j:=1) (fs:=[(k_ring,.top (112+R.i))]) rfl rfl (by decide:1<400) rfl;have e3:=uQ (h:=h) (t:=[.list []]) (k:=121) (n:=k_ends) (j:=2) (fs:=[(k_ring,.top (112+R.i)),(k_arcs,.ref (h.length+1))]) rfl rfl (by decide:2<400) rfl;have e4:=kQ (h:=h) (t:=[.list [],.list []]) (k:=121) (n:=k_start) (fs:=[(k_ring,.top (112+R.i)),(k_arcs,.ref (h.length+1)),(k_ends,.ref (h.length+2))]) (v:=.int 0) rfl (by decide:3<400) rfl;have e5:=kQ (h:=h) (t:=[.list [],.list []]) (k:=121) (n:=k_first) (fs:=[(k_ring,.top (112+R.i)),(k_arcs,.ref (h.length+1)),(k_ends,.ref (h.length+2)),(k_start,.int 0)]) (v:=R.e R.one) rfl (by decide:4<400) rfl;have e6:=kQ (h:=h) (t:=[.list [],.list []]) (k:=121) (n:=k_count) (fs:=[(k_ring,.top (112+R.i)),(k_arcs,.ref (h.length+1)),(k_ends,.ref (h.length+2)),(k_start,.int 0),(k_first,R.e R.one)]) (v:=.int 0) rfl (by decide:5<400) rfl;exact run (.h ((kQ (h:=h) (t:=[]) (k:=121) (n:=k_ring) (fs:=[]) (v:=.top (112+R.i)) rfl (by decide:0<400) rfl))<| .at (h++ [.inst 121 [(k_ring,.top (112+R.i))]]++ [.list []])<| .h (e2)<| .at (h++ [.inst 121 [(k_ring,.top (112+R.i)),(k_arcs,.ref (h.length+1))],.list []]++ [.list []])<| .h (e3)<| .h (e4)<| .w (R.on)<| .h (e5)<| .h (e6)<| .z ((show Internal.Fin Q .nx [] _ from q))) (by kernel_rfl)
theorem zfw (R:Rg) (h:MH):IsM R (h++ [mO R ⟨h.length,h.length+1,h.length+2,[]⟩ M0,.list [],.list []]) ⟨h.length,h.length+1,h.length+2,[]⟩ (M0 (R:=R)):=
 ⟨aX,fJ (j:=1),fJ (j:=2),rfl,rfl,(λk r xs hr=>nomatch hr),by show [h.length+1,h.length+2].Nodup;exact Qx.mpr ⟨λq=>absurd (Qw.mp q) (Zy (QF _)),Qx.mpr ⟨Qr,.nil⟩⟩,Qs _,rfl,Qs _,[],.nil,λa ha=>absurd ha Qr,rfl⟩
theorem zan (R:Rg) (hd:1<=d) (h:MH): ∃t,aP (Cxd P0 d) (.top 121) [.top (112+R.i)] h=some (.ref h.length,h++t)/\IsM R (h++t) ⟨h.length,h.length+1,h.length+2,[]⟩ (M0 (R:=R)):=
 ⟨_,W.eq (yT (i:=177) rfl rfl (zdk hd ⟨rfl,two _ _⟩)),zfw R h⟩
end
end Tactic
namespace Tactic
open Internal
section
variable {R:Rg}{d:Nat}{h h0:MH}{Q:Val->MH->Prop}{L:Ly}{M:Mc R.α}
def Ar.emp {α:Type} (x:Ar α):Bool:=x.up== [] && x.lo== []
abbrev k_is_empty:Nat:=7598521885536580729
theorem zf0 {a:Nat}{x:Ar R.α} (hd:1<=d) (ha:h[a]?=some (dC R x)) (q:Q (.bool x.emp) h):WF P0 d 165 [.ref a] h Q:=by
 refine bD (K:=0) hd (some (.ref a)::nn 6) bd_Arc_is_empty (by kernel_rfl) λd' h'=>?_;unfold Ar.emp at q;exact run (.v ((ga ha rfl rfl:getAttr P0 h (.ref a) k_upper=some (.str x.up)))<| .k (eqs x.up [])<| .br (x.up== []) (λhb=> .v ((ga ha rfl rfl:getAttr P0 h (.ref a) k_lower=some (.str x.lo)))<| .k (eqs x.lo [])<| .z ((show Q (.bool (x.lo== [])) h by rw [hb] at q;exact q))) (λhb=> .z ((show Q (.bool (x.up== [])) h by rw [hb] at q ⊢;exact q)))) (by kernel_rfl)
theorem zaS {a:Nat}{x:Ar R.α} (hd:1<=d) (h0a:h0[a]?=some (dC R x)) (ha:h[a]?=some (dC R x)) (q:Q (.bool x.emp) h):WM (Cxd P0 d) (.ref a) k_is_empty [] h0 h Q:=
 a6 (bY h0a rfl rfl) (zf0 hd ha q)
theorem IsM.rowlt (I:IsM R h L M) {xs:List (Ar R.α)} (hx:xs∈M.arcs):xs.length<200000:=Qk (I.cr _ hx) (Qk I.cl (by decide))
theorem gE {l:List Nat}{k:Nat}{v:Val} (h:(l.map Val.ref)[k]?=some v): ∃r,l[k]?=some r/\v= .ref r:=by
 rw [Qu] at h;refine (ms h).elim λr zq9=>?_;exact ⟨r,zq9.1,zq9.2.symm⟩
def FoF (r:Val) (Fr:Internal.Frame->Prop) (A:Prop) (n:Nat) (B:Nat->Prop) (h:MH) (o:SR):Prop:= ∃f,(A/\o=some ((.rt r,f),h))\/(Fr f/\(∀i,i<n->B i)/\o=some ((.nx,f),h))
section
variable {r:Val}{Fr:Internal.Frame->Prop}{A:Prop}{n:Nat}{B:Nat->Prop}
theorem FoF.of {o:SR} (w:W o λp g=>g=h/\((A/\p.1= .rt r)\/(Fr p.2/\(∀i,i<n->B i)/\p.1= .nx))):FoF r Fr A n B h o:=by
 obtain ⟨⟨fl,f⟩,g,e,q1,q⟩:=W.get w;cases q1;exact ⟨f,q.imp (λq=>⟨q.1,e.trans (by rw [show fl=_ from q.2])⟩) λq=>⟨q.1,q.2.1,e.trans (by rw [show fl=_ from q.2.2])⟩⟩
theorem foF {c:Cx}{x a:Nat}{e:Ex}{b:List Sm}{vs:List Val}{fr:Internal.Frame} (hl:vs.length=n) (hn:n<c.fuel) (hk:h[a]?=some (.list vs)) (e0:WE c fr e h λv g=>v= .ref a/\g=h) (f0:Fr fr)
  (step: ∀i v f R,vs[i]?=some v->Fr f->(∀f,A->R (.rt r) f h) ->(∀f,B i->Fr f->R .nx f h) ->WSs c b (f.set x (some v)) h R):FoF r Fr A n B h (exec c (.fo [x] false e b) fr h):=by
 subst hl;exact .of (zb8 (R:=λfl f g=>g=h/\((A/\fl= .rt r)\/(Fr f/\(∀i,i<vs.length->B i)/\fl= .nx))) hn (λi f g=>g=h/\Fr f/\∀j,j<i->B j) (λi f g q=>q.1▸hk) (e0.mono λv g q=>⟨q.1,q.2,f0,λj hj=>absurd hj (QZ _)⟩)
  (λi v hv f g q=>by
   obtain rfl:=q.1;have hf:=q.2.1;exact step i v f _ hv hf (λ_ h=>⟨rfl,.inl ⟨h,rfl⟩⟩) λf h hf=>⟨rfl,hf,λj hj=>(Nat.lt_succ_iff_lt_or_eq.mp hj).elim (q.2.2 j) λq=>q▸h⟩)
  λf g q=>⟨q.1,.inr ⟨q.2.1,q.2.2,rfl⟩⟩)
end
theorem zby {α:Type}{l:List α}{i:Nat}{x:α}{p:α->Prop} (h:l[i]?=some x) (hp:p x) (y:α) (e:l[i]?=some y):p y:=Qy.inj (h.symm.trans e)▸hp
theorem zet {α:Type}{l:List α}{p:α->Bool}{x:α} (h:x∈l) (hp:p x=true):l.any p=true:=ZA.mpr ⟨x,h,hp⟩
theorem zeu {α:Type}{l:List α}{p:α->Bool} (h: ∀i,i<l.length-> ∀x,l[i]?=some x->p x=false):l.any p=false:=ZS.mpr λx hx=>(KB hx).elim λi hi=>by rw [h i (aJ hi) x hi];exact Zk
abbrev mQ (m:Nat) (o1 o2:Option Val):Internal.Frame:=some (.ref m)::o1::o2::nn 6
abbrev hasB:List Sm:= [.ite (.meth (.var 2) k_is_empty []) [.ret (.lit (.bool true))] []]
abbrev hasB1:List Sm:= [.fo [2] false (.var 1) hasB]
def arE (r:List (Ar R.α)):Bool:=r.any Ar.emp
theorem zis {m b:Nat}{o1 o:Option Val}{x:Ar R.α}{X:Fl->Internal.Frame->MH->Prop} (hd:1<=d) (hx:h[b]?=some (dC R x)) (q1: ∀f,x.emp=true->X (.rt (.bool true)) f h) (q2:x.emp=false->X .nx (mQ m o1 (some (.ref b))) h):WSs (Cxd P0 d) hasB ((mQ m o1 o).set 2 (some (.ref b))) h X:=by
 exact run (.p ((W.eq (zaS hd hx hx (two _ _)):bI (Cxd P0 d) (.ref b) k_is_empty [] h h=some (.bool x.emp,h)))<| .br (x.emp) (λhe=> .z (q1 (mQ m o1 (some (.ref b))) he)) (λhe=> .z (q2 he))) (by kernel_rfl)
theorem zit {m r:Nat}{o2:Option Val}{xs:List (Ar R.α)} (hd:1<=d) (W:eL R h r xs) (hl:xs.length<200000):FoF (.bool true) (λf=> ∃o,f=mQ m (some (.ref r)) o) (arE xs=true) xs.length (λi=> ∀x,xs[i]?=some x->x.emp=false) h (exec (Cxd P0 d) (.fo [2] false (.var 1) hasB) (mQ m (some (.ref r)) o2) h):=by
 refine Jd W λas zq8=>?_;exact foF ((Qh ..).trans zq8.2.1) hl zq8.1 (by exact bK (.z (two (.ref r) h)) (by kernel_rfl)) ⟨o2,rfl⟩ λi v f R' hv hf q1 q2=>by
  obtain ⟨b,hb,rfl⟩:=gE hv;obtain ⟨o,rfl⟩:=hf;have hx:=Qc (l:=xs) (i:=i) (zq8.2.1▸aJ hb);exact zis hd (zq8.2.2 _ _ _ hb hx) (λf he=>q1 f (zet (Qe hx) he)) λhe=>q2 _ (zby hx he) ⟨_,rfl⟩
theorem zhA {m r:Nat}{o1 o2:Option Val}{xs:List (Ar R.α)}{X:Fl->Internal.Frame->MH->Prop} (hd:1<=d) (W:eL R h r xs) (hl:xs.length<200000) (q1: ∀f,arE xs=true->X (.rt (.bool true)) f h) (q2: ∀o,arE xs=false->X .nx (mQ m (some (.ref r)) o) h):WSs (Cxd P0 d) hasB1 ((mQ m o1 o2).set 1 (some (.ref r))) h X:=by
 refine Jd (zit (m:=m) (o2:=o2) hd W hl) λf zq5=>?_;obtain ⟨ha,e⟩| ⟨⟨o,hf⟩,ha,e⟩:=zq5
 ·exact run (.s (e)<| .z (q1 f ha)) (by kernel_rfl)
 ·rw [hf] at e
  exact run (.s (e)<| .z (q2 o (zeu ha))) (by kernel_rfl)
theorem ziu (hd:1<=d) (I:IsM R h L M):FoF (.bool true) (λf=> ∃o o2,f=mQ L.m o o2) (M.arcs.any arE=true) M.arcs.length (λi=> ∀x,M.arcs[i]?=some x->arE x=false) h (exec (Cxd P0 d) (.fo [1] false (.attr (.var 0) k_arcs) hasB1) (mQ L.m none none) h):=by
 exact foF ((Qh ..).trans I.len) (Qk I.lim (show 10000<200000 by decide)) I.arcs (by exact bK (.v (dZ I)<| .z (two (.ref L.aA) h)) (by kernel_rfl)) ⟨none,none,rfl⟩ λi v f R' hv hf q1 q2=>by
  obtain ⟨r,hr,rfl⟩:=gE hv;obtain ⟨o,o2,rfl⟩:=hf;have hx:=Qc (l:=M.arcs) (i:=i) (I.len▸aJ hr);exact zhA hd (I.rows i r _ hr hx) (I.rowlt (Qe hx)) (λf ha=>q1 f (zet (Qe hx) ha)) λo ha=>q2 _ (zby hx ha) ⟨_,_,rfl⟩
theorem zdm (hd:2<=d) (I:IsM R h L M) (q:Q (.bool (M.arcs.any λr=>r.any Ar.emp)) h):WF P0 d 175 [.ref L.m] h Q:=by
 refine bD (K:=1) hd (mQ L.m none none) bd_Machine_has_empty (by kernel_rfl) λd' h'=>?_;refine Jd (ziu h' I) λf zq1=>?_;obtain ⟨ha,e⟩| ⟨⟨o,o2,hf⟩,ha,e⟩:=zq1
 ·exact run (.s (e)<| .z ((show Q (.bool true) h by rw [<-ha];exact q))) (by kernel_rfl)
 ·rw [hf] at e
  exact run (.s (e)<| .z ((show Q (.bool false) h by rw [<-zeu ha];exact q))) (by kernel_rfl)
end
end Tactic
namespace Tactic
open Internal
section
variable {R:Rg}{d:Nat}{h h0:MH}{Q:Val->MH->Prop}{L:Ly}{M:Mc R.α}
def f9 (h:MH) (b:Nat) (xss:List (List Nat)):Prop:= ∃rs:List Nat,h[b]?=some (.list (rs.map .ref))/\rs.length=xss.length/\∀ (k r:Nat) (xs:List Nat),rs[k]?=some r->xss[k]?=some xs->h[r]?=some (.list (iVs xs))
theorem gK {α:Type}{l m:List α} (hl:l.length=m.length) (h: ∀ (i:Nat) (y:α),l[i]?=some y->m[i]?=some y):l=m:=by
 refine Xu λi=>?_;by_cases hi:i<l.length
 ·rw [Qc hi];exact (h i _ (Qc hi)).symm
 ·rw [Jo (ZV.mp hi),Jo (Qa (QA (KN hl)) (Q0 hi))]
theorem j8 {l:List Nat}{i:Nat}{v:Val} (h:(iVs l)[i]?=some v): ∃x,l[i]?=some x/\v= .int x:=by
 unfold iVs at h;rw [Qu] at h;refine (ms h).elim λx zq5=>?_;exact ⟨x,zq5.1,zq5.2.symm⟩
theorem cO {l:List Nat}:(iVs l).length=l.length:=Qh ..
theorem dG {n:Nat} (h:n<200000):n<=lim:=QJ (Q9 h (by decide))
theorem kH {cx:Cx}{fr:Internal.Frame}{elt it:Ex}{x a:Nat}{vs:List Val} (G:Nat->MObj) (hf:vs.length<cx.fuel) (hl:vs.length<=lim)
  (q:WE cx fr it h λv h1=>v= .ref a/\h1[a]?=some (.list vs)/\(∀i v t,vs[i]?=some v->WE cx (fr.set x (some v)) elt (h1++t) λy h3=>y= .ref (h1++t).length/\h3=(h1++t)++ [G i])/\
   Q (.ref h1.length) (h1++ .list ((QR (h1.length+1) vs.length).map .ref)::(Q3 vs.length).map G)):WE cx fr (.comp elt [x] false it []) h Q:=by
 refine kI (a:=a) (vs:=vs) (λh1 ys t=>ys=(QR (h1.length+1) ys.length).map Val.ref/\t=(Q3 ys.length).map G) hf hl (W.mono q λv h1 q=>?_);obtain ⟨rfl,h1a,st,q⟩:=q;refine ⟨rfl,h1a,⟨rfl,rfl⟩,λys t v J hv=>W.mono (st ys.length v (.list ys::t) hv) λy h3 q=>?_,λys t hy J=>?_⟩
 ·obtain ⟨rfl,rfl⟩:=q
  refine ⟨[G ys.length],Qt ..,?_,?_⟩
  ·rw [(λy=>by rw [Qv];rfl: ∀y:Val,(ys++ [y]).length=ys.length+1),Xh,QL,<-J.1]
   congr 2
   rw [Qv,Jx,J.2,Qh,Q6]
   congr 1;lia
  ·rw [(λy=>by rw [Qv];rfl: ∀y:Val,(ys++ [y]).length=ys.length+1),Yx,QL,<-J.2];rfl
 ·obtain ⟨J1,J2⟩:=J
  rw [hy] at J1 J2;rw [J1,J2];exact q
def aAt (M:Mc R.α) (k:Nat):List (Ar R.α):=M.arcs[k]?.getD []
theorem y1 {cx:Cx}{fr:Internal.Frame}{elt it:Ex}{x a:Nat}{vs:List Val} (F:Nat->Val) (hf:vs.length<cx.fuel) (hl:vs.length<=lim)
  (q:WE cx fr it h λv h1=>v= .ref a/\h1[a]?=some (.list vs)/\(∀i v t,vs[i]?=some v->WE cx (fr.set x (some v)) elt (h1++t) λy h3=>y=F i/\h3=h1++t)/\Q (.ref h1.length) (h1++ [.list ((Q3 vs.length).map F)])):WE cx fr (.comp elt [x] false it []) h Q:=by
 refine kI (a:=a) (vs:=vs) (λh1 ys t=>ys=(Q3 ys.length).map F/\t= []) hf hl (W.mono q λv h1 q=>?_);obtain ⟨rfl,h1a,st,q⟩:=q;refine ⟨rfl,h1a,⟨rfl,rfl⟩,λys t v J hv=>W.mono (st ys.length v (.list ys::t) hv) λy h3 q=>?_,λys t hy J=>?_⟩
 ·obtain ⟨rfl,rfl⟩:=q
  refine ⟨[],by rw [QU],?_,by rw [J.2];rfl⟩;rw [i6,Yx,QL,<-J.1];rfl
 ·obtain ⟨J1,rfl⟩:=J
  rw [J1,hy];exact q
abbrev onE:Ex:= .comp (.attr (.var 2) k_target) [2] false (.var 1) []
theorem xJ {α β:Type}{l:List α}{F:Nat->β}{f:α->β} (h: ∀ (i:Nat) (x:α),l[i]?=some x->F i=f x):(Q3 l.length).map F=l.map f:=
 gK (by rw [Qh,Q6,Qh]) λi y hi=>by
  rw [Qu] at hi ⊢;have hl:i<l.length:=Q6 (n:=l.length)▸aJ (ms hi).choose_spec.1;rw [JF hl] at hi;rw [Qc hl];exact (congrArg some (h i _ (Qc hl))).symm.trans hi
theorem onR {r m:Nat}{o2:Option Val}{xs:List (Ar R.α)} (W:eL R h r xs) (hl:xs.length<200000) (t:MH):WE (Cxd P0 d) (some (.ref m)::some (.ref r)::o2::nn 4) onE (h++t) λy g=>y= .ref (h++t).length/\g=(h++t)++ [.list (iVs (xs.map Ar.t))]:=by
 refine Jd W λas zq4=>?_;have e:(as.map Val.ref).length=xs.length:=(Qh ..).trans zq4.2.1;have e2:(Q3 (as.map Val.ref).length).map (λi=>Val.int (((xs[i]?.map Ar.t).getD 0:Nat):Int))=iVs (xs.map Ar.t):=by
  unfold iVs;rw [e,ZJ];exact xJ λi x hx=>by rw [hx];rfl
 refine y1 (a:=r) (vs:=as.map .ref) (λi=> .int (((xs[i]?.map Ar.t).getD 0:Nat):Int)) (by rw [e];exact hl) (by rw [e];exact dG hl) ((by exact bK (.z (two (.ref r) (h++t))) (by kernel_rfl):WE (Cxd P0 d) (some (.ref m)::some (.ref r)::o2::nn 4) (.var 1) (h++t) λv g=>v= .ref r/\g=h++t).mono λv g q=>?_);obtain rfl:=q.1;obtain rfl:=q.2;rw [e2];refine ⟨rfl,aB zq4.1,λi v t' hv=>?_,two _ _⟩;refine (gE hv).elim λb zq3=>?_;obtain rfl:=zq3.2;obtain ⟨x,hx⟩: ∃x,xs[i]?=some x:=⟨_,Qc (zq4.2.1▸aJ zq3.1)⟩;have e1:getAttr P0 (h++t++t') (.ref b) k_target=some (.int x.t):=ga (aB (aB (zq4.2.2 i b _ zq3.1 hx))) rfl rfl;have e3:x.t=(xs[i]?.map Ar.t).getD 0:=by rw [hx];rfl
 rw [<-e3];exact bK (.v (e1)<| .z (two (.int (x.t:Nat)) (h++t++t'))) (by kernel_rfl)
theorem onH (I:IsM R h L M):eval (Cxd P0 d) (.comp onE [1] false (.attr (.var 0) k_arcs) []) (some (.ref L.m)::nn 6) h=some (.ref h.length,h++ .list ((QR (h.length+1) M.arcs.length).map .ref)::(Q3 M.arcs.length).map λi=> .list (iVs ((aAt M i).map Ar.t))):=by
 have hn:(L.rows.map Val.ref).length=M.arcs.length:=(Qh ..).trans I.len;have hl:=Qk I.lim (show 10000<200000 by decide);refine W.eq (kH (cx:=Cxd P0 d) (a:=L.aA) (x:=1) (elt:=onE) (vs:=L.rows.map .ref) (λi=> .list (iVs ((aAt M i).map Ar.t))) (by rw [hn];exact hl) (by rw [hn];exact dG hl) (W.mono (by exact bK (.v (dZ I)<| .z (two (.ref L.aA) h)) (by kernel_rfl):WE (Cxd P0 d) (some (.ref L.m)::nn 6) (.attr (.var 0) k_arcs) h λv g=>v= .ref L.aA/\g=h) λv g q=>?_));obtain rfl:=q.1;obtain rfl:=q.2;rw [hn];refine ⟨rfl,I.arcs,λi v t hv=>?_,two _ _⟩;refine (gE hv).elim λr zq2=>?_;obtain rfl:=zq2.2;obtain ⟨x,hx⟩: ∃x,M.arcs[i]?=some x:=⟨_,Qc (I.len▸aJ zq2.1)⟩;rw [(by unfold aAt;rw [hx];rfl:aAt M i=x)];exact onR (m:=L.m) (o2:=none) (I.rows i r x zq2.1 hx) (I.rowlt (Qe hx)) t
theorem onA (M:Mc R.α):f9 (h++ .list ((QR (h.length+1) M.arcs.length).map .ref)::(Q3 M.arcs.length).map λi=> .list (iVs ((aAt M i).map Ar.t))) h.length (M.arcs.map λr=>r.map Ar.t):=by
 refine ⟨_,aX,by rw [Zl,Qh],λk r xs hr hx=>?_⟩;have hk:k<M.arcs.length:=Qh (λr:List (Ar R.α)=>r.map Ar.t)▸aJ hx;rw [YJ hk] at hr;cases hr;rw [Qu] at hx;refine (ms hx).elim λx zq1=>?_;obtain rfl:=zq1.2;rw [show h.length+1+1*k=h.length+(k+1) by rw [JI,QY,Ju 1 k],fJ,List.getElem?_cons_succ,Qu,JF hk];rw [<-(by unfold aAt;rw [zq1.1];rfl:aAt M k=x)];rfl
theorem xC (hd:1<=d) (I:IsM R h L M) (q: ∀t b,f9 (h++t) b (M.arcs.map λr=>r.map Ar.t) ->Q (.ref b) (h++t)):WF P0 d 125 [.ref L.m] h Q:=by
 refine bD (K:=0) hd (some (.ref L.m)::nn 6) bd_machine__onward (by kernel_rfl) λd' h'=>?_;exact run (.p (onH (d:=d') I)<| .z (q _ _ (onA M))) (by kernel_rfl)
end
end Tactic
namespace Tactic
open Internal
section
variable {R:Rg}{d:Nat}{h g:MH}{Q:Val->MH->Prop}{L:Ly}{M:Mc R.α}
abbrev k_size:Nat:=1936292453
theorem cM {h:MH} (hd:1<=d) (I:IsM R h L M):bI (Cxd P0 d) (.ref L.m) k_size [] h h=some (.int M.arcs.length,h):=me (bY I.obj rfl rfl) (zcS hd I ⟨rfl,rfl⟩)
theorem mT {l:List R.α}{s:Nat}{x:R.α} (hs:l[s]?=some x):(l.map R.e)[s]?=some (R.e x):=by rw [Qu,hs];rfl
abbrev at' (l:List R.α) (s:Nat):R.α:=l[s]?.getD R.zero
theorem pL {l:List R.α}{s:Nat} (hs:s<l.length):l[s]?=some (at' l s):=by rw [Qc hs];unfold at';rw [Qc hs];rfl
theorem zbx {l:List R.α}{s:Nat} (hs:s<l.length):at' l s∈l:=Qe (pL hs)
theorem gUp {b:Nat}{a:Ar R.α} (hB:h[b]?=some (dC R a)):getAttr P0 h (.ref b) k_upper=some (.str a.up):=ga hB rfl rfl
theorem gLo {b:Nat}{a:Ar R.α} (hB:h[b]?=some (dC R a)):getAttr P0 h (.ref b) k_lower=some (.str a.lo):=ga hB rfl rfl
theorem gWt {b:Nat}{a:Ar R.α} (hB:h[b]?=some (dC R a)):getAttr P0 h (.ref b) k_weight=some (R.e a.w):=ga hB rfl rfl
theorem gTg {b:Nat}{a:Ar R.α} (hB:h[b]?=some (dC R a)):getAttr P0 h (.ref b) k_target=some (.int a.t):=ga hB rfl rfl
theorem xP {b:Nat}{a:Ar R.α} (hd:1<=d) (hB:h[b]?=some (dC R a)):bI (Cxd P0 d) (.ref b) k_is_empty [] h h=some (.bool a.emp,h):=W.eq (zaS hd hB hB ⟨rfl,rfl⟩)
theorem nT {x:Bool} (h:x=true):(!x)=false:=by rw [h];rfl
theorem nF {x:Bool} (h:x=false):(!x)=true:=by rw [h];rfl
structure zdS (R:Rg) (h:MH) (r:Nat) (as:List Nat) (xs:List (Ar R.α)):Prop where
 l:h[r]?=some (.list (as.map .ref))
 n:(as.map Val.ref).length=xs.length
 a: ∀ (j:Nat) (v:Val),(as.map Val.ref)[j]?=some v-> ∃b x,v= .ref b/\xs[j]?=some x/\h[b]?=some (dC R x)
theorem IsM.rowR (I:IsM R h L M) {k:Nat} (hk:k<M.arcs.length): ∃r as,(L.rows.map Val.ref)[k]?=some (.ref r)/\zdS R h r as (aAt M k)/\aAt M k∈M.arcs:=by
 refine (I.row hk).elim λr zq8=>Jd zq8.2 λas zq9=>?_;rw [(by unfold aAt;rw [Qc hk];rfl:aAt M k=M.arcs[k])];refine ⟨r,as,g8 zq8.1,⟨zq9.1,(Qh ..).trans zq9.2.1,λj v hv=>?_⟩,Jk hk⟩;refine (gE hv).elim λb zq7=>?_;obtain rfl:=zq7.2;have hj:j<M.arcs[k].length:=by rw [<-zq9.2.1];exact aJ zq7.1
 exact ⟨b,M.arcs[k][j],rfl,Qc hj,zq9.2.2 j b _ zq7.1 (Qc hj)⟩
def d0 (M:Mc R.α) (s:Nat):Nat:=((M.arcs.take s).map JW).sum
theorem tP {s:Nat} (hs:s<M.arcs.length):d0 M (s+1)=d0 M s+M.arcs[s].length:=by
 unfold d0;rw [Ki hs,QL,KH];simp
theorem lR (I:IsM R h L M) (s:Nat):d0 M s<=M.cnt:=by
 unfold d0;rw [<-I.ct]
 conv=>rhs;rw [<-Zq s M.arcs,QL,KH]
 exact Qd _ _
theorem iS {s:Nat} (hs:s<M.arcs.length):d0 M (s+1)=d0 M s+(aAt M s).length:=by
 rw [tP hs];unfold aAt;rw [Qc hs];rfl
theorem zaO {z:Cx}{a:Nat}{vs:List Val} (ha:h[a]?=some (.list vs)):aP z (.bi nLen) [.ref a] h=some (.int vs.length,h):=W.eq (uA ha ⟨rfl,rfl⟩)
theorem apd (z:Cx) {a:Nat}{vs:List Val} (v:Val) (ha:h[a]?=some (.list vs)) (hl:vs.length<1000000):bI z (.ref a) nAppend [v] h h=some (.none,h.set a (.list (vs++ [v]))):=W.eq (mX ha ha hl ⟨rfl,rfl⟩)
theorem zhS (z:Cx) {a:Nat}{xs:List Nat} (i:Nat) (ha:h[a]?=some (.list (iVs xs))) (hl:xs.length<1000000):bI z (.ref a) nAppend [.int i] h h=some (.none,h.set a (.list (iVs (xs++ [i])))):=by
 rw [apd z _ ha (by rw [cO];exact hl)];unfold iVs;rw [QL];rfl
abbrev k_state:Nat:=495873782885
abbrev k_arc:Nat:=6386275
abbrev k_begin:Nat:=422608071022
abbrev k_end:Nat:=6647396
theorem qC (hd:2<=d) (I:IsM R h L M) (hl:M.arcs.length<10000): ∃g,bI (Cxd P0 d) (.ref L.m) k_state [] h h=some (.int M.arcs.length,g)/\IsM R g (L.more h.length) M.more/\cB h g [L.aA,L.aE]:=by
 refine (W.get (a6 (P:=P0) (bY (n:=k_state) I.obj rfl rfl) (qB (Q:=λv g=>v= .int M.arcs.length/\IsM R g (L.more h.length) M.more/\cB h g [L.aA,L.aE]) hd I hl λg I' K=>⟨rfl,I',K⟩))).elim λv zq5=>zq5.elim λg zq6=>?_;obtain rfl:=zq6.2.1;exact ⟨g,zq6.1,zq6.2.2⟩
theorem zgm {s p k:Nat}{a:Ar R.α} (hd:4<=d) (I:IsM R h L M) (hs:s<M.arcs.length) (ht:a.t<M.arcs.length) (lu:lab a.up) (ll:lab a.lo) (hw:R.D p k a.w) (hl:4*p+k<=3800) (hc:M.cnt<100000) (hz:a.w≠R.zero): ∃g,bI (Cxd P0 d) (.ref L.m) k_arc [.int s,.str a.up,.str a.lo,R.e a.w,.int a.t] h h=some (.none,g)/\IsM R g L (M.arc s a)/\cB h g (own L):=by
 refine (W.get (a6 (P:=P0) (bY (n:=k_arc) I.obj rfl rfl) (zbE (Q:=λv g=>v= .none/\IsM R g L (M.arc s a)/\cB h g (own L)) hd I hs ht lu ll hw hl hc λg M' I' K _ hM=>⟨rfl,hM hz▸I',K⟩))).elim λv zq3=>zq3.elim λg zq4=>?_;obtain rfl:=zq4.2.1;exact ⟨g,zq4.1,zq4.2.2⟩
theorem zbw {s p k:Nat}{w:R.α} (hd:4<=d) (I:IsM R h L M) (hs:s<M.arcs.length) (hw:R.D p k w) (hl:4*p+k<=3800): ∃g,bI (Cxd P0 d) (.ref L.m) k_begin [.int s,R.e w] h h=some (.none,g)/\IsM R g L {M with start:=s,first:=w} /\cB h g (own L):=by
 refine (W.get (a6 (P:=P0) (bY (n:=k_begin) I.obj rfl rfl) (rQ (Q:=λv g=>v= .none/\IsM R g L {M with start:=s,first:=w} /\cB h g (own L)) hd I hs hw hl λg I' K=>⟨rfl,I',K⟩))).elim λv zq1=>zq1.elim λg zq2=>?_;obtain rfl:=zq2.2.1;exact ⟨g,zq2.1,zq2.2.2⟩
theorem tE (I:IsM R h L M):M.arcs.length<=100000:=Qa I.lim (by decide)
theorem zdS.le {r:Nat}{as:List Nat}{xs:List (Ar R.α)} (H:zdS R h r as xs) (I:IsM R g L M) (hm:xs∈M.arcs):(as.map Val.ref).length<=100000:=H.n▸Qa (I.cr _ hm) I.cl
end
end Tactic
namespace Tactic
open Internal
def gU (mb:List Bool):Nat:=mb.countP (!·)
theorem vX {mb:List Bool}{k:Nat} (hk:mb[k]?=some false):gU (mb.set k true)+1=gU mb:=by
 unfold gU;refine (Qn.mp hk).elim λhl zq7=>?_;rw [(List.countP_set (p:=λb:Bool=>!b) (l:=mb) (i:=k) (a:=true) hl),zq7]
 have:0<mb.countP (!·):=List.countP_pos_iff.mpr ⟨false,Qe hk,rfl⟩
 simp only [Bool.not_false,We]
 simp
 exact Kd (QT this)
structure mB (fs:List Nat) (xss:List (List Nat)) (mb:List Bool):Prop where
 first: ∀s∈fs,mb[s]?=some true
 least: ∀P:Nat->Prop,(∀s∈fs,P s) ->(∀s xs,P s->xss[s]?=some xs-> ∀o∈xs,P o) -> ∀s:Nat,mb[s]?=some true->P s
section
variable {R:Rg}{d:Nat}{h h0:MH}{Q:Val->MH->Prop}{L:Ly}{M:Mc R.α}
theorem iT {mb:List Bool}{k:Nat}{b:Bool} (h:mb[k]?=some b):(mb.map Val.bool)[k]?=some (.bool b):=by rw [Qu,h];rfl
structure MSt where
 mb:List Bool
 wk:List Nat
 a:Option Val
 b:Option Val
structure MX where
 h:MH
 m:Nat
 f:Nat
 b:Nat
 x0:MObj
 n:Nat
 fs:List Nat
 xss:List (List Nat)
def mG (X:MX) (s:MSt):MH:=X.h++ [X.x0,.list (s.mb.map Val.bool),.list (iVs s.wk)]
def mF (X:MX) (a b:Option Val):Internal.Frame:=some (.ref X.m)::some (.ref X.f)::some (.ref X.b)::some (.ref (X.h.length+1))::some (.ref (X.h.length+2))::a::b::nn 6
section
variable {X:MX}{R':Fl->Internal.Frame->MH->Prop}{s:MSt}
theorem mg_m:(mG X s)[X.h.length+1]?=some (.list (s.mb.map Val.bool)):=fJ
theorem mg_w:(mG X s)[X.h.length+2]?=some (.list (iVs s.wk)):=fJ
theorem zhj {mb:List Bool}:(mG X s).set (X.h.length+1) (.list (mb.map Val.bool))=mG X {s with mb:=mb}:=z0
theorem zec {wk:List Nat}:(mG X s).set (X.h.length+2) (.list (iVs wk))=mG X {s with wk:=wk}:=z0
structure MP1 (X:MX) (i:Nat) (s:MSt):Prop where
 w:s.wk=X.fs
 l:s.mb.length=X.n
 h1: ∀y∈X.fs.take i,s.mb[y]?=some true
 h2: ∀y:Nat,s.mb[y]?=some true->y∈X.fs
theorem sM (X:MX) (s:MSt) {o:Nat}{b:Bool} (e:s.mb[o]?=some b):bJ (mG X s) (.ref (X.h.length+1)) (.int o)=some (.bool b):=sl mg_m (iT e)
theorem zaF (X:MX) (s:MSt) {y:Nat} (v:Bool) (hn:y<s.mb.length):cS (mG X s) (.ref (X.h.length+1)) (.int y) (.bool v)=some (mG X {s with mb:=s.mb.set y v}):=by rw [zfb mg_m (by rw [Qh];exact hn),map_set',zhj]
theorem zhl {i y:Nat} (P:MP1 X i s) (hy:X.fs[i]?=some y) (hn:y<X.n) (q: ∀s',MP1 X (i+1) s'->R' .nx (mF X s'.a s'.b) (mG X s')):WSs (Cxd P0 d) [.asg (.sb (.var 3) (.var 5)) (.lit (.bool true))] (mF X (some (.int y)) s.b) (mG X s) R':=by
 have hsn:y<s.mb.length:=by rw [P.l];exact hn
 have N:MP1 X (i+1) {s with mb:=s.mb.set y true,a:=some (.int y)}:=by
  refine ⟨P.w,by show (s.mb.set y true).length=_;rw [QS];exact P.l,λz hz=>?_,λz hz=>?_⟩
  ·show (s.mb.set y true)[z]?=_
   rw [JJ,hy] at hz;by_cases e:y=z
   ·subst e;rw [QP hsn]
   ·rw [QO e]
    exact (QX.mp hz).elim (P.h1 z) λhz=>absurd (Qw.mp (by simpa using hz)).symm e
  ·have hz:(s.mb.set y true)[z]?=some true:=hz
   by_cases e:y=z
   ·subst e;exact Qe hy
   ·rw [QO e] at hz;exact P.h2 z hz
 exact run (.h (zaF X s true hsn)<| .z (q _ N)) (by kernel_rfl)
structure MP2 (X:MX) (k:Nat) (s:MSt):Prop where
 kk:k=2*gU s.mb+s.wk.length
 kl:k<=30000
 l:s.mb.length=X.n
 B:mB X.fs X.xss s.mb
 w: ∀y∈s.wk,s.mb[y]?=some true
 c: ∀ (y:Nat) xs,s.mb[y]?=some true->y∉s.wk->X.xss[y]?=some xs-> ∀o∈xs,s.mb[o]?=some true
structure MP3 (X:MX) (y:Nat) (xs:List Nat) (k:Nat) (j:Nat) (s:MSt):Prop where
 kk:2*gU s.mb+s.wk.length<=k
 l:s.mb.length=X.n
 B:mB X.fs X.xss s.mb
 yy:s.mb[y]?=some true
 w: ∀z∈s.wk,s.mb[z]?=some true
 c: ∀ (z:Nat) xs,s.mb[z]?=some true->z∉s.wk->z≠y->X.xss[z]?=some xs-> ∀o∈xs,s.mb[o]?=some true
 t: ∀o∈xs.take j,s.mb[o]?=some true
theorem zfz (X:MX) (s:MSt) (z:Cx):aP z (.bi nLen) [.ref (X.h.length+2)] (mG X s)=some (.int s.wk.length,mG X s):=by rw [zaO mg_w,cO]
theorem zfA (X:MX) (s:MSt) (z:Cx) (o:Nat) (hl:s.wk.length<1000000):bI z (.ref (X.h.length+2)) nAppend [.int o] (mG X s) (mG X s)=some (.none,mG X {s with wk:=s.wk++ [o]}):=(zhS z o mg_w hl).trans (by rw [zec])
abbrev m3B:List Sm:= [.ite (.not (.sub (.var 3) (.var 6))) [.asg (.sb (.var 3) (.var 6)) (.lit (.bool true)),.expr (.meth (.var 4) nAppend [.var 6])] []]
theorem MP3.more {y j o k:Nat}{xs:List Nat} (P:MP3 X y xs k j s) (hx:X.xss[y]?=some xs) (ho:xs[j]?=some o) (he:s.mb[o]?=some false):MP3 X y xs k (j+1) {s with mb:=s.mb.set o true,wk:=s.wk++ [o],b:=some (.int o)}:=by
 have up: ∀ {z:Nat},s.mb[z]?=some true->(s.mb.set o true)[z]?=some true:=λ{z} hz=>by
  rw [QO λe=>by subst e;rw [he] at hz;exact nomatch hz];exact hz
 have dn: ∀ {z:Nat},(s.mb.set o true)[z]?=some true->z=o\/s.mb[z]?=some true:=λ{z} hz=>by
  by_cases e:o=z
  ·exact .inl e.symm
  ·rw [QO e] at hz;exact .inr hz
 have hu:=vX he;refine ⟨?_,by show (s.mb.set o true).length=_;rw [QS];exact P.l,⟨λz hz=>up (P.B.first z hz),λT p1 p2 z hz=>?_⟩,up P.yy,λz hz=>?_,λz zs e1 e2 e3 e4 w hw=>?_,λz hz=>?_⟩
 ·show 2*gU (s.mb.set o true)+(s.wk++ [o]).length<=k
  refine Qa ?_ P.kk;rw [Qv,<-hu,Zb,J9];exact Jv _
 ·exact (dn hz).elim (λe=>e▸p2 y xs (P.B.least T p1 p2 y P.yy) hx o (Qe ho)) (P.B.least T p1 p2 z)
 ·exact (QX.mp hz).elim (λhz=>up (P.w z hz)) λhz=>(Qw.mp hz)▸(QP (aJ he):(s.mb.set o true)[o]?=some true)
 ·exact (dn e1).elim (λe=>absurd (QX.mpr (.inr (e▸ .head _))) e2) λe1=>up (P.c z zs e1 (λq=>e2 (QX.mpr (.inl q))) e3 e4 w hw)
 ·rw [JJ,ho] at hz
  exact (QX.mp hz).elim (λhz=>up (P.t z hz)) λhz=>(Qw.mp hz)▸(QP (aJ he):(s.mb.set o true)[o]?=some true)
theorem zhk {y j o k:Nat}{xs:List Nat} (P:MP3 X y xs k j s) (hx:X.xss[y]?=some xs) (ho:xs[j]?=some o) (hn:o<X.n) (hk:k<100000) (q: ∀s',MP3 X y xs k (j+1) s'->R' .nx (mF X (some (.int y)) s'.b) (mG X s')):
  WSs (Cxd P0 d) m3B (mF X (some (.int y)) (some (.int o))) (mG X s) R':=by
 have hon:o<s.mb.length:=by rw [P.l];exact hn
 have hoe:=Qc hon;cases hb:s.mb[o] with
 |true=>
  rw [hb] at hoe;have N:MP3 X y xs k (j+1) {s with b:=some (.int o)}:=⟨P.kk,P.l,P.B,P.yy,P.w,P.c,λz hz=>by
   rw [JJ,ho] at hz;exact (QX.mp hz).elim (P.t z) λhz=>(Qw.mp hz)▸hoe⟩
  exact run (.v (sM X s hoe)<| .c2<| .z (q _ N)) (by kernel_rfl)
 |false=>
  rw [hb] at hoe;have hw:s.wk.length<1000000:=Qk (Qa (Ql _ _) P.kk) (Q9 hk (by decide));exact run (.v (sM X s hoe)<| .c2<| .h (zaF X s true hon)<| .p (zfA X {s with mb:=s.mb.set o true} (Cxd P0 d) o hw)<| .z (q _ (P.more hx ho hoe))) (by kernel_rfl)
end
structure MOk (X:MX):Prop where
 A:f9 X.h X.b X.xss
 hl:X.xss.length=X.n
 hn:X.n<=10000
 hfs: ∀s∈X.fs,s<X.n
 hfl:X.fs.length<=10000
 hxs: ∀xs∈X.xss,xs.length<200000->True
 hxl: ∀xs∈X.xss,xs.length<=100000/\∀o∈xs,o<X.n
section
variable {X:MX} (O:MOk X)
include O
abbrev m0 (X:MX):MSt:=⟨Qz X.n false,X.fs,none,none⟩
theorem met1: ∃s,MP1 X X.fs.length s/\exec (Cxd P0 d) (.fo [5] false (.var 4) [.asg (.sb (.var 3) (.var 5)) (.lit (.bool true))]) (mF X none none) (mG X (m0 X))=some ((.nx,mF X s.a s.b),mG X s):=by
 have:=foL (c:=Cxd P0 d) (tg:=[5]) (many:=false) (a:=X.h.length+2) (e:=.var 4) (b:=[.asg (.sb (.var 3) (.var 5)) (.lit (.bool true))]) (vs:=iVs X.fs) (λs:MSt=>mF X s.a s.b) (mG X) (MP1 X) (m0 X) (by rw [cO];exact Qa O.hfl (by decide)) rfl (λi s P=>by have e:= @mg_w X s;rw [show s.wk=X.fs from P.w] at e;exact e) (by exact bK (.z (two (.ref (X.h.length+2)) (mG X (m0 X)))) (by kernel_rfl)) ⟨rfl,Q5 ..,(λs hs=>nomatch hs),λs hs=>nomatch (Jj (Qe hs))⟩ λi v s R1 _ hv P1 T1=>by
  obtain ⟨y,hy,rfl⟩:=j8 hv;exact c9 (zhl P1 hy (O.hfs y (Qe hy)) T1.nx)
 rwa [cO] at this
structure MD (X:MX) (s:MSt):Prop where
 l:s.mb.length=X.n
 B:mB X.fs X.xss s.mb
 c: ∀ (y:Nat) xs,s.mb[y]?=some true->X.xss[y]?=some xs-> ∀o∈xs,s.mb[o]?=some true
abbrev m3L:Sm:= .fo [6] false (.sub (.var 2) (.var 5)) m3B
theorem zil {y k:Nat}{wk:List Nat}{s:MSt} (P:MP2 X k s) (hw:s.wk=wk++ [y]): ∃s',(∃j,j<k/\MP2 X j s')/\exec (Cxd P0 d) m3L (mF X (some (.int y)) s.b) (mG X {s with wk:=wk})=some ((.nx,mF X s'.a s'.b),mG X s'):=by
 have hym:=P.w y (hw▸QX.mpr (.inr (.head _)));have hyn:y<X.xss.length:=by rw [O.hl,<-P.l];exact aJ hym
 obtain ⟨rs,A1,A2,A3⟩:=O.A;have hxe:=Qc hyn;have hre:=Qc (l:=rs) (i:=y) (by rw [A2];exact hyn);have hkk:2*gU s.mb+wk.length+1=k:=by rw [P.kk,hw,Qv];rfl
 have hkl:=P.kl;have hx:=O.hxl _ (Jk hyn);obtain ⟨s',P3,e⟩:=foL (c:=Cxd P0 d) (tg:=[6]) (many:=false) (a:=rs[y]) (e:=.sub (.var 2) (.var 5)) (b:=m3B) (vs:=iVs X.xss[y]) (λs:MSt=>mF X (some (.int y)) s.b) (mG X) (MP3 X y X.xss[y] (2*gU s.mb+wk.length)) {s with wk:=wk} (by rw [cO];exact hx.1) rfl (λi s P=>aB (A3 y _ _ hre hxe)) (by exact bK (.v (sl (aB (t:=[X.x0,.list (s.mb.map Val.bool),.list (iVs wk)]) A1) (g8 hre))<| .z (two (.ref rs[y]) (mG X {s with wk:=wk}))) (by kernel_rfl)) ⟨Qi _,P.l,P.B,hym,λx hx=>P.w x (hw▸QX.mpr (.inl hx)),λz ys e1 e2 e3=>P.c z ys e1 λq=>by
    rw [hw] at q;exact (QX.mp q).elim e2 λq=>e3 (Qw.mp q),λo ho=>nomatch ho⟩ λi v s R1 _ hv P1 T1=>by
  obtain ⟨o,ho,rfl⟩:=j8 hv;exact c9 (zhk P1 hxe ho (hx.2 o (Qe ho)) (Qf (Jl (QA hkk)) (Qa hkl (Ql _ _))) T1.nx)
 have kt:=P3.t;rw [cO,Q2] at kt;refine ⟨{s' with a:=some (.int y)},⟨_,Qk P3.kk (hkk▸QF _),rfl,Qa P3.kk (K6 (Qa (QA hkk) hkl)),P3.l,P3.B,P3.w,λz ys e1 e2 e3=>?_⟩,e⟩;by_cases e:z=y
 ·subst e
  rw [show X.xss[z]?=some ys from e3] at hxe;cases hxe;exact kt
 ·exact P3.c z ys e1 e2 e e3
abbrev m2B:List Sm:= [.asg (.nm 5) (.meth (.var 4) nPop []),m3L]
theorem zim {k:Nat}{s:MSt} (P:MP2 X k s): ∃s',MD X s'/\exec (Cxd P0 d) (.wh (.cmp .gt (.call (.lit (.bi nLen)) [.var 4]) (.lit (.int 0))) m2B) (mF X s.a s.b) (mG X s)=some ((.nx,mF X s'.a s'.b),mG X s'):=by
 refine foW (c:=Cxd P0 d) (t:=.cmp .gt (.call (.lit (.bi nLen)) [.var 4]) (.lit (.int 0))) (b:=m2B) (λs:MSt=>mF X s.a s.b) (mG X) (MP2 X) (MD X) s (Qa P.kl (by decide)) rfl P λk s P=>⟨decide ((0:Int)<(s.wk.length:Nat)),?_,λhc R' _ T=>?_,λhc=>?_⟩
 ·exact bK (.p (zfz X s (Cxd P0 d))<| .c<| .z (two (.bool (decide ((0:Int)<(s.wk.length:Nat)))) (mG X s))) (by kernel_rfl)
 ·obtain ⟨wk,y,hw⟩: ∃wk y,s.wk=wk++ [y]:=⟨s.wk.dropLast,s.wk.getLast (List.ne_nil_of_length_pos (JG.mp (dT hc):0<s.wk.length)),(KF _).symm⟩
  refine (zil (d:=d) O P hw).elim λs' zq3=>?_;have e1:bI (Cxd P0 d) (.ref (X.h.length+2)) nPop [] (mG X s) (mG X s)=some (.int y,mG X {s with wk:=wk}):=by
   exact W.eq (zeL mg_w (by rw [<-(by rw [hw];exact QL .. :iVs s.wk=iVs wk++ [.int y])];exact mg_w) ⟨rfl,zec⟩)
  exact run (.p (e1)<| .s (zq3.2)<| .z (T.nx s' zq3.1)) (by kernel_rfl)
 ·exact ⟨P.l,P.B,λy xs e1=>P.c y xs e1 (by rw [(Jp.mp (by have:=dF hc;lia):s.wk= [])];exact Qr)⟩
end
theorem zfB {f b:Nat}{fs:List Nat}{xss:List (List Nat)} (hd:2<=d) (I:IsM R h L M) (hf:h[f]?=some (.list (iVs fs))) (A:f9 h b xss) (hl:xss.length=M.arcs.length) (hfs: ∀s∈fs,s<M.arcs.length) (hfl:fs.length<=10000) (hxs: ∀xs∈xss,xs.length<=100000/\∀o∈xs,o<M.arcs.length)
  (q: ∀mb t,mb.length=M.arcs.length->mB fs xss mb->(∀ (s:Nat) xs,mb[s]?=some true->xss[s]?=some xs-> ∀o∈xs,mb[o]?=some true) ->(h++t)[h.length+1]?=some (.list (mb.map Val.bool)) ->Q (.ref (h.length+1)) (h++t)):WF P0 d 124 [.ref L.m,.ref f,.ref b] h Q:=by
 refine bD (K:=1) hd (some (.ref L.m)::some (.ref f)::some (.ref b)::nn 10) bd_machine__met (by kernel_rfl) λd' h'=>?_;obtain ⟨s,P,e⟩:=met1 (d:=d') (⟨A,hl,I.lim,hfs,hfl,λ_ _ _=>trivial,hxs⟩:MOk ⟨h,L.m,f,b,.list [.bool false],M.arcs.length,fs,xss⟩);have h1:=P.h1;rw [Q2] at h1;have hw:s.wk=fs:=P.w;have P2:MP2 ⟨h,L.m,f,b,.list [.bool false],M.arcs.length,fs,xss⟩ (2*gU s.mb+s.wk.length) s:=⟨rfl,by
   have h2:gU s.mb<=s.mb.length:=List.countP_le_length ..;rw [show s.mb.length=M.arcs.length from P.l] at h2
   have:=I.lim
   rw [hw]
   lia,P.l,⟨h1,λT p1 _ y hy=>p1 y (P.h2 y hy)⟩,λy hy=>h1 y (hw▸hy),λy xs hy hn=>absurd (hw.symm▸P.h2 y hy) hn⟩
 refine (zim (d:=d') (⟨A,hl,I.lim,hfs,hfl,λ_ _ _=>trivial,hxs⟩:MOk ⟨h,L.m,f,b,.list [.bool false],M.arcs.length,fs,xss⟩) P2).elim λs' zq1=>?_;have e1:d4 .mul (.ref h.length) (.int M.arcs.length) (h++ [.list [.bool false]])=some (.ref (h.length+1),h++ [.list [.bool false],.list ((Qz M.arcs.length false).map Val.bool)]):=by
  refine W.eq (uG (n:=M.arcs.length) aX (dG (Qk I.lim (by decide))) (by show 1*_<=_;rw [JI];exact dG (Qk I.lim (by decide))) ⟨by rw [Qv];rfl,?_⟩);rw [uX,Qt,<-KR];rfl
 have e2:aP (Cxd P0 d') (.ty nList) [.ref f] (h++ [.list [.bool false],.list ((Qz M.arcs.length false).map Val.bool)])=some (.ref (h.length+2),mG ⟨h,L.m,f,b,.list [.bool false],M.arcs.length,fs,xss⟩ (m0 ⟨h,L.m,f,b,.list [.bool false],M.arcs.length,fs,xss⟩)):=by
  refine W.eq (zb2 (aB hf) ⟨by rw [Qv];rfl,?_⟩);rw [Qt];rfl
 exact run (.p (cM (h:=h++ [.list [.bool false]]) h' I.app)<| .p (e1)<| .p (e2)<| .s (e)<| .s (zq1.2)<| .z (q s'.mb [.list [.bool false],.list (s'.mb.map Val.bool),.list (iVs s'.wk)] zq1.1.l zq1.1.B zq1.1.c fJ)) (by kernel_rfl)
end
end Tactic
namespace Tactic
open Internal
structure mJ (h hh:MH) (rs:List Nat) (xss:List (List Nat)):Prop where
 app: ∃t,hh=h++t
 at0:hh[h.length]?=some (.list (rs.map .ref))
 len:rs.length=xss.length
 low: ∀r∈rs,h.length<r
 nd:rs.Nodup
 row: ∀ (k r:Nat) (xs:List Nat),rs[k]?=some r->xss[k]?=some xs->hh[r]?=some (.list (iVs xs))
theorem g6 {h t:MH}{r:Nat}{o:MObj} (hr:h.length<=r):(h++t).set r o=h++t.set (r-h.length) o:=Km _ _ hr
theorem mJ.push {h hh:MH}{rs:List Nat}{xss:List (List Nat)}{k r s:Nat}{xs:List Nat} (A:mJ h hh rs xss) (hr:rs[k]?=some r) (hx:xss[k]?=some xs):mJ h (hh.set r (.list (iVs (xs++ [s])))) rs (xss.set k (xs++ [s])):=by
 refine A.app.elim λt zq12=>?_;obtain rfl:=zq12;have hm:=A.low r (Qe hr);refine ⟨⟨_,g6 (QJ hm)⟩,a7 (JL hm) A.at0,by rw [QS];exact A.len,A.low,A.nd,λk' r' xs' hr' hx'=>?_⟩;by_cases e:k=k'
 ·subst e
  rw [hr] at hr';cases hr';rw [QP (aJ hx)] at hx';cases hx';exact bH (A.row k r xs hr hx)
 ·rw [QO e] at hx'
  refine a7 (λq=>?_) (A.row k' r' xs' hr' hx');subst q;obtain ⟨l1,e1⟩:=Qn.mp hr;refine (Qn.mp hr').elim λl2 zq10=>?_;exact e (Kv A.nd|>.mp (e1.trans zq10.symm))
theorem mJ.isAdj {h hh:MH}{rs:List Nat}{xss:List (List Nat)} (A:mJ h hh rs xss):f9 hh h.length xss:=⟨rs,A.at0,A.len,A.row⟩
section
variable {R:Rg}{d:Nat}{h h0:MH}{Q:Val->MH->Prop}{L:Ly}{M:Mc R.α}
structure cL (M:Mc R.α) (i j:Nat) (xss:List (List Nat)):Prop where
 len:xss.length=M.arcs.length
 sum:(xss.map JW).sum=((M.arcs.take i).map JW).sum+j
 mem: ∀ (k:Nat) xs,xss[k]?=some xs-> ∀s,s∈xs ↔ ∃ys,M.arcs[s]?=some ys/\((s<i/\∃a∈ys,a.t=k)\/(s=i/\∃a∈ys.take j,a.t=k))
theorem cL.step {i j k:Nat}{xss:List (List Nat)}{xs:List Nat}{ys:List (Ar R.α)}{a:Ar R.α} (B:cL M i j xss) (hy:M.arcs[i]?=some ys) (ha:ys[j]?=some a) (hk:a.t=k) (hx:xss[k]?=some xs):cL M i (j+1) (xss.set k (xs++ [i])):=by
 obtain ⟨hkl,e⟩:=Qn.mp hx;subst e;refine ⟨by rw [QS];exact B.len,by rw [u7 hkl,B.sum];exact QY _ _ _,λk' xs' hx' s=>?_⟩;have tk: ∀ {b},b∈ys.take (j+1) ↔ b∈ys.take j\/b=a:=λ{b} =>by
  rw [JJ,ha,QX];simp
 by_cases e:k=k'
 ·subst e
  rw [QP hkl] at hx';cases hx';rw [QX,B.mem k _ hx s,Qw]
  constructor
  ·rintro (⟨zs,h1,h2| ⟨h2,b,h3,h4⟩⟩|rfl)
   ·exact ⟨zs,h1,.inl h2⟩
   ·exact ⟨zs,h1,.inr ⟨h2,b,by subst h2;rw [hy] at h1;cases h1;exact tk.mpr (.inl h3),h4⟩⟩
   ·exact ⟨ys,hy,.inr ⟨rfl,a,tk.mpr (.inr rfl),hk⟩⟩
  ·rintro ⟨zs,h1,h2| ⟨rfl,b,h3,h4⟩⟩
   ·exact .inl ⟨zs,h1,.inl h2⟩
   ·exact .inr rfl
 ·rw [QO e] at hx'
  rw [B.mem k' xs' hx' s]
  constructor
  ·rintro ⟨zs,h1,h2| ⟨h2,b,h3,h4⟩⟩
   ·exact ⟨zs,h1,.inl h2⟩
   ·exact ⟨zs,h1,.inr ⟨h2,b,by subst h2;rw [hy] at h1;cases h1;exact tk.mpr (.inl h3),h4⟩⟩
  ·rintro ⟨zs,h1,h2| ⟨h2,b,h3,h4⟩⟩
   ·exact ⟨zs,h1,.inl h2⟩
   ·refine ⟨zs,h1,.inr ⟨h2,b,?_,h4⟩⟩
    subst h2;rw [hy] at h1;cases h1;rcases tk.mp h3 with h3|rfl
    ·exact h3
    ·exact absurd (hk.symm.trans h4) e
theorem cL.next {i:Nat}{xss:List (List Nat)}{ys:List (Ar R.α)} (B:cL M i ys.length xss) (hy:M.arcs[i]?=some ys):cL M (i+1) 0 xss:=by
 obtain ⟨hil,e⟩:=Qn.mp hy;refine ⟨B.len,?_,λk xs hx s=>?_⟩
 ·rw [B.sum,Ki hil,QL,KH,e];simp
 ·rw [B.mem k xs hx s]
  constructor
  ·rintro ⟨zs,h1,⟨h2,h3⟩| ⟨h2,h3⟩⟩
   ·exact ⟨zs,h1,.inl ⟨ZZ _ h2,h3⟩⟩
   ·subst h2;rw [hy] at h1;cases h1
    rw [Q2] at h3;exact ⟨ys,hy,.inl ⟨QF _,h3⟩⟩
  ·rintro ⟨zs,h1,⟨h2,h3⟩| ⟨h2,b,h3,_⟩⟩
   ·by_cases e:s=i
    ·subst e;rw [hy] at h1;cases h1
     exact ⟨ys,hy,.inr ⟨rfl,by rw [Q2];exact h3⟩⟩
    ·exact ⟨zs,h1,.inl ⟨Jn (QM h2) e,h3⟩⟩
   ·exact absurd h3 Qr
theorem mJ.im {hh:MH}{rs:List Nat}{xss:List (List Nat)} (A:mJ h hh rs xss) (I:IsM R h L M):IsM R hh L M:=by obtain ⟨t,rfl⟩:=A.app;exact I.app
theorem mJ.up {hh:MH}{rs:List Nat}{xss:List (List Nat)}{a:Nat}{o:MObj} (A:mJ h hh rs xss) (e:h[a]?=some o):hh[a]?=some o:=by obtain ⟨t,rfl⟩:=A.app;exact aB e
structure BS where
 g:MH
 xss:List (List Nat)
 a:Option Val:=none
 b:Option Val:=none
abbrev bkF (L:Ly) (n:Nat) (a b:Option Val):Internal.Frame:=some (.ref L.m)::some (.ref n)::a::b::nn 6
structure BP (h:MH) (M:Mc R.α) (rs:List Nat) (i j:Nat) (s:BS):Prop where
 A:mJ h s.g rs s.xss
 B:cL M i j s.xss
abbrev bkB:List Sm:= [.expr (.meth (.sub (.var 1) (.attr (.var 3) k_target)) nAppend [.var 2])]
abbrev bkL:Sm:= .fo [3] false (.sub (.attr (.var 0) k_arcs) (.var 2)) bkB
theorem zdG (I:IsM R h L M) {i j k:Nat}{xss:List (List Nat)}{xs:List Nat} (B:cL M i j xss) (hi:i<M.arcs.length) (hj:j<(aAt M i).length) (hx:xss[k]?=some xs):xs.length<1000000:=by
 have h1:=oW (Qe hx);rw [B.sum] at h1;have h2:=lR I (i+1);rw [iS hi] at h2;exact Qk (Qa h1 (Qa (Qm (QJ hj) _) h2)) (Qk I.cl (by decide))
theorem zf7 {i:Nat}{rs:List Nat}{s:BS} (I:IsM R h L M) (ht: ∀ys∈M.arcs,∀a∈ys,a.t<M.arcs.length) (hi:i<M.arcs.length) (P:BP h M rs i 0 s):
  ∃s',BP h M rs (i+1) 0 s'/\exec (Cxd P0 d) bkL (bkF L h.length (some (.int i)) s.b) s.g=some ((.nx,bkF L h.length (some (.int i)) s'.b),s'.g):=by
 refine (I.rowR hi).elim λr zq6=>zq6.elim λas zq7=>?_;have hr:=zq7.1;have J:=P.A.im I;have hie:M.arcs[i]?=some (aAt M i):=by unfold aAt;rw [Qc hi];rfl
 refine (foL (c:=Cxd P0 d) (tg:=[3]) (many:=false) (a:=r) (e:=.sub (.attr (.var 0) k_arcs) (.var 2)) (b:=bkB) (vs:=as.map .ref) (λs:BS=>bkF L h.length (some (.int i)) s.b) BS.g (λj=>BP h M rs i j) s (zq7.2.1.le I zq7.2.2) rfl (λj s P=>P.A.up zq7.2.1.l) (by exact bK (.v (dZ J)<| .v (sl J.arcs hr)<| .z (two (.ref r) s.g)) (by kernel_rfl)) P λj v s X _ hv P T=>?_).elim λs' q=>⟨s',⟨q.1.A,(zq7.2.1.n▸q.1.B).next hie⟩,q.2⟩;obtain ⟨b,x,rfl,hx,hb⟩:=zq7.2.1.a j v hv;have htg:=ht _ zq7.2.2 x (Qe hx);have hr':=Qc (l:=rs) (i:=x.t) (by rw [P.A.len,P.B.len];exact htg);have hx':=Qc (l:=s.xss) (i:=x.t) (by rw [P.B.len];exact htg);refine c9 ?_;exact run (.v (gTg (P.A.up hb))<| .v (sl P.A.at0 (g8 hr'))<| .p (zhS (Cxd P0 d) i (P.A.row _ _ _ hr' hx') (zdG I P.B hi (aJ hx) hx'))<| .z (T.nx ⟨_,_,s.a,some (.ref b)⟩ ⟨P.A.push hr' hx',P.B.step hie hx rfl hx'⟩)) (by kernel_rfl)
theorem back0:cL M 0 0 (Qz M.arcs.length []):=by
 refine ⟨Q5,by simp,λk xs hx s=>?_⟩;rw [Jj (Qe hx)];exact ⟨λh=>absurd h Qr,λ⟨ys,_,q⟩=>q.elim (λq=>absurd q.1 (QZ _)) λq=>q.2.elim λb q=>absurd q.1 Qr⟩
abbrev adH (h:MH) (n:Nat):MH:=h++MObj.list ((QR (h.length+1) n).map Val.ref)::Qz n (.list [])
theorem ziB {n:Nat}:mJ h (adH h n) (QR (h.length+1) n) (Qz n []):=by
 refine ⟨⟨_,rfl⟩,aX,by rw [Zl,Q5],λr hr=>(List.mem_range'_1.mp hr).1,List.nodup_range' ..,λk r xs hr hx=>?_⟩;obtain ⟨hk,e⟩:=Qn.mp hr;rw [List.getElem_range',JI,QY,Ju 1] at e;rw [Zl] at hk;rw [Jj (Qe hx),<-e,fJ];show (Qz _ _)[k]?=_;rw [J0,if_pos hk];rfl
theorem zdD (I:IsM R h L M):eval (Cxd P0 d) (.comp (.list []) [4] false (.attr (.var 0) k_arcs) []) (some (.ref L.m)::nn 9) h=some (.ref h.length,adH h M.arcs.length):=by
 have hn:(L.rows.map Val.ref).length<200000:=by
  rw [Qh,I.len];exact Qk I.lim (by decide)
 refine W.eq (kI (a:=L.aA) (vs:=L.rows.map .ref) (λ_ ys t=>ys=(QR (h.length+1) ys.length).map Val.ref/\t=Qz ys.length (.list [])) hn (dG hn) ?_);refine W.of (a:=.ref L.aA) (W.eq (by exact bK (.v (dZ I)<| .z (two (.ref L.aA) h)) (by kernel_rfl):WE (Cxd P0 d) (some (.ref L.m)::nn 9) (.attr (.var 0) k_arcs) h λv g=>v= .ref L.aA/\g=h)) ⟨rfl,I.arcs,⟨rfl,rfl⟩,λys t v J hv=>?_,λys t hl J=>?_⟩
 ·refine uF (uE ⟨[.list []],by rw [Qt];rfl,?_,?_⟩)
  ·rw [(λy=>by rw [Qv];rfl: ∀y:Val,(ys++ [y]).length=ys.length+1),Xh,QL,<-J.1]
   congr 2
   rw [Qv,Jx,J.2,Q5,JI,QY,Ju 1]
  ·rw [(λy=>by rw [Qv];rfl: ∀y:Val,(ys++ [y]).length=ys.length+1),J3,<-J.2]
 ·obtain ⟨J1,J2⟩:=J
  rw [Qh,I.len] at hl;rw [hl] at J1 J2;subst J1;subst J2;exact ⟨rfl,rfl⟩
theorem zdF (hd:2<=d) (I:IsM R h L M) (ht: ∀ys∈M.arcs,∀a∈ys,a.t<M.arcs.length) (q: ∀t xss,cL M M.arcs.length 0 xss->f9 (h++t) h.length xss->Q (.ref h.length) (h++t)):WF P0 d 123 [.ref L.m] h Q:=by
 refine bD (K:=1) hd (some (.ref L.m)::nn 9) bd_machine__backward (by kernel_rfl) λd' h'=>?_;have A0:=ziB (h:=h) (n:=M.arcs.length);obtain ⟨s,P,e⟩:=foR (c:=Cxd P0 d') (x:=2) (n:=M.arcs.length) (e:=.call (.lit (.ty 491260897125)) [.meth (.var 0) k_size []]) (b:=[bkL]) (λs:BS=>bkF L h.length s.a s.b) BS.g (λi=>BP h M (QR (h.length+1) M.arcs.length) i 0) ⟨_,_,none,none⟩ (tE I) rfl (by exact bK (.p (cM h' (A0.im I))<| .c<| .z (two (.rng M.arcs.length) (adH h M.arcs.length))) (by kernel_rfl)) ⟨A0,back0⟩ λi s X _ hi P T=>by
  refine (zf7 (d:=d') I ht hi P).elim λs' zq2=>?_;exact run (.s (zq2.2)<| .z (T.nx ⟨s'.g,s'.xss,some (.int i),s'.b⟩ ⟨zq2.1.A,zq2.1.B⟩)) (by kernel_rfl)
 obtain ⟨t,ht⟩:=P.A.app;have A':=P.A.isAdj;rw [ht] at A' e;exact run (.p (zdD (d:=d') I)<| .s (e)<| .z (q t s.xss P.B A')) (by kernel_rfl)
end
end Tactic
namespace Tactic
open Internal
def numE:List Nat->Nat->List (Val×Val)
 | [],_=> []
 |k::r,o=>(.int (k:Int),.int (o:Int))::numE r (o+1)
theorem vC {a b:Nat}:kEq (.int a) (.int b)=(a==b):=by
 show J8 (.int a) (.int b)=_;show ((a:Int)==(b:Int))=_;by_cases h:a=b
 ·subst h;simp
 ·rw [beq_false_of_ne h,beq_false_of_ne];exact λe=>h (Yj.inj e)
theorem zak {l:List Nat}: ∀ {o:Nat},(numE l o).length=l.length:=by
 induction l with
 |nil=>exact rfl
 |cons k l ih=>exact congrArg (· +1) ih
theorem b0 {k k' v:Val}{es:List (Val×Val)}:aZ ((k',v)::es) k=bif kEq k' k then some v else aZ es k:=by
 unfold aZ;rw [Z9];cases kEq k' k<;>rfl
theorem lH {l:List Nat}{k:Nat}: ∀ {o:Nat},aZ (numE l o) (.int k)=if k∈l then some (.int ((o+l.idxOf k:Nat):Int)) else none:=by
 induction l with
 |nil=>intro o;rfl
 |cons x l ih=>
  intro o;show aZ ((.int (x:Int),.int (o:Int))::numE l (o+1)) _=_;rw [b0,vC,ih];by_cases h:x=k
  ·subst h;simp
  ·rw [beq_false_of_ne h,cond_false,List.idxOf_cons,beq_false_of_ne h,cond_false]
   by_cases hk:k∈l
   ·rw [if_pos hk,if_pos (YK _ hk)]
    congr 2;lia
   ·rw [if_neg hk,if_neg λq=>(QH.mp q).elim (λe=>h e.symm) hk]
theorem xE {l:List Nat}{k:Nat}: ∀ {o:Nat},numE (l++ [k]) o=numE l o++ [(.int (k:Int),.int ((o+l.length:Nat):Int))]:=by
 induction l with
 |nil=>intro o;rfl
 |cons x l ih=>
  intro o;show _::numE (l++ [k]) (o+1)=_;rw [ih,show o+(x::l).length=o+1+l.length by rw [Jx];lia];rfl
theorem i5 {l:List Nat}{k o:Nat}:aM (numE l o) (.int k)=true:=by cases l<;>rfl
theorem zaj {l:List Nat}{k:Nat} (hk:k∉l) {v:Val} (hv:v= .int (l.length:Nat)):dS (numE l 0) (.int k) v=numE (l++ [k]) 0:=by
 unfold dS;rw [lH,if_neg hk,xE,hv,JA];rfl
section
variable {h:MH}{Q:Val->MH->Prop}{c:Cx}
theorem zcn {a k:Nat}{l:List Nat} (ha:h[a]?=some (.list (iVs l))) (q:Q (.bool (!decide (k∈l))) h):WC .notin (.int k) (.ref a) h Q:=by
 refine y4 (r:=decide (k∈l)) ?_ q;show alt ((bG h (.ref a)).bind λvs=>nU h (.int k) vs) _=_;rw [fR ha];show alt (nU h (.int k) (iVs l)) _=_;have e:(iVs l).mapM (toD h 7)=some (l.map λ(x:Nat)=>Xz x):=by
  clear ha q
  unfold iVs
  induction l with
  |nil=>rfl
  |cons x l ih=>rw [QC,KV,ih];rfl
 have e2:nU h (.int k) (iVs l)=some (decide (k∈l)):=by
  unfold nU;rw [e];show some ((l.map λ(x:Nat)=>Xz x).any λy=>J8 y (.int k))=_
  congr 1
  rw [List.any_map]
  clear ha q e
  induction l with
  |nil=>rfl
  |cons x l ih=>
   have ex:J8 (.int (x:Int)) (.int (k:Int))=(x==k):=vC;rw [List.any_cons,ih];show (J8 (.int (x:Int)) (.int (k:Int))||decide (k∈l))=_;rw [ex];by_cases hx:x=k
   ·subst hx;simp
   ·rw [beq_false_of_ne hx,YY]
    by_cases hk:k∈l
    ·rw [decide_eq_true hk,decide_eq_true (YK _ hk)]
    ·rw [decide_eq_false hk,decide_eq_false λq=>(QH.mp q).elim (λe=>hx e.symm) hk]
 rw [e2];rfl
end
section
variable {R:Rg}{h h':MH}{S:List Nat}
theorem cB.pre {g t:MH} (K:cB (g++t) h' S) (hs: ∀a∈S,g.length<=a): ∃t',h'=g++t':=by
 refine ⟨h'.drop g.length,?_⟩;have hl:=K.len;rw [Qv] at hl
 have:g=h'.take g.length:=by
  refine gK (by rw [JD];exact Ka (Yt (Qi _) (Qa (Qd _ _) hl)) (QM (QB (Z8 _ _)))) λi o hi=>?_;have hlt:=bE hi;rw [Xi,if_pos hlt];exact K.at' i o (λq=>absurd (hs i q) (Xe.mpr hlt)) (aB hi)
 conv=>rhs;lhs;rw [this]
 exact (Zq ..).symm
end
end Tactic
namespace Tactic
open Internal
section
variable {R:Rg}{d:Nat}{h h0:MH}{Q:Val->MH->Prop}{L:Ly}{M:Mc R.α}
structure a9 (M:Mc R.α) (p k:Nat):Prop where
 st:M.start<M.arcs.length
 arc: ∀ys∈M.arcs,∀a∈ys,a.t<M.arcs.length/\lab a.up/\lab a.lo/\R.D p k a.w/\a.w≠R.zero
 fst:R.D p k M.first
 ed: ∀e∈M.ends,R.D p k e
 bd:4*p+k<=3800
 n:M.arcs.length<=300
 c:M.cnt<=300
def onw (M:Mc R.α):List (List Nat):=M.arcs.map λr=>r.map Ar.t
def tS (xss:List (List Nat)) (mb:List Bool):Prop:= ∀ (s:Nat) xs,mb[s]?=some true->xss[s]?=some xs-> ∀o∈xs,mb[o]?=some true
def iO (M:Mc R.α) (k:Nat):Bool:=!@decide (M.ends[k]?.getD R.zero=R.zero) (R.deq _ _)
structure pN (M:Mc R.α) (ks:List Nat) (mb1 mb2:List Bool) (xss:List (List Nat)):Prop where
 l1:mb1.length=M.arcs.length
 m1:mB [M.start] (onw M) mb1
 c1:tS (onw M) mb1
 l2:mb2.length=M.arcs.length
 m2:mB (dA (iO M) M.arcs.length) xss mb2
 c2:tS xss mb2
 b2:cL M M.arcs.length 0 xss
 ks:ks=dA (λk=>mb1[k]?.getD false && mb2[k]?.getD false) M.arcs.length
def eAt (M:Mc R.α) (k:Nat):R.α:=M.ends[k]?.getD R.zero
def dO (ks:List Nat) (xs:List (Ar R.α)):List (Ar R.α):=xs.filterMap λa=>if a.t∈ks then some {a with t:=ks.idxOf a.t} else none
inductive fF (M:Mc R.α) (ks:List Nat) (T:Mc R.α):Prop
 |full (h1:M.start∈ks) (h2:M.first≠R.zero) (ha:T.arcs=ks.map λk=>dO ks (aAt M k)) (he:T.ends=ks.map (eAt M)) (hs:T.start=ks.idxOf M.start) (hf:T.first=M.first):fF M ks T
 |bare (h1:M.start∉ks\/M.first=R.zero) (ha:T.arcs= [[]]) (he:T.ends= [R.zero]) (hs:T.start=0) (hf:T.first=R.one):fF M ks T
theorem j4 {p:Nat->Bool}{n k:Nat} (h:k∈dA p n):k<n/\p k=true:=by
 have:=KI.mp h
 exact ⟨Zm.mp this.1,this.2⟩
theorem u1 {p:Nat->Bool}{n:Nat}:(dA p n).Nodup:=Yk.filter _
theorem IsM.end_at (I:IsM R h L M) {k:Nat} (hk:k<M.arcs.length):(M.ends.map R.e)[k]?=some (R.e (eAt M k)):=by
 have:k<M.ends.length:=by rw [I.lenE];exact hk
 unfold eAt;rw [Qu,Qc this];rfl
structure TS (h g:MH) (m D aK:Nat) (ks l:List Nat) (L:Ly) (M:Mc R.α):Prop where
 pre: ∃t,g=h++t
 kK:g[aK]?=some (.list (iVs ks))
 dD: ∃ep,g[D]?=some (.dict ep (numE l 0))
 I:IsM R g L M
 em:L.m=m
 own: ∀a∈own L,h.length<=a/\a≠aK/\a≠D
theorem TS.kept {g g':MH}{m D aK:Nat}{ks l:List Nat}{L':Ly}{M':Mc R.α} (S:TS h g m D aK ks l L M) (K:cB g g' (Tactic.own L)) (I':IsM R g' L' M') (em:L'.m=L.m) (ho: ∀a∈Tactic.own L',a∈Tactic.own L\/g.length<=a):TS h g' m D aK ks l L' M':=by
 refine S.pre.elim λt zq36=>?_;obtain rfl:=zq36;obtain ⟨ep,hD⟩:=S.dD;have lt:h.length<=(h++t).length:=by rw [Qv];exact Qd _ _
 have l1:=bE S.kK;have l2:=bE hD;refine ⟨K.pre λa ha=>(S.own a ha).1,K.at' _ _ (λq=>(S.own _ q).2.1 rfl) S.kK,⟨ep,K.at' _ _ (λq=>(S.own _ q).2.2 rfl) hD⟩,I',em.trans S.em,λa ha=>?_⟩;rcases ho a ha with ha|ha
 ·exact S.own a ha
 ·exact ⟨Qa lt ha,JL (Qf l1 ha),JL (Qf l2 ha)⟩
theorem IsM.other {D:Nat}{ep:Option Nat}{es:List (Val×Val)}{o:MObj} (I:IsM R h L M) (hD:h[D]?=some (.dict ep es)):IsM R (h.set D o) L M:=by
 have g: ∀ (a:Nat) (x:MObj),h[a]?=some x->(∀ep es,x≠ .dict ep es) ->(h.set D o)[a]?=some x:=λa x e hn=>a7 (λq=>by subst q;exact hn _ _ (Qy.inj (e.symm.trans hD))) e;refine ⟨g _ _ I.obj nofun,g _ _ I.arcs nofun,g _ _ I.ends nofun,I.len,I.lenE,λk r xs hr hx=>?_,I.nd,I.lim,I.ct,I.cl,I.ds.to λ_ _ _ e=>g _ _ e nofun⟩;refine (I.rows k r xs hr hx).mono λa x e ho=>?_;rcases ho with ⟨y,rfl⟩|rfl
 ·exact g _ _ e nofun
 ·obtain ⟨as,h1,_⟩:=I.rows k a xs hr hx
  refine g _ _ e ?_;rw [h1] at e;cases e
  nofun
theorem TS.put {g:MH}{m D aK x:Nat}{ks l:List Nat}{ep:Option Nat} (S:TS h g m D aK ks l L M) (hh:h.length<=D) (hx:x∉l):TS h (g.set D (.dict ep (numE (l++ [x]) 0))) m D aK ks (l++ [x]) L M:=by
 refine S.dD.elim λep' zq33=>?_;refine S.pre.elim λt zq32=>?_;obtain rfl:=zq32;exact ⟨⟨_,g6 hh⟩,a7 (ne_of zq33 S.kK nofun) S.kK,⟨ep,bH zq33⟩,S.I.other zq33,S.em,S.own⟩
theorem lF {r:Nat}: ∀a∈Tactic.own (L.more r),a∈Tactic.own L\/a=r:=λa ha=>by
 simp only [Tactic.own,Ly.more,QH,QX,Qr,or_false] at ha ⊢;rcases ha with h|h|h|h|h
 ·exact .inl (.inl h)
 ·exact .inl (.inr (.inl h))
 ·exact .inl (.inr (.inr (.inl h)))
 ·exact .inl (.inr (.inr (.inr h)))
 ·exact .inr h
structure ST (M:Mc R.α) (ks:List Nat) (i j:Nat) (T:Mc R.α):Prop where
 al:T.arcs.length=ks.length
 a: ∀ (m k:Nat),ks[m]?=some k->T.arcs[m]?=some (if m<i then dO ks (aAt M k) else if m=i then dO ks ((aAt M k).take j) else [])
 e: ∀ (m k:Nat),ks[m]?=some k->T.ends[m]?=some (if m<i then eAt M k else R.zero)
 c:T.cnt<=i*300+j
theorem kJ {ks:List Nat}{xs:List (Ar R.α)}{a:Ar R.α}:dO ks (xs++ [a])=dO ks xs++if a.t∈ks then [{a with t:=ks.idxOf a.t}] else []:=by
 unfold dO;rw [List.filterMap_append]
 congr 1
 by_cases h:a.t∈ks
 ·simp [h]
 ·simp [h]
theorem ST.skip {ks:List Nat}{i j k:Nat}{T:Mc R.α}{a:Ar R.α} (S:ST M ks i j T) (hk:ks[i]?=some k) (ha:(aAt M k)[j]?=some a) (hn:a.t∉ks):ST M ks i (j+1) T:=by
 refine ⟨S.al,λm k' hk'=>?_,S.e,Jf S.c⟩;rw [S.a m k' hk'];by_cases h1:m<i
 ·rw [if_pos h1,if_pos h1]
 ·rw [if_neg h1,if_neg h1]
  by_cases h2:m=i
  ·subst h2
   rw [hk] at hk';cases hk';rw [if_pos rfl,if_pos rfl,JJ,ha];show some _=some (dO ks (_++ [a]));rw [kJ,if_neg hn,QU]
  ·rw [if_neg h2,if_neg h2]
theorem ST.add {ks:List Nat}{i j k:Nat}{T:Mc R.α}{a:Ar R.α} (S:ST M ks i j T) (hk:ks[i]?=some k) (ha:(aAt M k)[j]?=some a) (hn:a.t∈ks):ST M ks i (j+1) (T.arc i {a with t:=ks.idxOf a.t}):=by
 refine ⟨by show (T.arcs.set i _).length=_;rw [QS];exact S.al,λm k' hk'=>?_,S.e,by have:=S.c;show T.cnt+1<=_;exact Qa (QE this (Qi _)) (QA (QY _ _ _))⟩;show (T.arcs.set i (T.arcs[i]?.getD []++ [{a with t:=ks.idxOf a.t}]))[m]?=_;by_cases h2:i=m
 ·subst h2
  rw [hk] at hk';cases hk';rw [QP (by rw [S.al];exact aJ hk:i<T.arcs.length),S.a i k hk,if_neg (Q4 _),if_pos rfl,if_neg (Q4 _),if_pos rfl,JJ,ha];show some _=some (dO ks (_++ [a]));rw [kJ,if_pos hn];rfl
 ·rw [QO h2,S.a m k' hk']
  by_cases h1:m<i
  ·rw [if_pos h1,if_pos h1]
  ·rw [if_neg h1,if_neg h1,if_neg (JC h2),if_neg (JC h2)]
theorem ST.next {ks:List Nat}{i k:Nat}{T:Mc R.α} (S:ST M ks i (aAt M k).length T) (hk:ks[i]?=some k) (hl:(aAt M k).length<=300) (hE:T.ends.length=T.arcs.length):ST M ks (i+1) 0 {T with ends:=T.ends.set i (eAt M k)}:=by
 refine ⟨S.al,λm k' hk'=>?_,λm k' hk'=>?_,Qa S.c (Qa (Qm hl _) (QA (Nat.succ_mul i 300).symm))⟩
 ·rw [S.a m k' hk']
  by_cases h1:m<i
  ·rw [if_pos h1,if_pos (Q7 h1)]
  ·rw [if_neg h1]
   by_cases h2:m=i
   ·subst h2
    rw [hk] at hk';cases hk';rw [if_pos rfl,if_pos (QF _),Q2]
   ·rw [if_neg h2,if_neg (Jc (QT (Jn (Q0 h1) (JC h2))))]
    by_cases h3:m=i+1
    ·rw [if_pos h3];rfl
    ·rw [if_neg h3]
 ·show (T.ends.set i (eAt M k))[m]?=_
  by_cases h2:i=m
  ·subst h2
   rw [hk] at hk';cases hk';rw [QP (by rw [hE,S.al];exact aJ hk:i<T.ends.length),if_pos (QF _)]
  ·rw [QO h2,S.e m k' hk']
   by_cases h1:m<i
   ·rw [if_pos h1,if_pos (Q7 h1)]
   ·rw [if_neg h1,if_neg (Jc (QT (Jn (Q0 h1) h2)))]
structure TrS (R:Rg) where
 g:MH
 L:Ly
 M:Mc R.α
 a:Option Val
 b:Option Val
structure TX (R:Rg) where
 h:MH
 L:Ly
 M:Mc R.α
 ks:List Nat
 m:Nat
 D:Nat
 aK:Nat
 o1:Option Val
 o3:Option Val
 o4:Option Val
 p:Nat
 k:Nat
def tFr (X:TX R) (a b:Option Val):Internal.Frame:=some (.ref X.L.m)::X.o1::a::X.o3::X.o4::some (.ref X.aK)::some (.ref X.m)::some (.ref X.D)::b::nn 6
structure TOk (X:TX R):Prop where
 I:IsM R X.h X.L X.M
 G:a9 X.M X.p X.k
 ks: ∀x∈X.ks,x<X.M.arcs.length
 nk:X.ks.Nodup
 n:X.ks.length<=300
 D:X.h.length<=X.D
abbrev TSx (X:TX R) (l:List Nat) (s:TrS R):Prop:=TS X.h s.g X.m X.D X.aK X.ks l s.L s.M
variable {X:TX R}{R':Fl->Internal.Frame->MH->Prop}
theorem TS.im {g:MH}{m D aK:Nat}{ks l:List Nat}{L1:Ly}{M1:Mc R.α} (S:TS h g m D aK ks l L1 M1) (I:IsM R h L M):IsM R g L M:=by obtain ⟨t,rfl⟩:=S.pre;exact I.app
theorem TS.up {g:MH}{m D aK:Nat}{ks l:List Nat}{L1:Ly}{M1:Mc R.α} (S:TS h g m D aK ks l L1 M1) {a:Nat}{o:MObj} (e:h[a]?=some o):g[a]?=some o:=by obtain ⟨t,rfl⟩:=S.pre;exact aB e
structure TP1 (X:TX R) (i:Nat) (s:TrS R):Prop where
 S:TSx X (X.ks.take i) s
 a:s.M.arcs=Qz i []
 e:s.M.ends=Qz i R.zero
 c:s.M.cnt=0
theorem inN (k:Nat) {D:Nat}{ep:Option Nat}{l:List Nat} (hD:h[D]?=some (.dict ep (numE l 0))):c7 .isin (.int k) (.ref D) h=some (decide (k∈l)):=by
 show alt ((bG h (.ref D)).bind _) ((dictAt h (.ref D)).bind λd=>grd (aM d.2 (.int k)) (some (aZ d.2 (.int k)).isSome))=_;rw [fS hD,dU hD];show grd (aM (numE l 0) (.int k)) (some (aZ (numE l 0) (.int k)).isSome)=_;rw [i5,lH];by_cases hk:k∈l
 ·rw [if_pos hk,decide_eq_true hk];rfl
 ·rw [if_neg hk,decide_eq_false hk];rfl
theorem sN {D k i:Nat}{ep:Option Nat}{l:List Nat} (hD:h[D]?=some (.dict ep (numE l 0))) (hk:k∈l) (hi:l.idxOf k=i):bJ h (.ref D) (.int k)=some (.int i):=sd hD i5 (by rw [lH,if_pos hk,JA,hi])
theorem zaY {l:List Nat} (nk:l.Nodup) {i x:Nat} (hx:l[i]?=some x):l.idxOf x=i:=by
 rw [<-(Qn.mp hx).2];exact nk.idxOf_getElem i (aJ hx)
theorem zB {l:List Nat} (nk:l.Nodup) {i x:Nat} (hx:l[i]?=some x):x∉l.take i:=λhq=>by
 obtain ⟨j,hj,e⟩:=ZW.mp hq;rw [JD] at hj;rw [List.getElem_take] at e
 have:=Kv nk|>.mp (e.trans (Qn.mp hx).2.symm)
 exact absurd (this▸Qf hj (Z8 _ _)) (Q4 _)
theorem zF {a:Nat} (ha:a∈ [L.aA,L.aE]):a∈Tactic.own L:=(QH.mp ha).elim (λe=>e▸ .tail _ (.head _)) λha=>(Qw.mp ha)▸ .tail _ (.tail _ (.head _))
abbrev tB1:List Sm:= [.asg (.sb (.var 7) (.var 2)) (.meth (.var 6) k_state [])]
theorem zgP {i x:Nat}{s:TrS R} (hd:5<=d) (O:TOk X) (P:TP1 X i s) (hx:X.ks[i]?=some x) (q: ∀s',TP1 X (i+1) s'->R' .nx (tFr X s'.a s'.b) s'.g):
  WSs (Cxd P0 d) tB1 (tFr X (some (.int x)) s.b) s.g R':=by
 have hi:=aJ hx;have em:=P.S.em;have hl1:s.M.arcs.length=i:=by rw [P.a,Q5]
 have hli:(X.ks.take i).length=i:=by rw [JD,Zf (QJ hi)]
 have hxn:=zB O.nk hx;have hil:=Qf hi O.n;refine (qC (d:=d) (Qa (by decide) hd) P.S.I (by rw [hl1];exact Q9 hil (by decide))).elim λg' zq29=>?_;have e1:=zq29.1;have S':=P.S.kept (zq29.2.2.sub λa ha=>zF ha) zq29.2.1 rfl λa ha=>(lF a ha).imp id λe=>QA e.symm;rw [em] at e1;obtain ⟨ep,hD⟩:=S'.dD;have e2:=zcB (v:=.int s.M.arcs.length) hD (i5 (k:=x)) (by rw [zak,hli];exact Q9 hil (by decide));rw [zaj hxn (by rw [hl1,hli])] at e2;have S'':=S'.put (ep:=bif (aZ (numE (X.ks.take i) 0) (.int x)).isSome then ep else ep.map (· +1)) O.D hxn;rw [(by rw [JJ,hx];rfl:X.ks.take i++ [x]=X.ks.take (i+1))] at S'' e2;exact run (.p (e1)<| .h (e2)<| .z (q ⟨_,s.L.more s.g.length,s.M.more,some (.int x),s.b⟩ ⟨S'',by show s.M.arcs++ [[]]=_;rw [P.a,J3],by show s.M.ends++ [R.zero]=_;rw [P.e,J3],P.c⟩)) (by kernel_rfl)
structure TP2 (X:TX R) (i j:Nat) (s:TrS R):Prop where
 S:TSx X X.ks s
 T:ST X.M X.ks i j s.M
abbrev tB2:List Sm:= [.ite (.cmp .isin (.attr (.var 8) 127961880028532) (.var 7)) [.expr (.meth (.var 6) 6386275 [.sub (.var 7) (.var 2),.attr (.var 8) 504397587826,.attr (.var 8) 465726563698,.attr (.var 8) 131277443786868,.sub (.var 7) (.attr (.var 8) 127961880028532)])] []]
theorem zgO {i j x b:Nat}{y:Ar R.α}{s:TrS R} (hd:5<=d) (O:TOk X) (P:TP2 X i j s) (hx:X.ks[i]?=some x) (hje:(aAt X.M x)[j]?=some y) (hj:j<300) (hA:X.h[b]?=some (dC R y)) (ga:y.t<X.M.arcs.length/\lab y.up/\lab y.lo/\R.D X.p X.k y.w/\y.w≠R.zero)
  (q: ∀s',TP2 X i (j+1) s'->R' .nx (tFr X (some (.int x)) s'.b) s'.g):WSs (Cxd P0 d) tB2 (tFr X (some (.int x)) (some (.ref b))) s.g R':=by
 have S:=P.S;have T:=P.T;have hA':=S.up hA;obtain ⟨ep,hD⟩:=S.dD;cases (inferInstance:Decidable (y.t∈X.ks)) with
 |isTrue hk=>
  obtain ⟨g',e,I',K⟩:=zgm (d:=d) (s:=i) (a:={y with t:=X.ks.idxOf y.t}) (Qa (by decide) hd) S.I (by rw [T.al];exact (aJ hx)) (by show X.ks.idxOf y.t<_;rw [T.al];exact JE.mpr hk) ga.2.1 ga.2.2.1 ga.2.2.2.1 O.G.bd (Qk T.c (by
   have:i*300<=299*300:=Jz _ (QM (Qf (aJ hx) O.n))
   exact Qf (Zn this hj) (Ql _ _))) ga.2.2.2.2
  rw [S.em] at e;exact run (.v (gTg hA')<| .b (inN y.t hD)<| .t (decide_eq_true hk)<| .v (sN hD (Qe hx) (zaY O.nk hx))<| .v (gUp hA')<| .v (gLo hA')<| .v (gWt hA')<| .v (gTg hA')<| .v (sN hD hk rfl)<| .p (e)<| .z (q ⟨g',s.L,_,s.a,some (.ref b)⟩ ⟨S.kept K I' rfl λa ha=> .inl ha,T.add hx hje hk⟩)) (by kernel_rfl)
 |isFalse hk=>exact run (.v (gTg hA')<| .b (inN y.t hD)<| .f (decide_eq_false hk)<| .z (q ⟨s.g,s.L,s.M,s.a,some (.ref b)⟩ ⟨S,T.skip hx hje hk⟩)) (by kernel_rfl)
abbrev tL2:Sm:= .fo [8] false (.sub (.attr (.var 0) 1634886515) (.var 2)) tB2
theorem ze5 {i x:Nat}{s:TrS R} (hd:5<=d) (O:TOk X) (P:TP2 X i 0 s) (hx:X.ks[i]?=some x): ∃s',TP2 X i (aAt X.M x).length s'/\exec (Cxd P0 d) tL2 (tFr X (some (.int x)) s.b) s.g=some ((.nx,tFr X (some (.int x)) s'.b),s'.g):=by
 refine (O.I.rowR (O.ks x (Qe hx))).elim λr zq25=>zq25.elim λas zq26=>?_;have hr:=zq26.1;have J:=P.S.im O.I;rw [<-zq26.2.1.n];exact foL (c:=Cxd P0 d) (tg:=[8]) (many:=false) (a:=r) (e:=.sub (.attr (.var 0) 1634886515) (.var 2)) (b:=tB2) (vs:=as.map .ref) (λs':TrS R=>tFr X (some (.int x)) s'.b) TrS.g (λj=>TP2 X i j) s (zq26.2.1.le O.I zq26.2.2) rfl (λj s P=>P.S.up zq26.2.1.l) (by exact bK (.v (dZ J)<| .v (sl J.arcs hr)<| .z (two (.ref r) s.g)) (by kernel_rfl)) P λj v s' R1 _ hv P1 T1=>by
  refine (zq26.2.1.a j v hv).elim λb zq23=>zq23.elim λy zq24=>?_;obtain rfl:=zq24.1;exact c9 (zgO hd O P1 hx zq24.2.1 (Qf (aJ zq24.2.1) (Qa (O.I.cr _ zq26.2.2) O.G.c)) zq24.2.2 (O.G.arc _ zq26.2.2 y (Qe zq24.2.1)) T1.nx)
abbrev tB3:List Sm:= [tL2,.asg (.sb (.attr (.var 6) 1701733491) (.sub (.var 7) (.var 2))) (.sub (.attr (.var 0) 1701733491) (.var 2))]
theorem zgN {i x:Nat}{s:TrS R} (hd:5<=d) (O:TOk X) (P:TP2 X i 0 s) (hx:X.ks[i]?=some x) (q: ∀s',TP2 X (i+1) 0 s'->R' .nx (tFr X s'.a s'.b) s'.g):WSs (Cxd P0 d) tB3 (tFr X (some (.int x)) s.b) s.g R':=by
 obtain ⟨s',P',e⟩:=ze5 (d:=d) hd O P hx;have hxk:=Qe hx;have hxn:=O.ks x hxk;have S:=P'.S;obtain ⟨ep,hD⟩:=S.dD;obtain ⟨g',e2,I',K⟩:=oK (s:=i) (eAt X.M x) S.I (by rw [P'.T.al];exact aJ hx);have J:=S.im O.I;have eE:getAttr P0 s'.g (.ref X.m) k_ends=some (.ref s'.L.aE):=S.em▸jQ S.I;exact run (.s (e)<| .v (jQ J)<| .v (sl J.ends (O.I.end_at hxn))<| .v (eE)<| .v (sN hD hxk (zaY O.nk hx))<| .h (e2)<| .z (q ⟨g',s'.L,_,some (.int x),s'.b⟩ ⟨S.kept K I' rfl λa ha=> .inl ha,P'.T.next hx (Qa (O.I.cr _ (by unfold aAt;rw [Qc hxn];exact Jk hxn:aAt X.M x∈X.M.arcs)) O.G.c) S.I.lenE⟩)) (by kernel_rfl)
section
variable (hd:5<=d) (O:TOk X)
include hd O
theorem kLe:(iVs X.ks).length<=100000:=by rw [cO];exact Qa O.n (by decide)
theorem ze6 {s:TrS R} (P:TP1 X 0 s): ∃s',TP1 X X.ks.length s'/\exec (Cxd P0 d) (.fo [2] false (.var 5) tB1) (tFr X s.a s.b) s.g=some ((.nx,tFr X s'.a s'.b),s'.g):=by
 rw [<-cO];exact foL (c:=Cxd P0 d) (tg:=[2]) (many:=false) (a:=X.aK) (e:=.var 5) (b:=tB1) (vs:=iVs X.ks) (λs:TrS R=>tFr X s.a s.b) TrS.g (λi=>TP1 X i) s (kLe hd O) rfl (λi s P=>P.S.kK) (by exact bK (.z (two (.ref X.aK) s.g)) (by kernel_rfl)) P λi v s R1 _ hv P1 T1=>by
  obtain ⟨x,hx,rfl⟩:=j8 hv;exact c9 (zgP hd O P1 hx T1.nx)
theorem ze4 {s:TrS R} (P:TP2 X 0 0 s): ∃s',TP2 X X.ks.length 0 s'/\exec (Cxd P0 d) (.fo [2] false (.var 5) tB3) (tFr X s.a s.b) s.g=some ((.nx,tFr X s'.a s'.b),s'.g):=by
 rw [<-cO];exact foL (c:=Cxd P0 d) (tg:=[2]) (many:=false) (a:=X.aK) (e:=.var 5) (b:=tB3) (vs:=iVs X.ks) (λs:TrS R=>tFr X s.a s.b) TrS.g (λi=>TP2 X i 0) s (kLe hd O) rfl (λi s P=>P.S.kK) (by exact bK (.z (two (.ref X.aK) s.g)) (by kernel_rfl)) P λi v s R1 _ hv P1 T1=>by
  obtain ⟨x,hx,rfl⟩:=j8 hv;exact c9 (zgN hd O P1 hx T1.nx)
end
theorem TP1.go {s:TrS R} (P:TP1 X X.ks.length s):TP2 X 0 0 s:=by
 have S:=P.S;unfold TSx at S;rw [Q2] at S;refine ⟨S,by rw [P.a,Q5],λm k hk=>?_,λm k hk=>?_,by rw [P.c];exact Qs _⟩
 ·rw [P.a,J0,if_pos (aJ hk),if_neg (QZ _)]
  by_cases h0:m=0
  ·rw [if_pos h0];rfl
  ·rw [if_neg h0]
 ·rw [P.e,J0,if_pos (aJ hk),if_neg (QZ _)]
theorem ST.done {ks:List Nat}{T:Mc R.α} (T':ST M ks ks.length 0 T) (hE:T.ends.length=T.arcs.length):T.arcs=ks.map (λk=>dO ks (aAt M k))/\T.ends=ks.map (eAt M):=by
 refine ⟨gK (by rw [Qh];exact T'.al) λm y hy=>?_,gK (by rw [Qh];exact hE.trans T'.al) λm y hy=>?_⟩
 ·have hm:m<ks.length:=by rw [<-T'.al];exact aJ hy
  have:=T'.a m _ (Qc hm)
  rw [if_pos hm] at this;rw [Qu,Qc hm];exact this.symm.trans hy
 ·have hm:m<ks.length:=by rw [<-T'.al,<-hE];exact aJ hy
  have:=T'.e m _ (Qc hm)
  rw [if_pos hm] at this;rw [Qu,Qc hm];exact this.symm.trans hy
structure zhU (R:Rg) (h:MH) (M:Mc R.α) (ks:List Nat) (t:MH) (L':Ly) (T:Mc R.α):Prop where
 J:IsM R (h++t) L' T
 ho: ∀a∈own L',h.length<=a
 res:fF M ks T
abbrev m3L' (m:Nat):Ly:=⟨m,m+1,m+2,[]⟩
theorem zfp {m a:Nat} (ha:a∈own (m3L' m)):m<=a/\a<=m+2:=by
 simp only [own,QH,Qr,or_false] at ha;rcases ha with rfl|rfl|rfl<;>lia
theorem zfv (k:Nat) {a:Nat}{l:List Nat} (ha:h[a]?=some (.list (iVs l))):c7 .notin (.int k) (.ref a) h=some (!decide (k∈l)):=by
 have:=zcn (k:=k) (Q:=λv _=>v= .bool (!decide (k∈l))) ha rfl
 have w:=this.w
 revert w
 cases c7 .notin (.int k) (.ref a) h with
 |none=>exact λw=>w.elim
 |some r=>exact λw=>by injection (show Val.bool r=_ from w) with w;rw [w]
theorem ze3 {g:MH}{s0:TrS R} (hd:5<=d) (O:TOk X) (hs:X.M.start∈X.ks) (hz: ¬X.M.first=R.zero) (P:TP1 X 0 s0) (eg:s0.g=g) (ea:s0.b=none): ∃t L' T,∃s':TrS R,exec (Cxd P0 d) (.fo [2] false (.var 5) tB1) (tFr X s0.a none) g=some ((.nx,tFr X s'.a s'.b),s'.g)/\∃s2:TrS R,exec (Cxd P0 d) (.fo [2] false (.var 5) tB3) (tFr X s'.a s'.b) s'.g=some ((.nx,tFr X s2.a s2.b),s2.g)/\TP2 X X.ks.length 0 s2/\bI (Cxd P0 d) (.ref X.m) k_begin [.int (X.ks.idxOf X.M.start:Nat),R.e X.M.first] s2.g s2.g=some (.none,X.h++t)/\L'.m=X.m/\zhU R X.h X.M X.ks t L' T:=by
 subst eg;refine (ze6 (d:=d) hd O P).elim λs1 zq17=>?_;have e1:=zq17.2;rw [ea] at e1;refine (ze4 (d:=d) hd O zq17.1.go).elim λs2 zq16=>?_;have S:=zq16.1.S;refine (zbw (d:=d) (s:=X.ks.idxOf X.M.start) (Qa (by decide) hd) S.I (by rw [zq16.1.T.al];exact JE.mpr hs) O.G.fst O.G.bd).elim λg' zq15=>?_;have e3:=zq15.1;have S':=S.kept zq15.2.2 zq15.2.1 rfl λa ha=> .inl ha;refine S'.pre.elim λt zq14=>?_;rw [S.em,zq14] at e3;exact ⟨t,s2.L,{s2.M with start:=X.ks.idxOf X.M.start,first:=X.M.first},s1,e1,s2,zq16.2,zq16.1,e3,S.em,zq14▸zq15.2.1,λa ha=>(S'.own a ha).1,.full hs hz (zq16.1.T.done S.I.lenE).1 (zq16.1.T.done S.I.lenE).2 rfl rfl⟩
theorem zcv {p k aK:Nat}{t0 t1:MH}{ks:List Nat}{o1 o2 o3 o4:Option Val} (I:IsM R h L M) (G:a9 M p k) (hks: ∀x∈ks,x<M.arcs.length) (nk:ks.Nodup) (hK:(h++t0)[aK]?=some (.list (iVs ks))) (J:IsM R (h++t0++t1) ⟨(h++t0).length,(h++t0).length+1,(h++t0).length+2,[]⟩ (M0 (R:=R))):
  TOk (⟨h,L,M,ks,(h++t0).length,(h++t0++t1).length,aK,o1,o3,o4,p,k⟩:TX R)/\TP1 (⟨h,L,M,ks,(h++t0).length,(h++t0++t1).length,aK,o1,o3,o4,p,k⟩:TX R) 0 ⟨h++t0++t1++ [.dict (some 0) []],⟨(h++t0).length,(h++t0).length+1,(h++t0).length+2,[]⟩,M0,o2,none⟩:=by
 have hm:h.length<=(h++t0).length:=by rw [Qv];exact Qd _ _
 have kl:=nk.length_le_of_subset (l₂:=Q3 M.arcs.length) λx hx=>Zm.mpr (hks x hx);rw [Q6] at kl;refine ⟨⟨I,G,hks,nk,Qa kl G.n,Qa hm (by rw [Qv (as:=h++t0)];exact Qd _ _:(h++t0).length<=(h++t0++t1).length)⟩,⟨⟨t0++(t1++ [.dict (some 0) []]),by rw [<-Qt,<-Qt]⟩,aB (aB hK),⟨some 0,aX⟩,J.app,rfl,λa ha=>?_⟩,rfl,rfl,rfl⟩
 have:=zfp ha
 exact ⟨Qa hm this.1,λe=>absurd (e▸(bE hK)) (ZV.mpr this.1),λe=>absurd (e▸Qk this.2 (bE J.ends)) (Q4 _)⟩
theorem zA {p k:Nat}{g:MH}{ks:List Nat}{aK:Nat}{o1 o2 o3 o4:Option Val} (hd:5<=d) (I:IsM R h L M) (G:a9 M p k) (hks: ∀x∈ks,x<M.arcs.length) (nk:ks.Nodup) (eg: ∃t,g=h++t) (hK:g[aK]?=some (.list (iVs ks)))
  (q: ∀t L' T,IsM R (h++t) L' T->(∀a∈own L',h.length<=a) ->fF M ks T->Q (.ref L'.m) (h++t)):WSs (Cxd P0 d) (bd_machine_trim.drop 5) (some (.ref L.m)::o1::o2::o3::o4::some (.ref aK)::nn 9) g (Internal.Fin Q):=by
 obtain ⟨t0,rfl⟩:=eg;have I0:IsM R (h++t0) L M:=I.app;refine (zan (d:=d) R (Qa (by decide) hd) (h++t0)).elim λt1 zq12=>?_;have e1:=zq12.1;have I1:IsM R (h++t0++t1) L M:=I0.app;have hK1:=aB (t:=t1) hK;have hm:h.length<=(h++t0).length:=by rw [Qv];exact Qd _ _
 have bare:(M.start∉ks\/M.first=R.zero) -> ∃t',bI (Cxd P0 d) (.ref (h++t0).length) k_state [] (h++t0++t1) (h++t0++t1)=some (.int 0,h++t')/\Q (.ref (h++t0).length) (h++t'):=λhb=>by
  refine (qC (d:=d) (Qa (by decide) hd) zq12.2 (by show 0<10000;decide)).elim λg' zq11=>?_;have K':=zq11.2.2;rw [Qt] at K';obtain ⟨t',rfl⟩:=K'.pre λa ha=>Qa hm (zfp (m:=(h++t0).length) (zF (L:=m3L' (h++t0).length) ha)).1;refine ⟨t',zq11.1,q t' _ _ zq11.2.1 (λa ha=>?_) (.bare hb rfl rfl rfl rfl)⟩;exact (lF a ha).elim (λha=>Qa hm (zfp (m:=(h++t0).length) ha).1) λe=>e▸Qa hm (by rw [Qv (as:=h++t0)];exact Qd _ _)
 cases (inferInstance:Decidable (M.start∈ks)) with
 |isFalse hs=>
  obtain ⟨t',e2,q⟩:=bare (.inl hs);have hb:(!decide (M.start∈ks))=true:=by rw [decide_eq_false hs];rfl
  exact run (.v (cA I0)<| .p (e1)<| .v (fW I1)<| .b (zfv M.start hK1)<| .t (hb)<| .t (hb)<| .p (e2)<| .z (q)) (by kernel_rfl)
 |isTrue hs=>
  have hb:(!decide (M.start∈ks))=false:=by rw [decide_eq_true hs];rfl
  cases R.deq M.first R.zero with
  |isTrue hz=>
   refine (bare (.inr hz)).elim λt' zq8=>?_;exact run (.v (cA I0)<| .p (e1)<| .v (fW I1)<| .b (zfv M.start hK1)<| .f (hb)<| .v (i8 I1)<| .v (cA I1)<| .w (R.no)<| .k (R.qe M.first R.zero)<| .t (R.yes hz)<| .p (zq8.1)<| .z (zq8.2)) (by kernel_rfl)
  |isFalse hz=>
   have zq7:=zcv (o1:=o1) (o2:=o2) (o3:=o3) (o4:=o4) I G hks nk hK zq12.2;refine (ze3 (d:=d) hd zq7.1 hs hz zq7.2 rfl rfl).elim λt zq2=>zq2.elim λL' zq3=>zq3.elim λT zq4=>zq4.elim λs1 zq5=>zq5.2.elim λs2 zq6=>?_;have em:=zq6.2.2.2.1;have em:L'.m=(h++t0).length:=em;obtain ⟨ep,hD⟩:=zq6.2.1.S.dD;exact run (.v (cA I0)<| .p (e1)<| .v (fW I1)<| .b (zfv M.start hK1)<| .f (hb)<| .v (i8 I1)<| .v (cA I1)<| .w (R.no)<| .k (R.qe M.first R.zero)<| .f (R.not hz)<| .c<| .s (zq5.1)<| .s (zq6.1)<| .v (fW (zq6.2.1.S.im I:IsM R s2.g L M))<| .v (sN hD hs rfl)<| .v (i8 (zq6.2.1.S.im I:IsM R s2.g L M))<| .p (zq6.2.2.1)<| .z ((show Internal.Fin Q (.rt (.ref (h++t0).length)) [] (h++t) from em▸q t L' T zq6.2.2.2.2.J zq6.2.2.2.2.ho zq6.2.2.2.2.res))) (by kernel_rfl)
end
end Tactic
namespace Tactic
open Internal
section
variable {R:Rg}{d:Nat}{h h0:MH}{Q:Val->MH->Prop}{L:Ly}{M:Mc R.α}
theorem zf8 {xss:List (List Nat)} (B:cL M M.arcs.length 0 xss) (I:IsM R h L M) (G: ∀ys∈M.arcs,∀a∈ys,a.t<M.arcs.length): ∀xs∈xss,xs.length<=100000/\∀o∈xs,o<M.arcs.length:=λxs hx=>by
 have h2:=B.sum;rw [Q2,I.ct] at h2;refine ⟨Qa (oW hx) (h2▸I.cl),λo ho=>?_⟩;obtain ⟨k,hk,rfl⟩:=ZW.mp hx;refine ((B.mem k _ (Qc hk) o).mp ho).elim λys zq34=>?_;exact aJ zq34.1
theorem zem {c:Cx}{it e:Ex}{x n:Nat}{fr:Internal.Frame} (p:Nat->Bool) (hn:n<=100000) (hc:c.fuel=200000) (hx: ∀i:Nat,(fr.set x (some (.int (i:Int))))[x]?=some (some (.int (i:Int)))) (e0:WE c fr it h λv g=>v= .rng n/\g=h)
  (step: ∀i,i<n-> ∀acc,WE c (fr.set x (some (.int i))) e (h++ [.list acc]) λv g=>v= .bool (p i)/\g=h++ [.list acc]):eval c (.comp (.var x) [x] false it [e]) fr h=some (.ref h.length,h++ [.list (iVs (dA p n))]):=by
 refine W.eq (y2 p (by rw [hc];exact Qk hn (by decide)) (Qa hn (by decide)) (e0.mono λv g q=>?_));obtain rfl:=q.1;obtain rfl:=q.2;refine ⟨rfl,λi hi acc=>yU ((step i hi acc).mono λv g q=>?_),hx,rfl,rfl⟩;obtain rfl:=q.1;obtain rfl:=q.2;exact uB ⟨λhb=>nW ⟨rfl,hb.symm⟩,λhb=>⟨rfl,hb.symm⟩⟩
theorem Rg.qn (a b:R.α) (h:MH):c7 .ne (R.e a) (R.e b) h=some (!@decide (a=b) (R.deq a b)):=Internal.ne_of (R.veq_ok h a b)
abbrev trF (L:Ly) (o1 o3 o4:Option Val):Internal.Frame:=some (.ref L.m)::o1::none::o3::o4::nn 10
theorem zfX {o1:Option Val} (hd:1<=d) (I:IsM R h L M):eval (Cxd P0 d) (.comp (.var 9) [9] false (.call (.lit (.ty 491260897125)) [.meth (.var 0) k_size []]) [.cmp .ne (.sub (.attr (.var 0) k_ends) (.var 9)) (.attr (.attr (.var 0) k_ring) nNought)]) (trF L o1 none none) h=some (.ref h.length,h++ [.list (iVs (dA (iO M) M.arcs.length))]):=
 zem (iO M) (tE I) rfl (λ_=>rfl) (by exact bK (.p (cM hd I)<| .c<| .z (two (.rng M.arcs.length) h)) (by kernel_rfl)) λi hi acc=>by
  have J:IsM R (h++ [.list acc]) L M:=I.app;exact bK (.v (jQ J)<| .v (sl J.ends (I.end_at hi))<| .v (cA J)<| .w (R.no)<| .k (R.qn (eAt M i) R.zero)<| .z (two (.bool (iO M i)) (h++ [.list acc]))) (by kernel_rfl)
theorem zfR {a1 a2:Nat}{o3:Option Val}{mb1 mb2:List Bool} (hd:1<=d) (I:IsM R h L M) (h1:h[a1]?=some (.list (mb1.map Val.bool))) (h2:h[a2]?=some (.list (mb2.map Val.bool))) (l1:mb1.length=M.arcs.length) (l2:mb2.length=M.arcs.length):eval (Cxd P0 d) (.comp (.var 9) [9] false (.call (.lit (.ty 491260897125)) [.meth (.var 0) k_size []]) [.bop false [.sub (.var 1) (.var 9),.sub (.var 4) (.var 9)]]) (trF L (some (.ref a1)) o3 (some (.ref a2))) h=some (.ref h.length,h++ [.list (iVs (dA (λk=>mb1[k]?.getD false && mb2[k]?.getD false) M.arcs.length))]):=
 zem _ (tE I) rfl (λ_=>rfl) (by exact bK (.p (cM hd I)<| .c<| .z (two (.rng M.arcs.length) h)) (by kernel_rfl)) λi hi acc=>by
  have e1:=Qc (l:=mb1) (i:=i) (l1▸hi);have e2:=Qc (l:=mb2) (i:=i) (l2▸hi)
  generalize mb1[i]'(l1▸hi)=b1 at e1
  generalize mb2[i]'(l2▸hi)=b2 at e2
  rw [e1,e2];cases b1 with
  |false=>exact bK (.v ((sl (aB (t:=[.list acc]) h1) (iT e1)))<| .c<| .z (two (.bool false) (h++ [.list acc]))) (by kernel_rfl)
  |true=>exact bK (.v ((sl (aB (t:=[.list acc]) h1) (iT e1)))<| .c<| .v ((sl (aB (t:=[.list acc]) h2) (iT e2)))<| .z (two (.bool b2) (h++ [.list acc]))) (by kernel_rfl)
theorem zfr (hd:1<=d) (I:IsM R h L M): ∃t,∃b:Nat,aP (Cxd P0 d) (.top 125) [.ref L.m] h=some (.ref b,h++t)/\f9 (h++t) b (onw M):=by
 obtain ⟨v,g,e,t,b,rfl,rfl,q⟩:=W.get (cV (P:=P0) (d:=d) rfl (xC (Q:=λv g=> ∃t b,v= .ref b/\g=h++t/\f9 (h++t) b (onw M)) hd I λt b A=>⟨t,b,rfl,rfl,A⟩));exact ⟨t,b,e,q⟩
structure zdT (h t:MH) (n a:Nat) (fs:List Nat) (xss:List (List Nat)) (mb:List Bool):Prop where
 l:mb.length=n
 B:mB fs xss mb
 c:tS xss mb
 at':(h++t)[a]?=some (.list (mb.map Val.bool))
theorem zaH {f b:Nat}{fs:List Nat}{xss:List (List Nat)} (hd:2<=d) (I:IsM R h L M) (hf:h[f]?=some (.list (iVs fs))) (A:f9 h b xss) (hl:xss.length=M.arcs.length) (hfs: ∀s∈fs,s<M.arcs.length) (hfl:fs.length<=10000) (hxs: ∀xs∈xss,xs.length<=100000/\∀o∈xs,o<M.arcs.length):
  ∃t,∃a:Nat,aP (Cxd P0 d) (.top 124) [.ref L.m,.ref f,.ref b] h=some (.ref a,h++t)/\∃mb,zdT h t M.arcs.length a fs xss mb:=by
 obtain ⟨v,g,e,t,a,rfl,rfl,q⟩:=W.get (cV (P:=P0) (d:=d) rfl (zfB (Q:=λv g=> ∃t a,v= .ref a/\g=h++t/\∃mb,zdT h t M.arcs.length a fs xss mb) hd I hf A hl hfs hfl hxs λmb t l B c m=>⟨t,_,rfl,rfl,mb,l,B,c,m⟩));exact ⟨t,a,e,q⟩
theorem zdH (hd:2<=d) (I:IsM R h L M) (ht: ∀ys∈M.arcs,∀a∈ys,a.t<M.arcs.length): ∃t,∃b:Nat,aP (Cxd P0 d) (.top 123) [.ref L.m] h=some (.ref b,h++t)/\∃xss,cL M M.arcs.length 0 xss/\f9 (h++t) b xss:=by
 obtain ⟨v,g,e,t,b,rfl,rfl,q⟩:=W.get (cV (P:=P0) (d:=d) rfl (zdF (Q:=λv g=> ∃t b,v= .ref b/\g=h++t/\∃xss,cL M M.arcs.length 0 xss/\f9 (h++t) b xss) hd I ht λt xss B A=>⟨t,_,rfl,rfl,xss,B,A⟩));exact ⟨t,b,e,q⟩
theorem zic {p k:Nat} (hd:5<=d) (I:IsM R h L M) (G:a9 M p k): ∃t,∃b:Nat,aP (Cxd P0 d) (.top 125) [.ref L.m] (h++ [.list [.int M.start]])=some (.ref b,h++ [.list [.int M.start]]++t)/\∃t2,∃a:Nat,aP (Cxd P0 d) (.top 124) [.ref L.m,.ref h.length,.ref b] (h++ [.list [.int M.start]]++t)=some (.ref a,h++t2)/\∃mb,zdT h t2 M.arcs.length a [M.start] (onw M) mb:=by
 refine (zfr (d:=d) (h:=h++ [.list [.int M.start]]) (Qa (by decide) hd) I.app).elim λt zq20=>zq20.elim λb zq21=>?_;obtain ⟨t2,a,e2,mb,m⟩:=zaH (d:=d) (f:=h.length) (fs:=[M.start]) (Qa (by decide) hd) I.app.app (aB aX) zq21.2 (Qh ..) (λs hs=>by rw [Qw.mp hs];exact G.st) (by show 1<=10000;decide) λxs hx=>by
  obtain ⟨ys,hy,rfl⟩:=QI.mp hx;refine ⟨by rw [Qh];exact Qa (I.cr _ hy) I.cl,λo ho=>?_⟩;obtain ⟨a,ha,rfl⟩:=QI.mp ho;exact (G.arc ys hy a ha).1
 have hg:((h++ [MObj.list [.int M.start]])++t)++t2=h++([MObj.list [.int M.start]]++t++t2):=by rw [Qt,Qt,Qt]
 exact ⟨t,b,zq21.1,[MObj.list [.int M.start]]++t++t2,a,hg▸e2,mb,m.l,m.B,m.c,hg▸m.at'⟩
theorem zib {p k:Nat} (hd:5<=d) (I:IsM R h L M) (G:a9 M p k): ∃t,∃b:Nat,aP (Cxd P0 d) (.top 123) [.ref L.m] (h++ [.list (iVs (dA (iO M) M.arcs.length))])=some (.ref b,h++ [.list (iVs (dA (iO M) M.arcs.length))]++t)/\∃t2,∃a:Nat,aP (Cxd P0 d) (.top 124) [.ref L.m,.ref h.length,.ref b] (h++ [.list (iVs (dA (iO M) M.arcs.length))]++t)=some (.ref a,h++t2)/\∃mb xss,cL M M.arcs.length 0 xss/\zdT h t2 M.arcs.length a (dA (iO M) M.arcs.length) xss mb:=by
 refine (zdH (d:=d) (h:=h++ [.list (iVs (dA (iO M) M.arcs.length))]) (Qa (by decide) hd) I.app (λys hy a ha=>(G.arc ys hy a ha).1: ∀ys∈M.arcs,∀a∈ys,a.t<M.arcs.length)).elim λt zq15=>zq15.elim λb zq16=>zq16.2.elim λxss zq17=>?_;refine (zaH (d:=d) (f:=h.length) (fs:=dA (iO M) M.arcs.length) (Qa (by decide) hd) I.app.app (aB aX) zq17.2 zq17.1.len (λs hs=>(j4 hs).1) (Qa lB I.lim) (zf8 zq17.1 I (λys hy a ha=>(G.arc ys hy a ha).1: ∀ys∈M.arcs,∀a∈ys,a.t<M.arcs.length))).elim λt2 zq12=>zq12.elim λa zq13=>zq13.2.elim λmb zq14=>?_;have hg:((h++ [MObj.list (iVs (dA (iO M) M.arcs.length))])++t)++t2=h++([MObj.list (iVs (dA (iO M) M.arcs.length))]++t++t2):=by rw [Qt,Qt,Qt]
 exact ⟨t,b,zq16.1,_,a,hg▸zq13.1,mb,xss,zq17.1,zq14.l,zq14.B,zq14.c,hg▸zq14.at'⟩
abbrev trK (M:Mc R.α) (mb1 mb2:List Bool):List Nat:=dA (λk=>mb1[k]?.getD false && mb2[k]?.getD false) M.arcs.length
theorem zcs {p k:Nat} (hd:6<=d) (I:IsM R h L M) (G:a9 M p k) (q: ∀t L' T ks mb1 mb2 xss,IsM R (h++t) L' T->(∀a∈own L',h.length<=a) ->pN M ks mb1 mb2 xss->fF M ks T->Q (.ref L'.m) (h++t)):WF P0 d 133 [.ref L.m] h Q:=by
 refine bD (K:=5) hd (some (.ref L.m)::nn 14) bd_machine_trim (by kernel_rfl) λd' h'=>?_;have d1:1<=d':=Qa (by decide) h';refine (zic (d:=d') h' I G).elim λt1 zq7=>zq7.elim λb1 zq8=>zq8.2.elim λt2 zq9=>zq9.elim λa1 zq10=>zq10.2.elim λmb1 zq11=>?_;have m1:=zq11;have I2:IsM R (h++t2) L M:=I.app;refine (zib (d:=d') h' I2 G).elim λt3 zq1=>zq1.elim λb2 zq2=>zq2.2.elim λt4 zq3=>zq3.elim λa2 zq4=>zq4.2.elim λmb2 zq5=>zq5.elim λxss zq6=>?_;have B:=zq6.1;have m2:=zq6.2;refine eR (a:=bd_machine_trim.take 5) (b:=bd_machine_trim.drop 5) ?_;exact run (.p (cM d1 I)<| .k (eqi M.arcs.length 0)<| .f ((beq_false_of_ne λe=>absurd G.st (by rw [Ze.mp e];exact QZ _):((M.arcs.length:Int)==0)=false))<| .v (fW I)<| .p (zq8.1)<| .p (zq10.1)<| .p (zfX (o1:=some (.ref a1)) d1 I2)<| .p (zq2.1)<| .p (zq4.1)<| .p (zfR (o3:=some (.ref (h++t2).length)) d1 (I2.app:IsM R (h++t2++t4) L M) (aB m1.at') m2.at' m1.l m2.l)<| .z (d8 (zA (Q:=Q) (g:=h++t2++t4++ [.list (iVs (trK M mb1 mb2))]) (o1:=some (.ref a1)) (o2:=none) (o3:=some (.ref (h++t2).length)) (o4:=some (.ref a2)) h' I G (λx hx=>(j4 hx).1) u1 ⟨t2++(t4++ [.list (iVs (trK M mb1 mb2))]),by rw [Qt,Qt]⟩ aX λt' L' T J ho TR=>q t' L' T _ mb1 mb2 xss J ho ⟨m1.l,m1.B,m1.c,m2.l,m2.B,m2.c,B,rfl⟩ TR))) (by kernel_rfl)
end
end Tactic
namespace Tactic
open Internal
abbrev bP (i j:Nat):Val:= .tup [.int (i:Int),.int (j:Int)]
theorem rF {i j i' j':Nat}:kEq (bP i j) (bP i' j')=(i==i' && j==j'):=by
 show J8 (.tuple [.int i,.int j]) (.tuple [.int i',.int j'])=_;have e: ∀ {a b:Nat},((a:Int)==(b:Int))=(a==b):=λ{a b} =>by
  by_cases h:a=b
  ·subst h;simp
  ·rw [beq_false_of_ne h,beq_false_of_ne];exact λe=>h (Yj.inj e)
 show (((i:Int)==(i':Int)) && (((j:Int)==(j':Int)) && true))=_;rw [e,e,Ya]
def f7 (es:List (Val×Val)):Prop:= ∀p∈es,∃i j,p.1=bP i j
theorem nN {es:List (Val×Val)}{i j:Nat} (K:f7 es):aM es (bP i j)=true:=by
 cases es with
 |nil=>rfl
 |cons p r=>
  obtain ⟨a,b,e⟩:=K p (.head _);obtain ⟨x,y⟩:=p;cases e;rfl
theorem x6 {es:List (Val×Val)}{i j i' j':Nat}{v:Val} (K:f7 es):aZ (es.map λp=>bif kEq p.1 (bP i j) then (p.1,v) else p) (bP i' j')=if i=i'/\j=j' then (aZ es (bP i' j')).map λ_=>v else aZ es (bP i' j'):=by
 induction es with
 |nil=>by_cases h:i=i'/\j=j'<;>simp [h] <;>rfl
 |cons p r ih=>
  obtain ⟨a,b,e⟩:=K p (.head _);obtain ⟨x,y⟩:=p;cases e;rw [QC,rF];by_cases h1:a=i/\b=j
  ·obtain ⟨rfl,rfl⟩:=h1
   rw [beq_self_eq_true,beq_self_eq_true,Bool.and_self,cond_true,b0,b0,rF];by_cases h2:a=i'/\b=j'
   ·obtain ⟨rfl,rfl⟩:=h2
    simp
   ·have:(a==i' && b==j')=false:=by
     rw [JT];by_cases h3:a=i'
     ·exact .inr (beq_false_of_ne λe=>h2 ⟨h3,e⟩)
     ·exact .inl (beq_false_of_ne h3)
    rw [this,cond_false,cond_false,(ih λp hp=>K p (.tail _ hp))]
  ·have:(a==i && b==j)=false:=by
    rw [JT];by_cases h3:a=i
    ·exact .inr (beq_false_of_ne λe=>h1 ⟨h3,e⟩)
    ·exact .inl (beq_false_of_ne h3)
   rw [this,cond_false,b0,b0,rF,(ih λp hp=>K p (.tail _ hp))];by_cases h2:a=i'/\b=j'
   ·obtain ⟨rfl,rfl⟩:=h2
    have h4: ¬(i=a/\j=b):=λh=>h1 ⟨h.1.symm,h.2.symm⟩
    simp [h4]
   ·have:(a==i' && b==j')=false:=by
     rw [JT];by_cases h3:a=i'
     ·exact .inr (beq_false_of_ne λe=>h2 ⟨h3,e⟩)
     ·exact .inl (beq_false_of_ne h3)
    rw [this,cond_false,cond_false]
theorem x7 {es:List (Val×Val)}{k v k':Val}:aZ (es++ [(k,v)]) k'=(aZ es k').or (bif kEq k k' then some v else none):=by
 induction es with
 |nil=>rw [Zv,b0];rfl
 |cons p r ih=>
  obtain ⟨x,y⟩:=p;rw [ZD,b0,b0,ih];cases kEq x k'<;>rfl
theorem x5 {es:List (Val×Val)}{i j i' j':Nat}{v:Val} (K:f7 es):aZ (dS es (bP i j) v) (bP i' j')=if i=i'/\j=j' then some v else aZ es (bP i' j'):=by
 unfold dS;cases hg:aZ es (bP i j) with
 |some x=>
  rw [KZ,cond_true,x6 K];by_cases h:i=i'/\j=j'
  ·obtain ⟨rfl,rfl⟩:=h
   rw [if_pos ⟨rfl,rfl⟩,if_pos ⟨rfl,rfl⟩,hg];rfl
  ·rw [if_neg h,if_neg h]
 |none=>
  rw [K1,cond_false,x7,rF];by_cases h:i=i'/\j=j'
  ·obtain ⟨rfl,rfl⟩:=h
   rw [if_pos ⟨rfl,rfl⟩,hg];simp
  ·rw [if_neg h]
   have:(i==i' && j==j')=false:=by
    rw [JT];by_cases h3:i=i'
    ·exact .inr (beq_false_of_ne λe=>h ⟨h3,e⟩)
    ·exact .inl (beq_false_of_ne h3)
   rw [this,cond_false,Option.or_none]
theorem nH {es:List (Val×Val)}{i j:Nat}{v:Val} (K:f7 es):f7 (dS es (bP i j) v)/\(dS es (bP i j) v).length<=es.length+1:=by
 unfold dS;cases hg:aZ es (bP i j) with
 |some x=>
  rw [KZ,cond_true];refine ⟨λp hp=>?_,by rw [Qh];exact Qd _ _⟩;obtain ⟨q,hq,rfl⟩:=QI.mp hp;cases kEq q.1 (bP i j)
  ·exact K q hq
  ·exact K q hq
 |none=>
  rw [K1,cond_false];refine ⟨λp hp=>?_,by rw [Qv];exact Qi _⟩;rcases QX.mp hp with hp|hp
  ·exact K p hp
  ·rw [Qw.mp hp];exact ⟨i,j,rfl⟩
section
variable {R:Rg}{d:Nat}{h h0:MH}{Q:Val->MH->Prop}{L:Ly}{M:Mc R.α}
def b7 (R:Rg) (n:Nat):List R.α:=Qz n R.zero
structure RW (R:Rg) (h g:MH) (D N c:Nat) (Ad:Nat->Nat->Option Nat) (V:Nat->Nat->List R.α):Prop where
 pre: ∃t,g=h++t
 lowD:h.length<=D
 dd: ∃ep es,g[D]?=some (.dict ep es)/\f7 es/\es.length<=c/\∀i j,aZ es (bP i j)=(Ad i j).map Val.ref
 inj: ∀i j i' j' a,Ad i j=some a->Ad i' j'=some a->i=i'/\j=j'
 low: ∀i j a,Ad i j=some a->h.length<=a
 row: ∀ (i j a:Nat),Ad i j=some a->g[a]?=some (.list ((V i j).map R.e))
 non: ∀i j,Ad i j=none->V i j=b7 R N
 len: ∀i j,(V i j).length=N
def upd {β:Type} (f:Nat->Nat->β) (i j:Nat) (x:β):Nat->Nat->β:=λa b=>if a=i/\b=j then x else f a b
theorem aY {β:Type}{f:Nat->Nat->β}{i j:Nat}{x:β}:upd f i j x i j=x:=if_pos ⟨rfl,rfl⟩
theorem bA {β:Type}{f:Nat->Nat->β}{i j a b:Nat}{x:β} (h: ¬(a=i/\b=j)):upd f i j x a b=f a b:=if_neg h
theorem RW.app {g t:MH}{D N c:Nat}{Ad:Nat->Nat->Option Nat}{V:Nat->Nat->List R.α} (S:RW R h g D N c Ad V):RW R h (g++t) D N c Ad V:=by
 refine S.pre.elim λt0 zq9=>?_;obtain rfl:=zq9;refine S.dd.elim λep zq7=>zq7.elim λes zq8=>?_;exact ⟨⟨_,Qt ..⟩,S.lowD,⟨ep,es,aB zq8.1,zq8.2⟩,S.inj,S.low,λi j a ha=>aB (S.row i j a ha),S.non,S.len⟩
theorem RW.setRow {g:MH}{D N c i j a:Nat}{Ad:Nat->Nat->Option Nat}{V:Nat->Nat->List R.α}{x:List R.α} (S:RW R h g D N c Ad V) (ha:Ad i j=some a) (hx:x.length=N):RW R h (g.set a (.list (x.map R.e))) D N c Ad (upd V i j x):=by
 refine S.pre.elim λt0 zq6=>?_;obtain rfl:=zq6;refine S.dd.elim λep zq4=>zq4.elim λes zq5=>?_;have hr:=S.row i j a ha;refine ⟨⟨_,g6 (S.low i j a ha)⟩,S.lowD,⟨ep,es,a7 (ne_of hr zq5.1 nofun) zq5.1,zq5.2⟩,S.inj,S.low,λi' j' a' ha'=>?_,λi' j' hn=>?_,λi' j'=>?_⟩
 ·by_cases e:i'=i/\j'=j
  ·obtain rfl:=e.1
   obtain rfl:=e.2;rw [ha] at ha';cases ha';rw [aY];exact bH hr
  ·rw [bA e]
   exact a7 (λq=>by subst q;exact e (S.inj _ _ _ _ _ ha' ha)) (S.row i' j' a' ha')
 ·rw [bA λe=>by obtain ⟨rfl,rfl⟩:=e;rw [ha] at hn;exact nomatch hn]
  exact S.non i' j' hn
 ·by_cases e:i'=i/\j'=j
  ·obtain ⟨rfl,rfl⟩:=e;rw [aY];exact hx
  ·rw [bA e];exact S.len i' j'
theorem RW.put {g:MH}{D N c i j a:Nat}{ep:Option Nat}{es:List (Val×Val)}{Ad:Nat->Nat->Option Nat}{V:Nat->Nat->List R.α}{x:List R.α} (S:RW R h g D N c Ad V) (hD:g[D]?=some (.dict ep es)) (ha:g[a]?=some (.list (x.map R.e))) (hl:h.length<=a) (hn: ∀i j,Ad i j≠some a) (hx:x.length=N) (ep':Option Nat):RW R h (g.set D (.dict ep' (dS es (bP i j) (.ref a)))) D N (c+1) (upd Ad i j (some a)) (upd V i j x):=by
 refine S.pre.elim λt0 zq3=>?_;obtain rfl:=zq3;obtain ⟨ep0,es0,h1,K,hc,h2⟩:=S.dd;rw [hD] at h1;cases h1;refine ⟨⟨_,g6 S.lowD⟩,S.lowD,⟨ep',_,bH hD,(nH (i:=i) (j:=j) (v:=.ref a) K).1,by have:=(nH (i:=i) (j:=j) (v:=.ref a) K).2;exact Qa this (Q8 hc),λi' j'=>?_⟩,λi1 j1 i2 j2 a' e1 e2=>?_,λi' j' a' e=>?_,λi' j' a' e=>?_,λi' j' e=>?_,λi' j'=>?_⟩
 ·rw [x5 K]
  by_cases e:i=i'/\j=j'
  ·obtain ⟨rfl,rfl⟩:=e;rw [if_pos ⟨rfl,rfl⟩,aY];rfl
  ·rw [if_neg e,bA λq=>e ⟨q.1.symm,q.2.symm⟩,h2]
 ·by_cases q1:i1=i/\j1=j<;>by_cases q2:i2=i/\j2=j
  ·exact ⟨q1.1.trans q2.1.symm,q1.2.trans q2.2.symm⟩
  ·obtain ⟨rfl,rfl⟩:=q1
   rw [aY] at e1;rw [bA q2] at e2;cases e1;exact absurd e2 (hn _ _)
  ·obtain ⟨rfl,rfl⟩:=q2
   rw [aY] at e2;rw [bA q1] at e1;cases e2;exact absurd e1 (hn _ _)
  ·rw [bA q1] at e1;rw [bA q2] at e2
   exact S.inj _ _ _ _ _ e1 e2
 ·by_cases q1:i'=i/\j'=j
  ·obtain ⟨rfl,rfl⟩:=q1;rw [aY] at e;cases e;exact hl
  ·rw [bA q1] at e;exact S.low _ _ _ e
 ·by_cases q1:i'=i/\j'=j
  ·obtain ⟨rfl,rfl⟩:=q1;rw [aY] at e ⊢;cases e;exact a7 (ne_of hD ha nofun) ha
  ·rw [bA q1] at e ⊢
   have:=S.row _ _ _ e
   exact a7 (ne_of hD this nofun) this
 ·by_cases q1:i'=i/\j'=j
  ·obtain ⟨rfl,rfl⟩:=q1;rw [aY] at e;exact nomatch e
  ·rw [bA q1] at e ⊢;exact S.non _ _ e
 ·by_cases q1:i'=i/\j'=j
  ·obtain ⟨rfl,rfl⟩:=q1;rw [aY];exact hx
  ·rw [bA q1];exact S.len i' j'
end
end Tactic
namespace Tactic
open Internal
section
variable {R:Rg}{d:Nat}{h g:MH}{Q:Val->MH->Prop}{L:Ly}{M:Mc R.α}
theorem slc (s:List Nat) (a b:Nat) (h:MH):slice h (.str s) 3 [.int a,.int b]=some (.str (cut s (min a s.length) (min b s.length)),h):=by
 have e: ∀n:Nat,dE s.length (.int n)=some (min n s.length):=λn=>by
  unfold dE;simp only [Val.int?,Yi];rw [za0 (decide_eq_true (by omega)),ZU]
 exact zfe (s:=s) (n:=3) (bs:=[.int a,.int b]) (p:=(min a s.length,min b s.length)) (by show ((dE s.length (.int a)).bind λx=>(dE s.length (.int b)).map λy=>(x,y))=_;rw [e,e];rfl)
def fit (u:List Nat) (i:Nat) (s:List Nat):Bool:=s== [] ||cut u (min i u.length) (min (i+1) u.length)==s
theorem zdr {u s:List Nat}{i:Nat} (hd:1<=d) (q:Q (.bool (fit u i s)) h):WF P0 d 129 [.str u,.int i,.str s] h Q:=by
 refine bD (K:=0) hd (some (.str u)::some (.int i)::some (.str s)::nn 6) bd_run__fits (by kernel_rfl) λd' h'=>?_;unfold fit at q;exact run (.k (eqs s [])<| .br (s== []) (λhb=> .z ((show Q (.bool (s== [])) h by rw [hb] at q ⊢;exact q))) (λhb=> .c<| .q (slc u i (i+1))<| .k (eqs (cut u (min i u.length) (min (i+1) u.length)) s)<| .z ((show Q (.bool (cut u (min i u.length) (min (i+1) u.length)==s)) h by rw [hb] at q;exact q)))) (by kernel_rfl)
theorem RW.ism {g:MH}{D N c:Nat}{Ad:Nat->Nat->Option Nat}{V:Nat->Nat->List R.α} (S:RW R h g D N c Ad V) (I:IsM R h L M):IsM R g L M:=by obtain ⟨t,rfl⟩:=S.pre;exact I.app
theorem zhi {n a:Nat} (ha:h[a]?=some (.list [R.e R.zero])) (hn:n<=10000):d4 .mul (.ref a) (.int n) h=some (.ref h.length,h++ [.list ((b7 R n).map R.e)]):=by
 refine W.eq (uG (n:=n) ha (dG (by omega)) (by show 1*_<=_;rw [JI];exact dG (by omega)) ⟨rfl,?_⟩);rw [uX,show Qz n (R.e R.zero)=(b7 R n).map R.e from (KR ..).symm]
theorem Rg.mulN (R:Rg) (g:MH) {n:Nat} (hn:n<=10000):d4 .mul (.ref g.length) (.int n) (g++ [.list [R.e R.zero]])=some (.ref (g++ [MObj.list [R.e R.zero]]).length,g++ [.list [R.e R.zero]]++ [.list ((b7 R n).map R.e)]):=zhi aX hn
theorem zfa {l:List R.α}{a s:Nat} (x:R.α) (hr:h[a]?=some (.list (l.map R.e))) (hs:s<l.length):cS h (.ref a) (.int s) (R.e x)=some (h.set a (.list ((l.set s x).map R.e))):=by rw [zfb hr (by rw [Qh];exact hs),map_set']
theorem zb0 {n:Nat}:(b7 R n).length=n:=by unfold b7;rw [Q5]
theorem za8 (hd:2<=d) (I:IsM R h L M) (hs:M.start<M.arcs.length) (q:Q (.ref (h.length+1)) (h++ [.list [R.e R.zero],.list (((b7 R M.arcs.length).set M.start M.first).map R.e)])):WF P0 d 128 [.ref L.m] h Q:=by
 refine bD (K:=1) hd (some (.ref L.m)::nn 7) bd_run__first (by kernel_rfl) λd' h'=>?_;have e2:=zhi (h:=h++ [MObj.list [R.e R.zero]]) (R:=R) (n:=M.arcs.length) aX I.lim;rw [(by rw [Qv];rfl:(h++ [MObj.list [R.e R.zero]]).length=h.length+1),Qt] at e2;have e3:=zfa (s:=M.start) M.first (fJ (h:=h) (j:=1) (t:=[.list [R.e R.zero],.list ((b7 R M.arcs.length).map R.e)])) (by rw [zb0];exact hs);rw [z0] at e3;exact run (.v (cA I)<| .w (R.no)<| .p (cM (h:=h++ [.list [R.e R.zero]]) h' I.app)<| .p (e2)<| .v (i8 (I.app:IsM R (h++([MObj.list [R.e R.zero]]++ [MObj.list ((b7 R M.arcs.length).map R.e)])) L M))<| .v (fW (I.app:IsM R (h++([MObj.list [R.e R.zero]]++ [MObj.list ((b7 R M.arcs.length).map R.e)])) L M))<| .h (e3)<| .z ((show Internal.Fin Q (.rt (.ref (h.length+1))) [] _ from q))) (by kernel_rfl)
theorem zal (i j:Nat) {D:Nat}{ep:Option Nat}{es:List (Val×Val)} (hD:h[D]?=some (.dict ep es)) (K:f7 es):c7 .notin (bP i j) (.ref D) h=some (!(aZ es (bP i j)).isSome):=by
 refine zhy ?_;show alt ((bG h (.ref D)).bind _) ((dictAt h (.ref D)).bind λd=>grd (aM d.2 (bP i j)) (some (aZ d.2 (bP i j)).isSome))=_;rw [fS hD,dU hD];show grd (aM es (bP i j)) (some (aZ es (bP i j)).isSome)=_;rw [nN K];rfl
def dX (r:List R.α) (s:Nat) (x:R.α):List R.α:=r.set s (R.add (r[s]?.getD R.zero) x)
abbrev zbO (L:Ly) (D i j s:Nat) (x:R.α):Internal.Frame:=some (.ref L.m)::some (.ref D)::some (bP i j)::some (.int s)::some (R.e x)::nn 6
theorem zbL {D i j s p k a:Nat}{x:R.α}{ep:Option Nat}{es:List (Val×Val)}{l:List R.α}{F:Fl->Internal.Frame->MH->Prop} (hd:3<=d) (I:IsM R g L M) (hD:g[D]?=some (.dict ep es)) (K:f7 es) (hk:aZ es (bP i j)=some (.ref a)) (hr:g[a]?=some (.list (l.map R.e))) (hs:s<l.length) (hV: ∀y∈l,R.D p k y) (hx:R.D p k x) (hl:4*p+k<=3800)
  (q:F .nx (zbO L D i j s x) (g.set a (.list ((dX l s x).map R.e)))):WSs (Cxd P0 d) (bd_run__add.drop 1) (zbO L D i j s x) g F:=by
 exact run (.v (cA I)<| .v (sd hD (nN K) hk)<| .v (sl hr (mT (pL hs)))<| .q (R.pl hd (hV _ (zbx hs)) hx hl)<| .v (sd hD (nN K) hk)<| .h (zfa (R.add (at' l s) x) hr hs)<| .z ((show F .nx (zbO L D i j s x) (g.set a (.list ((dX l s x).map R.e))) from q))) (by kernel_rfl)
section
variable {D c i j s p k:Nat}{Ad:Nat->Nat->Option Nat}{V:Nat->Nat->List R.α}{x:R.α}{ep:Option Nat}{es:List (Val×Val)}
theorem zdO {a:Nat}{l:List R.α} (hd:4<=d) (I:IsM R g L M) (hD:g[D]?=some (.dict ep es)) (K:f7 es) (hk:aZ es (bP i j)=some (.ref a)) (hr:g[a]?=some (.list (l.map R.e))) (hs:s<l.length) (hV: ∀y∈l,R.D p k y) (hx:R.D p k x) (hl:4*p+k<=3800)
  (q:Q .none (g.set a (.list ((dX l s x).map R.e)))):WF P0 d 126 [.ref L.m,.ref D,bP i j,.int s,R.e x] g Q:=by
 refine bD (K:=3) hd (zbO L D i j s x) bd_run__add (by kernel_rfl) λd' h'=>zd2 ?_;exact run (.b (zal i j hD K)<| .f ((show (!(aZ es (bP i j)).isSome)=false by rw [hk];rfl))<| .z (d8 (zbL h' I hD K hk hr hs hV hx hl (F:=Internal.Fin Q) q))) (by kernel_rfl)
abbrev lL (R:Rg) (g:MH) (n D:Nat) (ep:Option Nat) (es:List (Val×Val)) (i j:Nat):MH:=XX (g++ [MObj.list [R.e R.zero]]++ [MObj.list ((b7 R n).map R.e)]) D (MObj.dict (bif (aZ es (bP i j)).isSome then ep else ep.map (· +1)) (dS es (bP i j) (.ref (g++ [MObj.list [R.e R.zero]]).length)))
theorem zbK {es':List (Val×Val)}{ep':Option Nat} (hd:4<=d) (I:IsM R g L M) (hD:g[D]?=some (.dict ep es)) (K:f7 es) (hl':es.length<lim) (hk:aZ es (bP i j)=none) (I3:IsM R (lL R g M.arcs.length D ep es i j) L M) (hD':(lL R g M.arcs.length D ep es i j)[D]?=some (.dict ep' es')) (K':f7 es') (hk':aZ es' (bP i j)=some (.ref (g++ [MObj.list [R.e R.zero]]).length))
  (hr:(lL R g M.arcs.length D ep es i j)[(g++ [MObj.list [R.e R.zero]]).length]?=some (.list ((b7 R M.arcs.length).map R.e))) (hs:s<M.arcs.length) (hx:R.D p k x) (hl:4*p+k<=3800)
  (q:Q .none ((lL R g M.arcs.length D ep es i j).set (g++ [MObj.list [R.e R.zero]]).length (.list ((dX (b7 R M.arcs.length) s x).map R.e)))):WF P0 d 126 [.ref L.m,.ref D,bP i j,.int s,R.e x] g Q:=by
 have hV: ∀y∈b7 R M.arcs.length,R.D p k y:=λy hy=>by rw [Jj hy];exact R.D_mono (Qs _) (Qs _) R.D_zero
 refine bD (K:=3) hd (zbO L D i j s x) bd_run__add (by kernel_rfl) λd' h'=>zd2 ?_;exact run (.b (zal i j hD K)<| .t ((show (!(aZ es (bP i j)).isSome)=true by rw [hk];rfl))<| .v (cA I)<| .w (R.no)<| .p (cM (Qa (by decide) h') (I.app:IsM R (g++ [MObj.list [R.e R.zero]]) L M))<| .p (R.mulN g I.lim)<| .h (zcB (v:=.ref (g++ [MObj.list [R.e R.zero]]).length) (aB (t:=[MObj.list ((b7 R M.arcs.length).map R.e)]) (aB (t:=[MObj.list [R.e R.zero]]) hD)) (nN (i:=i) (j:=j) K) hl')<| .z (d8 (zbL h' I3 hD' K' hk' hr (by rw [zb0];exact hs) hV hx hl (F:=Internal.Fin Q) q))) (by kernel_rfl)
theorem zbs {l:List R.α}:(dX l s x).length=l.length:=QS
theorem RW.fresh (S:RW R h g D M.arcs.length c Ad V) (hA:Ad i j=none) (hD:g[D]?=some (.dict ep es)):RW R h (lL R g M.arcs.length D ep es i j) D M.arcs.length (c+1) (upd Ad i j (some (g++ [MObj.list [R.e R.zero]]).length)) V:=by
 have lg:h.length<=(g++ [MObj.list [R.e R.zero]]).length:=by obtain ⟨t0,rfl⟩:=S.pre;rw [Qv,Qv];exact Qa (Qd _ _) (Qd _ _)
 have S3:=(S.app.app:RW R h (g++ [MObj.list [R.e R.zero]]++ [MObj.list ((b7 R M.arcs.length).map R.e)]) D M.arcs.length c Ad V).put (i:=i) (j:=j) (x:=b7 R M.arcs.length) (aB (aB hD)) aX lg (λi' j' e=>absurd (bE (S.row i' j' _ e)) (by rw [Qv];exact ZV.mpr (Qd _ _))) zb0 (bif (aZ es (bP i j)).isSome then ep else ep.map (· +1));have eV:upd V i j (b7 R M.arcs.length)=V:=by
  funext a b
  by_cases e:a=i/\b=j
  ·obtain ⟨rfl,rfl⟩:=e;rw [aY];exact (S.non _ _ hA).symm
  ·exact bA e
 rw [eV] at S3;exact S3
theorem RW.more (S:RW R h g D M.arcs.length c Ad V):RW R h g D M.arcs.length (c+1) Ad V:=by
 refine S.dd.elim λep zq8=>zq8.elim λes zq9=>?_;exact ⟨S.pre,S.lowD,⟨ep,es,zq9.1,zq9.2.1,Jf zq9.2.2.1,zq9.2.2.2⟩,S.inj,S.low,S.row,S.non,S.len⟩
end
theorem zgq {g:MH}{D N c i j s p k:Nat}{Ad:Nat->Nat->Option Nat}{V:Nat->Nat->List R.α}{x:R.α} (hd:4<=d) (I:IsM R h L M) (S:RW R h g D N c Ad V) (hN:N=M.arcs.length) (hc:c<100000) (hs:s<N) (hV: ∀y∈V i j,R.D p k y) (hx:R.D p k x) (hl:4*p+k<=3800)
  (q: ∀g' Ad',RW R h g' D N (c+1) Ad' (upd V i j (dX (V i j) s x)) ->(∀i' j' a',Ad i' j'=some a'->Ad' i' j'=some a') ->Q .none g'):WF P0 d 126 [.ref L.m,.ref D,bP i j,.int s,R.e x] g Q:=by
 subst hN;have hb:(dX (V i j) s x).length=M.arcs.length:=zbs.trans (S.len i j);cases hA:Ad i j with
 |some a=>
  refine S.dd.elim λep zq6=>zq6.elim λes zq7=>?_;exact zdO hd (S.ism I) zq7.1 zq7.2.1 (by rw [zq7.2.2.2,hA];rfl) (S.row i j a hA) (by rw [S.len];exact hs) hV hx hl (q _ Ad (S.more.setRow hA hb) λ_ _ _ e=>e)
 |none=>
  refine S.dd.elim λep zq4=>zq4.elim λes zq5=>?_;have S3:=S.fresh hA zq5.1;refine S3.dd.elim λep' zq2=>zq2.elim λes' zq3=>?_;have hr:=S3.row i j _ aY;have e:=S.non i j hA;have S4:=S3.setRow (i:=i) (j:=j) (x:=dX (V i j) s x) aY hb;rw [e] at hr S4 q;exact zbK hd (S.ism I) zq5.1 zq5.2.1 (Qk zq5.2.2.1 (Q9 hc (by decide))) (by rw [zq5.2.2.2,hA];rfl) (S3.ism I) zq3.1 zq3.2.1 (by rw [zq3.2.2.2,aY];rfl) hr hs hx hl (q _ _ S4 λi' j' a' e=>by rw [bA λq=>by rw [q.1,q.2,hA] at e;exact nomatch e];exact e)
def mU (r e:List R.α):R.α:=(r.zip e).foldl (λo p=>R.add o (R.mul p.1 p.2)) R.zero
theorem zdt {d:Nat} (hd:4<=d) (I:IsM R h L M) (q:Q (R.e R.zero) h):WF P0 d 127 [.ref L.m,.none] h Q:=by
 refine bD (K:=3) hd (some (.ref L.m)::some .none::nn 9) bd_run__ended (by kernel_rfl) λd' h'=>?_;exact run (.v (cA I)<| .w (R.no)<| .c2<| .q (R.nd h' R.D_zero (by decide))<| .z (q)) (by kernel_rfl)
abbrev zfZ (R:Rg) (L:Ly) (a:Nat) (o:R.α) (z:Option Val):Internal.Frame:=some (.ref L.m)::some (.ref a)::some (.top (112+R.i))::some (R.e o)::z::nn 6
abbrev endB:List Sm:= [.asg (.nm 3) (.meth (.var 2) nPlus [.var 3,.meth (.var 2) nTimes [.sub (.var 1) (.var 4),.sub (.attr (.var 0) k_ends) (.var 4)]])]
theorem x4 {r e:List R.α}{i:Nat} (h1:i<r.length) (h2:i<e.length):mU (r.take (i+1)) (e.take (i+1))=R.add (mU (r.take i) (e.take i)) (R.mul (at' r i) (at' e i)):=by
 unfold mU;rw [JJ,JJ,pL h1,pL h2];show ((r.take i++ [_]).zip (e.take i++ [_])).foldl _ _=_;rw [List.zip_append (by rw [JD,JD];omega),Kg];rfl
theorem zbb {a p k p' k':Nat}{r:List R.α} (hd:3<=d) (I:IsM R h L M) (ha:h[a]?=some (.list (r.map R.e))) (hr:r.length=M.arcs.length) (h1: ∀x∈r,R.D p k x) (h2: ∀x∈M.ends,R.D p' k' x) (hl:4*(p+p')+(k+k'+M.arcs.length)<=3800): ∃z,exec (Cxd P0 d) (.fo [4] false (.call (.lit (.ty nRange)) [.meth (.var 0) k_size []]) endB) (zfZ R L a R.zero none) h=some ((.nx,zfZ R L a (mU r M.ends) z),h)/\R.D (p+p') (k+k'+M.arcs.length) (mU r M.ends):=by
 have hN:=I.lim;obtain ⟨⟨o,z⟩,P,e⟩:=foR (c:=Cxd P0 d) (x:=4) (n:=M.arcs.length) (e:=.call (.lit (.ty nRange)) [.meth (.var 0) k_size []]) (b:=endB) (σ:=R.α×Option Val) (λs=>zfZ R L a s.1 s.2) (λ_=>h) (λi s=>s.1=mU (r.take i) (M.ends.take i)/\R.D (p+p') (k+k'+i) s.1) (R.zero,none) (by omega) rfl
  (by exact bK (.p (cM (Qa (by decide) hd) I)<| .c<| .z (two (.rng M.arcs.length) h)) (by kernel_rfl)) ⟨rfl,R.D_mono (Qs _) (Qs _) R.D_zero⟩ λi s X _ hi P T=>by
   have hi1:i<r.length:=by omega
   have hi2:i<M.ends.length:=by rw [I.lenE];exact hi
   have dm:=R.D_mono (Qi _) (Qd (k+k') i) (R.D_mul (h1 _ (zbx hi1)) (h2 _ (zbx hi2)));exact run (.v (sl ha (mT (pL hi1)))<| .v (jQ I)<| .v (sl I.ends (mT (pL hi2)))<| .q (R.ti hd (h1 _ (zbx hi1)) (h2 _ (zbx hi2)) (by omega))<| .q (R.pl hd P.2 dm (by omega))<| .z (T.nx (R.add s.1 (R.mul (at' r i) (at' M.ends i)),some (.int i)) ⟨by rw [x4 hi1 hi2,P.1],R.D_add P.2 dm⟩)) (by kernel_rfl)
 obtain ⟨q,D⟩:o=mU (r.take M.arcs.length) (M.ends.take M.arcs.length)/\R.D (p+p') (k+k'+M.arcs.length) o:=P;subst q;rw [show r.take M.arcs.length=r by rw [<-hr,Q2],show M.ends.take M.arcs.length=M.ends by rw [<-I.lenE,Q2]] at D e;exact ⟨z,e,D⟩
theorem tL {d a p k p' k':Nat}{r:List R.α} (hd:4<=d) (I:IsM R h L M) (ha:h[a]?=some (.list (r.map R.e))) (hr:r.length=M.arcs.length) (h1: ∀x∈r,R.D p k x) (h2: ∀x∈M.ends,R.D p' k' x) (hl:4*(p+p')+(k+k'+M.arcs.length)<=3800) (q:Q (R.e (mU r M.ends)) h):WF P0 d 127 [.ref L.m,.ref a] h Q:=by
 refine bD (K:=3) hd (some (.ref L.m)::some (.ref a)::nn 9) bd_run__ended (by kernel_rfl) λd' h'=>?_;refine (zbb h' I ha hr h1 h2 hl).elim λz zq1=>?_;exact run (.v (cA I)<| .w (R.no)<| .c2<| .s (zq1.1)<| .q (R.nd h' zq1.2 hl)<| .z (q)) (by kernel_rfl)
end
end Tactic
namespace Tactic
open Internal
section
variable {R:Rg}
theorem Rg.add_zero (a:R.α):R.add a R.zero=a:=by rw [R.add_comm];exact R.zero_add a
theorem Rg.mul_zero (a:R.α):R.mul a R.zero=R.zero:=by rw [R.mul_comm];exact R.zero_mul a
theorem Rg.add_mul (a b c:R.α):R.mul (R.add a b) c=R.add (R.mul a c) (R.mul b c):=by rw [R.mul_comm,R.mul_add,R.mul_comm c a,R.mul_comm c b]
theorem Rg.swap (a b c:R.α):R.add a (R.add b c)=R.add b (R.add a c):=by rw [<-R.add_assoc,R.add_comm a b,R.add_assoc]
def cD (l:List R.α):R.α:=l.foldr R.add R.zero
theorem aG {a:R.α}{l:List R.α}:cD (a::l)=R.add a (cD l):=rfl
theorem b8 {β:Type}{F G:β->R.α}{l:List β} (h: ∀x∈l,F x=G x):cD (l.map F)=cD (l.map G):=congrArg cD (Jq h)
theorem uO {β:Type}{F G:β->R.α}{y:R.α}{c:β}: ∀ {l:List β},l.Nodup->c∈l->(∀x∈l,x≠c->F x=G x) ->F c=R.add y (G c) ->cD (l.map F)=R.add y (cD (l.map G)):=by
 intro l
 induction l with
 |nil=>exact λ_ h=>absurd h Qr
 |cons x l ih=>
  intro nd hc he hy;have nd:=Qx.mp nd;rw [QC,QC,aG,aG];rcases QH.mp hc with rfl|hc
  ·rw [hy,b8 λz hz=>he z (.tail _ hz) λe=>nd.1 (e▸hz),R.add_assoc]
  ·rw [ih nd.2 hc (λz hz=>he z (.tail _ hz)) hy,he x (.head _) λe=>nd.1 (e▸hc),R.swap]
def dotF:List R.α->(Nat->R.α) ->Nat->R.α
 | [],_,_=>R.zero
 |x::r,b,o=>R.add (R.mul x (b o)) (dotF r b (o+1))
theorem eH {n:Nat}{b:Nat->R.α}: ∀ {o:Nat},dotF (b7 R n) b o=R.zero:=by
 unfold b7
 induction n with
 |zero=>intro o;rfl
 |succ n ih=>
  intro o;show R.add (R.mul R.zero (b o)) (dotF (Qz n R.zero) b (o+1))=_;rw [ih,R.zero_mul,R.zero_add]
theorem nO {b:Nat->R.α}{x:R.α}: ∀ {r:List R.α}{s o:Nat},s<r.length->dotF (dX r s x) b o=R.add (R.mul x (b (o+s))) (dotF r b o):=by
 intro r
 induction r with
 |nil=>exact λh=>absurd h (QZ _)
 |cons y r ih=>
  intro s o hs;cases s with
  |zero=>
   show R.add (R.mul (R.add y x) (b o)) (dotF r b (o+1))=R.add (R.mul x (b o)) (R.add (R.mul y (b o)) (dotF r b (o+1)));rw [R.add_mul,R.add_assoc,R.swap]
  |succ s=>
   have:=ih (s:=s) (o:=o+1) (J6 hs)
   show R.add (R.mul y (b o)) (dotF (dX r s x) b (o+1))=R.add (R.mul x (b (o+(s+1)))) (R.add (R.mul y (b o)) (dotF r b (o+1)));rw [this,R.swap,show o+1+s=o+(s+1) by lia]
theorem jA {r:List R.α}{b:Nat->R.α}{s:Nat} (hs:s<r.length):dotF (r.drop s) b s=R.add (R.mul r[s] (b s)) (dotF (r.drop (s+1)) b (s+1)):=by
 rw [Zs hs];rfl
theorem xQ {l:List (R.α×R.α)}{a b:R.α}:l.foldl (λo p=>R.add o (R.mul p.1 p.2)) (R.add a b)=R.add a (l.foldl (λo p=>R.add o (R.mul p.1 p.2)) b):=by
 induction l generalizing b with
 |nil=>rfl
 |cons p l ih=>rw [ZL,ZL,R.add_assoc,ih]
theorem zdx {r e:List R.α}{o:Nat}{b:Nat->R.α} (hl:r.length=e.length) (hb: ∀ (s:Nat) x,e[s]?=some x->b (o+s)=x):mU r e=dotF r b o:=by
 unfold mU
 induction r generalizing e o with
 |nil=>rfl
 |cons x r ih=>
  cases e with
  |nil=>exact nomatch hl
  |cons y e=>
   rw [ZI,ZL];show (r.zip e).foldl _ (R.add R.zero (R.mul x y))=R.add (R.mul x (b o)) (dotF r b (o+1));rw [R.add_comm R.zero,xQ,ih (o:=o+1) (JY.inj hl) λs z hz=>by rw [K9];exact hb (s+1) z hz,show b o=y from hb 0 y rfl]
def cells (n m:Nat):List (Nat×Nat):=(Q3 (n+1)).flatMap λi=>(Q3 (m+1)).map λj=>(i,j)
theorem gJ {n m i j:Nat}:(i,j)∈cells n m ↔ i<=n/\j<=m:=by
 unfold cells;simp only [List.mem_flatMap,Zm,QI,Wh.injEq]
 constructor
 ·rintro ⟨a,ha,b,hb,rfl,rfl⟩;exact ⟨QM ha,QM hb⟩
 ·rintro ⟨h1,h2⟩;exact ⟨i,QB h1,j,QB h2,rfl,rfl⟩
theorem qT {n m:Nat}:(cells n m).Nodup:=by
 unfold cells;refine List.pairwise_flatMap.mpr ⟨λi _=>?_,List.Pairwise.imp ?_ (Yk (n:=n+1))⟩
 ·refine List.pairwise_map.mpr (List.Pairwise.imp ?_ (Yk (n:=m+1)))
  exact λhab e=>hab (Wh.inj e).2
 ·intro a b hab x hx y hy e
  obtain ⟨j,_,rfl⟩:=QI.mp hx;obtain ⟨j',_,rfl⟩:=QI.mp hy;exact hab (Wh.inj e).1
def done (i j:Nat) (c:Nat×Nat):Prop:=c.1<i\/(c.1=i/\c.2<j)
def pot (n m:Nat) (B:Nat->Nat->Nat->R.α) (i j:Nat) (V:Nat->Nat->List R.α):R.α:=cD ((cells n m).map λc=> @ite _ (done i j c) (Classical.propDecidable _) R.zero (dotF (V c.1 c.2) (B c.1 c.2) 0))
variable {n m:Nat}{B:Nat->Nat->Nat->R.α}{V:Nat->Nat->List R.α}
theorem z9 {i j:Nat} (hi:i<=n) (hj:j<=m):pot n m B i j V=R.add (dotF (V i j) (B i j) 0) (pot n m B i (j+1) V):=by
 refine uO (c:=(i,j)) qT (gJ.mpr ⟨hi,hj⟩) (λc _ hc=>?_) ?_
 ·have:done i j c ↔ done i (j+1) c:=by
   unfold done
   constructor
   ·rintro (h|h)
    ·exact .inl h
    ·exact .inr ⟨h.1,Q7 h.2⟩
   ·rintro (h|h)
    ·exact .inl h
    ·refine .inr ⟨h.1,Jn (QM h.2) λe=>hc (Xs h.1 e)⟩
  by_cases h:done i j c
  ·rw [if_pos h,if_pos (this.mp h)]
  ·rw [if_neg h,if_neg λq=>h (this.mpr q)]
 ·rw [if_neg (by unfold done;simp),if_pos (by unfold done;simp),R.add_zero]
theorem oR {i:Nat}:pot n m B i (m+1) V=pot n m B (i+1) 0 V:=by
 refine b8 λc hc=>?_;obtain ⟨a,b⟩:=c
 have:=gJ.mp hc
 have e:done i (m+1) (a,b) ↔ done (i+1) 0 (a,b):=⟨λq=> .inl (q.elim Q7 λq=>QB (QA q.1)),λq=>q.elim (λq=>(K2 (QM q)).imp id λe=>⟨e,QB this.2⟩) λq=>absurd q.2 (QZ _)⟩;by_cases h:done i (m+1) (a,b)
 ·rw [if_pos h,if_pos (e.mp h)]
 ·rw [if_neg h,if_neg λq=>h (e.mpr q)]
theorem qS {i j a b s:Nat}{x:R.α} (ha:a<=n) (hb:b<=m) (hn: ¬done i j (a,b)) (hs:s<(V a b).length):pot n m B i j (upd V a b (dX (V a b) s x))=R.add (R.mul x (B a b s)) (pot n m B i j V):=by
 refine uO (c:=(a,b)) qT (gJ.mpr ⟨ha,hb⟩) (λc _ hc=>?_) ?_
 ·by_cases h:done i j c
  ·rw [if_pos h,if_pos h]
  ·rw [if_neg h,if_neg h,bA λq=>hc (Xs q.1 q.2)]
 ·rw [if_neg hn,if_neg hn,aY,nO hs,JA]
theorem zaa {i j a b:Nat}{r:List R.α} (hn:done i j (a,b)):pot n m B i j (upd V a b r)=pot n m B i j V:=by
 refine b8 λc _=>?_;by_cases h:done i j c
 ·rw [if_pos h,if_pos h]
 ·rw [if_neg h,if_neg h,bA λq=>h (by rw [show c=(a,b) from Xs q.1 q.2];exact hn)]
theorem z8 {i j N:Nat} (h: ∀a b,V a b=b7 R N):pot n m B i j V=R.zero:=by
 have: ∀l:List (Nat×Nat),cD (l.map λ_=>R.zero)=R.zero:=λl=>by
  induction l with
  |nil=>rfl
  |cons x l ih=>rw [QC,aG,ih,R.zero_add]
 refine (b8 λc _=>?_).trans (this (cells n m));by_cases hd:done i j c
 ·rw [if_pos hd]
 ·rw [if_neg hd,h,eH]
theorem pot_all:pot n m B (n+1) 0 V=R.zero:=by
 have: ∀l:List (Nat×Nat),cD (l.map λ_=>R.zero)=R.zero:=λl=>by
  induction l with
  |nil=>rfl
  |cons x l ih=>rw [QC,aG,ih,R.zero_add]
 refine (b8 λc hc=>?_).trans (this (cells n m));obtain ⟨a,b⟩:=c
 have:=gJ.mp hc
 exact if_pos (.inl (QB this.1))
end
end Tactic
namespace Tactic
open Internal
section
variable {R:Rg}{d:Nat}{h h0:MH}{Q:Val->MH->Prop}{L:Ly}{M:Mc R.α}
def i7 (u l:List Nat) (i j:Nat) (a:Ar R.α):Bool:=!a.emp && (fit u i a.up && fit l j a.lo)
def pM (B:Nat->Nat->Nat->R.α) (u l:List Nat) (i j:Nat) (xs:List (Ar R.α)):R.α:=cD (xs.map λa=>bif i7 u l i j a then R.mul a.w (B (i+a.up.length) (j+a.lo.length) a.t) else R.zero)
def rO (M:Mc R.α) (B:Nat->Nat->Nat->R.α) (u l:List Nat) (i j s:Nat):R.α:=R.add (if i=u.length/\j=l.length then eAt M s else R.zero) (pM B u l i j (aAt M s))
theorem pC {u s:List Nat}{i:Nat} (hs:lab s) (h:fit u i s=true):i<=u.length->i+s.length<=u.length/\s.length<=1:=λhi=>by
 rcases hs with rfl| ⟨c,rfl,_⟩
 ·exact ⟨by simpa using hi,by decide⟩
 ·refine ⟨?_,Qi _⟩
  by_cases he:i=u.length
  ·subst he
   unfold fit at h;rw [Zf (Qi _),Z0 (Jv _)] at h;unfold cut at h;rw [Q2,Za] at h;exact nomatch h
  ·show i+1<=_;exact QT (Jn hi he)
theorem vG {a:Ar R.α} (h:a.emp=false):0<a.up.length+a.lo.length:=by
 unfold Ar.emp at h;obtain ⟨up,lo,w,t⟩:=a;cases up with
 |cons _ _=>show 0<_+1+_;exact ZZ _ (Jt _)
 |nil=>
  cases lo with
  |cons _ _=>show 0<_+(_+1);exact Nat.lt_add_left _ (Jt _)
  |nil=>exact nomatch h
def x8 (R:Rg) (i j c p k:Nat) (V:Nat->Nat->List R.α):Prop:= ∀a b,¬done i j (a,b) -> ∀x∈V a b,R.D (p*(a+b+1)) (k*(a+b+1)+c) x
theorem zaI {r:List R.α}{s:Nat}{x y:R.α} (hy:y∈dX r s x):y∈r\/y=R.add (r[s]?.getD R.zero) x:=J7 hy
theorem yG {B:Nat->Nat->Nat->R.α}{u l:List Nat}{i j q:Nat}{xs:List (Ar R.α)}{a:Ar R.α} (ha:xs[q]?=some a):pM B u l i j (xs.drop q)=R.add (bif i7 u l i j a then R.mul a.w (B (i+a.up.length) (j+a.lo.length) a.t) else R.zero) (pM B u l i j (xs.drop (q+1))):=by
 refine (Qn.mp ha).elim λhq zq6=>?_;obtain rfl:=zq6;rw [Zs hq];rfl
structure CS (R:Rg) where
 g:MH
 Ad:Nat->Nat->Option Nat
 V:Nat->Nat->List R.α
 c:Nat
 a:Option Val:=none
 b:Option Val:=none
 d:Option Val:=none
 e:Option Val:=none
 f:Option Val:=none
 k:Option Val:=none
structure WX (R:Rg) where
 h:MH
 L:Ly
 M:Mc R.α
 u:List Nat
 l:List Nat
 D:Nat
 ov:Val
 p:Nat
 k:Nat
 p1:Nat
 k1:Nat
 pS:Nat
 kS:Nat
 B:Nat->Nat->Nat->R.α
 W:R.α
structure WOk (X:WX R):Prop where
 I:IsM R X.h X.L X.M
 G:a9 X.M X.p1 X.k1
 pp:X.p1+X.pS<=X.p
 kk:X.k1+X.kS<=X.k
 cl:1+(X.u.length+1)*(X.l.length+1)*(X.M.cnt+1)<100000
 bd:4*(X.p*(X.u.length+X.l.length+2))+(X.k*(X.u.length+X.l.length+2)+(1+(X.u.length+1)*(X.l.length+1)*(X.M.cnt+1)+X.M.arcs.length))<=3800
def wFr (X:WX R) (a b d e f k:Option Val):Internal.Frame:=some (.ref X.L.m)::some (.str X.u)::some (.str X.l)::some (.top (112+R.i))::some X.ov::some (.ref X.D)::a::b::d::e::f::k::nn 6
abbrev vN (n:Nat):Option Val:=some (.int n)
abbrev vR (n:Nat):Option Val:=some (.ref n)
structure jU (X:WX R) (i j aR c0:Nat) (row:List R.α) (F:R.α):Prop where
 O:WOk X
 hi:i<=X.u.length
 hj:j<=X.l.length
 cc:c0+X.M.cnt<=1+(X.u.length+1)*(X.l.length+1)*(X.M.cnt+1)
 len:row.length=X.M.arcs.length
 dg: ∀x∈row,R.D (X.p*(i+j+1)+X.pS) (X.k*(i+j+1)+X.kS+c0) x
structure CP (X:WX R) (i j aR c0:Nat) (row:List R.α) (n:Nat) (e:R.α) (s:CS R):Prop where
 rw':RW R X.h s.g X.D X.M.arcs.length s.c s.Ad s.V
 lo:c0<=s.c
 hi:s.c<=c0+n
 dg:x8 R i (j+1) s.c X.p X.k s.V
 vr:s.V i j=row
 ad:s.Ad i j=some aR
 w:R.add (pot X.u.length X.l.length X.B i (j+1) s.V) e=X.W
variable {X:WX R}{i j aR c0:Nat}{row:List R.α}{F:R.α}{Rr R':Fl->Internal.Frame->MH->Prop}
theorem RW.up {g:MH}{D N c:Nat}{Ad:Nat->Nat->Option Nat}{V:Nat->Nat->List R.α} (S:RW R h g D N c Ad V) {a:Nat}{o:MObj} (e:h[a]?=some o):g[a]?=some o:=by obtain ⟨t,rfl⟩:=S.pre;exact aB e
theorem dN {p a b:Nat} (h:a<=b):p*a<=p*b:=QG _ h
structure ziD (X:WX R) (y c0 c x:Nat):Prop where
 p1:X.p*(y+1)+X.pS+X.p1<=X.p*(x+1)
 k1:X.k*(y+1)+X.kS+c0+X.k1<=X.k*(x+1)+c
 b:4*(X.p*(x+1))+(X.k*(x+1)+c)<=3800
 t:4*(X.p*(y+1)+X.pS+X.p1)+(X.k*(y+1)+X.kS+c0+X.k1)<=3800
theorem ac4 (a b c d:Nat):a+b+c+d=a+(d+b)+c:=(J9 _ _ _).trans (congrArg (· +c) ((QY _ _ _).trans (congrArg (a+ ·) (Ju _ _))))
theorem zcz (O:WOk X) {y c0 c x:Nat} (h1:x<=X.u.length+X.l.length) (hx:y<x) (h0:c0<=c) (hc:c<=1+(X.u.length+1)*(X.l.length+1)*(X.M.cnt+1)):ziD X y c0 c x:=by
 have e: ∀ {p:Nat},p*(y+1)+p<=p*(x+1):=λ{p} =>by rw [<-Zb];exact dN (Q8 hx)
 have f: ∀ {p:Nat},p*(x+1)<=p*(X.u.length+X.l.length+2):=λ{p} =>dN (Q8 (Jf h1));have p1:X.p*(y+1)+X.pS+X.p1<=X.p*(x+1):=Qa (by rw [QY,Ju X.pS];exact Qm O.pp _) e;have k1:X.k*(y+1)+X.kS+c0+X.k1<=X.k*(x+1)+c:=by
  rw [ac4];exact QE (Qa (Qm O.kk _) e) h0
 have b:4*(X.p*(x+1))+(X.k*(x+1)+c)<=3800:=Qa (QE (dN f) (QE f (Qa hc (Qd _ _)))) O.bd;exact ⟨p1,k1,b,Qa (QE (dN p1) k1) b⟩
abbrev arcB:List Sm:= [.ite (.bop true [.meth (.var 10) 7598521885536580729 [],.not (.call (.lit (.top 129)) [.var 1,.var 6,.attr (.var 10) 504397587826]),.not (.call (.lit (.top 129)) [.var 2,.var 7,.attr (.var 10) 465726563698])]) [.cont] [],.asg (.nm 11) (.tup [.bin .add (.var 6) (.call (.lit (.bi 7103854)) [.attr (.var 10) 504397587826]),.bin .add (.var 7) (.call (.lit (.bi 7103854)) [.attr (.var 10) 465726563698])]),.expr (.call (.lit (.top 126)) [.var 0,.var 5,.var 11,.attr (.var 10) 127961880028532,.meth (.var 3) 499984983411 [.sub (.var 8) (.var 9),.attr (.var 10) 131277443786868]])]
theorem CP.put {n:Nat}{e e' x:R.α}{s:CS R}{g':MH}{Ad':Nat->Nat->Option Nat}{a b t:Nat} (C:jU X i j aR c0 row F) (P:CP X i j aR c0 row n e s) (ha:a<=X.u.length) (hb:b<=X.l.length) (ht:t<X.M.arcs.length) (hn: ¬done i (j+1) (a,b)) (hD:R.D (X.p*(a+b+1)) (X.k*(a+b+1)+s.c) x)
  (S':RW R X.h g' X.D X.M.arcs.length (s.c+1) Ad' (upd s.V a b (dX (s.V a b) t x))) (hk: ∀i' j' a',s.Ad i' j'=some a'->Ad' i' j'=some a') (he:e=R.add (R.mul x (X.B a b t)) e') (z y:Option Val):CP X i j aR c0 row (n+1) e' ⟨g',Ad',upd s.V a b (dX (s.V a b) t x),s.c+1,none,none,none,none,z,y⟩:=by
 have hl:t<(s.V a b).length:=by rw [P.rw'.len];exact ht
 refine ⟨S',Jf P.lo,Q8 P.hi,λa' b' hn' y hy=>?_,?_,hk _ _ _ P.ad,?_⟩
 ·have hy:y∈upd s.V a b (dX (s.V a b) t x) a' b':=hy
  show R.D (X.p*(a'+b'+1)) (X.k*(a'+b'+1)+(s.c+1)) y;by_cases q:a'=a/\b'=b
  ·obtain rfl:=q.1
   obtain rfl:=q.2;rw [aY] at hy;rcases zaI hy with hy|rfl
   ·exact R.D_mono (Qi _) (Jv _) (P.dg _ _ hn' y hy)
   ·rw [Qc hl]
    exact R.D_add (P.dg _ _ hn' _ (Jk hl)) hD
  ·rw [bA q] at hy
   exact R.D_mono (Qi _) (Jv _) (P.dg a' b' hn' y hy)
 ·show upd s.V a b (dX (s.V a b) t x) i j=row
  rw [bA λq=>hn (.inr ⟨q.1.symm,by show b<j+1;rw [<-q.2];exact QF _⟩)];exact P.vr
 ·show R.add (pot X.u.length X.l.length X.B i (j+1) (upd s.V a b (dX (s.V a b) t x))) e'=X.W
  rw [qS ha hb hn hl,<-P.w,he,<-R.add_assoc,R.add_comm (R.mul _ _)]
theorem za3 (hd:1<=d) (u:List Nat) (i:Nat) (s:List Nat) (h:MH):aP (Cxd P0 d) (.top 129) [.str u,.int i,.str s] h=some (.bool (fit u i s),h):=fn rfl (zdr hd ⟨rfl,rfl⟩)
theorem zgr {g:MH}{D N c i j s p k:Nat}{Ad:Nat->Nat->Option Nat}{V:Nat->Nat->List R.α}{x:R.α} (hd:4<=d) (I:IsM R h L M) (S:RW R h g D N c Ad V) (hN:N=M.arcs.length) (hc:c<100000) (hs:s<N) (hV: ∀y∈V i j,R.D p k y) (hx:R.D p k x) (hl:4*p+k<=3800):
  ∃g' Ad',aP (Cxd P0 d) (.top 126) [.ref L.m,.ref D,bP i j,.int s,R.e x] g=some (.none,g')/\RW R h g' D N (c+1) Ad' (upd V i j (dX (V i j) s x))/\∀i' j' a',Ad i' j'=some a'->Ad' i' j'=some a':=by
 refine (W.get (cV (P:=P0) rfl (zgq (Q:=λv g'=>v= .none/\∃Ad',RW R h g' D N (c+1) Ad' (upd V i j (dX (V i j) s x))/\∀i' j' a',Ad i' j'=some a'->Ad' i' j'=some a') hd I S hN hc hs hV hx hl λg' Ad' S' hk=>⟨rfl,Ad',S',hk⟩))).elim λv zq3=>zq3.elim λg' zq4=>?_;obtain rfl:=zq4.2.1;refine zq4.2.2.elim λAd' zq5=>?_;exact ⟨g',Ad',zq4.1,zq5⟩
theorem zcq {s n b:Nat}{E y T e0 e1:R.α}{a:Ar R.α}{st:CS R}{z:Option Val} (hd:5<=d) (C:jU X i j aR c0 row F) (hs:row[s]?=some y) (hn:n<X.M.cnt) (hB:X.h[b]?=some (dC R a)) (gt:a.t<X.M.arcs.length) (g2:lab a.up) (g3:lab a.lo) (g4:R.D X.p1 X.k1 a.w)
  (P:CP X i j aR c0 row n e0 st) (h0:e0=R.add (R.mul y (R.add (bif i7 X.u X.l i j a then R.mul a.w (X.B (i+a.up.length) (j+a.lo.length) a.t) else R.zero) T)) E) (h1:e1=R.add (R.mul y T) E)
  (q1: ∀s',CP X i j aR c0 row (n+1) e1 s'->R' .nx (wFr X (vN i) (vN j) (vR aR) (vN s) s'.f s'.k) s'.g) (q2: ∀s',CP X i j aR c0 row (n+1) e1 s'->R' .ct (wFr X (vN i) (vN j) (vR aR) (vN s) s'.f s'.k) s'.g):
  WSs (Cxd P0 d) arcB (wFr X (vN i) (vN j) (vR aR) (vN s) (vR b) z) st.g R':=by
 have S:=P.rw';have hB:=S.up hB;have d1:1<=d:=Qa (by decide) hd;have skip:i7 X.u X.l i j a=false->R' .ct (wFr X (vN i) (vN j) (vR aR) (vN s) (vR b) z) st.g:=λhh=>by
  rw [hh,cond_false,R.zero_add,<-h1] at h0;exact q2 {st with f:=vR b,k:=z} ⟨S,P.lo,Jf P.hi,P.dg,P.vr,P.ad,h0▸P.w⟩
 cases he:a.emp with
 |true=>exact run (.p (xP d1 hB)<| .t (he)<| .t (he)<| .z (skip (by unfold i7;rw [he];rfl))) (by kernel_rfl)
 |false=>
  cases hu:fit X.u i a.up with
  |false=>exact run (.p (xP d1 hB)<| .f (he)<| .v (gUp hB)<| .q (za3 d1 X.u i a.up)<| .c<| .t (nF hu)<| .t (nF hu)<| .z (skip (by unfold i7;rw [hu,XY,YL]))) (by kernel_rfl)
  |true=>
   cases hlo:fit X.l j a.lo with
   |false=>exact run (.p (xP d1 hB)<| .f (he)<| .v (gUp hB)<| .q (za3 d1 X.u i a.up)<| .c<| .f (nT hu)<| .v (gLo hB)<| .q (za3 d1 X.l j a.lo)<| .c<| .t (nF hlo)<| .z (skip (by unfold i7;rw [hlo,YL,YL]))) (by kernel_rfl)
   |true=>
    have hh:i7 X.u X.l i j a=true:=by unfold i7;rw [he,hu,hlo];rfl
    rw [hh,cond_true,R.mul_add,R.add_assoc,<-h1,<-R.mul_assoc] at h0;have f1:=(pC g2 hu C.hi).1;have f3:=(pC g3 hlo C.hj).1;have f5:=vG he;have nds: ¬done i (j+1) (i+a.up.length,j+a.lo.length):=λq=>q.elim (Jc (Qd _ _)) λq=>Q4 0 (Kc f5 (congr (congrArg _ (YS (q.1:i+a.up.length=i+0))) (Yr (QM (Zt q.2)))));have hc:st.c<c0+X.M.cnt:=Qk P.hi (QK hn _);have T1:=zcz C.O (y:=i+j) (c0:=c0) (c:=st.c) (x:=i+a.up.length+(j+a.lo.length)) (QE f1 f3) (Kc (JZ f5) (YM i j a.up.length a.lo.length)) P.lo (Qa (QJ hc) C.cc);have hxd:=C.dg y (Qe hs);have hRa:=S.row i j aR P.ad;rw [P.vr] at hRa;refine (zgr (d:=d) (i:=i+a.up.length) (j:=j+a.lo.length) (s:=a.t) (x:=R.mul y a.w) (Qa (by decide) hd) C.O.I S rfl (Qf hc (Qa C.cc (QJ C.O.cl))) gt (P.dg _ _ nds) (R.D_mono T1.p1 T1.k1 (R.D_mul hxd g4)) T1.b).elim λg' zq1=>zq1.elim λAd' zq2=>?_;exact run (.p (xP d1 hB)<| .f (he)<| .v (gUp hB)<| .q (za3 d1 X.u i a.up)<| .c<| .f (nT hu)<| .v (gLo hB)<| .q (za3 d1 X.l j a.lo)<| .c<| .f (nT hlo)<| .v (gUp hB)<| .c2<| .v (gLo hB)<| .c2<| .v (gTg hB)<| .v (sl hRa (mT hs))<| .v (gWt hB)<| .q (R.ti (Qa (by decide) hd) hxd g4 T1.t)<| .p (zq2.1)<| .z (q1 _ (P.put C f1 f3 gt nds (R.D_mono T1.p1 T1.k1 (R.D_mul hxd g4)) zq2.2.1 zq2.2.2 h0 (vR b) (some (bP (i+a.up.length) (j+a.lo.length)))))) (by kernel_rfl)
end
end Tactic
namespace Tactic
open Internal
section
variable {R:Rg}{d:Nat}{h h0:MH}{Q:Val->MH->Prop}{L:Ly}{M:Mc R.α}{X:WX R}{i j aR c0:Nat}{row:List R.α}{F:R.α}{Rr R':Fl->Internal.Frame->MH->Prop}
def nD (M:Mc R.α):Prop:=(M.arcs.any λr=>r.any Ar.emp)=false
theorem tM {r:List R.α}{b b':Nat->R.α}{o:Nat} (h: ∀s,o<=s->s<o+r.length->b s=b' s):dotF r b o=dotF r b' o:=by
 induction r generalizing o with
 |nil=>rfl
 |cons x r ih=>
  show R.add (R.mul x (b o)) (dotF r b (o+1))=R.add (R.mul x (b' o)) (dotF r b' (o+1));rw [h o (Qi _) (by rw [Jx];exact JZ (Jt _)),ih λs h1 h2=>h s (QJ (Jl h1)) (by rw [Jx];lia)]
theorem zbj {r:List R.α}{b b':Nat->R.α}{o:Nat}:dotF r (λs=>R.add (b s) (b' s)) o=R.add (dotF r b o) (dotF r b' o):=by
 induction r generalizing o with
 |nil=>exact (R.zero_add _).symm
 |cons x r ih=>
  show R.add (R.mul x (R.add (b o) (b' o))) (dotF r _ (o+1))=R.add (R.add (R.mul x (b o)) (dotF r b (o+1))) (R.add (R.mul x (b' o)) (dotF r b' (o+1)));rw [ih,R.mul_add,R.add_assoc,R.add_assoc]
  congr 1
  rw [R.swap]
theorem xZ {r:List R.α}{o:Nat}:dotF r (λ_=>R.zero) o=R.zero:=by
 induction r generalizing o with
 |nil=>rfl
 |cons x r ih=>
  show R.add (R.mul x R.zero) (dotF r _ (o+1))=_;rw [ih,R.mul_zero,R.zero_add]
abbrev stB:List Sm:= [.ite (.cmp .eq (.sub (.var 8) (.var 9)) (.attr (.var 3) 121424990136436)) [.cont] [],.fo [10] false (.sub (.attr (.var 0) 1634886515) (.var 9)) arcB]
abbrev zbP (X:WX R) (i j:Nat):Nat->R.α:=λs=>pM X.B X.u X.l i j (aAt X.M s)
theorem zgI {s n0 r:Nat}{as:List Nat}{xs:List (Ar R.α)}{y E e0:R.α}{st:CS R} (hd:5<=d) (C:jU X i j aR c0 row F) (hs:row[s]?=some y) (hm:xs∈X.M.arcs) (hr:(X.L.rows.map Val.ref)[s]?=some (.ref r)) (H:zdS R X.h r as xs) (hn:n0+xs.length<=X.M.cnt) (P:CP X i j aR c0 row n0 e0 st) (h0:e0=R.add (R.mul y (pM X.B X.u X.l i j xs)) E):
  ∃s',CP X i j aR c0 row (n0+xs.length) E s'/\exec (Cxd P0 d) (.fo [10] false (.sub (.attr (.var 0) k_arcs) (.var 9)) arcB) (wFr X (vN i) (vN j) (vR aR) (vN s) st.f st.k) st.g=some ((.nx,wFr X (vN i) (vN j) (vR aR) (vN s) s'.f s'.k),s'.g):=by
 subst h0;have I:=P.rw'.ism C.O.I;obtain ⟨s',P',e⟩:=foL (c:=Cxd P0 d) (tg:=[10]) (many:=false) (a:=r) (e:=.sub (.attr (.var 0) k_arcs) (.var 9)) (b:=arcB) (vs:=as.map .ref) (λs':CS R=>wFr X (vN i) (vN j) (vR aR) (vN s) s'.f s'.k) CS.g (λq=>CP X i j aR c0 row (n0+q) (R.add (R.mul y (pM X.B X.u X.l i j (xs.drop q))) E)) st
  (H.n▸Qa (Qa (Ql _ _) hn) (Qa C.O.G.c (by decide))) rfl (λq s' P=>P.rw'.up H.l) (by exact bK (.v (dZ I)<| .v (sl I.arcs hr)<| .z (two (.ref r) st.g)) (by kernel_rfl)) P (λq v s' R1 _ hv P1 T1=>by
   obtain ⟨b,x,rfl,hx,hb⟩:=H.a q v hv;have ga:=C.O.G.arc _ hm x (Qe hx);exact c9 (zcq hd C hs (n:=n0+q) (Qf (QK (aJ hx) _) hn) hb ga.1 ga.2.1 ga.2.2.1 ga.2.2.2.1 P1 (by rw [yG hx]) rfl T1.nx T1.ct))
 rw [H.n,Za,show pM X.B X.u X.l i j []=R.zero from rfl,R.mul_zero,R.zero_add] at P';exact ⟨s',P',e⟩
theorem zeG {s n0 n1:Nat}{e0 e1:R.α}{st:CS R} (hd:5<=d) (C:jU X i j aR c0 row F) (hs:s<X.M.arcs.length) (P:CP X i j aR c0 row n0 e0 st) (hn:n1=n0+(aAt X.M s).length) (hc:n1<=X.M.cnt) (h0:e0=R.add (R.mul (at' row s) (zbP X i j s)) e1)
  (q1: ∀s',CP X i j aR c0 row n1 e1 s'->R' .nx (wFr X (vN i) (vN j) (vR aR) s'.e s'.f s'.k) s'.g) (q2: ∀s',CP X i j aR c0 row n1 e1 s'->R' .ct (wFr X (vN i) (vN j) (vR aR) s'.e s'.f s'.k) s'.g):
  WSs (Cxd P0 d) stB (wFr X (vN i) (vN j) (vR aR) (vN s) st.f st.k) st.g R':=by
 have hsr:=pL (l:=row) (s:=s) (by rw [C.len];exact hs);have hRa:=P.rw'.row i j aR P.ad;rw [P.vr] at hRa;cases R.deq (at' row s) R.zero with
 |isTrue hz=>
  rw [hz,R.zero_mul,R.zero_add] at h0;have P':CP X i j aR c0 row n1 e1 {st with e:=vN s}:=⟨P.rw',P.lo,hn▸Qa P.hi (Qm (Qd _ _) _),P.dg,P.vr,P.ad,h0▸P.w⟩;exact run (.v (sl hRa (mT hsr))<| .w (R.no)<| .k (R.qe (at' row s) R.zero)<| .t (R.yes hz)<| .z (q2 _ P')) (by kernel_rfl)
 |isFalse hz=>
  refine (C.O.I.rowR hs).elim λr zq3=>zq3.elim λas zq4=>?_;obtain ⟨s',P',e⟩:=zgI hd C hsr zq4.2.2 zq4.1 zq4.2.1 (hn▸hc) P h0;have N:CP X i j aR c0 row n1 e1 {s' with e:=vN s}:=by subst hn;exact ⟨P'.rw',P'.lo,P'.hi,P'.dg,P'.vr,P'.ad,P'.w⟩
  exact run (.v (sl hRa (mT hsr))<| .w (R.no)<| .k (R.qe (at' row s) R.zero)<| .f (R.not hz)<| .s (e)<| .z (q1 _ N)) (by kernel_rfl)
theorem zdw {r:List R.α}{b:Nat->R.α}{s:Nat} (hs:s<r.length):dotF (r.drop s) b s=R.add (R.mul (at' r s) (b s)) (dotF (r.drop (s+1)) b (s+1)):=by
 rw [jA hs];unfold at';rw [Qc hs];rfl
theorem zh6 {st:CS R}{e0:R.α} (hd:5<=d) (C:jU X i j aR c0 row F) (P:CP X i j aR c0 row 0 e0 st) (h0:e0=R.add (dotF row (zbP X i j) 0) F):
  ∃s',CP X i j aR c0 row X.M.cnt F s'/\exec (Cxd P0 d) (.fo [9] false (.call (.lit (.ty 491260897125)) [.meth (.var 0) 1936292453 []]) stB) (wFr X (vN i) (vN j) (vR aR) st.e st.f st.k) st.g=some ((.nx,wFr X (vN i) (vN j) (vR aR) s'.e s'.f s'.k),s'.g):=by
 subst h0;have I:=P.rw'.ism C.O.I;obtain ⟨s',P',e⟩:=foR (c:=Cxd P0 d) (x:=9) (n:=X.M.arcs.length) (e:=.call (.lit (.ty 491260897125)) [.meth (.var 0) 1936292453 []]) (b:=stB) (λs':CS R=>wFr X (vN i) (vN j) (vR aR) s'.e s'.f s'.k) CS.g (λs=>CP X i j aR c0 row (d0 X.M s) (R.add (dotF (row.drop s) (zbP X i j) s) F)) st
  (Qa I.lim (by decide)) rfl (by exact bK (.p (cM (Qa (by decide) hd) I)<| .c<| .z (two (.rng X.M.arcs.length) st.g)) (by kernel_rfl)) P (λs s' R1 _ hs P1 T1=>zeG hd C hs P1 (iS hs) (lR C.O.I _) (by rw [zdw (by rw [C.len];exact hs),R.add_assoc]) T1.nx T1.ct)
 have e1:d0 X.M X.M.arcs.length=X.M.cnt:=by unfold d0;rw [Q2,I.ct]
 have e2:row.drop X.M.arcs.length= []:=by rw [<-C.len,Za]
 rw [e1,e2,show dotF [] (zbP X i j) X.M.arcs.length=R.zero from rfl,R.zero_add] at P';exact ⟨s',P',e⟩
end
end Tactic
namespace Tactic
open Internal
section
variable {R:Rg}{d:Nat}{h h0:MH}{Q:Val->MH->Prop}{L:Ly}{M:Mc R.α}{X:WX R}{i j aR c0:Nat}{row:List R.α}{F:R.α}{Rr R':Fl->Internal.Frame->MH->Prop}
structure pO (X:WX R):Prop where
 r:X.ov= .none\/∃a,X.ov= .ref a
 no:X.ov= .none-> ∀i j s,i<=X.u.length->j<=X.l.length->s<X.M.arcs.length->X.B i j s=rO X.M X.B X.u X.l i j s
 so: ∀aT,X.ov= .ref aT-> ∀ {d P K aR:Nat}{g:MH}{row:List R.α}{Q:Val->MH->Prop},5<=d->(∃t,g=X.h++t) ->g[aR]?=some (.list (row.map R.e)) ->row.length=X.M.arcs.length->(∀x∈row,R.D P K x) ->4*(P+X.pS)+(K+X.kS)<=3800->
  (∀t a row',g.length<=a->(g++t)[a]?=some (.list (row'.map R.e)) ->row'.length=X.M.arcs.length->(∀x∈row',R.D (P+X.pS) (K+X.kS) x) ->(∀i j,i<=X.u.length->j<=X.l.length->dotF row (X.B i j) 0=dotF row' (rO X.M X.B X.u X.l i j) 0) ->Q (.ref a) (g++t)) ->
  WF P0 d 132 [.top (112+R.i),.ref aR,.ref aT] g Q
abbrev l0 (X:WX R) (i j:Nat):Nat->R.α:=λs=>if i=X.u.length/\j=X.l.length then eAt X.M s else R.zero
structure PS (X:WX R) (i j:Nat) (s:CS R):Prop where
 rw':RW R X.h s.g X.D X.M.arcs.length s.c s.Ad s.V
 hc:s.c<=1+(i*(X.l.length+1)+j)*(X.M.cnt+1)
 dg:x8 R i j s.c X.p X.k s.V
 w:i<X.u.length\/(i=X.u.length/\j<=X.l.length) ->pot X.u.length X.l.length X.B i j s.V=X.W
 fin:(i=X.u.length/\j=X.l.length+1)\/i=X.u.length+1->dotF (s.V X.u.length X.l.length) (eAt X.M) 0=X.W/\∀x∈s.V X.u.length X.l.length,R.D (X.p*(X.u.length+X.l.length+1)+X.pS) (X.k*(X.u.length+X.l.length+1)+X.kS+s.c) x
theorem zf4 {c Y n B:Nat} (h:c<=1+Y+1) (h2:Y+(n+1)<=B):c+n<=1+B:=
 Qa (QW h n) (Qa (QA ((QY (1+Y) 1 n).trans ((QY 1 Y _).trans (congrArg (λz=>1+(Y+z)) (Ju 1 n))))) (Qm h2 1))
theorem tO (O:WOk X) {i j:Nat} (h1:i<=X.u.length) (h2:j<=X.l.length):(i*(X.l.length+1)+j)*(X.M.cnt+1)+(X.M.cnt+1)<=(X.u.length+1)*(X.l.length+1)*(X.M.cnt+1):=by
 have h3:(i*(X.l.length+1)+j)+1<=(X.u.length+1)*(X.l.length+1):=by
  have h4:i*(X.l.length+1)<=X.u.length*(X.l.length+1):=Jz _ h1;rw [ZE X.u.length];exact (QE h4 (Qa (Q8 h2) (QA (JI _).symm)):i*(X.l.length+1)+(j+1)<=_)
 have h5:=Jz (X.M.cnt+1) h3;rwa [ZE _ 1,JI] at h5
theorem CP.next {s:CS R} (C:jU X i j aR c0 row (dotF row (l0 X i j) 0)) (P:CP X i j aR c0 row X.M.cnt (dotF row (l0 X i j) 0) s) (h0:c0<=1+(i*(X.l.length+1)+j)*(X.M.cnt+1)+1):PS X i (j+1) s:=by
 have hi:=P.hi;refine ⟨P.rw',by rw [show i*(X.l.length+1)+(j+1)=(i*(X.l.length+1)+j)+1 from rfl,ZE _ 1,JI];exact Qa P.hi (zf4 h0 (Qi _)),P.dg,λhlt=>?_,λhf=>?_⟩
 ·have: ¬(i=X.u.length/\j=X.l.length):=λe=>hlt.elim (λh=>Zy h e.1) λh=>Zy h.2 e.2
  have hw:=P.w;rw [show l0 X i j=λ_=>R.zero from funext λ_=>if_neg this,xZ,R.add_zero] at hw;exact hw
 ·have hh:i=X.u.length/\j=X.l.length:=hf.elim (λh=>⟨h.1,JY.inj h.2⟩) λh=>absurd (h▸C.hi) (KC _)
  have hw:=P.w;rw [show l0 X i j=eAt X.M from funext λ_=>if_pos hh] at hw;obtain rfl:=hh.1;obtain rfl:=hh.2;rw [oR,pot_all,R.zero_add] at hw;rw [P.vr];exact ⟨hw,λx hx=>R.D_mono (Qi _) (Qm P.lo _) (C.dg x hx)⟩
abbrev cellB:List Sm:= [.asg (.nm 8) (.meth (.var 5) 6776180 [.tup [.var 6,.var 7]]),.ite (.cmp .is (.var 8) (.lit .none)) [.cont] [],.ite (.cmp .isnot (.var 4) (.lit .none)) [.asg (.nm 8) (.call (.lit (.top 132)) [.var 3,.var 8,.var 4]),.asg (.sb (.var 5) (.tup [.var 6,.var 7])) (.var 8)] [],.fo [9] false (.call (.lit (.ty 491260897125)) [.meth (.var 0) 1936292453 []]) stB]
theorem yF {V:List R.α}:dotF V (rO X.M X.B X.u X.l i j) 0=R.add (dotF V (zbP X i j) 0) (dotF V (l0 X i j) 0):=by
 rw [R.add_comm,<-zbj];rfl
theorem za2 (z:Cx) {D:Nat}{c:Nat}{g:MH}{N:Nat}{Ad:Nat->Nat->Option Nat}{V:Nat->Nat->List R.α} (S:RW R h g D N c Ad V) (i j:Nat) {v:Val} (hv:((Ad i j).map Val.ref).getD .none=v):bI z (.ref D) nGet [bP i j] g g=some (v,g):=by
 refine S.dd.elim λep zq13=>zq13.elim λes zq14=>?_;exact W.eq (zcd zq14.1 zq14.1 (nN zq14.2.1) ⟨by rw [zq14.2.2.2];exact hv,rfl⟩)
theorem pG {c c' p k:Nat}{V:Nat->Nat->List R.α} (hc:c<=c') (h:x8 R i j c p k V):x8 R i (j+1) c' p k V:=λa b hn x hx=>R.D_mono (Qi _) (Qm hc _) (h a b (λq=>hn (q.elim .inl λq=> .inr ⟨q.1,Q7 q.2⟩)) x hx)
abbrev cellL:Sm:= .fo [9] false (.call (.lit (.ty 491260897125)) [.meth (.var 0) 1936292453 []]) stB
theorem row_next:1+(i*(X.l.length+1)+(j+1))*(X.M.cnt+1)=1+(i*(X.l.length+1)+j)*(X.M.cnt+1)+(X.M.cnt+1):=by
 rw [show i*(X.l.length+1)+(j+1)=(i*(X.l.length+1)+j)+1 from rfl,ZE _ 1,JI,QY]
theorem vJ {a:Nat}{st:CS R} (hd:5<=d) (O:WOk X) (hi:i<=X.u.length) (hj:j<=X.l.length) (S:RW R X.h st.g X.D X.M.arcs.length st.c st.Ad st.V) (hA:st.Ad i j=some a) (dg:x8 R i (j+1) st.c X.p X.k st.V) (hD: ∀x∈st.V i j,R.D (X.p*(i+j+1)+X.pS) (X.k*(i+j+1)+X.kS+st.c) x)
  (hc:st.c<=1+(i*(X.l.length+1)+j)*(X.M.cnt+1)+1) (hw:R.add (pot X.u.length X.l.length X.B i (j+1) st.V) (dotF (st.V i j) (rO X.M X.B X.u X.l i j) 0)=X.W):
  ∃s',PS X i (j+1) s'/\exec (Cxd P0 d) cellL (wFr X (vN i) (vN j) (vR a) st.e st.f st.k) st.g=some ((.nx,wFr X (vN i) (vN j) (vR a) s'.e s'.f s'.k),s'.g):=by
 have hcl:=tO O hi hj;rw [yF] at hw;refine (zh6 hd (⟨O,hi,hj,zf4 hc hcl,S.len i j,hD⟩:jU X i j a st.c (st.V i j) (dotF (st.V i j) (l0 X i j) 0)) ⟨S,Qi _,Qi _,dg,rfl,hA,hw⟩ rfl).elim λs' zq12=>?_;exact ⟨s',zq12.1.next (⟨O,hi,hj,zf4 hc hcl,S.len i j,hD⟩:jU X i j a st.c (st.V i j) (dotF (st.V i j) (l0 X i j) 0)) hc,zq12.2⟩
theorem ovN (e:X.ov= .none) (h:MH):c7 .isnot X.ov .none h=some false:=by rw [e];rfl
theorem ovR {a:Nat} (e:X.ov= .ref a) (h:MH):c7 .isnot X.ov .none h=some true:=by rw [e];rfl
structure zbT (X:WX R) (g t:MH) (a P K:Nat) (row row':List R.α):Prop where
 ge:g.length<=a
 at':(g++t)[a]?=some (.list (row'.map R.e))
 len:row'.length=X.M.arcs.length
 dg: ∀x∈row',R.D (P+X.pS) (K+X.kS) x
 w: ∀i j,i<=X.u.length->j<=X.l.length->dotF row (X.B i j) 0=dotF row' (rO X.M X.B X.u X.l i j) 0
theorem pO.ex (V:pO X) {aT P K aR:Nat}{g:MH}{row:List R.α} (hov:X.ov= .ref aT) (hd:5<=d) (hp: ∃t,g=X.h++t) (hr:g[aR]?=some (.list (row.map R.e))) (hl:row.length=X.M.arcs.length) (hD: ∀x∈row,R.D P K x) (hb:4*(P+X.pS)+(K+X.kS)<=3800):
  ∃t a row',aP (Cxd P0 d) (.top 132) [.top (112+R.i),.ref aR,X.ov] g=some (.ref a,g++t)/\zbT X g t a P K row row':=by
 obtain ⟨v,g',e,t,a,row',rfl,rfl,N⟩:=W.get (cV (P:=P0) (d:=d) rfl (V.so aT hov hd hp hr hl hD hb (Q:=λv g'=> ∃t a row',v= .ref a/\g'=g++t/\zbT X g t a P K row row') λt a row' h1 h2 h3 h4 h5=>⟨t,a,row',rfl,rfl,h1,h2,h3,h4,h5⟩));exact ⟨t,a,row',by rw [hov];exact e,N⟩
abbrev ovS (st:CS R) (g:MH) (i j a:Nat) (row:List R.α):CS R:=⟨g,upd st.Ad i j (some a),upd st.V i j row,st.c+1,st.a,st.b,st.d,st.e,st.f,st.k⟩
theorem zdC (O:WOk X) {c:Nat} (hi:i<=X.u.length) (hj:j<=X.l.length) (hc:c<=1+(i*(X.l.length+1)+j)*(X.M.cnt+1)):4*(X.p*(i+j+1)+X.pS)+(X.k*(i+j+1)+c+X.kS)<=3800:=by
 have e3:=dN (p:=X.p) (show i+j+1+1<=X.u.length+X.l.length+2 by exact QT (Zn (QE hi hj) (QF _)));have e4:=dN (p:=X.k) (show i+j+1+1<=X.u.length+X.l.length+2 by exact QT (Zn (QE hi hj) (QF _)));have h1:=tO O hi hj;have bd:=O.bd;rw [Zb] at e3 e4;exact Qa (QE (QG 4 (Qa (Qm (Qa (Ql _ _) O.pp) _) e3)) (Qa (QA (J9 _ _ _)) (QE (Qa (Qm (Qa (Ql _ _) O.kk) _) e4) (Qa hc (Qa (Qm (Qa (Qd _ _) h1) 1) (Qd _ _)))))) bd
section
variable {st:CS R} (hd:6<=d) (O:WOk X) (hi:i<=X.u.length) (hj:j<=X.l.length) (P:PS X i j st)
include hd O hi hj P
theorem PS.hw:R.add (dotF (st.V i j) (X.B i j) 0) (pot X.u.length X.l.length X.B i (j+1) st.V)=X.W:=by
 have hp:=P.w ((K2 hi).imp id λh=>⟨h,hj⟩);rwa [z9 hi hj] at hp
theorem PS.dij: ∀x∈st.V i j,R.D (X.p*(i+j+1)) (X.k*(i+j+1)+st.c) x:=P.dg i j (by unfold done;simp)
theorem zcm (hA:st.Ad i j=none) (q2: ∀s',PS X i (j+1) s'->R' .ct (wFr X (vN i) s'.b s'.d s'.e s'.f s'.k) s'.g):WSs (Cxd P0 d) cellB (wFr X (vN i) (vN j) st.d st.e st.f st.k) st.g R':=by
 have hp:=PS.hw hd O hi hj P;have hz:=P.rw'.non i j hA;rw [hz,eH,R.zero_add] at hp;have N:PS X i (j+1) {st with b:=vN j,d:=some .none}:=by
  refine ⟨P.rw',by rw [row_next];exact Qa P.hc (Qd _ _),pG (Qi _) P.dg,λ_=>hp,λhf=>?_⟩;have hh:i=X.u.length/\j=X.l.length:=hf.elim (λh=>⟨h.1,JY.inj h.2⟩) λh=>absurd (h▸hi) (KC _);obtain rfl:=hh.1;obtain rfl:=hh.2;rw [oR,pot_all] at hp;exact ⟨by show dotF (st.V _ _) _ _=_;rw [hz,eH];exact hp,λx hx=>R.D_mono (Qd _ _) (QW (Qd _ _) _) (PS.dij hd O hi hj P x hx)⟩
 exact run (.p (za2 (Cxd P0 d) P.rw' i j (v:=.none) (by rw [hA];rfl))<| .c2<| .z (q2 _ N)) (by kernel_rfl)
theorem zcl (V:pO X) {a:Nat} (hA:st.Ad i j=some a) (hov:X.ov= .none) (q1: ∀s',PS X i (j+1) s'->R' .nx (wFr X (vN i) s'.b s'.d s'.e s'.f s'.k) s'.g):WSs (Cxd P0 d) cellB (wFr X (vN i) (vN j) st.d st.e st.f st.k) st.g R':=by
 have hp:=PS.hw hd O hi hj P;rw [tM λs _ h2=>V.no hov i j s hi hj (by rw [P.rw'.len,JA] at h2;exact h2),R.add_comm] at hp;refine (vJ (Qa (by decide) hd) O hi hj P.rw' hA (pG (Qi _) P.dg) (λx hx=>R.D_mono (Qd _ _) (QW (Qd _ _) _) (PS.dij hd O hi hj P x hx)) (Jf P.hc) hp).elim λs' zq6=>?_;have N:PS X i (j+1) {s' with b:=vN j,d:=vR a}:=⟨zq6.1.rw',zq6.1.hc,zq6.1.dg,zq6.1.w,zq6.1.fin⟩;exact run (.p (za2 (Cxd P0 d) P.rw' i j (v:=.ref a) (by rw [hA];rfl))<| .c2<| .k (ovN hov)<| .c<| .s (zq6.2)<| .z (q1 _ N)) (by kernel_rfl)
theorem zck (V:pO X) {a aT:Nat} (hA:st.Ad i j=some a) (hov:X.ov= .ref aT) (q1: ∀s',PS X i (j+1) s'->R' .nx (wFr X (vN i) s'.b s'.d s'.e s'.f s'.k) s'.g):WSs (Cxd P0 d) cellB (wFr X (vN i) (vN j) st.d st.e st.f st.k) st.g R':=by
 have hp:=PS.hw hd O hi hj P;have S:=P.rw';refine (V.ex hov (Qa (by decide) hd) S.pre (S.row i j a hA) (S.len i j) (PS.dij hd O hi hj P) (zdC O hi hj P.hc)).elim λt zq3=>zq3.elim λb zq4=>zq4.elim λrow' zq5=>?_;refine S.dd.elim λep zq1=>zq1.elim λes zq2=>?_;rw [zq5.2.w i j hi hj,<-zaa (r:=row') (a:=i) (b:=j) (i:=i) (j:=j+1) (V:=st.V) (by unfold done;simp),R.add_comm] at hp;obtain ⟨s',P',e⟩:=vJ (st:=ovS st _ i j b row') (Qa (by decide) hd) O hi hj ((S.app:RW R X.h (st.g++t) X.D X.M.arcs.length st.c st.Ad st.V).put (i:=i) (j:=j) (aB zq2.1) zq5.2.at' (Qa (by obtain ⟨t0,hg⟩:=S.pre;rw [hg,Qv];exact Qd _ _) zq5.2.ge) (λi' j' e=>absurd (bE (S.row i' j' _ e)) (ZV.mpr zq5.2.ge)) zq5.2.len (bif (aZ es (bP i j)).isSome then ep else ep.map (· +1))) aY (λa' b' hn x hx=>by
   have hx:x∈upd st.V i j row' a' b':=hx;rw [bA (λq=>hn (by rw [q.1,q.2];exact .inr ⟨rfl,QF _⟩): ¬(a'=i/\b'=j))] at hx;exact pG (Jv _) P.dg a' b' hn x hx) (λx hx=>by
   have hx:x∈upd st.V i j row' i j:=hx;rw [aY] at hx;exact R.D_mono (Qi _) (by show _<=_+(st.c+1);exact Qa (QA (J9 _ _ _)) (QE (Qi _) (Qd _ _))) (zq5.2.dg x hx)) (Q8 P.hc) (by show R.add _ (dotF (upd st.V i j row' i j) _ 0)=_;rw [aY];exact hp)
 have N':PS X i (j+1) {s' with b:=vN j,d:=vR b}:=⟨P'.rw',P'.hc,P'.dg,P'.w,P'.fin⟩;exact run (.p (za2 (Cxd P0 d) P.rw' i j (v:=.ref a) (by rw [hA];rfl))<| .c2<| .k (ovR hov)<| .c<| .p (zq5.1)<| .h (zcB (v:=.ref b) (aB (t:=t) zq2.1) (nN (i:=i) (j:=j) zq2.2.1) (Qk zq2.2.2.1 (Qk P.hc (Qk (Qm (Qa (Qd _ _) (tO O hi hj)) 1) (Q9 O.cl (by decide)))):es.length<lim))<| .s (e)<| .z (q1 _ N')) (by kernel_rfl)
end
theorem y3 {st:CS R} (hd:6<=d) (O:WOk X) (V:pO X) (hi:i<=X.u.length) (hj:j<=X.l.length) (P:PS X i j st)
  (q1: ∀s',PS X i (j+1) s'->R' .nx (wFr X (vN i) s'.b s'.d s'.e s'.f s'.k) s'.g) (q2: ∀s',PS X i (j+1) s'->R' .ct (wFr X (vN i) s'.b s'.d s'.e s'.f s'.k) s'.g):
  WSs (Cxd P0 d) cellB (wFr X (vN i) (vN j) st.d st.e st.f st.k) st.g R':=by
 cases hA:st.Ad i j with
 |none=>exact zcm hd O hi hj P hA q2
 |some a=>exact V.r.elim (λhov=>zcl hd O hi hj P V hA hov q1) λ⟨_,hov⟩=>zck hd O hi hj P V hA hov q1
end
end Tactic
namespace Tactic
open Internal
section
variable {R:Rg}{d:Nat}{h h0:MH}{Q:Val->MH->Prop}{L:Ly}{M:Mc R.α}{X:WX R}{i j aR c0:Nat}{row:List R.α}{F:R.α}{Rr R':Fl->Internal.Frame->MH->Prop}
def oO (M:Mc R.α):List R.α:=(b7 R M.arcs.length).set M.start M.first
def lK (h:MH) (M:Mc R.α):MH:=h++([.list [R.e R.zero],.list ((oO M).map R.e)]++ [.dict (some 1) [(bP 0 0,Val.ref (h.length+1))]])
theorem zJ {N:Nat} (hN:N=M.arcs.length):RW R h (lK h M) (h.length+2) N 1 (upd (λ_ _=>none) 0 0 (some (h.length+1))) (upd (λ_ _=>b7 R N) 0 0 (oO M)):=by
 subst hN;unfold lK;refine ⟨⟨_,rfl⟩,Qd _ _,⟨_,_,fJ,?_,Qi _,λi j=>?_⟩,λi j i' j' a h1 h2=>?_,λi j a h1=>?_,λi j a h1=>?_,λi j h1=>?_,λi j=>?_⟩
 ·intro p hp;rw [Qw.mp hp];exact ⟨0,0,rfl⟩
 ·rw [b0,rF]
  by_cases e:i=0/\j=0
  ·obtain ⟨rfl,rfl⟩:=e;rfl
  ·rw [bA e]
   have:(0==i && 0==j)=false:=by
    rw [JT];by_cases h3:i=0
    ·exact .inr (beq_false_of_ne λq=>e ⟨h3,q.symm⟩)
    ·exact .inl (beq_false_of_ne (JC h3))
   rw [this];rfl
 ·by_cases e1:i=0/\j=0
  ·by_cases e2:i'=0/\j'=0
   ·lia
   ·rw [bA e2] at h2;exact nomatch h2
  ·rw [bA e1] at h1;exact nomatch h1
 ·by_cases e1:i=0/\j=0
  ·obtain ⟨rfl,rfl⟩:=e1;rw [aY] at h1;cases h1;exact Qd _ _
  ·rw [bA e1] at h1;exact nomatch h1
 ·by_cases e1:i=0/\j=0
  ·obtain ⟨rfl,rfl⟩:=e1;rw [aY] at h1 ⊢;cases h1;exact fJ
  ·rw [bA e1] at h1;exact nomatch h1
 ·by_cases e1:i=0/\j=0
  ·obtain ⟨rfl,rfl⟩:=e1;rw [aY] at h1;exact nomatch h1
  ·exact bA e1
 ·by_cases e1:i=0/\j=0
  ·obtain ⟨rfl,rfl⟩:=e1;rw [aY];unfold oO;rw [QS];unfold b7;rw [Q5]
  ·rw [bA e1];unfold b7;rw [Q5]
theorem zK {p k p1 k1:Nat} (G:a9 M p1 k1) (hp:p1<=p) (hk:k1<=k):x8 R 0 0 1 p k (upd (λ_ _=>b7 R M.arcs.length) 0 0 (oO M)):=λa b _ x hx=>by
 have z: ∀ {P K:Nat},R.D P K R.zero:=R.D_mono (Qs _) (Qs _) R.D_zero;by_cases e1:a=0/\b=0
 ·obtain ⟨rfl,rfl⟩:=e1
  rw [aY] at hx;rcases J7 hx with hx|rfl
  ·rw [Jj hx];exact z
  ·exact R.D_mono (Qa hp (QA (Wr p).symm)) (Jf (Qa hk (QA (Wr k).symm))) G.fst
 ·rw [bA e1] at hx
  rw [Jj hx];exact z
theorem wF {n m:Nat}{B:Nat->Nat->Nat->R.α} (hs:M.start<M.arcs.length):pot n m B 0 0 (upd (λ_ _=>b7 R M.arcs.length) 0 0 (oO M))=R.mul M.first (B 0 0 M.start):=by
 have e:oO M=dX (b7 R M.arcs.length) M.start M.first:=by
  unfold oO dX b7;rw [J0,if_pos hs];show _=XX _ _ (R.add R.zero M.first);rw [R.zero_add]
 have zl:(b7 R M.arcs.length).length=M.arcs.length:=Q5 ..;rw [e,qS (V:=λ_ _=>b7 R M.arcs.length) (Qs _) (Qs _) (by unfold done;simp) (by rw [zl];exact hs),z8 (λ_ _=>rfl),R.add_zero]
abbrev rowL:Sm:= .fo [7] false (.call (.lit (.ty 491260897125)) [.bin .add (.call (.lit (.bi 7103854)) [.var 2]) (.lit (.int 1))]) cellB
theorem iG (n:Nat) (g:MH):Val.rng ((n:Int)+1)= .rng (n+1:Nat)/\g=g:=⟨rfl,rfl⟩
theorem u9 {a b c n:Nat} (h:1+(a+1)*(b+1)*(c+1)<n):a+1<n/\b+1<n:=by
 exact ⟨Qk (Qa (Jy (a+1) (Jt b)) (Jy ((a+1)*(b+1)) (Jt c))) (Qk (Ql _ _) h:(a+1)*(b+1)*(c+1)<n),Qk (Qa (Ys (b+1) (Jt a)) (Jy ((a+1)*(b+1)) (Jt c))) (Qk (Ql _ _) h:(a+1)*(b+1)*(c+1)<n)⟩
theorem PS.nrow {s:CS R} (P:PS X i (X.l.length+1) s):PS X (i+1) 0 {s with a:=vN i}:=by
 refine ⟨P.rw',by rw [Nat.add_zero,ZE i 1,JI];exact P.hc,λa b hn=>P.dg a b λq=>hn ?_,λhlt=>?_,λhf=>P.fin (.inl ⟨by lia,rfl⟩)⟩
 ·exact .inl (q.elim Q7 λq=>QB (QA q.1))
 ·show pot X.u.length X.l.length X.B (i+1) 0 s.V=X.W
  rw [<-oR];exact P.w (.inl (hlt.elim Xo λh=>QA h.1))
theorem zh7 {st:CS R} (hd:6<=d) (O:WOk X) (V:pO X) (hi:i<=X.u.length) (P:PS X i 0 st): ∃s',PS X (i+1) 0 s'/\exec (Cxd P0 d) rowL (wFr X (vN i) st.b st.d st.e st.f st.k) st.g=some ((.nx,wFr X s'.a s'.b s'.d s'.e s'.f s'.k),s'.g):=
 (foR (c:=Cxd P0 d) (x:=7) (n:=X.l.length+1) (e:=.call (.lit (.ty 491260897125)) [.bin .add (.call (.lit (.bi 7103854)) [.var 2]) (.lit (.int 1))]) (b:=cellB) (λs':CS R=>wFr X (vN i) s'.b s'.d s'.e s'.f s'.k) CS.g (λj=>PS X i j) st (QJ (u9 O.cl).2) rfl (by exact bK (.c3<| .z (iG X.l.length st.g)) (by kernel_rfl)) P λj s' R1 _ hj P1 T1=>y3 hd O V hi (QM hj) P1 T1.nx T1.ct).elim λs' q=>⟨{s' with a:=vN i},q.1.nrow,q.2⟩
abbrev st0 (X:WX R):CS R:=⟨lK X.h X.M,upd (λ_ _=>none) 0 0 (some (X.h.length+1)),upd (λ_ _=>b7 R X.M.arcs.length) 0 0 (oO X.M),1,none,none,none,none,none,none⟩
theorem zf1 {p k p' k':Nat}{b:Nat->R.α} (hb: ∀s,R.D p' k' (b s)): ∀ {r:List R.α}{o:Nat},(∀x∈r,R.D p k x) ->R.D (p+p') (k+k'+r.length) (dotF r b o):=by
 intro r
 induction r with
 |nil=>exact λ_=>R.D_mono (Qs _) (Qs _) R.D_zero
 |cons x r ih=>exact λh=>R.D_add (R.D_mono (Qi _) (Qd _ _) (R.D_mul (h x (.head _)) (hb _))) (ih λy hy=>h y (.tail _ hy))
theorem a9.eAtD {M:Mc R.α}{p k:Nat} (G:a9 M p k) (s:Nat):R.D p k (eAt M s):=by
 unfold eAt;cases e:M.ends[s]? with
 |none=>exact R.D_mono (Qs _) (Qs _) R.D_zero
 |some x=>exact G.ed x (Qe e)
abbrev colL:Sm:= .fo [6] false (.call (.lit (.ty 491260897125)) [.bin .add (.call (.lit (.bi 7103854)) [.var 1]) (.lit (.int 1))]) [rowL]
theorem zh9 (hd:6<=d) (O:WOk X) (V:pO X) (P:PS X 0 0 (st0 X)): ∃s',PS X (X.u.length+1) 0 s'/\exec (Cxd P0 d) colL (wFr X none none none none none none) (lK X.h X.M)=some ((.nx,wFr X s'.a s'.b s'.d s'.e s'.f s'.k),s'.g):=
 foR (c:=Cxd P0 d) (x:=6) (n:=X.u.length+1) (e:=.call (.lit (.ty 491260897125)) [.bin .add (.call (.lit (.bi 7103854)) [.var 1]) (.lit (.int 1))]) (b:=[rowL]) (λs':CS R=>wFr X s'.a s'.b s'.d s'.e s'.f s'.k) CS.g (λi=>PS X i 0) (st0 X) (QJ (u9 O.cl).1) rfl (by exact bK (.c3<| .z (iG X.u.length (lK X.h X.M))) (by kernel_rfl)) P λi s' R1 _ hi P1 T1=>by
  refine (zh7 hd O V (QM hi) P1).elim λs2 zq5=>?_;exact run (.s (zq5.2)<| .z (T1.nx s2 zq5.1)) (by kernel_rfl)
abbrev zhQ (X:WX R):Nat:=X.k*(X.u.length+X.l.length+2)+(1+(X.u.length+1)*(X.l.length+1)*(X.M.cnt+1)+X.M.arcs.length)
theorem zfV {p k n pS kS p1 k1 c C N:Nat} (h1:p1+pS<=p) (h2:k1+kS<=k) (h3:c<=C) (h4:4*(p*(n+2))+(k*(n+2)+(C+N))<=3800):
  p*(n+1)+pS+p1<=p*(n+2)/\k*(n+1)+kS+c+k1+N<=k*(n+2)+(C+N)/\4*(p*(n+1)+pS+p1)+(k*(n+1)+kS+c+k1+N)<=3800:=by
 rw [(Zb .. :p*(n+2)=p*(n+1)+p),(Zb .. :k*(n+2)=k*(n+1)+k)] at h4 ⊢;have A1:=Qa (QA (QY (p*(n+1)) pS p1)) (Qm (Qa (QA (Ju _ _)) h1) _);have A2:=Qa (QW (Qa (QA (ac4 (k*(n+1)) kS c k1)) (QE (Qm h2 _) h3)) N) (QA (QY _ _ _));exact ⟨A1,A2,Qa (QE (QG 4 A1) A2) h4⟩
theorem zh8 {s:CS R} (hd:4<=d) (O:WOk X) (P:PS X (X.u.length+1) 0 s): ∃v,bI (Cxd P0 d) (.ref X.D) nGet [bP X.u.length X.l.length] s.g s.g=some (v,s.g)/\aP (Cxd P0 d) (.top 127) [.ref X.L.m,v] s.g=some (R.e X.W,s.g)/\R.D (X.p*(X.u.length+X.l.length+2)) (zhQ X) X.W:=by
 have S:=P.rw';obtain ⟨hw,hdg⟩:=P.fin (.inr rfl);cases hA:s.Ad X.u.length X.l.length with
 |none=>
  rw [S.non _ _ hA,eH] at hw;exact ⟨.none,za2 _ S _ _ (by rw [hA];rfl),hw▸fn rfl (zdt hd (S.ism O.I) ⟨rfl,rfl⟩),hw▸R.D_mono (Qs _) (Qs _) R.D_zero⟩
 |some a=>
  have F:=zfV O.pp O.kk P.hc O.bd;have hDv:=zf1 (o:=0) (b:=eAt X.M) (λs=>O.G.eAtD s) hdg;rw [hw,S.len] at hDv;refine ⟨.ref a,za2 _ S _ _ (by rw [hA];rfl),?_,R.D_mono F.1 F.2.1 hDv⟩
  have:=fn (P:=P0) rfl (tL (Q:=λv g=>v=_/\g=_) hd (S.ism O.I) (S.row _ _ _ hA) (S.len _ _) hdg O.G.ed F.2.2 ⟨rfl,rfl⟩)
  rw [zdx (o:=0) (b:=eAt X.M) ((S.len _ _).trans O.I.lenE.symm) λs x hx=>by unfold eAt;rw [JA,hx];rfl,hw] at this;exact this
theorem zgp (eD:X.D=X.h.length+2):cQ (X.h++ [MObj.list [R.e R.zero],.list (((b7 R X.M.arcs.length).set X.M.start X.M.first).map R.e)]) (.dict (some 1) [(bP 0 0,.ref (X.h.length+1))])=some (.ref X.D,lK X.h X.M):=by
 unfold cQ lK oO;rw [Qt,eD,Qv];rfl
theorem ps0 (O:WOk X) (eD:X.D=X.h.length+2) (eW:X.W=R.mul X.M.first (X.B 0 0 X.M.start)) (hk:X.k1<=X.k) (hp:X.p1<=X.p):PS X 0 0 (st0 X):=
 ⟨by rw [eD];exact zJ rfl,Qd _ _,zK O.G hp hk,λ_=>by rw [eW];exact wF O.G.st,λe=>e.elim (λe=>nomatch e.2) λe=>nomatch e⟩
theorem pV {g:MH} (hd:7<=d) (O:WOk X) (V:pO X) (eg:g=X.h) (eD:X.D=X.h.length+2) (eW:X.W=R.mul X.M.first (X.B 0 0 X.M.start)) (hk:X.k1<=X.k) (hp:X.p1<=X.p)
  (q: ∀t,R.D (X.p*(X.u.length+X.l.length+2)) (zhQ X) (R.mul X.M.first (X.B 0 0 X.M.start)) ->Q (R.e (R.mul X.M.first (X.B 0 0 X.M.start))) (X.h++t)):WSs (Cxd P0 d) (bd_run_weight.drop 5) (some (.ref X.L.m)::some (.str X.u)::some (.str X.l)::some (.top (112+R.i))::some X.ov::nn 13) g (Internal.Fin Q):=by
 subst eg;obtain ⟨s,P,e⟩:=zh9 (Qa (by decide) hd) O V (ps0 O eD eW hk hp);refine (zh8 (d:=d) (Qa (by decide) hd) O P).elim λv zq2=>?_;have e1:=zq2.1;have e2:=zq2.2.1;refine P.rw'.pre.elim λt zq1=>?_;rw [zq1,eW] at e2;rw [zq1] at e e1;exact run (.p ((fn (P:=P0) (d:=d) (h:=X.h) rfl (za8 (Q:=λv g=>v=_/\g=_) (Qa (by decide) hd) O.I O.G.st ⟨rfl,rfl⟩)))<| .p (zgp eD)<| .s (e)<| .c2<| .p (e1)<| .p (e2)<| .z (q t (eW▸zq2.2.2))) (by kernel_rfl)
end
end Tactic
namespace Tactic
open Internal
section
variable {R:Rg}{d:Nat}{h h0:MH}{Q:Val->MH->Prop}{L:Ly}{M:Mc R.α}
def bL (u l:List Nat) (i j:Nat) (a:Ar R.α):Bool:=fit u i a.up && fit l j a.lo
def bU (B:Nat->Nat->Nat->R.α) (u l:List Nat) (i j:Nat) (xs:List (Ar R.α)):R.α:=cD (xs.map λa=>bif bL u l i j a then R.mul a.w (B (i+a.up.length) (j+a.lo.length) a.t) else R.zero)
def rJ (b:Nat->R.α) (xs:List (Ar R.α)):R.α:=cD (xs.map λa=>bif a.emp then R.mul a.w (b a.t) else R.zero)
def rP (M:Mc R.α) (B:Nat->Nat->Nat->R.α) (u l:List Nat) (i j s:Nat):R.α:=R.add (if i=u.length/\j=l.length then eAt M s else R.zero) (bU B u l i j (aAt M s))
def BH (M:Mc R.α) (u l:List Nat):Nat->Nat->Nat->Nat->R.α
 |0,_,_,_=>R.zero
 |f+1,i,j,s=>rP M (BH M u l f) u l i j s
def upE (M:Mc R.α):Prop:= ∀ (s:Nat) ys,M.arcs[s]?=some ys-> ∀a∈ys,a.emp=true->s<a.t
theorem iP {a:Ar R.α} (h:a.emp=true):a.up= []/\a.lo= []:=by
 unfold Ar.emp at h;obtain ⟨up,lo,w,t⟩:=a;cases up with
 |cons _ _=>exact nomatch h
 |nil=>
  cases lo with
  |cons _ _=>exact nomatch h
  |nil=>exact ⟨rfl,rfl⟩
theorem tW {B:Nat->Nat->Nat->R.α}{u l:List Nat}{i j:Nat}{xs:List (Ar R.α)}:bU B u l i j xs=R.add (pM B u l i j xs) (rJ (B i j) xs):=by
 induction xs with
 |nil=>exact (R.zero_add _).symm
 |cons a xs ih=>
  unfold bU pM rJ at ih ⊢;rw [QC,QC,QC,aG,aG,aG,ih];cases he:a.emp with
  |true=>
   have zq9:=iP he;rw [(by unfold i7;rw [he];rfl:i7 u l i j a=false),(by unfold bL;rw [zq9.1,zq9.2];rfl:bL u l i j a=true),zq9.1,zq9.2,cond_true,cond_true,cond_false,R.zero_add,R.swap];rfl
  |false=>
   rw [(by unfold i7 bL;rw [he];rfl:i7 u l i j a=bL u l i j a),cond_false,R.zero_add,R.add_assoc]
theorem lV {B:Nat->Nat->Nat->R.α}{u l:List Nat}{i j s:Nat}:rP M B u l i j s=R.add (rO M B u l i j s) (rJ (B i j) (aAt M s)):=by
 unfold rP rO;rw [tW,R.add_assoc]
theorem xT {b:Nat->R.α}{xs:List (Ar R.α)} (h: ∀a∈xs,a.emp=false):rJ b xs=R.zero:=by
 unfold rJ
 induction xs with
 |nil=>rfl
 |cons a xs ih=>rw [QC,aG,h a (.head _),ih λa ha=>h a (.tail _ ha)];exact R.zero_add _
theorem l4 {B B':Nat->Nat->Nat->R.α}{u l:List Nat}{i j:Nat}{xs:List (Ar R.α)} (h: ∀a∈xs,bL u l i j a=true->B (i+a.up.length) (j+a.lo.length) a.t=B' (i+a.up.length) (j+a.lo.length) a.t):bU B u l i j xs=bU B' u l i j xs:=by
 refine b8 λa ha=>?_;cases hh:bL u l i j a with
 |true=>rw [cond_true,cond_true,h a ha hh]
 |false=>rfl
theorem cJ {B:Nat->Nat->Nat->R.α}{u l:List Nat}{i j:Nat}{xs:List (Ar R.α)}{a:Ar R.α}:bU B u l i j (a::xs)=R.add (bif bL u l i j a then R.mul a.w (B (i+a.up.length) (j+a.lo.length) a.t) else R.zero) (bU B u l i j xs):=rfl
theorem cN {s:Nat}{a:Ar R.α} (h:a∈aAt M s): ∃ys,M.arcs[s]?=some ys/\ys∈M.arcs/\a∈ys:=by
 unfold aAt at h;cases hs:M.arcs[s]? with
 |none=>rw [hs] at h;exact absurd h Qr
 |some ys=>rw [hs] at h;exact ⟨ys,rfl,Qe hs,h⟩
structure fG (M:Mc R.α):Prop where
 l: ∀ys∈M.arcs,∀a∈ys,lab a.up/\lab a.lo
 t: ∀ys∈M.arcs,∀a∈ys,a.t<M.arcs.length
 e:upE M
def gQ (M:Mc R.α) (u l:List Nat) (i j s:Nat):Nat:=((u.length-i)+(l.length-j))*(M.arcs.length+1)+(M.arcs.length-s)
theorem j7 {u l:List Nat}{i j s:Nat}{a:Ar R.α} (H:fG M) (hi:i<=u.length) (hj:j<=l.length) (ha:a∈aAt M s) (hh:bL u l i j a=true):i+a.up.length<=u.length/\j+a.lo.length<=l.length/\gQ M u l (i+a.up.length) (j+a.lo.length) a.t<gQ M u l i j s:=by
 refine (cN ha).elim λys zq8=>?_;have zq7:=H.l ys zq8.2.1 a zq8.2.2;have f1:=(pC zq7.1 (Qb.mp hh).1 hi).1;have f2:=(pC zq7.2 (Qb.mp hh).2 hj).1;refine ⟨f1,f2,?_⟩;have hsl:=aJ zq8.1;unfold gQ;cases he:a.emp with
 |true=>
  have:=H.e s ys zq8.1 a zq8.2.2 he
  rw [(iP he).1,(iP he).2];show (u.length-i+(l.length-j))*(M.arcs.length+1)+(M.arcs.length-a.t)<_;exact QK (Nat.sub_lt_sub_left hsl this) _
 |false=>
  have h5:=vG he;have h6:((u.length-(i+a.up.length))+(l.length-(j+a.lo.length))+1)*(M.arcs.length+1)<=((u.length-i)+(l.length-j))*(M.arcs.length+1):=Jz _ (Qa (Qm h5 _) (QA ((YM _ _ _ _).trans (congr (congrArg _ (X3 .. ▸Kd (YB f1))) (X3 .. ▸Kd (YB f2))))));rw [ZE,JI] at h6;exact Qf (QK (QB (Yn _ _)) _) (Qa h6 (Qd _ _))
theorem pT {u l:List Nat} (H:fG M): ∀ {f f' i j s:Nat},i<=u.length->j<=l.length->gQ M u l i j s<f->gQ M u l i j s<f'->BH M u l f i j s=BH M u l f' i j s:=by
 intro f
 induction f with
 |zero=>exact λ_ _ h=>absurd h (QZ _)
 |succ f ih=>
  intro f' i j s hi hj h1 h2;cases f' with
  |zero=>exact absurd h2 (QZ _)
  |succ f'=>
   show R.add _ (bU (BH M u l f) u l i j (aAt M s))=R.add _ (bU (BH M u l f') u l i j (aAt M s))
   congr 1
   refine l4 λa ha hh=>?_;have zq5:=j7 H hi hj ha hh;exact ih zq5.1 zq5.2.1 (Qf zq5.2.2 (QM h1)) (Qf zq5.2.2 (QM h2))
def Bv (M:Mc R.α) (u l:List Nat) (i j s:Nat):R.α:=BH M u l (gQ M u l i j s+1) i j s
theorem mI {u l:List Nat} (H:fG M) {i j s:Nat} (hi:i<=u.length) (hj:j<=l.length):Bv M u l i j s=rP M (Bv M u l) u l i j s:=by
 show R.add _ (bU (BH M u l (gQ M u l i j s)) u l i j (aAt M s))=R.add _ (bU (Bv M u l) u l i j (aAt M s))
 congr 1
 refine l4 λa ha hh=>?_;have zq4:=j7 H hi hj ha hh;exact pT H zq4.1 zq4.2.1 zq4.2.2 (QF _)
section
variable {ks:List Nat}{mb1 mb2:List Bool}{xss:List (List Nat)} (TB:pN M ks mb1 mb2 xss) (hE:M.ends.length=M.arcs.length)
include TB hE
theorem zbl {k:Nat}{a:Ar R.α} (hk:mb2[k]?≠some true) (ha:a∈aAt M k) (ht:a.t<M.arcs.length):mb2[a.t]?≠some true:=λq=>hk (by
 refine (cN ha).elim λys zq3=>?_;have hx:=Qc (l:=xss) (i:=a.t) (by rw [TB.b2.len];exact ht);refine TB.c2 _ _ q hx k ((TB.b2.mem _ _ hx k).mpr ⟨ys,zq3.1,.inl ⟨aJ zq3.1,a,zq3.2.2,rfl⟩⟩))
theorem zbm {k:Nat} (hk:mb2[k]?≠some true):eAt M k=R.zero:=by
 by_cases hkn:k<M.arcs.length
 ·cases he:iO M k with
  |true=>exact absurd (TB.m2.first k (KI.mpr ⟨Zm.mpr hkn,he⟩)) hk
  |false=>
   unfold iO at he;exact dT (Bool.not_inj (y:=true) he)
 ·unfold eAt
  rw [Jo (Qa (QA hE) (Q0 hkn))];rfl
theorem nP {u l:List Nat} (ht: ∀ys∈M.arcs,∀a∈ys,a.t<M.arcs.length): ∀ {f i j k:Nat},mb2[k]?≠some true->BH M u l f i j k=R.zero:=by
 intro f
 induction f with
 |zero=>exact λ_=>rfl
 |succ f ih=>
  intro i j k hk;show R.add (if i=u.length/\j=l.length then eAt M k else R.zero) (bU (BH M u l f) u l i j (aAt M k))=_;have e1:(if i=u.length/\j=l.length then eAt M k else R.zero)=R.zero:=by rw [zbm TB hE hk];split<;>rfl
  rw [e1,R.zero_add]
  have: ∀xs:List (Ar R.α),(∀a∈xs,a∈aAt M k) ->bU (BH M u l f) u l i j xs=R.zero:=λxs=>by
   induction xs with
   |nil=>exact λ_=>rfl
   |cons a xs ihx=>
    intro h;refine (cN (h a (.head _))).elim λys zq2=>?_;rw [cJ,ihx λb hb=>h b (.tail _ hb),ih (zbl TB hE hk (h a (.head _)) (ht ys zq2.2.1 a zq2.2.2)),R.mul_zero];cases bL u l i j a<;>exact R.zero_add _
  exact this _ λ_ h=>h
theorem vZ {u l:List Nat}{T:Mc R.α} (nk:ks.Nodup) (ht: ∀ys∈M.arcs,∀a∈ys,a.t<M.arcs.length) (ha:T.arcs=ks.map λk=>dO ks (aAt M k)) (he:T.ends=ks.map (eAt M)): ∀ {f i j k:Nat},k∈ks->BH T u l f i j (ks.idxOf k)=BH M u l f i j k:=by
 intro f
 induction f with
 |zero=>exact λ_=>rfl
 |succ f ih=>
  intro i j k hk;have hix:=JE.mpr hk;have hge:ks[ks.idxOf k]=k:=Xj hix;have e1:eAt T (ks.idxOf k)=eAt M k:=by
   unfold eAt;rw [he,Qu,Qc hix,hge];rfl
  have e2:aAt T (ks.idxOf k)=dO ks (aAt M k):=by
   unfold aAt;rw [ha,Qu,Qc hix,hge];rfl
  show R.add (if i=u.length/\j=l.length then eAt T (ks.idxOf k) else R.zero) (bU (BH T u l f) u l i j (aAt T (ks.idxOf k)))=R.add _ (bU (BH M u l f) u l i j (aAt M k));rw [e1,e2]
  congr 1
  have hkp:=hk;rw [TB.ks] at hkp;have hp:=Qb.mp (j4 hkp).2;have m1k:mb1[k]?=some true:=by
   cases hm:mb1[k]? with
   |none=>rw [hm] at hp;exact nomatch hp.1
   |some b=>rw [hm] at hp;exact congrArg some hp.1
  have: ∀xs:List (Ar R.α),(∀a∈xs,a∈aAt M k) ->bU (BH T u l f) u l i j (dO ks xs)=bU (BH M u l f) u l i j xs:=λxs=>by
   induction xs with
   |nil=>exact λ_=>rfl
   |cons a xs ihx=>
    intro h;have ihx:=ihx λb hb=>h b (.tail _ hb);refine (cN (h a (.head _))).elim λys zq1=>?_;unfold dO at ihx ⊢;rw [Zh];by_cases hin:a.t∈ks
    ·rw [if_pos hin]
     rw [cJ,cJ,ihx];show R.add (bif bL u l i j a then R.mul a.w (BH T u l f (i+a.up.length) (j+a.lo.length) (ks.idxOf a.t)) else R.zero) _=_;rw [ih hin]
    ·rw [if_neg hin]
     have hd2:mb2[a.t]?≠some true:=λq=>hin (by
      rw [TB.ks];exact KI.mpr ⟨Zm.mpr (ht ys zq1.2.1 a zq1.2.2),by rw [(TB.c1 k (ys.map Ar.t) m1k (by unfold onw;rw [Qu,zq1.1];rfl) a.t (QI.mpr ⟨a,zq1.2.2,rfl⟩):mb1[a.t]?=some true),q];rfl⟩)
     rw [cJ,nP TB hE ht hd2,R.mul_zero];have e0:(bif bL u l i j a then R.zero else R.zero)=R.zero:=by cases bL u l i j a<;>rfl
     rw [e0,R.zero_add];exact ihx
  exact this _ λ_ h=>h
end
end
end Tactic
namespace Tactic
open Internal
section
variable {R:Rg}{d:Nat}{h h0:MH}{Q:Val->MH->Prop}{L:Ly}{M:Mc R.α}
theorem sI {l:List Nat}{p:Nat->Bool}{f:Nat->Nat}:((l.filter p).map f).sum<=(l.map f).sum:=by
 induction l with
 |nil=>exact Qi _
 |cons x l ih=>
  rw [List.filter_cons,QC,Z7];cases p x
  ·show ((l.filter p).map f).sum<=_;exact Kj ih
  ·show (((x::l.filter p)).map f).sum<=_
   rw [QC,Z7];exact Qm ih _
theorem arcs_range:M.arcs=(Q3 M.arcs.length).map (aAt M):=by
 refine gK (by rw [Qh,Q6]) λi y hy=>?_;rw [Qu,JF (aJ hy)];show some (M.arcs[i]?.getD [])=_;rw [hy];rfl
theorem v5 {ks:List Nat}{xs:List (Ar R.α)}:(dO ks xs).length<=xs.length:=Yb ..
theorem iZ {ks:List Nat}{xs:List (Ar R.α)}{a:Ar R.α} (h:a∈dO ks xs): ∃b∈xs,b.t∈ks/\a= {b with t:=ks.idxOf b.t}:=by
 refine (List.mem_filterMap.mp h).elim λb zq16=>?_;have e:=zq16.2;by_cases hk:b.t∈ks
 ·rw [if_pos hk] at e;exact ⟨b,zq16.1,hk,(Qy.inj e).symm⟩
 ·rw [if_neg hk] at e;exact nomatch e
theorem ze9 {l:List Nat}{f g:Nat->Nat} (h: ∀x,f x<=g x):(l.map f).sum<=(l.map g).sum:=by
 induction l with
 |nil=>exact Qi _
 |cons x l ih=>rw [QC,QC,Z7,Z7];have:=h x;exact QE this ih
theorem a9.lab {p k:Nat} (G:a9 M p k) (H:upE M):fG M:=⟨λys hy a ha=>⟨(G.arc ys hy a ha).2.1,(G.arc ys hy a ha).2.2.1⟩,λys hy a ha=>(G.arc ys hy a ha).1,H⟩
theorem sW {p:Nat->Bool}{n i j:Nat}{a b:Nat} (ha:(dA p n)[i]?=some a) (hb:(dA p n)[j]?=some b) (h:a<b):i<j:=by
 have pw:(dA p n).Pairwise (· < ·):=List.Pairwise.filter _ List.pairwise_lt_range;obtain ⟨h1,rfl⟩:=Qn.mp ha;obtain ⟨h2,rfl⟩:=Qn.mp hb;refine Xx λhle=>?_;rcases K2 hle with hl|he
 ·exact Nat.lt_asymm h (List.pairwise_iff_getElem.mp pw _ _ h2 h1 hl)
 ·subst he;exact Q4 _ h
structure zhV (M T:Mc R.α) (p k:Nat):Prop where
 g:a9 T p k
 cnt:T.cnt<=M.cnt
 len:T.arcs.length<=M.arcs.length
 up:upE M->upE T
 no:nD M->nD T
theorem v3 {p k:Nat}{ks:List Nat}{mb1 mb2:List Bool}{xss:List (List Nat)}{T:Mc R.α}{g:MH}{L':Ly} (I:IsM R h L M) (G:a9 M p k) (TB:pN M ks mb1 mb2 xss) (TR:fF M ks T) (J:IsM R g L' T):zhV M T p k:=by
 have hks: ∀x∈ks,x<M.arcs.length:=λx hx=>by rw [TB.ks] at hx;exact (j4 hx).1
 have hkl:ks.length<=M.arcs.length:=by rw [TB.ks];exact lB
 have hst:=G.st;cases TR with
 |full h1 h2 ha he hs hf=>
  have hal:T.arcs.length=ks.length:=by rw [ha,Qh]
  have hcnt:T.cnt<=M.cnt:=by
   rw [<-J.ct,<-I.ct,ha,ZJ];have e:(M.arcs.map JW)=(Q3 M.arcs.length).map (λk=>(aAt M k).length):=by
    conv=>lhs;rw [arcs_range (M:=M)]
    rw [ZJ];rfl
   rw [e,TB.ks];exact Qa (ze9 λx=>v5) sI
  refine ⟨⟨by rw [hal,hs];exact JE.mpr h1,λys hy a hay=>?_,hf▸G.fst,λx hx=>?_,G.bd,by have:=G.n;exact Qa (QA hal) (Qa hkl this),Qa hcnt G.c⟩,hcnt,Qa (QA hal) hkl,λH s ys hys a hay hae=>?_,λhE=>?_⟩
  ·rw [ha] at hy
   refine (QI.mp hy).elim λk' zq13=>?_;obtain rfl:=zq13.2;refine (iZ hay).elim λb zq12=>?_;obtain rfl:=zq12.2.2;refine (cN zq12.1).elim λzs zq11=>?_;have zq10:=G.arc zs zq11.2.1 b zq11.2.2;exact ⟨by rw [hal];exact JE.mpr zq12.2.1,zq10.2.1,zq10.2.2.1,zq10.2.2.2.1,zq10.2.2.2.2⟩
  ·rw [he] at hx
   refine (QI.mp hx).elim λk' zq9=>?_;obtain rfl:=zq9.2;unfold eAt;rw [Qc (by rw [I.lenE];exact (hks k' zq9.1):k'<M.ends.length)];exact G.ed _ (Jk (by rw [I.lenE];exact (hks k' zq9.1):k'<M.ends.length))
  ·rw [ha,Qu] at hys
   obtain ⟨k',hk',rfl⟩:=ms hys;obtain ⟨b,hb,hbt,rfl⟩:=iZ hay;refine (cN hb).elim λzs zq6=>?_;have hlt:=H k' zs zq6.1 b zq6.2.2 hae;have hge:ks[ks.idxOf b.t]?=some b.t:=by rw [Qc (JE.mpr hbt),Xj (JE.mpr hbt)]
   rw [TB.ks] at hk' hge;show s<ks.idxOf b.t;rw [TB.ks];exact sW hk' hge hlt
  ·unfold nD
   refine ZS.mpr λys hy=>?_;rw [ha] at hy;obtain ⟨k',hk',rfl⟩:=QI.mp hy;intro q;obtain ⟨a,hay,he⟩:=ZA.mp q;obtain ⟨b,hb,hbt,rfl⟩:=iZ hay;refine (cN hb).elim λzs zq2=>?_;exact absurd (ZA.mpr ⟨b,zq2.2.2,he⟩) (ZS.mp hE zs zq2.2.1)
 |bare h1 ha he hs hf=>
  have hcnt:T.cnt=0:=by rw [<-J.ct,ha];rfl
  refine ⟨⟨by rw [ha,hs];exact Nat.zero_lt_one,λys hy a hay=>?_,hf▸R.D_mono (Qs _) (Qs _) R.D_one,λx hx=>?_,G.bd,by rw [ha];show 1<=300;decide,Qa (QA hcnt) (Qs _)⟩,Qa (QA hcnt) (Qs _),by rw [ha];show 1<=_;exact Qa (Ql _ _) (QT hst),λ_ s ys hys a hay _=>?_,λ_=>by unfold nD;rw [ha];rfl⟩
  ·rw [ha] at hy
   cases Qw.mp hy;exact absurd hay Qr
  ·rw [he] at hx
   cases Qw.mp hx;exact R.D_mono (Qs _) (Qs _) R.D_zero
  ·rw [ha] at hys
   cases Qw.mp (Qe hys);exact absurd hay Qr
theorem pZ {p k:Nat}{u l:List Nat}{ks:List Nat}{mb1 mb2:List Bool}{xss:List (List Nat)}{T:Mc R.α} (I:IsM R h L M) (G:a9 M p k) (TB:pN M ks mb1 mb2 xss) (TR:fF M ks T) (HM:fG M) (HT:fG T):R.mul T.first (Bv T u l 0 0 T.start)=R.mul M.first (Bv M u l 0 0 M.start):=by
 have ht: ∀ys∈M.arcs,∀a∈ys,a.t<M.arcs.length:=λys hy a ha=>(G.arc ys hy a ha).1;have nk:ks.Nodup:=by rw [TB.ks];exact u1
 cases TR with
 |full h1 h2 ha he hs hf=>
  rw [hs,hf];have eM:Bv M u l 0 0 M.start=BH M u l (gQ M u l 0 0 M.start+gQ T u l 0 0 (ks.idxOf M.start)+1) 0 0 M.start:=pT HM (Qs _) (Qs _) (QF _) (QB (Qd _ _));have eT:Bv T u l 0 0 (ks.idxOf M.start)=BH T u l (gQ M u l 0 0 M.start+gQ T u l 0 0 (ks.idxOf M.start)+1) 0 0 (ks.idxOf M.start):=pT HT (Qs _) (Qs _) (QF _) (QB (Ql _ _));rw [eM,eT,(vZ TB I.lenE nk ht ha he h1: ∀ {f:Nat},BH T u l f 0 0 (ks.idxOf M.start)=BH M u l f 0 0 M.start)]
 |bare h1 ha he hs hf=>
  have e1:Bv T u l 0 0 T.start=R.zero:=by
   unfold Bv;show R.add (if 0=u.length/\0=l.length then eAt T T.start else R.zero) (bU (BH T u l _) u l 0 0 (aAt T T.start))=_;have e2:eAt T T.start=R.zero:=by unfold eAt;rw [he,hs];rfl
   have e3:aAt T T.start= []:=by unfold aAt;rw [ha,hs];rfl
   rw [e2,e3]
   have:(if 0=u.length/\0=l.length then R.zero else R.zero)=R.zero:=by split<;>rfl
   rw [this,R.zero_add];rfl
  rw [e1,R.mul_zero];rcases h1 with h1|h1
  ·have hd2:mb2[M.start]?≠some true:=λq=>h1 (by
    rw [TB.ks];exact KI.mpr ⟨Zm.mpr G.st,by rw [TB.m1.first M.start (.head _),q];rfl⟩)
   unfold Bv;rw [nP TB I.lenE ht hd2,R.mul_zero]
  ·rw [h1,R.zero_mul]
theorem xG (hE:nD M) {s:Nat}{a:Ar R.α} (h:a∈aAt M s):a.emp=false:=by
 refine (cN h).elim λys zq1=>?_
 have:=ZS.mp hE ys zq1.2.1
 cases he:a.emp with
 |false=>rfl
 |true=>exact absurd (ZA.mpr ⟨a,zq1.2.2,he⟩) this
abbrev wX (h:MH) (L:Ly) (M:Mc R.α) (u l:List Nat) (ov:Val) (p k p1 k1 pS kS:Nat):WX R:=⟨h,L,M,u,l,h.length+2,ov,p,k,p1,k1,pS,kS,Bv M u l,R.mul M.first (Bv M u l 0 0 M.start)⟩
end
end Tactic
namespace Tactic
open Internal
section
variable {R:Rg}{d:Nat}{h h0:MH}{Q:Val->MH->Prop}
abbrev DR (R:Rg):=List (Nat×R.α)
def bC (r:DR R):List (Val×Val):=r.map λp=>(Val.int (p.1:Int),R.e p.2)
def rget:DR R->Nat->R.α
 | [],_=>R.zero
 |p::t,j=>if p.1=j then p.2 else rget t j
def rput:DR R->Nat->R.α->DR R
 | [],j,v=> [(j,v)]
 |p::t,j,v=>if p.1=j then (j,v)::t else p::rput t j v
theorem cT {p:Nat×R.α}{t:DR R}{j:Nat}:rget (p::t) j=if p.1=j then p.2 else rget t j:=rfl
theorem dM {p:Nat×R.α}{t:DR R}{j:Nat}{v:R.α}:rput (p::t) j v=if p.1=j then (j,v)::t else p::rput t j v:=rfl
def aI (r:DR R):List Nat:=r.map (·.1)
def b9 (r:DR R) (b:Nat->R.α):R.α:=cD (r.map λp=>R.mul p.2 (b p.1))
theorem zaR {a b:Nat}:kEq (.int (a:Int)) (.int (b:Int))=(a==b):=by
 show ((sD [] (.int (a:Int)) (.int (b:Int))).getD false)=_;have e:sD [] (.int (a:Int)) (.int (b:Int))=some ((a:Int)==(b:Int)):=iA (h:=[]);rw [e];show ((a:Int)==(b:Int))=(a==b);rw [Zu,beq_iff_eq,beq_iff_eq];lia
theorem gM {r:DR R}{j:Nat}:aM (bC r) (.int (j:Int))=true:=by
 cases r with
 |nil=>rfl
 |cons p t=>rfl
theorem iQ {r:DR R}{j:Nat}:aZ (bC r) (.int (j:Int))=if j∈aI r then some (R.e (rget r j)) else none:=by
 induction r with
 |nil=>rfl
 |cons p t ih=>
  show aZ ((Val.int (p.1:Int),R.e p.2)::bC t) _=_;rw [b0,zaR,ih];rw [cT];unfold aI;by_cases h:p.1=j
  ·rw [beq_iff_eq.mpr h,cond_true,if_pos (by rw [QC,h];exact .head _),if_pos h]
  ·rw [beq_false_of_ne h,cond_false,if_neg h]
   by_cases h2:j∈t.map (·.1)
   ·rw [if_pos h2,if_pos (.tail _ h2)]
   ·rw [if_neg h2]
    exact (if_neg λq=>(QH.mp q).elim (λe=>h e.symm) h2).symm
theorem xX {r:DR R}{j:Nat}{v:Val} (h:j∉aI r):((bC r).map λp=>bif kEq p.1 (.int (j:Int)) then (p.1,v) else p)=bC r:=by
 induction r with
 |nil=>rfl
 |cons p t ih=>
  show (bif kEq (Val.int (p.1:Int)) (.int (j:Int)) then _ else _)::(bC t).map _=_;rw [zaR,beq_false_of_ne λe=>h (by rw [<-e];exact .head _),ih λq=>h (.tail _ q)];rfl
theorem zbi {r:DR R}{j:Nat}{v:R.α} (nd:(aI r).Nodup):dS (bC r) (.int (j:Int)) (R.e v)=bC (rput r j v):=by
 unfold dS;rw [iQ];by_cases h:j∈aI r
 ·rw [if_pos h,KZ,cond_true]
  induction r with
  |nil=>exact absurd h Qr
  |cons p t ih=>
   show (bif kEq (Val.int (p.1:Int)) (.int (j:Int)) then _ else _)::(bC t).map _=_;rw [zaR];rw [dM];by_cases e:p.1=j
   ·rw [beq_iff_eq.mpr e,cond_true,if_pos e,xX (e▸(Qx.mp nd).1)]
    show (Val.int (p.1:Int),R.e v)::bC t=(Val.int (j:Int),R.e v)::bC t;rw [e]
   ·rw [beq_false_of_ne e,cond_false,if_neg e]
    rw [ih (Qx.mp nd).2 ((QH.mp h).elim (λq=>absurd q.symm e) id:j∈aI t)];rfl
 ·rw [if_neg h,K1,cond_false]
  induction r with
  |nil=>rfl
  |cons p t ih=>
   rw [dM];rw [if_neg (λe=>h (by rw [<-e];exact .head _): ¬p.1=j)];show (Val.int (p.1:Int),R.e p.2)::(bC t++ [(Val.int (j:Int),R.e v)])=_;rw [ih (Qx.mp nd).2 λq=>h (.tail _ q)];rfl
theorem eA {r:DR R}{j:Nat}{v:R.α}: ∀x,x∈aI (rput r j v) ↔ x∈aI r\/x=j:=by
 induction r with
 |nil=>intro x;show x∈ [j] ↔ _;rw [Qw];exact ⟨.inr,λh=>h.elim (λh=>absurd h Qr) id⟩
 |cons p t ih=>
  intro x;rw [dM];by_cases e:p.1=j
  ·rw [if_pos e]
   show x∈j::aI t ↔ x∈p.1::aI t\/x=j;rw [e,QH];exact ⟨λh=> .inl h,λh=>h.elim id .inl⟩
  ·rw [if_neg e]
   show x∈p.1::aI (rput t j v) ↔ x∈p.1::aI t\/x=j;rw [QH,QH,ih,or_assoc]
theorem uV {r:DR R}{j:Nat}{v:R.α} (nd:(aI r).Nodup):(aI (rput r j v)).Nodup:=by
 induction r with
 |nil=>exact Qx.mpr ⟨Qr,.nil⟩
 |cons p t ih=>
  have nd:=Qx.mp nd;rw [dM];by_cases e:p.1=j
  ·rw [if_pos e];exact Qx.mpr ⟨e▸nd.1,nd.2⟩
  ·rw [if_neg e]
   exact Qx.mpr ⟨λq=>((eA _).mp q).elim nd.1 e,ih nd.2⟩
theorem kU {r:DR R}{j:Nat}{v:R.α}{q:Nat×R.α} (h:q∈rput r j v):q∈r\/q=(j,v):=by
 induction r with
 |nil=>exact .inr (Qw.mp h)
 |cons p t ih=>
  rw [dM] at h;by_cases e:p.1=j
  ·rw [if_pos e] at h
   exact (QH.mp h).elim .inr λh=> .inl (.tail _ h)
  ·rw [if_neg e] at h
   rcases QH.mp h with rfl|h
   ·exact .inl (.head _)
   ·exact (ih h).imp (.tail _) id
theorem iF {r:DR R}{j:Nat} (h:j∈aI r):(j,rget r j)∈r:=by
 induction r with
 |nil=>exact absurd h Qr
 |cons p t ih=>
  rw [cT];by_cases e:p.1=j
  ·rw [if_pos e,<-e];exact .head _
  ·rw [if_neg e];exact .tail _ (ih ((QH.mp h).elim (λq=>absurd q.symm e) id))
theorem gD {r:DR R}{j:Nat} (h:j∉aI r):rget r j=R.zero:=by
 induction r with
 |nil=>rfl
 |cons p t ih=>
  rw [cT];rw [if_neg λe=>h (by rw [<-e];exact .head _),ih λq=>h (.tail _ q)]
theorem z5 {r:DR R}{j:Nat}{w:R.α}{b:Nat->R.α}:b9 (rput r j (R.add (rget r j) w)) b=R.add (R.mul w (b j)) (b9 r b):=by
 unfold b9
 induction r with
 |nil=>show R.add (R.mul (R.add R.zero w) (b j)) R.zero=R.add (R.mul w (b j)) R.zero;rw [R.zero_add]
 |cons p t ih=>
  rw [dM,cT];by_cases e:p.1=j
  ·rw [if_pos e,if_pos e,QC,QC,aG,aG,e,R.add_mul,R.add_assoc,R.swap]
  ·rw [if_neg e,if_neg e,QC,QC,aG,aG,ih,R.swap]
def cZ (r:DR R) (j:Nat) (w:R.α):DR R:= @ite _ (w=R.zero) (R.deq _ _) r (rput r j (R.add (rget r j) w))
theorem lA {r:DR R}{j:Nat}{w:R.α}{b:Nat->R.α}:b9 (cZ r j w) b=R.add (R.mul w (b j)) (b9 r b):=by
 unfold cZ;by_cases h:w=R.zero
 ·rw [if_pos h,h,R.zero_mul,R.zero_add]
 ·rw [if_neg h,z5]
structure eK (n P K:Nat) (r:DR R):Prop where
 nd:(aI r).Nodup
 lt: ∀x∈aI r,x<n
 dg: ∀p∈r,R.D P K p.2
theorem eK.get {n P K:Nat}{r:DR R} (H:eK n P K r) (j:Nat):R.D P K (rget r j):=by
 by_cases h:j∈aI r
 ·exact H.dg _ (iF h)
 ·rw [gD h];exact R.D_mono (Qs _) (Qs _) R.D_zero
theorem u0 {n P K j:Nat}{r:DR R}{w:R.α} (H:eK n P K r) (hj:j<n) (hw:R.D P K w):eK n P (K+1) (cZ r j w):=by
 unfold cZ;by_cases h:w=R.zero
 ·rw [if_pos h];exact ⟨H.nd,H.lt,λp hp=>R.D_mono (Qi _) (Jv _) (H.dg p hp)⟩
 ·rw [if_neg h]
  refine ⟨uV H.nd,λx hx=>((eA x).mp hx).elim (H.lt x) λe=>e▸hj,λp hp=>?_⟩;rcases kU hp with hp|rfl
  ·exact R.D_mono (Qi _) (Jv _) (H.dg p hp)
  ·exact R.D_add (H.get j) hw
theorem eK.len {n P K:Nat}{r:DR R} (H:eK n P K r):r.length<=n:=by
 have:=H.nd.length_le_of_subset (l₂:=Q3 n) λx hx=>Zm.mpr (H.lt x hx)
 rwa [Q6,show (aI r).length=r.length from Qh ..] at this
theorem zej (z:Cx) {a:Nat}{ep:Option Nat}{r:DR R} (hr:h[a]?=some (.dict ep (bC r))) (j:Nat):bI z (.ref a) nGet [.int j,R.e R.zero] h h=some (R.e (rget r j),h):=by
 refine W.eq (zeM hr hr gM ⟨?_,rfl⟩);rw [iQ];by_cases h:j∈aI r
 ·rw [if_pos h];rfl
 ·rw [if_neg h,gD h];rfl
theorem zig {a j:Nat}{ep:Option Nat}{r:DR R} (v:R.α) (hr:h[a]?=some (.dict ep (bC r))) (nd:(aI r).Nodup) (hl:r.length<=1000): ∃ep',cS h (.ref a) (.int j) (R.e v)=some (h.set a (.dict ep' (bC (rput r j v)))):=
 ⟨_,(zcB hr gM (by unfold bC;rw [Qh];exact Qk hl (by decide))).trans (by rw [zbi nd])⟩
theorem oL {n P K j a:Nat}{ep:Option Nat}{r:DR R}{w:R.α} (hd:4<=d) (hr:h[a]?=some (.dict ep (bC r))) (H:eK n P K r) (hn:n<=1000) (hw:R.D P K w) (hl:4*P+K<=3800): ∃ep',aP (Cxd P0 d) (.top 104) [.top (112+R.i),.ref a,.int (j:Int),R.e w] h=some (.none,h.set a (.dict ep' (bC (cZ r j w)))):=by
 have hz:c7 .ne (R.e w) (R.e R.zero) h=some (!@decide (w=R.zero) (R.deq _ _)):=Internal.ne_of (R.veq_ok h w R.zero);obtain ⟨ep',e⟩: ∃ep',WF P0 d 104 [.top (112+R.i),.ref a,.int (j:Int),R.e w] h λv g=>v= .none/\g=h.set a (.dict ep' (bC (cZ r j w))):=by
  cases hq:R.deq w R.zero with
  |isTrue q=>
   have e:h.set a (.dict ep (bC (cZ r j w)))=h:=by
    refine (Qn.mp hr).elim λhl zq2=>?_;unfold cZ;rw [if_pos q,<-zq2,Kn]
   refine ⟨ep,bD (K:=3) hd (some (.top (112+R.i))::some (.ref a)::some (.int (j:Int))::some (R.e w)::nn 6) bd_stars_add (by kernel_rfl) λd' h'=>?_⟩;rw [e];have hf:(!@decide (w=R.zero) (R.deq _ _))=false:=by rw [R.yes q];rfl
   exact run (.w (R.no)<| .b (hz)<| .f (hf)<| .z (two .none h)) (by kernel_rfl)
  |isFalse q=>
   obtain ⟨ep',e⟩:=zig (j:=j) (R.add (rget r j) w) hr H.nd (Qa H.len hn);refine ⟨ep',bD (K:=3) hd (some (.top (112+R.i))::some (.ref a)::some (.int (j:Int))::some (R.e w)::nn 6) bd_stars_add (by kernel_rfl) λd' h'=>?_⟩;rw [(by unfold cZ;rw [if_neg q]:cZ r j w=rput r j (R.add (rget r j) w))];exact run (.w (R.no)<| .b (hz)<| .t ((by rw [R.not q];rfl:(!@decide (w=R.zero) (R.deq _ _))=true))<| .w (R.no)<| .p (zej (Cxd P0 d') hr j)<| .q (R.pl h' (H.get j) hw hl)<| .h (e)<| .z (two .none (h.set a (.dict ep' (bC (rput r j (R.add (rget r j) w))))))) (by kernel_rfl)
 exact ⟨ep',fn rfl e⟩
end
end Tactic
namespace Tactic
open Internal
section
variable {R:Rg}
theorem nA {r:DR R}{b:Nat->R.α}{l:List Nat} (hp:l.Perm (aI r)) (nd:(aI r).Nodup):cD (l.map λj=>R.mul (rget r j) (b j))=b9 r b:=by
 have sp: ∀ {x y:List R.α},x.Perm y->cD x=cD y:=λ{x y} h=>by
  induction h with
  |nil=>rfl
  |cons a _ ih=>rw [aG,aG,ih]
  |swap a b l=>rw [aG,aG,aG,aG,R.swap]
  |trans _ _ h1 h2=>exact h1.trans h2
 rw [sp (hp.map _)];unfold b9 aI;rw [ZJ]
 clear hp l
 induction r with
 |nil=>rfl
 |cons p t ih=>
  have nd:=Qx.mp nd;rw [QC,QC,aG,aG,<-ih nd.2];show R.add (R.mul (rget (p::t) p.1) (b p.1)) _=_;rw [cT,if_pos rfl]
  congr 1
  refine congrArg cD (Jq λq hq=>?_);show R.mul (rget (p::t) q.1) (b q.1)=R.mul (rget t q.1) (b q.1);rw [cT,if_neg λe=>nd.1 (by rw [show (λx:Nat×R.α=>x.1) p=q.1 from e];exact QI.mpr ⟨q,hq,rfl⟩)]
theorem eX {r:DR R}{b b':Nat->R.α} (h: ∀x∈aI r,b x=b' x):b9 r b=b9 r b':=congrArg cD (Jq λp hp=>by rw [h p.1 (QI.mpr ⟨p,hp,rfl⟩)])
theorem zcX {r:DR R}{b b':Nat->R.α}{k:Nat}{x:R.α} (nd:(aI r).Nodup) (hk:k∈aI r) (h: ∀j,j≠k->b j=b' j) (e:b k=R.add (b' k) x):b9 r b=R.add (R.mul (rget r k) x) (b9 r b'):=by
 induction r with
 |nil=>exact absurd hk Qr
 |cons p t ih=>
  show R.add (R.mul p.2 (b p.1)) (b9 t b)=R.add _ (R.add (R.mul p.2 (b' p.1)) (b9 t b'));rw [cT];by_cases hp:p.1=k
  ·rw [if_pos hp,eX (b:=b) (b':=b') λy hy=>h y λq=>(Qx.mp nd).1 (by rw [show (λx:Nat×R.α=>x.1) p=k from hp,<-q];exact hy),hp,e,R.mul_add,R.add_comm (R.mul p.2 (b' k)),R.add_assoc]
  ·rw [if_neg hp,ih (Qx.mp nd).2 ((QH.mp hk).elim (λq=>absurd q.symm hp) id),h _ hp,R.swap]
def xV (ov:DR R) (f:R.α) (l:List Nat) (t:DR R):DR R:=l.foldl (λt j=>cZ t j (R.mul f (rget ov j))) t
theorem zbf {ov:DR R}{f:R.α}{b:Nat->R.α}: ∀ {l:List Nat}{t:DR R},b9 (xV ov f l t) b=R.add (R.mul f (cD (l.map λj=>R.mul (rget ov j) (b j)))) (b9 t b):=by
 intro l
 induction l with
 |nil=>intro t;show b9 t b=R.add (R.mul f R.zero) (b9 t b);rw [R.mul_zero,R.zero_add]
 |cons j l ih=>
  intro t;show b9 (xV ov f l (cZ t j (R.mul f (rget ov j)))) b=_;rw [ih,lA,QC,aG,R.mul_add,R.mul_assoc,R.add_assoc,R.swap]
structure SR (n p K i k:Nat) (t:DR R):Prop where
 nd:(aI t).Nodup
 lt: ∀x∈aI t,i<x/\x<n
 dg: ∀q∈t,R.D (p*(q.1-i)) (K*(q.1-i)+k) q.2
theorem SR.mono {n p K i k k':Nat}{t:DR R} (H:SR n p K i k t) (h:k<=k'):SR n p K i k' t:=⟨H.nd,H.lt,λq hq=>R.D_mono (Qi _) (Qm h _) (H.dg q hq)⟩
theorem SR.get {n p K i k j:Nat}{t:DR R} (H:SR n p K i k t) (h:j∈aI t):R.D (p*(j-i)) (K*(j-i)+k) (rget t j):=H.dg _ (iF h)
structure SRl (n p K i k:Nat) (l:List Nat) (t:DR R):Prop where
 nd:(aI t).Nodup
 lt: ∀x∈aI t,i<x/\x<n
 dg: ∀q∈t,R.D (p*(q.1-i)) (K*(q.1-i)+(k+1)) q.2
 dl: ∀q∈t,q.1∈l->R.D (p*(q.1-i)) (K*(q.1-i)+k) q.2
theorem SR.l {n p K i k:Nat}{t:DR R} (H:SR n p K i k t) (l:List Nat):SRl n p K i k l t:=⟨H.nd,H.lt,(H.mono (Jv k)).dg,λq hq _=>H.dg q hq⟩
theorem SRl.add {n p K i k j:Nat}{l:List Nat}{t:DR R}{w:R.α} (H:SRl n p K i k (j::l) t) (hj:j∉l) (h1:i<j) (h2:j<n) (hw:R.D (p*(j-i)) (K*(j-i)+k) w):SRl n p K i k l (cZ t j w):=by
 unfold cZ;by_cases h:w=R.zero
 ·rw [if_pos h];exact ⟨H.nd,H.lt,H.dg,λq hq hl=>H.dl q hq (.tail _ hl)⟩
 ·rw [if_neg h]
  refine ⟨uV H.nd,λx hx=>((eA x).mp hx).elim (H.lt x) λe=>e▸ ⟨h1,h2⟩,λq hq=>?_,λq hq hl=>?_⟩
  ·rcases kU hq with hq|rfl
   ·exact H.dg q hq
   ·refine R.D_add (k:=K*(j-i)+k) ?_ hw
    by_cases hj:j∈aI t
    ·exact H.dl _ (iF hj) (.head _)
    ·rw [gD hj];exact R.D_mono (Qs _) (Qs _) R.D_zero
  ·rcases kU hq with hq|rfl
   ·exact H.dl q hq (.tail _ hl)
   ·exact absurd hl hj
structure ER (n p K0 k:Nat) (ov:DR R):Prop where
 nd:(aI ov).Nodup
 lt: ∀x∈aI ov,k<x/\x<n
 dg: ∀q∈ov,R.D p K0 q.2
theorem nE {n p K K0 i k m j:Nat}{f w:R.α} (hf:R.D (p*(k-i)) (K*(k-i)+m) f) (hw:R.D p K0 w) (hi:i<k) (hj:k<j) (hK:K0<=K):R.D (p*(j-i)) (K*(j-i)+m) (R.mul f w):=by
 have e2:K*(k-i)+K<=K*(j-i):=by rw [<-Zb];exact QG _ (YN (QJ hi) hj)
 exact R.D_mono (by rw [<-Zb];exact QG _ (YN (QJ hi) hj):p*(k-i)+p<=p*(j-i)) (Qa (QA (J9 _ _ _)) (QW (Qa (Qm hK _) e2) _)) (R.D_mul hf hw)
def bk (N B:Nat->R.α) (k:Nat):Nat->R.α:=λj=>if j<k then N j else B j
theorem zI {n p K0 K i k m:Nat}{t ov:DR R}{N B:Nat->R.α}{l:List Nat} (H:SR n p K i m t) (E:ER n p K0 k ov) (hl:l.Perm (aI ov)) (hB:B k=R.add (N k) (b9 ov B)) (hk:k∈aI t):b9 (xV ov (rget t k) l t) (bk N B (k+1))=b9 t (bk N B k):=by
 rw [zbf,nA hl E.nd,zcX (b:=bk N B k) (b':=bk N B (k+1)) (k:=k) (x:=b9 ov B) H.nd hk]
 ·congr 2
  exact eX λx hx=>if_neg (by have:=(E.lt x hx).1;exact Jc (QT this))
 ·intro j hj
  unfold bk;by_cases h:j<k
  ·rw [if_pos h,if_pos (Q7 h)]
  ·rw [if_neg h,if_neg (Jc (QT (Jn (Q0 h) (JC hj))))]
 ·unfold bk
  rw [if_neg (Q4 _),if_pos (QF _),hB]
theorem zH {n p K i k m:Nat}{t:DR R}{N B:Nat->R.α} (H:SR n p K i m t) (hk:k∉aI t):b9 t (bk N B (k+1))=b9 t (bk N B k):=eX λx hx=>by
 have:x≠k:=λe=>hk (e▸hx)
 unfold bk;by_cases h:x<k
 ·rw [if_pos h,if_pos (Q7 h)]
 ·rw [if_neg h,if_neg (Jc (QT (Jn (Q0 h) (JC this))))]
def b5 (xs:List (Ar R.α)):DR R:=xs.foldl (λr a=>bif a.emp then cZ r a.t a.w else r) []
theorem jJ {xs:List (Ar R.α)}{a:Ar R.α}:b5 (xs++ [a])=bif a.emp then cZ (b5 xs) a.t a.w else b5 xs:=by unfold b5;rw [Kg];rfl
theorem sH {xs:List (Ar R.α)}{b:Nat->R.α}:b9 (b5 xs) b=rJ b xs:=by
 have go: ∀ (xs:List (Ar R.α)) (r:DR R),b9 (xs.foldl (λr a=>bif a.emp then cZ r a.t a.w else r) r) b=R.add (b9 r b) (rJ b xs):=by
  intro xs
  induction xs with
  |nil=>intro r;exact (R.add_zero _).symm
  |cons a xs ih=>
   intro r;rw [ZL,ih];show _=R.add (b9 r b) (R.add (bif a.emp then R.mul a.w (b a.t) else R.zero) (rJ b xs));cases a.emp with
   |true=>rw [cond_true,cond_true,lA,R.add_assoc,R.swap]
   |false=>rw [cond_false,cond_false,R.zero_add]
 exact (go xs []).trans (R.zero_add _)
theorem m4 {n p k s:Nat}: ∀ {xs:List (Ar R.α)},(∀a∈xs,a.t<n/\R.D p k a.w/\(a.emp=true->s<a.t)) ->eK n p (k+xs.length) (b5 xs)/\∀x∈aI (b5 xs),s<x:=by
 intro xs;rw [<-List.reverse_reverse xs]
 generalize xs.reverse=ys
 induction ys with
 |nil=>exact λ_=>⟨⟨.nil,λx h=>absurd h Qr,λq h=>absurd h Qr⟩,λx h=>absurd h Qr⟩
 |cons a ys ih=>
  intro h;rw [Zd] at h ⊢;obtain ⟨h1,h2⟩:=ih λb hb=>h b (Js _ hb);have zq1:=h a (QD _ (.head _));rw [jJ,Qv,YA,<-QY];cases he:a.emp with
  |false=>exact ⟨⟨h1.nd,h1.lt,λq hq=>R.D_mono (Qi _) (Jv _) (h1.dg q hq)⟩,h2⟩
  |true=>
   rw [cond_true];refine ⟨u0 h1 zq1.1 (R.D_mono (Qi _) (Qd _ _) zq1.2.1),λx hx=>?_⟩;unfold cZ at hx;by_cases hw:a.w=R.zero
   ·rw [if_pos hw] at hx;exact h2 x hx
   ·rw [if_neg hw] at hx
    exact ((eA x).mp hx).elim (h2 x) λe=>e▸zq1.2.2 he
end
end Tactic
namespace Tactic
open Internal
section
variable {R:Rg}{d:Nat}{h h0:MH}{Q:Val->MH->Prop}{L:Ly}{M:Mc R.α}
structure Tab (h g:MH) (T:List (DR R)):Prop where
 pre: ∃t,g=h++t
 at':g[h.length]?=some (.list ((QR (h.length+1) T.length).map .ref))
 row: ∀ (i:Nat) (t:DR R),T[i]?=some t-> ∃ep,g[h.length+(i+1)]?=some (.dict ep (bC t))
structure l9 (g:MH) (aT:Nat) (T:List (DR R)):Prop where
 x: ∃rs:List Nat,g[aT]?=some (.list (rs.map .ref))/\rs.length=T.length/\∀ (i r:Nat) (t:DR R),rs[i]?=some r->T[i]?=some t-> ∃ep,g[r]?=some (.dict ep (bC t))
variable {g:MH}{aT:Nat}{T:List (DR R)}
theorem z6 {a n i:Nat} (hi:i<n):(QR (a+1) n)[i]?=some (a+(i+1)):=by
 rw [YJ hi]
 congr 1;lia
theorem Tab.r (H:Tab h g T):l9 g h.length T:=⟨_,H.at',by rw [Zl],λi r t hr ht=>by
 rw [z6 (aJ ht)] at hr;cases hr;exact H.row i t ht⟩
theorem l9.app {t:MH} (H:l9 g aT T):l9 (g++t) aT T:=by
 refine H.x.elim λrs zq7=>?_;exact ⟨rs,aB zq7.1,zq7.2.1,λi r t a b=>(zq7.2.2 i r t a b).elim λep e=>⟨ep,aB e⟩⟩
theorem Tab.app {t:MH} (H:Tab h g T):Tab h (g++t) T:=by
 refine H.pre.elim λt0 zq6=>?_;obtain rfl:=zq6;exact ⟨⟨_,Qt ..⟩,aB H.at',λi t a=>(H.row i t a).elim λep e=>⟨ep,aB e⟩⟩
theorem Tab.set {i:Nat}{t':DR R}{ep:Option Nat} (H:Tab h g T) (hi:i<T.length):Tab h (g.set (h.length+(i+1)) (.dict ep (bC t'))) (T.set i t'):=by
 refine (H.row i _ (Qc hi)).elim λep0 zq3=>?_;refine H.pre.elim λt0 zq2=>?_;obtain rfl:=zq2;refine ⟨⟨_,g6 (Qd _ _)⟩,by rw [QS];exact a7 (JL (JZ (Jt _))) H.at',λj u hu=>?_⟩;by_cases e:i=j
 ·subst e
  rw [QP hi] at hu;cases hu;exact ⟨ep,bH zq3⟩
 ·rw [QO e] at hu
  obtain ⟨ep1,e1⟩:=H.row j u hu;exact ⟨ep1,a7 (by lia) e1⟩
theorem uN {n:Nat}{Tf:Nat->DR R}{ep:Nat->Option Nat}:Tab h (h++ .list ((QR (h.length+1) n).map .ref)::(Q3 n).map λi=> .dict (ep i) (bC (Tf i))) ((Q3 n).map Tf):=by
 refine ⟨⟨_,rfl⟩,by rw [Qh,Q6];exact aX,λi t ht=>⟨ep i,?_⟩⟩;have hk:i<n:=by have:=aJ ht;rwa [Qh,Q6] at this
 rw [Qu,JF hk] at ht;cases ht;rw [fJ];show ((Q3 n).map _)[i]?=_;rw [Qu,JF hk];rfl
def gP (M:Mc R.α) (i j s:Nat):List (Ar R.α):=if s<i then aAt M s else if s=i then (aAt M s).take j else []
def cX (M:Mc R.α) (i j:Nat):List (DR R):=(Q3 M.arcs.length).map λs=>b5 (gP M i j s)
theorem oB {i j s:Nat} (hs:s<M.arcs.length):(cX M i j)[s]?=some (b5 (gP M i j s)):=by
 unfold cX;rw [Qu,JF hs];rfl
theorem v7 {i j:Nat}{a:Ar R.α} (hi:i<M.arcs.length) (ha:(aAt M i)[j]?=some a):cX M i (j+1)=(cX M i j).set i (bif a.emp then cZ (b5 ((aAt M i).take j)) a.t a.w else b5 ((aAt M i).take j)):=by
 refine gK (by unfold cX;rw [Qh,QS,Qh]) λs y hy=>?_;have hs:s<M.arcs.length:=by have:=aJ hy;unfold cX at this;rwa [Qh,Q6] at this
 rw [oB hs] at hy;cases hy;by_cases e:i=s
 ·subst e
  rw [QP (by unfold cX;rw [Qh,Q6];exact hs)];unfold gP;rw [if_neg (Q4 _),if_pos rfl,JJ,ha];show _=some (b5 (_++ [a]));rw [jJ]
 ·rw [QO e,oB hs]
  unfold gP;by_cases h1:s<i
  ·rw [if_pos h1,if_pos h1]
  ·rw [if_neg h1,if_neg h1,if_neg (JC e),if_neg (JC e)]
theorem v8 {i:Nat}:cX M i (aAt M i).length=cX M (i+1) 0:=by
 unfold cX;refine Jq λs _=>congrArg b5 ?_;unfold gP;by_cases h1:s<i
 ·rw [if_pos h1,if_pos (Q7 h1)]
 ·rw [if_neg h1]
  by_cases h2:s=i
  ·subst h2
   rw [if_pos rfl,if_pos (QF _),Q2]
  ·rw [if_neg h2,if_neg (Jc (QT (Jn (Q0 h1) (JC h2))))]
   by_cases h3:s=i+1
   ·rw [if_pos h3];rfl
   ·rw [if_neg h3]
end
end Tactic
namespace Tactic
open Internal
section
variable {R:Rg}{d:Nat}{h h0:MH}{Q:Val->MH->Prop}{L:Ly}{M:Mc R.α}{R':Fl->Internal.Frame->MH->Prop}
structure TbS where
 g:MH
 a:Option Val:=none
 b:Option Val:=none
def tbF (L:Ly) (n0:Nat) (a b:Option Val):Internal.Frame:=some (.ref L.m)::some (.bool true)::some (.ref n0)::a::b::nn 6
abbrev tabA:List Sm:= [.ite (.bop true [.meth (.var 4) 7598521885536580729 [],.not (.var 1)]) [.expr (.call (.lit (.top 104)) [.attr (.var 0) 1919512167,.sub (.var 2) (.var 3),.attr (.var 4) 127961880028532,.attr (.var 4) 131277443786868])] []]
abbrev tabB:List Sm:= [.fo [4] false (.sub (.attr (.var 0) 1634886515) (.var 3)) tabA]
theorem p5 {i j:Nat}:(cX M i j).length=M.arcs.length:=by unfold cX;rw [Qh,Q6]
theorem Tab.im {g:MH}{T:List (DR R)} (H:Tab h g T) (I:IsM R h L M):IsM R g L M:=by obtain ⟨t,rfl⟩:=H.pre;exact I.app
theorem Tab.up {g:MH}{T:List (DR R)} (H:Tab h g T) {a:Nat}{o:MObj} (e:h[a]?=some o):g[a]?=some o:=by obtain ⟨t,rfl⟩:=H.pre;exact aB e
theorem zbR {i:Nat}{xs:List (Ar R.α)} (h:M.arcs[i]?=some xs):aAt M i=xs:=by unfold aAt;rw [h];rfl
theorem iY {i j:Nat}:gP M i j i=(aAt M i).take j:=by unfold gP;rw [if_neg (Q4 _),if_pos rfl]
theorem Tab.su {i:Nat}{g:MH}{T:List (DR R)} (H:Tab h g T) (hi:i<T.length):bJ g (.ref h.length) (.int (i:Int))=some (.ref (h.length+(i+1))):=sl (i:=i) H.at' (g8 (z6 hi))
theorem zcu {p k i j b:Nat}{a:Ar R.α}{s:TbS} (hd:5<=d) (I:IsM R h L M) (G:a9 M p k) (U:upE M) (hl:4*p+(k+300)<=3800) (hi:i<M.arcs.length) (ha:(aAt M i)[j]?=some a) (hb:h[b]?=some (dC R a)) (T:Tab h s.g (cX M i j))
  (q: ∀s':TbS,Tab h s'.g (cX M i (j+1)) ->R' .nx (tbF L h.length (vN i) s'.b) s'.g):WSs (Cxd P0 d) tabA (tbF L h.length (vN i) (vR b)) s.g R':=by
 have ts:=v7 (M:=M) (j:=j) hi ha;have hB:=T.up hb;have hie:M.arcs[i]?=some (aAt M i):=by unfold aAt;rw [Qc hi];rfl
 have hm:=Qe hie;have e0:=oB (M:=M) (i:=i) (j:=j) hi;rw [iY] at e0;cases he:a.emp with
 |true=>
  rw [he,cond_true] at ts;refine (T.row i _ e0).elim λep hr=>?_;have ok:=(m4 (R:=R) (n:=M.arcs.length) (p:=p) (k:=k) (s:=i) (xs:=(aAt M i).take j) λc hc=>by
   exact ⟨(G.arc _ hm c (Zz hc)).1,(G.arc _ hm c (Zz hc)).2.2.2.1,λhe=>U i _ hie c (Zz hc) he⟩).1
  refine (oL (d:=d) (j:=a.t) (w:=a.w) (Qa (by decide) hd) hr ok (Qa G.n (by decide)) (R.D_mono (Qi _) (Qd _ _) (G.arc _ hm a (Qe ha)).2.2.2.1) (Qa (Qm (Qm (Qa (by rw [JD];exact Ye _ _) (Qa (I.cr _ hm) G.c):((aAt M i).take j).length<=300) k) _) hl)).elim λep' e=>?_;have N:=T.set (t':=cZ (b5 ((aAt M i).take j)) a.t a.w) (ep:=ep') (by rw [p5];exact hi);rw [<-ts] at N;exact run (.p (xP (Qa (by decide) hd:1<=d) hB)<| .t (he)<| .t (he)<| .v (cA (T.im I))<| .v (T.su (by rw [p5];exact hi))<| .v (gTg hB)<| .v (gWt hB)<| .p (e)<| .z (q ⟨_,none,vR b⟩ N)) (by kernel_rfl)
 |false=>
  rw [he,cond_false] at ts;have N:Tab h s.g (cX M i (j+1)):=by
   rw [ts,<-Qn.mp e0|>.2,Kn];exact T
  exact run (.p (xP (Qa (by decide) hd:1<=d) hB)<| .f (he)<| .c2<| .z (q ⟨s.g,none,vR b⟩ N)) (by kernel_rfl)
theorem zcr {p k i:Nat}{s:TbS} (hd:5<=d) (I:IsM R h L M) (G:a9 M p k) (U:upE M) (hl:4*p+(k+300)<=3800) (hi:i<M.arcs.length) (T:Tab h s.g (cX M i 0)):
  ∃s':TbS,Tab h s'.g (cX M (i+1) 0)/\exec (Cxd P0 d) (.fo [4] false (.sub (.attr (.var 0) 1634886515) (.var 3)) tabA) (tbF L h.length (vN i) s.b) s.g=some ((.nx,tbF L h.length (vN i) s'.b),s'.g):=by
 refine (I.rowR hi).elim λr zq3=>zq3.elim λas zq4=>?_;have hr:=zq4.1;have J:=T.im I;refine (foL (c:=Cxd P0 d) (tg:=[4]) (many:=false) (a:=r) (e:=.sub (.attr (.var 0) 1634886515) (.var 3)) (b:=tabA) (vs:=as.map .ref) (λs':TbS=>tbF L h.length (vN i) s'.b) TbS.g (λj s'=>Tab h s'.g (cX M i j)) s (zq4.2.1.le I zq4.2.2) rfl (λj s' T2=>T2.up zq4.2.1.l) (by exact bK (.v (dZ J)<| .v (sl J.arcs hr)<| .z (two (.ref r) s.g)) (by kernel_rfl)) T λj v s' R2 _ hv T2 C2=>?_).elim λs' e=>⟨s',by rw [<-v8];exact zq4.2.1.n▸e.1,e.2⟩;refine (zq4.2.1.a j v hv).elim λb zq1=>zq1.elim λx zq2=>?_;obtain rfl:=zq2.1;exact c9 (zcu hd I G U hl hi zq2.2.1 zq2.2.2 T2 C2.nx)
abbrev tb0 (h:MH) (n:Nat):MH:=h++ .list ((QR (h.length+1) n).map .ref)::(Q3 n).map λ_=> .dict (some 0) []
theorem tab0:Tab h (tb0 h M.arcs.length) (cX M 0 0):=by
 have e:cX M 0 0=(Q3 M.arcs.length).map λ_=>([]:DR R):=by
  unfold cX;refine Jq λs _=>?_;unfold gP;rw [if_neg (QZ _)];by_cases h:s=0
  ·rw [if_pos h];rfl
  ·rw [if_neg h];rfl
 rw [e];exact uN (ep:=λ_=>some 0) (Tf:=λ_=>([]:DR R))
theorem zct (I:IsM R h L M):eval (Cxd P0 d) (.comp (.dict []) [5] false (.attr (.var 0) k_arcs) []) (some (.ref L.m)::some (.bool true)::nn 9) h=some (.ref h.length,tb0 h M.arcs.length):=by
 have hl:(L.rows.map Val.ref).length=M.arcs.length:=by rw [Qh,I.len]
 refine W.eq (kH (a:=L.aA) (vs:=L.rows.map .ref) (λi=> .dict (some 0) []) (by rw [hl];exact Qk I.lim (show 10000<200000 by decide)) (by rw [hl];exact Qa I.lim (by decide)) (W.of (a:=.ref L.aA) (W.eq (by exact bK (.v (dZ I)<| .z (two (.ref L.aA) h)) (by kernel_rfl):WE (Cxd P0 d) (some (.ref L.m)::some (.bool true)::nn 9) (.attr (.var 0) k_arcs) h λv g=>v= .ref L.aA/\g=h)) ⟨rfl,I.arcs,λi v t _=>?_,by rw [hl];exact ⟨rfl,rfl⟩⟩));exact bK (.c<| .z (two (.ref (h++t).length) ((h++t)++ [.dict (some 0) []]))) (by kernel_rfl)
theorem zC {p k:Nat} (hd:6<=d) (I:IsM R h L M) (G:a9 M p k) (U:upE M) (hl:4*p+(k+300)<=3800) (q: ∀t,Tab h (h++t) (cX M M.arcs.length 0) ->Q (.ref h.length) (h++t)):WF P0 d 108 [.ref L.m,.bool true] h Q:=by
 refine bD (K:=5) hd (some (.ref L.m)::some (.bool true)::nn 9) bd_stars_table (by kernel_rfl) λd' h'=>?_;have d1:1<=d':=Qa (by decide) h';have T0:=tab0 (h:=h) (M:=M);refine (foR (c:=Cxd P0 d') (x:=3) (n:=M.arcs.length) (e:=.call (.lit (.ty 491260897125)) [.meth (.var 0) k_size []]) (b:=tabB) (λs:TbS=>tbF L h.length s.a s.b) TbS.g (λi s=>Tab h s.g (cX M i 0)) ⟨tb0 h M.arcs.length,none,none⟩ (tE I) rfl (by exact bK (.p (cM d1 (T0.im I))<| .c<| .z (two (.rng M.arcs.length) (tb0 h M.arcs.length))) (by kernel_rfl)) T0 λi s R1 _ hi T1 C1=>(zcr (d:=d') h' I G U hl hi T1).elim λs' e=>by exact run (.s (e.2)<| .z (C1.nx ⟨s'.g,vN i,s'.b⟩ e.1)) (by kernel_rfl)).elim λs e=>e.1.pre.elim λt ht=>?_;have e2:=e.2;rw [ht] at e2;exact run (.p (cM d1 I)<| .c<| .f ((decide_eq_false (by have:=G.n;lia):decide ((M.arcs.length:Int)>2000)=false))<| .p (zct (d:=d') I)<| .s (e2)<| .z (q t (ht▸e.1:Tab h (h++t) (cX M M.arcs.length 0)))) (by kernel_rfl)
end
end Tactic
namespace Tactic
open Internal
section
variable {R:Rg}{c:Cx}{h h0:MH}{Q:Val->MH->Prop}
theorem zdv {r:DR R}:((bC r).all λp=>cC p.1==1)=true:=Je.mpr λp hp=>by
 refine (QI.mp hp).elim λx zq2=>?_;obtain rfl:=zq2.2;rfl
theorem zb4 {a:Nat}{ep:Option Nat}{r:DR R} (ha:h[a]?=some (.dict ep (bC r))) (q:Q (.ref h.length) (h++ [.dict none (bC r)])):WV c (.ty nDict) [.ref a] h Q:=by
 refine zdZ (v:=.ref h.length) (h':=h++ [.dict none (bC r)]) ?_ q;show alt (sF [.ref a] h) _=_;show alt ((dictAt h (.ref a)).bind λd=>grd (d.2.all λp=>cC p.1==1) (cQ h (.dict none d.2))) _=_;rw [dU ha];show alt (grd ((bC r).all λp=>cC p.1==1) (cQ h (.dict none (bC r)))) _=_;rw [zdv];rfl
def iKs (r:DR R):List Int:=(aI r).map Yj
theorem xY {r:DR R}:nK ((bC r).map (·.1))=some (iKs r):=by
 unfold nK
 induction r with
 |nil=>rfl
 |cons p t ih=>
  show List.mapM Val.int? (Val.int (p.1:Int)::(bC t).map (·.1))=_;rw [KV,ih];rfl
def a8 (r:DR R):List Nat:=(jV (iKs r)).map Wg
theorem cI {r:DR R}:(a8 r).Perm (aI r):=by
 have h:(jV (iKs r)).Perm (iKs r):=KM ..;have h:=h.map Wg;unfold iKs at h;rw [ZJ] at h;rw [((Jq λx _=>rfl).trans (List.map_id _):(aI r).map (Wg ∘ Yj)=aI r)] at h;exact h
theorem sU {r:DR R}:(jV (iKs r)).map Val.int=(a8 r).map λn:Nat=>Val.int (n:Int):=by
 unfold a8;rw [ZJ];refine Jq λx hx=>?_;refine (QI.mp ((KM ..).mem_iff.mp hx:x∈iKs r)).elim λn zq1=>?_;obtain rfl:=zq1.2;rfl
theorem vV {a:Nat}{ep:Option Nat}{r:DR R} (ha:h[a]?=some (.dict ep (bC r))) (h1:r≠ []) (h2:r.length<64) (q:Q (.ref h.length) (h++ [.list ((a8 r).map λn:Nat=>Val.int (n:Int))])):WV c (.bi nSorted) [.ref a] h Q:=by
 refine zd0 (v:=.ref h.length) (h':=h++ [.list ((a8 r).map λn:Nat=>Val.int (n:Int))]) ?_ q;show alt (grd (nSorted==nLen) _) (alt (grd (nSorted==nMax) _) (alt (grd (nSorted==nMin) _) (grd (nSorted==nSorted) (lU [.ref a] h))))=_;show (dictAt h (.ref a)).bind _=_;rw [dU ha];show (nK ((bC r).map (·.1))).bind _=_;rw [xY];show grd (!(iKs r).isEmpty && Jr ((iKs r).length+1) 64) _=_;have e2:(iKs r).isEmpty=false:=by
  cases r with
  |nil=>exact absurd rfl h1
  |cons _ _=>rfl
 rw [(by unfold iKs aI;rw [Qh,Qh]:(iKs r).length=r.length),e2,YC (QT h2),sU];rfl
theorem m9 {r:DR R}:(aI r).length=r.length:=Qh ..
theorem gDr (z:Cx) {a:Nat}{ep:Option Nat}{r:DR R} (ha:h[a]?=some (.dict ep (bC r))):aP z (.ty nDict) [.ref a] h=some (.ref h.length,h++ [.dict none (bC r)]):=W.eq (zb4 ha ⟨rfl,rfl⟩)
theorem gSo (z:Cx) {a:Nat}{ep:Option Nat}{r:DR R} (ha:h[a]?=some (.dict ep (bC r))) (h1:r≠ []) (h2:r.length<=60):aP z (.bi nSorted) [.ref a] h=some (.ref h.length,h++ [.list ((a8 r).map λn:Nat=>Val.int (n:Int))]):=W.eq (vV ha h1 (Qk h2 (by decide)) ⟨rfl,rfl⟩)
theorem inR (k:Nat) {a:Nat}{ep:Option Nat}{r:DR R} (ha:h[a]?=some (.dict ep (bC r))):c7 .isin (.int k) (.ref a) h=some (decide (k∈aI r)):=by
 show alt ((bG h (.ref a)).bind _) ((dictAt h (.ref a)).bind λd=>grd (aM d.2 (.int k)) (some (aZ d.2 (.int k)).isSome))=_;rw [fS ha,dU ha];show grd (aM (bC r) (.int k)) (some (aZ (bC r) (.int k)).isSome)=_;rw [gM,iQ];by_cases hk:k∈aI r
 ·rw [if_pos hk,decide_eq_true hk];rfl
 ·rw [if_neg hk,decide_eq_false hk];rfl
theorem sR {k a:Nat}{ep:Option Nat}{r:DR R} (ha:h[a]?=some (.dict ep (bC r))) (hk:k∈aI r):bJ h (.ref a) (.int k)=some (R.e (rget r k)):=sd ha gM (by rw [iQ,if_pos hk])
theorem zei (z:Cx) {a:Nat}{ep:Option Nat}{r:DR R} (ha:h[a]?=some (.dict ep (bC r))):aP z (.bi nLen) [.ref a] h=some (.int r.length,h):=W.eq (zb3 ha ⟨by unfold bC;rw [Qh],rfl⟩)
end
end Tactic
namespace Tactic
open Internal
section
variable {R:Rg}{d:Nat}{h h0:MH}{Q:Val->MH->Prop}{R':Fl->Internal.Frame->MH->Prop}
structure SX (R:Rg) where
 h:MH
 aT:Nat
 n:Nat
 p:Nat
 K:Nat
 Tf:Nat->DR R
structure SOk (X:SX R):Prop where
 er: ∀k,k<X.n->ER X.n X.p X.K k (X.Tf k)
 n:X.n<=60
 bd:4*(X.p*X.n)+(X.K*X.n+X.n+1)<=3800
variable {X:SX R}
structure cK (X:SX R) (i k:Nat) (t:DR R):Prop where
 sr:SR X.n X.p X.K i k t
 ev: ∀N B:Nat->R.α,(∀s,s<X.n->B s=R.add (N s) (b9 (X.Tf s) B)) ->b9 t (bk N B k)=b9 (X.Tf i) B
 un:k<=i->t=X.Tf i
theorem cK.zero {i:Nat} (O:SOk X) (hi:i<X.n):cK X i 0 (X.Tf i):=by
 have E:=O.er i hi;refine ⟨⟨E.nd,E.lt,λq hq=>?_⟩,λN B _=>rfl,λ_=>rfl⟩;have h1:i<q.1:=(E.lt _ (QI.mpr ⟨q,hq,rfl⟩)).1;exact R.D_mono (Jy _ (Xv h1)) (Jy _ (Xv h1)) (E.dg q hq)
theorem cK.out {i k:Nat}{t:DR R} (H:cK X i k t) (hk:k∉aI t):cK X i (k+1) t:=
 ⟨H.sr.mono (Jv _),λN B e=>(zH H.sr hk).trans (H.ev N B e),λh=>H.un (QJ (Jl h))⟩
theorem cK.step {i k:Nat}{t t':DR R}{l:List Nat} (O:SOk X) (H:cK X i k t) (hk:k∈aI t) (hl:l.Perm (aI (X.Tf k))) (e:t'=xV (X.Tf k) (rget t k) l t) (D:SRl X.n X.p X.K i k [] t'):cK X i (k+1) t':=by
 have hkn:=H.sr.lt k hk;exact ⟨⟨D.nd,D.lt,D.dg⟩,λN B q=>by rw [e,zI H.sr (O.er k hkn.2) hl (q k hkn.2) hk];exact H.ev N B q,λh=>absurd hkn.1 (Jc (QJ (Jl h)))⟩
structure StS (R:Rg) where
 g:MH
 T:List (DR R)
 a:Option Val:=none
 b:Option Val:=none
 c:Option Val:=none
 d:Option Val:=none
 e:Option Val:=none
 f:Option Val:=none
def stF (X:SX R) (a b c d e f:Option Val):Internal.Frame:=some (.top (112+R.i))::some (.ref X.aT)::some (.ref X.h.length)::a::b::c::d::e::f::nn 6
structure mV (X:SX R) (g:MH) (a:Nat) (o:MObj):Prop where
 ge:X.h.length+X.n<a
 at':g[a]?=some o
theorem mV.set {g:MH}{a i:Nat}{o o':MObj} (B:mV X g a o) (hi:i<X.n):mV X (g.set (X.h.length+(i+1)) o') a o:=⟨B.ge,a7 (by have:=B.ge;exact Zy (Qk (QE (Qi _) (QT hi)) this)) B.at'⟩
theorem mV.app {g t:MH}{a:Nat}{o:MObj} (B:mV X g a o):mV X (g++t) a o:=⟨B.ge,aB B.at'⟩
structure JS (R:Rg) where
 g:MH
 t:DR R
 b:Option Val:=none
structure JP (X:SX R) (T:List (DR R)) (i k aO aS:Nat) (t0:DR R) (j:Nat) (s:JS R):Prop where
 T:Tab X.h s.g (T.set i s.t)
 e:s.t=xV (X.Tf k) (rget t0 k) ((a8 (X.Tf k)).take j) t0
 D:SRl X.n X.p X.K i k ((a8 (X.Tf k)).drop j) s.t
 o:mV X s.g aO (.dict none (bC (X.Tf k)))
 l:mV X s.g aS (.list ((a8 (X.Tf k)).map λn:Nat=> .int (n:Int)))
theorem qN {r:DR R} (h:(aI r).Nodup):(a8 r).Nodup:=cI.nodup_iff.mpr h
theorem gN {α:Type}{l:List α}{j:Nat}{x:α} (h:l[j]?=some x):l.drop j=x::l.drop (j+1):=by
 refine (Qn.mp h).elim λh1 zq1=>?_;obtain rfl:=zq1;exact Zs h1
theorem uM {α:Type}{l:List α}{j:Nat}{x:α} (h:l[j]?=some x):l.take (j+1)=l.take j++ [x]:=by
 rw [JJ,h];rfl
theorem SRl.ok {n p K i k P K':Nat}{l:List Nat}{t:DR R} (H:SRl n p K i k l t) (h1:p*n<=P) (h2:K*n+(k+1)<=K'):eK n P K' t:=⟨H.nd,λx hx=>(H.lt x hx).2,λq hq=>by
 exact R.D_mono (Qa (QG _ (by have:q.1<n:=((H.lt _ (QI.mpr ⟨q,hq,rfl⟩)).2);exact QJ (JM this):q.1-i<=n)) h1) (Qa (QW (QG _ (by have:q.1<n:=((H.lt _ (QI.mpr ⟨q,hq,rfl⟩)).2);exact QJ (JM this):q.1-i<=n)) _) h2) (H.dg q hq)⟩
abbrev jB:List Sm:= [.expr (.call (.lit (.top 104)) [.var 0,.sub (.var 2) (.var 6),.var 8,.meth (.var 0) 499984983411 [.var 7,.sub (.var 4) (.var 8)]])]
theorem zgU {p K n k i x:Nat} (hi:i<k) (hk:k<x) (hx:x<n) (bd:4*(p*n)+(K*n+n+1)<=3800):p*(x-i)<=p*n/\K*(x-i)+k<=K*n+(k+1)/\4*(p*(k-i)+p)+(K*(k-i)+k+K)<=3800/\4*(p*n)+(K*n+(k+1))<=3800:=by
 have e2:K*(x-i)<=K*n:=QG _ (QJ (JM hx));have e3:p*(k-i)+p<=p*n:=by rw [<-Zb];exact QG _ (QT (JM (Q9 hk hx)))
 have e4:K*(k-i)+K<=K*n:=by rw [<-Zb];exact QG _ (QT (JM (Q9 hk hx)))
 exact ⟨QG _ (QJ (JM hx)),QE e2 (Qd _ _),Qa (QE (QG 4 e3) (Qa (QA (J9 _ _ _)) (Jf (QE e4 (QJ (Q9 hk hx)))))) bd,Qa (Qm (Qm (Jf (Q9 hk hx)) _) _) bd⟩
theorem zgT {T:List (DR R)}{i k aO aS j x:Nat}{t0:DR R}{s:JS R} (hd:5<=d) (O:SOk X) (hT:T.length=X.n) (H:SR X.n X.p X.K i k t0) (hi:i<k) (hk:k∈aI t0) (hx:(a8 (X.Tf k))[j]?=some x) (P:JP X T i k aO aS t0 j s)
  (q: ∀s',JP X T i k aO aS t0 (j+1) s'->R' .nx (stF X (vN k) (vR aO) (some (R.e R.one)) (vN i) (some (R.e (rget t0 k))) s'.b) s'.g):
  WSs (Cxd P0 d) jB (stF X (vN k) (vR aO) (some (R.e R.one)) (vN i) (some (R.e (rget t0 k))) (vN x)) s.g R':=by
 have hkn:=H.lt k hk;have E:=O.er k hkn.2;have hxk:x∈aI (X.Tf k):=cI.mem_iff.mp (Qe hx);have hxl:=E.lt x hxk;have hin:i<X.n:=Q9 hi hkn.2;have D:=P.D;rw [gN hx] at D;have nd:=qN E.nd;rw [<-Zq j (a8 (X.Tf k)),gN hx] at nd;have hil:i<(T.set i s.t).length:=by rw [QS,hT];exact hin
 have hf:=H.get hk;have hw:R.D X.p X.K (rget (X.Tf k) x):=E.dg _ (iF hxk);have B:=zgU (p:=X.p) (K:=X.K) hi hxl.1 hxl.2 O.bd;refine (P.T.row i s.t (QP (by rw [hT];exact hin))).elim λep hr=>?_;refine (oL (d:=d) (j:=x) (w:=R.mul (rget t0 k) (rget (X.Tf k) x)) (n:=X.n) (P:=X.p*X.n) (K:=X.K*X.n+(k+1)) (Qa (by decide) hd) hr (D.ok (Qi _) (Qi _)) (Qa O.n (by decide)) (R.D_mono B.1 B.2.1 (nE (n:=0) (j:=x) hf hw hi hxl.1 (Qi _))) B.2.2.2).elim λep' e=>?_;have T':=P.T.set (t':=cZ s.t x (R.mul (rget t0 k) (rget (X.Tf k) x))) (ep:=ep') hil;rw [Wj] at T';have N:JP X T i k aO aS t0 (j+1) ⟨_,cZ s.t x (R.mul (rget t0 k) (rget (X.Tf k) x)),vN x⟩:=⟨T',by
  show cZ s.t x _=_;rw [uM hx];unfold xV;rw [Kg,P.e];rfl,D.add ((Qx.mp (Zc.mp nd).2.1).1) (Q9 hi hxl.1) hxl.2 (nE (n:=0) (j:=x) hf hw hi hxl.1 (Qi _)),P.o.set hin,P.l.set hin⟩
 exact run (.v ((P.T.su hil:bJ s.g (.ref X.h.length) (.int (i:Int))=some (.ref (X.h.length+(i+1)))))<| .v (sR P.o.at' hxk)<| .q (R.ti (Qa (by decide) hd) hf hw B.2.2.1)<| .p (e)<| .z (q _ N)) (by kernel_rfl)
end
end Tactic
namespace Tactic
open Internal
section
variable {R:Rg}{d:Nat}{h h0:MH}{Q:Val->MH->Prop}{R':Fl->Internal.Frame->MH->Prop}{X:SX R}
structure KP (X:SX R) (k i:Nat) (s:StS R):Prop where
 T:Tab X.h s.g s.T
 len:s.T.length=X.n
 row: ∀r t,s.T[r]?=some t->cK X r (if r<i then k+1 else k) t
structure IP (X:SX R) (k aO i:Nat) (s:StS R):Prop where
 K:KP X k i s
 o:mV X s.g aO (.dict none (bC (X.Tf k)))
theorem KP.next {k:Nat}{s s':StS R} (K:KP X k X.n s) (e1:s'.g=s.g) (e2:s'.T=s.T):KP X (k+1) 0 s':=⟨by rw [e1,e2];exact K.T,by rw [e2];exact K.len,λr t h=>by
 rw [e2] at h
 have:=K.row r t h
 rw [if_pos (by rw [<-K.len];exact aJ h)] at this;rwa [if_neg (QZ _)]⟩
theorem KP.row1 {k i:Nat}{s s':StS R}{t':DR R} (K:KP X k i s) (hT:Tab X.h s'.g s'.T) (e:s'.T=s.T.set i t') (hi:i<X.n) (ht:cK X i (k+1) t'):KP X k (i+1) s':=⟨hT,by rw [e,QS];exact K.len,λr t h=>by
 rw [e] at h;by_cases hr:i=r
 ·subst hr
  rw [QP (by rw [K.len];exact hi)] at h;cases h;rw [if_pos (QF _)];exact ht
 ·rw [QO hr] at h
  have:=K.row r t h
  by_cases h1:r<i
  ·rw [if_pos h1] at this;rwa [if_pos (Q7 h1)]
  ·rw [if_neg h1] at this;rwa [if_neg (Jc (QT (Jn (Q0 h1) hr)))]⟩
theorem qO {α:Type}{l:List α}{i:Nat}{x:α} (h:l[i]?=some x):l.set i x=l:=by
 refine (Qn.mp h).elim λh1 zq2=>?_;obtain rfl:=zq2;exact Kn h1
abbrev iB:List Sm:= [.ite (.cmp .isin (.var 3) (.sub (.var 2) (.var 6))) [.asg (.nm 7) (.meth (.var 0) 499984983411 [.sub (.sub (.var 2) (.var 6)) (.var 3),.var 5]),.fo [8] false (.call (.lit (.bi 126922498794852)) [.var 4]) jB] []]
theorem zhx {k aO i:Nat}{s:StS R}{t0:DR R} (hd:5<=d) (O:SOk X) (hk:k<X.n) (hi:i<X.n) (hne:X.Tf k≠ []) (P:IP X k aO i s) (hie:s.T[i]?=some t0) (I:cK X i k t0) (hin:k∈aI t0):
  ∃s',IP X k aO (i+1) s'/\s'.e=some (R.e (rget t0 k))/\exec (Cxd P0 d) (.fo [8] false (.call (.lit (.bi 126922498794852)) [.var 4]) jB) (stF X (vN k) (vR aO) (some (R.e R.one)) (vN i) (some (R.e (rget t0 k))) s.f) s.g=some ((.nx,stF X (vN k) (vR aO) (some (R.e R.one)) (vN i) (some (R.e (rget t0 k))) s'.f),s'.g):=by
 have E:=O.er k hk;have hlen:(X.Tf k).length<=60:=Qa (eK.mk E.nd (λx hx=>(E.lt x hx).2) E.dg:eK X.n X.p X.K (X.Tf k)).len O.n;have w:WS (Cxd P0 d) (.fo [8] false (.call (.lit (.bi 126922498794852)) [.var 4]) jB) (stF X (vN k) (vR aO) (some (R.e R.one)) (vN i) (some (R.e (rget t0 k))) s.f) s.g λfl f g=> ∃s':JS R,JP X s.T i k aO s.g.length t0 (a8 (X.Tf k)).length s'/\fl= .nx/\f=stF X (vN k) (vR aO) (some (R.e R.one)) (vN i) (some (R.e (rget t0 k))) s'.b/\g=s'.g:=by
  have e0:WE (Cxd P0 d) (stF X (vN k) (vR aO) (some (R.e R.one)) (vN i) (some (R.e (rget t0 k))) s.f) (.call (.lit (.bi 126922498794852)) [.var 4]) s.g λv g=>v= .ref s.g.length/\g=s.g++ [.list ((a8 (X.Tf k)).map λn:Nat=> .int (n:Int))]:=by exact bK (.p (gSo (Cxd P0 d) P.o.at' hne hlen)<| .z (two (.ref s.g.length) (s.g++ [.list ((a8 (X.Tf k)).map λn:Nat=> .int (n:Int))]))) (by kernel_rfl)
  refine kG (a:=s.g.length) (vs:=(a8 (X.Tf k)).map λn:Nat=> .int (n:Int)) (λs':JS R=>stF X (vN k) (vR aO) (some (R.e R.one)) (vN i) (some (R.e (rget t0 k))) s'.b) JS.g (JP X s.T i k aO s.g.length t0) (by rw [(Qh .. :((a8 (X.Tf k)).map λn:Nat=>Val.int (n:Int)).length=(a8 (X.Tf k)).length)];exact Qk (by rw [cI.length_eq,m9];exact hlen:(a8 (X.Tf k)).length<=60) (show 60<200000 by decide)) ⟨s.g++ [.list ((a8 (X.Tf k)).map λn:Nat=> .int (n:Int))],t0,s.f⟩ (λj s' P'=>P'.l.at') (e0.mono λv g q=>⟨q.1,rfl,q.2,⟨by rw [qO hie];exact P.K.T.app,rfl,I.sr.l _,P.o.app,⟨Q9 P.o.ge (bE P.o.at'),aX⟩⟩⟩) (λj v s' R2 hv P2 C2=>?_) λs' P'=>⟨s',(Qh .. :((a8 (X.Tf k)).map λn:Nat=>Val.int (n:Int)).length=(a8 (X.Tf k)).length)▸P',rfl,rfl,rfl⟩;rw [Qu] at hv;refine (JK.mp hv).elim λx zq1=>?_;obtain rfl:=zq1.2;exact c9 (zgT hd O P.K.len I.sr (I.sr.lt k hin).1 hin zq1.1 P2 C2.nx)
 obtain ⟨⟨fl,f⟩,g,e,s',P',q1,q2,q3⟩:=W.get w;cases q1;cases q2;cases q3;have D:=P'.D;have e1:=P'.e;rw [Za] at D;rw [Q2] at e1;exact ⟨⟨s'.g,s.T.set i s'.t,none,none,none,none,some (R.e (rget t0 k)),s'.b⟩,⟨P.K.row1 P'.T rfl hi (I.step O hin cI e1 D),P'.o⟩,rfl,e⟩
theorem zgW {p K n k i:Nat} (hk:k<n) (bd:4*(p*n)+(K*n+n+1)<=3800):4*(p*(k-i)+0)+(K*(k-i)+k+0)<=3800:=by
 have e3:p*(k-i)<=p*n:=QG _ (QJ (JM hk));have e4:K*(k-i)<=K*n:=QG _ (QJ (JM hk));exact Qa (QE (QG 4 e3) (Jf (QE e4 (QJ hk)):K*(k-i)+k<=K*n+n+1)) bd
theorem zgV {k aO i:Nat}{s:StS R} (hd:5<=d) (O:SOk X) (hk:k<X.n) (hi:i<X.n) (hne:X.Tf k≠ []) (P:IP X k aO i s)
  (q: ∀s',IP X k aO (i+1) s'->R' .nx (stF X (vN k) (vR aO) (some (R.e R.one)) (vN i) s'.e s'.f) s'.g):
  WSs (Cxd P0 d) iB (stF X (vN k) (vR aO) (some (R.e R.one)) (vN i) s.e s.f) s.g R':=by
 have hil:i<s.T.length:=by rw [P.K.len];exact hi
 have hie:=Qc hil;have I:=P.K.row i _ hie;rw [if_neg (Q4 _)] at I;refine (P.K.T.row i _ hie).elim λep hr=>?_;have su:bJ s.g (.ref X.h.length) (.int (i:Int))=some (.ref (X.h.length+(i+1))):=P.K.T.su hil;cases (inferInstance:Decidable (k∈aI s.T[i])) with
 |isTrue hin=>
  refine (zhx (d:=d) hd O hk hi hne P hie I hin).elim λs' e=>?_;have e1:=R.ti (d:=d) (Qa (by decide) hd) (I.sr.get hin) R.D_one (zgW hk O.bd);rw [R.mul_comm,R.one_mul] at e1;exact run (.v (su)<| .b (inR k hr)<| .t (decide_eq_true hin)<| .v (su)<| .v (sR hr hin)<| .q (e1)<| .s (e.2.2)<| .z ((show R' .nx (stF X (vN k) (vR aO) (some (R.e R.one)) (vN i) (some (R.e (rget s.T[i] k))) s'.f) s'.g from e.2.1▸q s' e.1))) (by kernel_rfl)
 |isFalse hin=>exact run (.v (su)<| .b (inR k hr)<| .f (decide_eq_false hin)<| .z (q s ⟨P.K.row1 (t':=s.T[i]) P.K.T (qO hie).symm hi (I.out hin),P.o⟩)) (by kernel_rfl)
end
end Tactic
namespace Tactic
open Internal
section
variable {R:Rg}{d:Nat}{h h0:MH}{Q:Val->MH->Prop}{R':Fl->Internal.Frame->MH->Prop}{X:SX R}
theorem Tab.lt {h g:MH}{T:List (DR R)} (H:Tab h g T):h.length+T.length<g.length:=by
 cases e:T.length with
 |zero=>have:=bE H.at';exact Jl (QT this)
 |succ n=>
  refine (H.row n _ (Qc (Jl (QA (KN e))))).elim λep zq1=>?_
  have:=bE zq1;exact this
theorem Tab.ln (z:Cx) {h g:MH}{T:List (DR R)}{n:Nat} (H:Tab h g T) (hn:T.length=n):aP z (.bi nLen) [.ref h.length] g=some (.int n,g):=by rw [zaO H.at',Qh,Zl,hn]
theorem KP.skip {k:Nat}{s s':StS R} (O:SOk X) (K:KP X k 0 s) (e:X.Tf k= []) (e1:Tab X.h s'.g s'.T) (e2:s'.T=s.T):KP X (k+1) 0 s':=⟨e1,by rw [e2];exact K.len,λr t h=>by
 rw [e2] at h;have I:=K.row r t h;rw [if_neg (QZ _)] at I ⊢;by_cases hk:k∈aI t
 ·refine I.step (l:=[]) O hk (by rw [e];exact .nil) (by rw [e];rfl) ⟨I.sr.nd,I.sr.lt,(I.sr.mono (Jv k)).dg,λq _ hq=>absurd hq Qr⟩
 ·exact I.out hk⟩
abbrev kB:List Sm:= [.asg (.nm 4) (.call (.lit (.ty 1684628340)) [.sub (.var 2) (.var 3)]),.ite (.cmp .eq (.call (.lit (.bi 7103854)) [.var 4]) (.lit (.int 0))) [.cont] [],.asg (.nm 5) (.meth (.var 0) 1937006962 [.meth (.var 4) 6776180 [.var 3,.attr (.var 0) 121424990136436]]),.fo [6] false (.call (.lit (.ty 491260897125)) [.call (.lit (.bi 7103854)) [.var 2]]) iB]
abbrev rgL:Ex:= .call (.lit (.ty 491260897125)) [.call (.lit (.bi 7103854)) [.var 2]]
theorem zhz {k aO:Nat}{s:StS R} (hd:5<=d) (O:SOk X) (hk:k<X.n) (hne:X.Tf k≠ []) (P:IP X k aO 0 s): ∃s',KP X (k+1) 0 s'/\exec (Cxd P0 d) (.fo [6] false rgL iB) (stF X (vN k) (vR aO) (some (R.e R.one)) s.d s.e s.f) s.g=some ((.nx,stF X (vN k) (vR aO) (some (R.e R.one)) s'.d s'.e s'.f),s'.g):=
 (foR (c:=Cxd P0 d) (x:=6) (n:=X.n) (e:=rgL) (b:=iB) (λs':StS R=>stF X (vN k) (vR aO) (some (R.e R.one)) s'.d s'.e s'.f) StS.g (IP X k aO) s (Qa O.n (by decide)) rfl (by exact bK (.p (P.K.T.ln (Cxd P0 d) P.K.len)<| .c<| .z (two (.rng X.n) s.g)) (by kernel_rfl)) P λi s' R1 _ hi P1 C1=>zgV hd O hk hi hne P1 λs2 P2=>C1.nx {s2 with d:=vN i} ⟨⟨P2.K.T,P2.K.len,P2.K.row⟩,P2.o⟩).elim λs' e=>⟨s',e.1.K.next rfl rfl,e.2⟩
theorem Rg.st (R:Rg) (hd:3<=d) (h:MH):bI (Cxd P0 d) (.top (112+R.i)) nStar [R.e R.zero] h h=some (R.e R.one,h):=W.eq (R.star_ok hd ⟨rfl,rfl⟩)
theorem zgS {k:Nat}{s:StS R} (hd:6<=d) (O:SOk X) (hk:k<X.n) (K:KP X k 0 s)
  (q1: ∀s',KP X (k+1) 0 s'->R' .nx (stF X (vN k) s'.b s'.c s'.d s'.e s'.f) s'.g) (q2: ∀s',KP X (k+1) 0 s'->R' .ct (stF X (vN k) s'.b s'.c s'.d s'.e s'.f) s'.g):
  WSs (Cxd P0 d) kB (stF X (vN k) s.b s.c s.d s.e s.f) s.g R':=by
 have hkl:k<s.T.length:=by rw [K.len];exact hk
 have I:=K.row k _ (Qc hkl);rw [if_neg (QZ _)] at I;refine (K.T.row k _ (Qc hkl)).elim λep hr=>?_;rw [I.un (Qi _)] at hr;have hlt:=K.T.lt;rw [K.len] at hlt;have T1:Tab X.h (s.g++ [.dict none (bC (X.Tf k))]) s.T:=K.T.app;have o1:mV X (s.g++ [.dict none (bC (X.Tf k))]) s.g.length (.dict none (bC (X.Tf k))):=⟨hlt,aX⟩;cases (inferInstance:Decidable ((X.Tf k).length=0)) with
 |isTrue hz=>
  have hb:(((X.Tf k).length:Int)==0)=true:=by rw [hz];rfl
  exact run (.v ((K.T.su hkl:bJ s.g (.ref X.h.length) (.int (k:Int))=some (.ref (X.h.length+(k+1)))))<| .p (gDr (Cxd P0 d) hr)<| .p (zei (Cxd P0 d) o1.at')<| .k (eqi (X.Tf k).length 0)<| .t (hb)<| .z (q2 {s with g:=s.g++ [.dict none (bC (X.Tf k))],b:=vR s.g.length} (K.skip O (List.eq_nil_of_length_eq_zero hz) T1 rfl))) (by kernel_rfl)
 |isFalse hz=>
  have hb:(((X.Tf k).length:Int)==0)=false:=beq_false_of_ne λe=>hz (Ze.mp e);refine (zhz (d:=d) (s:={s with g:=s.g++ [.dict none (bC (X.Tf k))]}) (Qa (by decide) hd) O hk (λe=>hz (by rw [e];rfl)) ⟨⟨T1,K.len,K.row⟩,o1⟩).elim λs' e=>?_;have eg:=zej (Cxd P0 d) o1.at' k;rw [gD λq=>absurd ((O.er k hk).lt k q).1 (Q4 _)] at eg;exact run (.v ((K.T.su hkl:bJ s.g (.ref X.h.length) (.int (k:Int))=some (.ref (X.h.length+(k+1)))))<| .p (gDr (Cxd P0 d) hr)<| .p (zei (Cxd P0 d) o1.at')<| .k (eqi (X.Tf k).length 0)<| .f (hb)<| .w (R.no)<| .p (eg)<| .q (R.st (d:=d) (Qa (by decide) hd))<| .s (e.2)<| .z (q1 {s' with b:=vR s.g.length,c:=some (R.e R.one)} ⟨e.1.T,e.1.len,e.1.row⟩)) (by kernel_rfl)
end
end Tactic
namespace Tactic
open Internal
section
variable {R:Rg}{d:Nat}{h h0:MH}{Q:Val->MH->Prop}{R':Fl->Internal.Frame->MH->Prop}{X:SX R}
structure zdW (X:SX R) (i:Nat) (t:DR R):Prop where
 ok:eK X.n (X.p*X.n) (X.K*X.n+X.n+1) t
 ev: ∀N B:Nat->R.α,(∀s,s<X.n->B s=R.add (N s) (b9 (X.Tf s) B)) ->b9 t N=B i
 me:i∈aI t
theorem SR.ok {n p K i k P K':Nat}{t:DR R} (H:SR n p K i k t) (h1:p*n<=P) (h2:K*n+k<=K'):eK n P K' t:=⟨H.nd,λx hx=>(H.lt x hx).2,λq hq=>by
 have hx:q.1<n:=(H.lt _ (QI.mpr ⟨q,hq,rfl⟩)).2;exact R.D_mono (Qa (QG _ (QJ (JM hx):q.1-i<=n)) h1) (Qa (QW (QG _ (QJ (JM hx):q.1-i<=n)) _) h2) (H.dg q hq)⟩
theorem cK.done {i:Nat}{t:DR R} (ne:R.one≠R.zero) (hi:i<X.n) (I:cK X i X.n t):zdW X i (cZ t i R.one):=by
 refine ⟨u0 (I.sr.ok (Qi _) (Qi _)) hi (R.D_mono (Qs _) (Qs _) R.D_one),λN B e=>?_,?_⟩
 ·rw [lA,R.one_mul,e i hi]
  congr 1
  rw [<-I.ev N B e];exact eX λx hx=>(if_pos (I.sr.lt x hx).2).symm
 ·unfold cZ
  rw [if_neg ne];exact (eA i).mpr (.inr rfl)
structure FP (X:SX R) (i:Nat) (s:StS R):Prop where
 T:Tab X.h s.g s.T
 len:s.T.length=X.n
 row: ∀r t,s.T[r]?=some t->(i<=r->cK X r X.n t)/\(r<i->zdW X r t)
structure zbS (X:SX R) (g:MH) (T:List (DR R)):Prop where
 tb:Tab X.h g T
 len:T.length=X.n
 row: ∀r t,T[r]?=some t->zdW X r t
theorem Rg.oneF (R:Rg) (h:MH):getAttr P0 h (.top (112+R.i)) nOne=some (R.e R.one):=Wo.eq (R.oneW (Q:=λv _=>v=_) rfl)
theorem zgR {p K n:Nat} (bd:4*(p*n)+(K*n+n+1)<=3800):4*(p*n)+(K*n+n)<=3800:=Qa (QE (Qi _) (Qd _ _)) bd
abbrev s9B:List Sm:= [.expr (.call (.lit (.top 104)) [.var 0,.sub (.var 2) (.var 3),.var 3,.attr (.var 0) nOne])]
theorem zgX {k:Nat}{s:StS R} (hd:5<=d) (O:SOk X) (ne:R.one≠R.zero) (hk:k<X.n) (P:FP X k s) (q: ∀s',FP X (k+1) s'->R' .nx (stF X s'.a s'.b s'.c s'.d s'.e s'.f) s'.g):WSs (Cxd P0 d) s9B (stF X (vN k) s.b s.c s.d s.e s.f) s.g R':=by
 have hkl:k<s.T.length:=by rw [P.len];exact hk
 have hke:=Qc hkl;refine (P.T.row k _ hke).elim λep hr=>?_;refine (oL (d:=d) (j:=k) (n:=X.n) (P:=X.p*X.n) (K:=X.K*X.n+X.n) (w:=R.one) (Qa (by decide) hd) hr (((P.row k _ hke).1 (Qi _)).sr.ok (Qi _) (Qi _)) (Qa O.n (by decide)) (R.D_mono (Qs _) (Qs _) R.D_one) (zgR O.bd)).elim λep' e=>?_;have N:FP X (k+1) ⟨_,s.T.set k (cZ s.T[k] k R.one),vN k,s.b,s.c,s.d,s.e,s.f⟩:=⟨P.T.set hkl (ep:=ep'),by rw [QS];exact P.len,λr t ht=>by
  by_cases e:k=r
  ·subst e
   rw [QP hkl] at ht;cases ht;exact ⟨λh=>absurd h (KC _),λ_=>((P.row k _ hke).1 (Qi _)).done ne hk⟩
  ·rw [QO e] at ht
   have:=P.row r t ht
   exact ⟨λh=>this.1 (K6 h),λh=>this.2 (Jn (QM h) (JC e))⟩⟩
 exact run (.v ((P.T.su hkl:bJ s.g (.ref X.h.length) (.int (k:Int))=some (.ref (X.h.length+(k+1)))))<| .w (R.oneF)<| .p (e)<| .z (q _ N)) (by kernel_rfl)
abbrev zL (X:SX R):MH:=X.h++ .list ((QR (X.h.length+1) X.n).map .ref)::(Q3 X.n).map λi=>MObj.dict none (bC (X.Tf i))
theorem zcC (O:SOk X) (T0:l9 X.h X.aT ((Q3 X.n).map X.Tf)):eval (Cxd P0 d) (.comp (.call (.lit (.ty 1684628340)) [.var 9]) [9] false (.var 1) []) (some (.top (112+R.i))::some (.ref X.aT)::nn 13) X.h=some (.ref X.h.length,zL X):=by
 refine T0.x.elim λrs zq7=>?_;have a2:=zq7.2.1;rw [Qh,Q6] at a2;have hl:(rs.map Val.ref).length=X.n:=by rw [Qh,a2]
 refine W.eq (kH (a:=X.aT) (vs:=rs.map .ref) (λi=> .dict none (bC (X.Tf i))) (by rw [hl];exact Qk O.n (show 60<200000 by decide)) (by rw [hl];exact Qa O.n (by decide)) (sA rfl ⟨rfl,zq7.1,λi v t hv=>?_,by rw [hl];exact ⟨rfl,rfl⟩⟩));refine (gE hv).elim λr zq6=>?_;obtain rfl:=zq6.2;have hi:i<X.n:=by rw [<-a2];exact aJ zq6.1
 refine (zq7.2.2 i r (X.Tf i) zq6.1 (by rw [Qu,JF hi];rfl)).elim λep zq5=>?_;exact bK (.p (gDr (Cxd P0 d) (aB (t:=t) zq5))<| .z (two (.ref (X.h++t).length) (X.h++t++ [.dict none (bC (X.Tf i))]))) (by kernel_rfl)
theorem KP0 (O:SOk X):KP X 0 0 ⟨zL X,(Q3 X.n).map X.Tf,none,none,none,none,none,none⟩:=by
 have ln:((Q3 X.n).map X.Tf).length=X.n:=by rw [Qh,Q6]
 refine ⟨uN (ep:=λ_=>none),ln,λr t ht=>?_⟩;have ht:((Q3 X.n).map X.Tf)[r]?=some t:=ht;rw [if_neg (QZ _)];have hr:r<X.n:=by rw [<-ln];exact aJ ht
 rw [Qu,JF hr] at ht;cases ht;exact cK.zero O hr
theorem zhw (hd:6<=d) (O:SOk X): ∃s:StS R,KP X X.n 0 s/\exec (Cxd P0 d) (.fo [3] false rgL kB) (stF X none none none none none none) (zL X)=some ((.nx,stF X s.a s.b s.c s.d s.e s.f),s.g):=
 foR (c:=Cxd P0 d) (x:=3) (n:=X.n) (e:=rgL) (b:=kB) (λs:StS R=>stF X s.a s.b s.c s.d s.e s.f) StS.g (λk s=>KP X k 0 s) ⟨zL X,(Q3 X.n).map X.Tf,none,none,none,none,none,none⟩ (Qa O.n (by decide)) rfl (by exact bK (.p ((KP0 O).T.ln (Cxd P0 d) (KP0 O).len)<| .c<| .z (two (.rng X.n) (zL X))) (by kernel_rfl)) (KP0 O) λk s R1 _ hk P1 C1=>zgS hd O hk P1 (λs' P'=>C1.nx {s' with a:=vN k} ⟨P'.T,P'.len,P'.row⟩) λs' P'=>C1.ct {s' with a:=vN k} ⟨P'.T,P'.len,P'.row⟩
theorem zhK {s:StS R} (hd:6<=d) (O:SOk X) (ne:R.one≠R.zero) (K:KP X X.n 0 s): ∃s':StS R,FP X X.n s'/\exec (Cxd P0 d) (.fo [3] false rgL s9B) (stF X s.a s.b s.c s.d s.e s.f) s.g=some ((.nx,stF X s'.a s'.b s'.c s'.d s'.e s'.f),s'.g):=
 foR (c:=Cxd P0 d) (x:=3) (n:=X.n) (e:=rgL) (b:=s9B) (λs:StS R=>stF X s.a s.b s.c s.d s.e s.f) StS.g (λk s=>FP X k s) s (Qa O.n (by decide)) rfl (by exact bK (.p (K.T.ln (Cxd P0 d) K.len)<| .c<| .z (two (.rng X.n) s.g)) (by kernel_rfl)) ⟨K.T,K.len,λr t ht=>⟨λ_=>by
  have:=K.row r t ht
  rwa [if_neg (QZ _)] at this,λh=>absurd h (QZ _)⟩⟩ λk s R1 _ hk P1 C1=>zgX (Qa (by decide) hd) O ne hk P1 C1.nx
theorem zcA (hd:7<=d) (O:SOk X) (ne:R.one≠R.zero) (T0:l9 X.h X.aT ((Q3 X.n).map X.Tf)): ∃t,aP (Cxd P0 d) (.top 107) [.top (112+R.i),.ref X.aT] X.h=some (.ref X.h.length,X.h++t)/\∃T,zbS X (X.h++t) T:=by
 have w:WF P0 d 107 [.top (112+R.i),.ref X.aT] X.h λv g=>v= .ref X.h.length/\∃s:StS R,g=s.g/\FP X X.n s:=by
  refine bD (K:=6) hd (some (.top (112+R.i))::some (.ref X.aT)::nn 13) bd_stars_star (by kernel_rfl) λd' h'=>?_;refine (zhw (d:=d') h' O).elim λs a=>(zhK (d:=d') h' O ne a.1).elim λs' b=>?_;exact run (.p (zcC (d:=d') O T0)<| .s (a.2)<| .s (b.2)<| .z ((show Val.ref X.h.length= .ref X.h.length/\∃s2:StS R,s'.g=s2.g/\FP X X.n s2 from ⟨rfl,s',rfl,b.1⟩))) (by kernel_rfl)
 obtain ⟨v,g,e,rfl,s,rfl,P⟩:=W.get (cV (P:=P0) rfl w);obtain ⟨t,ht⟩:=P.T.pre;rw [ht] at e;exact ⟨t,e,s.T,ht▸P.T,P.len,λr t ht=>(P.row r t ht).2 (by rw [<-P.len];exact aJ ht)⟩
end
end Tactic
namespace Tactic
open Internal
section
variable {R:Rg}{d:Nat}{h h0:MH}{Q:Val->MH->Prop}{R':Fl->Internal.Frame->MH->Prop}{X:SX R}
def NB (X:SX R) (N B:Nat->R.α):Prop:= ∀s,s<X.n->B s=R.add (N s) (b9 (X.Tf s) B)
structure RS (R:Rg) where
 g:MH
 V:List R.α
 b:Option Val:=none
 c:Option Val:=none
structure RX (X:SX R) (h:MH) (aR aS:Nat) (T:List (DR R)) (row:List R.α) (P K:Nat):Prop where
 O:SOk X
 rR:h[aR]?=some (.list (row.map R.e))
 len:row.length=X.n
 dg: ∀x∈row,R.D P K x
 tb:l9 h aS T
 tl:T.length=X.n
 tr: ∀r t,T[r]?=some t->zdW X r t
 bd:4*(P+X.p*X.n)+(K+(X.K*X.n+X.n+1)+X.n)<=3800
structure RP (X:SX R) (h:MH) (row:List R.α) (P K i:Nat) (s:RS R):Prop where
 pre: ∃t,s.g=h++t
 at':s.g[h.length+1]?=some (.list (s.V.map R.e))
 len:s.V.length=X.n
 ev: ∀N B,NB X N B->R.add (dotF s.V N 0) (dotF (row.drop i) B i)=dotF row B 0
 dg: ∀x∈s.V,R.D (P+X.p*X.n) (K+(X.K*X.n+X.n+1)+i) x
structure RJ (X:SX R) (h:MH) (row:List R.α) (P K i aL:Nat) (y:R.α) (t:DR R) (j:Nat) (s:RS R):Prop where
 pre: ∃t,s.g=h++t
 at':s.g[h.length+1]?=some (.list (s.V.map R.e))
 len:s.V.length=X.n
 ev: ∀N B,NB X N B->R.add (dotF s.V N 0) (R.add (R.mul y (cD (((a8 t).drop j).map λx=>R.mul (rget t x) (N x)))) (dotF (row.drop (i+1)) B (i+1)))=dotF row B 0
 dg: ∀x∈s.V,R.D (P+X.p*X.n) (K+(X.K*X.n+X.n+1)+(i+1)) x
 dl: ∀ (m:Nat) x,s.V[m]?=some x->m∈(a8 t).drop j->R.D (P+X.p*X.n) (K+(X.K*X.n+X.n+1)+i) x
 ge:h.length+1<aL
 l:s.g[aL]?=some (.list ((a8 t).map λn:Nat=> .int (n:Int)))
def rtF (R:Rg) (h:MH) (aR aS:Nat) (b c:Option Val):Internal.Frame:=some (.top (112+R.i))::some (.ref aR)::some (.ref aS)::some (.ref (h.length+1))::b::c::nn 6
abbrev rtJ:List Sm:= [.asg (.sb (.var 3) (.var 5)) (.meth (.var 0) 1886156147 [.sub (.var 3) (.var 5),.meth (.var 0) 499984983411 [.sub (.var 1) (.var 4),.sub (.sub (.var 2) (.var 4)) (.var 5)]])]
variable {aR aS:Nat}{T:List (DR R)}{row:List R.α}{P K:Nat}
theorem l9.su {g:MH}{aT:Nat}{T:List (DR R)}{i:Nat}{t:DR R} (H:l9 g aT T) (ht:T[i]?=some t): ∃r ep,bJ g (.ref aT) (.int (i:Int))=some (.ref r)/\g[r]?=some (.dict ep (bC t)):=by
 refine H.x.elim λrs zq3=>?_;have hi:i<rs.length:=by rw [zq3.2.1];exact aJ ht
 obtain ⟨ep,e⟩:=zq3.2.2 i _ t (Qc hi) ht;exact ⟨_,ep,sl (i:=i) zq3.1 (g8 (Qc hi)),e⟩
theorem zgY {P K p K' n i:Nat} (hi:i<n) (bd:4*(P+p*n)+(K+(K'*n+n+1)+n)<=3800):4*(P+p*n)+(K+(K'*n+n+1))<=3800/\4*(P+p*n)+(K+(K'*n+n+1)+i)<=3800:=⟨Qa (QE (Qi _) (Qd _ _)) bd,QJ (Qf (QK (QK hi _) _) bd)⟩
theorem RJ.put {i j x aL:Nat}{y v:R.α}{t:DR R}{s:RS R} (I:RJ X h row P K i aL y t j s) (hx:(a8 t)[j]?=some x) (hxd:x∉ (a8 t).drop (j+1)) (hVe:s.V[x]?=some v) (hv:R.D (P+X.p*X.n) (K+(X.K*X.n+X.n+1)+i) v) (hm:R.D (P+X.p*X.n) (K+(X.K*X.n+X.n+1)) (R.mul y (rget t x))):
  RJ X h row P K i aL y t (j+1) ⟨s.g.set (h.length+1) (.list ((s.V.set x (R.add v (R.mul y (rget t x)))).map R.e)),s.V.set x (R.add v (R.mul y (rget t x))),none,vN x⟩:=by
 have hxV:=aJ hVe;refine I.pre.elim λtl zq1=>?_;refine ⟨⟨_,by show s.g.set _ _=_;rw [zq1];exact g6 (Jv _)⟩,bH I.at',by show (s.V.set _ _).length=_;rw [QS];exact I.len,λN B e=>?_,λz hz=>?_,λm z hz hm=>?_,I.ge,a7 (λe=>absurd (e▸I.ge) (Q4 _)) I.l⟩
 ·rw [<-I.ev N B e,<-(by unfold dX;rw [hVe];rfl:dX s.V x (R.mul y (rget t x))=s.V.set x (R.add v (R.mul y (rget t x)))),nO hxV,gN hx,QC,aG,R.mul_add,JA,<-R.mul_assoc,R.add_assoc,R.add_assoc,R.swap]
 ·exact (J7 hz).elim (I.dg z) λe=>e▸(R.D_add hv (R.D_mono (Qi _) (Qd _ _) hm):R.D (P+X.p*X.n) (K+(X.K*X.n+X.n+1)+(i+1)) (R.add v (R.mul y (rget t x))))
 ·have hz:(s.V.set x (R.add v (R.mul y (rget t x))))[m]?=some z:=hz
  rw [QO (λe=>hxd (e▸hm):x≠m)] at hz;exact I.dl m z hz (by rw [gN hx];exact .tail _ hm)
theorem zfg {i j x aL:Nat}{y:R.α}{t:DR R}{s:RS R} (hd:4<=d) (C:RX X h aR aS T row P K) (hy:row[i]?=some y) (ht:T[i]?=some t) (hx:(a8 t)[j]?=some x) (I:RJ X h row P K i aL y t j s)
  (q: ∀s',RJ X h row P K i aL y t (j+1) s'->R' .nx (rtF R h aR aS (vN i) s'.c) s'.g):WSs (Cxd P0 d) rtJ (rtF R h aR aS (vN i) (vN x)) s.g R':=by
 have D:=C.tr i t ht;have hxk:x∈aI t:=cI.mem_iff.mp (Qe hx);have hVe:=pL (l:=s.V) (s:=x) (by rw [I.len];exact D.ok.lt x hxk);have nd:=qN D.ok.nd;rw [<-Zq j (a8 t),gN hx] at nd;have hxd:=(Qx.mp (Zc.mp nd).2.1).1;have hv:=I.dl x _ hVe (by rw [gN hx];exact .head _);have hDy:=C.dg y (Qe hy);have hm:=R.D_mul hDy (D.ok.get x);have B:=zgY (by rw [<-C.len];exact aJ hy:i<X.n) C.bd;have d3:3<=d:=Qa (by decide) hd;refine I.pre.elim λtl eg=>?_;have rR:s.g[aR]?=some (.list (row.map R.e)):=eg▸aB C.rR;refine (l9.su (g:=s.g) (eg▸C.tb.app) ht).elim λr w=>w.elim λep w=>?_;have e:=zfa (R.add (at' s.V x) (R.mul y (rget t x))) I.at' (aJ hVe);exact run (.v (sl I.at' (mT hVe))<| .v (sl rR (mT hy))<| .v (w.1)<| .v (sR w.2 hxk)<| .q (R.ti d3 hDy (D.ok.get x) B.1)<| .q (R.pl d3 hv (R.D_mono (Qi _) (Qd _ _) hm) B.2)<| .h (e)<| .z (q _ (I.put hx hxd hVe hv hm))) (by kernel_rfl)
end
end Tactic
namespace Tactic
open Internal
section
variable {R:Rg}{d:Nat}{h h0:MH}{Q:Val->MH->Prop}{R':Fl->Internal.Frame->MH->Prop}{X:SX R}{aR aS:Nat}{T:List (DR R)}{row:List R.α}{P K:Nat}
abbrev rtI:List Sm:= [.ite (.cmp .ne (.sub (.var 1) (.var 4)) (.attr (.var 0) 121424990136436)) [.fo [5] false (.call (.lit (.bi 126922498794852)) [.sub (.var 2) (.var 4)]) rtJ] []]
theorem RP.next {i:Nat}{s s':RS R} (I:RP X h row P K i s) (e1:s'.g=s.g) (e2:s'.V=s.V) (hi:row[i]?=some R.zero):RP X h row P K (i+1) s':=by
 refine (Qn.mp hi).elim λh1 zq3=>?_;refine ⟨by rw [e1];exact I.pre,by rw [e1,e2];exact I.at',by rw [e2];exact I.len,λN B e=>?_,λx hx=>R.D_mono (Qi _) (Jv _) (I.dg x (e2▸hx))⟩;rw [e2,<-I.ev N B e,jA h1,zq3,R.zero_mul,R.zero_add]
theorem zfi {i:Nat}{y:R.α}{t:DR R}{s:RS R} (hd:4<=d) (C:RX X h aR aS T row P K) (hy:row[i]?=some y) (ht:T[i]?=some t) (I:RP X h row P K i s): ∃s':RS R,RP X h row P K (i+1) s'/\exec (Cxd P0 d) (.fo [5] false (.call (.lit (.bi 126922498794852)) [.sub (.var 2) (.var 4)]) rtJ) (rtF R h aR aS (vN i) s.c) s.g=some ((.nx,rtF R h aR aS (vN i) s'.c),s'.g):=by
 have D:=C.tr i t ht;refine I.pre.elim λtl eg=>(l9.su (g:=s.g) (eg▸C.tb.app) ht).elim λr w=>w.elim λep w=>?_;have tne:t≠ []:=λe=>by have:=D.me;rw [e] at this;exact absurd this Qr
 have hlen:=Qa D.ok.len C.O.n;have lt:=bE I.at';have hvl:((a8 t).map λn:Nat=>Val.int (n:Int)).length=(a8 t).length:=Qh ..;have W1:WS (Cxd P0 d) (.fo [5] false (.call (.lit (.bi 126922498794852)) [.sub (.var 2) (.var 4)]) rtJ) (rtF R h aR aS (vN i) s.c) s.g λfl f g=> ∃s':RS R,RJ X h row P K i s.g.length y t (a8 t).length s'/\fl= .nx/\f=rtF R h aR aS (vN i) s'.c/\g=s'.g:=by
  refine kG (a:=s.g.length) (vs:=(a8 t).map λn:Nat=> .int (n:Int)) (λs':RS R=>rtF R h aR aS (vN i) s'.c) RS.g (RJ X h row P K i s.g.length y t) (by rw [hvl];exact Qk (by rw [cI.length_eq,m9];exact hlen:(a8 t).length<=60) (show 60<200000 by decide)) ⟨s.g++ [.list ((a8 t).map λn:Nat=> .int (n:Int))],s.V,none,s.c⟩ (λj s' P'=>P'.l) ((by exact bK (.v (w.1)<| .p (gSo (Cxd P0 d) w.2 tne hlen)<| .z (two (.ref s.g.length) (s.g++ [.list ((a8 t).map λn:Nat=> .int (n:Int))]))) (by kernel_rfl):WE (Cxd P0 d) (rtF R h aR aS (vN i) s.c) (.call (.lit (.bi 126922498794852)) [.sub (.var 2) (.var 4)]) s.g λv g=>v= .ref s.g.length/\g=s.g++ [.list ((a8 t).map λn:Nat=> .int (n:Int))]).mono λv g q=>⟨q.1,rfl,q.2,⟨tl++ [.list ((a8 t).map λn:Nat=> .int (n:Int))],by show s.g++_=_;rw [eg,Qt]⟩,aB I.at',I.len,λN B e=>?_,λx hx=>R.D_mono (Qi _) (Jv _) (I.dg x hx),λm x hx _=>I.dg x (Qe hx),lt,aX⟩) (λj v s' R2 hv P2 C2=>?_) λs' P'=>⟨s',hvl▸P',rfl,rfl,rfl⟩
  ·obtain ⟨h1,h2⟩:=Qn.mp hy
   rw [<-I.ev N B e,jA h1,h2,X4,nA cI D.ok.nd,D.ev N B e]
  ·rw [Qu] at hv
   refine (JK.mp hv).elim λx zq1=>?_;obtain rfl:=zq1.2;exact c9 (zfg hd C hy ht zq1.1 P2 C2.nx)
 obtain ⟨⟨fl,f⟩,g,e,s',P2,q1,q2,q3⟩:=W.get W1;cases q1;cases q2;cases q3;refine ⟨s',⟨P2.pre,P2.at',P2.len,λN B hNB=>?_,P2.dg⟩,e⟩;rw [<-P2.ev N B hNB,Za];show _=R.add _ (R.add (R.mul y R.zero) _);rw [R.mul_zero,R.zero_add]
theorem zfh {i:Nat}{s:RS R} (hd:4<=d) (C:RX X h aR aS T row P K) (hi:i<X.n) (I:RP X h row P K i s)
  (q: ∀s',RP X h row P K (i+1) s'->R' .nx (rtF R h aR aS (vN i) s'.c) s'.g):WSs (Cxd P0 d) rtI (rtF R h aR aS (vN i) s.c) s.g R':=by
 have hy:=pL (l:=row) (s:=i) (by rw [C.len];exact hi);have rR:s.g[aR]?=some (.list (row.map R.e)):=I.pre.elim λtl eg=>eg▸aB C.rR;cases hq:R.deq (at' row i) R.zero with
 |isTrue hz=>
  have hf:(!@decide (at' row i=R.zero) (R.deq _ _))=false:=by rw [R.yes hz];rfl
  exact run (.v (sl rR (mT hy))<| .w (R.no)<| .k (R.qn (at' row i) R.zero)<| .f (hf)<| .z (q s (I.next rfl rfl (hy.trans (congrArg some hz))))) (by kernel_rfl)
 |isFalse hz=>
  have hf:(!@decide (at' row i=R.zero) (R.deq _ _))=true:=by rw [R.not hz];rfl
  refine (zfi (d:=d) hd C hy (Qc (l:=T) (i:=i) (by rw [C.tl];exact hi)) I).elim λs' e=>?_;exact run (.v (sl rR (mT hy))<| .w (R.no)<| .k (R.qn (at' row i) R.zero)<| .t (hf)<| .s (e.2)<| .z (q s' e.1)) (by kernel_rfl)
abbrev rt0 (R:Rg) (h:MH) (n:Nat):MH:=h++ [.list [R.e R.zero]]++ [.list ((b7 R n).map R.e)]
theorem oM (hd:5<=d) (C:RX X h aR aS T row P K)
  (q: ∀t V,(h++t)[h.length+1]?=some (.list (V.map R.e)) ->V.length=X.n->(∀x∈V,R.D (P+X.p*X.n) (K+(X.K*X.n+X.n+1)+X.n) x) ->(∀N B,NB X N B->dotF V N 0=dotF row B 0) ->Q (.ref (h.length+1)) (h++t)):WF P0 d 132 [.top (112+R.i),.ref aR,.ref aS] h Q:=by
 refine bD (K:=4) hd (some (.top (112+R.i))::some (.ref aR)::some (.ref aS)::nn 9) bd_stars_row_times (by kernel_rfl) λd' h'=>?_;have e1:(h++ [MObj.list [R.e R.zero]]).length=h.length+1:=by rw [Qv];rfl
 have em:=R.mulN h (n:=X.n) (Qa C.O.n (by decide));rw [e1] at em;have ln:(row.map R.e).length=X.n:=by rw [Qh,C.len]
 have len1:aP (Cxd P0 d') (.bi nLen) [.ref aR] (h++ [.list [R.e R.zero]])=some (.int X.n,h++ [.list [R.e R.zero]]):=by rw [zaO (aB C.rR),ln]
 have P0':RP X h row P K 0 ⟨rt0 R h X.n,b7 R X.n,none,none⟩:=⟨⟨_,Qt ..⟩,by rw [<-e1];exact aX,zb0,λN B _=>by rw [eH,R.zero_add];rfl,λx hx=>by rw [Jj hx];exact R.D_mono (Qs _) (Qs _) R.D_zero⟩;refine (foR (c:=Cxd P0 d') (x:=4) (n:=X.n) (e:=.call (.lit (.ty 491260897125)) [.call (.lit (.bi 7103854)) [.var 1]]) (b:=rtI) (λs:RS R=>rtF R h aR aS s.b s.c) RS.g (RP X h row P K) ⟨rt0 R h X.n,b7 R X.n,none,none⟩ (Qa C.O.n (by decide)) rfl (by exact bK (.p ((by rw [zaO (aB (aB C.rR):(rt0 R h X.n)[aR]?=some (.list (row.map R.e))),ln]:aP (Cxd P0 d') (.bi nLen) [.ref aR] (rt0 R h X.n)=some (.int X.n,rt0 R h X.n)))<| .c<| .z (two (.rng X.n) (rt0 R h X.n))) (by kernel_rfl)) P0' λi s R1 _ hi P1 C1=>zfh h' C hi P1 λs' P'=>C1.nx {s' with b:=vN i} ⟨P'.pre,P'.at',P'.len,P'.ev,P'.dg⟩).elim λs e=>e.1.pre.elim λt ht=>?_;have P1:=e.1;have e2:=e.2;rw [ht] at e2;have ev:=P1.ev;rw [<-C.len,Za] at ev;exact run (.w (R.no)<| .p (len1)<| .p (em)<| .s (e2)<| .z (q t s.V (ht▸P1.at') P1.len P1.dg λN B hN=>(R.add_zero _).symm.trans (ev N B hN))) (by kernel_rfl)
end
end Tactic
namespace Tactic
open Internal
section
variable {R:Rg}{d:Nat}{h h0:MH}{Q:Val->MH->Prop}{R':Fl->Internal.Frame->MH->Prop}{L:Ly}{M:Mc R.α}
abbrev sX (g:MH) (aT:Nat) (M:Mc R.α) (p K:Nat):SX R:=⟨g,aT,M.arcs.length,p,K,λs=>b5 (aAt M s)⟩
theorem tabs_all:cX M M.arcs.length 0=(Q3 M.arcs.length).map λs=>b5 (aAt M s):=Jq λs hs=>by
 unfold gP;rw [if_pos (Zm.mp hs)]
theorem zd9 {g:MH}{aT p k K:Nat} (I:IsM R h L M) (G:a9 M p k) (U:upE M) (hn:M.arcs.length<=60) (hK:k+M.cnt<=K) (bd:4*(p*M.arcs.length)+(K*M.arcs.length+M.arcs.length+1)<=3800):SOk (sX g aT M p K):=by
 refine ⟨λs hs=>?_,hn,bd⟩;have hs:s<M.arcs.length:=hs;have hx:=zbR (Qc hs);have hm:=Jk hs;obtain ⟨ok,up⟩:=m4 (R:=R) (n:=M.arcs.length) (p:=p) (k:=k) (s:=s) (xs:=M.arcs[s]) λc hc=>by
  exact ⟨(G.arc _ hm c hc).1,(G.arc _ hm c hc).2.2.2.1,λq=>U s _ (Qc hs) c hc q⟩
 show ER _ _ _ _ (b5 (aAt M s));rw [hx]
 have:=I.cr _ hm
 exact ⟨ok.nd,λx hx=>⟨up x hx,ok.lt x hx⟩,λq hq=>R.D_mono (Qi _) (by show _<=K;exact Qa (Qm this _) hK) (ok.dg q hq)⟩
theorem zhD (hd:2<=d) (I:IsM R h L M):bI (Cxd P0 d) (.ref L.m) 1925483444799026525305 [] h h=some (.bool (M.arcs.any λr=>r.any Ar.emp),h):=me (bY I.obj rfl rfl) (zdm hd I ⟨rfl,rfl⟩)
inductive EsR (M:Mc R.α) (p K:Nat) (h:MH) (v:Val) (g:MH):Prop
 |no (e:nD M) (hv:v= .none) (hg:g=h):EsR M p K h v g
 |so (t1 t2:MH) (T:List (DR R)) (S:zbS (sX (h++t1) h.length M p K) (h++t1++t2) T) (hv:v= .ref (h++t1).length) (hg:g=h++t1++t2):EsR M p K h v g
theorem zfW {p k K:Nat} (hd:8<=d) (I:IsM R h L M) (G:a9 M p k) (U:upE M) (ne:R.one≠R.zero) (hn:M.arcs.length<=60) (hK:k+M.cnt<=K) (bd:4*(p*M.arcs.length)+(K*M.arcs.length+M.arcs.length+1)<=3800) (bd2:4*p+(k+300)<=3800):
  ∃v g,aP (Cxd P0 d) (.top 131) [.ref L.m] h=some (v,g)/\EsR M p K h v g:=by
 have w:WF P0 d 131 [.ref L.m] h (EsR M p K h):=by
  refine bD (K:=7) hd (some (.ref L.m)::nn 6) bd_stars_empty_star (by kernel_rfl) λd' h'=>?_;cases hE:M.arcs.any λr=>r.any Ar.emp with
  |false=>exact run (.p (zhD (Qa (by decide) h':2<=d') I)<| .c<| .t (nF hE)<| .z ((show EsR M p K h .none h from .no hE rfl rfl))) (by kernel_rfl)
  |true=>
   obtain ⟨v,g,e,rfl,t,rfl,T⟩:=W.get (cV (P:=P0) (d:=d') rfl (zC (Q:=λv g=>v= .ref h.length/\∃t,g=h++t/\Tab h (h++t) (cX M M.arcs.length 0)) (Qa (by decide) h') I G U bd2 λt T=>⟨rfl,t,rfl,T⟩));refine (zcA (d:=d') (X:=sX (h++t) h.length M p K) h' (zd9 I G U hn hK bd) ne (tabs_all▸T.r)).elim λt2 a=>a.2.elim λT2 S=>?_;exact run (.p (zhD (Qa (by decide) h':2<=d') I)<| .c<| .f (nT hE)<| .v (cA I)<| .p (e)<| .p (a.1)<| .z ((show EsR M p K h (.ref (h++t).length) (h++t++t2) from .so t t2 T2 S rfl rfl))) (by kernel_rfl)
 refine (W.get (cV (P:=P0) rfl w)).elim λv zq1=>zq1.elim λg zq2=>?_;exact ⟨v,g,zq2.1,zq2.2⟩
end
end Tactic
namespace Tactic
open Internal
section
variable {R:Rg}{d:Nat}{h h0:MH}{Q:Val->MH->Prop}{R':Fl->Internal.Frame->MH->Prop}{L:Ly}{M:Mc R.α}
theorem zhY {g:MH}{aT p K i j:Nat}{u l:List Nat} (H:fG M) (hi:i<=u.length) (hj:j<=l.length):NB (sX g aT M p K) (rO M (Bv M u l) u l i j) (Bv M u l i j):=λs hs=>by
 show Bv M u l i j s=R.add _ (b9 (b5 (aAt M s)) _);rw [mI H hi hj,lV,sH]
theorem zhc {g g0:MH}{L':Ly}{T:Mc R.α}{u l:List Nat}{S:List (DR R)}{pW kW p k pS kS K aT:Nat} (H:fG T) (O:SOk (sX g aT T p K)) (Z:zbS (sX g aT T p K) g0 S) (h1:p*T.arcs.length<=pS) (h2:K*T.arcs.length+T.arcs.length+1+T.arcs.length<=kS):
  pO (wX g0 L' T u l (.ref g.length) pW kW p k pS kS):=by
 refine ⟨.inr ⟨_,rfl⟩,(λe=>nomatch e),λaT' e {d P K' aR g1 row Q} hd hg hR hl hD hb q=>?_⟩;have e:g.length=aT':=by
  injection (e:Val.ref g.length= .ref aT')
 subst e;obtain ⟨t,rfl⟩:=hg;refine oM (X:=sX g aT T p K) (T:=S) (P:=P) (K:=K') hd ⟨O,hR,hl,hD,Z.tb.r.app,Z.len,Z.row,?_⟩ λt2 V a1 a2 a3 a4=>?_
 ·show 4*(P+p*T.arcs.length)+(K'+(K*T.arcs.length+T.arcs.length+1)+T.arcs.length)<=3800
  exact Qa (QE (QG 4 (Qm h1 P)) (Qa (QA (QY _ _ _)) (Qm h2 K'))) hb
 ·refine q t2 _ V (Jv _) a1 a2 (λx hx=>R.D_mono (Qm h1 P) ?_ (a3 x hx)) λi j hi hj=>(a4 _ _ (zhY H hi hj)).symm
  show K'+(K*T.arcs.length+T.arcs.length+1)+T.arcs.length<=K'+kS;exact Qa (QA (QY _ _ _)) (QE (Qi _) h2)
theorem gNs (hd:4<=d) {u:List Nat} (hu: ∀c∈u,mP c=true) (lu:u.length<=200) (h:MH): ∃v,aP (Cxd P0 d) (.top 130) [.str u] h=some (v,h):=by
 obtain ⟨v,g,e,rfl⟩:=W.get (cV (P:=P0) (d:=d) rfl (zfu (Q:=λ_ g=>g=h) (hd) hu lu rfl));exact ⟨v,e⟩
structure TwR (M:Mc R.α) (h t:MH) (L':Ly) (T:Mc R.α) (p k:Nat) (u l:List Nat):Prop where
 J:IsM R (h++t) L' T
 G:a9 T p k
 U:upE T
 n:T.arcs.length<=M.arcs.length
 c:T.cnt<=M.cnt
 w:R.mul T.first (Bv T u l 0 0 T.start)=R.mul M.first (Bv M u l 0 0 M.start)
theorem ze0 {p k:Nat} (hd:6<=d) (I:IsM R h L M) (G:a9 M p k) (U:upE M) (u l:List Nat): ∃t L' T,aP (Cxd P0 d) (.top 133) [.ref L.m] h=some (.ref L'.m,h++t)/\TwR M h t L' T p k u l:=by
 obtain ⟨v,g,e,t,L',T,rfl,rfl,q⟩:=W.get (cV (P:=P0) rfl (zcs (Q:=λv g=> ∃t L' T,v= .ref L'.m/\g=h++t/\TwR M h t L' T p k u l) hd I G λt L' T ks mb1 mb2 xss J ho TB TR=>by
  have TG:=v3 I G TB TR J;exact ⟨t,L',T,rfl,rfl,J,TG.g,TG.up U,TG.len,TG.cnt,pZ I G TB TR (G.lab U) (TG.g.lab (TG.up U))⟩))
 exact ⟨t,L',T,e,q⟩
theorem zgE {p k n n' c c' x y B:Nat} (hn:n'<=n) (hc:c'<=c) (n60:n<=60) (cl:1+(x+1)*(y+1)*(c+1)<B)
  (bd:4*((p+p*n)*(x+y+2))+((k+((k+c)*n+n+1+n))*(x+y+2)+(1+(x+1)*(y+1)*(c+1)+n))<=3800):
  p*n'<=p*n/\(k+c)*n'+n'+1+n'<=(k+c)*n+n+1+n/\4*(p*n')+((k+c)*n'+n'+1)<=3800/\1+(x+1)*(y+1)*(c'+1)<B/\4*((p+p*n)*(x+y+2))+((k+((k+c)*n+n+1+n))*(x+y+2)+(1+(x+1)*(y+1)*(c'+1)+n'))<=3800/\1+(x+1)*(y+1)*(c'+1)+n'<=1+(x+1)*(y+1)*(c+1)+n:=by
 have h0:=QG ((x+1)*(y+1)) (Q8 hc);have h4:(k+c)*n'+n'+1+n'<=(k+c)*n+n+1+n:=QE (QW (QE (QG (k+c) hn) hn) 1) hn;refine ⟨(QG p hn),h4,?_,Qk (Qm h0 1) cl,Qa (Qm (Qm (QE (Qm h0 1) hn:1+(x+1)*(y+1)*(c'+1)+n'<=1+(x+1)*(y+1)*(c+1)+n) _) _) bd,(QE (Qm h0 1) hn:1+(x+1)*(y+1)*(c'+1)+n'<=1+(x+1)*(y+1)*(c+1)+n)⟩;exact Qa (QE (QG 4 (Qa (Qa (QG p hn) (Ql _ _)) (Jy (p+p*n) (Jt (x+y+1))):p*n'<=(p+p*n)*(x+y+2))) (Qa (Qa (Qa (Qa (Qd _ n') h4) (Ql _ _)) (Jy (k+((k+c)*n+n+1+n)) (Jt (x+y+1))):(k+c)*n'+n'+1<=(k+((k+c)*n+n+1+n))*(x+y+2)) (Qd _ _))) bd
theorem WOk.of {g:MH}{T:Mc R.α}{L':Ly}{u l:List Nat}{ov:Val}{p k pS kS:Nat} (J:IsM R g L' T) (G:a9 T p k) (cl:1+(u.length+1)*(l.length+1)*(T.cnt+1)<100000) (bd:4*((p+pS)*(u.length+l.length+2))+((k+kS)*(u.length+l.length+2)+(1+(u.length+1)*(l.length+1)*(T.cnt+1)+T.arcs.length))<=3800):WOk (wX g L' T u l ov (p+pS) (k+kS) p k pS kS):=⟨J,G,Qi _,Qi _,cl,bd⟩
theorem r7 {p k:Nat}{u l:List Nat} (hd:10<=d) (I:IsM R h L M) (G:a9 M p k) (U:upE M) (ne:R.one≠R.zero) (hn:M.arcs.length<=60) (hu: ∀c∈u,mP c=true) (hl: ∀c∈l,mP c=true) (lu:u.length<=200) (ll:l.length<=200)
  (cl:1+(u.length+1)*(l.length+1)*(M.cnt+1)<100000) (bd2:4*p+(k+300)<=3800)
  (hbd:4*((p+p*M.arcs.length)*(u.length+l.length+2))+((k+((k+M.cnt)*M.arcs.length+M.arcs.length+1+M.arcs.length))*(u.length+l.length+2)+(1+(u.length+1)*(l.length+1)*(M.cnt+1)+M.arcs.length))<=3800)
  (q: ∀t,R.D ((p+p*M.arcs.length)*(u.length+l.length+2)) ((k+((k+M.cnt)*M.arcs.length+M.arcs.length+1+M.arcs.length))*(u.length+l.length+2)+(1+(u.length+1)*(l.length+1)*(M.cnt+1)+M.arcs.length)) (R.mul M.first (Bv M u l 0 0 M.start)) ->Q (R.e (R.mul M.first (Bv M u l 0 0 M.start))) (h++t)):WF P0 d 106 [.ref L.m,.str u,.str l] h Q:=by
 refine bD (K:=9) hd (some (.ref L.m)::some (.str u)::some (.str l)::nn 15) bd_run_weight (by kernel_rfl) λd' h'=>?_;refine (gNs (d:=d') (Qa (by decide) h':4<=d') hu lu h).elim λv1 a=>(gNs (d:=d') (Qa (by decide) h':4<=d') hl ll h).elim λv2 b=>?_;refine (ze0 (d:=d') (Qa (by decide) h') I G U u l).elim λt c=>c.elim λL' c=>c.elim λT c=>?_;have Z:=c.2;have B:=zgE Z.n Z.c hn cl hbd;refine (zfW (d:=d') (K:=k+M.cnt) (Qa (by decide) h') Z.J Z.G Z.U ne (Qa Z.n hn) (Qm Z.c k) B.2.2.1 bd2).elim λov e=>e.elim λg e=>?_;refine eR (a:=bd_run_weight.take 5) (b:=bd_run_weight.drop 5) ?_;have fin: ∀ (g:MH) (t2:MH),g++t2=h++(g.drop h.length++t2) ->R.D ((p+p*M.arcs.length)*(u.length+l.length+2)) ((k+((k+M.cnt)*M.arcs.length+M.arcs.length+1+M.arcs.length))*(u.length+l.length+2)+(1+(u.length+1)*(l.length+1)*(T.cnt+1)+T.arcs.length)) (R.mul T.first (Bv T u l 0 0 T.start)) ->Q (R.e (R.mul T.first (Bv T u l 0 0 T.start))) (g++t2):=λg t2 hg hD=>by
  rw [Z.w] at hD ⊢;rw [hg];exact q _ (R.D_mono (Qi _) (Qm B.2.2.2.2.2 _) hD)
 have dr: ∀s t2:MH,(h++s)++t2=h++((h++s).drop h.length++t2):=λs t2=>by rw [List.drop_left,Qt]
 have tail:WSs (Cxd P0 d') (bd_run_weight.drop 5) (some (.ref L'.m)::some (.str u)::some (.str l)::some (.top (112+R.i))::some ov::nn 13) g (Internal.Fin Q):=by
  cases e.2 with
  |no hE hv hg=>
   rw [hv,hg];exact pV (X:=wX (h++t) L' T u l .none (p+p*M.arcs.length) (k+((k+M.cnt)*M.arcs.length+M.arcs.length+1+M.arcs.length)) p k _ _) (Qa (by decide) h') (WOk.of Z.J Z.G B.2.2.2.1 B.2.2.2.2.1) ⟨.inl rfl,λ_ i j s hi hj _=>by
    show Bv T u l i j s=_;rw [mI (Z.G.lab Z.U) hi hj,lV,xT λa ha=>xG hE ha,R.add_zero],λaT e=>nomatch e⟩ rfl rfl rfl (Qd _ _) (Qd _ _) λt2=>fin (h++t) t2 (dr t t2)
  |so t1 t2 S SS hv hg=>
   rw [hv,hg];exact pV (X:=wX (h++t++t1++t2) L' T u l (.ref (h++t++t1).length) (p+p*M.arcs.length) (k+((k+M.cnt)*M.arcs.length+M.arcs.length+1+M.arcs.length)) p k _ _) (Qa (by decide) h') (WOk.of Z.J.app.app Z.G B.2.2.2.1 B.2.2.2.2.1) (zhc (Z.G.lab Z.U) (zd9 Z.J Z.G Z.U (Qa Z.n hn) (Qm Z.c k) B.2.2.1) SS B.1 B.2.1) rfl rfl rfl (Qd _ _) (Qd _ _) λt3=>fin (h++t++t1++t2) t3 (by rw [Qt h,Qt h];exact dr _ t3)
 exact run (.p (a)<| .p (b)<| .v (cA I)<| .p (c.1)<| .p (e.1)<| .z (d8 tail)) (by kernel_rfl)
end
end Tactic
namespace Tactic
open Internal
def eB (b:Bool):Val:= .int (bif b then 1 else 0)
def RYes:Rg where
 i:=0
 hi:=by decide
 α:=Bool
 deq:=inferInstance
 e:=eB
 zero:=false
 one:=true
 add:=or
 mul:=and
 D:=λ_ _ _=>True
 add_comm:=Bool.or_comm
 add_assoc:=Bool.or_assoc
 zero_add:=YY
 mul_comm:=Bool.and_comm
 mul_assoc:=Bool.and_assoc
 one_mul:=Wb
 zero_mul:=XY
 mul_add:=Bool.and_or_distrib_left
 noE:=rfl
 onE:=rfl
 isv:=λ_=>rfl
 veq_ok:=λh a b=>iA.trans (congrArg some (by cases a<;>cases b<;>rfl))
 D_mono:=λ_ _ _=>trivial
 D_zero:=trivial
 D_one:=trivial
 D_add:=λ_ _=>trivial
 D_mul:=λ_ _=>trivial
 plus_ok:=λ{p k a b} _ _ _=>by cases a<;>cases b<;>rfl
 times_ok:=λ{p q k l a b} _ _ _=>by cases a<;>cases b<;>rfl
 need_ok:=λ{p k a d h0 h Q} hd _ _ q=>a6 (f:=142) (self:=[.top 112]) rfl (by
  cases a
  ·exact bN (K:=0) (Qa (Ql _ _) hd) (λ_=>rfl) q
  ·exact bN (K:=0) (Qa (Ql _ _) hd) (λ_=>rfl) q)
 star_ok:=λ{d h0 h Q} hd q=>a6 (f:=145) (self:=[.top 112]) rfl (bN (K:=0) (Qa (Ql _ _) hd) (λ_=>rfl) q)
def eO (x:Option Nat):Val:=Qq (motive:=λ_=>Val) x .none λn=> .int n
def zik (x y:Option Nat):Option Nat:=Qq (motive:=λ_=>Option Nat) x y λn=>Qq (motive:=λ_=>Option Nat) y x λm=>some (if m<n then m else n)
def plO (x y:Option Nat):Option Nat:=x.bind λn=>y.map λm=>n+m
theorem zaL {d n:Nat}{h:MH}{Q:Val->MH->Prop}{s:Val} (hd:1<=d) (hn:n<wB) (q:Q (.int n) h):WF P0 d 147 [s,.int n] h Q:=by
 refine bD (K:=0) hd (some s::some (.int n)::nn 6) bd_Least_need (by kernel_rfl) λd' h'=>?_;exact run (.c4<| .c4<| .f (iJ hn)<| .z (q)) (by kernel_rfl)
def RLeast:Rg where
 i:=1
 hi:=by decide
 α:=Option Nat
 deq:=inferInstance
 e:=eO
 zero:=none
 one:=some 0
 add:=zik
 mul:=plO
 D:=λp _ x=> ∀n,x=some n->n<=3*p
 add_comm:=λa b=>by
  cases a with
  |none=>cases b<;>rfl
  |some n=>cases b with
   |none=>rfl
   |some m=>show some _=some _;congr 1;split<;>split<;>lia
 add_assoc:=λa b c=>by
  cases a with
  |none=>rfl
  |some n=>cases b with
   |none=>rfl
   |some m=>cases c with
    |none=>rfl
    |some k=>show some _=some _;congr 1;(repeat' split)<;>lia
 zero_add:=λa=>rfl
 mul_comm:=λa b=>by
  cases a with
  |none=>cases b<;>rfl
  |some n=>cases b with
   |none=>rfl
   |some m=>exact congrArg some (Ju n m)
 mul_assoc:=λa b c=>by
  cases a with
  |none=>rfl
  |some n=>cases b with
   |none=>rfl
   |some m=>cases c with
    |none=>rfl
    |some k=>exact congrArg some (QY n m k)
 one_mul:=λa=>by
  cases a with
  |none=>rfl
  |some n=>exact congrArg some (JA n)
 zero_mul:=λa=>rfl
 mul_add:=λa b c=>by
  cases a with
  |none=>rfl
  |some n=>cases b with
   |none=>cases c<;>rfl
   |some m=>cases c with
    |none=>rfl
    |some k=>show some (n+if k<m then k else m)=some (if n+k<n+m then n+k else n+m);congr 1;(repeat' split)<;>lia
 noE:=rfl
 onE:=rfl
 isv:=λa=>by cases a<;>rfl
 veq_ok:=λh a b=>by
  cases a with
  |none=>cases b<;>rfl
  |some n=>cases b with
   |none=>rfl
   |some m=>exact iA.trans (congrArg some (by
     by_cases hab:n=m
     ·subst hab;simp
     ·rw [decide_eq_false (λe=>hab (Qy.inj e)),beq_false_of_ne];lia))
 D_mono:=λhp _ ha n e=>Qa (ha n e) (QG 3 hp)
 D_zero:=λn e=>nomatch e
 D_one:=λn e=>by cases e;exact Qi _
 D_add:=λ{p k a b} ha hb n e=>by
  cases a with
  |none=>exact hb n e
  |some x=>cases b with
   |none=>exact ha n e
   |some y=>
    rw [<-(Qy.inj e:(if y<x then y else x)=n)];split<;>lia
 D_mul:=λ{p q k l a b} ha hb n e=>by
  cases a with
  |none=>exact nomatch e
  |some x=>cases b with
   |none=>exact nomatch e
   |some y=>
    have e:x+y=n:=Qy.inj e;have h1:=ha x rfl;have h2:=hb y rfl;lia
 plus_ok:=λ{p k a b} _ _ _=>by
  cases a with
  |none=>cases b<;>rfl
  |some x=>cases b with
   |none=>rfl
   |some y=>
    show some (Val.int _)=some (Val.int _)
    congr 2
    by_cases hxy:y<x
    ·rw [if_pos hxy,if_pos (JG.mpr hxy)]
    ·rw [if_neg hxy,if_neg λq=>hxy (JG.mp q)]
 times_ok:=λ{p q k l a b} _ _ _=>by
  cases a with
  |none=>cases b<;>rfl
  |some x=>cases b with
   |none=>rfl
   |some y=>rfl
 need_ok:=λ{p k a d h0 h Q} hd ha hl q=>a6 (f:=147) (self:=[.top 113]) rfl (by
  cases a with
  |none=>exact bN (K:=0) (Qa (Ql _ _) hd) (λ_=>rfl) q
  |some n=>exact zaL (Qa (Ql _ _) hd) (by
    have:=ha n rfl
    have:n<2 ^ 3900:=Qk (show n<=3800 by lia) (by decide+kernel)
    exact this) q)
 star_ok:=λ{d h0 h Q} hd q=>a6 (f:=150) (self:=[.top 113]) rfl (bN (K:=0) (Qa (Ql _ _) hd) (λ_=>rfl) q)
end Tactic
namespace Tactic
open Internal
abbrev QN:Type:= {q:Rat // 0<=q}
def eQ (q:QN):Val:= .tup [.int q.1.num,.int q.1.den]
def nQ (q:QN):Nat:=q.1.num.toNat
theorem jM (q:QN):((nQ q:Nat):Int)=q.1.num:=YT (Rat.num_nonneg.mpr q.2)
theorem fY (q:QN):eQ q= .tup [.int (nQ q:Nat),.int q.1.den]:=by unfold eQ;rw [jM]
structure DQ (p k:Nat) (q:QN):Prop where
 d:q.1.den ∣ 12 ^ p
 n:nQ q<=2 ^ k*q.1.den
theorem zbk {p:Nat}{d:Nat} (h:d ∣ 12 ^ p):d<=2 ^ (4*p):=Qa (Nat.le_of_dvd (Ws (by decide)) h) (by rw [Nat.pow_mul];exact Nat.pow_le_pow_left (by decide) p)
theorem DQ.bd {p k:Nat}{q:QN} (H:DQ p k q) (hl:4*p+k<=3800):nQ q<wB/\q.1.den<wB:=by
 refine ⟨rA (k:=4*p+k) hl (Qa H.n ?_),rA (k:=4*p) (Qa (Qd _ _) hl) (zbk H.d)⟩;rw [Ju,K8];exact QG _ (zbk H.d)
theorem fr?_of {n m:Nat} (hn:n<wB) (hm:m<wB) (h0:0<m):fr? (.tup [.int n,.int m])=some (n,m):=by
 show (nat? (.int n)).bind (λa=>(nat? (.int m)).bind λb=>grd (Jr 1 b) (some (a,b)))=_;rw [nat?_of hn,nat?_of hm];show grd (Jr 1 m) _=_;rw [YC h0];rfl
theorem frQ {p k:Nat}{q:QN} (H:DQ p k q) (hl:4*p+k<=3800):fr? (eQ q)=some (nQ q,q.1.den):=by
 rw [fY];exact fr?_of (H.bd hl).1 (H.bd hl).2 q.1.den_pos
theorem j5 {n m:Nat} (hm:m≠0):(Rat.normalize (n:Int) m hm).num=((n / JR n m:Nat):Int)/\(Rat.normalize (n:Int) m hm).den=m / JR n m:=by
 rw [Rat.normalize_eq];exact ⟨by show (n:Int) / ((JR n m:Nat):Int)=_;rw [Int.natCast_ediv],rfl⟩
def fZ (a b:QN):QN:=⟨a.1+b.1,Rat.add_nonneg a.2 b.2⟩
def c6 (a b:QN):QN:=⟨a.1*b.1,Rat.mul_nonneg a.2 b.2⟩
theorem kE (a b:QN):nQ (fZ a b)=(nQ a*b.1.den+nQ b*a.1.den) / JR (nQ a*b.1.den+nQ b*a.1.den) (a.1.den*b.1.den)/\(fZ a b).1.den=a.1.den*b.1.den / JR (nQ a*b.1.den+nQ b*a.1.den) (a.1.den*b.1.den):=by
 have h0:a.1.den*b.1.den≠0:=XH a.1.den_nz b.1.den_nz;have e:(fZ a b).1=Rat.normalize ((nQ a*b.1.den+nQ b*a.1.den:Nat):Int) (a.1.den*b.1.den) h0:=by
  show a.1+b.1=_;rw [Rat.add_def]
  congr 1
  rw [XG,Zw,Zw,jM,jM]
 exact ⟨by unfold nQ;rw [e,(j5 (n:=nQ a*b.1.den+nQ b*a.1.den) h0).1];rfl,by rw [e,(j5 (n:=nQ a*b.1.den+nQ b*a.1.den) h0).2]⟩
theorem j6 (a b:QN):nQ (c6 a b)=(nQ a*nQ b) / JR (nQ a*nQ b) (a.1.den*b.1.den)/\(c6 a b).1.den=a.1.den*b.1.den / JR (nQ a*nQ b) (a.1.den*b.1.den):=by
 have h0:a.1.den*b.1.den≠0:=XH a.1.den_nz b.1.den_nz;have e:(c6 a b).1=Rat.normalize ((nQ a*nQ b:Nat):Int) (a.1.den*b.1.den) h0:=by
  show a.1*b.1=_;rw [Rat.mul_def]
  congr 1
  rw [Zw,jM,jM]
 exact ⟨by unfold nQ;rw [e,(j5 (n:=nQ a*nQ b) h0).1];rfl,by rw [e,(j5 (n:=nQ a*nQ b) h0).2]⟩
theorem zgs (a b:QN):eQ (fZ a b)=pl3 (nQ a) a.1.den (nQ b) b.1.den:=by
 rw [fY,(kE a b).1,(kE a b).2];rfl
theorem zaw (a b:QN):eQ (c6 a b)=ti3 (nQ a) a.1.den (nQ b) b.1.den:=by
 rw [fY,(j6 a b).1,(j6 a b).2];rfl
end Tactic
namespace Tactic
open Internal
theorem zat (q:QN):JR (nQ q) q.1.den=1:=by
 rw [(by have:=jM q;lia:nQ q=q.1.num.natAbs)];exact q.1.reduced
theorem zel {n d:Nat} (hd:0<d):n / JR n d*d=n*(d / JR n d):=by
 refine Jd (Nat.gcd_dvd_left n d) λx zq6=>?_;obtain ⟨y,hy⟩:=Nat.gcd_dvd_right n d;rw [(K3 (Z6 _ hd:0<JR n d) zq6:n / JR n d=x),(K3 (Z6 _ hd:0<JR n d) hy:d / JR n d=y)]
 calc x*d=x*(JR n d*y):=by rw [<-hy]
  _=(JR n d*x)*y:=by rw [<-YX,KO x]
  _=n*y:=by rw [<-zq6]
theorem zbM (a b:QN):nQ (fZ a b)*(a.1.den*b.1.den)=(nQ a*b.1.den+nQ b*a.1.den)*(fZ a b).1.den:=by
 rw [(kE a b).1,(kE a b).2];exact zel (KA a.1.den_pos b.1.den_pos)
theorem zau (a b:QN):nQ (c6 a b)*(a.1.den*b.1.den)=(nQ a*nQ b)*(c6 a b).1.den:=by
 rw [(j6 a b).1,(j6 a b).2];exact zel (KA a.1.den_pos b.1.den_pos)
theorem vH {q:QN}{M x:Nat} (h:nQ q*M=x*q.1.den):q.1.den ∣ M:=by
 exact (by rw [Nat.Coprime,Nat.gcd_comm];exact zat q:Nat.Coprime q.1.den (nQ q)).dvd_of_dvd_mul_left ⟨x,by rw [h,KO]⟩
theorem zbN {a b:QN}{M:Nat} (hM:0<M) (ha:a.1.den ∣ M) (hb:b.1.den ∣ M):(fZ a b).1.den ∣ M:=by
 obtain ⟨x,hx⟩:=ha;obtain ⟨y,hy⟩:=hb;refine vH (x:=nQ a*x+nQ b*y) (Nat.eq_of_mul_eq_mul_right hM ?_);have e:=zbM a b
 generalize nQ (fZ a b)=n at*
 generalize (fZ a b).1.den=c at*
 generalize a.1.den=d at*
 generalize b.1.den=f at*
 generalize nQ a=u at*
 generalize nQ b=v at*
 calc n*M*M=n*(d*x)*(f*y):=by rw [<-hx,<-hy]
  _=(n*(d*f))*(x*y):=by ac_rfl
  _=((u*f+v*d)*c)*(x*y):=by rw [e]
  _=(u*x*(f*y)+v*y*(d*x))*c:=by simp only [ZE];congr 1<;>ac_rfl
  _=(u*x*M+v*y*M)*c:=by rw [<-hx,<-hy]
  _=(u*x+v*y)*c*M:=by simp only [ZE];congr 1<;>ac_rfl
theorem qV {a b:QN}{M N:Nat} (ha:a.1.den ∣ M) (hb:b.1.den ∣ N):(c6 a b).1.den ∣ M*N:=by
 obtain ⟨x,hx⟩:=ha;obtain ⟨y,hy⟩:=hb;refine vH (x:=nQ a*nQ b*(x*y)) ?_;have e:=zau a b
 generalize nQ (c6 a b)=n at*
 generalize (c6 a b).1.den=c at*
 rw [hx,hy]
 calc n*(a.1.den*x*(b.1.den*y))=(n*(a.1.den*b.1.den))*(x*y):=by ac_rfl
  _=(nQ a*nQ b*c)*(x*y):=by rw [e]
  _=nQ a*nQ b*(x*y)*c:=by ac_rfl
theorem zdP {a b:QN}{k:Nat} (ha:nQ a<=k*a.1.den) (hb:nQ b<=k*b.1.den):nQ (fZ a b)<=k*2*(fZ a b).1.den:=by
 refine K4 ?_ (KA a.1.den_pos b.1.den_pos);rw [(zbM a b)];have h3:nQ a*b.1.den+nQ b*a.1.den<=k*2*(a.1.den*b.1.den):=by
  have e1:k*2*(a.1.den*b.1.den)=k*a.1.den*b.1.den+k*b.1.den*a.1.den:=by
   rw [YX k 2,Wp,Wq];congr 1<;>ac_rfl
  rw [e1];exact QE (Jz b.1.den ha) (Jz a.1.den hb)
 rw [show k*2*(fZ a b).1.den*(a.1.den*b.1.den)=k*2*(a.1.den*b.1.den)*(fZ a b).1.den by ac_rfl];exact (Jz (fZ a b).1.den h3)
theorem u6 {a b:QN}{k l:Nat} (ha:nQ a<=k*a.1.den) (hb:nQ b<=l*b.1.den):nQ (c6 a b)<=k*l*(c6 a b).1.den:=by
 refine K4 ?_ (KA a.1.den_pos b.1.den_pos);rw [(zau a b)];rw [show k*l*(c6 a b).1.den*(a.1.den*b.1.den)=k*a.1.den*(l*b.1.den)*(c6 a b).1.den by ac_rfl];exact (Jz (c6 a b).1.den (YI ha hb))
theorem zax (a b c:QN):c6 a (fZ b c)=fZ (c6 a b) (c6 a c):=Subtype.ext (Rat.mul_add ..)
def gR (a b:QN):QN:=if a.1<b.1 then b else a
theorem dQ {a b:QN} (h:b.1<=a.1):gR a b=a:=if_neg (Rat.not_lt.mpr h)
theorem maxQ_l' {a b:QN} (h:a.1<=b.1):gR a b=b:=by
 unfold gR;by_cases q:a.1<b.1
 ·exact if_pos q
 ·rw [if_neg q];exact Subtype.ext (Rat.le_antisymm h (Rat.not_lt.mp q))
theorem xI (a b:QN):gR a b=gR b a:=by
 rcases Rat.le_total (a:=a.1) (b:=b.1) with h|h
 ·rw [maxQ_l' h,dQ h]
 ·rw [dQ h,maxQ_l' h]
theorem tB (a b c:QN):gR (gR a b) c=gR a (gR b c):=by
 rcases Rat.le_total (a:=a.1) (b:=b.1) with h|h<;>rcases Rat.le_total (a:=b.1) (b:=c.1) with h2|h2
 ·rw [maxQ_l' h,maxQ_l' h2,maxQ_l' (Rat.le_trans h h2)]
 ·rw [maxQ_l' h,dQ h2,maxQ_l' h]
 ·rw [dQ h,maxQ_l' h2]
 ·rw [dQ h,dQ h2,dQ h,dQ (Rat.le_trans h2 h)]
theorem zav (a b c:QN):c6 a (gR b c)=gR (c6 a b) (c6 a c):=by
 rcases Rat.le_total (a:=b.1) (b:=c.1) with h|h
 ·rw [maxQ_l' h,maxQ_l' (a:=c6 a b) (b:=c6 a c) (Rat.mul_le_mul_of_nonneg_left h a.2)]
 ·rw [dQ h,dQ (a:=c6 a b) (b:=c6 a c) (Rat.mul_le_mul_of_nonneg_left h a.2)]
theorem zfC (a b:QN):eQ (gR a b)=pl4 (nQ a) a.1.den (nQ b) b.1.den:=by
 unfold pl4;have e:a.1<b.1 ↔ nQ a*b.1.den<nQ b*a.1.den:=by
  rw [Rat.lt_iff,<-jM,<-jM]
  constructor
  ·intro h;exact JG.mp (by rw [Zw,Zw];exact h)
  ·intro h;have:=JG.mpr h;rw [Zw,Zw] at this;exact this
 unfold gR;by_cases h:a.1<b.1
 ·rw [if_pos h,if_pos (e.mp h),fY]
 ·rw [if_neg h,if_neg λq=>h (e.mpr q),fY]
theorem zda (a b:QN):gR a b=a\/gR a b=b:=by
 rcases Rat.le_total (a:=a.1) (b:=b.1) with h|h
 ·exact .inr (maxQ_l' h)
 ·exact .inl (dQ h)
end Tactic
namespace Tactic
open Internal
theorem zdf {h:MH}{a b c e:Int}:veq h (.tup [.int a,.int b]) (.tup [.int c,.int e])=some (a==c && b==e):=by
 show some (J8 (.tuple [.int a,.int b]) (.tuple [.int c,.int e]))=_;show some (a==c && (b==e && true))=_;rw [Ya]
theorem wB_gB:wB<gB:=YG (by decide) (by decide)
theorem zd5 {h:MH}{a b:QN}:veq h (eQ a) (eQ b)=some (@decide (a=b) (inferInstance)):=by
 unfold eQ;rw [zdf]
 congr 1
 by_cases q:a=b
 ·subst q;simp
 ·rw [decide_eq_false q,JT]
  by_cases h1:a.1.num=b.1.num
  ·refine .inr (beq_false_of_ne λh2=>q (Subtype.ext (Rat.ext h1 ?_)))
   exact Int.ofNat_inj.mp h2
  ·exact .inl (beq_false_of_ne h1)
theorem qR {d:Nat}{q:QN}{h:MH}{Q:Val->MH->Prop}{s:Val} (hd:2<=d) (h1:nQ q<wB) (h2:q.1.den<wB) (qq:Q (eQ q) h):WF P0 d 157 [s,eQ q] h Q:=by
 have hp:=q.1.den_pos;have hg:=zat q;rw [fY] at qq ⊢;refine bD (K:=1) hd (some s::some (.tup [.int (nQ q),.int q.1.den])::nn 6) bd_Chance_need (by kernel_rfl) λd' h'=>?_;exact run (.c4<| .c4<| .c4<| .c4<| .c3<| .f (decide_eq_false (p:=(q.1.den:Int)<1) (by lia))<| .c2<| .f (iJ h1)<| .c2<| .f (iJ h2)<| .c2<| .q ((λh=>(zhE h' (Q9 h1 wB_gB) h).trans (by rw [hg];rfl): ∀h,aP (Cxd P0 d') (.top 109) [.int q.1.den,.int (nQ q)] h=some (.int 1,h)))<| .c2<| .z (qq)) (by kernel_rfl)
theorem q01:(0:Rat)<=1:=by decide
def RChance:Rg where
 i:=3
 hi:=by decide
 α:=QN
 deq:=inferInstance
 e:=eQ
 zero:=⟨0,Rat.le_refl⟩
 one:=⟨1,q01⟩
 add:=fZ
 mul:=c6
 D:=DQ
 add_comm:=λa b=>Subtype.ext (Rat.add_comm ..)
 add_assoc:=λa b c=>Subtype.ext (Rat.add_assoc ..)
 zero_add:=λa=>Subtype.ext (Rat.zero_add ..)
 mul_comm:=λa b=>Subtype.ext (Rat.mul_comm ..)
 mul_assoc:=λa b c=>Subtype.ext (Rat.mul_assoc ..)
 one_mul:=λa=>Subtype.ext (Rat.one_mul ..)
 zero_mul:=λa=>Subtype.ext (Rat.zero_mul ..)
 mul_add:=zax
 noE:=rfl
 onE:=rfl
 isv:=λa=>rfl
 veq_ok:=λh a b=>zd5
 D_mono:=λ{p q k l a} hp hk ha=>⟨Wf ha.d (XJ 12 hp),Qa ha.n (Jz _ (YH (by decide) hk))⟩
 D_zero:=⟨YO _,Qs _⟩
 D_one:=⟨YO _,by show 1<=_;decide⟩
 D_add:=λ{p k a b} ha hb=>⟨zbN (Ws (by decide)) ha.d hb.d,by rw [Wi];exact zdP ha.n hb.n⟩
 D_mul:=λ{p q k l a b} ha hb=>⟨by rw [K8];exact qV ha.d hb.d,by rw [K8];exact u6 ha.n hb.n⟩
 plus_ok:=λ{p k a b} ha hb hl=>by
  show onF pl3 (eQ a) (eQ b)=_;unfold onF;rw [frQ ha hl,frQ hb hl,zgs];rfl
 times_ok:=λ{p q k l a b} ha hb hl=>by
  show onF ti3 (eQ a) (eQ b)=_;unfold onF;rw [frQ ha (by lia),frQ hb (by lia),zaw];rfl
 need_ok:=λ{p k a d h0 h Q} hd ha hl q=>a6 (f:=157) (self:=[.top 115]) rfl (qR (QJ (Jl hd)) (ha.bd hl).1 (ha.bd hl).2 q)
 star_ok:=λ{d h0 h Q} hd q=>a6 (f:=160) (self:=[.top 115]) rfl (bN (K:=2) hd (λ_=>by kernel_rfl) q)
structure DL (p k:Nat) (q:QN):Prop where
 d:q.1.den ∣ 12 ^ p
 n:nQ q<=q.1.den
theorem DL.q {p k:Nat}{q:QN} (H:DL p k q):DQ p 0 q:=⟨H.d,by rw [Nat.pow_zero,JI];exact H.n⟩
theorem xK {d:Nat}{q:QN}{h:MH}{Q:Val->MH->Prop}{s:Val} (hd:3<=d) (h1:nQ q<wB) (h2:q.1.den<wB) (h3:nQ q<=q.1.den) (qq:Q (eQ q) h):WF P0 d 161 [s,eQ q] h Q:=by
 rw [fY] at qq ⊢;refine bD (K:=2) hd (some s::some (.tup [.int (nQ q),.int q.1.den])::nn 6) bd_Likely_need (by kernel_rfl) λd' h'=>?_;have eg: ∀h,bI (Cxd P0 d') (.top 111) nNeed [s,.tup [.int (nQ q),.int q.1.den]] h h=some (.tup [.int (nQ q),.int q.1.den],h):=λh=>by rw [<-fY];exact me (f:=157) (self:=[]) rfl (qR h' h1 h2 (two _ _))
 exact run (.q (eg)<| .c3<| .f (decide_eq_false (p:=(q.1.den:Int)<nQ q) (by lia))<| .z (qq)) (by kernel_rfl)
def RLikely:Rg where
 i:=4
 hi:=by decide
 α:=QN
 deq:=inferInstance
 e:=eQ
 zero:=⟨0,Rat.le_refl⟩
 one:=⟨1,q01⟩
 add:=gR
 mul:=c6
 D:=DL
 add_comm:=xI
 add_assoc:=tB
 zero_add:=λa=>maxQ_l' a.2
 mul_comm:=λa b=>Subtype.ext (Rat.mul_comm ..)
 mul_assoc:=λa b c=>Subtype.ext (Rat.mul_assoc ..)
 one_mul:=λa=>Subtype.ext (Rat.one_mul ..)
 zero_mul:=λa=>Subtype.ext (Rat.zero_mul ..)
 mul_add:=zav
 noE:=rfl
 onE:=rfl
 isv:=λa=>rfl
 veq_ok:=λh a b=>zd5
 D_mono:=λ{p q k l a} hp hk ha=>⟨Wf ha.d (XJ 12 hp),ha.n⟩
 D_zero:=⟨YO _,Qs _⟩
 D_one:=⟨YO _,Qi 1⟩
 D_add:=λ{p k a b} ha hb=>by
  rcases zda a b with e|e
  ·rw [e];exact ⟨ha.d,ha.n⟩
  ·rw [e];exact ⟨hb.d,hb.n⟩
 D_mul:=λ{p q k l a b} ha hb=>⟨by rw [K8];exact qV ha.d hb.d,by
  have:=u6 (k:=1) (l:=1) (by rw [JI];exact ha.n) (by rw [JI];exact hb.n)
  simpa using this⟩
 plus_ok:=λ{p k a b} ha hb hl=>by
  show onF pl4 (eQ a) (eQ b)=_;unfold onF;rw [frQ ha.q (QW (Qa (Qd _ _) hl) _),frQ hb.q (QW (Qa (Qd _ _) hl) _),zfC];rfl
 times_ok:=λ{p q k l a b} ha hb hl=>by
  show onF ti3 (eQ a) (eQ b)=_;unfold onF;rw [frQ ha.q (by lia),frQ hb.q (by lia),zaw];rfl
 need_ok:=λ{p k a d h0 h Q} hd ha hl q=>a6 (f:=161) (self:=[.top 116]) rfl (xK hd (ha.q.bd (QW (Qa (Qd _ _) hl) _)).1 (ha.q.bd (QW (Qa (Qd _ _) hl) _)).2 ha.n q)
 star_ok:=λ{d h0 h Q} hd q=>a6 (f:=163) (self:=[.top 116]) rfl (bN (K:=0) (Qa (Ql _ _) hd) (λ_=>rfl) q)
end Tactic
namespace Tactic
open Internal
section
variable {R:Rg}{d:Nat}{h h0 g:MH}{Q:Val->MH->Prop}{m:Nat}{M:Mc R.α}{X:List (Nat×MObj)}
structure Mk (R:Rg) (h g:MH) (m:Nat) (M:Mc R.α) (X:List (Nat×MObj)):Prop where
 x: ∃L:Ly,L.m=m/\IsM R g L M/\(∀a∈own L,h.length<=a)/\∀p∈X,g[p.1]?=some p.2/\p.1∉own L
 pre: ∃t,g=h++t
theorem Mk.ob (H:Mk R h g m M X) {a:Nat}{o:MObj} (hp:(a,o)∈X):g[a]?=some o:=by
 refine H.x.elim λL zq12=>?_;exact (zq12.2.2.2 _ hp).1
theorem Mk.up (H:Mk R h g m M X) {a:Nat}{o:MObj} (e:h[a]?=some o):g[a]?=some o:=by
 refine H.pre.elim λt zq11=>?_;obtain rfl:=zq11;exact aB e
theorem Mk.to {g':MH}{L L':Ly}{M':Mc R.α}{S:List Nat} (H:Mk R h g m M X) (e1:L.m=m) (ho: ∀a∈own L,h.length<=a) (hx: ∀p∈X,g[p.1]?=some p.2/\p.1∉own L) (I':IsM R g' L' M') (em:L'.m=L.m) (K:cB g g' S) (hS: ∀a∈S,a∈own L) (hL: ∀a∈own L',a∈own L\/g.length<=a):Mk R h g' m M' X:=by
 refine H.pre.elim λt zq10=>?_;obtain rfl:=zq10;refine ⟨⟨L',by rw [em,e1],I',λa ha=>(hL a ha).elim (ho a) λq=>Qa (by rw [Qv];exact Qd _ _) q,λp hp=>?_⟩,K.pre λa ha=>ho a (hS a ha)⟩;obtain ⟨h1,h2⟩:=hx p hp;exact ⟨K.at' _ _ (λq=>h2 (hS _ q)) h1,λq=>(hL _ q).elim h2 λq=>absurd (bE h1) (Jc q)⟩
theorem Mk.more (H:Mk R h g m M X) {t:MH}:Mk R h (g++t) m M X:=by
 refine H.x.elim λL zq8=>?_;exact H.to zq8.1 zq8.2.2.1 zq8.2.2.2 zq8.2.1.app rfl (cB.app (S:=[])) (λa ha=>absurd ha Qr) λa ha=> .inl ha
theorem IsM.own_lt {L:Ly} (I:IsM R g L M) {a:Nat} (ha:a∈own L):a<g.length:=by
 rcases QH.mp ha with rfl|ha
 ·exact bE I.obj
 rcases QH.mp ha with rfl|ha
 ·exact bE I.arcs
 rcases QH.mp ha with rfl|ha
 ·exact bE I.ends
 ·exact I.r_lt ha
theorem Mk.obj (H:Mk R h g m M X) {t:MObj}:Mk R h (g++ [t]) m M ((g.length,t)::X):=by
 refine ((H.more (t:=[t])).x).elim λL zq7=>?_;refine H.x.elim λL0 zq6=>?_;refine ⟨⟨L0,zq6.1,zq6.2.1.app,zq6.2.2.1,λp hp=>?_⟩,(H.to (L:=L0) zq6.1 zq6.2.2.1 zq6.2.2.2 (zq6.2.1.app (t:=[t])) rfl (cB.app (S:=[])) (λa ha=>absurd ha Qr) λa ha=> .inl ha).pre⟩;rcases QH.mp hp with rfl|hp
 ·exact ⟨aX,λq=>absurd (zq6.2.1.own_lt q) (Q4 _)⟩
 ·exact ⟨aB (zq6.2.2.2 p hp).1,(zq6.2.2.2 p hp).2⟩
theorem zaB (hd:1<=d) (q: ∀g,Mk R h g h.length M0 []->Q (.ref h.length) g):WV (Cxd P0 d) (.top 121) [.top (112+R.i)] h Q:=
 (zan R hd h).elim λt e=>W.of e.1 (q _ ⟨⟨_,rfl,e.2,λa ha=>by
  simp only [own,QH,Qr,or_false] at ha;rcases ha with rfl|rfl|rfl<;>lia,λp hp=>absurd hp Qr⟩,t,rfl⟩)
theorem qZ (hd:2<=d) (H:Mk R h g m M X) (hl:M.arcs.length<10000) (q: ∀g',Mk R h g' m M.more X->Q (.int M.arcs.length) g'):WM (Cxd P0 d) (.ref m) 495873782885 [] g g Q:=by
 refine H.x.elim λL zq5=>?_;obtain rfl:=zq5.1;refine a6 (bY zq5.2.1.obj rfl rfl) (qB hd zq5.2.1 hl λg' I' K=>q g' (H.to rfl zq5.2.2.1 zq5.2.2.2 I' rfl K (λa ha=>?_) λa ha=>?_))
 ·simp only [QH,Qr,or_false] at ha
  rcases ha with rfl|rfl
  ·exact .tail _ (.head _)
  ·exact .tail _ (.tail _ (.head _))
 ·rcases lF a ha with ha|rfl
  ·exact .inl ha
  ·exact .inr (Qi _)
theorem zaE {s p k:Nat}{a:Ar R.α} (hd:4<=d) (H:Mk R h g m M X) (hs:s<M.arcs.length) (ht:a.t<M.arcs.length) (lu:lab a.up) (ll:lab a.lo) (hw:R.D p k a.w) (hl:4*p+k<=3800) (hc:M.cnt<100000)
  (q: ∀g' M',Mk R h g' m M' X->(a.w=R.zero->M'=M) ->(a.w≠R.zero->M'=M.arc s a) ->Q .none g'):WM (Cxd P0 d) (.ref m) 6386275 [.int s,.str a.up,.str a.lo,R.e a.w,.int a.t] g g Q:=by
 refine H.x.elim λL zq4=>?_;obtain rfl:=zq4.1;exact a6 (bY zq4.2.1.obj rfl rfl) (zbE hd zq4.2.1 hs ht lu ll hw hl hc λg' M' I' K h1 h2=>q g' M' (H.to rfl zq4.2.2.1 zq4.2.2.2 I' rfl K (λa ha=>ha) λa ha=> .inl ha) h1 h2)
theorem zaC {s p k:Nat}{w:R.α} (hd:4<=d) (H:Mk R h g m M X) (hs:s<M.arcs.length) (hw:R.D p k w) (hl:4*p+k<=3800) (q: ∀g',Mk R h g' m {M with ends:=M.ends.set s w} X->Q .none g'):WM (Cxd P0 d) (.ref m) 6647396 [.int s,R.e w] g g Q:=by
 obtain ⟨L,rfl,I,ho,hx⟩:=H.x;exact a6 (bY I.obj rfl rfl) (zfY hd I hs hw hl λg' I' K=>q g' (H.to rfl ho hx I' rfl K (λa ha=>ha) λa ha=> .inl ha))
theorem zc7 {s:Nat} (hd:4<=d) (H:Mk R h g m M X) (hs:s<M.arcs.length) (q: ∀g',Mk R h g' m {M with ends:=M.ends.set s R.one} X->Q .none g'):WM (Cxd P0 d) (.ref m) 6647396 [.int s] g g Q:=by
 refine H.x.elim λL zq2=>?_;obtain rfl:=zq2.1;exact a6 (bY zq2.2.1.obj rfl rfl) (zdu hd zq2.2.1 hs λg' I' K=>q g' (H.to rfl zq2.2.2.1 zq2.2.2.2 I' rfl K (λa ha=>ha) λa ha=> .inl ha))
theorem zaD {s p k:Nat}{w:R.α} (hd:4<=d) (H:Mk R h g m M X) (hs:s<M.arcs.length) (hw:R.D p k w) (hl:4*p+k<=3800) (q: ∀g',Mk R h g' m {M with start:=s,first:=w} X->Q .none g'):WM (Cxd P0 d) (.ref m) 422608071022 [.int s,R.e w] g g Q:=by
 obtain ⟨L,rfl,I,ho,hx⟩:=H.x;exact a6 (bY I.obj rfl rfl) (rQ hd I hs hw hl λg' I' K=>q g' (H.to rfl ho hx I' rfl K (λa ha=>ha) λa ha=> .inl ha))
end
end Tactic
namespace Tactic
open Internal
section
variable {R:Rg}{d:Nat}{h h0 g:MH}{Q:Val->MH->Prop}{m:Nat}{M:Mc R.α}{X:List (Nat×MObj)}
theorem IsM.setL {L:Ly}{a:Nat}{vs:List Val}{o:MObj} (I:IsM R g L M) (ha:g[a]?=some (.list vs)) (hn:a∉own L):IsM R (g.set a o) L M:=by
 have k: ∀ {b:Nat}{o':MObj},b∈own L->g[b]?=some o'->(g.set a o)[b]?=some o':=λ{b o'} hb e=>a7 (λq=>hn (q▸hb)) e;refine ⟨k (.head _) I.obj,k (.tail _ (.head _)) I.arcs,k (.tail _ (.tail _ (.head _))) I.ends,I.len,I.lenE,λi r xs hr hx=>?_,I.nd,I.lim,I.ct,I.cl,I.ds.to λr hr _ e=>k (.tail _ (.tail _ (.tail _ hr))) e⟩;refine Jd (I.rows i r xs hr hx) λas zq13=>?_;refine ⟨as,k (.tail _ (.tail _ (.tail _ (Qe hr)))) zq13.1,zq13.2.1,λj b x e1 e2=>?_⟩;have hb:=zq13.2.2 j b x e1 e2;exact a7 (λq=>by subst q;rw [ha] at hb;cases hb) hb
theorem Mk.setX {a:Nat}{vs:List Val}{o:MObj} (H:Mk R h g m M ((a,.list vs)::X)) (hX: ∀p∈X,a≠p.1) (ha:h.length<=a):Mk R h (g.set a o) m M ((a,o)::X):=by
 refine H.x.elim λL zq12=>?_;have hx:=zq12.2.2.2;obtain ⟨h1,h2⟩:=hx _ (.head _);refine H.pre.elim λt zq10=>?_;obtain rfl:=zq10;refine ⟨⟨L,zq12.1,zq12.2.1.setL h1 h2,zq12.2.2.1,λp hp=>?_⟩,⟨_,g6 ha⟩⟩;rcases QH.mp hp with rfl|hp
 ·exact ⟨bH h1,h2⟩
 ·exact ⟨a7 (hX p hp) (hx p (.tail _ hp)).1,(hx p (.tail _ hp)).2⟩
theorem Mk.lt (H:Mk R h g m M X): ∀p∈X,g.length≠p.1:=λp hp=>by
 refine H.x.elim λL zq9=>?_
 have:=bE (zq9.2.2.2 p hp).1
 exact JL this
theorem Mk.drop {p:Nat×MObj} (H:Mk R h g m M (p::X)):Mk R h g m M X:=by
 refine H.x.elim λL zq8=>?_;exact ⟨⟨L,zq8.1,zq8.2.1,zq8.2.2.1,λq hq=>zq8.2.2.2 q (.tail _ hq)⟩,H.pre⟩
theorem Mk.le (H:Mk R h g m M X):h.length<=g.length:=by
 refine H.pre.elim λt zq7=>?_;obtain rfl:=zq7;rw [Qv];exact Qd _ _
def b6 (M:Mc R.α):Nat->Mc R.α
 |0=>M
 |n+1=>(b6 M n).more
theorem xH {n:Nat}:(b6 M n).arcs.length=M.arcs.length+n:=by
 induction n with
 |zero=>rfl
 |succ n ih=>show (_++ [[]]).length=_;rw [Qv,ih];rfl
theorem zc8 {n:Nat} (hd:2<=d) (H:Mk R h g m M X) (hl:M.arcs.length+n<10000): ∃v g',eval (Cxd P0 d) (.comp (.meth (.var 0) 495873782885 []) [2] false (.call (.lit (.ty 491260897125)) [.var 1]) []) (some (.ref m)::some (.int n)::nn 6) g=some (v,g')/\Mk R h g' m (b6 M n) X:=by
 refine W.get (o:=eval (Cxd P0 d) _ _ g) (Q:=λ_ g'=>Mk R h g' m (b6 M n) X) (nZ ?_);have I0: ∃k,∃xs:List Val,dR g (.rng n)=some k/\xs.length<(Cxd P0 d).fuel/\∃I:Nat->MH->Prop,I 0 (g++ [.list []])/\(∀i h,I i h->bT h i k=some xs[i]?)/\
   (∀i x,xs[i]?=some x-> ∀hh,I i hh->Wo (dY (some (.ref m)::some (.int n)::nn 6) [2] false x) λfr1=>WTs (Cxd P0 d) fr1 [] hh λb h2=>Br b (WE (Cxd P0 d) fr1 (.meth (.var 0) 495873782885 []) h2 λx h3=> ∃vs,h3[g.length]?=some (.list vs)/\vs.length<lim/\I (i+1) (h3.set g.length (.list (vs++ [x])))) (I (i+1) h2))/\
   ∀hh,I xs.length hh->Mk R h hh m (b6 M n) X:=by
  refine ⟨.rg n,oQ n,tG (dG (Qf (QB (Ql _ _)) (Qa (QT hl) (Ql _ _)))),by rw [cY];show _<200000;exact Qf (QB (Ql _ _)) (Qa (QT hl) (Ql _ _)),λi hh=>i<=n/\∃vs,vs.length=i/\Mk R h hh m (b6 M i) ((g.length,.list vs)::X),⟨Qs _,[],rfl,(H.obj (t:=.list []))⟩,λi hh q=>sY q.1,λi v hv hh q=>?_,λhh q=>?_⟩
  ·obtain ⟨hi,rfl⟩:=oP hv
   refine q.2.elim λvs zq5=>?_;refine c9 (nW (zf5 ?_))
   have: ∃v g',bI (Cxd P0 d) (.ref m) 495873782885 [] hh hh=some (v,g')/\Mk R h g' m (b6 M (i+1)) ((g.length,.list vs)::X):=W.get (qZ hd zq5.2 (by rw [xH];exact Qf (QK hi _) (QJ hl)) λg' H2=>H2)
   refine this.elim λv zq3=>zq3.elim λg' zq4=>?_;exact bK (.p (zq4.1)<| .z ((⟨vs,zq4.2.ob (.head _),by rw [zq5.1];exact Qf hi (dG (Qf (QB (Ql _ _)) (Qa (QT hl) (Ql _ _)))),hi,_,by rw [Qv,zq5.1];rfl,zq4.2.setX H.lt H.le⟩: ∃us,g'[g.length]?=some (.list us)/\us.length<lim/\i+1<=n/\∃ws,ws.length=i+1/\Mk R h (g'.set g.length (.list (us++ [v]))) m (b6 M (i+1)) ((g.length,.list ws)::X)))) (by kernel_rfl)
  ·rw [cY] at q
   refine q.2.elim λvs zq2=>?_;exact zq2.2.drop
 exact bK (.c<| .z (I0)) (by kernel_rfl)
theorem nG {n:Nat} (hd:3<=d) (H:Mk R h g m M X) (hl:M.arcs.length+n<10000) (q: ∀v g',Mk R h g' m (b6 M n) X->Q v g'):WM (Cxd P0 d) (.ref m) 126943688418675 [.int n] g g Q:=by
 refine H.x.elim λL zq1=>?_;refine a6 (zq1.1▸bY zq1.2.1.obj rfl rfl:cP P0 g (.ref m) 126943688418675=some (169,[.ref m])) (bD (K:=2) hd (some (.ref m)::some (.int n)::nn 6) bd_Machine_states (by kernel_rfl) λd' h'=>?_);have e1:=zeh (n:=n) (d:=d') (QJ (Jl h')) zq1.2.1 (Qa (QJ hl) (Ql _ _));rw [zq1.1] at e1;refine (zc8 h' H hl).elim λv a=>a.elim λg' b=>?_;exact run (.p (e1)<| .p (b.1)<| .z (q v g' b.2)) (by kernel_rfl)
end
end Tactic
namespace Tactic
open Internal
section
variable {d:Nat}{h h0:MH}{Q:Val->MH->Prop}
def aV (i:Nat):List Nat:=xS [121,101,115] [108,101,97,115,116] [99,111,117,110,116] [99,104,97,110,99,101] [108,105,107,101,108,121] i
abbrev nName:Nat:=1851878757
theorem zhg {i:Nat} (hi:i<5) (q:Q (.str (aV i)) h):WA P0 (.top (112+i)) nName h Q:=
 sC (dW (C:=λi=>((P0.instAt (112+i)).bind λc=>gW P0 c nName)=some (.str (aV i))) i hi rfl rfl rfl rfl rfl) q
theorem zgZ {i:Nat} (hi:i<5) (hd:1<=d) (q:Q (.top (112+i)) h):WF P0 d 105 [.str (aV i)] h Q:=by
 revert q
 refine dW (C:=λi=>Q (.top (112+i)) h->WF P0 d 105 [.str (aV i)] h Q) i hi ?_ ?_ ?_ ?_ ?_<;>intro q
 ·exact bN (K:=0) hd (λ_=>by kernel_rfl) q
 ·exact bN (K:=0) hd (λ_=>by kernel_rfl) q
 ·exact bN (K:=0) hd (λ_=>by kernel_rfl) q
 ·exact bN (K:=0) hd (λ_=>by kernel_rfl) q
 ·exact bN (K:=0) hd (λ_=>by kernel_rfl) q
def wtF (i:Nat):List Val:=xS [.int 1,.int 1,.int 1] [.int 0,.int 1,.int 3] [.int 1,.int 1,.int 2] [.tup [.int 1,.int 4],.tup [.int 1,.int 3],.tup [.int 1,.int 2]] [.tup [.int 1,.int 2],.tup [.int 1,.int 3],.tup [.int 1,.int 1]] i
def lwn (h:MH):Nat->MH
 |0=>h
 |n+1=>lwn h n++ [MObj.list (wtF n)]
def wtD (h:MH):List (Val×Val):= [(.str (aV 0),.ref (lwn h 0).length),(.str (aV 1),.ref (lwn h 1).length),(.str (aV 2),.ref (lwn h 2).length),(.str (aV 3),.ref (lwn h 3).length),(.str (aV 4),.ref (lwn h 4).length)]
theorem zdb (h:MH) (n:Nat):(lwn h n).length=h.length+n:=by
 induction n with
 |zero=>rfl
 |succ n ih=>exact i6.trans (congrArg (· +1) ih)
theorem zhm (h:MH) (x:MObj):lwn h 5++ [x]=h++ [.list (wtF 0),.list (wtF 1),.list (wtF 2),.list (wtF 3),.list (wtF 4),x]:=by unfold lwn lwn lwn lwn lwn lwn;simp only [Qt,ZD,Zv]
theorem zhn {i:Nat} (hi:i<5) (hd:1<=d) (q: ∀t a,h.length<=a->(h++t)[a]?=some (.list (wtF i)) ->Q (.ref a) (h++t)):WF P0 d 138 [.str (aV i)] h Q:=by
 refine bD (K:=0) hd (some (.str (aV i))::nn 6) bd_law__law_weights (by kernel_rfl) λd' h'=>?_;have e2:Q (.ref (lwn h i).length) (lwn h 5++ [.dict (some 5) (wtD h)]):=by
  rw [zhm,zdb];exact q _ _ (Qd _ _) (fJ.trans (dW (C:=λi=>([MObj.list (wtF 0),.list (wtF 1),.list (wtF 2),.list (wtF 3),.list (wtF 4),.dict (some 5) (wtD h)]:MH)[i]?=some (.list (wtF i))) i hi rfl rfl rfl rfl rfl))
 exact run (.c<| .v ((sd (ep:=some 5) (es:=wtD h) aX (dW (C:=λi=>aM (wtD h) (.str (aV i))=true) i hi rfl rfl rfl rfl rfl) (dW (C:=λi=>aZ (wtD h) (.str (aV i))=some (.ref (lwn h i).length)) i hi rfl rfl rfl rfl rfl):bJ (lwn h 5++ [.dict (some 5) (wtD h)]) (.ref (lwn h 5).length) (.str (aV i))=some (.ref (lwn h i).length)))<| .z (e2)) (by kernel_rfl)
end
end Tactic
namespace Tactic
open Internal
def cell (ns:List Int) (k:Nat):Int:=ns[k]?.getD 0
theorem zht (z:Cx) (ns:List Int) (h:MH):aP z (.bi 7103854) [.fl (ns.map .int)] h=some (.int ns.length,h):=W.eq (rY (n:=ns.length) (by show some _=_;rw [Qh]) (two _ _))
theorem zdB {d:Nat} (hd:1<=d) {ns:List Int}{k:Nat}{i:Int} (hi:i=k) {h:MH}{Q:Val->MH->Prop} (q:Q (.int (cell ns k)) h):WF P0 d 137 [.fl (ns.map .int),.int i] h Q:=by
 subst hi;refine bD (K:=0) hd (some (.fl (ns.map .int))::some (.int k)::nn 6) bd_law__law_cell (by kernel_rfl) λd' h'=>?_;by_cases hk:k<ns.length
 ·have e:cell ns k=ns[k]:=by unfold cell;rw [Qc hk];rfl
  exact run (.q (zht (Cxd P0 d') ns)<| .c<| .t (decide_eq_true (JG.mpr hk))<| .v ((Wo.eq (zgD (Q:=λa _=>a= .int (cell ns k)) (v:=.int (cell ns k)) (by rw [Qu,Qc hk,e];rfl) rfl):bJ h (.fl (ns.map .int)) (.int k)=some (.int (cell ns k))))<| .z (q)) (by kernel_rfl)
 ·have e:cell ns k=0:=by
   unfold cell;rw [Jo (Q0 hk)];rfl
  rw [e] at q;exact run (.q (zht (Cxd P0 d') ns)<| .c<| .f (decide_eq_false (λh=>hk (JG.mp h)))<| .z (q)) (by kernel_rfl)
theorem eU (x:Int) {m:Nat} (hm:0<m): ∃n:Nat,n<m/\Ky x m=n:=by
 have g1:=Int.fmod_nonneg_of_pos x (b:=m) (by lia);have g2:=Int.fmod_lt_of_pos x (b:=m) (by lia);exact ⟨(Ky x m).toNat,by lia,by lia⟩
end Tactic
namespace Tactic
open Internal
section
variable {R:Rg}{d:Nat}{h h0 g:MH}{Q:Val->MH->Prop}{m:Nat}{M:Mc R.α}{R':Fl->Internal.Frame->MH->Prop}{k:Nat}
structure RL (R:Rg) (ws:List R.α):Prop where
 ne:R.one≠R.zero
 len:ws.length=3
 dg: ∀w∈ws,R.D 1 1 w/\w≠R.zero
 e:wtF R.i=ws.map R.e
def los:List (List Nat):= [[97],[98],[]]
structure LmP (us:List (List Nat)) (n k:Nat) (M:Mc R.α):Prop where
 len:M.arcs.length=n
 ends: ∀e∈M.ends,R.D 1 1 e
 arc: ∀ (s:Nat) (ys:List (Ar R.α)),M.arcs[s]?=some ys-> ∀a∈ys,a.t<n/\lab a.up/\lab a.lo/\R.D 1 1 a.w/\a.w≠R.zero/\(a.emp=true->s<a.t)/\a.up∈us/\a.lo∈los
 ct:M.cnt<=k
theorem LmP.put {us:List (List Nat)}{n k s:Nat}{a:Ar R.α} (P:LmP us n k M) (hs:s<n) (ha:a.t<n/\lab a.up/\lab a.lo/\R.D 1 1 a.w/\a.w≠R.zero/\(a.emp=true->s<a.t)/\a.up∈us/\a.lo∈los):LmP us n (k+1) (M.arc s a):=by
 have hsl:s<M.arcs.length:=by rw [P.len];exact hs
 refine ⟨by show (XX _ _ _).length=_;rw [QS];exact P.len,P.ends,λs' ys hy x hx=>?_,Q8 P.ct⟩;have hy:(M.arcs.set s (M.arcs[s]?.getD []++ [a]))[s']?=some ys:=hy;by_cases e:s=s'
 ·subst e
  rw [QP hsl] at hy;cases hy;rcases QX.mp hx with hx|hx
  ·rw [Qc hsl] at hx
   exact P.arc s _ (Qc hsl) x hx
  ·cases Qw.mp hx;exact ha
 ·rw [QO e] at hy
  exact P.arc s' ys hy x hx
structure LMs (R:Rg) where
 g:MH
 M:Mc R.α
 a:Option Val:=none
 b:Option Val:=none
 c:Option Val:=none
 d:Option Val:=none
 e:Option Val:=none
 f:Option Val:=none
structure LmX (R:Rg) where
 h:MH
 ns:List Int
 o:Nat
 aU:Nat
 us:List (List Nat)
 ws:List R.α
 n:Nat
 aW:Nat
structure LmC (X:LmX R):Prop where
 Z:RL R X.ws
 hU:X.h[X.aU]?=some (.list (X.us.map .str))
 hu:X.us≠ []
 hul: ∀u∈X.us,lab u
 hn:0<X.n
 hn4:X.n<=4
def lmF (X:LmX R) (a b c d e f:Option Val):Internal.Frame:=some (.fl (X.ns.map .int))::some (.int X.o)::some (.top (112+R.i))::some (.ref X.aU)::some (.bool false)::some (.ref X.h.length)::some (.int X.n)::some (.ref X.aW)::a::b::c::d::e::f::nn 6
structure LmI (X:LmX R) (k:Nat) (s:LMs R):Prop where
 H:Mk R X.h s.g X.h.length s.M [(X.aW,.list (X.ws.map R.e))]
 P:LmP X.us X.n k s.M
abbrev lmB:List Sm:= [(Sm.asg (T1.nm 9) (Ex.call (Ex.lit (Val.top 137)) [(Ex.var 0),(Ex.bin BOp.add (Ex.bin BOp.add (Ex.var 1) (Ex.lit (Val.int 2))) (Ex.var 8))])),(Sm.asg (T1.nm 10) (Ex.bin BOp.mod (Ex.var 9) (Ex.var 6))),(Sm.asg (T1.nm 11) (Ex.bin BOp.mod (Ex.bin BOp.fdiv (Ex.var 9) (Ex.lit (Val.int 4))) (Ex.var 6))),(Sm.asg (T1.nm 12) (Ex.sub (Ex.var 3) (Ex.bin BOp.mod (Ex.bin BOp.fdiv (Ex.var 9) (Ex.lit (Val.int 16))) (Ex.call (Ex.lit (Val.bi 7103854)) [(Ex.var 3)])))),(Sm.asg (T1.nm 13) (Ex.sub (Ex.list [(Ex.lit (Val.str [97])),(Ex.lit (Val.str [98])),(Ex.lit (Val.str []))]) (Ex.bin BOp.mod (Ex.bin BOp.fdiv (Ex.var 9) (Ex.lit (Val.int 48))) (Ex.lit (Val.int 3))))),(Sm.asg (T1.nm 11) (Ex.call (Ex.lit (Val.bi 7168376)) [(Ex.var 11),(Ex.bin BOp.mul (Ex.bin BOp.add (Ex.var 10) (Ex.lit (Val.int 1))) (Ex.bop true [(Ex.cmp COp.eq (Ex.bin BOp.add (Ex.var 12) (Ex.var 13)) (Ex.lit (Val.str []))),(Ex.var 4)]))])),(Sm.ite (Ex.cmp COp.lt (Ex.var 11) (Ex.var 6)) [(Sm.expr (Ex.meth (Ex.var 5) 6386275 [(Ex.var 10),(Ex.var 12),(Ex.var 13),(Ex.sub (Ex.var 7) (Ex.bin BOp.mod (Ex.bin BOp.fdiv (Ex.var 9) (Ex.lit (Val.int 144))) (Ex.lit (Val.int 3)))),(Ex.var 11)]))] [])]
theorem lo3 {u:Nat} (h:u<3): ∃lo,([Val.str [97],.str [98],.str []]:List Val)[u]?=some (.str lo)/\lab lo/\lo∈los:=by
 rcases u with _|_|_|u
 ·exact ⟨[97],rfl,.inr ⟨97,rfl,by decide+kernel⟩,.head _⟩
 ·exact ⟨[98],rfl,.inr ⟨98,rfl,by decide+kernel⟩,.tail _ (.head _)⟩
 ·exact ⟨[],rfl,.inl rfl,.tail _ (.tail _ (.head _))⟩
 ·exact absurd h (ZV.mpr (Ql _ _))
abbrev lmT:List Sm:= [(Sm.ite (Ex.cmp COp.lt (Ex.var 11) (Ex.var 6)) [(Sm.expr (Ex.meth (Ex.var 5) 6386275 [(Ex.var 10),(Ex.var 12),(Ex.var 13),(Ex.sub (Ex.var 7) (Ex.bin BOp.mod (Ex.bin BOp.fdiv (Ex.var 9) (Ex.lit (Val.int 144))) (Ex.lit (Val.int 3)))),(Ex.var 11)]))] [])]
theorem fK (hd:1<=d) (ns:List Int) (k:Nat) (h:MH):aP (Cxd P0 d) (.top 137) [.fl (ns.map .int),.int k] h=some (.int (cell ns k),h):=fn rfl (zdB (d:=d) (k:=k) hd rfl ⟨rfl,rfl⟩)
theorem adS {a b:List Nat} (ha:a.length<=1) (hb:b.length<=1) (h:MH):d4 .add (.str a) (.str b) h=some (.str (a++b),h):=W.eq (zcp (Qa (QE ha hb) (by decide)) ⟨rfl,rfl⟩)
theorem zde {l:List Nat} (h:lab l):l.length<=1:=h.elim (λe=>e▸Qs _) λ⟨_,e,_⟩=>e▸Qi _
theorem zhC {a b:Int}{r:Nat} (e:(if b>a then b else a)=(r:Int)) (z:Cx) (h:MH):aP z (.bi nMax) [.int a,.int b] h=some (.int r,h):=W.eq (zeE ⟨by rw [e],rfl⟩)
theorem zin {s t:Nat}{b:Bool} (hb:b=true):(if ((s:Int)+1)*(if b=true then 1 else 0)>(t:Int) then ((s:Int)+1)*(if b=true then 1 else 0) else (t:Int))=((max t (s+1):Nat):Int):=by
 rw [if_pos hb,Int.mul_one]
 split<;>lia
theorem zio {s t:Nat}:(if ((s:Int)+1)*(if false=true then 1 else 0)>(t:Int) then ((s:Int)+1)*(if false=true then 1 else 0) else (t:Int))=(t:Int):=by
 rw [if_neg Zk,Int.mul_zero]
 split<;>lia
section
variable {X:LmX R} (C:LmC X)
include C
theorem zeY {g:MH}{M:Mc R.α} (H:Mk R X.h g X.h.length M [(X.aW,.list (X.ws.map R.e))]) (x:Int): ∃i:Nat,Ky x 3=i/\∃w,bJ g (.ref X.aW) (.int i)=some (R.e w)/\R.D 1 1 w/\w≠R.zero:=
 (eU x (show 0<3 by decide)).elim λi q=>by
  have hi:i<X.ws.length:=by rw [C.Z.len];exact q.1
  exact ⟨i,q.2,X.ws[i],sl (H.ob (.head _)) (by rw [Qu,Qc hi];rfl),C.Z.dg _ (Jk hi)⟩
theorem zfH {sc T:Nat}{x:Int}{up lo:List Nat}{s:LMs R} (hd:5<=d) (hu:up∈X.us) (l1:lab up) (l2:lab lo/\lo∈los) (hs:sc<X.n) (hk:k<8) (hT:(up++lo== [])=true->sc<T)
  (I:LmI X k s) (q: ∀s',LmI X (k+1) s'->R' .nx (lmF X (vN k) (some (.int x)) (vN sc) (vN T) (some (.str up)) (some (.str lo))) s'.g):
  WSs (Cxd P0 d) lmT (lmF X (vN k) (some (.int x)) (vN sc) (vN T) (some (.str up)) (some (.str lo))) s.g R':=by
 cases (inferInstance:Decidable ((T:Int)<(X.n:Int))) with
 |isTrue hlt=>
  refine (zeY C I.H (YD x 144)).elim λwi a=>a.2.elim λw b=>?_;obtain ⟨v,g,e,rfl,M',q'⟩:=W.get (zaE (d:=d) (Q:=λv g=>v= .none/\∃M',LmI X (k+1) ⟨g,M',none,none,none,none,none,none⟩) (s:=sc) (a:=⟨up,lo,w,T⟩) (Qa (by decide) hd) I.H (by rw [I.P.len];exact hs) (by rw [I.P.len];exact (JG.mp hlt:T<X.n)) l1 l2.1 b.2.1 (by decide) (Qk I.P.ct (Q9 hk (by decide))) λg' M' H' _ e=>⟨rfl,M',H',e b.2.2▸I.P.put hs ⟨(JG.mp hlt:T<X.n),l1,l2.1,b.2.1,b.2.2,λhe=>hT (by rw [show up= [] from (iP he).1,show lo= [] from (iP he).2];rfl),hu,l2.2⟩⟩);exact run (.c<| .t (decide_eq_true hlt)<| .c<| .q (eF a.1 (by decide))<| .v (b.1)<| .p (e)<| .z (q _ q')) (by kernel_rfl)
 |isFalse hlt=>exact run (.c<| .f (decide_eq_false hlt)<| .z (q s ⟨I.H,I.P.len,I.P.ends,I.P.arc,Jf I.P.ct⟩)) (by kernel_rfl)
theorem zea (x:Int): ∃i:Nat,i<X.n/\Ky x X.n=i:=eU x C.hn
theorem n_ne:(X.n:Int)≠0:=λe=>absurd (Ze.mp e▸C.hn) (Q4 _)
theorem zgJ (x:Int): ∃i:Nat,Ky x X.us.length=i/\∃up,(X.us.map Val.str)[i]?=some (.str up)/\up∈X.us:=
 (eU x (YV.mpr C.hu)).elim λi q=>⟨i,q.2,X.us[i]'q.1,by rw [Qu,Qc q.1];rfl,Jk q.1⟩
theorem us_ne:(X.us.length:Int)≠0:=λe=>absurd (Ze.mp e▸YV.mpr C.hu) (Q4 _)
theorem gUs {g:MH}{z:Cx} (e:g[X.aU]?=some (.list (X.us.map .str))):aP z (.bi nLen) [.ref X.aU] g=some (.int X.us.length,g):=by rw [zaO e,Qh]
abbrev l3:MObj:= .list [.str [97],.str [98],.str []]
theorem zfI {s:LMs R} (hd:5<=d) (hk:k<8) (I:LmI X k s) (q: ∀s',LmI X (k+1) s'->R' .nx (lmF X (vN k) s'.b s'.c s'.d s'.e s'.f) s'.g):
  WSs (Cxd P0 d) lmB (lmF X (vN k) s.b s.c s.d s.e s.f) s.g R':=by
 refine (zea C (cell X.ns (X.o+2+k))).elim λsc a=>(zea C (YD (cell X.ns (X.o+2+k)) 4)).elim λtg b=>(zgJ C (YD (cell X.ns (X.o+2+k)) 16)).elim λui c=>c.2.elim λup cc=>(eU (YD (cell X.ns (X.o+2+k)) 48) (show 0<3 by decide)).elim λli e=>(lo3 e.1).elim λlo f=>?_;have hU:=I.H.up C.hU;have lu:=C.hul up cc.2;have I1:LmI X k {s with g:=s.g++ [l3]}:=⟨I.H.more,I.P⟩;have g3:bJ (s.g++ [l3]) (.ref s.g.length) (.int li)=some (.str lo):=sl aX f.1;have tail: ∀T:Nat,((up++lo== [])=true->sc<T) ->WSs (Cxd P0 d) lmT (lmF X (vN k) (some (.int (cell X.ns (X.o+2+k)))) (vN sc) (vN T) (some (.str up)) (some (.str lo))) (s.g++ [l3]) R':=λT hT=>by
  have:=zfH (R':=R') (x:=cell X.ns (X.o+2+k)) C (s:={s with g:=s.g++ [l3]}) (T:=T) hd cc.2 lu f.2 a.1 hk hT I1
  exact this λs' I'=>q {s' with b:=some (.int (cell X.ns (X.o+2+k))),c:=vN sc,d:=vN T,e:=some (.str up),f:=some (.str lo)} ⟨I'.H,I'.P⟩
 refine eR (a:=lmB.take 6) (b:=lmT) ?_;cases he:(up++lo== []) with
 |true=>exact run (.c2<| .q (fK (Qa (by decide) hd:1<=d) X.ns (X.o+2+k))<| .q (eF a.2 (n_ne C))<| .c<| .q (eF b.2 (n_ne C))<| .c<| .p (gUs C (z:=Cxd P0 d) hU)<| .q (eF c.1 (us_ne C))<| .v (sl hU cc.1)<| .at ((s.g++ [l3]))<| .c<| .q (eF e.2 (by decide))<| .v (g3)<| .c<| .q (adS (zde lu) (zde f.2.1))<| .k (eqs (up++lo) [])<| .t (he)<| .c<| .q (zhC (zin (s:=sc) (t:=tg) he) (Cxd P0 d))<| .z (d8 (tail (max tg (sc+1)) λ_=>Qf (QF _) (Nat.le_max_right _ _)))) (by kernel_rfl)
 |false=>exact run (.c2<| .q (fK (Qa (by decide) hd:1<=d) X.ns (X.o+2+k))<| .q (eF a.2 (n_ne C))<| .c<| .q (eF b.2 (n_ne C))<| .c<| .p (gUs C (z:=Cxd P0 d) hU)<| .q (eF c.1 (us_ne C))<| .v (sl hU cc.1)<| .at ((s.g++ [l3]))<| .c<| .q (eF e.2 (by decide))<| .v (g3)<| .c<| .q (adS (zde lu) (zde f.2.1))<| .k (eqs (up++lo) [])<| .f (he)<| .c<| .q (zhC (zio (s:=sc) (t:=tg)) (Cxd P0 d))<| .z (d8 (tail tg λe=>absurd (e.symm.trans he) Yh))) (by kernel_rfl)
end
end
end Tactic
namespace Tactic
open Internal
section
variable {R:Rg}{d:Nat}{h h0 g:MH}{Q:Val->MH->Prop}{m:Nat}{M:Mc R.α}{R':Fl->Internal.Frame->MH->Prop}{X:List (Nat×MObj)}
theorem Mk.addX {a:Nat}{o:MObj}{t:MH} (H:Mk R h g m M X) (ha:g.length<=a) (e:(g++t)[a]?=some o):Mk R h (g++t) m M ((a,o)::X):=by
 refine H.x.elim λL0 zq20=>?_;refine ⟨⟨L0,zq20.1,zq20.2.1.app,zq20.2.2.1,λp hp=>?_⟩,H.more.pre⟩;rcases QH.mp hp with rfl|hp
 ·exact ⟨e,λq=>absurd (zq20.2.1.own_lt q) (by show ¬a<_;exact Jc ha)⟩
 ·exact ⟨aB (zq20.2.2.2 p hp).1,(zq20.2.2.2 p hp).2⟩
structure pP (us:List (List Nat)) (M:Mc R.α):Prop where
 g:a9 M 1 1
 up:upE M
 n:M.arcs.length<=4
 c:M.cnt<=7
 us: ∀ys∈M.arcs,∀a∈ys,a.up∈us/\a.lo∈los
theorem zay {us:List (List Nat)}{n:Nat}:LmP us n 0 (b6 (M0 (R:=R)) n):=by
 have e:(b6 (M0 (R:=R)) n).arcs=Qz n []/\(b6 (M0 (R:=R)) n).ends=Qz n R.zero/\(b6 (M0 (R:=R)) n).cnt=0:=by
  induction n with
  |zero=>exact ⟨rfl,rfl,rfl⟩
  |succ n ih=>
   refine ⟨?_,?_,ih.2.2⟩
   ·show _++ [[]]=_;rw [ih.1,<-J3]
   ·show _++ [R.zero]=_;rw [ih.2.1,<-J3]
 refine ⟨by rw [e.1,Q5],λx hx=>?_,λs ys hy a ha=>?_,by rw [e.2.2];exact Qi _⟩
 ·rw [e.2.1] at hx
  rw [Jj hx];exact R.D_mono (Qs _) (Qs _) R.D_zero
 ·rw [e.1] at hy
  rw [Jj (Qe hy)] at ha;exact absurd ha Qr
theorem LmP.end' {us:List (List Nat)}{n k s:Nat}{w:R.α} (P:LmP us n k M) (hw:R.D 1 1 w):LmP us n k {M with ends:=M.ends.set s w}:=⟨P.len,λe he=>(J7 he).elim (P.ends e) λq=>q▸hw,P.arc,P.ct⟩
theorem LmP.ok {us:List (List Nat)}{n k:Nat}{w:R.α} (P:LmP us n k M) (hn:0<n) (hn4:n<=4) (hk:k<=7) (hw:R.D 1 1 w):pP us {M with start:=0,first:=w}:=by
 have hc:=P.ct;have at': ∀ys∈M.arcs,∃s,M.arcs[s]?=some ys:=λys hy=>Ko.mp hy;refine ⟨⟨by show 0<M.arcs.length;rw [P.len];exact hn,λys hy a ha=>?_,hw,P.ends,by decide,by show M.arcs.length<=300;rw [P.len];exact Qa hn4 (Ql _ _),by show M.cnt<=300;exact Qa (Qa hc hk) (Ql _ _)⟩,λs ys hy a ha he=>(P.arc s ys hy a ha).2.2.2.2.2.1 he,by show M.arcs.length<=4;rw [P.len];exact hn4,by show M.cnt<=7;exact Qa hc hk,λys hy a ha=>?_⟩
 ·obtain ⟨s,hs⟩:=at' ys hy
  have zq18:=P.arc s ys hs a ha;exact ⟨by show a.t<M.arcs.length;rw [P.len];exact zq18.1,zq18.2.1,zq18.2.2.1,zq18.2.2.2.1,zq18.2.2.2.2.1⟩
 ·obtain ⟨s,hs⟩:=at' ys hy
  exact (P.arc s ys hs a ha).2.2.2.2.2.2
abbrev lmZ:List Sm:= [(Sm.expr (Ex.meth (Ex.var 5) 422608071022 [(Ex.lit (Val.int 0)),(Ex.sub (Ex.var 7) (Ex.bin BOp.mod (Ex.call (Ex.lit (Val.top 137)) [(Ex.var 0),(Ex.bin BOp.add (Ex.var 1) (Ex.lit (Val.int 10)))]) (Ex.lit (Val.int 3))))])),(Sm.ret (Ex.var 5))]
theorem gNm (R:Rg) (h:MH):getAttr P0 h (.top (112+R.i)) nName=some (.str (aV R.i)):=Wo.eq (zhg (Q:=λv _=>v=_) R.hi rfl)
theorem zho (R:Rg) (hd:1<=d): ∃t,∃a:Nat,aP (Cxd P0 d) (.top 138) [.str (aV R.i)] h=some (.ref a,h++t)/\h.length<=a/\(h++t)[a]?=some (.list (wtF R.i)):=by
 obtain ⟨v,g,e,t,a,rfl,rfl,q⟩:=W.get (cV (P:=P0) (d:=d) rfl (zhn (h:=h) (Q:=λv g=> ∃t a,v= .ref a/\g=h++t/\h.length<=a/\(h++t)[a]?=some (.list (wtF R.i))) R.hi hd λt a h1 h2=>⟨t,a,rfl,rfl,h1,h2⟩));exact ⟨t,a,e,q⟩
theorem zfJ {us:List (List Nat)}{ws:List R.α}{n:Nat} (hd:4<=d) (Z:RL R ws) (hn:n<=4): ∃g0:MH,aP (Cxd P0 d) (.top 121) [.top (112+R.i)] h=some (.ref h.length,g0)/\∃v,∃g1:MH,bI (Cxd P0 d) (.ref h.length) 126943688418675 [.int n] g0 g0=some (v,g1)/\∃aW:Nat,∃s:LMs R,aP (Cxd P0 d) (.top 138) [.str (aV R.i)] g1=some (.ref aW,s.g)/\Mk R h s.g h.length s.M [(aW,.list (ws.map R.e))]/\LmP us n 0 s.M:=by
 refine (W.get (zaB (h:=h) (R:=R) (d:=d) (Q:=λv g=>v= .ref h.length/\Mk R h g h.length M0 []) (Qa (by decide) hd) λg H=>⟨rfl,H⟩)).elim λv zq11=>zq11.elim λg0 zq12=>?_;obtain rfl:=zq12.2.1;have H:=zq12.2.2;refine (W.get (nG (n:=n) (d:=d) (Q:=λv g=>Mk R h g h.length (b6 (M0 (R:=R)) n) []) (Qa (by decide) hd) H (by show 0+n<10000;exact Qk (by rw [JA];exact hn) (by decide)) λv g H=>H)).elim λv zq9=>zq9.elim λg1 zq10=>?_;refine (zho (h:=g1) R (d:=d) (Qa (by decide) hd)).elim λt zq7=>zq7.elim λaW zq8=>?_;exact ⟨g0,zq12.1,v,g1,zq10.1,aW,⟨g1++t,_,none,none,none,none,none,none⟩,zq8.1,zq10.2.addX zq8.2.1 (Z.e▸zq8.2.2),zay⟩
section
variable {X:LmX R} (C:LmC X)
include C
theorem zaM {s:LMs R}{k:Nat}{a b c e f o:Option Val} (hd:5<=d) (hk:k<=7) (I:LmI X k s) (q: ∀g M,Mk R X.h g X.h.length M []->pP X.us M->Q (.ref X.h.length) g):WSs (Cxd P0 d) lmZ (lmF X a b c e f o) s.g (Internal.Fin Q):=by
 refine (zeY C I.H (cell X.ns (X.o+10))).elim λi u=>u.2.elim λw v=>?_;refine (W.get (zaD (d:=d) (s:=0) (Q:=λv g=>v= .none/\Mk R X.h g X.h.length {s.M with start:=0,first:=w} [(X.aW,.list (X.ws.map R.e))]) (Qa (by decide) hd) I.H (by rw [I.P.len];exact C.hn) v.2.1 (by decide) λg H=>⟨rfl,H⟩)).elim λv' zq5=>zq5.elim λg5 zq6=>?_;obtain rfl:=zq6.2.1;exact run (.c<| .q (fK (d:=d) (Qa (by decide) hd) X.ns (X.o+10))<| .q (eF u.1 (by decide))<| .v (v.1)<| .p (zq6.1)<| .z (q g5 _ zq6.2.2.drop (I.P.ok C.hn C.hn4 hk v.2.1))) (by kernel_rfl)
abbrev lmE:List Sm:=(bd_law__law_machine.drop 5).take 2
theorem zfL {s:LMs R}{k:Nat} (hd:5<=d) (hk:k<=7) (I:LmI X k s) (q: ∀g M,Mk R X.h g X.h.length M []->pP X.us M->Q (.ref X.h.length) g):WSs (Cxd P0 d) (bd_law__law_machine.drop 5) (lmF X s.a s.b s.c s.d s.e s.f) s.g (Internal.Fin Q):=by
 have d1:1<=d:=Qa (by decide) hd;refine (zeY C I.H (cell X.ns (X.o+9))).elim λi u=>u.2.elim λw v=>(eU (cell X.ns (X.o+9)) (show 0<2 by decide)).elim λr y=>?_;obtain ⟨v1,g4,e4,rfl,H4⟩:=W.get (zaC (d:=d) (s:=X.n-1) (Q:=λv g=>v= .none/\Mk R X.h g X.h.length {s.M with ends:=s.M.ends.set (X.n-1) w} [(X.aW,.list (X.ws.map R.e))]) (Qa (by decide) hd) I.H (by rw [I.P.len];exact XW C.hn XC) v.2.1 (by decide) λg H=>⟨rfl,H⟩);have I4:LmI X k {s with g:=g4,M:= {s.M with ends:=s.M.ends.set (X.n-1) w} }:=⟨H4,I.P.end' v.2.1⟩;have eN:d4 .sub (.int X.n) (.int 1) s.g=some (.int (X.n-1:Nat),s.g):=by
  show some (Val.int ((X.n:Int) -1),s.g)=_;rw [show (X.n:Int) -1=((X.n-1:Nat):Int) by have:=C.hn;lia]
 refine eR (a:=lmE) (b:=lmZ) ?_;cases (inferInstance:Decidable ((r:Int)=1)) with
 |isFalse hr=>exact run (.p (eN)<| .c<| .q (fK d1 X.ns (X.o+9))<| .q (eF u.1 (by decide))<| .v (v.1)<| .p (e4)<| .c<| .q (fK d1 X.ns (X.o+9))<| .q (eF y.2 (by decide))<| .k (eqi r 1)<| .f (beq_false_of_ne hr)<| .z (d8 (zaM C (a:=s.a) (b:=s.b) (c:=s.c) (e:=s.d) (f:=s.e) (o:=s.f) hd hk I4 q))) (by kernel_rfl)
 |isTrue hr=>
  refine (W.get (zc7 (d:=d) (s:=0) (Q:=λv g=>v= .none/\Mk R X.h g X.h.length {s.M with ends:=(s.M.ends.set (X.n-1) w).set 0 R.one} [(X.aW,.list (X.ws.map R.e))]) (Qa (by decide) hd) I4.H (by show 0<s.M.arcs.length;rw [I.P.len];exact C.hn) λg H=>⟨rfl,H⟩)).elim λv2 zq1=>zq1.elim λg5 zq2=>?_;obtain rfl:=zq2.2.1;have I5:LmI X k {s with g:=g5,M:= {s.M with ends:=(s.M.ends.set (X.n-1) w).set 0 R.one} }:=⟨zq2.2.2,(I.P.end' (s:=X.n-1) v.2.1).end' (s:=0) (R.D_mono (Qs _) (Qs _) R.D_one)⟩;exact run (.p (eN)<| .c<| .q (fK d1 X.ns (X.o+9))<| .q (eF u.1 (by decide))<| .v (v.1)<| .p (e4)<| .c<| .q (fK d1 X.ns (X.o+9))<| .q (eF y.2 (by decide))<| .k (eqi r 1)<| .t (beq_iff_eq.mpr hr)<| .p (zq2.1)<| .z (d8 (zaM C (a:=s.a) (b:=s.b) (c:=s.c) (e:=s.d) (f:=s.e) (o:=s.f) hd hk I5 q))) (by kernel_rfl)
abbrev lmN:Ex:= .call (.lit (.ty 491260897125)) [.bin .add (.lit (.int 2)) (.bin .mod (.call (.lit (.top 137)) [.var 0,.bin .add (.var 1) (.lit (.int 1))]) (.lit (.int 6)))]
theorem zfK {s:LMs R} (hd:5<=d) (I:LmI X 0 s): ∃k s',k<=7/\LmI X k s'/\exec (Cxd P0 d) (.fo [8] false lmN lmB) (lmF X s.a s.b s.c s.d s.e s.f) s.g=some ((.nx,lmF X s'.a s'.b s'.c s'.d s'.e s'.f),s'.g):=by
 refine (eU (cell X.ns (X.o+1)) (show 0<6 by decide)).elim λk0 y=>?_;have hk:2+k0<=7:=Qm (QM y.1) 2;refine (foR (c:=Cxd P0 d) (x:=8) (n:=2+k0) (e:=lmN) (b:=lmB) (λs:LMs R=>lmF X s.a s.b s.c s.d s.e s.f) LMs.g (λk s=>LmI X k s) s (Qa hk (by decide)) rfl (by exact bK (.c<| .q (fK (d:=d) (Qa (by decide) hd) X.ns (X.o+1))<| .q (eF y.2 (by decide))<| .c2<| .z (two (.rng (2+k0:Nat)) s.g)) (by kernel_rfl)) I λk s R1 _ hk' I1 C1=>zfI C hd (Qf hk' (Qa hk (by decide))) I1 λs' I'=>C1.nx {s' with a:=vN k} ⟨I'.H,I'.P⟩).elim λs' q=>⟨2+k0,s',hk,q⟩
end
theorem zhs {ns:List Int}{at' aU:Nat}{us:List (List Nat)}{ws:List R.α} (hd:6<=d) (Z:RL R ws) (hU:h[aU]?=some (.list (us.map .str))) (hu:us≠ []) (hul: ∀u∈us,lab u)
  (q: ∀g M,Mk R h g h.length M []->pP us M->Q (.ref h.length) g):WF P0 d 139 [.fl (ns.map .int),.int at',.top (112+R.i),.ref aU,.bool false] h Q:=by
 refine bD (K:=5) hd (some (.fl (ns.map .int))::some (.int at')::some (.top (112+R.i))::some (.ref aU)::some (.bool false)::nn 15) bd_law__law_machine (by kernel_rfl) λd' h'=>?_;refine (eU (cell ns at') (show 0<4 by decide)).elim λn0 y=>?_;have hn4:1+n0<=4:=Qm (QM y.1) 1;refine (zfJ (d:=d') (h:=h) (us:=us) (Qa (by decide) h') Z hn4).elim λg0 a=>a.2.elim λv b=>b.elim λg1 c=>c.2.elim λaW e=>e.elim λs f=>?_;have C:LmC (⟨h,ns,at',aU,us,ws,1+n0,aW⟩:LmX R):=⟨Z,hU,hu,hul,Qf XC (Qd _ _),hn4⟩;refine (zfK C (d:=d') (s:={s with a:=none,b:=none,c:=none,d:=none,e:=none,f:=none}) h' ⟨f.2.1,f.2.2⟩).elim λk z=>z.elim λs' w=>?_;refine eR (a:=bd_law__law_machine.take 5) (b:=bd_law__law_machine.drop 5) ?_;exact run (.p (a.1)<| .q (fK (d:=d') (Qa (by decide) h') ns at')<| .q (eF y.2 (by decide))<| .c<| .p (c.1)<| .w (gNm R)<| .p (f.1)<| .s (w.2.2)<| .z (d8 (zfL C h' w.1 w.2.1 q))) (by kernel_rfl)
end
end Tactic
namespace Tactic
open Internal
section
variable {R:Rg}{d:Nat}{h h0 g:MH}{Q:Val->MH->Prop}{m:Nat}{M M1:Mc R.α}{R':Fl->Internal.Frame->MH->Prop}{X:List (Nat×MObj)}{L1:Ly}
def shA (k:Nat) (a:Ar R.α):Ar R.α:= {a with t:=a.t+k}
structure Ma (N c:Nat) (A:Nat->List (Ar R.α)) (es:List R.α) (M:Mc R.α):Prop where
 len:M.arcs.length=N
 at': ∀s,s<N->aAt M s=A s
 ct:M.cnt<=c
 es:M.ends=es
 st:M.start=0
 fi:M.first=R.one
def jH (A:Nat->List (Ar R.α)) (s:Nat) (a:Ar R.α):Nat->List (Ar R.α):=λs'=>if s=s' then A s++ @ite _ (a.w=R.zero) (R.deq _ _) [] [a] else A s'
theorem Ma.put {N c s:Nat}{A:Nat->List (Ar R.α)}{es:List R.α}{a:Ar R.α}{M':Mc R.α} (H:Ma N c A es M) (hs:s<N) (h1:a.w=R.zero->M'=M) (h2:a.w≠R.zero->M'=M.arc s a):Ma N (c+1) (jH A s a) es M':=by
 by_cases hz:a.w=R.zero
 ·rw [h1 hz]
  refine ⟨H.len,λs' hs'=>?_,Jf H.ct,H.es,H.st,H.fi⟩;unfold jH;by_cases e:s=s'
  ·subst e
   rw [if_pos rfl,if_pos hz,QU];exact H.at' s hs
  ·rw [if_neg e];exact H.at' s' hs'
 ·rw [h2 hz]
  refine ⟨by show (XX _ _ _).length=_;rw [QS];exact H.len,λs' hs'=>?_,Q8 H.ct,H.es,H.st,H.fi⟩;unfold jH;show (M.arcs.set s (M.arcs[s]?.getD []++ [a]))[s']?.getD []=_;by_cases e:s=s'
  ·subst e
   rw [QP (by rw [H.len];exact hs:s<M.arcs.length),if_pos rfl,if_neg hz,<-H.at' s hs];rfl
  ·rw [QO e,if_neg e];exact H.at' s' hs'
def dJ (A:Nat->List (Ar R.α)) (M1:Mc R.α) (k i j:Nat):Nat->List (Ar R.α):=λs=>A s++if k<=s then (gP M1 i j (s-k)).map (shA k) else []
theorem yM {A:Nat->List (Ar R.α)}{k:Nat}:dJ A M1 k 0 0=A:=funext λs=>by
 unfold dJ;have e:gP M1 0 0 (s-k)= []:=by
  unfold gP;rw [if_neg (QZ _)];by_cases h:s-k=0
  ·rw [if_pos h];rfl
  ·rw [if_neg h]
 rw [e];by_cases h:k<=s
 ·rw [if_pos h];exact QU _
 ·rw [if_neg h];exact QU _
theorem yO {A:Nat->List (Ar R.α)}{k i:Nat}:dJ A M1 k i (aAt M1 i).length=dJ A M1 k (i+1) 0:=funext λs=>by
 unfold dJ
 congr 2
 congr 1
 unfold gP;by_cases h1:s-k<i
 ·rw [if_pos h1,if_pos (Q7 h1)]
 ·rw [if_neg h1]
  by_cases h2:s-k=i
  ·rw [if_pos h2,if_pos (QB (QA h2)),h2,Q2]
  ·rw [if_neg h2,if_neg (Jc (QT (Jn (Q0 h1) (JC h2))))]
   by_cases h3:s-k=i+1
   ·rw [if_pos h3];rfl
   ·rw [if_neg h3]
theorem yN {A:Nat->List (Ar R.α)}{k i j:Nat}{a:Ar R.α} (ha:(aAt M1 i)[j]?=some a) (hz:a.w≠R.zero):dJ A M1 k i (j+1)=jH (dJ A M1 k i j) (i+k) (shA k a):=funext λs=>by
 have hz': ¬(shA k a).w=R.zero:=hz;unfold jH;by_cases e:i+k=s
 ·subst e
  rw [if_pos rfl,if_neg hz'];unfold dJ;rw [if_pos (Ql _ _),if_pos (Ql _ _),Nat.add_sub_cancel,iY,iY,uM ha,QL,Qt];rfl
 ·rw [if_neg e]
  unfold dJ;by_cases hk:k<=s
  ·rw [if_pos hk,if_pos hk]
   congr 2
   unfold gP;by_cases h1:s-k<i
   ·rw [if_pos h1,if_pos h1]
   ·rw [if_neg h1,if_neg h1,if_neg (by lia),if_neg (by lia)]
  ·rw [if_neg hk,if_neg hk]
structure ATs (R:Rg) where
 g:MH
 M:Mc R.α
 a:Option Val:=none
 b:Option Val:=none
structure ATp (R:Rg) (h:MH) (m:Nat) (X:List (Nat×MObj)) (N c:Nat) (A:Nat->List (Ar R.α)) (es:List R.α) (s:ATs R):Prop where
 H:Mk R h s.g m s.M X
 P:Ma N c A es s.M
def atF (m m1 k:Nat) (a b:Option Val):Internal.Frame:=some (.ref m)::some (.ref m1)::some (.int k)::a::b::nn 6
abbrev atA:List Sm:= [.expr (.meth (.var 0) 6386275 [.bin .add (.var 3) (.var 2),.attr (.var 4) 504397587826,.attr (.var 4) 465726563698,.attr (.var 4) 131277443786868,.bin .add (.attr (.var 4) 127961880028532) (.var 2)])]
theorem mkA {p q0 s N c:Nat}{A:Nat->List (Ar R.α)}{es:List R.α}{a:Ar R.α}{s0:ATs R} (hd:4<=d) (S:ATp R h m X N c A es s0) (hs:s<N) (ht:a.t<N) (lu:lab a.up) (ll:lab a.lo) (hw:R.D p q0 a.w) (hl:4*p+q0<=3800) (hc:c<100000):
  ∃s':ATs R,bI (Cxd P0 d) (.ref m) k_arc [.int s,.str a.up,.str a.lo,R.e a.w,.int a.t] s0.g s0.g=some (.none,s'.g)/\ATp R h m X N (c+1) (jH A s a) es s':=by
 refine (W.get (zaE (Q:=λv g=>v= .none/\∃M',ATp R h m X N (c+1) (jH A s a) es ⟨g,M',none,none⟩) hd S.H (by rw [S.P.len];exact hs) (by rw [S.P.len];exact ht) lu ll hw hl (Qk S.P.ct hc) λg' M' H' h1 h2=>⟨rfl,M',H',S.P.put hs h1 h2⟩)).elim λv zq1=>zq1.elim λg zq2=>?_;obtain rfl:=zq2.2.1;refine zq2.2.2.elim λM' zq3=>?_;exact ⟨_,zq2.1,zq3⟩
theorem Mk.im {L:Ly}{M1:Mc R.α} (H:Mk R h g m M X) (I:IsM R h L M1):IsM R g L M1:=by obtain ⟨t,rfl⟩:=H.pre;exact I.app
theorem zgc {p q0 k i j b N c:Nat}{A:Nat->List (Ar R.α)}{es:List R.α}{a:Ar R.α}{s:ATs R} (hd:5<=d) (hb:h[b]?=some (dC R a)) (ga:a.t+k<N/\lab a.up/\lab a.lo/\R.D p q0 a.w/\a.w≠R.zero) (hl:4*p+q0<=3800) (hi:i+k<N) (hc:c<100000) (ha:(aAt M1 i)[j]?=some a) (S:ATp R h m X N c (dJ A M1 k i j) es s)
  (q: ∀s',ATp R h m X N (c+1) (dJ A M1 k i (j+1)) es s'->R' .nx (atF m L1.m k (vN i) s'.b) s'.g):WSs (Cxd P0 d) atA (atF m L1.m k (vN i) (vR b)) s.g R':=by
 have hB:=S.H.up hb;refine (mkA (d:=d) (a:=shA k a) (Qa (by decide) hd) S hi ga.1 ga.2.1 ga.2.2.1 ga.2.2.2.1 hl hc).elim λs' e=>?_;have N:ATp R h m X N (c+1) (dJ A M1 k i (j+1)) es {s' with b:=vR b}:=by rw [yN ha ga.2.2.2.2];exact ⟨e.2.H,e.2.P⟩
 exact run (.c<| .v (gUp hB)<| .v (gLo hB)<| .v (gWt hB)<| .v (gTg hB)<| .c<| .p (e.1)<| .z (q _ N)) (by kernel_rfl)
end
end Tactic
namespace Tactic
open Internal
section
variable {R:Rg}{d:Nat}{h h0 g:MH}{Q:Val->MH->Prop}{m:Nat}{M M1:Mc R.α}{R':Fl->Internal.Frame->MH->Prop}{X:List (Nat×MObj)}{L1:Ly}
theorem zgd {p q0 k i N c:Nat}{A:Nat->List (Ar R.α)}{es:List R.α}{s:ATs R} (hd:5<=d) (I:IsM R h L1 M1) (G:a9 M1 p q0) (hi:i<M1.arcs.length) (hN:M1.arcs.length+k<=N) (hc:c+(aAt M1 i).length<100000) (S:ATp R h m X N c (dJ A M1 k i 0) es s):
  ∃s',ATp R h m X N (c+(aAt M1 i).length) (dJ A M1 k (i+1) 0) es s'/\exec (Cxd P0 d) (.fo [4] false (.sub (.attr (.var 1) k_arcs) (.var 3)) atA) (atF m L1.m k (vN i) s.b) s.g=some ((.nx,atF m L1.m k (vN i) s'.b),s'.g):=by
 refine (I.rowR hi).elim λr zq12=>zq12.elim λas zq13=>?_;have hr:=zq13.1;have J:=S.H.im I;refine (foL (c:=Cxd P0 d) (tg:=[4]) (many:=false) (a:=r) (e:=.sub (.attr (.var 1) k_arcs) (.var 3)) (b:=atA) (vs:=as.map .ref) (λs':ATs R=>atF m L1.m k (vN i) s'.b) ATs.g (λj s'=>ATp R h m X N (c+j) (dJ A M1 k i j) es s') s (zq13.2.1.le I zq13.2.2) rfl (λj s' S2=>S2.H.up zq13.2.1.l) (by exact bK (.v (dZ J)<| .v (sl J.arcs hr)<| .z (two (.ref r) s.g)) (by kernel_rfl)) S λj v s' R1 _ hv S2 C2=>?_).elim λs' e=>⟨s',by rw [<-yO];exact zq13.2.1.n▸e.1,e.2⟩;refine (zq13.2.1.a j v hv).elim λb zq10=>zq10.elim λx zq11=>?_;obtain rfl:=zq11.1;exact c9 (zgc hd zq11.2.2 ⟨Qf (Kz (G.arc _ zq13.2.2 x (Qe zq11.2.1)).1 k) hN,(G.arc _ zq13.2.2 x (Qe zq11.2.1)).2⟩ G.bd (Qf (Kz hi k) hN) (Qk (Qm (QJ (aJ zq11.2.1)) c) hc) zq11.2.1 S2 C2.nx)
theorem nV {p q0 k N c:Nat}{A:Nat->List (Ar R.α)}{es:List R.α}{s:ATs R} (hd:6<=d) (I:IsM R h L1 M1) (G:a9 M1 p q0) (S:ATp R h m X N c A es s) (hN:M1.arcs.length+k<=N) (hc:c+M1.cnt<100000):
  ∃s':ATs R,aP (Cxd P0 d) (.top 122) [.ref m,.ref L1.m,.int k] s.g=some (.none,s'.g)/\ATp R h m X N (c+M1.cnt) (dJ A M1 k M1.arcs.length 0) es s':=by
 have w:WF P0 d 122 [.ref m,.ref L1.m,.int k] s.g λv g=>v= .none/\∃s':ATs R,g=s'.g/\ATp R h m X N (c+M1.cnt) (dJ A M1 k M1.arcs.length 0) es s':=by
  refine bD (K:=5) hd (some (.ref m)::some (.ref L1.m)::some (.int k)::nn 8) bd_machine_add_to (by kernel_rfl) λd' h'=>?_;refine (foR (c:=Cxd P0 d') (x:=3) (n:=M1.arcs.length) (e:=.call (.lit (.ty 491260897125)) [.meth (.var 1) k_size []]) (b:=[.fo [4] false (.sub (.attr (.var 1) k_arcs) (.var 3)) atA]) (λs:ATs R=>atF m L1.m k s.a s.b) ATs.g (λi s=>ATp R h m X N (c+d0 M1 i) (dJ A M1 k i 0) es s) ⟨s.g,s.M,none,none⟩ (tE I) rfl (by exact bK (.p (cM (Qa (by decide) h') (S.H.im I))<| .c<| .z (two (.rng M1.arcs.length) s.g)) (by kernel_rfl)) (by rw [yM];exact ⟨S.H,S.P⟩) λi s R1 _ hi S1 C1=>?_).elim λs' e=>?_
  ·refine (zgd (d:=d') h' I G hi hN (Qk (by rw [QY,<-(iS (M:=M1) hi)];exact Qm (lR I _) c) hc) S1).elim λs' e=>?_
   have N':ATp R h m X N (c+d0 M1 (i+1)) (dJ A M1 k (i+1) 0) es {s' with a:=vN i}:=by rw [(iS (M:=M1) hi),<-QY];exact ⟨e.1.H,e.1.P⟩
   exact run (.s (e.2)<| .z (C1.nx _ N')) (by kernel_rfl)
  ·exact run (.s (e.2)<| .z ((show Val.none= .none/\∃s2:ATs R,s'.g=s2.g/\ATp R h m X N (c+M1.cnt) (dJ A M1 k M1.arcs.length 0) es s2 from ⟨rfl,s',rfl,((by unfold d0;rw [Q2,I.ct]:d0 M1 M1.arcs.length=M1.cnt)▸e.1:ATp R h m X N (c+M1.cnt) (dJ A M1 k M1.arcs.length 0) es s')⟩))) (by kernel_rfl)
 refine (W.get (cV (P:=P0) rfl w)).elim λv zq7=>zq7.elim λg zq8=>?_;obtain rfl:=zq8.2.1;refine zq8.2.2.elim λs' zq9=>?_;obtain rfl:=zq9.1;exact ⟨s',zq8.1,zq9.2⟩
theorem sZ {n:Nat}:b6 M.more n=b6 M (n+1):=by
 induction n with
 |zero=>rfl
 |succ n ih=>show (b6 M.more n).more=_;rw [ih];rfl
theorem zaz {n:Nat}:Ma n 0 (λ_=> []) (Qz n R.zero) (b6 (M0 (R:=R)) n):=by
 have e:(b6 (M0 (R:=R)) n).arcs=Qz n []/\(b6 (M0 (R:=R)) n).ends=Qz n R.zero/\(b6 (M0 (R:=R)) n).cnt=0/\(b6 (M0 (R:=R)) n).start=0/\(b6 (M0 (R:=R)) n).first=R.one:=by
  induction n with
  |zero=>exact ⟨rfl,rfl,rfl,rfl,rfl⟩
  |succ n ih=>
   refine ⟨?_,?_,ih.2.2.1,ih.2.2.2.1,ih.2.2.2.2⟩
   ·show _++ [[]]=_;rw [ih.1,<-J3]
   ·show _++ [R.zero]=_;rw [ih.2.1,<-J3]
 refine ⟨by rw [e.1,Q5],λs hs=>?_,QA e.2.2.1,e.2.1,e.2.2.2.1,e.2.2.2.2⟩;unfold aAt;rw [e.1,J0,if_pos hs];rfl
theorem zhe (R:Rg) (h:MH) (hd:4<=d): ∃g0:MH,aP (Cxd P0 d) (.top 121) [.top (112+R.i)] h=some (.ref h.length,g0)/\∃g1:MH,bI (Cxd P0 d) (.ref h.length) k_state [] g0 g0=some (.int 0,g1)/\Mk R h g1 h.length (M0.more (R:=R)) []:=by
 refine (W.get (zaB (h:=h) (R:=R) (d:=d) (Q:=λv g=>v= .ref h.length/\Mk R h g h.length M0 []) (Qa (by decide) hd) λg H=>⟨rfl,H⟩)).elim λv zq5=>zq5.elim λg0 zq6=>?_;obtain rfl:=zq6.2.1;have H:=zq6.2.2;refine (W.get (qZ (d:=d) (Q:=λv g=>v= .int 0/\Mk R h g h.length (M0.more (R:=R)) []) (Qa (by decide) hd) H (by show 0<10000;decide) λg H=>⟨rfl,H⟩)).elim λv zq3=>zq3.elim λg1 zq4=>?_;obtain rfl:=zq4.2.1;exact ⟨g0,zq6.1,g1,zq4.1,zq4.2.2⟩
theorem zfs {n:Nat} (hd:4<=d) (hn:1+n<10000) (H:Mk R h g h.length (M0.more (R:=R)) []): ∃s:ATs R,(∃v,bI (Cxd P0 d) (.ref h.length) 126943688418675 [.int n] g g=some (v,s.g))/\ATp R h h.length [] (1+n) 0 (λ_=> []) (Qz (1+n) R.zero) s:=by
 refine (W.get (nG (n:=n) (d:=d) (Q:=λv g=>Mk R h g h.length (b6 (M0.more (R:=R)) n) []) (Qa (by decide) hd) H hn λv g H=>H)).elim λv zq1=>zq1.elim λg2 zq2=>?_;have H2:=zq2.2;rw [sZ,Ju n 1] at H2;exact ⟨⟨g2,_,none,none⟩,⟨v,zq2.1⟩,H2,zaz⟩
def emA (w:R.α) (t:Nat):Ar R.α:=⟨[],[],w,t⟩
end
end Tactic
namespace Tactic
open Internal
section
variable {R:Rg}{d:Nat}{h h0 g:MH}{Q:Val->MH->Prop}{m:Nat}{M M1 M2:Mc R.α}{R':Fl->Internal.Frame->MH->Prop}{X:List (Nat×MObj)}{L1 L2:Ly}
theorem zbI (hd:2<=d) (I1:IsM R h L1 M1) (I2:IsM R h L2 M2) (h1:0<M1.arcs.length) (h2:0<M2.arcs.length) (q:Q .none h):WF P0 d 179 [.ref L1.m,.ref L2.m] h Q:=by
 refine bD (K:=1) hd (some (.ref L1.m)::some (.ref L2.m)::nn 6) bd_rational__need_alike (by kernel_rfl) λd' h'=>?_;exact run (.v (cA I1)<| .w (gNm R)<| .v (cA I2)<| .w (gNm R)<| .k (nes (aV R.i) (aV R.i))<| .f ((by rw [beq_self_eq_true];rfl:(!(aV R.i==aV R.i))=false))<| .p (cM h' I1)<| .k (eqi M1.arcs.length 0)<| .f (zgQ h1)<| .p (cM h' I2)<| .k (eqi M2.arcs.length 0)<| .f (zgQ h2)<| .z (q)) (by kernel_rfl)
def iM (M1 M2:Mc R.α):Nat->List (Ar R.α):=dJ (dJ (λ_=> []) M1 1 M1.arcs.length 0) M2 (1+M1.arcs.length) M2.arcs.length 0
structure JX (R:Rg) where
 h:MH
 L1:Ly
 L2:Ly
 M1:Mc R.α
 M2:Mc R.α
 p:Nat
 q:Nat
structure JOk (X:JX R):Prop where
 I1:IsM R X.h X.L1 X.M1
 I2:IsM R X.h X.L2 X.M2
 G1:a9 X.M1 X.p X.q
 G2:a9 X.M2 X.p X.q
abbrev JX.n1 (X:JX R):Nat:=X.M1.arcs.length
abbrev JX.n2 (X:JX R):Nat:=X.M2.arcs.length
abbrev JX.N (X:JX R):Nat:=1+X.n1+X.n2
abbrev JnP (X:JX R) (c:Nat) (A:Nat->List (Ar R.α)) (es:List R.α) (s:ATs R):Prop:=ATp R X.h X.h.length [] X.N c A es s
section
variable {Y:JX R} (O:JOk Y)
include O
theorem j_le:1+(Y.n1+Y.n2)<10000:=by
 have:=O.G1.n
 have:=O.G2.n
 show 1+(Y.M1.arcs.length+Y.M2.arcs.length)<10000;lia
theorem j_c:Y.M1.cnt+Y.M2.cnt<=600:=QE O.G1.c O.G2.c
theorem xN (hd:7<=d): ∃s:ATs R,aP (Cxd P0 d) (.top 180) [.ref Y.L1.m,.ref Y.L2.m] Y.h=some (.tup [.ref Y.h.length,.int 1,.int (1+Y.n1:Nat)],s.g)/\JnP Y (Y.M1.cnt+Y.M2.cnt) (iM Y.M1 Y.M2) (Qz Y.N R.zero) s:=by
 have w:WF P0 d 180 [.ref Y.L1.m,.ref Y.L2.m] Y.h λv g=>v= .tup [.ref Y.h.length,.int 1,.int (1+Y.n1:Nat)]/\∃s:ATs R,g=s.g/\JnP Y (Y.M1.cnt+Y.M2.cnt) (iM Y.M1 Y.M2) (Qz Y.N R.zero) s:=by
  refine bD (K:=6) hd (some (.ref Y.L1.m)::some (.ref Y.L2.m)::nn 7) bd_rational__joined (by kernel_rfl) λd' h'=>?_;have d1:1<=d':=Qa (by decide) h';have cc:=j_c O;refine (zhe R Y.h (d:=d') (Qa (by decide) h')).elim λg0 a=>a.2.elim λg1 b=>?_;refine (zfs (n:=Y.n1+Y.n2) (d:=d') (Qa (by decide) h') (j_le O) b.2).elim λs2 c=>c.1.elim λv2 c1=>?_;refine (nV (d:=d') (k:=1) h' O.I1 O.G1 (show JnP Y 0 (λ_=> []) (Qz Y.N R.zero) s2 by have:=c.2;rwa [<-QY] at this) (by rw [Ju];exact Qd _ _) (Qf (Nat.add_lt_add_of_lt_of_le (Jt _) (Qd _ _)) (Qa (Qm cc _) (Qi _)))).elim λs3 e=>?_;refine (nV (d:=d') (k:=1+Y.n1) h' O.I2 O.G2 e.2 (by rw [Ju];exact Qi _) (QB (Qa (QA (QY _ _ _)) (Qa (Qm cc _) (Ql _ _))))).elim λs4 f=>?_;exact run (.p ((fn (P:=P0) (d:=d') rfl (zbI (Q:=λv g=>v= .none/\g=Y.h) (Qa (by decide) h') O.I1 O.I2 (Qk (Qs _) O.G1.st) (Qk (Qs _) O.G2.st) ⟨rfl,rfl⟩)))<| .v (cA O.I1)<| .p (a.1)<| .p (b.1)<| .p (cM d1 (b.2.im O.I1))<| .p (cM d1 (b.2.im O.I2))<| .c<| .p (c1)<| .p (e.1)<| .p (cM d1 (e.2.H.im O.I1))<| .c<| .p (f.1)<| .p (cM d1 ((by have:=f.2;rwa [JA] at this:JnP Y (Y.M1.cnt+Y.M2.cnt) (iM Y.M1 Y.M2) (Qz Y.N R.zero) s4).H.im O.I1))<| .c<| .z ((show Val.tup [.ref Y.h.length,.int 1,.int (1+Y.n1:Nat)]= .tup [.ref Y.h.length,.int 1,.int (1+Y.n1:Nat)]/\∃s:ATs R,s4.g=s.g/\JnP Y (Y.M1.cnt+Y.M2.cnt) (iM Y.M1 Y.M2) (Qz Y.N R.zero) s from ⟨rfl,s4,rfl,(by have:=f.2;rwa [JA] at this:JnP Y (Y.M1.cnt+Y.M2.cnt) (iM Y.M1 Y.M2) (Qz Y.N R.zero) s4)⟩))) (by kernel_rfl)
 obtain ⟨v,g,e,rfl,s,rfl,q⟩:=W.get (cV (P:=P0) rfl w);exact ⟨s,e,q⟩
end
end
end Tactic
namespace Tactic
open Internal
section
variable {R:Rg}{d:Nat}{h h0 g:MH}{Q:Val->MH->Prop}{m:Nat}{M M1 M2:Mc R.α}{R':Fl->Internal.Frame->MH->Prop}{X:List (Nat×MObj)}{L1 L2:Ly}
def jX (M1 M2:Mc R.α):Nat->Nat->List (Ar R.α)
 |0=>jH (iM M1 M2) 0 (emA M1.first (1+M1.start))
 |k+1=>jH (jX M1 M2 k) (1+k) (emA (R.mul (eAt M1 k) M2.first) (1+M1.arcs.length+M2.start))
structure EnP (N b k:Nat) (M2:Mc R.α) (es:List R.α):Prop where
 len:es.length=N
 at': ∀s,es[s]?.getD R.zero=if b<=s/\s<b+k then eAt M2 (s-b) else R.zero
theorem EnP.put {N b k:Nat}{es:List R.α} (E:EnP N b k M2 es) (hk:b+k<N):EnP N b (k+1) M2 (es.set (b+k) (eAt M2 k)):=by
 refine ⟨by rw [QS];exact E.len,λs=>?_⟩;by_cases e:b+k=s
 ·subst e
  rw [QP (by rw [E.len];exact hk),if_pos ⟨Qd _ _,QK (QF _) _⟩,JH];rfl
 ·rw [QO e,E.at' s]
  by_cases h:b<=s/\s<b+k
  ·rw [if_pos h,if_pos ⟨h.1,by lia⟩]
  ·rw [if_neg h,if_neg (by lia)]
theorem Ma.setE {N c s:Nat}{A:Nat->List (Ar R.α)}{es:List R.α}{w:R.α} (H:Ma N c A es M):Ma N c A (es.set s w) {M with ends:=M.ends.set s w}:=⟨H.len,H.at',H.ct,by show M.ends.set s w=_;rw [H.es],H.st,H.fi⟩
theorem a9.eD {p q0 k:Nat} (G:a9 M p q0) (hk:k<M.ends.length):R.D p q0 (eAt M k)/\(M.ends.map R.e)[k]?=some (R.e (eAt M k)):=by
 rw [(by unfold eAt;rw [Qc hk];rfl:eAt M k=M.ends[k])];exact ⟨G.ed _ (Jk hk),by rw [Qu,Qc hk];rfl⟩
structure BHs (R:Rg) where
 s:ATs R
 es:List R.α
structure BHp (Y:JX R) (c:Nat) (A:Nat->List (Ar R.α)) (k:Nat) (s:BHs R):Prop where
 H:JnP Y c A s.es s.s
 E:EnP Y.N (1+Y.n1) k Y.M2 s.es
def bhF (Y:JX R) (a:Option Val):Internal.Frame:=some (.ref Y.L1.m)::some (.ref Y.L2.m)::some (.ref Y.h.length)::some (.int 1)::some (.int (1+Y.n1:Nat))::some (.top (112+R.i))::a::nn 6
abbrev bhB1:List Sm:= [.expr (.meth (.var 2) k_arc [.bin .add (.var 3) (.var 6),.lit (.str []),.lit (.str []),.meth (.var 5) nTimes [.sub (.attr (.var 0) k_ends) (.var 6),.attr (.var 1) k_first],.bin .add (.var 4) (.attr (.var 1) k_start)])]
abbrev bhB2:List Sm:= [.expr (.meth (.var 2) k_end [.bin .add (.var 4) (.var 6),.sub (.attr (.var 1) k_ends) (.var 6)])]
abbrev rgE (x:Nat):Ex:= .call (.lit (.ty 491260897125)) [.meth (.var x) k_size []]
section
variable {Y:JX R} (O:JOk Y)
include O
theorem EnP.zero:EnP Y.N (1+Y.n1) 0 Y.M2 (Qz Y.N R.zero):=⟨Q5,λs=>by
 rw [if_neg (λq=>absurd q.1 (Xe.mpr q.2)),J0];by_cases h:s<Y.N
 ·rw [if_pos h];rfl
 ·rw [if_neg h];rfl⟩
theorem bh1 {s:BHs R} (hd:5<=d) (bd:4*(Y.p+Y.p)+(Y.q+Y.q)<=3800) (P:BHp Y (Y.M1.cnt+Y.M2.cnt+1) (jX Y.M1 Y.M2 0) 0 s): ∃s',BHp Y (Y.M1.cnt+Y.M2.cnt+1+Y.n1) (jX Y.M1 Y.M2 Y.n1) 0 s'/\exec (Cxd P0 d) (.fo [6] false (rgE 0) bhB1) (bhF Y none) s.s.g=some ((.nx,bhF Y s'.s.a),s'.s.g):=by
 refine foR (c:=Cxd P0 d) (x:=6) (n:=Y.n1) (e:=rgE 0) (b:=bhB1) (λs:BHs R=>bhF Y s.s.a) (λs=>s.s.g) (λk s=>BHp Y (Y.M1.cnt+Y.M2.cnt+1+k) (jX Y.M1 Y.M2 k) 0 s) {s with s:= {s.s with a:=none} } (tE O.I1) rfl (by exact bK (.p (cM (Qa (by decide) hd) (P.H.H.im O.I1))<| .c<| .z (two (.rng Y.n1) s.s.g)) (by kernel_rfl)) ⟨⟨P.H.H,P.H.P⟩,P.E⟩ λk s R1 _ hk S C=>?_;have J1:=S.H.H.im O.I1;have J2:=S.H.H.im O.I2;have zq7:=O.G1.eD (k:=k) (O.I1.lenE▸hk);have s2:=O.G2.st;have cc:=j_c O;have n1:=O.G1.n;have ht:1+Y.n1+Y.M2.start<Y.N:=QK s2 _;refine (mkA (d:=d) (s:=1+k) (a:=emA (R.mul (eAt Y.M1 k) Y.M2.first) (1+Y.n1+Y.M2.start)) (Qa (by decide) hd) S.H (Qf (QK hk 1) (Qd _ _)) ht (.inl rfl) (.inl rfl) (R.D_mul zq7.1 O.G2.fst) bd (Qf (Zn (Q8 cc) hk) (Qa (Qm n1 _) (Ql _ _)))).elim λs' e=>?_;have N:BHp Y (Y.M1.cnt+Y.M2.cnt+1+(k+1)) (jX Y.M1 Y.M2 (k+1)) 0 ⟨{s' with a:=vN k},s.es⟩:=⟨⟨e.2.H,e.2.P⟩,S.E⟩;exact run (.c<| .v (jQ J1)<| .v (sl J1.ends zq7.2)<| .v (i8 J2)<| .q (R.ti (Qa (by decide) hd) zq7.1 O.G2.fst bd)<| .v (fW J2)<| .c<| .p (e.1)<| .z (C.nx _ N)) (by kernel_rfl)
theorem bh2 {s:BHs R}{c:Nat}{A:Nat->List (Ar R.α)} (hd:5<=d) (P:BHp Y c A 0 s): ∃s',BHp Y c A Y.n2 s'/\exec (Cxd P0 d) (.fo [6] false (rgE 1) bhB2) (bhF Y s.s.a) s.s.g=some ((.nx,bhF Y s'.s.a),s'.s.g):=by
 refine foR (c:=Cxd P0 d) (x:=6) (n:=Y.n2) (e:=rgE 1) (b:=bhB2) (λs:BHs R=>bhF Y s.s.a) (λs=>s.s.g) (λk s=>BHp Y c A k s) s (tE O.I2) rfl (by exact bK (.p (cM (Qa (by decide) hd) (P.H.H.im O.I2))<| .c<| .z (two (.rng Y.n2) s.s.g)) (by kernel_rfl)) P λk s R1 _ hk S C=>?_;have J2:=S.H.H.im O.I2;obtain ⟨v,g,e,rfl,H⟩:=W.get (zaC (d:=d) (Q:=λv g=>v= .none/\Mk R Y.h g Y.h.length {s.s.M with ends:=s.s.M.ends.set (1+Y.n1+k) (eAt Y.M2 k)} []) (s:=1+Y.n1+k) (Qa (by decide) hd) S.H.H (by rw [S.H.P.len];exact (QK hk _:1+Y.n1+k<Y.N)) (O.G2.eD (k:=k) (O.I2.lenE▸hk)).1 O.G2.bd λg H=>⟨rfl,H⟩);exact run (.c<| .v (jQ J2)<| .v (sl J2.ends (O.G2.eD (k:=k) (O.I2.lenE▸hk)).2)<| .p (e)<| .z (C.nx _ (⟨⟨H,S.H.P.setE⟩,S.E.put (QK hk _:1+Y.n1+k<Y.N)⟩:BHp Y c A (k+1) ⟨⟨g,_,vN k,none⟩,s.es.set (1+Y.n1+k) (eAt Y.M2 k)⟩))) (by kernel_rfl)
theorem yE (hd:8<=d) (bd:4*(Y.p+Y.p)+(Y.q+Y.q)<=3800): ∃s:BHs R,aP (Cxd P0 d) (.top 189) [.ref Y.L1.m,.ref Y.L2.m] Y.h=some (.ref Y.h.length,s.s.g)/\BHp Y (Y.M1.cnt+Y.M2.cnt+1+Y.n1) (jX Y.M1 Y.M2 Y.n1) Y.n2 s:=by
 have w:WF P0 d 189 [.ref Y.L1.m,.ref Y.L2.m] Y.h λv g=>v= .ref Y.h.length/\∃s:BHs R,g=s.s.g/\BHp Y (Y.M1.cnt+Y.M2.cnt+1+Y.n1) (jX Y.M1 Y.M2 Y.n1) Y.n2 s:=by
  refine bD (K:=7) hd (some (.ref Y.L1.m)::some (.ref Y.L2.m)::nn 11) bd_rational_behind (by kernel_rfl) λd' h'=>?_;refine (xN O (d:=d') h').elim λs0 a=>?_;have cc:=j_c O;have J:=a.2.H.im O.I1;refine (mkA (d:=d') (s:=0) (a:=emA Y.M1.first (1+Y.M1.start)) (Qa (by decide) h') a.2 (Qf XC (Qa (Qd _ _) (Qd _ _))) (Qf (QK O.G1.st 1) (Qd _ _)) (.inl rfl) (.inl rfl) O.G1.fst O.G1.bd (Qf (QB cc) (Ql _ _))).elim λs1 b=>?_;refine (bh1 O (d:=d') (Qa (by decide) h') bd (⟨b.2,EnP.zero O⟩:BHp Y (Y.M1.cnt+Y.M2.cnt+1) (jX Y.M1 Y.M2 0) 0 ⟨s1,Qz Y.N R.zero⟩)).elim λs2 c=>?_;refine (bh2 O (d:=d') (Qa (by decide) h') c.1).elim λs3 f=>?_;exact run (.p (a.1)<| .c<| .v (cA J)<| .v (i8 J)<| .v (fW J)<| .c<| .p (b.1)<| .s (c.2)<| .s (f.2)<| .z ((show Val.ref Y.h.length= .ref Y.h.length/\∃s:BHs R,s3.s.g=s.s.g/\BHp Y (Y.M1.cnt+Y.M2.cnt+1+Y.n1) (jX Y.M1 Y.M2 Y.n1) Y.n2 s from ⟨rfl,s3,rfl,f.1⟩))) (by kernel_rfl)
 refine (W.get (cV (P:=P0) rfl w)).elim λv zq1=>zq1.elim λg zq2=>?_;obtain rfl:=zq2.2.1;refine zq2.2.2.elim λs zq3=>?_;obtain rfl:=zq3.1;exact ⟨s,zq2.1,zq3.2⟩
end
end
end Tactic
namespace Tactic
open Internal
section
variable {R:Rg}{M M1 M2:Mc R.α}{u l:List Nat}
def sumR:Nat->(Nat->R.α) ->R.α
 |0,_=>R.zero
 |n+1,f=>R.add (sumR n f) (f n)
theorem bW {n:Nat}{f g:Nat->R.α} (h: ∀i,i<n->f i=g i):sumR n f=sumR n g:=by
 induction n with
 |zero=>rfl
 |succ n ih=>show R.add _ _=R.add _ _;rw [ih λi hi=>h i (Q7 hi),h n (QF n)]
theorem zhT (a b c d:R.α):R.add (R.add a b) (R.add c d)=R.add (R.add a c) (R.add b d):=by rw [R.add_assoc,R.add_assoc,R.swap b]
theorem p8 {n:Nat}{f g:Nat->R.α}:sumR n (λi=>R.add (f i) (g i))=R.add (sumR n f) (sumR n g):=by
 induction n with
 |zero=>exact (R.zero_add _).symm
 |succ n ih=>show R.add _ _=R.add (R.add _ _) (R.add _ _);rw [ih,zhT]
theorem iE {n:Nat}{f:Nat->R.α}{c:R.α}:sumR n (λi=>R.mul c (f i))=R.mul c (sumR n f):=by
 induction n with
 |zero=>exact (R.mul_zero c).symm
 |succ n ih=>show R.add _ _=R.mul c (R.add _ _);rw [ih,R.mul_add]
theorem gC {n:Nat}{f:Nat->R.α} (h: ∀i,i<n->f i=R.zero):sumR n f=R.zero:=by
 induction n with
 |zero=>rfl
 |succ n ih=>show R.add _ _=_;rw [ih λi hi=>h i (Q7 hi),h n (QF n),R.zero_add]
theorem p7 {n i:Nat}{f:Nat->R.α} (hi:i<n) (h: ∀k,k<n->k≠i->f k=R.zero):sumR n f=f i:=by
 induction n with
 |zero=>exact absurd hi (QZ _)
 |succ n ih=>
  show R.add (sumR n f) (f n)=_;by_cases e:i=n
  ·subst e
   rw [gC λk hk=>h k (Q7 hk) (Zy hk),R.zero_add]
  ·rw [ih (Jn (QM hi) e) λk hk=>h k (Q7 hk),h n (QF n) (JC e),R.add_zero]
theorem zE {β:Type}{xs:List β}{f g:β->R.α}:cD (xs.map λx=>R.add (f x) (g x))=R.add (cD (xs.map f)) (cD (xs.map g)):=by
 induction xs with
 |nil=>exact (R.zero_add _).symm
 |cons x xs ih=>rw [QC,QC,QC,aG,aG,aG,ih,zhT]
theorem i0 {β:Type}{xs:List β}{f:β->R.α} (h: ∀x∈xs,f x=R.zero):cD (xs.map f)=R.zero:=by
 induction xs with
 |nil=>rfl
 |cons x xs ih=>rw [QC,aG,h x (.head _),ih λy hy=>h y (.tail _ hy),R.zero_add]
theorem m7 {β:Type}{xs:List β}{n:Nat}{f:β->Nat->R.α}:sumR n (λi=>cD (xs.map λx=>f x i))=cD (xs.map λx=>sumR n (f x)):=by
 induction n with
 |zero=>exact (i0 λx _=>rfl).symm
 |succ n ih=>show R.add (sumR n _) _=_;rw [ih,<-zE];rfl
theorem v9 {β:Type}{xs:List β}{f:β->R.α}{c:R.α}:R.mul (cD (xs.map f)) c=cD (xs.map λx=>R.mul (f x) c):=by
 induction xs with
 |nil=>exact R.zero_mul c
 |cons x xs ih=>rw [QC,QC,aG,aG,R.add_mul,ih]
theorem vF {i c:Nat}:fit u i [c]=true ↔ u[i]?=some c:=by
 unfold fit cut;rw [show (([c]:List Nat)== [])=false from rfl,YY,beq_iff_eq];by_cases h:i<u.length
 ·rw [Zf (QJ h),Zf h,JJ,List.drop_append_of_le_length (by rw [JD];exact Yt (Qi _) (QJ h)),Yu (by rw [JD];exact Z8 _ _),Qc h,Zv]
  exact ⟨λe=>by injection e with e;rw [e],λe=>by cases e;rfl⟩
 ·rw [Z0 (Q0 h),Z0 (ZK (Q0 h)),Q2,Za,Jo (Q0 h)]
  exact ⟨(λe=>nomatch e),(λe=>nomatch e)⟩
theorem zbt {a b:Bool} (h:a=true ↔ b=true):a=b:=by
 cases a<;>cases b<;>simp_all
theorem rH {a i:Nat}{s:List Nat} (hs:lab s):fit (u.drop a) i s=fit u (a+i) s:=by
 rcases hs with rfl| ⟨c,rfl,_⟩
 ·rfl
 ·exact zbt (by rw [vF,vF,List.getElem?_drop])
theorem iN {k i:Nat}{s:List Nat} (hs:lab s):fit (u.take k) i s=true ↔ fit u i s=true/\(s= []\/i+s.length<=k):=by
 rcases hs with rfl| ⟨c,rfl,_⟩
 ·exact ⟨λ_=>⟨rfl,.inl rfl⟩,λ_=>rfl⟩
 ·rw [vF,vF,Xi]
  by_cases h:i<k
  ·rw [if_pos h];exact ⟨λe=>⟨e,.inr h⟩,λe=>e.1⟩
  ·rw [if_neg h]
   exact ⟨(λe=>nomatch e),λe=>e.2.elim (λq=>nomatch q) λq=>absurd q (by show ¬i+1<=k;exact Yl (QB (Q0 h)))⟩
theorem zdY (H:fG M) {a b:Nat} (ha:a<=u.length) (hb:b<=l.length): ∀ {f i j s:Nat},BH M (u.drop a) (l.drop b) f i j s=BH M u l f (a+i) (b+j) s:=by
 intro f
 induction f with
 |zero=>exact λ{i j s} =>rfl
 |succ f ih=>
  intro i j s;show R.add _ (bU (BH M (u.drop a) (l.drop b) f) (u.drop a) (l.drop b) i j (aAt M s))=R.add _ (bU (BH M u l f) u l (a+i) (b+j) (aAt M s))
  congr 1
  ·rw [Zj,Zj]
   by_cases h:i=u.length-a/\j=l.length-b
   ·rw [if_pos h,if_pos (by lia)]
   ·rw [if_neg h,if_neg (by lia)]
  ·refine b8 λx hx=>?_
   refine (cN hx).elim λys zq3=>?_;unfold bL;rw [rH (H.l ys zq3.2.1 x zq3.2.2).1,rH (H.l ys zq3.2.1 x zq3.2.2).2,ih,QY,QY]
theorem zdX {f i j s:Nat} (h:u.length<i\/l.length<j):BH M u l f i j s=R.zero:=by
 induction f generalizing i j s with
 |zero=>rfl
 |succ f ih=>
  show R.add _ (bU (BH M u l f) u l i j (aAt M s))=_;rw [if_neg (by lia),R.zero_add];refine i0 λx _=>?_;rw [ih (by lia),R.mul_zero];cases bL u l i j x<;>rfl
theorem kF {M:Mc R.α}{s:Nat}{a:Ar R.α} (h:a∈aAt M s): ∃ys∈M.arcs,M.arcs[s]?=some ys/\a∈ys:=by
 refine (cN h).elim λys zq1=>?_;exact ⟨ys,zq1.2.1,zq1.1,zq1.2.2⟩
end
end Tactic
namespace Tactic
open Internal
section
variable {R:Rg}{M M1 M2:Mc R.α}{u l:List Nat}
def Bx (M:Mc R.α) (u l:List Nat) (i' j' i j s:Nat):R.α:=Bv M (u.take i') (l.take j') i j s
def m8 (M:Mc R.α) (u l:List Nat) (B:Nat->Nat->Nat->R.α) (i j s:Nat):R.α:=cD ((aAt M s).map λa=>bif bL u l i j a then R.mul a.w (B (i+a.up.length) (j+a.lo.length) a.t) else R.zero)
theorem zh3 {i' j' i j s:Nat} (H:fG M) (hi:i'<=u.length) (hj:j'<=l.length):Bx M u l i' j' i j s=R.add (if i=i'/\j=j' then eAt M s else R.zero) (m8 M u l (Bx M u l i' j') i j s):=by
 have e1:(u.take i').length=i':=by rw [JD];exact Zf hi
 have e2:(l.take j').length=j':=by rw [JD];exact Zf hj
 have past: ∀ {i j s:Nat},i'<i\/j'<j->Bx M u l i' j' i j s=R.zero:=λh=>zdX (by rw [e1,e2];exact h);by_cases h:i<=i'/\j<=j'
 ·show Bv M (u.take i') (l.take j') i j s=_
  rw [mI H (by rw [e1];exact h.1) (by rw [e2];exact h.2)];unfold rP;rw [e1,e2]
  congr 1
  refine b8 λa ha=>?_;refine (cN ha).elim λys zq2=>?_;have zq1:=H.l ys zq2.2.1 a zq2.2.2;cases hu:bL u l i j a with
  |false=>
   have:bL (u.take i') (l.take j') i j a=false:=by
    cases ht:bL (u.take i') (l.take j') i j a with
    |false=>rfl
    |true=>
     have ht:=Qb.mp ht
     have:bL u l i j a=true:=Qb.mpr ⟨((iN zq1.1).mp ht.1).1,((iN zq1.2).mp ht.2).1⟩
     rw [hu] at this;exact nomatch this
   rw [this];rfl
  |true=>
   cases ht:bL (u.take i') (l.take j') i j a with
   |true=>rfl
   |false=>
    have hp:i'<i+a.up.length\/j'<j+a.lo.length:=by
     refine Z3 λhn=>?_
     have:bL (u.take i') (l.take j') i j a=true:=Qb.mpr ⟨(iN zq1.1).mpr ⟨(Qb.mp hu).1,.inr (by lia)⟩,(iN zq1.2).mpr ⟨(Qb.mp hu).2,.inr (by lia)⟩⟩
     rw [ht] at this;exact nomatch this
    rw [cond_false,cond_true,past hp,R.mul_zero]
 ·rw [past (by lia),if_neg (by lia),R.zero_add]
  refine (i0 λa _=>?_).symm;rw [past (by lia),R.mul_zero];cases bL u l i j a<;>rfl
def Cv (M:Mc R.α) (u l:List Nat) (G:Nat->Nat->R.α) (i j s:Nat):R.α:=sumR (u.length+1) λi'=>sumR (l.length+1) λj'=>R.mul (Bx M u l i' j' i j s) (G i' j')
theorem zh1 {G:Nat->Nat->R.α}{i j s:Nat} (H:fG M) (hi:i<=u.length) (hj:j<=l.length):Cv M u l G i j s=R.add (R.mul (eAt M s) (G i j)) (m8 M u l (Cv M u l G) i j s):=by
 have e1:Cv M u l G i j s=sumR (u.length+1) λi'=>sumR (l.length+1) λj'=>R.add (R.mul (if i=i'/\j=j' then eAt M s else R.zero) (G i' j')) (R.mul (m8 M u l (Bx M u l i' j') i j s) (G i' j')):=
  bW λi' hi'=>bW λj' hj'=>by rw [zh3 H (QM hi') (QM hj'),R.add_mul]
 have e2:(sumR (u.length+1) λi'=>sumR (l.length+1) λj'=>R.mul (if i=i'/\j=j' then eAt M s else R.zero) (G i' j'))=R.mul (eAt M s) (G i j):=by
  rw [p7 (i:=i) (QB hi) λk _ hk=>gC λj' _=>by rw [if_neg (by lia),R.zero_mul]];rw [p7 (i:=j) (QB hj) λk _ hk=>by rw [if_neg (by lia),R.zero_mul],if_pos ⟨rfl,rfl⟩]
 have e3:(sumR (u.length+1) λi'=>sumR (l.length+1) λj'=>R.mul (m8 M u l (Bx M u l i' j') i j s) (G i' j'))=m8 M u l (Cv M u l G) i j s:=by
  unfold m8;have h1: ∀i',(sumR (l.length+1) λj'=>R.mul (cD ((aAt M s).map λa=>bif bL u l i j a then R.mul a.w (Bx M u l i' j' (i+a.up.length) (j+a.lo.length) a.t) else R.zero)) (G i' j'))=cD ((aAt M s).map λa=>sumR (l.length+1) λj'=>R.mul (bif bL u l i j a then R.mul a.w (Bx M u l i' j' (i+a.up.length) (j+a.lo.length) a.t) else R.zero) (G i' j')):=λi'=>by
   rw [<-m7];exact bW λj' _=>v9
  rw [bW λi' _=>h1 i',m7];refine b8 λa _=>?_;cases bL u l i j a with
  |false=>
   rw [cond_false];exact gC λi' _=>gC λj' _=>by rw [cond_false,R.zero_mul]
  |true=>
   rw [cond_true];unfold Cv;rw [<-iE];refine bW λi' _=>?_;rw [<-iE];exact bW λj' _=>by rw [cond_true,R.mul_assoc]
 rw [e1,<-e2,<-e3,<-p8];exact bW λi' _=>p8
end
end Tactic
namespace Tactic
open Internal
section
variable {R:Rg}{M M1 M2 B:Mc R.α}{u l:List Nat}
def opA (a:Ar R.α):List (Ar R.α):= @ite _ (a.w=R.zero) (R.deq _ _) [] [a]
theorem s7 {k:Nat}: ∀s,jX M1 M2 k s=iM M1 M2 s++((if s=0 then opA (emA M1.first (1+M1.start)) else [])++(if 1<=s/\s<1+k then opA (emA (R.mul (eAt M1 (s-1)) M2.first) (1+M1.arcs.length+M2.start)) else [])):=by
 induction k with
 |zero=>
  intro s;show jH _ 0 _ s=_;unfold jH;rw [if_neg (show ¬(1<=s/\s<1+0) by lia),QU];by_cases h:0=s
  ·subst h;rw [if_pos rfl,if_pos rfl];rfl
  ·rw [if_neg h,if_neg (JC h),QU]
 |succ k ih=>
  intro s;show jH (jX M1 M2 k) (1+k) _ s=_;unfold jH;by_cases h:1+k=s
  ·subst h
   rw [if_pos rfl,ih,if_neg (show ¬(1+k=0) by lia),if_neg (show ¬(1<=1+k/\1+k<1+k) by lia),if_pos (show 1<=1+k/\1+k<1+(k+1) by lia),QU,QU,Zv,JH];rfl
  ·rw [if_neg h,ih]
   congr 2
   by_cases h2:1<=s/\s<1+k
   ·rw [if_pos h2,if_pos (by lia)]
   ·rw [if_neg h2,if_neg (by lia)]
theorem pY {n s:Nat} (hn:n=M.arcs.length):gP M n 0 s=aAt M s:=by
 unfold gP;by_cases h:s<n
 ·rw [if_pos h]
 ·rw [if_neg h]
  rw [(by unfold aAt;rw [Jo (Qa (QA (KN hn)) (Q0 h))];rfl:aAt M s= [])];by_cases h2:s=n
  ·rw [if_pos h2];rfl
  ·rw [if_neg h2]
theorem oY {s:Nat}:iM M1 M2 s=(if 1<=s then (aAt M1 (s-1)).map (shA 1) else [])++(if 1+M1.arcs.length<=s then (aAt M2 (s-(1+M1.arcs.length))).map (shA (1+M1.arcs.length)) else []):=by
 unfold iM dJ;rw [pY rfl,pY rfl,Zv]
theorem zbQ {s:Nat} (h:M.arcs.length<=s):aAt M s= []:=by unfold aAt;rw [Jo h];rfl
structure BhM (M1 M2 B:Mc R.α):Prop where
 n:B.arcs.length=1+M1.arcs.length+M2.arcs.length
 a0:aAt B 0=opA (emA M1.first (1+M1.start))
 a1: ∀s,s<M1.arcs.length->aAt B (1+s)=(aAt M1 s).map (shA 1)++opA (emA (R.mul (eAt M1 s) M2.first) (1+M1.arcs.length+M2.start))
 a2: ∀s,s<M2.arcs.length->aAt B (1+M1.arcs.length+s)=(aAt M2 s).map (shA (1+M1.arcs.length))
 e1: ∀s,s<1+M1.arcs.length->eAt B s=R.zero
 e2: ∀s,s<M2.arcs.length->eAt B (1+M1.arcs.length+s)=eAt M2 s
 st:B.start=0
 fi:B.first=R.one
theorem zbu {c:Nat}{es:List R.α} (P:Ma (1+M1.arcs.length+M2.arcs.length) c (jX M1 M2 M1.arcs.length) es B) (E:EnP (1+M1.arcs.length+M2.arcs.length) (1+M1.arcs.length) M2.arcs.length M2 es):BhM M1 M2 B:=by
 have ee: ∀s,eAt B s=if 1+M1.arcs.length<=s/\s<1+M1.arcs.length+M2.arcs.length then eAt M2 (s-(1+M1.arcs.length)) else R.zero:=λs=>by
  show B.ends[s]?.getD R.zero=_;rw [P.es];exact E.at' s
 refine ⟨P.len,?_,λs hs=>?_,λs hs=>?_,λs hs=>?_,λs hs=>?_,P.st,P.fi⟩
 ·rw [P.at' 0 (by exact Jl (ZK (Qd _ _))),s7,oY,if_neg (show ¬(1<=0) by lia),if_neg (show ¬(1+M1.arcs.length<=0) by exact Yl (Jl (Qd _ _))),if_pos rfl,if_neg (by lia),QU];exact QU _
 ·rw [P.at' (1+s) (by exact ZZ _ (QK hs _)),s7,oY,if_pos (show 1<=1+s by exact Qd _ _),if_neg (show ¬(1+M1.arcs.length<=1+s) by exact Yl (QK hs _)),if_neg (show ¬(1+s=0) by lia),if_pos (by lia),QU,Zv,JH]
 ·rw [P.at' (1+M1.arcs.length+s) (by exact QK hs _),s7,oY,if_pos (show 1<=1+M1.arcs.length+s by exact ZK (Qd _ _)),if_pos (Qd _ _),if_neg (show ¬(1+M1.arcs.length+s=0) by lia),if_neg (by lia),QU,QU,JH,zbQ (M:=M1) (show M1.arcs.length<=1+M1.arcs.length+s-1 by lia)];rfl
 ·rw [ee,if_neg (by lia)]
 ·rw [ee,if_pos ⟨Qd _ _,QK hs _⟩,JH]
theorem zah {a b:Ar R.α} (h:b∈opA a):b=a/\a.w≠R.zero:=by
 unfold opA at h;by_cases hz:a.w=R.zero
 ·rw [if_pos hz] at h;exact absurd h Qr
 ·rw [if_neg hz] at h;exact ⟨Qw.mp h,hz⟩
end
end Tactic
namespace Tactic
open Internal
section
variable {R:Rg}{M1 M2 B:Mc R.α}{u l:List Nat}
theorem zbv {p q0:Nat} (H:BhM M1 M2 B) (G1:a9 M1 p q0) (G2:a9 M2 p q0) (U1:upE M1) (U2:upE M2) {s:Nat} (hs:s<1+M1.arcs.length+M2.arcs.length) {a:Ar R.α} (ha:a∈aAt B s):
  a.t<1+M1.arcs.length+M2.arcs.length/\lab a.up/\lab a.lo/\R.D (p+p) (q0+q0) a.w/\a.w≠R.zero/\(a.emp=true->s<a.t):=by
 have s1:=G1.st;have s2:=G2.st;have dm: ∀ {w:R.α},R.D p q0 w->R.D (p+p) (q0+q0) w:=λh=>R.D_mono (Qd _ _) (Qd _ _) h;by_cases h0:s=0
 ·subst h0
  rw [H.a0] at ha;obtain ⟨rfl,hz⟩:=zah ha;exact ⟨by show 1+M1.start<_;exact ZZ _ (QK s1 _),.inl rfl,.inl rfl,dm G1.fst,hz,λ_=>by show 0<1+M1.start;exact Jl (Qd _ _)⟩
 ·by_cases h1:s<1+M1.arcs.length
  ·obtain ⟨r,rfl⟩: ∃r,s=1+r:=⟨s-1,by lia⟩
   rw [H.a1 r (Zt h1)] at ha;rcases QX.mp ha with ha|ha
   ·refine (QI.mp ha).elim λb zq16=>?_
    obtain rfl:=zq16.2;refine (kF zq16.1).elim λys zq15=>?_;have zq14:=G1.arc ys zq15.1 b zq15.2.2;exact ⟨by show b.t+1<_;lia,zq14.2.1,zq14.2.2.1,dm zq14.2.2.2.1,zq14.2.2.2.2,λq=>by have:=U1 r ys zq15.2.1 b zq15.2.2 q;show 1+r<b.t+1;exact Qf (QK this _) (QA (Ju _ _))⟩
   ·obtain ⟨rfl,hz⟩:=zah ha
    exact ⟨by show 1+M1.arcs.length+M2.start<_;exact QK s2 _,.inl rfl,.inl rfl,R.D_mul (G1.eAtD r) G2.fst,hz,λ_=>by show 1+r<1+M1.arcs.length+M2.start;exact ZZ _ h1⟩
  ·obtain ⟨r,rfl⟩: ∃r,s=1+M1.arcs.length+r:=⟨s-(1+M1.arcs.length),KN (Xw (Q0 h1))⟩
   rw [H.a2 r (Zt hs)] at ha;obtain ⟨b,hb,rfl⟩:=QI.mp ha;refine (kF hb).elim λys zq11=>?_;have zq10:=G2.arc ys zq11.1 b zq11.2.2;exact ⟨by show b.t+(1+M1.arcs.length)<_;lia,zq10.2.1,zq10.2.2.1,dm zq10.2.2.2.1,zq10.2.2.2.2,λq=>by have:=U2 r ys zq11.2.1 b zq11.2.2 q;show 1+M1.arcs.length+r<b.t+(1+M1.arcs.length);exact Qf (QK this _) (QA (Ju _ _))⟩
theorem zdE {p q0:Nat} (H:BhM M1 M2 B) (G1:a9 M1 p q0) (G2:a9 M2 p q0) (U1:upE M1) (U2:upE M2) (bd:4*(p+p)+(q0+q0)<=3800) (hn:1+M1.arcs.length+M2.arcs.length<=300) (hc:B.cnt<=300) (hE:B.ends.length=B.arcs.length):a9 B (p+p) (q0+q0)/\upE B:=by
 have lt: ∀ {s:Nat}{ys:List (Ar R.α)},B.arcs[s]?=some ys->s<1+M1.arcs.length+M2.arcs.length/\aAt B s=ys:=λh=>⟨by have:=aJ h;rwa [H.n] at this,zbR h⟩;refine ⟨⟨by rw [H.st,H.n];exact Jl (ZK (Qd _ _)),λys hy a ha=>?_,by rw [H.fi];exact R.D_mono (Qs _) (Qs _) R.D_one,λe he=>?_,bd,by rw [H.n];exact hn,hc⟩,λs ys h a ha=>?_⟩
 ·obtain ⟨s,hs⟩:=Ko.mp hy
  have zq7:=zbv H G1 G2 U1 U2 (lt hs).1 ((lt hs).2▸ha);exact ⟨by rw [H.n];exact zq7.1,zq7.2.1,zq7.2.2.1,zq7.2.2.2.1,zq7.2.2.2.2.1⟩
 ·obtain ⟨s,hs⟩:=Ko.mp he
  have hsl:=aJ hs;rw [hE,H.n] at hsl;rw [<-(by unfold eAt;rw [hs];rfl:eAt B s=e)];by_cases h1:s<1+M1.arcs.length
  ·rw [H.e1 s h1];exact R.D_mono (Qs _) (Qs _) R.D_zero
  ·obtain ⟨r,rfl⟩: ∃r,s=1+M1.arcs.length+r:=⟨s-(1+M1.arcs.length),KN (Xw (Q0 h1))⟩
   rw [H.e2 r (Zt hsl)];exact R.D_mono (Qd _ _) (Qd _ _) (G2.eAtD r)
 ·exact (zbv H G1 G2 U1 U2 (lt h).1 ((lt h).2▸ha)).2.2.2.2.2
theorem qA {k:Nat}{xs:List (Ar R.α)}{F:Nat->Nat->Nat->R.α}{i j:Nat}:bU F u l i j (xs.map (shA k))=cD (xs.map λa=>bif bL u l i j a then R.mul a.w (F (i+a.up.length) (j+a.lo.length) (a.t+k)) else R.zero):=by
 unfold bU;rw [ZJ];rfl
theorem yH {xs ys:List (Ar R.α)}{F:Nat->Nat->Nat->R.α}{i j:Nat}:bU F u l i j (xs++ys)=R.add (bU F u l i j xs) (bU F u l i j ys):=by
 induction xs with
 |nil=>exact (R.zero_add _).symm
 |cons x xs ih=>rw [ZD,cJ,cJ,ih,R.add_assoc]
theorem rS {w:R.α}{t:Nat}{F:Nat->Nat->Nat->R.α}{i j:Nat}:bU F u l i j (opA (emA w t))=R.mul w (F i j t):=by
 unfold opA;by_cases h:(emA w t).w=R.zero
 ·rw [if_pos h]
  have h:w=R.zero:=h;rw [h,R.zero_mul];rfl
 ·rw [if_neg h,cJ]
  have e:bL u l i j (emA w t)=true:=rfl;rw [e,cond_true];exact R.add_zero _
theorem zf9 (H:BhM M1 M2 B) (HB:fG B) (H2:fG M2): ∀ {f i j s:Nat},i<=u.length->j<=l.length->s<M2.arcs.length->gQ M2 u l i j s<f->Bv B u l i j (1+M1.arcs.length+s)=Bv M2 u l i j s:=by
 intro f
 induction f with
 |zero=>exact λ_ _ _ h=>absurd h (QZ _)
 |succ f ih=>
  intro i j s hi hj hs hf;rw [mI HB hi hj,mI H2 hi hj];unfold rP;rw [H.e2 s hs,H.a2 s hs,qA]
  congr 1
  refine b8 λa ha=>?_;cases hh:bL u l i j a with
  |false=>rfl
  |true=>
   have zq4:=j7 H2 hi hj ha hh;refine (kF ha).elim λys zq3=>?_;rw [cond_true,cond_true,Ju a.t,ih zq4.1 zq4.2.1 (H2.t ys zq3.1 a zq3.2.2) (Qf zq4.2.2 (QM hf))]
theorem zga (H:BhM M1 M2 B) (HB:fG B) (H1:fG M1) (H2:fG M2) (hst:M2.start<M2.arcs.length): ∀ {f i j s:Nat},i<=u.length->j<=l.length->s<M1.arcs.length->gQ M1 u l i j s<f->Bv B u l i j (1+s)=Cv M1 u l (λi' j'=>R.mul M2.first (Bv M2 u l i' j' M2.start)) i j s:=by
 intro f
 induction f with
 |zero=>exact λ_ _ _ h=>absurd h (QZ _)
 |succ f ih=>
  intro i j s hi hj hs hf;rw [mI HB hi hj,zh1 H1 hi hj];unfold rP;rw [H.e1 (1+s) (QK hs _),H.a1 s hs,yH,qA,rS,zf9 H HB H2 hi hj hst (QF _),R.mul_assoc];have e0:(if i=u.length/\j=l.length then R.zero else R.zero)=R.zero:=by split<;>rfl
  rw [e0,R.zero_add,R.add_comm]
  congr 1
  refine b8 λa ha=>?_;cases hh:bL u l i j a with
  |false=>rfl
  |true=>
   have zq2:=j7 H1 hi hj ha hh;refine (kF ha).elim λys zq1=>?_;rw [cond_true,cond_true,Ju a.t,ih zq2.1 zq2.2.1 (H1.t ys zq1.1 a zq1.2.2) (Qf zq2.2.2 (QM hf))]
theorem zgb (H:BhM M1 M2 B) (HB:fG B) (H1:fG M1) (H2:fG M2) (h1:M1.start<M1.arcs.length) (h2:M2.start<M2.arcs.length):
  R.mul B.first (Bv B u l 0 0 B.start)=sumR (u.length+1) λi=>sumR (l.length+1) λj=>R.mul (R.mul M1.first (Bv M1 (u.take i) (l.take j) 0 0 M1.start)) (R.mul M2.first (Bv M2 (u.drop i) (l.drop j) 0 0 M2.start)):=by
 rw [H.fi,R.one_mul,H.st,mI HB (Qs _) (Qs _)];unfold rP;rw [H.e1 0 (Jl (Qd _ _)),H.a0,rS,zga H HB H1 H2 h2 (Qs _) (Qs _) h1 (QF _)];have e0:(if 0=u.length/\0=l.length then R.zero else R.zero)=R.zero:=by split<;>rfl
 rw [e0,R.zero_add];unfold Cv;rw [<-iE];refine bW λi hi=>?_;rw [<-iE];refine bW λj hj=>?_;have e:Bv M2 (u.drop i) (l.drop j) 0 0 M2.start=Bv M2 u l i j M2.start:=by
  unfold Bv;rw [zdY H2 (QM hi) (QM hj)];rw [(by unfold gQ;rw [Zj,Zj,Xq,Xq]:gQ M2 (u.drop i) (l.drop j) 0 0 M2.start=gQ M2 u l i j M2.start)];rfl
 rw [e,<-R.mul_assoc];rfl
end
end Tactic
namespace Tactic
open Internal
section
variable {R:Rg}{d:Nat}{h h0 g:MH}{Q:Val->MH->Prop}{M M1 M2 B:Mc R.α}{R':Fl->Internal.Frame->MH->Prop}{L L1 L2 LB:Ly}{u l:List Nat}
theorem num1: ∀n,n<5-> ∀c,c<8-> ∀x,x<3-> ∀y,y<3->1+(x+1)*(y+1)*(c+1)<100000/\(1+1*n)*(x+y+2)<=30/\(1+((1+c)*n+n+1+n))*(x+y+2)+(1+(x+1)*(y+1)*(c+1)+n)<=329:=by decide+kernel
def wtv (M:Mc R.α) (u l:List Nat):R.α:=R.mul M.first (Bv M u l 0 0 M.start)
structure Wod (u:List Nat):Prop where
 n:u.length<=2
 c: ∀c∈u,mP c=true
theorem Wod.take (w:Wod u) (i:Nat):Wod (u.take i):=⟨Qa (List.length_take_le' _ _) w.n,λc hc=>w.c c (Zz hc)⟩
theorem Wod.drop (w:Wod u) (i:Nat):Wod (u.drop i):=⟨Qa (by rw [Zj];exact Yn _ _) w.n,λc hc=>w.c c (YE hc)⟩
theorem zd1 {p k:Nat} (hd:10<=d) (ne:R.one≠R.zero) (I:IsM R g L M) (G:a9 M p k) (U:upE M) (hn:M.arcs.length<=60) (wu:Wod u) (wl:Wod l) (cl:1+(u.length+1)*(l.length+1)*(M.cnt+1)<100000) (bd2:4*p+(k+300)<=3800)
  (hbd:4*((p+p*M.arcs.length)*(u.length+l.length+2))+((k+((k+M.cnt)*M.arcs.length+M.arcs.length+1+M.arcs.length))*(u.length+l.length+2)+(1+(u.length+1)*(l.length+1)*(M.cnt+1)+M.arcs.length))<=3800):
  ∃t,aP (Cxd P0 d) (.top 106) [.ref L.m,.str u,.str l] g=some (R.e (wtv M u l),g++t)/\R.D ((p+p*M.arcs.length)*(u.length+l.length+2)) ((k+((k+M.cnt)*M.arcs.length+M.arcs.length+1+M.arcs.length))*(u.length+l.length+2)+(1+(u.length+1)*(l.length+1)*(M.cnt+1)+M.arcs.length)) (wtv M u l):=by
 refine (W.get (cV (P:=P0) rfl (r7 (Q:=λv g'=> ∃t,v=R.e (wtv M u l)/\g'=g++t/\R.D _ _ (wtv M u l)) hd I G U ne hn wu.c wl.c (Qa wu.n (by decide)) (Qa wl.n (by decide)) cl bd2 hbd λt hD=>⟨t,rfl,rfl,hD⟩))).elim λv zq6=>zq6.elim λg' zq7=>zq7.2.elim λt zq8=>?_;obtain rfl:=zq8.1;obtain rfl:=zq8.2.1;exact ⟨t,zq7.1,zq8.2.2⟩
theorem yV {us:List (List Nat)} (hd:10<=d) (ne:R.one≠R.zero) (I:IsM R g L M) (Z:pP us M) (wu:Wod u) (wl:Wod l): ∃t,aP (Cxd P0 d) (.top 106) [.ref L.m,.str u,.str l] g=some (R.e (wtv M u l),g++t)/\R.D 30 329 (wtv M u l):=by
 have b:=num1 M.arcs.length (QB Z.n) M.cnt (QB Z.c) u.length (QB wu.n) l.length (QB wl.n);exact (zd1 hd ne I Z.g Z.up (Qa Z.n (by decide)) wu wl b.1 (by decide) (Qa (QE (QG 4 b.2.1) b.2.2) (by decide))).elim λt q=>⟨t,q.1,R.D_mono b.2.1 b.2.2 q.2⟩
def wds:List (List Nat):= [[],[97],[98],[97,97],[97,98],[98,97],[98,98]]
theorem zgG {i:Nat} (hi:i<7): ∃w,(wds.map Val.str)[i]?=some (.str w)/\Wod w/\w∈wds:=by
 have hl:i<wds.length:=hi
 have: ∀w∈wds,w.length<=2/\∀c∈w,mP c=true:=by decide+kernel
 have:=this _ (Jk hl)
 exact ⟨wds[i],by rw [Qu,Qc hl];rfl,⟨this.1,this.2⟩,Jk hl⟩
theorem zd4 {a:Nat} (W:g[a]?=some (.list (wds.map .str))) (x:Int): ∃i:Nat,Ky x 7=i/\∃w,bJ g (.ref a) (.int i)=some (.str w)/\Wod w/\w∈wds:=
 (eU x (show 0<7 by decide)).elim λi q=>⟨i,q.2,(zgG q.1).elim λw a=>⟨w,sl W a.1,a.2⟩⟩
theorem lab_los: ∀u∈los,lab u:=λu hu=>by
 unfold los at hu;simp only [QH,Qr,or_false] at hu;rcases hu with rfl|rfl|rfl
 ·exact .inr ⟨97,rfl,by decide+kernel⟩
 ·exact .inr ⟨98,rfl,by decide+kernel⟩
 ·exact .inl rfl
theorem zed {ws:List R.α}{us:List (List Nat)} (hu:us≠ []) (hl: ∀u∈us,u∈los) (Z:RL R ws) (ns:List Int) (k:Nat): ∃M:Mc R.α,pP us M/\∃g',aP (Cxd P0 60) (.top 139) [.fl (ns.map .int),.int k,.top (112+R.i),.ref g.length,.bool false] (g++ [.list (us.map .str)])=some (.ref (g++ [MObj.list (us.map .str)]).length,g')/\∃L,L.m=(g++ [MObj.list (us.map .str)]).length/\IsM R g' L M/\∃t,g'=g++t:=by
 obtain ⟨v,g',e,M,rfl,Z1,H⟩:=W.get (cV (P:=P0) (d:=60) (h:=g++ [.list (us.map .str)]) rfl (zhs (Q:=λv g'=> ∃M:Mc R.α,v= .ref (g++ [MObj.list (us.map .str)]).length/\pP us M/\Mk R (g++ [.list (us.map .str)]) g' (g++ [MObj.list (us.map .str)]).length M []) (ns:=ns) (us:=us) (ws:=ws) (at':=k) (by decide) Z aX hu (λu q=>lab_los u (hl u q)) λg1 M1 H1 Z1=>⟨M1,rfl,Z1,H1⟩));refine H.x.elim λL zq2=>?_;obtain ⟨t,ht⟩:=H.pre;exact ⟨M,Z1,g',e,L,zq2.1,zq2.2.1,_,by rw [ht,Qt]⟩
end
theorem zaJ {α:Type}{a b c w:α}{P:α->Prop} (h:w∈ [a,b,c]) (h1:P a) (h2:P b) (h3:P c):P w:=by
 simp only [QH,Qr,or_false] at h;rcases h with rfl|rfl|rfl
 ·exact h1
 ·exact h2
 ·exact h3
theorem rl0:RL RYes [true,true,true]:=⟨show true≠false by decide,rfl,λw hw=>zaJ (P:=λw=>RYes.D 1 1 w/\w≠RYes.zero) hw ⟨trivial,show true≠false by decide⟩ ⟨trivial,show true≠false by decide⟩ ⟨trivial,show true≠false by decide⟩,rfl⟩
theorem lD {n:Nat} (h:n<=3):RLeast.D 1 1 (some n)/\(some n:Option Nat)≠none:=⟨λm e=>by cases e;exact h,nofun⟩
theorem rl1:RL RLeast [some 0,some 1,some 3]:=⟨show (some 0:Option Nat)≠none from nofun,rfl,λw hw=>zaJ (P:=λw=>RLeast.D 1 1 w/\w≠RLeast.zero) hw (lD (by decide)) (lD (by decide)) (lD (by decide)),rfl⟩
theorem rl2:RL RCount [(1:Nat),(1:Nat),(2:Nat)]:=⟨show (1:Nat)≠0 by decide,rfl,λw hw=>zaJ (P:=λw=>RCount.D 1 1 w/\w≠RCount.zero) hw ⟨show 1<=2 ^ 1 by decide,show (1:Nat)≠0 by decide⟩ ⟨show 1<=2 ^ 1 by decide,show (1:Nat)≠0 by decide⟩ ⟨show 2<=2 ^ 1 by decide,show (2:Nat)≠0 by decide⟩,rfl⟩
def fq1 (n:Nat) (h:n≠0):QN:=⟨⟨1,n,h,Nat.coprime_one_left n⟩,Rat.num_nonneg.mp (show (0:Int)<=1 by decide)⟩
theorem fL {n:Nat}{h:n≠0} (hd:n ∣ 12):DQ 1 1 (fq1 n h)/\DL 1 1 (fq1 n h)/\fq1 n h≠ ⟨0,Rat.le_refl⟩:=by
 refine ⟨⟨by rw [Wt];exact hd,by show 1<=2 ^ 1*n;lia⟩,⟨by rw [Wt];exact hd,(Xf h:1<=n)⟩,λe=>?_⟩;have e:(1:Int)=0:=congrArg (λq:QN=>q.1.num) e;exact absurd e (by decide)
theorem one_q:(⟨1,q01⟩:QN)≠ ⟨0,Rat.le_refl⟩:=λe=>by
 have e:(1:Int)=0:=congrArg (λq:QN=>q.1.num) e;exact absurd e (by decide)
theorem rl3:RL RChance [fq1 4 (by decide),fq1 3 (by decide),fq1 2 (by decide)]:=⟨one_q,rfl,λw hw=>zaJ (P:=λw=>RChance.D 1 1 w/\w≠RChance.zero) hw ⟨(fL ⟨3,rfl⟩).1,(fL ⟨3,rfl⟩).2.2⟩ ⟨(fL ⟨4,rfl⟩).1,(fL ⟨4,rfl⟩).2.2⟩ ⟨(fL ⟨6,rfl⟩).1,(fL ⟨6,rfl⟩).2.2⟩,rfl⟩
theorem rl4:RL RLikely [fq1 2 (by decide),fq1 3 (by decide),fq1 1 (by decide)]:=⟨one_q,rfl,λw hw=>zaJ (P:=λw=>RLikely.D 1 1 w/\w≠RLikely.zero) hw ⟨(fL ⟨6,rfl⟩).2.1,(fL ⟨6,rfl⟩).2.2⟩ ⟨(fL ⟨4,rfl⟩).2.1,(fL ⟨4,rfl⟩).2.2⟩ ⟨(fL ⟨12,rfl⟩).2.1,(fL ⟨12,rfl⟩).2.2⟩,rfl⟩
end Tactic
namespace Tactic
open Internal
section
variable {R:Rg}{d:Nat}{h h0 g:MH}{Q:Val->MH->Prop}{M M1 M2 B:Mc R.α}{R':Fl->Internal.Frame->MH->Prop}{L L1 L2 LB:Ly}{u l:List Nat}
theorem num2: ∀n,n<10-> ∀c,c<20-> ∀x,x<3-> ∀y,y<3->1+(x+1)*(y+1)*(c+1)<100000/\4*((2+2*n)*(x+y+2))+((2+((2+c)*n+n+1+n))*(x+y+2)+(1+(x+1)*(y+1)*(c+1)+n))<=3800:=by decide+kernel
structure LX (R:Rg) where
 g0:MH
 M1:Mc R.α
 M2:Mc R.α
 B:Mc R.α
 L1:Ly
 L2:Ly
 LB:Ly
 ns:List Int
 aW:Nat
structure LOk (X:LX R):Prop where
 ne:R.one≠R.zero
 I1:IsM R X.g0 X.L1 X.M1
 I2:IsM R X.g0 X.L2 X.M2
 IB:IsM R X.g0 X.LB X.B
 Z1: ∃us,pP us X.M1
 Z2: ∃us,pP us X.M2
 H:BhM X.M1 X.M2 X.B
 G:a9 X.B 2 2/\upE X.B
 n:X.B.arcs.length<=9
 c:X.B.cnt<=19
 W:X.g0[X.aW]?=some (.list (wds.map .str))
def tmF (M1 M2:Mc R.α) (u l:List Nat) (i j:Nat):R.α:=R.mul (wtv M1 (u.take i) (l.take j)) (wtv M2 (u.drop i) (l.drop j))
def xW (M1 M2:Mc R.α) (u l:List Nat) (i j:Nat):R.α:=R.add (sumR i λi=>sumR (l.length+1) (tmF M1 M2 u l i)) (sumR j (tmF M1 M2 u l i))
structure LS (R:Rg) where
 g:MH
 v:R.α
 a:Option Val:=none
 b:Option Val:=none
structure LP (X:LX R) (u l:List Nat) (i j:Nat) (s:LS R):Prop where
 pre: ∃t,s.g=X.g0++t
 v:s.v=xW X.M1 X.M2 u l i j
 D:R.D 60 (658+(i*(l.length+1)+j)) s.v
theorem due_zero:xW M1 M2 u l 0 0=R.zero:=R.zero_add _
theorem zbg {i j:Nat}:xW M1 M2 u l i (j+1)=R.add (xW M1 M2 u l i j) (tmF M1 M2 u l i j):=(R.add_assoc ..).symm
theorem zbh {i:Nat}:xW M1 M2 u l i (l.length+1)=xW M1 M2 u l (i+1) 0:=(R.add_zero _).symm
theorem nS {n a:Nat}:dE n (.int a)=some (min a n):=by
 show grd (decide ((0:Int)<=(a:Int))) (some (min (a:Int).toNat n))=_;rw [decide_eq_true (show (0:Int)<=(a:Int) by exact ZG _),ZU];rfl
theorem st1 (s:List Nat) (a:Nat) (h:MH):slice h (.str s) 1 [.int a]=some (.str (s.drop a),h):=by
 refine (zfe (s:=s) (n:=1) (bs:=[.int a]) (p:=(min a s.length,s.length)) (by show (dE s.length (.int a)).map (λx=>(x,s.length))=_;rw [nS];rfl)).trans ?_;have e:cut s (min a s.length) s.length=s.drop a:=by
  unfold cut;rw [Q2];by_cases h:a<=s.length
  ·rw [Zf h]
  ·rw [Z0 (Kw h),Za,Yu (Kw h)]
 exact congrArg (λx=>some (Val.str x,h)) e
theorem st2 (s:List Nat) (a:Nat) (h:MH):slice h (.str s) 2 [.int a]=some (.str (s.take a),h):=by
 refine (zfe (s:=s) (n:=2) (bs:=[.int a]) (p:=(0,min a s.length)) (by show (dE s.length (.int a)).map (λx=>(0,x))=_;rw [nS];rfl)).trans ?_;have e:cut s 0 (min a s.length)=s.take a:=by
  unfold cut;rw [X4];by_cases h:a<=s.length
  ·rw [Zf h]
  ·rw [Z0 (Kw h),Q2,List.take_of_length_le (Kw h)]
 exact congrArg (λx=>some (Val.str x,h)) e
def lwF (X:LX R) (k u l v a b:Option Val):Internal.Frame:=some (.fl (X.ns.map .int))::some (.top (112+R.i))::some (.ref X.L1.m)::some (.ref X.L2.m)::some (.ref X.LB.m)::some (.ref X.aW)::k::u::l::v::a::b::nn 6
abbrev lwJ:List Sm:= [(Sm.asg (T1.nm 9) (Ex.meth (Ex.var 1) 1886156147 [(Ex.var 9),(Ex.meth (Ex.var 1) 499984983411 [(Ex.call (Ex.lit (Val.top 106)) [(Ex.var 2),(Ex.slice (Ex.var 7) 2 [(Ex.var 10)]),(Ex.slice (Ex.var 8) 2 [(Ex.var 11)])]),(Ex.call (Ex.lit (Val.top 106)) [(Ex.var 3),(Ex.slice (Ex.var 7) 1 [(Ex.var 10)]),(Ex.slice (Ex.var 8) 1 [(Ex.var 11)])])])]))]
abbrev lwG (X:LX R) (k:Option Val) (u l:List Nat) (v:R.α) (a b:Option Val):Internal.Frame:=lwF X k (some (.str u)) (some (.str l)) (some (R.e v)) a b
section
variable {X:LX R} (O:LOk X) (wu:Wod u) (wl:Wod l)
include O wu wl
theorem zfF {i j:Nat}{k:Option Val}{s:LS R} (hd:10<=d) (hi:i<u.length+1) (hj:j<l.length+1) (P:LP X u l i j s)
  (q: ∀s',LP X u l i (j+1) s'->R' .nx (lwG X k u l s'.v (vN i) s'.b) s'.g):WSs (Cxd P0 d) lwJ (lwG X k u l s.v (vN i) (vN j)) s.g R':=by
 refine O.Z1.elim λus1 Z1=>O.Z2.elim λus2 Z2=>P.pre.elim λt eg=>?_;have cnt:i*(l.length+1)+j<=20:=by
  have:=YI (Qa (QM hi) wu.n) (Q8 wl.n)
  have:=wl.n
  lia
 refine (yV (d:=d) (g:=s.g) hd O.ne (eg▸O.I1.app) Z1 (wu.take i) (wl.take j)).elim λt1 a=>?_;refine (yV (d:=d) (g:=s.g++t1) hd O.ne (IsM.app (eg▸O.I2.app)) Z2 (wu.drop i) (wl.drop j)).elim λt2 b=>?_;have D:=R.D_mono (q:=60) (l:=658+(i*(l.length+1)+j)) (Qi _) (Qd _ _) (R.D_mul a.2 b.2);exact run (.q (st2 u i)<| .q (st2 l j)<| .p (a.1)<| .q (st1 u i)<| .q (st1 l j)<| .p (b.1)<| .q (R.ti (Qa (by decide) hd:3<=d) a.2 b.2 (by decide))<| .q (R.pl (Qa (by decide) hd:3<=d) P.D D (Qa (QE (Qi _) (Qm cnt _)) (Ql _ _)))<| .z (q _ (⟨⟨t++t1++t2,by show s.g++t1++t2=_;rw [eg,Qt,Qt,Qt]⟩,by show R.add s.v _=_;rw [zbg,P.v],R.D_add P.D D⟩:LP X u l i (j+1) ⟨s.g++t1++t2,R.add s.v (tmF X.M1 X.M2 u l i j),none,vN j⟩))) (by kernel_rfl)
abbrev lwI0:Sm:=Sm.fo [11] false (Ex.call (Ex.lit (Val.ty 491260897125)) [(Ex.bin BOp.add (Ex.call (Ex.lit (Val.bi 7103854)) [(Ex.var 8)]) (Ex.lit (Val.int 1)))]) lwJ
abbrev lwI:List Sm:= [lwI0]
theorem LP.next {i:Nat}{s:LS R} (P:LP X u l i (l.length+1) s):LP X u l (i+1) 0 {s with a:=vN i}:=⟨P.pre,by show s.v=_;rw [P.v,zbh],by
 have:=P.D
 rwa [show i*(l.length+1)+(l.length+1)=(i+1)*(l.length+1)+0 by rw [ZE i,JI];rfl] at this⟩
theorem zfG {i:Nat}{k:Option Val}{s:LS R} (hd:10<=d) (hi:i<u.length+1) (P:LP X u l i 0 s): ∃s',LP X u l (i+1) 0 s'/\exec (Cxd P0 d) lwI0 (lwG X k u l s.v (vN i) s.b) s.g=some ((.nx,lwG X k u l s'.v s'.a s'.b),s'.g):=
 (foR (c:=Cxd P0 d) (x:=11) (n:=l.length+1) (e:=.call (.lit (.ty 491260897125)) [.bin .add (.call (.lit (.bi 7103854)) [.var 8]) (.lit (.int 1))]) (b:=lwJ) (λs:LS R=>lwG X k u l s.v (vN i) s.b) LS.g (λj s=>LP X u l i j s) s (Qa (Q8 wl.n) (by decide)) rfl (by exact bK (.c3<| .z (iG l.length s.g)) (by kernel_rfl)) P λj s R1 _ hj P1 C1=>zfF O wu wl hd hi hj P1 C1.nx).elim λs' e=>⟨{s' with a:=vN i},LP.next O wu wl e.1,e.2⟩
theorem zfD {k:Option Val}{s:LS R} (hd:10<=d) (P:LP X u l 0 0 s): ∃s',LP X u l (u.length+1) 0 s'/\exec (Cxd P0 d) (.fo [10] false (.call (.lit (.ty 491260897125)) [.bin .add (.call (.lit (.bi 7103854)) [.var 7]) (.lit (.int 1))]) lwI) (lwG X k u l s.v s.a s.b) s.g=some ((.nx,lwG X k u l s'.v s'.a s'.b),s'.g):=
 foR (c:=Cxd P0 d) (x:=10) (n:=u.length+1) (e:=.call (.lit (.ty 491260897125)) [.bin .add (.call (.lit (.bi 7103854)) [.var 7]) (.lit (.int 1))]) (b:=lwI) (λs:LS R=>lwG X k u l s.v s.a s.b) LS.g (λi s=>LP X u l i 0 s) s (Qa (Q8 wu.n) (by decide)) rfl (by exact bK (.c3<| .z (iG u.length s.g)) (by kernel_rfl)) P λi s R1 _ hi P1 C1=>(zfG O wu wl (d:=d) (k:=k) hd hi P1).elim λs' e=>by exact run (.s (e.2)<| .z (C1.nx s' e.1)) (by kernel_rfl)
theorem LP.val {i:Nat}{s:LS R} (P:LP X u l (u.length+1) 0 s):s.v=wtv X.B u l:=by
 refine O.Z1.elim λus1 Z1=>O.Z2.elim λus2 Z2=>?_;unfold wtv;rw [zgb O.H (O.G.1.lab O.G.2) (Z1.g.lab Z1.up) (Z2.g.lab Z2.up) Z1.g.st Z2.g.st,P.v];exact R.add_zero _
theorem zeF {s:LS R} (hd:10<=d) (pre: ∃t,s.g=X.g0++t): ∃t,aP (Cxd P0 d) (.top 106) [.ref X.LB.m,.str u,.str l] s.g=some (R.e (wtv X.B u l),s.g++t):=by
 have b:=num2 X.B.arcs.length (QB O.n) X.B.cnt (QB O.c) u.length (QB wu.n) l.length (QB wl.n);exact pre.elim λt eg=>(zd1 (d:=d) hd O.ne (eg▸O.IB.app) O.G.1 O.G.2 (Qa O.n (by decide)) wu wl b.1 (by decide) b.2).elim λt q=>⟨t,q.1⟩
end
abbrev lwK:List Sm:= [(Sm.asg (T1.nm 7) (Ex.sub (Ex.var 5) (Ex.bin BOp.mod (Ex.call (Ex.lit (Val.top 137)) [(Ex.var 0),(Ex.bin BOp.add (Ex.lit (Val.int 25)) (Ex.var 6))]) (Ex.lit (Val.int 7))))),(Sm.asg (T1.nm 8) (Ex.sub (Ex.var 5) (Ex.bin BOp.mod (Ex.call (Ex.lit (Val.top 137)) [(Ex.var 0),(Ex.bin BOp.add (Ex.lit (Val.int 28)) (Ex.var 6))]) (Ex.lit (Val.int 7))))),(Sm.asg (T1.nm 9) (Ex.attr (Ex.var 1) 121424990136436)),(Sm.fo [10] false (Ex.call (Ex.lit (Val.ty 491260897125)) [(Ex.bin BOp.add (Ex.call (Ex.lit (Val.bi 7103854)) [(Ex.var 7)]) (Ex.lit (Val.int 1)))]) lwI),(Sm.ite (Ex.cmp COp.ne (Ex.call (Ex.lit (Val.top 106)) [(Ex.var 4),(Ex.var 7),(Ex.var 8)]) (Ex.var 9)) [(Sm.ret (Ex.lit (Val.bool false)))] [])]
structure KS where
 g:MH
 k:Option Val:=none
 u:Option Val:=none
 l:Option Val:=none
 v:Option Val:=none
 a:Option Val:=none
 b:Option Val:=none
theorem zfE {X:LX R} (O:LOk X) {k:Nat}{s:KS} (hd:10<=d) (P: ∃t,s.g=X.g0++t)
  (q: ∀s':KS,(∃t,s'.g=X.g0++t) ->R' .nx (lwF X (vN k) s'.u s'.l s'.v s'.a s'.b) s'.g):
  WSs (Cxd P0 d) lwK (lwF X (vN k) s.u s.l s.v s.a s.b) s.g R':=by
 refine (zd4 (a:=X.aW) (P.elim λt eg=>eg▸aB O.W) (cell X.ns (25+k))).elim λi1 a=>a.2.elim λu b=>(zd4 (a:=X.aW) (P.elim λt eg=>eg▸aB O.W) (cell X.ns (28+k))).elim λi2 c=>c.2.elim λl f=>?_;refine (zfD O b.2.1 f.2.1 (d:=d) (k:=vN k) hd (⟨P,due_zero.symm,R.D_mono (Qs _) (Qs _) R.D_zero⟩:LP X u l 0 0 ⟨s.g,R.zero,s.a,s.b⟩)).elim λz e=>?_;refine (zeF O b.2.1 f.2.1 (d:=d) hd e.1.pre).elim λt3 w=>?_;have d1:1<=d:=Qa (by decide) hd;exact run (.c<| .q (fK d1 X.ns (25+k))<| .q (eF a.1 (by decide))<| .v (b.1)<| .c<| .q (fK d1 X.ns (28+k))<| .q (eF c.1 (by decide))<| .v (f.1)<| .w (R.no)<| .s (e.2)<| .p (w)<| .k (R.qn (wtv X.B u l) z.v)<| .f ((by rw [R.yes (LP.val O b.2.1 f.2.1 (i:=0) e.1).symm];rfl:(!@decide (wtv X.B u l=z.v) (R.deq _ _))=false))<| .z (q ⟨z.g++t3,vN k,some (.str u),some (.str l),some (R.e z.v),z.a,z.b⟩ (e.1.pre.elim λt2 eg=>⟨t2++t3,by rw [eg,Qt]⟩: ∃t,z.g++t3=X.g0++t))) (by kernel_rfl)
end
end Tactic
namespace Tactic
open Internal
section
variable {R:Rg}
theorem rC {ws:List R.α} (Z:RL R ws) (ns:List Int) (h:MH):WSs (Cxd P0 60) (bd_law_law.drop 1) (some (.fl (ns.map .int))::some (.top (112+R.i))::nn 16) h (Internal.Fin λv _=>v= .bool true):=by
 refine (zed (g:=h) (us:=[[97],[98],[]]) (by decide) (by decide) Z ns 1).elim λM1 a=>a.2.elim λg1 b=>b.2.elim λL1 c=>?_;refine (zed (g:=g1) (us:=[[97],[98],[]]) (by decide) (by decide) Z ns 13).elim λM2 a2=>a2.2.elim λg2 b2=>b2.2.elim λL2 c2=>?_;have I1:IsM R g2 L1 M1:=c2.2.2.elim λt e=>e▸c.2.1.app;have e1:=b.1;have e2:=b2.1;rw [<-c.1] at e1;rw [<-c2.1] at e2;refine (yE (d:=60) (Y:=⟨g2,L1,L2,M1,M2,1,1⟩) ⟨I1,c2.2.1,a.1.g,a2.1.g⟩ (by decide) (show 4*(1+1)+(1+1)<=3800 by decide)).elim λs f=>?_;have P3:=f.2.H.P;refine f.2.H.H.x.elim λLB zq4=>?_;have f1:=f.1;rw [<-(zq4.1:LB.m=g2.length)] at f1;have up: ∀ {L:Ly}{M:Mc R.α},IsM R g2 L M->IsM R (s.s.g++ [.list (wds.map .str)]) L M:=λI=>f.2.H.H.pre.elim λt e=>(show s.s.g=g2++t from e)▸I.app.app;have n1:=a.1.n;have n2:=a2.1.n;have c1':=a.1.c;have c2':=a2.1.c;have ct:s.s.M.cnt<=M1.cnt+M2.cnt+1+M1.arcs.length:=P3.ct;have ln:s.s.M.arcs.length=1+M1.arcs.length+M2.arcs.length:=P3.len;have O:LOk (⟨s.s.g++ [.list (wds.map .str)],M1,M2,s.s.M,L1,L2,LB,ns,s.s.g.length⟩:LX R):=⟨Z.ne,up I1,up c2.2.1,zq4.2.1.app,⟨_,a.1⟩,⟨_,a2.1⟩,(zbu P3 f.2.E:BhM M1 M2 s.s.M),zdE (zbu P3 f.2.E:BhM M1 M2 s.s.M) a.1.g a2.1.g a.1.up a2.1.up (by decide) (Qa (QE (Qm n1 _) n2) (Ql _ _)) (by lia) zq4.2.1.lenE,by show s.s.M.arcs.length<=9;lia,by show s.s.M.cnt<=19;lia,aX⟩;refine (foR (c:=Cxd P0 60) (x:=6) (n:=3) (e:=.call (.lit (.ty 491260897125)) [.lit (.int 3)]) (b:=lwK) (λz:KS=>lwF (⟨s.s.g++ [.list (wds.map .str)],M1,M2,s.s.M,L1,L2,LB,ns,s.s.g.length⟩:LX R) z.k z.u z.l z.v z.a z.b) KS.g (λ_ z=> ∃t,z.g=s.s.g++ [.list (wds.map .str)]++t) ⟨s.s.g++ [.list (wds.map .str)],none,none,none,none,none,none⟩ (by decide) rfl (by exact bK (.c<| .z (two (.rng 3) (s.s.g++ [.list (wds.map .str)]))) (by kernel_rfl)) ⟨[],(QU _).symm⟩ λk z R1 _ hk P C1=>zfE O (by decide) P λs' P'=>C1.nx {s' with k:=vN k} P').elim λz e=>?_;exact run (.p (e1)<| .p (e2)<| .p (f1)<| .s (e.2)<| .z ((show Val.bool true= .bool true from rfl))) (by kernel_rfl)
end
theorem zfP (ns:List Int):WF P0 61 178 [.fl (ns.map .int)] [] λv _=>v= .bool true:=by
 refine uD (d:=60) (fn:=fn_law_law) rfl rfl ?_;show WSs (Cxd P0 60) bd_law_law (some (.fl (ns.map .int))::nn 17) _ _;obtain ⟨i,hi,ei⟩:=eU (cell ns 0) (show 0<5 by decide);have tail: ∀h,WSs (Cxd P0 60) (bd_law_law.drop 1) (some (.fl (ns.map .int))::some (.top (112+i))::nn 16) h (Internal.Fin λv _=>v= .bool true):=
  dW (C:=λi=> ∀h,WSs (Cxd P0 60) (bd_law_law.drop 1) (some (.fl (ns.map .int))::some (.top (112+i))::nn 16) h (Internal.Fin λv _=>v= .bool true)) i hi (rC rl0 ns) (rC rl1 ns) (rC rl2 ns) (rC rl3 ns) (rC rl4 ns)
 have e1:bJ [.list [.str (aV 0),.str (aV 1),.str (aV 2),.str (aV 3),.str (aV 4)]] (.ref 0) (.int i)=some (.str (aV i)):=sl (i:=i) rfl (dW (C:=λi=>([.str (aV 0),.str (aV 1),.str (aV 2),.str (aV 3),.str (aV 4)]:List Val)[i]?=some (.str (aV i))) i hi rfl rfl rfl rfl rfl);have e2:=fn (P:=P0) (d:=60) (h:=[.list [.str (aV 0),.str (aV 1),.str (aV 2),.str (aV 3),.str (aV 4)]]) rfl (zgZ (Q:=λv g=>v= .top (112+i)/\g=_) hi (by decide) ⟨rfl,rfl⟩);refine eR (a:=bd_law_law.take 1) (b:=bd_law_law.drop 1) ?_;exact run (.at ([.list [.str (aV 0),.str (aV 1),.str (aV 2),.str (aV 3),.str (aV 4)]])<| .q (fK (d:=60) (by decide) ns 0)<| .q (eF ei (by decide))<| .v (e1)<| .p (e2)<| .z (d8 (tail [.list [.str (aV 0),.str (aV 1),.str (aV 2),.str (aV 3),.str (aV 4)]]))) (by kernel_rfl)
theorem zcT (ns:List Int): ∃H',cG P0 200000 61 178 [Val.fl (ns.map Val.int)] []=some (Val.bool true,H'):=by
 refine (W.get (zfP ns)).elim λv zq1=>zq1.elim λh zq2=>?_;obtain rfl:=zq2.2;exact ⟨h,zq2.1⟩
end Tactic
namespace Tactic
open Internal
theorem zaU {C:Cfg}{w:Wd}{vs:List Value}{ns:List Int} (h:IntsAre vs ns):aC C w (ns.map Val.int) vs:=by
 induction h with
 |nil=>exact .nil
 |cons n t _ ih=>exact .cons ⟨t,rfl⟩ ih
theorem fin_law {p:Program}{loose:List PySem.Str}{mean:ExcName->Option Value}{w:World}{s₀ s₁:Shared}{mg mb:PySem.Str->Option Value}{fa a:Addr}{vs:List Value}{ns:List Int}{R:WRecords}{as:List Addr} (KX:Frag.In (KK w.params) s₁.heap) (ZN:s₀.heap.objs.size=nat_lit 779)
  (T : Top p loose mean mg mb s₁.heap) (hmg : mg (Xk "law") = some (.ref fa)) (L : Laid R w s₀ s₁ [ofPy (Ke (KW Ku ns))] [.ref a] as) (hL : s₁.heap.IsList a vs.toArray) (hI : IntsAre vs ns) (hlen : ¬ ((63 : Int) < (ns.length : Int))) (hg : s₁.gens = #[]) :
  wpAny (model pw w) callerA (call (.ref fa) [.ref a]) (λv s'=>GoodWG JB.row.claim (classAt s₀.heap) (ExcName.means s₀.heap) [ofPy (Ke (KW Ku ns))] s₁ (.ok (.ret v)) s')
   (λe s'=>GoodWG JB.row.claim (classAt s₀.heap) (ExcName.means s₀.heap) [ofPy (Ke (KW Ku ns))] s₁ (.error e) s') s₁:=by
 obtain ⟨hat,hsz⟩:=script_at L;rw [ZN] at hat hsz;subst hat;obtain ⟨so,h1,h2,n,h3⟩:=hL;have e:=mg_of KX T.g (zfQ w);have e' : mg (Xk "law") = some (.ref lawAd) := e;rw [hmg] at e';cases e';have X:(cfg w so).K.In s₁.heap:=by
  intro b o hb;have hb':YF b ((size0,so)::KK w.params)=some o:=hb;rw [Jg] at hb'
  split at hb'
  ·rename_i q
   rw [beq_iff_eq] at q;cases hb';subst q;exact h1
  ·exact KX b o hb'
 have hv:aF (cfg w so) ⟨[],[]⟩ (Val.fl (ns.map Val.int)) (.ref size0):=by
  refine ⟨size0,so,n,vs,rfl,⟨?_,h2,h3⟩,zaU hI,?_⟩
  ·show YF size0 ((size0,so)::KK w.params)=some so
   rw [Jg,beq_self_eq_true]
  ·rw [Qh]
   have:lim=1000000:=rfl
   omega
 obtain ⟨H',hr⟩:=zcT ns;refine zaP (C:=cfg w so) (tab w so) X T (by rw [hsz];decide) (f:=lawAt) (fa:=lawAd) (by kernel_rfl) (λfn h=>by
  have e:P0.fnAt 178=some fn:=h;rw [show P0.fnAt 178=some fn_law_law from by kernel_rfl] at e;cases e;rfl) hv hr λw' v s' r hk hgs hos=>?_
 have r:v= .bool true:=r;subst r;exact GoodW.toG ⟨.inl ⟨.bool true,.bool true,[],rfl,λ_=>rfl,.bool true,by first|kernel_rfl|wrow_post,unshared_nil⟩,hk,hos,hgs.trans hg⟩
end Tactic
end
open PySem PySem.W PySem.W.X PySem.Calls PyProof.Rows
set_option maxHeartbeats 0 in
theorem PySem.Challenge.cw_ui0508_11_holds : PySem.Challenge.rw_ui0508_11.Holds := by
 w_on
 refine holds_law (by
  rw [PySem.W.Fast.te9446332074065402090];unfold PySem.W.Fast.tw9446332074065402090
  iterate 18 refine look_both ?_ (by kernel_rfl)
  kernel_rfl) fun said=>?_
 refine holds_openX Tactic.left0 (XP:=XL (Tactic.qOf Tactic.pw) []) (fun s e=>xl_of s (Bool.and_eq_true_iff.mp e).1) XL.keeps (by rfl) (by rfl) (by rfl) (fun s e=>recFacts_of (Bool.and_eq_true_iff.mp e).2) (by rfl) (by assumption) (by decide+kernel) ⟨rfl,rfl,rfl,rfl,rfl,by decide+kernel⟩ ?hw ?hc
 case hw=>w_witness2
 clear said
 intro w s₀ s₁ mg mb G y fa o pm cd doc dV kV ho hd hcd hD hmg hg args vals as L hpre hlay hrd hwl hlo;have hf:=Tactic.facts1 y L.keeps
 clear y
 obtain ⟨KX,ZN,ZT⟩:=hf;refine Ground.open G ?_;intro T B D TE TW
 wrow_args hpre hlay hrd hwl hlo
 exact Tactic.fin_law KX ZN T hmg L (by assumption) (by assumption) (by assumption) hg
