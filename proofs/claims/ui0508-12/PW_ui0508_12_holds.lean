import PyProof.Rows.All
import Wide.All
import OpenK.AllK
import Wide.FinOn
import PyProof.Logic
import PySem.Claim
import PySem.PyData
import KE.KSortAsk
import PyProof.P3Statements
import PyProof.StrBlockL
import PyProof.Rows.StrNews2
import OpenK.KCell
import OpenK.KMeth
import PyProof.P3Eq
import PyProof.P3In
import PyProof.EqKinds
import PyProof.TupleKey
import PyProof.SetKind
import PyProof.Rows.RotEnd
import PyProof.Rows.ListMul
import PyProof.IsRules
import PyProof.Rows.TupDisplay
import PyProof.Rows.DictRows
import PyProof.DictStraight
import PyProof.DictIter
import KE.KEqDict
import PyProof.EnumMake
import PyProof.WalksMore
import PyProof.StrWalks
import PyProof.CompFree
import PyProof.Rows.StrNews
import PyProof.Rows.SeqSlice
import PyProof.SliceMore
import PyProof.Rows.StrTemp
import PyProof.StrLawsIdx
import PyProof.MaxThree
import PyProof.TypeOfCall
import PyProof.CallType
import PyProof.Rows.GenSrcRange
import OpenK.KRaise
import KE.KSorted
import KE.KDictOf
import KE.KIntText
import KE.KxPart
import KE.KPop
import PyProof.StrLawsAffix
import PyProof.SetRoads
import KE.KUnpack
import KE.KPar
import KE.KSort
import KE.KDictSum
import KE.KSortTup
import PyProof.Rows.SortKey
import PyProof.Rows.SortStr
import PySem.Challenge.RW_ui0508_12
set_option Elab.async false
set_option linter.all false
set_option autoImplicit false
set_option maxHeartbeats 8000000
set_option maxRecDepth 100000
set_option genInjectivity false
set_option genSizeOfSpec false
set_option genSizeOf false
open Option renaming some->Qa,none->Qd,casesOn->JF,map_eq_some_iff->Zl,isSome_iff_exists->Zt,isNone_iff_eq_none->Kh,isSome_some->YH,isSome_none->YI,isSome_map->YN,bind_some->YY,bind_eq_some_iff->XT,map_none->qai,map_some->qak,map->qaK,elim->qbm
open Bool renaming false->Qb,true->Qf,and_eq_true_iff->Jr,noConfusion->JI,false_ne_true->Zn,and_eq_true->ZY,eq_iff_iff->Kd,false_eq_true->KS,and_true->Yb,or_eq_true_iff->Yz,not_eq_true'->YP,or_eq_true->Xk,false_and->Xr,and_false->Xv,true_and->XH,and_eq_false_iff->qal,not_true->qaE,false_or->qaH
open PySem renaming wpAny_bind->Qc,Shared->Qe,wpAny_pure->Qg,DictEntry->Qh,Addr->Qi,wpAny->Qj,wpAny_holding->Qk,wpAny_standAt->Qm,World->Qn,Around->Qo,wpAny_dictEntries->Qp,wpAny_call_entry->Qq,wpAny_mono->Qr,Heap->Qs,Program->Qt,wpAny_typeNameOfWhole_keyiter->Qu,wpAny_notOrdered_dict->Qw,NameKind->Qx,wpAny_typeNameOf_keyiter->Qy,Stmt->Qz,atKey_none_of_get->QA,wpAny_newObj_type->QB,call_type_of->QC,FuncData->QD,wpAny_dictEpoch->QF,wpAny_richCompare_same_room->QG,call_meetsIn->QH,wpAny_isInstance->QI,wpAny_rule->QK,atKey_of_get->QL,IsTupleKey->QM,wpAny_pyNext_list_item->QP,wpAny_allTrue_And_cons->QR,size_of_entries->QT,wpAny_execs_nil->QU,wpAny_isOneOf_keyiter->QV,wpAny_pyNext_list_end->QW,wpAny_allTrue_Or_cons->QX,wpAny_pyIter_listiter->QY,wpAny_storeName_local->QZ,wpAny_updateDictKeys->Q0,wpAny_pyIter_keyiter->Q1,sizeLine_eq->Q3,Arguments->Q4,Setting->Q5,wpAny_dictFind_heap->Q6,wpAny_sequenceKey->Q8,slot_dict_setitem->Q9,wpAny_truthy_bool->Jb,wpAny_pyIter_list->Jc,getMethod_builtin->Jd,slot_list_setitem->Je,Operator->Ji,wpAny_load->Jj,Model->Jn,Flow->Jo,Thread->Jp
open PySem.W renaming dictOf->Ql,piece_app->Qv,boot_heap->QJ,cellsFrom_some->Q2,KeqHits->Ja,lks_vals->Jg,boot_drawn->Jk,GoodWG->Jl,kas_rev->Jm
open PyProof.Rows renaming valueAt_kvsOf->QE,assign_Tuple_tuple->Q7,IntsAre->Jf
open LawfulMonad renaming pure_bind->Jh
open Nat renaming le_trans->Jq,le_add_right->Jv,add_le_add_left->Jw,lt_of_le_of_lt->Jx,lt_of_lt_of_le->Jy,le_refl->JA,le_add_left->JE,zero_le->JJ,mul_le_mul_left->JK,add_le_add->JL,le_of_eq->JM,le_of_lt->JQ,lt_succ_of_le->JX,add_le_add_right->JZ,lt_succ_self->J0,lt_irrefl->J8,succ_le_of_lt->Za,ble->Zc,ble_eq->Zd,le_of_lt_succ->Ze,add_assoc->Zf,not_lt_zero->Zh,lt_trans->Zm,le_succ_of_le->Zp,mul_le_mul_right->Zr,succ_le_succ->Zu,le_succ->Zw,not_lt_of_le->ZE,le_of_not_lt->ZG,add_lt_add_left->ZI,lt_succ_of_lt->ZJ,add_right_comm->ZK,succ->ZQ,exists_eq_add_of_le'->ZS,succ_pos->ZV,not_lt->ZX,le_mul_of_pos_right->ZZ,ne_of_lt->Z2,zero_add->Z3,lt_of_succ_lt_succ->Z4,one_mul->Z7,ne_of_gt->Ka,lt_add_of_pos_right->Kb,lt_of_le_of_ne->Kc,sub_lt_of_lt->Kf,gcd->Ko,ble_eq_true_of_le->Kq,mul_succ->Ku,add_comm->Kv,lt_of_succ_le->KA,le_antisymm->KJ,sub_add_cancel->KR,lt_or_eq_of_le->KW,min_le_left->K2,add_mul->K9,succ_add_eq_add_succ->Ya,pos_of_ne_zero->Yk,le_of_succ_le_succ->Yl,add_lt_add_of_le_of_lt->Yv,gcd_pos_of_pos_right->YB,min_eq_left->YE,lt_of_lt_of_eq->YG,two_mul->YL,sub_pos_of_lt->YM,le_add_left_of_le->YQ,le_of_sub_eq_zero->YR,mul_pos->Xd,add_add_add_comm->Xf,not_succ_le_self->Xh,mul_comm->Xo,div_eq_of_eq_mul_right->Xw,le_of_mul_le_mul_right->Xx,le_zero->Xy,le_of_succ_le->Xz,pow_add->XE,min_eq_right->XU,min_le_right->XX,add_sub_cancel_left->qaa,not_le->qab,sub_self->qad,eq_zero_of_le_zero->qaf,le_mul_of_pos_left->qag,le_sub_of_add_le'->qan,pow_lt_pow_right->qap,pow_le_pow_right->qaq,mul_one->qat,sub_lt_sub_right->qau,one_dvd->qav,add_left_cancel->qaB,mul_assoc->qaG,sub_lt->qaM,sub_le->qaN,lt_of_succ_lt->qaS,lt_of_not_le->qaW,lt_add_right->qaX,mul_ne_zero->qa3,pow_dvd_pow->qa4,beq->qa7,cast->qa8,mul_le_mul->qba,sub_add_eq->qbc,dvd_trans->qbf,sub_zero->qbh,pow_succ->qbi,log2_lt->qbl,mul_add->qbp,pow_pos->qbq,one_pos->qbr,pow_one->qbs,mod_lt->qbt
open List renaming getElem?_eq_getElem->Js,length_map->Jt,mem_of_getElem?->Ju,length_append->Jz,not_mem_nil->JB,getElem?_map->JC,getElem?_eq_some_iff->JD,mem_singleton->JG,append_assoc->JH,nodup_cons->JN,mem_map->JO,map_cons->JR,mem_cons->JT,replicate->JU,mem_append_right->JV,range->JW,map_append->JY,range'->J3,mem_append->J4,prefix_append->J5,getElem?_set_ne->J6,getElem?_set_self->J7,length_range->J9,length_set->Zb,take_length->Zg,getElem?_concat_length->Zi,mem_append_left->Zj,eq_of_mem_replicate->Zk,size_toArray->Zo,append_nil->Zv,mem_filter->Zx,length_eq_zero_iff->Zy,getElem_mem->ZA,length_cons->ZC,all_eq_true->ZD,lookup_cons->ZF,length_replicate->ZH,mem_range->ZL,map_congr_left->ZO,getElem?_append_left->ZP,nodup_append->ZR,idxOf_lt_length_iff->ZU,getElem?_eq_none_iff->Z0,length->Z5,getElem?_range->Z6,getElem?_toArray->Z8,length_filter_le->Z9,drop_length->Ke,drop_eq_getElem_cons->Kg,mem_of_find?_eq_some->Ki,mem_or_eq_of_mem_set->Kj,getElem?_eq_none->Kr,take_succ->Kt,mem_of_mem_take->Kw,length_take->Kx,perm_append_comm_assoc->Ky,getElem?_append_right->Kz,cons->KB,take_append_drop->KC,any_eq_true->KD,reverse_cons->KG,getElem?_replicate->KI,find?_some->KL,filterMap_cons->KN,map_map->KO,length_range'->KV,concat_eq_append->KY,mem_iff_getElem?->K1,flatten_cons->K4,take_succ_eq_append_getElem->K6,replicate_succ'->K8,prefix_refl->Yd,cons_append->Yf,casesOn->Yh,zip_cons_cons->Yn,foldl_cons->Yo,contains_iff_mem->Yp,eq_nil_or_concat->Yr,any_eq_false->Ys,mapM_cons->Yt,mem_iff_getElem->Yu,flatten_append->Yx,map_eq_nil_iff->Yy,length_reverse->YA,sum_cons->YC,find?_cons->YD,map_replicate->YF,getElem_idxOf->YJ,foldl_append->YO,set_append_right->YS,set_getElem_self->YT,perm_middle->YU,range'_succ->YV,isEmpty_iff->YX,getElem_inj->Y9,mem_flatten->Xa,nodup_range->Xb,drop_nil->Xc,getElem?_of_mem->Xe,forIn_cons->Xi,dropLast_concat_getLast->Xj,sum_append->Xl,mergeSort_perm->Xm,length_pos_iff->Xn,map->Xs,filter_append->Xt,map_singleton->Xu,length_filterMap_le->XJ,rec->XK,drop->X4,length_nil->qah,range_succ->qaj,length_singleton->qam,getElem?_range'->qar,mem_cons_of_mem->qas,replicate_succ->qay,append_toArray->qaz,flatten_concat->qaD,findIdx?_cons->qaO,range'_concat->qaP,ext_getElem?->qaU,length_drop->qaV,lookup->qaZ,of_mem_zip->qa0,nil_append->qa2,set->qbb,findIdx?->qbe,set_set->qbj
open Array renaming mk->Zq,isEmpty_iff->XA
open Exists renaming elim->Zs
open PySem.Value renaming type->Zz,isStrOf_shape->Kl,isInt_shape->Km,builtin->Ks,str->KQ,none->Yj,bool->qae,ref->qax,casesOn->qaF,isInt->qbk,int->qbu
open PySem.W.SharedT renaming mk->ZM,abs->qbo
open Int renaming ofNat_lt->ZW,toNat_natCast->KF,ofNat->KH,natCast_nonneg->KU,natCast_mul->K3,ofNat_eq_zero->K7,ofNat_le->Yi,not_lt->YW,fmod->Xq,fdiv->qao,toNat_of_nonneg->qaC,natAbs_eq_zero->qaJ,not_le->qaL,lt_trans->qaR,natCast_add->qa1,toNat->qbg
open Ne renaming symm->Kn
open PySem.F renaming slot_dict_get->KZ,entry_dict_get->Ym,args_dict_get_2->XY,args_dict_get_3->X3
open PySem.Heap renaming lt_size->K5,get?_update_self->Yq
open PySem.Builtin.Range renaming rangeSize->Ye
open PySem.PyData renaming eqv->Yg,list->YK,int->YZ,eqv->qaI,int->qaY,keyHash->qa9,eqvAll->qbd
open Decidable renaming byContradiction->Yw
open PySem.Builtin.Str renaming strSliceIndices->Xp
open PySem.Data renaming casesOn->qac
open Eq renaming symm->qaw
open PySem.Builtin.Int renaming intBits->qaA
open PySem.Str renaming ofString->qaQ
open PySem.Txt renaming isspace->qaT
open PySem.Builtin.List renaming listSubscript?->qa5
open Prod renaming mk->qa6,ext->qbn
open PySem.W.SL
section
open Lean in
local macro_rules (kind:=Lean.Parser.Command.declaration)
 |s=>match s.getHeadInfo with
  |.original .. =>let d:=s[1];pure (if s[0].getPos?.isNone&&(d.isOfKind `Lean.Parser.Command.definition||d.isOfKind `Lean.Parser.Command.abbrev) then if d[3][1].isOfKind `Lean.Parser.Term.byTactic then s.setArg 1 (.node .none `Lean.Parser.Command.theorem #[.atom .none "theorem",d[1],.node .none `Lean.Parser.Command.declSig #[d[2][0],d[2][1][0]],d[3]]) else s.setArg 0 (s[0].setArg 4 (mkNullNode #[.node .none `Lean.Parser.Command.noncomputable #[.atom .none "noncomputable"]])) else s.setHeadInfo .none)
  |_=>Macro.throwUnsupported
namespace Internal
theorem xA {P0:Prop}{P1:Prop}{G:Prop} (h:P0/\P1) (k:P0->P1->G):G:=k h.1 h.2
theorem xE.{u0}{α0:Sort u0}{P0:α0->Prop}{G:Prop} (h: ∃a0,P0 a0) (k: ∀a0:α0,P0 a0->G):G:=h.elim λa0 h0=>k a0 h0
theorem xAA {P0:Prop}{P1:Prop}{P2:Prop}{G:Prop} (h:P0/\P1/\P2) (k:P0->P1->P2->G):G:=k h.1 h.2.1 h.2.2
theorem xEE.{u0,u1}{α0:Sort u0}{α1:Sort u1}{P0:α0->α1->Prop}{G:Prop} (h: ∃a0,∃a1,P0 a0 a1) (k: ∀a0:α0,∀a1:α1,P0 a0 a1->G):G:=h.elim λa0 h0=>h0.elim λa1 h1=>k a0 a1 h1
theorem xEA.{u0}{α0:Sort u0}{P0:α0->Prop}{P1:α0->Prop}{G:Prop} (h: ∃a0,P0 a0/\P1 a0) (k: ∀a0:α0,P0 a0->P1 a0->G):G:=h.elim λa0 h0=>k a0 h0.1 h0.2
theorem xEAA.{u0}{α0:Sort u0}{P0:α0->Prop}{P1:α0->Prop}{P2:α0->Prop}{G:Prop} (h: ∃a0,P0 a0/\P1 a0/\P2 a0) (k: ∀a0:α0,P0 a0->P1 a0->P2 a0->G):G:=h.elim λa0 h0=>k a0 h0.1 h0.2.1 h0.2.2
theorem xEEA.{u0,u1}{α0:Sort u0}{α1:Sort u1}{P0:α0->α1->Prop}{P1:α0->α1->Prop}{G:Prop} (h: ∃a0,∃a1,P0 a0 a1/\P1 a0 a1) (k: ∀a0:α0,∀a1:α1,P0 a0 a1->P1 a0 a1->G):G:=h.elim λa0 h0=>h0.elim λa1 h1=>k a0 a1 h1.1 h1.2
theorem xEEAA.{u0,u1}{α0:Sort u0}{α1:Sort u1}{P0:α0->α1->Prop}{P1:α0->α1->Prop}{P2:α0->α1->Prop}{G:Prop} (h: ∃a0,∃a1,P0 a0 a1/\P1 a0 a1/\P2 a0 a1) (k: ∀a0:α0,∀a1:α1,P0 a0 a1->P1 a0 a1->P2 a0 a1->G):G:=h.elim λa0 h0=>h0.elim λa1 h1=>k a0 a1 h1.1 h1.2.1 h1.2.2
theorem xEEAAA.{u0,u1}{α0:Sort u0}{α1:Sort u1}{P0:α0->α1->Prop}{P1:α0->α1->Prop}{P2:α0->α1->Prop}{P3:α0->α1->Prop}{G:Prop} (h: ∃a0,∃a1,P0 a0 a1/\P1 a0 a1/\P2 a0 a1/\P3 a0 a1) (k: ∀a0:α0,∀a1:α1,P0 a0 a1->P1 a0 a1->P2 a0 a1->P3 a0 a1->G):G:=h.elim λa0 h0=>h0.elim λa1 h1=>k a0 a1 h1.1 h1.2.1 h1.2.2.1 h1.2.2.2
@[elab_as_elim]
theorem mP {α:Type}{a:α}{P:α->Prop}{b:α} (h:Qa a=Qa b) (k:P a):P b:=Qa.inj h▸k
@[elab_as_elim]
theorem Se {α:Type}{b:α}{P:α->Prop}{a:α} (h:Qa a=Qa b) (k:P b):P a:=(Qa.inj h).symm▸k
@[elab_as_elim]
theorem eqE.{u}{α:Sort u}{a:α}{P:α->Prop}{b:α} (h:a=b) (k:P a):P b:=h▸k
@[elab_as_elim]
theorem eqB.{u}{α:Sort u}{b:α}{P:α->Prop}{a:α} (h:a=b) (k:P b):P a:=h.symm▸k
theorem vY (b:Bool) {P:Prop} (f:b=Qf->P) (g:b=Qb->P):P:=Bool.casesOn (motive:=λx=>(x=Qf->P) ->(x=Qb->P) ->P) b (λ_ g=>g rfl) (λf _=>f rfl) f g
theorem DW {α:Type} (o:Option α) {P:Prop} (f:o=Qd->P) (g: ∀x,o=Qa x->P):P:=JF (motive:=λx=>(x=Qd->P) ->(∀y,x=Qa y->P) ->P) o (λf _=>f rfl) (λx _ g=>g x rfl) f g
section
open PySem
variable {α:Type}{M:Jn}{A:Qo}{c:Prop} [Decidable c] {a b:Sem α}{Q:α->Qe->Prop}{E:Value->Qe->Prop}{s:Qe}
def wN (h: ¬c) (k:Qj M A b Q E s):Qj M A (if c then a else b) Q E s:=by rw [if_neg h];exact k
def wP (h:c) (k:Qj M A a Q E s):Qj M A (if c then a else b) Q E s:=by rw [if_pos h];exact k
end
end Internal
namespace Internal
open PySem
set_option genCtorIdx false in
inductive aa where
 |none
 |bool (b:Bool)
 |int (i:Int)
 |str (s:List Nat)
 |az (vs:List aa)
 |ref (a:Nat)
 |ah (a:Nat)
 |ty (n:Nat)
 |bi (n:Nat)
 |gf (n:Int)
 |fl (vs:List aa)
 |qy (n:Nat)
set_option genCtorIdx false in
inductive ae where
 |list (vs:List aa)
 |dict (ep:Option Nat) (es:List (aa×aa))
 |inst (c:Nat) (fs:List (Nat×aa))
def aa.ctorIdx (x:aa):Nat:=aa.casesOn (motive_1:=λ_=>Nat) x 0 (λ_=>1) (λ_=>2) (λ_=>3) (λ_=>4) (λ_=>5) (λ_=>6) (λ_=>7) (λ_=>8) (λ_=>9) (λ_=>10) (λ_=>11)
def ae.ctorIdx (x:ae):Nat:=ae.casesOn (motive:=λ_=>Nat) x (λ_=>0) (λ_ _=>1) (λ_ _=>2)
abbrev MH:=List ae
abbrev Frame:=List (Option aa)
inductive ik where
 |add|sub|mul|fdiv|mod|iO
inductive uv where
 |eq|ne|lt|le|gt|ge|jm|fy|is|dw
set_option genCtorIdx false in
inductive Ex where
 |var (x:Nat)
 |lit (v:aa)
 |list (es:List Ex)
 |az (es:List Ex)
 |dict (kvs:List Ex)
 |bj (op:ik) (a b:Ex)
 |not (a:Ex)
 |ba (op:uv) (a b:Ex)
 |gy (stop:Bool) (es:List Ex)
 |ite (c a b:Ex)
 |af (e:Ex) (n:Nat)
 |sub (e i:Ex)
 |slice (e:Ex) (k:Nat) (bs:List Ex)
 |call (f:Ex) (as:List Ex)
 |ao (o:Ex) (n:Nat) (as:List Ex)
 |comp (eu:Ex) (tg:List Nat) (many:Bool) (it:Ex) (ifs:List Ex)
set_option genCtorIdx false in
inductive T1 where
 |nm (x:Nat)
 |at (o:Ex) (n:Nat)
 |sb (o i:Ex)
set_option genCtorIdx false in
inductive Sm where
 |expr (e:Ex)
 |bg (t:T1) (e:Ex)
 |jn (ts:List T1) (e:Ex)
 |ret (e:Ex)
 |ite (c:Ex) (a b:List Sm)
 |wh (c:Ex) (b:List Sm)
 |fo (tg:List Nat) (many:Bool) (e:Ex) (b:List Sm)
 |brk|cont|ub
 |cf
 |bZ (e:Ex)
 |tr (x:Nat) (e:Ex) (y:Nat) (v:aa)
set_option genCtorIdx false in
inductive Fl where
 |nx|bk|ct
 |rt (v:aa)
structure Fn where
 gz:Nat
 np:Nat
 qb:List aa
 ns:Nat
 body:List Sm
structure Cl where
 gz:Nat
 kg:List (Nat×aa)
 sa:Option Nat
 si:List Nat
structure ij where
 oe:List Fn
 cls:List Cl
 kc:List (Nat×Nat)
def ez (x:Str):Nat:=x.cps.toList.foldl (λa c=>a*256+c) 0
def cb {α β:Type} (o:Option (α×MH)) (f:α->MH->Option (β×MH)):Option (β×MH):=JF (motive:=λ_=>Option (β×MH)) o Qd λp=>f p.1 p.2
def ay {α:Type} (a b:Option α):Option α:=JF (motive:=λ_=>Option α) a b Qa
def au {α:Type} (b:Bool) (o:Option α):Option α:=Bool.casesOn (motive:=λ_=>Option α) b Qd o
def aa.int? (x:aa):Option Int:=aa.casesOn (motive_1:=λ_=>Option Int) x .none (λ_=> .none) Qa (λ_=> .none) (λ_=> .none) (λ_=> .none) (λ_=> .none) (λ_=> .none) (λ_=> .none) (λ_=> .none) (λ_=> .none) (λ_=> .none)
def aa.str? (x:aa):Option (List Nat):=aa.casesOn (motive_1:=λ_=>Option (List Nat)) x .none (λ_=> .none) (λ_=> .none) Qa (λ_=> .none) (λ_=> .none) (λ_=> .none) (λ_=> .none) (λ_=> .none) (λ_=> .none) (λ_=> .none) (λ_=> .none)
def aa.tup? (x:aa):Option (List aa):=aa.casesOn (motive_1:=λ_=>Option (List aa)) x .none (λ_=> .none) (λ_=> .none) (λ_=> .none) Qa (λ_=> .none) (λ_=> .none) (λ_=> .none) (λ_=> .none) (λ_=> .none) (λ_=> .none) (λ_=> .none)
def aa.ref? (x:aa):Option Nat:=aa.casesOn (motive_1:=λ_=>Option Nat) x .none (λ_=> .none) (λ_=> .none) (λ_=> .none) (λ_=> .none) Qa (λ_=> .none) (λ_=> .none) (λ_=> .none) (λ_=> .none) (λ_=> .none) (λ_=> .none)
def aa.top? (x:aa):Option Nat:=aa.casesOn (motive_1:=λ_=>Option Nat) x .none (λ_=> .none) (λ_=> .none) (λ_=> .none) (λ_=> .none) (λ_=> .none) Qa (λ_=> .none) (λ_=> .none) (λ_=> .none) (λ_=> .none) (λ_=> .none)
def aa.ty? (x:aa):Option Nat:=aa.casesOn (motive_1:=λ_=>Option Nat) x .none (λ_=> .none) (λ_=> .none) (λ_=> .none) (λ_=> .none) (λ_=> .none) (λ_=> .none) Qa (λ_=> .none) (λ_=> .none) (λ_=> .none) (λ_=> .none)
def aa.bi? (x:aa):Option Nat:=aa.casesOn (motive_1:=λ_=>Option Nat) x .none (λ_=> .none) (λ_=> .none) (λ_=> .none) (λ_=> .none) (λ_=> .none) (λ_=> .none) (λ_=> .none) Qa (λ_=> .none) (λ_=> .none) (λ_=> .none)
def aa.fl? (x:aa):Option (List aa):=aa.casesOn (motive_1:=λ_=>Option (List aa)) x .none (λ_=> .none) (λ_=> .none) (λ_=> .none) (λ_=> .none) (λ_=> .none) (λ_=> .none) (λ_=> .none) (λ_=> .none) (λ_=> .none) Qa (λ_=> .none)
def aa.bool? (x:aa):Option Bool:=aa.casesOn (motive_1:=λ_=>Option Bool) x .none Qa (λ_=> .none) (λ_=> .none) (λ_=> .none) (λ_=> .none) (λ_=> .none) (λ_=> .none) (λ_=> .none) (λ_=> .none) (λ_=> .none) (λ_=> .none)
def aa.rng? (x:aa):Option Int:=aa.casesOn (motive_1:=λ_=>Option Int) x .none (λ_=> .none) (λ_=> .none) (λ_=> .none) (λ_=> .none) (λ_=> .none) (λ_=> .none) (λ_=> .none) (λ_=> .none) Qa (λ_=> .none) (λ_=> .none)
def aa.isNone (x:aa):Bool:=aa.casesOn (motive_1:=λ_=>Bool) x Qf (λ_=>Qb) (λ_=>Qb) (λ_=>Qb) (λ_=>Qb) (λ_=>Qb) (λ_=>Qb) (λ_=>Qb) (λ_=>Qb) (λ_=>Qb) (λ_=>Qb) (λ_=>Qb)
def ae.list? (o:ae):Option (List aa):=ae.casesOn (motive:=λ_=>Option (List aa)) o Qa (λ_ _=>Qd) (λ_ _=>Qd)
def ae.dict? (o:ae):Option (Option Nat×List (aa×aa)):=ae.casesOn (motive:=λ_=>Option (Option Nat×List (aa×aa))) o (λ_=>Qd) (λe es=>Qa (e,es)) (λ_ _=>Qd)
def ae.inst? (o:ae):Option (Nat×List (Nat×aa)):=ae.casesOn (motive:=λ_=>Option (Nat×List (Nat×aa))) o (λ_=>Qd) (λ_ _=>Qd) (λc fs=>Qa (c,fs))
def lG (h:MH) (x:aa):Option (List aa):=x.ref?.bind λa=>h[a]?.bind ae.list?
def dictAt (h:MH) (x:aa):Option (Option Nat×List (aa×aa)):=x.ref?.bind λa=>h[a]?.bind ae.dict?
def cn (h:MH) (x:aa):Option (Nat×List (Nat×aa)):=x.ref?.bind λa=>h[a]?.bind ae.inst?
def a0 {α:Type} (as:List aa) (f:Option α):Option α:=Yh (motive:=λ_=>Option α) as f λ_ _=>Qd
def a1 {α:Type} (as:List aa) (f:aa->Option α):Option α:=Yh (motive:=λ_=>Option α) as Qd λv r=>a0 r (f v)
def a2 {α:Type} (as:List aa) (f:aa->aa->Option α):Option α:=Yh (motive:=λ_=>Option α) as Qd λv r=>a1 r (f v)
def lk (h:MH):Nat->aa->Option PyData
 |_,.none=>Qa .none
 |_,.bool b=>Qa (.bool b)
 |_,.int i=>Qa (.int i)
 |_,.str s=>Qa (.str ⟨s.toArray⟩)
 |k+1,.az vs=>(vs.mapM (lk h k)).map .tuple
 |k+1,.ref a=>(lG h (.ref a)).bind λvs=>(vs.mapM (lk h k)).map .list
 |_,_=>Qd
def wF (h:MH) (a b:aa):Option Bool:=(lk h 8 a).bind λx=>(lk h 8 b).map λy=>qaI x y
def gm (a b:aa):Bool:=(wF [] a b).getD Qb
def kY (es:List (aa×aa)) (k:aa):Option aa:=(es.find? λp=>gm p.1 k).map (·.2)
def r5 (v:aa):Bool:=v.int?.isSome||v.str?.isSome
def lN (v:aa):Nat:=bif r5 v then 1 else bif (v.tup?.map λvs=>vs.all r5).getD Qb then 3 else 0
def oV (h:MH) (es2:List (aa×aa)):List (aa×aa) ->Option Bool
 | []=>Qa Qf
 |p::r=>JF (motive:=λ_=>Option Bool) (kY es2 p.1) (Qa Qb) λy=>(wF h p.2 y).bind λe=>(oV h es2 r).map λb=>e && b
def yU (es:List (aa×aa)):Option Nat:=es.head?.map λp=>lN p.1
def qZ (a b:List (aa×aa)):Bool:=a.isEmpty||b.isEmpty||yU a==yU b
def mn (h:MH) (a b:aa):Option Bool:=
 ay ((dictAt h a).bind λd1=>(dictAt h b).bind λd2=>au (qZ d1.2 d2.2) (bif d1.2.length==d2.2.length then oV h d2.2 d1.2 else Qa Qb)) (wF h a b)
def truthy (h:MH) (x:aa):Option Bool:=aa.casesOn (motive_1:=λ_=>Option Bool) x (Qa Qb) Qa (λi=>Qa (i !=0)) (λs=>Qa (!s.isEmpty)) (λvs=>Qa (!vs.isEmpty))
 (λa=>(lG h (.ref a)).map λvs=>!vs.isEmpty) (λ_=>Qd) (λ_=>Qd) (λ_=>Qd) (λ_=>Qd) (λ_=>Qd) (λ_=>Qd)
def kX (es:List (aa×aa)) (k:aa):Bool:=lN k !=0 && (es.isEmpty||yU es==Qa (lN k))
def oF (es:List (aa×aa)) (k v:aa):List (aa×aa):=
 bif (kY es k).isSome then es.map λp=>bif gm p.1 k then (p.1,v) else p else es++ [(k,v)]
def yD:List aa->List (aa×aa) ->Option (List (aa×aa))
 | [],es=>Qa es
 | [_],_=>Qd
 |k::v::r,es=>au (kX es k) (yD r (oF es k v))
def lZ (h:MH) (o:ae):Option (aa×MH):=Qa (.ref h.length,h++ [o])
def bh:Nat:=1000000
def xd:Nat:=2 ^ 100000
def ji:Nat:=2 ^ 8000
def Lq (a b:Int):Bool:=Zc (a.natAbs+1) xd && Zc (b.natAbs+1) xd
def G8 (l:Nat) (n:Int):Bool:=decide (n<=bh) && decide (-(bh:Int)<=n) && Zc (l*n.toNat) bh
def Rf (h:MH) (x y:aa):Option (aa×MH):=
 ay (x.int?.bind λa=>y.int?.bind λb=>Qa (.int (a+b),h))
 (ay (x.str?.bind λa=>y.str?.bind λb=>au (Zc (a.length+b.length) bh) (Qa (.str (a++b),h)))
 ((lG h x).bind λa=>(lG h y).bind λb=>au (Zc (a.length+b.length) bh) (lZ h (.list (a++b)))))
def Lp (h:MH) (x y:aa):Option (aa×MH):=
 ay (x.int?.bind λa=>y.int?.bind λb=>au (Lq a b) (Qa (.int (a*b),h)))
 (ay (x.int?.bind λa=>y.bool?.bind λb=>Qa (.int (a*(if b then 1 else 0)),h))
 ((lG h x).bind λa=>y.int?.bind λn=>au (G8 a.length n) (lZ h (.list (JU n.toNat a).flatten))))
def L6 (op:ik) (a b:Int):Option Int:=ik.casesOn (motive:=λ_=>Option Int) op Qd (Qa (a-b)) Qd
 (au (b !=0 && Zc (b.natAbs+1) ji) (Qa (qao a b))) (au (b !=0) (Qa (Xq a b))) Qd
def pJ (op:ik) (x y:aa) (h:MH):Option (aa×MH):=
 ay (x.int?.bind λa=>y.int?.bind λb=>(L6 op a b).map λk=>(.int k,h))
 (ik.casesOn (motive:=λ_=>Option (aa×MH)) op (Rf h x y) Qd (Lp h x y) Qd Qd Qd)
def aZ (a b:aa):Option Bool:=
 ay (au b.isNone (Qa a.isNone))
 (ay (a.ty?.bind λi=>b.ty?.map λj=>i==j)
 (ay (a.top?.bind λi=>b.top?.map λj=>i==j)
 (au (a.isNone||a.int?.isSome||a.tup?.isSome) (b.top?.map λ_=>Qb))))
def Uv (h:MH) (x:aa) (vs:List aa):Option Bool:=(vs.mapM (lk h 7)).bind λds=>(lk h 7 x).map λd=>ds.any λy=>qaI y d
def one? (s:List Nat):Option Nat:=Yh (motive:=λ_=>Option Nat) s Qd λc r=>Yh (motive:=λ_=>Option Nat) r (Qa c) λ_ _=>Qd
def U2 (h:MH) (x y:aa):Option Bool:=
 ay (y.str?.bind λt=>(x.str?.bind one?).map λc=>t.contains c)
 (ay (y.tup?.bind λvs=>Uv h x vs)
 (ay ((lG h y).bind λvs=>Uv h x vs)
 ((dictAt h y).bind λd=>au (kX d.2 x) (Qa (kY d.2 x).isSome))))
def Ij (x y:aa) (f:Int->Int->Bool):Option Bool:=x.int?.bind λa=>y.int?.map λb=>f a b
def nG (op:uv) (a b:aa) (h:MH):Option Bool:=uv.casesOn (motive:=λ_=>Option Bool) op (mn h a b) ((mn h a b).map (!·))
 (Ij a b λx y=>decide (x<y)) (Ij a b λx y=>decide (x<=y)) (Ij a b λx y=>decide (y<x)) (Ij a b λx y=>decide (y<=x))
 (U2 h a b) ((U2 h a b).map (!·)) (aZ a b) ((aZ a b).map (!·))
def qo (n:Nat) (i:aa):Option Nat:=i.int?.bind λi=>au (decide (0<=i) && decide (i<n)) (Qa i.toNat)
def l9 (h:MH) (o i:aa):Option aa:=
 ay (o.tup?.bind λvs=>(qo vs.length i).bind λk=>vs[k]?)
 (ay (o.fl?.bind λvs=>(qo vs.length i).bind λk=>vs[k]?)
 (ay ((lG h o).bind λvs=>(qo vs.length i).bind λk=>vs[k]?)
 ((dictAt h o).bind λd=>au (kX d.2 i) (kY d.2 i))))
def xM (n:Nat) (v:aa):Option Nat:=v.int?.bind λi=>au (decide (0<=i)) (Qa (min i.toNat n))
def W6 (n k:Nat) (bs:List aa):Option (Nat×Nat):=
 bif k==3 then a2 bs λa b=>(xM n a).bind λx=>(xM n b).map λy=>(x,y) else Qd
def oh {α:Type} (l:List α) (a b:Nat):List α:=(l.take b).drop a
def slice (h:MH) (o:aa) (k:Nat) (bs:List aa):Option (aa×MH):=o.str?.bind λs=>(W6 s.length k bs).bind λp=>Qa (.str (oh s p.1 p.2),h)
def oC (h:MH) (o i v:aa):Option MH:=o.ref?.bind λa=>
 ay ((h[a]?.bind ae.list?).bind λvs=>(qo vs.length i).map λk=>h.set a (.list (vs.set k v)))
 ((h[a]?.bind ae.dict?).bind λd=>au (kX d.2 i && Zc (d.2.length+1) bh) (Qa (h.set a (.dict (bif (kY d.2 i).isSome then d.1 else d.1.map (· +1)) (oF d.2 i v)))))
def vV (fs:List (Nat×aa)) (n:Nat):Option aa:=(fs.find? λp=>p.1==n).map (·.2)
def Wx:List (Nat×aa) ->Nat->aa->List (Nat×aa)
 | [],n,v=> [(n,v)]
 |p::r,n,v=>bif p.1==n then (n,v)::r else p::Wx r n v
def ij.fz (P:ij) (c:Nat):Option Cl:=P.cls.find? λx=>x.gz==c
def ij.lc (P:ij) (c n:Nat):Option aa:=(P.fz c).bind λx=>vV x.kg n
def ij.du (P:ij) (c n:Nat):Bool:=((P.fz c).map λk=>k.si.contains n).getD Qb
def ij.cn (P:ij) (a:Nat):Option Nat:=(P.kc.find? λp=>p.1==a).map (·.2)
def Ul (P:ij) (v:aa):Bool:=(v.top?.map λa=>P.oe.any λf=>f.gz==a).getD Qb
def vH (P:ij) (c n:Nat):Option aa:=(P.lc c n).bind λv=>au (!Ul P v) (Qa v)
def getAttr (P:ij) (h:MH) (o:aa) (n:Nat):Option aa:=
 ay ((cn h o).bind λq=>JF (motive:=λ_=>Option aa) (vV q.2 n) (vH P q.1 n) λv=>au (P.du q.1 n) (Qa v))
 (o.top?.bind λa=>(P.cn a).bind λc=>vH P c n)
def setAttr (P:ij) (h:MH) (o:aa) (n:Nat) (v:aa):Option MH:=o.ref?.bind λa=>(h[a]?.bind ae.inst?).bind λq=>
 au (P.du q.1 n && Zc (q.2.length+1) 400) (Qa (h.set a (.inst q.1 (Wx q.2 n v))))
def yS (P:ij) (c n:Nat):Option Nat:=(P.lc c n).bind λv=>au (Ul P v) v.top?
def nU (P:ij) (h:MH) (o:aa) (n:Nat):Option (Nat×List aa):=
 ay (o.top?.bind λa=>JF (motive:=λ_=>Option (Nat×List aa)) (P.cn a) ((yS P a n).map λf=>(f,[])) λc=>(yS P c n).map λf=>(f,[o]))
 ((cn h o).bind λq=>au (vV q.2 n).isNone ((yS P q.1 n).map λf=>(f,[o])))
set_option genCtorIdx false in
inductive It where
 |ls (a:Nat)
 |tp (vs:List aa)
 |dk (a n ep:Nat)
 |sq (s:List Nat)
 |rg (n:Int)
 |fs (vs:List aa)
def pF (h:MH) (x:aa):Option It:=
 ay (x.rng?.bind λn=>au (decide (n<=bh) && decide (-(bh:Int)<=n)) (Qa (.rg n)))
 (ay (x.ref?.bind λa=>ay ((h[a]?.bind ae.list?).map λ_=> .ls a) ((h[a]?.bind ae.dict?).bind λd=>d.1.map λep=> .dk a d.2.length ep))
 (ay (x.tup?.map .tp) (ay (x.str?.map .sq) (x.fl?.map .fs))))
def mJ (h:MH) (i:Nat) (k:It):Option (Option aa):=It.casesOn (motive:=λ_=>Option (Option aa)) k
 (λa=>(h[a]?.bind ae.list?).map λvs=>vs[i]?)
 (λvs=>Qa vs[i]?)
 (λa n ep=>(h[a]?.bind ae.dict?).bind λd=>au (d.1==Qa ep && d.2.length==n) (Qa (d.2[i]?.map (·.1))))
 (λs=>Qa (s[i]?.map λc=> .str [c]))
 (λn=>Qa (bif decide ((i:Int)<n) then Qa (.int i) else Qd))
 (λvs=>Qa vs[i]?)
def items (h:MH) (x:aa):Option (List aa):=ay x.tup? (lG h x)
def uV (tg:List Nat) (vs:List aa) (fr:Frame):Frame:=(tg.zip vs).foldl (λf p=>f.set p.1 (Qa p.2)) fr
def oX (fr:Frame) (tg:List Nat) (many:Bool) (v:aa):Option Frame:=
 bif many then v.tup?.bind λvs=>au (vs.length==tg.length) (Qa (uV tg vs fr)) else au (tg.length==1) (Qa (uV tg [v] fr))
def pO (l:List Int):List Int:=l.mergeSort λa b=>decide (a<=b)
abbrev uX:Nat:=7103854
abbrev ND:Nat:=7168376
abbrev zcB:Nat:=7170414
abbrev rX:Nat:=126922498794852
abbrev UU:Nat:=491260897125
abbrev Lk:Nat:=1818850164
abbrev D5:Nat:=1684628340
abbrev B1:Nat:=500186508389
abbrev SV:Nat:=7566450
abbrev SY:Nat:=6909556
abbrev PF:Nat:=1954115685
abbrev zcA:Nat:=7562612
abbrev PI:Nat:=1651470188
abbrev Uh:Nat:=5651857438861258853
abbrev ew:Nat:=107135549927012
abbrev rm:Nat:=7368560
abbrev zfM:Nat:=452823639416
abbrev ma:Nat:=6776180
abbrev lz:Nat:=29681812198482789
abbrev zgB:Nat:=1785686382
abbrev SW:Nat:=2073057139020767260526
abbrev zfL:Nat:=495807392116
abbrev zfK:Nat:=495874894192
abbrev PG:Nat:=545218989645367805047912
abbrev zgC:Nat:=1718185572
abbrev zgD:Nat:=6382692
def RM (h:MH) (x:aa):Option Nat:=aa.casesOn (motive_1:=λ_=>Option Nat) x (Qa Uh) (λ_=>Qa PI) (λ_=>Qa SY) (λ_=>Qa SV) (λ_=>Qa B1)
 (λa=>(lG h (.ref a)).map λ_=>Lk) (λ_=>Qd) (λ_=>Qd) (λ_=>Qd) (λ_=>Qd) (λ_=>Qd) (λ_=>Qd)
def Cp (h:MH) (x:aa):Option Nat:=aa.casesOn (motive_1:=λ_=>Option Nat) x Qd (λ_=>Qd) (λ_=>Qd) (λs=>Qa s.length) (λvs=>Qa vs.length)
 (λa=>ay ((lG h (.ref a)).map (·.length)) ((dictAt h (.ref a)).map (·.2.length))) (λ_=>Qd) (λ_=>Qd) (λ_=>Qd) (λ_=>Qd) (λvs=>Qa vs.length) Qa
def pG (l:List aa):Option (List Int):=l.mapM aa.int?
def Rb (as:List aa) (h:MH):Option (aa×MH):=a1 as λv=>(Cp h v).map λ(k:Nat)=>(aa.int (k:Int),h)
def Ra (as:List aa) (h:MH):Option (aa×MH):=a2 as λx y=>x.int?.bind λa=>y.int?.map λb=>(.int (if b>a then b else a),h)
def P9 (as:List aa) (h:MH):Option (aa×MH):=a2 as λx y=>x.int?.bind λa=>y.int?.map λb=>(.int (if b<a then b else a),h)
def Oj (a:List Nat):List Nat->Bool:=XK (motive:=λ_=>List Nat->Bool) (λb=>XK (motive:=λ_=>Bool) Qb (λ_ _ _=>Qf) b) (λx _ ih b=>XK (motive:=λ_=>Bool) Qb (λy r _=>Bool.rec (motive:=λ_=>Bool) (Bool.rec (motive:=λ_=>Bool) (ih r) Qb (Zc (ZQ y) x)) Qf (Zc (ZQ x) y)) b) a
abbrev Pr:=List Nat×List Nat
def lx (p:Pr):aa:= .az [.str p.1,.str p.2]
def zcb (v:aa):Option Pr:=v.tup?.bind λvs=>a2 vs λx y=>x.str?.bind λs=>y.str?.map λt=>(s,t)
def y3 (l:List aa):Option (List Pr):=l.mapM zcb
def rq (a b:Pr):Bool:=bif a.1==b.1 then Oj a.2 b.2 else Oj a.1 b.1
def zp {α:Type} (lt:Nat->Nat->Bool) (t:PySem.W.KasT α):α:=PySem.W.KasT.rec (motive:=λ_=>α) (λa=>a) (λi j _ ih=>ih (lt i j)) t
def oO (l:List Pr):List Pr:=bif Zc l.length 1 then l else (zp (λi j=>rq (l.getD i ([],[])) (l.getD j ([],[]))) (PySem.W.kas_sort l.length)).toList.map λi=>l.getD i ([],[])
def LX (as:List aa) (h:MH):Option (aa×MH):=a1 as λx=>ay ((dictAt h x).bind λp=>(pG (p.2.map (·.1))).bind λl=>au (!l.isEmpty && Zc (l.length+1) 64) (lZ h (.list ((pO l).map .int))))
 (ay ((dictAt h x).bind λp=>(y3 (p.2.map (·.1))).bind λl=>au (!l.isEmpty && Zc l.length 60) (lZ h (.list ((oO l).map lx))))
 (ay ((lG h x).bind λvs=>(y3 vs).bind λl=>au (Zc l.length 60) (lZ h (.list ((oO l).map lx))))
 ((lG h x).bind λvs=>(pG vs).bind λl=>au (!l.isEmpty && Zc (l.length+1) 64) (lZ h (.list ((pO l).map .int))))))
def Gi (n:Nat) (as:List aa) (h:MH):Option (aa×MH):=
 ay (au (n==uX) (Rb as h)) (ay (au (n==ND) (Ra as h)) (ay (au (n==zcB) (P9 as h)) (au (n==rX) (LX as h))))
def Dr (as:List aa) (h:MH):Option (aa×MH):=a1 as λx=>x.int?.map λk=>(.gf k,h)
def FB (as:List aa) (h:MH):Option (aa×MH):=a1 as λx=>ay (x.tup?.bind λvs=>lZ h (.list vs)) (ay (x.fl?.bind λvs=>lZ h (.list vs)) ((lG h x).bind λvs=>lZ h (.list vs)))
def FC (as:List aa) (h:MH):Option (aa×MH):=a1 as λx=>(dictAt h x).bind λd=>au (d.2.all λp=>lN p.1==1) (lZ h (.dict Qd d.2))
def zbJ (as:List aa) (h:MH):Option (aa×MH):=Qd
def zbK (as:List aa) (h:MH):Option (aa×MH):=Qd
def FA (as:List aa) (h:MH):Option (aa×MH):=a1 as λx=>(RM h x).map λk=>(.ty k,h)
def Pw (x:aa) (h:MH):Option (aa×MH):=Qd
def Gh (n:Nat) (as:List aa) (h:MH):Option (aa×MH):=
 ay (au (n==UU) (Dr as h)) (ay (au (n==Lk) (FB as h)) (ay (au (n==SV) (zbJ as h)) (ay (au (n==PF) (FA as h)) (ay (au (n==D5) (FC as h)) (ay (au (n==SY) (zbK as h)) (au (n==zcA) (a1 as λx=>Pw x h)))))))
def Sj (s:List Nat):Bool:=s.all (λc=>Zc (c+1) 0x110000) && Zc s.length bh
def Dx (s:List Nat) (n:Nat) (as:List aa) (h:MH):Option (aa×MH):=au (n==lz) (a0 as (Qa (.bool (Txt.isspace ⟨s.toArray⟩),h)))
def wW (a:Nat) (vs:List aa) (n:Nat) (as:List aa) (h:MH):Option (aa×MH):=
 ay (au (n==ew) (a1 as λv=>au (Zc (vs.length+1) bh) (Qa (.none,h.set a (.list (vs++ [v]))))))
 (au (n==rm) (a0 as (vs.getLast?.map λv=>(v,h.set a (.list vs.dropLast)))))
def xK (es:List (aa×aa)) (n:Nat) (as:List aa) (h:MH):Option (aa×MH):=
 au (n==ma) (ay (a1 as λk=>au (kX es k) (Qa ((kY es k).getD .none,h))) (a2 as λk d=>au (kX es k) (Qa ((kY es k).getD d,h))))
def yX (o:aa) (n:Nat) (as:List aa) (h0 h:MH):Option (aa×MH):=
 ay (o.str?.bind λs=>Dx s n as h)
 (o.ref?.bind λa=>ay ((h0[a]?.bind ae.list?).bind λ_=>(h[a]?.bind ae.list?).bind λvs=>wW a vs n as h) ((h0[a]?.bind ae.dict?).bind λ_=>(h[a]?.bind ae.dict?).bind λd=>xK d.2 n as h))
structure Cx where
 P:ij
 cu:Nat
 call:Nat->List aa->MH->Option (aa×MH)
def Ny (c:Cx) (a:Nat) (k:Cl) (as:List aa) (h:MH):Option (aa×MH):=
 k.sa.bind λi=>cb (c.call i (.ref h.length::as) (h++ [.inst a []])) λr h'=>au r.isNone (Qa (.ref h.length,h'))
def kT (c:Cx) (f:aa) (as:List aa) (h:MH):Option (aa×MH):=
 ay (f.top?.bind λa=>JF (motive:=λ_=>Option (aa×MH)) (c.P.fz a) (c.call a as h) λk=>Ny c a k as h)
 (ay (f.bi?.bind λn=>Gi n as h) (f.ty?.bind λn=>Gh n as h))
def l5 (c:Cx) (o:aa) (n:Nat) (as:List aa) (h0 h:MH):Option (aa×MH):=
 JF (motive:=λ_=>Option (aa×MH)) (nU c.P h0 o n) (yX o n as h0 h) λp=>c.call p.1 (p.2++as) h
def mX (p:Option (aa×MH)):Option (Bool×MH):=cb p λv h=>(truthy h v).map λb=>(b,h)
def compLoop (next:Nat->MH->Option (Option aa)) (test:aa->MH->Option (Option Frame×MH)) (eu:Frame->MH->Option (aa×MH)) (acc:Nat):Nat->Nat->MH->Option (Unit×MH)
 |0,_,_=>Qd
 |n+1,i,h=>(next i h).bind λov=>JF (motive:=λ_=>Option (Unit×MH)) ov (Qa ((),h)) λv=>
  cb (test v h) λofr h1=>JF (motive:=λ_=>Option (Unit×MH)) ofr (compLoop next test eu acc n (i+1) h1) λfr=>
   cb (eu fr h1) λx h2=>(h2[acc]?.bind ae.list?).bind λvs=>au (Zc (vs.length+1) bh) (compLoop next test eu acc n (i+1) (h2.set acc (.list (vs++ [x]))))
mutual
noncomputable def eval (c:Cx):Ex->Frame->MH->Option (aa×MH)
 | .var x,fr,h=>fr[x]?.bind λo=>o.map λv=>(v,h)
 | .lit v,_,h=>Qa (v,h)
 | .list es,fr,h=>cb (rD c es fr h) λvs h1=>lZ h1 (.list vs)
 | .az es,fr,h=>cb (rD c es fr h) λvs h1=>Qa (.az vs,h1)
 | .dict kvs,fr,h=>cb (rD c kvs fr h) λl h1=>(yD l []).bind λes=>au (Zc kvs.length 30) (lZ h1 (.dict (Qa es.length) es))
 | .bj op a b,fr,h=>cb (eval c a fr h) λx h1=>cb (eval c b fr h1) λy h2=>pJ op x y h2
 | .not a,fr,h=>cb (mX (eval c a fr h)) λb h1=>Qa (.bool (!b),h1)
 | .ba op a b,fr,h=>cb (eval c a fr h) λx h1=>cb (eval c b fr h1) λy h2=>(nG op x y h2).map λr=>(.bool r,h2)
 | .gy stop es,fr,h=>yV c stop es fr h
 | .ite t a b,fr,h=>cb (mX (eval c t fr h)) λr h1=>bif r then eval c a fr h1 else eval c b fr h1
 | .af e n,fr,h=>cb (eval c e fr h) λo h1=>(getAttr c.P h1 o n).map λv=>(v,h1)
 | .sub e i,fr,h=>cb (eval c e fr h) λo h1=>cb (eval c i fr h1) λk h2=>(l9 h2 o k).map λv=>(v,h2)
 | .slice e k bs,fr,h=>cb (eval c e fr h) λo h1=>cb (rD c bs fr h1) λvs h2=>slice h2 o k vs
 | .call f as,fr,h=>cb (eval c f fr h) λg h1=>cb (rD c as fr h1) λvs h2=>kT c g vs h2
 | .ao o n as,fr,h=>cb (eval c o fr h) λv h1=>cb (rD c as fr h1) λvs h2=>l5 c v n vs h1 h2
 | .comp eu tg many it ifs,fr,h=>cb (eval c it fr h) λv h1=>(pF h1 v).bind λk=>
   cb (compLoop (λi h=>mJ h i k) (λv h=>(oX fr tg many v).bind λfr'=>cb (LO c ifs fr' h) λb h'=>Qa (bif b then Qa fr' else Qd,h')) (λfr' h=>eval c eu fr' h) h1.length c.cu 0 (h1++ [.list []]))
    λ_ h2=>Qa (.ref h1.length,h2)
noncomputable def rD (c:Cx):List Ex->Frame->MH->Option (List aa×MH)
 | [],_,h=>Qa ([],h)
 |e::r,fr,h=>cb (eval c e fr h) λv h1=>cb (rD c r fr h1) λvs h2=>Qa (v::vs,h2)
noncomputable def yV (c:Cx) (stop:Bool):List Ex->Frame->MH->Option (aa×MH)
 | [],_,_=>Qd
 |e::r,fr,h=>cb (eval c e fr h) λv h1=>bif r.isEmpty then Qa (v,h1) else (truthy h1 v).bind λb=>bif b==stop then Qa (v,h1) else yV c stop r fr h1
noncomputable def LO (c:Cx):List Ex->Frame->MH->Option (Bool×MH)
 | [],_,h=>Qa (Qf,h)
 |e::r,fr,h=>cb (mX (eval c e fr h)) λb h1=>bif b then LO c r fr h1 else Qa (Qb,h1)
end
def GL (c:Cx) (fr:Frame) (h:MH) (v:aa):T1->Option (Frame×MH)
 | .nm x=>Qa (fr.set x (Qa v),h)
 | .at o n=>cb (eval c o fr h) λov h1=>(setAttr c.P h1 ov n v).map λh2=>(fr,h2)
 | .sb o i=>cb (eval c o fr h) λov h1=>cb (eval c i fr h1) λiv h2=>(oC h2 ov iv v).map λh3=>(fr,h3)
def rP (c:Cx):List T1->List aa->Frame->MH->Option (Frame×MH)
 | [],vs,fr,h=>au vs.isEmpty (Qa (fr,h))
 |t::ts,vs,fr,h=>vs.head?.bind λv=>cb (GL c fr h v t) λfr' h'=>rP c ts vs.tail fr' h'
abbrev SR:=Option ((Fl×Frame)×MH)
def Wp (cond:Frame->MH->Option (Bool×MH)) (body:Frame->MH->SR):Nat->Frame->MH->SR
 |0,_,_=>Qd
 |n+1,fr,h=>cb (cond fr h) λb h1=>bif b then cb (body fr h1) λp h2=>Fl.casesOn (motive:=λ_=>SR) p.1 (Wp cond body n p.2 h2) (Qa ((.nx,p.2),h2)) (Wp cond body n p.2 h2) (λv=>Qa ((.rt v,p.2),h2))
  else Qa ((.nx,fr),h1)
def yT (next:Nat->MH->Option (Option aa)) (bind:Frame->aa->Option Frame) (body:Frame->MH->SR):Nat->Nat->Frame->MH->SR
 |0,_,_,_=>Qd
 |n+1,i,fr,h=>(next i h).bind λov=>JF (motive:=λ_=>SR) ov (Qa ((.nx,fr),h)) λv=>(bind fr v).bind λfr1=>
   cb (body fr1 h) λp h2=>Fl.casesOn (motive:=λ_=>SR) p.1 (yT next bind body n (i+1) p.2 h2) (Qa ((.nx,p.2),h2)) (yT next bind body n (i+1) p.2 h2) (λv=>Qa ((.rt v,p.2),h2))
mutual
noncomputable def exec (c:Cx):Sm->Frame->MH->SR
 | .expr e,fr,h=>cb (eval c e fr h) λ_ h1=>Qa ((.nx,fr),h1)
 | .bg t e,fr,h=>cb (eval c e fr h) λv h1=>cb (GL c fr h1 v t) λfr' h2=>Qa ((.nx,fr'),h2)
 | .jn ts e,fr,h=>cb (eval c e fr h) λv h1=>(items h1 v).bind λvs=>cb (rP c ts vs fr h1) λfr' h2=>Qa ((.nx,fr'),h2)
 | .ret e,fr,h=>cb (eval c e fr h) λv h1=>Qa ((.rt v,fr),h1)
 | .ite t a b,fr,h=>cb (mX (eval c t fr h)) λr h1=>bif r then execs c a fr h1 else execs c b fr h1
 | .wh t b,fr,h=>Wp (λfr h=>mX (eval c t fr h)) (λfr h=>execs c b fr h) c.cu fr h
 | .fo tg many e b,fr,h=>cb (eval c e fr h) λv h1=>(pF h1 v).bind λk=>yT (λi h=>mJ h i k) (λfr v=>oX fr tg many v) (λfr h=>execs c b fr h) c.cu 0 fr h1
 | .brk,fr,h=>Qa ((.bk,fr),h)
 | .cont,fr,h=>Qa ((.ct,fr),h)
 | .ub,fr,h=>Qa ((.nx,fr),h)
 | .cf,_,_=>Qd
 | .bZ _,_,_=>Qd
 | .tr _ _ _ _,_,_=>Qd
noncomputable def execs (c:Cx):List Sm->Frame->MH->SR
 | [],fr,h=>Qa ((.nx,fr),h)
 |s::r,fr,h=>cb (exec c s fr h) λp h1=>Fl.casesOn (motive:=λ_=>SR) p.1 (execs c r p.2 h1) (Qa (p,h1)) (Qa (p,h1)) (λ_=>Qa (p,h1))
end
def ij.kx (P:ij) (a:Nat):Option Fn:=P.oe.find? λf=>f.gz==a
def vZ (f:Fn) (as:List aa):Option (List aa):=au (Zc as.length f.np && Zc (f.np-as.length) f.qb.length) (Qa (as++f.qb.drop (f.qb.length-(f.np-as.length))))
def sC (f:Fn) (vs:List aa):Frame:=vs.map Qa++JU (f.ns-f.np) Qd
def OQ (p:Fl×Frame) (h:MH):Option (aa×MH):=Fl.casesOn (motive:=λ_=>Option (aa×MH)) p.1 (Qa (.none,h)) Qd Qd λv=>Qa (v,h)
def nH (P:ij) (cu:Nat):Nat->Nat->List aa->MH->Option (aa×MH)
 |0,_,_,_=>Qd
 |d+1,a,as,h=>(P.kx a).bind λf=>(vZ f as).bind λvs=>cb (execs ⟨P,cu,nH P cu d⟩ f.body (sC f vs) h) OQ
structure CC where
 sc:List (Str×Qx)
 jk:List (Str×Nat)
 next:Nat
 gl:List (Str×aa)
def kQ (x : Str) : Bool := x.cps.toList.all (λc => 1 <= c && c <= 255) && x != ("__debug__" : Str) && x != ("__class__" : Str) && x != ("super" : Str) && !x.cps.toList.isEmpty
def Ic:Const->Option aa
 | .none=>Qa .none
 | .bool b=>Qa (.bool b)
 | .int i=>Qa (.int i)
 | .str s=>au (Sj s.cps.toList) (Qa (.str s.cps.toList))
 |_=>Qd
def oK (cx:CC) (x:Str):Option Nat:=au (cx.sc.lookup x==Qa .local||cx.sc.lookup x==Qa .cell) (cx.jk.lookup x)
def Ao:Ji->Option ik
 | .Add=>Qa .add
 | .Sub=>Qa .sub
 | .Mult=>Qa .mul
 | .FloorDiv=>Qa .fdiv
 | .Mod=>Qa .mod
 | .Pow=>Qa .iO
 |_=>Qd
def Aj:CmpOp->uv
 | .Eq=> .eq
 | .NotEq=> .ne
 | .Lt=> .lt
 | .LtE=> .le
 | .Gt=> .gt
 | .GtE=> .ge
 | .In=> .jm
 | .NotIn=> .fy
 | .Is=> .is
 | .IsNot=> .dw
def qY (e:Expr):Option (Str×Pos):=Expr.casesOn (motive_1:=λ_=>Option (Str×Pos)) e (λ_ _ _=>Qd) (λ_ _ _=>Qd) (λ_ _ _ _=>Qd) (λ_ _ _=>Qd) (λ_ _ _ _=>Qd) (λ_ _ _ _=>Qd) (λ_ _ _=>Qd) (λ_ _ _=>Qd) (λ_ _ _ _=>Qd) (λ_ _ _ _=>Qd) (λ_ _ _ _ _=>Qd) (λ_ _ _ _=>Qd) (λ_ _=>Qd) (λ_ _=>Qd) (λ_ _=>Qd) (λ_ _ _ _=>Qd) (λ_ _ _ _=>Qd) (λ_ _ _ _=>Qd) (λ_ _=>Qd) (λ_ _ _=>Qd) (λ_ _ _=>Qd) (λ_ _ _=>Qd) (λ_ _=>Qd) (λx y=>Qa (x,y)) (λ_ _=>Qd) (λ_ _ _=>Qd) (λ_ _ _ _=>Qd)
def Vk (e:Expr):Option (Expr×Str×Pos):=Expr.casesOn (motive_1:=λ_=>Option (Expr×Str×Pos)) e (λ_ _ _=>Qd) (λ_ _ _=>Qd) (λ_ _ _ _=>Qd) (λ_ _ _=>Qd) (λ_ _ _ _=>Qd) (λ_ _ _ _=>Qd) (λ_ _ _=>Qd) (λ_ _ _=>Qd) (λ_ _ _ _=>Qd) (λ_ _ _ _=>Qd) (λ_ _ _ _ _=>Qd) (λ_ _ _ _=>Qd) (λ_ _=>Qd) (λ_ _=>Qd) (λ_ _=>Qd) (λ_ _ _ _=>Qd) (λ_ _ _ _=>Qd) (λ_ _ _ _=>Qd) (λ_ _=>Qd) (λ_ _ _=>Qd) (λx y z=>Qa (x,y,z)) (λ_ _ _=>Qd) (λ_ _=>Qd) (λ_ _=>Qd) (λ_ _=>Qd) (λ_ _ _=>Qd) (λ_ _ _ _=>Qd)
def vI (e:Expr):Option (List Expr×Nat×Pos):=Expr.casesOn (motive_1:=λ_=>Option (List Expr×Nat×Pos)) e (λ_ _ _=>Qd) (λ_ _ _=>Qd) (λ_ _ _ _=>Qd) (λ_ _ _=>Qd) (λ_ _ _ _=>Qd) (λ_ _ _ _=>Qd) (λ_ _ _=>Qd) (λ_ _ _=>Qd) (λ_ _ _ _=>Qd) (λ_ _ _ _=>Qd) (λ_ _ _ _ _=>Qd) (λ_ _ _ _=>Qd) (λ_ _=>Qd) (λ_ _=>Qd) (λ_ _=>Qd) (λ_ _ _ _=>Qd) (λ_ _ _ _=>Qd) (λ_ _ _ _=>Qd) (λ_ _=>Qd) (λ_ _ _=>Qd) (λ_ _ _=>Qd) (λ_ _ _=>Qd) (λ_ _=>Qd) (λ_ _=>Qd) (λ_ _=>Qd) (λx y z=>Qa (x,y,z)) (λ_ _ _ _=>Qd)
def Iy (e:Expr):Option (Expr×Expr×Pos):=Expr.casesOn (motive_1:=λ_=>Option (Expr×Expr×Pos)) e (λ_ _ _=>Qd) (λ_ _ _=>Qd) (λ_ _ _ _=>Qd) (λ_ _ _=>Qd) (λ_ _ _ _=>Qd) (λ_ _ _ _=>Qd) (λ_ _ _=>Qd) (λ_ _ _=>Qd) (λ_ _ _ _=>Qd) (λ_ _ _ _=>Qd) (λ_ _ _ _ _=>Qd) (λ_ _ _ _=>Qd) (λ_ _=>Qd) (λ_ _=>Qd) (λ_ _=>Qd) (λ_ _ _ _=>Qd) (λ_ _ _ _=>Qd) (λ_ _ _ _=>Qd) (λ_ _=>Qd) (λ_ _ _=>Qd) (λ_ _ _=>Qd) (λx y z=>Qa (x,y,z)) (λ_ _=>Qd) (λ_ _=>Qd) (λ_ _=>Qd) (λ_ _ _=>Qd) (λ_ _ _ _=>Qd)
def xR (e:Expr):Option (Option Expr×Option Expr×Option Expr×Pos):=Expr.casesOn (motive_1:=λ_=>Option (Option Expr×Option Expr×Option Expr×Pos)) e (λ_ _ _=>Qd) (λ_ _ _=>Qd) (λ_ _ _ _=>Qd) (λ_ _ _=>Qd) (λ_ _ _ _=>Qd) (λ_ _ _ _=>Qd) (λ_ _ _=>Qd) (λ_ _ _=>Qd) (λ_ _ _ _=>Qd) (λ_ _ _ _=>Qd) (λ_ _ _ _ _=>Qd) (λ_ _ _ _=>Qd) (λ_ _=>Qd) (λ_ _=>Qd) (λ_ _=>Qd) (λ_ _ _ _=>Qd) (λ_ _ _ _=>Qd) (λ_ _ _ _=>Qd) (λ_ _=>Qd) (λ_ _ _=>Qd) (λ_ _ _=>Qd) (λ_ _ _=>Qd) (λ_ _=>Qd) (λ_ _=>Qd) (λ_ _=>Qd) (λ_ _ _=>Qd) (λx y z u=>Qa (x,y,z,u))
def qV (e:Expr):Bool:=Expr.casesOn (motive_1:=λ_=>Bool) e (λ_ _ _=>Qb) (λ_ _ _=>Qb) (λ_ _ _ _=>Qb) (λ_ _ _=>Qb) (λ_ _ _ _=>Qb) (λ_ _ _ _=>Qb) (λ_ _ _=>Qb) (λ_ _ _=>Qb) (λx y z u=>Qf) (λ_ _ _ _=>Qb) (λ_ _ _ _ _=>Qb) (λ_ _ _ _=>Qb) (λ_ _=>Qb) (λ_ _=>Qb) (λ_ _=>Qb) (λ_ _ _ _=>Qb) (λ_ _ _ _=>Qb) (λ_ _ _ _=>Qb) (λ_ _=>Qb) (λ_ _ _=>Qb) (λ_ _ _=>Qb) (λ_ _ _=>Qb) (λ_ _=>Qb) (λ_ _=>Qb) (λ_ _=>Qb) (λ_ _ _=>Qb) (λ_ _ _ _=>Qb)
def Vc (e:Expr):Bool:=Expr.casesOn (motive_1:=λ_=>Bool) e (λ_ _ _=>Qf) (λ_ _ _=>Qf) (λ_ _ _ _=>Qf) (λ_ _ _=>Qf) (λ_ _ _ _=>Qf) (λ_ _ _ _=>Qf) (λ_ _ _=>Qf) (λ_ _ _=>Qf) (λ_ _ _ _=>Qf) (λ_ _ _ _=>Qf) (λ_ _ _ _ _=>Qf) (λ_ _ _ _=>Qf) (λ_ _=>Qf) (λ_ _=>Qf) (λ_ _=>Qf) (λ_ _ _ _=>Qf) (λx y z u=>!y.isEmpty) (λ_ _ _ _=>Qf) (λ_ _=>Qf) (λ_ _ _=>Qf) (λ_ _ _=>Qf) (λ_ _ _=>Qf) (λ_ _=>Qf) (λ_ _=>Qf) (λ_ _=>Qf) (λ_ _ _=>Qf) (λ_ _ _ _=>Qf)
section
variable {α β γ:Type}
def pD (f:α->Option β):List α->Option (List β)
 | []=>Qa []
 |a::r=>(f a).bind λb=>(pD f r).map λbs=>b::bs
def Ek (l:List α) (f:α->Option β):Option β:=Yh (motive:=λ_=>Option β) l Qd λa r=>Yh (motive:=λ_=>Option β) r (f a) λ_ _=>Qd
inductive mS (R:α->β->Prop):List α->List β->Prop
 |nil:mS R [] []
 |cons {a:α}{b:β}{as:List α}{bs:List β}:R a b->mS R as bs->mS R (a::as) (b::bs)
theorem bs {o:Option α}{f:α->Option β}{r:β} (h:o.bind f=Qa r): ∃a,o=Qa a/\f a=Qa r:=XT.mp h
theorem ms {o:Option α}{f:α->β}{r:β} (h:o.map f=Qa r): ∃a,o=Qa a/\f a=r:=Zl.mp h
def gs {b:Bool}{o:Option α}{r:α} (h:au b o=Qa r):b=Qf/\o=Qa r:=by
 cases b
 ·cases h
 ·exact ⟨rfl,h⟩
theorem lC {P:Prop}{o:Option α}{f:α->Option β}{r:β} (g: ∀a,o=Qa a->f a=Qa r->P) (h:o.bind f=Qa r):P:=(bs h).elim λa h=>g a h.1 h.2
theorem lY {P:Prop}{o:Option α}{f:α->β}{r:β} (g: ∀a,o=Qa a->f a=r->P) (h:o.map f=Qa r):P:=(ms h).elim λa h=>g a h.1 h.2
theorem nB {P:Prop}{b:Bool}{o:Option α}{r:α} (g:b=Qf->o=Qa r->P) (h:au b o=Qa r):P:=g (gs h).1 (gs h).2
theorem mB {P:Prop}{a b:Option α}{r:α} (g:a=Qa r->P) (g':b=Qa r->P):ay a b=Qa r->P:=JF (motive:=λa=>(a=Qa r->P) ->ay a b=Qa r->P) a (λ_ h=>g' h) (λ_ g h=>g h) g
theorem kN {P:Prop}{o:Option (α×MH)}{f:α->MH->Option (β×MH)}{r:β×MH} (g: ∀a h,o=Qa (a,h) ->f a h=Qa r->P):cb o f=Qa r->P:=JF (motive:=λo=>(∀a h,o=Qa (a,h) ->f a h=Qa r->P) ->cb o f=Qa r->P) o (λ_ h=>Option.noConfusion rfl (heq_of_eq h)) (λp g h=>g p.1 p.2 rfl h) g
def Wg {l:List α}{f:α->Option β}{r:β} (h:Ek l f=Qa r): ∃a,l= [a]/\f a=Qa r:=by
 cases l with
 |nil=>cases h
 |cons a l=>
  cases l with
  |nil=>exact ⟨a,rfl,h⟩
  |cons _ _=>cases h
def rY {f:α->Option β}{l:List α}: ∀ {r:List β},pD f l=Qa r->mS (λa b=>f a=Qa b) l r:=by
 induction l with
 |nil=>intro r h;cases h;exact .nil
 |cons a l ih=>
  intro r h;obtain ⟨b,h1,h⟩:=bs h;refine (ms h).elim λbs zq1=>?_;obtain rfl:=zq1.2;exact .cons h1 (ih zq1.1)
def mS.mono {R S:α->β->Prop} (h: ∀a b,R a b->S a b) {as:List α}{bs:List β} (r:mS R as bs):mS S as bs:=by
 induction r with
 |nil=>exact .nil
 |cons x _ ih=>exact .cons (h _ _ x) ih
def mS.length {R:α->β->Prop}{as:List α}{bs:List β} (r:mS R as bs):bs.length=as.length:=by
 induction r with
 |nil=>rfl
 |cons _ _ ih=>exact congrArg (· +1) ih
end
theorem ag {α:Type}{p:α}{P:Prop} (h:Qd=Qa p):P:=nomatch h
theorem rH {e:Expr}{p:Str×Pos}:qY e=Qa p->e= .Name p.1 p.2:=Expr.casesOn (motive_1:=λe=>qY e=Qa p->e= .Name p.1 p.2) e (λ_ _ _ h=>ag h) (λ_ _ _ h=>ag h) (λ_ _ _ _ h=>ag h) (λ_ _ _ h=>ag h) (λ_ _ _ _ h=>ag h) (λ_ _ _ _ h=>ag h) (λ_ _ _ h=>ag h) (λ_ _ _ h=>ag h) (λ_ _ _ _ h=>ag h) (λ_ _ _ _ h=>ag h) (λ_ _ _ _ _ h=>ag h) (λ_ _ _ _ h=>ag h) (λ_ _ h=>ag h) (λ_ _ h=>ag h) (λ_ _ h=>ag h) (λ_ _ _ _ h=>ag h) (λ_ _ _ _ h=>ag h) (λ_ _ _ _ h=>ag h) (λ_ _ h=>ag h) (λ_ _ _ h=>ag h) (λ_ _ _ h=>ag h) (λ_ _ _ h=>ag h) (λ_ _ h=>ag h) (λx y h=>Qa.inj h▸rfl) (λ_ _ h=>ag h) (λ_ _ _ h=>ag h) (λ_ _ _ _ h=>ag h)
theorem Vj {e:Expr}{p:Expr×Str×Pos}:Vk e=Qa p->e= .Attribute p.1 p.2.1 p.2.2:=Expr.casesOn (motive_1:=λe=>Vk e=Qa p->e= .Attribute p.1 p.2.1 p.2.2) e (λ_ _ _ h=>ag h) (λ_ _ _ h=>ag h) (λ_ _ _ _ h=>ag h) (λ_ _ _ h=>ag h) (λ_ _ _ _ h=>ag h) (λ_ _ _ _ h=>ag h) (λ_ _ _ h=>ag h) (λ_ _ _ h=>ag h) (λ_ _ _ _ h=>ag h) (λ_ _ _ _ h=>ag h) (λ_ _ _ _ _ h=>ag h) (λ_ _ _ _ h=>ag h) (λ_ _ h=>ag h) (λ_ _ h=>ag h) (λ_ _ h=>ag h) (λ_ _ _ _ h=>ag h) (λ_ _ _ _ h=>ag h) (λ_ _ _ _ h=>ag h) (λ_ _ h=>ag h) (λ_ _ _ h=>ag h) (λx y z h=>Qa.inj h▸rfl) (λ_ _ _ h=>ag h) (λ_ _ h=>ag h) (λ_ _ h=>ag h) (λ_ _ h=>ag h) (λ_ _ _ h=>ag h) (λ_ _ _ _ h=>ag h)
theorem zO {e:Expr}{p:List Expr×Nat×Pos}:vI e=Qa p->e= .Tuple p.1 p.2.1 p.2.2:=Expr.casesOn (motive_1:=λe=>vI e=Qa p->e= .Tuple p.1 p.2.1 p.2.2) e (λ_ _ _ h=>ag h) (λ_ _ _ h=>ag h) (λ_ _ _ _ h=>ag h) (λ_ _ _ h=>ag h) (λ_ _ _ _ h=>ag h) (λ_ _ _ _ h=>ag h) (λ_ _ _ h=>ag h) (λ_ _ _ h=>ag h) (λ_ _ _ _ h=>ag h) (λ_ _ _ _ h=>ag h) (λ_ _ _ _ _ h=>ag h) (λ_ _ _ _ h=>ag h) (λ_ _ h=>ag h) (λ_ _ h=>ag h) (λ_ _ h=>ag h) (λ_ _ _ _ h=>ag h) (λ_ _ _ _ h=>ag h) (λ_ _ _ _ h=>ag h) (λ_ _ h=>ag h) (λ_ _ _ h=>ag h) (λ_ _ _ h=>ag h) (λ_ _ _ h=>ag h) (λ_ _ h=>ag h) (λ_ _ h=>ag h) (λ_ _ h=>ag h) (λx y z h=>Qa.inj h▸rfl) (λ_ _ _ _ h=>ag h)
theorem Pc {e:Expr}{p:Expr×Expr×Pos}:Iy e=Qa p->e= .Subscript p.1 p.2.1 p.2.2:=Expr.casesOn (motive_1:=λe=>Iy e=Qa p->e= .Subscript p.1 p.2.1 p.2.2) e (λ_ _ _ h=>ag h) (λ_ _ _ h=>ag h) (λ_ _ _ _ h=>ag h) (λ_ _ _ h=>ag h) (λ_ _ _ _ h=>ag h) (λ_ _ _ _ h=>ag h) (λ_ _ _ h=>ag h) (λ_ _ _ h=>ag h) (λ_ _ _ _ h=>ag h) (λ_ _ _ _ h=>ag h) (λ_ _ _ _ _ h=>ag h) (λ_ _ _ _ h=>ag h) (λ_ _ h=>ag h) (λ_ _ h=>ag h) (λ_ _ h=>ag h) (λ_ _ _ _ h=>ag h) (λ_ _ _ _ h=>ag h) (λ_ _ _ _ h=>ag h) (λ_ _ h=>ag h) (λ_ _ _ h=>ag h) (λ_ _ _ h=>ag h) (λx y z h=>Qa.inj h▸rfl) (λ_ _ h=>ag h) (λ_ _ h=>ag h) (λ_ _ h=>ag h) (λ_ _ _ h=>ag h) (λ_ _ _ _ h=>ag h)
theorem E9 {e:Expr}{p:Option Expr×Option Expr×Option Expr×Pos}:xR e=Qa p->e= .Slice p.1 p.2.1 p.2.2.1 p.2.2.2:=Expr.casesOn (motive_1:=λe=>xR e=Qa p->e= .Slice p.1 p.2.1 p.2.2.1 p.2.2.2) e (λ_ _ _ h=>ag h) (λ_ _ _ h=>ag h) (λ_ _ _ _ h=>ag h) (λ_ _ _ h=>ag h) (λ_ _ _ _ h=>ag h) (λ_ _ _ _ h=>ag h) (λ_ _ _ h=>ag h) (λ_ _ _ h=>ag h) (λ_ _ _ _ h=>ag h) (λ_ _ _ _ h=>ag h) (λ_ _ _ _ _ h=>ag h) (λ_ _ _ _ h=>ag h) (λ_ _ h=>ag h) (λ_ _ h=>ag h) (λ_ _ h=>ag h) (λ_ _ _ _ h=>ag h) (λ_ _ _ _ h=>ag h) (λ_ _ _ _ h=>ag h) (λ_ _ h=>ag h) (λ_ _ _ h=>ag h) (λ_ _ _ h=>ag h) (λ_ _ _ h=>ag h) (λ_ _ h=>ag h) (λ_ _ h=>ag h) (λ_ _ h=>ag h) (λ_ _ _ h=>ag h) (λx y z u h=>Qa.inj h▸rfl)
def rW (e:Expr):Option Str:=(qY e).map (·.1)
def wI (e:Expr):Option (List Str×Bool):=ay ((qY e).map λp=>([p.1],Qb)) ((vI e).bind λp=>(pD rW p.1).map λxs=>(xs,Qf))
def vW (outer:List (Str×Qx)) (sc:Scope):List (Str×Qx):=
 sc.names.map λp=>(p.1,if (p.2== .free && outer.lookup p.1==Qa .cell)=Qf then .cell else p.2)
def cq (cx:CC) (sc:Scope) (xs:List Str):CC:=
 {sc:=vW cx.sc sc,jk:=xs.zip (J3 cx.next xs.length)++cx.jk,next:=cx.next+xs.length,gl:=cx.gl}
def WZ (cx:CC) (sc:Scope) (xs:List Str):Bool:=
 sc.kind== .function &&
 (sc.names.all λp=>p.2 != .cell && (p.2 != .local||(sc.names.lookup p.1==Qa .local && (xs.contains p.1||(cx.jk.lookup p.1).isNone))) && (p.2 != .free||(sc.names.lookup p.1==Qa .free && cx.sc.lookup p.1==Qa .cell))) &&
 xs.all (λx=>sc.names.lookup x==Qa .local) && decide xs.Nodup
def VZ:List Ex->List Ex->List Ex
 |k::ks,v::vs=>k::v::VZ ks vs
 |_,_=> []
def BZ (cx:CC) (x:Str):Option Ex:=au (kQ x) (JF (motive:=λ_=>Option Ex) (oK cx x) (au (cx.sc.lookup x==Qa .globalImplicit) ((cx.gl.lookup x).map .lit)) λi=>Qa (.var i))
def zdu (f:Expr->Option Ex) (cx:CC) (pos:Pos) (as:List Ex) (g:Expr):Option Ex:=
 ay ((qY g).bind λp=>(BZ cx p.1).map λe=> .call e as)
 ((Vk g).bind λp=>au (kQ p.2.1 && Vc p.1 && p.2.2.endLine==pos.line) ((f p.1).map λe=> .ao e (ez p.2.1) as))
def Gk (f:Expr->Option Ex) (lo hi:Option Expr):Option (Nat×List Ex):=
 JF (motive:=λ_=>Option (Nat×List Ex)) lo Qd
  λa=>(f a).bind λx=>JF (motive:=λ_=>Option (Nat×List Ex)) hi Qd λb=>(f b).map λy=>(3,[x,y])
def zd2 (f:Expr->Option Ex) (v sl:Expr):Option Ex:=
 JF (motive:=λ_=>Option Ex) (xR sl) ((f v).bind λe=>(f sl).map λi=> .sub e i)
  λp=>au ((qY v).isSome && p.2.2.1.isNone) ((f v).bind λe=>(Gk f p.1 p.2.1).map λq=> .slice e q.1 q.2)
def mK:Nat->CC->Expr->Option Ex
 |0,_,_=>Qd
 |n+1,cx,e=>match e with
  | .Constant c _ _=>(Ic c).map .lit
  | .Name x _=>BZ cx x
  | .BoolOp op vs _=>(pD (mK n cx) vs).map (.gy (op== .Or))
  | .BinOp l op r _=>(Ao op).bind λo=>(mK n cx l).bind λa=>(mK n cx r).map λb=> .bj o a b
  | .UnaryOp op x _=>au (op== .Not) ((mK n cx x).map .not)
  | .IfExp t a b _=>(mK n cx t).bind λt'=>(mK n cx a).bind λa'=>(mK n cx b).map λb'=> .ite t' a' b'
  | .List es _=>au (Zc es.length 1000) ((pD (mK n cx) es).map .list)
  | .Tuple es _ _=>au (Zc es.length 1000) ((pD (mK n cx) es).map .az)
  | .Compare l ops cs _=>Ek ops λo=>Ek cs λr=>(mK n cx l).bind λa=>(mK n cx r).map λb=> .ba (Aj o) a b
  | .Call f as ks pos=>au (ks.isEmpty && Zc as.length 20) ((pD (mK n cx) as).bind λbs=>zdu (mK n cx) cx pos bs f)
  | .Attribute v nm _=>au (kQ nm && Vc v) ((mK n cx v).map λe=> .af e (ez nm))
  | .Subscript v sl _=>zd2 (mK n cx) v sl
  | .Dict ks vs _=>au (ks.length==vs.length) ((pD (λo=>o.bind (mK n cx)) ks).bind λa=>(pD (mK n cx) vs).map λb=> .dict (VZ a b))
  | .ListComp eu gens sc _=>Ek gens λg=>(wI g.target).bind λt=>au (g.is_async==0 && WZ cx sc t.1) ((mK n cx g.iter).bind λit=>(pD (mK n (cq cx sc t.1)) g.ifs).bind λifs=>
    (mK n (cq cx sc t.1) eu).map λe=> .comp e (J3 cx.next t.1.length) t.2 it ifs)
  |_=>Qd
abbrev qO:CC->Expr->Option Ex:=mK 60
def Ie (cx:CC) (t:Expr):Option T1:=
 ay ((qY t).bind λp=>au (kQ p.1) ((oK cx p.1).map .nm))
 (ay ((Vk t).bind λp=>au (kQ p.2.1) ((qO cx p.1).map λe=> .at e (ez p.2.1)))
 ((Iy t).bind λp=>(qO cx p.1).bind λa=>(qO cx p.2.1).map λb=> .sb a b))
def UK (cx:CC) (x:Str):Option Nat:=au (kQ x) (oK cx x)
def Ih (cx:CC) (t:Expr):Option (Ex×Nat):=(Vk t).bind λp=>au (kQ p.2.1) ((qO cx p.1).map λe=>(e,ez p.2.1))
def V4 (v:Expr):Bool:=!qV v && ((vI v).map λp=>!p.1.all (constantsAlone 8)).getD Qf
def BY (es:List Expr):Option (List Str):=(pD rW es).bind λxs=>au (decide xs.Nodup) (Qa xs)
def zgl (cx:CC) (v t:Expr):Option Sm:=
 JF (motive:=λ_=>Option Sm) (vI t) ((Ie cx t).bind λa=>(qO cx v).map λb=> .bg a b)
  λp=>au (V4 v) ((qO cx v).bind λb=>ay ((BY p.1).bind λxs=>(pD (UK cx) xs).map λis=> .jn (is.map .nm) b)
   (au (!p.1.isEmpty) ((pD (Ih cx) p.1).map λts=> .jn (ts.map λq=> .at q.1 q.2) b)))
def tS:Nat->CC->Qz->Option Sm
 |0,_,_=>Qd
 |n+1,cx,st=>match st with
  | .Expr v _=>au (!qV v) ((qO cx v).map .expr)
  | .Pass _=>Qa .ub
  | .Break _=>Qa .brk
  | .Continue _=>Qa .cont
  | .Return v _=>JF (motive:=λ_=>Option Sm) v (Qa (.ret (.lit .none))) λe=>(qO cx e).map .ret
  | .Assign ts v _=>Ek ts (zgl cx v)
  | .If t a b _=>(qO cx t).bind λx=>(pD (λs=>Qa ((tS n cx s).getD .cf)) a).bind λy=>(pD (λs=>Qa ((tS n cx s).getD .cf)) b).map λz=> .ite x y z
  | .While t b e _=>au e.isEmpty ((qO cx t).bind λx=>(pD (λs=>Qa ((tS n cx s).getD .cf)) b).map λy=> .wh x y)
  | .For t it b e _=>au e.isEmpty ((wI t).bind λq=>au (decide q.1.Nodup) ((qO cx it).bind λx=>(pD (UK cx) q.1).bind λsl=>(pD (λs=>Qa ((tS n cx s).getD .cf)) b).map λy=> .fo sl q.2 x y))
  |_=>Qd
abbrev P6 (cx:CC):List Qz->Option (List Sm):=pD λs=>Qa ((tS 40 cx s).getD .cf)
def vU (ps:List Str) (sc:Scope):List Str:=
 ps++(sc.names.filter λp=>(p.2== .local||p.2== .cell) && !ps.contains p.1).map (·.1)
def CR (ps:List Str) (sc:Scope) (gl:List (Str×aa)):CC:=
 {sc:=sc.names,jk:=(vU ps sc).zip (J3 0 (vU ps sc).length),next:=(vU ps sc).length,gl:=gl}
def W2 (gl:List (Str×aa)) (params:Q4) (body:List Qz) (sc:Scope):Option (Nat×Nat×List Sm):=
 au (params.posonlyargs.isEmpty && params.vararg.isNone && params.kwonlyargs.isEmpty && params.kwarg.isNone && sc.kind== .function && !sc.isGenerator && !sc.isCoroutine && (params.args.map (·.arg)).all (λx=>sc.names.lookup x==Qa .local||sc.names.lookup x==Qa .cell))
  ((P6 (CR (params.args.map (·.arg)) sc gl) body).map λb=>((params.args.map (·.arg)).length,(vU (params.args.map (·.arg)) sc).length+6,b))
end Internal
namespace Internal
open PySem PySem.W PySem.Calls PyProof.Rows
abbrev bt:=List (Qi×Obj)
structure ax where
 prog:Qt
 w:Qn
 K:Frag
 P:ij
 ad:List (Nat×Qi)
abbrev ax.M (C:ax):Model:=model C.prog C.w
def sJ : List (Nat × String) := [(UU,"range"),(Lk,"list"),(D5,"dict"),(B1,"tuple"),(SV,"str"),(SY,"int"),(PF,"type"),(zcA,"set"),(PI,"bool"),(Uh,"NoneType")]
def xO : List (Nat × String) := [(uX,"len"),(ND,"max"),(zcB,"min"),(rX,"sorted")]
def tx (s:List Nat):Prop:=(∀c∈s,c<0x110000)/\s.length<=bh
structure Wd where
 σ:List Qi
 tp:bt
structure Wd.le (w w':Wd):Prop where
 s:w.σ<+:w'.σ
 t: ∀p∈w.tp,p∈w'.tp
theorem Wd.le.refl (w:Wd):w.le w:=⟨Yd _,λ_ x=>x⟩
theorem Wd.le.trans {a b c:Wd} (x:a.le b) (y:b.le c):a.le c:=⟨x.1.trans y.1,λp hp=>y.2 p (x.2 p hp)⟩
def Wd.le.get {w w':Wd} (l:w.le w') {i:Nat}{a:Qi} (h:w.σ[i]?=Qa a):w'.σ[i]?=Qa a:=by
 refine Zs l.s λt zq21=>?_;refine (JD.mp h).elim λhl zq20=>?_;rw [<-zq21,ZP hl];exact h
structure zgw (C:ax) (tp:bt) (a:Qi) (o:Obj) (n:Nat) (vs:List Value):Prop where
 at':(a,o)∈tp\/C.K.lookup a=Qa o
 cls : o.cls = .type "tuple"
 data:o.data= .seq vs.toArray n
structure kG (C:ax) (a:Qi) (o:Obj) (n:Nat) (vs:List Value):Prop where
 at':C.K.lookup a=Qa o
 cls : o.cls = .type "list"
 data:o.data= .seq vs.toArray n
abbrev Sp (t : Tok) (n : Int) (u v : Tok) : Obj := { cls := .type "range",dict := Qd,data := .fields #[.int 0 t,.int n u,.int 1 v],slots := #[] }
structure zgv (tp:bt) (a:Qi) (o:Obj) (es:Array (Int×Value)) (ep:Nat) (t:SetTable) (n:Nat):Prop where
 at':(a,o)∈tp
 ex:o.ExactSet
 data:o.data= .set es ep t
 fits:t.fits es.size=Qf
 size:es.size=n
 le:n<=bh
inductive Pj (C:ax) (tp:bt) (l:Nat) (R:List Value->Prop) (v:Value):Prop
 |mk (a:Qi) (o:Obj) (n:Nat) (vs:List Value) (e:v= .ref a) (q:zgw C tp a o n vs) (r:R vs) (hl:l<=bh):Pj C tp l R v
inductive dX (C:ax) (l:Nat) (R:List Value->Prop) (v:Value):Prop
 |mk (a:Qi) (o:Obj) (n:Nat) (vs:List Value) (e:v= .ref a) (q:kG C a o n vs) (r:R vs) (hl:l<=bh):dX C l R v
inductive zbp (tp:bt) (n:Int) (x:Value):Prop
 |mk (a:Qi) (t u v:Tok) (e:x= .ref a) (h:(a,Sp t n u v)∈tp):zbp tp n x
inductive He (P:Value->Prop) (R:List Value->Prop) (vs:List Value):Prop
 |mk (v:Value) (r:List Value) (e:vs=v::r) (h:P v) (t:R r):He P R vs
mutual
noncomputable def kM (C:ax) (w:Wd):aa->Value->Prop
 | .none=>λv=>v= .none
 | .bool b=>λv=>v= .bool b
 | .int i=>λv=> ∃t,v= .int i t
 | .str s=>λv=> ∃t,v= .str ⟨s.toArray⟩ t/\tx s
 | .az mvs=>λv=>Pj C w.tp mvs.length (kL C w mvs) v
 | .ref i=>λv=> ∃a,v= .ref a/\w.σ[i]?=Qa a
 | .ah id=>λv=> ∃a,v= .ref a/\C.ad.lookup id=Qa a
 | .ty c=>λv=> ∃n,v= .type n/\sJ.lookup c=Qa n
 | .bi c=>λv=> ∃n,v= .builtin n/\xO.lookup c=Qa n
 | .gf n=>λx=>zbp w.tp n x
 | .fl mvs=>λv=>dX C mvs.length (kL C w mvs) v
 | .qy n=>λv=> ∃a o es ep t,v= .ref a/\zgv w.tp a o es ep t n
noncomputable def kL (C:ax) (w:Wd):List aa->List Value->Prop
 | []=>λvs=>vs= []
 |m::ms=>λvs=>He (kM C w m) (kL C w ms) vs
end
section
variable {C:ax}{w w':Wd}{x:aa}{v:Value}{mvs:List aa}{vs:List Value}
theorem kL.nil:kL C w [] []:=rfl
theorem kL.cons {m:aa}{ms:List aa} (h:kM C w m v) (r:kL C w ms vs):kL C w (m::ms) (v::vs):=⟨v,vs,rfl,h,r⟩
theorem kL.dz (h:kM C w x v):kL C w [x] [v]:= .cons h .nil
def kL.length: ∀ {ms:List aa}{vs:List Value},kL C w ms vs->ms.length=vs.length:=by
 intro ms
 induction ms with
 |nil=>intro vs h;exact congrArg Z5 (qaw h)
 |cons m ms ih=>
  intro vs h;obtain ⟨v,r,rfl,_,h⟩:=h;exact congrArg ZQ (ih h)
def kM.mono' (l:w.le w') (m:aa): ∀v,kM C w m v->kM C w' m v:=by
 refine aa.rec (motive_1:=λm=> ∀v,kM C w m v->kM C w' m v) (motive_2:=λms=> ∀vs,kL C w ms vs->kL C w' ms vs) (λ_ h=>h) (λ_ _ h=>h) (λ_ _ h=>h) (λ_ _ h=>h) ?_ ?_ (λ_ _ h=>h) (λ_ _ h=>h) (λ_ _ h=>h) ?_ ?_ ?_ (λ_ h=>h) ?_ m
 ·exact λms ih v h=>Pj.casesOn h λa o n vs e h r k=>⟨a,o,n,vs,e,⟨h.1.imp (l.t _) id,h.2,h.3⟩,ih vs r,k⟩
 ·exact λi v h=>h.elim λa h=>⟨a,h.1,l.get h.2⟩
 ·exact λn v h=>zbp.casesOn h λa t u x e h=>⟨a,t,u,x,e,l.t _ h⟩
 ·exact λms ih v h=>dX.casesOn h λa o n vs e h r k=>⟨a,o,n,vs,e,h,ih vs r,k⟩
 ·exact λn v h=>by
   refine xEE h λa o dh=>?_;refine xEE dh λes ep gd=>?_;refine xEA gd λt e h=>?_;exact ⟨a,o,es,ep,t,e,l.t _ h.1,h.2,h.3,h.4,h.5,h.6⟩
 ·exact λm ms i1 i2 vs h=>He.casesOn h λv r e h h'=>⟨v,r,e,i1 v h,i2 r h'⟩
theorem kM.mono (l:w.le w') (h:kM C w x v):kM C w' x v:=kM.mono' l x v h
def kL.mono (l:w.le w'): ∀ {ms:List aa}{vs:List Value},kL C w ms vs->kL C w' ms vs:=by
 intro ms
 induction ms with
 |nil=>exact λh=>h
 |cons m ms ih=>
  exact λh=>He.casesOn h λv r e h h'=>⟨v,r,e,h.mono l,ih h'⟩
def kL.get: ∀ {ms:List aa}{vs:List Value}{i:Nat}{m:aa},kL C w ms vs->ms[i]?=Qa m-> ∃v,vs[i]?=Qa v/\kM C w m v:=by
 intro ms
 induction ms with
 |nil=>exact λ_ e=>ag e
 |cons m ms ih=>
  intro vs i m' h e;obtain ⟨v,r,rfl,h,h'⟩:=h;cases i with
  |zero=>exact ⟨v,rfl,Qa.inj e▸h⟩
  |succ i=>exact ih (i:=i) h' e
def kL.append {ms':List aa}{vs':List Value} (h':kL C w ms' vs'): ∀ {ms:List aa}{vs:List Value},kL C w ms vs->kL C w (ms++ms') (vs++vs'):=by
 intro ms
 induction ms with
 |nil=>intro vs h;rw [show vs= [] from h];exact h'
 |cons m ms ih=>
  exact λh=>He.casesOn h λv r e h hr=>⟨v,r++vs',congrArg (· ++vs') e,h,ih hr⟩
theorem kM.int? {i:Int}:kM C w x v->x.int?=Qa i-> ∃t,v= .int i t:=
 aa.casesOn (motive_1:=λx=>kM C w x v->x.int?=Qa i-> ∃t,v= .int i t) x (λ_ e=>ag e) (λ_ _ e=>ag e) (λ_ h e=>Qa.inj e▸h) (λ_ _ e=>ag e) (λ_ _ e=>ag e) (λ_ _ e=>ag e) (λ_ _ e=>ag e) (λ_ _ e=>ag e) (λ_ _ e=>ag e) (λ_ _ e=>ag e) (λ_ _ e=>ag e) (λ_ _ e=>ag e)
theorem kM.str? {i:List Nat}:kM C w x v->x.str?=Qa i-> ∃t,v= .str ⟨i.toArray⟩ t/\tx i:=
 aa.casesOn (motive_1:=λx=>kM C w x v->x.str?=Qa i-> ∃t,v= .str ⟨i.toArray⟩ t/\tx i) x (λ_ e=>ag e) (λ_ _ e=>ag e) (λ_ _ e=>ag e) (λ_ h e=>Qa.inj e▸h) (λ_ _ e=>ag e) (λ_ _ e=>ag e) (λ_ _ e=>ag e) (λ_ _ e=>ag e) (λ_ _ e=>ag e) (λ_ _ e=>ag e) (λ_ _ e=>ag e) (λ_ _ e=>ag e)
theorem tup?_s {i:List aa}:x.tup?=Qa i->x= .az i:=
 aa.casesOn (motive_1:=λx=>x.tup?=Qa i->x= .az i) x (λe=>ag e) (λ_ e=>ag e) (λ_ e=>ag e) (λ_ e=>ag e) (λ_ e=>Qa.inj e▸rfl) (λ_ e=>ag e) (λ_ e=>ag e) (λ_ e=>ag e) (λ_ e=>ag e) (λ_ e=>ag e) (λ_ e=>ag e) (λ_ e=>ag e)
theorem ref?_s {i:Nat}:x.ref?=Qa i->x= .ref i:=
 aa.casesOn (motive_1:=λx=>x.ref?=Qa i->x= .ref i) x (λe=>ag e) (λ_ e=>ag e) (λ_ e=>ag e) (λ_ e=>ag e) (λ_ e=>ag e) (λ_ e=>Qa.inj e▸rfl) (λ_ e=>ag e) (λ_ e=>ag e) (λ_ e=>ag e) (λ_ e=>ag e) (λ_ e=>ag e) (λ_ e=>ag e)
theorem top?_s {i:Nat}:x.top?=Qa i->x= .ah i:=
 aa.casesOn (motive_1:=λx=>x.top?=Qa i->x= .ah i) x (λe=>ag e) (λ_ e=>ag e) (λ_ e=>ag e) (λ_ e=>ag e) (λ_ e=>ag e) (λ_ e=>ag e) (λ_ e=>Qa.inj e▸rfl) (λ_ e=>ag e) (λ_ e=>ag e) (λ_ e=>ag e) (λ_ e=>ag e) (λ_ e=>ag e)
theorem ty?_s {i:Nat}:x.ty?=Qa i->x= .ty i:=
 aa.casesOn (motive_1:=λx=>x.ty?=Qa i->x= .ty i) x (λe=>ag e) (λ_ e=>ag e) (λ_ e=>ag e) (λ_ e=>ag e) (λ_ e=>ag e) (λ_ e=>ag e) (λ_ e=>ag e) (λ_ e=>Qa.inj e▸rfl) (λ_ e=>ag e) (λ_ e=>ag e) (λ_ e=>ag e) (λ_ e=>ag e)
theorem bi?_s {i:Nat}:x.bi?=Qa i->x= .bi i:=
 aa.casesOn (motive_1:=λx=>x.bi?=Qa i->x= .bi i) x (λe=>ag e) (λ_ e=>ag e) (λ_ e=>ag e) (λ_ e=>ag e) (λ_ e=>ag e) (λ_ e=>ag e) (λ_ e=>ag e) (λ_ e=>ag e) (λ_ e=>Qa.inj e▸rfl) (λ_ e=>ag e) (λ_ e=>ag e) (λ_ e=>ag e)
theorem fl?_s {i:List aa}:x.fl?=Qa i->x= .fl i:=
 aa.casesOn (motive_1:=λx=>x.fl?=Qa i->x= .fl i) x (λe=>ag e) (λ_ e=>ag e) (λ_ e=>ag e) (λ_ e=>ag e) (λ_ e=>ag e) (λ_ e=>ag e) (λ_ e=>ag e) (λ_ e=>ag e) (λ_ e=>ag e) (λ_ e=>ag e) (λ_ e=>Qa.inj e▸rfl) (λ_ e=>ag e)
theorem bool?_s {i:Bool}:x.bool?=Qa i->x= .bool i:=
 aa.casesOn (motive_1:=λx=>x.bool?=Qa i->x= .bool i) x (λe=>ag e) (λ_ e=>Qa.inj e▸rfl) (λ_ e=>ag e) (λ_ e=>ag e) (λ_ e=>ag e) (λ_ e=>ag e) (λ_ e=>ag e) (λ_ e=>ag e) (λ_ e=>ag e) (λ_ e=>ag e) (λ_ e=>ag e) (λ_ e=>ag e)
theorem rng?_s {i:Int}:x.rng?=Qa i->x= .gf i:=
 aa.casesOn (motive_1:=λx=>x.rng?=Qa i->x= .gf i) x (λe=>ag e) (λ_ e=>ag e) (λ_ e=>ag e) (λ_ e=>ag e) (λ_ e=>ag e) (λ_ e=>ag e) (λ_ e=>ag e) (λ_ e=>ag e) (λ_ e=>ag e) (λ_ e=>Qa.inj e▸rfl) (λ_ e=>ag e) (λ_ e=>ag e)
theorem LA:x.isNone=Qf->x= .none:=
 aa.casesOn (motive_1:=λx=>x.isNone=Qf->x= .none) x (λ_=>rfl) (λ_=>λh=>JI h) (λ_=>λh=>JI h) (λ_=>λh=>JI h) (λ_=>λh=>JI h) (λ_=>λh=>JI h) (λ_=>λh=>JI h) (λ_=>λh=>JI h) (λ_=>λh=>JI h) (λ_=>λh=>JI h) (λ_=>λh=>JI h) (λ_=>λh=>JI h)
theorem list?_s {o:ae}{i:List aa}:o.list?=Qa i->o= .list i:=
 ae.casesOn (motive:=λo=>o.list?=Qa i->o= .list i) o (λ_ e=>Qa.inj e▸rfl) (λ_ _ e=>ag e) (λ_ _ e=>ag e)
theorem dict?_s {o:ae}{i:Option Nat×List (aa×aa)}:o.dict?=Qa i->o= .dict i.1 i.2:=
 ae.casesOn (motive:=λo=>o.dict?=Qa i->o= .dict i.1 i.2) o (λ_ e=>ag e) (λ_ _ e=>Qa.inj e▸rfl) (λ_ _ e=>ag e)
theorem inst?_s {o:ae}{i:Nat×List (Nat×aa)}:o.inst?=Qa i->o= .inst i.1 i.2:=
 ae.casesOn (motive:=λo=>o.inst?=Qa i->o= .inst i.1 i.2) o (λ_ e=>ag e) (λ_ _ e=>ag e) (λ_ _ e=>Qa.inj e▸rfl)
end
inductive zbv (n:Nat) (P:Value->Prop) (R:List Qh->Prop) (es:List Qh):Prop
 |mk (x:Str) (t:Tok) (hsh:Int) (v:Value) (r:List Qh) (e:es=⟨hsh,.str x t,v⟩::r) (nm:kQ x=Qf) (en:ez x=n) (h:P v) (t:R r):zbv n P R es
def uC (C:ax) (w:Wd):List (Nat×aa) ->List Qh->Prop
 | []=>λes=>es= []
 |p::fs=>λes=>zbv p.1 (kM C w p.2) (uC C w fs) es
def uC.mono {C:ax}{w w':Wd} (l:w.le w'): ∀ {fs:List (Nat×aa)}{es:List Qh},uC C w fs es->uC C w' fs es:=by
 intro fs
 induction fs with
 |nil=>exact λh=>h
 |cons p fs ih=>
  exact λh=>zbv.casesOn h λx t hsh v r e h1 h2 h3 h4=>⟨x,t,hsh,v,r,e,h1,h2,h3.mono l,ih h4⟩
set_option genInjectivity true in
inductive ak where
 |i (n:Int)
 |s (x:Str)
 deriving DecidableEq
def ak.val (a:ak):aa:=ak.casesOn (motive:=λ_=>aa) a .int (λx=> .str x.cps.toList)
def ak.is (a:ak) (v:Value):Bool:=ak.casesOn (motive:=λ_=>Bool) a (λn=>qbk n v) (λx=>Value.isStrOf x v)
def ak.hash (w:Qn) (a:ak):Int:=ak.casesOn (motive:=λ_=>Int) a hashInt (λx=>hashStr w x)
def ak.inj (v:Value) (a b:ak) (ha:a.is v=Qf) (hb:b.is v=Qf):a=b:=by
 cases a with
 |i n=>
  cases b with
  |i k=>rw [Value.isInt_inj v _ _ ha hb]
  |s y=>obtain ⟨t,rfl⟩:=Km ha;cases hb
 |s x=>
  cases b with
  |i k=>obtain ⟨t,rfl⟩:=Km hb;cases ha
  |s y=>rw [Value.isStrOf_inj v _ _ ha hb]
def ak.uh (k:ak) (v:Value) (h:k.is v=Qf):carriedByValue v=true:=by
 cases k with
 |i n=>obtain ⟨t,rfl⟩:=Km h;rfl
 |s x=>obtain ⟨t,rfl⟩:=Kl h;rfl
def ak.pyHash {prog:Qt}{w:Qn}{A:Qo}{E:Value->Qe->Prop}{s:Qe}{k:ak}{v:Value}{Q:Int->Qe->Prop} (hv:k.is v=Qf) (h:Q (k.hash w) {s with toks:=s.toks+1}):Qj (model prog w) A (PySem.pyHash v) Q E s:=by
 cases k with
 |i n=>obtain ⟨t,rfl⟩:=Km hv;exact wpAny_pyHash_int h
 |s x=>obtain ⟨t,rfl⟩:=Kl hv;exact wpAny_pyHash_str h
def ak.eqBool {prog:Qt}{w:Qn}{A:Qo}{E:Value->Qe->Prop}{s:Qe}{a b:ak}{u v:Value}{Q:Bool->Qe->Prop} (hu:a.is u=Qf) (hv:b.is v=Qf) (h:Q (decide (a=b)) s):Qj (model prog w) A (PySem.eqBool u v) Q E s:=by
 cases a with
 |i n=>
  obtain ⟨t,rfl⟩:=Km hu;cases b with
  |i k=>
   obtain ⟨u,rfl⟩:=Km hv;refine wpAny_eqBool_int ?_;simp only [ak.i.injEq] at h
   first|exact h|(simp only [beq_eq_decide];exact h)
  |s y=>
   obtain ⟨u,rfl⟩:=Kl hv;exact SeqAt.EqAt.int_str _ _ _ _ _ _ _ _ (by simpa using h)
 |s x=>
  obtain ⟨t,rfl⟩:=Kl hu;cases b with
  |i k=>
   obtain ⟨u,rfl⟩:=Km hv;exact SeqAt.EqAt.str_int _ _ _ _ _ _ _ _ (by simpa using h)
  |s y=>
   obtain ⟨u,rfl⟩:=Kl hv;exact wpAny_eqBool_str (by simpa using h)
def ak.tw (k:ak) (x:Str) (t:Tok) (v:Value) (h:k.is (.str x t)=Qf):k.is v=v.isStr x:=by
 cases k with
 |i n=>cases h
 |s y=>
  have h':(x==y)=true:=h;rw [beq_iff_eq] at h';refine eqE h' ?_;cases v<;>rfl
def lM (prog:Qt) (w:Qn):KeyKind prog w ak:=
 ⟨ak.is,ak.hash w,ak.inj,ak.uh,ak.pyHash,ak.eqBool,ak.tw⟩
def ak.ok (a:ak):Prop:=ak.casesOn (motive:=λ_=>Prop) a (λ_=>True) (λx=>tx x.cps.toList)
structure DA (C:ax) (w:Wd) (mes:List (aa×aa)) (es:List Qh) (kvs:List (ak×Value)):Prop where
 p:Pairs (lM C.prog C.w) es kvs
 k:KeysOf (lM C.prog C.w) es.toArray
 n:(kvs.map (·.1)).Nodup
 e:mes.map (·.1)=kvs.map (λp=>p.1.val)
 ok: ∀p∈kvs,p.1.ok
 r:kL C w (mes.map (·.2)) (kvs.map (·.2))
structure DT (C:ax) (w:Wd) (mes:List (aa×aa)) (es:List Qh) (xs:List (List ak×Qi×Value)):Prop where
 es:es=xs.map (entryOfKey (tupleKind (lM C.prog C.w)))
 n:(xs.map (·.1)).Nodup
 v: ∀x∈xs,kM C w (.az (x.1.map ak.val)) (.ref x.2.1)
 e:mes.map (·.1)=xs.map (λx=>aa.az (x.1.map ak.val))
 r:kL C w (mes.map (·.2)) (xs.map (·.2.2))
def rM (C:ax) (w:Wd) (mes:List (aa×aa)) (es:List Qh):Prop:=(∃kvs,DA C w mes es kvs)\/∃xs,DT C w mes es xs
theorem rM.mono {C:ax}{w w':Wd} (l:w.le w') {mes:List (aa×aa)}{es:List Qh} (h:rM C w mes es):rM C w' mes es:=
 h.imp (λ⟨kvs,D⟩=>⟨kvs,D.p,D.k,D.n,D.e,D.ok,D.r.mono l⟩) λ⟨xs,D⟩=>⟨xs,D.es,D.n,λx hx=>(D.v x hx).mono l,D.e,D.r.mono l⟩
inductive zbs (C:ax) (w:Wd) (a:Qi) (mvs:List aa) (en:bt):Prop
 |mk (vs:List Value) (n:Nat) (e:en= [(a,listOf vs.toArray n)]) (r:kL C w mvs vs) (l:mvs.length<=bh):zbs C w a mvs en
inductive zbx (C:ax) (w:Wd) (a:Qi) (ep:Option Nat) (mes:List (aa×aa)) (en:bt):Prop
 |mk (es:List Qh) (n:Nat) (e:en= [(a,Ql es n)]) (hep: ∀e,ep=Qa e->n=e) (d:rM C w mes es) (l:mes.length<=bh):zbx C w a ep mes en
inductive zbt (C:ax) (w:Wd) (a:Qi) (id:Nat) (fs:List (Nat×aa)) (en:bt):Prop
 |mk (c dx:Qi) (es:List Qh) (n:Nat) (e:en= [(a,instObj c dx),(dx,Ql es n)]) (hc:C.ad.lookup id=Qa c) (f:uC C w fs es) (l:fs.length<=500):zbt C w a id fs en
def u9 (C:ax) (w:Wd) (a:Qi) (o:ae):bt->Prop:=ae.casesOn (motive:=λ_=>bt->Prop) o
 (zbs C w a) (zbx C w a) (zbt C w a)
theorem u9.mono {C:ax}{w w':Wd} (l:w.le w') {a:Qi}{o:ae}{en:bt}:u9 C w a o en->u9 C w' a o en:=
 ae.casesOn (motive:=λo=>u9 C w a o en->u9 C w' a o en) o
  (λ_ h=>zbs.casesOn h λvs n e h k=> .mk vs n e (h.mono l) k) (λ_ _ h=>zbx.casesOn h λes n e h h' k=> .mk es n e h (h'.mono l) k) (λ_ _ h=>zbt.casesOn h λc dx es n e h h' k=> .mk c dx es n e h (h'.mono l) k)
inductive IU (P:ae->bt->Prop) (R:MH->List bt->Prop) (H:MH) (os:List bt):Prop
 |mk (o:ae) (H':MH) (en:bt) (os':List bt) (e1:H=o::H') (e2:os=en::os') (h:P o en) (t:R H' os'):IU P R H os
def s7 (C:ax) (w:Wd):List Qi->MH->List bt->Prop
 | []=>λH os=>H= []/\os= []
 |a::as=>IU (u9 C w a) (s7 C w as)
def s7.mono {C:ax}{w w':Wd} (l:w.le w'): ∀ {as:List Qi}{H:MH}{os:List bt},s7 C w as H os->s7 C w' as H os:=by
 intro as
 induction as with
 |nil=>exact λh=>h
 |cons a as ih=>
  exact λh=>IU.casesOn h λo H' en os' e1 e2 h r=>⟨o,H',en,os',e1,e2,h.mono l,ih r⟩
def s7.ym {C:ax}{w:Wd}{a:Qi}{o:ae}{en:bt} (h':u9 C w a o en): ∀ {as:List Qi}{H:MH}{os:List bt},s7 C w as H os->s7 C w (as++ [a]) (H++ [o]) (os++ [en]):=by
 intro as
 induction as with
 |nil=>
  exact λh=>⟨o,[],en,[],congrArg (· ++ [o]) h.1,congrArg (· ++ [en]) h.2,h',rfl,rfl⟩
 |cons b as ih=>
  exact λh=>IU.casesOn h λo1 H' en1 os' e1 e2 h r=>⟨o1,H'++ [o],en1,os'++ [en],congrArg (· ++ [o]) e1,congrArg (· ++ [en]) e2,h,ih r⟩
def s7.length {C:ax}{w:Wd}: ∀ {as:List Qi}{H:MH}{os:List bt},s7 C w as H os->as.length=H.length:=by
 intro as
 induction as with
 |nil=>exact λh=>congrArg Z5 h.1.symm
 |cons b as ih=>exact λh=>IU.casesOn h λo1 H' en1 os' e1 _ _ r=>(congrArg ZQ (ih r)).trans (congrArg Z5 e1.symm)
inductive Rn (C:ax) (w:Wd) (as:List Qi) (i:Nat) (a:Qi) (o:ae) (H:MH) (os:List bt):Prop
 |mk (pre:List bt) (en:bt) (post:List bt) (e:os=pre++en::post) (r:u9 C w a o en) (g: ∀o' en',u9 C w a o' en'->s7 C w as (H.set i o') (pre++en'::post)):Rn C w as i a o H os
def s7.at {C:ax}{w:Wd}{a:Qi}{o:ae}: ∀ {as:List Qi}{i:Nat}{H:MH}{os:List bt},s7 C w as H os->as[i]?=Qa a->H[i]?=Qa o->
  Rn C w as i a o H os:=by
 intro as
 induction as with
 |nil=>exact λ_ e=>ag e
 |cons b as ih=>
  intro i H os h ha ho;obtain ⟨o1,H',en1,os',rfl,rfl,h,r⟩:=h;cases i with
  |zero=>
   refine mP ha ?_;refine mP ho ?_;exact ⟨[],en1,os',rfl,h,λo' en' h'=>⟨o',H',en',os',rfl,rfl,h',r⟩⟩
  |succ i=>
   obtain ⟨pre,en,post,rfl,hr,k⟩:=ih (i:=i) r ha ho;exact ⟨en1::pre,en,post,rfl,hr,λo' en' h'=>⟨o1,_,en1,_,rfl,rfl,h,k o' en' h'⟩⟩
structure Kp where
 ce:bt
 ex:bt
 m:Str->Option Value
def bt.nd (l:bt):Prop:=(l.map (·.1)).Nodup
theorem bt.nd.jh {a b:bt} (p:a.Perm b) (h:bt.nd a):bt.nd b:=(p.map λq:Qi×Obj=>q.1).nodup_iff.mp h
def Kp.all (k:Kp) (w:Wd) (os:List bt):bt:=os.flatten++(w.tp++(k.ce++k.ex))
inductive yb (C:ax) (h₀:Qs) (L:Qi) (k:Kp) (w:Wd) (H:MH) (h:Qs):Prop
 |mk (os:List bt) (he:s7 C w w.σ H os) (hn:News h₀ L h (k.all w os)) (hd:bt.nd (k.all w os)):yb C h₀ L k w H h
structure cg (C:ax) (h₀:Qs) (L:Qi) (k:Kp) (w:Wd) (H:MH) (h:Qs):Prop where
 fr:Fr h₀ L h k.m
 os:yb C h₀ L k w H h
 pb:4<=h₀.objs.size
 lo: ∀a∈w.σ,4<=a
def wG {d:Qi}{o o':Obj}{post:bt}: ∀ {pre:bt},bt.nd (pre++(d,o)::post) ->Upd d o o' (pre++(d,o)::post) (pre++(d,o')::post):=by
 intro pre
 induction pre with
 |nil=>exact λh=> .head λp hp e=>(JN.mp h).1 (JO.mpr ⟨p,hp,e⟩)
 |cons q pre ih=>exact λh=> .tail (λe=>(JN.mp h).1 (JO.mpr ⟨(d,o),JV _ (.head _),e.symm⟩)) (ih (JN.mp h).2)
section
variable {C:ax}{h₀:Qs}{L:Qi}{k:Kp}{w:Wd}{H:MH}{h:Qs}
theorem cg.len (S:cg C h₀ L k w H h):w.σ.length=H.length:=yb.casesOn S.os λ_ he _ _=>he.length
inductive f5 (C:ax) (h₀:Qs) (L:Qi) (k:Kp) (w:Wd) (H:MH) (h:Qs) (i:Nat) (a:Qi) (o:ae):Prop
 |mk (pre en post:bt) (r:u9 C w a o en) (n:News h₀ L h (pre++(en++post))) (d:bt.nd (pre++(en++post)))
   (g: ∀o' en' h',en'.map (·.1)=en.map (·.1) ->u9 C w a o' en'->Fr h₀ L h' k.m->News h₀ L h' (pre++(en'++post)) ->cg C h₀ L k w (H.set i o') h'):f5 C h₀ L k w H h i a o
def cg.at (S:cg C h₀ L k w H h) {i:Nat}{a:Qi}{o:ae} (ha:w.σ[i]?=Qa a) (ho:H[i]?=Qa o):
  f5 C h₀ L k w H h i a o:=by
 obtain ⟨os,he,hn,hd⟩:=S.os;obtain ⟨pre,en,post,rfl,hr,g⟩:=he.at ha ho;have e: ∀en1:bt,k.all w (pre++en1::post)=pre.flatten++(en1++(post.flatten++(w.tp++(k.ce++k.ex)))):=by
  intro en1;unfold Kp.all;rw [Yx,K4,JH,JH]
 rw [e] at hn hd;refine ⟨pre.flatten,en,_,hr,hn,hd,λo' en' h' hm hr' F N=>⟨F,⟨pre++en'::post,g o' en' hr',(e en').symm▸N,(e en').symm▸?_⟩,S.pb,S.lo⟩⟩;unfold bt.nd at hd ⊢;rw [JY,JY] at hd ⊢;rw [hm];exact hd
def Wa (k:Kp) (w:Wd) (a:Qi) (en:bt) (os:List bt):(en++k.all w os).Perm (k.all ⟨w.σ++ [a],w.tp⟩ (os++ [en])):=by
 delta Kp.all;simp only [Yx,K4,List.flatten_nil,Zv,JH];exact Ky _ _ _
theorem DS (k:Kp) (w:Wd) (p:Qi×Obj) (os:List bt):([p]++k.all w os).Perm (k.all ⟨w.σ,p::w.tp⟩ os):=(YU (a:=p) (l₁:=os.flatten) (l₂:=w.tp++(k.ce++k.ex))).symm
theorem cg.vm (S:cg C h₀ L k w H h) {a:Qi} (ha:4<=a): ∀b∈w.σ++ [a],4<=b:=λb hb=>(J4.mp hb).elim (S.lo b) λhb=>JG.mp hb▸ha
theorem cg.px (S:cg C h₀ L k w H h) {a:Qi} (ha:h.objs.size<=a):4<=a:=Jq S.pb (Jq S.fr.above (Jq (JQ S.fr.ns.lt) ha))
inductive Pn (C:ax) (h₀:Qs) (L:Qi) (k:Kp) (w:Wd) (H:MH) (h:Qs):Prop
 |mk (all:bt) (n:News h₀ L h all)
  (add: ∀ (a:Qi) (o:ae) (en:bt) (h':Qs),u9 C ⟨w.σ++ [a],w.tp⟩ a o en->Fr h₀ L h' k.m->News h₀ L h' (en++all) ->bt.nd en->(∀p∈en,∀q∈all,p.1≠q.1) ->4<=a->cg C h₀ L k ⟨w.σ++ [a],w.tp⟩ (H++ [o]) h')
  (tp: ∀ (a:Qi) (o:Obj) (h':Qs),Fr h₀ L h' k.m->News h₀ L h' ((a,o)::all) ->h.objs.size<=a->cg C h₀ L k ⟨w.σ,(a,o)::w.tp⟩ H h')
  (heap: ∀h':Qs,Fr h₀ L h' k.m->News h₀ L h' all->cg C h₀ L k w H h'):Pn C h₀ L k w H h
def US {en all:bt} (h:bt.nd en) (h':bt.nd all) (hf: ∀p∈en,∀q∈all,p.1≠q.1):bt.nd (en++all):=by
 delta bt.nd;rw [JY,ZR];refine ⟨h,h',λx hx y hy=>?_⟩;obtain ⟨p,hp,rfl⟩:=JO.mp hx;obtain ⟨q,hq,rfl⟩:=JO.mp hy;exact hf p hp q hq
theorem News.gw {all en:bt} (hn:News h₀ L h all) (he: ∀p∈en,h.objs.size<=p.1): ∀p∈en,∀q∈all,p.1≠q.1:=
 λp hp q hq e=>absurd (K5 (hn q hq).1) (ZX.mpr (e▸he p hp))
theorem pC (p:Qi×Obj):bt.nd [p]:=JN.mpr ⟨JB,.nil⟩
def cg.dp (S:cg C h₀ L k w H h):Pn C h₀ L k w H h:=by
 obtain ⟨os,he,hn,hd⟩:=S.os;refine ⟨_,hn,λa o en h' hr F N hen hf h4=>⟨F,⟨os++ [en],s7.ym hr (s7.mono (w:=w) (w':=⟨w.σ++ [a],w.tp⟩) ⟨J5 _ _,λ_ x=>x⟩ he),λp hp=>N p ((Wa k w a en os).mem_iff.mpr hp),bt.nd.jh (Wa k w a en os) (US hen hd hf)⟩,S.pb,S.vm h4⟩,
  λa o h' F N ha=>⟨F,⟨os,s7.mono (w:=w) (w':=⟨w.σ,(a,o)::w.tp⟩) ⟨Yd _,λ_ x=> .tail _ x⟩ he,λp hp=>N p ((DS k w (a,o) os).mem_iff.mpr hp),bt.nd.jh (DS k w (a,o) os) (US (pC _) hd (News.gw hn λp hp=>JG.mp hp▸ha))⟩,S.pb,S.lo⟩,
  λh' F N=>⟨F,⟨os,he,N,hd⟩,S.pb,S.lo⟩⟩
theorem cg.wc (S:cg C h₀ L k w H h) {c:Qi}{o:Obj} (hc:(c,o)∈w.tp):h.get? c=Qa o:=yb.casesOn S.os λ_ _ hn _=>(hn (c,o) (JV _ (Zj _ hc))).1
theorem cg.zq (S:cg C h₀ L k w H h) {c:Qi}{o:Obj} (hc:(c,o)∈k.ce):h.get? c=Qa o:=yb.casesOn S.os λ_ _ hn _=>(hn (c,o) (JV _ (JV _ (Zj _ hc)))).1
theorem cg.c7 (S:cg C h₀ L k w H h) {c:Qi}{o:Obj} (hc:(c,o)∈k.ex):h.get? c=Qa o:=yb.casesOn S.os λ_ _ hn _=>(hn (c,o) (JV _ (JV _ (JV _ hc)))).1
inductive gA (C:ax) (w:Wd) (h:Qs) (v:Value) (mvs:List aa):Prop
 |mk (a:Qi) (vs:List Value) (n:Nat) (e:v= .ref a) (g:h.get? a=Qa (listOf vs.toArray n)) (r:kL C w mvs vs) (l:mvs.length<=bh):gA C w h v mvs
def cg.list (S:cg C h₀ L k w H h) {x:aa}{v:Value}{mvs:List aa} (hv:kM C w x v) (ho:lG H x=Qa mvs):
  gA C w h v mvs:=by
 refine xEA (bs ho) λi e h1=>?_;refine xEA (bs h1) λo hi h2=>?_;cases ref?_s e;cases list?_s h2;obtain ⟨a,rfl,ha⟩:=hv;obtain ⟨pre,en,post,⟨vs,n,rfl,r,l⟩,hn,_,_⟩:=S.at ha hi;exact ⟨a,vs,n,rfl,(hn (a,_) (JV _ (.head _))).1,r,l⟩
end
structure lB (C:ax) (d e:Nat) where
 A:Qo
 h₀:Qs
 L:Qi
 mf:Env
 below: ∃A₀ base outer,Below A₀ base outer h₀/\A.frames=Qa (mf::outer)
 k:C.K.In h₀
 ah: ∃p loose mean mg mb,Top p loose mean mg mb h₀
 frame:mf.frame=Qa L
 kind:mf.scope.kind= .function
 handled:A.handled=Qd
 depth:A.depth+4*d+2+e<=900
 units:A.units+20*d+190+5*e<=9900
def lB.gL {C:ax}{d e:Nat} (Y:lB C d e):lB C d 0:=
 {A:=Y.A,h₀:=Y.h₀,L:=Y.L,mf:=Y.mf,below:=Y.below,k:=Y.k,ah:=Y.ah,frame:=Y.frame,kind:=Y.kind,handled:=Y.handled,depth:=Jq (Jw (JJ e) _) Y.depth,units:=Jq (Jw (JJ _) _) Y.units}
abbrev St {C:ax}{d e:Nat} (Y:lB C d e) (k:Kp) (w:Wd) (H:MH) (s:Qe):Prop:=cg C Y.h₀ Y.L k w H s.heap
structure rI (s s':Qe):Prop where
 g:s'.gens=s.gens
 o:s'.os=s.os
theorem rI.refl (s:Qe):rI s s:=⟨rfl,rfl⟩
theorem rI.trans {a b c:Qe} (x:rI a b) (y:rI b c):rI a c:=⟨y.1.trans x.1,y.2.trans x.2⟩
structure jf {C:ax}{d e:Nat} (Y:lB C d e) (k:Kp) (w w':Wd) (H':MH) (s s':Qe):Prop where
 le:w.le w'
 st:St Y k w' H' s'
 ck:rI s s'
def IW {α β:Type}{C:ax}{d e:Nat} (Y:lB C d e) (k:Kp) (R:Wd->β->α->Prop) (t:Sem α) (w:Wd) (s:Qe) (r:β) (H':MH):Prop:=
 ∀ (Q:α->Qe->Prop) (E:Value->Qe->Prop),(∀w' a s',jf Y k w w' H' s s'->R w' r a->Q a s') ->Qj C.M Y.A t Q E s
def bz {α β:Type}{C:ax}{d e:Nat} (Y:lB C d e) (k:Kp) (R:Wd->β->α->Prop) (t:Sem α) (w:Wd) (s:Qe) (o:Option (β×MH)):Prop:=
 ∀r,o=Qa r->IW Y k R t w s r.1 r.2
section
variable {α β γ δ:Type}{C:ax}{d e:Nat}{Y:lB C d e}{k:Kp}{R:Wd->β->α->Prop}{R':Wd->δ->γ->Prop}{w:Wd}{s:Qe}{t:Sem α}{o:Option (β×MH)}{H:MH}
theorem jf.refl (S:St Y k w H s):jf Y k w w H s s:=⟨.refl w,S,.refl s⟩
theorem jf.toks (S:St Y k w H s) (n:Nat):jf Y k w w H s {s with toks:=n}:=⟨.refl w,S,rfl,rfl⟩
theorem jf.trans {w1 w2:Wd}{H1 H2:MH}{s1 s2:Qe} (a:jf Y k w w1 H1 s s1) (b:jf Y k w1 w2 H2 s1 s2):jf Y k w w2 H2 s s2:=⟨a.le.trans b.le,b.st,a.ck.trans b.ck⟩
theorem bz.none:bz Y k R t w s none:=λ_ h=>ag h
def bz.bind {f:β->MH->Option (δ×MH)}{g:α->Sem γ} (h:bz Y k R t w s o) (hk: ∀w' a s' r H1,jf Y k w w' H1 s s'->R w' r a->bz Y k R' (g a) w' s' (f r H1)):bz Y k R' (t>>=g) w s (cb o f):=by
 intro r' e Q E hq;cases o with
 |none=>exact ag e
 |some p=>exact Qc (h p rfl _ _ λw' a s' n1 r1=>hk w' a s' p.1 p.2 n1 r1 r' e Q E λw2 a2 s2 n2 r2=>hq w2 a2 s2 (n1.trans n2) r2)
def bz.pure' {r:β}{a:α} (S:St Y k w H s) (hr:R w r a):bz Y k R (pure a:Sem α) w s (Qa (r,H)):=by
 intro r' e Q E hq;obtain rfl:=Qa.inj e;exact Qg (hq w a s (.refl S) hr)
def bz.ay {o':Option (β×MH)} (h:bz Y k R t w s o) (h':bz Y k R t w s o'):bz Y k R t w s (ay o o'):=by
 cases o with
 |none=>exact h'
 |some p=>exact h
def bz.au {b:Bool} (h:b=Qf->bz Y k R t w s o):bz Y k R t w s (au b o):=by
 cases b with
 |false=>exact .none
 |true=>exact h rfl
def bz.gj {x:Option γ}{f:γ->Option (β×MH)} (h: ∀a,x=Qa a->bz Y k R t w s (f a)):bz Y k R t w s (x.bind f):=by
 cases x with
 |none=>exact .none
 |some a=>exact h a rfl
def bz.jl {x:Option γ}{f:γ->β×MH} (h: ∀a,x=Qa a->bz Y k R t w s (Qa (f a))):bz Y k R t w s (x.map f):=by
 cases x with
 |none=>exact .none
 |some a=>exact h a rfl
def bz.case {x:Option γ}{f:γ->Option (β×MH)} (h0:x=Qd->bz Y k R t w s o) (h: ∀a,x=Qa a->bz Y k R t w s (f a)):bz Y k R t w s (JF (motive:=λ_=>Option (β×MH)) x o f):=by
 cases x with
 |none=>exact h0 rfl
 |some a=>exact h a rfl
def bz.val {r:β} (S:St Y k w H s) (h: ∀ (Q:α->Qe->Prop) (E:Value->Qe->Prop),(∀a tk,R w r a->Q a {s with toks:=tk}) ->Qj C.M Y.A t Q E s):bz Y k R t w s (Qa (r,H)):=by
 intro r' e Q E hq;obtain rfl:=Qa.inj e;exact h Q E λa tk hr=>hq w a _ (.toks S tk) hr
theorem bz.yk {p:Pos} (h:bz Y k R t w s o):bz Y k R (standAt p>>=λ_=>t) w s o:=λr e Q E hq=>Qc (Qm (h r e Q E hq))
theorem bz.cY {vs:List Value} (h:bz Y k R t w s o):bz Y k R (holding vs t) w s o:=λr e Q E hq=>Qk (h r e Q E hq)
end
abbrev VR (C:ax):Wd->aa->Value->Prop:=λw m v=>kM C w m v
abbrev kD (C:ax):Wd->List aa->List Value->Prop:=λw m v=>kL C w m v
abbrev dZ {α:Type}:Wd->α->α->Prop:=λ_ r a=>a=r
structure rN (C:ax):Prop where
 dH : ∀ id a,C.ad.lookup id = Qa a -> ∃ o,C.K.lookup a = Qa o /\ o.cls ≠ .type "tuple"
 zv: ∀i j a,C.ad.lookup i=Qa a->C.ad.lookup j=Qa a->i=j
 ow: ∀b,b<4-> ∃o,C.K.lookup b=Qa o
def gD (C : ax) (p : Str × aa) (rv : Value) : Prop := (∀ w,kM C w p.2 rv) /\ (nsIn C.K mainGlobals p.1 = Qa (Qa rv) \/ (nsIn C.K mainGlobals p.1 = Qa Qd /\ p.1 ≠ "__name__" /\ bootBuiltins p.1 = Qa rv))
def IT (C:ax) (gl:List (Str×aa)):Prop:= ∀x v,gl.lookup x=Qa v-> ∃rv,gD C (x,v) rv
def xC:Nat:=200000
def ax.cx (C:ax) (d:Nat):Cx:=⟨C.P,xC,nH C.P xC d⟩
def oj (o:Obj) (m:Str->Option Value):Prop:= ∃es ep,o.data= .dict es ep/\StrKeys es/\∀name,nsFind es name=m name
structure aD (cx:CC) (env:Env) (L:Qi) (k:Kp) (mE:Str->Option Value):Prop where
 kind:env.scope.kind= .function
 gl:env.globals=mainGlobals
 bl:env.builtins=builtinsNs
 sc:env.scope.names=cx.sc
 cells: ∀x,cx.sc.lookup x=Qa .cell-> ∃c o v₀,env.cells.lookup x=Qa c/\(c,o)∈k.ce/\o.data= .cell v₀
 jz:(env.locals=L/\mE=k.m)\/∃o,(env.locals,o)∈k.ex/\oj o mE
inductive Dg (C:ax) (w:Wd) (cx:CC) (env:Env) (ce:bt) (mE:Str->Option Value) (x:Str) (v:aa):Prop
 |jz (rv:Value) (k:cx.sc.lookup x=Qa .local) (e:mE x=Qa rv) (r:kM C w v rv):Dg C w cx env ce mE x v
 |cell (rv:Value) (c:Qi) (o:Obj) (k:cx.sc.lookup x=Qa .cell) (e:env.cells.lookup x=Qa c) (m:(c,o)∈ce) (h:o.data= .cell (Qa rv)) (r:kM C w v rv):Dg C w cx env ce mE x v
theorem Dg.mono {C:ax}{w w':Wd} (l:w.le w') {cx:CC}{env:Env}{ce:bt}{mE:Str->Option Value}{x:Str}{v:aa} (h:Dg C w cx env ce mE x v):Dg C w' cx env ce mE x v:=
 Dg.casesOn h (λrv a b r=> .jz rv a b (r.mono l)) (λrv c o a b m h r=> .cell rv c o a b m h (r.mono l))
def zdJ (C:ax) (w:Wd) (cx:CC) (env:Env) (ce:bt) (mE:Str->Option Value) (fr:Frame):Prop:=
 ∀x i v,oK cx x=Qa i->fr[i]?=Qa (Qa v) ->Dg C w cx env ce mE x v
structure Pl {C:ax}{d e:Nat} (Y:lB C d e) (cx:CC) (env:Env) (k:Kp) (mE:Str->Option Value) (fr:Frame) (w:Wd) (H:MH) (s:Qe):Prop where
 b:aD cx env Y.L k mE
 f:zdJ C w cx env k.ce mE fr
 st:St Y k w H s
theorem Pl.next {C:ax}{d e:Nat}{Y:lB C d e}{cx:CC}{env:Env}{k:Kp}{mE:Str->Option Value}{fr:Frame}{w w':Wd}{H H':MH}{s s':Qe} (p:Pl Y cx env k mE fr w H s) (n:jf Y k w w' H' s s'):Pl Y cx env k mE fr w' H' s':=
 ⟨p.b,λx i v a b=>(p.f x i v a b).mono n.le,n.st⟩
def nI (C:ax) (d:Nat) (cx:CC) (e:Expr) (ir:Ex):Prop:=
 ∀ (Y:lB C d 2) (env:Env) (k:Kp) (mE:Str->Option Value) (fr:Frame) (w:Wd) (H:MH) (s:Qe),Pl Y cx env k mE fr w H s->bz Y k (VR C) (PySem.eval e env) w s (eval (C.cx d) ir fr H)
def zF (C:ax) (d:Nat) (cx:CC) (e:Expr) (ir:Ex):Prop:=
 ∀ (Y:lB C d 2) (env:Env) (k:Kp) (mE:Str->Option Value) (fr:Frame) (w:Wd) (H:MH) (s:Qe),Pl Y cx env k mE fr w H s->bz Y k dZ (PySem.isTrue e env (PySem.eval e env)) w s (mX (eval (C.cx d) ir fr H))
section
variable {C:ax}{d e:Nat}{Y:lB C d e}{k:Kp}{w:Wd}{H:MH}{s:Qe}{cx:CC}{env:Env}{mE:Str->Option Value}{fr:Frame}
theorem cg.mz {h:Qs} (S:cg C Y.h₀ Y.L k w H h):C.K.In h:=Y.k.keeps S.fr.keep
def aD.ns (B:aD cx env Y.L k mE) (S:St Y k w H s):s.heap.Ns env.locals mE:=by
 rcases B.jz with h| ⟨o,ho,es,ep,h⟩
 ·simp only [h.1,h.2];exact S.fr.ns
 ·exact ⟨o,es,ep,S.c7 ho,h⟩
def Bj {x:List Nat} (h:Sj x=Qf):tx x:=by
 have h:=Jr.mp h;exact ⟨λc hc=>Zd.mp (ZD.mp h.1 c hc),Zd.mp h.2⟩
def A4 {c:Const}{n:Nat}{pos:Pos}{v:aa} (hc:Ic c=Qa v):nI C d cx (.Constant c n pos) (.lit v):=by
 intro Y env k mE fr w H s p;refine .val p.st λQ E q=>?_;cases c with
 |none=>obtain rfl:=Qa.inj hc;exact Qg (q _ s.toks rfl)
 |bool b=>obtain rfl:=Qa.inj hc;exact Qg (q _ s.toks rfl)
 |int i=>obtain rfl:=Qa.inj hc;exact λ_ _ _=>q _ _ ⟨_,rfl⟩
 |str x=>
  obtain ⟨h,e⟩:=gs hc;obtain rfl:=Qa.inj e;exact λ_ _ _=>q _ _ ⟨_,by rw [Array.toArray_toList],Bj h⟩
 |_=>exact ag hc
def wR {x : Str} (h : kQ x = Qf) : (x == ("__debug__" : Str)) = false := by
 have h1:=(Jr.mp (Jr.mp (Jr.mp (Jr.mp h).1).1).1).2;cases hx : (x == ("__debug__" : Str)) with
 |false=>rfl
 | true => rw [show (x != ("__debug__" : Str)) = !(x == ("__debug__" : Str)) from rfl,hx] at h1; cases h1
def aD.kindOf (B:aD cx env Y.L k mE) {x:Str}{n:Qx} (h:cx.sc.lookup x=Qa n):env.kindOf x=Qa n:=by unfold Env.kindOf;rw [B.sc];exact h
def MP {x:Str}{pos:Pos}{i:Nat} (hx:kQ x=Qf) (hi:oK cx x=Qa i):nI C d cx (.Name x pos) (.var i):=by
 intro Y env k mE fr w H s p;refine .gj λov ho=> .jl λv hv=> .val p.st λQ E q=>wpAny_Name ?_ (wR hx);subst hv;cases p.f x i v hi ho with
 |jz rv hk e r=>exact wpAny_loadName_local p.b.kind (p.b.kindOf hk) (p.b.ns p.st) e (q rv s.toks r)
 |cell rv c o hk e m h r=>exact wpAny_loadName_cell p.b.kind (p.b.kindOf hk) e ⟨o,p.st.zq m,h⟩ (q rv s.toks r)
def F8 (G:IT C cx.gl) {x:Str}{pos:Pos}{v:aa} (hx:kQ x=Qf) (hk:cx.sc.lookup x=Qa .globalImplicit) (hg:cx.gl.lookup x=Qa v):nI C d cx (.Name x pos) (.lit v):=by
 intro Y env k mE fr w H s p;refine .val p.st λQ E q=>?_;refine (G x v hg).elim λrv zq9=>?_;have hn:=zq9.2;refine xEE Y.ah λ_ _ dh=>?_;refine xEE dh λ_ mg gd=>?_;refine xE gd λmb T=>?_;have q:=q rv s.toks (zq9.1 w);refine Name_function_global p.b.kind (p.b.kindOf hk) ?_ (wR hx);have tg:=T.g.keeps p.st.fr.keep;rw [<-p.b.gl] at tg;rcases hn with hn| ⟨hn,hne,hb⟩
 ·exact loadGlobal_global tg (mg_of Y.k T.g hn) q
 ·have tb:=T.b.keeps p.st.fr.keep
  rw [<-p.b.bl] at tb;exact loadGlobal_builtin tg (mg_none_of Y.k T.g hn) tb ((T.builtins x hne).trans hb) q
def GY {x:Str}{pos:Pos}{ir:Ex} (G:IT C cx.gl) (hc:BZ cx x=Qa ir):nI C d cx (.Name x pos) ir:=by
 obtain ⟨hx,hc⟩:=gs hc;refine DW (oK cx x) (λhv=>?_) λi hv=>?_
 ·rw [hv] at hc
  obtain ⟨hk,hc⟩:=gs hc;refine (ms hc).elim λv zq1=>?_;refine eqE zq1.2 ?_;exact F8 G hx (beq_iff_eq.mp hk) zq1.1
 ·rw [hv] at hc
  refine mP hc ?_;exact MP hx hv
def Hh {M:Jn}{A:Qo}{operands:List Value}{t:Sem Value}{Q:Value->Qe->Prop}{E:Value->Qe->Prop} (h:Qj M A t Q E s):Qj M A (operate operands t) Q E s:=by
 delta operate;exact Qc (Qk (Qr h (λr s' q=>Qc (wpAny_release (Qg q))) λ_ _ x=>x))
theorem bz.operate {operands:List Value}{t:Sem Value}{o:Option (aa×MH)} (h:bz Y k (VR C) t w s o):bz Y k (VR C) (operate operands t) w s o:=λr e Q E hq=>Hh (h r e Q E hq)
end
section
variable {C:ax}{d e:Nat}{Y:lB C d e}{k:Kp}{w:Wd}{H:MH}{s:Qe}{cx:CC}{env:Env}{mE:Str->Option Value}{fr:Frame}
def mZ:bh<=sizeLine:=by decide+kernel
theorem tF {n:Nat} (h:n<=bh):(n:Int)<2 ^ 63:=Int.lt_of_le_of_lt (Yi.mpr h) (by decide)
def bz.yu {t:Sem Value}{mvs:List aa}{vs:List Value} (S:St Y k w H s) (r:kL C w mvs vs) (hl:mvs.length<=bh)
  (h: ∀ (Q:Value->Qe->Prop) (E:Value->Qe->Prop) all,News Y.h₀ Y.L s.heap all->(∀h' tk,Fr Y.h₀ Y.L h' k.m->News Y.h₀ Y.L h' ((s.heap.objs.size,listOf vs.toArray 0)::all) ->Q (.ref s.heap.objs.size) {s with heap:=h',toks:=tk}) ->Qj C.M Y.A t Q E s):
  bz Y k (VR C) t w s (lZ H (.list mvs)):=by
 intro r' er Q E hq;obtain rfl:=Qa.inj er;obtain ⟨all,hn,add,_,_⟩:=S.dp;exact h Q E all hn λh' tk F N=>hq _ _ _ ⟨(⟨J5 _ _,λ_ x=>x⟩:w.le ⟨w.σ++ [s.heap.objs.size],w.tp⟩),add _ (.list mvs) [_] h' ⟨vs,0,rfl,r.mono (⟨J5 _ _,λ_ x=>x⟩:w.le ⟨w.σ++ [s.heap.objs.size],w.tp⟩),hl⟩ F N (pC _) (News.gw hn λp hp=>JG.mp hp▸JA _) (S.px (JA _)),rfl,rfl⟩ ⟨_,rfl,by rw [<-S.len];exact Zi⟩
def Nb {mvs:List aa}{vs:List Value} (r:kL C w mvs vs) (n:Nat):kL C w (JU n mvs).flatten (JU n vs).flatten:=by
 induction n with
 |zero=>exact .nil
 |succ n ih=>exact ih.append r
def Nd {α:Type} (vs:List α) (k:Nat): ∀acc:Array α,(List.foldl (λx1 x2=>x1++x2) acc (JU k vs.toArray))=acc++(JU k vs).flatten.toArray:=by
 induction k with
 |zero=>intro acc;exact (Array.append_empty).symm
 |succ k ih=>
  intro acc;refine (ih _).trans ?_;simp only [qay,K4,Array.append_assoc,qaz]
def Nc {α:Type} (n:Nat) (vs:List α):(JU (if vs.toArray.isEmpty=Qf then 0 else n) vs).flatten=(JU n vs).flatten:=by
 cases vs with
 |nil=>simp
 |cons v r=>rfl
def Oo {α:Type}{n:Nat}{s:List α}:(JU n s).flatten.length=s.length*n:=by rw [List.length_flatten,YF,List.sum_replicate_nat,Xo]
theorem MG (a b:List Nat):((⟨a.toArray⟩:Str)++(⟨b.toArray⟩:Str))=⟨(a++b).toArray⟩:=congrArg Str.mk (qaz a b)
def M5 {x y:aa}{a b:Value} (S:St Y k w H s) (ha:kM C w x a) (hb:kM C w y b):bz Y k (VR C) (binaryOp .Add a b) w s (Rf H x y):=by
 refine .ay (.gj λi hi=> .gj λj hj=>?_) (.ay (.gj λi hi=> .gj λj hj=> .au λhl=>?_) (.gj λi hi=> .gj λj hj=> .au λhl=>?_))
 ·obtain ⟨t,rfl⟩:=ha.int? hi
  obtain ⟨u,rfl⟩:=hb.int? hj;exact .val S λQ E q=>add_int (q _ _ ⟨_,rfl⟩)
 ·refine (ha.str? hi).elim λt zq18=>?_
  refine eqB zq18.1 ?_;refine (hb.str? hj).elim λu zq17=>?_;refine eqB zq17.1 ?_;have hl:=Zd.mp hl;exact .val S λQ E q=>add_str (λt' tk=>q _ tk ⟨t',congrArg (KQ · t') (MG i j),λc hc=>(J4.mp hc).elim (zq18.2.1 c) (zq17.2.1 c),by rw [Jz];exact hl⟩) (Jq hl mZ)
 ·obtain ⟨a1,vs,n,rfl,g1,r1,l1⟩:=S.list ha hi
  obtain ⟨a2,ws,n2,rfl,g2,r2,l2⟩:=S.list hb hj;have hl:=Zd.mp hl;refine .yu S (r2.append r1) (by rw [Jz];exact hl) λQ E all hn q=>add_arrays S.fr hn ⟨_,g1,rfl,_,rfl⟩ ⟨_,g2,rfl,_,rfl⟩ (λh' F N=>q h' _ F N) ?_;simp only [Zo,Zo,<-r1.length,<-r2.length];exact Jq hl mZ
def W7 {a:Int}{b:Nat} (h:a.natAbs<2 ^ b):qaA a<=b+1:=by
 delta qaA;split
 ·exact JJ _
 ·rename_i h0
  exact Zp ((qbl λe=>h0 (by rw [qaJ.mp e];rfl)).mpr h)
def zam {a b:Int} (h:Lq a b=Qf):IntMulOk a b:=by
 have h:=Jr.mp h;have h1:=W7 (Zd.mp h.1);have h2:=W7 (Zd.mp h.2);delta IntMulOk;rw [ZY,not_and];intro _;delta Builtin.Int.intTooBig;rw [decide_eq_true_eq,show bitsLine=134217728 by decide+kernel];lia
def Nf {l:Nat}{n:Int} (h:G8 l n=Qf):n<=1000000/\ -1000000<=n/\l*n.toNat<=bh:=by
 have h:=Jr.mp h;exact ⟨of_decide_eq_true (Jr.mp h.1).1,of_decide_eq_true (Jr.mp h.1).2,Zd.mp h.2⟩
def MS {x y:aa}{a b:Value} (S:St Y k w H s) (ha:kM C w x a) (hb:kM C w y b):bz Y k (VR C) (binaryOp .Mult a b) w s (Lp H x y):=by
 refine .ay (.gj λi hi=> .gj λj hj=> .au λhl=>?_) (.ay (.gj λi hi=> .gj λj hj=>?_) (.gj λi hi=> .gj λj hj=> .au λhl=>?_))
 ·obtain ⟨t,rfl⟩:=ha.int? hi
  obtain ⟨u,rfl⟩:=hb.int? hj;exact .val S λQ E q=>mul_int (q _ _ ⟨_,rfl⟩) (zam hl)
 ·obtain ⟨t,rfl⟩:=ha.int? hi
  cases bool?_s hj;subst hb;exact .val S λQ E q=>IntBool.mul_int_bool (q _ _ ⟨_,rfl⟩)
 ·obtain ⟨u,rfl⟩:=hb.int? hj
  obtain ⟨a1,vs,n,rfl,g1,r1,l1⟩:=S.list ha hi;refine xAA (Nf hl) λh1 h2 h3=>?_;refine .yu S (Nb r1 j.toNat) (by rw [Oo];exact h3) λQ E all hn q=>mul_list S.fr hn g1 (by lia) (by lia) ?_ λh' F N=>q h' _ F ?_
  ·rw [Zo,<-r1.length];exact Jq h3 (by decide)
  ·have e:=Nd vs (if vs.toArray.isEmpty=Qf then 0 else j.toNat) #[]
   rw [Array.empty_append,Nc] at e;exact (e).symm▸N
def Ed {x y:Int} (h:y.natAbs<ji):Builtin.divisionGoesByPylong x y=false:=by
 delta Builtin.divisionGoesByPylong
 have:(if (y==0)=Qf then 0 else y.natAbs.log2 / 30+1)<=300:=by
  split
  ·exact JJ _
  ·rename_i hz
   have:=(qbl λe=>hz (by rw [qaJ.mp e];rfl)).mpr h
   lia
 simp only [qal,decide_eq_false_iff_not];exact .inl (ZE this)
theorem P8 {b:Int} (h:(b !=0)=Qf): ¬b=0:=bne_iff_ne.mp h
def A7 {op:Ji}{o:ik} (ho:Ao op=Qa o) {x y:Int}{t u:Tok}{z:Int} (S:St Y k w H s) (e:L6 o x y=Qa z):bz Y k (VR C) (binaryOp op (.int x t) (.int y u)) w s (Qa (.int z,H)):=by
 refine .val S λQ E q=>?_;cases op<;>cases ho
 ·exact ag e
 ·cases e;exact sub_int (q _ _ ⟨_,rfl⟩)
 ·exact ag e
 ·obtain ⟨h,e⟩:=gs e
  cases e;exact mod_int' (P8 h) (q _ _ ⟨_,rfl⟩)
 ·exact ag e
 ·obtain ⟨h,e⟩:=gs e
  cases e;exact floordiv_int (P8 (Jr.mp h).1) (q _ _ ⟨_,rfl⟩) (.inl (Ed (Zd.mp (Jr.mp h).2)))
def A6 {op:Ji}{o:ik} (ho:Ao op=Qa o) {x y:aa}{a b:Value} (S:St Y k w H s) (ha:kM C w x a) (hb:kM C w y b):bz Y k (VR C) (binaryOp op a b) w s (pJ o x y H):=by
 refine .ay (.gj λi hi=> .gj λj hj=> .jl λz hz=>?_) ?_
 ·obtain ⟨t,rfl⟩:=ha.int? hi
  obtain ⟨u,rfl⟩:=hb.int? hj;exact A7 ho S hz
 ·cases op<;>cases ho
  ·exact M5 S ha hb
  ·exact .none
  ·exact MS S ha hb
  ·exact .none
  ·exact .none
  ·exact .none
theorem M4 {l r:Expr}{op:Ji}{pos:Pos}{o:ik}{il ir:Ex} (ho:Ao op=Qa o) (hl:nI C d cx l il) (hr:nI C d cx r ir):nI C d cx (.BinOp l op r pos) (.bj o il ir):=
 λY env k mE fr w H s p=> .bind (hl Y env k mE fr w H s p) λw1 a1 s1 x H1 n1 r1=> .bind (.cY (hr Y env k mE fr w1 H1 s1 (p.next n1))) λw2 a2 s2 y H2 n2 r2=> .yk (.operate (A6 ho n2.st (r1.mono n2.le) r2))
end
def x4 {α β:Type}{f:α->Option β}{x:α}{l:List α}{r:List β} (h:(x::l).mapM f=Qa r): ∃y ys,f x=Qa y/\l.mapM f=Qa ys/\r=y::ys:=by
 rw [Yt] at h;refine (bs h).elim λy zq33=>?_;have h:=zq33.2;refine xEA (bs h) λys hys h=>?_;exact ⟨y,ys,zq33.1,hys,(Qa.inj h).symm⟩
inductive bC (h:Qs) (v:Value) (d:PyData) (k:Nat):Prop
 |mk (as:List Qi) (r:Reads h v d as) (c:d.canLay0=Qf) (l:d.depth<=k):bC h v d k
inductive zdF (h:Qs) (v:List Value) (d:List PyData) (k:Nat):Prop
 |mk (as:List Qi) (r:ReadsAll h v d as) (c:PyData.canLayAll0 d=Qf) (l:PyData.depthAll d<=k):zdF h v d k
section
variable {C:ax}{d e:Nat}{Y:lB C d e}{k:Kp}{w:Wd}{H:MH}{s:Qe}{cx:CC}{env:Env}{mE:Str->Option Value}{fr:Frame}
inductive f9 (C:ax) (w:Wd) (h:Qs) (v:Value) (mvs:List aa):Prop
 | mk (a : Qi) (o : Obj) (n : Nat) (vs : List Value) (e : v = .ref a) (g : h.get? a = Qa o) (c : o.cls = .type "tuple") (dt : o.data = .seq vs.toArray n) (r : kL C w mvs vs) (l : mvs.length <= bh) : f9 C w h v mvs
theorem cg.az {h:Qs} (S:cg C Y.h₀ Y.L k w H h) {mvs:List aa}{v:Value} (hv:kM C w (.az mvs) v):f9 C w h v mvs:=
 Pj.casesOn hv λa o n vs e q r l=>⟨a,o,n,vs,e,q.1.elim S.wc (S.mz _ _),q.2,q.3,r,l⟩
def uH {n:Nat}{h:Qs} (ih: ∀v rv dt,kM C w v rv->lk H n v=Qa dt->bC h rv dt n):
  ∀ {mvs:List aa}{vs:List Value}{ds:List PyData},kL C w mvs vs->mvs.mapM (lk H n)=Qa ds->zdF h vs ds n:=by
 intro mvs
 induction mvs with
 |nil=>intro vs ds h e;refine eqB h ?_;refine mP e ?_;exact ⟨[],.nil,rfl,JJ _⟩
 |cons m mvs ih'=>
  intro vs ds h e;refine xEEAA (x4 e) λy ys e1 e2 dh=>?_;refine eqB dh ?_;obtain ⟨v,r,rfl,h,h'⟩:=h;obtain ⟨as,r1,c1,d1⟩:=ih _ _ _ h e1;obtain ⟨bs,r2,c2,d2⟩:=ih' h' e2;exact ⟨as++bs,.cons r1 r2,Jr.mpr ⟨c1,c2⟩,Nat.max_le.mpr ⟨d1,d2⟩⟩
def oQ {h:Qs} (S:cg C Y.h₀ Y.L k w H h): ∀ (n:Nat) (v:aa) (rv:Value) (dt:PyData),kM C w v rv->lk H n v=Qa dt->bC h rv dt n:=by
 have flat: ∀ (n:Nat) (v:aa) (rv:Value) (dt:PyData),kM C w v rv->lk H 0 v=Qa dt->bC h rv dt n:=by
  intro n v rv dt hv e;cases v with
  |none=>refine mP e ?_;refine eqB hv ?_;exact ⟨[],.none,rfl,JJ _⟩
  |bool b=>refine mP e ?_;refine eqB hv ?_;exact ⟨[],.bool b,rfl,JJ _⟩
  |int i=>refine mP e ?_;obtain ⟨t,rfl⟩:=hv;exact ⟨[],.int i t,rfl,JJ _⟩
  |str x=>refine mP e ?_;obtain ⟨t,rfl,ok⟩:=hv;exact ⟨[],.str _ t,by simpa [PyData.canLay0,PyData.strOk] using ok.1,JJ _⟩
  |_=>exact ag e
 intro n
 induction n with
 |zero=>exact flat 0
 |succ n ih=>
  intro v rv dt hv e;cases v with
  |az vs=>
   obtain ⟨ds,e1,rfl⟩:=ms e;obtain ⟨a,o,n',ws,rfl,g,hc,hd,r,_⟩:=S.az hv;obtain ⟨as,ra,c1,d1⟩:=uH ih r e1;exact ⟨as,.tuple g hc hd ra,c1,Zu d1⟩
  |ref i=>
   refine xEA (bs e) λvs hl e=>?_;obtain ⟨ds,e1,rfl⟩:=ms e;obtain ⟨a,ws,n',rfl,g,r,_⟩:=S.list hv hl;obtain ⟨as,ra,c1,d1⟩:=uH ih r e1;exact ⟨a::as,.list g rfl rfl ra,c1,Zu d1⟩
  |none=>exact flat _ _ _ _ hv e
  |bool b=>exact flat _ _ _ _ hv e
  |int i=>exact flat _ _ _ _ hv e
  |str x=>exact flat _ _ _ _ hv e
  |_=>exact ag e
theorem lB.u (Y:lB C d e) {n:Nat} (h:n<=180):Y.A.units+n<9900:=Jy (ZI (Jx h (by decide:180<190)) _) (Jq (Jq (JZ (Jv _ (20*d)) 190) (Jv _ _)) Y.units)
def F9 (S:St Y k w H s) {x y:aa}{vx vy:Value}{r:Bool} (hx:kM C w x vx) (hy:kM C w y vy) (e:wF H x y=Qa r):SeqAt.EqAt Y.A.in1 s vx vy r:=by
 refine xEA (bs e) λdx e1 e=>?_;obtain ⟨dy,e2,rfl⟩:=ms e;obtain ⟨_,r1,c1,d1⟩:=oQ S 8 x vx dx hx e1;obtain ⟨_,r2,c2,d2⟩:=oQ S 8 y vy dy hy e2;refine SeqAt.eqAt_reads dx dy Y.A.in1 s vx vy _ _ r1 r2 c1 c2 ?_;rw [Zf];exact Y.u (Jq (JL (JA _) (K2 _ _)) (Jq (Jw d1 _) (JE _ _)))
def dY {C:ax}{d e:Nat} (Y:lB C d e) (s:Qe) (vx vy:Value) (r:Bool):Prop:=
 ∀ (Q:Value->Qe->Prop) (E:Value->Qe->Prop),(Q (.bool r) s->Qj C.M Y.A (compareOp .Eq vx vy) Q E s)/\(Q (.bool (!r)) s->Qj C.M Y.A (compareOp .NotEq vx vy) Q E s)
def MY (S:St Y k w H s) {x y:aa}{vx vy:Value}{r:Bool} (hx:kM C w x vx) (hy:kM C w y vy) (e:wF H x y=Qa r):dY Y s vx vy r:=by
 refine xEA (bs e) λdx e1 e=>?_;obtain ⟨dy,e2,rfl⟩:=ms e;obtain ⟨_,r1,c1,d1⟩:=oQ S 8 x vx dx hx e1;obtain ⟨_,r2,c2,d2⟩:=oQ S 8 y vy dy hy e2;have hu:Y.A.units+min dx.depth dy.depth<9900:=Y.u (Jq (YQ (K2 _ _)) (Jq (JL d2 d1) (JE _ _)));exact λQ E=>⟨SeqAt.compareEq_reads r1 r2 c1 c2 hu,SeqAt.compareNe_reads r1 r2 c1 c2 hu⟩
end
def ak.qt (a:ak):PyData:=ak.casesOn (motive:=λ_=>PyData) a .int .str
def zV (h:MH) (k:Nat) (a:ak):lk h k a.val=Qa a.qt:=by cases a<;>cases k<;>rfl
def LQ (a b:ak):qaI a.qt b.qt=decide (a=b):=by
 cases a with
 |i x=>
  cases b with
  |i y=>show (x==y)=_;rw [Kd,beq_iff_eq,decide_eq_true_eq,ak.i.injEq]
  |s y=>rfl
 |s x=>
  cases b with
  |i y=>rfl
  |s y=>show (x==y)=_;rw [Kd,beq_iff_eq,decide_eq_true_eq,ak.s.injEq]
def Wn (h:MH) (k:Nat) (as:List ak):(as.map ak.val).mapM (lk h k)=Qa (as.map ak.qt):=by
 induction as with
 |nil=>rfl
 |cons a r ih=>rw [JR,Yt,zV,ih];rfl
def xI (as:List ak): ∀bs:List ak,qbd (as.map ak.qt) (bs.map ak.qt)=decide (as=bs):=by
 induction as with
 |nil=>intro bs;cases bs<;>rfl
 |cons a x ih=>
  intro bs;cases bs with
  |nil=>rfl
  |cons b y=>
   show (qaI a.qt b.qt && qbd (x.map ak.qt) (y.map ak.qt))=_;rw [LQ,ih,<-Bool.decide_and,decide_eq_decide,KB.injEq]
def Lz (a b:ak):gm a.val b.val=decide (a=b):=by
 delta gm wF;rw [zV,zV];exact LQ a b
def Ab (as bs:List ak):gm (.az (as.map ak.val)) (.az (bs.map ak.val))=decide (as=bs):=by
 have e: ∀l:List ak,lk [] 8 (.az (l.map ak.val))=Qa (.tuple (l.map ak.qt)):=λl=>congrArg (qaK PyData.tuple) (Wn [] 7 l);delta gm wF;rw [e,e];exact xI as bs
def Lx {v:aa} (h:r5 v=Qf): ∃a:ak,v=a.val:=by
 cases v with
 |int n=>exact ⟨.i n,rfl⟩
 |str x=>exact ⟨.s ⟨x.toArray⟩,rfl⟩
 |_=>cases h
def pR (a:ak):lN a.val=1:=by cases a<;>rfl
def EH {vs:List aa} (h:vs.all r5=Qf): ∃as:List ak,vs=as.map ak.val:=by
 induction vs with
 |nil=>exact ⟨[],rfl⟩
 |cons v r ih=>
  refine (Lx (Jr.mp h).1).elim λa zq12=>?_;refine eqB zq12 ?_;refine (ih (Jr.mp h).2).elim λas zq11=>?_;refine eqB zq11 ?_;exact ⟨a::as,rfl⟩
def Fc (as:List ak):(as.map ak.val).all r5=true:=by
 induction as with
 |nil=>rfl
 |cons a r ih=>exact Jr.mpr ⟨by cases a<;>rfl,ih⟩
def oU (as:List ak):lN (.az (as.map ak.val))=3:=by
 show (bif (as.map ak.val).all r5 then 3 else 0)=3;rw [Fc];rfl
def uP {v:aa} (h:(lN v !=0)=Qf):(∃a:ak,v=a.val)\/∃as:List ak,v= .az (as.map ak.val):=by
 delta lN at h;refine vY (r5 v) (λha=>?_) λha=>?_
 ·exact .inl (Lx ha)
 ·rw [ha] at h
  refine DW (v.tup?) (λht=>?_) λvs ht=>?_
  ·rw [ht] at h;cases h
  ·cases tup?_s ht
   refine vY (vs.all r5) (λhal=>?_) λhal=>?_
   ·obtain ⟨as,rfl⟩:=EH hal;exact .inr ⟨as,rfl⟩
   ·have h':((bif vs.all r5 then 3 else 0:Nat) !=0)=true:=h
    rw [hal] at h';cases h'
theorem zcU {es es':List Qh}{ep:Nat}{f:Array Qh->Array Qh} (h:(f es.toArray).toList=es'):Obj.mapDict f (Ql es ep)=Ql es' ep:=h▸rfl
theorem zcT {es es':List Qh}{ep:Nat}{f:Array Qh->Array Qh} (h:(f es.toArray).toList=es'):Obj.mapDictKeys f (Ql es ep)=Ql es' (ep+1):=h▸rfl
section
variable {prog:Qt}{w:Qn}{Kk:Type} [DecidableEq Kk] {knd:KeyKind prog w Kk}{A:Qo}{E:Value->Qe->Prop}{s:Qe}
def Hi {d:Qi}{es:List Qh}{ep:Nat}{kvs:List (Kk×Value)}{k:Kk}{key v:Value}{Q:Unit->Qe->Prop} (hkey:knd.is k key=Qf) (ho:s.heap.get? d=Qa (Ql es ep)) (hk:KeysOf knd es.toArray) (hp:Pairs knd es kvs) (hn:(kvs.map (·.1)).Nodup) (hsz:es.length<=sizeLine)
  (h: ∀ (es':List Qh) (f:Obj->Obj),f (Ql es ep)=Ql es' (if kvs.any (λkv=>kv.1=k) then ep else ep+1) ->KeysOf knd es'.toArray->Pairs knd es' (stored kvs k v) ->((stored kvs k v).map (·.1)).Nodup->
   Q () {s with heap:=s.heap.update d f,toks:=s.toks+1}):Qj (model prog w) A (dictSet d key v) Q E s:=by
 delta dictSet
 try with_reducible refine Qk ?_
 refine Qc (knd.pyHash hkey ?_);delta dictSetHashed
 try with_reducible refine Qk ?_
 refine Qc (wpAny_dictFind_of (s:={s with toks:=s.toks+1}) hkey ho rfl hk ?_);have hidx:(es.toArray.findIdx? λe=>knd.is k e.key)=kvs.findIdx? λkv=>decide (kv.1=k):=by
  rw [<-hp.findIdx k];simp
 cases hi:es.toArray.findIdx? λe=>knd.is k e.key with
 |some i=>
  have hany:=any_of_findIdx_some (hidx▸hi);refine Qc (QK (Qc (wpAny_updateDict (s:={s with toks:=s.toks+1}) ho rfl (wpAny_point ?_))));refine h (es.modify i λe=> {e with val:=v}) _ ?_ ?_ ?_ ?_
  ·rw [if_pos hany];exact zcU (by simp)
  ·have:=hk.modify i v;simpa using this
  ·rw [(by rw [stored,if_pos hany]:stored kvs k v=kvs.map (λkv=>if kv.1=k then (kv.1,v) else kv))];exact hp.modify hn (by rw [<-hi];simp:(es.findIdx? λe=>knd.is k e.key)=Qa i) v
  ·rw [(by rw [stored,if_pos hany]:stored kvs k v=kvs.map (λkv=>if kv.1=k then (kv.1,v) else kv)),keys_map_store];exact hn
 |none=>
  have hnot:k∉kvs.map (·.1):=not_mem_of_findIdx_none (hidx▸hi);have hany: ¬(kvs.any λkv=>decide (kv.1=k))=true:=by
   rw [KD];rintro ⟨kv,hkv,he⟩;exact hnot (JO.mpr ⟨kv,hkv,of_decide_eq_true he⟩)
  refine Qc (QK (Q0 (hz:=by simpa using hsz) (s:={s with toks:=s.toks+1}) ho rfl ?_));refine h (es++ [⟨knd.hash k,key,v⟩]) _ ?_ ?_ ?_ ?_
  ·rw [if_neg hany];exact zcT (by simp)
  ·have:=hk.push hkey v;simpa using this
  ·rw [(by rw [stored,if_neg hany]:stored kvs k v=kvs++ [(k,v)])];exact hp.append hkey (knd.hash k) v
  ·rw [(by rw [stored,if_neg hany]:stored kvs k v=kvs++ [(k,v)]),JY,ZR]
   refine ⟨hn,JN.mpr ⟨JB,.nil⟩,?_⟩;intro a ha b hb;rw [JG.mp hb];exact λe=>hnot ((show a=k from e)▸ha)
def Vs {d : Qi} {key v : Value} {Q : Unit -> Qe -> Prop} (hT : s.TypeIs (.ref d) "dict") (h : Qj (model prog w) A.in1 (dictSet d key v) Q E s) : Qj (model prog w) A (setItem (.ref d) key v) Q E s := by
 delta setItem
 try with_reducible refine Qk ?_
 refine Qc (Q8 hT rfl ?_);refine Qc (wpAny_callSpecial?_slot (name:=Str.ofString "__setitem__") hT Q9
  (Qq Q9 hT entry_dict_setitem ?_ (args_dict_setitem _ _ _)))
 refine Qc (Qw hT ?_);show Qj _ _ (dictSet d key v>>=_) _ _ s;exact Qc (Qr h (λ_ s' q=>Qg ⟨.none,rfl,Qg q⟩) λ_ _ e=>e)
end
section
variable {prog:Qt}{w:Qn}{Kk:Type} [DecidableEq Kk] {knd:HeapKind prog w Kk}{A:Qo}{E:Value->Qe->Prop}{s:Qe}
def Gx {d a:Qi}{ep:Nat}{xs:List (Kk×Qi×Value)}{k:Kk}{v:Value}{Q:Unit->Qe->Prop} (hu:knd.room A) (hkey:knd.is s.heap k a) (ho:s.heap.get? d=Qa (Ql (xs.map (entryOfKey knd)) ep)) (his: ∀x∈xs,knd.is s.heap x.1 x.2.1) (hn:(xs.map (·.1)).Nodup) (hsz:xs.length<=sizeLine)
  (h: ∀ (f:Obj->Obj),f (Ql (xs.map (entryOfKey knd)) ep)=Ql ((storedH xs k a v).map (entryOfKey knd)) (if (atKey xs k).isSome then ep else ep+1) ->((storedH xs k a v).map (·.1)).Nodup->
   Q () {s with heap:=s.heap.update d f,toks:=s.toks+knd.draws k}):Qj (model prog w) A (dictSet d (.ref a) v) Q E s:=by
 have he:((xs.map (entryOfKey knd)).toArray).toList=xs.map (entryOfKey knd):=rfl;delta dictSet
 try with_reducible refine Qk ?_
 refine Qc (knd.pyHash hu hkey ?_);delta dictSetHashed
 try with_reducible refine Qk ?_
 refine Qc (Q6 (s:={s with toks:=s.toks+knd.draws k}) hu hkey ho rfl he his hn ?_ ?_)
 ·intro hno
  have hnot:k∉xs.map (·.1):=not_mem_keys_of_get hno;refine Qc (QK (Q0 (hz:=by have e:=QT he;exact Jq (JM e) hsz) (s:={s with toks:=s.toks+knd.draws k}) ho rfl ?_));refine h _ ?_ ?_
  ·rw [storedH_new (QA hno),QA hno]
   exact zcT (by simp [entryOfKey])
  ·rw [storedH_new (QA hno),JY,ZR]
   refine ⟨hn,JN.mpr ⟨JB,.nil⟩,?_⟩;intro x hx y hy;rw [JG.mp hy];exact λe=>hnot ((show x=k from e)▸hx)
 ·intro j p hj
  refine Qc (QK (Qc (wpAny_updateDict (s:={s with toks:=s.toks+knd.draws k}) ho rfl (wpAny_point ?_))));refine h _ ?_ ?_
  ·rw [storedH_old (QL hn hj),QL hn hj]
   have:=modify_map_putAt (entryOfKey knd) (λe:Qh=> {e with val:=v}) k v (λ_ _=>rfl) hn hj
   simp only [<-this];exact zcU (by simp)
  ·rw [storedH_old (QL hn hj),keys_map_putAt];exact hn
end
section
variable {C:ax}{d e:Nat}{Y:lB C d e}{k:Kp}{w:Wd}{H:MH}{s:Qe}{cx:CC}{env:Env}{mE:Str->Option Value}{fr:Frame}
def kM.atom {a:ak}{v:Value} (h:kM C w a.val v):a.is v=Qf/\a.ok:=by
 cases a with
 |i n=>obtain ⟨t,rfl⟩:=h;exact ⟨beq_self_eq_true n,trivial⟩
 |s x=>obtain ⟨t,rfl,ok⟩:=h;exact ⟨beq_self_eq_true x,ok⟩
def kL.items {as:List ak}: ∀ {vs:List Value},kL C w (as.map ak.val) vs->ItemsAre (lM C.prog C.w) as vs:=by
 induction as with
 |nil=>intro vs h;refine eqB h ?_;exact .nil
 |cons a r ih=>intro vs h;obtain ⟨v,t,rfl,h1,h2⟩:=h;exact .cons h1.atom.1 (ih h2)
def cg.iz {h:Qs} (S:cg C Y.h₀ Y.L k w H h) {as:List ak}{v:Value} (hv:kM C w (.az (as.map ak.val)) v): ∃t,v= .ref t/\QM (lM C.prog C.w) h as t:=by
 obtain ⟨t,o,n,ws,e,ho,hc,hd,rr,hl⟩:=S.az hv;exact ⟨t,e,o,ws.toArray,n,ho,hc,hd,rr.items⟩
theorem BW {a:Qi}{o:Obj}{pre post:bt} (h:bt.nd (pre++([(a,o)]++post))): ∀q∈pre++post,q.1≠a:=
 λq hq e=>(JN.mp (bt.nd.jh (YU (a:=(a,o)) (l₁:=pre) (l₂:=post)) h)).1 (JO.mpr ⟨q,hq,e⟩)
def cg.dj (S:St Y k w H s) {i:Nat}{a:Qi}{o o':ae}{ob':Obj}{h':Qs} (ha:w.σ[i]?=Qa a) (ho:H[i]?=Qa o) (hen: ∀en,u9 C w a o en-> ∃ob,en= [(a,ob)])
  (hs:Heap.SameBut a s.heap h') (hg:h'.get? a=Qa ob') (hr':u9 C w a o' [(a,ob')]):cg C Y.h₀ Y.L k w (H.set i o') h':=by
 obtain ⟨pre,en,post,hr,hn,hd,g⟩:=S.at ha ho;refine (hen en hr).elim λob1 zq8=>?_;obtain rfl:=zq8;have hm:=hn (a,ob1) (JV _ (.head _));refine g o' [(a,ob')] h' rfl hr' ⟨S.fr.ns.sameBut hs (Kn hm.2.1),λc x e=>(hs.2 c (λq=>?_)).trans (S.fr.keep c x e),S.fr.above⟩ ?_
 ·rw [q,hm.2.2] at e;cases e
 ·intro p hp
  rcases J4.mp hp with hp|hp
  ·have:=hn p (Zj _ hp)
   exact ⟨(hs.2 p.1 ((BW hd) p (Zj _ hp))).trans this.1,this.2⟩
  ·rcases J4.mp hp with hp|hp
   ·rw [JG.mp hp]
    exact ⟨hg,hm.2⟩
   ·have:=hn p (JV _ (JV _ hp))
    exact ⟨(hs.2 p.1 ((BW hd) p (JV _ hp))).trans this.1,this.2⟩
inductive dW {C:ax}{d e:Nat} (Y:lB C d e) (k:Kp) (w:Wd) (H:MH) (s:Qe) (i:Nat) (v:Value) (p:Option Nat×List (aa×aa)):Prop
 |mk (a:Qi) (n:Nat) (es:List Qh) (e:v= .ref a) (m:(a==sysModules)=Qb) (hep: ∀x,p.1=Qa x->n=x) (g:s.heap.get? a=Qa (Ql es n)) (r:rM C w p.2 es) (l:p.2.length<=bh)
   (dj: ∀h' o' ob',Heap.SameBut a s.heap h'->h'.get? a=Qa ob'->u9 C w a o' [(a,ob')]->cg C Y.h₀ Y.L k w (H.set i o') h'):dW Y k w H s i v p
def cg.kf (S:St Y k w H s) {i:Nat}{v:Value}{p:Option Nat×List (aa×aa)} (hv:kM C w (.ref i) v) (ho:H[i]?.bind ae.dict?=Qa p):dW Y k w H s i v p:=by
 refine xEA (bs ho) λo hi h2=>?_;cases dict?_s h2;refine xEA hv λa e ha=>?_;obtain ⟨pre,en,post,⟨es,n,rfl,hep,dr,l⟩,hn,_,_⟩:=S.at ha hi;refine ⟨a,n,es,e,beq_eq_false_iff_ne.mpr λq=>absurd (S.lo a (Ju ha)) (by rw [q];decide),hep,(hn (a,_) (JV _ (.head _))).1,dr,l,λh' o' ob' g2 g3 g4=>S.dj ha hi (λen h=>?_) g2 g3 g4⟩;obtain ⟨_,_,rfl,_,_,_⟩:=h;exact ⟨_,rfl⟩
def cg.dict (S:St Y k w H s) {x:aa}{v:Value}{p:Option Nat×List (aa×aa)} (hv:kM C w x v) (ho:dictAt H x=Qa p): ∃i,x= .ref i/\dW Y k w H s i v p:=by
 refine (bs ho).elim λi zq4=>?_;cases ref?_s zq4.1;exact ⟨i,rfl,S.kf hv zq4.2⟩
def wY {α:Type}{mes:List (aa×aa)}{f:α->aa}{l:List α} (e:mes.map (·.1)=l.map f):mes.length=l.length:=by
 have:=congrArg Z5 e
 rwa [Jt,Jt] at this
theorem DA.nil:DA C w [] [] []:=⟨.nil,λe he=>absurd he (by simp),.nil,rfl,λ_ h=>absurd h JB,.nil⟩
theorem DT.nil:DT C w [] [] []:=⟨rfl,.nil,λ_ h=>absurd h JB,rfl,.nil⟩
def Uo {mes:List (aa×aa)}{x:aa}{p:aa×aa}{r:List (aa×aa)} (hf:kX mes x=Qf) (e:mes=p::r):lN p.1=lN x:=by
 subst e;exact Qa.inj (beq_iff_eq.mp (Jr.mp hf).2)
def rM.atom {mes:List (aa×aa)}{es:List Qh}{a:ak} (hf:kX mes a.val=Qf) (h:rM C w mes es): ∃kvs,DA C w mes es kvs:=by
 rcases h with h| ⟨xs,D⟩
 ·exact h
 ·cases mes with
  |nil=>
   have:=D.e
   cases xs with
   |nil=>rw [D.es];exact ⟨[],.nil⟩
   |cons _ _=>cases this
  |cons p r=>
   cases xs with
   |nil=>cases D.e
   |cons x xs=>
    have:=Uo hf rfl
    rw [show p.1= .az (x.1.map ak.val) from (KB.inj D.e).1,oU,pR] at this;cases this
def rM.pg {mes:List (aa×aa)}{es:List Qh}{as:List ak} (hf:kX mes (.az (as.map ak.val))=Qf) (h:rM C w mes es): ∃xs,DT C w mes es xs:=by
 rcases h with ⟨kvs,D⟩|h
 ·cases mes with
  |nil=>
   have:=D.e
   cases kvs with
   |nil=>have p:=D.p;cases p;exact ⟨[],.nil⟩
   |cons _ _=>cases this
  |cons p r=>
   cases kvs with
   |nil=>cases D.e
   |cons x kvs=>
    have:=Uo hf rfl
    rw [show p.1=x.1.val from (KB.inj D.e).1,oU,pR] at this;cases this
 ·exact h
theorem DA.dictOf {mes:List (aa×aa)}{es:List Qh}{kvs:List (ak×Value)}{a n:Nat}{h:Qs} (D:DA C w mes es kvs) (hg:h.get? a=Qa (W.dictOf es n)):h.DictOf (lM C.prog C.w) a kvs:=
 ⟨_,es.toArray,n,hg,⟨rfl,rfl,rfl⟩,rfl,D.k,D.p,D.n⟩
theorem DT.ry {h:Qs} (S:cg C Y.h₀ Y.L k w H h) {mes:List (aa×aa)}{es:List Qh}{xs:List (List ak×Qi×Value)} (D:DT C w mes es xs): ∀x∈xs,QM (lM C.prog C.w) h x.1 x.2.1:=λx hx=>by
 refine xEA (S.iz (D.v x hx)) λt e q=>?_;cases e;exact q
theorem DT.dictOf {h:Qs} (S:cg C Y.h₀ Y.L k w H h) {mes:List (aa×aa)}{es:List Qh}{xs:List (List ak×Qi×Value)}{b n:Nat} (D:DT C w mes es xs) (hg:h.get? b=Qa (W.dictOf es n)):h.DictOfH (tupleKind (lM C.prog C.w)) b xs:=
 ⟨_,_,n,D.es▸hg,⟨rfl,rfl,rfl⟩,rfl,rfl,D.ry S,D.n⟩
def Di (C:ax) (w:Wd) (m:Option aa) (v:Option Value):Prop:=(m=Qd/\v=Qd)\/∃mv rv,m=Qa mv/\v=Qa rv/\kM C w mv rv
def Un {α:Type} [DecidableEq α] {mk:α->aa} (hmk: ∀a b,gm (mk a) (mk b)=decide (a=b)) (k:α): ∀ {kvs:List (α×Value)}{mes:List (aa×aa)},mes.map (·.1)=kvs.map (λp=>mk p.1) ->kL C w (mes.map (·.2)) (kvs.map (·.2)) ->Di C w (kY mes (mk k)) (valueAt kvs k):=by
 intro kvs
 induction kvs with
 |nil=>intro mes e r;rw [Yy.mp e];exact .inl ⟨rfl,rfl⟩
 |cons y kvs ih=>
  intro mes e r;cases mes with
  |nil=>cases e
  |cons x mes=>
   obtain ⟨e1,e2⟩:=KB.inj e;obtain ⟨v,t,ev,h,r⟩:=r;obtain ⟨rfl,rfl⟩:=KB.inj ev;have ih:=ih e2 r;unfold kY valueAt at ih ⊢;simp only [YD,YD,show x.1=mk y.1 from e1,hmk];cases hk:decide (y.1=k) with
   |true=>exact .inr ⟨_,_,rfl,rfl,h⟩
   |false=>exact ih
def Di.isSome {m:Option aa}{v:Option Value} (h:Di C w m v):m.isSome=v.isSome:=by
 rcases h with ⟨rfl,rfl⟩| ⟨_,_,rfl,rfl,_⟩<;>rfl
theorem DA.get {mes:List (aa×aa)}{es:List Qh}{kvs:List (ak×Value)} (D:DA C w mes es kvs) (k:ak):Di C w (kY mes k.val) (valueAt kvs k):=Un Lz k D.e D.r
def DT.jw {mes:List (aa×aa)}{es:List Qh}{xs:List (List ak×Qi×Value)} (D:DT C w mes es xs):mes.map (·.1)=(kvsOf xs).map (λp=>aa.az (p.1.map ak.val))/\kL C w (mes.map (·.2)) ((kvsOf xs).map (·.2)):=by
 refine ⟨?_,?_⟩
 ·rw [D.e];simp [kvsOf]
 ·have:=D.r
  simpa [kvsOf,Function.comp_def] using this
def DT.get {mes:List (aa×aa)}{es:List Qh}{xs:List (List ak×Qi×Value)} (D:DT C w mes es xs) (k:List ak):Di C w (kY mes (.az (k.map ak.val))) ((atKey xs k).map (·.2)):=by
 rw [<-QE];exact Un (mk:=λas:List ak=>aa.az (as.map ak.val)) Ab k D.jw.1 D.jw.2
theorem lB.room (Y:lB C d e):(tupleKind (lM C.prog C.w)).room Y.A.in1:=tupleKind_room_in1 (Y.u (by decide))
end
section
variable {prog:Qt}{w:Qn}{K:Type} [DecidableEq K] {knd:HeapKind prog w K}{A:Qo}{E:Value->Qe->Prop}{s:Qe}
def tJ {nm:String}{a b:Qi}{xa xb:List (K×Qi×Value)}{r:Bool}{Q:Bool->Qe->Prop} (ha:(a==sysModules)=Qb) (hb:(b==sysModules)=Qb) (hu:knd.room A)
  (da:s.heap.DictOfH knd a xa) (db:s.heap.DictOfH knd b xb) (fb:xa.length=xb.length->Ja A s (kvsOf xb) (kvsOf xa) r) (h:Q (xa.length==xb.length && r) s):
  Qj (model prog w) A (Builtin.Dict.samePairs nm a b) Q E s:=by
 obtain ⟨oa,es,ep,hoa,_,hda,hea,hia,hna⟩:=da;obtain ⟨ob,es',ep',hob,_,hdb,heb,hib,hnb⟩:=db;have hla:xa.length=es.size:=(QT hea).symm;have hlb:xb.length=es'.size:=(QT heb).symm;rw [hla,hlb] at h;delta Builtin.Dict.samePairs Builtin.Dict.showsAll;rw [if_neg (show ¬(a==sysModules)=Qf by rw [ha];exact Zn),if_neg (show ¬(b==sysModules)=Qf by rw [hb];exact Zn)];refine Qc (Qg (Qc (Qg ?_)));refine Qc (Qp hoa hda ?_)
 dsimp only
 refine Qc (Qp hob hdb ?_);by_cases hsz:es.size=es'.size
 case neg=>
  refine wP (by simpa using hsz) ?_;rw [(by simpa using hsz:(es.size==es'.size)=Qb),Xr] at h;exact Qc (QK (Qg h))
 case pos=>
  have h':Q r s:=by simpa [hsz] using h
  refine wN (by rw [hsz];simp) ?_;refine Qc (QF hoa hda ?_);refine Qc ?_;rw [Std.Legacy.Range.forIn_eq_forIn_range'];simp only [Std.Legacy.Range.size,qbh,Nat.add_sub_cancel,Nat.div_one];refine wpAny_forIn_list _
   (λrest q s'=>s'=s/\q=(Qd,())/\∃i,rest=J3 i (es.size-i)/\i<=es.size/\Ja A s (kvsOf xb) ((kvsOf xa).drop i) r)
   _ ?_ ?_ _ _ ⟨rfl,rfl,0,by simp,JJ _,(fb (by rw [hla,hlb];exact hsz))⟩
  ·rintro x rest q s' ⟨rfl,rfl,i,hr,hi,hpre⟩
   have hlt:i<es.size:=by
    rcases Nat.lt_or_ge i es.size with h|h
    ·exact h
    ·rw [Nat.sub_eq_zero_of_le h] at hr;simp at hr
   obtain ⟨rfl,hrest⟩:x=i/\rest=J3 (i+1) (es.size-(i+1)):=by
    rw [(KR (YM hlt)).symm,YV] at hr;injection hr with h1 h2;exact ⟨h1,h2⟩
   refine Qc (Qp hoa hda ?_);have hlt':x<xa.length:=by rw [hla];exact hlt
   obtain ⟨k,ka,v,hkv⟩: ∃k ka v,xa[x]=(k,ka,v):=⟨_,_,_,rfl⟩;have hdrop:(kvsOf xa).drop x=(k,v)::(kvsOf xa).drop (x+1):=by
    refine (Kg (by simpa [kvsOf] using hlt':x<(kvsOf xa).length)).trans ?_
    congr 1
    simp [kvsOf,hkv]
   rw [(by rw [entry_at hea x,(by rw [Js hlt',hkv]:xa[x]?=Qa (k,ka,v))];rfl:es[x]?=Qa (entryOfKey knd (k,ka,v)))];rw [hdrop] at hpre;show Qj _ _ (holding [qax ka,v] _>>=_) _ _ _;refine Qc (Qk (Qc (Q6 hu (hia (k,ka,v) (Ju (by rw [Js hlt',hkv]:xa[x]?=Qa (k,ka,v))):knd.is s'.heap k ka) hob hdb heb hib hnb ?_ ?_)))
   ·intro hno
    rcases hpre.inv with ⟨_,er⟩| ⟨y,_,_,hy,_⟩
    ·rw [er] at h'
     refine Qg ?_;refine wP (by decide) ?_;exact Qg (Qg h')
    ·rw [(by rw [QE,QA hno];rfl:valueAt (kvsOf xb) k=Qd)] at hy;exact ag hy
   ·intro j p hj
    have hv':valueAt (kvsOf xb) k=Qa p.2:=by rw [QE,QL hnb hj];rfl
    refine Qc (Qp hob hdb ?_);rw [(by rw [entry_at heb j,hj];rfl:es'[j]?=Qa (entryOfKey knd (k,p)))];rcases hpre.inv with ⟨hn,_⟩| ⟨y,e,b',hy,he,hrr,er⟩
    ·rw [hv'] at hn;exact ag hn.symm
    ·have ey:p.2=y:=Qa.inj (hv'.symm.trans hy)
     rw [<-ey] at he;refine Qk (he prog w _ _ ?_);cases e with
     |false=>
      rw [er,Xr] at h';refine wP (by decide) ?_;exact Qg (Qg h')
     |true=>
      rw [XH] at er;rw [<-er] at hrr;refine wN (by decide) ?_;refine Qc (QF hoa hda ?_);refine wN (by simp) ?_;exact Qg ⟨rfl,rfl,x+1,hrest,hlt,hrr⟩
  ·rintro q s' ⟨rfl,rfl,i,hr,hi,hpre⟩
   have hin:i=es.size:=by
    rcases Nat.lt_or_ge i es.size with h|h
    ·rw [(KR (YM h)).symm,YV] at hr;exact nomatch hr
    ·exact KJ hi h
   refine Qg ?_;rw [hin,<-hla,show xa.length=(kvsOf xa).length by simp [kvsOf],Ke] at hpre;cases hpre;exact h'
def OH {a b:Qi}{xa xb:List (K×Qi×Value)}{r:Bool} (ha:(a==sysModules)=Qb) (hb:(b==sysModules)=Qb) (hk:knd.room A.in1)
  (da:s.heap.DictOfH knd a xa) (db:s.heap.DictOfH knd b xb) (hu:A.units<cLine) (fb:xa.length=xb.length->Ja A.in1 s (kvsOf xb) (kvsOf xa) r) {Q:Value->Qe->Prop}:
  (Q (.bool (xa.length==xb.length && r)) s->Qj (model prog w) A (compareOp .Eq (.ref a) (.ref b)) Q E s)/\(Q (.bool (!(xa.length==xb.length && r))) s->Qj (model prog w) A (compareOp .NotEq (.ref a) (.ref b)) Q E s):=by
 refine ⟨λh=>?_,λh=>?_⟩
 ·refine QG (op:=.Eq) da.typeIs db.typeIs PySem.F.slot_dict_eq (Qq PySem.F.slot_dict_eq da.typeIs PySem.F.entry_dict_eq ?_ (PySem.F.args_dict_eq_2 _ _)) hu
  show Qj _ _ (Builtin.Dict.dictSlotArgs "__eq__" ⟨[.ref a,.ref b],[]⟩ >>= _) _ _ s;refine Qc ?_;delta Builtin.Dict.dictSlotArgs;refine Qc (Qw da.typeIs ?_);refine Qg ?_;refine Qc (QI (T:="dict") db.typeIs PySem.F.sub_dict_dict ?_);simp only [qaE,KS,if_false];exact Qc (Qg (Qc (Qg (Qc (tJ ha hb hk da db fb (Qg ⟨_,rfl,(λx=>Value.noConfusion x),by simpa using h⟩))))))
 ·refine QG (op:=.NotEq) da.typeIs db.typeIs PySem.F.slot_dict_ne (Qq PySem.F.slot_dict_ne da.typeIs PySem.F.entry_dict_ne ?_ (PySem.F.args_dict_ne_2 _ _)) hu
  refine Qc ?_;delta Builtin.Dict.dictSlotArgs;refine Qc (Qw da.typeIs ?_);refine Qg ?_;refine Qc (QI (T:="dict") db.typeIs PySem.F.sub_dict_dict ?_);simp only [qaE,KS,if_false];exact Qc (Qg (Qc (Qg (Qc (tJ ha hb hk da db fb (Qg ⟨_,rfl,(λx=>Value.noConfusion x),by simpa using h⟩))))))
end
section
variable {C:ax}{d e:Nat}{Y:lB C d e}{k:Kp}{w:Wd}{H:MH}{s:Qe}{cx:CC}{env:Env}{mE:Str->Option Value}{fr:Frame}
def Ae {α:Type} [DecidableEq α] {mk:α->aa} (S:St Y k w H s) {mes2:List (aa×aa)}{kb:List (α×Value)} (hg: ∀k,Di C w (kY mes2 (mk k)) (valueAt kb k)):
  ∀ {ka:List (α×Value)}{mes:List (aa×aa)}{r:Bool},mes.map (·.1)=ka.map (λp=>mk p.1) ->kL C w (mes.map (·.2)) (ka.map (·.2)) ->oV H mes2 mes=Qa r->Ja Y.A.in1 s kb ka r:=by
 intro ka
 induction ka with
 |nil=>intro mes r e _ eh;rw [Yy.mp e] at eh;obtain rfl:=Qa.inj eh;exact .nil
 |cons y ka ih=>
  intro mes r e rr eh;cases mes with
  |nil=>cases e
  |cons x mes=>
   obtain ⟨e1,e2⟩:=KB.inj e;obtain ⟨v,t,ev,h1,rr⟩:=rr;obtain ⟨rfl,rfl⟩:=KB.inj ev;have eh:JF (motive:=λ_=>Option Bool) (kY mes2 x.1) (Qa Qb) (λy=>(wF H x.2 y).bind λe=>(oV H mes2 mes).map λb=>e && b)=Qa r:=eh;rw [show x.1=mk y.1 from e1] at eh;rcases hg y.1 with ⟨g1,g2⟩| ⟨mv,rv,g1,g2,g3⟩
   ·rw [g1] at eh
    refine mP eh ?_;exact .miss g2
   ·rw [g1] at eh
    refine xEA (bs eh) λe' q1 eh=>?_;refine (ms eh).elim λb zq42=>?_;refine eqE zq42.2 ?_;exact .hit g2 (F9 S h1 g3 q1) (ih e2 rr zq42.1)
def LF {A:Qo}{α:Type} [DecidableEq α] {ka kb:List (α×Value)}{l1 l2:Nat}{o:Option Bool}{r:Bool} (e1:l1=ka.length) (e2:l2=kb.length) (e:(bif l1==l2 then o else Qa Qb)=Qa r) (h:o=Qa r->Ja A s kb ka r):
  ∃r',(ka.length=kb.length->Ja A s kb ka r')/\(ka.length==kb.length && r')=r:=by
 rw [e1,e2] at e;cases hl:(ka.length==kb.length) with
 |true=>rw [hl] at e;exact ⟨r,λ_=>h e,rfl⟩
 |false=>rw [hl] at e;exact ⟨Qb,λq=>absurd (beq_iff_eq.mpr q) (by rw [hl];exact Zn),Qa.inj e⟩
def A9 {es1 es2:List (aa×aa)}{d1 d2:List Qh} (hk:qZ es1 es2=Qf) (c1:rM C w es1 d1) (c2:rM C w es2 d2):(∃k1 k2,DA C w es1 d1 k1/\DA C w es2 d2 k2)\/∃x1 x2,DT C w es1 d1 x1/\DT C w es2 d2 x2:=by
 have fa: ∀ {es:List (aa×aa)}{x:aa},lN x≠0->(es.isEmpty||yU es==Qa (lN x))=Qf->kX es x=true:=λh h'=>Jr.mpr ⟨bne_iff_ne.mpr h,h'⟩;cases es1 with
 |nil=>
  rcases c2 with ⟨k2,D2⟩| ⟨x2,D2⟩
  ·obtain ⟨k1,D1⟩:=c1.atom (a:=.i 0) (fa ((λa=>by rw [pR];decide: ∀a:ak,lN a.val≠0) _) rfl)
   exact .inl ⟨k1,k2,D1,D2⟩
  ·obtain ⟨x1,D1⟩:=c1.pg (as:=[]) (fa ((λa=>by rw [oU];decide: ∀a:List ak,lN (.az (a.map ak.val))≠0) _) rfl)
   exact .inr ⟨x1,x2,D1,D2⟩
 |cons p es1=>
  have hk:(es2.isEmpty||some (lN p.1)==yU es2)=true:=hk;have sw: ∀ {x:aa},p.1=x->(es2.isEmpty||yU es2==Qa (lN x))=true:=λe=>by
   subst e;rcases Yz.mp hk with h|h
   ·rw [h];rfl
   ·rw [<-beq_iff_eq.mp h,beq_self_eq_true,Bool.or_true]
  rcases c1 with ⟨k1,D1⟩| ⟨x1,D1⟩
  ·have e:=D1.e
   cases k1 with
   |nil=>cases e
   |cons y k1=>
    obtain ⟨k2,D2⟩:=c2.atom (a:=y.1) (fa ((λa=>by rw [pR];decide: ∀a:ak,lN a.val≠0) _) (sw (KB.inj e).1));exact .inl ⟨_,k2,D1,D2⟩
  ·have e:=D1.e
   cases x1 with
   |nil=>cases e
   |cons y x1=>
    obtain ⟨x2,D2⟩:=c2.pg (as:=y.1) (fa ((λa=>by rw [oU];decide: ∀a:List ak,lN (.az (a.map ak.val))≠0) _) (sw (KB.inj e).1));exact .inr ⟨_,x2,D1,D2⟩
def Hx (S:St Y k w H s) {x y:aa}{vx vy:Value}{d1 d2:Option Nat×List (aa×aa)}{r:Bool} (hx:kM C w x vx) (hy:kM C w y vy)
  (o1:dictAt H x=Qa d1) (o2:dictAt H y=Qa d2) (hk:qZ d1.2 d2.2=Qf) (e:(bif d1.2.length==d2.2.length then oV H d2.2 d1.2 else Qa Qb)=Qa r):dY Y s vx vy r:=by
 refine (S.dict hx o1).elim λ_ zq37=>?_;obtain ⟨a1,n1,es1,rfl,m1,_,g1,c1,_,_⟩:=zq37.2;refine xEA (S.dict hy o2) λ_ _ zg14=>?_;obtain ⟨a2,n2,es2,rfl,m2,_,g2,c2,_,_⟩:=zg14;have hcl:Y.A.units<cLine:=Y.u (JJ _);rcases A9 hk c1 c2 with ⟨k1,k2,D1,D2⟩| ⟨x1,x2,D1,D2⟩
 ·obtain ⟨r',fb,rfl⟩:=LF (wY D1.e) (wY D2.e) e λe=>Ae S D2.get D1.e D1.r e
  exact λQ E=>⟨keq_eq m1 m2 (D1.dictOf g1) (D2.dictOf g2) hcl fb,keq_ne m1 m2 (D1.dictOf g1) (D2.dictOf g2) hcl fb⟩
 ·have hl: ∀l:List (List ak×Qi×Value),l.length=(kvsOf l).length:=λl=>(Jt ..).symm
  obtain ⟨r',fb,rfl⟩:=LF ((wY D1.e).trans (hl x1)) ((wY D2.e).trans (hl x2)) e λe=>Ae (mk:=λas:List ak=>aa.az (as.map ak.val)) S (λq=>by rw [QE];exact D2.get q) D1.jw.1 D1.jw.2 e;rw [<-hl,<-hl] at fb ⊢;exact λQ E=>OH m1 m2 Y.room (D1.dictOf S g1) (D2.dictOf S g2) hcl fb
theorem G2 (S:St Y k w H s) {x y:aa}{vx vy:Value}{r:Bool} (hx:kM C w x vx) (hy:kM C w y vy):mn H x y=Qa r->dY Y s vx vy r:=
 mB (lC λd1 o1=>lC λd2 o2=>nB λhk e=>Hx S hx hy o1 o2 hk e) (MY S hx hy)
theorem cg.grown {h h':Qs} (S:cg C Y.h₀ Y.L k w H h) (he:Heap.ExtBut h.objs.size h h'):cg C Y.h₀ Y.L k w H h':=
 Pn.casesOn S.dp λall hn _ _ g=>g h' (S.fr.extBut he (JA _)) λp hp=>⟨he p.1 p.2 (Z2 (K5 (hn p hp).1)) (hn p hp).1,(hn p hp).2⟩
def kL.empty {mvs:List aa}{vs:List Value} (r:kL C w mvs vs):vs.toArray.isEmpty=mvs.isEmpty:=by
 cases mvs with
 |nil=>subst r;rfl
 |cons m mvs=>obtain ⟨v,t,rfl,_,_⟩:=r;rfl
def vL (S:St Y k w H s) {x:aa}{v:Value}{r:Bool} (hx:kM C w x v) (e:truthy H x=Qa r) {Q:Bool->Qe->Prop}{E:Value->Qe->Prop} (h: ∀tk,Q r {s with toks:=tk}):Qj C.M Y.A (PySem.truthy v) Q E s:=by
 cases x with
 |none=>subst hx;obtain rfl:=Qa.inj e;exact truthy_none (h s.toks)
 |bool b=>refine eqB hx ?_;refine Se e ?_;exact Jb (h s.toks)
 |int i=>obtain ⟨t,rfl⟩:=hx;obtain rfl:=Qa.inj e;exact truthy_int (h s.toks)
 |str l=>
  obtain rfl:=Qa.inj e;obtain ⟨t,rfl,ok⟩:=hx;refine P.truthy_str (qaL.mpr (tF ok.2)) ?_;have e:(((⟨l.toArray⟩:Str).length:Int) !=0)=!l.isEmpty:=by cases l<;>rfl
  exact e▸h _
 |az vs=>
  obtain rfl:=Qa.inj e;obtain ⟨t,o,n,ws,rfl,ho,hc,hd,rr,hl⟩:=S.az hx;refine truthy_tuple (items:=ws.toArray) ⟨o,ho,hc,n,hd⟩ (by rw [Zo,<-rr.length];exact tF hl) ?_;exact rr.empty▸h _
 |ref i=>
  refine (ms e).elim λvs zq31=>?_;obtain rfl:=zq31.2;obtain ⟨t,ws,n,rfl,ho,rr,hl⟩:=S.list hx zq31.1;refine wpAny_truthy_list (items:=ws.toArray) ⟨_,ho,rfl,n,rfl⟩ (by rw [Zo,<-rr.length];exact tF hl) ?_;exact rr.empty▸h _
 |_=>exact ag e
def lS {α β:Type} [BEq α] [LawfulBEq α] {a:α}{b:β}: ∀ {l:List (α×β)},l.lookup a=Qa b->(a,b)∈l:=by
 intro l
 induction l with
 |nil=>exact λh=>ag h
 |cons p l ih=>
  intro h;rw [ZF] at h;cases e:(a==p.1) with
  |true=>rw [e] at h;refine mP h ?_;rw [beq_iff_eq.mp e];exact .head _
  |false=>rw [e] at h;exact .tail _ (ih h)
def AD: ∀p∈sJ,∀q∈sJ,(p.1==q.1)=(p.2==q.2):=by decide
def zcQ {α : Type} {c1 c2 : Value} {d1 d2 : Data} (hc : c2 ≠ .type "tuple") (f : Array Value -> Nat -> Array Value -> Nat -> α) (g : α) : PySem.emptiesJoinedAsOfOld.match_1 (λ_ _ _ _ => α) c1 c2 d1 d2 f (λ_ _ _ _ => g) = g := by
 cases c1 with
 |type n=>
  by_cases h : n = "tuple"
  ·subst h
   cases c2 with
   |type m=>delta PySem.emptiesJoinedAsOfOld.match_1;exact dif_neg λe=>hc (congrArg Zz e)
   |_=>rfl
  ·delta PySem.emptiesJoinedAsOfOld.match_1;exact dif_neg h
 |_=>rfl
def V1 {A : Qo} {a b : Qi} {oa ob : Obj} {Q : Bool -> Qe -> Prop} {E : Value -> Qe -> Prop} (ha : s.heap.get? a = Qa oa) (hb : s.heap.get? b = Qa ob) (hc : ob.cls ≠ .type "tuple") (h : Q (a == b) s) : Qj C.M A (isSame (.ref a) (.ref b)) Q E s := by
 delta isSame
 dsimp only
 by_cases e:a=b
 ·subst e
  refine wP (by simp) ?_;rw [beq_self_eq_true] at h;exact Qg h
 ·refine wN (by simpa using e) ?_
  rw [beq_eq_false_iff_ne.mpr e] at h;refine Qc (Jj ha (Qc (Jj hb ?_)));rw [zcQ hc];exact Qg h
def kM.isNone {x:aa}{v:Value} (h:kM C w x v):isSame v .none=pure x.isNone:=by
 rw [isSame_none];cases x with
 |none=>subst h;rfl
 |bool b=>refine eqB h ?_;rfl
 |int i=>obtain ⟨t,rfl⟩:=h;rfl
 |str i=>obtain ⟨t,rfl,_⟩:=h;rfl
 |az i=>obtain ⟨_,_,_,_,rfl,_,_,_⟩:=h;rfl
 |ref i=>obtain ⟨_,rfl,_⟩:=h;rfl
 |ah i=>obtain ⟨_,rfl,_⟩:=h;rfl
 |ty i=>obtain ⟨_,rfl,_⟩:=h;rfl
 |bi i=>obtain ⟨_,rfl,_⟩:=h;rfl
 |gf i=>obtain ⟨_,_,_,_,rfl,_⟩:=h;rfl
 |fl i=>obtain ⟨_,_,_,_,rfl,_,_,_⟩:=h;rfl
 |qy i=>obtain ⟨_,_,_,_,_,rfl,_⟩:=h;rfl
def F6 (K:rN C) (S:St Y k w H s) {x y:aa}{vx vy:Value}{r:Bool} (hx:kM C w x vx) (hy:kM C w y vy) {Q:Bool->Qe->Prop}{E:Value->Qe->Prop} (h:Q r s):aZ x y=Qa r->Qj C.M Y.A (isSame vx vy) Q E s:=by
 have plain:isSame vx vy=pure r->Qj C.M Y.A (isSame vx vy) Q E s:=λq=>by rw [q];exact Qg h
 refine mB (nB λq e=>?_) (mB (lC λi e1=>lY λj e2 e=>?_) (mB (lC λi e1=>lY λj e2 e=>?_) (nB λq=>lY λj e2 e=>?_)))
 ·clear h
  cases LA q;cases hy;exact plain (hx.isNone.trans (congrArg pure (Qa.inj e)))
 ·clear h
  cases ty?_s e1;cases ty?_s e2;obtain ⟨n1,rfl,h1⟩:=hx;obtain ⟨n2,rfl,h2⟩:=hy;refine plain (congrArg pure (Eq.trans ?_ ((AD _ (lS h1) _ (lS h2)).symm.trans e)));by_cases e:n1=n2
  ·refine eqE e ?_;simp
  ·simp only [beq_eq_false_iff_ne.mpr e,beq_eq_false_iff_ne.mpr (λq=>e (Zz.inj q))]
 ·clear plain
  cases top?_s e1;cases top?_s e2;obtain ⟨a1,rfl,h1⟩:=hx;obtain ⟨a2,rfl,h2⟩:=hy;refine (K.dH _ _ h1).elim λo1 zq25=>?_;refine (K.dH _ _ h2).elim λo2 zq24=>?_;refine V1 (S.mz _ _ zq25.1) (S.mz _ _ zq24.1) zq24.2 ?_;have e':(a1==a2)=(i==j):=by
   rw [Kd,beq_iff_eq,beq_iff_eq];exact ⟨λq=>K.zv _ _ _ h1 (q▸h2),λq=>Qa.inj ((q▸h1:C.ad.lookup j=Qa a1).symm.trans h2)⟩
  rw [e',e];exact h
 ·cases top?_s e2
  obtain ⟨b,rfl,h2⟩:=hy;subst e;cases x with
  |none=>subst hx;exact plain rfl
  |int i=>obtain ⟨t,rfl⟩:=hx;exact plain rfl
  |az vs=>
   clear plain
   refine (K.dH _ _ h2).elim λo zq22=>?_;obtain ⟨ta,ot,n,ws,rfl,hg,hct,_,_,_⟩:=S.az hx;refine V1 hg (S.mz _ _ zq22.1) zq22.2 ?_;rw [beq_eq_false_iff_ne.mpr λq=>zq22.2 (by rw [<-hct,Qa.inj ((q▸hg:s.heap.get? b=Qa ot).symm.trans (S.mz _ _ zq22.1))])];exact h
  |_=>cases q
def kE {C:ax}{d e:Nat} (Y:lB C d e) (s:Qe) (vx vy:Value) (r:Bool):Prop:=
 ∀ (Q:Value->Qe->Prop) (E:Value->Qe->Prop),((∀tk,Q (.bool r) {s with toks:=tk}) ->Qj C.M Y.A (compareOp .In vx vy) Q E s)/\((∀tk,Q (.bool (!r)) {s with toks:=tk}) ->Qj C.M Y.A (compareOp .NotIn vx vy) Q E s)
def one?_s {s:List Nat}{c:Nat} (h:one? s=Qa c):s= [c]:=by
 cases s with
 |nil=>exact ag h
 |cons a r=>
  cases r with
  |nil=>refine Se h ?_;rfl
  |cons _ _=>exact ag h
def F7 (S:St Y k w H s) {x y:aa}{vx vy:Value}{r:Bool} (hx:kM C w x vx) (hy:kM C w y vy):U2 H x y=Qa r->kE Y s vx vy r:=by
 have hu: ∀ {a b:Nat},a<=7->Y.A.units+1+min a b<cLine:=λh=>by rw [Zf];exact Y.u (Jq (Jw (Jq (K2 _ _) h) 1) (by decide))
 refine mB (lC λt e1=>lY λc e2 e=>?_) (mB (lC λvs e1=>lC λds e2=>lY λdx e3 e=>?_) (mB (lC λvs e1=>lC λds e2=>lY λdx e3 e=>?_) (lC λp e1=>nB λhf e=>?_)))
 ·obtain ⟨x',e3,e2⟩:=bs e2
  cases one?_s e2;refine (hx.str? e3).elim λu zq19=>?_;obtain rfl:=zq19.1;refine (hy.str? e1).elim λt' zq18=>?_;refine eqB zq18.1 ?_;have hc:t.contains c=decide (c∈t):=by rw [Kd,Yp,decide_eq_true_eq]
  simp only [<-e,hc];refine λQ E=>⟨λh=>in_str ?_,λh=>notIn_str ?_⟩
  ·rw [show (⟨[c].toArray⟩:Str)=⟨#[c]⟩ from rfl,(StrLaws.found_one ⟨t.toArray⟩ c)]
   exact h s.toks
  ·rw [show (⟨[c].toArray⟩:Str)=⟨#[c]⟩ from rfl,(StrLaws.found_one ⟨t.toArray⟩ c)]
   exact h s.toks
 ·cases tup?_s e1
  obtain ⟨t,o,n,ws,rfl,ho,hc,hd,rr,_⟩:=S.az hy;obtain ⟨as,ra,c1,d1⟩:=uH (oQ S 7) rr e2;obtain ⟨bs,rb,c2,d2⟩:=oQ S 7 x vx dx hx e3;rw [<-e];exact λQ E=>⟨λh=>SeqAt.in_tuple_reads (.tuple ho hc hd ra:Reads s.heap (.ref t) (.tuple ds) as) rb c1 c2 (hu d1) (h s.toks),λh=>SeqAt.notIn_tuple_reads (.tuple ho hc hd ra:Reads s.heap (.ref t) (.tuple ds) as) rb c1 c2 (hu d1) (h s.toks)⟩
 ·obtain ⟨t,ws,n,rfl,ho,rr,_⟩:=S.list hy e1
  obtain ⟨as,ra,c1,d1⟩:=uH (oQ S 7) rr e2;obtain ⟨bs,rb,c2,d2⟩:=oQ S 7 x vx dx hx e3;rw [<-e];exact λQ E=>⟨λh=>SeqAt.in_list_reads (.list ho rfl rfl ra) rb c1 c2 (hu d1) (h s.toks),λh=>SeqAt.notIn_list_reads (.list ho rfl rfl ra) rb c1 c2 (hu d1) (h s.toks)⟩
 ·refine (S.dict hy e1).elim λi zq11=>?_
  obtain ⟨b,n,es,rfl,hmod,_,hg,hdr,_,_⟩:=zq11.2;rw [<-Qa.inj e];rcases uP (Jr.mp hf).1 with ⟨q,rfl⟩| ⟨q,rfl⟩
  ·obtain ⟨kvs,D⟩:=hdr.atom hf
   rw [(D.get q).isSome];exact λQ E=>⟨λh=>wpAny_in_of hx.atom.1 hmod (D.dictOf hg).mapOf (h _),λh=>wpAny_notIn_of hx.atom.1 hmod (D.dictOf hg).mapOf (h _)⟩
  ·obtain ⟨xs,D⟩:=hdr.pg hf
   obtain ⟨t,rfl,ht⟩:=S.iz hx;simp only [(D.get q).isSome,YN];exact λQ E=>⟨λh=>wpAny_in_heap Y.room ht hmod (D.dictOf S hg) (h _),λh=>wpAny_notIn_heap Y.room ht hmod (D.dictOf S hg) (h _)⟩
def DC {op:CmpOp} (K:rN C) (S:St Y k w H s) {x y:aa}{vx vy:Value} (hx:kM C w x vx) (hy:kM C w y vy):bz Y k (VR C) (compareOp op vx vy) w s ((nG (Aj op) x y H).map λr=>(.bool r,H)):=by
 refine .jl λr e=> .val S λQ E q=>?_;have h: ∀tk,Q (.bool r) {s with toks:=tk}:=λtk=>q _ tk rfl;have h0:=h s.toks;have cmpQ: ∀ {f:Int->Int->Bool}{t:Sem Value},Ij x y f=Qa r->(∀a b t1 t2,vx= .int a t1->vy= .int b t2->r=f a b->Qj C.M Y.A t Q E s) ->Qj C.M Y.A t Q E s:=λe g=>by
  refine xEA (bs e) λa e1 e=>?_;obtain ⟨b,e2,rfl⟩:=ms e;obtain ⟨t1,q1⟩:=hx.int? e1;obtain ⟨t2,q2⟩:=hy.int? e2;exact g a b t1 t2 q1 q2 rfl
 cases op with
 |Eq=>exact (G2 S hx hy e Q E).1 h0
 |NotEq=>
  obtain ⟨q,hq,rfl⟩:=ms e;exact (G2 S hx hy hq Q E).2 h0
 |Lt=>exact cmpQ e λa b t1 t2 e1 e2 e3=>by subst e1 e2 e3;exact lt_int h0
 |LtE=>exact cmpQ e λa b t1 t2 e1 e2 e3=>by subst e1 e2 e3;exact le_int h0
 |Gt=>exact cmpQ e λa b t1 t2 e1 e2 e3=>by subst e1 e2 e3;exact gt_int h0
 |GtE=>exact cmpQ e λa b t1 t2 e1 e2 e3=>by subst e1 e2 e3;exact ge_int h0
 |In=>exact (F7 S hx hy e Q E).1 h
 |NotIn=>
  obtain ⟨q,hq,rfl⟩:=ms e;exact (F7 S hx hy hq Q E).2 h
 |Is=>exact Qc (F6 K S hx hy (Qg h0) e)
 |IsNot=>
  obtain ⟨q,hq,rfl⟩:=ms e;exact Qc (F6 K S hx hy (Qg h0) hq)
end
section
variable {prog:Qt}{w:Qn}{A:Qo}{E:Value->Qe->Prop}{s:Qe}
def G9 {d:Qi}{es:List Qh}{ep:Nat}{Q:Value->Qe->Prop} (hd:(d==sysModules)=Qb) (ho:s.heap.get? d=Qa (Ql es ep))
  (hQ : Q (.ref s.heap.objs.size) { s with heap := s.heap.push { cls := .type "dict_keyiterator",data := .fields #[.ref d,.int 0 0,.int es.length 0,.int ep 0] } }) :
  Qj (model prog w) A (pyIter (.ref d)) Q E s:=by
 refine wpAny_pyIter_slot (⟨_,ho,rfl⟩) F.slot_dict_iter (Qq F.slot_dict_iter (⟨_,ho,rfl⟩) F.entry_dict_iter ?_ (F.args_dict_iter_1 _));unfold Builtin.«dict.__iter__»;refine Qc ?_;delta Builtin.Dict.dictSlotNone;refine Qc (Qw (⟨_,ho,rfl⟩) ?_);show Qj _ _ (pure (qax d)) _ _ s;refine Qg ?_;show Qj _ _ (Builtin.Dict.showsAll d>>=_) _ _ s;delta Builtin.Dict.showsAll;rw [if_neg (by rw [hd];exact Zn)];exact Qc (Qg (Qc (Qp ho rfl (Qc (QF ho rfl (Qc (QB (Qg ⟨_,rfl,"dict_keyiterator",_,⟨_,Heap.get?_push_size _ rfl,rfl⟩,F.slot_dict_keyiterator_next.lookup,hQ⟩))))))))
def z6 {it d:Qi}{i ep:Nat}{es:List Qh}{Q:Option Value->Qe->Prop} (hh:A.handled=Qd) (hit:s.heap.IsKeyIter it d i es.length ep) (hod:s.heap.get? d=Qa (Ql es ep))
  (h1: ∀e h',es[i]?=Qa e->h'.IsKeyIter it d (i+1) es.length ep->Heap.SameBut it s.heap h'->Q (Qa e.key) {s with heap:=h'})
  (h2: ∀h',es[i]?=Qd->Heap.ExtBut it s.heap h'->Q Qd {s with heap:=h'}):Qj (model prog w) A (pyNext (.ref it)) Q E s:=by
 refine Zs (id hit) λo zq23=>?_;delta pyNext;refine Qc (wpAny_attempt (wpAny_callSpecial?_slot (name:=Str.ofString "__next__") hit.typeIs F.slot_dict_keyiterator_next
  (Qq F.slot_dict_keyiterator_next hit.typeIs F.entry_dict_keyiterator_next ?_ (F.args_dict_keyiterator_next_1 _))))
 refine Qc (Qg ?_);refine Qc ?_;refine Qc ?_
 first|refine Qc (Qu hit.typeIs (Qg ?_))|refine Qc (Qy hit.typeIs (Qg ?_))
 refine Qc (wpAny_fieldsOf zq23.1 zq23.2.2 ?_);rw [if_neg (by decide : ¬ (Builtin.Dict_items.ownsTuple "dict_keyiterator" = Qf))];refine wN (Zn) ?_;refine Qc (Qg ?_);refine Qc (Qp hod rfl ?_);refine wN (by simp) ?_;refine Qc (Qg ?_);refine Qc (QF hod rfl ?_);refine wN (by simp) ?_;refine Qg ?_;refine DW (es[i]?) (λhx=>?_) λe hx=>?_
 ·have hx':es.toArray[i]?=none:=by rw [Z8];exact hx
  dsimp only
  rw [if_neg (by lia),KF,hx']
  dsimp only
  refine Qc ?_
  first|refine Qc (Qu hit.typeIs (Qg ?_))|refine Qc (Qy hit.typeIs (Qg ?_))
  show Qj _ _ (setField (.ref it) 0 .none>>=_) _ _ s;refine Qc (wpAny_setField zq23.1 zq23.2.2 (by simp) ?_);refine Qc ?_;delta newExc newTuple;refine Qc (QB ?_ (by size_fits));refine Qc (m:=firstArgMember _ _) (wpAny_of_eq (a:=Yj) (by first|rfl|(simp only [firstArgMember];rfl)) ?_);refine QB ?_ (by size_fits);delta raiseNew;refine Qc (wpAny_handled ?_);rw [show A.in1.handled=Qd from hh];refine Qc (Qg (wpAny_throw ?_));exact Qc (QI (T:="StopIteration") (b:=Qf) ⟨_,Heap.get?_push_size _ rfl,rfl⟩ isSubtype_stop (Qg (h2 _ hx (((Heap.SameBut.update ..).extBut.push _).push _))))
 ·dsimp only
  rw [if_neg (by lia),KF,(by rw [Z8];exact hx:es.toArray[i]?=Qa e)]
  dsimp only
  refine Qc ?_
  first|refine Qc (Qu hit.typeIs (Qg ?_))|refine Qc (Qy hit.typeIs (Qg ?_))
  refine Qc (QV hit.typeIs ?_);show Qj _ _ (setField (.ref it) 1 (rawInt ((i:Int)+1))>>=_) _ _ s;refine Qc (wpAny_setField zq23.1 zq23.2.2 (by simp) ?_);have hit':(s.heap.update it (Obj.mapFields (·.setIfInBounds 1 (rawInt ((i:Int)+1))))).IsKeyIter it d (i+1) es.length ep:=
   ⟨_,Yq _ zq23.1 (Obj.isFreed_of_fields (Obj.data_mapFields zq23.2.2 _)),(Obj.cls_mapFields ..).trans zq23.2.1,by rw [Obj.data_mapFields zq23.2.2];simp [rawInt]⟩
  refine Qc (Qk ?_);refine Qc (QV (s:={s with heap:=s.heap.update it (Obj.mapFields (·.setIfInBounds 1 (rawInt ((i:Int)+1))))}) hit'.typeIs ?_);exact Qg (Qg ⟨_,rfl,Qg (h1 e _ hx hit' (Heap.SameBut.update ..))⟩)
end
abbrev Kp.ext (k:Kp) (p:Qi×Obj):Kp:= {k with ex:=p::k.ex}
def oI (k:Kp) (w:Wd) (os:List bt) (p:Qi×Obj):((k.ext p).all w os).Perm (p::k.all w os):=by
 have:=YU (a:=p) (l₁:=os.flatten++(w.tp++k.ce)) (l₂:=k.ex)
 rw [JH,JH,JH,JH] at this;exact this
section
variable {C:ax}{h₀:Qs}{L:Qi}{k:Kp}{w:Wd}{H:MH}{h h':Qs}{b:Qi}{o o':Obj}
def cg.je (S:cg C h₀ L k w H h) (o:Obj) (hf:o.isFreed=Qb):cg C h₀ L (k.ext (h.objs.size,o)) w H (h.push o):=by
 obtain ⟨os,he,hn,hd⟩:=S.os;exact ⟨S.fr.push o,⟨os,he,λp hp=>hn.push S.fr o hf p ((oI k w os _).mem_iff.mp hp),bt.nd.jh (oI k w os (h.objs.size,o)).symm (US (pC _) hd (News.gw hn λp hp=>JG.mp hp▸JA _))⟩,S.pb,S.lo⟩
def cg.fh (S:cg C h₀ L (k.ext (b,o)) w H h):h.get? b=Qa o/\b≠L/\h₀.get? b=none:=by
 obtain ⟨os,he,hn,hd⟩:=S.os;exact hn (b,o) ((oI k w os (b,o)).mem_iff.mpr (.head _))
theorem Fr.sameBut {m:Str->Option Value} (F:Fr h₀ L h m) (hs:Heap.SameBut b h h') (g:b≠L/\h₀.get? b=Qd):Fr h₀ L h' m:=
 ⟨F.ns.sameBut hs (Kn g.1),λc x e=>(hs.2 c λq=>by rw [q,g.2] at e;cases e).trans (F.keep c x e),F.above⟩
def cg.jd (S:cg C h₀ L (k.ext (b,o)) w H h) (hs:Heap.SameBut b h h') (ho:h'.get? b=Qa o'):cg C h₀ L (k.ext (b,o')) w H h':=by
 obtain ⟨os,he,hn,hd⟩:=S.os;have hd':=JN.mp (bt.nd.jh (oI k w os (b,o)) hd);refine ⟨Fr.sameBut S.fr hs S.fh.2,⟨os,he,λp hp=>?_,bt.nd.jh (oI k w os (b,o')).symm (JN.mpr hd')⟩,S.pb,S.lo⟩;rcases JT.mp ((oI k w os (b,o')).mem_iff.mp hp) with e|hp
 ·rw [e];exact ⟨ho,S.fh.2⟩
 ·have:=hn p ((oI k w os (b,o)).mem_iff.mpr (.tail _ hp))
  exact ⟨(hs.2 p.1 λe=>hd'.1 (JO.mpr ⟨p,hp,e⟩)).trans this.1,this.2⟩
def cg.gn (S:cg C h₀ L (k.ext (b,o)) w H h) (hx:Heap.ExtBut b h h'):cg C h₀ L k w H h':=by
 have g:=S.fh;obtain ⟨os,he,hn,hd⟩:=S.os;have hd':=JN.mp (bt.nd.jh (oI k w os (b,o)) hd);refine ⟨⟨S.fr.ns.extBut hx (Kn g.2.1),λc x e=>hx c x (λq=>by rw [q,g.2.2] at e;cases e) (S.fr.keep c x e),S.fr.above⟩,⟨os,he,λp hp=>?_,hd'.2⟩,S.pb,S.lo⟩
 have:=hn p ((oI k w os (b,o)).mem_iff.mpr (.tail _ hp))
 exact ⟨hx p.1 p.2 (λe=>hd'.1 (JO.mpr ⟨p,hp,e⟩)) this.1,this.2⟩
def cg.kz {p q:Qi×Obj} (S:cg C h₀ L ((k.ext q).ext p) w H h):cg C h₀ L ((k.ext p).ext q) w H h:=by
 obtain ⟨os,he,hn,hd⟩:=S.os;have hp:(((k.ext p).ext q).all w os).Perm (((k.ext q).ext p).all w os):=List.Perm.append_left _ (List.Perm.append_left _ (List.Perm.append_left _ (List.Perm.swap p q k.ex)));exact ⟨S.fr,⟨os,he,λr hr=>hn r (hp.mem_iff.mp hr),bt.nd.jh hp.symm hd⟩,S.pb,S.lo⟩
def cg.wz {m:ae} (S:cg C h₀ L (k.ext (b,o)) w H h) (h4:4<=b) (hr:u9 C ⟨w.σ++ [b],w.tp⟩ b m [(b,o)]):cg C h₀ L k ⟨w.σ++ [b],w.tp⟩ (H++ [m]) h:=by
 obtain ⟨os,he,hn,hd⟩:=S.os;have hp:=(oI k w os (b,o)).trans (Wa k w b [(b,o)] os);exact ⟨S.fr,⟨os++ [[(b,o)]],s7.ym hr (s7.mono (w:=w) (w':=⟨w.σ++ [b],w.tp⟩) ⟨J5 _ _,λ_ x=>x⟩ he),λp hp'=>hn p (hp.mem_iff.mpr hp'),bt.nd.jh hp hd⟩,S.pb,S.vm h4⟩
end
inductive IS (io:Obj) (T:String) (v:Value) (i:Nat):Prop
 |mk (c:io.cls= .type T) (d:io.data= .fields #[v,.int (i:Nat) 0]):IS io T v i
inductive Rh (io:Obj) (x:List Nat) (i:Nat):Prop
 | mk (T : String) (t : Tok) (h : T = "str_ascii_iterator" \/ T = "str_iterator") (q : IS io T (.str ⟨x.toArray⟩ t) i) : Rh io x i
inductive Rj (io:Obj) (n:Int) (i:Nat):Prop
 | mk (left : Int) (h1 : 0 < left ↔ (i : Int) < n) (h2 : 0 < left -> left = n - i) (e : io = { cls := .type "range_iterator",dict := Qd,data := .fields #[rawInt (i : Nat),rawInt left,rawInt 1],slots := #[] }) : Rj io n i
def qG (C:ax) (w:Wd) (io:Obj) (i:Nat) (k:It):Prop:=It.casesOn (motive:=λ_=>Prop) k
 (λa => ∃ la,w.σ[a]? = Qa la /\ IS io "list_iterator" (.ref la) i)
 (λmvs => ∃ ta,kM C w (.az mvs) (.ref ta) /\ IS io "tuple_iterator" (.ref ta) i)
 (λa n ep => ∃ la,w.σ[a]? = Qa la /\ io.cls = .type "dict_keyiterator" /\ io.data = .fields #[.ref la,.int (i : Nat) 0,.int (n : Nat) 0,.int (ep : Nat) 0])
 (λx=>tx x/\Rh io x i)
 (λn=>Rj io n i)
 (λmvs => ∃ la,kM C w (.fl mvs) (.ref la) /\ IS io "list_iterator" (.ref la) i)
theorem qG.mono {C:ax}{w w':Wd} (l:w.le w') {io:Obj}{i:Nat}{k:It}:qG C w io i k->qG C w' io i k:=
 It.casesOn (motive:=λk=>qG C w io i k->qG C w' io i k) k (λ_ h=>h.elim λla h=>⟨la,l.get h.1,h.2⟩) (λ_ h=>h.elim λla h=>⟨la,h.1.mono l,h.2⟩) (λ_ _ _ h=>h.elim λla h=>⟨la,l.get h.1,h.2⟩) (λ_ h=>h) (λ_ h=>h) (λ_ h=>h.elim λla h=>⟨la,h.1.mono l,h.2⟩)
section
variable {C:ax}{d e:Nat}{Y:lB C d e}{k:Kp}{w:Wd}{H:MH}{s:Qe}{cx:CC}{env:Env}{mE:Str->Option Value}{fr:Frame}
def rM.gx {mes:List (aa×aa)}{es:List Qh} (h:rM C w mes es):es.length=mes.length/\∀ (i:Nat) (p:aa×aa),mes[i]?=Qa p-> ∃e:Qh,es[i]?=Qa e/\kM C w p.1 e.key:=by
 rcases h with ⟨kvs,D⟩| ⟨xs,D⟩
 ·have l1:=wY D.e
  have l2:=D.p.length;refine ⟨by lia,λi p hp=>?_⟩;have hik:i<kvs.length:=Jy ((JD.mp hp).1:i<mes.length) (JM l1);have hie:i<es.length:=Jy hik (JM (qaw l2));refine ⟨es[i],Js hie,?_⟩;have hk:=(D.p.get? (i:=i) (Js hie) (Js hik)).1;have he:(mes.map (·.1))[i]?=(kvs.map λp=>p.1.val)[i]?:=by rw [D.e]
  rw [JC,JC,hp,Js hik] at he;rw [show p.1=kvs[i].1.val from Qa.inj he];have hok:=D.ok kvs[i] (ZA hik)
  generalize kvs[i].1=a at hk hok
  cases a with
  |i z=>exact Km hk
  |s x=>
   obtain ⟨t,ht⟩:=Kl hk;exact ⟨t,ht,hok⟩
 ·have l1:=wY D.e
  refine ⟨by rw [D.es,Jt,l1],λi p hp=>?_⟩;have hik:i<xs.length:=l1▸(JD.mp hp).1;refine ⟨entryOfKey (tupleKind (lM C.prog C.w)) xs[i],by rw [D.es,JC,Js hik];rfl,?_⟩;have he:(mes.map (·.1))[i]?=(xs.map λx=>aa.az (x.1.map ak.val))[i]?:=by rw [D.e]
  rw [JC,JC,hp,Js hik] at he;rw [show p.1=_ from Qa.inj he];exact D.v xs[i] (ZA hik)
def La {n:Int} (h1:n<=bh) (h2: -(bh:Int)<=n):Builtin.Range.small 0 n 1=true:=by
 have hl:(bh:Int)=1000000:=rfl;refine small_one ?_ ?_ ?_ ?_<;>lia
def z8 (n:Int):(0<Ye 0 n 1 ↔ 0<n)/\(0<Ye 0 n 1->Ye 0 n 1=n):=by
 delta Ye;simp only [gt_iff_lt,Int.zero_lt_one,if_true];split
 ·rename_i h
  refine ⟨?_,?_⟩<;>lia
 ·rename_i h
  refine ⟨?_,?_⟩<;>lia
def GZ (S:St Y k w H s) {v:aa}{rv:Value}{z:It} (hv:kM C w v rv) {Q:Value->Qe->Prop}{E:Value->Qe->Prop}
  (h: ∀I io h',cg C Y.h₀ Y.L (k.ext (I,io)) w H h'->qG C w io 0 z->Q (.ref I) {s with heap:=h'}):pF H v=Qa z->Qj C.M Y.A (pyIter rv) Q E s:=by
 refine mB (lC λn e1=>nB λhn e=>?_) (mB (lC λa e1=>mB (lY λvs e2 e=>?_) (lC λp e2=>lY λep e3 e=>?_)) (mB (lY λvs e1 e=>?_) (mB (lY λx e1 e=>?_) (lY λvs e1 e=>?_))))
 ·obtain rfl:=Qa.inj e;cases rng?_s e1
  obtain ⟨r,t,u,v,rfl,hr⟩:=hv;exact wpAny_pyIter_range (S.wc hr) (La (of_decide_eq_true (Jr.mp hn).1) (of_decide_eq_true (Jr.mp hn).2)) (h _ _ _ (S.je _ rfl) ⟨_,(z8 n).1,λhh=>((z8 n).2 hh).trans (Int.sub_zero n).symm,rfl⟩)
 ·subst e;cases ref?_s e1
  obtain ⟨la,ws,n,rfl,ho,rr,hl⟩:=S.list hv e2;exact Zs hv λ_ zq20=>Jc (items:=ws.toArray) ⟨_,ho,rfl,n,rfl⟩ (h _ _ _ (S.je _ rfl) ⟨la,qax.inj zq20.1▸zq20.2,rfl,rfl⟩)
 ·subst e;cases ref?_s e1
  obtain ⟨b,n,es,rfl,hmod,hep,hg,dr,_,_⟩:=S.kf hv e2;cases hep ep e3;exact Zs hv λ_ zq18=>G9 hmod hg (h _ _ _ (S.je _ rfl) ⟨b,qax.inj zq18.1▸zq18.2,rfl,by rw [<-dr.gx.1];rfl⟩)
 ·subst e;cases tup?_s e1
  obtain ⟨t,o,n,ws,rfl,ho,hc,hd,rr,hl⟩:=S.az hv;exact iter_tuple (items:=ws.toArray) ⟨o,ho,hc,n,hd⟩ (h _ _ _ (S.je _ rfl) ⟨t,hv,rfl,rfl⟩)
 ·subst e
  obtain ⟨t,rfl,ok⟩:=hv.str? e1;refine wpAny_pyIter_strU (h _ _ _ (S.je _ rfl) ⟨ok,strIterType ⟨x.toArray⟩,t,?_,rfl,rfl⟩);delta strIterType;split
  ·exact .inl rfl
  ·exact .inr rfl
 ·subst e;cases fl?_s e1
  obtain ⟨la,o,n,ws,rfl,q,rr,hl⟩:=id hv;exact Jc (items:=ws.toArray) ⟨o,S.mz _ _ q.1,q.2,n,q.3⟩ (h _ _ _ (S.je _ rfl) ⟨la,hv,rfl,rfl⟩)
structure Ri {C:ax}{d e:Nat} (Y:lB C d e) (k:Kp) (w:Wd) (H:MH) (s:Qe) (I:Qi) (i:Nat) (z:It) (r:Option aa) (Q:Option Value->Qe->Prop):Prop where
 go: ∀v rv io' h' tk,r=Qa v->cg C Y.h₀ Y.L (k.ext (I,io')) w H h'->qG C w io' (i+1) z->kM C w v rv->Q (Qa rv) {s with heap:=h',toks:=tk}
 fe: ∀h',r=Qd->cg C Y.h₀ Y.L k w H h'->Q Qd {s with heap:=h'}
def zY {I:Qi}{io:Obj}{i:Nat}{mvs:List aa}{vs:List Value}{z:It}{r:Option aa}{Q:Option Value->Qe->Prop} (S:St Y (k.ext (I,io)) w H s) (rr:kL C w mvs vs) (er:mvs[i]?=r) (G:Ri Y k w H s I i z r Q)
  (item: ∀x (Q:Option Value->Qe->Prop),vs.toArray[i]?=Qa x->(∀h' o',h'.get? I=Qa o'->qG C w o' (i+1) z->Heap.SameBut I s.heap h'->Q (Qa x) {s with heap:=h'}) ->Qj C.M Y.A (pyNext (.ref I)) Q (λ_ _=>False) s)
  (fe: ∀ (Q:Option Value->Qe->Prop),vs.toArray[i]?=Qd->(∀h',Heap.ExtBut I s.heap h'->Q Qd {s with heap:=h'}) ->Qj C.M Y.A (pyNext (.ref I)) Q (λ_ _=>False) s) {E:Value->Qe->Prop}:Qj C.M Y.A (pyNext (.ref I)) Q E s:=by
 refine Qr (Q:=Q) (E:=λ_ _=>False) ?_ (λ_ _ q=>q) (λ_ _ q=>q.elim);cases r with
 |none=>
  refine fe Q ?_ λh' he=>G.fe h' rfl (S.gn he);rw [Z8,Z0,<-rr.length];exact Z0.mp er
 |some v=>
  exact (rr.get er).elim λrv zq14=>item rv Q (by rw [Z8];exact zq14.1) λh' o' g1 g2 hs=>G.go v rv o' h' _ rfl (S.jd hs g1) g2 zq14.2
def GX {I:Qi}{io:Obj}{z:It}{i:Nat}{r:Option aa} (S:St Y (k.ext (I,io)) w H s) (R:qG C w io i z) (e:mJ H i z=Qa r) {Q:Option Value->Qe->Prop}{E:Value->Qe->Prop} (G:Ri Y k w H s I i z r Q):Qj C.M Y.A (pyNext (.ref I)) Q E s:=by
 have hI:=S.fh.1;cases z with
 |fs mvs=>
  obtain ⟨la,hv,ic⟩:=R;have zq12:=id hv;obtain ⟨_,o,n,vs,e1,q,rr,_⟩:=zq12;cases e1;have hl0:s.heap.IsList la vs.toArray:=⟨o,S.mz _ _ q.1,q.2,n,q.3⟩;exact zY S rr (Qa.inj e) G (λx Q hx g=>QP ⟨io,hI,ic.1,ic.2⟩ hl0 hx λh' hit' hs=>hit'.elim λo' p=>g h' o' p.1 ⟨la,hv,p.2.1,p.2.2⟩ hs) (λQ hx g=>QW Y.handled ⟨io,hI,ic.1,ic.2⟩ hl0 hx g)
 |ls a=>
  obtain ⟨la,ha,ic⟩:=R;obtain ⟨mvs,hm,er⟩:=ms e;obtain ⟨_,ws,n,e1,ho,rr,hl⟩:=S.list (x:=.ref a) ⟨la,rfl,ha⟩ hm;cases e1;have hl0:s.heap.IsList la ws.toArray:=⟨_,ho,rfl,n,rfl⟩;exact zY S rr er G (λx Q hx g=>QP ⟨io,hI,ic.1,ic.2⟩ hl0 hx λh' hit' hs=>hit'.elim λo' p=>g h' o' p.1 ⟨la,ha,p.2.1,p.2.2⟩ hs) (λQ hx g=>QW Y.handled ⟨io,hI,ic.1,ic.2⟩ hl0 hx g)
 |tp mvs=>
  obtain ⟨ta,ht,ic⟩:=R;have zq7:=S.az ht;obtain ⟨_,o,n,ws,e1,ho,hc,hd,rr,hl⟩:=zq7;cases e1;have hl0:IsTup s.heap ta ws.toArray:=⟨o,ho,hc,n,hd⟩;exact zY S rr (Qa.inj e) G (λx Q hx g=>next_tuple_item ⟨io,hI,ic.1,ic.2⟩ hl0 hx λh' hit' hs=>hit'.elim λo' p=>g h' o' p.1 ⟨ta,ht,p.2.1,p.2.2⟩ hs) (λQ hx g=>next_tuple_end Y.handled ⟨io,hI,ic.1,ic.2⟩ hl0 hx g)
 |sq x=>
  obtain ⟨ok,T,t,hT,ic⟩:=R;have er:=Qa.inj e;refine DW (x[i]?) (λhc=>?_) λc hc=>?_
  ·rw [hc] at er
   have hvs:(⟨x.toArray⟩:Str).cps[i]?=none:=(Z8).trans hc;rcases hT with rfl|rfl
   ·exact wpAny_pyNext_ascii_end Y.handled ⟨io,hI,ic.1,ic.2⟩ hvs λh' he=>G.fe h' er.symm (S.gn he)
   ·exact wpAny_pyNext_wide_end Y.handled ⟨io,hI,ic.1,ic.2⟩ hvs λh' he=>G.fe h' er.symm (S.gn he)
  ·rw [hc] at er
   have hck: ∀u:Tok,kM C w (.str [c]) (.str ⟨#[c]⟩ u):=λu=>⟨u,rfl,λy hy=>JG.mp hy▸ok.1 c (Ju hc),(by decide:1<=bh)⟩;rcases hT with rfl|rfl
   ·exact wpAny_pyNext_ascii_item ⟨io,hI,ic.1,ic.2⟩ ((Z8).trans hc) λh' hit' hs=>hit'.elim λo' p=>G.go (.str [c]) _ o' h' _ er.symm (S.jd hs p.1) ⟨ok,_,t,.inl rfl,p.2.1,p.2.2⟩ (hck _)
   ·exact wpAny_pyNext_wide_item ⟨io,hI,ic.1,ic.2⟩ ((Z8).trans hc) λh' hit' hs=>hit'.elim λo' p=>G.go (.str [c]) _ o' h' _ er.symm (S.jd hs p.1) ⟨ok,_,t,.inr rfl,p.2.1,p.2.2⟩ (hck _)
 |dk a n ep=>
  refine Zs R λla zq6=>?_;obtain ⟨p,e2,e3⟩:=bs e;obtain ⟨hc,e4⟩:=gs e3;have er:=Qa.inj e4
  clear e e3 e4
  have hc:=Jr.mp hc;obtain ⟨b,n',es,e1,hmod,hep,hg,dr,_,_⟩:=S.kf ⟨la,rfl,zq6.1⟩ e2;cases e1;obtain ⟨hlen,hget⟩:=dr.gx;cases hep ep (beq_iff_eq.mp hc.1);have hn:n=es.length:=(beq_iff_eq.mp hc.2).symm.trans hlen.symm;subst hn;refine z6 Y.handled ⟨io,hI,zq6.2.1,zq6.2.2⟩ hg (λde h' hde hit' hs=>?_) λh' hde he=>G.fe h' ?_ (S.gn he)
  ·cases hv:p.2[i]? with
   |none=>rw [Z0] at hv;rw [Z0.mpr (Jq (JM hlen) hv)] at hde;cases hde
   |some q=>
    refine xEA (hget i q hv) λde' hde' hr=>?_;rw [hde] at hde';cases hde';rw [hv] at er;exact Zs hit' λo' zq1=>G.go q.1 de.key o' h' s.toks er.symm (S.jd hs zq1.1) ⟨la,zq6.1,zq1.2.1,zq1.2.2⟩ hr
  ·rw [<-er,Z0.mpr (by rw [<-hlen];exact Z0.mp hde)];rfl
 |rg n=>
  obtain ⟨left,hl,hl2,rfl⟩:=R;have er:=Qa.inj e;cases hin:decide ((i:Int)<n) with
  |true=>
   rw [hin] at er;refine wpAny_pyNext_range_item hI (hl.mpr (of_decide_eq_true hin)) λh' hit' hs=>G.go (.int i) _ _ h' _ er.symm (S.jd hs hit') ?_ ⟨_,rfl⟩
   have:=hl2 (hl.mpr (of_decide_eq_true hin))
   have e1:left-1=n-((i+1:Nat):Int):=(congrArg (· -1) this).trans (Int.sub_sub n i 1);exact ⟨left-1,by rw [e1];exact Int.sub_pos,λ_=>e1,rfl⟩
  |false=>
   rw [hin] at er;exact wpAny_pyNext_range_end Y.handled hI (YW.mp λq=>absurd (hl.mp q) (of_decide_eq_false hin)) λh' he=>G.fe h' er.symm (S.gn he)
end
structure Sy (e:Expr):Prop where
 yj: ∀rest env,starEach (e::rest) env=(Qb,PySem.eval e env)::starEach rest env
 sub: ∀o i,subscripted e Qb o i=operate [o,i] (getItem o i)
 ou: ∀op,behindInMarks op e=Qb
 zo: ∀env x,foldedSetIterable e env x=pure x
 swap:qV e=Qb-> ∀t n env,swapsWith e t n env=pure Qb
structure Sd (C:ax) (d:Nat) (cx:CC) (e:Expr) (ir:Ex):Prop where
 es:nI C d cx e ir
 ts:zF C d cx e ir
 sy:Sy e
abbrev mj (C:ax) (d:Nat) (cx:CC):List Expr->List Ex->Prop:=mS (Sd C d cx)
def zdL (C:ax) (d:Nat) (cx:CC) (es:List Expr) (irs:List Ex):Prop:=
 ∀ (Y:lB C d 2) (env:Env) (k:Kp) (mE:Str->Option Value) (fr:Frame) (w:Wd) (H:MH) (s:Qe) (pos:Pos),Pl Y cx env k mE fr w H s->bz Y k (kD C) (spliced (backTo pos (starEach es env))) w s (rD (C.cx d) irs fr H)
section
variable {C:ax}{d e:Nat}{Y:lB C d e}{k:Kp}{w:Wd}{H:MH}{s:Qe}{cx:CC}{env:Env}{mE:Str->Option Value}{fr:Frame}
theorem Hm {e:Expr}{ir:Ex} (h:nI C d cx e ir) (he: ∀ (env:Env) (whole:Sem Value),PySem.isTrue e env whole=(do let v<-whole;standAt e.pos;holding [v] (PySem.truthy v))):zF C d cx e ir:=
 λY env k mE fr w H s p r=>kN λx H1 e1=>lY λb e2 e=>e▸λQ E hq=>isTrue_plain (h Y env k mE fr w H s p _ e1 _ _ λw1 a1 s1 n1 r1=>vL n1.st r1 e2 λtk=>hq w1 b _ (n1.trans (.toks n1.st tk)) rfl) (he _ _)
def mQ {pos:Pos}{es:List Expr}{irs:List Ex} (h:mj C d cx es irs):(backTo pos (starEach es env)).any (·.1)=false:=by
 induction h with
 |nil=>rfl
 |cons h _ ih=>rw [h.sy.yj];exact ih
def sD {c:Cx}{irs:List Ex}: ∀ {H:MH}{r:List aa×MH},rD c irs fr H=Qa r->r.1.length=irs.length:=by
 induction irs with
 |nil=>intro H r h;refine mP h ?_;rfl
 |cons e irs ih=>exact λ{H r} =>kN λv h1 e1=>kN λvs h2 e2 e=>Qa.inj e▸congrArg (· +1) (ih e2)
def tC {es:List Expr}{irs:List Ex} (h:mj C d cx es irs):zdL C d cx es irs:=by
 induction h with
 |nil=>intro Y env k mE fr w H s pos p r e;refine mP e ?_;exact λQ E hq=>args_nil (hq w [] s (.refl p.st) .nil)
 |cons h _ ih=>
  intro Y env k mE fr w H s pos p r;refine kN λv H1 e1=>kN λvs H2 e2 e=>?_;refine mP e ?_;exact λQ E hq=>args_cons (h.es Y env k mE fr w H s p _ e1 _ _ λw1 a1 s1 n1 r1=>ih Y env k mE fr w1 H1 s1 pos (p.next n1) _ e2 _ _ λw2 a2 s2 n2 r2=>hq w2 _ s2 (n1.trans n2) (.cons (r1.mono n2.le) r2)) (h.sy.yj _ _)
def jf.wj {mvs : List aa} {vs : List Value} (S : St Y k w H s) (r : kL C w mvs vs) (hl : mvs.length <= bh) : ∃ w',jf Y k w w' H s { s with heap := s.heap.push { cls := .type "tuple",data := .seq vs.toArray } } /\ kM C w' (.az mvs) (.ref s.heap.objs.size) := by
 obtain ⟨all,hn,_,tp,_⟩:=S.dp;have le : w.le ⟨w.σ,(s.heap.objs.size,({ cls := .type "tuple",data := .seq vs.toArray } : Obj)) :: w.tp⟩ := ⟨Yd _,λ_ x => .tail _ x⟩;exact ⟨_,⟨le,tp _ _ _ (S.fr.push _) (hn.push S.fr _) (JA _),rfl,rfl⟩,_,_,0,vs,rfl,⟨.inl (.head _),rfl,rfl⟩,r.mono le,hl⟩
def AV {es:List Expr}{irs:List Ex}{n:Nat}{pos:Pos} (h:mj C d cx es irs) (hi:Zc es.length 1000=Qf):nI C d cx (.Tuple es n pos) (.az irs):=by
 intro Y env k mE fr w H s p r;refine kN λvs H1 e1 e=>?_;refine mP e ?_;have hl:vs.length<=bh:=by rw [sD e1,h.length];exact Jq (Zd.mp hi) (by decide)
 refine λQ E hq=>wpAny_Tuple (tC h Y env k mE fr w H s pos p _ e1 _ _ λw1 a1 s1 n1 r1=>⟨by rw [<-r1.length];exact Jq hl mZ,?_⟩);exact (jf.wj n1.st r1 hl).elim λw2 zq26=>hq w2 _ _ (n1.trans zq26.1) zq26.2
def F5 {es:List Expr}{irs:List Ex}{pos:Pos} (h:mj C d cx es irs) (hi:Zc es.length 1000=Qf):nI C d cx (.List es pos) (.list irs):=by
 intro Y env k mE fr w H s p r;refine kN λvs H1 e1 e=>?_;have hl:vs.length<=bh:=by rw [sD e1,h.length];exact Jq (Zd.mp hi) (by decide)
 refine λQ E hq=>wpAny_List (tC h Y env k mE fr w H s pos p _ e1 _ _ λw1 a1 s1 n1 r1=>⟨by rw [<-r1.length];exact Jq hl mZ,?_⟩);obtain rfl:=Qa.inj e;obtain ⟨all,hn,add,_,_⟩:=n1.st.dp;exact hq _ _ _ (n1.trans ⟨(⟨J5 _ _,λ_ x=>x⟩:w1.le ⟨w1.σ++ [s1.heap.objs.size],w1.tp⟩),add _ (.list vs) [_] _ ⟨a1,0,rfl,r1.mono (⟨J5 _ _,λ_ x=>x⟩:w1.le ⟨w1.σ++ [s1.heap.objs.size],w1.tp⟩),hl⟩ (n1.st.fr.push _) (hn.push n1.st.fr _) (pC _) (News.gw hn λp hp=>JG.mp hp▸JA _) (n1.st.px (JA _)),rfl,rfl⟩) ⟨_,rfl,by rw [<-n1.st.len];exact Zi⟩
def CF {n:Nat}{i:aa}{j:Nat}{v:Value} (hv:kM C w i v) (h:qo n i=Qa j): ∃z t,v= .int z t/\0<=z/\z<n/\j=z.toNat:=by
 refine xEA (bs h) λz e1 h=>?_;refine xA (gs h) λhb e=>?_;exact (hv.int? e1).elim λt zq23=>⟨z,t,zq23,of_decide_eq_true (Jr.mp hb).1,of_decide_eq_true (Jr.mp hb).2,(Qa.inj e).symm⟩
def Si {z:Int}{n:Nat} (h0:0<=z) (h1:z<n):seqIndex? z n=Qa z.toNat:=by
 unfold seqIndex?;simp only [if_neg (YW.mpr h0)];exact (if_pos (Jr.mpr ⟨decide_eq_true h0,decide_eq_true h1⟩))
def F3 {value sl:Expr} (hsl:Sy sl) (S:St Y k w H s) {x y:aa}{vx vy:Value} (hx:kM C w x vx) (hy:kM C w y vy):bz Y k (VR C) (subscriptTail value sl vx vy) w s ((l9 H x y).map λv=>(v,H)):=by
 refine .jl λv e=> .val S λQ E h=>?_;have lst: ∀ {b:Qi}{mvs:List aa}{ws:List Value},s.heap.IsList b ws.toArray->kL C w mvs ws->mvs.length<=bh->vx= .ref b->(qo mvs.length y).bind (λj=>mvs[j]?)=Qa v->Qj C.M Y.A (subscriptTail value sl vx vy) Q E s:=by
  intro b mvs ws hL rr hl e1 e;refine xEA (bs e) λj hj e=>?_;obtain ⟨z,t,rfl,h0,h1,rfl⟩:=CF hy hj;refine (rr.get e).elim λrv zq17=>?_;have hl':=tF hl;subst e1;exact tail_any hL.typeIs slot_list_getitem.lookup (wpAny_getItem_list hL h0 (qaR h1 hl') (by rw [Z8];exact zq17.1) (h rv s.toks zq17.2)) (hsl.sub _ _)
 revert e
 refine mB (lC λvs e1=>lC λj hj e=>?_) (mB (lC λvs e1 e=>?_) (mB (lC λvs e1 e=>?_) (lC λp e1=>nB λhf e=>?_)))
 ·cases tup?_s e1
  obtain ⟨z,t,rfl,h0,h1,rfl⟩:=CF hy hj;obtain ⟨b,o,n,ws,rfl,ho,hc,hd,rr,hl⟩:=S.az hx;exact (rr.get e).elim λrv zq13=>item_tupleT (l:=ws) ⟨o,ho,hc,n,hd⟩ (by lia) (qaR h1 (tF hl)) (Si h0 (by rw [<-rr.length];exact h1)) zq13.1 (h rv s.toks zq13.2) (hsl.sub _ _)
 ·cases fl?_s e1
  obtain ⟨b,o,n,ws,e2,q,rr,hl⟩:=hx;exact lst ⟨o,S.mz _ _ q.1,q.2,n,q.3⟩ rr hl e2 e
 ·obtain ⟨b,ws,n,e2,ho,rr,hl⟩:=S.list hx e1
  exact lst ⟨_,ho,rfl,n,rfl⟩ rr hl e2 e
 ·refine (S.dict hx e1).elim λi zq8=>?_
  obtain ⟨b,n,es,rfl,_,_,hg,hdr,_,_⟩:=zq8.2;rcases uP (Jr.mp hf).1 with ⟨q,rfl⟩| ⟨q,rfl⟩
  ·refine (hdr.atom hf).elim λkvs zq7=>?_
   have D:=zq7;have hD:=D.dictOf hg;rcases D.get q with ⟨q1,_⟩| ⟨mv,rv,q1,q2,q3⟩
   ·exact ag (q1.symm.trans e)
   ·cases q1.symm.trans e
    exact tail_any hD.typeIs slot_dict_getitem.lookup (wpAny_getItem_of hy.atom.1 hD.mapOf q2 (h rv _ q3)) (hsl.sub _ _)
  ·obtain ⟨xs,D⟩:=hdr.pg hf
   obtain ⟨t,rfl,ht⟩:=S.iz hy;rcases D.get q with ⟨q1,_⟩| ⟨mv,rv,q1,q2,q3⟩
   ·exact ag (q1.symm.trans e)
   ·cases q1.symm.trans e
    obtain ⟨pp,q4,rfl⟩:=ms q2;exact tail_any (D.dictOf S hg).typeIs slot_dict_getitem.lookup (wpAny_getItem_heap Y.room ht (D.dictOf S hg) q4 (h pp.2 _ q3)) (hsl.sub _ _)
theorem MQ {v sl:Expr}{ie ii:Ex}{pos:Pos} (hv:nI C d cx v ie) (hi:Sd C d cx sl ii):nI C d cx (.Subscript v sl pos) (.sub ie ii):=
 λY env k mE fr w H s p r=>kN λx H1 e1=>kN λy H2 e2 e Q E hq=>Subscript_ (hv Y env k mE fr w H s p _ e1 _ _ λw1 a1 s1 n1 r1=>hi.es Y env k mE fr w1 H1 s1 (p.next n1) _ e2 _ _ λw2 a2 s2 n2 r2=>
  F3 hi.sy n2.st (r1.mono n2.le) r2 r e _ _ λw3 a3 s3 n3 r3=>hq w3 a3 s3 ((n1.trans n2).trans n3) r3)
theorem G3 (K:rN C) {l r:Expr}{op:CmpOp}{il ir:Ex}{pos:Pos} (hl:nI C d cx l il) (hr:Sd C d cx r ir):nI C d cx (.Compare l [op] [r] pos) (.ba (Aj op) il ir):=
 λY env k mE fr w H s p r=>kN λx H1 e1=>kN λy H2 e2 e Q E hq=>wpAny_Compare1 (hl Y env k mE fr w H s p _ e1 _ _ λw1 a1 s1 n1 r1=>hr.es Y env k mE fr w1 H1 s1 (p.next n1) _ e2 _ _ λw2 a2 s2 n2 r2=>
  DC K n2.st (r1.mono n2.le) r2 r e _ _ λw3 a3 s3 n3 r3=>hq w3 a3 s3 ((n1.trans n2).trans n3) r3) (hr.sy.ou _)
def UA (K:rN C) {l r:Expr}{op:CmpOp}{il ir:Ex}{pos:Pos} (hl:nI C d cx l il) (hr:Sd C d cx r ir):zF C d cx (.Compare l [op] [r] pos) (.ba (Aj op) il ir):=by
 intro Y env k mE fr w H s p r;refine kN λv H' e0=>lY λb et e=>?_
 revert e0
 refine kN λx H1 e1=>kN λy H2 e2=>lY λc e3 e4=>?_;cases e4;cases et;subst e;exact λQ E hq=>wpAny_isTrue_Compare1 (hl Y env k mE fr w H s p _ e1 _ _ λw1 a1 s1 n1 r1=>hr.es Y env k mE fr w1 H1 s1 (p.next n1) _ e2 _ _ λw2 a2 s2 n2 r2=>
  DC K n2.st (r1.mono n2.le) r2 (.bool b,H') (by rw [e3];rfl) _ _ λw3 a3 s3 n3 r3=>by rw [show a3= .bool b from r3];exact Jb (hq w3 b s3 ((n1.trans n2).trans n3) rfl)) (hr.sy.ou _)
def MR {x:Expr}{ix:Ex}{pos:Pos} (hx:nI C d cx x ix):nI C d cx (.UnaryOp .Not x pos) (.not ix):=by
 intro Y env k mE fr w H s p r;refine kN λb H1 e0 e=>?_
 revert e0
 refine kN λx' H1' e1=>lY λb' e2 e3=>?_;cases e3;refine mP e ?_;exact λQ E hq=>Qc (hx Y env k mE fr w H s p _ e1 _ _ λw1 a1 s1 n1 r1=>Qc (Qm (Qk (not_value (vL n1.st r1 e2 λtk=>hq w1 _ _ (n1.trans (.toks n1.st tk)) rfl)))))
def FD {x:Expr}{ix:Ex}{pos:Pos} (hx:zF C d cx x ix):zF C d cx (.UnaryOp .Not x pos) (.not ix):=by
 intro Y env k mE fr w H s p r;refine kN λv H' e0=>lY λb et e=>?_
 revert e0
 refine kN λb' H1 e1 e2=>?_;cases e2;obtain rfl:=Qa.inj et;subst e;exact λQ E hq=>isTrue_not (hx Y env k mE fr w H s p _ e1 _ _ λw1 a1 s1 n1 r1=>by rw [show a1=b' from r1];exact hq w1 _ s1 n1 rfl)
def MW {t x y:Expr}{it ix iy:Ex}{pos:Pos} (ht:zF C d cx t it) (hx:nI C d cx x ix) (hy:nI C d cx y iy):nI C d cx (.IfExp t x y pos) (.ite it ix iy):=by
 intro Y env k mE fr w H s p r;refine kN λb H1 e1 e=>?_;refine λQ E hq=>Qc (ht Y env k mE fr w H s p _ e1 _ _ λw1 a1 s1 n1 r1=>?_);rw [show a1=b from r1];cases b with
 |true=>exact hx Y env k mE fr w1 H1 s1 (p.next n1) _ e _ _ λw2 a2 s2 n2 r2=>hq w2 a2 s2 (n1.trans n2) r2
 |false=>exact hy Y env k mE fr w1 H1 s1 (p.next n1) _ e _ _ λw2 a2 s2 n2 r2=>hq w2 a2 s2 (n1.trans n2) r2
def FE {t x y:Expr}{it ix iy:Ex}{pos:Pos} (ht:zF C d cx t it) (hx:zF C d cx x ix) (hy:zF C d cx y iy):zF C d cx (.IfExp t x y pos) (.ite it ix iy):=by
 intro Y env k mE fr w H s p r;refine kN λv H' e0 e=>?_
 revert e0
 refine kN λb H1 e1 e0=>?_;refine λQ E hq=>isTrue_IfExp (ht Y env k mE fr w H s p _ e1 _ _ λw1 a1 s1 n1 r1=>?_);rw [show a1=b from r1];cases b with
 |true=>exact hx Y env k mE fr w1 H1 s1 (p.next n1) r (by show mX (eval _ _ _ _)=_;rw [show eval (C.cx d) ix fr H1=Qa (v,H') from e0];exact e) _ _ λw2 a2 s2 n2 r2=>hq w2 a2 s2 (n1.trans n2) r2
 |false=>exact hy Y env k mE fr w1 H1 s1 (p.next n1) r (by show mX (eval _ _ _ _)=_;rw [show eval (C.cx d) iy fr H1=Qa (v,H') from e0];exact e) _ _ λw2 a2 s2 n2 r2=>hq w2 a2 s2 (n1.trans n2) r2
def M3 {op:BoolOp}{pos:Pos}{es:List Expr}{irs:List Ex} (h:mj C d cx es irs): ∀ (Y:lB C d 2) (env:Env) (k:Kp) (mE:Str->Option Value) (fr:Frame) (w:Wd) (H:MH) (s:Qe),Pl Y cx env k mE fr w H s->bz Y k (VR C) (boolOp pos op (evalEach es env)) w s (yV (C.cx d) (op== .Or) irs fr H):=by
 induction h with
 |nil=>exact λY env k mE fr w H s p=> .none
 | @cons ex i es irs he hs ih=>
  intro Y env k mE fr w H s p r;refine kN λv H1 e1 e=>?_;cases hs with
  |nil=>refine mP e ?_;exact he.es Y env k mE fr w H s p _ e1
  | @cons e' i' es' irs' he' hs'=>
   revert e
   refine lC λb e2 e=>?_;intro Q E hq;show Qj C.M Y.A (do
    let v<-PySem.eval ex env
    standAt pos
    let t<-holding [v] (PySem.truthy v)
    match op,t with
    | .And,Qb| .Or,Qf=>pure v
    |_,_=>boolOp pos op (evalEach (e'::es') env)) Q E s
   refine Qc (he.es Y env k mE fr w H s p _ e1 _ _ λw1 a1 s1 n1 r1=>Qc (Qm (Qc (Qk (vL n1.st r1 e2 λtk=>?_)))));have n2:=n1.trans (.toks n1.st tk);have stop:Qa (v,H1)=Qa r->Qj C.M Y.A (pure a1) Q E {s1 with toks:=tk}:=λe=>by obtain rfl:=Qa.inj e;exact Qg (hq w1 a1 _ n2 r1)
   have go:yV (C.cx d) (op== .Or) (i'::irs') fr H1=Qa r->Qj C.M Y.A (boolOp pos op (evalEach (e'::es') env)) Q E {s1 with toks:=tk}:=λe=>ih Y env k mE fr w1 H1 _ (p.next n2) r e Q E λw2 a2 s2 n3 r2=>hq w2 a2 s2 (n2.trans n3) r2;cases op<;>cases b
   ·exact stop e
   ·exact go e
   ·exact go e
   ·exact stop e
def FF {op:BoolOp}{es:List Expr}{irs:List Ex} (h:mj C d cx es irs): ∀ (Y:lB C d 2) (env:Env) (k:Kp) (mE:Str->Option Value) (fr:Frame) (w:Wd) (H:MH) (s:Qe),Pl Y cx env k mE fr w H s->bz Y k dZ (allTrue op es env) w s (mX (yV (C.cx d) (op== .Or) irs fr H)):=by
 induction h with
 |nil=>exact λY env k mE fr w H s p=> .none
 | @cons ex i es irs he hs ih=>
  intro Y env k mE fr w H s p r;refine kN λv H' e0=>lY λb et e=>?_
  revert e0
  refine kN λv1 H1 e1 e2=>?_
  --the first test
  have first: ∀c,truthy H1 v1=Qa c-> ∀ {Q:Bool->Qe->Prop}{E:Value->Qe->Prop},(∀w1 s1,jf Y k w w1 H1 s s1->Q c s1) ->Qj C.M Y.A (PySem.isTrue ex env (PySem.eval ex env)) Q E s:=λc hc Q E hq=>
   he.ts Y env k mE fr w H s p (c,H1) (by show cb (eval _ _ _ _) _=_;rw [show eval (C.cx d) i fr H=Qa (v1,H1) from e1];show qaK _ (truthy H1 v1)=_;rw [hc];rfl) Q E λw1 a1 s1 n1 r1=>by rw [show a1=c from r1];exact hq w1 s1 n1
  subst e;intro Q E hq;cases hs with
  |nil=>
   cases e2;cases op with
   |And=>
    refine QR (first b et λw1 s1 n1=>?_);cases b with
    |true=>exact wpAny_allTrue_And_nil (hq w1 _ s1 n1 rfl)
    |false=>exact hq w1 _ s1 n1 rfl
   |Or=>
    refine QX (first b et λw1 s1 n1=>?_);cases b with
    |true=>exact hq w1 _ s1 n1 rfl
    |false=>exact wpAny_allTrue_Or_nil (hq w1 _ s1 n1 rfl)
  | @cons e' i' es' irs' he' hs'=>
   refine (bs e2).elim λc zq1=>?_;have stop:Qa (v1,H1)=Qa (v,H') ->c=b/\H1=H':=λq=>by
    cases q;exact ⟨Qa.inj (zq1.1.symm.trans et),rfl⟩
   have go: ∀w1 s1,jf Y k w w1 H1 s s1->yV (C.cx d) (op== .Or) (i'::irs') fr H1=Qa (v,H') ->Qj C.M Y.A (allTrue op (e'::es') env) Q E s1:=λw1 s1 n1 q=>
    ih Y env k mE fr w1 H1 s1 (p.next n1) (b,H') (by show cb (yV _ _ _ _ _) _=_;rw [q];show qaK _ (truthy H' v)=_;rw [et];rfl) Q E λw2 a2 s2 n2 r2=>hq w2 a2 s2 (n1.trans n2) r2
   cases op with
   |And=>
    refine QR (first c zq1.1 λw1 s1 n1=>?_);cases c with
    |true=>exact go w1 s1 n1 zq1.2
    |false=>obtain ⟨rfl,rfl⟩:=stop zq1.2;exact hq w1 _ s1 n1 rfl
   |Or=>
    refine QX (first c zq1.1 λw1 s1 n1=>?_);cases c with
    |true=>obtain ⟨rfl,rfl⟩:=stop zq1.2;exact hq w1 _ s1 n1 rfl
    |false=>exact go w1 s1 n1 zq1.2
end
section
variable {C:ax}{d e:Nat}{Y:lB C d e}{k:Kp}{w:Wd}{H:MH}{s:Qe}{cx:CC}{env:Env}{mE:Str->Option Value}{fr:Frame}
structure zbr (C:ax) (w:Wd) {α:Type} (mk:α->aa) (mes:List (aa×aa)) (kvs:List (α×Value)):Prop where
 e:mes.map (·.1)=kvs.map (λp=>mk p.1)
 r:kL C w (mes.map (·.2)) (kvs.map (·.2))
def Ua {α:Type} [DecidableEq α] {mk:α->aa} (hmk: ∀a b,gm (mk a) (mk b)=decide (a=b)) (k:α) {mv:aa}{rv:Value} (hv:kM C w mv rv) {mes:List (aa×aa)}{kvs:List (α×Value)} (P:zbr C w mk mes kvs) (hany:(kY mes (mk k)).isSome=kvs.any (λkv=>kv.1=k)):
  zbr C w mk (oF mes (mk k) mv) (stored kvs k rv):=by
 delta oF stored;simp only [hany];cases hc:kvs.any (λkv=>decide (kv.1=k)) with
 |false=>
  refine ⟨?_,?_⟩
  ·show (mes++ [_]).map _=(kvs++ [_]).map _
   simp only [JY,JY,P.e];rfl
  ·show kL C w ((mes++ [_]).map _) ((kvs++ [_]).map _)
   simp only [JY,JY];exact kL.append (.dz hv) P.r
 |true=>
  obtain ⟨e,r⟩:=P
  clear hc hany
  show zbr C w mk (mes.map _) (kvs.map _)
  induction kvs generalizing mes with
  |nil=>rw [Yy.mp e];exact ⟨rfl,.nil⟩
  |cons y kvs ih=>
   cases mes with
   |nil=>cases e
   |cons x mes=>
    obtain ⟨e1,e2⟩:=KB.inj e;obtain ⟨v,t,ev,h,r⟩:=r;obtain ⟨rfl,rfl⟩:=KB.inj ev;have e1:x.1=mk y.1:=e1;have hk:gm x.1 (mk k)=decide (y.1=k):=by rw [e1,hmk]
    by_cases q:y.1=k
    ·rw [decide_eq_true q] at hk
     refine ⟨?_,?_⟩
     ·show (bif gm x.1 (mk k) then _ else _:aa×aa).1::_=_
      rw [(ih e2 r).e,hk,JR,JR,if_pos q];exact congrArg (· ::_) e1
     ·show kL C w ((bif gm x.1 (mk k) then _ else _:aa×aa).2::_) _
      rw [hk,JR,JR,if_pos q];exact .cons hv (ih e2 r).r
    ·rw [decide_eq_false q] at hk
     refine ⟨?_,?_⟩
     ·show (bif gm x.1 (mk k) then _ else _:aa×aa).1::_=_
      rw [(ih e2 r).e,hk,JR,JR,if_neg q];exact congrArg (· ::_) e1
     ·show kL C w ((bif gm x.1 (mk k) then _ else _:aa×aa).2::_) _
      rw [hk,JR,JR,if_neg q];exact .cons h (ih e2 r).r
def LR (mes:List (aa×aa)) (k v:aa):(oF mes k v).length=(bif (kY mes k).isSome then mes.length else mes.length+1):=by
 delta oF;cases (kY mes k).isSome with
 |true=>exact Jt ..
 |false=>exact Jz
def Gd {mes:List (aa×aa)}{k v:aa}{n:Nat} (h:mes.length<n):(oF mes k v).length<=n:=by
 rw [LR];cases (kY mes k).isSome with
 |true=>exact JQ h
 |false=>exact h
def yZ {α:Type} [DecidableEq α] (kvs:List (α×Value)) (k:α):(valueAt kvs k).isSome=kvs.any (λkv=>kv.1=k):=by
 delta valueAt;rw [YN,Kd,List.find?_isSome,KD]
def Fk {A:Qo} (S:St Y k w H s) (hu:A.units+1<cLine) {D:Qi}{mes:List (aa×aa)}{es:List Qh}{n:Nat} (hob:s.heap.get? D=Qa (Ql es n)) (j:rM C w mes es) {x v:aa}{kv vv:Value} (hf:kX mes x=Qf) (hlen:mes.length<bh) (hk:kM C w x kv) (hv:kM C w v vv)
  {Q:Unit->Qe->Prop}{E:Value->Qe->Prop}
  (h: ∀es' h' tk,Heap.SameBut D s.heap h'->h'.get? D=Qa (Ql es' (bif (kY mes x).isSome then n else n+1)) ->rM C w (oF mes x v) es'->Q () {s with heap:=h',toks:=tk}):Qj C.M A (dictSet D kv vv) Q E s:=by
 have ci: ∀ {b:Bool}{x y:Nat},(if b=Qf then x else y)=(bif b then x else y):=λ{b x y} =>by cases b<;>rfl
 rcases uP (Jr.mp hf).1 with ⟨q,rfl⟩| ⟨q,rfl⟩
 ·obtain ⟨kvs,DD⟩:=j.atom hf
  obtain ⟨h1,h2⟩:=hk.atom;have hl:es.length<=sizeLine:=by rw [(rM.gx (.inl ⟨kvs,DD⟩)).1];exact Jq (JQ hlen) mZ
  have hany:=(DD.get q).isSome.trans (yZ kvs q);refine Hi (knd:=lM C.prog C.w) h1 hob DD.k DD.p DD.n hl λes' f hfe q1 q2 q3=>?_;rw [<-hany,ci] at hfe;have P:=Ua Lz q hv ⟨DD.e,DD.r⟩ hany;refine h es' _ _ (Heap.SameBut.update ..) ?_ (.inl ⟨_,q2,q1,q3,P.e,λp hp=>?_,P.r⟩)
  ·rw [<-hfe]
   exact Yq _ hob (by rw [hfe];rfl)
  ·unfold stored at hp
   split at hp
   ·obtain ⟨q,hq,rfl⟩:=JO.mp hp
    split<;>exact DD.ok q hq
   ·rcases J4.mp hp with hp|hp
    ·exact DD.ok p hp
    ·rw [JG.mp hp];exact h2
 ·obtain ⟨xs,DD⟩:=j.pg hf
  obtain ⟨t,rfl,ht⟩:=S.iz hk;have hl:xs.length<=sizeLine:=by rw [<-wY DD.e];exact Jq (JQ hlen) mZ
  refine Gx (knd:=tupleKind (lM C.prog C.w)) (qaS hu) ht (DD.es▸hob) (DD.ry S) DD.n hl λf hfe q3=>?_;have hany:=(DD.get q).isSome;rw [YN] at hany;rw [<-hany,ci] at hfe;have P:=Ua (mk:=λas:List ak=>aa.az (as.map ak.val)) Ab q hv ⟨DD.jw.1,DD.jw.2⟩ (by rw [<-yZ,QE,YN];exact hany);rw [<-kvsOf_storedH xs q t vv] at P;refine h _ _ _ (Heap.SameBut.update ..) ?_ (.inr ⟨_,rfl,q3,λx hx=>?_,?_,?_⟩)
  ·rw [<-hfe,<-DD.es]
   exact Yq _ hob (by rw [DD.es,hfe];rfl)
  ·rcases mem_storedH hx with ⟨y,hy,q1,q2⟩| ⟨q1,q2⟩
   ·rw [q1,q2];exact DD.v y hy
   ·rw [q1,q2];exact hk
  ·rw [P.e];simp [kvsOf]
  ·have:=P.r
   simpa [kvsOf,Function.comp_def] using this
theorem Pl.ext (p:Pl Y cx env k mE fr w H s) {q:Qi×Obj}{s':Qe} (S:St Y (k.ext q) w H s'):Pl Y cx env (k.ext q) mE fr w H s':=
 ⟨⟨p.b.kind,p.b.gl,p.b.bl,p.b.sc,p.b.cells,p.b.jz.imp id λ⟨o,h⟩=>⟨o,.tail _ h.1,h.2⟩⟩,p.f,S⟩
def Af:List (Value×Value) ->List Value
 | []=> []
 |p::r=>p.1::p.2::Af r
def EM (ws:List (Value×Value)):(Af ws).length=2*ws.length:=by
 induction ws with
 |nil=>rfl
 |cons p ws ih=>rw [ZC,Ku];exact congrArg (· +2) ih
abbrev dP (C:ax) (d:Nat) (cx:CC) (o:Option Expr) (i:Ex):Prop:= ∃e,o=Qa e/\Sd C d cx e i
def A0 {pos:Pos}{ks:List (Option Expr)}{ia:List Ex} (hk:mS (dP C d cx) ks ia): ∀ {vs:List Expr}{ib:List Ex},mj C d cx vs ib->ks.length=vs.length-> ∀ (Y:lB C d 2) (env:Env) (k:Kp) (mE:Str->Option Value) (fr:Frame) (w:Wd) (H:MH) (s:Qe),Pl Y cx env k mE fr w H s->
  bz Y k (λw l ws=>kL C w l (Af ws)) (evalPairs (pairTrees ks vs env pos)) w s (rD (C.cx d) (VZ ia ib) fr H):=by
 induction hk with
 |nil=>
  intro vs ib hv hl Y env k mE fr w H s p r e;cases hv with
  |nil=>refine mP e ?_;exact λQ E hq=>evalPairs_nil (hq w [] s (.refl p.st) .nil)
  |cons _ _=>cases hl
 |cons hk _ ih=>
  intro vs ib hv hl Y env k mE fr w H s p r;cases hv with
  |nil=>cases hl
  | @cons v b vs ib hv hvs=>
   obtain ⟨ke,rfl,hk⟩:=hk;refine kN λx H1 e1=>kN λl H2 e0 e=>?_
   revert e0
   refine kN λy H3 e2=>kN λl' H4 e3 e4=>?_;cases e4;refine mP e ?_;exact λQ E hq=>evalPairs_cons (hk.es Y env k mE fr w H s p _ e1 _ _ λw1 a1 s1 n1 r1=>Qc (hv.es Y env k mE fr w1 H1 s1 (p.next n1) _ e2 _ _ λw2 a2 s2 n2 r2=>Qc (Qm (Qg
    (ih hvs (ZQ.inj hl) Y env k mE fr w2 H3 s2 ((p.next n1).next n2) _ e3 _ _ λw3 a3 s3 n3 r3=>hq w3 ((a1,a2)::a3) s3 ((n1.trans n2).trans n3) (.cons (r1.mono (n2.le.trans n3.le)) (.cons (r2.mono n3.le) r3)))))))
def FR {D:Qi}: ∀ {ws:List (Value×Value)}{l:List aa}{mes mes':List (aa×aa)}{es:List Qh}{s:Qe}{Q:PUnit->Qe->Prop}{E:Value->Qe->Prop},
  kL C w l (Af ws) ->yD l mes=Qa mes'->mes.length+ws.length<=1000->St Y (k.ext (D,Ql es mes.length)) w H s->rM C w mes es->
  (∀es' s',St Y (k.ext (D,Ql es' mes'.length)) w H s'->rM C w mes' es'->rI s s'->Q PUnit.unit s') ->Qj C.M Y.A (storeAll D ws) Q E s:=by
 intro ws
 induction ws with
 |nil=>
  intro l mes mes' es s Q E r e _ S j hq;cases l with
  |nil=>obtain rfl:=Qa.inj e;exact Qg (hq es s S j (.refl s))
  |cons _ _=>obtain ⟨_,_,e,_,_⟩:=r;cases e
 |cons p ws ih=>
  intro l mes mes' es s Q E r e hl S j hq;cases l with
  |nil=>cases r
  |cons x l=>
   obtain ⟨kv,t,e1,hk,r⟩:=r;cases e1;cases l with
   |nil=>cases r
   |cons v l=>
    obtain ⟨vv,t,e1,hv,r⟩:=r;cases e1;obtain ⟨hf,e⟩:=gs e;delta storeAll;rw [Xi];refine Qc (Qc (Fk S (Y.u (n:=1) (by decide)) S.fh.1 j hf (Zm (Jy (Kb (ZV _)) hl:mes.length<1000) (by decide)) hk hv λes' h' tk hs hg j'=>Qg ?_));rw [<-LR (v:=v)] at hg;exact ih (s:={s with heap:=h',toks:=tk}) r e (Jq (JZ (Gd (J0 _)) _) (by rw [Ya];exact hl)) (S.jd hs hg) j' λes'' s'' S'' j'' sm=>hq es'' s'' S'' j'' ⟨sm.1,sm.2⟩
def IZ {ks:List (Option Expr)}{ia:List Ex} (hk:mS (dP C d cx) ks ia): ∀ {ib:List Ex},ib.length=ks.length->ks.all (·.isSome)=Qf/\(VZ ia ib).length=2*ks.length:=by
 induction hk with
 |nil=>exact λ_=>⟨rfl,rfl⟩
 |cons h _ ih=>
  intro ib hl;cases ib with
  |nil=>cases hl
  |cons b ib=>
   refine Zs h λ_ zq25=>?_;refine eqB zq25.1 ?_;exact ⟨(ih (ZQ.inj hl)).1,by rw [ZC,Ku,<-(ih (ZQ.inj hl)).2];rfl⟩
def Ba {ks:List (Option Expr)}{vs:List Expr}{ia ib:List Ex}{pos:Pos} (hk:mS (dP C d cx) ks ia) (hv:mj C d cx vs ib) (hl:ks.length=vs.length):nI C d cx (.Dict ks vs pos) (.dict (VZ ia ib)):=by
 intro Y env k mE fr w H s p r;refine kN λl H1 e1=>lC λes e2=>nB λhlen e=>?_;refine mP e ?_;have hlen:=Zd.mp hlen;refine xA (IZ hk (hv.length.trans hl.symm)) λhall hz=>?_;intro Q E hq;have S0 := p.st.je { cls := .type "dict",data := .dict #[] } rfl;have fe: ∀ {w':Wd}{des:List Qh}{s':Qe},w.le w'->St Y (k.ext (s.heap.objs.size,Ql des es.length)) w' H1 s'->rM C w' es des->es.length<=bh->rI s s'->Q (.ref s.heap.objs.size) s':=λ{w' des s'} le S' j' hl sm=>
  hq _ _ s' ⟨le.trans (⟨J5 _ _,λ_ x=>x⟩:w'.le ⟨w'.σ++ [s.heap.objs.size],w'.tp⟩),S'.wz (p.st.px (JA _)) ⟨des,_,rfl,λe he=>Qa.inj he,j'.mono (⟨J5 _ _,λ_ x=>x⟩:w'.le ⟨w'.σ++ [s.heap.objs.size],w'.tp⟩),hl⟩,sm⟩ ⟨_,rfl,by rw [<-S'.len];exact Zi⟩
 by_cases h0:ks= []
 ·subst h0
  cases hk;have hvs:vs= []:=Zy.mp hl.symm;subst hvs;cases hv;cases e1;obtain rfl:=Qa.inj e2;exact wpAny_Dict_empty (fe (s' := { s with heap := s.heap.push { cls := .type "dict",data := .dict #[] } }) (.refl w) S0 (.inl ⟨[],.nil⟩) (JJ _) ⟨rfl,rfl⟩)
 ·refine wpAny_Dict_any hall hl h0 (by lia) (A0 hk hv hl Y env _ mE fr w H _ (p.ext S0) _ e1 _ _ λw1 ws s1 n1 r1=>?_)
  have hws:l.length=2*ws.length:=by rw [<-EM];exact r1.length
  have hel:l.length=(VZ ia ib).length:=sD e1;have hsz: ∀ {l:List aa}{mes mes':List (aa×aa)},yD l mes=Qa mes'->mes'.length<=mes.length+l.length:=by
   intro l mes mes' e
   fun_induction yD l mes with
   |case1=>cases e;exact JA _
   |case2=>cases e
   |case3 es k v r ih=>
    refine xA (gs e) λ_ e=>?_;refine Jq (ih e) (Jq (JZ (Gd (J0 _)) _) ?_);simp only [ZC];lia
  have hes:=hsz e2;exact FR (mes:=[]) (es:=[]) r1 e2 (by rw [qah];lia) n1.st (.inl ⟨[],.nil⟩) λdes s' S' j' sm=>fe n1.le S' j' (by rw [qah] at hes;exact Jq hes (Jq (Jq (JM (Z3 _)) (Jq (JM hel) hlen):_<=30) (by decide))) (rI.trans (b:=s1) ⟨n1.ck.1,n1.ck.2⟩ sm)
def Ik {i:Int}{n:Nat} (h:0<=i):max 0 (min (if i<0 then i+(n:Int) else i) (n:Int))=((min i.toNat n:Nat):Int):=by
 rw [if_neg (YW.mpr h)];obtain ⟨m,rfl⟩:=Int.eq_ofNat_of_zero_le h;simp only [KF];rcases Nat.le_total m n with e|e
 ·rw [YE e,Int.min_eq_left (Yi.mpr e)];exact Int.max_eq_right (KU m)
 ·rw [XU e,Int.min_eq_right (Yi.mpr e)];exact Int.max_eq_right (KU n)
def AF (s:List Nat) {l u:Option Int} (hl: ∀i,l=Qa i->0<=i) (hu: ∀i,u=Qa i->0<=i):
  Txt.slice ⟨s.toArray⟩ l u=⟨(oh s (l.elim 0 (λi=>min i.toNat s.length)) (u.elim s.length (λi=>min i.toNat s.length))).toArray⟩:=by
 have hlen:(⟨s.toArray⟩:Str).length=s.length:=rfl
 generalize ha:l.elim 0 (λi=>min i.toNat s.length)=a
 generalize hb:u.elim s.length (λi=>min i.toNat s.length)=b
 have hbn:b<=s.length:=by
  cases u with
  |none=>exact JM hb.symm
  |some j=>exact hb▸XX _ _
 have hidx:Xp l u 1 s.length=(JW (b-a)).map (a+ ·):=by
  rw [<-sliceRange_one];delta Xp;simp only [show (1:Int)>0 by decide,if_true]
  congr 1
  ·cases l with
   |none=>exact congrArg qa8 ha
   |some i=>
    have:=hl i rfl
    simp only [qbm] at ha;exact (Ik this).trans (congrArg qa8 ha)
  ·cases u with
   |none=>exact congrArg qa8 hb
   |some i=>
    have:=hu i rfl
    simp only [qbm] at hb;exact (Ik this).trans (congrArg qa8 hb)
 delta Txt.slice;rw [hlen,hidx];rw [(pick_run s.toArray a (b-a):(Xs (λx=>a+x) (JW (b-a))).filterMap (λx=>(⟨s.toArray⟩:Str).cps[x]?)=(s.drop a).take (b-a)),(by unfold oh;rw [List.drop_take]:oh s a b=(s.drop a).take (b-a))];split
 ·rename_i h
  simp only [beq_self_eq_true,XH,beq_iff_eq,Jt,J9] at h;by_cases h0:s.length=0
  ·rw [Zy.mp h0];simp
  ·rw [show a=0 from Nat.eq_zero_of_not_pos λha=>Z2 (Jy (qaM (Yk λe=>h0 (by rw [<-h,e,Nat.zero_sub])) ha) hbn) h,show b=s.length by exact KJ hbn (Jq (JM (qaw h)) (qaN _ _))];simp
 ·rfl
structure aG (C:ax) (v:Value) (l:Option Int):Prop where
 nn: ∀i,l=Qa i->0<=i
 p:(l=Qd/\v= .none)\/∃i t,l=Qa i/\v= .int i t
def An {n c:Nat}{x:aa}{v:Value} (hv:kM C w x v) (h:xM n x=Qa c): ∃i,aG C v (Qa i)/\c=min i.toNat n:=by
 refine xEA (bs h) λi e1 h=>?_;refine xA (gs h) λhb e=>?_;refine xE (hv.int? e1) λt e2=>?_;exact ⟨i,⟨λj q=>Qa.inj q▸of_decide_eq_true hb,.inr ⟨i,t,rfl,e2⟩⟩,(Qa.inj e).symm⟩
theorem OV {x:List Nat}{a b:Nat} (h:tx x):tx (oh x a b):=
 ⟨λc hc=>h.1 c (Kw (List.mem_of_mem_drop hc)),Jq (by unfold oh;rw [qaV,Kx];exact Jq (qaN _ _) (XX _ _)) h.2⟩
def MZ {value:Expr}{lo' hi':Option Expr}{sp:Pos} (hc:(qY value).isSome=Qf) {s0:Qe} (S:St Y k w H s0) {o:aa}{ov vl vu:Value}{n':Nat}{bvs:List aa} (ho:kM C w o ov)
  (hb : ∀ n p,W6 n n' bvs = Qa p -> ∃ l u,aG C vl l /\ aG C vu u /\ p = (l.elim 0 (λi => min i.toNat n),u.elim n (λi => min i.toNat n))) (hs : s = { s0 with heap := s0.heap.push { cls := .type "slice",data := .fields #[vl,vu,.none] } }) {r : aa × MH} (e : slice H o n' bvs = Qa r) {Q : Value -> Qe -> Prop} {E : Value -> Qe -> Prop}
  (hq: ∀w' a s',jf Y k w w' r.2 s0 s'->kM C w' r.1 a->Q a s'):Qj C.M Y.A (subscriptTail value (.Slice lo' hi' Qd sp) ov (.ref s0.heap.objs.size)) Q E s:=by
 subst hs;have hgo: ∀o r,letTemporaryGo value o r=pure ():=by
  exact (Zt.mp hc).elim λp zq18=>(rH zq18)▸λ_ _=>rfl
 revert e
 refine lC λx e1=>lC λp e2 e=>?_
 ·cases e
  obtain ⟨t,rfl,ok⟩:=ho.str? e1;obtain ⟨l,u,⟨p1,p2⟩,⟨p3,p4⟩,rfl⟩:=hb _ _ e2;obtain ⟨all,hn,_,_,g3⟩:=S.dp;have hsz:(⟨x.toArray⟩:Str).length<=sizeLine:=Jq ok.2 mZ;have fe: ∀ (h':Qs) (t':Tok) (tk:Nat),Fr Y.h₀ Y.L h' k.m->News Y.h₀ Y.L h' all->Q (.str (Txt.slice ⟨x.toArray⟩ l u) t') {s0 with heap:=h',toks:=tk}:=λh' t' tk F N=>by
   rw [AF x p1 p3];exact hq w _ _ ⟨.refl w,g3 h' F N,rfl,rfl⟩ ⟨t',rfl,OV ok⟩
  rcases p2 with ⟨rfl,rfl⟩| ⟨i,ti,rfl,rfl⟩
  ·rcases p4 with ⟨rfl,rfl⟩| ⟨j,tj,rfl,rfl⟩
   ·exact slice_strN_nn S.fr hn fe rfl (hgo _) hsz
   ·exact slice_strN_ns S.fr hn fe rfl (hgo _) hsz
  ·rcases p4 with ⟨rfl,rfl⟩| ⟨j,tj,rfl,rfl⟩
   ·exact slice_strN_sn S.fr hn fe rfl (hgo _) hsz
   ·exact slice_strN_ss S.fr hn fe rfl (hgo _) hsz
def AX {v:Expr}{lo hi:Option Expr}{sp pos:Pos}{ie:Ex}{f:Expr->Option Ex}{q:Nat×List Ex} (hc:(qY v).isSome=Qf) (hv:nI C d cx v ie) (hf: ∀e i,f e=Qa i->Sd C d cx e i) (hb:Gk f lo hi=Qa q):nI C d cx (.Subscript v (.Slice lo hi Qd sp) pos) (.slice ie q.1 q.2):=by
 intro Y env k mE fr w H s p r;refine kN λx H1 e1=>kN λbv H2 e2 e=>?_;intro Q E hq;refine Subscript_ (hv Y env k mE fr w H s p _ e1 _ _ λw1 a1 s1 n1 r1=>wpAny_Slice ?_);have p1:=p.next n1;have fe: ∀ {w3:Wd}{s3:Qe}{vl vu:Value},jf Y k w1 w3 H2 s1 s3->(∀n p,W6 n q.1 bv=Qa p-> ∃l u,aG C vl l/\aG C vu u/\p=(l.elim 0 (λi=>min i.toNat n),u.elim n (λi=>min i.toNat n))) ->
   Qj C.M Y.A (evalPart Qd env) (λst s₃ => Qj C.M Y.A (subscriptTail v (.Slice lo hi Qd sp) a1 (.ref s₃.heap.objs.size)) Q E { s₃ with heap := s₃.heap.push { cls := .type "slice",data := .fields #[vl,vu,st] } }) E s3 := λ{w3 s3 vl vu} n3 hbb =>
  Qg (MZ hc n3.st (r1.mono n3.le) hbb rfl e λw4 a4 s4 n4 r4=>hq w4 a4 s4 ((n1.trans n3).trans n4) r4)
 cases lo with
 |none=>cases hb
 |some a=>
  refine xEA (bs hb) λxa hxa hb=>?_;cases hi with
  |none=>cases hb
  |some b=>
   refine (ms hb).elim λy zq5=>?_;have e3:=zq5.2;subst e3
   revert e2
   refine kN λx' H3 e2=>kN λl H4 e5 e4=>?_;cases e4
   revert e5
   refine kN λy' H5 e3=>kN λl' H6 e6 e7=>?_;cases e6;cases e7;refine (hf _ _ hxa).es Y env k mE fr w1 H1 s1 p1 _ e2 _ _ λw2 a2 s2 n2 r2=>(hf _ _ zq5.1).es Y env k mE fr w2 H3 s2 (p1.next n2) _ e3 _ _ λw3 a3 s3 n3 r3=>fe (n2.trans n3) λn p h=>?_;refine xEA (bs (o:=xM n x') (f:=λx=>(xM n y').map λy=>(x,y)) h) λc h1 h=>?_;obtain ⟨c',h2,rfl⟩:=ms h;refine (An (r2.mono n3.le) h1).elim λi zq2=>?_;obtain rfl:=zq2.2;refine (An r3 h2).elim λj zq1=>?_;obtain rfl:=zq1.2;exact ⟨Qa i,Qa j,zq2.1,zq1.1,rfl⟩
end
section
variable {C:ax}{d e:Nat}{Y:lB C d e}{k:Kp}{w:Wd}{H:MH}{s:Qe}{as:List aa}{vs:List Value}
theorem AY (S : St Y k w H s) {x : aa} {v : Value} (hx : kM C w x v) : bz Y k (VR C) (call (.type "set") [v]) w s (Pw x H) := .none
end
end Internal
namespace Internal
open PySem PySem.W PySem.Calls PySem.NumText PyProof.Rows
section
variable {α β:Type}{C:ax}{d e:Nat}{Y:lB C d e}{k:Kp}{R:Wd->β->α->Prop}{w:Wd}{s:Qe}{T:List Value->Sem α}{as:List aa}{vs:List Value}
def bz.a0 {o:Option (β×MH)} (r:kL C w as vs) (h:bz Y k R (T []) w s o):bz Y k R (T vs) w s (a0 as o):=by
 cases as with
 |nil=>refine eqB r ?_;exact h
 |cons _ _=>exact .none
def bz.a1 {f:aa->Option (β×MH)} (r:kL C w as vs) (h: ∀v rv,kM C w v rv->bz Y k R (T [rv]) w s (f v)):bz Y k R (T vs) w s (a1 as f):=by
 cases as with
 |nil=>exact .none
 |cons v as=>obtain ⟨rv,t,rfl,hv,r⟩:=r;exact .a0 (T:=λl=>T (rv::l)) r (h v rv hv)
def bz.a2 {f:aa->aa->Option (β×MH)} (r:kL C w as vs) (h: ∀v rv,kM C w v rv-> ∀v' rv',kM C w v' rv'->bz Y k R (T [rv,rv']) w s (f v v')):bz Y k R (T vs) w s (a2 as f):=by
 cases as with
 |nil=>exact .none
 |cons v as=>obtain ⟨rv,t,rfl,hv,r⟩:=r;exact .a1 (T:=λl=>T (rv::l)) r (h v rv hv)
end
def EO (l:List Nat):Nat:=l.foldl (λa c=>a*256+c) 0
def yB (l:List Nat) (c:Nat):EO (l++ [c])=EO l*256+c:=by unfold EO;rw [YO];rfl
def CZ {a b c c':Nat} (h1:c<=255) (h2:c'<=255) (e:a*256+c=b*256+c'):a=b/\c=c':=by lia
def C0: ∀ (n:Nat) (l l':List Nat),l.length<=n->(∀c∈l,1<=c/\c<=255) ->(∀c∈l',1<=c/\c<=255) ->EO l=EO l'->l=l':=by
 have nz: ∀ {r:List Nat}{c:Nat},(∀x∈r++ [c],1<=x/\x<=255) ->EO (r++ [c])≠0:=λ{r c} h e=>by
  rw [yB] at e
  have:=(h c (JV _ (.head _))).1
  lia
 intro n
 induction n with
 |zero=>
  intro l l' hl h h' e;cases Zy.mp (Xy.mp hl);rcases Yr l' with rfl| ⟨r,c,rfl⟩
  ·rfl
  ·rw [KY] at*;exact absurd e.symm (nz h')
 |succ n ih=>
  intro l l' hl h h' e;rcases Yr l with rfl| ⟨r,c,rfl⟩
  ·rcases Yr l' with rfl| ⟨r',c',rfl⟩
   ·rfl
   ·rw [KY] at*;exact absurd e.symm (nz h')
  ·rcases Yr l' with rfl| ⟨r',c',rfl⟩
   ·rw [KY] at*;exact absurd e (nz h)
   ·rw [KY] at*
    rw [KY,yB,yB] at*;obtain ⟨e1,e2⟩:=CZ (h c (JV _ (.head _))).2 (h' c' (JV _ (.head _))).2 e;rw [e2,ih r r' (by rw [Jz] at hl;exact Yl hl) (λx hx=>h x (Zj _ hx)) (λx hx=>h' x (Zj _ hx)) e1]
def Gc {x y:Str} (hx:kQ x=Qf) (hy:kQ y=Qf) (e:ez x=ez y):x=y:=by
 have hd: ∀z:Str,kQ z=Qf-> ∀c∈z.cps.toList,1<=c/\c<=255:=by
  intro z hz c hc;delta kQ at hz;simp only [ZY,ZD,decide_eq_true_eq] at hz;exact hz.1.1.1.1 c hc
 have:=C0 _ x.cps.toList y.cps.toList (JA _) (hd x hx) (hd y hy) e
 cases x;cases y;exact congrArg Str.mk (Array.toList_inj.mp this)
section
variable {prog:Qt}{w:Qn}{A:Qo}{E:Value->Qe->Prop}{s:Qe}
theorem Bn (d:Qi) (es:List Qh) (n:Nat) (hd:(d==sysModules)=Qb):
  MeetsIn prog w (Builtin.«dict.__len__» ⟨[.ref d],[]⟩) (λ_ R s=>s.heap.get? d=Qa (Ql es n)/\R (.ok (.ret (.int es.length s.toks))) {s with toks:=s.toks+1}):=
 .of_wp λA R s ⟨ho,h⟩=>by
  show Qj _ _ (dictSize d>>=_) _ _ s;delta dictSize;refine Qc (Qc (Qp ho rfl (Qg ?_)));exact Qc (wpAny_pendingCount_other hd (wpAny_ret_mkInt (by simpa using h)))
def Ni {d:Qi}{es:List Qh}{n:Nat}{Q:Value->Qe->Prop} (hd:(d==sysModules)=Qb) (ho:s.heap.get? d=Qa (Ql es n)) (hfit:(es.length:Int)<2 ^ 63)
  (h : Q (.int es.length (s.toks + 1)) { s with toks := s.toks + 1 + 1 }) : Qj (model prog w) A (call (.builtin "len") [.ref d]) Q E s := by
 refine Calls.call_function_entry kind_len plain_len entry_len (args_len1 _) ?_;unfold Builtin.«len»;refine Qc (m:=oneArg "len" _) (Qg ?_);refine Qc (m:=callSpecial? (.ref d) (Str.ofString "__len__")) (wpAny_callSpecial?_slot (name:=Str.ofString "__len__") (⟨_,ho,rfl⟩ : s.TypeIs (.ref d) "dict") F.slot_dict_len
  (QH F.slot_dict_len (⟨_,ho,rfl⟩ : s.TypeIs (.ref d) "dict") F.entry_dict_len (F.args_dict_len_1 _) (Bn d es n hd) ⟨ho,?_⟩))
 refine Qc (Qk (Qg ?_));refine Qc (wpAny_letGo ?_);refine wN (YW.mpr (KU _)) ?_;refine wN (qaL.mpr hfit) ?_;exact Qc (wpAny_mkInt (Qg ⟨_,rfl,h⟩))
end
section
variable {C:ax}{d e:Nat}{Y:lB C d e}{k:Kp}{w:Wd}{H:MH}{s:Qe}{as:List aa}{vs:List Value}
def MV (S : St Y k w H s) (r : kL C w as vs) : bz Y k (VR C) (call (.builtin "len") vs) w s (Rb as H) := by
 refine .a1 (T:=λl => call (.builtin "len") l) r λx v hx => .jl λn e => .val S λQ E q => ?_;have q: ∀t tk,Q (.int n t) {s with toks:=tk}:=λt tk=>q _ tk ⟨t,rfl⟩;have lst : ∀ {b : Qi} {ws : List Value},s.heap.IsList b ws.toArray -> n = ws.length -> n <= bh -> Qj C.M Y.A (call (.builtin "len") [.ref b]) Q E s := λ{b ws} hL e hl => by
  subst e;exact len_list hL (tF hl) (q _ _)
 cases x with
 |str l=>cases e;obtain ⟨t,rfl,ok⟩:=hx;exact len_str (qaL.mpr (tF ok.2)) (q _ _)
 |az l=>
  cases e;obtain ⟨t,o,n',ws,rfl,ho,hc,hd,rr,hl⟩:=S.az hx;refine PyProof.Rows.len_tuple (items:=ws.toArray) ⟨o,ho,hc,n',hd⟩ (by rw [(by rw [Zo,rr.length]:ws.toArray.size=l.length)];exact tF hl) ?_;rw [(by rw [Zo,rr.length]:ws.toArray.size=l.length)];exact q _ _
 |fl l=>cases e;obtain ⟨b,o,n',ws,rfl,h,rr,hl⟩:=hx;exact lst ⟨o,S.mz _ _ h.1,h.2,n',h.3⟩ rr.length hl
 |ref i=>
  revert e
  refine mB (lY λl hl e=>?_) (lY λp hp e=>?_)
  ·obtain ⟨t,ws,n',rfl,ho,rr,hl⟩:=S.list hx hl
   exact lst ⟨_,ho,rfl,n',rfl⟩ (e.symm.trans rr.length) (e▸hl)
  ·obtain ⟨_,_,b,n',es,rfl,hmod,_,hg,hdr,hl,_⟩:=S.dict hx hp
   exact Ni hmod hg (by rw [hdr.gx.1];exact tF hl) (by rw [(hdr.gx.1.trans e)];exact q _ _)
 |qy i=>
  cases e;obtain ⟨_,_,_,_,_,rfl,h⟩:=hx;exact call_len_set (S.wc h.1) h.2 h.3 h.4 (by rw [h.5];exact tF h.6) (by rw [h.5];exact q _ _)
 |_=>exact ag e
theorem cg.pv {h h':Qs} (S:cg C Y.h₀ Y.L k w H h) (hk: ∀b o,h.get? b=Qa o->h'.get? b=Qa o):cg C Y.h₀ Y.L k w H h':=
 Pn.casesOn S.dp λall hn _ _ g=>g h' (S.fr.keeps hk) λp hp=>⟨hk _ _ (hn p hp).1,(hn p hp).2⟩
def bz.int {t:Sem Value}{z:Int} (S:St Y k w H s) (h: ∀ (Q:Value->Qe->Prop) (E:Value->Qe->Prop),(∀u h' tk,(∀b o,s.heap.get? b=Qa o->h'.get? b=Qa o) ->Q (.int z u) {s with heap:=h',toks:=tk}) ->Qj C.M Y.A t Q E s):bz Y k (VR C) t w s (Qa (.int z,H)):=by
 intro r e;refine mP e ?_;exact λQ E hq=>h Q E λu h' tk hk=>hq w _ _ ⟨.refl w,S.pv hk,rfl,rfl⟩ ⟨u,rfl⟩
def MU (S : St Y k w H s) (r : kL C w as vs) : bz Y k (VR C) (call (.builtin "max") vs) w s (Ra as H) := by
 refine .a2 (T:=λl => call (.builtin "max") l) r λx v hx y u hy => .gj λa ea => .jl λb eb => ?_;obtain ⟨_,rfl⟩:=hx.int? ea;obtain ⟨_,rfl⟩:=hy.int? eb;refine .int S λQ E q=>max_two_ints Y.handled λh' tk hk=>?_;by_cases c:b>a
 ·rw [if_pos c] at q ⊢;exact q _ h' tk hk
 ·rw [if_neg c] at q ⊢;exact q _ h' tk hk
def MT (S : St Y k w H s) (r : kL C w as vs) : bz Y k (VR C) (call (.builtin "min") vs) w s (P9 as H) := by
 refine .a2 (T:=λl => call (.builtin "min") l) r λx v hx y u hy => .gj λa ea => .jl λb eb => ?_;obtain ⟨_,rfl⟩:=hx.int? ea;obtain ⟨_,rfl⟩:=hy.int? eb;refine .int S λQ E q=>min_two_ints Y.handled λh' tk hk=>?_;by_cases c:b<a
 ·rw [if_pos c] at q ⊢;exact q _ h' tk hk
 ·rw [if_neg c] at q ⊢;exact q _ h' tk hk
def wK {t:List (Nat×String)}{n m:Nat}{x y:String} (h:(n==m)=Qf) (hx:t.lookup n=Qa x) (hy:t.lookup m=Qa y):x=y:=by rw [beq_iff_eq.mp h] at hx;exact Qa.inj (hx.symm.trans hy)
def AZ (S : St Y k w H s) (r : kL C w as vs) : bz Y k (VR C) (call (.type "range") vs) w s (Dr as H) := by
 refine .a1 (T:=λl => call (.type "range") l) r λx v hx => .jl λn e => ?_;obtain ⟨t,rfl⟩:=hx.int? e;intro r' e';refine mP e' ?_;obtain ⟨all,hn,_,tp,_⟩:=S.dp;exact λQ E hq=>call_range_1 (hq ⟨w.σ,_::w.tp⟩ _ {s with heap:=_,toks:=_} ⟨⟨Yd _,λp hp=> .tail _ hp⟩,tp _ _ _ (S.fr.push _) (hn.push S.fr _) (JA _),rfl,rfl⟩ ⟨_,_,_,_,rfl,.head _⟩)
def Hv (S : St Y k w H s) (r : kL C w as vs) : bz Y k (VR C) (call (.type "list") vs) w s (FB as H) := by
 have key : ∀ {mvs : List aa} {ws : List Value} {la : Qi} {o : Obj} {n : Nat},kL C w mvs ws -> mvs.length <= bh -> s.heap.get? la = Qa o -> (o.cls = .type "list" \/ o.cls = .type "tuple") -> o.data = .seq ws.toArray n -> bz Y k (VR C) (call (.type "list") [.ref la]) w s (lZ H (.list mvs)) := by
  intro mvs ws la o n rr hl ho hc hd r' e' Q E hq;obtain rfl:=Qa.inj e';obtain ⟨all,hn,add,_,_⟩:=S.dp;have le:w.le ⟨w.σ++ [s.heap.objs.size],w.tp⟩:=⟨J5 _ _,λ_ x=>x⟩;have hsz:ws.toArray.size<=sizeLine:=by rw [Zo,<-rr.length];exact Jq hl mZ
  have fe: ∀h' c',(∀b o,s.heap.get? b=Qa o->h'.get? b=Qa o) ->h'.get? s.heap.objs.size=Qa (listOf ws.toArray c') ->Q (.ref s.heap.objs.size) {s with heap:=h'}:=λh' c' hk hD=>
   hq _ _ _ ⟨le,add _ (.list mvs) [_] h' ⟨ws,c',rfl,rr.mono le,hl⟩ (S.fr.keeps hk) (news_pushed S.fr hn hk hD rfl) (pC _) (News.gw hn λp hp=>JG.mp hp▸JA _) (S.px (JA _)),rfl,rfl⟩ ⟨_,rfl,by rw [<-S.len];exact Zi⟩
  rcases hc with hc|hc
  ·exact call_list_seq (hsz:=hsz) la (.inl rfl) ho hc hd fe
  ·exact call_list_seq (hsz:=hsz) la (.inr rfl) ho hc hd fe
 refine .a1 (T:=λl => call (.type "list") l) r λx v hx => .ay (.gj λl e => ?_) (.ay (.gj λl e => ?_) (.gj λl e => ?_))
 ·cases tup?_s e
  obtain ⟨t,o,n,ws,rfl,ho,hc,hd,rr,hl⟩:=S.az hx;exact key rr hl ho (.inr hc) hd
 ·cases fl?_s e
  obtain ⟨t,o,n,ws,rfl,q,rr,hl⟩:=hx;exact key rr hl (S.mz _ _ q.1) (.inl q.2) q.3
 ·obtain ⟨la,ws,n,rfl,ho,rr,hl⟩:=S.list hx e
  exact key rr hl ho (.inl rfl) rfl
def Ht (S : St Y k w H s) (r : kL C w as vs) : bz Y k (VR C) (call (.type "type") vs) w s (FA as H) := by
 refine .a1 (T:=λl => call (.type "type") l) r λx v hx => .jl λn e => .val S λQ E q => ?_;have fe: ∀ {T:String},sJ.lookup n=Qa T->Q (.type T) s:=λhT=>q _ s.toks ⟨_,rfl,hT⟩;cases x with
 | none => obtain rfl := Qa.inj e; refine eqB hx ?_; exact QC (Tx:="NoneType") rfl rfl (fe rfl)
 | bool b => obtain rfl := Qa.inj e; refine eqB hx ?_; exact QC (Tx:="bool") rfl rfl (fe rfl)
 | int i => obtain rfl := Qa.inj e; obtain ⟨_,rfl⟩ := hx; exact QC (Tx:="int") rfl rfl (fe rfl)
 | str l => obtain rfl := Qa.inj e; obtain ⟨_,rfl,_⟩ := hx; exact QC (Tx:="str") rfl rfl (fe rfl)
 | az l => obtain rfl := Qa.inj e; obtain ⟨t,o,n,ws,rfl,ho,hc,_,_,_⟩ := S.az hx; exact QC (Tx:="tuple") ⟨o,ho,hc⟩ rfl (fe rfl)
 |ref i=>
  refine (ms e).elim λl zq9=>?_;have e:=zq9.2;subst e;obtain ⟨la,ws,n,rfl,ho,_,_⟩:=(S.list hx zq9.1);exact QC (Tx:="list") ⟨_,ho,rfl⟩ rfl (fe rfl)
 |_=>exact ag e
def Hw (S : St Y k w H s) (r : kL C w as vs) : bz Y k (VR C) (call (.type "dict") vs) w s (FC as H) := by
 refine .a1 (T:=λl => call (.type "dict") l) r λx v hx => .gj λp hp => .au λhk => ?_;intro r' e';refine mP e' ?_;refine (S.dict hx hp).elim λ_ zq4=>?_;obtain ⟨b,n,es,rfl,hmod,_,hg,hdr,hl,_⟩:=zq4.2;obtain ⟨kvs,D⟩: ∃kvs,DA C w p.2 es kvs:=by
  cases hp2:p.2 with
  |nil=>rw [hp2] at hdr;exact hdr.atom (a:=.i 0) rfl
  |cons q qs=>
   rw [hp2] at hdr hk;have h1:=beq_iff_eq.mp (Jr.mp hk).1;rcases hdr with h| ⟨xs,D⟩
   ·exact h
   ·have e:=D.e
    cases xs with
    |nil=>cases e
    |cons x xs=>rw [show q.1= .az (x.1.map ak.val) from (KB.inj e).1,oU] at h1;cases h1
 obtain ⟨all,hn,add,_,_⟩:=S.dp;refine λQ E hq=>kt_call_dict (knd:=lM C.prog C.w) hmod (D.dictOf hg) (by rw [<-wY D.e];exact Jq hl mZ) λh' hD hs=>?_;obtain ⟨o,es',ep',ho',hex,hd,q1,q2,q3⟩:=hD;have hoe:o=Ql es'.toList ep':=by
  obtain ⟨oc,od,odata,osl⟩:=o;obtain ⟨x1,x2,x3⟩:=hex;subst x1;subst x2;cases x3;cases hd;rfl
 have hkeep: ∀c x,s.heap.get? c=Qa x->h'.get? c=Qa x:=λc x hc=>(hs.2 c (Z2 (K5 hc))).trans (Heap.get?_push_of_some _ hc);refine hq _ _ {s with heap:=h'} ⟨(⟨J5 _ _,λ_ x=>x⟩:w.le ⟨w.σ++ [s.heap.objs.size],w.tp⟩),add _ (.dict Qd p.2) [(s.heap.objs.size,Ql es'.toList ep')] h' ⟨_,_,rfl,λe he=>ag he,rM.mono (⟨J5 _ _,λ_ x=>x⟩:w.le ⟨w.σ++ [s.heap.objs.size],w.tp⟩) (.inl ⟨kvs,q2,q1,D.n,D.e,D.ok,D.r⟩),hl⟩ (S.fr.keeps hkeep) (λq hq=>?_) (pC _) (News.gw hn λp hp=>JG.mp hp▸JA _) (S.px (JA _)),rfl,rfl⟩ ⟨_,rfl,by rw [<-S.len];exact Zi⟩;rcases JT.mp hq with e|hq
 ·rw [e]
  exact ⟨by rw [<-hoe];exact ho',Ka S.fr.ns.lt,Heap.get?_none_of_le (Jq S.fr.above (JQ S.fr.ns.lt))⟩
 ·exact ⟨hkeep _ _ (hn q hq).1,(hn q hq).2⟩
theorem Sf {n:Nat}{nm:String} (hb:sJ.lookup n=Qa nm) (S:St Y k w H s) (r:kL C w as vs):bz Y k (VR C) (call (.type nm) vs) w s (Gh n as H):=
 .ay (.au λh => wK (t:=sJ) h hb (y:="range") rfl ▸ AZ S r) (.ay (.au λh => wK (t:=sJ) h hb (y:="list") rfl ▸ Hv S r) (.ay (.au λh => .none)
 (.ay (.au λh => wK (t:=sJ) h hb (y:="type") rfl ▸ Ht S r) (.ay (.au λh => wK (t:=sJ) h hb (y:="dict") rfl ▸ Hw S r) (.ay (.au λh => .none) (.au λh => wK (t:=sJ) h hb (y:="set") rfl ▸ .a1 (T:=λl => call (.type "set") l) r λx v hx => AY S hx))))))
end
def El : kQ "append" = Qf /\ ez "append" = ew := by decide +kernel
def SJ : kQ "pop" = Qf /\ ez "pop" = rm := by decide +kernel
def SK : kQ "get" = Qf /\ ez "get" = ma := by decide +kernel
def HC : kQ "isspace" = Qf /\ ez "isspace" = lz := by decide +kernel
theorem UT {nm x:Str}{n:Nat} (hn:kQ nm=Qf) (ok:kQ x=Qf/\ez x=n) (h:(ez nm==n)=Qf):x=nm:=Gc ok.1 hn (ok.2.trans (beq_iff_eq.mp h).symm)
def IR {C:ax}{d e:Nat} (Y:lB C d e) (k:Kp) (w:Wd) (vx:Value) (vs:List aa) (h2:MH) (r:aa×MH) (id:String):Prop:=
 ∀w2 s2 ws,w.le w2->St Y k w2 h2 s2->kL C w2 vs ws->IW Y k (VR C) (call (.builtin id) (vx::ws)) w2 s2 r.1 r.2
def Pm {C:ax}{d e:Nat} (Y:lB C d e) (k:Kp) (w:Wd) (s:Qe) (vx:Value) (nm:Str) (vs:List aa) (h2:MH) (r:aa×MH):Prop:=
 ∀ (pl:Sem Bool) (Q:Value×List Value->Qe->Prop) (E:Value->Qe->Prop),(∀id,IR Y k w vx vs h2 r id->Q (.builtin id,[vx]) s) ->Qj C.M Y.A (getMethod vx nm pl) Q E s
section
variable {C:ax}{d e:Nat}{Y:lB C d e}{k:Kp}{w:Wd}{H:MH}{s:Qe}
theorem IR.of {vx:Value}{vs:List aa}{h2:MH}{r:aa×MH}{id:String}{o:Option (aa×MH)} (e:o=Qa r) (h: ∀w2 s2 ws,w.le w2->St Y k w2 h2 s2->kL C w2 vs ws->bz Y k (VR C) (call (.builtin id) (vx::ws)) w2 s2 o):IR Y k w vx vs h2 r id:=
 λw2 s2 ws l S2 rr=>h w2 s2 ws l S2 rr r e
def GT {nm:Str} (hn:kQ nm=Qf) {x:List Nat}{u:Tok} (ok:tx x) {vs:List aa}{h2:MH}{r:aa×MH}:Dx x (ez nm) vs h2=Qa r->Pm Y k w s (.str ⟨x.toArray⟩ u) nm vs h2 r:=by
 refine nB λh e=>?_;cases UT hn HC h;refine λpl Q E q => GM.isspace (q "str.isspace" (.of e λw2 s2 ws l S2 rr => .a0 (T:=λl => call (.builtin "str.isspace") (_ :: l)) rr (.val S2 λQ E q => SC.isspace (q _ s2.toks rfl))))
def Cr {mvs:List aa}: ∀ {ws:List Value}{v:aa},kL C w mvs ws->mvs.getLast?=Qa v-> ∃p y,kl_last ws=Qa (p,y)/\kL C w mvs.dropLast p/\kM C w v y:=by
 intro ws v r e;have hne:mvs≠ []:=λq=>by rw [q] at e;cases e
 have hl:kl_last ws≠none:=λq=>by
  rw [kl_last_none q] at r;cases mvs with
  |nil=>exact hne rfl
  |cons _ _=>obtain ⟨_,_,e,_,_⟩:=r;cases e
 obtain ⟨⟨p,y⟩,hpy⟩:=Option.ne_none_iff_exists'.mp hl;refine ⟨p,y,hpy,?_⟩;have hm:mvs.dropLast++ [v]=mvs:=by
  have h1:=Xj hne;rwa [show mvs.getLast hne=v from Qa.inj ((List.getLast?_eq_getLast hne).symm.trans e)] at h1
 rw [<-hm,kl_last_spec hpy] at r
 clear hm hpy hl e hne
 generalize mvs.dropLast=q at r ⊢
 induction q generalizing p with
 |nil=>
  cases p with
  |nil=>obtain ⟨_,_,e,h,_⟩:=r;cases e;exact ⟨.nil,h⟩
  |cons a p=>have:=r.length;simp at this
 |cons b q ih=>
  cases p with
  |nil=>have:=r.length;simp at this
  |cons a p=>
   obtain ⟨_,_,e,h,r⟩:=r;cases e;obtain ⟨h1,h2⟩:=ih p r;exact ⟨.cons h h1,h2⟩
inductive Rl {C:ax}{d e:Nat} (Y:lB C d e) (k:Kp) (w:Wd) (H:MH) (s:Qe) (i:Nat) (la:Qi) (mvs:List aa):Prop
 |mk (ws:List Value) (n:Nat) (pre post:bt) (r:kL C w mvs ws) (l:mvs.length<=bh) (hn:News Y.h₀ Y.L s.heap (pre++(la,listOf ws.toArray n)::post))
   (u: ∀ws' n',Upd la (listOf ws.toArray n) (listOf ws' n') (pre++(la,listOf ws.toArray n)::post) (pre++(la,listOf ws' n')::post))
   (g: ∀mvs' ws' n' h',kL C w mvs' ws'->mvs'.length<=bh->Fr Y.h₀ Y.L h' k.m->News Y.h₀ Y.L h' (pre++(la,listOf ws'.toArray n')::post) ->cg C Y.h₀ Y.L k w (H.set i (.list mvs')) h'):Rl Y k w H s i la mvs
def cg.vk (S:St Y k w H s) {i:Nat}{la:Qi}{mvs:List aa} (ha:w.σ[i]?=Qa la) (hm:H[i]?.bind ae.list?=Qa mvs):Rl Y k w H s i la mvs:=by
 refine xEA (bs hm) λo hi h2=>?_;cases list?_s h2;obtain ⟨pre,en,post,⟨ws,n,rfl,r,l⟩,hn,hd,g⟩:=S.at ha hi;exact ⟨ws,n,pre,post,r,l,hn,λws' n'=>wG hd,λmvs' ws' n' h' r' l' F N=>g (.list mvs') [(la,listOf ws'.toArray n')] h' rfl ⟨ws',n',rfl,r',l'⟩ F N⟩
def z0 {i : Nat} {la : Qi} {mvs : List aa} {y : aa} {yv : Value} (S : St Y k w H s) (ha : w.σ[i]? = Qa la) (hm : H[i]?.bind ae.list? = Qa mvs) (hy : kM C w y yv) (hlen : mvs.length < bh) : bz Y k (VR C) (call (.builtin "list.append") [.ref la,yv]) w s (Qa (.none,H.set i (.list (mvs ++ [y])))) := by
 obtain ⟨ws,n,pre,post,r,l,hn,u,g⟩:=S.vk ha hm;intro r' e';cases e';refine λQ E hq=>append_K S.fr hn (u (ws.toArray.push yv) (n+1)) (λh' F' N'=>hq w _ {s with heap:=h'} ⟨.refl w,g (mvs++ [y]) (ws++ [yv]) (n+1) h' (kL.append (.dz hy) r) (by rw [Jz];exact hlen) F' (by rw [List.push_toArray] at N';exact N'),rfl,rfl⟩ rfl) ?_;rw [Zo,<-r.length];exact Jq l mZ
def UF {nm:Str} (hn:kQ nm=Qf) (S:St Y k w H s) {i:Nat}{la:Qi} (ha:w.σ[i]?=Qa la) {mvs0 mvs:List aa}{vs:List aa}{h2:MH}{r:aa×MH} (hm0:H[i]?.bind ae.list?=Qa mvs0) (hm:h2[i]?.bind ae.list?=Qa mvs):wW i mvs (ez nm) vs h2=Qa r->Pm Y k w s (.ref la) nm vs h2 r:=by
 have zq12:=S.list (x:=.ref i) ⟨la,rfl,ha⟩ hm0;obtain ⟨_,ws0,n0,e0,ho,_,_⟩:=zq12;cases e0;refine mB (nB λh e=>?_) (nB λh e=>?_)
 ·cases UT hn El h
  exact λpl Q E q => getMethod_list_append ho rfl rfl (q "list.append" (.of e λw2 s2 ws l S2 rr => .a1 (T:=λl => call (.builtin "list.append") (_ :: l)) rr λy vy hy => .au λhl => z0 S2 (l.get ha) hm hy (Zd.mp hl)))
 ·cases UT hn SJ h
  refine λpl Q E q => Jd ⟨_,ho,rfl⟩ PySem.F.plainAttrs_list PySem.F.slot_list_pop PySem.F.type_list_pop (λa e => by cases e; exact ⟨_,ho,rfl⟩) (q "list.pop" (.of e λw2 s2 ws l S2 rr => .a0 (T:=λl => call (.builtin "list.pop") (_ :: l)) rr (.jl λv hv => ?_)));obtain ⟨ws,n,pre,post,r,l',hn,u,g⟩:=S2.vk (l.get ha) hm;refine (Cr r hv).elim λp zq9=>zq9.elim λy zq10=>?_;intro r' e';cases e';exact λQ E hq=>kl_pop S2.fr hn zq10.1 (u p.toArray (n+1)) (by rw [List.toList_toArray,<-r.length];exact Jq l' mZ) λh' F' N'=>hq w2 y {s2 with heap:=h'} ⟨.refl w2,g mvs.dropLast p (n+1) h' zq10.2.1 (Jq (by rw [List.length_dropLast];exact qaN _ _) l') F' N',rfl,rfl⟩ zq10.2.2
def UH {nm:Str} (hn:kQ nm=Qf) (S:St Y k w H s) {i:Nat}{la:Qi} (ha:w.σ[i]?=Qa la) {p0 p:Option Nat×List (aa×aa)}{vs:List aa}{h2:MH}{r:aa×MH} (hm0:H[i]?.bind ae.dict?=Qa p0) (hm:h2[i]?.bind ae.dict?=Qa p):xK p.2 (ez nm) vs h2=Qa r->Pm Y k w s (.ref la) nm vs h2 r:=by
 obtain ⟨_,n0,es0,e0,_,_,hg,_,_,_⟩:=S.kf ⟨la,rfl,ha⟩ hm0;cases e0;refine nB λh e=>?_;cases UT hn SK h;refine λpl Q E q => Jd ⟨_,hg,rfl⟩ PySem.F.plainAttrs_dict KZ PySem.F.type_dict_get (λa e => by cases e; exact ⟨_,hg,rfl⟩) (q "dict.get" (.of e λw2 s2 ws l S2 rr => ?_));have key : ∀ {x dv : aa} {kv dvv : Value} {args : List Value},kM C w2 x kv -> kM C w2 dv dvv -> kX p.2 x = Qf -> ((args = [.ref la,kv] /\ dvv = .none) \/ args = [.ref la,kv,dvv]) -> bz Y k (VR C) (call (.builtin "dict.get") args) w2 s2 (Qa ((kY p.2 x).getD dv,h2)) := by
  intro x dv kv dvv args hk hdv hf hargs;refine .val S2 λQ E q=>?_;obtain ⟨_,n2,es,e2,hmod,_,hg2,hdr,_,_⟩:=S2.kf ⟨la,rfl,l.get ha⟩ hm;cases e2;have fe: ∀ {o:Option Value},Di C w2 (kY p.2 x) o-> ∀tk,Q (o.getD dvv) {s2 with toks:=tk}:=λh tk=>by
   rcases h with ⟨q1,rfl⟩| ⟨mv,rv,q1,rfl,q3⟩
   ·rw [q1] at q;exact q _ tk hdv
   ·rw [q1] at q;exact q _ tk q3
  rcases uP (Jr.mp hf).1 with ⟨ka,rfl⟩| ⟨ka,rfl⟩
  ·obtain ⟨kvs,D⟩:=hdr.atom hf
   have hD:=D.dictOf hg2;rcases hargs with ⟨rfl,rfl⟩|rfl
   ·exact QH KZ hD.typeIs Ym (XY _ _) (meets_dict_get _ la hk.atom.1 hmod) ⟨_,hD.mapOf,fe (D.get ka) _⟩
   ·exact QH KZ hD.typeIs Ym (X3 _ _ _) (meets_dict_get_default _ la hk.atom.1 hmod dvv) ⟨_,hD.mapOf,fe (D.get ka) _⟩
  ·obtain ⟨xs,D⟩:=hdr.pg hf
   have hD:=D.dictOf S2 hg2;obtain ⟨t,rfl,ht⟩:=S2.iz hk;rcases hargs with ⟨rfl,rfl⟩|rfl
   ·exact QH KZ hD.typeIs Ym (XY _ _) (meetsH_dict_get _ la t hmod) ⟨Y.room,ka,xs,ht,hD,fe (D.get ka) _⟩
   ·exact QH KZ hD.typeIs Ym (X3 _ _ _) (meetsH_dict_get_default _ la t hmod dvv) ⟨Y.room,ka,xs,ht,hD,fe (D.get ka) _⟩
 exact .ay (.a1 (T:=λl => call (.builtin "dict.get") (_ :: l)) rr λx kv hk => .au λhf => key hk rfl hf (.inl ⟨rfl,rfl⟩)) (.a2 (T:=λl => call (.builtin "dict.get") (_ :: l)) rr λx kv hk dv dvv hd => .au λhf => key hk hd hf (.inr rfl))
def Bb {nm:Str} (hn:kQ nm=Qf) (S:St Y k w H s) {x:aa}{vx:Value} (hx:kM C w x vx) {vs:List aa}{h2:MH}{r:aa×MH}:yX x (ez nm) vs H h2=Qa r->Pm Y k w s vx nm vs h2 r:=by
 refine mB (lC λl e1 e=>?_) (lC λi e1=>mB (lC λm0 e2=>lC λm e3 e=>?_) (lC λm0 e2=>lC λm e3 e=>?_))
 ·obtain ⟨u,rfl,ok⟩:=hx.str? e1
  exact GT hn ok e
 ·cases ref?_s e1
  obtain ⟨la,rfl,ha⟩:=hx;exact UF hn S ha e2 e3 e
 ·cases ref?_s e1
  obtain ⟨la,rfl,ha⟩:=hx;exact UH hn S ha e2 e3 e
end
end Internal
namespace Internal
open PySem PySem.W PySem.Calls PyProof.Rows
inductive Vo (C:ax) (id c:Nat):Prop
 |mk (a ca dx:Qi) (n:Nat) (k1:C.ad.lookup id=Qa a) (k2:C.ad.lookup c=Qa ca) (k3:C.K.lookup a=Qa ⟨.ref ca,Qa dx,.plain,#[]⟩) (k4:C.K.lookup dx=Qa (Ql [] n)):Vo C id c
inductive rL (C:ax) (c n:Nat) (P:Qi->Str->Prop):Prop
 |mk (ca:Qi) (name:Str) (k1:C.ad.lookup c=Qa ca) (k2:kQ name=Qf) (k3:ez name=n) (k4:plainGet C.K ca name=Qf) (k5:hasDictIn C.K ca=Qf) (p:P ca name):rL C c n P
inductive IX (C:ax) (v:aa) (ca:Qi) (name:Str):Prop
 |mk (av:Value) (k6:findIn C.K (.ref ca) name=Qa (Qa av)) (k7: ∀w,kM C w v av)
  (k8 : Ul C.P v = Qf -> isFn C.K av = Qf /\ specialIn C.K (.ref ca) "__getattribute__" = Qa (Qa (.builtin "type.__getattribute__")) /\ ∃ mc,typeIn C.K (.ref ca) = Qa mc /\ readsIn C.K ca mc = Qf /\ findCls C.K (.ref ca) mc name = Qa (.val av)) (k9 : Ul C.P v = Qb -> specialIn C.K av "__get__" = Qa Qd /\ handedIn av = Qf /\ copiedNames.contains name = Qb) : IX C v ca name
inductive zbu (C:ax) (ca:Qi) (name:Str):Prop
 |mk (af:Option Value) (k6:findIn C.K (.ref ca) name=Qa af) (k7:noGet C.K af=Qf)
  (k8 : takerIn C.K ca name = Qa Qd) (k9 : findIn C.K (.ref ca) "__setattr__" = Qa (Qa (.builtin "object.__setattr__"))) (k10 : plainOver C.K ca = Qf) : zbu C ca name
inductive Vp (C:ax) (c i:Nat):Prop
 | mk (ca fI : Qi) (k1 : C.ad.lookup c = Qa ca) (k2 : C.ad.lookup i = Qa fI) (k3 : makesIn C.K ca = Qf) (k4 : findIn C.K (.ref ca) "__init__" = Qa (Qa (.ref fI))) (k5 : isFn C.K (.ref fI) = Qf) (k6 : keepIn C.K (.ref ca) = Qf) : Vp C c i
def xT (C:ax) (f:Fn) (fd:QD) (xs:List Str):Prop:=
 (f.qb= []/\∀vs:List Value,vs.length=f.np->bindArgs fd ⟨vs,[]⟩=pure (xs.zip vs))\/
 (f.qb≠ []/\∃dvs,(∀w,kL C w f.qb dvs)/\∀ (S:Q5) (vs:List Value),vs.length<=f.np->f.np-vs.length<=dvs.length->peek C.K S (bindArgs fd ⟨vs,[]⟩)=Qa (xs.zip (vs++dvs.drop (dvs.length-(f.np-vs.length)))))
inductive Gs (C:ax) (gl:List (Str×aa)) (f:Fn):Prop
 |mk (a:Qi) (name qual:Str) (params:Q4) (body:List Qz) (scope:Scope) (dV kV doc pm:Value) (an:Option Qi) (cdv ct oc:Value) (od:Option Qi) (osl:Array (Option Value)) (k1:C.ad.lookup f.gz=Qa a) (k2:C.K.lookup a=Qa ⟨oc,od,.func (fnOf name qual params body scope dV kV doc pm an cdv ct),osl⟩)
  (k3:codeIn C.K cdv qual=Qf) (k4:W2 gl params body scope=Qa (f.np,f.ns,f.body)) (k6:keepIn C.K (.ref a)=Qf)
  (k7:xT C f (fnOf name qual params body scope dV kV doc pm an cdv ct) (params.args.map (·.arg)))
  (k8:(params.args.map (·.arg)).Nodup) (k10:((cellsFrom 0 scope.names []).map (·.1)).Nodup):Gs C gl f
def Ay (C : ax) : Prop := ∀ {d e : Nat} {Y : lB C d e} {k : Kp} {w : Wd} {H : MH} {s : Qe} {as : List aa} {vs : List Value},rN C -> St Y k w H s -> kL C w as vs -> bz Y k (VR C) (call (.builtin "sorted") vs) w s (LX as H)
structure nV (C:ax) (gl:List (Str×aa)):Prop where
 zm:IT C gl
 oe: ∀a f,C.P.kx a=Qa f->f.gz=a/\Gs C gl f
 kc: ∀id c,C.P.cn id=Qa c->Vo C id c
 kg: ∀c n v,C.P.lc c n=Qa v->rL C c n (IX C v)
 si: ∀c n,C.P.du c n=Qf->rL C c n (zbu C)
 vn: ∀c k i,C.P.fz c=Qa k->k.sa=Qa i->Vp C c i
 iq:rN C
 gP:Ay C
section
variable {C:ax}{d e:Nat}{Y:lB C d e}{k:Kp}{w:Wd}{H:MH}{s:Qe}{cx:CC}{env:Env}{mE:Str->Option Value}{fr:Frame}{gl:List (Str×aa)}
def rL.use {c n:Nat}{P:Qi->Str->Prop} (h:rL C c n P) {nm:Str}{ca:Qi} (hn:kQ nm=Qf) (e:n=ez nm) (hc:C.ad.lookup c=Qa ca):plainGet C.K ca nm=Qf/\hasDictIn C.K ca=Qf/\P ca nm:=by
 obtain ⟨ca',name,k1,k2,k3,k4,k5,p⟩:=h;cases Qa.inj (k1.symm.trans hc);cases Gc k2 hn (k3.trans e);exact ⟨k4,k5,p⟩
def E6: ∀p∈xO,handedIn (.builtin p.2)=true:=by decide+kernel
def EJ {v:aa}{rv:Value} (h:kM C w v rv):handedIn rv=true:=by
 cases v with
 |none=>refine eqB h ?_;rfl
 |bool b=>refine eqB h ?_;rfl
 |int i=>obtain ⟨t,rfl⟩:=h;rfl
 |str i=>obtain ⟨t,rfl,_⟩:=h;rfl
 |az i=>obtain ⟨_,_,_,_,rfl,_,_,_⟩:=h;rfl
 |ref i=>obtain ⟨_,rfl,_⟩:=h;rfl
 |ah i=>obtain ⟨_,rfl,_⟩:=h;rfl
 |ty i=>obtain ⟨_,rfl,_⟩:=h;rfl
 |bi i=>obtain ⟨n,rfl,hb⟩:=h;exact E6 _ (lS hb)
 |gf i=>obtain ⟨_,_,_,_,rfl,_⟩:=h;rfl
 |fl i=>obtain ⟨_,_,_,_,rfl,_,_,_⟩:=h;rfl
 |qy i=>obtain ⟨_,_,_,_,_,rfl,_⟩:=h;rfl
def Uk {x nm:Str}{t:Tok} (hx:kQ x=Qf) (hn:kQ nm=Qf):(KQ x t).isStr nm=(ez x==ez nm):=by
 show (x==nm)=_;rw [Kd,beq_iff_eq,beq_iff_eq];exact ⟨λe=>e▸rfl,Gc hx hn⟩
inductive zbw (C:ax) (w:Wd) (m:Option aa) (o:Option (Option Value)):Prop
 |none (h1:m= .none) (h2:o=Qa .none):zbw C w m o
 |some (v:aa) (rv:Value) (h1:m=Qa v) (h2:o=Qa (Qa rv)) (r:kM C w v rv):zbw C w m o
def uC.get {nm:Str} (hn:kQ nm=Qf): ∀ {fs:List (Nat×aa)}{es:List Qh},uC C w fs es->es.any (·.refKey)=Qb/\((vV fs (ez nm)=Qd/\es.find? (·.key.isStr nm)=Qd)\/∃v e,vV fs (ez nm)=Qa v/\es.find? (·.key.isStr nm)=Qa e/\kM C w v e.val):=by
 intro fs
 induction fs with
 |nil=>intro es h;rw [show es= [] from h];exact ⟨rfl,.inl ⟨rfl,rfl⟩⟩
 |cons p fs ih=>
  intro es h;obtain ⟨x,t,hsh,v,r,rfl,h1,h2,h3,h4⟩:=h;obtain ⟨i1,i2⟩:=ih h4;refine ⟨i1,?_⟩;unfold vV at i2 ⊢;rw [YD,YD]
  dsimp only
  rw [Uk h1 hn,h2];cases hq:(p.1==ez nm) with
  |true=>exact .inr ⟨_,_,rfl,rfl,h3⟩
  |false=>exact i2
def uC.getL {nm:Str} (hn:kQ nm=Qf) {fs:List (Nat×aa)}{es:List Qh} (r:uC C w fs es):zbw C w (vV fs (ez nm)) (getL nm es):=by
 obtain ⟨hr,h⟩:=r.get hn;delta W.getL;rcases h with ⟨h1,h2⟩| ⟨v,e,h1,h2,h3⟩
 ·rw [h2]
  exact .none h1 (by dsimp only;rw [hr];rfl)
 ·rw [h2]
  exact .some v e.val h1 rfl h3
def uC.lr {nm:Str} (hn:kQ nm=Qf) {hsh:Int}{t:Tok}{v:aa}{rv:Value} (hv:kM C w v rv): ∀ {fs:List (Nat×aa)}{es:List Qh},uC C w fs es->uC C w (Wx fs (ez nm) v) (putL nm hsh (.str nm t) rv es):=by
 intro fs
 induction fs with
 |nil=>intro es h;rw [show es= [] from h];exact ⟨nm,t,hsh,rv,[],rfl,hn,rfl,hv,rfl⟩
 |cons p fs ih=>
  intro es h;obtain ⟨x,t',hsh',v',r,rfl,h1,h2,h3,h4⟩:=h;show uC C w (bif p.1==ez nm then _ else _) _;unfold putL;rw [Uk h1 hn,h2];refine vY (p.1==ez nm) (λhq=>?_) λhq=>?_
  ·rw [hq]
   rw [if_pos rfl];exact ⟨x,t',hsh',rv,r,rfl,h1,h2.trans (beq_iff_eq.mp hq),hv,h4⟩
  ·rw [hq]
   rw [if_neg Zn];exact ⟨x,t',hsh',v',_,rfl,h1,h2,h3,(ih h4)⟩
def uC.length: ∀ {fs:List (Nat×aa)}{es:List Qh},uC C w fs es->es.length=fs.length:=by
 intro fs
 induction fs with
 |nil=>intro es h;rw [show es= [] from h];rfl
 |cons p fs ih=>intro es h;obtain ⟨_,_,_,_,r,rfl,_,_,_,h4⟩:=h;exact congrArg (· +1) (ih h4)
def LG (fs:List (Nat×aa)) (n:Nat) (v:aa):(Wx fs n v).length<=fs.length+1:=by
 induction fs with
 |nil=>exact JA _
 |cons p fs ih=>
  show (bif p.1==n then _ else _:List (Nat×aa)).length<=_;cases (p.1==n) with
  |true=>exact Zw _
  |false=>exact Zu ih
inductive Rm {C:ax}{d e:Nat} (Y:lB C d e) (k:Kp) (w:Wd) (H:MH) (s:Qe) (i:Nat) (v:Value) (q:Nat×List (Nat×aa)):Prop
 |mk (a ca dx:Qi) (es:List Qh) (n:Nat) (pre post:bt) (e:v= .ref a) (hc:C.ad.lookup q.1=Qa ca) (f:uC C w q.2 es) (l:q.2.length<=500) (hn:News Y.h₀ Y.L s.heap ((pre++ [(a,instObj ca dx)])++(dx,Ql es n)::post)) (I:InstAt s.heap a (instObj ca dx) ca (Qa (Ql es n)))
   (u: ∀o',Upd dx (Ql es n) o' ((pre++ [(a,instObj ca dx)])++(dx,Ql es n)::post) ((pre++ [(a,instObj ca dx)])++(dx,o')::post))
   (g: ∀fs' es' n' h',uC C w fs' es'->fs'.length<=500->Fr Y.h₀ Y.L h' k.m->News Y.h₀ Y.L h' ((pre++ [(a,instObj ca dx)])++(dx,Ql es' n')::post) ->cg C Y.h₀ Y.L k w (H.set i (.inst q.1 fs')) h'):Rm Y k w H s i v q
def cg.rz (S:St Y k w H s) {i:Nat}{v:Value}{q:Nat×List (Nat×aa)} (hv:kM C w (.ref i) v) (ho:H[i]?.bind ae.inst?=Qa q):Rm Y k w H s i v q:=by
 refine xEA (bs ho) λo hi h2=>?_;cases inst?_s h2;refine xEA hv λa e ha=>?_;obtain ⟨pre,en,post,⟨c,dx,es,n,rfl,hc,f,l⟩,hn,hd,g⟩:=S.at ha hi;have eq: ∀o',pre++([(a,instObj c dx),(dx,o')]++post)=(pre++ [(a,instObj c dx)])++(dx,o')::post:=λo'=>by rw [JH];rfl
 rw [eq] at hn hd;exact ⟨a,c,dx,es,n,pre,post,e,hc,f,l,hn,InstAt.of_news hn (Zj _ (JV _ (.head _))) (JV _ (.head _)),λo'=>wG hd,λfs' es' n' h' r l' F N=>g (.inst q.1 fs') [(a,instObj c dx),(dx,Ql es' n')] h' rfl ⟨c,dx,es',n',rfl,hc,r,l'⟩ F (by rw [eq];exact N)⟩
def G1 (O:nV C gl) (S:St Y k w H s) {x:aa}{vx:Value}{nm:Str} (hnm:kQ nm=Qf) (hx:kM C w x vx):bz Y k (VR C) (PySem.getAttr vx nm Qf) w s ((getAttr C.P H x (ez nm)).map λv=>(v,H)):=by
 refine .jl λv e=> .val S λQ E q=>?_;have att: ∀ {a ca dx:Qi}{c n:Nat}{es:List Qh},InstAt s.heap a (instObj ca dx) ca (Qa (Ql es n)) ->C.ad.lookup c=Qa ca->getL nm es=Qa Qd->vH C.P c (ez nm)=Qa v->Qj C.M Y.A (PySem.getAttr (.ref a) nm Qf) Q E s:=λI hc q2 e=>by
  refine xEA (bs e) λu hu e=>?_;obtain ⟨hf,e⟩:=gs e;cases e;obtain ⟨t4,t5,av,t6,t7,_,t9⟩:=(O.kg _ _ _ hu).use hnm rfl hc;have zq35:=t9 (by cases hq:Ul C.P v;rfl;rw [hq] at hf;cases hf);exact get_cls S.fr Y.k I t4 t5 t6 zq35.1 zq35.2.1 zq35.2.2 q2 (q av _ (t7 w))
 revert e
 refine mB (lC λp hp e=>?_) (lC λa e1=>lC λc hc e=>?_)
 ·obtain ⟨i,e1,hp⟩:=bs hp
  cases ref?_s e1;obtain ⟨a,ca,dx,es,n,pre,post,rfl,hc,hF,hl,hN,I,_,_⟩:=S.rz hx hp;cases hF.getL hnm with
  |none h1 h2=>rw [h1] at e;exact att I hc h2 e
  |some u rv h1 h2 r=>
   rw [h1] at e;obtain ⟨sf,e⟩:=gs e;cases e;refine xAA ((O.si _ _ sf).use hnm rfl hc) λt4 t5 zg190=>?_;obtain ⟨af,t6,t7,_,_,_⟩:=zg190;exact get_own S.fr Y.k I t4 t5 t6 t7 h2 (EJ r) (q rv _ r)
 ·cases top?_s e1
  obtain ⟨xa,rfl,hx⟩:=hx;obtain ⟨xa',ca,dx,n,i1,i2,i3,i4⟩:=O.kc _ _ hc;cases Qa.inj (i1.symm.trans hx);exact att (InstAt.of_K S.mz i3 i4) i2 rfl e
def G0 (O:nV C gl) (S:St Y k w H s) {x:aa}{vx:Value}{nm:Str}{r:Nat×List aa}{pl:Sem Bool} (hnm:kQ nm=Qf) (hx:kM C w x vx) {Q:Value×List Value->Qe->Prop}{E:Value->Qe->Prop}
  (h: ∀fa first tk,C.ad.lookup r.1=Qa fa->kL C w r.2 first->Q (.ref fa,first) {s with toks:=tk}):nU C.P H x (ez nm)=Qa r->Qj C.M Y.A (PySem.getMethod vx nm pl) Q E s:=by
 have met: ∀ {a ca dx:Qi}{c n f:Nat}{es:List Qh},vx= .ref a->InstAt s.heap a (instObj ca dx) ca (Qa (Ql es n)) ->C.ad.lookup c=Qa ca->getL nm es=Qa Qd->yS C.P c (ez nm)=Qa f->(f,[x])=r->Qj C.M Y.A (PySem.getMethod vx nm pl) Q E s:=λea I hc q2 e er=>by
  refine xEA (bs e) λu hu e=>?_;refine xA (gs e) λhf e=>?_;cases top?_s e;have zq26:=(O.kg _ _ _ hu).use hnm rfl hc;obtain ⟨av,t6,t7,t8,_⟩:=zq26.2.2;refine xEA (t7 w) λga dh hg=>?_;subst dh;subst er ea;exact method_inst S.fr Y.k I zq26.1 t6 (t8 hf).1 q2 (h _ _ s.toks hg (.dz hx))
 refine mB (lC λa e1 e=>?_) (lC λq hq=>nB λhnone=>lY λf hf e=>?_)
 ·cases top?_s e1
  refine xEA (id hx) λxa e2 hxa=>?_;refine DW (C.P.cn a) (λhi=>?_) λc hi=>?_
  ·rw [hi] at e
   refine xEA (ms e) λf hf e=>?_;refine (bs hf).elim λu zq20=>?_;have hf:=zq20.2;refine xA (gs hf) λhfn hf=>?_;cases top?_s hf;obtain ⟨av,t6,t7,t8,_⟩:=((O.kg _ _ _ zq20.1).use hnm rfl hxa).2.2;refine xEA (t7 w) λga gd hg=>?_;subst gd;refine (t8 hfn).2.2.elim λmc zq16=>?_;subst e e2;exact method_of_cls S.fr Y.k (t8 hfn).2.1 (cls_val S.fr Y.k zq16.1 zq16.2.1 zq16.2.2 rfl (h _ _ _ hg .nil))
  ·rw [hi] at e
   refine xEA (ms e) λf hf e=>?_;obtain ⟨xa',ca,dx,n,i1,i2,i3,i4⟩:=O.kc _ _ hi;cases Qa.inj (i1.symm.trans hxa);exact met e2 (InstAt.of_K S.mz i3 i4) i2 rfl hf e
 ·obtain ⟨i,e1,hq⟩:=bs hq
  cases ref?_s e1;obtain ⟨a,ca,dx,es,n,pre,post,ea,hc,hF,hl,hN,I,_,_⟩:=S.rz hx hq;cases hF.getL hnm with
  |none h1 h2=>exact met ea I hc h2 hf e
  |some u rv h1 h2 r'=>rw [h1] at hnone;cases hnone
def yP (O:nV C gl) (S:St Y k w H s) {x v:aa}{vx vv:Value}{nm:Str}{H':MH} (hnm:kQ nm=Qf) (hx:kM C w x vx) (hv:kM C w v vv) {Q:Unit->Qe->Prop}{E:Value->Qe->Prop}
  (h: ∀s',jf Y k w w H' s s'->Q () s'):setAttr C.P H x (ez nm) v=Qa H'->Qj C.M Y.A (PySem.setAttr vx nm vv) Q E s:=by
 refine lC λi e1=>lC λq hq=>nB λsf e=>?_;cases ref?_s e1;obtain rfl:=Qa.inj e;obtain ⟨a,ca,dx,es,n,pre,post,rfl,hc,hF,hl,hN,I,U,g⟩:=(S.rz hx hq);have zq11:=(O.si _ _ (Jr.mp sf).1).use hnm rfl hc;obtain ⟨af,t6,t7,t8,t9,t10⟩:=zq11.2.2;have hp:=hF.lr (hsh:=qa9 C.w.params nm) (t:=s.toks+1) hnm hv;have hl4:=Zd.mp (Jr.mp sf).2;exact set_dict S.fr Y.k hN I rfl t9 t10 t8 zq11.2.1 (by cases hF.getL hnm with|none _ h2=>rw [h2];rfl|some _ _ _ h2 _=>rw [h2];rfl:(getL nm es).isSome=Qf) rfl (U _) (by rw [hp.length];exact Jq (Jq (LG q.2 (ez nm) v) hl4) (JE _ _)) λh' F' N'=>h _ ⟨.refl w,g _ _ _ h' hp (Jq (Jq (LG q.2 (ez nm) v) hl4) (JE _ _)) F' N',rfl,rfl⟩
def Vb {o:Expr}{af:Str}{whole:Sem Value} (h:Vc o=Qf):attributeBase o af env whole=whole:=by
 cases o with
 |Call f as ks pos=>
  cases as with
  |nil=>cases h
  |cons x r=>cases f<;>rfl
 |_=>rfl
def Bc (O:nV C gl) {v:Expr}{nm:Str}{iv:Ex}{pos:Pos} (hv:nI C d cx v iv) (hn:kQ nm=Qf) (hb:Vc v=Qf):nI C d cx (.Attribute v nm pos) (.af iv (ez nm)):=by
 intro Y env k mE fr w H s p r;refine kN λx H1 e1 e Q E hq=>Attribute_any_ (hv Y env k mE fr w H s p _ e1 _ _ λw1 a1 s1 n1 r1=>G1 O n1.st hn r1 r e _ _ λw2 a2 s2 n2 r2=>hq w2 a2 s2 (n1.trans n2) r2) ?_;show (do
   let o<-attributeBase v nm env (PySem.eval v env)
   standAt pos.atName
   let r<-holding [o] (PySem.getAttr o nm Qf)
   letTemporaryGo v o r
   pure r)=_
 rw [Vb hb]
def pU {M:Jn}{A:Qo}{f:Value}{args:List (Bool×Sem Value)}{Q:Args->Qe->Prop}{E:Value->Qe->Prop} (hp:args.any (·.1)=Qb) (h:Qj M A (spliced args) (λvs s'=>Q ⟨vs,[]⟩ s') E s):Qj M A (evalArgs f Qf args []) Q E s:=by
 cases args with
 |nil=>
  delta evalArgs;exact Qc (Qr h (λvs s' h'=>Qk (Qc (Qg (Qc (Qg (Qg h')))))) λ_ _ x=>x)
 |cons p r=>
  obtain ⟨b,x⟩:=p;cases b with
  |false=>exact evalArgs_plain h
  |true=>cases hp
theorem qW {M:Jn}{A:Qo}{K:Frag}{pos:Pos}{f:Value}{first:List Value}{es:List Expr}{irs:List Ex}{Q:Value->Qe->Prop}{E:Value->Qe->Prop} (hk:keepIn K f=Qf) (hc:mj C d cx es irs)
  (h:Qj M A (spliced (backTo pos (starEach es env))) (λvs s₁=>K.In s₁.heap/\Qj M A (call f (first++vs)) Q E s₁) E s):Qj M A (callWith pos f first (backTo pos (starEach es env)) []) Q E s:=
 callWith_of (by rw [mQ hc];rfl) (keeps_K hk) (pU (mQ hc) h)
def pY (C:ax) (d:Nat):Prop:=
 ∀ (Y:lB C d 0) (k:Kp) (w:Wd) (H:MH) (s:Qe) (f:Nat) (fa:Qi) (as:List aa) (vs:List Value) (r:aa×MH),St Y k w H s->C.ad.lookup f=Qa fa->kL C w as vs->nH C.P xC d f as H=Qa r->
  ∀R:Result->Qe->Prop,(∀w' rv s',jf Y k w w' r.2 s s'->kM C w' r.1 rv->R (.ok (.ret rv)) s') ->codeAny C.M Y.A (.call (.ref fa) ⟨vs,[]⟩) R s
theorem pY.wp (hC:pY C d) (Y:lB C d e) {f:Nat}{fa:Qi}{as:List aa}{vs:List Value} (S:St Y k w H s) (hf:C.ad.lookup f=Qa fa) (r:kL C w as vs):bz Y k (VR C) (call (.ref fa) vs) w s (nH C.P xC d f as H):=
 λr' ev Q E hq=>wpAny_call (hC Y.gL k w H s f fa as vs r' S hf r ev _ λw' rv s' n r2=>hq w' rv s' ⟨n.le,n.st,n.ck⟩ r2)
def Aa (O:nV C gl) {f:Nat}{fa:Qi}{as:List aa}{H:MH}{r:aa×MH} (hf:C.ad.lookup f=Qa fa) (e:nH C.P xC d f as H=Qa r):keepIn C.K (.ref fa)=true:=by
 cases d with
 |zero=>exact ag e
 |succ d=>
  refine xEA (bs e) λfn hfn e=>?_;refine xA (O.oe _ _ hfn) λh1 dh=>?_;obtain ⟨fa',_,_,_,_,_,_,_,_,_,_,_,_,_,_,_,k1,_,_,_,k6,_,_,_⟩:=dh;rw [h1,hf] at k1;refine Se k1 ?_;exact k6
def HV {A : Qo} {ca : Qi} {vs : List Value} {f : Option (List Env)} (h : A.frames = f) : (A.under (.builtin "type.__call__" ⟨.ref ca :: vs,[]⟩)).frames = f := by
 show pushEnvs (Code.envs (.builtin "type.__call__" ⟨.ref ca :: vs,[]⟩)) A.frames = _;rw [show Code.envs (.builtin "type.__call__" ⟨.ref ca :: vs,[]⟩) = [] by unfold Code.envs; rw [show Code.isFrame (.builtin "type.__call__" ⟨.ref ca :: vs,[]⟩) = Qb from rfl,if_neg Zn]];exact h
def E3 {a n:Nat} (h:a+n+2+2<=900):a+1+n+2+0<=900:=by rw [ZK a 1 n];exact Jq (Jw (by decide:3<=4) (a+n)) h
def E2 {a n:Nat} (h:a+n+190+5*2<=9900):a+1+n+190+5*0<=9900:=by rw [ZK a 1 n];exact Jq (Jw (by decide:191<=200) (a+n)) h
def lB.qw (Y:lB C d 2) (ca:Qi) (vs:List Value):lB C d 0 where
 A := Y.A.under (.builtin "type.__call__" ⟨.ref ca :: vs,[]⟩)
 h₀:=Y.h₀
 L:=Y.L
 mf:=Y.mf
 below:=Y.below.elim λA₀ h=>h.elim λbase h=>h.elim λouter h=>⟨A₀,base,outer,h.1,HV h.2⟩
 k:=Y.k
 ah:=Y.ah
 frame:=Y.frame
 kind:=Y.kind
 handled:=Y.handled
 depth:=E3 Y.depth
 units:=E2 Y.units
def F4 (O:nV C gl) (hC:pY C d) {Y:lB C d 2} (S:St Y k w H s) {c:Nat}{ca:Qi}{cl:Cl}{as:List aa}{vs:List Value} (hk:C.P.fz c=Qa cl) (hca:C.ad.lookup c=Qa ca) (r:kL C w as vs):bz Y k (VR C) (call (.ref ca) vs) w s (Ny (C.cx d) c cl as H):=by
 refine .gj λi hi=>λr'=>kN λx H' ev=>nB λhx e=>?_;cases LA hx;refine mP e ?_;intro Q E hq;obtain ⟨ca',fI,t1,t2,t3,t4,t5,t6⟩:=O.vn _ _ _ hk hi;cases Qa.inj (t1.symm.trans hca);obtain ⟨all,hn,add,_,_⟩:=S.dp;refine call_cls S.fr Y.k hn t3 t4 t5 λx dx h' F' N' l1 l2=>?_;have hx4:4<=x:=Yw λhlt=>by
  obtain ⟨o,ho⟩:=O.iq.ow x (qaW hlt)
  have:=(N' (x,instObj ca dx) (.head _)).2.2
  rw [Y.k _ _ ho] at this;cases this
 have le:w.le ⟨w.σ++ [x],w.tp⟩:=⟨J5 _ _,λ_ x=>x⟩;have hS:cg C Y.h₀ Y.L k ⟨w.σ++ [x],w.tp⟩ (H++ [.inst c []]) h':=by
  refine add x (.inst c []) [(x,instObj ca dx),(dx,Ql [] 0)] h' ⟨ca,dx,[],0,rfl,hca,rfl,JJ _⟩ F' N' ?_ ?_ hx4
  ·exact JN.mpr ⟨λh=>absurd (JG.mp h) (Ka l2),pC _⟩
  ·intro p hp q hq
   have:=l1 q hq
   rcases JT.mp hp with rfl|hp
   ·exact Ka (Zm this l2)
   ·exact (JG.mp hp)▸Ka this
 have hr:(w.σ++ [x])[H.length]?=Qa x:=by rw [<-S.len];exact Zi
 exact hC (Y.qw ca vs) k ⟨w.σ++ [x],w.tp⟩ (H++ [ae.inst c []]) {s with heap:=h'} i fI (.ref H.length::as) (.ref x::vs) (.none,H') hS t2 (.cons ⟨x,rfl,hr⟩ (r.mono le)) ev _ λw' rv s' n r2=>⟨r2,hq w' _ s' ⟨le.trans n.le,n.st,n.ck.1,n.ck.2⟩ ⟨x,rfl,n.le.get hr⟩⟩
theorem Sg (O:nV C gl) {n:Nat}{nm:String} (hb:xO.lookup n=Qa nm) (S:St Y k w H s) {as:List aa}{vs:List Value} (r:kL C w as vs):bz Y k (VR C) (call (.builtin nm) vs) w s (Gi n as H):=
 .ay (.au λh => wK (t:=xO) h hb (y:="len") rfl ▸ MV S r) (.ay (.au λh => wK (t:=xO) h hb (y:="max") rfl ▸ MU S r) (.ay (.au λh => wK (t:=xO) h hb (y:="min") rfl ▸ MT S r) (.au λh => wK (t:=xO) h hb (y:="sorted") rfl ▸ O.gP O.iq S r)))
def A5 (O:nV C gl) (hC:pY C d) {es:List Expr}{irs:List Ex} (hc:mj C d cx es irs) {Y:lB C d 2}{pos:Pos}{g:aa}{gv:Value}{vs:List aa}{H1:MH} (p:Pl Y cx env k mE fr w H s) (hg:kM C w g gv) (e1:rD (C.cx d) irs fr H=Qa (vs,H1)):bz Y k (VR C) (callWith pos gv [] (backTo pos (starEach es env)) []) w s (kT (C.cx d) g vs H1):=by
 have args: ∀ {Q:List Value->Qe->Prop}{E:Value->Qe->Prop},(∀w1 a1 s1,jf Y k w w1 H1 s s1->kL C w1 vs a1->Q a1 s1) ->Qj C.M Y.A (spliced (backTo pos (starEach es env))) Q E s:=λhq=>tC hc Y env k mE fr w H s pos p _ e1 _ _ hq;refine .ay (.gj λf hf=> .case (λhcl=>?_) (λcl hcl=>?_)) (.ay (.gj λn hn=>?_) (.gj λn hn=>?_))
 ·cases top?_s hf
  refine Zs hg λga zq6=>?_;refine eqB zq6.1 ?_;have hga:=zq6.2;intro r e Q E hq;exact qW (Aa O hga e) hc (args λw1 a1 s1 n1 r1=>⟨n1.st.mz,hC.wp Y n1.st hga r1 r e Q E λw2 a2 s2 n2 r2=>hq w2 a2 s2 (n1.trans n2) r2⟩)
 ·cases top?_s hf
  obtain ⟨ga,rfl,hga⟩:=hg;intro r e Q E hq;refine (bs e).elim λi zq4=>?_;obtain ⟨ca',fI,t1,t2,t3,t4,t5,t6⟩:=O.vn _ _ _ hcl zq4.1;cases Qa.inj (t1.symm.trans hga);exact qW t6 hc (args λw1 a1 s1 n1 r1=>⟨n1.st.mz,F4 O hC n1.st hcl hga r1 r e Q E λw2 a2 s2 n2 r2=>hq w2 a2 s2 (n1.trans n2) r2⟩)
 ·cases bi?_s hn
  obtain ⟨nm,rfl,hb⟩:=hg;exact λr e Q E hq=>callWith_builtin (mQ hc) (pU (mQ hc) (args λw1 a1 s1 n1 r1=>Sg O hb n1.st r1 r e Q E λw2 a2 s2 n2 r2=>hq w2 a2 s2 (n1.trans n2) r2))
 ·cases ty?_s hn
  obtain ⟨nm,rfl,hb⟩:=hg;exact λr e Q E hq=>PySem.callWith_type (mQ hc) (pU (mQ hc) (args λw1 a1 s1 n1 r1=>Sf hb n1.st r1 r e Q E λw2 a2 s2 n2 r2=>hq w2 a2 s2 (n1.trans n2) r2))
theorem UI (O:nV C gl) (hC:pY C d) {x:Str}{xp pos:Pos}{ig:Ex}{es:List Expr}{irs:List Ex} (hc:mj C d cx es irs) (hx:nI C d cx (.Name x xp) ig):nI C d cx (.Call (.Name x xp) es [] pos) (.call ig irs):=
 λY env k mE fr w H s p r=>kN λg H1 e1=>kN λvs H2 e2 e Q E hq=>Call_ (hx Y env k mE fr w H s p _ e1 _ _ λw1 a1 s1 n1 r1=>A5 O hC hc (p.next n1) r1 e2 r e Q E λw2 a2 s2 n2 r2=>hq w2 a2 s2 (n1.trans n2) r2)
def Ci {n:Nat}{es:List Expr}{irs:List Ex}{pos:Pos} (hc:mj C d cx es irs) (hn:n<30):methodCallForm n (backTo pos (starEach es env)) []=true:=by
 delta methodCallForm;rw [ZY,ZY];refine ⟨⟨?_,rfl⟩,decide_eq_true hn⟩;rw [ZD];intro x hx
 have:=(Ys.mp (mQ (env:=env) (pos:=pos) hc)) x hx
 cases hb:x.1 with
 |false=>rfl
 |true=>exact absurd hb this
def UJ (O:nV C gl) (hC:pY C d) {o:Expr}{nm:Str}{apos pos:Pos}{io:Ex}{es:List Expr}{irs:List Ex} (hc:mj C d cx es irs) (hlen:es.length<=20) (ho:nI C d cx o io) (hn:kQ nm=Qf) (hb:Vc o=Qf)
  (hp:(apos.endLine==pos.line)=Qf):nI C d cx (.Call (.Attribute o nm apos) es [] pos) (.ao io (ez nm) irs):=by
 intro Y env k mE fr w H s p r;refine kN λx H1 e1=>kN λvs H2 e2 e Q E hq=>?_;show Qj C.M Y.A (do
  let ov<-attributeBase o nm env (PySem.eval o env)
  standAt apos.atName
  methodCall o nm apos pos env ov (es.length+0) (backTo pos (starEach es env)) (backToKw pos (keywordEach [] env))) Q E s
 rw [Vb hb];refine Qc (ho Y env k mE fr w H s p _ e1 _ _ λw1 a1 s1 n1 r1=>Qc (Qm ?_));delta methodCall;rw [show methodCallForm (es.length+0) (backTo pos (starEach es env)) (backToKw pos (keywordEach [] env))=Qf from Ci hc (Jx hlen (by decide))];delta calleeOf methodCallPos;rw [if_pos rfl];refine Qc (Qk ?_);refine DW (nU C.P H1 x (ez nm)) (λhm=>?_) λq hm=>?_
 ·have e:yX x (ez nm) vs H1 H2=Qa r:=by
   have e':JF (motive:=λ_=>Option (aa×MH)) (nU C.P H1 x (ez nm)) (yX x (ez nm) vs H1 H2) (λp=>nH C.P xC d p.1 (p.2++vs) H2)=Qa r:=e;rw [hm] at e';exact e'
  refine Bb hn n1.st r1 e _ _ _ λid hid=>?_;rw [if_pos (by rw [hp];rfl)];exact Qc (Qg (callWith_builtin (mQ hc) (pU (mQ hc) (tC hc Y env k mE fr w1 H1 s1 pos (p.next n1) _ e2 _ _ λw2 a2 s2 n2 r2=>hid w2 s2 a2 n2.le n2.st r2 Q E λw3 a3 s3 n3 r3=>hq w3 a3 s3 ((n1.trans n2).trans n3) r3))))
 ·have e:nH C.P xC d q.1 (q.2++vs) H2=Qa r:=by
   have e':JF (motive:=λ_=>Option (aa×MH)) (nU C.P H1 x (ez nm)) (yX x (ez nm) vs H1 H2) (λp=>nH C.P xC d p.1 (p.2++vs) H2)=Qa r:=e;rw [hm] at e';exact e'
  refine G0 O n1.st hn r1 (λfa first tk hfa hself=>?_) hm;rw [if_pos (by rw [hp];rfl)];refine Qc (Qg ?_);have n1':=n1.trans (.toks n1.st tk);exact qW (s:={s1 with toks:=tk}) (Aa O hfa e) hc (tC hc Y env k mE fr w1 H1 {s1 with toks:=tk} pos (p.next n1') _ e2 _ _ λw2 a2 s2 n2 r2=>⟨n2.st.mz,hC.wp Y n2.st hfa (kL.append r2 (hself.mono n2.le)) r e Q E λw3 a3 s3 n3 r3=>hq w3 a3 s3 ((n1'.trans n2).trans n3) r3⟩)
end
section
variable (prog:Qt) (w:Qn) (A:Qo) (env:Env) (R:Result->Qe->Prop)
def cE:Value->Qe->Prop:=notedBy (model prog w) A env λe s'=>R (.error e) s'
variable (eu:Expr) (acc:Value) (X:Qe->Prop)
def cX (x : Value) (s : Qe) : Prop := Qj (model prog w) A (call (.builtin "list.append") [acc,x]) (λ_ => X) (cE prog w A env R) s
def cT (ok:Bool) (s:Qe):Prop:=if ok=Qf then Qj (model prog w) A (PySem.eval eu env) (cX prog w A env R acc X) (cE prog w A env R) s else X s
variable (target:Expr) (it:Value) (ifs:List Expr)
def cV (v:Value) (s:Qe):Prop:=Qj (model prog w) A (letOwnedTupleGo target it v) (λ_ s₁'=>Qj (model prog w) A (assign target env v) (λ_ s₂=>
     Qj (model prog w) A (forIn ifs Qf λc r=>if r=Qf then do let ok<-PySem.isTrue c env (PySem.eval c env);pure (ForInStep.yield ok) else pure (ForInStep.yield r)) (cT prog w A env R eu acc X) (cE prog w A env R) s₂)
     (cE prog w A env R) s₁') (cE prog w A env R) s
def cN (r:Option Value) (s:Qe):Prop:=r.elim (R (.ok .next) s) λv=>cV prog w A env R eu acc X target it ifs v s
variable {prog w A env R eu acc target it ifs}
def u7 {s:Qe}{iter:Expr}{scope:Scope}{pos:Pos} (I:Nat->Qe->Prop)
  (turn: ∀n s,I n s->Qj (model prog w) A (pyNext it) (cN prog w A env R eu acc (λs=> ∃m,m<n/\I m s) target it ifs) (cE prog w A env R) s)
  (n:Nat) (h:I n s):codeAny (model prog w) A (.compLoop (.ListComp eu [⟨target,iter,ifs,0⟩] scope pos) 0 it acc env) R s:=by
 refine codeAny_loop rfl I (λn s hI=>?_) n h;show Qj _ A ((compTurn (.ListComp eu [⟨target,iter,ifs,0⟩] scope pos) 0 it acc env).onRaise (λx=>do noteFrame x env;theTreesLotGoes x)) _ _ s;refine wpAny_noted ?_;rw [compTurn_list];refine Qc (Qm (Qc (Qr (turn n s hI) (λr s₁ h₁=>?_) λ_ _ h'=>h')));cases r with
 |none=>exact Qg h₁
 |some v=>
  refine Qc (Qr h₁ (λ_ s₁' h₁'=>?_) λ_ _ h'=>h');refine Qc (Qr h₁' (λ_ s₂ h₂=>Qc (Qr h₂ (λok s₃ h₃=>?_) λ_ _ h'=>h')) λ_ _ h'=>h');cases ok with
  |false=>exact Qg ⟨rfl,h₃⟩
  |true=>exact Qc (Qc (Qr h₃ (λx s₄ h₄=>Qc (Qr h₄ (λ_ s₅ h₅=>Qg (Qg ⟨rfl,h₅⟩)) λ_ _ h'=>h')) λ_ _ h'=>h'))
end
def LU (outer:List (Str×Qx)) (sc:Scope) (x:Str):(vW outer sc).lookup x=(sc.names.lookup x).map λk=>if (k== .free && outer.lookup x==Qa .cell)=Qf then .cell else k:=by
 delta vW
 generalize sc.names=l
 induction l with
 |nil=>rfl
 |cons p l ih=>
  rw [JR,ZF,ZF];refine vY (x==p.1) (λhxy=>?_) λhxy=>?_
  ·rw [hxy]
   rw [beq_iff_eq.mp hxy];rfl
  ·rw [hxy]
   exact ih
def oW (env:Env) (p:Str×Qx) (cs:List (Str×Qi)):List (Str×Qi):=if p.2== .free then (match env.cells.lookup p.1 with|some a=>(p.1,a)::cs|none=>cs) else cs
def OX {env:Env}: ∀ (l:List (Str×Qx)) (acc:List (Str×Qi)),(∀p∈l,p.2= .free->(env.cells.lookup p.1).isSome=Qf) ->
  (forIn l acc λx r=>match x with
   |(name,kind)=>if (kind==NameKind.free)=Qf then do let a<-cellOf env name;pure (ForInStep.yield ((name,a)::r)) else pure (ForInStep.yield r):Sem (List (Str×Qi)))=pure (l.foldl (λcs p=>oW env p cs) acc):=by
 intro l
 induction l with
 |nil=>exact λacc _=>rfl
 |cons p l ih=>
  intro acc h;rw [Xi,Yo]
  dsimp only
  by_cases hk:(p.2==NameKind.free)=Qf
  ·rw [if_pos hk]
   refine xE (Zt.mp (h (p.1,p.2) (.head _) (beq_iff_eq.mp hk))) λa ha=>?_;rw [(by unfold cellOf;rw [show env.cells.lookup p.1=Qa a from ha]:cellOf env p.1=pure a),Jh,Jh]
   dsimp only
   rw [(λacc=>ih acc λp hp=>h p (.tail _ hp))]
   congr 2
   delta oW;rw [if_pos hk]
   dsimp only at ha ⊢
   rw [ha]
  ·rw [if_neg hk,Jh]
   dsimp only
   rw [(λacc=>ih acc λp hp=>h p (.tail _ hp))]
   congr 2
   unfold oW;rw [if_neg hk]
def E4 {env:Env}{x:Str}{c:Qi} (hc:env.cells.lookup x=Qa c): ∀ (l:List (Str×Qx)) (acc:List (Str×Qi)),((x,NameKind.free)∈l\/acc.lookup x=Qa c) ->(l.foldl (λcs p=>oW env p cs) acc).lookup x=Qa c:=by
 intro l
 induction l with
 |nil=>exact λacc h=>h.elim (λh=>absurd h JB) id
 |cons p l ih=>
  intro acc h;simp only [Yo];refine ih _ ?_;have keep:acc.lookup x=Qa c->(oW env p acc).lookup x=Qa c:=λh=>by
   delta oW;split
   ·split
    ·rename_i a ha
     simp only [ZF];cases hxy:x==p.1 with
     |true=>rw [beq_iff_eq.mp hxy] at hc;exact ha.symm.trans hc
     |false=>exact h
    ·exact h
   ·exact h
  rcases h with h|h
  ·rcases JT.mp h with e|h
   ·refine .inr ?_
    rw [<-e];delta oW
    dsimp only
    rw [hc,if_pos (show (NameKind.free==NameKind.free)=Qf from rfl)];simp only [ZF,beq_self_eq_true]
   ·exact .inl h
  ·exact .inr (keep h)
def HW {scope:Scope}{env:Env} (h: ∀p∈scope.names,p.2= .free->(env.cells.lookup p.1).isSome=Qf): ∃cl,closureFor scope env=pure cl/\∀x c,(x,NameKind.free)∈scope.names->env.cells.lookup x=Qa c->cl.lookup x=Qa c:=by
 refine ⟨scope.names.foldl (λcs p=>oW env p cs) [],?_,λx c hx hc=>E4 hc _ _ (.inl hx)⟩
 have:=OX (env:=env) scope.names [] h
 delta closureFor;simp only [<-this];simp only [bind_pure]
structure IL (cx:CC) (sc:Scope) (xs:List Str):Prop where
 kind:sc.kind= .function
 rl: ∀p∈sc.names,p.2≠ .cell
 jz: ∀p∈sc.names,p.2= .local->sc.names.lookup p.1=Qa .local/\(p.1∈xs\/cx.jk.lookup p.1=Qd)
 free: ∀p∈sc.names,p.2= .free->sc.names.lookup p.1=Qa .free/\cx.sc.lookup p.1=Qa .cell
 nd:xs.Nodup
 xs: ∀x∈xs,sc.names.lookup x=Qa .local
def DH {cx:CC}{sc:Scope}{xs:List Str} (h:WZ cx sc xs=Qf):IL cx sc xs:=by
 delta WZ at h;simp only [ZY,ZD,beq_iff_eq,Xk,bne_iff_ne,ne_eq,decide_eq_true_eq,Yp,Kh] at h;obtain ⟨⟨⟨h1,h2⟩,h3⟩,h4⟩:=h;exact ⟨h1,λp hp=>(h2 p hp).1.1,λp hp hl=>(h2 p hp).1.2.elim (absurd hl) id,λp hp hf=>(h2 p hp).2.elim (absurd hf) id,h4,h3⟩
def VW (cx:CC):Prop:= ∀x i,cx.jk.lookup x=Qa i->i<cx.next
def HL {α β:Type} [BEq α] (a:α) (r:List (α×β)): ∀ (l:List (α×β)),(l++r).lookup a=(l.lookup a).or (r.lookup a):=by
 intro l
 induction l with
 |nil=>rfl
 |cons p l ih=>
  rw [Yf,ZF,ZF];cases a==p.1 with
  |true=>rfl
  |false=>exact ih
def qA (x:Str): ∀ (l:List Str) (n:Nat),(∀i,(l.zip (J3 n l.length)).lookup x=Qa i-> ∃j,i=n+j/\l[j]?=Qa x)/\(x∉l->(l.zip (J3 n l.length)).lookup x=Qd)/\(x∈l->((l.zip (J3 n l.length)).lookup x).isSome=Qf):=by
 intro l
 induction l with
 |nil=>exact λn=>⟨λi h=>ag h,λ_=>rfl,λh=>absurd h JB⟩
 |cons y l ih=>
  intro n;simp only [ZC,YV,Yn,ZF];cases hxy:x==y with
  |true=>exact ⟨λi h=>⟨0,(Qa.inj h).symm,by rw [beq_iff_eq.mp hxy];rfl⟩,λh=>absurd (beq_iff_eq.mp hxy▸List.mem_cons_self) h,λ_=>rfl⟩
  |false=>
   exact ⟨λi h=>((ih (n+1)).1 i h).elim λj zq24=>⟨j+1,zq24.1.trans (by rw [Zf,Kv 1]),zq24.2⟩,λh=>(ih (n+1)).2.1 λh'=>h (.tail _ h'),λh=>(ih (n+1)).2.2 ((JT.mp h).resolve_left (beq_eq_false_iff_ne.mp hxy))⟩
def tI {cx:CC}{sc:Scope}{xs:List Str}{x:Str}{i:Nat} (h:(cq cx sc xs).jk.lookup x=Qa i):(∃j,i=cx.next+j/\xs[j]?=Qa x)\/(x∉xs/\cx.jk.lookup x=Qa i):=by
 have h:(xs.zip (J3 cx.next xs.length)++cx.jk).lookup x=Qa i:=h;rw [HL] at h;by_cases hx:x∈xs
 ·refine (Zt.mp ((qA x xs cx.next).2.2 hx)).elim λj zq22=>?_
  rw [zq22] at h;refine mP h ?_;exact .inl ((qA x xs cx.next).1 _ zq22)
 ·rw [(qA x xs cx.next).2.1 hx] at h
  exact .inr ⟨hx,h⟩
def VW.cq {cx:CC} (h:VW cx) (sc:Scope) (xs:List Str):VW (cq cx sc xs):=by
 intro x i hi;rcases tI hi with ⟨j,rfl,hj⟩| ⟨_,hi⟩
 ·exact ZI (JD.mp hj).1 _
 ·exact Jy (h x i hi) (Jv _ _)
def zG {cx:CC}{x:Str}{i:Nat} (h:oK cx x=Qa i):(cx.sc.lookup x=Qa .local\/cx.sc.lookup x=Qa .cell)/\cx.jk.lookup x=Qa i:=by
 exact ⟨(Yz.mp (gs h).1).imp beq_iff_eq.mp beq_iff_eq.mp,(gs h).2⟩
def Bf {fr:Frame}{i j:Nat}{v u:aa} (h:(fr.set i (Qa v))[j]?=Qa (Qa u)):(i=j/\u=v)\/(i≠j/\fr[j]?=Qa (Qa u)):=by
 by_cases hij:i=j
 ·subst hij
  rw [List.getElem?_set] at h;simp only [if_true] at h
  split at h
  ·cases h;exact .inl ⟨rfl,rfl⟩
  ·cases h
 ·rw [J6 hij] at h
  exact .inr ⟨hij,h⟩
def z2 (i:Nat) (u:aa): ∀ (vs:List aa) (n:Nat) (fr:Frame),(uV (J3 n vs.length) vs fr)[i]?=Qa (Qa u) ->(∃j,i=n+j/\vs[j]?=Qa u)\/((i<n\/n+vs.length<=i)/\fr[i]?=Qa (Qa u)):=by
 intro vs
 induction vs with
 |nil=>exact λn fr h=> .inr ⟨Nat.lt_or_ge i n,h⟩
 |cons v vs ih=>
  intro n fr h;rw [ZC,YV] at h;rcases ih (n+1) (fr.set n (Qa v)) h with ⟨j,h1,h2⟩| ⟨h1,h2⟩
  ·exact .inl ⟨j+1,by lia,h2⟩
  ·rcases Bf h2 with ⟨e,rfl⟩| ⟨hne,h3⟩
   ·exact .inl ⟨0,e.symm,rfl⟩
   ·exact .inr ⟨by rw [ZC];lia,h3⟩
section
variable {C:ax}{d e:Nat}{Y:lB C d e}{k:Kp}{w:Wd}{H:MH}{s:Qe}{cx:CC}{env:Env}{mE:Str->Option Value}{fr:Frame}
def UG {A:Qo}{I:Qi}{io:Obj}{z:It}{i:Nat} (hI:s.heap.get? I=Qa io) (R:qG C w io i z) {Q:Value->Qe->Prop}{E:Value->Qe->Prop} (h:Q (.ref I) s):Qj C.M A (pyIter (.ref I)) Q E s:=by
 cases z with
 |fs _=>obtain ⟨la,_,ic⟩:=R;exact QY ⟨io,hI,ic.1,ic.2⟩ h
 |ls _=>obtain ⟨la,_,ic⟩:=R;exact QY ⟨io,hI,ic.1,ic.2⟩ h
 |tp _=>obtain ⟨la,_,ic⟩:=R;exact wpAny_pyIter_tupleiter ⟨io,hI,ic.1,ic.2⟩ h
 |sq _=>
  obtain ⟨T,t,hT,ic⟩:=R.2;rcases hT with rfl|rfl
  ·exact wpAny_pyIter_striter_ascii ⟨io,hI,ic.1,ic.2⟩ h
  ·exact wpAny_pyIter_striter_wide ⟨io,hI,ic.1,ic.2⟩ h
 |dk _ _ _=>obtain ⟨la,_,ic,id⟩:=R;exact Q1 ⟨io,hI,ic,id⟩ h
 |rg _=>obtain ⟨_,_,_,rfl⟩:=R;exact wpAny_pyIter_rangeiter hI h
abbrev GF : List String := ["enumerate","zip","dict_itemiterator","dict_reverseitemiterator","odict_iterator","itertools.zip_longest","itertools.pairwise"]
def qG.cls {io:Obj}{z:It}{i:Nat} (R:qG C w io i z): ∃T vs,io.cls= .type T/\io.data= .fields vs/\GF.contains T=false:=by
 cases z with
 |fs _=>obtain ⟨la,_,ic⟩:=R;exact ⟨_,_,ic.1,ic.2,by decide⟩
 |ls _=>obtain ⟨la,_,ic⟩:=R;exact ⟨_,_,ic.1,ic.2,by decide⟩
 |tp _=>obtain ⟨la,_,ic⟩:=R;exact ⟨_,_,ic.1,ic.2,by decide⟩
 |sq _=>obtain ⟨_,T,t,hT,ic⟩:=R;rcases hT with rfl|rfl<;>exact ⟨_,_,ic.1,ic.2,by decide⟩
 |dk _ _ _=>obtain ⟨la,_,ic,id⟩:=R;exact ⟨_,_,ic,id,by decide⟩
 |rg _=>obtain ⟨_,_,_,rfl⟩:=R;exact ⟨_,_,rfl,rfl,by decide⟩
def Wc {A:Qo}{I:Qi}{io:Obj} (hI:s.heap.get? I=Qa io) {tg:Expr}{v:Value} (R: ∃T vs,io.cls= .type T/\io.data= .fields vs/\GF.contains T=Qb) {Q:Unit->Qe->Prop}{E:Value->Qe->Prop} (h:Q () s):Qj C.M A (letOwnedTupleGo tg (.ref I) v) Q E s:=by
 refine R.elim λT zq19=>zq19.elim λvs zq20=>?_;have key:Qj C.M A (do
  let (.ref r,.ref a):=((qax I),v)|return
  let o<-load r
  match o.cls,o.data with
  | .type n,.fields vs=>
   if ["enumerate","zip","dict_itemiterator","dict_reverseitemiterator","odict_iterator","itertools.zip_longest","itertools.pairwise"].contains n && vs[0]? == Qa (rawInt a) then
    rule "for.unpacks-the-owned-tuple"
    updateField r 0 .none
  |_,_=>pure ()) Q E s:=by
  cases v with
  |ref b=>
   refine Qc (Jj hI ?_);rw [zq20.1,zq20.2.1]
   dsimp only
   rw [show (["enumerate","zip","dict_itemiterator","dict_reverseitemiterator","odict_iterator","itertools.zip_longest","itertools.pairwise"].contains T) = Qb from zq20.2.2];exact Qg h
  |_=>exact Qg h
 cases tg<;>first|exact Qg h|exact key
abbrev zW (env:Env) (ifs:List Expr) (b:Bool):Sem Bool:=forIn ifs b λc r=>if r=Qf then do let ok<-PySem.isTrue c env (PySem.eval c env);pure (ForInStep.yield ok) else pure (ForInStep.yield r)
def GG: ∀ (ifs:List Expr),zW env ifs Qb=pure false:=by
 intro ifs
 induction ifs with
 |nil=>rfl
 |cons c r ih=>
  delta zW;rw [Xi];simp only [KS,if_false,Jh];exact ih
def AW {ifs:List Expr}{irs:List Ex} (h:mj C d cx ifs irs): ∀ (Y:lB C d 2) (env:Env) (k:Kp) (mE:Str->Option Value) (fr:Frame) (w:Wd) (H:MH) (s:Qe),Pl Y cx env k mE fr w H s->bz Y k dZ (zW env ifs Qf) w s (LO (C.cx d) irs fr H):=by
 induction h with
 |nil=>exact λY env k mE fr w H s p=> .pure' p.st rfl
 |cons he _ ih=>
  intro Y env k mE fr w H s p r;refine kN λb H1 e1 e Q E hq=>?_;delta zW;rw [Xi];simp only [if_true];refine Qc (Qc (he.ts Y env k mE fr w H s p _ e1 _ _ λw1 a1 s1 n1 r1=>Qg ?_));rw [show a1=b from r1];cases b with
  |true=>exact ih Y env k mE fr w1 H1 s1 (p.next n1) _ e _ _ λw2 a2 s2 n2 r2=>hq w2 a2 s2 (n1.trans n2) r2
  |false=>
   obtain rfl:=Qa.inj e;show Qj C.M Y.A (zW env _ Qb) Q E s1;rw [GG];exact Qg (hq w1 _ s1 n1 rfl)
def Vt {sc:Scope} (hk:env.scope.kind= .function) (hs:env.scope.names=cx.sc):(relabel sc env).names=vW cx.sc sc:=by
 delta relabel vW
 dsimp only
 apply ZO
 intro p _;rw [hk,<-hs];delta Env.kindOf;obtain ⟨n,k⟩:=p
 dsimp only
 rw [show (ScopeKind.function==ScopeKind.function)=Qf from rfl,Yb]
 split<;>rfl
def r7 {sc:Scope}{xs:List Str} (O:IL cx sc xs) {x:Str}:((vW cx.sc sc).lookup x=Qa .local->sc.names.lookup x=Qa .local)/\((vW cx.sc sc).lookup x=Qa .cell->sc.names.lookup x=Qa .free/\cx.sc.lookup x=Qa .cell):=by
 rw [LU];refine ⟨lY λk hk e=>?_,lY λk hk e=>?_⟩
 ·split at e
  ·cases e
  ·rw [hk,e]
 ·split at e
  ·rename_i hc
   rw [ZY,beq_iff_eq,beq_iff_eq] at hc;rw [hk,hc.1];exact ⟨rfl,hc.2⟩
  ·exact absurd e (O.rl _ (lS hk))
def Pl.zi (p:Pl Y cx env k mE fr w H s) {sc:Scope}{xs:List Str} (O:IL cx sc xs) (hn:VW cx) {cl:List (Str×Qi)} (hcl: ∀x c,(x,NameKind.free)∈sc.names->env.cells.lookup x=Qa c->cl.lookup x=Qa c) {N:Qi}{oN:Obj}{k':Kp} (hk:k'.ce=k.ce) {mN:Str->Option Value} (hm:(N,oN)∈k'.ex) (hns:oj oN mN)
  {w':Wd} (le:w.le w') {H':MH}{s':Qe} (S':St Y k' w' H' s') {mvs:List aa}{vs:List Value} (r:kL C w' mvs vs) (hl:mvs.length=xs.length) (hv: ∀ (j:Nat) x,xs[j]?=Qa x->mN x=vs[j]?):Pl Y (cq cx sc xs) (compEnvC sc cl N env) k' mN (uV (J3 cx.next xs.length) mvs fr) w' H' s':=by
 refine ⟨⟨O.kind,p.b.gl,p.b.bl,Vt p.b.kind p.b.sc,λx hx=>?_,.inr ⟨oN,hm,hns⟩⟩,λx i v hx hvv=>?_,S'⟩
 ·exact (p.b.cells x ((r7 O).2 hx).2).elim λc zq15=>zq15.elim λo zq16=>zq16.elim λv₀ zq17=>⟨c,o,v₀,hcl x c (lS ((r7 O).2 hx).1) zq17.1,hk▸zq17.2.1,zq17.2.2⟩
 ·obtain ⟨hkd,hi⟩:=zG hx
  rw [<-hl] at hvv;rcases hkd with hkd|hkd
  ·have hloc:=(r7 O).1 hkd
   rcases tI hi with ⟨j,rfl,hj⟩| ⟨hne,hi'⟩
   ·have hjl:=(JD.mp hj).1
    rcases z2 _ _ _ _ _ hvv with ⟨j',e,hj'⟩| ⟨hlt,_⟩
    ·cases qaB e
     exact (r.get hj').elim λrv zq13=> .jz rv hkd ((hv _ _ hj).trans zq13.1) zq13.2
    ·lia
   ·rcases (O.jz _ (lS hloc) rfl).2 with h|h
    ·exact absurd h hne
    ·rw [h] at hi';cases hi'
  ·have zq12:=(r7 O).2 hkd
   rcases tI hi with ⟨j,rfl,hj⟩| ⟨_,hi'⟩
   ·have:=O.xs x (Ju hj)
    rw [zq12.1] at this;cases this
   ·have hlt:=hn x i hi'
    rcases z2 _ _ _ _ _ hvv with ⟨j',e,hj'⟩| ⟨_,hv'⟩
    ·lia
    ·have hvar:oK cx x=Qa i:=by unfold oK;rw [zq12.2];exact hi'
     cases (p.f x i v hvar hv').mono le with
     |jz _ h3 _ _=>rw [zq12.2] at h3;cases h3
     |cell rv c o _ e1 e2 e3 e4=>exact .cell rv c o hkd (hcl x c (lS zq12.1) e1) (hk▸e2) e3 e4
abbrev U3 (env:Env) (x:Str) (f:Value->Sem Unit):Prop:= ∀ (M:Jn) (A:Qo) (v:Value) (Q:Unit->Qe->Prop) (E:Value->Qe->Prop) (s:Qe),Qj M A (storeName env x v) Q E s->Qj M A (f v) Q E s
def oG {es:List Expr}{xs:List Str} (h:mS (λe x=>rW e=Qa x) es xs):mS (U3 env) xs ((assignEach es env).map (·.2))/\(assignEach es env).length=xs.length/\(assignEach es env).findIdx? (·.1)=none:=by
 induction h with
 |nil=>exact ⟨.nil,rfl,rfl⟩
 | @cons e x es xs h _ ih=>
  obtain ⟨p,hp,rfl⟩:=ms h;cases rH hp;refine ⟨.cons (λ_ _ _ _ _ _ z=>PySem.wpAny_assign_Name z) ih.1,congrArg (· +1) ih.2.1,?_⟩;show qbe _ ((Qb,assign (.Name p.1 p.2) env)::assignEach es env)=Qd;rw [qaO];simp only [KS,if_false,ih.2.2,qai]
def Py {t:Expr}{q:List Str×Bool} (h:wI t=Qa q):(∃x p,t= .Name x p/\q=([x],Qb))\/∃es n p,t= .Tuple es n p/\q.2=Qf/\mS (λe x=>rW e=Qa x) es q.1:=by
 revert h
 refine mB (lY λp hp e=>?_) (lC λp hp=>lY λxs hx e=>?_)
 ·exact .inl ⟨p.1,p.2,rH hp,e.symm⟩
 ·subst e
  exact .inr ⟨p.1,p.2.1,p.2.2,zO hp,rfl,rY hx⟩
inductive Ro (fr fr1:Frame) (tg:List Nat) (many:Bool) (v:aa):Prop
 |mk (mvs:List aa) (l:mvs.length=tg.length) (e:fr1=uV tg mvs fr) (t:many=Qf->v= .az mvs) (f:many=Qb->mvs= [v]):Ro fr fr1 tg many v
def Au {tg:List Nat}{many:Bool}{v:aa}{fr1:Frame} (h:oX fr tg many v=Qa fr1):Ro fr fr1 tg many v:=by
 cases many with
 |true=>
  refine xEA (bs (o:=v.tup?) h) λvs h1 h=>?_;exact ⟨vs,beq_iff_eq.mp (gs h).1,(Qa.inj (gs h).2).symm,λ_=>tup?_s h1,λq=>JI q⟩
 |false=>
  exact ⟨[v],(beq_iff_eq.mp (gs (b:=tg.length==1) h).1).symm,(Qa.inj (gs (b:=tg.length==1) h).2).symm,λq=>JI q,λ_=>rfl⟩
def yO (hk:env.scope.kind= .function) {x:Str} (hx:env.kindOf x=Qa .local) {oN:Obj}{mN:Str->Option Value} (S:St Y (k.ext (env.locals,oN)) w H s) (hns:oj oN mN) {rv:Value}{Q:Unit->Qe->Prop}{E:Value->Qe->Prop}
  (h: ∀oN' mN' h' tk,cg C Y.h₀ Y.L (k.ext (env.locals,oN')) w H h'->oj oN' mN'->mN' x=Qa rv->(∀y,y≠x->mN' y=mN y) ->Q () {s with heap:=h',toks:=tk}):Qj C.M Y.A (storeName env x rv) Q E s:=by
 refine Zs hns λes zq6=>zq6.elim λep zq7=>?_;refine QZ (m:=mN) hx ⟨oN,es,ep,S.fh.1,zq7⟩ (λh' hn hs=>?_) (by rw [hk];rfl);exact Zs hn λo' zq3=>zq3.elim λes' zq4=>zq4.elim λep' zq5=>h o' _ h' _ (S.jd hs zq5.1) ⟨es',ep',zq5.2⟩ (if_pos rfl) (λy hy=>if_neg hy)
def MJ (hk:env.scope.kind= .function) {xs:List Str}{fs:List (Value->Sem Unit)} (hb:mS (U3 env) xs fs):(∀x∈xs,env.kindOf x=Qa .local) ->xs.Nodup-> ∀ {vs:List Value}{oN:Obj}{mN:Str->Option Value}{s:Qe}{Q:Unit->Qe->Prop}{E:Value->Qe->Prop},
  vs.length=xs.length->St Y (k.ext (env.locals,oN)) w H s->oj oN mN->
  (∀oN' mN' h' tk,cg C Y.h₀ Y.L (k.ext (env.locals,oN')) w H h'->oj oN' mN'->(∀ (j:Nat) x,xs[j]?=Qa x->mN' x=vs[j]?) ->(∀y,y∉xs->mN' y=mN y) ->Q () {s with heap:=h',toks:=tk}) ->Qj C.M Y.A (assignInOrder fs vs) Q E s:=by
 induction hb with
 |nil=>
  intro _ _ vs oN mN s Q E hl S hns h;cases Zy.mp hl;exact Qg (h oN mN s.heap s.toks S hns (λj x hj=>ag hj) (λ_ _=>rfl))
 | @cons x f xs fs hf _ ih=>
  intro hx hd vs oN mN s Q E hl S hns h;cases vs with
  |nil=>cases hl
  |cons v vs=>
   show Qj C.M Y.A (do holding _ _;assignInOrder _ _) Q E s;refine Qc (Qk (hf _ _ _ _ _ _ (yO hk (hx x (.head _)) S hns λoN1 mN1 h1 tk S1 hns1 e1 e2=>?_)));refine ih (λy hy=>hx y (.tail _ hy)) (JN.mp hd).2 (s:={s with heap:=h1,toks:=tk}) (ZQ.inj hl) S1 hns1 λoN2 mN2 h2 tk2 S2 hns2 k1 k2=>?_;refine h oN2 mN2 h2 tk2 S2 hns2 (λj y hj=>?_) (λy hy=>(k2 y λq=>hy (.tail _ q)).trans (e2 y λq=>hy (q▸ .head _)));cases j with
   |zero=>refine mP hj ?_;rw [k2 _ (JN.mp hd).1,e1];rfl
   |succ j=>exact k1 j y hj
def O8 (hk:env.scope.kind= .function) {t:Expr}{q:List Str×Bool} (ht:wI t=Qa q) (hx: ∀x∈q.1,env.kindOf x=Qa .local) (hd:q.1.Nodup) {v:aa}{mvs:List aa}{rv:Value} (h1:q.2=Qf->v= .az mvs) (h2:q.2=Qb->mvs= [v]) (hl:mvs.length=q.1.length) (hv:kM C w v rv)
  {oN:Obj}{mN:Str->Option Value} (S:St Y (k.ext (env.locals,oN)) w H s) (hns:oj oN mN) {Q:Unit->Qe->Prop}{E:Value->Qe->Prop}
  (h: ∀vs oN' mN' h' tk,kL C w mvs vs->cg C Y.h₀ Y.L (k.ext (env.locals,oN')) w H h'->oj oN' mN'->(∀ (j:Nat) x,q.1[j]?=Qa x->mN' x=vs[j]?) ->Q () {s with heap:=h',toks:=tk}):Qj C.M Y.A (assign t env rv) Q E s:=by
 rcases Py ht with ⟨x,p,rfl,rfl⟩| ⟨es,n,p,rfl,hq,hes⟩
 ·cases h2 rfl
  refine PySem.wpAny_assign_Name (yO hk (hx x (.head _)) S hns λoN' mN' h' tk S' hns' e1 _=>h [rv] oN' mN' h' tk (.dz hv) S' hns' λj y hj=>?_);cases j with
  |zero=>refine mP hj ?_;exact e1
  |succ j=>exact ag hj
 ·cases h1 hq
  have zq2:=oG (env:=env) hes;obtain ⟨tt,o,n',ws,rfl,ho,hc,hdd,rr,_⟩:=S.az hv;exact Q7 (items:=ws.toArray) Y.handled ⟨o,ho,hc,n',hdd⟩ (by rw [zq2.2.1,Zo,<-rr.length,hl]) zq2.2.2 λh' he=>MJ hk zq2.1 hx hd (s:={s with heap:=h'}) (by rw [<-rr.length,hl]) (S.grown he) hns λoN' mN' h'' tk S2 hns2 k1 _=>h ws oN' mN' h'' tk rr S2 hns2 k1
end
structure d0 (C:ax) (d:Nat) (cx:CC) (g:Comprehension) (sc:Scope) (eu:Expr) (q:List Str×Bool) (ie ii:Ex) (iifs:List Ex):Prop where
 as:g.is_async=0
 t:wI g.target=Qa q
 o:IL cx sc q.1
 it:Sd C d cx g.iter ii
 eu:Sd C d (cq cx sc q.1) eu ie
 ifs:mj C d (cq cx sc q.1) g.ifs iifs
section
variable {C:ax}{d e:Nat}{k:Kp}{w:Wd}{H:MH}{s:Qe}{cx:CC}{env:Env}{mE:Str->Option Value}{fr:Frame}{gl:List (Str×aa)}
def cF (cx:Cx) (fr:Frame) (tg:List Nat) (many:Bool) (ie:Ex) (iifs:List Ex) (z:It) (D:Nat):Nat->Nat->MH->Option (Unit×MH):=
 compLoop (λi h=>mJ h i z) (λv h=>(oX fr tg many v).bind λfr'=>cb (LO cx iifs fr' h) λb h'=>Qa (bif b then Qa fr' else Qd,h')) (λfr' h=>eval cx ie fr' h) D
structure zby (C:ax) {d e:Nat} (Y:lB C d e) (k:Kp) (w0:Wd) (s0:Qe) (I N:Qi) (z:It) (F:Nat->MH->Option (Unit×MH)) (H2:MH) (s:Qe) (w:Wd) (H:MH) (j:Nat) (io oN:Obj) (mN:Str->Option Value):Prop where
 le:w0.le w
 st:St Y ((k.ext (N,oN)).ext (I,io)) w H s
 ns:oj oN mN
 it:qG C w io j z
 sm:rI s0 s
 lp:F j H=Qa ((),H2)
def zgy (C:ax) {d e:Nat} (Y:lB C d e) (k:Kp) (w0:Wd) (s0:Qe) (I N:Qi) (z:It) (F:Nat->MH->Option (Unit×MH)) (H2:MH) (s:Qe):Prop:= ∃w H j io oN mN,zby C Y k w0 s0 I N z F H2 s w H j io oN mN
def E0 {Y:lB C d 2}{sc:Scope}{eu t:Expr}{ifs:List Expr}{q:List Str×Bool}{ie:Ex}{iifs:List Ex}{R:Result->Qe->Prop}{X:Qe->Prop}{z:It}{F:Nat->Nat->MH->Option (Unit×MH)}{n j D0:Nat}{w0 w5:Wd}{H2 H5:MH}{s0 s':Qe}{I N D:Qi}{io oN:Obj}{mN:Str->Option Value}{cl:List (Str×Qi)}
  (hF:F=cF (C.cx d) fr (J3 cx.next q.1.length) q.2 ie iifs z D0) (Ot:wI t=Qa q) (Os:IL cx sc q.1) (Oi:mj C d (cq cx sc q.1) ifs iifs) (Oe:Sd C d (cq cx sc q.1) eu ie)
  (hP: ∀ {oN:Obj}{mN:Str->Option Value}{io:Obj}{w':Wd}{H':MH}{s':Qe}{mvs:List aa}{vs:List Value},oj oN mN->w0.le w'->St Y ((k.ext (N,oN)).ext (I,io)) w' H' s'->kL C w' mvs vs->mvs.length=q.1.length->(∀ (j:Nat) x,q.1[j]?=Qa x->mN x=vs[j]?) ->Pl Y (cq cx sc q.1) (compEnvC sc cl N env) ((k.ext (N,oN)).ext (I,io)) mN (uV (J3 cx.next q.1.length) mvs fr) w' H' s')
  (hD:w0.σ[D0]?=Qa D) (c:zby C Y k w0 s0 I N z (F (n+1)) H2 s' w5 H5 j io oN mN)
  (hX: ∀ {s w H j io oN mN},zby C Y k w0 s0 I N z (F n) H2 s w H j io oN mN->X s) (hE: ∀ {w oN mN s},w0.le w->St Y (k.ext (N,oN)) w H2 s->oj oN mN->rI s0 s->R (.ok .next) s):
  Qj C.M Y.A (pyNext (.ref I)) (cN C.prog C.w Y.A (compEnvC sc cl N env) R eu (.ref D) X t (.ref I) ifs) (cE C.prog C.w Y.A (compEnvC sc cl N env) R) s':=by
 subst hF;have lp5:=c.lp
 revert lp5
 refine lC λov hov lp5=>GX c.st c.it hov ⟨λu rv io6 h' tk hu S6 R6 hr=>?_,λh' hu S6=>?_⟩
 ·subst hu
  refine Wc (s:={s' with heap:=h',toks:=tk}) S6.fh.1 R6.cls ?_
  revert lp5
  refine kN λofr H7 htest lp5=>?_;refine xEA (bs htest) λfr2 hbind htest=>?_;obtain ⟨mvs,b1,b2,b3,b4⟩:=Au hbind;rw [KV] at b1;refine O8 (s:={s' with heap:=h',toks:=tk}) (env:=compEnvC sc cl N env) (k:=k.ext (I,io6)) Os.kind Ot (λx hx=>lookup_relabel_local (Os.xs x hx)) Os.nd b3 b4 b1 hr (cg.kz S6) c.ns λvs oN7 mN7 h7 tk7 rr7 S7 hns7 hm7=>?_;have P7:=hP hns7 c.le (cg.kz S7:St Y ((k.ext (N,oN7)).ext (I,io6)) w5 H5 {s' with heap:=h7,toks:=tk7}) rr7 b1 hm7;rw [<-b2] at P7
  revert htest
  refine kN λb H8 htt e8=>?_;cases e8;refine AW Oi Y _ _ _ _ _ _ _ P7 _ htt _ _ λw8 ok s8 n8 r8=>?_;cases (r8);have le8:=c.le.trans n8.le;have sm8:rI s0 s8:=rI.trans c.sm ⟨n8.ck.1,n8.ck.2⟩;cases b with
  |false=>exact hX ⟨le8,n8.st,hns7,R6.mono n8.le,sm8,lp5⟩
  |true=>
   revert lp5
   refine kN λx9 H9 ev9=>lC λacc hacc=>nB λhlen lp9=>?_;refine Oe.es Y _ _ _ _ _ _ _ (P7.next n8) _ ev9 _ _ λw9 xv s9 n9 r9=>?_;exact z0 n9.st ((le8.trans n9.le).get hD) hacc r9 (Zd.mp hlen) _ rfl _ _ λw10 _ s10 vj _=>hX ⟨(le8.trans n9.le).trans vj.le,vj.st,hns7,R6.mono ((n8.le.trans n9.le).trans vj.le),(sm8.trans n9.ck).trans vj.ck,lp9⟩
 ·subst hu
  cases lp5;exact hE c.le S6 c.ns ⟨c.sm.1,c.sm.2⟩
theorem E1 {Y:lB C d 2}{sc:Scope}{eu t it:Expr}{ifs:List Expr}{q:List Str×Bool}{ie ii:Ex}{iifs:List Ex}{pos:Pos}{R:Result->Qe->Prop}{z:It}{D0 m:Nat}{w0:Wd}{H2 H4:MH}{s4:Qe}{I N D:Qi}{io oN:Obj}{mN:Str->Option Value}{cl:List (Str×Qi)} (O:d0 C d cx ⟨t,it,ifs,0⟩ sc eu q ie ii iifs) (hn:VW cx)
  (hcl: ∀x c,(x,NameKind.free)∈sc.names->env.cells.lookup x=Qa c->cl.lookup x=Qa c) (p:Pl Y cx env k mE fr w H s) (le:w.le w0) (hD:w0.σ[D0]?=Qa D) (S4:St Y ((k.ext (N,oN)).ext (I,io)) w0 H4 s4) (hns:oj oN mN) (R2:qG C w0 io 0 z)
  (lp:cF (C.cx d) fr (J3 cx.next q.1.length) q.2 ie iifs z D0 m 0 H4=Qa ((),H2)) (hE: ∀ {w oN mN s},w0.le w->St Y (k.ext (N,oN)) w H2 s->oj oN mN->rI s4 s->R (.ok .next) s):
  codeAny C.M Y.A (.compLoop (.ListComp eu [⟨t,it,ifs,0⟩] sc pos) 0 (.ref I) (.ref D) (compEnvC sc cl N env)) R s4:=
 u7 (λn s'=>zgy C Y k w0 s4 I N z (cF (C.cx d) fr (J3 cx.next q.1.length) q.2 ie iifs z D0 n) H2 s') (λn s' c=>by
  refine c.elim λ_ c=>c.elim λ_ c=>c.elim λ_ c=>c.elim λ_ c=>c.elim λ_ c=>c.elim λ_ c=>?_;cases n with
  |zero=>exact ag c.lp
  |succ n=>exact E0 rfl O.t O.o O.ifs O.eu (λhns l S r hl hv=>p.zi O.o hn hcl (k':=(k.ext (N,_)).ext (I,_)) rfl (.tail _ (.head _)) hns (le.trans l) S r hl hv) hD c (λc=>⟨n,J0 n,_,_,_,_,_,_,c⟩) hE) m ⟨_,_,0,io,oN,_,.refl _,S4,hns,R2,⟨rfl,rfl⟩,lp⟩
def Ak {Y:lB C d 2}{g:Comprehension}{sc:Scope}{eu:Expr}{q:List Str×Bool}{ie ii:Ex}{iifs:List Ex}{pos ps:Pos} (O:d0 C d cx g sc eu q ie ii iifs) (hn:VW cx) (p:Pl Y cx env k mE fr w H s) {r:aa×MH}
  (ev:eval (C.cx d) (.comp ie (J3 cx.next q.1.length) q.2 ii iifs) fr H=Qa r) {use:Option (Value->Sem Unit)}{Q:Value->Qe->Prop}{E:Value->Qe->Prop}
  (hpost: ∀w' D N oN mN s',w.le w'->St Y (k.ext (N,oN)) w' r.2 s'->oj oN mN->kM C w' r.1 (.ref D) ->rI s s'->compPost C.M Y.A E use Q (.ref D) N (.ok .next) s'):
  Qj C.M Y.A (comprehension (.ListComp eu [g] sc pos) sc env ps (newList []) Qb (PySem.eval g.iter env) use) Q E s:=by
 have as:=O.as;have Os:=O.o;obtain ⟨t,it,ifs,a⟩:=g;subst (as:a=0)
 revert ev
 refine kN λv H1 ev1=>lC λz hz=>kN λ_ H2 lp e=>?_;obtain rfl:=Qa.inj e;obtain ⟨cl,hclos,hcl⟩:=HW (scope:=sc) (env:=env) λx hx hf=>by
  refine (p.b.cells x.1 (Os.free x hx hf).2).elim λc zq11=>zq11.elim λ_ zq12=>zq12.elim λ_ zq13=>?_;rw [zq13.1];rfl
 refine wpAny_comprehension_free rfl (O.it.sy.zo env) hclos Os.kind (λx hx hl=>(Os.jz x hx hl).1) (O.it.es Y env k mE fr w H s p _ ev1 _ _ λw1 a1 s1 n1 r1=>GZ n1.st r1 (λI io h2 S2 R2=>?_) hz);obtain ⟨all,hnn,add,_,_⟩:=S2.dp;refine QB (wpAny_newFunctionEnv Os.rl (by intro y hy;simp at hy) (λh₁ hns₁ hsb₁=>?_) Os.kind);have le2:w1.le ⟨w1.σ++ [h2.objs.size],w1.tp⟩:=⟨J5 _ _,λ_ x=>x⟩;have S3:=add _ (.list []) [(h2.objs.size,listOf ([]:List Value).toArray 0)] _ ⟨[],0,rfl,.nil,JJ _⟩ (S2.fr.push _) (hnn.push S2.fr _) (pC _) (News.gw hnn λp hp=>JG.mp hp▸JA _) (S2.px (JA _));have hD:(w1.σ++ [h2.objs.size])[H1.length]?=Qa h2.objs.size:=by rw [<-S2.len];exact Zi
 refine Zs hns₁ λoN zq8=>zq8.elim λesN zq9=>zq9.elim λepN zq10=>?_;have S4 := (S3.je { cls := .type "dict",data := .dict #[] } rfl).jd hsb₁ zq10.1;have hns:oj oN (λx=>qaZ x ([]:List (Str×Value)).reverse):=⟨esN,epN,zq10.2⟩;have loop:=λ(s4:Qe) (hs4:s4.heap=h₁) (sm4:rI s s4)=>E1 (pos:=pos) (s4:=s4) (R:=compPost C.M Y.A E use Q _ _) O hn hcl (p.next n1) le2 hD (by rw [St,hs4];exact S4.kz) hns (R2.mono le2) lp λle S hns sm=>hpost _ _ _ _ _ _ ((n1.le.trans le2).trans le) S hns ⟨_,rfl,le.get hD⟩ (sm4.trans sm);exact codeAny_compStart_list (loop _ rfl ⟨n1.ck.1,n1.ck.2⟩) (UG (s:={s1 with heap:=h₁,toks:=_}) (cg.fh (cg.kz S4)).1 R2 (loop _ rfl ⟨n1.ck.1,n1.ck.2⟩))
theorem mC {e:Expr} (h1: ∀rest env,starEach (e::rest) env=(Qb,PySem.eval e env)::starEach rest env) (h2: ∀o i,subscripted e Qb o i=operate [o,i] (getItem o i)) (h3: ∀op,behindInMarks op e=Qb) (h4: ∀env x,foldedSetIterable e env x=pure x) (h5: ∀t n env,swapsWith e t n env=pure Qb):Sy e:=⟨h1,h2,h3,h4,λ_=>h5⟩
theorem Sd.of {e:Expr}{ir:Ex} (h:nI C d cx e ir) (he: ∀ (env:Env) (whole:Sem Value),PySem.isTrue e env whole=(do let v<-whole;standAt e.pos;holding [v] (PySem.truthy v))) (sy:Sy e):Sd C d cx e ir:=⟨h,Hm h he,sy⟩
def zP (O:nV C gl) (hC:pY C d): ∀ (n:Nat) (cx:CC),IT C cx.gl->VW cx-> ∀ (e:Expr) (ir:Ex),mK n cx e=Qa ir->Sd C d cx e ir:=by
 intro n
 induction n with
 |zero=>exact λcx _ _ e ir h=>ag h
 |succ n ih'=>
  intro cx hg hcc e ir;have ih:=ih' cx hg hcc;have ihs: ∀ {es irs},pD (mK n cx) es=Qa irs->mj C d cx es irs:=λh=>(rY h).mono ih;cases e with
  |Constant c m pos=>exact lY λv hv e=>e▸ .of (A4 hv) (λ_ _=>rfl) (mC (λ_ _=>rfl) (λ_ _=>rfl) (λ_=>rfl) (λ_ _=>rfl) (λ_ _ _=>rfl))
  |Name x pos=>exact λh=> .of (GY hg h) (λ_ _=>rfl) (mC (λ_ _=>rfl) (λ_ _=>rfl) (λ_=>rfl) (λ_ _=>rfl) (λ_ _ _=>rfl))
  |BoolOp op vs pos=>
   exact lY λirs hi e=>e▸ ⟨λY env k mE fr w H s p=>M3 (pos:=pos) (ihs hi) Y env k mE fr w H s p,λY env k mE fr w H s p r e Q E hq=>wpAny_isTrue_BoolOp (FF (ihs hi) Y env k mE fr w H s p r e Q E hq),mC (λ_ _=>rfl) (λ_ _=>rfl) (λ_=>rfl) (λ_ _=>rfl) (λ_ _ _=>rfl)⟩
  |BinOp l op r pos=>
   exact lC λo ho=>lC λa ha=>lY λb hb e=>e▸ .of (M4 ho (ih _ _ ha).es (ih _ _ hb).es) (λ_ _=>rfl) (mC (λ_ _=>rfl) (λ_ _=>rfl) (λ_=>rfl) (λ_ _=>rfl) (λ_ _ _=>rfl))
  |UnaryOp op x pos=>
   refine nB λho=>lY λa ha e=>e▸?_;cases op with
   |Not=>exact ⟨MR (ih _ _ ha).es,FD (ih _ _ ha).ts,mC (λ_ _=>rfl) (λ_ _=>rfl) (λ_=>rfl) (λ_ _=>rfl) (λ_ _ _=>rfl)⟩
   |_=>cases ho
  |IfExp t x y pos=>
   exact lC λa ha=>lC λb hb=>lY λc hc e=>e▸ ⟨MW (ih _ _ ha).ts (ih _ _ hb).es (ih _ _ hc).es,FE (ih _ _ ha).ts (ih _ _ hb).ts (ih _ _ hc).ts,mC (λ_ _=>rfl) (λ_ _=>rfl) (λ_=>rfl) (λ_ _=>rfl) (λ_ _ _=>rfl)⟩
  |List es pos=>exact nB λhl=>lY λirs hi e=>e▸ .of (F5 (ihs hi) hl) (λ_ _=>rfl) (mC (λ_ _=>rfl) (λ_ _=>rfl) (λ_=>rfl) (λ_ _=>rfl) (λ_ _ _=>rfl))
  |Tuple es m pos=>exact nB λhl=>lY λirs hi e=>e▸ .of (AV (ihs hi) hl) (λ_ _=>rfl) (mC (λ_ _=>rfl) (λ_ _=>rfl) (λ_=>rfl) (λ_ _=>rfl) (λ_ _ _=>rfl))
  |Compare l ops cs pos=>
   intro h;obtain ⟨o,rfl,h⟩:=Wg h;obtain ⟨r,rfl,h⟩:=Wg h
   revert h
   exact lC λa ha=>lY λb hb e=>e▸ ⟨G3 O.iq (ih _ _ ha).es (ih _ _ hb),UA O.iq (ih _ _ ha).es (ih _ _ hb),mC (λ_ _=>rfl) (λ_ _=>rfl) (λ_=>rfl) (λ_ _=>rfl) (λ_ _ _=>rfl)⟩
  |Call f as ks pos=>
   refine nB λhk=>lC λirs hi h=>?_;cases ks with
   |cons _ _=>cases (Jr.mp hk).1
   |nil=>
    refine .of ?_ (λ_ _=>rfl) (mC (λ_ _=>rfl) (λ_ _=>rfl) (λ_=>rfl) (λ_ _=>rfl) (λ_ _ _=>rfl))
    revert h
    refine mB (lC λp hp=>lY λg hgn e=>?_) (lC λp hp=>nB λhc=>lY λg hgn e=>?_)
    ·rw [<-e,rH hp]
     exact UI O hC (ihs hi) (GY hg hgn)
    ·have hc:=Jr.mp hc
     rw [<-e,Vj hp];exact UJ O hC (ihs hi) (Zd.mp (Jr.mp hk).2) (ih _ _ hgn).es (Jr.mp hc.1).1 (Jr.mp hc.1).2 hc.2
  |Attribute v nm pos=>
   exact nB λhc=>lY λa ha e=>e▸ .of (Bc O (ih _ _ ha).es (Jr.mp hc).1 (Jr.mp hc).2) (λ_ _=>rfl) (mC (λ_ _=>rfl) (λ_ _=>rfl) (λ_=>rfl) (λ_ _=>rfl) (λ_ _ _=>rfl))
  |Subscript v sl pos=>
   intro h;refine .of ?_ (λ_ _=>rfl) (mC (λ_ _=>rfl) (λ_ _=>rfl) (λ_=>rfl) (λ_ _=>rfl) (λ_ _ _=>rfl));have h:JF (motive:=λ_=>Option Ex) (xR sl) ((mK n cx v).bind λe=>(mK n cx sl).map λi=> .sub e i) (λp=>au ((qY v).isSome && p.2.2.1.isNone) ((mK n cx v).bind λe=>(Gk (mK n cx) p.1 p.2.1).map λq=> .slice e q.1 q.2))=Qa ir:=h;refine DW (xR sl) (λhs=>?_) λp hs=>?_
   ·rw [hs] at h
    revert h
    exact lC λa ha=>lY λb hb e=>e▸MQ (ih _ _ ha).es (ih _ _ hb)
   ·rw [hs] at h
    revert h
    refine nB λhc=>lC λa ha=>lY λq hq e=>?_;simp only [<-e,E9 hs,Kh.mp (Jr.mp hc).2];exact AX (Jr.mp hc).1 (ih _ _ ha).es ih hq
  |Dict ks vs pos=>
   refine nB λhl=>lC λia ha=>lY λib hb e=>e▸?_;exact .of (Ba ((rY ha).mono λo i h=>(bs h).elim λe h=>⟨e,h.1,ih _ _ h.2⟩) (ihs hb) (beq_iff_eq.mp hl)) (λ_ _=>rfl) (mC (λ_ _=>rfl) (λ_ _=>rfl) (λ_=>rfl) (λ_ _=>rfl) (λ_ _ _=>rfl))
  |ListComp eu gens sc pos=>
   intro h;obtain ⟨g,rfl,h⟩:=Wg h
   revert h
   refine lC λq hq=>nB λhc=>lC λii hi=>lC λiifs hf=>lY λie he e=>e▸?_;refine .of (λY env k mE fr w H s p r ev Q E hQ=>?_) (λ_ _=>rfl) ⟨λ_ _=>rfl,λ_ _=>rfl,λ_=>rfl,λ_ _=>rfl,λq=>JI q⟩;obtain ⟨t,it,ifs,a⟩:=g;have ha:a=0:=beq_iff_eq.mp (Jr.mp hc).1;subst ha;simp only [eval_ListComp];refine Ak (⟨beq_iff_eq.mp (Jr.mp hc).1,hq,DH (Jr.mp hc).2,ih _ _ hi,(ih' (cq cx sc q.1) hg (hcc.cq sc q.1)) _ _ he,(rY hf).mono (ih' (cq cx sc q.1) hg (hcc.cq sc q.1))⟩) hcc p ev λw' D N oN mN s' le S' hns r' sm=>?_;refine Zs hns λes zq1=>zq1.elim λep zq2=>?_;exact ⟨mN,⟨oN,es,ep,S'.fh.1,zq2⟩,λh' hs=>hQ w' _ {s' with heap:=h'} ⟨le,S'.gn hs.extBut,sm.1,sm.2⟩ r'⟩
  |_=>exact λh=>ag h
end
inductive uu (C:ax) (w:Wd):Fl->Jo->Prop
 |nx:uu C w .nx .next
 |bk:uu C w .bk .brk
 |ct:uu C w .ct .cont
 |rt {v:aa}{rv:Value}:kM C w v rv->uu C w (.rt v) (.ret rv)
structure zdK (cx:CC) (env:Env) (L:Qi):Prop where
 kind:env.scope.kind= .function
 gl:env.globals=mainGlobals
 bl:env.builtins=builtinsNs
 sc:env.scope.names=cx.sc
 cells: ∀x,cx.sc.lookup x=Qa .cell-> ∃c,env.cells.lookup x=Qa c
 dC: ∀x y c,cx.sc.lookup x=Qa .cell->cx.sc.lookup y=Qa .cell->env.cells.lookup x=Qa c->env.cells.lookup y=Qa c->x=y
 jz:env.locals=L
 inj: ∀x y i,oK cx x=Qa i->oK cx y=Qa i->x=y
def zgz (cx:CC) (env:Env) (ce:bt):Prop:= ∀x c,cx.sc.lookup x=Qa .cell->env.cells.lookup x=Qa c-> ∃o v₀,(c,o)∈ce/\o.data= .cell v₀
structure jc {C:ax}{d e:Nat} (Y:lB C d e) (cx:CC) (env:Env) (k:Kp) (fr:Frame) (w:Wd) (H:MH) (s:Qe):Prop where
 b:zdK cx env Y.L
 c:zgz cx env k.ce
 f:zdJ C w cx env k.ce k.m fr
 st:St Y k w H s
theorem jc.pl {C:ax}{d e:Nat}{Y:lB C d e}{cx:CC}{env:Env}{k:Kp}{fr:Frame}{w:Wd}{H:MH}{s:Qe} (p:jc Y cx env k fr w H s):Pl Y cx env k k.m fr w H s:=
 ⟨⟨p.b.kind,p.b.gl,p.b.bl,p.b.sc,λx h=>(p.b.cells x h).elim λc hc=>(p.c x c h hc).elim λo h=>h.elim λv₀ h=>⟨c,o,v₀,hc,h.1,h.2⟩,.inl ⟨p.b.jz,rfl⟩⟩,p.f,p.st⟩
theorem jc.next {C:ax}{d e:Nat}{Y:lB C d e}{cx:CC}{env:Env}{k:Kp}{fr:Frame}{w w':Wd}{H H':MH}{s s':Qe} (p:jc Y cx env k fr w H s) (n:jf Y k w w' H' s s'):jc Y cx env k fr w' H' s':=⟨p.b,p.c,λx i v a b=>(p.f x i v a b).mono n.le,n.st⟩
structure oi {C:ax}{d e:Nat} (Y:lB C d e) (cx:CC) (env:Env) (ex:bt) (w:Wd) (s:Qe) (k':Kp) (fr':Frame) (w':Wd) (H':MH) (s':Qe):Prop where
 ex:k'.ex=ex
 le:w.le w'
 pl:jc Y cx env k' fr' w' H' s'
 ck:rI s s'
theorem oi.trans {C:ax}{d e:Nat}{Y:lB C d e}{cx:CC}{env:Env}{ex:bt}{w w1 w2:Wd}{s s1 s2:Qe}{k1 k2:Kp}{fr1 fr2:Frame}{H1 H2:MH} (a:oi Y cx env ex w s k1 fr1 w1 H1 s1) (b:oi Y cx env k1.ex w1 s1 k2 fr2 w2 H2 s2):oi Y cx env ex w s k2 fr2 w2 H2 s2:=⟨b.ex.trans a.ex,a.le.trans b.le,b.pl,a.ck.trans b.ck⟩
theorem jc.nx {C:ax}{d e:Nat}{Y:lB C d e}{cx:CC}{env:Env}{k:Kp}{fr:Frame}{w w':Wd}{H H':MH}{s s':Qe} (p:jc Y cx env k fr w H s) (n:jf Y k w w' H' s s'):oi Y cx env k.ex w s k fr w' H' s':=⟨rfl,n.le,p.next n,n.ck⟩
theorem jc.rf {C:ax}{d e:Nat}{Y:lB C d e}{cx:CC}{env:Env}{k:Kp}{fr:Frame}{w:Wd}{H:MH}{s:Qe} (p:jc Y cx env k fr w H s):oi Y cx env k.ex w s k fr w H s:=⟨rfl,.refl w,p,.refl s⟩
def fZ {C:ax}{d e:Nat} (Y:lB C d e) (cx:CC) (env:Env) (ex:bt) (t:Sem Jo) (w:Wd) (s:Qe) (r:(Fl×Frame)×MH):Prop:=
 ∀ (Q:Jo->Qe->Prop) (E:Value->Qe->Prop),(∀k' w' f s',oi Y cx env ex w s k' r.1.2 w' r.2 s'->uu C w' r.1.1 f->Q f s') ->Qj C.M Y.A t Q E s
def v5 (C:ax) (d:Nat) (cx:CC) (st:Qz) (ir:Sm):Prop:=
 ∀ (Y:lB C d 2) (env:Env) (k:Kp) (fr:Frame) (w:Wd) (H:MH) (s:Qe),jc Y cx env k fr w H s-> ∀r,exec (C.cx d) ir fr H=Qa r->fZ Y cx env k.ex (PySem.exec st env) w s r
def vJ (C:ax) (d:Nat) (cx:CC) (st:List Qz) (ir:List Sm):Prop:=
 ∀ (Y:lB C d 2) (env:Env) (k:Kp) (fr:Frame) (w:Wd) (H:MH) (s:Qe),jc Y cx env k fr w H s-> ∀r,execs (C.cx d) ir fr H=Qa r->fZ Y cx env k.ex (PySem.execs st env) w s r
section
variable {C:ax}{d e:Nat}{Y:lB C d e}{k:Kp}{w:Wd}{H:MH}{s:Qe}{cx:CC}{env:Env}{fr:Frame}{gl:List (Str×aa)}
def Ut (ce:bt) (c:Qi) (o:Obj):bt:=ce.map λp=>if p.1=c then (c,o) else p
def E5 (ce:bt) (c:Qi) (o:Obj):(Ut ce c o).map (·.1)=ce.map (·.1):=by
 delta Ut;rw [KO]
 apply ZO
 intro p _;show (if p.1=c then (c,o) else p).1=p.1;split
 ·rename_i h;exact h.symm
 ·rfl
def cg.yn {h₀:Qs}{L:Qi}{h h':Qs}{c:Qi}{o o':Obj} (S:cg C h₀ L k w H h) (hc:(c,o)∈k.ce) (hs:Heap.SameBut c h h') (ho:h'.get? c=Qa o'):cg C h₀ L {k with ce:=Ut k.ce c o'} w H h':=by
 obtain ⟨os,he,hn,hd⟩:=S.os;have g:=hn (c,o) (JV _ (JV _ (Zj _ hc)));have hp: ∀ce:bt,({k with ce:=ce}:Kp).all w os|>.Perm (ce++(os.flatten++(w.tp++k.ex))):=λce=>
  (List.Perm.append_left os.flatten (Ky w.tp ce k.ex)).trans (Ky os.flatten ce (w.tp++k.ex))
 have hd1:=bt.nd.jh (hp k.ce) hd;unfold bt.nd at hd1;have hd2:=hd1;rw [JY,ZR] at hd2;refine ⟨Fr.sameBut S.fr hs g.2,⟨os,he,λp hpm=>?_,bt.nd.jh (hp _).symm ?_⟩,S.pb,S.lo⟩
 ·rcases J4.mp ((hp _).mem_iff.mp hpm) with hpm|hpm
  ·refine (JO.mp hpm).elim λq zq14=>?_
   have e:=zq14.2;by_cases hqc:q.1=c
   ·rw [if_pos hqc] at e
    rw [<-e];exact ⟨ho,g.2⟩
   ·rw [if_neg hqc] at e
    rw [<-e]
    have:=hn q (JV _ (JV _ (Zj _ zq14.1)))
    exact ⟨(hs.2 q.1 hqc).trans this.1,this.2⟩
  ·have:=hn p ((hp k.ce).mem_iff.mpr (JV _ hpm))
   exact ⟨(hs.2 p.1 λe=>hd2.2.2 c (JO.mpr ⟨_,hc,rfl⟩) p.1 (JO.mpr ⟨_,hpm,rfl⟩) e.symm).trans this.1,this.2⟩
 ·delta bt.nd
  rw [JY,E5,<-JY];exact hd1
def rQ (p:jc Y cx env k fr w H s) {x:Str}{i:Nat}{v:aa}{rv:Value} (hi:oK cx x=Qa i) (r:kM C w v rv) {A':Qo}{Q:Unit->Qe->Prop}{E:Value->Qe->Prop}
  (h: ∀k' s',oi Y cx env k.ex w s k' (fr.set i (Qa v)) w H s'->Q () s'):Qj C.M A' (storeName env x rv) Q E s:=by
 have oq: ∀ {y j},oK cx y=Qa j->i≠j->y≠x:=λhj hij e=>hij (by rw [e,hi] at hj;exact Qa.inj hj);rcases (zG hi).1 with hk|hk
 ·refine QZ (p.pl.b.kindOf hk) (by rw [p.b.jz];exact p.st.fr.ns) (λh' hn hs=>?_) (by rw [p.b.kind];rfl)
  rw [p.b.jz] at hn hs;obtain ⟨os,he,hnn,hd⟩:=p.st.os;refine h {k with m:=λy=>if y=x then Qa rv else k.m y} _ ⟨rfl,.refl w,⟨p.b,p.c,λy j u hj hu=>?_,p.st.fr.set hn hs,⟨os,he,hnn.set hs,hd⟩,p.st.pb,p.st.lo⟩,rfl,rfl⟩;rcases Bf hu with ⟨rfl,rfl⟩| ⟨hij,hu'⟩
  ·cases p.b.inj y x _ hj hi
   exact .jz rv hk (if_pos rfl) r
  ·cases p.f y j u hj hu' with
   |jz rv' h1 h2 h3=>exact .jz rv' h1 ((if_neg (oq hj hij)).trans h2) h3
   |cell rv' c o h1 h2 h3 h4 h5=>exact .cell rv' c o h1 h2 h3 h4 h5
 ·refine (p.b.cells x hk).elim λc zq13=>?_
  have hc:=zq13;refine (p.c x c hk hc).elim λo zq11=>zq11.elim λv₀ zq12=>?_;refine wpAny_storeName_cell p.b.kind (p.pl.b.kindOf hk) hc ⟨o,p.st.zq zq12.1,zq12.2⟩ λh' hv hs=>?_;refine Zs hv λo' zq10=>?_;have hmem: ∀ {y cy oy},cx.sc.lookup y=Qa .cell->env.cells.lookup y=Qa cy->(cy,oy)∈k.ce->y≠x->(cy,oy)∈Ut k.ce c o':=λ{y cy oy} hy hcy hm hyx=>
   JO.mpr ⟨(cy,oy),hm,if_neg λe=>hyx (p.b.dC y x c hy hk (by rw [hcy];exact congrArg Qa e) hc)⟩
  have hself:(c,o')∈Ut k.ce c o':=JO.mpr ⟨(c,o),zq12.1,if_pos rfl⟩;refine h {k with ce:=Ut k.ce c o'} _ ⟨rfl,.refl w,⟨p.b,λy cy hy hcy=>?_,λy j u hj hu=>?_,p.st.yn zq12.1 hs zq10.1⟩,rfl,rfl⟩
  ·by_cases hyx:y=x
   ·cases hyx
    rw [hc] at hcy;refine mP hcy ?_;exact ⟨o',Qa rv,hself,zq10.2⟩
   ·exact (p.c y cy hy hcy).elim λoy zq8=>zq8.elim λvy zq9=>⟨oy,vy,hmem hy hcy zq9.1 hyx,zq9.2⟩
  ·rcases Bf hu with ⟨rfl,rfl⟩| ⟨hij,hu'⟩
   ·cases p.b.inj y x _ hj hi
    exact .cell rv c o' hk hc hself zq10.2 r
   ·cases p.f y j u hj hu' with
    |jz rv' h1 h2 h3=>exact .jz rv' h1 h2 h3
    |cell rv' cy oy h1 h2 h3 h4 h5=>exact .cell rv' cy oy h1 h2 (hmem h1 h2 h3 (oq hj hij)) h4 h5
theorem FZ:vJ C d cx [] []:=λY env k fr w H s p r e=>by
 refine mP e ?_;exact λQ E hq=>QU (hq k w .next s p.rf .nx)
def AS {st:Qz}{r:List Qz}{i:Sm}{is:List Sm} (h1:v5 C d cx st i) (h2:vJ C d cx r is):vJ C d cx (st::r) (i::is):=by
 intro Y env k fr w H s p r;refine kN λq H1 e1 e Q E hq=>wpAny_execs_cons (h1 Y env k fr w H s p _ e1 _ _ λk1 w1 f s1 n1 r1=>?_);obtain ⟨fl,fr1⟩:=q;cases r1 with
 |nx=>exact h2 Y env k1 fr1 w1 H1 s1 n1.pl _ e _ _ λk2 w2 f2 s2 n2 r2=>hq k2 w2 f2 s2 (n1.trans n2) r2
 |bk=>obtain rfl:=Qa.inj e;exact hq k1 w1 .brk s1 n1 .bk
 |ct=>obtain rfl:=Qa.inj e;exact hq k1 w1 .cont s1 n1 .ct
 |rt h=>obtain rfl:=Qa.inj e;exact hq k1 w1 _ s1 n1 (.rt h)
def F1 (hcc:VW cx) {x:Str}{xp pos:Pos}{v:Expr}{i:Nat}{iv:Ex} (hi:oK cx x=Qa i) (hv:Sd C d cx v iv) (hL: ∀ {eu gens sc cp},v= .ListComp eu gens sc cp-> ∃g q ie ii iifs,gens= [g]/\d0 C d cx g sc eu q ie ii iifs/\iv= .comp ie (J3 cx.next q.1.length) q.2 ii iifs):v5 C d cx (.Assign [.Name x xp] v pos) (.bg (.nm i) iv):=by
 intro Y env k fr w H s p r;show cb (eval (C.cx d) iv fr H) (λv h1=>cb (GL (C.cx d) fr h1 v (.nm i)) λfr' h2=>Qa ((.nx,fr'),h2))=Qa r->_;refine kN λu H1 e1 e=>?_;refine mP e ?_;intro Q E hq;have plain:swapsWith v (Qa (.Name x xp)) pos.line env=pure Qb->Qj C.M Y.A (PySem.exec (.Assign [.Name x xp] v pos) env) Q E s:=λhsw=>
  wpAny_Assign_Name (hv.es Y env k k.m fr w H s p.pl _ e1 _ _ λw1 a1 s1 n1 r1=>rQ (p.next n1) hi r1 λk' s' n2=>hq k' w1 .next s' ((p.nx n1).trans n2) .nx) hsw
 refine vY (qV v) (λhc=>?_) λhc=>?_
 ·clear hv
  cases v with
  |ListComp eu gens sc cpos=>
   obtain ⟨b,hb⟩: ∃b,swapsWith (.ListComp eu gens sc cpos) (Qa (.Name x xp)) pos.line env=pure b:=⟨_,rfl⟩;cases b with
   |false=>exact plain hb
   |true=>
    obtain ⟨g,q,ie,ii,iifs,rfl,P,rfl⟩:=hL rfl;obtain ⟨t,it,ifs,a⟩:=g;cases P.as;rw [exec_Assign_Name_used _ _ _ _ hb];refine Qc (Qm (Qc ?_));refine Qc (Qr (Ak (use:=Qa (assign (.Name x xp) env)) (Q:=λ_ s'=>Q .next s') P hcc p.pl e1 λw1 D N oN mN s1 le S1 hns r1 sm1=>?_) (λ_ s' hq=>Qg (Qg hq)) λ_ _ e=>e);refine PySem.wpAny_assign_Name (rQ (⟨p.b,p.c,λx i v a b=>(p.f x i v a b).mono le,S1⟩:jc Y cx env (k.ext (N,oN)) fr w1 H1 s1) hi r1 λk' s' n2=>?_);refine Zs hns λes zq1=>zq1.elim λep zq2=>?_;obtain ⟨ce',ex',m'⟩:=k';cases n2.ex;exact ⟨mN,⟨oN,es,ep,cg.fh (k:=⟨ce',k.ex,m'⟩) n2.pl.st|>.1,zq2⟩,λh'' hs=>hq ⟨ce',k.ex,m'⟩ w1 .next {s' with heap:=h''} ⟨rfl,le,⟨n2.pl.b,n2.pl.c,n2.pl.f,cg.gn (k:=⟨ce',k.ex,m'⟩) n2.pl.st hs.extBut⟩,(sm1.trans n2.ck).1,(sm1.trans n2.ck).2⟩ .nx⟩
  |_=>cases hc
 ·exact plain (hv.sy.swap hc _ _ _)
def FY {v:Expr}{pos:Pos}{iv:Ex} (hv:nI C d cx v iv):v5 C d cx (.Return (Qa v) pos) (.ret iv):=by
 intro Y env k fr w H s p r;show cb (eval (C.cx d) iv fr H) (λv h1=>Qa ((.rt v,fr),h1))=Qa r->_;refine kN λu H1 e1 e=>?_;refine mP e ?_;exact λQ E hq=>wpAny_Return_some (hv Y env k k.m fr w H s p.pl _ e1 _ _ λw1 a1 s1 n1 r1=>hq k w1 _ s1 (p.nx n1) (.rt r1))
def AQ {pos:Pos}:v5 C d cx (.Return Qd pos) (.ret (.lit .none)):=by
 intro Y env k fr w H s p r e;refine mP e ?_;exact λQ E hq=>wpAny_Return_none (hq k w _ s p.rf (.rt rfl))
def MN {t:Expr}{x y:List Qz}{pos:Pos}{it:Ex}{ix iy:List Sm} (ht:zF C d cx t it) (hx:vJ C d cx x ix) (hy:vJ C d cx y iy):v5 C d cx (.If t x y pos) (.ite it ix iy):=by
 intro Y env k fr w H s p r;show cb (mX (eval (C.cx d) it fr H)) (λr h1=>bif r then execs (C.cx d) ix fr h1 else execs (C.cx d) iy fr h1)=Qa r->_;refine kN λb H1 e1 e Q E hq=>wpAny_If (ht Y env k k.m fr w H s p.pl _ e1 _ _ λw1 a1 s1 n1 r1=>?_);rw [show a1=b from r1];cases b with
 |true=>exact hx Y env k fr w1 H1 s1 (p.next n1) _ e _ _ λk2 w2 f2 s2 n2 r2=>hq k2 w2 f2 s2 ((p.nx n1).trans n2) r2
 |false=>exact hy Y env k fr w1 H1 s1 (p.next n1) _ e _ _ λk2 w2 f2 s2 n2 r2=>hq k2 w2 f2 s2 ((p.nx n1).trans n2) r2
inductive zdH {C:ax}{d e:Nat} (Y:lB C d e) (cx:CC) (env:Env) (ex:bt) (w0:Wd) (s0:Qe) (F:Frame->MH->SR) (r:(Fl×Frame)×MH) (s:Qe):Prop
 |mk (k:Kp) (fr:Frame) (w:Wd) (H:MH) (n:oi Y cx env ex w0 s0 k fr w H s) (lp:F fr H=Qa r):zdH Y cx env ex w0 s0 F r s
def Hq {t:Expr}{b:List Qz}{pos:Pos}{it:Ex}{ib:List Sm} (ht:zF C d cx t it) (hb:vJ C d cx b ib):v5 C d cx (.While t b [] pos) (.wh it ib):=by
 intro Y env k fr w H s p r ev Q E hq;refine wpAny_While (codeAny_whileLoop (λn s'=>zdH Y cx env k.ex w s (Wp (λfr h=>mX (eval (C.cx d) it fr h)) (λfr h=>execs (C.cx d) ib fr h) n) r s') ?_ (C.cx d).cu ⟨k,fr,w,H,p.rf,ev⟩)
 rintro n s' ⟨k1,fr1,w1,H1,n1,lp⟩
 cases n with
 |zero=>exact ag lp
 |succ n=>
  revert lp
  refine kN λc H2 e2 lp=>ht Y env k1 k1.m fr1 w1 H1 s' n1.pl.pl _ e2 _ _ λw2 a2 s2 n2 r2=>?_;simp only [show a2=c from r2];have n2':=n1.trans (n1.pl.nx n2);cases c with
  |false=>
   obtain rfl:=Qa.inj lp;rw [if_neg Zn];exact QU (hq k1 w2 .next s2 n2' .nx)
  |true=>
   rw [if_pos rfl]
   revert lp
   show cb (execs (C.cx d) ib fr1 H2) (λp h2=>Fl.casesOn (motive:=λ_=>SR) p.1 (Wp (λfr h=>mX (eval (C.cx d) it fr h)) (λfr h=>execs (C.cx d) ib fr h) n p.2 h2) (Qa ((.nx,p.2),h2)) (Wp (λfr h=>mX (eval (C.cx d) it fr h)) (λfr h=>execs (C.cx d) ib fr h) n p.2 h2) (λv=>Qa ((.rt v,p.2),h2)))=Qa r->_;refine kN λq H3 e3 lp=>hb Y env k1 fr1 w2 H2 s2 n2'.pl _ e3 _ _ λk3 w3 f3 s3 n3 r3=>?_;obtain ⟨fl,fr3⟩:=q;cases r3 with
   |nx=>exact ⟨n,J0 n,k3,fr3,w3,H3,(n2'.trans n3),lp⟩
   |ct=>exact ⟨n,J0 n,k3,fr3,w3,H3,(n2'.trans n3),lp⟩
   |bk=>obtain rfl:=Qa.inj lp;exact hq k3 w3 .next s3 (n2'.trans n3) .nx
   |rt h=>obtain rfl:=Qa.inj lp;exact hq k3 w3 _ s3 (n2'.trans n3) (.rt h)
end
def Ee {i:Nat}{v:aa}: ∀ (is:List Nat) (vs:List aa) (fr:Frame),i∉is->(uV is vs fr).set i (Qa v)=uV is vs (fr.set i (Qa v)):=by
 intro is
 induction is with
 |nil=>exact λvs fr _=>rfl
 |cons j is ih=>
  intro vs fr h;cases vs with
  |nil=>rfl
  |cons u vs=>
   show (uV is vs (fr.set j (Qa u))).set i (Qa v)=uV is vs ((fr.set i (Qa v)).set j (Qa u));rw [ih vs _ λq=>h (.tail _ q),List.set_comm _ _ λq:j=i=>h (q▸ .head _)]
def Bp: ∀ (is:List Nat) (vs:List aa) (i:Nat) (v:aa) (fr:Frame),is.length=vs.length->uV (is++ [i]) (vs++ [v]) fr=(uV is vs fr).set i (Qa v):=by
 intro is
 induction is with
 |nil=>intro vs i v fr h;cases Zy.mp h.symm;rfl
 |cons j is ih=>
  intro vs i v fr h;cases vs with
  |nil=>cases h
  |cons u vs=>exact ih vs i v _ (ZQ.inj h)
def Bo: ∀ (is:List Nat) (vs:List aa) (fr:Frame),is.Nodup->is.length=vs.length->uV is.reverse vs.reverse fr=uV is vs fr:=by
 intro is
 induction is with
 |nil=>intro vs fr _ h;cases Zy.mp h.symm;rfl
 |cons i is ih=>
  intro vs fr hd h;cases vs with
  |nil=>cases h
  |cons v vs=>
   rw [KG,KG,Bp _ _ _ _ _ (by rw [YA,YA];exact ZQ.inj h),ih vs fr (JN.mp hd).2 (ZQ.inj h),Ee is vs fr (JN.mp hd).1];rfl
section
variable {C:ax}{d e:Nat}{Y:lB C d e}{k:Kp}{w:Wd}{H:MH}{s:Qe}{cx:CC}{env:Env}{fr:Frame}{gl:List (Str×aa)}
def kL.reverse: ∀ {ms:List aa}{vs:List Value},kL C w ms vs->kL C w ms.reverse vs.reverse:=by
 intro ms
 induction ms with
 |nil=>intro vs h;refine eqB h ?_;exact .nil
 |cons m ms ih=>intro vs h;obtain ⟨v,r,rfl,h,h'⟩:=h;rw [KG,KG];exact kL.append (.dz h) (ih h')
def mS.reverse {α β:Type}{R:α->β->Prop}{as:List α}{bs:List β} (h:mS R as bs):mS R as.reverse bs.reverse:=by
 have cw: ∀ {as:List α}{bs:List β}{a b},mS R as bs->R a b->mS R (as++ [a]) (bs++ [b]):=λh hab=>by
  induction h with
  |nil=>exact .cons hab .nil
  |cons x _ ih=>exact .cons x ih
 induction h with
 |nil=>exact .nil
 |cons x _ ih=>rw [KG,KG];exact cw ih x
abbrev tH (cx:CC) (x:Str) (i:Nat):Prop:=oK cx x=Qa i
def xV: ∀ {xs:List Str}{is:List Nat}{fs:List (Value->Sem Unit)},mS (tH cx) xs is->mS (U3 env) xs fs-> ∀ {mvs:List aa}{vs:List Value}{k:Kp}{fr:Frame}{s:Qe}{Q:Unit->Qe->Prop}{E:Value->Qe->Prop},
  kL C w mvs vs->mvs.length=is.length->jc Y cx env k fr w H s->(∀k' s',oi Y cx env k.ex w s k' (uV is mvs fr) w H s'->Q () s') ->Qj C.M Y.A (assignInOrder fs vs) Q E s:=by
 intro xs is fs hi
 induction hi generalizing fs with
 |nil=>
  intro hf mvs vs k fr s Q E r hl p h;cases hf;cases Zy.mp hl;subst r;exact Qg (h k s p.rf)
 |cons hi _ ih=>
  intro hf mvs vs k fr s Q E r hl p h;cases hf with
  |cons hf vp=>
   cases mvs with
   |nil=>cases hl
   |cons mv mvs=>
    obtain ⟨v,t,rfl,hv,r⟩:=r;show Qj C.M Y.A (do holding _ _;assignInOrder _ _) Q E s;exact Qc (Qk (hf _ _ _ _ _ _ (rQ p hi hv λk1 s1 n1=>ih vp r (ZQ.inj hl) n1.pl λk2 s2 n2=>h k2 s2 (n1.trans n2))))
def H0: ∀ (xs:List Str),mS (U3 env) xs (xs.map λn=>bindName env n):=by
 intro xs
 induction xs with
 |nil=>exact .nil
 |cons x xs ih=>exact .cons (λ_ _ _ _ _ _ z=>wpAny_bindName z) ih
theorem DE {xs:List Str}{is:List Nat} (h:pD (UK cx) xs=Qa is):mS (tH cx) xs is:=(rY h).mono λ_ _ h=>(gs h).2
def Bd (B:zdK cx env Y.L) {xs:List Str}{is:List Nat} (h:mS (tH cx) xs is):xs.Nodup->is.Nodup:=by
 have mem: ∀ {xs:List Str}{is:List Nat},mS (tH cx) xs is-> ∀i∈is,∃y∈xs,oK cx y=Qa i:=λh=>by
  induction h with
  |nil=>exact λi hi=>absurd hi JB
  | @cons x j _ _ h _ ih=>
   intro i hi;rcases JT.mp hi with rfl|hi
   ·exact ⟨x,.head _,h⟩
   ·obtain ⟨y,hy,e⟩:=ih i hi;exact ⟨y,.tail _ hy,e⟩
 induction h with
 |nil=>exact λ_=> .nil
 | @cons x i xs is h1 h2 ih=>
  intro hd;have hd:=JN.mp hd;exact JN.mpr ⟨λhi=>(mem h2 i hi).elim λy zq13=>hd.1 (B.inj x y i h1 zq13.2▸zq13.1),ih hd.2⟩
def Li (F:Expr->Option Str) (kk:Str->Pos->Bool) (hF: ∀i p,F (.Name i p)=if kk i p then Qa i else Qd) {es:List Expr}{xs:List Str} (h:mS (λe x=>rW e=Qa x) es xs):(es.filterMap F).length=es.length->es.filterMap F=xs:=by
 induction h with
 |nil=>exact λ_=>rfl
 | @cons e x es xs h _ ih=>
  intro hl;obtain ⟨p,hp,rfl⟩:=ms h;cases rH hp;rw [KN,hF] at hl ⊢;refine vY (kk p.1 p.2) (λhk=>?_) λhk=>?_
  ·rw [hk]
   rw [hk] at hl;exact congrArg (KB _) (ih (ZQ.inj hl))
  ·rw [hk]
   rw [hk] at hl;exact absurd (XJ F es) (qab.mpr (YG (J0 _) hl.symm))
def U1 {α:Type}{c:Prop} [Decidable c] {a b x y:Sem α} (ha:a=x) (hb: ¬c->b=x\/b=y):(if c then a else b)=x\/(if c then a else b)=y:=by
 by_cases h:c
 ·rw [if_pos h];exact .inl ha
 ·rw [if_neg h];exact hb h
def HN {α:Type}{c:Prop} [Decidable c] {a b x:Sem α} (ha:a=x) (hb: ¬c->b=x):(if c then a else b)=x:=by
 by_cases h:c
 ·rw [if_pos h];exact ha
 ·rw [if_neg h];exact hb h
def eS {a b c d:Nat} (h: ¬((a !=b||c !=d)=Qf)):a=b:=by
 rw [Xk,bne_iff_ne] at h;exact Decidable.not_not.mp λq=>h (.inl q)
def V7 {es:List Expr}{n:Nat}{tpos:Pos}{v:Expr} (h:vI v=Qd):swappedStores [.Tuple es n tpos] v env=pure none:=by cases v<;>first|rfl|cases h
def R0 {es:List Expr}{n:Nat}{tpos:Pos}{v:Expr}{xs:List Str} (hok:V4 v=Qf) (hn:mS (λe x=>rW e=Qa x) es xs):
  swappedStores [.Tuple es n tpos] v env=pure Qd\/swappedStores [.Tuple es n tpos] v env=pure (Qa xs):=by
 refine DW (vI v) (λht=>?_) λp ht=>?_
 ·exact .inl (V7 ht)
 ·cases zO ht
  have hok:(!p.1.all (constantsAlone 8))=true:=(Jr.mp hok).2;have hok:p.1.all (constantsAlone 8)=false:=by
   cases hq:p.1.all (constantsAlone 8) with
   |false=>rfl
   |true=>rw [hq] at hok;cases hok
  refine U1 rfl λ_=>U1 rfl λ_=>U1 rfl λh3=>U1 rfl λ_=> .inr ?_;rw [hok];exact congrArg (λz=>(pure (Qa z):Sem (Option (List Str)))) (Li _ (λid pos=>env.kindOf id==Qa .local && pos.line==((es.head?.map (·.pos.line)).getD 0)) (λi p=>rfl) hn (eS h3))
def AL {c:Cx}{h:MH}: ∀ {is:List Nat}{mvs:List aa}{fr:Frame}{r:Frame×MH},rP c (is.map T1.nm) mvs fr h=Qa r->mvs.length=is.length/\r=(uV is mvs fr,h):=by
 intro is
 induction is with
 |nil=>
  intro mvs fr r e;refine xA (gs e) λh1 e=>?_;refine mP e ?_;cases mvs with
  |nil=>exact ⟨rfl,rfl⟩
  |cons _ _=>cases h1
 |cons i is ih=>
  intro mvs fr r e;cases mvs with
  |nil=>exact ag e
  |cons v mvs=>
   have zq10:=ih (show rP c (is.map T1.nm) mvs (fr.set i (Qa v)) h=Qa r from e);exact ⟨congrArg (· +1) zq10.1,zq10.2⟩
def Wq {v:aa}{rv:Value}{mvs:List aa} (S:St Y k w H s) (hv:kM C w v rv) (hi:items H v=Qa mvs) {Q:List Value->Qe->Prop}{E:Value->Qe->Prop}
  (h: ∀vs h',kL C w mvs vs->cg C Y.h₀ Y.L k w H h'->Q vs {s with heap:=h'}):Qj C.M Y.A (unpackItems rv mvs.length Qd) Q E s:=by
 revert hi
 refine mB (λe=>?_) (λe=>?_)
 ·cases tup?_s e
  obtain ⟨t,o,n,ws,rfl,ho,hc,hdt,rr,_⟩:=S.az hv;rw [rr.length,<-Zo];exact unpackItems_tuple (items:=ws.toArray) Y.handled ⟨o,ho,hc,n,hdt⟩ λh' he=>h ws h' rr (S.grown he)
 ·obtain ⟨t,ws,n,rfl,ho,rr,_⟩:=S.list hv e
  rw [rr.length,<-Zo];exact kun_itemsOf Y.handled ⟨_,ho,rfl,n,rfl⟩ λh' he=>h ws h' rr (S.grown he)
theorem zX {v:Expr}{i:Ex} (hv:Sd C d cx v i) (hok:V4 v=Qf) {t:Expr}{n:Nat}:swapsWith v (Qa t) n env=pure false:=hv.sy.swap (by have:=(Jr.mp hok).1;cases hq:qV v;rfl;rw [hq] at this;cases this) _ _ _
def AU {es:List Expr}{n:Nat}{tpos pos:Pos}{v:Expr}{xs:List Str}{is:List Nat}{iv:Ex} (hok:V4 v=Qf) (hn:mS (λe x=>rW e=Qa x) es xs) (hnd:xs.Nodup) (hs:mS (tH cx) xs is) (hv:Sd C d cx v iv):
  v5 C d cx (.Assign [.Tuple es n tpos] v pos) (.jn (is.map T1.nm) iv):=by
 intro Y env k fr w H s p r;show cb (eval (C.cx d) iv fr H) (λv h1=>(items h1 v).bind λvs=>cb (rP (C.cx d) (is.map T1.nm) vs fr h1) λfr' h2=>Qa ((.nx,fr'),h2))=Qa r->_;refine kN λu H1 e1=>lC λmvs hm=>kN λfr' H2 e2 e=>?_;obtain ⟨hl,e3⟩:=AL e2;cases e3;refine mP e ?_;intro Q E hq;rcases R0 (env:=env) (tpos:=tpos) (n:=n) hok hn with hw|hw
 ·refine Assign_Tuple (hv.es Y env k k.m fr w H s p.pl _ e1 _ _ λw1 a1 s1 n1 r1=>?_) (by unfold swapsWithSole;exact zX hv hok) hw
  rw [assign_Tuple];refine Qc (Qm ?_);delta unpack;rw [(oG (env:=env) hn).2.1,(oG (env:=env) hn).2.2,<-(hl.trans hs.length)];exact Qc (Qk (Wq n1.st r1 hm λvs h' rr S'=>xV hs (oG (env:=env) hn).1 rr hl (⟨p.b,p.c,(p.next n1).f,S'⟩:jc Y cx env k fr w1 H1 {s1 with heap:=h'}) λk2 s2 n2=>hq k2 w1 .next s2 ⟨n2.ex,n1.le.trans n2.le,n2.pl,n1.ck.trans ⟨n2.ck.1,n2.ck.2⟩⟩ .nx))
 ·refine Assign_Tuple_swapped (names:=xs) (hv.es Y env k k.m fr w H s p.pl _ e1 _ _ λw1 a1 s1 n1 r1=>?_) (by unfold swapsWithSole;exact zX hv hok) hw
  rw [<-(hl.trans hs.length)];refine Wq n1.st r1 hm λvs h' rr S'=>xV hs.reverse (H0 xs.reverse) rr.reverse (by rw [YA,YA];exact hl) (⟨p.b,p.c,(p.next n1).f,S'⟩:jc Y cx env k fr w1 H1 {s1 with heap:=h'}) λk2 s2 n2=>?_;rw [Bo is mvs fr (Bd p.b hs hnd) hl.symm] at n2;exact hq k2 w1 .next s2 ⟨n2.ex,n1.le.trans n2.le,n2.pl,n1.ck.trans ⟨n2.ck.1,n2.ck.2⟩⟩ .nx
abbrev OB (C:ax) (d:Nat) (cx:CC) (e:Expr) (q:Ex×Nat):Prop:= ∃o nm pos,e= .Attribute o nm pos/\kQ nm=Qf/\q.2=ez nm/\Sd C d cx o q.1
def Ep {F:Expr->Option Str}{es:List Expr}{ts:List (Ex×Nat)} (h4:(es.filterMap F).length=es.length) (hF: ∀o nm pos,F (.Attribute o nm pos)=Qd) (h:mS (OB C d cx) es ts) (he:es.isEmpty=Qb):False:=by
 have e:es.filterMap F= []:=by
  clear h4 he
  induction h with
  |nil=>rfl
  |cons h _ ih=>obtain ⟨o,nm,pos,rfl,_⟩:=h;rw [KN,hF];exact ih
 rw [e] at h4;cases es with
 |nil=>cases he
 |cons _ _=>cases h4
def R5 {es:List Expr}{ts:List (Ex×Nat)}{n:Nat}{tpos:Pos}{v:Expr} (he:es.isEmpty=Qb) (ht:mS (OB C d cx) es ts):swappedStores [.Tuple es n tpos] v env=pure none:=by
 refine DW (vI v) (λhv=>?_) λp hv=>?_
 ·exact V7 hv
 ·cases zO hv
  refine HN rfl λ_=>HN rfl λ_=>HN rfl λh3=>(Ep (eS h3) (λ_ _ _=>rfl) ht he).elim
def xW (O:nV C gl) {es:List Expr}{ts:List (Ex×Nat)} (ht:mS (OB C d cx) es ts):(assignEach es env).length=es.length/\(assignEach es env).findIdx? (·.1)=Qd/\∀ {Y:lB C d 2}{k:Kp}{fr:Frame}{w:Wd}{H:MH}{mvs:List aa}{vs:List Value}{r:Frame×MH}{s:Qe}{Q:Unit->Qe->Prop}{E:Value->Qe->Prop},
   kL C w mvs vs->jc Y cx env k fr w H s->rP (C.cx d) (ts.map λq=>T1.at q.1 q.2) mvs fr H=Qa r->(r.1=fr->mvs.length=es.length-> ∀w' s',jf Y k w w' r.2 s s'->Q () s') ->Qj C.M Y.A (assignInOrder ((assignEach es env).map (·.2)) vs) Q E s:=by
 induction ht with
 |nil=>
  refine ⟨rfl,rfl,λ{Y k fr w H mvs vs r s Q E} rr p e h=>?_⟩;refine xA (gs e) λh1 e=>?_;obtain rfl:=Qa.inj e;cases mvs with
  |nil=>refine eqE rr ?_;exact Qg (h rfl rfl w s (.refl p.st))
  |cons _ _=>cases h1
 | @cons _ q _ _ ha _ ih=>
  refine Zs ha λo zq2=>zq2.elim λnm zq3=>zq3.elim λpos zq4=>?_;refine eqB zq4.1 ?_;refine ⟨congrArg (· +1) ih.1,?_,λ{Y k fr w H mvs vs r s Q E} rr p e h=>?_⟩
  ·show qbe _ ((Qb,assign (.Attribute o nm pos) env)::assignEach _ env)=Qd
   rw [qaO];simp only [KS,if_false,ih.2.1,qai]
  ·cases mvs with
   |nil=>exact ag e
   |cons mv mvs=>
    obtain ⟨v,t,rfl,hv,rr⟩:=rr
    revert e
    refine kN λfr1 H1 e1 e=>?_
    revert e1
    show cb (eval (C.cx d) q.1 fr H) (λov h1=>(setAttr C.P h1 ov q.2 mv).map λh2=>(fr,h2))=Qa (fr1,H1) ->_;refine kN λov H2 e3=>lY λH3 hs e4=>?_;cases e4;rw [zq4.2.2.1] at hs;show Qj C.M Y.A (do holding _ (assign (.Attribute o nm pos) env v);assignInOrder _ _) Q E s;refine Qc (Qk ?_);simp only [assign_Attribute];exact Qc (Qk (zq4.2.2.2.es Y env k k.m _ w H s p.pl _ e3 _ _ λw1 a1 s1 n1 r1=>Qc (Qm (Qc (Qk (yP O n1.st zq4.2.1 r1 (hv.mono n1.le) (λs2 n2=>wpAny_release (ih.2.2 (rr.mono n1.le) (p.next (n1.trans n2)) e λe5 e6 w' s' n3=>h e5 (congrArg (· +1) e6) w' s' ((n1.trans n2).trans n3))) hs))))))
def GQ (O:nV C gl) {es:List Expr}{n:Nat}{tpos pos:Pos}{v:Expr}{ts:List (Ex×Nat)}{iv:Ex} (hok:V4 v=Qf) (hne:es.isEmpty=Qb) (ht:mS (OB C d cx) es ts) (hv:Sd C d cx v iv):
  v5 C d cx (.Assign [.Tuple es n tpos] v pos) (.jn (ts.map λq=>T1.at q.1 q.2) iv):=by
 intro Y env k fr w H s p r;show cb (eval (C.cx d) iv fr H) (λv h1=>(items h1 v).bind λvs=>cb (rP (C.cx d) (ts.map λq=>T1.at q.1 q.2) vs fr h1) λfr' h2=>Qa ((.nx,fr'),h2))=Qa r->_;refine kN λu H1 e1=>lC λmvs hm=>kN λfr' H2 e2 e=>?_;refine mP e ?_;have hlen: ∀ {ts:List T1}{mvs:List aa}{fr:Frame}{h:MH}{r:Frame×MH},rP (C.cx d) ts mvs fr h=Qa r->mvs.length=ts.length:=by
  intro ts
  induction ts with
  |nil=>intro mvs fr h r e;have:=(gs e).1;cases mvs with|nil=>rfl|cons _ _=>cases this
  |cons t ts ih=>
   intro mvs fr h r e;cases mvs with
   |nil=>exact ag e
   |cons v mvs=>revert e;exact kN λfr' h' _ e=>congrArg (· +1) (ih e)
 intro Q E hq;refine Assign_Tuple (hv.es Y env k k.m fr w H s p.pl _ e1 _ _ λw1 a1 s1 n1 r1=>?_) (by unfold swapsWithSole;exact zX hv hok) (R5 hne ht);rw [assign_Tuple];refine Qc (Qm ?_);delta unpack;simp only [(xW (env:=env) O ht).1,(xW (env:=env) O ht).2.1,<-((hlen e2).trans ((Jt ..).trans ht.length):mvs.length=es.length)];refine Qc (Qk (Wq n1.st r1 hm λvs h' rr S'=>?_));have n2:jf Y k w w1 H1 s {s1 with heap:=h'}:=⟨n1.le,S',n1.ck.1,n1.ck.2⟩;exact (xW (env:=env) O ht).2.2 rr (p.next n2) e2 λe5 _ w' s' n3=>by
  subst e5;exact hq k w' .next s' (p.nx (n2.trans n3)) .nx
end
def Hg {prog:Qt}{w:Qn}{A:Qo}{s:Qe}{l:Qi}{its:Array Value}{n:Nat}{z:Int}{t:Tok}{v:Value}{Q:Unit->Qe->Prop}{E:Value->Qe->Prop} (ho:s.heap.get? l=Qa (listOf its n)) (h0:0<=z) (hj:z<its.size) (hfit:z<2 ^ 63)
  (hQ: ∀h' n',h'.get? l=Qa (listOf (its.setIfInBounds z.toNat v) n') ->Heap.SameBut l s.heap h'->Q () {s with heap:=h'}):Qj (model prog w) A (setItem (.ref l) (.int z t) v) Q E s:=by
 delta setItem
 try with_reducible refine Qk ?_
 refine Qc (Q8 (⟨_,ho,rfl⟩) rfl ?_);refine Qc (wpAny_callSpecial?_slot (name:=Str.ofString "__setitem__") (⟨_,ho,rfl⟩) Je
  (Qq Je (⟨_,ho,rfl⟩) entry_list_setitem ?_ (args_list_setitem _ _ _)))
 show Qj _ _ (qa5 (.int z t)>>=_) _ _ s;refine Qc (wpAny_listSubscript_int (fitsIndex_of h0 hfit) ?_)
 clear hfit
 obtain ⟨j,rfl⟩:=Int.eq_ofNat_of_zero_le h0;have hj':j<its.size:=ZW.mp hj;refine Qc (Qc (wpAny_seqItemAt ho rfl (Qg ?_)));rw [(Array.getElem?_eq_getElem hj':its[j]?=Qa its[j])];refine Qc (wpAny_setSeqItemAt ho rfl ?_);have fe:Q () {s with heap:=s.heap.update l (Obj.mapSeq (·.setIfInBounds j v))}:=hQ _ _ (Yq _ ho rfl) (Heap.SameBut.update ..)
 first
  |exact Qc (Qg (Qg ⟨.none,rfl,Qg fe⟩))
  |exact Qg ⟨.none,rfl,Qg fe⟩
section
variable {C:ax}{d e:Nat}{Y:lB C d e}{k:Kp}{w:Wd}{H:MH}{s:Qe}{cx:CC}{env:Env}{fr:Frame}{gl:List (Str×aa)}
def LW (p:jc Y cx env k fr w H s) {t:Expr}{q:List Str×Bool}{sl:List Nat} (ht:wI t=Qa q) (hs:mS (tH cx) q.1 sl) {v:aa}{rv:Value}{fr1:Frame} (hv:kM C w v rv) (hb:oX fr sl q.2 v=Qa fr1) {Q:Unit->Qe->Prop}{E:Value->Qe->Prop}
  (h: ∀k' s',oi Y cx env k.ex w s k' fr1 w H s'->Q () s'):Qj C.M Y.A (assign t env rv) Q E s:=by
 obtain ⟨mvs,b1,rfl,b3,b4⟩:=Au hb;rcases Py ht with ⟨x,pp,rfl,rfl⟩| ⟨es,n,pp,rfl,hq,hes⟩
 ·cases b4 rfl
  cases hs with
  |cons hi hs=>
   cases hs;exact PySem.wpAny_assign_Name (rQ p hi hv h)
 ·cases b3 hq
  obtain ⟨tt,o,n',ws,rfl,ho,hc,hd,rr,_⟩:=p.st.az hv;exact Q7 (items:=ws.toArray) Y.handled ⟨o,ho,hc,n',hd⟩ (by rw [(oG (env:=env) hes).2.1,Zo,<-rr.length,b1,hs.length]) (oG (env:=env) hes).2.2 λh' he=>xV hs (oG (env:=env) hes).1 rr b1 (⟨p.b,p.c,p.f,p.st.grown he⟩:jc Y cx env k fr w H {s with heap:=h'}) λk' s' n2=>h k' s' ⟨n2.ex,n2.le,n2.pl,n2.ck.1,n2.ck.2⟩
inductive Ff {C:ax}{d e:Nat} (Y:lB C d e) (cx:CC) (env:Env) (ex:bt) (w0:Wd) (s0:Qe) (I:Qi) (z:It) (F:Nat->Frame->MH->SR) (r:(Fl×Frame)×MH) (s:Qe):Prop
 |mk (k:Kp) (fr:Frame) (w:Wd) (H:MH) (j:Nat) (io:Obj) (ex':k.ex=ex) (le:w0.le w) (p:jc Y cx env (k.ext (I,io)) fr w H s) (it:qG C w io j z) (sm:rI s0 s) (lp:F j fr H=Qa r):Ff Y cx env ex w0 s0 I z F r s
theorem jc.gn {q:Qi×Obj}{h':Qs} (p:jc Y cx env (k.ext q) fr w H s) (hx:Heap.ExtBut q.1 s.heap h'):jc Y cx env k fr w H {s with heap:=h'}:=⟨p.b,p.c,p.f,cg.gn (b:=q.1) (o:=q.2) p.st hx⟩
def BI {β:Type}{ov:Option aa}{v:aa}{a:β}{f:aa->β}{r:β} (h:ov=Qa v) (q:JF (motive:=λ_=>β) ov a f=r):f v=r:=by subst h;exact q
def BJ {β:Type}{ov:Option aa}{a:β}{f:aa->β}{r:β} (h:ov=Qd) (q:JF (motive:=λ_=>β) ov a f=r):a=r:=by subst h;exact q
section
variable (M:Jn) (A:Qo) (env:Env) (R:Result->Qe->Prop) (I:Nat->Qe->Prop) (n:Nat)
def qh:Value->Qe->Prop:=notedBy M A env λe s'=>R (.error e) s'
def fP:Jo->Qe->Prop:=λf s=>Flow.casesOn (motive:=λ_=>Prop) f (∃m,m<n/\I m s) (R (.ok .next) s) (∃m,m<n/\I m s) λv=>R (.ok (.ret v)) s
def jV (t:Expr) (it:Value) (b:List Qz) (v:Value) (s:Qe):Prop:=Qj M A (letOwnedTupleGo t it v) (λ_ s₁'=>Qj M A (assign t env v) (λ_ s₂=>Qj M A (PySem.execs b env) (fP R I n) (qh M A env R) s₂) (qh M A env R) s₁') (qh M A env R) s
def jX (t:Expr) (it:Value) (b:List Qz):Option Value->Qe->Prop:=λr s=>JF (motive:=λ_=>Prop) r (Qj M A (PySem.execs [] env) (λf s₃=>R (.ok f) s₃) (qh M A env R) s) λv=>jV M A env R I n t it b v s
end
def OO (C:ax) (d:Nat) (z:It) (sl:List Nat) (m:Bool) (ib:List Sm):Nat->Nat->Frame->MH->SR:=yT (λi h=>mJ h i z) (λfr v=>oX fr sl m v) (λfr h=>execs (C.cx d) ib fr h)
def ON {Y:lB C d 2}{ex:bt}{w0:Wd}{s0:Qe}{Ia:Qi}{z:It}{F:Nat->Nat->Frame->MH->SR}{r:(Fl×Frame)×MH}{R:Result->Qe->Prop}{I:Nat->Qe->Prop}{n j:Nat}{g:Fl×Frame}{k6:Kp}{w6:Wd}{H6:MH}{s6:Qe}{f6:Jo}
  (hI: ∀m s,Ff Y cx env ex w0 s0 Ia z (F m) r s->I m s) (hq: ∀k' w' f s',oi Y cx env ex w0 s0 k' r.1.2 w' r.2 s'->uu C w' r.1.1 f->R (.ok f) s')
  (st: ∀m,F m (j+1) g.2 H6=Qa r->Ff Y cx env ex w0 s0 Ia z (F m) r s6) (qf:oi Y cx env ex w0 s0 k6 g.2 w6 H6 s6) (r6:uu C w6 g.1 f6)
  (lp:Fl.casesOn (motive:=λ_=>SR) g.1 (F n (j+1) g.2 H6) (Qa ((.nx,g.2),H6)) (F n (j+1) g.2 H6) (λv=>Qa ((.rt v,g.2),H6))=Qa r):fP R I (n+1) f6 s6:=by
 obtain ⟨fl,fr6⟩:=g;cases r6 with
 |nx=>exact ⟨n,J0 n,hI n s6 (st n lp)⟩
 |ct=>exact ⟨n,J0 n,hI n s6 (st n lp)⟩
 |bk=>obtain rfl:=Qa.inj lp;exact hq _ w6 .next s6 qf .nx
 |rt h=>obtain rfl:=Qa.inj lp;exact hq _ w6 _ s6 qf (.rt h)
def CQ {t:Expr}{b:List Qz}{q:List Str×Bool}{sl:List Nat}{ib:List Sm} (ht:wI t=Qa q) (hsl:mS (tH cx) q.1 sl) (hb:vJ C d cx b ib) {Y:lB C d 2}{ex:bt}{w0:Wd}{s0:Qe}{Ia:Qi}{z:It}{r:(Fl×Frame)×MH}{R:Result->Qe->Prop}{I:Nat->Qe->Prop}{n:Nat}{s':Qe}
  (hI: ∀m s,Ff Y cx env ex w0 s0 Ia z (OO C d z sl q.2 ib m) r s->I m s) (hq: ∀k' w' f s',oi Y cx env ex w0 s0 k' r.1.2 w' r.2 s'->uu C w' r.1.1 f->R (.ok f) s')
  (h:Ff Y cx env ex w0 s0 Ia z (OO C d z sl q.2 ib n) r s'):Qj C.M Y.A (pyNext (.ref Ia)) (jX C.M Y.A env R I n t (.ref Ia) b) (qh C.M Y.A env R) s':=by
 obtain ⟨k3,fr3,w3,H3,j,io3,ex3,le3,p3,R3,sm3,lp⟩:=h;cases n with
 |zero=>exact ag lp
 |succ n=>
  refine lC (λov hov lp=>?_) lp;refine GX p3.st R3 hov ⟨λv rv io4 h' tk hv S4 R4 hr=>?_,λh' hv S4=>?_⟩
  ·refine Wc (s:={s' with heap:=h',toks:=tk}) S4.fh.1 R4.cls ?_
   refine lC (λfr5 hb5 lp=>?_) (BI hv lp);have p4:jc Y cx env (k3.ext (Ia,io4)) fr3 w3 H3 {s' with heap:=h',toks:=tk}:=⟨p3.b,p3.c,p3.f,S4⟩;refine LW p4 ht hsl hr hb5 λk5 s5 n5=>?_;refine kN (λg H6 e6 lp=>?_) lp;refine hb Y env k5 fr5 w3 H3 s5 n5.pl _ e6 _ _ λk6 w6 f6 s6 n6 r6=>?_;have n6':=n5.trans n6;have sm6:rI s0 s6:=sm3.trans ⟨n6'.ck.1,n6'.ck.2⟩;have p6:jc Y cx env ((⟨k6.ce,k3.ex,k6.m⟩:Kp).ext (Ia,io4)) g.2 w6 H6 s6:=by
    have:=n6'.pl
    obtain ⟨ce6,ex6,m6⟩:=k6;cases n6'.ex;exact this
   exact ON hI hq (λm lp=>⟨⟨k6.ce,k3.ex,k6.m⟩,g.2,w6,H6,j+1,io4,ex3,le3.trans n6'.le,p6,R4.mono n6'.le,sm6,lp⟩) (⟨ex3,le3.trans n6'.le,p6.gn λ_ _ _ e=>e,sm6⟩:oi Y cx env ex w0 s0 ⟨k6.ce,k3.ex,k6.m⟩ g.2 w6 H6 s6) r6 lp
  ·have lp:=BJ hv lp
   obtain rfl:=Qa.inj lp;exact QU (hq k3 w3 .next {s' with heap:=h'} ⟨ex3,le3,⟨p3.b,p3.c,p3.f,S4⟩,sm3.1,sm3.2⟩ .nx)
def F0 {t:Expr}{pos:Pos}{it:Expr}{b:List Qz}{q:List Str×Bool}{sl:List Nat}{ii:Ex}{ib:List Sm} (ht:wI t=Qa q) (hsl:mS (tH cx) q.1 sl) (hi:Sd C d cx it ii) (hb:vJ C d cx b ib):v5 C d cx (.For t it b [] pos) (.fo sl q.2 ii ib):=by
 intro Y env k fr w H s p r;show cb (eval (C.cx d) ii fr H) (λv h1=>(pF h1 v).bind λk=>OO C d k sl q.2 ib (C.cx d).cu 0 fr h1)=Qa r->_;refine kN λu H1 e1=>lC λz hz lp=>?_;intro Q E hq;exact wpAny_For (hi.es Y env k k.m fr w H s p.pl _ e1 _ _ λw1 a1 s1 n1 r1=>GZ n1.st r1 (λI io h2 S2 R2=>codeAny_forLoop_any (λn s'=>Ff Y cx env k.ex w s I z (OO C d z sl q.2 ib n) r s') (λn s' h=>Eq.mp (by kernel_rfl) (CQ (R:=λr s=>match r with| .ok f=>Q f s| .error e=>cameBackBy C.M Y.A env E e s) (n:=n) ht hsl hb (λ_ _ h=>h) hq h)) (C.cx d).cu ⟨k,fr,w1,H1,0,io,rfl,n1.le,⟨p.b,p.c,(p.next n1).f,S2⟩,R2,⟨n1.ck.1,n1.ck.2⟩,lp⟩) hz) (hi.sy.zo env)
def zdq {e : Expr} {pos : Pos} {v : Value} : dropValue e pos v = pure .next \/ dropValue e pos v = (do standAt pos; let _ <- runValue (.builtin "proto.let_go" {}); pure .next) := by
 have h : dropValue (.Tuple [] 0 pos) pos v = pure .next \/ dropValue (.Tuple [] 0 pos) pos v = (do standAt pos; let _ <- runValue (.builtin "proto.let_go" {}); pure .next) := by
  cases v<;>first|exact .inl rfl|exact .inr rfl
 cases e<;>first|exact .inl rfl|exact Eq.mp (by kernel_rfl) h
def AR {v:Expr}{pos:Pos}{iv:Ex} (hc:qV v=Qb) (hv:Sd C d cx v iv):v5 C d cx (.Expr v pos) (.expr iv):=by
 intro Y env k fr w H s p r;show cb (eval (C.cx d) iv fr H) (λ_ h1=>Qa ((.nx,fr),h1))=Qa r->_;refine kN λu H1 e1 e=>?_;refine mP e ?_;intro Q E hq;rw [exec_Expr env v pos (by unfold interactive;rw [p.b.kind];rfl) (hv.sy.swap hc _ _ _)];refine Qc (Qm (Qc (hv.es Y env k k.m fr w H s p.pl _ e1 _ _ λw1 a1 s1 n1 r1=>?_)));have fe:=hq k w1 .next s1 (p.nx n1) .nx;rcases zdq (e:=v) (pos:=pos) (v:=a1) with h|h
 ·rw [h];exact Qg fe
 ·rw [h];exact Qc (Qm (Qc (wpAny_runValue (codeAny_builtin entry_let_go (Qg (Qg fe))))))
theorem oS {P:Prop} (h:Qb=Qf):P:=absurd h Zn
def LC (e:Expr):Prop:= ∃a b c p,e= .ListComp a b c p
theorem Cy {e:Expr}:qV e=Qf->LC e:=Expr.casesOn (motive_1:=λe=>qV e=Qf->LC e) e (λ_ _ _ h=>oS h) (λ_ _ _ h=>oS h) (λ_ _ _ _ h=>oS h) (λ_ _ _ h=>oS h) (λ_ _ _ _ h=>oS h) (λ_ _ _ _ h=>oS h) (λ_ _ _ h=>oS h) (λ_ _ _ h=>oS h) (λa b c p _=>⟨a,b,c,p,rfl⟩) (λ_ _ _ _ h=>oS h) (λ_ _ _ _ _ h=>oS h) (λ_ _ _ _ h=>oS h) (λ_ _ h=>oS h) (λ_ _ h=>oS h) (λ_ _ h=>oS h) (λ_ _ _ _ h=>oS h) (λ_ _ _ _ h=>oS h) (λ_ _ _ _ h=>oS h) (λ_ _ h=>oS h) (λ_ _ _ h=>oS h) (λ_ _ _ h=>oS h) (λ_ _ _ h=>oS h) (λ_ _ h=>oS h) (λ_ _ h=>oS h) (λ_ _ h=>oS h) (λ_ _ _ h=>oS h) (λ_ _ _ _ h=>oS h)
def FN {v o:Expr}{i:Ex} (hv:Sd C d cx v i) {n:Nat} (hr: ∀a b c p,swapsWith (.ListComp a b c p) (Qa o) n env=pure Qb):swapsWith v (Qa o) n env=pure false:=by
 refine vY (qV v) (λhc=>?_) λhc=>?_
 ·obtain ⟨a,b,c,p,rfl⟩:=Cy hc;exact hr a b c p
 ·exact hv.sy.swap hc _ _ _
def Hr (O:nV C gl) {o:Expr}{nm:Str}{xp pos:Pos}{v:Expr}{io iv:Ex} (hn:kQ nm=Qf) (ho:Sd C d cx o io) (hv:Sd C d cx v iv):v5 C d cx (.Assign [.Attribute o nm xp] v pos) (.bg (.at io (ez nm)) iv):=by
 intro Y env k fr w H s p r;show cb (eval (C.cx d) iv fr H) (λv h1=>cb (cb (eval (C.cx d) io fr h1) λov h2=>(setAttr C.P h2 ov (ez nm) v).map λh3=>(fr,h3)) λfr' h2=>Qa ((.nx,fr'),h2))=Qa r->_;refine kN λu H1 e1=>kN λfr' H2 e2 e=>?_;refine mP e ?_
 revert e2
 refine kN λov H3 e3=>lY λH4 hs e4=>?_;cases e4;exact λQ E hq=>plainObj_wpAny_Assign_Attribute (hv.es Y env k k.m _ w H s p.pl _ e1 _ _ λw1 a1 s1 n1 r1=>ho.es Y env k k.m _ w1 H1 s1 (p.next n1).pl _ e3 _ _ λw2 a2 s2 n2 r2=>
  yP O n2.st hn r2 (r1.mono n2.le) (λs3 n3=>hq k w2 .next s3 (p.nx ((n1.trans n2).trans n3)) .nx) hs) (FN hv λ_ _ _ _=>rfl)
def AA {v:aa}{rv:Value} (hv:kM C w v rv): ∀ {ms:List aa}{vs:List Value}{j:Nat},kL C w ms vs->kL C w (ms.set j v) (vs.set j rv):=by
 intro ms
 induction ms with
 |nil=>intro vs j h;refine eqB h ?_;exact .nil
 |cons m ms ih=>
  intro vs j h;obtain ⟨x,t,rfl,h,r⟩:=h;cases j with
  |zero=>exact .cons hv r
  |succ j=>exact .cons h (ih r)
def Hu (S:St Y k w H s) {o i v:aa}{vo vi vv:Value}{H':MH} (ho:kM C w o vo) (hi:kM C w i vi) (hv:kM C w v vv) {Q:Unit->Qe->Prop}{E:Value->Qe->Prop}
  (h: ∀s',jf Y k w w H' s s'->Q () s'):oC H o i v=Qa H'->Qj C.M Y.A (setItem vo vi vv) Q E s:=by
 refine lC λx e1=>mB (lC λmvs hm=>lY λj hj e=>?_) (lC λp hp=>nB λhf e=>?_)
 ·cases ref?_s e1;subst e
  obtain ⟨z,t,rfl,h0,h1,rfl⟩:=CF hi hj;obtain ⟨la,rfl,ha⟩:=ho;refine (bs hm).elim λob zq47=>?_;cases list?_s zq47.2;obtain ⟨_,ws,n,e,hget,rr,hl⟩:=S.list (x:=.ref x) ⟨la,rfl,ha⟩ hm;cases e;refine Hg hget h0 (by rw [Zo,<-rr.length];exact h1) (qaR h1 (tF hl)) λh' n' hg hs=>h _ ⟨.refl w,S.dj ha zq47.1 (λen h=>?_) hs (by rw [hg,List.setIfInBounds_toArray]) ⟨_,n',rfl,AA hv rr,by rw [Zb];exact hl⟩,rfl,rfl⟩;obtain ⟨_,_,rfl,_,_⟩:=h;exact ⟨_,rfl⟩
 ·cases ref?_s e1;obtain rfl:=Qa.inj e
  have hf:=Jr.mp hf;obtain ⟨b,n,es,rfl,hmod,hep,hg,hdr,hl,dj⟩:=S.kf ho hp;refine Vs ⟨_,hg,rfl⟩ (Fk S (A:=Y.A.in1) (Y.u (n:=2) (by decide)) hg hdr hf.1 (Zd.mp hf.2) hi hv λes' h' tk hs hgo j'=>h _ ⟨.refl w,dj h' _ _ hs hgo ⟨es',_,rfl,λe he=>?_,j',Gd (Zd.mp hf.2)⟩,rfl,rfl⟩);cases hq:(kY p.2 i).isSome with
  |true=>rw [hq] at he;exact hep e he
  |false=>
   rw [hq] at he;obtain ⟨e0,he0,rfl⟩:=ms he;exact congrArg (· +1) (hep e0 he0)
def GR {o i:Expr}{xp pos:Pos}{v:Expr}{io ii iv:Ex} (ho:Sd C d cx o io) (hi:Sd C d cx i ii) (hv:Sd C d cx v iv):v5 C d cx (.Assign [.Subscript o i xp] v pos) (.bg (.sb io ii) iv):=by
 intro Y env k fr w H s p r;show cb (eval (C.cx d) iv fr H) (λv h1=>cb (cb (eval (C.cx d) io fr h1) λov h2=>cb (eval (C.cx d) ii fr h2) λiv h3=>(oC h3 ov iv v).map λh4=>(fr,h4)) λfr' h2=>Qa ((.nx,fr'),h2))=Qa r->_;refine kN λu H1 e1=>kN λfr' H2 e2 e=>?_;refine mP e ?_
 revert e2
 refine kN λov H3 e3=>kN λix H4 e4=>lY λH5 hs e5=>?_;cases e5;exact λQ E hq=>wpAny_Assign_Subscript (hv.es Y env k k.m _ w H s p.pl _ e1 _ _ λw1 a1 s1 n1 r1=>ho.es Y env k k.m _ w1 H1 s1 (p.next n1).pl _ e3 _ _ λw2 a2 s2 n2 r2=>hi.es Y env k k.m _ w2 H3 s2 ((p.next n1).next n2).pl _ e4 _ _ λw3 a3 s3 n3 r3=>
  Hu n3.st (r2.mono n3.le) r3 (r1.mono (n2.le.trans n3.le)) (λs4 n4=>hq k w3 .next s4 (p.nx (((n1.trans n2).trans n3).trans n4)) .nx) hs) (FN hv λ_ _ _ _=>rfl)
def L8 (O:nV C gl) (hC:pY C d) (hg:IT C cx.gl) (hcc:VW cx): ∀ (n:Nat),(∀ (st:Qz) (ir:Sm),tS n cx st=Qa ir->v5 C d cx st ir)/\∀ (sts:List Qz) (irs:List Sm),pD (λs=>Qa ((tS n cx s).getD .cf)) sts=Qa irs->vJ C d cx sts irs:=by
 intro n;have hE: ∀ {e ir},qO cx e=Qa ir->Sd C d cx e ir:=λh=>zP O hC 60 cx hg hcc _ _ h;have lists: ∀ {n:Nat},(∀ (st:Qz) (ir:Sm),tS n cx st=Qa ir->v5 C d cx st ir) -> ∀ (sts:List Qz) (irs:List Sm),pD (λs=>Qa ((tS n cx s).getD .cf)) sts=Qa irs->vJ C d cx sts irs:=by
  intro n h sts irs e
  induction rY e with
  |nil=>exact FZ
  | @cons st i _ _ h1 h2 ih=>
   have rest:=ih (by
    refine (bs e).elim λb zq16=>?_;have e:=zq16.2;refine xEA (ms e) λc h3 e=>?_;cases e;exact h3)
   refine AS ?_ rest;cases hs:tS n cx st with
   |some i'=>rw [hs] at h1;cases h1;exact h st _ hs
   |none=>rw [hs] at h1;cases h1;exact λY env k fr w H s p r e=>ag e
 have st: ∀ (st:Qz) (ir:Sm),tS n cx st=Qa ir->v5 C d cx st ir:=by
  induction n with
  |zero=>exact λst ir h=>ag h
  |succ n ih=>
   have ihs:=lists ih;intro st ir;cases st with
   |Pass pos=>intro h;cases h;exact λY env k fr w H s p r e Q E hq=>by cases e;exact wpAny_Pass (hq k w _ s p.rf .nx)
   |Break pos=>intro h;cases h;exact λY env k fr w H s p r e Q E hq=>by cases e;exact λ_ _ _=>hq k w _ s p.rf .bk
   |Continue pos=>intro h;cases h;exact λY env k fr w H s p r e Q E hq=>by cases e;exact λ_ _ _=>hq k w _ s p.rf .ct
   |Return v pos=>
    intro h;cases v with
    |none=>cases h;exact AQ
    |some e=>obtain ⟨i,hi,rfl⟩:=ms h;exact FY (hE hi).es
   |Assign ts v pos=>
    intro h;refine xEA (Wg h) λt dh h=>?_;subst dh;have h:JF (motive:=λ_=>Option Sm) (vI t) ((Ie cx t).bind λa=>(qO cx v).map λb=> .bg a b) (λp=>au (V4 v) ((qO cx v).bind λb=>ay ((BY p.1).bind λxs=>(pD (UK cx) xs).map λis=> .jn (is.map .nm) b) (au (!p.1.isEmpty) ((pD (Ih cx) p.1).map λts=> .jn (ts.map λq=> .at q.1 q.2) b))))=Qa ir:=h;cases ht:vI t with
    |some p=>
     rw [ht] at h;cases zO ht
     revert h
     refine nB λhok=>lC λb hb=>mB (lC λxs hx=>lY λis his e=>?_) (nB λhne=>lY λts hts e=>?_)
     ·refine (bs hx).elim λxs' zq13=>?_
      have h2:=zq13.2;refine xA (gs h2) λh2 h3=>?_;cases h3;exact e▸AU hok (rY zq13.1) (of_decide_eq_true h2) (DE his) (hE hb)
     ·refine e▸GQ O hok (by cases hq:p.1.isEmpty;rfl;rw [hq] at hne;cases hne) ((rY hts).mono λe q h=>?_) (hE hb)
      refine xEA (bs h) λp hp h=>?_;refine xA (gs h) λhn h=>?_;refine xEA (ms h) λi hi gd=>?_;subst gd;exact ⟨p.1,p.2.1,p.2.2,Vj hp,hn,rfl,hE hi⟩
    |none=>
     rw [ht] at h;refine xEA (bs h) λa ha h=>?_;refine xEA (ms h) λb hb kh=>?_;subst kh
     revert ha
     refine mB (lC λp hp=>nB λ_=>lY λi hi e=>?_) (mB (lC λp hp=>nB λhn=>lY λi hi e=>?_) (lC λp hp=>lC λi hi=>lY λj hj e=>?_))
     ·rw [<-e,rH hp]
      refine F1 hcc hi (hE hb) λ{eu gens sc cp} ev=>?_;subst ev
      clear h
      refine xEA (Wg (show Ek gens _=Qa b from hb)) λg eg hz=>?_;subst eg;refine (bs hz).elim λq zq5=>?_;have zq4:=gs zq5.2;exact (bs zq4.2).elim λii zq3=>(bs zq3.2).elim λiifs zq2=>(ms zq2.2).elim λie zq1=>⟨g,q,ie,ii,iifs,rfl,⟨beq_iff_eq.mp (Jr.mp zq4.1).1,zq5.1,DH (Jr.mp zq4.1).2,zP O hC 59 cx hg hcc _ _ zq3.1,(zP O hC 59 (cq cx sc q.1) hg (hcc.cq sc q.1)) _ _ zq1.1,(rY zq2.1).mono (zP O hC 59 (cq cx sc q.1) hg (hcc.cq sc q.1))⟩,zq1.2.symm⟩
     ·rw [<-e,Vj hp];exact Hr O hn (hE hi) (hE hb)
     ·rw [<-e,Pc hp];exact GR (hE hi) (hE hj) (hE hb)
   |If t x y pos=>exact lC λa ha=>lC λb hb=>lY λc hc e=>e▸MN (hE ha).ts (ihs _ _ hb) (ihs _ _ hc)
   |While t b e pos=>
    refine nB λhe=>lC λa ha=>lY λc hc e'=>?_;cases e with
    |nil=>exact e'▸Hq (hE ha).ts (ihs _ _ hc)
    |cons _ _=>cases he
   |For t it b e pos=>
    refine nB λhe=>lC λq hq=>nB λ_=>lC λa ha=>lC λsl hs=>lY λc hc e'=>?_;cases e with
    |nil=>exact e'▸F0 hq (DE hs) (hE ha) (ihs _ _ hc)
    |cons _ _=>cases he
   |Expr v pos=>exact nB λhc=>lY λi hi e=>e▸AR (by cases hq:qV v;rfl;rw [hq] at hc;cases hc) (hE hi)
   |_=>exact λh=>ag h
 exact ⟨st,lists st⟩
end
theorem Am (ps:List Str) (sc:Scope) (gl:List (Str×aa)):VW (CR ps sc gl):=λx i h=>by
 refine ((qA x _ 0).1 i h).elim λj zq32=>?_;refine eqB zq32.1 ?_;rw [Z3];exact (JD.mp zq32.2).1
def Da {kindOf:Str->Option Qx}{x:Str}: ∀ {r:List (Str×Value)}{m:Str->Option Value},x∉r.map (·.1) ->bindL kindOf r m x=m x:=by
 intro r
 induction r with
 |nil=>exact λ_=>rfl
 |cons p r ih=>
  intro m h;unfold bindL;rw [ih λq=>h (.tail _ q)];split
  ·exact if_neg λq:x=p.1=>h (q▸ .head _)
  ·rfl
def Dc {kindOf:Str->Option Qx}{x:Str}: ∀ {r:List (Str×Value)}{m:Str->Option Value},x∉r.map (·.1) ->bindC kindOf r m x=m x:=by
 intro r
 induction r with
 |nil=>exact λ_=>rfl
 |cons p r ih=>
  intro m h;unfold bindC;rw [ih λq=>h (.tail _ q)];split
  ·rfl
  ·exact if_neg λq:x=p.1=>h (q▸ .head _)
def As {kindOf:Str->Option Qx}{x:Str}{v:Value}: ∀ {r:List (Str×Value)}{m:Str->Option Value},(x,v)∈r->(r.map (·.1)).Nodup->(kindOf x=Qa .local->bindL kindOf r m x=Qa v)/\(kindOf x≠Qa .local->bindC kindOf r m x=Qa v):=by
 intro r
 induction r with
 |nil=>exact λh _=>absurd h JB
 |cons p r ih=>
  intro m h hd;have hd:=JN.mp hd;unfold bindL bindC;rcases JT.mp h with e|h
  ·subst e
   exact ⟨λhk=>by rw [Da hd.1,if_pos hk];exact if_pos rfl,λhk=>by rw [Dc hd.1,if_neg hk];exact if_pos rfl⟩
  ·exact ⟨(ih h hd.2).1,(ih h hd.2).2⟩
def W5 {cm:Str->Option Value}{x:Str}{c:Qi}{cs:List (Str×Qi)}{cells:bt} (h:CellsAre cm cs cells):cs.lookup x=Qa c-> ∃o,(c,o)∈cells/\o.data= .cell (cm x):=by
 induction h with
 |nil=>exact λh=>ag h
 | @cons n a o cs cells hd r ih=>
  intro h;rw [ZF] at h;refine vY (x==n) (λe=>?_) λe=>?_
  ·rw [e] at h;refine mP h ?_;rw [beq_iff_eq.mp e];exact ⟨o,.head _,hd⟩
  ·rw [e] at h;obtain ⟨o',h1,h2⟩:=ih h;exact ⟨o',.tail _ h1,h2⟩
def yG {cm:Str->Option Value}{cs:List (Str×Qi)}{cells:bt} (h:CellsAre cm cs cells):cells.map (·.1)=cs.map (·.2):=by
 induction h with
 |nil=>rfl
 |cons _ _ ih=>exact congrArg (_:: ·) ih
def sF (lo:Nat): ∀ (names:List (Str×Qx)) (n:Nat) (acc:List (Str×Qi)),lo<=n->(acc.map (·.2)).Nodup->(∀p∈acc,p.2<n/\lo<=p.2) ->((cellsFrom n names acc).map (·.2)).Nodup/\∀p∈cellsFrom n names acc,lo<=p.2:=by
 intro names
 induction names with
 |nil=>exact λn acc _ h hl=>⟨h,λp hp=>(hl p hp).2⟩
 |cons q r ih=>
  intro n acc hn h hl;unfold cellsFrom;split
  ·refine ih (n+1) _ (Zp hn) ?_ ?_
   ·rw [JR,JN]
    exact ⟨λhx=>(JO.mp hx).elim λp zq31=>absurd (hl p zq31.1).1 (by rw [zq31.2];exact J8 _),h⟩
   ·intro p hp
    rcases JT.mp hp with rfl|hp
    ·exact ⟨J0 _,hn⟩
    ·exact ⟨ZJ (hl p hp).1,(hl p hp).2⟩
  ·exact ih n acc hn h hl
def Cm {x y:Str}{c:Qi}{cs:List (Str×Qi)}:(cs.map (·.2)).Nodup->cs.lookup x=Qa c->cs.lookup y=Qa c->x=y:=by
 induction cs with
 |nil=>exact λ_ h _=>ag h
 |cons p r ih=>
  intro hd hx hy;have hd:=JN.mp hd;rw [ZF] at hx hy;refine vY (x==p.1) (λex=>?_) λex=>?_
  ·rw [ex] at hx
   cases ey:y==p.1 with
   |true=>exact (beq_iff_eq.mp ex).trans (beq_iff_eq.mp ey).symm
   |false=>rw [ey] at hy;exact ((λh e=>hd.1 (JO.mpr ⟨_,lS h,e⟩): ∀ {z},r.lookup z=Qa c->c=p.2->False) hy (Qa.inj hx).symm).elim
  ·rw [ex] at hx
   cases ey:y==p.1 with
   |true=>rw [ey] at hy;exact ((λh e=>hd.1 (JO.mpr ⟨_,lS h,e⟩): ∀ {z},r.lookup z=Qa c->c=p.2->False) hx (Qa.inj hy).symm).elim
   |false=>rw [ey] at hy;exact ih hd.2 hx hy
section
variable {C:ax}{d e:Nat}{w:Wd}{H:MH}{s:Qe}{gl:List (Str×aa)}
def LM {Y:lB C d 2}{qual:Str}{scope:Scope}{fa:Qi}{cdv:Value}{xs:List Str}{us:List Value}{ws:List aa}{fn:Fn}{cells ex:bt} (hkind:scope.kind= .function) (hbn:xs.Nodup) (ru:kL C w ws us) (hlen:ws.length=xs.length)
  (hc:CellsAre (bindC (envOfC qual scope Y.L fa cdv).kindOf (xs.zip us) λ_=>Qd) (cellsFrom (Y.L+1) scope.names []) cells)
  (S:St Y ⟨cells,ex,bindL (envOfC qual scope Y.L fa cdv).kindOf (xs.zip us) λ_=>Qd⟩ w H s):jc Y (CR xs scope gl) (envOfC qual scope Y.L fa cdv) ⟨cells,ex,bindL (envOfC qual scope Y.L fa cdv).kindOf (xs.zip us) λ_=>Qd⟩ (sC fn ws) w H s:=by
 have slot: ∀ {x i},oK (CR xs scope gl) x=Qa i->(vU xs scope)[i]?=Qa x:=λ{x i} h=>by
  refine ((qA x (vU xs scope) 0).1 i (zG h).2).elim λj zq30=>?_;have e:=zq30.1;rw [Z3] at e;exact e▸zq30.2
 have hz:((xs.zip us).map (·.1)).Nodup:=by rw [List.map_fst_zip (by rw [<-hlen,ru.length];exact JA _)];exact hbn
 refine ⟨⟨hkind,rfl,rfl,rfl,λx hx=>Zt.mp (Q2 scope.names (Y.L+1) [] (.inl hx)),λx y c hx hy hcx hcy=>Cm ((sF 0 scope.names (Y.L+1) [] (JJ _) .nil λ_ h=>absurd h JB).1) hcx hcy,rfl,λx y i hx hy=>Qa.inj ((slot hx).symm.trans (slot hy))⟩,
  λx c _ hcx=>(W5 hc hcx).elim λo h=>⟨o,_,h.1,h.2⟩,λx i u hx hu=>?_,S⟩
 have hlt:i<ws.length:=Yw λhge=>by
  delta sC at hu;rw [Kz (by rw [Jt];exact ZG hge)] at hu;obtain ⟨_,hu'⟩:=JD.mp hu;rw [List.getElem_replicate] at hu';cases hu'
 unfold sC at hu;rw [ZP (by rw [Jt];exact hlt),JC] at hu;refine (ms hu).elim λu' zq28=>?_;have hu2:=zq28.2;refine mP hu2 ?_;refine (ru.get zq28.1).elim λrv zq27=>?_;have hr:=zq27.2;have hpx:xs[i]?=Qa x:=by
  have:=slot hx
  unfold vU at this;rwa [ZP (by rw [<-hlen];exact hlt)] at this
 have hmem:(x,rv)∈xs.zip us:=Ju (List.getElem?_zip_eq_some.mpr ⟨hpx,zq27.1⟩);rcases (zG hx).1 with hk|hk
 ·exact .jz rv hk ((As hmem hz).1 hk) hr
 ·refine (Zt.mp (Q2 scope.names (Y.L+1) [] (.inl hk))).elim λc zq26=>?_
  refine (W5 hc zq26).elim λo zq25=>?_;refine .cell rv c o hk zq26 zq25.1 ?_ hr;rw [zq25.2,(As hmem hz).2 (by show scope.names.lookup x≠_;rw [show scope.names.lookup x=Qa .cell from hk];decide)]
inductive gE (gl:List (Str×aa)) (params:Q4) (body:List Qz) (sc:Scope) (f:Fn):Prop
 |mk (kind:sc.kind= .function) (gen:sc.isGenerator=Qb) (co:sc.isCoroutine=Qb) (ps: ∀x∈params.args.map (·.arg),sc.names.lookup x=Qa .local\/sc.names.lookup x=Qa .cell) (b:P6 (CR (params.args.map (·.arg)) sc gl) body=Qa f.body) (np:(params.args.map (·.arg)).length=f.np):gE gl params body sc f
def W0 {params:Q4}{body:List Qz}{sc:Scope}{f:Fn} (h:W2 gl params body sc=Qa (f.np,f.ns,f.body)):gE gl params body sc f:=by
 obtain ⟨hb,h⟩:=gs h;refine (ms h).elim λb zq23=>?_;have h2:=zq23.2;simp only [ZY,ZD,Xk,beq_iff_eq,YP] at hb;simp only [qa6.injEq] at h2;exact ⟨hb.1.1.1.2,hb.1.1.2,hb.1.2,hb.2,h2.2.2▸zq23.1,h2.1⟩
def kL.drop {ms:List aa}: ∀ {vs:List Value}{n:Nat},kL C w ms vs->kL C w (ms.drop n) (vs.drop n):=by
 induction ms with
 |nil=>intro vs n h;refine eqB h ?_;rw [Xc,Xc];exact .nil
 |cons m ms ih=>
  intro vs n h;cases n with
  |zero=>exact h
  |succ n=>obtain ⟨v,t,rfl,_,r⟩:=h;exact ih r
def zbd {fn:Fn}{fd:QD}{xs:List Str}{as ws:List aa}{vs:List Value} (hk:C.K.In s.heap) (k7:xT C fn fd xs) (r:kL C w as vs) (ha:vZ fn as=Qa ws): ∃us,kL C w ws us/\ws.length=fn.np/\BindsTo s fd ⟨vs,[]⟩ (xs.zip us):=by
 obtain ⟨hc,e⟩:=gs ha;have h1:=Zd.mp (Jr.mp hc).1;have h2:=Zd.mp (Jr.mp hc).2;have e:=(Qa.inj e).symm;rcases k7 with ⟨k5,k7⟩| ⟨_,dvs,k7a,k7b⟩
 ·rw [k5] at h2 e
  rw [Xc,Zv] at e;refine eqB e ?_;exact ⟨vs,r,(KJ h1 (YR (Xy.mp h2))),BindsTo.of_eq (k7 vs (r.length▸(KJ h1 (YR (Xy.mp h2)))))⟩
 ·refine ⟨vs++dvs.drop (dvs.length-(fn.np-vs.length)),?_,?_,kp_binds hk λSt=>k7b St vs (Jq (JM (qaw r.length)) h1) (Jq (Nat.sub_le_sub_left (JM r.length) _) (Jq h2 (JM ((k7a w).length))))⟩
  ·rw [e,<-((k7a w).length),<-r.length]
   exact kL.append (k7a w).drop r
  ·rw [e,Jz,qaV];exact (congrArg (as.length+ ·) (Nat.sub_sub_self h2)).trans (Nat.add_sub_of_le h1)
abbrev j1 (f:Jo):Value:=match f with| .ret v=>v|_=> .none
def HQ {fl:Fl}{f:Jo}{fr:Frame}{H:MH}{r:aa×MH} (hr:uu C w fl f) (e:OQ (fl,fr) H=Qa r):kM C w r.1 (j1 f)/\H=r.2:=by
 cases hr with
 |nx=>refine mP e ?_;exact ⟨rfl,rfl⟩
 |bk=>exact ag e
 |ct=>exact ag e
 |rt h=>refine mP e ?_;exact ⟨h,rfl⟩
def Il (O:nV C gl): ∀d,pY C d:=by
 intro d
 induction d with
 |zero=>exact λY k w H s f fa as vs r S hf rr e=>ag e
 |succ d ih=>
  intro Y k w H s f fa as vs r S hf rr;refine lC λfn hfn=>lC λws hargs=>kN λq HE ev er R hq=>?_;obtain ⟨hfa,ad,name,qual,params,body,scope,dV,kV,doc,pm,an,cdv,ct,oc,od,osl,k1,k2,k3,k4,k6,k7,k8,k10⟩:=O.oe _ _ hfn;rw [hfa,hf] at k1;obtain rfl:=Qa.inj k1;refine (zbd S.mz k7 rr hargs).elim λus zq20=>?_;obtain ⟨hkind,hgen,hco,hps,hbd,hnp⟩:=W0 k4;refine Y.below.elim λA₀ zq16=>zq16.elim λbase zq17=>zq17.elim λouter zq18=>?_;refine Y.ah.elim λp zq11=>zq11.elim λloose zq12=>zq12.elim λmean zq13=>zq13.elim λmg zq14=>zq14.elim λmb zq15=>?_;obtain ⟨os,he,hn,hd⟩:=S.os;refine code_defC (binds:=(params.args.map (·.arg)).zip us) zq18.1 S.fr Y.k hn zq15 zq18.2 Y.frame Y.kind k2 k3 (by have:=Y.depth;show Y.A.depth<1000;exact Jy (JX (Jv _ _)) (Jq (Yl this) (JE _ _))) zq20.2.2 ?_ k10 (λg L' h₁ tk cells FG F' N' Yc B' Xg Tg hlt=>?_) hco hgen hkind
  ·rw [ZD]
   intro y hy;rw [Xk,beq_iff_eq,beq_iff_eq];exact hps y.1 (qa0 hy).1
  let Y':lB C d 2:=⟨Y.A.deeper (envOfC qual scope L' fa cdv),g,L',envOfC qual scope L' fa cdv,⟨Y.A,base,Y.mf::outer,B',Around.frames_deeper zq18.2⟩,Xg,⟨p,loose,mean,mg,mb,Tg⟩,rfl,hkind,Y.handled,by have:=Y.depth;show Y.A.depth+1+4*d+2+2<=900;lia,by have:=Y.units;show Y.A.units+3+20*d+190+5*2<=9900;lia⟩
  have zq10:=sF (L'+1) scope.names (L'+1) [] (JA _) .nil λ_ h=>absurd h JB;have pm': ∀cells:bt,(os.flatten++(w.tp++(cells++(k.ce++k.ex)))).Perm (cells++(os.flatten++(w.tp++(k.ce++k.ex)))):=λcells=>(List.Perm.append_left _ (Ky _ _ _)).trans (Ky _ _ _);have S':St Y' ⟨cells,k.ce++k.ex,bindL (envOfC qual scope L' fa cdv).kindOf ((params.args.map (·.arg)).zip us) λ_=>Qd⟩ w H {s with heap:=h₁,toks:=tk}:=by
   refine ⟨F',⟨os,he,λp hp=>N' p ((pm' cells).mem_iff.mp hp),bt.nd.jh (pm' cells).symm (US ?_ hd λx hx y hy e=>?_)⟩,Jq S.pb (Jq FG.above (JQ FG.ns.lt)),S.lo⟩
   ·unfold bt.nd;rw [yG Yc];exact zq10.1
   ·have hx':x.1∈cells.map (·.1):=JO.mpr ⟨x,hx,rfl⟩
    rw [yG Yc] at hx';exact (JO.mp hx').elim λq zq9=>absurd (Jy (hlt y hy) (Xz (zq10.2 q zq9.1))) (by rw [zq9.2,e];exact J8 _)
  refine (L8 O ih O.zm (Am _ _ _) 40).2 _ _ hbd Y' _ _ _ _ _ _ (LM (Y:=Y') (gl:=gl) (fn:=fn) (ex:=k.ce++k.ex) hkind k8 zq20.1 (zq20.2.1.trans hnp.symm) Yc S') _ ev _ _ λk1 w1 f1 s1 n1 r1=>?_;obtain ⟨os1,he1,hn1,hd1⟩:=n1.pl.st.os;rw [show k1.all w1 os1=os1.flatten++(w1.tp++(k1.ce++(k.ce++k.ex))) from by unfold Kp.all;rw [n1.ex]] at hn1 hd1;have sub:(k.all w1 os1).Sublist (os1.flatten++(w1.tp++(k1.ce++(k.ce++k.ex)))):=(List.Sublist.refl _).append ((List.Sublist.refl _).append (List.sublist_append_right _ _));exact leaveK_ n1.pl.st.fr hn1 λF2 N2=>hq w1 _ s1 ⟨n1.le,⟨F2,⟨os1,(HQ r1 er).2▸he1,λp hp=>N2 p (sub.subset hp),List.Sublist.nodup (List.Sublist.map _ sub) hd1⟩,S.pb,n1.pl.st.lo⟩,n1.ck.1,n1.ck.2⟩ ((HQ r1 er).1)
def Cq (O:nV C gl) {s₁:Qe}{p:Qt}{loose:List Str}{mean:ExcName->Option Value}{mg mb:Str->Option Value} (X:C.K.In s₁.heap) (T:Top p loose mean mg mb s₁.heap) (hbig:4<=s₁.heap.objs.size)
  {f:Nat}{fa:Qi}{mvs:List aa}{rv:Value}{r:aa×MH} (hf:C.ad.lookup f=Qa fa) (hlaw: ∀fn,C.P.kx f=Qa fn->fn.qb= []) (hv:kM C ⟨[],[]⟩ (.fl mvs) rv) (ev:nH C.P xC 61 f [.fl mvs] []=Qa r) {Q:Value->Qe->Prop}{E:Value->Qe->Prop}
  (hq: ∀w v s',kM C w r.1 v->(∀b o,s₁.heap.get? b=Qa o->s'.heap.get? b=Qa o) ->s'.gens=s₁.gens->s'.os=s₁.os->Q v s'):
  Qj C.M callerA (call (.ref fa) [rv]) Q E s₁:=by
 revert ev
 refine lC λfn hfn=>lC λws hargs=>kN λq HE ev er=>?_;obtain ⟨hfa,ad,name,qual,params,body,scope,dV,kV,doc,pm,an,cdv,ct,oc,od,osl,k1,k2,k3,k4,k6,k7,k8,k10⟩:=O.oe _ _ hfn;rw [hfa,hf] at k1;obtain rfl:=Qa.inj k1;obtain ⟨k5,k7⟩:=k7.resolve_right λh=>h.1 (hlaw fn hfn);obtain ⟨hkind,hgen,hco,hps,hbd,hnp⟩:=W0 k4;obtain ⟨hc,e⟩:=gs hargs;have hc:=Jr.mp hc;rw [k5] at hc e;rw [Xc,Zv] at e;obtain rfl:=Qa.inj e;have hl:1=fn.np:=KJ (Zd.mp hc.1) (YR (Xy.mp (Zd.mp hc.2)));refine wpAny_call (codeAny_call_cells (binds:=(params.args.map (·.arg)).zip [rv]) (fd:=fnOf name qual params body scope dV kV doc pm an cdv ct) (body:=body) (by decide) (X _ _ k2) rfl T.nolimit (codeRec_of X k3) rfl (k7 [rv] hl) rfl ?_ (λs2 x=>?_) hco hgen hkind)
 ·intro y hy
  rcases hps y.1 (qa0 hy).1 with h|h
  ·exact .inl h
  ·exact .inr ⟨h,Q2 _ _ _ (.inl h)⟩
 refine x.done.elim λh₁ zq2=>zq2.elim λtk zq3=>?_;obtain rfl:=zq3.1;refine (Cl.news (h₀:=s₁.heap) (JA _) λn c hm=>⟨x.cell n c (lookup_of_mem_nodup (cellsFrom_names scope.names 0 (s₁.heap.objs.size+1) [] [] rfl▸k10) hm),x.above n c hm⟩).elim λcells zq1=>?_
 let Y':lB C 60 2:=⟨callerA.deeper (envOfC qual scope s₁.heap.objs.size fa cdv),s₁.heap,s₁.heap.objs.size,envOfC qual scope s₁.heap.objs.size fa cdv,⟨callerA,s₁.heap,[],below_caller _,rfl⟩,X,⟨p,loose,mean,mg,mb,T⟩,rfl,hkind,rfl,(by decide:301+1+4*60+2+2<=900),(by decide:4+3+20*60+190+5*2<=9900)⟩
 have eq:(⟨cells,[],bindL (envOfC qual scope s₁.heap.objs.size fa cdv).kindOf ((params.args.map (·.arg)).zip [rv]) λ_=>Qd⟩:Kp).all ⟨[],[]⟩ []=cells:=Zv _;have S':St Y' ⟨cells,[],bindL (envOfC qual scope s₁.heap.objs.size fa cdv).kindOf ((params.args.map (·.arg)).zip [rv]) λ_=>Qd⟩ ⟨[],[]⟩ [] {s₁ with heap:=h₁,toks:=tk}:=
  ⟨(⟨x.toInCall.ns,x.toInCall.keep,JA _⟩:Fr s₁.heap s₁.heap.objs.size h₁ (bindL (envOfC qual scope s₁.heap.objs.size fa cdv).kindOf ((params.args.map (·.arg)).zip [rv]) λ_=>Qd)),⟨[],⟨rfl,rfl⟩,eq.symm▸zq1.1,eq.symm▸(by unfold bt.nd;rw [yG zq1.2];exact ((sF 0 scope.names (s₁.heap.objs.size+1) [] (JJ _) .nil λ_ h=>absurd h JB).1))⟩,hbig,λ_ h=>absurd h JB⟩
 refine (L8 O (Il O 60) O.zm (Am _ _ _) 40).2 _ _ hbd Y' _ _ _ _ _ _ (LM (Y:=Y') (gl:=gl) (fn:=fn) (ex:=[]) hkind k8 (.dz hv) (by rw [hnp];exact hl) zq1.2 S') _ ev _ _ λk1 w1 f1 s1 n1 r1=>?_;exact hq w1 _ s1 (HQ r1 er).1 n1.pl.st.fr.keep n1.ck.1 n1.ck.2
end
def Data.seq? (d:Data):Option (List Value×Nat):=qac (motive:=λ_=>Option (List Value×Nat)) d Qd (λ_=>Qd) (λxs n=>Qa (xs.toList,n)) (λ_ _=>Qd) (λ_ _ _=>Qd) (λ_ _=>Qd) (λ_=>Qd) (λ_=>Qd) (λ_=>Qd) (λ_=>Qd) Qd
def seq?_s {d:Data}{p:List Value×Nat}:Data.seq? d=Qa p->d= .seq p.1.toArray p.2:=by
 cases d<;>first|exact λe=>ag e|(intro e;refine mP e ?_;rfl)
def Data.func? (d:Data):Option FuncData:=qac (motive:=λ_=>Option QD) d Qd (λ_=>Qd) (λ_ _=>Qd) (λ_ _=>Qd) (λ_ _ _=>Qd) (λ_ _=>Qd) (λ_=>Qd) Qa (λ_=>Qd) (λ_=>Qd) Qd
def func?_s {d:Data}{f:QD}:Data.func? d=Qa f->d= .func f:=by
 cases d<;>first|exact λe=>ag e|(intro e;refine mP e ?_;rfl)
def Value.ref? (v:Value):Option Addr:=qaF (motive:=λ_=>Option Qi) v Qd Qd Qd (λ_=>Qd) (λ_ _=>Qd) (λ_ _=>Qd) (λ_ _=>Qd) (λ_ _=>Qd) (λ_=>Qd) (λ_=>Qd) Qa
def zdQ?_s {v:Value}{a:Qi}:Value.ref? v=Qa a->v= .ref a:=by
 cases v<;>first|exact λe=>ag e|(intro e;refine mP e ?_;rfl)
def PN (v:Value) (i:Int):Bool:=qaF (motive:=λ_=>Bool) v Qb Qb Qb (λ_=>Qb) (λj _=>j==i) (λ_ _=>Qb) (λ_ _=>Qb) (λ_ _=>Qb) (λ_=>Qb) (λ_=>Qb) (λ_=>Qb)
def OC {v:Value}{i:Int}:PN v i=Qf-> ∃t,v= .int i t:=by
 cases v with
 |int j t=>exact λe=>⟨t,by rw [beq_iff_eq.mp e]⟩
 |_=>exact λe=>JI e
def PB (v:Value) (s:List Nat):Bool:=qaF (motive:=λ_=>Bool) v Qb Qb Qb (λ_=>Qb) (λ_ _=>Qb) (λ_ _=>Qb) (λx _=>x.cps.toList==s) (λ_ _=>Qb) (λ_=>Qb) (λ_=>Qb) (λ_=>Qb)
def MI {v:Value}{s:List Nat}:PB v s=Qf-> ∃t,v= .str ⟨s.toArray⟩ t:=by
 cases v with
 |str x t=>exact λe=>⟨t,by rw [<-beq_iff_eq.mp e]⟩
 |_=>exact λe=>JI e
def typeIs (v:Value) (o:Option String):Bool:=JF (motive:=λ_=>Bool) o Qb λn=>v== .type n
def zgk (v:Value) (o:Option String):Bool:=JF (motive:=λ_=>Bool) o Qb λn=>v== .builtin n
def G7 (C:ax) (v:Value) (n:String):Option (List Value×Nat):=(Value.ref? v).bind λa=>(C.K.lookup a).bind λo=>au (o.cls== .type n) (Data.seq? o.data)
inductive zdE (C:ax) (v:Value) (n:String) (p:List Value×Nat):Prop
 |mk (a:Qi) (o:Obj) (e:v= .ref a) (k:C.K.lookup a=Qa o) (c:o.cls= .type n) (d:o.data= .seq p.1.toArray p.2):zdE C v n p
def DG {C:ax}{v:Value}{n:String}{p:List Value×Nat} (h:G7 C v n=Qa p):zdE C v n p:=by
 refine (bs h).elim λa zq37=>?_;have h:=zq37.2;refine (bs h).elim λo zq36=>?_;have h:=zq36.2;obtain ⟨e3,h⟩:=gs h;exact ⟨a,o,zdQ?_s zq37.1,zq36.1,beq_iff_eq.mp e3,seq?_s h⟩
def Aw (f:aa->Value->Bool):List aa->List Value->Bool
 | [],vs=>vs.isEmpty
 |m::ms,vs=>Yh (motive:=λ_=>Bool) vs Qb λv r=>f m v && Aw f ms r
def Ea (C:ax):Nat->aa->Value->Bool
 |0,_,_=>Qb
 |k+1,m,v=>aa.casesOn (motive_1:=λ_=>Bool) m (v== .none) (λb=>v== .bool b) (λi=>PN v i) (λs=>PB v s && Sj s)
  (λms => JF (motive:=λ_ => Bool) (G7 C v "tuple") Qb λp => Aw (Ea C k) ms p.1 && Zc ms.length bh) (λ_ => Qb)
  (λid=>JF (motive:=λ_=>Bool) (C.ad.lookup id) Qb λa=>v== .ref a) (λc=>typeIs v (sJ.lookup c)) (λc=>zgk v (xO.lookup c)) (λ_=>Qb)
  (λms => JF (motive:=λ_ => Bool) (G7 C v "list") Qb λp => Aw (Ea C k) ms p.1 && Zc ms.length bh) (λ_ => Qb)
def zQ {C:ax}{f:aa->Value->Bool} (hf: ∀m v,f m v=Qf-> ∀w,kM C w m v) (w:Wd): ∀ (ms:List aa) (vs:List Value),Aw f ms vs=Qf->kL C w ms vs:=by
 intro ms
 induction ms with
 |nil=>intro vs h;exact YX.mp h
 |cons m ms ih=>
  intro vs h;cases vs with
  |nil=>exact JI h
  |cons v r=>
   exact .cons (hf _ _ (Jr.mp h).1 w) (ih r (Jr.mp h).2)
def sV {α:Type}{o:Option α}{f:α->Bool} (h:JF (motive:=λ_=>Bool) o Qb f=Qf): ∃a,o=Qa a/\f a=true:=by
 cases o with
 |none=>exact JI h
 |some a=>exact ⟨a,rfl,h⟩
def z5 {C:ax}: ∀ (k:Nat) (m:aa) (v:Value),Ea C k m v=Qf-> ∀w,kM C w m v:=by
 intro k
 induction k with
 |zero=>exact λm v h=>JI h
 |succ k ih=>
  intro m v h w;cases m with
  |none=>exact beq_iff_eq.mp h
  |bool b=>exact beq_iff_eq.mp h
  |int i=>exact OC h
  |str s=>
   have h:=Jr.mp h;exact (MI h.1).elim λt zq34=>⟨t,zq34,Bj h.2⟩
  |az ms=>
   refine xEA (sV (o:=G7 C v "tuple") h) λp e h => ?_;obtain ⟨a,o,e,q1,q2,q3⟩:=DG e;have h:=Jr.mp h;exact ⟨a,o,p.2,p.1,e,⟨.inr q1,q2,q3⟩,zQ ih w _ _ h.1,Zd.mp h.2⟩
  |ref a=>exact JI h
  |ah id=>
   refine xEA (sV (o:=C.ad.lookup id) h) λa e h=>?_;exact ⟨a,beq_iff_eq.mp h,e⟩
  |ty c=>
   refine xEA (sV (o:=sJ.lookup c) h) λn e h=>?_;exact ⟨n,beq_iff_eq.mp h,e⟩
  |bi c=>
   refine xEA (sV (o:=xO.lookup c) h) λn e h=>?_;exact ⟨n,beq_iff_eq.mp h,e⟩
  |gf n=>exact JI h
  |fl ms=>
   refine xEA (sV (o:=G7 C v "list") h) λp e h => ?_;obtain ⟨a,o,e,q1,q2,q3⟩:=DG e;have h:=Jr.mp h;exact ⟨a,o,p.2,p.1,e,⟨q1,q2,q3⟩,zQ ih w _ _ h.1,Zd.mp h.2⟩
  |qy n=>exact JI h
section
variable {C:ax}{gl:List (Str×aa)}
def oo (o:Option (Option Value)) (f:Value->Bool) (g:Bool):Bool:=JF (motive:=λ_=>Bool) o Qb λx=>JF (motive:=λ_=>Bool) x g f
def SG {o:Option (Option Value)}{f:Value->Bool}{g:Bool} (h:oo o f g=Qf):(∃v,o=Qa (Qa v)/\f v=Qf)\/o=Qa Qd/\g=true:=by
 rcases o with _|_|v
 ·exact JI h
 ·exact .inr ⟨rfl,h⟩
 ·exact .inl ⟨v,rfl,h⟩
def cZ (C : ax) (p : Str × aa) : Bool := oo (nsIn C.K mainGlobals p.1) (Ea C 5 p.2) (!(p.1 == "__name__") && oo (Qa (bootBuiltins p.1)) (Ea C 5 p.2) Qb)
def zdb {p:Str×aa} (h:cZ C p=Qf): ∃rv,gD C p rv:=by
 rcases SG h with ⟨v,e,h⟩| ⟨e,h⟩
 ·exact ⟨v,z5 _ _ _ h,.inl e⟩
 ·have h:=Jr.mp h
  rcases SG h.2 with ⟨v,e2,h2⟩| ⟨_,h2⟩
  ·exact ⟨v,z5 _ _ _ h2,.inr ⟨e,λq=>by rw [q] at h;exact absurd h.1 (by decide+kernel),Qa.inj e2⟩⟩
  ·exact JI h2
def zcz (nms:List Str) (n:Nat):Option Str:=nms.find? λx=>ez x==n && kQ x
def BU {nms:List Str}{n:Nat}{x:Str} (h:zcz nms n=Qa x):kQ x=Qf/\ez x=n:=by
 exact ⟨(Jr.mp (KL (p:=λx=>ez x==n && kQ x) h:(ez x==n && kQ x)=Qf)).2,beq_iff_eq.mp (Jr.mp (KL (p:=λx=>ez x==n && kQ x) h:(ez x==n && kQ x)=Qf)).1⟩
def B0 (C:ax) (nms:List Str) (c n:Nat) (f:Qi->Str->Bool):Bool:=JF (motive:=λ_=>Bool) (C.ad.lookup c) Qb λca=>JF (motive:=λ_=>Bool) (zcz nms n) Qb λx=>plainGet C.K ca x && hasDictIn C.K ca && f ca x
def D4 {nms:List Str}{c n:Nat}{f:Qi->Str->Bool}{P:Qi->Str->Prop} (hf: ∀a x,f a x=Qf->P a x) (h:B0 C nms c n f=Qf):rL C c n P:=by
 refine (sV h).elim λca zq26=>?_;have h:=zq26.2;refine (sV h).elim λx zq25=>?_;have h:=zq25.2;have h:=Jr.mp h;exact ⟨ca,x,zq26.1,(BU zq25.1).1,(BU zq25.1).2,(Jr.mp h.1).1,(Jr.mp h.1).2,hf _ _ h.2⟩
def zds (o:Option CFound) (v:Value):Bool:=JF (motive:=λ_=>Bool) o Qb λx=>CFound.casesOn (motive:=λ_=>Bool) x (λu=>u==v) λ_ _ _ _=>Qb
def zaY {o:Option CFound}{v:Value} (h:zds o v=Qf):o=Qa (.val v):=by
 rcases o with _|_|_
 ·exact JI h
 ·rw [beq_iff_eq.mp h]
 ·exact JI h
def Rc (C:ax) (v:aa) (ca:Qi) (x:Str):Bool:=oo (findIn C.K (.ref ca) x) (λav=>Ea C 5 v av && bif Ul C.P v then
 isFn C.K av && (specialIn C.K (.ref ca) "__getattribute__" == Qa (Qa (.builtin "type.__getattribute__")) && JF (motive:=λ_ => Bool) (typeIn C.K (.ref ca)) Qb λmc => readsIn C.K ca mc && zds (findCls C.K (.ref ca) mc x) av)
 else specialIn C.K av "__get__" == Qa Qd && (handedIn av && !copiedNames.contains x)) Qb
def O7 {v:aa}{ca:Qi}{x:Str} (h:Rc C v ca x=Qf):IX C v ca x:=by
 rcases SG h with ⟨av,e,h⟩| ⟨_,h⟩
 ·have h:=Jr.mp h
  refine ⟨av,e,z5 _ _ _ h.1,λhi=>?_,λhi=>?_⟩
  ·rw [hi] at h
   have h1:=Jr.mp h.2;exact (sV (Jr.mp h1.2).2).elim λmc zq24=>⟨h1.1,beq_iff_eq.mp (Jr.mp h1.2).1,mc,zq24.1,(Jr.mp zq24.2).1,zaY (Jr.mp zq24.2).2⟩
  ·rw [hi] at h
   have h1:=Jr.mp h.2;exact ⟨beq_iff_eq.mp h1.1,(Jr.mp h1.2).1,YP _▸(Jr.mp h1.2).2⟩
 ·exact JI h
def zdk (C : ax) (ca : Qi) (x : Str) : Bool := JF (motive:=λ_ => Bool) (findIn C.K (.ref ca) x) Qb λat' => noGet C.K at' && (takerIn C.K ca x == Qa Qd && (findIn C.K (.ref ca) "__setattr__" == Qa (Qa (.builtin "object.__setattr__")) && plainOver C.K ca))
def zaO {ca:Qi}{x:Str} (h:zdk C ca x=Qf):zbu C ca x:=by
 refine (sV h).elim λat' zq23=>?_;have h2:=Jr.mp (Jr.mp zq23.2).2;exact ⟨at',zq23.1,(Jr.mp zq23.2).1,beq_iff_eq.mp h2.1,beq_iff_eq.mp (Jr.mp h2.2).1,(Jr.mp h2.2).2⟩
def PO (C : ax) (c i : Nat) : Bool := JF (motive:=λ_ => Bool) (C.ad.lookup c) Qb λca => JF (motive:=λ_ => Bool) (C.ad.lookup i) Qb λfI => makesIn C.K ca && (findIn C.K (.ref ca) "__init__" == Qa (Qa (.ref fI)) && (isFn C.K (.ref fI) && keepIn C.K (.ref ca)))
def OG {c i:Nat} (h:PO C c i=Qf):Vp C c i:=by
 refine (sV h).elim λca zq22=>?_;refine (sV zq22.2).elim λfI zq21=>?_;have h2:=Jr.mp (Jr.mp zq21.2).2;exact ⟨ca,fI,zq22.1,zq21.1,(Jr.mp zq21.2).1,beq_iff_eq.mp h2.1,(Jr.mp h2.2).1,(Jr.mp h2.2).2⟩
def dB (C:ax) (nms:List Str) (k:Cl):Bool:=(k.kg.all λp=>B0 C nms k.gz p.1 (Rc C p.2)) && ((k.si.all λn=>B0 C nms k.gz n (zdk C)) && (k.sa.all λi=>PO C k.gz i))
def CT {α β:Type}{f g:α->Option β}: ∀ {l:List α},(∀x∈l,f x=g x) ->l.filterMap f=l.filterMap g:=by
 intro l
 induction l with
 |nil=>exact λ_=>rfl
 |cons x l ih=>intro h;rw [KN,KN,h x (.head _),ih λy hy=>h y (.tail _ hy)]
def Fg {xs:List Str}: ∀ {vs:List Value},xs.Nodup->vs.length=xs.length->(∀n∈xs,((xs.zip vs).lookup n).isSome=Qf)/\(xs.filterMap λn=>((xs.zip vs).lookup n).map (n,·))=xs.zip vs:=by
 induction xs with
 |nil=>exact λ_ _=>⟨λ_ h=>absurd h JB,rfl⟩
 |cons x xs ih=>
  intro vs nd hl;cases vs with
  |nil=>exact Nat.noConfusion hl
  |cons v vs=>
   have nd:=JN.mp nd;have ne: ∀n∈xs,(((x::xs).zip (v::vs)).lookup n)=(xs.zip vs).lookup n:=λn hn=>by
    simp only [Yn,ZF,beq_false_of_ne (show n≠x from λe=>nd.1 (e▸hn))]
   refine ⟨λn hn=>?_,?_⟩
   ·rcases JT.mp hn with rfl|hn
    ·simp only [Yn,ZF,beq_self_eq_true];rfl
    ·rw [ne n hn];exact ((ih (vs:=vs) nd.2 (ZQ.inj hl)).1) n hn
   ·rw [KN,(CT λn hn=>by rw [ne n hn]:(xs.filterMap λn=>(((x::xs).zip (v::vs)).lookup n).map (n,·))=xs.filterMap λn=>((xs.zip vs).lookup n).map (n,·)),(ih (vs:=vs) nd.2 (ZQ.inj hl)).2,Yn,ZF,beq_self_eq_true];rfl
def HZ {fd:QD}{vs:List Value} (h1:fd.params.posonlyargs= []) (h2:fd.params.vararg=Qd) (h3:fd.params.kwonlyargs= []) (h4:fd.params.kwarg=Qd) (hd:fd.defaults= .none) (hl:vs.length=(fd.params.args.map (·.arg)).length) (nd:(fd.params.args.map (·.arg)).Nodup):
  bindArgs fd ⟨vs,[]⟩=pure ((fd.params.args.map (·.arg)).zip vs):=by
 obtain ⟨n,q,⟨po,as,va,ko,kd,ka,df⟩,bo,sc,gl,cl,de,kw,dc,pm,an,co,ct,bu⟩:=fd;obtain rfl:po= []:=h1;obtain rfl:va=none:=h2;obtain rfl:ko= []:=h3;obtain rfl:ka=none:=h4;obtain rfl:de= .none:=hd;obtain ⟨e1,e2⟩:=Fg nd hl;delta bindArgs
 dsimp only
 generalize as.map (·.arg)=xs at*
 refine (if_neg (c:=(decide (vs.length>xs.length) && Qf)=Qf) (by rw [hl,decide_eq_false (J8 _)];exact Zn)).trans ?_;have hD: ∀n,X4 n ((Qd:Option (Array Value)).getD #[]).toList= []:=λn=>Xc;refine (if_neg ?_).trans ?_
 ·show ¬(!((xs.take (xs.length-(X4 _ _).length)).filter λn=>((xs.zip vs).lookup n).isNone).isEmpty)=Qf
  rw [hD,qah,qbh,Zg,List.filter_eq_nil_iff.mpr λn hn=>?_]
  ·exact Zn
  ·rw [Kh]
   intro q
   have:=e1 n hn
   rw [q] at this;exact JI this
 refine (congrArg (λz=>forIn z _ _>>=_) (by rw [hD];exact List.zip_nil_right:List.zip (X4 _ _) (X4 _ _)= [])).trans ?_;exact congrArg (pure:List (Str×Value) ->Sem (List (Str×Value))) ((by rw [Zv];exact e2:((xs++ []).filterMap λn=>((xs.zip vs).lookup n).map (n,·))=xs.zip vs))
def stm? (b:FuncBody):Option (List Qz):=FuncBody.casesOn (motive:=λ_=>Option (List Qz)) b Qa (λ_=>Qd)
def stm?_s {b:FuncBody}{l:List Qz}:stm? b=Qa l->b= .stmts l:=by
 cases b<;>first|exact λe=>ag e|(intro e;refine mP e ?_;rfl)
structure kH where
 a:Qi
 o:Obj
 fd:QD
def CU (C:ax) (f:Fn):Option kH:=(C.ad.lookup f.gz).bind λa=>(C.K.lookup a).bind λo=>(Data.func? o.data).map λfd=>⟨a,o,fd⟩
def OW (C:ax) (gl:List (Str×aa)) (f:Fn):Option (Nat×Nat×List Sm):=(CU C f).bind λp=>(stm? p.fd.body).bind λb=>W2 gl p.fd.params b p.fd.scope
def yw {α:Type} [BEq α]:List α->Bool
 | []=>Qf
 |a::r=>!r.contains a && yw r
def BX {α:Type} [BEq α] [LawfulBEq α]: ∀ {l:List α},yw l=Qf->l.Nodup:=by
 intro l
 induction l with
 |nil=>exact λ_=>List.nodup_nil
 |cons a r ih=>
  intro h;have h:=Jr.mp h;refine JN.mpr ⟨λhm=>?_,ih h.2⟩;rw [Yp.mpr hm] at h;exact JI h.1
def HA (fd:QD):Bool:=fd.params.posonlyargs.isEmpty && (fd.params.vararg.isNone && (fd.params.kwonlyargs.isEmpty && (fd.params.kwarg.isNone && fd.defaults== .none)))
def jr (C:ax) (f:Fn):Bool:=JF (motive:=λ_=>Bool) (CU C f) Qb λp=>(p.fd.globals==mainGlobals && (p.fd.closure.isEmpty && (p.fd.builtins==builtinsNs && (codeIn C.K p.fd.code p.fd.qualname && keepIn C.K (.ref p.a))))) && ((yw (p.fd.params.args.map (·.arg)) && yw ((cellsFrom 0 p.fd.scope.names []).map (·.1))) && (!f.qb.isEmpty||HA p.fd))
def Vq (C:ax) (f:Fn):Prop:=f.qb≠ []-> ∀p,CU C f=Qa p->xT C f p.fd (p.fd.params.args.map (·.arg))
def zdm {fd:QD}{b:List Qz} (k1:fd.globals=mainGlobals) (k2:fd.closure= []) (k3:fd.builtins=builtinsNs) (k4:fd.body= .stmts b):fd=fnOf fd.name fd.qualname fd.params b fd.scope fd.defaults fd.kwdefaults fd.doc fd.pyModule fd.annotations fd.code fd.closureTuple:=by
 cases fd;subst k1;subst k2;subst k3;cases k4;rfl
theorem BD {fd:QD}{vs:List Value} (h:HA fd=Qf) (hl:vs.length=(fd.params.args.map (·.arg)).length) (nd:(fd.params.args.map (·.arg)).Nodup):bindArgs fd ⟨vs,[]⟩=pure ((fd.params.args.map (·.arg)).zip vs):=
 let h7:=Jr.mp h
 let h8:=Jr.mp h7.2
 let h9:=Jr.mp h8.2
 let h10:=Jr.mp h9.2
 HZ (YX.mp h7.1) (Kh.mp h8.1) (YX.mp h9.1) (Kh.mp h10.1) (beq_iff_eq.mp h10.2) hl nd
def jZ {f:Fn}{a:Qi}{o:Obj}{fd:QD}{b:List Qz} (e1:C.ad.lookup f.gz=Qa a) (e2:C.K.lookup a=Qa o) (e3:Data.func? o.data=Qa fd) (eb:stm? fd.body=Qa b) (hc:W2 gl fd.params b fd.scope=Qa (f.np,f.ns,f.body)) (hD:f.qb≠ []->xT C f fd (fd.params.args.map (·.arg)))
  (h1:(fd.globals==mainGlobals && (fd.closure.isEmpty && (fd.builtins==builtinsNs && (codeIn C.K fd.code fd.qualname && keepIn C.K (.ref a)))))=Qf) (nd:(fd.params.args.map (·.arg)).Nodup) (nc:((cellsFrom 0 fd.scope.names []).map (·.1)).Nodup) (h2:(!f.qb.isEmpty||HA fd)=Qf):Gs C gl f:=by
 have h1:=Jr.mp h1;have h4:=Jr.mp (Jr.mp h1.2).2;have ef:=zdm (beq_iff_eq.mp h1.1) (YX.mp (Jr.mp h1.2).1) (beq_iff_eq.mp h4.1) (stm?_s eb);exact ⟨a,fd.name,fd.qualname,fd.params,b,fd.scope,fd.defaults,fd.kwdefaults,fd.doc,fd.pyModule,fd.annotations,fd.code,fd.closureTuple,o.cls,o.dict,o.slots,e1,ef▸func?_s e3▸e2,(Jr.mp h4.2).1,hc,(Jr.mp h4.2).2,ef▸((Decidable.em (f.qb= [])).elim .inr λh=> .inl (hD h):xT C f fd (fd.params.args.map (·.arg))\/f.qb= []).elim id λhd=> .inl ⟨hd,λvs hl=>BD ((Yz.mp h2).resolve_left (by rw [hd];exact λh=>JI h)) (hl.trans (by obtain ⟨_,_,_,_,_,np⟩:=W0 hc;exact np:(fd.params.args.map (·.arg)).length=f.np).symm) nd⟩,nd,nc⟩
def zdj {f:Fn} (h:jr C f=Qf) (hc:OW C gl f=Qa (f.np,f.ns,f.body)) (hD:Vq C f):Gs C gl f:=by
 refine xEA (sV h) λp e h=>?_;delta OW at hc;rw [e] at hc;refine xEA (bs (show ((stm? p.fd.body).bind λb=>W2 gl p.fd.params b p.fd.scope)=_ from hc)) λb eb hc=>?_;have hD:=λh=>hD h p e;refine xEA (bs e) λa e1 e=>?_;refine xEA (bs e) λo e2 e=>?_;refine (ms e).elim λfd zq14=>?_;obtain rfl:=zq14.2;have h5:=Jr.mp (Jr.mp h).2;exact jZ e1 e2 zq14.1 eb hc hD (Jr.mp h).1 (BX (Jr.mp h5.1).1) (BX (Jr.mp h5.1).2) h5.2
def BC (o:Obj):Bool:=qac (motive:=λ_=>Bool) o.data Qf (λ_=>Qb) (λ_ _=>Qb) (λ_ _=>Qb) (λ_ _ _=>Qb) (λ_ _=>Qb) (λ_=>Qb) (λ_=>Qb) (λ_=>Qb) (λ_=>Qb) Qb
def C4 (o:Obj):Bool:=qac (motive:=λ_=>Bool) o.data Qb (λ_=>Qb) (λ_ _=>Qb) (λes _=>es.isEmpty) (λ_ _ _=>Qb) (λ_ _=>Qb) (λ_=>Qb) (λ_=>Qb) (λ_=>Qb) (λ_=>Qb) Qb
def CB (C:ax) (p:Nat×Nat):Bool:=JF (motive:=λ_=>Bool) (C.ad.lookup p.1) Qb λa=>JF (motive:=λ_=>Bool) (C.ad.lookup p.2) Qb λca=>JF (motive:=λ_=>Bool) (C.K.lookup a) Qb λo=>JF (motive:=λ_=>Bool) o.dict Qb λdx=>
 JF (motive:=λ_ => Bool) (C.K.lookup dx) Qb λo' => (o.cls == .ref ca && (BC o && o.slots.isEmpty)) && ((o'.cls == .type "dict" && o'.dict.isNone) && (C4 o' && o'.slots.isEmpty))
def BB {o:Obj} (h:BC o=Qf):o.data= .plain:=by
 obtain ⟨c,d,x,s⟩:=o;cases x<;>first|rfl|exact JI h
def C3 {o:Obj} (h:C4 o=Qf): ∃n,o.data= .dict #[] n:=by
 obtain ⟨c,d,x,s⟩:=o;cases x with
 |dict es n=>exact ⟨n,by rw [XA.mp h]⟩
 |_=>exact JI h
def OD {p:Nat×Nat} (h:CB C p=Qf):Vo C p.1 p.2:=by
 refine (sV h).elim λa zq13=>?_;have h:=zq13.2;refine (sV h).elim λca zq12=>?_;have h:=zq12.2;refine (sV h).elim λo zq11=>?_;have h:=zq11.2;refine (sV h).elim λdx zq10=>?_;have h:=zq10.2;refine xEA (sV h) λo' e5 h=>?_;have h1:=Jr.mp (Jr.mp h).1;have h4:=Jr.mp (Jr.mp (Jr.mp h).2).1;have h5:=Jr.mp (Jr.mp (Jr.mp h).2).2;refine xE (C3 h5.1) λn e6=>?_;refine ⟨a,ca,dx,n,zq13.1,zq12.1,?_,?_⟩
 ·simp only [zq11.1,<-beq_iff_eq.mp h1.1,<-zq10.1,<-BB (Jr.mp h1.2).1,<-XA.mp (Jr.mp h1.2).2]
 ·obtain ⟨c,d,x,s⟩:=o'
  cases beq_iff_eq.mp h4.1;cases Kh.mp h4.2;subst e6;cases XA.mp h5.2;exact e5
def j4 (C : ax) : Bool := C.ad.all λp => JF (motive:=λ_ => Bool) (C.K.lookup p.2) Qb λo => !(o.cls == .type "tuple")
def zf6 (C:ax):Bool:=(C.K.lookup 0).isSome && ((C.K.lookup 1).isSome && ((C.K.lookup 2).isSome && (C.K.lookup 3).isSome))
def OE {l:List (Nat×Qi)}:(l.map (·.2)).Nodup-> ∀ {i j:Nat}{a:Qi},(i,a)∈l->(j,a)∈l->i=j:=by
 induction l with
 |nil=>exact λ_ _ _ _ h _=>absurd h JB
 |cons p r ih=>
  intro hn i j a h1 h2;have hn:=JN.mp hn;rcases JT.mp h1 with h1|h1<;>rcases JT.mp h2 with h2|h2
  ·exact congrArg (·.1) (h1.trans h2.symm)
  ·exact absurd (JO.mpr ⟨(j,a),h2,show a=p.2 from congrArg (λq:Nat×Qi=>q.2) h1⟩) hn.1
  ·exact absurd (JO.mpr ⟨(i,a),h1,show a=p.2 from congrArg (λq:Nat×Qi=>q.2) h2⟩) hn.1
  ·exact ih hn.2 h1 h2
def zaX (h1:j4 C=Qf) (h2:yw (C.ad.map (·.2))=Qf) (h3:zf6 C=Qf):rN C:=by
 refine ⟨λid a h=>?_,λi j a hi hj=>OE (BX h2) (lS hi) (lS hj),λb hb=>?_⟩
 ·refine (sV (ZD.mp h1 _ (lS h))).elim λo zq7=>?_
  have h:=zq7.2;exact ⟨o,zq7.1,λhc=>by rw [hc] at h;exact absurd h (by decide+kernel)⟩
 ·have h3:=Jr.mp h3
  have h4:=Jr.mp h3.2;have h5:=Jr.mp h4.2;rcases b with _|_|_|_|b
  ·exact Zt.mp h3.1
  ·exact Zt.mp h4.1
  ·exact Zt.mp h5.1
  ·exact Zt.mp h5.2
  ·exact absurd hb (ZX.mpr (JE 4 b))
def RT {nms:List Str} (hc:C.P.oe.map (OW C gl)=C.P.oe.map λf=>Qa (f.np,f.ns,f.body)) (hf:C.P.oe.all (jr C)=Qf) (hD: ∀f∈C.P.oe,Vq C f) (hg:gl.all (cZ C)=Qf) (hi:C.P.kc.all (CB C)=Qf) (hk:C.P.cls.all (dB C nms)=Qf) (h5:rN C) (h6:Ay C):nV C gl:=by
 have cls: ∀ {c k},C.P.fz c=Qa k->k.gz=c/\dB C nms k=true:=λ{c k} h=>⟨beq_iff_eq.mp (KL (p:=λx:Cl=>x.gz==c) h),ZD.mp hk k (Ki h)⟩;refine ⟨λx v h=>zdb (ZD.mp hg (x,v) (lS h)),λa f h=>?_,λid c h=>?_,λc n v h=>?_,λc n h=>?_,λc k i h hi=>?_,h5,h6⟩
 ·have hm:=Ki h
  exact ⟨beq_iff_eq.mp (KL (p:=λf:Fn=>f.gz==a) h),zdj (ZD.mp hf f hm) (List.map_inj_left.mp hc f hm) (hD f hm)⟩
 ·obtain ⟨p,hp,rfl⟩:=ms h
  rw [<-beq_iff_eq.mp (KL (p:=λp:Nat×Nat=>p.1==id) hp)];exact OD (ZD.mp hi p (Ki hp))
 ·obtain ⟨k,hk,h⟩:=bs h
  obtain ⟨p,hp,rfl⟩:=ms h;obtain ⟨e,hb⟩:=cls hk;rw [<-e,<-beq_iff_eq.mp (KL (p:=λp:Nat×aa=>p.1==n) hp)];exact D4 (λ_ _=>O7) (ZD.mp (Jr.mp hb).1 p (Ki hp))
 ·unfold ij.du at h
  cases hk:C.P.fz c with
  |none=>rw [hk] at h;exact JI h
  |some k=>
   rw [hk] at h;rw [<-(cls hk).1];exact D4 (λ_ _=>zaO) (ZD.mp (Jr.mp (Jr.mp (cls hk).2).2).1 n (Yp.mp h))
 ·obtain ⟨e,hb⟩:=cls h
  have:=(Jr.mp (Jr.mp hb).2).2
  rw [hi] at this;rw [<-e];exact OG this
end
def zM {vs:List Value}{ns:List Int} (h:Jf vs ns):kf_ints vs=Qf/\lks_nums vs=ns:=by
 induction h with
 |nil=>exact ⟨rfl,rfl⟩
 |cons n t _ ih=>exact ⟨ih.1,congrArg (n:: ·) ih.2⟩
def Iw {l:List Int} (h:l.Pairwise (· <= ·)):lks_asc l=true:=by
 induction h with
 |nil=>rfl
 |cons h _ ih=>exact Jr.mpr ⟨ZD.mpr λb hb=>decide_eq_true (h b hb),ih⟩
def GE {C:ax}{w:Wd}{t:Nat->Tok}: ∀ {l:List Int}{i:Nat},kL C w (l.map aa.int) (Jg l i t):=by
 intro l
 induction l with
 |nil=>exact λ{i} => .nil
 |cons a l ih=>exact λ{i} => .cons ⟨_,rfl⟩ ih
def uE (l:List Int):(pO l).Perm l/\(pO l).Pairwise (· <= ·):=by
 refine ⟨Xm ..,?_⟩
 have:=List.pairwise_mergeSort (le:=λa b:Int=>decide (a<=b)) (λa b c h1 h2=>decide_eq_true (Int.le_trans (of_decide_eq_true h1) (of_decide_eq_true h2))) (λa b=>by rcases Int.le_total a b with h|h<;>simp [h]) l
 exact this.imp λh=>of_decide_eq_true h
def wq (s:List Nat):Str:=⟨s.toArray⟩
theorem Uu {a b:Nat}:Zc a b=Qf ↔ a<=b:=⟨Nat.le_of_ble_eq_true,Kq⟩
def UX (a:List Nat): ∀b:List Nat,Oj a b=decide (a<b):=by
 induction a with
 |nil=>
  intro b;cases b with
  |nil=>rfl
  |cons y b=>exact (decide_eq_true (List.nil_lt_cons y b)).symm
 |cons x a ih=>
  intro b;cases b with
  |nil=>exact (decide_eq_false (List.not_lt_nil _)).symm
  |cons y b=>
   show Bool.rec (motive:=λ_=>Bool) (Bool.rec (motive:=λ_=>Bool) (Oj a b) Qb (Zc (ZQ y) x)) Qf (Zc (ZQ x) y)=_;rw [ih,Kd,decide_eq_true_eq,List.cons_lt_cons_iff];cases q:Zc (ZQ x) y with
   |true=>exact ⟨λ_=> .inl (Uu.mp q),λ_=>rfl⟩
   |false=>
    have q1: ¬x<y:=λe=>by rw [Uu.mpr e] at q;cases q
    cases q':Zc (ZQ y) x with
    |true=>exact ⟨λe=>(JI e:False).elim,λe=>e.elim (λe=>absurd e q1) λe=>absurd (Uu.mp q') (by rw [e.1];exact J8 _)⟩
    |false=>
     exact ⟨λe=> .inr ⟨KJ (ZX.mp (λe=>by rw [Uu.mpr e] at q';cases q')) (ZX.mp q1),of_decide_eq_true e⟩,λe=>e.elim (λe=>absurd e q1) λe=>decide_eq_true e.2⟩
section
variable {n:Nat}{ba:Nat->Nat->(Bool->Qe->Prop) ->Qe->Prop}{s:Qe}{α β:Type}{p:Array Nat}
abbrev mY (n:Nat) (p:Array Nat):Prop:=p.Perm (JW n).toArray
def mY.lt {p:Array Nat} (h:mY n p) (hn:0<n) (k:Nat):p.getD k 0<n:=by
 by_cases hk:k<p.size
 ·have e:p.getD k 0=p[k]:=by simp [Array.getD,hk]
  rw [e];have hm:p[k] ∈p.toList:=by simp
  have:=(Array.perm_iff_toList_perm.mp h).mem_iff.mp hm
  simpa using this
 ·have e:p.getD k 0=0:=by simp [Array.getD,hk]
  rw [e];exact hn
theorem mY.yp {p:Array Nat} (h:mY n p) (i j:Nat):mY n (Jm p i j):=(mirror_perm _ _ _ _).trans h
theorem mY.j2 {p:Array Nat} (h:mY n p) (i j:Nat):mY n (bubble p i j):=(bubble_perm _ _ _).trans h
def iw (n:Nat) (P:α->Prop) (t:KasT α):Prop:=KasT.rec (motive:=λ_=>Prop) P (λi j _ ih=>(i<n/\j<n)/\∀b,ih b) t
def iw.bind {P:α->Prop}{Q:β->Prop}{f:α->KasT β} (hf: ∀a,P a->iw n Q (f a)) {t:KasT α}:iw n P t->iw n Q (t.bind f):=by
 induction t with
 |ret a=>exact hf a
 |ask i j k ih=>exact λh=>⟨h.1,λb=>ih b (h.2 b)⟩
def iw.ev {P:α->Prop}{lt:Nat->Nat->Bool}{t:KasT α}:iw n P t->P (zp lt t):=by
 induction t with
 |ret a=>exact id
 |ask i j k ih=>exact λh=>ih (lt i j) (h.2 _)
def iw.wp {P:α->Prop}{G:α->Qe->Prop}{lt:Nat->Nat->Bool} (hc: ∀ (i j:Nat) (C:Bool->Qe->Prop),i<n->j<n->C (lt i j) s->ba i j C s) {t:KasT α}:iw n P t->G (zp lt t) s->t.kasWp ba G s:=by
 induction t with
 |ret a=>exact λ_ h=>h
 |ask i j k ih=>exact λh g=>hc i j _ h.1.1 h.1.2 (ih (lt i j) (h.2 _) g)
def Iv (hp:mY n p) (hn:0<n) {f:Nat}: ∀ {a:Nat},iw n (λ_=>True) (kas_asc p f a):=by
 induction f with
 |zero=>exact trivial
 |succ f ih=>exact ⟨⟨hp.lt hn _,hp.lt hn _⟩,λc=>Bool.casesOn (motive:=λc=>iw n _ (if c=Qf then _ else _)) c ih trivial⟩
def OU (hn:0<n) {f:Nat}: ∀ {p:Array Nat}{a q:Nat},mY n p->iw n (λr=>mY n r.1) (kas_desc f p a q):=by
 induction f with
 |zero=>exact λh=>h
 |succ f ih=>
  intro p a q hp;refine ⟨⟨hp.lt hn _,hp.lt hn _⟩,λc=>?_⟩;cases c with
  |false=>exact ⟨⟨hp.lt hn _,hp.lt hn _⟩,λd=>Bool.casesOn (motive:=λd=>iw n _ (if d=Qf then _ else _)) d (ih hp) hp⟩
  |true=>exact Nat.casesOn (motive:=λq=>iw n _ (if q>0 then kas_desc f (Jm p (a-(q+1)) a) (a+1) 0 else _)) q (ih hp) λq=>ih (hp.yp _ _)
theorem GH (hn:0<n) {m k:Nat} (hp:mY n p):iw n (λr=>mY n r.2) (kas_tail3 m k p):=iw.bind (P:=λ_=>True) (Q:=λr:Nat×Array Nat=>mY n r.2) (f:=λa=> .ret (a,Jm p 0 m)) (λ_ _=>hp.yp 0 m) (Iv (hp.yp _ _) hn)
def yW (hn:0<n) {m k:Nat} (hp:mY n p):iw n (λr=>mY n r.2) (kas_descPart m k p):=by
 refine iw.bind (λr hr=>?_) (OU hn hp);obtain ⟨p',a,q⟩:=r;exact Nat.casesOn (motive:=λq=>iw n _ (if q>0 then kas_tail3 a k (Jm p' (a-(q+1)) a) else _)) q (GH hn hr) λq=>GH hn (mY.yp hr _ _)
def Ib (hn:0<n) {k:Nat} (hp:mY n p):iw n (λr=>mY n r.2) (kas_count k p):=by
 refine iw.bind (λm _=>?_) (Iv hp hn);by_cases h1:(m==k)=Qf
 ·rw [if_pos h1];exact hp
 ·rw [if_neg h1]
  by_cases h2:m>1
  ·rw [if_pos h2]
   exact ⟨⟨hp.lt hn _,hp.lt hn _⟩,λc=>Bool.casesOn (motive:=λc=>iw n _ (if c=Qf then _ else _)) c (yW hn (hp.yp _ _)) hp⟩
  ·rw [if_neg h2];exact yW hn hp
def BE (hn:0<n) (hp:mY n p) {k f:Nat}: ∀ {l r:Nat},iw n (λ_=>True) (kas_place p k f l r):=by
 induction f with
 |zero=>exact trivial
 |succ f ih=>
  intro l r;show iw n _ (if l ≥ r then _ else _);by_cases h:l ≥ r
  ·rw [if_pos h];exact trivial
  ·rw [if_neg h];exact ⟨⟨hp.lt hn _,hp.lt hn _⟩,λc=>Bool.casesOn (motive:=λc=>iw n _ (if c=Qf then _ else _)) c ih ih⟩
def za5 (hn:0<n) {f:Nat}: ∀ {p:Array Nat}{k:Nat},mY n p->iw n (mY n) (kas_bin f p k):=by
 induction f with
 |zero=>exact λh=>h
 |succ f ih=>exact λhp=>iw.bind (λ_ _=>ih (hp.j2 _ _)) (BE hn hp)
def DB (hn:0<n):iw n (mY n) (kas_sort n):=by
 refine iw.bind (λr hr=>?_) (Ib hn (Array.Perm.refl _));by_cases h:r.1<n
 ·rw [if_pos h];exact za5 hn hr
 ·rw [if_neg h];exact hr
end
def CL {l:List Pr}:((JW l.length).map λi=>l.getD i (([],[]):Pr))=l:=by
 apply List.ext_getElem
 ·simp
 ·intro i h3 h4
  simp [List.getD_eq_getElem?_getD,h4]
def mD (l:List Pr):(oO l).Perm l:=by
 delta oO;cases h:Zc l.length 1 with
 |true=>exact .refl _
 |false=>
  have h1:=(Array.perm_iff_toList_perm.mp (((DB (Yk λe=>by rw [e] at h;exact JI h:0<l.length)).ev:mY _ (zp (λi j=>rq (l.getD i ([],[])) (l.getD j ([],[]))) _)))).map λi=>l.getD i ([],[]);rw [List.toList_toArray,CL] at h1;exact h1
def aN (p:Pr):List ak:= [.s (wq p.1),.s (wq p.2)]
section
variable {C:ax}{A:Qo}{E:Value->Qe->Prop}{s:Qe}{h₀:Qs}{L D:Qi}{m:Str->Option Value}{news:List (Qi×Obj)}{n:Nat}
def dQ (C:ax) (h:Qs) (l:List Pr) (vs:List Value):Prop:=vs.length=l.length/\∀ (i:Nat) (p:Pr),l[i]?=Qa p-> ∃t,vs[i]?=Qa (.ref t)/\QM (lM C.prog C.w) h (aN p) t
def Wr {a b:Str}{ks:List Value} (h:ItemsAre (lM C.prog C.w) [.s a,.s b] ks): ∃t u,ks= [.str a t,.str b u]:=by
 cases h with
 |cons h1 r=>
  cases r with
  |cons h2 r=>
   cases r;obtain ⟨t,rfl⟩:=Kl h1;obtain ⟨u,rfl⟩:=Kl h2;exact ⟨t,u,rfl⟩
def Nq {p q:Pr}{x y:Qi}{Q:Bool->Qe->Prop} (hx:QM (lM C.prog C.w) s.heap (aN p) x) (hy:QM (lM C.prog C.w) s.heap (aN q) y) (h:Q (rq p q) s):
  Qj C.M A (keyLt' (tuples' Qf) (.ref x) (.ref y)) Q E s:=by
 refine xEE hx λox xs dh=>?_;refine xEAA dh λn g1 _ gd=>?_;refine xA gd λd1 i1=>?_;refine xEE hy λoy ys kh=>?_;refine xEAA kh λk g2 _ yg=>?_;refine xA yg λd2 i2=>?_;refine kat_lt g1 d1 g2 d2 ?_;have e1:decide (xs.size<ys.size)=false:=by
  have a1:=congrArg Z5 (Wr i1).choose_spec.choose_spec;have a2:=congrArg Z5 (Wr i2).choose_spec.choose_spec;rw [Array.length_toList] at a1 a2;simp only [a1,a2];rfl
 rw [e1];refine xEE (Wr i1) λt u e=>?_;refine xEE (Wr i2) λt' u' e'=>?_;rw [e] at i1;rw [e'] at i2;simp only [e,e'];have k1:(ak.s (wq p.1)=ak.s (wq q.1)) ↔ p.1=q.1:=⟨λe=>congrArg (λx:Str=>x.cps.toList) (ak.s.inj e),λe=>by rw [e]⟩;cases i1 with
 |cons a1 r1=>
  cases i2 with
  |cons b1 r2=>
   refine kat_cons ((lM C.prog C.w).eqBool a1 b1 (kat_go (λed=>kat_yes ?_) λed=>kat_no ?_))
   ·have e1:=k1.mp (of_decide_eq_true ed)
    cases r1 with
    |cons a2 r1=>
     cases r2 with
     |cons b2 r2=>
      refine kat_cons ((lM C.prog C.w).eqBool a2 b2 (kat_go (λed=>kat_yes (kat_nil ?_)) λed=>kat_no (kat_one _ _ (PyProof.Rows.lt_str ?_))))
      ·have:rq p q=false:=by rw [qbn e1 ((⟨λe=>congrArg (λx:Str=>x.cps.toList) (ak.s.inj e),λe=>by rw [e]⟩:(ak.s (wq p.2)=ak.s (wq q.2)) ↔ p.2=q.2).mp (of_decide_eq_true ed))];unfold rq;rw [beq_self_eq_true,cond_true,UX];exact decide_eq_false (List.lt_irrefl _)
       rw [this] at h;exact h
      ·have:rq p q=decide (p.2<q.2):=by unfold rq;rw [e1,beq_self_eq_true,cond_true,UX]
       rw [this] at h;exact h
   ·have:rq p q=decide (p.1<q.1):=by unfold rq;rw [beq_false_of_ne (λe=>of_decide_eq_false ed (k1.mpr e): ¬p.1=q.1),cond_false,UX]
    rw [this] at h;exact oneLt_str h
def Eg {l:List Pr}: ∀ {vs:List Value},dQ C s.heap l vs-> ∃fs,KatTups s.heap vs fs/\fs.length=vs.length/\∀f∈fs,∃x t,f= .str x t:=by
 induction l with
 |nil=>intro vs h;rw [Zy.mp h.1];exact ⟨[],.nil,rfl,(λ_ h=>absurd h JB)⟩
 |cons p l ih=>
  intro vs h;cases vs with
  |nil=>exact Nat.noConfusion h.1
  |cons v vs=>
   refine xEA (h.2 0 p rfl) λt e dh=>?_;refine xEE dh λo items gd=>?_;refine xEAA gd λn g1 g2 kh=>?_;refine xA kh λg3 g4=>?_;refine Se e ?_;refine xEAA (ih (vs:=vs) ⟨ZQ.inj h.1,λi p hp=>h.2 (i+1) p hp⟩) λfs q1 q2 q3=>?_;refine xEE (Wr g4) λa b e=>?_;have hf:items[0]?=Qa (.str (wq p.1) a):=by rw [<-Array.getElem?_toList,e];rfl
   exact ⟨_::fs,.cons g1 g2 g3 hf q1,congrArg ZQ q2,λf hf=>(JT.mp hf).elim (λe=>⟨_,_,e⟩) (q3 f)⟩
end
section
variable {prog:Qt}{w:Qn}{A:Qo}{E:Value->Qe->Prop}{s:Qe}
def z7 {l:Qi}{vs:List Value}{Q:Value->Qe->Prop}{h₀:Qs}{L:Qi}{m:Str->Option Value}{news:List (Qi×Obj)} (F:Fr h₀ L s.heap m) (N:News h₀ L s.heap news) (hl:s.heap.IsList l vs.toArray) (hz:vs.length<=sizeLine)
  (h : ∀ (D : Qi) (h' : Qs),Fr h₀ L h' m -> News h₀ L h' ((D,listOf vs.toArray 0) :: news) -> (∀ q ∈ news,q.1 < D) -> Qj (model prog w) A.in1 (call (.builtin "list.sort") [.ref D]) (λ_ s' => Q (.ref D) s') E { s with heap := h' }) :
  Qj (model prog w) A (call (.builtin "sorted") [.ref l]) Q E s := by
 refine Calls.call_function_entry kind_sorted plain_sorted entry_sorted (args_sorted1 _) ?_;unfold Builtin.«sorted»;refine Qc (m:=checkCount "sorted" 1 1 _) (Qg ?_);refine Qc (collect_list hl ?_ hz);refine Qc (wpAny_newList ?_ hz);have keep1 : ∀ b o,s.heap.get? b = Qa o -> ((s.heap.push (seqObj "list" #[] 0)).update s.heap.objs.size (Obj.mapSeq (· ++ vs.toArray))).get? b = Qa o := λb o q => by
  rw [Heap.get?_update_ne _ _ _ _ (Z2 (K5 q)),Heap.get?_push_ne _ _ _ (Z2 (K5 q))];exact q
 have N1 : News h₀ L ((s.heap.push (seqObj "list" #[] 0)).update s.heap.objs.size (Obj.mapSeq (· ++ vs.toArray))) news := λp hp => ⟨keep1 _ _ (N p hp).1,(N p hp).2⟩;exact Qc (Qk (Qr (h _ _ ((F.keeps keep1).push { cls := .type "list",data := .seq vs.toArray }) (News.push (F.keeps keep1) N1 { cls := .type "list",data := .seq vs.toArray } rfl) (λq hq => K5 (N1 q hq).1)) (λ_ s' x => Qg ⟨_,rfl,x⟩) λ_ _ e => e))
def Eb {a:Qi}{vs:List Value}{n:Nat}{Q:Value->Qe->Prop}{h₀:Qs}{L:Qi}{m:Str->Option Value}{news:List (Qi×Obj)} (F:Fr h₀ L s.heap m) (N:News h₀ L s.heap ((a,listOf vs.toArray n)::news)) (hna: ∀p∈news,p.1≠a) (h2:vs.length<2)
  (h : ∀ h' c,Fr h₀ L h' m -> News h₀ L h' ((a,listOf vs.toArray c) :: news) -> Q .none { s with heap := h' }) : Qj (model prog w) A (call (.builtin "list.sort") [.ref a]) Q E s := by
 have nz:=N (a,listOf vs.toArray n) (.head _);have ho : s.heap.get? a = Qa (seqObj "list" vs.toArray n) := nz.1;refine Qq slot_list_sort ⟨_,nz.1,rfl⟩ entry_list_sort ?_ (args_list_sort _);have s1:=Heap.SameBut.update s.heap a (Obj.mapSeq λ_=>(#[]:Array Value));obtain ⟨e1,ho1⟩ : ∃ e1,(s.heap.update a (Obj.mapSeq λ_ => (#[] : Array Value))).get? a = Qa (seqObj "list" #[] e1) := ⟨_,get?_update_seq ho λ_ => #[]⟩;have hsl:sizeLine=16777216:=Q3;rw [list_sort_plain];refine Qc (listItems_at ho rfl ?_);refine Qc (listUpdate_at ho rfl ?_ (by rw [Zo];omega) (JJ _));refine Qc (seqEpoch_at ho1 rfl ?_);refine Qc (wpAny_newTuple ?_ (by show vs.length<=_;omega));refine Qc (wpAny_newList ?_ (JJ _));refine Qk ?_
 dsimp only
 have hn2:vs.toArray.size<2:=by rw [Zo];exact h2
 rw [if_pos hn2,if_pos hn2];refine Qc (Qg (Qc (Qg ?_)))
 dsimp only
 have harr:(arrOf (SortSt.mk' general' (vs.toArray.zip vs.toArray) #[] 7 Qd)).map (·.2)=vs.toArray:=by
  show (vs.toArray.zip vs.toArray).map (·.2)=vs.toArray
  apply Array.toList_inj.mp
  simp [List.map_snd_zip]
 refine Qc (seqEpoch_at (Heap.get?_push_of_some _ (Heap.get?_push_of_some _ ho1)) rfl ?_);rw [harr];refine Qc (listUpdate_at (Heap.get?_push_of_some _ (Heap.get?_push_of_some _ ho1)) rfl ?_ (JJ _) (by rw [Zo];omega));simp only [bne_self_eq_false,KS,if_false];have s2 := Heap.SameBut.update (((s.heap.update a (Obj.mapSeq λ_ => (#[] : Array Value))).push (seqObj "tuple" vs.toArray 0)).push (seqObj "list" #[] 0)) a (Obj.mapSeq λ_ => vs.toArray);obtain ⟨c2,hc2⟩ : ∃ c2,((((s.heap.update a (Obj.mapSeq λ_ => (#[] : Array Value))).push (seqObj "tuple" vs.toArray 0)).push (seqObj "list" #[] 0)).update a (Obj.mapSeq λ_ => vs.toArray)).get? a = Qa (seqObj "list" vs.toArray c2) := ⟨_,get?_update_seq (Heap.get?_push_of_some _ (Heap.get?_push_of_some _ ho1)) λ_ => vs.toArray⟩;refine Qg ⟨_,rfl,h _ c2 (kas_fr (((kas_fr F s1 nz.2.1 nz.2.2).push (seqObj "tuple" vs.toArray 0)).push (seqObj "list" #[] 0)) s2 nz.2.1 nz.2.2) λp hp => ?_⟩;rcases JT.mp hp with rfl|hp
 ·exact ⟨hc2,nz.2⟩
 ·exact kas_news ((kas_news (λp hp => N p (.tail _ hp) : News h₀ L s.heap news) s1 hna).grown λb x e => Heap.get?_push_of_some _ (Heap.get?_push_of_some _ e) : News h₀ L (((s.heap.update a (Obj.mapSeq λ_ => (#[] : Array Value))).push (seqObj "tuple" vs.toArray 0)).push (seqObj "list" #[] 0)) news) s2 hna p hp
end
section
variable {C:ax}{A:Qo}{E:Value->Qe->Prop}{s:Qe}{h₀:Qs}{L D:Qi}{m:Str->Option Value}{news:List (Qi×Obj)}{n:Nat}{w:Wd}
def Bu {l:List Pr}{vs:List Value} (r:kL C w (l.map lx) vs): ∀ {p:List Nat},(∀i∈p,i<l.length) ->kL C w ((p.map λi=>l.getD i ([],[])).map lx) (p.map λi=>vs.getD i .none):=by
 intro p
 induction p with
 |nil=>intro _;exact .nil
 |cons i p ih=>
  intro h;have hi:=h i (.head _);refine xEA (r.get (i:=i) (m:=lx l[i]) (by rw [JC,Js hi];rfl)) λv e1 e2=>?_;simp only [JR,JR,JR];refine .cons ?_ (ih λj hj=>h j (.tail _ hj));simp only [List.getD_eq_getElem?_getD,List.getD_eq_getElem?_getD,Js hi,e1];exact e2
def Lv {l:List Pr}{vs:List Value}{Q:Value->Qe->Prop} (F:Fr h₀ L s.heap m) (N:News h₀ L s.heap ((D,listOf vs.toArray n)::news)) (hna: ∀p∈news,p.1≠D) (hP: ∀h',Fr h₀ L h' m->News h₀ L h' news->dQ C h' l vs) (r:kL C w (l.map lx) vs) (h60:l.length<=60)
  (h: ∀ (h':Qs) (qf:List Value) (c:Nat),Fr h₀ L h' m->News h₀ L h' ((D,listOf qf.toArray c)::news) ->kL C w ((oO l).map lx) qf->Q .none {s with heap:=h'}):
  Qj C.M A (call (.builtin "list.sort") [.ref D]) Q E s := by
 have hl:vs.length=l.length:=by rw [<-r.length,Jt]
 by_cases h2:vs.length<2
 ·have hsame:oO l=l:=by
   cases l with
   |nil=>rfl
   |cons x l=>
    cases l with
    |nil=>rfl
    |cons y l=>rw [hl] at h2;exact absurd h2 (ZX.mpr (JE _ _))
  exact Eb F N hna h2 λh' c F' N'=>h h' vs c F' N' (by rw [hsame];exact r)
 ·have h2:=ZX.mp h2
  refine kat_lsort (vs:=vs) F N (.head hna) rfl h2 (by rw [hl];exact Jx h60 (by decide)) λe1 h' F' N'=>?_;have P:=hP h' F' λp hp=>N' p (.tail _ hp);refine xEAA (Eg (s:={s with heap:=h'}) P) λfs q1 q2 q3=>?_;refine kat_kind (s:={ s with heap := h' }) (T:=.type "str") q1 (by rw [q2]; exact Jy (by decide) h2) (λf hf => by obtain ⟨x,t,rfl⟩ := q3 f hf; exact Looks.of_pure rfl) rfl ?_;have T:=DB (hl▸Jy (by decide) h2:0<l.length);have hs:oO l=(zp (λi j=>rq (l.getD i ([],[])) (l.getD j ([],[]))) (kas_sort l.length)).toList.map λi=>l.getD i ([],[]):=by unfold oO;rw [(Bool.eq_false_iff.mpr λe=>absurd (Nat.le_of_ble_eq_true e) (qab.mpr (hl▸h2)):Zc l.length 1=Qb)];rfl
  rw [hs] at h;rw [hl];refine T.wp (lt:=λi j=>rq (l.getD i ([],[])) (l.getD j ([],[]))) (λi j Cc hi hj hc=>?_) ?_
  ·obtain ⟨t,ei,ki⟩:=P.2 i _ (Js hi)
   refine xEA (P.2 j _ (Js hj)) λu ej kj=>?_;show Qj C.M A.in1 (keyLt' (tuples' Qf) (vs.getD i Yj) (vs.getD j Yj)) Cc (λ_ _=>False) {s with heap:=h'};simp only [List.getD_eq_getElem?_getD,List.getD_eq_getElem?_getD,ei,ej];rw [List.getD_eq_getElem?_getD,List.getD_eq_getElem?_getD,Js hi,Js hj] at hc;exact Nq (s:={s with heap:=h'}) ki kj hc
  ·exact KasFin.intro F' N' (.head hna) λh2' c F2 N2=>h h2' _ c F2 N2 (Bu r λi hi=>ZL.mp (by
    have:=(Array.perm_iff_toList_perm.mp T.ev).mem_iff.mp hi
    rwa [List.toList_toArray] at this))
end
section
variable {prog:Qt}{w:Qn}{A:Qo}{E:Value->Qe->Prop}{s:Qe}
theorem Nh {d : Qi} {es : List Qh} {ep : Nat} (lo : (d == sysModules) = Qb) : KdlSrc prog w "dict" d d es.length (λi v => ∃ e,es[i]? = Qa e /\ e.key = v) (λh => h.get? d = Qa (Ql es ep)) where
 type:=λ_ hm=>⟨_,hm,rfl⟩
 there:=λ_ hm=>⟨K5 hm,K5 hm⟩
 keep:=λ_ _ hm hk=>hk d (.inl rfl) _ hm
 notList:=rfl
 notTuple:=rfl
 hint:=λ_ _ s _ hm hq=>kdl_hint_dict (s:=s) ⟨_,hm,rfl⟩ hq
 iter:=λA s hh hm=>⟨_,(λi h=>h.IsKeyIter s.heap.objs.size d i es.length ep/\h.get? d=Qa (Ql es ep)),(λ_ _ hq=>G9 lo hm hq),
  {sub:=λb hb=>by simp at hb;simp [hb]
   frame:=λ_ _ _ st hk=>⟨st.1.at λo e=>hk _ (by simp) o e,hk d (by simp) _ st.2⟩
   item:=λi s' Q E hi st hQ=>z6 hh st.1 st.2 (λe h' hx hit' hs'=>hQ e.key h' s'.toks ⟨e,hx,rfl⟩ ⟨hit',(hs'.2 d (Z2 (K5 hm))).trans st.2⟩ λb o hb q=>hs'.extBut b o (λh=>hb (by simp [h])) q) λh' hx=>absurd hx (by rw [Js hi];nofun)
   done:=λs' Q E st hQ=>z6 hh st.1 st.2 (λe h' hx=>absurd hx (by simp)) λh' hx he'=>hQ h' s'.toks λb o hb e=>he' b o (λh=>hb (by simp [h])) e
   self:=λ_ _ _ _ st hQ=>Q1 st.1 hQ},
  ⟨⟨_,Heap.get?_push_size _ rfl,rfl,by simp⟩,Heap.get?_push_of_some _ hm⟩⟩
end
def UP: ∀ {vs:List aa}{l:List Pr},y3 vs=Qa l->vs=l.map lx:=by
 intro vs
 induction vs with
 |nil=>intro l h;refine mP h ?_;rfl
 |cons v vs ih=>
  intro l h;refine xEEAA (x4 h) λy ys e1 e2 dh=>?_;refine eqB dh ?_;rw [JR,<-ih e2]
  congr 1
  cases v with
  |az ws=>
   cases ws with
   |nil=>cases e1
   |cons a r=>
    cases r with
    |nil=>cases e1
    |cons b r=>
     cases r with
     |cons _ _=>cases e1
     |nil=>
      cases a with
      |str s=>
       cases b with
       |str t=>refine mP e1 ?_;rfl
       |_=>cases e1
      |_=>cases e1
  |_=>cases e1
section
variable {C:ax}{d e:Nat}{Y:lB C d e}{k:Kp}{w:Wd}{H:MH}{s:Qe}
theorem Bw {h:Qs} (S:cg C Y.h₀ Y.L k w H h) {l:List Pr}{vs:List Value} (r:kL C w (l.map lx) vs):dQ C h l vs:=
 ⟨by rw [<-r.length,Jt],λi p hp=>by
  refine xEA (r.get (i:=i) (m:=lx p) (by rw [JC,hp];rfl)) λv e1 e2=>?_;refine xEA (S.iz (as:=aN p) e2) λt dh ht=>?_;subst dh;exact ⟨t,e1,ht⟩⟩
theorem GU (K : rN C) (S : St Y k w H s) {x : aa} {v : Value} (hx : kM C w x v) : bz Y k (VR C) (call (.builtin "sorted") [v]) w s ((lG H x).bind λvs => (y3 vs).bind λl => au (Zc l.length 60) (lZ H (.list ((oO l).map lx)))) :=
 .gj λms hp=> .gj λl hl=> .au λhc=>by
  intro r' e' Q E hq;obtain rfl:=Qa.inj e';have h60:=Uu.mp hc;obtain ⟨b,ws,n,rfl,hg,rr,hlim⟩:=S.list hx hp;cases UP hl;obtain ⟨all,hn,add,_,hp2⟩:=S.dp;refine z7 S.fr hn ⟨_,hg,rfl,n,rfl⟩ (by rw [<-rr.length,Jt];exact Jq h60 (by rw [Q3];decide)) λD h' F' N' hlt=>?_;refine Lv (s:={s with heap:=h'}) F' N' (λp hp=>Z2 (hlt p hp)) (λh2 F2 N2=>Bw (hp2 h2 F2 N2) rr) rr h60 λh2 qf c F2 N2 hO=>?_;have h4:4<=D:=ZG λhlt4=>by
   refine (K.ow D hlt4).elim λo zq3=>?_
   have:=(N2 (D,_) (.head _)).2.2
   rw [Y.k D o zq3] at this;exact nomatch this
  exact hq _ _ {s with heap:=h2} ⟨(⟨J5 _ _,λ_ x=>x⟩:w.le ⟨w.σ++ [D],w.tp⟩),add D (.list ((oO l).map lx)) [(D,listOf qf.toArray c)] h2 ⟨_,_,rfl,kL.mono (w':=⟨w.σ++ [D],w.tp⟩) ⟨J5 _ _,λ_ x=>x⟩ hO,by rw [Jt,(mD l).length_eq];exact Jq h60 (by decide)⟩ F2 N2 (pC _) (λp hp q hq=>by rw [JG.mp hp];exact λe=>absurd (hlt q hq) (by rw [<-e];exact J8 _)) h4,rfl,rfl⟩ ⟨_,rfl,by rw [<-S.len];exact Zi⟩
theorem GW (K : rN C) (S : St Y k w H s) {x : aa} {v : Value} (hx : kM C w x v) : bz Y k (VR C) (call (.builtin "sorted") [v]) w s ((dictAt H x).bind λp => (y3 (p.2.map (·.1))).bind λl => au (!l.isEmpty && Zc l.length 60) (lZ H (.list ((oO l).map lx)))) :=
 .gj λp hp=> .gj λl hl=> .au λhc=>by
  intro r' e' Q E hq;obtain rfl:=Qa.inj e';have h60:=Uu.mp (Jr.mp hc).2;refine (S.dict hx hp).elim λ_ zq17=>?_;obtain ⟨b,n,es,rfl,hmod,_,hg,hdr,hlim,_⟩:=zq17.2;rcases hdr with ⟨kvs,D⟩| ⟨xs,D⟩
  ·exfalso
   have e:=D.e;cases l with
   |nil=>exact JI (Jr.mp hc).1
   |cons q l=>
    rw [(UP hl)] at e;cases kvs with
    |nil=>cases e
    |cons a kvs=>
     obtain ⟨⟨a1⟩,a2⟩:=a
     ·cases (KB.inj e).1
     ·cases (KB.inj e).1
  ·have se:xs.length=l.length:=by have:=congrArg Z5 (D.e.symm.trans (UP hl));rw [Jt,Jt] at this;exact this
   have hes:es.length=xs.length:=by rw [D.es,Jt]
   obtain ⟨all,hn,add,_,hp2⟩:=S.dp;refine kdu_sorted (Nh hmod) Y.handled S.fr hn hg (by rw [hes,se];exact Jq h60 (by rw [Q3];decide)) λB h' tk vs F' N' hlt hvl hvs=>?_;have rr:kL C w (l.map lx) vs:=by
    have key: ∀ {ms:List aa}{vs:List Value},ms.length=vs.length->(∀ (j:Nat) (mv:aa) (v:Value),ms[j]?=Qa mv->vs[j]?=Qa v->kM C w mv v) ->kL C w ms vs:=by
     intro ms
     induction ms with
     |nil=>intro vs h _;cases vs with
      |nil=>exact .nil
      |cons _ _=>exact Nat.noConfusion h
     |cons x ms ih=>intro vs h hj;cases vs with
      |nil=>exact Nat.noConfusion h
      |cons y vs=>exact .cons (hj 0 x y rfl rfl) (ih (ZQ.inj h) λj mv v h1 h2=>hj (j+1) mv v h1 h2)
    refine key (by rw [Jt,hvl,hes,se]) λj mv v h1 h2=>?_;rw [<-(UP hl),D.e,JC] at h1;obtain ⟨x,hx,rfl⟩:=Zl.mp h1;obtain ⟨e',he',rfl⟩:=hvs j v h2;rw [D.es,JC,hx] at he';refine mP he' ?_;exact D.v x (Ju hx)
   refine Lv (s:={s with heap:=h',toks:=tk}) F' N' (λp hp=>Z2 (hlt p hp)) (λh2 F2 N2=>Bw (hp2 h2 F2 N2) rr) rr h60 λh2 qf c F2 N2 hO=>?_;have h4:4<=B:=ZG λhlt4=>by
    refine (K.ow B hlt4).elim λo zq3=>?_
    have:=(N2 (B,_) (.head _)).2.2
    rw [Y.k B o zq3] at this;exact nomatch this
   exact hq _ _ {s with heap:=h2,toks:=tk} ⟨(⟨J5 _ _,λ_ x=>x⟩:w.le ⟨w.σ++ [B],w.tp⟩),add B (.list ((oO l).map lx)) [(B,listOf qf.toArray c)] h2 ⟨_,_,rfl,kL.mono (w':=⟨w.σ++ [B],w.tp⟩) ⟨J5 _ _,λ_ x=>x⟩ hO,by rw [Jt,(mD l).length_eq];exact Jq h60 (by decide)⟩ F2 N2 (pC _) (λp hp q hq=>by rw [JG.mp hp];exact λe=>absurd (hlt q hq) (by rw [<-e];exact J8 _)) h4,rfl,rfl⟩ ⟨_,rfl,by rw [<-S.len];exact Zi⟩
def CA {ms:List aa}: ∀ {vs:List Value}{l:List Int},kL C w ms vs->pG ms=Qa l->Jf vs l:=by
 induction ms with
 |nil=>intro vs l r h;refine mP h ?_;refine eqB r ?_;exact .nil
 |cons m ms ih=>
  intro vs l r h;obtain ⟨y,ys,e1,e2,rfl⟩:=x4 h;obtain ⟨v,vs',rfl,hv,r⟩:=r;obtain ⟨t,rfl⟩:=hv.int? e1;exact .cons y t (ih r e2)
theorem GV (K : rN C) (S : St Y k w H s) {x : aa} {v : Value} (hx : kM C w x v) : bz Y k (VR C) (call (.builtin "sorted") [v]) w s ((lG H x).bind λvs => (pG vs).bind λl => au (!l.isEmpty && Zc (l.length + 1) 64) (lZ H (.list ((pO l).map .int)))) :=
 .gj λms hp=> .gj λl hl=> .au λhc=>by
  intro r' e' Q E hq;obtain rfl:=Qa.inj e';have h64:l.length<64:=Zd.mp (Jr.mp hc).2;obtain ⟨b,ws,n,rfl,hg,rr,hlim⟩:=S.list hx hp;have hI:=CA rr hl;obtain ⟨all,hn,add,_,_⟩:=S.dp;refine z7 S.fr hn ⟨_,hg,rfl,n,rfl⟩ (by rw [hI.length];exact Jq (JQ h64) (by rw [Q3];decide)) λB h' F' N' hlt=>?_;refine lks_sort (s:={s with heap:=h'}) (its:=ws.toArray) (n:=0) (q:=pO l) (news':=λt=>(B,listOf (Jg (pO l) 0 t).toArray (0+2))::all) F' N' (λt=> .head λp hp=>Z2 (hlt p hp)) (zM hI).1 ?_ ?_ ?_ λt h2 F2 N2=>?_
  ·show ((lks_nums ws).isPerm (pO l) && lks_asc (pO l))=Qf
   rw [(zM hI).2,Iw (uE l).2,Yb];exact List.isPerm_iff.mpr (uE l).1.symm
  ·cases ws with
   |nil=>cases hI;exact JI (Jr.mp hc).1
   |cons _ _=>rfl
  ·rw [hI.length];exact h64
  ·have h4:4<=B:=ZG λhlt4=>by
    refine (K.ow B hlt4).elim λo zq3=>?_
    have:=(N2 (B,_) (.head _)).2.2
    rw [Y.k B o zq3] at this;exact nomatch this
   exact hq _ _ {s with heap:=h2} ⟨(⟨J5 _ _,λ_ x=>x⟩:w.le ⟨w.σ++ [B],w.tp⟩),add B (.list ((pO l).map .int)) [(B,listOf (Jg (pO l) 0 t).toArray (0+2))] h2 ⟨_,_,rfl,GE,by rw [Jt,(uE l).1.length_eq];exact Jq (JQ h64) (by decide)⟩ F2 N2 (pC _) (λp hp q hq=>by rw [JG.mp hp];exact λe=>absurd (hlt q hq) (by rw [<-e];exact J8 _)) h4,rfl,rfl⟩ ⟨_,rfl,by rw [<-S.len];exact Zi⟩
end
theorem MO {C : ax} {d e : Nat} {Y : lB C d e} {k : Kp} {w : Wd} {H : MH} {s : Qe} (K : rN C) (S : St Y k w H s) {x : aa} {v : Value} (hx : kM C w x v) : bz Y k (VR C) (call (.builtin "sorted") [v]) w s ((dictAt H x).bind λp => (pG (p.2.map (·.1))).bind λl => au (!l.isEmpty && Zc (l.length + 1) 64) (lZ H (.list ((pO l).map .int)))) := .gj λp hp => .gj λl hl => .au λhc => by
 intro r' e' Q E hq;obtain rfl:=Qa.inj e';have hc:=Jr.mp hc;have h64:l.length<64:=Zd.mp hc.2;refine (S.dict hx hp).elim λ_ zq17=>?_;obtain ⟨b,n,es,rfl,hmod,_,hg,hdr,hlim,_⟩:=zq17.2;have hll:l.length=p.2.length:=by
  have go: ∀ {ms:List aa}{l:List Int},pG ms=Qa l->l.length=ms.length:=by
   intro ms
   induction ms with
   |nil=>intro l h;refine mP h ?_;rfl
   |cons m ms ih=>
    intro l h;refine xEEAA (x4 h) λy ys _ e2 dh=>?_;refine eqB dh ?_;exact congrArg ZQ (ih e2)
  rw [go hl,Jt]
 rcases hdr with ⟨kvs,D⟩| ⟨xs,D⟩
 ·have hkl:kvs.length=l.length:=by rw [hll];exact (wY D.e).symm
  have hk: ∀ (j:Nat) (q:ak×Value),kvs[j]?=Qa q-> ∃z,l[j]?=Qa z/\q.1= .i z:=by
   have go: ∀ {kvs:List (ak×Value)}{l:List Int},pG (kvs.map λp=>p.1.val)=Qa l-> ∀ (j:Nat) (q:ak×Value),kvs[j]?=Qa q-> ∃z,l[j]?=Qa z/\q.1= .i z:=by
    intro kvs
    induction kvs with
    |nil=>exact λ_ _ _ e=>ag e
    |cons a kvs ih=>
     intro l h j q hq;refine xEEAA (x4 h) λy ys e1 e2 gd=>?_;refine eqB gd ?_;cases j with
     |zero=>
      refine mP hq ?_;obtain ⟨at1,_⟩:=a;cases at1 with
      |i n=>refine mP e1 ?_;exact ⟨_,rfl,rfl⟩
      |s x=>exact ag e1
     |succ j=>exact ih (l:=ys) e2 j q hq
   exact go (by rw [<-D.e];exact hl)
  obtain ⟨all,hn,add,_,_⟩:=S.dp;refine xE ((D.dictOf hg).dictAt) λep hat=>?_;refine kdu_sorted (kdl_dict (knd:=lM C.prog C.w) (kvs:=kvs) (ep:=ep) hmod) Y.handled S.fr hn hat (by rw [hkl];exact Jq (JQ h64) (by decide)) λB h' tk vs F' N' hlt hvl hvs=>?_;have hI:Jf vs l:=by
   have go: ∀ {vs:List Value}{l:List Int},vs.length=l.length->(∀ (j:Nat) (v:Value),vs[j]?=Qa v-> ∃z t,l[j]?=Qa z/\v= .int z t) ->Jf vs l:=by
    intro vs
    induction vs with
    |nil=>intro l h _;cases l with
     |nil=>exact .nil
     |cons _ _=>exact Nat.noConfusion h
    |cons v vs ih=>intro l h hj;cases l with
     |nil=>exact Nat.noConfusion h
     |cons z l=>
      refine xEEA (hj 0 v rfl) λz' t e1 kh=>?_;subst kh;cases e1;exact .cons z t (ih (ZQ.inj h) λj v hv=>hj (j+1) v hv)
   refine go (hvl.trans hkl) λj v hv=>?_;refine xEEA (hvs j v hv) λa x hx ha=>?_;refine xEA (hk j _ hx) λz hz e=>?_;have e:a= .i z:=e;subst e;refine xE (Km (show qbk z v=Qf from ha)) λt yg=>?_;subst yg;exact ⟨z,t,hz,rfl⟩
  have zq4:=uE l;refine lks_sort (its:=vs.toArray) (n:=0) (q:=pO l) (news':=λt=>(B,listOf (Jg (pO l) 0 t).toArray (0+2))::all) F' N' (λt=> .head λp hp=>Z2 (hlt p hp)) (zM hI).1 ?_ ?_ ?_ λt h2 F2 N2=>?_
  ·show ((lks_nums vs).isPerm (pO l) && lks_asc (pO l))=Qf
   rw [(zM hI).2,Iw zq4.2,Yb];exact List.isPerm_iff.mpr zq4.1.symm
  ·show vs.isEmpty=Qb
   cases vs with
   |nil=>rw [show l= [] from by cases hI;rfl] at hc;exact JI hc.1
   |cons _ _=>rfl
  ·show vs.length<64
   rw [hvl,hkl];exact h64
  ·have h4:4<=B:=ZG λhlt4=>by
    refine (K.ow B hlt4).elim λo zq3=>?_
    have:=(N' (B,_) (.head _)).2.2
    rw [Y.k B o zq3] at this;exact nomatch this
   refine hq _ _ {s with heap:=h2,toks:=tk} ⟨(⟨J5 _ _,λ_ x=>x⟩:w.le ⟨w.σ++ [B],w.tp⟩),add B (.list ((pO l).map .int)) [(B,listOf (Jg (pO l) 0 t).toArray (0+2))] h2 ⟨_,_,rfl,GE,by rw [Jt,zq4.1.length_eq];exact Jq (JQ h64) (by decide)⟩ F2 N2 (pC _) (λp hp q hq=>by rw [JG.mp hp];exact λe=>absurd (hlt q hq) (by rw [<-e];exact J8 _)) h4,rfl,rfl⟩ ⟨_,rfl,by rw [<-S.len];exact Zi⟩
 ·exfalso
  have e:=D.e;cases xs with
  |nil=>rw [Yy.mp e] at hl;cases hl;exact nomatch hc.1
  |cons a xs=>
   cases hp2:p.2 with
   |nil=>rw [hp2] at e;cases e
   |cons q qs=>
    rw [hp2] at e hl;refine (x4 hl).elim λy zq1=>zq1.elim λys zq2=>?_;have e1:=zq2.1;have e1:q.1.int?=Qa y:=e1;rw [show q.1= .az (a.1.map ak.val) from (KB.inj e).1] at e1;exact ag e1
theorem zd3 (C : ax) : Ay C := λ{d e Y k w H s as vs} K S r => .a1 (T:=λl => call (.builtin "sorted") l) r λx v hx => .ay (MO K S hx) (.ay (GW K S hx) (.ay (GU K S hx) (GV K S hx)))
end Internal
namespace Internal
structure W {α:Type} (o:Option (α×MH)) (Q:α->MH->Prop):Prop where
 w:JF (motive:=λ_=>Prop) o False λp=>Q p.1 p.2
structure Wo {α:Type} (o:Option α) (Q:α->Prop):Prop where
 w:JF (motive:=λ_=>Prop) o False Q
section
variable {α β:Type}{o:Option (α×MH)}{Q:α->MH->Prop}
def W.get (h:W o Q): ∃a g,o=Qa (a,g)/\Q a g:=by
 cases o with
 |none=>exact h.w.elim
 |some p=>exact ⟨p.1,p.2,rfl,h.w⟩
def W.mono {Q':α->MH->Prop} (h:W o Q) (i: ∀a g,Q a g->Q' a g):W o Q':=by
 cases o with
 |none=>exact ⟨h.w⟩
 |some p=>exact ⟨i _ _ h.w⟩
def W.of {a:α}{g:MH} (e:o=Qa (a,g)) (q:Q a g):W o Q:=by subst e;exact ⟨q⟩
theorem l8 {a:α}{g:MH} (q:Q a g):W (Qa (a,g)) Q:=⟨q⟩
def aw {f:α->MH->Option (β×MH)}{R:β->MH->Prop} (h:W o λa g=>W (f a g) R):W (cb o f) R:=by
 cases o with
 |none=>exact h.w.elim
 |some p=>exact h.w
def w_bnd' {f:α->MH->Option (β×MH)}{R:β->MH->Prop} (h:W (cb o f) R):W o λa g=>W (f a g) R:=by
 cases o with
 |none=>exact ⟨h.w⟩
 |some p=>exact ⟨h⟩
theorem Dm {b:β}{P:β->Prop} (q:P b):Wo (Qa b) P:=⟨q⟩
def sI {x:Option β}{f:β->Option (α×MH)} (h:Wo x λb=>W (f b) Q):W (x.bind f) Q:=by
 cases x with
 |none=>exact h.w.elim
 |some b=>exact h.w
def V3 {x:Option β}{f:β->α×MH} (h:Wo x λb=>Q (f b).1 (f b).2):W (x.map f) Q:=by
 cases x with
 |none=>exact h.w.elim
 |some b=>exact ⟨h.w⟩
def GC {b:Bool} (hb:b=Qf) (h:W o Q):W (au b o) Q:=by subst hb;exact h
def GD {o':Option (α×MH)} (h:W o Q):W (ay o o') Q:=by
 cases o with
 |none=>exact h.w.elim
 |some p=>exact ⟨h.w⟩
def Wo.mono {o:Option β}{P P':β->Prop} (h:Wo o P) (i: ∀a,P a->P' a):Wo o P':=by
 cases o with
 |none=>exact ⟨h.w⟩
 |some a=>exact ⟨i a h.w⟩
def Wo.of {o:Option β}{P:β->Prop}{a:β} (e:o=Qa a) (q:P a):Wo o P:=by subst e;exact ⟨q⟩
theorem tB {p:Option (aa×MH)}{Q:Bool->MH->Prop} (h:W p λv g=>Wo (truthy g v) λb=>Q b g):W (mX p) Q:=aw (h.mono λv g h=>V3 (f:=λb=>(b,g)) h)
end
def WB (op:ik) (x y:aa) (h:MH) (Q:aa->MH->Prop):Prop:=W (pJ op x y h) Q
def WC (op:uv) (x y:aa) (h:MH) (Q:aa->MH->Prop):Prop:=Wo (nG op x y h) λr=>Q (.bool r) h
def WT (x:aa) (h:MH) (Q:Bool->Prop):Prop:=Wo (truthy h x) Q
def WI (o k:aa) (h:MH) (Q:aa->MH->Prop):Prop:=Wo (l9 h o k) λv=>Q v h
def WA (P:ij) (o:aa) (n:Nat) (h:MH) (Q:aa->MH->Prop):Prop:=Wo (getAttr P h o n) λv=>Q v h
def kC (o:aa) (k:Nat) (bs:List aa) (h:MH) (Q:aa->MH->Prop):Prop:=W (slice h o k bs) Q
def WV (c:Cx) (f:aa) (as:List aa) (h:MH) (Q:aa->MH->Prop):Prop:=W (kT c f as h) Q
def WM (c:Cx) (o:aa) (n:Nat) (as:List aa) (h0 h:MH) (Q:aa->MH->Prop):Prop:=W (l5 c o n as h0 h) Q
def fW (c:Cx) (ts:List T1) (vs:List aa) (fr:Frame) (h:MH) (Q:Frame->MH->Prop):Prop:=W (rP c ts vs fr h) Q
def Br (r:Bool) (A B:Prop):Prop:=(r=Qf->A)/\(r=Qb->B)
theorem br {r:Bool}{A B:Prop} (a:r=Qf->A) (b:r=Qb->B):Br r A B:=⟨a,b⟩
theorem za1 {A B:Prop} (a:A):Br Qf A B:=⟨λ_=>a,λh=>JI h⟩
theorem zgj {A B:Prop} (b:B):Br Qb A B:=⟨λh=>(JI h:False).elim,λ_=>b⟩
abbrev aj (P:ij) (d:Nat):Cx:=⟨P,200000,nH P 200000 d⟩
section
variable {c:Cx}{fr:Frame}{h:MH}{Q:aa->MH->Prop}{P:ij}{d:Nat}
def WE (c:Cx) (fr:Frame) (e:Ex) (h:MH) (Q:aa->MH->Prop):Prop:=W (eval c e fr h) Q
def vz (c:Cx) (fr:Frame) (es:List Ex) (h:MH) (Q:List aa->MH->Prop):Prop:=W (rD c es fr h) Q
def vK {x:Nat}{v:aa} (hx:fr[x]?=Qa (Qa v)) (q:Q v h):WE c fr (.var x) h Q:=by
 show W ((fr[x]?).bind λo=>o.map λv=>(v,h)) Q;exact hx▸ ⟨q⟩
theorem Fq {v:aa} (q:Q v h):WE c fr (.lit v) h Q:=l8 q
theorem Do {Q:List aa->MH->Prop} (q:Q [] h):vz c fr [] h Q:=l8 q
theorem Fo {Q:List aa->MH->Prop}{e:Ex}{r:List Ex} (q:WE c fr e h λv h1=>vz c fr r h1 λvs h2=>Q (v::vs) h2):vz c fr (e::r) h Q:=aw (W.mono q λv h1 q=>aw (W.mono q λ_ _ q=>l8 q))
theorem Dp {es:List Ex} (q:vz c fr es h λvs h1=>Q (.ref h1.length) (h1++ [.list vs])):WE c fr (.list es) h Q:=aw (W.mono q λ_ _ q=>l8 q)
theorem Rz {es:List Ex} (q:vz c fr es h λvs h1=>Q (.az vs) h1):WE c fr (.az es) h Q:=aw (W.mono q λ_ _ q=>l8 q)
theorem RF {op:ik}{a b:Ex} (q:WE c fr a h λx h1=>WE c fr b h1 λy h2=>WB op x y h2 Q):WE c fr (.bj op a b) h Q:=aw (W.mono q λx h1 q=>aw q)
theorem RB {a:Ex} (q:WE c fr a h λx h1=>WT x h1 λb=>Q (.bool (!b)) h1):WE c fr (.not a) h Q:=aw (tB (W.mono q λ_ _ q=>Wo.mono q λ_ q=>l8 q))
theorem RD {op:uv}{a b:Ex} (q:WE c fr a h λx h1=>WE c fr b h1 λy h2=>WC op x y h2 Q):WE c fr (.ba op a b) h Q:=aw (W.mono q λx h1 q=>aw (W.mono q λy h2 q=>V3 (f:=λr=>(aa.bool r,h2)) q))
def Gj {α:Type}{r:Bool}{a b:Option (α×MH)}{Q:α->MH->Prop} (q:Br r (W a Q) (W b Q)):W (bif r then a else b) Q:=by
 cases r with
 |true=>exact q.1 rfl
 |false=>exact q.2 rfl
theorem RC {t a b:Ex} (q:WE c fr t h λx h1=>WT x h1 λr=>Br r (WE c fr a h1 Q) (WE c fr b h1 Q)):WE c fr (.ite t a b) h Q:=aw (tB (W.mono q λx h1 q=>Wo.mono q λr q=>Gj q))
theorem Mp {e:Ex}{n:Nat} (q:WE c fr e h λo h1=>WA c.P o n h1 Q):WE c fr (.af e n) h Q:=aw (W.mono q λo h1 q=>V3 (f:=λv=>(v,h1)) q)
theorem RA {e i:Ex} (q:WE c fr e h λo h1=>WE c fr i h1 λk h2=>WI o k h2 Q):WE c fr (.sub e i) h Q:=aw (W.mono q λo h1 q=>aw (W.mono q λk h2 q=>V3 (f:=λv=>(v,h2)) q))
theorem Fp {e:Ex}{k:Nat}{bs:List Ex} (q:WE c fr e h λo h1=>vz c fr bs h1 λvs h2=>kC o k vs h2 Q):WE c fr (.slice e k bs) h Q:=aw (W.mono q λo h1 q=>aw q)
theorem Mn {f:Ex}{as:List Ex} (q:WE c fr f h λg h1=>vz c fr as h1 λvs h2=>WV c g vs h2 Q):WE c fr (.call f as) h Q:=aw (W.mono q λo h1 q=>aw q)
theorem Mm {o:Ex}{n:Nat}{as:List Ex} (q:WE c fr o h λg h1=>vz c fr as h1 λvs h2=>WM c g n vs h1 h2 Q):WE c fr (.ao o n as) h Q:=aw (W.mono q λo h1 q=>aw q)
theorem Mo {st:Bool}{e:Ex} (q:WE c fr e h Q):WE c fr (.gy st [e]) h Q:=aw (f:=λv h1=>Qa (v,h1)) (W.mono q λ_ _ q=>l8 q)
theorem RE {st:Bool}{e f:Ex}{r:List Ex} (q:WE c fr e h λv h1=>WT v h1 λb=>Br (b==st) (Q v h1) (WE c fr (.gy st (f::r)) h1 Q)):WE c fr (.gy st (e::f::r)) h Q:=aw (f:=λv h1=>(truthy h1 v).bind λb=>bif b==st then Qa (v,h1) else yV c st (f::r) fr h1) (W.mono q λv h1 q=>sI (Wo.mono q λb q=>Gj ⟨λh=>l8 (q.1 h),q.2⟩))
variable {R:Fl->Frame->MH->Prop}
def WS (c:Cx) (s:Sm) (fr:Frame) (h:MH) (R:Fl->Frame->MH->Prop):Prop:=W (exec c s fr h) λp h=>R p.1 p.2 h
def cz (c:Cx) (s:List Sm) (fr:Frame) (h:MH) (R:Fl->Frame->MH->Prop):Prop:=W (execs c s fr h) λp h=>R p.1 p.2 h
theorem I8 (q:R .nx fr h):cz c [] fr h R:=l8 (a:=(Fl.nx,fr)) q
def aF (c:Cx) (r:List Sm) (R:Fl->Frame->MH->Prop) (fl:Fl) (fr:Frame) (h:MH):Prop:=Fl.casesOn (motive:=λ_=>Prop) fl (cz c r fr h R) (R .bk fr h) (R .ct fr h) λv=>R (.rt v) fr h
def Fi {s:Sm}{r:List Sm} (q:WS c s fr h (aF c r R)):cz c (s::r) fr h R:=by
 exact aw (W.mono q λp h1 q=>by
  obtain ⟨fl,f2⟩:=p;cases fl with
  |nx=>exact q
  |bk=>exact ⟨q⟩
  |ct=>exact ⟨q⟩
  |rt v=>exact ⟨q⟩)
def Md {e:Ex} (q:WE c fr e h λ_ h1=>R .nx fr h1):WS c (.expr e) fr h R:=by
 show W (cb (eval c e fr h) λ_ h1=>Qa ((Fl.nx,fr),h1)) λp h=>R p.1 p.2 h;exact aw (W.mono q λ_ _ q=>⟨q⟩)
def Mf {ts:List T1}{e:Ex} (q:WE c fr e h λv h1=>Wo (items h1 v) λvs=>fW c ts vs fr h1 λf2 h2=>R .nx f2 h2):WS c (.jn ts e) fr h R:=by
 exact aw (W.mono q λv h1 q=>sI (Wo.mono q λvs q=>aw (W.mono q λ_ _ q=>⟨q⟩)))
def Rv {e:Ex} (q:WE c fr e h λv h1=>R (.rt v) fr h1):WS c (.ret e) fr h R:=by
 show W (cb (eval c e fr h) λv h1=>Qa ((Fl.rt v,fr),h1)) λp h=>R p.1 p.2 h;exact aw (W.mono q λ_ _ q=>⟨q⟩)
def Rw {t:Ex}{a b:List Sm} (q:WE c fr t h λx h1=>WT x h1 λr=>Br r (cz c a fr h1 R) (cz c b fr h1 R)):WS c (.ite t a b) fr h R:=by
 exact aw (tB (W.mono q λx h1 q=>Wo.mono q λr q=>Gj q))
theorem Rx (q:R .bk fr h):WS c .brk fr h R:=l8 (a:=(Fl.bk,fr)) q
theorem Me (q:R .ct fr h):WS c .cont fr h R:=l8 (a:=(Fl.ct,fr)) q
theorem I9 (q:R .nx fr h):WS c .ub fr h R:=l8 (a:=(Fl.nx,fr)) q
def WF (P:ij) (d f:Nat) (as:List aa) (h:MH) (Q:aa->MH->Prop):Prop:=W (nH P 200000 d f as h) Q
def Fin (Q:aa->MH->Prop) (fl:Fl) (_:Frame) (h:MH):Prop:=Fl.casesOn (motive:=λ_=>Prop) fl (Q .none h) False False λv=>Q v h
def Dn {f:Nat}{fn:Fn}{as vs:List aa} (hf:P.kx f=Qa fn) (ha:vZ fn as=Qa vs) (q:cz (aj P d) fn.body (sC fn vs) h (Fin Q)):WF P (d+1) f as h Q:=by
 show W ((P.kx f).bind λf=>(vZ f as).bind λvs=>cb (execs ⟨P,200000,nH P 200000 d⟩ f.body (sC f vs) h) OQ) Q;rw [hf];show W ((vZ fn as).bind λvs=>cb (execs ⟨P,200000,nH P 200000 d⟩ fn.body (sC fn vs) h) OQ) Q;rw [ha];exact aw (W.mono q λp h1 q=>by
  obtain ⟨fl,f2⟩:=p;cases fl with
  |nx=>exact ⟨q⟩
  |bk=>exact q.elim
  |ct=>exact q.elim
  |rt v=>exact ⟨q⟩)
def zbE {K f:Nat}{fn:Fn}{as vs:List aa} (hd:K+1<=d) (hf:P.kx f=Qa fn) (ha:vZ fn as=Qa vs) (q: ∀d',K<=d'->cz (aj P d') fn.body (sC fn vs) h (Fin Q)):WF P d f as h Q:=by
 refine (ZS hd).elim λd' zq1=>?_;refine eqB zq1 ?_;exact Dn (d:=d'+K) hf ha (q _ (JE _ _))
end
end Internal
namespace Internal
def kI {h t:MH}{a:Nat}{o:ae} (e:h[a]?=Qa o):(h++t)[a]?=Qa o:=by
 exact (ZP (JD.mp e).1).trans (e)
def ap {h t:MH}{o:ae}:(h++o::t)[h.length]?=Qa o:=by
 refine (Kz (JA _)).trans ?_;rw [qad];rfl
def lF {h:MH}{a b:Nat}{o x:ae} (ne:b≠a) (e:h[a]?=Qa o):(h.set b x)[a]?=Qa o:=by rw [J6 ne];exact e
theorem lI {h:MH}{a:Nat}{o:ae} (e:h[a]?=Qa o):a<h.length:=(JD.mp e).1
theorem lW {h:MH}{a:Nat}{o x:ae} (e:h[a]?=Qa o):(h.set a x)[a]?=Qa x:=J7 (lI e)
def rS {h t:MH}{o x:ae}:(h++o::t).set h.length x=h++x::t:=by
 rw [YS _ _ (JA _),qad];rfl
def nC {h:MH}{a:Nat}{vs:List aa} (e:h[a]?=Qa (.list vs)):lG h (.ref a)=Qa vs:=by
 show (h[a]?).bind ae.list?=_;rw [e];rfl
def nE {h:MH}{a:Nat}{ep:Option Nat}{es:List (aa×aa)} (e:h[a]?=Qa (.dict ep es)):dictAt h (.ref a)=Qa (ep,es):=by
 show (h[a]?).bind ae.dict?=_;rw [e];rfl
def WY {h:MH}{a:Nat}{vs:List aa} (e:h[a]?=Qa (.list vs)):dictAt h (.ref a)=none:=by
 show (h[a]?).bind ae.dict?=_;rw [e];rfl
def tE {h:MH}{a:Nat}{ep:Option Nat}{es:List (aa×aa)} (e:h[a]?=Qa (.dict ep es)):lG h (.ref a)=none:=by
 show (h[a]?).bind ae.list?=_;rw [e];rfl
def LD {h:MH}{a k:Nat}{fs:List (Nat×aa)} (e:h[a]?=Qa (.inst k fs)):cn h (.ref a)=Qa (k,fs):=by
 show (h[a]?).bind ae.inst?=_;rw [e];rfl
section
variable {c:Cx}{fr:Frame}{h:MH}{Q:aa->MH->Prop}{P:ij}{d:Nat}
def Mu {a b:List Nat} (hl:a.length+b.length<=bh) (q:Q (.str (a++b)) h):WB .add (.str a) (.str b) h Q:=by
 show W (ay (au (Zc (a.length+b.length) bh) (Qa (aa.str (a++b),h))) _) Q;exact (Zd.mpr hl)▸ ⟨q⟩
def Mv {a b:Nat}{x y:List aa} (ha:h[a]?=Qa (.list x)) (hb:h[b]?=Qa (.list y)) (hl:x.length+y.length<=bh) (q:Q (.ref h.length) (h++ [.list (x++y)])):WB .add (.ref a) (.ref b) h Q:=by
 show W ((lG h (.ref a)).bind λa=>(lG h (.ref b)).bind λb=>au (Zc (a.length+b.length) bh) (lZ h (.list (a++b)))) Q;rw [nC ha,nC hb];exact GC (o:=lZ h (.list (x++y))) (Zd.mpr hl) (l8 q)
def CJ {α:Type}{b:Bool}{o:Option α} (hb:b=Qf):au b o=o:=by subst hb;rfl
def RG {a b:Int} (hm:Lq a b=Qf) (q:Q (.int (a*b)) h):WB .mul (.int a) (.int b) h Q:=by
 have e:Lp h (.int a) (.int b)=Qa (.int (a*b),h):=by
  delta Lp;simp only [aa.int?,YY,CJ hm];rfl
 have e2:pJ .mul (.int a) (.int b) h=ay Qd (Lp h (.int a) (.int b)):=by
  delta pJ;simp only [aa.int?,YY,L6,qai]
 delta WB;rw [e2,e];exact ⟨q⟩
def Sq {l n:Nat} (hn:n<=bh) (hl:l*n<=bh):G8 l (n:Int)=true:=by
 delta G8;rw [ZY,ZY];exact ⟨⟨decide_eq_true (by lia),decide_eq_true (by lia)⟩,Zd.mpr (by rw [KF];exact hl)⟩
def DK {α:Type}{x:α}{n:Nat}:(JU n [x]).flatten=JU n x:=by
 induction n with
 |zero=>rfl
 |succ n ih=>rw [qay,K4,ih];rfl
def Dq {a:Nat}{n:Nat}{x:List aa} (ha:h[a]?=Qa (.list x)) (hl:n<=bh) (hx:x.length*n<=bh) (q:Q (.ref h.length) (h++ [.list (JU n x).flatten])):WB .mul (.ref a) (.int n) h Q:=by
 show W ((lG h (.ref a)).bind λa=>(Qa (n:Int)).bind λn=>au (G8 a.length n) (lZ h (.list (JU n.toNat a).flatten))) Q;rw [nC ha];exact GC (o:=lZ h (.list (JU n x).flatten)) (Sq hl hx) (l8 q)
def GB {o:Option Int}{k:Int} (e:o=Qa k) (q:Q (.int k) h) {o':Option (aa×MH)}:W (ay (o.map λk=>(aa.int k,h)) o') Q:=by subst e;exact ⟨q⟩
def Mt {a b:Int} (hb:b≠0) (hl:b.natAbs<ji) (q:Q (.int (qao a b)) h):WB .fdiv (.int a) (.int b) h Q:=by
 refine GB (o:=L6 .fdiv a b) ?_ q;show au _ _=_;rw [show (b !=0 && Zc (b.natAbs+1) ji)=Qf by rw [ZY];exact ⟨bne_iff_ne.mpr hb,Zd.mpr hl⟩];rfl
def RH {a b:Int} (hb:b≠0) (q:Q (.int (Xq a b)) h):WB .mod (.int a) (.int b) h Q:=by
 refine GB (o:=L6 .mod a b) ?_ q;show au _ _=_;rw [bne_iff_ne.mpr hb];rfl
theorem uD {b:Bool}{Q:Bool->Prop} (q:Q b):WT (.bool b) h Q:=⟨q⟩
def HP {n i:Nat} (hi:i<n):qo n (.int i)=Qa i:=by
 show au _ _=_;simp only [decide_eq_true (show (0:Int)<=(i:Int) by exact KU _),decide_eq_true (show (i:Int)<(n:Int) by lia),KF];rfl
theorem kP {α:Type}{vs:List α}{i:Nat}{v:α} (hv:vs[i]?=Qa v):i<vs.length:=(JD.mp hv).1
def Uy {α:Type}{a b:Option α}{v:α}{Q:α->Prop} (e:a=Qa v) (q:Q v):Wo (ay a b) Q:=by subst e;exact ⟨q⟩
def Mj {a i:Nat}{vs:List aa}{v:aa} (ha:h[a]?=Qa (.list vs)) (hv:vs[i]?=Qa v) (q:Q v h):WI (.ref a) (.int i) h Q:=by
 refine Uy (a:=(lG h (.ref a)).bind λvs=>(qo vs.length (.int i)).bind λk=>vs[k]?) ?_ q;rw [nC ha];show (qo vs.length (.int i)).bind _=_;exact (HP (kP hv))▸hv
def zbC {i:Nat}{vs:List aa}{v:aa} (hv:vs[i]?=Qa v) (q:Q v h):WI (.fl vs) (.int i) h Q:=by
 exact Uy (a:=(qo vs.length (.int i)).bind λk=>vs[k]?) ((HP (kP hv))▸hv) q
def Ml {a:Nat}{ep:Option Nat}{es:List (aa×aa)}{k v:aa} (ha:h[a]?=Qa (.dict ep es)) (hf:kX es k=Qf) (hv:kY es k=Qa v) (q:Q v h):WI (.ref a) k h Q:=by
 show Wo (ay ((lG h (.ref a)).bind _) ((dictAt h (.ref a)).bind λd=>au (kX d.2 k) (kY d.2 k))) _;rw [tE ha,nE ha];show Wo (au (kX es k) (kY es k)) _;rw [hf,hv];exact ⟨q⟩
def RI {a k n:Nat}{fs:List (Nat×aa)}{v:aa} (ha:h[a]?=Qa (.inst k fs)) (hv:vV fs n=Qa v) (hf:P.du k n=Qf) (q:Q v h):WA P (.ref a) n h Q:=by
 refine Uy (a:=(cn h (.ref a)).bind λq=>JF (motive:=λ_=>Option aa) (vV q.2 n) (vH P q.1 n) λv=>au (P.du q.1 n) (Qa v)) ?_ q;rw [LD ha];show JF (motive:=λ_=>Option aa) (vV fs n) (vH P k n) (λv=>au (P.du k n) (Qa v))=_;rw [hv];rw [hf];rfl
def Hl {a n:Nat}{v:aa} (e:((P.cn a).bind λc=>vH P c n)=Qa v) (q:Q v h):WA P (.ah a) n h Q:=by
 show Wo ((P.cn a).bind λc=>vH P c n) _;exact e▸ ⟨q⟩
def A8 {a k n:Nat}{fs:List (Nat×aa)}{v:aa}{Q:MH->Prop} (ha:h[a]?=Qa (.inst k fs)) (hf:P.du k n=Qf) (hl:fs.length<400) (q:Q (h.set a (.inst k (Wx fs n v)))):Wo (setAttr P h (.ref a) n v) Q:=by
 show Wo ((h[a]?.bind ae.inst?).bind λq=>au (P.du q.1 n && Zc (q.2.length+1) 400) (Qa (h.set a (.inst q.1 (Wx q.2 n v))))) Q;rw [ha];show Wo (au (P.du k n && Zc (fs.length+1) 400) (Qa (h.set a (.inst k (Wx fs n v))))) Q;rw [hf,Zd.mpr hl];exact ⟨q⟩
def Bg {a i:Nat}{vs:List aa}{v:aa}{Q:MH->Prop} (ha:h[a]?=Qa (.list vs)) (hi:i<vs.length) (q:Q (h.set a (.list (vs.set i v)))):Wo (oC h (.ref a) (.int i) v) Q:=by
 refine Uy (a:=(h[a]?.bind ae.list?).bind λvs=>(qo vs.length (.int i)).map λk=>h.set a (.list (vs.set k v))) ?_ q;rw [ha];show (qo vs.length (.int i)).map _=_;rw [HP hi];rfl
def Bh {a:Nat}{ep:Option Nat}{es:List (aa×aa)}{k v:aa}{Q:MH->Prop} (ha:h[a]?=Qa (.dict ep es)) (hf:kX es k=Qf) (hl:es.length<bh) (q:Q (h.set a (.dict (bif (kY es k).isSome then ep else ep.map (· +1)) (oF es k v)))):Wo (oC h (.ref a) k v) Q:=by
 show Wo (ay ((h[a]?.bind ae.list?).bind _) ((h[a]?.bind ae.dict?).bind λd=>au (kX d.2 k && Zc (d.2.length+1) bh) (Qa (h.set a (.dict (bif (kY d.2 k).isSome then d.1 else d.1.map (· +1)) (oF d.2 k v)))))) Q;rw [ha];show Wo (au (kX es k && Zc (es.length+1) bh) (Qa (h.set a (.dict (bif (kY es k).isSome then ep else ep.map (· +1)) (oF es k v))))) Q;rw [hf,Zd.mpr hl];exact ⟨q⟩
def nX {a:Nat}{as:List aa} (hc:P.fz a=Qd) (q:WF P d a as h Q):WV (aj P d) (.ah a) as h Q:=by
 show W (ay (JF (motive:=λ_=>Option (aa×MH)) (P.fz a) (nH P 200000 d a as h) λk=>Ny (aj P d) a k as h) _) Q;exact hc▸GD (q:W (nH P 200000 d a as h) Q)
def Fh {a i:Nat}{k:Cl}{as:List aa} (hc:P.fz a=Qa k) (hi:k.sa=Qa i) (q:WF P d i (.ref h.length::as) (h++ [.inst a []]) λv h'=>v= .none/\Q (.ref h.length) h'):WV (aj P d) (.ah a) as h Q:=by
 show W (ay (JF (motive:=λ_=>Option (aa×MH)) (P.fz a) (nH P 200000 d a as h) λk=>Ny (aj P d) a k as h) _) Q;rw [hc];refine GD ?_;show W (k.sa.bind λi=>cb (nH P 200000 d i (.ref h.length::as) (h++ [.inst a []])) λr h'=>au r.isNone (Qa (.ref h.length,h'))) Q;rw [hi];exact aw (f:=λr h'=>au r.isNone (Qa (aa.ref h.length,h'))) (R:=Q) (W.mono q λv h' q=>by rw [q.1];exact ⟨q.2⟩)
def Gw {n:Nat}{as:List aa}{v:aa}{h':MH} (e:Gi n as h=Qa (v,h')) (q:Q v h'):WV c (.bi n) as h Q:=by
 show W (ay (Gi n as h) Qd) Q;exact e▸ ⟨q⟩
def Pp {n:Nat}{as:List aa}{v:aa}{h':MH} (e:Gh n as h=Qa (v,h')) (q:Q v h'):WV c (.ty n) as h Q:=by
 show W (Gh n as h) Q;exact e▸ ⟨q⟩
def Hf {v:aa}{n:Nat} (e:Cp h v=Qa n) (q:Q (.int n) h):WV c (.bi uX) [v] h Q:=by
 refine Gw (v:=.int n) (h':=h) ?_ q;show ay ((Cp h v).map λ(k:Nat)=>(aa.int (k:Int),h)) _=_;rw [e];rfl
def I6 {a:Nat}{vs:List aa} (ha:h[a]?=Qa (.list vs)) (q:Q (.ref h.length) (h++ [.list vs])):WV c (.ty Lk) [.ref a] h Q:=by
 refine Pp (v:=.ref h.length) (h':=h++ [.list vs]) ?_ q;show ay ((lG h (.ref a)).bind λvs=>lZ h (.list vs)) _=_;simp only [nC ha];rfl
theorem Rp {a b:Int} (q:Q (.int (if b>a then b else a)) h):WV c (.bi ND) [.int a,.int b] h Q:=⟨q⟩
def zaD {a:Nat}{vs:List aa} (ha:h[a]?=Qa (.list vs)):Cp h (.ref a)=Qa vs.length:=by
 show ay ((lG h (.ref a)).map (·.length)) _=_;rw [nC ha];rfl
def zaE {a:Nat}{ep:Option Nat}{es:List (aa×aa)} (ha:h[a]?=Qa (.dict ep es)):Cp h (.ref a)=Qa es.length:=by
 show ay ((lG h (.ref a)).map (·.length)) ((dictAt h (.ref a)).map (·.2.length))=_;rw [tE ha,nE ha];rfl
def lL {o:aa}{n f:Nat}{self as:List aa}{h0:MH} (hg:nU P h0 o n=Qa (f,self)) (q:WF P d f (self++as) h Q):WM (aj P d) o n as h0 h Q:=by
 show W (JF (motive:=λ_=>Option (aa×MH)) (nU P h0 o n) (yX o n as h0 h) λp=>nH P 200000 d p.1 (p.2++as) h) Q;exact hg▸(q:W (nH P 200000 d f (self++as) h) Q)
def mR {a k n f:Nat}{fs:List (Nat×aa)}{h0:MH} (ha:h0[a]?=Qa (.inst k fs)) (hn:vV fs n=Qd) (hm:yS P k n=Qa f):nU P h0 (.ref a) n=Qa (f,[.ref a]):=by
 show ((cn h0 (.ref a)).bind λq=>au (vV q.2 n).isNone ((yS P q.1 n).map λf=>(f,[aa.ref a])))=_;rw [LD ha];show au (vV fs n).isNone ((yS P k n).map λf=>(f,[aa.ref a]))=_;rw [hn,hm];rfl
def Pt {a n:Nat}{as:List aa}{h0:MH} (hi:cn h0 (.ref a)=Qd) (q:W (yX (.ref a) n as h0 h) Q):WM c (.ref a) n as h0 h Q:=by
 show W (JF (motive:=λ_=>Option (aa×MH)) ((cn h0 (.ref a)).bind _) (yX (.ref a) n as h0 h) λ(p:Nat×List aa)=>c.call p.1 (p.2++as) h) Q;exact hi▸q
def CD {a:Nat}{vs:List aa} (e:h[a]?=Qa (.list vs)):cn h (.ref a)=none:=by
 show (h[a]?).bind ae.inst?=_;rw [e];rfl
def CE {a:Nat}{ep:Option Nat}{es:List (aa×aa)} (e:h[a]?=Qa (.dict ep es)):cn h (.ref a)=none:=by
 show (h[a]?).bind ae.inst?=_;rw [e];rfl
def Ap {a n:Nat}{as us vs:List aa}{h0:MH} (h0a:h0[a]?=Qa (.list us)) (ha:h[a]?=Qa (.list vs)) (q:W (wW a vs n as h) Q):WM c (.ref a) n as h0 h Q:=by
 refine Pt (CD h0a) ?_;show W (ay ((h0[a]?.bind ae.list?).bind λ_=>(h[a]?.bind ae.list?).bind λvs=>wW a vs n as h) _) Q;rw [h0a,ha];exact GD q
theorem V2 {a:Nat}{vs us:List aa}{v:aa}{h0:MH} (h0a:h0[a]?=Qa (.list us)) (ha:h[a]?=Qa (.list vs)) (hl:vs.length<bh) (q:Q .none (h.set a (.list (vs++ [v])))):WM c (.ref a) ew [v] h0 h Q:=
 Ap h0a ha (GD (GC (o:=Qa (aa.none,h.set a (.list (vs++ [v])))) (Zd.mpr hl) (l8 q)))
def Ry {a:Nat}{vs us:List aa}{v:aa}{h0:MH} (h0a:h0[a]?=Qa (.list us)) (ha:h[a]?=Qa (.list (vs++ [v]))) (q:Q v (h.set a (.list vs))):WM c (.ref a) rm [] h0 h Q:=by
 refine Ap h0a ha ?_;show W ((vs++ [v]).getLast?.map λw=>(w,h.set a (.list (vs++ [v]).dropLast))) Q;rw [List.getLast?_concat,List.dropLast_concat];exact ⟨q⟩
def Aq {a n:Nat}{as:List aa}{ep ep0:Option Nat}{es es0:List (aa×aa)}{h0:MH} (h0a:h0[a]?=Qa (.dict ep0 es0)) (ha:h[a]?=Qa (.dict ep es)) (q:W (xK es n as h) Q):WM c (.ref a) n as h0 h Q:=by
 refine Pt (CE h0a) ?_;show W (ay ((h0[a]?.bind ae.list?).bind _) ((h0[a]?.bind ae.dict?).bind λ_=>(h[a]?.bind ae.dict?).bind λd=>xK d.2 n as h)) Q;rw [h0a,ha];exact q
theorem Fm {a:Nat}{ep ep0:Option Nat}{es es0:List (aa×aa)}{k e:aa}{h0:MH} (h0a:h0[a]?=Qa (.dict ep0 es0)) (ha:h[a]?=Qa (.dict ep es)) (hf:kX es k=Qf) (q:Q ((kY es k).getD e) h):WM c (.ref a) ma [k,e] h0 h Q:=
 Aq h0a ha (GC (o:=Qa ((kY es k).getD e,h)) hf (l8 q))
theorem Mh {a:Nat}{ep ep0:Option Nat}{es es0:List (aa×aa)}{k:aa}{h0:MH} (h0a:h0[a]?=Qa (.dict ep0 es0)) (ha:h[a]?=Qa (.dict ep es)) (hf:kX es k=Qf) (q:Q ((kY es k).getD .none) h):WM c (.ref a) ma [k] h0 h Q:=
 Aq h0a ha (GD (GC (o:=Qa ((kY es k).getD .none,h)) hf (l8 q)))
end
end Internal
namespace Internal
def L9 (I:Frame->MH->Prop) (R:Fl->Frame->MH->Prop) (fl:Fl) (fr:Frame) (h:MH):Prop:=Fl.casesOn (motive:=λ_=>Prop) fl (I fr h) (R .nx fr h) (I fr h) λv=>R (.rt v) fr h
section
variable {c:Cx}{fr:Frame}{h:MH}{Q:aa->MH->Prop}{R:Fl->Frame->MH->Prop}
def On {next:Nat->MH->Option (Option aa)}{bd:Frame->aa->Option Frame}{b:Frame->MH->SR} (n:Nat) (I:Nat->Frame->MH->Prop)
  (step: ∀i,i<n-> ∀fr h,I i fr h->Wo (next i h) λov=>Wo ov λv=>Wo (bd fr v) λfr1=>W (b fr1 h) λp h'=>L9 (I (i+1)) R p.1 p.2 h')
  (stop: ∀fr h,I n fr h->Wo (next n h) λov=>ov=Qd/\R .nx fr h): ∀ (m i fu:Nat),i+m=n->m<fu-> ∀fr h,I i fr h->W (yT next bd b fu i fr h) λp h=>R p.1 p.2 h:=by
 intro m
 induction m with
 |zero=>
  intro i fu hi hf fr h I0;refine (ZS hf).elim λfu zq12=>?_;obtain rfl:=zq12;subst hi;have q:Wo (next i h) λov=>ov=Qd/\R .nx fr h:=stop fr h I0;exact sI (q.mono λov q=>by obtain ⟨rfl,q⟩:=q;exact ⟨q⟩)
 |succ m ih=>
  intro i fu hi hf fr h I0;obtain ⟨fu,rfl⟩:=ZS (Jx (JJ _) hf);have q:=step i (Jy (Kb (ZV _)) (JM hi)) fr h I0;refine sI (q.mono λov q=>?_);cases ov with
  |none=>exact q.w.elim
  |some v=>
   refine sI (Wo.mono q.w λfr1 q=>aw (W.mono q λp h2 q=>?_));obtain ⟨fl,f2⟩:=p;cases fl with
   |nx=>exact ih (i+1) _ (by lia) (Z4 hf) f2 h2 q
   |ct=>exact ih (i+1) _ (by lia) (Z4 hf) f2 h2 q
   |bk=>exact ⟨q⟩
   |rt v=>exact ⟨q⟩
def Ux {tg:List Nat}{many:Bool}{e:Ex}{b:List Sm}
  (q:WE c fr e h λv h1=> ∃k,∃xs:List aa,pF h1 v=Qa k/\xs.length<c.cu/\∃I:Nat->Frame->MH->Prop,I 0 fr h1/\(∀i fr h,I i fr h->mJ h i k=Qa xs[i]?)/\
   (∀i x,xs[i]?=Qa x-> ∀fr h,I i fr h->Wo (oX fr tg many x) λfr1=>cz c b fr1 h (L9 (I (i+1)) R))/\∀fr h,I xs.length fr h->R .nx fr h):WS c (.fo tg many e b) fr h R:=by
 show W (cb (eval c e fr h) λv h1=>(pF h1 v).bind λk=>yT (λi h=>mJ h i k) (λfr v=>oX fr tg many v) (λfr h=>execs c b fr h) c.cu 0 fr h1) λp h=>R p.1 p.2 h;refine aw (W.mono q λv h1 q=>?_);refine q.elim λk zq8=>zq8.elim λxs zq9=>zq9.2.2.elim λI zq10=>?_;rw [zq9.1];refine On xs.length I (λi hi fr h hI=>?_) (λfr h hI=>?_) xs.length 0 c.cu (Z3 _) zq9.2.1 fr h1 zq10.1
 ·simp only [zq10.2.1 i fr h hI,Js hi]
  exact ⟨⟨zq10.2.2.1 i _ (Js hi) fr h hI⟩⟩
 ·rw [zq10.2.1 _ fr h hI,Kr (JA _)]
  exact ⟨rfl,zq10.2.2.2 fr h hI⟩
def xB {a:Nat}{vs:List aa} (ha:h[a]?=Qa (.list vs)):pF h (.ref a)=Qa (.ls a):=by
 show ay Qd (ay (ay ((h[a]?.bind ae.list?).map λ_=>It.ls a) _) _)=_;rw [ha];rfl
def wQ {a i:Nat}{vs:List aa} (ha:h[a]?=Qa (.list vs)):mJ h i (.ls a)=Qa vs[i]?:=by
 show (h[a]?.bind ae.list?).map _=_;rw [ha];rfl
def HO {n:Nat} (hn:n<=bh):pF h (.gf n)=Qa (.rg n):=by
 show ay (au _ _) _=_;simp only [decide_eq_true (show (n:Int)<=(bh:Int) by lia),decide_eq_true (show-(bh:Int)<=(n:Int) by lia)];rfl
def UO (n:Nat):List aa:=(JW n).map λ(i:Nat)=>aa.int (i:Int)
def oP {n:Nat}:(UO n).length=n:=by unfold UO;rw [Jt,J9]
def DJ {n i:Nat} (hi:i<n):(UO n)[i]?=Qa (.int i):=by
 unfold UO;rw [JC,Z6 hi];rfl
def UN {n i:Nat}{x:aa} (hx:(UO n)[i]?=Qa x):i<n/\x= .int i:=by
 have hi:i<n:=by have:=kP hx;rwa [oP] at this
 rw [DJ hi] at hx;exact ⟨hi,(Qa.inj hx).symm⟩
def HD {n i:Nat} (hi:i<=n):mJ h i (.rg n)=Qa (UO n)[i]?:=by
 show Qa (bif decide ((i:Int)<(n:Int)) then Qa (aa.int i) else Qd)=_;by_cases hl:i<n
 ·rw [decide_eq_true (show (i:Int)<(n:Int) by lia),DJ hl];rfl
 ·rw [decide_eq_false (show ¬(i:Int)<(n:Int) by lia),Kr (by rw [oP];exact ZG hl)];rfl
theorem mT {x:Nat}{v:aa}{Q:Frame->Prop} (q:Q (fr.set x (Qa v))):Wo (oX fr [x] Qb v) Q:=⟨q⟩
theorem Mb {x a:Nat}{e:Ex}{b:List Sm}{vs:List aa} (hn:vs.length<c.cu) (I:Nat->Frame->MH->Prop)
  (hk: ∀i fr h,I i fr h->h[a]?=Qa (.list vs)) (q:WE c fr e h λv h1=>v= .ref a/\I 0 fr h1)
  (step: ∀i v,vs[i]?=Qa v-> ∀fr h,I i fr h->cz c b (fr.set x (Qa v)) h (L9 (I (i+1)) R))
  (stop: ∀fr h,I vs.length fr h->R .nx fr h):WS c (.fo [x] Qb e b) fr h R:=
 Ux (W.mono q λv h1 q=>by
  refine eqB q.1 ?_;exact ⟨.ls a,vs,xB (hk _ _ _ q.2),hn,I,q.2,λi fr h hI=>wQ (hk _ _ _ hI),λi x hx fr h hI=>mT (step i x hx fr h hI),stop⟩)
theorem Ma {x n:Nat}{e:Ex}{b:List Sm} (hn:n<c.cu) (hl:n<=bh) (I:Nat->Frame->MH->Prop)
  (q:WE c fr e h λv h1=>v= .gf n/\I 0 fr h1)
  (step: ∀i,i<n-> ∀fr h,I i fr h->cz c b (fr.set x (Qa (.int i))) h (L9 (I (i+1)) R))
  (stop: ∀fr h,I n fr h->R .nx fr h):WS c (.fo [x] Qb e b) fr h R:=
 Ux (W.mono q λv h1 q=>by
  obtain ⟨rfl,I0⟩:=q;refine ⟨.rg n,UO n,HO hl,by rw [oP];exact hn,λi fr h=>i<=n/\I i fr h,⟨JJ _,I0⟩,λi fr h hI=>HD hI.1,λi x hx fr h hI=>?_,λfr h hI=>stop fr h (oP (n:=n)▸hI.2)⟩;obtain ⟨hi,rfl⟩:=UN hx;refine mT (W.mono (step i hi fr h hI.2) λp h' q=>?_);obtain ⟨fl,f2⟩:=p;cases fl with
  |nx=>exact ⟨hi,q⟩
  |ct=>exact ⟨hi,q⟩
  |bk=>exact q
  |rt v=>exact q)
def Ol {cond:Frame->MH->Option (Bool×MH)}{b:Frame->MH->SR} (I:Nat->Frame->MH->Prop)
  (step: ∀k fr h,I k fr h->W (cond fr h) λr h1=>Br r (W (b fr h1) λp h'=>L9 (λfr h=> ∃j,j<k/\I j fr h) R p.1 p.2 h') (R .nx fr h1)): ∀ (m k:Nat),k<m-> ∀fr h,I k fr h->W (Wp cond b m fr h) λp h=>R p.1 p.2 h:=by
 intro m
 induction m with
 |zero=>exact λk hk=>absurd hk (Zh _)
 |succ m ih=>
  intro k hk fr h I0;refine aw (W.mono (step k fr h I0) λr h1 q=>?_);cases r with
  |false=>exact ⟨q.2 rfl⟩
  |true=>
   simp only [cond_true];refine aw (W.mono (q.1 rfl) λp h2 q=>?_);obtain ⟨fl,f2⟩:=p;cases fl with
   |nx=>obtain ⟨j,hj,q⟩:=q;exact ih j (Jy hj (Ze hk)) f2 h2 q
   |ct=>obtain ⟨j,hj,q⟩:=q;exact ih j (Jy hj (Ze hk)) f2 h2 q
   |bk=>exact ⟨q⟩
   |rt v=>exact ⟨q⟩
def zbB {t:Ex}{b:List Sm}{k:Nat} (I:Nat->Frame->MH->Prop) (hk:k<c.cu) (I0:I k fr h)
  (step: ∀k fr h,I k fr h->WE c fr t h λv h1=>WT v h1 λr=>Br r (cz c b fr h1 (L9 (λfr h=> ∃j,j<k/\I j fr h) R)) (R .nx fr h1)):WS c (.wh t b) fr h R:=by
 exact Ol I (λk fr h hI=>tB (step k fr h hI)) c.cu k hk fr h I0
def uo (c:Cx) (fr:Frame) (es:List Ex) (h:MH) (Q:Bool->MH->Prop):Prop:=W (LO c es fr h) Q
theorem rO {Q:Bool->MH->Prop} (q:Q Qf h):uo c fr [] h Q:=l8 q
def tA {Q:Bool->MH->Prop}{e:Ex}{r:List Ex} (q:WE c fr e h λv h1=>WT v h1 λb=>Br b (uo c fr r h1 Q) (Q Qb h1)):uo c fr (e::r) h Q:=by
 exact aw (tB (W.mono q λv h1 q=>Wo.mono q λb q=>Gj ⟨q.1,λh=>l8 (q.2 h)⟩))
def HS {next:Nat->MH->Option (Option aa)}{t:aa->MH->Option (Option Frame×MH)}{el:Frame->MH->Option (aa×MH)}{ac:Nat}{R:MH->Prop} (n:Nat) (I:Nat->MH->Prop)
  (step: ∀i,i<n-> ∀h,I i h->Wo (next i h) λov=>Wo ov λv=>W (t v h) λo h1=>(o=Qd->I (i+1) h1)/\∀fr,o=Qa fr->W (el fr h1) λx h2=> ∃vs,h2[ac]?=Qa (.list vs)/\vs.length<bh/\I (i+1) (h2.set ac (.list (vs++ [x]))))
  (stop: ∀h,I n h->Wo (next n h) λov=>ov=Qd/\R h): ∀ (m i fu:Nat),i+m=n->m<fu-> ∀h,I i h->W (compLoop next t el ac fu i h) λ_ h=>R h:=by
 intro m
 induction m with
 |zero=>
  intro i fu hi hf h I0;refine (ZS hf).elim λfu zq6=>?_;obtain rfl:=zq6;subst hi;have q:Wo (next i h) λov=>ov=Qd/\R h:=stop h I0;exact sI (q.mono λov q=>by obtain ⟨rfl,q⟩:=q;exact ⟨q⟩)
 |succ m ih=>
  intro i fu hi hf h I0;refine xE (ZS (Jx (JJ _) hf)) λfu dh=>?_;subst dh;have q:=step i (Jy (Kb (ZV _)) (JM hi)) h I0;refine sI (q.mono λov q=>?_);cases ov with
  |none=>exact q.w.elim
  |some v=>
   have q:W (t v h) λo h1=>(o=Qd->I (i+1) h1)/\∀fr,o=Qa fr->W (el fr h1) λx h2=> ∃vs,h2[ac]?=Qa (.list vs)/\vs.length<bh/\I (i+1) (h2.set ac (.list (vs++ [x]))):=q.w;refine aw (W.mono q λo h1 q=>?_);cases o with
   |none=>exact ih (i+1) _ (by lia) (Z4 hf) h1 (q.1 rfl)
   |some fr=>
    refine aw (W.mono (q.2 fr rfl) λx h2 q=>?_);refine xEAA q λvs e1 e2 q=>?_;rw [e1];show W (au (Zc (vs.length+1) bh) _) _;rw [Zd.mpr e2];exact ih (i+1) _ (by lia) (Z4 hf) _ q
def wC {eu it:Ex}{tg:List Nat}{many:Bool}{ifs:List Ex}
  (q:WE c fr it h λv h1=> ∃k,∃xs:List aa,pF h1 v=Qa k/\xs.length<c.cu/\∃I:Nat->MH->Prop,I 0 (h1++ [.list []])/\(∀i h,I i h->mJ h i k=Qa xs[i]?)/\
   (∀i x,xs[i]?=Qa x-> ∀hh,I i hh->Wo (oX fr tg many x) λfr1=>uo c fr1 ifs hh λb h2=>Br b (WE c fr1 eu h2 λx h3=> ∃vs,h3[h1.length]?=Qa (.list vs)/\vs.length<bh/\I (i+1) (h3.set h1.length (.list (vs++ [x])))) (I (i+1) h2))/\
   ∀hh,I xs.length hh->Q (.ref h1.length) hh):WE c fr (.comp eu tg many it ifs) h Q:=by
 refine aw (W.mono q λv h1 q=>?_);refine q.elim λk zq1=>zq1.elim λxs zq2=>zq2.2.2.elim λI zq3=>?_;simp only [zq2.1];refine aw (f:=λ_ h2=>Qa (aa.ref h1.length,h2)) ?_;refine W.mono (Q:=λ_ h2=>Q (.ref h1.length) h2) ?_ λ_ _ q=>l8 q;refine HS (R:=λh2=>Q (.ref h1.length) h2) xs.length I (λi hi hh hI=>?_) (λhh hI=>?_) xs.length 0 c.cu (Z3 _) zq2.2.1 _ zq3.1
 ·simp only [zq3.2.1 i hh hI,Js hi]
  refine Dm (Dm (sI (Wo.mono (zq3.2.2.1 i _ (Js hi) hh hI) λfr1 q=>aw (W.mono q λb h2 q=>?_))));cases b with
  |true=>exact ⟨nofun,λfr e=>by refine mP e ?_;exact q.1 rfl⟩
  |false=>exact ⟨λ_=>q.2 rfl,nofun⟩
 ·rw [zq3.2.1 _ hh hI,Kr (JA _)]
  exact ⟨rfl,zq3.2.2.2 hh hI⟩
theorem nL {r:List Sm} (q:cz c r fr h R):aF c r R .nx fr h:=q
variable {I:Frame->MH->Prop}
abbrev nn (k:Nat):Frame:=JU k Qd
end
end Internal
namespace Internal
section
variable {c:Cx}{fr:Frame}{h:MH}{Q:aa->MH->Prop}
def qL {α:Type}{vs:List α}{p:α->Bool}{i:Nat}{v:α} (hv:vs[i]?=Qa v):(vs.take (i+1)).filter p=(vs.take i).filter p++(bif p v then [v] else []):=by
 refine (JD.mp hv).elim λhi zq1=>?_;refine eqE zq1 ?_;rw [K6 hi,Xt];cases hb:p vs[i] <;>simp [hb]
def Ft {eu it:Ex}{x:Nat}{ifs:List Ex} (a:Nat) (vs:List aa) (p:aa->Bool) (f:aa->aa) (hf:vs.length<c.cu) (hl:vs.length<=bh)
  (q:WE c fr it h λv h1=>v= .ref a/\h1[a]?=Qa (.list vs)/\
   (∀v,v∈vs-> ∀acc,uo c (fr.set x (Qa v)) ifs (h1++ [.list acc]) λb h2=>h2=h1++ [.list acc]/\b=p v/\(b=Qf->WE c (fr.set x (Qa v)) eu h2 λy h3=>h3=h2/\y=f v))/\Q (.ref h1.length) (h1++ [.list ((vs.filter p).map f)])):WE c fr (.comp eu [x] Qb it ifs) h Q:=by
 refine wC (W.mono q λv h1 q=>?_);refine eqB q.1 ?_;have h1a:=q.2.1;have st:=q.2.2.1;have q:=q.2.2.2;refine ⟨.ls a,vs,xB h1a,hf,λi hh=>hh=h1++ [.list (((vs.take i).filter p).map f)],rfl,?_,?_,?_⟩
 ·rintro i hh rfl;exact wQ (kI h1a)
 ·rintro i v hv hh rfl
  refine mT (W.mono (st v (Ju hv) _) λb h2 q=>?_);obtain rfl:=q.1;obtain rfl:=q.2.1;refine br (λhb=>W.mono (q.2.2 hb) λy h3 q=>?_) λhb=>?_
  ·obtain ⟨rfl,rfl⟩:=q
   refine ⟨_,ap,?_,?_⟩
   ·rw [Jt]
    have h1:=Z9 p (vs.take i);rw [Kx] at h1
    have:=kP hv
    exact Jx h1 (Jx (K2 _ _) (Jy this hl))
   ·rw [rS]
    show _=h1++ [ae.list (((vs.take (i+1)).filter p).map f)];rw [(qL (p:=p) hv),hb,JY];rfl
  ·show _=h1++ [ae.list (((vs.take (i+1)).filter p).map f)]
   rw [(qL (p:=p) hv),hb,cond_false,Zv]
 ·rintro hh rfl
  rw [Zg];exact q
end
end Internal
namespace Internal
section
variable {c:Cx}{fr:Frame}{h:MH}{Q:aa->MH->Prop}
def Mx {s t:List Nat}:mn h (.str s) (.str t)=Qa (s==t):=by
 show Qa (Yg (.str ⟨s.toArray⟩) (.str ⟨t.toArray⟩))=_;have e:Yg (.str ⟨s.toArray⟩) (.str ⟨t.toArray⟩)=((⟨s.toArray⟩:PySem.Str)==⟨t.toArray⟩):=rfl;rw [e];by_cases hs:s=t
 ·refine eqE hs ?_;simp
 ·rw [beq_false_of_ne hs,beq_false_of_ne]
  intro e
  apply hs
  injection e with e;injection e
def wD {a b:Int}:mn h (.int a) (.int b)=Qa (a==b):=by
 rfl
theorem Dk {a:Nat}{vs:List aa} (ha:h[a]?=Qa (.list vs)) (q:Q (.int vs.length) h):WV c (.bi uX) [.ref a] h Q:=Hf (zaD ha) q
theorem Dl {a:Nat}{ep:Option Nat}{es:List (aa×aa)} (ha:h[a]?=Qa (.dict ep es)) (q:Q (.int es.length) h):WV c (.bi uX) [.ref a] h Q:=Hf (zaE ha) q
end
end Internal
namespace Internal
section
variable {c:Cx}{fr:Frame}{h:MH}{Q:aa->MH->Prop}
def zT {eu it:Ex}{x:Nat}{a:Nat}{vs:List aa} (J:MH->List aa->MH->Prop) (hf:vs.length<c.cu) (hl:vs.length<=bh)
  (q:WE c fr it h λv h1=>v= .ref a/\h1[a]?=Qa (.list vs)/\J h1 [] []/\
   (∀ys t v,J h1 ys t->vs[ys.length]?=Qa v->WE c (fr.set x (Qa v)) eu (h1++ .list ys::t) λy h3=> ∃s,h3=h1++ .list ys::(t++s)/\J h1 (ys++ [y]) (t++s))/\
   ∀ys t,ys.length=vs.length->J h1 ys t->Q (.ref h1.length) (h1++ .list ys::t)):WE c fr (.comp eu [x] Qb it []) h Q:=by
 refine wC (W.mono q λv h1 q=>?_);obtain ⟨rfl,h1a,j0,st,q⟩:=q;refine ⟨.ls a,vs,xB h1a,hf,λi hh=> ∃ys t,hh=h1++ .list ys::t/\ys.length=i/\J h1 ys t,⟨[],[],rfl,rfl,j0⟩,?_,?_,?_⟩
 ·rintro i hh ⟨ys,t,rfl,_,_⟩;exact wQ (kI h1a)
 ·rintro i v hv hh ⟨ys,t,rfl,rfl,hy⟩
  refine mT (rO (za1 (W.mono (st ys t v hy hv) λy h3 q=>?_)));obtain ⟨s,rfl,ht⟩:=q;exact ⟨ys,ap,Jy (kP hv) hl,ys++ [y],t++s,rS,by rw [Jz];rfl,ht⟩
 ·rintro hh ⟨ys,t,rfl,hl,hy⟩;exact q ys t hl hy
def m5 (p:Nat->Bool) (n:Nat):List Nat:=(JW n).filter p
def Ud {p:Nat->Bool}{n:Nat}:m5 p (n+1)=m5 p n++(bif p n then [n] else []):=by
 delta m5;simp only [qaj,Xt];cases hb:p n<;>simp [hb]
def wO {p:Nat->Bool}{n:Nat}:(m5 p n).length<=n:=by
 have:=Z9 p (JW n)
 rwa [J9] at this
def bf (l:List Nat):List aa:=l.map λ(k:Nat)=>aa.int (k:Int)
def Gy {it:Ex}{x n:Nat}{ifs:List Ex} (p:Nat->Bool) (J:MH->Prop) (j0:J []) (hf:n<c.cu) (hl:n<=bh)
  (q:WE c fr it h λv h1=>v= .gf n/\(∀i,i<n-> ∀acc t,J t->uo c (fr.set x (Qa (.int i))) ifs (h1++ .list acc::t) λb h2=>(∃s,J s/\h2=h1++ .list acc::s)/\b=p i)/\(∀i:Nat,(fr.set x (Qa (.int (i:Int))))[x]?=Qa (Qa (.int (i:Int))))/\∀t,J t->Q (.ref h1.length) (h1++ .list (bf (m5 p n))::t)):WE c fr (.comp (.var x) [x] Qb it ifs) h Q:=by
 refine wC (W.mono q λv h1 q=>?_);obtain ⟨rfl,st,hx,q⟩:=q;refine ⟨.rg n,UO n,HO hl,by rw [oP];exact hf,λi hh=>i<=n/\∃t,J t/\hh=h1++ .list (bf (m5 p i))::t,⟨JJ _,[],j0,rfl⟩,?_,?_,?_⟩
 ·rintro i hh ⟨hi,_⟩;exact HD hi
 ·rintro i v hv hh ⟨_,t,jt,rfl⟩
  obtain ⟨hi,rfl⟩:=UN hv;refine mT (W.mono (st i hi _ t jt) λb h2 q=>?_);obtain ⟨⟨s,js,rfl⟩,rfl⟩:=q;refine br (λhb=>vK (hx i) ⟨_,ap,?_,hi,s,js,?_⟩) (λhb=>⟨hi,s,js,?_⟩)
  ·delta bf
   rw [Jt]
   have:=wO (p:=p) (n:=i)
   exact Jy (Jx this hi) hl
  ·rw [rS,Ud,hb]
   delta bf;rw [JY];rfl
  ·rw [Ud,hb,cond_false,Zv]
 ·rintro hh ⟨_,t,jt,rfl⟩
  exact oP▸q t jt
theorem Gz {it:Ex}{x n:Nat}{ifs:List Ex} (p:Nat->Bool) (hf:n<c.cu) (hl:n<=bh)
  (q:WE c fr it h λv h1=>v= .gf n/\(∀i,i<n-> ∀acc,uo c (fr.set x (Qa (.int i))) ifs (h1++ [.list acc]) λb h2=>h2=h1++ [.list acc]/\b=p i)/\(∀i:Nat,(fr.set x (Qa (.int (i:Int))))[x]?=Qa (Qa (.int (i:Int))))/\Q (.ref h1.length) (h1++ [.list (bf (m5 p n))])):WE c fr (.comp (.var x) [x] Qb it ifs) h Q:=
 Gy p (· = []) rfl hf hl (W.mono q λv h1 q=>⟨q.1,λi hi acc t e=>by rw [e];exact W.mono (q.2.1 i hi acc) λb h2 q=>⟨⟨[],rfl,q.1⟩,q.2⟩,q.2.2.1,λt e=>e▸q.2.2.2⟩)
end
end Internal
namespace Internal
section
variable {c:Cx}{fr:Frame}{h:MH}{R:Fl->Frame->MH->Prop}{σ:Type}
structure ol (F:σ->Frame) (G:σ->MH) (P:σ->Prop) (fr:Frame) (h:MH):Prop where
 x: ∃s,fr=F s/\h=G s/\P s
theorem ol.of {F:σ->Frame}{G:σ->MH}{P:σ->Prop} (s:σ) (hp:P s):ol F G P (F s) (G s):=⟨s,rfl,rfl,hp⟩
structure To (F:σ->Frame) (G:σ->MH) (P:σ->Prop) (R R':Fl->Frame->MH->Prop):Prop where
 nx: ∀s,P s->R' .nx (F s) (G s)
 ct: ∀s,P s->R' .ct (F s) (G s)
 bk: ∀fr h,R .nx fr h->R' .bk fr h
 rt: ∀v fr h,R (.rt v) fr h->R' (.rt v) fr h
theorem UB {F:σ->Frame}{G:σ->MH}{P:σ->Prop}:To F G P R (L9 (ol F G P) R):=⟨λs hp=>ol.of s hp,λs hp=>ol.of s hp,λ_ _ h=>h,λ_ _ _ h=>h⟩
theorem wA {tg:List Nat}{many:Bool}{a:Nat}{e:Ex}{b:List Sm}{vs:List aa} (F:σ->Frame) (G:σ->MH) (P:Nat->σ->Prop) (hn:vs.length<c.cu) (s0:σ)
  (hk: ∀i s,P i s->(G s)[a]?=Qa (.list vs)) (q:WE c fr e h λv h1=>v= .ref a/\fr=F s0/\h1=G s0/\P 0 s0)
  (step: ∀i v s R',vs[i]?=Qa v->P i s->To F G (P (i+1)) R R'->Wo (oX (F s) tg many v) λfr1=>cz c b fr1 (G s) R')
  (stop: ∀s,P vs.length s->R .nx (F s) (G s)):WS c (.fo tg many e b) fr h R:=
 Ux (W.mono q λv h1 q=>by
  refine eqB q.1 ?_;refine eqB q.2.1 ?_;refine eqB q.2.2.1 ?_;refine ⟨.ls a,vs,xB (hk _ _ q.2.2.2),hn,λi=>ol F G (P i),ol.of s0 q.2.2.2,λi fr h hI=>?_,λi x hx fr h hI=>?_,λfr h hI=>?_⟩
  ·obtain ⟨s,rfl,rfl,hp⟩:=hI.x
   exact wQ (hk i s hp)
  ·refine hI.x.elim λs zq5=>?_
   refine eqB zq5.1 ?_;refine eqB zq5.2.1 ?_;exact step i x s _ hx zq5.2.2 UB
  ·obtain ⟨s,rfl,rfl,hp⟩:=hI.x
   exact stop s hp)
theorem Fj {x n:Nat}{e:Ex}{b:List Sm} (F:σ->Frame) (G:σ->MH) (P:Nat->σ->Prop) (hn:n<c.cu) (hl:n<=bh) (s0:σ)
  (q:WE c fr e h λv h1=>v= .gf n/\fr=F s0/\h1=G s0/\P 0 s0)
  (step: ∀i s R',i<n->P i s->To F G (P (i+1)) R R'->cz c b ((F s).set x (Qa (.int i))) (G s) R')
  (stop: ∀s,P n s->R .nx (F s) (G s)):WS c (.fo [x] Qb e b) fr h R:=
 Ma hn hl (λi=>ol F G (P i)) (W.mono q λv h1 q=>⟨q.1,by rw [q.2.1,q.2.2.1];exact ol.of s0 q.2.2.2⟩) (λi hi fr h hI=>by
  obtain ⟨s,rfl,rfl,hp⟩:=hI.x;exact step i s _ hi hp UB) λfr h hI=>by
  obtain ⟨s,rfl,rfl,hp⟩:=hI.x;exact stop s hp
def Ru {t:Ex}{b:List Sm}{k:Nat} (F:σ->Frame) (G:σ->MH) (P:Nat->σ->Prop) (hk:k<c.cu) (s0:σ) (e1:fr=F s0) (e2:h=G s0) (I0:P k s0)
  (step: ∀k s R',P k s->To F G (λs=> ∃j,j<k/\P j s) R R'->WE c (F s) t (G s) λv h1=>WT v h1 λr=>Br r (cz c b (F s) h1 R') (R .nx (F s) h1)):WS c (.wh t b) fr h R:=by
 subst e1;subst e2;refine zbB (λk=>ol F G (P k)) hk (ol.of s0 I0) λk fr h hI=>?_;refine hI.x.elim λs zq1=>?_;refine eqB zq1.1 ?_;refine eqB zq1.2.1 ?_;have hp:=zq1.2.2;exact step k s _ hp ⟨λs hp=>⟨hp.choose,hp.choose_spec.1,ol.of s hp.choose_spec.2⟩,λs hp=>⟨hp.choose,hp.choose_spec.1,ol.of s hp.choose_spec.2⟩,λ_ _ h=>h,λ_ _ _ h=>h⟩
end
end Internal
namespace Internal
set_option genCtorIdx false in
inductive Hs where
 |nil
 |c (t:Hs)
 |v (v:aa) (t:Hs)
 |p (v:aa) (h:MH) (t:Hs)
 |h (h:MH) (t:Hs)
 |b (b:Bool) (t:Hs)
 |br (x y:Hs)
 |s (fl:Fl) (fr:Frame) (h:MH) (t:Hs)
 |l (vs:List aa) (t:Hs)
structure lK {α:Type} (a:α):Prop where
 f:False
def rj {α:Type} (o:Option α) (k:α->Prop):Prop:=JF (motive:=λ_=>Prop) o (lK o) k
section
variable {α:Type} (o:Option α) (hs:Hs)
def O9 (o:Option aa) (hs:Hs) (k:aa->Hs->Prop):Prop:=
 Hs.casesOn (motive:=λ_=>Prop) hs (lK o) (λt=>rj o λv=>k v t) (λv t=>o=Qa v/\k v t) (λ_ _ _=>lK o) (λ_ _=>lK o) (λ_ _=>lK o) (λ_ _=>lK o) (λ_ _ _ _=>lK o) (λ_ _=>lK o)
def L5 (o:Option (aa×MH)) (hs:Hs) (k:aa->MH->Hs->Prop):Prop:=
 Hs.casesOn (motive:=λ_=>Prop) hs (lK o) (λt=>rj o λv=>k v.1 v.2 t) (λ_ _=>lK o) (λv h t=>o=Qa (v,h)/\k v h t) (λ_ _=>lK o) (λ_ _=>lK o) (λ_ _=>lK o) (λ_ _ _ _=>lK o) (λ_ _=>lK o)
def Pb (o:Option MH) (hs:Hs) (k:MH->Hs->Prop):Prop:=
 Hs.casesOn (motive:=λ_=>Prop) hs (lK o) (λt=>rj o λv=>k v t) (λ_ _=>lK o) (λ_ _ _=>lK o) (λh t=>o=Qa h/\k h t) (λ_ _=>lK o) (λ_ _=>lK o) (λ_ _ _ _=>lK o) (λ_ _=>lK o)
def De (o:Option Bool) (hs:Hs) (k:Bool->Hs->Prop):Prop:=
 Hs.casesOn (motive:=λ_=>Prop) hs (lK o) (λt=>rj o λv=>k v t) (λ_ _=>lK o) (λ_ _ _=>lK o) (λ_ _=>lK o) (λb t=>o=Qa b/\k b t) (λx y=>rj o λr=>(r=Qf->k Qf x)/\(r=Qb->k Qb y)) (λ_ _ _ _=>lK o) (λ_ _=>lK o)
def Pa (o:SR) (hs:Hs) (k:Fl->Frame->MH->Hs->Prop):Prop:=
 Hs.casesOn (motive:=λ_=>Prop) hs (lK o) (λt=>rj o λv=>k v.1.1 v.1.2 v.2 t) (λ_ _=>lK o) (λ_ _ _=>lK o) (λ_ _=>lK o) (λ_ _=>lK o) (λ_ _=>lK o) (λfl fr h t=>o=Qa ((fl,fr),h)/\k fl fr h t) (λ_ _=>lK o)
def zdy (o:Option (List aa)) (hs:Hs) (k:List aa->Hs->Prop):Prop:=
 Hs.casesOn (motive:=λ_=>Prop) hs (lK o) (λt=>rj o λv=>k v t) (λ_ _=>lK o) (λ_ _ _=>lK o) (λ_ _=>lK o) (λ_ _=>lK o) (λ_ _=>lK o) (λ_ _ _ _=>lK o) (λvs t=>o=Qa vs/\k vs t)
end
def vA {α:Type}{o:Option α}{k:α->Prop} (q:rj o k): ∃v,o=Qa v/\k v:=by
 cases o with
 |none=>exact q.f.elim
 |some v=>exact ⟨v,rfl,q⟩
def za7 {o:Option aa}{hs:Hs}{k:aa->Hs->Prop} (q:O9 o hs k): ∃v t,o=Qa v/\k v t:=by
 cases hs with
 |c t=>exact (vA q).elim λv q=>⟨v,t,q⟩
 |v v t=>exact ⟨v,t,q⟩
 |_=>exact q.f.elim
def za9 {o:Option (aa×MH)}{hs:Hs}{k:aa->MH->Hs->Prop} (q:L5 o hs k): ∃v h t,o=Qa (v,h)/\k v h t:=by
 cases hs with
 |c t=>exact (vA q).elim λv q=>⟨v.1,v.2,t,q⟩
 |p v h t=>exact ⟨v,h,t,q⟩
 |_=>exact q.f.elim
def zbb {o:Option MH}{hs:Hs}{k:MH->Hs->Prop} (q:Pb o hs k): ∃h t,o=Qa h/\k h t:=by
 cases hs with
 |c t=>exact (vA q).elim λv q=>⟨v,t,q⟩
 |h h t=>exact ⟨h,t,q⟩
 |_=>exact q.f.elim
def zbc {o:Option Bool}{hs:Hs}{k:Bool->Hs->Prop} (q:De o hs k): ∃b t,o=Qa b/\k b t:=by
 cases hs with
 |c t=>exact (vA q).elim λv q=>⟨v,t,q⟩
 |b b t=>exact ⟨b,t,q⟩
 |br x y=>
  refine (vA q).elim λr q=>⟨r,cond r x y,q.1,?_⟩;cases r with
  |true=>exact q.2.1 rfl
  |false=>exact q.2.2 rfl
 |_=>exact q.f.elim
def za8 {o:SR}{hs:Hs}{k:Fl->Frame->MH->Hs->Prop} (q:Pa o hs k): ∃fl fr h t,o=Qa ((fl,fr),h)/\k fl fr h t:=by
 cases hs with
 |c t=>exact (vA q).elim λv q=>⟨v.1.1,v.1.2,v.2,t,q⟩
 |s fl fr h t=>exact ⟨fl,fr,h,t,q⟩
 |_=>exact q.f.elim
def zba {o:Option (List aa)}{hs:Hs}{k:List aa->Hs->Prop} (q:zdy o hs k): ∃vs t,o=Qa vs/\k vs t:=by
 cases hs with
 |c t=>exact (vA q).elim λv q=>⟨v,t,q⟩
 |l vs t=>exact ⟨vs,t,q⟩
 |_=>exact q.f.elim
mutual
noncomputable def mM (c:Cx):Ex->Frame->MH->Hs->(aa->MH->Hs->Prop) ->Prop
 | .var x,fr,h,hs,K=>rj fr[x]? λo=>rj o λv=>K v h hs
 | .lit v,_,h,hs,K=>K v h hs
 | .list es,fr,h,hs,K=>tQ c es fr h hs λvs h1 hs=>K (.ref h1.length) (h1++ [.list vs]) hs
 | .az es,fr,h,hs,K=>tQ c es fr h hs λvs h1 hs=>K (.az vs) h1 hs
 | .dict es,fr,h,hs,K=>tQ c es fr h hs λl h1 hs=>L5 ((yD l []).bind λps=>au (Zc es.length 30) (lZ h1 (.dict (Qa ps.length) ps))) hs K
 | .bj op a b,fr,h,hs,K=>mM c a fr h hs λx h1 hs=>mM c b fr h1 hs λy h2 hs=>L5 (pJ op x y h2) hs K
 | .not a,fr,h,hs,K=>mM c a fr h hs λx h1 hs=>De (truthy h1 x) hs λb hs=>K (.bool (!b)) h1 hs
 | .ba op a b,fr,h,hs,K=>mM c a fr h hs λx h1 hs=>mM c b fr h1 hs λy h2 hs=>De (nG op x y h2) hs λr hs=>K (.bool r) h2 hs
 | .gy stop es,fr,h,hs,K=>HR c stop es fr h hs K
 | .ite t a b,fr,h,hs,K=>mM c t fr h hs λx h1 hs=>De (truthy h1 x) hs λr hs=>bif r then mM c a fr h1 hs K else mM c b fr h1 hs K
 | .af e n,fr,h,hs,K=>mM c e fr h hs λo h1 hs=>O9 (getAttr c.P h1 o n) hs λv hs=>K v h1 hs
 | .sub e i,fr,h,hs,K=>mM c e fr h hs λo h1 hs=>mM c i fr h1 hs λk h2 hs=>O9 (l9 h2 o k) hs λv hs=>K v h2 hs
 | .slice e k bs,fr,h,hs,K=>mM c e fr h hs λo h1 hs=>tQ c bs fr h1 hs λvs h2 hs=>L5 (slice h2 o k vs) hs K
 | .call f as,fr,h,hs,K=>mM c f fr h hs λg h1 hs=>tQ c as fr h1 hs λvs h2 hs=>L5 (kT c g vs h2) hs K
 | .ao o n as,fr,h,hs,K=>mM c o fr h hs λg h1 hs=>tQ c as fr h1 hs λvs h2 hs=>L5 (l5 c g n vs h1 h2) hs K
 | .comp eu tg many it ifs,fr,h,hs,K=>L5 (eval c (.comp eu tg many it ifs) fr h) hs K
noncomputable def tQ (c:Cx):List Ex->Frame->MH->Hs->(List aa->MH->Hs->Prop) ->Prop
 | [],_,h,hs,K=>K [] h hs
 |e::r,fr,h,hs,K=>mM c e fr h hs λv h1 hs=>tQ c r fr h1 hs λvs h2 hs=>K (v::vs) h2 hs
noncomputable def HR (c:Cx) (stop:Bool):List Ex->Frame->MH->Hs->(aa->MH->Hs->Prop) ->Prop
 | [],_,_,_,_=>False
 |e::r,fr,h,hs,K=>mM c e fr h hs λv h1 hs=>bif r.isEmpty then K v h1 hs else De (truthy h1 v) hs λb hs=>bif b==stop then K v h1 hs else HR c stop r fr h1 hs K
end
def Hp (c:Cx) (fr:Frame) (h:MH) (v:aa) (hs:Hs) (K:Frame->MH->Hs->Prop):T1->Prop
 | .nm x=>K (fr.set x (Qa v)) h hs
 | .at o n=>mM c o fr h hs λov h1 hs=>Pb (setAttr c.P h1 ov n v) hs λh2 hs=>K fr h2 hs
 | .sb o i=>mM c o fr h hs λov h1 hs=>mM c i fr h1 hs λiv h2 hs=>Pb (oC h2 ov iv v) hs λh3 hs=>K fr h3 hs
def UD (c:Cx):List T1->List aa->Frame->MH->Hs->(Frame->MH->Hs->Prop) ->Prop
 | [],vs,fr,h,hs,K=>bif vs.isEmpty then K fr h hs else False
 |t::ts,vs,fr,h,hs,K=>rj vs.head? λv=>Hp c fr h v hs (λfr' h' hs=>UD c ts vs.tail fr' h' hs K) t
mutual
noncomputable def P4 (c:Cx):Sm->Frame->MH->Hs->(Fl->Frame->MH->Hs->Prop) ->Prop
 | .expr e,fr,h,hs,K=>mM c e fr h hs λ_ h1 hs=>K .nx fr h1 hs
 | .bg t e,fr,h,hs,K=>mM c e fr h hs λv h1 hs=>Hp c fr h1 v hs (λfr' h2 hs=>K .nx fr' h2 hs) t
 | .jn ts e,fr,h,hs,K=>mM c e fr h hs λv h1 hs=>zdy (items h1 v) hs λvs hs=>UD c ts vs fr h1 hs λfr' h2 hs=>K .nx fr' h2 hs
 | .ret e,fr,h,hs,K=>mM c e fr h hs λv h1 hs=>K (.rt v) fr h1 hs
 | .ite t a b,fr,h,hs,K=>mM c t fr h hs λx h1 hs=>De (truthy h1 x) hs λr hs=>bif r then WR c a fr h1 hs K else WR c b fr h1 hs K
 | .wh t b,fr,h,hs,K=>Pa (exec c (.wh t b) fr h) hs K
 | .fo tg many e b,fr,h,hs,K=>Pa (exec c (.fo tg many e b) fr h) hs K
 | .brk,fr,h,hs,K=>K .bk fr h hs
 | .cont,fr,h,hs,K=>K .ct fr h hs
 | .ub,fr,h,hs,K=>K .nx fr h hs
 | .cf,_,_,_,_=>False
 | .bZ _,_,_,_,_=>False
 | .tr _ _ _ _,_,_,_,_=>False
noncomputable def WR (c:Cx):List Sm->Frame->MH->Hs->(Fl->Frame->MH->Hs->Prop) ->Prop
 | [],fr,h,hs,K=>K .nx fr h hs
 |s::r,fr,h,hs,K=>P4 c s fr h hs λfl fr1 h1 hs=>Fl.casesOn (motive:=λ_=>Prop) fl (WR c r fr1 h1 hs K) (K fl fr1 h1 hs) (K fl fr1 h1 hs) (λ_=>K fl fr1 h1 hs)
end
abbrev Ev {α:Type} (K:α->MH->Hs->Prop) (v:α) (h:MH):Prop:= ∃t,K v h t
theorem yJ {o:Option (aa×MH)}{hs:Hs}{k:aa->MH->Hs->Prop} (q:L5 o hs k):W o (Ev k):=let ⟨_,_,t,e,q⟩:=za9 q; .of e ⟨t,q⟩
theorem Iq {o:Option aa}{hs:Hs}{k:aa->Hs->Prop} (q:O9 o hs k):Wo o λv=> ∃t,k v t:=let ⟨_,t,e,q⟩:=za7 q; .of e ⟨t,q⟩
theorem Iu {o:Option MH}{hs:Hs}{k:MH->Hs->Prop} (q:Pb o hs k):Wo o λv=> ∃t,k v t:=let ⟨_,t,e,q⟩:=zbb q; .of e ⟨t,q⟩
theorem Vi {o:Option Bool}{hs:Hs}{k:Bool->Hs->Prop} (q:De o hs k):Wo o λv=> ∃t,k v t:=let ⟨_,t,e,q⟩:=zbc q; .of e ⟨t,q⟩
def za2 {r:Bool}{A B A' B':Prop} (a:A->A') (b:B->B') (q:cond r A B):Br r A' B':=by
 cases r with
 |true=>exact za1 (a q)
 |false=>exact zgj (b q)
structure HE (c:Cx) (e:Ex):Prop where
 o: ∀ {fr h hs K},mM c e fr h hs K->W (eval c e fr h) (Ev K)
structure kF (c:Cx) (es:List Ex):Prop where
 o: ∀ {fr h hs K},tQ c es fr h hs K->W (rD c es fr h) (Ev K)
 b: ∀ {stop fr h hs K},HR c stop es fr h hs K->WE c fr (.gy stop es) h (Ev K)
section
variable {c:Cx}
def pT (e:Ex):HE c e:=by
 refine Ex.rec (motive_1:=HE c) (motive_2:=kF c) ?_ ?_ ?_ ?_ ?_ ?_ ?_ ?_ ?_ ?_ ?_ ?_ ?_ ?_ ?_ ?_ ?_ ?_ e
 ·exact λx=>⟨λq=>let ⟨o,e1,q⟩:=vA q;let ⟨v,e2,q⟩:=vA q;vK (e1.trans (congrArg Qa e2)) ⟨_,q⟩⟩
 ·exact λv=>⟨λq=>Fq ⟨_,q⟩⟩
 ·exact λes i=>⟨λq=>Dp ((i.o q).mono λ_ _ q=>q)⟩
 ·exact λes i=>⟨λq=>Rz ((i.o q).mono λ_ _ q=>q)⟩
 ·exact λes i=>⟨λq=>aw ((i.o q).mono λ_ _ q=>q.elim λ_ q=>yJ q)⟩
 ·exact λop a b i j=>⟨λq=>RF ((i.o q).mono λ_ _ q=>q.elim λ_ q=>(j.o q).mono λ_ _ q=>q.elim λ_ q=>yJ q)⟩
 ·exact λa i=>⟨λq=>RB ((i.o q).mono λ_ _ q=>q.elim λ_ q=>Vi q)⟩
 ·exact λop a b i j=>⟨λq=>RD ((i.o q).mono λ_ _ q=>q.elim λ_ q=>(j.o q).mono λ_ _ q=>q.elim λ_ q=>Vi q)⟩
 ·exact λst es i=>⟨λq=>i.b q⟩
 ·exact λt a b i j k=>⟨λq=>RC ((i.o q).mono λ_ _ q=>q.elim λ_ q=>(Vi q).mono λr q=>q.elim λ_ q=>za2 j.o k.o q)⟩
 ·exact λa n i=>⟨λq=>Mp ((i.o q).mono λ_ _ q=>q.elim λ_ q=>Iq q)⟩
 ·exact λa b i j=>⟨λq=>RA ((i.o q).mono λ_ _ q=>q.elim λ_ q=>(j.o q).mono λ_ _ q=>q.elim λ_ q=>Iq q)⟩
 ·exact λa k bs i j=>⟨λq=>Fp ((i.o q).mono λ_ _ q=>q.elim λ_ q=>(j.o q).mono λ_ _ q=>q.elim λ_ q=>yJ q)⟩
 ·exact λf as i j=>⟨λq=>Mn ((i.o q).mono λ_ _ q=>q.elim λ_ q=>(j.o q).mono λ_ _ q=>q.elim λ_ q=>yJ q)⟩
 ·exact λo n as i j=>⟨λq=>Mm ((i.o q).mono λ_ _ q=>q.elim λ_ q=>(j.o q).mono λ_ _ q=>q.elim λ_ q=>yJ q)⟩
 ·exact λeu tg many it ifs _ _ _=>⟨λq=>yJ q⟩
 ·exact ⟨λq=>Do ⟨_,q⟩,λq=>q.elim⟩
 ·refine λe r i j=>⟨λq=>Fo ((i.o q).mono λ_ _ q=>q.elim λ_ q=>(j.o q).mono λ_ _ q=>q),λ{st fr h hs K} q=>?_⟩
  cases r with
  |nil=>exact Mo (i.o q)
  |cons f r=>exact RE ((i.o q).mono λ_ _ q=>q.elim λ_ q=>(Vi q).mono λb q=>q.elim λ_ q=>za2 (λq=>⟨_,q⟩) j.b q)
def GK {fr:Frame}{h:MH}{v:aa}{hs:Hs}{K:Frame->MH->Hs->Prop}{t:T1} (q:Hp c fr h v hs K t):W (GL c fr h v t) (Ev K):=by
 cases t with
 |nm x=>exact l8 (a:=fr.set x (Qa v)) ⟨_,q⟩
 | «at» o n=>
  show W (cb (eval c o fr h) λov h1=>(setAttr c.P h1 ov n v).map λh2=>(fr,h2)) _;exact aw (((pT o).o q).mono λov h1 q=>q.elim λ_ q=>V3 (f:=λh2=>(fr,h2)) (Iu q))
 |sb o i=>
  show W (cb (eval c o fr h) λov h1=>cb (eval c i fr h1) λiv h2=>(oC h2 ov iv v).map λh3=>(fr,h3)) _;exact aw (((pT o).o q).mono λov h1 q=>q.elim λ_ q=>aw (((pT i).o q).mono λiv h2 q=>q.elim λ_ q=>V3 (f:=λh2=>(fr,h2)) (Iu q)))
def AM {ts:List T1}: ∀ {vs:List aa}{fr:Frame}{h:MH}{hs:Hs}{K:Frame->MH->Hs->Prop} (q:UD c ts vs fr h hs K),fW c ts vs fr h (Ev K):=by
 induction ts with
 |nil=>
  intro vs fr h hs K q;cases vs with
  |nil=>exact l8 (a:=fr) ⟨_,q⟩
  |cons _ _=>exact q.elim
 |cons t ts i=>
  intro vs fr h hs K q;refine (vA q).elim λv zq2=>?_;have q:=zq2.2;exact sI (Wo.of zq2.1 (aw ((GK q).mono λ_ _ q=>q.elim λ_ q=>i q)))
abbrev Ex' (K:Fl->Frame->MH->Hs->Prop) (fl:Fl) (fr:Frame) (h:MH):Prop:= ∃t,K fl fr h t
structure HX (c:Cx) (s:Sm):Prop where
 o: ∀ {fr h hs K},P4 c s fr h hs K->WS c s fr h (Ex' K)
structure gC (c:Cx) (s:List Sm):Prop where
 o: ∀ {fr h hs K},WR c s fr h hs K->cz c s fr h (Ex' K)
theorem Ir {o:SR}{hs:Hs}{k:Fl->Frame->MH->Hs->Prop} (q:Pa o hs k):W o λp h=>Ex' k p.1 p.2 h:=let ⟨_,_,_,t,e,q⟩:=za8 q; .of e ⟨t,q⟩
def Mg {t:T1}{e:Ex}{fr:Frame}{h:MH}{R:Fl->Frame->MH->Prop} (q:WE c fr e h λv h1=>W (GL c fr h1 v t) λf2 h2=>R .nx f2 h2):WS c (.bg t e) fr h R:=by
 exact aw (W.mono q λv h1 q=>aw (W.mono q λ_ _ q=>⟨q⟩))
def CV (s:List Sm):gC c s:=by
 refine Sm.rec_1 (motive_1:=HX c) (motive_2:=gC c) ?_ ?_ ?_ ?_ ?_ ?_ ?_ ?_ ?_ ?_ ?_ ?_ ?_ ?_ ?_ s
 ·exact λe=>⟨λq=>Md ((pT e).o q)⟩
 ·exact λt e=>⟨λq=>Mg (((pT e).o q).mono λ_ _ q=>q.elim λ_ q=>GK q)⟩
 ·exact λts e=>⟨λq=>Mf (((pT e).o q).mono λ_ _ q=>q.elim λ_ q=>let ⟨_,_,e2,q⟩:=zba q; .of e2 (AM q))⟩
 ·exact λe=>⟨λq=>Rv ((pT e).o q)⟩
 ·exact λt a b j k=>⟨λq=>Rw (((pT t).o q).mono λ_ _ q=>q.elim λ_ q=>(Vi q).mono λr q=>q.elim λ_ q=>za2 j.o k.o q)⟩
 ·exact λt b _=>⟨λq=>Ir q⟩
 ·exact λtg many e b _=>⟨λq=>Ir q⟩
 ·exact ⟨λq=>Rx ⟨_,q⟩⟩
 ·exact ⟨λq=>Me ⟨_,q⟩⟩
 ·exact ⟨λq=>I9 ⟨_,q⟩⟩
 ·exact ⟨λq=>q.elim⟩
 ·exact λ_=>⟨λq=>q.elim⟩
 ·exact λ_ _ _ _=>⟨λq=>q.elim⟩
 ·exact ⟨λq=>I8 ⟨_,q⟩⟩
 ·exact λs r i j=>⟨λq=>Fi ((i.o q).mono λp _ q=>by
   obtain ⟨fl,fr⟩:=p;obtain ⟨t,q⟩:=q;cases fl with
   |nx=>exact j.o q
   |bk=>exact ⟨_,q⟩
   |ct=>exact ⟨_,q⟩
   |rt v=>exact ⟨_,q⟩)⟩
end
structure S (h:MH) (hs:Hs) (p:Prop):Prop where
 o:p
section
variable {g g':MH}{hs ht:Hs}{pr pq:Prop}
theorem S.z (f:pr):S g .nil pr:=⟨f⟩
theorem S.at (g':MH) (r:S g' hs pr):S g hs pr:=⟨r.o⟩
theorem S.c (r:S g hs pr):S g (.c hs) pr:=⟨r.o⟩
theorem S.c2 (r:S g hs pr):S g (.c (.c hs)) pr:=⟨r.o⟩
theorem S.c3 (r:S g hs pr):S g (.c (.c (.c hs))) pr:=⟨r.o⟩
theorem S.c4 (r:S g hs pr):S g (.c (.c (.c (.c hs)))) pr:=⟨r.o⟩
theorem S.v {o:Option aa}{v:aa} (f:o=Qa v) (r:S g hs pr):S g (.v v hs) (o=Qa v/\pr):=⟨f,r.o⟩
theorem S.w {o:MH->Option aa}{v:aa} (f: ∀h,o h=Qa v) (r:S g hs pr):S g (.v v hs) (o g=Qa v/\pr):=⟨f g,r.o⟩
theorem S.p {o:Option (aa×MH)}{v:aa} (f:o=Qa (v,g')) (r:S g' hs pr):S g (.p v g' hs) (o=Qa (v,g')/\pr):=⟨f,r.o⟩
theorem S.q {o:MH->Option (aa×MH)}{v:aa} (f: ∀h,o h=Qa (v,h)) (r:S g hs pr):S g (.p v g hs) (o g=Qa (v,g)/\pr):=⟨f g,r.o⟩
theorem S.h {o:Option MH} (f:o=Qa g') (r:S g' hs pr):S g (.h g' hs) (o=Qa g'/\pr):=⟨f,r.o⟩
theorem S.b {o:Option Bool}{b:Bool} (f:o=Qa b) (r:S g hs pr):S g (.b b hs) (o=Qa b/\pr):=⟨f,r.o⟩
theorem S.k {o:MH->Option Bool}{b:Bool} (f: ∀h,o h=Qa b) (r:S g hs pr):S g (.b b hs) (o g=Qa b/\pr):=⟨f g,r.o⟩
theorem S.t {x:Bool} (f:x=Qf) (r:S g hs pr):S g (.b Qf hs) (Qa x=Qa Qf/\pr):=⟨congrArg Qa f,r.o⟩
theorem S.f {x:Bool} (f:x=Qb) (r:S g hs pr):S g (.b Qb hs) (Qa x=Qa Qb/\pr):=⟨congrArg Qa f,r.o⟩
theorem S.br (x:Bool) (f:x=Qf->S g hs pr) (h:x=Qb->S g ht pq):S g (.br hs ht) ((x=Qf->pr)/\(x=Qb->pq)):=⟨λe=>(f e).o,λe=>(h e).o⟩
theorem S.s {o:SR}{fl:Fl}{fr:Frame} (f:o=Qa ((fl,fr),g')) (r:S g' hs pr):S g (.s fl fr g' hs) (o=Qa ((fl,fr),g')/\pr):=⟨f,r.o⟩
end
section
variable {b:List Sm}{fr:Frame}{h:MH}{hs:Hs}{R:Fl->Frame->MH->Prop}{p:Prop}{P:ij}{d:Nat}{Q:aa->MH->Prop}
def lJ {c:Cx} (s:S h hs p) (e:WR c b fr h hs (λfl fr h _=>R fl fr h)=p):cz c b fr h R:=by
 exact ((CV b).o (e▸s.o)).mono λ_ _ q=>q.elim λ_ q=>q
end
end Internal
namespace Internal
section
variable {P:ij}{c:Cx}{h:MH}{α:Type}
theorem W.eq {o:Option (α×MH)}{v:α}{g:MH} (w:W o λa b=>a=v/\b=g):o=Qa (v,g):=let ⟨_,_,e,q⟩:=w.get;by obtain ⟨rfl,rfl⟩:=q;exact e
def Wo.eq {o:Option α}{v:α} (w:Wo o λa=>a=v):o=Qa v:=by
 cases o with
 |none=>exact w.w.elim
 |some p=>exact congrArg Qa w.w
theorem ga {a k n:Nat}{fs:List (Nat×aa)}{v:aa} (ha:h[a]?=Qa (.inst k fs)) (hv:vV fs n=Qa v) (hf:P.du k n=Qf):getAttr P h (.ref a) n=Qa v:=Wo.eq (RI ha hv hf (Q:=λa _=>a=v) rfl)
theorem sl {a i:Nat}{vs:List aa}{v:aa} (ha:h[a]?=Qa (.list vs)) (hv:vs[i]?=Qa v):l9 h (.ref a) (.int i)=Qa v:=Wo.eq (Mj ha hv (Q:=λa _=>a=v) rfl)
theorem sd {a:Nat}{ep:Option Nat}{es:List (aa×aa)}{k v:aa} (ha:h[a]?=Qa (.dict ep es)) (hf:kX es k=Qf) (hv:kY es k=Qa v):l9 h (.ref a) k=Qa v:=Wo.eq (Ml ha hf hv (Q:=λa _=>a=v) rfl)
theorem Sb {a i:Nat}{vs:List aa}{v:aa} (ha:h[a]?=Qa (.list vs)) (hi:i<vs.length):oC h (.ref a) (.int i) v=Qa (h.set a (.list (vs.set i v))):=Wo.eq (Bg ha hi rfl)
theorem AO {a:Nat}{ep:Option Nat}{es:List (aa×aa)}{k v:aa} (ha:h[a]?=Qa (.dict ep es)) (hf:kX es k=Qf) (hl:es.length<bh):oC h (.ref a) k v=Qa (h.set a (.dict (bif (kY es k).isSome then ep else ep.map (· +1)) (oF es k v))):=Wo.eq (Bh ha hf hl rfl)
theorem AP {a k n:Nat}{fs:List (Nat×aa)}{v:aa} (ha:h[a]?=Qa (.inst k fs)) (hf:P.du k n=Qf) (hl:fs.length<400):setAttr P h (.ref a) n v=Qa (h.set a (.inst k (Wx fs n v))):=Wo.eq (A8 ha hf hl rfl)
theorem ya (s t:List Nat) (h:MH):mn h (.str s) (.str t)=Qa (s==t):=Mx
theorem ug (s t:Int) (h:MH):mn h (.int s) (.int t)=Qa (s==t):=wD
def di {a b:aa}{r:Bool} (e:mn h a b=Qa r):nG .ne a b h=Qa (!r):=by
 show (mn h a b).map _=_;rw [e];rfl
def PP {a b:aa}{r:Bool} (e:U2 h a b=Qa r):nG .fy a b h=Qa (!r):=by
 show (U2 h a b).map _=_;rw [e];rfl
theorem fn {d a:Nat}{as:List aa}{v:aa}{g:MH} (hc:P.fz a=Qd) (w:WF P d a as h λx y=>x=v/\y=g):kT (aj P d) (.ah a) as h=Qa (v,g):=W.eq (nX hc w)
theorem me {d n f:Nat}{o:aa}{self as:List aa}{h0:MH}{v:aa}{g:MH} (hg:nU P h0 o n=Qa (f,self)) (w:WF P d f (self++as) h λx y=>x=v/\y=g):l5 (aj P d) o n as h0 h=Qa (v,g):=W.eq (lL hg w)
def zd5 {s:List Nat}{n:Nat}{bs:List aa}{p:Nat×Nat} (e:W6 s.length n bs=Qa p):slice h (.str s) n bs=Qa (.str (oh s p.1 p.2),h):=by
 show (W6 s.length n bs).bind _=_;rw [e];rfl
theorem lR {e:Ex}{fr:Frame}{hs:Hs}{Q:aa->MH->Prop}{p:Prop} (s:S h hs p) (q:mM c e fr h hs (λv h _=>Q v h)=p):WE c fr e h Q:=((pT e).o (q▸s.o)).mono λ_ _ q=>q.elim λ_ q=>q
theorem cv (v:aa) (g:MH):v=v/\g=g:=⟨rfl,rfl⟩
def pa {σ:Type}{x n:Nat}{e:Ex}{b:List Sm} (F:σ->Frame) (G:σ->MH) (P:Nat->σ->Prop) (s0:σ) (hn:n<=100000) (hc:c.cu=200000)
  (e0:WE c (F s0) e (G s0) λv g=>v= .gf n/\g=G s0) (p0:P 0 s0)
  (step: ∀i s R' R,i<n->P i s->To F G (P (i+1)) R R'->cz c b ((F s).set x (Qa (.int i))) (G s) R'): ∃s,P n s/\exec c (.fo [x] Qb e b) (F s0) (G s0)=Qa ((.nx,F s),G s):=by
 have w:WS c (.fo [x] Qb e b) (F s0) (G s0) λfl f g=> ∃s,P n s/\fl= .nx/\f=F s/\g=G s:=
  Fj F G P (by rw [hc];exact Jy (JX hn) (JE _ _)) (by show n<=1000000;exact Jq hn (JE _ _)) s0 (e0.mono λv g q=>⟨q.1,rfl,q.2,p0⟩) (λi s R' hi hp T=>step i s R' _ hi hp T) λs hp=>⟨s,hp,rfl,rfl,rfl⟩
 obtain ⟨⟨fl,f⟩,g,e,s,hp,q1,q2,q3⟩:=W.get w;refine eqE q1 ?_;subst q2;subst q3;exact ⟨s,hp,e⟩
def sg {σ:Type}{tg:List Nat}{many:Bool}{a:Nat}{e:Ex}{b:List Sm}{vs:List aa} (F:σ->Frame) (G:σ->MH) (P:Nat->σ->Prop) (s0:σ) (hn:vs.length<=100000) (hc:c.cu=200000)
  (hk: ∀i s,P i s->(G s)[a]?=Qa (.list vs)) (e0:WE c (F s0) e (G s0) λv g=>v= .ref a/\g=G s0) (p0:P 0 s0)
  (step: ∀i v s R' R,vs[i]?=Qa v->P i s->To F G (P (i+1)) R R'->Wo (oX (F s) tg many v) λfr1=>cz c b fr1 (G s) R'): ∃s,P vs.length s/\exec c (.fo tg many e b) (F s0) (G s0)=Qa ((.nx,F s),G s):=by
 have w:WS c (.fo tg many e b) (F s0) (G s0) λfl f g=> ∃s,P vs.length s/\fl= .nx/\f=F s/\g=G s:=
  wA F G P (by rw [hc];exact Jy (JX hn) (JE _ _)) s0 hk (e0.mono λv g q=>⟨q.1,rfl,q.2,p0⟩) (λi v s R' hi hp T=>step i v s R' _ hi hp T) λs hp=>⟨s,hp,rfl,rfl,rfl⟩
 obtain ⟨⟨fl,f⟩,g,e,s,hp,q1,q2,q3⟩:=W.get w;refine eqE q1 ?_;subst q2;subst q3;exact ⟨s,hp,e⟩
def zdo (P:ij) (a:Nat) (as:List aa):Option (List Sm×Frame):=(P.kx a).bind λf=>(vZ f as).map λvs=>(f.body,sC f vs)
def l0 {d K f:Nat}{as:List aa}{Q:aa->MH->Prop} (hd:K+1<=d) (fr:Frame) (bd:List Sm) (e:zdo P f as=Qa (bd,fr)) (q: ∀d',K<=d'->cz (aj P d') bd fr h (Fin Q)):WF P d f as h Q:=by
 refine xEA (XT.mp e) λfn e1 e=>?_;refine xEA (Zl.mp e) λvs e2 e=>?_;cases e;exact zbE hd e1 e2 q
def nJ {a b:List Sm}{R:Fl->Frame->MH->Prop}: ∀ {fr:Frame}{h:MH},cz c a fr h (aF c b R) ->cz c (a++b) fr h R:=by
 induction a with
 |nil=>exact λq=>q.w
 |cons s a ih=>
  intro fr h q;have q:W (cb (exec c s fr h) λ(p:Fl×Frame) h1=>Fl.casesOn (motive:=λ_=>SR) p.1 (execs c a p.2 h1) (Qa (p,h1)) (Qa (p,h1)) (λ_=>Qa (p,h1))) λp h=>aF c b R p.1 p.2 h:=q;refine aw ((w_bnd' q).mono λp h1 q=>?_);obtain ⟨fl,f2⟩:=p;cases fl with
  |nx=>exact ih q
  |bk=>exact ⟨q.w⟩
  |ct=>exact ⟨q.w⟩
  |rt v=>exact ⟨q.w⟩
theorem Pq {s:Sm}{r:List Sm}{R:Fl->Frame->MH->Prop}{fr:Frame}{h:MH} (q:cz c [s] fr h (aF c r R)):cz c (s::r) fr h R:=nJ q
end
end Internal
namespace Internal
theorem zd4 (C:ax):Ay C:=zd3 C
end Internal
open PySem PySem.W PySem.W.X PyProof.Rows PySem.Calls
set_option linter.unusedVariables false
namespace Tactic
def zf : List String := ["builtins.copyright#opaque","builtins.credits#opaque","builtins.license#opaque"]
end Tactic
lay_quick Tactic.zf
namespace Tactic
abbrev TP:Program:=PySem.Challenge.pw_ui0508_12
abbrev lj:=PySem.W.Fast.tw15667345088766844465
theorem Dj: @topGo=lj:=PySem.W.Fast.te15667345088766844465
abbrev jo:=PySem.W.Fast.tw14082659384304107361
theorem Ha: @topRun=jo:=PySem.W.Fast.te14082659384304107361
abbrev jq:=PySem.W.Fast.tw14374325043358763698
theorem Hb: @segRun=jq:=PySem.W.Fast.te14374325043358763698
abbrev bw:=PySem.W.Fast.tw10110043849684766642
theorem Gu: @segRunT=bw:=PySem.W.Fast.te10110043849684766642
abbrev bp:=PySem.W.Fast.tw14364793385576792824
theorem oH: @treeTable=bp:=PySem.W.Fast.te14364793385576792824
abbrev mi:=PySem.W.Fast.tw11892475500146522536
theorem Hc: @denote=mi:=PySem.W.Fast.te11892475500146522536
abbrev sx:=Q4×List Qz×Scope
def zcx:sx:=(⟨[],[],Qd,[],[],Qd,[]⟩,[],⟨.function,[],Qb,Qb,[]⟩)
def gO (s:Qz) (z:sx×List Qz):sx×List Stmt:=Stmt.casesOn (motive_2:=λ_=>sx×List Qz) s (λ_ a b _ _ _ c _ _ _=>((a,b,c),[])) (λ_ _ _ _ _ _ _ _ _ _=>z) (λ_ _ _ b _ _ _ _ _ _ _=>(z.1,b)) (λ_ _=>z) (λ_ _=>z) (λ_ _ _=>z) (λ_ _ _ _ _ _ _=>z) (λ_ _ _ _=>z) (λ_ _ _ _ _=>z) (λ_ _ _ _ _=>z) (λ_ _ _ _ _=>z) (λ_ _ _ _=>z) (λ_ _ _ _=>z) (λ_ _ _=>z) (λ_ _ _=>z) (λ_ _ _=>z) (λ_ _ _=>z) (λ_ _ _ _ _=>z) (λ_ _ _ _ _=>z) (λ_ _ _=>z) (λ_ _=>z) (λ_ _ _ _=>z) (λ_ _=>z) (λ_ _=>z) (λ_ _=>z) (λ_=>z) (λ_=>z) (λ_=>z)
def bQ (l:List Qz):sx×List Stmt:=l.casesOn (zcx,[]) λs _=>gO s (zcx,[])
def sh (i:Nat):sx:=(bQ (TP.main.body.drop i)).1
def jr (i j:Nat):sx:=(bQ ((bQ (TP.main.body.drop i)).2.drop j)).1
def zgf (f:sx) (name qual:PySem.Str) (g:Qi) (cl:List (PySem.Str×Qi)) (dV kV doc pm:Value) (an:Option Qi) (cd ct:Value) (b:Qi):FuncData:=
 {name:=name,qualname:=qual,params:=f.1,body:= .stmts f.2.1,scope:=f.2.2,globals:=g,closure:=cl,defaults:=dV,kwdefaults:=kV,doc:=doc,pyModule:=pm,annotations:=an,code:=cd,closureTuple:=ct,builtins:=b}
def de (P:Params) (n:PySem.Str) (t:Tok) (v:Value):DictEntry:=⟨qa9 P n,.str n t,v⟩
def XZ (f:Nat):Nat->List Nat:= @Nat.rec (λ_=>Nat->List Nat) (λ_=> []) (λ_ ih k=>bif qa7 k 0 then [] else (k % 128)::ih (k / 128)) f
abbrev XN (k:Nat):PySem.Str:=⟨⟨XZ 60 k⟩⟩
abbrev X9 (i:Int) (t:Tok):Value:=qbu i t
abbrev X0 (i:Int):Value:=qbu i 0
abbrev XS (s:PySem.Str) (t:Tok):Value:=KQ s t
abbrev XB (b:Bool):Value:=qae b
abbrev X7:Value:=Yj
abbrev X6 {α:Type}:Option α:=Qd
abbrev X8 {α:Type} (l:List α):Array α:=Zq l
abbrev X1 (a:Qi):Value:= .ref a
def XO (c:Value) (d:Option Qi) (b:Data):Params->Obj:=λ_=>⟨c,d,b,Zq []⟩
def X2 (n:PySem.Str) (t:Tok) (v:Value):Params->DictEntry:=λP=>de P n t v
abbrev XF (f:sx) (n q:PySem.Str) (g:Qi) (dV kV doc pm:Value) (an:Option Qi) (cd ct:Value)   :Data:= .func (zgf f n q g [] dV kV doc pm an cd ct 0)
abbrev X5:Params->BT:=λ_=> .nil
abbrev sj:Value:=Zz s2766695959194262286x5
abbrev bA:Value:=Zz s5856160107412720595x4
abbrev iu:Value:=Zz s14018661285674007319x4
abbrev a9:Value:=Zz s7174869446012820540x8
abbrev j9:Value:=Zz s6070975301684473832x10
abbrev fV:Value:=Zz s11030030927630378310x26
abbrev j8:Value:=Zz s17162191345867700912x4
abbrev fU:Value:=Zz s14755015743595814543x17
abbrev j7:Value:=Zz s4290257624100764138x5
abbrev j6:Value:=Zz s9222952809800978799x4
abbrev zgp:Value:=Zz s2742458400755230247x6
def n0:=XN 0x7d97675c9bf6bc
def n1:=XN 0x79e0bba75c6bf6e9c3b31af
def n2:=XN 0xbf7f769c3b6fdf
def n3:=XN 0xbf7f2edc3bafdf
def n4:=XN 0x1cf3eed3c9765c7d7273dd87974
def n5:=XN 421105403244511
def n6:=XN 0x17efe5cf875e3c3c2fdf
def n7:=XN 0x2fdfe597261dfb2fdf
def n8:=XN 0xbf7f1e5e1cefdf
def n9:=XN 0x17eff3ddbf4f4c3d37eedd86fdf
def vj:=XN 0xbf7f9eed3d3669eb8afdf
def cQ:=XN 0xbf7f2ecd39afdf
def cP:=XN 0x2fdfc997463c38efdf
def zd:=XN 29219126239
def aX:=XN 2874561127620
def cO:=XN 0x1cb86ed9ab466c98b0
def aV:=XN 367430873507014
def zc:=XN 0xa94e2d48316947
def zb:=XN 22438781133
def cM:=XN 0x3d7eed1bebb6efaf74284a0
def rp:=XN 0xe5bf9728b97769d18f0cd
def xy:=XN 0x72cbd3a65d97f9e9
def xx:=XN 0x1cb2f4e99765fc9972ee
def xw:=XN 0x3665c58765fc9972ee
def xu:=XN 0x64e5bfbdfc9972ee
def xt:=XN 0x3a6eebbf1dfc9972ee
def xr:=XN 29779293299
def za:=XN 0x66df7fa68cfa72f7
def cL:=XN 107
def my:=XN 0x2fdfcbb3ae4dfb6fdf
def aQ:=XN 0xe7cb7f2e595765c7d7273dd87974
def vh:=XN 0xbf7f2edc3bb661ebc6fdf
def mx:=XN 0x17efefdd97769d9d39f2d39afdf
def mw:=XN 0x5fbfcf2f4eb8b4f2e9d30dfc7a7a61e9cefdf
def vg:=XN 0x17efe6cbcb5e1cbdefdf
def yz:=XN 232387827
def cK:=XN 211597303
def cJ:=XN 27359129846
def cI:=XN 31381287660
def jR:=XN 245168109
def jQ:=XN 244872311
def yx:=XN 245248756
def vf:=XN 1897177
def pu:=XN 213610734
def eY:=XN 1897209
def tq:=XN 0x72cb9396fbfcf0e8
def vd:=XN 0xe9cb0f0bfbb0e3
def ud:=XN 4013864876014
def ro:=XN 1668975
def mu:=XN 211383022
def mr:=XN 243103344
def pn:=XN 31083689204
def jx:=XN 240679539
def qk:=XN 3809597945827
def pk:=XN 240745327
def nu:=XN 0x72cbd3a65c57f9e9
def qj:=XN 251393139
def qi:=XN 211317490
def ee:=XN 215692019
def gk:=XN 97
def kr:=XN 98
def rn:=XN 1964018
def wm:=XN 0xbf7fa63d392fdf
def vc:=XN 31381287628
def vb:=XN 31371130819
def xq:=XN 211350495
def cH:=XN 31371130851
def pj:=XN 3497140974659
def eX:=XN 3497140974691
def Ln:=XN 30815303797
def zfY:=XN 226275565
def Lm:=XN 30815418348
def Wl:=XN 4186732950732
def Ey:=XN 0xddbf4f4c787966
def zcO:=XN 4186732950764
def zcN:=XN 110
def zfX:=XN 100
def zfW:=XN 15586
def uY:=XN 0x65dda7463c3b5765c7d7273dd87974
def N8:=XN 22430328018
def y6:=XN 217822450
def N7:=XN 0x14e2d483529dfa94e7cd
def N6:=XN 0x53874a0dfa94e7cd
def N5:=XN 1140559
def Ll:=XN 1636673
def Ew:=XN 0xbf7fa69dda6fdf
def N4:=XN 0xf3d386dcb7f9e9
def zal:=XN 29204459756
def y5:=XN 4013864678135
def Eu:=XN 4013059518708
def UW:=XN 448010674303181
def N3:=XN 0x36efdfcafe4cb9775f
def UV:=XN 27356854899
def N0:=XN 3978726767219
def NZ:=XN 0x32f4c3d39dfc9972ee
def Et:=XN 1636705
def zak:=XN 29749703779
def HI:=XN 29749801698
def HH:=XN 1652581
def B5:=XN 213824755
def zaj:=XN 0x39e3e586ff4ddd77e3
def NY:=XN 0x79e9c36e5bfcf0e8
def zai:=XN 3980574372076
def zah:=XN 0xdda70ece17f9e9
def zag:=XN 255604707
def zaf:=XN 31083705580
def zfV:=XN 3944329476846
def zae:=XN 3497149691891
def zad:=XN 31379192435
def NX:=XN 0x6ed39f2e25d97769d18f0cd
def NW:=XN 0x1937655d97769d18f0cd
def zcM:=XN 4015504749023
def zcL:=XN 242809185
def zcK:=XN 242825061
def zac:=XN 31381566694
def zab:=XN 0x32637dc306ac34f5bfdf0ec
def NV:=XN 230324596
def NU:=XN 443747950901215
def NT:=XN 0x64e587bebc78715f
def NS:=XN 244938463
def zaa:=XN 177530829
def NR:=XN 27340091636
def NQ:=XN 1651297
def NP:=XN 0x73cbb74f4bfdf7f2
def NO:=XN 0x3961e9ceff9e9c36e5
def S9:=XN 22424102871
def S8:=XN 372306437449676
def NM:=XN 0x1d396fd1cefe4cb9775f
def NL:=XN 4016840536927
def NK:=XN 31115080543
def NJ:=XN 211366111
def NI:=XN 3463297348319
def NH:=XN 31110885616
def NG:=XN 0x6cd9971dfef8765f
def NF:=XN 0xe7d3467d397bdfef8765f
def HG:=XN 448010674303213
def zfU:=XN 3497399218914
def zfT:=XN 1913581
def zfS:=XN 226277367
def zfR:=XN 30815173231
def zcJ:=XN 0x1cf961e9cd765c7d7273dd87974
def zcI:=XN 27321202288
def S5:=XN 243136498
def zcH:=XN 1915631
def zcG:=XN 105
def zcF:=XN 106
def zcE:=XN 0x6eebc9765c7d7273dd87974
def zcD:=XN 14945
def zfQ:=XN 3944367338220
def zfP:=XN 1995499
def zcC:=XN 4016016503283
def NE:=XN 0xcbbb4e8c7876dfef8765f
def SZ:=XN 1962220
def zfO:=XN 3982185216117
def zfN:=XN 3466780866415
def za6:Int:=KH (10 ^ 4000)
def XG (t:BT):Nat->Obj:= @BT.rec (λ_=>Nat->Obj) (λ_=>⟨.none,Qd,.plain,Zq []⟩) (λv _ _ L R i=>bif qa7 i 0 then v else bif qa7 (i % 2) 1 then L (i / 2) else R (i / 2-1)) t
def XI (t:BT):Nat->Obj->BT:= @BT.rec (λ_=>Nat->Obj->BT) (λ_ o=> .node o .nil .nil) (λv l r L R i o=>bif qa7 i 0 then .node o l r else bif qa7 (i % 2) 1 then .node v (L (i / 2) o) r else .node v l (R (i / 2-1) o)) t
def XR (P:Params) (l:List (Params->Obj)):Nat->BT->BT:= @XK _ (λ_=>Nat->BT->BT) (λ_ t=>t) (λo _ ih a t=>ih (ZQ a) (XI t a (o P))) l
def XQ (t:Nat) (l:List (PySem.Str×Value)):List (Params->Qh):= @XK _ (λ_=>Nat->List (Params->Qh)) (λ_=> []) (λe _ ih t=>X2 e.1 t e.2::ih (ZQ t)) l t
def XP (t:Params->BT) (l:List (Nat×List (Params->Obj))):Params->BT:=λP=> @XK (Nat×List (Params->Obj)) (λ_=>BT->BT) (λt=>t) (λe _ ih t=>ih (XR P e.2 e.1 t)) l (t P)
def XD (c:Value) (d:Option Qi) (l:List (Params->Qh)) (n:Nat):Params->Obj:=λP=>⟨c,d,.dict (Zq (l.map λe=>e P)) n,Zq []⟩
def XM (o:Obj):Params->Obj:=λ_=>o
def Y0 (a:PySem.Str) (b c d:Nat):Params->Obj:=XM ⟨(Zz s17162191345867700912x4),Qd,(.cls (ClassData.mk a [(Zz s2742458400755230247x6)] [(.ref b),(Zz s2742458400755230247x6)] c a Qf [] [] Qb Qd Qb)),Zq [Qd,Qd,(Qa (KQ a d)),(Qa (KQ a (d+8))),(Qa (Ks s11443829558043349243x14)),(Qa (qae Qf))]⟩
def Y1 (a b:Nat) (c:PySem.Str) (d:Nat):Params->Obj:=XM ⟨(Zz s658472552662922059x5),Qd,.plain,Zq [(Qa (.ref a)),(Qa (.ref 3)),(Qa (.ref b)),Qd,(Qa (KQ c d)),Qd,(Qa (.ref 0))]⟩
def Y2 (a:PySem.Str) (b:Nat) (c:Int) (d:Nat) (e:Int):Params->Obj:=XO bA X6 (.fields (X8 [(XS a b),(XS a (b+1)),(XS n1 (b+2)),(X0 c),(X0 0),(X0 0),(X0 0),(X0 0),(X1 d),(XB Qb),(X0 181),(X1 (d+1)),X7,X7,X7,X7,(X0 e),(X0 c),(XS n1 (b+4))]))
def Y3 (a b:Nat):Params->Obj:=XO fU X6 (.fields (X8 [(XS wm a),(X1 b),(Ks s6511155373996960695x17),(Ks s12411053484034534018x21)]))
def Y4 (a b:Nat):Params->Obj:=XO fU X6 (.fields (X8 [(XS vg a),(X1 b),(Ks s10220274742760427390x26),X7]))
def Y5 (a:Nat):Params->Obj:=XO fV X6 (.fields (X8 [(Ks s4860613602091757760x24),(X1 a)]))
def Y6 (a:Nat):Params->Obj:=XO j7 X6 (.fields (X8 [(X1 a),(X1 a),(X1 a)]))
def Y7 (a:PySem.Str) (b:Nat) (c:PySem.Str) (d:Int) (e:Nat) (f:Int):Params->Obj:=XO bA X6 (.fields (X8 [(XS a b),(XS c (b+1)),(XS n1 (b+2)),(X0 d),(X0 3),(X0 0),(X0 0),(X0 3),(X1 e),(XB Qf),(X0 181),(X1 (e+1)),X7,(X1 (e+2)),(X1 (e+3)),(X1 (e+4)),(X0 f),(X0 d),(XS n1 (b+7))]))
def Y8 (a b:Nat):Params->Obj:=XO (X1 a) (Qa b) .plain
def o0:=XO sj X6 (.seq (X8 []) 0)
def o1:=XO X7 X6 (.fields (X8 []))
def o2:=Y2 n0 182 1 11 185
def o3:=Y1 13 3 n2 164
def q0:List (Params->Qh):=XQ 165 [(n3,XS n4 277),(n5,X7),(n6,X7),(n7,Ks s7097527257260152453x26),(n8,X7),(n9,X1 6),(vj,X1 4)]++XQ 173 [(cQ,XS n1 172),(cP,X7)]++ [X2 zd 193 (X1 21),X2 aX 197 (XS cO 196),X2 aV 199 (X9 4000 198),X2 zc 202 (X9 za6 201),X2 zb 204 (XS cM 203),X2 rp 222 (X1 31),X2 xy 229 (X1 41),X2 xx 236 (X1 48),X2 xw 243 (X1 55),X2 xu 251 (X1 62),X2 xt 261 (X1 69),X2 xr 268 (X1 76),X2 za 276 (X1 83)]
def o4:=XD iu X6 q0 22
def q1:List Value:= [(X0 1),(X0 0),(X1 20),(X0 9),(X0 0),(X1 27),(X0 11),(X0 0),(X1 40),(X0 13),(X0 0),(X1 47),(X0 17),(X0 0),(X1 54),(X0 21),(X0 0),(X1 61),(X0 27),(X0 0),(X1 68),(X0 31),(X0 0),(X1 75),(X0 37),(X0 0),(X1 82)]
def o5:=XO X7 X6 (.fields (X8 q1))
def xo:=XO sj X6 (.seq (X8 [j9]) 0)
def ph:=XO fV X6 (.fields (X8 [(Ks s10062305145149207511x16),j8]))
def jO:=XD iu X6 [(X2 my 212 (XS aQ 194)),(X2 vh 214 (XS rp 213)),(X2 mx 216 (X9 9 215)),(X2 mw 217 (X1 29))] 4
def jN:=Y2 rp 207 9 25 210
def jM:=Y1 27 24 aQ 194
def jL:=XD iu X6 [(X2 my 212 (XS aQ 194)),(X2 mx 216 (X9 9 215)),(X2 mw 217 (X1 29)),(X2 vg 219 (X1 32)),(X2 n5 220 X7)] 3
def jK:=XM ⟨(Zz s17162191345867700912x4),Qd,(.cls (ClassData.mk rp [(Zz s6070975301684473832x10)] [(.ref 31),(Zz s6070975301684473832x10),(Zz s5946037652744460706x9),(Zz s4278001404047624695x13),(Zz s2742458400755230247x6)] 30 rp Qf [] [] Qb Qd Qb)),Zq [(Qa (.ref 22)),Qd,(Qa (KQ rp 205)),(Qa (KQ rp 213)),(Qa (Ks s4209523147560561109x18)),(Qa (qae Qf))]⟩
def jJ:=Y4 218 31
def jI:=Y6 31
def jH:=Y5 31
def q2:List (Params->Qh):=q0++ [X2 vf 382 (X1 156)]
def jG:=XD iu X6 q2 23
def q3:List Value:=q1++ [(X0 45),(X0 0),(X1 89)]
def jF:=XO X7 X6 (.fields (X8 q3))
def q4:List (Params->Qh):= [X2 my 286 (XS n4 277),X2 vh 288 (XS vf 287),X2 mx 290 (X9 45 289)]++XQ 292 [(pu,XS eY 291),(tq,XB Qf),(vd,XB Qf)]++ [X2 ud 296 (X9 0 295),X2 ro 298 (X9 1 297),X2 mu 306 (X1 97),X2 mr 315 (X1 104),X2 pn 324 (X1 111),X2 jx 332 (X1 118),X2 qk 340 (X1 125),X2 pk 349 (X1 132),X2 nu 358 (X1 139),X2 qj 366 (X1 146)]++XQ 374 [(qi,X1 153),(mw,X1 154)]
def jE:=XD iu X6 q4 18
def q5:List Value:= [(X0 52),(X0 4),(X1 96),(X0 57),(X0 4),(X1 103),(X0 60),(X0 4),(X1 110),(X0 63),(X0 4),(X1 117),(X0 66),(X0 4),(X1 124),(X0 69),(X0 4),(X1 131),(X0 72),(X0 4),(X1 138),(X0 75),(X0 4),(X1 145),(X0 78),(X0 4),(X1 152)]
def jD:=XO X7 X6 (.fields (X8 q5))
def jC:=Y2 vf 281 45 87 284
def jA:=Y1 89 86 n4 277
def q6:List (Params->Qh):= [X2 my 286 (XS n4 277),X2 mx 290 (X9 45 289)]++XQ 292 [(pu,XS eY 291),(tq,XB Qf),(vd,XB Qf)]++ [X2 ud 296 (X9 0 295),X2 ro 298 (X9 1 297),X2 mu 306 (X1 97),X2 mr 315 (X1 104),X2 pn 324 (X1 111),X2 jx 332 (X1 118),X2 qk 340 (X1 125),X2 pk 349 (X1 132),X2 nu 358 (X1 139),X2 qj 366 (X1 146)]++XQ 374 [(qi,X1 153),(mw,X1 154)]++ [X2 wm 377 (X1 157)]++XQ 379 [(vg,X1 158),(n5,X7)]
def i9:=XD iu X6 q6 4
def i8:=Y0 vf 156 155 279
def i7:=Y3 376 156
def i6:=Y4 378 156
def i5:=Y6 156
def i0:=Y5 156
def q7:List (Params->Qh):=q2++ [X2 vc 485 (X1 233)]
def iZ:=XD iu X6 q7 24
def q8:List Value:=q3++ [(X0 80),(X0 0),(X1 166)]
def iY:=XO X7 X6 (.fields (X8 q8))
def q9:List (Params->Qh):= [X2 my 390 (XS n4 277),X2 vh 392 (XS vc 391),X2 mx 394 (X9 80 393)]++XQ 396 [(pu,XS cI 395),(tq,XB Qf),(vd,XB Qf),(ud,X7)]++ [X2 ro 401 (X9 0 400),X2 mu 409 (X1 174),X2 mr 418 (X1 181),X2 pn 427 (X1 188),X2 jx 435 (X1 195),X2 qk 443 (X1 202),X2 pk 452 (X1 209),X2 nu 461 (X1 216),X2 qj 469 (X1 223)]++XQ 477 [(qi,X1 230),(mw,X1 231)]
def iX:=XD iu X6 q9 18
def iL:List Value:= [(X0 87),(X0 4),(X1 173),(X0 92),(X0 4),(X1 180),(X0 99),(X0 4),(X1 187),(X0 104),(X0 4),(X1 194),(X0 107),(X0 4),(X1 201),(X0 110),(X0 4),(X1 208),(X0 115),(X0 4),(X1 215),(X0 118),(X0 4),(X1 222),(X0 121),(X0 4),(X1 229)]
def iW:=XO X7 X6 (.fields (X8 iL))
def zfI:=Y2 vc 385 80 164 388
def zfH:=Y1 166 163 n4 277
def iK:List (Params->Qh):= [X2 my 390 (XS n4 277),X2 mx 394 (X9 80 393)]++XQ 396 [(pu,XS cI 395),(tq,XB Qf),(vd,XB Qf),(ud,X7)]++ [X2 ro 401 (X9 0 400),X2 mu 409 (X1 174),X2 mr 418 (X1 181),X2 pn 427 (X1 188),X2 jx 435 (X1 195),X2 qk 443 (X1 202),X2 pk 452 (X1 209),X2 nu 461 (X1 216),X2 qj 469 (X1 223)]++XQ 477 [(qi,X1 230),(mw,X1 231)]++ [X2 wm 480 (X1 234)]++XQ 482 [(vg,X1 235),(n5,X7)]
def zfG:=XD iu X6 iK 4
def zfF:=Y0 vc 233 232 383
def zfE:=Y3 479 233
def zfD:=Y4 481 233
def zfC:=Y6 233
def zfB:=Y5 233
def eR:List (Params->Qh):=q7++ [X2 vb 589 (X1 310),X2 xq 597 (X1 321)]
def zfA:=XD iu X6 eR 26
def eP:List Value:=q8++ [(X0 125),(X0 0),(X1 243),(X0 162),(X0 0),(X1 320)]
def zfz:=XO X7 X6 (.fields (X8 eP))
def iJ:List (Params->Qh):= [X2 my 493 (XS n4 277),X2 vh 495 (XS vb 494),X2 mx 497 (X9 125 496)]++XQ 499 [(pu,XS cH 498),(tq,XB Qb),(vd,XB Qf)]++ [X2 ud 503 (X9 0 502),X2 ro 505 (X9 1 504),X2 mu 513 (X1 251),X2 mr 522 (X1 258),X2 pn 531 (X1 265),X2 jx 539 (X1 272),X2 qk 547 (X1 279),X2 pk 556 (X1 286),X2 nu 565 (X1 293),X2 qj 573 (X1 300)]++XQ 581 [(qi,X1 307),(mw,X1 308)]
def zfy:=XD iu X6 iJ 18
def iI:List Value:= [(X0 132),(X0 4),(X1 250),(X0 137),(X0 4),(X1 257),(X0 140),(X0 4),(X1 264),(X0 143),(X0 4),(X1 271),(X0 148),(X0 4),(X1 278),(X0 151),(X0 4),(X1 285),(X0 154),(X0 4),(X1 292),(X0 157),(X0 4),(X1 299),(X0 160),(X0 4),(X1 306)]
def zfx:=XO X7 X6 (.fields (X8 iI))
def zfw:=Y2 vb 488 125 241 491
def zfv:=Y1 243 240 n4 277
def iH:List (Params->Qh):= [X2 my 493 (XS n4 277),X2 mx 497 (X9 125 496)]++XQ 499 [(pu,XS cH 498),(tq,XB Qb),(vd,XB Qf)]++ [X2 ud 503 (X9 0 502),X2 ro 505 (X9 1 504),X2 mu 513 (X1 251),X2 mr 522 (X1 258),X2 pn 531 (X1 265),X2 jx 539 (X1 272),X2 qk 547 (X1 279),X2 pk 556 (X1 286),X2 nu 565 (X1 293),X2 qj 573 (X1 300)]++XQ 581 [(qi,X1 307),(mw,X1 308)]++ [X2 wm 584 (X1 311)]++XQ 586 [(vg,X1 312),(n5,X7)]
def zfu:=XD iu X6 iH 4
def zft:=Y0 vb 310 309 486
def zfs:=Y3 583 310
def zfr:=Y4 585 310
def zfq:=Y6 310
def zfp:=Y5 310
def eL:List (Params->Qh):=eR++ [X2 pj 706 (X1 396)]
def zfo:=XD iu X6 eL 27
def eK:List Value:=eP++ [(X0 166),(X0 0),(X1 327)]
def zfn:=XO X7 X6 (.fields (X8 eK))
def iG:List (Params->Qh):= [X2 my 605 (XS n4 277),X2 vh 607 (XS pj 606),X2 mx 609 (X9 166 608)]++XQ 611 [(pu,XS eX 610),(tq,XB Qb),(vd,XB Qf)]++ [X2 ud 616 (X1 329),X2 ro 619 (X1 330),X2 mu 627 (X1 337),X2 mr 636 (X1 344),X2 pn 645 (X1 351),X2 jx 653 (X1 358),X2 qk 661 (X1 365),X2 pk 670 (X1 372),X2 nu 679 (X1 379),X2 qj 687 (X1 386)]++XQ 698 [(qi,X1 393),(mw,X1 394)]
def zfm:=XD iu X6 iG 18
def iF:List Value:= [(X0 173),(X0 4),(X1 336),(X0 180),(X0 4),(X1 343),(X0 183),(X0 4),(X1 350),(X0 186),(X0 4),(X1 357),(X0 191),(X0 4),(X1 364),(X0 194),(X0 4),(X1 371),(X0 197),(X0 4),(X1 378),(X0 200),(X0 4),(X1 385),(X0 203),(X0 4),(X1 392)]
def zfl:=XO X7 X6 (.fields (X8 iF))
def zfk:=Y2 pj 600 166 325 603
def zfj:=Y1 327 324 n4 277
def zfi:=XO sj X6 (.seq (X8 [(X9 0 614),(X9 1 615)]) 0)
def zfh:=XO sj X6 (.seq (X8 [(X9 1 617),(X9 1 618)]) 0)
def iE:List (Params->Qh):= [X2 my 605 (XS n4 277),X2 mx 609 (X9 166 608)]++XQ 611 [(pu,XS eX 610),(tq,XB Qb),(vd,XB Qf)]++ [X2 ud 616 (X1 329),X2 ro 619 (X1 330),X2 mu 627 (X1 337),X2 mr 636 (X1 344),X2 pn 645 (X1 351),X2 jx 653 (X1 358),X2 qk 661 (X1 365),X2 pk 670 (X1 372),X2 nu 679 (X1 379),X2 qj 687 (X1 386)]++XQ 698 [(qi,X1 393),(mw,X1 394)]++ [X2 wm 701 (X1 397)]++XQ 703 [(vg,X1 398),(n5,X7)]
def zfg:=XD iu X6 iE 4
def zff:=Y0 pj 396 395 598
def zfe:=Y3 700 396
def zfd:=Y4 702 396
def zfc:=Y6 396
def zfb:=Y5 396
def iD:List (Params->Qh):=eL++ [X2 Wl 759 (X1 438),X2 Ey 768 (X1 447)]
def zfa:=XD iu X6 iD 29
def eJ:List Value:=eK++ [(X0 208),(X0 0),(X1 406),(X0 228),(X0 0),(X1 446)]
def ze9:=XO X7 X6 (.fields (X8 eJ))
def ze8:=XM ⟨(Zz s17162191345867700912x4),Qd,(.cls (ClassData.mk pj [(Zz s2742458400755230247x6)] [(.ref 396),(Zz s2742458400755230247x6)] 395 pj Qf [] [(.ref 438)] Qb Qd Qb)),Zq [Qd,Qd,(Qa (KQ pj 598)),(Qa (KQ pj 606)),(Qa (Ks s11443829558043349243x14)),(Qa (qae Qf))]⟩
def ze7:=XO sj X6 (.seq (X8 [(X1 396)]) 0)
def iC:List (Params->Qh):= [X2 my 714 (XS n4 277),X2 vh 716 (XS Wl 715),X2 mx 718 (X9 208 717)]++XQ 720 [(pu,XS zcO 719),(tq,XB Qf)]++ [X2 mu 729 (X1 414),X2 mr 738 (X1 421),X2 jx 746 (X1 428)]++XQ 755 [(nu,X1 435),(mw,X1 436)]
def ze6:=XD iu X6 iC 10
def ze5:=XO X7 X6 (.fields (X8 [(X0 212),(X0 4),(X1 413),(X0 218),(X0 4),(X1 420),(X0 223),(X0 4),(X1 427),(X0 226),(X0 4),(X1 434)]))
def ze4:=Y2 Wl 709 208 404 712
def ze3:=Y1 406 403 n4 277
def iA:List (Params->Qh):= [X2 my 714 (XS n4 277),X2 mx 718 (X9 208 717)]++XQ 720 [(pu,XS zcO 719),(tq,XB Qf)]++ [X2 mu 729 (X1 414),X2 mr 738 (X1 421),X2 jx 746 (X1 428)]++XQ 755 [(nu,X1 435),(mw,X1 436),(n5,X7)]
def ze2:=XD iu X6 iA 2
def ze1:=XM ⟨(Zz s17162191345867700912x4),Qd,(.cls (ClassData.mk Wl [(.ref 396)] [(.ref 438),(.ref 396),(Zz s2742458400755230247x6)] 437 Wl Qf [] [] Qb Qd Qb)),Zq [(Qa (.ref 401)),Qd,(Qa (KQ Wl 707)),(Qa (KQ Wl 715)),(Qa (Ks s11443829558043349243x14)),(Qa (qae Qf))]⟩
def ze0:=Y6 438
def zeZ:=Y5 438
def eI:List (Params->Qh):=XQ 165 [(n3,XS uY 778),(n5,X7),(n6,X7),(n7,Ks s7097527257260152453x26),(n8,X7),(n9,X1 6),(vj,X1 4)]++XQ 173 [(cQ,XS n1 172),(cP,X7)]++ [X2 zd 193 (X1 21),X2 aX 197 (XS cO 196),X2 aV 199 (X9 4000 198),X2 zc 202 (X9 za6 201),X2 zb 204 (XS cM 203),X2 rp 222 (X1 31),X2 xy 229 (X1 41),X2 xx 236 (X1 48),X2 xw 243 (X1 55),X2 xu 251 (X1 62),X2 xt 261 (X1 69),X2 xr 268 (X1 76),X2 za 276 (X1 83),X2 vf 382 (X1 156),X2 vc 485 (X1 233),X2 vb 589 (X1 310),X2 xq 597 (X1 321),X2 pj 706 (X1 396),X2 Wl 759 (X1 438)]++XQ 768 [(Ey,X1 447),(N8,X1 458)]++ [X2 y6 777 (X1 465),X2 N7 781 (X9 20000 780)]++XQ 783 [(N6,X9 200000 782),(N5,X1 466)]
def zeY:=XD iu X6 eI 34
def eH:List Value:=eJ++ [(X0 232),(X0 0),(X1 464)]
def zeX:=XO X7 X6 (.fields (X8 eH))
def BK:=XO iu X6 (.dict (X8 []) 0)
def zeW:=Y8 156 448
def zeV:=Y8 233 450
def zeU:=Y8 310 452
def zeT:=Y8 396 454
def zeS:=Y8 438 456
def zeR:=XO j6 X6 (.seq (X8 [(X1 449),(X1 451),(X1 453),(X1 455),(X1 457)]) 0)
def zeQ:=XO zgp X6 .plain
def eG:List (Params->Qh):=eI++ [X2 Ll 833 (X1 497)]
def zeP:=XD iu X6 eG 35
def eF:List Value:=eH++ [(X0 241),(X0 0),(X1 472)]
def zeO:=XO X7 X6 (.fields (X8 eF))
def zeN:=XD iu X6 [(X2 my 792 (XS uY 778)),(X2 vh 794 (XS Ll 793)),(X2 mx 796 (X9 241 795)),(X2 Ew 807 (X1 480)),(X2 N4 814 (X1 487)),(X2 zal 821 (X1 494)),(X2 mw 826 (X1 495))] 7
def zeM:=XO X7 X6 (.fields (X8 [(X0 243),(X0 4),(X1 479),(X0 249),(X0 4),(X1 486),(X0 252),(X0 4),(X1 493)]))
def zeL:=Y2 Ll 787 241 470 790
def zeK:=Y1 472 469 uY 778
def zeJ:=XO sj X6 (.seq (X8 [(XS Lm 822),(XS Eu 823),(XS Ln 824),(XS y5 825)]) 0)
def hZ:List (Params->Qh):= [X2 my 792 (XS uY 778),X2 mx 796 (X9 241 795),X2 Ew 807 (X1 480),X2 N4 814 (X1 487),X2 zal 821 (X1 494),X2 mw 826 (X1 495),X2 wm 828 (X1 498)]++XQ 830 [(vg,X1 499),(n5,X7)]
def zeI:=XD iu X6 hZ 4
def zeH:=Y0 Ll 497 496 785
def zeG:=Y3 827 497
def zeF:=Y4 829 497
def zeE:=Y6 497
def zeD:=Y5 497
def hY:List (Params->Qh):=eG++ [X2 UW 989 (X1 623)]
def zeC:=XD iu X6 hY 36
def eE:List Value:=eF++ [(X0 254),(X0 0),(X1 507)]
def zeB:=XO X7 X6 (.fields (X8 eE))
def hH:List (Params->Qh):= [X2 my 841 (XS uY 778),X2 vh 843 (XS UW 842),X2 mx 845 (X9 254 844),X2 Ew 853 (X1 515),X2 N3 861 (X1 522),X2 UV 868 (X1 529),X2 N0 874 (X1 534),X2 NZ 882 (X1 541),X2 Et 894 (X1 548),X2 zak 906 (X1 555),X2 HI 915 (X1 563),X2 HH 924 (X1 571),X2 B5 931 (X1 578),X2 zaj 938 (X1 585),X2 NY 947 (X1 592),X2 zai 954 (X1 599),X2 zah 961 (X1 606),X2 zag 968 (X1 613),X2 zaf 975 (X1 620),X2 mw 982 (X1 621)]
def zeA:=XD iu X6 hH 20
def hG:List Value:= [(X0 256),(X0 4),(X1 514),(X0 264),(X0 4),(X1 521),(X0 268),(X0 4),(X1 528),(X0 274),(X0 4),(X1 533),(X0 278),(X0 4),(X1 540),(X0 281),(X0 4),(X1 547),(X0 294),(X0 4),(X1 554),(X0 297),(X0 4),(X1 562),(X0 302),(X0 4),(X1 570),(X0 306),(X0 4),(X1 577),(X0 309),(X0 4),(X1 584),(X0 312),(X0 4),(X1 591),(X0 319),(X0 4),(X1 598),(X0 322),(X0 4),(X1 605),(X0 325),(X0 4),(X1 612),(X0 328),(X0 4),(X1 619)]
def zez:=XO X7 X6 (.fields (X8 hG))
def zey:=Y2 UW 836 254 505 839
def zex:=Y1 507 504 uY 778
def zct:=XO sj X6 (.seq (X8 [(X1 466)]) 0)
def zew:=XO sj X6 (.seq (X8 [(XS ee 910),(XS zad 911),(XS y5 912)]) 0)
def zeu:=XO X7 X6 (XF (jr 29 7) HI NX 0 X7 X7 X7 X7 X6 X7 X7)
def zet:=Y7 HI 907 NX 297 557 913
def zcs:=XO a9 X6 (XF (jr 29 7) HI NX 3 (X1 556) X7 X7 (XS uY 778) X6 (X1 562) X7)
def zes:=XO sj X6 (.seq (X8 [(XS ee 919),(XS UV 920),(XS y5 921)]) 0)
def zer:=XO X7 X6 (XF (jr 29 8) HH NW 0 X7 X7 X7 X7 X6 X7 X7)
def zeq:=Y7 HH 916 NW 302 565 922
def zcr:=XO a9 X6 (XF (jr 29 8) HH NW 3 (X1 564) X7 X7 (XS uY 778) X6 (X1 570) X7)
def zep:=XO sj X6 (.seq (X8 [(XS zcM 976),(XS zcL 977),(XS zcK 978),(XS zac 979),(XS y6 980),(XS zad 981)]) 0)
def g9:List (Params->Qh):= [X2 my 841 (XS uY 778),X2 mx 845 (X9 254 844),X2 Ew 853 (X1 515),X2 N3 861 (X1 522),X2 UV 868 (X1 529),X2 N0 874 (X1 534),X2 NZ 882 (X1 541),X2 Et 894 (X1 548),X2 zak 906 (X1 555),X2 HI 915 (X1 563),X2 HH 924 (X1 571),X2 B5 931 (X1 578),X2 zaj 938 (X1 585),X2 NY 947 (X1 592),X2 zai 954 (X1 599),X2 zah 961 (X1 606),X2 zag 968 (X1 613),X2 zaf 975 (X1 620),X2 mw 982 (X1 621),X2 wm 984 (X1 624)]++XQ 986 [(vg,X1 625),(n5,X7)]
def zeo:=XD iu X6 g9 4
def zen:=Y0 UW 623 622 834
def zem:=Y3 983 623
def zel:=Y4 985 623
def zek:=Y6 623
def zej:=Y5 623
def eC:List (Params->Qh):=XQ 165 [(n3,XS zab 1142),(n5,X7),(n6,X7),(n7,Ks s7097527257260152453x26),(n8,X7),(n9,X1 6),(vj,X1 4)]++XQ 173 [(cQ,XS n1 172),(cP,X7)]++ [X2 zd 193 (X1 21),X2 aX 197 (XS cO 196),X2 aV 199 (X9 4000 198),X2 zc 202 (X9 za6 201),X2 zb 204 (XS cM 203),X2 rp 222 (X1 31),X2 xy 229 (X1 41),X2 xx 236 (X1 48),X2 xw 243 (X1 55),X2 xu 251 (X1 62),X2 xt 261 (X1 69),X2 xr 268 (X1 76),X2 za 276 (X1 83),X2 vf 382 (X1 156),X2 vc 485 (X1 233),X2 vb 589 (X1 310),X2 xq 597 (X1 321),X2 pj 706 (X1 396),X2 Wl 759 (X1 438)]++XQ 768 [(Ey,X1 447),(N8,X1 458)]++ [X2 y6 777 (X1 465),X2 N7 781 (X9 20000 780)]++XQ 783 [(N6,X9 200000 782),(N5,X1 466)]++ [X2 Ll 833 (X1 497),X2 UW 989 (X1 623),X2 NV 995 (X1 632),X2 NU 1001 (X1 637),X2 NT 1007 (X1 642),X2 NS 1020 (X1 649),X2 zaa 1024 (X9 2000 1023),X2 NR 1030 (X1 654),X2 NQ 1040 (X1 661),X2 jx 1046 (X1 666),X2 NP 1058 (X1 673),X2 NO 1065 (X1 680),X2 S9 1069 (X9 20000 1068),X2 S8 1071 (X9 200 1070),X2 y5 1089 (X1 687),X2 NM 1096 (X1 694),X2 NL 1104 (X1 701),X2 NK 1113 (X1 708),X2 NJ 1124 (X1 715),X2 NI 1135 (X1 722),X2 NH 1141 (X1 727),X2 NG 1151 (X1 734),X2 NF 1158 (X1 741)]
def zei:=XD iu X6 eC 57
def eA:List Value:=eE++ [(X0 330),(X0 0),(X1 631),(X0 351),(X0 0),(X1 636),(X0 353),(X0 0),(X1 641),(X0 359),(X0 0),(X1 648),(X0 373),(X0 0),(X1 653),(X0 382),(X0 0),(X1 660),(X0 385),(X0 0),(X1 665),(X0 400),(X0 0),(X1 672),(X0 407),(X0 0),(X1 679),(X0 414),(X0 0),(X1 686),(X0 438),(X0 0),(X1 693),(X0 442),(X0 0),(X1 700),(X0 446),(X0 0),(X1 707),(X0 448),(X0 0),(X1 714),(X0 452),(X0 0),(X1 721),(X0 459),(X0 0),(X1 726),(X0 485),(X0 0),(X1 733),(X0 489),(X0 0),(X1 740)]
def zeh:=XO X7 X6 (.fields (X8 eA))
def g8:List (Params->Qh):=eC++ [X2 NE 1178 (X1 748),X2 SZ 1184 (X1 753)]
def zeg:=XD iu X6 g8 59
def g7:List Value:=eA++ [(X0 491),(X0 0),(X1 747),(X0 510),(X0 0),(X1 752)]
def zef:=XO X7 X6 (.fields (X8 g7))
def PU (P:Params):Heap:=⟨⟨[boot_o_0 P,boot_o_1 P,boot_o_2 P,boot_o_3 P,boot_o_4 P,boot_o_5 P,boot_o_6 P,boot_o_7 P,boot_o_8 P,boot_o_9 P,boot_o_10 P,o0 P,o1 P,o2 P,o3 P]⟩,{}⟩
def XW (l:List PySem.Str) (t:Nat):List Value:= @XK PySem.Str (λ_=>Nat->List Value) (λ_=> []) (λs _ ih t=>XS s t::ih (ZQ t)) l t
def XC (c n:PySem.Str):PySem.Str:=⟨⟨c.cps.toList++46::n.cps.toList⟩⟩
def pd (f:sx) (c d:PySem.Str) (m:PySem.Str) (k B T:Nat) (l a:Int) (ns:List PySem.Str):List (Params->Obj):= [o0,o1,XO sj X6 (.seq (X8 (XW ns (T+3))) 0),o0,XO X7 X6 (XF f c d 0 X7 X7 X7 X7 X6 X7 X7),XO bA X6 (.fields (X8 [(XS c T),(XS d (T+1)),(XS n1 (T+2)),(X0 l),(X0 a),(X0 0),(X0 0),(X0 3),(X1 B),(XB Qf),(X0 181),(X1 (B+1)),X7,(X1 (B+2)),(X1 (B+3)),(X1 (B+4)),(X0 (KH (T+3+ns.length))),(X0 l),(XS n1 (T+4+ns.length))])),XO a9 X6 (XF f c d 3 X7 X7 X7 (XS m k) X6 (X1 (B+5)) X7)]
def zw (f:sx) (c d:PySem.Str) (m:PySem.Str) (k B T:Nat) (l a:Int):List (Params->Obj):= [o0,o1,XO X7 X6 (XF f c d 0 X7 X7 X7 X7 X6 X7 X7),XO bA X6 (.fields (X8 [(XS c T),(XS d (T+1)),(XS n1 (T+2)),(X0 l),(X0 a),(X0 0),(X0 0),(X0 3),(X1 B),(XB Qf),(X0 181),(X1 (B+1)),X7,X7,X7,(X1 (B+2)),(X0 (KH (T+3+0))),(X0 l),(XS n1 (T+4+0))])),XO a9 X6 (XF f c d 3 X7 X7 X7 (XS m k) X6 (X1 (B+3)) X7)]
def kA (j:Nat) (c:PySem.Str):=pd (sh j) c c n2 164
def xe (j:Nat) (c:PySem.Str):=pd (sh j) c c aQ 194
def um (j:Nat) (c:PySem.Str):=pd (jr 15 j) c (XC vf c) n4 277
def ul (j:Nat) (c:PySem.Str):=pd (jr 16 j) c (XC vc c) n4 277
def uk (j:Nat) (c:PySem.Str):=pd (jr 17 j) c (XC vb c) n4 277
def dM (j:Nat) (c:PySem.Str):=pd (sh j) c c n4 277
def uj (j:Nat) (c:PySem.Str):=pd (jr 19 j) c (XC pj c) n4 277
def bB (j:Nat) (c:PySem.Str):=pd (jr 20 j) c (XC Wl c) n4 277
def dK (j:Nat) (c:PySem.Str):=pd (jr 28 j) c (XC Ll c) uY 778
def qc (j:Nat) (c:PySem.Str):=pd (jr 29 j) c (XC UW c) uY 778
def zgt (j:Nat) (c:PySem.Str):=zw (jr 29 j) c (XC UW c) uY 778
def zbo (j:Nat) (c:PySem.Str):=zw (sh j) c c uY 778
def zgs (j:Nat) (c:PySem.Str):=pd (sh j) c c uY 778
def zdA (j:Nat) (c:PySem.Str):=zw (sh j) c c zcJ 1021
def zbn (j:Nat) (c:PySem.Str):=pd (sh j) c c zcJ 1021
def Fd (j:Nat) (c:PySem.Str):=pd (sh j) c c zcE 1066
def zgr (j:Nat) (c:PySem.Str):=zw (sh j) c c zcE 1066
def zbm (j:Nat) (c:PySem.Str):=pd (sh j) c c zab 1142
def zgq (j:Nat) (c:PySem.Str):=zw (sh j) c c zab 1142
def bM:=XP X5 [(0,[boot_o_0,boot_o_1,boot_o_2,boot_o_3,boot_o_4,boot_o_5,boot_o_6,boot_o_7,boot_o_8,boot_o_9,boot_o_10,o0,o1,o2,o3])]
def bL:=XP bM [(3,[o4]),(12,[o5]),(15,kA 0 zd 15 187 1 1 [cL]++ [xo,ph,jO,o0,o1,jN,jM,o0,jL,jK,jJ,jI,jH]++xe 7 xy 35 223 11 1 [yz]++xe 8 xx 42 230 13 1 [yz]++xe 9 xw 49 237 17 1 [yz]++xe 10 xu 56 244 21 1 [cK,yz]++xe 11 xt 63 252 27 4 [cJ,cI,jR,jQ]++xe 12 xr 70 262 31 1 [cJ]++xe 13 za 77 269 37 1 [yx,yz])]
def bK:=XP bL [(3,[jG]),(12,[jF]),(84,[o0,ph,jE,o0,jD,jC,jA]++um 5 mu 91 299 52 2 [ee,gk]++um 6 mr 98 307 57 3 [ee,gk,kr]++um 7 pn 105 316 60 3 [ee,gk,kr]++um 8 jx 112 325 63 2 [ee,gk]++um 9 qk 119 333 66 2 [ee,rn]++um 10 pk 126 341 69 3 [ee,gk,kr]++um 11 nu 133 350 72 3 [ee,gk,kr]++um 12 qj 140 359 75 2 [ee,gk]++um 13 qi 147 367 78 2 [ee,yx]++ [o0,i9,i8,i7,i6,i5,i0])]
def bJ:=XP bK [(3,[iZ]),(12,[iY]),(161,[o0,ph,iX,o0,iW,zfI,zfH]++ul 5 mu 168 402 87 2 [ee,gk]++ul 6 mr 175 410 92 3 [ee,gk,kr]++ul 7 pn 182 419 99 3 [ee,gk,kr]++ul 8 jx 189 428 104 2 [ee,gk]++ul 9 qk 196 436 107 2 [ee,rn]++ul 10 pk 203 444 110 3 [ee,gk,kr]++ul 11 nu 210 453 115 3 [ee,gk,kr]++ul 12 qj 217 462 118 2 [ee,gk]++ul 13 qi 224 470 121 2 [ee,yx]++ [o0,zfG,zfF,zfE,zfD,zfC,zfB])]
def bI:=XP bJ [(3,[zfA]),(12,[zfz]),(238,[o0,ph,zfy,o0,zfx,zfw,zfv]++uk 5 mu 245 506 132 2 [ee,gk]++uk 6 mr 252 514 137 3 [ee,gk,kr]++uk 7 pn 259 523 140 3 [ee,gk,kr]++uk 8 jx 266 532 143 2 [ee,gk]++uk 9 qk 273 540 148 2 [ee,rn]++uk 10 pk 280 548 151 3 [ee,gk,kr]++uk 11 nu 287 557 154 3 [ee,gk,kr]++uk 12 qj 294 566 157 2 [ee,gk]++uk 13 qi 301 574 160 2 [ee,yx]++ [o0,zfu,zft,zfs,zfr,zfq,zfp]++dM 18 xq 315 590 162 2 [gk,kr])]
def bH:=XP bI [(3,[zfo]),(12,[zfn]),(322,[o0,ph,zfm,o0,zfl,zfk,zfj,zfi,zfh]++uj 5 mu 331 620 173 2 [ee,gk]++uj 6 mr 338 628 180 3 [ee,gk,kr]++uj 7 pn 345 637 183 3 [ee,gk,kr]++uj 8 jx 352 646 186 2 [ee,gk]++uj 9 qk 359 654 191 2 [ee,rn]++uj 10 pk 366 662 194 3 [ee,gk,kr]++uj 11 nu 373 671 197 3 [ee,gk,kr]++uj 12 qj 380 680 200 2 [ee,gk]++uj 13 qi 387 688 203 2 [ee,yx,Ln,zfY,Lm]++ [o0,zfg,zff,zfe,zfd,zfc,zfb])]
def bG:=XP bH [(3,[zfa]),(12,[ze9]),(396,[ze8]),(401,[ze7,ph,ze6,o0,ze5,ze4,ze3]++bB 2 mu 408 722 212 2 [ee,gk]++bB 3 mr 415 730 218 3 [ee,gk,kr]++bB 4 jx 422 739 223 2 [ee,gk]++bB 5 nu 429 747 226 3 [ee,gk,kr]++ [o0,ze2,ze1,ze0,zeZ]++dM 21 Ey 441 760 228 2 [zcN,zfX,zfW])]
def bF:=XP bG [(3,[zeY]),(12,[zeX]),(448,[BK,zeW,BK,zeV,BK,zeU,BK,zeT,BK,zeS,zeR]++dM 23 y6 459 770 232 1 [pu,ro]++ [zeQ])]
def bE:=XP bF [(3,[zeP]),(12,[zeO]),(467,[o0,ph,zeN,o0,zeM,zeL,zeK]++dK 0 Ew 474 797 243 5 [ee,Ln,Lm,y5,Eu]++dK 1 N4 481 808 249 1 [ee]++dK 2 zal 488 815 252 1 [ee]++ [zeJ,zeI,zeH,zeG,zeF,zeE,zeD])]
def bD:=XP bE [(3,[zeC]),(12,[zeB]),(502,[o0,ph,zeA,o0,zez,zey,zex]++qc 0 Ew 509 846 256 2 [ee,y6]++qc 1 N3 516 854 264 2 [ee,cH]++qc 2 UV 523 862 268 1 [ee]++zgt 3 N0 530 869 274 2++qc 4 NZ 535 875 278 2 [ee,zfV]++qc 5 Et 542 883 281 6 [ee,zae,Ln,Lm,y5,Eu]++qc 6 zak 549 895 294 6 [ee,zae,Ln,Lm,y5,Eu]++ [zct,o0,o1,zew,o0,zeu,zet,zcs,zct,o0,o1,zes,o0,zer,zeq,zcr]++qc 9 B5 572 925 306 1 [ee]++qc 10 zaj 579 932 309 1 [ee]++qc 11 NY 586 939 312 1 [ee,rn,Et]++qc 12 zai 593 948 319 1 [ee]++qc 13 zah 600 955 322 1 [ee]++qc 14 zag 607 962 325 1 [ee]++qc 15 zaf 614 969 328 1 [ee]++ [zep,zeo,zen,zem,zel,zek,zej])]
def RQ:=XP bD [(3,[zei]),(12,[zeh]),(628,zbo 30 NV 628 990 330 1++zbo 31 NU 633 996 351 1++zbo 32 NT 638 1002 353 1++zgs 33 NS 643 1008 359 3 [HG,zac,zfU,zfT,zfS,UV,zfR]++zdA 36 NR 650 1025 373 2++zbn 37 NQ 655 1031 382 4 [y6,rn,zcI,y5]++zdA 38 jx 662 1041 385 2++zbn 39 NP 667 1047 400 3 [y6,rn,S5,zcH,zcG,zcF]++zbn 40 NO 674 1059 407 1 [HG]++Fd 44 y5 681 1072 414 3 [HG,Ln,Lm,y6,pk,S5,zcG,zcF,rn,UV,Et,zcI]++Fd 45 NM 688 1090 438 1 [cK]++Fd 46 NL 695 1097 442 1 [HG,rn]++Fd 47 NK 702 1105 446 3 [cK,zcD,zfQ]++Fd 48 NJ 709 1114 448 5 [HG,S5,zfP,UV,cJ]++Fd 49 NI 716 1125 452 2 [HG,rn,y6,zcH,UV]++zgr 50 NH 723 1136 459 2++zbm 52 NG 728 1144 485 2 [zcC,cL]++zbm 53 NF 735 1152 489 1 [pu])]
def MA:=XP RQ [(3,[zeg]),(12,[zef]),(742,zbm 54 NE 742 1159 491 5 [zcC,zcD,ro,zfO,zfN,HG,B5,rn,cL,zcN,zae,Eu,Ln,Lm]++zgq 55 SZ 749 1179 510 1)]
def PR (P:Params):Heap:=absHeap (MA P) 754 {}
def zb0:List Stmt:=(TP.main.body.drop 0).take 15
def zbZ:List Stmt:=(TP.main.body.drop 15).take 1
def zbY:List Stmt:=(TP.main.body.drop 16).take 1
def zbX:List Stmt:=(TP.main.body.drop 17).take 2
def zbW:List Stmt:=(TP.main.body.drop 19).take 1
def zbV:List Stmt:=(TP.main.body.drop 20).take 2
def zbU:List Stmt:=(TP.main.body.drop 22).take 6
def zbT:List Stmt:=(TP.main.body.drop 28).take 1
def zbS:List Stmt:=(TP.main.body.drop 29).take 1
def PA:List Stmt:=(TP.main.body.drop 30).take 24
def Pz:List Stmt:=(TP.main.body.drop 54).take 2
def FQ:List Stmt:=zb0++(zbZ++(zbY++(zbX++(zbW++(zbV++(zbU++(zbT++(zbS++(PA++(Pz++([])))))))))))
def yA:Env:= {scope:=TP.main.scope,locals:=mainNs,globals:=mainNs,cells:= [],code:=(.ref 13),frame:=Qa 14}
def fp:Pos:=⟨0,0,0,0⟩
abbrev cE:Code:=Code.body FQ yA
abbrev pV:Option Value:=(Qa (.ref 6))
def zca (w:Qn):(λos=>lj bp TP w 11 pV 12 ⟨QJ w.params,Zq [],Jk,boot_toks,os⟩ (topStub TP))=λos=>Qa (⟨PU w.params,Zq [],{},187,os⟩,Thread.mk (mi bp cE) cE ⟨0,0,0,0⟩ [topFrame fp]):=by kernel_rfl
def zdv (w:Qn):(λos=>jq bp TP w 11 pV 1 1 ⟨PU w.params,Zq [],{},187,os⟩ (blockOf FQ yA cE ⟨0,0,0,0⟩ [topFrame fp]))=λos=>Qa (Flow.next,qbo (ZM (bM w.params) 15 {} (Zq []) {} 187 os),cE,⟨0,0,0,0⟩):=by kernel_rfl
def zcm (w:Qn):(λos=>bw bp TP w 11 pV 1 485 (ZM (bM w.params) 15 {} (Zq []) {} 187 os) (piecesOf zb0 yA cE ⟨0,0,0,0⟩ [topFrame fp]))=λos=>Qa (Flow.next,(ZM (bL w.params) 84 {} (Zq []) {} 279 os),cE,⟨44,0,44,8⟩):=by kernel_rfl
def zcl (w:Qn):(λos=>bw bp TP w 11 pV 1 530 (ZM (bL w.params) 84 {} (Zq []) {} 279 os) (piecesOf zbZ yA cE ⟨44,0,44,8⟩ [topFrame fp]))=λos=>Qa (Flow.next,(ZM (bK w.params) 161 {} (Zq []) {} 383 os),cE,⟨45,0,79,41⟩):=by kernel_rfl
def zck (w:Qn):(λos=>bw bp TP w 11 pV 1 529 (ZM (bK w.params) 161 {} (Zq []) {} 383 os) (piecesOf zbY yA cE ⟨45,0,79,41⟩ [topFrame fp]))=λos=>Qa (Flow.next,(ZM (bJ w.params) 238 {} (Zq []) {} 486 os),cE,⟨80,0,124,30⟩):=by kernel_rfl
def zcj (w:Qn):(λos=>bw bp TP w 11 pV 1 560 (ZM (bJ w.params) 238 {} (Zq []) {} 486 os) (piecesOf zbX yA cE ⟨80,0,124,30⟩ [topFrame fp]))=λos=>Qa (Flow.next,(ZM (bI w.params) 322 {} (Zq []) {} 598 os),cE,⟨162,0,165,12⟩):=by kernel_rfl
def zci (w:Qn):(λos=>bw bp TP w 11 pV 1 541 (ZM (bI w.params) 322 {} (Zq []) {} 598 os) (piecesOf zbW yA cE ⟨162,0,165,12⟩ [topFrame fp]))=λos=>Qa (Flow.next,(ZM (bH w.params) 401 {} (Zq []) {} 707 os),cE,⟨166,0,207,70⟩):=by kernel_rfl
def zch (w:Qn):(λos=>bw bp TP w 11 pV 1 393 (ZM (bH w.params) 401 {} (Zq []) {} 707 os) (piecesOf zbV yA cE ⟨166,0,207,70⟩ [topFrame fp]))=λos=>Qa (Flow.next,(ZM (bG w.params) 448 {} (Zq []) {} 769 os),cE,⟨228,0,230,29⟩):=by kernel_rfl
def zcg (w:Qn):(λos=>bw bp TP w 11 pV 1 331 (ZM (bG w.params) 448 {} (Zq []) {} 769 os) (piecesOf zbU yA cE ⟨228,0,230,29⟩ [topFrame fp]))=λos=>Qa (Flow.next,(ZM (bF w.params) 467 {} (Zq []) {} 785 os),cE,⟨240,0,240,3⟩):=by kernel_rfl
def zcf (w:Qn):(λos=>bw bp TP w 11 pV 1 291 (ZM (bF w.params) 467 {} (Zq []) {} 785 os) (piecesOf zbT yA cE ⟨240,0,240,3⟩ [topFrame fp]))=λos=>Qa (Flow.next,(ZM (bE w.params) 502 {} (Zq []) {} 834 os),cE,⟨241,0,253,17⟩):=by kernel_rfl
def zce (w:Qn):(λos=>bw bp TP w 11 pV 1 718 (ZM (bE w.params) 502 {} (Zq []) {} 834 os) (piecesOf zbS yA cE ⟨241,0,253,17⟩ [topFrame fp]))=λos=>Qa (Flow.next,(ZM (bD w.params) 628 {} (Zq []) {} 990 os),cE,⟨254,0,329,17⟩):=by kernel_rfl
def SA (w:Qn):(λos=>bw bp TP w 11 pV 1 596 (ZM (bD w.params) 628 {} (Zq []) {} 990 os) (piecesOf PA yA cE ⟨254,0,329,17⟩ [topFrame fp]))=λos=>Qa (Flow.next,(ZM (RQ w.params) 742 {} (Zq []) {} 1159 os),cE,⟨489,0,490,147⟩):=by kernel_rfl
def Sz (w:Qn):(λos=>bw bp TP w 11 pV 1 69 (ZM (RQ w.params) 742 {} (Zq []) {} 1159 os) (piecesOf Pz yA cE ⟨489,0,490,147⟩ [topFrame fp]))=λos=>Qa (Flow.next,(ZM (MA w.params) 754 {} (Zq []) {} 1185 os),cE,⟨510,0,533,57⟩):=by kernel_rfl
def zdl (w:Qn):(λos=>jo bp TP w 11 pV 2 (qbo (ZM (MA w.params) 754 {} (Zq []) {} 1185 os)) (Thread.mk (doneF Flow.next) cE ⟨510,0,533,57⟩ [topFrame fp]))=λos=>Qa (⟨PR w.params,Zq [],{},1185,os⟩):=by kernel_rfl
abbrev R8:Nat:=(12+(1+(485+(530+(529+(560+(541+(393+(331+(291+(718+(596+(69+2)))))))))))))
def gT {w:Qn}{n:Nat}{s:Qe}{t:Jp}{x} (h:lj bp TP w 11 pV n s t=x):topGo treeTable TP w 11 pV n s t=x:=by rw [Dj,oH];exact h
def gU {w:Qn}{n:Nat}{s:Qe}{t:Jp}{x} (h:jq bp TP w 11 pV 1 n s t=x):segRun treeTable TP w 11 pV 1 n s t=x:=by rw [Hb,oH];exact h
theorem qx {w:Qn}{n:Nat}{s s':SharedT}{t:Jp}{f:Jo}{c:Code}{q:Pos} (h:bw bp TP w 11 pV 1 n s t=Qa (f,s',c,q)):segRun treeTable TP w 11 pV 1 n s.abs t=Qa (f,s'.abs,c,q):=segRun_of (by rw [Gu,oH];exact h)
def gR {w:Qn}{n:Nat}{s:Qe}{t:Jp}{x} (h:jo bp TP w 11 pV n s t=x):topRun treeTable TP w 11 pV n s t=x:=by rw [Ha,oH];exact h
theorem zd7 (w:Qn) (os:OsState):topRun treeTable TP w 11 pV R8 ⟨QJ w.params,Zq [],Jk,boot_toks,os⟩ (topStub TP)=Qa ⟨PR w.params,Zq [],{},1185,os⟩:=
 go_top (gT (by have h:=congrFun (zca w) os;rw [<-oH,<-Hc] at h;rw [<-oH];exact h)) (piece_block (gU (congrFun (zdv w) os)) (Qv (qx (congrFun (zcm w) os)) (Qv (qx (congrFun (zcl w) os)) (Qv (qx (congrFun (zck w) os)) (Qv (qx (congrFun (zcj w) os)) (Qv (qx (congrFun (zci w) os)) (Qv (qx (congrFun (zch w) os)) (Qv (qx (congrFun (zcg w) os)) (Qv (qx (congrFun (zcf w) os)) (Qv (qx (congrFun (zce w) os)) (Qv (qx (congrFun (SA w) os)) (Qv (qx (congrFun (Sz w) os)) (gR (congrFun (zdl w) os))))))))))))))
def a8:List Addr:=J3 0 23++(J3 29 4++(J3 35 49++(J3 91 68++(J3 168 68++(J3 245 68++(J3 315 7++(J3 329 70++([401]++(J3 408 31++(J3 441 26++(J3 474 26++(J3 509 117++(J3 628 126)))))))))))))
def KK (P:Params):Frag:=a8.map λa=>(a,XG (MA P) a)
abbrev yQ:Nat:=754
abbrev Px:Nat:=1185
abbrev m00:Nat:=11
def b0 (p:Qt):Program:= {p with main:= {p.main with body:=p.main.body.drop 55} }
def zaw:List PySem.Str:= [zd,aX,aV,zc,zb,rp,xy,xx,xw,xu,xt,xr,za,vf,vc,vb,xq,pj,Wl,Ey,N8,y6,N7,N6,N5,Ll,UW,NV,NU,NT,NS,zaa,NR,NQ,jx,NP,NO,S9,S8,y5,NM,NL,NK,NJ,NI,NH,NG,NF,NE]
abbrev NN:Nat:=7000
theorem Cu: ∀P,a8=(KK P).map (·.1):=λP=>by kernel_rfl
theorem xc {w:Qn}{s t:Qe} (y:obsZ a8 s=valZ KK yQ Px w) (k: ∀b o,s.heap.get? b=Qa o->t.heap.get? b=Qa o):Frag.In (KK w.params) t.heap/\s.heap.objs.size=nat_lit 754/\s.toks=nat_lit 1185:=
 ⟨InK.keeps w s.heap t.heap (z_facts Cu y).2.1 k,(z_facts Cu y).2.2.1,(z_facts Cu y).2.2.2⟩
theorem zaV: ∀w:Qn,(fencedOpening treeTable TP w NN).map (λs=>(s.heap,s.gens,s.drawn,s.toks))=Qa (QJ w.params,Zq [],Jk,boot_toks):=
 boot_open (p:=TP) (N:=NN) (by kernel_rfl) (by decide) (λs=>by rfl)
theorem zaU : ∀ w : Qn,((QJ w.params).isNs mainGlobals && (Zq [] : Array GenState).size == 0,(QJ w.params).objs.size,(QJ w.params).nsMap mainGlobals "__annotations__") = (Qf,11,pV) := λw => by kernel_rfl
abbrev pw:Program:=PySem.Challenge.pw_ui0508_12
def zg:LeftO pw (b0 pw) zaw (λs=>xlAt (b0 pw) [] s && recOk [] s) (obsZ a8) (valZ KK yQ Px) NN:=by
 exact LeftO.of_pieces (p:=TP) (g0:=Qf) zaV zaU zd7 (by decide) (λw=>by kernel_rfl)
abbrev QQ (s₀ s₁:Qe) (ns:List Int):Value->Qe->Prop:=λv s'=>Jl PySem.Challenge.rw_ui0508_12.row.claim (classAt s₀.heap) (ExcName.means s₀.heap) [ofPy (YK (Xs YZ ns))] s₁ (.ok (.ret v)) s'
abbrev EE (s₀ s₁:Qe) (ns:List Int):Value->Qe->Prop:=λe s'=>Jl PySem.Challenge.rw_ui0508_12.row.claim (classAt s₀.heap) (ExcName.means s₀.heap) [ofPy (YK (Xs YZ ns))] s₁ (.error e) s'
theorem small {p:Qt}{w:Qn}{A:Qo}{t:Sem Value}{s₀ s₁ s:Qe}{ns:List Int} (h:Qj (model p w) A t (QQ s₀ s₁ ns) (EE s₀ s₁ ns) s):
  Qj (model p w) A t (λv s'=>Jl PySem.Challenge.rw_ui0508_12.row.claim (classAt s₀.heap) (ExcName.means s₀.heap) [ofPy (YK (Xs YZ ns))] s₁ (.ok (.ret v)) s')
   (λe s'=>Jl PySem.Challenge.rw_ui0508_12.row.claim (classAt s₀.heap) (ExcName.means s₀.heap) [ofPy (YK (Xs YZ ns))] s₁ (.error e) s') s:=h
end Tactic
namespace Tactic
open Internal
abbrev tn:Nat:=1954115685
abbrev jj:Nat:=491260897125
abbrev uz:Nat:=126922498794852
abbrev tm:Nat:=1852138852
abbrev we:Nat:=1851878757
abbrev ri:Nat:=504397587826
abbrev rh:Nat:=465726563698
abbrev th:Nat:=131277443786868
abbrev ly:Nat:=127961880028532
abbrev jv:Nat:=1919512167
abbrev qH:Nat:=1634886515
abbrev Wi:Nat:=1701733491
abbrev Lg:Nat:=495873782388
abbrev Eo:Nat:=439855772532
abbrev BQ:Nat:=104880676367988
abbrev SP:Nat:=450661264077055929053037
abbrev En:Nat:=107135549927012
abbrev nW:Nat:=121424990136436
abbrev Nv:Nat:=495873782885
abbrev BO:Nat:=521330740336550618428517
abbrev Lf:Nat:=7598521885536580729
abbrev p8:Nat:=1936292453
abbrev Nu:Nat:=422608071022
abbrev Vv:Nat:=1886156147
abbrev HF:Nat:=1937006962
abbrev uW:Nat:=499984983411
abbrev zcv:Nat:=1925483444799026525305
def c5:List (PySem.Str×aa):= [(zb,(.str [32,9,10,58,47,95,91,93,62,35,59,63,61])),((XN 0x1bb2ec),(.bi 7103854)),((XN 0x1cba73),(.ty 7566450)),((XN 0xcbc3cf4),(.ty tn)),(rp,(.ah 100)),(xy,(.ah 101)),(xr,(.ah 102)),(xx,(.ah 103)),((XN 0x1d3769),(.ty 6909556)),((XN 0x1e30ed),(.bi 7168376)),((XN 0x1bb4ed),(.bi 7170414)),(zc,(.int (10 ^ 4000))),(xq,(.ah 109)),((XN 0x65d9c3af4),(.ty 500186508389)),(Ey,(.ah 110)),(pj,(.ah 111)),(N8,(.fl [.ah 112,.ah 113,.ah 114,.ah 115,.ah 116])),(y5,(.ah 106)),(y6,(.ah 105)),(N7,(.int 20000)),((XN 0x65cfbb0f2),(.ty jj)),(xt,(.ah 117)),(Ll,(.ah 118)),(N6,(.int 200000)),(xw,(.ah 119)),(N5,(.ah 120)),(UW,(.ah 121)),(NT,(.ah 123)),(NS,(.ah 124)),(NU,(.ah 125)),((XN 0xe9cf4ec),(.ty 1818850164)),(zaa,(.int 2000)),(NQ,(.ah 104)),((XN 0xe98f4e4),(.ty 1684628340)),((XN 0x3265e9cb7f3),(.bi uz)),(jx,(.ah 107)),(NR,(.ah 108)),(NJ,(.ah 126)),(NI,(.ah 127)),(NL,(.ah 128)),(NK,(.ah 129)),(NM,(.ah 130)),(NO,(.ah 131)),(NP,(.ah 132)),(NV,(.ah 133)),(S8,(.int 200)),(xu,(.ah 134)),(S9,(.int 20000)),(NG,(.ah 137)),(NF,(.ah 138)),(NE,(.ah 139)),(NH,(.ah 141))]
def pN:List Sm:= [.ret (.gy Qb [.ba .is (.call (.lit (.ty tn)) [.var 0]) (.lit (.ty 7566450)),.ba .eq (.call (.lit (.bi 7103854)) [.var 0]) (.lit (.int 1)),.ba .fy (.var 0) (.lit (.str [32,9,10,58,47,95,91,93,62,35,59,63,61])),.not (.ao (.var 0) 29681812198482789 [])])]
def u6:Fn:=⟨101,1,[],7,pN⟩
def nY:List Sm:= [.ite (.not (.call (.lit (.ah 101)) [.var 0])) [.cf] [],.ret (.var 0)]
def sW:Fn:=⟨103,1,[],7,nY⟩
def oZ:List Sm:= [.ite (.ba .ne (.var 0) (.lit (.str []))) [.expr (.call (.lit (.ah 103)) [.var 0])] [],.ret (.var 0)]
def tN:Fn:=⟨119,1,[],7,oZ⟩
def pM:List Sm:= [.ite (.ba .dw (.call (.lit (.ty tn)) [.var 0]) (.lit (.ty 7566450))) [.cf] [],.fo [1] Qb (.var 0) [.expr (.call (.lit (.ah 103)) [.var 1])],.ret (.var 0)]
def u5:Fn:=⟨134,1,[],8,pM⟩
def o7:List Sm:= [.ite (.gy Qf [.ba .dw (.call (.lit (.ty tn)) [.var 0]) (.lit (.ty 6909556)),.ba .lt (.var 0) (.var 1),.ba .gt (.var 0) (.var 2)]) [.cf] [],.ret (.var 0)]
def tO:Fn:=⟨117,4,[],10,o7⟩
def L4:List Sm:= [.ite (.gy Qf [.ba .dw (.call (.lit (.ty tn)) [.var 1]) (.lit (.ty 6909556)),.ba .lt (.var 1) (.lit (.int 0)),.ba .gt (.var 1) (.lit (.int 1))]) [.cf] [],.ret (.var 1)]
def LK:Fn:=⟨142,2,[],8,L4⟩
def L3:List Sm:= [.ret (.call (.lit (.bi 7168376)) [.var 1,.var 2])]
def LJ:Fn:=⟨143,3,[],9,L3⟩
def Gl:List Sm:= [.ret (.call (.lit (.bi 7170414)) [.var 1,.var 2])]
def U9:Fn:=⟨144,3,[],9,Gl⟩
def LZ:List Sm:= [.ret (.lit (.int 1))]
def LI:Fn:=⟨145,2,[],8,LZ⟩
def vE:List Sm:= [.ite (.gy Qb [.ba .dw (.var 1) (.lit .none),.gy Qf [.ba .dw (.call (.lit (.ty tn)) [.var 1]) (.lit (.ty 6909556)),.ba .lt (.var 1) (.lit (.int 0)),.ba .ge (.var 1) (.lit (.int (10 ^ 4000)))]]) [.cf] [],.ret (.var 1)]
def VG:Fn:=⟨147,2,[],8,vE⟩
def VP:List Sm:= [.ite (.ba .is (.var 1) (.lit .none)) [.ret (.var 2)] [],.ite (.ba .is (.var 2) (.lit .none)) [.ret (.var 1)] [],.ret (.call (.lit (.bi 7170414)) [.var 1,.var 2])]
def VF:Fn:=⟨148,3,[],9,VP⟩
def W9:List Sm:= [.ite (.gy Qf [.ba .is (.var 1) (.lit .none),.ba .is (.var 2) (.lit .none)]) [.ret (.lit .none)] [],.ret (.bj .add (.var 1) (.var 2))]
def WJ:Fn:=⟨149,3,[],9,W9⟩
def VN:List Sm:= [.ret (.lit (.int 0))]
def VE:Fn:=⟨150,2,[],8,VN⟩
def vG:List Sm:= [.ite (.gy Qf [.ba .dw (.call (.lit (.ty tn)) [.var 1]) (.lit (.ty 6909556)),.ba .lt (.var 1) (.lit (.int 0)),.ba .ge (.var 1) (.lit (.int (10 ^ 4000)))]) [.cf] [],.ret (.var 1)]
def VJ:Fn:=⟨152,2,[],8,vG⟩
def VT:List Sm:= [.ret (.bj .add (.var 1) (.var 2))]
def VI:Fn:=⟨153,3,[],9,VT⟩
def tX:List Sm:= [.ret (.bj .mul (.var 1) (.var 2))]
def WK:Fn:=⟨154,3,[],9,tX⟩
def VQ:List Sm:= [.ite (.ba .ne (.var 1) (.lit (.int 0))) [.cf] [],.ret (.lit (.int 1))]
def VH:Fn:=⟨155,2,[],8,VQ⟩
def vD:List Sm:= [.wh (.ba .gt (.var 1) (.lit (.int 0))) [.jn [.nm 0,.nm 1] (.az [.var 1,.bj .mod (.var 0) (.var 1)])],.ret (.var 0)]
def VD:Fn:=⟨109,2,[],8,vD⟩
def tZ:List Sm:= [.ite (.gy Qf [.ba .dw (.call (.lit (.ty tn)) [.var 1]) (.lit (.ty 500186508389)),.ba .ne (.call (.lit (.bi 7103854)) [.var 1]) (.lit (.int 2)),.ba .dw (.call (.lit (.ty tn)) [.sub (.var 1) (.lit (.int 0))]) (.lit (.ty 6909556)),.ba .dw (.call (.lit (.ty tn)) [.sub (.var 1) (.lit (.int 1))]) (.lit (.ty 6909556))]) [.cf] [],.ite (.gy Qf [.ba .lt (.sub (.var 1) (.lit (.int 0))) (.lit (.int 0)),.ba .lt (.sub (.var 1) (.lit (.int 1))) (.lit (.int 1)),.ba .ge (.sub (.var 1) (.lit (.int 0))) (.lit (.int (10 ^ 4000))),.ba .ge (.sub (.var 1) (.lit (.int 1))) (.lit (.int (10 ^ 4000))),.ba .ne (.call (.lit (.ah 109)) [.sub (.var 1) (.lit (.int 1)),.sub (.var 1) (.lit (.int 0))]) (.lit (.int 1))]) [.cf] [],.ret (.var 1)]
def WO:Fn:=⟨157,2,[],8,tZ⟩
def tY:List Sm:= [.ret (.call (.lit (.ah 110)) [.bj .add (.bj .mul (.sub (.var 1) (.lit (.int 0))) (.sub (.var 2) (.lit (.int 1)))) (.bj .mul (.sub (.var 2) (.lit (.int 0))) (.sub (.var 1) (.lit (.int 1)))),.bj .mul (.sub (.var 1) (.lit (.int 1))) (.sub (.var 2) (.lit (.int 1)))])]
def WN:Fn:=⟨158,3,[],9,tY⟩
def sS:List Sm:= [.ret (.call (.lit (.ah 110)) [.bj .mul (.sub (.var 1) (.lit (.int 0))) (.sub (.var 2) (.lit (.int 0))),.bj .mul (.sub (.var 1) (.lit (.int 1))) (.sub (.var 2) (.lit (.int 1)))])]
def zC:Fn:=⟨159,3,[],9,sS⟩
def Va:List Sm:= [.ite (.ba .ge (.sub (.var 1) (.lit (.int 0))) (.sub (.var 1) (.lit (.int 1)))) [.cf] [],.ret (.call (.lit (.ah 110)) [.sub (.var 1) (.lit (.int 1)),.bj .sub (.sub (.var 1) (.lit (.int 1))) (.sub (.var 1) (.lit (.int 0)))])]
def WL:Fn:=⟨160,2,[],8,Va⟩
def tW:List Sm:= [.expr (.ao (.lit (.ah 111)) tm [.var 0,.var 1]),.ite (.ba .gt (.sub (.var 1) (.lit (.int 0))) (.sub (.var 1) (.lit (.int 1)))) [.cf] [],.ret (.var 1)]
def WH:Fn:=⟨161,2,[],8,tW⟩
def tV:List Sm:= [.ite (.ba .lt (.bj .mul (.sub (.var 1) (.lit (.int 0))) (.sub (.var 2) (.lit (.int 1)))) (.bj .mul (.sub (.var 2) (.lit (.int 0))) (.sub (.var 1) (.lit (.int 1))))) [.ret (.var 2)] [],.ret (.var 1)]
def WG:Fn:=⟨162,3,[],9,tV⟩
def W8:List Sm:= [.ret (.af (.var 0) 7302757)]
def WD:Fn:=⟨163,2,[],8,W8⟩
def qR:List Sm:= [.bg (.nm 2) (.call (.lit (.ah 109)) [.var 1,.var 0]),.ret (.az [.bj .fdiv (.var 0) (.var 2),.bj .fdiv (.var 1) (.var 2)])]
def xD:Fn:=⟨110,2,[],9,qR⟩
def VM:List Sm:= [.fo [1] Qb (.lit (.fl [.ah 112,.ah 113,.ah 114,.ah 115,.ah 116])) [.ite (.ba .eq (.af (.var 1) we) (.var 0)) [.ret (.var 1)] []],.cf]
def VC:Fn:=⟨105,1,[],8,VM⟩
def yY:List Sm:= [.bg (.at (.var 0) ri) (.var 1),.bg (.at (.var 0) rh) (.var 2),.bg (.at (.var 0) th) (.var 3),.bg (.at (.var 0) ly) (.var 4)]
def LL:Fn:=⟨166,5,[],11,yY⟩
def sT:List Sm:= [.ret (.gy Qb [.ba .eq (.af (.var 0) ri) (.lit (.str [])),.ba .eq (.af (.var 0) rh) (.lit (.str []))])]
def zD:Fn:=⟨165,1,[],7,sT⟩
def sQ:List Sm:= [.bg (.at (.var 0) jv) (.var 1),.bg (.at (.var 0) qH) (.list []),.bg (.at (.var 0) Wi) (.list []),.bg (.at (.var 0) Lg) (.lit (.int 0)),.bg (.at (.var 0) Eo) (.af (.var 1) 7302757),.bg (.at (.var 0) BQ) (.lit (.int 0))]
def zB:Fn:=⟨177,2,[],8,sQ⟩
def oA:List Sm:= [.ite (.ba .gt (.bj .add (.call (.lit (.bi 7103854)) [.af (.var 0) qH]) (.var 1)) (.lit (.int 20000))) [.cf] []]
def sZ:Fn:=⟨167,2,[],8,oA⟩
def rF:List Sm:= [.expr (.ao (.var 0) SP [.lit (.int 1)]),.expr (.ao (.af (.var 0) qH) En [.list []]),.expr (.ao (.af (.var 0) Wi) En [.af (.af (.var 0) jv) nW]),.ret (.bj .sub (.call (.lit (.bi 7103854)) [.af (.var 0) qH]) (.lit (.int 1)))]
def x8:Fn:=⟨168,1,[],7,rF⟩
def qS:List Sm:= [.expr (.ao (.var 0) SP [.var 1]),.ret (.comp (.ao (.var 0) Nv []) [2] Qb (.call (.lit (.ty jj)) [.var 1]) [])]
def xF:Fn:=⟨169,2,[],8,qS⟩
def nZ:List Sm:= [.ret (.call (.lit (.ah 117)) [.var 1,.lit (.int 0),.bj .sub (.call (.lit (.bi 7103854)) [.af (.var 0) qH]) (.lit (.int 1)),.lit (.str [115,116,97,116,101])])]
def sY:Fn:=⟨170,2,[],8,nZ⟩
def tU:List Sm:= [.expr (.ao (.var 0) BO [.var 1]),.expr (.ao (.var 0) BO [.var 5]),.expr (.call (.lit (.ah 119)) [.var 2]),.expr (.call (.lit (.ah 119)) [.var 3]),.expr (.ao (.af (.var 0) jv) tm [.var 4]),.ite (.ba .eq (.var 4) (.af (.af (.var 0) jv) nW)) [.ret (.lit .none)] [],.ite (.ba .ge (.af (.var 0) BQ) (.lit (.int 200000))) [.cf] [],.bg (.at (.var 0) BQ) (.bj .add (.af (.var 0) BQ) (.lit (.int 1))),.expr (.ao (.sub (.af (.var 0) qH) (.var 1)) En [.call (.lit (.ah 118)) [.var 2,.var 3,.var 4,.var 5]])]
def Wz:Fn:=⟨171,6,[],12,tU⟩
def rG:List Sm:= [.expr (.ao (.var 0) BO [.var 1]),.bg (.at (.var 0) Eo) (.ite (.ba .is (.var 2) (.lit (.ah 120))) (.af (.af (.var 0) jv) 7302757) (.ao (.af (.var 0) jv) tm [.var 2])),.bg (.at (.var 0) Lg) (.var 1)]
def ek:Fn:=⟨172,3,[(aa.ah 120)],9,rG⟩
def qF:List Sm:= [.expr (.ao (.var 0) BO [.var 1]),.bg (.sb (.af (.var 0) Wi) (.var 1)) (.ite (.ba .is (.var 2) (.lit (.ah 120))) (.af (.af (.var 0) jv) 7302757) (.ao (.af (.var 0) jv) tm [.var 2]))]
def fg:Fn:=⟨173,3,[(aa.ah 120)],9,qF⟩
def sP:List Sm:= [.ret (.call (.lit (.bi 7103854)) [.af (.var 0) qH])]
def zA:Fn:=⟨174,1,[],7,sP⟩
def pA:List Sm:= [.fo [1] Qb (.af (.var 0) qH) [.fo [2] Qb (.var 1) [.ite (.ao (.var 2) Lf []) [.ret (.lit (.bool Qf))] []]],.ret (.lit (.bool Qb))]
def tP:Fn:=⟨175,1,[],9,pA⟩
def mU:List Sm:= [.ite (.ba .eq (.ao (.var 0) p8 []) (.lit (.int 0))) [.cf] [],.bg (.nm 1) (.call (.lit (.ah 124)) [.var 0,.list [.af (.var 0) Lg],.call (.lit (.ah 125)) [.var 0]]),.bg (.nm 3) (.comp (.var 9) [9] Qb (.call (.lit (.ty jj)) [.ao (.var 0) p8 []]) [.ba .ne (.sub (.af (.var 0) Wi) (.var 9)) (.af (.af (.var 0) jv) nW)]),.bg (.nm 4) (.call (.lit (.ah 124)) [.var 0,.var 3,.call (.lit (.ah 123)) [.var 0]]),.bg (.nm 5) (.comp (.var 9) [9] Qb (.call (.lit (.ty jj)) [.ao (.var 0) p8 []]) [.gy Qb [.sub (.var 1) (.var 9),.sub (.var 4) (.var 9)]]),.bg (.nm 6) (.call (.lit (.ah 121)) [.af (.var 0) jv]),.ite (.gy Qf [.ba .fy (.af (.var 0) Lg) (.var 5),.ba .eq (.af (.var 0) Eo) (.af (.af (.var 0) jv) nW)]) [.expr (.ao (.var 6) Nv []),.ret (.var 6)] [],.bg (.nm 7) (.dict []),.fo [2] Qb (.var 5) [.bg (.sb (.var 7) (.var 2)) (.ao (.var 6) Nv [])],.fo [2] Qb (.var 5) [.fo [8] Qb (.sub (.af (.var 0) qH) (.var 2)) [.ite (.ba .jm (.af (.var 8) ly) (.var 7)) [.expr (.ao (.var 6) 6386275 [.sub (.var 7) (.var 2),.af (.var 8) ri,.af (.var 8) rh,.af (.var 8) th,.sub (.var 7) (.af (.var 8) ly)])] []],.bg (.sb (.af (.var 6) Wi) (.sub (.var 7) (.var 2))) (.sub (.af (.var 0) Wi) (.var 2))],.expr (.ao (.var 6) Nu [.sub (.var 7) (.af (.var 0) Lg),.af (.var 0) Eo]),.ret (.var 6)]
def y8:Fn:=⟨133,1,[],15,mU⟩
def qE:List Sm:= [.ret (.comp (.comp (.af (.var 2) ly) [2] Qb (.var 1) []) [1] Qb (.af (.var 0) qH) [])]
def vS:Fn:=⟨125,1,[],7,qE⟩
def oY:List Sm:= [.bg (.nm 1) (.comp (.list []) [4] Qb (.af (.var 0) qH) []),.fo [2] Qb (.call (.lit (.ty jj)) [.ao (.var 0) p8 []]) [.fo [3] Qb (.sub (.af (.var 0) qH) (.var 2)) [.expr (.ao (.sub (.var 1) (.af (.var 3) ly)) En [.var 2])]],.ret (.var 1)]
def tM:Fn:=⟨123,1,[],10,oY⟩
def sO:List Sm:= [.bg (.nm 3) (.bj .mul (.list [.lit (.bool Qb)]) (.ao (.var 0) p8 [])),.bg (.nm 4) (.call (.lit (.ty 1818850164)) [.var 1]),.fo [5] Qb (.var 4) [.bg (.sb (.var 3) (.var 5)) (.lit (.bool Qf))],.wh (.ba .gt (.call (.lit (.bi 7103854)) [.var 4]) (.lit (.int 0))) [.bg (.nm 5) (.ao (.var 4) 7368560 []),.fo [6] Qb (.sub (.var 2) (.var 5)) [.ite (.not (.sub (.var 3) (.var 6))) [.bg (.sb (.var 3) (.var 6)) (.lit (.bool Qf)),.expr (.ao (.var 4) En [.var 6])] []]],.ret (.var 3)]
def y9:Fn:=⟨124,3,[],13,sO⟩
def tT:List Sm:= [.ite (.ba .gt (.ao (.var 0) p8 []) (.lit (.int 2000))) [.cf] [],.bg (.nm 2) (.comp (.dict []) [5] Qb (.af (.var 0) qH) []),.fo [3] Qb (.call (.lit (.ty jj)) [.ao (.var 0) p8 []]) [.fo [4] Qb (.sub (.af (.var 0) qH) (.var 3)) [.ite (.gy Qf [.ao (.var 4) Lf [],.not (.var 1)]) [.expr (.call (.lit (.ah 104)) [.af (.var 0) jv,.sub (.var 2) (.var 3),.af (.var 4) ly,.af (.var 4) th])] []]],.ret (.var 2)]
def Wy:Fn:=⟨108,2,[],11,tT⟩
def sG:List Sm:= [.ite (.ba .ne (.var 3) (.af (.var 0) nW)) [.bg (.sb (.var 1) (.var 2)) (.ao (.var 0) Vv [.ao (.var 1) 6776180 [.var 2,.af (.var 0) nW],.var 3])] []]
def U6:Fn:=⟨104,4,[],10,sG⟩
def vB:List Sm:= [.bg (.nm 2) (.comp (.call (.lit (.ty 1684628340)) [.var 9]) [9] Qb (.var 1) []),.fo [3] Qb (.call (.lit (.ty jj)) [.call (.lit (.bi 7103854)) [.var 2]]) [.bg (.nm 4) (.call (.lit (.ty 1684628340)) [.sub (.var 2) (.var 3)]),.ite (.ba .eq (.call (.lit (.bi 7103854)) [.var 4]) (.lit (.int 0))) [.cont] [],.bg (.nm 5) (.ao (.var 0) HF [.ao (.var 4) 6776180 [.var 3,.af (.var 0) nW]]),.fo [6] Qb (.call (.lit (.ty jj)) [.call (.lit (.bi 7103854)) [.var 2]]) [.ite (.ba .jm (.var 3) (.sub (.var 2) (.var 6))) [.bg (.nm 7) (.ao (.var 0) uW [.sub (.sub (.var 2) (.var 6)) (.var 3),.var 5]),.fo [8] Qb (.call (.lit (.bi uz)) [.var 4]) [.expr (.call (.lit (.ah 104)) [.var 0,.sub (.var 2) (.var 6),.var 8,.ao (.var 0) uW [.var 7,.sub (.var 4) (.var 8)]])]] []]],.fo [3] Qb (.call (.lit (.ty jj)) [.call (.lit (.bi 7103854)) [.var 2]]) [.expr (.call (.lit (.ah 104)) [.var 0,.sub (.var 2) (.var 3),.var 3,.af (.var 0) 7302757])],.ret (.var 2)]
def Vy:Fn:=⟨107,2,[],15,vB⟩
def qC:List Sm:= [.bg (.nm 3) (.bj .mul (.list [.af (.var 0) nW]) (.call (.lit (.bi 7103854)) [.var 1])),.fo [4] Qb (.call (.lit (.ty jj)) [.call (.lit (.bi 7103854)) [.var 1]]) [.ite (.ba .ne (.sub (.var 1) (.var 4)) (.af (.var 0) nW)) [.fo [5] Qb (.call (.lit (.bi uz)) [.sub (.var 2) (.var 4)]) [.bg (.sb (.var 3) (.var 5)) (.ao (.var 0) Vv [.sub (.var 3) (.var 5),.ao (.var 0) uW [.sub (.var 1) (.var 4),.sub (.sub (.var 2) (.var 4)) (.var 5)]])]] []],.ret (.var 3)]
def vP:Fn:=⟨132,3,[],12,qC⟩
def pK:List Sm:= [.ite (.not (.ao (.var 0) zcv [])) [.ret (.lit .none)] [],.ret (.call (.lit (.ah 107)) [.af (.var 0) jv,.call (.lit (.ah 108)) [.var 0,.lit (.bool Qf)]])]
def u2:Fn:=⟨131,1,[],7,pK⟩
def mW:List Sm:= [.expr (.call (.lit (.ah 130)) [.var 1]),.expr (.call (.lit (.ah 130)) [.var 2]),.bg (.nm 3) (.af (.var 0) jv),.bg (.nm 0) (.call (.lit (.ah 133)) [.var 0]),.bg (.nm 4) (.call (.lit (.ah 131)) [.var 0]),.bg (.nm 5) (.dict [.az [.lit (.int 0),.lit (.int 0)],.call (.lit (.ah 128)) [.var 0]]),.fo [6] Qb (.call (.lit (.ty jj)) [.bj .add (.call (.lit (.bi 7103854)) [.var 1]) (.lit (.int 1))]) [.fo [7] Qb (.call (.lit (.ty jj)) [.bj .add (.call (.lit (.bi 7103854)) [.var 2]) (.lit (.int 1))]) [.bg (.nm 8) (.ao (.var 5) 6776180 [.az [.var 6,.var 7]]),.ite (.ba .is (.var 8) (.lit .none)) [.cont] [],.ite (.ba .dw (.var 4) (.lit .none)) [.bg (.nm 8) (.call (.lit (.ah 132)) [.var 3,.var 8,.var 4]),.bg (.sb (.var 5) (.az [.var 6,.var 7])) (.var 8)] [],.fo [9] Qb (.call (.lit (.ty jj)) [.ao (.var 0) p8 []]) [.ite (.ba .eq (.sub (.var 8) (.var 9)) (.af (.var 3) nW)) [.cont] [],.fo [10] Qb (.sub (.af (.var 0) qH) (.var 9)) [.ite (.gy Qf [.ao (.var 10) Lf [],.not (.call (.lit (.ah 129)) [.var 1,.var 6,.af (.var 10) ri]),.not (.call (.lit (.ah 129)) [.var 2,.var 7,.af (.var 10) rh])]) [.cont] [],.bg (.nm 11) (.az [.bj .add (.var 6) (.call (.lit (.bi 7103854)) [.af (.var 10) ri]),.bj .add (.var 7) (.call (.lit (.bi 7103854)) [.af (.var 10) rh])]),.expr (.call (.lit (.ah 126)) [.var 0,.var 5,.var 11,.af (.var 10) ly,.ao (.var 3) uW [.sub (.var 8) (.var 9),.af (.var 10) th]])]]]],.ret (.call (.lit (.ah 127)) [.var 0,.ao (.var 5) 6776180 [.az [.call (.lit (.bi 7103854)) [.var 1],.call (.lit (.bi 7103854)) [.var 2]]]])]
def Vz:Fn:=⟨106,3,[],18,mW⟩
def qD:List Sm:= [.expr (.call (.lit (.ah 134)) [.var 0]),.ite (.ba .gt (.call (.lit (.bi 7103854)) [.var 0]) (.lit (.int 200))) [.cf] []]
def vQ:Fn:=⟨130,1,[],7,qD⟩
def vC:List Sm:= [.bg (.nm 1) (.bj .mul (.list [.af (.af (.var 0) jv) nW]) (.ao (.var 0) p8 [])),.bg (.sb (.var 1) (.af (.var 0) Lg)) (.af (.var 0) Eo),.ret (.var 1)]
def VA:Fn:=⟨128,1,[],8,vC⟩
def xQ:List Sm:= [.ret (.gy Qf [.ba .eq (.var 2) (.lit (.str [])),.ba .eq (.slice (.var 0) 3 [.var 1,.bj .add (.var 1) (.lit (.int 1))]) (.var 2)])]
def U8:Fn:=⟨129,3,[],9,xQ⟩
def qQ:List Sm:= [.ite (.ba .fy (.var 2) (.var 1)) [.bg (.sb (.var 1) (.var 2)) (.bj .mul (.list [.af (.af (.var 0) jv) nW]) (.ao (.var 0) p8 []))] [],.bg (.sb (.sub (.var 1) (.var 2)) (.var 3)) (.ao (.af (.var 0) jv) Vv [.sub (.sub (.var 1) (.var 2)) (.var 3),.var 4])]
def LH:Fn:=⟨126,5,[],11,qQ⟩
def qX:List Sm:= [.bg (.nm 2) (.af (.var 0) jv),.bg (.nm 3) (.af (.var 2) nW),.ite (.ba .dw (.var 1) (.lit .none)) [.fo [4] Qb (.call (.lit (.ty jj)) [.ao (.var 0) p8 []]) [.bg (.nm 3) (.ao (.var 2) Vv [.var 3,.ao (.var 2) uW [.sub (.var 1) (.var 4),.sub (.af (.var 0) Wi) (.var 4)]])]] [],.ret (.ao (.var 2) tm [.var 3])]
def VB:Fn:=⟨127,2,[],11,qX⟩
def m8:List Sm:= [.expr (.call (.lit (.ah 117)) [.var 1,.lit (.int 0),.lit (.int 200),.lit (.str [108,101,110,103,116,104])]),.bg (.nm 2) (.af (.var 0) jv),.bg (.nm 0) (.call (.lit (.ah 133)) [.var 0]),.bg (.nm 3) (.call (.lit (.ah 131)) [.var 0]),.bg (.nm 4) (.dict [.az [.lit (.str []),.lit (.str [])],.call (.lit (.ah 128)) [.var 0]]),.fo [5] Qb (.call (.lit (.ty jj)) [.bj .add (.bj .mul (.lit (.int 2)) (.var 1)) (.lit (.int 1))]) [.fo [6] Qb (.call (.lit (.bi uz)) [.comp (.var 12) [12] Qb (.var 4) [.ba .eq (.bj .add (.call (.lit (.bi 7103854)) [.sub (.var 12) (.lit (.int 0))]) (.call (.lit (.bi 7103854)) [.sub (.var 12) (.lit (.int 1))])) (.var 5)]]) [.ite (.ba .dw (.var 3) (.lit .none)) [.bg (.sb (.var 4) (.var 6)) (.call (.lit (.ah 132)) [.var 2,.sub (.var 4) (.var 6),.var 3])] [],.fo [7] Qb (.call (.lit (.ty jj)) [.ao (.var 0) p8 []]) [.ite (.ba .eq (.sub (.sub (.var 4) (.var 6)) (.var 7)) (.af (.var 2) nW)) [.cont] [],.fo [8] Qb (.sub (.af (.var 0) qH) (.var 7)) [.bg (.nm 9) (.az [.bj .add (.sub (.var 6) (.lit (.int 0))) (.af (.var 8) ri),.bj .add (.sub (.var 6) (.lit (.int 1))) (.af (.var 8) rh)]),.ite (.gy Qb [.not (.ao (.var 8) Lf []),.ba .le (.call (.lit (.bi 7168376)) [.call (.lit (.bi 7103854)) [.sub (.var 9) (.lit (.int 0))],.call (.lit (.bi 7103854)) [.sub (.var 9) (.lit (.int 1))]]) (.var 1)]) [.expr (.call (.lit (.ah 126)) [.var 0,.var 4,.var 9,.af (.var 8) ly,.ao (.var 2) uW [.sub (.sub (.var 4) (.var 6)) (.var 7),.af (.var 8) th]])] []],.ite (.ba .gt (.call (.lit (.bi 7103854)) [.var 4]) (.lit (.int 20000))) [.cf] []]]],.bg (.nm 10) (.dict []),.fo [6] Qb (.call (.lit (.bi uz)) [.var 4]) [.bg (.nm 11) (.call (.lit (.ah 127)) [.var 0,.sub (.var 4) (.var 6)]),.ite (.ba .ne (.var 11) (.af (.var 2) nW)) [.bg (.sb (.var 10) (.var 6)) (.var 11)] []],.ret (.var 10)]
def U7:Fn:=⟨141,2,[],18,m8⟩
def rE:List Sm:= [.ite (.ba .lt (.var 1) (.call (.lit (.bi 7103854)) [.var 0])) [.ret (.sub (.var 0) (.var 1))] [],.ret (.lit (.int 0))]
def x7:Fn:=⟨137,2,[],8,rE⟩
def pL:List Sm:= [.ret (.sub (.dict [.lit (.str [121,101,115]),.list [.lit (.int 1),.lit (.int 1),.lit (.int 1)],.lit (.str [108,101,97,115,116]),.list [.lit (.int 0),.lit (.int 1),.lit (.int 3)],.lit (.str [99,111,117,110,116]),.list [.lit (.int 1),.lit (.int 1),.lit (.int 2)],.lit (.str [99,104,97,110,99,101]),.list [.az [.lit (.int 1),.lit (.int 4)],.az [.lit (.int 1),.lit (.int 3)],.az [.lit (.int 1),.lit (.int 2)]],.lit (.str [108,105,107,101,108,121]),.list [.az [.lit (.int 1),.lit (.int 2)],.az [.lit (.int 1),.lit (.int 3)],.az [.lit (.int 1),.lit (.int 1)]]]) (.var 0))]
def u3:Fn:=⟨138,1,[],7,pL⟩
def lO:List Sm:= [.bg (.nm 5) (.call (.lit (.ah 121)) [.var 2]),.bg (.nm 6) (.bj .add (.lit (.int 1)) (.bj .mod (.call (.lit (.ah 137)) [.var 0,.var 1]) (.lit (.int 4)))),.expr (.ao (.var 5) 126943688418675 [.var 6]),.bg (.nm 7) (.call (.lit (.ah 138)) [.af (.var 2) we]),.fo [8] Qb (.call (.lit (.ty jj)) [.bj .add (.lit (.int 2)) (.bj .mod (.call (.lit (.ah 137)) [.var 0,.bj .add (.var 1) (.lit (.int 1))]) (.lit (.int 6)))]) [.bg (.nm 9) (.call (.lit (.ah 137)) [.var 0,.bj .add (.bj .add (.var 1) (.lit (.int 2))) (.var 8)]),.bg (.nm 10) (.bj .mod (.var 9) (.var 6)),.bg (.nm 11) (.bj .mod (.bj .fdiv (.var 9) (.lit (.int 4))) (.var 6)),.bg (.nm 12) (.sub (.var 3) (.bj .mod (.bj .fdiv (.var 9) (.lit (.int 16))) (.call (.lit (.bi 7103854)) [.var 3]))),.bg (.nm 13) (.sub (.list [.lit (.str [97]),.lit (.str [98]),.lit (.str [])]) (.bj .mod (.bj .fdiv (.var 9) (.lit (.int 48))) (.lit (.int 3)))),.bg (.nm 11) (.call (.lit (.bi 7168376)) [.var 11,.bj .mul (.bj .add (.var 10) (.lit (.int 1))) (.gy Qf [.ba .eq (.bj .add (.var 12) (.var 13)) (.lit (.str [])),.var 4])]),.ite (.ba .lt (.var 11) (.var 6)) [.expr (.ao (.var 5) 6386275 [.var 10,.var 12,.var 13,.sub (.var 7) (.bj .mod (.bj .fdiv (.var 9) (.lit (.int 144))) (.lit (.int 3))),.var 11])] []],.expr (.ao (.var 5) 6647396 [.bj .sub (.var 6) (.lit (.int 1)),.sub (.var 7) (.bj .mod (.call (.lit (.ah 137)) [.var 0,.bj .add (.var 1) (.lit (.int 9))]) (.lit (.int 3)))]),.ite (.ba .eq (.bj .mod (.call (.lit (.ah 137)) [.var 0,.bj .add (.var 1) (.lit (.int 9))]) (.lit (.int 2))) (.lit (.int 1))) [.expr (.ao (.var 5) 6647396 [.lit (.int 0)])] [],.expr (.ao (.var 5) Nu [.lit (.int 0),.sub (.var 7) (.bj .mod (.call (.lit (.ah 137)) [.var 0,.bj .add (.var 1) (.lit (.int 10))]) (.lit (.int 3)))]),.ret (.var 5)]
def u4:Fn:=⟨139,5,[],20,lO⟩
def lA:List Sm:= [.bg (.nm 1) (.call (.lit (.ah 105)) [.sub (.list [.lit (.str [121,101,115]),.lit (.str [108,101,97,115,116]),.lit (.str [99,111,117,110,116]),.lit (.str [99,104,97,110,99,101]),.lit (.str [108,105,107,101,108,121])]) (.bj .mod (.call (.lit (.ah 137)) [.var 0,.lit (.int 0)]) (.lit (.int 5)))]),.bg (.nm 2) (.call (.lit (.ah 139)) [.var 0,.lit (.int 1),.var 1,.list [.lit (.str [97]),.lit (.str []),.lit (.str [98])],.lit (.bool Qb)]),.bg (.nm 3) (.call (.lit (.ah 133)) [.var 2]),.ite (.ba .ne (.call (.lit (.ah 141)) [.var 3,.lit (.int 2)]) (.call (.lit (.ah 141)) [.var 2,.lit (.int 2)])) [.ret (.lit (.bool Qb))] [],.bg (.nm 4) (.list [.af (.var 3) Lg]),.fo [5] Qb (.var 4) [.fo [6] Qb (.sub (.af (.var 3) qH) (.var 5)) [.ite (.ba .fy (.af (.var 6) ly) (.var 4)) [.expr (.ao (.var 4) En [.af (.var 6) ly])] []]],.ite (.ba .ne (.call (.lit (.bi 7103854)) [.var 4]) (.ao (.var 3) p8 [])) [.ret (.lit (.bool Qb))] [],.ite (.ba .eq (.ao (.var 3) p8 []) (.lit (.int 1))) [.ret (.ba .le (.ao (.var 3) p8 []) (.ao (.var 2) p8 []))] [],.bg (.nm 7) (.comp (.var 12) [12] Qb (.call (.lit (.ty jj)) [.ao (.var 3) p8 []]) [.ba .ne (.sub (.af (.var 3) Wi) (.var 12)) (.af (.var 1) nW)]),.fo [8] Qb (.call (.lit (.ty jj)) [.ao (.var 3) p8 []]) [.bg (.nm 7) (.bj .add (.var 7) (.comp (.var 12) [12] Qb (.call (.lit (.ty jj)) [.ao (.var 3) p8 []]) [.ba .fy (.var 12) (.var 7),.ba .ne (.comp (.lit (.int 1)) [13] Qb (.sub (.af (.var 3) qH) (.var 12)) [.ba .jm (.af (.var 13) ly) (.var 7)]) (.list [])]))],.bg (.nm 9) (.list [.lit (.str []),.lit (.str [97]),.lit (.str [98]),.lit (.str [97,98]),.lit (.str [98,97])]),.fo [10] Qb (.var 9) [.bg (.nm 11) (.sub (.var 9) (.bj .mod (.call (.lit (.ah 137)) [.var 0,.lit (.int 25)]) (.lit (.int 5)))),.ite (.ba .ne (.call (.lit (.ah 106)) [.var 3,.var 11,.var 10]) (.ao (.call (.lit (.ah 141)) [.var 2,.lit (.int 2)]) 6776180 [.az [.var 11,.var 10],.af (.var 1) nW])) [.ret (.lit (.bool Qb))] []],.ret (.ba .eq (.call (.lit (.bi uz)) [.var 7]) (.comp (.var 12) [12] Qb (.call (.lit (.ty jj)) [.ao (.var 3) p8 []]) []))]
def vT:Fn:=⟨178,1,[],18,lA⟩
def P0:ij:=⟨[u6,sW,tN,u5,tO,LK,LJ,U9,LI,VG,VF,WJ,VE,VJ,VI,WK,VH,VD,WO,WN,zC,WL,WH,WG,WD,xD,VC,LL,zD,zB,sZ,x8,xF,sY,Wz,ek,fg,zA,tP,y8,vS,tM,y9,Wy,U6,Vy,vP,u2,Vz,vQ,VA,U8,LH,VB,U7,x7,u3,u4,vT],
 [⟨146,[(we,(.str [121,101,115])),(nW,(.int 0)),(7302757,(.int 1)),(tm,(.ah 142)),(Vv,(.ah 143)),(uW,(.ah 144)),(HF,(.ah 145))],Qd,[]⟩,
  ⟨151,[(we,(.str [108,101,97,115,116])),(nW,.none),(7302757,(.int 0)),(tm,(.ah 147)),(Vv,(.ah 148)),(uW,(.ah 149)),(HF,(.ah 150))],Qd,[]⟩,
  ⟨156,[(we,(.str [99,111,117,110,116])),(nW,(.int 0)),(7302757,(.int 1)),(tm,(.ah 152)),(Vv,(.ah 153)),(uW,(.ah 154)),(HF,(.ah 155))],Qd,[]⟩,
  ⟨111,[(we,(.str [99,104,97,110,99,101])),(nW,(.az [.int 0,.int 1])),(7302757,(.az [.int 1,.int 1])),(tm,(.ah 157)),(Vv,(.ah 158)),(uW,(.ah 159)),(HF,(.ah 160))],Qd,[]⟩,
  ⟨164,[(we,(.str [108,105,107,101,108,121])),(tm,(.ah 161)),(Vv,(.ah 162)),(HF,(.ah 163)),(nW,(.az [.int 0,.int 1])),(7302757,(.az [.int 1,.int 1])),(uW,(.ah 159))],Qd,[]⟩,
  ⟨118,[(Lf,(.ah 165))],Qa 166,[ri,rh,th,ly]⟩,
  ⟨121,[(SP,(.ah 167)),(Nv,(.ah 168)),(126943688418675,(.ah 169)),(BO,(.ah 170)),(6386275,(.ah 171)),(Nu,(.ah 172)),(6647396,(.ah 173)),(p8,(.ah 174)),(zcv,(.ah 175))],Qa 177,[jv,qH,Wi,Lg,Eo,BQ]⟩],
 [(112,146),(113,151),(114,156),(115,111),(116,164)]⟩
def j5:List (Nat×Qi):= [(100,31),(101,41),(102,76),(103,48),(104,661),(105,465),(106,687),(107,666),(108,654),(109,321),(110,447),(111,396),(112,449),(113,451),(114,453),(115,455),(116,457),(117,69),(118,497),(119,55),(120,466),(121,623),(123,642),(124,649),(125,637),(126,715),(127,722),(128,701),(129,708),(130,694),(131,680),(132,673),(133,632),(134,62),(137,734),(138,741),(139,748),(141,727),(142,97),(143,104),(144,111),(145,118),(146,156),(147,174),(148,181),(149,188),(150,195),(151,233),(152,251),(153,258),(154,265),(155,272),(156,310),(157,337),(158,344),(159,351),(160,358),(161,414),(162,421),(163,428),(164,438),(165,487),(166,480),(167,522),(168,529),(169,534),(170,541),(171,548),(172,563),(173,571),(174,578),(175,592),(176,613),(177,515),(178,753),(187,606),(191,555),(202,125),(203,132),(204,146),(205,202),(206,209),(207,223),(208,279),(209,286),(210,300),(211,365),(212,372),(213,386),(214,494),(215,620),(237,83),(240,153),(241,230),(242,307),(243,393)]
def jP:List PySem.Str:= [zcM,N3,Et,zcL,HI,HH,zcK,zac,NY,N4,Lm,pu,mu,NZ,ud,ro,mr,y6,B5,jx,zad,UV,N0,Eu,pn,Ln,y5]
def iq (w:Qn) (so:Obj):ax:= {prog:=pw,w:=w,K:=(yQ,so)::KK w.params,P:=P0,ad:=j5}
section
variable (w:Qn) (so:Obj)
def zbO:P0.oe.map (OW (iq w so) c5)=P0.oe.map λf=>Qa (f.np,f.ns,f.body):=by kernel_rfl
def zdY:P0.oe.all (Internal.jr (iq w so))=true:=by kernel_rfl
def zdX:c5.all (cZ (iq w so))=true:=by kernel_rfl
def zdW:P0.kc.all (CB (iq w so))=true:=by kernel_rfl
def zd0:P0.cls.all (dB (iq w so) jP)=true:=by kernel_rfl
theorem zd1:rN (iq w so):=zaX (by kernel_rfl) (by kernel_rfl) (by kernel_rfl)
def lT:FuncData:=fnOf HI NX (jr 29 7).1 (jr 29 7).2.1 (jr 29 7).2.2 (.ref 556) Yj Yj (KQ uY 778) Qd (.ref 562) Yj
def yI (S:Q5) (v0:Value) (v1:Value):peek (iq w so).K S (bindArgs lT ⟨[v0,v1],[]⟩)=Qa ((lT.params.args.map (·.arg)).zip [v0,v1,(.ref 466)]):=by kernel_rfl
def yH (S:Q5) (v0:Value) (v1:Value) (v2:Value):peek (iq w so).K S (bindArgs lT ⟨[v0,v1,v2],[]⟩)=Qa ((lT.params.args.map (·.arg)).zip [v0,v1,v2]):=by kernel_rfl
theorem y4 (S:Q5): ∀ (vs:List Value),vs.length<=3->3-vs.length<=1->peek (iq w so).K S (bindArgs lT ⟨vs,[]⟩)=Qa ((lT.params.args.map (·.arg)).zip (vs++X4 (1-(3-vs.length)) [(.ref 466)])):=λvs h1 h2=>match vs,h1,h2 with
 | [],_,h2=>absurd h2 (show ¬3-0<=1 by decide)
 | [_],_,h2=>absurd h2 (show ¬3-1<=1 by decide)
 | [v0,v1],_,_=>yI w so S v0 v1
 | [v0,v1,v2],_,_=>yH w so S v0 v1 v2
 |_::_::_::_::r,h1,_=>absurd h1 (show ¬r.length+4<=3 by omega)
theorem zE:Vq (iq w so) ek:=λh p e=>by
 rw [show CU (iq w so) ek=Qa ⟨563,zcs w.params,lT⟩ from by kernel_rfl] at e;cases e;exact .inr ⟨h,[(.ref 466)],λw'=>zQ (z5 5) w' _ _ (by kernel_rfl),λS vs h1 h2=>y4 w so S vs h1 h2⟩
def l4:FuncData:=fnOf HH NW (jr 29 8).1 (jr 29 8).2.1 (jr 29 8).2.2 (.ref 564) Yj Yj (KQ uY 778) Qd (.ref 570) Yj
def Ve (S:Q5) (v0:Value) (v1:Value):peek (iq w so).K S (bindArgs l4 ⟨[v0,v1],[]⟩)=Qa ((l4.params.args.map (·.arg)).zip [v0,v1,(.ref 466)]):=by kernel_rfl
def Vd (S:Q5) (v0:Value) (v1:Value) (v2:Value):peek (iq w so).K S (bindArgs l4 ⟨[v0,v1,v2],[]⟩)=Qa ((l4.params.args.map (·.arg)).zip [v0,v1,v2]):=by kernel_rfl
theorem Vu (S:Q5): ∀ (vs:List Value),vs.length<=3->3-vs.length<=1->peek (iq w so).K S (bindArgs l4 ⟨vs,[]⟩)=Qa ((l4.params.args.map (·.arg)).zip (vs++X4 (1-(3-vs.length)) [(.ref 466)])):=λvs h1 h2=>match vs,h1,h2 with
 | [],_,h2=>absurd h2 (show ¬3-0<=1 by decide)
 | [_],_,h2=>absurd h2 (show ¬3-1<=1 by decide)
 | [v0,v1],_,_=>Ve w so S v0 v1
 | [v0,v1,v2],_,_=>Vd w so S v0 v1 v2
 |_::_::_::_::r,h1,_=>absurd h1 (show ¬r.length+4<=3 by omega)
theorem VL:Vq (iq w so) fg:=λh p e=>by
 rw [show CU (iq w so) fg=Qa ⟨571,zcr w.params,l4⟩ from by kernel_rfl] at e;cases e;exact .inr ⟨h,[(.ref 466)],λw'=>zQ (z5 5) w' _ _ (by kernel_rfl),λS vs h1 h2=>Vu w so S vs h1 h2⟩
def IY:List Fn->Prop
 | []=>True
 |f::r=>Vq (iq w so) f/\IY r
def IY.at: ∀ {l:List Fn},IY w so l-> ∀f∈l,Vq (iq w so) f:=by
 intro l
 induction l with
 |nil=>exact λ_ _ h=>absurd h JB
 |cons f l ih=>exact λh g hg=>(JT.mp hg).elim (λe=>e▸h.1) λhg=>ih h.2 g hg
theorem lQ {α:Sort _}{a:α}{P:Prop} (h: ¬a=a):P:=absurd rfl h
theorem zdZ: ∀f∈P0.oe,Vq (iq w so) f:=IY.at w so (show IY w so P0.oe from ⟨lQ,lQ,lQ,lQ,lQ,lQ,lQ,lQ,lQ,lQ,lQ,lQ,lQ,lQ,lQ,lQ,lQ,lQ,lQ,lQ,lQ,lQ,lQ,lQ,lQ,lQ,lQ,lQ,lQ,lQ,lQ,lQ,lQ,lQ,lQ,zE w so,VL w so,lQ,lQ,lQ,lQ,lQ,lQ,lQ,lQ,lQ,lQ,lQ,lQ,lQ,lQ,lQ,lQ,lQ,lQ,lQ,lQ,lQ,lQ,trivial⟩)
theorem gM:nV (iq w so) c5:=RT (zbO w so) (zdY w so) (zdZ w so) (zdX w so) (zdW w so) (zd0 w so) (zd1 w so) (zd4 _)
end
abbrev zc3:Nat:=178
abbrev PK:Addr:=753
def zaH (w:Qn):nsIn (KK w.params) mainGlobals (SZ)=Qa (Qa (.ref 753)):=by kernel_rfl
end Tactic
open Internal
namespace Tactic
open Internal
abbrev Lj:Nat:=1886156147
abbrev Wk:Nat:=499984983411
abbrev uK:Nat:=121424990136436
abbrev Es:Nat:=7302757
abbrev PH:Nat:=1937006962
abbrev B3:Nat:=1852138852
def fN {σ:Type}{c:Cx}{t:Ex}{b:List Sm}{k0:Nat} (F:σ->Internal.Frame) (G:σ->MH) (P:Nat->σ->Prop) (D:σ->Prop) (s0:σ) (hk:k0<=190000) (hc:c.cu=200000) (p0:P k0 s0)
  (step: ∀k s,P k s-> ∃r:Bool,WE c (F s) t (G s) (λv g=>v= .bool r/\g=G s)/\(r=Qf-> ∀R' R,To F G (λs=> ∃j,j<k/\P j s) R R'->cz c b (F s) (G s) R')/\(r=Qb->D s)): ∃s,D s/\exec c (.wh t b) (F s0) (G s0)=Qa ((.nx,F s),G s):=by
 have w:WS c (.wh t b) (F s0) (G s0) λfl f g=> ∃s,D s/\fl= .nx/\f=F s/\g=G s:=
  Ru F G P (by rw [hc];exact Jx hk (by decide)) s0 rfl rfl p0 λk s R' hp T=>by
   refine (step k s hp).elim λr zq1=>?_;refine zq1.1.mono λv g q=>?_;obtain rfl:=q.1;obtain rfl:=q.2;exact uD ⟨λh=>zq1.2.1 h R' _ T,λh=>⟨s,zq1.2.2 h,rfl,rfl,rfl⟩⟩
 refine xEEA (W.get w) λdh g e gd=>?_;refine xEAA gd λs hp q1 kh=>?_;refine xA kh λq2 q3=>?_;obtain ⟨fl,f⟩:=dh;refine eqE q1 ?_;subst q2;subst q3;exact ⟨s,hp,e⟩
theorem sA {a b r:Int} (e:Xq a b=r) (hb:b≠0) (h:MH):pJ .mod (.int a) (.int b) h=Qa (.int r,h):=W.eq (RH hb ⟨by rw [e],rfl⟩)
theorem fM {a b:Nat} (hb:b≠0) (hl:b<ji) (h:MH):pJ .fdiv (.int a) (.int b) h=Qa (.int (a / b:Nat),h):=W.eq (Mt (λe=>hb (K7.mp e)) hl ⟨by rw [<-Int.ofNat_fdiv],rfl⟩)
section
variable {d:Nat}{h h0:MH}{Q:aa->MH->Prop}
def a6 (n m:Nat):aa:= .az [.int (n / Ko n m:Nat),.int (m / Ko n m:Nat)]
def CH {b r:Nat} (hr:0<r) (h:r<=b):2*(b % r)<b:=by
 exact Jx (JM (YL _)) (Jy (Nat.add_lt_add_right (qbt b hr) _) (Jq (JZ (ZZ _ ((Nat.one_le_div_iff hr).mpr h:1<=b / r):r<=r*(b / r)) _) (JM (Nat.div_add_mod b r))))
def gB:Nat:=2 ^ 90000
theorem zdg: ∃J,gB=2 ^ J/\2*J+1<=190000:=⟨90000,rfl,by decide⟩
structure GS where
 x:Nat
 y:Nat
abbrev gF (s:GS):Internal.Frame:=Qa (.int s.x)::Qa (.int s.y)::nn 6
structure GP (g k:Nat) (s:GS):Prop where
 g:Ko s.y s.x=g
 j: ∃j,(s.y<2 ^ j/\2*j<=k)\/(s.y<s.x/\s.x<2 ^ j/\2*j<=k+1)
def GP.next {g k:Nat}{s:GS} (P:GP g k s) (hy:0<s.y): ∃j,j<k/\GP g j ⟨s.y,s.x % s.y⟩:=by
 obtain ⟨hg,j,hj⟩:=P;have hg':Ko (s.x % s.y) s.y=g:=by rw [<-Nat.gcd_rec];exact hg
 rcases hj with ⟨h1,h2⟩| ⟨h1,h2,h3⟩
 ·have hk:0<k:=Yk λe=>by
   rw [show j=0 from qaf (Jq (qag j (ZV 1)) (e▸h2))] at h1;exact ZE (Za hy) h1
  exact ⟨k-1,qaM hk (ZV _),hg',j,.inr ⟨(qbt s.x hy),h1,Jq h2 (JM (KR hk).symm)⟩⟩
 ·cases j with
  |zero=>exact absurd h2 (ZE (JQ (Jx hy h1)))
  |succ j=>
   rw [qbi] at h2
   have:=CH hy (JQ h1)
   exact ⟨k-1,qaM (Jy (ZV _) (Yl h3)) (ZV 0),hg',j,.inl ⟨Nat.lt_of_mul_lt_mul_left (a:=2) (Zm this (YG h2 (Xo _ _))),Nat.le_sub_one_of_lt (Yl h3)⟩⟩
theorem zaN {a b J:Nat} (hb:b<2 ^ J) (hJ:2*J+1<=190000): ∃s:GS,(s.y=0/\s.x=Ko b a)/\exec (aj P0 d) (.wh (.ba .gt (.var 1) (.lit (.int 0))) [.jn [.nm 0,.nm 1] (.az [.var 1,.bj .mod (.var 0) (.var 1)])]) (gF ⟨a,b⟩) h=Qa ((.nx,gF s),h):=
 fN (c:=aj P0 d) (k0:=2*J+1) gF (λ_=>h) (GP (Ko b a)) (λs=>s.y=0/\s.x=Ko b a) ⟨a,b⟩ hJ rfl ⟨rfl,J,.inl ⟨hb,Zw _⟩⟩ λk s P=>⟨decide ((0:Int)<s.y),by exact lR (.c<| .z (cv (.bool (decide ((0:Int)<s.y))) h)) rfl,λhr R' R T=>by
  have hy:0<s.y:=ZW.mp (of_decide_eq_true hr);exact lJ (.q (sA (r:=(s.x % s.y:Nat)) (Int.ofNat_fmod s.x s.y).symm (λe=>Ka hy (K7.mp e)))<| .c<| .z (T.nx ⟨s.y,s.x % s.y⟩ (P.next hy))) rfl,λhr=>by
  have hy:s.y=0:=Nat.eq_zero_of_not_pos λh=>of_decide_eq_false hr (ZW.mpr h);have hg:=P.g;rw [hy,Nat.gcd_zero_left] at hg;exact ⟨hy,hg⟩⟩
def zaM {a b:Nat} (hd:1<=d) (hb:b<gB) (q:Q (.int (Ko b a:Nat)) h):WF P0 d 109 [.int a,.int b] h Q:=by
 exact zdg.elim λJ e=>l0 (K:=0) hd (gF ⟨a,b⟩) vD rfl λd' _=>(zaN (d:=d') (h:=h) (a:=a) (e.1▸hb) e.2).elim λs f=>lJ (.s (f.2)<| .z ((f.1.2▸q:Q (.int s.x) h))) rfl
theorem zde {a b:Nat} (hd:1<=d) (hb:b<gB) (h:MH):kT (aj P0 d) (.ah 109) [.int a,.int b] h=Qa (.int (Ko b a:Nat),h):=fn rfl (zaM hd hb (cv _ _))
def OM {n m:Nat} (hd:2<=d) (hn:n<gB) (hm:0<m) (hl:m<ji) (q:Q (a6 n m) h):WF P0 d 110 [.int n,.int m] h Q:=by
 refine l0 (K:=1) hd (Qa (.int n)::Qa (.int m)::nn 7) qR rfl λd' h'=>?_;have g0:Ko n m≠0:=Nat.pos_iff_ne_zero.mp (YB _ hm);have gl:Ko n m<ji:=Jx (Nat.gcd_le_right _ hm) hl;exact lJ (.q (zde (a:=m) h' hn)<| .q (fM (a:=n) g0 gl)<| .q (fM (a:=m) g0 gl)<| .z (q)) rfl
theorem fL {n m:Nat} (hd:2<=d) (hn:n<gB) (hm:0<m) (hl:m<ji) (h:MH):kT (aj P0 d) (.ah 110) [.int n,.int m] h=Qa (a6 n m,h):=fn rfl (OM hd hn hm hl (cv _ _))
def iv {x:aa}{i:Int} (e:x.int?=Qa i):x= .int i:=by
 cases x<;>first|exact ag e|(refine mP e ?_;rfl)
def tv {x:aa}{i:List aa} (e:x.tup?=Qa i):x= .az i:=by
 cases x<;>first|exact ag e|(refine mP e ?_;rfl)
def nv {x:aa} (e:x.isNone=Qf):x= .none:=by
 cases x<;>first|rfl|cases e
def zgo {α:Type}{vs:List aa}{f:aa->aa->Option α}{r:α} (e:a2 vs f=Qa r): ∃x y,vs= [x,y]/\f x y=Qa r:=by
 obtain _| ⟨x,_| ⟨y,_| ⟨z,l⟩⟩⟩:=vs
 ·exact ag e
 ·exact ag e
 ·exact ⟨x,y,rfl,e⟩
 ·exact ag e
def wB:Nat:=2 ^ 3900
def Fx:wB*wB<ji/\ji+ji<=gB:=by decide+kernel
def Fz:wB<=xd:=by decide+kernel
def nat? (v:aa):Option Nat:=v.int?.bind λa=>au (decide (0<=a) && Zc (a.toNat+1) wB) (Qa a.toNat)
def nat?_s {v:aa}{n:Nat} (e:nat? v=Qa n):v= .int n/\n<wB:=by
 refine xEA (bs e) λa e1 e=>?_;refine xA (gs e) λhb e=>?_;refine mP e ?_;exact ⟨by rw [iv e1,qaC (of_decide_eq_true (Jr.mp hb).1)],Zd.mp (Jr.mp hb).2⟩
def fr? (v:aa):Option (Nat×Nat):=v.tup?.bind λvs=>a2 vs λx y=>(nat? x).bind λa=>(nat? y).bind λb=>au (Zc 1 b) (Qa (a,b))
structure zgx (v:aa) (p:Nat×Nat):Prop where
 e:v= .az [.int p.1,.int p.2]
 n:p.1<wB
 d:p.2<wB
 pos:0<p.2
def fr?_s {v:aa}{p:Nat×Nat} (e:fr? v=Qa p):zgx v p:=by
 refine xEA (bs e) λvs e1 e=>?_;obtain ⟨x,y,rfl,e⟩:=zgo e;refine xEA (bs e) λa ea e=>?_;refine xEA (bs e) λb eb e=>?_;obtain ⟨hb,e⟩:=gs e;refine mP e ?_;obtain ⟨rfl,h1⟩:=nat?_s ea;obtain ⟨rfl,h2⟩:=nat?_s eb;exact ⟨tv e1,h1,h2,Zd.mp hb⟩
def nt (f:Nat->Nat->Nat->Nat->aa) (x y:aa):Option aa:=(fr? x).bind λp=>(fr? y).map λq=>f p.1 p.2 q.1 q.2
def cC (f:Int->Int->Int) (x y:aa):Option aa:=x.int?.bind λa=>y.int?.map λb=> .int (f a b)
def cB (f:Nat->Nat->Nat) (x y:aa):Option aa:=(nat? x).bind λa=>(nat? y).map λb=> .int (f a b:Nat)
def b8 (x y:aa):Option aa:=bif x.isNone then Qa y else x.int?.bind λa=>bif y.isNone then Qa x else y.int?.map λb=> .int (if b<a then b else a)
def bO (x y:aa):Option aa:=bif x.isNone then Qa .none else x.int?.bind λa=>bif y.isNone then Qa .none else y.int?.map λb=> .int (a+b)
def aP (a b c d:Nat):aa:=a6 (a*d+c*b) (b*d)
def xk (a b c d:Nat):aa:=a6 (a*c) (b*d)
def yq (a b c d:Nat):aa:=if a*d<c*b then .az [.int c,.int d] else .az [.int a,.int b]
def EN {α:Type} (a b c d e:α) (i:Nat):α:=bif i==0 then a else bif i==1 then b else bif i==2 then c else bif i==3 then d else e
def b7 (i:Nat):aa->aa->Option aa:=EN (cC λa b=>if b>a then b else a) b8 (cC (· + ·)) (nt aP) (nt yq) i
def bN (i:Nat):aa->aa->Option aa:=EN (cC λa b=>if b<a then b else a) bO (cB (· * ·)) (nt xk) (nt xk) i
def qB {C:Nat->Prop} (i:Nat) (hi:i<5) (c0:C 0) (c1:C 1) (c2:C 2) (c3:C 3) (c4:C 4):C i:=by
 rcases i with _|_|_|_|_|i
 ·exact c0
 ·exact c1
 ·exact c2
 ·exact c3
 ·exact c4
 ·exact absurd hi (ZE (JE 5 i))
def zfZ {a b:Nat} (ha:a<wB) (hb:b<wB):Lq (.ofNat a) (.ofNat b)=true:=by
 delta Lq;rw [ZY];exact ⟨Zd.mpr (Jq ha Fz),Zd.mpr (Jq hb Fz)⟩
theorem Lr {a b:Nat} (ha:a<wB) (hb:b<wB):a*b<ji:=Jy (Nat.mul_lt_mul'' ha hb) (JQ Fx.1)
theorem Wu {a b:Nat} (ha:a<wB) (hb:b<wB) (h:MH):pJ .mul (.int a) (.int b) h=Qa (.int (a*b:Nat),h):=W.eq (RG (zfZ ha hb) (cv _ _))
def l7 {K f:Nat}{as:List aa}{z:aa} (hd:K+1<=d) (e: ∀d',nH P0 200000 (d'+K+1) f as h=Qa (z,h)) (q:Q z h):WF P0 d f as h Q:=by
 refine (ZS hd).elim λd' zq21=>?_;refine eqB zq21 ?_;exact W.of (e d') q
def Nl {x y z:aa} (r:aa) (hd:3<=d) (e:nt aP x y=Qa z) (q:Q z h):WF P0 d 158 [r,x,y] h Q:=by
 refine xEA (bs e) λgG ea e=>?_;obtain ⟨a,b⟩:=gG;obtain ⟨⟨c,e'⟩,eb,rfl⟩:=ms e;obtain ⟨rfl,a1,a2,a3⟩:=fr?_s ea;obtain ⟨rfl,b1,b2,b3⟩:=fr?_s eb;exact l0 (K:=2) hd (Qa r::Qa (.az [.int a,.int b])::Qa (.az [.int c,.int e'])::nn 6) tY rfl λd' h'=>lJ (.c2<| .q (Wu a1 b2)<| .c2<| .q (Wu b1 a2)<| .c3<| .q (Wu a2 b2)<| .q (fL (n:=a*e'+c*b) (m:=b*e') h' (Jy (Nat.add_lt_add (Lr a1 b2) (Lr b1 a2)) Fx.2) (Xd a3 b3) (Lr a2 b2))<| .z (q)) rfl
def Dt {x y z:aa} (r:aa) (hd:3<=d) (e:nt xk x y=Qa z) (q:Q z h):WF P0 d 159 [r,x,y] h Q:=by
 refine xEA (bs e) λzg12 ea e=>?_;obtain ⟨a,b⟩:=zg12;obtain ⟨⟨c,e'⟩,eb,rfl⟩:=ms e;obtain ⟨rfl,a1,a2,a3⟩:=fr?_s ea;obtain ⟨rfl,b1,b2,b3⟩:=fr?_s eb;exact l0 (K:=2) hd (Qa r::Qa (.az [.int a,.int b])::Qa (.az [.int c,.int e'])::nn 6) sS rfl λd' h'=>lJ (.c2<| .q (Wu a1 b1)<| .c2<| .q (Wu a2 b2)<| .q (fL (n:=a*c) (m:=b*e') h' (Jy (Jy (Lr a1 b1) (Jv _ _)) Fx.2) (Xd a3 b3) (Lr a2 b2))<| .z (q)) rfl
def Sv {x y z:aa}{s:aa} (hd:1<=d) (e:b8 x y=Qa z) (q:Q z h):WF P0 d 148 [s,x,y] h Q:=by
 delta b8 at e;refine vY x.isNone (λhx=>?_) λhx=>?_
 ·rw [hx] at e;refine Se e ?_;cases nv hx
  exact l7 (K:=0) hd (λ_=>rfl) q
 ·rw [hx] at e
  refine xEA (bs e) λa ea e=>?_;cases iv ea;refine vY y.isNone (λhy=>?_) λhy=>?_
  ·rw [hy] at e;obtain rfl:=Qa.inj e;cases nv hy
   exact l7 (K:=0) hd (λ_=>rfl) q
  ·rw [hy] at e
   obtain ⟨b,eb,rfl⟩:=ms e;cases iv eb;exact l7 (K:=0) hd (λ_=>rfl) q
def RR {x y z:aa}{s:aa} (hd:1<=d) (e:bO x y=Qa z) (q:Q z h):WF P0 d 149 [s,x,y] h Q:=by
 delta bO at e;refine vY x.isNone (λhx=>?_) λhx=>?_
 ·rw [hx] at e;obtain rfl:=Qa.inj e;cases nv hx
  exact l7 (K:=0) hd (λ_=>rfl) q
 ·rw [hx] at e
  refine xEA (bs e) λa ea e=>?_;cases iv ea;refine vY y.isNone (λhy=>?_) λhy=>?_
  ·rw [hy] at e;obtain rfl:=Qa.inj e;cases nv hy
   exact l7 (K:=0) hd (λ_=>rfl) q
  ·rw [hy] at e
   refine xEA (ms e) λb eb dh=>?_;subst dh;cases iv eb;exact l7 (K:=0) hd (λ_=>rfl) q
def Su {x y z:aa}{s:aa} (hd:1<=d) (e:nt yq x y=Qa z) (q:Q z h):WF P0 d 162 [s,x,y] h Q:=by
 refine xEA (bs e) λzg18 ea e=>?_;obtain ⟨a,b⟩:=zg18;obtain ⟨⟨c,e'⟩,eb,rfl⟩:=ms e;obtain ⟨rfl,a1,a2,a3⟩:=fr?_s ea;obtain ⟨rfl,b1,b2,b3⟩:=fr?_s eb;have q:Q (if a*e'<c*b then .az [.int c,.int e'] else .az [.int a,.int b]) h:=q;refine l0 (K:=0) hd (Qa s::Qa (.az [.int a,.int b])::Qa (.az [.int c,.int e'])::nn 6) tV rfl λd' h'=>?_;by_cases hr:a*e'<c*b
 ·rw [if_pos hr] at q
  exact lJ (.c2<| .q (Wu a1 b2)<| .c2<| .q (Wu b1 a2)<| .c<| .t (decide_eq_true (ZW.mpr hr))<| .z (q)) rfl
 ·rw [if_neg hr] at q
  exact lJ (.c2<| .q (Wu a1 b2)<| .c2<| .q (Wu b1 a2)<| .c<| .f (decide_eq_false (λh=>hr (ZW.mp h)))<| .z (q)) rfl
def zcd {i:Nat}{x y z:aa} (hi:i<5) (hd:3<=d) (e:b7 i x y=Qa z) (q:Q z h):WM (aj P0 d) (.ah (112+i)) Lj [x,y] h0 h Q:=by
 revert e
 refine qB (C:=λi=>b7 i x y=Qa z->WM (aj P0 d) (.ah (112+i)) Lj [x,y] h0 h Q) i hi (λe=>?_) (λe=>?_) (λe=>?_) (λe=>?_) (λe=>?_)
 ·obtain ⟨a,ea,e⟩:=bs (e)
  obtain ⟨b,eb,rfl⟩:=ms e;cases iv ea;cases iv eb;exact lL (f:=143) (self:=[.ah 112]) rfl (l7 (K:=0) (Jq (JE _ _) hd) (λ_=>rfl) q)
 ·exact lL (f:=148) (self:=[.ah 113]) rfl (Sv (Jq (JE _ _) hd) e q)
 ·obtain ⟨a,ea,e⟩:=bs (e)
  obtain ⟨b,eb,rfl⟩:=ms e;cases iv ea;cases iv eb;exact lL (f:=153) (self:=[.ah 114]) rfl (l7 (K:=0) (Jq (JE _ _) hd) (λ_=>rfl) q)
 ·exact lL (f:=158) (self:=[.ah 115]) rfl (Nl _ hd e q)
 ·exact lL (f:=162) (self:=[.ah 116]) rfl (Su (Jq (JE _ _) hd) e q)
def zbM {i:Nat}{x y z:aa} (hi:i<5) (hd:3<=d) (e:bN i x y=Qa z) (q:Q z h):WM (aj P0 d) (.ah (112+i)) Wk [x,y] h0 h Q:=by
 revert e
 refine qB (C:=λi=>bN i x y=Qa z->WM (aj P0 d) (.ah (112+i)) Wk [x,y] h0 h Q) i hi (λe=>?_) (λe=>?_) (λe=>?_) (λe=>?_) (λe=>?_)
 ·obtain ⟨a,ea,e⟩:=bs (e)
  obtain ⟨b,eb,rfl⟩:=ms e;cases iv ea;cases iv eb;exact lL (f:=144) (self:=[.ah 112]) rfl (l7 (K:=0) (Jq (JE _ _) hd) (λ_=>rfl) q)
 ·exact lL (f:=149) (self:=[.ah 113]) rfl (RR (Jq (JE _ _) hd) e q)
 ·obtain ⟨a,ea,e⟩:=bs (e)
  obtain ⟨b,eb,rfl⟩:=ms e;obtain ⟨rfl,h1⟩:=nat?_s ea;obtain ⟨rfl,h2⟩:=nat?_s eb;exact lL (f:=154) (self:=[.ah 114]) rfl (l0 (K:=0) (Jq (JE _ _) hd) (Qa (.ah 114)::Qa (.int a)::Qa (.int b)::nn 6) tX rfl λd' _=>lJ (.q (Wu h1 h2)<| .z (q)) rfl)
 ·exact lL (f:=159) (self:=[.ah 115]) rfl (Dt _ hd e q)
 ·exact lL (f:=159) (self:=[.ah 116]) rfl (Dt _ hd e q)
def cG (i:Nat):aa:=EN (.int 0) .none (.int 0) (.az [.int 0,.int 1]) (.az [.int 0,.int 1]) i
def cA (i:Nat):aa:=EN (.int 1) (.int 0) (.int 1) (.az [.int 1,.int 1]) (.az [.int 1,.int 1]) i
theorem zcw {i:Nat} (hi:i<5) (q:Q (cG i) h):WA P0 (.ah (112+i)) uK h Q:=
 Hl (qB (C:=λi=>((P0.cn (112+i)).bind λc=>vH P0 c uK)=Qa (cG i)) i hi rfl rfl rfl rfl rfl) q
theorem zcq {i:Nat} (hi:i<5) (q:Q (cA i) h):WA P0 (.ah (112+i)) Es h Q:=
 Hl (qB (C:=λi=>((P0.cn (112+i)).bind λc=>vH P0 c Es)=Qa (cA i)) i hi rfl rfl rfl rfl rfl) q
end
def pH {h t:MH}{j:Nat}:(h++t)[h.length+j]?=t[j]?:=by rw [Kz (Jv _ _),qaa]
def DF {h t:MH}{j:Nat}{o:ae}:(h++t).set (h.length+j) o=h++t.set j o:=by rw [YS _ _ (Jv _ _),qaa]
structure Rg where
 i:Nat
 hi:i<5
 α:Type
 gq:DecidableEq α
 e:α->aa
 zero:α
 dz:α
 add:α->α->α
 mul:α->α->α
 D:Nat->Nat->α->Prop
 add_comm: ∀a b,add a b=add b a
 add_assoc: ∀a b c,add (add a b) c=add a (add b c)
 zero_add: ∀a,add zero a=a
 mul_comm: ∀a b,mul a b=mul b a
 mul_assoc: ∀a b c,mul (mul a b) c=mul a (mul b c)
 one_mul: ∀a,mul dz a=a
 zero_mul: ∀a,mul zero a=zero
 mul_add: ∀a b c,mul a (add b c)=add (mul a b) (mul a c)
 qh:cG i=e zero
 tf:cA i=e dz
 wt: ∀a,aZ (e a) (.ah 120)=Qa Qb
 ff: ∀h a b,mn h (e a) (e b)=Qa (decide (a=b))
 ai: ∀ {p q k l a},p<=q->k<=l->D p k a->D q l a
 cj:D 0 0 zero
 gp:D 0 0 dz
 gb: ∀ {p k a b},D p k a->D p k b->D p (k+1) (add a b)
 fm: ∀ {p q k l a b},D p k a->D q l b->D (p+q) (k+l) (mul a b)
 gh: ∀ {p k a b},D p k a->D p k b->4*p+k<=3800->b7 i (e a) (e b)=Qa (e (add a b))
 fq: ∀ {p q k l a b},D p k a->D q l b->4*(p+q)+(k+l)<=3800->bN i (e a) (e b)=Qa (e (mul a b))
 gi: ∀ {p k a d h0 h}{Q:aa->MH->Prop},3<=d->D p k a->4*p+k<=3800->Q (e a) h->WM (aj P0 d) (.ah (112+i)) B3 [e a] h0 h Q
 gg: ∀ {d h0 h}{Q:aa->MH->Prop},3<=d->Q (e dz) h->WM (aj P0 d) (.ah (112+i)) PH [e zero] h0 h Q
section
variable {d:Nat}{h h0:MH}{Q:aa->MH->Prop} (R:Rg)
theorem Rg.b6 {p k:Nat}{a b:R.α} (hd:3<=d) (ha:R.D p k a) (hb:R.D p k b) (hl:4*p+k<=3800) (q:Q (R.e (R.add a b)) h):WM (aj P0 d) (.ah (112+R.i)) Lj [R.e a,R.e b] h0 h Q:=zcd R.hi hd (R.gh ha hb hl) q
theorem Rg.yi {p p' k l:Nat}{a b:R.α} (hd:3<=d) (ha:R.D p k a) (hb:R.D p' l b) (hl:4*(p+p')+(k+l)<=3800) (q:Q (R.e (R.mul a b)) h):WM (aj P0 d) (.ah (112+R.i)) Wk [R.e a,R.e b] h0 h Q:=zbM R.hi hd (R.fq ha hb hl) q
theorem Rg.wg (q:Q (R.e R.zero) h):WA P0 (.ah (112+R.i)) uK h Q:=zcw R.hi (R.qh▸q)
theorem Rg.yr (q:Q (R.e R.dz) h):WA P0 (.ah (112+R.i)) Es h Q:=zcq R.hi (R.tf▸q)
end
section
variable {R:Rg}{d:Nat}
theorem Rg.pl {p k:Nat}{a b:R.α} (hd:3<=d) (ha:R.D p k a) (hb:R.D p k b) (hl:4*p+k<=3800) (h:MH):l5 (aj P0 d) (.ah (112+R.i)) Lj [R.e a,R.e b] h h=Qa (R.e (R.add a b),h):=W.eq (R.b6 hd ha hb hl ⟨rfl,rfl⟩)
theorem Rg.ti {p p' k l:Nat}{a b:R.α} (hd:3<=d) (ha:R.D p k a) (hb:R.D p' l b) (hl:4*(p+p')+(k+l)<=3800) (h:MH):l5 (aj P0 d) (.ah (112+R.i)) Wk [R.e a,R.e b] h h=Qa (R.e (R.mul a b),h):=W.eq (R.yi hd ha hb hl ⟨rfl,rfl⟩)
theorem Rg.nd {p k:Nat}{a:R.α} (hd:3<=d) (ha:R.D p k a) (hl:4*p+k<=3800) (h:MH):l5 (aj P0 d) (.ah (112+R.i)) B3 [R.e a] h h=Qa (R.e a,h):=W.eq (R.gi hd ha hl ⟨rfl,rfl⟩)
theorem Rg.on (R:Rg) (h:MH):getAttr P0 h (.ah (112+R.i)) Es=Qa (R.e R.dz):=Wo.eq (R.yr (Q:=λa _=>a=_) rfl)
theorem Rg.no (R:Rg) (h:MH):getAttr P0 h (.ah (112+R.i)) uK=Qa (R.e R.zero):=Wo.eq (R.wg (Q:=λa _=>a=_) rfl)
theorem Rg.qe (a b:R.α) (h:MH):mn h (R.e a) (R.e b)=Qa (@decide (a=b) (R.gq a b)):=R.ff h a b
theorem Rg.yes {a b:R.α} (h:a=b): @decide (a=b) (R.gq a b)=true:= @decide_eq_true _ (R.gq a b) h
theorem Rg.not {a b:R.α} (h: ¬a=b): @decide (a=b) (R.gq a b)=false:= @decide_eq_false _ (R.gq a b) h
end
theorem dT {p:Prop}{i:Decidable p} (h: @decide p i=Qf):p:= @of_decide_eq_true p i h
theorem dF {p:Prop}{i:Decidable p} (h: @decide p i=Qb): ¬p:= @of_decide_eq_false p i h
theorem Lu {k n:Nat} (hk:k<=3800) (hn:n<=2 ^ k):n<wB:=Jx hn (qap (by decide) (Jy (JX hk) (JE _ _)))
def nat?_of {n:Nat} (hn:n<wB):nat? (.int n)=Qa n:=by
 show au _ _=_;rw [CJ (by rw [ZY];exact ⟨decide_eq_true (KU _),Zd.mpr hn⟩),KF]
def vq:Nat:=10 ^ 4000
def Fy:wB<=vq:=by decide+kernel
theorem wV {n:Nat} (hn:n<wB):decide ((10 ^ 4000:Int)<=n)=false:=decide_eq_false λhg=>absurd (Yi.mp (show ((vq:Nat):Int)<=(n:Int) from hg)) (qab.mpr (Jy hn Fy))
def Ii {d n:Nat}{h:MH}{Q:aa->MH->Prop}{s:aa} (hd:1<=d) (hn:n<wB) (q:Q (.int n) h):WF P0 d 152 [s,.int n] h Q:=by
 exact l0 (K:=0) hd (Qa s::Qa (.int n)::nn 6) vG rfl λd' h'=>lJ (.c4<| .c2<| .f (wV hn)<| .z (q)) rfl
def Dh:Rg where
 i:=2
 hi:=by decide
 α:=Nat
 gq:=inferInstance
 e:=λn=> .int n
 zero:=0
 dz:=1
 add:=(· + ·)
 mul:=(· * ·)
 D:=λp k n=>n<=2 ^ k
 add_comm:=Kv
 add_assoc:=Zf
 zero_add:=Z3
 mul_comm:=Xo
 mul_assoc:=qaG
 one_mul:=Z7
 zero_mul:=Nat.zero_mul
 mul_add:=qbp
 qh:=rfl
 tf:=rfl
 wt:=λ_=>rfl
 ff:=λh a b=>wD.trans (congrArg Qa (by
  by_cases hab:a=b
  ·subst hab;simp
  ·rw [decide_eq_false hab,beq_false_of_ne];exact λe=>hab (KH.inj e)))
 ai:=λ_ hk ha=>Jq ha (qaq (by decide) hk)
 cj:=by decide
 gp:=by decide
 gb:=λha hb=>by exact Jq (JL ha hb) (JM (Nat.mul_two _).symm)
 fm:=λha hb=>by rw [XE];exact qba ha hb
 gh:=λ_ _ _=>rfl
 fq:=λ{p q k l a b} ha hb hl=>by
  show cB (· * ·) (.int a) (.int b)=_;unfold cB;rw [nat?_of (Lu (k:=k) (Jq (Jv _ _) (Jq (JE _ _) hl)) ha),nat?_of (Lu (k:=l) (Jq (JE _ _) (Jq (JE _ _) hl)) hb)];rfl
 gi:=λ{p k a d h0 h Q} hd ha hl q=>lL (f:=152) (self:=[.ah 114]) rfl (Ii (Jq (JE _ _) hd) (Lu (k:=k) (Jq (JE _ _) hl) ha) q)
 gg:=λ{d h0 h Q} hd q=>lL (f:=155) (self:=[.ah 114]) rfl (l7 (K:=0) (Jq (JE _ _) hd) (λ_=>rfl) q)
section
variable {d:Nat}{h h0:MH}{Q:aa->MH->Prop}
def ou:List Nat:= [32,9,10,58,47,95,91,93,62,35,59,63,61]
def Vw (c:Nat):Bool:=!ou.contains c && !qaT ⟨#[c]⟩
def zaC {c:Nat} (hd:1<=d) (hc:Vw c=Qf) (q:Q (.bool Qf) h):WF P0 d 101 [.str [c]] h Q:=by
 exact l0 (K:=0) hd (Qa (.str [c])::nn 6) pN rfl λd' h'=>lJ (.c4<| .c3<| .t ((Jr.mp hc).1)<| .c2<| .z ((show Q (.bool (!qaT ⟨#[c]⟩)) h by rw [(Jr.mp hc).2];exact q))) rfl
def DX {c:Nat} (hd:2<=d) (hc:Vw c=Qf) (q:Q (.str [c]) h):WF P0 d 103 [.str [c]] h Q:=by
 exact l0 (K:=1) hd (Qa (.str [c])::nn 6) nY rfl λd' h'=>lJ (.p (fn (as:=[.str [c]]) rfl (zaC h' hc (cv (.bool Qf) h)))<| .c2<| .z (q)) rfl
def jW {c:Cx}{x:Nat}{e:Ex}{b:List Sm}{s:List Nat} (F:Option aa->Internal.Frame) (hs:s.length<c.cu) (he:WE c (F Qd) e h λv g=>v= .str s/\g=h)
  (step: ∀a R o,a∈s->R .nx (F (Qa (.str [a]))) h->cz c b ((F o).set x (Qa (.str [a]))) h R): ∃o,exec c (.fo [x] Qb e b) (F Qd) h=Qa ((.nx,F o),h):=by
 have w:WS c (.fo [x] Qb e b) (F Qd) h λfl f g=> ∃o,fl= .nx/\f=F o/\g=h:=Ux (he.mono λv g q=>by
  refine eqB q.1 ?_;obtain rfl:=q.2;refine ⟨.sq s,s.map λc=> .str [c],rfl,by rw [Jt];exact hs,λ_ f g'=>g'=g/\∃o,f=F o,⟨rfl,Qd,rfl⟩,λi _ _ _=>by rw [JC];rfl,λi v hv f g' q=>?_,λf g' q=>q.2.elim λo e=>⟨o,rfl,e,q.1⟩⟩;obtain ⟨rfl,o,rfl⟩:=q;rw [JC] at hv;obtain ⟨a,ha,rfl⟩:=ms hv;exact mT (step a _ o (Ju ha) ⟨rfl,_,rfl⟩))
 refine xEEA (W.get w) λzg20 g e zg21=>?_;refine xEAA zg21 λo q1 q2 q3=>?_;obtain ⟨fl,f⟩:=zg20;refine eqE q1 ?_;subst q2;cases q3;exact ⟨o,e⟩
def BL {s:List Nat} (hd:3<=d) (hs: ∀c∈s,Vw c=Qf) (hl:s.length<1000) (q:Q (.str s) h):WF P0 d 134 [.str s] h Q:=by
 refine l0 (K:=2) hd (Qa (.str s)::nn 7) pM rfl λd' h'=>?_;obtain ⟨o,e⟩:=jW (h:=h) (c:=aj P0 d') (x:=1) (e:=.var 0) (b:=[.expr (.call (.lit (.ah 103)) [.var 1])]) (λo=>Qa (.str s)::o::nn 6) (Zm hl (by show 1000<200000;decide)) (by exact lR (.z (cv (.str s) h)) rfl) λa R o ha q=>by
  exact lJ (.p (fn (as:=[.str [a]]) rfl (DX h' (hs a ha) (cv (.str [a]) h)))<| .z (q)) rfl
 exact lJ (.c3<| .s (e)<| .z (q)) rfl
end
section
variable {d:Nat}{h h0:MH}{Q:aa->MH->Prop}
def fc (s:List Nat):Prop:=s= []\/∃c,s= [c]/\Vw c=Qf
def DY {s:List Nat} (hd:3<=d) (hs:fc s) (q:Q (.str s) h):WF P0 d 119 [.str s] h Q:=by
 refine l0 (K:=2) hd (Qa (.str s)::nn 6) oZ rfl λd' h'=>?_;rcases hs with rfl| ⟨c,rfl,hc⟩
 ·exact lJ (.c2<| .z (q)) rfl
 ·exact lJ (.c2<| .p (fn (as:=[.str [c]]) rfl (DX h' hc (cv (.str [c]) h)))<| .z (q)) rfl
def D3 {a b c:Int}{x:aa} (hd:1<=d) (h1:b<=a) (h2:a<=c) (q:Q (.int a) h):WF P0 d 117 [.int a,.int b,.int c,x] h Q:=by
 exact l0 (K:=0) hd (Qa (.int a)::Qa (.int b)::Qa (.int c)::Qa x::nn 6) o7 rfl λd' h'=>lJ (.c4<| .f (decide_eq_false (YW.mpr h1))<| .c<| .f (decide_eq_false (YW.mpr h2))<| .z (q)) rfl
def SO {s:List Nat} (hd:4<=d) (hs: ∀c∈s,Vw c=Qf) (hl:s.length<=200) (q:Q .none h):WF P0 d 130 [.str s] h Q:=by
 exact l0 (K:=3) hd (Qa (.str s)::nn 6) qD rfl λd' h'=>lJ (.p (fn (as:=[.str s]) rfl (BL h' hs (Jy (JX hl) (JE _ _)) (cv (.str s) h)))<| .c2<| .f (decide_eq_false (p:=(200:Int)<s.length) (by lia))<| .z (q)) rfl
end
abbrev oE:Nat:=1919512167
abbrev lV:Nat:=1634886515
abbrev pE:Nat:=1701733491
abbrev rZ:Nat:=495873782388
abbrev uR:Nat:=439855772532
abbrev w7:Nat:=104880676367988
abbrev qK:Nat:=504397587826
abbrev uQ:Nat:=465726563698
abbrev wZ:Nat:=131277443786868
abbrev mH:Nat:=127961880028532
def zc4 {a b:List aa} (e:Qa (ae.list a)=Qa (.list b)):a=b:=by cases e;rfl
def zd8: ∀ {as bs:List Nat},as.map aa.ref=bs.map aa.ref->as=bs:=by
 intro as
 induction as with
 |nil=>intro bs e;cases bs with|nil=>rfl|cons _ _=>cases e
 |cons a as ih=>
  intro bs e;cases bs with
  |nil=>cases e
  |cons b bs=>injection e with e1 e2;injection e1 with e1;rw [e1,ih e2]
theorem zee {as bs:List Nat} (e:Qa (ae.list (as.map .ref))=Qa (.list (bs.map .ref))):as=bs:=zd8 (zc4 e)
structure Ar (α:Type) where
 up:List Nat
 lo:List Nat
 w:α
 t:Nat
structure Mc (α:Type) where
 ab:List (List (Ar α))
 ar:List α
 start:Nat
 first:α
 bq:Nat
structure Ly where
 m:Nat
 aA:Nat
 aE:Nat
 bc:List Nat
section
variable (R:Rg)
def pB (a:Ar R.α):ae:= .inst 118 [(qK,.str a.up),(uQ,.str a.lo),(wZ,R.e a.w),(mH,.int a.t)]
def mO (L:Ly) (M:Mc R.α):ae:= .inst 121 [(oE,.ah (112+R.i)),(lV,.ref L.aA),(pE,.ref L.aE),(rZ,.int M.start),(uR,R.e M.first),(w7,.int M.bq)]
def rK (h:MH) (r:Nat) (xs:List (Ar R.α)):Prop:= ∃as:List Nat,h[r]?=Qa (.list (as.map .ref))/\as.length=xs.length/\∀ (j a:Nat) (x:Ar R.α),as[j]?=Qa a->xs[j]?=Qa x->h[a]?=Qa (pB R x)
def yf (h:MH) (bc:List Nat) (m:Nat):Prop:= ∃ads:List (List Nat),ads.flatten.Nodup/\(∀a∈ads.flatten,m<a)/\bc.map (λr=>h[r]?)=ads.map λas=>Qa (.list (as.map .ref))
structure aq (h:MH) (L:Ly) (M:Mc R.α):Prop where
 fk:h[L.m]?=Qa (mO R L M)
 ab:h[L.aA]?=Qa (.list (L.bc.map .ref))
 ar:h[L.aE]?=Qa (.list (M.ar.map R.e))
 len:L.bc.length=M.ab.length
 fj:M.ar.length=M.ab.length
 bc: ∀ (k r:Nat) (xs:List (Ar R.α)),L.bc[k]?=Qa r->M.ab[k]?=Qa xs->rK R h r xs
 nd:(L.aA::L.aE::L.bc).Nodup
 bh:M.ab.length<=10000
 ct:(M.ab.map Z5).sum=M.bq
 cl:M.bq<=100000
 ds:yf h L.bc L.m
end
def yf.to {h h':MH}{bc:List Nat}{m:Nat} (D:yf h bc m) (e: ∀r∈bc,∀vs,h[r]?=Qa (.list vs) ->h'[r]?=Qa (.list vs)):yf h' bc m:=by
 refine Zs D λads zq3=>?_;refine ⟨ads,zq3.1,zq3.2.1,(ZO λr hr=>?_).trans zq3.2.2⟩;have hm:h[r]?∈bc.map λr=>h[r]?:=JO.mpr ⟨r,hr,rfl⟩;rw [zq3.2.2] at hm;refine (JO.mp hm).elim λas zq2=>?_;rw [<-zq2.2];exact e r hr _ zq2.2.symm
def UY {α:Type}{l:List (List α)}{xs:List α} (h:xs∈l):xs.length<=(l.map Z5).sum:=by
 induction l with
 |nil=>exact absurd h JB
 |cons y l ih=>
  simp only [JR,YC];rcases JT.mp h with rfl|h
  ·exact Jv _ _
  ·have:=ih h;exact YQ this
def D7 {α:Type}{l:List (List α)}{s:Nat}{a:α} (hs:s<l.length):((l.set s (l[s]++ [a])).map Z5).sum=(l.map Z5).sum+1:=by
 induction l generalizing s with
 |nil=>exact absurd hs (Zh _)
 |cons y l ih=>
  cases s with
  |zero=>simp;exact ZK _ _ _
  |succ s=>
   have:=ih (s:=s) (Z4 hs)
   simp only [List.set_cons_succ,List.getElem_cons_succ,JR,YC,this];exact qaw (Zf _ _ _)
theorem aq.cr {R:Rg}{h:MH}{L:Ly}{M:Mc R.α} (I:aq R h L M): ∀xs∈M.ab,xs.length<=M.bq:=λxs hx=>I.ct▸UY hx
structure m3 (h h':MH) (S:List Nat):Prop where
 len:h.length<=h'.length
 at': ∀ (a:Nat) (o:ae),a∉S->h[a]?=Qa o->h'[a]?=Qa o
def fi (L:Ly):List Nat:=L.m::L.aA::L.aE::L.bc
theorem m3.refl {h:MH}{S:List Nat}:m3 h h S:=⟨JA _,λ_ _ _ e=>e⟩
theorem m3.trans {h h' h'':MH}{S:List Nat} (x:m3 h h' S) (y:m3 h' h'' S):m3 h h'' S:=⟨Jq x.len y.len,λa o hs e=>y.at' a o hs (x.at' a o hs e)⟩
theorem m3.sub {h h':MH}{S T:List Nat} (x:m3 h h' S) (hs: ∀a∈S,a∈T):m3 h h' T:=⟨x.len,λa o ht e=>x.at' a o (λq=>ht (hs a q)) e⟩
theorem m3.cw {h t:MH}{S:List Nat}:m3 h (h++t) S:=⟨by rw [Jz];exact Jv _ _,λ_ _ _ e=>kI e⟩
theorem m3.set {h:MH}{a:Nat}{o:ae}:m3 h (h.set a o) [a]:=⟨by rw [Zb];exact JA _,λb x hb e=>lF (λq=>hb (q▸ .head _)) e⟩
section
variable {R:Rg}{d:Nat}{h h0:MH}{Q:aa->MH->Prop}{L:Ly}{M:Mc R.α}
def rK.mono {r:Nat}{xs:List (Ar R.α)}{h':MH} (x:rK R h r xs) (hk: ∀ (a:Nat) (o:ae),h[a]?=Qa o->(∃x,o=pB R x)\/a=r->h'[a]?=Qa o):rK R h' r xs:=by
 exact Zs x λas zq1=>⟨as,hk _ _ zq1.1 (.inr rfl),zq1.2.1,λj a x ha hx=>hk _ _ (zq1.2.2 j a x ha hx) (.inl ⟨x,rfl⟩)⟩
theorem aq.cw {t:MH} (I:aq R h L M):aq R (h++t) L M:=
 ⟨kI I.fk,kI I.ab,kI I.ar,I.len,I.fj,λk r xs hr hx=>(I.bc k r xs hr hx).mono λa o e _=>kI e,I.nd,I.bh,I.ct,I.cl,I.ds.to λ_ _ _ e=>kI e⟩
theorem nO (I:aq R h L M):getAttr P0 h (.ref L.m) oE=Qa (.ah (112+R.i)):=ga I.fk rfl rfl
theorem Wv (I:aq R h L M):getAttr P0 h (.ref L.m) pE=Qa (.ref L.aE):=ga I.fk rfl rfl
theorem pI (I:aq R h L M):getAttr P0 h (.ref L.m) lV=Qa (.ref L.aA):=ga I.fk rfl rfl
theorem tK (I:aq R h L M):getAttr P0 h (.ref L.m) rZ=Qa (.int M.start):=ga I.fk rfl rfl
theorem U4 (I:aq R h L M):getAttr P0 h (.ref L.m) uR=Qa (R.e M.first):=ga I.fk rfl rfl
theorem OL (I:aq R h L M) (d:Nat):kT (aj P0 d) (.bi 7103854) [.ref L.aA] h=Qa (.int M.ab.length,h):=W.eq (Dk I.ab (by rw [Jt,I.len];exact cv _ _))
def M7 (hd:1<=d) (I:aq R h L M) (q:Q (.int M.ab.length) h):WF P0 d 174 [.ref L.m] h Q:=by
 exact l0 (K:=0) hd (Qa (.ref L.m)::nn 6) sP rfl λd' h'=>lJ (.v (pI I)<| .p (OL I d')<| .z (q)) rfl
def SN {k:Nat} (hd:2<=d) (I:aq R h L M) (hk:k<M.ab.length) (q:Q (.int k) h):WF P0 d 170 [.ref L.m,.int k] h Q:=by
 exact l0 (K:=1) hd (Qa (.ref L.m)::Qa (.int k)::nn 6) nZ rfl λd' h'=>lJ (.v (pI I)<| .p (OL I d')<| .c<| .p (fn (as:=[.int k,.int 0,.int ((M.ab.length:Int) -1),.str [115,116,97,116,101]]) rfl (D3 h' (KU _) (by lia) (cv (.int k) h)))<| .z (q)) rfl
theorem zf7 {n f:Nat} (I:aq R h L M) (hn:vV [(oE,.ah (112+R.i)),(lV,.ref L.aA),(pE,.ref L.aE),(rZ,.int M.start),(uR,R.e M.first),(w7,.int M.bq)] n=Qd) (hm:yS P0 121 n=Qa f):nU P0 h (.ref L.m) n=Qa (f,[.ref L.m]):=mR I.fk hn hm
end
section
variable {R:Rg}{d:Nat}{h h0:MH}{Q:aa->MH->Prop}{L:Ly}{M:Mc R.α}
theorem di {a b:Nat}{o p:ae} (e1:h[a]?=Qa o) (e2:h[b]?=Qa p) (hn:o≠p):a≠b:=λq=>hn (by subst q;exact Qa.inj (e1.symm.trans e2))
theorem aq.mA (I:aq R h L M):L.m≠L.aA:=di I.fk I.ab nofun
theorem aq.mE (I:aq R h L M):L.m≠L.aE:=di I.fk I.ar nofun
theorem aq.AE (I:aq R h L M):L.aA≠L.aE:=λq=>(JN.mp I.nd).1 (q▸ .head _)
theorem aq.xi (I:aq R h L M):L.aA∉L.bc:=λq=>(JN.mp I.nd).1 (.tail _ q)
theorem aq.tc (I:aq R h L M):L.aE∉L.bc:=(JN.mp (JN.mp I.nd).2).1
theorem aq.nr (I:aq R h L M):L.bc.Nodup:=(JN.mp (JN.mp I.nd).2).2
def aq.row (I:aq R h L M) {k:Nat} (hk:k<M.ab.length): ∃r,L.bc[k]?=Qa r/\rK R h r M.ab[k]:=by
 exact ⟨_,Js (by rw [I.len];exact hk:k<L.bc.length),I.bc k _ _ (Js (by rw [I.len];exact hk:k<L.bc.length)) (Js hk)⟩
def aq.ua (I:aq R h L M) {r:Nat} (hr:r∈L.bc):r<h.length:=by
 obtain ⟨k,hk,rfl⟩:=Yu.mp hr;refine xEA (I.row (k:=k) (by rw [<-I.len];exact hk)) λr h1 gH=>?_;refine xEA gH λas h2 _=>?_;rw [Js hk] at h1;refine Se h1 ?_;exact lI h2
theorem aq.md (I:aq R h L M):L.m∉L.bc:=λq=>by
 obtain ⟨k,hk,e⟩:=Yu.mp q;refine xEA (I.row (k:=k) (by rw [<-I.len];exact hk)) λr h1 zg10=>?_;refine xEA zg10 λas h2 _=>?_;rw [Js hk,e] at h1;obtain rfl:=Qa.inj h1;exact di I.fk h2 nofun rfl
def Na {n:Nat} (hd:1<=d) (I:aq R h L M) (hn:M.ab.length+n<=20000) (q:Q .none h):WF P0 d 167 [.ref L.m,.int n] h Q:=by
 exact l0 (K:=0) hd (Qa (.ref L.m)::Qa (.int n)::nn 6) oA rfl λd' h'=>lJ (.v (pI I)<| .p (OL I d')<| .c2<| .f (decide_eq_false (p:=(20000:Int)<M.ab.length+n) (by lia))<| .z (q)) rfl
theorem zbi (z:Cx) {a:Nat}{vs us:List aa} (v:aa) (h0a:h0[a]?=Qa (.list us)) (ha:h[a]?=Qa (.list vs)) (hl:vs.length<1000000):l5 z (.ref a) ew [v] h0 h=Qa (.none,h.set a (.list (vs++ [v]))):=W.eq (V2 h0a ha hl (cv _ _))
theorem PW {n:Nat} (hd:1<=d) (I:aq R h L M) (hn:M.ab.length+n<=20000):l5 (aj P0 d) (.ref L.m) 450661264077055929053037 [.int n] h h=Qa (.none,h):=me (mR I.fk rfl rfl) (Na hd I hn (cv _ _))
def Ly.more (L:Ly) (r:Nat):Ly:= {L with bc:=L.bc++ [r]}
def Mc.more (M:Mc R.α):Mc R.α:= {M with ab:=M.ab++ [[]],ar:=M.ar++ [R.zero]}
def HJ (h:MH) (L:Ly):MH:=(h++ [ae.list []]).set L.aA (ae.list (L.bc.map aa.ref++ [aa.ref h.length]))
def wU (R:Rg) (h:MH) (L:Ly) (M:Mc R.α):MH:=(HJ h L).set L.aE (ae.list (M.ar.map R.e++ [R.e R.zero]))
section
variable {a:Nat}{o:ae}
theorem uM (e:(h++ [ae.list []])[a]?=Qa o) (h1:a≠L.aA):(HJ h L)[a]?=Qa o:=lF (Kn h1) e
theorem uL (e:(h++ [ae.list []])[a]?=Qa o) (h1:a≠L.aA) (h2:a≠L.aE):(wU R h L M)[a]?=Qa o:=lF (Kn h2) (uM e h1)
theorem Oa (I:aq R h L M) {r:Nat}{xs:List (Ar R.α)} (hm:r∈L.bc) (hr:rK R h r xs):rK R (wU R h L M) r xs:=hr.mono λa o e ho=>uL (kI e) (ho.elim (λ⟨_,q⟩=>di e I.ab (q▸nofun)) λq p=>I.xi (p▸q▸hm)) (ho.elim (λ⟨_,q⟩=>di e I.ar (q▸nofun)) λq p=>I.tc (p▸q▸hm))
end
def x5 {α:Type}{l:List α}{x:α}:(l++ [x]).length=l.length+1:=by rw [Jz,qam]
def Av {α β:Type}{l:List α}{m:List β}{x z:α}{y w:β}{k:Nat} (hl:l.length=m.length) (h1:(l++ [x])[k]?=Qa z) (h2:(m++ [y])[k]?=Qa w):(l[k]?=Qa z/\m[k]?=Qa w)\/(z=x/\w=y):=by
 by_cases hk:k<l.length
 ·rw [ZP hk] at h1
  rw [ZP (hl▸hk)] at h2;exact .inl ⟨h1,h2⟩
 ·have e:k=l.length:=KJ (Ze (Jy (kP h1) (JM x5))) (ZX.mp hk)
  subst e;rw [Kz (JA _),qad] at h1;rw [hl,Kz (JA _),qad] at h2;exact .inr ⟨(Qa.inj h1).symm,(Qa.inj h2).symm⟩
def Cb (I:aq R h L M) (k r:Nat) (xs:List (Ar R.α)) (hr:(L.bc++ [h.length])[k]?=Qa r) (hx:(M.ab++ [[]])[k]?=Qa xs):rK R (wU R h L M) r xs:=by
 rcases Av I.len hr hx with ⟨h1,h2⟩| ⟨rfl,rfl⟩
 ·exact Oa I (Ju h1) (I.bc k r xs h1 h2)
 ·exact ⟨[],uL ap (Ka (lI I.ab)) (Ka (lI I.ar)),rfl,λj a x ha=>ag ha⟩
def N9 (I:aq R h L M):(L.aA::L.aE::(L.bc++ [h.length])).Nodup:=by
 rw [<-Yf,<-Yf];refine ZR.mpr ⟨I.nd,JN.mpr ⟨JB,.nil⟩,λa ha b hb e=>?_⟩;rw [JG.mp hb] at e;subst e;rcases JT.mp ha with e|ha
 ·exact absurd (e▸lI I.ab) (J8 _)
 ·rcases JT.mp ha with e|ha
  ·exact absurd (e▸lI I.ar) (J8 _)
  ·exact absurd (I.ua ha) (J8 _)
def Ob (I:aq R h L M):yf (wU R h L M) (L.bc++ [h.length]) L.m:=by
 refine xEAA (I.ds.to (h':=wU R h L M) λr hr o e=>uL (kI e) (λq=>I.xi (q▸hr)) λq=>I.tc (q▸hr)) λads n b q=>?_;refine ⟨ads++ [[]],by rw [qaD,Zv];exact n,by rw [qaD,Zv];exact b,?_⟩;simp only [JY,JY,q,Xu,uL ap (Ka (lI I.ab)) (Ka (lI I.ar))];rfl
theorem aq.more (I:aq R h L M) (hl:M.ab.length<10000):aq R (wU R h L M) (L.more h.length) M.more where
 fk:=uL (kI I.fk) I.mA I.mE
 ab:=(lF (Kn I.AE) (lW (kI I.ab))).trans (by rw [<-Xu,<-JY];rfl)
 ar:=(lW (uM (kI I.ar) (Kn I.AE))).trans (by rw [<-Xu,<-JY];rfl)
 len:=x5.trans ((congrArg (· +1) I.len).trans x5.symm)
 fj:=x5.trans ((congrArg (· +1) I.fj).trans x5.symm)
 bc:=Cb I
 nd:=N9 I
 bh:=(x5▸hl)
 ct:=(show ((M.ab++ [[]]).map Z5).sum=M.bq by rw [JY,Xl];exact I.ct)
 cl:=I.cl
 ds:=Ob I
theorem EA:m3 h (wU R h L M) [L.aA,L.aE]:=⟨by unfold wU HJ;rw [Zb,Zb,x5];exact Zw _,λa o ha e=>uL (kI e) (λq=>ha (q▸ .head _)) λq=>ha (q▸ .tail _ (.head _))⟩
def GN (hd:2<=d) (I:aq R h L M) (hl:M.ab.length<10000) (q: ∀h',aq R h' (L.more h.length) M.more->m3 h h' [L.aA,L.aE]->Q (.int M.ab.length) h'):WF P0 d 168 [.ref L.m] h Q:=by
 refine l0 (K:=1) hd (Qa (.ref L.m)::nn 6) rF rfl λd' h'=>?_;have e4:((M.more.ab.length:Nat):Int) -1=M.ab.length:=by
  rw [show M.more.ab.length=M.ab.length+1 from x5,qa1];exact Int.add_sub_cancel ..
 exact lJ (.p (PW (n:=1) h' I (Jq (Zu (JQ hl)) (by decide)))<| .v (pI I)<| .at (h++ [ae.list []])<| .p (zbi (aj P0 d') (.ref h.length) I.ab (kI (t:=[ae.list []]) I.ab) (by rw [Jt,I.len];exact Zm hl (by decide)))<| .v ((ga (uM (kI I.fk) I.mA:(HJ h L)[L.m]?=Qa (mO R L M)) rfl rfl:getAttr P0 (HJ h L) (.ref L.m) pE=Qa (.ref L.aE)))<| .v ((ga (uM (kI I.fk) I.mA:(HJ h L)[L.m]?=Qa (mO R L M)) rfl rfl:getAttr P0 (HJ h L) (.ref L.m) oE=Qa (.ah (112+R.i))))<| .w (R.no)<| .p (zbi (aj P0 d') (R.e R.zero) (uM (h:=h) (kI I.ar) (Kn I.AE)) (uM (h:=h) (kI I.ar) (Kn I.AE)) (by rw [Jt,I.fj];exact Zm hl (by decide)))<| .v (pI (I.more hl))<| .p (OL (I.more hl) d')<| .c<| .z ((show Q (.int ((M.more.ab.length:Int) -1)) (wU R h L M) by rw [e4];exact q _ (I.more hl) EA))) (by kernel_rfl)
end
section
variable {R:Rg}{d:Nat}{h h0:MH}{Q:aa->MH->Prop}{L:Ly}{M:Mc R.α}
theorem UE {a k n:Nat}{fs fs':List (Nat×aa)}{v:aa}{o:ae} (ha:h[a]?=Qa o) (hf:P0.du k n=Qf) (hl:fs.length<400) (e:Wx fs n v=fs'):setAttr P0 (h.set a (.inst k fs)) (.ref a) n v=Qa (h.set a (.inst k fs')):=(AP (lW ha) hf hl).trans (by rw [qbj,e])
def IE {a:Nat}{up lo:List Nat}{w:R.α}{t:Nat} (hd:1<=d) (ha:h[a]?=Qa (.inst 118 [])) (q:Q .none (h.set a (pB R ⟨up,lo,w,t⟩))):WF P0 d 166 [.ref a,.str up,.str lo,R.e w,.int t] h Q:=by
 exact l0 (K:=0) hd (Qa (.ref a)::Qa (.str up)::Qa (.str lo)::Qa (R.e w)::Qa (.int t)::nn 6) yY rfl λd' h'=>lJ (.h ((AP ha rfl (by decide):setAttr P0 h (.ref a) qK (.str up)=Qa (h.set a (.inst 118 [(qK,.str up)]))))<| .h ((UE (k:=118) (n:=uQ) (fs:=[(qK,.str up)]) (v:=.str lo) ha rfl (by decide:1<400) rfl))<| .h ((UE (k:=118) (n:=wZ) (fs:=[(qK,.str up),(uQ,.str lo)]) (v:=R.e w) ha rfl (by decide:2<400) rfl))<| .h ((UE (k:=118) (n:=mH) (fs:=[(qK,.str up),(uQ,.str lo),(wZ,R.e w)]) (v:=.int t) ha rfl (by decide:3<400) rfl))<| .z ((q))) (by kernel_rfl)
theorem IB {x:Ar R.α}:pB R x≠mO R L M:=λe=>by
 injection e with e1 e2;exact absurd e1 (by decide)
def Mc.fv (M:Mc R.α) (s:Nat) (a:Ar R.α):Mc R.α:= {M with ab:=M.ab.set s (M.ab[s]?.getD []++ [a]),bq:=M.bq+1}
def L7 (R:Rg) (h:MH) (L:Ly) (M:Mc R.α):MH:=h.set L.m (mO R L {M with bq:=M.bq+1})
def VV (R:Rg) (h:MH) (L:Ly) (M:Mc R.α) (a:Ar R.α) (r:Nat) (as:List Nat):MH:=(L7 R h L M++ [pB R a]).set r (.list (as.map aa.ref++ [aa.ref h.length]))
theorem zaF:(L7 R h L M).length=h.length:=Zb ..
section
variable {a:Ar R.α}{s r b:Nat}{as:List Nat}{o:ae}
theorem xS (e:h[b]?=Qa o) (h1:b≠L.m):(L7 R h L M)[b]?=Qa o:=lF (Kn h1) e
theorem uT (e:h[b]?=Qa o) (h1:b≠L.m) (h2:b≠r):(VV R h L M a r as)[b]?=Qa o:=lF (Kn h2) (kI (xS e h1))
theorem ID (hr:r<h.length):(VV R h L M a r as)[h.length]?=Qa (pB R a):=lF (Z2 hr) ((congrArg (λn=>(L7 R h L M++ [pB R a])[n]?) zaF.symm).trans ap)
theorem IC (hr:r∈L.bc):m3 h (VV R h L M a r as) (fi L):=⟨by unfold VV;rw [Zb,x5,zaF];exact Zw _,λb o hb e=>uT e (λq=>hb (q▸ .head _)) λq=>hb (q▸ .tail _ (.tail _ (.tail _ hr)))⟩
structure Fe (R:Rg) (h:MH) (L:Ly) (M:Mc R.α) (s r:Nat) (as:List Nat) (xs:List (Ar R.α)):Prop where
 i:L.bc[s]?=Qa r
 x:M.ab[s]?=Qa xs
 a:h[r]?=Qa (.list (as.map aa.ref))
 l:as.length=xs.length
 o: ∀ (j b:Nat) (x:Ar R.α),as[j]?=Qa b->xs[j]?=Qa x->h[b]?=Qa (pB R x)
def Iz {xs:List (Ar R.α)} (I:aq R h L M) (W:Fe R h L M s r as xs):rK R (VV R h L M a r as) r (xs++ [a]):=by
 have hm:=Ju W.i;refine ⟨as++ [h.length],?_,x5.trans ((congrArg (· +1) W.l).trans x5.symm),λj b x hb hx=>?_⟩
 ·rw [JY];exact lW (kI (xS W.a λq=>I.md (q▸hm)))
 ·rcases Av W.l hb hx with ⟨h1,h2⟩| ⟨rfl,rfl⟩
  ·exact uT (W.o j b x h1 h2) (di (W.o j b x h1 h2) I.fk IB) (di (W.o j b x h1 h2) W.a nofun)
  ·exact ID (I.ua hm)
def Fb {xs:List (Ar R.α)}{k r':Nat}{ys:List (Ar R.α)} (I:aq R h L M) (W:Fe R h L M s r as xs) (hk:s≠k) (hr:L.bc[k]?=Qa r') (hy:M.ab[k]?=Qa ys):rK R (VV R h L M a r as) r' ys:=by
 have hn:r'≠r:=λq=>by
  subst q;obtain ⟨l1,e1⟩:=JD.mp W.i;obtain ⟨l2,e2⟩:=JD.mp hr;exact hk (Y9 I.nr|>.mp (e1.trans e2.symm))
 exact (I.bc k r' ys hr hy).mono λb o e ho=>uT e (ho.elim (λ⟨_,q⟩=>di e I.fk (q▸IB)) λq p=>I.md (p▸q▸(Ju hr))) (ho.elim (λ⟨_,q⟩=>di e W.a (q▸nofun)) λq=>q▸hn)
def vO {l:List Nat}{k r:Nat} (h:l[k]?=Qa r):(l.map aa.ref)[k]?=Qa (.ref r):=by rw [JC,h];rfl
theorem aq.zu (I:aq R h L M) {as:List Nat}{k r:Nat} (hr:L.bc[k]?=Qa r) (ha:h[r]?=Qa (.list (as.map aa.ref))): ∀b∈as,b<h.length:=λb hb=>by
 have hk:k<M.ab.length:=I.len▸kP hr;refine Zs (I.bc k r _ hr (Js hk)) λas' zq15=>?_;have h1:=zq15.1;refine (Xe hb).elim λj zq14=>?_;rw [ha] at h1;have e1:(as'.map aa.ref)[j]?=Qa (.ref b):=(zc4 h1:as.map aa.ref=as'.map aa.ref)▸vO zq14;rw [JC] at e1;refine (Zl.mp e1).elim λb' zq13=>?_;have e3:=zq13.2;cases e3;exact lI (zq15.2.2 j _ _ zq13.1 (Js (zq15.2.1▸kP zq13.1:j<M.ab[k].length)))
def SU {l:List (List Nat)}{s x:Nat}{as:List Nat} (n:l.flatten.Nodup) (hs:l[s]?=Qa as) (hx: ∀bs∈l,x∉bs):(l.set s (as++ [x])).flatten.Nodup:=by
 refine (JD.mp hs).elim λh zq12=>?_;refine eqE zq12 ?_;have e:=KC s l;rw [Kg h] at e;have hf:x∉l.flatten:=λq=>let ⟨bs,h1,h2⟩:=Xa.mp q;hx bs h1 h2;rw [List.set_eq_take_append_cons_drop,if_pos h,Yx,K4];rw [(by conv=>lhs;rw [<-e,Yx,K4]:l.flatten=(l.take s).flatten++(l[s]++(l.drop (s+1)).flatten))] at n hf;rw [JH,List.singleton_append,<-JH];refine YU.nodup_iff.mpr (JN.mpr ⟨?_,?_⟩)
 ·rw [JH];exact hf
 ·rw [JH];exact n
def zbf {xs:List (Ar R.α)} (I:aq R h L M) (W:Fe R h L M s r as xs):yf (VV R h L M a r as) L.bc L.m:=by
 refine Zs I.ds λads zq11=>?_;have b:=zq11.2.1;have q:=zq11.2.2;have g2: ∀ (k:Nat),(L.bc.map λr=>h[r]?)[k]?=ads[k]?.map λas=>Qa (.list (as.map .ref)):=λk=>by rw [q];exact JC ..
 have hs:ads[s]?=Qa as:=by
  have e:=((λk=>JC ..) s).symm.trans (g2 s);rw [W.i,qak,W.a] at e;exact (Zl.mp e.symm).elim λas' zq10=>zq10.1.trans (congrArg Qa (zee zq10.2))
 refine ⟨ads.set s (as++ [h.length]),SU zq11.1 hs λbs hb hx=>?_,λx hx=>?_,?_⟩
 ·refine (Xe hb).elim λk zq9=>?_
  have e:=((λk=>JC ..) k).symm.trans (g2 k);rw [zq9] at e;exact (Zl.mp e).elim λr' zq8=>J8 _ (I.zu zq8.1 zq8.2 _ hx)
 ·obtain ⟨bs,hb,hx⟩:=Xa.mp hx
  rcases Kj hb with hb|rfl
  ·exact b x (Xa.mpr ⟨bs,hb,hx⟩)
  ·rcases J4.mp hx with hx|hx
   ·exact b x (Xa.mpr ⟨as,Ju hs,hx⟩)
   ·rw [JG.mp hx];exact lI I.fk
 ·refine qaU λk=>?_
  simp only [JC,JC];by_cases e:s=k
  ·subst e
   simp only [W.i,J7 (kP hs),qak,qak,JY];exact congrArg Qa (lW (kI (xS W.a λq=>I.md (q▸(Ju W.i)))))
  ·rw [J6 e,<-g2 k,(λk=>JC ..) k]
   cases hr:L.bc[k]? with
   |none=>rfl
   |some r'=>
    obtain ⟨o,ho⟩: ∃o,h[r']?=Qa o:=⟨_,Js (I.ua (Ju hr))⟩;have hn:r'≠r:=λq=>by
     subst q;obtain ⟨l1,e1⟩:=JD.mp W.i;obtain ⟨l2,e2⟩:=JD.mp hr;exact e (Y9 I.nr|>.mp (e1.trans e2.symm))
    show Qa (VV R h L M a r as)[r']?=Qa h[r']?;rw [ho,uT ho (λq=>I.md (q▸(Ju hr))) hn]
def aq.fv {xs:List (Ar R.α)} (I:aq R h L M) (W:Fe R h L M s r as xs) (hc:M.bq<100000):aq R (VV R h L M a r as) L (M.fv s a):=by
 have hm:=Ju W.i;refine ⟨lF (λq=>I.md (q▸hm)) (kI (lW I.fk)),uT I.ab (Kn I.mA) λq=>I.xi (q▸hm),uT I.ar (Kn I.mE) λq=>I.tc (q▸hm),I.len.trans (Zb ..).symm,I.fj.trans (Zb ..).symm,λk r' ys hr hy=>?_,I.nd,Jq (JM (Zb ..)) I.bh,?_,hc,zbf I W⟩
 ·have hy:(M.ab.set s (M.ab[s]?.getD []++ [a]))[k]?=Qa ys:=hy
  rw [(by rw [W.x];rfl:M.ab[s]?.getD []=xs)] at hy;by_cases hk:s=k
  ·subst hk
   rw [J7 (kP W.x)] at hy;refine mP hy ?_;cases W.i.symm.trans hr;exact Iz I W
  ·rw [J6 hk] at hy
   exact Fb I W hk hr hy
 ·show ((M.ab.set s (M.ab[s]?.getD []++ [a])).map Z5).sum=M.bq+1
  rw [(by rw [W.x];rfl:M.ab[s]?.getD []=xs),<-(JD.mp W.x).2];exact (D7 (kP W.x)).trans (congrArg (· +1) I.ct)
def aq.bY (I:aq R h L M) (hs:s<M.ab.length): ∃r as,Fe R h L M s r as M.ab[s]:=by
 exact (I.row hs).elim λr zq3=>Zs zq3.2 λas zq4=>⟨r,as,zq3.1,Js hs,zq4.1,zq4.2.1,zq4.2.2⟩
end
theorem zdf (I:aq R h L M):getAttr P0 h (.ref L.m) w7=Qa (.int M.bq):=ga I.fk rfl rfl
theorem CM {k:Nat} (hd:2<=d) (I:aq R h L M) (hk:k<M.ab.length):l5 (aj P0 d) (.ref L.m) 521330740336550618428517 [.int k] h h=Qa (.int k,h):=me (mR I.fk rfl rfl) (SN hd I hk (cv (.int k) h))
theorem Nx (a:Ar R.α) (hd:1<=d):kT (aj P0 d) (.ah 118) [.str a.up,.str a.lo,R.e a.w,.int a.t] h=Qa (.ref h.length,h++ [pB R a]):=W.eq (Fh (i:=166) rfl rfl (IE (up:=a.up) (lo:=a.lo) (w:=a.w) (t:=a.t) hd ap ⟨rfl,rfl,rS⟩))
def zgm {s:Nat}{a:Ar R.α}{p k:Nat} (hd:4<=d) (I:aq R h L M) (hs:s<M.ab.length) (ht:a.t<M.ab.length) (lu:fc a.up) (ll:fc a.lo) (hw:R.D p k a.w) (hl:4*p+k<=3800) (hc:M.bq<100000) {r:Nat}{as:List Nat} (W:Fe R h L M s r as M.ab[s])
  (q0:a.w=R.zero->Q .none h) (q1:a.w≠R.zero->Q .none (VV R h L M a r as)):WF P0 d 171 [.ref L.m,.int s,.str a.up,.str a.lo,R.e a.w,.int a.t] h Q:=by
 refine l0 (K:=3) hd (Qa (.ref L.m)::Qa (.int s)::Qa (.str a.up)::Qa (.str a.lo)::Qa (R.e a.w)::Qa (.int a.t)::nn 6) tU rfl λd' h'=>?_;have r1:=xS (R:=R) (M:=M) W.a λq=>I.md (q▸Ju W.i);have e4:=Nx (h:=L7 R h L M) (d:=d') a (Jq (by decide) h');rw [zaF] at e4;exact lJ (.p (CM (Jq (by decide) h':2<=d') I hs)<| .p (CM (Jq (by decide) h':2<=d') I ht)<| .p (fn (as:=[.str a.up]) rfl (DY h' lu (cv (.str a.up) h)))<| .p (fn (as:=[.str a.lo]) rfl (DY h' ll (cv (.str a.lo) h)))<| .v (nO I)<| .q (R.nd h' hw hl)<| .v (nO I)<| .w (R.no)<| .k (R.qe a.w R.zero)<| .br (@decide (a.w=R.zero) (R.gq a.w R.zero)) (λhz=> .z (q0 (dT hz))) (λhz=> .v (zdf I)<| .c<| .f (decide_eq_false (p:=(200000:Int)<=M.bq) (qaL.mpr (ZW.mpr (Zm hc (by decide)))))<| .v (zdf I)<| .c<| .h ((AP I.fk rfl (by decide:6<400):setAttr P0 h (.ref L.m) w7 (.int ((M.bq:Int)+1))=Qa (L7 R h L M)))<| .v ((ga (lW I.fk) rfl rfl:getAttr P0 (L7 R h L M) (.ref L.m) lV=Qa (.ref L.aA)))<| .v ((sl (xS I.ab (Kn I.mA)) (vO W.i):l9 (L7 R h L M) (.ref L.aA) (.int s)=Qa (.ref r)))<| .p (e4)<| .p ((zbi (aj P0 d') (.ref h.length) r1 (kI (t:=[pB R a]) r1) (by rw [Jt,W.l];exact Jx (I.cr _ (ZA hs)) (Zm hc (by decide)))))<| .z ((q1 (dF hz))))) (by kernel_rfl)
def IA {s:Nat}{a:Ar R.α}{p k:Nat} (hd:4<=d) (I:aq R h L M) (hs:s<M.ab.length) (ht:a.t<M.ab.length) (lu:fc a.up) (ll:fc a.lo) (hw:R.D p k a.w) (hl:4*p+k<=3800) (hc:M.bq<100000)
  (q: ∀h' M',aq R h' L M'->m3 h h' (fi L) ->(a.w=R.zero->M'=M) ->(a.w≠R.zero->M'=M.fv s a) ->Q .none h'):WF P0 d 171 [.ref L.m,.int s,.str a.up,.str a.lo,R.e a.w,.int a.t] h Q:=by
 exact (I.bY hs).elim λr zq1=>zq1.elim λas zq2=>zgm hd I hs ht lu ll hw hl hc zq2 (λe=>q h M I .refl (λ_=>rfl) λhn=>absurd e hn) λe=>q _ _ (I.fv zq2 hc) (IC (Ju zq2.i)) (λh=>absurd h e) λ_=>rfl
end
section
variable {R:Rg}{d:Nat}{h h0:MH}{Q:aa->MH->Prop}{L:Ly}{M:Mc R.α}
def aq.wd {M':Mc R.α} (I:aq R h L M) (e1:M'.ab=M.ab) (e2:M'.ar=M.ar) (e3:M'.bq=M.bq):aq R (h.set L.m (mO R L M')) L M':=by
 refine ⟨lW I.fk,lF I.mA I.ab,lF I.mE (e2▸I.ar),e1▸I.len,by rw [e1,e2];exact I.fj,λk r xs hr hx=>?_,I.nd,e1▸I.bh,by rw [e1,e3];exact I.ct,e3▸I.cl,I.ds.to λr hr _ e=>lF (λq=>I.md (q▸hr)) e⟩;rw [e1] at hx;refine (I.bc k r xs hr hx).mono λa o e ho=>lF ?_ e;rcases ho with ⟨x,rfl⟩|rfl
 ·exact Kn (di e I.fk IB)
 ·exact λq=>I.md (q▸Ju hr)
theorem PD {L:Ly}:L.m∈fi L:= .head _
theorem zco {L:Ly}:L.aE∈fi L:= .tail _ (.tail _ (.head _))
theorem BG {h:MH}{o:ae}{L:Ly}{a:Nat} (ha:a∈fi L):m3 h (h.set a o) (fi L):=m3.set.sub λb hb=>by rw [JG.mp hb];exact ha
def LY {s p k:Nat}{w:R.α} (hd:4<=d) (I:aq R h L M) (hs:s<M.ab.length) (hw:R.D p k w) (hl:4*p+k<=3800) (q: ∀h',aq R h' L {M with start:=s,first:=w} ->m3 h h' (fi L) ->Q .none h'):WF P0 d 172 [.ref L.m,.int s,R.e w] h Q:=by
 refine l0 (K:=3) hd (Qa (.ref L.m)::Qa (.int s)::Qa (R.e w)::nn 6) rG rfl λd' h'=>?_;have e1:setAttr P0 h (.ref L.m) uR (R.e w)=Qa (h.set L.m (mO R L {M with first:=w})):=AP I.fk rfl (by decide:6<400);have e2:setAttr P0 (h.set L.m (mO R L {M with first:=w})) (.ref L.m) rZ (.int s)=Qa ((h.set L.m (mO R L {M with first:=w})).set L.m (mO R L {M with start:=s,first:=w})):=AP (I.wd (M':= {M with first:=w}) rfl rfl rfl).fk rfl (by decide:6<400);exact lJ (.p (CM (Jq (by decide) h') I hs)<| .b (R.wt w)<| .c<| .v (nO I)<| .q (R.nd h' hw hl)<| .h (e1)<| .h (e2)<| .z ((q _ ((I.wd (M':= {M with first:=w}) rfl rfl rfl).wd (M':= {M with start:=s,first:=w}) rfl rfl rfl) ((BG PD).trans (BG PD))))) (by kernel_rfl)
def aq.bW {s:Nat}{w:R.α} (I:aq R h L M):aq R (h.set L.aE (.list ((M.ar.set s w).map R.e))) L {M with ar:=M.ar.set s w}:=by
 refine ⟨lF (Kn I.mE) I.fk,lF (Kn I.AE) I.ab,lW I.ar,I.len,(Zb ..).trans I.fj,λk r xs hr hx=>?_,I.nd,I.bh,I.ct,I.cl,I.ds.to λr hr _ e=>lF (λq=>I.tc (q▸hr)) e⟩;refine (I.bc k r xs hr hx).mono λa o e ho=>lF ?_ e;rcases ho with ⟨x,rfl⟩|rfl
 ·exact Kn (di e I.ar nofun)
 ·exact λq=>I.tc (q▸Ju hr)
theorem map_set' {α β:Type}{f:α->β}{l:List α}{i:Nat}{x:α}:(l.map f).set i (f x)=(l.set i x).map f:=(List.map_set ..).symm
theorem UL {s:Nat} (w:R.α) (I:aq R h L M) (hs:s<M.ab.length): ∃g,oC h (.ref L.aE) (.int s) (R.e w)=Qa g/\aq R g L {M with ar:=M.ar.set s w} /\m3 h g (fi L):=
 ⟨_,(Sb I.ar (by rw [Jt,I.fj];exact hs)).trans (by rw [map_set']),I.bW,BG zco⟩
def zaQ {s p k:Nat}{w:R.α} (hd:4<=d) (I:aq R h L M) (hs:s<M.ab.length) (hw:R.D p k w) (hl:4*p+k<=3800) (q: ∀h',aq R h' L {M with ar:=M.ar.set s w} ->m3 h h' (fi L) ->Q .none h'):WF P0 d 173 [.ref L.m,.int s,R.e w] h Q:=by
 exact (UL w I hs).elim λg zq2=>l0 (K:=3) hd (Qa (.ref L.m)::Qa (.int s)::Qa (R.e w)::nn 6) qF rfl λd' h'=>lJ (.p (CM (Jq (by decide) h') I hs)<| .b (R.wt w)<| .c<| .v (nO I)<| .q (R.nd h' hw hl)<| .v (Wv I)<| .h (zq2.1)<| .z ((q g zq2.2.1 zq2.2.2))) (by kernel_rfl)
def OS {s:Nat} (hd:4<=d) (I:aq R h L M) (hs:s<M.ab.length) (q: ∀h',aq R h' L {M with ar:=M.ar.set s R.dz} ->m3 h h' (fi L) ->Q .none h'):WF P0 d 173 [.ref L.m,.int s] h Q:=by
 exact (UL R.dz I hs).elim λg zq1=>l0 (K:=3) hd (Qa (.ref L.m)::Qa (.int s)::Qa (.ah 120)::nn 6) qF rfl λd' h'=>lJ (.p (CM (Jq (by decide) h') I hs)<| .c2<| .v (nO I)<| .w (R.on)<| .v (Wv I)<| .h (zq1.1)<| .z ((q g zq1.2.1 zq1.2.2))) (by kernel_rfl)
def M0:Mc R.α:=⟨[],[],0,R.dz,0⟩
theorem zZ {k n:Nat}{fs fs':List (Nat×aa)}{v:aa}{t:MH} (hf:P0.du k n=Qf) (hl:fs.length<400) (e:Wx fs n v=fs'):setAttr P0 (h++ .inst k fs::t) (.ref h.length) n v=Qa (h++ .inst k fs'::t):=(AP ap hf hl).trans (by rw [rS,e])
def Dy {k n j:Nat}{fs fs':List (Nat×aa)}{t:MH} (hj:t.length+1=j) (hf:P0.du k n=Qf) (hl:fs.length<400) (e:Wx fs n (.ref (h.length+j))=fs'):setAttr P0 (h++ .inst k fs::t++ [.list []]) (.ref h.length) n (.ref (h++ .inst k fs::t).length)=Qa (h++ .inst k fs'::(t++ [.list []])):=by
 simp only [JH,Jz,ZC,hj];exact zZ hf hl e
def OF (hd:1<=d) (q:Q .none (h++ [mO R ⟨h.length,h.length+1,h.length+2,[]⟩ M0,.list [],.list []])):WF P0 d 177 [.ref h.length,.ah (112+R.i)] (h++ [.inst 121 []]) Q:=by
 exact l0 (K:=0) hd (Qa (.ref h.length)::Qa (.ah (112+R.i))::nn 6) sQ rfl λd' h'=>lJ (.h ((zZ (h:=h) (t:=[]) (k:=121) (n:=oE) (fs:=[]) (v:=.ah (112+R.i)) rfl (by decide:0<400) rfl))<| .at (h++ [.inst 121 [(oE,.ah (112+R.i))]]++ [.list []])<| .h ((Dy (h:=h) (t:=[]) (k:=121) (n:=lV) (j:=1) (fs:=[(oE,.ah (112+R.i))]) rfl rfl (by decide:1<400) rfl))<| .at (h++ [.inst 121 [(oE,.ah (112+R.i)),(lV,.ref (h.length+1))],.list []]++ [.list []])<| .h ((Dy (h:=h) (t:=[.list []]) (k:=121) (n:=pE) (j:=2) (fs:=[(oE,.ah (112+R.i)),(lV,.ref (h.length+1))]) rfl rfl (by decide:2<400) rfl))<| .h ((zZ (h:=h) (t:=[.list [],.list []]) (k:=121) (n:=rZ) (fs:=[(oE,.ah (112+R.i)),(lV,.ref (h.length+1)),(pE,.ref (h.length+2))]) (v:=.int 0) rfl (by decide:3<400) rfl))<| .w (R.on)<| .h ((zZ (h:=h) (t:=[.list [],.list []]) (k:=121) (n:=uR) (fs:=[(oE,.ah (112+R.i)),(lV,.ref (h.length+1)),(pE,.ref (h.length+2)),(rZ,.int 0)]) (v:=R.e R.dz) rfl (by decide:4<400) rfl))<| .h ((zZ (h:=h) (t:=[.list [],.list []]) (k:=121) (n:=w7) (fs:=[(oE,.ah (112+R.i)),(lV,.ref (h.length+1)),(pE,.ref (h.length+2)),(rZ,.int 0),(uR,R.e R.dz)]) (v:=.int 0) rfl (by decide:5<400) rfl))<| .z ((q))) rfl
theorem SQ (R:Rg) (h:MH):aq R (h++ [mO R ⟨h.length,h.length+1,h.length+2,[]⟩ M0,.list [],.list []]) ⟨h.length,h.length+1,h.length+2,[]⟩ (M0 (R:=R)):=
 ⟨ap,pH (j:=1),pH (j:=2),rfl,rfl,(λk r xs hr=>ag hr),by show [h.length+1,h.length+2].Nodup;exact JN.mpr ⟨λq=>absurd (JG.mp q) (Z2 (J0 _)),JN.mpr ⟨JB,.nil⟩⟩,JJ _,rfl,JJ _,[],.nil,λa ha=>absurd ha JB,rfl⟩
theorem BV (R:Rg) (hd:1<=d) (h:MH): ∃t,kT (aj P0 d) (.ah 121) [.ah (112+R.i)] h=Qa (.ref h.length,h++t)/\aq R (h++t) ⟨h.length,h.length+1,h.length+2,[]⟩ (M0 (R:=R)):=
 ⟨_,W.eq (Fh (i:=177) rfl rfl (OF hd ⟨rfl,cv _ _⟩)),SQ R h⟩
end
section
variable {R:Rg}{d:Nat}{h h0:MH}{Q:aa->MH->Prop}{L:Ly}{M:Mc R.α}
def Ar.ft {α:Type} (x:Ar α):Bool:=x.up== [] && x.lo== []
abbrev r0:Nat:=7598521885536580729
def zaS {a:Nat}{x:Ar R.α} (hd:1<=d) (ha:h[a]?=Qa (pB R x)) (q:Q (.bool x.ft) h):WF P0 d 165 [.ref a] h Q:=by
 refine l0 (K:=0) hd (Qa (.ref a)::nn 6) sT rfl λd' h'=>?_;delta Ar.ft at q;exact lJ (.v ((ga ha rfl rfl:getAttr P0 h (.ref a) qK=Qa (.str x.up)))<| .k (ya x.up [])<| .br (x.up== []) (λhb=> .v ((ga ha rfl rfl:getAttr P0 h (.ref a) uQ=Qa (.str x.lo)))<| .k (ya x.lo [])<| .z ((show Q (.bool (x.lo== [])) h by rw [hb] at q;exact q))) (λhb=> .z ((show Q (.bool (x.up== [])) h by rw [hb] at q ⊢;exact q)))) rfl
theorem Cw {a:Nat}{x:Ar R.α} (hd:1<=d) (h0a:h0[a]?=Qa (pB R x)) (ha:h[a]?=Qa (pB R x)) (q:Q (.bool x.ft) h):WM (aj P0 d) (.ref a) r0 [] h0 h Q:=
 lL (mR h0a rfl rfl) (zaS hd ha q)
theorem aq.ux (I:aq R h L M) {xs:List (Ar R.α)} (hx:xs∈M.ab):xs.length<200000:=Jx (I.cr _ hx) (Jx I.cl (by decide))
def uG {l:List Nat}{k:Nat}{v:aa} (h:(l.map aa.ref)[k]?=Qa v): ∃r,l[k]?=Qa r/\v= .ref r:=by
 rw [JC] at h;exact (ms h).elim λr zq9=>⟨r,zq9.1,zq9.2.symm⟩
def aC (r:aa) (Fr:Internal.Frame->Prop) (A:Prop) (n:Nat) (B:Nat->Prop) (h:MH) (o:SR):Prop:= ∃f,(A/\o=Qa ((.rt r,f),h))\/(Fr f/\(∀i,i<n->B i)/\o=Qa ((.nx,f),h))
section
variable {r:aa}{Fr:Internal.Frame->Prop}{A:Prop}{n:Nat}{B:Nat->Prop}
def aC.of {o:SR} (w:W o λp g=>g=h/\((A/\p.1= .rt r)\/(Fr p.2/\(∀i,i<n->B i)/\p.1= .nx))):aC r Fr A n B h o:=by
 refine xEEAA (W.get w) λdh g e q1 q=>?_;obtain ⟨fl,f⟩:=dh;refine eqE q1 ?_;exact ⟨f,q.imp (λq=>⟨q.1,e.trans (by rw [show fl=_ from q.2])⟩) λq=>⟨q.1,q.2.1,e.trans (by rw [show fl=_ from q.2.2])⟩⟩
def fO {c:Cx}{x a:Nat}{e:Ex}{b:List Sm}{vs:List aa}{fr:Internal.Frame} (hl:vs.length=n) (hn:n<c.cu) (hk:h[a]?=Qa (.list vs)) (e0:WE c fr e h λv g=>v= .ref a/\g=h) (f0:Fr fr)
  (step: ∀i v f R,vs[i]?=Qa v->Fr f->(∀f,A->R (.rt r) f h) ->(∀f,B i->Fr f->R .nx f h) ->cz c b (f.set x (Qa v)) h R):aC r Fr A n B h (exec c (.fo [x] Qb e b) fr h):=by
 subst hl;exact .of (Mb (R:=λfl f g=>g=h/\((A/\fl= .rt r)\/(Fr f/\(∀i,i<vs.length->B i)/\fl= .nx))) hn (λi f g=>g=h/\Fr f/\∀j,j<i->B j) (λi f g q=>q.1▸hk) (e0.mono λv g q=>⟨q.1,q.2,f0,λj hj=>absurd hj (Zh _)⟩)
  (λi v hv f g q=>by
   refine eqB q.1 ?_;have hf:=q.2.1;exact step i v f _ hv hf (λ_ h=>⟨rfl,.inl ⟨h,rfl⟩⟩) λf h hf=>⟨rfl,hf,λj hj=>(Nat.lt_succ_iff_lt_or_eq.mp hj).elim (q.2.2 j) λq=>q▸h⟩)
  λf g q=>⟨q.1,.inr ⟨q.2.1,q.2.2,rfl⟩⟩)
end
theorem Ip {α:Type}{l:List α}{i:Nat}{x:α}{p:α->Prop} (h:l[i]?=Qa x) (hp:p x) (y:α) (e:l[i]?=Qa y):p y:=Qa.inj (h.symm.trans e)▸hp
theorem Rd {α:Type}{l:List α}{p:α->Bool}{x:α} (h:x∈l) (hp:p x=Qf):l.any p=true:=KD.mpr ⟨x,h,hp⟩
theorem Re {α:Type}{l:List α}{p:α->Bool} (h: ∀i,i<l.length-> ∀x,l[i]?=Qa x->p x=Qb):l.any p=false:=Ys.mpr λx hx=>(Xe hx).elim λi hi=>by rw [h i (kP hi) x hi];exact Zn
abbrev Vx (m:Nat) (o1 o2:Option aa):Internal.Frame:=Qa (.ref m)::o1::o2::nn 6
abbrev zaL:List Sm:= [.ite (.ao (.var 2) r0 []) [.ret (.lit (.bool Qf))] []]
abbrev PV:List Sm:= [.fo [2] Qb (.var 1) zaL]
def zt (r:List (Ar R.α)):Bool:=r.any Ar.ft
def zf8 {m b:Nat}{o1 o:Option aa}{x:Ar R.α}{X:Fl->Internal.Frame->MH->Prop} (hd:1<=d) (hx:h[b]?=Qa (pB R x)) (q1: ∀f,x.ft=Qf->X (.rt (.bool Qf)) f h) (q2:x.ft=Qb->X .nx (Vx m o1 (Qa (.ref b))) h):cz (aj P0 d) zaL ((Vx m o1 o).set 2 (Qa (.ref b))) h X:=by
 exact lJ (.p ((W.eq (Cw hd hx hx (cv _ _)):l5 (aj P0 d) (.ref b) r0 [] h h=Qa (.bool x.ft,h)))<| .br (x.ft) (λhe=> .z (q1 (Vx m o1 (Qa (.ref b))) he)) (λhe=> .z (q2 he))) rfl
def zf9 {m r:Nat}{o2:Option aa}{xs:List (Ar R.α)} (hd:1<=d) (W:rK R h r xs) (hl:xs.length<200000):aC (.bool Qf) (λf=> ∃o,f=Vx m (Qa (.ref r)) o) (zt xs=Qf) xs.length (λi=> ∀x,xs[i]?=Qa x->x.ft=Qb) h (exec (aj P0 d) (.fo [2] Qb (.var 1) zaL) (Vx m (Qa (.ref r)) o2) h):=by
 refine Zs W λas zq8=>?_;exact fO ((Jt ..).trans zq8.2.1) hl zq8.1 (by exact lR (.z (cv (.ref r) h)) rfl) ⟨o2,rfl⟩ λi v f R' hv hf q1 q2=>by
  obtain ⟨b,hb,rfl⟩:=uG hv;obtain ⟨o,rfl⟩:=hf;have hx:=Js (l:=xs) (i:=i) (zq8.2.1▸kP hb);exact zf8 hd (zq8.2.2 _ _ _ hb hx) (λf he=>q1 f (Rd (Ju hx) he)) λhe=>q2 _ (Ip hx he) ⟨_,rfl⟩
def zda {m r:Nat}{o1 o2:Option aa}{xs:List (Ar R.α)}{X:Fl->Internal.Frame->MH->Prop} (hd:1<=d) (W:rK R h r xs) (hl:xs.length<200000) (q1: ∀f,zt xs=Qf->X (.rt (.bool Qf)) f h) (q2: ∀o,zt xs=Qb->X .nx (Vx m (Qa (.ref r)) o) h):cz (aj P0 d) PV ((Vx m o1 o2).set 1 (Qa (.ref r))) h X:=by
 refine Zs (zf9 (m:=m) (o2:=o2) hd W hl) λf zq5=>?_;obtain ⟨ha,e⟩| ⟨⟨o,hf⟩,ha,e⟩:=zq5
 ·exact lJ (.s (e)<| .z (q1 f ha)) rfl
 ·rw [hf] at e
  exact lJ (.s (e)<| .z (q2 o (Re ha))) rfl
def zga (hd:1<=d) (I:aq R h L M):aC (.bool Qf) (λf=> ∃o o2,f=Vx L.m o o2) (M.ab.any zt=Qf) M.ab.length (λi=> ∀x,M.ab[i]?=Qa x->zt x=Qb) h (exec (aj P0 d) (.fo [1] Qb (.af (.var 0) lV) PV) (Vx L.m Qd Qd) h):=by
 exact fO ((Jt ..).trans I.len) (Jx I.bh (show 10000<200000 by decide)) I.ab (by exact lR (.v (pI I)<| .z (cv (.ref L.aA) h)) rfl) ⟨Qd,Qd,rfl⟩ λi v f R' hv hf q1 q2=>by
  obtain ⟨r,hr,rfl⟩:=uG hv;obtain ⟨o,o2,rfl⟩:=hf;have hx:=Js (l:=M.ab) (i:=i) (I.len▸kP hr);exact zda hd (I.bc i r _ hr hx) (I.ux (Ju hx)) (λf ha=>q1 f (Rd (Ju hx) ha)) λo ha=>q2 _ (Ip hx ha) ⟨_,_,rfl⟩
def OJ (hd:2<=d) (I:aq R h L M) (q:Q (.bool (M.ab.any λr=>r.any Ar.ft)) h):WF P0 d 175 [.ref L.m] h Q:=by
 refine l0 (K:=1) hd (Vx L.m Qd Qd) pA rfl λd' h'=>?_;refine Zs (zga h' I) λf zq1=>?_;obtain ⟨ha,e⟩| ⟨⟨o,o2,hf⟩,ha,e⟩:=zq1
 ·exact lJ (.s (e)<| .z ((show Q (.bool Qf) h by rw [<-ha];exact q))) rfl
 ·rw [hf] at e
  exact lJ (.s (e)<| .z ((show Q (.bool Qb) h by rw [<-Re ha];exact q))) rfl
end
section
variable {R:Rg}{d:Nat}{h h0:MH}{Q:aa->MH->Prop}{L:Ly}{M:Mc R.α}
def uB (h:MH) (b:Nat) (bb:List (List Nat)):Prop:= ∃rs:List Nat,h[b]?=Qa (.list (rs.map .ref))/\rs.length=bb.length/\∀ (k r:Nat) (xs:List Nat),rs[k]?=Qa r->bb[k]?=Qa xs->h[r]?=Qa (.list (bf xs))
def uO {α:Type}{l m:List α} (hl:l.length=m.length) (h: ∀ (i:Nat) (y:α),l[i]?=Qa y->m[i]?=Qa y):l=m:=by
 refine qaU λi=>?_;by_cases hi:i<l.length
 ·rw [Js hi];exact (h i _ (Js hi)).symm
 ·rw [Kr (ZX.mp hi),Kr (Jq (JM (qaw hl)) (ZG hi))]
def zL {l:List Nat}{i:Nat}{v:aa} (h:(bf l)[i]?=Qa v): ∃x,l[i]?=Qa x/\v= .int x:=by
 delta bf at h;rw [JC] at h;exact (ms h).elim λx zq5=>⟨x,zq5.1,zq5.2.symm⟩
theorem nD {l:List Nat}:(bf l).length=l.length:=Jt ..
theorem pQ {n:Nat} (h:n<200000):n<=bh:=JQ (Zm h (by decide))
def zS {cx:Cx}{fr:Internal.Frame}{eu it:Ex}{x a:Nat}{vs:List aa} (G:Nat->ae) (hf:vs.length<cx.cu) (hl:vs.length<=bh)
  (q:WE cx fr it h λv h1=>v= .ref a/\h1[a]?=Qa (.list vs)/\(∀i v t,vs[i]?=Qa v->WE cx (fr.set x (Qa v)) eu (h1++t) λy h3=>y= .ref (h1++t).length/\h3=(h1++t)++ [G i])/\
   Q (.ref h1.length) (h1++ .list ((J3 (h1.length+1) vs.length).map .ref)::(JW vs.length).map G)):WE cx fr (.comp eu [x] Qb it []) h Q:=by
 refine zT (a:=a) (vs:=vs) (λh1 ys t=>ys=(J3 (h1.length+1) ys.length).map aa.ref/\t=(JW ys.length).map G) hf hl (W.mono q λv h1 q=>?_);obtain ⟨rfl,h1a,st,q⟩:=q;refine ⟨rfl,h1a,⟨rfl,rfl⟩,λys t v J hv=>W.mono (st ys.length v (.list ys::t) hv) λy h3 q=>?_,λys t hy J=>?_⟩
 ·obtain ⟨rfl,rfl⟩:=q
  refine ⟨[G ys.length],JH ..,?_,?_⟩
  ·rw [(λy=>by rw [Jz];rfl: ∀y:aa,(ys++ [y]).length=ys.length+1),qaP,JY,<-J.1]
   congr 2
   simp only [Jz,ZC,J.2,Jt,J9]
   congr 1;lia
  ·rw [(λy=>by rw [Jz];rfl: ∀y:aa,(ys++ [y]).length=ys.length+1),qaj,JY,<-J.2];rfl
 ·obtain ⟨J1,J2⟩:=J
  rw [hy] at J1 J2;rw [J1,J2];exact q
def bx (M:Mc R.α) (k:Nat):List (Ar R.α):=M.ab[k]?.getD []
def Fs {cx:Cx}{fr:Internal.Frame}{eu it:Ex}{x a:Nat}{vs:List aa} (F:Nat->aa) (hf:vs.length<cx.cu) (hl:vs.length<=bh)
  (q:WE cx fr it h λv h1=>v= .ref a/\h1[a]?=Qa (.list vs)/\(∀i v t,vs[i]?=Qa v->WE cx (fr.set x (Qa v)) eu (h1++t) λy h3=>y=F i/\h3=h1++t)/\Q (.ref h1.length) (h1++ [.list ((JW vs.length).map F)])):WE cx fr (.comp eu [x] Qb it []) h Q:=by
 refine zT (a:=a) (vs:=vs) (λh1 ys t=>ys=(JW ys.length).map F/\t= []) hf hl (W.mono q λv h1 q=>?_);obtain ⟨rfl,h1a,st,q⟩:=q;refine ⟨rfl,h1a,⟨rfl,rfl⟩,λys t v J hv=>W.mono (st ys.length v (.list ys::t) hv) λy h3 q=>?_,λys t hy J=>?_⟩
 ·obtain ⟨rfl,rfl⟩:=q
  refine ⟨[],by rw [Zv],?_,by rw [J.2];rfl⟩;simp only [x5,qaj,JY,<-J.1];rfl
 ·obtain ⟨J1,rfl⟩:=J
  rw [J1,hy];exact q
abbrev tf:Ex:= .comp (.af (.var 2) mH) [2] Qb (.var 1) []
theorem ED {α β:Type}{l:List α}{F:Nat->β}{f:α->β} (h: ∀ (i:Nat) (x:α),l[i]?=Qa x->F i=f x):(JW l.length).map F=l.map f:=
 uO (by rw [Jt,J9,Jt]) λi y hi=>by
  rw [JC] at hi ⊢;have hl:i<l.length:=J9 (n:=l.length)▸kP (ms hi).choose_spec.1;rw [Z6 hl] at hi;rw [Js hl];exact (congrArg Qa (h i _ (Js hl))).symm.trans hi
def iT {r m:Nat}{o2:Option aa}{xs:List (Ar R.α)} (W:rK R h r xs) (hl:xs.length<200000) (t:MH):WE (aj P0 d) (Qa (.ref m)::Qa (.ref r)::o2::nn 4) tf (h++t) λy g=>y= .ref (h++t).length/\g=(h++t)++ [.list (bf (xs.map Ar.t))]:=by
 refine Zs W λas zq4=>?_;have e:(as.map aa.ref).length=xs.length:=(Jt ..).trans zq4.2.1;have e2:(JW (as.map aa.ref).length).map (λi=>aa.int (((xs[i]?.map Ar.t).getD 0:Nat):Int))=bf (xs.map Ar.t):=by
  unfold bf;rw [e,KO];exact ED λi x hx=>by rw [hx];rfl
 refine Fs (a:=r) (vs:=as.map .ref) (λi=> .int (((xs[i]?.map Ar.t).getD 0:Nat):Int)) (by rw [e];exact hl) (by rw [e];exact pQ hl) ((by exact lR (.z (cv (.ref r) (h++t))) rfl:WE (aj P0 d) (Qa (.ref m)::Qa (.ref r)::o2::nn 4) (.var 1) (h++t) λv g=>v= .ref r/\g=h++t).mono λv g q=>?_);refine eqE q.1 ?_;refine eqB q.2 ?_;rw [e2];refine ⟨rfl,kI zq4.1,λi v t' hv=>?_,cv _ _⟩;refine (uG hv).elim λb zq3=>?_;refine eqB zq3.2 ?_;obtain ⟨x,hx⟩: ∃x,xs[i]?=Qa x:=⟨_,Js (zq4.2.1▸kP zq3.1)⟩;have e1:getAttr P0 (h++t++t') (.ref b) mH=Qa (.int x.t):=ga (kI (kI (zq4.2.2 i b _ zq3.1 hx))) rfl rfl;have e3:x.t=(xs[i]?.map Ar.t).getD 0:=by rw [hx];rfl
 rw [<-e3];exact lR (.v (e1)<| .z (cv (.int (x.t:Nat)) (h++t++t'))) rfl
def iU (I:aq R h L M):eval (aj P0 d) (.comp tf [1] Qb (.af (.var 0) lV) []) (Qa (.ref L.m)::nn 6) h=Qa (.ref h.length,h++ .list ((J3 (h.length+1) M.ab.length).map .ref)::(JW M.ab.length).map λi=> .list (bf ((bx M i).map Ar.t))):=by
 have hn:(L.bc.map aa.ref).length=M.ab.length:=(Jt ..).trans I.len;have hl:=Jx I.bh (show 10000<200000 by decide);refine W.eq (zS (cx:=aj P0 d) (a:=L.aA) (x:=1) (eu:=tf) (vs:=L.bc.map .ref) (λi=> .list (bf ((bx M i).map Ar.t))) (by rw [hn];exact hl) (by rw [hn];exact pQ hl) (W.mono (by exact lR (.v (pI I)<| .z (cv (.ref L.aA) h)) rfl:WE (aj P0 d) (Qa (.ref L.m)::nn 6) (.af (.var 0) lV) h λv g=>v= .ref L.aA/\g=h) λv g q=>?_));refine eqE q.1 ?_;refine eqB q.2 ?_;rw [hn];refine ⟨rfl,I.ab,λi v t hv=>?_,cv _ _⟩;refine (uG hv).elim λr zq2=>?_;refine eqB zq2.2 ?_;obtain ⟨x,hx⟩: ∃x,M.ab[i]?=Qa x:=⟨_,Js (I.len▸kP zq2.1)⟩;rw [(by unfold bx;rw [hx];rfl:bx M i=x)];exact iT (m:=L.m) (o2:=Qd) (I.bc i r x zq2.1 hx) (I.ux (Ju hx)) t
def iV (M:Mc R.α):uB (h++ .list ((J3 (h.length+1) M.ab.length).map .ref)::(JW M.ab.length).map λi=> .list (bf ((bx M i).map Ar.t))) h.length (M.ab.map λr=>r.map Ar.t):=by
 refine ⟨_,ap,by rw [KV,Jt],λk r xs hr hx=>?_⟩;have hk:k<M.ab.length:=Jt (λr:List (Ar R.α)=>r.map Ar.t)▸kP hx;rw [qar hk] at hr;refine mP hr ?_;rw [JC] at hx;refine (ms hx).elim λx zq1=>?_;refine eqE zq1.2 ?_;simp only [show h.length+1+1*k=h.length+(k+1) by rw [Z7,Zf,Kv 1 k],pH,List.getElem?_cons_succ,JC,Z6 hk];rw [<-(by unfold bx;rw [zq1.1];rfl:bx M k=x)];rfl
def Ej (hd:1<=d) (I:aq R h L M) (q: ∀t b,uB (h++t) b (M.ab.map λr=>r.map Ar.t) ->Q (.ref b) (h++t)):WF P0 d 125 [.ref L.m] h Q:=by
 exact l0 (K:=0) hd (Qa (.ref L.m)::nn 6) qE rfl λd' h'=>lJ (.p (iU (d:=d') I)<| .z (q _ _ (iV M))) rfl
end
section
variable {R:Rg}{d:Nat}{h g:MH}{Q:aa->MH->Prop}{L:Ly}{M:Mc R.α}
abbrev tG:Nat:=1936292453
theorem m9 {h:MH} (hd:1<=d) (I:aq R h L M):l5 (aj P0 d) (.ref L.m) tG [] h h=Qa (.int M.ab.length,h):=me (mR I.fk rfl rfl) (M7 hd I ⟨rfl,rfl⟩)
def yC {l:List R.α}{s:Nat}{x:R.α} (hs:l[s]?=Qa x):(l.map R.e)[s]?=Qa (R.e x):=by rw [JC,hs];rfl
abbrev at' (l:List R.α) (s:Nat):R.α:=l[s]?.getD R.zero
def VU {l:List R.α}{s:Nat} (hs:s<l.length):l[s]?=Qa (at' l s):=by rw [Js hs];unfold at';rw [Js hs];rfl
theorem Io {l:List R.α}{s:Nat} (hs:s<l.length):at' l s∈l:=Ju (VU hs)
theorem vt {b:Nat}{a:Ar R.α} (hB:h[b]?=Qa (pB R a)):getAttr P0 h (.ref b) qK=Qa (.str a.up):=ga hB rfl rfl
theorem wy {b:Nat}{a:Ar R.α} (hB:h[b]?=Qa (pB R a)):getAttr P0 h (.ref b) uQ=Qa (.str a.lo):=ga hB rfl rfl
theorem a5 {b:Nat}{a:Ar R.α} (hB:h[b]?=Qa (pB R a)):getAttr P0 h (.ref b) wZ=Qa (R.e a.w):=ga hB rfl rfl
theorem qr {b:Nat}{a:Ar R.α} (hB:h[b]?=Qa (pB R a)):getAttr P0 h (.ref b) mH=Qa (.int a.t):=ga hB rfl rfl
theorem U5 {b:Nat}{a:Ar R.α} (hd:1<=d) (hB:h[b]?=Qa (pB R a)):l5 (aj P0 d) (.ref b) r0 [] h h=Qa (.bool a.ft,h):=W.eq (Cw hd hB hB ⟨rfl,rfl⟩)
def nT {x:Bool} (h:x=Qf):(!x)=false:=by rw [h];rfl
def nF {x:Bool} (h:x=Qb):(!x)=true:=by rw [h];rfl
structure IM (R:Rg) (h:MH) (r:Nat) (as:List Nat) (xs:List (Ar R.α)):Prop where
 l:h[r]?=Qa (.list (as.map .ref))
 n:(as.map aa.ref).length=xs.length
 a: ∀ (j:Nat) (v:aa),(as.map aa.ref)[j]?=Qa v-> ∃b x,v= .ref b/\xs[j]?=Qa x/\h[b]?=Qa (pB R x)
def aq.nj (I:aq R h L M) {k:Nat} (hk:k<M.ab.length): ∃r as,(L.bc.map aa.ref)[k]?=Qa (.ref r)/\IM R h r as (bx M k)/\bx M k∈M.ab:=by
 refine (I.row hk).elim λr zq8=>Zs zq8.2 λas zq9=>?_;rw [(by unfold bx;rw [Js hk];rfl:bx M k=M.ab[k])];refine ⟨r,as,vO zq8.1,⟨zq9.1,(Jt ..).trans zq9.2.1,λj v hv=>?_⟩,ZA hk⟩;refine (uG hv).elim λb zq7=>?_;refine eqB zq7.2 ?_;have hj:j<M.ab[k].length:=by rw [<-zq9.2.1];exact kP zq7.1
 exact ⟨b,M.ab[k][j],rfl,Js hj,zq9.2.2 j b _ zq7.1 (Js hj)⟩
def qP (M:Mc R.α) (s:Nat):Nat:=((M.ab.take s).map Z5).sum
def HU {s:Nat} (hs:s<M.ab.length):qP M (s+1)=qP M s+M.ab[s].length:=by
 delta qP;rw [K6 hs,JY,Xl];simp
def W3 (I:aq R h L M) (s:Nat):qP M s<=M.bq:=by
 delta qP;rw [<-I.ct]
 conv=>rhs;rw [<-KC s M.ab,JY,Xl]
 exact Jv _ _
def W4 {s:Nat} (hs:s<M.ab.length):qP M (s+1)=qP M s+(bx M s).length:=by
 rw [HU hs];unfold bx;rw [Js hs];rfl
theorem EG {z:Cx}{a:Nat}{vs:List aa} (ha:h[a]?=Qa (.list vs)):kT z (.bi uX) [.ref a] h=Qa (.int vs.length,h):=W.eq (Dk ha ⟨rfl,rfl⟩)
theorem j3 (z:Cx) {a:Nat}{vs:List aa} (v:aa) (ha:h[a]?=Qa (.list vs)) (hl:vs.length<1000000):l5 z (.ref a) ew [v] h h=Qa (.none,h.set a (.list (vs++ [v]))):=W.eq (V2 ha ha hl ⟨rfl,rfl⟩)
def zbh (z:Cx) {a:Nat}{xs:List Nat} (i:Nat) (ha:h[a]?=Qa (.list (bf xs))) (hl:xs.length<1000000):l5 z (.ref a) ew [.int i] h h=Qa (.none,h.set a (.list (bf (xs++ [i])))):=by
 rw [j3 z _ ha (by rw [nD];exact hl)];delta bf;rw [JY];rfl
abbrev zK:Nat:=495873782885
abbrev PM:Nat:=6386275
abbrev U0:Nat:=422608071022
def GO (hd:2<=d) (I:aq R h L M) (hl:M.ab.length<10000): ∃g,l5 (aj P0 d) (.ref L.m) zK [] h h=Qa (.int M.ab.length,g)/\aq R g (L.more h.length) M.more/\m3 h g [L.aA,L.aE]:=by
 refine (W.get (lL (P:=P0) (mR (n:=zK) I.fk rfl rfl) (GN (Q:=λv g=>v= .int M.ab.length/\aq R g (L.more h.length) M.more/\m3 h g [L.aA,L.aE]) hd I hl λg I' K=>⟨rfl,I',K⟩))).elim λv zq5=>zq5.elim λg zq6=>?_;refine eqE zq6.2.1 ?_;exact ⟨g,zq6.1,zq6.2.2⟩
def zbe {s p k:Nat}{a:Ar R.α} (hd:4<=d) (I:aq R h L M) (hs:s<M.ab.length) (ht:a.t<M.ab.length) (lu:fc a.up) (ll:fc a.lo) (hw:R.D p k a.w) (hl:4*p+k<=3800) (hc:M.bq<100000) (hz:a.w≠R.zero): ∃g,l5 (aj P0 d) (.ref L.m) PM [.int s,.str a.up,.str a.lo,R.e a.w,.int a.t] h h=Qa (.none,g)/\aq R g L (M.fv s a)/\m3 h g (fi L):=by
 refine (W.get (lL (P:=P0) (mR (n:=PM) I.fk rfl rfl) (IA (Q:=λv g=>v= .none/\aq R g L (M.fv s a)/\m3 h g (fi L)) hd I hs ht lu ll hw hl hc λg M' I' K _ hM=>⟨rfl,hM hz▸I',K⟩))).elim λv zq3=>zq3.elim λg zq4=>?_;refine eqE zq4.2.1 ?_;exact ⟨g,zq4.1,zq4.2.2⟩
def Im {s p k:Nat}{w:R.α} (hd:4<=d) (I:aq R h L M) (hs:s<M.ab.length) (hw:R.D p k w) (hl:4*p+k<=3800): ∃g,l5 (aj P0 d) (.ref L.m) U0 [.int s,R.e w] h h=Qa (.none,g)/\aq R g L {M with start:=s,first:=w} /\m3 h g (fi L):=by
 refine (W.get (lL (P:=P0) (mR (n:=U0) I.fk rfl rfl) (LY (Q:=λv g=>v= .none/\aq R g L {M with start:=s,first:=w} /\m3 h g (fi L)) hd I hs hw hl λg I' K=>⟨rfl,I',K⟩))).elim λv zq1=>zq1.elim λg zq2=>?_;refine eqE zq2.2.1 ?_;exact ⟨g,zq2.1,zq2.2.2⟩
theorem y7 (I:aq R h L M):M.ab.length<=100000:=Jq I.bh (by decide)
theorem IM.le {r:Nat}{as:List Nat}{xs:List (Ar R.α)} (H:IM R h r as xs) (I:aq R g L M) (hm:xs∈M.ab):(as.map aa.ref).length<=100000:=H.n▸Jq (I.cr _ hm) I.cl
end
def wH (mb:List Bool):Nat:=mb.countP (!·)
def AC {mb:List Bool}{k:Nat} (hk:mb[k]?=Qa Qb):wH (mb.set k Qf)+1=wH mb:=by
 delta wH;refine (JD.mp hk).elim λhl zq7=>?_;rw [(List.countP_set (p:=λb:Bool=>!b) (l:=mb) (i:=k) (a:=Qf) hl),zq7]
 have:0<mb.countP (!·):=List.countP_pos_iff.mpr ⟨Qb,Ju hk,rfl⟩
 simp only [Bool.not_false,qaE]
 simp
 exact KR (Za this)
structure Vm (fs:List Nat) (bb:List (List Nat)) (mb:List Bool):Prop where
 first: ∀s∈fs,mb[s]?=Qa Qf
 oz: ∀P:Nat->Prop,(∀s∈fs,P s) ->(∀s xs,P s->bb[s]?=Qa xs-> ∀o∈xs,P o) -> ∀s:Nat,mb[s]?=Qa Qf->P s
section
variable {R:Rg}{d:Nat}{h h0:MH}{Q:aa->MH->Prop}{L:Ly}{M:Mc R.α}
def xN {mb:List Bool}{k:Nat}{b:Bool} (h:mb[k]?=Qa b):(mb.map aa.bool)[k]?=Qa (.bool b):=by rw [JC,h];rfl
structure ni where
 mb:List Bool
 wk:List Nat
 a:Option aa
 b:Option aa
structure MX where
 h:MH
 m:Nat
 f:Nat
 b:Nat
 x0:ae
 n:Nat
 fs:List Nat
 bb:List (List Nat)
def mG (X:MX) (s:ni):MH:=X.h++ [X.x0,.list (s.mb.map aa.bool),.list (bf s.wk)]
def mF (X:MX) (a b:Option aa):Internal.Frame:=Qa (.ref X.m)::Qa (.ref X.f)::Qa (.ref X.b)::Qa (.ref (X.h.length+1))::Qa (.ref (X.h.length+2))::a::b::nn 6
section
variable {X:MX}{R':Fl->Internal.Frame->MH->Prop}{s:ni}
theorem zcS:(mG X s)[X.h.length+1]?=Qa (.list (s.mb.map aa.bool)):=pH
theorem Cf:(mG X s)[X.h.length+2]?=Qa (.list (bf s.wk)):=pH
theorem zcR {mb:List Bool}:(mG X s).set (X.h.length+1) (.list (mb.map aa.bool))=mG X {s with mb:=mb}:=DF
theorem PJ {wk:List Nat}:(mG X s).set (X.h.length+2) (.list (bf wk))=mG X {s with wk:=wk}:=DF
structure zz (X:MX) (i:Nat) (s:ni):Prop where
 w:s.wk=X.fs
 l:s.mb.length=X.n
 h1: ∀y∈X.fs.take i,s.mb[y]?=Qa Qf
 h2: ∀y:Nat,s.mb[y]?=Qa Qf->y∈X.fs
theorem sM (X:MX) (s:ni) {o:Nat}{b:Bool} (e:s.mb[o]?=Qa b):l9 (mG X s) (.ref (X.h.length+1)) (.int o)=Qa (.bool b):=sl zcS (xN e)
def Cg (X:MX) (s:ni) {y:Nat} (v:Bool) (hn:y<s.mb.length):oC (mG X s) (.ref (X.h.length+1)) (.int y) (.bool v)=Qa (mG X {s with mb:=s.mb.set y v}):=by rw [Sb zcS (by rw [Jt];exact hn),map_set',zcR]
def zcW {i y:Nat} (P:zz X i s) (hy:X.fs[i]?=Qa y) (hn:y<X.n) (q: ∀s',zz X (i+1) s'->R' .nx (mF X s'.a s'.b) (mG X s')):cz (aj P0 d) [.bg (.sb (.var 3) (.var 5)) (.lit (.bool Qf))] (mF X (Qa (.int y)) s.b) (mG X s) R':=by
 have hsn:y<s.mb.length:=by rw [P.l];exact hn
 have N:zz X (i+1) {s with mb:=s.mb.set y Qf,a:=Qa (.int y)}:=by
  refine ⟨P.w,by show (s.mb.set y Qf).length=_;rw [Zb];exact P.l,λz hz=>?_,λz hz=>?_⟩
  ·show (s.mb.set y Qf)[z]?=_
   rw [Kt,hy] at hz;by_cases e:y=z
   ·refine eqE e ?_;rw [J7 hsn]
   ·rw [J6 e]
    exact (J4.mp hz).elim (P.h1 z) λhz=>absurd (JG.mp (by simpa using hz)).symm e
  ·by_cases e:y=z
   ·refine eqE e ?_;exact Ju hy
   ·rw [J6 e] at hz;exact P.h2 z hz
 exact lJ (.h (Cg X s Qf hsn)<| .z (q _ N)) rfl
structure zy (X:MX) (k:Nat) (s:ni):Prop where
 kk:k=2*wH s.mb+s.wk.length
 kl:k<=30000
 l:s.mb.length=X.n
 B:Vm X.fs X.bb s.mb
 w: ∀y∈s.wk,s.mb[y]?=Qa Qf
 c: ∀ (y:Nat) xs,s.mb[y]?=Qa Qf->y∉s.wk->X.bb[y]?=Qa xs-> ∀o∈xs,s.mb[o]?=Qa Qf
structure xh (X:MX) (y:Nat) (xs:List Nat) (k:Nat) (j:Nat) (s:ni):Prop where
 kk:2*wH s.mb+s.wk.length<=k
 l:s.mb.length=X.n
 B:Vm X.fs X.bb s.mb
 yy:s.mb[y]?=Qa Qf
 w: ∀z∈s.wk,s.mb[z]?=Qa Qf
 c: ∀ (z:Nat) xs,s.mb[z]?=Qa Qf->z∉s.wk->z≠y->X.bb[z]?=Qa xs-> ∀o∈xs,s.mb[o]?=Qa Qf
 t: ∀o∈xs.take j,s.mb[o]?=Qa Qf
def zas (X:MX) (s:ni) (z:Cx):kT z (.bi uX) [.ref (X.h.length+2)] (mG X s)=Qa (.int s.wk.length,mG X s):=by rw [EG Cf,nD]
theorem zat (X:MX) (s:ni) (z:Cx) (o:Nat) (hl:s.wk.length<1000000):l5 z (.ref (X.h.length+2)) ew [.int o] (mG X s) (mG X s)=Qa (.none,mG X {s with wk:=s.wk++ [o]}):=(zbh z o Cf hl).trans (by rw [PJ])
abbrev cS:List Sm:= [.ite (.not (.sub (.var 3) (.var 6))) [.bg (.sb (.var 3) (.var 6)) (.lit (.bool Qf)),.expr (.ao (.var 4) ew [.var 6])] []]
def xh.more {y j o k:Nat}{xs:List Nat} (P:xh X y xs k j s) (hx:X.bb[y]?=Qa xs) (ho:xs[j]?=Qa o) (he:s.mb[o]?=Qa Qb):xh X y xs k (j+1) {s with mb:=s.mb.set o Qf,wk:=s.wk++ [o],b:=Qa (.int o)}:=by
 have up: ∀ {z:Nat},s.mb[z]?=Qa Qf->(s.mb.set o Qf)[z]?=Qa true:=λ{z} hz=>by
  rw [J6 λe=>by subst e;rw [he] at hz;exact nomatch hz];exact hz
 have dn: ∀ {z:Nat},(s.mb.set o Qf)[z]?=Qa Qf->z=o\/s.mb[z]?=Qa true:=λ{z} hz=>by
  by_cases e:o=z
  ·exact .inl e.symm
  ·rw [J6 e] at hz;exact .inr hz
 refine ⟨?_,by show (s.mb.set o Qf).length=_;rw [Zb];exact P.l,⟨λz hz=>up (P.B.first z hz),λT p1 p2 z hz=>?_⟩,up P.yy,λz hz=>?_,λz zs e1 e2 e3 e4 w hw=>?_,λz hz=>?_⟩
 ·refine Jq ?_ P.kk
  simp only [Jz,<-(AC he),Ku,ZK];exact Zw _
 ·exact (dn hz).elim (λe=>e▸p2 y xs (P.B.oz T p1 p2 y P.yy) hx o (Ju ho)) (P.B.oz T p1 p2 z)
 ·exact (J4.mp hz).elim (λhz=>up (P.w z hz)) λhz=>(JG.mp hz)▸(J7 (kP he):(s.mb.set o Qf)[o]?=Qa Qf)
 ·exact (dn e1).elim (λe=>absurd (J4.mpr (.inr (e▸ .head _))) e2) λe1=>up (P.c z zs e1 (λq=>e2 (J4.mpr (.inl q))) e3 e4 w hw)
 ·rw [Kt,ho] at hz
  exact (J4.mp hz).elim (λhz=>up (P.t z hz)) λhz=>(JG.mp hz)▸(J7 (kP he):(s.mb.set o Qf)[o]?=Qa Qf)
def zcV {y j o k:Nat}{xs:List Nat} (P:xh X y xs k j s) (hx:X.bb[y]?=Qa xs) (ho:xs[j]?=Qa o) (hn:o<X.n) (hk:k<100000) (q: ∀s',xh X y xs k (j+1) s'->R' .nx (mF X (Qa (.int y)) s'.b) (mG X s')):
  cz (aj P0 d) cS (mF X (Qa (.int y)) (Qa (.int o))) (mG X s) R':=by
 have hon:o<s.mb.length:=by rw [P.l];exact hn
 have hoe:=Js hon;refine vY (s.mb[o]) (λhb=>?_) λhb=>?_
 ·rw [hb] at hoe
  have N:xh X y xs k (j+1) {s with b:=Qa (.int o)}:=⟨P.kk,P.l,P.B,P.yy,P.w,P.c,λz hz=>by
   rw [Kt,ho] at hz;exact (J4.mp hz).elim (P.t z) λhz=>(JG.mp hz)▸hoe⟩
  exact lJ (.v (sM X s hoe)<| .c2<| .z (q _ N)) rfl
 ·rw [hb] at hoe
  have hw:s.wk.length<1000000:=Jx (Jq (JE _ _) P.kk) (Zm hk (by decide));exact lJ (.v (sM X s hoe)<| .c2<| .h (Cg X s Qf hon)<| .p (zat X {s with mb:=s.mb.set o Qf} (aj P0 d) o hw)<| .z (q _ (P.more hx ho hoe))) rfl
end
structure dR (X:MX):Prop where
 A:uB X.h X.b X.bb
 hl:X.bb.length=X.n
 hn:X.n<=10000
 vp: ∀s∈X.fs,s<X.n
 sf:X.fs.length<=10000
 zj: ∀xs∈X.bb,xs.length<200000->True
 se: ∀xs∈X.bb,xs.length<=100000/\∀o∈xs,o<X.n
section
variable {X:MX} (O:dR X)
include O
abbrev m0 (X:MX):ni:=⟨JU X.n Qb,X.fs,Qd,Qd⟩
def zf3: ∃s,zz X X.fs.length s/\exec (aj P0 d) (.fo [5] Qb (.var 4) [.bg (.sb (.var 3) (.var 5)) (.lit (.bool Qf))]) (mF X Qd Qd) (mG X (m0 X))=Qa ((.nx,mF X s.a s.b),mG X s):=by
 have:=sg (c:=aj P0 d) (tg:=[5]) (many:=Qb) (a:=X.h.length+2) (e:=.var 4) (b:=[.bg (.sb (.var 3) (.var 5)) (.lit (.bool Qf))]) (vs:=bf X.fs) (λs:ni=>mF X s.a s.b) (mG X) (zz X) (m0 X) (by rw [nD];exact Jq O.sf (by decide)) rfl (λi s P=>by have e:= @Cf X s;rw [show s.wk=X.fs from P.w] at e;exact e) (by exact lR (.z (cv (.ref (X.h.length+2)) (mG X (m0 X)))) (by kernel_rfl)) ⟨rfl,ZH ..,(λs hs=>absurd hs JB),λs hs=>JI (Zk (Ju hs))⟩ λi v s R1 _ hv P1 T1=>by
  obtain ⟨y,hy,rfl⟩:=zL hv;exact mT (zcW P1 hy (O.vp y (Ju hy)) T1.nx)
 rwa [nD] at this
structure MD (X:MX) (s:ni):Prop where
 l:s.mb.length=X.n
 B:Vm X.fs X.bb s.mb
 c: ∀ (y:Nat) xs,s.mb[y]?=Qa Qf->X.bb[y]?=Qa xs-> ∀o∈xs,s.mb[o]?=Qa Qf
abbrev e9:Sm:= .fo [6] Qb (.sub (.var 2) (.var 5)) cS
def zf1 {y k:Nat}{wk:List Nat}{s:ni} (P:zy X k s) (hw:s.wk=wk++ [y]): ∃s',(∃j,j<k/\zy X j s')/\exec (aj P0 d) e9 (mF X (Qa (.int y)) s.b) (mG X {s with wk:=wk})=Qa ((.nx,mF X s'.a s'.b),mG X s'):=by
 have hym:=P.w y (hw▸J4.mpr (.inr (.head _)));have hyn:y<X.bb.length:=by rw [O.hl,<-P.l];exact kP hym
 refine xEAA O.A λrs A1 A2 A3=>?_;have hxe:=Js hyn;have hkk:2*wH s.mb+wk.length+1=k:=by rw [P.kk,hw,Jz];rfl
 have hx:=O.se _ (ZA hyn);obtain ⟨s',P3,e⟩:=sg (c:=aj P0 d) (tg:=[6]) (many:=Qb) (a:=rs[y]) (e:=.sub (.var 2) (.var 5)) (b:=cS) (vs:=bf X.bb[y]) (λs:ni=>mF X (Qa (.int y)) s.b) (mG X) (xh X y X.bb[y] (2*wH s.mb+wk.length)) {s with wk:=wk} (by rw [nD];exact hx.1) rfl (λi s P=>kI (A3 y _ _ (Js (l:=rs) (i:=y) (by rw [A2];exact hyn)) hxe)) (by exact lR (.v (sl (kI (t:=[X.x0,.list (s.mb.map aa.bool),.list (bf wk)]) A1) (vO (Js (l:=rs) (i:=y) (by rw [A2];exact hyn))))<| .z (cv (.ref rs[y]) (mG X {s with wk:=wk}))) rfl) ⟨JA _,P.l,P.B,hym,λx hx=>P.w x (hw▸J4.mpr (.inl hx)),λz ys e1 e2 e3=>P.c z ys e1 λq=>by
    rw [hw] at q;exact (J4.mp q).elim e2 λq=>e3 (JG.mp q),λo ho=>absurd ho JB⟩ λi v s R1 _ hv P1 T1=>by
  refine xEA (zL hv) λo ho dh=>?_;refine eqB dh ?_;exact mT (zcV P1 hxe ho (hx.2 o (Ju ho)) (Jy (KA (JM hkk)) (Jq P.kl (JE _ _))) T1.nx)
 have kt:=P3.t;rw [nD,Zg] at kt;refine ⟨{s' with a:=Qa (.int y)},⟨_,Jx P3.kk (hkk▸J0 _),rfl,Jq P3.kk (Xz (Jq (JM hkk) P.kl)),P3.l,P3.B,P3.w,λz ys e1 e2 e3=>?_⟩,e⟩;by_cases e:z=y
 ·subst e
  rw [show X.bb[z]?=Qa ys from e3] at hxe;refine Se hxe ?_;exact kt
 ·exact P3.c z ys e1 e2 e e3
abbrev fA:List Sm:= [.bg (.nm 5) (.ao (.var 4) rm []),e9]
def zf2 {k:Nat}{s:ni} (P:zy X k s): ∃s',MD X s'/\exec (aj P0 d) (.wh (.ba .gt (.call (.lit (.bi uX)) [.var 4]) (.lit (.int 0))) fA) (mF X s.a s.b) (mG X s)=Qa ((.nx,mF X s'.a s'.b),mG X s'):=by
 refine fN (c:=aj P0 d) (t:=.ba .gt (.call (.lit (.bi uX)) [.var 4]) (.lit (.int 0))) (b:=fA) (λs:ni=>mF X s.a s.b) (mG X) (zy X) (MD X) s (Jq P.kl (by decide)) rfl P λk s P=>⟨decide ((0:Int)<(s.wk.length:Nat)),?_,λhc R' _ T=>?_,λhc=>?_⟩
 ·exact lR (.p (zas X s (aj P0 d))<| .c<| .z (cv (.bool (decide ((0:Int)<(s.wk.length:Nat)))) (mG X s))) rfl
 ·obtain ⟨wk,y,hw⟩: ∃wk y,s.wk=wk++ [y]:=⟨s.wk.dropLast,s.wk.getLast (List.ne_nil_of_length_pos (ZW.mp (dT hc):0<s.wk.length)),(Xj _).symm⟩
  refine (zf1 (d:=d) O P hw).elim λs' zq3=>?_;have e1:l5 (aj P0 d) (.ref (X.h.length+2)) rm [] (mG X s) (mG X s)=Qa (.int y,mG X {s with wk:=wk}):=by
   exact W.eq (Ry Cf (by rw [<-(by rw [hw];exact JY .. :bf s.wk=bf wk++ [.int y])];exact Cf) ⟨rfl,PJ⟩)
  exact lJ (.p (e1)<| .s (zq3.2)<| .z (T.nx s' zq3.1)) rfl
 ·exact ⟨P.l,P.B,λy xs e1=>P.c y xs e1 (by rw [(Zy.mp (by have:=dF hc;lia):s.wk= [])];exact JB)⟩
end
def zau {f b:Nat}{fs:List Nat}{bb:List (List Nat)} (hd:2<=d) (I:aq R h L M) (hf:h[f]?=Qa (.list (bf fs))) (A:uB h b bb) (hl:bb.length=M.ab.length) (vp: ∀s∈fs,s<M.ab.length) (sf:fs.length<=10000) (zj: ∀xs∈bb,xs.length<=100000/\∀o∈xs,o<M.ab.length)
  (q: ∀mb t,mb.length=M.ab.length->Vm fs bb mb->(∀ (s:Nat) xs,mb[s]?=Qa Qf->bb[s]?=Qa xs-> ∀o∈xs,mb[o]?=Qa Qf) ->(h++t)[h.length+1]?=Qa (.list (mb.map aa.bool)) ->Q (.ref (h.length+1)) (h++t)):WF P0 d 124 [.ref L.m,.ref f,.ref b] h Q:=by
 refine l0 (K:=1) hd (Qa (.ref L.m)::Qa (.ref f)::Qa (.ref b)::nn 10) sO rfl λd' h'=>?_;refine xEA (zf3 (d:=d') (⟨A,hl,I.bh,vp,sf,λ_ _ _=>trivial,zj⟩:dR ⟨h,L.m,f,b,.list [.bool Qb],M.ab.length,fs,bb⟩)) λs P e=>?_;have h1:=P.h1;rw [Zg] at h1;have hw:s.wk=fs:=P.w;have P2:zy ⟨h,L.m,f,b,.list [.bool Qb],M.ab.length,fs,bb⟩ (2*wH s.mb+s.wk.length) s:=⟨rfl,by
   have h2:wH s.mb<=s.mb.length:=List.countP_le_length ..;rw [show s.mb.length=M.ab.length from P.l] at h2
   have:=I.bh
   rw [hw]
   lia,P.l,⟨h1,λT p1 _ y hy=>p1 y (P.h2 y hy)⟩,λy hy=>h1 y (hw▸hy),λy xs hy hn=>absurd (hw.symm▸P.h2 y hy) hn⟩
 refine (zf2 (d:=d') (⟨A,hl,I.bh,vp,sf,λ_ _ _=>trivial,zj⟩:dR ⟨h,L.m,f,b,.list [.bool Qb],M.ab.length,fs,bb⟩) P2).elim λs' zq1=>?_;have e1:pJ .mul (.ref h.length) (.int M.ab.length) (h++ [.list [.bool Qb]])=Qa (.ref (h.length+1),h++ [.list [.bool Qb],.list ((JU M.ab.length Qb).map aa.bool)]):=by
  refine W.eq (Dq (n:=M.ab.length) ap (pQ (Jx I.bh (by decide))) (by show 1*_<=_;rw [Z7];exact pQ (Jx I.bh (by decide))) ⟨by rw [Jz];rfl,?_⟩);rw [DK,JH,<-YF];rfl
 have e2:kT (aj P0 d') (.ty Lk) [.ref f] (h++ [.list [.bool Qb],.list ((JU M.ab.length Qb).map aa.bool)])=Qa (.ref (h.length+2),mG ⟨h,L.m,f,b,.list [.bool Qb],M.ab.length,fs,bb⟩ (m0 ⟨h,L.m,f,b,.list [.bool Qb],M.ab.length,fs,bb⟩)):=by
  refine W.eq (I6 (kI hf) ⟨by rw [Jz];rfl,?_⟩);rw [JH];rfl
 exact lJ (.p (m9 (h:=h++ [.list [.bool Qb]]) h' I.cw)<| .p (e1)<| .p (e2)<| .s (e)<| .s (zq1.2)<| .z (q s'.mb [.list [.bool Qb],.list (s'.mb.map aa.bool),.list (bf s'.wk)] zq1.1.l zq1.1.B zq1.1.c pH)) rfl
end
structure Vr (h hh:MH) (rs:List Nat) (bb:List (List Nat)):Prop where
 cw: ∃t,hh=h++t
 dE:hh[h.length]?=Qa (.list (rs.map .ref))
 len:rs.length=bb.length
 ow: ∀r∈rs,h.length<r
 nd:rs.Nodup
 row: ∀ (k r:Nat) (xs:List Nat),rs[k]?=Qa r->bb[k]?=Qa xs->hh[r]?=Qa (.list (bf xs))
theorem vM {h t:MH}{r:Nat}{o:ae} (hr:h.length<=r):(h++t).set r o=h++t.set (r-h.length) o:=YS _ _ hr
def Vr.push {h hh:MH}{rs:List Nat}{bb:List (List Nat)}{k r s:Nat}{xs:List Nat} (A:Vr h hh rs bb) (hr:rs[k]?=Qa r) (hx:bb[k]?=Qa xs):Vr h (hh.set r (.list (bf (xs++ [s])))) rs (bb.set k (xs++ [s])):=by
 refine A.cw.elim λt zq12=>?_;obtain rfl:=zq12;have hm:=A.ow r (Ju hr);refine ⟨⟨_,vM (JQ hm)⟩,lF (Ka hm) A.dE,by rw [Zb];exact A.len,A.ow,A.nd,λk' r' xs' hr' hx'=>?_⟩;by_cases e:k=k'
 ·subst e
  rw [hr] at hr';refine mP hr' ?_;rw [J7 (kP hx)] at hx';refine mP hx' ?_;exact lW (A.row k r xs hr hx)
 ·rw [J6 e] at hx'
  refine lF (λq=>?_) (A.row k' r' xs' hr' hx');subst q;obtain ⟨l1,e1⟩:=JD.mp hr;exact (JD.mp hr').elim λl2 zq10=>e (Y9 A.nd|>.mp (e1.trans zq10.symm))
theorem Vr.zh {h hh:MH}{rs:List Nat}{bb:List (List Nat)} (A:Vr h hh rs bb):uB hh h.length bb:=⟨rs,A.dE,A.len,A.row⟩
section
variable {R:Rg}{d:Nat}{h h0:MH}{Q:aa->MH->Prop}{L:Ly}{M:Mc R.α}
structure nN (M:Mc R.α) (i j:Nat) (bb:List (List Nat)):Prop where
 len:bb.length=M.ab.length
 sum:(bb.map Z5).sum=((M.ab.take i).map Z5).sum+j
 mem: ∀ (k:Nat) xs,bb[k]?=Qa xs-> ∀s,s∈xs ↔ ∃ys,M.ab[s]?=Qa ys/\((s<i/\∃a∈ys,a.t=k)\/(s=i/\∃a∈ys.take j,a.t=k))
def nN.step {i j k:Nat}{bb:List (List Nat)}{xs:List Nat}{ys:List (Ar R.α)}{a:Ar R.α} (B:nN M i j bb) (hy:M.ab[i]?=Qa ys) (ha:ys[j]?=Qa a) (hk:a.t=k) (hx:bb[k]?=Qa xs):nN M i (j+1) (bb.set k (xs++ [i])):=by
 obtain ⟨hkl,e⟩:=JD.mp hx;subst e;refine ⟨by rw [Zb];exact B.len,by rw [D7 hkl,B.sum];exact Zf _ _ _,λk' xs' hx' s=>?_⟩;have tk: ∀ {b},b∈ys.take (j+1) ↔ b∈ys.take j\/b=a:=λ{b} =>by
  rw [Kt,ha,J4];simp
 by_cases e:k=k'
 ·subst e
  rw [J7 hkl] at hx';refine mP hx' ?_;refine J4.trans ?_;rw [B.mem k _ hx s,JG]
  constructor
  ·rintro (⟨zs,h1,h2| ⟨h2,b,h3,h4⟩⟩|rfl)
   ·exact ⟨zs,h1,.inl h2⟩
   ·exact ⟨zs,h1,.inr ⟨h2,b,by subst h2;rw [hy] at h1;obtain rfl:=Qa.inj h1;exact tk.mpr (.inl h3),h4⟩⟩
   ·exact ⟨ys,hy,.inr ⟨rfl,a,tk.mpr (.inr rfl),hk⟩⟩
  ·rintro ⟨zs,h1,h2| ⟨rfl,b,h3,h4⟩⟩
   ·exact .inl ⟨zs,h1,.inl h2⟩
   ·exact .inr rfl
 ·rw [J6 e] at hx'
  refine (B.mem k' xs' hx' s).trans ?_
  constructor
  ·rintro ⟨zs,h1,h2| ⟨h2,b,h3,h4⟩⟩
   ·exact ⟨zs,h1,.inl h2⟩
   ·exact ⟨zs,h1,.inr ⟨h2,b,by subst h2;rw [hy] at h1;obtain rfl:=Qa.inj h1;exact tk.mpr (.inl h3),h4⟩⟩
  ·rintro ⟨zs,h1,h2| ⟨h2,b,h3,h4⟩⟩
   ·exact ⟨zs,h1,.inl h2⟩
   ·refine ⟨zs,h1,.inr ⟨h2,b,?_,h4⟩⟩
    subst h2;rw [hy] at h1;obtain rfl:=Qa.inj h1;rcases tk.mp h3 with h3|rfl
    ·exact h3
    ·exact absurd (hk.symm.trans h4) e
def nN.next {i:Nat}{bb:List (List Nat)}{ys:List (Ar R.α)} (B:nN M i ys.length bb) (hy:M.ab[i]?=Qa ys):nN M (i+1) 0 bb:=by
 obtain ⟨hil,e⟩:=JD.mp hy;refine ⟨B.len,?_,λk xs hx s=>?_⟩
 ·rw [B.sum,K6 hil,JY,Xl,e];simp
 ·refine (B.mem k xs hx s).trans ?_
  constructor
  ·rintro ⟨zs,h1,⟨h2,h3⟩| ⟨h2,h3⟩⟩
   ·exact ⟨zs,h1,.inl ⟨qaX _ h2,h3⟩⟩
   ·subst h2;rw [hy] at h1;obtain rfl:=Qa.inj h1
    rw [Zg] at h3;exact ⟨ys,hy,.inl ⟨J0 _,h3⟩⟩
  ·rintro ⟨zs,h1,⟨h2,h3⟩| ⟨h2,b,h3,_⟩⟩
   ·by_cases e:s=i
    ·subst e;rw [hy] at h1;obtain rfl:=Qa.inj h1
     exact ⟨ys,hy,.inr ⟨rfl,by rw [Zg];exact h3⟩⟩
    ·exact ⟨zs,h1,.inl ⟨Kc (Ze h2) e,h3⟩⟩
   ·exact absurd h3 JB
def Vr.im {hh:MH}{rs:List Nat}{bb:List (List Nat)} (A:Vr h hh rs bb) (I:aq R h L M):aq R hh L M:=by obtain ⟨t,rfl⟩:=A.cw;exact I.cw
def Vr.up {hh:MH}{rs:List Nat}{bb:List (List Nat)}{a:Nat}{o:ae} (A:Vr h hh rs bb) (e:h[a]?=Qa o):hh[a]?=Qa o:=by obtain ⟨t,rfl⟩:=A.cw;exact kI e
structure BS where
 g:MH
 bb:List (List Nat)
 a:Option aa:=Qd
 b:Option aa:=Qd
abbrev a7 (L:Ly) (n:Nat) (a b:Option aa):Internal.Frame:=Qa (.ref L.m)::Qa (.ref n)::a::b::nn 6
structure BP (h:MH) (M:Mc R.α) (rs:List Nat) (i j:Nat) (s:BS):Prop where
 A:Vr h s.g rs s.bb
 B:nN M i j s.bb
abbrev fR:List Sm:= [.expr (.ao (.sub (.var 1) (.af (.var 3) mH)) ew [.var 2])]
abbrev fQ:Sm:= .fo [3] Qb (.sub (.af (.var 0) lV) (.var 2)) fR
def O5 (I:aq R h L M) {i j k:Nat}{bb:List (List Nat)}{xs:List Nat} (B:nN M i j bb) (hi:i<M.ab.length) (hj:j<(bx M i).length) (hx:bb[k]?=Qa xs):xs.length<1000000:=by
 have h1:=UY (Ju hx);rw [B.sum] at h1;have h2:=W3 I (i+1);rw [W4 hi] at h2;exact Jx (Jq h1 (Jq (Jw (JQ hj) _) h2)) (Jx I.cl (by decide))
def za3 {i:Nat}{rs:List Nat}{s:BS} (I:aq R h L M) (ht: ∀ys∈M.ab,∀a∈ys,a.t<M.ab.length) (hi:i<M.ab.length) (P:BP h M rs i 0 s):
  ∃s',BP h M rs (i+1) 0 s'/\exec (aj P0 d) fQ (a7 L h.length (Qa (.int i)) s.b) s.g=Qa ((.nx,a7 L h.length (Qa (.int i)) s'.b),s'.g):=by
 refine (I.nj hi).elim λr zq6=>zq6.elim λas zq7=>?_;have hie:M.ab[i]?=Qa (bx M i):=by unfold bx;rw [Js hi];rfl
 refine (sg (c:=aj P0 d) (tg:=[3]) (many:=Qb) (a:=r) (e:=.sub (.af (.var 0) lV) (.var 2)) (b:=fR) (vs:=as.map .ref) (λs:BS=>a7 L h.length (Qa (.int i)) s.b) BS.g (λj=>BP h M rs i j) s (zq7.2.1.le I zq7.2.2) rfl (λj s P=>P.A.up zq7.2.1.l) (by exact lR (.v (pI (P.A.im I))<| .v (sl (P.A.im I).ab zq7.1)<| .z (cv (.ref r) s.g)) rfl) P λj v s X _ hv P T=>?_).elim λs' q=>⟨s',⟨q.1.A,(zq7.2.1.n▸q.1.B).next hie⟩,q.2⟩;refine xEEAA (zq7.2.1.a j v hv) λb x dh hx hb=>?_;refine eqB dh ?_;have htg:=ht _ zq7.2.2 x (Ju hx);have hr':=Js (l:=rs) (i:=x.t) (by rw [P.A.len,P.B.len];exact htg);have hx':=Js (l:=s.bb) (i:=x.t) (by rw [P.B.len];exact htg);exact mT (lJ (.v (qr (P.A.up hb))<| .v (sl P.A.dE (vO hr'))<| .p (zbh (aj P0 d) i (P.A.row _ _ _ hr' hx') (O5 I P.B hi (kP hx) hx'))<| .z (T.nx ⟨_,_,s.a,Qa (.ref b)⟩ ⟨P.A.push hr' hx',P.B.step hie hx rfl hx'⟩)) rfl)
def zdx:nN M 0 0 (JU M.ab.length []):=by
 refine ⟨ZH,by simp,λk xs hx s=>?_⟩;rw [Zk (Ju hx)];exact ⟨λh=>absurd h JB,λ⟨ys,_,q⟩=>q.elim (λq=>absurd q.1 (Zh _)) λq=>q.2.elim λb q=>absurd q.1 JB⟩
abbrev dI (h:MH) (n:Nat):MH:=h++ae.list ((J3 (h.length+1) n).map aa.ref)::JU n (.list [])
def zdz {n:Nat}:Vr h (dI h n) (J3 (h.length+1) n) (JU n []):=by
 refine ⟨⟨_,rfl⟩,ap,by rw [KV,ZH],λr hr=>(List.mem_range'_1.mp hr).1,List.nodup_range' ..,λk r xs hr hx=>?_⟩;obtain ⟨hk,e⟩:=JD.mp hr;rw [List.getElem_range',Z7,Zf,Kv 1] at e;rw [KV] at hk;rw [Zk (Ju hx),<-e,pH];show (JU _ _)[k]?=_;rw [KI,if_pos hk];rfl
def O0 (I:aq R h L M):eval (aj P0 d) (.comp (.list []) [4] Qb (.af (.var 0) lV) []) (Qa (.ref L.m)::nn 9) h=Qa (.ref h.length,dI h M.ab.length):=by
 have hn:(L.bc.map aa.ref).length<200000:=by
  rw [Jt,I.len];exact Jx I.bh (by decide)
 refine W.eq (zT (a:=L.aA) (vs:=L.bc.map .ref) (λ_ ys t=>ys=(J3 (h.length+1) ys.length).map aa.ref/\t=JU ys.length (.list [])) hn (pQ hn) ?_);refine W.of (a:=.ref L.aA) (W.eq (by exact lR (.v (pI I)<| .z (cv (.ref L.aA) h)) rfl:WE (aj P0 d) (Qa (.ref L.m)::nn 9) (.af (.var 0) lV) h λv g=>v= .ref L.aA/\g=h)) ⟨rfl,I.ab,⟨rfl,rfl⟩,λys t v J hv=>?_,λys t hl J=>?_⟩
 ·refine Dp (Do ⟨[.list []],by rw [JH];rfl,?_,?_⟩)
  ·rw [(λy=>by rw [Jz];rfl: ∀y:aa,(ys++ [y]).length=ys.length+1),qaP,JY,<-J.1]
   congr 2
   simp only [Jz,ZC,J.2,ZH,Z7,Zf,Kv 1]
  ·rw [(λy=>by rw [Jz];rfl: ∀y:aa,(ys++ [y]).length=ys.length+1),K8,<-J.2]
 ·obtain ⟨J1,J2⟩:=J
  rw [Jt,I.len] at hl;rw [hl] at J1 J2;refine eqB J1 ?_;subst J2;exact ⟨rfl,rfl⟩
def O4 (hd:2<=d) (I:aq R h L M) (ht: ∀ys∈M.ab,∀a∈ys,a.t<M.ab.length) (q: ∀t bb,nN M M.ab.length 0 bb->uB (h++t) h.length bb->Q (.ref h.length) (h++t)):WF P0 d 123 [.ref L.m] h Q:=by
 refine l0 (K:=1) hd (Qa (.ref L.m)::nn 9) oY rfl λd' h'=>?_;obtain ⟨s,P,e⟩:=pa (c:=aj P0 d') (x:=2) (n:=M.ab.length) (e:=.call (.lit (.ty 491260897125)) [.ao (.var 0) tG []]) (b:=[fQ]) (λs:BS=>a7 L h.length s.a s.b) BS.g (λi=>BP h M (J3 (h.length+1) M.ab.length) i 0) ⟨_,_,Qd,Qd⟩ (y7 I) rfl (by exact lR (.p (m9 h' ((zdz (h:=h) (n:=M.ab.length)).im I))<| .c<| .z (cv (.gf M.ab.length) (dI h M.ab.length))) rfl) ⟨(zdz (h:=h) (n:=M.ab.length)),zdx⟩ λi s X _ hi P T=>by
  exact (za3 (d:=d') I ht hi P).elim λs' zq2=>lJ (.s (zq2.2)<| .z (T.nx ⟨s'.g,s'.bb,Qa (.int i),s'.b⟩ ⟨zq2.1.A,zq2.1.B⟩)) rfl
 obtain ⟨t,ht⟩:=P.A.cw;have A':=P.A.zh;rw [ht] at A' e;exact lJ (.p (O0 (d:=d') I)<| .s (e)<| .z (q t s.bb P.B A')) rfl
end
def tD:List Nat->Nat->List (aa×aa)
 | [],_=> []
 |k::r,o=>(.int (k:Int),.int (o:Int))::tD r (o+1)
def Ac {a b:Nat}:gm (.int a) (.int b)=(a==b):=by
 show ((a:Int)==(b:Int))=_;by_cases h:a=b
 ·subst h;simp
 ·rw [beq_false_of_ne h,beq_false_of_ne];exact λe=>h (KH.inj e)
def BN {l:List Nat}: ∀ {o:Nat},(tD l o).length=l.length:=by
 induction l with
 |nil=>exact rfl
 |cons k l ih=>exact congrArg (· +1) ih
def mV {k k' v:aa}{es:List (aa×aa)}:kY ((k',v)::es) k=bif gm k' k then Qa v else kY es k:=by
 delta kY;simp only [YD];cases gm k' k<;>rfl
def Wh {l:List Nat}{k:Nat}: ∀ {o:Nat},kY (tD l o) (.int k)=if k∈l then Qa (.int ((o+l.idxOf k:Nat):Int)) else none:=by
 induction l with
 |nil=>intro o;rfl
 |cons x l ih=>
  intro o;show kY ((.int (x:Int),.int (o:Int))::tD l (o+1)) _=_;simp only [mV,Ac,ih];by_cases h:x=k
  ·refine eqE h ?_;simp
  ·simp only [beq_false_of_ne h,cond_false,List.idxOf_cons,beq_false_of_ne h,cond_false]
   by_cases hk:k∈l
   ·rw [if_pos hk,if_pos (qas _ hk)]
    congr 2;lia
   ·rw [if_neg hk,if_neg λq=>(JT.mp q).elim (λe=>h e.symm) hk]
def Em {l:List Nat}{k:Nat}: ∀ {o:Nat},tD (l++ [k]) o=tD l o++ [(.int (k:Int),.int ((o+l.length:Nat):Int))]:=by
 induction l with
 |nil=>intro o;rfl
 |cons x l ih=>
  intro o;show _::tD (l++ [k]) (o+1)=_;rw [ih,show o+(x::l).length=o+1+l.length by rw [ZC];lia];rfl
def xZ {l:List Nat}{k o:Nat}:kX (tD l o) (.int k)=true:=by cases l<;>rfl
def BM {l:List Nat}{k:Nat} (hk:k∉l) {v:aa} (hv:v= .int (l.length:Nat)):oF (tD l 0) (.int k) v=tD (l++ [k]) 0:=by
 delta oF;rw [Wh,if_neg hk,Em,hv,Z3];rfl
section
variable {h:MH}{Q:aa->MH->Prop}{c:Cx}
def cW {a k:Nat}{l:List Nat} (ha:h[a]?=Qa (.list (bf l))):U2 h (.int k) (.ref a)=Qa (decide (k∈l)):=by
 show ay ((lG h (.ref a)).bind λvs=>Uv h (.int k) vs) _=_;rw [nC ha];show ay (Uv h (.int k) (bf l)) _=_;have e:(bf l).mapM (lk h 7)=Qa (l.map λ(x:Nat)=>qaY x):=by
  clear ha
  delta bf
  induction l with
  |nil=>rfl
  |cons x l ih=>rw [JR,Yt,ih];rfl
 have e2:Uv h (.int k) (bf l)=Qa (decide (k∈l)):=by
  delta Uv;rw [e];show Qa ((l.map λ(x:Nat)=>qaY x).any λy=>Yg y (.int k))=_
  congr 1
  rw [List.any_map]
  clear ha e
  induction l with
  |nil=>rfl
  |cons x l ih=>
   have ex:Yg (.int (x:Int)) (.int (k:Int))=(x==k):=Ac;simp only [List.any_cons,ih];show (Yg (.int (x:Int)) (.int (k:Int))||decide (k∈l))=_;rw [ex];by_cases hx:x=k
   ·refine eqE hx ?_;simp
   ·rw [beq_false_of_ne hx,qaH]
    by_cases hk:k∈l
    ·rw [decide_eq_true hk,decide_eq_true (qas _ hk)]
    ·rw [decide_eq_false hk,decide_eq_false λq=>(JT.mp q).elim (λe=>hx e.symm) hk]
 rw [e2];rfl
end
section
variable {R:Rg}{h h':MH}{S:List Nat}
def m3.pre {g t:MH} (K:m3 (g++t) h' S) (hs: ∀a∈S,g.length<=a): ∃t',h'=g++t':=by
 refine ⟨h'.drop g.length,?_⟩;have hl:=K.len;rw [Jz] at hl
 have:g=h'.take g.length:=by
  refine uO (by rw [Kx];exact KJ (Nat.le_min_of_le_of_le (JA _) (Jq (Jv _ _) hl)) (Ze (JX (K2 _ _)))) λi o hi=>?_;rw [List.getElem?_take,if_pos (lI hi)];exact K.at' i o (λq=>absurd (hs i q) (qab.mpr (lI hi))) (kI hi)
 conv=>rhs;lhs;rw [this]
 exact (KC ..).symm
end
section
variable {R:Rg}{d:Nat}{h h0:MH}{Q:aa->MH->Prop}{L:Ly}{M:Mc R.α}
structure mL (M:Mc R.α) (p k:Nat):Prop where
 st:M.start<M.ab.length
 fv: ∀ys∈M.ab,∀a∈ys,a.t<M.ab.length/\fc a.up/\fc a.lo/\R.D p k a.w/\a.w≠R.zero
 fst:R.D p k M.first
 ed: ∀e∈M.ar,R.D p k e
 bd:4*p+k<=3800
 n:M.ab.length<=300
 c:M.bq<=300
def uy (M:Mc R.α):List (List Nat):=M.ab.map λr=>r.map Ar.t
def HY (bb:List (List Nat)) (mb:List Bool):Prop:= ∀ (s:Nat) xs,mb[s]?=Qa Qf->bb[s]?=Qa xs-> ∀o∈xs,mb[o]?=Qa Qf
def qI (M:Mc R.α) (k:Nat):Bool:=!@decide (M.ar[k]?.getD R.zero=R.zero) (R.gq _ _)
structure yK (M:Mc R.α) (ks:List Nat) (mb1 mb2:List Bool) (bb:List (List Nat)):Prop where
 l1:mb1.length=M.ab.length
 m1:Vm [M.start] (uy M) mb1
 c1:HY (uy M) mb1
 l2:mb2.length=M.ab.length
 m2:Vm (m5 (qI M) M.ab.length) bb mb2
 c2:HY bb mb2
 b2:nN M M.ab.length 0 bb
 ks:ks=m5 (λk=>mb1[k]?.getD Qb && mb2[k]?.getD Qb) M.ab.length
def fw (M:Mc R.α) (k:Nat):R.α:=M.ar[k]?.getD R.zero
def p7 (ks:List Nat) (xs:List (Ar R.α)):List (Ar R.α):=xs.filterMap λa=>if a.t∈ks then Qa {a with t:=ks.idxOf a.t} else Qd
inductive oJ (M:Mc R.α) (ks:List Nat) (T:Mc R.α):Prop
 |ny (h1:M.start∈ks) (h2:M.first≠R.zero) (ha:T.ab=ks.map λk=>p7 ks (bx M k)) (he:T.ar=ks.map (fw M)) (hs:T.start=ks.idxOf M.start) (hf:T.first=M.first):oJ M ks T
 |mh (h1:M.start∉ks\/M.first=R.zero) (ha:T.ab= [[]]) (he:T.ar= [R.zero]) (hs:T.start=0) (hf:T.first=R.dz):oJ M ks T
def nR {p:Nat->Bool}{n k:Nat} (h:k∈m5 p n):k<n/\p k=true:=by
 have:=Zx.mp h
 exact ⟨ZL.mp this.1,this.2⟩
theorem uJ {p:Nat->Bool}{n:Nat}:(m5 p n).Nodup:=Xb.filter _
def aq.og (I:aq R h L M) {k:Nat} (hk:k<M.ab.length):(M.ar.map R.e)[k]?=Qa (R.e (fw M k)):=by
 have:k<M.ar.length:=by rw [I.fj];exact hk
 delta fw;refine (JC).trans ?_;rw [Js this];rfl
structure TS (h g:MH) (m D aK:Nat) (ks l:List Nat) (L:Ly) (M:Mc R.α):Prop where
 pre: ∃t,g=h++t
 kK:g[aK]?=Qa (.list (bf ks))
 dD: ∃ep,g[D]?=Qa (.dict ep (tD l 0))
 I:aq R g L M
 em:L.m=m
 fi: ∀a∈fi L,h.length<=a/\a≠aK/\a≠D
def TS.pv {g g':MH}{m D aK:Nat}{ks l:List Nat}{L':Ly}{M':Mc R.α} (S:TS h g m D aK ks l L M) (K:m3 g g' (Tactic.fi L)) (I':aq R g' L' M') (em:L'.m=L.m) (ho: ∀a∈Tactic.fi L',a∈Tactic.fi L\/g.length<=a):TS h g' m D aK ks l L' M':=by
 refine S.pre.elim λt zq36=>?_;obtain rfl:=zq36;obtain ⟨ep,hD⟩:=S.dD;have lt:h.length<=(h++t).length:=by rw [Jz];exact Jv _ _
 refine ⟨K.pre λa ha=>(S.fi a ha).1,K.at' _ _ (λq=>(S.fi _ q).2.1 rfl) S.kK,⟨ep,K.at' _ _ (λq=>(S.fi _ q).2.2 rfl) hD⟩,I',em.trans S.em,λa ha=>?_⟩;rcases ho a ha with ha|ha
 ·exact S.fi a ha
 ·exact ⟨Jq lt ha,Ka (Jy (lI S.kK) ha),Ka (Jy (lI hD) ha)⟩
def aq.oq {D:Nat}{ep:Option Nat}{es:List (aa×aa)}{o:ae} (I:aq R h L M) (hD:h[D]?=Qa (.dict ep es)):aq R (h.set D o) L M:=by
 have g: ∀ (a:Nat) (x:ae),h[a]?=Qa x->(∀ep es,x≠ .dict ep es) ->(h.set D o)[a]?=Qa x:=λa x e hn=>lF (λq=>by subst q;exact hn _ _ (Qa.inj (e.symm.trans hD))) e;refine ⟨g _ _ I.fk nofun,g _ _ I.ab nofun,g _ _ I.ar nofun,I.len,I.fj,λk r xs hr hx=>?_,I.nd,I.bh,I.ct,I.cl,I.ds.to λ_ _ _ e=>g _ _ e nofun⟩;refine (I.bc k r xs hr hx).mono λa x e ho=>?_;rcases ho with ⟨y,rfl⟩|rfl
 ·exact g _ _ e nofun
 ·obtain ⟨as,h1,_⟩:=I.bc k a xs hr hx
  refine g _ _ e ?_;rw [h1] at e;refine mP e ?_
  nofun
def TS.lr {g:MH}{m D aK x:Nat}{ks l:List Nat}{ep:Option Nat} (S:TS h g m D aK ks l L M) (hh:h.length<=D) (hx:x∉l):TS h (g.set D (.dict ep (tD (l++ [x]) 0))) m D aK ks (l++ [x]) L M:=by
 refine S.dD.elim λep' zq33=>?_;refine S.pre.elim λt zq32=>?_;obtain rfl:=zq32;exact ⟨⟨_,vM hh⟩,lF (di zq33 S.kK nofun) S.kK,⟨ep,lW zq33⟩,S.I.oq zq33,S.em,S.fi⟩
theorem We {r:Nat}: ∀a∈Tactic.fi (L.more r),a∈Tactic.fi L\/a=r:=λa ha=>by
 simp only [Tactic.fi,Ly.more,JT,J4,JB,or_false] at ha ⊢;rcases ha with h|h|h|h|h
 ·exact .inl (.inl h)
 ·exact .inl (.inr (.inl h))
 ·exact .inl (.inr (.inr (.inl h)))
 ·exact .inl (.inr (.inr (.inr h)))
 ·exact .inr h
structure ST (M:Mc R.α) (ks:List Nat) (i j:Nat) (T:Mc R.α):Prop where
 al:T.ab.length=ks.length
 a: ∀ (m k:Nat),ks[m]?=Qa k->T.ab[m]?=Qa (if m<i then p7 ks (bx M k) else if m=i then p7 ks ((bx M k).take j) else [])
 e: ∀ (m k:Nat),ks[m]?=Qa k->T.ar[m]?=Qa (if m<i then fw M k else R.zero)
 c:T.bq<=i*300+j
def zU {ks:List Nat}{xs:List (Ar R.α)}{a:Ar R.α}:p7 ks (xs++ [a])=p7 ks xs++if a.t∈ks then [{a with t:=ks.idxOf a.t}] else []:=by
 delta p7;refine List.filterMap_append.trans ?_
 congr 1
 by_cases h:a.t∈ks
 ·simp [h]
 ·simp [h]
def ST.ja {ks:List Nat}{i j k:Nat}{T:Mc R.α}{a:Ar R.α} (S:ST M ks i j T) (hk:ks[i]?=Qa k) (ha:(bx M k)[j]?=Qa a) (hn:a.t∉ks):ST M ks i (j+1) T:=by
 refine ⟨S.al,λm k' hk'=>?_,S.e,Zp S.c⟩;rw [S.a m k' hk'];by_cases h1:m<i
 ·rw [if_pos h1,if_pos h1]
 ·rw [if_neg h1,if_neg h1]
  by_cases h2:m=i
  ·subst h2
   rw [hk] at hk';refine mP hk' ?_;rw [if_pos rfl,if_pos rfl,Kt,ha];show Qa _=Qa (p7 ks (_++ [a]));rw [zU,if_neg hn,Zv]
  ·rw [if_neg h2,if_neg h2]
def ST.add {ks:List Nat}{i j k:Nat}{T:Mc R.α}{a:Ar R.α} (S:ST M ks i j T) (hk:ks[i]?=Qa k) (ha:(bx M k)[j]?=Qa a) (hn:a.t∈ks):ST M ks i (j+1) (T.fv i {a with t:=ks.idxOf a.t}):=by
 refine ⟨by show (T.ab.set i _).length=_;rw [Zb];exact S.al,λm k' hk'=>?_,S.e,by have:=S.c;show T.bq+1<=_;exact Jq (JL this (JA _)) (JM (Zf _ _ _))⟩;show (T.ab.set i (T.ab[i]?.getD []++ [{a with t:=ks.idxOf a.t}]))[m]?=_;by_cases h2:i=m
 ·subst h2
  rw [hk] at hk';refine mP hk' ?_;rw [J7 (by rw [S.al];exact kP hk:i<T.ab.length),S.a i k hk,if_neg (J8 _),if_pos rfl,if_neg (J8 _),if_pos rfl,Kt,ha];show Qa _=Qa (p7 ks (_++ [a]));rw [zU,if_pos hn];rfl
 ·rw [J6 h2,S.a m k' hk']
  by_cases h1:m<i
  ·rw [if_pos h1,if_pos h1]
  ·rw [if_neg h1,if_neg h1,if_neg (Kn h2),if_neg (Kn h2)]
def ST.next {ks:List Nat}{i k:Nat}{T:Mc R.α} (S:ST M ks i (bx M k).length T) (hk:ks[i]?=Qa k) (hl:(bx M k).length<=300) (hE:T.ar.length=T.ab.length):ST M ks (i+1) 0 {T with ar:=T.ar.set i (fw M k)}:=by
 refine ⟨S.al,λm k' hk'=>?_,λm k' hk'=>?_,Jq S.c (Jq (Jw hl _) (JM (Nat.succ_mul i 300).symm))⟩
 ·rw [S.a m k' hk']
  by_cases h1:m<i
  ·rw [if_pos h1,if_pos (ZJ h1)]
  ·rw [if_neg h1]
   by_cases h2:m=i
   ·subst h2
    rw [hk] at hk';refine mP hk' ?_;rw [if_pos rfl,if_pos (J0 _),Zg]
   ·rw [if_neg h2,if_neg (ZE (Za (Kc (ZG h1) (Kn h2))))]
    by_cases h3:m=i+1
    ·rw [if_pos h3];rfl
    ·rw [if_neg h3]
 ·show (T.ar.set i (fw M k))[m]?=_
  by_cases h2:i=m
  ·subst h2
   rw [hk] at hk';refine mP hk' ?_;rw [J7 (by rw [hE,S.al];exact kP hk:i<T.ar.length),if_pos (J0 _)]
  ·rw [J6 h2,S.e m k' hk']
   by_cases h1:m<i
   ·rw [if_pos h1,if_pos (ZJ h1)]
   ·rw [if_neg h1,if_neg (ZE (Za (Kc (ZG h1) h2)))]
structure lh (R:Rg) where
 g:MH
 L:Ly
 M:Mc R.α
 a:Option aa
 b:Option aa
structure TX (R:Rg) where
 h:MH
 L:Ly
 M:Mc R.α
 ks:List Nat
 m:Nat
 D:Nat
 aK:Nat
 o1:Option aa
 o3:Option aa
 o4:Option aa
 p:Nat
 k:Nat
def kn (X:TX R) (a b:Option aa):Internal.Frame:=Qa (.ref X.L.m)::X.o1::a::X.o3::X.o4::Qa (.ref X.aK)::Qa (.ref X.m)::Qa (.ref X.D)::b::nn 6
structure xf (X:TX R):Prop where
 I:aq R X.h X.L X.M
 G:mL X.M X.p X.k
 ks: ∀x∈X.ks,x<X.M.ab.length
 nk:X.ks.Nodup
 n:X.ks.length<=300
 D:X.h.length<=X.D
abbrev dO (X:TX R) (l:List Nat) (s:lh R):Prop:=TS X.h s.g X.m X.D X.aK X.ks l s.L s.M
variable {X:TX R}{R':Fl->Internal.Frame->MH->Prop}
def TS.im {g:MH}{m D aK:Nat}{ks l:List Nat}{L1:Ly}{M1:Mc R.α} (S:TS h g m D aK ks l L1 M1) (I:aq R h L M):aq R g L M:=by obtain ⟨t,rfl⟩:=S.pre;exact I.cw
def TS.up {g:MH}{m D aK:Nat}{ks l:List Nat}{L1:Ly}{M1:Mc R.α} (S:TS h g m D aK ks l L1 M1) {a:Nat}{o:ae} (e:h[a]?=Qa o):g[a]?=Qa o:=by obtain ⟨t,rfl⟩:=S.pre;exact kI e
structure uq (X:TX R) (i:Nat) (s:lh R):Prop where
 S:dO X (X.ks.take i) s
 a:s.M.ab=JU i []
 e:s.M.ar=JU i R.zero
 c:s.M.bq=0
def fF (k:Nat) {D:Nat}{ep:Option Nat}{l:List Nat} (hD:h[D]?=Qa (.dict ep (tD l 0))):nG .jm (.int k) (.ref D) h=Qa (decide (k∈l)):=by
 show ay ((lG h (.ref D)).bind _) ((dictAt h (.ref D)).bind λd=>au (kX d.2 (.int k)) (Qa (kY d.2 (.int k)).isSome))=_;rw [tE hD,nE hD];show au (kX (tD l 0) (.int k)) (Qa (kY (tD l 0) (.int k)).isSome)=_;rw [xZ,Wh];by_cases hk:k∈l
 ·rw [if_pos hk,decide_eq_true hk];rfl
 ·rw [if_neg hk,decide_eq_false hk];rfl
theorem sN {D k i:Nat}{ep:Option Nat}{l:List Nat} (hD:h[D]?=Qa (.dict ep (tD l 0))) (hk:k∈l) (hi:l.idxOf k=i):l9 h (.ref D) (.int k)=Qa (.int i):=sd hD xZ (by rw [Wh,if_pos hk,Z3,hi])
def CG {l:List Nat} (nk:l.Nodup) {i x:Nat} (hx:l[i]?=Qa x):l.idxOf x=i:=by
 rw [<-(JD.mp hx).2];exact nk.idxOf_getElem i (kP hx)
theorem FK {l:List Nat} (nk:l.Nodup) {i x:Nat} (hx:l[i]?=Qa x):x∉l.take i:=λhq=>by
 obtain ⟨j,hj,e⟩:=Yu.mp hq;rw [Kx] at hj;rw [List.getElem_take] at e
 have:=Y9 nk|>.mp (e.trans (JD.mp hx).2.symm)
 exact absurd (this▸Jy hj (K2 _ _)) (J8 _)
theorem FO {a:Nat} (ha:a∈ [L.aA,L.aE]):a∈Tactic.fi L:=(JT.mp ha).elim (λe=>e▸ .tail _ (.head _)) λha=>(JG.mp ha)▸ .tail _ (.tail _ (.head _))
abbrev aJ:List Sm:= [.bg (.sb (.var 7) (.var 2)) (.ao (.var 6) zK [])]
def zbR {i x:Nat}{s:lh R} (hd:5<=d) (O:xf X) (P:uq X i s) (hx:X.ks[i]?=Qa x) (q: ∀s',uq X (i+1) s'->R' .nx (kn X s'.a s'.b) s'.g):
  cz (aj P0 d) aJ (kn X (Qa (.int x)) s.b) s.g R':=by
 have hl1:s.M.ab.length=i:=by rw [P.a,ZH]
 have hli:(X.ks.take i).length=i:=by rw [Kx,YE (JQ (kP hx))]
 have hxn:=FK O.nk hx;have hil:=Jy (kP hx) O.n;refine (GO (d:=d) (Jq (by decide) hd) P.S.I (by rw [hl1];exact Zm hil (by decide))).elim λg' zq29=>?_;have e1:=zq29.1;have S':=P.S.pv (zq29.2.2.sub λa ha=>FO ha) zq29.2.1 rfl λa ha=>(We a ha).imp id λe=>JM e.symm;rw [P.S.em] at e1;obtain ⟨ep,hD⟩:=S'.dD;have e2:=AO (v:=.int s.M.ab.length) hD (xZ (k:=x)) (by rw [BN,hli];exact Zm hil (by decide));rw [BM hxn (by rw [hl1,hli])] at e2;have S'':=S'.lr (ep:=bif (kY (tD (X.ks.take i) 0) (.int x)).isSome then ep else ep.map (· +1)) O.D hxn;rw [(by rw [Kt,hx];rfl:X.ks.take i++ [x]=X.ks.take (i+1))] at S'' e2;exact lJ (.p (e1)<| .h (e2)<| .z (q ⟨_,s.L.more s.g.length,s.M.more,Qa (.int x),s.b⟩ ⟨S'',by show s.M.ab++ [[]]=_;rw [P.a,K8],by show s.M.ar++ [R.zero]=_;rw [P.e,K8],P.c⟩)) rfl
structure qu (X:TX R) (i j:Nat) (s:lh R):Prop where
 S:dO X X.ks s
 T:ST X.M X.ks i j s.M
abbrev bP:List Sm:= [.ite (.ba .jm (.af (.var 8) ly) (.var 7)) [.expr (.ao (.var 6) 6386275 [.sub (.var 7) (.var 2),.af (.var 8) ri,.af (.var 8) rh,.af (.var 8) th,.sub (.var 7) (.af (.var 8) ly)])] []]
def zbQ {i j x b:Nat}{y:Ar R.α}{s:lh R} (hd:5<=d) (O:xf X) (P:qu X i j s) (hx:X.ks[i]?=Qa x) (hje:(bx X.M x)[j]?=Qa y) (hj:j<300) (hA:X.h[b]?=Qa (pB R y)) (ga:y.t<X.M.ab.length/\fc y.up/\fc y.lo/\R.D X.p X.k y.w/\y.w≠R.zero)
  (q: ∀s',qu X i (j+1) s'->R' .nx (kn X (Qa (.int x)) s'.b) s'.g):cz (aj P0 d) bP (kn X (Qa (.int x)) (Qa (.ref b))) s.g R':=by
 have S:=P.S;have T:=P.T;have hA':=S.up hA;obtain ⟨ep,hD⟩:=S.dD;cases (inferInstance:Decidable (y.t∈X.ks)) with
 |isTrue hk=>
  obtain ⟨g',e,I',K⟩:=zbe (d:=d) (s:=i) (a:={y with t:=X.ks.idxOf y.t}) (Jq (by decide) hd) S.I (by rw [T.al];exact (kP hx)) (by show X.ks.idxOf y.t<_;rw [T.al];exact ZU.mpr hk) ga.2.1 ga.2.2.1 ga.2.2.2.1 O.G.bd (Jx T.c (by
   have:i*300<=299*300:=Zr _ (Ze (Jy (kP hx) O.n))
   exact Jy (Yv this hj) (JE _ _))) ga.2.2.2.2
  rw [S.em] at e;exact lJ (.v (qr hA')<| .b (fF y.t hD)<| .t (decide_eq_true hk)<| .v (sN hD (Ju hx) (CG O.nk hx))<| .v (vt hA')<| .v (wy hA')<| .v (a5 hA')<| .v (qr hA')<| .v (sN hD hk rfl)<| .p (e)<| .z (q ⟨g',s.L,_,s.a,Qa (.ref b)⟩ ⟨S.pv K I' rfl λa ha=> .inl ha,T.add hx hje hk⟩)) rfl
 |isFalse hk=>exact lJ (.v (qr hA')<| .b (fF y.t hD)<| .f (decide_eq_false hk)<| .z (q ⟨s.g,s.L,s.M,s.a,Qa (.ref b)⟩ ⟨S,T.ja hx hje hk⟩)) rfl
abbrev d7:Sm:= .fo [8] Qb (.sub (.af (.var 0) 1634886515) (.var 2)) bP
def RY {i x:Nat}{s:lh R} (hd:5<=d) (O:xf X) (P:qu X i 0 s) (hx:X.ks[i]?=Qa x): ∃s',qu X i (bx X.M x).length s'/\exec (aj P0 d) d7 (kn X (Qa (.int x)) s.b) s.g=Qa ((.nx,kn X (Qa (.int x)) s'.b),s'.g):=by
 refine (O.I.nj (O.ks x (Ju hx))).elim λr zq25=>zq25.elim λas zq26=>?_;rw [<-zq26.2.1.n];exact sg (c:=aj P0 d) (tg:=[8]) (many:=Qb) (a:=r) (e:=.sub (.af (.var 0) 1634886515) (.var 2)) (b:=bP) (vs:=as.map .ref) (λs':lh R=>kn X (Qa (.int x)) s'.b) lh.g (λj=>qu X i j) s (zq26.2.1.le O.I zq26.2.2) rfl (λj s P=>P.S.up zq26.2.1.l) (by exact lR (.v (pI (P.S.im O.I))<| .v (sl (P.S.im O.I).ab zq26.1)<| .z (cv (.ref r) s.g)) rfl) P λj v s' R1 _ hv P1 T1=>by
  refine (zq26.2.1.a j v hv).elim λb zq23=>zq23.elim λy zq24=>?_;refine eqB zq24.1 ?_;exact mT (zbQ hd O P1 hx zq24.2.1 (Jy (kP zq24.2.1) (Jq (O.I.cr _ zq26.2.2) O.G.c)) zq24.2.2 (O.G.fv _ zq26.2.2 y (Ju zq24.2.1)) T1.nx)
abbrev aI:List Sm:= [d7,.bg (.sb (.af (.var 6) Wi) (.sub (.var 7) (.var 2))) (.sub (.af (.var 0) Wi) (.var 2))]
def zbP {i x:Nat}{s:lh R} (hd:5<=d) (O:xf X) (P:qu X i 0 s) (hx:X.ks[i]?=Qa x) (q: ∀s',qu X (i+1) 0 s'->R' .nx (kn X s'.a s'.b) s'.g):cz (aj P0 d) aI (kn X (Qa (.int x)) s.b) s.g R':=by
 refine xEA (RY (d:=d) hd O P hx) λs' P' e=>?_;have hxk:=Ju hx;have S:=P'.S;refine xE S.dD λep hD=>?_;refine xEAA (UL (s:=i) (fw X.M x) S.I (by rw [P'.T.al];exact kP hx)) λg' e2 I' K=>?_;exact lJ (.s (e)<| .v (Wv (S.im O.I))<| .v (sl (S.im O.I).ar (O.I.og (O.ks x hxk)))<| .v ((S.em▸Wv S.I:getAttr P0 s'.g (.ref X.m) pE=Qa (.ref s'.L.aE)))<| .v (sN hD hxk (CG O.nk hx))<| .h (e2)<| .z (q ⟨g',s'.L,_,Qa (.int x),s'.b⟩ ⟨S.pv K I' rfl λa ha=> .inl ha,P'.T.next hx (Jq (O.I.cr _ (by unfold bx;rw [Js (O.ks x hxk)];exact ZA (O.ks x hxk):bx X.M x∈X.M.ab)) O.G.c) S.I.fj⟩)) rfl
section
variable (hd:5<=d) (O:xf X)
include hd O
def fD:(bf X.ks).length<=100000:=by rw [nD];exact Jq O.n (by decide)
def RZ {s:lh R} (P:uq X 0 s): ∃s',uq X X.ks.length s'/\exec (aj P0 d) (.fo [2] Qb (.var 5) aJ) (kn X s.a s.b) s.g=Qa ((.nx,kn X s'.a s'.b),s'.g):=by
 rw [<-nD];exact sg (c:=aj P0 d) (tg:=[2]) (many:=Qb) (a:=X.aK) (e:=.var 5) (b:=aJ) (vs:=bf X.ks) (λs:lh R=>kn X s.a s.b) lh.g (λi=>uq X i) s (fD hd O) rfl (λi s P=>P.S.kK) (by exact lR (.z (cv (.ref X.aK) s.g)) rfl) P λi v s R1 _ hv P1 T1=>by
  obtain ⟨x,hx,rfl⟩:=zL hv;exact mT (zbR hd O P1 hx T1.nx)
def RV {s:lh R} (P:qu X 0 0 s): ∃s',qu X X.ks.length 0 s'/\exec (aj P0 d) (.fo [2] Qb (.var 5) aI) (kn X s.a s.b) s.g=Qa ((.nx,kn X s'.a s'.b),s'.g):=by
 rw [<-nD];exact sg (c:=aj P0 d) (tg:=[2]) (many:=Qb) (a:=X.aK) (e:=.var 5) (b:=aI) (vs:=bf X.ks) (λs:lh R=>kn X s.a s.b) lh.g (λi=>qu X i 0) s (fD hd O) rfl (λi s P=>P.S.kK) (by exact lR (.z (cv (.ref X.aK) s.g)) rfl) P λi v s R1 _ hv P1 T1=>by
  obtain ⟨x,hx,rfl⟩:=zL hv;exact mT (zbP hd O P1 hx T1.nx)
end
def uq.go {s:lh R} (P:uq X X.ks.length s):qu X 0 0 s:=by
 have S:=P.S;unfold dO at S;rw [Zg] at S;refine ⟨S,by rw [P.a,ZH],λm k hk=>?_,λm k hk=>?_,by rw [P.c];exact JJ _⟩
 ·rw [P.a,KI,if_pos (kP hk),if_neg (Zh _)]
  by_cases h0:m=0
  ·rw [if_pos h0];rfl
  ·rw [if_neg h0]
 ·rw [P.e,KI,if_pos (kP hk),if_neg (Zh _)]
def ST.done {ks:List Nat}{T:Mc R.α} (T':ST M ks ks.length 0 T) (hE:T.ar.length=T.ab.length):T.ab=ks.map (λk=>p7 ks (bx M k))/\T.ar=ks.map (fw M):=by
 refine ⟨uO (by rw [Jt];exact T'.al) λm y hy=>?_,uO (by rw [Jt];exact hE.trans T'.al) λm y hy=>?_⟩
 ·have hm:m<ks.length:=by rw [<-T'.al];exact kP hy
  have:=T'.a m _ (Js hm)
  rw [if_pos hm] at this;simp only [JC,Js hm];exact this.symm.trans hy
 ·have hm:m<ks.length:=by rw [<-T'.al,<-hE];exact kP hy
  have:=T'.e m _ (Js hm)
  rw [if_pos hm] at this;simp only [JC,Js hm];exact this.symm.trans hy
structure zdB (R:Rg) (h:MH) (M:Mc R.α) (ks:List Nat) (t:MH) (L':Ly) (T:Mc R.α):Prop where
 J:aq R (h++t) L' T
 ho: ∀a∈fi L',h.length<=a
 g6:oJ M ks T
abbrev m3L' (m:Nat):Ly:=⟨m,m+1,m+2,[]⟩
def SB {m a:Nat} (ha:a∈fi (m3L' m)):m<=a/\a<=m+2:=by
 simp only [fi,JT,JB,or_false] at ha;rcases ha with rfl|rfl|rfl<;>lia
theorem Er (k:Nat) {a:Nat}{l:List Nat} (ha:h[a]?=Qa (.list (bf l))):nG .fy (.int k) (.ref a) h=Qa (!decide (k∈l)):=PP (cW ha)
def RU {g:MH}{s0:lh R} (hd:5<=d) (O:xf X) (hs:X.M.start∈X.ks) (hz: ¬X.M.first=R.zero) (P:uq X 0 s0) (eg:s0.g=g) (ea:s0.b=Qd): ∃t L' T,∃s':lh R,exec (aj P0 d) (.fo [2] Qb (.var 5) aJ) (kn X s0.a Qd) g=Qa ((.nx,kn X s'.a s'.b),s'.g)/\∃s2:lh R,exec (aj P0 d) (.fo [2] Qb (.var 5) aI) (kn X s'.a s'.b) s'.g=Qa ((.nx,kn X s2.a s2.b),s2.g)/\qu X X.ks.length 0 s2/\l5 (aj P0 d) (.ref X.m) U0 [.int (X.ks.idxOf X.M.start:Nat),R.e X.M.first] s2.g s2.g=Qa (.none,X.h++t)/\L'.m=X.m/\zdB R X.h X.M X.ks t L' T:=by
 subst eg;refine (RZ (d:=d) hd O P).elim λs1 zq17=>?_;have e1:=zq17.2;rw [ea] at e1;refine (RV (d:=d) hd O zq17.1.go).elim λs2 zq16=>?_;have S:=zq16.1.S;refine (Im (d:=d) (s:=X.ks.idxOf X.M.start) (Jq (by decide) hd) S.I (by rw [zq16.1.T.al];exact ZU.mpr hs) O.G.fst O.G.bd).elim λg' zq15=>?_;have e3:=zq15.1;have S':=S.pv zq15.2.2 zq15.2.1 rfl λa ha=> .inl ha;refine S'.pre.elim λt zq14=>?_;rw [S.em,zq14] at e3;exact ⟨t,s2.L,{s2.M with start:=X.ks.idxOf X.M.start,first:=X.M.first},s1,e1,s2,zq16.2,zq16.1,e3,S.em,zq14▸zq15.2.1,λa ha=>(S'.fi a ha).1,.ny hs hz (zq16.1.T.done S.I.fj).1 (zq16.1.T.done S.I.fj).2 rfl rfl⟩
def MF {p k aK:Nat}{t0 t1:MH}{ks:List Nat}{o1 o2 o3 o4:Option aa} (I:aq R h L M) (G:mL M p k) (hks: ∀x∈ks,x<M.ab.length) (nk:ks.Nodup) (hK:(h++t0)[aK]?=Qa (.list (bf ks))) (J:aq R (h++t0++t1) ⟨(h++t0).length,(h++t0).length+1,(h++t0).length+2,[]⟩ (M0 (R:=R))):
  xf (⟨h,L,M,ks,(h++t0).length,(h++t0++t1).length,aK,o1,o3,o4,p,k⟩:TX R)/\uq (⟨h,L,M,ks,(h++t0).length,(h++t0++t1).length,aK,o1,o3,o4,p,k⟩:TX R) 0 ⟨h++t0++t1++ [.dict (Qa 0) []],⟨(h++t0).length,(h++t0).length+1,(h++t0).length+2,[]⟩,M0,o2,Qd⟩:=by
 have hm:h.length<=(h++t0).length:=by rw [Jz];exact Jv _ _
 have kl:=nk.length_le_of_subset (l₂:=JW M.ab.length) λx hx=>ZL.mpr (hks x hx);rw [J9] at kl;refine ⟨⟨I,G,hks,nk,Jq kl G.n,Jq hm (by rw [Jz (as:=h++t0)];exact Jv _ _:(h++t0).length<=(h++t0++t1).length)⟩,⟨⟨t0++(t1++ [.dict (Qa 0) []]),by rw [<-JH,<-JH]⟩,kI (kI hK),⟨Qa 0,ap⟩,J.cw,rfl,λa ha=>?_⟩,rfl,rfl,rfl⟩
 have:=SB ha
 exact ⟨Jq hm this.1,λe=>absurd (e▸(lI hK)) (ZX.mpr this.1),λe=>absurd (e▸Jx this.2 (lI J.ar)) (J8 _)⟩
def FI {p k:Nat}{g:MH}{ks:List Nat}{aK:Nat}{o1 o2 o3 o4:Option aa} (hd:5<=d) (I:aq R h L M) (G:mL M p k) (hks: ∀x∈ks,x<M.ab.length) (nk:ks.Nodup) (eg: ∃t,g=h++t) (hK:g[aK]?=Qa (.list (bf ks)))
  (q: ∀t L' T,aq R (h++t) L' T->(∀a∈fi L',h.length<=a) ->oJ M ks T->Q (.ref L'.m) (h++t)):cz (aj P0 d) (mU.drop 5) (Qa (.ref L.m)::o1::o2::o3::o4::Qa (.ref aK)::nn 9) g (Internal.Fin Q):=by
 obtain ⟨t0,rfl⟩:=eg;have I0:aq R (h++t0) L M:=I.cw;refine (BV (d:=d) R (Jq (by decide) hd) (h++t0)).elim λt1 zq12=>?_;have I1:aq R (h++t0++t1) L M:=I0.cw;have hK1:=kI (t:=t1) hK;have hm:h.length<=(h++t0).length:=by rw [Jz];exact Jv _ _
 have mh:(M.start∉ks\/M.first=R.zero) -> ∃t',l5 (aj P0 d) (.ref (h++t0).length) zK [] (h++t0++t1) (h++t0++t1)=Qa (.int 0,h++t')/\Q (.ref (h++t0).length) (h++t'):=λhb=>by
  refine (GO (d:=d) (Jq (by decide) hd) zq12.2 (by show 0<10000;decide)).elim λg' zq11=>?_;have K':=zq11.2.2;rw [JH] at K';obtain ⟨t',rfl⟩:=K'.pre λa ha=>Jq hm (SB (m:=(h++t0).length) (FO (L:=m3L' (h++t0).length) ha)).1;exact ⟨t',zq11.1,q t' _ _ zq11.2.1 (λa ha=>(We a ha).elim (λha=>Jq hm (SB (m:=(h++t0).length) ha).1) λe=>e▸Jq hm (by rw [Jz (as:=h++t0)];exact Jv _ _)) (.mh hb rfl rfl rfl rfl)⟩
 cases (inferInstance:Decidable (M.start∈ks)) with
 |isFalse hs=>
  obtain ⟨t',e2,q⟩:=mh (.inl hs);have hb:(!decide (M.start∈ks))=true:=by rw [decide_eq_false hs];rfl
  exact lJ (.v (nO I0)<| .p (zq12.1)<| .v (tK I1)<| .b (Er M.start hK1)<| .t (hb)<| .t (hb)<| .p (e2)<| .z (q)) rfl
 |isTrue hs=>
  have hb:(!decide (M.start∈ks))=false:=by rw [decide_eq_true hs];rfl
  cases R.gq M.first R.zero with
  |isTrue hz=>
   exact (mh (.inr hz)).elim λt' zq8=>lJ (.v (nO I0)<| .p (zq12.1)<| .v (tK I1)<| .b (Er M.start hK1)<| .f (hb)<| .v (U4 I1)<| .v (nO I1)<| .w (R.no)<| .k (R.qe M.first R.zero)<| .t (R.yes hz)<| .p (zq8.1)<| .z (zq8.2)) rfl
  |isFalse hz=>
   have zq7:=MF (o1:=o1) (o2:=o2) (o3:=o3) (o4:=o4) I G hks nk hK zq12.2;refine (RU (d:=d) hd zq7.1 hs hz zq7.2 rfl rfl).elim λt zq2=>zq2.elim λL' zq3=>zq3.elim λT zq4=>zq4.elim λs1 zq5=>zq5.2.elim λs2 zq6=>?_;have em:=zq6.2.2.2.1;have em:L'.m=(h++t0).length:=em;obtain ⟨ep,hD⟩:=zq6.2.1.S.dD;exact lJ (.v (nO I0)<| .p (zq12.1)<| .v (tK I1)<| .b (Er M.start hK1)<| .f (hb)<| .v (U4 I1)<| .v (nO I1)<| .w (R.no)<| .k (R.qe M.first R.zero)<| .f (R.not hz)<| .c<| .s (zq5.1)<| .s (zq6.1)<| .v (tK (zq6.2.1.S.im I:aq R s2.g L M))<| .v (sN hD hs rfl)<| .v (U4 (zq6.2.1.S.im I:aq R s2.g L M))<| .p (zq6.2.2.1)<| .z ((show Internal.Fin Q (.rt (.ref (h++t0).length)) [] (h++t) from em▸q t L' T zq6.2.2.2.2.J zq6.2.2.2.2.ho zq6.2.2.2.2.g6))) rfl
end
section
variable {R:Rg}{d:Nat}{h h0:MH}{Q:aa->MH->Prop}{L:Ly}{M:Mc R.α}
theorem za4 {bb:List (List Nat)} (B:nN M M.ab.length 0 bb) (I:aq R h L M) (G: ∀ys∈M.ab,∀a∈ys,a.t<M.ab.length): ∀xs∈bb,xs.length<=100000/\∀o∈xs,o<M.ab.length:=λxs hx=>by
 have h2:=B.sum;rw [Zg,I.ct] at h2;refine ⟨Jq (UY hx) (h2▸I.cl),λo ho=>?_⟩;obtain ⟨k,hk,rfl⟩:=Yu.mp hx;exact ((B.mem k _ (Js hk) o).mp ho).elim λys zq34=>kP zq34.1
def Ig {c:Cx}{it e:Ex}{x n:Nat}{fr:Internal.Frame} (p:Nat->Bool) (hn:n<=100000) (hc:c.cu=200000) (hx: ∀i:Nat,(fr.set x (Qa (.int (i:Int))))[x]?=Qa (Qa (.int (i:Int)))) (e0:WE c fr it h λv g=>v= .gf n/\g=h)
  (step: ∀i,i<n-> ∀acc,WE c (fr.set x (Qa (.int i))) e (h++ [.list acc]) λv g=>v= .bool (p i)/\g=h++ [.list acc]):eval c (.comp (.var x) [x] Qb it [e]) fr h=Qa (.ref h.length,h++ [.list (bf (m5 p n))]):=by
 refine W.eq (Gz p (by rw [hc];exact Jx hn (by decide)) (Jq hn (by decide)) (e0.mono λv g q=>?_));refine eqE q.1 ?_;refine eqB q.2 ?_;refine ⟨rfl,λi hi acc=>tA ((step i hi acc).mono λv g q=>?_),hx,rfl,rfl⟩;refine eqB q.1 ?_;refine eqE q.2 ?_;exact uD ⟨λhb=>rO ⟨rfl,hb.symm⟩,λhb=>⟨rfl,hb.symm⟩⟩
theorem Rg.qn (a b:R.α) (h:MH):nG .ne (R.e a) (R.e b) h=Qa (!@decide (a=b) (R.gq a b)):=Internal.di (R.ff h a b)
abbrev d6 (L:Ly) (o1 o3 o4:Option aa):Internal.Frame:=Qa (.ref L.m)::o1::Qd::o3::o4::nn 10
theorem zaP {o1:Option aa} (hd:1<=d) (I:aq R h L M):eval (aj P0 d) (.comp (.var 9) [9] Qb (.call (.lit (.ty 491260897125)) [.ao (.var 0) tG []]) [.ba .ne (.sub (.af (.var 0) pE) (.var 9)) (.af (.af (.var 0) oE) uK)]) (d6 L o1 Qd Qd) h=Qa (.ref h.length,h++ [.list (bf (m5 (qI M) M.ab.length))]):=
 Ig (qI M) (y7 I) rfl (λ_=>rfl) (by exact lR (.p (m9 hd I)<| .c<| .z (cv (.gf M.ab.length) h)) (by kernel_rfl)) λi hi acc=>by
  have J:aq R (h++ [.list acc]) L M:=I.cw;exact lR (.v (Wv J)<| .v (sl J.ar (I.og hi))<| .v (nO J)<| .w (R.no)<| .k (R.qn (fw M i) R.zero)<| .z (cv (.bool (qI M i)) (h++ [.list acc]))) (by kernel_rfl)
theorem zaK {a1 a2:Nat}{o3:Option aa}{mb1 mb2:List Bool} (hd:1<=d) (I:aq R h L M) (h1:h[a1]?=Qa (.list (mb1.map aa.bool))) (h2:h[a2]?=Qa (.list (mb2.map aa.bool))) (l1:mb1.length=M.ab.length) (l2:mb2.length=M.ab.length):eval (aj P0 d) (.comp (.var 9) [9] Qb (.call (.lit (.ty 491260897125)) [.ao (.var 0) tG []]) [.gy Qb [.sub (.var 1) (.var 9),.sub (.var 4) (.var 9)]]) (d6 L (Qa (.ref a1)) o3 (Qa (.ref a2))) h=Qa (.ref h.length,h++ [.list (bf (m5 (λk=>mb1[k]?.getD Qb && mb2[k]?.getD Qb) M.ab.length))]):=
 Ig _ (y7 I) rfl (λ_=>rfl) (by exact lR (.p (m9 hd I)<| .c<| .z (cv (.gf M.ab.length) h)) (by kernel_rfl)) λi hi acc=>by
  have e1:=Js (l:=mb1) (i:=i) (l1▸hi);have e2:=Js (l:=mb2) (i:=i) (l2▸hi)
  generalize mb1[i]'(l1▸hi)=b1 at e1
  generalize mb2[i]'(l2▸hi)=b2 at e2
  simp only [e1,e2];cases b1 with
  |false=>exact lR (.v ((sl (kI (t:=[.list acc]) h1) (xN e1)))<| .c<| .z (cv (.bool Qb) (h++ [.list acc]))) (by kernel_rfl)
  |true=>exact lR (.v ((sl (kI (t:=[.list acc]) h1) (xN e1)))<| .c<| .v ((sl (kI (t:=[.list acc]) h2) (xN e2)))<| .z (cv (.bool b2) (h++ [.list acc]))) (by kernel_rfl)
def SH (hd:1<=d) (I:aq R h L M): ∃t,∃b:Nat,kT (aj P0 d) (.ah 125) [.ref L.m] h=Qa (.ref b,h++t)/\uB (h++t) b (uy M):=by
 obtain ⟨v,g,e,t,b,rfl,rfl,q⟩:=W.get (nX (P:=P0) (d:=d) rfl (Ej (Q:=λv g=> ∃t b,v= .ref b/\g=h++t/\uB (h++t) b (uy M)) hd I λt b A=>⟨t,b,rfl,rfl,A⟩));exact ⟨t,b,e,q⟩
structure Pk (h t:MH) (n a:Nat) (fs:List Nat) (bb:List (List Nat)) (mb:List Bool):Prop where
 l:mb.length=n
 B:Vm fs bb mb
 c:HY bb mb
 at':(h++t)[a]?=Qa (.list (mb.map aa.bool))
def Cj {f b:Nat}{fs:List Nat}{bb:List (List Nat)} (hd:2<=d) (I:aq R h L M) (hf:h[f]?=Qa (.list (bf fs))) (A:uB h b bb) (hl:bb.length=M.ab.length) (vp: ∀s∈fs,s<M.ab.length) (sf:fs.length<=10000) (zj: ∀xs∈bb,xs.length<=100000/\∀o∈xs,o<M.ab.length):
  ∃t,∃a:Nat,kT (aj P0 d) (.ah 124) [.ref L.m,.ref f,.ref b] h=Qa (.ref a,h++t)/\∃mb,Pk h t M.ab.length a fs bb mb:=by
 refine xEEA (W.get (nX (P:=P0) (d:=d) rfl (zau (Q:=λv g=> ∃t a,v= .ref a/\g=h++t/\∃mb,Pk h t M.ab.length a fs bb mb) hd I hf A hl vp sf zj λmb t l B c m=>⟨t,_,rfl,rfl,mb,l,B,c,m⟩))) λv g e dh=>?_;refine xEEAA dh λt a gd kh q=>?_;subst gd;subst kh;exact ⟨t,a,e,q⟩
def O6 (hd:2<=d) (I:aq R h L M) (ht: ∀ys∈M.ab,∀a∈ys,a.t<M.ab.length): ∃t,∃b:Nat,kT (aj P0 d) (.ah 123) [.ref L.m] h=Qa (.ref b,h++t)/\∃bb,nN M M.ab.length 0 bb/\uB (h++t) b bb:=by
 refine xEEA (W.get (nX (P:=P0) (d:=d) rfl (O4 (Q:=λv g=> ∃t b,v= .ref b/\g=h++t/\∃bb,nN M M.ab.length 0 bb/\uB (h++t) b bb) hd I ht λt bb B A=>⟨t,_,rfl,rfl,bb,B,A⟩))) λv g e dh=>?_;refine xEEAA dh λt b gd kh q=>?_;subst gd;subst kh;exact ⟨t,b,e,q⟩
def zdT {p k:Nat} (hd:5<=d) (I:aq R h L M) (G:mL M p k): ∃t,∃b:Nat,kT (aj P0 d) (.ah 125) [.ref L.m] (h++ [.list [.int M.start]])=Qa (.ref b,h++ [.list [.int M.start]]++t)/\∃t2,∃a:Nat,kT (aj P0 d) (.ah 124) [.ref L.m,.ref h.length,.ref b] (h++ [.list [.int M.start]]++t)=Qa (.ref a,h++t2)/\∃mb,Pk h t2 M.ab.length a [M.start] (uy M) mb:=by
 refine (SH (d:=d) (h:=h++ [.list [.int M.start]]) (Jq (by decide) hd) I.cw).elim λt zq20=>zq20.elim λb zq21=>?_;obtain ⟨t2,a,e2,mb,m⟩:=Cj (d:=d) (f:=h.length) (fs:=[M.start]) (Jq (by decide) hd) I.cw.cw (kI ap) zq21.2 (Jt ..) (λs hs=>by rw [JG.mp hs];exact G.st) (by show 1<=10000;decide) λxs hx=>by
  obtain ⟨ys,hy,rfl⟩:=JO.mp hx;refine ⟨by rw [Jt];exact Jq (I.cr _ hy) I.cl,λo ho=>?_⟩;obtain ⟨a,ha,rfl⟩:=JO.mp ho;exact (G.fv ys hy a ha).1
 have hg:((h++ [ae.list [.int M.start]])++t)++t2=h++([ae.list [.int M.start]]++t++t2):=by rw [JH,JH,JH]
 exact ⟨t,b,zq21.1,[ae.list [.int M.start]]++t++t2,a,hg▸e2,mb,m.l,m.B,m.c,hg▸m.at'⟩
def zdS {p k:Nat} (hd:5<=d) (I:aq R h L M) (G:mL M p k): ∃t,∃b:Nat,kT (aj P0 d) (.ah 123) [.ref L.m] (h++ [.list (bf (m5 (qI M) M.ab.length))])=Qa (.ref b,h++ [.list (bf (m5 (qI M) M.ab.length))]++t)/\∃t2,∃a:Nat,kT (aj P0 d) (.ah 124) [.ref L.m,.ref h.length,.ref b] (h++ [.list (bf (m5 (qI M) M.ab.length))]++t)=Qa (.ref a,h++t2)/\∃mb bb,nN M M.ab.length 0 bb/\Pk h t2 M.ab.length a (m5 (qI M) M.ab.length) bb mb:=by
 refine (O6 (d:=d) (h:=h++ [.list (bf (m5 (qI M) M.ab.length))]) (Jq (by decide) hd) I.cw (λys hy a ha=>(G.fv ys hy a ha).1: ∀ys∈M.ab,∀a∈ys,a.t<M.ab.length)).elim λt zq15=>zq15.elim λb zq16=>zq16.2.elim λbb zq17=>?_;refine (Cj (d:=d) (f:=h.length) (fs:=m5 (qI M) M.ab.length) (Jq (by decide) hd) I.cw.cw (kI ap) zq17.2 zq17.1.len (λs hs=>(nR hs).1) (Jq wO I.bh) (za4 zq17.1 I (λys hy a ha=>(G.fv ys hy a ha).1: ∀ys∈M.ab,∀a∈ys,a.t<M.ab.length))).elim λt2 zq12=>zq12.elim λa zq13=>zq13.2.elim λmb zq14=>?_;have hg:((h++ [ae.list (bf (m5 (qI M) M.ab.length))])++t)++t2=h++([ae.list (bf (m5 (qI M) M.ab.length))]++t++t2):=by rw [JH,JH,JH]
 exact ⟨t,b,zq16.1,_,a,hg▸zq13.1,mb,bb,zq17.1,zq14.l,zq14.B,zq14.c,hg▸zq14.at'⟩
abbrev d5 (M:Mc R.α) (mb1 mb2:List Bool):List Nat:=m5 (λk=>mb1[k]?.getD Qb && mb2[k]?.getD Qb) M.ab.length
def Ds {p k:Nat} (hd:6<=d) (I:aq R h L M) (G:mL M p k) (q: ∀t L' T ks mb1 mb2 bb,aq R (h++t) L' T->(∀a∈fi L',h.length<=a) ->yK M ks mb1 mb2 bb->oJ M ks T->Q (.ref L'.m) (h++t)):WF P0 d 133 [.ref L.m] h Q:=by
 refine l0 (K:=5) hd (Qa (.ref L.m)::nn 14) mU (by kernel_rfl) λd' h'=>?_;have d1:1<=d':=Jq (by decide) h';refine (zdT (d:=d') h' I G).elim λt1 zq7=>zq7.elim λb1 zq8=>zq8.2.elim λt2 zq9=>zq9.elim λa1 zq10=>zq10.2.elim λmb1 zq11=>?_;have m1:=zq11;have I2:aq R (h++t2) L M:=I.cw;refine (zdS (d:=d') h' I2 G).elim λt3 zq1=>zq1.elim λb2 zq2=>zq2.2.elim λt4 zq3=>zq3.elim λa2 zq4=>zq4.2.elim λmb2 zq5=>zq5.elim λbb zq6=>?_;have m2:=zq6.2;exact nJ (a:=mU.take 5) (b:=mU.drop 5) (lJ (.p (m9 d1 I)<| .k (ug M.ab.length 0)<| .f ((beq_false_of_ne λe=>absurd G.st (by rw [K7.mp e];exact Zh _):((M.ab.length:Int)==0)=Qb))<| .v (tK I)<| .p (zq8.1)<| .p (zq10.1)<| .p (zaP (o1:=Qa (.ref a1)) d1 I2)<| .p (zq2.1)<| .p (zq4.1)<| .p (zaK (o3:=Qa (.ref (h++t2).length)) d1 (I2.cw:aq R (h++t2++t4) L M) (kI m1.at') m2.at' m1.l m2.l)<| .z (nL (FI (Q:=Q) (g:=h++t2++t4++ [.list (bf (d5 M mb1 mb2))]) (o1:=Qa (.ref a1)) (o2:=Qd) (o3:=Qa (.ref (h++t2).length)) (o4:=Qa (.ref a2)) h' I G (λx hx=>(nR hx).1) uJ ⟨t2++(t4++ [.list (bf (d5 M mb1 mb2))]),by rw [JH,JH]⟩ ap λt' L' T J ho TR=>q t' L' T _ mb1 mb2 bb J ho ⟨m1.l,m1.B,m1.c,m2.l,m2.B,m2.c,zq6.1,rfl⟩ TR))) (by kernel_rfl))
end
structure qv where
 κ:Type
 dq:DecidableEq κ
 v:κ->aa
 eq: ∀a b,gm (v a) (v b)= @decide (a=b) (dq a b)
 kd: ∀a,lN (v a)=3
noncomputable instance (T:qv):DecidableEq T.κ:=T.dq
section
variable {T:qv}
def qT (T:qv) (es:List (aa×aa)):Prop:= ∀p∈es,∃a,p.1=T.v a
def rC {es:List (aa×aa)}{k:T.κ} (K:qT T es):kX es (T.v k)=true:=by
 have h1:(lN (T.v k) !=0)=true:=by rw [T.kd];rfl
 delta kX;rw [h1];cases es with
 |nil=>rfl
 |cons p r=>
  obtain ⟨a,e⟩:=K p (.head _);have q:yU (p::r)=Qa (lN (T.v k)):=by rw [T.kd,<-T.kd a,<-e];rfl
  rw [q,beq_self_eq_true];rfl
def EX {es:List (aa×aa)}{k k':T.κ}{v:aa} (K:qT T es):kY (es.map λp=>bif gm p.1 (T.v k) then (p.1,v) else p) (T.v k')=if k=k' then (kY es (T.v k')).map λ_=>v else kY es (T.v k'):=by
 induction es with
 |nil=>by_cases h:k=k'<;>simp [h] <;>rfl
 |cons p r ih=>
  refine xE (K p (.head _)) λa e=>?_;obtain ⟨x,y⟩:=p;subst e;rw [JR,T.eq];by_cases h1:a=k
  ·subst h1
   rw [decide_eq_true rfl,cond_true,mV,mV,T.eq,(ih λp hp=>K p (.tail _ hp))];by_cases h2:a=k'
   ·rw [decide_eq_true h2,if_pos h2,if_pos h2];rfl
   ·rw [decide_eq_false h2,if_neg h2,if_neg h2];rfl
  ·simp only [decide_eq_false h1,cond_false,mV,mV,T.eq,(ih λp hp=>K p (.tail _ hp))]
   by_cases h2:a=k'
   ·refine eqE h2 ?_
    rw [decide_eq_true rfl,if_neg λe=>h1 e.symm,if_neg λe=>h1 e.symm]
   ·simp only [decide_eq_false h2,cond_false,cond_false]
def EY {es:List (aa×aa)}{k v k':aa}:kY (es++ [(k,v)]) k'=(kY es k').or (bif gm k k' then Qa v else Qd):=by
 induction es with
 |nil=>rw [qa2,mV];rfl
 |cons p r ih=>
  rw [Yf,mV,mV,ih];cases gm p.1 k'<;>rfl
def EW {es:List (aa×aa)}{k k':T.κ}{v:aa} (K:qT T es):kY (oF es (T.v k) v) (T.v k')=if k=k' then Qa v else kY es (T.v k'):=by
 delta oF;cases hg:kY es (T.v k) with
 |some x=>
  simp only [YH,cond_true,EX K];by_cases h:k=k'
  ·subst h
   rw [if_pos rfl,if_pos rfl,hg];rfl
  ·rw [if_neg h,if_neg h]
 |none=>
  simp only [YI,cond_false,EY,T.eq];by_cases h:k=k'
  ·subst h
   rw [if_pos rfl,hg,decide_eq_true rfl];rfl
  ·rw [if_neg h,decide_eq_false h,cond_false,Option.or_none]
def Uj {es:List (aa×aa)}{k:T.κ}{v:aa} (K:qT T es):qT T (oF es (T.v k) v)/\(oF es (T.v k) v).length<=es.length+1:=by
 delta oF;cases hg:kY es (T.v k) with
 |some x=>
  simp only [YH,cond_true];refine ⟨λp hp=>?_,by rw [Jt];exact Jv _ _⟩;obtain ⟨q,hq,rfl⟩:=JO.mp hp;cases gm q.1 (T.v k)
  ·exact K q hq
  ·exact K q hq
 |none=>
  simp only [YI,cond_false];refine ⟨λp hp=>?_,by rw [Jz];exact JA _⟩;rcases J4.mp hp with hp|hp
  ·exact K p hp
  ·rw [JG.mp hp];exact ⟨k,rfl⟩
def NA {es:List (aa×aa)}{k:T.κ}{v:aa} (K:qT T es) (nd:(es.map (·.1)).Nodup):((oF es (T.v k) v).map (·.1)).Nodup:=by
 delta oF;cases hg:kY es (T.v k) with
 |some x=>
  simp only [YH,cond_true,KO,show ((λp:aa×aa=>p.1) ∘ λp=>bif gm p.1 (T.v k) then (p.1,v) else p)=λp=>p.1 from funext λp=>by show (bif gm p.1 (T.v k) then (p.1,v) else p).1=p.1;cases gm p.1 (T.v k)<;>rfl];exact nd
 |none=>
  simp only [YI,cond_false,JY];refine ZR.mpr ⟨nd,List.Pairwise.cons (λ_ h=>absurd h JB) .nil,λa ha b hb e=>?_⟩;rw [JG.mp hb] at e;obtain ⟨p,hp,rfl⟩:=JO.mp ha
  have:=List.find?_eq_none.mp (Option.map_eq_none_iff.mp hg) p hp
  rw [e,T.eq,decide_eq_true rfl] at this;exact this rfl
end
abbrev UZ (i j:Nat):aa:= .az [.int (i:Int),.int (j:Int)]
def zc7 {i j i' j':Nat}:gm (UZ i j) (UZ i' j')=decide ((i,j)=(i',j')):=by
 have e: ∀ {a b:Nat},((a:Int)==(b:Int))=decide (a=b):=λ{a b} =>by
  by_cases h:a=b
  ·subst h;simp
  ·exact (decide_eq_false h)▸beq_false_of_ne λe=>h (KH.inj e)
 show (((i:Int)==(i':Int)) && (((j:Int)==(j':Int)) && Qf))=_;rw [e,e,Yb,<-Bool.decide_and,decide_eq_decide];exact (qa6.injEq ..).symm▸Iff.rfl
abbrev mI:qv:=⟨Nat×Nat,inferInstance,λp=>UZ p.1 p.2,λ_ _=>zc7,λ_=>rfl⟩
def Dw {s t:List Nat}:((⟨s.toArray⟩:PySem.Str)==⟨t.toArray⟩)=decide (s=t):=by
 by_cases hs:s=t
 ·subst hs;simp
 ·rw [decide_eq_false hs]
  exact beq_false_of_ne λe=>hs (congrArg (λx:PySem.Str=>x.cps.toList) e)
def zc6 {a b:List Nat×List Nat}:gm (.az [.str a.1,.str a.2]) (.az [.str b.1,.str b.2])=decide (a=b):=by
 show (((⟨a.1.toArray⟩:PySem.Str)==⟨b.1.toArray⟩) && (((⟨a.2.toArray⟩:PySem.Str)==⟨b.2.toArray⟩) && Qf))=_;rw [Dw,Dw,Yb,<-Bool.decide_and,decide_eq_decide];exact Prod.ext_iff.symm
abbrev kJ:qv:=⟨List Nat×List Nat,inferInstance,λp=> .az [.str p.1,.str p.2],λ_ _=>zc6,λ_=>rfl⟩
section
variable {T:qv}{R:Rg}{d:Nat}{h h0:MH}{Q:aa->MH->Prop}{L:Ly}{M:Mc R.α}
def l6 (R:Rg) (n:Nat):List R.α:=JU n R.zero
structure RW (T:qv) (R:Rg) (h g:MH) (D N c:Nat) (Ad:T.κ->Option Nat) (V:T.κ->List R.α):Prop where
 pre: ∃t,g=h++t
 rx:h.length<=D
 dd: ∃ep es,g[D]?=Qa (.dict ep es)/\qT T es/\es.length<=c/\∀k,kY es (T.v k)=(Ad k).map aa.ref
 inj: ∀k k' a,Ad k=Qa a->Ad k'=Qa a->k=k'
 ow: ∀k a,Ad k=Qa a->h.length<=a
 row: ∀k a,Ad k=Qa a->g[a]?=Qa (.list ((V k).map R.e))
 rk: ∀k,Ad k=Qd->V k=l6 R N
 len: ∀k,(V k).length=N
 sm: ∃e es,g[D]?=Qa (.dict (Qa e) es)/\(es.map (·.1)).Nodup
def dj {β:Type} (f:T.κ->β) (k:T.κ) (x:β):T.κ->β:=λa=>if a=k then x else f a
theorem kO {β:Type}{f:T.κ->β}{k:T.κ}{x:β}:dj f k x k=x:=if_pos rfl
theorem kU {β:Type}{f:T.κ->β}{k a:T.κ}{x:β} (h: ¬a=k):dj f k x a=f a:=if_neg h
def RW.cw {g t:MH}{D N c:Nat}{Ad:T.κ->Option Nat}{V:T.κ->List R.α} (S:RW T R h g D N c Ad V):RW T R h (g++t) D N c Ad V:=by
 refine S.pre.elim λt0 zq9=>?_;obtain rfl:=zq9;exact S.dd.elim λep zq7=>zq7.elim λes zq8=>⟨⟨_,JH ..⟩,S.rx,⟨ep,es,kI zq8.1,zq8.2⟩,S.inj,S.ow,λk a ha=>kI (S.row k a ha),S.rk,S.len,S.sm.elim λe q=>q.elim λes q=>⟨e,es,kI q.1,q.2⟩⟩
def RW.qz {g:MH}{D N c a:Nat}{k:T.κ}{Ad:T.κ->Option Nat}{V:T.κ->List R.α}{x:List R.α} (S:RW T R h g D N c Ad V) (ha:Ad k=Qa a) (hx:x.length=N):RW T R h (g.set a (.list (x.map R.e))) D N c Ad (dj V k x):=by
 refine S.pre.elim λt0 zq6=>?_;obtain rfl:=zq6;refine S.dd.elim λep zq4=>zq4.elim λes zq5=>?_;have hr:=S.row k a ha;refine ⟨⟨_,vM (S.ow k a ha)⟩,S.rx,⟨ep,es,lF (di hr zq5.1 nofun) zq5.1,zq5.2⟩,S.inj,S.ow,λk' a' ha'=>?_,λk' hn=>?_,λk'=>?_,S.sm.elim λe q=>q.elim λes q=>⟨e,es,lF (di hr q.1 nofun) q.1,q.2⟩⟩
 ·by_cases e:k'=k
  ·subst e
   rw [ha] at ha';refine mP ha' ?_;rw [kO];exact lW hr
  ·rw [kU e]
   exact lF (λq=>by subst q;exact e (S.inj _ _ _ ha' ha)) (S.row k' a' ha')
 ·rw [kU λe=>by subst e;rw [ha] at hn;exact nomatch hn]
  exact S.rk k' hn
 ·by_cases e:k'=k
  ·refine eqE e ?_;rw [kO];exact hx
  ·exact (kU e)▸S.len k'
def RW.lr {g:MH}{D N c a:Nat}{k:T.κ}{ep:Option Nat}{es:List (aa×aa)}{Ad:T.κ->Option Nat}{V:T.κ->List R.α}{x:List R.α} (S:RW T R h g D N c Ad V) (hD:g[D]?=Qa (.dict ep es)) (ha:g[a]?=Qa (.list (x.map R.e))) (hl:h.length<=a) (hn: ∀k,Ad k≠Qa a) (hx:x.length=N) (ep':Option Nat) (he:ep'.isSome=Qf):RW T R h (g.set D (.dict ep' (oF es (T.v k) (.ref a)))) D N (c+1) (dj Ad k (Qa a)) (dj V k x):=by
 refine S.pre.elim λt0 zq3=>?_;obtain rfl:=zq3;refine xEEAAA S.dd λep0 es0 h1 K hc h2=>?_;rw [hD] at h1;cases h1;refine ⟨⟨_,vM S.rx⟩,S.rx,⟨ep',_,lW hD,(Uj (k:=k) (v:=.ref a) K).1,Jq (Uj (k:=k) (v:=.ref a) K).2 (Zu hc),λk'=>?_⟩,λk1 k2 a' e1 e2=>?_,λk' a' e=>?_,λk' a' e=>?_,λk' e=>?_,λk'=>?_,?_⟩
 ·rw [EW K]
  by_cases e:k=k'
  ·subst e;rw [if_pos rfl,kO];rfl
  ·rw [if_neg e,kU λq=>e q.symm,h2]
 ·by_cases q1:k1=k<;>by_cases q2:k2=k
  ·exact q1.trans q2.symm
  ·subst q1
   rw [kO] at e1;rw [kU q2] at e2;obtain rfl:=Qa.inj e1;exact absurd e2 (hn _)
  ·subst q2
   rw [kO] at e2;rw [kU q1] at e1;obtain rfl:=Qa.inj e2;exact absurd e1 (hn _)
  ·rw [kU q1] at e1;rw [kU q2] at e2
   exact S.inj _ _ _ e1 e2
 ·by_cases q1:k'=k
  ·subst q1;rw [kO] at e;cases e;exact hl
  ·rw [kU q1] at e;exact S.ow _ _ e
 ·by_cases q1:k'=k
  ·subst q1;rw [kO] at e ⊢;cases e;exact lF (di hD ha nofun) ha
  ·rw [kU q1] at e ⊢
   have:=S.row _ _ e
   exact lF (di hD this nofun) this
 ·by_cases q1:k'=k
  ·subst q1;rw [kO] at e;exact nomatch e
  ·rw [kU q1] at e ⊢;exact S.rk _ e
 ·by_cases q1:k'=k
  ·subst q1;rw [kO];exact hx
  ·rw [kU q1];exact S.len k'
 ·cases ep' with
  |none=>cases he
  |some e=>
   refine S.sm.elim λe' q=>q.elim λes' q=>⟨e,_,lW hD,NA K ?_⟩
   have:=q.1
   rw [hD] at this;cases this;exact q.2
def RW.ep {g:MH}{D N c:Nat}{Ad:T.κ->Option Nat}{V:T.κ->List R.α}{ep:Option Nat}{es:List (aa×aa)} (S:RW T R h g D N c Ad V) (hD:g[D]?=Qa (.dict ep es)) (b:Bool):(bif b then ep else ep.map (· +1)).isSome=true:=by
 refine xEEA S.sm λe es' q _=>?_;rw [hD] at q;cases q;cases b<;>rfl
end
section
variable {T:qv}{R:Rg}{d:Nat}{h g:MH}{Q:aa->MH->Prop}{L:Ly}{M:Mc R.α}
def gQ (s:List Nat) (a b:Nat) (h:MH):slice h (.str s) 3 [.int a,.int b]=Qa (.str (oh s (min a s.length) (min b s.length)),h):=by
 have e: ∀n:Nat,xM s.length (.int n)=Qa (min n s.length):=λn=>by
  delta xM;simp only [aa.int?,YY];rw [CJ (decide_eq_true (by omega)),KF]
 exact zd5 (s:=s) (n:=3) (bs:=[.int a,.int b]) (p:=(min a s.length,min b s.length)) (by show ((xM s.length (.int a)).bind λx=>(xM s.length (.int b)).map λy=>(x,y))=_;rw [e,e];rfl)
def nf (u:List Nat) (i:Nat) (s:List Nat):Bool:=s== [] ||oh u (min i u.length) (min (i+1) u.length)==s
def OP {u s:List Nat}{i:Nat} (hd:1<=d) (q:Q (.bool (nf u i s)) h):WF P0 d 129 [.str u,.int i,.str s] h Q:=by
 refine l0 (K:=0) hd (Qa (.str u)::Qa (.int i)::Qa (.str s)::nn 6) xQ rfl λd' h'=>?_;delta nf at q;exact lJ (.k (ya s [])<| .br (s== []) (λhb=> .z ((show Q (.bool (s== [])) h by rw [hb] at q ⊢;exact q))) (λhb=> .c<| .q (gQ u i (i+1))<| .k (ya (oh u (min i u.length) (min (i+1) u.length)) s)<| .z ((show Q (.bool (oh u (min i u.length) (min (i+1) u.length)==s)) h by rw [hb] at q;exact q)))) rfl
def RW.ql {g:MH}{D N c:Nat}{Ad:T.κ->Option Nat}{V:T.κ->List R.α} (S:RW T R h g D N c Ad V) (I:aq R h L M):aq R g L M:=by obtain ⟨t,rfl⟩:=S.pre;exact I.cw
def zcP {n a:Nat} (ha:h[a]?=Qa (.list [R.e R.zero])) (hn:n<=10000):pJ .mul (.ref a) (.int n) h=Qa (.ref h.length,h++ [.list ((l6 R n).map R.e)]):=by
 refine W.eq (Dq (n:=n) ha (pQ (by omega)) (by show 1*_<=_;rw [Z7];exact pQ (by omega)) ⟨rfl,?_⟩);rw [DK,show JU n (R.e R.zero)=(l6 R n).map R.e from (YF ..).symm]
theorem Rg.ze (R:Rg) (g:MH) {n:Nat} (hn:n<=10000):pJ .mul (.ref g.length) (.int n) (g++ [.list [R.e R.zero]])=Qa (.ref (g++ [ae.list [R.e R.zero]]).length,g++ [.list [R.e R.zero]]++ [.list ((l6 R n).map R.e)]):=zcP ap hn
def Sa {l:List R.α}{a s:Nat} (x:R.α) (hr:h[a]?=Qa (.list (l.map R.e))) (hs:s<l.length):oC h (.ref a) (.int s) (R.e x)=Qa (h.set a (.list ((l.set s x).map R.e))):=by rw [Sb hr (by rw [Jt];exact hs),map_set']
def zlen {n:Nat}:(l6 R n).length=n:=by unfold l6;rw [ZH]
def LN (hd:2<=d) (I:aq R h L M) (hs:M.start<M.ab.length) (q:Q (.ref (h.length+1)) (h++ [.list [R.e R.zero],.list (((l6 R M.ab.length).set M.start M.first).map R.e)])):WF P0 d 128 [.ref L.m] h Q:=by
 refine l0 (K:=1) hd (Qa (.ref L.m)::nn 7) vC rfl λd' h'=>?_;have e2:=zcP (h:=h++ [ae.list [R.e R.zero]]) (R:=R) (n:=M.ab.length) ap I.bh;rw [(by rw [Jz];rfl:(h++ [ae.list [R.e R.zero]]).length=h.length+1),JH] at e2;have e3:=Sa (s:=M.start) M.first (pH (h:=h) (j:=1) (t:=[.list [R.e R.zero],.list ((l6 R M.ab.length).map R.e)])) (by rw [zlen];exact hs);rw [DF] at e3;exact lJ (.v (nO I)<| .w (R.no)<| .p (m9 (h:=h++ [.list [R.e R.zero]]) h' I.cw)<| .p (e2)<| .v (U4 (I.cw:aq R (h++([ae.list [R.e R.zero]]++ [ae.list ((l6 R M.ab.length).map R.e)])) L M))<| .v (tK (I.cw:aq R (h++([ae.list [R.e R.zero]]++ [ae.list ((l6 R M.ab.length).map R.e)])) L M))<| .h (e3)<| .z ((q))) rfl
def BR (z:T.κ) {D:Nat}{ep:Option Nat}{es:List (aa×aa)} (hD:h[D]?=Qa (.dict ep es)) (K:qT T es):nG .fy ((T.v z)) (.ref D) h=Qa (!(kY es ((T.v z))).isSome):=by
 refine PP ?_;show ay ((lG h (.ref D)).bind _) ((dictAt h (.ref D)).bind λd=>au (kX d.2 ((T.v z))) (Qa (kY d.2 ((T.v z))).isSome))=_;rw [tE hD,nE hD];show au (kX es ((T.v z))) (Qa (kY es ((T.v z))).isSome)=_;rw [rC K];rfl
def nP (r:List R.α) (s:Nat) (x:R.α):List R.α:=r.set s (R.add (r[s]?.getD R.zero) x)
abbrev Pi (T:qv) (L:Ly) (D:Nat) (z:T.κ) (s:Nat) (x:R.α):Internal.Frame:=Qa (.ref L.m)::Qa (.ref D)::Qa ((T.v z))::Qa (.int s)::Qa (R.e x)::nn 6
def IH {D s p k a:Nat}{z:T.κ}{x:R.α}{ep:Option Nat}{es:List (aa×aa)}{l:List R.α}{F:Fl->Internal.Frame->MH->Prop} (hd:3<=d) (I:aq R g L M) (hD:g[D]?=Qa (.dict ep es)) (K:qT T es) (hk:kY es ((T.v z))=Qa (.ref a)) (hr:g[a]?=Qa (.list (l.map R.e))) (hs:s<l.length) (hV: ∀y∈l,R.D p k y) (hx:R.D p k x) (hl:4*p+k<=3800)
  (q:F .nx (Pi T L D z s x) (g.set a (.list ((nP l s x).map R.e)))):cz (aj P0 d) (qQ.drop 1) (Pi T L D z s x) g F:=by
 exact lJ (.v (nO I)<| .v (sd hD (rC K) hk)<| .v (sl hr (yC (VU hs)))<| .q (R.pl hd (hV _ (Io hs)) hx hl)<| .v (sd hD (rC K) hk)<| .h (Sa (R.add (at' l s) x) hr hs)<| .z ((q))) rfl
section
variable {D c s p k:Nat}{z:T.κ}{Ad:T.κ->Option Nat}{V:T.κ->List R.α}{x:R.α}{ep:Option Nat}{es:List (aa×aa)}
def Pf {a:Nat}{l:List R.α} (hd:4<=d) (I:aq R g L M) (hD:g[D]?=Qa (.dict ep es)) (K:qT T es) (hk:kY es ((T.v z))=Qa (.ref a)) (hr:g[a]?=Qa (.list (l.map R.e))) (hs:s<l.length) (hV: ∀y∈l,R.D p k y) (hx:R.D p k x) (hl:4*p+k<=3800)
  (q:Q .none (g.set a (.list ((nP l s x).map R.e)))):WF P0 d 126 [.ref L.m,.ref D,(T.v z),.int s,R.e x] g Q:=by
 exact l0 (K:=3) hd (Pi T L D z s x) qQ rfl λd' h'=>Pq (lJ (.b (BR z hD K)<| .f ((show (!(kY es ((T.v z))).isSome)=Qb by rw [hk];rfl))<| .z (nL (IH h' I hD K hk hr hs hV hx hl (F:=Internal.Fin Q) q))) rfl)
abbrev Ww (R:Rg) (g:MH) (n D:Nat) (ep:Option Nat) (es:List (aa×aa)) (z:T.κ):MH:=qbb (g++ [ae.list [R.e R.zero]]++ [ae.list ((l6 R n).map R.e)]) D (ae.dict (bif (kY es ((T.v z))).isSome then ep else ep.map (· +1)) (oF es ((T.v z)) (.ref (g++ [ae.list [R.e R.zero]]).length)))
def IG {es':List (aa×aa)}{ep':Option Nat} (hd:4<=d) (I:aq R g L M) (hD:g[D]?=Qa (.dict ep es)) (K:qT T es) (hl':es.length<bh) (hk:kY es ((T.v z))=Qd) (I3:aq R (Ww R g M.ab.length D ep es z) L M) (hD':(Ww R g M.ab.length D ep es z)[D]?=Qa (.dict ep' es')) (K':qT T es') (hk':kY es' ((T.v z))=Qa (.ref (g++ [ae.list [R.e R.zero]]).length))
  (hr:(Ww R g M.ab.length D ep es z)[(g++ [ae.list [R.e R.zero]]).length]?=Qa (.list ((l6 R M.ab.length).map R.e))) (hs:s<M.ab.length) (hx:R.D p k x) (hl:4*p+k<=3800)
  (q:Q .none ((Ww R g M.ab.length D ep es z).set (g++ [ae.list [R.e R.zero]]).length (.list ((nP (l6 R M.ab.length) s x).map R.e)))):WF P0 d 126 [.ref L.m,.ref D,(T.v z),.int s,R.e x] g Q:=by
 exact l0 (K:=3) hd (Pi T L D z s x) qQ rfl λd' h'=>Pq (lJ (.b (BR z hD K)<| .t ((show (!(kY es ((T.v z))).isSome)=Qf by rw [hk];rfl))<| .v (nO I)<| .w (R.no)<| .p (m9 (Jq (by decide) h') (I.cw:aq R (g++ [ae.list [R.e R.zero]]) L M))<| .p (R.ze g I.bh)<| .h (AO (v:=.ref (g++ [ae.list [R.e R.zero]]).length) (kI (t:=[ae.list ((l6 R M.ab.length).map R.e)]) (kI (t:=[ae.list [R.e R.zero]]) hD)) (rC (k:=z) K) hl')<| .z (nL (IH h' I3 hD' K' hk' hr (by rw [zlen];exact hs) (λy hy=>by rw [Zk hy];exact R.ai (JJ _) (JJ _) R.cj: ∀y∈l6 R M.ab.length,R.D p k y) hx hl (F:=Internal.Fin Q) q))) (by kernel_rfl))
theorem LV {l:List R.α}:(nP l s x).length=l.length:=Zb
def RW.gw (S:RW T R h g D M.ab.length c Ad V) (hA:Ad z=Qd) (hD:g[D]?=Qa (.dict ep es)):RW T R h (Ww R g M.ab.length D ep es z) D M.ab.length (c+1) (dj Ad z (Qa (g++ [ae.list [R.e R.zero]]).length)) V:=by
 have lg:h.length<=(g++ [ae.list [R.e R.zero]]).length:=by obtain ⟨t0,rfl⟩:=S.pre;rw [Jz,Jz];exact Jq (Jv _ _) (Jv _ _)
 have S3:=(S.cw.cw:RW T R h (g++ [ae.list [R.e R.zero]]++ [ae.list ((l6 R M.ab.length).map R.e)]) D M.ab.length c Ad V).lr (k:=z) (x:=l6 R M.ab.length) (kI (kI hD)) ap lg (λk' e=>absurd (lI (S.row k' _ e)) (by rw [Jz];exact ZX.mpr (Jv _ _))) zlen (bif (kY es ((T.v z))).isSome then ep else ep.map (· +1)) (S.ep hD _);have eV:dj V z (l6 R M.ab.length)=V:=by
  funext a
  by_cases e:a=z
  ·refine eqB e ?_;rw [kO];exact (S.rk _ hA).symm
  ·exact kU e
 rw [eV] at S3;exact S3
def RW.more (S:RW T R h g D M.ab.length c Ad V):RW T R h g D M.ab.length (c+1) Ad V:=by
 exact S.dd.elim λep zq8=>zq8.elim λes zq9=>⟨S.pre,S.rx,⟨ep,es,zq9.1,zq9.2.1,Zp zq9.2.2.1,zq9.2.2.2⟩,S.inj,S.ow,S.row,S.rk,S.len,S.sm⟩
end
def aB (D:Nat) (g g':MH) (Ad Ad':T.κ->Option Nat):Prop:= ∀a vs,a≠D->(∀k,Ad k≠Qa a) ->g[a]?=Qa (.list vs) ->g'[a]?=Qa (.list vs)/\∀k,Ad' k≠Qa a
def IF {g:MH}{D N c s p k:Nat}{z:T.κ}{Ad:T.κ->Option Nat}{V:T.κ->List R.α}{x:R.α} (hd:4<=d) (I:aq R h L M) (S:RW T R h g D N c Ad V) (hN:N=M.ab.length) (hc:c<100000) (hs:s<N) (hV: ∀y∈V z,R.D p k y) (hx:R.D p k x) (hl:4*p+k<=3800)
  (q: ∀g' Ad',RW T R h g' D N (c+1) Ad' (dj V z (nP (V z) s x)) ->(∀z' a',Ad z'=Qa a'->Ad' z'=Qa a') ->(∀z' a',Ad' z'=Qa a'->z'=z\/Ad z'=Qa a') ->aB D g g' Ad Ad'->Q .none g'):WF P0 d 126 [.ref L.m,.ref D,(T.v z),.int s,R.e x] g Q:=by
 subst hN;refine DW (Ad z) (λhA=>?_) λa hA=>?_
 ·refine S.dd.elim λep zq4=>zq4.elim λes zq5=>?_
  have S3:=S.gw hA zq5.1;refine S3.dd.elim λep' zq2=>zq2.elim λes' zq3=>?_;have hr:=S3.row z _ kO;have e:=S.rk z hA;have S4:=S3.qz (k:=z) (x:=nP (V z) s x) kO (LV.trans (S.len z));rw [e] at hr S4 q;exact IG hd (S.ql I) zq5.1 zq5.2.1 (Jx zq5.2.2.1 (Zm hc (by decide))) (by rw [zq5.2.2.2,hA];rfl) (S3.ql I) zq3.1 zq3.2.1 (by rw [zq3.2.2.2,kO];rfl) hr hs hx hl (q _ _ S4 (λz' a' e=>by rw [kU λq=>by rw [q,hA] at e;exact nomatch e];exact e) (λz' a' e=>by
   by_cases q:z'=z
   ·exact .inl q
   ·rw [kU q] at e;exact .inr e) λb vs h0 h1 h2=>by
    have lb:=lI h2;have n1: ¬(g++ [ae.list [R.e R.zero]]).length=b:=λe=>by
     rw [<-e,Jz] at lb;exact ZX.mpr (Jv _ _) lb
    refine ⟨lF n1 (lF (λe=>h0 e.symm) (kI (kI h2))),λk e=>?_⟩;by_cases q:k=z
    ·rw [q,kO] at e;exact n1 (Qa.inj e)
    ·rw [kU q] at e;exact h1 k e)
 ·exact S.dd.elim λep zq6=>zq6.elim λes zq7=>Pf hd (S.ql I) zq7.1 zq7.2.1 (by rw [zq7.2.2.2,hA];rfl) (S.row z a hA) (by rw [S.len];exact hs) hV hx hl (q _ Ad (S.more.qz hA (LV.trans (S.len z))) (λ_ _ e=>e) (λ_ _ e=> .inr e) λ_ _ _ h1 h2=>⟨lF (λe=>h1 z (hA.trans (congrArg Qa e))) h2,h1⟩)
def VK (r e:List R.α):R.α:=(r.zip e).foldl (λo p=>R.add o (R.mul p.1 p.2)) R.zero
def OR {d:Nat} (hd:4<=d) (I:aq R h L M) (q:Q (R.e R.zero) h):WF P0 d 127 [.ref L.m,.none] h Q:=by
 exact l0 (K:=3) hd (Qa (.ref L.m)::Qa .none::nn 9) qX rfl λd' h'=>lJ (.v (nO I)<| .w (R.no)<| .c2<| .q (R.nd h' R.cj (by decide))<| .z (q)) (by kernel_rfl)
abbrev zaR (R:Rg) (L:Ly) (a:Nat) (o:R.α) (z:Option aa):Internal.Frame:=Qa (.ref L.m)::Qa (.ref a)::Qa (.ah (112+R.i))::Qa (R.e o)::z::nn 6
abbrev zdp:List Sm:= [.bg (.nm 3) (.ao (.var 2) Lj [.var 3,.ao (.var 2) Wk [.sub (.var 1) (.var 4),.sub (.af (.var 0) pE) (.var 4)]])]
def EV {r e:List R.α}{i:Nat} (h1:i<r.length) (h2:i<e.length):VK (r.take (i+1)) (e.take (i+1))=R.add (VK (r.take i) (e.take i)) (R.mul (at' r i) (at' e i)):=by
 delta VK;simp only [Kt,Kt,VU h1,VU h2];rw [List.zip_append (by rw [Kx,Kx];omega),YO];rfl
def CY {a p k p' k':Nat}{r:List R.α} (hd:3<=d) (I:aq R h L M) (ha:h[a]?=Qa (.list (r.map R.e))) (hr:r.length=M.ab.length) (h1: ∀x∈r,R.D p k x) (h2: ∀x∈M.ar,R.D p' k' x) (hl:4*(p+p')+(k+k'+M.ab.length)<=3800): ∃z,exec (aj P0 d) (.fo [4] Qb (.call (.lit (.ty UU)) [.ao (.var 0) tG []]) zdp) (zaR R L a R.zero Qd) h=Qa ((.nx,zaR R L a (VK r M.ar) z),h)/\R.D (p+p') (k+k'+M.ab.length) (VK r M.ar):=by
 have hN:=I.bh;obtain ⟨⟨o,z⟩,P,e⟩:=pa (c:=aj P0 d) (x:=4) (n:=M.ab.length) (e:=.call (.lit (.ty UU)) [.ao (.var 0) tG []]) (b:=zdp) (σ:=R.α×Option aa) (λs=>zaR R L a s.1 s.2) (λ_=>h) (λi s=>s.1=VK (r.take i) (M.ar.take i)/\R.D (p+p') (k+k'+i) s.1) (R.zero,Qd) (by omega) rfl
  (by exact lR (.p (m9 (Jq (by decide) hd) I)<| .c<| .z (cv (.gf M.ab.length) h)) (by kernel_rfl)) ⟨rfl,R.ai (JJ _) (JJ _) R.cj⟩ λi s X _ hi P T=>by
   have hi1:i<r.length:=by omega
   have hi2:i<M.ar.length:=by rw [I.fj];exact hi
   have dm:=R.ai (JA _) (Jv (k+k') i) (R.fm (h1 _ (Io hi1)) (h2 _ (Io hi2)));exact lJ (.v (sl ha (yC (VU hi1)))<| .v (Wv I)<| .v (sl I.ar (yC (VU hi2)))<| .q (R.ti hd (h1 _ (Io hi1)) (h2 _ (Io hi2)) (by omega))<| .q (R.pl hd P.2 dm (by omega))<| .z (T.nx (R.add s.1 (R.mul (at' r i) (at' M.ar i)),Qa (.int i)) ⟨by rw [EV hi1 hi2,P.1],R.gb P.2 dm⟩)) rfl
 obtain ⟨q,D⟩:o=VK (r.take M.ab.length) (M.ar.take M.ab.length)/\R.D (p+p') (k+k'+M.ab.length) o:=P;subst q;rw [show r.take M.ab.length=r by rw [<-hr,Zg],show M.ar.take M.ab.length=M.ar by rw [<-I.fj,Zg]] at D e;exact ⟨z,e,D⟩
def WU {d a p k p' k':Nat}{r:List R.α} (hd:4<=d) (I:aq R h L M) (ha:h[a]?=Qa (.list (r.map R.e))) (hr:r.length=M.ab.length) (h1: ∀x∈r,R.D p k x) (h2: ∀x∈M.ar,R.D p' k' x) (hl:4*(p+p')+(k+k'+M.ab.length)<=3800) (q:Q (R.e (VK r M.ar)) h):WF P0 d 127 [.ref L.m,.ref a] h Q:=by
 exact l0 (K:=3) hd (Qa (.ref L.m)::Qa (.ref a)::nn 9) qX rfl λd' h'=>(CY h' I ha hr h1 h2 hl).elim λz zq1=>lJ (.v (nO I)<| .w (R.no)<| .c2<| .s (zq1.1)<| .q (R.nd h' zq1.2 hl)<| .z (q)) rfl
end
section
variable {R:Rg}
def Rg.add_zero (a:R.α):R.add a R.zero=a:=by rw [R.add_comm];exact R.zero_add a
def Rg.mul_zero (a:R.α):R.mul a R.zero=R.zero:=by rw [R.mul_comm];exact R.zero_mul a
def Rg.add_mul (a b c:R.α):R.mul (R.add a b) c=R.add (R.mul a c) (R.mul b c):=by rw [R.mul_comm,R.mul_add,R.mul_comm c a,R.mul_comm c b]
def Rg.swap (a b c:R.α):R.add a (R.add b c)=R.add b (R.add a c):=by rw [<-R.add_assoc,R.add_comm a b,R.add_assoc]
def qU (l:List R.α):R.α:=l.foldr R.add R.zero
theorem lE {a:R.α}{l:List R.α}:qU (a::l)=R.add a (qU l):=rfl
theorem oM {β:Type}{F G:β->R.α}{l:List β} (h: ∀x∈l,F x=G x):qU (l.map F)=qU (l.map G):=congrArg qU (ZO h)
def Dv {β:Type}{F G:β->R.α}{y:R.α}{c:β}: ∀ {l:List β},l.Nodup->c∈l->(∀x∈l,x≠c->F x=G x) ->F c=R.add y (G c) ->qU (l.map F)=R.add y (qU (l.map G)):=by
 intro l
 induction l with
 |nil=>exact λ_ h=>absurd h JB
 |cons x l ih=>
  intro nd hc he hy;have nd:=JN.mp nd;simp only [JR,JR,lE,lE];rcases JT.mp hc with rfl|hc
  ·simp only [hy,oM λz hz=>he z (.tail _ hz) λe=>nd.1 (e▸hz),R.add_assoc]
  ·simp only [ih nd.2 hc (λz hz=>he z (.tail _ hz)) hy,he x (.head _) λe=>nd.1 (e▸hc),R.swap]
def kZ:List R.α->(Nat->R.α) ->Nat->R.α
 | [],_,_=>R.zero
 |x::r,b,o=>R.add (R.mul x (b o)) (kZ r b (o+1))
def m7 {n:Nat}{b:Nat->R.α}: ∀ {o:Nat},kZ (l6 R n) b o=R.zero:=by
 delta l6
 induction n with
 |zero=>intro o;rfl
 |succ n ih=>
  intro o;show R.add (R.mul R.zero (b o)) (kZ (JU n R.zero) b (o+1))=_;rw [ih,R.zero_mul,R.zero_add]
def Uq {b:Nat->R.α}{x:R.α}: ∀ {r:List R.α}{s o:Nat},s<r.length->kZ (nP r s x) b o=R.add (R.mul x (b (o+s))) (kZ r b o):=by
 intro r
 induction r with
 |nil=>exact λh=>absurd h (Zh _)
 |cons y r ih=>
  intro s o hs;cases s with
  |zero=>
   show R.add (R.mul (R.add y x) (b o)) (kZ r b (o+1))=R.add (R.mul x (b o)) (R.add (R.mul y (b o)) (kZ r b (o+1)));rw [R.add_mul,R.add_assoc,R.swap]
  |succ s=>
   have:=ih (s:=s) (o:=o+1) (Z4 hs)
   show R.add (R.mul y (b o)) (kZ (nP r s x) b (o+1))=R.add (R.mul x (b (o+(s+1)))) (R.add (R.mul y (b o)) (kZ r b (o+1)));rw [this,R.swap,show o+1+s=o+(s+1) by lia]
def yF {r:List R.α}{b:Nat->R.α}{s:Nat} (hs:s<r.length):kZ (r.drop s) b s=R.add (R.mul r[s] (b s)) (kZ (r.drop (s+1)) b (s+1)):=by
 rw [Kg hs];rfl
def EL {l:List (R.α×R.α)}{a b:R.α}:l.foldl (λo p=>R.add o (R.mul p.1 p.2)) (R.add a b)=R.add a (l.foldl (λo p=>R.add o (R.mul p.1 p.2)) b):=by
 induction l generalizing b with
 |nil=>rfl
 |cons p l ih=>rw [Yo,Yo,R.add_assoc,ih]
def Ah {r e:List R.α}{o:Nat}{b:Nat->R.α} (hl:r.length=e.length) (hb: ∀ (s:Nat) x,e[s]?=Qa x->b (o+s)=x):VK r e=kZ r b o:=by
 delta VK
 induction r generalizing e o with
 |nil=>rfl
 |cons x r ih=>
  cases e with
  |nil=>exact Nat.noConfusion hl
  |cons y e=>
   simp only [Yn,Yo];show (r.zip e).foldl _ (R.add R.zero (R.mul x y))=R.add (R.mul x (b o)) (kZ r b (o+1));simp only [R.add_comm R.zero,EL,ih (o:=o+1) (ZQ.inj hl) λs z hz=>by rw [Ya];exact hb (s+1) z hz,show b o=y from hb 0 y rfl]
def cells (n m:Nat):List (Nat×Nat):=(JW (n+1)).flatMap λi=>(JW (m+1)).map λj=>(i,j)
def uN {n m i j:Nat}:(i,j)∈cells n m ↔ i<=n/\j<=m:=by
 delta cells;simp only [List.mem_flatMap,ZL,JO,qa6.injEq]
 constructor
 ·rintro ⟨a,ha,b,hb,rfl,rfl⟩;exact ⟨Ze ha,Ze hb⟩
 ·rintro ⟨h1,h2⟩;exact ⟨i,JX h1,j,JX h2,rfl,rfl⟩
def Lh {n m:Nat}:(cells n m).Nodup:=by
 delta cells;refine List.pairwise_flatMap.mpr ⟨λi _=>?_,List.Pairwise.imp ?_ (Xb (n:=n+1))⟩
 ·exact List.pairwise_map.mpr (List.Pairwise.imp (λhab e=>hab (qa6.inj e).2) (Xb (n:=m+1)))
 ·intro a b hab x hx y hy e
  obtain ⟨j,_,rfl⟩:=JO.mp hx;obtain ⟨j',_,rfl⟩:=JO.mp hy;exact hab (qa6.inj e).1
def done (i j:Nat) (c:Nat×Nat):Prop:=c.1<i\/(c.1=i/\c.2<j)
section
variable {T:qv}{cs:List T.κ}{dn dn':T.κ->Prop}{B:T.κ->Nat->R.α}{V:T.κ->List R.α}
def sU (cs:List T.κ) (dn:T.κ->Prop) (B:T.κ->Nat->R.α) (V:T.κ->List R.α):R.α:=qU (cs.map λc=> @ite _ (dn c) (Classical.propDecidable _) R.zero (kZ (V c) (B c) 0))
def Ef (e: ∀c∈cs,dn c ↔ dn' c):sU cs dn B V=sU cs dn' B V:=by
 refine oM λc hc=>?_;by_cases h:dn c
 ·rw [if_pos h,if_pos ((e c hc).mp h)]
 ·rw [if_neg h,if_neg λq=>h ((e c hc).mpr q)]
def Ub {k:T.κ} (nd:cs.Nodup) (hk:k∈cs) (h0: ¬dn k) (h1: ∀c,dn' c ↔ dn c\/c=k):sU cs dn B V=R.add (kZ (V k) (B k) 0) (sU cs dn' B V):=by
 refine Dv (c:=k) nd hk (λc _ hc=>?_) ?_
 ·by_cases h:dn c
  ·rw [if_pos h,if_pos ((h1 c).mpr (.inl h))]
  ·rw [if_neg h,if_neg λq=>((h1 c).mp q).elim h hc]
 ·rw [if_neg h0,if_pos ((h1 k).mpr (.inr rfl)),R.add_zero]
def xY {k:T.κ}{s:Nat}{x:R.α} (nd:cs.Nodup) (hk:k∈cs) (hn: ¬dn k) (hs:s<(V k).length):sU cs dn B (dj V k (nP (V k) s x))=R.add (R.mul x (B k s)) (sU cs dn B V):=by
 refine Dv (c:=k) nd hk (λc _ hc=>?_) ?_
 ·by_cases h:dn c
  ·rw [if_pos h,if_pos h]
  ·rw [if_neg h,if_neg h,kU hc]
 ·rw [if_neg hn,if_neg hn,kO,Uq hs,Z3]
def Uc {k:T.κ}{r:List R.α} (hn:dn k):sU cs dn B (dj V k r)=sU cs dn B V:=by
 refine oM λc _=>?_;by_cases h:dn c
 ·rw [if_pos h,if_pos h]
 ·rw [if_neg h,if_neg h,kU λq:c=k=>h (by rw [q];exact hn)]
def GJ {β:Type} (l:List β):qU (l.map λ_=>R.zero)=R.zero:=by
 induction l with
 |nil=>rfl
 |cons x l ih=>rw [JR,lE,ih,R.zero_add]
def uI (h: ∀c∈cs,¬dn c->kZ (V c) (B c) 0=R.zero):sU cs dn B V=R.zero:=by
 refine (oM λc hc=>?_).trans (GJ cs);by_cases hd:dn c
 ·exact (if_pos hd)
 ·rw [if_neg hd,h c hc hd]
end
def nq (n m:Nat) (B:Nat->Nat->Nat->R.α) (i j:Nat) (V:Nat×Nat->List R.α):R.α:=sU (T:=mI) (cells n m) (done i j) (λc=>B c.1 c.2) V
variable {n m:Nat}{B:Nat->Nat->Nat->R.α}{V:Nat×Nat->List R.α}
theorem Bz {i j:Nat} (hi:i<=n) (hj:j<=m):nq n m B i j V=R.add (kZ (V (i,j)) (B i j) 0) (nq n m B i (j+1) V):=
 Ub (T:=mI) (k:=(i,j)) (B:=λc=>B c.1 c.2) Lh (uN.mpr ⟨hi,hj⟩) (by unfold done;simp) λc=>by
  delta done
  constructor
  ·rintro (h|h)
   ·exact .inl (.inl h)
   ·exact (KW (Ze h.2)).elim (λe=> .inl (.inr ⟨h.1,e⟩)) λe=> .inr (qbn h.1 e)
  ·rintro ((h|h)|rfl)
   ·exact .inl h
   ·exact .inr ⟨h.1,ZJ h.2⟩
   ·exact .inr ⟨rfl,J0 _⟩
def UQ {i:Nat}:nq n m B i (m+1) V=nq n m B (i+1) 0 V:=by
 refine Ef (T:=mI) λc hc=>?_
 have:=uN.mp hc
 exact ⟨λq=> .inl (q.elim ZJ λq=>JX (JM q.1)),λq=>q.elim (λq=>(KW (Ze q)).imp id λe=>⟨e,JX this.2⟩) λq=>absurd q.2 (Zh _)⟩
theorem Lc {i j a b s:Nat}{x:R.α} (ha:a<=n) (hb:b<=m) (hn: ¬done i j (a,b)) (hs:s<(V (a,b)).length):nq n m B i j (dj (T:=mI) V (a,b) (nP (V (a,b)) s x))=R.add (R.mul x (B a b s)) (nq n m B i j V):=
 xY (T:=mI) (k:=(a,b)) (B:=λc=>B c.1 c.2) Lh (uN.mpr ⟨ha,hb⟩) hn hs
theorem BA {i j a b:Nat}{r:List R.α} (hn:done i j (a,b)):nq n m B i j (dj (T:=mI) V (a,b) r)=nq n m B i j V:=Uc (T:=mI) (k:=(a,b)) hn
theorem By {i j N:Nat} (h: ∀a b,V (a,b)=l6 R N):nq n m B i j V=R.zero:=uI (T:=mI) λc _ _=>by rw [h,m7]
theorem DP:nq n m B (n+1) 0 V=R.zero:=uI (T:=mI) λc hc hd=>absurd (.inl (JX (uN.mp hc).1)) hd
end
section
variable {R:Rg}{d:Nat}{h h0:MH}{Q:aa->MH->Prop}{L:Ly}{M:Mc R.α}
def fb (u l:List Nat) (i j:Nat) (a:Ar R.α):Bool:=!a.ft && (nf u i a.up && nf l j a.lo)
def Vh (B:Nat->Nat->Nat->R.α) (u l:List Nat) (i j:Nat) (xs:List (Ar R.α)):R.α:=qU (xs.map λa=>bif fb u l i j a then R.mul a.w (B (i+a.up.length) (j+a.lo.length) a.t) else R.zero)
def xP (M:Mc R.α) (B:Nat->Nat->Nat->R.α) (u l:List Nat) (i j s:Nat):R.α:=R.add (if i=u.length/\j=l.length then fw M s else R.zero) (Vh B u l i j (bx M s))
theorem Ga {u s:List Nat}{i:Nat} (hs:fc s) (h:nf u i s=Qf):i<=u.length->i+s.length<=u.length/\s.length<=1:=λhi=>by
 rcases hs with rfl| ⟨c,rfl,_⟩
 ·exact ⟨by simpa using hi,by decide⟩
 ·refine ⟨?_,JA _⟩
  by_cases he:i=u.length
  ·subst he
   delta nf at h;rw [YE (JA _),XU (Zw _)] at h;delta oh at h;rw [Zg,Ke] at h;exact JI h
  ·exact Za (Kc hi he)
def zN {a:Ar R.α} (h:a.ft=Qb):0<a.up.length+a.lo.length:=by
 delta Ar.ft at h;obtain ⟨up,lo,w,t⟩:=a;cases up with
 |cons _ _=>show 0<_+1+_;exact qaX _ (ZV _)
 |nil=>
  cases lo with
  |cons _ _=>show 0<_+(_+1);exact Nat.lt_add_left _ (ZV _)
  |nil=>exact JI h
def EZ (R:Rg) (i j c p k:Nat) (V:Nat×Nat->List R.α):Prop:= ∀a b,¬done i j (a,b) -> ∀x∈V (a,b),R.D (p*(a+b+1)) (k*(a+b+1)+c) x
theorem Ls {r:List R.α}{s:Nat}{x y:R.α} (hy:y∈nP r s x):y∈r\/y=R.add (r[s]?.getD R.zero) x:=Kj hy
def E8 {B:Nat->Nat->Nat->R.α}{u l:List Nat}{i j q:Nat}{xs:List (Ar R.α)}{a:Ar R.α} (ha:xs[q]?=Qa a):Vh B u l i j (xs.drop q)=R.add (bif fb u l i j a then R.mul a.w (B (i+a.up.length) (j+a.lo.length) a.t) else R.zero) (Vh B u l i j (xs.drop (q+1))):=by
 refine (JD.mp ha).elim λhq zq6=>?_;refine eqE zq6 ?_;simp only [Kg hq];rfl
structure CS (R:Rg) where
 g:MH
 Ad:Nat×Nat->Option Nat
 V:Nat×Nat->List R.α
 c:Nat
 a:Option aa:=Qd
 b:Option aa:=Qd
 d:Option aa:=Qd
 e:Option aa:=Qd
 f:Option aa:=Qd
 k:Option aa:=Qd
structure WX (R:Rg) where
 h:MH
 L:Ly
 M:Mc R.α
 u:List Nat
 l:List Nat
 D:Nat
 ov:aa
 p:Nat
 k:Nat
 p1:Nat
 k1:Nat
 pS:Nat
 kS:Nat
 B:Nat->Nat->Nat->R.α
 W:R.α
structure nh (X:WX R):Prop where
 I:aq R X.h X.L X.M
 G:mL X.M X.p1 X.k1
 pp:X.p1+X.pS<=X.p
 kk:X.k1+X.kS<=X.k
 cl:1+(X.u.length+1)*(X.l.length+1)*(X.M.bq+1)<100000
 bd:4*(X.p*(X.u.length+X.l.length+2))+(X.k*(X.u.length+X.l.length+2)+(1+(X.u.length+1)*(X.l.length+1)*(X.M.bq+1)+X.M.ab.length))<=3800
def gu (X:WX R) (a b d e f k:Option aa):Internal.Frame:=Qa (.ref X.L.m)::Qa (.str X.u)::Qa (.str X.l)::Qa (.ah (112+R.i))::Qa X.ov::Qa (.ref X.D)::a::b::d::e::f::k::nn 6
abbrev vN (n:Nat):Option aa:=Qa (.int n)
abbrev vR (n:Nat):Option aa:=Qa (.ref n)
structure y0 (X:WX R) (i j aR c0:Nat) (row:List R.α) (F:R.α):Prop where
 O:nh X
 hi:i<=X.u.length
 hj:j<=X.l.length
 cc:c0+X.M.bq<=1+(X.u.length+1)*(X.l.length+1)*(X.M.bq+1)
 len:row.length=X.M.ab.length
 dg: ∀x∈row,R.D (X.p*(i+j+1)+X.pS) (X.k*(i+j+1)+X.kS+c0) x
structure CP (X:WX R) (i j aR c0:Nat) (row:List R.α) (n:Nat) (e:R.α) (s:CS R):Prop where
 rw':RW mI R X.h s.g X.D X.M.ab.length s.c s.Ad s.V
 lo:c0<=s.c
 hi:s.c<=c0+n
 dg:EZ R i (j+1) s.c X.p X.k s.V
 vr:s.V (i,j)=row
 ad:s.Ad (i,j)=Qa aR
 w:R.add (nq X.u.length X.l.length X.B i (j+1) s.V) e=X.W
variable {X:WX R}{i j aR c0:Nat}{row:List R.α}{F:R.α}{Rr R':Fl->Internal.Frame->MH->Prop}
def RW.up {g:MH}{D N c:Nat}{Ad:Nat×Nat->Option Nat}{V:Nat×Nat->List R.α} (S:RW mI R h g D N c Ad V) {a:Nat}{o:ae} (e:h[a]?=Qa o):g[a]?=Qa o:=by obtain ⟨t,rfl⟩:=S.pre;exact kI e
theorem p5 {p a b:Nat} (h:a<=b):p*a<=p*b:=JK _ h
structure zgu (X:WX R) (y c0 c x:Nat):Prop where
 p1:X.p*(y+1)+X.pS+X.p1<=X.p*(x+1)
 k1:X.k*(y+1)+X.kS+c0+X.k1<=X.k*(x+1)+c
 b:4*(X.p*(x+1))+(X.k*(x+1)+c)<=3800
 t:4*(X.p*(y+1)+X.pS+X.p1)+(X.k*(y+1)+X.kS+c0+X.k1)<=3800
theorem dJ (a b c d:Nat):a+b+c+d=a+(d+b)+c:=(ZK _ _ _).trans (congrArg (· +c) ((Zf _ _ _).trans (congrArg (a+ ·) (Kv _ _))))
def MK (O:nh X) {y c0 c x:Nat} (h1:x<=X.u.length+X.l.length) (hx:y<x) (h0:c0<=c) (hc:c<=1+(X.u.length+1)*(X.l.length+1)*(X.M.bq+1)):zgu X y c0 c x:=by
 have e: ∀ {p:Nat},p*(y+1)+p<=p*(x+1):=λ{p} =>by rw [<-Ku];exact p5 (Zu hx)
 have f: ∀ {p:Nat},p*(x+1)<=p*(X.u.length+X.l.length+2):=λ{p} =>p5 (Zu (Zp h1));have p1:X.p*(y+1)+X.pS+X.p1<=X.p*(x+1):=Jq (by rw [Zf,Kv X.pS];exact Jw O.pp _) e;have k1:X.k*(y+1)+X.kS+c0+X.k1<=X.k*(x+1)+c:=by
  rw [dJ];exact JL (Jq (Jw O.kk _) e) h0
 have b:4*(X.p*(x+1))+(X.k*(x+1)+c)<=3800:=Jq (JL (p5 f) (JL f (Jq hc (Jv _ _)))) O.bd;exact ⟨p1,k1,b,Jq (JL (p5 p1) k1) b⟩
abbrev Pe:List Sm:= [.ite (.gy Qf [.ao (.var 10) Lf [],.not (.call (.lit (.ah 129)) [.var 1,.var 6,.af (.var 10) ri]),.not (.call (.lit (.ah 129)) [.var 2,.var 7,.af (.var 10) rh])]) [.cont] [],.bg (.nm 11) (.az [.bj .add (.var 6) (.call (.lit (.bi 7103854)) [.af (.var 10) ri]),.bj .add (.var 7) (.call (.lit (.bi 7103854)) [.af (.var 10) rh])]),.expr (.call (.lit (.ah 126)) [.var 0,.var 5,.var 11,.af (.var 10) ly,.ao (.var 3) uW [.sub (.var 8) (.var 9),.af (.var 10) th]])]
def CP.lr {n:Nat}{e e' x:R.α}{s:CS R}{g':MH}{Ad':Nat×Nat->Option Nat}{a b t:Nat} (C:y0 X i j aR c0 row F) (P:CP X i j aR c0 row n e s) (ha:a<=X.u.length) (hb:b<=X.l.length) (ht:t<X.M.ab.length) (hn: ¬done i (j+1) (a,b)) (hD:R.D (X.p*(a+b+1)) (X.k*(a+b+1)+s.c) x)
  (S':RW mI R X.h g' X.D X.M.ab.length (s.c+1) Ad' (dj (T:=mI) s.V (a,b) (nP (s.V (a,b)) t x))) (hk: ∀z' a',s.Ad z'=Qa a'->Ad' z'=Qa a') (he:e=R.add (R.mul x (X.B a b t)) e') (z y:Option aa):CP X i j aR c0 row (n+1) e' ⟨g',Ad',dj (T:=mI) s.V (a,b) (nP (s.V (a,b)) t x),s.c+1,Qd,Qd,Qd,Qd,z,y⟩:=by
 have hl:t<(s.V (a,b)).length:=by rw [P.rw'.len];exact ht
 refine ⟨S',Zp P.lo,Zu P.hi,λa' b' hn' y hy=>?_,?_,hk _ _ P.ad,?_⟩
 ·have hy:y∈dj (T:=mI) s.V (a,b) (nP (s.V (a,b)) t x) (a',b'):=hy
  show R.D (X.p*(a'+b'+1)) (X.k*(a'+b'+1)+(s.c+1)) y;by_cases q:(a',b')=(a,b)
  ·cases q
   rw [kO] at hy;rcases Ls hy with hy|rfl
   ·exact R.ai (JA _) (Zw _) (P.dg _ _ hn' y hy)
   ·rw [Js hl]
    exact R.gb (P.dg _ _ hn' _ (ZA hl)) hD
  ·rw [kU q] at hy
   exact R.ai (JA _) (Zw _) (P.dg a' b' hn' y hy)
 ·show dj (T:=mI) s.V (a,b) (nP (s.V (a,b)) t x) (i,j)=row
  rw [kU λq:(i,j)=(a,b)=>hn (by refine eqE q ?_;exact .inr ⟨rfl,J0 _⟩)];exact P.vr
 ·rw [Lc ha hb hn hl,<-P.w,he,<-R.add_assoc,R.add_comm (R.mul _ _)]
theorem CO (hd:1<=d) (u:List Nat) (i:Nat) (s:List Nat) (h:MH):kT (aj P0 d) (.ah 129) [.str u,.int i,.str s] h=Qa (.bool (nf u i s),h):=fn rfl (OP hd ⟨rfl,rfl⟩)
def zbk {g:MH}{D N c i j s p k:Nat}{Ad:Nat×Nat->Option Nat}{V:Nat×Nat->List R.α}{x:R.α} (hd:4<=d) (I:aq R h L M) (S:RW mI R h g D N c Ad V) (hN:N=M.ab.length) (hc:c<100000) (hs:s<N) (hV: ∀y∈V (i,j),R.D p k y) (hx:R.D p k x) (hl:4*p+k<=3800):
  ∃g' Ad',kT (aj P0 d) (.ah 126) [.ref L.m,.ref D,UZ i j,.int s,R.e x] g=Qa (.none,g')/\RW mI R h g' D N (c+1) Ad' (dj (T:=mI) V (i,j) (nP (V (i,j)) s x))/\∀z' a',Ad z'=Qa a'->Ad' z'=Qa a':=by
 refine (W.get (nX (P:=P0) rfl (IF (Q:=λv g'=>v= .none/\∃Ad',RW mI R h g' D N (c+1) Ad' (dj (T:=mI) V (i,j) (nP (V (i,j)) s x))/\∀z' a',Ad z'=Qa a'->Ad' z'=Qa a') hd I S hN hc hs hV hx hl λg' Ad' S' hk _ _=>⟨rfl,Ad',S',hk⟩))).elim λv zq3=>zq3.elim λg' zq4=>?_;refine eqE zq4.2.1 ?_;exact zq4.2.2.elim λAd' zq5=>⟨g',Ad',zq4.1,zq5⟩
def Mw {s n b:Nat}{E y T e0 e1:R.α}{a:Ar R.α}{st:CS R}{z:Option aa} (hd:5<=d) (C:y0 X i j aR c0 row F) (hs:row[s]?=Qa y) (hn:n<X.M.bq) (hB:X.h[b]?=Qa (pB R a)) (gt:a.t<X.M.ab.length) (g2:fc a.up) (g3:fc a.lo) (g4:R.D X.p1 X.k1 a.w)
  (P:CP X i j aR c0 row n e0 st) (h0:e0=R.add (R.mul y (R.add (bif fb X.u X.l i j a then R.mul a.w (X.B (i+a.up.length) (j+a.lo.length) a.t) else R.zero) T)) E) (h1:e1=R.add (R.mul y T) E)
  (q1: ∀s',CP X i j aR c0 row (n+1) e1 s'->R' .nx (gu X (vN i) (vN j) (vR aR) (vN s) s'.f s'.k) s'.g) (q2: ∀s',CP X i j aR c0 row (n+1) e1 s'->R' .ct (gu X (vN i) (vN j) (vR aR) (vN s) s'.f s'.k) s'.g):
  cz (aj P0 d) Pe (gu X (vN i) (vN j) (vR aR) (vN s) (vR b) z) st.g R':=by
 have S:=P.rw';have hB:=S.up hB;have d1:1<=d:=Jq (by decide) hd;have ja:fb X.u X.l i j a=Qb->R' .ct (gu X (vN i) (vN j) (vR aR) (vN s) (vR b) z) st.g:=λhh=>by
  rw [hh,cond_false,R.zero_add,<-h1] at h0;exact q2 {st with f:=vR b,k:=z} ⟨S,P.lo,Zp P.hi,P.dg,P.vr,P.ad,h0▸P.w⟩
 refine vY a.ft (λhe=>?_) λhe=>?_
 ·exact lJ (.p (U5 d1 hB)<| .t (he)<| .t (he)<| .z (ja (by unfold fb;rw [he];rfl))) rfl
 ·refine vY (nf X.u i a.up) (λhu=>?_) λhu=>?_
  ·refine vY (nf X.l j a.lo) (λhlo=>?_) λhlo=>?_
   ·have hh:fb X.u X.l i j a=true:=by unfold fb;rw [he,hu,hlo];rfl
    rw [hh,cond_true,R.mul_add,R.add_assoc,<-h1,<-R.mul_assoc] at h0;have f1:=(Ga g2 hu C.hi).1;have f3:=(Ga g3 hlo C.hj).1;have nds: ¬done i (j+1) (i+a.up.length,j+a.lo.length):=λq=>q.elim (ZE (Jv _ _)) λq=>J8 0 (YG (zN he) (congr (congrArg _ (qaB (q.1:i+a.up.length=i+0))) (qaf (Ze (Nat.lt_of_add_lt_add_left q.2)))));have hc:st.c<c0+X.M.bq:=Jx P.hi (ZI hn _);have T1:=MK C.O (y:=i+j) (c0:=c0) (c:=st.c) (x:=i+a.up.length+(j+a.lo.length)) (JL f1 f3) (YG (Kb (zN he)) (Xf i j a.up.length a.lo.length)) P.lo (Jq (JQ hc) C.cc);have hxd:=C.dg y (Ju hs);have hRa:=S.row (i,j) aR P.ad;rw [P.vr] at hRa;refine (zbk (d:=d) (i:=i+a.up.length) (j:=j+a.lo.length) (s:=a.t) (x:=R.mul y a.w) (Jq (by decide) hd) C.O.I S rfl (Jy hc (Jq C.cc (JQ C.O.cl))) gt (P.dg _ _ nds) (R.ai T1.p1 T1.k1 (R.fm hxd g4)) T1.b).elim λg' zq1=>zq1.elim λAd' zq2=>?_;exact lJ (.p (U5 d1 hB)<| .f (he)<| .v (vt hB)<| .q (CO d1 X.u i a.up)<| .c<| .f (nT hu)<| .v (wy hB)<| .q (CO d1 X.l j a.lo)<| .c<| .f (nT hlo)<| .v (vt hB)<| .c2<| .v (wy hB)<| .c2<| .v (qr hB)<| .v (sl hRa (yC hs))<| .v (a5 hB)<| .q (R.ti (Jq (by decide) hd) hxd g4 T1.t)<| .p (zq2.1)<| .z (q1 _ (P.lr C f1 f3 gt nds (R.ai T1.p1 T1.k1 (R.fm hxd g4)) zq2.2.1 zq2.2.2 h0 (vR b) (Qa (UZ (i+a.up.length) (j+a.lo.length)))))) (by kernel_rfl)
   ·exact lJ (.p (U5 d1 hB)<| .f (he)<| .v (vt hB)<| .q (CO d1 X.u i a.up)<| .c<| .f (nT hu)<| .v (wy hB)<| .q (CO d1 X.l j a.lo)<| .c<| .t (nF hlo)<| .z (ja (by unfold fb;rw [hlo,Xv,Xv]))) rfl
  ·exact lJ (.p (U5 d1 hB)<| .f (he)<| .v (vt hB)<| .q (CO d1 X.u i a.up)<| .c<| .t (nF hu)<| .t (nF hu)<| .z (ja (by unfold fb;rw [hu,Xr,Xv]))) rfl
end
section
variable {R:Rg}{d:Nat}{h h0:MH}{Q:aa->MH->Prop}{L:Ly}{M:Mc R.α}{X:WX R}{i j aR c0:Nat}{row:List R.α}{F:R.α}{Rr R':Fl->Internal.Frame->MH->Prop}
def Wj (M:Mc R.α):Prop:=(M.ab.any λr=>r.any Ar.ft)=Qb
def sE {r:List R.α}{b b':Nat->R.α}{o:Nat} (h: ∀s,o<=s->s<o+r.length->b s=b' s):kZ r b o=kZ r b' o:=by
 induction r generalizing o with
 |nil=>rfl
 |cons x r ih=>
  show R.add (R.mul x (b o)) (kZ r b (o+1))=R.add (R.mul x (b' o)) (kZ r b' (o+1));rw [h o (JA _) (by rw [ZC];exact Kb (ZV _)),ih λs h1 h2=>h s (JQ (KA h1)) (by rw [ZC];lia)]
def LS {r:List R.α}{b b':Nat->R.α}{o:Nat}:kZ r (λs=>R.add (b s) (b' s)) o=R.add (kZ r b o) (kZ r b' o):=by
 induction r generalizing o with
 |nil=>exact (R.zero_add _).symm
 |cons x r ih=>
  show R.add (R.mul x (R.add (b o) (b' o))) (kZ r _ (o+1))=R.add (R.add (R.mul x (b o)) (kZ r b (o+1))) (R.add (R.mul x (b' o)) (kZ r b' (o+1)));simp only [ih,R.mul_add,R.add_assoc,R.add_assoc]
  congr 1
  rw [R.swap]
def yE {r:List R.α}{o:Nat}:kZ r (λ_=>R.zero) o=R.zero:=by
 induction r generalizing o with
 |nil=>rfl
 |cons x r ih=>
  show R.add (R.mul x R.zero) (kZ r _ (o+1))=_;rw [ih,R.mul_zero,R.zero_add]
abbrev yl:List Sm:= [.ite (.ba .eq (.sub (.var 8) (.var 9)) (.af (.var 3) nW)) [.cont] [],.fo [10] Qb (.sub (.af (.var 0) qH) (.var 9)) Pe]
abbrev IK (X:WX R) (i j:Nat):Nat->R.α:=λs=>Vh X.B X.u X.l i j (bx X.M s)
def zbF {s n0 r:Nat}{as:List Nat}{xs:List (Ar R.α)}{y E e0:R.α}{st:CS R} (hd:5<=d) (C:y0 X i j aR c0 row F) (hs:row[s]?=Qa y) (hm:xs∈X.M.ab) (hr:(X.L.bc.map aa.ref)[s]?=Qa (.ref r)) (H:IM R X.h r as xs) (hn:n0+xs.length<=X.M.bq) (P:CP X i j aR c0 row n0 e0 st) (h0:e0=R.add (R.mul y (Vh X.B X.u X.l i j xs)) E):
  ∃s',CP X i j aR c0 row (n0+xs.length) E s'/\exec (aj P0 d) (.fo [10] Qb (.sub (.af (.var 0) lV) (.var 9)) Pe) (gu X (vN i) (vN j) (vR aR) (vN s) st.f st.k) st.g=Qa ((.nx,gu X (vN i) (vN j) (vR aR) (vN s) s'.f s'.k),s'.g):=by
 subst h0;obtain ⟨s',P',e⟩:=sg (c:=aj P0 d) (tg:=[10]) (many:=Qb) (a:=r) (e:=.sub (.af (.var 0) lV) (.var 9)) (b:=Pe) (vs:=as.map .ref) (λs':CS R=>gu X (vN i) (vN j) (vR aR) (vN s) s'.f s'.k) CS.g (λq=>CP X i j aR c0 row (n0+q) (R.add (R.mul y (Vh X.B X.u X.l i j (xs.drop q))) E)) st
  (H.n▸Jq (Jq (JE _ _) hn) (Jq C.O.G.c (by decide))) rfl (λq s' P=>P.rw'.up H.l) (by exact lR (.v (pI (P.rw'.ql C.O.I))<| .v (sl (P.rw'.ql C.O.I).ab hr)<| .z (cv (.ref r) st.g)) (by kernel_rfl)) P (λq v s' R1 _ hv P1 T1=>by
   refine xEEAA (H.a q v hv) λb x dh hx hb=>?_;refine eqB dh ?_;have ga:=C.O.G.fv _ hm x (Ju hx);exact mT (Mw hd C hs (n:=n0+q) (Jy (ZI (kP hx) _) hn) hb ga.1 ga.2.1 ga.2.2.1 ga.2.2.2.1 P1 (by rw [E8 hx]) rfl T1.nx T1.ct))
 rw [H.n,Ke,show Vh X.B X.u X.l i j []=R.zero from rfl,R.mul_zero,R.zero_add] at P';exact ⟨s',P',e⟩
def Rt {s n0 n1:Nat}{e0 e1:R.α}{st:CS R} (hd:5<=d) (C:y0 X i j aR c0 row F) (hs:s<X.M.ab.length) (P:CP X i j aR c0 row n0 e0 st) (hn:n1=n0+(bx X.M s).length) (hc:n1<=X.M.bq) (h0:e0=R.add (R.mul (at' row s) (IK X i j s)) e1)
  (q1: ∀s',CP X i j aR c0 row n1 e1 s'->R' .nx (gu X (vN i) (vN j) (vR aR) s'.e s'.f s'.k) s'.g) (q2: ∀s',CP X i j aR c0 row n1 e1 s'->R' .ct (gu X (vN i) (vN j) (vR aR) s'.e s'.f s'.k) s'.g):
  cz (aj P0 d) yl (gu X (vN i) (vN j) (vR aR) (vN s) st.f st.k) st.g R':=by
 have hsr:=VU (l:=row) (s:=s) (by rw [C.len];exact hs);have hRa:=P.rw'.row (i,j) aR P.ad;rw [P.vr] at hRa;cases R.gq (at' row s) R.zero with
 |isTrue hz=>
  rw [hz,R.zero_mul,R.zero_add] at h0;have P':CP X i j aR c0 row n1 e1 {st with e:=vN s}:=⟨P.rw',P.lo,hn▸Jq P.hi (Jw (Jv _ _) _),P.dg,P.vr,P.ad,h0▸P.w⟩;exact lJ (.v (sl hRa (yC hsr))<| .w (R.no)<| .k (R.qe (at' row s) R.zero)<| .t (R.yes hz)<| .z (q2 _ P')) rfl
 |isFalse hz=>
  refine (C.O.I.nj hs).elim λr zq3=>zq3.elim λas zq4=>?_;refine xEA (zbF hd C hsr zq4.2.2 zq4.1 zq4.2.1 (hn▸hc) P h0) λs' P' e=>?_;have N:CP X i j aR c0 row n1 e1 {s' with e:=vN s}:=by refine eqB hn ?_;exact ⟨P'.rw',P'.lo,P'.hi,P'.dg,P'.vr,P'.ad,P'.w⟩
  exact lJ (.v (sl hRa (yC hsr))<| .w (R.no)<| .k (R.qe (at' row s) R.zero)<| .f (R.not hz)<| .s (e)<| .z (q1 _ N)) rfl
def Ag {r:List R.α}{b:Nat->R.α}{s:Nat} (hs:s<r.length):kZ (r.drop s) b s=R.add (R.mul (at' r s) (b s)) (kZ (r.drop (s+1)) b (s+1)):=by
 rw [yF hs];unfold at';rw [Js hs];rfl
def zdM {st:CS R}{e0:R.α} (hd:5<=d) (C:y0 X i j aR c0 row F) (P:CP X i j aR c0 row 0 e0 st) (h0:e0=R.add (kZ row (IK X i j) 0) F):
  ∃s',CP X i j aR c0 row X.M.bq F s'/\exec (aj P0 d) (.fo [9] Qb (.call (.lit (.ty 491260897125)) [.ao (.var 0) 1936292453 []]) yl) (gu X (vN i) (vN j) (vR aR) st.e st.f st.k) st.g=Qa ((.nx,gu X (vN i) (vN j) (vR aR) s'.e s'.f s'.k),s'.g):=by
 subst h0;have I:=P.rw'.ql C.O.I;obtain ⟨s',P',e⟩:=pa (c:=aj P0 d) (x:=9) (n:=X.M.ab.length) (e:=.call (.lit (.ty 491260897125)) [.ao (.var 0) 1936292453 []]) (b:=yl) (λs':CS R=>gu X (vN i) (vN j) (vR aR) s'.e s'.f s'.k) CS.g (λs=>CP X i j aR c0 row (qP X.M s) (R.add (kZ (row.drop s) (IK X i j) s) F)) st
  (Jq I.bh (by decide)) rfl (by exact lR (.p (m9 (Jq (by decide) hd) I)<| .c<| .z (cv (.gf X.M.ab.length) st.g)) (by kernel_rfl)) P (λs s' R1 _ hs P1 T1=>Rt hd C hs P1 (W4 hs) (W3 C.O.I _) (by rw [Ag (by rw [C.len];exact hs),R.add_assoc]) T1.nx T1.ct)
 have e1:qP X.M X.M.ab.length=X.M.bq:=by unfold qP;rw [Zg,I.ct]
 have e2:row.drop X.M.ab.length= []:=by rw [<-C.len,Ke]
 rw [e1,e2,show kZ [] (IK X i j) X.M.ab.length=R.zero from rfl,R.zero_add] at P';exact ⟨s',P',e⟩
end
section
variable {R:Rg}{d:Nat}{h h0:MH}{Q:aa->MH->Prop}{L:Ly}{M:Mc R.α}{X:WX R}{i j aR c0:Nat}{row:List R.α}{F:R.α}{Rr R':Fl->Internal.Frame->MH->Prop}
structure Gr (X:WX R):Prop where
 r:X.ov= .none\/∃a,X.ov= .ref a
 no:X.ov= .none-> ∀i j s,i<=X.u.length->j<=X.l.length->s<X.M.ab.length->X.B i j s=xP X.M X.B X.u X.l i j s
 so: ∀aT,X.ov= .ref aT-> ∀ {d P K aR:Nat}{g:MH}{row:List R.α}{Q:aa->MH->Prop},5<=d->(∃t,g=X.h++t) ->g[aR]?=Qa (.list (row.map R.e)) ->row.length=X.M.ab.length->(∀x∈row,R.D P K x) ->4*(P+X.pS)+(K+X.kS)<=3800->
  (∀t a row',g.length<=a->(g++t)[a]?=Qa (.list (row'.map R.e)) ->row'.length=X.M.ab.length->(∀x∈row',R.D (P+X.pS) (K+X.kS) x) ->(∀i j,i<=X.u.length->j<=X.l.length->kZ row (X.B i j) 0=kZ row' (xP X.M X.B X.u X.l i j) 0) ->Q (.ref a) (g++t)) ->
  WF P0 d 132 [.ah (112+R.i),.ref aR,.ref aT] g Q
abbrev Vf (X:WX R) (i j:Nat):Nat->R.α:=λs=>if i=X.u.length/\j=X.l.length then fw X.M s else R.zero
structure PS (X:WX R) (i j:Nat) (s:CS R):Prop where
 rw':RW mI R X.h s.g X.D X.M.ab.length s.c s.Ad s.V
 hc:s.c<=1+(i*(X.l.length+1)+j)*(X.M.bq+1)
 dg:EZ R i j s.c X.p X.k s.V
 w:i<X.u.length\/(i=X.u.length/\j<=X.l.length) ->nq X.u.length X.l.length X.B i j s.V=X.W
 fe:(i=X.u.length/\j=X.l.length+1)\/i=X.u.length+1->kZ (s.V (X.u.length,X.l.length)) (fw X.M) 0=X.W/\∀x∈s.V (X.u.length,X.l.length),R.D (X.p*(X.u.length+X.l.length+1)+X.pS) (X.k*(X.u.length+X.l.length+1)+X.kS+s.c) x
theorem zaZ {c Y n B:Nat} (h:c<=1+Y+1) (h2:Y+(n+1)<=B):c+n<=1+B:=
 Jq (JZ h n) (Jq (JM ((Zf (1+Y) 1 n).trans ((Zf 1 Y _).trans (congrArg (λz=>1+(Y+z)) (Kv 1 n))))) (Jw h2 1))
def Gg (O:nh X) {i j:Nat} (h1:i<=X.u.length) (h2:j<=X.l.length):(i*(X.l.length+1)+j)*(X.M.bq+1)+(X.M.bq+1)<=(X.u.length+1)*(X.l.length+1)*(X.M.bq+1):=by
 have h3:(i*(X.l.length+1)+j)+1<=(X.u.length+1)*(X.l.length+1):=by
  rw [K9 X.u.length];exact (JL (Zr _ h1:i*(X.l.length+1)<=X.u.length*(X.l.length+1)) (Jq (Zu h2) (JM (Z7 _).symm)):i*(X.l.length+1)+(j+1)<=_)
 have h5:=Zr (X.M.bq+1) h3;rwa [K9 _ 1,Z7] at h5
def CP.next {s:CS R} (C:y0 X i j aR c0 row (kZ row (Vf X i j) 0)) (P:CP X i j aR c0 row X.M.bq (kZ row (Vf X i j) 0) s) (h0:c0<=1+(i*(X.l.length+1)+j)*(X.M.bq+1)+1):PS X i (j+1) s:=by
 have hi:=P.hi;refine ⟨P.rw',by rw [show i*(X.l.length+1)+(j+1)=(i*(X.l.length+1)+j)+1 from rfl,K9 _ 1,Z7];exact Jq P.hi (zaZ h0 (JA _)),P.dg,λhlt=>?_,λhf=>?_⟩
 ·have: ¬(i=X.u.length/\j=X.l.length):=λe=>hlt.elim (λh=>Z2 h e.1) λh=>Z2 h.2 e.2
  have hw:=P.w;rw [show Vf X i j=λ_=>R.zero from funext λ_=>if_neg this,yE,R.add_zero] at hw;exact hw
 ·have hh:i=X.u.length/\j=X.l.length:=hf.elim (λh=>⟨h.1,ZQ.inj h.2⟩) λh=>absurd (h▸C.hi) (Xh _)
  have hw:=P.w;rw [show Vf X i j=fw X.M from funext λ_=>if_pos hh] at hw;obtain rfl:=hh.1;obtain rfl:=hh.2;rw [UQ,DP,R.zero_add] at hw;rw [P.vr];exact ⟨hw,λx hx=>R.ai (JA _) (Jw P.lo _) (C.dg x hx)⟩
abbrev Us:List Sm:= [.bg (.nm 8) (.ao (.var 5) 6776180 [.az [.var 6,.var 7]]),.ite (.ba .is (.var 8) (.lit .none)) [.cont] [],.ite (.ba .dw (.var 4) (.lit .none)) [.bg (.nm 8) (.call (.lit (.ah 132)) [.var 3,.var 8,.var 4]),.bg (.sb (.var 5) (.az [.var 6,.var 7])) (.var 8)] [],.fo [9] Qb (.call (.lit (.ty jj)) [.ao (.var 0) p8 []]) yl]
def E7 {V:List R.α}:kZ V (xP X.M X.B X.u X.l i j) 0=R.add (kZ V (IK X i j) 0) (kZ V (Vf X i j) 0):=by
 rw [R.add_comm,<-LS];rfl
def CN (z:Cx) {D:Nat}{c:Nat}{g:MH}{N:Nat}{Ad:Nat×Nat->Option Nat}{V:Nat×Nat->List R.α} (S:RW mI R h g D N c Ad V) (i j:Nat) {v:aa} (hv:((Ad (i,j)).map aa.ref).getD .none=v):l5 z (.ref D) ma [UZ i j] g g=Qa (v,g):=by
 exact S.dd.elim λep zq13=>zq13.elim λes zq14=>W.eq (Mh zq14.1 zq14.1 (rC (T:=mI) (k:=(i,j)) zq14.2.1) ⟨(congrArg (λo=>o.getD .none) (zq14.2.2.2 (i,j))).trans hv,rfl⟩)
theorem Ge {c c' p k:Nat}{V:Nat×Nat->List R.α} (hc:c<=c') (h:EZ R i j c p k V):EZ R i (j+1) c' p k V:=λa b hn x hx=>R.ai (JA _) (Jw hc _) (h a b (λq=>hn (q.elim .inl λq=> .inr ⟨q.1,ZJ q.2⟩)) x hx)
abbrev zdt:Sm:= .fo [9] Qb (.call (.lit (.ty 491260897125)) [.ao (.var 0) 1936292453 []]) yl
def Bl:1+(i*(X.l.length+1)+(j+1))*(X.M.bq+1)=1+(i*(X.l.length+1)+j)*(X.M.bq+1)+(X.M.bq+1):=by
 rw [show i*(X.l.length+1)+(j+1)=(i*(X.l.length+1)+j)+1 from rfl,K9 _ 1,Z7,Zf]
def Al {a:Nat}{st:CS R} (hd:5<=d) (O:nh X) (hi:i<=X.u.length) (hj:j<=X.l.length) (S:RW mI R X.h st.g X.D X.M.ab.length st.c st.Ad st.V) (hA:st.Ad (i,j)=Qa a) (dg:EZ R i (j+1) st.c X.p X.k st.V) (hD: ∀x∈st.V (i,j),R.D (X.p*(i+j+1)+X.pS) (X.k*(i+j+1)+X.kS+st.c) x)
  (hc:st.c<=1+(i*(X.l.length+1)+j)*(X.M.bq+1)+1) (hw:R.add (nq X.u.length X.l.length X.B i (j+1) st.V) (kZ (st.V (i,j)) (xP X.M X.B X.u X.l i j) 0)=X.W):
  ∃s',PS X i (j+1) s'/\exec (aj P0 d) zdt (gu X (vN i) (vN j) (vR a) st.e st.f st.k) st.g=Qa ((.nx,gu X (vN i) (vN j) (vR a) s'.e s'.f s'.k),s'.g):=by
 rw [E7] at hw;exact (zdM hd (⟨O,hi,hj,zaZ hc (Gg O hi hj),S.len (i,j),hD⟩:y0 X i j a st.c (st.V (i,j)) (kZ (st.V (i,j)) (Vf X i j) 0)) ⟨S,JA _,JA _,dg,rfl,hA,hw⟩ rfl).elim λs' zq12=>⟨s',zq12.1.next (⟨O,hi,hj,zaZ hc (Gg O hi hj),S.len (i,j),hD⟩:y0 X i j a st.c (st.V (i,j)) (kZ (st.V (i,j)) (Vf X i j) 0)) hc,zq12.2⟩
def iS (e:X.ov= .none) (h:MH):nG .dw X.ov .none h=Qa false:=by rw [e];rfl
def iR {a:Nat} (e:X.ov= .ref a) (h:MH):nG .dw X.ov .none h=Qa true:=by rw [e];rfl
structure IQ (X:WX R) (g t:MH) (a P K:Nat) (row row':List R.α):Prop where
 ge:g.length<=a
 at':(g++t)[a]?=Qa (.list (row'.map R.e))
 len:row'.length=X.M.ab.length
 dg: ∀x∈row',R.D (P+X.pS) (K+X.kS) x
 w: ∀i j,i<=X.u.length->j<=X.l.length->kZ row (X.B i j) 0=kZ row' (xP X.M X.B X.u X.l i j) 0
def Gr.ex (V:Gr X) {aT P K aR:Nat}{g:MH}{row:List R.α} (hov:X.ov= .ref aT) (hd:5<=d) (hp: ∃t,g=X.h++t) (hr:g[aR]?=Qa (.list (row.map R.e))) (hl:row.length=X.M.ab.length) (hD: ∀x∈row,R.D P K x) (hb:4*(P+X.pS)+(K+X.kS)<=3800):
  ∃t a row',kT (aj P0 d) (.ah 132) [.ah (112+R.i),.ref aR,X.ov] g=Qa (.ref a,g++t)/\IQ X g t a P K row row':=by
 obtain ⟨v,g',e,t,a,row',rfl,rfl,N⟩:=W.get (nX (P:=P0) (d:=d) rfl (V.so aT hov hd hp hr hl hD hb (Q:=λv g'=> ∃t a row',v= .ref a/\g'=g++t/\IQ X g t a P K row row') λt a row' h1 h2 h3 h4 h5=>⟨t,a,row',rfl,rfl,h1,h2,h3,h4,h5⟩));exact ⟨t,a,row',by rw [hov];exact e,N⟩
abbrev iQ (st:CS R) (g:MH) (i j a:Nat) (row:List R.α):CS R:=⟨g,dj (T:=mI) st.Ad (i,j) (Qa a),dj (T:=mI) st.V (i,j) row,st.c+1,st.a,st.b,st.d,st.e,st.f,st.k⟩
def OZ (O:nh X) {c:Nat} (hi:i<=X.u.length) (hj:j<=X.l.length) (hc:c<=1+(i*(X.l.length+1)+j)*(X.M.bq+1)):4*(X.p*(i+j+1)+X.pS)+(X.k*(i+j+1)+c+X.kS)<=3800:=by
 have e3:=p5 (p:=X.p) (show i+j+1+1<=X.u.length+X.l.length+2 by exact Za (Yv (JL hi hj) (J0 _)));have e4:=p5 (p:=X.k) (show i+j+1+1<=X.u.length+X.l.length+2 by exact Za (Yv (JL hi hj) (J0 _)));rw [Ku] at e3 e4;exact Jq (JL (JK 4 (Jq (Jw (Jq (JE _ _) O.pp) _) e3)) (Jq (JM (ZK _ _ _)) (JL (Jq (Jw (Jq (JE _ _) O.kk) _) e4) (Jq hc (Jq (Jw (Jq (Jv _ _) (Gg O hi hj)) 1) (Jv _ _)))))) O.bd
section
variable {st:CS R} (hd:6<=d) (O:nh X) (hi:i<=X.u.length) (hj:j<=X.l.length) (P:PS X i j st)
include hd O hi hj P
def PS.hw:R.add (kZ (st.V (i,j)) (X.B i j) 0) (nq X.u.length X.l.length X.B i (j+1) st.V)=X.W:=by
 have hp:=P.w ((KW hi).imp id λh=>⟨h,hj⟩);rwa [Bz hi hj] at hp
theorem PS.dA: ∀x∈st.V (i,j),R.D (X.p*(i+j+1)) (X.k*(i+j+1)+st.c) x:=P.dg i j (by unfold done;simp)
def Ms (hA:st.Ad (i,j)=Qd) (q2: ∀s',PS X i (j+1) s'->R' .ct (gu X (vN i) s'.b s'.d s'.e s'.f s'.k) s'.g):cz (aj P0 d) Us (gu X (vN i) (vN j) st.d st.e st.f st.k) st.g R':=by
 have hp:=PS.hw hd O hi hj P;have hz:=P.rw'.rk (i,j) hA;rw [hz,m7,R.zero_add] at hp;have N:PS X i (j+1) {st with b:=vN j,d:=Qa .none}:=by
  refine ⟨P.rw',by rw [Bl];exact Jq P.hc (Jv _ _),Ge (JA _) P.dg,λ_=>hp,λhf=>?_⟩;have hh:i=X.u.length/\j=X.l.length:=hf.elim (λh=>⟨h.1,ZQ.inj h.2⟩) λh=>absurd (h▸hi) (Xh _);obtain rfl:=hh.1;obtain rfl:=hh.2;rw [UQ,DP] at hp;exact ⟨by show kZ (st.V _) _ _=_;rw [hz,m7];exact hp,λx hx=>R.ai (Jv _ _) (JZ (Jv _ _) _) (PS.dA hd O hi hj P x hx)⟩
 exact lJ (.p (CN (aj P0 d) P.rw' i j (v:=.none) (by rw [hA];rfl))<| .c2<| .z (q2 _ N)) rfl
def Mr (V:Gr X) {a:Nat} (hA:st.Ad (i,j)=Qa a) (hov:X.ov= .none) (q1: ∀s',PS X i (j+1) s'->R' .nx (gu X (vN i) s'.b s'.d s'.e s'.f s'.k) s'.g):cz (aj P0 d) Us (gu X (vN i) (vN j) st.d st.e st.f st.k) st.g R':=by
 have hp:=PS.hw hd O hi hj P;rw [sE λs _ h2=>V.no hov i j s hi hj (by rw [P.rw'.len,Z3] at h2;exact h2),R.add_comm] at hp;refine (Al (Jq (by decide) hd) O hi hj P.rw' hA (Ge (JA _) P.dg) (λx hx=>R.ai (Jv _ _) (JZ (Jv _ _) _) (PS.dA hd O hi hj P x hx)) (Zp P.hc) hp).elim λs' zq6=>?_;have N:PS X i (j+1) {s' with b:=vN j,d:=vR a}:=⟨zq6.1.rw',zq6.1.hc,zq6.1.dg,zq6.1.w,zq6.1.fe⟩;exact lJ (.p (CN (aj P0 d) P.rw' i j (v:=.ref a) (by rw [hA];rfl))<| .c2<| .k (iS hov)<| .c<| .s (zq6.2)<| .z (q1 _ N)) rfl
def Mq (V:Gr X) {a aT:Nat} (hA:st.Ad (i,j)=Qa a) (hov:X.ov= .ref aT) (q1: ∀s',PS X i (j+1) s'->R' .nx (gu X (vN i) s'.b s'.d s'.e s'.f s'.k) s'.g):cz (aj P0 d) Us (gu X (vN i) (vN j) st.d st.e st.f st.k) st.g R':=by
 have hp:=PS.hw hd O hi hj P;have S:=P.rw';refine (V.ex hov (Jq (by decide) hd) S.pre (S.row (i,j) a hA) (S.len (i,j)) (PS.dA hd O hi hj P) (OZ O hi hj P.hc)).elim λt zq3=>zq3.elim λb zq4=>zq4.elim λrow' zq5=>?_;refine S.dd.elim λep zq1=>zq1.elim λes zq2=>?_;rw [zq5.2.w i j hi hj,<-BA (r:=row') (a:=i) (b:=j) (i:=i) (j:=j+1) (V:=st.V) (by unfold done;simp),R.add_comm] at hp;obtain ⟨s',P',e⟩:=Al (st:=iQ st _ i j b row') (Jq (by decide) hd) O hi hj ((S.cw:RW mI R X.h (st.g++t) X.D X.M.ab.length st.c st.Ad st.V).lr (k:=(i,j)) (kI zq2.1) zq5.2.at' (Jq (by obtain ⟨t0,hg⟩:=S.pre;rw [hg,Jz];exact Jv _ _) zq5.2.ge) (λz' e=>absurd (lI (S.row z' _ e)) (ZX.mpr zq5.2.ge)) zq5.2.len (bif (kY es (UZ i j)).isSome then ep else ep.map (· +1)) (S.ep zq2.1 _)) (show dj (T:=mI) st.Ad (i,j) (Qa b) (i,j)=Qa b from kO) (λa' b' hn x hx=>by
   have hx:x∈dj (T:=mI) st.V (i,j) row' (a',b'):=hx;rw [kU (λq=>hn (by refine eqB q ?_;exact .inr ⟨rfl,J0 _⟩): ¬(a',b')=(i,j))] at hx;exact Ge (Zw _) P.dg a' b' hn x hx) (λx hx=>by
   have hx:x∈dj (T:=mI) st.V (i,j) row' (i,j):=hx;rw [kO] at hx;exact R.ai (JA _) (by show _<=_+(st.c+1);exact Jq (JM (ZK _ _ _)) (JL (JA _) (Jv _ _))) (zq5.2.dg x hx)) (Zu P.hc) (by show R.add _ (kZ (dj (T:=mI) st.V (i,j) row' (i,j)) _ 0)=_;rw [kO];exact hp)
 have N':PS X i (j+1) {s' with b:=vN j,d:=vR b}:=⟨P'.rw',P'.hc,P'.dg,P'.w,P'.fe⟩;exact lJ (.p (CN (aj P0 d) P.rw' i j (v:=.ref a) (by rw [hA];rfl))<| .c2<| .k (iR hov)<| .c<| .p (zq5.1)<| .h (AO (v:=.ref b) (kI (t:=t) zq2.1) (rC (T:=mI) (k:=(i,j)) zq2.2.1) (Jx zq2.2.2.1 (Jx P.hc (Jx (Jw (Jq (Jv _ _) (Gg O hi hj)) 1) (Zm O.cl (by decide)))):es.length<bh))<| .s (e)<| .z (q1 _ N')) (by kernel_rfl)
end
def Fw {st:CS R} (hd:6<=d) (O:nh X) (V:Gr X) (hi:i<=X.u.length) (hj:j<=X.l.length) (P:PS X i j st)
  (q1: ∀s',PS X i (j+1) s'->R' .nx (gu X (vN i) s'.b s'.d s'.e s'.f s'.k) s'.g) (q2: ∀s',PS X i (j+1) s'->R' .ct (gu X (vN i) s'.b s'.d s'.e s'.f s'.k) s'.g):
  cz (aj P0 d) Us (gu X (vN i) (vN j) st.d st.e st.f st.k) st.g R':=by
 refine DW (st.Ad (i,j)) (λhA=>?_) λa hA=>?_
 ·exact Ms hd O hi hj P hA q2
 ·exact V.r.elim (λhov=>Mr hd O hi hj P V hA hov q1) λ⟨_,hov⟩=>Mq hd O hi hj P V hA hov q1
end
section
variable {R:Rg}{d:Nat}{h h0:MH}{Q:aa->MH->Prop}{L:Ly}{M:Mc R.α}{X:WX R}{i j aR c0:Nat}{row:List R.α}{F:R.α}{Rr R':Fl->Internal.Frame->MH->Prop}
def uU (M:Mc R.α):List R.α:=(l6 R M.ab.length).set M.start M.first
def Ws (T:qv) (k0:T.κ) (h:MH) (M:Mc R.α):MH:=h++([.list [R.e R.zero],.list ((uU M).map R.e)]++ [.dict (Qa 1) [(T.v k0,aa.ref (h.length+1))]])
abbrev Um (h:MH) (M:Mc R.α):MH:=Ws mI (0,0) h M
def FW {T:qv}{k0:T.κ}{N:Nat} (hN:N=M.ab.length):RW T R h (Ws T k0 h M) (h.length+2) N 1 (dj (λ_=>Qd) k0 (Qa (h.length+1))) (dj (λ_=>l6 R N) k0 (uU M)):=by
 subst hN;delta Ws;refine ⟨⟨_,rfl⟩,Jv _ _,⟨_,_,pH,?_,JA _,λk=>?_⟩,λk k' a h1 h2=>?_,λk a h1=>?_,λk a h1=>?_,λk h1=>?_,λk=>?_,_,_,pH,List.Pairwise.cons (λ_ h=>absurd h JB) .nil⟩
 ·intro p hp;rw [JG.mp hp];exact ⟨k0,rfl⟩
 ·rw [mV,T.eq]
  by_cases e:k=k0
  ·subst e;rw [kO,decide_eq_true rfl];rfl
  ·rw [kU e,decide_eq_false λq=>e q.symm];rfl
 ·by_cases e1:k=k0
  ·by_cases e2:k'=k0
   ·exact e1.trans e2.symm
   ·rw [kU e2] at h2;exact ag h2
  ·rw [kU e1] at h1;exact ag h1
 ·by_cases e1:k=k0
  ·subst e1;rw [kO] at h1;refine mP h1 ?_;exact Jv _ _
  ·rw [kU e1] at h1;exact nomatch h1
 ·by_cases e1:k=k0
  ·subst e1;rw [kO] at h1 ⊢;refine mP h1 ?_;exact pH
  ·rw [kU e1] at h1;exact nomatch h1
 ·by_cases e1:k=k0
  ·subst e1;rw [kO] at h1;exact nomatch h1
  ·exact kU e1
 ·by_cases e1:k=k0
  ·subst e1;rw [kO];unfold uU;rw [Zb];unfold l6;rw [ZH]
  ·rw [kU e1];unfold l6;rw [ZH]
theorem FU {N:Nat} (hN:N=M.ab.length):RW mI R h (Um h M) (h.length+2) N 1 (dj (T:=mI) (λ_=>Qd) (0,0) (Qa (h.length+1))) (dj (T:=mI) (λ_=>l6 R N) (0,0) (uU M)):=FW hN
theorem FV {p k p1 k1:Nat} (G:mL M p1 k1) (hp:p1<=p) (hk:k1<=k):EZ R 0 0 1 p k (dj (T:=mI) (λ_=>l6 R M.ab.length) (0,0) (uU M)):=λa b _ x hx=>by
 by_cases e1:(a,b)=(0,0)
 ·cases e1
  rw [kO] at hx;rcases Kj hx with hx|rfl
  ·exact (Zk hx)▸(R.ai (JJ _) (JJ _) R.cj)
  ·exact R.ai (Jq hp (JM (qat p).symm)) (Zp (Jq hk (JM (qat k).symm))) G.fst
 ·rw [kU e1] at hx
  simp only [Zk hx];exact (R.ai (JJ _) (JJ _) R.cj)
def AN {n m:Nat}{B:Nat->Nat->Nat->R.α} (hs:M.start<M.ab.length):nq n m B 0 0 (dj (T:=mI) (λ_=>l6 R M.ab.length) (0,0) (uU M))=R.mul M.first (B 0 0 M.start):=by
 have e:uU M=nP (l6 R M.ab.length) M.start M.first:=by
  delta uU nP l6;rw [KI,if_pos hs];show _=qbb _ _ (R.add R.zero M.first);rw [R.zero_add]
 have zl:(l6 R M.ab.length).length=M.ab.length:=ZH ..;rw [e,Lc (V:=λ_=>l6 R M.ab.length) (JJ _) (JJ _) (by unfold done;simp) (by rw [zl];exact hs),By (λ_ _=>rfl),R.add_zero]
abbrev So:Sm:= .fo [7] Qb (.call (.lit (.ty 491260897125)) [.bj .add (.call (.lit (.bi 7103854)) [.var 2]) (.lit (.int 1))]) Us
theorem Wf (n:Nat) (g:MH):aa.gf ((n:Int)+1)= .gf (n+1:Nat)/\g=g:=⟨rfl,rfl⟩
def D8 {a b c n:Nat} (h:1+(a+1)*(b+1)*(c+1)<n):a+1<n/\b+1<n:=by
 exact ⟨Jx (Jq (ZZ (a+1) (ZV b)) (ZZ ((a+1)*(b+1)) (ZV c))) (Jx (JE _ _) h:(a+1)*(b+1)*(c+1)<n),Jx (Jq (qag (b+1) (ZV a)) (ZZ ((a+1)*(b+1)) (ZV c))) (Jx (JE _ _) h:(a+1)*(b+1)*(c+1)<n)⟩
def PS.cD {s:CS R} (P:PS X i (X.l.length+1) s):PS X (i+1) 0 {s with a:=vN i}:=by
 refine ⟨P.rw',by rw [Nat.add_zero,K9 i 1,Z7];exact P.hc,λa b hn=>P.dg a b λq=>hn ?_,λhlt=>?_,λhf=>P.fe (.inl ⟨by lia,rfl⟩)⟩
 ·exact .inl (q.elim ZJ λq=>JX (JM q.1))
 ·exact (UQ).symm.trans (P.w (.inl (hlt.elim qaS λh=>JM h.1)))
theorem zdN {st:CS R} (hd:6<=d) (O:nh X) (V:Gr X) (hi:i<=X.u.length) (P:PS X i 0 st): ∃s',PS X (i+1) 0 s'/\exec (aj P0 d) So (gu X (vN i) st.b st.d st.e st.f st.k) st.g=Qa ((.nx,gu X s'.a s'.b s'.d s'.e s'.f s'.k),s'.g):=
 (pa (c:=aj P0 d) (x:=7) (n:=X.l.length+1) (e:=.call (.lit (.ty 491260897125)) [.bj .add (.call (.lit (.bi 7103854)) [.var 2]) (.lit (.int 1))]) (b:=Us) (λs':CS R=>gu X (vN i) s'.b s'.d s'.e s'.f s'.k) CS.g (λj=>PS X i j) st (JQ (D8 O.cl).2) rfl (by exact lR (.c3<| .z (Wf X.l.length st.g)) rfl) P λj s' R1 _ hj P1 T1=>Fw hd O V hi (Ze hj) P1 T1.nx T1.ct).elim λs' q=>⟨{s' with a:=vN i},q.1.cD,q.2⟩
abbrev bR (X:WX R):CS R:=⟨Um X.h X.M,dj (T:=mI) (λ_=>Qd) (0,0) (Qa (X.h.length+1)),dj (T:=mI) (λ_=>l6 R X.M.ab.length) (0,0) (uU X.M),1,Qd,Qd,Qd,Qd,Qd,Qd⟩
def zaT {p k p' k':Nat}{b:Nat->R.α} (hb: ∀s,R.D p' k' (b s)): ∀ {r:List R.α}{o:Nat},(∀x∈r,R.D p k x) ->R.D (p+p') (k+k'+r.length) (kZ r b o):=by
 intro r
 induction r with
 |nil=>exact λ_=>R.ai (JJ _) (JJ _) R.cj
 |cons x r ih=>exact λh=>R.gb (R.ai (JA _) (Jv _ _) (R.fm (h x (.head _)) (hb _))) (ih λy hy=>h y (.tail _ hy))
def mL.c8 {M:Mc R.α}{p k:Nat} (G:mL M p k) (s:Nat):R.D p k (fw M s):=by
 delta fw;refine DW (M.ar[s]?) (λe=>?_) λx e=>?_
 ·rw [e]
  exact R.ai (JJ _) (JJ _) R.cj
 ·rw [e]
  exact G.ed x (Ju e)
abbrev zgi:Sm:= .fo [6] Qb (.call (.lit (.ty 491260897125)) [.bj .add (.call (.lit (.bi 7103854)) [.var 1]) (.lit (.int 1))]) [So]
theorem zdP (hd:6<=d) (O:nh X) (V:Gr X) (P:PS X 0 0 (bR X)): ∃s',PS X (X.u.length+1) 0 s'/\exec (aj P0 d) zgi (gu X Qd Qd Qd Qd Qd Qd) (Um X.h X.M)=Qa ((.nx,gu X s'.a s'.b s'.d s'.e s'.f s'.k),s'.g):=
 pa (c:=aj P0 d) (x:=6) (n:=X.u.length+1) (e:=.call (.lit (.ty 491260897125)) [.bj .add (.call (.lit (.bi 7103854)) [.var 1]) (.lit (.int 1))]) (b:=[So]) (λs':CS R=>gu X s'.a s'.b s'.d s'.e s'.f s'.k) CS.g (λi=>PS X i 0) (bR X) (JQ (D8 O.cl).1) rfl (by exact lR (.c3<| .z (Wf X.u.length (Um X.h X.M))) rfl) P λi s' R1 _ hi P1 T1=>by
  exact (zdN hd O V (Ze hi) P1).elim λs2 zq5=>lJ (.s (zq5.2)<| .z (T1.nx s2 zq5.1)) rfl
abbrev zdw (X:WX R):Nat:=X.k*(X.u.length+X.l.length+2)+(1+(X.u.length+1)*(X.l.length+1)*(X.M.bq+1)+X.M.ab.length)
def Gb {p k n pS kS p1 k1 c C N:Nat} (h1:p1+pS<=p) (h2:k1+kS<=k) (h3:c<=C) (h4:4*(p*(n+2))+(k*(n+2)+(C+N))<=3800):
  p*(n+1)+pS+p1<=p*(n+2)/\k*(n+1)+kS+c+k1+N<=k*(n+2)+(C+N)/\4*(p*(n+1)+pS+p1)+(k*(n+1)+kS+c+k1+N)<=3800:=by
 rw [(Ku .. :p*(n+2)=p*(n+1)+p),(Ku .. :k*(n+2)=k*(n+1)+k)] at h4 ⊢;have A1:=Jq (JM (Zf (p*(n+1)) pS p1)) (Jw (Jq (JM (Kv _ _)) h1) _);have A2:=Jq (JZ (Jq (JM (dJ (k*(n+1)) kS c k1)) (JL (Jw h2 _) h3)) N) (JM (Zf _ _ _));exact ⟨A1,A2,Jq (JL (JK 4 A1) A2) h4⟩
def zdO {s:CS R} (hd:4<=d) (O:nh X) (P:PS X (X.u.length+1) 0 s): ∃v,l5 (aj P0 d) (.ref X.D) ma [UZ X.u.length X.l.length] s.g s.g=Qa (v,s.g)/\kT (aj P0 d) (.ah 127) [.ref X.L.m,v] s.g=Qa (R.e X.W,s.g)/\R.D (X.p*(X.u.length+X.l.length+2)) (zdw X) X.W:=by
 have S:=P.rw';obtain ⟨hw,hdg⟩:=P.fe (.inr rfl);refine DW (s.Ad (X.u.length,X.l.length)) (λhA=>?_) λa hA=>?_
 ·rw [S.rk _ hA,m7] at hw
  exact ⟨.none,CN _ S _ _ (by rw [hA];rfl),hw▸fn rfl (OR hd (S.ql O.I) ⟨rfl,rfl⟩),hw▸R.ai (JJ _) (JJ _) R.cj⟩
 ·have hDv:=zaT (o:=0) (b:=fw X.M) (λs=>O.G.c8 s) hdg
  rw [hw,S.len] at hDv;refine ⟨.ref a,CN _ S _ _ (by rw [hA];rfl),?_,R.ai (Gb O.pp O.kk P.hc O.bd).1 (Gb O.pp O.kk P.hc O.bd).2.1 hDv⟩
  have:=fn (P:=P0) rfl (WU (Q:=λv g=>v=_/\g=_) hd (S.ql O.I) (S.row _ _ hA) (S.len _) hdg O.G.ed (Gb O.pp O.kk P.hc O.bd).2.2 ⟨rfl,rfl⟩)
  rw [Ah (o:=0) (b:=fw X.M) ((S.len _).trans O.I.fj.symm) λs x hx=>by unfold fw;rw [Z3,hx];rfl,hw] at this;exact this
def zbj (eD:X.D=X.h.length+2):lZ (X.h++ [ae.list [R.e R.zero],.list (((l6 R X.M.ab.length).set X.M.start X.M.first).map R.e)]) (.dict (Qa 1) [(UZ 0 0,.ref (X.h.length+1))])=Qa (.ref X.D,Um X.h X.M):=by
 delta lZ Um Ws uU;simp only [JH,eD,Jz];rfl
theorem iN (O:nh X) (eD:X.D=X.h.length+2) (eW:X.W=R.mul X.M.first (X.B 0 0 X.M.start)) (hk:X.k1<=X.k) (hp:X.p1<=X.p):PS X 0 0 (bR X):=
 ⟨by rw [eD];exact FU rfl,Jv _ _,FV O.G hp hk,λ_=>by rw [eW];exact AN O.G.st,λe=>e.elim (λe=>Nat.noConfusion e.2) λe=>Nat.noConfusion e⟩
def GA {g:MH} (hd:7<=d) (O:nh X) (V:Gr X) (eg:g=X.h) (eD:X.D=X.h.length+2) (eW:X.W=R.mul X.M.first (X.B 0 0 X.M.start)) (hk:X.k1<=X.k) (hp:X.p1<=X.p)
  (q: ∀t,R.D (X.p*(X.u.length+X.l.length+2)) (zdw X) (R.mul X.M.first (X.B 0 0 X.M.start)) ->Q (R.e (R.mul X.M.first (X.B 0 0 X.M.start))) (X.h++t)):cz (aj P0 d) (mW.drop 5) (Qa (.ref X.L.m)::Qa (.str X.u)::Qa (.str X.l)::Qa (.ah (112+R.i))::Qa X.ov::nn 13) g (Internal.Fin Q):=by
 subst eg;refine xEA (zdP (Jq (by decide) hd) O V (iN O eD eW hk hp)) λs P e=>?_;refine (zdO (d:=d) (Jq (by decide) hd) O P).elim λv zq2=>?_;have e1:=zq2.1;have e2:=zq2.2.1;refine P.rw'.pre.elim λt zq1=>?_;rw [zq1,eW] at e2;rw [zq1] at e e1;exact lJ (.p ((fn (P:=P0) (d:=d) (h:=X.h) rfl (LN (Q:=λv g=>v=_/\g=_) (Jq (by decide) hd) O.I O.G.st ⟨rfl,rfl⟩)))<| .p (zbj eD)<| .s (e)<| .c2<| .p (e1)<| .p (e2)<| .z (q t (eW▸zq2.2.2))) (by kernel_rfl)
end
section
variable {R:Rg}{d:Nat}{h h0:MH}{Q:aa->MH->Prop}{L:Ly}{M:Mc R.α}
def rB (u l:List Nat) (i j:Nat) (a:Ar R.α):Bool:=nf u i a.up && nf l j a.lo
def oB (B:Nat->Nat->Nat->R.α) (u l:List Nat) (i j:Nat) (xs:List (Ar R.α)):R.α:=qU (xs.map λa=>bif rB u l i j a then R.mul a.w (B (i+a.up.length) (j+a.lo.length) a.t) else R.zero)
def LP (b:Nat->R.α) (xs:List (Ar R.α)):R.α:=qU (xs.map λa=>bif a.ft then R.mul a.w (b a.t) else R.zero)
def O3 (M:Mc R.α) (B:Nat->Nat->Nat->R.α) (u l:List Nat) (i j s:Nat):R.α:=R.add (if i=u.length/\j=l.length then fw M s else R.zero) (oB B u l i j (bx M s))
def BH (M:Mc R.α) (u l:List Nat):Nat->Nat->Nat->Nat->R.α
 |0,_,_,_=>R.zero
 |f+1,i,j,s=>O3 M (BH M u l f) u l i j s
def om (M:Mc R.α):Prop:= ∀ (s:Nat) ys,M.ab[s]?=Qa ys-> ∀a∈ys,a.ft=Qf->s<a.t
def qM {a:Ar R.α} (h:a.ft=Qf):a.up= []/\a.lo= []:=by
 delta Ar.ft at h;obtain ⟨up,lo,w,t⟩:=a;cases up with
 |cons _ _=>exact JI h
 |nil=>
  cases lo with
  |cons _ _=>exact JI h
  |nil=>exact ⟨rfl,rfl⟩
def Dd {B:Nat->Nat->Nat->R.α}{u l:List Nat}{i j:Nat}{xs:List (Ar R.α)}:oB B u l i j xs=R.add (Vh B u l i j xs) (LP (B i j) xs):=by
 induction xs with
 |nil=>exact (R.zero_add _).symm
 |cons a xs ih=>
  unfold oB Vh LP at ih ⊢;simp only [JR,JR,JR,lE,lE,lE,ih];refine vY a.ft (λhe=>?_) λhe=>?_
  ·rw [he]
   simp only [(by unfold fb;rw [he];rfl:fb u l i j a=Qb),(by unfold rB;rw [(qM he).1,(qM he).2];rfl:rB u l i j a=Qf),(qM he).1,(qM he).2,cond_true,cond_true,cond_false,R.zero_add,R.swap];rfl
  ·rw [he]
   simp only [(by unfold fb rB;rw [he];rfl:fb u l i j a=rB u l i j a),cond_false,R.zero_add,R.add_assoc]
def vX {B:Nat->Nat->Nat->R.α}{u l:List Nat}{i j s:Nat}:O3 M B u l i j s=R.add (xP M B u l i j s) (LP (B i j) (bx M s)):=by
 delta O3 xP;simp only [Dd,R.add_assoc]
def Up {b:Nat->R.α}{xs:List (Ar R.α)} (h: ∀a∈xs,a.ft=Qb):LP b xs=R.zero:=by
 delta LP
 induction xs with
 |nil=>rfl
 |cons a xs ih=>rw [JR,lE,h a (.head _),ih λa ha=>h a (.tail _ ha)];exact R.zero_add _
def Vg {B B':Nat->Nat->Nat->R.α}{u l:List Nat}{i j:Nat}{xs:List (Ar R.α)} (h: ∀a∈xs,rB u l i j a=Qf->B (i+a.up.length) (j+a.lo.length) a.t=B' (i+a.up.length) (j+a.lo.length) a.t):oB B u l i j xs=oB B' u l i j xs:=by
 refine oM λa ha=>?_;cases hh:rB u l i j a with
 |true=>rw [cond_true,cond_true,h a ha hh]
 |false=>rfl
theorem sH {B:Nat->Nat->Nat->R.α}{u l:List Nat}{i j:Nat}{xs:List (Ar R.α)}{a:Ar R.α}:oB B u l i j (a::xs)=R.add (bif rB u l i j a then R.mul a.w (B (i+a.up.length) (j+a.lo.length) a.t) else R.zero) (oB B u l i j xs):=rfl
def nS {s:Nat}{a:Ar R.α} (h:a∈bx M s): ∃ys,M.ab[s]?=Qa ys/\ys∈M.ab/\a∈ys:=by
 delta bx at h;cases hs:M.ab[s]? with
 |none=>rw [hs] at h;exact absurd h JB
 |some ys=>rw [hs] at h;exact ⟨ys,rfl,Ju hs,h⟩
structure Vn (M:Mc R.α):Prop where
 l: ∀ys∈M.ab,∀a∈ys,fc a.up/\fc a.lo
 t: ∀ys∈M.ab,∀a∈ys,a.t<M.ab.length
 e:om M
def Wm (M:Mc R.α) (u l:List Nat) (i j s:Nat):Nat:=((u.length-i)+(l.length-j))*(M.ab.length+1)+(M.ab.length-s)
def zJ {u l:List Nat}{i j s:Nat}{a:Ar R.α} (H:Vn M) (hi:i<=u.length) (hj:j<=l.length) (ha:a∈bx M s) (hh:rB u l i j a=Qf):i+a.up.length<=u.length/\j+a.lo.length<=l.length/\Wm M u l (i+a.up.length) (j+a.lo.length) a.t<Wm M u l i j s:=by
 refine (nS ha).elim λys zq8=>?_;have zq7:=H.l ys zq8.2.1 a zq8.2.2;have f1:=(Ga zq7.1 (Jr.mp hh).1 hi).1;have f2:=(Ga zq7.2 (Jr.mp hh).2 hj).1;refine ⟨f1,f2,?_⟩;delta Wm;refine vY a.ft (λhe=>?_) λhe=>?_
 ·have:=H.e s ys zq8.1 a zq8.2.2 he
  rw [(qM he).1,(qM he).2];exact ZI (Nat.sub_lt_sub_left (kP zq8.1) this) _
 ·have h6:((u.length-(i+a.up.length))+(l.length-(j+a.lo.length))+1)*(M.ab.length+1)<=((u.length-i)+(l.length-j))*(M.ab.length+1):=Zr _ (Jq (Jw (zN he) _) (JM ((Xf _ _ _ _).trans (congr (congrArg _ (qbc .. ▸KR (qan f1))) (qbc .. ▸KR (qan f2))))))
  rw [K9,Z7] at h6;exact Jy (ZI (JX (qaN _ _)) _) (Jq h6 (Jv _ _))
def Gv {u l:List Nat} (H:Vn M): ∀ {f f' i j s:Nat},i<=u.length->j<=l.length->Wm M u l i j s<f->Wm M u l i j s<f'->BH M u l f i j s=BH M u l f' i j s:=by
 intro f
 induction f with
 |zero=>exact λ_ _ h=>absurd h (Zh _)
 |succ f ih=>
  intro f' i j s hi hj h1 h2;cases f' with
  |zero=>exact absurd h2 (Zh _)
  |succ f'=>
   show R.add _ (oB (BH M u l f) u l i j (bx M s))=R.add _ (oB (BH M u l f') u l i j (bx M s))
   congr 1
   refine Vg λa ha hh=>?_;have zq5:=zJ H hi hj ha hh;exact ih zq5.1 zq5.2.1 (Jy zq5.2.2 (Ze h1)) (Jy zq5.2.2 (Ze h2))
def Bv (M:Mc R.α) (u l:List Nat) (i j s:Nat):R.α:=BH M u l (Wm M u l i j s+1) i j s
def IV {u l:List Nat} (H:Vn M) {i j s:Nat} (hi:i<=u.length) (hj:j<=l.length):Bv M u l i j s=O3 M (Bv M u l) u l i j s:=by
 show R.add _ (oB (BH M u l (Wm M u l i j s)) u l i j (bx M s))=R.add _ (oB (Bv M u l) u l i j (bx M s))
 congr 1
 refine Vg λa ha hh=>?_;exact Gv H (zJ H hi hj ha hh).1 (zJ H hi hj ha hh).2.1 (zJ H hi hj ha hh).2.2 (J0 _)
section
variable {ks:List Nat}{mb1 mb2:List Bool}{bb:List (List Nat)} (TB:yK M ks mb1 mb2 bb) (hE:M.ar.length=M.ab.length)
include TB hE
theorem C8 {k:Nat}{a:Ar R.α} (hk:mb2[k]?≠Qa Qf) (ha:a∈bx M k) (ht:a.t<M.ab.length):mb2[a.t]?≠Qa true:=λq=>hk (by
 refine (nS ha).elim λys zq3=>?_;have hx:=Js (l:=bb) (i:=a.t) (by rw [TB.b2.len];exact ht);refine TB.c2 _ _ q hx k ((TB.b2.mem _ _ hx k).mpr ⟨ys,zq3.1,.inl ⟨kP zq3.1,a,zq3.2.2,rfl⟩⟩))
def C9 {k:Nat} (hk:mb2[k]?≠Qa Qf):fw M k=R.zero:=by
 by_cases hkn:k<M.ab.length
 ·cases he:qI M k with
  |true=>exact absurd (TB.m2.first k (Zx.mpr ⟨ZL.mpr hkn,he⟩)) hk
  |false=>
   delta qI at he;exact dT (Bool.not_inj (y:=Qf) he)
 ·delta fw
  rw [Kr (Jq (JM hE) (ZG hkn))];rfl
def Ur {u l:List Nat} (ht: ∀ys∈M.ab,∀a∈ys,a.t<M.ab.length): ∀ {f i j k:Nat},mb2[k]?≠Qa Qf->BH M u l f i j k=R.zero:=by
 intro f
 induction f with
 |zero=>exact λ_=>rfl
 |succ f ih=>
  intro i j k hk;show R.add (if i=u.length/\j=l.length then fw M k else R.zero) (oB (BH M u l f) u l i j (bx M k))=_;have e1:(if i=u.length/\j=l.length then fw M k else R.zero)=R.zero:=by rw [C9 TB hE hk];split<;>rfl
  simp only [e1,R.zero_add]
  have: ∀xs:List (Ar R.α),(∀a∈xs,a∈bx M k) ->oB (BH M u l f) u l i j xs=R.zero:=λxs=>by
   induction xs with
   |nil=>exact λ_=>rfl
   |cons a xs ihx=>
    intro h;refine (nS (h a (.head _))).elim λys zq2=>?_;simp only [sH,ihx λb hb=>h b (.tail _ hb),ih (C8 TB hE hk (h a (.head _)) (ht ys zq2.2.1 a zq2.2.2)),R.mul_zero];cases rB u l i j a<;>exact R.zero_add _
  exact this _ λ_ h=>h
def AH {u l:List Nat}{T:Mc R.α} (nk:ks.Nodup) (ht: ∀ys∈M.ab,∀a∈ys,a.t<M.ab.length) (ha:T.ab=ks.map λk=>p7 ks (bx M k)) (he:T.ar=ks.map (fw M)): ∀ {f i j k:Nat},k∈ks->BH T u l f i j (ks.idxOf k)=BH M u l f i j k:=by
 intro f
 induction f with
 |zero=>exact λ_=>rfl
 |succ f ih=>
  intro i j k hk;have hix:=ZU.mpr hk;have e1:fw T (ks.idxOf k)=fw M k:=by
   delta fw;simp only [he,JC,Js hix,(YJ hix)];rfl
  have e2:bx T (ks.idxOf k)=p7 ks (bx M k):=by
   delta bx;simp only [ha,JC,Js hix,(YJ hix)];rfl
  show R.add (if i=u.length/\j=l.length then fw T (ks.idxOf k) else R.zero) (oB (BH T u l f) u l i j (bx T (ks.idxOf k)))=R.add _ (oB (BH M u l f) u l i j (bx M k));simp only [e1,e2]
  congr 1
  rw [TB.ks] at hk;have hp:=Jr.mp (nR hk).2;have m1k:mb1[k]?=Qa true:=by
   cases hm:mb1[k]? with
   |none=>rw [hm] at hp;exact JI hp.1
   |some b=>rw [hm] at hp;exact congrArg Qa hp.1
  have: ∀xs:List (Ar R.α),(∀a∈xs,a∈bx M k) ->oB (BH T u l f) u l i j (p7 ks xs)=oB (BH M u l f) u l i j xs:=λxs=>by
   induction xs with
   |nil=>exact λ_=>rfl
   |cons a xs ihx=>
    intro h;have ihx:=ihx λb hb=>h b (.tail _ hb);refine (nS (h a (.head _))).elim λys zq1=>?_;unfold p7 at ihx ⊢;simp only [KN];by_cases hin:a.t∈ks
    ·rw [if_pos hin]
     simp only [sH,sH,ihx];show R.add (bif rB u l i j a then R.mul a.w (BH T u l f (i+a.up.length) (j+a.lo.length) (ks.idxOf a.t)) else R.zero) _=_;rw [ih hin]
    ·simp only [if_neg hin]
     have hd2:mb2[a.t]?≠Qa true:=λq=>hin (by
      rw [TB.ks];exact Zx.mpr ⟨ZL.mpr (ht ys zq1.2.1 a zq1.2.2),by rw [(TB.c1 k (ys.map Ar.t) m1k (by unfold uy;rw [JC,zq1.1];rfl) a.t (JO.mpr ⟨a,zq1.2.2,rfl⟩):mb1[a.t]?=Qa Qf),q];rfl⟩)
     rw [sH,Ur TB hE ht hd2,R.mul_zero];have e0:(bif rB u l i j a then R.zero else R.zero)=R.zero:=by cases rB u l i j a<;>rfl
     rw [e0,R.zero_add];exact ihx
  exact this _ λ_ h=>h
end
end
section
variable {R:Rg}{d:Nat}{h h0:MH}{Q:aa->MH->Prop}{L:Ly}{M:Mc R.α}
def Ho {l:List Nat}{p:Nat->Bool}{f:Nat->Nat}:((l.filter p).map f).sum<=(l.map f).sum:=by
 induction l with
 |nil=>exact JA _
 |cons x l ih=>
  simp only [List.filter_cons,JR,YC];cases p x
  ·exact YQ ih
  ·show (((x::l.filter p)).map f).sum<=_
   simp only [JR,YC];exact Jw ih _
def Df:M.ab=(JW M.ab.length).map (bx M):=by
 refine uO (by rw [Jt,J9]) λi y hy=>?_;rw [JC,Z6 (kP hy)];show Qa (M.ab[i]?.getD [])=_;rw [hy];rfl
theorem AI {ks:List Nat}{xs:List (Ar R.α)}:(p7 ks xs).length<=xs.length:=XJ ..
def xU {ks:List Nat}{xs:List (Ar R.α)}{a:Ar R.α} (h:a∈p7 ks xs): ∃b∈xs,b.t∈ks/\a= {b with t:=ks.idxOf b.t}:=by
 refine (List.mem_filterMap.mp h).elim λb zq16=>?_;have e:=zq16.2;by_cases hk:b.t∈ks
 ·rw [if_pos hk] at e;exact ⟨b,zq16.1,hk,(Qa.inj e).symm⟩
 ·rw [if_neg hk] at e;exact ag e
def R7 {l:List Nat}{f g:Nat->Nat} (h: ∀x,f x<=g x):(l.map f).sum<=(l.map g).sum:=by
 induction l with
 |nil=>exact JA _
 |cons x l ih=>rw [JR,JR,YC,YC];have:=h x;exact JL this ih
theorem mL.fc {p k:Nat} (G:mL M p k) (H:om M):Vn M:=⟨λys hy a ha=>⟨(G.fv ys hy a ha).2.1,(G.fv ys hy a ha).2.2.1⟩,λys hy a ha=>(G.fv ys hy a ha).1,H⟩
def HB {p:Nat->Bool}{n i j:Nat}{a b:Nat} (ha:(m5 p n)[i]?=Qa a) (hb:(m5 p n)[j]?=Qa b) (h:a<b):i<j:=by
 obtain ⟨h1,rfl⟩:=JD.mp ha;obtain ⟨h2,rfl⟩:=JD.mp hb;refine qaW λhle=>?_;rcases KW hle with hl|he
 ·exact Nat.lt_asymm h (List.pairwise_iff_getElem.mp (List.Pairwise.filter _ List.pairwise_lt_range:(m5 p n).Pairwise (· < ·)) _ _ h2 h1 hl)
 ·subst he;exact J8 _ h
structure zdD (M T:Mc R.α) (p k:Nat):Prop where
 g:mL T p k
 bq:T.bq<=M.bq
 len:T.ab.length<=M.ab.length
 up:om M->om T
 no:Wj M->Wj T
def V5 {p k:Nat}{ks:List Nat}{mb1 mb2:List Bool}{bb:List (List Nat)}{T:Mc R.α}{g:MH}{L':Ly} (I:aq R h L M) (G:mL M p k) (TB:yK M ks mb1 mb2 bb) (TR:oJ M ks T) (J:aq R g L' T):zdD M T p k:=by
 have hks: ∀x∈ks,x<M.ab.length:=λx hx=>by rw [TB.ks] at hx;exact (nR hx).1
 have hkl:ks.length<=M.ab.length:=by rw [TB.ks];exact wO
 cases TR with
 |ny h1 h2 ha he hs hf=>
  have hal:T.ab.length=ks.length:=by rw [ha,Jt]
  have hcnt:T.bq<=M.bq:=by
   simp only [<-J.ct,<-I.ct,ha,KO];have e:(M.ab.map Z5)=(JW M.ab.length).map (λk=>(bx M k).length):=by
    conv=>lhs;rw [Df (M:=M)]
    exact KO
   rw [e,TB.ks];exact Jq (R7 λx=>AI) Ho
  refine ⟨⟨by rw [hal,hs];exact ZU.mpr h1,λys hy a hay=>?_,hf▸G.fst,λx hx=>?_,G.bd,by have:=G.n;exact Jq (JM hal) (Jq hkl this),Jq hcnt G.c⟩,hcnt,Jq (JM hal) hkl,λH s ys hys a hay hae=>?_,λhE=>?_⟩
  ·rw [ha] at hy
   refine (JO.mp hy).elim λk' zq13=>?_;obtain rfl:=zq13.2;refine (xU hay).elim λb zq12=>?_;refine eqB zq12.2.2 ?_;refine (nS zq12.1).elim λzs zq11=>?_;have zq10:=G.fv zs zq11.2.1 b zq11.2.2;exact ⟨by rw [hal];exact ZU.mpr zq12.2.1,zq10.2.1,zq10.2.2.1,zq10.2.2.2.1,zq10.2.2.2.2⟩
  ·rw [he] at hx
   refine (JO.mp hx).elim λk' zq9=>?_;refine eqE zq9.2 ?_;delta fw;rw [Js (by rw [I.fj];exact (hks k' zq9.1):k'<M.ar.length)];exact G.ed _ (ZA (by rw [I.fj];exact (hks k' zq9.1):k'<M.ar.length))
  ·rw [ha,JC] at hys
   obtain ⟨k',hk',rfl⟩:=ms hys;obtain ⟨b,hb,hbt,rfl⟩:=xU hay;refine (nS hb).elim λzs zq6=>?_;have hlt:=H k' zs zq6.1 b zq6.2.2 hae;have hge:ks[ks.idxOf b.t]?=Qa b.t:=by rw [Js (ZU.mpr hbt),YJ (ZU.mpr hbt)]
   rw [TB.ks] at hk' hge;show s<ks.idxOf b.t;rw [TB.ks];exact HB hk' hge hlt
  ·delta Wj
   refine Ys.mpr λys hy=>?_;rw [ha] at hy;obtain ⟨k',hk',rfl⟩:=JO.mp hy;intro q;obtain ⟨a,hay,he⟩:=KD.mp q;obtain ⟨b,hb,hbt,rfl⟩:=xU hay;exact (nS hb).elim λzs zq2=>absurd (KD.mpr ⟨b,zq2.2.2,he⟩) (Ys.mp hE zs zq2.2.1)
 |mh h1 ha he hs hf=>
  have hcnt:T.bq=0:=by rw [<-J.ct,ha];rfl
  refine ⟨⟨by rw [ha,hs];exact Nat.zero_lt_one,λys hy a hay=>?_,hf▸R.ai (JJ _) (JJ _) R.gp,λx hx=>?_,G.bd,by rw [ha];show 1<=300;decide,Jq (JM hcnt) (JJ _)⟩,Jq (JM hcnt) (JJ _),by rw [ha];show 1<=_;exact Jq (JE _ _) (Za G.st),λ_ s ys hys a hay _=>?_,λ_=>by unfold Wj;rw [ha];rfl⟩
  ·rw [ha] at hy
   cases JG.mp hy;exact absurd hay JB
  ·rw [he] at hx
   cases JG.mp hx;exact R.ai (JJ _) (JJ _) R.cj
  ·rw [ha] at hys
   cases JG.mp (Ju hys);exact absurd hay JB
def yM {p k:Nat}{u l:List Nat}{ks:List Nat}{mb1 mb2:List Bool}{bb:List (List Nat)}{T:Mc R.α} (I:aq R h L M) (G:mL M p k) (TB:yK M ks mb1 mb2 bb) (TR:oJ M ks T) (HM:Vn M) (HT:Vn T):R.mul T.first (Bv T u l 0 0 T.start)=R.mul M.first (Bv M u l 0 0 M.start):=by
 have ht: ∀ys∈M.ab,∀a∈ys,a.t<M.ab.length:=λys hy a ha=>(G.fv ys hy a ha).1;have nk:ks.Nodup:=by rw [TB.ks];exact uJ
 cases TR with
 |ny h1 h2 ha he hs hf=>
  rw [hs,hf];have eM:Bv M u l 0 0 M.start=BH M u l (Wm M u l 0 0 M.start+Wm T u l 0 0 (ks.idxOf M.start)+1) 0 0 M.start:=Gv HM (JJ _) (JJ _) (J0 _) (JX (Jv _ _));have eT:Bv T u l 0 0 (ks.idxOf M.start)=BH T u l (Wm M u l 0 0 M.start+Wm T u l 0 0 (ks.idxOf M.start)+1) 0 0 (ks.idxOf M.start):=Gv HT (JJ _) (JJ _) (J0 _) (JX (JE _ _));simp only [eM,eT,(AH TB I.fj nk ht ha he h1: ∀ {f:Nat},BH T u l f 0 0 (ks.idxOf M.start)=BH M u l f 0 0 M.start)]
 |mh h1 ha he hs hf=>
  have e1:Bv T u l 0 0 T.start=R.zero:=by
   delta Bv;show R.add (if 0=u.length/\0=l.length then fw T T.start else R.zero) (oB (BH T u l _) u l 0 0 (bx T T.start))=_;have e2:fw T T.start=R.zero:=by unfold fw;rw [he,hs];rfl
   have e3:bx T T.start= []:=by unfold bx;rw [ha,hs];rfl
   rw [e2,e3]
   have:(if 0=u.length/\0=l.length then R.zero else R.zero)=R.zero:=by split<;>rfl
   simp only [this,R.zero_add];rfl
  rw [e1,R.mul_zero];rcases h1 with h1|h1
  ·have hd2:mb2[M.start]?≠Qa true:=λq=>h1 (by
    rw [TB.ks];exact Zx.mpr ⟨ZL.mpr G.st,by rw [TB.m1.first M.start (.head _),q];rfl⟩)
   unfold Bv;rw [Ur TB I.fj ht hd2,R.mul_zero]
  ·rw [h1,R.zero_mul]
def Ug (hE:Wj M) {s:Nat}{a:Ar R.α} (h:a∈bx M s):a.ft=false:=by
 refine (nS h).elim λys zq1=>?_
 have:=Ys.mp hE ys zq1.2.1
 cases he:a.ft with
 |false=>rfl
 |true=>exact absurd (KD.mpr ⟨a,zq1.2.2,he⟩) this
abbrev wX (h:MH) (L:Ly) (M:Mc R.α) (u l:List Nat) (ov:aa) (p k p1 k1 pS kS:Nat):WX R:=⟨h,L,M,u,l,h.length+2,ov,p,k,p1,k1,pS,kS,Bv M u l,R.mul M.first (Bv M u l 0 0 M.start)⟩
end
section
variable {R:Rg}{d:Nat}{h h0:MH}{Q:aa->MH->Prop}
abbrev DR (R:Rg):=List (Nat×R.α)
def lU (r:DR R):List (aa×aa):=r.map λp=>(aa.int (p.1:Int),R.e p.2)
def lX:DR R->Nat->R.α
 | [],_=>R.zero
 |p::t,j=>if p.1=j then p.2 else lX t j
def xX:DR R->Nat->R.α->DR R
 | [],j,v=> [(j,v)]
 |p::t,j,v=>if p.1=j then (j,v)::t else p::xX t j v
theorem oD {p:Nat×R.α}{t:DR R}{j:Nat}:lX (p::t) j=if p.1=j then p.2 else lX t j:=rfl
theorem pZ {p:Nat×R.α}{t:DR R}{j:Nat}{v:R.α}:xX (p::t) j v=if p.1=j then (j,v)::t else p::xX t j v:=rfl
def kR (r:DR R):List Nat:=r.map (·.1)
def m4 (r:DR R) (b:Nat->R.α):R.α:=qU (r.map λp=>R.mul p.2 (b p.1))
def Cv {a b:Nat}:gm (.int (a:Int)) (.int (b:Int))=(a==b):=by
 show ((wF [] (.int (a:Int)) (.int (b:Int))).getD Qb)=_;have e:wF [] (.int (a:Int)) (.int (b:Int))=Qa ((a:Int)==(b:Int)):=wD (h:=[]);rw [e];show ((a:Int)==(b:Int))=(a==b);rw [Kd,beq_iff_eq,beq_iff_eq];lia
def uS {r:DR R}{j:Nat}:kX (lU r) (.int (j:Int))=true:=by
 cases r with
 |nil=>rfl
 |cons p t=>rfl
def xJ {r:DR R}{j:Nat}:kY (lU r) (.int (j:Int))=if j∈kR r then Qa (R.e (lX r j)) else none:=by
 induction r with
 |nil=>rfl
 |cons p t ih=>
  show kY ((aa.int (p.1:Int),R.e p.2)::lU t) _=_;simp only [mV,Cv,ih];simp only [oD];delta kR;by_cases h:p.1=j
  ·rw [beq_iff_eq.mpr h,cond_true,if_pos (by rw [JR,h];exact .head _),if_pos h]
  ·rw [beq_false_of_ne h,cond_false,if_neg h]
   by_cases h2:j∈t.map (·.1)
   ·rw [if_pos h2,if_pos (.tail _ h2)]
   ·rw [if_neg h2]
    exact (if_neg λq=>(JT.mp q).elim (λe=>h e.symm) h2).symm
def ET {r:DR R}{j:Nat}{v:aa} (h:j∉kR r):((lU r).map λp=>bif gm p.1 (.int (j:Int)) then (p.1,v) else p)=lU r:=by
 induction r with
 |nil=>rfl
 |cons p t ih=>
  show (bif gm (aa.int (p.1:Int)) (.int (j:Int)) then _ else _)::(lU t).map _=_;rw [Cv,beq_false_of_ne λe=>h (by rw [<-e];exact .head _),ih λq=>h (.tail _ q)];rfl
def C6 {r:DR R}{j:Nat}{v:R.α} (nd:(kR r).Nodup):oF (lU r) (.int (j:Int)) (R.e v)=lU (xX r j v):=by
 delta oF;rw [xJ];by_cases h:j∈kR r
 ·rw [if_pos h,YH,cond_true]
  induction r with
  |nil=>exact absurd h JB
  |cons p t ih=>
   show (bif gm (aa.int (p.1:Int)) (.int (j:Int)) then _ else _)::(lU t).map _=_;rw [Cv];simp only [pZ];by_cases e:p.1=j
   ·rw [beq_iff_eq.mpr e,cond_true,if_pos e,ET (e▸(JN.mp nd).1)]
    show (aa.int (p.1:Int),R.e v)::lU t=(aa.int (j:Int),R.e v)::lU t;rw [e]
   ·rw [beq_false_of_ne e,cond_false,if_neg e]
    rw [ih (JN.mp nd).2 ((JT.mp h).elim (λq=>absurd q.symm e) id:j∈kR t)];rfl
 ·rw [if_neg h,YI,cond_false]
  induction r with
  |nil=>rfl
  |cons p t ih=>
   rw [pZ];rw [if_neg (λe=>h (by rw [<-e];exact .head _): ¬p.1=j)];show (aa.int (p.1:Int),R.e p.2)::(lU t++ [(aa.int (j:Int),R.e v)])=_;rw [ih (JN.mp nd).2 λq=>h (.tail _ q)];rfl
def rA {r:DR R}{j:Nat}{v:R.α}: ∀x,x∈kR (xX r j v) ↔ x∈kR r\/x=j:=by
 induction r with
 |nil=>intro x;show x∈ [j] ↔ _;rw [JG];exact ⟨.inr,λh=>h.elim (λh=>absurd h JB) id⟩
 |cons p t ih=>
  intro x;simp only [pZ];by_cases e:p.1=j
  ·rw [if_pos e]
   show x∈j::kR t ↔ x∈p.1::kR t\/x=j;rw [e,JT];exact ⟨λh=> .inl h,λh=>h.elim id .inl⟩
  ·rw [if_neg e]
   show x∈p.1::kR (xX t j v) ↔ x∈p.1::kR t\/x=j;rw [JT,JT,ih,or_assoc]
def DI {r:DR R}{j:Nat}{v:R.α} (nd:(kR r).Nodup):(kR (xX r j v)).Nodup:=by
 induction r with
 |nil=>exact JN.mpr ⟨JB,.nil⟩
 |cons p t ih=>
  have nd:=JN.mp nd;simp only [pZ];by_cases e:p.1=j
  ·rw [if_pos e];exact JN.mpr ⟨e▸nd.1,nd.2⟩
  ·rw [if_neg e]
   exact JN.mpr ⟨λq=>((rA _).mp q).elim nd.1 e,ih nd.2⟩
def z4 {r:DR R}{j:Nat}{v:R.α}{q:Nat×R.α} (h:q∈xX r j v):q∈r\/q=(j,v):=by
 induction r with
 |nil=>exact .inr (JG.mp h)
 |cons p t ih=>
  rw [pZ] at h;by_cases e:p.1=j
  ·rw [if_pos e] at h
   exact (JT.mp h).elim .inr λh=> .inl (.tail _ h)
  ·rw [if_neg e] at h
   rcases JT.mp h with rfl|h
   ·exact .inl (.head _)
   ·exact (ih h).imp (.tail _) id
def wM {r:DR R}{j:Nat} (h:j∈kR r):(j,lX r j)∈r:=by
 induction r with
 |nil=>exact absurd h JB
 |cons p t ih=>
  simp only [oD];by_cases e:p.1=j
  ·rw [if_pos e,<-e];exact .head _
  ·rw [if_neg e];exact .tail _ (ih ((JT.mp h).elim (λq=>absurd q.symm e) id))
def uF {r:DR R}{j:Nat} (h:j∉kR r):lX r j=R.zero:=by
 induction r with
 |nil=>rfl
 |cons p t ih=>
  simp only [oD];rw [if_neg λe=>h (by rw [<-e];exact .head _),ih λq=>h (.tail _ q)]
def Bk {r:DR R}{j:Nat}{w:R.α}{b:Nat->R.α}:m4 (xX r j (R.add (lX r j) w)) b=R.add (R.mul w (b j)) (m4 r b):=by
 delta m4
 induction r with
 |nil=>show R.add (R.mul (R.add R.zero w) (b j)) R.zero=R.add (R.mul w (b j)) R.zero;rw [R.zero_add]
 |cons p t ih=>
  simp only [pZ,oD];by_cases e:p.1=j
  ·rw [if_pos e,if_pos e,JR,JR,lE,lE,e,R.add_mul,R.add_assoc,R.swap]
  ·rw [if_neg e,if_neg e,JR,JR,lE,lE,ih,R.swap]
def oR (r:DR R) (j:Nat) (w:R.α):DR R:= @ite _ (w=R.zero) (R.gq _ _) r (xX r j (R.add (lX r j) w))
def z9 {r:DR R}{j:Nat}{w:R.α}{b:Nat->R.α}:m4 (oR r j w) b=R.add (R.mul w (b j)) (m4 r b):=by
 delta oR;by_cases h:w=R.zero
 ·rw [if_pos h,h,R.zero_mul,R.zero_add]
 ·rw [if_neg h,Bk]
structure rJ (n P K:Nat) (r:DR R):Prop where
 nd:(kR r).Nodup
 lt: ∀x∈kR r,x<n
 dg: ∀p∈r,R.D P K p.2
def rJ.get {n P K:Nat}{r:DR R} (H:rJ n P K r) (j:Nat):R.D P K (lX r j):=by
 by_cases h:j∈kR r
 ·exact H.dg _ (wM h)
 ·exact (uF h)▸R.ai (JJ _) (JJ _) R.cj
def DM {n P K j:Nat}{r:DR R}{w:R.α} (H:rJ n P K r) (hj:j<n) (hw:R.D P K w):rJ n P (K+1) (oR r j w):=by
 delta oR;by_cases h:w=R.zero
 ·rw [if_pos h];exact ⟨H.nd,H.lt,λp hp=>R.ai (JA _) (Zw _) (H.dg p hp)⟩
 ·rw [if_neg h]
  refine ⟨DI H.nd,λx hx=>((rA x).mp hx).elim (H.lt x) λe=>e▸hj,λp hp=>?_⟩;rcases z4 hp with hp|rfl
  ·exact R.ai (JA _) (Zw _) (H.dg p hp)
  ·exact R.gb (H.get j) hw
def rJ.len {n P K:Nat}{r:DR R} (H:rJ n P K r):r.length<=n:=by
 have:=H.nd.length_le_of_subset (l₂:=JW n) λx hx=>ZL.mpr (H.lt x hx)
 rwa [J9,show (kR r).length=r.length from Jt ..] at this
def PZ (z:Cx) {a:Nat}{ep:Option Nat}{r:DR R} (hr:h[a]?=Qa (.dict ep (lU r))) (j:Nat):l5 z (.ref a) ma [.int j,R.e R.zero] h h=Qa (R.e (lX r j),h):=by
 refine W.eq (Fm hr hr uS ⟨?_,rfl⟩);rw [xJ];by_cases h:j∈kR r
 ·rw [if_pos h];rfl
 ·rw [if_neg h,uF h];rfl
theorem zd6 {a j:Nat}{ep:Option Nat}{r:DR R} (v:R.α) (hr:h[a]?=Qa (.dict ep (lU r))) (nd:(kR r).Nodup) (hl:r.length<=1000): ∃ep',oC h (.ref a) (.int j) (R.e v)=Qa (h.set a (.dict ep' (lU (xX r j v)))):=
 ⟨_,(AO hr uS (by unfold lU;rw [Jt];exact Jx hl (by decide))).trans (by rw [C6 nd])⟩
def UM {n P K j a:Nat}{ep:Option Nat}{r:DR R}{w:R.α} (hd:4<=d) (hr:h[a]?=Qa (.dict ep (lU r))) (H:rJ n P K r) (hn:n<=1000) (hw:R.D P K w) (hl:4*P+K<=3800): ∃ep',kT (aj P0 d) (.ah 104) [.ah (112+R.i),.ref a,.int (j:Int),R.e w] h=Qa (.none,h.set a (.dict ep' (lU (oR r j w)))):=by
 obtain ⟨ep',e⟩: ∃ep',WF P0 d 104 [.ah (112+R.i),.ref a,.int (j:Int),R.e w] h λv g=>v= .none/\g=h.set a (.dict ep' (lU (oR r j w))):=by
  cases hq:R.gq w R.zero with
  |isTrue q=>
   have e:h.set a (.dict ep (lU (oR r j w)))=h:=by
    refine (JD.mp hr).elim λhl zq2=>?_;delta oR;rw [if_pos q,<-zq2,YT]
   refine ⟨ep,l0 (K:=3) hd (Qa (.ah (112+R.i))::Qa (.ref a)::Qa (.int (j:Int))::Qa (R.e w)::nn 6) sG rfl λd' h'=>?_⟩;rw [e];have hf:(!@decide (w=R.zero) (R.gq _ _))=false:=by rw [R.yes q];rfl
   exact lJ (.w (R.no)<| .b ((Internal.di (R.ff h w R.zero)))<| .f (hf)<| .z (cv .none h)) rfl
  |isFalse q=>
   obtain ⟨ep',e⟩:=zd6 (j:=j) (R.add (lX r j) w) hr H.nd (Jq H.len hn);refine ⟨ep',l0 (K:=3) hd (Qa (.ah (112+R.i))::Qa (.ref a)::Qa (.int (j:Int))::Qa (R.e w)::nn 6) sG rfl λd' h'=>?_⟩;rw [(by unfold oR;rw [if_neg q]:oR r j w=xX r j (R.add (lX r j) w))];exact lJ (.w (R.no)<| .b ((Internal.di (R.ff h w R.zero)))<| .t ((by rw [R.not q];rfl:(!@decide (w=R.zero) (R.gq _ _))=Qf))<| .w (R.no)<| .p (PZ (aj P0 d') hr j)<| .q (R.pl h' (H.get j) hw hl)<| .h (e)<| .z (cv .none (h.set a (.dict ep' (lU (xX r j (R.add (lX r j) w))))))) rfl
 exact ⟨ep',fn rfl e⟩
end
section
variable {R:Rg}
def V9 {r:DR R}{b:Nat->R.α}{l:List Nat} (hp:l.Perm (kR r)) (nd:(kR r).Nodup):qU (l.map λj=>R.mul (lX r j) (b j))=m4 r b:=by
 have sp: ∀ {x y:List R.α},x.Perm y->qU x=qU y:=λ{x y} h=>by
  induction h with
  |nil=>rfl
  |cons a _ ih=>rw [lE,lE,ih]
  |swap a b l=>rw [lE,lE,lE,lE,R.swap]
  |trans _ _ h1 h2=>exact h1.trans h2
 refine (sp (hp.map _)).trans ?_;delta m4 kR;rw [KO]
 clear hp l
 induction r with
 |nil=>rfl
 |cons p t ih=>
  have nd:=JN.mp nd;simp only [JR,JR,lE,lE,<-ih nd.2];show R.add (R.mul (lX (p::t) p.1) (b p.1)) _=_;rw [oD,if_pos rfl]
  congr 1
  refine congrArg qU (ZO λq hq=>?_);show R.mul (lX (p::t) q.1) (b q.1)=R.mul (lX t q.1) (b q.1);rw [oD,if_neg λe=>nd.1 (by rw [show (λx:Nat×R.α=>x.1) p=q.1 from e];exact JO.mpr ⟨q,hq,rfl⟩)]
theorem rU {r:DR R}{b b':Nat->R.α} (h: ∀x∈kR r,b x=b' x):m4 r b=m4 r b':=congrArg qU (ZO λp hp=>by rw [h p.1 (JO.mpr ⟨p,hp,rfl⟩)])
def Ng {r:DR R}{b b':Nat->R.α}{k:Nat}{x:R.α} (nd:(kR r).Nodup) (hk:k∈kR r) (h: ∀j,j≠k->b j=b' j) (e:b k=R.add (b' k) x):m4 r b=R.add (R.mul (lX r k) x) (m4 r b'):=by
 induction r with
 |nil=>exact absurd hk JB
 |cons p t ih=>
  show R.add (R.mul p.2 (b p.1)) (m4 t b)=R.add _ (R.add (R.mul p.2 (b' p.1)) (m4 t b'));simp only [oD];by_cases hp:p.1=k
  ·rw [if_pos hp,rU (b:=b) (b':=b') λy hy=>h y λq=>(JN.mp nd).1 (by rw [show (λx:Nat×R.α=>x.1) p=k from hp,<-q];exact hy),hp,e,R.mul_add,R.add_comm (R.mul p.2 (b' k)),R.add_assoc]
  ·rw [if_neg hp,ih (JN.mp nd).2 ((JT.mp hk).elim (λq=>absurd q.symm hp) id),h _ hp,R.swap]
def EQ (ov:DR R) (f:R.α) (l:List Nat) (t:DR R):DR R:=l.foldl (λt j=>oR t j (R.mul f (lX ov j))) t
def C5 {ov:DR R}{f:R.α}{b:Nat->R.α}: ∀ {l:List Nat}{t:DR R},m4 (EQ ov f l t) b=R.add (R.mul f (qU (l.map λj=>R.mul (lX ov j) (b j)))) (m4 t b):=by
 intro l
 induction l with
 |nil=>intro t;show m4 t b=R.add (R.mul f R.zero) (m4 t b);rw [R.mul_zero,R.zero_add]
 |cons j l ih=>
  intro t;show m4 (EQ ov f l (oR t j (R.mul f (lX ov j)))) b=_;simp only [ih,z9,JR,lE,R.mul_add,R.mul_assoc,R.add_assoc,R.swap]
structure SR (n p K i k:Nat) (t:DR R):Prop where
 nd:(kR t).Nodup
 lt: ∀x∈kR t,i<x/\x<n
 dg: ∀q∈t,R.D (p*(q.1-i)) (K*(q.1-i)+k) q.2
theorem SR.mono {n p K i k k':Nat}{t:DR R} (H:SR n p K i k t) (h:k<=k'):SR n p K i k' t:=⟨H.nd,H.lt,λq hq=>R.ai (JA _) (Jw h _) (H.dg q hq)⟩
theorem SR.get {n p K i k j:Nat}{t:DR R} (H:SR n p K i k t) (h:j∈kR t):R.D (p*(j-i)) (K*(j-i)+k) (lX t j):=H.dg _ (wM h)
structure wb (n p K i k:Nat) (l:List Nat) (t:DR R):Prop where
 nd:(kR t).Nodup
 lt: ∀x∈kR t,i<x/\x<n
 dg: ∀q∈t,R.D (p*(q.1-i)) (K*(q.1-i)+(k+1)) q.2
 dl: ∀q∈t,q.1∈l->R.D (p*(q.1-i)) (K*(q.1-i)+k) q.2
theorem SR.l {n p K i k:Nat}{t:DR R} (H:SR n p K i k t) (l:List Nat):wb n p K i k l t:=⟨H.nd,H.lt,(H.mono (Zw k)).dg,λq hq _=>H.dg q hq⟩
def wb.add {n p K i k j:Nat}{l:List Nat}{t:DR R}{w:R.α} (H:wb n p K i k (j::l) t) (hj:j∉l) (h1:i<j) (h2:j<n) (hw:R.D (p*(j-i)) (K*(j-i)+k) w):wb n p K i k l (oR t j w):=by
 delta oR;by_cases h:w=R.zero
 ·rw [if_pos h];exact ⟨H.nd,H.lt,H.dg,λq hq hl=>H.dl q hq (.tail _ hl)⟩
 ·rw [if_neg h]
  refine ⟨DI H.nd,λx hx=>((rA x).mp hx).elim (H.lt x) λe=>e▸ ⟨h1,h2⟩,λq hq=>?_,λq hq hl=>?_⟩
  ·rcases z4 hq with hq|rfl
   ·exact H.dg q hq
   ·refine R.gb (k:=K*(j-i)+k) ?_ hw
    by_cases hj:j∈kR t
    ·exact H.dl _ (wM hj) (.head _)
    ·simp only [uF hj];exact R.ai (JJ _) (JJ _) R.cj
  ·rcases z4 hq with hq|rfl
   ·exact H.dl q hq (.tail _ hl)
   ·exact absurd hl hj
structure ER (n p K0 k:Nat) (ov:DR R):Prop where
 nd:(kR ov).Nodup
 lt: ∀x∈kR ov,k<x/\x<n
 dg: ∀q∈ov,R.D p K0 q.2
def Ui {n p K K0 i k m j:Nat}{f w:R.α} (hf:R.D (p*(k-i)) (K*(k-i)+m) f) (hw:R.D p K0 w) (hi:i<k) (hj:k<j) (hK:K0<=K):R.D (p*(j-i)) (K*(j-i)+m) (R.mul f w):=by
 have e2:K*(k-i)+K<=K*(j-i):=by rw [<-Ku];exact JK _ (qau (JQ hi) hj)
 exact R.ai (by rw [<-Ku];exact JK _ (qau (JQ hi) hj):p*(k-i)+p<=p*(j-i)) (Jq (JM (ZK _ _ _)) (JZ (Jq (Jw hK _) e2) _)) (R.fm hf hw)
def bk (N B:Nat->R.α) (k:Nat):Nat->R.α:=λj=>if j<k then N j else B j
def FT {n p K0 K i k m:Nat}{t ov:DR R}{N B:Nat->R.α}{l:List Nat} (H:SR n p K i m t) (E:ER n p K0 k ov) (hl:l.Perm (kR ov)) (hB:B k=R.add (N k) (m4 ov B)) (hk:k∈kR t):m4 (EQ ov (lX t k) l t) (bk N B (k+1))=m4 t (bk N B k):=by
 rw [C5,V9 hl E.nd,Ng (b:=bk N B k) (b':=bk N B (k+1)) (k:=k) (x:=m4 ov B) H.nd hk]
 ·congr 2
  exact rU λx hx=>if_neg (by have:=(E.lt x hx).1;exact ZE (Za this))
 ·intro j hj
  delta bk;by_cases h:j<k
  ·rw [if_pos h,if_pos (ZJ h)]
  ·rw [if_neg h,if_neg (ZE (Za (Kc (ZG h) (Kn hj))))]
 ·delta bk
  rw [if_neg (J8 _),if_pos (J0 _),hB]
theorem FS {n p K i k m:Nat}{t:DR R}{N B:Nat->R.α} (H:SR n p K i m t) (hk:k∉kR t):m4 t (bk N B (k+1))=m4 t (bk N B k):=rU λx hx=>by
 have:x≠k:=λe=>hk (e▸hx)
 delta bk;by_cases h:x<k
 ·rw [if_pos h,if_pos (ZJ h)]
 ·rw [if_neg h,if_neg (ZE (Za (Kc (ZG h) (Kn this))))]
def nA (xs:List (Ar R.α)):DR R:=xs.foldl (λr a=>bif a.ft then oR r a.t a.w else r) []
def yN {xs:List (Ar R.α)}{a:Ar R.α}:nA (xs++ [a])=bif a.ft then oR (nA xs) a.t a.w else nA xs:=by unfold nA;rw [YO];rfl
def Hn {xs:List (Ar R.α)}{b:Nat->R.α}:m4 (nA xs) b=LP b xs:=by
 have go: ∀ (xs:List (Ar R.α)) (r:DR R),m4 (xs.foldl (λr a=>bif a.ft then oR r a.t a.w else r) r) b=R.add (m4 r b) (LP b xs):=by
  intro xs
  induction xs with
  |nil=>intro r;exact (R.add_zero _).symm
  |cons a xs ih=>
   intro r;simp only [Yo,ih];show _=R.add (m4 r b) (R.add (bif a.ft then R.mul a.w (b a.t) else R.zero) (LP b xs));cases a.ft with
   |true=>rw [cond_true,cond_true,z9,R.add_assoc,R.swap]
   |false=>rw [cond_false,cond_false,R.zero_add]
 exact (go xs []).trans (R.zero_add _)
def V6 {n p k s:Nat}: ∀ {xs:List (Ar R.α)},(∀a∈xs,a.t<n/\R.D p k a.w/\(a.ft=Qf->s<a.t)) ->rJ n p (k+xs.length) (nA xs)/\∀x∈kR (nA xs),s<x:=by
 intro xs;rw [<-List.reverse_reverse xs]
 generalize xs.reverse=ys
 induction ys with
 |nil=>exact λ_=>⟨⟨.nil,λx h=>absurd h JB,λq h=>absurd h JB⟩,λx h=>absurd h JB⟩
 |cons a ys ih=>
  intro h;rw [KG] at h ⊢;refine xA (ih λb hb=>h b (Zj _ hb)) λh1 h2=>?_;have zq1:=h a (JV _ (.head _));rw [yN,Jz,qam,<-Zf];refine vY a.ft (λhe=>?_) λhe=>?_
  ·rw [he]
   simp only [cond_true];refine ⟨DM h1 zq1.1 (R.ai (JA _) (Jv _ _) zq1.2.1),λx hx=>?_⟩;unfold oR at hx;by_cases hw:a.w=R.zero
   ·rw [if_pos hw] at hx;exact h2 x hx
   ·rw [if_neg hw] at hx
    exact ((rA x).mp hx).elim (h2 x) λe=>e▸zq1.2.2 he
  ·rw [he]
   exact ⟨⟨h1.nd,h1.lt,λq hq=>R.ai (JA _) (Zw _) (h1.dg q hq)⟩,h2⟩
end
section
variable {R:Rg}{d:Nat}{h h0:MH}{Q:aa->MH->Prop}{L:Ly}{M:Mc R.α}
structure gc (h g:MH) (T:List (DR R)):Prop where
 pre: ∃t,g=h++t
 at':g[h.length]?=Qa (.list ((J3 (h.length+1) T.length).map .ref))
 row: ∀ (i:Nat) (t:DR R),T[i]?=Qa t-> ∃ep,g[h.length+(i+1)]?=Qa (.dict ep (lU t))
structure Vl (g:MH) (aT:Nat) (T:List (DR R)):Prop where
 x: ∃rs:List Nat,g[aT]?=Qa (.list (rs.map .ref))/\rs.length=T.length/\∀ (i r:Nat) (t:DR R),rs[i]?=Qa r->T[i]?=Qa t-> ∃ep,g[r]?=Qa (.dict ep (lU t))
variable {g:MH}{aT:Nat}{T:List (DR R)}
def Bm {a n i:Nat} (hi:i<n):(J3 (a+1) n)[i]?=Qa (a+(i+1)):=by
 refine (qar hi).trans ?_
 congr 1;lia
theorem gc.r (H:gc h g T):Vl g h.length T:=⟨_,H.at',by rw [KV],λi r t hr ht=>by
 rw [Bm (kP ht)] at hr;refine mP hr ?_;exact H.row i t ht⟩
def Vl.cw {t:MH} (H:Vl g aT T):Vl (g++t) aT T:=by
 exact H.x.elim λrs zq7=>⟨rs,kI zq7.1,zq7.2.1,λi r t a b=>(zq7.2.2 i r t a b).elim λep e=>⟨ep,kI e⟩⟩
def gc.cw {t:MH} (H:gc h g T):gc h (g++t) T:=by
 refine H.pre.elim λt0 zq6=>?_;obtain rfl:=zq6;exact ⟨⟨_,JH ..⟩,kI H.at',λi t a=>(H.row i t a).elim λep e=>⟨ep,kI e⟩⟩
def gc.set {i:Nat}{t':DR R}{ep:Option Nat} (H:gc h g T) (hi:i<T.length):gc h (g.set (h.length+(i+1)) (.dict ep (lU t'))) (T.set i t'):=by
 refine (H.row i _ (Js hi)).elim λep0 zq3=>?_;refine H.pre.elim λt0 zq2=>?_;obtain rfl:=zq2;refine ⟨⟨_,vM (Jv _ _)⟩,by rw [Zb];exact lF (Ka (Kb (ZV _))) H.at',λj u hu=>?_⟩;by_cases e:i=j
 ·subst e
  rw [J7 hi] at hu;refine mP hu ?_;exact ⟨ep,lW zq3⟩
 ·rw [J6 e] at hu
  obtain ⟨ep1,e1⟩:=H.row j u hu;exact ⟨ep1,lF (by lia) e1⟩
def Du {n:Nat}{Tf:Nat->DR R}{ep:Nat->Option Nat}:gc h (h++ .list ((J3 (h.length+1) n).map .ref)::(JW n).map λi=> .dict (ep i) (lU (Tf i))) ((JW n).map Tf):=by
 refine ⟨⟨_,rfl⟩,by rw [Jt,J9];exact ap,λi t ht=>⟨ep i,?_⟩⟩;have hk:i<n:=by have:=kP ht;rwa [Jt,J9] at this
 rw [JC,Z6 hk] at ht;refine mP ht ?_;rw [pH];show ((JW n).map _)[i]?=_;rw [JC,Z6 hk];rfl
def Uz (M:Mc R.α) (i j s:Nat):List (Ar R.α):=if s<i then bx M s else if s=i then (bx M s).take j else []
def oL (M:Mc R.α) (i j:Nat):List (DR R):=(JW M.ab.length).map λs=>nA (Uz M i j s)
def UC {i j s:Nat} (hs:s<M.ab.length):(oL M i j)[s]?=Qa (nA (Uz M i j s)):=by
 delta oL;simp only [JC,Z6 hs];rfl
def AJ {i j:Nat}{a:Ar R.α} (hi:i<M.ab.length) (ha:(bx M i)[j]?=Qa a):oL M i (j+1)=(oL M i j).set i (bif a.ft then oR (nA ((bx M i).take j)) a.t a.w else nA ((bx M i).take j)):=by
 refine uO (by unfold oL;rw [Jt,Zb,Jt]) λs y hy=>?_;have hs:s<M.ab.length:=by have:=kP hy;unfold oL at this;rwa [Jt,J9] at this
 rw [UC hs] at hy;refine mP hy ?_;by_cases e:i=s
 ·subst e
  rw [J7 (by unfold oL;rw [Jt,J9];exact hs)];delta Uz;rw [if_neg (J8 _),if_pos rfl,Kt,ha];show _=Qa (nA (_++ [a]));rw [yN]
 ·refine (J6 e).trans ?_
  rw [UC hs];delta Uz;by_cases h1:s<i
  ·rw [if_pos h1,if_pos h1]
  ·rw [if_neg h1,if_neg h1,if_neg (Kn e),if_neg (Kn e)]
def AK {i:Nat}:oL M i (bx M i).length=oL M (i+1) 0:=by
 delta oL;refine ZO λs _=>congrArg nA ?_;delta Uz;by_cases h1:s<i
 ·rw [if_pos h1,if_pos (ZJ h1)]
 ·rw [if_neg h1]
  by_cases h2:s=i
  ·refine eqE h2 ?_
   rw [if_pos rfl,if_pos (J0 _),Zg]
  ·rw [if_neg h2,if_neg (ZE (Za (Kc (ZG h1) (Kn h2))))]
   by_cases h3:s=i+1
   ·rw [if_pos h3];rfl
   ·rw [if_neg h3]
end
section
variable {R:Rg}{d:Nat}{h h0:MH}{Q:aa->MH->Prop}{L:Ly}{M:Mc R.α}{R':Fl->Internal.Frame->MH->Prop}
structure wa where
 g:MH
 a:Option aa:=Qd
 b:Option aa:=Qd
def xl (L:Ly) (n0:Nat) (a b:Option aa):Internal.Frame:=Qa (.ref L.m)::Qa (.bool Qf)::Qa (.ref n0)::a::b::nn 6
abbrev ME:List Sm:= [.ite (.gy Qf [.ao (.var 4) Lf [],.not (.var 1)]) [.expr (.call (.lit (.ah 104)) [.af (.var 0) jv,.sub (.var 2) (.var 3),.af (.var 4) ly,.af (.var 4) th])] []]
abbrev zdV:List Sm:= [.fo [4] Qb (.sub (.af (.var 0) qH) (.var 3)) ME]
def GI {i j:Nat}:(oL M i j).length=M.ab.length:=by unfold oL;rw [Jt,J9]
def gc.im {g:MH}{T:List (DR R)} (H:gc h g T) (I:aq R h L M):aq R g L M:=by obtain ⟨t,rfl⟩:=H.pre;exact I.cw
def gc.up {g:MH}{T:List (DR R)} (H:gc h g T) {a:Nat}{o:ae} (e:h[a]?=Qa o):g[a]?=Qa o:=by obtain ⟨t,rfl⟩:=H.pre;exact kI e
def Gm {i:Nat}{xs:List (Ar R.α)} (h:M.ab[i]?=Qa xs):bx M i=xs:=by unfold bx;rw [h];rfl
def AB {i j:Nat}:Uz M i j i=(bx M i).take j:=by unfold Uz;rw [if_neg (J8 _),if_pos rfl]
theorem gc.su {i:Nat}{g:MH}{T:List (DR R)} (H:gc h g T) (hi:i<T.length):l9 g (.ref h.length) (.int (i:Int))=Qa (.ref (h.length+(i+1))):=sl (i:=i) H.at' (vO (Bm hi))
def MC {p k i j b:Nat}{a:Ar R.α}{s:wa} (hd:5<=d) (I:aq R h L M) (G:mL M p k) (U:om M) (hl:4*p+(k+300)<=3800) (hi:i<M.ab.length) (ha:(bx M i)[j]?=Qa a) (hb:h[b]?=Qa (pB R a)) (T:gc h s.g (oL M i j))
  (q: ∀s':wa,gc h s'.g (oL M i (j+1)) ->R' .nx (xl L h.length (vN i) s'.b) s'.g):cz (aj P0 d) ME (xl L h.length (vN i) (vR b)) s.g R':=by
 have ts:=AJ (M:=M) (j:=j) hi ha;have hB:=T.up hb;have hie:M.ab[i]?=Qa (bx M i):=by unfold bx;rw [Js hi];rfl
 have hm:=Ju hie;have e0:=UC (M:=M) (i:=i) (j:=j) hi;rw [AB] at e0;refine vY a.ft (λhe=>?_) λhe=>?_
 ·rw [he,cond_true] at ts
  refine (T.row i _ e0).elim λep hr=>?_;have ok:=(V6 (R:=R) (n:=M.ab.length) (p:=p) (k:=k) (s:=i) (xs:=(bx M i).take j) λc hc=>by
   exact ⟨(G.fv _ hm c (Kw hc)).1,(G.fv _ hm c (Kw hc)).2.2.2.1,λhe=>U i _ hie c (Kw hc) he⟩).1
  refine (UM (d:=d) (j:=a.t) (w:=a.w) (Jq (by decide) hd) hr ok (Jq G.n (by decide)) (R.ai (JA _) (Jv _ _) (G.fv _ hm a (Ju ha)).2.2.2.1) (Jq (Jw (Jw (Jq (by rw [Kx];exact XX _ _) (Jq (I.cr _ hm) G.c):((bx M i).take j).length<=300) k) _) hl)).elim λep' e=>?_;have N:=T.set (t':=oR (nA ((bx M i).take j)) a.t a.w) (ep:=ep') (by rw [GI];exact hi);rw [<-ts] at N;exact lJ (.p (U5 (Jq (by decide) hd:1<=d) hB)<| .t (he)<| .t (he)<| .v (nO (T.im I))<| .v (T.su (by rw [GI];exact hi))<| .v (qr hB)<| .v (a5 hB)<| .p (e)<| .z (q ⟨_,Qd,vR b⟩ N)) (by kernel_rfl)
 ·rw [he,cond_false] at ts
  have N:gc h s.g (oL M i (j+1)):=by
   simp only [ts,<-JD.mp e0|>.2,YT];exact T
  exact lJ (.p (U5 (Jq (by decide) hd:1<=d) hB)<| .f (he)<| .c2<| .z (q ⟨s.g,Qd,vR b⟩ N)) (by kernel_rfl)
def My {p k i:Nat}{s:wa} (hd:5<=d) (I:aq R h L M) (G:mL M p k) (U:om M) (hl:4*p+(k+300)<=3800) (hi:i<M.ab.length) (T:gc h s.g (oL M i 0)):
  ∃s':wa,gc h s'.g (oL M (i+1) 0)/\exec (aj P0 d) (.fo [4] Qb (.sub (.af (.var 0) 1634886515) (.var 3)) ME) (xl L h.length (vN i) s.b) s.g=Qa ((.nx,xl L h.length (vN i) s'.b),s'.g):=by
 refine (I.nj hi).elim λr zq3=>zq3.elim λas zq4=>?_;refine (sg (c:=aj P0 d) (tg:=[4]) (many:=Qb) (a:=r) (e:=.sub (.af (.var 0) 1634886515) (.var 3)) (b:=ME) (vs:=as.map .ref) (λs':wa=>xl L h.length (vN i) s'.b) wa.g (λj s'=>gc h s'.g (oL M i j)) s (zq4.2.1.le I zq4.2.2) rfl (λj s' T2=>T2.up zq4.2.1.l) (by exact lR (.v (pI (T.im I))<| .v (sl (T.im I).ab zq4.1)<| .z (cv (.ref r) s.g)) rfl) T λj v s' R2 _ hv T2 C2=>?_).elim λs' e=>⟨s',by rw [<-AK];exact zq4.2.1.n▸e.1,e.2⟩;refine (zq4.2.1.a j v hv).elim λb zq1=>zq1.elim λx zq2=>?_;refine eqB zq2.1 ?_;exact mT (MC hd I G U hl hi zq2.2.1 zq2.2.2 T2 C2.nx)
abbrev aH (h:MH) (n:Nat):MH:=h++ .list ((J3 (h.length+1) n).map .ref)::(JW n).map λ_=> .dict (Qa 0) []
def zbN:gc h (aH h M.ab.length) (oL M 0 0):=by
 have e:oL M 0 0=(JW M.ab.length).map λ_=>([]:DR R):=by
  delta oL;refine ZO λs _=>?_;delta Uz;rw [if_neg (Zh _)];by_cases h:s=0
  ·rw [if_pos h];rfl
  ·rw [if_neg h];rfl
 simp only [e];exact Du (ep:=λ_=>Qa 0) (Tf:=λ_=>([]:DR R))
def MB (I:aq R h L M):eval (aj P0 d) (.comp (.dict []) [5] Qb (.af (.var 0) lV) []) (Qa (.ref L.m)::Qa (.bool Qf)::nn 9) h=Qa (.ref h.length,aH h M.ab.length):=by
 have hl:(L.bc.map aa.ref).length=M.ab.length:=by rw [Jt,I.len]
 refine W.eq (zS (a:=L.aA) (vs:=L.bc.map .ref) (λi=> .dict (Qa 0) []) (by rw [hl];exact Jx I.bh (show 10000<200000 by decide)) (by rw [hl];exact Jq I.bh (by decide)) (W.of (a:=.ref L.aA) (W.eq (by exact lR (.v (pI I)<| .z (cv (.ref L.aA) h)) (by kernel_rfl):WE (aj P0 d) (Qa (.ref L.m)::Qa (.bool Qf)::nn 9) (.af (.var 0) lV) h λv g=>v= .ref L.aA/\g=h)) ⟨rfl,I.ab,λi v t _=>?_,by rw [hl];exact ⟨rfl,rfl⟩⟩));exact lR (.c<| .z (cv (.ref (h++t).length) ((h++t)++ [.dict (Qa 0) []]))) rfl
def FM {p k:Nat} (hd:6<=d) (I:aq R h L M) (G:mL M p k) (U:om M) (hl:4*p+(k+300)<=3800) (q: ∀t,gc h (h++t) (oL M M.ab.length 0) ->Q (.ref h.length) (h++t)):WF P0 d 108 [.ref L.m,.bool Qf] h Q:=by
 refine l0 (K:=5) hd (Qa (.ref L.m)::Qa (.bool Qf)::nn 9) tT rfl λd' h'=>?_;have d1:1<=d':=Jq (by decide) h';refine (pa (c:=aj P0 d') (x:=3) (n:=M.ab.length) (e:=.call (.lit (.ty 491260897125)) [.ao (.var 0) tG []]) (b:=zdV) (λs:wa=>xl L h.length s.a s.b) wa.g (λi s=>gc h s.g (oL M i 0)) ⟨aH h M.ab.length,Qd,Qd⟩ (y7 I) rfl (by exact lR (.p (m9 d1 ((zbN (h:=h) (M:=M)).im I))<| .c<| .z (cv (.gf M.ab.length) (aH h M.ab.length))) rfl) (zbN (h:=h) (M:=M)) λi s R1 _ hi T1 C1=>(My (d:=d') h' I G U hl hi T1).elim λs' e=>by exact lJ (.s (e.2)<| .z (C1.nx ⟨s'.g,vN i,s'.b⟩ e.1)) rfl).elim λs e=>e.1.pre.elim λt ht=>?_;have e2:=e.2;rw [ht] at e2;exact lJ (.p (m9 d1 I)<| .c<| .f ((decide_eq_false (by have:=G.n;lia):decide ((M.ab.length:Int)>2000)=Qb))<| .p (MB (d:=d') I)<| .s (e2)<| .z (q t (ht▸e.1:gc h (h++t) (oL M M.ab.length 0)))) rfl
end
section
variable {R:Rg}{c:Cx}{h h0:MH}{Q:aa->MH->Prop}
theorem OT {r:DR R}:((lU r).all λp=>lN p.1==1)=true:=ZD.mpr λp hp=>by
 refine (JO.mp hp).elim λx zq2=>?_;refine eqE zq2.2 ?_;rfl
def I7 {a:Nat}{ep:Option Nat}{r:DR R} (ha:h[a]?=Qa (.dict ep (lU r))) (q:Q (.ref h.length) (h++ [.dict Qd (lU r)])):WV c (.ty D5) [.ref a] h Q:=by
 refine Pp (v:=.ref h.length) (h':=h++ [.dict Qd (lU r)]) ?_ q;show ay ((dictAt h (.ref a)).bind λd=>au (d.2.all λp=>lN p.1==1) (lZ h (.dict Qd d.2))) _=_;rw [nE ha];show ay (au ((lU r).all λp=>lN p.1==1) (lZ h (.dict Qd (lU r)))) _=_;rw [OT];rfl
def qp (r:DR R):List Int:=(kR r).map KH
def EU {r:DR R}:pG ((lU r).map (·.1))=Qa (qp r):=by
 delta pG
 induction r with
 |nil=>rfl
 |cons p t ih=>
  show List.mapM aa.int? (aa.int (p.1:Int)::(lU t).map (·.1))=_;rw [Yt,ih];rfl
def lP (r:DR R):List Nat:=(pO (qp r)).map qbg
def nK {r:DR R}:(lP r).Perm (kR r):=by
 have h:(pO (qp r)).Perm (qp r):=Xm ..;have h:=h.map qbg;unfold qp at h;rw [KO] at h;rw [((ZO λx _=>rfl).trans (List.map_id _):(kR r).map (qbg ∘ KH)=kR r)] at h;exact h
def Hy {r:DR R}:(pO (qp r)).map aa.int=(lP r).map λn:Nat=>aa.int (n:Int):=by
 delta lP;rw [KO];refine ZO λx hx=>?_;refine (JO.mp ((Xm ..).mem_iff.mp hx:x∈qp r)).elim λn zq1=>?_;refine eqE zq1.2 ?_;rfl
def Az {a:Nat}{ep:Option Nat}{r:DR R} (ha:h[a]?=Qa (.dict ep (lU r))) (h1:r≠ []) (h2:r.length<64) (q:Q (.ref h.length) (h++ [.list ((lP r).map λn:Nat=>aa.int (n:Int))])):WV c (.bi rX) [.ref a] h Q:=by
 refine Gw (v:=.ref h.length) (h':=h++ [.list ((lP r).map λn:Nat=>aa.int (n:Int))]) ?_ q;show ay ((dictAt h (.ref a)).bind _) _=_;rw [nE ha];show ay ((pG ((lU r).map (·.1))).bind _) _=_;rw [EU];show ay (au (!(qp r).isEmpty && Zc ((qp r).length+1) 64) _) _=_;have e2:(qp r).isEmpty=false:=by
  cases r with
  |nil=>exact absurd rfl h1
  |cons _ _=>rfl
 simp only [(by unfold qp kR;rw [Jt,Jt]:(qp r).length=r.length),e2,Kq (Za h2),Hy];rfl
theorem V8 {r:DR R}:(kR r).length=r.length:=Jt ..
theorem c6 (z:Cx) {a:Nat}{ep:Option Nat}{r:DR R} (ha:h[a]?=Qa (.dict ep (lU r))):kT z (.ty D5) [.ref a] h=Qa (.ref h.length,h++ [.dict Qd (lU r)]):=W.eq (I7 ha ⟨rfl,rfl⟩)
theorem fH (z:Cx) {a:Nat}{ep:Option Nat}{r:DR R} (ha:h[a]?=Qa (.dict ep (lU r))) (h1:r≠ []) (h2:r.length<=60):kT z (.bi rX) [.ref a] h=Qa (.ref h.length,h++ [.list ((lP r).map λn:Nat=>aa.int (n:Int))]):=W.eq (Az ha h1 (Jx h2 (by decide)) ⟨rfl,rfl⟩)
def fE (k:Nat) {a:Nat}{ep:Option Nat}{r:DR R} (ha:h[a]?=Qa (.dict ep (lU r))):nG .jm (.int k) (.ref a) h=Qa (decide (k∈kR r)):=by
 show ay ((lG h (.ref a)).bind _) ((dictAt h (.ref a)).bind λd=>au (kX d.2 (.int k)) (Qa (kY d.2 (.int k)).isSome))=_;rw [tE ha,nE ha];show au (kX (lU r) (.int k)) (Qa (kY (lU r) (.int k)).isSome)=_;rw [uS,xJ];by_cases hk:k∈kR r
 ·rw [if_pos hk,decide_eq_true hk];rfl
 ·rw [if_neg hk,decide_eq_false hk];rfl
theorem sR {k a:Nat}{ep:Option Nat}{r:DR R} (ha:h[a]?=Qa (.dict ep (lU r))) (hk:k∈kR r):l9 h (.ref a) (.int k)=Qa (R.e (lX r k)):=sd ha uS (by rw [xJ,if_pos hk])
theorem PY (z:Cx) {a:Nat}{ep:Option Nat}{r:DR R} (ha:h[a]?=Qa (.dict ep (lU r))):kT z (.bi uX) [.ref a] h=Qa (.int r.length,h):=W.eq (Dl ha ⟨by unfold lU;rw [Jt],rfl⟩)
end
section
variable {R:Rg}{d:Nat}{h h0:MH}{Q:aa->MH->Prop}{R':Fl->Internal.Frame->MH->Prop}
structure SX (R:Rg) where
 h:MH
 aT:Nat
 n:Nat
 p:Nat
 K:Nat
 Tf:Nat->DR R
structure lq (X:SX R):Prop where
 er: ∀k,k<X.n->ER X.n X.p X.K k (X.Tf k)
 n:X.n<=60
 bd:4*(X.p*X.n)+(X.K*X.n+X.n+1)<=3800
variable {X:SX R}
structure nM (X:SX R) (i k:Nat) (t:DR R):Prop where
 sr:SR X.n X.p X.K i k t
 ev: ∀N B:Nat->R.α,(∀s,s<X.n->B s=R.add (N s) (m4 (X.Tf s) B)) ->m4 t (bk N B k)=m4 (X.Tf i) B
 un:k<=i->t=X.Tf i
def nM.zero {i:Nat} (O:lq X) (hi:i<X.n):nM X i 0 (X.Tf i):=by
 have E:=O.er i hi;refine ⟨⟨E.nd,E.lt,λq hq=>?_⟩,λN B _=>rfl,λ_=>rfl⟩;have h1:i<q.1:=(E.lt _ (JO.mpr ⟨q,hq,rfl⟩)).1;exact R.ai (ZZ _ (YM h1)) (ZZ _ (YM h1)) (E.dg q hq)
theorem nM.qf {i k:Nat}{t:DR R} (H:nM X i k t) (hk:k∉kR t):nM X i (k+1) t:=
 ⟨H.sr.mono (Zw _),λN B e=>(FS H.sr hk).trans (H.ev N B e),λh=>H.un (JQ (KA h))⟩
def nM.step {i k:Nat}{t t':DR R}{l:List Nat} (O:lq X) (H:nM X i k t) (hk:k∈kR t) (hl:l.Perm (kR (X.Tf k))) (e:t'=EQ (X.Tf k) (lX t k) l t) (D:wb X.n X.p X.K i k [] t'):nM X i (k+1) t':=by
 have hkn:=H.sr.lt k hk;exact ⟨⟨D.nd,D.lt,D.dg⟩,λN B q=>by rw [e,FT H.sr (O.er k hkn.2) hl (q k hkn.2) hk];exact H.ev N B q,λh=>absurd hkn.1 (ZE (JQ (KA h)))⟩
structure ju (R:Rg) where
 g:MH
 T:List (DR R)
 a:Option aa:=Qd
 b:Option aa:=Qd
 c:Option aa:=Qd
 d:Option aa:=Qd
 e:Option aa:=Qd
 f:Option aa:=Qd
def jg (X:SX R) (a b c d e f:Option aa):Internal.Frame:=Qa (.ah (112+R.i))::Qa (.ref X.aT)::Qa (.ref X.h.length)::a::b::c::d::e::f::nn 6
structure VY (X:SX R) (g:MH) (a:Nat) (o:ae):Prop where
 ge:X.h.length+X.n<a
 at':g[a]?=Qa o
theorem VY.set {g:MH}{a i:Nat}{o o':ae} (B:VY X g a o) (hi:i<X.n):VY X (g.set (X.h.length+(i+1)) o') a o:=⟨B.ge,lF (by have:=B.ge;exact Z2 (Jx (JL (JA _) (Za hi)) this)) B.at'⟩
theorem VY.cw {g t:MH}{a:Nat}{o:ae} (B:VY X g a o):VY X (g++t) a o:=⟨B.ge,kI B.at'⟩
structure JS (R:Rg) where
 g:MH
 t:DR R
 b:Option aa:=Qd
structure JP (X:SX R) (T:List (DR R)) (i k aO aS:Nat) (t0:DR R) (j:Nat) (s:JS R):Prop where
 T:gc X.h s.g (T.set i s.t)
 e:s.t=EQ (X.Tf k) (lX t0 k) ((lP (X.Tf k)).take j) t0
 D:wb X.n X.p X.K i k ((lP (X.Tf k)).drop j) s.t
 o:VY X s.g aO (.dict Qd (lU (X.Tf k)))
 l:VY X s.g aS (.list ((lP (X.Tf k)).map λn:Nat=> .int (n:Int)))
theorem G4 {r:DR R} (h:(kR r).Nodup):(lP r).Nodup:=nK.nodup_iff.mpr h
def qN {α:Type}{l:List α}{j:Nat}{x:α} (h:l[j]?=Qa x):l.drop j=x::l.drop (j+1):=by
 refine (JD.mp h).elim λh1 zq1=>?_;refine eqE zq1 ?_;exact Kg h1
def wJ {α:Type}{l:List α}{j:Nat}{x:α} (h:l[j]?=Qa x):l.take (j+1)=l.take j++ [x]:=by
 simp only [Kt,h];rfl
theorem wb.ok {n p K i k P K':Nat}{l:List Nat}{t:DR R} (H:wb n p K i k l t) (h1:p*n<=P) (h2:K*n+(k+1)<=K'):rJ n P K' t:=⟨H.nd,λx hx=>(H.lt x hx).2,λq hq=>by
 exact R.ai (Jq (JK _ (by have:q.1<n:=((H.lt _ (JO.mpr ⟨q,hq,rfl⟩)).2);exact JQ (Kf this):q.1-i<=n)) h1) (Jq (JZ (JK _ (by have:q.1<n:=((H.lt _ (JO.mpr ⟨q,hq,rfl⟩)).2);exact JQ (Kf this):q.1-i<=n)) _) h2) (H.dg q hq)⟩
abbrev jB:List Sm:= [.expr (.call (.lit (.ah 104)) [.var 0,.sub (.var 2) (.var 6),.var 8,.ao (.var 0) uW [.var 7,.sub (.var 4) (.var 8)]])]
def zb4 {p K n k i x:Nat} (hi:i<k) (hk:k<x) (hx:x<n) (bd:4*(p*n)+(K*n+n+1)<=3800):p*(x-i)<=p*n/\K*(x-i)+k<=K*n+(k+1)/\4*(p*(k-i)+p)+(K*(k-i)+k+K)<=3800/\4*(p*n)+(K*n+(k+1))<=3800:=by
 have e3:p*(k-i)+p<=p*n:=by rw [<-Ku];exact JK _ (Za (Kf (Zm hk hx)))
 have e4:K*(k-i)+K<=K*n:=by rw [<-Ku];exact JK _ (Za (Kf (Zm hk hx)))
 exact ⟨JK _ (JQ (Kf hx)),JL (JK _ (JQ (Kf hx)):K*(x-i)<=K*n) (Jv _ _),Jq (JL (JK 4 e3) (Jq (JM (ZK _ _ _)) (Zp (JL e4 (JQ (Zm hk hx)))))) bd,Jq (Jw (Jw (Zp (Zm hk hx)) _) _) bd⟩
def zb3 {T:List (DR R)}{i k aO aS j x:Nat}{t0:DR R}{s:JS R} (hd:5<=d) (O:lq X) (hT:T.length=X.n) (H:SR X.n X.p X.K i k t0) (hi:i<k) (hk:k∈kR t0) (hx:(lP (X.Tf k))[j]?=Qa x) (P:JP X T i k aO aS t0 j s)
  (q: ∀s',JP X T i k aO aS t0 (j+1) s'->R' .nx (jg X (vN k) (vR aO) (Qa (R.e R.dz)) (vN i) (Qa (R.e (lX t0 k))) s'.b) s'.g):
  cz (aj P0 d) jB (jg X (vN k) (vR aO) (Qa (R.e R.dz)) (vN i) (Qa (R.e (lX t0 k))) (vN x)) s.g R':=by
 have E:=O.er k (H.lt k hk).2;have hxk:x∈kR (X.Tf k):=nK.mem_iff.mp (Ju hx);have se:=E.lt x hxk;have hin:i<X.n:=Zm hi (H.lt k hk).2;have D:=P.D;rw [qN hx] at D;have nd:=G4 E.nd;rw [<-KC j (lP (X.Tf k)),qN hx] at nd;have hil:i<(T.set i s.t).length:=by rw [Zb,hT];exact hin
 have hf:=H.get hk;have hw:R.D X.p X.K (lX (X.Tf k) x):=E.dg _ (wM hxk);have B:=zb4 (p:=X.p) (K:=X.K) hi se.1 se.2 O.bd;refine (P.T.row i s.t (J7 (by rw [hT];exact hin))).elim λep hr=>?_;refine (UM (d:=d) (j:=x) (w:=R.mul (lX t0 k) (lX (X.Tf k) x)) (n:=X.n) (P:=X.p*X.n) (K:=X.K*X.n+(k+1)) (Jq (by decide) hd) hr (D.ok (JA _) (JA _)) (Jq O.n (by decide)) (R.ai B.1 B.2.1 (Ui (n:=0) (j:=x) hf hw hi se.1 (JA _))) B.2.2.2).elim λep' e=>?_;have T':=P.T.set (t':=oR s.t x (R.mul (lX t0 k) (lX (X.Tf k) x))) (ep:=ep') hil;rw [qbj] at T';have N:JP X T i k aO aS t0 (j+1) ⟨_,oR s.t x (R.mul (lX t0 k) (lX (X.Tf k) x)),vN x⟩:=⟨T',by
  show oR s.t x _=_;rw [wJ hx];delta EQ;rw [YO,P.e];rfl,D.add ((JN.mp (ZR.mp nd).2.1).1) (Zm hi se.1) se.2 (Ui (n:=0) (j:=x) hf hw hi se.1 (JA _)),P.o.set hin,P.l.set hin⟩
 exact lJ (.v ((P.T.su hil:l9 s.g (.ref X.h.length) (.int (i:Int))=Qa (.ref (X.h.length+(i+1)))))<| .v (sR P.o.at' hxk)<| .q (R.ti (Jq (by decide) hd) hf hw B.2.2.1)<| .p (e)<| .z (q _ N)) (by kernel_rfl)
end
section
variable {R:Rg}{d:Nat}{h h0:MH}{Q:aa->MH->Prop}{R':Fl->Internal.Frame->MH->Prop}{X:SX R}
structure KP (X:SX R) (k i:Nat) (s:ju R):Prop where
 T:gc X.h s.g s.T
 len:s.T.length=X.n
 row: ∀r t,s.T[r]?=Qa t->nM X r (if r<i then k+1 else k) t
structure IP (X:SX R) (k aO i:Nat) (s:ju R):Prop where
 K:KP X k i s
 o:VY X s.g aO (.dict Qd (lU (X.Tf k)))
theorem KP.next {k:Nat}{s s':ju R} (K:KP X k X.n s) (e1:s'.g=s.g) (e2:s'.T=s.T):KP X (k+1) 0 s':=⟨by rw [e1,e2];exact K.T,by rw [e2];exact K.len,λr t h=>by
 rw [e2] at h
 have:=K.row r t h
 rw [if_pos (by rw [<-K.len];exact kP h)] at this;rwa [if_neg (Zh _)]⟩
theorem KP.yo {k i:Nat}{s s':ju R}{t':DR R} (K:KP X k i s) (hT:gc X.h s'.g s'.T) (e:s'.T=s.T.set i t') (hi:i<X.n) (ht:nM X i (k+1) t'):KP X k (i+1) s':=⟨hT,by rw [e,Zb];exact K.len,λr t h=>by
 rw [e] at h;by_cases hr:i=r
 ·subst hr
  rw [J7 (by rw [K.len];exact hi)] at h;refine mP h ?_;rw [if_pos (J0 _)];exact ht
 ·rw [J6 hr] at h
  have:=K.row r t h
  by_cases h1:r<i
  ·rw [if_pos h1] at this;rwa [if_pos (ZJ h1)]
  ·rw [if_neg h1] at this;rwa [if_neg (ZE (Za (Kc (ZG h1) hr)))]⟩
def G6 {α:Type}{l:List α}{i:Nat}{x:α} (h:l[i]?=Qa x):l.set i x=l:=by
 refine (JD.mp h).elim λh1 zq2=>?_;refine eqE zq2 ?_;exact YT h1
abbrev iB:List Sm:= [.ite (.ba .jm (.var 3) (.sub (.var 2) (.var 6))) [.bg (.nm 7) (.ao (.var 0) uW [.sub (.sub (.var 2) (.var 6)) (.var 3),.var 5]),.fo [8] Qb (.call (.lit (.bi uz)) [.var 4]) jB] []]
def zc8 {k aO i:Nat}{s:ju R}{t0:DR R} (hd:5<=d) (O:lq X) (hk:k<X.n) (hi:i<X.n) (hne:X.Tf k≠ []) (P:IP X k aO i s) (hie:s.T[i]?=Qa t0) (I:nM X i k t0) (hin:k∈kR t0):
  ∃s',IP X k aO (i+1) s'/\s'.e=Qa (R.e (lX t0 k))/\exec (aj P0 d) (.fo [8] Qb (.call (.lit (.bi 126922498794852)) [.var 4]) jB) (jg X (vN k) (vR aO) (Qa (R.e R.dz)) (vN i) (Qa (R.e (lX t0 k))) s.f) s.g=Qa ((.nx,jg X (vN k) (vR aO) (Qa (R.e R.dz)) (vN i) (Qa (R.e (lX t0 k))) s'.f),s'.g):=by
 have hlen:(X.Tf k).length<=60:=Jq (rJ.mk (O.er k hk).nd (λx hx=>((O.er k hk).lt x hx).2) (O.er k hk).dg:rJ X.n X.p X.K (X.Tf k)).len O.n;have w:WS (aj P0 d) (.fo [8] Qb (.call (.lit (.bi 126922498794852)) [.var 4]) jB) (jg X (vN k) (vR aO) (Qa (R.e R.dz)) (vN i) (Qa (R.e (lX t0 k))) s.f) s.g λfl f g=> ∃s':JS R,JP X s.T i k aO s.g.length t0 (lP (X.Tf k)).length s'/\fl= .nx/\f=jg X (vN k) (vR aO) (Qa (R.e R.dz)) (vN i) (Qa (R.e (lX t0 k))) s'.b/\g=s'.g:=by
  have e0:WE (aj P0 d) (jg X (vN k) (vR aO) (Qa (R.e R.dz)) (vN i) (Qa (R.e (lX t0 k))) s.f) (.call (.lit (.bi 126922498794852)) [.var 4]) s.g λv g=>v= .ref s.g.length/\g=s.g++ [.list ((lP (X.Tf k)).map λn:Nat=> .int (n:Int))]:=by exact lR (.p (fH (aj P0 d) P.o.at' hne hlen)<| .z (cv (.ref s.g.length) (s.g++ [.list ((lP (X.Tf k)).map λn:Nat=> .int (n:Int))]))) rfl
  refine wA (a:=s.g.length) (vs:=(lP (X.Tf k)).map λn:Nat=> .int (n:Int)) (λs':JS R=>jg X (vN k) (vR aO) (Qa (R.e R.dz)) (vN i) (Qa (R.e (lX t0 k))) s'.b) JS.g (JP X s.T i k aO s.g.length t0) (by rw [(Jt .. :((lP (X.Tf k)).map λn:Nat=>aa.int (n:Int)).length=(lP (X.Tf k)).length)];exact Jx (by rw [nK.length_eq,V8];exact hlen:(lP (X.Tf k)).length<=60) (show 60<200000 by decide)) ⟨s.g++ [.list ((lP (X.Tf k)).map λn:Nat=> .int (n:Int))],t0,s.f⟩ (λj s' P'=>P'.l.at') (e0.mono λv g q=>⟨q.1,rfl,q.2,by rw [G6 hie];exact P.K.T.cw,rfl,I.sr.l _,P.o.cw,Zm P.o.ge (lI P.o.at'),ap⟩) (λj v s' R2 hv P2 C2=>?_) λs' P'=>⟨s',(Jt .. :((lP (X.Tf k)).map λn:Nat=>aa.int (n:Int)).length=(lP (X.Tf k)).length)▸P',rfl,rfl,rfl⟩;rw [JC] at hv;refine (Zl.mp hv).elim λx zq1=>?_;refine eqE zq1.2 ?_;exact mT (zb3 hd O P.K.len I.sr (I.sr.lt k hin).1 hin zq1.1 P2 C2.nx)
 obtain ⟨⟨fl,f⟩,g,e,s',P',q1,q2,q3⟩:=W.get w;refine eqE q1 ?_;subst q2;subst q3;have D:=P'.D;have e1:=P'.e;rw [Ke] at D;rw [Zg] at e1;exact ⟨⟨s'.g,s.T.set i s'.t,Qd,Qd,Qd,Qd,Qa (R.e (lX t0 k)),s'.b⟩,⟨P.K.yo P'.T rfl hi (I.step O hin nK e1 D),P'.o⟩,rfl,e⟩
def zb6 {p K n k i:Nat} (hk:k<n) (bd:4*(p*n)+(K*n+n+1)<=3800):4*(p*(k-i)+0)+(K*(k-i)+k+0)<=3800:=by
 exact Jq (JL (JK 4 (JK _ (JQ (Kf hk)):p*(k-i)<=p*n)) (Zp (JL (JK _ (JQ (Kf hk)):K*(k-i)<=K*n) (JQ hk)):K*(k-i)+k<=K*n+n+1)) bd
def zb5 {k aO i:Nat}{s:ju R} (hd:5<=d) (O:lq X) (hk:k<X.n) (hi:i<X.n) (hne:X.Tf k≠ []) (P:IP X k aO i s)
  (q: ∀s',IP X k aO (i+1) s'->R' .nx (jg X (vN k) (vR aO) (Qa (R.e R.dz)) (vN i) s'.e s'.f) s'.g):
  cz (aj P0 d) iB (jg X (vN k) (vR aO) (Qa (R.e R.dz)) (vN i) s.e s.f) s.g R':=by
 have hil:i<s.T.length:=by rw [P.K.len];exact hi
 have hie:=Js hil;have I:=P.K.row i _ hie;rw [if_neg (J8 _)] at I;refine (P.K.T.row i _ hie).elim λep hr=>?_;cases (inferInstance:Decidable (k∈kR s.T[i])) with
 |isTrue hin=>
  refine (zc8 (d:=d) hd O hk hi hne P hie I hin).elim λs' e=>?_;have e1:=R.ti (d:=d) (Jq (by decide) hd) (I.sr.get hin) R.gp (zb6 hk O.bd);rw [R.mul_comm,R.one_mul] at e1;exact lJ (.v ((P.K.T.su hil))<| .b (fE k hr)<| .t (decide_eq_true hin)<| .v ((P.K.T.su hil))<| .v (sR hr hin)<| .q (e1)<| .s (e.2.2)<| .z ((show R' .nx (jg X (vN k) (vR aO) (Qa (R.e R.dz)) (vN i) (Qa (R.e (lX s.T[i] k))) s'.f) s'.g from e.2.1▸q s' e.1))) rfl
 |isFalse hin=>exact lJ (.v ((P.K.T.su hil))<| .b (fE k hr)<| .f (decide_eq_false hin)<| .z (q s ⟨P.K.yo (t':=s.T[i]) P.K.T (G6 hie).symm hi (I.qf hin),P.o⟩)) rfl
end
section
variable {R:Rg}{d:Nat}{h h0:MH}{Q:aa->MH->Prop}{R':Fl->Internal.Frame->MH->Prop}{X:SX R}
def gc.lt {h g:MH}{T:List (DR R)} (H:gc h g T):h.length+T.length<g.length:=by
 cases e:T.length with
 |zero=>have:=lI H.at';exact KA (Za this)
 |succ n=>
  refine (H.row n _ (Js (KA (JM (qaw e))))).elim λep zq1=>?_
  have:=lI zq1;exact this
def gc.ln (z:Cx) {h g:MH}{T:List (DR R)}{n:Nat} (H:gc h g T) (hn:T.length=n):kT z (.bi uX) [.ref h.length] g=Qa (.int n,g):=by rw [EG H.at',Jt,KV,hn]
theorem KP.ja {k:Nat}{s s':ju R} (O:lq X) (K:KP X k 0 s) (e:X.Tf k= []) (e1:gc X.h s'.g s'.T) (e2:s'.T=s.T):KP X (k+1) 0 s':=⟨e1,by rw [e2];exact K.len,λr t h=>by
 rw [e2] at h;have I:=K.row r t h;rw [if_neg (Zh _)] at I ⊢;by_cases hk:k∈kR t
 ·refine I.step (l:=[]) O hk (by rw [e];exact .nil) (by rw [e];rfl) ⟨I.sr.nd,I.sr.lt,(I.sr.mono (Zw k)).dg,λq _ hq=>absurd hq JB⟩
 ·exact I.qf hk⟩
abbrev kB:List Sm:= [.bg (.nm 4) (.call (.lit (.ty 1684628340)) [.sub (.var 2) (.var 3)]),.ite (.ba .eq (.call (.lit (.bi 7103854)) [.var 4]) (.lit (.int 0))) [.cont] [],.bg (.nm 5) (.ao (.var 0) HF [.ao (.var 4) 6776180 [.var 3,.af (.var 0) nW]]),.fo [6] Qb (.call (.lit (.ty jj)) [.call (.lit (.bi 7103854)) [.var 2]]) iB]
abbrev xn:Ex:= .call (.lit (.ty 491260897125)) [.call (.lit (.bi 7103854)) [.var 2]]
theorem zc9 {k aO:Nat}{s:ju R} (hd:5<=d) (O:lq X) (hk:k<X.n) (hne:X.Tf k≠ []) (P:IP X k aO 0 s): ∃s',KP X (k+1) 0 s'/\exec (aj P0 d) (.fo [6] Qb xn iB) (jg X (vN k) (vR aO) (Qa (R.e R.dz)) s.d s.e s.f) s.g=Qa ((.nx,jg X (vN k) (vR aO) (Qa (R.e R.dz)) s'.d s'.e s'.f),s'.g):=
 (pa (c:=aj P0 d) (x:=6) (n:=X.n) (e:=xn) (b:=iB) (λs':ju R=>jg X (vN k) (vR aO) (Qa (R.e R.dz)) s'.d s'.e s'.f) ju.g (IP X k aO) s (Jq O.n (by decide)) rfl (by exact lR (.p (P.K.T.ln (aj P0 d) P.K.len)<| .c<| .z (cv (.gf X.n) s.g)) (by kernel_rfl)) P λi s' R1 _ hi P1 C1=>zb5 hd O hk hi hne P1 λs2 P2=>C1.nx {s2 with d:=vN i} ⟨⟨P2.K.T,P2.K.len,P2.K.row⟩,P2.o⟩).elim λs' e=>⟨s',e.1.K.next rfl rfl,e.2⟩
theorem Rg.st (R:Rg) (hd:3<=d) (h:MH):l5 (aj P0 d) (.ah (112+R.i)) PH [R.e R.zero] h h=Qa (R.e R.dz,h):=W.eq (R.gg hd ⟨rfl,rfl⟩)
def zb2 {k:Nat}{s:ju R} (hd:6<=d) (O:lq X) (hk:k<X.n) (K:KP X k 0 s)
  (q1: ∀s',KP X (k+1) 0 s'->R' .nx (jg X (vN k) s'.b s'.c s'.d s'.e s'.f) s'.g) (q2: ∀s',KP X (k+1) 0 s'->R' .ct (jg X (vN k) s'.b s'.c s'.d s'.e s'.f) s'.g):
  cz (aj P0 d) kB (jg X (vN k) s.b s.c s.d s.e s.f) s.g R':=by
 have hkl:k<s.T.length:=by rw [K.len];exact hk
 have I:=K.row k _ (Js hkl);rw [if_neg (Zh _)] at I;refine (K.T.row k _ (Js hkl)).elim λep hr=>?_;rw [I.un (JA _)] at hr;have hlt:=K.T.lt;rw [K.len] at hlt;have o1:VY X (s.g++ [.dict Qd (lU (X.Tf k))]) s.g.length (.dict Qd (lU (X.Tf k))):=⟨hlt,ap⟩;cases (inferInstance:Decidable ((X.Tf k).length=0)) with
 |isTrue hz=>
  have hb:(((X.Tf k).length:Int)==0)=true:=by rw [hz];rfl
  exact lJ (.v ((K.T.su hkl:l9 s.g (.ref X.h.length) (.int (k:Int))=Qa (.ref (X.h.length+(k+1)))))<| .p (c6 (aj P0 d) hr)<| .p (PY (aj P0 d) o1.at')<| .k (ug (X.Tf k).length 0)<| .t (hb)<| .z (q2 {s with g:=s.g++ [.dict Qd (lU (X.Tf k))],b:=vR s.g.length} (K.ja O (List.eq_nil_of_length_eq_zero hz) K.T.cw rfl))) rfl
 |isFalse hz=>
  refine (zc9 (d:=d) (s:={s with g:=s.g++ [.dict Qd (lU (X.Tf k))]}) (Jq (by decide) hd) O hk (λe=>hz (by rw [e];rfl)) ⟨⟨K.T.cw,K.len,K.row⟩,o1⟩).elim λs' e=>?_;have eg:=PZ (aj P0 d) o1.at' k;rw [uF λq=>absurd ((O.er k hk).lt k q).1 (J8 _)] at eg;exact lJ (.v ((K.T.su hkl:l9 s.g (.ref X.h.length) (.int (k:Int))=Qa (.ref (X.h.length+(k+1)))))<| .p (c6 (aj P0 d) hr)<| .p (PY (aj P0 d) o1.at')<| .k (ug (X.Tf k).length 0)<| .f ((beq_false_of_ne λe=>hz (K7.mp e):(((X.Tf k).length:Int)==0)=Qb))<| .w (R.no)<| .p (eg)<| .q (R.st (d:=d) (Jq (by decide) hd))<| .s (e.2)<| .z (q1 {s' with b:=vR s.g.length,c:=Qa (R.e R.dz)} ⟨e.1.T,e.1.len,e.1.row⟩)) (by kernel_rfl)
end
section
variable {R:Rg}{d:Nat}{h h0:MH}{Q:aa->MH->Prop}{R':Fl->Internal.Frame->MH->Prop}{X:SX R}
structure Po (X:SX R) (i:Nat) (t:DR R):Prop where
 ok:rJ X.n (X.p*X.n) (X.K*X.n+X.n+1) t
 ev: ∀N B:Nat->R.α,(∀s,s<X.n->B s=R.add (N s) (m4 (X.Tf s) B)) ->m4 t N=B i
 me:i∈kR t
theorem SR.ok {n p K i k P K':Nat}{t:DR R} (H:SR n p K i k t) (h1:p*n<=P) (h2:K*n+k<=K'):rJ n P K' t:=⟨H.nd,λx hx=>(H.lt x hx).2,λq hq=>by
 have hx:q.1<n:=(H.lt _ (JO.mpr ⟨q,hq,rfl⟩)).2;exact R.ai (Jq (JK _ (JQ (Kf hx):q.1-i<=n)) h1) (Jq (JZ (JK _ (JQ (Kf hx):q.1-i<=n)) _) h2) (H.dg q hq)⟩
def nM.done {i:Nat}{t:DR R} (ne:R.dz≠R.zero) (hi:i<X.n) (I:nM X i X.n t):Po X i (oR t i R.dz):=by
 refine ⟨DM (I.sr.ok (JA _) (JA _)) hi (R.ai (JJ _) (JJ _) R.gp),λN B e=>?_,?_⟩
 ·rw [z9,R.one_mul,e i hi]
  congr 1
  rw [<-I.ev N B e];exact rU λx hx=>(if_pos (I.sr.lt x hx).2).symm
 ·delta oR
  rw [if_neg ne];exact (rA i).mpr (.inr rfl)
structure FP (X:SX R) (i:Nat) (s:ju R):Prop where
 T:gc X.h s.g s.T
 len:s.T.length=X.n
 row: ∀r t,s.T[r]?=Qa t->(i<=r->nM X r X.n t)/\(r<i->Po X r t)
structure Ax (X:SX R) (g:MH) (T:List (DR R)):Prop where
 tb:gc X.h g T
 len:T.length=X.n
 row: ∀r t,T[r]?=Qa t->Po X r t
theorem Rg.b9 (R:Rg) (h:MH):getAttr P0 h (.ah (112+R.i)) Es=Qa (R.e R.dz):=Wo.eq (R.yr (Q:=λv _=>v=_) rfl)
theorem zb1 {p K n:Nat} (bd:4*(p*n)+(K*n+n+1)<=3800):4*(p*n)+(K*n+n)<=3800:=Jq (JL (JA _) (Jv _ _)) bd
abbrev bX:List Sm:= [.expr (.call (.lit (.ah 104)) [.var 0,.sub (.var 2) (.var 3),.var 3,.af (.var 0) Es])]
def zb7 {k:Nat}{s:ju R} (hd:5<=d) (O:lq X) (ne:R.dz≠R.zero) (hk:k<X.n) (P:FP X k s) (q: ∀s',FP X (k+1) s'->R' .nx (jg X s'.a s'.b s'.c s'.d s'.e s'.f) s'.g):cz (aj P0 d) bX (jg X (vN k) s.b s.c s.d s.e s.f) s.g R':=by
 have hkl:k<s.T.length:=by rw [P.len];exact hk
 have hke:=Js hkl;refine (P.T.row k _ hke).elim λep hr=>?_;refine (UM (d:=d) (j:=k) (n:=X.n) (P:=X.p*X.n) (K:=X.K*X.n+X.n) (w:=R.dz) (Jq (by decide) hd) hr (((P.row k _ hke).1 (JA _)).sr.ok (JA _) (JA _)) (Jq O.n (by decide)) (R.ai (JJ _) (JJ _) R.gp) (zb1 O.bd)).elim λep' e=>?_;have N:FP X (k+1) ⟨_,s.T.set k (oR s.T[k] k R.dz),vN k,s.b,s.c,s.d,s.e,s.f⟩:=⟨P.T.set hkl (ep:=ep'),by rw [Zb];exact P.len,λr t ht=>by
  by_cases e:k=r
  ·subst e
   rw [J7 hkl] at ht;refine mP ht ?_;exact ⟨λh=>absurd h (Xh _),λ_=>((P.row k _ hke).1 (JA _)).done ne hk⟩
  ·rw [J6 e] at ht
   have:=P.row r t ht
   exact ⟨λh=>this.1 (Xz h),λh=>this.2 (Kc (Ze h) (Kn e))⟩⟩
 exact lJ (.v ((P.T.su hkl:l9 s.g (.ref X.h.length) (.int (k:Int))=Qa (.ref (X.h.length+(k+1)))))<| .w (R.b9)<| .p (e)<| .z (q _ N)) rfl
abbrev FX (X:SX R):MH:=X.h++ .list ((J3 (X.h.length+1) X.n).map .ref)::(JW X.n).map λi=>ae.dict Qd (lU (X.Tf i))
def MM (O:lq X) (T0:Vl X.h X.aT ((JW X.n).map X.Tf)):eval (aj P0 d) (.comp (.call (.lit (.ty 1684628340)) [.var 9]) [9] Qb (.var 1) []) (Qa (.ah (112+R.i))::Qa (.ref X.aT)::nn 13) X.h=Qa (.ref X.h.length,FX X):=by
 refine T0.x.elim λrs zq7=>?_;have a2:=zq7.2.1;rw [Jt,J9] at a2;have hl:(rs.map aa.ref).length=X.n:=by rw [Jt,a2]
 refine W.eq (zS (a:=X.aT) (vs:=rs.map .ref) (λi=> .dict Qd (lU (X.Tf i))) (by rw [hl];exact Jx O.n (show 60<200000 by decide)) (by rw [hl];exact Jq O.n (by decide)) (vK rfl ⟨rfl,zq7.1,λi v t hv=>?_,by rw [hl];exact ⟨rfl,rfl⟩⟩));refine (uG hv).elim λr zq6=>?_;refine eqB zq6.2 ?_;have hi:i<X.n:=by rw [<-a2];exact kP zq6.1
 refine (zq7.2.2 i r (X.Tf i) zq6.1 (by rw [JC,Z6 hi];rfl)).elim λep zq5=>?_;exact lR (.p (c6 (aj P0 d) (kI (t:=t) zq5))<| .z (cv (.ref (X.h++t).length) (X.h++t++ [.dict Qd (lU (X.Tf i))]))) rfl
def dU (O:lq X):KP X 0 0 ⟨FX X,(JW X.n).map X.Tf,Qd,Qd,Qd,Qd,Qd,Qd⟩:=by
 have ln:((JW X.n).map X.Tf).length=X.n:=by rw [Jt,J9]
 refine ⟨Du (ep:=λ_=>Qd),ln,λr t ht=>?_⟩;rw [if_neg (Zh _)];have hr:r<X.n:=by rw [<-ln];exact kP ht
 rw [JC,Z6 hr] at ht;refine mP ht ?_;exact nM.zero O hr
theorem zc5 (hd:6<=d) (O:lq X): ∃s:ju R,KP X X.n 0 s/\exec (aj P0 d) (.fo [3] Qb xn kB) (jg X Qd Qd Qd Qd Qd Qd) (FX X)=Qa ((.nx,jg X s.a s.b s.c s.d s.e s.f),s.g):=
 pa (c:=aj P0 d) (x:=3) (n:=X.n) (e:=xn) (b:=kB) (λs:ju R=>jg X s.a s.b s.c s.d s.e s.f) ju.g (λk s=>KP X k 0 s) ⟨FX X,(JW X.n).map X.Tf,Qd,Qd,Qd,Qd,Qd,Qd⟩ (Jq O.n (by decide)) rfl (by exact lR (.p ((dU O).T.ln (aj P0 d) (dU O).len)<| .c<| .z (cv (.gf X.n) (FX X))) (by kernel_rfl)) (dU O) λk s R1 _ hk P1 C1=>zb2 hd O hk P1 (λs' P'=>C1.nx {s' with a:=vN k} ⟨P'.T,P'.len,P'.row⟩) λs' P'=>C1.ct {s' with a:=vN k} ⟨P'.T,P'.len,P'.row⟩
theorem zdn {s:ju R} (hd:6<=d) (O:lq X) (ne:R.dz≠R.zero) (K:KP X X.n 0 s): ∃s':ju R,FP X X.n s'/\exec (aj P0 d) (.fo [3] Qb xn bX) (jg X s.a s.b s.c s.d s.e s.f) s.g=Qa ((.nx,jg X s'.a s'.b s'.c s'.d s'.e s'.f),s'.g):=
 pa (c:=aj P0 d) (x:=3) (n:=X.n) (e:=xn) (b:=bX) (λs:ju R=>jg X s.a s.b s.c s.d s.e s.f) ju.g (λk s=>FP X k s) s (Jq O.n (by decide)) rfl (by exact lR (.p (K.T.ln (aj P0 d) K.len)<| .c<| .z (cv (.gf X.n) s.g)) (by kernel_rfl)) ⟨K.T,K.len,λr t ht=>⟨λ_=>by
  have:=K.row r t ht
  rwa [if_neg (Zh _)] at this,λh=>absurd h (Zh _)⟩⟩ λk s R1 _ hk P1 C1=>zb7 (Jq (by decide) hd) O ne hk P1 C1.nx
def ML (hd:7<=d) (O:lq X) (ne:R.dz≠R.zero) (T0:Vl X.h X.aT ((JW X.n).map X.Tf)): ∃t,kT (aj P0 d) (.ah 107) [.ah (112+R.i),.ref X.aT] X.h=Qa (.ref X.h.length,X.h++t)/\∃T,Ax X (X.h++t) T:=by
 have w:WF P0 d 107 [.ah (112+R.i),.ref X.aT] X.h λv g=>v= .ref X.h.length/\∃s:ju R,g=s.g/\FP X X.n s:=by
  exact l0 (K:=6) hd (Qa (.ah (112+R.i))::Qa (.ref X.aT)::nn 13) vB rfl λd' h'=>(zc5 (d:=d') h' O).elim λs a=>(zdn (d:=d') h' O ne a.1).elim λs' b=>lJ (.p (MM (d:=d') O T0)<| .s (a.2)<| .s (b.2)<| .z ((show aa.ref X.h.length= .ref X.h.length/\∃s2:ju R,s'.g=s2.g/\FP X X.n s2 from ⟨rfl,s',rfl,b.1⟩))) rfl
 obtain ⟨v,g,e,rfl,s,rfl,P⟩:=W.get (nX (P:=P0) rfl w);obtain ⟨t,ht⟩:=P.T.pre;rw [ht] at e;exact ⟨t,e,s.T,ht▸P.T,P.len,λr t ht=>(P.row r t ht).2 (by rw [<-P.len];exact kP ht)⟩
end
section
variable {R:Rg}{d:Nat}{h h0:MH}{Q:aa->MH->Prop}{R':Fl->Internal.Frame->MH->Prop}{X:SX R}
def NB (X:SX R) (N B:Nat->R.α):Prop:= ∀s,s<X.n->B s=R.add (N s) (m4 (X.Tf s) B)
structure RS (R:Rg) where
 g:MH
 V:List R.α
 b:Option aa:=Qd
 c:Option aa:=Qd
structure RX (X:SX R) (h:MH) (aR aS:Nat) (T:List (DR R)) (row:List R.α) (P K:Nat):Prop where
 O:lq X
 rR:h[aR]?=Qa (.list (row.map R.e))
 len:row.length=X.n
 dg: ∀x∈row,R.D P K x
 tb:Vl h aS T
 tl:T.length=X.n
 tr: ∀r t,T[r]?=Qa t->Po X r t
 bd:4*(P+X.p*X.n)+(K+(X.K*X.n+X.n+1)+X.n)<=3800
structure RP (X:SX R) (h:MH) (row:List R.α) (P K i:Nat) (s:RS R):Prop where
 pre: ∃t,s.g=h++t
 at':s.g[h.length+1]?=Qa (.list (s.V.map R.e))
 len:s.V.length=X.n
 ev: ∀N B,NB X N B->R.add (kZ s.V N 0) (kZ (row.drop i) B i)=kZ row B 0
 dg: ∀x∈s.V,R.D (P+X.p*X.n) (K+(X.K*X.n+X.n+1)+i) x
structure RJ (X:SX R) (h:MH) (row:List R.α) (P K i aL:Nat) (y:R.α) (t:DR R) (j:Nat) (s:RS R):Prop where
 pre: ∃t,s.g=h++t
 at':s.g[h.length+1]?=Qa (.list (s.V.map R.e))
 len:s.V.length=X.n
 ev: ∀N B,NB X N B->R.add (kZ s.V N 0) (R.add (R.mul y (qU (((lP t).drop j).map λx=>R.mul (lX t x) (N x)))) (kZ (row.drop (i+1)) B (i+1)))=kZ row B 0
 dg: ∀x∈s.V,R.D (P+X.p*X.n) (K+(X.K*X.n+X.n+1)+(i+1)) x
 dl: ∀ (m:Nat) x,s.V[m]?=Qa x->m∈(lP t).drop j->R.D (P+X.p*X.n) (K+(X.K*X.n+X.n+1)+i) x
 ge:h.length+1<aL
 l:s.g[aL]?=Qa (.list ((lP t).map λn:Nat=> .int (n:Int)))
def rc (R:Rg) (h:MH) (aR aS:Nat) (b c:Option aa):Internal.Frame:=Qa (.ah (112+R.i))::Qa (.ref aR)::Qa (.ref aS)::Qa (.ref (h.length+1))::b::c::nn 6
abbrev aM:List Sm:= [.bg (.sb (.var 3) (.var 5)) (.ao (.var 0) Vv [.sub (.var 3) (.var 5),.ao (.var 0) uW [.sub (.var 1) (.var 4),.sub (.sub (.var 2) (.var 4)) (.var 5)]])]
variable {aR aS:Nat}{T:List (DR R)}{row:List R.α}{P K:Nat}
def Vl.su {g:MH}{aT:Nat}{T:List (DR R)}{i:Nat}{t:DR R} (H:Vl g aT T) (ht:T[i]?=Qa t): ∃r ep,l9 g (.ref aT) (.int (i:Int))=Qa (.ref r)/\g[r]?=Qa (.dict ep (lU t)):=by
 refine H.x.elim λrs zq3=>?_;have hi:i<rs.length:=by rw [zq3.2.1];exact kP ht
 obtain ⟨ep,e⟩:=zq3.2.2 i _ t (Js hi) ht;exact ⟨_,ep,sl (i:=i) zq3.1 (vO (Js hi)),e⟩
theorem zb8 {P K p K' n i:Nat} (hi:i<n) (bd:4*(P+p*n)+(K+(K'*n+n+1)+n)<=3800):4*(P+p*n)+(K+(K'*n+n+1))<=3800/\4*(P+p*n)+(K+(K'*n+n+1)+i)<=3800:=⟨Jq (JL (JA _) (Jv _ _)) bd,JQ (Jy (ZI (ZI hi _) _) bd)⟩
def RJ.lr {i j x aL:Nat}{y v:R.α}{t:DR R}{s:RS R} (I:RJ X h row P K i aL y t j s) (hx:(lP t)[j]?=Qa x) (hxd:x∉ (lP t).drop (j+1)) (hVe:s.V[x]?=Qa v) (hv:R.D (P+X.p*X.n) (K+(X.K*X.n+X.n+1)+i) v) (hm:R.D (P+X.p*X.n) (K+(X.K*X.n+X.n+1)) (R.mul y (lX t x))):
  RJ X h row P K i aL y t (j+1) ⟨s.g.set (h.length+1) (.list ((s.V.set x (R.add v (R.mul y (lX t x)))).map R.e)),s.V.set x (R.add v (R.mul y (lX t x))),Qd,vN x⟩:=by
 refine I.pre.elim λtl zq1=>?_;refine ⟨⟨_,by show s.g.set _ _=_;rw [zq1];exact vM (Zw _)⟩,lW I.at',by show (s.V.set _ _).length=_;rw [Zb];exact I.len,λN B e=>?_,λz hz=>?_,λm z hz hm=>?_,I.ge,lF (λe=>absurd (e▸I.ge) (J8 _)) I.l⟩
 ·simp only [<-I.ev N B e,<-(by unfold nP;rw [hVe];rfl:nP s.V x (R.mul y (lX t x))=s.V.set x (R.add v (R.mul y (lX t x)))),Uq (kP hVe),qN hx,JR,lE,R.mul_add,Z3,<-R.mul_assoc,R.add_assoc,R.add_assoc,R.swap]
 ·exact (Kj hz).elim (I.dg z) λe=>e▸(R.gb hv (R.ai (JA _) (Jv _ _) hm):R.D (P+X.p*X.n) (K+(X.K*X.n+X.n+1)+(i+1)) (R.add v (R.mul y (lX t x))))
 ·rw [J6 (λe=>hxd (e▸hm):x≠m)] at hz
  exact I.dl m z hz (by rw [qN hx];exact .tail _ hm)
def Sk {i j x aL:Nat}{y:R.α}{t:DR R}{s:RS R} (hd:4<=d) (C:RX X h aR aS T row P K) (hy:row[i]?=Qa y) (ht:T[i]?=Qa t) (hx:(lP t)[j]?=Qa x) (I:RJ X h row P K i aL y t j s)
  (q: ∀s',RJ X h row P K i aL y t (j+1) s'->R' .nx (rc R h aR aS (vN i) s'.c) s'.g):cz (aj P0 d) aM (rc R h aR aS (vN i) (vN x)) s.g R':=by
 have D:=C.tr i t ht;have hxk:x∈kR t:=nK.mem_iff.mp (Ju hx);have hVe:=VU (l:=s.V) (s:=x) (by rw [I.len];exact D.ok.lt x hxk);have nd:=G4 D.ok.nd;rw [<-KC j (lP t),qN hx] at nd;have hDy:=C.dg y (Ju hy);have B:=zb8 (by rw [<-C.len];exact kP hy:i<X.n) C.bd;have d3:3<=d:=Jq (by decide) hd;exact I.pre.elim λtl eg=>(Vl.su (g:=s.g) (eg▸C.tb.cw) ht).elim λr w=>w.elim λep w=>lJ (.v (sl I.at' (yC hVe))<| .v (sl (eg▸kI C.rR:s.g[aR]?=Qa (.list (row.map R.e))) (yC hy))<| .v (w.1)<| .v (sR w.2 hxk)<| .q (R.ti d3 hDy (D.ok.get x) B.1)<| .q (R.pl d3 (I.dl x _ hVe (by rw [qN hx];exact .head _)) (R.ai (JA _) (Jv _ _) (R.fm hDy (D.ok.get x))) B.2)<| .h ((Sa (R.add (at' s.V x) (R.mul y (lX t x))) I.at' (kP hVe)))<| .z (q _ (I.lr hx ((JN.mp (ZR.mp nd).2.1).1) hVe (I.dl x _ hVe (by rw [qN hx];exact .head _)) (R.fm hDy (D.ok.get x))))) rfl
end
section
variable {R:Rg}{d:Nat}{h h0:MH}{Q:aa->MH->Prop}{R':Fl->Internal.Frame->MH->Prop}{X:SX R}{aR aS:Nat}{T:List (DR R)}{row:List R.α}{P K:Nat}
abbrev d9:List Sm:= [.ite (.ba .ne (.sub (.var 1) (.var 4)) (.af (.var 0) nW)) [.fo [5] Qb (.call (.lit (.bi uz)) [.sub (.var 2) (.var 4)]) aM] []]
def RP.next {i:Nat}{s s':RS R} (I:RP X h row P K i s) (e1:s'.g=s.g) (e2:s'.V=s.V) (hi:row[i]?=Qa R.zero):RP X h row P K (i+1) s':=by
 refine (JD.mp hi).elim λh1 zq3=>?_;refine ⟨by rw [e1];exact I.pre,by rw [e1,e2];exact I.at',by rw [e2];exact I.len,λN B e=>?_,λx hx=>R.ai (JA _) (Zw _) (I.dg x (e2▸hx))⟩;simp only [e2,<-I.ev N B e,yF h1,zq3,R.zero_mul,R.zero_add]
def Sn {i:Nat}{y:R.α}{t:DR R}{s:RS R} (hd:4<=d) (C:RX X h aR aS T row P K) (hy:row[i]?=Qa y) (ht:T[i]?=Qa t) (I:RP X h row P K i s): ∃s':RS R,RP X h row P K (i+1) s'/\exec (aj P0 d) (.fo [5] Qb (.call (.lit (.bi 126922498794852)) [.sub (.var 2) (.var 4)]) aM) (rc R h aR aS (vN i) s.c) s.g=Qa ((.nx,rc R h aR aS (vN i) s'.c),s'.g):=by
 have D:=C.tr i t ht;refine I.pre.elim λtl eg=>(Vl.su (g:=s.g) (eg▸C.tb.cw) ht).elim λr w=>w.elim λep w=>?_;have hlen:=Jq D.ok.len C.O.n;have hvl:((lP t).map λn:Nat=>aa.int (n:Int)).length=(lP t).length:=Jt ..;have W1:WS (aj P0 d) (.fo [5] Qb (.call (.lit (.bi 126922498794852)) [.sub (.var 2) (.var 4)]) aM) (rc R h aR aS (vN i) s.c) s.g λfl f g=> ∃s':RS R,RJ X h row P K i s.g.length y t (lP t).length s'/\fl= .nx/\f=rc R h aR aS (vN i) s'.c/\g=s'.g:=by
  refine wA (a:=s.g.length) (vs:=(lP t).map λn:Nat=> .int (n:Int)) (λs':RS R=>rc R h aR aS (vN i) s'.c) RS.g (RJ X h row P K i s.g.length y t) (by rw [hvl];exact Jx (by rw [nK.length_eq,V8];exact hlen:(lP t).length<=60) (show 60<200000 by decide)) ⟨s.g++ [.list ((lP t).map λn:Nat=> .int (n:Int))],s.V,Qd,s.c⟩ (λj s' P'=>P'.l) ((by exact lR (.v (w.1)<| .p (fH (aj P0 d) w.2 (λe=>by have:=D.me;rw [e] at this;exact absurd this JB:t≠ []) hlen)<| .z (cv (.ref s.g.length) (s.g++ [.list ((lP t).map λn:Nat=> .int (n:Int))]))) rfl:WE (aj P0 d) (rc R h aR aS (vN i) s.c) (.call (.lit (.bi 126922498794852)) [.sub (.var 2) (.var 4)]) s.g λv g=>v= .ref s.g.length/\g=s.g++ [.list ((lP t).map λn:Nat=> .int (n:Int))]).mono λv g q=>⟨q.1,rfl,q.2,⟨tl++ [.list ((lP t).map λn:Nat=> .int (n:Int))],by show s.g++_=_;rw [eg,JH]⟩,kI I.at',I.len,λN B e=>?_,λx hx=>R.ai (JA _) (Zw _) (I.dg x hx),λm x hx _=>I.dg x (Ju hx),(lI I.at'),ap⟩) (λj v s' R2 hv P2 C2=>?_) λs' P'=>⟨s',hvl▸P',rfl,rfl,rfl⟩
  ·obtain ⟨h1,h2⟩:=JD.mp hy
   simp only [<-I.ev N B e,yF h1,h2,List.drop_zero,V9 nK D.ok.nd,D.ev N B e]
  ·rw [JC] at hv
   refine (Zl.mp hv).elim λx zq1=>?_;refine eqE zq1.2 ?_;exact mT (Sk hd C hy ht zq1.1 P2 C2.nx)
 obtain ⟨⟨fl,f⟩,g,e,s',P2,q1,q2,q3⟩:=W.get W1;refine eqE q1 ?_;subst q2;subst q3;refine ⟨s',⟨P2.pre,P2.at',P2.len,λN B hNB=>?_,P2.dg⟩,e⟩;rw [<-P2.ev N B hNB,Ke];show _=R.add _ (R.add (R.mul y R.zero) _);rw [R.mul_zero,R.zero_add]
def Sl {i:Nat}{s:RS R} (hd:4<=d) (C:RX X h aR aS T row P K) (hi:i<X.n) (I:RP X h row P K i s)
  (q: ∀s',RP X h row P K (i+1) s'->R' .nx (rc R h aR aS (vN i) s'.c) s'.g):cz (aj P0 d) d9 (rc R h aR aS (vN i) s.c) s.g R':=by
 have hy:=VU (l:=row) (s:=i) (by rw [C.len];exact hi);have rR:s.g[aR]?=Qa (.list (row.map R.e)):=I.pre.elim λtl eg=>eg▸kI C.rR;cases hq:R.gq (at' row i) R.zero with
 |isTrue hz=>
  have hf:(!@decide (at' row i=R.zero) (R.gq _ _))=false:=by rw [R.yes hz];rfl
  exact lJ (.v (sl rR (yC hy))<| .w (R.no)<| .k (R.qn (at' row i) R.zero)<| .f (hf)<| .z (q s (I.next rfl rfl (hy.trans (congrArg Qa hz))))) rfl
 |isFalse hz=>
  have hf:(!@decide (at' row i=R.zero) (R.gq _ _))=true:=by rw [R.not hz];rfl
  refine (Sn (d:=d) hd C hy (Js (l:=T) (i:=i) (by rw [C.tl];exact hi)) I).elim λs' e=>?_;exact lJ (.v (sl rR (yC hy))<| .w (R.no)<| .k (R.qn (at' row i) R.zero)<| .t (hf)<| .s (e.2)<| .z (q s' e.1)) rfl
abbrev xm (R:Rg) (h:MH) (n:Nat):MH:=h++ [.list [R.e R.zero]]++ [.list ((l6 R n).map R.e)]
def wL (hd:5<=d) (C:RX X h aR aS T row P K)
  (q: ∀t V,(h++t)[h.length+1]?=Qa (.list (V.map R.e)) ->V.length=X.n->(∀x∈V,R.D (P+X.p*X.n) (K+(X.K*X.n+X.n+1)+X.n) x) ->(∀N B,NB X N B->kZ V N 0=kZ row B 0) ->Q (.ref (h.length+1)) (h++t)):WF P0 d 132 [.ah (112+R.i),.ref aR,.ref aS] h Q:=by
 refine l0 (K:=4) hd (Qa (.ah (112+R.i))::Qa (.ref aR)::Qa (.ref aS)::nn 9) qC rfl λd' h'=>?_;have e1:(h++ [ae.list [R.e R.zero]]).length=h.length+1:=by rw [Jz];rfl
 have em:=R.ze h (n:=X.n) (Jq C.O.n (by decide));rw [e1] at em;have ln:(row.map R.e).length=X.n:=by rw [Jt,C.len]
 have len1:kT (aj P0 d') (.bi uX) [.ref aR] (h++ [.list [R.e R.zero]])=Qa (.int X.n,h++ [.list [R.e R.zero]]):=by rw [EG (kI C.rR),ln]
 refine (pa (c:=aj P0 d') (x:=4) (n:=X.n) (e:=.call (.lit (.ty 491260897125)) [.call (.lit (.bi 7103854)) [.var 1]]) (b:=d9) (λs:RS R=>rc R h aR aS s.b s.c) RS.g (RP X h row P K) ⟨xm R h X.n,l6 R X.n,Qd,Qd⟩ (Jq C.O.n (by decide)) rfl (by exact lR (.p ((by rw [EG (kI (kI C.rR):(xm R h X.n)[aR]?=Qa (.list (row.map R.e))),ln]:kT (aj P0 d') (.bi uX) [.ref aR] (xm R h X.n)=Qa (.int X.n,xm R h X.n)))<| .c<| .z (cv (.gf X.n) (xm R h X.n))) (by kernel_rfl)) (⟨⟨_,JH ..⟩,by rw [<-e1];exact ap,zlen,λN B _=>by rw [m7,R.zero_add];rfl,λx hx=>by rw [Zk hx];exact R.ai (JJ _) (JJ _) R.cj⟩:RP X h row P K 0 ⟨xm R h X.n,l6 R X.n,Qd,Qd⟩) λi s R1 _ hi P1 C1=>Sl h' C hi P1 λs' P'=>C1.nx {s' with b:=vN i} ⟨P'.pre,P'.at',P'.len,P'.ev,P'.dg⟩).elim λs e=>e.1.pre.elim λt ht=>?_;have e2:=e.2;rw [ht] at e2;have ev:=e.1.ev;rw [<-C.len,Ke] at ev;exact lJ (.w (R.no)<| .p (len1)<| .p (em)<| .s (e2)<| .z (q t s.V (ht▸e.1.at') e.1.len e.1.dg λN B hN=>(R.add_zero _).symm.trans (ev N B hN))) rfl
end
section
variable {R:Rg}{d:Nat}{h h0:MH}{Q:aa->MH->Prop}{R':Fl->Internal.Frame->MH->Prop}{L:Ly}{M:Mc R.α}
abbrev sX (g:MH) (aT:Nat) (M:Mc R.α) (p K:Nat):SX R:=⟨g,aT,M.ab.length,p,K,λs=>nA (bx M s)⟩
theorem FL:oL M M.ab.length 0=(JW M.ab.length).map λs=>nA (bx M s):=ZO λs hs=>by
 delta Uz;rw [if_pos (ZL.mp hs)]
def Bi {g:MH}{aT p k K:Nat} (I:aq R h L M) (G:mL M p k) (U:om M) (hn:M.ab.length<=60) (hK:k+M.bq<=K) (bd:4*(p*M.ab.length)+(K*M.ab.length+M.ab.length+1)<=3800):lq (sX g aT M p K):=by
 refine ⟨λs hs=>?_,hn,bd⟩;have hx:=Gm (Js hs);obtain ⟨ok,up⟩:=V6 (R:=R) (n:=M.ab.length) (p:=p) (k:=k) (s:=s) (xs:=M.ab[s]) λc hc=>by
  exact ⟨(G.fv _ (ZA hs) c hc).1,(G.fv _ (ZA hs) c hc).2.2.2.1,λq=>U s _ (Js hs) c hc q⟩
 simp only [hx]
 have:=I.cr _ (ZA hs)
 exact ⟨ok.nd,λx hx=>⟨up x hx,ok.lt x hx⟩,λq hq=>R.ai (JA _) (by show _<=K;exact Jq (Jw this _) hK) (ok.dg q hq)⟩
theorem zdd (hd:2<=d) (I:aq R h L M):l5 (aj P0 d) (.ref L.m) 1925483444799026525305 [] h h=Qa (.bool (M.ab.any λr=>r.any Ar.ft),h):=me (mR I.fk rfl rfl) (OJ hd I ⟨rfl,rfl⟩)
inductive ye (M:Mc R.α) (p K:Nat) (h:MH) (v:aa) (g:MH):Prop
 |no (e:Wj M) (hv:v= .none) (hg:g=h):ye M p K h v g
 |so (t1 t2:MH) (T:List (DR R)) (S:Ax (sX (h++t1) h.length M p K) (h++t1++t2) T) (hv:v= .ref (h++t1).length) (hg:g=h++t1++t2):ye M p K h v g
def CW {p k K:Nat} (hd:8<=d) (I:aq R h L M) (G:mL M p k) (U:om M) (ne:R.dz≠R.zero) (hn:M.ab.length<=60) (hK:k+M.bq<=K) (bd:4*(p*M.ab.length)+(K*M.ab.length+M.ab.length+1)<=3800) (bd2:4*p+(k+300)<=3800):
  ∃v g,kT (aj P0 d) (.ah 131) [.ref L.m] h=Qa (v,g)/\ye M p K h v g:=by
 have w:WF P0 d 131 [.ref L.m] h (ye M p K h):=by
  refine l0 (K:=7) hd (Qa (.ref L.m)::nn 6) pK rfl λd' h'=>?_;refine vY (M.ab.any λr=>r.any Ar.ft) (λhE=>?_) λhE=>?_
  ·refine xEEAA (W.get (nX (P:=P0) (d:=d') rfl (FM (Q:=λv g=>v= .ref h.length/\∃t,g=h++t/\gc h (h++t) (oL M M.ab.length 0)) (Jq (by decide) h') I G U bd2 λt T=>⟨rfl,t,rfl,T⟩))) λv g e dh gd=>?_
   refine xEA gd λt kh T=>?_;subst dh;subst kh;exact (ML (d:=d') (X:=sX (h++t) h.length M p K) h' (Bi I G U hn hK bd) ne (FL▸T.r)).elim λt2 a=>a.2.elim λT2 S=>lJ (.p (zdd (Jq (by decide) h':2<=d') I)<| .c<| .f (nT hE)<| .v (nO I)<| .p (e)<| .p (a.1)<| .z ((show ye M p K h (.ref (h++t).length) (h++t++t2) from .so t t2 T2 S rfl rfl))) (by kernel_rfl)
  ·exact lJ (.p (zdd (Jq (by decide) h':2<=d') I)<| .c<| .t (nF hE)<| .z ((show ye M p K h .none h from .no hE rfl rfl))) (by kernel_rfl)
 exact (W.get (nX (P:=P0) rfl w)).elim λv zq1=>zq1.elim λg zq2=>⟨v,g,zq2.1,zq2.2⟩
end
section
variable {R:Rg}{d:Nat}{h h0:MH}{Q:aa->MH->Prop}{R':Fl->Internal.Frame->MH->Prop}{L:Ly}{M:Mc R.α}
theorem Rk {g:MH}{aT p K i j:Nat}{u l:List Nat} (H:Vn M) (hi:i<=u.length) (hj:j<=l.length):NB (sX g aT M p K) (xP M (Bv M u l) u l i j) (Bv M u l i j):=λs hs=>by
 simp only [IV H hi hj,vX,Hn]
def zcp {g g0:MH}{L':Ly}{T:Mc R.α}{u l:List Nat}{S:List (DR R)}{pW kW p k pS kS K aT:Nat} (H:Vn T) (O:lq (sX g aT T p K)) (Z:Ax (sX g aT T p K) g0 S) (h1:p*T.ab.length<=pS) (h2:K*T.ab.length+T.ab.length+1+T.ab.length<=kS):
  Gr (wX g0 L' T u l (.ref g.length) pW kW p k pS kS):=by
 refine ⟨.inr ⟨_,rfl⟩,(λe=>nomatch e),λaT' e {d P K' aR g1 row Q} hd hg hR hl hD hb q=>?_⟩;have e:g.length=aT':=by
  injection (e:aa.ref g.length= .ref aT')
 refine eqE e ?_;obtain ⟨t,rfl⟩:=hg;refine wL (X:=sX g aT T p K) (T:=S) (P:=P) (K:=K') hd ⟨O,hR,hl,hD,Z.tb.r.cw,Z.len,Z.row,?_⟩ λt2 V a1 a2 a3 a4=>?_
 ·exact Jq (JL (JK 4 (Jw h1 P)) (Jq (JM (Zf _ _ _)) (Jw h2 K'))) hb
 ·refine q t2 _ V (Zw _) a1 a2 (λx hx=>R.ai (Jw h1 P) ?_ (a3 x hx)) λi j hi hj=>(a4 _ _ (Rk H hi hj)).symm
  exact Jq (JM (Zf _ _ _)) (JL (JA _) h2)
def fJ (hd:4<=d) {u:List Nat} (hu: ∀c∈u,Vw c=Qf) (lu:u.length<=200) (h:MH): ∃v,kT (aj P0 d) (.ah 130) [.str u] h=Qa (v,h):=by
 obtain ⟨v,g,e,rfl⟩:=W.get (nX (P:=P0) (d:=d) rfl (SO (Q:=λ_ g=>g=h) (hd) hu lu rfl));exact ⟨v,e⟩
structure fX (M:Mc R.α) (h t:MH) (L':Ly) (T:Mc R.α) (p k:Nat) (u l:List Nat):Prop where
 J:aq R (h++t) L' T
 G:mL T p k
 U:om T
 n:T.ab.length<=M.ab.length
 c:T.bq<=M.bq
 w:R.mul T.first (Bv T u l 0 0 T.start)=R.mul M.first (Bv M u l 0 0 M.start)
def RN {p k:Nat} (hd:6<=d) (I:aq R h L M) (G:mL M p k) (U:om M) (u l:List Nat): ∃t L' T,kT (aj P0 d) (.ah 133) [.ref L.m] h=Qa (.ref L'.m,h++t)/\fX M h t L' T p k u l:=by
 obtain ⟨v,g,e,t,L',T,rfl,rfl,q⟩:=W.get (nX (P:=P0) rfl (Ds (Q:=λv g=> ∃t L' T,v= .ref L'.m/\g=h++t/\fX M h t L' T p k u l) hd I G λt L' T ks mb1 mb2 bb J ho TB TR=>by
  have TG:=V5 I G TB TR J;exact ⟨t,L',T,rfl,rfl,J,TG.g,TG.up U,TG.len,TG.bq,yM I G TB TR (G.fc U) (TG.g.fc (TG.up U))⟩))
 exact ⟨t,L',T,e,q⟩
def zbD {p k n n' c c' x y B:Nat} (hn:n'<=n) (hc:c'<=c) (n60:n<=60) (cl:1+(x+1)*(y+1)*(c+1)<B)
  (bd:4*((p+p*n)*(x+y+2))+((k+((k+c)*n+n+1+n))*(x+y+2)+(1+(x+1)*(y+1)*(c+1)+n))<=3800):
  p*n'<=p*n/\(k+c)*n'+n'+1+n'<=(k+c)*n+n+1+n/\4*(p*n')+((k+c)*n'+n'+1)<=3800/\1+(x+1)*(y+1)*(c'+1)<B/\4*((p+p*n)*(x+y+2))+((k+((k+c)*n+n+1+n))*(x+y+2)+(1+(x+1)*(y+1)*(c'+1)+n'))<=3800/\1+(x+1)*(y+1)*(c'+1)+n'<=1+(x+1)*(y+1)*(c+1)+n:=by
 have h0:=JK ((x+1)*(y+1)) (Zu hc);have h4:(k+c)*n'+n'+1+n'<=(k+c)*n+n+1+n:=JL (JZ (JL (JK (k+c) hn) hn) 1) hn;exact ⟨(JK p hn),h4,Jq (JL (JK 4 (Jq (Jq (JK p hn) (JE _ _)) (ZZ (p+p*n) (ZV (x+y+1))):p*n'<=(p+p*n)*(x+y+2))) (Jq (Jq (Jq (Jq (Jv _ n') h4) (JE _ _)) (ZZ (k+((k+c)*n+n+1+n)) (ZV (x+y+1))):(k+c)*n'+n'+1<=(k+((k+c)*n+n+1+n))*(x+y+2)) (Jv _ _))) bd,Jx (Jw h0 1) cl,Jq (Jw (Jw (JL (Jw h0 1) hn:1+(x+1)*(y+1)*(c'+1)+n'<=1+(x+1)*(y+1)*(c+1)+n) _) _) bd,(JL (Jw h0 1) hn:1+(x+1)*(y+1)*(c'+1)+n'<=1+(x+1)*(y+1)*(c+1)+n)⟩
theorem nh.of {g:MH}{T:Mc R.α}{L':Ly}{u l:List Nat}{ov:aa}{p k pS kS:Nat} (J:aq R g L' T) (G:mL T p k) (cl:1+(u.length+1)*(l.length+1)*(T.bq+1)<100000) (bd:4*((p+pS)*(u.length+l.length+2))+((k+kS)*(u.length+l.length+2)+(1+(u.length+1)*(l.length+1)*(T.bq+1)+T.ab.length))<=3800):nh (wX g L' T u l ov (p+pS) (k+kS) p k pS kS):=⟨J,G,JA _,JA _,cl,bd⟩
def Hj {p k:Nat}{u l:List Nat} (hd:10<=d) (I:aq R h L M) (G:mL M p k) (U:om M) (ne:R.dz≠R.zero) (hn:M.ab.length<=60) (hu: ∀c∈u,Vw c=Qf) (hl: ∀c∈l,Vw c=Qf) (lu:u.length<=200) (ll:l.length<=200)
  (cl:1+(u.length+1)*(l.length+1)*(M.bq+1)<100000) (bd2:4*p+(k+300)<=3800)
  (hbd:4*((p+p*M.ab.length)*(u.length+l.length+2))+((k+((k+M.bq)*M.ab.length+M.ab.length+1+M.ab.length))*(u.length+l.length+2)+(1+(u.length+1)*(l.length+1)*(M.bq+1)+M.ab.length))<=3800)
  (q: ∀t,R.D ((p+p*M.ab.length)*(u.length+l.length+2)) ((k+((k+M.bq)*M.ab.length+M.ab.length+1+M.ab.length))*(u.length+l.length+2)+(1+(u.length+1)*(l.length+1)*(M.bq+1)+M.ab.length)) (R.mul M.first (Bv M u l 0 0 M.start)) ->Q (R.e (R.mul M.first (Bv M u l 0 0 M.start))) (h++t)):WF P0 d 106 [.ref L.m,.str u,.str l] h Q:=by
 refine l0 (K:=9) hd (Qa (.ref L.m)::Qa (.str u)::Qa (.str l)::nn 15) mW rfl λd' h'=>?_;refine (fJ (d:=d') (Jq (by decide) h':4<=d') hu lu h).elim λv1 a=>(fJ (d:=d') (Jq (by decide) h':4<=d') hl ll h).elim λv2 b=>?_;refine (RN (d:=d') (Jq (by decide) h') I G U u l).elim λt c=>c.elim λL' c=>c.elim λT c=>?_;have Z:=c.2;have B:=zbD Z.n Z.c hn cl hbd;refine (CW (d:=d') (K:=k+M.bq) (Jq (by decide) h') Z.J Z.G Z.U ne (Jq Z.n hn) (Jw Z.c k) B.2.2.1 bd2).elim λov e=>e.elim λg e=>?_;refine nJ (a:=mW.take 5) (b:=mW.drop 5) ?_;have fe: ∀ (g:MH) (t2:MH),g++t2=h++(g.drop h.length++t2) ->R.D ((p+p*M.ab.length)*(u.length+l.length+2)) ((k+((k+M.bq)*M.ab.length+M.ab.length+1+M.ab.length))*(u.length+l.length+2)+(1+(u.length+1)*(l.length+1)*(T.bq+1)+T.ab.length)) (R.mul T.first (Bv T u l 0 0 T.start)) ->Q (R.e (R.mul T.first (Bv T u l 0 0 T.start))) (g++t2):=λg t2 hg hD=>by
  rw [Z.w] at hD ⊢;simp only [hg];exact q _ (R.ai (JA _) (Jw B.2.2.2.2.2 _) hD)
 have dr: ∀s t2:MH,(h++s)++t2=h++((h++s).drop h.length++t2):=λs t2=>by rw [List.drop_left,JH]
 have tail:cz (aj P0 d') (mW.drop 5) (Qa (.ref L'.m)::Qa (.str u)::Qa (.str l)::Qa (.ah (112+R.i))::Qa ov::nn 13) g (Internal.Fin Q):=by
  cases e.2 with
  |no hE hv hg=>
   rw [hv,hg];exact GA (X:=wX (h++t) L' T u l .none (p+p*M.ab.length) (k+((k+M.bq)*M.ab.length+M.ab.length+1+M.ab.length)) p k _ _) (Jq (by decide) h') (nh.of Z.J Z.G B.2.2.2.1 B.2.2.2.2.1) ⟨.inl rfl,λ_ i j s hi hj _=>by
    show Bv T u l i j s=_;rw [IV (Z.G.fc Z.U) hi hj,vX,Up λa ha=>Ug hE ha,R.add_zero],λaT e=>nomatch e⟩ rfl rfl rfl (Jv _ _) (Jv _ _) λt2=>fe (h++t) t2 (dr t t2)
  |so t1 t2 S SS hv hg=>
   rw [hv,hg];exact GA (X:=wX (h++t++t1++t2) L' T u l (.ref (h++t++t1).length) (p+p*M.ab.length) (k+((k+M.bq)*M.ab.length+M.ab.length+1+M.ab.length)) p k _ _) (Jq (by decide) h') (nh.of Z.J.cw.cw Z.G B.2.2.2.1 B.2.2.2.2.1) (zcp (Z.G.fc Z.U) (Bi Z.J Z.G Z.U (Jq Z.n hn) (Jw Z.c k) B.2.2.1) SS B.1 B.2.1) rfl rfl rfl (Jv _ _) (Jv _ _) λt3=>fe (h++t++t1++t2) t3 (by rw [JH h,JH h];exact dr _ t3)
 exact lJ (.p (a)<| .p (b)<| .v (nO I)<| .p (c.1)<| .p (e.1)<| .z (nL tail)) rfl
end
def eB (b:Bool):aa:= .int (bif b then 1 else 0)
def zbq:Rg where
 i:=0
 hi:=by decide
 α:=Bool
 gq:=inferInstance
 e:=eB
 zero:=Qb
 dz:=Qf
 add:=or
 mul:=and
 D:=λ_ _ _=>True
 add_comm:=Bool.or_comm
 add_assoc:=Bool.or_assoc
 zero_add:=qaH
 mul_comm:=Bool.and_comm
 mul_assoc:=Bool.and_assoc
 one_mul:=XH
 zero_mul:=Xr
 mul_add:=Bool.and_or_distrib_left
 qh:=rfl
 tf:=rfl
 wt:=λ_=>rfl
 ff:=λh a b=>wD.trans (congrArg Qa (by cases a<;>cases b<;>rfl))
 ai:=λ_ _ _=>trivial
 cj:=trivial
 gp:=trivial
 gb:=λ_ _=>trivial
 fm:=λ_ _=>trivial
 gh:=λ{p k a b} _ _ _=>by cases a<;>cases b<;>rfl
 fq:=λ{p q k l a b} _ _ _=>by cases a<;>cases b<;>rfl
 gi:=λ{p k a d h0 h Q} hd _ _ q=>lL (f:=142) (self:=[.ah 112]) rfl (by
  cases a
  ·exact l7 (K:=0) (Jq (JE _ _) hd) (λ_=>rfl) q
  ·exact l7 (K:=0) (Jq (JE _ _) hd) (λ_=>rfl) q)
 gg:=λ{d h0 h Q} hd q=>lL (f:=145) (self:=[.ah 112]) rfl (l7 (K:=0) (Jq (JE _ _) hd) (λ_=>rfl) q)
def eO (x:Option Nat):aa:=JF (motive:=λ_=>aa) x .none λn=> .int n
def zf0 (x y:Option Nat):Option Nat:=JF (motive:=λ_=>Option Nat) x y λn=>JF (motive:=λ_=>Option Nat) y x λm=>Qa (if m<n then m else n)
def iP (x y:Option Nat):Option Nat:=x.bind λn=>y.map λm=>n+m
def Cn {d n:Nat}{h:MH}{Q:aa->MH->Prop}{s:aa} (hd:1<=d) (hn:n<wB) (q:Q (.int n) h):WF P0 d 147 [s,.int n] h Q:=by
 exact l0 (K:=0) hd (Qa s::Qa (.int n)::nn 6) vE rfl λd' h'=>lJ (.c4<| .c4<| .f (wV hn)<| .z (q)) rfl
def Gp:Rg where
 i:=1
 hi:=by decide
 α:=Option Nat
 gq:=inferInstance
 e:=eO
 zero:=Qd
 dz:=Qa 0
 add:=zf0
 mul:=iP
 D:=λp _ x=> ∀n,x=Qa n->n<=3*p
 add_comm:=λa b=>by
  cases a with
  |none=>cases b<;>rfl
  |some n=>cases b with
   |none=>rfl
   |some m=>show Qa _=Qa _;congr 1;split<;>split<;>lia
 add_assoc:=λa b c=>by
  cases a with
  |none=>rfl
  |some n=>cases b with
   |none=>rfl
   |some m=>cases c with
    |none=>rfl
    |some k=>show Qa _=Qa _;congr 1;(repeat' split)<;>lia
 zero_add:=λa=>rfl
 mul_comm:=λa b=>by
  cases a with
  |none=>cases b<;>rfl
  |some n=>cases b with
   |none=>rfl
   |some m=>exact congrArg Qa (Kv n m)
 mul_assoc:=λa b c=>by
  cases a with
  |none=>rfl
  |some n=>cases b with
   |none=>rfl
   |some m=>cases c with
    |none=>rfl
    |some k=>exact congrArg Qa (Zf n m k)
 one_mul:=λa=>by
  cases a with
  |none=>rfl
  |some n=>exact congrArg Qa (Z3 n)
 zero_mul:=λa=>rfl
 mul_add:=λa b c=>by
  cases a with
  |none=>rfl
  |some n=>cases b with
   |none=>cases c<;>rfl
   |some m=>cases c with
    |none=>rfl
    |some k=>show Qa (n+if k<m then k else m)=Qa (if n+k<n+m then n+k else n+m);congr 1;(repeat' split)<;>lia
 qh:=rfl
 tf:=rfl
 wt:=λa=>by cases a<;>rfl
 ff:=λh a b=>by
  cases a with
  |none=>cases b<;>rfl
  |some n=>cases b with
   |none=>rfl
   |some m=>exact wD.trans (congrArg Qa (by
     by_cases hab:n=m
     ·subst hab;simp
     ·rw [decide_eq_false (λe=>hab (Qa.inj e)),beq_false_of_ne];lia))
 ai:=λhp _ ha n e=>Jq (ha n e) (JK 3 hp)
 cj:=λn e=>nomatch e
 gp:=λn e=>by cases e;exact JA _
 gb:=λ{p k a b} ha hb n e=>by
  cases a with
  |none=>exact hb n e
  |some x=>cases b with
   |none=>exact ha n e
   |some y=>
    rw [<-(Qa.inj e:(if y<x then y else x)=n)];split<;>lia
 fm:=λ{p q k l a b} ha hb n e=>by
  cases a with
  |none=>exact nomatch e
  |some x=>cases b with
   |none=>exact nomatch e
   |some y=>
    have e:x+y=n:=Qa.inj e;have h1:=ha x rfl;have h2:=hb y rfl;lia
 gh:=λ{p k a b} _ _ _=>by
  cases a with
  |none=>cases b<;>rfl
  |some x=>cases b with
   |none=>rfl
   |some y=>
    show Qa (aa.int _)=Qa (aa.int _)
    congr 2
    by_cases hxy:y<x
    ·rw [if_pos hxy,if_pos (ZW.mpr hxy)]
    ·rw [if_neg hxy,if_neg λq=>hxy (ZW.mp q)]
 fq:=λ{p q k l a b} _ _ _=>by
  cases a with
  |none=>cases b<;>rfl
  |some x=>cases b with
   |none=>rfl
   |some y=>rfl
 gi:=λ{p k a d h0 h Q} hd ha hl q=>lL (f:=147) (self:=[.ah 113]) rfl (by
  cases a with
  |none=>exact l7 (K:=0) (Jq (JE _ _) hd) (λ_=>rfl) q
  |some n=>exact Cn (Jq (JE _ _) hd) (by
    have:=ha n rfl
    have:n<2 ^ 3900:=Jx (show n<=3800 by lia) (by decide+kernel)
    exact this) q)
 gg:=λ{d h0 h Q} hd q=>lL (f:=150) (self:=[.ah 113]) rfl (l7 (K:=0) (Jq (JE _ _) hd) (λ_=>rfl) q)
abbrev QN:Type:= {q:Rat // 0<=q}
def eQ (q:QN):aa:= .az [.int q.1.num,.int q.1.den]
def nQ (q:QN):Nat:=q.1.num.toNat
theorem yR (q:QN):((nQ q:Nat):Int)=q.1.num:=qaC (Rat.num_nonneg.mpr q.2)
def tR (q:QN):eQ q= .az [.int (nQ q:Nat),.int q.1.den]:=by unfold eQ;rw [yR]
structure DQ (p k:Nat) (q:QN):Prop where
 d:q.1.den ∣ 12 ^ p
 n:nQ q<=2 ^ k*q.1.den
theorem C7 {p:Nat}{d:Nat} (h:d ∣ 12 ^ p):d<=2 ^ (4*p):=Jq (Nat.le_of_dvd (qbq (by decide)) h) (by rw [Nat.pow_mul];exact Nat.pow_le_pow_left (by decide) p)
def DQ.bd {p k:Nat}{q:QN} (H:DQ p k q) (hl:4*p+k<=3800):nQ q<wB/\q.1.den<wB:=by
 refine ⟨Lu (k:=4*p+k) hl (Jq H.n ?_),Lu (k:=4*p) (Jq (Jv _ _) hl) (C7 H.d)⟩;simp only [Kv,XE];exact JK _ (C7 H.d)
def fr?_of {n m:Nat} (hn:n<wB) (hm:m<wB) (h0:0<m):fr? (.az [.int n,.int m])=Qa (n,m):=by
 show (nat? (.int n)).bind (λa=>(nat? (.int m)).bind λb=>au (Zc 1 b) (Qa (a,b)))=_;rw [nat?_of hn,nat?_of hm];show au (Zc 1 m) _=_;rw [Kq h0];rfl
def vw {p k:Nat}{q:QN} (H:DQ p k q) (hl:4*p+k<=3800):fr? (eQ q)=Qa (nQ q,q.1.den):=by
 rw [tR];exact fr?_of (H.bd hl).1 (H.bd hl).2 q.1.den_pos
def zH {n m:Nat} (hm:m≠0):(Rat.normalize (n:Int) m hm).num=((n / Ko n m:Nat):Int)/\(Rat.normalize (n:Int) m hm).den=m / Ko n m:=by
 rw [Rat.normalize_eq];exact ⟨by show (n:Int) / ((Ko n m:Nat):Int)=_;rw [Int.natCast_ediv],rfl⟩
def uA (a b:QN):QN:=⟨a.1+b.1,Rat.add_nonneg a.2 b.2⟩
def oT (a b:QN):QN:=⟨a.1*b.1,Rat.mul_nonneg a.2 b.2⟩
def zR (a b:QN):nQ (uA a b)=(nQ a*b.1.den+nQ b*a.1.den) / Ko (nQ a*b.1.den+nQ b*a.1.den) (a.1.den*b.1.den)/\(uA a b).1.den=a.1.den*b.1.den / Ko (nQ a*b.1.den+nQ b*a.1.den) (a.1.den*b.1.den):=by
 have h0:a.1.den*b.1.den≠0:=qa3 a.1.den_nz b.1.den_nz;have e:(uA a b).1=Rat.normalize ((nQ a*b.1.den+nQ b*a.1.den:Nat):Int) (a.1.den*b.1.den) h0:=by
  show a.1+b.1=_;rw [Rat.add_def]
  congr 1
  simp only [qa1,K3,K3,yR,yR]
 exact ⟨by unfold nQ;rw [e,(zH (n:=nQ a*b.1.den+nQ b*a.1.den) h0).1];rfl,by rw [e,(zH (n:=nQ a*b.1.den+nQ b*a.1.den) h0).2]⟩
def zI (a b:QN):nQ (oT a b)=(nQ a*nQ b) / Ko (nQ a*nQ b) (a.1.den*b.1.den)/\(oT a b).1.den=a.1.den*b.1.den / Ko (nQ a*nQ b) (a.1.den*b.1.den):=by
 have h0:a.1.den*b.1.den≠0:=qa3 a.1.den_nz b.1.den_nz;have e:(oT a b).1=Rat.normalize ((nQ a*nQ b:Nat):Int) (a.1.den*b.1.den) h0:=by
  show a.1*b.1=_;rw [Rat.mul_def]
  congr 1
  simp only [K3,yR,yR]
 exact ⟨by unfold nQ;rw [e,(zH (n:=nQ a*nQ b) h0).1];rfl,by rw [e,(zH (n:=nQ a*nQ b) h0).2]⟩
def zbl (a b:QN):eQ (uA a b)=aP (nQ a) a.1.den (nQ b) b.1.den:=by
 simp only [tR,(zR a b).1,(zR a b).2];rfl
def B8 (a b:QN):eQ (oT a b)=xk (nQ a) a.1.den (nQ b) b.1.den:=by
 rw [tR,(zI a b).1,(zI a b).2];rfl
def B2 (q:QN):Ko (nQ q) q.1.den=1:=by
 exact (by have:=yR q;lia:nQ q=q.1.num.natAbs)▸q.1.reduced
def P5 {n d:Nat} (hd:0<d):n / Ko n d*d=n*(d / Ko n d):=by
 refine Zs (Nat.gcd_dvd_left n d) λx zq6=>?_;refine xE (Nat.gcd_dvd_right n d) λy hy=>?_;rw [(Xw (YB _ hd:0<Ko n d) zq6:n / Ko n d=x),(Xw (YB _ hd:0<Ko n d) hy:d / Ko n d=y)]
 calc x*d=x*(Ko n d*y):=by rw [<-hy]
  _=(Ko n d*x)*y:=by rw [<-qaG,Xo x]
  _=n*y:=by rw [<-zq6]
def II (a b:QN):nQ (uA a b)*(a.1.den*b.1.den)=(nQ a*b.1.den+nQ b*a.1.den)*(uA a b).1.den:=by
 simp only [(zR a b).1,(zR a b).2];exact P5 (Xd a.1.den_pos b.1.den_pos)
def B6 (a b:QN):nQ (oT a b)*(a.1.den*b.1.den)=(nQ a*nQ b)*(oT a b).1.den:=by
 simp only [(zI a b).1,(zI a b).2];exact P5 (Xd a.1.den_pos b.1.den_pos)
def Ai {q:QN}{M x:Nat} (h:nQ q*M=x*q.1.den):q.1.den ∣ M:=by
 exact (by rw [Nat.Coprime,Nat.gcd_comm];exact B2 q:Nat.Coprime q.1.den (nQ q)).dvd_of_dvd_mul_left ⟨x,by rw [h,Xo]⟩
def IJ {a b:QN}{M:Nat} (hM:0<M) (ha:a.1.den ∣ M) (hb:b.1.den ∣ M):(uA a b).1.den ∣ M:=by
 obtain ⟨x,hx⟩:=ha;obtain ⟨y,hy⟩:=hb;refine Ai (x:=nQ a*x+nQ b*y) (Nat.eq_of_mul_eq_mul_right hM ?_);have e:=II a b
 generalize nQ (uA a b)=n at*
 generalize (uA a b).1.den=c at*
 generalize a.1.den=d at*
 generalize b.1.den=f at*
 generalize nQ a=u at*
 generalize nQ b=v at*
 calc n*M*M=n*(d*x)*(f*y):=by rw [<-hx,<-hy]
  _=(n*(d*f))*(x*y):=by ac_rfl
  _=((u*f+v*d)*c)*(x*y):=by rw [e]
  _=(u*x*(f*y)+v*y*(d*x))*c:=by simp only [K9];congr 1<;>ac_rfl
  _=(u*x*M+v*y*M)*c:=by rw [<-hx,<-hy]
  _=(u*x+v*y)*c*M:=by simp only [K9];congr 1<;>ac_rfl
def Lo {a b:QN}{M N:Nat} (ha:a.1.den ∣ M) (hb:b.1.den ∣ N):(oT a b).1.den ∣ M*N:=by
 obtain ⟨x,hx⟩:=ha;obtain ⟨y,hy⟩:=hb;refine Ai (x:=nQ a*nQ b*(x*y)) ?_;have e:=B6 a b
 generalize nQ (oT a b)=n at*
 generalize (oT a b).1.den=c at*
 simp only [hx,hy]
 calc n*(a.1.den*x*(b.1.den*y))=(n*(a.1.den*b.1.den))*(x*y):=by ac_rfl
  _=(nQ a*nQ b*c)*(x*y):=by rw [e]
  _=nQ a*nQ b*(x*y)*c:=by ac_rfl
def Pg {a b:QN}{k:Nat} (ha:nQ a<=k*a.1.den) (hb:nQ b<=k*b.1.den):nQ (uA a b)<=k*2*(uA a b).1.den:=by
 refine Xx ?_ (Xd a.1.den_pos b.1.den_pos);rw [(II a b)];have h3:nQ a*b.1.den+nQ b*a.1.den<=k*2*(a.1.den*b.1.den):=by
  have e1:k*2*(a.1.den*b.1.den)=k*a.1.den*b.1.den+k*b.1.den*a.1.den:=by
   rw [qaG k 2,YL,qbp];congr 1<;>ac_rfl
  rw [e1];exact JL (Zr b.1.den ha) (Zr a.1.den hb)
 rw [show k*2*(uA a b).1.den*(a.1.den*b.1.den)=k*2*(a.1.den*b.1.den)*(uA a b).1.den by ac_rfl];exact (Zr (uA a b).1.den h3)
def D6 {a b:QN}{k l:Nat} (ha:nQ a<=k*a.1.den) (hb:nQ b<=l*b.1.den):nQ (oT a b)<=k*l*(oT a b).1.den:=by
 refine Xx ?_ (Xd a.1.den_pos b.1.den_pos);rw [(B6 a b)];rw [show k*l*(oT a b).1.den*(a.1.den*b.1.den)=k*a.1.den*(l*b.1.den)*(oT a b).1.den by ac_rfl];exact (Zr (oT a b).1.den (qba ha hb))
theorem B9 (a b c:QN):oT a (uA b c)=uA (oT a b) (oT a c):=Subtype.ext (Rat.mul_add ..)
def uZ (a b:QN):QN:=if a.1<b.1 then b else a
theorem p9 {a b:QN} (h:b.1<=a.1):uZ a b=a:=if_neg (Rat.not_lt.mpr h)
def maxQ_l' {a b:QN} (h:a.1<=b.1):uZ a b=b:=by
 delta uZ;by_cases q:a.1<b.1
 ·exact if_pos q
 ·exact (if_neg q).trans (Subtype.ext (Rat.le_antisymm h (Rat.not_lt.mp q)))
def EC (a b:QN):uZ a b=uZ b a:=by
 rcases Rat.le_total (a:=a.1) (b:=b.1) with h|h
 ·rw [maxQ_l' h,p9 h]
 ·rw [p9 h,maxQ_l' h]
def HK (a b c:QN):uZ (uZ a b) c=uZ a (uZ b c):=by
 rcases Rat.le_total (a:=a.1) (b:=b.1) with h|h<;>rcases Rat.le_total (a:=b.1) (b:=c.1) with h2|h2
 ·rw [maxQ_l' h,maxQ_l' h2,maxQ_l' (Rat.le_trans h h2)]
 ·rw [maxQ_l' h,p9 h2,maxQ_l' h]
 ·rw [p9 h,maxQ_l' h2]
 ·rw [p9 h,p9 h2,p9 h,p9 (Rat.le_trans h2 h)]
def B7 (a b c:QN):oT a (uZ b c)=uZ (oT a b) (oT a c):=by
 rcases Rat.le_total (a:=b.1) (b:=c.1) with h|h
 ·rw [maxQ_l' h,maxQ_l' (a:=oT a b) (b:=oT a c) (Rat.mul_le_mul_of_nonneg_left h a.2)]
 ·rw [p9 h,p9 (a:=oT a b) (b:=oT a c) (Rat.mul_le_mul_of_nonneg_left h a.2)]
def zav (a b:QN):eQ (uZ a b)=yq (nQ a) a.1.den (nQ b) b.1.den:=by
 delta yq;have e:a.1<b.1 ↔ nQ a*b.1.den<nQ b*a.1.den:=by
  rw [Rat.lt_iff,<-yR,<-yR]
  constructor
  ·intro h;exact ZW.mp (by rw [K3,K3];exact h)
  ·intro h;have:=ZW.mpr h;rw [K3,K3] at this;exact this
 delta uZ;by_cases h:a.1<b.1
 ·rw [if_pos h,if_pos (e.mp h),tR]
 ·rw [if_neg h,if_neg λq=>h (e.mpr q),tR]
def Og (a b:QN):uZ a b=a\/uZ a b=b:=by
 rcases Rat.le_total (a:=a.1) (b:=b.1) with h|h
 ·exact .inr (maxQ_l' h)
 ·exact .inl (p9 h)
def OA {h:MH}{a b c e:Int}:mn h (.az [.int a,.int b]) (.az [.int c,.int e])=Qa (a==c && b==e):=by
 show Qa (a==c && (b==e && Qf))=_;rw [Yb]
theorem zbG:wB<gB:=qap (by decide) (by decide)
def Pu {h:MH}{a b:QN}:mn h (eQ a) (eQ b)=Qa (@decide (a=b) (inferInstance)):=by
 delta eQ;refine OA.trans ?_
 congr 1
 by_cases q:a=b
 ·subst q;simp
 ·rw [decide_eq_false q,qal]
  by_cases h1:a.1.num=b.1.num
  ·exact .inr (beq_false_of_ne λh2=>q (Subtype.ext (Rat.ext h1 (Int.ofNat_inj.mp h2))))
  ·exact .inl (beq_false_of_ne h1)
def Lb {d:Nat}{q:QN}{h:MH}{Q:aa->MH->Prop}{s:aa} (hd:2<=d) (h1:nQ q<wB) (h2:q.1.den<wB) (qq:Q (eQ q) h):WF P0 d 157 [s,eQ q] h Q:=by
 have hp:=q.1.den_pos;rw [tR] at qq ⊢;exact l0 (K:=1) hd (Qa s::Qa (.az [.int (nQ q),.int q.1.den])::nn 6) tZ rfl λd' h'=>lJ (.c4<| .c4<| .c4<| .c4<| .c3<| .f (decide_eq_false (p:=(q.1.den:Int)<1) (by lia))<| .c2<| .f (wV h1)<| .c2<| .f (wV h2)<| .c2<| .q ((λh=>(zde h' (Zm h1 zbG) h).trans (by rw [(B2 q)];rfl): ∀h,kT (aj P0 d') (.ah 109) [.int q.1.den,.int (nQ q)] h=Qa (.int 1,h)))<| .c2<| .z (qq)) rfl
theorem b5:(0:Rat)<=1:=rfl
def Gq:Rg where
 i:=3
 hi:=by decide
 α:=QN
 gq:=inferInstance
 e:=eQ
 zero:=⟨0,Rat.le_refl⟩
 dz:=⟨1,b5⟩
 add:=uA
 mul:=oT
 D:=DQ
 add_comm:=λa b=>Subtype.ext (Rat.add_comm ..)
 add_assoc:=λa b c=>Subtype.ext (Rat.add_assoc ..)
 zero_add:=λa=>Subtype.ext (Rat.zero_add ..)
 mul_comm:=λa b=>Subtype.ext (Rat.mul_comm ..)
 mul_assoc:=λa b c=>Subtype.ext (Rat.mul_assoc ..)
 one_mul:=λa=>Subtype.ext (Rat.one_mul ..)
 zero_mul:=λa=>Subtype.ext (Rat.zero_mul ..)
 mul_add:=B9
 qh:=rfl
 tf:=rfl
 wt:=λa=>rfl
 ff:=λh a b=>Pu
 ai:=λ{p q k l a} hp hk ha=>⟨qbf ha.d (qa4 12 hp),Jq ha.n (Zr _ (qaq (by decide) hk))⟩
 cj:=⟨qav _,JJ _⟩
 gp:=⟨qav _,by show 1<=_;decide⟩
 gb:=λ{p k a b} ha hb=>⟨IJ (qbq (by decide)) ha.d hb.d,by rw [qbi];exact Pg ha.n hb.n⟩
 fm:=λ{p q k l a b} ha hb=>⟨by rw [XE];exact Lo ha.d hb.d,by rw [XE];exact D6 ha.n hb.n⟩
 gh:=λ{p k a b} ha hb hl=>by
  show nt aP (eQ a) (eQ b)=_;unfold nt;rw [vw ha hl,vw hb hl,zbl];rfl
 fq:=λ{p q k l a b} ha hb hl=>by
  show nt xk (eQ a) (eQ b)=_;unfold nt;rw [vw ha (by lia),vw hb (by lia),B8];rfl
 gi:=λ{p k a d h0 h Q} hd ha hl q=>lL (f:=157) (self:=[.ah 115]) rfl (Lb (JQ (KA hd)) (ha.bd hl).1 (ha.bd hl).2 q)
 gg:=λ{d h0 h Q} hd q=>lL (f:=160) (self:=[.ah 115]) rfl (l7 (K:=2) hd (λ_=>by kernel_rfl) q)
structure DL (p k:Nat) (q:QN):Prop where
 d:q.1.den ∣ 12 ^ p
 n:nQ q<=q.1.den
theorem DL.q {p k:Nat}{q:QN} (H:DL p k q):DQ p 0 q:=⟨H.d,by rw [Nat.pow_zero,Z7];exact H.n⟩
def EF {d:Nat}{q:QN}{h:MH}{Q:aa->MH->Prop}{s:aa} (hd:3<=d) (h1:nQ q<wB) (h2:q.1.den<wB) (h3:nQ q<=q.1.den) (qq:Q (eQ q) h):WF P0 d 161 [s,eQ q] h Q:=by
 rw [tR] at qq ⊢;exact l0 (K:=2) hd (Qa s::Qa (.az [.int (nQ q),.int q.1.den])::nn 6) tW rfl λd' h'=>lJ (.q ((λh=>by rw [<-tR];exact me (f:=157) (self:=[]) rfl (Lb h' h1 h2 (cv _ _)): ∀h,l5 (aj P0 d') (.ah 111) B3 [s,.az [.int (nQ q),.int q.1.den]] h h=Qa (.az [.int (nQ q),.int q.1.den],h)))<| .c3<| .f (decide_eq_false (p:=(q.1.den:Int)<nQ q) (by lia))<| .z (qq)) rfl
def Gn:Rg where
 i:=4
 hi:=by decide
 α:=QN
 gq:=inferInstance
 e:=eQ
 zero:=⟨0,Rat.le_refl⟩
 dz:=⟨1,b5⟩
 add:=uZ
 mul:=oT
 D:=DL
 add_comm:=EC
 add_assoc:=HK
 zero_add:=λa=>maxQ_l' a.2
 mul_comm:=λa b=>Subtype.ext (Rat.mul_comm ..)
 mul_assoc:=λa b c=>Subtype.ext (Rat.mul_assoc ..)
 one_mul:=λa=>Subtype.ext (Rat.one_mul ..)
 zero_mul:=λa=>Subtype.ext (Rat.zero_mul ..)
 mul_add:=B7
 qh:=rfl
 tf:=rfl
 wt:=λa=>rfl
 ff:=λh a b=>Pu
 ai:=λ{p q k l a} hp hk ha=>⟨qbf ha.d (qa4 12 hp),ha.n⟩
 cj:=⟨qav _,JJ _⟩
 gp:=⟨qav _,JA 1⟩
 gb:=λ{p k a b} ha hb=>by
  rcases Og a b with e|e
  ·rw [e];exact ⟨ha.d,ha.n⟩
  ·rw [e];exact ⟨hb.d,hb.n⟩
 fm:=λ{p q k l a b} ha hb=>⟨by rw [XE];exact Lo ha.d hb.d,by
  have:=D6 (k:=1) (l:=1) (by rw [Z7];exact ha.n) (by rw [Z7];exact hb.n)
  simpa using this⟩
 gh:=λ{p k a b} ha hb hl=>by
  show nt yq (eQ a) (eQ b)=_;unfold nt;rw [vw ha.q (JZ (Jq (Jv _ _) hl) _),vw hb.q (JZ (Jq (Jv _ _) hl) _),zav];rfl
 fq:=λ{p q k l a b} ha hb hl=>by
  show nt xk (eQ a) (eQ b)=_;unfold nt;rw [vw ha.q (by lia),vw hb.q (by lia),B8];rfl
 gi:=λ{p k a d h0 h Q} hd ha hl q=>lL (f:=161) (self:=[.ah 116]) rfl (EF hd (ha.q.bd (JZ (Jq (Jv _ _) hl) _)).1 (ha.q.bd (JZ (Jq (Jv _ _) hl) _)).2 ha.n q)
 gg:=λ{d h0 h Q} hd q=>lL (f:=163) (self:=[.ah 116]) rfl (l7 (K:=0) (Jq (JE _ _) hd) (λ_=>rfl) q)
section
variable {R:Rg}{d:Nat}{h h0 g:MH}{Q:aa->MH->Prop}{m:Nat}{M:Mc R.α}{X:List (Nat×ae)}
structure Mk (R:Rg) (h g:MH) (m:Nat) (M:Mc R.α) (X:List (Nat×ae)):Prop where
 x: ∃L:Ly,L.m=m/\aq R g L M/\(∀a∈fi L,h.length<=a)/\∀p∈X,g[p.1]?=Qa p.2/\p.1∉fi L
 pre: ∃t,g=h++t
def Mk.ob (H:Mk R h g m M X) {a:Nat}{o:ae} (hp:(a,o)∈X):g[a]?=Qa o:=by
 exact H.x.elim λL zq12=>(zq12.2.2.2 _ hp).1
def Mk.up (H:Mk R h g m M X) {a:Nat}{o:ae} (e:h[a]?=Qa o):g[a]?=Qa o:=by
 refine H.pre.elim λt zq11=>?_;refine eqB zq11 ?_;exact kI e
def Mk.to {g':MH}{L L':Ly}{M':Mc R.α}{S:List Nat} (H:Mk R h g m M X) (e1:L.m=m) (ho: ∀a∈fi L,h.length<=a) (hx: ∀p∈X,g[p.1]?=Qa p.2/\p.1∉fi L) (I':aq R g' L' M') (em:L'.m=L.m) (K:m3 g g' S) (hS: ∀a∈S,a∈fi L) (hL: ∀a∈fi L',a∈fi L\/g.length<=a):Mk R h g' m M' X:=by
 refine H.pre.elim λt zq10=>?_;obtain rfl:=zq10;refine ⟨⟨L',by rw [em,e1],I',λa ha=>(hL a ha).elim (ho a) λq=>Jq (by rw [Jz];exact Jv _ _) q,λp hp=>?_⟩,K.pre λa ha=>ho a (hS a ha)⟩;refine xA (hx p hp) λh1 h2=>?_;exact ⟨K.at' _ _ (λq=>h2 (hS _ q)) h1,λq=>(hL _ q).elim h2 λq=>absurd (lI h1) (ZE q)⟩
def Mk.more (H:Mk R h g m M X) {t:MH}:Mk R h (g++t) m M X:=by
 exact H.x.elim λL zq8=>H.to zq8.1 zq8.2.2.1 zq8.2.2.2 zq8.2.1.cw rfl (m3.cw (S:=[])) (λa ha=>absurd ha JB) λa ha=> .inl ha
def aq.rd {L:Ly} (I:aq R g L M) {a:Nat} (ha:a∈fi L):a<g.length:=by
 rcases JT.mp ha with rfl|ha
 ·exact lI I.fk
 rcases JT.mp ha with rfl|ha
 ·exact lI I.ab
 rcases JT.mp ha with rfl|ha
 ·exact lI I.ar
 ·exact I.ua ha
def Mk.fk (H:Mk R h g m M X) {t:ae}:Mk R h (g++ [t]) m M ((g.length,t)::X):=by
 refine ((H.more (t:=[t])).x).elim λL zq7=>?_;refine H.x.elim λL0 zq6=>?_;refine ⟨⟨L0,zq6.1,zq6.2.1.cw,zq6.2.2.1,λp hp=>?_⟩,(H.to (L:=L0) zq6.1 zq6.2.2.1 zq6.2.2.2 (zq6.2.1.cw (t:=[t])) rfl (m3.cw (S:=[])) (λa ha=>absurd ha JB) λa ha=> .inl ha).pre⟩;rcases JT.mp hp with rfl|hp
 ·exact ⟨ap,λq=>absurd (zq6.2.1.rd q) (J8 _)⟩
 ·exact ⟨kI (zq6.2.2.2 p hp).1,(zq6.2.2.2 p hp).2⟩
theorem zap (hd:1<=d) (q: ∀g,Mk R h g h.length M0 []->Q (.ref h.length) g):WV (aj P0 d) (.ah 121) [.ah (112+R.i)] h Q:=
 (BV R hd h).elim λt e=>W.of e.1 (q _ ⟨⟨_,rfl,e.2,λa ha=>by
  simp only [fi,JT,JB,or_false] at ha;rcases ha with rfl|rfl|rfl<;>lia,λp hp=>absurd hp JB⟩,t,rfl⟩)
def Cd (hd:2<=d) (H:Mk R h g m M X) (hl:M.ab.length<10000) (q: ∀g',Mk R h g' m M.more X->Q (.int M.ab.length) g'):WM (aj P0 d) (.ref m) 495873782885 [] g g Q:=by
 refine H.x.elim λL zq5=>?_;obtain rfl:=zq5.1;refine lL (mR zq5.2.1.fk rfl rfl) (GN hd zq5.2.1 hl λg' I' K=>q g' (H.to rfl zq5.2.2.1 zq5.2.2.2 I' rfl K (λa ha=>?_) λa ha=>?_))
 ·simp only [JT,JB,or_false] at ha
  rcases ha with rfl|rfl
  ·exact .tail _ (.head _)
  ·exact .tail _ (.tail _ (.head _))
 ·rcases We a ha with ha|rfl
  ·exact .inl ha
  ·exact .inr (JA _)
def zar {s p k:Nat}{a:Ar R.α} (hd:4<=d) (H:Mk R h g m M X) (hs:s<M.ab.length) (ht:a.t<M.ab.length) (lu:fc a.up) (ll:fc a.lo) (hw:R.D p k a.w) (hl:4*p+k<=3800) (hc:M.bq<100000)
  (q: ∀g' M',Mk R h g' m M' X->(a.w=R.zero->M'=M) ->(a.w≠R.zero->M'=M.fv s a) ->Q .none g'):WM (aj P0 d) (.ref m) 6386275 [.int s,.str a.up,.str a.lo,R.e a.w,.int a.t] g g Q:=by
 refine H.x.elim λL zq4=>?_;obtain rfl:=zq4.1;exact lL (mR zq4.2.1.fk rfl rfl) (IA hd zq4.2.1 hs ht lu ll hw hl hc λg' M' I' K h1 h2=>q g' M' (H.to rfl zq4.2.2.1 zq4.2.2.2 I' rfl K (λa ha=>ha) λa ha=> .inl ha) h1 h2)
def zaq {s p k:Nat}{w:R.α} (hd:4<=d) (H:Mk R h g m M X) (hs:s<M.ab.length) (hw:R.D p k w) (hl:4*p+k<=3800) (q: ∀g',Mk R h g' m {M with ar:=M.ar.set s w} X->Q .none g'):WM (aj P0 d) (.ref m) 6647396 [.int s,R.e w] g g Q:=by
 refine xEAA H.x λL dh I gd=>?_;refine xA gd λho hx=>?_;subst dh;exact lL (mR I.fk rfl rfl) (zaQ hd I hs hw hl λg' I' K=>q g' (H.to rfl ho hx I' rfl K (λa ha=>ha) λa ha=> .inl ha))
def Oc {s:Nat} (hd:4<=d) (H:Mk R h g m M X) (hs:s<M.ab.length) (q: ∀g',Mk R h g' m {M with ar:=M.ar.set s R.dz} X->Q .none g'):WM (aj P0 d) (.ref m) 6647396 [.int s] g g Q:=by
 refine H.x.elim λL zq2=>?_;obtain rfl:=zq2.1;exact lL (mR zq2.2.1.fk rfl rfl) (OS hd zq2.2.1 hs λg' I' K=>q g' (H.to rfl zq2.2.2.1 zq2.2.2.2 I' rfl K (λa ha=>ha) λa ha=> .inl ha))
def Ce {s p k:Nat}{w:R.α} (hd:4<=d) (H:Mk R h g m M X) (hs:s<M.ab.length) (hw:R.D p k w) (hl:4*p+k<=3800) (q: ∀g',Mk R h g' m {M with start:=s,first:=w} X->Q .none g'):WM (aj P0 d) (.ref m) 422608071022 [.int s,R.e w] g g Q:=by
 refine xEAA H.x λL dh I gd=>?_;refine xA gd λho hx=>?_;subst dh;exact lL (mR I.fk rfl rfl) (LY hd I hs hw hl λg' I' K=>q g' (H.to rfl ho hx I' rfl K (λa ha=>ha) λa ha=> .inl ha))
end
section
variable {R:Rg}{d:Nat}{h h0 g:MH}{Q:aa->MH->Prop}{m:Nat}{M:Mc R.α}{X:List (Nat×ae)}
def aq.bV {L:Ly}{a:Nat}{vs:List aa}{o:ae} (I:aq R g L M) (ha:g[a]?=Qa (.list vs)) (hn:a∉fi L):aq R (g.set a o) L M:=by
 have k: ∀ {b:Nat}{o':ae},b∈fi L->g[b]?=Qa o'->(g.set a o)[b]?=Qa o':=λ{b o'} hb e=>lF (λq=>hn (q▸hb)) e;refine ⟨k (.head _) I.fk,k (.tail _ (.head _)) I.ab,k (.tail _ (.tail _ (.head _))) I.ar,I.len,I.fj,λi r xs hr hx=>?_,I.nd,I.bh,I.ct,I.cl,I.ds.to λr hr _ e=>k (.tail _ (.tail _ (.tail _ hr))) e⟩;refine Zs (I.bc i r xs hr hx) λas zq13=>?_;refine ⟨as,k (.tail _ (.tail _ (.tail _ (Ju hr)))) zq13.1,zq13.2.1,λj b x e1 e2=>?_⟩;have hb:=zq13.2.2 j b x e1 e2;exact lF (λq=>by subst q;rw [ha] at hb;cases hb) hb
def Mk.bU {a:Nat}{vs:List aa}{o:ae} (H:Mk R h g m M ((a,.list vs)::X)) (hX: ∀p∈X,a≠p.1) (ha:h.length<=a):Mk R h (g.set a o) m M ((a,o)::X):=by
 refine H.x.elim λL zq12=>?_;have hx:=zq12.2.2.2;obtain ⟨h1,h2⟩:=hx _ (.head _);refine H.pre.elim λt zq10=>?_;obtain rfl:=zq10;refine ⟨⟨L,zq12.1,zq12.2.1.bV h1 h2,zq12.2.2.1,λp hp=>?_⟩,_,vM ha⟩;rcases JT.mp hp with rfl|hp
 ·exact ⟨lW h1,h2⟩
 ·exact ⟨lF (hX p hp) (hx p (.tail _ hp)).1,(hx p (.tail _ hp)).2⟩
theorem Mk.lt (H:Mk R h g m M X): ∀p∈X,g.length≠p.1:=λp hp=>by
 refine H.x.elim λL zq9=>?_
 have:=lI (zq9.2.2.2 p hp).1
 exact Ka this
def Mk.drop {p:Nat×ae} (H:Mk R h g m M (p::X)):Mk R h g m M X:=by
 exact H.x.elim λL zq8=>⟨⟨L,zq8.1,zq8.2.1,zq8.2.2.1,λq hq=>zq8.2.2.2 q (.tail _ hq)⟩,H.pre⟩
def Mk.le (H:Mk R h g m M X):h.length<=g.length:=by
 refine H.pre.elim λt zq7=>?_;refine eqB zq7 ?_;simp only [Jz];exact Jv _ _
def qJ (M:Mc R.α):Nat->Mc R.α
 |0=>M
 |n+1=>(qJ M n).more
def Ez {n:Nat}:(qJ M n).ab.length=M.ab.length+n:=by
 induction n with
 |zero=>rfl
 |succ n ih=>show (_++ [[]]).length=_;rw [Jz,ih];rfl
def Od {n:Nat} (hd:2<=d) (H:Mk R h g m M X) (hl:M.ab.length+n<10000): ∃v g',eval (aj P0 d) (.comp (.ao (.var 0) 495873782885 []) [2] Qb (.call (.lit (.ty 491260897125)) [.var 1]) []) (Qa (.ref m)::Qa (.int n)::nn 6) g=Qa (v,g')/\Mk R h g' m (qJ M n) X:=by
 refine W.get (o:=eval (aj P0 d) _ _ g) (Q:=λ_ g'=>Mk R h g' m (qJ M n) X) (wC ?_);have I0: ∃k,∃xs:List aa,pF g (.gf n)=Qa k/\xs.length<(aj P0 d).cu/\∃I:Nat->MH->Prop,I 0 (g++ [.list []])/\(∀i h,I i h->mJ h i k=Qa xs[i]?)/\
   (∀i x,xs[i]?=Qa x-> ∀hh,I i hh->Wo (oX (Qa (.ref m)::Qa (.int n)::nn 6) [2] Qb x) λfr1=>uo (aj P0 d) fr1 [] hh λb h2=>Br b (WE (aj P0 d) fr1 (.ao (.var 0) 495873782885 []) h2 λx h3=> ∃vs,h3[g.length]?=Qa (.list vs)/\vs.length<bh/\I (i+1) (h3.set g.length (.list (vs++ [x])))) (I (i+1) h2))/\
   ∀hh,I xs.length hh->Mk R h hh m (qJ M n) X:=by
  refine ⟨.rg n,UO n,HO (pQ (Jy (JX (JE _ _)) (Jq (Za hl) (JE _ _)))),by rw [oP];show _<200000;exact Jy (JX (JE _ _)) (Jq (Za hl) (JE _ _)),λi hh=>i<=n/\∃vs,vs.length=i/\Mk R h hh m (qJ M i) ((g.length,.list vs)::X),⟨JJ _,[],rfl,(H.fk (t:=.list []))⟩,λi hh q=>HD q.1,λi v hv hh q=>?_,λhh q=>?_⟩
  ·obtain ⟨hi,rfl⟩:=UN hv
   refine q.2.elim λvs zq5=>?_;refine mT (rO (za1 ?_))
   have: ∃v g',l5 (aj P0 d) (.ref m) 495873782885 [] hh hh=Qa (v,g')/\Mk R h g' m (qJ M (i+1)) ((g.length,.list vs)::X):=W.get (Cd hd zq5.2 (by rw [Ez];exact Jy (ZI hi _) (JQ hl)) λg' H2=>H2)
   exact this.elim λv zq3=>zq3.elim λg' zq4=>lR (.p (zq4.1)<| .z ((⟨vs,zq4.2.ob (.head _),by rw [zq5.1];exact Jy hi (pQ (Jy (JX (JE _ _)) (Jq (Za hl) (JE _ _)))),hi,_,by rw [Jz,zq5.1];rfl,zq4.2.bU H.lt H.le⟩: ∃us,g'[g.length]?=Qa (.list us)/\us.length<bh/\i+1<=n/\∃ws,ws.length=i+1/\Mk R h (g'.set g.length (.list (us++ [v]))) m (qJ M (i+1)) ((g.length,.list ws)::X)))) rfl
  ·rw [oP] at q
   exact q.2.elim λvs zq2=>zq2.2.drop
 exact lR (.c<| .z (I0)) rfl
def EB {n:Nat} (hd:3<=d) (H:Mk R h g m M X) (hl:M.ab.length+n<10000) (q: ∀v g',Mk R h g' m (qJ M n) X->Q v g'):WM (aj P0 d) (.ref m) 126943688418675 [.int n] g g Q:=by
 refine H.x.elim λL zq1=>?_;refine lL (zq1.1▸mR zq1.2.1.fk rfl rfl:nU P0 g (.ref m) 126943688418675=Qa (169,[.ref m])) (l0 (K:=2) hd (Qa (.ref m)::Qa (.int n)::nn 6) qS rfl λd' h'=>?_);have e1:=PW (n:=n) (d:=d') (JQ (KA h')) zq1.2.1 (Jq (JQ hl) (JE _ _));rw [zq1.1] at e1;exact (Od h' H hl).elim λv a=>a.elim λg' b=>lJ (.p (e1)<| .p (b.1)<| .z (q v g' b.2)) rfl
end
section
variable {d:Nat}{h h0:MH}{Q:aa->MH->Prop}
def lH (i:Nat):List Nat:=EN [121,101,115] [108,101,97,115,116] [99,111,117,110,116] [99,104,97,110,99,101] [108,105,107,101,108,121] i
abbrev B4:Nat:=1851878757
theorem zcy {i:Nat} (hi:i<5) (q:Q (.str (lH i)) h):WA P0 (.ah (112+i)) B4 h Q:=
 Hl (qB (C:=λi=>((P0.cn (112+i)).bind λc=>vH P0 c B4)=Qa (.str (lH i))) i hi rfl rfl rfl rfl rfl) q
def zb9 {i:Nat} (hi:i<5) (hd:1<=d) (q:Q (.ah (112+i)) h):WF P0 d 105 [.str (lH i)] h Q:=by
 revert q
 refine qB (C:=λi=>Q (.ah (112+i)) h->WF P0 d 105 [.str (lH i)] h Q) i hi ?_ ?_ ?_ ?_ ?_<;>intro q
 ·exact l7 (K:=0) hd (λ_=>by kernel_rfl) q
 ·exact l7 (K:=0) hd (λ_=>by kernel_rfl) q
 ·exact l7 (K:=0) hd (λ_=>by kernel_rfl) q
 ·exact l7 (K:=0) hd (λ_=>by kernel_rfl) q
 ·exact l7 (K:=0) hd (λ_=>by kernel_rfl) q
def mm (i:Nat):List aa:=EN [.int 1,.int 1,.int 1] [.int 0,.int 1,.int 3] [.int 1,.int 1,.int 2] [.az [.int 1,.int 4],.az [.int 1,.int 3],.az [.int 1,.int 2]] [.az [.int 1,.int 2],.az [.int 1,.int 3],.az [.int 1,.int 1]] i
def jy (h:MH):Nat->MH
 |0=>h
 |n+1=>jy h n++ [ae.list (mm n)]
def xj (h:MH):List (aa×aa):= [(.str (lH 0),.ref (jy h 0).length),(.str (lH 1),.ref (jy h 1).length),(.str (lH 2),.ref (jy h 2).length),(.str (lH 3),.ref (jy h 3).length),(.str (lH 4),.ref (jy h 4).length)]
def Oh (h:MH) (n:Nat):(jy h n).length=h.length+n:=by
 induction n with
 |zero=>rfl
 |succ n ih=>exact x5.trans (congrArg (· +1) ih)
def zcX (h:MH) (x:ae):jy h 5++ [x]=h++ [.list (mm 0),.list (mm 1),.list (mm 2),.list (mm 3),.list (mm 4),x]:=by unfold jy jy jy jy jy jy;simp only [JH,Yf,qa2]
def zcY {i:Nat} (hi:i<5) (hd:1<=d) (q: ∀t a,h.length<=a->(h++t)[a]?=Qa (.list (mm i)) ->Q (.ref a) (h++t)):WF P0 d 138 [.str (lH i)] h Q:=by
 refine l0 (K:=0) hd (Qa (.str (lH i))::nn 6) pL rfl λd' h'=>?_;have e2:Q (.ref (jy h i).length) (jy h 5++ [.dict (Qa 5) (xj h)]):=by
  rw [zcX,Oh];exact q _ _ (Jv _ _) (pH.trans (qB (C:=λi=>([ae.list (mm 0),.list (mm 1),.list (mm 2),.list (mm 3),.list (mm 4),.dict (Qa 5) (xj h)]:MH)[i]?=Qa (.list (mm i))) i hi rfl rfl rfl rfl rfl))
 exact lJ (.c<| .v ((sd (ep:=Qa 5) (es:=xj h) ap (qB (C:=λi=>kX (xj h) (.str (lH i))=Qf) i hi rfl rfl rfl rfl rfl) (qB (C:=λi=>kY (xj h) (.str (lH i))=Qa (.ref (jy h i).length)) i hi rfl rfl rfl rfl rfl):l9 (jy h 5++ [.dict (Qa 5) (xj h)]) (.ref (jy h 5).length) (.str (lH i))=Qa (.ref (jy h i).length)))<| .z (e2)) rfl
end
def cell (ns:List Int) (k:Nat):Int:=ns[k]?.getD 0
theorem zc2 (z:Cx) (ns:List Int) (h:MH):kT z (.bi 7103854) [.fl (ns.map .int)] h=Qa (.int ns.length,h):=W.eq (Hf (n:=ns.length) (by show Qa _=_;rw [Jt]) (cv _ _))
def OY {d:Nat} (hd:1<=d) {ns:List Int}{k:Nat}{i:Int} (hi:i=k) {h:MH}{Q:aa->MH->Prop} (q:Q (.int (cell ns k)) h):WF P0 d 137 [.fl (ns.map .int),.int i] h Q:=by
 subst hi;refine l0 (K:=0) hd (Qa (.fl (ns.map .int))::Qa (.int k)::nn 6) rE rfl λd' h'=>?_;by_cases hk:k<ns.length
 ·have e:cell ns k=ns[k]:=by unfold cell;rw [Js hk];rfl
  exact lJ (.q (zc2 (aj P0 d') ns)<| .c<| .t (decide_eq_true (ZW.mpr hk))<| .v ((Wo.eq (zbC (Q:=λa _=>a= .int (cell ns k)) (v:=.int (cell ns k)) (by rw [JC,Js hk,e];rfl) rfl):l9 h (.fl (ns.map .int)) (.int k)=Qa (.int (cell ns k))))<| .z (q)) rfl
 ·have e:cell ns k=0:=by
   delta cell;rw [Kr (ZG hk)];rfl
  rw [e] at q;exact lJ (.q (zc2 (aj P0 d') ns)<| .c<| .f (decide_eq_false (λh=>hk (ZW.mp h)))<| .z (q)) rfl
def rT (x:Int) {m:Nat} (hm:0<m): ∃n:Nat,n<m/\Xq x m=n:=by
 have g1:=Int.fmod_nonneg_of_pos x (b:=m) (by lia);have g2:=Int.fmod_lt_of_pos x (b:=m) (by lia);exact ⟨(Xq x m).toNat,by lia,by lia⟩
section
variable {R:Rg}{d:Nat}{h h0 g:MH}{Q:aa->MH->Prop}{m:Nat}{M:Mc R.α}{R':Fl->Internal.Frame->MH->Prop}{k:Nat}
structure RL (R:Rg) (ws:List R.α):Prop where
 ne:R.dz≠R.zero
 len:ws.length=3
 dg: ∀w∈ws,R.D 1 1 w/\w≠R.zero
 e:mm R.i=ws.map R.e
def lm:List (List Nat):= [[97],[98],[]]
structure sk (us:List (List Nat)) (n k:Nat) (M:Mc R.α):Prop where
 len:M.ab.length=n
 ar: ∀e∈M.ar,R.D 1 1 e
 fv: ∀ (s:Nat) (ys:List (Ar R.α)),M.ab[s]?=Qa ys-> ∀a∈ys,a.t<n/\fc a.up/\fc a.lo/\R.D 1 1 a.w/\a.w≠R.zero/\(a.ft=Qf->s<a.t)/\a.up∈us/\a.lo∈lm
 ct:M.bq<=k
def sk.lr {us:List (List Nat)}{n k s:Nat}{a:Ar R.α} (P:sk us n k M) (hs:s<n) (ha:a.t<n/\fc a.up/\fc a.lo/\R.D 1 1 a.w/\a.w≠R.zero/\(a.ft=Qf->s<a.t)/\a.up∈us/\a.lo∈lm):sk us n (k+1) (M.fv s a):=by
 have hsl:s<M.ab.length:=by rw [P.len];exact hs
 refine ⟨by show (qbb _ _ _).length=_;rw [Zb];exact P.len,P.ar,λs' ys hy x hx=>?_,Zu P.ct⟩;have hy:(M.ab.set s (M.ab[s]?.getD []++ [a]))[s']?=Qa ys:=hy;by_cases e:s=s'
 ·subst e
  rw [J7 hsl] at hy;obtain rfl:=Qa.inj hy;rcases J4.mp hx with hx|hx
  ·rw [Js hsl] at hx
   exact P.fv s _ (Js hsl) x hx
  ·cases JG.mp hx;exact ha
 ·rw [J6 e] at hy
  exact P.fv s' ys hy x hx
structure ur (R:Rg) where
 g:MH
 M:Mc R.α
 a:Option aa:=Qd
 b:Option aa:=Qd
 c:Option aa:=Qd
 d:Option aa:=Qd
 e:Option aa:=Qd
 f:Option aa:=Qd
structure yd (R:Rg) where
 h:MH
 ns:List Int
 o:Nat
 aU:Nat
 us:List (List Nat)
 ws:List R.α
 n:Nat
 aW:Nat
structure dS (X:yd R):Prop where
 Z:RL R X.ws
 hU:X.h[X.aU]?=Qa (.list (X.us.map .str))
 hu:X.us≠ []
 zk: ∀u∈X.us,fc u
 hn:0<X.n
 wx:X.n<=4
def tu (X:yd R) (a b c d e f:Option aa):Internal.Frame:=Qa (.fl (X.ns.map .int))::Qa (.int X.o)::Qa (.ah (112+R.i))::Qa (.ref X.aU)::Qa (.bool Qb)::Qa (.ref X.h.length)::Qa (.int X.n)::Qa (.ref X.aW)::a::b::c::d::e::f::nn 6
structure qd (X:yd R) (k:Nat) (s:ur R):Prop where
 H:Mk R X.h s.g X.h.length s.M [(X.aW,.list (X.ws.map R.e))]
 P:sk X.us X.n k s.M
abbrev aY:List Sm:= [(Sm.bg (T1.nm 9) (Ex.call (Ex.lit (aa.ah 137)) [(Ex.var 0),(Ex.bj ik.add (Ex.bj ik.add (Ex.var 1) (Ex.lit (aa.int 2))) (Ex.var 8))])),(Sm.bg (T1.nm 10) (Ex.bj ik.mod (Ex.var 9) (Ex.var 6))),(Sm.bg (T1.nm 11) (Ex.bj ik.mod (Ex.bj ik.fdiv (Ex.var 9) (Ex.lit (aa.int 4))) (Ex.var 6))),(Sm.bg (T1.nm 12) (Ex.sub (Ex.var 3) (Ex.bj ik.mod (Ex.bj ik.fdiv (Ex.var 9) (Ex.lit (aa.int 16))) (Ex.call (Ex.lit (aa.bi 7103854)) [(Ex.var 3)])))),(Sm.bg (T1.nm 13) (Ex.sub (Ex.list [(Ex.lit (aa.str [97])),(Ex.lit (aa.str [98])),(Ex.lit (aa.str []))]) (Ex.bj ik.mod (Ex.bj ik.fdiv (Ex.var 9) (Ex.lit (aa.int 48))) (Ex.lit (aa.int 3))))),(Sm.bg (T1.nm 11) (Ex.call (Ex.lit (aa.bi 7168376)) [(Ex.var 11),(Ex.bj ik.mul (Ex.bj ik.add (Ex.var 10) (Ex.lit (aa.int 1))) (Ex.gy Qf [(Ex.ba uv.eq (Ex.bj ik.add (Ex.var 12) (Ex.var 13)) (Ex.lit (aa.str []))),(Ex.var 4)]))])),(Sm.ite (Ex.ba uv.lt (Ex.var 11) (Ex.var 6)) [(Sm.expr (Ex.ao (Ex.var 5) 6386275 [(Ex.var 10),(Ex.var 12),(Ex.var 13),(Ex.sub (Ex.var 7) (Ex.bj ik.mod (Ex.bj ik.fdiv (Ex.var 9) (Ex.lit (aa.int 144))) (Ex.lit (aa.int 3)))),(Ex.var 11)]))] [])]
def jS {u:Nat} (h:u<3): ∃lo,([aa.str [97],.str [98],.str []]:List aa)[u]?=Qa (.str lo)/\fc lo/\lo∈lm:=by
 rcases u with _|_|_|u
 ·exact ⟨[97],rfl,.inr ⟨97,rfl,by decide+kernel⟩,.head _⟩
 ·exact ⟨[98],rfl,.inr ⟨98,rfl,by decide+kernel⟩,.tail _ (.head _)⟩
 ·exact ⟨[],rfl,.inl rfl,.tail _ (.tail _ (.head _))⟩
 ·exact absurd h (ZX.mpr (JE _ _))
abbrev cU:List Sm:= [(Sm.ite (Ex.ba uv.lt (Ex.var 11) (Ex.var 6)) [(Sm.expr (Ex.ao (Ex.var 5) 6386275 [(Ex.var 10),(Ex.var 12),(Ex.var 13),(Ex.sub (Ex.var 7) (Ex.bj ik.mod (Ex.bj ik.fdiv (Ex.var 9) (Ex.lit (aa.int 144))) (Ex.lit (aa.int 3)))),(Ex.var 11)]))] [])]
theorem tL (hd:1<=d) (ns:List Int) (k:Nat) (h:MH):kT (aj P0 d) (.ah 137) [.fl (ns.map .int),.int k] h=Qa (.int (cell ns k),h):=fn rfl (OY (d:=d) (k:=k) hd rfl ⟨rfl,rfl⟩)
theorem fS {a b:List Nat} (ha:a.length<=1) (hb:b.length<=1) (h:MH):pJ .add (.str a) (.str b) h=Qa (.str (a++b),h):=W.eq (Mu (Jq (JL ha hb) (by decide)) ⟨rfl,rfl⟩)
theorem Ou {l:List Nat} (h:fc l):l.length<=1:=h.elim (λe=>e▸JJ _) λ⟨_,e,_⟩=>e▸JA _
theorem zdc {a b:Int}{r:Nat} (e:(if b>a then b else a)=(r:Int)) (z:Cx) (h:MH):kT z (.bi ND) [.int a,.int b] h=Qa (.int r,h):=W.eq (Rp ⟨by rw [e],rfl⟩)
def zf4 {s t:Nat}{b:Bool} (hb:b=Qf):(if ((s:Int)+1)*(if b=Qf then 1 else 0)>(t:Int) then ((s:Int)+1)*(if b=Qf then 1 else 0) else (t:Int))=((max t (s+1):Nat):Int):=by
 rw [if_pos hb,Int.mul_one]
 split<;>lia
def zf5 {s t:Nat}:(if ((s:Int)+1)*(if Qb=Qf then 1 else 0)>(t:Int) then ((s:Int)+1)*(if Qb=Qf then 1 else 0) else (t:Int))=(t:Int):=by
 rw [if_neg Zn,Int.mul_zero]
 split<;>lia
section
variable {X:yd R} (C:dS X)
include C
theorem RK {g:MH}{M:Mc R.α} (H:Mk R X.h g X.h.length M [(X.aW,.list (X.ws.map R.e))]) (x:Int): ∃i:Nat,Xq x 3=i/\∃w,l9 g (.ref X.aW) (.int i)=Qa (R.e w)/\R.D 1 1 w/\w≠R.zero:=
 (rT x (show 0<3 by decide)).elim λi q=>by
  have hi:i<X.ws.length:=by rw [C.Z.len];exact q.1
  exact ⟨i,q.2,X.ws[i],sl (H.ob (.head _)) (by rw [JC,Js hi];rfl),C.Z.dg _ (ZA hi)⟩
def zax {sc T:Nat}{x:Int}{up lo:List Nat}{s:ur R} (hd:5<=d) (hu:up∈X.us) (l1:fc up) (l2:fc lo/\lo∈lm) (hs:sc<X.n) (hk:k<8) (hT:(up++lo== [])=Qf->sc<T)
  (I:qd X k s) (q: ∀s',qd X (k+1) s'->R' .nx (tu X (vN k) (Qa (.int x)) (vN sc) (vN T) (Qa (.str up)) (Qa (.str lo))) s'.g):
  cz (aj P0 d) cU (tu X (vN k) (Qa (.int x)) (vN sc) (vN T) (Qa (.str up)) (Qa (.str lo))) s.g R':=by
 cases (inferInstance:Decidable ((T:Int)<(X.n:Int))) with
 |isTrue hlt=>
  refine (RK C I.H (qao x 144)).elim λwi a=>a.2.elim λw b=>?_;refine xEEAA (W.get (zar (d:=d) (Q:=λv g=>v= .none/\∃M',qd X (k+1) ⟨g,M',Qd,Qd,Qd,Qd,Qd,Qd⟩) (s:=sc) (a:=⟨up,lo,w,T⟩) (Jq (by decide) hd) I.H (by rw [I.P.len];exact hs) (by rw [I.P.len];exact (ZW.mp hlt:T<X.n)) l1 l2.1 b.2.1 (by decide) (Jx I.P.ct (Zm hk (by decide))) λg' M' H' _ e=>⟨rfl,M',H',e b.2.2▸I.P.lr hs ⟨(ZW.mp hlt:T<X.n),l1,l2.1,b.2.1,b.2.2,λhe=>hT (by rw [show up= [] from (qM he).1,show lo= [] from (qM he).2];rfl),hu,l2.2⟩⟩)) λv g e dh gd=>?_;refine xE gd λM' q'=>?_;refine eqE dh ?_;exact lJ (.c<| .t (decide_eq_true hlt)<| .c<| .q (sA a.1 (by decide))<| .v (b.1)<| .p (e)<| .z (q _ q')) (by kernel_rfl)
 |isFalse hlt=>exact lJ (.c<| .f (decide_eq_false hlt)<| .z (q s ⟨I.H,I.P.len,I.P.ar,I.P.fv,Zp I.P.ct⟩)) rfl
theorem PC (x:Int): ∃i:Nat,i<X.n/\Xq x X.n=i:=rT x C.hn
theorem NC:(X.n:Int)≠0:=λe=>absurd (K7.mp e▸C.hn) (J8 _)
theorem zbI (x:Int): ∃i:Nat,Xq x X.us.length=i/\∃up,(X.us.map aa.str)[i]?=Qa (.str up)/\up∈X.us:=
 (rT x (Xn.mpr C.hu)).elim λi q=>⟨i,q.2,X.us[i]'q.1,by rw [JC,Js q.1];rfl,ZA q.1⟩
theorem Pv:(X.us.length:Int)≠0:=λe=>absurd (K7.mp e▸Xn.mpr C.hu) (J8 _)
def fG {g:MH}{z:Cx} (e:g[X.aU]?=Qa (.list (X.us.map .str))):kT z (.bi uX) [.ref X.aU] g=Qa (.int X.us.length,g):=by rw [EG e,Jt]
abbrev l3:ae:= .list [.str [97],.str [98],.str []]
def zay {s:ur R} (hd:5<=d) (hk:k<8) (I:qd X k s) (q: ∀s',qd X (k+1) s'->R' .nx (tu X (vN k) s'.b s'.c s'.d s'.e s'.f) s'.g):
  cz (aj P0 d) aY (tu X (vN k) s.b s.c s.d s.e s.f) s.g R':=by
 refine (PC C (cell X.ns (X.o+2+k))).elim λsc a=>(PC C (qao (cell X.ns (X.o+2+k)) 4)).elim λtg b=>(zbI C (qao (cell X.ns (X.o+2+k)) 16)).elim λui c=>c.2.elim λup cc=>(rT (qao (cell X.ns (X.o+2+k)) 48) (show 0<3 by decide)).elim λli e=>(jS e.1).elim λlo f=>?_;have I1:qd X k {s with g:=s.g++ [l3]}:=⟨I.H.more,I.P⟩;have g3:l9 (s.g++ [l3]) (.ref s.g.length) (.int li)=Qa (.str lo):=sl ap f.1;have tail: ∀T:Nat,((up++lo== [])=Qf->sc<T) ->cz (aj P0 d) cU (tu X (vN k) (Qa (.int (cell X.ns (X.o+2+k)))) (vN sc) (vN T) (Qa (.str up)) (Qa (.str lo))) (s.g++ [l3]) R':=λT hT=>by
  have:=zax (R':=R') (x:=cell X.ns (X.o+2+k)) C (s:={s with g:=s.g++ [l3]}) (T:=T) hd cc.2 (C.zk up cc.2) f.2 a.1 hk hT I1
  exact this λs' I'=>q {s' with b:=Qa (.int (cell X.ns (X.o+2+k))),c:=vN sc,d:=vN T,e:=Qa (.str up),f:=Qa (.str lo)} ⟨I'.H,I'.P⟩
 refine nJ (a:=aY.take 6) (b:=cU) ?_;refine vY (up++lo== []) (λhe=>?_) λhe=>?_
 ·exact lJ (.c2<| .q (tL (Jq (by decide) hd:1<=d) X.ns (X.o+2+k))<| .q (sA a.2 (NC C))<| .c<| .q (sA b.2 (NC C))<| .c<| .p (fG C (z:=aj P0 d) (I.H.up C.hU))<| .q (sA c.1 (Pv C))<| .v (sl (I.H.up C.hU) cc.1)<| .at ((s.g++ [l3]))<| .c<| .q (sA e.2 (by decide))<| .v (g3)<| .c<| .q (fS (Ou (C.zk up cc.2)) (Ou f.2.1))<| .k (ya (up++lo) [])<| .t (he)<| .c<| .q (zdc (zf4 (s:=sc) (t:=tg) he) (aj P0 d))<| .z (nL (tail (max tg (sc+1)) λ_=>Jy (J0 _) (Nat.le_max_right _ _)))) (by kernel_rfl)
 ·exact lJ (.c2<| .q (tL (Jq (by decide) hd:1<=d) X.ns (X.o+2+k))<| .q (sA a.2 (NC C))<| .c<| .q (sA b.2 (NC C))<| .c<| .p (fG C (z:=aj P0 d) (I.H.up C.hU))<| .q (sA c.1 (Pv C))<| .v (sl (I.H.up C.hU) cc.1)<| .at ((s.g++ [l3]))<| .c<| .q (sA e.2 (by decide))<| .v (g3)<| .c<| .q (fS (Ou (C.zk up cc.2)) (Ou f.2.1))<| .k (ya (up++lo) [])<| .f (he)<| .c<| .q (zdc (zf5 (s:=sc) (t:=tg)) (aj P0 d))<| .z (nL (tail tg λe=>absurd (e.symm.trans he) JI))) (by kernel_rfl)
end
end
section
variable {R:Rg}{d:Nat}{h h0 g:MH}{Q:aa->MH->Prop}{m:Nat}{M:Mc R.α}{R':Fl->Internal.Frame->MH->Prop}{X:List (Nat×ae)}
def Mk.dG {a:Nat}{o:ae}{t:MH} (H:Mk R h g m M X) (ha:g.length<=a) (e:(g++t)[a]?=Qa o):Mk R h (g++t) m M ((a,o)::X):=by
 refine H.x.elim λL0 zq20=>?_;refine ⟨⟨L0,zq20.1,zq20.2.1.cw,zq20.2.2.1,λp hp=>?_⟩,H.more.pre⟩;rcases JT.mp hp with rfl|hp
 ·exact ⟨e,λq=>absurd (zq20.2.1.rd q) (by show ¬a<_;exact ZE ha)⟩
 ·exact ⟨kI (zq20.2.2.2 p hp).1,(zq20.2.2.2 p hp).2⟩
structure v9 (us:List (List Nat)) (M:Mc R.α):Prop where
 g:mL M 1 1
 up:om M
 n:M.ab.length<=4
 c:M.bq<=7
 us: ∀ys∈M.ab,∀a∈ys,a.up∈us/\a.lo∈lm
def Ca {us:List (List Nat)}{n:Nat}:sk us n 0 (qJ (M0 (R:=R)) n):=by
 have e:(qJ (M0 (R:=R)) n).ab=JU n []/\(qJ (M0 (R:=R)) n).ar=JU n R.zero/\(qJ (M0 (R:=R)) n).bq=0:=by
  induction n with
  |zero=>exact ⟨rfl,rfl,rfl⟩
  |succ n ih=>
   refine ⟨?_,?_,ih.2.2⟩
   ·show _++ [[]]=_;rw [ih.1,<-K8]
   ·show _++ [R.zero]=_;rw [ih.2.1,<-K8]
 refine ⟨by rw [e.1,ZH],λx hx=>?_,λs ys hy a ha=>?_,by rw [e.2.2];exact JA _⟩
 ·rw [e.2.1] at hx
  rw [Zk hx];exact R.ai (JJ _) (JJ _) R.cj
 ·rw [e.1] at hy
  rw [Zk (Ju hy)] at ha;exact absurd ha JB
theorem sk.end' {us:List (List Nat)}{n k s:Nat}{w:R.α} (P:sk us n k M) (hw:R.D 1 1 w):sk us n k {M with ar:=M.ar.set s w}:=⟨P.len,λe he=>(Kj he).elim (P.ar e) λq=>q▸hw,P.fv,P.ct⟩
def sk.ok {us:List (List Nat)}{n k:Nat}{w:R.α} (P:sk us n k M) (hn:0<n) (wx:n<=4) (hk:k<=7) (hw:R.D 1 1 w):v9 us {M with start:=0,first:=w}:=by
 have at': ∀ys∈M.ab,∃s,M.ab[s]?=Qa ys:=λys hy=>K1.mp hy;refine ⟨⟨by show 0<M.ab.length;rw [P.len];exact hn,λys hy a ha=>?_,hw,P.ar,by decide,by show M.ab.length<=300;rw [P.len];exact Jq wx (JE _ _),by show M.bq<=300;exact Jq (Jq P.ct hk) (JE _ _)⟩,λs ys hy a ha he=>(P.fv s ys hy a ha).2.2.2.2.2.1 he,by show M.ab.length<=4;rw [P.len];exact wx,by show M.bq<=7;exact Jq P.ct hk,λys hy a ha=>?_⟩
 ·obtain ⟨s,hs⟩:=at' ys hy
  have zq18:=P.fv s ys hs a ha;exact ⟨by show a.t<M.ab.length;rw [P.len];exact zq18.1,zq18.2.1,zq18.2.2.1,zq18.2.2.2.1,zq18.2.2.2.2.1⟩
 ·obtain ⟨s,hs⟩:=at' ys hy
  exact (P.fv s ys hs a ha).2.2.2.2.2.2
abbrev fB:List Sm:= [(Sm.expr (Ex.ao (Ex.var 5) Nu [(Ex.lit (aa.int 0)),(Ex.sub (Ex.var 7) (Ex.bj ik.mod (Ex.call (Ex.lit (aa.ah 137)) [(Ex.var 0),(Ex.bj ik.add (Ex.var 1) (Ex.lit (aa.int 10)))]) (Ex.lit (aa.int 3))))])),(Sm.ret (Ex.var 5))]
theorem jU (R:Rg) (h:MH):getAttr P0 h (.ah (112+R.i)) B4=Qa (.str (lH R.i)):=Wo.eq (zcy (Q:=λv _=>v=_) R.hi rfl)
def zcZ (R:Rg) (hd:1<=d): ∃t,∃a:Nat,kT (aj P0 d) (.ah 138) [.str (lH R.i)] h=Qa (.ref a,h++t)/\h.length<=a/\(h++t)[a]?=Qa (.list (mm R.i)):=by
 refine xEEA (W.get (nX (P:=P0) (d:=d) rfl (zcY (h:=h) (Q:=λv g=> ∃t a,v= .ref a/\g=h++t/\h.length<=a/\(h++t)[a]?=Qa (.list (mm R.i))) R.hi hd λt a h1 h2=>⟨t,a,rfl,rfl,h1,h2⟩))) λv g e dh=>?_;refine xEEAA dh λt a gd kh q=>?_;subst gd;subst kh;exact ⟨t,a,e,q⟩
def zaz {us:List (List Nat)}{ws:List R.α}{n:Nat} (hd:4<=d) (Z:RL R ws) (hn:n<=4): ∃g0:MH,kT (aj P0 d) (.ah 121) [.ah (112+R.i)] h=Qa (.ref h.length,g0)/\∃v,∃g1:MH,l5 (aj P0 d) (.ref h.length) 126943688418675 [.int n] g0 g0=Qa (v,g1)/\∃aW:Nat,∃s:ur R,kT (aj P0 d) (.ah 138) [.str (lH R.i)] g1=Qa (.ref aW,s.g)/\Mk R h s.g h.length s.M [(aW,.list (ws.map R.e))]/\sk us n 0 s.M:=by
 refine (W.get (zap (h:=h) (R:=R) (d:=d) (Q:=λv g=>v= .ref h.length/\Mk R h g h.length M0 []) (Jq (by decide) hd) λg H=>⟨rfl,H⟩)).elim λv zq11=>zq11.elim λg0 zq12=>?_;obtain rfl:=zq12.2.1;have H:=zq12.2.2;refine (W.get (EB (n:=n) (d:=d) (Q:=λv g=>Mk R h g h.length (qJ (M0 (R:=R)) n) []) (Jq (by decide) hd) H (by show 0+n<10000;exact Jx (by rw [Z3];exact hn) (by decide)) λv g H=>H)).elim λv zq9=>zq9.elim λg1 zq10=>?_;refine (zcZ (h:=g1) R (d:=d) (Jq (by decide) hd)).elim λt zq7=>zq7.elim λaW zq8=>?_;exact ⟨g0,zq12.1,v,g1,zq10.1,aW,⟨g1++t,_,Qd,Qd,Qd,Qd,Qd,Qd⟩,zq8.1,zq10.2.dG zq8.2.1 (Z.e▸zq8.2.2),Ca⟩
section
variable {X:yd R} (C:dS X)
include C
def Co {s:ur R}{k:Nat}{a b c e f o:Option aa} (hd:5<=d) (hk:k<=7) (I:qd X k s) (q: ∀g M,Mk R X.h g X.h.length M []->v9 X.us M->Q (.ref X.h.length) g):cz (aj P0 d) fB (tu X a b c e f o) s.g (Internal.Fin Q):=by
 refine (RK C I.H (cell X.ns (X.o+10))).elim λi u=>u.2.elim λw v=>?_;refine (W.get (Ce (d:=d) (s:=0) (Q:=λv g=>v= .none/\Mk R X.h g X.h.length {s.M with start:=0,first:=w} [(X.aW,.list (X.ws.map R.e))]) (Jq (by decide) hd) I.H (by rw [I.P.len];exact C.hn) v.2.1 (by decide) λg H=>⟨rfl,H⟩)).elim λv' zq5=>zq5.elim λg5 zq6=>?_;refine eqE zq6.2.1 ?_;exact lJ (.c<| .q (tL (d:=d) (Jq (by decide) hd) X.ns (X.o+10))<| .q (sA u.1 (by decide))<| .v (v.1)<| .p (zq6.1)<| .z (q g5 _ zq6.2.2.drop (I.P.ok C.hn C.wx hk v.2.1))) (by kernel_rfl)
abbrev jT:List Sm:=(lO.drop 5).take 2
def zaB {s:ur R}{k:Nat} (hd:5<=d) (hk:k<=7) (I:qd X k s) (q: ∀g M,Mk R X.h g X.h.length M []->v9 X.us M->Q (.ref X.h.length) g):cz (aj P0 d) (lO.drop 5) (tu X s.a s.b s.c s.d s.e s.f) s.g (Internal.Fin Q):=by
 have d1:1<=d:=Jq (by decide) hd;refine (RK C I.H (cell X.ns (X.o+9))).elim λi u=>u.2.elim λw v=>(rT (cell X.ns (X.o+9)) (show 0<2 by decide)).elim λr y=>?_;refine xEEAA (W.get (zaq (d:=d) (s:=X.n-1) (Q:=λv g=>v= .none/\Mk R X.h g X.h.length {s.M with ar:=s.M.ar.set (X.n-1) w} [(X.aW,.list (X.ws.map R.e))]) (Jq (by decide) hd) I.H (by rw [I.P.len];exact qaM C.hn qbr) v.2.1 (by decide) λg H=>⟨rfl,H⟩)) λv1 g4 e4 dh H4=>?_;refine eqE dh ?_;have I4:qd X k {s with g:=g4,M:= {s.M with ar:=s.M.ar.set (X.n-1) w} }:=⟨H4,I.P.end' v.2.1⟩;have eN:pJ .sub (.int X.n) (.int 1) s.g=Qa (.int (X.n-1:Nat),s.g):=by
  show Qa (aa.int ((X.n:Int) -1),s.g)=_;rw [show (X.n:Int) -1=((X.n-1:Nat):Int) by have:=C.hn;lia]
 refine nJ (a:=jT) (b:=fB) ?_;cases (inferInstance:Decidable ((r:Int)=1)) with
 |isFalse hr=>exact lJ (.p (eN)<| .c<| .q (tL d1 X.ns (X.o+9))<| .q (sA u.1 (by decide))<| .v (v.1)<| .p (e4)<| .c<| .q (tL d1 X.ns (X.o+9))<| .q (sA y.2 (by decide))<| .k (ug r 1)<| .f (beq_false_of_ne hr)<| .z (nL (Co C (a:=s.a) (b:=s.b) (c:=s.c) (e:=s.d) (f:=s.e) (o:=s.f) hd hk I4 q))) (by kernel_rfl)
 |isTrue hr=>
  refine (W.get (Oc (d:=d) (s:=0) (Q:=λv g=>v= .none/\Mk R X.h g X.h.length {s.M with ar:=(s.M.ar.set (X.n-1) w).set 0 R.dz} [(X.aW,.list (X.ws.map R.e))]) (Jq (by decide) hd) I4.H (by show 0<s.M.ab.length;rw [I.P.len];exact C.hn) λg H=>⟨rfl,H⟩)).elim λv2 zq1=>zq1.elim λg5 zq2=>?_;refine eqE zq2.2.1 ?_;have I5:qd X k {s with g:=g5,M:= {s.M with ar:=(s.M.ar.set (X.n-1) w).set 0 R.dz} }:=⟨zq2.2.2,(I.P.end' (s:=X.n-1) v.2.1).end' (s:=0) (R.ai (JJ _) (JJ _) R.gp)⟩;exact lJ (.p (eN)<| .c<| .q (tL d1 X.ns (X.o+9))<| .q (sA u.1 (by decide))<| .v (v.1)<| .p (e4)<| .c<| .q (tL d1 X.ns (X.o+9))<| .q (sA y.2 (by decide))<| .k (ug r 1)<| .t (beq_iff_eq.mpr hr)<| .p (zq2.1)<| .z (nL (Co C (a:=s.a) (b:=s.b) (c:=s.c) (e:=s.d) (f:=s.e) (o:=s.f) hd hk I5 q))) (by kernel_rfl)
abbrev fC:Ex:= .call (.lit (.ty 491260897125)) [.bj .add (.lit (.int 2)) (.bj .mod (.call (.lit (.ah 137)) [.var 0,.bj .add (.var 1) (.lit (.int 1))]) (.lit (.int 6)))]
def zaA {s:ur R} (hd:5<=d) (I:qd X 0 s): ∃k s',k<=7/\qd X k s'/\exec (aj P0 d) (.fo [8] Qb fC aY) (tu X s.a s.b s.c s.d s.e s.f) s.g=Qa ((.nx,tu X s'.a s'.b s'.c s'.d s'.e s'.f),s'.g):=by
 refine (rT (cell X.ns (X.o+1)) (show 0<6 by decide)).elim λk0 y=>?_;have hk:2+k0<=7:=Jw (Ze y.1) 2;refine (pa (c:=aj P0 d) (x:=8) (n:=2+k0) (e:=fC) (b:=aY) (λs:ur R=>tu X s.a s.b s.c s.d s.e s.f) ur.g (λk s=>qd X k s) s (Jq hk (by decide)) rfl (by exact lR (.c<| .q (tL (d:=d) (Jq (by decide) hd) X.ns (X.o+1))<| .q (sA y.2 (by decide))<| .c2<| .z (cv (.gf (2+k0:Nat)) s.g)) (by kernel_rfl)) I λk s R1 _ hk' I1 C1=>zay C hd (Jy hk' (Jq hk (by decide))) I1 λs' I'=>C1.nx {s' with a:=vN k} ⟨I'.H,I'.P⟩).elim λs' q=>⟨2+k0,s',hk,q⟩
end
def zc0 {ns:List Int}{at' aU:Nat}{us:List (List Nat)}{ws:List R.α} (hd:6<=d) (Z:RL R ws) (hU:h[aU]?=Qa (.list (us.map .str))) (hu:us≠ []) (zk: ∀u∈us,fc u)
  (q: ∀g M,Mk R h g h.length M []->v9 us M->Q (.ref h.length) g):WF P0 d 139 [.fl (ns.map .int),.int at',.ah (112+R.i),.ref aU,.bool Qb] h Q:=by
 refine l0 (K:=5) hd (Qa (.fl (ns.map .int))::Qa (.int at')::Qa (.ah (112+R.i))::Qa (.ref aU)::Qa (.bool Qb)::nn 15) lO rfl λd' h'=>?_;refine (rT (cell ns at') (show 0<4 by decide)).elim λn0 y=>?_;have wx:1+n0<=4:=Jw (Ze y.1) 1;refine (zaz (d:=d') (h:=h) (us:=us) (Jq (by decide) h') Z wx).elim λg0 a=>a.2.elim λv b=>b.elim λg1 c=>c.2.elim λaW e=>e.elim λs f=>?_;have C:dS (⟨h,ns,at',aU,us,ws,1+n0,aW⟩:yd R):=⟨Z,hU,hu,zk,Jy qbr (Jv _ _),wx⟩;exact (zaA C (d:=d') (s:={s with a:=Qd,b:=Qd,c:=Qd,d:=Qd,e:=Qd,f:=Qd}) h' ⟨f.2.1,f.2.2⟩).elim λk z=>z.elim λs' w=>nJ (a:=lO.take 5) (b:=lO.drop 5) (lJ (.p (a.1)<| .q (tL (d:=d') (Jq (by decide) h') ns at')<| .q (sA y.2 (by decide))<| .c<| .p (c.1)<| .w (jU R)<| .p (f.1)<| .s (w.2.2)<| .z (nL (zaB C h' w.1 w.2.1 q))) (by kernel_rfl))
end
section
variable {R:Rg}{d:Nat}{h h0 g:MH}{Q:aa->MH->Prop}{M M1 M2 B:Mc R.α}{R':Fl->Internal.Frame->MH->Prop}{L L1 L2 LB:Ly}{u l:List Nat}
def zfJ: ∀n,n<5-> ∀c,c<8-> ∀x,x<3-> ∀y,y<3->1+(x+1)*(y+1)*(c+1)<100000/\(1+1*n)*(x+y+2)<=30/\(1+((1+c)*n+n+1+n))*(x+y+2)+(1+(x+1)*(y+1)*(c+1)+n)<=329:=by decide+kernel
def pf (M:Mc R.α) (u l:List Nat):R.α:=R.mul M.first (Bv M u l 0 0 M.start)
structure zx (u:List Nat):Prop where
 n:u.length<=2
 c: ∀c∈u,Vw c=Qf
def zbA {p k:Nat} (hd:10<=d) (ne:R.dz≠R.zero) (I:aq R g L M) (G:mL M p k) (U:om M) (hn:M.ab.length<=60) (wu:zx u) (wl:zx l) (cl:1+(u.length+1)*(l.length+1)*(M.bq+1)<100000) (bd2:4*p+(k+300)<=3800)
  (hbd:4*((p+p*M.ab.length)*(u.length+l.length+2))+((k+((k+M.bq)*M.ab.length+M.ab.length+1+M.ab.length))*(u.length+l.length+2)+(1+(u.length+1)*(l.length+1)*(M.bq+1)+M.ab.length))<=3800):
  ∃t,kT (aj P0 d) (.ah 106) [.ref L.m,.str u,.str l] g=Qa (R.e (pf M u l),g++t)/\R.D ((p+p*M.ab.length)*(u.length+l.length+2)) ((k+((k+M.bq)*M.ab.length+M.ab.length+1+M.ab.length))*(u.length+l.length+2)+(1+(u.length+1)*(l.length+1)*(M.bq+1)+M.ab.length)) (pf M u l):=by
 refine (W.get (nX (P:=P0) rfl (Hj (Q:=λv g'=> ∃t,v=R.e (pf M u l)/\g'=g++t/\R.D _ _ (pf M u l)) hd I G U ne hn wu.c wl.c (Jq wu.n (by decide)) (Jq wl.n (by decide)) cl bd2 hbd λt hD=>⟨t,rfl,rfl,hD⟩))).elim λv zq6=>zq6.elim λg' zq7=>zq7.2.elim λt zq8=>?_;refine eqE zq8.1 ?_;obtain rfl:=zq8.2.1;exact ⟨t,zq7.1,zq8.2.2⟩
def Rq {us:List (List Nat)} (hd:10<=d) (ne:R.dz≠R.zero) (I:aq R g L M) (Z:v9 us M) (wu:zx u) (wl:zx l): ∃t,kT (aj P0 d) (.ah 106) [.ref L.m,.str u,.str l] g=Qa (R.e (pf M u l),g++t)/\R.D 30 329 (pf M u l):=by
 have b:=zfJ M.ab.length (JX Z.n) M.bq (JX Z.c) u.length (JX wu.n) l.length (JX wl.n);exact (zbA hd ne I Z.g Z.up (Jq Z.n (by decide)) wu wl b.1 (by decide) (Jq (JL (JK 4 b.2.1) b.2.2) (by decide))).elim λt q=>⟨t,q.1,R.ai b.2.1 b.2.2 q.2⟩
theorem Oq: ∀u∈lm,fc u:=λu hu=>by
 delta lm at hu;simp only [JT,JB,or_false] at hu;rcases hu with rfl|rfl|rfl
 ·exact .inr ⟨97,rfl,by decide+kernel⟩
 ·exact .inr ⟨98,rfl,by decide+kernel⟩
 ·exact .inl rfl
def zc1 {ws:List R.α}{us:List (List Nat)} (hu:us≠ []) (hl: ∀u∈us,u∈lm) (Z:RL R ws) (ns:List Int) (k:Nat): ∃M:Mc R.α,v9 us M/\∃g',kT (aj P0 60) (.ah 139) [.fl (ns.map .int),.int k,.ah (112+R.i),.ref g.length,.bool Qb] (g++ [.list (us.map .str)])=Qa (.ref (g++ [ae.list (us.map .str)]).length,g')/\∃L,L.m=(g++ [ae.list (us.map .str)]).length/\aq R g' L M/\∃t,g'=g++t:=by
 refine xEEA (W.get (nX (P:=P0) (d:=60) (h:=g++ [.list (us.map .str)]) rfl (zc0 (Q:=λv g'=> ∃M:Mc R.α,v= .ref (g++ [ae.list (us.map .str)]).length/\v9 us M/\Mk R (g++ [.list (us.map .str)]) g' (g++ [ae.list (us.map .str)]).length M []) (ns:=ns) (us:=us) (ws:=ws) (at':=k) (by decide) Z ap hu (λu q=>Oq u (hl u q)) λg1 M1 H1 Z1=>⟨M1,rfl,Z1,H1⟩))) λv g' e dh=>?_;refine xEAA dh λM gd Z1 H=>?_;refine eqE gd ?_;refine H.x.elim λL zq2=>?_;refine xE H.pre λt ht=>?_;exact ⟨M,Z1,g',e,L,zq2.1,zq2.2.1,_,by rw [ht,JH]⟩
end
def Ck {α:Type}{a b c w:α}{P:α->Prop} (h:w∈ [a,b,c]) (h1:P a) (h2:P b) (h3:P c):P w:=by
 simp only [JT,JB,or_false] at h;rcases h with rfl|rfl|rfl
 ·exact h1
 ·exact h2
 ·exact h3
theorem gZ:RL zbq [Qf,Qf,Qf]:=⟨show Qf≠Qb by decide,rfl,λw hw=>Ck (P:=λw=>zbq.D 1 1 w/\w≠zbq.zero) hw ⟨trivial,show Qf≠Qb by decide⟩ ⟨trivial,show Qf≠Qb by decide⟩ ⟨trivial,show Qf≠Qb by decide⟩,rfl⟩
theorem lD {n:Nat} (h:n<=3):Gp.D 1 1 (Qa n)/\(Qa n:Option Nat)≠none:=⟨λm e=>by refine mP e ?_;exact h,nofun⟩
theorem gY:RL Gp [Qa 0,Qa 1,Qa 3]:=⟨show (Qa 0:Option Nat)≠Qd from nofun,rfl,λw hw=>Ck (P:=λw=>Gp.D 1 1 w/\w≠Gp.zero) hw (lD (by decide)) (lD (by decide)) (lD (by decide)),rfl⟩
theorem gX:RL Dh [(1:Nat),(1:Nat),(2:Nat)]:=⟨show (1:Nat)≠0 by decide,rfl,λw hw=>Ck (P:=λw=>Dh.D 1 1 w/\w≠Dh.zero) hw ⟨show 1<=2 ^ 1 by decide,show (1:Nat)≠0 by decide⟩ ⟨show 1<=2 ^ 1 by decide,show (1:Nat)≠0 by decide⟩ ⟨show 2<=2 ^ 1 by decide,show (2:Nat)≠0 by decide⟩,rfl⟩
def ue (n:Nat) (h:n≠0):QN:=⟨⟨1,n,h,Nat.coprime_one_left n⟩,Rat.num_nonneg.mp (show (0:Int)<=1 by decide)⟩
def sL {n:Nat}{h:n≠0} (hd:n ∣ 12):DQ 1 1 (ue n h)/\DL 1 1 (ue n h)/\ue n h≠ ⟨0,Rat.le_refl⟩:=by
 refine ⟨⟨by rw [qbs];exact hd,by show 1<=2 ^ 1*n;lia⟩,⟨by rw [qbs];exact hd,(Yk h:1<=n)⟩,λe=>?_⟩;have e:(1:Int)=0:=congrArg (λq:QN=>q.1.num) e;exact absurd e (by decide)
theorem PE:(⟨1,b5⟩:QN)≠ ⟨0,Rat.le_refl⟩:=λe=>by
 exact absurd (congrArg (λq:QN=>q.1.num) e:(1:Int)=0) (by decide)
theorem gW:RL Gq [ue 4 (by decide),ue 3 (by decide),ue 2 (by decide)]:=⟨PE,rfl,λw hw=>Ck (P:=λw=>Gq.D 1 1 w/\w≠Gq.zero) hw ⟨(sL ⟨3,rfl⟩).1,(sL ⟨3,rfl⟩).2.2⟩ ⟨(sL ⟨4,rfl⟩).1,(sL ⟨4,rfl⟩).2.2⟩ ⟨(sL ⟨6,rfl⟩).1,(sL ⟨6,rfl⟩).2.2⟩,rfl⟩
theorem gV:RL Gn [ue 2 (by decide),ue 3 (by decide),ue 1 (by decide)]:=⟨PE,rfl,λw hw=>Ck (P:=λw=>Gn.D 1 1 w/\w≠Gn.zero) hw ⟨(sL ⟨6,rfl⟩).2.1,(sL ⟨6,rfl⟩).2.2⟩ ⟨(sL ⟨4,rfl⟩).2.1,(sL ⟨4,rfl⟩).2.2⟩ ⟨(sL ⟨12,rfl⟩).2.1,(sL ⟨12,rfl⟩).2.2⟩,rfl⟩
section
variable {R:Rg}{M:Mc R.α}{N:Nat}
abbrev WW:=List Nat×List Nat
def pre (k t:WW):Bool:=k.1.isPrefixOf t.1 && k.2.isPrefixOf t.2
def Bt (M:Mc R.α) (t k:WW) (s:Nat):R.α:=bif pre k t then Bv M t.1 t.2 k.1.length k.2.length s else R.zero
def mq (k:WW) (a:Ar R.α):WW:=(k.1++a.up,k.2++a.lo)
def qm (N:Nat) (k:WW) (a:Ar R.α):Bool:=!a.ft && decide (max (k.1.length+a.up.length) (k.2.length+a.lo.length)<=N)
def x6 (N:Nat) (M:Mc R.α) (t k:WW) (xs:List (Ar R.α)):R.α:=qU (xs.map λa=>bif qm N k a then R.mul a.w (Bt M t (mq k a) a.t) else R.zero)
def DO {k u s:List Nat} (h:k.isPrefixOf u=Qf) (hs:fc s):(k++s).isPrefixOf u=nf u k.length s:=by
 obtain ⟨r,rfl⟩:=List.isPrefixOf_iff_prefix.mp h;rcases hs with rfl| ⟨c,rfl,_⟩
 ·rw [Zv];exact h
 ·have e:(k++ [c]).isPrefixOf (k++r)= [c].isPrefixOf r:=by
   induction k with
   |nil=>rfl
   |cons x k ih=>
    show (x==x && (k++ [c]).isPrefixOf (k++r))=_;rw [beq_self_eq_true,XH];exact ih (List.isPrefixOf_iff_prefix.mpr (J5 _ _))
  refine e.trans ?_;show _=(Qb||oh (k++r) (min k.length (k++r).length) (min (k.length+1) (k++r).length)== [c]);have e2:oh (k++r) (min k.length (k++r).length) (min (k.length+1) (k++r).length)=r.take 1:=by
   delta oh;rw [YE (by rw [Jz];exact Jv _ _)];cases r with
   |nil=>rw [Zv,XU (Jv _ _),Zg,Ke];rfl
   |cons y r=>rw [YE (by rw [Jz];exact Jw (JE _ _) _),List.take_append,List.drop_append];simp
  rw [e2,qaH];cases r with
  |nil=>rfl
  |cons y r=>
   show (c==y && Qf)=([y]== [c]);rw [Yb,Kd,beq_iff_eq,beq_iff_eq];exact ⟨λe=>by rw [e],λe=>(KB.inj e).1.symm⟩
def Hz {k t:WW} (h:pre k t=Qf):k.1.length<=t.1.length/\k.2.length<=t.2.length:=by
 obtain ⟨a,b⟩:=Jr.mp h;exact ⟨(List.isPrefixOf_iff_prefix.mp a).length_le,(List.isPrefixOf_iff_prefix.mp b).length_le⟩
def Bx {k t:WW}{a:Ar R.α} (h:pre (mq k a) t=Qf):pre k t=true:=by
 obtain ⟨x,y⟩:=Jr.mp h;exact Jr.mpr ⟨List.isPrefixOf_iff_prefix.mpr ((J5 _ _).trans (List.isPrefixOf_iff_prefix.mp x)),List.isPrefixOf_iff_prefix.mpr ((J5 _ _).trans (List.isPrefixOf_iff_prefix.mp y))⟩
def OK {t k:WW}{xs:List (Ar R.α)} (h:pre k t=Qb):x6 N M t k xs=R.zero:=by
 refine (oM λa _=>?_).trans (GJ xs)
 have:Bt M t (mq k a) a.t=R.zero:=by
  delta Bt;cases q:pre (mq k a) t with
  |false=>rfl
  |true=>rw [Bx q] at h;cases h
 rw [this,R.mul_zero];cases qm N k a<;>rfl
def CI {t k:WW}{xs:List (Ar R.α)} (h:pre k t=Qf) (h1:t.1.length<=N) (h2:t.2.length<=N) (hl: ∀a∈xs,fc a.up/\fc a.lo):
  x6 N M t k xs=Vh (Bv M t.1 t.2) t.1 t.2 k.1.length k.2.length xs:=by
 refine oM λa ha=>?_;have hp:pre (mq k a) t=(nf t.1 k.1.length a.up && nf t.2 k.2.length a.lo):=by
  refine xA (Jr.mp h) λx y=>?_;delta pre mq;rw [DO x (hl a ha).1,DO y (hl a ha).2]
 delta qm fb;cases he:a.ft with
 |true=>rfl
 |false=>
  refine vY (nf t.1 k.1.length a.up && nf t.2 k.2.length a.lo) (λhf=>?_) λhf=>?_
  ·rw [hf]
   rw [hf] at hp;rw [show decide (max (k.1.length+a.up.length) (k.2.length+a.lo.length)<=N)=Qf from decide_eq_true (Nat.max_le.mpr ⟨Jq (Jz▸(Hz hp).1) h1,Jq (Jz▸(Hz hp).2) h2⟩)];delta Bt;rw [hp];show R.mul a.w (Bv M t.1 t.2 (k.1++a.up).length (k.2++a.lo).length a.t)=R.mul a.w _;rw [Jz,Jz]
  ·rw [hf]
   delta Bt;rw [hp,hf];show (bif (!Qb && decide (max (k.1.length+a.up.length) (k.2.length+a.lo.length)<=N)) then R.mul a.w R.zero else R.zero)=R.zero;rw [R.mul_zero];cases (!Qb && decide (max (k.1.length+a.up.length) (k.2.length+a.lo.length)<=N))<;>rfl
def zbz {t k:WW}{row row':List R.α} (h1:t.1.length<=N) (h2:t.2.length<=N) (hl: ∀s,∀a∈bx M s,fc a.up/\fc a.lo)
  (H: ∀u l i j,i<=u.length->j<=l.length->kZ row (Bv M u l i j) 0=kZ row' (xP M (Bv M u l) u l i j) 0):
  kZ row (Bt M t k) 0=R.add (kZ row' (λs=>x6 N M t k (bx M s)) 0) (if k=t then kZ row' (fw M) 0 else R.zero):=by
 refine vY (pre k t) (λhp=>?_) λhp=>?_
 ·have hb:=Hz hp
  simp only [show Bt M t k=Bv M t.1 t.2 k.1.length k.2.length from funext λs=>by unfold Bt;rw [hp];rfl,H _ _ _ _ hb.1 hb.2];have hk:k=t ↔ k.1.length=t.1.length/\k.2.length=t.2.length:=⟨λe=>by rw [e];exact ⟨rfl,rfl⟩,λe=>by
   obtain ⟨x,y⟩:=Jr.mp hp;exact qbn ((List.isPrefixOf_iff_prefix.mp x).eq_of_length e.1) ((List.isPrefixOf_iff_prefix.mp y).eq_of_length e.2)⟩
  rw [show (λs=>x6 N M t k (bx M s))=λs=>Vh (Bv M t.1 t.2) t.1 t.2 k.1.length k.2.length (bx M s) from funext λs=>CI hp h1 h2 (hl s)];by_cases e:k=t
  ·rw [if_pos e,<-LS]
   refine sE λs _ _=>?_;delta xP;rw [if_pos (hk.mp e),R.add_comm]
  ·rw [if_neg e,R.add_zero]
   refine sE λs _ _=>?_;delta xP;rw [if_neg λq=>e (hk.mpr q),R.zero_add]
 ·have n: ¬k=t:=λe=>by
   rw [e] at hp;exact Zn (hp.symm.trans (Jr.mpr ⟨List.isPrefixOf_iff_prefix.mpr (Yd _),List.isPrefixOf_iff_prefix.mpr (Yd _)⟩))
  simp only [if_neg n,R.add_zero,show Bt M t k=λ_=>R.zero from funext λs=>by unfold Bt;rw [hp];rfl,show (λs=>x6 N M t k (bx M s))=λ_=>R.zero from funext λs=>OK hp,yE,yE]
end
section
variable {R:Rg}{d:Nat}
def zdh {s t:List Nat} (hl:s.length+t.length<=1000) (h:MH):pJ .add (.str s) (.str t) h=Qa (.str (s++t),h):=by
 show ay Qd (ay Qd (ay (au (Zc (s.length+t.length) bh) (Qa (aa.str (s++t),h))) _))=_;rw [Kq (Jq hl (by decide:1000<=bh))];rfl
def fK (z:Cx) (a b:Nat) (h:MH):kT z (.bi 7168376) [.int a,.int b] h=Qa (.int (max a b:Nat),h):=by
 show Qa (aa.int (if (b:Int)>a then (b:Int) else a),h)=_;by_cases q:a<b
 ·rw [if_pos (ZW.mpr q),Nat.max_eq_right (JQ q)]
 ·rw [if_neg λe=>q (ZW.mp e),Nat.max_eq_left (ZX.mp q)]
structure QS (R:Rg) where
 g:MH
 Ad:WW->Option Nat
 V:WW->List R.α
 c:Nat
 a:Option aa:=Qd
 b:Option aa:=Qd
 d:Option aa:=Qd
 e:Option aa:=Qd
 f:Option aa:=Qd
 k:Option aa:=Qd
structure PX (R:Rg) where
 h:MH
 L:Ly
 M:Mc R.α
 N:Nat
 D:Nat
 ov:aa
 p:Nat
 k:Nat
 p1:Nat
 k1:Nat
 pS:Nat
 kS:Nat
 cs:List WW
 W:WW->R.α
abbrev sz (k:WW):Nat:=k.1.length+k.2.length
abbrev PX.cl (X:PX R):Nat:=1+X.cs.length*(X.M.bq+1)
structure ml (X:PX R):Prop where
 I:aq R X.h X.L X.M
 G:mL X.M X.p1 X.k1
 pp:X.p1+X.pS<=X.p
 kk:X.k1+X.kS<=X.k
 cl:X.cl<20000
 n:X.N<=200
 bd:4*(X.p*(2*X.N+2))+(X.k*(2*X.N+2)+(X.cl+X.M.ab.length))<=3800
 nd:X.cs.Nodup
 len: ∀k∈X.cs,k.1.length<=X.N/\k.2.length<=X.N
 up: ∀k∈X.cs,∀ys∈X.M.ab,∀a∈ys,qm X.N k a=Qf->mq k a∈X.cs
def R9 {p k p1 k1 pS kS y c0 c x B Z:Nat} (pp:p1+pS<=p) (kk:k1+kS<=k) (hx:y<x) (h0:c0<=c) (hz:x+1<=Z) (bd:4*(p*Z)+(k*Z+B)<=3800) (hc:c<=B):
  p*(y+1)+pS+p1<=p*(x+1)/\k*(y+1)+kS+c0+k1<=k*(x+1)+c/\4*(p*(x+1))+(k*(x+1)+c)<=3800:=by
 have e: ∀ {p:Nat},p*(y+1)+p<=p*(x+1):=λ{p} =>by rw [<-Ku];exact JK _ (Zu hx)
 refine ⟨Jq (by rw [Zf,Kv pS];exact Jw pp _) e,?_,?_⟩
 ·rw [dJ]
  exact JL (Jq (Jw kk _) e) h0
 ·exact Jq (JL (JK 4 (JK p hz)) (JL (JK k hz) hc)) bd
structure KM (D m:Nat) (s' s:QS R):Prop where
 al: ∀k,(∃a,s.Ad k=Qa a) -> ∃a,s'.Ad k=Qa a
 kp:aB (T:=kJ) D s.g s'.g s.Ad s'.Ad
 nw: ∀k,sz k<=m->(∃a,s'.Ad k=Qa a) -> ∃a,s.Ad k=Qa a
theorem KM.rfl' {D m:Nat}{s:QS R}:KM D m s s:=⟨λ_ h=>h,λ_ _ _ h1 h2=>⟨h2,h1⟩,λ_ _ h=>h⟩
theorem KM.trans {D m:Nat}{s s' s'':QS R} (h:KM D m s' s) (h':KM D m s'' s'):KM D m s'' s:=⟨λk q=>h'.al k (h.al k q),λa vs h0 h1 h2=>let q:=h.kp a vs h0 h1 h2;h'.kp a vs h0 q.2 q.1,λk hk q=>h.nw k hk (h'.nw k hk q)⟩
structure Uw (X:PX R) (K:WW) (aR c0:Nat) (row:List R.α) (dn:WW->Prop):Prop where
 O:ml X
 hK:K∈X.cs
 cc:c0+X.M.bq<=X.cl
 len:row.length=X.M.ab.length
 dg: ∀x∈row,R.D (X.p*(sz K+1)+X.pS) (X.k*(sz K+1)+X.kS+c0) x
 lo: ∀k,dn k->sz k<=sz K
structure PQ (X:PX R) (K:WW) (aR c0:Nat) (row:List R.α) (dn:WW->Prop) (V0:QS R) (n:Nat) (e:WW->R.α) (s:QS R):Prop where
 rw':RW kJ R X.h s.g X.D X.M.ab.length s.c s.Ad s.V
 lo:c0<=s.c
 hi:s.c<=c0+n
 dg: ∀k,¬dn k-> ∀x∈s.V k,R.D (X.p*(sz k+1)) (X.k*(sz k+1)+s.c) x
 vr:s.V K=row
 ad:s.Ad K=Qa aR
 ky: ∀k a,s.Ad k=Qa a->k∈X.cs
 w: ∀t∈X.cs,R.add (sU (T:=kJ) X.cs dn (Bt X.M t) s.V) (e t)=X.W t
 fx: ∀k,dn k->s.V k=V0.V k
 al:KM X.D (sz K) s V0
variable {X:PX R}{K:WW}{aR c0:Nat}{row:List R.α}{dn:WW->Prop}{V0:QS R}{R':Fl->Internal.Frame->MH->Prop}
def jb (X:PX R) (a b d e f k:Option aa):Internal.Frame:=Qa (.ref X.L.m)::Qa (.int X.N)::Qa (.ah (112+R.i))::Qa X.ov::Qa (.ref X.D)::a::b::d::e::f::k::nn 7
def PQ.lr {n:Nat}{e e':WW->R.α}{x:R.α}{s:QS R}{g':MH}{Ad':WW->Option Nat}{z:WW}{t:Nat} (C:Uw X K aR c0 row dn) (P:PQ X K aR c0 row dn V0 n e s) (hz:z∈X.cs) (ht:t<X.M.ab.length) (hn:sz K<sz z) (hD:R.D (X.p*(sz z+1)) (X.k*(sz z+1)+s.c) x)
  (S':RW kJ R X.h g' X.D X.M.ab.length (s.c+1) Ad' (dj (T:=kJ) s.V z (nP (s.V z) t x))) (hk: ∀k a,s.Ad k=Qa a->Ad' k=Qa a) (hk2: ∀k a,Ad' k=Qa a->k=z\/s.Ad k=Qa a) (hkp:aB (T:=kJ) X.D s.g g' s.Ad Ad') (he: ∀u∈X.cs,e u=R.add (R.mul x (Bt X.M u z t)) (e' u)) (y1 y2:Option aa) (q:Option aa×Option aa×Option aa×Option aa):
  PQ X K aR c0 row dn V0 (n+1) e' ⟨g',Ad',dj (T:=kJ) s.V z (nP (s.V z) t x),s.c+1,q.1,q.2.1,q.2.2.1,q.2.2.2,y1,y2⟩:=by
 have hl:t<(s.V z).length:=by rw [P.rw'.len];exact ht
 have hnd: ¬dn z:=λq=>ZX.mpr (C.lo z q) hn;refine ⟨S',Zp P.lo,Zu P.hi,λk hk y hy=>?_,?_,hk _ _ P.ad,λk a h=>(hk2 k a h).elim (λe=>e▸hz) (P.ky k a),λu hu=>?_,λk hk=>?_,P.al.trans ⟨λk h=>h.elim λa q=>⟨a,hk k a q⟩,hkp,λk hm h=>h.elim λa q=>(hk2 k a q).elim (λe=>absurd (e▸hm) (qab.mpr hn)) λq=>⟨a,q⟩⟩⟩
 ·have hy:y∈dj (T:=kJ) s.V z (nP (s.V z) t x) k:=hy
  show R.D (X.p*(sz k+1)) (X.k*(sz k+1)+(s.c+1)) y;by_cases q:k=z
  ·cases q
   rw [kO] at hy;rcases Ls hy with hy|rfl
   ·exact R.ai (JA _) (Zw _) (P.dg _ hk y hy)
   ·rw [Js hl]
    exact R.gb (P.dg _ hk _ (ZA hl)) hD
  ·rw [kU q] at hy
   exact R.ai (JA _) (Zw _) (P.dg k hk y hy)
 ·show dj (T:=kJ) s.V z (nP (s.V z) t x) K=row
  exact (kU (λe=>J8 _ (e▸hn): ¬K=z)).trans (P.vr)
 ·rw [xY (T:=kJ) C.O.nd hz hnd hl,<-P.w u hu,he u hu,<-R.add_assoc,R.add_comm (R.mul _ _)]
 ·show dj (T:=kJ) s.V z (nP (s.V z) t x) k=V0.V k
  rw [kU λe=>hnd (by rw [<-e];exact hk)];exact P.fx k hk
def Ph {g:MH}{D N c s p k:Nat}{z:WW}{Ad:WW->Option Nat}{V:WW->List R.α}{x:R.α}{h:MH}{L:Ly}{M:Mc R.α} (hd:4<=d) (I:aq R h L M) (S:RW kJ R h g D N c Ad V) (hN:N=M.ab.length) (hc:c<100000) (hs:s<N) (hV: ∀y∈V z,R.D p k y) (hx:R.D p k x) (hl:4*p+k<=3800):
  ∃g' Ad',kT (aj P0 d) (.ah 126) [.ref L.m,.ref D,kJ.v z,.int s,R.e x] g=Qa (.none,g')/\RW kJ R h g' D N (c+1) Ad' (dj (T:=kJ) V z (nP (V z) s x))/\(∀z' a',Ad z'=Qa a'->Ad' z'=Qa a')/\(∀z' a',Ad' z'=Qa a'->z'=z\/Ad z'=Qa a')/\aB (T:=kJ) D g g' Ad Ad':=by
 refine (W.get (nX (P:=P0) rfl (IF (T:=kJ) (Q:=λv g'=>v= .none/\∃Ad',RW kJ R h g' D N (c+1) Ad' (dj (T:=kJ) V z (nP (V z) s x))/\(∀z' a',Ad z'=Qa a'->Ad' z'=Qa a')/\(∀z' a',Ad' z'=Qa a'->z'=z\/Ad z'=Qa a')/\aB (T:=kJ) D g g' Ad Ad') hd I S hN hc hs hV hx hl λg' Ad' S' hk hk2 hk3=>⟨rfl,Ad',S',hk,hk2,hk3⟩))).elim λv zq3=>zq3.elim λg' zq4=>?_;refine eqE zq4.2.1 ?_;exact zq4.2.2.elim λAd' zq5=>⟨g',Ad',zq4.1,zq5⟩
abbrev DU:List Sm:= [.bg (.nm 9) (.az [.bj .add (.sub (.var 6) (.lit (.int 0))) (.af (.var 8) ri),.bj .add (.sub (.var 6) (.lit (.int 1))) (.af (.var 8) rh)]),.ite (.gy Qb [.not (.ao (.var 8) Lf []),.ba .le (.call (.lit (.bi 7168376)) [.call (.lit (.bi 7103854)) [.sub (.var 9) (.lit (.int 0))],.call (.lit (.bi 7103854)) [.sub (.var 9) (.lit (.int 1))]]) (.var 1)]) [.expr (.call (.lit (.ah 126)) [.var 0,.var 4,.var 9,.af (.var 8) ly,.ao (.var 2) uW [.sub (.sub (.var 4) (.var 6)) (.var 7),.af (.var 8) th]])] []]
def Ct {s:List Nat} (h:fc s):s.length<=1:=by
 rcases h with e| ⟨c,e,_⟩
 ·rw [e];exact JJ _
 ·rw [e];exact JA _
def RW.up' {h g:MH}{D N c:Nat}{Ad:WW->Option Nat}{V:WW->List R.α} (S:RW kJ R h g D N c Ad V) {a:Nat}{o:ae} (e:h[a]?=Qa o):g[a]?=Qa o:=by obtain ⟨t,rfl⟩:=S.pre;exact kI e
def Np {s n b:Nat}{E T e0 e1':WW->R.α}{y:R.α}{a:Ar R.α}{st:QS R}{sv z1:Option aa} (hd:5<=d) (C:Uw X K aR c0 row dn) (hs:row[s]?=Qa y) (hn:n<X.M.bq) (hB:X.h[b]?=Qa (pB R a)) (gt:a.t<X.M.ab.length) (g2:fc a.up) (g3:fc a.lo) (g4:R.D X.p1 X.k1 a.w) (g5:qm X.N K a=Qf->mq K a∈X.cs)
  (P:PQ X K aR c0 row dn V0 n e0 st) (h0: ∀u∈X.cs,e0 u=R.add (R.mul y (R.add (bif qm X.N K a then R.mul a.w (Bt X.M u (mq K a) a.t) else R.zero) (T u))) (E u)) (h1: ∀u,e1' u=R.add (R.mul y (T u)) (E u))
  (q1: ∀s',PQ X K aR c0 row dn V0 (n+1) e1' s'->s'.k=st.k->R' .nx (jb X sv (Qa (kJ.v K)) (vN s) s'.e s'.f s'.k) s'.g):
  cz (aj P0 d) DU (jb X sv (Qa (kJ.v K)) (vN s) (vR b) z1 st.k) st.g R':=by
 have S:=P.rw';have hB:st.g[b]?=Qa (pB R a):=by obtain ⟨t,e⟩:=S.pre;rw [e];exact kI hB
 have d1:1<=d:=Jq (by decide) hd;have ad1:=zdh (s:=K.1) (t:=a.up) (Jq (JL (Jq (C.O.len K C.hK).1 C.O.n) (Ct g2)) (by decide));have ad2:=zdh (s:=K.2) (t:=a.lo) (Jq (JL (Jq (C.O.len K C.hK).2 C.O.n) (Ct g3)) (by decide));have ja:qm X.N K a=Qb-> ∀z,R' .nx (jb X sv (Qa (kJ.v K)) (vN s) (vR b) z st.k) st.g:=λhh z=>by
  refine q1 {st with e:=vR b,f:=z} ⟨S,P.lo,Zp P.hi,P.dg,P.vr,P.ad,P.ky,λt ht=>?_,P.fx,P.al.al,P.al.kp,P.al.nw⟩ rfl;simp only [<-P.w t ht,h0 t ht,h1 t,hh,cond_false,R.zero_add]
 refine vY a.ft (λhe=>?_) λhe=>?_
 ·exact lJ (.c<| .v (vt hB)<| .q ad1<| .c<| .v (wy hB)<| .q ad2<| .p (U5 d1 hB)<| .c<| .f (nT he)<| .f (nT he)<| .z (ja (by unfold qm;rw [he];rfl) (Qa (kJ.v (mq K a))))) rfl
 ·have hi:qm X.N K a=decide (((max (K.1++a.up).length (K.2++a.lo).length:Nat):Int)<=(X.N:Int)):=by
   delta qm;rw [he,Jz,Jz,decide_eq_decide.mpr Yi];rfl
  refine vY (qm X.N K a) (λhb=>?_) λhb=>?_
  ·rw [hb] at hi
   have hlt:sz K<sz (mq K a):=by
    show K.1.length+K.2.length<(K.1++a.up).length+(K.2++a.lo).length;rw [Jz,Jz,Xf];exact Kb (zN he)
   have hc:st.c<c0+X.M.bq:=Jx P.hi (ZI hn _);have T1:=R9 (B:=X.cl+X.M.ab.length) C.O.pp C.O.kk hlt P.lo (Zu (Zp (Jq (JL (C.O.len _ (g5 hb)).1 (C.O.len _ (g5 hb)).2) (JM (YL _).symm))):sz (mq K a)+1<=2*X.N+2) C.O.bd (Jq (JQ hc) (Jq C.cc (Jv _ _)));have hxd:=C.dg y (Ju hs);have hRa:=S.row K aR P.ad;rw [P.vr] at hRa;refine xEEAAA S.dd λep es hDd hKy _ hdg=>?_;refine (Ph (d:=d) (z:=mq K a) (s:=a.t) (x:=R.mul y a.w) (Jq (by decide) hd) C.O.I S rfl (Jy hc (Jq C.cc (Jq (JQ C.O.cl) (by decide)))) gt (P.dg _ λq=>ZX.mpr (C.lo _ q) hlt) (R.ai T1.1 T1.2.1 (R.fm hxd g4)) T1.2.2).elim λg' zq1=>zq1.elim λAd' zq2=>?_;exact lJ (.c<| .v (vt hB)<| .q ad1<| .c<| .v (wy hB)<| .q ad2<| .p (U5 d1 hB)<| .c<| .t (nF he)<| .c2<| .c2<| .q (fK (aj P0 d) (K.1++a.up).length (K.2++a.lo).length)<| .t hi.symm<| .c<|
    .v (qr hB)<| .v (sd hDd (rC (T:=kJ) hKy) ((hdg K).trans (by rw [P.ad];rfl):kY es (kJ.v K)=Qa (.ref aR)))<| .v (sl hRa (yC hs))<| .v (a5 hB)<| .q (R.ti (Jq (by decide) hd) hxd g4 (Jq (JL (JK 4 T1.1) T1.2.1) T1.2.2))<| .p (zq2.1)<| .z (q1 _ (P.lr C (g5 hb) gt hlt (R.ai T1.1 T1.2.1 (R.fm hxd g4)) zq2.2.1 zq2.2.2.1 zq2.2.2.2.1 zq2.2.2.2.2 (e':=e1') (λu hu=>by rw [h0 u hu,hb,cond_true,h1 u,R.mul_add,R.add_assoc,<-R.mul_assoc]) (Qa (kJ.v (mq K a))) st.k (Qd,Qd,Qd,vR b)) rfl)) (by kernel_rfl)
  ·rw [hb] at hi
   exact lJ (.c<| .v (vt hB)<| .q ad1<| .c<| .v (wy hB)<| .q ad2<| .p (U5 d1 hB)<| .c<| .t (nF he)<| .c2<| .c2<| .q (fK (aj P0 d) (K.1++a.up).length (K.2++a.lo).length)<| .f hi.symm<| .c<| .z (ja hb (Qa (kJ.v (mq K a))))) rfl
end
section
variable {R:Rg}{d:Nat}{X:PX R}{K:WW}{aR c0:Nat}{row:List R.α}{dn:WW->Prop}{V0:QS R}{R':Fl->Internal.Frame->MH->Prop}
theorem zge (z:Cx) {h:MH}{D:Nat}{ep:Option Nat}{es:List (aa×aa)} (hD:h[D]?=Qa (.dict ep es)):kT z (.bi uX) [.ref D] h=Qa (.int es.length,h):=W.eq (Dl hD ⟨rfl,rfl⟩)
abbrev gS (X:PX R) (K t:WW):Nat->R.α:=λs=>x6 X.N X.M t K (bx X.M s)
def EK {N q:Nat}{M:Mc R.α}{t:WW}{xs:List (Ar R.α)}{a:Ar R.α} (ha:xs[q]?=Qa a):x6 N M t K (xs.drop q)=R.add (bif qm N K a then R.mul a.w (Bt M t (mq K a) a.t) else R.zero) (x6 N M t K (xs.drop (q+1))):=by
 obtain ⟨hq,e⟩:=JD.mp ha;simp only [Kg hq,e];rfl
def zcn {s n0 r:Nat}{as:List Nat}{xs:List (Ar R.α)}{y:R.α}{E e0:WW->R.α}{st:QS R}{sv:Option aa} (hd:5<=d) (C:Uw X K aR c0 row dn) (hs:row[s]?=Qa y) (hm:xs∈X.M.ab) (hr:(X.L.bc.map aa.ref)[s]?=Qa (.ref r)) (H:IM R X.h r as xs) (hn:n0+xs.length<=X.M.bq) (P:PQ X K aR c0 row dn V0 n0 e0 st) (h0: ∀t,e0 t=R.add (R.mul y (x6 X.N X.M t K xs)) (E t)):
  ∃s',PQ X K aR c0 row dn V0 (n0+xs.length) E s'/\s'.k=st.k/\exec (aj P0 d) (.fo [8] Qb (.sub (.af (.var 0) lV) (.var 7)) DU) (jb X sv (Qa (kJ.v K)) (vN s) st.e st.f st.k) st.g=Qa ((.nx,jb X sv (Qa (kJ.v K)) (vN s) s'.e s'.f s'.k),s'.g):=by
 obtain ⟨s',P',e⟩:=sg (c:=aj P0 d) (tg:=[8]) (many:=Qb) (a:=r) (e:=.sub (.af (.var 0) lV) (.var 7)) (b:=DU) (vs:=as.map .ref) (λs':QS R=>jb X sv (Qa (kJ.v K)) (vN s) s'.e s'.f s'.k) QS.g (λq s'=>PQ X K aR c0 row dn V0 (n0+q) (λt=>R.add (R.mul y (x6 X.N X.M t K (xs.drop q))) (E t)) s'/\s'.k=st.k) st
  (H.n▸Jq (Jq (JE _ _) hn) (Jq C.O.G.c (by decide))) rfl (λq s' P=>P.1.rw'.up' H.l) (by exact lR (.v (pI (P.rw'.ql C.O.I))<| .v (sl (P.rw'.ql C.O.I).ab hr)<| .z (cv (.ref r) st.g)) (by kernel_rfl)) ⟨(⟨P.rw',P.lo,P.hi,P.dg,P.vr,P.ad,P.ky,(λt ht=>by rw [<-P.w t ht,h0 t];rfl),P.fx,P.al.al,P.al.kp,P.al.nw⟩:PQ X K aR c0 row dn V0 (n0+0) (λt=>R.add (R.mul y (x6 X.N X.M t K (xs.drop 0))) (E t)) st),rfl⟩ (λq v s' R1 _ hv P1 T1=>by
   refine xEEAA (H.a q v hv) λb x dh hx hb=>?_;refine eqB dh ?_;have ga:=C.O.G.fv _ hm x (Ju hx);exact mT (Np hd C hs (n:=n0+q) (Jy (ZI (kP hx) _) hn) hb ga.1 ga.2.1 ga.2.2.1 ga.2.2.2.1 (C.O.up K C.hK _ hm x (Ju hx)) P1.1 (T:=λt=>x6 X.N X.M t K (xs.drop (q+1))) (E:=E) (λt _=>by rw [EK hx]) (λ_=>rfl) λs2 P2 k2=>T1.nx _ ⟨P2,k2.trans P1.2⟩))
 rw [H.n] at P';refine ⟨s',⟨P'.1.rw',P'.1.lo,P'.1.hi,P'.1.dg,P'.1.vr,P'.1.ad,P'.1.ky,λt ht=>?_,P'.1.fx,P'.1.al⟩,P'.2,e⟩
 have:=P'.1.w t ht
 rw [Ke,show x6 X.N X.M t K []=R.zero from rfl,R.mul_zero,R.zero_add] at this;exact this
abbrev Bq:List Sm:= [.ite (.ba .eq (.sub (.sub (.var 4) (.var 6)) (.var 7)) (.af (.var 2) nW)) [.cont] [],.fo [8] Qb (.sub (.af (.var 0) qH) (.var 7)) DU,.ite (.ba .gt (.call (.lit (.bi 7103854)) [.var 4]) (.lit (.int 20000))) [.bZ (.lit (.str [116,111,111,32,109,97,110,121,32,119,111,114,100,115]))] []]
def Sr {s n0 n1:Nat}{e0 e1:WW->R.α}{st:QS R}{sv:Option aa} (hd:5<=d) (C:Uw X K aR c0 row dn) (hs:s<X.M.ab.length) (P:PQ X K aR c0 row dn V0 n0 e0 st) (hn:n1=n0+(bx X.M s).length) (hc:n1<=X.M.bq) (h0: ∀t,e0 t=R.add (R.mul (at' row s) (gS X K t s)) (e1 t))
  (q1: ∀s',PQ X K aR c0 row dn V0 n1 e1 s'->s'.k=st.k->R' .nx (jb X sv (Qa (kJ.v K)) s'.d s'.e s'.f s'.k) s'.g) (q2: ∀s',PQ X K aR c0 row dn V0 n1 e1 s'->s'.k=st.k->R' .ct (jb X sv (Qa (kJ.v K)) s'.d s'.e s'.f s'.k) s'.g):
  cz (aj P0 d) Bq (jb X sv (Qa (kJ.v K)) (vN s) st.e st.f st.k) st.g R':=by
 have hsr:=VU (l:=row) (s:=s) (by rw [C.len];exact hs);have hRa:=P.rw'.row K aR P.ad;rw [P.vr] at hRa;refine xEEAAA P.rw'.dd λep es hDd hKy _ hdg=>?_;have f1:=sd hDd (rC (T:=kJ) hKy) ((hdg K).trans (by rw [P.ad];rfl):kY es (kJ.v K)=Qa (.ref aR));cases R.gq (at' row s) R.zero with
 |isTrue hz=>
  have P':PQ X K aR c0 row dn V0 n1 e1 {st with d:=vN s}:=⟨P.rw',P.lo,hn▸Jq P.hi (Jw (Jv _ _) _),P.dg,P.vr,P.ad,P.ky,(λt ht=>by
   have:=P.w t ht
   rw [h0 t,hz,R.zero_mul,R.zero_add] at this;exact this),P.fx,⟨P.al.al,P.al.kp,P.al.nw⟩⟩
  exact lJ (.v f1<| .v (sl hRa (yC hsr))<| .w (R.no)<| .k (R.qe (at' row s) R.zero)<| .t (R.yes hz)<| .z (q2 _ P' rfl)) rfl
 |isFalse hz=>
  refine (C.O.I.nj hs).elim λr zq3=>zq3.elim λas zq4=>?_;refine xEAA (zcn (sv:=sv) hd C hsr zq4.2.2 zq4.1 zq4.2.1 (hn▸hc) P h0) λs' P' k' e=>?_;refine xEEAAA P'.rw'.dd λep' es' hD' _ hc' _=>?_;have N:PQ X K aR c0 row dn V0 n1 e1 {s' with d:=vN s}:=by refine eqB hn ?_;exact ⟨P'.rw',P'.lo,P'.hi,P'.dg,P'.vr,P'.ad,P'.ky,P'.w,P'.fx,P'.al.al,P'.al.kp,P'.al.nw⟩
  exact lJ (.v f1<| .v (sl hRa (yC hsr))<| .w (R.no)<| .k (R.qe (at' row s) R.zero)<| .f (R.not hz)<| .s (e)<| .p (zge (aj P0 d) hD')<| .c<| .f (decide_eq_false (YW.mpr (Yi.mpr (Jq hc' (Jq P'.hi (Jq (Jw (hn▸hc) _) (Jq C.cc (JQ C.O.cl)))))): ¬((20000:Int)<(es'.length:Int))))<| .z (q1 _ N k')) rfl
end
section
variable {R:Rg}{d:Nat}{X:PX R}{K:WW}{aR c0:Nat}{row:List R.α}{dn:WW->Prop}{V0:QS R}{R':Fl->Internal.Frame->MH->Prop}
def zea {F e0:WW->R.α}{st:QS R}{sv:Option aa} (hd:5<=d) (C:Uw X K aR c0 row dn) (P:PQ X K aR c0 row dn V0 0 e0 st) (h0: ∀t,e0 t=R.add (kZ row (gS X K t) 0) (F t)):
  ∃s',PQ X K aR c0 row dn V0 X.M.bq F s'/\s'.k=st.k/\exec (aj P0 d) (.fo [7] Qb (.call (.lit (.ty 491260897125)) [.ao (.var 0) 1936292453 []]) Bq) (jb X sv (Qa (kJ.v K)) st.d st.e st.f st.k) st.g=Qa ((.nx,jb X sv (Qa (kJ.v K)) s'.d s'.e s'.f s'.k),s'.g):=by
 have I:=P.rw'.ql C.O.I;obtain ⟨s',P',e⟩:=pa (c:=aj P0 d) (x:=7) (n:=X.M.ab.length) (e:=.call (.lit (.ty 491260897125)) [.ao (.var 0) 1936292453 []]) (b:=Bq) (λs':QS R=>jb X sv (Qa (kJ.v K)) s'.d s'.e s'.f s'.k) QS.g (λs s'=>PQ X K aR c0 row dn V0 (qP X.M s) (λt=>R.add (kZ (row.drop s) (gS X K t) s) (F t)) s'/\s'.k=st.k) st
  (Jq I.bh (by decide)) rfl (by exact lR (.p (m9 (Jq (by decide) hd) I)<| .c<| .z (cv (.gf X.M.ab.length) st.g)) (by kernel_rfl)) ⟨(⟨P.rw',P.lo,Jq P.hi (Jw (JJ _) _),P.dg,P.vr,P.ad,P.ky,(λt ht=>by rw [<-P.w t ht,h0 t];rfl),P.fx,P.al⟩:PQ X K aR c0 row dn V0 (qP X.M 0) (λt=>R.add (kZ (row.drop 0) (gS X K t) 0) (F t)) st),rfl⟩ (λs s' R1 _ hs P1 T1=>Sr hd C hs P1.1 (W4 hs) (W3 C.O.I _) (λt=>by rw [Ag (by rw [C.len];exact hs),R.add_assoc]) (λs2 P2 k2=>T1.nx _ ⟨P2,k2.trans P1.2⟩) λs2 P2 k2=>T1.ct _ ⟨P2,k2.trans P1.2⟩)
 have e1:qP X.M X.M.ab.length=X.M.bq:=by unfold qP;rw [Zg,I.ct]
 have e2:row.drop X.M.ab.length= []:=by rw [<-C.len,Ke]
 rw [e1,e2] at P';refine ⟨s',⟨P'.1.rw',P'.1.lo,P'.1.hi,P'.1.dg,P'.1.vr,P'.1.ad,P'.1.ky,λt ht=>?_,P'.1.fx,P'.1.al⟩,P'.2,e⟩
 have:=P'.1.w t ht
 rw [show kZ [] (gS X K t) X.M.ab.length=R.zero from rfl,R.zero_add] at this;exact this
end
section
variable {R:Rg}{d:Nat}{X:PX R}{K:WW}{dn dn':WW->Prop}{R':Fl->Internal.Frame->MH->Prop}
def WQ (X:PX R) (dn:WW->Prop) (V:WW->List R.α) (t:WW):R.α:= @ite _ (dn t) (Classical.propDecidable _) (kZ (V t) (fw X.M) 0) R.zero
theorem xG {V:WW->List R.α}{t:WW} (h:dn t):WQ X dn V t=kZ (V t) (fw X.M) 0:=if_pos h
theorem xH {V:WW->List R.α}{t:WW} (h: ¬dn t):WQ X dn V t=R.zero:=if_neg h
structure PT (X:PX R) (dn:WW->Prop) (b:Nat) (s:QS R):Prop where
 rw':RW kJ R X.h s.g X.D X.M.ab.length s.c s.Ad s.V
 hc:s.c<=1+b*(X.M.bq+1)
 dg: ∀k,¬dn k-> ∀x∈s.V k,R.D (X.p*(sz k+1)) (X.k*(sz k+1)+s.c) x
 de: ∀k,dn k-> ∀x∈s.V k,R.D (X.p*(sz k+1)+X.pS) (X.k*(sz k+1)+X.kS+s.c) x
 ky: ∀k a,s.Ad k=Qa a->k∈X.cs
 ne: ∃k a,s.Ad k=Qa a
 w: ∀t∈X.cs,R.add (sU (T:=kJ) X.cs dn (Bt X.M t) s.V) (WQ X dn s.V t)=X.W t
theorem Ov {b n c:Nat} (hb:b<n):1+(b+1)*(c+1)<=1+n*(c+1):=Jw (Zr _ hb) 1
def Le {a b:Nat}{st:QS R}{sv:Option aa} (hd:5<=d) (O:ml X) (hK:K∈X.cs) (S:RW kJ R X.h st.g X.D X.M.ab.length st.c st.Ad st.V) (hA:st.Ad K=Qa a) (hc:st.c+X.M.bq<=1+(b+1)*(X.M.bq+1)) (hb:b<X.cs.length) (lo: ∀k,dn' k->sz k<=sz K) (hKd:dn' K)
  (dg: ∀k,¬dn' k-> ∀x∈st.V k,R.D (X.p*(sz k+1)) (X.k*(sz k+1)+st.c) x) (de: ∀k,dn' k-> ∀x∈st.V k,R.D (X.p*(sz k+1)+X.pS) (X.k*(sz k+1)+X.kS+st.c) x) (ky: ∀k a,st.Ad k=Qa a->k∈X.cs)
  (hw: ∀t∈X.cs,R.add (sU (T:=kJ) X.cs dn' (Bt X.M t) st.V) (R.add (kZ (st.V K) (gS X K t) 0) (WQ X dn' st.V t))=X.W t):
  ∃s',PT X dn' (b+1) s'/\s'.k=st.k/\KM X.D (sz K) s' st/\exec (aj P0 d) (.fo [7] Qb (.call (.lit (.ty 491260897125)) [.ao (.var 0) 1936292453 []]) Bq) (jb X sv (Qa (kJ.v K)) st.d st.e st.f st.k) st.g=Qa ((.nx,jb X sv (Qa (kJ.v K)) s'.d s'.e s'.f s'.k),s'.g):=by
 refine xEAA (zea (V0:=st) (F:=WQ X dn' st.V) (sv:=sv) hd (⟨O,hK,Jq hc (Ov hb),S.len K,de K hKd,lo⟩:Uw X K a st.c (st.V K) dn') ⟨S,JA _,JA _,dg,rfl,hA,ky,hw,λ_ _=>rfl,KM.rfl'⟩ λt=>rfl) λs' P' k' e=>?_;refine ⟨s',⟨P'.rw',Jq P'.hi hc,P'.dg,λk hk x hx=>?_,P'.ky,⟨K,a,P'.ad⟩,λt ht=>?_⟩,k',P'.al,e⟩
 ·rw [P'.fx k hk] at hx
  exact R.ai (JA _) (Jw P'.lo _) (de k hk x hx)
 ·simp only [<-P'.w t ht]
  congr 1
  by_cases q:dn' t
  ·rw [xG q,xG q,P'.fx t q]
  ·rw [xH q,xH q]
structure zdG (X:PX R) (g t:MH) (a P K:Nat) (row row':List R.α):Prop where
 ge:g.length<=a
 at':(g++t)[a]?=Qa (.list (row'.map R.e))
 len:row'.length=X.M.ab.length
 dg: ∀x∈row',R.D (P+X.pS) (K+X.kS) x
 w: ∀u l i j,i<=u.length->j<=l.length->kZ row (Bv X.M u l i j) 0=kZ row' (xP X.M (Bv X.M u l) u l i j) 0
structure xg (X:PX R):Prop where
 r:X.ov= .none\/∃a,X.ov= .ref a
 no:X.ov= .none-> ∀row:List R.α,row.length=X.M.ab.length-> ∀u l i j,i<=u.length->j<=l.length->kZ row (Bv X.M u l i j) 0=kZ row (xP X.M (Bv X.M u l) u l i j) 0
 so: ∀aT,X.ov= .ref aT-> ∀ {d P K aR:Nat}{g:MH}{row:List R.α},5<=d->(∃t,g=X.h++t) ->g[aR]?=Qa (.list (row.map R.e)) ->row.length=X.M.ab.length->(∀x∈row,R.D P K x) ->4*(P+X.pS)+(K+X.kS)<=3800->
  ∃t a row',kT (aj P0 d) (.ah 132) [.ah (112+R.i),.ref aR,.ref aT] g=Qa (.ref a,g++t)/\zdG X g t a P K row row'
def PL {V:WW->List R.α}{row':List R.α} (O:ml X) (hK:K∈X.cs) (h0: ¬dn K) (h1: ∀k,dn' k ↔ dn k\/k=K) (hl: ∀s,∀a∈bx X.M s,fc a.up/\fc a.lo)
  (H: ∀u l i j,i<=u.length->j<=l.length->kZ (V K) (Bv X.M u l i j) 0=kZ row' (xP X.M (Bv X.M u l) u l i j) 0) {t:WW} (ht:t∈X.cs) (hw:R.add (sU (T:=kJ) X.cs dn (Bt X.M t) V) (WQ X dn V t)=X.W t):
  R.add (sU (T:=kJ) X.cs dn' (Bt X.M t) (dj (T:=kJ) V K row')) (R.add (kZ row' (gS X K t) 0) (WQ X dn' (dj (T:=kJ) V K row') t))=X.W t:=by
 have hKd:dn' K:=(h1 K).mpr (.inr rfl);rw [Uc (T:=kJ) hKd,<-hw,Ub (T:=kJ) O.nd hK h0 h1,(zbz (M:=X.M) (N:=X.N) (t:=t) (k:=K) (row:=V K) (row':=row') (O.len t ht).1 (O.len t ht).2 hl H)];have e:WQ X dn' (dj (T:=kJ) V K row') t=R.add (if K=t then kZ row' (fw X.M) 0 else R.zero) (WQ X dn V t):=by
  by_cases q:K=t
  ·refine eqE q ?_
   rw [if_pos rfl,xG hKd,xH h0,R.add_zero,kO]
  ·rw [if_neg q,R.zero_add]
   by_cases q':dn t
   ·rw [xG q',xG ((h1 t).mpr (.inl q')),kU λe=>q e.symm]
   ·rw [xH q',xH λh=>((h1 t).mp h).elim q' λe=>q e.symm]
 rw [e,<-R.add_assoc,R.add_comm (sU _ _ _ _),<-R.add_assoc];exact congrArg (λz=>R.add z (WQ X dn V t)) ((R.add_assoc _ _ _).trans ((congrArg (R.add _) (R.add_comm _ _)).trans (R.add_assoc _ _ _).symm))
end
section
variable {R:Rg}{d:Nat}{X:PX R}{K:WW}{dn dn':WW->Prop}{R':Fl->Internal.Frame->MH->Prop}
def QS.upR (st:QS R) (g:MH) (K:WW) (a:Nat) (row:List R.α):QS R:=⟨g,dj (T:=kJ) st.Ad K (Qa a),dj (T:=kJ) st.V K row,st.c+1,st.a,st.b,st.d,st.e,st.f,st.k⟩
def zec (e:X.ov= .none) (h:MH):nG .dw X.ov .none h=Qa false:=by rw [e];rfl
def zeb {a:Nat} (e:X.ov= .ref a) (h:MH):nG .dw X.ov .none h=Qa true:=by rw [e];rfl
def zaI (O:ml X) (hK:K∈X.cs) {c:Nat} (hc:c<=X.cl):4*(X.p*(sz K+1)+X.pS)+(X.k*(sz K+1)+c+X.kS)<=3800:=by
 have hz:sz K+1+1<=2*X.N+2:=JZ (Jq (JL (O.len K hK).1 (O.len K hK).2) (JM (YL _).symm)) 2;have e3:=JK X.p hz;have e4:=JK X.k hz;rw [Ku] at e3 e4;have h1:X.p*(sz K+1)+X.pS<=X.p*(2*X.N+2):=Jq (Jw (Jq (JE _ _) O.pp) _) e3;have h2:X.k*(sz K+1)+c+X.kS<=X.k*(2*X.N+2)+(X.cl+X.M.ab.length):=by
  rw [ZK];exact JL (Jq (Jw (Jq (JE _ _) O.kk) _) e4) (Jq hc (Jv _ _))
 exact Jq (JL (JK 4 h1) h2) O.bd
theorem D9 (O:ml X) (s:Nat): ∀a∈bx X.M s,fc a.up/\fc a.lo:=λa ha=>by
 refine xEAA (nS ha) λys _ hy h=>?_;exact ⟨(O.G.fv ys hy a h).2.1,(O.G.fv ys hy a h).2.2.1⟩
abbrev EI:List Sm:= [.ite (.ba .dw (.var 3) (.lit .none)) [.bg (.sb (.var 4) (.var 6)) (.call (.lit (.ah 132)) [.var 2,.sub (.var 4) (.var 6),.var 3])] [],.fo [7] Qb (.call (.lit (.ty jj)) [.ao (.var 0) p8 []]) Bq]
section
variable {a b:Nat}{st:QS R}{sv:Option aa} (hd:5<=d) (O:ml X) (V:xg X) (hK:K∈X.cs) (h0: ¬dn K) (h1: ∀k,dn' k ↔ dn k\/k=K) (lo: ∀k,dn' k->sz k<=sz K) (hb:b<X.cs.length) (P:PT X dn b st) (hA:st.Ad K=Qa a)
 (q1: ∀s',PT X dn' (b+1) s'->s'.k=st.k->KM X.D (sz K) s' st->R' .nx (jb X sv (Qa (kJ.v K)) s'.d s'.e s'.f s'.k) s'.g)
include hd O V hK h0 h1 lo hb P hA q1
def Sx (hov:X.ov= .none):cz (aj P0 d) EI (jb X sv (Qa (kJ.v K)) st.d st.e st.f st.k) st.g R':=by
 have hKd:dn' K:=(h1 K).mpr (.inr rfl);have eV:dj (T:=kJ) st.V K (st.V K)=st.V:=funext λk=>by
  by_cases q:k=K
  ·refine eqE q ?_;exact kO
  ·exact kU q
 obtain ⟨s',P',k',m',e⟩:=Le (sv:=sv) hd O hK P.rw' hA (b:=b) (dn':=dn') (Jq (JZ P.hc _) (by rw [K9 b 1,Z7,<-Zf];exact Jw (Zw _) _)) hb lo hKd
  (λk hk=>P.dg k λq=>hk ((h1 k).mpr (.inl q))) (λk hk x hx=>((h1 k).mp hk).elim (λq=>P.de k q x hx) λq=>by
   subst q;exact R.ai (Jv _ _) (JZ (Jv _ _) _) (P.dg k h0 x hx)) P.ky
  (λt ht=>by
   have:=PL O hK h0 h1 (D9 O) (V.no hov (st.V K) (P.rw'.len K)) ht (P.w t ht)
   rw [eV] at this;exact this)
 exact lJ (.k (zec hov)<| .c<| .s (e)<| .z (q1 _ P' k' m')) rfl
def Sw {aT:Nat} (hov:X.ov= .ref aT):cz (aj P0 d) EI (jb X sv (Qa (kJ.v K)) st.d st.e st.f st.k) st.g R':=by
 have S:=P.rw';have hcl:st.c<=X.cl:=Jq P.hc (Jw (Zr _ (JQ hb)) 1);refine xEE (V.so aT hov hd S.pre (S.row K a hA) (S.len K) (P.dg K h0) (zaI O hK hcl)) λt a2 dh=>?_;refine xEA dh λrow' ec Nw=>?_;rw [<-hov] at ec;refine xEEAAA S.dd λep es hDd hKy hlen hdg=>?_;have hKe:kY es (kJ.v K)=Qa (.ref a):=(hdg K).trans (by rw [hA];rfl);have ge:X.h.length<=a2:=Jq (by obtain ⟨t0,hg⟩:=S.pre;rw [hg,Jz];exact Jv _ _) Nw.ge;have S2:=(S.cw:RW kJ R X.h (st.g++t) X.D X.M.ab.length st.c st.Ad st.V).lr (k:=K) (kI hDd) Nw.at' ge (λz' e=>absurd (lI (S.row z' _ e)) (ZX.mpr Nw.ge)) Nw.len (bif (kY es (kJ.v K)).isSome then ep else ep.map (· +1)) (S.ep hDd _);obtain ⟨s',P',k',m',e⟩:=Le (sv:=sv) (st:=st.upR _ K a2 row') hd O hK S2 (show dj (T:=kJ) st.Ad K (Qa a2) K=Qa a2 from kO) (b:=b) (dn':=dn')
  (by show st.c+1+X.M.bq<=_;rw [K9 b 1,Z7,<-Zf,Zf st.c,Kv 1];exact JZ P.hc _) hb lo ((h1 K).mpr (.inr rfl))
  (λk hk x hx=>by
   have hx:x∈dj (T:=kJ) st.V K row' k:=hx;rw [kU λq:k=K=>hk (by rw [q];exact ((h1 K).mpr (.inr rfl)))] at hx;exact R.ai (JA _) (Jw (Zw _) _) (P.dg k (λq=>hk ((h1 k).mpr (.inl q))) x hx))
  (λk hk x hx=>by
   have hx:x∈dj (T:=kJ) st.V K row' k:=hx;by_cases q:k=K
   ·cases q
    rw [kO] at hx;exact R.ai (JA _) (by show _<=_+(st.c+1);rw [ZK];exact Jw (Zw _) _) (Nw.dg x hx)
   ·rw [kU q] at hx
    exact R.ai (JA _) (Jw (Zw _) _) (P.de k (((h1 k).mp hk).resolve_right q) x hx))
  (λk a' h=>by
   have h:dj (T:=kJ) st.Ad K (Qa a2) k=Qa a':=h;by_cases q:k=K
   ·rw [q];exact hK
   ·rw [kU q] at h;exact P.ky k a' h)
  (λt ht=>by
   have:=PL O hK h0 h1 (D9 O) Nw.w ht (P.w t ht)
   show R.add (sU (T:=kJ) X.cs dn' (Bt X.M t) (dj (T:=kJ) st.V K row')) (R.add (kZ (dj (T:=kJ) st.V K row' K) (gS X K t) 0) (WQ X dn' (dj (T:=kJ) st.V K row') t))=X.W t;rw [kO];exact this)
 exact lJ (.k (zeb hov)<| .c<| .v (sd hDd (rC (T:=kJ) hKy) hKe)<| .p (ec)<| .h (AO (v:=.ref a2) (kI (t:=t) hDd) (rC (T:=kJ) (k:=K) hKy) (Jx hlen (Jx hcl (Zm O.cl (by decide))):es.length<bh))<| .s (e)<| .z (q1 _ P' k' ⟨λk h=>m'.al k (by
  show ∃a,dj (T:=kJ) st.Ad K (Qa a2) k=Qa a;by_cases q:k=K
  ·refine eqE q ?_;exact ⟨a2,kO⟩
  ·rw [kU q];exact h),λb vs n0 n1 n2=>m'.kp b vs n0 (λk e=>by
  have e:dj (T:=kJ) st.Ad K (Qa a2) k=Qa b:=e;by_cases q:k=K
  ·rw [q,kO] at e
   obtain rfl:=Qa.inj e;exact ZX.mpr Nw.ge (lI n2)
  ·rw [kU q] at e;exact n1 k e) (lF (λe=>n0 e.symm) (kI n2)),λk hm h=>by
  by_cases q:k=K
  ·refine eqB q ?_;exact ⟨a,hA⟩
  ·exact (m'.nw k hm h).elim λb e=>⟨b,(kU (T:=kJ) (f:=st.Ad) (x:=Qa a2) q).symm.trans e⟩⟩)) rfl
theorem Nm:cz (aj P0 d) EI (jb X sv (Qa (kJ.v K)) st.d st.e st.f st.k) st.g R':=
 V.r.elim (Sx hd O V hK h0 h1 lo hb P hA q1) λ⟨_,hov⟩=>Sw hd O V hK h0 h1 lo hb P hA q1 hov
end
end
section
variable {c:Cx}{fr:Internal.Frame}{h:MH}{Q:aa->MH->Prop}{d:Nat}
def Oz {D e:Nat}{es:List (aa×aa)} (hD:h[D]?=Qa (.dict (Qa e) es)):pF h (.ref D)=Qa (.dk D es.length e):=by
 show ay Qd (ay (ay ((h[D]?.bind ae.list?).map λ_=>It.ls D) ((h[D]?.bind ae.dict?).bind λd=>d.1.map λep=>It.dk D d.2.length ep)) _)=_;rw [hD];rfl
def Nt {D e i:Nat}{es:List (aa×aa)} (hD:h[D]?=Qa (.dict (Qa e) es)):mJ h i (.dk D es.length e)=Qa (es.map (·.1))[i]?:=by
 show (h[D]?.bind ae.dict?).bind (λd=>au (d.1==Qa e && d.2.length==es.length) (Qa (d.2[i]?.map (·.1))))=_;rw [hD];show au (Qa e==Qa e && es.length==es.length) (Qa (es[i]?.map (·.1)))=_;simp only [beq_self_eq_true,beq_self_eq_true,JC];rfl
def Fu {it:Ex}{x D e:Nat}{es:List (aa×aa)}{ifs:List Ex} (p:aa->Bool) (hf:es.length<c.cu) (hl:es.length<=bh) (hx: ∀v,(fr.set x (Qa v))[x]?=Qa (Qa v))
  (q:WE c fr it h λv h1=>v= .ref D/\h1[D]?=Qa (.dict (Qa e) es)/\(∀v,v∈es.map (·.1) -> ∀acc,uo c (fr.set x (Qa v)) ifs (h1++ [.list acc]) λb h2=>h2=h1++ [.list acc]/\b=p v)/\Q (.ref h1.length) (h1++ [.list ((es.map (·.1)).filter p)])):WE c fr (.comp (.var x) [x] Qb it ifs) h Q:=by
 refine wC (W.mono q λv h1 q=>?_);obtain ⟨rfl,hD,st,q⟩:=q;refine ⟨.dk D es.length e,es.map (·.1),Oz hD,by rw [Jt];exact hf,λi hh=>hh=h1++ [.list (((es.map (·.1)).take i).filter p)],rfl,?_,?_,?_⟩
 ·rintro i hh rfl;exact Nt (kI hD)
 ·rintro i v hv hh rfl
  refine mT (W.mono (st v (Ju hv) _) λb h2 q=>?_);obtain ⟨rfl,rfl⟩:=q;have hi:=kP hv;refine br (λhb=>vK (hx v) ⟨_,ap,?_,?_⟩) (λhb=>?_)
  ·have h1:=Z9 p ((es.map (·.1)).take i)
   rw [Kx] at h1;rw [Jt] at hi;exact Jx h1 (Jx (K2 _ _) (Jy hi hl))
  ·rw [rS]
   show _=h1++ [ae.list (((es.map (·.1)).take (i+1)).filter p)];rw [qL hv,hb];rfl
  ·show _=h1++ [ae.list (((es.map (·.1)).take (i+1)).filter p)]
   rw [qL hv,hb,cond_false,Zv]
 ·rintro hh rfl
  exact Zg▸q
end
section
variable {R:Rg}{h g:MH}{D N c:Nat}{Ad:WW->Option Nat}{V:WW->List R.α}
def Ow: ∀ {es:List (aa×aa)},qT kJ es-> ∃ks:List WW,es.map (·.1)=ks.map kJ.v:=by
 intro es
 induction es with
 |nil=>exact λ_=>⟨[],rfl⟩
 |cons p r ih=>
  intro K;obtain ⟨a,e⟩:=K p (.head _);obtain ⟨ks,q⟩:=ih λp hp=>K p (.tail _ hp);exact ⟨a::ks,by rw [JR,JR,q,e]⟩
structure zdI (g:MH) (D c:Nat) (Ad:WW->Option Nat) (e:Nat) (es:List (aa×aa)) (ks:List WW):Prop where
 at':g[D]?=Qa (.dict (Qa e) es)
 kq:es.map (·.1)=ks.map kJ.v
 nd:ks.Nodup
 mem: ∀k,k∈ks ↔ ∃a,Ad k=Qa a
 len:es.length<=c
def RW.ry (S:RW kJ R h g D N c Ad V): ∃e es ks,zdI g D c Ad e es ks:=by
 refine xEEA S.sm λe es hD nd=>?_;refine xEEAAA S.dd λep es' h1 K hc hg=>?_;rw [hD] at h1;cases h1;refine xE (Ow K) λks q=>?_;rw [q] at nd;refine ⟨e,es,ks,hD,q,nd.of_map _ λa b hab e=>hab (congrArg kJ.v e),λk=>?_,hc⟩;have hg:=hg k
 constructor
 ·intro hk
  have:kJ.v k∈es.map (·.1):=q▸JO.mpr ⟨k,hk,rfl⟩
  refine xEA (JO.mp this) λp hp e1=>?_;cases hA:Ad k with
  |some a=>exact ⟨a,rfl⟩
  |none=>
   rw [hA] at hg
   have:=List.find?_eq_none.mp (Option.map_eq_none_iff.mp hg) p hp
   rw [show p.1=kJ.v k from e1,kJ.eq,decide_eq_true rfl] at this;exact absurd rfl this
 ·rintro ⟨a,hA⟩
  rw [hA] at hg;refine xEA (Zl.mp hg) λp hp _=>?_;have h1:=KL hp;have h2:p.1∈es.map (·.1):=JO.mpr ⟨p,Ki hp,rfl⟩;rw [q] at h2;refine xEA (JO.mp h2) λb hb e2=>?_;rw [<-e2,kJ.eq] at h1;exact of_decide_eq_true h1▸hb
def DN (l:List WW):y3 (l.map kJ.v)=Qa l:=by
 delta y3
 induction l with
 |nil=>rfl
 |cons a l ih=>
  rw [JR,Yt,ih];rfl
def zgc (z:Cx) {a:Nat}{l:List WW} (ha:g[a]?=Qa (.list (l.map kJ.v))) (hl:l.length<=60):kT z (.bi rX) [.ref a] g=Qa (.ref g.length,g++ [.list ((oO l).map kJ.v)]):=by
 refine W.eq (Gw (v:=.ref g.length) (h':=g++ [.list ((oO l).map kJ.v)]) ?_ ⟨rfl,rfl⟩);show ay ((dictAt g (.ref a)).bind _) (ay ((dictAt g (.ref a)).bind _) (ay ((lG g (.ref a)).bind λvs=>(y3 vs).bind λl=>au (Zc l.length 60) (lZ g (.list ((oO l).map lx)))) _))=_;rw [WY ha,nC ha];show ay ((y3 (l.map kJ.v)).bind _) _=_;rw [DN];show ay (au (Zc l.length 60) _) _=_;rw [Kq hl];rfl
def zgd (z:Cx) {a:Nat}{ep:Option Nat}{es:List (aa×aa)}{l:List WW} (ha:g[a]?=Qa (.dict ep es)) (hk:es.map (·.1)=l.map kJ.v) (h1:l≠ []) (hl:l.length<=60):kT z (.bi rX) [.ref a] g=Qa (.ref g.length,g++ [.list ((oO l).map kJ.v)]):=by
 refine W.eq (Gw (v:=.ref g.length) (h':=g++ [.list ((oO l).map kJ.v)]) ?_ ⟨rfl,rfl⟩);show ay ((dictAt g (.ref a)).bind λp=>(pG (p.2.map (·.1))).bind _) (ay ((dictAt g (.ref a)).bind λp=>(y3 (p.2.map (·.1))).bind λl=>au (!l.isEmpty && Zc l.length 60) (lZ g (.list ((oO l).map lx)))) _)=_;rw [nE ha];show ay ((pG (es.map (·.1))).bind _) (ay ((y3 (es.map (·.1))).bind _) _)=_;rw [hk,DN];cases l with
 |nil=>exact absurd rfl h1
 |cons x l=>
  show ay Qd (ay (au (Zc (x::l).length 60) _) _)=_;rw [Kq hl];rfl
def Dz {cs ks:List WW} (nc:cs.Nodup) (nk:ks.Nodup) (p:WW->Bool) (hm: ∀k,k∈ks ↔ k∈cs/\p k=Qf):ks.Perm (cs.filter p)/\ks.length<=cs.length:=by
 have P:ks.Perm (cs.filter p):=(List.perm_ext_iff_of_nodup nk (nc.filter _)).mpr λk=>by rw [hm,Zx]
 exact ⟨P,P.length_eq▸Z9 _ _⟩
end
section
variable {R:Rg}{d:Nat}{X:PX R}{K:WW}{dn dn':WW->Prop}{R':Fl->Internal.Frame->MH->Prop}
def pz (s:Nat) (v:aa):Bool:=((zcb v).map λk=>decide (sz k=s)).getD Qb
theorem zd9 (s:Nat) (k:WW):pz s (kJ.v k)=decide (sz k=s):=rfl
theorem Ec (s:Nat) (ks:List WW):(ks.map kJ.v).filter (pz s)=(ks.filter λk=>decide (sz k=s)).map kJ.v:=List.filter_map ..
abbrev zaJ:Ex:= .comp (.var 12) [12] Qb (.var 4) [.ba .eq (.bj .add (.call (.lit (.bi 7103854)) [.sub (.var 12) (.lit (.int 0))]) (.call (.lit (.bi 7103854)) [.sub (.var 12) (.lit (.int 1))])) (.var 5)]
def Ox {g:MH}{e s c:Nat}{es:List (aa×aa)}{ks:List WW}{Ad:WW->Option Nat}{b z f x k:Option aa} (H:zdI g X.D c Ad e es ks) (hc:c<=100000):eval (aj P0 d) zaJ (jb X (vN s) b z f x k) g=Qa (.ref g.length,g++ [.list ((ks.filter λk=>decide (sz k=s)).map kJ.v)]):=by
 have hl:=Jq H.len hc;refine W.eq (Fu (pz s) (Jx hl (by decide:100000<200000)) (Jq hl (by decide)) (λ_=>rfl) (vK rfl ⟨rfl,H.at',λv hv acc=>?_,rfl,?_⟩))
 ·rw [H.kq] at hv
  obtain ⟨k,_,rfl⟩:=JO.mp hv;refine tA ((show WE (aj P0 d) _ _ (g++ [.list acc]) (λv h=>v= .bool (((k.1.length:Int)+(k.2.length:Int))==(s:Int))/\h=g++ [.list acc]) from lR (.c4<| .c<| .k (ug ((k.1.length:Int)+(k.2.length:Int)) s)<| .z (cv (.bool (((k.1.length:Int)+(k.2.length:Int))==(s:Int))) (g++ [.list acc]))) rfl).mono λv h q=>?_);obtain ⟨rfl,rfl⟩:=q;have e:(((k.1.length:Int)+(k.2.length:Int))==(s:Int))=pz s (kJ.v k):=by
   rw [zd9,Kd,beq_iff_eq,decide_eq_true_eq];exact ⟨λh=>KH.inj h,λh=>by rw [<-h];rfl⟩
  rw [e];exact uD ⟨λhb=>rO ⟨rfl,hb.symm⟩,λhb=>⟨rfl,hb.symm⟩⟩
 ·rw [H.kq,Ec]
end
def zdi {c:Cx}{h:MH}{σ:Type}{tg:List Nat}{many:Bool}{a:Nat}{e:Ex}{b:List Sm}{vs:List aa} (F:σ->Internal.Frame) (G:σ->MH) (P:Nat->σ->Prop) (s0:σ) (hn:vs.length<=100000) (hc:c.cu=200000)
  (hk: ∀i s,P i s->(G s)[a]?=Qa (.list vs)) (e0:WE c (F s0) e h λv g=>v= .ref a/\g=G s0) (p0:P 0 s0)
  (step: ∀i v s R' R,vs[i]?=Qa v->P i s->To F G (P (i+1)) R R'->Wo (oX (F s) tg many v) λfr1=>cz c b fr1 (G s) R'): ∃s,P vs.length s/\exec c (.fo tg many e b) (F s0) h=Qa ((.nx,F s),G s):=by
 have w:WS c (.fo tg many e b) (F s0) h λfl f g=> ∃s,P vs.length s/\fl= .nx/\f=F s/\g=G s:=
  wA F G P (by rw [hc];exact Jy (JX hn) (JE _ _)) s0 hk (e0.mono λv g q=>⟨q.1,rfl,q.2,p0⟩) (λi v s R' hi hp T=>step i v s R' _ hi hp T) λs hp=>⟨s,hp,rfl,rfl,rfl⟩
 obtain ⟨⟨fl,f⟩,g,e,s,hp,q1,q2,q3⟩:=W.get w;refine eqE q1 ?_;subst q2;subst q3;exact ⟨s,hp,e⟩
section
variable {R:Rg}{d:Nat}{X:PX R}{dn dn':WW->Prop}{b b' s:Nat}{st:QS R}
theorem PT.cw {t:MH} (P:PT X dn b st):PT X dn b {st with g:=st.g++t}:=⟨P.rw'.cw,P.hc,P.dg,P.de,P.ky,P.ne,P.w⟩
def PT.ja (P:PT X dn b st) (hb:b<=b') (h1: ∀k,dn k->dn' k) (h2: ∀k,dn' k->dn k\/st.Ad k=Qd):PT X dn' b' st:=by
 have zr: ∀k,st.Ad k=Qd-> ∀x∈st.V k,x=R.zero:=λk h x hx=>by
  rw [P.rw'.rk k h] at hx;exact Zk hx
 refine ⟨P.rw',Jq P.hc (Jw (Zr _ hb) 1),λk hk=>P.dg k λq=>hk (h1 k q),λk hk x hx=>?_,P.ky,P.ne,λt ht=>?_⟩
 ·exact (h2 k hk).elim (λq=>P.de k q x hx) λq=>by rw [zr k q x hx];exact (R.ai (JJ _) (JJ _) R.cj)
 ·rw [<-P.w t ht]
  have hz: ∀k,dn' k-> ¬dn k->st.V k=l6 R X.M.ab.length:=λk q n=>P.rw'.rk k ((h2 k q).resolve_left n);refine congr (congrArg R.add (oM λk hk=>?_)) ?_
  ·by_cases q:dn k
   ·rw [if_pos q,if_pos (h1 k q)]
   ·by_cases q':dn' k
    ·rw [if_neg q,if_pos q',hz k q' q,m7]
    ·rw [if_neg q,if_neg q']
  ·by_cases q:dn t
   ·rw [xG q,xG (h1 t q)]
   ·by_cases q':dn' t
    ·rw [xH q,xG q',hz t q' q,m7]
    ·rw [xH q,xH q']
def AG {α:Type} (p q:α->Bool): ∀ (l:List α),(∀x,p x=Qf->q x=Qb) ->(l.filter p).length+(l.filter q).length=(l.filter λx=>p x||q x).length:=by
 intro l h
 induction l with
 |nil=>rfl
 |cons x l ih=>
  simp only [List.filter_cons,List.filter_cons,List.filter_cons];cases hp:p x with
  |true=>
   rw [h x hp];show (x::l.filter p).length+(l.filter q).length=(x::l.filter λx=>p x||q x).length;simp only [ZC,ZC,<-ih,ZK]
  |false=>
   cases hq:q x with
   |true=>
    show (l.filter p).length+(x::l.filter q).length=(x::l.filter λx=>p x||q x).length;simp only [ZC,ZC,<-ih];rfl
   |false=>exact ih
def bs (X:PX R) (s:Nat):Nat:=(X.cs.filter λk=>decide (sz k<s)).length
def za0 (p:WW->Bool) (hp: ∀k,p k=Qf->sz k=s):bs X s+(X.cs.filter p).length<=X.cs.length/\bs X s+(X.cs.filter p).length<=bs X (s+1):=by
 have e:=AG (λk=>decide (sz k<s)) p X.cs λk h=>by
  cases q:p k with
  |false=>rfl
  |true=>exact absurd (of_decide_eq_true h) (by rw [hp k q];exact J8 _)
 delta bs;rw [e];refine ⟨Z9 _ _,?_⟩;rw [<-List.countP_eq_length_filter,<-List.countP_eq_length_filter];refine List.countP_mono_left λk _ h=>?_;rcases Yz.mp h with h|h
 ·exact decide_eq_true (ZJ (of_decide_eq_true h))
 ·exact decide_eq_true (by rw [hp k h];exact J0 _)
end
section
variable {R:Rg}{d:Nat}{X:PX R}{dn:WW->Prop}{b s:Nat}{st s1:QS R}{k0:Option aa}{l:List WW}
abbrev qa (s:Nat) (k:WW):Prop:=sz k<s
abbrev c9 (s:Nat) (l:List WW) (j:Nat) (k:WW):Prop:=sz k<s\/k∈l.take j
structure SI (X:PX R) (s:Nat) (l:List WW) (s1:QS R) (k0:Option aa) (j:Nat) (st:QS R):Prop where
 P:PT X (c9 s l j) (bs X s+j) st
 k:st.k=k0
 m:KM X.D s st s1
theorem PT.bS {y:Option aa} (P:PT X dn b st):PT X dn b {st with b:=y}:=⟨P.rw',P.hc,P.dg,P.de,P.ky,P.ne,P.w⟩
theorem PT.bT {y:Option aa} (P:PT X dn b st):PT X dn b {st with a:=y}:=⟨P.rw',P.hc,P.dg,P.de,P.ky,P.ne,P.w⟩
theorem DZ {K:WW}{i:Nat} (nd:l.Nodup) (h:l[i]?=Qa K):K∉l.take i:=λq=>by
 rw [((KC i l).symm:l=l.take i++l.drop i),qN h] at nd;exact (ZR.mp nd).2.2 K q K (.head _) rfl
structure SL (X:PX R) (s:Nat) (l:List WW) (s1:QS R):Prop where
 nd:l.Nodup
 mem: ∀k,k∈l ↔ sz k=s/\∃a,s1.Ad k=Qa a
 cs: ∀k∈l,k∈X.cs
 n:bs X s+l.length<=X.cs.length/\bs X s+l.length<=bs X (s+1)
def M6 {i:Nat}{v:aa}{R1 R':Fl->Internal.Frame->MH->Prop} (hd:5<=d) (O:ml X) (V:xg X) (H:SL X s l s1) (hv:(l.map kJ.v)[i]?=Qa v) (I:SI X s l s1 k0 i st) (T:To (λs':QS R=>jb X (vN s) s'.b s'.d s'.e s'.f s'.k) QS.g (SI X s l s1 k0 (i+1)) R1 R'):
  Wo (oX (jb X (vN s) st.b st.d st.e st.f st.k) [6] Qb v) λfr1=>cz (aj P0 d) EI fr1 st.g R':=by
 rw [JC] at hv;obtain ⟨K,hK,rfl⟩:=Zl.mp hv;have hm:=Ju hK;have q:=(H.mem K).mp hm;have hKs:sz K=s:=q.1;refine (I.m.al K q.2).elim λa hA=>?_;refine mT (Nm (dn:=c9 s l i) (dn':=c9 s l (i+1)) (a:=a) hd O V (H.cs K hm) (λh=>h.elim (λh=>absurd hKs (Z2 h)) (DZ H.nd hK)) (λk=>?_) (λk h=>?_) (b:=bs X s+i) (Jy (ZI (kP hK) _) H.n.1) I.P hA λs' P' k' m'=>T.nx {s' with b:=Qa (kJ.v K)} ⟨P'.bS,k'.trans I.k,I.m.trans (hKs▸ ⟨m'.al,m'.kp,m'.nw⟩)⟩)
 ·show sz k<s\/k∈l.take (i+1) ↔ (sz k<s\/k∈l.take i)\/k=K
  rw [wJ hK,J4,JG,or_assoc]
 ·exact h.elim (λh=>hKs▸JQ h) λh=>JM (((H.mem k).mp (Kw h)).1.trans hKs.symm)
abbrev Be:Sm:= .fo [6] Qb (.call (.lit (.bi 126922498794852)) [zaJ]) EI
def Bs (hd:5<=d) (O:ml X) (V:xg X) (C:X.cs.length<=60) (P:PT X (qa s) (bs X s) st): ∃st',PT X (qa (s+1)) (bs X (s+1)) st'/\st'.k=st.k/\exec (aj P0 d) Be (jb X (vN s) st.b st.d st.e st.f st.k) st.g=Qa ((.nx,jb X (vN s) st'.b st'.d st'.e st'.f st'.k),st'.g):=by
 refine xEE P.rw'.ry λe es dh=>?_;refine xE dh λks H=>?_;have nk:(ks.filter λk=>decide (sz k=s)).Nodup:=H.nd.filter _;have hm: ∀k,k∈ks.filter (λk=>decide (sz k=s)) ↔ sz k=s/\∃a,st.Ad k=Qa a:=λk=>by
  rw [Zx,H.mem,decide_eq_true_eq,and_comm]
 obtain ⟨el,hl⟩:=Dz (cs:=X.cs) (ks:=ks.filter λk=>decide (sz k=s)) O.nd nk (λk=>decide (sz k=s) && (st.Ad k).isSome) λk=>by
  rw [hm,Jr,decide_eq_true_eq,Zt];exact ⟨λh=>⟨h.2.elim λa q=>P.ky k a q,h⟩,λh=>h.2⟩
 have f1:=Ox (d:=d) (X:=X) (s:=s) (b:=st.b) (z:=st.d) (f:=st.e) (x:=st.f) (k:=st.k) H (Jq P.hc (Jq (Jw (Zr _ (Z9 _ _)) 1) (Jq (JQ O.cl) (by decide))):st.c<=100000)
 generalize ks.filter (λk=>decide (sz k=s))=kl at nk hm el hl f1
 have L:SL X s (oO kl) st:=by
  refine ⟨(mD kl).nodup_iff.mpr nk,λk=>?_,λk hk=>?_,((mD kl).length_eq.trans el.length_eq)▸za0 _ λk h=>of_decide_eq_true (Jr.mp h).1⟩
  ·rw [(mD kl).mem_iff,hm]
  ·exact ((hm k).mp ((mD kl).mem_iff.mp hk)).2.elim λa q=>P.ky k a q
 have f2:=zgc (g:=st.g++ [.list (kl.map kJ.v)]) (aj P0 d) (a:=st.g.length) ap (Jq hl C);have n60:(oO kl).length<=60:=(mD kl).length_eq▸Jq hl C
 generalize oO kl=l at L f2 n60
 have lt1:st.g.length<=(st.g++ [ae.list (kl.map kJ.v)]).length:=by rw [Jz];exact Jv _ _
 obtain ⟨s',I,e⟩:=zdi (c:=aj P0 d) (h:=st.g) (tg:=[6]) (many:=Qb) (e:=.call (.lit (.bi 126922498794852)) [zaJ]) (b:=EI) (vs:=l.map kJ.v) (a:=(st.g++ [ae.list (kl.map kJ.v)]).length) (λs':QS R=>jb X (vN s) s'.b s'.d s'.e s'.f s'.k) QS.g (SI X s l {st with g:=st.g++ [.list (kl.map kJ.v)]++ [.list (l.map kJ.v)]} st.k) {st with g:=st.g++ [.list (kl.map kJ.v)]++ [.list (l.map kJ.v)]}
  (by rw [Jt];exact Jq n60 (by decide)) rfl (λi s2 I=>(I.m.kp _ _ (λe=>ZX.mpr lt1 (e▸lI H.at'):(st.g++ [ae.list (kl.map kJ.v)]).length≠X.D) (λk e=>ZX.mpr lt1 (lI (P.rw'.row k _ e)): ∀k,st.Ad k≠Qa (st.g++ [ae.list (kl.map kJ.v)]).length) ap).1) (by exact lR (.p f1<| .p f2<| .z (cv (.ref (st.g++ [ae.list (kl.map kJ.v)]).length) (st.g++ [.list (kl.map kJ.v)]++ [.list (l.map kJ.v)]))) (by kernel_rfl)) ⟨(P.cw.cw).ja (JA _) (λk h=> .inl h) λk h=> .inl (h.elim id λh=>absurd h JB),rfl,KM.rfl'⟩ λi v s2 R' R1 hv I T=>M6 (s1:={st with g:=st.g++ [.list (kl.map kJ.v)]++ [.list (l.map kJ.v)]}) hd O V ⟨L.nd,L.mem,L.cs,L.n⟩ hv I T
 rw [Jt] at I;refine ⟨s',I.P.ja L.n.2 (λk h=>?_) (λk h=>?_),I.k,e⟩
 ·exact h.elim (λh=>ZJ h) λh=>by
   show sz k<s+1;rw [((L.mem k).mp (Kw h)).1];exact J0 _
 ·rcases KW (Ze h) with h|h
  ·exact .inl (.inl h)
  ·by_cases q:k∈l
   ·exact .inl (.inr (by rw [Zg];exact q))
   ·refine .inr ?_
    cases hA:s'.Ad k with
    |none=>rfl
    |some a=>exact absurd ((L.mem k).mpr ⟨h,I.m.nw k (JM h) ⟨a,hA⟩⟩) q
end
section
variable {R:Rg}{d:Nat}{X:PX R}{dn:WW->Prop}{b s:Nat}{st s1:QS R}{k0:Option aa}{l:List WW}
abbrev Sh:Sm:= .fo [5] Qb (.call (.lit (.ty 491260897125)) [.bj .add (.bj .mul (.lit (.int 2)) (.var 1)) (.lit (.int 1))]) [Be]
def Ss (hd:5<=d) (O:ml X) (V:xg X) (C:X.cs.length<=60) (P:PT X (qa 0) (bs X 0) st): ∃st',PT X (qa (2*X.N+1)) (bs X (2*X.N+1)) st'/\st'.k=st.k/\exec (aj P0 d) Sh (jb X st.a st.b st.d st.e st.f st.k) st.g=Qa ((.nx,jb X st'.a st'.b st'.d st'.e st'.f st'.k),st'.g):=by
 obtain ⟨s',P',e⟩:=pa (c:=aj P0 d) (x:=5) (n:=2*X.N+1) (e:=.call (.lit (.ty 491260897125)) [.bj .add (.bj .mul (.lit (.int 2)) (.var 1)) (.lit (.int 1))]) (b:=[Be]) (λs':QS R=>jb X s'.a s'.b s'.d s'.e s'.f s'.k) QS.g (λi s'=>PT X (qa i) (bs X i) s'/\s'.k=st.k) st
  (Jq (Zu (JK 2 O.n)) (by decide)) rfl (by exact lR (.q (Wu (a:=2) (b:=X.N) (by decide) (Jx O.n (by decide)))<| .c2<| .z (Wf (2*X.N) st.g)) (by kernel_rfl)) ⟨P,rfl⟩ λi s' R1 _ hi P1 T1=>by
   refine xEAA (Bs hd O V C P1.1) λs2 P2 k2 e=>?_;exact lJ (.s e<| .z (T1.nx {s2 with a:=vN i} ⟨P2.bT,k2.trans P1.2⟩)) rfl
 exact ⟨s',P'.1,P'.2,e⟩
def PT.fe (O:ml X) (P:PT X (qa (2*X.N+1)) b st) {t:WW} (ht:t∈X.cs):kZ (st.V t) (fw X.M) 0=X.W t:=by
 have hd: ∀t∈X.cs,qa (2*X.N+1) t:=λt ht=>JX (Jq (JL (O.len t ht).1 (O.len t ht).2) (JM (YL _).symm));simp only [<-P.w t ht,xG (hd t ht),uI (T:=kJ) λc hc h=>absurd (hd c hc) h,R.zero_add]
def Nn (O:ml X) (P:PT X (qa (2*X.N+1)) b st) (hb:b<=X.cs.length) {t:WW} (ht:t∈X.cs):4*(X.p*(sz t+1)+X.pS+X.p1)+(X.k*(sz t+1)+X.kS+st.c+X.k1+X.M.ab.length)<=3800:=by
 have hz:sz t+2<=2*X.N+2:=JZ (Jq (JL (O.len t ht).1 (O.len t ht).2) (JM (YL _).symm)) 2;exact (Gb (n:=sz t) O.pp O.kk (Jq P.hc (Jw (Zr _ hb) 1):st.c<=X.cl) (Jq (JL (JK 4 (JK _ hz)) (JZ (JK _ hz) _)) O.bd)).2.2
def Nj {g:MH}{a:Nat} (hd:4<=d) (O:ml X) (P:PT X (qa (2*X.N+1)) b st) (hb:b<=X.cs.length) {t:WW} (ht:t∈X.cs) (hA:st.Ad t=Qa a) (hg: ∃t,g=st.g++t):kT (aj P0 d) (.ah 127) [.ref X.L.m,.ref a] g=Qa (R.e (X.W t),g):=by
 obtain ⟨t',rfl⟩:=hg;have S:RW kJ R X.h (st.g++t') X.D X.M.ab.length st.c st.Ad st.V:=P.rw'.cw
 have:=fn (P:=P0) rfl (WU (Q:=λv g=>v=_/\g=_) hd (S.ql O.I) (S.row _ _ hA) (S.len _) (P.de t (JX (Jq (JL (O.len t ht).1 (O.len t ht).2) (JM (YL _).symm)):sz t<2*X.N+1)) O.G.ed (Nn O P hb ht) ⟨rfl,rfl⟩)
 rw [Ah (o:=0) (b:=fw X.M) ((S.len _).trans O.I.fj.symm) λs x hx=>by unfold fw;rw [Z3,hx];rfl,P.fe O ht] at this;exact this
end
section
variable {R:Rg}{d:Nat}{X:PX R}{b:Nat}{st:QS R}{l:List WW}
abbrev nz (W:WW->R.α) (k:WW):Bool:=!@decide (W k=R.zero) (R.gq _ _)
def pP (W:WW->R.α) (l:List WW):List (aa×aa):=(l.filter (nz W)).map λk=>(kJ.v k,R.e (W k))
def yL (W:WW->R.α) (cs:List WW) (es:List (aa×aa)):Prop:= ∃l,es=pP W l/\(l.filter (nz W)).Perm (cs.filter (nz W))
def Eh {W:WW->R.α}{i:Nat}{K:WW} (h:l[i]?=Qa K):pP W (l.take (i+1))=pP W (l.take i)++(bif !@decide (W K=R.zero) (R.gq _ _) then [(kJ.v K,R.e (W K))] else []):=by
 delta pP;rw [wJ h,Xt,JY]
 congr 1
 refine vY (!@decide (W K=R.zero) (R.gq _ _)) (λhb=>?_) λhb=>?_
 ·rw [hb]
  rw [List.filter_cons_of_pos (by exact hb)];rfl
 ·rw [hb]
  rw [List.filter_cons_of_neg (p:=nz W) (λe=>Zn (hb.symm.trans e))];rfl
def Ei {W:WW->R.α}{K:WW} (h:K∉l):kY (pP W l) (kJ.v K)=none:=by
 refine Option.map_eq_none_iff.mpr (List.find?_eq_none.mpr λp hp q=>?_);obtain ⟨k,hk,rfl⟩:=JO.mp hp;rw [kJ.eq] at q;exact h (of_decide_eq_true q▸(Zx.mp hk).1)
theorem Ue {W:WW->R.α}:qT kJ (pP W l):=λp hp=>by
 obtain ⟨k,_,rfl⟩:=JO.mp hp;exact ⟨k,rfl⟩
structure QO where
 ep:Option Nat
 es:List (aa×aa)
 b:Option aa
 v:Option aa
abbrev UR (st:QS R) (l:List WW) (s:QO):MH:=st.g++ [.dict s.ep s.es,.list (l.map kJ.v)]
abbrev yt (X:PX R) (st:QS R) (s:QO):Internal.Frame:=Qa (.ref X.L.m)::Qa (.int X.N)::Qa (.ah (112+R.i))::Qa X.ov::Qa (.ref X.D)::st.a::s.b::st.d::st.e::st.f::vR st.g.length::s.v::nn 6
abbrev SF:List Sm:= [.bg (.nm 11) (.call (.lit (.ah 127)) [.var 0,.sub (.var 4) (.var 6)]),.ite (.ba .ne (.var 11) (.af (.var 2) nW)) [.bg (.sb (.var 10) (.var 6)) (.var 11)] []]
def Nr {i:Nat}{v:aa}{s:QO}{R1 R':Fl->Internal.Frame->MH->Prop} (hd:4<=d) (O:ml X) (P:PT X (qa (2*X.N+1)) b st) (hb:b<=X.cs.length) (nd:l.Nodup) (n60:l.length<=60) (hm: ∀k∈l,∃a,st.Ad k=Qa a) (hv:(l.map kJ.v)[i]?=Qa v) (I:s.es=pP X.W (l.take i)) (T:To (yt X st) (UR st l) (λs=>s.es=pP X.W (l.take (i+1))) R1 R'):
  Wo (oX (yt X st s) [6] Qb v) λfr1=>cz (aj P0 d) SF fr1 (UR st l s) R':=by
 rw [JC] at hv;refine xEA (Zl.mp hv) λK hK dh=>?_;refine eqE dh ?_;refine xE (hm K (Ju hK)) λa hA=>?_;refine xEEAAA P.rw'.dd λep es hDd hKy _ hdg=>?_;have f1:=sd (kI (t:=[.dict s.ep s.es,.list (l.map kJ.v)]) hDd) (rC (T:=kJ) hKy) ((hdg K).trans (by rw [hA];rfl):kY es (kJ.v K)=Qa (.ref a));have f2:=Nj (g:=UR st l s) hd O P hb (P.ky K a hA) hA ⟨_,rfl⟩;have st1:=Eh (W:=X.W) hK;refine vY (!@decide (X.W K=R.zero) (R.gq _ _)) (λhq=>?_) λhq=>?_
 ·rw [hq,cond_true] at st1
  have f3:=AO (h:=UR st l s) (v:=R.e (X.W K)) (a:=st.g.length) (pH (j:=0)) (I▸rC (T:=kJ) (k:=K) Ue) (I▸by
   show ((((l.take i).filter _).map _).length)<bh;rw [Jt];exact Jx (Jq (Z9 _ _) (Jq (List.length_take_le' _ _) n60)) (by decide))
  have e3:(UR st l s).set st.g.length (.dict (bif (kY s.es (kJ.v K)).isSome then s.ep else s.ep.map (· +1)) (oF s.es (kJ.v K) (R.e (X.W K))))=UR st l ⟨s.ep.map (· +1),s.es++ [(kJ.v K,R.e (X.W K))],Qa (kJ.v K),Qa (R.e (X.W K))⟩:=by
   delta oF;rw [(I▸Ei (DZ nd hK):kY s.es (kJ.v K)=Qd)];exact DF (j:=0)
  rw [e3] at f3;exact mT (lJ (.v f1<| .p f2<| .w (R.no)<| .k (R.qn (X.W K) R.zero)<| .t hq<| .h f3<| .z (T.nx ⟨s.ep.map (· +1),s.es++ [(kJ.v K,R.e (X.W K))],Qa (kJ.v K),Qa (R.e (X.W K))⟩ (by show s.es++_=_;rw [I,st1]))) rfl)
 ·rw [hq,cond_false,Zv] at st1
  exact mT (lJ (.v f1<| .p f2<| .w (R.no)<| .k (R.qn (X.W K) R.zero)<| .f hq<| .z (T.nx {s with b:=Qa (kJ.v K),v:=Qa (R.e (X.W K))} (I.trans st1.symm))) rfl)
end
section
variable {R:Rg}{d:Nat}{X:PX R}{b:Nat}{st:QS R}{l:List WW}{Q:aa->MH->Prop}
abbrev zed:Sm:= .fo [6] Qb (.call (.lit (.bi 126922498794852)) [.var 4]) SF
def SM {W:WW->R.α}{cs:List WW}{p:WW->Bool} (h: ∀k∈cs,p k=Qb->W k=R.zero):(cs.filter p).filter (nz W)=cs.filter (nz W):=by
 refine List.filter_filter.trans ?_;refine List.filter_congr λk hk=>?_;cases hp:p k with
 |true=>exact Yb _
 |false=>unfold nz;rw [Xv,h k hk hp];exact (congrArg (!·) (@decide_eq_true _ (R.gq R.zero R.zero) rfl)).symm
def Nk (hd:4<=d) (O:ml X) (C:X.cs.length<=60) (P:PT X (qa (2*X.N+1)) b st) (hb:b<=X.cs.length): ∃s l,yL X.W X.cs s.es/\exec (aj P0 d) zed (yt X st ⟨Qa 0,[],st.b,Qd⟩) (st.g++ [.dict (Qa 0) []])=Qa ((.nx,yt X st s),UR st l s):=by
 refine xEE P.rw'.ry λe es dh=>?_;refine xE dh λks H=>?_;obtain ⟨el,hl⟩:=Dz (cs:=X.cs) (ks:=ks) O.nd H.nd (λk=>(st.Ad k).isSome) λk=>by
  rw [H.mem,Zt];exact ⟨λh=>⟨h.elim λa q=>P.ky k a q,h⟩,λh=>h.2⟩
 have f2:=zgd (g:=st.g++ [.dict (Qa 0) []]) (aj P0 d) (kI H.at') H.kq (λe=>P.ne.elim λk q=>absurd ((H.mem k).mpr q) (by rw [e];exact JB):ks≠ []) (Jq hl C);have nd:(oO ks).Nodup:=(mD ks).nodup_iff.mpr H.nd;have n60:(oO ks).length<=60:=(mD ks).length_eq▸Jq hl C;have hm: ∀k∈oO ks,∃a,st.Ad k=Qa a:=λk hk=>(H.mem k).mp ((mD ks).mem_iff.mp hk);have eo:((oO ks).filter (nz X.W)).Perm (X.cs.filter (nz X.W)):=by
  refine (((mD ks).trans el).filter _).trans (.of_eq (SM λk hk h=>?_));have hA:st.Ad k=none:=by
   cases q:st.Ad k with
   |none=>rfl
   |some a=>rw [q] at h;cases h
  rw [<-P.fe O hk,P.rw'.rk k hA,m7]
 generalize oO ks=l at f2 nd n60 hm eo
 rw [Jz,JH] at f2;obtain ⟨s',I,e⟩:=zdi (c:=aj P0 d) (h:=st.g++ [.dict (Qa 0) []]) (tg:=[6]) (many:=Qb) (e:=.call (.lit (.bi 126922498794852)) [.var 4]) (b:=SF) (vs:=l.map kJ.v) (a:=st.g.length+1) (yt X st) (UR st l) (λi s=>s.es=pP X.W (l.take i)) ⟨Qa 0,[],st.b,Qd⟩
  (by rw [Jt];exact Jq n60 (by decide)) rfl (λi s2 _=>pH (j:=1)) (by exact lR (.p f2<| .z (cv (.ref (st.g.length+1)) (st.g++ [.dict (Qa 0) [],.list (l.map kJ.v)]))) (by kernel_rfl)) rfl λi v s2 R' R1 hv I T=>Nr hd O P hb nd n60 hm hv I T
 rw [Jt,Zg] at I;exact ⟨s',l,⟨l,I,eo⟩,e⟩
abbrev gN (X:PX R):QS R:=⟨Ws kJ ([],[]) X.h X.M,dj (T:=kJ) (λ_=>Qd) ([],[]) (Qa (X.h.length+1)),dj (T:=kJ) (λ_=>l6 R X.M.ab.length) ([],[]) (uU X.M),1,Qd,Qd,Qd,Qd,Qd,Qd⟩
def M9 {M:Mc R.α} (hs:M.start<M.ab.length):uU M=nP (l6 R M.ab.length) M.start M.first:=by
 delta uU nP l6;rw [KI,if_pos hs];show _=qbb _ _ (R.add R.zero M.first);rw [R.zero_add]
def iM (O:ml X) (eD:X.D=X.h.length+2) (h0:(([],[]):WW)∈X.cs) (eW: ∀t∈X.cs,X.W t=R.mul X.M.first (Bv X.M t.1 t.2 0 0 X.M.start)):PT X (qa 0) (bs X 0) (gN X):=by
 have z: ∀ {p k:Nat},R.D p k R.zero:=R.ai (JJ _) (JJ _) R.cj;refine ⟨by rw [eD];exact FW rfl,Jv _ _,λk _ x hx=>?_,λk hk=>absurd hk (Zh _),λk a h=>?_,⟨([],[]),X.h.length+1,(kO (T:=kJ):dj (T:=kJ) (λ_=>Qd) ([],[]) (Qa (X.h.length+1)) ([],[])=_)⟩,λt ht=>?_⟩
 ·have hx:x∈dj (T:=kJ) (λ_=>l6 R X.M.ab.length) ([],[]) (uU X.M) k:=hx
  by_cases e:k=([],[])
  ·subst e
   rw [kO (T:=kJ)] at hx;rcases Kj hx with hx|rfl
   ·simp only [Zk hx];exact z
   ·exact R.ai (Jq (Jq (Jv _ _) O.pp) (JM (qat X.p).symm)) (Zp (Jq (Jq (Jv _ _) O.kk) (JM (qat X.k).symm))) O.G.fst
  ·rw [kU e] at hx
   simp only [Zk hx];exact z
 ·have h:dj (T:=kJ) (λ_=>Qd) ([],[]) (Qa (X.h.length+1)) k=Qa a:=h
  by_cases e:k=([],[])
  ·exact e▸h0
  ·rw [kU e] at h;cases h
 ·rw [xH (Zh _),R.add_zero]
  show sU (T:=kJ) X.cs (qa 0) (Bt X.M t) (dj (T:=kJ) (λ_=>l6 R X.M.ab.length) ([],[]) (uU X.M))=_;rw [M9 O.G.st];refine (xY (T:=kJ) (V:=λ_=>l6 R X.M.ab.length) O.nd h0 (Zh _) (by rw [(zlen:(l6 R X.M.ab.length).length=X.M.ab.length)];exact O.G.st)).trans ?_;rw [uI (T:=kJ) λc _ _=>m7,R.add_zero,eW t ht];rfl
structure f7 (R:Rg) (h g:MH) (v:aa) (W:WW->R.α) (cs:List WW):Prop where
 pre: ∃t,g=h++t
 v: ∃a ep es,v= .ref a/\g[a]?=Qa (.dict ep es)/\yL W cs es
def Ld {g:MH} (hd:7<=d) (O:ml X) (V:xg X) (C:X.cs.length<=60) (eg:g=X.h) (eD:X.D=X.h.length+2) (h0:(([],[]):WW)∈X.cs) (eW: ∀t∈X.cs,X.W t=R.mul X.M.first (Bv X.M t.1 t.2 0 0 X.M.start))
  (q: ∀g' v,f7 R X.h g' v X.W X.cs->Q v g'):cz (aj P0 d) (m8.drop 4) (Qa (.ref X.L.m)::Qa (.int X.N)::Qa (.ah (112+R.i))::Qa X.ov::nn 14) g (Internal.Fin Q):=by
 subst eg;refine xEAA (Ss (Jq (by decide) hd) O V C (iM O eD h0 eW)) λs P k e=>?_;refine xEEA (Nk (d:=d) (Jq (by decide) hd) O C P (Z9 _ _)) λs2 l I e2=>?_;have f2:lZ (X.h++ [ae.list [R.e R.zero],.list (((l6 R X.M.ab.length).set X.M.start X.M.first).map R.e)]) (.dict (Qa 1) [(kJ.v ([],[]),.ref (X.h.length+1))])=Qa (.ref X.D,Ws kJ ([],[]) X.h X.M):=by
  delta lZ Ws uU;rw [JH,eD,Jz];rfl
 rw [(k:s.k=Qd)] at e;exact lJ (.p (fn (P:=P0) (d:=d) (h:=X.h) rfl (LN (Q:=λv g=>v=_/\g=_) (Jq (by decide) hd) O.I O.G.st ⟨rfl,rfl⟩))<| .p f2<| .s e<| .c<| .s e2<| .z (q _ _ ⟨P.rw'.pre.elim λt h=>⟨t++ [.dict s2.ep s2.es,.list (l.map kJ.v)],by rw [<-JH,<-h]⟩,s.g.length,s2.ep,s2.es,rfl,pH (h:=s.g) (j:=0) (t:=[.dict s2.ep s2.es,.list (l.map kJ.v)]),I⟩:Q (.ref s.g.length) (UR s l s2))) (by kernel_rfl)
end
section
variable {R:Rg}{d:Nat}{h g:MH}{L:Ly}{M T:Mc R.α}
abbrev pX (g:MH) (L:Ly) (T:Mc R.α) (N:Nat) (ov:aa) (p k p1 k1 pS kS:Nat) (cs:List WW) (W:WW->R.α):PX R:=⟨g,L,T,N,g.length+2,ov,p,k,p1,k1,pS,kS,cs,W⟩
def SD {g0:MH}{L':Ly}{N pW kW p1 k1 p pS kS K aT:Nat}{S:List (DR R)}{cs:List WW}{W:WW->R.α} (H:Vn T) (O:lq (sX g aT T p K)) (Z:Ax (sX g aT T p K) g0 S) (h1:p*T.ab.length<=pS) (h2:K*T.ab.length+T.ab.length+1+T.ab.length<=kS):
  xg (pX g0 L' T N (.ref g.length) pW kW p1 k1 pS kS cs W):=by
 refine ⟨.inr ⟨_,rfl⟩,(λe=>nomatch e),λaT' e {d P K' aR g1 row} hd hg hR hl hD hb=>?_⟩;have e:g.length=aT':=by
  injection (e:aa.ref g.length= .ref aT')
 refine eqE e ?_;obtain ⟨t,rfl⟩:=hg;obtain ⟨v,g',e,t2,a,row',rfl,rfl,q⟩:=Internal.W.get (nX (P:=P0) (d:=d) rfl (wL (X:=sX g aT T p K) (T:=S) (P:=P) (K:=K') (Q:=λv g'=> ∃t2 a row',v= .ref a/\g'=g0++t++t2/\zdG (pX g0 L' T N (.ref g.length) pW kW p1 k1 pS kS cs W) (g0++t) t2 a P K' row row') hd ⟨O,hR,hl,hD,Z.tb.r.cw,Z.len,Z.row,by
  exact Jq (JL (JK 4 (Jw h1 P)) (Jq (JM (Zf _ _ _)) (Jw h2 K'))) hb⟩ λt2 V a1 a2 a3 a4=>⟨t2,_,V,rfl,rfl,Zw _,a1,a2,λx hx=>R.ai (Jw h1 P) (by
   exact Jq (JM (Zf _ _ _)) (JL (JA _) h2)) (a3 x hx),λu l i j hi hj=>(a4 _ _ (Rk H hi hj)).symm⟩))
 exact ⟨t2,a,row',e,q⟩
theorem SE {g0:MH}{L':Ly}{N pW kW p1 k1 pS kS:Nat}{cs:List WW}{W:WW->R.α} (H:Vn T) (hE:Wj T):xg (pX g0 L' T N .none pW kW p1 k1 pS kS cs W):=
 ⟨.inl rfl,λ_ row _ u l i j hi hj=>sE λs _ _=>by
  rw [IV H hi hj,vX,Up λa ha=>Ug hE ha,R.add_zero],λaT e=>nomatch e⟩
end
section
variable {R:Rg}{d:Nat}{h g:MH}{L:Ly}{M:Mc R.α}{us:List (List Nat)}
def d8:List (List Nat):= [[],[97],[97,97],[97,98],[98],[98,97],[98,98]]
def ng:List WW:=d8.flatMap λu=>d8.map λl=>(u,l)
def Gf:ng.length=49/\ng.Nodup/\(∀k∈ng,k.1.length<=2/\k.2.length<=2)/\(([],[]):WW)∈ng:=by decide+kernel
def zaW: ∀k∈ng,∀u∈lm,∀l∈lm,max (k.1.length+u.length) (k.2.length+l.length)<=2->(k.1++u,k.2++l)∈ng:=by decide+kernel
structure fY (us:List (List Nat)) (M:Mc R.α) (h t:MH) (L':Ly) (T:Mc R.α):Prop where
 J:aq R (h++t) L' T
 Z:v9 us T
 w: ∀u l,pf T u l=pf M u l
 n:T.ab.length<=M.ab.length
 tr: ∃ks mb1 mb2 bb,yK M ks mb1 mb2 bb/\oJ M ks T
def zbL {ks:List Nat}{T:Mc R.α} (Z:v9 us M) (TR:oJ M ks T): ∀ys∈T.ab,∀a∈ys,a.up∈us/\a.lo∈lm:=by
 intro ys hy a ha;cases TR with
 |ny h1 h2 ea he hs hf=>
  rw [ea] at hy;refine xEA (JO.mp hy) λk _ dh=>?_;subst dh;refine xEA (List.mem_filterMap.mp ha) λb hb e=>?_;refine xEAA (nS hb) λzs _ hz hb=>?_
  have:=Z.us zs hz b hb
  by_cases q:b.t∈ks
  ·rw [if_pos q] at e;refine mP e ?_;exact this
  ·rw [if_neg q] at e;cases e
 |mh h1 ea he hs hf=>
  rw [ea] at hy;rw [JG.mp hy] at ha;exact absurd ha JB
def FH (hd:6<=d) (I:aq R h L M) (Z:v9 us M): ∃t L' T,kT (aj P0 d) (.ah 133) [.ref L.m] h=Qa (.ref L'.m,h++t)/\fY us M h t L' T:=by
 obtain ⟨v,g,e,t,L',T,rfl,rfl,q⟩:=W.get (nX (P:=P0) rfl (Ds (Q:=λv g=> ∃t L' T,v= .ref L'.m/\g=h++t/\fY us M h t L' T) hd I Z.g λt L' T ks mb1 mb2 bb J ho TB TR=>by
  have TG:=V5 I Z.g TB TR J;exact ⟨t,L',T,rfl,rfl,J,⟨TG.g,TG.up Z.up,Jq TG.len Z.n,Jq TG.bq Z.c,zbL Z TR⟩,λu l=>yM I Z.g TB TR (Z.g.fc Z.up) (TG.g.fc (TG.up Z.up)),TG.len,ks,mb1,mb2,bb,TB,TR⟩))
 exact ⟨t,L',T,e,q⟩
def zcu: ∀n,n<5-> ∀c,c<8->1+c<=8/\1*n<=4/\8*n+n+1+n<=41/\4*(1*n)+(8*n+n+1)<=3800/\1+49*(c+1)<20000/\4*(5*(2*2+2))+(42*(2*2+2)+(1+49*(c+1)+n))<=3800:=by decide+kernel
def zcc {g:MH}{L':Ly}{T:Mc R.α}{ov:aa}{W:WW->R.α} (hu: ∀u∈us,u∈lm) (J:aq R g L' T) (Z:v9 us T):ml (pX g L' T 2 ov 5 42 1 1 4 41 ng W):=by
 have b:=zcu T.ab.length (JX Z.n) T.bq (JX Z.c);have l:=Gf;refine ⟨J,Z.g,(by decide:1+4<=5),(by decide:1+41<=42),?_,(by decide:2<=200),?_,l.2.1,l.2.2.1,λk hk ys hy a ha hb=>?_⟩
 ·show 1+ng.length*(T.bq+1)<20000
  rw [l.1];exact b.2.2.2.2.1
 ·show 4*(5*(2*2+2))+(42*(2*2+2)+(1+ng.length*(T.bq+1)+T.ab.length))<=3800
  rw [l.1];exact b.2.2.2.2.2
 ·exact zaW k hk _ (hu _ (Z.us ys hy a ha).1) _ (Z.us ys hy a ha).2 (of_decide_eq_true (Jr.mp hb).2)
end
section
variable {R:Rg}{d:Nat}{h:MH}{L:Ly}{M:Mc R.α}{us:List (List Nat)}
theorem Cs {us:List (List Nat)} (Z:v9 us M):Vn M:=Z.g.fc Z.up
abbrev Wt (M:Mc R.α) (k:WW):R.α:=pf M k.1 k.2
structure v7 (M:Mc R.α) (h g:MH) (a:Nat):Prop where
 pre: ∃t,g=h++t
 at': ∃ep es,g[a]?=Qa (.dict ep es)/\yL (Wt M) ng es
theorem v7.of {M:Mc R.α}{h0 h g:MH}{v:aa} (p: ∃t,h=h0++t) (P:f7 R h g v (Wt M) ng): ∃a,v= .ref a/\v7 M h0 g a:=P.v.elim λa e=>e.elim λep e=>e.elim λes q=>⟨a,q.1,p.elim λt e=>P.pre.elim λs f=>⟨t++s,by rw [f,e,JH]⟩,ep,es,q.2⟩
def zdr:ng.length<=60:=by rw [Gf.1];decide
def Wb (hd:10<=d) (ne:R.dz≠R.zero) (hu: ∀u∈us,u∈lm) (I:aq R h L M) (Z:v9 us M): ∃a g,kT (aj P0 d) (.ah 141) [.ref L.m,.int 2] h=Qa (.ref a,g)/\v7 M h g a:=by
 have w:WF P0 d 141 [.ref L.m,.int 2] h λv g=> ∃a,v= .ref a/\v7 M h g a:=by
  refine l0 (K:=9) hd (Qa (.ref L.m)::Qa (.int 2)::nn 16) m8 rfl λd' h'=>?_;refine (FH (d:=d') (Jq (by decide) h') I Z).elim λt c=>c.elim λL' c=>c.elim λT c=>?_;have C:=c.2;have B:=zcu T.ab.length (JX C.Z.n) T.bq (JX C.Z.c);refine (CW (d:=d') (K:=8) (p:=1) (k:=1) (Jq (by decide) h') C.J C.Z.g C.Z.up ne (Jq C.Z.n (by decide)) B.1 B.2.2.2.1 (by decide)).elim λov e=>e.elim λg e=>?_;have tail:cz (aj P0 d') (m8.drop 4) (Qa (.ref L'.m)::Qa (.int 2)::Qa (.ah (112+R.i))::Qa ov::nn 14) g (Internal.Fin λv g=> ∃a,v= .ref a/\v7 M h g a):=by
   have eW: ∀k∈ng,Wt M k=R.mul T.first (Bv T k.1 k.2 0 0 T.start):=λk _=>(C.w k.1 k.2).symm;cases e.2 with
   |no hE hv hg=>
    rw [hv,hg];exact Ld (X:=pX (h++t) L' T 2 .none 5 42 1 1 4 41 ng (Wt M)) (Jq (by decide) h') (zcc hu C.J C.Z) (SE (Cs C.Z) hE) zdr rfl rfl Gf.2.2.2 eW λg' v P=>v7.of ⟨t,rfl⟩ P
   |so t1 t2 S SS hv hg=>
    rw [hv,hg];exact Ld (X:=pX (h++t++t1++t2) L' T 2 (.ref (h++t++t1).length) 5 42 1 1 4 41 ng (Wt M)) (Jq (by decide) h') (zcc hu C.J.cw.cw C.Z) (SD (Cs C.Z) (Bi C.J C.Z.g C.Z.up (Jq C.Z.n (by decide)) B.1 B.2.2.2.1) SS B.2.1 B.2.2.1) zdr rfl rfl Gf.2.2.2 eW λg' v P=>v7.of ⟨t++t1++t2,by simp only [JH]⟩ P
  exact nJ (a:=m8.take 4) (b:=m8.drop 4) (lJ (.p (fn (P:=P0) (d:=d') (h:=h) rfl (D3 (a:=2) (b:=0) (c:=200) (x:=.str [108,101,110,103,116,104]) (Jq (by decide) h') (by decide) (by decide) (cv _ _)))<| .v (nO I)<| .p c.1<| .p e.1<| .z (nL tail)) (by kernel_rfl))
 refine xEEA (W.get (nX (P:=P0) rfl w)) λv g e dh=>?_;refine xEA dh λa gd P=>?_;subst gd;exact ⟨a,g,e,P⟩
end
section
variable {R:Rg}{h:MH}{L:Ly}{M T:Mc R.α}
structure zdC (T:Mc R.α):Prop where
 f: ∀S:Nat->Prop,S T.start->(∀s,S s-> ∀a∈bx T s,S a.t) -> ∀i,i<T.ab.length->S i
 b:T.ab.length≠1-> ∀S:Nat->Prop,(∀s,s<T.ab.length->qI T s=Qf->S s) ->(∀s,s<T.ab.length->(∃a∈bx T s,S a.t) ->S s) -> ∀i,i<T.ab.length->S i
def zdU {ks:List Nat}{mb1 mb2:List Bool}{bb:List (List Nat)} (I:aq R h L M) (ht: ∀ys∈M.ab,∀a∈ys,a.t<M.ab.length) (TB:yK M ks mb1 mb2 bb) (TR:oJ M ks T):zdC T:=by
 cases TR with
 |mh h1 ha he hs hf=>
  refine ⟨λS s0 _ i hi=>?_,λn=>absurd (by rw [ha];rfl) n⟩;rw [ha] at hi;rw [hs] at s0;exact Nat.lt_one_iff.mp hi▸s0
 |ny h1 h2 ha he hs hf=>
  have nk:ks.Nodup:=by rw [TB.ks];exact uJ
  have km: ∀ {k},k∈ks ↔ mb1[k]?=Qa Qf/\mb2[k]?=Qa true:=λ{k} =>by
   rw [TB.ks]
   constructor
   ·intro q
    have:=Jr.mp (nR q).2
    have y: ∀ {o:Option Bool},o.getD Qb=Qf->o=Qa true:=λ{o} e=>by
     cases o with
     |none=>exact JI e
     |some b=>exact congrArg Qa e
    exact ⟨y this.1,y this.2⟩
   ·exact λq=>Zx.mpr ⟨ZL.mpr (by rw [<-TB.l1];exact kP q.1),by rw [q.1,q.2];rfl⟩
  have ix: ∀ {k},k∈ks->ks[ks.idxOf k]?=Qa k/\ks.idxOf k<T.ab.length:=λ{k} hk=>by
   have:=ZU.mpr hk
   exact ⟨by rw [Js this,YJ this],by rw [ha,Jt];exact this⟩
  have fv: ∀ {s:Nat}{b:Ar R.α},s∈ks->b∈bx M s->b.t∈ks-> ∃a∈bx T (ks.idxOf s),a.t=ks.idxOf b.t:=λ{s b} hk hb hbt=>by
   refine ⟨{b with t:=ks.idxOf b.t},?_,rfl⟩;rw [Gm (M:=T) (by rw [ha,JC,(ix hk).1];rfl)];exact List.mem_filterMap.mpr ⟨b,hb,if_pos hbt⟩
  have all: ∀ {S:Nat->Prop},(∀k,k∈ks->S (ks.idxOf k)) -> ∀i,i<T.ab.length->S i:=λ{S} H i hi=>by
   have hi:i<ks.length:=by rw [ha,Jt] at hi;exact hi
   have:=H ks[i] (ZA hi)
   rw [nk.idxOf_getElem] at this;exact this
  have bk: ∀ {s o:Nat}{b:Ar R.α},b∈bx M s->b.t=o->mb2[o]?=Qa Qf->mb2[s]?=Qa true:=λ{s o b} hb e q=>by
   refine xEAA (nS hb) λys hy hm hb=>?_;have ho:o<bb.length:=by rw [TB.b2.len,<-e];exact ht ys hm b hb
   exact TB.c2 o bb[o] q (Js ho) s ((TB.b2.mem o _ (Js ho) s).mpr ⟨ys,hy,.inl ⟨kP hy,b,hb,e⟩⟩)
  refine ⟨λS s0 cl=>all λk hk=>?_,λ_ S es cl=>all λk hk=>?_⟩
  ·refine (TB.m1.oz (λk=>mb1[k]?=Qa Qf/\(k∈ks->S (ks.idxOf k))) (λs hs'=>⟨TB.m1.first s hs',λ_=>?_⟩) (λs xs P hx o ho=>⟨TB.c1 s xs P.1 hx o ho,λhk=>?_⟩) k (km.mp hk).1).2 hk
   ·rw [JG.mp hs',<-hs];exact s0
   ·unfold uy at hx
    rw [JC] at hx;refine xEA (Zl.mp hx) λys hy dh=>?_;subst dh;refine xEA (JO.mp ho) λb hb e=>?_;have hb:b∈bx M s:=by rw [Gm hy];exact hb
    have hs':s∈ks:=km.mpr ⟨P.1,bk hb e (km.mp hk).2⟩;refine xEA (fv hs' hb (e▸hk)) λa ha' e'=>?_
    have:=cl _ (P.2 hs') a ha'
    rw [e',e] at this;exact this
  ·refine (TB.m2.oz (λk=>mb2[k]?=Qa Qf/\(k∈ks->S (ks.idxOf k))) (λs hs'=>⟨TB.m2.first s hs',λhk=>es _ (ix hk).2 ?_⟩) (λs xs P hx o ho=>⟨TB.c2 s xs P.1 hx o ho,λhk=>?_⟩) k (km.mp hk).2).2 hk
   ·have e:T.ar[ks.idxOf s]?.getD R.zero=M.ar[s]?.getD R.zero:=by rw [he,JC,(ix hk).1];rfl
    delta qI;rw [e];exact (nR hs').2
   ·obtain ⟨ys,hy,q⟩:=(TB.b2.mem s xs hx o).mp ho
    refine xEA (q.elim (λq=>q.2) λq=>q.2.elim λb q=>⟨b,Kw q.1,q.2⟩) λb hb e=>?_;have hb':b∈bx M o:=by rw [Gm hy];exact hb
    have hs':s∈ks:=km.mpr ⟨TB.c1 o _ (km.mp hk).1 (by unfold uy;rw [JC,hy];rfl) s (JO.mpr ⟨b,hb,e⟩),P.1⟩;refine xEA (fv hk hb' (e.symm▸hs')) λa ha' e'=>?_;exact cl _ (ix hk).2 ⟨a,ha',by rw [e',e];exact P.2 hs'⟩
end
end Tactic
namespace Internal
section
variable {c:Cx}{fr:Frame}{h:MH}{R:Fl->Frame->MH->Prop}{σ:Type}
def Om {next:Nat->MH->Option (Option aa)}{bd:Frame->aa->Option Frame}{b:Frame->MH->SR} (N:Nat) (I:Nat->Frame->MH->Prop)
  (step: ∀i fr h,I i fr h->Wo (next i h) λov=>JF (motive:=λ_=>Prop) ov (R .nx fr h) λv=>i<N/\Wo (bd fr v) λfr1=>W (b fr1 h) λp h'=>L9 (I (i+1)) R p.1 p.2 h'): ∀ (m i fu:Nat),N<=i+m->m<fu-> ∀fr h,I i fr h->W (yT next bd b fu i fr h) λp h=>R p.1 p.2 h:=by
 intro m
 induction m with
 |zero=>
  intro i fu hi hf fr h I0;obtain ⟨fu,rfl⟩:=ZS hf;refine sI ((step i fr h I0).mono λov q=>?_);cases ov with
  |none=>exact ⟨q⟩
  |some v=>exact absurd q.1 (ZX.mpr hi)
 |succ m ih=>
  intro i fu hi hf fr h I0;obtain ⟨fu,rfl⟩:=ZS (Jx (JJ _) hf);refine sI ((step i fr h I0).mono λov q=>?_);cases ov with
  |none=>exact ⟨q⟩
  |some v=>
   refine sI (Wo.mono q.2 λfr1 q=>aw (W.mono q λp h2 q=>?_));obtain ⟨fl,f2⟩:=p;cases fl with
   |nx=>exact ih (i+1) _ (Jq hi (JM (Ya i m).symm)) (Z4 hf) f2 h2 q
   |ct=>exact ih (i+1) _ (Jq hi (JM (Ya i m).symm)) (Z4 hf) f2 h2 q
   |bk=>exact ⟨q⟩
   |rt v=>exact ⟨q⟩
def jY {x a:Nat}{e:Ex}{b:List Sm} (F:σ->Frame) (G:σ->MH) (xs:σ->List Nat) (P:Nat->σ->Prop) (N:Nat) (s0:σ) (hN:N<c.cu)
  (hk: ∀i s,P i s->(G s)[a]?=Qa (.list (bf (xs s)))/\(xs s).length<=N) (e0:WE c (F s0) e (G s0) λv g=>v= .ref a/\g=G s0) (p0:P 0 s0)
  (step: ∀i v s R' R,(xs s)[i]?=Qa v->P i s->To F G (P (i+1)) R R'->cz c b ((F s).set x (Qa (.int v))) (G s) R'): ∃s i,P i s/\(xs s).length<=i/\exec c (.fo [x] Qb e b) (F s0) (G s0)=Qa ((.nx,F s),G s):=by
 have w:WS c (.fo [x] Qb e b) (F s0) (G s0) λfl f g=> ∃s i,P i s/\(xs s).length<=i/\fl= .nx/\f=F s/\g=G s:=by
  show W (cb (eval c e (F s0) (G s0)) λv h1=>(pF h1 v).bind λk=>yT (λi h=>mJ h i k) (λfr v=>oX fr [x] Qb v) (λfr h=>execs c b fr h) c.cu 0 (F s0) h1) λp h=>_;refine aw (W.mono e0 λv h1 q=>?_);obtain ⟨rfl,rfl⟩:=q;rw [xB (hk 0 s0 p0).1];refine Om (R:=λfl f g=> ∃s i,P i s/\(xs s).length<=i/\fl=Fl.nx/\f=F s/\g=G s) N (λi=>ol F G (P i)) (λi fr h hI=>?_) N 0 c.cu (JM (Z3 N).symm) hN _ _ (ol.of s0 p0);obtain ⟨s,rfl,rfl,hp⟩:=hI.x;rw [wQ (hk i s hp).1];delta bf;rw [JC];refine DW ((xs s)[i]?) (λhv=>?_) λv hv=>?_
  ·rw [hv]
   exact ⟨s,i,hp,Z0.mp hv,rfl,rfl,rfl⟩
  ·rw [hv]
   exact ⟨Jy (kP hv) (hk i s hp).2,mT (step i v s _ _ hv hp UB)⟩
 refine xEEA (W.get w) λzg36 g e zg37=>?_;refine xEEAAA zg37 λs i hp hi q1 zg38=>?_;refine xA zg38 λq2 q3=>?_;obtain ⟨fl,f⟩:=zg36;refine eqE q1 ?_;subst q2;subst q3;exact ⟨s,i,hp,hi,e⟩
end
end Internal
namespace Tactic
open Internal
section
variable {R:Rg}{d:Nat}{g:MH}{us:List (List Nat)}
structure VX (R:Rg) where
 g0:MH
 ns:List Int
 M:Mc R.α
 L:Ly
 T:Mc R.α
 K:Ly
structure VO (us:List (List Nat)) (X:VX R):Prop where
 ne:R.dz≠R.zero
 I:aq R X.g0 X.L X.M
 Z:v9 us X.M
 J:aq R X.g0 X.K X.T
 ZT:v9 us X.T
 w: ∀u l,pf X.T u l=pf X.M u l
 n:X.T.ab.length<=X.M.ab.length
 td:zdC X.T
abbrev vF (X:VX R) (a b c e f i j k:Option aa):Internal.Frame:=Qa (.fl (X.ns.map .int))::Qa (.ah (112+R.i))::Qa (.ref X.L.m)::Qa (.ref X.K.m)::a::b::c::e::f::i::j::k::nn 6
structure VS where
 ms:List Nat
 a:Option aa:=Qd
 b:Option aa:=Qd
theorem eU {k:Nat}: [k].Nodup:=JN.mpr ⟨JB,.nil⟩
structure pe (n:Nat) (l:List Nat):Prop where
 nd:l.Nodup
 lt: ∀x∈l,x<n
def pe.uc {n:Nat}{l:List Nat} (H:pe n l):(l++m5 (λk=>!decide (k∈l)) n).Perm (JW n):=by
 refine (List.perm_ext_iff_of_nodup (ZR.mpr ⟨H.nd,uJ,λa ha b hb e=>?_⟩) Xb).mpr λk=>?_
 ·have:=(nR hb).2
  rw [<-e,decide_eq_true ha] at this;exact JI this
 ·rw [J4,ZL]
  refine ⟨λq=>q.elim (H.lt k) λq=>(nR q).1,λq=>?_⟩;by_cases h:k∈l
  ·exact .inl h
  ·exact .inr (Zx.mpr ⟨ZL.mpr q,by rw [decide_eq_false h];rfl⟩)
def pe.le {n:Nat}{l:List Nat} (H:pe n l):l.length<=n:=by
 have:=H.uc.length_eq
 rw [Jz,J9] at this;exact this▸Jv _ _
def pe.all {n:Nat}{l:List Nat} (H:pe n l) (h: ∀i,i<n->i∈l):l.Perm (JW n):=by
 have e:m5 (λk=>!decide (k∈l)) n= []:=List.filter_eq_nil_iff.mpr λk hk=>by rw [decide_eq_true (h k (ZL.mp hk))];exact Zn
 have:=H.uc
 rwa [e,Zv] at this
theorem pe.ny {n:Nat}{l:List Nat} (H:pe n l) (h:n<=l.length): ∀i,i<n->i∈l:=λi hi=>by
 have e:=H.uc.length_eq;rw [Jz,J9] at e
 have:=H.uc
 rw [(Zy.mp (Xy.mp (Nat.le_of_add_le_add_left (Jq (JM e) h))):m5 (λk=>!decide (k∈l)) n= []),Zv] at this;exact this.mem_iff.mpr (ZL.mpr hi)
theorem pe.lr {n k:Nat}{l:List Nat} (H:pe n l) (h:k∉l) (hk:k<n):pe n (l++ [k]):=
 ⟨ZR.mpr ⟨H.nd,eU,λa ha b hb e=>h (by rw [<-JG.mp hb,<-e];exact ha)⟩,λx hx=>(J4.mp hx).elim (H.lt x) λq=>JG.mp q▸hk⟩
structure yc (T:Mc R.α) (i:Nat) (x j:Nat) (s:VS):Prop where
 nd:pe T.ab.length s.ms
 st:T.start∈s.ms
 cl: ∀ (k:Nat) y,k<i->s.ms[k]?=Qa y-> ∀a∈bx T y,a.t∈s.ms
 at':j≠0->s.ms[i]?=Qa x
 in': ∀a∈(bx T x).take j,a.t∈s.ms
variable {X:VX R}
abbrev ku (g:MH) (s:VS):MH:=g++ [.list (bf s.ms)]
abbrev wo (X:VX R) (g:MH) (s:VS):Internal.Frame:=vF X (Qa (.ref g.length)) s.a s.b Qd Qd Qd Qd Qd
abbrev eZ:List Sm:= [.ite (.ba .fy (.af (.var 6) mH) (.var 4)) [.expr (.ao (.var 4) ew [.af (.var 6) mH])] []]
abbrev cR:Sm:= .fo [6] Qb (.sub (.af (.var 3) lV) (.var 5)) eZ
theorem zao {T:Mc R.α}{h:MH}{L:Ly} (I:aq R h L T) {l:List Nat} (H:pe T.ab.length l):l.length<200000:=Jx (Jq H.le (y7 I)) (by decide)
def zan {i x:Nat}{s:VS} (O:VO us X) (hd:1<=d) (pre: ∃t,g=X.g0++t) (hx:s.ms[i]?=Qa x) (P:yc X.T i x 0 s):
  ∃s',yc X.T (i+1) 0 0 s'/\exec (aj P0 d) cR (wo X g {s with a:=Qa (.int x)}) (ku g s)=Qa ((.nx,wo X g {s' with a:=Qa (.int x)}),ku g s'):=by
 have J:aq R g X.K X.T:=pre.elim λt e=>e▸O.J.cw;refine xEEAA (J.nj (P.nd.lt x (Ju hx))) λr as hr H hm=>?_;refine (sg (c:=aj P0 d) (tg:=[6]) (many:=Qb) (a:=r) (e:=.sub (.af (.var 3) lV) (.var 5)) (b:=eZ) (vs:=as.map .ref) (λs:VS=>wo X g {s with a:=Qa (.int x)}) (ku g) (λj s=>yc X.T i x j s/\s.ms[i]?=Qa x) s (H.le J hm) rfl (λj s P=>kI H.l) (by exact lR (.v (pI (J.cw (t:=[.list (bf s.ms)])))<| .v (sl (J.cw (t:=[.list (bf s.ms)])).ab hr)<| .z (cv (.ref r) (ku g s))) rfl) ⟨P,hx⟩ λj v s Y _ hv P T=>?_).elim λs' q=>⟨s',⟨q.1.1.nd,q.1.1.st,λk y hk hy a ha=>?_,λh=>absurd rfl h,λa ha=>absurd ha JB⟩,q.2⟩
 ·obtain ⟨b,z,rfl,hz,hb⟩:=H.a j v hv
  refine mT ?_;refine vY (!decide (z.t∈s.ms)) (λhq=>?_) λhq=>?_
  ·have f1:=zbh (aj P0 d) z.t (ap:(ku g s)[g.length]?=Qa (.list (bf s.ms))) (Zm (zao J P.1.nd) (by decide))
   rw [rS] at f1;have ip:=(λ{k y} e=>by rw [ZP (kP e)];exact e: ∀ {k y:Nat},s.ms[k]?=Qa y->(s.ms++ [z.t])[k]?=Qa y) P.2;exact lJ (.v (qr (kI (t:=[.list (bf s.ms)]) hb))<| .b ((Er z.t ap))<| .t (hq)<| .v (qr (kI (t:=[.list (bf s.ms)]) hb))<| .p (f1)<| .z (T.nx ⟨s.ms++ [z.t],s.a,Qa (.ref b)⟩ (⟨⟨P.1.nd.lr (of_decide_eq_false ((YP ..).mp hq):z.t∉s.ms) (O.ZT.g.fv _ hm z (Ju hz)).1,Zj _ P.1.st,λk y hk hy a ha=>Zj _ (P.1.cl k y hk (by rwa [ZP (Zm hk (kP P.2))] at hy) a ha),λ_=>ip,λa ha=>by rw [(wJ hz)] at ha;exact J4.mpr ((J4.mp ha).imp (P.1.in' a) λq=>by rw [JG.mp q];exact .head _)⟩,ip⟩:yc X.T i x (j+1) ⟨s.ms++ [z.t],s.a,Qa (.ref b)⟩/\(s.ms++ [z.t])[i]?=Qa x))) rfl
  ·have N:yc X.T i x (j+1) {s with b:=Qa (.ref b)} /\s.ms[i]?=Qa x:=⟨⟨P.1.nd,P.1.st,P.1.cl,λ_=>P.2,λa ha=>by rw [(wJ hz)] at ha;exact (J4.mp ha).elim (P.1.in' a) λq=>JG.mp q▸(of_decide_eq_true ((Bool.not_eq_false' ..).mp hq):z.t∈s.ms)⟩,P.2⟩
   exact lJ (.v (qr (kI (t:=[.list (bf s.ms)]) hb))<| .b ((Er z.t ap))<| .f (hq)<| .z (T.nx {s with b:=Qa (.ref b)} N)) rfl
 ·refine (KW (Ze hk)).elim (λhk=>?_) λgI=>?_
  ·exact q.1.1.cl k y hk hy a ha
  ·cases gI
   have e:=q.1.2;rw [hy] at e;cases e;exact q.1.1.in' a (by rw [H.n,Zg];exact ha)
def Of (O:VO us X) (hd:1<=d) (pre: ∃t,g=X.g0++t): ∃s:VS,s.ms.length=X.T.ab.length/\exec (aj P0 d) (.fo [5] Qb (.var 4) [cR]) (wo X g ⟨[X.T.start],Qd,Qd⟩) (ku g ⟨[X.T.start],Qd,Qd⟩)=Qa ((.nx,wo X g s),ku g s):=by
 obtain ⟨s,i,P,hi,e⟩:=jY (c:=aj P0 d) (x:=5) (a:=g.length) (e:=.var 4) (b:=[cR]) (wo X g) (ku g) VS.ms (λi s=>yc X.T i 0 0 s) X.T.ab.length ⟨[X.T.start],Qd,Qd⟩ (Jx (y7 (pre.elim λt e=>e▸O.J.cw:aq R g X.K X.T)) (by show 100000<200000;decide)) (λi s P=>⟨ap,P.nd.le⟩) (vK rfl (cv (.ref g.length) (ku g ⟨[X.T.start],Qd,Qd⟩))) ⟨⟨eU,λx hx=>JG.mp hx▸O.ZT.g.st⟩,.head _,λk y hk=>absurd hk (Zh _),λh=>absurd rfl h,λa ha=>absurd ha JB⟩ λi v s R' R1 hv P T=>by
  refine xEA (zan (d:=d) (s:=s) O hd pre hv ⟨P.nd,P.st,P.cl,λh=>absurd rfl h,λa ha=>absurd ha JB⟩) λs' P' e'=>?_;exact lJ (.s (e')<| .z (T.nx {s' with a:=Qa (.int v)} ⟨P'.nd,P'.st,P'.cl,P'.at',P'.in'⟩)) rfl
 refine ⟨s,?_,e⟩;have al:=O.td.f (· ∈s.ms) P.st λy hy a ha=>by
  refine xE (K1.mp hy) λk hk=>?_;exact P.cl k y (Jy (kP hk) hi) hk a ha
 rw [(P.nd.all al).length_eq,J9]
end
section
variable {R:Rg}{d:Nat}{g:MH}{us:List (List Nat)}{X:VX R}{o4 o5 o6 o8:Option aa}
def FJ {x:Nat}{l:List Nat} (hx:g[x]?=Qa (.list (bf l))):lk g 8 (.ref x)=Qa (.list ((l.map λn:Nat=>ak.i n).map ak.qt)):=by
 show (lG g (.ref x)).bind (λvs=>(vs.mapM (lk g 7)).map PySem.PyData.list)=_;rw [nC hx]
 have:=Wn g 7 (l.map λn:Nat=>ak.i n)
 rw [KO] at this;exact congrArg (qaK PySem.PyData.list) this
def zbH {x y:Nat}{l m:List Nat} (hx:g[x]?=Qa (.list (bf l))) (hy:g[y]?=Qa (.list (bf m))):mn g (.ref x) (.ref y)=Qa (decide ((l.map λn:Nat=>ak.i n)=m.map λn:Nat=>ak.i n)):=by
 show ay ((dictAt g (.ref x)).bind _) ((lk g 8 (.ref x)).bind λp=>(lk g 8 (.ref y)).map λq=>Yg p q)=_;simp only [WY hx,FJ hx,FJ hy];exact congrArg Qa (xI _ _)
theorem zgn {x y:Nat}{l m:List aa} (hx:g[x]?=Qa (.list l)) (hy:g[y]?=Qa (.list m)) (hl:l.length+m.length<=1000000):pJ .add (.ref x) (.ref y) g=Qa (.ref g.length,g++ [.list (l++m)]):=W.eq (Mv hx hy hl (cv _ _))
abbrev G5:Ex:= .call (.lit (.ty 491260897125)) [.ao (.var 3) tG []]
abbrev zgg:Ex:= .comp (.var 12) [12] Qb G5 [.ba .ne (.sub (.af (.var 3) pE) (.var 12)) (.af (.var 1) uK)]
theorem zgh (hd:1<=d) (J:aq R g X.K X.T):eval (aj P0 d) zgg (vF X o4 o5 o6 Qd Qd Qd Qd Qd) g=Qa (.ref g.length,g++ [.list (bf (m5 (qI X.T) X.T.ab.length))]):=
 Ig (qI X.T) (y7 J) rfl (λ_=>rfl) (by exact lR (.p (m9 hd J)<| .c<| .z (cv (.gf X.T.ab.length) g)) rfl) λi hi acc=>by
  exact lR (.v (Wv J.cw)<| .v (sl J.cw.ar (J.og hi))<| .w (R.no)<| .k (R.qn (fw X.T i) R.zero)<| .z (cv (.bool (qI X.T i)) (g++ [.list acc]))) rfl
def uw (T:Mc R.α) (es:List Nat) (k:Nat):Bool:=(bx T k).any λz=>decide (z.t∈es)
abbrev zbg:Ex:= .comp (.lit (.int 1)) [13] Qb (.sub (.af (.var 3) lV) (.var 12)) [.ba .jm (.af (.var 13) mH) (.var 7)]
def Pd {k aE:Nat}{es:List Nat} (J:aq R g X.K X.T) (hk:k<X.T.ab.length) (hE:g[aE]?=Qa (.list (bf es))):
  ∃m,eval (aj P0 d) zbg ((vF X o4 o5 o6 (Qa (.ref aE)) o8 Qd Qd Qd).set 12 (Qa (.int k))) g=Qa (.ref g.length,g++ [.list (bf (JU m 1))])/\(!decide (m=0))=uw X.T es k:=by
 refine xEEAA (J.nj hk) λr as hr H hm=>?_;have ht: ∀ (j:Nat) v,(as.map aa.ref)[j]?=Qa v-> ∃b x,v= .ref b/\(bx X.T k)[j]?=Qa x/\g[b]?=Qa (pB R x)/\(((getAttr P0 g v mH).bind λw=>U2 g w (.ref aE)).getD Qb)=decide (x.t∈es):=λj v hv=>by
  refine xEEAA (H.a j v hv) λb x dh hx hb=>?_;refine eqB dh ?_;exact ⟨b,x,rfl,hx,hb,by rw [qr hb,YY,cW hE];rfl⟩
 refine ⟨((as.map aa.ref).filter λv=>((getAttr P0 g v mH).bind λw=>U2 g w (.ref aE)).getD Qb).length,?_,?_⟩
 ·refine W.eq (Ft r (as.map .ref) (λv=>((getAttr P0 g v mH).bind λw=>U2 g w (.ref aE)).getD Qb) (λ_=> .int 1) (Jx (H.le J hm) (by show 100000<200000;decide)) (Jq (H.le J hm) (by decide)) (W.of (a:=.ref r) (g:=g) (W.eq (by exact lR (.v (pI J)<| .v (sl J.ab hr)<| .z (cv (.ref r) g)) (by kernel_rfl))) ⟨rfl,H.l,λv hv acc=>?_,rfl,?_⟩))
  ·refine xE (K1.mp hv) λj hj=>?_
   refine xEEAAA (ht j v hj) λb x gd hx hb hp=>?_;subst gd;have w:WE (aj P0 d) (((vF X o4 o5 o6 (Qa (.ref aE)) o8 Qd Qd Qd).set 12 (Qa (.int k))).set 13 (Qa (.ref b))) (.ba .jm (.af (.var 13) mH) (.var 7)) (g++ [.list acc]) λv h=>v= .bool (decide (x.t∈es))/\h=g++ [.list acc]:=by
    exact lR (.v (qr (kI (t:=[.list acc]) hb))<| .b ((cW (kI hE):nG .jm (.int x.t) (.ref aE) (g++ [.list acc])=Qa (decide (x.t∈es))))<| .z (cv (.bool (decide (x.t∈es))) (g++ [.list acc]))) rfl
   refine tA (w.mono λv h q=>?_);refine xA q λkh yg=>?_;refine eqB kh ?_;refine eqE yg ?_;rw [<-hp];exact uD ⟨λhb=>rO ⟨rfl,hb.symm,λ_=>Fq ⟨rfl,rfl⟩⟩,λhb=>⟨rfl,hb.symm,λq=>JI q⟩⟩
  ·delta bf
   rw [List.map_const',YF];rfl
 ·rw [Kd,YP,decide_eq_false_iff_not]
  delta uw;rw [KD]
  constructor
  ·intro h
   refine xE (List.exists_mem_of_length_pos (Yk h)) λv hv=>?_;refine xA (Zx.mp hv) λhv hq=>?_;refine xE (K1.mp hv) λj hj=>?_;refine xEEAAA (ht j v hj) λ_ x _ hx _ hp=>?_;exact ⟨x,Ju hx,hp▸hq⟩
  ·rintro ⟨z,hz,hq⟩ h
   refine xE (K1.mp hz) λj hj=>?_;have hl:j<(as.map aa.ref).length:=H.n▸kP hj;refine xEEAAA (ht j _ (Js hl)) λ_ x _ hx _ hp=>?_;rw [hj] at hx;obtain rfl:=Qa.inj hx;exact absurd (Zx.mpr ⟨ZA hl,hp.trans hq⟩) (by rw [Zy.mp h];exact JB)
abbrev Mz:Ex:= .comp (.var 12) [12] Qb G5 [.ba .fy (.var 12) (.var 7),.ba .ne zbg (.list [])]
abbrev qg (T:Mc R.α) (es:List Nat):List Nat:=m5 (λk=>!decide (k∈es) && uw T es k) T.ab.length
def RO {aE:Nat}{es:List Nat} (hd:1<=d) (J:aq R g X.K X.T) (hE:g[aE]?=Qa (.list (bf es))): ∃t,eval (aj P0 d) Mz (vF X o4 o5 o6 (Qa (.ref aE)) o8 Qd Qd Qd) g=Qa (.ref g.length,g++ .list (bf (qg X.T es))::t):=by
 have w:WE (aj P0 d) (vF X o4 o5 o6 (Qa (.ref aE)) o8 Qd Qd Qd) Mz g λv g'=> ∃t,v= .ref g.length/\g'=g++ .list (bf (qg X.T es))::t:=by
  refine Gy (λk=>!decide (k∈es) && uw X.T es k) (λ_=>True) trivial (Jx (y7 J) (by show 100000<200000;decide)) (Jq (y7 J) (by decide)) (W.of (a:=.gf X.T.ab.length) (g:=g) (W.eq (by exact lR (.p (m9 hd J)<| .c<| .z (cv (.gf X.T.ab.length) g)) (by kernel_rfl))) ⟨rfl,λi hi acc t _=>?_,λ_=>rfl,λt _=>⟨t,rfl,rfl⟩⟩);have w1:WE (aj P0 d) ((vF X o4 o5 o6 (Qa (.ref aE)) o8 Qd Qd Qd).set 12 (Qa (.int i))) (.ba .fy (.var 12) (.var 7)) (g++ .list acc::t) λv h=>v= .bool (!decide (i∈es))/\h=g++ .list acc::t:=by
   exact lR (.b (Er i (kI hE))<| .z (cv (.bool (!decide (i∈es))) (g++ .list acc::t))) rfl
  refine tA (w1.mono λv h q=>?_);obtain ⟨rfl,rfl⟩:=q;refine uD ⟨λhb=>?_,λhb=>⟨⟨t,trivial,rfl⟩,by rw [hb];rfl⟩⟩;refine xEA (Pd (d:=d) (o4:=o4) (o5:=o5) (o6:=o6) (o8:=o8) (k:=i) (J.cw:aq R (g++ .list acc::t) X.K X.T) hi (kI hE)) λm f1 f2=>?_;have f3:nG .ne (.ref (g++ae.list acc::t).length) (.ref ((g++ae.list acc::t)++ [ae.list (bf (JU m 1))]).length) ((g++ae.list acc::t)++ [ae.list (bf (JU m 1))]++ [ae.list []])=Qa (uw X.T es i):=by
   refine (Internal.di (zbH (l:=JU m 1) (m:=[]) (kI ap) ap)).trans ?_;rw [<-f2];cases m<;>rfl
  have w2:WE (aj P0 d) ((vF X o4 o5 o6 (Qa (.ref aE)) o8 Qd Qd Qd).set 12 (Qa (.int i))) (.ba .ne zbg (.list [])) (g++ .list acc::t) λv h=>v= .bool (uw X.T es i)/\h=g++ae.list acc::(t++ [ae.list (bf (JU m 1))]++ [ae.list []]):=by
   exact lR (.p (f1)<| .at (((g++ .list acc::t)++ [ae.list (bf (JU m 1))]++ [.list []]))<| .b (f3)<| .z ((⟨rfl,by simp only [JH,Yf]⟩:aa.bool (uw X.T es i)= .bool (uw X.T es i)/\(g++ .list acc::t)++ [ae.list (bf (JU m 1))]++ [.list []]=g++ae.list acc::(t++ [ae.list (bf (JU m 1))]++ [ae.list []])))) rfl
  refine tA (w2.mono λv h q=>?_);obtain ⟨rfl,rfl⟩:=q;exact uD ⟨λhc=>rO ⟨⟨_,trivial,rfl⟩,by rw [hb,hc];rfl⟩,λhc=>⟨⟨_,trivial,rfl⟩,by rw [hb,hc];rfl⟩⟩
 obtain ⟨v,g',w,t,rfl,rfl⟩:=W.get w;exact ⟨t,w⟩
structure ES where
 g:MH
 a:Nat
 es:List Nat
 b:Option aa:=Qd
structure EP (X:VX R) (i:Nat) (s:ES):Prop where
 pre: ∃t,s.g=X.g0++t
 at':s.g[s.a]?=Qa (.list (bf s.es))
 nd:pe X.T.ab.length s.es
 en: ∀k,k<X.T.ab.length->qI X.T k=Qf->k∈s.es
 gr:i<=s.es.length\/∀k,k<X.T.ab.length->k∈s.es
def EP.next {i:Nat}{s:ES}{g:MH}{A:Nat}{b:Option aa} (O:VO us X) (hn:X.T.ab.length≠1) (P:EP X i s) (pre: ∃t,g=X.g0++t) (at':g[A]?=Qa (.list (bf (s.es++qg X.T s.es)))):EP X (i+1) ⟨g,A,s.es++qg X.T s.es,b⟩:=by
 refine ⟨pre,at',⟨ZR.mpr ⟨P.nd.nd,uJ,λx hx y hy e=>?_⟩,λx hx=>(J4.mp hx).elim (P.nd.lt x) λq=>(nR q).1⟩,λk hk q=>Zj _ (P.en k hk q),?_⟩
 ·have:=(Jr.mp (nR hy).2).1
  rw [<-e,decide_eq_true hx] at this;exact JI this
 ·rcases P.gr with h|h
  ·by_cases hz:qg X.T s.es= []
   ·refine .inr λk hk=>Zj _ (O.td.b hn (· ∈s.es) P.en (λx hx q=>Yw λhq=>?_) k hk)
    refine xEA q λz hz1 hz2=>?_
    have:x∈qg X.T s.es:=Zx.mpr ⟨ZL.mpr hx,Jr.mpr ⟨by rw [decide_eq_false hq];rfl,KD.mpr ⟨z,hz1,decide_eq_true hz2⟩⟩⟩
    rw [hz] at this;exact JB this
   ·refine .inl ?_
    rw [Jz];exact JL h (Xn.mpr hz)
  ·exact .inr λk hk=>Zj _ (h k hk)
abbrev zdR:Sm:= .fo [8] Qb G5 [.bg (.nm 7) (.bj .add (.var 7) Mz)]
def CX {s0:ES} (O:VO us X) (hd:1<=d) (hn:X.T.ab.length≠1) (P:EP X 0 s0): ∃s:ES,(∃t,s.g=X.g0++t)/\s.g[s.a]?=Qa (.list (bf s.es))/\s.es.Perm (JW X.T.ab.length)/\exec (aj P0 d) zdR (vF X o4 o5 o6 (Qa (.ref s0.a)) s0.b Qd Qd Qd) s0.g=Qa ((.nx,vF X o4 o5 o6 (Qa (.ref s.a)) s.b Qd Qd Qd),s.g):=by
 have J: ∀ {g:MH},(∃t,g=X.g0++t) ->aq R g X.K X.T:=λpre=>pre.elim λt e=>e▸O.J.cw;obtain ⟨s,P',e'⟩:=pa (c:=aj P0 d) (x:=8) (n:=X.T.ab.length) (e:=G5) (b:=[.bg (.nm 7) (.bj .add (.var 7) Mz)]) (λs:ES=>vF X o4 o5 o6 (Qa (.ref s.a)) s.b Qd Qd Qd) ES.g (EP X) s0 (y7 O.J) rfl (by exact lR (.p (m9 hd (J P.pre))<| .c<| .z (cv (.gf X.T.ab.length) s0.g)) rfl) P λi s R' R1 hi P T=>by
  obtain ⟨t,f1⟩:=RO (d:=d) (o4:=o4) (o5:=o5) (o6:=o6) (o8:=Qa (.int i)) hd (J P.pre) P.at';exact lJ (.p (f1)<| .p ((zgn (kI P.at':(s.g++ .list (bf (qg X.T s.es))::t)[s.a]?=Qa (.list (bf s.es))) ap (by unfold bf;rw [Jt,Jt];exact Jq (JL (Jq P.nd.le (y7 O.J)) (Jq wO (y7 O.J))) (by decide))))<| .z (T.nx ⟨_,_,_,Qa (.int i)⟩ (EP.next (g:=(s.g++ .list (bf (qg X.T s.es))::t)++ [.list (bf s.es++bf (qg X.T s.es))]) (A:=(s.g++ .list (bf (qg X.T s.es))::t).length) (b:=Qa (.int i)) O hn P (P.pre.elim λt' e=>⟨t'++ .list (bf (qg X.T s.es))::t++ [.list (bf s.es++bf (qg X.T s.es))],by rw [e,JH,JH,JH]⟩) (by rw [ap];unfold bf;rw [JY])))) (by kernel_rfl)
 exact ⟨s,P'.pre,P'.at',P'.nd.all (P'.gr.elim P'.nd.ny λh=>h),e'⟩
end
section
variable {R:Rg}{d:Nat}{g:MH}{V:WW->R.α}{l:List WW}
def Rg.ve (R:Rg) (h:MH) (a:R.α):wF h (R.e a) (R.e a)=Qa true:=by
 have n:(R.e a).ref?=none:=by
  cases hx:R.e a with
  |ref r=>
   have e:=R.ff [] a a;rw [hx] at e;exact ag (e)
  |_=>rfl
 have e:=R.ff h a a;unfold mn dictAt at e;rw [n] at e;exact (e).trans (congrArg Qa (@decide_eq_true _ (R.gq a a) rfl))
def DV {K:WW} (hK:nz V K=Qf->K∈l):kY (pP V l) (kJ.v K)=bif nz V K then Qa (R.e (V K)) else none:=by
 have e:kY (pP V l) (kJ.v K)=((l.filter (nz V)).find? ((λp:aa×aa=>gm p.1 (kJ.v K)) ∘ λk=>(kJ.v k,R.e (V k)))).map ((λp:aa×aa=>p.2) ∘ λk=>(kJ.v k,R.e (V k))):=by
  delta pP kY;rw [List.find?_map,Option.map_map]
 refine e.trans ?_;cases hf:(l.filter (nz V)).find? ((λp:aa×aa=>gm p.1 (kJ.v K)) ∘ λk=>(kJ.v k,R.e (V k))) with
 |some k=>
  have h1:=KL hf;have h1:gm (kJ.v k) (kJ.v K)=true:=h1;rw [kJ.eq] at h1;refine eqE (of_decide_eq_true h1) ?_;rw [(Zx.mp (Ki hf)).2];rfl
 |none=>
  cases hn:nz V K with
  |false=>rfl
  |true=>
   exact absurd ((kJ.eq K K).trans (decide_eq_true rfl)) (List.find?_eq_none.mp hf K (Zx.mpr ⟨hK hn,hn⟩))
def OI {all:List (aa×aa)}: ∀ {es:List (aa×aa)},(∀p∈es,kY all p.1=Qa p.2/\wF g p.2 p.2=Qa Qf) ->oV g all es=Qa true:=by
 intro es
 induction es with
 |nil=>exact λ_=>rfl
 |cons p r ih=>
  intro H;show JF (motive:=λ_=>Option Bool) (kY all p.1) (Qa Qb) (λy=>(wF g p.2 y).bind λe=>(oV g all r).map λb=>e && b)=_;rw [(H p (.head _)).1];show (wF g p.2 p.2).bind _=_;rw [(H p (.head _)).2];rw [ih λq hq=>H q (.tail _ hq)];rfl
def Nz {x y:Nat}{ep ep':Option Nat}{es es':List (aa×aa)}{cs:List WW} (hx:g[x]?=Qa (.dict ep es)) (hy:g[y]?=Qa (.dict ep' es')) (O:yL V cs es) (O':yL V cs es'):nG .ne (.ref x) (.ref y) g=Qa false:=by
 obtain ⟨l,rfl,p⟩:=O;obtain ⟨l',rfl,p'⟩:=O';have q:=p.trans p'.symm;refine Internal.di (r:=Qf) ?_;delta mn;rw [nE hx,nE hy];have hl:(pP V l).length=(pP V l').length:=by unfold pP;rw [Jt,Jt,q.length_eq]
 have e1:qZ (pP V l) (pP V l')=true:=by
  delta qZ yU pP;cases l.filter (nz V) with
  |nil=>rfl
  |cons a r=>cases l'.filter (nz V)<;>rfl
 show ay (au (qZ (pP V l) (pP V l')) (bif (pP V l).length==(pP V l').length then oV g (pP V l') (pP V l) else Qa Qb)) _=_;rw [e1,hl,beq_self_eq_true,cond_true,OI λp hp=>?_];rfl;obtain ⟨k,hk,rfl⟩:=JO.mp hp;obtain ⟨h1,h2⟩:=Zx.mp (q.mem_iff.mp hk);exact ⟨(DV λ_=>h1).trans (by rw [show nz V k=Qf from h2];rfl),R.ve g _⟩
def CK (z:Cx) {x:Nat}{ep:Option Nat}{es:List (aa×aa)}{cs:List WW}{K:WW} (hx:g[x]?=Qa (.dict ep es)) (O:yL V cs es) (hK:K∈cs):l5 z (.ref x) ma [.az [.str K.1,.str K.2],R.e R.zero] g g=Qa (R.e (V K),g):=by
 obtain ⟨l,rfl,p⟩:=O;refine W.eq (Fm hx hx (k:=kJ.v K) (e:=R.e R.zero) (rC (T:=kJ) (k:=K) Ue) ⟨?_,rfl⟩);rw [DV λh=>(Zx.mp (p.mem_iff.mpr (Zx.mpr ⟨hK,h⟩))).1];cases hn:nz V K with
 |true=>rfl
 |false=>
  have:V K=R.zero:=of_decide_eq_true (inst:=R.gq _ _) ((Bool.not_eq_false' ..).mp hn)
  rw [this];rfl
def Oy {l:List Nat}:pG (bf l)=Qa (l.map KH):=by
 delta pG bf
 induction l with
 |nil=>rfl
 |cons a l ih=>rw [JR,Yt,ih];rfl
def zgb (z:Cx) {a n:Nat}{es:List Nat} (ha:g[a]?=Qa (.list (bf es))) (P:es.Perm (JW n)) (h0:n≠0) (h4:n<=60):kT z (.bi rX) [.ref a] g=Qa (.ref g.length,g++ [.list (bf (JW n))]):=by
 have e:pO (es.map KH)=(JW n).map KH:=
  List.Perm.eq_of_pairwise (λa b _ _ h1 h2=>Int.le_antisymm h1 h2) (uE _).2 (List.pairwise_map.mpr (List.pairwise_lt_range.imp λh=>Yi.mpr (JQ h))) ((uE _).1.trans (P.map _))
 refine W.eq (Gw (v:=.ref g.length) (h':=g++ [.list (bf (JW n))]) ?_ ⟨rfl,rfl⟩);show ay ((dictAt g (.ref a)).bind _) (ay ((dictAt g (.ref a)).bind _) (ay ((lG g (.ref a)).bind λvs=>(y3 vs).bind _) ((lG g (.ref a)).bind λvs=>(pG vs).bind λl=>au (!l.isEmpty && Zc (l.length+1) 64) (lZ g (.list ((pO l).map .int))))))=_;rw [WY ha,nC ha];cases es with
 |nil=>exact absurd (P.length_eq.trans J9).symm h0
 |cons x es=>
  show ay Qd (ay Qd (ay Qd ((pG (bf (x::es))).bind _)))=_;rw [Oy];show au (!((x::es).map KH).isEmpty && Zc (((x::es).map KH).length+1) 64) (lZ g (.list ((pO ((x::es).map KH)).map .int)))=_;simp only [e,Jt,(P.length_eq.trans J9),Kq (Jq (Zu h4) (by decide:61<=64)),KO];rfl
end
section
variable {R:Rg}{d:Nat}{g:MH}{us:List (List Nat)}{X:VX R}{o4 o5 o6 o8:Option aa}
abbrev fT:aa->MH->Prop:=λv _=>v= .bool Qf
theorem VO.j (O:VO us X) (pre: ∃t,g=X.g0++t):aq R g X.K X.T:=pre.elim λt e=>e▸O.J.cw
theorem VO.i (O:VO us X) (pre: ∃t,g=X.g0++t):aq R g X.L X.M:=pre.elim λt e=>e▸O.I.cw
theorem rV {g0 g t:MH} (pre: ∃t,g=g0++t): ∃t',g++t=g0++t':=pre.elim λt' e=>⟨t'++t,by rw [e,JH]⟩
theorem BF {n:Nat}:m5 (λ_=>Qf) n=JW n:=List.filter_eq_self.mpr λ_ _=>rfl
def gJ (O:VO us X) {es:List Nat}{aE:Nat}{o9 xo ph:Option aa} (pre: ∃t,g=X.g0++t) (hE:g[aE]?=Qa (.list (bf es))) (P:es.Perm (JW X.T.ab.length)):cz (aj P0 60) (lA.drop 12) (vF X o4 o5 o6 (Qa (.ref aE)) o8 o9 xo ph) g (Internal.Fin fT):=by
 have f1:=zgb (aj P0 60) hE P (Ka (Jx (JJ _) O.ZT.g.st)) (Jq O.ZT.n (by decide));have J2:aq R (g++ [.list (bf (JW X.T.ab.length))]) X.K X.T:=(O.j pre).cw;have f2:eval (aj P0 60) (.comp (.var 12) [12] Qb G5 []) (vF X o4 o5 o6 (Qa (.ref aE)) o8 o9 xo ph) (g++ [.list (bf (JW X.T.ab.length))])=Qa (.ref (g++ [ae.list (bf (JW X.T.ab.length))]).length,g++ [.list (bf (JW X.T.ab.length))]++ [.list (bf (JW X.T.ab.length))]):=by
  refine W.eq (Gz (λ_=>Qf) (Jx O.ZT.n (by show 4<200000;decide)) (Jq O.ZT.n (by decide)) (W.of (a:=.gf X.T.ab.length) (g:=g++ [ae.list (bf (JW X.T.ab.length))]) (W.eq (by exact lR (.p (m9 (d:=60) (by decide) J2)<| .c<| .z (cv (.gf X.T.ab.length) (g++ [.list (bf (JW X.T.ab.length))]))) (by kernel_rfl))) ⟨rfl,λi hi acc=>rO ⟨rfl,rfl⟩,λ_=>rfl,?_⟩));rw [BF];exact cv _ _
 have f3:nG .eq (.ref g.length) (.ref (g++ [ae.list (bf (JW X.T.ab.length))]).length) (g++ [.list (bf (JW X.T.ab.length))]++ [.list (bf (JW X.T.ab.length))])=Qa true:=(zbH (kI ap) ap).trans (congrArg Qa (decide_eq_true rfl));have N:Internal.Fin fT (.rt (.bool Qf)) (vF X o4 o5 o6 (Qa (.ref aE)) o8 o9 xo ph) (g++ [.list (bf (JW X.T.ab.length))]++ [.list (bf (JW X.T.ab.length))]):=rfl;exact lJ (.p (f1)<| .p (f2)<| .b (f3)<| .z (N)) (by kernel_rfl)
def te:List (List Nat):= [[],[97],[98],[97,98],[98,97]]
def Hk:(∀u∈te,∀l∈te,(u,l)∈ng)/\∀u∈te,u.length<=2/\∀c∈u,Vw c=true:=by decide+kernel
def Fv {i:Nat}{v:aa} (h:(te.map aa.str)[i]?=Qa v): ∃w,v= .str w/\w∈te/\zx w:=by
 rw [JC] at h;obtain ⟨w,hw,rfl⟩:=Zl.mp h;have hm:=Ju hw;exact ⟨w,rfl,hm,(Hk.2 w hm).1,(Hk.2 w hm).2⟩
structure dN where
 g:MH
 a:Option aa:=Qd
 b:Option aa:=Qd
abbrev d4:List Sm:= [.bg (.nm 11) (.sub (.var 9) (.bj .mod (.call (.lit (.ah 137)) [.var 0,.lit (.int 25)]) (.lit (.int 5)))),.ite (.ba .ne (.call (.lit (.ah 106)) [.var 3,.var 11,.var 10]) (.ao (.call (.lit (.ah 141)) [.var 2,.lit (.int 2)]) 6776180 [.az [.var 11,.var 10],.af (.var 1) nW])) [.ret (.lit (.bool Qb))] []]
def gK (O:VO us X) (hu: ∀u∈us,u∈lm) {aE aW:Nat} (pre: ∃t,g=X.g0++t) (hW:g[aW]?=Qa (.list (te.map .str))): ∃s:dN,(∃t,s.g=g++t)/\exec (aj P0 60) (.fo [10] Qb (.var 9) d4) (vF X o4 o5 o6 (Qa (.ref aE)) o8 (Qa (.ref aW)) Qd Qd) g=Qa ((.nx,vF X o4 o5 o6 (Qa (.ref aE)) o8 (Qa (.ref aW)) s.a s.b),s.g):=by
 obtain ⟨n,hn,en⟩:=rT (cell X.ns 25) (show 0<5 by decide);obtain ⟨u,hv,hu5,wu⟩:=Fv (Js (l:=te.map aa.str) (i:=n) hn);obtain ⟨s,P,e⟩:=sg (c:=aj P0 60) (tg:=[10]) (many:=Qb) (a:=aW) (e:=.var 9) (b:=d4) (vs:=te.map .str) (λs:dN=>vF X o4 o5 o6 (Qa (.ref aE)) o8 (Qa (.ref aW)) s.a s.b) dN.g (λ_ s=> ∃t,s.g=g++t) ⟨g,Qd,Qd⟩ (by decide) rfl (λi s P=>P.elim λt e=>e▸kI hW) (vK rfl (cv (.ref aW) g)) ⟨[],(Zv _).symm⟩ λi v s R' R1 hvi P T=>by
  obtain ⟨w,rfl,hw5,ww⟩:=Fv hvi;have ps: ∃t,s.g=X.g0++t:=P.elim λt e=>e▸rV pre;have f0:l9 s.g (.ref aW) (.int n)=Qa (.str u):=sl (P.elim λt e=>e▸kI hW) ((Js hn).trans (congrArg Qa hv));obtain ⟨t1,f1,_⟩:=Rq (d:=60) (g:=s.g) (by decide) O.ne (O.j ps) O.ZT wu ww;obtain ⟨a2,g2,f2,P2⟩:=Wb (d:=60) (h:=s.g++t1) (by decide) O.ne hu (O.i ps).cw O.Z;obtain ⟨ep,es,h2,hO⟩:=P2.at';have f3:=CK (aj P0 60) (K:=(u,w)) h2 hO (Hk.1 u hu5 w hw5);have hz:(!@decide (pf X.T u w=Wt X.M (u,w)) (R.gq _ _))=false:=by rw [R.yes (O.w u w)];rfl
  have N: ∃t,g2=g++t:=P.elim λt e=>P2.pre.elim λt2 e2=>⟨t++t1++t2,by rw [e2,e];simp only [JH]⟩;refine mT ?_;exact lJ (.q (tL (d:=60) (by decide) X.ns 25)<| .q (sA en (by decide))<| .v (f0)<| .p (f1)<| .p (f2)<| .w (R.no)<| .p (f3)<| .k (R.qn (pf X.T u w) (Wt X.M (u,w)))<| .f (hz)<| .z (T.nx ⟨g2,Qa (.str w),Qa (.str u)⟩ N)) (by kernel_rfl)
 exact ⟨s,P,e⟩
def v8 (O:VO us X) (hu: ∀u∈us,u∈lm) (pre: ∃t,g=X.g0++t) (hn:X.T.ab.length≠1):cz (aj P0 60) (lA.drop 8) (vF X o4 o5 o6 Qd Qd Qd Qd Qd) g (Internal.Fin fT):=by
 have f1:=zgh (d:=60) (o4:=o4) (o5:=o5) (o6:=o6) (by decide) (O.j pre);obtain ⟨s,ps,hE,P,f2⟩:=CX (d:=60) (o4:=o4) (o5:=o5) (o6:=o6) (s0:=⟨g++ [.list (bf (m5 (qI X.T) X.T.ab.length))],g.length,m5 (qI X.T) X.T.ab.length,Qd⟩) O (by decide) hn ⟨rV pre,ap,⟨uJ,λx hx=>(nR hx).1⟩,λk hk q=>Zx.mpr ⟨ZL.mpr hk,q⟩,.inl (JJ _)⟩;obtain ⟨s2,p2,f3⟩:=gK (o4:=o4) (o5:=o5) (o6:=o6) (o8:=s.b) (g:=s.g++ [.list (te.map .str)]) (aE:=s.a) O hu (rV ps) ap;have q2: ∃t,s2.g=X.g0++t:=p2.elim λt e=>by rw [e];exact rV (rV ps)
 have hE2:s2.g[s.a]?=Qa (.list (bf s.es)):=p2.elim λt e=>by rw [e];exact kI (kI hE)
 refine nJ (a:=(lA.drop 8).take 4) (b:=lA.drop 12) ?_;exact lJ (.p (f1)<| .s (f2)<| .at ((s.g++ [.list (te.map .str)]))<| .s (f3)<| .z (nL (gJ (o4:=o4) (o5:=o5) (o6:=o6) (o8:=s.b) (o9:=Qa (.ref s.g.length)) (xo:=s2.a) (ph:=s2.b) O q2 hE2 P))) (by kernel_rfl)
def v4 (O:VO us X) (hu: ∀u∈us,u∈lm) (pre: ∃t,g=X.g0++t):cz (aj P0 60) (lA.drop 4) (vF X Qd Qd Qd Qd Qd Qd Qd Qd) g (Internal.Fin fT):=by
 obtain ⟨s,hl,f1⟩:=Of (d:=60) O (by decide) pre;have J:=O.j pre;have J2:aq R (ku g s) X.K X.T:=J.cw;have I2:aq R (ku g s) X.L X.M:=(O.i pre).cw;have f2:kT (aj P0 60) (.bi uX) [.ref g.length] (ku g s)=Qa (.int X.T.ab.length,ku g s):=by rw [EG (ap:(ku g s)[g.length]?=Qa (.list (bf s.ms))),nD,hl]
 have f3:nG .ne (.int X.T.ab.length) (.int X.T.ab.length) (ku g s)=Qa (!((X.T.ab.length:Int)==X.T.ab.length)):=Internal.di (ug _ _ _);have z3:(!((X.T.ab.length:Int)==X.T.ab.length))=false:=by rw [beq_self_eq_true];rfl
 refine vY ((X.T.ab.length:Int)==1) (λh1=>?_) λh1=>?_
 ·have N:Internal.Fin fT (.rt (.bool (decide ((X.T.ab.length:Int)<=X.M.ab.length)))) (wo X g s) (ku g s):=congrArg aa.bool (decide_eq_true (Yi.mpr O.n))
  exact lJ (.v (tK J)<| .at ((ku g ⟨[X.T.start],Qd,Qd⟩))<| .s (f1)<| .p (f2)<| .p (m9 (d:=60) (by decide) J2)<| .b (f3)<| .f (z3)<| .p (m9 (d:=60) (by decide) J2)<| .k (ug X.T.ab.length 1)<| .t (h1)<| .p (m9 (d:=60) (by decide) J2)<| .p (m9 (d:=60) (by decide) I2)<| .c<| .z (N)) (by kernel_rfl)
 ·have hn:X.T.ab.length≠1:=λe=>by rw [e] at h1;exact nomatch h1
  refine nJ (a:=(lA.drop 4).take 4) (b:=lA.drop 8) ?_;exact lJ (.v (tK J)<| .at ((ku g ⟨[X.T.start],Qd,Qd⟩))<| .s (f1)<| .p (f2)<| .p (m9 (d:=60) (by decide) J2)<| .b (f3)<| .f (z3)<| .p (m9 (d:=60) (by decide) J2)<| .k (ug X.T.ab.length 1)<| .f (h1)<| .z (nL (v8 (g:=ku g s) (o4:=Qa (.ref g.length)) (o5:=s.a) (o6:=s.b) O hu (rV pre) hn))) (by kernel_rfl)
def v3 (O:VO us X) (hu: ∀u∈us,u∈lm):cz (aj P0 60) (lA.drop 3) (vF X Qd Qd Qd Qd Qd Qd Qd Qd) X.g0 (Internal.Fin fT):=by
 obtain ⟨a1,g1,f1,P1⟩:=Wb (d:=60) (by decide) O.ne hu O.J O.ZT;obtain ⟨a2,g2,f2,P2⟩:=Wb (d:=60) (h:=g1) (by decide) O.ne hu (O.i P1.pre) O.Z;have pre: ∃t,g2=X.g0++t:=P2.pre.elim λt e=>e▸rV P1.pre;have f3:nG .ne (.ref a1) (.ref a2) g2=Qa false:=by
  obtain ⟨ep1,es1,h1,O1⟩:=P1.at';obtain ⟨ep2,es2,h2,O2⟩:=P2.at';rw [show Wt X.T=Wt X.M from funext λk=>O.w k.1 k.2] at O1;exact Nz (P2.pre.elim λt e=>e▸kI h1) h2 O1 O2
 refine nJ (a:=(lA.drop 3).take 1) (b:=lA.drop 4) ?_;exact lJ (.p (f1)<| .p (f2)<| .b (f3)<| .c<| .z (nL (v4 O hu pre))) (by kernel_rfl)
abbrev yh:List (List Nat):= [[97],[],[98]]
def Lw {ws:List R.α} (Z:RL R ws) (ns:List Int) (h:MH):cz (aj P0 60) (lA.drop 1) (Qa (.fl (ns.map .int))::Qa (.ah (112+R.i))::nn 16) h (Internal.Fin fT):=by
 have hu: ∀u∈yh,u∈lm:=by decide
 refine (zc1 (g:=h) (us:=yh) (by decide) hu Z ns 1).elim λM a=>a.2.elim λg1 b=>b.2.elim λL c=>?_;have e1:=b.1;rw [<-c.1] at e1;refine (FH (d:=60) (h:=g1) (us:=yh) (by decide) c.2.1 a.1).elim λt f=>f.elim λL' f=>f.elim λT f=>?_;refine f.2.tr.elim λks q=>q.elim λmb1 q=>q.elim λmb2 q=>q.elim λbb q=>?_;have O:VO yh (⟨g1++t,ns,M,L,T,L'⟩:VX R):=⟨Z.ne,c.2.1.cw,a.1,f.2.J,f.2.Z,f.2.w,f.2.n,zdU c.2.1 (λys hy a' ha=>(a.1.g.fv ys hy a' ha).1) q.1 q.2⟩;refine nJ (a:=(lA.drop 1).take 2) (b:=lA.drop 3) ?_;exact lJ (.at ((h++ [.list (yh.map .str)]))<| .p (e1)<| .p (f.1)<| .z (nL (v3 O hu))) (by kernel_rfl)
end
def zaG (ns:List Int):WF P0 61 178 [.fl (ns.map .int)] [] λv _=>v= .bool true:=by
 refine Dn (d:=60) (fn:=vT) rfl rfl ?_;show cz (aj P0 60) lA (Qa (.fl (ns.map .int))::nn 17) _ _;obtain ⟨i,hi,ei⟩:=rT (cell ns 0) (show 0<5 by decide);have tail: ∀h,cz (aj P0 60) (lA.drop 1) (Qa (.fl (ns.map .int))::Qa (.ah (112+i))::nn 16) h (Internal.Fin λv _=>v= .bool Qf):=
  qB (C:=λi=> ∀h,cz (aj P0 60) (lA.drop 1) (Qa (.fl (ns.map .int))::Qa (.ah (112+i))::nn 16) h (Internal.Fin λv _=>v= .bool Qf)) i hi (Lw gZ ns) (Lw gY ns) (Lw gX ns) (Lw gW ns) (Lw gV ns)
 have e1:l9 [.list [.str (lH 0),.str (lH 1),.str (lH 2),.str (lH 3),.str (lH 4)]] (.ref 0) (.int i)=Qa (.str (lH i)):=sl (i:=i) rfl (qB (C:=λi=>([.str (lH 0),.str (lH 1),.str (lH 2),.str (lH 3),.str (lH 4)]:List aa)[i]?=Qa (.str (lH i))) i hi rfl rfl rfl rfl rfl);have e2:=fn (P:=P0) (d:=60) (h:=[.list [.str (lH 0),.str (lH 1),.str (lH 2),.str (lH 3),.str (lH 4)]]) rfl (zb9 (Q:=λv g=>v= .ah (112+i)/\g=_) hi (by decide) ⟨rfl,rfl⟩);refine nJ (a:=lA.take 1) (b:=lA.drop 1) ?_;exact lJ (.at ([.list [.str (lH 0),.str (lH 1),.str (lH 2),.str (lH 3),.str (lH 4)]])<| .q (tL (d:=60) (by decide) ns 0)<| .q (sA ei (by decide))<| .v (e1)<| .p (e2)<| .z (nL (tail [.list [.str (lH 0),.str (lH 1),.str (lH 2),.str (lH 3),.str (lH 4)]]))) (by kernel_rfl)
def M8 (ns:List Int): ∃H',nH P0 200000 61 178 [aa.fl (ns.map aa.int)] []=Qa (aa.bool Qf,H'):=by
 obtain ⟨v,h,e,rfl⟩:=W.get (zaG ns);exact ⟨h,e⟩
def Cz {C:ax}{w:Wd}{vs:List Value}{ns:List Int} (h:Jf vs ns):kL C w (ns.map aa.int) vs:=by
 induction h with
 |nil=>exact .nil
 |cons n t _ ih=>exact .cons ⟨t,rfl⟩ ih
def uf {p:Qt}{loose:List PySem.Str}{mean:ExcName->Option Value}{w:Qn}{s₀ s₁:Qe}{mg mb:PySem.Str->Option Value}{fa a:Qi}{vs:List Value}{ns:List Int}{R:WRecords}{as:List Qi} (KX:Frag.In (KK w.params) s₁.heap) (ZN:s₀.heap.objs.size=nat_lit 754)
  (T : Top p loose mean mg mb s₁.heap) (hmg : mg (qaQ "law") = Qa (.ref fa)) (L : Laid R w s₀ s₁ [ofPy (YK (Xs YZ ns))] [.ref a] as) (hL : s₁.heap.IsList a vs.toArray) (hI : Jf vs ns) (hlen : ¬ ((63 : Int) < (ns.length : Int))) (hg : s₁.gens = #[]) :
  Qj (model pw w) callerA (call (.ref fa) [.ref a]) (λv s'=>Jl PySem.Challenge.rw_ui0508_12.row.claim (classAt s₀.heap) (ExcName.means s₀.heap) [ofPy (YK (Xs YZ ns))] s₁ (.ok (.ret v)) s')
   (λe s'=>Jl PySem.Challenge.rw_ui0508_12.row.claim (classAt s₀.heap) (ExcName.means s₀.heap) [ofPy (YK (Xs YZ ns))] s₁ (.error e) s') s₁:=by
 obtain ⟨hat,hsz⟩:=script_at L;rw [ZN] at hat hsz;subst hat;obtain ⟨so,h1,h2,n,h3⟩:=hL;have e:=mg_of KX T.g (zaH w);have e' : mg (qaQ "law") = Qa (.ref PK) := e;rw [hmg] at e';cases e';have X:(iq w so).K.In s₁.heap:=by
  intro b o hb;have hb':qaZ b ((yQ,so)::KK w.params)=Qa o:=hb;rw [ZF] at hb'
  split at hb'
  ·rename_i q
   rw [beq_iff_eq] at q;cases hb';subst q;exact h1
  ·exact KX b o hb'
 have hv:kM (iq w so) ⟨[],[]⟩ (aa.fl (ns.map aa.int)) (.ref yQ):=by
  refine ⟨yQ,so,n,vs,rfl,⟨?_,h2,h3⟩,Cz hI,?_⟩
  ·show qaZ yQ ((yQ,so)::KK w.params)=Qa so
   rw [ZF,beq_self_eq_true]
  ·rw [Jt]
   have:bh=1000000:=rfl
   omega
 obtain ⟨H',hr⟩:=M8 ns;refine Cq (C:=iq w so) (gM w so) X T (by rw [hsz];decide) (f:=zc3) (fa:=PK) (by kernel_rfl) (λfn h=>by
  have e:P0.kx 178=Qa fn:=h;rw [show P0.kx 178=Qa vT from by kernel_rfl] at e;cases e;rfl) hv hr λw' v s' r hk hgs hos=>?_
 have r:v= .bool true:=r;subst r;exact GoodW.toG ⟨.inl ⟨.bool Qf,.bool Qf,[],rfl,λ_=>rfl,.bool Qf,by first|kernel_rfl|wrow_post,unshared_nil⟩,hk,hos,hgs.trans hg⟩
end Tactic
end
open PySem PySem.W PySem.W.X PySem.Calls PyProof.Rows
set_option maxHeartbeats 0 in
theorem PySem.Challenge.cw_ui0508_12_holds : PySem.Challenge.rw_ui0508_12.Holds := by
 w_on
 refine holds_law (by
  rw [PySem.W.Fast.te9446332074065402090]
  kernel_rfl) fun said=>?_
 refine holds_openX Tactic.zg (XP:=XL (Tactic.b0 Tactic.pw) []) (fun s e=>xl_of s (Bool.and_eq_true_iff.mp e).1) XL.keeps (by rfl) (by rfl) (by rfl) (fun s e=>recFacts_of (Bool.and_eq_true_iff.mp e).2) (by rfl) (by assumption) (by decide+kernel) ⟨rfl,rfl,rfl,rfl,rfl,by decide+kernel⟩ ?hw ?hc
 case hw=>w_witness2
 clear said
 intro w s₀ s₁ mg mb G y fa o pm cd doc dV kV ho hd hcd hD hmg hg args vals as L hpre hlay hrd hwl hlo;have hf:=Tactic.xc y L.keeps
 clear y
 obtain ⟨KX,ZN,ZT⟩:=hf;refine Ground.open G ?_;intro T B D TE TW
 wrow_args hpre hlay hrd hwl hlo
 exact Tactic.uf KX ZN T hmg L (by assumption) (by assumption) (by assumption) hg
