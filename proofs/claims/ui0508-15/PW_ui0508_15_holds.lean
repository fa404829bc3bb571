import PyProof.Rows.All
import Wide.All
import OpenK.AllK
import Wide.FinOn
import PyProof.Logic
import PySem.Claim
import PySem.PyData
import KE.KSortAsk
import PyProof.P3Statements
import PyProof.StrBlockL
import PyProof.Rows.StrNews2
import OpenK.KCell
import OpenK.KMeth
import PyProof.P3Eq
import PyProof.P3In
import PyProof.EqKinds
import PyProof.TupleKey
import PyProof.SetKind
import PyProof.Rows.RotEnd
import PyProof.Rows.ListMul
import PyProof.IsRules
import PyProof.Rows.TupDisplay
import PyProof.Rows.DictRows
import PyProof.DictStraight
import PyProof.DictIter
import KE.KEqDict
import PyProof.EnumMake
import PyProof.WalksMore
import PyProof.StrWalks
import PyProof.CompFree
import PyProof.Rows.StrNews
import PyProof.Rows.SeqSlice
import PyProof.SliceMore
import PyProof.Rows.StrTemp
import PyProof.StrLawsIdx
import PyProof.MaxThree
import PyProof.TypeOfCall
import PyProof.CallType
import PyProof.Rows.GenSrcRange
import OpenK.KRaise
import KE.KSorted
import KE.KDictOf
import KE.KIntText
import KE.KxPart
import KE.KPop
import PyProof.StrLawsAffix
import PyProof.SetRoads
import KE.KUnpack
import KE.KPar
import KE.KSort
import KE.KDictSum
import KE.KSortTup
import PyProof.Rows.SortKey
import PyProof.Rows.SortStr
import PySem.Challenge.RW_ui0508_15
set_option Elab.async false
set_option linter.all false
set_option autoImplicit false
set_option maxHeartbeats 8000000
set_option maxRecDepth 100000
set_option genInjectivity false
set_option genSizeOfSpec false
set_option genSizeOf false
open Option renaming some->Qa,none->Qd,casesOn->JC,map_eq_some_iff->Zl,isSome_iff_exists->Zw,isNone_iff_eq_none->Ki,isSome_some->YK,isSome_none->YL,isSome_map->YQ,map_some->Xk,bind_eq_some_iff->XT,bind_some->qab,map_none->qaj,map->qaM,elim->qbp
open Bool renaming false->Qb,true->Qe,and_eq_true_iff->Jm,noConfusion->JH,false_ne_true->Za,and_eq_true->ZX,eq_iff_iff->Ku,and_true->Yk,false_eq_true->YH,or_eq_true->Xi,or_eq_true_iff->Xm,and_false->Xu,not_eq_true'->Xz,and_eq_false_iff->qam,true_and->qaG,false_or->qaJ,false_and->qbg
open PySem renaming wpAny_bind->Qc,Shared->Qf,wpAny_pure->Qg,DictEntry->Qh,wpAny->Qi,Addr->Qj,wpAny_holding->Qk,wpAny_standAt->Qm,World->Qn,wpAny_mono->Qo,wpAny_typeNameOfWhole_keyiter->Qp,NameKind->Qr,wpAny_call_entry->Qs,wpAny_typeNameOf_keyiter->Qt,wpAny_newObj_type->Qu,call_type_of->Qv,Stmt->Qw,Program->Qx,call_meetsIn->Qy,atKey_none_of_get->Qz,wpAny_dictEntries->QA,Heap->QB,IsTupleKey->QD,wpAny_pyNext_list_item->QE,wpAny_allTrue_And_cons->QF,wpAny_execs_nil->QG,wpAny_notOrdered_dict->QH,wpAny_isOneOf_keyiter->QI,wpAny_pyNext_list_end->QJ,wpAny_allTrue_Or_cons->QK,wpAny_pyIter_listiter->QL,wpAny_storeName_local->QM,Around->QP,FuncData->QR,wpAny_updateDictKeys->QT,wpAny_pyIter_keyiter->QU,Arguments->QW,Setting->QX,wpAny_rule->QY,wpAny_sequenceKey->Q0,slot_dict_setitem->Q1,atKey_of_get->Q2,wpAny_truthy_bool->Q3,wpAny_pyIter_list->Q4,getMethod_builtin->Q5,slot_list_setitem->Q6,sizeLine_eq->Q8,wpAny_dictEpoch->Q9,wpAny_load->Jc,Model->Jh,Flow->Jj,Thread->Jk
open PySem.W renaming dictOf->Ql,piece_app->Qq,boot_heap->QC,cellsFrom_some->QV,boot_drawn->Jd,GoodWG->Je,kas_rev->Jg,lks_vals->Ji
open PyProof.Rows renaming assign_Tuple_tuple->QZ,IntsAre->Ja,valueAt_kvsOf->Jf
open LawfulMonad renaming pure_bind->Q7
open Nat renaming le_trans->Jl,le_add_right->Jo,add_le_add_left->Jr,lt_of_lt_of_le->Js,lt_of_le_of_lt->Jt,le_refl->Jv,le_add_left->Jw,le_of_eq->Jx,zero_le->Jy,mul_le_mul_left->JF,add_le_add->JG,le_of_lt->JK,le_of_lt_succ->JN,lt_succ_of_le->JQ,lt_succ_self->JT,add_le_add_right->JW,succ_le_of_lt->JY,add_lt_add_left->J3,lt_of_succ_le->J5,le_of_not_lt->J7,lt_of_le_of_ne->J8,add_assoc->J9,lt_irrefl->Zb,not_lt_zero->Ze,ble_eq->Zf,le_succ_of_le->Zh,ble->Zj,succ_le_succ->Zn,mul_le_mul_right->Zq,succ_pos->Zs,le_antisymm->Zt,lt_trans->Zx,lt_succ_of_lt->Zy,not_lt_of_le->Zz,le_succ->ZA,add_comm->ZJ,add_right_comm->ZK,zero_add->ZM,succ->ZP,le_add_right_of_le->ZS,not_lt->ZU,lt_add_of_pos_right->ZY,le_mul_of_pos_right->ZZ,one_mul->Z5,ne_of_lt->Z8,add_sub_cancel_left->Z9,ne_of_gt->Kd,sub_lt_of_lt->Kf,gcd->Kr,exists_eq_add_of_le'->Ks,mul_succ->Kv,lt_of_succ_lt_succ->KC,ble_eq_true_of_le->KF,add_lt_add_right->K5,add_mul->K6,le_of_succ_le_succ->Ye,lt_or_eq_of_le->Yh,min_eq_left->Yi,le_add_left_of_le->Yl,add_sub_of_le->Yr,add_lt_add_of_le_of_lt->Yv,gcd_pos_of_pos_right->YB,min_le_left->YD,sub_lt->YF,sub_le->YG,lt_of_lt_of_eq->YI,sub_add_cancel->YJ,two_mul->YO,sub_self->YS,le_of_sub_eq_zero->YT,mul_pos->Xb,add_add_add_comm->Xd,not_succ_le_self->Xe,mul_comm->Xo,pos_of_ne_zero->Xr,div_eq_of_eq_mul_right->Xw,le_of_mul_le_mul_right->Xx,le_of_succ_le->XA,pow_add->XH,succ_add_eq_add_succ->XJ,min_eq_right->XU,min_le_right->XX,lt_add_right->qac,eq_zero_of_le_zero->qag,le_mul_of_pos_left->qah,le_sub_of_add_le'->qao,le_zero->qar,pow_lt_pow_right->qas,pow_le_pow_right->qat,mul_one->qaw,sub_lt_sub_right->qax,one_dvd->qay,add_left_cancel->qaC,mul_assoc->qaI,not_le->qaP,lt_of_succ_lt->qaT,sub_pos_of_lt->qaX,lt_of_not_le->qaZ,not_le_of_lt->qa2,one_pos->qa4,mul_ne_zero->qa7,pow_dvd_pow->qa8,beq->qbb,cast->qbc,mul_le_mul->qbf,sub_add_eq->qbh,dvd_trans->qbk,sub_zero->qbm,pow_succ->qbn,log2_lt->qbo,mul_add->qbr,pow_pos->qbs,pow_one->qbt,mod_lt->qbu
open List renaming getElem?_eq_getElem->Jn,length_map->Jp,mem_of_getElem?->Jq,getElem?_eq_some_iff->Ju,length_append->Jz,getElem?_map->JA,not_mem_nil->JB,append_assoc->JD,mem_singleton->JE,nodup_cons->JI,mem_map->JJ,replicate->JL,mem_cons->JM,map_cons->JO,mem_append_right->JR,map_append->JU,getElem?_set_self->JV,getElem?_set_ne->JZ,length_set->J0,range'->J4,prefix_append->J6,take_length->Zc,mem_append->Zd,range->Zg,length_range->Zi,eq_of_mem_replicate->Zk,append_nil->Zm,getElem_mem->Zo,getElem?_concat_length->Zr,length_replicate->Zu,size_toArray->ZC,length_cons->ZE,all_eq_true->ZF,lookup_cons->ZG,getElem?_eq_none->ZH,map_congr_left->ZI,length_eq_zero_iff->ZO,mem_append_left->ZQ,getElem?_range->ZW,getElem?_replicate->Z0,length->Z3,idxOf_lt_length_iff->Z4,getElem?_toArray->Z6,length_filter_le->Z7,getElem?_append_right->Kb,drop_length->Ke,getElem?_append_left->Kg,getElem?_eq_none_iff->Kh,mem_of_find?_eq_some->Kj,drop_eq_getElem_cons->Kl,mem_or_eq_of_mem_set->Km,nodup_append->Kq,take_succ->Kt,map_map->Kw,mem_filter->Kx,mem_of_mem_take->Ky,length_take->Kz,replicate_succ'->KA,perm_append_comm_assoc->KB,take_succ_eq_append_getElem->KD,take_append_drop->KG,mem_range->KH,reverse_cons->KJ,find?_some->KN,filterMap_cons->KO,length_range'->KU,concat_eq_append->KV,set_getElem_self->KY,cons->KZ,casesOn->K2,flatten_cons->K3,prefix_refl->K8,any_eq_true->K9,cons_append->Yb,zip_cons_cons->Yg,foldl_cons->Yj,contains_iff_mem->Ym,eq_nil_or_concat->Yo,set_append_right->Yp,any_eq_false->Yq,ext_getElem?->Ys,mapM_cons->Yt,mem_iff_getElem->Yu,getElem_inj->Yw,mem_flatten->Yx,flatten_append->Yy,length_reverse->Yz,map->YA,sum_cons->YC,find?_cons->YE,foldl_append->YR,mem_iff_getElem?->YU,perm_middle->YV,isEmpty_iff->YX,drop_nil->YZ,rec->Xa,getElem?_of_mem->Xc,forIn_cons->Xf,dropLast_concat_getLast->Xh,sum_append->Xj,map_eq_nil_iff->Xl,mergeSort_perm->Xn,map_replicate->Xq,filter_append->Xs,map_singleton->Xt,getElem_idxOf->Xv,length_filterMap_le->XK,length_drop->XY,drop->qaa,nodup_range->qad,length_nil->qai,range_succ->qak,nil_append->qal,length_singleton->qan,mem_of_mem_drop->qaq,getElem?_range'->qau,mem_cons_of_mem->qav,replicate_succ->qaz,append_toArray->qaA,flatten_concat->qaE,length_pos_iff->qaF,findIdx?_cons->qaO,range'_concat->qaQ,set_set->qaV,set->qaW,range'_succ->qa0,lookup->qa3,of_mem_zip->qa5,findIdx?->qbj
open Array renaming mk->Zp,isEmpty_iff->XE
open Exists renaming elim->Zv
open PySem.Value renaming type->ZD,builtin->Kc,isStrOf_shape->Kn,isInt_shape->Ko,str->KQ,none->Yd,bool->qaf,casesOn->qaH,ref->qaY,int->qbv
open PySem.W.SharedT renaming mk->ZL,abs->qbq
open Int renaming ofNat_lt->ZR,toNat_natCast->KI,ofNat_eq_zero->KL,natCast_nonneg->KS,natCast_mul->K1,ofNat->YM,ofNat_le->YP,not_lt->YW,fmod->Y9,fdiv->qap,toNat_of_nonneg->qaD,natAbs_eq_zero->qaL,not_le->qaN,lt_trans->qaS,natCast_add->qa6,toNat->qbl
open Ne renaming symm->Ka
open PySem.PyData renaming eqv->KR,list->YN,int->YY,eqv->qaK,int->qa1,keyHash->qbd,eqvAll->qbi
open PySem.F renaming slot_dict_get->KW,entry_dict_get->Yf,args_dict_get_2->X3,args_dict_get_3->X4
open PySem.Heap renaming lt_size->K4,get?_update_self->Yn
open Eq renaming symm->K7
open PySem.Builtin.Range renaming rangeSize->Ya
open PySem.Builtin.Str renaming strSliceIndices->Xp
open Decidable renaming byContradiction->Xy
open PySem.Data renaming casesOn->qae
open PySem.Builtin.Int renaming intBits->qaB
open PySem.Str renaming ofString->qaR
open PySem.Txt renaming isspace->qaU
open PySem.Builtin.List renaming listSubscript?->qa9
open Prod renaming mk->qba,ext->qbe
open PySem.W.SL
section
set_option compiler.extract_closed false
open Lean in
local macro_rules (kind:=Lean.Parser.Command.declaration)
 |s=>match s.getHeadInfo with
  |.original .. =>let d:=s[1];pure (if s[0].getPos?.isNone&&(d.isOfKind `Lean.Parser.Command.definition||d.isOfKind `Lean.Parser.Command.abbrev) then if d[3][1].isOfKind `Lean.Parser.Term.byTactic then s.setArg 1 (.node .none `Lean.Parser.Command.theorem #[.atom .none "theorem",d[1],.node .none `Lean.Parser.Command.declSig #[d[2][0],d[2][1][0]],d[3]]) else s.setArg 0 (s[0].setArg 4 (mkNullNode #[.node .none `Lean.Parser.Command.noncomputable #[.atom .none "noncomputable"]])) else s.rewriteBottomUp (·.setInfo .none))
  |_=>Macro.throwUnsupported
@[elab_as_elim]theorem Internal.zzB.{u}{α:Sort u}{b:α}{P:α→Prop}{a:α}(h:a=b)(k:P b):P a:=h.symm▸k
open Lean in
local macro_rules
 |`(tactic|rw[$rs,*])=>do
  let ts←rs.getElems.mapM fun r=>do
   let t:=r.raw[1]
   let t:Term:=⟨if r.raw[0].isNone then t else mkNode `Lean.Parser.Term.app #[mkIdent `Eq.symm,mkNullNode #[t]]⟩
   `(tactic|first|refine Internal.zzB $t ?_|refine Internal.zzB ($t ..) ?_|rewrite[$r])
  `(tactic|($[$ts]*;try with_reducible rfl))
namespace Internal
theorem xA {P0:Prop}{P1:Prop}{G:Prop} (h:P0/\P1) (k:P0->P1->G):G:=k h.1 h.2
theorem xE.{u0}{α0:Sort u0}{P0:α0->Prop}{G:Prop} (h: ∃a0,P0 a0) (k: ∀a0:α0,P0 a0->G):G:=h.elim λa0 h0=>k a0 h0
theorem xAA {P0:Prop}{P1:Prop}{P2:Prop}{G:Prop} (h:P0/\P1/\P2) (k:P0->P1->P2->G):G:=k h.1 h.2.1 h.2.2
theorem xEE.{u0,u1}{α0:Sort u0}{α1:Sort u1}{P0:α0->α1->Prop}{G:Prop} (h: ∃a0,∃a1,P0 a0 a1) (k: ∀a0:α0,∀a1:α1,P0 a0 a1->G):G:=h.elim λa0 h0=>h0.elim λa1 h1=>k a0 a1 h1
theorem xEA.{u0}{α0:Sort u0}{P0:α0->Prop}{P1:α0->Prop}{G:Prop} (h: ∃a0,P0 a0/\P1 a0) (k: ∀a0:α0,P0 a0->P1 a0->G):G:=h.elim λa0 h0=>k a0 h0.1 h0.2
theorem xEAA.{u0}{α0:Sort u0}{P0:α0->Prop}{P1:α0->Prop}{P2:α0->Prop}{G:Prop} (h: ∃a0,P0 a0/\P1 a0/\P2 a0) (k: ∀a0:α0,P0 a0->P1 a0->P2 a0->G):G:=h.elim λa0 h0=>k a0 h0.1 h0.2.1 h0.2.2
theorem xEEA.{u0,u1}{α0:Sort u0}{α1:Sort u1}{P0:α0->α1->Prop}{P1:α0->α1->Prop}{G:Prop} (h: ∃a0,∃a1,P0 a0 a1/\P1 a0 a1) (k: ∀a0:α0,∀a1:α1,P0 a0 a1->P1 a0 a1->G):G:=h.elim λa0 h0=>h0.elim λa1 h1=>k a0 a1 h1.1 h1.2
theorem xEEAA.{u0,u1}{α0:Sort u0}{α1:Sort u1}{P0:α0->α1->Prop}{P1:α0->α1->Prop}{P2:α0->α1->Prop}{G:Prop} (h: ∃a0,∃a1,P0 a0 a1/\P1 a0 a1/\P2 a0 a1) (k: ∀a0:α0,∀a1:α1,P0 a0 a1->P1 a0 a1->P2 a0 a1->G):G:=h.elim λa0 h0=>h0.elim λa1 h1=>k a0 a1 h1.1 h1.2.1 h1.2.2
theorem xEEAAA.{u0,u1}{α0:Sort u0}{α1:Sort u1}{P0:α0->α1->Prop}{P1:α0->α1->Prop}{P2:α0->α1->Prop}{P3:α0->α1->Prop}{G:Prop} (h: ∃a0,∃a1,P0 a0 a1/\P1 a0 a1/\P2 a0 a1/\P3 a0 a1) (k: ∀a0:α0,∀a1:α1,P0 a0 a1->P1 a0 a1->P2 a0 a1->P3 a0 a1->G):G:=h.elim λa0 h0=>h0.elim λa1 h1=>k a0 a1 h1.1 h1.2.1 h1.2.2.1 h1.2.2.2
@[elab_as_elim]
theorem lW {α:Type}{a:α}{P:α->Prop}{b:α} (h:Qa a=Qa b) (k:P a):P b:=Qa.inj h▸k
@[elab_as_elim]
theorem soB {α:Type}{b:α}{P:α->Prop}{a:α} (h:Qa a=Qa b) (k:P b):P a:=(Qa.inj h).symm▸k
@[elab_as_elim]
theorem eqE.{u}{α:Sort u}{a:α}{P:α->Prop}{b:α} (h:a=b) (k:P a):P b:=h▸k
@[elab_as_elim]
theorem eqB.{u}{α:Sort u}{b:α}{P:α->Prop}{a:α} (h:a=b) (k:P b):P a:=h.symm▸k
theorem xO (b:Bool) {P:Prop} (f:b=Qe->P) (g:b=Qb->P):P:=Bool.casesOn (motive:=λx=>(x=Qe->P) ->(x=Qb->P) ->P) b (λ_ g=>g rfl) (λf _=>f rfl) f g
theorem FH {α:Type} (o:Option α) {P:Prop} (f:o=Qd->P) (g: ∀x,o=Qa x->P):P:=JC (motive:=λx=>(x=Qd->P) ->(∀y,x=Qa y->P) ->P) o (λf _=>f rfl) (λx _ g=>g x rfl) f g
section
open PySem
variable {α:Type}{M:Jh}{A:QP}{c:Prop} [Decidable c] {a b:Sem α}{Q:α->Qf->Prop}{E:Value->Qf->Prop}{s:Qf}
def wN (h: ¬c) (k:Qi M A b Q E s):Qi M A (if c then a else b) Q E s:=by rw[if_neg h];exact k
def wP (h:c) (k:Qi M A a Q E s):Qi M A (if c then a else b) Q E s:=by rw[if_pos h];exact k
end
end Internal
namespace Internal
open PySem
variable {b:Bool}{e:Expr}{p:Option Expr×Option Expr×Option Expr×Pos}{P:Prop}{α β γ:Type}
set_option genCtorIdx false in
inductive ab where
 |none
 |bool (b:Bool)
 |int (i:Int)
 |str (s:List Nat)
 |ba (vs:List ab)
 |ref (a:Nat)
 |ai (a:Nat)
 |ty (n:Nat)
 |bi (n:Nat)
 |fy (n:Int)
 |fl (vs:List ab)
 |qo (n:Nat)
set_option genCtorIdx false in
inductive ae where
 |list (vs:List ab)
 |dict (ep:Option Nat) (es:List (ab×ab))
 |inst (c:Nat) (fs:List (Nat×ab))
def ab.ctorIdx (x:ab):Nat:=ab.casesOn (motive_1:=λ_=>Nat) x 0 (λ_=>1) (λ_=>2) (λ_=>3) (λ_=>4) (λ_=>5) (λ_=>6) (λ_=>7) (λ_=>8) (λ_=>9) (λ_=>10) (λ_=>11)
def ae.ctorIdx (x:ae):Nat:=ae.casesOn (motive:=λ_=>Nat) x (λ_=>0) (λ_ _=>1) (λ_ _=>2)
abbrev MH:=List ae
abbrev Frame:=List (Option ab)
inductive gn where
 |add|sub|mul|fdiv|mod|gZ
inductive rq where
 |eq|ne|lt|le|gt|ge|rc|oh|is|jj
set_option genCtorIdx false in
inductive Ex where
 |var (x:Nat)
 |lit (v:ab)
 |list (es:List Ex)
 |ba (es:List Ex)
 |dict (kvs:List Ex)
 |ez (op:gn) (a b:Ex)
 |not (a:Ex)
 |ew (op:rq) (a b:Ex)
 |qh (stop:Bool) (es:List Ex)
 |ite (c a b:Ex)
 |aq (e:Ex) (n:Nat)
 |sub (e i:Ex)
 |slice (e:Ex) (k:Nat) (bs:List Ex)
 |call (f:Ex) (as:List Ex)
 |bh (o:Ex) (n:Nat) (as:List Ex)
 |comp (eh:Ex) (tg:List Nat) (many:Bool) (it:Ex) (ifs:List Ex)
set_option genCtorIdx false in
inductive T1 where
 |nm (x:Nat)
 |at (o:Ex) (n:Nat)
 |sb (o i:Ex)
set_option genCtorIdx false in
inductive Sm where
 |expr (e:Ex)
 |fq (t:T1) (e:Ex)
 |jk (ts:List T1) (e:Ex)
 |ret (e:Ex)
 |ite (c:Ex) (a b:List Sm)
 |wh (c:Ex) (b:List Sm)
 |fo (tg:List Nat) (many:Bool) (e:Ex) (b:List Sm)
 |brk|cont|td
 |gu
 |bL (e:Ex)
 |tr (x:Nat) (e:Ex) (y:Nat) (v:ab)
set_option genCtorIdx false in
inductive Fl where
 |nx|bk|ct
 |rt (v:ab)
structure Fn where
 ij:Nat
 np:Nat
 pd:List ab
 ns:Nat
 body:List Sm
structure Cl where
 ij:Nat
 jz:List (Nat×ab)
 rh:Option Nat
 rj:List Nat
structure ik where
 nh:List Fn
 cls:List Cl
 jv:List (Nat×Nat)
def dz (x:Str):Nat:=x.cps.toList.foldl (λa c=>a*256+c) 0
def bx {α β:Type} (o:Option (α×MH)) (f:α->MH->Option (β×MH)):Option (β×MH):=JC (motive:=λ_=>Option (β×MH)) o Qd λp=>f p.1 p.2
def ay {α:Type} (a b:Option α):Option α:=JC (motive:=λ_=>Option α) a b Qa
def au {α:Type} (b:Bool) (o:Option α):Option α:=Bool.casesOn (motive:=λ_=>Option α) b Qd o
def ab.int? (x:ab):Option Int:=ab.casesOn (motive_1:=λ_=>Option Int) x .none (λ_=> .none) Qa (λ_=> .none) (λ_=> .none) (λ_=> .none) (λ_=> .none) (λ_=> .none) (λ_=> .none) (λ_=> .none) (λ_=> .none) (λ_=> .none)
def ab.str? (x:ab):Option (List Nat):=ab.casesOn (motive_1:=λ_=>Option (List Nat)) x .none (λ_=> .none) (λ_=> .none) Qa (λ_=> .none) (λ_=> .none) (λ_=> .none) (λ_=> .none) (λ_=> .none) (λ_=> .none) (λ_=> .none) (λ_=> .none)
def ab.tup? (x:ab):Option (List ab):=ab.casesOn (motive_1:=λ_=>Option (List ab)) x .none (λ_=> .none) (λ_=> .none) (λ_=> .none) Qa (λ_=> .none) (λ_=> .none) (λ_=> .none) (λ_=> .none) (λ_=> .none) (λ_=> .none) (λ_=> .none)
def ab.ref? (x:ab):Option Nat:=ab.casesOn (motive_1:=λ_=>Option Nat) x .none (λ_=> .none) (λ_=> .none) (λ_=> .none) (λ_=> .none) Qa (λ_=> .none) (λ_=> .none) (λ_=> .none) (λ_=> .none) (λ_=> .none) (λ_=> .none)
def ab.top? (x:ab):Option Nat:=ab.casesOn (motive_1:=λ_=>Option Nat) x .none (λ_=> .none) (λ_=> .none) (λ_=> .none) (λ_=> .none) (λ_=> .none) Qa (λ_=> .none) (λ_=> .none) (λ_=> .none) (λ_=> .none) (λ_=> .none)
def ab.ty? (x:ab):Option Nat:=ab.casesOn (motive_1:=λ_=>Option Nat) x .none (λ_=> .none) (λ_=> .none) (λ_=> .none) (λ_=> .none) (λ_=> .none) (λ_=> .none) Qa (λ_=> .none) (λ_=> .none) (λ_=> .none) (λ_=> .none)
def ab.bi? (x:ab):Option Nat:=ab.casesOn (motive_1:=λ_=>Option Nat) x .none (λ_=> .none) (λ_=> .none) (λ_=> .none) (λ_=> .none) (λ_=> .none) (λ_=> .none) (λ_=> .none) Qa (λ_=> .none) (λ_=> .none) (λ_=> .none)
def ab.fl? (x:ab):Option (List ab):=ab.casesOn (motive_1:=λ_=>Option (List ab)) x .none (λ_=> .none) (λ_=> .none) (λ_=> .none) (λ_=> .none) (λ_=> .none) (λ_=> .none) (λ_=> .none) (λ_=> .none) (λ_=> .none) Qa (λ_=> .none)
def ab.bool? (x:ab):Option Bool:=ab.casesOn (motive_1:=λ_=>Option Bool) x .none Qa (λ_=> .none) (λ_=> .none) (λ_=> .none) (λ_=> .none) (λ_=> .none) (λ_=> .none) (λ_=> .none) (λ_=> .none) (λ_=> .none) (λ_=> .none)
def ab.rng? (x:ab):Option Int:=ab.casesOn (motive_1:=λ_=>Option Int) x .none (λ_=> .none) (λ_=> .none) (λ_=> .none) (λ_=> .none) (λ_=> .none) (λ_=> .none) (λ_=> .none) (λ_=> .none) Qa (λ_=> .none) (λ_=> .none)
def ab.isNone (x:ab):Bool:=ab.casesOn (motive_1:=λ_=>Bool) x Qe (λ_=>Qb) (λ_=>Qb) (λ_=>Qb) (λ_=>Qb) (λ_=>Qb) (λ_=>Qb) (λ_=>Qb) (λ_=>Qb) (λ_=>Qb) (λ_=>Qb) (λ_=>Qb)
def ae.list? (o:ae):Option (List ab):=ae.casesOn (motive:=λ_=>Option (List ab)) o Qa (λ_ _=>Qd) (λ_ _=>Qd)
def ae.dict? (o:ae):Option (Option Nat×List (ab×ab)):=ae.casesOn (motive:=λ_=>Option (Option Nat×List (ab×ab))) o (λ_=>Qd) (λe es=>Qa (e,es)) (λ_ _=>Qd)
def ae.inst? (o:ae):Option (Nat×List (Nat×ab)):=ae.casesOn (motive:=λ_=>Option (Nat×List (Nat×ab))) o (λ_=>Qd) (λ_ _=>Qd) (λc fs=>Qa (c,fs))
def kY (h:MH) (x:ab):Option (List ab):=x.ref?.bind λa=>h[a]?.bind ae.list?
def dictAt (h:MH) (x:ab):Option (Option Nat×List (ab×ab)):=x.ref?.bind λa=>h[a]?.bind ae.dict?
def cf (h:MH) (x:ab):Option (Nat×List (Nat×ab)):=x.ref?.bind λa=>h[a]?.bind ae.inst?
def a0 {α:Type} (as:List ab) (f:Option α):Option α:=K2 (motive:=λ_=>Option α) as f λ_ _=>Qd
def a1 {α:Type} (as:List ab) (f:ab->Option α):Option α:=K2 (motive:=λ_=>Option α) as Qd λv r=>a0 r (f v)
def a2 {α:Type} (as:List ab) (f:ab->ab->Option α):Option α:=K2 (motive:=λ_=>Option α) as Qd λv r=>a1 r (f v)
def a3 {α:Type} (as:List ab) (f:ab->ab->ab->Option α):Option α:=K2 (motive:=λ_=>Option α) as Qd λv r=>a2 r (f v)
def kb (h:MH):Nat->ab->Option PyData
 |_,.none=>Qa .none
 |_,.bool b=>Qa (.bool b)
 |_,.int i=>Qa (.int i)
 |_,.str s=>Qa (.str ⟨s.toArray⟩)
 |k+1,.ba vs=>(vs.mapM (kb h k)).map .tuple
 |k+1,.ref a=>(kY h (.ref a)).bind λvs=>(vs.mapM (kb h k)).map .list
 |_,_=>Qd
def Dz (h:MH) (a b:ab):Option Bool:=(kb h 8 a).bind λx=>(kb h 8 b).map λy=>qaK x y
def gm (a b:ab):Bool:=(Dz [] a b).getD Qb
def j7 (es:List (ab×ab)) (k:ab):Option ab:=(es.find? λp=>gm p.1 k).map (·.2)
def rE (v:ab):Bool:=v.int?.isSome||v.str?.isSome
def lM (v:ab):Nat:=bif rE v then 1 else bif (v.tup?.map λvs=>vs.all rE).getD Qb then 3 else 0
def SO (es:List (ab×ab)):Option Nat:=es.head?.map λp=>lM p.1
def lj (h:MH) (a b:ab):Option Bool:=
 ay ((dictAt h a).bind λ_=>Qd) (Dz h a b)
def truthy (h:MH) (x:ab):Option Bool:=ab.casesOn (motive_1:=λ_=>Option Bool) x (Qa Qb) Qa (λi=>Qa (i !=0)) (λs=>Qa (!s.isEmpty)) (λvs=>Qa (!vs.isEmpty))
 (λa=>(kY h (.ref a)).map λvs=>!vs.isEmpty) (λ_=>Qd) (λ_=>Qd) (λ_=>Qd) (λ_=>Qd) (λ_=>Qd) (λ_=>Qd)
def j5 (es:List (ab×ab)) (k:ab):Bool:=lM k !=0 && (es.isEmpty||SO es==Qa (lM k))
def nM (es:List (ab×ab)) (k v:ab):List (ab×ab):=
 bif (j7 es k).isSome then es.map λp=>bif gm p.1 k then(p.1,v) else p else es++ [(k,v)]
def yJ:List ab->List (ab×ab) ->Option (List (ab×ab))
 | [],es=>Qa es
 | [_],_=>Qd
 |k::v::r,es=>au (j5 es k) (yJ r (nM es k v))
def lK (h:MH) (o:ae):Option (ab×MH):=Qa (.ref h.length,h++ [o])
def bb:Nat:=1000000
def wq:Nat:=2 ^ 100000
def jg:Nat:=2 ^ 8000
def Hk (a b:Int):Bool:=Zj (a.natAbs+1) wq && Zj (b.natAbs+1) wq
def LX (l:Nat) (n:Int):Bool:=decide (n<=bb) && decide (-(bb:Int)<=n) && Zj (l*n.toNat) bb
def zan (h:MH) (x y:ab):Option (ab×MH):=
 ay (x.int?.bind λa=>y.int?.bind λb=>Qa (.int (a+b),h))
 (x.str?.bind λa=>y.str?.bind λb=>au (Zj (a.length+b.length) bb) (Qa (.str (a++b),h)))
def Hj (h:MH) (x y:ab):Option (ab×MH):=
 ay (x.int?.bind λa=>y.int?.bind λb=>au (Hk a b) (Qa (.int (a*b),h)))
 (ay (x.int?.bind λa=>y.bool?.bind λb=>Qa (.int (a*(if b then 1 else 0)),h))
 ((kY h x).bind λa=>y.int?.bind λn=>au (LX a.length n) (lK h (.list (JL n.toNat a).flatten))))
def Dh (op:gn) (a b:Int):Option Int:=gn.casesOn (motive:=λ_=>Option Int) op Qd (Qa (a-b)) Qd
 (au (b !=0 && Zj (b.natAbs+1) jg) (Qa (qap a b))) (au (b !=0) (Qa (Y9 a b))) Qd
def pE (op:gn) (x y:ab) (h:MH):Option (ab×MH):=
 ay (x.int?.bind λa=>y.int?.bind λb=>(Dh op a b).map λk=>(.int k,h))
 (gn.casesOn (motive:=λ_=>Option (ab×MH)) op (zan h x y) Qd (Hj h x y) Qd Qd Qd)
def aD (a b:ab):Option Bool:=
 ay (au b.isNone (Qa a.isNone))
 (ay (a.ty?.bind λi=>b.ty?.map λj=>i==j)
 (ay (a.top?.bind λi=>b.top?.map λj=>i==j)
 (au (a.isNone||a.int?.isSome||a.tup?.isSome) (b.top?.map λ_=>Qb))))
def U1 (h:MH) (x:ab) (vs:List ab):Option Bool:=(vs.mapM (kb h 7)).bind λds=>(kb h 7 x).map λd=>ds.any λy=>qaK y d
def one? (s:List Nat):Option Nat:=K2 (motive:=λ_=>Option Nat) s Qd λc r=>K2 (motive:=λ_=>Option Nat) r (Qa c) λ_ _=>Qd
def FX (h:MH) (x y:ab):Option Bool:=
 ay (y.str?.bind λt=>(x.str?.bind one?).map λc=>t.contains c)
 (ay (y.tup?.bind λvs=>U1 h x vs)
 (ay ((kY h y).bind λvs=>U1 h x vs)
 ((dictAt h y).bind λd=>au (j5 d.2 x) (Qa (j7 d.2 x).isSome))))
def Nh (x y:ab) (f:Int->Int->Bool):Option Bool:=x.int?.bind λa=>y.int?.map λb=>f a b
def nB (op:rq) (a b:ab) (h:MH):Option Bool:=rq.casesOn (motive:=λ_=>Option Bool) op (lj h a b) ((lj h a b).map (!·))
 (Nh a b λx y=>decide (x<y)) (Nh a b λx y=>decide (x<=y)) (Nh a b λx y=>decide (y<x)) (Nh a b λx y=>decide (y<=x))
 (FX h a b) ((FX h a b).map (!·)) (aD a b) ((aD a b).map (!·))
def qc (n:Nat) (i:ab):Option Nat:=i.int?.bind λi=>au (decide (0<=i) && decide (i<n)) (Qa i.toNat)
def lG (h:MH) (o i:ab):Option ab:=
 ay (o.tup?.bind λvs=>(qc vs.length i).bind λk=>vs[k]?)
 (ay (o.fl?.bind λvs=>(qc vs.length i).bind λk=>vs[k]?)
 (ay ((kY h o).bind λvs=>(qc vs.length i).bind λk=>vs[k]?)
 ((dictAt h o).bind λd=>au (j5 d.2 i) (j7 d.2 i))))
def xI (n:Nat) (v:ab):Option Nat:=v.int?.bind λi=>au (decide (0<=i)) (Qa (min i.toNat n))
def Vp (n k:Nat) (bs:List ab):Option (Nat×Nat):=
 bif k==3 then a2 bs λa b=>(xI n a).bind λx=>(xI n b).map λy=>(x,y) else Qd
def ni {α:Type} (l:List α) (a b:Nat):List α:=(l.take b).drop a
def slice (h:MH) (o:ab) (k:Nat) (bs:List ab):Option (ab×MH):=o.str?.bind λs=>(Vp s.length k bs).bind λp=>Qa (.str (ni s p.1 p.2),h)
def m7 (h:MH) (o i v:ab):Option MH:=o.ref?.bind λa=>
 ay ((h[a]?.bind ae.list?).bind λvs=>(qc vs.length i).map λk=>h.set a (.list (vs.set k v)))
 ((h[a]?.bind ae.dict?).bind λd=>au (j5 d.2 i && Zj (d.2.length+1) bb) (Qa (h.set a (.dict (bif (j7 d.2 i).isSome then d.1 else d.1.map (· +1)) (nM d.2 i v)))))
def vM (fs:List (Nat×ab)) (n:Nat):Option ab:=(fs.find? λp=>p.1==n).map (·.2)
def W6:List (Nat×ab) ->Nat->ab->List (Nat×ab)
 | [],n,v=> [(n,v)]
 |p::r,n,v=>bif p.1==n then(n,v)::r else p::W6 r n v
def ik.fv (P:ik) (c:Nat):Option Cl:=P.cls.find? λx=>x.ij==c
def ik.ku (P:ik) (c n:Nat):Option ab:=(P.fv c).bind λx=>vM x.jz n
def ik.cz (P:ik) (c n:Nat):Bool:=((P.fv c).map λk=>k.rj.contains n).getD Qb
def ik.cf (P:ik) (a:Nat):Option Nat:=(P.jv.find? λp=>p.1==a).map (·.2)
def UP (P:ik) (v:ab):Bool:=(v.top?.map λa=>P.nh.any λf=>f.ij==a).getD Qb
def u3 (P:ik) (c n:Nat):Option ab:=(P.ku c n).bind λv=>au (!UP P v) (Qa v)
def getAttr (P:ik) (h:MH) (o:ab) (n:Nat):Option ab:=
 ay ((cf h o).bind λq=>JC (motive:=λ_=>Option ab) (vM q.2 n) (u3 P q.1 n) λv=>au (P.cz q.1 n) (Qa v))
 (o.top?.bind λa=>(P.cf a).bind λc=>u3 P c n)
def setAttr (P:ik) (h:MH) (o:ab) (n:Nat) (v:ab):Option MH:=o.ref?.bind λa=>(h[a]?.bind ae.inst?).bind λq=>
 au (P.cz q.1 n && Zj (q.2.length+1) 400) (Qa (h.set a (.inst q.1 (W6 q.2 n v))))
def yZ (P:ik) (c n:Nat):Option Nat:=(P.ku c n).bind λv=>au (UP P v) v.top?
def nA (P:ik) (h:MH) (o:ab) (n:Nat):Option (Nat×List ab):=
 ay (o.top?.bind λa=>JC (motive:=λ_=>Option (Nat×List ab)) (P.cf a) ((yZ P a n).map λf=>(f,[])) λc=>(yZ P c n).map λf=>(f,[o]))
 ((cf h o).bind λq=>au (vM q.2 n).isNone ((yZ P q.1 n).map λf=>(f,[o])))
set_option genCtorIdx false in
inductive It where
 |ls (a:Nat)
 |tp (vs:List ab)
 |dk (a n ep:Nat)
 |sq (s:List Nat)
 |rg (n:Int)
 |fs (vs:List ab)
def pC (h:MH) (x:ab):Option It:=
 ay (x.rng?.bind λn=>au (decide (n<=bb) && decide (-(bb:Int)<=n)) (Qa (.rg n)))
 (ay (x.ref?.bind λa=>ay ((h[a]?.bind ae.list?).map λ_=> .ls a) ((h[a]?.bind ae.dict?).bind λd=>d.1.map λep=> .dk a d.2.length ep))
 (ay (x.tup?.map .tp) (ay (x.str?.map .sq) (x.fl?.map .fs))))
def lX (h:MH) (i:Nat) (k:It):Option (Option ab):=It.casesOn (motive:=λ_=>Option (Option ab)) k
 (λa=>(h[a]?.bind ae.list?).map λvs=>vs[i]?)
 (λvs=>Qa vs[i]?)
 (λa n ep=>(h[a]?.bind ae.dict?).bind λd=>au (d.1==Qa ep && d.2.length==n) (Qa (d.2[i]?.map (·.1))))
 (λs=>Qa (s[i]?.map λc=> .str [c]))
 (λn=>Qa (bif decide ((i:Int)<n) then Qa (.int i) else Qd))
 (λvs=>Qa vs[i]?)
def items (h:MH) (x:ab):Option (List ab):=ay x.tup? (kY h x)
def uG (tg:List Nat) (vs:List ab) (fr:Frame):Frame:=(tg.zip vs).foldl (λf p=>f.set p.1 (Qa p.2)) fr
def nG (fr:Frame) (tg:List Nat) (many:Bool) (v:ab):Option Frame:=
 bif many then v.tup?.bind λvs=>au (vs.length==tg.length) (Qa (uG tg vs fr)) else au (tg.length==1) (Qa (uG tg [v] fr))
def wC (l:List Int):List Int:=l.mergeSort λa b=>decide (a<=b)
abbrev vE:Nat:=7103854
abbrev Pq:Nat:=7168376
abbrev zew:Nat:=7170414
abbrev tR:Nat:=126922498794852
abbrev GE:Nat:=491260897125
abbrev Hc:Nat:=1818850164
abbrev Em:Nat:=1684628340
abbrev Iq:Nat:=500186508389
abbrev zbQ:Nat:=7566450
abbrev zbS:Nat:=6909556
abbrev SF:Nat:=1954115685
abbrev zeu:Nat:=7562612
abbrev SJ:Nat:=1651470188
abbrev UH:Nat:=5651857438861258853
abbrev ek:Nat:=107135549927012
abbrev qx:Nat:=7368560
abbrev zhU:Nat:=452823639416
abbrev my:Nat:=6776180
abbrev lk:Nat:=29681812198482789
abbrev ziM:Nat:=1785686382
abbrev zbR:Nat:=2073057139020767260526
abbrev zhT:Nat:=495807392116
abbrev zhS:Nat:=495874894192
abbrev SG:Nat:=545218989645367805047912
abbrev ziN:Nat:=1718185572
abbrev ziS:Nat:=6382692
def zaV (h:MH) (x:ab):Option Nat:=ab.casesOn (motive_1:=λ_=>Option Nat) x (Qa UH) (λ_=>Qa SJ) (λ_=>Qa zbS) (λ_=>Qa zbQ) (λ_=>Qa Iq)
 (λa=>(kY h (.ref a)).map λ_=>Hc) (λ_=>Qd) (λ_=>Qd) (λ_=>Qd) (λ_=>Qd) (λ_=>Qd) (λ_=>Qd)
def Mm (h:MH) (x:ab):Option Nat:=ab.casesOn (motive_1:=λ_=>Option Nat) x Qd (λ_=>Qd) (λ_=>Qd) (λs=>Qa s.length) (λvs=>Qa vs.length)
 (λa=>ay ((kY h (.ref a)).map (·.length)) ((dictAt h (.ref a)).map (·.2.length))) (λ_=>Qd) (λ_=>Qd) (λ_=>Qd) (λ_=>Qd) (λvs=>Qa vs.length) Qa
def uV (l:List ab):Option (List Int):=l.mapM ab.int?
def zaj (as:List ab) (h:MH):Option (ab×MH):=a1 as λv=>(Mm h v).map λ(k:Nat)=>(ab.int (k:Int),h)
def zai (as:List ab) (h:MH):Option (ab×MH):=a2 as λx y=>x.int?.bind λa=>y.int?.map λb=>(.int (if b>a then b else a),h)
def zah (as:List ab) (h:MH):Option (ab×MH):=a2 as λx y=>x.int?.bind λa=>y.int?.map λb=>(.int (if b<a then b else a),h)
def P5 (a:List Nat):List Nat->Bool:=Xa (motive:=λ_=>List Nat->Bool) (λb=>Xa (motive:=λ_=>Bool) Qb (λ_ _ _=>Qe) b) (λx _ ih b=>Xa (motive:=λ_=>Bool) Qb (λy r _=>Bool.rec (motive:=λ_=>Bool) (Bool.rec (motive:=λ_=>Bool) (ih r) Qb (Zj (ZP y) x)) Qe (Zj (ZP x) y)) b) a
abbrev Pr:=List Nat×List Nat
def lc (p:Pr):ab:= .ba [.str p.1,.str p.2]
def zbu (v:ab):Option Pr:=v.tup?.bind λvs=>a2 vs λx y=>x.str?.bind λs=>y.str?.map λt=>(s,t)
def Wz (l:List ab):Option (List Pr):=l.mapM zbu
def mm (a b:Pr):Bool:=bif a.1==b.1 then P5 a.2 b.2 else P5 a.1 b.1
def MB (a:Pr) (l:List Pr):List Pr:=Xa (motive:=λ_=>List Pr) [a] (λx r ih=>bif mm x a then x::ih else a::x::r) l
def mB (l:List Pr):List Pr:=Xa (motive:=λ_=>List Pr) [] (λx _ ih=>MB x ih) l
def HZ (as:List ab) (h:MH):Option (ab×MH):=a1 as λx=>ay ((dictAt h x).bind λp=>(uV (p.2.map (·.1))).bind λl=>au (!l.isEmpty && Zj (l.length+1) 64) (lK h (.list ((wC l).map .int))))
 (ay ((dictAt h x).bind λp=>(Wz (p.2.map (·.1))).bind λl=>au (Zj l.length 60) (lK h (.list ((mB l).map lc))))
 ((kY h x).bind λvs=>(Wz vs).bind λl=>au (Zj l.length 60) (lK h (.list ((mB l).map lc)))))
def G8 (n:Nat) (as:List ab) (h:MH):Option (ab×MH):=
 ay (au (n==vE) (zaj as h)) (ay (au (n==Pq) (zai as h)) (ay (au (n==zew) (zah as h)) (au (n==tR) (HZ as h))))
def AN (as:List ab) (h:MH):Option (ab×MH):=a1 as λx=>x.int?.map λk=>(.fy k,h)
def B3 (as:List ab) (h:MH):Option (ab×MH):=a1 as λx=>ay (x.tup?.bind λvs=>lK h (.list vs)) (ay (x.fl?.bind λvs=>lK h (.list vs)) ((kY h x).bind λvs=>lK h (.list vs)))
def B4 (as:List ab) (h:MH):Option (ab×MH):=a1 as λx=>(dictAt h x).bind λd=>au (d.2.all λp=>lM p.1==1) (lK h (.dict Qd d.2))
def zdA (as:List ab) (h:MH):Option (ab×MH):=Qd
def zdB (as:List ab) (h:MH):Option (ab×MH):=Qd
def B2 (as:List ab) (h:MH):Option (ab×MH):=a1 as λx=>(zaV h x).map λk=>(.ty k,h)
def Ss (x:ab) (h:MH):Option (ab×MH):=Qd
def G7 (n:Nat) (as:List ab) (h:MH):Option (ab×MH):=
 ay (au (n==GE) (AN as h)) (ay (au (n==Hc) (B3 as h)) (ay (au (n==zbQ) (zdA as h)) (ay (au (n==SF) (B2 as h)) (ay (au (n==Em) (B4 as h)) (ay (au (n==zbS) (zdB as h)) (au (n==zeu) (a1 as λx=>Ss x h)))))))
def zbl (s:List Nat):Bool:=s.all (λc=>Zj (c+1) 0x110000) && Zj s.length bb
def AV (s:List Nat) (n:Nat) (as:List ab) (h:MH):Option (ab×MH):=au (n==lk) (a0 as (Qa (.bool (Txt.isspace ⟨s.toArray⟩),h)))
def wO (a:Nat) (vs:List ab) (n:Nat) (as:List ab) (h:MH):Option (ab×MH):=
 ay (au (n==ek) (a1 as λv=>au (Zj (vs.length+1) bb) (Qa (.none,h.set a (.list (vs++ [v]))))))
 (au (n==qx) (a0 as (vs.getLast?.map λv=>(v,h.set a (.list vs.dropLast)))))
def xG (es:List (ab×ab)) (n:Nat) (as:List ab) (h:MH):Option (ab×MH):=
 au (n==my) (ay (a1 as λk=>au (j5 es k) (Qa ((j7 es k).getD .none,h))) (a2 as λk d=>au (j5 es k) (Qa ((j7 es k).getD d,h))))
def y4 (o:ab) (n:Nat) (as:List ab) (h0 h:MH):Option (ab×MH):=
 ay (o.str?.bind λs=>AV s n as h)
 (o.ref?.bind λa=>ay ((h0[a]?.bind ae.list?).bind λ_=>(h[a]?.bind ae.list?).bind λvs=>wO a vs n as h) ((h0[a]?.bind ae.dict?).bind λ_=>(h[a]?.bind ae.dict?).bind λd=>xG d.2 n as h))
structure Cx where
 P:ik
 cn:Nat
 call:Nat->List ab->MH->Option (ab×MH)
def Pn (c:Cx) (a:Nat) (k:Cl) (as:List ab) (h:MH):Option (ab×MH):=
 k.rh.bind λi=>bx (c.call i (.ref h.length::as) (h++ [.inst a []])) λr h'=>au r.isNone (Qa (.ref h.length,h'))
def jZ (c:Cx) (f:ab) (as:List ab) (h:MH):Option (ab×MH):=
 ay (f.top?.bind λa=>JC (motive:=λ_=>Option (ab×MH)) (c.P.fv a) (c.call a as h) λk=>Pn c a k as h)
 (ay (f.bi?.bind λn=>G8 n as h) (f.ty?.bind λn=>G7 n as h))
def kP (c:Cx) (o:ab) (n:Nat) (as:List ab) (h0 h:MH):Option (ab×MH):=
 JC (motive:=λ_=>Option (ab×MH)) (nA c.P h0 o n) (y4 o n as h0 h) λp=>c.call p.1 (p.2++as) h
def l7 (p:Option (ab×MH)):Option (Bool×MH):=bx p λv h=>(truthy h v).map λb=>(b,h)
def compLoop (next:Nat->MH->Option (Option ab)) (test:ab->MH->Option (Option Frame×MH)) (eh:Frame->MH->Option (ab×MH)) (acc:Nat):Nat->Nat->MH->Option (Unit×MH)
 |0,_,_=>Qd
 |n+1,i,h=>(next i h).bind λov=>JC (motive:=λ_=>Option (Unit×MH)) ov (Qa ((),h)) λv=>
  bx (test v h) λofr h1=>JC (motive:=λ_=>Option (Unit×MH)) ofr (compLoop next test eh acc n (i+1) h1) λfr=>
   bx (eh fr h1) λx h2=>(h2[acc]?.bind ae.list?).bind λvs=>au (Zj (vs.length+1) bb) (compLoop next test eh acc n (i+1) (h2.set acc (.list (vs++ [x]))))
mutual
noncomputable def eval (c:Cx):Ex->Frame->MH->Option (ab×MH)
 | .var x,fr,h=>fr[x]?.bind λo=>o.map λv=>(v,h)
 | .lit v,_,h=>Qa (v,h)
 | .list es,fr,h=>bx (qI c es fr h) λvs h1=>lK h1 (.list vs)
 | .ba es,fr,h=>bx (qI c es fr h) λvs h1=>Qa (.ba vs,h1)
 | .dict kvs,fr,h=>bx (qI c kvs fr h) λl h1=>(yJ l []).bind λes=>au (Zj kvs.length 30) (lK h1 (.dict (Qa es.length) es))
 | .ez op a b,fr,h=>bx (eval c a fr h) λx h1=>bx (eval c b fr h1) λy h2=>pE op x y h2
 | .not a,fr,h=>bx (l7 (eval c a fr h)) λb h1=>Qa (.bool (!b),h1)
 | .ew op a b,fr,h=>bx (eval c a fr h) λx h1=>bx (eval c b fr h1) λy h2=>(nB op x y h2).map λr=>(.bool r,h2)
 | .qh stop es,fr,h=>y3 c stop es fr h
 | .ite t a b,fr,h=>bx (l7 (eval c t fr h)) λr h1=>bif r then eval c a fr h1 else eval c b fr h1
 | .aq e n,fr,h=>bx (eval c e fr h) λo h1=>(getAttr c.P h1 o n).map λv=>(v,h1)
 | .sub e i,fr,h=>bx (eval c e fr h) λo h1=>bx (eval c i fr h1) λk h2=>(lG h2 o k).map λv=>(v,h2)
 | .slice e k bs,fr,h=>bx (eval c e fr h) λo h1=>bx (qI c bs fr h1) λvs h2=>slice h2 o k vs
 | .call f as,fr,h=>bx (eval c f fr h) λg h1=>bx (qI c as fr h1) λvs h2=>jZ c g vs h2
 | .bh o n as,fr,h=>bx (eval c o fr h) λv h1=>bx (qI c as fr h1) λvs h2=>kP c v n vs h1 h2
 | .comp eh tg many it ifs,fr,h=>bx (eval c it fr h) λv h1=>(pC h1 v).bind λk=>
   bx (compLoop (λi h=>lX h i k) (λv h=>(nG fr tg many v).bind λfr'=>bx (HN c ifs fr' h) λb h'=>Qa (bif b then Qa fr' else Qd,h')) (λfr' h=>eval c eh fr' h) h1.length c.cn 0 (h1++ [.list []]))
    λ_ h2=>Qa (.ref h1.length,h2)
noncomputable def qI (c:Cx):List Ex->Frame->MH->Option (List ab×MH)
 | [],_,h=>Qa ([],h)
 |e::r,fr,h=>bx (eval c e fr h) λv h1=>bx (qI c r fr h1) λvs h2=>Qa (v::vs,h2)
noncomputable def y3 (c:Cx) (stop:Bool):List Ex->Frame->MH->Option (ab×MH)
 | [],_,_=>Qd
 |e::r,fr,h=>bx (eval c e fr h) λv h1=>bif r.isEmpty then Qa (v,h1) else(truthy h1 v).bind λb=>bif b==stop then Qa (v,h1) else y3 c stop r fr h1
noncomputable def HN (c:Cx):List Ex->Frame->MH->Option (Bool×MH)
 | [],_,h=>Qa (Qe,h)
 |e::r,fr,h=>bx (l7 (eval c e fr h)) λb h1=>bif b then HN c r fr h1 else Qa (Qb,h1)
end
def LA (c:Cx) (fr:Frame) (h:MH) (v:ab):T1->Option (Frame×MH)
 | .nm x=>Qa (fr.set x (Qa v),h)
 | .at o n=>bx (eval c o fr h) λov h1=>(setAttr c.P h1 ov n v).map λh2=>(fr,h2)
 | .sb o i=>bx (eval c o fr h) λov h1=>bx (eval c i fr h1) λiv h2=>(m7 h2 ov iv v).map λh3=>(fr,h3)
def qT (c:Cx):List T1->List ab->Frame->MH->Option (Frame×MH)
 | [],vs,fr,h=>au vs.isEmpty (Qa (fr,h))
 |t::ts,vs,fr,h=>vs.head?.bind λv=>bx (LA c fr h v t) λfr' h'=>qT c ts vs.tail fr' h'
abbrev SR:=Option ((Fl×Frame)×MH)
def WY (cond:Frame->MH->Option (Bool×MH)) (body:Frame->MH->SR):Nat->Frame->MH->SR
 |0,_,_=>Qd
 |n+1,fr,h=>bx (cond fr h) λb h1=>bif b then bx (body fr h1) λp h2=>Fl.casesOn (motive:=λ_=>SR) p.1 (WY cond body n p.2 h2) (Qa ((.nx,p.2),h2)) (WY cond body n p.2 h2) (λv=>Qa ((.rt v,p.2),h2))
  else Qa ((.nx,fr),h1)
def UM (next:Nat->MH->Option (Option ab)) (bind:Frame->ab->Option Frame) (body:Frame->MH->SR):Nat->Nat->Frame->MH->SR
 |0,_,_,_=>Qd
 |n+1,i,fr,h=>(next i h).bind λov=>JC (motive:=λ_=>SR) ov (Qa ((.nx,fr),h)) λv=>(bind fr v).bind λfr1=>
   bx (body fr1 h) λp h2=>Fl.casesOn (motive:=λ_=>SR) p.1 (UM next bind body n (i+1) p.2 h2) (Qa ((.nx,p.2),h2)) (UM next bind body n (i+1) p.2 h2) (λv=>Qa ((.rt v,p.2),h2))
mutual
noncomputable def exec (c:Cx):Sm->Frame->MH->SR
 | .expr e,fr,h=>bx (eval c e fr h) λ_ h1=>Qa ((.nx,fr),h1)
 | .fq t e,fr,h=>bx (eval c e fr h) λv h1=>bx (LA c fr h1 v t) λfr' h2=>Qa ((.nx,fr'),h2)
 | .jk ts e,fr,h=>bx (eval c e fr h) λv h1=>(items h1 v).bind λvs=>bx (qT c ts vs fr h1) λfr' h2=>Qa ((.nx,fr'),h2)
 | .ret e,fr,h=>bx (eval c e fr h) λv h1=>Qa ((.rt v,fr),h1)
 | .ite t a b,fr,h=>bx (l7 (eval c t fr h)) λr h1=>bif r then execs c a fr h1 else execs c b fr h1
 | .wh t b,fr,h=>WY (λfr h=>l7 (eval c t fr h)) (λfr h=>execs c b fr h) c.cn fr h
 | .fo tg many e b,fr,h=>bx (eval c e fr h) λv h1=>(pC h1 v).bind λk=>UM (λi h=>lX h i k) (λfr v=>nG fr tg many v) (λfr h=>execs c b fr h) c.cn 0 fr h1
 | .brk,fr,h=>Qa ((.bk,fr),h)
 | .cont,fr,h=>Qa ((.ct,fr),h)
 | .td,fr,h=>Qa ((.nx,fr),h)
 | .gu,_,_=>Qd
 | .bL _,_,_=>Qd
 | .tr _ _ _ _,_,_=>Qd
noncomputable def execs (c:Cx):List Sm->Frame->MH->SR
 | [],fr,h=>Qa ((.nx,fr),h)
 |s::r,fr,h=>bx (exec c s fr h) λp h1=>Fl.casesOn (motive:=λ_=>SR) p.1 (execs c r p.2 h1) (Qa (p,h1)) (Qa (p,h1)) (λ_=>Qa (p,h1))
end
def ik.km (P:ik) (a:Nat):Option Fn:=P.nh.find? λf=>f.ij==a
def vQ (f:Fn) (as:List ab):Option (List ab):=au (Zj as.length f.np && Zj (f.np-as.length) f.pd.length) (Qa (as++f.pd.drop (f.pd.length-(f.np-as.length))))
def rH (f:Fn) (vs:List ab):Frame:=vs.map Qa++JL (f.ns-f.np) Qd
def Ry (p:Fl×Frame) (h:MH):Option (ab×MH):=Fl.casesOn (motive:=λ_=>Option (ab×MH)) p.1 (Qa (.none,h)) Qd Qd λv=>Qa (v,h)
def mT (P:ik) (cn:Nat):Nat->Nat->List ab->MH->Option (ab×MH)
 |0,_,_,_=>Qd
 |d+1,a,as,h=>(P.km a).bind λf=>(vQ f as).bind λvs=>bx (execs ⟨P,cn,mT P cn d⟩ f.body (rH f vs) h) Ry
structure CC where
 sc:List (Str×Qr)
 jh:List (Str×Nat)
 next:Nat
 gl:List (Str×ab)
def j1 (x : Str) : Bool := x.cps.toList.all (λc => 1 <= c && c <= 255) && x != ("__debug__" : Str) && x != ("__class__" : Str) && x != ("super" : Str) && !x.cps.toList.isEmpty
def Nb:Const->Option ab
 | .none=>Qa .none
 | .bool b=>Qa (.bool b)
 | .int i=>Qa (.int i)
 | .str s=>au (zbl s.cps.toList) (Qa (.str s.cps.toList))
 |_=>Qd
def nS (cx:CC) (x:Str):Option Nat:=au (cx.sc.lookup x==Qa .local||cx.sc.lookup x==Qa .cell) (cx.jh.lookup x)
def EJ:Operator->Option gn
 | .Add=>Qa .add
 | .Sub=>Qa .sub
 | .Mult=>Qa .mul
 | .FloorDiv=>Qa .fdiv
 | .Mod=>Qa .mod
 | .Pow=>Qa .gZ
 |_=>Qd
def ED:CmpOp->rq
 | .Eq=> .eq
 | .NotEq=> .ne
 | .Lt=> .lt
 | .LtE=> .le
 | .Gt=> .gt
 | .GtE=> .ge
 | .In=> .rc
 | .NotIn=> .oh
 | .Is=> .is
 | .IsNot=> .jj
def qA (e:Expr):Option (Str×Pos):=Expr.casesOn (motive_1:=λ_=>Option (Str×Pos)) e (λ_ _ _=>Qd) (λ_ _ _=>Qd) (λ_ _ _ _=>Qd) (λ_ _ _=>Qd) (λ_ _ _ _=>Qd) (λ_ _ _ _=>Qd) (λ_ _ _=>Qd) (λ_ _ _=>Qd) (λ_ _ _ _=>Qd) (λ_ _ _ _=>Qd) (λ_ _ _ _ _=>Qd) (λ_ _ _ _=>Qd) (λ_ _=>Qd) (λ_ _=>Qd) (λ_ _=>Qd) (λ_ _ _ _=>Qd) (λ_ _ _ _=>Qd) (λ_ _ _ _=>Qd) (λ_ _=>Qd) (λ_ _ _=>Qd) (λ_ _ _=>Qd) (λ_ _ _=>Qd) (λ_ _=>Qd) (λx y=>Qa (x,y)) (λ_ _=>Qd) (λ_ _ _=>Qd) (λ_ _ _ _=>Qd)
def VD (e:Expr):Option (Expr×Str×Pos):=Expr.casesOn (motive_1:=λ_=>Option (Expr×Str×Pos)) e (λ_ _ _=>Qd) (λ_ _ _=>Qd) (λ_ _ _ _=>Qd) (λ_ _ _=>Qd) (λ_ _ _ _=>Qd) (λ_ _ _ _=>Qd) (λ_ _ _=>Qd) (λ_ _ _=>Qd) (λ_ _ _ _=>Qd) (λ_ _ _ _=>Qd) (λ_ _ _ _ _=>Qd) (λ_ _ _ _=>Qd) (λ_ _=>Qd) (λ_ _=>Qd) (λ_ _=>Qd) (λ_ _ _ _=>Qd) (λ_ _ _ _=>Qd) (λ_ _ _ _=>Qd) (λ_ _=>Qd) (λ_ _ _=>Qd) (λx y z=>Qa (x,y,z)) (λ_ _ _=>Qd) (λ_ _=>Qd) (λ_ _=>Qd) (λ_ _=>Qd) (λ_ _ _=>Qd) (λ_ _ _ _=>Qd)
def u4 (e:Expr):Option (List Expr×Nat×Pos):=Expr.casesOn (motive_1:=λ_=>Option (List Expr×Nat×Pos)) e (λ_ _ _=>Qd) (λ_ _ _=>Qd) (λ_ _ _ _=>Qd) (λ_ _ _=>Qd) (λ_ _ _ _=>Qd) (λ_ _ _ _=>Qd) (λ_ _ _=>Qd) (λ_ _ _=>Qd) (λ_ _ _ _=>Qd) (λ_ _ _ _=>Qd) (λ_ _ _ _ _=>Qd) (λ_ _ _ _=>Qd) (λ_ _=>Qd) (λ_ _=>Qd) (λ_ _=>Qd) (λ_ _ _ _=>Qd) (λ_ _ _ _=>Qd) (λ_ _ _ _=>Qd) (λ_ _=>Qd) (λ_ _ _=>Qd) (λ_ _ _=>Qd) (λ_ _ _=>Qd) (λ_ _=>Qd) (λ_ _=>Qd) (λ_ _=>Qd) (λx y z=>Qa (x,y,z)) (λ_ _ _ _=>Qd)
def Nr (e:Expr):Option (Expr×Expr×Pos):=Expr.casesOn (motive_1:=λ_=>Option (Expr×Expr×Pos)) e (λ_ _ _=>Qd) (λ_ _ _=>Qd) (λ_ _ _ _=>Qd) (λ_ _ _=>Qd) (λ_ _ _ _=>Qd) (λ_ _ _ _=>Qd) (λ_ _ _=>Qd) (λ_ _ _=>Qd) (λ_ _ _ _=>Qd) (λ_ _ _ _=>Qd) (λ_ _ _ _ _=>Qd) (λ_ _ _ _=>Qd) (λ_ _=>Qd) (λ_ _=>Qd) (λ_ _=>Qd) (λ_ _ _ _=>Qd) (λ_ _ _ _=>Qd) (λ_ _ _ _=>Qd) (λ_ _=>Qd) (λ_ _ _=>Qd) (λ_ _ _=>Qd) (λx y z=>Qa (x,y,z)) (λ_ _=>Qd) (λ_ _=>Qd) (λ_ _=>Qd) (λ_ _ _=>Qd) (λ_ _ _ _=>Qd)
def xP (e:Expr):Option (Option Expr×Option Expr×Option Expr×Pos):=Expr.casesOn (motive_1:=λ_=>Option (Option Expr×Option Expr×Option Expr×Pos)) e (λ_ _ _=>Qd) (λ_ _ _=>Qd) (λ_ _ _ _=>Qd) (λ_ _ _=>Qd) (λ_ _ _ _=>Qd) (λ_ _ _ _=>Qd) (λ_ _ _=>Qd) (λ_ _ _=>Qd) (λ_ _ _ _=>Qd) (λ_ _ _ _=>Qd) (λ_ _ _ _ _=>Qd) (λ_ _ _ _=>Qd) (λ_ _=>Qd) (λ_ _=>Qd) (λ_ _=>Qd) (λ_ _ _ _=>Qd) (λ_ _ _ _=>Qd) (λ_ _ _ _=>Qd) (λ_ _=>Qd) (λ_ _ _=>Qd) (λ_ _ _=>Qd) (λ_ _ _=>Qd) (λ_ _=>Qd) (λ_ _=>Qd) (λ_ _=>Qd) (λ_ _ _=>Qd) (λx y z u=>Qa (x,y,z,u))
def p5 (e:Expr):Bool:=Expr.casesOn (motive_1:=λ_=>Bool) e (λ_ _ _=>Qb) (λ_ _ _=>Qb) (λ_ _ _ _=>Qb) (λ_ _ _=>Qb) (λ_ _ _ _=>Qb) (λ_ _ _ _=>Qb) (λ_ _ _=>Qb) (λ_ _ _=>Qb) (λx y z u=>Qe) (λ_ _ _ _=>Qb) (λ_ _ _ _ _=>Qb) (λ_ _ _ _=>Qb) (λ_ _=>Qb) (λ_ _=>Qb) (λ_ _=>Qb) (λ_ _ _ _=>Qb) (λ_ _ _ _=>Qb) (λ_ _ _ _=>Qb) (λ_ _=>Qb) (λ_ _ _=>Qb) (λ_ _ _=>Qb) (λ_ _ _=>Qb) (λ_ _=>Qb) (λ_ _=>Qb) (λ_ _=>Qb) (λ_ _ _=>Qb) (λ_ _ _ _=>Qb)
def Vv (e:Expr):Bool:=Expr.casesOn (motive_1:=λ_=>Bool) e (λ_ _ _=>Qe) (λ_ _ _=>Qe) (λ_ _ _ _=>Qe) (λ_ _ _=>Qe) (λ_ _ _ _=>Qe) (λ_ _ _ _=>Qe) (λ_ _ _=>Qe) (λ_ _ _=>Qe) (λ_ _ _ _=>Qe) (λ_ _ _ _=>Qe) (λ_ _ _ _ _=>Qe) (λ_ _ _ _=>Qe) (λ_ _=>Qe) (λ_ _=>Qe) (λ_ _=>Qe) (λ_ _ _ _=>Qe) (λx y z u=>!y.isEmpty) (λ_ _ _ _=>Qe) (λ_ _=>Qe) (λ_ _ _=>Qe) (λ_ _ _=>Qe) (λ_ _ _=>Qe) (λ_ _=>Qe) (λ_ _=>Qe) (λ_ _=>Qe) (λ_ _ _=>Qe) (λ_ _ _ _=>Qe)
def oG (f:α->Option β):List α->Option (List β)
 | []=>Qa []
 |a::r=>(f a).bind λb=>(oG f r).map λbs=>b::bs
def FE (l:List α) (f:α->Option β):Option β:=K2 (motive:=λ_=>Option β) l Qd λa r=>K2 (motive:=λ_=>Option β) r (f a) λ_ _=>Qd
inductive lV (R:α->β->Prop):List α->List β->Prop
 |nil:lV R [] []
 |cons {a:α}{b:β}{as:List α}{bs:List β}:R a b->lV R as bs->lV R (a::as) (b::bs)
variable {o:Option α}{f:α->Option β}{r:β}
theorem bs (h:o.bind f=Qa r): ∃a,o=Qa a/\f a=Qa r:=XT.mp h
theorem ms {f:α->β} (h:o.map f=Qa r): ∃a,o=Qa a/\f a=r:=Zl.mp h
def gs {r:α} (h:au b o=Qa r):b=Qe/\o=Qa r:=by
 cases b
 ·cases h
 ·exact⟨rfl,h⟩
theorem j9 (g: ∀a,o=Qa a->f a=Qa r->P) (h:o.bind f=Qa r):P:=(bs h).elim λa h=>g a h.1 h.2
theorem lA {f:α->β} (g: ∀a,o=Qa a->f a=r->P) (h:o.map f=Qa r):P:=(ms h).elim λa h=>g a h.1 h.2
theorem mS {r:α} (g:b=Qe->o=Qa r->P) (h:au b o=Qa r):P:=g (gs h).1 (gs h).2
variable {a:Option α}
theorem lJ {b:Option α}{r:α} (g:a=Qa r->P) (g':b=Qa r->P):ay a b=Qa r->P:=JC (motive:=λa=>(a=Qa r->P) ->ay a b=Qa r->P) a (λ_ h=>g' h) (λ_ g h=>g h) g
theorem jW {o:Option (α×MH)}{f:α->MH->Option (β×MH)}{r:β×MH} (g: ∀a h,o=Qa (a,h) ->f a h=Qa r->P):bx o f=Qa r->P:=JC (motive:=λo=>(∀a h,o=Qa (a,h) ->f a h=Qa r->P) ->bx o f=Qa r->P) o (λ_ h=>Option.noConfusion rfl (heq_of_eq h)) (λp g h=>g p.1 p.2 rfl h) g
variable {l:List α}
def WL (h:FE l f=Qa r): ∃a,l= [a]/\f a=Qa r:=by
 cases l with
 |nil=>cases h
 |cons a l=>
  cases l with
  |nil=>exact⟨a,rfl,h⟩
  |cons _ _=>cases h
def rA: ∀ {r:List β},oG f l=Qa r->lV (λa b=>f a=Qa b) l r:=by
 induction l with
 |nil=>intro r h;cases h;exact .nil
 |cons a l ih=>
  intro r h;obtain⟨b,h1,h⟩:=bs h;refine(ms h).elim λbs zq1=>?_;obtain rfl:=zq1.2;exact .cons h1 (ih zq1.1)
variable {R:α->β->Prop}{as:List α}
def lV.mono {S:α->β->Prop} (h: ∀a b,R a b->S a b) {bs:List β} (r:lV R as bs):lV S as bs:=by
 induction r with
 |nil=>exact .nil
 |cons x _ ih=>exact .cons (h _ _ x) ih
def lV.length {bs:List β} (r:lV R as bs):bs.length=as.length:=by
 induction r with
 |nil=>rfl
 |cons _ _ ih=>exact congrArg (· +1) ih
theorem af {p:α} (h:Qd=Qa p):P:=nomatch h
theorem qM {p:Str×Pos}:qA e=Qa p->e= .Name p.1 p.2:=Expr.casesOn (motive_1:=λe=>qA e=Qa p->e= .Name p.1 p.2) e (λ_ _ _ h=>af h) (λ_ _ _ h=>af h) (λ_ _ _ _ h=>af h) (λ_ _ _ h=>af h) (λ_ _ _ _ h=>af h) (λ_ _ _ _ h=>af h) (λ_ _ _ h=>af h) (λ_ _ _ h=>af h) (λ_ _ _ _ h=>af h) (λ_ _ _ _ h=>af h) (λ_ _ _ _ _ h=>af h) (λ_ _ _ _ h=>af h) (λ_ _ h=>af h) (λ_ _ h=>af h) (λ_ _ h=>af h) (λ_ _ _ _ h=>af h) (λ_ _ _ _ h=>af h) (λ_ _ _ _ h=>af h) (λ_ _ h=>af h) (λ_ _ _ h=>af h) (λ_ _ _ h=>af h) (λ_ _ _ h=>af h) (λ_ _ h=>af h) (λx y h=>Qa.inj h▸rfl) (λ_ _ h=>af h) (λ_ _ _ h=>af h) (λ_ _ _ _ h=>af h)
theorem VC {p:Expr×Str×Pos}:VD e=Qa p->e= .Attribute p.1 p.2.1 p.2.2:=Expr.casesOn (motive_1:=λe=>VD e=Qa p->e= .Attribute p.1 p.2.1 p.2.2) e (λ_ _ _ h=>af h) (λ_ _ _ h=>af h) (λ_ _ _ _ h=>af h) (λ_ _ _ h=>af h) (λ_ _ _ _ h=>af h) (λ_ _ _ _ h=>af h) (λ_ _ _ h=>af h) (λ_ _ _ h=>af h) (λ_ _ _ _ h=>af h) (λ_ _ _ _ h=>af h) (λ_ _ _ _ _ h=>af h) (λ_ _ _ _ h=>af h) (λ_ _ h=>af h) (λ_ _ h=>af h) (λ_ _ h=>af h) (λ_ _ _ _ h=>af h) (λ_ _ _ _ h=>af h) (λ_ _ _ _ h=>af h) (λ_ _ h=>af h) (λ_ _ _ h=>af h) (λx y z h=>Qa.inj h▸rfl) (λ_ _ _ h=>af h) (λ_ _ h=>af h) (λ_ _ h=>af h) (λ_ _ h=>af h) (λ_ _ _ h=>af h) (λ_ _ _ _ h=>af h)
theorem z4 {p:List Expr×Nat×Pos}:u4 e=Qa p->e= .Tuple p.1 p.2.1 p.2.2:=Expr.casesOn (motive_1:=λe=>u4 e=Qa p->e= .Tuple p.1 p.2.1 p.2.2) e (λ_ _ _ h=>af h) (λ_ _ _ h=>af h) (λ_ _ _ _ h=>af h) (λ_ _ _ h=>af h) (λ_ _ _ _ h=>af h) (λ_ _ _ _ h=>af h) (λ_ _ _ h=>af h) (λ_ _ _ h=>af h) (λ_ _ _ _ h=>af h) (λ_ _ _ _ h=>af h) (λ_ _ _ _ _ h=>af h) (λ_ _ _ _ h=>af h) (λ_ _ h=>af h) (λ_ _ h=>af h) (λ_ _ h=>af h) (λ_ _ _ _ h=>af h) (λ_ _ _ _ h=>af h) (λ_ _ _ _ h=>af h) (λ_ _ h=>af h) (λ_ _ _ h=>af h) (λ_ _ _ h=>af h) (λ_ _ _ h=>af h) (λ_ _ h=>af h) (λ_ _ h=>af h) (λ_ _ h=>af h) (λx y z h=>Qa.inj h▸rfl) (λ_ _ _ _ h=>af h)
theorem R5 {p:Expr×Expr×Pos}:Nr e=Qa p->e= .Subscript p.1 p.2.1 p.2.2:=Expr.casesOn (motive_1:=λe=>Nr e=Qa p->e= .Subscript p.1 p.2.1 p.2.2) e (λ_ _ _ h=>af h) (λ_ _ _ h=>af h) (λ_ _ _ _ h=>af h) (λ_ _ _ h=>af h) (λ_ _ _ _ h=>af h) (λ_ _ _ _ h=>af h) (λ_ _ _ h=>af h) (λ_ _ _ h=>af h) (λ_ _ _ _ h=>af h) (λ_ _ _ _ h=>af h) (λ_ _ _ _ _ h=>af h) (λ_ _ _ _ h=>af h) (λ_ _ h=>af h) (λ_ _ h=>af h) (λ_ _ h=>af h) (λ_ _ _ _ h=>af h) (λ_ _ _ _ h=>af h) (λ_ _ _ _ h=>af h) (λ_ _ h=>af h) (λ_ _ _ h=>af h) (λ_ _ _ h=>af h) (λx y z h=>Qa.inj h▸rfl) (λ_ _ h=>af h) (λ_ _ h=>af h) (λ_ _ h=>af h) (λ_ _ _ h=>af h) (λ_ _ _ _ h=>af h)
theorem Bq:xP e=Qa p->e= .Slice p.1 p.2.1 p.2.2.1 p.2.2.2:=Expr.casesOn (motive_1:=λe=>xP e=Qa p->e= .Slice p.1 p.2.1 p.2.2.1 p.2.2.2) e (λ_ _ _ h=>af h) (λ_ _ _ h=>af h) (λ_ _ _ _ h=>af h) (λ_ _ _ h=>af h) (λ_ _ _ _ h=>af h) (λ_ _ _ _ h=>af h) (λ_ _ _ h=>af h) (λ_ _ _ h=>af h) (λ_ _ _ _ h=>af h) (λ_ _ _ _ h=>af h) (λ_ _ _ _ _ h=>af h) (λ_ _ _ _ h=>af h) (λ_ _ h=>af h) (λ_ _ h=>af h) (λ_ _ h=>af h) (λ_ _ _ _ h=>af h) (λ_ _ _ _ h=>af h) (λ_ _ _ _ h=>af h) (λ_ _ h=>af h) (λ_ _ _ h=>af h) (λ_ _ _ h=>af h) (λ_ _ _ h=>af h) (λ_ _ h=>af h) (λ_ _ h=>af h) (λ_ _ h=>af h) (λ_ _ _ h=>af h) (λx y z u h=>Qa.inj h▸rfl)
def qY (e:Expr):Option Str:=(qA e).map (·.1)
def v9 (e:Expr):Option (List Str×Bool):=ay ((qA e).map λp=>([p.1],Qb)) ((u4 e).bind λp=>(oG qY p.1).map λxs=>(xs,Qe))
def vO (outer:List (Str×Qr)) (sc:Scope):List (Str×Qr):=
 sc.names.map λp=>(p.1,if (p.2== .free && outer.lookup p.1==Qa .cell)=Qe then .cell else p.2)
def cg (cx:CC) (sc:Scope) (xs:List Str):CC:=
 {sc:=vO cx.sc sc,jh:=xs.zip (J4 cx.next xs.length)++cx.jh,next:=cx.next+xs.length,gl:=cx.gl}
def Vl (cx:CC) (sc:Scope) (xs:List Str):Bool:=
 sc.kind== .function &&
 (sc.names.all λp=>p.2 != .cell && (p.2 != .local||(sc.names.lookup p.1==Qa .local && (xs.contains p.1||(cx.jh.lookup p.1).isNone))) && (p.2 != .free||(sc.names.lookup p.1==Qa .free && cx.sc.lookup p.1==Qa .cell))) &&
 xs.all (λx=>sc.names.lookup x==Qa .local) && decide xs.Nodup
def Ur:List Ex->List Ex->List Ex
 |k::ks,v::vs=>k::v::Ur ks vs
 |_,_=> []
def Io (cx:CC) (x:Str):Option Ex:=au (j1 x) (JC (motive:=λ_=>Option Ex) (nS cx x) (au (cx.sc.lookup x==Qa .globalImplicit) ((cx.gl.lookup x).map .lit)) λi=>Qa (.var i))
def zfw (f:Expr->Option Ex) (cx:CC) (pos:Pos) (as:List Ex) (g:Expr):Option Ex:=
 ay ((qA g).bind λp=>(Io cx p.1).map λe=> .call e as)
 ((VD g).bind λp=>au (j1 p.2.1 && Vv p.1 && p.2.2.endLine==pos.line) ((f p.1).map λe=> .bh e (dz p.2.1) as))
def La (f:Expr->Option Ex) (lo hi:Option Expr):Option (Nat×List Ex):=
 JC (motive:=λ_=>Option (Nat×List Ex)) lo Qd
  λa=>(f a).bind λx=>JC (motive:=λ_=>Option (Nat×List Ex)) hi Qd λb=>(f b).map λy=>(3,[x,y])
def zgc (f:Expr->Option Ex) (v sl:Expr):Option Ex:=
 JC (motive:=λ_=>Option Ex) (xP sl) ((f v).bind λe=>(f sl).map λi=> .sub e i)
  λp=>au ((qA v).isSome && p.2.2.1.isNone) ((f v).bind λe=>(La f p.1 p.2.1).map λq=> .slice e q.1 q.2)
def lQ:Nat->CC->Expr->Option Ex
 |0,_,_=>Qd
 |n+1,cx,e=>match e with
  | .Constant c _ _=>(Nb c).map .lit
  | .Name x _=>Io cx x
  | .BoolOp op vs _=>(oG (lQ n cx) vs).map (.qh (op== .Or))
  | .BinOp l op r _=>(EJ op).bind λo=>(lQ n cx l).bind λa=>(lQ n cx r).map λb=> .ez o a b
  | .UnaryOp op x _=>au (op== .Not) ((lQ n cx x).map .not)
  | .IfExp t a b _=>(lQ n cx t).bind λt'=>(lQ n cx a).bind λa'=>(lQ n cx b).map λb'=> .ite t' a' b'
  | .List es _=>au (Zj es.length 1000) ((oG (lQ n cx) es).map .list)
  | .Tuple es _ _=>au (Zj es.length 1000) ((oG (lQ n cx) es).map .ba)
  | .Compare l ops cs _=>FE ops λo=>FE cs λr=>(lQ n cx l).bind λa=>(lQ n cx r).map λb=> .ew (ED o) a b
  | .Call f as ks pos=>au (ks.isEmpty && Zj as.length 20) ((oG (lQ n cx) as).bind λbs=>zfw (lQ n cx) cx pos bs f)
  | .Attribute v nm _=>au (j1 nm && Vv v) ((lQ n cx v).map λe=> .aq e (dz nm))
  | .Subscript v sl _=>zgc (lQ n cx) v sl
  | .Dict ks vs _=>au (ks.length==vs.length) ((oG (λo=>o.bind (lQ n cx)) ks).bind λa=>(oG (lQ n cx) vs).map λb=> .dict (Ur a b))
  | .ListComp eh gens sc _=>FE gens λg=>(v9 g.target).bind λt=>au (g.is_async==0 && Vl cx sc t.1) ((lQ n cx g.iter).bind λit=>(oG (lQ n (cg cx sc t.1)) g.ifs).bind λifs=>
    (lQ n (cg cx sc t.1) eh).map λe=> .comp e (J4 cx.next t.1.length) t.2 it ifs)
  |_=>Qd
abbrev pO:CC->Expr->Option Ex:=lQ 60
def Nc (cx:CC) (t:Expr):Option T1:=
 ay ((qA t).bind λp=>au (j1 p.1) ((nS cx p.1).map .nm))
 (ay ((VD t).bind λp=>au (j1 p.2.1) ((pO cx p.1).map λe=> .at e (dz p.2.1)))
 ((Nr t).bind λp=>(pO cx p.1).bind λa=>(pO cx p.2.1).map λb=> .sb a b))
def Gs (cx:CC) (x:Str):Option Nat:=au (j1 x) (nS cx x)
def Nd (cx:CC) (t:Expr):Option (Ex×Nat):=(VD t).bind λp=>au (j1 p.2.1) ((pO cx p.1).map λe=>(e,dz p.2.1))
def Uv (v:Expr):Bool:=!p5 v && ((u4 v).map λp=>!p.1.all (constantsAlone 8)).getD Qe
def Im (es:List Expr):Option (List Str):=(oG qY es).bind λxs=>au (decide xs.Nodup) (Qa xs)
def zix (cx:CC) (v t:Expr):Option Sm:=
 JC (motive:=λ_=>Option Sm) (u4 t) ((Nc cx t).bind λa=>(pO cx v).map λb=> .fq a b)
  λp=>au (Uv v) ((pO cx v).bind λb=>ay ((Im p.1).bind λxs=>(oG (Gs cx) xs).map λis=> .jk (is.map .nm) b)
   (au (!p.1.isEmpty) ((oG (Nd cx) p.1).map λts=> .jk (ts.map λq=> .at q.1 q.2) b)))
def tB:Nat->CC->Qw->Option Sm
 |0,_,_=>Qd
 |n+1,cx,st=>match st with
  | .Expr v _=>au (!p5 v) ((pO cx v).map .expr)
  | .Pass _=>Qa .td
  | .Break _=>Qa .brk
  | .Continue _=>Qa .cont
  | .Return v _=>JC (motive:=λ_=>Option Sm) v (Qa (.ret (.lit .none))) λe=>(pO cx e).map .ret
  | .Assign ts v _=>FE ts (zix cx v)
  | .If t a b _=>(pO cx t).bind λx=>(oG (λs=>Qa ((tB n cx s).getD .gu)) a).bind λy=>(oG (λs=>Qa ((tB n cx s).getD .gu)) b).map λz=> .ite x y z
  | .While t b e _=>au e.isEmpty ((pO cx t).bind λx=>(oG (λs=>Qa ((tB n cx s).getD .gu)) b).map λy=> .wh x y)
  | .For t it b e _=>au e.isEmpty ((v9 t).bind λq=>au (decide q.1.Nodup) ((pO cx it).bind λx=>(oG (Gs cx) q.1).bind λsl=>(oG (λs=>Qa ((tB n cx s).getD .gu)) b).map λy=> .fo sl q.2 x y))
  |_=>Qd
abbrev zaf (cx:CC):List Qw->Option (List Sm):=oG λs=>Qa ((tB 40 cx s).getD .gu)
def vL (ps:List Str) (sc:Scope):List Str:=
 ps++(sc.names.filter λp=>(p.2== .local||p.2== .cell) && !ps.contains p.1).map (·.1)
def MP (ps:List Str) (sc:Scope) (gl:List (Str×ab)):CC:=
 {sc:=sc.names,jh:=(vL ps sc).zip (J4 0 (vL ps sc).length),next:=(vL ps sc).length,gl:=gl}
def Vn (gl:List (Str×ab)) (params:QW) (body:List Qw) (sc:Scope):Option (Nat×Nat×List Sm):=
 au (params.posonlyargs.isEmpty && params.vararg.isNone && params.kwonlyargs.isEmpty && params.kwarg.isNone && sc.kind== .function && !sc.isGenerator && !sc.isCoroutine && (params.args.map (·.arg)).all (λx=>sc.names.lookup x==Qa .local||sc.names.lookup x==Qa .cell))
  ((zaf (MP (params.args.map (·.arg)) sc gl) body).map λb=>((params.args.map (·.arg)).length,(vL (params.args.map (·.arg)) sc).length+6,b))
end Internal
namespace Internal
open PySem PySem.W PySem.Calls PyProof.Rows
variable {D Ia L N a c ca fa la:Qj}{P:Qj->Str->Prop}{params:QW}{A A':QP}{f:Array Qh->Array Qh}{p:Array Nat}{its:Array Value}{many:Bool}{d1 d2:Data}{env:Env}{mean:ExcName->Option Value}{eh iter t value:Expr}{f6:Jj}{K:Frag}{fd:QR}{h h' h₀:QB}{hsh:Int}{z:It}{O:KeyOrd}{args:List (Bool×Sem Value)}{ks:List (Option Expr)}{cl cs:List (Str×Qj)}{fs:List (Value->Sem Unit)}{es es':List Qh}{ifs:List Expr}{tg:List Nat}{b body:List Qw}{loose nms xs:List Str}{q:List Str×Bool}{first operands us vs vs':List Value}{D0 c' d e ep i j n n' src:Nat}{G:Nat×Array Nat->Qf->Prop}{ew:Nat->Nat->(Bool->Qf->Prop) ->Qf->Prop}{I:Nat->Qf->Prop}{io o oN oa ob ob':Obj}{op:Operator}{hi hi' lo lo':Option Expr}{apos pos ps sp tpos xp:Pos}{prog:Qx}{R:Result->Qf->Prop}{sc scope:Scope}{whole:Sem Value}{s s' s0 s1 s2 s4 s6 s₁:Qf}{X:Qf->Prop}{st:Qw}{aq nm qual x:Str}{cm m mE mN mb mg:Str->Option Value}{id:String}{α β γ δ:Type}{Q:Unit->Qf->Prop}{c1 c2 cdv gv kv rv v vi vl vo vu vv vx vy yv:Value}{E:Value->Qf->Prop}
abbrev bp:=List (Qj×Obj)
structure bf where
 prog:Qx
 w:Qn
 K:Frag
 P:ik
 ad:List (Nat×Qj)
abbrev bf.M (C:bf):Model:=model C.prog C.w
def rM : List (Nat × String) := [(GE,"range"),(Hc,"list"),(Em,"dict"),(Iq,"tuple"),(zbQ,"str"),(zbS,"int"),(SF,"type"),(zeu,"set"),(SJ,"bool"),(UH,"NoneType")]
def xK : List (Nat × String) := [(vE,"len"),(Pq,"max"),(zew,"min"),(tR,"sorted")]
def sx (s:List Nat):Prop:=(∀c∈s,c<0x110000)/\s.length<=bb
structure Wd where
 σ:List Qj
 tp:bp
structure Wd.le (w w':Wd):Prop where
 s:w.σ<+:w'.σ
 t: ∀p∈w.tp,p∈w'.tp
theorem Wd.le.refl (w:Wd):w.le w:=⟨K8 _,λ_ x=>x⟩
theorem Wd.le.trans {a b c:Wd} (x:a.le b) (y:b.le c):a.le c:=⟨x.1.trans y.1,λp hp=>y.2 p (x.2 p hp)⟩
variable {w w':Wd}
def Wd.le.get (l:w.le w') (h:w.σ[i]?=Qa a):w'.σ[i]?=Qa a:=by
 refine Zv l.s λt zq21=>?_;refine(Ju.mp h).elim λhl zq20=>?_;rw[<-zq21,Kg hl];exact h
structure ziG (C:bf) (tp:bp) (a:Qj) (o:Obj) (n:Nat) (vs:List Value):Prop where
 at':(a,o)∈tp\/C.K.lookup a=Qa o
 cls : o.cls = .type "tuple"
 data:o.data= .seq vs.toArray n
structure jQ (C:bf) (a:Qj) (o:Obj) (n:Nat) (vs:List Value):Prop where
 at':C.K.lookup a=Qa o
 cls : o.cls = .type "list"
 data:o.data= .seq vs.toArray n
abbrev zbq (t : Tok) (n : Int) (u v : Tok) : Obj := { cls := .type "range",dict := Qd,data := .fields #[.int 0 t,.int n u,.int 1 v],slots := #[] }
structure ziF (tp:bp) (a:Qj) (o:Obj) (es:Array (Int×Value)) (ep:Nat) (t:SetTable) (n:Nat):Prop where
 at':(a,o)∈tp
 ex:o.ExactSet
 data:o.data= .set es ep t
 fits:t.fits es.size=Qe
 size:es.size=n
 le:n<=bb
inductive Sf (C:bf) (tp:bp) (l:Nat) (R:List Value->Prop) (v:Value):Prop
 |mk (a:Qj) (o:Obj) (n:Nat) (vs:List Value) (e:v= .ref a) (q:ziG C tp a o n vs) (r:R vs) (hl:l<=bb):Sf C tp l R v
inductive c7 (C:bf) (l:Nat) (R:List Value->Prop) (v:Value):Prop
 |mk (a:Qj) (o:Obj) (n:Nat) (vs:List Value) (e:v= .ref a) (q:jQ C a o n vs) (r:R vs) (hl:l<=bb):c7 C l R v
inductive zc6 (tp:bp) (n:Int) (x:Value):Prop
 |mk (a:Qj) (t u v:Tok) (e:x= .ref a) (h:(a,zbq t n u v)∈tp):zc6 tp n x
inductive Do (P:Value->Prop) (R:List Value->Prop) (vs:List Value):Prop
 |mk (v:Value) (r:List Value) (e:vs=v::r) (h:P v) (t:R r):Do P R vs
mutual
noncomputable def jV (C:bf) (w:Wd):ab->Value->Prop
 | .none=>λv=>v= .none
 | .bool b=>λv=>v= .bool b
 | .int i=>λv=> ∃t,v= .int i t
 | .str s=>λv=> ∃t,v= .str ⟨s.toArray⟩ t/\sx s
 | .ba mvs=>λv=>Sf C w.tp mvs.length (jU C w mvs) v
 | .ref i=>λv=> ∃a,v= .ref a/\w.σ[i]?=Qa a
 | .ai id=>λv=> ∃a,v= .ref a/\C.ad.lookup id=Qa a
 | .ty c=>λv=> ∃n,v= .type n/\rM.lookup c=Qa n
 | .bi c=>λv=> ∃n,v= .builtin n/\xK.lookup c=Qa n
 | .fy n=>λx=>zc6 w.tp n x
 | .fl mvs=>λv=>c7 C mvs.length (jU C w mvs) v
 | .qo n=>λv=> ∃a o es ep t,v= .ref a/\ziF w.tp a o es ep t n
noncomputable def jU (C:bf) (w:Wd):List ab->List Value->Prop
 | []=>λvs=>vs= []
 |m::ms=>λvs=>Do (jV C w m) (jU C w ms) vs
end
variable {C:bf}{mvs:List ab}
section
variable {x:ab}
theorem jU.nil:jU C w [] []:=rfl
theorem jU.cons {m:ab}{ms:List ab} (h:jV C w m v) (r:jU C w ms vs):jU C w (m::ms) (v::vs):=⟨v,vs,rfl,h,r⟩
theorem jU.da (h:jV C w x v):jU C w [x] [v]:= .cons h .nil
def jU.length: ∀ {ms:List ab}{vs:List Value},jU C w ms vs->ms.length=vs.length:=by
 intro ms
 induction ms with
 |nil=>intro vs h;exact congrArg Z3 (K7 h)
 |cons m ms ih=>
  intro vs h;obtain⟨v,r,rfl,_,h⟩:=h;exact congrArg ZP (ih h)
def jV.mono' (l:w.le w') (m:ab): ∀v,jV C w m v->jV C w' m v:=by
 refine ab.rec (motive_1:=λm=> ∀v,jV C w m v->jV C w' m v) (motive_2:=λms=> ∀vs,jU C w ms vs->jU C w' ms vs) (λ_ h=>h) (λ_ _ h=>h) (λ_ _ h=>h) (λ_ _ h=>h) ?_ ?_ (λ_ _ h=>h) (λ_ _ h=>h) (λ_ _ h=>h) ?_ ?_ ?_ (λ_ h=>h) ?_ m
 ·exact λms ih v h=>Sf.casesOn h λa o n vs e h r k=>⟨a,o,n,vs,e,⟨h.1.imp (l.t _) id,h.2,h.3⟩,ih vs r,k⟩
 ·exact λi v h=>h.elim λa h=>⟨a,h.1,l.get h.2⟩
 ·exact λn v h=>zc6.casesOn h λa t u x e h=>⟨a,t,u,x,e,l.t _ h⟩
 ·exact λms ih v h=>c7.casesOn h λa o n vs e h r k=>⟨a,o,n,vs,e,h,ih vs r,k⟩
 ·exact λn v h=>by
   refine xEE h λa o cv=>?_;refine xEE cv λes ep gq=>?_;refine xEA gq λt e h=>?_;exact⟨a,o,es,ep,t,e,l.t _ h.1,h.2,h.3,h.4,h.5,h.6⟩
 ·exact λm ms i1 i2 vs h=>Do.casesOn h λv r e h h'=>⟨v,r,e,i1 v h,i2 r h'⟩
theorem jV.mono (l:w.le w') (h:jV C w x v):jV C w' x v:=jV.mono' l x v h
def jU.mono (l:w.le w'): ∀ {ms:List ab}{vs:List Value},jU C w ms vs->jU C w' ms vs:=by
 intro ms
 induction ms with
 |nil=>exact λh=>h
 |cons m ms ih=>
  exact λh=>Do.casesOn h λv r e h h'=>⟨v,r,e,h.mono l,ih h'⟩
def jU.get: ∀ {ms:List ab}{vs:List Value}{i:Nat}{m:ab},jU C w ms vs->ms[i]?=Qa m-> ∃v,vs[i]?=Qa v/\jV C w m v:=by
 intro ms
 induction ms with
 |nil=>exact λ_ e=>af e
 |cons m ms ih=>
  intro vs i m' h e;obtain⟨v,r,rfl,h,h'⟩:=h;cases i with
  |zero=>exact⟨v,rfl,Qa.inj e▸h⟩
  |succ i=>exact ih (i:=i) h' e
def jU.append {ms':List ab} (h':jU C w ms' vs'): ∀ {ms:List ab}{vs:List Value},jU C w ms vs->jU C w (ms++ms') (vs++vs'):=by
 intro ms
 induction ms with
 |nil=>intro vs h;rw[show vs= [] from h];exact h'
 |cons m ms ih=>
  exact λh=>Do.casesOn h λv r e h hr=>⟨v,r++vs',congrArg (· ++vs') e,h,ih hr⟩
theorem jV.int? {i:Int}:jV C w x v->x.int?=Qa i-> ∃t,v= .int i t:=
 ab.casesOn (motive_1:=λx=>jV C w x v->x.int?=Qa i-> ∃t,v= .int i t) x (λ_ e=>af e) (λ_ _ e=>af e) (λ_ h e=>Qa.inj e▸h) (λ_ _ e=>af e) (λ_ _ e=>af e) (λ_ _ e=>af e) (λ_ _ e=>af e) (λ_ _ e=>af e) (λ_ _ e=>af e) (λ_ _ e=>af e) (λ_ _ e=>af e) (λ_ _ e=>af e)
theorem jV.str? {i:List Nat}:jV C w x v->x.str?=Qa i-> ∃t,v= .str ⟨i.toArray⟩ t/\sx i:=
 ab.casesOn (motive_1:=λx=>jV C w x v->x.str?=Qa i-> ∃t,v= .str ⟨i.toArray⟩ t/\sx i) x (λ_ e=>af e) (λ_ _ e=>af e) (λ_ _ e=>af e) (λ_ h e=>Qa.inj e▸h) (λ_ _ e=>af e) (λ_ _ e=>af e) (λ_ _ e=>af e) (λ_ _ e=>af e) (λ_ _ e=>af e) (λ_ _ e=>af e) (λ_ _ e=>af e) (λ_ _ e=>af e)
theorem tup?_s {i:List ab}:x.tup?=Qa i->x= .ba i:=
 ab.casesOn (motive_1:=λx=>x.tup?=Qa i->x= .ba i) x (λe=>af e) (λ_ e=>af e) (λ_ e=>af e) (λ_ e=>af e) (λ_ e=>Qa.inj e▸rfl) (λ_ e=>af e) (λ_ e=>af e) (λ_ e=>af e) (λ_ e=>af e) (λ_ e=>af e) (λ_ e=>af e) (λ_ e=>af e)
theorem ref?_s {i:Nat}:x.ref?=Qa i->x= .ref i:=
 ab.casesOn (motive_1:=λx=>x.ref?=Qa i->x= .ref i) x (λe=>af e) (λ_ e=>af e) (λ_ e=>af e) (λ_ e=>af e) (λ_ e=>af e) (λ_ e=>Qa.inj e▸rfl) (λ_ e=>af e) (λ_ e=>af e) (λ_ e=>af e) (λ_ e=>af e) (λ_ e=>af e) (λ_ e=>af e)
theorem top?_s {i:Nat}:x.top?=Qa i->x= .ai i:=
 ab.casesOn (motive_1:=λx=>x.top?=Qa i->x= .ai i) x (λe=>af e) (λ_ e=>af e) (λ_ e=>af e) (λ_ e=>af e) (λ_ e=>af e) (λ_ e=>af e) (λ_ e=>Qa.inj e▸rfl) (λ_ e=>af e) (λ_ e=>af e) (λ_ e=>af e) (λ_ e=>af e) (λ_ e=>af e)
theorem ty?_s {i:Nat}:x.ty?=Qa i->x= .ty i:=
 ab.casesOn (motive_1:=λx=>x.ty?=Qa i->x= .ty i) x (λe=>af e) (λ_ e=>af e) (λ_ e=>af e) (λ_ e=>af e) (λ_ e=>af e) (λ_ e=>af e) (λ_ e=>af e) (λ_ e=>Qa.inj e▸rfl) (λ_ e=>af e) (λ_ e=>af e) (λ_ e=>af e) (λ_ e=>af e)
theorem bi?_s {i:Nat}:x.bi?=Qa i->x= .bi i:=
 ab.casesOn (motive_1:=λx=>x.bi?=Qa i->x= .bi i) x (λe=>af e) (λ_ e=>af e) (λ_ e=>af e) (λ_ e=>af e) (λ_ e=>af e) (λ_ e=>af e) (λ_ e=>af e) (λ_ e=>af e) (λ_ e=>Qa.inj e▸rfl) (λ_ e=>af e) (λ_ e=>af e) (λ_ e=>af e)
theorem fl?_s {i:List ab}:x.fl?=Qa i->x= .fl i:=
 ab.casesOn (motive_1:=λx=>x.fl?=Qa i->x= .fl i) x (λe=>af e) (λ_ e=>af e) (λ_ e=>af e) (λ_ e=>af e) (λ_ e=>af e) (λ_ e=>af e) (λ_ e=>af e) (λ_ e=>af e) (λ_ e=>af e) (λ_ e=>af e) (λ_ e=>Qa.inj e▸rfl) (λ_ e=>af e)
theorem bool?_s {i:Bool}:x.bool?=Qa i->x= .bool i:=
 ab.casesOn (motive_1:=λx=>x.bool?=Qa i->x= .bool i) x (λe=>af e) (λ_ e=>Qa.inj e▸rfl) (λ_ e=>af e) (λ_ e=>af e) (λ_ e=>af e) (λ_ e=>af e) (λ_ e=>af e) (λ_ e=>af e) (λ_ e=>af e) (λ_ e=>af e) (λ_ e=>af e) (λ_ e=>af e)
theorem rng?_s {i:Int}:x.rng?=Qa i->x= .fy i:=
 ab.casesOn (motive_1:=λx=>x.rng?=Qa i->x= .fy i) x (λe=>af e) (λ_ e=>af e) (λ_ e=>af e) (λ_ e=>af e) (λ_ e=>af e) (λ_ e=>af e) (λ_ e=>af e) (λ_ e=>af e) (λ_ e=>af e) (λ_ e=>Qa.inj e▸rfl) (λ_ e=>af e) (λ_ e=>af e)
theorem Hx:x.isNone=Qe->x= .none:=
 ab.casesOn (motive_1:=λx=>x.isNone=Qe->x= .none) x (λ_=>rfl) (λ_=>λh=>JH h) (λ_=>λh=>JH h) (λ_=>λh=>JH h) (λ_=>λh=>JH h) (λ_=>λh=>JH h) (λ_=>λh=>JH h) (λ_=>λh=>JH h) (λ_=>λh=>JH h) (λ_=>λh=>JH h) (λ_=>λh=>JH h) (λ_=>λh=>JH h)
theorem list?_s {o:ae}{i:List ab}:o.list?=Qa i->o= .list i:=
 ae.casesOn (motive:=λo=>o.list?=Qa i->o= .list i) o (λ_ e=>Qa.inj e▸rfl) (λ_ _ e=>af e) (λ_ _ e=>af e)
theorem dict?_s {o:ae}{i:Option Nat×List (ab×ab)}:o.dict?=Qa i->o= .dict i.1 i.2:=
 ae.casesOn (motive:=λo=>o.dict?=Qa i->o= .dict i.1 i.2) o (λ_ e=>af e) (λ_ _ e=>Qa.inj e▸rfl) (λ_ _ e=>af e)
theorem inst?_s {o:ae}{i:Nat×List (Nat×ab)}:o.inst?=Qa i->o= .inst i.1 i.2:=
 ae.casesOn (motive:=λo=>o.inst?=Qa i->o= .inst i.1 i.2) o (λ_ e=>af e) (λ_ _ e=>af e) (λ_ _ e=>Qa.inj e▸rfl)
end
inductive zdd (n:Nat) (P:Value->Prop) (R:List Qh->Prop) (es:List Qh):Prop
 |mk (x:Str) (t:Tok) (hsh:Int) (v:Value) (r:List Qh) (e:es=⟨hsh,.str x t,v⟩::r) (nm:j1 x=Qe) (en:dz x=n) (h:P v) (t:R r):zdd n P R es
def tN (C:bf) (w:Wd):List (Nat×ab) ->List Qh->Prop
 | []=>λes=>es= []
 |p::fs=>λes=>zdd p.1 (jV C w p.2) (tN C w fs) es
def tN.mono (l:w.le w'): ∀ {fs:List (Nat×ab)}{es:List Qh},tN C w fs es->tN C w' fs es:=by
 intro fs
 induction fs with
 |nil=>exact λh=>h
 |cons p fs ih=>
  exact λh=>zdd.casesOn h λx t hsh v r e h1 h2 h3 h4=>⟨x,t,hsh,v,r,e,h1,h2,h3.mono l,ih h4⟩
set_option genInjectivity true in
inductive ao where
 |i (n:Int)
 |s (x:Str)
 deriving DecidableEq
def ao.val (a:ao):ab:=ao.casesOn (motive:=λ_=>ab) a .int (λx=> .str x.cps.toList)
def ao.is (a:ao) (v:Value):Bool:=ao.casesOn (motive:=λ_=>Bool) a (λn=>Value.isInt n v) (λx=>Value.isStrOf x v)
def ao.hash (w:Qn) (a:ao):Int:=ao.casesOn (motive:=λ_=>Int) a hashInt (λx=>hashStr w x)
def ao.inj (v:Value) (a b:ao) (ha:a.is v=Qe) (hb:b.is v=Qe):a=b:=by
 cases a with
 |i n=>
  cases b with
  |i k=>rw[Value.isInt_inj v _ _ ha hb]
  |s y=>obtain⟨t,rfl⟩:=Ko ha;cases hb
 |s x=>
  cases b with
  |i k=>obtain⟨t,rfl⟩:=Ko hb;cases ha
  |s y=>rw[Value.isStrOf_inj v _ _ ha hb]
def ao.ud (k:ao) (v:Value) (h:k.is v=Qe):carriedByValue v=true:=by
 cases k with
 |i n=>obtain⟨t,rfl⟩:=Ko h;rfl
 |s x=>obtain⟨t,rfl⟩:=Kn h;rfl
def ao.pyHash {w:Qn}{k:ao}{Q:Int->Qf->Prop} (hv:k.is v=Qe) (h:Q (k.hash w) {s with toks:=s.toks+1}):Qi (model prog w) A (PySem.pyHash v) Q E s:=by
 cases k with
 |i n=>obtain⟨t,rfl⟩:=Ko hv;exact wpAny_pyHash_int h
 |s x=>obtain⟨t,rfl⟩:=Kn hv;exact wpAny_pyHash_str h
def ao.eqBool {w:Qn}{a b:ao}{u:Value}{Q:Bool->Qf->Prop} (hu:a.is u=Qe) (hv:b.is v=Qe) (h:Q (decide (a=b)) s):Qi (model prog w) A (PySem.eqBool u v) Q E s:=by
 cases a with
 |i n=>
  obtain⟨t,rfl⟩:=Ko hu;cases b with
  |i k=>
   obtain⟨u,rfl⟩:=Ko hv;refine wpAny_eqBool_int ?_;simp only[ao.i.injEq] at h
   first|exact h|(simp only[beq_eq_decide];exact h)
  |s y=>
   obtain⟨u,rfl⟩:=Kn hv;exact SeqAt.EqAt.int_str _ _ _ _ _ _ _ _ (by simpa using h)
 |s x=>
  obtain⟨t,rfl⟩:=Kn hu;cases b with
  |i k=>
   obtain⟨u,rfl⟩:=Ko hv;exact SeqAt.EqAt.str_int _ _ _ _ _ _ _ _ (by simpa using h)
  |s y=>
   obtain⟨u,rfl⟩:=Kn hv;exact wpAny_eqBool_str (by simpa using h)
def ao.sj (k:ao) (x:Str) (t:Tok) (v:Value) (h:k.is (.str x t)=Qe):k.is v=v.isStr x:=by
 cases k with
 |i n=>cases h
 |s y=>
  have h':(x==y)=true:=h;rw[beq_iff_eq] at h';refine eqE h' ?_;cases v<;>rfl
def kH (prog:Qx) (w:Qn):KeyKind prog w ao:=
 ⟨ao.is,ao.hash w,ao.inj,ao.ud,ao.pyHash,ao.eqBool,ao.sj⟩
def ao.ok (a:ao):Prop:=ao.casesOn (motive:=λ_=>Prop) a (λ_=>True) (λx=>sx x.cps.toList)
structure DA (C:bf) (w:Wd) (mes:List (ab×ab)) (es:List Qh) (kvs:List (ao×Value)):Prop where
 p:Pairs (kH C.prog C.w) es kvs
 k:KeysOf (kH C.prog C.w) es.toArray
 n:(kvs.map (·.1)).Nodup
 e:mes.map (·.1)=kvs.map (λp=>p.1.val)
 ok: ∀p∈kvs,p.1.ok
 r:jU C w (mes.map (·.2)) (kvs.map (·.2))
structure DT (C:bf) (w:Wd) (mes:List (ab×ab)) (es:List Qh) (xs:List (List ao×Qj×Value)):Prop where
 es:es=xs.map (entryOfKey (tupleKind (kH C.prog C.w)))
 n:(xs.map (·.1)).Nodup
 v: ∀x∈xs,jV C w (.ba (x.1.map ao.val)) (.ref x.2.1)
 e:mes.map (·.1)=xs.map (λx=>ab.ba (x.1.map ao.val))
 r:jU C w (mes.map (·.2)) (xs.map (·.2.2))
def sA (C:bf) (w:Wd) (mes:List (ab×ab)) (es:List Qh):Prop:=(∃kvs,DA C w mes es kvs)\/∃xs,DT C w mes es xs
variable {mes:List (ab×ab)}
theorem sA.mono (l:w.le w') (h:sA C w mes es):sA C w' mes es:=
 h.imp (λ⟨kvs,D⟩=>⟨kvs,D.p,D.k,D.n,D.e,D.ok,D.r.mono l⟩) λ⟨xs,D⟩=>⟨xs,D.es,D.n,λx hx=>(D.v x hx).mono l,D.e,D.r.mono l⟩
inductive zc9 (C:bf) (w:Wd) (a:Qj) (mvs:List ab) (en:bp):Prop
 |mk (vs:List Value) (n:Nat) (e:en= [(a,listOf vs.toArray n)]) (r:jU C w mvs vs) (l:mvs.length<=bb):zc9 C w a mvs en
inductive zdf (C:bf) (w:Wd) (a:Qj) (ep:Option Nat) (mes:List (ab×ab)) (en:bp):Prop
 |mk (es:List Qh) (n:Nat) (e:en= [(a,Ql es n)]) (hep: ∀e,ep=Qa e->n=e) (d:sA C w mes es) (l:mes.length<=bb):zdf C w a ep mes en
inductive zdb (C:bf) (w:Wd) (a:Qj) (id:Nat) (fs:List (Nat×ab)) (en:bp):Prop
 |mk (c dx:Qj) (es:List Qh) (n:Nat) (e:en= [(a,instObj c dx),(dx,Ql es n)]) (hc:C.ad.lookup id=Qa c) (f:tN C w fs es) (l:fs.length<=500):zdb C w a id fs en
def uQ (C:bf) (w:Wd) (a:Qj) (o:ae):bp->Prop:=ae.casesOn (motive:=λ_=>bp->Prop) o
 (zc9 C w a) (zdf C w a) (zdb C w a)
variable {en:bp}
theorem uQ.mono (l:w.le w') {o:ae}:uQ C w a o en->uQ C w' a o en:=
 ae.casesOn (motive:=λo=>uQ C w a o en->uQ C w' a o en) o
  (λ_ h=>zc9.casesOn h λvs n e h k=> .mk vs n e (h.mono l) k) (λ_ _ h=>zdf.casesOn h λes n e h h' k=> .mk es n e h (h'.mono l) k) (λ_ _ h=>zdb.casesOn h λc dx es n e h h' k=> .mk c dx es n e h (h'.mono l) k)
inductive NU (P:ae->bp->Prop) (R:MH->List bp->Prop) (H:MH) (os:List bp):Prop
 |mk (o:ae) (H':MH) (en:bp) (os':List bp) (e1:H=o::H') (e2:os=en::os') (h:P o en) (t:R H' os'):NU P R H os
def r7 (C:bf) (w:Wd):List Qj->MH->List bp->Prop
 | []=>λH os=>H= []/\os= []
 |a::as=>NU (uQ C w a) (r7 C w as)
def r7.mono (l:w.le w'): ∀ {as:List Qj}{H:MH}{os:List bp},r7 C w as H os->r7 C w' as H os:=by
 intro as
 induction as with
 |nil=>exact λh=>h
 |cons a as ih=>
  exact λh=>NU.casesOn h λo H' en os' e1 e2 h r=>⟨o,H',en,os',e1,e2,h.mono l,ih r⟩
def r7.xy {o:ae} (h':uQ C w a o en): ∀ {as:List Qj}{H:MH}{os:List bp},r7 C w as H os->r7 C w (as++ [a]) (H++ [o]) (os++ [en]):=by
 intro as
 induction as with
 |nil=>
  exact λh=>⟨o,[],en,[],congrArg (· ++ [o]) h.1,congrArg (· ++ [en]) h.2,h',rfl,rfl⟩
 |cons b as ih=>
  exact λh=>NU.casesOn h λo1 H' en1 os' e1 e2 h r=>⟨o1,H'++ [o],en1,os'++ [en],congrArg (· ++ [o]) e1,congrArg (· ++ [en]) e2,h,ih r⟩
def r7.length: ∀ {as:List Qj}{H:MH}{os:List bp},r7 C w as H os->as.length=H.length:=by
 intro as
 induction as with
 |nil=>exact λh=>congrArg Z3 h.1.symm
 |cons b as ih=>exact λh=>NU.casesOn h λo1 H' en1 os' e1 _ _ r=>(congrArg ZP (ih r)).trans (congrArg Z3 e1.symm)
inductive zau (C:bf) (w:Wd) (as:List Qj) (i:Nat) (a:Qj) (o:ae) (H:MH) (os:List bp):Prop
 |mk (pre:List bp) (en:bp) (post:List bp) (e:os=pre++en::post) (r:uQ C w a o en) (g: ∀o' en',uQ C w a o' en'->r7 C w as (H.set i o') (pre++en'::post)):zau C w as i a o H os
def r7.at {o:ae}: ∀ {as:List Qj}{i:Nat}{H:MH}{os:List bp},r7 C w as H os->as[i]?=Qa a->H[i]?=Qa o->
  zau C w as i a o H os:=by
 intro as
 induction as with
 |nil=>exact λ_ e=>af e
 |cons b as ih=>
  intro i H os h ha ho;obtain⟨o1,H',en1,os',rfl,rfl,h,r⟩:=h;cases i with
  |zero=>
   refine lW ha ?_;refine lW ho ?_;exact⟨[],en1,os',rfl,h,λo' en' h'=>⟨o',H',en',os',rfl,rfl,h',r⟩⟩
  |succ i=>
   obtain⟨pre,en,post,rfl,hr,k⟩:=ih (i:=i) r ha ho;exact⟨en1::pre,en,post,rfl,hr,λo' en' h'=>⟨o1,_,en1,_,rfl,rfl,h,k o' en' h'⟩⟩
structure Kp where
 ce:bp
 ex:bp
 m:Str->Option Value
def bp.nd (l:bp):Prop:=(l.map (·.1)).Nodup
theorem bp.nd.jf {a b:bp} (p:a.Perm b) (h:bp.nd a):bp.nd b:=(p.map λq:Qj×Obj=>q.1).nodup_iff.mp h
def Kp.all (k:Kp) (w:Wd) (os:List bp):bp:=os.flatten++(w.tp++(k.ce++k.ex))
inductive wy (C:bf) (h₀:QB) (L:Qj) (k:Kp) (w:Wd) (H:MH) (h:QB):Prop
 |mk (os:List bp) (he:r7 C w w.σ H os) (hn:News h₀ L h (k.all w os)) (hd:bp.nd (k.all w os)):wy C h₀ L k w H h
structure bw (C:bf) (h₀:QB) (L:Qj) (k:Kp) (w:Wd) (H:MH) (h:QB):Prop where
 fr:Fr h₀ L h k.m
 os:wy C h₀ L k w H h
 ol:4<=h₀.objs.size
 lo: ∀a∈w.σ,4<=a
variable {post:bp}
def v7 {d:Qj}{o':Obj}: ∀ {pre:bp},bp.nd (pre++(d,o)::post) ->Upd d o o' (pre++(d,o)::post) (pre++(d,o')::post):=by
 intro pre
 induction pre with
 |nil=>exact λh=> .head λp hp e=>(JI.mp h).1 (JJ.mpr ⟨p,hp,e⟩)
 |cons q pre ih=>exact λh=> .tail (λe=>(JI.mp h).1 (JJ.mpr ⟨(d,o),JR _ (.head _),e.symm⟩)) (ih (JI.mp h).2)
variable {k:Kp}{H:MH}
theorem bw.len (S:bw C h₀ L k w H h):w.σ.length=H.length:=wy.casesOn S.os λ_ he _ _=>he.length
inductive e9 (C:bf) (h₀:QB) (L:Qj) (k:Kp) (w:Wd) (H:MH) (h:QB) (i:Nat) (a:Qj) (o:ae):Prop
 |mk (pre en post:bp) (r:uQ C w a o en) (n:News h₀ L h (pre++(en++post))) (d:bp.nd (pre++(en++post)))
   (g: ∀o' en' h',en'.map (·.1)=en.map (·.1) ->uQ C w a o' en'->Fr h₀ L h' k.m->News h₀ L h' (pre++(en'++post)) ->bw C h₀ L k w (H.set i o') h'):e9 C h₀ L k w H h i a o
def bw.at (S:bw C h₀ L k w H h) {o:ae} (ha:w.σ[i]?=Qa a) (ho:H[i]?=Qa o):
  e9 C h₀ L k w H h i a o:=by
 obtain⟨os,he,hn,hd⟩:=S.os;obtain⟨pre,en,post,rfl,hr,g⟩:=he.at ha ho;have e: ∀en1:bp,k.all w (pre++en1::post)=pre.flatten++(en1++(post.flatten++(w.tp++(k.ce++k.ex)))):=by
  intro en1;unfold Kp.all;rw[Yy,K3,JD,JD]
 rw[e] at hn hd;refine⟨pre.flatten,en,_,hr,hn,hd,λo' en' h' hm hr' F N=>⟨F,⟨pre++en'::post,g o' en' hr',(e en').symm▸N,(e en').symm▸?_⟩,S.ol,S.lo⟩⟩;unfold bp.nd at hd ⊢;rw[JU,JU] at hd ⊢;rw[hm];exact hd
def WG (k:Kp) (w:Wd) (a:Qj) (en:bp) (os:List bp):(en++k.all w os).Perm (k.all ⟨w.σ++ [a],w.tp⟩ (os++ [en])):=by
 delta Kp.all;simp only[Yy,K3,List.flatten_nil,Zm,JD];exact KB _ _ _
theorem Ef (k:Kp) (w:Wd) (p:Qj×Obj) (os:List bp):([p]++k.all w os).Perm (k.all ⟨w.σ,p::w.tp⟩ os):=(YV (a:=p) (l₁:=os.flatten) (l₂:=w.tp++(k.ce++k.ex))).symm
theorem bw.ux (S:bw C h₀ L k w H h) (ha:4<=a): ∀b∈w.σ++ [a],4<=b:=λb hb=>(Zd.mp hb).elim (S.lo b) λhb=>JE.mp hb▸ha
theorem bw.pa (S:bw C h₀ L k w H h) (ha:h.objs.size<=a):4<=a:=Jl S.ol (Jl S.fr.above (Jl (JK S.fr.ns.lt) ha))
inductive Si (C:bf) (h₀:QB) (L:Qj) (k:Kp) (w:Wd) (H:MH) (h:QB):Prop
 |mk (all:bp) (n:News h₀ L h all)
  (add: ∀ (a:Qj) (o:ae) (en:bp) (h':QB),uQ C ⟨w.σ++ [a],w.tp⟩ a o en->Fr h₀ L h' k.m->News h₀ L h' (en++all) ->bp.nd en->(∀p∈en,∀q∈all,p.1≠q.1) ->4<=a->bw C h₀ L k ⟨w.σ++ [a],w.tp⟩ (H++ [o]) h')
  (tp: ∀ (a:Qj) (o:Obj) (h':QB),Fr h₀ L h' k.m->News h₀ L h' ((a,o)::all) ->h.objs.size<=a->bw C h₀ L k ⟨w.σ,(a,o)::w.tp⟩ H h')
  (heap: ∀h':QB,Fr h₀ L h' k.m->News h₀ L h' all->bw C h₀ L k w H h'):Si C h₀ L k w H h
def GC {all:bp} (h:bp.nd en) (h':bp.nd all) (hf: ∀p∈en,∀q∈all,p.1≠q.1):bp.nd (en++all):=by
 delta bp.nd;rw[JU,Kq];refine⟨h,h',λx hx y hy=>?_⟩;obtain⟨p,hp,rfl⟩:=JJ.mp hx;obtain⟨q,hq,rfl⟩:=JJ.mp hy;exact hf p hp q hq
theorem News.gy {all:bp} (hn:News h₀ L h all) (he: ∀p∈en,h.objs.size<=p.1): ∀p∈en,∀q∈all,p.1≠q.1:=
 λp hp q hq e=>absurd (K4 (hn q hq).1) (ZU.mpr (e▸he p hp))
theorem o8 (p:Qj×Obj):bp.nd [p]:=JI.mpr ⟨JB,.nil⟩
def bw.dj (S:bw C h₀ L k w H h):Si C h₀ L k w H h:=by
 obtain⟨os,he,hn,hd⟩:=S.os;refine⟨_,hn,λa o en h' hr F N hen hf h4=>⟨F,⟨os++ [en],r7.xy hr (r7.mono (w:=w) (w':=⟨w.σ++ [a],w.tp⟩) ⟨J6 _ _,λ_ x=>x⟩ he),λp hp=>N p ((WG k w a en os).mem_iff.mpr hp),bp.nd.jf (WG k w a en os) (GC hen hd hf)⟩,S.ol,S.ux h4⟩,
  λa o h' F N ha=>⟨F,⟨os,r7.mono (w:=w) (w':=⟨w.σ,(a,o)::w.tp⟩) ⟨K8 _,λ_ x=> .tail _ x⟩ he,λp hp=>N p ((Ef k w (a,o) os).mem_iff.mpr hp),bp.nd.jf (Ef k w (a,o) os) (GC (o8 _) hd (News.gy hn λp hp=>JE.mp hp▸ha))⟩,S.ol,S.lo⟩,
  λh' F N=>⟨F,⟨os,he,N,hd⟩,S.ol,S.lo⟩⟩
theorem bw.news (S:bw C h₀ L k w H h): ∃all,News h₀ L h all:=wy.casesOn S.os λ_ _ hn _=>⟨_,hn⟩
theorem bw.vj (S:bw C h₀ L k w H h) (hc:(c,o)∈w.tp):h.get? c=Qa o:=wy.casesOn S.os λ_ _ hn _=>(hn (c,o) (JR _ (ZQ _ hc))).1
theorem bw.zb (S:bw C h₀ L k w H h) (hc:(c,o)∈k.ce):h.get? c=Qa o:=wy.casesOn S.os λ_ _ hn _=>(hn (c,o) (JR _ (JR _ (ZQ _ hc)))).1
theorem bw.cC (S:bw C h₀ L k w H h) (hc:(c,o)∈k.ex):h.get? c=Qa o:=wy.casesOn S.os λ_ _ hn _=>(hn (c,o) (JR _ (JR _ (JR _ hc)))).1
inductive fC (C:bf) (w:Wd) (h:QB) (v:Value) (mvs:List ab):Prop
 |mk (a:Qj) (vs:List Value) (n:Nat) (e:v= .ref a) (g:h.get? a=Qa (listOf vs.toArray n)) (r:jU C w mvs vs) (l:mvs.length<=bb):fC C w h v mvs
def bw.list (S:bw C h₀ L k w H h) {x:ab} (hv:jV C w x v) (ho:kY H x=Qa mvs):
  fC C w h v mvs:=by
 refine xEA (bs ho) λi e h1=>?_;refine xEA (bs h1) λo hi h2=>?_;cases ref?_s e;cases list?_s h2;obtain⟨a,rfl,ha⟩:=hv;obtain⟨pre,en,post,⟨vs,n,rfl,r,l⟩,hn,_,_⟩:=S.at ha hi;exact⟨a,vs,n,rfl,(hn (a,_) (JR _ (.head _))).1,r,l⟩
structure kX (C:bf) (d e:Nat) where
 A:QP
 h₀:QB
 L:Qj
 lq:Env
 below: ∃A₀ base outer,Below A₀ base outer h₀/\A.frames=Qa (lq::outer)
 k:C.K.In h₀
 ai: ∃p loose mean mg mb,Top p loose mean mg mb h₀
 frame:lq.frame=Qa L
 kind:lq.scope.kind= .function
 handled:A.handled=Qd
 depth:A.depth+4*d+2+e<=900
 units:A.units+20*d+190+5*e<=9900
def kX.fN {C:bf}{d e:Nat} (Y:kX C d e):kX C d 0:=
 {A:=Y.A,h₀:=Y.h₀,L:=Y.L,lq:=Y.lq,below:=Y.below,k:=Y.k,ai:=Y.ai,frame:=Y.frame,kind:=Y.kind,handled:=Y.handled,depth:=Jl (Jr (Jy e) _) Y.depth,units:=Jl (Jr (Jy _) _) Y.units}
abbrev St {C:bf}{d e:Nat} (Y:kX C d e) (k:Kp) (w:Wd) (H:MH) (s:Qf):Prop:=bw C Y.h₀ Y.L k w H s.heap
structure qN (s s':Qf):Prop where
 g:s'.gens=s.gens
 o:s'.os=s.os
theorem qN.refl (s:Qf):qN s s:=⟨rfl,rfl⟩
theorem qN.trans {a b c:Qf} (x:qN a b) (y:qN b c):qN a c:=⟨y.1.trans x.1,y.2.trans x.2⟩
structure jd {C:bf}{d e:Nat} (Y:kX C d e) (k:Kp) (w w':Wd) (H':MH) (s s':Qf):Prop where
 le:w.le w'
 st:St Y k w' H' s'
 cb:qN s s'
def AA {α β:Type}{C:bf}{d e:Nat} (Y:kX C d e) (k:Kp) (R:Wd->β->α->Prop) (t:Sem α) (w:Wd) (s:Qf) (r:β) (H':MH):Prop:=
 ∀ (Q:α->Qf->Prop) (E:Value->Qf->Prop),(∀w' a s',jd Y k w w' H' s s'->R w' r a->Q a s') ->Qi C.M Y.A t Q E s
def bq {α β:Type}{C:bf}{d e:Nat} (Y:kX C d e) (k:Kp) (R:Wd->β->α->Prop) (t:Sem α) (w:Wd) (s:Qf) (o:Option (β×MH)):Prop:=
 ∀r,o=Qa r->AA Y k R t w s r.1 r.2
variable {Y:kX C d e}{R':Wd->δ->γ->Prop}
section
variable {R:Wd->β->α->Prop}{t:Sem α}{o:Option (β×MH)}
theorem jd.refl (S:St Y k w H s):jd Y k w w H s s:=⟨.refl w,S,.refl s⟩
theorem jd.toks (S:St Y k w H s) (n:Nat):jd Y k w w H s {s with toks:=n}:=⟨.refl w,S,rfl,rfl⟩
theorem jd.trans {w1 w2:Wd}{H1 H2:MH} (a:jd Y k w w1 H1 s s1) (b:jd Y k w1 w2 H2 s1 s2):jd Y k w w2 H2 s s2:=⟨a.le.trans b.le,b.st,a.cb.trans b.cb⟩
theorem bq.none:bq Y k R t w s none:=λ_ h=>af h
def bq.bind {f:β->MH->Option (δ×MH)}{g:α->Sem γ} (h:bq Y k R t w s o) (hk: ∀w' a s' r H1,jd Y k w w' H1 s s'->R w' r a->bq Y k R' (g a) w' s' (f r H1)):bq Y k R' (t>>=g) w s (bx o f):=by
 intro r' e Q E hq;cases o with
 |none=>exact af e
 |some p=>exact Qc (h p rfl _ _ λw' a s' n1 r1=>hk w' a s' p.1 p.2 n1 r1 r' e Q E λw2 a2 s2 n2 r2=>hq w2 a2 s2 (n1.trans n2) r2)
def bq.pure' {r:β}{a:α} (S:St Y k w H s) (hr:R w r a):bq Y k R (pure a:Sem α) w s (Qa (r,H)):=by
 intro r' e Q E hq;obtain rfl:=Qa.inj e;exact Qg (hq w a s (.refl S) hr)
def bq.ay {o':Option (β×MH)} (h:bq Y k R t w s o) (h':bq Y k R t w s o'):bq Y k R t w s (ay o o'):=by
 cases o with
 |none=>exact h'
 |some p=>exact h
def bq.au {b:Bool} (h:b=Qe->bq Y k R t w s o):bq Y k R t w s (au b o):=by
 cases b with
 |false=>exact .none
 |true=>exact h rfl
def bq.gw {x:Option γ}{f:γ->Option (β×MH)} (h: ∀a,x=Qa a->bq Y k R t w s (f a)):bq Y k R t w s (x.bind f):=by
 cases x with
 |none=>exact .none
 |some a=>exact h a rfl
def bq.ji {x:Option γ}{f:γ->β×MH} (h: ∀a,x=Qa a->bq Y k R t w s (Qa (f a))):bq Y k R t w s (x.map f):=by
 cases x with
 |none=>exact .none
 |some a=>exact h a rfl
def bq.case {x:Option γ}{f:γ->Option (β×MH)} (h0:x=Qd->bq Y k R t w s o) (h: ∀a,x=Qa a->bq Y k R t w s (f a)):bq Y k R t w s (JC (motive:=λ_=>Option (β×MH)) x o f):=by
 cases x with
 |none=>exact h0 rfl
 |some a=>exact h a rfl
def bq.val {r:β} (S:St Y k w H s) (h: ∀ (Q:α->Qf->Prop) (E:Value->Qf->Prop),(∀a tk,R w r a->Q a {s with toks:=tk}) ->Qi C.M Y.A t Q E s):bq Y k R t w s (Qa (r,H)):=by
 intro r' e Q E hq;obtain rfl:=Qa.inj e;exact h Q E λa tk hr=>hq w a _ (.toks S tk) hr
theorem bq.of (h: ∀r H',o=Qa (r,H') ->AA Y k R t w s r H'):bq Y k R t w s o:=λr e=>h r.1 r.2 e
theorem bq.xw {p:Pos} (h:bq Y k R t w s o):bq Y k R (standAt p>>=λ_=>t) w s o:=λr e Q E hq=>Qc (Qm (h r e Q E hq))
theorem bq.b8 (h:bq Y k R t w s o):bq Y k R (holding vs t) w s o:=λr e Q E hq=>Qk (h r e Q E hq)
theorem bq.to {R2:Wd->β->α->Prop} (h:bq Y k R t w s o) (i: ∀w r a,R w r a->R2 w r a):bq Y k R2 t w s o:=λr e Q E hq=>h r e Q E λw' a s' n1 r1=>hq w' a s' n1 (i _ _ _ r1)
end
abbrev VR (C:bf):Wd->ab->Value->Prop:=λw m v=>jV C w m v
abbrev jN (C:bf):Wd->List ab->List Value->Prop:=λw m v=>jU C w m v
abbrev c8 {α:Type}:Wd->α->α->Prop:=λ_ r a=>a=r
structure rW (C:bf):Prop where
 cL : ∀ id a,C.ad.lookup id = Qa a -> ∃ o,C.K.lookup a = Qa o /\ o.cls ≠ .type "tuple"
 ze: ∀i j a,C.ad.lookup i=Qa a->C.ad.lookup j=Qa a->i=j
 nf: ∀b,b<4-> ∃o,C.K.lookup b=Qa o
def fE (C : bf) (p : Str × ab) (rv : Value) : Prop := (∀ w,jV C w p.2 rv) /\ (nsIn C.K mainGlobals p.1 = Qa (Qa rv) \/ (nsIn C.K mainGlobals p.1 = Qa Qd /\ p.1 ≠ "__name__" /\ bootBuiltins p.1 = Qa rv))
def NT (C:bf) (gl:List (Str×ab)):Prop:= ∀x v,gl.lookup x=Qa v-> ∃rv,fE C (x,v) rv
def wV:Nat:=200000
def bf.cx (C:bf) (d:Nat):Cx:=⟨C.P,wV,mT C.P wV d⟩
def nu (o:Obj) (m:Str->Option Value):Prop:= ∃es ep,o.data= .dict es ep/\StrKeys es/\∀name,nsFind es name=m name
structure zk (cx:CC) (env:Env) (L:Qj) (k:Kp) (mE:Str->Option Value):Prop where
 kind:env.scope.kind= .function
 gl:env.globals=mainGlobals
 bl:env.builtins=builtinsNs
 sc:env.scope.names=cx.sc
 cells: ∀x,cx.sc.lookup x=Qa .cell-> ∃c o v₀,env.cells.lookup x=Qa c/\(c,o)∈k.ce/\o.data= .cell v₀
 ju:(env.locals=L/\mE=k.m)\/∃o,(env.locals,o)∈k.ex/\nu o mE
inductive Av (C:bf) (w:Wd) (cx:CC) (env:Env) (ce:bp) (mE:Str->Option Value) (x:Str) (v:ab):Prop
 |ju (rv:Value) (k:cx.sc.lookup x=Qa .local) (e:mE x=Qa rv) (r:jV C w v rv):Av C w cx env ce mE x v
 |cell (rv:Value) (c:Qj) (o:Obj) (k:cx.sc.lookup x=Qa .cell) (e:env.cells.lookup x=Qa c) (m:(c,o)∈ce) (h:o.data= .cell (Qa rv)) (r:jV C w v rv):Av C w cx env ce mE x v
variable {ce:bp}
theorem Av.mono (l:w.le w') {cx:CC}{v:ab} (h:Av C w cx env ce mE x v):Av C w' cx env ce mE x v:=
 Av.casesOn h (λrv a b r=> .ju rv a b (r.mono l)) (λrv c o a b m h r=> .cell rv c o a b m h (r.mono l))
def zfO (C:bf) (w:Wd) (cx:CC) (env:Env) (ce:bp) (mE:Str->Option Value) (fr:Frame):Prop:=
 ∀x i v,nS cx x=Qa i->fr[i]?=Qa (Qa v) ->Av C w cx env ce mE x v
structure Pl {C:bf}{d e:Nat} (Y:kX C d e) (cx:CC) (env:Env) (k:Kp) (mE:Str->Option Value) (fr:Frame) (w:Wd) (H:MH) (s:Qf):Prop where
 b:zk cx env Y.L k mE
 f:zfO C w cx env k.ce mE fr
 st:St Y k w H s
variable {H':MH}
theorem Pl.next {cx:CC}{fr:Frame} (p:Pl Y cx env k mE fr w H s) (n:jd Y k w w' H' s s'):Pl Y cx env k mE fr w' H' s':=
 ⟨p.b,λx i v a b=>(p.f x i v a b).mono n.le,n.st⟩
def mV (C:bf) (d:Nat) (cx:CC) (e:Expr) (ir:Ex):Prop:=
 ∀ (Y:kX C d 2) (env:Env) (k:Kp) (mE:Str->Option Value) (fr:Frame) (w:Wd) (H:MH) (s:Qf),Pl Y cx env k mE fr w H s->bq Y k (VR C) (PySem.eval e env) w s (eval (C.cx d) ir fr H)
def zM (C:bf) (d:Nat) (cx:CC) (e:Expr) (ir:Ex):Prop:=
 ∀ (Y:kX C d 2) (env:Env) (k:Kp) (mE:Str->Option Value) (fr:Frame) (w:Wd) (H:MH) (s:Qf),Pl Y cx env k mE fr w H s->bq Y k c8 (PySem.isTrue e env (PySem.eval e env)) w s (l7 (eval (C.cx d) ir fr H))
section
variable {cx:CC}{fr:Frame}
theorem bw.mn (S:bw C Y.h₀ Y.L k w H h):C.K.In h:=Y.k.keeps S.fr.keep
def zk.ns (B:zk cx env Y.L k mE) (S:St Y k w H s):s.heap.Ns env.locals mE:=by
 rcases B.ju with h| ⟨o,ho,es,ep,h⟩
 ·simp only[h.1,h.2];exact S.fr.ns
 ·exact⟨o,es,ep,S.cC ho,h⟩
def CK {x:List Nat} (h:zbl x=Qe):sx x:=by
 have h:=Jm.mp h;exact⟨λc hc=>Zf.mp (ZF.mp h.1 c hc),Zf.mp h.2⟩
def Fm {c:Const}{v:ab} (hc:Nb c=Qa v):mV C d cx (.Constant c n pos) (.lit v):=by
 intro Y env k mE fr w H s p;refine .val p.st λQ E q=>?_;cases c with
 |none=>obtain rfl:=Qa.inj hc;exact Qg (q _ s.toks rfl)
 |bool b=>obtain rfl:=Qa.inj hc;exact Qg (q _ s.toks rfl)
 |int i=>obtain rfl:=Qa.inj hc;exact λ_ _ _=>q _ _ ⟨_,rfl⟩
 |str x=>
  obtain⟨h,e⟩:=gs hc;obtain rfl:=Qa.inj e;exact λ_ _ _=>q _ _ ⟨_,by rw[Array.toArray_toList],CK h⟩
 |_=>exact af hc
def wI (h : j1 x = Qe) : (x == ("__debug__" : Str)) = false := by
 have h1:=(Jm.mp (Jm.mp (Jm.mp (Jm.mp h).1).1).1).2;cases hx : (x == ("__debug__" : Str)) with
 |false=>rfl
 | true => rw[show (x != ("__debug__" : Str)) = !(x == ("__debug__" : Str)) from rfl,hx] at h1; cases h1
def zk.kindOf (B:zk cx env Y.L k mE) {n:Qr} (h:cx.sc.lookup x=Qa n):env.kindOf x=Qa n:=by unfold Env.kindOf;rw[B.sc];exact h
def OL (hx:j1 x=Qe) (hi:nS cx x=Qa i):mV C d cx (.Name x pos) (.var i):=by
 intro Y env k mE fr w H s p;refine .gw λov ho=> .ji λv hv=> .val p.st λQ E q=>wpAny_Name ?_ (wI hx);subst hv;cases p.f x i v hi ho with
 |ju rv hk e r=>exact wpAny_loadName_local p.b.kind (p.b.kindOf hk) (p.b.ns p.st) e (q rv s.toks r)
 |cell rv c o hk e m h r=>exact wpAny_loadName_cell p.b.kind (p.b.kindOf hk) e ⟨o,p.st.zb m,h⟩ (q rv s.toks r)
def Cz (G:NT C cx.gl) {v:ab} (hx:j1 x=Qe) (hk:cx.sc.lookup x=Qa .globalImplicit) (hg:cx.gl.lookup x=Qa v):mV C d cx (.Name x pos) (.lit v):=by
 intro Y env k mE fr w H s p;refine .val p.st λQ E q=>?_;refine(G x v hg).elim λrv zq9=>?_;have hn:=zq9.2;refine xEE Y.ai λ_ _ cv=>?_;refine xEE cv λ_ mg gq=>?_;refine xE gq λmb T=>?_;have q:=q rv s.toks (zq9.1 w);refine Name_function_global p.b.kind (p.b.kindOf hk) ?_ (wI hx);have tg:=T.g.keeps p.st.fr.keep;rw[<-p.b.gl] at tg;rcases hn with hn| ⟨hn,hne,hb⟩
 ·exact loadGlobal_global tg (mg_of Y.k T.g hn) q
 ·have tb:=T.b.keeps p.st.fr.keep
  rw[<-p.b.bl] at tb;exact loadGlobal_builtin tg (mg_none_of Y.k T.g hn) tb ((T.builtins x hne).trans hb) q
def LM {ir:Ex} (G:NT C cx.gl) (hc:Io cx x=Qa ir):mV C d cx (.Name x pos) ir:=by
 obtain⟨hx,hc⟩:=gs hc;refine FH (nS cx x) (λhv=>?_) λi hv=>?_
 ·rw[hv] at hc
  obtain⟨hk,hc⟩:=gs hc;refine(ms hc).elim λv zq1=>?_;refine eqE zq1.2 ?_;exact Cz G hx (beq_iff_eq.mp hk) zq1.1
 ·rw[hv] at hc
  refine lW hc ?_;exact OL hx hv
def Dv {M:Jh}{t:Sem Value}{Q:Value->Qf->Prop} (h:Qi M A t Q E s):Qi M A (operate operands t) Q E s:=by
 delta operate;exact Qc (Qk (Qo h (λr s' q=>Qc (wpAny_release (Qg q))) λ_ _ x=>x))
theorem bq.operate {t:Sem Value}{o:Option (ab×MH)} (h:bq Y k (VR C) t w s o):bq Y k (VR C) (operate operands t) w s o:=λr e Q E hq=>Dv (h r e Q E hq)
end
section
variable {cx:CC}{fr:Frame}
def mR:bb<=sizeLine:=by decide+kernel
theorem sP (h:n<=bb):(n:Int)<2 ^ 63:=Int.lt_of_le_of_lt (YP.mpr h) (by decide)
def bq.bX {t:Sem Value} (S:St Y k w H s) (r:jU C w mvs vs) (hl:mvs.length<=bb)
  (h: ∀ (Q:Value->Qf->Prop) (E:Value->Qf->Prop) all,News Y.h₀ Y.L s.heap all->(∀h' tk,Fr Y.h₀ Y.L h' k.m->News Y.h₀ Y.L h' ((s.heap.objs.size,listOf vs.toArray 0)::all) ->Q (.ref s.heap.objs.size) {s with heap:=h',toks:=tk}) ->Qi C.M Y.A t Q E s):
  bq Y k (VR C) t w s (lK H (.list mvs)):=by
 intro r' er Q E hq;obtain rfl:=Qa.inj er;obtain⟨all,hn,add,_,_⟩:=S.dj;exact h Q E all hn λh' tk F N=>hq _ _ _ ⟨(⟨J6 _ _,λ_ x=>x⟩:w.le ⟨w.σ++ [s.heap.objs.size],w.tp⟩),add _ (.list mvs) [_] h' ⟨vs,0,rfl,r.mono (⟨J6 _ _,λ_ x=>x⟩:w.le ⟨w.σ++ [s.heap.objs.size],w.tp⟩),hl⟩ F N (o8 _) (News.gy hn λp hp=>JE.mp hp▸Jv _) (S.pa (Jv _)),rfl,rfl⟩ ⟨_,rfl,by rw[<-S.len];exact Zr⟩
def O3 (r:jU C w mvs vs) (n:Nat):jU C w (JL n mvs).flatten (JL n vs).flatten:=by
 induction n with
 |zero=>exact .nil
 |succ n ih=>exact ih.append r
def O5 (vs:List α) (k:Nat): ∀acc:Array α,(List.foldl (λx1 x2=>x1++x2) acc (JL k vs.toArray))=acc++(JL k vs).flatten.toArray:=by
 induction k with
 |zero=>intro acc;exact(Array.append_empty).symm
 |succ k ih=>
  intro acc;refine(ih _).trans ?_;simp only[qaz,K3,Array.append_assoc,qaA]
def O4 (n:Nat) (vs:List α):(JL (if vs.toArray.isEmpty=Qe then 0 else n) vs).flatten=(JL n vs).flatten:=by
 cases vs with
 |nil=>simp
 |cons v r=>rfl
def Ra {s:List α}:(JL n s).flatten.length=s.length*n:=by rw[List.length_flatten,Xq,List.sum_replicate_nat,Xo]
theorem OD (a b:List Nat):((⟨a.toArray⟩:Str)++(⟨b.toArray⟩:Str))=⟨(a++b).toArray⟩:=congrArg Str.mk (qaA a b)
def OX {x y:ab}{a b:Value} (S:St Y k w H s) (ha:jV C w x a) (hb:jV C w y b):bq Y k (VR C) (binaryOp .Add a b) w s (zan H x y):=by
 refine .ay (.gw λi hi=> .gw λj hj=>?_) (.gw λi hi=> .gw λj hj=> .au λhl=>?_)
 ·obtain⟨t,rfl⟩:=ha.int? hi
  obtain⟨u,rfl⟩:=hb.int? hj;exact .val S λQ E q=>add_int (q _ _ ⟨_,rfl⟩)
 ·refine(ha.str? hi).elim λt zq18=>?_
  obtain rfl:=zq18.1;refine(hb.str? hj).elim λu zq17=>?_;obtain rfl:=zq17.1;have hl:=Zf.mp hl;exact .val S λQ E q=>add_str (λt' tk=>q _ tk ⟨t',congrArg (KQ · t') (OD i j),λc hc=>(Zd.mp hc).elim (zq18.2.1 c) (zq17.2.1 c),by rw[Jz];exact hl⟩) (Jl hl mR)
def Vq {a:Int}{b:Nat} (h:a.natAbs<2 ^ b):qaB a<=b+1:=by
 delta qaB;split
 ·exact Jy _
 ·rename_i h0
  exact Zh ((qbo λe=>h0 (by rw[qaL.mp e];rfl)).mpr h)
def zb5 {a b:Int} (h:Hk a b=Qe):IntMulOk a b:=by
 have h:=Jm.mp h;have h1:=Vq (Zf.mp h.1);have h2:=Vq (Zf.mp h.2);delta IntMulOk;rw[ZX,not_and];intro _;delta Builtin.Int.intTooBig;rw[decide_eq_true_eq,show bitsLine=134217728 by decide+kernel];lia
def O6 {l:Nat}{n:Int} (h:LX l n=Qe):n<=1000000/\ -1000000<=n/\l*n.toNat<=bb:=by
 have h:=Jm.mp h;exact⟨of_decide_eq_true (Jm.mp h.1).1,of_decide_eq_true (Jm.mp h.1).2,Zf.mp h.2⟩
def OO {x y:ab}{a b:Value} (S:St Y k w H s) (ha:jV C w x a) (hb:jV C w y b):bq Y k (VR C) (binaryOp .Mult a b) w s (Hj H x y):=by
 refine .ay (.gw λi hi=> .gw λj hj=> .au λhl=>?_) (.ay (.gw λi hi=> .gw λj hj=>?_) (.gw λi hi=> .gw λj hj=> .au λhl=>?_))
 ·obtain⟨t,rfl⟩:=ha.int? hi
  obtain⟨u,rfl⟩:=hb.int? hj;exact .val S λQ E q=>mul_int (q _ _ ⟨_,rfl⟩) (zb5 hl)
 ·obtain⟨t,rfl⟩:=ha.int? hi
  cases bool?_s hj;subst hb;exact .val S λQ E q=>IntBool.mul_int_bool (q _ _ ⟨_,rfl⟩)
 ·obtain⟨u,rfl⟩:=hb.int? hj
  obtain⟨a1,vs,n,rfl,g1,r1,l1⟩:=S.list ha hi;refine xAA (O6 hl) λh1 h2 h3=>?_;refine .bX S (O3 r1 j.toNat) (by rw[Ra];exact h3) λQ E all hn q=>mul_list S.fr hn g1 (by lia) (by lia) ?_ λh' F N=>q h' _ F ?_
  ·rw[ZC,<-r1.length];exact Jl h3 (by decide)
  ·have e:=O5 vs (if vs.toArray.isEmpty=Qe then 0 else j.toNat) #[]
   rw[Array.empty_append,O4] at e;exact(e).symm▸N
def Fw {x y:Int} (h:y.natAbs<jg):Builtin.divisionGoesByPylong x y=false:=by
 delta Builtin.divisionGoesByPylong
 have:(if (y==0)=Qe then 0 else y.natAbs.log2 / 30+1)<=300:=by
  split
  ·exact Jy _
  ·rename_i hz
   have:=(qbo λe=>hz (by rw[qaL.mp e];rfl)).mpr h
   lia
 simp only[qam,decide_eq_false_iff_not];exact .inl (Zz this)
theorem zag {b:Int} (h:(b !=0)=Qe): ¬b=0:=bne_iff_ne.mp h
def Fq {o:gn} (ho:EJ op=Qa o) {x y:Int}{t u:Tok}{z:Int} (S:St Y k w H s) (e:Dh o x y=Qa z):bq Y k (VR C) (binaryOp op (.int x t) (.int y u)) w s (Qa (.int z,H)):=by
 refine .val S λQ E q=>?_;cases op<;>cases ho
 ·exact af e
 ·cases e;exact sub_int (q _ _ ⟨_,rfl⟩)
 ·exact af e
 ·obtain⟨h,e⟩:=gs e
  cases e;exact mod_int' (zag h) (q _ _ ⟨_,rfl⟩)
 ·exact af e
 ·obtain⟨h,e⟩:=gs e
  cases e;exact floordiv_int (zag (Jm.mp h).1) (q _ _ ⟨_,rfl⟩) (.inl (Fw (Zf.mp (Jm.mp h).2)))
def Fp {o:gn} (ho:EJ op=Qa o) {x y:ab}{a b:Value} (S:St Y k w H s) (ha:jV C w x a) (hb:jV C w y b):bq Y k (VR C) (binaryOp op a b) w s (pE o x y H):=by
 refine .ay (.gw λi hi=> .gw λj hj=> .ji λz hz=>?_) ?_
 ·obtain⟨t,rfl⟩:=ha.int? hi
  obtain⟨u,rfl⟩:=hb.int? hj;exact Fq ho S hz
 ·cases op<;>cases ho
  ·exact OX S ha hb
  ·exact .none
  ·exact OO S ha hb
  ·exact .none
  ·exact .none
  ·exact .none
theorem OW {l r:Expr}{o:gn}{il ir:Ex} (ho:EJ op=Qa o) (hl:mV C d cx l il) (hr:mV C d cx r ir):mV C d cx (.BinOp l op r pos) (.ez o il ir):=
 λY env k mE fr w H s p=> .bind (hl Y env k mE fr w H s p) λw1 a1 s1 x H1 n1 r1=> .bind (.b8 (hr Y env k mE fr w1 H1 s1 (p.next n1))) λw2 a2 s2 y H2 n2 r2=> .xw (.operate (Fp ho n2.st (r1.mono n2.le) r2))
end
def WU {f:α->Option β}{x:α}{l:List α}{r:List β} (h:(x::l).mapM f=Qa r): ∃y ys,f x=Qa y/\l.mapM f=Qa ys/\r=y::ys:=by
 rw[Yt] at h;refine(bs h).elim λy zq33=>?_;have h:=zq33.2;refine xEA (bs h) λys hys h=>?_;exact⟨y,ys,zq33.1,hys,(Qa.inj h).symm⟩
inductive aP (h:QB) (v:Value) (d:PyData) (k:Nat):Prop
 |mk (as:List Qj) (r:Reads h v d as) (c:d.canLay0=Qe) (l:d.depth<=k):aP h v d k
inductive zfJ (h:QB) (v:List Value) (d:List PyData) (k:Nat):Prop
 |mk (as:List Qj) (r:ReadsAll h v d as) (c:PyData.canLayAll0 d=Qe) (l:PyData.depthAll d<=k):zfJ h v d k
section
variable {cx:CC}{fr:Frame}
inductive fB (C:bf) (w:Wd) (h:QB) (v:Value) (mvs:List ab):Prop
 | mk (a : Qj) (o : Obj) (n : Nat) (vs : List Value) (e : v = .ref a) (g : h.get? a = Qa o) (c : o.cls = .type "tuple") (dt : o.data = .seq vs.toArray n) (r : jU C w mvs vs) (l : mvs.length <= bb) : fB C w h v mvs
theorem bw.ba (S:bw C Y.h₀ Y.L k w H h) (hv:jV C w (.ba mvs) v):fB C w h v mvs:=
 Sf.casesOn hv λa o n vs e q r l=>⟨a,o,n,vs,e,q.1.elim S.vj (S.mn _ _),q.2,q.3,r,l⟩
def tP (ih: ∀v rv dt,jV C w v rv->kb H n v=Qa dt->aP h rv dt n):
  ∀ {mvs:List ab}{vs:List Value}{ds:List PyData},jU C w mvs vs->mvs.mapM (kb H n)=Qa ds->zfJ h vs ds n:=by
 intro mvs
 induction mvs with
 |nil=>intro vs ds h e;refine eqB h ?_;refine lW e ?_;exact⟨[],.nil,rfl,Jy _⟩
 |cons m mvs ih'=>
  intro vs ds h e;refine xEEAA (WU e) λy ys e1 e2 cv=>?_;refine eqB cv ?_;obtain⟨v,r,rfl,h,h'⟩:=h;obtain⟨as,r1,c1,d1⟩:=ih _ _ _ h e1;obtain⟨bs,r2,c2,d2⟩:=ih' h' e2;exact⟨as++bs,.cons r1 r2,Jm.mpr ⟨c1,c2⟩,Nat.max_le.mpr ⟨d1,d2⟩⟩
def qD (S:bw C Y.h₀ Y.L k w H h): ∀ (n:Nat) (v:ab) (rv:Value) (dt:PyData),jV C w v rv->kb H n v=Qa dt->aP h rv dt n:=by
 have flat: ∀ (n:Nat) (v:ab) (rv:Value) (dt:PyData),jV C w v rv->kb H 0 v=Qa dt->aP h rv dt n:=by
  intro n v rv dt hv e;cases v with
  |none=>refine lW e ?_;refine eqB hv ?_;exact⟨[],.none,rfl,Jy _⟩
  |bool b=>refine lW e ?_;refine eqB hv ?_;exact⟨[],.bool b,rfl,Jy _⟩
  |int i=>refine lW e ?_;obtain⟨t,rfl⟩:=hv;exact⟨[],.int i t,rfl,Jy _⟩
  |str x=>refine lW e ?_;obtain⟨t,rfl,ok⟩:=hv;exact⟨[],.str _ t,by simpa [PyData.canLay0,PyData.strOk] using ok.1,Jy _⟩
  |_=>exact af e
 intro n
 induction n with
 |zero=>exact flat 0
 |succ n ih=>
  intro v rv dt hv e;cases v with
  |ba vs=>
   obtain⟨ds,e1,rfl⟩:=ms e;obtain⟨a,o,n',ws,rfl,g,hc,hd,r,_⟩:=S.ba hv;obtain⟨as,ra,c1,d1⟩:=tP ih r e1;exact⟨as,.tuple g hc hd ra,c1,Zn d1⟩
  |ref i=>
   refine xEA (bs e) λvs hl e=>?_;obtain⟨ds,e1,rfl⟩:=ms e;obtain⟨a,ws,n',rfl,g,r,_⟩:=S.list hv hl;obtain⟨as,ra,c1,d1⟩:=tP ih r e1;exact⟨a::as,.list g rfl rfl ra,c1,Zn d1⟩
  |none=>exact flat _ _ _ _ hv e
  |bool b=>exact flat _ _ _ _ hv e
  |int i=>exact flat _ _ _ _ hv e
  |str x=>exact flat _ _ _ _ hv e
  |_=>exact af e
theorem kX.u (Y:kX C d e) (h:n<=180):Y.A.units+n<9900:=Js (J3 (Jt h (by decide:180<190)) _) (Jl (Jl (JW (Jo _ (20*d)) 190) (Jo _ _)) Y.units)
def fF {C:bf}{d e:Nat} (Y:kX C d e) (s:Qf) (vx vy:Value) (r:Bool):Prop:=
 ∀ (Q:Value->Qf->Prop) (E:Value->Qf->Prop),(Q (.bool r) s->Qi C.M Y.A (compareOp .Eq vx vy) Q E s)/\(Q (.bool (!r)) s->Qi C.M Y.A (compareOp .NotEq vx vy) Q E s)
def OT (S:St Y k w H s) {x y:ab}{r:Bool} (hx:jV C w x vx) (hy:jV C w y vy) (e:Dz H x y=Qa r):fF Y s vx vy r:=by
 refine xEA (bs e) λdx e1 e=>?_;obtain⟨dy,e2,rfl⟩:=ms e;obtain⟨_,r1,c1,d1⟩:=qD S 8 x vx dx hx e1;obtain⟨_,r2,c2,d2⟩:=qD S 8 y vy dy hy e2;have hu:Y.A.units+min dx.depth dy.depth<9900:=Y.u (Jl (Yl (YD _ _)) (Jl (JG d2 d1) (Jw _ _)));exact λQ E=>⟨SeqAt.compareEq_reads r1 r2 c1 c2 hu,SeqAt.compareNe_reads r1 r2 c1 c2 hu⟩
end
def ao.rl (a:ao):PyData:=ao.casesOn (motive:=λ_=>PyData) a .int .str
def Wl (h:MH) (k:Nat) (a:ao):kb h k a.val=Qa a.rl:=by cases a<;>cases k<;>rfl
def HP (a b:ao):qaK a.rl b.rl=decide (a=b):=by
 cases a with
 |i x=>
  cases b with
  |i y=>show (x==y)=_;rw[Ku,beq_iff_eq,decide_eq_true_eq,ao.i.injEq]
  |s y=>rfl
 |s x=>
  cases b with
  |i y=>rfl
  |s y=>show (x==y)=_;rw[Ku,beq_iff_eq,decide_eq_true_eq,ao.s.injEq]
def D8 (h:MH) (k:Nat) (as:List ao):(as.map ao.val).mapM (kb h k)=Qa (as.map ao.rl):=by
 induction as with
 |nil=>rfl
 |cons a r ih=>rw[JO,Yt,Wl,ih];rfl
def G0 (as:List ao): ∀bs:List ao,qbi (as.map ao.rl) (bs.map ao.rl)=decide (as=bs):=by
 induction as with
 |nil=>intro bs;cases bs<;>rfl
 |cons a x ih=>
  intro bs;cases bs with
  |nil=>rfl
  |cons b y=>
   show (qaK a.rl b.rl && qbi (x.map ao.rl) (y.map ao.rl))=_;rw[HP,ih,<-Bool.decide_and,decide_eq_decide,KZ.injEq]
def Hw (a b:ao):gm a.val b.val=decide (a=b):=by
 delta gm Dz;rw[Wl,Wl];exact HP a b
def Et (as bs:List ao):gm (.ba (as.map ao.val)) (.ba (bs.map ao.val))=decide (as=bs):=by
 have e: ∀l:List ao,kb [] 8 (.ba (l.map ao.val))=Qa (.tuple (l.map ao.rl)):=λl=>congrArg (qaM PyData.tuple) (D8 [] 7 l);delta gm Dz;rw[e,e];exact G0 as bs
def Hv {v:ab} (h:rE v=Qe): ∃a:ao,v=a.val:=by
 cases v with
 |int n=>exact⟨.i n,rfl⟩
 |str x=>exact⟨.s ⟨x.toArray⟩,rfl⟩
 |_=>cases h
def wQ (a:ao):lM a.val=1:=by cases a<;>rfl
def FU {vs:List ab} (h:vs.all rE=Qe): ∃as:List ao,vs=as.map ao.val:=by
 induction vs with
 |nil=>exact⟨[],rfl⟩
 |cons v r ih=>
  refine(Hv (Jm.mp h).1).elim λa zq12=>?_;refine eqB zq12 ?_;refine(ih (Jm.mp h).2).elim λas zq11=>?_;refine eqB zq11 ?_;exact⟨a::as,rfl⟩
def Bu (as:List ao):(as.map ao.val).all rE=true:=by
 induction as with
 |nil=>rfl
 |cons a r ih=>exact Jm.mpr ⟨by cases a<;>rfl,ih⟩
def sQ (as:List ao):lM (.ba (as.map ao.val))=3:=by
 show (bif (as.map ao.val).all rE then 3 else 0)=3;rw[Bu];rfl
def tX {v:ab} (h:(lM v !=0)=Qe):(∃a:ao,v=a.val)\/∃as:List ao,v= .ba (as.map ao.val):=by
 delta lM at h;refine xO (rE v) (λha=>?_) λha=>?_
 ·exact .inl (Hv ha)
 ·rw[ha] at h
  refine FH (v.tup?) (λht=>?_) λvs ht=>?_
  ·rw[ht] at h;cases h
  ·cases tup?_s ht
   refine xO (vs.all rE) (λhal=>?_) λhal=>?_
   ·obtain⟨as,rfl⟩:=FU hal;exact .inr ⟨as,rfl⟩
   ·have h':((bif vs.all rE then 3 else 0:Nat) !=0)=true:=h
    rw[hal] at h';cases h'
theorem zeQ (h:(f es.toArray).toList=es'):Obj.mapDict f (Ql es ep)=Ql es' ep:=h▸rfl
theorem zeP (h:(f es.toArray).toList=es'):Obj.mapDictKeys f (Ql es ep)=Ql es' (ep+1):=h▸rfl
section
variable {prog:Qx}{w:Qn}{Kk:Type} [DecidableEq Kk] {knd:KeyKind prog w Kk}{A:QP}{E:Value->Qf->Prop}{s:Qf}
def Dw {d:Qj}{kvs:List (Kk×Value)}{k:Kk}{key:Value} (hkey:knd.is k key=Qe) (ho:s.heap.get? d=Qa (Ql es ep)) (hk:KeysOf knd es.toArray) (hp:Pairs knd es kvs) (hn:(kvs.map (·.1)).Nodup) (hsz:es.length<=sizeLine)
  (h: ∀ (es':List Qh) (f:Obj->Obj),f (Ql es ep)=Ql es' (if kvs.any (λkv=>kv.1=k) then ep else ep+1) ->KeysOf knd es'.toArray->Pairs knd es' (stored kvs k v) ->((stored kvs k v).map (·.1)).Nodup->
   Q () {s with heap:=s.heap.update d f,toks:=s.toks+1}):Qi (model prog w) A (dictSet d key v) Q E s:=by
 delta dictSet
 try with_reducible refine Qk ?_
 refine Qc (knd.pyHash hkey ?_);delta dictSetHashed
 try with_reducible refine Qk ?_
 refine Qc (wpAny_dictFind_of (s:={s with toks:=s.toks+1}) hkey ho rfl hk ?_);have hidx:(es.toArray.findIdx? λe=>knd.is k e.key)=kvs.findIdx? λkv=>decide (kv.1=k):=by
  rw[<-hp.findIdx k];simp
 cases hi:es.toArray.findIdx? λe=>knd.is k e.key with
 |some i=>
  have hany:=any_of_findIdx_some (hidx▸hi);refine Qc (QY (Qc (wpAny_updateDict (s:={s with toks:=s.toks+1}) ho rfl (wpAny_point ?_))));refine h (es.modify i λe=> {e with val:=v}) _ ?_ ?_ ?_ ?_
  ·rw[if_pos hany];exact zeQ (by simp)
  ·have:=hk.modify i v;simpa using this
  ·rw[(by rw[stored,if_pos hany]:stored kvs k v=kvs.map (λkv=>if kv.1=k then(kv.1,v) else kv))];exact hp.modify hn (by rw[<-hi];simp:(es.findIdx? λe=>knd.is k e.key)=Qa i) v
  ·rw[(by rw[stored,if_pos hany]:stored kvs k v=kvs.map (λkv=>if kv.1=k then(kv.1,v) else kv)),keys_map_store];exact hn
 |none=>
  have hnot:k∉kvs.map (·.1):=not_mem_of_findIdx_none (hidx▸hi);have hany: ¬(kvs.any λkv=>decide (kv.1=k))=true:=by
   rw[K9];rintro ⟨kv,hkv,he⟩;exact hnot (JJ.mpr ⟨kv,hkv,of_decide_eq_true he⟩)
  refine Qc (QY (QT (hz:=by simpa using hsz) (s:={s with toks:=s.toks+1}) ho rfl ?_));refine h (es++ [⟨knd.hash k,key,v⟩]) _ ?_ ?_ ?_ ?_
  ·rw[if_neg hany];exact zeP (by simp)
  ·have:=hk.push hkey v;simpa using this
  ·rw[(by rw[stored,if_neg hany]:stored kvs k v=kvs++ [(k,v)])];exact hp.append hkey (knd.hash k) v
  ·rw[(by rw[stored,if_neg hany]:stored kvs k v=kvs++ [(k,v)]),JU,Kq]
   refine⟨hn,JI.mpr ⟨JB,.nil⟩,?_⟩;intro a ha b hb;rw[JE.mp hb];exact λe=>hnot ((show a=k from e)▸ha)
def VW {d : Qj} {key : Value} (hT : s.TypeIs (.ref d) "dict") (h : Qi (model prog w) A.in1 (dictSet d key v) Q E s) : Qi (model prog w) A (setItem (.ref d) key v) Q E s := by
 delta setItem
 try with_reducible refine Qk ?_
 refine Qc (Q0 hT rfl ?_);refine Qc (wpAny_callSpecial?_slot (name:=Str.ofString "__setitem__") hT Q1
  (Qs Q1 hT entry_dict_setitem ?_ (args_dict_setitem _ _ _)))
 refine Qc (QH hT ?_);show Qi _ _ (dictSet d key v>>=_) _ _ s;exact Qc (Qo h (λ_ s' q=>Qg ⟨.none,rfl,Qg q⟩) λ_ _ e=>e)
end
section
variable {prog:Qx}{w:Qn}{Kk:Type} [DecidableEq Kk] {knd:HeapKind prog w Kk}{A:QP}{E:Value->Qf->Prop}{s:Qf}
def Lo {d:Qj}{xs:List (Kk×Qj×Value)}{k:Kk} (hu:knd.room A) (hkey:knd.is s.heap k a) (ho:s.heap.get? d=Qa (Ql (xs.map (entryOfKey knd)) ep)) (his: ∀x∈xs,knd.is s.heap x.1 x.2.1) (hn:(xs.map (·.1)).Nodup) (hsz:xs.length<=sizeLine)
  (h: ∀ (f:Obj->Obj),f (Ql (xs.map (entryOfKey knd)) ep)=Ql ((storedH xs k a v).map (entryOfKey knd)) (if (atKey xs k).isSome then ep else ep+1) ->((storedH xs k a v).map (·.1)).Nodup->
   Q () {s with heap:=s.heap.update d f,toks:=s.toks+knd.draws k}):Qi (model prog w) A (dictSet d (.ref a) v) Q E s:=by
 have he:((xs.map (entryOfKey knd)).toArray).toList=xs.map (entryOfKey knd):=rfl;delta dictSet
 try with_reducible refine Qk ?_
 refine Qc (knd.pyHash hu hkey ?_);delta dictSetHashed
 try with_reducible refine Qk ?_
 refine Qc (wpAny_dictFind_heap (s:={s with toks:=s.toks+knd.draws k}) hu hkey ho rfl he his hn ?_ ?_)
 ·intro hno
  have hnot:k∉xs.map (·.1):=not_mem_keys_of_get hno;refine Qc (QY (QT (hz:=by have e:=size_of_entries he;exact Jl (Jx e) hsz) (s:={s with toks:=s.toks+knd.draws k}) ho rfl ?_));refine h _ ?_ ?_
  ·rw[storedH_new (Qz hno),Qz hno]
   exact zeP (by simp [entryOfKey])
  ·rw[storedH_new (Qz hno),JU,Kq]
   refine⟨hn,JI.mpr ⟨JB,.nil⟩,?_⟩;intro x hx y hy;rw[JE.mp hy];exact λe=>hnot ((show x=k from e)▸hx)
 ·intro j p hj
  refine Qc (QY (Qc (wpAny_updateDict (s:={s with toks:=s.toks+knd.draws k}) ho rfl (wpAny_point ?_))));refine h _ ?_ ?_
  ·rw[storedH_old (Q2 hn hj),Q2 hn hj]
   have:=modify_map_putAt (entryOfKey knd) (λe:Qh=> {e with val:=v}) k v (λ_ _=>rfl) hn hj
   simp only[<-this];exact zeQ (by simp)
  ·rw[storedH_old (Q2 hn hj),keys_map_putAt];exact hn
end
section
variable {cx:CC}{fr:Frame}
def jV.atom {a:ao} (h:jV C w a.val v):a.is v=Qe/\a.ok:=by
 cases a with
 |i n=>obtain⟨t,rfl⟩:=h;exact⟨beq_self_eq_true n,trivial⟩
 |s x=>obtain⟨t,rfl,ok⟩:=h;exact⟨beq_self_eq_true x,ok⟩
def jU.items {as:List ao}: ∀ {vs:List Value},jU C w (as.map ao.val) vs->ItemsAre (kH C.prog C.w) as vs:=by
 induction as with
 |nil=>intro vs h;refine eqB h ?_;exact .nil
 |cons a r ih=>intro vs h;obtain⟨v,t,rfl,h1,h2⟩:=h;exact .cons h1.atom.1 (ih h2)
def bw.iu (S:bw C Y.h₀ Y.L k w H h) {as:List ao} (hv:jV C w (.ba (as.map ao.val)) v): ∃t,v= .ref t/\QD (kH C.prog C.w) h as t:=by
 obtain⟨t,o,n,ws,e,ho,hc,hd,rr,hl⟩:=S.ba hv;exact⟨t,e,o,ws.toArray,n,ho,hc,hd,rr.items⟩
theorem Ik {pre:bp} (h:bp.nd (pre++([(a,o)]++post))): ∀q∈pre++post,q.1≠a:=
 λq hq e=>(JI.mp (bp.nd.jf (YV (a:=(a,o)) (l₁:=pre) (l₂:=post)) h)).1 (JJ.mpr ⟨q,hq,e⟩)
def bw.cw (S:St Y k w H s) {o o':ae} (ha:w.σ[i]?=Qa a) (ho:H[i]?=Qa o) (hen: ∀en,uQ C w a o en-> ∃ob,en= [(a,ob)])
  (hs:Heap.SameBut a s.heap h') (hg:h'.get? a=Qa ob') (hr':uQ C w a o' [(a,ob')]):bw C Y.h₀ Y.L k w (H.set i o') h':=by
 obtain⟨pre,en,post,hr,hn,hd,g⟩:=S.at ha ho;refine(hen en hr).elim λob1 zq8=>?_;obtain rfl:=zq8;have hm:=hn (a,ob1) (JR _ (.head _));refine g o' [(a,ob')] h' rfl hr' ⟨S.fr.ns.sameBut hs (Ka hm.2.1),λc x e=>(hs.2 c (λq=>?_)).trans (S.fr.keep c x e),S.fr.above⟩ ?_
 ·rw[q,hm.2.2] at e;cases e
 ·intro p hp
  rcases Zd.mp hp with hp|hp
  ·have:=hn p (ZQ _ hp)
   exact⟨(hs.2 p.1 ((Ik hd) p (ZQ _ hp))).trans this.1,this.2⟩
  ·rcases Zd.mp hp with hp|hp
   ·rw[JE.mp hp]
    exact⟨hg,hm.2⟩
   ·have:=hn p (JR _ (JR _ hp))
    exact⟨(hs.2 p.1 ((Ik hd) p (JR _ hp))).trans this.1,this.2⟩
inductive c6 {C:bf}{d e:Nat} (Y:kX C d e) (k:Kp) (w:Wd) (H:MH) (s:Qf) (i:Nat) (v:Value) (p:Option Nat×List (ab×ab)):Prop
 |mk (a:Qj) (n:Nat) (es:List Qh) (e:v= .ref a) (m:(a==sysModules)=Qb) (hep: ∀x,p.1=Qa x->n=x) (g:s.heap.get? a=Qa (Ql es n)) (r:sA C w p.2 es) (l:p.2.length<=bb)
   (cw: ∀h' o' ob',Heap.SameBut a s.heap h'->h'.get? a=Qa ob'->uQ C w a o' [(a,ob')]->bw C Y.h₀ Y.L k w (H.set i o') h'):c6 Y k w H s i v p
def bw.jx (S:St Y k w H s) {p:Option Nat×List (ab×ab)} (hv:jV C w (.ref i) v) (ho:H[i]?.bind ae.dict?=Qa p):c6 Y k w H s i v p:=by
 refine xEA (bs ho) λo hi h2=>?_;cases dict?_s h2;refine xEA hv λa e ha=>?_;obtain⟨pre,en,post,⟨es,n,rfl,hep,dr,l⟩,hn,_,_⟩:=S.at ha hi;refine⟨a,n,es,e,beq_eq_false_iff_ne.mpr λq=>absurd (S.lo a (Jq ha)) (by rw[q];decide),hep,(hn (a,_) (JR _ (.head _))).1,dr,l,λh' o' ob' g2 g3 g4=>S.cw ha hi (λen h=>?_) g2 g3 g4⟩;obtain⟨_,_,rfl,_,_,_⟩:=h;exact⟨_,rfl⟩
def bw.dict (S:St Y k w H s) {x:ab}{p:Option Nat×List (ab×ab)} (hv:jV C w x v) (ho:dictAt H x=Qa p): ∃i,x= .ref i/\c6 Y k w H s i v p:=by
 refine(bs ho).elim λi zq4=>?_;cases ref?_s zq4.1;exact⟨i,rfl,S.jx hv zq4.2⟩
def Ht {f:α->ab}{l:List α} (e:mes.map (·.1)=l.map f):mes.length=l.length:=by
 have:=congrArg Z3 e
 rwa [Jp,Jp] at this
theorem DA.nil:DA C w [] [] []:=⟨.nil,λe he=>absurd he (by simp),.nil,rfl,λ_ h=>absurd h JB,.nil⟩
theorem DT.nil:DT C w [] [] []:=⟨rfl,.nil,λ_ h=>absurd h JB,rfl,.nil⟩
def UT {x:ab}{p:ab×ab}{r:List (ab×ab)} (hf:j5 mes x=Qe) (e:mes=p::r):lM p.1=lM x:=by
 subst e;exact Qa.inj (beq_iff_eq.mp (Jm.mp hf).2)
def sA.atom {a:ao} (hf:j5 mes a.val=Qe) (h:sA C w mes es): ∃kvs,DA C w mes es kvs:=by
 rcases h with h| ⟨xs,D⟩
 ·exact h
 ·cases mes with
  |nil=>
   have:=D.e
   cases xs with
   |nil=>rw[D.es];exact⟨[],.nil⟩
   |cons _ _=>cases this
  |cons p r=>
   cases xs with
   |nil=>cases D.e
   |cons x xs=>
    have:=UT hf rfl
    rw[show p.1= .ba (x.1.map ao.val) from(KZ.inj D.e).1,sQ,wQ] at this;cases this
def sA.si {as:List ao} (hf:j5 mes (.ba (as.map ao.val))=Qe) (h:sA C w mes es): ∃xs,DT C w mes es xs:=by
 rcases h with ⟨kvs,D⟩|h
 ·cases mes with
  |nil=>
   have:=D.e
   cases kvs with
   |nil=>have p:=D.p;cases p;exact⟨[],.nil⟩
   |cons _ _=>cases this
  |cons p r=>
   cases kvs with
   |nil=>cases D.e
   |cons x kvs=>
    have:=UT hf rfl
    rw[show p.1=x.1.val from(KZ.inj D.e).1,sQ,wQ] at this;cases this
 ·exact h
theorem DA.dictOf {kvs:List (ao×Value)}{a:Nat} (D:DA C w mes es kvs) (hg:h.get? a=Qa (W.dictOf es n)):h.DictOf (kH C.prog C.w) a kvs:=
 ⟨_,es.toArray,n,hg,⟨rfl,rfl,rfl⟩,rfl,D.k,D.p,D.n⟩
theorem DT.qz (S:bw C Y.h₀ Y.L k w H h) {xs:List (List ao×Qj×Value)} (D:DT C w mes es xs): ∀x∈xs,QD (kH C.prog C.w) h x.1 x.2.1:=λx hx=>by
 refine xEA (S.iu (D.v x hx)) λt e q=>?_;cases e;exact q
theorem DT.dictOf (S:bw C Y.h₀ Y.L k w H h) {xs:List (List ao×Qj×Value)}{b:Nat} (D:DT C w mes es xs) (hg:h.get? b=Qa (W.dictOf es n)):h.DictOfH (tupleKind (kH C.prog C.w)) b xs:=
 ⟨_,_,n,D.es▸hg,⟨rfl,rfl,rfl⟩,rfl,rfl,D.qz S,D.n⟩
def BB (C:bf) (w:Wd) (m:Option ab) (v:Option Value):Prop:=(m=Qd/\v=Qd)\/∃mv rv,m=Qa mv/\v=Qa rv/\jV C w mv rv
def US [DecidableEq α] {mk:α->ab} (hmk: ∀a b,gm (mk a) (mk b)=decide (a=b)) (k:α): ∀ {kvs:List (α×Value)}{mes:List (ab×ab)},mes.map (·.1)=kvs.map (λp=>mk p.1) ->jU C w (mes.map (·.2)) (kvs.map (·.2)) ->BB C w (j7 mes (mk k)) (valueAt kvs k):=by
 intro kvs
 induction kvs with
 |nil=>intro mes e r;rw[Xl.mp e];exact .inl ⟨rfl,rfl⟩
 |cons y kvs ih=>
  intro mes e r;cases mes with
  |nil=>cases e
  |cons x mes=>
   obtain⟨e1,e2⟩:=KZ.inj e;obtain⟨v,t,ev,h,r⟩:=r;obtain⟨rfl,rfl⟩:=KZ.inj ev;have ih:=ih e2 r;unfold j7 valueAt at ih ⊢;simp only[YE,YE,show x.1=mk y.1 from e1,hmk];cases hk:decide (y.1=k) with
   |true=>exact .inr ⟨_,_,rfl,rfl,h⟩
   |false=>exact ih
def BB.isSome {m:Option ab}{v:Option Value} (h:BB C w m v):m.isSome=v.isSome:=by
 rcases h with ⟨rfl,rfl⟩| ⟨_,_,rfl,rfl,_⟩<;>rfl
theorem DA.get {kvs:List (ao×Value)} (D:DA C w mes es kvs) (k:ao):BB C w (j7 mes k.val) (valueAt kvs k):=US Hw k D.e D.r
def DT.oe {xs:List (List ao×Qj×Value)} (D:DT C w mes es xs):mes.map (·.1)=(kvsOf xs).map (λp=>ab.ba (p.1.map ao.val))/\jU C w (mes.map (·.2)) ((kvsOf xs).map (·.2)):=by
 refine⟨?_,?_⟩
 ·rw[D.e];simp [kvsOf]
 ·have:=D.r
  simpa [kvsOf,Function.comp_def] using this
def DT.get {xs:List (List ao×Qj×Value)} (D:DT C w mes es xs) (k:List ao):BB C w (j7 mes (.ba (k.map ao.val))) ((atKey xs k).map (·.2)):=by
 rw[<-Jf];exact US (mk:=λas:List ao=>ab.ba (as.map ao.val)) Et k D.oe.1 D.oe.2
theorem kX.room (Y:kX C d e):(tupleKind (kH C.prog C.w)).room Y.A.in1:=tupleKind_room_in1 (Y.u (by decide))
end
section
variable {cx:CC}{fr:Frame}
theorem LQ (S:St Y k w H s) {x y:ab}{r:Bool} (hx:jV C w x vx) (hy:jV C w y vy):lj H x y=Qa r->fF Y s vx vy r:=
 lJ (j9 λ_ _ e=>af e) (OT S hx hy)
theorem bw.grown (S:bw C Y.h₀ Y.L k w H h) (he:Heap.ExtBut h.objs.size h h'):bw C Y.h₀ Y.L k w H h':=
 Si.casesOn S.dj λall hn _ _ g=>g h' (S.fr.extBut he (Jv _)) λp hp=>⟨he p.1 p.2 (Z8 (K4 (hn p hp).1)) (hn p hp).1,(hn p hp).2⟩
def jU.empty (r:jU C w mvs vs):vs.toArray.isEmpty=mvs.isEmpty:=by
 cases mvs with
 |nil=>subst r;rfl
 |cons m mvs=>obtain⟨v,t,rfl,_,_⟩:=r;rfl
def vD (S:St Y k w H s) {x:ab}{r:Bool} (hx:jV C w x v) (e:truthy H x=Qa r) {Q:Bool->Qf->Prop} (h: ∀tk,Q r {s with toks:=tk}):Qi C.M Y.A (PySem.truthy v) Q E s:=by
 cases x with
 |none=>subst hx;obtain rfl:=Qa.inj e;exact truthy_none (h s.toks)
 |bool b=>refine eqB hx ?_;refine soB e ?_;exact Q3 (h s.toks)
 |int i=>obtain⟨t,rfl⟩:=hx;obtain rfl:=Qa.inj e;exact truthy_int (h s.toks)
 |str l=>
  obtain rfl:=Qa.inj e;obtain⟨t,rfl,ok⟩:=hx;refine P.truthy_str (qaN.mpr (sP ok.2)) ?_;have e:(((⟨l.toArray⟩:Str).length:Int) !=0)=!l.isEmpty:=by cases l<;>rfl
  exact e▸h _
 |ba vs=>
  obtain rfl:=Qa.inj e;obtain⟨t,o,n,ws,rfl,ho,hc,hd,rr,hl⟩:=S.ba hx;refine truthy_tuple (items:=ws.toArray) ⟨o,ho,hc,n,hd⟩ (by rw[ZC,<-rr.length];exact sP hl) ?_;exact rr.empty▸h _
 |ref i=>
  refine(ms e).elim λvs zq31=>?_;obtain rfl:=zq31.2;obtain⟨t,ws,n,rfl,ho,rr,hl⟩:=S.list hx zq31.1;refine wpAny_truthy_list (items:=ws.toArray) ⟨_,ho,rfl,n,rfl⟩ (by rw[ZC,<-rr.length];exact sP hl) ?_;exact rr.empty▸h _
 |_=>exact af e
def kR [BEq α] [LawfulBEq α] {a:α}{b:β}: ∀ {l:List (α×β)},l.lookup a=Qa b->(a,b)∈l:=by
 intro l
 induction l with
 |nil=>exact λh=>af h
 |cons p l ih=>
  intro h;rw[ZG] at h;cases e:(a==p.1) with
  |true=>rw[e] at h;refine lW h ?_;rw[beq_iff_eq.mp e];exact .head _
  |false=>rw[e] at h;exact .tail _ (ih h)
def EZ: ∀p∈rM,∀q∈rM,(p.1==q.1)=(p.2==q.2):=by decide
def zeM (hc : c2 ≠ .type "tuple") (f : Array Value -> Nat -> Array Value -> Nat -> α) (g : α) : PySem.emptiesJoinedAsOfOld.match_1 (λ_ _ _ _ => α) c1 c2 d1 d2 f (λ_ _ _ _ => g) = g := by
 cases c1 with
 |type n=>
  by_cases h : n = "tuple"
  ·subst h
   cases c2 with
   |type m=>delta PySem.emptiesJoinedAsOfOld.match_1;exact dif_neg λe=>hc (congrArg ZD e)
   |_=>rfl
  ·delta PySem.emptiesJoinedAsOfOld.match_1;exact dif_neg h
 |_=>rfl
def Us {b : Qj} {Q : Bool -> Qf -> Prop} (ha : s.heap.get? a = Qa oa) (hb : s.heap.get? b = Qa ob) (hc : ob.cls ≠ .type "tuple") (h : Q (a == b) s) : Qi C.M A (isSame (.ref a) (.ref b)) Q E s := by
 delta isSame
 dsimp only
 by_cases e:a=b
 ·subst e
  refine wP (by simp) ?_;rw[beq_self_eq_true] at h;exact Qg h
 ·refine wN (by simpa using e) ?_
  rw[beq_eq_false_iff_ne.mpr e] at h;refine Qc (Jc ha (Qc (Jc hb ?_)));rw[zeM hc];exact Qg h
def jV.isNone {x:ab} (h:jV C w x v):isSame v .none=pure x.isNone:=by
 rw[isSame_none];cases x with
 |none=>subst h;rfl
 |bool b=>refine eqB h ?_;rfl
 |int i=>obtain⟨t,rfl⟩:=h;rfl
 |str i=>obtain⟨t,rfl,_⟩:=h;rfl
 |ba i=>obtain⟨_,_,_,_,rfl,_,_,_⟩:=h;rfl
 |ref i=>obtain⟨_,rfl,_⟩:=h;rfl
 |ai i=>obtain⟨_,rfl,_⟩:=h;rfl
 |ty i=>obtain⟨_,rfl,_⟩:=h;rfl
 |bi i=>obtain⟨_,rfl,_⟩:=h;rfl
 |fy i=>obtain⟨_,_,_,_,rfl,_⟩:=h;rfl
 |fl i=>obtain⟨_,_,_,_,rfl,_,_,_⟩:=h;rfl
 |qo i=>obtain⟨_,_,_,_,_,rfl,_⟩:=h;rfl
def Cw (K:rW C) (S:St Y k w H s) {x y:ab}{r:Bool} (hx:jV C w x vx) (hy:jV C w y vy) {Q:Bool->Qf->Prop} (h:Q r s):aD x y=Qa r->Qi C.M Y.A (isSame vx vy) Q E s:=by
 have plain:isSame vx vy=pure r->Qi C.M Y.A (isSame vx vy) Q E s:=λq=>by rw[q];exact Qg h
 refine lJ (mS λq e=>?_) (lJ (j9 λi e1=>lA λj e2 e=>?_) (lJ (j9 λi e1=>lA λj e2 e=>?_) (mS λq=>lA λj e2 e=>?_)))
 ·clear h
  cases Hx q;cases hy;exact plain (hx.isNone.trans (congrArg pure (Qa.inj e)))
 ·clear h
  cases ty?_s e1;cases ty?_s e2;obtain⟨n1,rfl,h1⟩:=hx;obtain⟨n2,rfl,h2⟩:=hy;refine plain (congrArg pure (Eq.trans ?_ ((EZ _ (kR h1) _ (kR h2)).symm.trans e)));by_cases e:n1=n2
  ·refine eqE e ?_;simp
  ·simp only[beq_eq_false_iff_ne.mpr e,beq_eq_false_iff_ne.mpr (λq=>e (ZD.inj q))]
 ·clear plain
  cases top?_s e1;cases top?_s e2;obtain⟨a1,rfl,h1⟩:=hx;obtain⟨a2,rfl,h2⟩:=hy;refine(K.cL _ _ h1).elim λo1 zq25=>?_;refine(K.cL _ _ h2).elim λo2 zq24=>?_;refine Us (S.mn _ _ zq25.1) (S.mn _ _ zq24.1) zq24.2 ?_;have e':(a1==a2)=(i==j):=by
   rw[Ku,beq_iff_eq,beq_iff_eq];exact⟨λq=>K.ze _ _ _ h1 (q▸h2),λq=>Qa.inj ((q▸h1:C.ad.lookup j=Qa a1).symm.trans h2)⟩
  rw[e',e];exact h
 ·cases top?_s e2
  obtain⟨b,rfl,h2⟩:=hy;subst e;cases x with
  |none=>subst hx;exact plain rfl
  |int i=>obtain⟨t,rfl⟩:=hx;exact plain rfl
  |ba vs=>
   clear plain
   refine(K.cL _ _ h2).elim λo zq22=>?_;obtain⟨ta,ot,n,ws,rfl,hg,hct,_,_,_⟩:=S.ba hx;refine Us hg (S.mn _ _ zq22.1) zq22.2 ?_;rw[beq_eq_false_iff_ne.mpr λq=>zq22.2 (by rw[<-hct,Qa.inj ((q▸hg:s.heap.get? b=Qa ot).symm.trans (S.mn _ _ zq22.1))])];exact h
  |_=>cases q
def jO {C:bf}{d e:Nat} (Y:kX C d e) (s:Qf) (vx vy:Value) (r:Bool):Prop:=
 ∀ (Q:Value->Qf->Prop) (E:Value->Qf->Prop),((∀tk,Q (.bool r) {s with toks:=tk}) ->Qi C.M Y.A (compareOp .In vx vy) Q E s)/\((∀tk,Q (.bool (!r)) {s with toks:=tk}) ->Qi C.M Y.A (compareOp .NotIn vx vy) Q E s)
def one?_s {s:List Nat}{c:Nat} (h:one? s=Qa c):s= [c]:=by
 cases s with
 |nil=>exact af h
 |cons a r=>
  cases r with
  |nil=>refine soB h ?_;rfl
  |cons _ _=>exact af h
def Cy (S:St Y k w H s) {x y:ab}{r:Bool} (hx:jV C w x vx) (hy:jV C w y vy):FX H x y=Qa r->jO Y s vx vy r:=by
 have hu: ∀ {a b:Nat},a<=7->Y.A.units+1+min a b<cLine:=λh=>by rw[J9];exact Y.u (Jl (Jr (Jl (YD _ _) h) 1) (by decide))
 refine lJ (j9 λt e1=>lA λc e2 e=>?_) (lJ (j9 λvs e1=>j9 λds e2=>lA λdx e3 e=>?_) (lJ (j9 λvs e1=>j9 λds e2=>lA λdx e3 e=>?_) (j9 λp e1=>mS λhf e=>?_)))
 ·obtain⟨x',e3,e2⟩:=bs e2
  cases one?_s e2;refine(hx.str? e3).elim λu zq19=>?_;obtain rfl:=zq19.1;refine(hy.str? e1).elim λt' zq18=>?_;refine eqB zq18.1 ?_;have hc:t.contains c=decide (c∈t):=by rw[Ku,Ym,decide_eq_true_eq]
  simp only[<-e,hc];refine λQ E=>⟨λh=>in_str ?_,λh=>notIn_str ?_⟩
  ·rw[show (⟨[c].toArray⟩:Str)=⟨#[c]⟩ from rfl,(StrLaws.found_one ⟨t.toArray⟩ c)]
   exact h s.toks
  ·rw[show (⟨[c].toArray⟩:Str)=⟨#[c]⟩ from rfl,(StrLaws.found_one ⟨t.toArray⟩ c)]
   exact h s.toks
 ·cases tup?_s e1
  obtain⟨t,o,n,ws,rfl,ho,hc,hd,rr,_⟩:=S.ba hy;obtain⟨as,ra,c1,d1⟩:=tP (qD S 7) rr e2;obtain⟨bs,rb,c2,d2⟩:=qD S 7 x vx dx hx e3;rw[<-e];exact λQ E=>⟨λh=>SeqAt.in_tuple_reads (.tuple ho hc hd ra:Reads s.heap (.ref t) (.tuple ds) as) rb c1 c2 (hu d1) (h s.toks),λh=>SeqAt.notIn_tuple_reads (.tuple ho hc hd ra:Reads s.heap (.ref t) (.tuple ds) as) rb c1 c2 (hu d1) (h s.toks)⟩
 ·obtain⟨t,ws,n,rfl,ho,rr,_⟩:=S.list hy e1
  obtain⟨as,ra,c1,d1⟩:=tP (qD S 7) rr e2;obtain⟨bs,rb,c2,d2⟩:=qD S 7 x vx dx hx e3;rw[<-e];exact λQ E=>⟨λh=>SeqAt.in_list_reads (.list ho rfl rfl ra) rb c1 c2 (hu d1) (h s.toks),λh=>SeqAt.notIn_list_reads (.list ho rfl rfl ra) rb c1 c2 (hu d1) (h s.toks)⟩
 ·refine(S.dict hy e1).elim λi zq11=>?_
  obtain⟨b,n,es,rfl,hmod,_,hg,hdr,_,_⟩:=zq11.2;rw[<-Qa.inj e];rcases tX (Jm.mp hf).1 with ⟨q,rfl⟩| ⟨q,rfl⟩
  ·obtain⟨kvs,D⟩:=hdr.atom hf
   rw[(D.get q).isSome];exact λQ E=>⟨λh=>wpAny_in_of hx.atom.1 hmod (D.dictOf hg).mapOf (h _),λh=>wpAny_notIn_of hx.atom.1 hmod (D.dictOf hg).mapOf (h _)⟩
  ·obtain⟨xs,D⟩:=hdr.si hf
   obtain⟨t,rfl,ht⟩:=S.iu hx;simp only[(D.get q).isSome,YQ];exact λQ E=>⟨λh=>wpAny_in_heap Y.room ht hmod (D.dictOf S hg) (h _),λh=>wpAny_notIn_heap Y.room ht hmod (D.dictOf S hg) (h _)⟩
def AY {op:CmpOp} (K:rW C) (S:St Y k w H s) {x y:ab} (hx:jV C w x vx) (hy:jV C w y vy):bq Y k (VR C) (compareOp op vx vy) w s ((nB (ED op) x y H).map λr=>(.bool r,H)):=by
 refine .ji λr e=> .val S λQ E q=>?_;have h: ∀tk,Q (.bool r) {s with toks:=tk}:=λtk=>q _ tk rfl;have h0:=h s.toks;have cmpQ: ∀ {f:Int->Int->Bool}{t:Sem Value},Nh x y f=Qa r->(∀a b t1 t2,vx= .int a t1->vy= .int b t2->r=f a b->Qi C.M Y.A t Q E s) ->Qi C.M Y.A t Q E s:=λe g=>by
  refine xEA (bs e) λa e1 e=>?_;obtain⟨b,e2,rfl⟩:=ms e;obtain⟨t1,q1⟩:=hx.int? e1;obtain⟨t2,q2⟩:=hy.int? e2;exact g a b t1 t2 q1 q2 rfl
 cases op with
 |Eq=>exact(LQ S hx hy e Q E).1 h0
 |NotEq=>
  obtain⟨q,hq,rfl⟩:=ms e;exact(LQ S hx hy hq Q E).2 h0
 |Lt=>exact cmpQ e λa b t1 t2 e1 e2 e3=>by subst e1 e2 e3;exact lt_int h0
 |LtE=>exact cmpQ e λa b t1 t2 e1 e2 e3=>by subst e1 e2 e3;exact le_int h0
 |Gt=>exact cmpQ e λa b t1 t2 e1 e2 e3=>by subst e1 e2 e3;exact gt_int h0
 |GtE=>exact cmpQ e λa b t1 t2 e1 e2 e3=>by subst e1 e2 e3;exact ge_int h0
 |In=>exact(Cy S hx hy e Q E).1 h
 |NotIn=>
  obtain⟨q,hq,rfl⟩:=ms e;exact(Cy S hx hy hq Q E).2 h
 |Is=>exact Qc (Cw K S hx hy (Qg h0) e)
 |IsNot=>
  obtain⟨q,hq,rfl⟩:=ms e;exact Qc (Cw K S hx hy (Qg h0) hq)
end
section
variable {w:Qn}
def LY {d:Qj}{Q:Value->Qf->Prop} (hd:(d==sysModules)=Qb) (ho:s.heap.get? d=Qa (Ql es ep))
  (hQ : Q (.ref s.heap.objs.size) { s with heap := s.heap.push { cls := .type "dict_keyiterator",data := .fields #[.ref d,.int 0 0,.int es.length 0,.int ep 0] } }) :
  Qi (model prog w) A (pyIter (.ref d)) Q E s:=by
 refine wpAny_pyIter_slot (⟨_,ho,rfl⟩) F.slot_dict_iter (Qs F.slot_dict_iter (⟨_,ho,rfl⟩) F.entry_dict_iter ?_ (F.args_dict_iter_1 _));unfold Builtin.«dict.__iter__»;refine Qc ?_;delta Builtin.Dict.dictSlotNone;refine Qc (QH (⟨_,ho,rfl⟩) ?_);show Qi _ _ (pure (qaY d)) _ _ s;refine Qg ?_;show Qi _ _ (Builtin.Dict.showsAll d>>=_) _ _ s;delta Builtin.Dict.showsAll;rw[if_neg (by rw[hd];exact Za)];exact Qc (Qg (Qc (QA ho rfl (Qc (Q9 ho rfl (Qc (Qu (Qg ⟨_,rfl,"dict_keyiterator",_,⟨_,Heap.get?_push_size _ rfl,rfl⟩,F.slot_dict_keyiterator_next.lookup,hQ⟩))))))))
def Ww {it d:Qj}{Q:Option Value->Qf->Prop} (hh:A.handled=Qd) (hit:s.heap.IsKeyIter it d i es.length ep) (hod:s.heap.get? d=Qa (Ql es ep))
  (h1: ∀e h',es[i]?=Qa e->h'.IsKeyIter it d (i+1) es.length ep->Heap.SameBut it s.heap h'->Q (Qa e.key) {s with heap:=h'})
  (h2: ∀h',es[i]?=Qd->Heap.ExtBut it s.heap h'->Q Qd {s with heap:=h'}):Qi (model prog w) A (pyNext (.ref it)) Q E s:=by
 refine Zv (id hit) λo zq23=>?_;delta pyNext;refine Qc (wpAny_attempt (wpAny_callSpecial?_slot (name:=Str.ofString "__next__") hit.typeIs F.slot_dict_keyiterator_next
  (Qs F.slot_dict_keyiterator_next hit.typeIs F.entry_dict_keyiterator_next ?_ (F.args_dict_keyiterator_next_1 _))))
 refine Qc (Qg ?_);refine Qc ?_;refine Qc ?_
 first|refine Qc (Qp hit.typeIs (Qg ?_))|refine Qc (Qt hit.typeIs (Qg ?_))
 refine Qc (wpAny_fieldsOf zq23.1 zq23.2.2 ?_);rw[if_neg (by decide : ¬ (Builtin.Dict_items.ownsTuple "dict_keyiterator" = Qe))];refine wN (Za) ?_;refine Qc (Qg ?_);refine Qc (QA hod rfl ?_);refine wN (by simp) ?_;refine Qc (Qg ?_);refine Qc (Q9 hod rfl ?_);refine wN (by simp) ?_;refine Qg ?_;refine FH (es[i]?) (λhx=>?_) λe hx=>?_
 ·have hx':es.toArray[i]?=none:=by rw[Z6];exact hx
  dsimp only
  rw[if_neg (by lia),KI,hx']
  dsimp only
  refine Qc ?_
  first|refine Qc (Qp hit.typeIs (Qg ?_))|refine Qc (Qt hit.typeIs (Qg ?_))
  show Qi _ _ (setField (.ref it) 0 .none>>=_) _ _ s;refine Qc (wpAny_setField zq23.1 zq23.2.2 (by simp) ?_);refine Qc ?_;delta newExc newTuple;refine Qc (Qu ?_ (by size_fits));refine Qc (m:=firstArgMember _ _) (wpAny_of_eq (a:=Yd) (by first|rfl|(simp only[firstArgMember];rfl)) ?_);refine Qu ?_ (by size_fits);delta raiseNew;refine Qc (wpAny_handled ?_);rw[show A.in1.handled=Qd from hh];refine Qc (Qg (wpAny_throw ?_));exact Qc (wpAny_isInstance (T:="StopIteration") (b:=Qe) ⟨_,Heap.get?_push_size _ rfl,rfl⟩ isSubtype_stop (Qg (h2 _ hx (((Heap.SameBut.update ..).extBut.push _).push _))))
 ·dsimp only
  rw[if_neg (by lia),KI,(by rw[Z6];exact hx:es.toArray[i]?=Qa e)]
  dsimp only
  refine Qc ?_
  first|refine Qc (Qp hit.typeIs (Qg ?_))|refine Qc (Qt hit.typeIs (Qg ?_))
  refine Qc (QI hit.typeIs ?_);show Qi _ _ (setField (.ref it) 1 (rawInt ((i:Int)+1))>>=_) _ _ s;refine Qc (wpAny_setField zq23.1 zq23.2.2 (by simp) ?_);have hit':(s.heap.update it (Obj.mapFields (·.setIfInBounds 1 (rawInt ((i:Int)+1))))).IsKeyIter it d (i+1) es.length ep:=
   ⟨_,Yn _ zq23.1 (Obj.isFreed_of_fields (Obj.data_mapFields zq23.2.2 _)),(Obj.cls_mapFields ..).trans zq23.2.1,by rw[Obj.data_mapFields zq23.2.2];simp [rawInt]⟩
  refine Qc (Qk ?_);refine Qc (QI (s:={s with heap:=s.heap.update it (Obj.mapFields (·.setIfInBounds 1 (rawInt ((i:Int)+1))))}) hit'.typeIs ?_);exact Qg (Qg ⟨_,rfl,Qg (h1 e _ hx hit' (Heap.SameBut.update ..))⟩)
end
abbrev Kp.ext (k:Kp) (p:Qj×Obj):Kp:= {k with ex:=p::k.ex}
def nR (k:Kp) (w:Wd) (os:List bp) (p:Qj×Obj):((k.ext p).all w os).Perm (p::k.all w os):=by
 have:=YV (a:=p) (l₁:=os.flatten++(w.tp++k.ce)) (l₂:=k.ex)
 rw[JD,JD,JD,JD] at this;exact this
section
variable {b:Qj}{o':Obj}
def bw.jc (S:bw C h₀ L k w H h) (o:Obj) (hf:o.isFreed=Qb):bw C h₀ L (k.ext (h.objs.size,o)) w H (h.push o):=by
 obtain⟨os,he,hn,hd⟩:=S.os;exact⟨S.fr.push o,⟨os,he,λp hp=>hn.push S.fr o hf p ((nR k w os _).mem_iff.mp hp),bp.nd.jf (nR k w os (h.objs.size,o)).symm (GC (o8 _) hd (News.gy hn λp hp=>JE.mp hp▸Jv _))⟩,S.ol,S.lo⟩
def bw.ff (S:bw C h₀ L (k.ext (b,o)) w H h):h.get? b=Qa o/\b≠L/\h₀.get? b=none:=by
 obtain⟨os,he,hn,hd⟩:=S.os;exact hn (b,o) ((nR k w os (b,o)).mem_iff.mpr (.head _))
theorem Fr.sameBut (F:Fr h₀ L h m) (hs:Heap.SameBut b h h') (g:b≠L/\h₀.get? b=Qd):Fr h₀ L h' m:=
 ⟨F.ns.sameBut hs (Ka g.1),λc x e=>(hs.2 c λq=>by rw[q,g.2] at e;cases e).trans (F.keep c x e),F.above⟩
def bw.jb (S:bw C h₀ L (k.ext (b,o)) w H h) (hs:Heap.SameBut b h h') (ho:h'.get? b=Qa o'):bw C h₀ L (k.ext (b,o')) w H h':=by
 obtain⟨os,he,hn,hd⟩:=S.os;have hd':=JI.mp (bp.nd.jf (nR k w os (b,o)) hd);refine⟨Fr.sameBut S.fr hs S.ff.2,⟨os,he,λp hp=>?_,bp.nd.jf (nR k w os (b,o')).symm (JI.mpr hd')⟩,S.ol,S.lo⟩;rcases JM.mp ((nR k w os (b,o')).mem_iff.mp hp) with e|hp
 ·rw[e];exact⟨ho,S.ff.2⟩
 ·have:=hn p ((nR k w os (b,o)).mem_iff.mpr (.tail _ hp))
  exact⟨(hs.2 p.1 λe=>hd'.1 (JJ.mpr ⟨p,hp,e⟩)).trans this.1,this.2⟩
def bw.gp (S:bw C h₀ L (k.ext (b,o)) w H h) (hx:Heap.ExtBut b h h'):bw C h₀ L k w H h':=by
 have g:=S.ff;obtain⟨os,he,hn,hd⟩:=S.os;have hd':=JI.mp (bp.nd.jf (nR k w os (b,o)) hd);refine⟨⟨S.fr.ns.extBut hx (Ka g.2.1),λc x e=>hx c x (λq=>by rw[q,g.2.2] at e;cases e) (S.fr.keep c x e),S.fr.above⟩,⟨os,he,λp hp=>?_,hd'.2⟩,S.ol,S.lo⟩
 have:=hn p ((nR k w os (b,o)).mem_iff.mpr (.tail _ hp))
 exact⟨hx p.1 p.2 (λe=>hd'.1 (JJ.mpr ⟨p,hp,e⟩)) this.1,this.2⟩
def bw.kr {p q:Qj×Obj} (S:bw C h₀ L ((k.ext q).ext p) w H h):bw C h₀ L ((k.ext p).ext q) w H h:=by
 obtain⟨os,he,hn,hd⟩:=S.os;have hp:(((k.ext p).ext q).all w os).Perm (((k.ext q).ext p).all w os):=List.Perm.append_left _ (List.Perm.append_left _ (List.Perm.append_left _ (List.Perm.swap p q k.ex)));exact⟨S.fr,⟨os,he,λr hr=>hn r (hp.mem_iff.mp hr),bp.nd.jf hp.symm hd⟩,S.ol,S.lo⟩
def bw.wj {m:ae} (S:bw C h₀ L (k.ext (b,o)) w H h) (h4:4<=b) (hr:uQ C ⟨w.σ++ [b],w.tp⟩ b m [(b,o)]):bw C h₀ L k ⟨w.σ++ [b],w.tp⟩ (H++ [m]) h:=by
 obtain⟨os,he,hn,hd⟩:=S.os;have hp:=(nR k w os (b,o)).trans (WG k w b [(b,o)] os);exact⟨S.fr,⟨os++ [[(b,o)]],r7.xy hr (r7.mono (w:=w) (w':=⟨w.σ++ [b],w.tp⟩) ⟨J6 _ _,λ_ x=>x⟩ he),λp hp'=>hn p (hp.mem_iff.mpr hp'),bp.nd.jf hp hd⟩,S.ol,S.ux h4⟩
end
inductive NS (io:Obj) (T:String) (v:Value) (i:Nat):Prop
 |mk (c:io.cls= .type T) (d:io.data= .fields #[v,.int (i:Nat) 0]):NS io T v i
inductive zao (io:Obj) (x:List Nat) (i:Nat):Prop
 | mk (T : String) (t : Tok) (h : T = "str_ascii_iterator" \/ T = "str_iterator") (q : NS io T (.str ⟨x.toArray⟩ t) i) : zao io x i
inductive zaq (io:Obj) (n:Int) (i:Nat):Prop
 | mk (left : Int) (h1 : 0 < left ↔ (i : Int) < n) (h2 : 0 < left -> left = n - i) (e : io = { cls := .type "range_iterator",dict := Qd,data := .fields #[rawInt (i : Nat),rawInt left,rawInt 1],slots := #[] }) : zaq io n i
def pK (C:bf) (w:Wd) (io:Obj) (i:Nat) (k:It):Prop:=It.casesOn (motive:=λ_=>Prop) k
 (λa => ∃ la,w.σ[a]? = Qa la /\ NS io "list_iterator" (.ref la) i)
 (λmvs => ∃ ta,jV C w (.ba mvs) (.ref ta) /\ NS io "tuple_iterator" (.ref ta) i)
 (λa n ep => ∃ la,w.σ[a]? = Qa la /\ io.cls = .type "dict_keyiterator" /\ io.data = .fields #[.ref la,.int (i : Nat) 0,.int (n : Nat) 0,.int (ep : Nat) 0])
 (λx=>sx x/\zao io x i)
 (λn=>zaq io n i)
 (λmvs => ∃ la,jV C w (.fl mvs) (.ref la) /\ NS io "list_iterator" (.ref la) i)
theorem pK.mono (l:w.le w') {k:It}:pK C w io i k->pK C w' io i k:=
 It.casesOn (motive:=λk=>pK C w io i k->pK C w' io i k) k (λ_ h=>h.elim λla h=>⟨la,l.get h.1,h.2⟩) (λ_ h=>h.elim λla h=>⟨la,h.1.mono l,h.2⟩) (λ_ _ _ h=>h.elim λla h=>⟨la,l.get h.1,h.2⟩) (λ_ h=>h) (λ_ h=>h) (λ_ h=>h.elim λla h=>⟨la,h.1.mono l,h.2⟩)
section
variable {cx:CC}{fr:Frame}
def sA.gz (h:sA C w mes es):es.length=mes.length/\∀ (i:Nat) (p:ab×ab),mes[i]?=Qa p-> ∃e:Qh,es[i]?=Qa e/\jV C w p.1 e.key:=by
 rcases h with ⟨kvs,D⟩| ⟨xs,D⟩
 ·have l1:=Ht D.e
  have l2:=D.p.length;refine⟨by lia,λi p hp=>?_⟩;have hik:i<kvs.length:=Js ((Ju.mp hp).1:i<mes.length) (Jx l1);have hie:i<es.length:=Js hik (Jx (K7 l2));refine⟨es[i],Jn hie,?_⟩;have hk:=(D.p.get? (i:=i) (Jn hie) (Jn hik)).1;have he:(mes.map (·.1))[i]?=(kvs.map λp=>p.1.val)[i]?:=by rw[D.e]
  rw[JA,JA,hp,Jn hik] at he;rw[show p.1=kvs[i].1.val from Qa.inj he];have hok:=D.ok kvs[i] (Zo hik)
  generalize kvs[i].1=a at hk hok
  cases a with
  |i z=>exact Ko hk
  |s x=>
   obtain⟨t,ht⟩:=Kn hk;exact⟨t,ht,hok⟩
 ·have l1:=Ht D.e
  refine⟨by rw[D.es,Jp,l1],λi p hp=>?_⟩;have hik:i<xs.length:=l1▸(Ju.mp hp).1;refine⟨entryOfKey (tupleKind (kH C.prog C.w)) xs[i],by rw[D.es,JA,Jn hik];rfl,?_⟩;have he:(mes.map (·.1))[i]?=(xs.map λx=>ab.ba (x.1.map ao.val))[i]?:=by rw[D.e]
  rw[JA,JA,hp,Jn hik] at he;rw[show p.1=_ from Qa.inj he];exact D.v xs[i] (Zo hik)
def LZ {n:Int} (h1:n<=bb) (h2: -(bb:Int)<=n):Builtin.Range.small 0 n 1=true:=by
 have hl:(bb:Int)=1000000:=rfl;refine small_one ?_ ?_ ?_ ?_<;>lia
def Wx (n:Int):(0<Ya 0 n 1 ↔ 0<n)/\(0<Ya 0 n 1->Ya 0 n 1=n):=by
 delta Ya;simp only[gt_iff_lt,Int.zero_lt_one,if_true];split
 ·rename_i h
  refine⟨?_,?_⟩<;>lia
 ·rename_i h
  refine⟨?_,?_⟩<;>lia
def LN (S:St Y k w H s) {v:ab} (hv:jV C w v rv) {Q:Value->Qf->Prop} 
  (h: ∀I io h',bw C Y.h₀ Y.L (k.ext (I,io)) w H h'->pK C w io 0 z->Q (.ref I) {s with heap:=h'}):pC H v=Qa z->Qi C.M Y.A (pyIter rv) Q E s:=by
 refine lJ (j9 λn e1=>mS λhn e=>?_) (lJ (j9 λa e1=>lJ (lA λvs e2 e=>?_) (j9 λp e2=>lA λep e3 e=>?_)) (lJ (lA λvs e1 e=>?_) (lJ (lA λx e1 e=>?_) (lA λvs e1 e=>?_))))
 ·obtain rfl:=Qa.inj e;cases rng?_s e1
  obtain⟨r,t,u,v,rfl,hr⟩:=hv;exact wpAny_pyIter_range (S.vj hr) (LZ (of_decide_eq_true (Jm.mp hn).1) (of_decide_eq_true (Jm.mp hn).2)) (h _ _ _ (S.jc _ rfl) ⟨_,(Wx n).1,λhh=>((Wx n).2 hh).trans (Int.sub_zero n).symm,rfl⟩)
 ·subst e;cases ref?_s e1
  obtain⟨la,ws,n,rfl,ho,rr,hl⟩:=S.list hv e2;exact Zv hv λ_ zq20=>Q4 (items:=ws.toArray) ⟨_,ho,rfl,n,rfl⟩ (h _ _ _ (S.jc _ rfl) ⟨la,qaY.inj zq20.1▸zq20.2,rfl,rfl⟩)
 ·subst e;cases ref?_s e1
  obtain⟨b,n,es,rfl,hmod,hep,hg,dr,_,_⟩:=S.jx hv e2;cases hep ep e3;exact Zv hv λ_ zq18=>LY hmod hg (h _ _ _ (S.jc _ rfl) ⟨b,qaY.inj zq18.1▸zq18.2,rfl,by rw[<-dr.gz.1];rfl⟩)
 ·subst e;cases tup?_s e1
  obtain⟨t,o,n,ws,rfl,ho,hc,hd,rr,hl⟩:=S.ba hv;exact iter_tuple (items:=ws.toArray) ⟨o,ho,hc,n,hd⟩ (h _ _ _ (S.jc _ rfl) ⟨t,hv,rfl,rfl⟩)
 ·subst e
  obtain⟨t,rfl,ok⟩:=hv.str? e1;refine wpAny_pyIter_strU (h _ _ _ (S.jc _ rfl) ⟨ok,strIterType ⟨x.toArray⟩,t,?_,rfl,rfl⟩);delta strIterType;split
  ·exact .inl rfl
  ·exact .inr rfl
 ·subst e;cases fl?_s e1
  obtain⟨la,o,n,ws,rfl,q,rr,hl⟩:=id hv;exact Q4 (items:=ws.toArray) ⟨o,S.mn _ _ q.1,q.2,n,q.3⟩ (h _ _ _ (S.jc _ rfl) ⟨la,hv,rfl,rfl⟩)
structure zap {C:bf}{d e:Nat} (Y:kX C d e) (k:Kp) (w:Wd) (H:MH) (s:Qf) (I:Qj) (i:Nat) (z:It) (r:Option ab) (Q:Option Value->Qf->Prop):Prop where
 go: ∀v rv io' h' tk,r=Qa v->bw C Y.h₀ Y.L (k.ext (I,io')) w H h'->pK C w io' (i+1) z->jV C w v rv->Q (Qa rv) {s with heap:=h',toks:=tk}
 eu: ∀h',r=Qd->bw C Y.h₀ Y.L k w H h'->Q Qd {s with heap:=h'}
def Wp {I:Qj}{r:Option ab}{Q:Option Value->Qf->Prop} (S:St Y (k.ext (I,io)) w H s) (rr:jU C w mvs vs) (er:mvs[i]?=r) (G:zap Y k w H s I i z r Q)
  (item: ∀x (Q:Option Value->Qf->Prop),vs.toArray[i]?=Qa x->(∀h' o',h'.get? I=Qa o'->pK C w o' (i+1) z->Heap.SameBut I s.heap h'->Q (Qa x) {s with heap:=h'}) ->Qi C.M Y.A (pyNext (.ref I)) Q (λ_ _=>False) s)
  (eu: ∀ (Q:Option Value->Qf->Prop),vs.toArray[i]?=Qd->(∀h',Heap.ExtBut I s.heap h'->Q Qd {s with heap:=h'}) ->Qi C.M Y.A (pyNext (.ref I)) Q (λ_ _=>False) s) {E:Value->Qf->Prop}:Qi C.M Y.A (pyNext (.ref I)) Q E s:=by
 refine Qo (Q:=Q) (E:=λ_ _=>False) ?_ (λ_ _ q=>q) (λ_ _ q=>q.elim);cases r with
 |none=>
  refine eu Q ?_ λh' he=>G.eu h' rfl (S.gp he);rw[Z6,Kh,<-rr.length];exact Kh.mp er
 |some v=>
  exact(rr.get er).elim λrv zq14=>item rv Q (by rw[Z6];exact zq14.1) λh' o' g1 g2 hs=>G.go v rv o' h' _ rfl (S.jb hs g1) g2 zq14.2
def LL {I:Qj}{r:Option ab} (S:St Y (k.ext (I,io)) w H s) (R:pK C w io i z) (e:lX H i z=Qa r) {Q:Option Value->Qf->Prop} (G:zap Y k w H s I i z r Q):Qi C.M Y.A (pyNext (.ref I)) Q E s:=by
 have hI:=S.ff.1;cases z with
 |fs mvs=>
  obtain⟨la,hv,ic⟩:=R;have zq12:=id hv;obtain⟨_,o,n,vs,e1,q,rr,_⟩:=zq12;cases e1;have hl0:s.heap.IsList la vs.toArray:=⟨o,S.mn _ _ q.1,q.2,n,q.3⟩;exact Wp S rr (Qa.inj e) G (λx Q hx g=>QE ⟨io,hI,ic.1,ic.2⟩ hl0 hx λh' hit' hs=>hit'.elim λo' p=>g h' o' p.1 ⟨la,hv,p.2.1,p.2.2⟩ hs) (λQ hx g=>QJ Y.handled ⟨io,hI,ic.1,ic.2⟩ hl0 hx g)
 |ls a=>
  obtain⟨la,ha,ic⟩:=R;obtain⟨mvs,hm,er⟩:=ms e;obtain⟨_,ws,n,e1,ho,rr,hl⟩:=S.list (x:=.ref a) ⟨la,rfl,ha⟩ hm;cases e1;have hl0:s.heap.IsList la ws.toArray:=⟨_,ho,rfl,n,rfl⟩;exact Wp S rr er G (λx Q hx g=>QE ⟨io,hI,ic.1,ic.2⟩ hl0 hx λh' hit' hs=>hit'.elim λo' p=>g h' o' p.1 ⟨la,ha,p.2.1,p.2.2⟩ hs) (λQ hx g=>QJ Y.handled ⟨io,hI,ic.1,ic.2⟩ hl0 hx g)
 |tp mvs=>
  obtain⟨ta,ht,ic⟩:=R;have zq7:=S.ba ht;obtain⟨_,o,n,ws,e1,ho,hc,hd,rr,hl⟩:=zq7;cases e1;have hl0:IsTup s.heap ta ws.toArray:=⟨o,ho,hc,n,hd⟩;exact Wp S rr (Qa.inj e) G (λx Q hx g=>next_tuple_item ⟨io,hI,ic.1,ic.2⟩ hl0 hx λh' hit' hs=>hit'.elim λo' p=>g h' o' p.1 ⟨ta,ht,p.2.1,p.2.2⟩ hs) (λQ hx g=>next_tuple_end Y.handled ⟨io,hI,ic.1,ic.2⟩ hl0 hx g)
 |sq x=>
  obtain⟨ok,T,t,hT,ic⟩:=R;have er:=Qa.inj e;refine FH (x[i]?) (λhc=>?_) λc hc=>?_
  ·rw[hc] at er
   have hvs:(⟨x.toArray⟩:Str).cps[i]?=none:=(Z6).trans hc;rcases hT with rfl|rfl
   ·exact wpAny_pyNext_ascii_end Y.handled ⟨io,hI,ic.1,ic.2⟩ hvs λh' he=>G.eu h' er.symm (S.gp he)
   ·exact wpAny_pyNext_wide_end Y.handled ⟨io,hI,ic.1,ic.2⟩ hvs λh' he=>G.eu h' er.symm (S.gp he)
  ·rw[hc] at er
   have hck: ∀u:Tok,jV C w (.str [c]) (.str ⟨#[c]⟩ u):=λu=>⟨u,rfl,λy hy=>JE.mp hy▸ok.1 c (Jq hc),(by decide:1<=bb)⟩;rcases hT with rfl|rfl
   ·exact wpAny_pyNext_ascii_item ⟨io,hI,ic.1,ic.2⟩ ((Z6).trans hc) λh' hit' hs=>hit'.elim λo' p=>G.go (.str [c]) _ o' h' _ er.symm (S.jb hs p.1) ⟨ok,_,t,.inl rfl,p.2.1,p.2.2⟩ (hck _)
   ·exact wpAny_pyNext_wide_item ⟨io,hI,ic.1,ic.2⟩ ((Z6).trans hc) λh' hit' hs=>hit'.elim λo' p=>G.go (.str [c]) _ o' h' _ er.symm (S.jb hs p.1) ⟨ok,_,t,.inr rfl,p.2.1,p.2.2⟩ (hck _)
 |dk a n ep=>
  refine Zv R λla zq6=>?_;obtain⟨p,e2,e3⟩:=bs e;obtain⟨hc,e4⟩:=gs e3;have er:=Qa.inj e4
  clear e e3 e4
  have hc:=Jm.mp hc;obtain⟨b,n',es,e1,hmod,hep,hg,dr,_,_⟩:=S.jx ⟨la,rfl,zq6.1⟩ e2;cases e1;obtain⟨hlen,hget⟩:=dr.gz;cases hep ep (beq_iff_eq.mp hc.1);have hn:n=es.length:=(beq_iff_eq.mp hc.2).symm.trans hlen.symm;subst hn;refine Ww Y.handled ⟨io,hI,zq6.2.1,zq6.2.2⟩ hg (λde h' hde hit' hs=>?_) λh' hde he=>G.eu h' ?_ (S.gp he)
  ·cases hv:p.2[i]? with
   |none=>rw[Kh] at hv;rw[Kh.mpr (Jl (Jx hlen) hv)] at hde;cases hde
   |some q=>
    refine xEA (hget i q hv) λde' hde' hr=>?_;rw[hde] at hde';cases hde';rw[hv] at er;exact Zv hit' λo' zq1=>G.go q.1 de.key o' h' s.toks er.symm (S.jb hs zq1.1) ⟨la,zq6.1,zq1.2.1,zq1.2.2⟩ hr
  ·rw[<-er,Kh.mpr (by rw[<-hlen];exact Kh.mp hde)];rfl
 |rg n=>
  obtain⟨left,hl,hl2,rfl⟩:=R;have er:=Qa.inj e;cases hin:decide ((i:Int)<n) with
  |true=>
   rw[hin] at er;refine wpAny_pyNext_range_item hI (hl.mpr (of_decide_eq_true hin)) λh' hit' hs=>G.go (.int i) _ _ h' _ er.symm (S.jb hs hit') ?_ ⟨_,rfl⟩
   have:=hl2 (hl.mpr (of_decide_eq_true hin))
   have e1:left-1=n-((i+1:Nat):Int):=(congrArg (· -1) this).trans (Int.sub_sub n i 1);exact⟨left-1,by rw[e1];exact Int.sub_pos,λ_=>e1,rfl⟩
  |false=>
   rw[hin] at er;exact wpAny_pyNext_range_end Y.handled hI (YW.mp λq=>absurd (hl.mp q) (of_decide_eq_false hin)) λh' he=>G.eu h' er.symm (S.gp he)
end
structure Sy (e:Expr):Prop where
 xu: ∀rest env,starEach (e::rest) env=(Qb,PySem.eval e env)::starEach rest env
 sub: ∀o i,subscripted e Qb o i=operate [o,i] (getItem o i)
 oj: ∀op,behindInMarks op e=Qb
 za: ∀env x,foldedSetIterable e env x=pure x
 swap:p5 e=Qb-> ∀t n env,swapsWith e t n env=pure Qb
structure Sd (C:bf) (d:Nat) (cx:CC) (e:Expr) (ir:Ex):Prop where
 es:mV C d cx e ir
 ts:zM C d cx e ir
 sy:Sy e
abbrev lx (C:bf) (d:Nat) (cx:CC):List Expr->List Ex->Prop:=lV (Sd C d cx)
def zfQ (C:bf) (d:Nat) (cx:CC) (es:List Expr) (irs:List Ex):Prop:=
 ∀ (Y:kX C d 2) (env:Env) (k:Kp) (mE:Str->Option Value) (fr:Frame) (w:Wd) (H:MH) (s:Qf) (pos:Pos),Pl Y cx env k mE fr w H s->bq Y k (jN C) (spliced (backTo pos (starEach es env))) w s (qI (C.cx d) irs fr H)
section
variable {cx:CC}{fr:Frame}
theorem DB {e:Expr}{ir:Ex} (h:mV C d cx e ir) (he: ∀ (env:Env) (whole:Sem Value),PySem.isTrue e env whole=(do let v<-whole;standAt e.pos;holding [v] (PySem.truthy v))):zM C d cx e ir:=
 λY env k mE fr w H s p r=>jW λx H1 e1=>lA λb e2 e=>e▸λQ E hq=>isTrue_plain (h Y env k mE fr w H s p _ e1 _ _ λw1 a1 s1 n1 r1=>vD n1.st r1 e2 λtk=>hq w1 b _ (n1.trans (.toks n1.st tk)) rfl) (he _ _)
def lT {es:List Expr}{irs:List Ex} (h:lx C d cx es irs):(backTo pos (starEach es env)).any (·.1)=false:=by
 induction h with
 |nil=>rfl
 |cons h _ ih=>rw[h.sy.xu];exact ih
def rI {c:Cx}{irs:List Ex}: ∀ {H:MH}{r:List ab×MH},qI c irs fr H=Qa r->r.1.length=irs.length:=by
 induction irs with
 |nil=>intro H r h;refine lW h ?_;rfl
 |cons e irs ih=>exact λ{H r} =>jW λv h1 e1=>jW λvs h2 e2 e=>Qa.inj e▸congrArg (· +1) (ih e2)
def sH {es:List Expr}{irs:List Ex} (h:lx C d cx es irs):zfQ C d cx es irs:=by
 induction h with
 |nil=>intro Y env k mE fr w H s pos p r e;refine lW e ?_;exact λQ E hq=>args_nil (hq w [] s (.refl p.st) .nil)
 |cons h _ ih=>
  intro Y env k mE fr w H s pos p r;refine jW λv H1 e1=>jW λvs H2 e2 e=>?_;refine lW e ?_;exact λQ E hq=>args_cons (h.es Y env k mE fr w H s p _ e1 _ _ λw1 a1 s1 n1 r1=>ih Y env k mE fr w1 H1 s1 pos (p.next n1) _ e2 _ _ λw2 a2 s2 n2 r2=>hq w2 _ s2 (n1.trans n2) (.cons (r1.mono n2.le) r2)) (h.sy.xu _ _)
def jd.vp (S : St Y k w H s) (r : jU C w mvs vs) (hl : mvs.length <= bb) : ∃ w',jd Y k w w' H s { s with heap := s.heap.push { cls := .type "tuple",data := .seq vs.toArray } } /\ jV C w' (.ba mvs) (.ref s.heap.objs.size) := by
 obtain⟨all,hn,_,tp,_⟩:=S.dj;have le : w.le ⟨w.σ,(s.heap.objs.size,({ cls := .type "tuple",data := .seq vs.toArray } : Obj)) :: w.tp⟩ := ⟨K8 _,λ_ x => .tail _ x⟩;exact⟨_,⟨le,tp _ _ _ (S.fr.push _) (hn.push S.fr _) (Jv _),rfl,rfl⟩,_,_,0,vs,rfl,⟨.inl (.head _),rfl,rfl⟩,r.mono le,hl⟩
def Ff {es:List Expr}{irs:List Ex} (h:lx C d cx es irs) (hi:Zj es.length 1000=Qe):mV C d cx (.Tuple es n pos) (.ba irs):=by
 intro Y env k mE fr w H s p r;refine jW λvs H1 e1 e=>?_;refine lW e ?_;have hl:vs.length<=bb:=by rw[rI e1,h.length];exact Jl (Zf.mp hi) (by decide)
 refine λQ E hq=>wpAny_Tuple (sH h Y env k mE fr w H s pos p _ e1 _ _ λw1 a1 s1 n1 r1=>⟨by rw[<-r1.length];exact Jl hl mR,?_⟩);exact(jd.vp n1.st r1 hl).elim λw2 zq26=>hq w2 _ _ (n1.trans zq26.1) zq26.2
def Cv {es:List Expr}{irs:List Ex} (h:lx C d cx es irs) (hi:Zj es.length 1000=Qe):mV C d cx (.List es pos) (.list irs):=by
 intro Y env k mE fr w H s p r;refine jW λvs H1 e1 e=>?_;have hl:vs.length<=bb:=by rw[rI e1,h.length];exact Jl (Zf.mp hi) (by decide)
 refine λQ E hq=>wpAny_List (sH h Y env k mE fr w H s pos p _ e1 _ _ λw1 a1 s1 n1 r1=>⟨by rw[<-r1.length];exact Jl hl mR,?_⟩);obtain rfl:=Qa.inj e;obtain⟨all,hn,add,_,_⟩:=n1.st.dj;exact hq _ _ _ (n1.trans ⟨(⟨J6 _ _,λ_ x=>x⟩:w1.le ⟨w1.σ++ [s1.heap.objs.size],w1.tp⟩),add _ (.list vs) [_] _ ⟨a1,0,rfl,r1.mono (⟨J6 _ _,λ_ x=>x⟩:w1.le ⟨w1.σ++ [s1.heap.objs.size],w1.tp⟩),hl⟩ (n1.st.fr.push _) (hn.push n1.st.fr _) (o8 _) (News.gy hn λp hp=>JE.mp hp▸Jv _) (n1.st.pa (Jv _)),rfl,rfl⟩) ⟨_,rfl,by rw[<-n1.st.len];exact Zr⟩
def MC {i:ab} (hv:jV C w i v) (h:qc n i=Qa j): ∃z t,v= .int z t/\0<=z/\z<n/\j=z.toNat:=by
 refine xEA (bs h) λz e1 h=>?_;refine xA (gs h) λhb e=>?_;exact(hv.int? e1).elim λt zq23=>⟨z,t,zq23,of_decide_eq_true (Jm.mp hb).1,of_decide_eq_true (Jm.mp hb).2,(Qa.inj e).symm⟩
def zbk {z:Int} (h0:0<=z) (h1:z<n):seqIndex? z n=Qa z.toNat:=by
 unfold seqIndex?;simp only[if_neg (YW.mpr h0)];exact(if_pos (Jm.mpr ⟨decide_eq_true h0,decide_eq_true h1⟩))
def Ct {sl:Expr} (hsl:Sy sl) (S:St Y k w H s) {x y:ab} (hx:jV C w x vx) (hy:jV C w y vy):bq Y k (VR C) (subscriptTail value sl vx vy) w s ((lG H x y).map λv=>(v,H)):=by
 refine .ji λv e=> .val S λQ E h=>?_;have lst: ∀ {b:Qj}{mvs:List ab}{ws:List Value},s.heap.IsList b ws.toArray->jU C w mvs ws->mvs.length<=bb->vx= .ref b->(qc mvs.length y).bind (λj=>mvs[j]?)=Qa v->Qi C.M Y.A (subscriptTail value sl vx vy) Q E s:=by
  intro b mvs ws hL rr hl e1 e;refine xEA (bs e) λj hj e=>?_;obtain⟨z,t,rfl,h0,h1,rfl⟩:=MC hy hj;refine(rr.get e).elim λrv zq17=>?_;have hl':=sP hl;subst e1;exact tail_any hL.typeIs slot_list_getitem.lookup (wpAny_getItem_list hL h0 (qaS h1 hl') (by rw[Z6];exact zq17.1) (h rv s.toks zq17.2)) (hsl.sub _ _)
 revert e
 refine lJ (j9 λvs e1=>j9 λj hj e=>?_) (lJ (j9 λvs e1 e=>?_) (lJ (j9 λvs e1 e=>?_) (j9 λp e1=>mS λhf e=>?_)))
 ·cases tup?_s e1
  obtain⟨z,t,rfl,h0,h1,rfl⟩:=MC hy hj;obtain⟨b,o,n,ws,rfl,ho,hc,hd,rr,hl⟩:=S.ba hx;exact(rr.get e).elim λrv zq13=>item_tupleT (l:=ws) ⟨o,ho,hc,n,hd⟩ (by lia) (qaS h1 (sP hl)) (zbk h0 (by rw[<-rr.length];exact h1)) zq13.1 (h rv s.toks zq13.2) (hsl.sub _ _)
 ·cases fl?_s e1
  obtain⟨b,o,n,ws,e2,q,rr,hl⟩:=hx;exact lst ⟨o,S.mn _ _ q.1,q.2,n,q.3⟩ rr hl e2 e
 ·obtain⟨b,ws,n,e2,ho,rr,hl⟩:=S.list hx e1
  exact lst ⟨_,ho,rfl,n,rfl⟩ rr hl e2 e
 ·refine(S.dict hx e1).elim λi zq8=>?_
  obtain⟨b,n,es,rfl,_,_,hg,hdr,_,_⟩:=zq8.2;rcases tX (Jm.mp hf).1 with ⟨q,rfl⟩| ⟨q,rfl⟩
  ·refine(hdr.atom hf).elim λkvs zq7=>?_
   have D:=zq7;have hD:=D.dictOf hg;rcases D.get q with ⟨q1,_⟩| ⟨mv,rv,q1,q2,q3⟩
   ·exact af (q1.symm.trans e)
   ·cases q1.symm.trans e
    exact tail_any hD.typeIs slot_dict_getitem.lookup (wpAny_getItem_of hy.atom.1 hD.mapOf q2 (h rv _ q3)) (hsl.sub _ _)
  ·obtain⟨xs,D⟩:=hdr.si hf
   obtain⟨t,rfl,ht⟩:=S.iu hy;rcases D.get q with ⟨q1,_⟩| ⟨mv,rv,q1,q2,q3⟩
   ·exact af (q1.symm.trans e)
   ·cases q1.symm.trans e
    obtain⟨pp,q4,rfl⟩:=ms q2;exact tail_any (D.dictOf S hg).typeIs slot_dict_getitem.lookup (wpAny_getItem_heap Y.room ht (D.dictOf S hg) q4 (h pp.2 _ q3)) (hsl.sub _ _)
theorem OM {v sl:Expr}{ie ii:Ex} (hv:mV C d cx v ie) (hi:Sd C d cx sl ii):mV C d cx (.Subscript v sl pos) (.sub ie ii):=
 λY env k mE fr w H s p r=>jW λx H1 e1=>jW λy H2 e2 e Q E hq=>Subscript_ (hv Y env k mE fr w H s p _ e1 _ _ λw1 a1 s1 n1 r1=>hi.es Y env k mE fr w1 H1 s1 (p.next n1) _ e2 _ _ λw2 a2 s2 n2 r2=>
  Ct hi.sy n2.st (r1.mono n2.le) r2 r e _ _ λw3 a3 s3 n3 r3=>hq w3 a3 s3 ((n1.trans n2).trans n3) r3)
theorem LR (K:rW C) {l r:Expr}{op:CmpOp}{il ir:Ex} (hl:mV C d cx l il) (hr:Sd C d cx r ir):mV C d cx (.Compare l [op] [r] pos) (.ew (ED op) il ir):=
 λY env k mE fr w H s p r=>jW λx H1 e1=>jW λy H2 e2 e Q E hq=>wpAny_Compare1 (hl Y env k mE fr w H s p _ e1 _ _ λw1 a1 s1 n1 r1=>hr.es Y env k mE fr w1 H1 s1 (p.next n1) _ e2 _ _ λw2 a2 s2 n2 r2=>
  AY K n2.st (r1.mono n2.le) r2 r e _ _ λw3 a3 s3 n3 r3=>hq w3 a3 s3 ((n1.trans n2).trans n3) r3) (hr.sy.oj _)
def Gi (K:rW C) {l r:Expr}{op:CmpOp}{il ir:Ex} (hl:mV C d cx l il) (hr:Sd C d cx r ir):zM C d cx (.Compare l [op] [r] pos) (.ew (ED op) il ir):=by
 intro Y env k mE fr w H s p r;refine jW λv H' e0=>lA λb et e=>?_
 revert e0
 refine jW λx H1 e1=>jW λy H2 e2=>lA λc e3 e4=>?_;cases e4;cases et;subst e;exact λQ E hq=>wpAny_isTrue_Compare1 (hl Y env k mE fr w H s p _ e1 _ _ λw1 a1 s1 n1 r1=>hr.es Y env k mE fr w1 H1 s1 (p.next n1) _ e2 _ _ λw2 a2 s2 n2 r2=>
  AY K n2.st (r1.mono n2.le) r2 (.bool b,H') (by rw[e3];rfl) _ _ λw3 a3 s3 n3 r3=>by rw[show a3= .bool b from r3];exact Q3 (hq w3 b s3 ((n1.trans n2).trans n3) rfl)) (hr.sy.oj _)
def ON {x:Expr}{ix:Ex} (hx:mV C d cx x ix):mV C d cx (.UnaryOp .Not x pos) (.not ix):=by
 intro Y env k mE fr w H s p r;refine jW λb H1 e0 e=>?_
 revert e0
 refine jW λx' H1' e1=>lA λb' e2 e3=>?_;cases e3;refine lW e ?_;exact λQ E hq=>Qc (hx Y env k mE fr w H s p _ e1 _ _ λw1 a1 s1 n1 r1=>Qc (Qm (Qk (not_value (vD n1.st r1 e2 λtk=>hq w1 _ _ (n1.trans (.toks n1.st tk)) rfl)))))
def B5 {x:Expr}{ix:Ex} (hx:zM C d cx x ix):zM C d cx (.UnaryOp .Not x pos) (.not ix):=by
 intro Y env k mE fr w H s p r;refine jW λv H' e0=>lA λb et e=>?_
 revert e0
 refine jW λb' H1 e1 e2=>?_;cases e2;obtain rfl:=Qa.inj et;subst e;exact λQ E hq=>isTrue_not (hx Y env k mE fr w H s p _ e1 _ _ λw1 a1 s1 n1 r1=>by rw[show a1=b' from r1];exact hq w1 _ s1 n1 rfl)
def OS {x y:Expr}{it ix iy:Ex} (ht:zM C d cx t it) (hx:mV C d cx x ix) (hy:mV C d cx y iy):mV C d cx (.IfExp t x y pos) (.ite it ix iy):=by
 intro Y env k mE fr w H s p r;refine jW λb H1 e1 e=>?_;refine λQ E hq=>Qc (ht Y env k mE fr w H s p _ e1 _ _ λw1 a1 s1 n1 r1=>?_);rw[show a1=b from r1];cases b with
 |true=>exact hx Y env k mE fr w1 H1 s1 (p.next n1) _ e _ _ λw2 a2 s2 n2 r2=>hq w2 a2 s2 (n1.trans n2) r2
 |false=>exact hy Y env k mE fr w1 H1 s1 (p.next n1) _ e _ _ λw2 a2 s2 n2 r2=>hq w2 a2 s2 (n1.trans n2) r2
def B6 {x y:Expr}{it ix iy:Ex} (ht:zM C d cx t it) (hx:zM C d cx x ix) (hy:zM C d cx y iy):zM C d cx (.IfExp t x y pos) (.ite it ix iy):=by
 intro Y env k mE fr w H s p r;refine jW λv H' e0 e=>?_
 revert e0
 refine jW λb H1 e1 e0=>?_;refine λQ E hq=>isTrue_IfExp (ht Y env k mE fr w H s p _ e1 _ _ λw1 a1 s1 n1 r1=>?_);rw[show a1=b from r1];cases b with
 |true=>exact hx Y env k mE fr w1 H1 s1 (p.next n1) r (by show l7 (eval _ _ _ _)=_;rw[show eval (C.cx d) ix fr H1=Qa (v,H') from e0];exact e) _ _ λw2 a2 s2 n2 r2=>hq w2 a2 s2 (n1.trans n2) r2
 |false=>exact hy Y env k mE fr w1 H1 s1 (p.next n1) r (by show l7 (eval _ _ _ _)=_;rw[show eval (C.cx d) iy fr H1=Qa (v,H') from e0];exact e) _ _ λw2 a2 s2 n2 r2=>hq w2 a2 s2 (n1.trans n2) r2
def OV {op:BoolOp}{es:List Expr}{irs:List Ex} (h:lx C d cx es irs): ∀ (Y:kX C d 2) (env:Env) (k:Kp) (mE:Str->Option Value) (fr:Frame) (w:Wd) (H:MH) (s:Qf),Pl Y cx env k mE fr w H s->bq Y k (VR C) (boolOp pos op (evalEach es env)) w s (y3 (C.cx d) (op== .Or) irs fr H):=by
 induction h with
 |nil=>exact λY env k mE fr w H s p=> .none
 | @cons ex i es irs he hs ih=>
  intro Y env k mE fr w H s p r;refine jW λv H1 e1 e=>?_;cases hs with
  |nil=>refine lW e ?_;exact he.es Y env k mE fr w H s p _ e1
  | @cons e' i' es' irs' he' hs'=>
   revert e
   refine j9 λb e2 e=>?_;intro Q E hq;show Qi C.M Y.A (do
    let v<-PySem.eval ex env
    standAt pos
    let t<-holding [v] (PySem.truthy v)
    match op,t with
    | .And,Qb| .Or,Qe=>pure v
    |_,_=>boolOp pos op (evalEach (e'::es') env)) Q E s
   refine Qc (he.es Y env k mE fr w H s p _ e1 _ _ λw1 a1 s1 n1 r1=>Qc (Qm (Qc (Qk (vD n1.st r1 e2 λtk=>?_)))));have n2:=n1.trans (.toks n1.st tk);have stop:Qa (v,H1)=Qa r->Qi C.M Y.A (pure a1) Q E {s1 with toks:=tk}:=λe=>by obtain rfl:=Qa.inj e;exact Qg (hq w1 a1 _ n2 r1)
   have go:y3 (C.cx d) (op== .Or) (i'::irs') fr H1=Qa r->Qi C.M Y.A (boolOp pos op (evalEach (e'::es') env)) Q E {s1 with toks:=tk}:=λe=>ih Y env k mE fr w1 H1 _ (p.next n2) r e Q E λw2 a2 s2 n3 r2=>hq w2 a2 s2 (n2.trans n3) r2;cases op<;>cases b
   ·exact stop e
   ·exact go e
   ·exact go e
   ·exact stop e
def B7 {op:BoolOp}{es:List Expr}{irs:List Ex} (h:lx C d cx es irs): ∀ (Y:kX C d 2) (env:Env) (k:Kp) (mE:Str->Option Value) (fr:Frame) (w:Wd) (H:MH) (s:Qf),Pl Y cx env k mE fr w H s->bq Y k c8 (allTrue op es env) w s (l7 (y3 (C.cx d) (op== .Or) irs fr H)):=by
 induction h with
 |nil=>exact λY env k mE fr w H s p=> .none
 | @cons ex i es irs he hs ih=>
  intro Y env k mE fr w H s p r;refine jW λv H' e0=>lA λb et e=>?_
  revert e0
  refine jW λv1 H1 e1 e2=>?_
  --the first test
  have first: ∀c,truthy H1 v1=Qa c-> ∀ {Q:Bool->Qf->Prop}{E:Value->Qf->Prop},(∀w1 s1,jd Y k w w1 H1 s s1->Q c s1) ->Qi C.M Y.A (PySem.isTrue ex env (PySem.eval ex env)) Q E s:=λc hc Q E hq=>
   he.ts Y env k mE fr w H s p (c,H1) (by show bx (eval _ _ _ _) _=_;rw[show eval (C.cx d) i fr H=Qa (v1,H1) from e1];show qaM _ (truthy H1 v1)=_;rw[hc];rfl) Q E λw1 a1 s1 n1 r1=>by rw[show a1=c from r1];exact hq w1 s1 n1
  subst e;intro Q E hq;cases hs with
  |nil=>
   cases e2;cases op with
   |And=>
    refine QF (first b et λw1 s1 n1=>?_);cases b with
    |true=>exact wpAny_allTrue_And_nil (hq w1 _ s1 n1 rfl)
    |false=>exact hq w1 _ s1 n1 rfl
   |Or=>
    refine QK (first b et λw1 s1 n1=>?_);cases b with
    |true=>exact hq w1 _ s1 n1 rfl
    |false=>exact wpAny_allTrue_Or_nil (hq w1 _ s1 n1 rfl)
  | @cons e' i' es' irs' he' hs'=>
   refine(bs e2).elim λc zq1=>?_;have stop:Qa (v1,H1)=Qa (v,H') ->c=b/\H1=H':=λq=>by
    cases q;exact⟨Qa.inj (zq1.1.symm.trans et),rfl⟩
   have go: ∀w1 s1,jd Y k w w1 H1 s s1->y3 (C.cx d) (op== .Or) (i'::irs') fr H1=Qa (v,H') ->Qi C.M Y.A (allTrue op (e'::es') env) Q E s1:=λw1 s1 n1 q=>
    ih Y env k mE fr w1 H1 s1 (p.next n1) (b,H') (by show bx (y3 _ _ _ _ _) _=_;rw[q];show qaM _ (truthy H' v)=_;rw[et];rfl) Q E λw2 a2 s2 n2 r2=>hq w2 a2 s2 (n1.trans n2) r2
   cases op with
   |And=>
    refine QF (first c zq1.1 λw1 s1 n1=>?_);cases c with
    |true=>exact go w1 s1 n1 zq1.2
    |false=>obtain⟨rfl,rfl⟩:=stop zq1.2;exact hq w1 _ s1 n1 rfl
   |Or=>
    refine QK (first c zq1.1 λw1 s1 n1=>?_);cases c with
    |true=>obtain⟨rfl,rfl⟩:=stop zq1.2;exact hq w1 _ s1 n1 rfl
    |false=>exact go w1 s1 n1 zq1.2
end
section
variable {cx:CC}{fr:Frame}
structure zc8 (C:bf) (w:Wd) {α:Type} (mk:α->ab) (mes:List (ab×ab)) (kvs:List (α×Value)):Prop where
 e:mes.map (·.1)=kvs.map (λp=>mk p.1)
 r:jU C w (mes.map (·.2)) (kvs.map (·.2))
def UB [DecidableEq α] {mk:α->ab} (hmk: ∀a b,gm (mk a) (mk b)=decide (a=b)) (k:α) {mv:ab} (hv:jV C w mv rv) {kvs:List (α×Value)} (P:zc8 C w mk mes kvs) (hany:(j7 mes (mk k)).isSome=kvs.any (λkv=>kv.1=k)):
  zc8 C w mk (nM mes (mk k) mv) (stored kvs k rv):=by
 delta nM stored;simp only[hany];cases hc:kvs.any (λkv=>decide (kv.1=k)) with
 |false=>
  refine⟨?_,?_⟩
  ·show (mes++ [_]).map _=(kvs++ [_]).map _
   simp only[JU,JU,P.e];rfl
  ·show jU C w ((mes++ [_]).map _) ((kvs++ [_]).map _)
   simp only[JU,JU];exact jU.append (.da hv) P.r
 |true=>
  obtain⟨e,r⟩:=P
  clear hc hany
  show zc8 C w mk (mes.map _) (kvs.map _)
  induction kvs generalizing mes with
  |nil=>rw[Xl.mp e];exact⟨rfl,.nil⟩
  |cons y kvs ih=>
   cases mes with
   |nil=>cases e
   |cons x mes=>
    obtain⟨e1,e2⟩:=KZ.inj e;obtain⟨v,t,ev,h,r⟩:=r;obtain⟨rfl,rfl⟩:=KZ.inj ev;have e1:x.1=mk y.1:=e1;have hk:gm x.1 (mk k)=decide (y.1=k):=by rw[e1,hmk]
    by_cases q:y.1=k
    ·rw[decide_eq_true q] at hk
     refine⟨?_,?_⟩
     ·show (bif gm x.1 (mk k) then _ else _:ab×ab).1::_=_
      rw[(ih e2 r).e,hk,JO,JO,if_pos q];exact congrArg (· ::_) e1
     ·show jU C w ((bif gm x.1 (mk k) then _ else _:ab×ab).2::_) _
      rw[hk,JO,JO,if_pos q];exact .cons hv (ih e2 r).r
    ·rw[decide_eq_false q] at hk
     refine⟨?_,?_⟩
     ·show (bif gm x.1 (mk k) then _ else _:ab×ab).1::_=_
      rw[(ih e2 r).e,hk,JO,JO,if_neg q];exact congrArg (· ::_) e1
     ·show jU C w ((bif gm x.1 (mk k) then _ else _:ab×ab).2::_) _
      rw[hk,JO,JO,if_neg q];exact .cons h (ih e2 r).r
def HR (mes:List (ab×ab)) (k v:ab):(nM mes k v).length=(bif (j7 mes k).isSome then mes.length else mes.length+1):=by
 delta nM;cases (j7 mes k).isSome with
 |true=>exact Jp ..
 |false=>exact Jz
def G4 {k v:ab} (h:mes.length<n):(nM mes k v).length<=n:=by
 rw[HR];cases (j7 mes k).isSome with
 |true=>exact JK h
 |false=>exact h
def y6 [DecidableEq α] (kvs:List (α×Value)) (k:α):(valueAt kvs k).isSome=kvs.any (λkv=>kv.1=k):=by
 delta valueAt;rw[YQ,Ku,List.find?_isSome,K9]
def BJ (S:St Y k w H s) (hu:A.units+1<cLine) (hob:s.heap.get? D=Qa (Ql es n)) (j:sA C w mes es) {x v:ab} (hf:j5 mes x=Qe) (hlen:mes.length<bb) (hk:jV C w x kv) (hv:jV C w v vv)
  {Q:Unit->Qf->Prop}{E:Value->Qf->Prop}
  (h: ∀es' h' tk,Heap.SameBut D s.heap h'->h'.get? D=Qa (Ql es' (bif (j7 mes x).isSome then n else n+1)) ->sA C w (nM mes x v) es'->Q () {s with heap:=h',toks:=tk}):Qi C.M A (dictSet D kv vv) Q E s:=by
 have ci: ∀ {b:Bool}{x y:Nat},(if b=Qe then x else y)=(bif b then x else y):=λ{b x y} =>by cases b<;>rfl
 rcases tX (Jm.mp hf).1 with ⟨q,rfl⟩| ⟨q,rfl⟩
 ·obtain⟨kvs,DD⟩:=j.atom hf
  obtain⟨h1,h2⟩:=hk.atom;have hl:es.length<=sizeLine:=by rw(occs:=.all) [(sA.gz (.inl ⟨kvs,DD⟩)).1];exact Jl (JK hlen) mR
  have hany:=(DD.get q).isSome.trans (y6 kvs q);refine Dw (knd:=kH C.prog C.w) h1 hob DD.k DD.p DD.n hl λes' f hfe q1 q2 q3=>?_
  rw(occs:=.all) [<-hany,ci] at hfe
  have P:=UB Hw q hv ⟨DD.e,DD.r⟩ hany;refine h es' _ _ (Heap.SameBut.update ..) ?_ (.inl ⟨_,q2,q1,q3,P.e,λp hp=>?_,P.r⟩)
  ·rw(occs:=.all) [<-hfe]
   exact Yn _ hob (by rw(occs:=.all) [hfe];rfl)
  ·unfold stored at hp
   split at hp
   ·obtain⟨q,hq,rfl⟩:=JJ.mp hp
    split<;>exact DD.ok q hq
   ·rcases Zd.mp hp with hp|hp
    ·exact DD.ok p hp
    ·rw(occs:=.all) [JE.mp hp];exact h2
 ·obtain⟨xs,DD⟩:=j.si hf
  obtain⟨t,rfl,ht⟩:=S.iu hk;have hl:xs.length<=sizeLine:=by rw(occs:=.all) [<-Ht DD.e];exact Jl (JK hlen) mR
  refine Lo (knd:=tupleKind (kH C.prog C.w)) (qaT hu) ht (DD.es▸hob) (DD.qz S) DD.n hl λf hfe q3=>?_;have hany:=(DD.get q).isSome
  rw(occs:=.all) [YQ] at hany
  rw(occs:=.all) [<-hany,ci] at hfe
  have P:=UB (mk:=λas:List ao=>ab.ba (as.map ao.val)) Et q hv ⟨DD.oe.1,DD.oe.2⟩ (by rw(occs:=.all) [<-y6,Jf,YQ];exact hany)
  rw(occs:=.all) [<-kvsOf_storedH xs q t vv] at P
  refine h _ _ _ (Heap.SameBut.update ..) ?_ (.inr ⟨_,rfl,q3,λx hx=>?_,?_,?_⟩)
  ·rw(occs:=.all) [<-hfe,<-DD.es]
   exact Yn _ hob (by rw(occs:=.all) [DD.es,hfe];rfl)
  ·rcases mem_storedH hx with ⟨y,hy,q1,q2⟩| ⟨q1,q2⟩
   ·rw(occs:=.all) [q1,q2];exact DD.v y hy
   ·rw(occs:=.all) [q1,q2];exact hk
  ·rw(occs:=.all) [P.e];simp [kvsOf]
  ·have:=P.r
   simpa [kvsOf,Function.comp_def] using this
theorem Pl.ext (p:Pl Y cx env k mE fr w H s) {q:Qj×Obj} (S:St Y (k.ext q) w H s'):Pl Y cx env (k.ext q) mE fr w H s':=
 ⟨⟨p.b.kind,p.b.gl,p.b.bl,p.b.sc,p.b.cells,p.b.ju.imp id λ⟨o,h⟩=>⟨o,.tail _ h.1,h.2⟩⟩,p.f,S⟩
def Ey:List (Value×Value) ->List Value
 | []=> []
 |p::r=>p.1::p.2::Ey r
def F4 (ws:List (Value×Value)):(Ey ws).length=2*ws.length:=by
 induction ws with
 |nil=>rfl
 |cons p ws ih=>rw[ZE,Kv];exact congrArg (· +2) ih
abbrev cU (C:bf) (d:Nat) (cx:CC) (o:Option Expr) (i:Ex):Prop:= ∃e,o=Qa e/\Sd C d cx e i
def Fk {ia:List Ex} (hk:lV (cU C d cx) ks ia): ∀ {vs:List Expr}{ib:List Ex},lx C d cx vs ib->ks.length=vs.length-> ∀ (Y:kX C d 2) (env:Env) (k:Kp) (mE:Str->Option Value) (fr:Frame) (w:Wd) (H:MH) (s:Qf),Pl Y cx env k mE fr w H s->
  bq Y k (λw l ws=>jU C w l (Ey ws)) (evalPairs (pairTrees ks vs env pos)) w s (qI (C.cx d) (Ur ia ib) fr H):=by
 induction hk with
 |nil=>
  intro vs ib hv hl Y env k mE fr w H s p r e;cases hv with
  |nil=>refine lW e ?_;exact λQ E hq=>evalPairs_nil (hq w [] s (.refl p.st) .nil)
  |cons _ _=>cases hl
 |cons hk _ ih=>
  intro vs ib hv hl Y env k mE fr w H s p r;cases hv with
  |nil=>cases hl
  | @cons v b vs ib hv hvs=>
   obtain⟨ke,rfl,hk⟩:=hk;refine jW λx H1 e1=>jW λl H2 e0 e=>?_
   revert e0
   refine jW λy H3 e2=>jW λl' H4 e3 e4=>?_;cases e4;refine lW e ?_;exact λQ E hq=>evalPairs_cons (hk.es Y env k mE fr w H s p _ e1 _ _ λw1 a1 s1 n1 r1=>Qc (hv.es Y env k mE fr w1 H1 s1 (p.next n1) _ e2 _ _ λw2 a2 s2 n2 r2=>Qc (Qm (Qg
    (ih hvs (ZP.inj hl) Y env k mE fr w2 H3 s2 ((p.next n1).next n2) _ e3 _ _ λw3 a3 s3 n3 r3=>hq w3 ((a1,a2)::a3) s3 ((n1.trans n2).trans n3) (.cons (r1.mono (n2.le.trans n3.le)) (.cons (r2.mono n3.le) r3)))))))
def Cg: ∀ {ws:List (Value×Value)}{l:List ab}{mes mes':List (ab×ab)}{es:List Qh}{s:Qf}{Q:PUnit->Qf->Prop}{E:Value->Qf->Prop},
  jU C w l (Ey ws) ->yJ l mes=Qa mes'->mes.length+ws.length<=1000->St Y (k.ext (D,Ql es mes.length)) w H s->sA C w mes es->
  (∀es' s',St Y (k.ext (D,Ql es' mes'.length)) w H s'->sA C w mes' es'->qN s s'->Q PUnit.unit s') ->Qi C.M Y.A (storeAll D ws) Q E s:=by
 intro ws
 induction ws with
 |nil=>
  intro l mes mes' es s Q E r e _ S j hq;cases l with
  |nil=>obtain rfl:=Qa.inj e;exact Qg (hq es s S j (.refl s))
  |cons _ _=>obtain⟨_,_,e,_,_⟩:=r;cases e
 |cons p ws ih=>
  intro l mes mes' es s Q E r e hl S j hq;cases l with
  |nil=>cases r
  |cons x l=>
   obtain⟨kv,t,e1,hk,r⟩:=r;cases e1;cases l with
   |nil=>cases r
   |cons v l=>
    obtain⟨vv,t,e1,hv,r⟩:=r;cases e1;obtain⟨hf,e⟩:=gs e;delta storeAll;rw[Xf];refine Qc (Qc (BJ S (Y.u (n:=1) (by decide)) S.ff.1 j hf (Zx (Js (ZY (Zs _)) hl:mes.length<1000) (by decide)) hk hv λes' h' tk hs hg j'=>Qg ?_));rw[<-HR (v:=v)] at hg;exact ih (s:={s with heap:=h',toks:=tk}) r e (Jl (JW (G4 (JT _)) _) (by rw[XJ];exact hl)) (S.jb hs hg) j' λes'' s'' S'' j'' sm=>hq es'' s'' S'' j'' ⟨sm.1,sm.2⟩
def N3 {ia:List Ex} (hk:lV (cU C d cx) ks ia): ∀ {ib:List Ex},ib.length=ks.length->ks.all (·.isSome)=Qe/\(Ur ia ib).length=2*ks.length:=by
 induction hk with
 |nil=>exact λ_=>⟨rfl,rfl⟩
 |cons h _ ih=>
  intro ib hl;cases ib with
  |nil=>cases hl
  |cons b ib=>
   refine Zv h λ_ zq25=>?_;refine eqB zq25.1 ?_;exact⟨(ih (ZP.inj hl)).1,by rw[ZE,Kv,<-(ih (ZP.inj hl)).2];rfl⟩
def CA {vs:List Expr}{ia ib:List Ex} (hk:lV (cU C d cx) ks ia) (hv:lx C d cx vs ib) (hl:ks.length=vs.length):mV C d cx (.Dict ks vs pos) (.dict (Ur ia ib)):=by
 intro Y env k mE fr w H s p r;refine jW λl H1 e1=>j9 λes e2=>mS λhlen e=>?_;refine lW e ?_;have hlen:=Zf.mp hlen;refine xA (N3 hk (hv.length.trans hl.symm)) λhall hz=>?_;intro Q E hq;have S0 := p.st.jc { cls := .type "dict",data := .dict #[] } rfl;have eu: ∀ {w':Wd}{des:List Qh}{s':Qf},w.le w'->St Y (k.ext (s.heap.objs.size,Ql des es.length)) w' H1 s'->sA C w' es des->es.length<=bb->qN s s'->Q (.ref s.heap.objs.size) s':=λ{w' des s'} le S' j' hl sm=>
  hq _ _ s' ⟨le.trans (⟨J6 _ _,λ_ x=>x⟩:w'.le ⟨w'.σ++ [s.heap.objs.size],w'.tp⟩),S'.wj (p.st.pa (Jv _)) ⟨des,_,rfl,λe he=>Qa.inj he,j'.mono (⟨J6 _ _,λ_ x=>x⟩:w'.le ⟨w'.σ++ [s.heap.objs.size],w'.tp⟩),hl⟩,sm⟩ ⟨_,rfl,by rw[<-S'.len];exact Zr⟩
 by_cases h0:ks= []
 ·subst h0
  cases hk;have hvs:vs= []:=ZO.mp hl.symm;subst hvs;cases hv;cases e1;obtain rfl:=Qa.inj e2;exact wpAny_Dict_empty (eu (s' := { s with heap := s.heap.push { cls := .type "dict",data := .dict #[] } }) (.refl w) S0 (.inl ⟨[],.nil⟩) (Jy _) ⟨rfl,rfl⟩)
 ·refine wpAny_Dict_any hall hl h0 (by lia) (Fk hk hv hl Y env _ mE fr w H _ (p.ext S0) _ e1 _ _ λw1 ws s1 n1 r1=>?_)
  have hws:l.length=2*ws.length:=by rw[<-F4];exact r1.length
  have hel:l.length=(Ur ia ib).length:=rI e1;have hsz: ∀ {l:List ab}{mes mes':List (ab×ab)},yJ l mes=Qa mes'->mes'.length<=mes.length+l.length:=by
   intro l mes mes' e
   fun_induction yJ l mes with
   |case1=>cases e;exact Jv _
   |case2=>cases e
   |case3 es k v r ih=>
    refine xA (gs e) λ_ e=>?_;refine Jl (ih e) (Jl (JW (G4 (JT _)) _) ?_);simp only[ZE];lia
  have hes:=hsz e2;exact Cg (mes:=[]) (es:=[]) r1 e2 (by rw[qai];lia) n1.st (.inl ⟨[],.nil⟩) λdes s' S' j' sm=>eu n1.le S' j' (by rw[qai] at hes;exact Jl hes (Jl (Jl (Jx (ZM _)) (Jl (Jx hel) hlen):_<=30) (by decide))) (qN.trans (b:=s1) ⟨n1.cb.1,n1.cb.2⟩ sm)
def Ni {i:Int} (h:0<=i):max 0 (min (if i<0 then i+(n:Int) else i) (n:Int))=((min i.toNat n:Nat):Int):=by
 rw[if_neg (YW.mpr h)];obtain⟨m,rfl⟩:=Int.eq_ofNat_of_zero_le h;simp only[KI];rcases Nat.le_total m n with e|e
 ·rw[Yi e,Int.min_eq_left (YP.mpr e)];exact Int.max_eq_right (KS m)
 ·rw[XU e,Int.min_eq_right (YP.mpr e)];exact Int.max_eq_right (KS n)
def E0 (s:List Nat) {l u:Option Int} (hl: ∀i,l=Qa i->0<=i) (hu: ∀i,u=Qa i->0<=i):
  Txt.slice ⟨s.toArray⟩ l u=⟨(ni s (l.elim 0 (λi=>min i.toNat s.length)) (u.elim s.length (λi=>min i.toNat s.length))).toArray⟩:=by
 have hlen:(⟨s.toArray⟩:Str).length=s.length:=rfl
 generalize ha:l.elim 0 (λi=>min i.toNat s.length)=a
 generalize hb:u.elim s.length (λi=>min i.toNat s.length)=b
 have hbn:b<=s.length:=by
  cases u with
  |none=>exact Jx hb.symm
  |some j=>exact hb▸XX _ _
 have hidx:Xp l u 1 s.length=(Zg (b-a)).map (a+ ·):=by
  rw[<-sliceRange_one];delta Xp;simp only[show (1:Int)>0 by decide,if_true]
  congr 1
  ·cases l with
   |none=>exact congrArg qbc ha
   |some i=>
    have:=hl i rfl
    simp only[qbp] at ha;exact(Ni this).trans (congrArg qbc ha)
  ·cases u with
   |none=>exact congrArg qbc hb
   |some i=>
    have:=hu i rfl
    simp only[qbp] at hb;exact(Ni this).trans (congrArg qbc hb)
 delta Txt.slice;rw[hlen,hidx];rw[(pick_run s.toArray a (b-a):(YA (λx=>a+x) (Zg (b-a))).filterMap (λx=>(⟨s.toArray⟩:Str).cps[x]?)=(s.drop a).take (b-a)),(by unfold ni;rw[List.drop_take]:ni s a b=(s.drop a).take (b-a))];split
 ·rename_i h
  simp only[beq_self_eq_true,qaG,beq_iff_eq,Jp,Zi] at h;by_cases h0:s.length=0
  ·rw[ZO.mp h0];simp
  ·rw[show a=0 from Nat.eq_zero_of_not_pos λha=>Z8 (Js (YF (Xr λe=>h0 (by rw[<-h,e,Nat.zero_sub])) ha) hbn) h,show b=s.length by exact Zt hbn (Jl (Jx (K7 h)) (YG _ _))];simp
 ·rfl
structure xb (C:bf) (v:Value) (l:Option Int):Prop where
 nn: ∀i,l=Qa i->0<=i
 p:(l=Qd/\v= .none)\/∃i t,l=Qa i/\v= .int i t
theorem xb.none:xb C .none none:=⟨λ_ q=>af q,.inl ⟨rfl,rfl⟩⟩
def EI {c:Nat}{x:ab} (hv:jV C w x v) (h:xI n x=Qa c): ∃i,xb C v (Qa i)/\c=min i.toNat n:=by
 refine xEA (bs h) λi e1 h=>?_;refine xA (gs h) λhb e=>?_;refine xE (hv.int? e1) λt e2=>?_;exact⟨i,⟨λj q=>Qa.inj q▸of_decide_eq_true hb,.inr ⟨i,t,rfl,e2⟩⟩,(Qa.inj e).symm⟩
theorem RE {x:List Nat}{a b:Nat} (h:sx x):sx (ni x a b):=
 ⟨λc hc=>h.1 c (Ky (qaq hc)),Jl (by unfold ni;rw[XY,Kz];exact Jl (YG _ _) (XX _ _)) h.2⟩
def OU (hc:(qA value).isSome=Qe) (S:St Y k w H s0) {o:ab}{ov:Value}{bvs:List ab} (ho:jV C w o ov)
  (hb : ∀ n p,Vp n n' bvs = Qa p -> ∃ l u,xb C vl l /\ xb C vu u /\ p = (l.elim 0 (λi => min i.toNat n),u.elim n (λi => min i.toNat n))) (hs : s = { s0 with heap := s0.heap.push { cls := .type "slice",data := .fields #[vl,vu,.none] } }) {r : ab × MH} (e : slice H o n' bvs = Qa r) {Q : Value -> Qf -> Prop} {E : Value -> Qf -> Prop}
  (hq: ∀w' a s',jd Y k w w' r.2 s0 s'->jV C w' r.1 a->Q a s'):Qi C.M Y.A (subscriptTail value (.Slice lo' hi' Qd sp) ov (.ref s0.heap.objs.size)) Q E s:=by
 subst hs;have hgo: ∀o r,letTemporaryGo value o r=pure ():=by
  exact(Zw.mp hc).elim λp zq18=>(qM zq18)▸λ_ _=>rfl
 revert e
 refine j9 λx e1=>j9 λp e2 e=>?_
 ·cases e
  obtain⟨t,rfl,ok⟩:=ho.str? e1;obtain⟨l,u,⟨p1,p2⟩,⟨p3,p4⟩,rfl⟩:=hb _ _ e2;obtain⟨all,hn,_,_,g3⟩:=S.dj;have hsz:(⟨x.toArray⟩:Str).length<=sizeLine:=Jl ok.2 mR;have eu: ∀ (h':QB) (t':Tok) (tk:Nat),Fr Y.h₀ Y.L h' k.m->News Y.h₀ Y.L h' all->Q (.str (Txt.slice ⟨x.toArray⟩ l u) t') {s0 with heap:=h',toks:=tk}:=λh' t' tk F N=>by
   rw[E0 x p1 p3];exact hq w _ _ ⟨.refl w,g3 h' F N,rfl,rfl⟩ ⟨t',rfl,RE ok⟩
  rcases p2 with ⟨rfl,rfl⟩| ⟨i,ti,rfl,rfl⟩
  ·rcases p4 with ⟨rfl,rfl⟩| ⟨j,tj,rfl,rfl⟩
   ·exact slice_strN_nn S.fr hn eu rfl (hgo _) hsz
   ·exact slice_strN_ns S.fr hn eu rfl (hgo _) hsz
  ·rcases p4 with ⟨rfl,rfl⟩| ⟨j,tj,rfl,rfl⟩
   ·exact slice_strN_sn S.fr hn eu rfl (hgo _) hsz
   ·exact slice_strN_ss S.fr hn eu rfl (hgo _) hsz
def Fh {v:Expr}{ie:Ex}{f:Expr->Option Ex}{q:Nat×List Ex} (hc:(qA v).isSome=Qe) (hv:mV C d cx v ie) (hf: ∀e i,f e=Qa i->Sd C d cx e i) (hb:La f lo hi=Qa q):mV C d cx (.Subscript v (.Slice lo hi Qd sp) pos) (.slice ie q.1 q.2):=by
 intro Y env k mE fr w H s p r;refine jW λx H1 e1=>jW λbv H2 e2 e=>?_;intro Q E hq;refine Subscript_ (hv Y env k mE fr w H s p _ e1 _ _ λw1 a1 s1 n1 r1=>wpAny_Slice ?_);have p1:=p.next n1;have eu: ∀ {w3:Wd}{s3:Qf}{vl vu:Value},jd Y k w1 w3 H2 s1 s3->(∀n p,Vp n q.1 bv=Qa p-> ∃l u,xb C vl l/\xb C vu u/\p=(l.elim 0 (λi=>min i.toNat n),u.elim n (λi=>min i.toNat n))) ->
   Qi C.M Y.A (evalPart Qd env) (λst s₃ => Qi C.M Y.A (subscriptTail v (.Slice lo hi Qd sp) a1 (.ref s₃.heap.objs.size)) Q E { s₃ with heap := s₃.heap.push { cls := .type "slice",data := .fields #[vl,vu,st] } }) E s3 := λ{w3 s3 vl vu} n3 hbb =>
  Qg (OU hc n3.st (r1.mono n3.le) hbb rfl e λw4 a4 s4 n4 r4=>hq w4 a4 s4 ((n1.trans n3).trans n4) r4)
 cases lo with
 |none=>cases hb
 |some a=>
  refine xEA (bs hb) λxa hxa hb=>?_;cases hi with
  |none=>cases hb
  |some b=>
   refine(ms hb).elim λy zq5=>?_;have e3:=zq5.2;subst e3
   revert e2
   refine jW λx' H3 e2=>jW λl H4 e5 e4=>?_;cases e4
   revert e5
   refine jW λy' H5 e3=>jW λl' H6 e6 e7=>?_;cases e6;cases e7;refine(hf _ _ hxa).es Y env k mE fr w1 H1 s1 p1 _ e2 _ _ λw2 a2 s2 n2 r2=>(hf _ _ zq5.1).es Y env k mE fr w2 H3 s2 (p1.next n2) _ e3 _ _ λw3 a3 s3 n3 r3=>eu (n2.trans n3) λn p h=>?_;refine xEA (bs (o:=xI n x') (f:=λx=>(xI n y').map λy=>(x,y)) h) λc h1 h=>?_;obtain⟨c',h2,rfl⟩:=ms h;refine(EI (r2.mono n3.le) h1).elim λi zq2=>?_;obtain rfl:=zq2.2;refine(EI r3 h2).elim λj zq1=>?_;obtain rfl:=zq1.2;exact⟨Qa i,Qa j,zq2.1,zq1.1,rfl⟩
end
variable {as:List ab}
theorem Fi (S : St Y k w H s) {x : ab} (hx : jV C w x v) : bq Y k (VR C) (call (.type "set") [v]) w s (Ss x H) := .none
open PySem.NumText
variable {T:List Value->Sem α}
section
variable {R:Wd->β->α->Prop}
def bq.a0 {o:Option (β×MH)} (r:jU C w as vs) (h:bq Y k R (T []) w s o):bq Y k R (T vs) w s (a0 as o):=by
 cases as with
 |nil=>refine eqB r ?_;exact h
 |cons _ _=>exact .none
def bq.a1 {f:ab->Option (β×MH)} (r:jU C w as vs) (h: ∀v rv,jV C w v rv->bq Y k R (T [rv]) w s (f v)):bq Y k R (T vs) w s (a1 as f):=by
 cases as with
 |nil=>exact .none
 |cons v as=>obtain⟨rv,t,rfl,hv,r⟩:=r;exact .a0 (T:=λl=>T (rv::l)) r (h v rv hv)
def bq.a2 {f:ab->ab->Option (β×MH)} (r:jU C w as vs) (h: ∀v rv,jV C w v rv-> ∀v' rv',jV C w v' rv'->bq Y k R (T [rv,rv']) w s (f v v')):bq Y k R (T vs) w s (a2 as f):=by
 cases as with
 |nil=>exact .none
 |cons v as=>obtain⟨rv,t,rfl,hv,r⟩:=r;exact .a1 (T:=λl=>T (rv::l)) r (h v rv hv)
end
def F6 (l:List Nat):Nat:=l.foldl (λa c=>a*256+c) 0
def yH (l:List Nat) (c:Nat):F6 (l++ [c])=F6 l*256+c:=by unfold F6;rw[YR];rfl
def MY {a b c:Nat} (h1:c<=255) (h2:c'<=255) (e:a*256+c=b*256+c'):a=b/\c=c':=by lia
def MZ: ∀ (n:Nat) (l l':List Nat),l.length<=n->(∀c∈l,1<=c/\c<=255) ->(∀c∈l',1<=c/\c<=255) ->F6 l=F6 l'->l=l':=by
 have nz: ∀ {r:List Nat}{c:Nat},(∀x∈r++ [c],1<=x/\x<=255) ->F6 (r++ [c])≠0:=λ{r c} h e=>by
  rw[yH] at e
  have:=(h c (JR _ (.head _))).1
  lia
 intro n
 induction n with
 |zero=>
  intro l l' hl h h' e;cases ZO.mp (qar.mp hl);rcases Yo l' with rfl| ⟨r,c,rfl⟩
  ·rfl
  ·rw[KV] at*;exact absurd e.symm (nz h')
 |succ n ih=>
  intro l l' hl h h' e;rcases Yo l with rfl| ⟨r,c,rfl⟩
  ·rcases Yo l' with rfl| ⟨r',c',rfl⟩
   ·rfl
   ·rw[KV] at*;exact absurd e.symm (nz h')
  ·rcases Yo l' with rfl| ⟨r',c',rfl⟩
   ·rw[KV] at*;exact absurd e (nz h)
   ·rw[KV] at*
    rw[KV,yH,yH] at*;obtain⟨e1,e2⟩:=MY (h c (JR _ (.head _))).2 (h' c' (JR _ (.head _))).2 e;rw[e2,ih r r' (by rw[Jz] at hl;exact Ye hl) (λx hx=>h x (ZQ _ hx)) (λx hx=>h' x (ZQ _ hx)) e1]
def G3 {y:Str} (hx:j1 x=Qe) (hy:j1 y=Qe) (e:dz x=dz y):x=y:=by
 have hd: ∀z:Str,j1 z=Qe-> ∀c∈z.cps.toList,1<=c/\c<=255:=by
  intro z hz c hc;delta j1 at hz;simp only[ZX,ZF,decide_eq_true_eq] at hz;exact hz.1.1.1.1 c hc
 have:=MZ _ x.cps.toList y.cps.toList (Jv _) (hd x hx) (hd y hy) e
 cases x;cases y;exact congrArg Str.mk (Array.toList_inj.mp this)
section
variable {w:Qn}
theorem CO (d:Qj) (es:List Qh) (n:Nat) (hd:(d==sysModules)=Qb):
  MeetsIn prog w (Builtin.«dict.__len__» ⟨[.ref d],[]⟩) (λ_ R s=>s.heap.get? d=Qa (Ql es n)/\R (.ok (.ret (.int es.length s.toks))) {s with toks:=s.toks+1}):=
 .of_wp λA R s ⟨ho,h⟩=>by
  show Qi _ _ (dictSize d>>=_) _ _ s;delta dictSize;refine Qc (Qc (QA ho rfl (Qg ?_)));exact Qc (wpAny_pendingCount_other hd (wpAny_ret_mkInt (by simpa using h)))
def O9 {d:Qj}{Q:Value->Qf->Prop} (hd:(d==sysModules)=Qb) (ho:s.heap.get? d=Qa (Ql es n)) (hfit:(es.length:Int)<2 ^ 63)
  (h : Q (.int es.length (s.toks + 1)) { s with toks := s.toks + 1 + 1 }) : Qi (model prog w) A (call (.builtin "len") [.ref d]) Q E s := by
 refine Calls.call_function_entry kind_len plain_len entry_len (args_len1 _) ?_;unfold Builtin.«len»;refine Qc (m:=oneArg "len" _) (Qg ?_);refine Qc (m:=callSpecial? (.ref d) (Str.ofString "__len__")) (wpAny_callSpecial?_slot (name:=Str.ofString "__len__") (⟨_,ho,rfl⟩ : s.TypeIs (.ref d) "dict") F.slot_dict_len
  (Qy F.slot_dict_len (⟨_,ho,rfl⟩ : s.TypeIs (.ref d) "dict") F.entry_dict_len (F.args_dict_len_1 _) (CO d es n hd) ⟨ho,?_⟩))
 refine Qc (Qk (Qg ?_));refine Qc (wpAny_letGo ?_);refine wN (YW.mpr (KS _)) ?_;refine wN (qaN.mpr hfit) ?_;exact Qc (wpAny_mkInt (Qg ⟨_,rfl,h⟩))
end
def OR (S : St Y k w H s) (r : jU C w as vs) : bq Y k (VR C) (call (.builtin "len") vs) w s (zaj as H) := by
 refine .a1 (T:=λl => call (.builtin "len") l) r λx v hx => .ji λn e => .val S λQ E q => ?_;have q: ∀t tk,Q (.int n t) {s with toks:=tk}:=λt tk=>q _ tk ⟨t,rfl⟩;have lst : ∀ {b : Qj} {ws : List Value},s.heap.IsList b ws.toArray -> n = ws.length -> n <= bb -> Qi C.M Y.A (call (.builtin "len") [.ref b]) Q E s := λ{b ws} hL e hl => by
  subst e;exact len_list hL (sP hl) (q _ _)
 cases x with
 |str l=>cases e;obtain⟨t,rfl,ok⟩:=hx;exact len_str (qaN.mpr (sP ok.2)) (q _ _)
 |ba l=>
  cases e;obtain⟨t,o,n',ws,rfl,ho,hc,hd,rr,hl⟩:=S.ba hx;refine PyProof.Rows.len_tuple (items:=ws.toArray) ⟨o,ho,hc,n',hd⟩ (by rw[(by rw[ZC,rr.length]:ws.toArray.size=l.length)];exact sP hl) ?_;rw[(by rw[ZC,rr.length]:ws.toArray.size=l.length)];exact q _ _
 |fl l=>cases e;obtain⟨b,o,n',ws,rfl,h,rr,hl⟩:=hx;exact lst ⟨o,S.mn _ _ h.1,h.2,n',h.3⟩ rr.length hl
 |ref i=>
  revert e
  refine lJ (lA λl hl e=>?_) (lA λp hp e=>?_)
  ·obtain⟨t,ws,n',rfl,ho,rr,hl⟩:=S.list hx hl
   exact lst ⟨_,ho,rfl,n',rfl⟩ (e.symm.trans rr.length) (e▸hl)
  ·obtain⟨_,_,b,n',es,rfl,hmod,_,hg,hdr,hl,_⟩:=S.dict hx hp
   exact O9 hmod hg (by rw[hdr.gz.1];exact sP hl) (by rw[(hdr.gz.1.trans e)];exact q _ _)
 |qo i=>
  cases e;obtain⟨_,_,_,_,_,rfl,h⟩:=hx;exact call_len_set (S.vj h.1) h.2 h.3 h.4 (by rw[h.5];exact sP h.6) (by rw[h.5];exact q _ _)
 |_=>exact af e
theorem bw.ng (S:bw C Y.h₀ Y.L k w H h) (hk: ∀b o,h.get? b=Qa o->h'.get? b=Qa o):bw C Y.h₀ Y.L k w H h':=
 Si.casesOn S.dj λall hn _ _ g=>g h' (S.fr.keeps hk) λp hp=>⟨hk _ _ (hn p hp).1,(hn p hp).2⟩
def bq.int {t:Sem Value}{z:Int} (S:St Y k w H s) (h: ∀ (Q:Value->Qf->Prop) (E:Value->Qf->Prop),(∀u h' tk,(∀b o,s.heap.get? b=Qa o->h'.get? b=Qa o) ->Q (.int z u) {s with heap:=h',toks:=tk}) ->Qi C.M Y.A t Q E s):bq Y k (VR C) t w s (Qa (.int z,H)):=by
 intro r e;refine lW e ?_;exact λQ E hq=>h Q E λu h' tk hk=>hq w _ _ ⟨.refl w,S.ng hk,rfl,rfl⟩ ⟨u,rfl⟩
def OQ (S : St Y k w H s) (r : jU C w as vs) : bq Y k (VR C) (call (.builtin "max") vs) w s (zai as H) := by
 refine .a2 (T:=λl => call (.builtin "max") l) r λx v hx y u hy => .gw λa ea => .ji λb eb => ?_;obtain⟨_,rfl⟩:=hx.int? ea;obtain⟨_,rfl⟩:=hy.int? eb;refine .int S λQ E q=>max_two_ints Y.handled λh' tk hk=>?_;by_cases c:b>a
 ·rw[if_pos c] at q ⊢;exact q _ h' tk hk
 ·rw[if_neg c] at q ⊢;exact q _ h' tk hk
def OP (S : St Y k w H s) (r : jU C w as vs) : bq Y k (VR C) (call (.builtin "min") vs) w s (zah as H) := by
 refine .a2 (T:=λl => call (.builtin "min") l) r λx v hx y u hy => .gw λa ea => .ji λb eb => ?_;obtain⟨_,rfl⟩:=hx.int? ea;obtain⟨_,rfl⟩:=hy.int? eb;refine .int S λQ E q=>min_two_ints Y.handled λh' tk hk=>?_;by_cases c:b<a
 ·rw[if_pos c] at q ⊢;exact q _ h' tk hk
 ·rw[if_neg c] at q ⊢;exact q _ h' tk hk
def wA {t:List (Nat×String)}{m:Nat}{x y:String} (h:(n==m)=Qe) (hx:t.lookup n=Qa x) (hy:t.lookup m=Qa y):x=y:=by rw[beq_iff_eq.mp h] at hx;exact Qa.inj (hx.symm.trans hy)
def Fj (S : St Y k w H s) (r : jU C w as vs) : bq Y k (VR C) (call (.type "range") vs) w s (AN as H) := by
 refine .a1 (T:=λl => call (.type "range") l) r λx v hx => .ji λn e => ?_;obtain⟨t,rfl⟩:=hx.int? e;intro r' e';refine lW e' ?_;obtain⟨all,hn,_,tp,_⟩:=S.dj;exact λQ E hq=>call_range_1 (hq ⟨w.σ,_::w.tp⟩ _ {s with heap:=_,toks:=_} ⟨⟨K8 _,λp hp=> .tail _ hp⟩,tp _ _ _ (S.fr.push _) (hn.push S.fr _) (Jv _),rfl,rfl⟩ ⟨_,_,_,_,rfl,.head _⟩)
def DM (S : St Y k w H s) (r : jU C w as vs) : bq Y k (VR C) (call (.type "list") vs) w s (B3 as H) := by
 have key : ∀ {mvs : List ab} {ws : List Value} {la : Qj} {o : Obj} {n : Nat},jU C w mvs ws -> mvs.length <= bb -> s.heap.get? la = Qa o -> (o.cls = .type "list" \/ o.cls = .type "tuple") -> o.data = .seq ws.toArray n -> bq Y k (VR C) (call (.type "list") [.ref la]) w s (lK H (.list mvs)) := by
  intro mvs ws la o n rr hl ho hc hd r' e' Q E hq;obtain rfl:=Qa.inj e';obtain⟨all,hn,add,_,_⟩:=S.dj;have le:w.le ⟨w.σ++ [s.heap.objs.size],w.tp⟩:=⟨J6 _ _,λ_ x=>x⟩;have hsz:ws.toArray.size<=sizeLine:=by rw[ZC,<-rr.length];exact Jl hl mR
  have eu: ∀h' c',(∀b o,s.heap.get? b=Qa o->h'.get? b=Qa o) ->h'.get? s.heap.objs.size=Qa (listOf ws.toArray c') ->Q (.ref s.heap.objs.size) {s with heap:=h'}:=λh' c' hk hD=>
   hq _ _ _ ⟨le,add _ (.list mvs) [_] h' ⟨ws,c',rfl,rr.mono le,hl⟩ (S.fr.keeps hk) (news_pushed S.fr hn hk hD rfl) (o8 _) (News.gy hn λp hp=>JE.mp hp▸Jv _) (S.pa (Jv _)),rfl,rfl⟩ ⟨_,rfl,by rw[<-S.len];exact Zr⟩
  rcases hc with hc|hc
  ·exact call_list_seq (hsz:=hsz) la (.inl rfl) ho hc hd eu
  ·exact call_list_seq (hsz:=hsz) la (.inr rfl) ho hc hd eu
 refine .a1 (T:=λl => call (.type "list") l) r λx v hx => .ay (.gw λl e => ?_) (.ay (.gw λl e => ?_) (.gw λl e => ?_))
 ·cases tup?_s e
  obtain⟨t,o,n,ws,rfl,ho,hc,hd,rr,hl⟩:=S.ba hx;exact key rr hl ho (.inr hc) hd
 ·cases fl?_s e
  obtain⟨t,o,n,ws,rfl,q,rr,hl⟩:=hx;exact key rr hl (S.mn _ _ q.1) (.inl q.2) q.3
 ·obtain⟨la,ws,n,rfl,ho,rr,hl⟩:=S.list hx e
  exact key rr hl ho (.inl rfl) rfl
def DJ (S : St Y k w H s) (r : jU C w as vs) : bq Y k (VR C) (call (.type "type") vs) w s (B2 as H) := by
 refine .a1 (T:=λl => call (.type "type") l) r λx v hx => .ji λn e => .val S λQ E q => ?_;have eu: ∀ {T:String},rM.lookup n=Qa T->Q (.type T) s:=λhT=>q _ s.toks ⟨_,rfl,hT⟩;cases x with
 | none => obtain rfl := Qa.inj e; refine eqB hx ?_; exact Qv (Tx:="NoneType") rfl rfl (eu rfl)
 | bool b => obtain rfl := Qa.inj e; refine eqB hx ?_; exact Qv (Tx:="bool") rfl rfl (eu rfl)
 | int i => obtain rfl := Qa.inj e; obtain⟨_,rfl⟩ := hx; exact Qv (Tx:="int") rfl rfl (eu rfl)
 | str l => obtain rfl := Qa.inj e; obtain⟨_,rfl,_⟩ := hx; exact Qv (Tx:="str") rfl rfl (eu rfl)
 | ba l => obtain rfl := Qa.inj e; obtain⟨t,o,n,ws,rfl,ho,hc,_,_,_⟩ := S.ba hx; exact Qv (Tx:="tuple") ⟨o,ho,hc⟩ rfl (eu rfl)
 |ref i=>
  refine(ms e).elim λl zq9=>?_;have e:=zq9.2;subst e;obtain⟨la,ws,n,rfl,ho,_,_⟩:=(S.list hx zq9.1);exact Qv (Tx:="list") ⟨_,ho,rfl⟩ rfl (eu rfl)
 |_=>exact af e
def DN (S : St Y k w H s) (r : jU C w as vs) : bq Y k (VR C) (call (.type "dict") vs) w s (B4 as H) := by
 refine .a1 (T:=λl => call (.type "dict") l) r λx v hx => .gw λp hp => .au λhk => ?_;intro r' e';refine lW e' ?_;refine(S.dict hx hp).elim λ_ zq4=>?_;obtain⟨b,n,es,rfl,hmod,_,hg,hdr,hl,_⟩:=zq4.2;obtain⟨kvs,D⟩: ∃kvs,DA C w p.2 es kvs:=by
  cases hp2:p.2 with
  |nil=>rw[hp2] at hdr;exact hdr.atom (a:=.i 0) rfl
  |cons q qs=>
   rw[hp2] at hdr hk;have h1:=beq_iff_eq.mp (Jm.mp hk).1;rcases hdr with h| ⟨xs,D⟩
   ·exact h
   ·have e:=D.e
    cases xs with
    |nil=>cases e
    |cons x xs=>rw[show q.1= .ba (x.1.map ao.val) from(KZ.inj e).1,sQ] at h1;cases h1
 obtain⟨all,hn,add,_,_⟩:=S.dj;refine λQ E hq=>kt_call_dict (knd:=kH C.prog C.w) hmod (D.dictOf hg) (by rw[<-Ht D.e];exact Jl hl mR) λh' hD hs=>?_;obtain⟨o,es',ep',ho',hex,hd,q1,q2,q3⟩:=hD;have hoe:o=Ql es'.toList ep':=by
  obtain⟨oc,od,odata,osl⟩:=o;obtain⟨x1,x2,x3⟩:=hex;subst x1;subst x2;cases x3;cases hd;rfl
 have hkeep: ∀c x,s.heap.get? c=Qa x->h'.get? c=Qa x:=λc x hc=>(hs.2 c (Z8 (K4 hc))).trans (Heap.get?_push_of_some _ hc);refine hq _ _ {s with heap:=h'} ⟨(⟨J6 _ _,λ_ x=>x⟩:w.le ⟨w.σ++ [s.heap.objs.size],w.tp⟩),add _ (.dict Qd p.2) [(s.heap.objs.size,Ql es'.toList ep')] h' ⟨_,_,rfl,λe he=>af he,sA.mono (⟨J6 _ _,λ_ x=>x⟩:w.le ⟨w.σ++ [s.heap.objs.size],w.tp⟩) (.inl ⟨kvs,q2,q1,D.n,D.e,D.ok,D.r⟩),hl⟩ (S.fr.keeps hkeep) (λq hq=>?_) (o8 _) (News.gy hn λp hp=>JE.mp hp▸Jv _) (S.pa (Jv _)),rfl,rfl⟩ ⟨_,rfl,by rw[<-S.len];exact Zr⟩;rcases JM.mp hq with e|hq
 ·rw[e]
  exact⟨by rw[<-hoe];exact ho',Kd S.fr.ns.lt,Heap.get?_none_of_le (Jl S.fr.above (JK S.fr.ns.lt))⟩
 ·exact⟨hkeep _ _ (hn q hq).1,(hn q hq).2⟩
theorem zbh {nm:String} (hb:rM.lookup n=Qa nm) (S:St Y k w H s) (r:jU C w as vs):bq Y k (VR C) (call (.type nm) vs) w s (G7 n as H):=
 .ay (.au λh => wA (t:=rM) h hb (y:="range") rfl ▸ Fj S r) (.ay (.au λh => wA (t:=rM) h hb (y:="list") rfl ▸ DM S r) (.ay (.au λh => .none)
 (.ay (.au λh => wA (t:=rM) h hb (y:="type") rfl ▸ DJ S r) (.ay (.au λh => wA (t:=rM) h hb (y:="dict") rfl ▸ DN S r) (.ay (.au λh => .none) (.au λh => wA (t:=rM) h hb (y:="set") rfl ▸ .a1 (T:=λl => call (.type "set") l) r λx v hx => Fi S hx))))))
def FF : j1 "append" = Qe /\ dz "append" = ek := by decide +kernel
def zbH : j1 "pop" = Qe /\ dz "pop" = qx := by decide +kernel
def zbI : j1 "get" = Qe /\ dz "get" = my := by decide +kernel
def DW : j1 "isspace" = Qe /\ dz "isspace" = lk := by decide +kernel
theorem GD (hn:j1 nm=Qe) (ok:j1 x=Qe/\dz x=n) (h:(dz nm==n)=Qe):x=nm:=G3 ok.1 hn (ok.2.trans (beq_iff_eq.mp h).symm)
def NR {C:bf}{d e:Nat} (Y:kX C d e) (k:Kp) (w:Wd) (vx:Value) (vs:List ab) (h2:MH) (r:ab×MH) (id:String):Prop:=
 ∀w2 s2 ws,w.le w2->St Y k w2 h2 s2->jU C w2 vs ws->AA Y k (VR C) (call (.builtin id) (vx::ws)) w2 s2 r.1 r.2
def Sh {C:bf}{d e:Nat} (Y:kX C d e) (k:Kp) (w:Wd) (s:Qf) (vx:Value) (nm:Str) (vs:List ab) (h2:MH) (r:ab×MH):Prop:=
 ∀ (pl:Sem Bool) (Q:Value×List Value->Qf->Prop) (E:Value->Qf->Prop),(∀id,NR Y k w vx vs h2 r id->Q (.builtin id,[vx]) s) ->Qi C.M Y.A (getMethod vx nm pl) Q E s
variable {h2:MH}{r:ab×MH}
theorem NR.of {vs:List ab}{o:Option (ab×MH)} (e:o=Qa r) (h: ∀w2 s2 ws,w.le w2->St Y k w2 h2 s2->jU C w2 vs ws->bq Y k (VR C) (call (.builtin id) (vx::ws)) w2 s2 o):NR Y k w vx vs h2 r id:=
 λw2 s2 ws l S2 rr=>h w2 s2 ws l S2 rr r e
def LI (hn:j1 nm=Qe) {x:List Nat}{u:Tok} (ok:sx x) {vs:List ab}:AV x (dz nm) vs h2=Qa r->Sh Y k w s (.str ⟨x.toArray⟩ u) nm vs h2 r:=by
 refine mS λh e=>?_;cases GD hn DW h;refine λpl Q E q => GM.isspace (q "str.isspace" (.of e λw2 s2 ws l S2 rr => .a0 (T:=λl => call (.builtin "str.isspace") (_ :: l)) rr (.val S2 λQ E q => SC.isspace (q _ s2.toks rfl))))
def Mo: ∀ {ws:List Value}{v:ab},jU C w mvs ws->mvs.getLast?=Qa v-> ∃p y,kl_last ws=Qa (p,y)/\jU C w mvs.dropLast p/\jV C w v y:=by
 intro ws v r e;have hne:mvs≠ []:=λq=>by rw[q] at e;cases e
 have hl:kl_last ws≠none:=λq=>by
  rw[kl_last_none q] at r;cases mvs with
  |nil=>exact hne rfl
  |cons _ _=>obtain⟨_,_,e,_,_⟩:=r;cases e
 obtain⟨⟨p,y⟩,hpy⟩:=Option.ne_none_iff_exists'.mp hl;refine⟨p,y,hpy,?_⟩;have hm:mvs.dropLast++ [v]=mvs:=by
  have h1:=Xh hne;rwa [show mvs.getLast hne=v from Qa.inj ((List.getLast?_eq_getLast hne).symm.trans e)] at h1
 rw[<-hm,kl_last_spec hpy] at r
 clear hm hpy hl e hne
 generalize mvs.dropLast=q at r ⊢
 induction q generalizing p with
 |nil=>
  cases p with
  |nil=>obtain⟨_,_,e,h,_⟩:=r;cases e;exact⟨.nil,h⟩
  |cons a p=>have:=r.length;simp at this
 |cons b q ih=>
  cases p with
  |nil=>have:=r.length;simp at this
  |cons a p=>
   obtain⟨_,_,e,h,r⟩:=r;cases e;obtain⟨h1,h2⟩:=ih p r;exact⟨.cons h h1,h2⟩
inductive zas {C:bf}{d e:Nat} (Y:kX C d e) (k:Kp) (w:Wd) (H:MH) (s:Qf) (i:Nat) (la:Qj) (mvs:List ab):Prop
 |mk (ws:List Value) (n:Nat) (pre post:bp) (r:jU C w mvs ws) (l:mvs.length<=bb) (hn:News Y.h₀ Y.L s.heap (pre++(la,listOf ws.toArray n)::post))
   (u: ∀ws' n',Upd la (listOf ws.toArray n) (listOf ws' n') (pre++(la,listOf ws.toArray n)::post) (pre++(la,listOf ws' n')::post))
   (g: ∀mvs' ws' n' h',jU C w mvs' ws'->mvs'.length<=bb->Fr Y.h₀ Y.L h' k.m->News Y.h₀ Y.L h' (pre++(la,listOf ws'.toArray n')::post) ->bw C Y.h₀ Y.L k w (H.set i (.list mvs')) h'):zas Y k w H s i la mvs
def bw.uw (S:St Y k w H s) (ha:w.σ[i]?=Qa la) (hm:H[i]?.bind ae.list?=Qa mvs):zas Y k w H s i la mvs:=by
 refine xEA (bs hm) λo hi h2=>?_;cases list?_s h2;obtain⟨pre,en,post,⟨ws,n,rfl,r,l⟩,hn,hd,g⟩:=S.at ha hi;exact⟨ws,n,pre,post,r,l,hn,λws' n'=>v7 hd,λmvs' ws' n' h' r' l' F N=>g (.list mvs') [(la,listOf ws'.toArray n')] h' rfl ⟨ws',n',rfl,r',l'⟩ F N⟩
variable {y:ab}
def Wr (S : St Y k w H s) (ha : w.σ[i]? = Qa la) (hm : H[i]?.bind ae.list? = Qa mvs) (hy : jV C w y yv) (hlen : mvs.length < bb) : bq Y k (VR C) (call (.builtin "list.append") [.ref la,yv]) w s (Qa (.none,H.set i (.list (mvs ++ [y])))) := by
 obtain⟨ws,n,pre,post,r,l,hn,u,g⟩:=S.uw ha hm;intro r' e';cases e';refine λQ E hq=>append_K S.fr hn (u (ws.toArray.push yv) (n+1)) (λh' F' N'=>hq w _ {s with heap:=h'} ⟨.refl w,g (mvs++ [y]) (ws++ [yv]) (n+1) h' (jU.append (.da hy) r) (by rw[Jz];exact hlen) F' (by rw[List.push_toArray] at N';exact N'),rfl,rfl⟩ rfl) ?_;rw[ZC,<-r.length];exact Jl l mR
variable {mvs0:List ab}
def Gm (hn:j1 nm=Qe) (S:St Y k w H s) (ha:w.σ[i]?=Qa la) {vs:List ab} (hm0:H[i]?.bind ae.list?=Qa mvs0) (hm:h2[i]?.bind ae.list?=Qa mvs):wO i mvs (dz nm) vs h2=Qa r->Sh Y k w s (.ref la) nm vs h2 r:=by
 have zq12:=S.list (x:=.ref i) ⟨la,rfl,ha⟩ hm0;obtain⟨_,ws0,n0,e0,ho,_,_⟩:=zq12;cases e0;refine lJ (mS λh e=>?_) (mS λh e=>?_)
 ·cases GD hn FF h
  exact λpl Q E q => getMethod_list_append ho rfl rfl (q "list.append" (.of e λw2 s2 ws l S2 rr => .a1 (T:=λl => call (.builtin "list.append") (_ :: l)) rr λy vy hy => .au λhl => Wr S2 (l.get ha) hm hy (Zf.mp hl)))
 ·cases GD hn zbH h
  refine λpl Q E q => Q5 ⟨_,ho,rfl⟩ PySem.F.plainAttrs_list PySem.F.slot_list_pop PySem.F.type_list_pop (λa e => by cases e; exact⟨_,ho,rfl⟩) (q "list.pop" (.of e λw2 s2 ws l S2 rr => .a0 (T:=λl => call (.builtin "list.pop") (_ :: l)) rr (.ji λv hv => ?_)));obtain⟨ws,n,pre,post,r,l',hn,u,g⟩:=S2.uw (l.get ha) hm;refine(Mo r hv).elim λp zq9=>zq9.elim λy zq10=>?_;intro r' e';cases e';exact λQ E hq=>kl_pop S2.fr hn zq10.1 (u p.toArray (n+1)) (by rw[List.toList_toArray,<-r.length];exact Jl l' mR) λh' F' N'=>hq w2 y {s2 with heap:=h'} ⟨.refl w2,g mvs.dropLast p (n+1) h' zq10.2.1 (Jl (by rw[List.length_dropLast];exact YG _ _) l') F' N',rfl,rfl⟩ zq10.2.2
variable {p0:Option Nat×List (ab×ab)}
def Gp (hn:j1 nm=Qe) (S:St Y k w H s) (ha:w.σ[i]?=Qa la) {p:Option Nat×List (ab×ab)}{vs:List ab} (hm0:H[i]?.bind ae.dict?=Qa p0) (hm:h2[i]?.bind ae.dict?=Qa p):xG p.2 (dz nm) vs h2=Qa r->Sh Y k w s (.ref la) nm vs h2 r:=by
 obtain⟨_,n0,es0,e0,_,_,hg,_,_,_⟩:=S.jx ⟨la,rfl,ha⟩ hm0;cases e0;refine mS λh e=>?_;cases GD hn zbI h;refine λpl Q E q => Q5 ⟨_,hg,rfl⟩ PySem.F.plainAttrs_dict KW PySem.F.type_dict_get (λa e => by cases e; exact⟨_,hg,rfl⟩) (q "dict.get" (.of e λw2 s2 ws l S2 rr => ?_));have key : ∀ {x dv : ab} {kv dvv : Value} {args : List Value},jV C w2 x kv -> jV C w2 dv dvv -> j5 p.2 x = Qe -> ((args = [.ref la,kv] /\ dvv = .none) \/ args = [.ref la,kv,dvv]) -> bq Y k (VR C) (call (.builtin "dict.get") args) w2 s2 (Qa ((j7 p.2 x).getD dv,h2)) := by
  intro x dv kv dvv args hk hdv hf hargs;refine .val S2 λQ E q=>?_;obtain⟨_,n2,es,e2,hmod,_,hg2,hdr,_,_⟩:=S2.jx ⟨la,rfl,l.get ha⟩ hm;cases e2;have eu: ∀ {o:Option Value},BB C w2 (j7 p.2 x) o-> ∀tk,Q (o.getD dvv) {s2 with toks:=tk}:=λh tk=>by
   rcases h with ⟨q1,rfl⟩| ⟨mv,rv,q1,rfl,q3⟩
   ·rw[q1] at q;exact q _ tk hdv
   ·rw[q1] at q;exact q _ tk q3
  rcases tX (Jm.mp hf).1 with ⟨ka,rfl⟩| ⟨ka,rfl⟩
  ·obtain⟨kvs,D⟩:=hdr.atom hf
   have hD:=D.dictOf hg2;rcases hargs with ⟨rfl,rfl⟩|rfl
   ·exact Qy KW hD.typeIs Yf (X3 _ _) (meets_dict_get _ la hk.atom.1 hmod) ⟨_,hD.mapOf,eu (D.get ka) _⟩
   ·exact Qy KW hD.typeIs Yf (X4 _ _ _) (meets_dict_get_default _ la hk.atom.1 hmod dvv) ⟨_,hD.mapOf,eu (D.get ka) _⟩
  ·obtain⟨xs,D⟩:=hdr.si hf
   have hD:=D.dictOf S2 hg2;obtain⟨t,rfl,ht⟩:=S2.iu hk;rcases hargs with ⟨rfl,rfl⟩|rfl
   ·exact Qy KW hD.typeIs Yf (X3 _ _) (meetsH_dict_get _ la t hmod) ⟨Y.room,ka,xs,ht,hD,eu (D.get ka) _⟩
   ·exact Qy KW hD.typeIs Yf (X4 _ _ _) (meetsH_dict_get_default _ la t hmod dvv) ⟨Y.room,ka,xs,ht,hD,eu (D.get ka) _⟩
 exact .ay (.a1 (T:=λl => call (.builtin "dict.get") (_ :: l)) rr λx kv hk => .au λhf => key hk rfl hf (.inl ⟨rfl,rfl⟩)) (.a2 (T:=λl => call (.builtin "dict.get") (_ :: l)) rr λx kv hk dv dvv hd => .au λhf => key hk hd hf (.inr rfl))
def CB (hn:j1 nm=Qe) (S:St Y k w H s) {x:ab} (hx:jV C w x vx) {vs:List ab}:y4 x (dz nm) vs H h2=Qa r->Sh Y k w s vx nm vs h2 r:=by
 refine lJ (j9 λl e1 e=>?_) (j9 λi e1=>lJ (j9 λm0 e2=>j9 λm e3 e=>?_) (j9 λm0 e2=>j9 λm e3 e=>?_))
 ·obtain⟨u,rfl,ok⟩:=hx.str? e1
  exact LI hn ok e
 ·cases ref?_s e1
  obtain⟨la,rfl,ha⟩:=hx;exact Gm hn S ha e2 e3 e
 ·cases ref?_s e1
  obtain⟨la,rfl,ha⟩:=hx;exact Gp hn S ha e2 e3 e
inductive VG (C:bf) (id c:Nat):Prop
 |mk (a ca dx:Qj) (n:Nat) (k1:C.ad.lookup id=Qa a) (k2:C.ad.lookup c=Qa ca) (k3:C.K.lookup a=Qa ⟨.ref ca,Qa dx,.plain,#[]⟩) (k4:C.K.lookup dx=Qa (Ql [] n)):VG C id c
inductive qR (C:bf) (c n:Nat) (P:Qj->Str->Prop):Prop
 |mk (ca:Qj) (name:Str) (k1:C.ad.lookup c=Qa ca) (k2:j1 name=Qe) (k3:dz name=n) (k4:plainGet C.K ca name=Qe) (k5:hasDictIn C.K ca=Qe) (p:P ca name):qR C c n P
inductive NV (C:bf) (v:ab) (ca:Qj) (name:Str):Prop
 |mk (av:Value) (k6:findIn C.K (.ref ca) name=Qa (Qa av)) (k7: ∀w,jV C w v av)
  (k8 : UP C.P v = Qe -> isFn C.K av = Qe /\ specialIn C.K (.ref ca) "__getattribute__" = Qa (Qa (.builtin "type.__getattribute__")) /\ ∃ mc,typeIn C.K (.ref ca) = Qa mc /\ readsIn C.K ca mc = Qe /\ findCls C.K (.ref ca) mc name = Qa (.val av)) (k9 : UP C.P v = Qb -> specialIn C.K av "__get__" = Qa Qd /\ handedIn av = Qe /\ copiedNames.contains name = Qb) : NV C v ca name
inductive zdc (C:bf) (ca:Qj) (name:Str):Prop
 |mk (aq:Option Value) (k6:findIn C.K (.ref ca) name=Qa aq) (k7:noGet C.K aq=Qe)
  (k8 : takerIn C.K ca name = Qa Qd) (k9 : findIn C.K (.ref ca) "__setattr__" = Qa (Qa (.builtin "object.__setattr__"))) (k10 : plainOver C.K ca = Qe) : zdc C ca name
inductive VH (C:bf) (c i:Nat):Prop
 | mk (ca fI : Qj) (k1 : C.ad.lookup c = Qa ca) (k2 : C.ad.lookup i = Qa fI) (k3 : makesIn C.K ca = Qe) (k4 : findIn C.K (.ref ca) "__init__" = Qa (Qa (.ref fI))) (k5 : isFn C.K (.ref fI) = Qe) (k6 : keepIn C.K (.ref ca) = Qe) : VH C c i
def xR (C:bf) (f:Fn) (fd:QR) (xs:List Str):Prop:=
 (f.pd= []/\∀vs:List Value,vs.length=f.np->bindArgs fd ⟨vs,[]⟩=pure (xs.zip vs))\/
 (f.pd≠ []/\∃dvs,(∀w,jU C w f.pd dvs)/\∀ (S:QX) (vs:List Value),vs.length<=f.np->f.np-vs.length<=dvs.length->peek C.K S (bindArgs fd ⟨vs,[]⟩)=Qa (xs.zip (vs++dvs.drop (dvs.length-(f.np-vs.length)))))
inductive Lh (C:bf) (gl:List (Str×ab)) (f:Fn):Prop
 |mk (a:Qj) (name qual:Str) (params:QW) (body:List Qw) (scope:Scope) (dV kV doc pm:Value) (an:Option Qj) (cdv ct oc:Value) (od:Option Qj) (osl:Array (Option Value)) (k1:C.ad.lookup f.ij=Qa a) (k2:C.K.lookup a=Qa ⟨oc,od,.func (fnOf name qual params body scope dV kV doc pm an cdv ct),osl⟩)
  (k3:codeIn C.K cdv qual=Qe) (k4:Vn gl params body scope=Qa (f.np,f.ns,f.body)) (k6:keepIn C.K (.ref a)=Qe)
  (k7:xR C f (fnOf name qual params body scope dV kV doc pm an cdv ct) (params.args.map (·.arg)))
  (k8:(params.args.map (·.arg)).Nodup) (k10:((cellsFrom 0 scope.names []).map (·.1)).Nodup):Lh C gl f
def EU (C : bf) : Prop := ∀ {d e : Nat} {Y : kX C d e} {k : Kp} {w : Wd} {H : MH} {s : Qf} {as : List ab} {vs : List Value},rW C -> St Y k w H s -> jU C w as vs -> bq Y k (VR C) (call (.builtin "sorted") vs) w s (HZ as H)
structure nC (C:bf) (gl:List (Str×ab)):Prop where
 yx:NT C gl
 nh: ∀a f,C.P.km a=Qa f->f.ij=a/\Lh C gl f
 jv: ∀id c,C.P.cf id=Qa c->VG C id c
 jz: ∀c n v,C.P.ku c n=Qa v->qR C c n (NV C v)
 rj: ∀c n,C.P.cz c n=Qe->qR C c n (zdc C)
 uz: ∀c k i,C.P.fv c=Qa k->k.rh=Qa i->VH C c i
 ip:rW C
 fR:EU C
variable {gl:List (Str×ab)}
section
variable {cx:CC}{fr:Frame}
def qR.use {c:Nat} (h:qR C c n P) (hn:j1 nm=Qe) (e:n=dz nm) (hc:C.ad.lookup c=Qa ca):plainGet C.K ca nm=Qe/\hasDictIn C.K ca=Qe/\P ca nm:=by
 obtain⟨ca',name,k1,k2,k3,k4,k5,p⟩:=h;cases Qa.inj (k1.symm.trans hc);cases G3 k2 hn (k3.trans e);exact⟨k4,k5,p⟩
def Bl: ∀p∈xK,handedIn (.builtin p.2)=true:=by decide+kernel
def FZ {v:ab} (h:jV C w v rv):handedIn rv=true:=by
 cases v with
 |none=>refine eqB h ?_;rfl
 |bool b=>refine eqB h ?_;rfl
 |int i=>obtain⟨t,rfl⟩:=h;rfl
 |str i=>obtain⟨t,rfl,_⟩:=h;rfl
 |ba i=>obtain⟨_,_,_,_,rfl,_,_,_⟩:=h;rfl
 |ref i=>obtain⟨_,rfl,_⟩:=h;rfl
 |ai i=>obtain⟨_,rfl,_⟩:=h;rfl
 |ty i=>obtain⟨_,rfl,_⟩:=h;rfl
 |bi i=>obtain⟨n,rfl,hb⟩:=h;exact Bl _ (kR hb)
 |fy i=>obtain⟨_,_,_,_,rfl,_⟩:=h;rfl
 |fl i=>obtain⟨_,_,_,_,rfl,_,_,_⟩:=h;rfl
 |qo i=>obtain⟨_,_,_,_,_,rfl,_⟩:=h;rfl
def UO {t:Tok} (hx:j1 x=Qe) (hn:j1 nm=Qe):(KQ x t).isStr nm=(dz x==dz nm):=by
 show (x==nm)=_;rw[Ku,beq_iff_eq,beq_iff_eq];exact⟨λe=>e▸rfl,G3 hx hn⟩
inductive zde (C:bf) (w:Wd) (m:Option ab) (o:Option (Option Value)):Prop
 |none (h1:m= .none) (h2:o=Qa .none):zde C w m o
 |some (v:ab) (rv:Value) (h1:m=Qa v) (h2:o=Qa (Qa rv)) (r:jV C w v rv):zde C w m o
def tN.get (hn:j1 nm=Qe): ∀ {fs:List (Nat×ab)}{es:List Qh},tN C w fs es->es.any (·.refKey)=Qb/\((vM fs (dz nm)=Qd/\es.find? (·.key.isStr nm)=Qd)\/∃v e,vM fs (dz nm)=Qa v/\es.find? (·.key.isStr nm)=Qa e/\jV C w v e.val):=by
 intro fs
 induction fs with
 |nil=>intro es h;rw[show es= [] from h];exact⟨rfl,.inl ⟨rfl,rfl⟩⟩
 |cons p fs ih=>
  intro es h;obtain⟨x,t,hsh,v,r,rfl,h1,h2,h3,h4⟩:=h;obtain⟨i1,i2⟩:=ih h4;refine⟨i1,?_⟩;unfold vM at i2 ⊢;rw[YE,YE]
  dsimp only
  rw[UO h1 hn,h2];cases hq:(p.1==dz nm) with
  |true=>exact .inr ⟨_,_,rfl,rfl,h3⟩
  |false=>exact i2
def tN.getL (hn:j1 nm=Qe) {fs:List (Nat×ab)} (r:tN C w fs es):zde C w (vM fs (dz nm)) (getL nm es):=by
 obtain⟨hr,h⟩:=r.get hn;delta W.getL;rcases h with ⟨h1,h2⟩| ⟨v,e,h1,h2,h3⟩
 ·rw[h2]
  exact .none h1 (by dsimp only;rw[hr];rfl)
 ·rw[h2]
  exact .some v e.val h1 rfl h3
def tN.kf (hn:j1 nm=Qe) {t:Tok}{v:ab} (hv:jV C w v rv): ∀ {fs:List (Nat×ab)}{es:List Qh},tN C w fs es->tN C w (W6 fs (dz nm) v) (putL nm hsh (.str nm t) rv es):=by
 intro fs
 induction fs with
 |nil=>intro es h;rw[show es= [] from h];exact⟨nm,t,hsh,rv,[],rfl,hn,rfl,hv,rfl⟩
 |cons p fs ih=>
  intro es h;obtain⟨x,t',hsh',v',r,rfl,h1,h2,h3,h4⟩:=h;show tN C w (bif p.1==dz nm then _ else _) _;unfold putL;rw[UO h1 hn,h2];refine xO (p.1==dz nm) (λhq=>?_) λhq=>?_
  ·rw[hq]
   rw[if_pos rfl];exact⟨x,t',hsh',rv,r,rfl,h1,h2.trans (beq_iff_eq.mp hq),hv,h4⟩
  ·rw[hq]
   rw[if_neg Za];exact⟨x,t',hsh',v',_,rfl,h1,h2,h3,(ih h4)⟩
def tN.length: ∀ {fs:List (Nat×ab)}{es:List Qh},tN C w fs es->es.length=fs.length:=by
 intro fs
 induction fs with
 |nil=>intro es h;rw[show es= [] from h];rfl
 |cons p fs ih=>intro es h;obtain⟨_,_,_,_,r,rfl,_,_,_,h4⟩:=h;exact congrArg (· +1) (ih h4)
def HC (fs:List (Nat×ab)) (n:Nat) (v:ab):(W6 fs n v).length<=fs.length+1:=by
 induction fs with
 |nil=>exact Jv _
 |cons p fs ih=>
  show (bif p.1==n then _ else _:List (Nat×ab)).length<=_;cases (p.1==n) with
  |true=>exact ZA _
  |false=>exact Zn ih
inductive zat {C:bf}{d e:Nat} (Y:kX C d e) (k:Kp) (w:Wd) (H:MH) (s:Qf) (i:Nat) (v:Value) (q:Nat×List (Nat×ab)):Prop
 |mk (a ca dx:Qj) (es:List Qh) (n:Nat) (pre post:bp) (e:v= .ref a) (hc:C.ad.lookup q.1=Qa ca) (f:tN C w q.2 es) (l:q.2.length<=500) (hn:News Y.h₀ Y.L s.heap ((pre++ [(a,instObj ca dx)])++(dx,Ql es n)::post)) (I:InstAt s.heap a (instObj ca dx) ca (Qa (Ql es n)))
   (u: ∀o',Upd dx (Ql es n) o' ((pre++ [(a,instObj ca dx)])++(dx,Ql es n)::post) ((pre++ [(a,instObj ca dx)])++(dx,o')::post))
   (g: ∀fs' es' n' h',tN C w fs' es'->fs'.length<=500->Fr Y.h₀ Y.L h' k.m->News Y.h₀ Y.L h' ((pre++ [(a,instObj ca dx)])++(dx,Ql es' n')::post) ->bw C Y.h₀ Y.L k w (H.set i (.inst q.1 fs')) h'):zat Y k w H s i v q
def bw.rd (S:St Y k w H s) {q:Nat×List (Nat×ab)} (hv:jV C w (.ref i) v) (ho:H[i]?.bind ae.inst?=Qa q):zat Y k w H s i v q:=by
 refine xEA (bs ho) λo hi h2=>?_;cases inst?_s h2;refine xEA hv λa e ha=>?_;obtain⟨pre,en,post,⟨c,dx,es,n,rfl,hc,f,l⟩,hn,hd,g⟩:=S.at ha hi;have eq: ∀o',pre++([(a,instObj c dx),(dx,o')]++post)=(pre++ [(a,instObj c dx)])++(dx,o')::post:=λo'=>by rw[JD];rfl
 rw[eq] at hn hd;exact⟨a,c,dx,es,n,pre,post,e,hc,f,l,hn,InstAt.of_news hn (ZQ _ (JR _ (.head _))) (JR _ (.head _)),λo'=>v7 hd,λfs' es' n' h' r l' F N=>g (.inst q.1 fs') [(a,instObj c dx),(dx,Ql es' n')] h' rfl ⟨c,dx,es',n',rfl,hc,r,l'⟩ F (by rw[eq];exact N)⟩
def LP (O:nC C gl) (S:St Y k w H s) {x:ab} (hnm:j1 nm=Qe) (hx:jV C w x vx):bq Y k (VR C) (PySem.getAttr vx nm Qe) w s ((getAttr C.P H x (dz nm)).map λv=>(v,H)):=by
 refine .ji λv e=> .val S λQ E q=>?_;have att: ∀ {a ca dx:Qj}{c n:Nat}{es:List Qh},InstAt s.heap a (instObj ca dx) ca (Qa (Ql es n)) ->C.ad.lookup c=Qa ca->getL nm es=Qa Qd->u3 C.P c (dz nm)=Qa v->Qi C.M Y.A (PySem.getAttr (.ref a) nm Qe) Q E s:=λI hc q2 e=>by
  refine xEA (bs e) λu hu e=>?_;obtain⟨hf,e⟩:=gs e;cases e;obtain⟨t4,t5,av,t6,t7,_,t9⟩:=(O.jz _ _ _ hu).use hnm rfl hc;have zq35:=t9 (by cases hq:UP C.P v;rfl;rw[hq] at hf;cases hf);exact get_cls S.fr Y.k I t4 t5 t6 zq35.1 zq35.2.1 zq35.2.2 q2 (q av _ (t7 w))
 revert e
 refine lJ (j9 λp hp e=>?_) (j9 λa e1=>j9 λc hc e=>?_)
 ·obtain⟨i,e1,hp⟩:=bs hp
  cases ref?_s e1;obtain⟨a,ca,dx,es,n,pre,post,rfl,hc,hF,hl,hN,I,_,_⟩:=S.rd hx hp;cases hF.getL hnm with
  |none h1 h2=>rw[h1] at e;exact att I hc h2 e
  |some u rv h1 h2 r=>
   rw[h1] at e;obtain⟨ri,e⟩:=gs e;cases e;refine xAA ((O.rj _ _ ri).use hnm rfl hc) λt4 t5 zg190=>?_;obtain⟨aq,t6,t7,_,_,_⟩:=zg190;exact get_own S.fr Y.k I t4 t5 t6 t7 h2 (FZ r) (q rv _ r)
 ·cases top?_s e1
  obtain⟨xa,rfl,hx⟩:=hx;obtain⟨xa',ca,dx,n,i1,i2,i3,i4⟩:=O.jv _ _ hc;cases Qa.inj (i1.symm.trans hx);exact att (InstAt.of_K S.mn i3 i4) i2 rfl e
def LO (O:nC C gl) (S:St Y k w H s) {x:ab}{r:Nat×List ab}{pl:Sem Bool} (hnm:j1 nm=Qe) (hx:jV C w x vx) {Q:Value×List Value->Qf->Prop} 
  (h: ∀fa first tk,C.ad.lookup r.1=Qa fa->jU C w r.2 first->Q (.ref fa,first) {s with toks:=tk}):nA C.P H x (dz nm)=Qa r->Qi C.M Y.A (PySem.getMethod vx nm pl) Q E s:=by
 have met: ∀ {a ca dx:Qj}{c n f:Nat}{es:List Qh},vx= .ref a->InstAt s.heap a (instObj ca dx) ca (Qa (Ql es n)) ->C.ad.lookup c=Qa ca->getL nm es=Qa Qd->yZ C.P c (dz nm)=Qa f->(f,[x])=r->Qi C.M Y.A (PySem.getMethod vx nm pl) Q E s:=λea I hc q2 e er=>by
  refine xEA (bs e) λu hu e=>?_;refine xA (gs e) λhf e=>?_;cases top?_s e;have zq26:=(O.jz _ _ _ hu).use hnm rfl hc;obtain⟨av,t6,t7,t8,_⟩:=zq26.2.2;refine xEA (t7 w) λga cv hg=>?_;subst cv;subst er ea;exact method_inst S.fr Y.k I zq26.1 t6 (t8 hf).1 q2 (h _ _ s.toks hg (.da hx))
 refine lJ (j9 λa e1 e=>?_) (j9 λq hq=>mS λhnone=>lA λf hf e=>?_)
 ·cases top?_s e1
  refine xEA (id hx) λxa e2 hxa=>?_;refine FH (C.P.cf a) (λhi=>?_) λc hi=>?_
  ·rw[hi] at e
   refine xEA (ms e) λf hf e=>?_;refine(bs hf).elim λu zq20=>?_;have hf:=zq20.2;refine xA (gs hf) λhfn hf=>?_;cases top?_s hf;obtain⟨av,t6,t7,t8,_⟩:=((O.jz _ _ _ zq20.1).use hnm rfl hxa).2.2;refine xEA (t7 w) λga gq hg=>?_;subst gq;refine(t8 hfn).2.2.elim λmc zq16=>?_;subst e e2;exact method_of_cls S.fr Y.k (t8 hfn).2.1 (cls_val S.fr Y.k zq16.1 zq16.2.1 zq16.2.2 rfl (h _ _ _ hg .nil))
  ·rw[hi] at e
   refine xEA (ms e) λf hf e=>?_;obtain⟨xa',ca,dx,n,i1,i2,i3,i4⟩:=O.jv _ _ hi;cases Qa.inj (i1.symm.trans hxa);exact met e2 (InstAt.of_K S.mn i3 i4) i2 rfl hf e
 ·obtain⟨i,e1,hq⟩:=bs hq
  cases ref?_s e1;obtain⟨a,ca,dx,es,n,pre,post,ea,hc,hF,hl,hN,I,_,_⟩:=S.rd hx hq;cases hF.getL hnm with
  |none h1 h2=>exact met ea I hc h2 hf e
  |some u rv h1 h2 r'=>rw[h1] at hnone;cases hnone
def yX (O:nC C gl) (S:St Y k w H s) {x v:ab} (hnm:j1 nm=Qe) (hx:jV C w x vx) (hv:jV C w v vv) 
  (h: ∀s',jd Y k w w H' s s'->Q () s'):setAttr C.P H x (dz nm) v=Qa H'->Qi C.M Y.A (PySem.setAttr vx nm vv) Q E s:=by
 refine j9 λi e1=>j9 λq hq=>mS λri e=>?_;cases ref?_s e1;obtain rfl:=Qa.inj e;obtain⟨a,ca,dx,es,n,pre,post,rfl,hc,hF,hl,hN,I,U,g⟩:=(S.rd hx hq);have zq11:=(O.rj _ _ (Jm.mp ri).1).use hnm rfl hc;obtain⟨aq,t6,t7,t8,t9,t10⟩:=zq11.2.2;have hp:=hF.kf (hsh:=qbd C.w.params nm) (t:=s.toks+1) hnm hv;have hl4:=Zf.mp (Jm.mp ri).2;exact set_dict S.fr Y.k hN I rfl t9 t10 t8 zq11.2.1 (by cases hF.getL hnm with|none _ h2=>rw[h2];rfl|some _ _ _ h2 _=>rw[h2];rfl:(getL nm es).isSome=Qe) rfl (U _) (by rw[hp.length];exact Jl (Jl (HC q.2 (dz nm) v) hl4) (Jw _ _)) λh' F' N'=>h _ ⟨.refl w,g _ _ _ h' hp (Jl (Jl (HC q.2 (dz nm) v) hl4) (Jw _ _)) F' N',rfl,rfl⟩
def Vu {o:Expr} (h:Vv o=Qe):attributeBase o aq env whole=whole:=by
 cases o with
 |Call f as ks pos=>
  cases as with
  |nil=>cases h
  |cons x r=>cases f<;>rfl
 |_=>rfl
def CD (O:nC C gl) {v:Expr}{iv:Ex} (hv:mV C d cx v iv) (hn:j1 nm=Qe) (hb:Vv v=Qe):mV C d cx (.Attribute v nm pos) (.aq iv (dz nm)):=by
 intro Y env k mE fr w H s p r;refine jW λx H1 e1 e Q E hq=>Attribute_any_ (hv Y env k mE fr w H s p _ e1 _ _ λw1 a1 s1 n1 r1=>LP O n1.st hn r1 r e _ _ λw2 a2 s2 n2 r2=>hq w2 a2 s2 (n1.trans n2) r2) ?_;show (do
   let o<-attributeBase v nm env (PySem.eval v env)
   standAt pos.atName
   let r<-holding [o] (PySem.getAttr o nm Qe)
   letTemporaryGo v o r
   pure r)=_
 rw[Vu hb]
def oV {M:Jh}{f:Value}{Q:Args->Qf->Prop} (hp:args.any (·.1)=Qb) (h:Qi M A (spliced args) (λvs s'=>Q ⟨vs,[]⟩ s') E s):Qi M A (evalArgs f Qe args []) Q E s:=by
 cases args with
 |nil=>
  delta evalArgs;exact Qc (Qo h (λvs s' h'=>Qk (Qc (Qg (Qc (Qg (Qg h')))))) λ_ _ x=>x)
 |cons p r=>
  obtain⟨b,x⟩:=p;cases b with
  |false=>exact evalArgs_plain h
  |true=>cases hp
theorem p8 {M:Jh}{f:Value}{es:List Expr}{irs:List Ex}{Q:Value->Qf->Prop} (hk:keepIn K f=Qe) (hc:lx C d cx es irs)
  (h:Qi M A (spliced (backTo pos (starEach es env))) (λvs s₁=>K.In s₁.heap/\Qi M A (call f (first++vs)) Q E s₁) E s):Qi M A (callWith pos f first (backTo pos (starEach es env)) []) Q E s:=
 callWith_of (by rw[lT hc];rfl) (keeps_K hk) (oV (lT hc) h)
def oY (C:bf) (d:Nat):Prop:=
 ∀ (Y:kX C d 0) (k:Kp) (w:Wd) (H:MH) (s:Qf) (f:Nat) (fa:Qj) (as:List ab) (vs:List Value) (r:ab×MH),St Y k w H s->C.ad.lookup f=Qa fa->jU C w as vs->mT C.P wV d f as H=Qa r->
  ∀R:Result->Qf->Prop,(∀w' rv s',jd Y k w w' r.2 s s'->jV C w' r.1 rv->R (.ok (.ret rv)) s') ->codeAny C.M Y.A (.call (.ref fa) ⟨vs,[]⟩) R s
theorem oY.wp (hC:oY C d) (Y:kX C d e) {f:Nat} (S:St Y k w H s) (hf:C.ad.lookup f=Qa fa) (r:jU C w as vs):bq Y k (VR C) (call (.ref fa) vs) w s (mT C.P wV d f as H):=
 λr' ev Q E hq=>wpAny_call (hC Y.fN k w H s f fa as vs r' S hf r ev _ λw' rv s' n r2=>hq w' rv s' ⟨n.le,n.st,n.cb⟩ r2)
def Es (O:nC C gl) {f:Nat} (hf:C.ad.lookup f=Qa fa) (e:mT C.P wV d f as H=Qa r):keepIn C.K (.ref fa)=true:=by
 cases d with
 |zero=>exact af e
 |succ d=>
  refine xEA (bs e) λfn hfn e=>?_;refine xA (O.nh _ _ hfn) λh1 cv=>?_;obtain⟨fa',_,_,_,_,_,_,_,_,_,_,_,_,_,_,_,k1,_,_,_,k6,_,_,_⟩:=cv;rw[h1,hf] at k1;refine soB k1 ?_;exact k6
def Aj {f : Option (List Env)} (h : A.frames = f) : (A.under (.builtin "type.__call__" ⟨.ref ca :: vs,[]⟩)).frames = f := by
 show pushEnvs (Code.envs (.builtin "type.__call__" ⟨.ref ca :: vs,[]⟩)) A.frames = _;rw[show Code.envs (.builtin "type.__call__" ⟨.ref ca :: vs,[]⟩) = [] by unfold Code.envs; rw[show Code.isFrame (.builtin "type.__call__" ⟨.ref ca :: vs,[]⟩) = Qb from rfl,if_neg Za]];exact h
def Bi {a:Nat} (h:a+n+2+2<=900):a+1+n+2+0<=900:=by rw[ZK a 1 n];exact Jl (Jr (by decide:3<=4) (a+n)) h
def Bh {a:Nat} (h:a+n+190+5*2<=9900):a+1+n+190+5*0<=9900:=by rw[ZK a 1 n];exact Jl (Jr (by decide:191<=200) (a+n)) h
def kX.ql (Y:kX C d 2) (ca:Qj) (vs:List Value):kX C d 0 where
 A := Y.A.under (.builtin "type.__call__" ⟨.ref ca :: vs,[]⟩)
 h₀:=Y.h₀
 L:=Y.L
 lq:=Y.lq
 below:=Y.below.elim λA₀ h=>h.elim λbase h=>h.elim λouter h=>⟨A₀,base,outer,h.1,Aj h.2⟩
 k:=Y.k
 ai:=Y.ai
 frame:=Y.frame
 kind:=Y.kind
 handled:=Y.handled
 depth:=Bi Y.depth
 units:=Bh Y.units
def Cu (O:nC C gl) (hC:oY C d) {Y:kX C d 2} (S:St Y k w H s) {c:Nat}{cl:Cl} (hk:C.P.fv c=Qa cl) (hca:C.ad.lookup c=Qa ca) (r:jU C w as vs):bq Y k (VR C) (call (.ref ca) vs) w s (Pn (C.cx d) c cl as H):=by
 refine .gw λi hi=>λr'=>jW λx H' ev=>mS λhx e=>?_;cases Hx hx;refine lW e ?_;intro Q E hq;obtain⟨ca',fI,t1,t2,t3,t4,t5,t6⟩:=O.uz _ _ _ hk hi;cases Qa.inj (t1.symm.trans hca);obtain⟨all,hn,add,_,_⟩:=S.dj;refine call_cls S.fr Y.k hn t3 t4 t5 λx dx h' F' N' l1 l2=>?_;have hx4:4<=x:=Xy λhlt=>by
  obtain⟨o,ho⟩:=O.ip.nf x (qaZ hlt)
  have:=(N' (x,instObj ca dx) (.head _)).2.2
  rw[Y.k _ _ ho] at this;cases this
 have le:w.le ⟨w.σ++ [x],w.tp⟩:=⟨J6 _ _,λ_ x=>x⟩;have hS:bw C Y.h₀ Y.L k ⟨w.σ++ [x],w.tp⟩ (H++ [.inst c []]) h':=by
  refine add x (.inst c []) [(x,instObj ca dx),(dx,Ql [] 0)] h' ⟨ca,dx,[],0,rfl,hca,rfl,Jy _⟩ F' N' ?_ ?_ hx4
  ·exact JI.mpr ⟨λh=>absurd (JE.mp h) (Kd l2),o8 _⟩
  ·intro p hp q hq
   have:=l1 q hq
   rcases JM.mp hp with rfl|hp
   ·exact Kd (Zx this l2)
   ·exact(JE.mp hp)▸Kd this
 have hr:(w.σ++ [x])[H.length]?=Qa x:=by rw[<-S.len];exact Zr
 exact hC (Y.ql ca vs) k ⟨w.σ++ [x],w.tp⟩ (H++ [ae.inst c []]) {s with heap:=h'} i fI (.ref H.length::as) (.ref x::vs) (.none,H') hS t2 (.cons ⟨x,rfl,hr⟩ (r.mono le)) ev _ λw' rv s' n r2=>⟨r2,hq w' _ s' ⟨le.trans n.le,n.st,n.cb.1,n.cb.2⟩ ⟨x,rfl,n.le.get hr⟩⟩
theorem zbi (O:nC C gl) {nm:String} (hb:xK.lookup n=Qa nm) (S:St Y k w H s) (r:jU C w as vs):bq Y k (VR C) (call (.builtin nm) vs) w s (G8 n as H):=
 .ay (.au λh => wA (t:=xK) h hb (y:="len") rfl ▸ OR S r) (.ay (.au λh => wA (t:=xK) h hb (y:="max") rfl ▸ OQ S r) (.ay (.au λh => wA (t:=xK) h hb (y:="min") rfl ▸ OP S r) (.au λh => wA (t:=xK) h hb (y:="sorted") rfl ▸ O.fR O.ip S r)))
def Fo (O:nC C gl) (hC:oY C d) {es:List Expr}{irs:List Ex} (hc:lx C d cx es irs) {Y:kX C d 2}{g:ab}{vs:List ab}{H1:MH} (p:Pl Y cx env k mE fr w H s) (hg:jV C w g gv) (e1:qI (C.cx d) irs fr H=Qa (vs,H1)):bq Y k (VR C) (callWith pos gv [] (backTo pos (starEach es env)) []) w s (jZ (C.cx d) g vs H1):=by
 have args: ∀ {Q:List Value->Qf->Prop}{E:Value->Qf->Prop},(∀w1 a1 s1,jd Y k w w1 H1 s s1->jU C w1 vs a1->Q a1 s1) ->Qi C.M Y.A (spliced (backTo pos (starEach es env))) Q E s:=λhq=>sH hc Y env k mE fr w H s pos p _ e1 _ _ hq;refine .ay (.gw λf hf=> .case (λhcl=>?_) (λcl hcl=>?_)) (.ay (.gw λn hn=>?_) (.gw λn hn=>?_))
 ·cases top?_s hf
  refine Zv hg λga zq6=>?_;refine eqB zq6.1 ?_;have hga:=zq6.2;intro r e Q E hq;exact p8 (Es O hga e) hc (args λw1 a1 s1 n1 r1=>⟨n1.st.mn,hC.wp Y n1.st hga r1 r e Q E λw2 a2 s2 n2 r2=>hq w2 a2 s2 (n1.trans n2) r2⟩)
 ·cases top?_s hf
  obtain⟨ga,rfl,hga⟩:=hg;intro r e Q E hq;refine(bs e).elim λi zq4=>?_;obtain⟨ca',fI,t1,t2,t3,t4,t5,t6⟩:=O.uz _ _ _ hcl zq4.1;cases Qa.inj (t1.symm.trans hga);exact p8 t6 hc (args λw1 a1 s1 n1 r1=>⟨n1.st.mn,Cu O hC n1.st hcl hga r1 r e Q E λw2 a2 s2 n2 r2=>hq w2 a2 s2 (n1.trans n2) r2⟩)
 ·cases bi?_s hn
  obtain⟨nm,rfl,hb⟩:=hg;exact λr e Q E hq=>callWith_builtin (lT hc) (oV (lT hc) (args λw1 a1 s1 n1 r1=>zbi O hb n1.st r1 r e Q E λw2 a2 s2 n2 r2=>hq w2 a2 s2 (n1.trans n2) r2))
 ·cases ty?_s hn
  obtain⟨nm,rfl,hb⟩:=hg;exact λr e Q E hq=>PySem.callWith_type (lT hc) (oV (lT hc) (args λw1 a1 s1 n1 r1=>zbh hb n1.st r1 r e Q E λw2 a2 s2 n2 r2=>hq w2 a2 s2 (n1.trans n2) r2))
theorem Gq (O:nC C gl) (hC:oY C d) {ig:Ex}{es:List Expr}{irs:List Ex} (hc:lx C d cx es irs) (hx:mV C d cx (.Name x xp) ig):mV C d cx (.Call (.Name x xp) es [] pos) (.call ig irs):=
 λY env k mE fr w H s p r=>jW λg H1 e1=>jW λvs H2 e2 e Q E hq=>Call_ (hx Y env k mE fr w H s p _ e1 _ _ λw1 a1 s1 n1 r1=>Fo O hC hc (p.next n1) r1 e2 r e Q E λw2 a2 s2 n2 r2=>hq w2 a2 s2 (n1.trans n2) r2)
def Me {es:List Expr}{irs:List Ex} (hc:lx C d cx es irs) (hn:n<30):methodCallForm n (backTo pos (starEach es env)) []=true:=by
 delta methodCallForm;rw[ZX,ZX];refine⟨⟨?_,rfl⟩,decide_eq_true hn⟩;rw[ZF];intro x hx
 have:=(Yq.mp (lT (env:=env) (pos:=pos) hc)) x hx
 cases hb:x.1 with
 |false=>rfl
 |true=>exact absurd hb this
def Gr (O:nC C gl) (hC:oY C d) {o:Expr}{io:Ex}{es:List Expr}{irs:List Ex} (hc:lx C d cx es irs) (hlen:es.length<=20) (ho:mV C d cx o io) (hn:j1 nm=Qe) (hb:Vv o=Qe)
  (hp:(apos.endLine==pos.line)=Qe):mV C d cx (.Call (.Attribute o nm apos) es [] pos) (.bh io (dz nm) irs):=by
 intro Y env k mE fr w H s p r;refine jW λx H1 e1=>jW λvs H2 e2 e Q E hq=>?_;show Qi C.M Y.A (do
  let ov<-attributeBase o nm env (PySem.eval o env)
  standAt apos.atName
  methodCall o nm apos pos env ov (es.length+0) (backTo pos (starEach es env)) (backToKw pos (keywordEach [] env))) Q E s
 rw[Vu hb];refine Qc (ho Y env k mE fr w H s p _ e1 _ _ λw1 a1 s1 n1 r1=>Qc (Qm ?_));delta methodCall;rw[show methodCallForm (es.length+0) (backTo pos (starEach es env)) (backToKw pos (keywordEach [] env))=Qe from Me hc (Jt hlen (by decide))];delta calleeOf methodCallPos;rw[if_pos rfl];refine Qc (Qk ?_);refine FH (nA C.P H1 x (dz nm)) (λhm=>?_) λq hm=>?_
 ·have e:y4 x (dz nm) vs H1 H2=Qa r:=by
   have e':JC (motive:=λ_=>Option (ab×MH)) (nA C.P H1 x (dz nm)) (y4 x (dz nm) vs H1 H2) (λp=>mT C.P wV d p.1 (p.2++vs) H2)=Qa r:=e;rw[hm] at e';exact e'
  refine CB hn n1.st r1 e _ _ _ λid hid=>?_;rw[if_pos (by rw[hp];rfl)];exact Qc (Qg (callWith_builtin (lT hc) (oV (lT hc) (sH hc Y env k mE fr w1 H1 s1 pos (p.next n1) _ e2 _ _ λw2 a2 s2 n2 r2=>hid w2 s2 a2 n2.le n2.st r2 Q E λw3 a3 s3 n3 r3=>hq w3 a3 s3 ((n1.trans n2).trans n3) r3))))
 ·have e:mT C.P wV d q.1 (q.2++vs) H2=Qa r:=by
   have e':JC (motive:=λ_=>Option (ab×MH)) (nA C.P H1 x (dz nm)) (y4 x (dz nm) vs H1 H2) (λp=>mT C.P wV d p.1 (p.2++vs) H2)=Qa r:=e;rw[hm] at e';exact e'
  refine LO O n1.st hn r1 (λfa first tk hfa hself=>?_) hm;rw[if_pos (by rw[hp];rfl)];refine Qc (Qg ?_);have n1':=n1.trans (.toks n1.st tk);exact p8 (s:={s1 with toks:=tk}) (Es O hfa e) hc (sH hc Y env k mE fr w1 H1 {s1 with toks:=tk} pos (p.next n1') _ e2 _ _ λw2 a2 s2 n2 r2=>⟨n2.st.mn,hC.wp Y n2.st hfa (jU.append r2 (hself.mono n2.le)) r e Q E λw3 a3 s3 n3 r3=>hq w3 a3 s3 ((n1'.trans n2).trans n3) r3⟩)
end
section
variable (prog:Qx) (w:Qn) (A:QP) (env:Env) (R:Result->Qf->Prop)
def cE:Value->Qf->Prop:=notedBy (model prog w) A env λe s'=>R (.error e) s'
variable (eh:Expr) (acc:Value) (X:Qf->Prop)
def cX (x : Value) (s : Qf) : Prop := Qi (model prog w) A (call (.builtin "list.append") [acc,x]) (λ_ => X) (cE prog w A env R) s
def cT (ok:Bool) (s:Qf):Prop:=if ok=Qe then Qi (model prog w) A (PySem.eval eh env) (cX prog w A env R acc X) (cE prog w A env R) s else X s
variable (target:Expr) (it:Value) (ifs:List Expr)
def cV (v:Value) (s:Qf):Prop:=Qi (model prog w) A (letOwnedTupleGo target it v) (λ_ s₁'=>Qi (model prog w) A (assign target env v) (λ_ s₂=>
     Qi (model prog w) A (forIn ifs Qe λc r=>if r=Qe then do let ok<-PySem.isTrue c env (PySem.eval c env);pure (ForInStep.yield ok) else pure (ForInStep.yield r)) (cT prog w A env R eh acc X) (cE prog w A env R) s₂)
     (cE prog w A env R) s₁') (cE prog w A env R) s
def cN (r:Option Value) (s:Qf):Prop:=r.elim (R (.ok .next) s) λv=>cV prog w A env R eh acc X target it ifs v s
variable {prog w A env R eh acc target it ifs}
def uP (I:Nat->Qf->Prop)
  (turn: ∀n s,I n s->Qi (model prog w) A (pyNext it) (cN prog w A env R eh acc (λs=> ∃m,m<n/\I m s) target it ifs) (cE prog w A env R) s)
  (n:Nat) (h:I n s):codeAny (model prog w) A (.compLoop (.ListComp eh [⟨target,iter,ifs,0⟩] scope pos) 0 it acc env) R s:=by
 refine codeAny_loop rfl I (λn s hI=>?_) n h;show Qi _ A ((compTurn (.ListComp eh [⟨target,iter,ifs,0⟩] scope pos) 0 it acc env).onRaise (λx=>do noteFrame x env;theTreesLotGoes x)) _ _ s;refine wpAny_noted ?_;rw[compTurn_list];refine Qc (Qm (Qc (Qo (turn n s hI) (λr s₁ h₁=>?_) λ_ _ h'=>h')));cases r with
 |none=>exact Qg h₁
 |some v=>
  refine Qc (Qo h₁ (λ_ s₁' h₁'=>?_) λ_ _ h'=>h');refine Qc (Qo h₁' (λ_ s₂ h₂=>Qc (Qo h₂ (λok s₃ h₃=>?_) λ_ _ h'=>h')) λ_ _ h'=>h');cases ok with
  |false=>exact Qg ⟨rfl,h₃⟩
  |true=>exact Qc (Qc (Qo h₃ (λx s₄ h₄=>Qc (Qo h₄ (λ_ s₅ h₅=>Qg (Qg ⟨rfl,h₅⟩)) λ_ _ h'=>h')) λ_ _ h'=>h'))
end
def HV (outer:List (Str×Qr)) (sc:Scope) (x:Str):(vO outer sc).lookup x=(sc.names.lookup x).map λk=>if (k== .free && outer.lookup x==Qa .cell)=Qe then .cell else k:=by
 delta vO
 generalize sc.names=l
 induction l with
 |nil=>rfl
 |cons p l ih=>
  rw[JO,ZG,ZG];refine xO (x==p.1) (λhxy=>?_) λhxy=>?_
  ·rw[hxy]
   rw[beq_iff_eq.mp hxy];rfl
  ·rw[hxy]
   exact ih
def oB (env:Env) (p:Str×Qr) (cs:List (Str×Qj)):List (Str×Qj):=if p.2== .free then(match env.cells.lookup p.1 with|some a=>(p.1,a)::cs|none=>cs) else cs
def RI: ∀ (l:List (Str×Qr)) (acc:List (Str×Qj)),(∀p∈l,p.2= .free->(env.cells.lookup p.1).isSome=Qe) ->
  (forIn l acc λx r=>match x with
   |(name,kind)=>if (kind==NameKind.free)=Qe then do let a<-cellOf env name;pure (ForInStep.yield ((name,a)::r)) else pure (ForInStep.yield r):Sem (List (Str×Qj)))=pure (l.foldl (λcs p=>oB env p cs) acc):=by
 intro l
 induction l with
 |nil=>exact λacc _=>rfl
 |cons p l ih=>
  intro acc h;rw[Xf,Yj]
  dsimp only
  by_cases hk:(p.2==NameKind.free)=Qe
  ·rw[if_pos hk]
   refine xE (Zw.mp (h (p.1,p.2) (.head _) (beq_iff_eq.mp hk))) λa ha=>?_;rw[(by unfold cellOf;rw[show env.cells.lookup p.1=Qa a from ha]:cellOf env p.1=pure a),Q7,Q7]
   dsimp only
   rw[(λacc=>ih acc λp hp=>h p (.tail _ hp))]
   congr 2
   delta oB;rw[if_pos hk]
   dsimp only at ha ⊢
   rw[ha]
  ·rw[if_neg hk,Q7]
   dsimp only
   rw[(λacc=>ih acc λp hp=>h p (.tail _ hp))]
   congr 2
   unfold oB;rw[if_neg hk]
def Bj (hc:env.cells.lookup x=Qa c): ∀ (l:List (Str×Qr)) (acc:List (Str×Qj)),((x,NameKind.free)∈l\/acc.lookup x=Qa c) ->(l.foldl (λcs p=>oB env p cs) acc).lookup x=Qa c:=by
 intro l
 induction l with
 |nil=>exact λacc h=>h.elim (λh=>absurd h JB) id
 |cons p l ih=>
  intro acc h;simp only[Yj];refine ih _ ?_;have keep:acc.lookup x=Qa c->(oB env p acc).lookup x=Qa c:=λh=>by
   delta oB;split
   ·split
    ·rename_i a ha
     simp only[ZG];cases hxy:x==p.1 with
     |true=>rw[beq_iff_eq.mp hxy] at hc;exact ha.symm.trans hc
     |false=>exact h
    ·exact h
   ·exact h
  rcases h with h|h
  ·rcases JM.mp h with e|h
   ·refine .inr ?_
    rw[<-e];delta oB
    dsimp only
    rw[hc,if_pos (show (NameKind.free==NameKind.free)=Qe from rfl)];simp only[ZG,beq_self_eq_true]
   ·exact .inl h
  ·exact .inr (keep h)
def Ak (h: ∀p∈scope.names,p.2= .free->(env.cells.lookup p.1).isSome=Qe): ∃cl,closureFor scope env=pure cl/\∀x c,(x,NameKind.free)∈scope.names->env.cells.lookup x=Qa c->cl.lookup x=Qa c:=by
 refine⟨scope.names.foldl (λcs p=>oB env p cs) [],?_,λx c hx hc=>Bj hc _ _ (.inl hx)⟩
 have:=RI (env:=env) scope.names [] h
 delta closureFor;simp only[<-this];simp only[bind_pure]
structure NM (cx:CC) (sc:Scope) (xs:List Str):Prop where
 kind:sc.kind= .function
 qw: ∀p∈sc.names,p.2≠ .cell
 ju: ∀p∈sc.names,p.2= .local->sc.names.lookup p.1=Qa .local/\(p.1∈xs\/cx.jh.lookup p.1=Qd)
 free: ∀p∈sc.names,p.2= .free->sc.names.lookup p.1=Qa .free/\cx.sc.lookup p.1=Qa .cell
 nd:xs.Nodup
 xs: ∀x∈xs,sc.names.lookup x=Qa .local
def A5 {cx:CC} (h:Vl cx sc xs=Qe):NM cx sc xs:=by
 delta Vl at h;simp only[ZX,ZF,beq_iff_eq,Xi,bne_iff_ne,ne_eq,decide_eq_true_eq,Ym,Ki] at h;obtain⟨⟨⟨h1,h2⟩,h3⟩,h4⟩:=h;exact⟨h1,λp hp=>(h2 p hp).1.1,λp hp hl=>(h2 p hp).1.2.elim (absurd hl) id,λp hp hf=>(h2 p hp).2.elim (absurd hf) id,h4,h3⟩
def Up (cx:CC):Prop:= ∀x i,cx.jh.lookup x=Qa i->i<cx.next
def D9 [BEq α] (a:α) (r:List (α×β)): ∀ (l:List (α×β)),(l++r).lookup a=(l.lookup a).or (r.lookup a):=by
 intro l
 induction l with
 |nil=>rfl
 |cons p l ih=>
  rw[Yb,ZG,ZG];cases a==p.1 with
  |true=>rfl
  |false=>exact ih
def pA (x:Str): ∀ (l:List Str) (n:Nat),(∀i,(l.zip (J4 n l.length)).lookup x=Qa i-> ∃j,i=n+j/\l[j]?=Qa x)/\(x∉l->(l.zip (J4 n l.length)).lookup x=Qd)/\(x∈l->((l.zip (J4 n l.length)).lookup x).isSome=Qe):=by
 intro l
 induction l with
 |nil=>exact λn=>⟨λi h=>af h,λ_=>rfl,λh=>absurd h JB⟩
 |cons y l ih=>
  intro n;simp only[ZE,qa0,Yg,ZG];cases hxy:x==y with
  |true=>exact⟨λi h=>⟨0,(Qa.inj h).symm,by rw[beq_iff_eq.mp hxy];rfl⟩,λh=>absurd (beq_iff_eq.mp hxy▸List.mem_cons_self) h,λ_=>rfl⟩
  |false=>
   exact⟨λi h=>((ih (n+1)).1 i h).elim λj zq24=>⟨j+1,zq24.1.trans (by rw[J9,ZJ 1]),zq24.2⟩,λh=>(ih (n+1)).2.1 λh'=>h (.tail _ h'),λh=>(ih (n+1)).2.2 ((JM.mp h).resolve_left (beq_eq_false_iff_ne.mp hxy))⟩
def sT {cx:CC} (h:(cg cx sc xs).jh.lookup x=Qa i):(∃j,i=cx.next+j/\xs[j]?=Qa x)\/(x∉xs/\cx.jh.lookup x=Qa i):=by
 have h:(xs.zip (J4 cx.next xs.length)++cx.jh).lookup x=Qa i:=h;rw[D9] at h;by_cases hx:x∈xs
 ·refine(Zw.mp ((pA x xs cx.next).2.2 hx)).elim λj zq22=>?_
  rw[zq22] at h;refine lW h ?_;exact .inl ((pA x xs cx.next).1 _ zq22)
 ·rw[(pA x xs cx.next).2.1 hx] at h
  exact .inr ⟨hx,h⟩
def Up.cg {cx:CC} (h:Up cx) (sc:Scope) (xs:List Str):Up (cg cx sc xs):=by
 intro x i hi;rcases sT hi with ⟨j,rfl,hj⟩| ⟨_,hi⟩
 ·exact J3 (Ju.mp hj).1 _
 ·exact Js (h x i hi) (Jo _ _)
def zQ {cx:CC} (h:nS cx x=Qa i):(cx.sc.lookup x=Qa .local\/cx.sc.lookup x=Qa .cell)/\cx.jh.lookup x=Qa i:=by
 exact⟨(Xm.mp (gs h).1).imp beq_iff_eq.mp beq_iff_eq.mp,(gs h).2⟩
def CG {fr:Frame}{v u:ab} (h:(fr.set i (Qa v))[j]?=Qa (Qa u)):(i=j/\u=v)\/(i≠j/\fr[j]?=Qa (Qa u)):=by
 by_cases hij:i=j
 ·subst hij
  rw[List.getElem?_set] at h;simp only[if_true] at h
  split at h
  ·cases h;exact .inl ⟨rfl,rfl⟩
  ·cases h
 ·rw[JZ hij] at h
  exact .inr ⟨hij,h⟩
def Ws (i:Nat) (u:ab): ∀ (vs:List ab) (n:Nat) (fr:Frame),(uG (J4 n vs.length) vs fr)[i]?=Qa (Qa u) ->(∃j,i=n+j/\vs[j]?=Qa u)\/((i<n\/n+vs.length<=i)/\fr[i]?=Qa (Qa u)):=by
 intro vs
 induction vs with
 |nil=>exact λn fr h=> .inr ⟨Nat.lt_or_ge i n,h⟩
 |cons v vs ih=>
  intro n fr h;rw[ZE,qa0] at h;rcases ih (n+1) (fr.set n (Qa v)) h with ⟨j,h1,h2⟩| ⟨h1,h2⟩
  ·exact .inl ⟨j+1,by lia,h2⟩
  ·rcases CG h2 with ⟨e,rfl⟩| ⟨hne,h3⟩
   ·exact .inl ⟨0,e.symm,rfl⟩
   ·exact .inr ⟨by rw[ZE];lia,h3⟩
section
variable {cx:CC}{fr:Frame}
def Gn {I:Qj} (hI:s.heap.get? I=Qa io) (R:pK C w io i z) {Q:Value->Qf->Prop} (h:Q (.ref I) s):Qi C.M A (pyIter (.ref I)) Q E s:=by
 cases z with
 |fs _=>obtain⟨la,_,ic⟩:=R;exact QL ⟨io,hI,ic.1,ic.2⟩ h
 |ls _=>obtain⟨la,_,ic⟩:=R;exact QL ⟨io,hI,ic.1,ic.2⟩ h
 |tp _=>obtain⟨la,_,ic⟩:=R;exact wpAny_pyIter_tupleiter ⟨io,hI,ic.1,ic.2⟩ h
 |sq _=>
  obtain⟨T,t,hT,ic⟩:=R.2;rcases hT with rfl|rfl
  ·exact wpAny_pyIter_striter_ascii ⟨io,hI,ic.1,ic.2⟩ h
  ·exact wpAny_pyIter_striter_wide ⟨io,hI,ic.1,ic.2⟩ h
 |dk _ _ _=>obtain⟨la,_,ic,id⟩:=R;exact QU ⟨io,hI,ic,id⟩ h
 |rg _=>obtain⟨_,_,_,rfl⟩:=R;exact wpAny_pyIter_rangeiter hI h
abbrev Lu : List String := ["enumerate","zip","dict_itemiterator","dict_reverseitemiterator","odict_iterator","itertools.zip_longest","itertools.pairwise"]
def pK.cls (R:pK C w io i z): ∃T vs,io.cls= .type T/\io.data= .fields vs/\Lu.contains T=false:=by
 cases z with
 |fs _=>obtain⟨la,_,ic⟩:=R;exact⟨_,_,ic.1,ic.2,by decide⟩
 |ls _=>obtain⟨la,_,ic⟩:=R;exact⟨_,_,ic.1,ic.2,by decide⟩
 |tp _=>obtain⟨la,_,ic⟩:=R;exact⟨_,_,ic.1,ic.2,by decide⟩
 |sq _=>obtain⟨_,T,t,hT,ic⟩:=R;rcases hT with rfl|rfl<;>exact⟨_,_,ic.1,ic.2,by decide⟩
 |dk _ _ _=>obtain⟨la,_,ic,id⟩:=R;exact⟨_,_,ic,id,by decide⟩
 |rg _=>obtain⟨_,_,_,rfl⟩:=R;exact⟨_,_,rfl,rfl,by decide⟩
def WH {I:Qj} (hI:s.heap.get? I=Qa io) {tg:Expr} (R: ∃T vs,io.cls= .type T/\io.data= .fields vs/\Lu.contains T=Qb) (h:Q () s):Qi C.M A (letOwnedTupleGo tg (.ref I) v) Q E s:=by
 refine R.elim λT zq19=>zq19.elim λvs zq20=>?_;have key:Qi C.M A (do
  let (.ref r,.ref a):=((qaY I),v)|return
  let o<-load r
  match o.cls,o.data with
  | .type n,.fields vs=>
   if ["enumerate","zip","dict_itemiterator","dict_reverseitemiterator","odict_iterator","itertools.zip_longest","itertools.pairwise"].contains n && vs[0]? == Qa (rawInt a) then
    rule "for.unpacks-the-owned-tuple"
    updateField r 0 .none
  |_,_=>pure ()) Q E s:=by
  cases v with
  |ref b=>
   refine Qc (Jc hI ?_);rw[zq20.1,zq20.2.1]
   dsimp only
   rw[show (["enumerate","zip","dict_itemiterator","dict_reverseitemiterator","odict_iterator","itertools.zip_longest","itertools.pairwise"].contains T) = Qb from zq20.2.2];exact Qg h
  |_=>exact Qg h
 cases tg<;>first|exact Qg h|exact key
abbrev Wm (env:Env) (ifs:List Expr) (b:Bool):Sem Bool:=forIn ifs b λc r=>if r=Qe then do let ok<-PySem.isTrue c env (PySem.eval c env);pure (ForInStep.yield ok) else pure (ForInStep.yield r)
def Lv: ∀ (ifs:List Expr),Wm env ifs Qb=pure false:=by
 intro ifs
 induction ifs with
 |nil=>rfl
 |cons c r ih=>
  delta Wm;rw[Xf];simp only[YH,if_false,Q7];exact ih
def Fg {irs:List Ex} (h:lx C d cx ifs irs): ∀ (Y:kX C d 2) (env:Env) (k:Kp) (mE:Str->Option Value) (fr:Frame) (w:Wd) (H:MH) (s:Qf),Pl Y cx env k mE fr w H s->bq Y k c8 (Wm env ifs Qe) w s (HN (C.cx d) irs fr H):=by
 induction h with
 |nil=>exact λY env k mE fr w H s p=> .pure' p.st rfl
 |cons he _ ih=>
  intro Y env k mE fr w H s p r;refine jW λb H1 e1 e Q E hq=>?_;delta Wm;rw[Xf];simp only[if_true];refine Qc (Qc (he.ts Y env k mE fr w H s p _ e1 _ _ λw1 a1 s1 n1 r1=>Qg ?_));rw[show a1=b from r1];cases b with
  |true=>exact ih Y env k mE fr w1 H1 s1 (p.next n1) _ e _ _ λw2 a2 s2 n2 r2=>hq w2 a2 s2 (n1.trans n2) r2
  |false=>
   obtain rfl:=Qa.inj e;show Qi C.M Y.A (Wm env _ Qb) Q E s1;rw[Lv];exact Qg (hq w1 _ s1 n1 rfl)
def VX (hk:env.scope.kind= .function) (hs:env.scope.names=cx.sc):(relabel sc env).names=vO cx.sc sc:=by
 delta relabel vO
 dsimp only
 apply ZI
 intro p _;rw[hk,<-hs];delta Env.kindOf;obtain⟨n,k⟩:=p
 dsimp only
 rw[show (ScopeKind.function==ScopeKind.function)=Qe from rfl,Yk]
 split<;>rfl
def rF (O:NM cx sc xs):((vO cx.sc sc).lookup x=Qa .local->sc.names.lookup x=Qa .local)/\((vO cx.sc sc).lookup x=Qa .cell->sc.names.lookup x=Qa .free/\cx.sc.lookup x=Qa .cell):=by
 rw[HV];refine⟨lA λk hk e=>?_,lA λk hk e=>?_⟩
 ·split at e
  ·cases e
  ·rw[hk,e]
 ·split at e
  ·rename_i hc
   rw[ZX,beq_iff_eq,beq_iff_eq] at hc;rw[hk,hc.1];exact⟨rfl,hc.2⟩
  ·exact absurd e (O.qw _ (kR hk))
def Pl.yt (p:Pl Y cx env k mE fr w H s) (O:NM cx sc xs) (hn:Up cx) (hcl: ∀x c,(x,NameKind.free)∈sc.names->env.cells.lookup x=Qa c->cl.lookup x=Qa c) {k':Kp} (hk:k'.ce=k.ce) (hm:(N,oN)∈k'.ex) (hns:nu oN mN)
  {w':Wd} (le:w.le w') {H':MH}{s':Qf} (S':St Y k' w' H' s') {mvs:List ab}{vs:List Value} (r:jU C w' mvs vs) (hl:mvs.length=xs.length) (hv: ∀ (j:Nat) x,xs[j]?=Qa x->mN x=vs[j]?):Pl Y (cg cx sc xs) (compEnvC sc cl N env) k' mN (uG (J4 cx.next xs.length) mvs fr) w' H' s':=by
 refine⟨⟨O.kind,p.b.gl,p.b.bl,VX p.b.kind p.b.sc,λx hx=>?_,.inr ⟨oN,hm,hns⟩⟩,λx i v hx hvv=>?_,S'⟩
 ·exact(p.b.cells x ((rF O).2 hx).2).elim λc zq15=>zq15.elim λo zq16=>zq16.elim λv₀ zq17=>⟨c,o,v₀,hcl x c (kR ((rF O).2 hx).1) zq17.1,hk▸zq17.2.1,zq17.2.2⟩
 ·obtain⟨hkd,hi⟩:=zQ hx
  rw[<-hl] at hvv;rcases hkd with hkd|hkd
  ·have hloc:=(rF O).1 hkd
   rcases sT hi with ⟨j,rfl,hj⟩| ⟨hne,hi'⟩
   ·have hjl:=(Ju.mp hj).1
    rcases Ws _ _ _ _ _ hvv with ⟨j',e,hj'⟩| ⟨hlt,_⟩
    ·cases qaC e
     exact(r.get hj').elim λrv zq13=> .ju rv hkd ((hv _ _ hj).trans zq13.1) zq13.2
    ·lia
   ·rcases (O.ju _ (kR hloc) rfl).2 with h|h
    ·exact absurd h hne
    ·rw[h] at hi';cases hi'
  ·have zq12:=(rF O).2 hkd
   rcases sT hi with ⟨j,rfl,hj⟩| ⟨_,hi'⟩
   ·have:=O.xs x (Jq hj)
    rw[zq12.1] at this;cases this
   ·have hlt:=hn x i hi'
    rcases Ws _ _ _ _ _ hvv with ⟨j',e,hj'⟩| ⟨_,hv'⟩
    ·lia
    ·have hvar:nS cx x=Qa i:=by unfold nS;rw[zq12.2];exact hi'
     cases (p.f x i v hvar hv').mono le with
     |ju _ h3 _ _=>rw[zq12.2] at h3;cases h3
     |cell rv c o _ e1 e2 e3 e4=>exact .cell rv c o hkd (hcl x c (kR zq12.1) e1) (hk▸e2) e3 e4
abbrev GQ (env:Env) (x:Str) (f:Value->Sem Unit):Prop:= ∀ (M:Jh) (A:QP) (v:Value) (Q:Unit->Qf->Prop) (E:Value->Qf->Prop) (s:Qf),Qi M A (storeName env x v) Q E s->Qi M A (f v) Q E s
def nN {es:List Expr} (h:lV (λe x=>qY e=Qa x) es xs):lV (GQ env) xs ((assignEach es env).map (·.2))/\(assignEach es env).length=xs.length/\(assignEach es env).findIdx? (·.1)=none:=by
 induction h with
 |nil=>exact⟨.nil,rfl,rfl⟩
 | @cons e x es xs h _ ih=>
  obtain⟨p,hp,rfl⟩:=ms h;cases qM hp;refine⟨.cons (λ_ _ _ _ _ _ z=>PySem.wpAny_assign_Name z) ih.1,congrArg (· +1) ih.2.1,?_⟩;show qbj _ ((Qb,assign (.Name p.1 p.2) env)::assignEach es env)=Qd;rw[qaO];simp only[YH,if_false,ih.2.2,qaj]
def Sv (h:v9 t=Qa q):(∃x p,t= .Name x p/\q=([x],Qb))\/∃es n p,t= .Tuple es n p/\q.2=Qe/\lV (λe x=>qY e=Qa x) es q.1:=by
 revert h
 refine lJ (lA λp hp e=>?_) (j9 λp hp=>lA λxs hx e=>?_)
 ·exact .inl ⟨p.1,p.2,qM hp,e.symm⟩
 ·subst e
  exact .inr ⟨p.1,p.2.1,p.2.2,z4 hp,rfl,rA hx⟩
inductive zaw (fr fr1:Frame) (tg:List Nat) (many:Bool) (v:ab):Prop
 |mk (mvs:List ab) (l:mvs.length=tg.length) (e:fr1=uG tg mvs fr) (t:many=Qe->v= .ba mvs) (f:many=Qb->mvs= [v]):zaw fr fr1 tg many v
def EN {v:ab}{fr1:Frame} (h:nG fr tg many v=Qa fr1):zaw fr fr1 tg many v:=by
 cases many with
 |true=>
  refine xEA (bs (o:=v.tup?) h) λvs h1 h=>?_;exact⟨vs,beq_iff_eq.mp (gs h).1,(Qa.inj (gs h).2).symm,λ_=>tup?_s h1,λq=>JH q⟩
 |false=>
  exact⟨[v],(beq_iff_eq.mp (gs (b:=tg.length==1) h).1).symm,(Qa.inj (gs (b:=tg.length==1) h).2).symm,λq=>JH q,λ_=>rfl⟩
def yW (hk:env.scope.kind= .function) (hx:env.kindOf x=Qa .local) (S:St Y (k.ext (env.locals,oN)) w H s) (hns:nu oN mN) 
  (h: ∀oN' mN' h' tk,bw C Y.h₀ Y.L (k.ext (env.locals,oN')) w H h'->nu oN' mN'->mN' x=Qa rv->(∀y,y≠x->mN' y=mN y) ->Q () {s with heap:=h',toks:=tk}):Qi C.M Y.A (storeName env x rv) Q E s:=by
 refine Zv hns λes zq6=>zq6.elim λep zq7=>?_;refine QM (m:=mN) hx ⟨oN,es,ep,S.ff.1,zq7⟩ (λh' hn hs=>?_) (by rw[hk];rfl);exact Zv hn λo' zq3=>zq3.elim λes' zq4=>zq4.elim λep' zq5=>h o' _ h' _ (S.jb hs zq5.1) ⟨es',ep',zq5.2⟩ (if_pos rfl) (λy hy=>if_neg hy)
def OF (hk:env.scope.kind= .function) (hb:lV (GQ env) xs fs):(∀x∈xs,env.kindOf x=Qa .local) ->xs.Nodup-> ∀ {vs:List Value}{oN:Obj}{mN:Str->Option Value}{s:Qf}{Q:Unit->Qf->Prop}{E:Value->Qf->Prop},
  vs.length=xs.length->St Y (k.ext (env.locals,oN)) w H s->nu oN mN->
  (∀oN' mN' h' tk,bw C Y.h₀ Y.L (k.ext (env.locals,oN')) w H h'->nu oN' mN'->(∀ (j:Nat) x,xs[j]?=Qa x->mN' x=vs[j]?) ->(∀y,y∉xs->mN' y=mN y) ->Q () {s with heap:=h',toks:=tk}) ->Qi C.M Y.A (assignInOrder fs vs) Q E s:=by
 induction hb with
 |nil=>
  intro _ _ vs oN mN s Q E hl S hns h;cases ZO.mp hl;exact Qg (h oN mN s.heap s.toks S hns (λj x hj=>af hj) (λ_ _=>rfl))
 | @cons x f xs fs hf _ ih=>
  intro hx hd vs oN mN s Q E hl S hns h;cases vs with
  |nil=>cases hl
  |cons v vs=>
   show Qi C.M Y.A (do holding _ _;assignInOrder _ _) Q E s;refine Qc (Qk (hf _ _ _ _ _ _ (yW hk (hx x (.head _)) S hns λoN1 mN1 h1 tk S1 hns1 e1 e2=>?_)));refine ih (λy hy=>hx y (.tail _ hy)) (JI.mp hd).2 (s:={s with heap:=h1,toks:=tk}) (ZP.inj hl) S1 hns1 λoN2 mN2 h2 tk2 S2 hns2 k1 k2=>?_;refine h oN2 mN2 h2 tk2 S2 hns2 (λj y hj=>?_) (λy hy=>(k2 y λq=>hy (.tail _ q)).trans (e2 y λq=>hy (q▸ .head _)));cases j with
   |zero=>refine lW hj ?_;rw[k2 _ (JI.mp hd).1,e1];rfl
   |succ j=>exact k1 j y hj
def RV (hk:env.scope.kind= .function) (ht:v9 t=Qa q) (hx: ∀x∈q.1,env.kindOf x=Qa .local) (hd:q.1.Nodup) {v:ab} (h1:q.2=Qe->v= .ba mvs) (h2:q.2=Qb->mvs= [v]) (hl:mvs.length=q.1.length) (hv:jV C w v rv)
  {oN:Obj}{mN:Str->Option Value} (S:St Y (k.ext (env.locals,oN)) w H s) (hns:nu oN mN) {Q:Unit->Qf->Prop}{E:Value->Qf->Prop}
  (h: ∀vs oN' mN' h' tk,jU C w mvs vs->bw C Y.h₀ Y.L (k.ext (env.locals,oN')) w H h'->nu oN' mN'->(∀ (j:Nat) x,q.1[j]?=Qa x->mN' x=vs[j]?) ->Q () {s with heap:=h',toks:=tk}):Qi C.M Y.A (assign t env rv) Q E s:=by
 rcases Sv ht with ⟨x,p,rfl,rfl⟩| ⟨es,n,p,rfl,hq,hes⟩
 ·cases h2 rfl
  refine PySem.wpAny_assign_Name (yW hk (hx x (.head _)) S hns λoN' mN' h' tk S' hns' e1 _=>h [rv] oN' mN' h' tk (.da hv) S' hns' λj y hj=>?_);cases j with
  |zero=>refine lW hj ?_;exact e1
  |succ j=>exact af hj
 ·cases h1 hq
  have zq2:=nN (env:=env) hes;obtain⟨tt,o,n',ws,rfl,ho,hc,hdd,rr,_⟩:=S.ba hv;exact QZ (items:=ws.toArray) Y.handled ⟨o,ho,hc,n',hdd⟩ (by rw[zq2.2.1,ZC,<-rr.length,hl]) zq2.2.2 λh' he=>OF hk zq2.1 hx hd (s:={s with heap:=h'}) (by rw[<-rr.length,hl]) (S.grown he) hns λoN' mN' h'' tk S2 hns2 k1 _=>h ws oN' mN' h'' tk rr S2 hns2 k1
end
structure c9 (C:bf) (d:Nat) (cx:CC) (g:Comprehension) (sc:Scope) (eh:Expr) (q:List Str×Bool) (ie ii:Ex) (iifs:List Ex):Prop where
 as:g.is_async=0
 t:v9 g.target=Qa q
 o:NM cx sc q.1
 it:Sd C d cx g.iter ii
 eh:Sd C d (cg cx sc q.1) eh ie
 ifs:lx C d (cg cx sc q.1) g.ifs iifs
section
variable {cx:CC}{fr:Frame}
def cF (cx:Cx) (fr:Frame) (tg:List Nat) (many:Bool) (ie:Ex) (iifs:List Ex) (z:It) (D:Nat):Nat->Nat->MH->Option (Unit×MH):=
 compLoop (λi h=>lX h i z) (λv h=>(nG fr tg many v).bind λfr'=>bx (HN cx iifs fr' h) λb h'=>Qa (bif b then Qa fr' else Qd,h')) (λfr' h=>eval cx ie fr' h) D
structure zdg (C:bf) {d e:Nat} (Y:kX C d e) (k:Kp) (w0:Wd) (s0:Qf) (I N:Qj) (z:It) (F:Nat->MH->Option (Unit×MH)) (H2:MH) (s:Qf) (w:Wd) (H:MH) (j:Nat) (io oN:Obj) (mN:Str->Option Value):Prop where
 le:w0.le w
 st:St Y ((k.ext (N,oN)).ext (I,io)) w H s
 ns:nu oN mN
 it:pK C w io j z
 sm:qN s0 s
 lp:F j H=Qa ((),H2)
def ziI (C:bf) {d e:Nat} (Y:kX C d e) (k:Kp) (w0:Wd) (s0:Qf) (I N:Qj) (z:It) (F:Nat->MH->Option (Unit×MH)) (H2:MH) (s:Qf):Prop:= ∃w H j io oN mN,zdg C Y k w0 s0 I N z F H2 s w H j io oN mN
def Bf {Y:kX C d 2}{ie:Ex}{iifs:List Ex}{F:Nat->Nat->MH->Option (Unit×MH)}{w0 w5:Wd}{H2 H5:MH}{I:Qj} 
  (hF:F=cF (C.cx d) fr (J4 cx.next q.1.length) q.2 ie iifs z D0) (Ot:v9 t=Qa q) (Os:NM cx sc q.1) (Oi:lx C d (cg cx sc q.1) ifs iifs) (Oe:Sd C d (cg cx sc q.1) eh ie)
  (hP: ∀ {oN:Obj}{mN:Str->Option Value}{io:Obj}{w':Wd}{H':MH}{s':Qf}{mvs:List ab}{vs:List Value},nu oN mN->w0.le w'->St Y ((k.ext (N,oN)).ext (I,io)) w' H' s'->jU C w' mvs vs->mvs.length=q.1.length->(∀ (j:Nat) x,q.1[j]?=Qa x->mN x=vs[j]?) ->Pl Y (cg cx sc q.1) (compEnvC sc cl N env) ((k.ext (N,oN)).ext (I,io)) mN (uG (J4 cx.next q.1.length) mvs fr) w' H' s')
  (hD:w0.σ[D0]?=Qa D) (c:zdg C Y k w0 s0 I N z (F (n+1)) H2 s' w5 H5 j io oN mN)
  (hX: ∀ {s w H j io oN mN},zdg C Y k w0 s0 I N z (F n) H2 s w H j io oN mN->X s) (hE: ∀ {w oN mN s},w0.le w->St Y (k.ext (N,oN)) w H2 s->nu oN mN->qN s0 s->R (.ok .next) s):
  Qi C.M Y.A (pyNext (.ref I)) (cN C.prog C.w Y.A (compEnvC sc cl N env) R eh (.ref D) X t (.ref I) ifs) (cE C.prog C.w Y.A (compEnvC sc cl N env) R) s':=by
 subst hF;have lp5:=c.lp
 revert lp5
 refine j9 λov hov lp5=>LL c.st c.it hov ⟨λu rv io6 h' tk hu S6 R6 hr=>?_,λh' hu S6=>?_⟩
 ·subst hu
  refine WH (s:={s' with heap:=h',toks:=tk}) S6.ff.1 R6.cls ?_
  revert lp5
  refine jW λofr H7 htest lp5=>?_;refine xEA (bs htest) λfr2 hbind htest=>?_;obtain⟨mvs,b1,b2,b3,b4⟩:=EN hbind;rw[KU] at b1;refine RV (s:={s' with heap:=h',toks:=tk}) (env:=compEnvC sc cl N env) (k:=k.ext (I,io6)) Os.kind Ot (λx hx=>lookup_relabel_local (Os.xs x hx)) Os.nd b3 b4 b1 hr (bw.kr S6) c.ns λvs oN7 mN7 h7 tk7 rr7 S7 hns7 hm7=>?_;have P7:=hP hns7 c.le (bw.kr S7:St Y ((k.ext (N,oN7)).ext (I,io6)) w5 H5 {s' with heap:=h7,toks:=tk7}) rr7 b1 hm7;rw[<-b2] at P7
  revert htest
  refine jW λb H8 htt e8=>?_;cases e8;refine Fg Oi Y _ _ _ _ _ _ _ P7 _ htt _ _ λw8 ok s8 n8 r8=>?_;cases (r8);have le8:=c.le.trans n8.le;have sm8:qN s0 s8:=qN.trans c.sm ⟨n8.cb.1,n8.cb.2⟩;cases b with
  |false=>exact hX ⟨le8,n8.st,hns7,R6.mono n8.le,sm8,lp5⟩
  |true=>
   revert lp5
   refine jW λx9 H9 ev9=>j9 λacc hacc=>mS λhlen lp9=>?_;refine Oe.es Y _ _ _ _ _ _ _ (P7.next n8) _ ev9 _ _ λw9 xv s9 n9 r9=>?_;exact Wr n9.st ((le8.trans n9.le).get hD) hacc r9 (Zf.mp hlen) _ rfl _ _ λw10 _ s10 tn _=>hX ⟨(le8.trans n9.le).trans tn.le,tn.st,hns7,R6.mono ((n8.le.trans n9.le).trans tn.le),(sm8.trans n9.cb).trans tn.cb,lp9⟩
 ·subst hu
  cases lp5;exact hE c.le S6 c.ns ⟨c.sm.1,c.sm.2⟩
theorem Bg {Y:kX C d 2}{it:Expr}{ie ii:Ex}{iifs:List Ex}{m:Nat}{w0:Wd}{H2 H4:MH}{I:Qj} (O:c9 C d cx ⟨t,it,ifs,0⟩ sc eh q ie ii iifs) (hn:Up cx)
  (hcl: ∀x c,(x,NameKind.free)∈sc.names->env.cells.lookup x=Qa c->cl.lookup x=Qa c) (p:Pl Y cx env k mE fr w H s) (le:w.le w0) (hD:w0.σ[D0]?=Qa D) (S4:St Y ((k.ext (N,oN)).ext (I,io)) w0 H4 s4) (hns:nu oN mN) (R2:pK C w0 io 0 z)
  (lp:cF (C.cx d) fr (J4 cx.next q.1.length) q.2 ie iifs z D0 m 0 H4=Qa ((),H2)) (hE: ∀ {w oN mN s},w0.le w->St Y (k.ext (N,oN)) w H2 s->nu oN mN->qN s4 s->R (.ok .next) s):
  codeAny C.M Y.A (.compLoop (.ListComp eh [⟨t,it,ifs,0⟩] sc pos) 0 (.ref I) (.ref D) (compEnvC sc cl N env)) R s4:=
 uP (λn s'=>ziI C Y k w0 s4 I N z (cF (C.cx d) fr (J4 cx.next q.1.length) q.2 ie iifs z D0 n) H2 s') (λn s' c=>by
  refine c.elim λ_ c=>c.elim λ_ c=>c.elim λ_ c=>c.elim λ_ c=>c.elim λ_ c=>c.elim λ_ c=>?_;cases n with
  |zero=>exact af c.lp
  |succ n=>exact Bf rfl O.t O.o O.ifs O.eh (λhns l S r hl hv=>p.yt O.o hn hcl (k':=(k.ext (N,_)).ext (I,_)) rfl (.tail _ (.head _)) hns (le.trans l) S r hl hv) hD c (λc=>⟨n,JT n,_,_,_,_,_,_,c⟩) hE) m ⟨_,_,0,io,oN,_,.refl _,S4,hns,R2,⟨rfl,rfl⟩,lp⟩
def EF {Y:kX C d 2}{g:Comprehension}{ie ii:Ex}{iifs:List Ex} (O:c9 C d cx g sc eh q ie ii iifs) (hn:Up cx) (p:Pl Y cx env k mE fr w H s) 
  (ev:eval (C.cx d) (.comp ie (J4 cx.next q.1.length) q.2 ii iifs) fr H=Qa r) {use:Option (Value->Sem Unit)}{Q:Value->Qf->Prop}{E:Value->Qf->Prop}
  (hpost: ∀w' D N oN mN s',w.le w'->St Y (k.ext (N,oN)) w' r.2 s'->nu oN mN->jV C w' r.1 (.ref D) ->qN s s'->compPost C.M Y.A E use Q (.ref D) N (.ok .next) s'):
  Qi C.M Y.A (comprehension (.ListComp eh [g] sc pos) sc env ps (newList []) Qb (PySem.eval g.iter env) use) Q E s:=by
 have as:=O.as;have Os:=O.o;obtain⟨t,it,ifs,a⟩:=g;subst (as:a=0)
 revert ev
 refine jW λv H1 ev1=>j9 λz hz=>jW λ_ H2 lp e=>?_;obtain rfl:=Qa.inj e;obtain⟨cl,hclos,hcl⟩:=Ak (scope:=sc) (env:=env) λx hx hf=>by
  refine(p.b.cells x.1 (Os.free x hx hf).2).elim λc zq11=>zq11.elim λ_ zq12=>zq12.elim λ_ zq13=>?_;rw[zq13.1];rfl
 refine wpAny_comprehension_free rfl (O.it.sy.za env) hclos Os.kind (λx hx hl=>(Os.ju x hx hl).1) (O.it.es Y env k mE fr w H s p _ ev1 _ _ λw1 a1 s1 n1 r1=>LN n1.st r1 (λI io h2 S2 R2=>?_) hz);obtain⟨all,hnn,add,_,_⟩:=S2.dj;refine Qu (wpAny_newFunctionEnv Os.qw (by intro y hy;simp at hy) (λh₁ hns₁ hsb₁=>?_) Os.kind);have le2:w1.le ⟨w1.σ++ [h2.objs.size],w1.tp⟩:=⟨J6 _ _,λ_ x=>x⟩;have S3:=add _ (.list []) [(h2.objs.size,listOf ([]:List Value).toArray 0)] _ ⟨[],0,rfl,.nil,Jy _⟩ (S2.fr.push _) (hnn.push S2.fr _) (o8 _) (News.gy hnn λp hp=>JE.mp hp▸Jv _) (S2.pa (Jv _));have hD:(w1.σ++ [h2.objs.size])[H1.length]?=Qa h2.objs.size:=by rw[<-S2.len];exact Zr
 refine Zv hns₁ λoN zq8=>zq8.elim λesN zq9=>zq9.elim λepN zq10=>?_;have S4 := (S3.jc { cls := .type "dict",data := .dict #[] } rfl).jb hsb₁ zq10.1;have hns:nu oN (λx=>qa3 x ([]:List (Str×Value)).reverse):=⟨esN,epN,zq10.2⟩;have loop:=λ(s4:Qf) (hs4:s4.heap=h₁) (sm4:qN s s4)=>Bg (pos:=pos) (s4:=s4) (R:=compPost C.M Y.A E use Q _ _) O hn hcl (p.next n1) le2 hD (by rw[St,hs4];exact S4.kr) hns (R2.mono le2) lp λle S hns sm=>hpost _ _ _ _ _ _ ((n1.le.trans le2).trans le) S hns ⟨_,rfl,le.get hD⟩ (sm4.trans sm);exact codeAny_compStart_list (loop _ rfl ⟨n1.cb.1,n1.cb.2⟩) (Gn (s:={s1 with heap:=h₁,toks:=_}) (bw.ff (bw.kr S4)).1 R2 (loop _ rfl ⟨n1.cb.1,n1.cb.2⟩))
theorem lO {e:Expr} (h1: ∀rest env,starEach (e::rest) env=(Qb,PySem.eval e env)::starEach rest env) (h2: ∀o i,subscripted e Qb o i=operate [o,i] (getItem o i)) (h3: ∀op,behindInMarks op e=Qb) (h4: ∀env x,foldedSetIterable e env x=pure x) (h5: ∀t n env,swapsWith e t n env=pure Qb):Sy e:=⟨h1,h2,h3,h4,λ_=>h5⟩
theorem Sd.of {e:Expr}{ir:Ex} (h:mV C d cx e ir) (he: ∀ (env:Env) (whole:Sem Value),PySem.isTrue e env whole=(do let v<-whole;standAt e.pos;holding [v] (PySem.truthy v))) (sy:Sy e):Sd C d cx e ir:=⟨h,DB h he,sy⟩
def z5 (O:nC C gl) (hC:oY C d): ∀ (n:Nat) (cx:CC),NT C cx.gl->Up cx-> ∀ (e:Expr) (ir:Ex),lQ n cx e=Qa ir->Sd C d cx e ir:=by
 intro n
 induction n with
 |zero=>exact λcx _ _ e ir h=>af h
 |succ n ih'=>
  intro cx hg hcc e ir;have ih:=ih' cx hg hcc;have ihs: ∀ {es irs},oG (lQ n cx) es=Qa irs->lx C d cx es irs:=λh=>(rA h).mono ih;cases e with
  |Constant c m pos=>exact lA λv hv e=>e▸ .of (Fm hv) (λ_ _=>rfl) (lO (λ_ _=>rfl) (λ_ _=>rfl) (λ_=>rfl) (λ_ _=>rfl) (λ_ _ _=>rfl))
  |Name x pos=>exact λh=> .of (LM hg h) (λ_ _=>rfl) (lO (λ_ _=>rfl) (λ_ _=>rfl) (λ_=>rfl) (λ_ _=>rfl) (λ_ _ _=>rfl))
  |BoolOp op vs pos=>
   exact lA λirs hi e=>e▸ ⟨λY env k mE fr w H s p=>OV (pos:=pos) (ihs hi) Y env k mE fr w H s p,λY env k mE fr w H s p r e Q E hq=>wpAny_isTrue_BoolOp (B7 (ihs hi) Y env k mE fr w H s p r e Q E hq),lO (λ_ _=>rfl) (λ_ _=>rfl) (λ_=>rfl) (λ_ _=>rfl) (λ_ _ _=>rfl)⟩
  |BinOp l op r pos=>
   exact j9 λo ho=>j9 λa ha=>lA λb hb e=>e▸ .of (OW ho (ih _ _ ha).es (ih _ _ hb).es) (λ_ _=>rfl) (lO (λ_ _=>rfl) (λ_ _=>rfl) (λ_=>rfl) (λ_ _=>rfl) (λ_ _ _=>rfl))
  |UnaryOp op x pos=>
   refine mS λho=>lA λa ha e=>e▸?_;cases op with
   |Not=>exact⟨ON (ih _ _ ha).es,B5 (ih _ _ ha).ts,lO (λ_ _=>rfl) (λ_ _=>rfl) (λ_=>rfl) (λ_ _=>rfl) (λ_ _ _=>rfl)⟩
   |_=>cases ho
  |IfExp t x y pos=>
   exact j9 λa ha=>j9 λb hb=>lA λc hc e=>e▸ ⟨OS (ih _ _ ha).ts (ih _ _ hb).es (ih _ _ hc).es,B6 (ih _ _ ha).ts (ih _ _ hb).ts (ih _ _ hc).ts,lO (λ_ _=>rfl) (λ_ _=>rfl) (λ_=>rfl) (λ_ _=>rfl) (λ_ _ _=>rfl)⟩
  |List es pos=>exact mS λhl=>lA λirs hi e=>e▸ .of (Cv (ihs hi) hl) (λ_ _=>rfl) (lO (λ_ _=>rfl) (λ_ _=>rfl) (λ_=>rfl) (λ_ _=>rfl) (λ_ _ _=>rfl))
  |Tuple es m pos=>exact mS λhl=>lA λirs hi e=>e▸ .of (Ff (ihs hi) hl) (λ_ _=>rfl) (lO (λ_ _=>rfl) (λ_ _=>rfl) (λ_=>rfl) (λ_ _=>rfl) (λ_ _ _=>rfl))
  |Compare l ops cs pos=>
   intro h;obtain⟨o,rfl,h⟩:=WL h;obtain⟨r,rfl,h⟩:=WL h
   revert h
   exact j9 λa ha=>lA λb hb e=>e▸ ⟨LR O.ip (ih _ _ ha).es (ih _ _ hb),Gi O.ip (ih _ _ ha).es (ih _ _ hb),lO (λ_ _=>rfl) (λ_ _=>rfl) (λ_=>rfl) (λ_ _=>rfl) (λ_ _ _=>rfl)⟩
  |Call f as ks pos=>
   refine mS λhk=>j9 λirs hi h=>?_;cases ks with
   |cons _ _=>cases (Jm.mp hk).1
   |nil=>
    refine .of ?_ (λ_ _=>rfl) (lO (λ_ _=>rfl) (λ_ _=>rfl) (λ_=>rfl) (λ_ _=>rfl) (λ_ _ _=>rfl))
    revert h
    refine lJ (j9 λp hp=>lA λg hgn e=>?_) (j9 λp hp=>mS λhc=>lA λg hgn e=>?_)
    ·rw[<-e,qM hp]
     exact Gq O hC (ihs hi) (LM hg hgn)
    ·have hc:=Jm.mp hc
     rw[<-e,VC hp];exact Gr O hC (ihs hi) (Zf.mp (Jm.mp hk).2) (ih _ _ hgn).es (Jm.mp hc.1).1 (Jm.mp hc.1).2 hc.2
  |Attribute v nm pos=>
   exact mS λhc=>lA λa ha e=>e▸ .of (CD O (ih _ _ ha).es (Jm.mp hc).1 (Jm.mp hc).2) (λ_ _=>rfl) (lO (λ_ _=>rfl) (λ_ _=>rfl) (λ_=>rfl) (λ_ _=>rfl) (λ_ _ _=>rfl))
  |Subscript v sl pos=>
   intro h;refine .of ?_ (λ_ _=>rfl) (lO (λ_ _=>rfl) (λ_ _=>rfl) (λ_=>rfl) (λ_ _=>rfl) (λ_ _ _=>rfl));have h:JC (motive:=λ_=>Option Ex) (xP sl) ((lQ n cx v).bind λe=>(lQ n cx sl).map λi=> .sub e i) (λp=>au ((qA v).isSome && p.2.2.1.isNone) ((lQ n cx v).bind λe=>(La (lQ n cx) p.1 p.2.1).map λq=> .slice e q.1 q.2))=Qa ir:=h;refine FH (xP sl) (λhs=>?_) λp hs=>?_
   ·rw[hs] at h
    revert h
    exact j9 λa ha=>lA λb hb e=>e▸OM (ih _ _ ha).es (ih _ _ hb)
   ·rw[hs] at h
    revert h
    refine mS λhc=>j9 λa ha=>lA λq hq e=>?_;simp only[<-e,Bq hs,Ki.mp (Jm.mp hc).2];exact Fh (Jm.mp hc).1 (ih _ _ ha).es ih hq
  |Dict ks vs pos=>
   refine mS λhl=>j9 λia ha=>lA λib hb e=>e▸?_;exact .of (CA ((rA ha).mono λo i h=>(bs h).elim λe h=>⟨e,h.1,ih _ _ h.2⟩) (ihs hb) (beq_iff_eq.mp hl)) (λ_ _=>rfl) (lO (λ_ _=>rfl) (λ_ _=>rfl) (λ_=>rfl) (λ_ _=>rfl) (λ_ _ _=>rfl))
  |ListComp eh gens sc pos=>
   intro h;obtain⟨g,rfl,h⟩:=WL h
   revert h
   refine j9 λq hq=>mS λhc=>j9 λii hi=>j9 λiifs hf=>lA λie he e=>e▸?_;refine .of (λY env k mE fr w H s p r ev Q E hQ=>?_) (λ_ _=>rfl) ⟨λ_ _=>rfl,λ_ _=>rfl,λ_=>rfl,λ_ _=>rfl,λq=>JH q⟩;obtain⟨t,it,ifs,a⟩:=g;have ha:a=0:=beq_iff_eq.mp (Jm.mp hc).1;subst ha;simp only[eval_ListComp];refine EF (⟨beq_iff_eq.mp (Jm.mp hc).1,hq,A5 (Jm.mp hc).2,ih _ _ hi,(ih' (cg cx sc q.1) hg (hcc.cg sc q.1)) _ _ he,(rA hf).mono (ih' (cg cx sc q.1) hg (hcc.cg sc q.1))⟩) hcc p ev λw' D N oN mN s' le S' hns r' sm=>?_;refine Zv hns λes zq1=>zq1.elim λep zq2=>?_;exact⟨mN,⟨oN,es,ep,S'.ff.1,zq2⟩,λh' hs=>hQ w' _ {s' with heap:=h'} ⟨le,S'.gp hs.extBut,sm.1,sm.2⟩ r'⟩
  |_=>exact λh=>af h
end
inductive um (C:bf) (w:Wd):Fl->Jj->Prop
 |nx:um C w .nx .next
 |bk:um C w .bk .brk
 |ct:um C w .ct .cont
 |rt {v:ab}{rv:Value}:jV C w v rv->um C w (.rt v) (.ret rv)
structure zfP (cx:CC) (env:Env) (L:Qj):Prop where
 kind:env.scope.kind= .function
 gl:env.globals=mainGlobals
 bl:env.builtins=builtinsNs
 sc:env.scope.names=cx.sc
 cells: ∀x,cx.sc.lookup x=Qa .cell-> ∃c,env.cells.lookup x=Qa c
 cI: ∀x y c,cx.sc.lookup x=Qa .cell->cx.sc.lookup y=Qa .cell->env.cells.lookup x=Qa c->env.cells.lookup y=Qa c->x=y
 ju:env.locals=L
 inj: ∀x y i,nS cx x=Qa i->nS cx y=Qa i->x=y
def ziJ (cx:CC) (env:Env) (ce:bp):Prop:= ∀x c,cx.sc.lookup x=Qa .cell->env.cells.lookup x=Qa c-> ∃o v₀,(c,o)∈ce/\o.data= .cell v₀
structure ja {C:bf}{d e:Nat} (Y:kX C d e) (cx:CC) (env:Env) (k:Kp) (fr:Frame) (w:Wd) (H:MH) (s:Qf):Prop where
 b:zfP cx env Y.L
 c:ziJ cx env k.ce
 f:zfO C w cx env k.ce k.m fr
 st:St Y k w H s
theorem ja.pl {cx:CC}{fr:Frame} (p:ja Y cx env k fr w H s):Pl Y cx env k k.m fr w H s:=
 ⟨⟨p.b.kind,p.b.gl,p.b.bl,p.b.sc,λx h=>(p.b.cells x h).elim λc hc=>(p.c x c h hc).elim λo h=>h.elim λv₀ h=>⟨c,o,v₀,hc,h.1,h.2⟩,.inl ⟨p.b.ju,rfl⟩⟩,p.f,p.st⟩
theorem ja.next {cx:CC}{fr:Frame} (p:ja Y cx env k fr w H s) (n:jd Y k w w' H' s s'):ja Y cx env k fr w' H' s':=⟨p.b,p.c,λx i v a b=>(p.f x i v a b).mono n.le,n.st⟩
structure nt {C:bf}{d e:Nat} (Y:kX C d e) (cx:CC) (env:Env) (ex:bp) (w:Wd) (s:Qf) (k':Kp) (fr':Frame) (w':Wd) (H':MH) (s':Qf):Prop where
 ex:k'.ex=ex
 le:w.le w'
 pl:ja Y cx env k' fr' w' H' s'
 cb:qN s s'
variable {ex:bp}{w1 w2:Wd}{k1 k2:Kp}{fr1 fr2:Frame}{H1 H2:MH}
theorem nt.trans {cx:CC} (a:nt Y cx env ex w s k1 fr1 w1 H1 s1) (b:nt Y cx env k1.ex w1 s1 k2 fr2 w2 H2 s2):nt Y cx env ex w s k2 fr2 w2 H2 s2:=⟨b.ex.trans a.ex,a.le.trans b.le,b.pl,a.cb.trans b.cb⟩
theorem ja.nx {cx:CC}{fr:Frame} (p:ja Y cx env k fr w H s) (n:jd Y k w w' H' s s'):nt Y cx env k.ex w s k fr w' H' s':=⟨rfl,n.le,p.next n,n.cb⟩
theorem ja.rf {cx:CC}{fr:Frame} (p:ja Y cx env k fr w H s):nt Y cx env k.ex w s k fr w H s:=⟨rfl,.refl w,p,.refl s⟩
def eZ {C:bf}{d e:Nat} (Y:kX C d e) (cx:CC) (env:Env) (ex:bp) (t:Sem Jj) (w:Wd) (s:Qf) (r:(Fl×Frame)×MH):Prop:=
 ∀ (Q:Jj->Qf->Prop) (E:Value->Qf->Prop),(∀k' w' f s',nt Y cx env ex w s k' r.1.2 w' r.2 s'->um C w' r.1.1 f->Q f s') ->Qi C.M Y.A t Q E s
def vS (C:bf) (d:Nat) (cx:CC) (st:Qw) (ir:Sm):Prop:=
 ∀ (Y:kX C d 2) (env:Env) (k:Kp) (fr:Frame) (w:Wd) (H:MH) (s:Qf),ja Y cx env k fr w H s-> ∀r,exec (C.cx d) ir fr H=Qa r->eZ Y cx env k.ex (PySem.exec st env) w s r
def u5 (C:bf) (d:Nat) (cx:CC) (st:List Qw) (ir:List Sm):Prop:=
 ∀ (Y:kX C d 2) (env:Env) (k:Kp) (fr:Frame) (w:Wd) (H:MH) (s:Qf),ja Y cx env k fr w H s-> ∀r,execs (C.cx d) ir fr H=Qa r->eZ Y cx env k.ex (PySem.execs st env) w s r
section
variable {cx:CC}{fr:Frame}
def UZ (ce:bp) (c:Qj) (o:Obj):bp:=ce.map λp=>if p.1=c then(c,o) else p
def Bk (ce:bp) (c:Qj) (o:Obj):(UZ ce c o).map (·.1)=ce.map (·.1):=by
 delta UZ;rw[Kw]
 apply ZI
 intro p _;show (if p.1=c then(c,o) else p).1=p.1;split
 ·rename_i h;exact h.symm
 ·rfl
def bw.ya {o':Obj} (S:bw C h₀ L k w H h) (hc:(c,o)∈k.ce) (hs:Heap.SameBut c h h') (ho:h'.get? c=Qa o'):bw C h₀ L {k with ce:=UZ k.ce c o'} w H h':=by
 obtain⟨os,he,hn,hd⟩:=S.os;have g:=hn (c,o) (JR _ (JR _ (ZQ _ hc)));have hp: ∀ce:bp,({k with ce:=ce}:Kp).all w os|>.Perm (ce++(os.flatten++(w.tp++k.ex))):=λce=>
  (List.Perm.append_left os.flatten (KB w.tp ce k.ex)).trans (KB os.flatten ce (w.tp++k.ex))
 have hd1:=bp.nd.jf (hp k.ce) hd;unfold bp.nd at hd1;have hd2:=hd1;rw[JU,Kq] at hd2;refine⟨Fr.sameBut S.fr hs g.2,⟨os,he,λp hpm=>?_,bp.nd.jf (hp _).symm ?_⟩,S.ol,S.lo⟩
 ·rcases Zd.mp ((hp _).mem_iff.mp hpm) with hpm|hpm
  ·refine(JJ.mp hpm).elim λq zq14=>?_
   have e:=zq14.2;by_cases hqc:q.1=c
   ·rw[if_pos hqc] at e
    rw[<-e];exact⟨ho,g.2⟩
   ·rw[if_neg hqc] at e
    rw[<-e]
    have:=hn q (JR _ (JR _ (ZQ _ zq14.1)))
    exact⟨(hs.2 q.1 hqc).trans this.1,this.2⟩
  ·have:=hn p ((hp k.ce).mem_iff.mpr (JR _ hpm))
   exact⟨(hs.2 p.1 λe=>hd2.2.2 c (JJ.mpr ⟨_,hc,rfl⟩) p.1 (JJ.mpr ⟨_,hpm,rfl⟩) e.symm).trans this.1,this.2⟩
 ·delta bp.nd
  rw[JU,Bk,<-JU];exact hd1
def qU (p:ja Y cx env k fr w H s) {v:ab} (hi:nS cx x=Qa i) (r:jV C w v rv) 
  (h: ∀k' s',nt Y cx env k.ex w s k' (fr.set i (Qa v)) w H s'->Q () s'):Qi C.M A' (storeName env x rv) Q E s:=by
 have og: ∀ {y j},nS cx y=Qa j->i≠j->y≠x:=λhj hij e=>hij (by rw[e,hi] at hj;exact Qa.inj hj);rcases (zQ hi).1 with hk|hk
 ·refine QM (p.pl.b.kindOf hk) (by rw[p.b.ju];exact p.st.fr.ns) (λh' hn hs=>?_) (by rw[p.b.kind];rfl)
  rw[p.b.ju] at hn hs;obtain⟨os,he,hnn,hd⟩:=p.st.os;refine h {k with m:=λy=>if y=x then Qa rv else k.m y} _ ⟨rfl,.refl w,⟨p.b,p.c,λy j u hj hu=>?_,p.st.fr.set hn hs,⟨os,he,hnn.set hs,hd⟩,p.st.ol,p.st.lo⟩,rfl,rfl⟩;rcases CG hu with ⟨rfl,rfl⟩| ⟨hij,hu'⟩
  ·cases p.b.inj y x _ hj hi
   exact .ju rv hk (if_pos rfl) r
  ·cases p.f y j u hj hu' with
   |ju rv' h1 h2 h3=>exact .ju rv' h1 ((if_neg (og hj hij)).trans h2) h3
   |cell rv' c o h1 h2 h3 h4 h5=>exact .cell rv' c o h1 h2 h3 h4 h5
 ·refine(p.b.cells x hk).elim λc zq13=>?_
  have hc:=zq13;refine(p.c x c hk hc).elim λo zq11=>zq11.elim λv₀ zq12=>?_;refine wpAny_storeName_cell p.b.kind (p.pl.b.kindOf hk) hc ⟨o,p.st.zb zq12.1,zq12.2⟩ λh' hv hs=>?_;refine Zv hv λo' zq10=>?_;have hmem: ∀ {y cy oy},cx.sc.lookup y=Qa .cell->env.cells.lookup y=Qa cy->(cy,oy)∈k.ce->y≠x->(cy,oy)∈UZ k.ce c o':=λ{y cy oy} hy hcy hm hyx=>
   JJ.mpr ⟨(cy,oy),hm,if_neg λe=>hyx (p.b.cI y x c hy hk (by rw[hcy];exact congrArg Qa e) hc)⟩
  have hself:(c,o')∈UZ k.ce c o':=JJ.mpr ⟨(c,o),zq12.1,if_pos rfl⟩;refine h {k with ce:=UZ k.ce c o'} _ ⟨rfl,.refl w,⟨p.b,λy cy hy hcy=>?_,λy j u hj hu=>?_,p.st.ya zq12.1 hs zq10.1⟩,rfl,rfl⟩
  ·by_cases hyx:y=x
   ·cases hyx
    rw[hc] at hcy;refine lW hcy ?_;exact⟨o',Qa rv,hself,zq10.2⟩
   ·exact(p.c y cy hy hcy).elim λoy zq8=>zq8.elim λvy zq9=>⟨oy,vy,hmem hy hcy zq9.1 hyx,zq9.2⟩
  ·rcases CG hu with ⟨rfl,rfl⟩| ⟨hij,hu'⟩
   ·cases p.b.inj y x _ hj hi
    exact .cell rv c o' hk hc hself zq10.2 r
   ·cases p.f y j u hj hu' with
    |ju rv' h1 h2 h3=>exact .ju rv' h1 h2 h3
    |cell rv' cy oy h1 h2 h3 h4 h5=>exact .cell rv' cy oy h1 h2 (hmem h1 h2 h3 (og hj hij)) h4 h5
theorem Cq:u5 C d cx [] []:=λY env k fr w H s p r e=>by
 refine lW e ?_;exact λQ E hq=>QG (hq k w .next s p.rf .nx)
def Fd {r:List Qw}{i:Sm}{is:List Sm} (h1:vS C d cx st i) (h2:u5 C d cx r is):u5 C d cx (st::r) (i::is):=by
 intro Y env k fr w H s p r;refine jW λq H1 e1 e Q E hq=>wpAny_execs_cons (h1 Y env k fr w H s p _ e1 _ _ λk1 w1 f s1 n1 r1=>?_);obtain⟨fl,fr1⟩:=q;cases r1 with
 |nx=>exact h2 Y env k1 fr1 w1 H1 s1 n1.pl _ e _ _ λk2 w2 f2 s2 n2 r2=>hq k2 w2 f2 s2 (n1.trans n2) r2
 |bk=>obtain rfl:=Qa.inj e;exact hq k1 w1 .brk s1 n1 .bk
 |ct=>obtain rfl:=Qa.inj e;exact hq k1 w1 .cont s1 n1 .ct
 |rt h=>obtain rfl:=Qa.inj e;exact hq k1 w1 _ s1 n1 (.rt h)
def Cs (hcc:Up cx) {v:Expr}{iv:Ex} (hi:nS cx x=Qa i) (hv:Sd C d cx v iv) (hL: ∀ {eh gens sc cp},v= .ListComp eh gens sc cp-> ∃g q ie ii iifs,gens= [g]/\c9 C d cx g sc eh q ie ii iifs/\iv= .comp ie (J4 cx.next q.1.length) q.2 ii iifs):vS C d cx (.Assign [.Name x xp] v pos) (.fq (.nm i) iv):=by
 intro Y env k fr w H s p r;show bx (eval (C.cx d) iv fr H) (λv h1=>bx (LA (C.cx d) fr h1 v (.nm i)) λfr' h2=>Qa ((.nx,fr'),h2))=Qa r->_;refine jW λu H1 e1 e=>?_;refine lW e ?_;intro Q E hq;have plain:swapsWith v (Qa (.Name x xp)) pos.line env=pure Qb->Qi C.M Y.A (PySem.exec (.Assign [.Name x xp] v pos) env) Q E s:=λhsw=>
  wpAny_Assign_Name (hv.es Y env k k.m fr w H s p.pl _ e1 _ _ λw1 a1 s1 n1 r1=>qU (p.next n1) hi r1 λk' s' n2=>hq k' w1 .next s' ((p.nx n1).trans n2) .nx) hsw
 refine xO (p5 v) (λhc=>?_) λhc=>?_
 ·clear hv
  cases v with
  |ListComp eh gens sc cpos=>
   obtain⟨b,hb⟩: ∃b,swapsWith (.ListComp eh gens sc cpos) (Qa (.Name x xp)) pos.line env=pure b:=⟨_,rfl⟩;cases b with
   |false=>exact plain hb
   |true=>
    obtain⟨g,q,ie,ii,iifs,rfl,P,rfl⟩:=hL rfl;obtain⟨t,it,ifs,a⟩:=g;cases P.as;rw[exec_Assign_Name_used _ _ _ _ hb];refine Qc (Qm (Qc ?_));refine Qc (Qo (EF (use:=Qa (assign (.Name x xp) env)) (Q:=λ_ s'=>Q .next s') P hcc p.pl e1 λw1 D N oN mN s1 le S1 hns r1 sm1=>?_) (λ_ s' hq=>Qg (Qg hq)) λ_ _ e=>e);refine PySem.wpAny_assign_Name (qU (⟨p.b,p.c,λx i v a b=>(p.f x i v a b).mono le,S1⟩:ja Y cx env (k.ext (N,oN)) fr w1 H1 s1) hi r1 λk' s' n2=>?_);refine Zv hns λes zq1=>zq1.elim λep zq2=>?_;obtain⟨ce',ex',m'⟩:=k';cases n2.ex;exact⟨mN,⟨oN,es,ep,bw.ff (k:=⟨ce',k.ex,m'⟩) n2.pl.st|>.1,zq2⟩,λh'' hs=>hq ⟨ce',k.ex,m'⟩ w1 .next {s' with heap:=h''} ⟨rfl,le,⟨n2.pl.b,n2.pl.c,n2.pl.f,bw.gp (k:=⟨ce',k.ex,m'⟩) n2.pl.st hs.extBut⟩,(sm1.trans n2.cb).1,(sm1.trans n2.cb).2⟩ .nx⟩
  |_=>cases hc
 ·exact plain (hv.sy.swap hc _ _ _)
def Cp {v:Expr}{iv:Ex} (hv:mV C d cx v iv):vS C d cx (.Return (Qa v) pos) (.ret iv):=by
 intro Y env k fr w H s p r;show bx (eval (C.cx d) iv fr H) (λv h1=>Qa ((.rt v,fr),h1))=Qa r->_;refine jW λu H1 e1 e=>?_;refine lW e ?_;exact λQ E hq=>wpAny_Return_some (hv Y env k k.m fr w H s p.pl _ e1 _ _ λw1 a1 s1 n1 r1=>hq k w1 _ s1 (p.nx n1) (.rt r1))
def Fb:vS C d cx (.Return Qd pos) (.ret (.lit .none)):=by
 intro Y env k fr w H s p r e;refine lW e ?_;exact λQ E hq=>wpAny_Return_none (hq k w _ s p.rf (.rt rfl))
def OJ {x y:List Qw}{it:Ex}{ix iy:List Sm} (ht:zM C d cx t it) (hx:u5 C d cx x ix) (hy:u5 C d cx y iy):vS C d cx (.If t x y pos) (.ite it ix iy):=by
 intro Y env k fr w H s p r;show bx (l7 (eval (C.cx d) it fr H)) (λr h1=>bif r then execs (C.cx d) ix fr h1 else execs (C.cx d) iy fr h1)=Qa r->_;refine jW λb H1 e1 e Q E hq=>wpAny_If (ht Y env k k.m fr w H s p.pl _ e1 _ _ λw1 a1 s1 n1 r1=>?_);rw[show a1=b from r1];cases b with
 |true=>exact hx Y env k fr w1 H1 s1 (p.next n1) _ e _ _ λk2 w2 f2 s2 n2 r2=>hq k2 w2 f2 s2 ((p.nx n1).trans n2) r2
 |false=>exact hy Y env k fr w1 H1 s1 (p.next n1) _ e _ _ λk2 w2 f2 s2 n2 r2=>hq k2 w2 f2 s2 ((p.nx n1).trans n2) r2
inductive zfM {C:bf}{d e:Nat} (Y:kX C d e) (cx:CC) (env:Env) (ex:bp) (w0:Wd) (s0:Qf) (F:Frame->MH->SR) (r:(Fl×Frame)×MH) (s:Qf):Prop
 |mk (k:Kp) (fr:Frame) (w:Wd) (H:MH) (n:nt Y cx env ex w0 s0 k fr w H s) (lp:F fr H=Qa r):zfM Y cx env ex w0 s0 F r s
def DH {it:Ex}{ib:List Sm} (ht:zM C d cx t it) (hb:u5 C d cx b ib):vS C d cx (.While t b [] pos) (.wh it ib):=by
 intro Y env k fr w H s p r ev Q E hq;refine wpAny_While (codeAny_whileLoop (λn s'=>zfM Y cx env k.ex w s (WY (λfr h=>l7 (eval (C.cx d) it fr h)) (λfr h=>execs (C.cx d) ib fr h) n) r s') ?_ (C.cx d).cn ⟨k,fr,w,H,p.rf,ev⟩)
 rintro n s' ⟨k1,fr1,w1,H1,n1,lp⟩
 cases n with
 |zero=>exact af lp
 |succ n=>
  revert lp
  refine jW λc H2 e2 lp=>ht Y env k1 k1.m fr1 w1 H1 s' n1.pl.pl _ e2 _ _ λw2 a2 s2 n2 r2=>?_;simp only[show a2=c from r2];have n2':=n1.trans (n1.pl.nx n2);cases c with
  |false=>
   obtain rfl:=Qa.inj lp;rw[if_neg Za];exact QG (hq k1 w2 .next s2 n2' .nx)
  |true=>
   rw[if_pos rfl]
   revert lp
   show bx (execs (C.cx d) ib fr1 H2) (λp h2=>Fl.casesOn (motive:=λ_=>SR) p.1 (WY (λfr h=>l7 (eval (C.cx d) it fr h)) (λfr h=>execs (C.cx d) ib fr h) n p.2 h2) (Qa ((.nx,p.2),h2)) (WY (λfr h=>l7 (eval (C.cx d) it fr h)) (λfr h=>execs (C.cx d) ib fr h) n p.2 h2) (λv=>Qa ((.rt v,p.2),h2)))=Qa r->_;refine jW λq H3 e3 lp=>hb Y env k1 fr1 w2 H2 s2 n2'.pl _ e3 _ _ λk3 w3 f3 s3 n3 r3=>?_;obtain⟨fl,fr3⟩:=q;cases r3 with
   |nx=>exact⟨n,JT n,k3,fr3,w3,H3,(n2'.trans n3),lp⟩
   |ct=>exact⟨n,JT n,k3,fr3,w3,H3,(n2'.trans n3),lp⟩
   |bk=>obtain rfl:=Qa.inj lp;exact hq k3 w3 .next s3 (n2'.trans n3) .nx
   |rt h=>obtain rfl:=Qa.inj lp;exact hq k3 w3 _ s3 (n2'.trans n3) (.rt h)
end
def Fx {v:ab}: ∀ (is:List Nat) (vs:List ab) (fr:Frame),i∉is->(uG is vs fr).set i (Qa v)=uG is vs (fr.set i (Qa v)):=by
 intro is
 induction is with
 |nil=>exact λvs fr _=>rfl
 |cons j is ih=>
  intro vs fr h;cases vs with
  |nil=>rfl
  |cons u vs=>
   show (uG is vs (fr.set j (Qa u))).set i (Qa v)=uG is vs ((fr.set i (Qa v)).set j (Qa u));rw[ih vs _ λq=>h (.tail _ q),List.set_comm _ _ λq:j=i=>h (q▸ .head _)]
def CR: ∀ (is:List Nat) (vs:List ab) (i:Nat) (v:ab) (fr:Frame),is.length=vs.length->uG (is++ [i]) (vs++ [v]) fr=(uG is vs fr).set i (Qa v):=by
 intro is
 induction is with
 |nil=>intro vs i v fr h;cases ZO.mp h.symm;rfl
 |cons j is ih=>
  intro vs i v fr h;cases vs with
  |nil=>cases h
  |cons u vs=>exact ih vs i v _ (ZP.inj h)
def CQ: ∀ (is:List Nat) (vs:List ab) (fr:Frame),is.Nodup->is.length=vs.length->uG is.reverse vs.reverse fr=uG is vs fr:=by
 intro is
 induction is with
 |nil=>intro vs fr _ h;cases ZO.mp h.symm;rfl
 |cons i is ih=>
  intro vs fr hd h;cases vs with
  |nil=>cases h
  |cons v vs=>
   rw[KJ,KJ,CR _ _ _ _ _ (by rw[Yz,Yz];exact ZP.inj h),ih vs fr (JI.mp hd).2 (ZP.inj h),Fx is vs fr (JI.mp hd).1];rfl
section
variable {cx:CC}{fr:Frame}
def jU.reverse: ∀ {ms:List ab}{vs:List Value},jU C w ms vs->jU C w ms.reverse vs.reverse:=by
 intro ms
 induction ms with
 |nil=>intro vs h;refine eqB h ?_;exact .nil
 |cons m ms ih=>intro vs h;obtain⟨v,r,rfl,h,h'⟩:=h;rw[KJ,KJ];exact jU.append (.da h) (ih h')
def lV.reverse {R:α->β->Prop}{as:List α}{bs:List β} (h:lV R as bs):lV R as.reverse bs.reverse:=by
 have bz: ∀ {as:List α}{bs:List β}{a b},lV R as bs->R a b->lV R (as++ [a]) (bs++ [b]):=λh hab=>by
  induction h with
  |nil=>exact .cons hab .nil
  |cons x _ ih=>exact .cons x ih
 induction h with
 |nil=>exact .nil
 |cons x _ ih=>rw[KJ,KJ];exact bz ih x
abbrev sS (cx:CC) (x:Str) (i:Nat):Prop:=nS cx x=Qa i
def xY: ∀ {xs:List Str}{is:List Nat}{fs:List (Value->Sem Unit)},lV (sS cx) xs is->lV (GQ env) xs fs-> ∀ {mvs:List ab}{vs:List Value}{k:Kp}{fr:Frame}{s:Qf}{Q:Unit->Qf->Prop}{E:Value->Qf->Prop},
  jU C w mvs vs->mvs.length=is.length->ja Y cx env k fr w H s->(∀k' s',nt Y cx env k.ex w s k' (uG is mvs fr) w H s'->Q () s') ->Qi C.M Y.A (assignInOrder fs vs) Q E s:=by
 intro xs is fs hi
 induction hi generalizing fs with
 |nil=>
  intro hf mvs vs k fr s Q E r hl p h;cases hf;cases ZO.mp hl;subst r;exact Qg (h k s p.rf)
 |cons hi _ ih=>
  intro hf mvs vs k fr s Q E r hl p h;cases hf with
  |cons hf vb=>
   cases mvs with
   |nil=>cases hl
   |cons mv mvs=>
    obtain⟨v,t,rfl,hv,r⟩:=r;show Qi C.M Y.A (do holding _ _;assignInOrder _ _) Q E s;exact Qc (Qk (hf _ _ _ _ _ _ (qU p hi hv λk1 s1 n1=>ih vb r (ZP.inj hl) n1.pl λk2 s2 n2=>h k2 s2 (n1.trans n2))))
def An: ∀ (xs:List Str),lV (GQ env) xs (xs.map λn=>bindName env n):=by
 intro xs
 induction xs with
 |nil=>exact .nil
 |cons x xs ih=>exact .cons (λ_ _ _ _ _ _ z=>wpAny_bindName z) ih
theorem AZ {is:List Nat} (h:oG (Gs cx) xs=Qa is):lV (sS cx) xs is:=(rA h).mono λ_ _ h=>(gs h).2
def CE (B:zfP cx env Y.L) {is:List Nat} (h:lV (sS cx) xs is):xs.Nodup->is.Nodup:=by
 have mem: ∀ {xs:List Str}{is:List Nat},lV (sS cx) xs is-> ∀i∈is,∃y∈xs,nS cx y=Qa i:=λh=>by
  induction h with
  |nil=>exact λi hi=>absurd hi JB
  | @cons x j _ _ h _ ih=>
   intro i hi;rcases JM.mp hi with rfl|hi
   ·exact⟨x,.head _,h⟩
   ·obtain⟨y,hy,e⟩:=ih i hi;exact⟨y,.tail _ hy,e⟩
 induction h with
 |nil=>exact λ_=> .nil
 | @cons x i xs is h1 h2 ih=>
  intro hd;have hd:=JI.mp hd;exact JI.mpr ⟨λhi=>(mem h2 i hi).elim λy zq13=>hd.1 (B.inj x y i h1 zq13.2▸zq13.1),ih hd.2⟩
def Ha (F:Expr->Option Str) (kk:Str->Pos->Bool) (hF: ∀i p,F (.Name i p)=if kk i p then Qa i else Qd) {es:List Expr} (h:lV (λe x=>qY e=Qa x) es xs):(es.filterMap F).length=es.length->es.filterMap F=xs:=by
 induction h with
 |nil=>exact λ_=>rfl
 | @cons e x es xs h _ ih=>
  intro hl;obtain⟨p,hp,rfl⟩:=ms h;cases qM hp;rw[KO,hF] at hl ⊢;refine xO (kk p.1 p.2) (λhk=>?_) λhk=>?_
  ·rw[hk]
   rw[hk] at hl;exact congrArg (KZ _) (ih (ZP.inj hl))
  ·rw[hk]
   rw[hk] at hl;exact absurd (XK F es) (qaP.mpr (YI (JT _) hl.symm))
def GN {c:Prop} [Decidable c] {a b x y:Sem α} (ha:a=x) (hb: ¬c->b=x\/b=y):(if c then a else b)=x\/(if c then a else b)=y:=by
 by_cases h:c
 ·rw[if_pos h];exact .inl ha
 ·rw[if_neg h];exact hb h
def Aa {c:Prop} [Decidable c] {a b x:Sem α} (ha:a=x) (hb: ¬c->b=x):(if c then a else b)=x:=by
 by_cases h:c
 ·rw[if_pos h];exact ha
 ·rw[if_neg h];exact hb h
def dU {a b c:Nat} (h: ¬((a !=b||c !=d)=Qe)):a=b:=by
 rw[Xi,bne_iff_ne] at h;exact Decidable.not_not.mp λq=>h (.inl q)
def Uy {es:List Expr}{v:Expr} (h:u4 v=Qd):swappedStores [.Tuple es n tpos] v env=pure none:=by cases v<;>first|rfl|cases h
def za6 {es:List Expr}{v:Expr} (hok:Uv v=Qe) (hn:lV (λe x=>qY e=Qa x) es xs):
  swappedStores [.Tuple es n tpos] v env=pure Qd\/swappedStores [.Tuple es n tpos] v env=pure (Qa xs):=by
 refine FH (u4 v) (λht=>?_) λp ht=>?_
 ·exact .inl (Uy ht)
 ·cases z4 ht
  have hok:(!p.1.all (constantsAlone 8))=true:=(Jm.mp hok).2;have hok:p.1.all (constantsAlone 8)=false:=by
   cases hq:p.1.all (constantsAlone 8) with
   |false=>rfl
   |true=>rw[hq] at hok;cases hok
  refine GN rfl λ_=>GN rfl λ_=>GN rfl λh3=>GN rfl λ_=> .inr ?_;rw[hok];exact congrArg (λz=>(pure (Qa z):Sem (Option (List Str)))) (Ha _ (λid pos=>env.kindOf id==Qa .local && pos.line==((es.head?.map (·.pos.line)).getD 0)) (λi p=>rfl) hn (dU h3))
def E6 {c:Cx}{h:MH}: ∀ {is:List Nat}{mvs:List ab}{fr:Frame}{r:Frame×MH},qT c (is.map T1.nm) mvs fr h=Qa r->mvs.length=is.length/\r=(uG is mvs fr,h):=by
 intro is
 induction is with
 |nil=>
  intro mvs fr r e;refine xA (gs e) λh1 e=>?_;refine lW e ?_;cases mvs with
  |nil=>exact⟨rfl,rfl⟩
  |cons _ _=>cases h1
 |cons i is ih=>
  intro mvs fr r e;cases mvs with
  |nil=>exact af e
  |cons v mvs=>
   have zq10:=ih (show qT c (is.map T1.nm) mvs (fr.set i (Qa v)) h=Qa r from e);exact⟨congrArg (· +1) zq10.1,zq10.2⟩
def WZ {v:ab} (S:St Y k w H s) (hv:jV C w v rv) (hi:items H v=Qa mvs) {Q:List Value->Qf->Prop} 
  (h: ∀vs h',jU C w mvs vs->bw C Y.h₀ Y.L k w H h'->Q vs {s with heap:=h'}):Qi C.M Y.A (unpackItems rv mvs.length Qd) Q E s:=by
 revert hi
 refine lJ (λe=>?_) (λe=>?_)
 ·cases tup?_s e
  obtain⟨t,o,n,ws,rfl,ho,hc,hdt,rr,_⟩:=S.ba hv;rw[rr.length,<-ZC];exact unpackItems_tuple (items:=ws.toArray) Y.handled ⟨o,ho,hc,n,hdt⟩ λh' he=>h ws h' rr (S.grown he)
 ·obtain⟨t,ws,n,rfl,ho,rr,_⟩:=S.list hv e
  rw[rr.length,<-ZC];exact kun_itemsOf Y.handled ⟨_,ho,rfl,n,rfl⟩ λh' he=>h ws h' rr (S.grown he)
theorem Wn {v:Expr}{i:Ex} (hv:Sd C d cx v i) (hok:Uv v=Qe):swapsWith v (Qa t) n env=pure false:=hv.sy.swap (by have:=(Jm.mp hok).1;cases hq:p5 v;rfl;rw[hq] at this;cases this) _ _ _
def Fe {es:List Expr}{v:Expr}{is:List Nat}{iv:Ex} (hok:Uv v=Qe) (hn:lV (λe x=>qY e=Qa x) es xs) (hnd:xs.Nodup) (hs:lV (sS cx) xs is) (hv:Sd C d cx v iv):
  vS C d cx (.Assign [.Tuple es n tpos] v pos) (.jk (is.map T1.nm) iv):=by
 intro Y env k fr w H s p r;show bx (eval (C.cx d) iv fr H) (λv h1=>(items h1 v).bind λvs=>bx (qT (C.cx d) (is.map T1.nm) vs fr h1) λfr' h2=>Qa ((.nx,fr'),h2))=Qa r->_;refine jW λu H1 e1=>j9 λmvs hm=>jW λfr' H2 e2 e=>?_;obtain⟨hl,e3⟩:=E6 e2;cases e3;refine lW e ?_;intro Q E hq;rcases za6 (env:=env) (tpos:=tpos) (n:=n) hok hn with hw|hw
 ·refine Assign_Tuple (hv.es Y env k k.m fr w H s p.pl _ e1 _ _ λw1 a1 s1 n1 r1=>?_) (by unfold swapsWithSole;exact Wn hv hok) hw
  rw[assign_Tuple];refine Qc (Qm ?_);delta unpack;rw[(nN (env:=env) hn).2.1,(nN (env:=env) hn).2.2,<-(hl.trans hs.length)];exact Qc (Qk (WZ n1.st r1 hm λvs h' rr S'=>xY hs (nN (env:=env) hn).1 rr hl (⟨p.b,p.c,(p.next n1).f,S'⟩:ja Y cx env k fr w1 H1 {s1 with heap:=h'}) λk2 s2 n2=>hq k2 w1 .next s2 ⟨n2.ex,n1.le.trans n2.le,n2.pl,n1.cb.trans ⟨n2.cb.1,n2.cb.2⟩⟩ .nx))
 ·refine Assign_Tuple_swapped (names:=xs) (hv.es Y env k k.m fr w H s p.pl _ e1 _ _ λw1 a1 s1 n1 r1=>?_) (by unfold swapsWithSole;exact Wn hv hok) hw
  rw[<-(hl.trans hs.length)];refine WZ n1.st r1 hm λvs h' rr S'=>xY hs.reverse (An xs.reverse) rr.reverse (by rw[Yz,Yz];exact hl) (⟨p.b,p.c,(p.next n1).f,S'⟩:ja Y cx env k fr w1 H1 {s1 with heap:=h'}) λk2 s2 n2=>?_;rw[CQ is mvs fr (CE p.b hs hnd) hl.symm] at n2;exact hq k2 w1 .next s2 ⟨n2.ex,n1.le.trans n2.le,n2.pl,n1.cb.trans ⟨n2.cb.1,n2.cb.2⟩⟩ .nx
abbrev Rj (C:bf) (d:Nat) (cx:CC) (e:Expr) (q:Ex×Nat):Prop:= ∃o nm pos,e= .Attribute o nm pos/\j1 nm=Qe/\q.2=dz nm/\Sd C d cx o q.1
def FJ {F:Expr->Option Str}{es:List Expr}{ts:List (Ex×Nat)} (h4:(es.filterMap F).length=es.length) (hF: ∀o nm pos,F (.Attribute o nm pos)=Qd) (h:lV (Rj C d cx) es ts) (he:es.isEmpty=Qb):False:=by
 have e:es.filterMap F= []:=by
  clear h4 he
  induction h with
  |nil=>rfl
  |cons h _ ih=>obtain⟨o,nm,pos,rfl,_⟩:=h;rw[KO,hF];exact ih
 rw[e] at h4;cases es with
 |nil=>cases he
 |cons _ _=>cases h4
def za7 {es:List Expr}{ts:List (Ex×Nat)}{v:Expr} (he:es.isEmpty=Qb) (ht:lV (Rj C d cx) es ts):swappedStores [.Tuple es n tpos] v env=pure none:=by
 refine FH (u4 v) (λhv=>?_) λp hv=>?_
 ·exact Uy hv
 ·cases z4 hv
  refine Aa rfl λ_=>Aa rfl λ_=>Aa rfl λh3=>(FJ (dU h3) (λ_ _ _=>rfl) ht he).elim
def xZ (O:nC C gl) {es:List Expr}{ts:List (Ex×Nat)} (ht:lV (Rj C d cx) es ts):(assignEach es env).length=es.length/\(assignEach es env).findIdx? (·.1)=Qd/\∀ {Y:kX C d 2}{k:Kp}{fr:Frame}{w:Wd}{H:MH}{mvs:List ab}{vs:List Value}{r:Frame×MH}{s:Qf}{Q:Unit->Qf->Prop}{E:Value->Qf->Prop},
   jU C w mvs vs->ja Y cx env k fr w H s->qT (C.cx d) (ts.map λq=>T1.at q.1 q.2) mvs fr H=Qa r->(r.1=fr->mvs.length=es.length-> ∀w' s',jd Y k w w' r.2 s s'->Q () s') ->Qi C.M Y.A (assignInOrder ((assignEach es env).map (·.2)) vs) Q E s:=by
 induction ht with
 |nil=>
  refine⟨rfl,rfl,λ{Y k fr w H mvs vs r s Q E} rr p e h=>?_⟩;refine xA (gs e) λh1 e=>?_;obtain rfl:=Qa.inj e;cases mvs with
  |nil=>refine eqE rr ?_;exact Qg (h rfl rfl w s (.refl p.st))
  |cons _ _=>cases h1
 | @cons _ q _ _ ha _ ih=>
  refine Zv ha λo zq2=>zq2.elim λnm zq3=>zq3.elim λpos zq4=>?_;refine eqB zq4.1 ?_;refine⟨congrArg (· +1) ih.1,?_,λ{Y k fr w H mvs vs r s Q E} rr p e h=>?_⟩
  ·show qbj _ ((Qb,assign (.Attribute o nm pos) env)::assignEach _ env)=Qd
   rw[qaO];simp only[YH,if_false,ih.2.1,qaj]
  ·cases mvs with
   |nil=>exact af e
   |cons mv mvs=>
    obtain⟨v,t,rfl,hv,rr⟩:=rr
    revert e
    refine jW λfr1 H1 e1 e=>?_
    revert e1
    show bx (eval (C.cx d) q.1 fr H) (λov h1=>(setAttr C.P h1 ov q.2 mv).map λh2=>(fr,h2))=Qa (fr1,H1) ->_;refine jW λov H2 e3=>lA λH3 hs e4=>?_;cases e4;rw[zq4.2.2.1] at hs;show Qi C.M Y.A (do holding _ (assign (.Attribute o nm pos) env v);assignInOrder _ _) Q E s;refine Qc (Qk ?_);simp only[assign_Attribute];exact Qc (Qk (zq4.2.2.2.es Y env k k.m _ w H s p.pl _ e3 _ _ λw1 a1 s1 n1 r1=>Qc (Qm (Qc (Qk (yX O n1.st zq4.2.1 r1 (hv.mono n1.le) (λs2 n2=>wpAny_release (ih.2.2 (rr.mono n1.le) (p.next (n1.trans n2)) e λe5 e6 w' s' n3=>h e5 (congrArg (· +1) e6) w' s' ((n1.trans n2).trans n3))) hs))))))
def LG (O:nC C gl) {es:List Expr}{v:Expr}{ts:List (Ex×Nat)}{iv:Ex} (hok:Uv v=Qe) (hne:es.isEmpty=Qb) (ht:lV (Rj C d cx) es ts) (hv:Sd C d cx v iv):
  vS C d cx (.Assign [.Tuple es n tpos] v pos) (.jk (ts.map λq=>T1.at q.1 q.2) iv):=by
 intro Y env k fr w H s p r;show bx (eval (C.cx d) iv fr H) (λv h1=>(items h1 v).bind λvs=>bx (qT (C.cx d) (ts.map λq=>T1.at q.1 q.2) vs fr h1) λfr' h2=>Qa ((.nx,fr'),h2))=Qa r->_;refine jW λu H1 e1=>j9 λmvs hm=>jW λfr' H2 e2 e=>?_;refine lW e ?_;have hlen: ∀ {ts:List T1}{mvs:List ab}{fr:Frame}{h:MH}{r:Frame×MH},qT (C.cx d) ts mvs fr h=Qa r->mvs.length=ts.length:=by
  intro ts
  induction ts with
  |nil=>intro mvs fr h r e;have:=(gs e).1;cases mvs with|nil=>rfl|cons _ _=>cases this
  |cons t ts ih=>
   intro mvs fr h r e;cases mvs with
   |nil=>exact af e
   |cons v mvs=>revert e;exact jW λfr' h' _ e=>congrArg (· +1) (ih e)
 intro Q E hq;refine Assign_Tuple (hv.es Y env k k.m fr w H s p.pl _ e1 _ _ λw1 a1 s1 n1 r1=>?_) (by unfold swapsWithSole;exact Wn hv hok) (za7 hne ht);rw[assign_Tuple];refine Qc (Qm ?_);delta unpack;simp only[(xZ (env:=env) O ht).1,(xZ (env:=env) O ht).2.1,<-((hlen e2).trans ((Jp ..).trans ht.length):mvs.length=es.length)];refine Qc (Qk (WZ n1.st r1 hm λvs h' rr S'=>?_));have n2:jd Y k w w1 H1 s {s1 with heap:=h'}:=⟨n1.le,S',n1.cb.1,n1.cb.2⟩;exact(xZ (env:=env) O ht).2.2 rr (p.next n2) e2 λe5 _ w' s' n3=>by
  subst e5;exact hq k w' .next s' (p.nx (n2.trans n3)) .nx
end
def Du {w:Qn}{l:Qj}{z:Int}{t:Tok} (ho:s.heap.get? l=Qa (listOf its n)) (h0:0<=z) (hj:z<its.size) (hfit:z<2 ^ 63)
  (hQ: ∀h' n',h'.get? l=Qa (listOf (its.setIfInBounds z.toNat v) n') ->Heap.SameBut l s.heap h'->Q () {s with heap:=h'}):Qi (model prog w) A (setItem (.ref l) (.int z t) v) Q E s:=by
 delta setItem
 try with_reducible refine Qk ?_
 refine Qc (Q0 (⟨_,ho,rfl⟩) rfl ?_);refine Qc (wpAny_callSpecial?_slot (name:=Str.ofString "__setitem__") (⟨_,ho,rfl⟩) Q6
  (Qs Q6 (⟨_,ho,rfl⟩) entry_list_setitem ?_ (args_list_setitem _ _ _)))
 show Qi _ _ (qa9 (.int z t)>>=_) _ _ s;refine Qc (wpAny_listSubscript_int (fitsIndex_of h0 hfit) ?_)
 clear hfit
 obtain⟨j,rfl⟩:=Int.eq_ofNat_of_zero_le h0;have hj':j<its.size:=ZR.mp hj;refine Qc (Qc (wpAny_seqItemAt ho rfl (Qg ?_)));rw[(Array.getElem?_eq_getElem hj':its[j]?=Qa its[j])];refine Qc (wpAny_setSeqItemAt ho rfl ?_);have eu:Q () {s with heap:=s.heap.update l (Obj.mapSeq (·.setIfInBounds j v))}:=hQ _ _ (Yn _ ho rfl) (Heap.SameBut.update ..)
 first
  |exact Qc (Qg (Qg ⟨.none,rfl,Qg eu⟩))
  |exact Qg ⟨.none,rfl,Qg eu⟩
section
variable {cx:CC}{fr:Frame}
def HY (p:ja Y cx env k fr w H s) {sl:List Nat} (ht:v9 t=Qa q) (hs:lV (sS cx) q.1 sl) {v:ab} (hv:jV C w v rv) (hb:nG fr sl q.2 v=Qa fr1) 
  (h: ∀k' s',nt Y cx env k.ex w s k' fr1 w H s'->Q () s'):Qi C.M Y.A (assign t env rv) Q E s:=by
 obtain⟨mvs,b1,rfl,b3,b4⟩:=EN hb;rcases Sv ht with ⟨x,pp,rfl,rfl⟩| ⟨es,n,pp,rfl,hq,hes⟩
 ·cases b4 rfl
  cases hs with
  |cons hi hs=>
   cases hs;exact PySem.wpAny_assign_Name (qU p hi hv h)
 ·cases b3 hq
  obtain⟨tt,o,n',ws,rfl,ho,hc,hd,rr,_⟩:=p.st.ba hv;exact QZ (items:=ws.toArray) Y.handled ⟨o,ho,hc,n',hd⟩ (by rw[(nN (env:=env) hes).2.1,ZC,<-rr.length,b1,hs.length]) (nN (env:=env) hes).2.2 λh' he=>xY hs (nN (env:=env) hes).1 rr b1 (⟨p.b,p.c,p.f,p.st.grown he⟩:ja Y cx env k fr w H {s with heap:=h'}) λk' s' n2=>h k' s' ⟨n2.ex,n2.le,n2.pl,n2.cb.1,n2.cb.2⟩
inductive BC {C:bf}{d e:Nat} (Y:kX C d e) (cx:CC) (env:Env) (ex:bp) (w0:Wd) (s0:Qf) (I:Qj) (z:It) (F:Nat->Frame->MH->SR) (r:(Fl×Frame)×MH) (s:Qf):Prop
 |mk (k:Kp) (fr:Frame) (w:Wd) (H:MH) (j:Nat) (io:Obj) (ex':k.ex=ex) (le:w0.le w) (p:ja Y cx env (k.ext (I,io)) fr w H s) (it:pK C w io j z) (sm:qN s0 s) (lp:F j fr H=Qa r):BC Y cx env ex w0 s0 I z F r s
theorem ja.gp {q:Qj×Obj} (p:ja Y cx env (k.ext q) fr w H s) (hx:Heap.ExtBut q.1 s.heap h'):ja Y cx env k fr w H {s with heap:=h'}:=⟨p.b,p.c,p.f,bw.gp (b:=q.1) (o:=q.2) p.st hx⟩
def C7 {ov:Option ab}{v:ab}{a:β}{f:ab->β}{r:β} (h:ov=Qa v) (q:JC (motive:=λ_=>β) ov a f=r):f v=r:=by subst h;exact q
def C8 {ov:Option ab}{a:β}{f:ab->β}{r:β} (h:ov=Qd) (q:JC (motive:=λ_=>β) ov a f=r):a=r:=by subst h;exact q
section
variable (M:Jh) (A:QP) (env:Env) (R:Result->Qf->Prop) (I:Nat->Qf->Prop) (n:Nat)
def pj:Value->Qf->Prop:=notedBy M A env λe s'=>R (.error e) s'
def eI:Jj->Qf->Prop:=λf s=>Flow.casesOn (motive:=λ_=>Prop) f (∃m,m<n/\I m s) (R (.ok .next) s) (∃m,m<n/\I m s) λv=>R (.ok (.ret v)) s
def i8 (t:Expr) (it:Value) (b:List Qw) (v:Value) (s:Qf):Prop:=Qi M A (letOwnedTupleGo t it v) (λ_ s₁'=>Qi M A (assign t env v) (λ_ s₂=>Qi M A (PySem.execs b env) (eI R I n) (pj M A env R) s₂) (pj M A env R) s₁') (pj M A env R) s
def jA (t:Expr) (it:Value) (b:List Qw):Option Value->Qf->Prop:=λr s=>JC (motive:=λ_=>Prop) r (Qi M A (PySem.execs [] env) (λf s₃=>R (.ok f) s₃) (pj M A env R) s) λv=>i8 M A env R I n t it b v s
end
def Rw (C:bf) (d:Nat) (z:It) (sl:List Nat) (m:Bool) (ib:List Sm):Nat->Nat->Frame->MH->SR:=UM (λi h=>lX h i z) (λfr v=>nG fr sl m v) (λfr h=>execs (C.cx d) ib fr h)
def Rv {Y:kX C d 2}{w0:Wd}{F:Nat->Nat->Frame->MH->SR}{r:(Fl×Frame)×MH}{g:Fl×Frame}{k6:Kp}{w6:Wd}{H6:MH} 
  (hI: ∀m s,BC Y cx env ex w0 s0 Ia z (F m) r s->I m s) (hq: ∀k' w' f s',nt Y cx env ex w0 s0 k' r.1.2 w' r.2 s'->um C w' r.1.1 f->R (.ok f) s')
  (st: ∀m,F m (j+1) g.2 H6=Qa r->BC Y cx env ex w0 s0 Ia z (F m) r s6) (ph:nt Y cx env ex w0 s0 k6 g.2 w6 H6 s6) (r6:um C w6 g.1 f6)
  (lp:Fl.casesOn (motive:=λ_=>SR) g.1 (F n (j+1) g.2 H6) (Qa ((.nx,g.2),H6)) (F n (j+1) g.2 H6) (λv=>Qa ((.rt v,g.2),H6))=Qa r):eI R I (n+1) f6 s6:=by
 obtain⟨fl,fr6⟩:=g;cases r6 with
 |nx=>exact⟨n,JT n,hI n s6 (st n lp)⟩
 |ct=>exact⟨n,JT n,hI n s6 (st n lp)⟩
 |bk=>obtain rfl:=Qa.inj lp;exact hq _ w6 .next s6 ph .nx
 |rt h=>obtain rfl:=Qa.inj lp;exact hq _ w6 _ s6 ph (.rt h)
def MO {sl:List Nat}{ib:List Sm} (ht:v9 t=Qa q) (hsl:lV (sS cx) q.1 sl) (hb:u5 C d cx b ib) {Y:kX C d 2}{w0:Wd}{r:(Fl×Frame)×MH} 
  (hI: ∀m s,BC Y cx env ex w0 s0 Ia z (Rw C d z sl q.2 ib m) r s->I m s) (hq: ∀k' w' f s',nt Y cx env ex w0 s0 k' r.1.2 w' r.2 s'->um C w' r.1.1 f->R (.ok f) s')
  (h:BC Y cx env ex w0 s0 Ia z (Rw C d z sl q.2 ib n) r s'):Qi C.M Y.A (pyNext (.ref Ia)) (jA C.M Y.A env R I n t (.ref Ia) b) (pj C.M Y.A env R) s':=by
 obtain⟨k3,fr3,w3,H3,j,io3,ex3,le3,p3,R3,sm3,lp⟩:=h;cases n with
 |zero=>exact af lp
 |succ n=>
  refine j9 (λov hov lp=>?_) lp;refine LL p3.st R3 hov ⟨λv rv io4 h' tk hv S4 R4 hr=>?_,λh' hv S4=>?_⟩
  ·refine WH (s:={s' with heap:=h',toks:=tk}) S4.ff.1 R4.cls ?_
   refine j9 (λfr5 hb5 lp=>?_) (C7 hv lp);have p4:ja Y cx env (k3.ext (Ia,io4)) fr3 w3 H3 {s' with heap:=h',toks:=tk}:=⟨p3.b,p3.c,p3.f,S4⟩;refine HY p4 ht hsl hr hb5 λk5 s5 n5=>?_;refine jW (λg H6 e6 lp=>?_) lp;refine hb Y env k5 fr5 w3 H3 s5 n5.pl _ e6 _ _ λk6 w6 f6 s6 n6 r6=>?_;have n6':=n5.trans n6;have sm6:qN s0 s6:=sm3.trans ⟨n6'.cb.1,n6'.cb.2⟩;have p6:ja Y cx env ((⟨k6.ce,k3.ex,k6.m⟩:Kp).ext (Ia,io4)) g.2 w6 H6 s6:=by
    have:=n6'.pl
    obtain⟨ce6,ex6,m6⟩:=k6;cases n6'.ex;exact this
   exact Rv hI hq (λm lp=>⟨⟨k6.ce,k3.ex,k6.m⟩,g.2,w6,H6,j+1,io4,ex3,le3.trans n6'.le,p6,R4.mono n6'.le,sm6,lp⟩) (⟨ex3,le3.trans n6'.le,p6.gp λ_ _ _ e=>e,sm6⟩:nt Y cx env ex w0 s0 ⟨k6.ce,k3.ex,k6.m⟩ g.2 w6 H6 s6) r6 lp
  ·have lp:=C8 hv lp
   obtain rfl:=Qa.inj lp;exact QG (hq k3 w3 .next {s' with heap:=h'} ⟨ex3,le3,⟨p3.b,p3.c,p3.f,S4⟩,sm3.1,sm3.2⟩ .nx)
def Cr {it:Expr}{sl:List Nat}{ii:Ex}{ib:List Sm} (ht:v9 t=Qa q) (hsl:lV (sS cx) q.1 sl) (hi:Sd C d cx it ii) (hb:u5 C d cx b ib):vS C d cx (.For t it b [] pos) (.fo sl q.2 ii ib):=by
 intro Y env k fr w H s p r;show bx (eval (C.cx d) ii fr H) (λv h1=>(pC h1 v).bind λk=>Rw C d k sl q.2 ib (C.cx d).cn 0 fr h1)=Qa r->_;refine jW λu H1 e1=>j9 λz hz lp=>?_;intro Q E hq;exact wpAny_For (hi.es Y env k k.m fr w H s p.pl _ e1 _ _ λw1 a1 s1 n1 r1=>LN n1.st r1 (λI io h2 S2 R2=>codeAny_forLoop_any (λn s'=>BC Y cx env k.ex w s I z (Rw C d z sl q.2 ib n) r s') (λn s' h=>Eq.mp (by kernel_rfl) (MO (R:=λr s=>match r with| .ok f=>Q f s| .error e=>cameBackBy C.M Y.A env E e s) (n:=n) ht hsl hb (λ_ _ h=>h) hq h)) (C.cx d).cn ⟨k,fr,w1,H1,0,io,rfl,n1.le,⟨p.b,p.c,(p.next n1).f,S2⟩,R2,⟨n1.cb.1,n1.cb.2⟩,lp⟩) hz) (hi.sy.za env)
def zfp {e : Expr} : dropValue e pos v = pure .next \/ dropValue e pos v = (do standAt pos; let _ <- runValue (.builtin "proto.let_go" {}); pure .next) := by
 have h : dropValue (.Tuple [] 0 pos) pos v = pure .next \/ dropValue (.Tuple [] 0 pos) pos v = (do standAt pos; let _ <- runValue (.builtin "proto.let_go" {}); pure .next) := by
  cases v<;>first|exact .inl rfl|exact .inr rfl
 cases e<;>first|exact .inl rfl|exact Eq.mp (by kernel_rfl) h
def Fc {v:Expr}{iv:Ex} (hc:p5 v=Qb) (hv:Sd C d cx v iv):vS C d cx (.Expr v pos) (.expr iv):=by
 intro Y env k fr w H s p r;show bx (eval (C.cx d) iv fr H) (λ_ h1=>Qa ((.nx,fr),h1))=Qa r->_;refine jW λu H1 e1 e=>?_;refine lW e ?_;intro Q E hq;rw[exec_Expr env v pos (by unfold interactive;rw[p.b.kind];rfl) (hv.sy.swap hc _ _ _)];refine Qc (Qm (Qc (hv.es Y env k k.m fr w H s p.pl _ e1 _ _ λw1 a1 s1 n1 r1=>?_)));have eu:=hq k w1 .next s1 (p.nx n1) .nx;rcases zfp (e:=v) (pos:=pos) (v:=a1) with h|h
 ·rw[h];exact Qg eu
 ·rw[h];exact Qc (Qm (Qc (wpAny_runValue (codeAny_builtin entry_let_go (Qg (Qg eu))))))
theorem nY {P:Prop} (h:Qb=Qe):P:=absurd h Za
def LC (e:Expr):Prop:= ∃a b c p,e= .ListComp a b c p
theorem Mw {e:Expr}:p5 e=Qe->LC e:=Expr.casesOn (motive_1:=λe=>p5 e=Qe->LC e) e (λ_ _ _ h=>nY h) (λ_ _ _ h=>nY h) (λ_ _ _ _ h=>nY h) (λ_ _ _ h=>nY h) (λ_ _ _ _ h=>nY h) (λ_ _ _ _ h=>nY h) (λ_ _ _ h=>nY h) (λ_ _ _ h=>nY h) (λa b c p _=>⟨a,b,c,p,rfl⟩) (λ_ _ _ _ h=>nY h) (λ_ _ _ _ _ h=>nY h) (λ_ _ _ _ h=>nY h) (λ_ _ h=>nY h) (λ_ _ h=>nY h) (λ_ _ h=>nY h) (λ_ _ _ _ h=>nY h) (λ_ _ _ _ h=>nY h) (λ_ _ _ _ h=>nY h) (λ_ _ h=>nY h) (λ_ _ _ h=>nY h) (λ_ _ _ h=>nY h) (λ_ _ _ h=>nY h) (λ_ _ h=>nY h) (λ_ _ h=>nY h) (λ_ _ h=>nY h) (λ_ _ _ h=>nY h) (λ_ _ _ _ h=>nY h)
def Cd {v o:Expr}{i:Ex} (hv:Sd C d cx v i) (hr: ∀a b c p,swapsWith (.ListComp a b c p) (Qa o) n env=pure Qb):swapsWith v (Qa o) n env=pure false:=by
 refine xO (p5 v) (λhc=>?_) λhc=>?_
 ·obtain⟨a,b,c,p,rfl⟩:=Mw hc;exact hr a b c p
 ·exact hv.sy.swap hc _ _ _
def DI (O:nC C gl) {o:Expr}{v:Expr}{io iv:Ex} (hn:j1 nm=Qe) (ho:Sd C d cx o io) (hv:Sd C d cx v iv):vS C d cx (.Assign [.Attribute o nm xp] v pos) (.fq (.at io (dz nm)) iv):=by
 intro Y env k fr w H s p r;show bx (eval (C.cx d) iv fr H) (λv h1=>bx (bx (eval (C.cx d) io fr h1) λov h2=>(setAttr C.P h2 ov (dz nm) v).map λh3=>(fr,h3)) λfr' h2=>Qa ((.nx,fr'),h2))=Qa r->_;refine jW λu H1 e1=>jW λfr' H2 e2 e=>?_;refine lW e ?_
 revert e2
 refine jW λov H3 e3=>lA λH4 hs e4=>?_;cases e4;exact λQ E hq=>plainObj_wpAny_Assign_Attribute (hv.es Y env k k.m _ w H s p.pl _ e1 _ _ λw1 a1 s1 n1 r1=>ho.es Y env k k.m _ w1 H1 s1 (p.next n1).pl _ e3 _ _ λw2 a2 s2 n2 r2=>
  yX O n2.st hn r2 (r1.mono n2.le) (λs3 n3=>hq k w2 .next s3 (p.nx ((n1.trans n2).trans n3)) .nx) hs) (Cd hv λ_ _ _ _=>rfl)
def EX {v:ab} (hv:jV C w v rv): ∀ {ms:List ab}{vs:List Value}{j:Nat},jU C w ms vs->jU C w (ms.set j v) (vs.set j rv):=by
 intro ms
 induction ms with
 |nil=>intro vs j h;refine eqB h ?_;exact .nil
 |cons m ms ih=>
  intro vs j h;obtain⟨x,t,rfl,h,r⟩:=h;cases j with
  |zero=>exact .cons hv r
  |succ j=>exact .cons h (ih r)
def DK (S:St Y k w H s) {o i v:ab} (ho:jV C w o vo) (hi:jV C w i vi) (hv:jV C w v vv) 
  (h: ∀s',jd Y k w w H' s s'->Q () s'):m7 H o i v=Qa H'->Qi C.M Y.A (setItem vo vi vv) Q E s:=by
 refine j9 λx e1=>lJ (j9 λmvs hm=>lA λj hj e=>?_) (j9 λp hp=>mS λhf e=>?_)
 ·cases ref?_s e1;subst e
  obtain⟨z,t,rfl,h0,h1,rfl⟩:=MC hi hj;obtain⟨la,rfl,ha⟩:=ho;refine(bs hm).elim λob zq47=>?_;cases list?_s zq47.2;obtain⟨_,ws,n,e,hget,rr,hl⟩:=S.list (x:=.ref x) ⟨la,rfl,ha⟩ hm;cases e;refine Du hget h0 (by rw[ZC,<-rr.length];exact h1) (qaS h1 (sP hl)) λh' n' hg hs=>h _ ⟨.refl w,S.cw ha zq47.1 (λen h=>?_) hs (by rw[hg,List.setIfInBounds_toArray]) ⟨_,n',rfl,EX hv rr,by rw[J0];exact hl⟩,rfl,rfl⟩;obtain⟨_,_,rfl,_,_⟩:=h;exact⟨_,rfl⟩
 ·cases ref?_s e1;obtain rfl:=Qa.inj e
  have hf:=Jm.mp hf;obtain⟨b,n,es,rfl,hmod,hep,hg,hdr,hl,cw⟩:=S.jx ho hp;refine VW ⟨_,hg,rfl⟩ (BJ S (A:=Y.A.in1) (Y.u (n:=2) (by decide)) hg hdr hf.1 (Zf.mp hf.2) hi hv λes' h' tk hs hgo j'=>h _ ⟨.refl w,cw h' _ _ hs hgo ⟨es',_,rfl,λe he=>?_,j',G4 (Zf.mp hf.2)⟩,rfl,rfl⟩);cases hq:(j7 p.2 i).isSome with
  |true=>rw[hq] at he;exact hep e he
  |false=>
   rw[hq] at he;obtain⟨e0,he0,rfl⟩:=ms he;exact congrArg (· +1) (hep e0 he0)
def LH {o i:Expr}{v:Expr}{io ii iv:Ex} (ho:Sd C d cx o io) (hi:Sd C d cx i ii) (hv:Sd C d cx v iv):vS C d cx (.Assign [.Subscript o i xp] v pos) (.fq (.sb io ii) iv):=by
 intro Y env k fr w H s p r;show bx (eval (C.cx d) iv fr H) (λv h1=>bx (bx (eval (C.cx d) io fr h1) λov h2=>bx (eval (C.cx d) ii fr h2) λiv h3=>(m7 h3 ov iv v).map λh4=>(fr,h4)) λfr' h2=>Qa ((.nx,fr'),h2))=Qa r->_;refine jW λu H1 e1=>jW λfr' H2 e2 e=>?_;refine lW e ?_
 revert e2
 refine jW λov H3 e3=>jW λix H4 e4=>lA λH5 hs e5=>?_;cases e5;exact λQ E hq=>wpAny_Assign_Subscript (hv.es Y env k k.m _ w H s p.pl _ e1 _ _ λw1 a1 s1 n1 r1=>ho.es Y env k k.m _ w1 H1 s1 (p.next n1).pl _ e3 _ _ λw2 a2 s2 n2 r2=>hi.es Y env k k.m _ w2 H3 s2 ((p.next n1).next n2).pl _ e4 _ _ λw3 a3 s3 n3 r3=>
  DK n3.st (r2.mono n3.le) r3 (r1.mono (n2.le.trans n3.le)) (λs4 n4=>hq k w3 .next s4 (p.nx (((n1.trans n2).trans n3).trans n4)) .nx) hs) (Cd hv λ_ _ _ _=>rfl)
def Dj (O:nC C gl) (hC:oY C d) (hg:NT C cx.gl) (hcc:Up cx): ∀ (n:Nat),(∀ (st:Qw) (ir:Sm),tB n cx st=Qa ir->vS C d cx st ir)/\∀ (sts:List Qw) (irs:List Sm),oG (λs=>Qa ((tB n cx s).getD .gu)) sts=Qa irs->u5 C d cx sts irs:=by
 intro n;have hE: ∀ {e ir},pO cx e=Qa ir->Sd C d cx e ir:=λh=>z5 O hC 60 cx hg hcc _ _ h;have lists: ∀ {n:Nat},(∀ (st:Qw) (ir:Sm),tB n cx st=Qa ir->vS C d cx st ir) -> ∀ (sts:List Qw) (irs:List Sm),oG (λs=>Qa ((tB n cx s).getD .gu)) sts=Qa irs->u5 C d cx sts irs:=by
  intro n h sts irs e
  induction rA e with
  |nil=>exact Cq
  | @cons st i _ _ h1 h2 ih=>
   have rest:=ih (by
    refine(bs e).elim λb zq16=>?_;have e:=zq16.2;refine xEA (ms e) λc h3 e=>?_;cases e;exact h3)
   refine Fd ?_ rest;cases hs:tB n cx st with
   |some i'=>rw[hs] at h1;cases h1;exact h st _ hs
   |none=>rw[hs] at h1;cases h1;exact λY env k fr w H s p r e=>af e
 have st: ∀ (st:Qw) (ir:Sm),tB n cx st=Qa ir->vS C d cx st ir:=by
  induction n with
  |zero=>exact λst ir h=>af h
  |succ n ih=>
   have ihs:=lists ih;intro st ir;cases st with
   |Pass pos=>intro h;cases h;exact λY env k fr w H s p r e Q E hq=>by cases e;exact wpAny_Pass (hq k w _ s p.rf .nx)
   |Break pos=>intro h;cases h;exact λY env k fr w H s p r e Q E hq=>by cases e;exact λ_ _ _=>hq k w _ s p.rf .bk
   |Continue pos=>intro h;cases h;exact λY env k fr w H s p r e Q E hq=>by cases e;exact λ_ _ _=>hq k w _ s p.rf .ct
   |Return v pos=>
    intro h;cases v with
    |none=>cases h;exact Fb
    |some e=>obtain⟨i,hi,rfl⟩:=ms h;exact Cp (hE hi).es
   |Assign ts v pos=>
    intro h;refine xEA (WL h) λt cv h=>?_;subst cv;have h:JC (motive:=λ_=>Option Sm) (u4 t) ((Nc cx t).bind λa=>(pO cx v).map λb=> .fq a b) (λp=>au (Uv v) ((pO cx v).bind λb=>ay ((Im p.1).bind λxs=>(oG (Gs cx) xs).map λis=> .jk (is.map .nm) b) (au (!p.1.isEmpty) ((oG (Nd cx) p.1).map λts=> .jk (ts.map λq=> .at q.1 q.2) b))))=Qa ir:=h;cases ht:u4 t with
    |some p=>
     rw[ht] at h;cases z4 ht
     revert h
     refine mS λhok=>j9 λb hb=>lJ (j9 λxs hx=>lA λis his e=>?_) (mS λhne=>lA λts hts e=>?_)
     ·refine(bs hx).elim λxs' zq13=>?_
      have h2:=zq13.2;refine xA (gs h2) λh2 h3=>?_;cases h3;exact e▸Fe hok (rA zq13.1) (of_decide_eq_true h2) (AZ his) (hE hb)
     ·refine e▸LG O hok (by cases hq:p.1.isEmpty;rfl;rw[hq] at hne;cases hne) ((rA hts).mono λe q h=>?_) (hE hb)
      refine xEA (bs h) λp hp h=>?_;refine xA (gs h) λhn h=>?_;refine xEA (ms h) λi hi gq=>?_;subst gq;exact⟨p.1,p.2.1,p.2.2,VC hp,hn,rfl,hE hi⟩
    |none=>
     rw[ht] at h;refine xEA (bs h) λa ha h=>?_;refine xEA (ms h) λb hb mu=>?_;subst mu
     revert ha
     refine lJ (j9 λp hp=>mS λ_=>lA λi hi e=>?_) (lJ (j9 λp hp=>mS λhn=>lA λi hi e=>?_) (j9 λp hp=>j9 λi hi=>lA λj hj e=>?_))
     ·rw[<-e,qM hp]
      refine Cs hcc hi (hE hb) λ{eh gens sc cp} ev=>?_;subst ev
      clear h
      refine xEA (WL (show FE gens _=Qa b from hb)) λg eg hz=>?_;subst eg;refine(bs hz).elim λq zq5=>?_;have zq4:=gs zq5.2;exact(bs zq4.2).elim λii zq3=>(bs zq3.2).elim λiifs zq2=>(ms zq2.2).elim λie zq1=>⟨g,q,ie,ii,iifs,rfl,⟨beq_iff_eq.mp (Jm.mp zq4.1).1,zq5.1,A5 (Jm.mp zq4.1).2,z5 O hC 59 cx hg hcc _ _ zq3.1,(z5 O hC 59 (cg cx sc q.1) hg (hcc.cg sc q.1)) _ _ zq1.1,(rA zq2.1).mono (z5 O hC 59 (cg cx sc q.1) hg (hcc.cg sc q.1))⟩,zq1.2.symm⟩
     ·rw[<-e,VC hp];exact DI O hn (hE hi) (hE hb)
     ·rw[<-e,R5 hp];exact LH (hE hi) (hE hj) (hE hb)
   |If t x y pos=>exact j9 λa ha=>j9 λb hb=>lA λc hc e=>e▸OJ (hE ha).ts (ihs _ _ hb) (ihs _ _ hc)
   |While t b e pos=>
    refine mS λhe=>j9 λa ha=>lA λc hc e'=>?_;cases e with
    |nil=>exact e'▸DH (hE ha).ts (ihs _ _ hc)
    |cons _ _=>cases he
   |For t it b e pos=>
    refine mS λhe=>j9 λq hq=>mS λ_=>j9 λa ha=>j9 λsl hs=>lA λc hc e'=>?_;cases e with
    |nil=>exact e'▸Cr hq (AZ hs) (hE ha) (ihs _ _ hc)
    |cons _ _=>cases he
   |Expr v pos=>exact mS λhc=>lA λi hi e=>e▸Fc (by cases hq:p5 v;rfl;rw[hq] at hc;cases hc) (hE hi)
   |_=>exact λh=>af h
 exact⟨st,lists st⟩
end
theorem EH (ps:List Str) (sc:Scope) (gl:List (Str×ab)):Up (MP ps sc gl):=λx i h=>by
 refine((pA x _ 0).1 i h).elim λj zq32=>?_;refine eqB zq32.1 ?_;rw[ZM];exact(Ju.mp zq32.2).1
def Ao {kindOf:Str->Option Qr}: ∀ {r:List (Str×Value)}{m:Str->Option Value},x∉r.map (·.1) ->bindL kindOf r m x=m x:=by
 intro r
 induction r with
 |nil=>exact λ_=>rfl
 |cons p r ih=>
  intro m h;unfold bindL;rw[ih λq=>h (.tail _ q)];split
  ·exact if_neg λq:x=p.1=>h (q▸ .head _)
  ·rfl
def Ap {kindOf:Str->Option Qr}: ∀ {r:List (Str×Value)}{m:Str->Option Value},x∉r.map (·.1) ->bindC kindOf r m x=m x:=by
 intro r
 induction r with
 |nil=>exact λ_=>rfl
 |cons p r ih=>
  intro m h;unfold bindC;rw[ih λq=>h (.tail _ q)];split
  ·rfl
  ·exact if_neg λq:x=p.1=>h (q▸ .head _)
def EM {kindOf:Str->Option Qr}: ∀ {r:List (Str×Value)}{m:Str->Option Value},(x,v)∈r->(r.map (·.1)).Nodup->(kindOf x=Qa .local->bindL kindOf r m x=Qa v)/\(kindOf x≠Qa .local->bindC kindOf r m x=Qa v):=by
 intro r
 induction r with
 |nil=>exact λh _=>absurd h JB
 |cons p r ih=>
  intro m h hd;have hd:=JI.mp hd;unfold bindL bindC;rcases JM.mp h with e|h
  ·subst e
   exact⟨λhk=>by rw[Ao hd.1,if_pos hk];exact if_pos rfl,λhk=>by rw[Ap hd.1,if_neg hk];exact if_pos rfl⟩
  ·exact⟨(ih h hd.2).1,(ih h hd.2).2⟩
def Vo {cells:bp} (h:CellsAre cm cs cells):cs.lookup x=Qa c-> ∃o,(c,o)∈cells/\o.data= .cell (cm x):=by
 induction h with
 |nil=>exact λh=>af h
 | @cons n a o cs cells hd r ih=>
  intro h;rw[ZG] at h;refine xO (x==n) (λe=>?_) λe=>?_
  ·rw[e] at h;refine lW h ?_;rw[beq_iff_eq.mp e];exact⟨o,.head _,hd⟩
  ·rw[e] at h;obtain⟨o',h1,h2⟩:=ih h;exact⟨o',.tail _ h1,h2⟩
def yM {cells:bp} (h:CellsAre cm cs cells):cells.map (·.1)=cs.map (·.2):=by
 induction h with
 |nil=>rfl
 |cons _ _ ih=>exact congrArg (_:: ·) ih
def rK (lo:Nat): ∀ (names:List (Str×Qr)) (n:Nat) (acc:List (Str×Qj)),lo<=n->(acc.map (·.2)).Nodup->(∀p∈acc,p.2<n/\lo<=p.2) ->((cellsFrom n names acc).map (·.2)).Nodup/\∀p∈cellsFrom n names acc,lo<=p.2:=by
 intro names
 induction names with
 |nil=>exact λn acc _ h hl=>⟨h,λp hp=>(hl p hp).2⟩
 |cons q r ih=>
  intro n acc hn h hl;unfold cellsFrom;split
  ·refine ih (n+1) _ (Zh hn) ?_ ?_
   ·rw[JO,JI]
    exact⟨λhx=>(JJ.mp hx).elim λp zq31=>absurd (hl p zq31.1).1 (by rw[zq31.2];exact Zb _),h⟩
   ·intro p hp
    rcases JM.mp hp with rfl|hp
    ·exact⟨JT _,hn⟩
    ·exact⟨Zy (hl p hp).1,(hl p hp).2⟩
  ·exact ih n acc hn h hl
def Mh {y:Str}:(cs.map (·.2)).Nodup->cs.lookup x=Qa c->cs.lookup y=Qa c->x=y:=by
 induction cs with
 |nil=>exact λ_ h _=>af h
 |cons p r ih=>
  intro hd hx hy;have hd:=JI.mp hd;rw[ZG] at hx hy;refine xO (x==p.1) (λex=>?_) λex=>?_
  ·rw[ex] at hx
   cases ey:y==p.1 with
   |true=>exact(beq_iff_eq.mp ex).trans (beq_iff_eq.mp ey).symm
   |false=>rw[ey] at hy;exact((λh e=>hd.1 (JJ.mpr ⟨_,kR h,e⟩): ∀ {z},r.lookup z=Qa c->c=p.2->False) hy (Qa.inj hx).symm).elim
  ·rw[ex] at hx
   cases ey:y==p.1 with
   |true=>rw[ey] at hy;exact((λh e=>hd.1 (JJ.mpr ⟨_,kR h,e⟩): ∀ {z},r.lookup z=Qa c->c=p.2->False) hx (Qa.inj hy).symm).elim
   |false=>rw[ey] at hy;exact ih hd.2 hx hy
variable {ws:List ab}
def HJ {Y:kX C d 2}{fn:Fn}{cells:bp} (hkind:scope.kind= .function) (hbn:xs.Nodup) (ru:jU C w ws us) (hlen:ws.length=xs.length)
  (hc:CellsAre (bindC (envOfC qual scope Y.L fa cdv).kindOf (xs.zip us) λ_=>Qd) (cellsFrom (Y.L+1) scope.names []) cells)
  (S:St Y ⟨cells,ex,bindL (envOfC qual scope Y.L fa cdv).kindOf (xs.zip us) λ_=>Qd⟩ w H s):ja Y (MP xs scope gl) (envOfC qual scope Y.L fa cdv) ⟨cells,ex,bindL (envOfC qual scope Y.L fa cdv).kindOf (xs.zip us) λ_=>Qd⟩ (rH fn ws) w H s:=by
 have slot: ∀ {x i},nS (MP xs scope gl) x=Qa i->(vL xs scope)[i]?=Qa x:=λ{x i} h=>by
  refine((pA x (vL xs scope) 0).1 i (zQ h).2).elim λj zq30=>?_;have e:=zq30.1;rw[ZM] at e;exact e▸zq30.2
 have hz:((xs.zip us).map (·.1)).Nodup:=by rw[List.map_fst_zip (by rw[<-hlen,ru.length];exact Jv _)];exact hbn
 refine⟨⟨hkind,rfl,rfl,rfl,λx hx=>Zw.mp (QV scope.names (Y.L+1) [] (.inl hx)),λx y c hx hy hcx hcy=>Mh ((rK 0 scope.names (Y.L+1) [] (Jy _) .nil λ_ h=>absurd h JB).1) hcx hcy,rfl,λx y i hx hy=>Qa.inj ((slot hx).symm.trans (slot hy))⟩,
  λx c _ hcx=>(Vo hc hcx).elim λo h=>⟨o,_,h.1,h.2⟩,λx i u hx hu=>?_,S⟩
 have hlt:i<ws.length:=Xy λhge=>by
  delta rH at hu;rw[Kb (by rw[Jp];exact J7 hge)] at hu;obtain⟨_,hu'⟩:=Ju.mp hu;rw[List.getElem_replicate] at hu';cases hu'
 unfold rH at hu;rw[Kg (by rw[Jp];exact hlt),JA] at hu;refine(ms hu).elim λu' zq28=>?_;have hu2:=zq28.2;refine lW hu2 ?_;refine(ru.get zq28.1).elim λrv zq27=>?_;have hr:=zq27.2;have hpx:xs[i]?=Qa x:=by
  have:=slot hx
  unfold vL at this;rwa [Kg (by rw[<-hlen];exact hlt)] at this
 have hmem:(x,rv)∈xs.zip us:=Jq (List.getElem?_zip_eq_some.mpr ⟨hpx,zq27.1⟩);rcases (zQ hx).1 with hk|hk
 ·exact .ju rv hk ((EM hmem hz).1 hk) hr
 ·refine(Zw.mp (QV scope.names (Y.L+1) [] (.inl hk))).elim λc zq26=>?_
  refine(Vo hc zq26).elim λo zq25=>?_;refine .cell rv c o hk zq26 zq25.1 ?_ hr;rw[zq25.2,(EM hmem hz).2 (by show scope.names.lookup x≠_;rw[show scope.names.lookup x=Qa .cell from hk];decide)]
inductive fG (gl:List (Str×ab)) (params:QW) (body:List Qw) (sc:Scope) (f:Fn):Prop
 |mk (kind:sc.kind= .function) (gen:sc.isGenerator=Qb) (co:sc.isCoroutine=Qb) (ps: ∀x∈params.args.map (·.arg),sc.names.lookup x=Qa .local\/sc.names.lookup x=Qa .cell) (b:zaf (MP (params.args.map (·.arg)) sc gl) body=Qa f.body) (np:(params.args.map (·.arg)).length=f.np):fG gl params body sc f
def Vm {f:Fn} (h:Vn gl params body sc=Qa (f.np,f.ns,f.body)):fG gl params body sc f:=by
 obtain⟨hb,h⟩:=gs h;refine(ms h).elim λb zq23=>?_;have h2:=zq23.2;simp only[ZX,ZF,Xi,beq_iff_eq,Xz] at hb;simp only[qba.injEq] at h2;exact⟨hb.1.1.1.2,hb.1.1.2,hb.1.2,hb.2,h2.2.2▸zq23.1,h2.1⟩
def jU.drop {ms:List ab}: ∀ {vs:List Value}{n:Nat},jU C w ms vs->jU C w (ms.drop n) (vs.drop n):=by
 induction ms with
 |nil=>intro vs n h;refine eqB h ?_;rw[YZ,YZ];exact .nil
 |cons m ms ih=>
  intro vs n h;cases n with
  |zero=>exact h
  |succ n=>obtain⟨v,t,rfl,_,r⟩:=h;exact ih r
def zcW {fn:Fn} (hk:C.K.In s.heap) (k7:xR C fn fd xs) (r:jU C w as vs) (ha:vQ fn as=Qa ws): ∃us,jU C w ws us/\ws.length=fn.np/\BindsTo s fd ⟨vs,[]⟩ (xs.zip us):=by
 obtain⟨hc,e⟩:=gs ha;have h1:=Zf.mp (Jm.mp hc).1;have h2:=Zf.mp (Jm.mp hc).2;have e:=(Qa.inj e).symm;rcases k7 with ⟨k5,k7⟩| ⟨_,dvs,k7a,k7b⟩
 ·rw[k5] at h2 e
  rw[YZ,Zm] at e;refine eqB e ?_;exact⟨vs,r,(Zt h1 (YT (qar.mp h2))),BindsTo.of_eq (k7 vs (r.length▸(Zt h1 (YT (qar.mp h2)))))⟩
 ·refine⟨vs++dvs.drop (dvs.length-(fn.np-vs.length)),?_,?_,kp_binds hk λSt=>k7b St vs (Jl (Jx (K7 r.length)) h1) (Jl (Nat.sub_le_sub_left (Jx r.length) _) (Jl h2 (Jx ((k7a w).length))))⟩
  ·rw[e,<-((k7a w).length),<-r.length]
   exact jU.append (k7a w).drop r
  ·rw[e,Jz,XY];exact(congrArg (as.length+ ·) (Nat.sub_sub_self h2)).trans (Yr h1)
abbrev jD (f:Jj):Value:=match f with| .ret v=>v|_=> .none
def Af {fl:Fl}{f:Jj}{fr:Frame} (hr:um C w fl f) (e:Ry (fl,fr) H=Qa r):jV C w r.1 (jD f)/\H=r.2:=by
 cases hr with
 |nx=>refine lW e ?_;exact⟨rfl,rfl⟩
 |bk=>exact af e
 |ct=>exact af e
 |rt h=>refine lW e ?_;exact⟨h,rfl⟩
def Nj (O:nC C gl): ∀d,oY C d:=by
 intro d
 induction d with
 |zero=>exact λY k w H s f fa as vs r S hf rr e=>af e
 |succ d ih=>
  intro Y k w H s f fa as vs r S hf rr;refine j9 λfn hfn=>j9 λws hargs=>jW λq HE ev er R hq=>?_;obtain⟨hfa,ad,name,qual,params,body,scope,dV,kV,doc,pm,an,cdv,ct,oc,od,osl,k1,k2,k3,k4,k6,k7,k8,k10⟩:=O.nh _ _ hfn;rw[hfa,hf] at k1;obtain rfl:=Qa.inj k1;refine(zcW S.mn k7 rr hargs).elim λus zq20=>?_;obtain⟨hkind,hgen,hco,hps,hbd,hnp⟩:=Vm k4;refine Y.below.elim λA₀ zq16=>zq16.elim λbase zq17=>zq17.elim λouter zq18=>?_;refine Y.ai.elim λp zq11=>zq11.elim λloose zq12=>zq12.elim λmean zq13=>zq13.elim λmg zq14=>zq14.elim λmb zq15=>?_;obtain⟨os,he,hn,hd⟩:=S.os;refine code_defC (binds:=(params.args.map (·.arg)).zip us) zq18.1 S.fr Y.k hn zq15 zq18.2 Y.frame Y.kind k2 k3 (by have:=Y.depth;show Y.A.depth<1000;exact Js (JQ (Jo _ _)) (Jl (Ye this) (Jw _ _))) zq20.2.2 ?_ k10 (λg L' h₁ tk cells FG F' N' Yc B' Xg Tg hlt=>?_) hco hgen hkind
  ·rw[ZF]
   intro y hy;rw[Xi,beq_iff_eq,beq_iff_eq];exact hps y.1 (qa5 hy).1
  let Y':kX C d 2:=⟨Y.A.deeper (envOfC qual scope L' fa cdv),g,L',envOfC qual scope L' fa cdv,⟨Y.A,base,Y.lq::outer,B',Around.frames_deeper zq18.2⟩,Xg,⟨p,loose,mean,mg,mb,Tg⟩,rfl,hkind,Y.handled,by have:=Y.depth;show Y.A.depth+1+4*d+2+2<=900;lia,by have:=Y.units;show Y.A.units+3+20*d+190+5*2<=9900;lia⟩
  have zq10:=rK (L'+1) scope.names (L'+1) [] (Jv _) .nil λ_ h=>absurd h JB;have pm': ∀cells:bp,(os.flatten++(w.tp++(cells++(k.ce++k.ex)))).Perm (cells++(os.flatten++(w.tp++(k.ce++k.ex)))):=λcells=>(List.Perm.append_left _ (KB _ _ _)).trans (KB _ _ _);have S':St Y' ⟨cells,k.ce++k.ex,bindL (envOfC qual scope L' fa cdv).kindOf ((params.args.map (·.arg)).zip us) λ_=>Qd⟩ w H {s with heap:=h₁,toks:=tk}:=by
   refine⟨F',⟨os,he,λp hp=>N' p ((pm' cells).mem_iff.mp hp),bp.nd.jf (pm' cells).symm (GC ?_ hd λx hx y hy e=>?_)⟩,Jl S.ol (Jl FG.above (JK FG.ns.lt)),S.lo⟩
   ·unfold bp.nd;rw[yM Yc];exact zq10.1
   ·have hx':x.1∈cells.map (·.1):=JJ.mpr ⟨x,hx,rfl⟩
    rw[yM Yc] at hx';exact(JJ.mp hx').elim λq zq9=>absurd (Js (hlt y hy) (XA (zq10.2 q zq9.1))) (by rw[zq9.2,e];exact Zb _)
  refine(Dj O ih O.yx (EH _ _ _) 40).2 _ _ hbd Y' _ _ _ _ _ _ (HJ (Y:=Y') (gl:=gl) (fn:=fn) (ex:=k.ce++k.ex) hkind k8 zq20.1 (zq20.2.1.trans hnp.symm) Yc S') _ ev _ _ λk1 w1 f1 s1 n1 r1=>?_;obtain⟨os1,he1,hn1,hd1⟩:=n1.pl.st.os;rw[show k1.all w1 os1=os1.flatten++(w1.tp++(k1.ce++(k.ce++k.ex))) from by unfold Kp.all;rw[n1.ex]] at hn1 hd1;have sub:(k.all w1 os1).Sublist (os1.flatten++(w1.tp++(k1.ce++(k.ce++k.ex)))):=(List.Sublist.refl _).append ((List.Sublist.refl _).append (List.sublist_append_right _ _));exact leaveK_ n1.pl.st.fr hn1 λF2 N2=>hq w1 _ s1 ⟨n1.le,⟨F2,⟨os1,(Af r1 er).2▸he1,λp hp=>N2 p (sub.subset hp),List.Sublist.nodup (List.Sublist.map _ sub) hd1⟩,S.ol,n1.pl.st.lo⟩,n1.cb.1,n1.cb.2⟩ ((Af r1 er).1)
def Mn (O:nC C gl) {p:Qx} (X:C.K.In s₁.heap) (T:Top p loose mean mg mb s₁.heap) (hbig:4<=s₁.heap.objs.size)
  {f:Nat}{fa:Qj}{mvs:List ab}{rv:Value}{r:ab×MH} (hf:C.ad.lookup f=Qa fa) (hlaw: ∀fn,C.P.km f=Qa fn->fn.pd= []) (hv:jV C ⟨[],[]⟩ (.fl mvs) rv) (ev:mT C.P wV 61 f [.fl mvs] []=Qa r) {Q:Value->Qf->Prop}{E:Value->Qf->Prop}
  (hq: ∀w v s',jV C w r.1 v->(∀b o,s₁.heap.get? b=Qa o->s'.heap.get? b=Qa o) ->s'.gens=s₁.gens->s'.os=s₁.os->Q v s'):
  Qi C.M callerA (call (.ref fa) [rv]) Q E s₁:=by
 revert ev
 refine j9 λfn hfn=>j9 λws hargs=>jW λq HE ev er=>?_;obtain⟨hfa,ad,name,qual,params,body,scope,dV,kV,doc,pm,an,cdv,ct,oc,od,osl,k1,k2,k3,k4,k6,k7,k8,k10⟩:=O.nh _ _ hfn;rw[hfa,hf] at k1;obtain rfl:=Qa.inj k1;obtain⟨k5,k7⟩:=k7.resolve_right λh=>h.1 (hlaw fn hfn);obtain⟨hkind,hgen,hco,hps,hbd,hnp⟩:=Vm k4;obtain⟨hc,e⟩:=gs hargs;have hc:=Jm.mp hc;rw[k5] at hc e;rw[YZ,Zm] at e;obtain rfl:=Qa.inj e;have hl:1=fn.np:=Zt (Zf.mp hc.1) (YT (qar.mp (Zf.mp hc.2)));refine wpAny_call (codeAny_call_cells (binds:=(params.args.map (·.arg)).zip [rv]) (fd:=fnOf name qual params body scope dV kV doc pm an cdv ct) (body:=body) (by decide) (X _ _ k2) rfl T.nolimit (codeRec_of X k3) rfl (k7 [rv] hl) rfl ?_ (λs2 x=>?_) hco hgen hkind)
 ·intro y hy
  rcases hps y.1 (qa5 hy).1 with h|h
  ·exact .inl h
  ·exact .inr ⟨h,QV _ _ _ (.inl h)⟩
 refine x.done.elim λh₁ zq2=>zq2.elim λtk zq3=>?_;obtain rfl:=zq3.1;refine(Cl.news (h₀:=s₁.heap) (Jv _) λn c hm=>⟨x.cell n c (lookup_of_mem_nodup (cellsFrom_names scope.names 0 (s₁.heap.objs.size+1) [] [] rfl▸k10) hm),x.above n c hm⟩).elim λcells zq1=>?_
 let Y':kX C 60 2:=⟨callerA.deeper (envOfC qual scope s₁.heap.objs.size fa cdv),s₁.heap,s₁.heap.objs.size,envOfC qual scope s₁.heap.objs.size fa cdv,⟨callerA,s₁.heap,[],below_caller _,rfl⟩,X,⟨p,loose,mean,mg,mb,T⟩,rfl,hkind,rfl,(by decide:301+1+4*60+2+2<=900),(by decide:4+3+20*60+190+5*2<=9900)⟩
 have eq:(⟨cells,[],bindL (envOfC qual scope s₁.heap.objs.size fa cdv).kindOf ((params.args.map (·.arg)).zip [rv]) λ_=>Qd⟩:Kp).all ⟨[],[]⟩ []=cells:=Zm _;have S':St Y' ⟨cells,[],bindL (envOfC qual scope s₁.heap.objs.size fa cdv).kindOf ((params.args.map (·.arg)).zip [rv]) λ_=>Qd⟩ ⟨[],[]⟩ [] {s₁ with heap:=h₁,toks:=tk}:=
  ⟨(⟨x.toInCall.ns,x.toInCall.keep,Jv _⟩:Fr s₁.heap s₁.heap.objs.size h₁ (bindL (envOfC qual scope s₁.heap.objs.size fa cdv).kindOf ((params.args.map (·.arg)).zip [rv]) λ_=>Qd)),⟨[],⟨rfl,rfl⟩,eq.symm▸zq1.1,eq.symm▸(by unfold bp.nd;rw[yM zq1.2];exact((rK 0 scope.names (s₁.heap.objs.size+1) [] (Jy _) .nil λ_ h=>absurd h JB).1))⟩,hbig,λ_ h=>absurd h JB⟩
 refine(Dj O (Nj O 60) O.yx (EH _ _ _) 40).2 _ _ hbd Y' _ _ _ _ _ _ (HJ (Y:=Y') (gl:=gl) (fn:=fn) (ex:=[]) hkind k8 (.da hv) (by rw[hnp];exact hl) zq1.2 S') _ ev _ _ λk1 w1 f1 s1 n1 r1=>?_;exact hq w1 _ s1 (Af r1 er).1 n1.pl.st.fr.keep n1.cb.1 n1.cb.2
def Data.seq? (d:Data):Option (List Value×Nat):=qae (motive:=λ_=>Option (List Value×Nat)) d Qd (λ_=>Qd) (λxs n=>Qa (xs.toList,n)) (λ_ _=>Qd) (λ_ _ _=>Qd) (λ_ _=>Qd) (λ_=>Qd) (λ_=>Qd) (λ_=>Qd) (λ_=>Qd) Qd
def seq?_s {d:Data}{p:List Value×Nat}:Data.seq? d=Qa p->d= .seq p.1.toArray p.2:=by
 cases d<;>first|exact λe=>af e|(intro e;refine lW e ?_;rfl)
def Data.func? (d:Data):Option FuncData:=qae (motive:=λ_=>Option QR) d Qd (λ_=>Qd) (λ_ _=>Qd) (λ_ _=>Qd) (λ_ _ _=>Qd) (λ_ _=>Qd) (λ_=>Qd) Qa (λ_=>Qd) (λ_=>Qd) Qd
def func?_s {d:Data}{f:QR}:Data.func? d=Qa f->d= .func f:=by
 cases d<;>first|exact λe=>af e|(intro e;refine lW e ?_;rfl)
def Value.ref? (v:Value):Option Addr:=qaH (motive:=λ_=>Option Qj) v Qd Qd Qd (λ_=>Qd) (λ_ _=>Qd) (λ_ _=>Qd) (λ_ _=>Qd) (λ_ _=>Qd) (λ_=>Qd) (λ_=>Qd) Qa
def zf2?_s {v:Value}{a:Qj}:Value.ref? v=Qa a->v= .ref a:=by
 cases v<;>first|exact λe=>af e|(intro e;refine lW e ?_;rfl)
def SV (v:Value) (i:Int):Bool:=qaH (motive:=λ_=>Bool) v Qb Qb Qb (λ_=>Qb) (λj _=>j==i) (λ_ _=>Qb) (λ_ _=>Qb) (λ_ _=>Qb) (λ_=>Qb) (λ_=>Qb) (λ_=>Qb)
def Rk {i:Int}:SV v i=Qe-> ∃t,v= .int i t:=by
 cases v with
 |int j t=>exact λe=>⟨t,by rw[beq_iff_eq.mp e]⟩
 |_=>exact λe=>JH e
def Sz (v:Value) (s:List Nat):Bool:=qaH (motive:=λ_=>Bool) v Qb Qb Qb (λ_=>Qb) (λ_ _=>Qb) (λ_ _=>Qb) (λx _=>x.cps.toList==s) (λ_ _=>Qb) (λ_=>Qb) (λ_=>Qb) (λ_=>Qb)
def OE {s:List Nat}:Sz v s=Qe-> ∃t,v= .str ⟨s.toArray⟩ t:=by
 cases v with
 |str x t=>exact λe=>⟨t,by rw[<-beq_iff_eq.mp e]⟩
 |_=>exact λe=>JH e
def typeIs (v:Value) (o:Option String):Bool:=JC (motive:=λ_=>Bool) o Qb λn=>v== .type n
def ziw (v:Value) (o:Option String):Bool:=JC (motive:=λ_=>Bool) o Qb λn=>v== .builtin n
def LW (C:bf) (v:Value) (n:String):Option (List Value×Nat):=(Value.ref? v).bind λa=>(C.K.lookup a).bind λo=>au (o.cls== .type n) (Data.seq? o.data)
inductive zfI (C:bf) (v:Value) (n:String) (p:List Value×Nat):Prop
 |mk (a:Qj) (o:Obj) (e:v= .ref a) (k:C.K.lookup a=Qa o) (c:o.cls= .type n) (d:o.data= .seq p.1.toArray p.2):zfI C v n p
def A4 {n:String}{p:List Value×Nat} (h:LW C v n=Qa p):zfI C v n p:=by
 refine(bs h).elim λa zq37=>?_;have h:=zq37.2;refine(bs h).elim λo zq36=>?_;have h:=zq36.2;obtain⟨e3,h⟩:=gs h;exact⟨a,o,zf2?_s zq37.1,zq36.1,beq_iff_eq.mp e3,seq?_s h⟩
def EQ (f:ab->Value->Bool):List ab->List Value->Bool
 | [],vs=>vs.isEmpty
 |m::ms,vs=>K2 (motive:=λ_=>Bool) vs Qb λv r=>f m v && EQ f ms r
def Ft (C:bf):Nat->ab->Value->Bool
 |0,_,_=>Qb
 |k+1,m,v=>ab.casesOn (motive_1:=λ_=>Bool) m (v== .none) (λb=>v== .bool b) (λi=>SV v i) (λs=>Sz v s && zbl s)
  (λms => JC (motive:=λ_ => Bool) (LW C v "tuple") Qb λp => EQ (Ft C k) ms p.1 && Zj ms.length bb) (λ_ => Qb)
  (λid=>JC (motive:=λ_=>Bool) (C.ad.lookup id) Qb λa=>v== .ref a) (λc=>typeIs v (rM.lookup c)) (λc=>ziw v (xK.lookup c)) (λ_=>Qb)
  (λms => JC (motive:=λ_ => Bool) (LW C v "list") Qb λp => EQ (Ft C k) ms p.1 && Zj ms.length bb) (λ_ => Qb)
def z6 {f:ab->Value->Bool} (hf: ∀m v,f m v=Qe-> ∀w,jV C w m v) (w:Wd): ∀ (ms:List ab) (vs:List Value),EQ f ms vs=Qe->jU C w ms vs:=by
 intro ms
 induction ms with
 |nil=>intro vs h;exact YX.mp h
 |cons m ms ih=>
  intro vs h;cases vs with
  |nil=>exact JH h
  |cons v r=>
   exact .cons (hf _ _ (Jm.mp h).1 w) (ih r (Jm.mp h).2)
def rY {o:Option α}{f:α->Bool} (h:JC (motive:=λ_=>Bool) o Qb f=Qe): ∃a,o=Qa a/\f a=true:=by
 cases o with
 |none=>exact JH h
 |some a=>exact⟨a,rfl,h⟩
def Wv: ∀ (k:Nat) (m:ab) (v:Value),Ft C k m v=Qe-> ∀w,jV C w m v:=by
 intro k
 induction k with
 |zero=>exact λm v h=>JH h
 |succ k ih=>
  intro m v h w;cases m with
  |none=>exact beq_iff_eq.mp h
  |bool b=>exact beq_iff_eq.mp h
  |int i=>exact Rk h
  |str s=>
   have h:=Jm.mp h;exact(OE h.1).elim λt zq34=>⟨t,zq34,CK h.2⟩
  |ba ms=>
   refine xEA (rY (o:=LW C v "tuple") h) λp e h => ?_;obtain⟨a,o,e,q1,q2,q3⟩:=A4 e;have h:=Jm.mp h;exact⟨a,o,p.2,p.1,e,⟨.inr q1,q2,q3⟩,z6 ih w _ _ h.1,Zf.mp h.2⟩
  |ref a=>exact JH h
  |ai id=>
   refine xEA (rY (o:=C.ad.lookup id) h) λa e h=>?_;exact⟨a,beq_iff_eq.mp h,e⟩
  |ty c=>
   refine xEA (rY (o:=rM.lookup c) h) λn e h=>?_;exact⟨n,beq_iff_eq.mp h,e⟩
  |bi c=>
   refine xEA (rY (o:=xK.lookup c) h) λn e h=>?_;exact⟨n,beq_iff_eq.mp h,e⟩
  |fy n=>exact JH h
  |fl ms=>
   refine xEA (rY (o:=LW C v "list") h) λp e h => ?_;obtain⟨a,o,e,q1,q2,q3⟩:=A4 e;have h:=Jm.mp h;exact⟨a,o,p.2,p.1,e,⟨q1,q2,q3⟩,z6 ih w _ _ h.1,Zf.mp h.2⟩
  |qo n=>exact JH h
def oo (o:Option (Option Value)) (f:Value->Bool) (g:Bool):Bool:=JC (motive:=λ_=>Bool) o Qb λx=>JC (motive:=λ_=>Bool) x g f
def zbF {o:Option (Option Value)}{f:Value->Bool}{g:Bool} (h:oo o f g=Qe):(∃v,o=Qa (Qa v)/\f v=Qe)\/o=Qa Qd/\g=true:=by
 rcases o with _|_|v
 ·exact JH h
 ·exact .inr ⟨rfl,h⟩
 ·exact .inl ⟨v,rfl,h⟩
def b9 (C : bf) (p : Str × ab) : Bool := oo (nsIn C.K mainGlobals p.1) (Ft C 5 p.2) (!(p.1 == "__name__") && oo (Qa (bootBuiltins p.1)) (Ft C 5 p.2) Qb)
def ze7 {p:Str×ab} (h:b9 C p=Qe): ∃rv,fE C p rv:=by
 rcases zbF h with ⟨v,e,h⟩| ⟨e,h⟩
 ·exact⟨v,Wv _ _ _ h,.inl e⟩
 ·have h:=Jm.mp h
  rcases zbF h.2 with ⟨v,e2,h2⟩| ⟨_,h2⟩
  ·exact⟨v,Wv _ _ _ h2,.inr ⟨e,λq=>by rw[q] at h;exact absurd h.1 (by decide+kernel),Qa.inj e2⟩⟩
  ·exact JH h2
def zes (nms:List Str) (n:Nat):Option Str:=nms.find? λx=>dz x==n && j1 x
def Ii (h:zes nms n=Qa x):j1 x=Qe/\dz x=n:=by
 exact⟨(Jm.mp (KN (p:=λx=>dz x==n && j1 x) h:(dz x==n && j1 x)=Qe)).2,beq_iff_eq.mp (Jm.mp (KN (p:=λx=>dz x==n && j1 x) h:(dz x==n && j1 x)=Qe)).1⟩
def Ip (C:bf) (nms:List Str) (c n:Nat) (f:Qj->Str->Bool):Bool:=JC (motive:=λ_=>Bool) (C.ad.lookup c) Qb λca=>JC (motive:=λ_=>Bool) (zes nms n) Qb λx=>plainGet C.K ca x && hasDictIn C.K ca && f ca x
def El {c:Nat}{f:Qj->Str->Bool} (hf: ∀a x,f a x=Qe->P a x) (h:Ip C nms c n f=Qe):qR C c n P:=by
 refine(rY h).elim λca zq26=>?_;have h:=zq26.2;refine(rY h).elim λx zq25=>?_;have h:=zq25.2;have h:=Jm.mp h;exact⟨ca,x,zq26.1,(Ii zq25.1).1,(Ii zq25.1).2,(Jm.mp h.1).1,(Jm.mp h.1).2,hf _ _ h.2⟩
def zfu (o:Option CFound) (v:Value):Bool:=JC (motive:=λ_=>Bool) o Qb λx=>CFound.casesOn (motive:=λ_=>Bool) x (λu=>u==v) λ_ _ _ _=>Qb
def zcG {o:Option CFound} (h:zfu o v=Qe):o=Qa (.val v):=by
 rcases o with _|_|_
 ·exact JH h
 ·rw[beq_iff_eq.mp h]
 ·exact JH h
def zak (C:bf) (v:ab) (ca:Qj) (x:Str):Bool:=oo (findIn C.K (.ref ca) x) (λav=>Ft C 5 v av && bif UP C.P v then
 isFn C.K av && (specialIn C.K (.ref ca) "__getattribute__" == Qa (Qa (.builtin "type.__getattribute__")) && JC (motive:=λ_ => Bool) (typeIn C.K (.ref ca)) Qb λmc => readsIn C.K ca mc && zfu (findCls C.K (.ref ca) mc x) av)
 else specialIn C.K av "__get__" == Qa Qd && (handedIn av && !copiedNames.contains x)) Qb
def RU {v:ab} (h:zak C v ca x=Qe):NV C v ca x:=by
 rcases zbF h with ⟨av,e,h⟩| ⟨_,h⟩
 ·have h:=Jm.mp h
  refine⟨av,e,Wv _ _ _ h.1,λhi=>?_,λhi=>?_⟩
  ·rw[hi] at h
   have h1:=Jm.mp h.2;exact(rY (Jm.mp h1.2).2).elim λmc zq24=>⟨h1.1,beq_iff_eq.mp (Jm.mp h1.2).1,mc,zq24.1,(Jm.mp zq24.2).1,zcG (Jm.mp zq24.2).2⟩
  ·rw[hi] at h
   have h1:=Jm.mp h.2;exact⟨beq_iff_eq.mp h1.1,(Jm.mp h1.2).1,Xz _▸(Jm.mp h1.2).2⟩
 ·exact JH h
def zfi (C : bf) (ca : Qj) (x : Str) : Bool := JC (motive:=λ_ => Bool) (findIn C.K (.ref ca) x) Qb λat' => noGet C.K at' && (takerIn C.K ca x == Qa Qd && (findIn C.K (.ref ca) "__setattr__" == Qa (Qa (.builtin "object.__setattr__")) && plainOver C.K ca))
def zcw (h:zfi C ca x=Qe):zdc C ca x:=by
 refine(rY h).elim λat' zq23=>?_;have h2:=Jm.mp (Jm.mp zq23.2).2;exact⟨at',zq23.1,(Jm.mp zq23.2).1,beq_iff_eq.mp h2.1,beq_iff_eq.mp (Jm.mp h2.2).1,(Jm.mp h2.2).2⟩
def SW (C : bf) (c i : Nat) : Bool := JC (motive:=λ_ => Bool) (C.ad.lookup c) Qb λca => JC (motive:=λ_ => Bool) (C.ad.lookup i) Qb λfI => makesIn C.K ca && (findIn C.K (.ref ca) "__init__" == Qa (Qa (.ref fI)) && (isFn C.K (.ref fI) && keepIn C.K (.ref ca)))
def Ro {c:Nat} (h:SW C c i=Qe):VH C c i:=by
 refine(rY h).elim λca zq22=>?_;refine(rY zq22.2).elim λfI zq21=>?_;have h2:=Jm.mp (Jm.mp zq21.2).2;exact⟨ca,fI,zq22.1,zq21.1,(Jm.mp zq21.2).1,beq_iff_eq.mp h2.1,(Jm.mp h2.2).1,(Jm.mp h2.2).2⟩
def cH (C:bf) (nms:List Str) (k:Cl):Bool:=(k.jz.all λp=>Ip C nms k.ij p.1 (zak C p.2)) && ((k.rj.all λn=>Ip C nms k.ij n (zfi C)) && (k.rh.all λi=>SW C k.ij i))
def MQ {f g:α->Option β}: ∀ {l:List α},(∀x∈l,f x=g x) ->l.filterMap f=l.filterMap g:=by
 intro l
 induction l with
 |nil=>exact λ_=>rfl
 |cons x l ih=>intro h;rw[KO,KO,h x (.head _),ih λy hy=>h y (.tail _ hy)]
def BE: ∀ {vs:List Value},xs.Nodup->vs.length=xs.length->(∀n∈xs,((xs.zip vs).lookup n).isSome=Qe)/\(xs.filterMap λn=>((xs.zip vs).lookup n).map (n,·))=xs.zip vs:=by
 induction xs with
 |nil=>exact λ_ _=>⟨λ_ h=>absurd h JB,rfl⟩
 |cons x xs ih=>
  intro vs nd hl;cases vs with
  |nil=>exact Nat.noConfusion hl
  |cons v vs=>
   have nd:=JI.mp nd;have ne: ∀n∈xs,(((x::xs).zip (v::vs)).lookup n)=(xs.zip vs).lookup n:=λn hn=>by
    simp only[Yg,ZG,beq_false_of_ne (show n≠x from λe=>nd.1 (e▸hn))]
   refine⟨λn hn=>?_,?_⟩
   ·rcases JM.mp hn with rfl|hn
    ·simp only[Yg,ZG,beq_self_eq_true];rfl
    ·rw[ne n hn];exact((ih (vs:=vs) nd.2 (ZP.inj hl)).1) n hn
   ·rw[KO,(MQ λn hn=>by rw[ne n hn]:(xs.filterMap λn=>(((x::xs).zip (v::vs)).lookup n).map (n,·))=xs.filterMap λn=>((xs.zip vs).lookup n).map (n,·)),(ih (vs:=vs) nd.2 (ZP.inj hl)).2,Yg,ZG,beq_self_eq_true];rfl
def Am (h1:fd.params.posonlyargs= []) (h2:fd.params.vararg=Qd) (h3:fd.params.kwonlyargs= []) (h4:fd.params.kwarg=Qd) (hd:fd.defaults= .none) (hl:vs.length=(fd.params.args.map (·.arg)).length) (nd:(fd.params.args.map (·.arg)).Nodup):
  bindArgs fd ⟨vs,[]⟩=pure ((fd.params.args.map (·.arg)).zip vs):=by
 obtain⟨n,q,⟨po,as,va,ko,kd,ka,df⟩,bo,sc,gl,cl,de,kw,dc,pm,an,co,ct,bu⟩:=fd;obtain rfl:po= []:=h1;obtain rfl:va=none:=h2;obtain rfl:ko= []:=h3;obtain rfl:ka=none:=h4;obtain rfl:de= .none:=hd;obtain⟨e1,e2⟩:=BE nd hl;delta bindArgs
 dsimp only
 generalize as.map (·.arg)=xs at*
 refine(if_neg (c:=(decide (vs.length>xs.length) && Qe)=Qe) (by rw(occs:=.all) [hl,decide_eq_false (Zb _)];exact Za)).trans ?_;have hD: ∀n,qaa n ((Qd:Option (Array Value)).getD #[]).toList= []:=λn=>YZ;refine(if_neg ?_).trans ?_
 ·show ¬(!((xs.take (xs.length-(qaa _ _).length)).filter λn=>((xs.zip vs).lookup n).isNone).isEmpty)=Qe
  rw(occs:=.all) [hD,qai,qbm,Zc,List.filter_eq_nil_iff.mpr λn hn=>?_]
  ·exact Za
  ·rw(occs:=.all) [Ki]
   intro q
   have:=e1 n hn
   rw(occs:=.all) [q] at this
   exact JH this
 refine(congrArg (λz=>forIn z _ _>>=_) (by rw(occs:=.all) [hD];exact List.zip_nil_right:List.zip (qaa _ _) (qaa _ _)= [])).trans ?_;exact congrArg (pure:List (Str×Value) ->Sem (List (Str×Value))) ((by rw(occs:=.all) [Zm];exact e2:((xs++ []).filterMap λn=>((xs.zip vs).lookup n).map (n,·))=xs.zip vs))
def stm? (b:FuncBody):Option (List Qw):=FuncBody.casesOn (motive:=λ_=>Option (List Qw)) b Qa (λ_=>Qd)
def stm?_s {b:FuncBody}{l:List Qw}:stm? b=Qa l->b= .stmts l:=by
 cases b<;>first|exact λe=>af e|(intro e;refine lW e ?_;rfl)
structure jR where
 a:Qj
 o:Obj
 fd:QR
def MR (C:bf) (f:Fn):Option jR:=(C.ad.lookup f.ij).bind λa=>(C.K.lookup a).bind λo=>(Data.func? o.data).map λfd=>⟨a,o,fd⟩
def Ng (C:bf) (gl:List (Str×ab)) (f:Fn):Option (Nat×Nat×List Sm):=(MR C f).bind λp=>(stm? p.fd.body).bind λb=>Vn gl p.fd.params b p.fd.scope
def yi {α:Type} [BEq α]:List α->Bool
 | []=>Qe
 |a::r=>!r.contains a && yi r
def Il [BEq α] [LawfulBEq α]: ∀ {l:List α},yi l=Qe->l.Nodup:=by
 intro l
 induction l with
 |nil=>exact λ_=>List.nodup_nil
 |cons a r ih=>
  intro h;have h:=Jm.mp h;refine JI.mpr ⟨λhm=>?_,ih h.2⟩;rw[Ym.mpr hm] at h;exact JH h.1
def DU (fd:QR):Bool:=fd.params.posonlyargs.isEmpty && (fd.params.vararg.isNone && (fd.params.kwonlyargs.isEmpty && (fd.params.kwarg.isNone && fd.defaults== .none)))
def jn (C:bf) (f:Fn):Bool:=JC (motive:=λ_=>Bool) (MR C f) Qb λp=>(p.fd.globals==mainGlobals && (p.fd.closure.isEmpty && (p.fd.builtins==builtinsNs && (codeIn C.K p.fd.code p.fd.qualname && keepIn C.K (.ref p.a))))) && ((yi (p.fd.params.args.map (·.arg)) && yi ((cellsFrom 0 p.fd.scope.names []).map (·.1))) && (!f.pd.isEmpty||DU p.fd))
def VJ (C:bf) (f:Fn):Prop:=f.pd≠ []-> ∀p,MR C f=Qa p->xR C f p.fd (p.fd.params.args.map (·.arg))
def zfk (k1:fd.globals=mainGlobals) (k2:fd.closure= []) (k3:fd.builtins=builtinsNs) (k4:fd.body= .stmts b):fd=fnOf fd.name fd.qualname fd.params b fd.scope fd.defaults fd.kwdefaults fd.doc fd.pyModule fd.annotations fd.code fd.closureTuple:=by
 cases fd;subst k1;subst k2;subst k3;cases k4;rfl
theorem C5 (h:DU fd=Qe) (hl:vs.length=(fd.params.args.map (·.arg)).length) (nd:(fd.params.args.map (·.arg)).Nodup):bindArgs fd ⟨vs,[]⟩=pure ((fd.params.args.map (·.arg)).zip vs):=
 let h7:=Jm.mp h
 let h8:=Jm.mp h7.2
 let h9:=Jm.mp h8.2
 let h10:=Jm.mp h9.2
 Am (YX.mp h7.1) (Ki.mp h8.1) (YX.mp h9.1) (Ki.mp h10.1) (beq_iff_eq.mp h10.2) hl nd
def jC {f:Fn} (e1:C.ad.lookup f.ij=Qa a) (e2:C.K.lookup a=Qa o) (e3:Data.func? o.data=Qa fd) (eb:stm? fd.body=Qa b) (hc:Vn gl fd.params b fd.scope=Qa (f.np,f.ns,f.body)) (hD:f.pd≠ []->xR C f fd (fd.params.args.map (·.arg)))
  (h1:(fd.globals==mainGlobals && (fd.closure.isEmpty && (fd.builtins==builtinsNs && (codeIn C.K fd.code fd.qualname && keepIn C.K (.ref a)))))=Qe) (nd:(fd.params.args.map (·.arg)).Nodup) (nc:((cellsFrom 0 fd.scope.names []).map (·.1)).Nodup) (h2:(!f.pd.isEmpty||DU fd)=Qe):Lh C gl f:=by
 have h1:=Jm.mp h1;have h4:=Jm.mp (Jm.mp h1.2).2;have ef:=zfk (beq_iff_eq.mp h1.1) (YX.mp (Jm.mp h1.2).1) (beq_iff_eq.mp h4.1) (stm?_s eb);exact⟨a,fd.name,fd.qualname,fd.params,b,fd.scope,fd.defaults,fd.kwdefaults,fd.doc,fd.pyModule,fd.annotations,fd.code,fd.closureTuple,o.cls,o.dict,o.slots,e1,ef▸func?_s e3▸e2,(Jm.mp h4.2).1,hc,(Jm.mp h4.2).2,ef▸((Decidable.em (f.pd= [])).elim .inr λh=> .inl (hD h):xR C f fd (fd.params.args.map (·.arg))\/f.pd= []).elim id λhd=> .inl ⟨hd,λvs hl=>C5 ((Xm.mp h2).resolve_left (by rw[hd];exact λh=>JH h)) (hl.trans (by obtain⟨_,_,_,_,_,np⟩:=Vm hc;exact np:(fd.params.args.map (·.arg)).length=f.np).symm) nd⟩,nd,nc⟩
def zfh {f:Fn} (h:jn C f=Qe) (hc:Ng C gl f=Qa (f.np,f.ns,f.body)) (hD:VJ C f):Lh C gl f:=by
 refine xEA (rY h) λp e h=>?_;delta Ng at hc;rw[e] at hc;refine xEA (bs (show ((stm? p.fd.body).bind λb=>Vn gl p.fd.params b p.fd.scope)=_ from hc)) λb eb hc=>?_;have hD:=λh=>hD h p e;refine xEA (bs e) λa e1 e=>?_;refine xEA (bs e) λo e2 e=>?_;refine(ms e).elim λfd zq14=>?_;obtain rfl:=zq14.2;have h5:=Jm.mp (Jm.mp h).2;exact jC e1 e2 zq14.1 eb hc hD (Jm.mp h).1 (Il (Jm.mp h5.1).1) (Il (Jm.mp h5.1).2) h5.2
def C4 (o:Obj):Bool:=qae (motive:=λ_=>Bool) o.data Qe (λ_=>Qb) (λ_ _=>Qb) (λ_ _=>Qb) (λ_ _ _=>Qb) (λ_ _=>Qb) (λ_=>Qb) (λ_=>Qb) (λ_=>Qb) (λ_=>Qb) Qb
def M5 (o:Obj):Bool:=qae (motive:=λ_=>Bool) o.data Qb (λ_=>Qb) (λ_ _=>Qb) (λes _=>es.isEmpty) (λ_ _ _=>Qb) (λ_ _=>Qb) (λ_=>Qb) (λ_=>Qb) (λ_=>Qb) (λ_=>Qb) Qb
def My (C:bf) (p:Nat×Nat):Bool:=JC (motive:=λ_=>Bool) (C.ad.lookup p.1) Qb λa=>JC (motive:=λ_=>Bool) (C.ad.lookup p.2) Qb λca=>JC (motive:=λ_=>Bool) (C.K.lookup a) Qb λo=>JC (motive:=λ_=>Bool) o.dict Qb λdx=>
 JC (motive:=λ_ => Bool) (C.K.lookup dx) Qb λo' => (o.cls == .ref ca && (C4 o && o.slots.isEmpty)) && ((o'.cls == .type "dict" && o'.dict.isNone) && (M5 o' && o'.slots.isEmpty))
def C3 (h:C4 o=Qe):o.data= .plain:=by
 obtain⟨c,d,x,s⟩:=o;cases x<;>first|rfl|exact JH h
def M4 (h:M5 o=Qe): ∃n,o.data= .dict #[] n:=by
 obtain⟨c,d,x,s⟩:=o;cases x with
 |dict es n=>exact⟨n,by rw[XE.mp h]⟩
 |_=>exact JH h
def Rl {p:Nat×Nat} (h:My C p=Qe):VG C p.1 p.2:=by
 refine(rY h).elim λa zq13=>?_;have h:=zq13.2;refine(rY h).elim λca zq12=>?_;have h:=zq12.2;refine(rY h).elim λo zq11=>?_;have h:=zq11.2;refine(rY h).elim λdx zq10=>?_;have h:=zq10.2;refine xEA (rY h) λo' e5 h=>?_;have h1:=Jm.mp (Jm.mp h).1;have h4:=Jm.mp (Jm.mp (Jm.mp h).2).1;have h5:=Jm.mp (Jm.mp (Jm.mp h).2).2;refine xE (M4 h5.1) λn e6=>?_;refine⟨a,ca,dx,n,zq13.1,zq12.1,?_,?_⟩
 ·simp only[zq11.1,<-beq_iff_eq.mp h1.1,<-zq10.1,<-C3 (Jm.mp h1.2).1,<-XE.mp (Jm.mp h1.2).2]
 ·obtain⟨c,d,x,s⟩:=o'
  cases beq_iff_eq.mp h4.1;cases Ki.mp h4.2;subst e6;cases XE.mp h5.2;exact e5
def jG (C : bf) : Bool := C.ad.all λp => JC (motive:=λ_ => Bool) (C.K.lookup p.2) Qb λo => !(o.cls == .type "tuple")
def zih (C:bf):Bool:=(C.K.lookup 0).isSome && ((C.K.lookup 1).isSome && ((C.K.lookup 2).isSome && (C.K.lookup 3).isSome))
def Rm {l:List (Nat×Qj)}:(l.map (·.2)).Nodup-> ∀ {i j:Nat}{a:Qj},(i,a)∈l->(j,a)∈l->i=j:=by
 induction l with
 |nil=>exact λ_ _ _ _ h _=>absurd h JB
 |cons p r ih=>
  intro hn i j a h1 h2;have hn:=JI.mp hn;rcases JM.mp h1 with h1|h1<;>rcases JM.mp h2 with h2|h2
  ·exact congrArg (·.1) (h1.trans h2.symm)
  ·exact absurd (JJ.mpr ⟨(j,a),h2,show a=p.2 from congrArg (λq:Nat×Qj=>q.2) h1⟩) hn.1
  ·exact absurd (JJ.mpr ⟨(i,a),h1,show a=p.2 from congrArg (λq:Nat×Qj=>q.2) h2⟩) hn.1
  ·exact ih hn.2 h1 h2
def zcF (h1:jG C=Qe) (h2:yi (C.ad.map (·.2))=Qe) (h3:zih C=Qe):rW C:=by
 refine⟨λid a h=>?_,λi j a hi hj=>Rm (Il h2) (kR hi) (kR hj),λb hb=>?_⟩
 ·refine(rY (ZF.mp h1 _ (kR h))).elim λo zq7=>?_
  have h:=zq7.2;exact⟨o,zq7.1,λhc=>by rw[hc] at h;exact absurd h (by decide+kernel)⟩
 ·have h3:=Jm.mp h3
  have h4:=Jm.mp h3.2;have h5:=Jm.mp h4.2;rcases b with _|_|_|_|b
  ·exact Zw.mp h3.1
  ·exact Zw.mp h4.1
  ·exact Zw.mp h5.1
  ·exact Zw.mp h5.2
  ·exact absurd hb (ZU.mpr (Jw 4 b))
def za0 (hc:C.P.nh.map (Ng C gl)=C.P.nh.map λf=>Qa (f.np,f.ns,f.body)) (hf:C.P.nh.all (jn C)=Qe) (hD: ∀f∈C.P.nh,VJ C f) (hg:gl.all (b9 C)=Qe) (hi:C.P.jv.all (My C)=Qe) (hk:C.P.cls.all (cH C nms)=Qe) (h5:rW C) (h6:EU C):nC C gl:=by
 have cls: ∀ {c k},C.P.fv c=Qa k->k.ij=c/\cH C nms k=true:=λ{c k} h=>⟨beq_iff_eq.mp (KN (p:=λx:Cl=>x.ij==c) h),ZF.mp hk k (Kj h)⟩;refine⟨λx v h=>ze7 (ZF.mp hg (x,v) (kR h)),λa f h=>?_,λid c h=>?_,λc n v h=>?_,λc n h=>?_,λc k i h hi=>?_,h5,h6⟩
 ·have hm:=Kj h
  exact⟨beq_iff_eq.mp (KN (p:=λf:Fn=>f.ij==a) h),zfh (ZF.mp hf f hm) (List.map_inj_left.mp hc f hm) (hD f hm)⟩
 ·obtain⟨p,hp,rfl⟩:=ms h
  rw[<-beq_iff_eq.mp (KN (p:=λp:Nat×Nat=>p.1==id) hp)];exact Rl (ZF.mp hi p (Kj hp))
 ·obtain⟨k,hk,h⟩:=bs h
  obtain⟨p,hp,rfl⟩:=ms h;obtain⟨e,hb⟩:=cls hk;rw[<-e,<-beq_iff_eq.mp (KN (p:=λp:Nat×ab=>p.1==n) hp)];exact El (λ_ _=>RU) (ZF.mp (Jm.mp hb).1 p (Kj hp))
 ·unfold ik.cz at h
  cases hk:C.P.fv c with
  |none=>rw[hk] at h;exact JH h
  |some k=>
   rw[hk] at h;rw[<-(cls hk).1];exact El (λ_ _=>zcw) (ZF.mp (Jm.mp (Jm.mp (cls hk).2).2).1 n (Ym.mp h))
 ·obtain⟨e,hb⟩:=cls h
  have:=(Jm.mp (Jm.mp hb).2).2
  rw[hi] at this;rw[<-e];exact Ro this
def Ew {ns:List Int} (h:Ja vs ns):kf_ints vs=Qe/\lks_nums vs=ns:=by
 induction h with
 |nil=>exact⟨rfl,rfl⟩
 |cons n t _ ih=>exact⟨ih.1,congrArg (n:: ·) ih.2⟩
def zcV {l:List Int} (h:l.Pairwise (· <= ·)):lks_asc l=true:=by
 induction h with
 |nil=>rfl
 |cons h _ ih=>exact Jm.mpr ⟨ZF.mpr λb hb=>decide_eq_true (h b hb),ih⟩
def BX {t:Nat->Tok}: ∀ {l:List Int}{i:Nat},jU C w (l.map ab.int) (Ji l i t):=by
 intro l
 induction l with
 |nil=>exact λ{i} => .nil
 |cons a l ih=>exact λ{i} => .cons ⟨_,rfl⟩ ih
def Gl (l:List Int):(wC l).Perm l/\(wC l).Pairwise (· <= ·):=by
 refine⟨Xn ..,?_⟩
 have:=List.pairwise_mergeSort (le:=λa b:Int=>decide (a<=b)) (λa b c h1 h2=>decide_eq_true (Int.le_trans (of_decide_eq_true h1) (of_decide_eq_true h2))) (λa b=>by rcases Int.le_total a b with h|h<;>simp [h]) l
 exact this.imp λh=>of_decide_eq_true h
def tq (s:List Nat):Str:=⟨s.toArray⟩
theorem U0 {a b:Nat}:Zj a b=Qe ↔ a<=b:=⟨Nat.le_of_ble_eq_true,KF⟩
def zX (a:List Nat): ∀b:List Nat,P5 a b=decide (a<b):=by
 induction a with
 |nil=>
  intro b;cases b with
  |nil=>rfl
  |cons y b=>exact(decide_eq_true (List.nil_lt_cons y b)).symm
 |cons x a ih=>
  intro b;cases b with
  |nil=>exact(decide_eq_false (List.not_lt_nil _)).symm
  |cons y b=>
   show Bool.rec (motive:=λ_=>Bool) (Bool.rec (motive:=λ_=>Bool) (P5 a b) Qb (Zj (ZP y) x)) Qe (Zj (ZP x) y)=_;rw[ih,Ku,decide_eq_true_eq,List.cons_lt_cons_iff];cases q:Zj (ZP x) y with
   |true=>exact⟨λ_=> .inl (U0.mp q),λ_=>rfl⟩
   |false=>
    have q1: ¬x<y:=λe=>by rw[U0.mpr e] at q;cases q
    cases q':Zj (ZP y) x with
    |true=>exact⟨λe=>(JH e:False).elim,λe=>e.elim (λe=>absurd e q1) λe=>absurd (U0.mp q') (by rw[e.1];exact Zb _)⟩
    |false=>
     exact⟨λe=> .inr ⟨Zt (ZU.mp (λe=>by rw[U0.mpr e] at q';cases q')) (ZU.mp q1),of_decide_eq_true e⟩,λe=>e.elim (λe=>absurd e q1) λe=>decide_eq_true e.2⟩
variable {key:Nat->O.α}
def KP (key:Nat->O.α) (p:Array Nat) (k:Nat):O.α:=key (p.getD k 0)
def Lc (key:Nat->O.α) (p:Array Nat) (k:Nat):Prop:= ∀i j,i<=j->j<k->O.kle (KP key p i) (KP key p j)
def VI (key:Nat->O.α) (p:Array Nat) (k:Nat):Prop:= ∀i j,i<=j->j<k->O.kle (KP key p j) (KP key p i)
def Ask (key:Nat->O.α) (n:Nat) (ew:Nat->Nat->(Bool->Qf->Prop) ->Qf->Prop) (s:Qf):Prop:=
 ∀ (i j:Nat) (C:Bool->Qf->Prop),i<n->j<n->C (O.blt (key i) (key j)) s->ew i j C s
abbrev mM (n:Nat) (p:Array Nat):Prop:=p.Perm (Zg n).toArray
def qQ (h:mM n p):p.size=n:=by
 have:=h.size_eq
 simpa using this
def mM.lt (h:mM n p) (hn:0<n) (k:Nat):p.getD k 0<n:=by
 by_cases hk:k<p.size
 ·have e:p.getD k 0=p[k]:=by simp [Array.getD,hk]
  rw[e];have hm:p[k] ∈p.toList:=by simp
  have:=(Array.perm_iff_toList_perm.mp h).mem_iff.mp hm
  simpa using this
 ·have e:p.getD k 0=0:=by simp [Array.getD,hk]
  rw[e];exact hn
def tL {q:Array Nat} (h:p[i]?=q[j]?):KP key p i=KP key q j:=by
 delta KP
 have: ∀ (p:Array Nat) (i:Nat),p.getD i 0=(p[i]?).getD 0:=λp i=>by simp [Array.getD_eq_getD_getElem?]
 simp only[this,this,h]
def U3 {xs:Array Nat} (hs:src<xs.size) (hd:d<=src) (k:Nat):
  KP key (bubble xs src d) k=if k=src-d then KP key xs src else if src-d<k/\k<=src then KP key xs (k-1) else KP key xs k:=by
 have e:=getElem?_bubble hs d hd k;by_cases h1:k=src-d
 ·rw[if_pos h1] at e ⊢;exact tL e
 ·rw[if_neg h1] at e ⊢
  by_cases h2:src-d<k/\k<=src
  ·rw[if_pos h2] at e ⊢;exact tL e
  ·rw[if_neg h2] at e ⊢;exact tL e
def yT {xs:Array Nat} (hj:j<=xs.size) (k:Nat):
  KP key (Jg xs i j) k=if i<=k/\k<j then KP key xs (i+j-1-k) else KP key xs k:=by
 have e:=getElem?_mirror_all (i:=i) hj k;delta Jg;by_cases h1:i<=k/\k<j
 ·rw[if_pos h1] at e ⊢;exact tL e
 ·rw[if_neg h1] at e ⊢;exact tL e
def lZ {xs:Array Nat} (hj:j<=xs.size) (heq: ∀k,i<=k->k<j->KP key xs k=KP key xs (j-1)) (k:Nat):
  KP key (Jg xs i j) k=KP key xs k:=by
 rw[yT hj];split
 ·rw[heq _ (by lia) (by lia),heq k (by lia) (by lia)]
 ·rfl
theorem mM.yc (h:mM n p) (i j:Nat):mM n (Jg p i j):=(mirror_perm _ _ _ _).trans h
theorem mM.jE (h:mM n p) (i j:Nat):mM n (bubble p i j):=(bubble_perm _ _ _).trans h
theorem Ae (hc:Ask key n ew s) (hp:mM n p) {G:Nat->Qf->Prop}: ∀ (f a:Nat),a+f=n->1<=a->Lc key p a->
  (∀m,a<=m->m<=n->Lc key p m->(m=n\/O.klt (KP key p m) (KP key p (m-1))) ->G m s) ->(kas_asc p f a).kasWp ew G s
 |0,a,ha,h1,hs,h=>h a (Jv _) (Jl (Jo _ _) (Jx ha)) hs (.inl (by lia))
 |f+1,a,ha,h1,hs,h=>by
  refine hc _ _ _ (hp.lt (J5 (Jl (ZS h1) (Jx ha))) _) (hp.lt (J5 (Jl (ZS h1) (Jx ha))) _) ?_;cases hless:O.blt (key (p.getD a 0)) (key (p.getD (a-1) 0)) with
  |true=>
   dsimp only
   simp only[if_pos rfl];exact h a (Jv _) (Jl (Jo _ _) (Jx ha)) hs (.inr hless)
  |false=>
   dsimp only;rw[if_neg Za]
   refine Ae hc hp f (a+1) (by lia) (Jw _ _) (λi j hij hj=>?_) λm hm1 hm2 hs' ho=>h m (JK (J5 hm1)) hm2 hs' ho;by_cases hjx:j<a
   ·exact hs i j hij hjx
   ·have hj':j=a:=Zt (JN hj) (J7 hjx)
    subst hj';by_cases hi':i=j
    ·refine eqE hi' ?_;exact KeyOrd.kle_refl _
    ·exact KeyOrd.kle_trans (hs i (j-1) (Nat.le_sub_one_of_lt (J8 hij hi')) (YF (J5 h1) (Zs _))) hless
def HA (hc:Ask key n ew s) (hp:mM n p) {a:Nat} (h1:1<=a) (han:a<=n) (hs:VI key p a) 
  (h: ∀m p',mM n p'->1<=m->m<=n->Lc key p' m->G (m,p') s):(kas_tail3 a n p).kasWp ew G s:=by
 delta kas_tail3;rw[KasT.kasWp_bind];have hsz:=qQ hp;refine Ae hc (hp.yc 0 a) (n-a) a (Yr han) h1 (λi j hij hj=>?_) λm hm1 hm2 hs' _=>h m _ (hp.yc 0 a) (Jl h1 hm1) hm2 hs';rw[yT (Jl han (Jx (K7 hsz))),yT (Jl han (Jx (K7 hsz))),if_pos (by lia),if_pos (by lia)];exact hs _ _ (Nat.sub_le_sub_left hij _) (by lia)
theorem zZ (hc:Ask key n ew s) {G:Array Nat×Nat×Nat->Qf->Prop}: ∀ (f:Nat) (p:Array Nat) (a q:Nat),mM n p->a+f=n->1<=a->VI key p a->q+1<=a->(∀i,a-(q+1)<=i->i<a->KP key p i=KP key p (a-1)) ->
  (∀p' m q',mM n p'->1<=m->m<=n->VI key p' m->q'+1<=m->(∀i,m-(q'+1)<=i->i<m->KP key p' i=KP key p' (m-1)) ->G (p',m,q') s) ->(kas_desc f p a q).kasWp ew G s
 |0,p,a,q,hp,ha,h1,hs,hq,he,h=>h p a q hp h1 (Jl (Jo _ _) (Jx ha)) hs hq he
 |f+1,p,a,q,hp,ha,h1,hs,hq,he,h=>by
  have hsz:=qQ hp;refine hc _ _ _ (hp.lt (J5 (Jl (ZS h1) (Jx ha))) _) (hp.lt (J5 (Jl (ZS h1) (Jx ha))) _) ?_;cases hless:O.blt (key (p.getD a 0)) (key (p.getD (a-1) 0)) with
  |true=>
   dsimp only
   rw[if_pos rfl];have step1: ∀xs:Array Nat,(∀k,KP key xs k=KP key p k) ->VI key xs (a+1):=by
    intro xs hk i j hij hj;simp only[hk,hk];by_cases hjx:j<a
    ·exact hs i j hij hjx
    ·have hj':j=a:=Zt (JN hj) (J7 hjx)
     subst hj';by_cases hi':i=j
     ·refine eqE hi' ?_;exact KeyOrd.kle_refl _
     ·exact KeyOrd.kle_trans (KeyOrd.kle_of_klt hless) (hs i (j-1) (Nat.le_sub_one_of_lt (J8 hij hi')) (YF (J5 h1) (Zs _)))
   by_cases hneq:q>0
   ·rw[if_pos hneq]
    exact zZ hc f _ (a+1) 0 (hp.yc _ _) (by lia) (Jw _ _) (step1 _ (lZ (Jl (Jl (Jo _ _) (Jx ha)) (Jx (K7 hsz))) he)) (Jw _ _) (λi h1 h2=>by congr 1;exact Zt (Nat.le_sub_one_of_lt h2) h1) h
   ·rw[if_neg hneq]
    exact zZ hc f _ (a+1) 0 hp (by lia) (Jw _ _) (step1 _ λ_=>rfl) (Jw _ _) (λi h1 h2=>by congr 1;exact Zt (Nat.le_sub_one_of_lt h2) h1) h
  |false=>
   dsimp only;rw[if_neg Za]
   refine hc _ _ _ (hp.lt (J5 (Jl (ZS h1) (Jx ha))) _) (hp.lt (J5 (Jl (ZS h1) (Jx ha))) _) ?_;cases hlarger:O.blt (key (p.getD (a-1) 0)) (key (p.getD a 0)) with
   |true=>
    dsimp only
    simp only[if_pos rfl];exact h p a q hp h1 (Jl (Jo _ _) (Jx ha)) hs hq he
   |false=>
    dsimp only;rw[if_neg Za]
    have heqx:KP key p a=KP key p (a-1):=KeyOrd.kle_antisymm hlarger hless;refine zZ hc f p (a+1) (q+1) hp (by lia) (Jw _ _) (λi j hij hj=>?_) (Zn hq) (λi h1 h2=>?_) h
    ·by_cases hjx:j<a
     ·exact hs i j hij hjx
     ·have hj':j=a:=Zt (JN hj) (J7 hjx)
      subst hj';by_cases hi':i=j
      ·refine eqE hi' ?_;exact KeyOrd.kle_refl _
      ·rw[heqx];exact hs i (j-1) (Nat.le_sub_one_of_lt (J8 hij hi')) (YF (J5 h1) (Zs _))
    ·rw[show a+1-1=a by exact Nat.add_sub_cancel _ _]
     by_cases hix:i=a
     ·refine eqE hix ?_;rfl
     ·rw[heqx];exact he i (by lia) (J8 (JN h2) hix)
def y0 (hc:Ask key n ew s) (hp:mM n p) {a:Nat} (han:a+1<=n) (hs:VI key p (a+1)) 
  (h: ∀m p',mM n p'->1<=m->m<=n->Lc key p' m->G (m,p') s):(kas_descPart a n p).kasWp ew G s:=by
 delta kas_descPart;rw[KasT.kasWp_bind];refine zZ hc (n-(a+1)) p (a+1) 0 hp (Yr han) (Jw _ _) hs (Jw _ _) (λi h1 h2=>by congr 1;exact Zt (Nat.le_sub_one_of_lt h2) h1) λp' m q hp' hm1 hm2 hs' hq he=>?_;have hsz:=qQ hp'
 dsimp only
 by_cases hneq:q>0
 ·rw[if_pos hneq]
  refine HA hc (hp'.yc _ _) hm1 hm2 (λi j hij hj=>?_) h;simp only[lZ (Jl hm2 (Jx (K7 hsz))) he,lZ (Jl hm2 (Jx (K7 hsz))) he];exact hs' i j hij hj
 ·rw[if_neg hneq]
  exact HA hc hp' hm1 hm2 hs' h
def MJ (hc:Ask key n ew s) (hp:mM n p) (h1:1<=n) 
  (h: ∀m p',mM n p'->1<=m->m<=n->Lc key p' m->G (m,p') s):(kas_count n p).kasWp ew G s:=by
 delta kas_count;rw[KasT.kasWp_bind];have hsz:=qQ hp;refine Ae hc hp (n-1) 1 (Yr h1) (Jv 1) (λi j hij hj=>by have:i=j:=(Zt hij (Jl (JN hj) (Jy _)));subst this;exact KeyOrd.kle_refl _) λa ha1 ha2 hsa hor=>?_;by_cases hnn:a=n
 ·rw[if_pos (by simpa using hnn)]
  exact h a p hp ha1 ha2 hsa
 ·rw[if_neg (by simpa using hnn)]
  by_cases hgt:a>1
  ·rw[if_pos hgt]
   refine hc _ _ _ (hp.lt (J5 h1) _) (hp.lt (J5 h1) _) ?_;cases hrose:O.blt (key (p.getD 0 0)) (key (p.getD (a-1) 0)) with
   |true=>
    dsimp only
    rw[if_pos rfl];exact h a p hp ha1 ha2 hsa
   |false=>
    dsimp only;rw[if_neg Za]
    have hall: ∀k,0<=k->k<a->KP key p k=KP key p (a-1):=by
     intro k _ hk;have a1:=hsa 0 k (Jy _) hk;have a2:=hsa k (a-1) (Nat.le_sub_one_of_lt hk) (YF (J5 ha1) (Zs _));exact KeyOrd.kle_antisymm a2 (KeyOrd.kle_trans hrose a1)
    refine y0 hc (hp.yc _ _) (JY (J8 ha2 hnn)) (λi j hij hj=>?_) h;rw[lZ (Jl ha2 (Jx (K7 hsz))) hall,lZ (Jl ha2 (Jx (K7 hsz))) hall];by_cases hjn:j<a
    ·rw[hall i (Jy _) (Jt hij hjn),hall j (Jy _) hjn];exact KeyOrd.kle_refl _
    ·have hj':j=a:=Zt (JN hj) (J7 hjn)
     subst hj';by_cases hi':i=j
     ·refine eqE hi' ?_;exact KeyOrd.kle_refl _
     ·rw[hall i (Jy _) (J8 hij hi')];exact KeyOrd.kle_of_klt (hor.resolve_left hnn)
  ·rw[if_neg hgt]
   have hn1':a=1:=Zt (J7 hgt) ha1;subst hn1';refine y0 hc hp (JY (J8 ha2 hnn)) (λi j hij hj=>?_) h;by_cases hi':i=j
   ·refine eqE hi' ?_;exact KeyOrd.kle_refl _
   ·have hi0:i=0:=Zt (JN (Js (J8 hij hi') (JN hj))) (Jy _)
    have hj1:j=1:=Zt (JN hj) (JY (Jt (Jy _) (J8 hij hi')));refine eqB hi0 ?_;refine eqB hj1 ?_;exact KeyOrd.kle_of_klt (hor.resolve_left hnn)
theorem W3 (hc:Ask key n ew s) (hp:mM n p) {k:Nat} (hk:k<n) (hs:Lc key p k) {G:Nat->Qf->Prop}
  (h: ∀l,l<=k->(∀i,i<l->O.kle (KP key p i) (KP key p k)) ->(∀i,l<=i->i<k->O.klt (KP key p k) (KP key p i)) ->G l s):
  ∀ (f l r:Nat),l<=r->r<=k->r-l<=f->(∀i,i<l->O.kle (KP key p i) (KP key p k)) ->(∀i,r<=i->i<k->O.klt (KP key p k) (KP key p i)) ->(kas_place p k f l r).kasWp ew G s
 |0,l,r,hlr,hrk,hf,hlo,hhi=>by
  have:l=r:=by lia
  subst this;exact h l hrk hlo hhi
 |f+1,l,r,hlr,hrk,hf,hlo,hhi=>by
  unfold kas_place;by_cases hge:l ≥ r
  ·rw[if_pos hge]
   have:l=r:=Zt hlr hge
   subst this;exact h l hrk hlo hhi
  ·rw[if_neg hge]
   refine hc _ _ _ (hp.lt (Js (Zs _) (JY hk)) _) (hp.lt (Js (Zs _) (JY hk)) _) ?_;cases hless:O.blt (key (p.getD k 0)) (key (p.getD ((l+r) / 2) 0)) with
   |true=>
    dsimp only
    rw[if_pos rfl];exact W3 hc hp hk hs h f l ((l+r) / 2) (by lia) (by lia) (by lia) hlo λi h1 h2=>KeyOrd.klt_of_klt_of_kle hless (hs _ _ h1 h2)
   |false=>
    dsimp only;rw[if_neg Za]
    refine W3 hc hp hk hs h f ((l+r) / 2+1) r (by lia) (hrk) (by lia) (λi h1=>?_) hhi;exact KeyOrd.kle_trans (hs i ((l+r) / 2) (JN h1) (by lia)) hless
theorem MK (hc:Ask key n ew s) {G:Array Nat->Qf->Prop} (h: ∀p,mM n p->Lc key p n->G p s): ∀ (f:Nat) (p:Array Nat) (k:Nat),mM n p->k+f=n->Lc key p k->(kas_bin f p k).kasWp ew G s
 |0,p,k,hp,hk,hs=>h p hp (by rw[show n=k by lia];exact hs)
 |f+1,p,k,hp,hk,hs=>by
  unfold kas_bin;rw[KasT.kasWp_bind];have hsz:=qQ hp;refine W3 hc hp (Js (ZY (Zs _)) (Jx hk)) hs (λl hl hlo hhi=>?_) k 0 k (Jy _) (Jv _) (YG _ _) (λi hi=>by lia) λi h1 h2=>by lia
  refine MK hc h f _ (k+1) (hp.jE _ _) (by lia) ?_;intro i j hij hj;rw[U3 (by lia) (YG _ _),U3 (by lia) (YG _ _),show k-(k-l)=l by lia]
  repeat' split
  all_goals first
   |(exfalso;lia)
   |exact KeyOrd.kle_refl _
   |exact hlo _ (by lia)
   |exact KeyOrd.kle_of_klt (hhi _ (by lia) (by lia))
   |exact hs _ _ (by lia) (by lia)
def Rt (hc:Ask key n ew s) (h1:1<=n) {G:Array Nat->Qf->Prop} (h: ∀p,mM n p->Lc key p n->G p s):(kas_sort n).kasWp ew G s:=by
 delta kas_sort;rw[KasT.kasWp_bind];refine MJ hc (Array.Perm.refl _) h1 λm p hp hm1 hm2 hs=>?_
 dsimp only
 split
 ·rename_i hlt
  have:max m 1=m:=by lia
  rw[this];exact MK hc h _ p m hp (Yr hm2) hs
 ·have:m=n:=by lia
  subst this;exact h p hp hs
def tV {a b:Pr}:mm a b=Qe ↔ a.1<b.1\/(a.1=b.1/\a.2<b.2):=by
 delta mm;by_cases e:a.1=b.1
 ·rw[e,beq_self_eq_true,cond_true,zX,decide_eq_true_eq]
  exact⟨λh=> .inr ⟨rfl,h⟩,λh=>h.elim (λh=>absurd h (List.lt_irrefl _)) λh=>h.2⟩
 ·simp only[beq_false_of_ne e,cond_false,zX,decide_eq_true_eq]
  exact⟨.inl,λh=>h.elim id λh=>absurd h.1 e⟩
abbrev FA:KeyOrd where
 α:=Pr
 blt:=mm
 irrefl a:=by
  cases h:mm a a with
  |false=>rfl
  |true=>exact((tV.mp h).elim (λh=>absurd h (List.lt_irrefl _)) λh=>absurd h.2 (List.lt_irrefl _))
 trans a b c h1 h2:=by
  rw[tV] at h1 h2 ⊢;rcases h1 with h1| ⟨e1,h1⟩
  ·rcases h2 with h2| ⟨e2,h2⟩
   ·exact .inl (List.lt_trans h1 h2)
   ·exact .inl (e2▸h1)
  ·rcases h2 with h2| ⟨e2,h2⟩
   ·exact .inl (e1▸h2)
   ·exact .inr ⟨e1.trans e2,List.lt_trans h1 h2⟩
 negTrans a b c h:=by
  rw[tV] at h ⊢;rw[tV];have tot: ∀ {x y z:List Nat},x<z->x<y\/y<z:=λ{x y z} h=>by
   by_cases q:x<y
   ·exact .inl q
   ·exact .inr (List.lt_of_le_of_lt (List.not_lt.mp q) h)
  rcases h with h| ⟨e,h⟩
  ·rcases tot (y:=b.1) h with q|q
   ·exact .inl (.inl q)
   ·exact .inr (.inl q)
  ·by_cases q:a.1<b.1
   ·exact .inl (.inl q)
   ·by_cases q':b.1<c.1
    ·exact .inr (.inl q')
    ·have e1:a.1=b.1:=List.le_antisymm (e▸List.not_lt.mp q') (List.not_lt.mp q)
     rcases tot (y:=b.2) h with r|r
     ·exact .inl (.inr ⟨e1,r⟩)
     ·exact .inr (.inr ⟨e1.symm.trans e,r⟩)
 total a b h1 h2:=by
  have n1: ¬_:=λq=>Za (h1.symm.trans (tV.mpr q));have n2: ¬_:=λq=>Za (h2.symm.trans (tV.mpr q));have e1:a.1=b.1:=List.le_antisymm (List.not_lt.mp λq=>n2 (.inl q)) (List.not_lt.mp λq=>n1 (.inl q));exact qbe e1 (List.le_antisymm (List.not_lt.mp λq=>n2 (.inr ⟨e1.symm,q⟩)) (List.not_lt.mp λq=>n1 (.inr ⟨e1,q⟩)))
abbrev PLe (a b:Pr):Prop:=FA.kle a b
def UQ (a:Pr) (l:List Pr):(MB a l).Perm (a::l):=by
 induction l with
 |nil=>exact .refl _
 |cons x l ih=>
  show (bif mm x a then x::MB a l else a::x::l).Perm _;cases mm x a with
  |false=>exact .refl _
  |true=>exact(ih.cons x).trans (.swap a x l)
variable {l:List Pr}
def Hz {a:Pr} (h:l.Pairwise PLe):(MB a l).Pairwise PLe:=by
 induction l with
 |nil=>exact List.pairwise_singleton _ _
 |cons x l ih=>
  obtain⟨h1,h2⟩:=List.pairwise_cons.mp h;show (bif mm x a then x::MB a l else a::x::l).Pairwise _;cases q:mm x a with
  |false=>exact List.pairwise_cons.mpr ⟨λy hy=>(JM.mp hy).elim (λe=>e▸q) λhy=>KeyOrd.kle_trans (O:=FA) (b:=x) q (h1 y hy),h⟩
  |true=>exact List.pairwise_cons.mpr ⟨λy hy=>(JM.mp ((UQ a l).mem_iff.mp hy)).elim (λe=>e▸KeyOrd.kle_of_klt (O:=FA) q) (h1 y),ih h2⟩
def qV (l:List Pr):(mB l).Perm l/\(mB l).Pairwise PLe:=by
 induction l with
 |nil=>exact⟨.refl _,.nil⟩
 |cons a l ih=>exact⟨(UQ a _).trans (ih.1.cons a),Hz ih.2⟩
theorem lP (l:List Pr):(mB l).Perm l:=(qV l).1
def L5: ∀ {a b:List Pr},a.Perm b->a.Pairwise PLe->b.Pairwise PLe->a=b:=by
 intro a
 induction a with
 |nil=>intro b p _ _;exact(List.nil_perm.mp p).symm
 |cons x a ih=>
  intro b p ha hb;cases b with
  |nil=>exact(List.perm_nil.mp p)
  |cons y b=>
   have e:x=y:=by
    rcases JM.mp (p.mem_iff.mp (.head _)) with e|hx
    ·exact e
    ·rcases JM.mp (p.mem_iff.mpr (.head _)) with e|hy
     ·exact e.symm
     ·exact KeyOrd.kle_antisymm (O:=FA) ((List.pairwise_cons.mp ha).1 y hy) ((List.pairwise_cons.mp hb).1 x hx)
   subst e;rw[ih (List.Perm.cons_inv p) (List.pairwise_cons.mp ha).2 (List.pairwise_cons.mp hb).2]
def zu (p:Pr):List ao:= [.s (tq p.1),.s (tq p.2)]
section
variable {news:List (Qj×Obj)}
def cW (C:bf) (h:QB) (l:List Pr) (vs:List Value):Prop:=vs.length=l.length/\∀ (i:Nat) (p:Pr),l[i]?=Qa p-> ∃t,vs[i]?=Qa (.ref t)/\QD (kH C.prog C.w) h (zu p) t
def W0 {a b:Str}{ks:List Value} (h:ItemsAre (kH C.prog C.w) [.s a,.s b] ks): ∃t u,ks= [.str a t,.str b u]:=by
 cases h with
 |cons h1 r=>
  cases r with
  |cons h2 r=>
   cases r;obtain⟨t,rfl⟩:=Kn h1;obtain⟨u,rfl⟩:=Kn h2;exact⟨t,u,rfl⟩
def Pg {p q:Pr}{x y:Qj}{Q:Bool->Qf->Prop} (hx:QD (kH C.prog C.w) s.heap (zu p) x) (hy:QD (kH C.prog C.w) s.heap (zu q) y) (h:Q (mm p q) s):
  Qi C.M A (keyLt' (tuples' Qe) (.ref x) (.ref y)) Q E s:=by
 obtain⟨ox,xs,n,g1,_,d1,i1⟩:=hx;obtain⟨oy,ys,k,g2,_,d2,i2⟩:=hy;refine kat_lt g1 d1 g2 d2 ?_;have e1:decide (xs.size<ys.size)=false:=by
  have a1:=congrArg Z3 (W0 i1).choose_spec.choose_spec;have a2:=congrArg Z3 (W0 i2).choose_spec.choose_spec;rw[Array.length_toList] at a1 a2;simp only[a1,a2];rfl
 rw[e1];obtain⟨t,u,e⟩:=W0 i1;obtain⟨t',u',e'⟩:=W0 i2;rw[e] at i1;rw[e'] at i2;simp only[e,e'];have k1:(ao.s (tq p.1)=ao.s (tq q.1)) ↔ p.1=q.1:=⟨λe=>congrArg (λx:Str=>x.cps.toList) (ao.s.inj e),λe=>by rw[e]⟩;cases i1 with
 |cons a1 r1=>
  cases i2 with
  |cons b1 r2=>
   refine kat_cons ((kH C.prog C.w).eqBool a1 b1 (kat_go (λed=>kat_yes ?_) λed=>kat_no ?_))
   ·have e1:=k1.mp (of_decide_eq_true ed)
    cases r1 with
    |cons a2 r1=>
     cases r2 with
     |cons b2 r2=>
      refine kat_cons ((kH C.prog C.w).eqBool a2 b2 (kat_go (λed=>kat_yes (kat_nil ?_)) λed=>kat_no (kat_one _ _ (PyProof.Rows.lt_str ?_))))
      ·have:mm p q=false:=by rw[qbe e1 ((⟨λe=>congrArg (λx:Str=>x.cps.toList) (ao.s.inj e),λe=>by rw[e]⟩:(ao.s (tq p.2)=ao.s (tq q.2)) ↔ p.2=q.2).mp (of_decide_eq_true ed))];exact FA.irrefl q
       rw[this] at h;exact h
      ·have:mm p q=decide (p.2<q.2):=by unfold mm;rw[e1,beq_self_eq_true,cond_true,zX]
       rw[this] at h;exact h
   ·have:mm p q=decide (p.1<q.1):=by unfold mm;rw[beq_false_of_ne (λe=>of_decide_eq_false ed (k1.mpr e): ¬p.1=q.1),cond_false,zX]
    rw[this] at h;exact oneLt_str h
def Fz: ∀ {vs:List Value},cW C s.heap l vs-> ∃fs,KatTups s.heap vs fs/\fs.length=vs.length/\∀f∈fs,∃x t,f= .str x t:=by
 induction l with
 |nil=>intro vs h;rw[ZO.mp h.1];exact⟨[],.nil,rfl,(λ_ h=>absurd h JB)⟩
 |cons p l ih=>
  intro vs h;cases vs with
  |nil=>exact Nat.noConfusion h.1
  |cons v vs=>
   refine xEA (h.2 0 p rfl) λt e cv=>?_;refine xEE cv λo items gq=>?_;refine xEAA gq λn g1 g2 mu=>?_;refine xA mu λg3 g4=>?_;refine soB e ?_;refine xEAA (ih (vs:=vs) ⟨ZP.inj h.1,λi p hp=>h.2 (i+1) p hp⟩) λfs q1 q2 q3=>?_;refine xEE (W0 g4) λa b e=>?_;have hf:items[0]?=Qa (.str (tq p.1) a):=by rw[<-Array.getElem?_toList,e];rfl
   exact⟨_::fs,.cons g1 g2 g3 hf q1,congrArg ZP q2,λf hf=>(JM.mp hf).elim (λe=>⟨_,_,e⟩) (q3 f)⟩
end
section
variable {w:Qn}
def DP {l:Qj}{Q:Value->Qf->Prop}{news:List (Qj×Obj)} (F:Fr h₀ L s.heap m) (N:News h₀ L s.heap news) (hl:s.heap.IsList l vs.toArray) (hz:vs.length<=sizeLine)
  (h : ∀ (D : Qj) (h' : QB),Fr h₀ L h' m -> News h₀ L h' ((D,listOf vs.toArray 0) :: news) -> (∀ q ∈ news,q.1 < D) -> Qi (model prog w) A.in1 (call (.builtin "list.sort") [.ref D]) (λ_ s' => Q (.ref D) s') E { s with heap := h' }) :
  Qi (model prog w) A (call (.builtin "sorted") [.ref l]) Q E s := by
 refine Calls.call_function_entry kind_sorted plain_sorted entry_sorted (args_sorted1 _) ?_;unfold Builtin.«sorted»;refine Qc (m:=checkCount "sorted" 1 1 _) (Qg ?_);refine Qc (collect_list hl ?_ hz);refine Qc (wpAny_newList ?_ hz);have keep1 : ∀ b o,s.heap.get? b = Qa o -> ((s.heap.push (seqObj "list" #[] 0)).update s.heap.objs.size (Obj.mapSeq (· ++ vs.toArray))).get? b = Qa o := λb o q => by
  rw[Heap.get?_update_ne _ _ _ _ (Z8 (K4 q)),Heap.get?_push_ne _ _ _ (Z8 (K4 q))];exact q
 have N1 : News h₀ L ((s.heap.push (seqObj "list" #[] 0)).update s.heap.objs.size (Obj.mapSeq (· ++ vs.toArray))) news := λp hp => ⟨keep1 _ _ (N p hp).1,(N p hp).2⟩;exact Qc (Qk (Qo (h _ _ ((F.keeps keep1).push { cls := .type "list",data := .seq vs.toArray }) (News.push (F.keeps keep1) N1 { cls := .type "list",data := .seq vs.toArray } rfl) (λq hq => K4 (N1 q hq).1)) (λ_ s' x => Qg ⟨_,rfl,x⟩) λ_ _ e => e))
def Fu {Q:Value->Qf->Prop}{news:List (Qj×Obj)} (F:Fr h₀ L s.heap m) (N:News h₀ L s.heap ((a,listOf vs.toArray n)::news)) (hna: ∀p∈news,p.1≠a) (h2:vs.length<2)
  (h : ∀ h' c,Fr h₀ L h' m -> News h₀ L h' ((a,listOf vs.toArray c) :: news) -> Q .none { s with heap := h' }) : Qi (model prog w) A (call (.builtin "list.sort") [.ref a]) Q E s := by
 have nz:=N (a,listOf vs.toArray n) (.head _);have ho : s.heap.get? a = Qa (seqObj "list" vs.toArray n) := nz.1;refine Qs slot_list_sort ⟨_,nz.1,rfl⟩ entry_list_sort ?_ (args_list_sort _);have s1:=Heap.SameBut.update s.heap a (Obj.mapSeq λ_=>(#[]:Array Value));obtain⟨e1,ho1⟩ : ∃ e1,(s.heap.update a (Obj.mapSeq λ_ => (#[] : Array Value))).get? a = Qa (seqObj "list" #[] e1) := ⟨_,get?_update_seq ho λ_ => #[]⟩;have hsl:sizeLine=16777216:=Q8;rw[list_sort_plain];refine Qc (listItems_at ho rfl ?_);refine Qc (listUpdate_at ho rfl ?_ (by rw[ZC];exact Jl (JK (Nat.lt_add_left _ h2)) (Jx (K7 hsl))) (Jy _));refine Qc (seqEpoch_at ho1 rfl ?_);refine Qc (wpAny_newTuple ?_ (by show vs.length<=_;exact Jl (JK (Nat.lt_add_left _ h2)) (Jx (K7 hsl))));refine Qc (wpAny_newList ?_ (Jy _));refine Qk ?_
 dsimp only
 have hn2:vs.toArray.size<2:=by rw[ZC];exact h2
 refine wP hn2 ?_;rw[if_pos hn2];refine Qc (Qg (Qc (Qg ?_)))
 dsimp only
 have harr:(arrOf (SortSt.mk' general' (vs.toArray.zip vs.toArray) #[] 7 Qd)).map (·.2)=vs.toArray:=by
  show (vs.toArray.zip vs.toArray).map (·.2)=vs.toArray
  apply Array.toList_inj.mp
  simp [List.map_snd_zip]
 refine Qc (seqEpoch_at (Heap.get?_push_of_some _ (Heap.get?_push_of_some _ ho1)) rfl ?_);rw[harr];refine Qc (listUpdate_at (Heap.get?_push_of_some _ (Heap.get?_push_of_some _ ho1)) rfl ?_ (Jy _) (by rw[ZC];exact Yl (JN h2)));simp only[bne_self_eq_false,YH,if_false];have s2 := Heap.SameBut.update (((s.heap.update a (Obj.mapSeq λ_ => (#[] : Array Value))).push (seqObj "tuple" vs.toArray 0)).push (seqObj "list" #[] 0)) a (Obj.mapSeq λ_ => vs.toArray);obtain⟨c2,hc2⟩ : ∃ c2,((((s.heap.update a (Obj.mapSeq λ_ => (#[] : Array Value))).push (seqObj "tuple" vs.toArray 0)).push (seqObj "list" #[] 0)).update a (Obj.mapSeq λ_ => vs.toArray)).get? a = Qa (seqObj "list" vs.toArray c2) := ⟨_,get?_update_seq (Heap.get?_push_of_some _ (Heap.get?_push_of_some _ ho1)) λ_ => vs.toArray⟩;refine Qg ⟨_,rfl,h _ c2 (kas_fr (((kas_fr F s1 nz.2.1 nz.2.2).push (seqObj "tuple" vs.toArray 0)).push (seqObj "list" #[] 0)) s2 nz.2.1 nz.2.2) λp hp => ?_⟩;rcases JM.mp hp with rfl|hp
 ·exact⟨hc2,nz.2⟩
 ·exact kas_news ((kas_news (λp hp => N p (.tail _ hp) : News h₀ L s.heap news) s1 hna).grown λb x e => Heap.get?_push_of_some _ (Heap.get?_push_of_some _ e) : News h₀ L (((s.heap.update a (Obj.mapSeq λ_ => (#[] : Array Value))).push (seqObj "tuple" vs.toArray 0)).push (seqObj "list" #[] 0)) news) s2 hna p hp
end
section
variable {news:List (Qj×Obj)}
def CV (r:jU C w (l.map lc) vs): ∀ {p:List Nat},(∀i∈p,i<l.length) ->jU C w ((p.map λi=>l.getD i ([],[])).map lc) (p.map λi=>vs.getD i .none):=by
 intro p
 induction p with
 |nil=>intro _;exact .nil
 |cons i p ih=>
  intro h;have hi:=h i (.head _);obtain⟨v,e1,e2⟩:=r.get (i:=i) (m:=lc l[i]) (by rw[JA,Jn hi];rfl);simp only[JO,JO,JO];refine .cons ?_ (ih λj hj=>h j (.tail _ hj));simp only[List.getD_eq_getElem?_getD,List.getD_eq_getElem?_getD,Jn hi,e1];exact e2
def Hr {Q:Value->Qf->Prop} (F:Fr h₀ L s.heap m) (N:News h₀ L s.heap ((D,listOf vs.toArray n)::news)) (hna: ∀p∈news,p.1≠D) (hP: ∀h',Fr h₀ L h' m->News h₀ L h' news->cW C h' l vs) (r:jU C w (l.map lc) vs) (h60:l.length<=60)
  (h: ∀ (h':QB) (ph:List Value) (c:Nat),Fr h₀ L h' m->News h₀ L h' ((D,listOf ph.toArray c)::news) ->jU C w ((mB l).map lc) ph->Q .none {s with heap:=h'}):
  Qi C.M A (call (.builtin "list.sort") [.ref D]) Q E s := by
 have hl:vs.length=l.length:=by rw[<-r.length,Jp]
 by_cases h2:vs.length<2
 ·have hsame:mB l=l:=by
   cases l with
   |nil=>rfl
   |cons x l=>
    cases l with
    |nil=>rfl
    |cons y l=>rw[hl] at h2;exact absurd h2 (ZU.mpr (Jw _ _))
  exact Fu F N hna h2 λh' c F' N'=>h h' vs c F' N' (by rw[hsame];exact r)
 ·have h2:=ZU.mp h2
  refine kat_lsort (vs:=vs) F N (.head hna) rfl h2 (by rw[hl];exact Jt h60 (by decide)) λe1 h' F' N'=>?_;have P:=hP h' F' λp hp=>N' p (.tail _ hp);obtain⟨fs,q1,q2,q3⟩:=Fz (s:={s with heap:=h'}) P;refine kat_kind (s:={ s with heap := h' }) (T:=.type "str") q1 (by rw[q2]; exact Js (by decide) h2) (λf hf => by obtain⟨x,t,rfl⟩ := q3 f hf; exact Looks.of_pure rfl) rfl ?_;refine Rt (O:=FA) (key:=λi=>l.getD i ([],[])) (n:=vs.length) (λi j Cc hi hj hc=>?_) (Jl (by decide) h2) λp hp hup=>?_
  ·rw[hl] at hi hj
   obtain⟨t,ei,ki⟩:=P.2 i _ (Jn hi);obtain⟨u,ej,kj⟩:=P.2 j _ (Jn hj);show Qi C.M A.in1 (keyLt' (tuples' Qe) (vs.getD i Yd) (vs.getD j Yd)) Cc (λ_ _=>False) {s with heap:=h'};simp only[List.getD_eq_getElem?_getD,List.getD_eq_getElem?_getD,ei,ej];have hc:Cc (mm (l.getD i ([],[])) (l.getD j ([],[]))) {s with heap:=h'}:=hc;rw[List.getD_eq_getElem?_getD,List.getD_eq_getElem?_getD,Jn hi,Jn hj] at hc;exact Pg (s:={s with heap:=h'}) ki kj hc
  ·have hmem: ∀i∈p.toList,i<l.length:=λi hi=>by
    have:=(Array.perm_iff_toList_perm.mp hp).mem_iff.mp hi
    rw[KH] at this;exact hl▸this
   refine KasFin.intro F' N' (.head hna) λh2' c F2 N2=>h h2' _ c F2 N2 ?_;have hperm:(p.toList.map λi=>l.getD i ([],[])).Perm l:=by
    have h1:=(Array.perm_iff_toList_perm.mp hp).map λi=>l.getD i ([],[]);have h2:((Zg vs.length).toArray.toList.map λi=>l.getD i (([],[]):Pr))=l:=by
     rw[hl]
     apply List.ext_getElem
     ·simp
     ·intro i h3 h4
      simp [List.getD_eq_getElem?_getD,h4]
    rw[h2] at h1;exact h1
   have hsorted:(p.toList.map λi=>l.getD i ([],[])).Pairwise PLe:=by
    rw[List.pairwise_iff_getElem];intro i j hi hj hij;simp only[Jp,Array.length_toList] at hi hj
    have:=hup i j (JK hij) (by rw[<-qQ hp];exact hj)
    have gi:p.getD i 0=p[i]:=by simp [Array.getD,hi]
    have gj:p.getD j 0=p[j]:=by simp [Array.getD,hj]
    unfold KP at this;rw[gi,gj] at this
    simpa using this
   rw[L5 ((qV l).1.trans hperm.symm) (qV l).2 hsorted];exact CV r hmem
end
section
variable {w:Qn}
theorem O8 {d : Qj} (lo : (d == sysModules) = Qb) : KdlSrc prog w "dict" d d es.length (λi v => ∃ e,es[i]? = Qa e /\ e.key = v) (λh => h.get? d = Qa (Ql es ep)) where
 type:=λ_ hm=>⟨_,hm,rfl⟩
 there:=λ_ hm=>⟨K4 hm,K4 hm⟩
 keep:=λ_ _ hm hk=>hk d (.inl rfl) _ hm
 notList:=by decide
 notTuple:=by decide
 hint:=λ_ _ s _ hm hq=>kdl_hint_dict (s:=s) ⟨_,hm,rfl⟩ hq
 iter:=λA s hh hm=>⟨_,(λi h=>h.IsKeyIter s.heap.objs.size d i es.length ep/\h.get? d=Qa (Ql es ep)),(λ_ _ hq=>LY lo hm hq),
  {sub:=λb hb=>by simp at hb;simp [hb]
   frame:=λ_ _ _ st hk=>⟨st.1.at λo e=>hk _ (by simp) o e,hk d (by simp) _ st.2⟩
   item:=λi s' Q E hi st hQ=>Ww hh st.1 st.2 (λe h' hx hit' hs'=>hQ e.key h' s'.toks ⟨e,hx,rfl⟩ ⟨hit',(hs'.2 d (Z8 (K4 hm))).trans st.2⟩ λb o hb q=>hs'.extBut b o (λh=>hb (by simp [h])) q) λh' hx=>absurd hx (by rw[Jn hi];nofun)
   done:=λs' Q E st hQ=>Ww hh st.1 st.2 (λe h' hx=>absurd hx (by simp)) λh' hx he'=>hQ h' s'.toks λb o hb e=>he' b o (λh=>hb (by simp [h])) e
   self:=λ_ _ _ _ st hQ=>QU st.1 hQ},
  ⟨⟨_,Heap.get?_push_size _ rfl,rfl,by simp⟩,Heap.get?_push_of_some _ hm⟩⟩
end
def Gx: ∀ {vs:List ab}{l:List Pr},Wz vs=Qa l->vs=l.map lc:=by
 intro vs
 induction vs with
 |nil=>intro l h;refine lW h ?_;rfl
 |cons v vs ih=>
  intro l h;refine xEEAA (WU h) λy ys e1 e2 cv=>?_;refine eqB cv ?_;rw[JO,<-ih e2]
  congr 1
  cases v with
  |ba ws=>
   cases ws with
   |nil=>cases e1
   |cons a r=>
    cases r with
    |nil=>cases e1
    |cons b r=>
     cases r with
     |cons _ _=>cases e1
     |nil=>
      cases a with
      |str s=>
       cases b with
       |str t=>refine lW e1 ?_;rfl
       |_=>cases e1
      |_=>cases e1
  |_=>cases e1
theorem CW (S:bw C Y.h₀ Y.L k w H h) (r:jU C w (l.map lc) vs):cW C h l vs:=
 ⟨by rw[<-r.length,Jp],λi p hp=>by
  refine xEA (r.get (i:=i) (m:=lc p) (by rw[JA,hp];rfl)) λv e1 e2=>?_;refine xEA (S.iu (as:=zu p) e2) λt cv ht=>?_;subst cv;exact⟨t,e1,ht⟩⟩
theorem LJ (K : rW C) (S : St Y k w H s) {x : ab} (hx : jV C w x v) : bq Y k (VR C) (call (.builtin "sorted") [v]) w s ((kY H x).bind λvs => (Wz vs).bind λl => au (Zj l.length 60) (lK H (.list ((mB l).map lc)))) :=
 .gw λms hp=> .gw λl hl=> .au λhc=>by
  intro r' e' Q E hq;obtain rfl:=Qa.inj e';have h60:=U0.mp hc;obtain⟨b,ws,n,rfl,hg,rr,hlim⟩:=S.list hx hp;cases Gx hl;obtain⟨all,hn,add,_,hp2⟩:=S.dj;refine DP S.fr hn ⟨_,hg,rfl,n,rfl⟩ (by rw[<-rr.length,Jp];exact Jl h60 (by rw[Q8];decide)) λD h' F' N' hlt=>?_;refine Hr (s:={s with heap:=h'}) F' N' (λp hp=>Z8 (hlt p hp)) (λh2 F2 N2=>CW (hp2 h2 F2 N2) rr) rr h60 λh2 ph c F2 N2 hO=>?_;have h4:4<=D:=J7 λhlt4=>by
   refine(K.nf D hlt4).elim λo zq3=>?_
   have:=(N2 (D,_) (.head _)).2.2
   rw[Y.k D o zq3] at this;exact nomatch this
  exact hq _ _ {s with heap:=h2} ⟨(⟨J6 _ _,λ_ x=>x⟩:w.le ⟨w.σ++ [D],w.tp⟩),add D (.list ((mB l).map lc)) [(D,listOf ph.toArray c)] h2 ⟨_,_,rfl,jU.mono (w':=⟨w.σ++ [D],w.tp⟩) ⟨J6 _ _,λ_ x=>x⟩ hO,by rw[Jp,(lP l).length_eq];exact Jl h60 (by decide)⟩ F2 N2 (o8 _) (λp hp q hq=>by rw[JE.mp hp];exact λe=>absurd (hlt q hq) (by rw[<-e];exact Zb _)) h4,rfl,rfl⟩ ⟨_,rfl,by rw[<-S.len];exact Zr⟩
theorem LK (K : rW C) (S : St Y k w H s) {x : ab} (hx : jV C w x v) : bq Y k (VR C) (call (.builtin "sorted") [v]) w s ((dictAt H x).bind λp => (Wz (p.2.map (·.1))).bind λl => au (Zj l.length 60) (lK H (.list ((mB l).map lc)))) :=
 .gw λp hp=> .gw λl hl=> .au λhc=>by
  intro r' e' Q E hq;obtain rfl:=Qa.inj e';have h60:=U0.mp hc;refine(S.dict hx hp).elim λ_ zq17=>?_;obtain⟨b,n,es,rfl,hmod,_,hg,hdr,hlim,_⟩:=zq17.2;have hx:es.length=l.length/\∀ (j:Nat) (mv:ab) (x:Qh),(l.map lc)[j]?=Qa mv->es[j]?=Qa x->jV C w mv x.key:=by
   rcases hdr with ⟨kvs,D⟩| ⟨xs,D⟩
   ·have e:=D.e
    rw[(Gx hl)] at e;cases l with
    |nil=>
     cases kvs with
     |nil=>
      have q:=D.p;cases q;exact⟨rfl,λj mv x h=>af h⟩
     |cons a kvs=>cases e
    |cons q l=>
     cases kvs with
     |nil=>cases e
     |cons a kvs=>
      obtain⟨⟨a1⟩,a2⟩:=a
      ·cases (KZ.inj e).1
      ·cases (KZ.inj e).1
   ·have sf:xs.length=l.length:=by have:=congrArg Z3 (D.e.symm.trans (Gx hl));rw[Jp,Jp] at this;exact this
    refine⟨by rw[D.es,Jp,sf],λj mv x h1 h2=>?_⟩;rw[<-(Gx hl),D.e,JA] at h1;obtain⟨y,hy,rfl⟩:=Zl.mp h1;rw[D.es,JA,hy] at h2;refine lW h2 ?_;exact D.v y (Jq hy)
  obtain⟨all,hn,add,_,hp2⟩:=S.dj;refine kdu_sorted (O8 hmod) Y.handled S.fr hn hg (by rw[hx.1];exact Jl h60 (by rw[Q8];decide)) λB h' tk vs F' N' hlt hvl hvs=>?_;have rr:jU C w (l.map lc) vs:=by
   have key: ∀ {ms:List ab}{vs:List Value},ms.length=vs.length->(∀ (j:Nat) (mv:ab) (v:Value),ms[j]?=Qa mv->vs[j]?=Qa v->jV C w mv v) ->jU C w ms vs:=by
    intro ms
    induction ms with
    |nil=>intro vs h _;cases vs with
     |nil=>exact .nil
     |cons _ _=>exact nomatch h
    |cons x ms ih=>intro vs h hj;cases vs with
     |nil=>exact nomatch h
     |cons y vs=>exact .cons (hj 0 x y rfl rfl) (ih (ZP.inj h) λj mv v h1 h2=>hj (j+1) mv v h1 h2)
   refine key (by rw[Jp,hvl,hx.1]) λj mv v h1 h2=>(hvs j v h2).elim λx q=>q.2▸hx.2 j mv x h1 q.1
  refine Hr (s:={s with heap:=h',toks:=tk}) F' N' (λp hp=>Z8 (hlt p hp)) (λh2 F2 N2=>CW (hp2 h2 F2 N2) rr) rr h60 λh2 ph c F2 N2 hO=>?_;have h4:4<=B:=J7 λhlt4=>by
   refine(K.nf B hlt4).elim λo zq3=>?_
   have:=(N2 (B,_) (.head _)).2.2
   rw[Y.k B o zq3] at this;exact nomatch this
  exact hq _ _ {s with heap:=h2,toks:=tk} ⟨(⟨J6 _ _,λ_ x=>x⟩:w.le ⟨w.σ++ [B],w.tp⟩),add B (.list ((mB l).map lc)) [(B,listOf ph.toArray c)] h2 ⟨_,_,rfl,jU.mono (w':=⟨w.σ++ [B],w.tp⟩) ⟨J6 _ _,λ_ x=>x⟩ hO,by rw[Jp,(lP l).length_eq];exact Jl h60 (by decide)⟩ F2 N2 (o8 _) (λp hp q hq=>by rw[JE.mp hp];exact λe=>absurd (hlt q hq) (by rw[<-e];exact Zb _)) h4,rfl,rfl⟩ ⟨_,rfl,by rw[<-S.len];exact Zr⟩
theorem OK (K : rW C) (S : St Y k w H s) {x : ab} (hx : jV C w x v) : bq Y k (VR C) (call (.builtin "sorted") [v]) w s ((dictAt H x).bind λp => (uV (p.2.map (·.1))).bind λl => au (!l.isEmpty && Zj (l.length + 1) 64) (lK H (.list ((wC l).map .int)))) := .gw λp hp => .gw λl hl => .au λhc => by
 intro r' e' Q E hq;obtain rfl:=Qa.inj e';have hc:=Jm.mp hc;have h64:l.length<64:=Zf.mp hc.2;refine(S.dict hx hp).elim λ_ zq17=>?_;obtain⟨b,n,es,rfl,hmod,_,hg,hdr,hlim,_⟩:=zq17.2;have hll:l.length=p.2.length:=by
  have go: ∀ {ms:List ab}{l:List Int},uV ms=Qa l->l.length=ms.length:=by
   intro ms
   induction ms with
   |nil=>intro l h;refine lW h ?_;rfl
   |cons m ms ih=>
    intro l h;refine xEEAA (WU h) λy ys _ e2 cv=>?_;refine eqB cv ?_;exact congrArg ZP (ih e2)
  rw[go hl,Jp]
 rcases hdr with ⟨kvs,D⟩| ⟨xs,D⟩
 ·have hkl:kvs.length=l.length:=by rw[hll];exact(Ht D.e).symm
  have hk: ∀ (j:Nat) (q:ao×Value),kvs[j]?=Qa q-> ∃z,l[j]?=Qa z/\q.1= .i z:=by
   have go: ∀ {kvs:List (ao×Value)}{l:List Int},uV (kvs.map λp=>p.1.val)=Qa l-> ∀ (j:Nat) (q:ao×Value),kvs[j]?=Qa q-> ∃z,l[j]?=Qa z/\q.1= .i z:=by
    intro kvs
    induction kvs with
    |nil=>exact λ_ _ _ e=>af e
    |cons a kvs ih=>
     intro l h j q hq;refine xEEAA (WU h) λy ys e1 e2 gq=>?_;refine eqB gq ?_;cases j with
     |zero=>
      refine lW hq ?_;obtain⟨at1,_⟩:=a;cases at1 with
      |i n=>refine lW e1 ?_;exact⟨_,rfl,rfl⟩
      |s x=>exact af e1
     |succ j=>exact ih (l:=ys) e2 j q hq
   exact go (by rw[<-D.e];exact hl)
  obtain⟨all,hn,add,_,_⟩:=S.dj;refine xE ((D.dictOf hg).dictAt) λep hat=>?_;refine kdu_sorted (kdl_dict (knd:=kH C.prog C.w) (kvs:=kvs) (ep:=ep) hmod) Y.handled S.fr hn hat (by rw[hkl];exact Jl (JK h64) (by decide)) λB h' tk vs F' N' hlt hvl hvs=>?_;have hI:Ja vs l:=by
   have go: ∀ {vs:List Value}{l:List Int},vs.length=l.length->(∀ (j:Nat) (v:Value),vs[j]?=Qa v-> ∃z t,l[j]?=Qa z/\v= .int z t) ->Ja vs l:=by
    intro vs
    induction vs with
    |nil=>intro l h _;cases l with
     |nil=>exact .nil
     |cons _ _=>exact Nat.noConfusion h
    |cons v vs ih=>intro l h hj;cases l with
     |nil=>exact Nat.noConfusion h
     |cons z l=>
      refine xEEA (hj 0 v rfl) λz' t e1 mu=>?_;refine eqB mu ?_;refine lW e1 ?_;exact .cons z t (ih (ZP.inj h) λj v hv=>hj (j+1) v hv)
   refine go (hvl.trans hkl) λj v hv=>?_;refine xEEA (hvs j v hv) λa x hx ha=>?_;refine xEA (hk j _ hx) λz hz e=>?_;have e:a= .i z:=e;subst e;refine xE (Ko (ha)) λt fH=>?_;refine eqB fH ?_;exact⟨z,t,hz,rfl⟩
  refine lks_sort (its:=vs.toArray) (n:=0) (q:=wC l) (news':=λt=>(B,listOf (Ji (wC l) 0 t).toArray (0+2))::all) F' N' (λt=> .head λp hp=>Z8 (hlt p hp)) (Ew hI).1 ?_ ?_ ?_ λt h2 F2 N2=>?_
  ·show ((lks_nums vs).isPerm (wC l) && lks_asc (wC l))=Qe
   rw[(Ew hI).2,zcV (Gl l).2,Yk];exact List.isPerm_iff.mpr (Gl l).1.symm
  ·cases vs with
   |nil=>rw[show l= [] from by cases hI;rfl] at hc;exact JH hc.1
   |cons _ _=>rfl
  ·show vs.length<64
   rw[hvl,hkl];exact h64
  ·have h4:4<=B:=J7 λhlt4=>by
    refine(K.nf B hlt4).elim λo zq3=>?_
    have:=(N' (B,_) (.head _)).2.2
    rw[Y.k B o zq3] at this;exact nomatch this
   refine hq _ _ {s with heap:=h2,toks:=tk} ⟨(⟨J6 _ _,λ_ x=>x⟩:w.le ⟨w.σ++ [B],w.tp⟩),add B (.list ((wC l).map .int)) [(B,listOf (Ji (wC l) 0 t).toArray (0+2))] h2 ⟨_,_,rfl,BX,by rw[Jp,(Gl l).1.length_eq];exact Jl (JK h64) (by decide)⟩ F2 N2 (o8 _) (λp hp q hq=>by rw[JE.mp hp];exact λe=>absurd (hlt q hq) (by rw[<-e];exact Zb _)) h4,rfl,rfl⟩ ⟨_,rfl,by rw[<-S.len];exact Zr⟩
 ·exfalso
  have e:=D.e;cases xs with
  |nil=>rw[Xl.mp e] at hl;cases hl;exact nomatch hc.1
  |cons a xs=>
   cases hp2:p.2 with
   |nil=>rw[hp2] at e;cases e
   |cons q qs=>
    rw[hp2] at e hl;refine(WU hl).elim λy zq1=>zq1.elim λys zq2=>?_;have e1:=zq2.1;have e1:q.1.int?=Qa y:=e1;rw[show q.1= .ba (a.1.map ao.val) from(KZ.inj e).1] at e1;exact af e1
theorem zgd (C : bf) : EU C := λ{d e Y k w H s as vs} K S r => .a1 (T:=λl => call (.builtin "sorted") l) r λx v hx => .ay (OK K S hx) (.ay (LK K S hx) (LJ K S hx))
end Internal
namespace Internal
variable {many r st:Bool}{op:rq}{tg:List Nat}{ts:List T1}{a ac d i n x:Nat}{ep ep0:Option Nat}{A A' B B' pq pr:Prop}{α β σ:Type}
structure W {α:Type} (o:Option (α×MH)) (Q:α->MH->Prop):Prop where
 w:JC (motive:=λ_=>Prop) o False λp=>Q p.1 p.2
structure Wo {α:Type} (o:Option α) (Q:α->Prop):Prop where
 w:JC (motive:=λ_=>Prop) o False Q
section
variable {o:Option (α×MH)}{Q:α->MH->Prop}
def W.get (h:W o Q): ∃a g,o=Qa (a,g)/\Q a g:=by
 cases o with
 |none=>exact h.w.elim
 |some p=>exact⟨p.1,p.2,rfl,h.w⟩
def W.mono {Q':α->MH->Prop} (h:W o Q) (i: ∀a g,Q a g->Q' a g):W o Q':=by
 cases o with
 |none=>exact⟨h.w⟩
 |some p=>exact⟨i _ _ h.w⟩
def W.of {a:α}{g:MH} (e:o=Qa (a,g)) (q:Q a g):W o Q:=by subst e;exact⟨q⟩
theorem lH {a:α}{g:MH} (q:Q a g):W (Qa (a,g)) Q:=⟨q⟩
def aw {f:α->MH->Option (β×MH)}{R:β->MH->Prop} (h:W o λa g=>W (f a g) R):W (bx o f) R:=by
 cases o with
 |none=>exact h.w.elim
 |some p=>exact h.w
def w_bnd' {f:α->MH->Option (β×MH)}{R:β->MH->Prop} (h:W (bx o f) R):W o λa g=>W (f a g) R:=by
 cases o with
 |none=>exact⟨h.w⟩
 |some p=>exact⟨h⟩
theorem AF {b:β}{P:β->Prop} (q:P b):Wo (Qa b) P:=⟨q⟩
def v3 {x:Option β}{f:β->Option (α×MH)} (h:Wo x λb=>W (f b) Q):W (x.bind f) Q:=by
 cases x with
 |none=>exact h.w.elim
 |some b=>exact h.w
def Uu {x:Option β}{f:β->α×MH} (h:Wo x λb=>Q (f b).1 (f b).2):W (x.map f) Q:=by
 cases x with
 |none=>exact h.w.elim
 |some b=>exact⟨h.w⟩
def AL {b:Bool} (hb:b=Qe) (h:W o Q):W (au b o) Q:=by subst hb;exact h
def Lr {o':Option (α×MH)} (h:W o Q):W (ay o o') Q:=by
 cases o with
 |none=>exact h.w.elim
 |some p=>exact⟨h.w⟩
def Wo.mono {o:Option β}{P P':β->Prop} (h:Wo o P) (i: ∀a,P a->P' a):Wo o P':=by
 cases o with
 |none=>exact⟨h.w⟩
 |some a=>exact⟨i a h.w⟩
def Wo.of {o:Option β}{P:β->Prop}{a:β} (e:o=Qa a) (q:P a):Wo o P:=by subst e;exact⟨q⟩
theorem sF {p:Option (ab×MH)}{Q:Bool->MH->Prop} (h:W p λv g=>Wo (truthy g v) λb=>Q b g):W (l7 p) Q:=aw (h.mono λv g h=>Uu (f:=λb=>(b,g)) h)
end
def WB (op:gn) (x y:ab) (h:MH) (Q:ab->MH->Prop):Prop:=W (pE op x y h) Q
def WC (op:rq) (x y:ab) (h:MH) (Q:ab->MH->Prop):Prop:=Wo (nB op x y h) λr=>Q (.bool r) h
def WT (x:ab) (h:MH) (Q:Bool->Prop):Prop:=Wo (truthy h x) Q
def WI (o k:ab) (h:MH) (Q:ab->MH->Prop):Prop:=Wo (lG h o k) λv=>Q v h
def WA (P:ik) (o:ab) (n:Nat) (h:MH) (Q:ab->MH->Prop):Prop:=Wo (getAttr P h o n) λv=>Q v h
def jM (o:ab) (k:Nat) (bs:List ab) (h:MH) (Q:ab->MH->Prop):Prop:=W (slice h o k bs) Q
def WV (c:Cx) (f:ab) (as:List ab) (h:MH) (Q:ab->MH->Prop):Prop:=W (jZ c f as h) Q
def WM (c:Cx) (o:ab) (n:Nat) (as:List ab) (h0 h:MH) (Q:ab->MH->Prop):Prop:=W (kP c o n as h0 h) Q
def eU (c:Cx) (ts:List T1) (vs:List ab) (fr:Frame) (h:MH) (Q:Frame->MH->Prop):Prop:=W (qT c ts vs fr h) Q
def Br (r:Bool) (A B:Prop):Prop:=(r=Qe->A)/\(r=Qb->B)
theorem br (a:r=Qe->A) (b:r=Qb->B):Br r A B:=⟨a,b⟩
theorem zcJ (a:A):Br Qe A B:=⟨λ_=>a,λh=>JH h⟩
theorem ziv (b:B):Br Qb A B:=⟨λh=>(JH h:False).elim,λ_=>b⟩
abbrev ag (P:ik) (d:Nat):Cx:=⟨P,200000,mT P 200000 d⟩
variable {Q:ab->MH->Prop}
section
variable {c:Cx}{fr:Frame}{h:MH}{P:ik}
def WE (c:Cx) (fr:Frame) (e:Ex) (h:MH) (Q:ab->MH->Prop):Prop:=W (eval c e fr h) Q
def vf (c:Cx) (fr:Frame) (es:List Ex) (h:MH) (Q:List ab->MH->Prop):Prop:=W (qI c es fr h) Q
def Wg {v:ab} (hx:fr[x]?=Qa (Qa v)) (q:Q v h):WE c fr (.var x) h Q:=by
 show W ((fr[x]?).bind λo=>o.map λv=>(v,h)) Q;exact hx▸ ⟨q⟩
theorem zaJ {v:ab} (q:Q v h):WE c fr (.lit v) h Q:=lH q
theorem AI {Q:List ab->MH->Prop} (q:Q [] h):vf c fr [] h Q:=lH q
theorem BK {Q:List ab->MH->Prop}{e:Ex}{r:List Ex} (q:WE c fr e h λv h1=>vf c fr r h1 λvs h2=>Q (v::vs) h2):vf c fr (e::r) h Q:=aw (W.mono q λv h1 q=>aw (W.mono q λ_ _ q=>lH q))
theorem AJ {es:List Ex} (q:vf c fr es h λvs h1=>Q (.ref h1.length) (h1++ [.list vs])):WE c fr (.list es) h Q:=aw (W.mono q λ_ _ q=>lH q)
theorem zaG {es:List Ex} (q:vf c fr es h λvs h1=>Q (.ba vs) h1):WE c fr (.ba es) h Q:=aw (W.mono q λ_ _ q=>lH q)
theorem zaN {op:gn}{a b:Ex} (q:WE c fr a h λx h1=>WE c fr b h1 λy h2=>WB op x y h2 Q):WE c fr (.ez op a b) h Q:=aw (W.mono q λx h1 q=>aw q)
theorem zaI {a:Ex} (q:WE c fr a h λx h1=>WT x h1 λb=>Q (.bool (!b)) h1):WE c fr (.not a) h Q:=aw (sF (W.mono q λ_ _ q=>Wo.mono q λ_ q=>lH q))
theorem zaL {a b:Ex} (q:WE c fr a h λx h1=>WE c fr b h1 λy h2=>WC op x y h2 Q):WE c fr (.ew op a b) h Q:=aw (W.mono q λx h1 q=>aw (W.mono q λy h2 q=>Uu (f:=λr=>(ab.bool r,h2)) q))
def G9 {a b:Option (α×MH)}{Q:α->MH->Prop} (q:Br r (W a Q) (W b Q)):W (bif r then a else b) Q:=by
 cases r with
 |true=>exact q.1 rfl
 |false=>exact q.2 rfl
theorem zaK {t a b:Ex} (q:WE c fr t h λx h1=>WT x h1 λr=>Br r (WE c fr a h1 Q) (WE c fr b h1 Q)):WE c fr (.ite t a b) h Q:=aw (sF (W.mono q λx h1 q=>Wo.mono q λr q=>G9 q))
theorem Om {e:Ex} (q:WE c fr e h λo h1=>WA c.P o n h1 Q):WE c fr (.aq e n) h Q:=aw (W.mono q λo h1 q=>Uu (f:=λv=>(v,h1)) q)
theorem zaH {e i:Ex} (q:WE c fr e h λo h1=>WE c fr i h1 λk h2=>WI o k h2 Q):WE c fr (.sub e i) h Q:=aw (W.mono q λo h1 q=>aw (W.mono q λk h2 q=>Uu (f:=λv=>(v,h2)) q))
theorem BL {e:Ex}{k:Nat}{bs:List Ex} (q:WE c fr e h λo h1=>vf c fr bs h1 λvs h2=>jM o k vs h2 Q):WE c fr (.slice e k bs) h Q:=aw (W.mono q λo h1 q=>aw q)
theorem Oj {f:Ex}{as:List Ex} (q:WE c fr f h λg h1=>vf c fr as h1 λvs h2=>WV c g vs h2 Q):WE c fr (.call f as) h Q:=aw (W.mono q λo h1 q=>aw q)
theorem Oh {o:Ex}{as:List Ex} (q:WE c fr o h λg h1=>vf c fr as h1 λvs h2=>WM c g n vs h1 h2 Q):WE c fr (.bh o n as) h Q:=aw (W.mono q λo h1 q=>aw q)
theorem Ol {e:Ex} (q:WE c fr e h Q):WE c fr (.qh st [e]) h Q:=aw (f:=λv h1=>Qa (v,h1)) (W.mono q λ_ _ q=>lH q)
theorem zaM {e f:Ex}{r:List Ex} (q:WE c fr e h λv h1=>WT v h1 λb=>Br (b==st) (Q v h1) (WE c fr (.qh st (f::r)) h1 Q)):WE c fr (.qh st (e::f::r)) h Q:=aw (f:=λv h1=>(truthy h1 v).bind λb=>bif b==st then Qa (v,h1) else y3 c st (f::r) fr h1) (W.mono q λv h1 q=>v3 (Wo.mono q λb q=>G9 ⟨λh=>lH (q.1 h),q.2⟩))
variable {R:Fl->Frame->MH->Prop}
def WS (c:Cx) (s:Sm) (fr:Frame) (h:MH) (R:Fl->Frame->MH->Prop):Prop:=W (exec c s fr h) λp h=>R p.1 p.2 h
def cq (c:Cx) (s:List Sm) (fr:Frame) (h:MH) (R:Fl->Frame->MH->Prop):Prop:=W (execs c s fr h) λp h=>R p.1 p.2 h
theorem N6 (q:R .nx fr h):cq c [] fr h R:=lH (a:=(Fl.nx,fr)) q
def zm (c:Cx) (r:List Sm) (R:Fl->Frame->MH->Prop) (fl:Fl) (fr:Frame) (h:MH):Prop:=Fl.casesOn (motive:=λ_=>Prop) fl (cq c r fr h R) (R .bk fr h) (R .ct fr h) λv=>R (.rt v) fr h
def BG {s:Sm}{r:List Sm} (q:WS c s fr h (zm c r R)):cq c (s::r) fr h R:=by
 exact aw (W.mono q λp h1 q=>by
  obtain⟨fl,f2⟩:=p;cases fl with
  |nx=>exact q
  |bk=>exact⟨q⟩
  |ct=>exact⟨q⟩
  |rt v=>exact⟨q⟩)
def Oa {e:Ex} (q:WE c fr e h λ_ h1=>R .nx fr h1):WS c (.expr e) fr h R:=by
 show W (bx (eval c e fr h) λ_ h1=>Qa ((Fl.nx,fr),h1)) λp h=>R p.1 p.2 h;exact aw (W.mono q λ_ _ q=>⟨q⟩)
def Oc {e:Ex} (q:WE c fr e h λv h1=>Wo (items h1 v) λvs=>eU c ts vs fr h1 λf2 h2=>R .nx f2 h2):WS c (.jk ts e) fr h R:=by
 exact aw (W.mono q λv h1 q=>v3 (Wo.mono q λvs q=>aw (W.mono q λ_ _ q=>⟨q⟩)))
def zaB {e:Ex} (q:WE c fr e h λv h1=>R (.rt v) fr h1):WS c (.ret e) fr h R:=by
 show W (bx (eval c e fr h) λv h1=>Qa ((Fl.rt v,fr),h1)) λp h=>R p.1 p.2 h;exact aw (W.mono q λ_ _ q=>⟨q⟩)
def zaC {t:Ex}{a b:List Sm} (q:WE c fr t h λx h1=>WT x h1 λr=>Br r (cq c a fr h1 R) (cq c b fr h1 R)):WS c (.ite t a b) fr h R:=by
 exact aw (sF (W.mono q λx h1 q=>Wo.mono q λr q=>G9 q))
theorem zaD (q:R .bk fr h):WS c .brk fr h R:=lH (a:=(Fl.bk,fr)) q
theorem Ob (q:R .ct fr h):WS c .cont fr h R:=lH (a:=(Fl.ct,fr)) q
theorem N7 (q:R .nx fr h):WS c .td fr h R:=lH (a:=(Fl.nx,fr)) q
def WF (P:ik) (d f:Nat) (as:List ab) (h:MH) (Q:ab->MH->Prop):Prop:=W (mT P 200000 d f as h) Q
def Fin (Q:ab->MH->Prop) (fl:Fl) (_:Frame) (h:MH):Prop:=Fl.casesOn (motive:=λ_=>Prop) fl (Q .none h) False False λv=>Q v h
def AH {f:Nat}{fn:Fn}{as vs:List ab} (hf:P.km f=Qa fn) (ha:vQ fn as=Qa vs) (q:cq (ag P d) fn.body (rH fn vs) h (Fin Q)):WF P (d+1) f as h Q:=by
 show W ((P.km f).bind λf=>(vQ f as).bind λvs=>bx (execs ⟨P,200000,mT P 200000 d⟩ f.body (rH f vs) h) Ry) Q;rw[hf];show W ((vQ fn as).bind λvs=>bx (execs ⟨P,200000,mT P 200000 d⟩ fn.body (rH fn vs) h) Ry) Q;rw[ha];exact aw (W.mono q λp h1 q=>by
  obtain⟨fl,f2⟩:=p;cases fl with
  |nx=>exact⟨q⟩
  |bk=>exact q.elim
  |ct=>exact q.elim
  |rt v=>exact⟨q⟩)
def zdr {K f:Nat}{fn:Fn}{as vs:List ab} (hd:K+1<=d) (hf:P.km f=Qa fn) (ha:vQ fn as=Qa vs) (q: ∀d',K<=d'->cq (ag P d') fn.body (rH fn vs) h (Fin Q)):WF P d f as h Q:=by
 refine(Ks hd).elim λd' zq1=>?_;refine eqB zq1 ?_;exact AH (d:=d'+K) hf ha (q _ (Jw _ _))
end
def jS {h t:MH}{o:ae} (e:h[a]?=Qa o):(h++t)[a]?=Qa o:=by
 exact(Kg (Ju.mp e).1).trans (e)
def ap {h t:MH}{o:ae}:(h++o::t)[h.length]?=Qa o:=by
 refine(Kb (Jv _)).trans ?_;rw[YS];rfl
def j4 {h:MH}{b:Nat}{o x:ae} (ne:b≠a) (e:h[a]?=Qa o):(h.set b x)[a]?=Qa o:=by rw[JZ ne];exact e
theorem kD {h:MH}{o:ae} (e:h[a]?=Qa o):a<h.length:=(Ju.mp e).1
theorem kO {h:MH}{o x:ae} (e:h[a]?=Qa o):(h.set a x)[a]?=Qa x:=JV (kD e)
def wF {h t:MH}{o x:ae}:(h++o::t).set h.length x=h++x::t:=by
 rw[Yp _ _ (Jv _),YS];rfl
variable {vs:List ab}
def pB {h:MH} (e:h[a]?=Qa (.list vs)):kY h (.ref a)=Qa vs:=by
 show (h[a]?).bind ae.list?=_;rw[e];rfl
variable {es:List (ab×ab)}
def oA {h:MH} (e:h[a]?=Qa (.dict ep es)):dictAt h (.ref a)=Qa (ep,es):=by
 show (h[a]?).bind ae.dict?=_;rw[e];rfl
def HU {h:MH} (e:h[a]?=Qa (.list vs)):dictAt h (.ref a)=none:=by
 show (h[a]?).bind ae.dict?=_;rw[e];rfl
def sO {h:MH} (e:h[a]?=Qa (.dict ep es)):kY h (.ref a)=none:=by
 show (h[a]?).bind ae.list?=_;rw[e];rfl
variable {fs:List (Nat×ab)}
def Hy {h:MH}{k:Nat} (e:h[a]?=Qa (.inst k fs)):cf h (.ref a)=Qa (k,fs):=by
 show (h[a]?).bind ae.inst?=_;rw[e];rfl
section
variable {c:Cx}{fr:Frame}{h:MH}{P:ik}
def Ov {a b:List Nat} (hl:a.length+b.length<=bb) (q:Q (.str (a++b)) h):WB .add (.str a) (.str b) h Q:=by
 show W (au (Zj (a.length+b.length) bb) (Qa (ab.str (a++b),h))) Q;exact(Zf.mpr hl)▸ ⟨q⟩
def MI {b:Bool}{o:Option α} (hb:b=Qe):au b o=o:=by subst hb;rfl
def zaO {a b:Int} (hm:Hk a b=Qe) (q:Q (.int (a*b)) h):WB .mul (.int a) (.int b) h Q:=by
 have e:Hj h (.int a) (.int b)=Qa (.int (a*b),h):=by
  delta Hj;simp only[ab.int?,qab,MI hm];rfl
 have e2:pE .mul (.int a) (.int b) h=ay Qd (Hj h (.int a) (.int b)):=by
  delta pE;simp only[ab.int?,qab,Dh,qaj]
 delta WB;rw[e2,e];exact⟨q⟩
def zbr {l:Nat} (hn:n<=bb) (hl:l*n<=bb):LX l (n:Int)=true:=by
 delta LX;rw[ZX,ZX];exact⟨⟨decide_eq_true (by lia),decide_eq_true (by lia)⟩,Zf.mpr (by rw[KI];exact hl)⟩
def A8 {x:α}:(JL n [x]).flatten=JL n x:=by
 induction n with
 |zero=>rfl
 |succ n ih=>rw[qaz,K3,ih];rfl
def AK {x:List ab} (ha:h[a]?=Qa (.list x)) (hl:n<=bb) (hx:x.length*n<=bb) (q:Q (.ref h.length) (h++ [.list (JL n x).flatten])):WB .mul (.ref a) (.int n) h Q:=by
 show W ((kY h (.ref a)).bind λa=>(Qa (n:Int)).bind λn=>au (LX a.length n) (lK h (.list (JL n.toNat a).flatten))) Q;rw[pB ha];exact AL (o:=lK h (.list (JL n x).flatten)) (zbr hl hx) (lH q)
def Lq {o:Option Int}{k:Int} (e:o=Qa k) (q:Q (.int k) h) {o':Option (ab×MH)}:W (ay (o.map λk=>(ab.int k,h)) o') Q:=by subst e;exact⟨q⟩
def Ou {a b:Int} (hb:b≠0) (hl:b.natAbs<jg) (q:Q (.int (qap a b)) h):WB .fdiv (.int a) (.int b) h Q:=by
 refine Lq (o:=Dh .fdiv a b) ?_ q;show au _ _=_;rw[show (b !=0 && Zj (b.natAbs+1) jg)=Qe by rw[ZX];exact⟨bne_iff_ne.mpr hb,Zf.mpr hl⟩];rfl
def zaP {a b:Int} (hb:b≠0) (q:Q (.int (Y9 a b)) h):WB .mod (.int a) (.int b) h Q:=by
 refine Lq (o:=Dh .mod a b) ?_ q;show au _ _=_;rw[bne_iff_ne.mpr hb];rfl
theorem Sp {a b:ab} (e:nB op a b h=Qa r) (q:Q (.bool r) h):WC op a b h Q:=Wo.of e q
theorem zdu {a b:ab} (e:lj h a b=Qa r) (q:Q (.bool r) h):WC .eq a b h Q:=Sp e q
theorem zdt {a b:ab} (e:lj h a b=Qa r) (q:Q (.bool (!r)) h):WC .ne a b h Q:=Sp (r:=!r) (by show (lj h a b).map _=_;rw[e];rfl) q
theorem zO {b:Bool}{Q:Bool->Prop} (q:Q b):WT (.bool b) h Q:=⟨q⟩
def Ac (hi:i<n):qc n (.int i)=Qa i:=by
 show au _ _=_;simp only[decide_eq_true (show (0:Int)<=(i:Int) by exact KS _),decide_eq_true (show (i:Int)<(n:Int) by lia),KI];rfl
theorem jY {vs:List α}{v:α} (hv:vs[i]?=Qa v):i<vs.length:=(Ju.mp hv).1
def Gh {a b:Option α}{v:α}{Q:α->Prop} (e:a=Qa v) (q:Q v):Wo (ay a b) Q:=by subst e;exact⟨q⟩
def AG {v:ab} (ha:h[a]?=Qa (.list vs)) (hv:vs[i]?=Qa v) (q:Q v h):WI (.ref a) (.int i) h Q:=by
 refine Gh (a:=(kY h (.ref a)).bind λvs=>(qc vs.length (.int i)).bind λk=>vs[k]?) ?_ q;rw[pB ha];show (qc vs.length (.int i)).bind _=_;exact(Ac (jY hv))▸hv
def zdp {v:ab} (hv:vs[i]?=Qa v) (q:Q v h):WI (.fl vs) (.int i) h Q:=by
 exact Gh (a:=(qc vs.length (.int i)).bind λk=>vs[k]?) ((Ac (jY hv))▸hv) q
def Og {k v:ab} (ha:h[a]?=Qa (.dict ep es)) (hf:j5 es k=Qe) (hv:j7 es k=Qa v) (q:Q v h):WI (.ref a) k h Q:=by
 show Wo (ay ((kY h (.ref a)).bind _) ((dictAt h (.ref a)).bind λd=>au (j5 d.2 k) (j7 d.2 k))) _;rw[sO ha,oA ha];show Wo (au (j5 es k) (j7 es k)) _;rw[hf,hv];exact⟨q⟩
def zaQ {k:Nat}{v:ab} (ha:h[a]?=Qa (.inst k fs)) (hv:vM fs n=Qa v) (hf:P.cz k n=Qe) (q:Q v h):WA P (.ref a) n h Q:=by
 refine Gh (a:=(cf h (.ref a)).bind λq=>JC (motive:=λ_=>Option ab) (vM q.2 n) (u3 P q.1 n) λv=>au (P.cz q.1 n) (Qa v)) ?_ q;rw[Hy ha];show JC (motive:=λ_=>Option ab) (vM fs n) (u3 P k n) (λv=>au (P.cz k n) (Qa v))=_;rw[hv];rw[hf];rfl
def Dy {v:ab} (e:((P.cf a).bind λc=>u3 P c n)=Qa v) (q:Q v h):WA P (.ai a) n h Q:=by
 show Wo ((P.cf a).bind λc=>u3 P c n) _;exact e▸ ⟨q⟩
def Fs {k:Nat}{v:ab}{Q:MH->Prop} (ha:h[a]?=Qa (.inst k fs)) (hf:P.cz k n=Qe) (hl:fs.length<400) (q:Q (h.set a (.inst k (W6 fs n v)))):Wo (setAttr P h (.ref a) n v) Q:=by
 show Wo ((h[a]?.bind ae.inst?).bind λq=>au (P.cz q.1 n && Zj (q.2.length+1) 400) (Qa (h.set a (.inst q.1 (W6 q.2 n v))))) Q;rw[ha];show Wo (au (P.cz k n && Zj (fs.length+1) 400) (Qa (h.set a (.inst k (W6 fs n v))))) Q;rw[hf,Zf.mpr hl];exact⟨q⟩
def CH {v:ab}{Q:MH->Prop} (ha:h[a]?=Qa (.list vs)) (hi:i<vs.length) (q:Q (h.set a (.list (vs.set i v)))):Wo (m7 h (.ref a) (.int i) v) Q:=by
 refine Gh (a:=(h[a]?.bind ae.list?).bind λvs=>(qc vs.length (.int i)).map λk=>h.set a (.list (vs.set k v))) ?_ q;rw[ha];show (qc vs.length (.int i)).map _=_;rw[Ac hi];rfl
def CI {k v:ab}{Q:MH->Prop} (ha:h[a]?=Qa (.dict ep es)) (hf:j5 es k=Qe) (hl:es.length<bb) (q:Q (h.set a (.dict (bif (j7 es k).isSome then ep else ep.map (· +1)) (nM es k v)))):Wo (m7 h (.ref a) k v) Q:=by
 show Wo (ay ((h[a]?.bind ae.list?).bind _) ((h[a]?.bind ae.dict?).bind λd=>au (j5 d.2 k && Zj (d.2.length+1) bb) (Qa (h.set a (.dict (bif (j7 d.2 k).isSome then d.1 else d.1.map (· +1)) (nM d.2 k v)))))) Q;rw[ha];show Wo (au (j5 es k && Zj (es.length+1) bb) (Qa (h.set a (.dict (bif (j7 es k).isSome then ep else ep.map (· +1)) (nM es k v))))) Q;rw[hf,Zf.mpr hl];exact⟨q⟩
def mJ {as:List ab} (hc:P.fv a=Qd) (q:WF P d a as h Q):WV (ag P d) (.ai a) as h Q:=by
 show W (ay (JC (motive:=λ_=>Option (ab×MH)) (P.fv a) (mT P 200000 d a as h) λk=>Pn (ag P d) a k as h) _) Q;exact hc▸Lr (q:W (mT P 200000 d a as h) Q)
def BF {k:Cl}{as:List ab} (hc:P.fv a=Qa k) (hi:k.rh=Qa i) (q:WF P d i (.ref h.length::as) (h++ [.inst a []]) λv h'=>v= .none/\Q (.ref h.length) h'):WV (ag P d) (.ai a) as h Q:=by
 show W (ay (JC (motive:=λ_=>Option (ab×MH)) (P.fv a) (mT P 200000 d a as h) λk=>Pn (ag P d) a k as h) _) Q;rw[hc];refine Lr ?_;show W (k.rh.bind λi=>bx (mT P 200000 d i (.ref h.length::as) (h++ [.inst a []])) λr h'=>au r.isNone (Qa (.ref h.length,h'))) Q;rw[hi];exact aw (f:=λr h'=>au r.isNone (Qa (ab.ref h.length,h'))) (R:=Q) (W.mono q λv h' q=>by rw[q.1];exact⟨q.2⟩)
def AD {as:List ab}{v:ab}{h':MH} (e:G8 n as h=Qa (v,h')) (q:Q v h'):WV c (.bi n) as h Q:=by
 show W (ay (G8 n as h) Qd) Q;exact e▸ ⟨q⟩
def Sk {as:List ab}{v:ab}{h':MH} (e:G7 n as h=Qa (v,h')) (q:Q v h'):WV c (.ty n) as h Q:=by
 show W (G7 n as h) Q;exact e▸ ⟨q⟩
def Dt {v:ab} (e:Mm h v=Qa n) (q:Q (.int n) h):WV c (.bi vE) [v] h Q:=by
 refine AD (v:=.int n) (h':=h) ?_ q;show ay ((Mm h v).map λ(k:Nat)=>(ab.int (k:Int),h)) _=_;rw[e];rfl
def N4 (ha:h[a]?=Qa (.list vs)) (q:Q (.ref h.length) (h++ [.list vs])):WV c (.ty Hc) [.ref a] h Q:=by
 refine Sk (v:=.ref h.length) (h':=h++ [.list vs]) ?_ q;show ay ((kY h (.ref a)).bind λvs=>lK h (.list vs)) _=_;simp only[pB ha];rfl
theorem zay {a b:Int} (q:Q (.int (if b>a then b else a)) h):WV c (.bi Pq) [.int a,.int b] h Q:=⟨q⟩
def zcj (ha:h[a]?=Qa (.list vs)):Mm h (.ref a)=Qa vs.length:=by
 show ay ((kY h (.ref a)).map (·.length)) _=_;rw[pB ha];rfl
def zck (ha:h[a]?=Qa (.dict ep es)):Mm h (.ref a)=Qa es.length:=by
 show ay ((kY h (.ref a)).map (·.length)) ((dictAt h (.ref a)).map (·.2.length))=_;rw[sO ha,oA ha];rfl
def kE {o:ab}{f:Nat}{self as:List ab}{h0:MH} (hg:nA P h0 o n=Qa (f,self)) (q:WF P d f (self++as) h Q):WM (ag P d) o n as h0 h Q:=by
 show W (JC (motive:=λ_=>Option (ab×MH)) (nA P h0 o n) (y4 o n as h0 h) λp=>mT P 200000 d p.1 (p.2++as) h) Q;exact hg▸(q:W (mT P 200000 d f (self++as) h) Q)
def lN {k f:Nat}{h0:MH} (ha:h0[a]?=Qa (.inst k fs)) (hn:vM fs n=Qd) (hm:yZ P k n=Qa f):nA P h0 (.ref a) n=Qa (f,[.ref a]):=by
 show ((cf h0 (.ref a)).bind λq=>au (vM q.2 n).isNone ((yZ P q.1 n).map λf=>(f,[ab.ref a])))=_;rw[Hy ha];show au (vM fs n).isNone ((yZ P k n).map λf=>(f,[ab.ref a]))=_;rw[hn,hm];rfl
def Sn {as:List ab}{h0:MH} (hi:cf h0 (.ref a)=Qd) (q:W (y4 (.ref a) n as h0 h) Q):WM c (.ref a) n as h0 h Q:=by
 show W (JC (motive:=λ_=>Option (ab×MH)) ((cf h0 (.ref a)).bind _) (y4 (.ref a) n as h0 h) λ(p:Nat×List ab)=>c.call p.1 (p.2++as) h) Q;exact hi▸q
def Mz (e:h[a]?=Qa (.list vs)):cf h (.ref a)=none:=by
 show (h[a]?).bind ae.inst?=_;rw[e];rfl
def MA (e:h[a]?=Qa (.dict ep es)):cf h (.ref a)=none:=by
 show (h[a]?).bind ae.inst?=_;rw[e];rfl
def EK {as us:List ab}{h0:MH} (h0a:h0[a]?=Qa (.list us)) (ha:h[a]?=Qa (.list vs)) (q:W (wO a vs n as h) Q):WM c (.ref a) n as h0 h Q:=by
 refine Sn (Mz h0a) ?_;show W (ay ((h0[a]?.bind ae.list?).bind λ_=>(h[a]?.bind ae.list?).bind λvs=>wO a vs n as h) _) Q;rw[h0a,ha];exact Lr q
theorem Ut {us:List ab}{v:ab}{h0:MH} (h0a:h0[a]?=Qa (.list us)) (ha:h[a]?=Qa (.list vs)) (hl:vs.length<bb) (q:Q .none (h.set a (.list (vs++ [v])))):WM c (.ref a) ek [v] h0 h Q:=
 EK h0a ha (Lr (AL (o:=Qa (ab.none,h.set a (.list (vs++ [v])))) (Zf.mpr hl) (lH q)))
def zaE {us:List ab}{v:ab}{h0:MH} (h0a:h0[a]?=Qa (.list us)) (ha:h[a]?=Qa (.list (vs++ [v]))) (q:Q v (h.set a (.list vs))):WM c (.ref a) qx [] h0 h Q:=by
 refine EK h0a ha ?_;show W ((vs++ [v]).getLast?.map λw=>(w,h.set a (.list (vs++ [v]).dropLast))) Q;rw[List.getLast?_concat,List.dropLast_concat];exact⟨q⟩
def EL {as:List ab}{es0:List (ab×ab)}{h0:MH} (h0a:h0[a]?=Qa (.dict ep0 es0)) (ha:h[a]?=Qa (.dict ep es)) (q:W (xG es n as h) Q):WM c (.ref a) n as h0 h Q:=by
 refine Sn (MA h0a) ?_;show W (ay ((h0[a]?.bind ae.list?).bind _) ((h0[a]?.bind ae.dict?).bind λ_=>(h[a]?.bind ae.dict?).bind λd=>xG d.2 n as h)) Q;rw[h0a,ha];exact q
theorem zaF {es0:List (ab×ab)}{k e:ab}{h0:MH} (h0a:h0[a]?=Qa (.dict ep0 es0)) (ha:h[a]?=Qa (.dict ep es)) (hf:j5 es k=Qe) (q:Q ((j7 es k).getD e) h):WM c (.ref a) my [k,e] h0 h Q:=
 EL h0a ha (AL (o:=Qa ((j7 es k).getD e,h)) hf (lH q))
theorem Of {es0:List (ab×ab)}{k:ab}{h0:MH} (h0a:h0[a]?=Qa (.dict ep0 es0)) (ha:h[a]?=Qa (.dict ep es)) (hf:j5 es k=Qe) (q:Q ((j7 es k).getD .none) h):WM c (.ref a) my [k] h0 h Q:=
 EL h0a ha (Lr (AL (o:=Qa ((j7 es k).getD .none,h)) hf (lH q)))
end
def Aw (I:Frame->MH->Prop) (R:Fl->Frame->MH->Prop) (fl:Fl) (fr:Frame) (h:MH):Prop:=Fl.casesOn (motive:=λ_=>Prop) fl (I fr h) (R .nx fr h) (I fr h) λv=>R (.rt v) fr h
variable {R:Fl->Frame->MH->Prop}
section
variable {c:Cx}{fr:Frame}{h:MH}
def P8 {next:Nat->MH->Option (Option ab)}{bd:Frame->ab->Option Frame}{b:Frame->MH->SR} (n:Nat) (I:Nat->Frame->MH->Prop)
  (step: ∀i,i<n-> ∀fr h,I i fr h->Wo (next i h) λov=>Wo ov λv=>Wo (bd fr v) λfr1=>W (b fr1 h) λp h'=>Aw (I (i+1)) R p.1 p.2 h')
  (stop: ∀fr h,I n fr h->Wo (next n h) λov=>ov=Qd/\R .nx fr h): ∀ (m i fu:Nat),i+m=n->m<fu-> ∀fr h,I i fr h->W (UM next bd b fu i fr h) λp h=>R p.1 p.2 h:=by
 intro m
 induction m with
 |zero=>
  intro i fu hi hf fr h I0;refine(Ks hf).elim λfu zq12=>?_;obtain rfl:=zq12;subst hi;have q:Wo (next i h) λov=>ov=Qd/\R .nx fr h:=stop fr h I0;exact v3 (q.mono λov q=>by obtain⟨rfl,q⟩:=q;exact⟨q⟩)
 |succ m ih=>
  intro i fu hi hf fr h I0;obtain⟨fu,rfl⟩:=Ks (Jt (Jy _) hf);have q:=step i (Js (ZY (Zs _)) (Jx hi)) fr h I0;refine v3 (q.mono λov q=>?_);cases ov with
  |none=>exact q.w.elim
  |some v=>
   refine v3 (Wo.mono q.w λfr1 q=>aw (W.mono q λp h2 q=>?_));obtain⟨fl,f2⟩:=p;cases fl with
   |nx=>exact ih (i+1) _ (by lia) (KC hf) f2 h2 q
   |ct=>exact ih (i+1) _ (by lia) (KC hf) f2 h2 q
   |bk=>exact⟨q⟩
   |rt v=>exact⟨q⟩
def Gg {e:Ex}{b:List Sm}
  (q:WE c fr e h λv h1=> ∃k,∃xs:List ab,pC h1 v=Qa k/\xs.length<c.cn/\∃I:Nat->Frame->MH->Prop,I 0 fr h1/\(∀i fr h,I i fr h->lX h i k=Qa xs[i]?)/\
   (∀i x,xs[i]?=Qa x-> ∀fr h,I i fr h->Wo (nG fr tg many x) λfr1=>cq c b fr1 h (Aw (I (i+1)) R))/\∀fr h,I xs.length fr h->R .nx fr h):WS c (.fo tg many e b) fr h R:=by
 show W (bx (eval c e fr h) λv h1=>(pC h1 v).bind λk=>UM (λi h=>lX h i k) (λfr v=>nG fr tg many v) (λfr h=>execs c b fr h) c.cn 0 fr h1) λp h=>R p.1 p.2 h;refine aw (W.mono q λv h1 q=>?_);refine q.elim λk zq8=>zq8.elim λxs zq9=>zq9.2.2.elim λI zq10=>?_;rw[zq9.1];refine P8 xs.length I (λi hi fr h hI=>?_) (λfr h hI=>?_) xs.length 0 c.cn (ZM _) zq9.2.1 fr h1 zq10.1
 ·simp only[zq10.2.1 i fr h hI,Jn hi]
  exact⟨⟨zq10.2.2.1 i _ (Jn hi) fr h hI⟩⟩
 ·rw[zq10.2.1 _ fr h hI,ZH (Jv _)]
  exact⟨rfl,zq10.2.2.2 fr h hI⟩
def GO (ha:h[a]?=Qa (.list vs)):pC h (.ref a)=Qa (.ls a):=by
 show ay Qd (ay (ay ((h[a]?.bind ae.list?).map λ_=>It.ls a) _) _)=_;rw[ha];rfl
def GB (ha:h[a]?=Qa (.list vs)):lX h i (.ls a)=Qa vs[i]?:=by
 show (h[a]?.bind ae.list?).map _=_;rw[ha];rfl
def Ab (hn:n<=bb):pC h (.fy n)=Qa (.rg n):=by
 show ay (au _ _) _=_;simp only[decide_eq_true (show (n:Int)<=(bb:Int) by lia),decide_eq_true (show-(bb:Int)<=(n:Int) by lia)];rfl
def Gw (n:Nat):List ab:=(Zg n).map λ(i:Nat)=>ab.int (i:Int)
def nV:(Gw n).length=n:=by unfold Gw;rw[Jp,Zi]
def A7 (hi:i<n):(Gw n)[i]?=Qa (.int i):=by
 unfold Gw;rw[JA,ZW hi];rfl
def Gv {x:ab} (hx:(Gw n)[i]?=Qa x):i<n/\x= .int i:=by
 have hi:i<n:=by have:=jY hx;rwa [nV] at this
 rw[A7 hi] at hx;exact⟨hi,(Qa.inj hx).symm⟩
def DX (hi:i<=n):lX h i (.rg n)=Qa (Gw n)[i]?:=by
 show Qa (bif decide ((i:Int)<(n:Int)) then Qa (ab.int i) else Qd)=_;by_cases hl:i<n
 ·rw[decide_eq_true (show (i:Int)<(n:Int) by lia),A7 hl];rfl
 ·rw[decide_eq_false (show ¬(i:Int)<(n:Int) by lia),ZH (by rw[nV];exact J7 hl)];rfl
theorem mL {v:ab}{Q:Frame->Prop} (q:Q (fr.set x (Qa v))):Wo (nG fr [x] Qb v) Q:=⟨q⟩
theorem N9 {e:Ex}{b:List Sm} (hn:vs.length<c.cn) (I:Nat->Frame->MH->Prop)
  (hk: ∀i fr h,I i fr h->h[a]?=Qa (.list vs)) (q:WE c fr e h λv h1=>v= .ref a/\I 0 fr h1)
  (step: ∀i v,vs[i]?=Qa v-> ∀fr h,I i fr h->cq c b (fr.set x (Qa v)) h (Aw (I (i+1)) R))
  (stop: ∀fr h,I vs.length fr h->R .nx fr h):WS c (.fo [x] Qb e b) fr h R:=
 Gg (W.mono q λv h1 q=>by
  refine eqB q.1 ?_;exact⟨.ls a,vs,GO (hk _ _ _ q.2),hn,I,q.2,λi fr h hI=>GB (hk _ _ _ hI),λi x hx fr h hI=>mL (step i x hx fr h hI),stop⟩)
theorem N8 {e:Ex}{b:List Sm} (hn:n<c.cn) (hl:n<=bb) (I:Nat->Frame->MH->Prop)
  (q:WE c fr e h λv h1=>v= .fy n/\I 0 fr h1)
  (step: ∀i,i<n-> ∀fr h,I i fr h->cq c b (fr.set x (Qa (.int i))) h (Aw (I (i+1)) R))
  (stop: ∀fr h,I n fr h->R .nx fr h):WS c (.fo [x] Qb e b) fr h R:=
 Gg (W.mono q λv h1 q=>by
  obtain⟨rfl,I0⟩:=q;refine⟨.rg n,Gw n,Ab hl,by rw[nV];exact hn,λi fr h=>i<=n/\I i fr h,⟨Jy _,I0⟩,λi fr h hI=>DX hI.1,λi x hx fr h hI=>?_,λfr h hI=>stop fr h (nV (n:=n)▸hI.2)⟩;obtain⟨hi,rfl⟩:=Gv hx;refine mL (W.mono (step i hi fr h hI.2) λp h' q=>?_);obtain⟨fl,f2⟩:=p;cases fl with
  |nx=>exact⟨hi,q⟩
  |ct=>exact⟨hi,q⟩
  |bk=>exact q
  |rt v=>exact q)
def P6 {cond:Frame->MH->Option (Bool×MH)}{b:Frame->MH->SR} (I:Nat->Frame->MH->Prop)
  (step: ∀k fr h,I k fr h->W (cond fr h) λr h1=>Br r (W (b fr h1) λp h'=>Aw (λfr h=> ∃j,j<k/\I j fr h) R p.1 p.2 h') (R .nx fr h1)): ∀ (m k:Nat),k<m-> ∀fr h,I k fr h->W (WY cond b m fr h) λp h=>R p.1 p.2 h:=by
 intro m
 induction m with
 |zero=>exact λk hk=>absurd hk (Ze _)
 |succ m ih=>
  intro k hk fr h I0;refine aw (W.mono (step k fr h I0) λr h1 q=>?_);cases r with
  |false=>exact⟨q.2 rfl⟩
  |true=>
   simp only[cond_true];refine aw (W.mono (q.1 rfl) λp h2 q=>?_);obtain⟨fl,f2⟩:=p;cases fl with
   |nx=>obtain⟨j,hj,q⟩:=q;exact ih j (Js hj (JN hk)) f2 h2 q
   |ct=>obtain⟨j,hj,q⟩:=q;exact ih j (Js hj (JN hk)) f2 h2 q
   |bk=>exact⟨q⟩
   |rt v=>exact⟨q⟩
def zdo {t:Ex}{b:List Sm}{k:Nat} (I:Nat->Frame->MH->Prop) (hk:k<c.cn) (I0:I k fr h)
  (step: ∀k fr h,I k fr h->WE c fr t h λv h1=>WT v h1 λr=>Br r (cq c b fr h1 (Aw (λfr h=> ∃j,j<k/\I j fr h) R)) (R .nx fr h1)):WS c (.wh t b) fr h R:=by
 exact P6 I (λk fr h hI=>sF (step k fr h hI)) c.cn k hk fr h I0
def uj (c:Cx) (fr:Frame) (es:List Ex) (h:MH) (Q:Bool->MH->Prop):Prop:=W (HN c es fr h) Q
theorem vY {Q:Bool->MH->Prop} (q:Q Qe h):uj c fr [] h Q:=lH q
def Wf {Q:Bool->MH->Prop}{e:Ex}{r:List Ex} (q:WE c fr e h λv h1=>WT v h1 λb=>Br b (uj c fr r h1 Q) (Q Qb h1)):uj c fr (e::r) h Q:=by
 exact aw (sF (W.mono q λv h1 q=>Wo.mono q λb q=>G9 ⟨q.1,λh=>lH (q.2 h)⟩))
def Ah {next:Nat->MH->Option (Option ab)}{t:ab->MH->Option (Option Frame×MH)}{el:Frame->MH->Option (ab×MH)}{R:MH->Prop} (n:Nat) (I:Nat->MH->Prop)
  (step: ∀i,i<n-> ∀h,I i h->Wo (next i h) λov=>Wo ov λv=>W (t v h) λo h1=>(o=Qd->I (i+1) h1)/\∀fr,o=Qa fr->W (el fr h1) λx h2=> ∃vs,h2[ac]?=Qa (.list vs)/\vs.length<bb/\I (i+1) (h2.set ac (.list (vs++ [x]))))
  (stop: ∀h,I n h->Wo (next n h) λov=>ov=Qd/\R h): ∀ (m i fu:Nat),i+m=n->m<fu-> ∀h,I i h->W (compLoop next t el ac fu i h) λ_ h=>R h:=by
 intro m
 induction m with
 |zero=>
  intro i fu hi hf h I0;refine(Ks hf).elim λfu zq6=>?_;obtain rfl:=zq6;subst hi;have q:Wo (next i h) λov=>ov=Qd/\R h:=stop h I0;exact v3 (q.mono λov q=>by obtain⟨rfl,q⟩:=q;exact⟨q⟩)
 |succ m ih=>
  intro i fu hi hf h I0;refine xE (Ks (Jt (Jy _) hf)) λfu cv=>?_;subst cv;have q:=step i (Js (ZY (Zs _)) (Jx hi)) h I0;refine v3 (q.mono λov q=>?_);cases ov with
  |none=>exact q.w.elim
  |some v=>
   have q:W (t v h) λo h1=>(o=Qd->I (i+1) h1)/\∀fr,o=Qa fr->W (el fr h1) λx h2=> ∃vs,h2[ac]?=Qa (.list vs)/\vs.length<bb/\I (i+1) (h2.set ac (.list (vs++ [x]))):=q.w;refine aw (W.mono q λo h1 q=>?_);cases o with
   |none=>exact ih (i+1) _ (by lia) (KC hf) h1 (q.1 rfl)
   |some fr=>
    refine aw (W.mono (q.2 fr rfl) λx h2 q=>?_);refine xEAA q λvs e1 e2 q=>?_;rw[e1];show W (au (Zj (vs.length+1) bb) _) _;rw[Zf.mpr e2];exact ih (i+1) _ (by lia) (KC hf) _ q
def zP {eh it:Ex}{ifs:List Ex}
  (q:WE c fr it h λv h1=> ∃k,∃xs:List ab,pC h1 v=Qa k/\xs.length<c.cn/\∃I:Nat->MH->Prop,I 0 (h1++ [.list []])/\(∀i h,I i h->lX h i k=Qa xs[i]?)/\
   (∀i x,xs[i]?=Qa x-> ∀hh,I i hh->Wo (nG fr tg many x) λfr1=>uj c fr1 ifs hh λb h2=>Br b (WE c fr1 eh h2 λx h3=> ∃vs,h3[h1.length]?=Qa (.list vs)/\vs.length<bb/\I (i+1) (h3.set h1.length (.list (vs++ [x])))) (I (i+1) h2))/\
   ∀hh,I xs.length hh->Q (.ref h1.length) hh):WE c fr (.comp eh tg many it ifs) h Q:=by
 refine aw (W.mono q λv h1 q=>?_);refine q.elim λk zq1=>zq1.elim λxs zq2=>zq2.2.2.elim λI zq3=>?_;simp only[zq2.1];refine aw (f:=λ_ h2=>Qa (ab.ref h1.length,h2)) ?_;refine W.mono (Q:=λ_ h2=>Q (.ref h1.length) h2) ?_ λ_ _ q=>lH q;refine Ah (R:=λh2=>Q (.ref h1.length) h2) xs.length I (λi hi hh hI=>?_) (λhh hI=>?_) xs.length 0 c.cn (ZM _) zq2.2.1 _ zq3.1
 ·simp only[zq3.2.1 i hh hI,Jn hi]
  refine AF (AF (v3 (Wo.mono (zq3.2.2.1 i _ (Jn hi) hh hI) λfr1 q=>aw (W.mono q λb h2 q=>?_))));cases b with
  |true=>exact⟨nofun,λfr e=>by refine lW e ?_;exact q.1 rfl⟩
  |false=>exact⟨λ_=>q.2 rfl,nofun⟩
 ·rw[zq3.2.1 _ hh hI,ZH (Jv _)]
  exact⟨rfl,zq3.2.2.2 hh hI⟩
theorem oH {r:List Sm} (q:cq c r fr h R):zm c r R .nx fr h:=q
variable {I:Frame->MH->Prop}
abbrev nn (k:Nat):Frame:=JL k Qd
end
section
variable {c:Cx}{fr:Frame}{h:MH}
def HL {vs:List α}{p:α->Bool}{v:α} (hv:vs[i]?=Qa v):(vs.take (i+1)).filter p=(vs.take i).filter p++(bif p v then[v] else[]):=by
 refine(Ju.mp hv).elim λhi zq1=>?_;refine eqE zq1 ?_;rw[KD hi,Xs];cases hb:p vs[i] <;>simp [hb]
end
section
variable {c:Cx}{fr:Frame}{h:MH}
def AM {s t:List Nat}:lj h (.str s) (.str t)=Qa (s==t):=by
 show Qa (KR (.str ⟨s.toArray⟩) (.str ⟨t.toArray⟩))=_;have e:KR (.str ⟨s.toArray⟩) (.str ⟨t.toArray⟩)=((⟨s.toArray⟩:PySem.Str)==⟨t.toArray⟩):=rfl;rw[e];by_cases hs:s=t
 ·refine eqE hs ?_;simp
 ·rw[beq_false_of_ne hs,beq_false_of_ne]
  intro e
  apply hs
  injection e with e;injection e
def v5 {a b:Int}:lj h (.int a) (.int b)=Qa (a==b):=by
 rfl
theorem AB (ha:h[a]?=Qa (.list vs)) (q:Q (.int vs.length) h):WV c (.bi vE) [.ref a] h Q:=Dt (zcj ha) q
theorem AC (ha:h[a]?=Qa (.dict ep es)) (q:Q (.int es.length) h):WV c (.bi vE) [.ref a] h Q:=Dt (zck ha) q
end
section
variable {c:Cx}{fr:Frame}{h:MH}
def Wi {eh it:Ex} (J:MH->List ab->MH->Prop) (hf:vs.length<c.cn) (hl:vs.length<=bb)
  (q:WE c fr it h λv h1=>v= .ref a/\h1[a]?=Qa (.list vs)/\J h1 [] []/\
   (∀ys t v,J h1 ys t->vs[ys.length]?=Qa v->WE c (fr.set x (Qa v)) eh (h1++ .list ys::t) λy h3=> ∃s,h3=h1++ .list ys::(t++s)/\J h1 (ys++ [y]) (t++s))/\
   ∀ys t,ys.length=vs.length->J h1 ys t->Q (.ref h1.length) (h1++ .list ys::t)):WE c fr (.comp eh [x] Qb it []) h Q:=by
 refine zP (W.mono q λv h1 q=>?_);obtain⟨rfl,h1a,j0,st,q⟩:=q;refine⟨.ls a,vs,GO h1a,hf,λi hh=> ∃ys t,hh=h1++ .list ys::t/\ys.length=i/\J h1 ys t,⟨[],[],rfl,rfl,j0⟩,?_,?_,?_⟩
 ·rintro i hh ⟨ys,t,rfl,_,_⟩;exact GB (jS h1a)
 ·rintro i v hv hh ⟨ys,t,rfl,rfl,hy⟩
  refine mL (vY (zcJ (W.mono (st ys t v hy hv) λy h3 q=>?_)));obtain⟨s,rfl,ht⟩:=q;exact⟨ys,ap,Js (jY hv) hl,ys++ [y],t++s,wF,by rw[Jz];rfl,ht⟩
 ·rintro hh ⟨ys,t,rfl,hl,hy⟩;exact q ys t hl hy
def nX (p:Nat->Bool) (n:Nat):List Nat:=(Zg n).filter p
def UE {p:Nat->Bool}:nX p (n+1)=nX p n++(bif p n then[n] else[]):=by
 delta nX;simp only[qak,Xs];cases hb:p n<;>simp [hb]
def WD {p:Nat->Bool}:(nX p n).length<=n:=by
 have:=Z7 p (Zg n)
 rwa [Zi] at this
def dw (l:List Nat):List ab:=l.map λ(k:Nat)=>ab.int (k:Int)
def BN {it:Ex}{ifs:List Ex} (p:Nat->Bool) (J:MH->Prop) (j0:J []) (hf:n<c.cn) (hl:n<=bb)
  (q:WE c fr it h λv h1=>v= .fy n/\(∀i,i<n-> ∀acc t,J t->uj c (fr.set x (Qa (.int i))) ifs (h1++ .list acc::t) λb h2=>(∃s,J s/\h2=h1++ .list acc::s)/\b=p i)/\(∀i:Nat,(fr.set x (Qa (.int (i:Int))))[x]?=Qa (Qa (.int (i:Int))))/\∀t,J t->Q (.ref h1.length) (h1++ .list (dw (nX p n))::t)):WE c fr (.comp (.var x) [x] Qb it ifs) h Q:=by
 refine zP (W.mono q λv h1 q=>?_);obtain⟨rfl,st,hx,q⟩:=q;refine⟨.rg n,Gw n,Ab hl,by rw[nV];exact hf,λi hh=>i<=n/\∃t,J t/\hh=h1++ .list (dw (nX p i))::t,⟨Jy _,[],j0,rfl⟩,?_,?_,?_⟩
 ·rintro i hh ⟨hi,_⟩;exact DX hi
 ·rintro i v hv hh ⟨_,t,jt,rfl⟩
  obtain⟨hi,rfl⟩:=Gv hv;refine mL (W.mono (st i hi _ t jt) λb h2 q=>?_);obtain⟨⟨s,js,rfl⟩,rfl⟩:=q;refine br (λhb=>Wg (hx i) ⟨_,ap,?_,hi,s,js,?_⟩) (λhb=>⟨hi,s,js,?_⟩)
  ·delta dw
   rw[Jp]
   have:=WD (p:=p) (n:=i)
   exact Js (Jt this hi) hl
  ·rw[wF,UE,hb]
   delta dw;rw[JU];rfl
  ·rw[UE,hb,cond_false,Zm]
 ·rintro hh ⟨_,t,jt,rfl⟩
  exact nV▸q t jt
theorem BO {it:Ex}{ifs:List Ex} (p:Nat->Bool) (hf:n<c.cn) (hl:n<=bb)
  (q:WE c fr it h λv h1=>v= .fy n/\(∀i,i<n-> ∀acc,uj c (fr.set x (Qa (.int i))) ifs (h1++ [.list acc]) λb h2=>h2=h1++ [.list acc]/\b=p i)/\(∀i:Nat,(fr.set x (Qa (.int (i:Int))))[x]?=Qa (Qa (.int (i:Int))))/\Q (.ref h1.length) (h1++ [.list (dw (nX p n))])):WE c fr (.comp (.var x) [x] Qb it ifs) h Q:=
 BN p (· = []) rfl hf hl (W.mono q λv h1 q=>⟨q.1,λi hi acc t e=>by rw[e];exact W.mono (q.2.1 i hi acc) λb h2 q=>⟨⟨[],rfl,q.1⟩,q.2⟩,q.2.2.1,λt e=>e▸q.2.2.2⟩)
end
section
variable {c:Cx}{fr:Frame}{h:MH}
structure pg (F:σ->Frame) (G:σ->MH) (P:σ->Prop) (fr:Frame) (h:MH):Prop where
 x: ∃s,fr=F s/\h=G s/\P s
theorem pg.of {F:σ->Frame}{G:σ->MH}{P:σ->Prop} (s:σ) (hp:P s):pg F G P (F s) (G s):=⟨s,rfl,rfl,hp⟩
structure To (F:σ->Frame) (G:σ->MH) (P:σ->Prop) (R R':Fl->Frame->MH->Prop):Prop where
 nx: ∀s,P s->R' .nx (F s) (G s)
 ct: ∀s,P s->R' .ct (F s) (G s)
 bk: ∀fr h,R .nx fr h->R' .bk fr h
 rt: ∀v fr h,R (.rt v) fr h->R' (.rt v) fr h
theorem AP {F:σ->Frame}{G:σ->MH}{P:σ->Prop}:To F G P R (Aw (pg F G P) R):=⟨λs hp=>pg.of s hp,λs hp=>pg.of s hp,λ_ _ h=>h,λ_ _ _ h=>h⟩
theorem vZ {e:Ex}{b:List Sm} (F:σ->Frame) (G:σ->MH) (P:Nat->σ->Prop) (hn:vs.length<c.cn) (s0:σ)
  (hk: ∀i s,P i s->(G s)[a]?=Qa (.list vs)) (q:WE c fr e h λv h1=>v= .ref a/\fr=F s0/\h1=G s0/\P 0 s0)
  (step: ∀i v s R',vs[i]?=Qa v->P i s->To F G (P (i+1)) R R'->Wo (nG (F s) tg many v) λfr1=>cq c b fr1 (G s) R')
  (stop: ∀s,P vs.length s->R .nx (F s) (G s)):WS c (.fo tg many e b) fr h R:=
 Gg (W.mono q λv h1 q=>by
  refine eqB q.1 ?_;refine eqB q.2.1 ?_;refine eqB q.2.2.1 ?_;refine⟨.ls a,vs,GO (hk _ _ q.2.2.2),hn,λi=>pg F G (P i),pg.of s0 q.2.2.2,λi fr h hI=>?_,λi x hx fr h hI=>?_,λfr h hI=>?_⟩
  ·obtain⟨s,rfl,rfl,hp⟩:=hI.x
   exact GB (hk i s hp)
  ·refine hI.x.elim λs zq5=>?_
   refine eqB zq5.1 ?_;refine eqB zq5.2.1 ?_;exact step i x s _ hx zq5.2.2 AP
  ·obtain⟨s,rfl,rfl,hp⟩:=hI.x
   exact stop s hp)
theorem BI {e:Ex}{b:List Sm} (F:σ->Frame) (G:σ->MH) (P:Nat->σ->Prop) (hn:n<c.cn) (hl:n<=bb) (s0:σ)
  (q:WE c fr e h λv h1=>v= .fy n/\fr=F s0/\h1=G s0/\P 0 s0)
  (step: ∀i s R',i<n->P i s->To F G (P (i+1)) R R'->cq c b ((F s).set x (Qa (.int i))) (G s) R')
  (stop: ∀s,P n s->R .nx (F s) (G s)):WS c (.fo [x] Qb e b) fr h R:=
 N8 hn hl (λi=>pg F G (P i)) (W.mono q λv h1 q=>⟨q.1,by rw[q.2.1,q.2.2.1];exact pg.of s0 q.2.2.2⟩) (λi hi fr h hI=>by
  obtain⟨s,rfl,rfl,hp⟩:=hI.x;exact step i s _ hi hp AP) λfr h hI=>by
  obtain⟨s,rfl,rfl,hp⟩:=hI.x;exact stop s hp
def zaA {t:Ex}{b:List Sm}{k:Nat} (F:σ->Frame) (G:σ->MH) (P:Nat->σ->Prop) (hk:k<c.cn) (s0:σ) (e1:fr=F s0) (e2:h=G s0) (I0:P k s0)
  (step: ∀k s R',P k s->To F G (λs=> ∃j,j<k/\P j s) R R'->WE c (F s) t (G s) λv h1=>WT v h1 λr=>Br r (cq c b (F s) h1 R') (R .nx (F s) h1)):WS c (.wh t b) fr h R:=by
 subst e1;subst e2;refine zdo (λk=>pg F G (P k)) hk (pg.of s0 I0) λk fr h hI=>?_;refine hI.x.elim λs zq1=>?_;refine eqB zq1.1 ?_;refine eqB zq1.2.1 ?_;have hp:=zq1.2.2;exact step k s _ hp ⟨λs hp=>⟨hp.choose,hp.choose_spec.1,pg.of s hp.choose_spec.2⟩,λs hp=>⟨hp.choose,hp.choose_spec.1,pg.of s hp.choose_spec.2⟩,λ_ _ h=>h,λ_ _ _ h=>h⟩
end
set_option genCtorIdx false in
inductive Hs where
 |nil
 |c (t:Hs)
 |v (v:ab) (t:Hs)
 |p (v:ab) (h:MH) (t:Hs)
 |h (h:MH) (t:Hs)
 |b (b:Bool) (t:Hs)
 |br (x y:Hs)
 |s (fl:Fl) (fr:Frame) (h:MH) (t:Hs)
 |l (vs:List ab) (t:Hs)
structure kG {α:Type} (a:α):Prop where
 f:False
def qu {α:Type} (o:Option α) (k:α->Prop):Prop:=JC (motive:=λ_=>Prop) o (kG o) k
section
variable {α:Type} (o:Option α) (hs:Hs)
def RY (o:Option ab) (hs:Hs) (k:ab->Hs->Prop):Prop:=
 Hs.casesOn (motive:=λ_=>Prop) hs (kG o) (λt=>qu o λv=>k v t) (λv t=>o=Qa v/\k v t) (λ_ _ _=>kG o) (λ_ _=>kG o) (λ_ _=>kG o) (λ_ _=>kG o) (λ_ _ _ _=>kG o) (λ_ _=>kG o)
def Dg (o:Option (ab×MH)) (hs:Hs) (k:ab->MH->Hs->Prop):Prop:=
 Hs.casesOn (motive:=λ_=>Prop) hs (kG o) (λt=>qu o λv=>k v.1 v.2 t) (λ_ _=>kG o) (λv h t=>o=Qa (v,h)/\k v h t) (λ_ _=>kG o) (λ_ _=>kG o) (λ_ _=>kG o) (λ_ _ _ _=>kG o) (λ_ _=>kG o)
def R0 (o:Option MH) (hs:Hs) (k:MH->Hs->Prop):Prop:=
 Hs.casesOn (motive:=λ_=>Prop) hs (kG o) (λt=>qu o λv=>k v t) (λ_ _=>kG o) (λ_ _ _=>kG o) (λh t=>o=Qa h/\k h t) (λ_ _=>kG o) (λ_ _=>kG o) (λ_ _ _ _=>kG o) (λ_ _=>kG o)
def As (o:Option Bool) (hs:Hs) (k:Bool->Hs->Prop):Prop:=
 Hs.casesOn (motive:=λ_=>Prop) hs (kG o) (λt=>qu o λv=>k v t) (λ_ _=>kG o) (λ_ _ _=>kG o) (λ_ _=>kG o) (λb t=>o=Qa b/\k b t) (λx y=>qu o λr=>(r=Qe->k Qe x)/\(r=Qb->k Qb y)) (λ_ _ _ _=>kG o) (λ_ _=>kG o)
def RZ (o:SR) (hs:Hs) (k:Fl->Frame->MH->Hs->Prop):Prop:=
 Hs.casesOn (motive:=λ_=>Prop) hs (kG o) (λt=>qu o λv=>k v.1.1 v.1.2 v.2 t) (λ_ _=>kG o) (λ_ _ _=>kG o) (λ_ _=>kG o) (λ_ _=>kG o) (λ_ _=>kG o) (λfl fr h t=>o=Qa ((fl,fr),h)/\k fl fr h t) (λ_ _=>kG o)
def zfA (o:Option (List ab)) (hs:Hs) (k:List ab->Hs->Prop):Prop:=
 Hs.casesOn (motive:=λ_=>Prop) hs (kG o) (λt=>qu o λv=>k v t) (λ_ _=>kG o) (λ_ _ _=>kG o) (λ_ _=>kG o) (λ_ _=>kG o) (λ_ _=>kG o) (λ_ _ _ _=>kG o) (λvs t=>o=Qa vs/\k vs t)
end
def uS {o:Option α}{k:α->Prop} (q:qu o k): ∃v,o=Qa v/\k v:=by
 cases o with
 |none=>exact q.f.elim
 |some v=>exact⟨v,rfl,q⟩
variable {hs:Hs}
def zcP {o:Option ab}{k:ab->Hs->Prop} (q:RY o hs k): ∃v t,o=Qa v/\k v t:=by
 cases hs with
 |c t=>exact(uS q).elim λv q=>⟨v,t,q⟩
 |v v t=>exact⟨v,t,q⟩
 |_=>exact q.f.elim
variable {o:Option (ab×MH)}
def zcR {k:ab->MH->Hs->Prop} (q:Dg o hs k): ∃v h t,o=Qa (v,h)/\k v h t:=by
 cases hs with
 |c t=>exact(uS q).elim λv q=>⟨v.1,v.2,t,q⟩
 |p v h t=>exact⟨v,h,t,q⟩
 |_=>exact q.f.elim
def zcT {o:Option MH}{k:MH->Hs->Prop} (q:R0 o hs k): ∃h t,o=Qa h/\k h t:=by
 cases hs with
 |c t=>exact(uS q).elim λv q=>⟨v,t,q⟩
 |h h t=>exact⟨h,t,q⟩
 |_=>exact q.f.elim
def zcU {o:Option Bool}{k:Bool->Hs->Prop} (q:As o hs k): ∃b t,o=Qa b/\k b t:=by
 cases hs with
 |c t=>exact(uS q).elim λv q=>⟨v,t,q⟩
 |b b t=>exact⟨b,t,q⟩
 |br x y=>
  refine(uS q).elim λr q=>⟨r,cond r x y,q.1,?_⟩;cases r with
  |true=>exact q.2.1 rfl
  |false=>exact q.2.2 rfl
 |_=>exact q.f.elim
def zcQ {o:SR}{k:Fl->Frame->MH->Hs->Prop} (q:RZ o hs k): ∃fl fr h t,o=Qa ((fl,fr),h)/\k fl fr h t:=by
 cases hs with
 |c t=>exact(uS q).elim λv q=>⟨v.1.1,v.1.2,v.2,t,q⟩
 |s fl fr h t=>exact⟨fl,fr,h,t,q⟩
 |_=>exact q.f.elim
def zcS {o:Option (List ab)}{k:List ab->Hs->Prop} (q:zfA o hs k): ∃vs t,o=Qa vs/\k vs t:=by
 cases hs with
 |c t=>exact(uS q).elim λv q=>⟨v,t,q⟩
 |l vs t=>exact⟨vs,t,q⟩
 |_=>exact q.f.elim
mutual
noncomputable def lR (c:Cx):Ex->Frame->MH->Hs->(ab->MH->Hs->Prop) ->Prop
 | .var x,fr,h,hs,K=>qu fr[x]? λo=>qu o λv=>K v h hs
 | .lit v,_,h,hs,K=>K v h hs
 | .list es,fr,h,hs,K=>s7 c es fr h hs λvs h1 hs=>K (.ref h1.length) (h1++ [.list vs]) hs
 | .ba es,fr,h,hs,K=>s7 c es fr h hs λvs h1 hs=>K (.ba vs) h1 hs
 | .dict es,fr,h,hs,K=>s7 c es fr h hs λl h1 hs=>Dg ((yJ l []).bind λps=>au (Zj es.length 30) (lK h1 (.dict (Qa ps.length) ps))) hs K
 | .ez op a b,fr,h,hs,K=>lR c a fr h hs λx h1 hs=>lR c b fr h1 hs λy h2 hs=>Dg (pE op x y h2) hs K
 | .not a,fr,h,hs,K=>lR c a fr h hs λx h1 hs=>As (truthy h1 x) hs λb hs=>K (.bool (!b)) h1 hs
 | .ew op a b,fr,h,hs,K=>lR c a fr h hs λx h1 hs=>lR c b fr h1 hs λy h2 hs=>As (nB op x y h2) hs λr hs=>K (.bool r) h2 hs
 | .qh stop es,fr,h,hs,K=>Ag c stop es fr h hs K
 | .ite t a b,fr,h,hs,K=>lR c t fr h hs λx h1 hs=>As (truthy h1 x) hs λr hs=>bif r then lR c a fr h1 hs K else lR c b fr h1 hs K
 | .aq e n,fr,h,hs,K=>lR c e fr h hs λo h1 hs=>RY (getAttr c.P h1 o n) hs λv hs=>K v h1 hs
 | .sub e i,fr,h,hs,K=>lR c e fr h hs λo h1 hs=>lR c i fr h1 hs λk h2 hs=>RY (lG h2 o k) hs λv hs=>K v h2 hs
 | .slice e k bs,fr,h,hs,K=>lR c e fr h hs λo h1 hs=>s7 c bs fr h1 hs λvs h2 hs=>Dg (slice h2 o k vs) hs K
 | .call f as,fr,h,hs,K=>lR c f fr h hs λg h1 hs=>s7 c as fr h1 hs λvs h2 hs=>Dg (jZ c g vs h2) hs K
 | .bh o n as,fr,h,hs,K=>lR c o fr h hs λg h1 hs=>s7 c as fr h1 hs λvs h2 hs=>Dg (kP c g n vs h1 h2) hs K
 | .comp eh tg many it ifs,fr,h,hs,K=>Dg (eval c (.comp eh tg many it ifs) fr h) hs K
noncomputable def s7 (c:Cx):List Ex->Frame->MH->Hs->(List ab->MH->Hs->Prop) ->Prop
 | [],_,h,hs,K=>K [] h hs
 |e::r,fr,h,hs,K=>lR c e fr h hs λv h1 hs=>s7 c r fr h1 hs λvs h2 hs=>K (v::vs) h2 hs
noncomputable def Ag (c:Cx) (stop:Bool):List Ex->Frame->MH->Hs->(ab->MH->Hs->Prop) ->Prop
 | [],_,_,_,_=>False
 |e::r,fr,h,hs,K=>lR c e fr h hs λv h1 hs=>bif r.isEmpty then K v h1 hs else As (truthy h1 v) hs λb hs=>bif b==stop then K v h1 hs else Ag c stop r fr h1 hs K
end
def DF (c:Cx) (fr:Frame) (h:MH) (v:ab) (hs:Hs) (K:Frame->MH->Hs->Prop):T1->Prop
 | .nm x=>K (fr.set x (Qa v)) h hs
 | .at o n=>lR c o fr h hs λov h1 hs=>R0 (setAttr c.P h1 ov n v) hs λh2 hs=>K fr h2 hs
 | .sb o i=>lR c o fr h hs λov h1 hs=>lR c i fr h1 hs λiv h2 hs=>R0 (m7 h2 ov iv v) hs λh3 hs=>K fr h3 hs
def Gk (c:Cx):List T1->List ab->Frame->MH->Hs->(Frame->MH->Hs->Prop) ->Prop
 | [],vs,fr,h,hs,K=>bif vs.isEmpty then K fr h hs else False
 |t::ts,vs,fr,h,hs,K=>qu vs.head? λv=>DF c fr h v hs (λfr' h' hs=>Gk c ts vs.tail fr' h' hs K) t
mutual
noncomputable def zac (c:Cx):Sm->Frame->MH->Hs->(Fl->Frame->MH->Hs->Prop) ->Prop
 | .expr e,fr,h,hs,K=>lR c e fr h hs λ_ h1 hs=>K .nx fr h1 hs
 | .fq t e,fr,h,hs,K=>lR c e fr h hs λv h1 hs=>DF c fr h1 v hs (λfr' h2 hs=>K .nx fr' h2 hs) t
 | .jk ts e,fr,h,hs,K=>lR c e fr h hs λv h1 hs=>zfA (items h1 v) hs λvs hs=>Gk c ts vs fr h1 hs λfr' h2 hs=>K .nx fr' h2 hs
 | .ret e,fr,h,hs,K=>lR c e fr h hs λv h1 hs=>K (.rt v) fr h1 hs
 | .ite t a b,fr,h,hs,K=>lR c t fr h hs λx h1 hs=>As (truthy h1 x) hs λr hs=>bif r then Vi c a fr h1 hs K else Vi c b fr h1 hs K
 | .wh t b,fr,h,hs,K=>RZ (exec c (.wh t b) fr h) hs K
 | .fo tg many e b,fr,h,hs,K=>RZ (exec c (.fo tg many e b) fr h) hs K
 | .brk,fr,h,hs,K=>K .bk fr h hs
 | .cont,fr,h,hs,K=>K .ct fr h hs
 | .td,fr,h,hs,K=>K .nx fr h hs
 | .gu,_,_,_,_=>False
 | .bL _,_,_,_,_=>False
 | .tr _ _ _ _,_,_,_,_=>False
noncomputable def Vi (c:Cx):List Sm->Frame->MH->Hs->(Fl->Frame->MH->Hs->Prop) ->Prop
 | [],fr,h,hs,K=>K .nx fr h hs
 |s::r,fr,h,hs,K=>zac c s fr h hs λfl fr1 h1 hs=>Fl.casesOn (motive:=λ_=>Prop) fl (Vi c r fr1 h1 hs K) (K fl fr1 h1 hs) (K fl fr1 h1 hs) (λ_=>K fl fr1 h1 hs)
end
abbrev Ev {α:Type} (K:α->MH->Hs->Prop) (v:α) (h:MH):Prop:= ∃t,K v h t
theorem yP {k:ab->MH->Hs->Prop} (q:Dg o hs k):W o (Ev k):=let ⟨_,_,t,e,q⟩:=zcR q; .of e ⟨t,q⟩
theorem Nn {o:Option ab}{k:ab->Hs->Prop} (q:RY o hs k):Wo o λv=> ∃t,k v t:=let ⟨_,t,e,q⟩:=zcP q; .of e ⟨t,q⟩
theorem Nq {o:Option MH}{k:MH->Hs->Prop} (q:R0 o hs k):Wo o λv=> ∃t,k v t:=let ⟨_,t,e,q⟩:=zcT q; .of e ⟨t,q⟩
theorem VB {o:Option Bool}{k:Bool->Hs->Prop} (q:As o hs k):Wo o λv=> ∃t,k v t:=let ⟨_,t,e,q⟩:=zcU q; .of e ⟨t,q⟩
def zcK (a:A->A') (b:B->B') (q:cond r A B):Br r A' B':=by
 cases r with
 |true=>exact zcJ (a q)
 |false=>exact ziv (b q)
structure HE (c:Cx) (e:Ex):Prop where
 o: ∀ {fr h hs K},lR c e fr h hs K->W (eval c e fr h) (Ev K)
structure jP (c:Cx) (es:List Ex):Prop where
 o: ∀ {fr h hs K},s7 c es fr h hs K->W (qI c es fr h) (Ev K)
 b: ∀ {stop fr h hs K},Ag c stop es fr h hs K->WE c fr (.qh stop es) h (Ev K)
section
variable {c:Cx}
def oU (e:Ex):HE c e:=by
 refine Ex.rec (motive_1:=HE c) (motive_2:=jP c) ?_ ?_ ?_ ?_ ?_ ?_ ?_ ?_ ?_ ?_ ?_ ?_ ?_ ?_ ?_ ?_ ?_ ?_ e
 ·exact λx=>⟨λq=>let ⟨o,e1,q⟩:=uS q;let ⟨v,e2,q⟩:=uS q;Wg (e1.trans (congrArg Qa e2)) ⟨_,q⟩⟩
 ·exact λv=>⟨λq=>zaJ ⟨_,q⟩⟩
 ·exact λes i=>⟨λq=>AJ ((i.o q).mono λ_ _ q=>q)⟩
 ·exact λes i=>⟨λq=>zaG ((i.o q).mono λ_ _ q=>q)⟩
 ·exact λes i=>⟨λq=>aw ((i.o q).mono λ_ _ q=>q.elim λ_ q=>yP q)⟩
 ·exact λop a b i j=>⟨λq=>zaN ((i.o q).mono λ_ _ q=>q.elim λ_ q=>(j.o q).mono λ_ _ q=>q.elim λ_ q=>yP q)⟩
 ·exact λa i=>⟨λq=>zaI ((i.o q).mono λ_ _ q=>q.elim λ_ q=>VB q)⟩
 ·exact λop a b i j=>⟨λq=>zaL ((i.o q).mono λ_ _ q=>q.elim λ_ q=>(j.o q).mono λ_ _ q=>q.elim λ_ q=>VB q)⟩
 ·exact λst es i=>⟨λq=>i.b q⟩
 ·exact λt a b i j k=>⟨λq=>zaK ((i.o q).mono λ_ _ q=>q.elim λ_ q=>(VB q).mono λr q=>q.elim λ_ q=>zcK j.o k.o q)⟩
 ·exact λa n i=>⟨λq=>Om ((i.o q).mono λ_ _ q=>q.elim λ_ q=>Nn q)⟩
 ·exact λa b i j=>⟨λq=>zaH ((i.o q).mono λ_ _ q=>q.elim λ_ q=>(j.o q).mono λ_ _ q=>q.elim λ_ q=>Nn q)⟩
 ·exact λa k bs i j=>⟨λq=>BL ((i.o q).mono λ_ _ q=>q.elim λ_ q=>(j.o q).mono λ_ _ q=>q.elim λ_ q=>yP q)⟩
 ·exact λf as i j=>⟨λq=>Oj ((i.o q).mono λ_ _ q=>q.elim λ_ q=>(j.o q).mono λ_ _ q=>q.elim λ_ q=>yP q)⟩
 ·exact λo n as i j=>⟨λq=>Oh ((i.o q).mono λ_ _ q=>q.elim λ_ q=>(j.o q).mono λ_ _ q=>q.elim λ_ q=>yP q)⟩
 ·exact λeh tg many it ifs _ _ _=>⟨λq=>yP q⟩
 ·exact⟨λq=>AI ⟨_,q⟩,λq=>q.elim⟩
 ·refine λe r i j=>⟨λq=>BK ((i.o q).mono λ_ _ q=>q.elim λ_ q=>(j.o q).mono λ_ _ q=>q),λ{st fr h hs K} q=>?_⟩
  cases r with
  |nil=>exact Ol (i.o q)
  |cons f r=>exact zaM ((i.o q).mono λ_ _ q=>q.elim λ_ q=>(VB q).mono λb q=>q.elim λ_ q=>zcK (λq=>⟨_,q⟩) j.b q)
def Lz {fr:Frame}{h:MH}{v:ab}{K:Frame->MH->Hs->Prop}{t:T1} (q:DF c fr h v hs K t):W (LA c fr h v t) (Ev K):=by
 cases t with
 |nm x=>exact lH (a:=fr.set x (Qa v)) ⟨_,q⟩
 | «at» o n=>
  show W (bx (eval c o fr h) λov h1=>(setAttr c.P h1 ov n v).map λh2=>(fr,h2)) _;exact aw (((oU o).o q).mono λov h1 q=>q.elim λ_ q=>Uu (f:=λh2=>(fr,h2)) (Nq q))
 |sb o i=>
  show W (bx (eval c o fr h) λov h1=>bx (eval c i fr h1) λiv h2=>(m7 h2 ov iv v).map λh3=>(fr,h3)) _;exact aw (((oU o).o q).mono λov h1 q=>q.elim λ_ q=>aw (((oU i).o q).mono λiv h2 q=>q.elim λ_ q=>Uu (f:=λh2=>(fr,h2)) (Nq q)))
def E7: ∀ {vs:List ab}{fr:Frame}{h:MH}{hs:Hs}{K:Frame->MH->Hs->Prop} (q:Gk c ts vs fr h hs K),eU c ts vs fr h (Ev K):=by
 induction ts with
 |nil=>
  intro vs fr h hs K q;cases vs with
  |nil=>exact lH (a:=fr) ⟨_,q⟩
  |cons _ _=>exact q.elim
 |cons t ts i=>
  intro vs fr h hs K q;refine(uS q).elim λv zq2=>?_;have q:=zq2.2;exact v3 (Wo.of zq2.1 (aw ((Lz q).mono λ_ _ q=>q.elim λ_ q=>i q)))
abbrev Ex' (K:Fl->Frame->MH->Hs->Prop) (fl:Fl) (fr:Frame) (h:MH):Prop:= ∃t,K fl fr h t
structure HX (c:Cx) (s:Sm):Prop where
 o: ∀ {fr h hs K},zac c s fr h hs K->WS c s fr h (Ex' K)
structure fD (c:Cx) (s:List Sm):Prop where
 o: ∀ {fr h hs K},Vi c s fr h hs K->cq c s fr h (Ex' K)
theorem Np {o:SR}{k:Fl->Frame->MH->Hs->Prop} (q:RZ o hs k):W o λp h=>Ex' k p.1 p.2 h:=let ⟨_,_,_,t,e,q⟩:=zcQ q; .of e ⟨t,q⟩
def Od {t:T1}{e:Ex}{fr:Frame}{h:MH} (q:WE c fr e h λv h1=>W (LA c fr h1 v t) λf2 h2=>R .nx f2 h2):WS c (.fq t e) fr h R:=by
 exact aw (W.mono q λv h1 q=>aw (W.mono q λ_ _ q=>⟨q⟩))
def MT (s:List Sm):fD c s:=by
 refine Sm.rec_1 (motive_1:=HX c) (motive_2:=fD c) ?_ ?_ ?_ ?_ ?_ ?_ ?_ ?_ ?_ ?_ ?_ ?_ ?_ ?_ ?_ s
 ·exact λe=>⟨λq=>Oa ((oU e).o q)⟩
 ·exact λt e=>⟨λq=>Od (((oU e).o q).mono λ_ _ q=>q.elim λ_ q=>Lz q)⟩
 ·exact λts e=>⟨λq=>Oc (((oU e).o q).mono λ_ _ q=>q.elim λ_ q=>let ⟨_,_,e2,q⟩:=zcS q; .of e2 (E7 q))⟩
 ·exact λe=>⟨λq=>zaB ((oU e).o q)⟩
 ·exact λt a b j k=>⟨λq=>zaC (((oU t).o q).mono λ_ _ q=>q.elim λ_ q=>(VB q).mono λr q=>q.elim λ_ q=>zcK j.o k.o q)⟩
 ·exact λt b _=>⟨λq=>Np q⟩
 ·exact λtg many e b _=>⟨λq=>Np q⟩
 ·exact⟨λq=>zaD ⟨_,q⟩⟩
 ·exact⟨λq=>Ob ⟨_,q⟩⟩
 ·exact⟨λq=>N7 ⟨_,q⟩⟩
 ·exact⟨λq=>q.elim⟩
 ·exact λ_=>⟨λq=>q.elim⟩
 ·exact λ_ _ _ _=>⟨λq=>q.elim⟩
 ·exact⟨λq=>N6 ⟨_,q⟩⟩
 ·exact λs r i j=>⟨λq=>BG ((i.o q).mono λp _ q=>by
   obtain⟨fl,fr⟩:=p;obtain⟨t,q⟩:=q;cases fl with
   |nx=>exact j.o q
   |bk=>exact⟨_,q⟩
   |ct=>exact⟨_,q⟩
   |rt v=>exact⟨_,q⟩)⟩
end
structure S (h:MH) (hs:Hs) (p:Prop):Prop where
 o:p
variable {g g':MH}{ht:Hs}
theorem S.z (f:pr):S g .nil pr:=⟨f⟩
theorem S.at (g':MH) (r:S g' hs pr):S g hs pr:=⟨r.o⟩
theorem S.c (r:S g hs pr):S g (.c hs) pr:=⟨r.o⟩
theorem S.c2 (r:S g hs pr):S g (.c (.c hs)) pr:=⟨r.o⟩
theorem S.c3 (r:S g hs pr):S g (.c (.c (.c hs))) pr:=⟨r.o⟩
theorem S.c4 (r:S g hs pr):S g (.c (.c (.c (.c hs)))) pr:=⟨r.o⟩
theorem S.v {o:Option ab}{v:ab} (f:o=Qa v) (r:S g hs pr):S g (.v v hs) (o=Qa v/\pr):=⟨f,r.o⟩
theorem S.w {o:MH->Option ab}{v:ab} (f: ∀h,o h=Qa v) (r:S g hs pr):S g (.v v hs) (o g=Qa v/\pr):=⟨f g,r.o⟩
theorem S.p {v:ab} (f:o=Qa (v,g')) (r:S g' hs pr):S g (.p v g' hs) (o=Qa (v,g')/\pr):=⟨f,r.o⟩
theorem S.q {o:MH->Option (ab×MH)}{v:ab} (f: ∀h,o h=Qa (v,h)) (r:S g hs pr):S g (.p v g hs) (o g=Qa (v,g)/\pr):=⟨f g,r.o⟩
theorem S.h {o:Option MH} (f:o=Qa g') (r:S g' hs pr):S g (.h g' hs) (o=Qa g'/\pr):=⟨f,r.o⟩
theorem S.b {o:Option Bool}{b:Bool} (f:o=Qa b) (r:S g hs pr):S g (.b b hs) (o=Qa b/\pr):=⟨f,r.o⟩
theorem S.k {o:MH->Option Bool}{b:Bool} (f: ∀h,o h=Qa b) (r:S g hs pr):S g (.b b hs) (o g=Qa b/\pr):=⟨f g,r.o⟩
theorem S.t {x:Bool} (f:x=Qe) (r:S g hs pr):S g (.b Qe hs) (Qa x=Qa Qe/\pr):=⟨congrArg Qa f,r.o⟩
theorem S.f {x:Bool} (f:x=Qb) (r:S g hs pr):S g (.b Qb hs) (Qa x=Qa Qb/\pr):=⟨congrArg Qa f,r.o⟩
theorem S.br (x:Bool) (f:x=Qe->S g hs pr) (h:x=Qb->S g ht pq):S g (.br hs ht) ((x=Qe->pr)/\(x=Qb->pq)):=⟨λe=>(f e).o,λe=>(h e).o⟩
theorem S.s {o:SR}{fl:Fl}{fr:Frame} (f:o=Qa ((fl,fr),g')) (r:S g' hs pr):S g (.s fl fr g' hs) (o=Qa ((fl,fr),g')/\pr):=⟨f,r.o⟩
theorem S.l {o:Option (List ab)} (f:o=Qa vs) (r:S g hs pr):S g (.l vs hs) (o=Qa vs/\pr):=⟨f,r.o⟩
section
variable {b:List Sm}{fr:Frame}{h:MH}{p:Prop}{P:ik}
def kC {c:Cx} (s:S h hs p) (e:Vi c b fr h hs (λfl fr h _=>R fl fr h)=p):cq c b fr h R:=by
 exact((MT b).o (e▸s.o)).mono λ_ _ q=>q.elim λ_ q=>q
end
section
variable {P:ik}{c:Cx}{h:MH}
theorem W.eq {o:Option (α×MH)}{v:α} (w:W o λa b=>a=v/\b=g):o=Qa (v,g):=let ⟨_,_,e,q⟩:=w.get;by obtain⟨rfl,rfl⟩:=q;exact e
def Wo.eq {o:Option α}{v:α} (w:Wo o λa=>a=v):o=Qa v:=by
 cases o with
 |none=>exact w.w.elim
 |some p=>exact congrArg Qa w.w
theorem ga {k:Nat}{v:ab} (ha:h[a]?=Qa (.inst k fs)) (hv:vM fs n=Qa v) (hf:P.cz k n=Qe):getAttr P h (.ref a) n=Qa v:=Wo.eq (zaQ ha hv hf (Q:=λa _=>a=v) rfl)
theorem sl {v:ab} (ha:h[a]?=Qa (.list vs)) (hv:vs[i]?=Qa v):lG h (.ref a) (.int i)=Qa v:=Wo.eq (AG ha hv (Q:=λa _=>a=v) rfl)
theorem sd {k v:ab} (ha:h[a]?=Qa (.dict ep es)) (hf:j5 es k=Qe) (hv:j7 es k=Qa v):lG h (.ref a) k=Qa v:=Wo.eq (Og ha hf hv (Q:=λa _=>a=v) rfl)
theorem zbe {v:ab} (ha:h[a]?=Qa (.list vs)) (hi:i<vs.length):m7 h (.ref a) (.int i) v=Qa (h.set a (.list (vs.set i v))):=Wo.eq (CH ha hi rfl)
theorem E9 {k v:ab} (ha:h[a]?=Qa (.dict ep es)) (hf:j5 es k=Qe) (hl:es.length<bb):m7 h (.ref a) k v=Qa (h.set a (.dict (bif (j7 es k).isSome then ep else ep.map (· +1)) (nM es k v))):=Wo.eq (CI ha hf hl rfl)
theorem DG {k:Nat}{v:ab} (ha:h[a]?=Qa (.inst k fs)) (hf:P.cz k n=Qe) (hl:fs.length<400):setAttr P h (.ref a) n v=Qa (h.set a (.inst k (W6 fs n v))):=Wo.eq (Fs ha hf hl rfl)
theorem xo (s t:List Nat) (h:MH):lj h (.str s) (.str t)=Qa (s==t):=AM
theorem uc (s t:Int) (h:MH):lj h (.int s) (.int t)=Qa (s==t):=v5
def cj {a b:ab} (e:lj h a b=Qa r):nB .ne a b h=Qa (!r):=by
 show (lj h a b).map _=_;rw[e];rfl
def SY {a b:ab} (e:FX h a b=Qa r):nB .oh a b h=Qa (!r):=by
 show (FX h a b).map _=_;rw[e];rfl
theorem fn {as:List ab}{v:ab} (hc:P.fv a=Qd) (w:WF P d a as h λx y=>x=v/\y=g):jZ (ag P d) (.ai a) as h=Qa (v,g):=W.eq (mJ hc w)
theorem me {f:Nat}{o:ab}{self as:List ab}{h0:MH}{v:ab} (hg:nA P h0 o n=Qa (f,self)) (w:WF P d f (self++as) h λx y=>x=v/\y=g):kP (ag P d) o n as h0 h=Qa (v,g):=W.eq (kE hg w)
theorem WF.to {f:Nat}{as:List ab}{v:ab} (w:WF P d f as h λx y=>x=v/\y=g) (q:Q v g):WF P d f as h Q:=W.of (W.eq w) q
def zgf {s:List Nat}{bs:List ab}{p:Nat×Nat} (e:Vp s.length n bs=Qa p):slice h (.str s) n bs=Qa (.str (ni s p.1 p.2),h):=by
 show (Vp s.length n bs).bind _=_;rw[e];rfl
def WS.at {s:Sm}{fr f:Frame}{fl:Fl} (w:WS c s fr h λa b k=>a=fl/\b=f/\k=g):exec c s fr h=Qa ((fl,f),g):=by
 refine xEEAAA (W.get w) λcv k e q1 q2 q3=>?_;obtain⟨a,b⟩:=cv;refine eqE q1 ?_;refine eqE q2 ?_;refine eqE q3 ?_;exact e
theorem kJ {e:Ex}{fr:Frame}{p:Prop} (s:S h hs p) (q:lR c e fr h hs (λv h _=>Q v h)=p):WE c fr e h Q:=((oU e).o (q▸s.o)).mono λ_ _ q=>q.elim λ_ q=>q
theorem ck (v:ab) (g:MH):v=v/\g=g:=⟨rfl,rfl⟩
def kh {e:Ex}{b:List Sm} (F:σ->Frame) (G:σ->MH) (P:Nat->σ->Prop) (s0:σ) (hn:n<=100000) (hc:c.cn=200000)
  (e0:WE c (F s0) e (G s0) λv g=>v= .fy n/\g=G s0) (p0:P 0 s0)
  (step: ∀i s R' R,i<n->P i s->To F G (P (i+1)) R R'->cq c b ((F s).set x (Qa (.int i))) (G s) R'): ∃s,P n s/\exec c (.fo [x] Qb e b) (F s0) (G s0)=Qa ((.nx,F s),G s):=by
 have w:WS c (.fo [x] Qb e b) (F s0) (G s0) λfl f g=> ∃s,P n s/\fl= .nx/\f=F s/\g=G s:=
  BI F G P (by rw[hc];exact Js (JQ hn) (Jw _ _)) (by show n<=1000000;exact Jl hn (Jw _ _)) s0 (e0.mono λv g q=>⟨q.1,rfl,q.2,p0⟩) (λi s R' hi hp T=>step i s R' _ hi hp T) λs hp=>⟨s,hp,rfl,rfl,rfl⟩
 obtain⟨⟨fl,f⟩,g,e,s,hp,q1,q2,q3⟩:=W.get w;refine eqE q1 ?_;subst q2;subst q3;exact⟨s,hp,e⟩
def qf {e:Ex}{b:List Sm} (F:σ->Frame) (G:σ->MH) (P:Nat->σ->Prop) (s0:σ) (hn:vs.length<=100000) (hc:c.cn=200000)
  (hk: ∀i s,P i s->(G s)[a]?=Qa (.list vs)) (e0:WE c (F s0) e (G s0) λv g=>v= .ref a/\g=G s0) (p0:P 0 s0)
  (step: ∀i v s R' R,vs[i]?=Qa v->P i s->To F G (P (i+1)) R R'->Wo (nG (F s) tg many v) λfr1=>cq c b fr1 (G s) R'): ∃s,P vs.length s/\exec c (.fo tg many e b) (F s0) (G s0)=Qa ((.nx,F s),G s):=by
 have w:WS c (.fo tg many e b) (F s0) (G s0) λfl f g=> ∃s,P vs.length s/\fl= .nx/\f=F s/\g=G s:=
  vZ F G P (by rw[hc];exact Js (JQ hn) (Jw _ _)) s0 hk (e0.mono λv g q=>⟨q.1,rfl,q.2,p0⟩) (λi v s R' hi hp T=>step i v s R' _ hi hp T) λs hp=>⟨s,hp,rfl,rfl,rfl⟩
 obtain⟨⟨fl,f⟩,g,e,s,hp,q1,q2,q3⟩:=W.get w;refine eqE q1 ?_;subst q2;subst q3;exact⟨s,hp,e⟩
def zfn (P:ik) (a:Nat) (as:List ab):Option (List Sm×Frame):=(P.km a).bind λf=>(vQ f as).map λvs=>(f.body,rH f vs)
def kN {K f:Nat}{as:List ab} (hd:K+1<=d) (fr:Frame) (bd:List Sm) (e:zfn P f as=Qa (bd,fr)) (q: ∀d',K<=d'->cq (ag P d') bd fr h (Fin Q)):WF P d f as h Q:=by
 refine xEA (XT.mp e) λfn e1 e=>?_;refine xEA (Zl.mp e) λvs e2 e=>?_;cases e;exact zdr hd e1 e2 q
def oQ {a b:List Sm}: ∀ {fr:Frame}{h:MH},cq c a fr h (zm c b R) ->cq c (a++b) fr h R:=by
 induction a with
 |nil=>exact λq=>q.w
 |cons s a ih=>
  intro fr h q;have q:W (bx (exec c s fr h) λ(p:Fl×Frame) h1=>Fl.casesOn (motive:=λ_=>SR) p.1 (execs c a p.2 h1) (Qa (p,h1)) (Qa (p,h1)) (λ_=>Qa (p,h1))) λp h=>zm c b R p.1 p.2 h:=q;refine aw ((w_bnd' q).mono λp h1 q=>?_);obtain⟨fl,f2⟩:=p;cases fl with
  |nx=>exact ih q
  |bk=>exact⟨q.w⟩
  |ct=>exact⟨q.w⟩
  |rt v=>exact⟨q.w⟩
theorem Sl {s:Sm}{r:List Sm}{fr:Frame}{h:MH} (q:cq c [s] fr h (zm c r R)):cq c (s::r) fr h R:=oQ q
end
theorem zge (C:bf):EU C:=zgd C
end Internal
open PySem PySem.W PySem.W.X PyProof.Rows PySem.Calls
set_option linter.unusedVariables false
namespace Tactic
def yp : List String := ["builtins.copyright#opaque","builtins.credits#opaque","builtins.license#opaque"]
end Tactic
lay_quick Tactic.yp
namespace Tactic
abbrev TP:Program:=PySem.Challenge.pw_ui0508_15
abbrev kz:=PySem.W.Fast.tw15667345088766844465
theorem Az: @topGo=kz:=PySem.W.Fast.te15667345088766844465
abbrev jl:=PySem.W.Fast.tw14082659384304107361
theorem Dl: @topRun=jl:=PySem.W.Fast.te14082659384304107361
abbrev jm:=PySem.W.Fast.tw14374325043358763698
theorem Dm: @segRun=jm:=PySem.W.Fast.te14374325043358763698
abbrev bj:=PySem.W.Fast.tw10110043849684766642
theorem Li: @segRunT=bj:=PySem.W.Fast.te10110043849684766642
abbrev bg:=PySem.W.Fast.tw14364793385576792824
theorem nP: @treeTable=bg:=PySem.W.Fast.te14364793385576792824
abbrev lr:=PySem.W.Fast.tw11892475500146522536
theorem Dn: @denote=lr:=PySem.W.Fast.te11892475500146522536
abbrev ro:=QW×List Qw×Scope
def zeq:ro:=(⟨[],[],Qd,[],[],Qd,[]⟩,[],⟨.function,[],Qb,Qb,[]⟩)
def fQ (s:Qw) (z:ro×List Qw):ro×List Stmt:=Stmt.casesOn (motive_2:=λ_=>ro×List Qw) s (λ_ a b _ _ _ c _ _ _=>((a,b,c),[])) (λ_ _ _ _ _ _ _ _ _ _=>z) (λ_ _ _ b _ _ _ _ _ _ _=>(z.1,b)) (λ_ _=>z) (λ_ _=>z) (λ_ _ _=>z) (λ_ _ _ _ _ _ _=>z) (λ_ _ _ _=>z) (λ_ _ _ _ _=>z) (λ_ _ _ _ _=>z) (λ_ _ _ _ _=>z) (λ_ _ _ _=>z) (λ_ _ _ _=>z) (λ_ _ _=>z) (λ_ _ _=>z) (λ_ _ _=>z) (λ_ _ _=>z) (λ_ _ _ _ _=>z) (λ_ _ _ _ _=>z) (λ_ _ _=>z) (λ_ _=>z) (λ_ _ _ _=>z) (λ_ _=>z) (λ_ _=>z) (λ_ _=>z) (λ_=>z) (λ_=>z) (λ_=>z)
def bD (l:List Qw):ro×List Stmt:=l.casesOn (zeq,[]) λs _=>fQ s (zeq,[])
def qg (i:Nat):ro:=(bD (TP.main.body.drop i)).1
def jn (i j:Nat):ro:=(bD ((bD (TP.main.body.drop i)).2.drop j)).1
def zir (f:ro) (name qual:PySem.Str) (g:Qj) (cl:List (PySem.Str×Qj)) (dV kV doc pm:Value) (an:Option Qj) (cd ct:Value) (b:Qj):FuncData:=
 {name:=name,qualname:=qual,params:=f.1,body:= .stmts f.2.1,scope:=f.2.2,globals:=g,closure:=cl,defaults:=dV,kwdefaults:=kV,doc:=doc,pyModule:=pm,annotations:=an,code:=cd,closureTuple:=ct,builtins:=b}
def de (P:Params) (n:PySem.Str) (t:Tok) (v:Value):DictEntry:=⟨qbd P n,.str n t,v⟩
def XZ (f:Nat):Nat->List Nat:= @Nat.rec (λ_=>Nat->List Nat) (λ_=> []) (λ_ ih k=>bif qbb k 0 then[] else(k % 128)::ih (k / 128)) f
abbrev XN (k:Nat):PySem.Str:=⟨⟨XZ 60 k⟩⟩
abbrev X9 (i:Int) (t:Tok):Value:=qbv i t
abbrev X0 (i:Int):Value:=qbv i 0
abbrev XS (s:PySem.Str) (t:Tok):Value:=KQ s t
abbrev XB (b:Bool):Value:=qaf b
abbrev X7:Value:=Yd
abbrev X6 {α:Type}:Option α:=Qd
abbrev X8 {α:Type} (l:List α):Array α:=Zp l
abbrev X1 (a:Qj):Value:= .ref a
def XO (c:Value) (d:Option Qj) (b:Data):Params->Obj:=λ_=>⟨c,d,b,Zp []⟩
def X2 (n:PySem.Str) (t:Tok) (v:Value):Params->DictEntry:=λP=>de P n t v
abbrev XF (f:ro) (n q:PySem.Str) (g:Qj) (dV kV doc pm:Value) (an:Option Qj) (cd ct:Value)   :Data:= .func (zir f n q g [] dV kV doc pm an cd ct 0)
abbrev X5:Params->BT:=λ_=> .nil
abbrev rm:Value:=ZD s2766695959194262286x5
abbrev aM:Value:=ZD s5856160107412720595x4
abbrev iq:Value:=ZD s14018661285674007319x4
abbrev aJ:Value:=ZD s7174869446012820540x8
abbrev jK:Value:=ZD s6070975301684473832x10
abbrev eS:Value:=ZD s11030030927630378310x26
abbrev jJ:Value:=ZD s17162191345867700912x4
abbrev eR:Value:=ZD s14755015743595814543x17
abbrev jI:Value:=ZD s4290257624100764138x5
abbrev jH:Value:=ZD s9222952809800978799x4
abbrev ziA:Value:=ZD s2742458400755230247x6
def n0:=XN 0x7d97675c9bf6bc
def n1:=XN 0x79e0bba75c6bf6e9c3b31af
def n2:=XN 0xbf7f769c3b6fdf
def n3:=XN 0xbf7f2edc3bafdf
def n4:=XN 0x1cf3eed3c9765c7d7273dd87974
def n5:=XN 421105403244511
def n6:=XN 0x17efe5cf875e3c3c2fdf
def n7:=XN 0x2fdfe597261dfb2fdf
def n8:=XN 0xbf7f1e5e1cefdf
def n9:=XN 0x17eff3ddbf4f4c3d37eedd86fdf
def tn:=XN 0xbf7f9eed3d3669eb8afdf
def aB:=XN 0xbf7f2ecd39afdf
def zz:=XN 0x2fdfc997463c38efdf
def xn:=XN 29219126239
def yn:=XN 2874561127620
def zy:=XN 0x1cb86ed9ab466c98b0
def ym:=XN 367430873507014
def xm:=XN 0xa94e2d48316947
def xl:=XN 22438781133
def zx:=XN 0x3d7eed1bebb6efaf74284a0
def px:=XN 0xe5bf9728b97769d18f0cd
def wd:=XN 0x72cbd3a65d97f9e9
def wc:=XN 0x1cb2f4e99765fc9972ee
def wb:=XN 0x3665c58765fc9972ee
def wa:=XN 0x64e5bfbdfc9972ee
def vz:=XN 0x3a6eebbf1dfc9972ee
def vw:=XN 29779293299
def xk:=XN 0x66df7fa68cfa72f7
def yl:=XN 107
def ml:=XN 0x2fdfcbb3ae4dfb6fdf
def zw:=XN 0xe7cb7f2e595765c7d7273dd87974
def uv:=XN 0xbf7f2edc3bb661ebc6fdf
def mj:=XN 0x17efefdd97769d9d39f2d39afdf
def mi:=XN 0x5fbfcf2f4eb8b4f2e9d30dfc7a7a61e9cefdf
def uu:=XN 0x17efe6cbcb5e1cbdefdf
def yk:=XN 232387827
def b5:=XN 211597303
def b0:=XN 27359129846
def bZ:=XN 31381287660
def i0:=XN 245168109
def iZ:=XN 244872311
def yj:=XN 245248756
def tm:=XN 1897177
def oz:=XN 213610734
def dX:=XN 1897209
def sa:=XN 0x72cb9396fbfcf0e8
def ur:=XN 0xe9cb0f0bfbb0e3
def th:=XN 4013864876014
def mh:=XN 1668975
def mf:=XN 211383022
def md:=XN 243103344
def ow:=XN 31083689204
def jq:=XN 240679539
def pv:=XN 3809597945827
def ou:=XN 240745327
def mz:=XN 0x72cbd3a65c57f9e9
def pu:=XN 251393139
def pn:=XN 211317490
def dp:=XN 215692019
def gk:=XN 97
def kg:=XN 98
def pk:=XN 1964018
def vt:=XN 0xbf7fa63d392fdf
def tf:=XN 31381287628
def te:=XN 31371130819
def vq:=XN 211350495
def bY:=XN 31371130851
def oi:=XN 3497140974659
def dW:=XN 3497140974691
def Hh:=XN 30815303797
def zh8:=XN 226275565
def Hg:=XN 30815418348
def zD:=XN 4186732950732
def D2:=XN 0xddbf4f4c787966
def zeI:=XN 4186732950764
def zeH:=XN 110
def zh7:=XN 100
def zh6:=XN 15586
def uH:=XN 0x65dda7463c3b5765c7d7273dd87974
def IU:=XN 22430328018
def x8:=XN 217822450
def IT:=XN 0x14e2d483529dfa94e7cd
def IS:=XN 0x53874a0dfa94e7cd
def IR:=XN 1140559
def GG:=XN 1636673
def FN:=XN 0xbf7fa69dda6fdf
def PN:=XN 0xf3d386dcb7f9e9
def zb4:=XN 29204459756
def x7:=XN 4013864678135
def FM:=XN 4013059518708
def VZ:=XN 448010674303181
def PM:=XN 0x36efdfcafe4cb9775f
def GF:=XN 27356854899
def PL:=XN 3978726767219
def PK:=XN 0x32f4c3d39dfc9972ee
def Hf:=XN 1636705
def zb3:=XN 29749703779
def DZ:=XN 29749801698
def DY:=XN 1652581
def IQ:=XN 213824755
def zb2:=XN 0x39e3e586ff4ddd77e3
def PJ:=XN 0x79e9c36e5bfcf0e8
def zb1:=XN 3980574372076
def zb0:=XN 0xdda70ece17f9e9
def PI:=XN 255604707
def zbZ:=XN 31083705580
def zh5:=XN 3944329476846
def PH:=XN 3497149691891
def zbY:=XN 31379192435
def PG:=XN 0x6ed39f2e25d97769d18f0cd
def PF:=XN 0x1937655d97769d18f0cd
def FL:=XN 1915631
def zeG:=XN 4015504749023
def zeF:=XN 242809185
def zeE:=XN 242825061
def PE:=XN 31381566694
def zbX:=XN 0x6eebc9765c7d7273dd87974
def IM:=XN 3845270352481
def IL:=XN 230324596
def IK:=XN 443747950901215
def IJ:=XN 0x64e587bebc78715f
def II:=XN 244938463
def IH:=XN 0x1975e9d986fe4cb9775f
def IG:=XN 443304734618975
def IF:=XN 29762418549
def IE:=XN 0xe797a61e9cefe4cb9775f
def ID:=XN 4016545052521
def PD:=XN 177530829
def IC:=XN 27340091636
def IA:=XN 1651297
def Iz:=XN 0x73cbb74f4bfdf7f2
def Iy:=XN 0x3961e9ceff9e9c36e5
def PC:=XN 22424102871
def PB:=XN 372306437449676
def Iw:=XN 0x1d396fd1cefe4cb9775f
def He:=XN 448010674303213
def zeD:=XN 30815173231
def zh4:=XN 31354156147
def zh3:=XN 3497399218914
def zh2:=XN 1913581
def zh1:=XN 226277367
def zbW:=XN 1833972
def zh0:=XN 0x3661ddbf4f4c3c9765c7d7273dd87974
def zhZ:=XN 3465736155891
def zeC:=XN 0x1cf961e9cd765c7d7273dd87974
def zeB:=XN 27321202288
def zbV:=XN 243136498
def zeA:=XN 105
def zez:=XN 106
def zbU:=XN 0x35637dc306ac34f5bfdf0ec
def PA:=XN 4016840536927
def Pz:=XN 31115080543
def Py:=XN 211366111
def Px:=XN 3463297348319
def Pw:=XN 31110885616
def Pv:=XN 0x6cd9971dfef8765f
def Pu:=XN 0xe7d3467d397bdfef8765f
def Pt:=XN 0xcbbb4e8c7876dfef8765f
def zbT:=XN 1962220
def zey:=XN 14945
def zhY:=XN 3944367338220
def zhX:=XN 1995499
def zex:=XN 4016016503283
def zhW:=XN 3982185216117
def zhV:=XN 3466780866415
def RO:Int:=YM (10 ^ 4000)
def XG (t:BT):Nat->Obj:= @BT.rec (λ_=>Nat->Obj) (λ_=>⟨.none,Qd,.plain,Zp []⟩) (λv _ _ L R i=>bif qbb i 0 then v else bif qbb (i % 2) 1 then L (i / 2) else R (i / 2-1)) t
def XI (t:BT):Nat->Obj->BT:= @BT.rec (λ_=>Nat->Obj->BT) (λ_ o=> .node o .nil .nil) (λv l r L R i o=>bif qbb i 0 then .node o l r else bif qbb (i % 2) 1 then .node v (L (i / 2) o) r else .node v l (R (i / 2-1) o)) t
def XR (P:Params) (l:List (Params->Obj)):Nat->BT->BT:= @Xa _ (λ_=>Nat->BT->BT) (λ_ t=>t) (λo _ ih a t=>ih (ZP a) (XI t a (o P))) l
def XQ (t:Nat) (l:List (PySem.Str×Value)):List (Params->Qh):= @Xa _ (λ_=>Nat->List (Params->Qh)) (λ_=> []) (λe _ ih t=>X2 e.1 t e.2::ih (ZP t)) l t
def XP (t:Params->BT) (l:List (Nat×List (Params->Obj))):Params->BT:=λP=> @Xa (Nat×List (Params->Obj)) (λ_=>BT->BT) (λt=>t) (λe _ ih t=>ih (XR P e.2 e.1 t)) l (t P)
def XD (c:Value) (d:Option Qj) (l:List (Params->Qh)) (n:Nat):Params->Obj:=λP=>⟨c,d,.dict (Zp (l.map λe=>e P)) n,Zp []⟩
def XM (o:Obj):Params->Obj:=λ_=>o
def Y0 (a:PySem.Str) (b c d:Nat):Params->Obj:=XM ⟨(ZD s17162191345867700912x4),Qd,(.cls (ClassData.mk a [(ZD s2742458400755230247x6)] [(.ref b),(ZD s2742458400755230247x6)] c a Qe [] [] Qb Qd Qb)),Zp [Qd,Qd,(Qa (KQ a d)),(Qa (KQ a (d+8))),(Qa (Kc s11443829558043349243x14)),(Qa (qaf Qe))]⟩
def Y1 (a b:Nat) (c:PySem.Str) (d:Nat):Params->Obj:=XM ⟨(ZD s658472552662922059x5),Qd,.plain,Zp [(Qa (.ref a)),(Qa (.ref 3)),(Qa (.ref b)),Qd,(Qa (KQ c d)),Qd,(Qa (.ref 0))]⟩
def Y2 (a:PySem.Str) (b:Nat) (c:Int) (d:Nat) (e:Int):Params->Obj:=XO aM X6 (.fields (X8 [(XS a b),(XS a (b+1)),(XS n1 (b+2)),(X0 c),(X0 0),(X0 0),(X0 0),(X0 0),(X1 d),(XB Qb),(X0 181),(X1 (d+1)),X7,X7,X7,X7,(X0 e),(X0 c),(XS n1 (b+4))]))
def Y3 (a b:Nat):Params->Obj:=XO eR X6 (.fields (X8 [(XS vt a),(X1 b),(Kc s6511155373996960695x17),(Kc s12411053484034534018x21)]))
def Y4 (a b:Nat):Params->Obj:=XO eR X6 (.fields (X8 [(XS uu a),(X1 b),(Kc s10220274742760427390x26),X7]))
def Y5 (a:Nat):Params->Obj:=XO eS X6 (.fields (X8 [(Kc s4860613602091757760x24),(X1 a)]))
def Y6 (a:Nat):Params->Obj:=XO jI X6 (.fields (X8 [(X1 a),(X1 a),(X1 a)]))
def Y7 (a:PySem.Str) (b:Nat) (c:PySem.Str) (d:Int) (e:Nat) (f:Int):Params->Obj:=XO aM X6 (.fields (X8 [(XS a b),(XS c (b+1)),(XS n1 (b+2)),(X0 d),(X0 3),(X0 0),(X0 0),(X0 3),(X1 e),(XB Qe),(X0 181),(X1 (e+1)),X7,(X1 (e+2)),(X1 (e+3)),(X1 (e+4)),(X0 f),(X0 d),(XS n1 (b+7))]))
def Y8 (a b:Nat):Params->Obj:=XO (X1 a) (Qa b) .plain
def o0:=XO rm X6 (.seq (X8 []) 0)
def o1:=XO X7 X6 (.fields (X8 []))
def o2:=Y2 n0 182 1 11 185
def o3:=Y1 13 3 n2 164
def q0:List (Params->Qh):=XQ 165 [(n3,XS n4 277),(n5,X7),(n6,X7),(n7,Kc s7097527257260152453x26),(n8,X7),(n9,X1 6),(tn,X1 4)]++XQ 173 [(aB,XS n1 172),(zz,X7)]++ [X2 xn 193 (X1 21),X2 yn 197 (XS zy 196),X2 ym 199 (X9 4000 198),X2 xm 202 (X9 RO 201),X2 xl 204 (XS zx 203),X2 px 222 (X1 31),X2 wd 229 (X1 41),X2 wc 236 (X1 48),X2 wb 243 (X1 55),X2 wa 251 (X1 62),X2 vz 261 (X1 69),X2 vw 268 (X1 76),X2 xk 276 (X1 83)]
def o4:=XD iq X6 q0 22
def q1:List Value:= [(X0 1),(X0 0),(X1 20),(X0 9),(X0 0),(X1 27),(X0 11),(X0 0),(X1 40),(X0 13),(X0 0),(X1 47),(X0 17),(X0 0),(X1 54),(X0 21),(X0 0),(X1 61),(X0 27),(X0 0),(X1 68),(X0 31),(X0 0),(X1 75),(X0 37),(X0 0),(X1 82)]
def o5:=XO X7 X6 (.fields (X8 q1))
def iX:=XO rm X6 (.seq (X8 [jK]) 0)
def uq:=XO eS X6 (.fields (X8 [(Kc s10062305145149207511x16),jJ]))
def iW:=XD iq X6 [(X2 ml 212 (XS zw 194)),(X2 uv 214 (XS px 213)),(X2 mj 216 (X9 9 215)),(X2 mi 217 (X1 29))] 4
def iV:=Y2 px 207 9 25 210
def iU:=Y1 27 24 zw 194
def iT:=XD iq X6 [(X2 ml 212 (XS zw 194)),(X2 mj 216 (X9 9 215)),(X2 mi 217 (X1 29)),(X2 uu 219 (X1 32)),(X2 n5 220 X7)] 3
def iS:=XM ⟨(ZD s17162191345867700912x4),Qd,(.cls (ClassData.mk px [(ZD s6070975301684473832x10)] [(.ref 31),(ZD s6070975301684473832x10),(ZD s5946037652744460706x9),(ZD s4278001404047624695x13),(ZD s2742458400755230247x6)] 30 px Qe [] [] Qb Qd Qb)),Zp [(Qa (.ref 22)),Qd,(Qa (KQ px 205)),(Qa (KQ px 213)),(Qa (Kc s4209523147560561109x18)),(Qa (qaf Qe))]⟩
def iR:=Y4 218 31
def iQ:=Y6 31
def iP:=Y5 31
def q2:List (Params->Qh):=q0++ [X2 tm 382 (X1 156)]
def iO:=XD iq X6 q2 23
def q3:List Value:=q1++ [(X0 45),(X0 0),(X1 89)]
def iN:=XO X7 X6 (.fields (X8 q3))
def q4:List (Params->Qh):= [X2 ml 286 (XS n4 277),X2 uv 288 (XS tm 287),X2 mj 290 (X9 45 289)]++XQ 292 [(oz,XS dX 291),(sa,XB Qe),(ur,XB Qe)]++ [X2 th 296 (X9 0 295),X2 mh 298 (X9 1 297),X2 mf 306 (X1 97),X2 md 315 (X1 104),X2 ow 324 (X1 111),X2 jq 332 (X1 118),X2 pv 340 (X1 125),X2 ou 349 (X1 132),X2 mz 358 (X1 139),X2 pu 366 (X1 146)]++XQ 374 [(pn,X1 153),(mi,X1 154)]
def iM:=XD iq X6 q4 18
def q5:List Value:= [(X0 52),(X0 4),(X1 96),(X0 57),(X0 4),(X1 103),(X0 60),(X0 4),(X1 110),(X0 63),(X0 4),(X1 117),(X0 66),(X0 4),(X1 124),(X0 69),(X0 4),(X1 131),(X0 72),(X0 4),(X1 138),(X0 75),(X0 4),(X1 145),(X0 78),(X0 4),(X1 152)]
def iL:=XO X7 X6 (.fields (X8 q5))
def iK:=Y2 tm 281 45 87 284
def iJ:=Y1 89 86 n4 277
def q6:List (Params->Qh):= [X2 ml 286 (XS n4 277),X2 mj 290 (X9 45 289)]++XQ 292 [(oz,XS dX 291),(sa,XB Qe),(ur,XB Qe)]++ [X2 th 296 (X9 0 295),X2 mh 298 (X9 1 297),X2 mf 306 (X1 97),X2 md 315 (X1 104),X2 ow 324 (X1 111),X2 jq 332 (X1 118),X2 pv 340 (X1 125),X2 ou 349 (X1 132),X2 mz 358 (X1 139),X2 pu 366 (X1 146)]++XQ 374 [(pn,X1 153),(mi,X1 154)]++ [X2 vt 377 (X1 157)]++XQ 379 [(uu,X1 158),(n5,X7)]
def iI:=XD iq X6 q6 4
def iH:=Y0 tm 156 155 279
def iG:=Y3 376 156
def iF:=Y4 378 156
def iE:=Y6 156
def iD:=Y5 156
def q7:List (Params->Qh):=q2++ [X2 tf 485 (X1 233)]
def iC:=XD iq X6 q7 24
def q8:List Value:=q3++ [(X0 80),(X0 0),(X1 166)]
def iA:=XO X7 X6 (.fields (X8 q8))
def q9:List (Params->Qh):= [X2 ml 390 (XS n4 277),X2 uv 392 (XS tf 391),X2 mj 394 (X9 80 393)]++XQ 396 [(oz,XS bZ 395),(sa,XB Qe),(ur,XB Qe),(th,X7)]++ [X2 mh 401 (X9 0 400),X2 mf 409 (X1 174),X2 md 418 (X1 181),X2 ow 427 (X1 188),X2 jq 435 (X1 195),X2 pv 443 (X1 202),X2 ou 452 (X1 209),X2 mz 461 (X1 216),X2 pu 469 (X1 223)]++XQ 477 [(pn,X1 230),(mi,X1 231)]
def hZ:=XD iq X6 q9 18
def gW:List Value:= [(X0 87),(X0 4),(X1 173),(X0 92),(X0 4),(X1 180),(X0 99),(X0 4),(X1 187),(X0 104),(X0 4),(X1 194),(X0 107),(X0 4),(X1 201),(X0 110),(X0 4),(X1 208),(X0 115),(X0 4),(X1 215),(X0 118),(X0 4),(X1 222),(X0 121),(X0 4),(X1 229)]
def hY:=XO X7 X6 (.fields (X8 gW))
def zhQ:=Y2 tf 385 80 164 388
def zhP:=Y1 166 163 n4 277
def gV:List (Params->Qh):= [X2 ml 390 (XS n4 277),X2 mj 394 (X9 80 393)]++XQ 396 [(oz,XS bZ 395),(sa,XB Qe),(ur,XB Qe),(th,X7)]++ [X2 mh 401 (X9 0 400),X2 mf 409 (X1 174),X2 md 418 (X1 181),X2 ow 427 (X1 188),X2 jq 435 (X1 195),X2 pv 443 (X1 202),X2 ou 452 (X1 209),X2 mz 461 (X1 216),X2 pu 469 (X1 223)]++XQ 477 [(pn,X1 230),(mi,X1 231)]++ [X2 vt 480 (X1 234)]++XQ 482 [(uu,X1 235),(n5,X7)]
def zhO:=XD iq X6 gV 4
def zhN:=Y0 tf 233 232 383
def zhM:=Y3 479 233
def zhL:=Y4 481 233
def zhK:=Y6 233
def zhJ:=Y5 233
def dS:List (Params->Qh):=q7++ [X2 te 589 (X1 310),X2 vq 597 (X1 321)]
def zhI:=XD iq X6 dS 26
def dR:List Value:=q8++ [(X0 125),(X0 0),(X1 243),(X0 162),(X0 0),(X1 320)]
def zhH:=XO X7 X6 (.fields (X8 dR))
def gU:List (Params->Qh):= [X2 ml 493 (XS n4 277),X2 uv 495 (XS te 494),X2 mj 497 (X9 125 496)]++XQ 499 [(oz,XS bY 498),(sa,XB Qb),(ur,XB Qe)]++ [X2 th 503 (X9 0 502),X2 mh 505 (X9 1 504),X2 mf 513 (X1 251),X2 md 522 (X1 258),X2 ow 531 (X1 265),X2 jq 539 (X1 272),X2 pv 547 (X1 279),X2 ou 556 (X1 286),X2 mz 565 (X1 293),X2 pu 573 (X1 300)]++XQ 581 [(pn,X1 307),(mi,X1 308)]
def zhG:=XD iq X6 gU 18
def gT:List Value:= [(X0 132),(X0 4),(X1 250),(X0 137),(X0 4),(X1 257),(X0 140),(X0 4),(X1 264),(X0 143),(X0 4),(X1 271),(X0 148),(X0 4),(X1 278),(X0 151),(X0 4),(X1 285),(X0 154),(X0 4),(X1 292),(X0 157),(X0 4),(X1 299),(X0 160),(X0 4),(X1 306)]
def zhF:=XO X7 X6 (.fields (X8 gT))
def zhE:=Y2 te 488 125 241 491
def zhD:=Y1 243 240 n4 277
def gR:List (Params->Qh):= [X2 ml 493 (XS n4 277),X2 mj 497 (X9 125 496)]++XQ 499 [(oz,XS bY 498),(sa,XB Qb),(ur,XB Qe)]++ [X2 th 503 (X9 0 502),X2 mh 505 (X9 1 504),X2 mf 513 (X1 251),X2 md 522 (X1 258),X2 ow 531 (X1 265),X2 jq 539 (X1 272),X2 pv 547 (X1 279),X2 ou 556 (X1 286),X2 mz 565 (X1 293),X2 pu 573 (X1 300)]++XQ 581 [(pn,X1 307),(mi,X1 308)]++ [X2 vt 584 (X1 311)]++XQ 586 [(uu,X1 312),(n5,X7)]
def zhC:=XD iq X6 gR 4
def zhB:=Y0 te 310 309 486
def zhA:=Y3 583 310
def zhz:=Y4 585 310
def zhy:=Y6 310
def zhx:=Y5 310
def dQ:List (Params->Qh):=dS++ [X2 oi 706 (X1 396)]
def zhw:=XD iq X6 dQ 27
def dP:List Value:=dR++ [(X0 166),(X0 0),(X1 327)]
def zhv:=XO X7 X6 (.fields (X8 dP))
def gQ:List (Params->Qh):= [X2 ml 605 (XS n4 277),X2 uv 607 (XS oi 606),X2 mj 609 (X9 166 608)]++XQ 611 [(oz,XS dW 610),(sa,XB Qb),(ur,XB Qe)]++ [X2 th 616 (X1 329),X2 mh 619 (X1 330),X2 mf 627 (X1 337),X2 md 636 (X1 344),X2 ow 645 (X1 351),X2 jq 653 (X1 358),X2 pv 661 (X1 365),X2 ou 670 (X1 372),X2 mz 679 (X1 379),X2 pu 687 (X1 386)]++XQ 698 [(pn,X1 393),(mi,X1 394)]
def zhu:=XD iq X6 gQ 18
def gP:List Value:= [(X0 173),(X0 4),(X1 336),(X0 180),(X0 4),(X1 343),(X0 183),(X0 4),(X1 350),(X0 186),(X0 4),(X1 357),(X0 191),(X0 4),(X1 364),(X0 194),(X0 4),(X1 371),(X0 197),(X0 4),(X1 378),(X0 200),(X0 4),(X1 385),(X0 203),(X0 4),(X1 392)]
def zht:=XO X7 X6 (.fields (X8 gP))
def zhs:=Y2 oi 600 166 325 603
def zhr:=Y1 327 324 n4 277
def zhq:=XO rm X6 (.seq (X8 [(X9 0 614),(X9 1 615)]) 0)
def zhp:=XO rm X6 (.seq (X8 [(X9 1 617),(X9 1 618)]) 0)
def gO:List (Params->Qh):= [X2 ml 605 (XS n4 277),X2 mj 609 (X9 166 608)]++XQ 611 [(oz,XS dW 610),(sa,XB Qb),(ur,XB Qe)]++ [X2 th 616 (X1 329),X2 mh 619 (X1 330),X2 mf 627 (X1 337),X2 md 636 (X1 344),X2 ow 645 (X1 351),X2 jq 653 (X1 358),X2 pv 661 (X1 365),X2 ou 670 (X1 372),X2 mz 679 (X1 379),X2 pu 687 (X1 386)]++XQ 698 [(pn,X1 393),(mi,X1 394)]++ [X2 vt 701 (X1 397)]++XQ 703 [(uu,X1 398),(n5,X7)]
def zho:=XD iq X6 gO 4
def zhn:=Y0 oi 396 395 598
def zhm:=Y3 700 396
def zhl:=Y4 702 396
def zhk:=Y6 396
def zhj:=Y5 396
def gN:List (Params->Qh):=dQ++ [X2 zD 759 (X1 438),X2 D2 768 (X1 447)]
def zhi:=XD iq X6 gN 29
def dO:List Value:=dP++ [(X0 208),(X0 0),(X1 406),(X0 228),(X0 0),(X1 446)]
def zhh:=XO X7 X6 (.fields (X8 dO))
def zhg:=XM ⟨(ZD s17162191345867700912x4),Qd,(.cls (ClassData.mk oi [(ZD s2742458400755230247x6)] [(.ref 396),(ZD s2742458400755230247x6)] 395 oi Qe [] [(.ref 438)] Qb Qd Qb)),Zp [Qd,Qd,(Qa (KQ oi 598)),(Qa (KQ oi 606)),(Qa (Kc s11443829558043349243x14)),(Qa (qaf Qe))]⟩
def zhf:=XO rm X6 (.seq (X8 [(X1 396)]) 0)
def gM:List (Params->Qh):= [X2 ml 714 (XS n4 277),X2 uv 716 (XS zD 715),X2 mj 718 (X9 208 717)]++XQ 720 [(oz,XS zeI 719),(sa,XB Qe)]++ [X2 mf 729 (X1 414),X2 md 738 (X1 421),X2 jq 746 (X1 428)]++XQ 755 [(mz,X1 435),(mi,X1 436)]
def zhe:=XD iq X6 gM 10
def zhd:=XO X7 X6 (.fields (X8 [(X0 212),(X0 4),(X1 413),(X0 218),(X0 4),(X1 420),(X0 223),(X0 4),(X1 427),(X0 226),(X0 4),(X1 434)]))
def zhc:=Y2 zD 709 208 404 712
def zhb:=Y1 406 403 n4 277
def gL:List (Params->Qh):= [X2 ml 714 (XS n4 277),X2 mj 718 (X9 208 717)]++XQ 720 [(oz,XS zeI 719),(sa,XB Qe)]++ [X2 mf 729 (X1 414),X2 md 738 (X1 421),X2 jq 746 (X1 428)]++XQ 755 [(mz,X1 435),(mi,X1 436),(n5,X7)]
def zha:=XD iq X6 gL 2
def zg9:=XM ⟨(ZD s17162191345867700912x4),Qd,(.cls (ClassData.mk zD [(.ref 396)] [(.ref 438),(.ref 396),(ZD s2742458400755230247x6)] 437 zD Qe [] [] Qb Qd Qb)),Zp [(Qa (.ref 401)),Qd,(Qa (KQ zD 707)),(Qa (KQ zD 715)),(Qa (Kc s11443829558043349243x14)),(Qa (qaf Qe))]⟩
def zg8:=Y6 438
def zg7:=Y5 438
def dN:List (Params->Qh):=XQ 165 [(n3,XS uH 778),(n5,X7),(n6,X7),(n7,Kc s7097527257260152453x26),(n8,X7),(n9,X1 6),(tn,X1 4)]++XQ 173 [(aB,XS n1 172),(zz,X7)]++ [X2 xn 193 (X1 21),X2 yn 197 (XS zy 196),X2 ym 199 (X9 4000 198),X2 xm 202 (X9 RO 201),X2 xl 204 (XS zx 203),X2 px 222 (X1 31),X2 wd 229 (X1 41),X2 wc 236 (X1 48),X2 wb 243 (X1 55),X2 wa 251 (X1 62),X2 vz 261 (X1 69),X2 vw 268 (X1 76),X2 xk 276 (X1 83),X2 tm 382 (X1 156),X2 tf 485 (X1 233),X2 te 589 (X1 310),X2 vq 597 (X1 321),X2 oi 706 (X1 396),X2 zD 759 (X1 438)]++XQ 768 [(D2,X1 447),(IU,X1 458)]++ [X2 x8 777 (X1 465),X2 IT 781 (X9 20000 780)]++XQ 783 [(IS,X9 200000 782),(IR,X1 466)]
def zg6:=XD iq X6 dN 34
def dM:List Value:=dO++ [(X0 232),(X0 0),(X1 464)]
def zg5:=XO X7 X6 (.fields (X8 dM))
def Ib:=XO iq X6 (.dict (X8 []) 0)
def zg4:=Y8 156 448
def zg3:=Y8 233 450
def zg2:=Y8 310 452
def zg1:=Y8 396 454
def zg0:=Y8 438 456
def zgZ:=XO jH X6 (.seq (X8 [(X1 449),(X1 451),(X1 453),(X1 455),(X1 457)]) 0)
def zgY:=XO ziA X6 .plain
def dK:List (Params->Qh):=dN++ [X2 GG 833 (X1 497)]
def zgX:=XD iq X6 dK 35
def dJ:List Value:=dM++ [(X0 241),(X0 0),(X1 472)]
def zgW:=XO X7 X6 (.fields (X8 dJ))
def zgV:=XD iq X6 [(X2 ml 792 (XS uH 778)),(X2 uv 794 (XS GG 793)),(X2 mj 796 (X9 241 795)),(X2 FN 807 (X1 480)),(X2 PN 814 (X1 487)),(X2 zb4 821 (X1 494)),(X2 mi 826 (X1 495))] 7
def zgU:=XO X7 X6 (.fields (X8 [(X0 243),(X0 4),(X1 479),(X0 249),(X0 4),(X1 486),(X0 252),(X0 4),(X1 493)]))
def zgT:=Y2 GG 787 241 470 790
def zgS:=Y1 472 469 uH 778
def zgR:=XO rm X6 (.seq (X8 [(XS Hg 822),(XS FM 823),(XS Hh 824),(XS x7 825)]) 0)
def gK:List (Params->Qh):= [X2 ml 792 (XS uH 778),X2 mj 796 (X9 241 795),X2 FN 807 (X1 480),X2 PN 814 (X1 487),X2 zb4 821 (X1 494),X2 mi 826 (X1 495),X2 vt 828 (X1 498)]++XQ 830 [(uu,X1 499),(n5,X7)]
def zgQ:=XD iq X6 gK 4
def zgP:=Y0 GG 497 496 785
def zgO:=Y3 827 497
def zgN:=Y4 829 497
def zgM:=Y6 497
def zgL:=Y5 497
def gJ:List (Params->Qh):=dK++ [X2 VZ 991 (X1 623)]
def zgK:=XD iq X6 gJ 36
def dI:List Value:=dJ++ [(X0 254),(X0 0),(X1 507)]
def zgJ:=XO X7 X6 (.fields (X8 dI))
def gI:List (Params->Qh):= [X2 ml 841 (XS uH 778),X2 uv 843 (XS VZ 842),X2 mj 845 (X9 254 844),X2 FN 853 (X1 515),X2 PM 861 (X1 522),X2 GF 868 (X1 529),X2 PL 874 (X1 534),X2 PK 882 (X1 541),X2 Hf 894 (X1 548),X2 zb3 906 (X1 555),X2 DZ 915 (X1 563),X2 DY 924 (X1 571),X2 IQ 931 (X1 578),X2 zb2 938 (X1 585),X2 PJ 947 (X1 592),X2 zb1 954 (X1 599),X2 zb0 961 (X1 606),X2 PI 970 (X1 613),X2 zbZ 977 (X1 620),X2 mi 984 (X1 621)]
def zgI:=XD iq X6 gI 20
def gH:List Value:= [(X0 256),(X0 4),(X1 514),(X0 264),(X0 4),(X1 521),(X0 268),(X0 4),(X1 528),(X0 274),(X0 4),(X1 533),(X0 278),(X0 4),(X1 540),(X0 281),(X0 4),(X1 547),(X0 294),(X0 4),(X1 554),(X0 297),(X0 4),(X1 562),(X0 302),(X0 4),(X1 570),(X0 306),(X0 4),(X1 577),(X0 309),(X0 4),(X1 584),(X0 312),(X0 4),(X1 591),(X0 319),(X0 4),(X1 598),(X0 322),(X0 4),(X1 605),(X0 325),(X0 4),(X1 612),(X0 336),(X0 4),(X1 619)]
def zgH:=XO X7 X6 (.fields (X8 gH))
def zgG:=Y2 VZ 836 254 505 839
def zgF:=Y1 507 504 uH 778
def zem:=XO rm X6 (.seq (X8 [(X1 466)]) 0)
def zgE:=XO rm X6 (.seq (X8 [(XS dp 910),(XS zbY 911),(XS x7 912)]) 0)
def zgD:=XO X7 X6 (XF (jn 29 7) DZ PG 0 X7 X7 X7 X7 X6 X7 X7)
def zgC:=Y7 DZ 907 PG 297 557 913
def zel:=XO aJ X6 (XF (jn 29 7) DZ PG 3 (X1 556) X7 X7 (XS uH 778) X6 (X1 562) X7)
def zgB:=XO rm X6 (.seq (X8 [(XS dp 919),(XS GF 920),(XS x7 921)]) 0)
def zgA:=XO X7 X6 (XF (jn 29 8) DY PF 0 X7 X7 X7 X7 X6 X7 X7)
def zgz:=Y7 DY 916 PF 302 565 922
def zek:=XO aJ X6 (XF (jn 29 8) DY PF 3 (X1 564) X7 X7 (XS uH 778) X6 (X1 570) X7)
def zgy:=XO rm X6 (.seq (X8 [(XS zeG 978),(XS zeF 979),(XS zeE 980),(XS PE 981),(XS x8 982),(XS zbY 983)]) 0)
def gG:List (Params->Qh):= [X2 ml 841 (XS uH 778),X2 mj 845 (X9 254 844),X2 FN 853 (X1 515),X2 PM 861 (X1 522),X2 GF 868 (X1 529),X2 PL 874 (X1 534),X2 PK 882 (X1 541),X2 Hf 894 (X1 548),X2 zb3 906 (X1 555),X2 DZ 915 (X1 563),X2 DY 924 (X1 571),X2 IQ 931 (X1 578),X2 zb2 938 (X1 585),X2 PJ 947 (X1 592),X2 zb1 954 (X1 599),X2 zb0 961 (X1 606),X2 PI 970 (X1 613),X2 zbZ 977 (X1 620),X2 mi 984 (X1 621),X2 vt 986 (X1 624)]++XQ 988 [(uu,X1 625),(n5,X7)]
def zgx:=XD iq X6 gG 4
def zgw:=Y0 VZ 623 622 834
def zgv:=Y3 985 623
def zgu:=Y4 987 623
def zgt:=Y6 623
def zgs:=Y5 623
def gE:List (Params->Qh):=XQ 165 [(n3,XS zbX 1127),(n5,X7),(n6,X7),(n7,Kc s7097527257260152453x26),(n8,X7),(n9,X1 6),(tn,X1 4)]++XQ 173 [(aB,XS n1 172),(zz,X7)]++ [X2 xn 193 (X1 21),X2 yn 197 (XS zy 196),X2 ym 199 (X9 4000 198),X2 xm 202 (X9 RO 201),X2 xl 204 (XS zx 203),X2 px 222 (X1 31),X2 wd 229 (X1 41),X2 wc 236 (X1 48),X2 wb 243 (X1 55),X2 wa 251 (X1 62),X2 vz 261 (X1 69),X2 vw 268 (X1 76),X2 xk 276 (X1 83),X2 tm 382 (X1 156),X2 tf 485 (X1 233),X2 te 589 (X1 310),X2 vq 597 (X1 321),X2 oi 706 (X1 396),X2 zD 759 (X1 438)]++XQ 768 [(D2,X1 447),(IU,X1 458)]++ [X2 x8 777 (X1 465),X2 IT 781 (X9 20000 780)]++XQ 783 [(IS,X9 200000 782),(IR,X1 466)]++ [X2 GG 833 (X1 497),X2 VZ 991 (X1 623),X2 IM 1002 (X1 634),X2 IL 1008 (X1 639),X2 IK 1014 (X1 644),X2 IJ 1020 (X1 649),X2 II 1033 (X1 656),X2 IH 1043 (X1 663),X2 IG 1052 (X1 670),X2 IF 1064 (X1 677),X2 IE 1071 (X1 684),X2 ID 1081 (X1 691),X2 PD 1085 (X9 2000 1084),X2 IC 1091 (X1 696),X2 IA 1101 (X1 703),X2 jq 1107 (X1 708),X2 Iz 1119 (X1 715),X2 Iy 1126 (X1 722),X2 PC 1130 (X9 20000 1129),X2 PB 1132 (X9 200 1131),X2 x7 1150 (X1 729),X2 Iw 1157 (X1 736)]
def zgr:=XD iq X6 gE 56
def dH:List Value:=dI++ [(X0 338),(X0 0),(X1 633),(X0 342),(X0 0),(X1 638),(X0 363),(X0 0),(X1 643),(X0 365),(X0 0),(X1 648),(X0 371),(X0 0),(X1 655),(X0 384),(X0 0),(X1 662),(X0 389),(X0 0),(X1 669),(X0 397),(X0 0),(X1 676),(X0 406),(X0 0),(X1 683),(X0 409),(X0 0),(X1 690),(X0 418),(X0 0),(X1 695),(X0 427),(X0 0),(X1 702),(X0 430),(X0 0),(X1 707),(X0 445),(X0 0),(X1 714),(X0 452),(X0 0),(X1 721),(X0 459),(X0 0),(X1 728),(X0 483),(X0 0),(X1 735)]
def zgq:=XO X7 X6 (.fields (X8 dH))
def gD:List (Params->Qh):=XQ 165 [(n3,XS zbU 1203),(n5,X7),(n6,X7),(n7,Kc s7097527257260152453x26),(n8,X7),(n9,X1 6),(tn,X1 4)]++XQ 173 [(aB,XS n1 172),(zz,X7)]++ [X2 xn 193 (X1 21),X2 yn 197 (XS zy 196),X2 ym 199 (X9 4000 198),X2 xm 202 (X9 RO 201),X2 xl 204 (XS zx 203),X2 px 222 (X1 31),X2 wd 229 (X1 41),X2 wc 236 (X1 48),X2 wb 243 (X1 55),X2 wa 251 (X1 62),X2 vz 261 (X1 69),X2 vw 268 (X1 76),X2 xk 276 (X1 83),X2 tm 382 (X1 156),X2 tf 485 (X1 233),X2 te 589 (X1 310),X2 vq 597 (X1 321),X2 oi 706 (X1 396),X2 zD 759 (X1 438)]++XQ 768 [(D2,X1 447),(IU,X1 458)]++ [X2 x8 777 (X1 465),X2 IT 781 (X9 20000 780)]++XQ 783 [(IS,X9 200000 782),(IR,X1 466)]++ [X2 GG 833 (X1 497),X2 VZ 991 (X1 623),X2 IM 1002 (X1 634),X2 IL 1008 (X1 639),X2 IK 1014 (X1 644),X2 IJ 1020 (X1 649),X2 II 1033 (X1 656),X2 IH 1043 (X1 663),X2 IG 1052 (X1 670),X2 IF 1064 (X1 677),X2 IE 1071 (X1 684),X2 ID 1081 (X1 691),X2 PD 1085 (X9 2000 1084),X2 IC 1091 (X1 696),X2 IA 1101 (X1 703),X2 jq 1107 (X1 708),X2 Iz 1119 (X1 715),X2 Iy 1126 (X1 722),X2 PC 1130 (X9 20000 1129),X2 PB 1132 (X9 200 1131),X2 x7 1150 (X1 729),X2 Iw 1157 (X1 736),X2 PA 1165 (X1 743),X2 Pz 1174 (X1 750),X2 Py 1185 (X1 757),X2 Px 1196 (X1 764),X2 Pw 1202 (X1 769),X2 Pv 1212 (X1 776),X2 Pu 1219 (X1 783),X2 Pt 1239 (X1 790),X2 zbT 1245 (X1 795)]
def zgp:=XD iq X6 gD 65
def gC:List Value:=dH++ [(X0 487),(X0 0),(X1 742),(X0 491),(X0 0),(X1 749),(X0 493),(X0 0),(X1 756),(X0 497),(X0 0),(X1 763),(X0 504),(X0 0),(X1 768),(X0 530),(X0 0),(X1 775),(X0 534),(X0 0),(X1 782),(X0 536),(X0 0),(X1 789),(X0 555),(X0 0),(X1 794)]
def zgo:=XO X7 X6 (.fields (X8 gC))
def S5 (P:Params):Heap:=⟨⟨[boot_o_0 P,boot_o_1 P,boot_o_2 P,boot_o_3 P,boot_o_4 P,boot_o_5 P,boot_o_6 P,boot_o_7 P,boot_o_8 P,boot_o_9 P,boot_o_10 P,o0 P,o1 P,o2 P,o3 P]⟩,{}⟩
def XW (l:List PySem.Str) (t:Nat):List Value:= @Xa PySem.Str (λ_=>Nat->List Value) (λ_=> []) (λs _ ih t=>XS s t::ih (ZP t)) l t
def XC (c n:PySem.Str):PySem.Str:=⟨⟨c.cps.toList++46::n.cps.toList⟩⟩
def nq (f:ro) (c d:PySem.Str) (m:PySem.Str) (k B T:Nat) (l a:Int) (ns:List PySem.Str):List (Params->Obj):= [o0,o1,XO rm X6 (.seq (X8 (XW ns (T+3))) 0),o0,XO X7 X6 (XF f c d 0 X7 X7 X7 X7 X6 X7 X7),XO aM X6 (.fields (X8 [(XS c T),(XS d (T+1)),(XS n1 (T+2)),(X0 l),(X0 a),(X0 0),(X0 0),(X0 3),(X1 B),(XB Qe),(X0 181),(X1 (B+1)),X7,(X1 (B+2)),(X1 (B+3)),(X1 (B+4)),(X0 (YM (T+3+ns.length))),(X0 l),(XS n1 (T+4+ns.length))])),XO aJ X6 (XF f c d 3 X7 X7 X7 (XS m k) X6 (X1 (B+5)) X7)]
def zf (f:ro) (c d:PySem.Str) (m:PySem.Str) (k B T:Nat) (l a:Int):List (Params->Obj):= [o0,o1,XO X7 X6 (XF f c d 0 X7 X7 X7 X7 X6 X7 X7),XO aM X6 (.fields (X8 [(XS c T),(XS d (T+1)),(XS n1 (T+2)),(X0 l),(X0 a),(X0 0),(X0 0),(X0 3),(X1 B),(XB Qe),(X0 181),(X1 (B+1)),X7,X7,X7,(X1 (B+2)),(X0 (YM (T+3+0))),(X0 l),(XS n1 (T+4+0))])),XO aJ X6 (XF f c d 3 X7 X7 X7 (XS m k) X6 (X1 (B+3)) X7)]
def jL (j:Nat) (c:PySem.Str):=nq (qg j) c c n2 164
def wt (j:Nat) (c:PySem.Str):=nq (qg j) c c zw 194
def uh (j:Nat) (c:PySem.Str):=nq (jn 15 j) c (XC tm c) n4 277
def ug (j:Nat) (c:PySem.Str):=nq (jn 16 j) c (XC tf c) n4 277
def uf (j:Nat) (c:PySem.Str):=nq (jn 17 j) c (XC te c) n4 277
def cR (j:Nat) (c:PySem.Str):=nq (qg j) c c n4 277
def ue (j:Nat) (c:PySem.Str):=nq (jn 19 j) c (XC oi c) n4 277
def aN (j:Nat) (c:PySem.Str):=nq (jn 20 j) c (XC zD c) n4 277
def cQ (j:Nat) (c:PySem.Str):=nq (jn 28 j) c (XC GG c) uH 778
def pe (j:Nat) (c:PySem.Str):=nq (jn 29 j) c (XC VZ c) uH 778
def ziD (j:Nat) (c:PySem.Str):=zf (jn 29 j) c (XC VZ c) uH 778
def zfE (j:Nat) (c:PySem.Str):=nq (qg j) c c uH 778
def zc5 (j:Nat) (c:PySem.Str):=zf (qg j) c c uH 778
def NK (j:Nat) (c:PySem.Str):=nq (qg j) c c zh0 1034
def zfD (j:Nat) (c:PySem.Str):=zf (qg j) c c zeC 1082
def zc4 (j:Nat) (c:PySem.Str):=nq (qg j) c c zeC 1082
def BA (j:Nat) (c:PySem.Str):=nq (qg j) c c zbX 1127
def ziC (j:Nat) (c:PySem.Str):=zf (qg j) c c zbX 1127
def zc3 (j:Nat) (c:PySem.Str):=nq (qg j) c c zbU 1203
def ziB (j:Nat) (c:PySem.Str):=zf (qg j) c c zbU 1203
def a9:=XP X5 [(0,[boot_o_0,boot_o_1,boot_o_2,boot_o_3,boot_o_4,boot_o_5,boot_o_6,boot_o_7,boot_o_8,boot_o_9,boot_o_10,o0,o1,o2,o3])]
def a8:=XP a9 [(3,[o4]),(12,[o5]),(15,jL 0 xn 15 187 1 1 [yl]++ [iX,uq,iW,o0,o1,iV,iU,o0,iT,iS,iR,iQ,iP]++wt 7 wd 35 223 11 1 [yk]++wt 8 wc 42 230 13 1 [yk]++wt 9 wb 49 237 17 1 [yk]++wt 10 wa 56 244 21 1 [b5,yk]++wt 11 vz 63 252 27 4 [b0,bZ,i0,iZ]++wt 12 vw 70 262 31 1 [b0]++wt 13 xk 77 269 37 1 [yj,yk])]
def a7:=XP a8 [(3,[iO]),(12,[iN]),(84,[o0,uq,iM,o0,iL,iK,iJ]++uh 5 mf 91 299 52 2 [dp,gk]++uh 6 md 98 307 57 3 [dp,gk,kg]++uh 7 ow 105 316 60 3 [dp,gk,kg]++uh 8 jq 112 325 63 2 [dp,gk]++uh 9 pv 119 333 66 2 [dp,pk]++uh 10 ou 126 341 69 3 [dp,gk,kg]++uh 11 mz 133 350 72 3 [dp,gk,kg]++uh 12 pu 140 359 75 2 [dp,gk]++uh 13 pn 147 367 78 2 [dp,yj]++ [o0,iI,iH,iG,iF,iE,iD])]
def a6:=XP a7 [(3,[iC]),(12,[iA]),(161,[o0,uq,hZ,o0,hY,zhQ,zhP]++ug 5 mf 168 402 87 2 [dp,gk]++ug 6 md 175 410 92 3 [dp,gk,kg]++ug 7 ow 182 419 99 3 [dp,gk,kg]++ug 8 jq 189 428 104 2 [dp,gk]++ug 9 pv 196 436 107 2 [dp,pk]++ug 10 ou 203 444 110 3 [dp,gk,kg]++ug 11 mz 210 453 115 3 [dp,gk,kg]++ug 12 pu 217 462 118 2 [dp,gk]++ug 13 pn 224 470 121 2 [dp,yj]++ [o0,zhO,zhN,zhM,zhL,zhK,zhJ])]
def a5:=XP a6 [(3,[zhI]),(12,[zhH]),(238,[o0,uq,zhG,o0,zhF,zhE,zhD]++uf 5 mf 245 506 132 2 [dp,gk]++uf 6 md 252 514 137 3 [dp,gk,kg]++uf 7 ow 259 523 140 3 [dp,gk,kg]++uf 8 jq 266 532 143 2 [dp,gk]++uf 9 pv 273 540 148 2 [dp,pk]++uf 10 ou 280 548 151 3 [dp,gk,kg]++uf 11 mz 287 557 154 3 [dp,gk,kg]++uf 12 pu 294 566 157 2 [dp,gk]++uf 13 pn 301 574 160 2 [dp,yj]++ [o0,zhC,zhB,zhA,zhz,zhy,zhx]++cR 18 vq 315 590 162 2 [gk,kg])]
def aZ:=XP a5 [(3,[zhw]),(12,[zhv]),(322,[o0,uq,zhu,o0,zht,zhs,zhr,zhq,zhp]++ue 5 mf 331 620 173 2 [dp,gk]++ue 6 md 338 628 180 3 [dp,gk,kg]++ue 7 ow 345 637 183 3 [dp,gk,kg]++ue 8 jq 352 646 186 2 [dp,gk]++ue 9 pv 359 654 191 2 [dp,pk]++ue 10 ou 366 662 194 3 [dp,gk,kg]++ue 11 mz 373 671 197 3 [dp,gk,kg]++ue 12 pu 380 680 200 2 [dp,gk]++ue 13 pn 387 688 203 2 [dp,yj,Hh,zh8,Hg]++ [o0,zho,zhn,zhm,zhl,zhk,zhj])]
def aY:=XP aZ [(3,[zhi]),(12,[zhh]),(396,[zhg]),(401,[zhf,uq,zhe,o0,zhd,zhc,zhb]++aN 2 mf 408 722 212 2 [dp,gk]++aN 3 md 415 730 218 3 [dp,gk,kg]++aN 4 jq 422 739 223 2 [dp,gk]++aN 5 mz 429 747 226 3 [dp,gk,kg]++ [o0,zha,zg9,zg8,zg7]++cR 21 D2 441 760 228 2 [zeH,zh7,zh6])]
def aX:=XP aY [(3,[zg6]),(12,[zg5]),(448,[Ib,zg4,Ib,zg3,Ib,zg2,Ib,zg1,Ib,zg0,zgZ]++cR 23 x8 459 770 232 1 [oz,mh]++ [zgY])]
def aV:=XP aX [(3,[zgX]),(12,[zgW]),(467,[o0,uq,zgV,o0,zgU,zgT,zgS]++cQ 0 FN 474 797 243 5 [dp,Hh,Hg,x7,FM]++cQ 1 PN 481 808 249 1 [dp]++cQ 2 zb4 488 815 252 1 [dp]++ [zgR,zgQ,zgP,zgO,zgN,zgM,zgL])]
def aQ:=XP aV [(3,[zgK]),(12,[zgJ]),(502,[o0,uq,zgI,o0,zgH,zgG,zgF]++pe 0 FN 509 846 256 2 [dp,x8]++pe 1 PM 516 854 264 2 [dp,bY]++pe 2 GF 523 862 268 1 [dp]++ziD 3 PL 530 869 274 2++pe 4 PK 535 875 278 2 [dp,zh5]++pe 5 Hf 542 883 281 6 [dp,PH,Hh,Hg,x7,FM]++pe 6 zb3 549 895 294 6 [dp,PH,Hh,Hg,x7,FM]++ [zem,o0,o1,zgE,o0,zgD,zgC,zel,zem,o0,o1,zgB,o0,zgA,zgz,zek]++pe 9 IQ 572 925 306 1 [dp]++pe 10 zb2 579 932 309 1 [dp]++pe 11 PJ 586 939 312 1 [dp,pk,Hf]++pe 12 zb1 593 948 319 1 [dp]++pe 13 zb0 600 955 322 1 [dp]++pe 14 PI 607 962 325 1 [dp,FL,yl]++pe 15 zbZ 614 971 336 1 [dp]++ [zgy,zgx,zgw,zgv,zgu,zgt,zgs])]
def zaY:=XP aQ [(3,[zgr]),(12,[zgq]),(628,zfE 30 IM 628 992 338 3 [He,zeD,zh4,PH,Hf]++zc5 31 IL 635 1003 342 1++zc5 32 IK 640 1009 363 1++zc5 33 IJ 645 1015 365 1++zfE 34 II 650 1021 371 3 [He,PE,zh3,zh2,zh1,GF,zeD]++NK 36 IH 657 1036 384 2 [mh,zbW]++NK 37 IG 664 1044 389 2 [mh,zbW,FL]++NK 38 IF 671 1053 397 2 [mh,zbW,FL,PE,zhZ,yl]++NK 39 IE 678 1065 406 1 [mh]++NK 40 ID 685 1072 409 1 [mh,FL,pk,Hf]++zfD 43 IC 692 1086 418 2++zc4 44 IA 697 1092 427 4 [x8,pk,zeB,x7]++zfD 45 jq 704 1102 430 2++zc4 46 Iz 709 1108 445 3 [x8,pk,zbV,FL,zeA,zez]++zc4 47 Iy 716 1120 452 1 [He]++BA 51 x7 723 1133 459 3 [He,Hh,Hg,x8,ou,zbV,zeA,zez,pk,GF,Hf,zeB]++BA 52 Iw 730 1151 483 1 [b5])]
def Oy:=XP zaY [(3,[zgp]),(12,[zgo]),(737,BA 53 PA 737 1158 487 1 [He,pk]++BA 54 Pz 744 1166 491 3 [b5,zey,zhY]++BA 55 Py 751 1175 493 5 [He,zbV,zhX,GF,b0]++BA 56 Px 758 1186 497 2 [He,pk,x8,FL,GF]++ziC 57 Pw 765 1197 504 2++zc3 59 Pv 770 1205 530 2 [zex,yl]++zc3 60 Pu 777 1213 534 1 [oz]++zc3 61 Pt 784 1220 536 5 [zex,zey,mh,zhW,zhV,He,IQ,pk,yl,zeH,PH,FM,Hh,Hg]++ziB 62 zbT 791 1240 555 1)]
def SZ (P:Params):Heap:=absHeap (Oy P) 796 {}
def zdU:List Stmt:=(TP.main.body.drop 0).take 15
def zdT:List Stmt:=(TP.main.body.drop 15).take 1
def zdS:List Stmt:=(TP.main.body.drop 16).take 1
def zdR:List Stmt:=(TP.main.body.drop 17).take 2
def zdQ:List Stmt:=(TP.main.body.drop 19).take 1
def zdP:List Stmt:=(TP.main.body.drop 20).take 2
def zdO:List Stmt:=(TP.main.body.drop 22).take 6
def zdN:List Stmt:=(TP.main.body.drop 28).take 1
def zdM:List Stmt:=(TP.main.body.drop 29).take 1
def Sx:List Stmt:=(TP.main.body.drop 30).take 23
def Sw:List Stmt:=(TP.main.body.drop 53).take 10
def Cf:List Stmt:=zdU++(zdT++(zdS++(zdR++(zdQ++(zdP++(zdO++(zdN++(zdM++(Sx++(Sw++([])))))))))))
def yG:Env:= {scope:=TP.main.scope,locals:=mainNs,globals:=mainNs,cells:= [],code:=(.ref 13),frame:=Qa 14}
def fp:Pos:=⟨0,0,0,0⟩
abbrev cE:Code:=Code.body Cf yG
abbrev oW:Option Value:=(Qa (.ref 6))
def zd4 (w:Qn):(λos=>kz bg TP w 11 oW 12 ⟨QC w.params,Zp [],Jd,boot_toks,os⟩ (topStub TP))=λos=>Qa (⟨S5 w.params,Zp [],{},187,os⟩,Thread.mk (lr bg cE) cE ⟨0,0,0,0⟩ [topFrame fp]):=by kernel_rfl
def zfx (w:Qn):(λos=>jm bg TP w 11 oW 1 1 ⟨S5 w.params,Zp [],{},187,os⟩ (blockOf Cf yG cE ⟨0,0,0,0⟩ [topFrame fp]))=λos=>Qa (Flow.next,qbq (ZL (a9 w.params) 15 {} (Zp []) {} 187 os),cE,⟨0,0,0,0⟩):=by kernel_rfl
def zef (w:Qn):(λos=>bj bg TP w 11 oW 1 485 (ZL (a9 w.params) 15 {} (Zp []) {} 187 os) (piecesOf zdU yG cE ⟨0,0,0,0⟩ [topFrame fp]))=λos=>Qa (Flow.next,(ZL (a8 w.params) 84 {} (Zp []) {} 279 os),cE,⟨44,0,44,8⟩):=by kernel_rfl
def zee (w:Qn):(λos=>bj bg TP w 11 oW 1 530 (ZL (a8 w.params) 84 {} (Zp []) {} 279 os) (piecesOf zdT yG cE ⟨44,0,44,8⟩ [topFrame fp]))=λos=>Qa (Flow.next,(ZL (a7 w.params) 161 {} (Zp []) {} 383 os),cE,⟨45,0,79,41⟩):=by kernel_rfl
def zed (w:Qn):(λos=>bj bg TP w 11 oW 1 529 (ZL (a7 w.params) 161 {} (Zp []) {} 383 os) (piecesOf zdS yG cE ⟨45,0,79,41⟩ [topFrame fp]))=λos=>Qa (Flow.next,(ZL (a6 w.params) 238 {} (Zp []) {} 486 os),cE,⟨80,0,124,30⟩):=by kernel_rfl
def zec (w:Qn):(λos=>bj bg TP w 11 oW 1 560 (ZL (a6 w.params) 238 {} (Zp []) {} 486 os) (piecesOf zdR yG cE ⟨80,0,124,30⟩ [topFrame fp]))=λos=>Qa (Flow.next,(ZL (a5 w.params) 322 {} (Zp []) {} 598 os),cE,⟨162,0,165,12⟩):=by kernel_rfl
def zeb (w:Qn):(λos=>bj bg TP w 11 oW 1 541 (ZL (a5 w.params) 322 {} (Zp []) {} 598 os) (piecesOf zdQ yG cE ⟨162,0,165,12⟩ [topFrame fp]))=λos=>Qa (Flow.next,(ZL (aZ w.params) 401 {} (Zp []) {} 707 os),cE,⟨166,0,207,70⟩):=by kernel_rfl
def zea (w:Qn):(λos=>bj bg TP w 11 oW 1 393 (ZL (aZ w.params) 401 {} (Zp []) {} 707 os) (piecesOf zdP yG cE ⟨166,0,207,70⟩ [topFrame fp]))=λos=>Qa (Flow.next,(ZL (aY w.params) 448 {} (Zp []) {} 769 os),cE,⟨228,0,230,29⟩):=by kernel_rfl
def zd9 (w:Qn):(λos=>bj bg TP w 11 oW 1 331 (ZL (aY w.params) 448 {} (Zp []) {} 769 os) (piecesOf zdO yG cE ⟨228,0,230,29⟩ [topFrame fp]))=λos=>Qa (Flow.next,(ZL (aX w.params) 467 {} (Zp []) {} 785 os),cE,⟨240,0,240,3⟩):=by kernel_rfl
def zd8 (w:Qn):(λos=>bj bg TP w 11 oW 1 291 (ZL (aX w.params) 467 {} (Zp []) {} 785 os) (piecesOf zdN yG cE ⟨240,0,240,3⟩ [topFrame fp]))=λos=>Qa (Flow.next,(ZL (aV w.params) 502 {} (Zp []) {} 834 os),cE,⟨241,0,253,17⟩):=by kernel_rfl
def zd7 (w:Qn):(λos=>bj bg TP w 11 oW 1 720 (ZL (aV w.params) 502 {} (Zp []) {} 834 os) (piecesOf zdM yG cE ⟨241,0,253,17⟩ [topFrame fp]))=λos=>Qa (Flow.next,(ZL (aQ w.params) 628 {} (Zp []) {} 992 os),cE,⟨254,0,337,17⟩):=by kernel_rfl
def zbA (w:Qn):(λos=>bj bg TP w 11 oW 1 573 (ZL (aQ w.params) 628 {} (Zp []) {} 992 os) (piecesOf Sx yG cE ⟨254,0,337,17⟩ [topFrame fp]))=λos=>Qa (Flow.next,(ZL (zaY w.params) 737 {} (Zp []) {} 1158 os),cE,⟨483,0,486,45⟩):=by kernel_rfl
def zbz (w:Qn):(λos=>bj bg TP w 11 oW 1 290 (ZL (zaY w.params) 737 {} (Zp []) {} 1158 os) (piecesOf Sw yG cE ⟨483,0,486,45⟩ [topFrame fp]))=λos=>Qa (Flow.next,(ZL (Oy w.params) 796 {} (Zp []) {} 1246 os),cE,⟨555,0,573,67⟩):=by kernel_rfl
def zfj (w:Qn):(λos=>jl bg TP w 11 oW 2 (qbq (ZL (Oy w.params) 796 {} (Zp []) {} 1246 os)) (Thread.mk (doneF Flow.next) cE ⟨555,0,573,67⟩ [topFrame fp]))=λos=>Qa (⟨SZ w.params,Zp [],{},1246,os⟩):=by kernel_rfl
abbrev zbb:Nat:=(12+(1+(485+(530+(529+(560+(541+(393+(331+(291+(720+(573+(290+2)))))))))))))
def fV {w:Qn}{n:Nat}{s:Qf}{t:Jk}{x} (h:kz bg TP w 11 oW n s t=x):topGo treeTable TP w 11 oW n s t=x:=by rw[Az,nP];exact h
def fW {w:Qn}{n:Nat}{s:Qf}{t:Jk}{x} (h:jm bg TP w 11 oW 1 n s t=x):segRun treeTable TP w 11 oW 1 n s t=x:=by rw[Dm,nP];exact h
theorem qm {w:Qn}{n:Nat}{s s':SharedT}{t:Jk}{f:Jj}{c:Code}{q:Pos} (h:bj bg TP w 11 oW 1 n s t=Qa (f,s',c,q)):segRun treeTable TP w 11 oW 1 n s.abs t=Qa (f,s'.abs,c,q):=segRun_of (by rw[Li,nP];exact h)
def fU {w:Qn}{n:Nat}{s:Qf}{t:Jk}{x} (h:jl bg TP w 11 oW n s t=x):topRun treeTable TP w 11 oW n s t=x:=by rw[Dl,nP];exact h
theorem zgh (w:Qn) (os:OsState):topRun treeTable TP w 11 oW zbb ⟨QC w.params,Zp [],Jd,boot_toks,os⟩ (topStub TP)=Qa ⟨SZ w.params,Zp [],{},1246,os⟩:=
 go_top (fV (by have h:=congrFun (zd4 w) os;rw[<-nP,<-Dn] at h;rw[<-nP];exact h)) (piece_block (fW (congrFun (zfx w) os)) (Qq (qm (congrFun (zef w) os)) (Qq (qm (congrFun (zee w) os)) (Qq (qm (congrFun (zed w) os)) (Qq (qm (congrFun (zec w) os)) (Qq (qm (congrFun (zeb w) os)) (Qq (qm (congrFun (zea w) os)) (Qq (qm (congrFun (zd9 w) os)) (Qq (qm (congrFun (zd8 w) os)) (Qq (qm (congrFun (zd7 w) os)) (Qq (qm (congrFun (zbA w) os)) (Qq (qm (congrFun (zbz w) os)) (fU (congrFun (zfj w) os))))))))))))))
def aI:List Addr:=J4 0 23++(J4 29 4++(J4 35 49++(J4 91 68++(J4 168 68++(J4 245 68++(J4 315 7++(J4 329 70++([401]++(J4 408 31++(J4 441 26++(J4 474 26++(J4 509 117++(J4 628 168)))))))))))))
def KK (P:Params):Frag:=aI.map λa=>(a,XG (Oy P) a)
abbrev wD:Nat:=796
abbrev Su:Nat:=1246
abbrev m00:Nat:=11
def bM (p:Qx):Program:= {p with main:= {p.main with body:=p.main.body.drop 62} }
def zcc:List PySem.Str:= [xn,yn,ym,xm,xl,px,wd,wc,wb,wa,vz,vw,xk,tm,tf,te,vq,oi,zD,D2,IU,x8,IT,IS,IR,GG,VZ,IM,IL,IK,IJ,II,IH,IG,IF,IE,ID,PD,IC,IA,jq,Iz,Iy,PC,PB,x7,Iw,PA,Pz,Py,Px,Pw,Pv,Pu,Pt]
abbrev NN:Nat:=7000
theorem Mr: ∀P,aI=(KK P).map (·.1):=λP=>by kernel_rfl
theorem wm {w:Qn}{s t:Qf} (y:obsZ aI s=valZ KK wD Su w) (k: ∀b o,s.heap.get? b=Qa o->t.heap.get? b=Qa o):Frag.In (KK w.params) t.heap/\s.heap.objs.size=nat_lit 796/\s.toks=nat_lit 1246:=
 ⟨InK.keeps w s.heap t.heap (z_facts Mr y).2.1 k,(z_facts Mr y).2.2.1,(z_facts Mr y).2.2.2⟩
theorem zcD: ∀w:Qn,(fencedOpening treeTable TP w NN).map (λs=>(s.heap,s.gens,s.drawn,s.toks))=Qa (QC w.params,Zp [],Jd,boot_toks):=
 boot_open (p:=TP) (N:=NN) (by kernel_rfl) (by decide) (λs=>by rfl)
theorem zcC : ∀ w : Qn,((QC w.params).isNs mainGlobals && (Zp [] : Array GenState).size == 0,(QC w.params).objs.size,(QC w.params).nsMap mainGlobals "__annotations__") = (Qe,11,oW) := λw => by kernel_rfl
abbrev pw:Program:=PySem.Challenge.pw_ui0508_15
def yq:LeftO pw (bM pw) zcc (λs=>xlAt (bM pw) [] s && recOk [] s) (obsZ aI) (valZ KK wD Su) NN:=by
 exact LeftO.of_pieces (p:=TP) (g0:=Qe) zcD zcC zgh (by decide) (λw=>by kernel_rfl)
abbrev QQ (s₀ s₁:Qf) (ns:List Int):Value->Qf->Prop:=λv s'=>Je PySem.Challenge.rw_ui0508_15.row.claim (classAt s₀.heap) (ExcName.means s₀.heap) [ofPy (YN (YA YY ns))] s₁ (.ok (.ret v)) s'
abbrev EE (s₀ s₁:Qf) (ns:List Int):Value->Qf->Prop:=λe s'=>Je PySem.Challenge.rw_ui0508_15.row.claim (classAt s₀.heap) (ExcName.means s₀.heap) [ofPy (YN (YA YY ns))] s₁ (.error e) s'
theorem small {p:Qx}{w:Qn}{A:QP}{t:Sem Value}{s₀ s₁ s:Qf}{ns:List Int} (h:Qi (model p w) A t (QQ s₀ s₁ ns) (EE s₀ s₁ ns) s):
  Qi (model p w) A t (λv s'=>Je PySem.Challenge.rw_ui0508_15.row.claim (classAt s₀.heap) (ExcName.means s₀.heap) [ofPy (YN (YA YY ns))] s₁ (.ok (.ret v)) s')
   (λe s'=>Je PySem.Challenge.rw_ui0508_15.row.claim (classAt s₀.heap) (ExcName.means s₀.heap) [ofPy (YN (YA YY ns))] s₁ (.error e) s') s:=h
end Tactic
namespace Tactic
open Internal
abbrev yh:Nat:=1851878757
abbrev rz:Nat:=121424990136436
abbrev yg:Nat:=1852138852
abbrev vm:Nat:=1886156147
abbrev ry:Nat:=499984983411
abbrev xj:Nat:=1937006962
def aF:List (PySem.Str×ab):= [(xl,(.str [32,9,10,58,47,95,91,93,62,35,59,63,61])),((XN 0x1bb2ec),(.bi 7103854)),((XN 0x1cba73),(.ty 7566450)),((XN 0xcbc3cf4),(.ty 1954115685)),(px,(.ai 100)),(wd,(.ai 101)),(vw,(.ai 102)),(wc,(.ai 103)),((XN 0x1d3769),(.ty 6909556)),((XN 0x1e30ed),(.bi 7168376)),((XN 0x1bb4ed),(.bi 7170414)),(xm,(.int (10 ^ 4000))),(vq,(.ai 109)),((XN 0x65d9c3af4),(.ty 500186508389)),(D2,(.ai 110)),(oi,(.ai 111)),(IU,(.fl [.ai 112,.ai 113,.ai 114,.ai 115,.ai 116])),(x7,(.ai 106)),(x8,(.ai 105)),(IT,(.int 20000)),((XN 0x65cfbb0f2),(.ty 491260897125)),(vz,(.ai 117)),(GG,(.ai 118)),(IS,(.int 200000)),(wb,(.ai 119)),(IR,(.ai 120)),(VZ,(.ai 121)),(IM,(.ai 122)),(IJ,(.ai 123)),(II,(.ai 124)),(IK,(.ai 125)),((XN 0xe9cf4ec),(.ty 1818850164)),(IH,(.ai 179)),(IG,(.ai 180)),(IE,(.ai 181)),(PD,(.int 2000)),(IA,(.ai 104)),((XN 0xe98f4e4),(.ty 1684628340)),((XN 0x3265e9cb7f3),(.bi 126922498794852)),(jq,(.ai 107)),(IC,(.ai 108)),(Py,(.ai 126)),(Px,(.ai 127)),(PA,(.ai 128)),(Pz,(.ai 129)),(Iw,(.ai 130)),(Iy,(.ai 131)),(Iz,(.ai 132)),(IL,(.ai 133)),(PB,(.int 200)),(wa,(.ai 134)),(PC,(.int 20000)),(Pv,(.ai 137)),(Pu,(.ai 138)),(Pt,(.ai 139)),(ID,(.ai 182)),(Pw,(.ai 141)),(IF,(.ai 183))]
def eP:List (Nat×Qj):= [(100,31),(101,41),(102,76),(103,48),(104,703),(105,465),(106,729),(107,708),(108,696),(109,321),(110,447),(111,396),(112,449),(113,451),(114,453),(115,455),(116,457),(117,69),(118,497),(119,55),(120,466),(121,623),(122,634),(123,649),(124,656),(125,644),(126,757),(127,764),(128,743),(129,750),(130,736),(131,722),(132,715),(133,639),(134,62),(137,776),(138,783),(139,790),(141,769),(142,97),(143,104),(144,111),(145,118),(146,156),(147,174),(148,181),(149,188),(150,195),(151,233),(152,251),(153,258),(154,265),(155,272),(156,310),(157,337),(158,344),(159,351),(160,358),(161,414),(162,421),(163,428),(164,438),(165,487),(166,480),(167,522),(168,529),(169,534),(170,541),(171,548),(172,563),(173,571),(174,578),(175,592),(176,613),(177,515),(178,795),(179,663),(180,670),(181,684),(182,691),(183,677),(187,606),(191,555),(202,125),(203,132),(204,146),(205,202),(206,209),(207,223),(208,279),(209,286),(210,300),(211,365),(212,372),(213,386),(214,494),(215,620),(237,83),(240,153),(241,230),(242,307),(243,393)]
def c00 (w:Qn) (so:Obj):bf:= {prog:=pw,w:=w,K:=(wD,so)::KK w.params,P:=⟨[],[],[]⟩,ad:=eP}
abbrev cP (n:Nat):= {b:Nat×Nat×List Sm // ∀w so,Ng (c00 w so) aF ⟨n,0,[],0,[]⟩=Qa b}
def vC:cP 101:=⟨_,λ_ _=>by conv=>lhs;reduce⟩
def oP:List Sm:=vC.1.2.2
def uO:Fn:=⟨101,1,[],7,oP⟩
def sC:cP 103:=⟨_,λ_ _=>by conv=>lhs;reduce⟩
def nH:List Sm:=sC.1.2.2
def rZ:Fn:=⟨103,1,[],7,nH⟩
def uC:cP 119:=⟨_,λ_ _=>by conv=>lhs;reduce⟩
def oD:List Sm:=uC.1.2.2
def sW:Fn:=⟨119,1,[],7,oD⟩
def vB:cP 134:=⟨_,λ_ _=>by conv=>lhs;reduce⟩
def oO:List Sm:=vB.1.2.2
def uN:Fn:=⟨134,1,[],8,oO⟩
def uD:cP 117:=⟨_,λ_ _=>by conv=>lhs;reduce⟩
def oE:List Sm:=uD.1.2.2
def sY:Fn:=⟨117,4,[],10,oE⟩
def Dr:cP 142:=⟨_,λ_ _=>by conv=>lhs;reduce⟩
def De:List Sm:=Dr.1.2.2
def HH:Fn:=⟨142,2,[],8,De⟩
def Dd:List Sm:= [.ret (.call (.lit (.bi 7168376)) [.var 1,.var 2])]
def HG:Fn:=⟨143,3,[],9,Dd⟩
def Lb:List Sm:= [.ret (.call (.lit (.bi 7170414)) [.var 1,.var 2])]
def GW:Fn:=⟨144,3,[],9,Lb⟩
def Dc:List Sm:= [.ret (.lit (.int 1))]
def HF:Fn:=⟨145,2,[],8,Dc⟩
def Gc:cP 147:=⟨_,λ_ _=>by conv=>lhs;reduce⟩
def uZ:List Sm:=Gc.1.2.2
def Ub:Fn:=⟨147,2,[],8,uZ⟩
def Gb:cP 148:=⟨_,λ_ _=>by conv=>lhs;reduce⟩
def Uk:List Sm:=Gb.1.2.2
def Ua:Fn:=⟨148,3,[],9,Uk⟩
def VS:cP 149:=⟨_,λ_ _=>by conv=>lhs;reduce⟩
def Vs:List Sm:=VS.1.2.2
def Vc:Fn:=⟨149,3,[],9,Vs⟩
def Uj:List Sm:= [.ret (.lit (.int 0))]
def V9:Fn:=⟨150,2,[],8,Uj⟩
def Ge:cP 152:=⟨_,λ_ _=>by conv=>lhs;reduce⟩
def u2:List Sm:=Ge.1.2.2
def Ue:Fn:=⟨152,2,[],8,u2⟩
def Um:List Sm:= [.ret (.ez .add (.var 1) (.var 2))]
def Ud:Fn:=⟨153,3,[],9,Um⟩
def tH:List Sm:= [.ret (.ez .mul (.var 1) (.var 2))]
def Vd:Fn:=⟨154,3,[],9,tH⟩
def Gd:cP 155:=⟨_,λ_ _=>by conv=>lhs;reduce⟩
def Ul:List Sm:=Gd.1.2.2
def Uc:Fn:=⟨155,2,[],8,Ul⟩
def Ga:cP 109:=⟨_,λ_ _=>by conv=>lhs;reduce⟩
def uY:List Sm:=Ga.1.2.2
def V8:Fn:=⟨109,2,[],8,uY⟩
def VV:cP 157:=⟨_,λ_ _=>by conv=>lhs;reduce⟩
def tJ:List Sm:=VV.1.2.2
def Vg:Fn:=⟨157,2,[],8,tJ⟩
def VU:cP 158:=⟨_,λ_ _=>by conv=>lhs;reduce⟩
def tI:List Sm:=VU.1.2.2
def Vf:Fn:=⟨158,3,[],9,tI⟩
def Wc:cP 159:=⟨_,λ_ _=>by conv=>lhs;reduce⟩
def rU:List Sm:=Wc.1.2.2
def zJ:Fn:=⟨159,3,[],9,rU⟩
def VT:cP 160:=⟨_,λ_ _=>by conv=>lhs;reduce⟩
def Vt:List Sm:=VT.1.2.2
def Ve:Fn:=⟨160,2,[],8,Vt⟩
def VQ:cP 161:=⟨_,λ_ _=>by conv=>lhs;reduce⟩
def tG:List Sm:=VQ.1.2.2
def Vb:Fn:=⟨161,2,[],8,tG⟩
def VP:cP 162:=⟨_,λ_ _=>by conv=>lhs;reduce⟩
def tF:List Sm:=VP.1.2.2
def Va:Fn:=⟨162,3,[],9,tF⟩
def Vr:List Sm:= [.ret (.aq (.var 0) 7302757)]
def W9:Fn:=⟨163,2,[],8,Vr⟩
def xS:cP 110:=⟨_,λ_ _=>by conv=>lhs;reduce⟩
def pQ:List Sm:=xS.1.2.2
def wW:Fn:=⟨110,2,[],9,pQ⟩
def U9:cP 105:=⟨_,λ_ _=>by conv=>lhs;reduce⟩
def Ui:List Sm:=U9.1.2.2
def V7:Fn:=⟨105,1,[],8,Ui⟩
def Ds:cP 166:=⟨_,λ_ _=>by conv=>lhs;reduce⟩
def y5:List Sm:=Ds.1.2.2
def HI:Fn:=⟨166,5,[],11,y5⟩
def We:cP 165:=⟨_,λ_ _=>by conv=>lhs;reduce⟩
def rV:List Sm:=We.1.2.2
def zK:Fn:=⟨165,1,[],7,rV⟩
def Wa:cP 177:=⟨_,λ_ _=>by conv=>lhs;reduce⟩
def rS:List Sm:=Wa.1.2.2
def zH:Fn:=⟨177,2,[],8,rS⟩
def sE:cP 167:=⟨_,λ_ _=>by conv=>lhs;reduce⟩
def nJ:List Sm:=sE.1.2.2
def r5:Fn:=⟨167,2,[],8,nJ⟩
def zA:cP 168:=⟨_,λ_ _=>by conv=>lhs;reduce⟩
def qK:List Sm:=zA.1.2.2
def yF:Fn:=⟨168,1,[],7,qK⟩
def xV:cP 169:=⟨_,λ_ _=>by conv=>lhs;reduce⟩
def pU:List Sm:=xV.1.2.2
def w7:Fn:=⟨169,2,[],8,pU⟩
def sD:cP 170:=⟨_,λ_ _=>by conv=>lhs;reduce⟩
def nI:List Sm:=sD.1.2.2
def r0:Fn:=⟨170,2,[],8,nI⟩
def VO:cP 171:=⟨_,λ_ _=>by conv=>lhs;reduce⟩
def tE:List Sm:=VO.1.2.2
def W8:Fn:=⟨171,6,[],12,tE⟩
def zB:cP 172:=⟨_,λ_ _=>by conv=>lhs;reduce⟩
def qL:List Sm:=zB.1.2.2
def du:Fn:=⟨172,3,[(ab.ai 120)],9,qL⟩
def VN:cP 173:=⟨_,λ_ _=>by conv=>lhs;reduce⟩
def pJ:List Sm:=VN.1.2.2
def fe:Fn:=⟨173,3,[(ab.ai 120)],9,pJ⟩
def rQ:List Sm:= [.ret (.call (.lit (.bi 7103854)) [.aq (.var 0) 1634886515])]
def zG:Fn:=⟨174,1,[],7,rQ⟩
def uE:cP 175:=⟨_,λ_ _=>by conv=>lhs;reduce⟩
def oF:List Sm:=uE.1.2.2
def sZ:Fn:=⟨175,1,[],9,oF⟩
def Wb:cP 176:=⟨_,λ_ _=>by conv=>lhs;reduce⟩
def rT:List Sm:=Wb.1.2.2
def zI:Fn:=⟨176,1,[],9,rT⟩
def xU:cP 122:=⟨_,λ_ _=>by conv=>lhs;reduce⟩
def pT:List Sm:=xU.1.2.2
def wZ:Fn:=⟨122,3,[],11,pT⟩
def z8:cP 133:=⟨_,λ_ _=>by conv=>lhs;reduce⟩
def lY:List Sm:=z8.1.2.2
def zE:Fn:=⟨133,1,[],15,lY⟩
def vX:cP 125:=⟨_,λ_ _=>by conv=>lhs;reduce⟩
def pI:List Sm:=vX.1.2.2
def vJ:Fn:=⟨125,1,[],7,pI⟩
def uB:cP 123:=⟨_,λ_ _=>by conv=>lhs;reduce⟩
def oC:List Sm:=uB.1.2.2
def sV:Fn:=⟨123,1,[],10,oC⟩
def z9:cP 124:=⟨_,λ_ _=>by conv=>lhs;reduce⟩
def rP:List Sm:=z9.1.2.2
def zF:Fn:=⟨124,3,[],13,rP⟩
def qS:cP 179:=⟨_,λ_ _=>by conv=>lhs;reduce⟩
def m4:List Sm:=qS.1.2.2
def qG:Fn:=⟨179,2,[],8,m4⟩
def u7:cP 180:=⟨_,λ_ _=>by conv=>lhs;reduce⟩
def oL:List Sm:=u7.1.2.2
def uK:Fn:=⟨180,2,[],9,oL⟩
def xT:cP 183:=⟨_,λ_ _=>by conv=>lhs;reduce⟩
def pR:List Sm:=xT.1.2.2
def wY:Fn:=⟨183,2,[],12,pR⟩
def qB:cP 181:=⟨_,λ_ _=>by conv=>lhs;reduce⟩
def mU:List Sm:=qB.1.2.2
def p7:Fn:=⟨181,1,[],7,mU⟩
def vW:cP 182:=⟨_,λ_ _=>by conv=>lhs;reduce⟩
def pH:List Sm:=vW.1.2.2
def vI:Fn:=⟨182,1,[],10,pH⟩
def VM:cP 108:=⟨_,λ_ _=>by conv=>lhs;reduce⟩
def tD:List Sm:=VM.1.2.2
def W7:Fn:=⟨108,2,[],11,tD⟩
def Ll:cP 104:=⟨_,λ_ _=>by conv=>lhs;reduce⟩
def rL:List Sm:=Ll.1.2.2
def GT:Fn:=⟨104,4,[],10,rL⟩
def U5:cP 107:=⟨_,λ_ _=>by conv=>lhs;reduce⟩
def uW:List Sm:=U5.1.2.2
def V3:Fn:=⟨107,2,[],15,uW⟩
def vU:cP 132:=⟨_,λ_ _=>by conv=>lhs;reduce⟩
def pF:List Sm:=vU.1.2.2
def vG:Fn:=⟨132,3,[],12,pF⟩
def u6:cP 131:=⟨_,λ_ _=>by conv=>lhs;reduce⟩
def oK:List Sm:=u6.1.2.2
def uJ:Fn:=⟨131,1,[],7,oK⟩
def U6:cP 106:=⟨_,λ_ _=>by conv=>lhs;reduce⟩
def l6:List Sm:=U6.1.2.2
def V4:Fn:=⟨106,3,[],18,l6⟩
def vV:cP 130:=⟨_,λ_ _=>by conv=>lhs;reduce⟩
def pG:List Sm:=vV.1.2.2
def vH:Fn:=⟨130,1,[],7,pG⟩
def U7:cP 128:=⟨_,λ_ _=>by conv=>lhs;reduce⟩
def uX:List Sm:=U7.1.2.2
def V5:Fn:=⟨128,1,[],8,uX⟩
def Ln:cP 129:=⟨_,λ_ _=>by conv=>lhs;reduce⟩
def xN:List Sm:=Ln.1.2.2
def GV:Fn:=⟨129,3,[],9,xN⟩
def Dq:cP 126:=⟨_,λ_ _=>by conv=>lhs;reduce⟩
def pP:List Sm:=Dq.1.2.2
def HD:Fn:=⟨126,5,[],11,pP⟩
def U8:cP 127:=⟨_,λ_ _=>by conv=>lhs;reduce⟩
def p9:List Sm:=U8.1.2.2
def V6:Fn:=⟨127,2,[],11,p9⟩
def Lm:cP 141:=⟨_,λ_ _=>by conv=>lhs;reduce⟩
def mI:List Sm:=Lm.1.2.2
def GU:Fn:=⟨141,2,[],18,mI⟩
def y9:cP 137:=⟨_,λ_ _=>by conv=>lhs;reduce⟩
def qJ:List Sm:=y9.1.2.2
def yE:Fn:=⟨137,2,[],8,qJ⟩
def u9:cP 138:=⟨_,λ_ _=>by conv=>lhs;reduce⟩
def oM:List Sm:=u9.1.2.2
def uL:Fn:=⟨138,1,[],7,oM⟩
def vA:cP 139:=⟨_,λ_ _=>by conv=>lhs;reduce⟩
def kL:List Sm:=vA.1.2.2
def uM:Fn:=⟨139,5,[],20,kL⟩
def EV:cP 178:=⟨_,λ_ _=>by conv=>lhs;reduce⟩
def lI:List Sm:=EV.1.2.2
def vK:Fn:=⟨178,1,[],18,lI⟩
def P0:ik:=⟨[uO,rZ,sW,uN,sY,HH,HG,GW,HF,Ub,Ua,Vc,V9,Ue,Ud,Vd,Uc,V8,Vg,Vf,zJ,Ve,Vb,Va,W9,wW,V7,HI,zK,zH,r5,yF,w7,r0,W8,du,fe,zG,sZ,zI,wZ,zE,vJ,sV,zF,qG,uK,wY,p7,vI,W7,GT,V3,vG,uJ,V4,vH,V5,GV,HD,V6,GU,yE,uL,uM,vK],
 [⟨146,[(yh,(.str [121,101,115])),(rz,(.int 0)),(7302757,(.int 1)),(yg,(.ai 142)),(vm,(.ai 143)),(ry,(.ai 144)),(xj,(.ai 145))],Qd,[]⟩,
  ⟨151,[(yh,(.str [108,101,97,115,116])),(rz,.none),(7302757,(.int 0)),(yg,(.ai 147)),(vm,(.ai 148)),(ry,(.ai 149)),(xj,(.ai 150))],Qd,[]⟩,
  ⟨156,[(yh,(.str [99,111,117,110,116])),(rz,(.int 0)),(7302757,(.int 1)),(yg,(.ai 152)),(vm,(.ai 153)),(ry,(.ai 154)),(xj,(.ai 155))],Qd,[]⟩,
  ⟨111,[(yh,(.str [99,104,97,110,99,101])),(rz,(.ba [.int 0,.int 1])),(7302757,(.ba [.int 1,.int 1])),(yg,(.ai 157)),(vm,(.ai 158)),(ry,(.ai 159)),(xj,(.ai 160))],Qd,[]⟩,
  ⟨164,[(yh,(.str [108,105,107,101,108,121])),(yg,(.ai 161)),(vm,(.ai 162)),(xj,(.ai 163)),(rz,(.ba [.int 0,.int 1])),(7302757,(.ba [.int 1,.int 1])),(ry,(.ai 159))],Qd,[]⟩,
  ⟨118,[(7598521885536580729,(.ai 165))],Qa 166,[504397587826,465726563698,131277443786868,127961880028532]⟩,
  ⟨121,[(450661264077055929053037,(.ai 167)),(495873782885,(.ai 168)),(126943688418675,(.ai 169)),(521330740336550618428517,(.ai 170)),(6386275,(.ai 171)),(422608071022,(.ai 172)),(6647396,(.ai 173)),(1936292453,(.ai 174)),(1925483444799026525305,(.ai 175)),(1668247673,(.ai 176))],Qa 177,[1919512167,1634886515,1701733491,495873782388,439855772532,104880676367988]⟩],
 [(112,146),(113,151),(114,156),(115,111),(116,164)]⟩
def iY:List PySem.Str:= [zeG,PM,Hf,zeF,DZ,PI,DY,zeE,PE,PJ,PN,Hg,oz,mf,PK,th,mh,md,x8,IQ,jq,zbY,GF,PL,FM,ow,Hh,x7]
def ip (w:Qn) (so:Obj):bf:= {prog:=pw,w:=w,K:=(wD,so)::KK w.params,P:=P0,ad:=eP}
section
variable (w:Qn) (so:Obj)
def zdG:P0.nh.map (Ng (ip w so) aF)=P0.nh.map λf=>Qa (f.np,f.ns,f.body):=by kernel_rfl
def zf8:P0.nh.all (Internal.jn (ip w so))=true:=by kernel_rfl
def zf7:aF.all (b9 (ip w so))=true:=by kernel_rfl
def zf6:P0.jv.all (My (ip w so))=true:=by kernel_rfl
def zga:P0.cls.all (cH (ip w so) iY)=true:=by kernel_rfl
theorem zgb:rW (ip w so):=zcF (by kernel_rfl) (by kernel_rfl) (by kernel_rfl)
def kT:FuncData:=fnOf DZ PG (jn 29 7).1 (jn 29 7).2.1 (jn 29 7).2.2 (.ref 556) Yd Yd (KQ uH 778) Qd (.ref 562) Yd
def yO (S:QX) (v0:Value) (v1:Value):peek (ip w so).K S (bindArgs kT ⟨[v0,v1],[]⟩)=Qa ((kT.params.args.map (·.arg)).zip [v0,v1,(.ref 466)]):=by kernel_rfl
def yN (S:QX) (v0:Value) (v1:Value) (v2:Value):peek (ip w so).K S (bindArgs kT ⟨[v0,v1,v2],[]⟩)=Qa ((kT.params.args.map (·.arg)).zip [v0,v1,v2]):=by kernel_rfl
theorem zC (S:QX): ∀ (vs:List Value),vs.length<=3->3-vs.length<=1->peek (ip w so).K S (bindArgs kT ⟨vs,[]⟩)=Qa ((kT.params.args.map (·.arg)).zip (vs++qaa (1-(3-vs.length)) [(.ref 466)])):=λvs h1 h2=>match vs,h1,h2 with
 | [],_,h2=>absurd h2 (show ¬3-0<=1 by decide)
 | [_],_,h2=>absurd h2 (show ¬3-1<=1 by decide)
 | [v0,v1],_,_=>yO w so S v0 v1
 | [v0,v1,v2],_,_=>yN w so S v0 v1 v2
 |_::_::_::_::r,h1,_=>absurd h1 (show ¬r.length+4<=3 by omega)
theorem zL:VJ (ip w so) du:=λh p e=>by
 rw[show MR (ip w so) du=Qa ⟨563,zel w.params,kT⟩ from by kernel_rfl] at e;cases e;exact .inr ⟨h,[(.ref 466)],λw'=>z6 (Wv 5) w' _ _ (by kernel_rfl),λS vs h1 h2=>zC w so S vs h1 h2⟩
def lB:FuncData:=fnOf DY PF (jn 29 8).1 (jn 29 8).2.1 (jn 29 8).2.2 (.ref 564) Yd Yd (KQ uH 778) Qd (.ref 570) Yd
def Vx (S:QX) (v0:Value) (v1:Value):peek (ip w so).K S (bindArgs lB ⟨[v0,v1],[]⟩)=Qa ((lB.params.args.map (·.arg)).zip [v0,v1,(.ref 466)]):=by kernel_rfl
def Vw (S:QX) (v0:Value) (v1:Value) (v2:Value):peek (ip w so).K S (bindArgs lB ⟨[v0,v1,v2],[]⟩)=Qa ((lB.params.args.map (·.arg)).zip [v0,v1,v2]):=by kernel_rfl
theorem VY (S:QX): ∀ (vs:List Value),vs.length<=3->3-vs.length<=1->peek (ip w so).K S (bindArgs lB ⟨vs,[]⟩)=Qa ((lB.params.args.map (·.arg)).zip (vs++qaa (1-(3-vs.length)) [(.ref 466)])):=λvs h1 h2=>match vs,h1,h2 with
 | [],_,h2=>absurd h2 (show ¬3-0<=1 by decide)
 | [_],_,h2=>absurd h2 (show ¬3-1<=1 by decide)
 | [v0,v1],_,_=>Vx w so S v0 v1
 | [v0,v1,v2],_,_=>Vw w so S v0 v1 v2
 |_::_::_::_::r,h1,_=>absurd h1 (show ¬r.length+4<=3 by omega)
theorem Uh:VJ (ip w so) fe:=λh p e=>by
 rw[show MR (ip w so) fe=Qa ⟨571,zek w.params,lB⟩ from by kernel_rfl] at e;cases e;exact .inr ⟨h,[(.ref 466)],λw'=>z6 (Wv 5) w' _ _ (by kernel_rfl),λS vs h1 h2=>VY w so S vs h1 h2⟩
def NW:List Fn->Prop
 | []=>True
 |f::r=>VJ (ip w so) f/\NW r
def NW.at: ∀ {l:List Fn},NW w so l-> ∀f∈l,VJ (ip w so) f:=by
 intro l
 induction l with
 |nil=>exact λ_ _ h=>absurd h JB
 |cons f l ih=>exact λh g hg=>(JM.mp hg).elim (λe=>e▸h.1) λhg=>ih h.2 g hg
theorem kF {α:Sort _}{a:α}{P:Prop} (h: ¬a=a):P:=absurd rfl h
theorem zf9: ∀f∈P0.nh,VJ (ip w so) f:=NW.at w so (show NW w so P0.nh from⟨kF,kF,kF,kF,kF,kF,kF,kF,kF,kF,kF,kF,kF,kF,kF,kF,kF,kF,kF,kF,kF,kF,kF,kF,kF,kF,kF,kF,kF,kF,kF,kF,kF,kF,kF,zL w so,Uh w so,kF,kF,kF,kF,kF,kF,kF,kF,kF,kF,kF,kF,kF,kF,kF,kF,kF,kF,kF,kF,kF,kF,kF,kF,kF,kF,kF,kF,kF,trivial⟩)
theorem fO:nC (ip w so) aF:=za0 (zdG w so) (zf8 w so) (zf9 w so) (zf7 w so) (zf6 w so) (zga w so) (zgb w so) (zge _)
end
abbrev zeY:Nat:=178
abbrev SN:Addr:=795
def zcn (w:Qn):nsIn (KK w.params) mainGlobals (zbT)=Qa (Qa (.ref 795)):=by kernel_rfl
end Tactic
open Internal
namespace Tactic
open Internal
variable {fa:Qj}{many:Bool}{cx:Cx}{eh it:Ex}{mean:ExcName->Option Value}{R' R1 Rr:Fl->Internal.Frame->MH->Prop}{ads us bc:List (List Nat)}{X:List (Nat×ae)}{fs fs':List (Nat×ab)}{es es':List (ab×ab)}{mb mb1 mb2:List Bool}{ifs:List Ex}{ns:List Int}{as as' ks ar rs tg u wk:List Nat}{loose:List PySem.Str}{vs:List ab}{g g' g0 h h' h'' hh t1:MH}{o o':ae}{D J K K' K0 Z aK aL aO aR aS aT aU c c' c0 d e i i' j j' k k' k1 kS kW m n n' p p' p1 pS pW r' s sc x:Nat}{Ad':Nat×Nat->Option Nat}{ep':Option Nat}{k0 l0 sv z1:Option ab}{mg:PySem.Str->Option Value}{s₀ s₁:Qf}{α β σ:Type}{v z:ab}{Q:ab->MH->Prop}
abbrev Hb:Nat:=1886156147
abbrev WQ:Nat:=499984983411
abbrev qZ:Nat:=121424990136436
abbrev FK:Nat:=7302757
abbrev SH:Nat:=1937006962
abbrev Iu:Nat:=1852138852
def eG {c:Cx}{t:Ex}{b:List Sm}{k0:Nat} (F:σ->Internal.Frame) (G:σ->MH) (P:Nat->σ->Prop) (D:σ->Prop) (s0:σ) (hk:k0<=190000) (hc:c.cn=200000) (p0:P k0 s0)
  (step: ∀k s,P k s-> ∃r:Bool,WE c (F s) t (G s) (λv g=>v= .bool r/\g=G s)/\(r=Qe-> ∀R' R,To F G (λs=> ∃j,j<k/\P j s) R R'->cq c b (F s) (G s) R')/\(r=Qb->D s)): ∃s,D s/\exec c (.wh t b) (F s0) (G s0)=Qa ((.nx,F s),G s):=by
 have w:WS c (.wh t b) (F s0) (G s0) λfl f g=> ∃s,D s/\fl= .nx/\f=F s/\g=G s:=
  zaA F G P (by rw[hc];exact Jt hk (by decide)) s0 rfl rfl p0 λk s R' hp T=>by
   refine(step k s hp).elim λr zq1=>?_;refine zq1.1.mono λv g q=>?_;obtain rfl:=q.1;obtain rfl:=q.2;exact zO ⟨λh=>zq1.2.1 h R' _ T,λh=>⟨s,zq1.2.2 h,rfl,rfl,rfl⟩⟩
 refine xEEA (W.get w) λcv g e gq=>?_;refine xEAA gq λs hp q1 mu=>?_;refine xA mu λq2 q3=>?_;obtain⟨fl,f⟩:=cv;refine eqE q1 ?_;subst q2;subst q3;exact⟨s,hp,e⟩
theorem qF {a b r:Int} (e:Y9 a b=r) (hb:b≠0) (h:MH):pE .mod (.int a) (.int b) h=Qa (.int r,h):=W.eq (zaP hb ⟨by rw[e],rfl⟩)
theorem eF {a b:Nat} (hb:b≠0) (hl:b<jg) (h:MH):pE .fdiv (.int a) (.int b) h=Qa (.int (a / b:Nat),h):=W.eq (Ou (λe=>hb (KL.mp e)) hl ⟨by rw[<-Int.ofNat_fdiv],rfl⟩)
theorem nes (s t:List Nat) (h:MH):nB .ne (.str s) (.str t) h=Qa (!(s==t)):=Internal.cj AM
theorem za5 (h:0<n):(((n:Nat):Int)==0)=false:=beq_false_of_ne λe=>absurd (KL.mp e▸h) (Zb _)
section
variable {h0:MH}
def aG (n m:Nat):ab:= .ba [.int (n / Kr n m:Nat),.int (m / Kr n m:Nat)]
def MF {b r:Nat} (hr:0<r) (h:r<=b):2*(b % r)<b:=by
 exact Jt (Jx (YO _)) (Js (K5 (qbu b hr) _) (Jl (JW (ZZ _ ((Nat.one_le_div_iff hr).mpr h:1<=b / r):r<=r*(b / r)) _) (Jx (Nat.div_add_mod b r))))
def gB:Nat:=2 ^ 90000
theorem zfe: ∃J,gB=2 ^ J/\2*J+1<=190000:=⟨90000,rfl,by decide⟩
structure GS where
 x:Nat
 y:Nat
abbrev gF (s:GS):Internal.Frame:=Qa (.int s.x)::Qa (.int s.y)::nn 6
structure GP (g k:Nat) (s:GS):Prop where
 g:Kr s.y s.x=g
 j: ∃j,(s.y<2 ^ j/\2*j<=k)\/(s.y<s.x/\s.x<2 ^ j/\2*j<=k+1)
def GP.next {g:Nat}{s:GS} (P:GP g k s) (hy:0<s.y): ∃j,j<k/\GP g j ⟨s.y,s.x % s.y⟩:=by
 obtain⟨hg,j,hj⟩:=P;have hg':Kr (s.x % s.y) s.y=g:=by rw[<-Nat.gcd_rec];exact hg
 rcases hj with ⟨h1,h2⟩| ⟨h1,h2,h3⟩
 ·have hk:0<k:=Xr λe=>by
   rw[show j=0 from qag (Jl (qah j (Zs 1)) (e▸h2))] at h1;exact Zz (JY hy) h1
  exact⟨k-1,YF hk (Zs _),hg',j,.inr ⟨(qbu s.x hy),h1,Jl h2 (Jx (YJ hk).symm)⟩⟩
 ·cases j with
  |zero=>exact absurd h2 (Zz (JK (Jt hy h1)))
  |succ j=>
   rw[qbn] at h2
   have:=MF hy (JK h1)
   exact⟨k-1,YF (Js (Zs _) (Ye h3)) (Zs 0),hg',j,.inl ⟨Nat.lt_of_mul_lt_mul_left (a:=2) (Zx this (YI h2 (Xo _ _))),Nat.le_sub_one_of_lt (Ye h3)⟩⟩
theorem zcv {a b:Nat} (hb:b<2 ^ J) (hJ:2*J+1<=190000): ∃s:GS,(s.y=0/\s.x=Kr b a)/\exec (ag P0 d) (.wh (.ew .gt (.var 1) (.lit (.int 0))) [.jk [.nm 0,.nm 1] (.ba [.var 1,.ez .mod (.var 0) (.var 1)])]) (gF ⟨a,b⟩) h=Qa ((.nx,gF s),h):=
 eG (c:=ag P0 d) (k0:=2*J+1) gF (λ_=>h) (GP (Kr b a)) (λs=>s.y=0/\s.x=Kr b a) ⟨a,b⟩ hJ rfl ⟨rfl,J,.inl ⟨hb,ZA _⟩⟩ λk s P=>⟨decide ((0:Int)<s.y),by exact kJ (.c<| .z (ck (.bool (decide ((0:Int)<s.y))) h)) rfl,λhr R' R T=>by
  have hy:0<s.y:=ZR.mp (of_decide_eq_true hr);exact kC (.q (qF (r:=(s.x % s.y:Nat)) (Int.ofNat_fmod s.x s.y).symm (λe=>Kd hy (KL.mp e)))<| .c<| .z (T.nx ⟨s.y,s.x % s.y⟩ (P.next hy))) rfl,λhr=>by
  have hy:s.y=0:=Nat.eq_zero_of_not_pos λh=>of_decide_eq_false hr (ZR.mpr h);have hg:=P.g;rw[hy,Nat.gcd_zero_left] at hg;exact⟨hy,hg⟩⟩
def zcu {a b:Nat} (hd:1<=d) (hb:b<gB) (q:Q (.int (Kr b a:Nat)) h):WF P0 d 109 [.int a,.int b] h Q:=by
 exact zfe.elim λJ e=>kN (K:=0) hd (gF ⟨a,b⟩) uY rfl λd' _=>(zcv (d:=d') (h:=h) (a:=a) (e.1▸hb) e.2).elim λs f=>kC (.s (f.2)<| .z ((f.1.2▸q:Q (.int s.x) h))) rfl
theorem zfc {a b:Nat} (hd:1<=d) (hb:b<gB) (h:MH):jZ (ag P0 d) (.ai 109) [.int a,.int b] h=Qa (.int (Kr b a:Nat),h):=fn rfl (zcu hd hb (ck _ _))
def Ru (hd:2<=d) (hn:n<gB) (hm:0<m) (hl:m<jg) (q:Q (aG n m) h):WF P0 d 110 [.int n,.int m] h Q:=by
 refine kN (K:=1) hd (Qa (.int n)::Qa (.int m)::nn 7) pQ rfl λd' h'=>?_;have g0:Kr n m≠0:=Nat.pos_iff_ne_zero.mp (YB _ hm);have gl:Kr n m<jg:=Jt (Nat.gcd_le_right _ hm) hl;exact kC (.q (zfc (a:=m) h' hn)<| .q (eF (a:=n) g0 gl)<| .q (eF (a:=m) g0 gl)<| .z (q)) rfl
theorem eE (hd:2<=d) (hn:n<gB) (hm:0<m) (hl:m<jg) (h:MH):jZ (ag P0 d) (.ai 110) [.int n,.int m] h=Qa (aG n m,h):=fn rfl (Ru hd hn hm hl (ck _ _))
def iv {x:ab}{i:Int} (e:x.int?=Qa i):x= .int i:=by
 cases x<;>first|exact af e|(refine lW e ?_;rfl)
def tv {x:ab}{i:List ab} (e:x.tup?=Qa i):x= .ba i:=by
 cases x<;>first|exact af e|(refine lW e ?_;rfl)
def nv {x:ab} (e:x.isNone=Qe):x= .none:=by
 cases x<;>first|rfl|cases e
def ziz {f:ab->ab->Option α}{r:α} (e:a2 vs f=Qa r): ∃x y,vs= [x,y]/\f x y=Qa r:=by
 obtain _| ⟨x,_| ⟨y,_| ⟨z,l⟩⟩⟩:=vs
 ·exact af e
 ·exact af e
 ·exact⟨x,y,rfl,e⟩
 ·exact af e
def wB:Nat:=2 ^ 3900
def BU:wB*wB<jg/\jg+jg<=gB:=by decide+kernel
def BW:wB<=wq:=by decide+kernel
def nat? (v:ab):Option Nat:=v.int?.bind λa=>au (decide (0<=a) && Zj (a.toNat+1) wB) (Qa a.toNat)
def nat?_s {v:ab}{n:Nat} (e:nat? v=Qa n):v= .int n/\n<wB:=by
 refine xEA (bs e) λa e1 e=>?_;refine xA (gs e) λhb e=>?_;refine lW e ?_;exact⟨by rw[iv e1,qaD (of_decide_eq_true (Jm.mp hb).1)],Zf.mp (Jm.mp hb).2⟩
def fr? (v:ab):Option (Nat×Nat):=v.tup?.bind λvs=>a2 vs λx y=>(nat? x).bind λa=>(nat? y).bind λb=>au (Zj 1 b) (Qa (a,b))
structure ziH (v:ab) (p:Nat×Nat):Prop where
 e:v= .ba [.int p.1,.int p.2]
 n:p.1<wB
 d:p.2<wB
 pos:0<p.2
def fr?_s {v:ab}{p:Nat×Nat} (e:fr? v=Qa p):ziH v p:=by
 refine xEA (bs e) λvs e1 e=>?_;obtain⟨x,y,rfl,e⟩:=ziz e;refine xEA (bs e) λa ea e=>?_;refine xEA (bs e) λb eb e=>?_;obtain⟨hb,e⟩:=gs e;refine lW e ?_;obtain⟨rfl,h1⟩:=nat?_s ea;obtain⟨rfl,h2⟩:=nat?_s eb;exact⟨tv e1,h1,h2,Zf.mp hb⟩
def mx (f:Nat->Nat->Nat->Nat->ab) (x y:ab):Option ab:=(fr? x).bind λp=>(fr? y).map λq=>f p.1 p.2 q.1 q.2
def bU (f:Int->Int->Int) (x y:ab):Option ab:=x.int?.bind λa=>y.int?.map λb=> .int (f a b)
def bT (f:Nat->Nat->Nat) (x y:ab):Option ab:=(nat? x).bind λa=>(nat? y).map λb=> .int (f a b:Nat)
def bQ (x y:ab):Option ab:=bif x.isNone then Qa y else x.int?.bind λa=>bif y.isNone then Qa x else y.int?.map λb=> .int (if b<a then b else a)
def bB (x y:ab):Option ab:=bif x.isNone then Qa .none else x.int?.bind λa=>bif y.isNone then Qa .none else y.int?.map λb=> .int (a+b)
def zv (a b c d:Nat):ab:=aG (a*d+c*b) (b*d)
def xe (a b c d:Nat):ab:=aG (a*c) (b*d)
def yd (a b c d:Nat):ab:=if a*d<c*b then .ba [.int c,.int d] else .ba [.int a,.int b]
def F5 {α:Type} (a b c d e:α) (i:Nat):α:=bif i==0 then a else bif i==1 then b else bif i==2 then c else bif i==3 then d else e
def bP (i:Nat):ab->ab->Option ab:=F5 (bU λa b=>if b>a then b else a) bQ (bU (· + ·)) (mx zv) (mx yd) i
def bA (i:Nat):ab->ab->Option ab:=F5 (bU λa b=>if b<a then b else a) bB (bT (· * ·)) (mx xe) (mx xe) i
def pD {C:Nat->Prop} (i:Nat) (hi:i<5) (c0:C 0) (c1:C 1) (c2:C 2) (c3:C 3) (c4:C 4):C i:=by
 rcases i with _|_|_|_|_|i
 ·exact c0
 ·exact c1
 ·exact c2
 ·exact c3
 ·exact c4
 ·exact absurd hi (Zz (Jw 5 i))
def zh9 {a b:Nat} (ha:a<wB) (hb:b<wB):Hk (.ofNat a) (.ofNat b)=true:=by
 delta Hk;rw[ZX];exact⟨Zf.mpr (Jl ha BW),Zf.mpr (Jl hb BW)⟩
theorem Hl {a b:Nat} (ha:a<wB) (hb:b<wB):a*b<jg:=Js (Nat.mul_lt_mul'' ha hb) (JK BU.1)
theorem W4 {a b:Nat} (ha:a<wB) (hb:b<wB) (h:MH):pE .mul (.int a) (.int b) h=Qa (.int (a*b:Nat),h):=W.eq (zaO (zh9 ha hb) (ck _ _))
def lF {f:Nat}{as:List ab} (hd:K+1<=d) (e: ∀d',mT P0 200000 (d'+K+1) f as h=Qa (z,h)) (q:Q z h):WF P0 d f as h Q:=by
 refine(Ks hd).elim λd' zq21=>?_;refine eqB zq21 ?_;exact W.of (e d') q
def Pc {x y:ab} (r:ab) (hd:3<=d) (e:mx zv x y=Qa z) (q:Q z h):WF P0 d 158 [r,x,y] h Q:=by
 refine xEA (bs e) λfJ ea e=>?_;obtain⟨a,b⟩:=fJ;obtain⟨⟨c,e'⟩,eb,rfl⟩:=ms e;obtain⟨rfl,a1,a2,a3⟩:=fr?_s ea;obtain⟨rfl,b1,b2,b3⟩:=fr?_s eb;exact kN (K:=2) hd (Qa r::Qa (.ba [.int a,.int b])::Qa (.ba [.int c,.int e'])::nn 6) tI rfl λd' h'=>kC (.c2<| .q (W4 a1 b2)<| .c2<| .q (W4 b1 a2)<| .c3<| .q (W4 a2 b2)<| .q (eE (n:=a*e'+c*b) (m:=b*e') h' (Js (Nat.add_lt_add (Hl a1 b2) (Hl b1 a2)) BU.2) (Xb a3 b3) (Hl a2 b2))<| .z (q)) rfl
def AQ {x y:ab} (r:ab) (hd:3<=d) (e:mx xe x y=Qa z) (q:Q z h):WF P0 d 159 [r,x,y] h Q:=by
 refine xEA (bs e) λzg12 ea e=>?_;obtain⟨a,b⟩:=zg12;obtain⟨⟨c,e'⟩,eb,rfl⟩:=ms e;obtain⟨rfl,a1,a2,a3⟩:=fr?_s ea;obtain⟨rfl,b1,b2,b3⟩:=fr?_s eb;exact kN (K:=2) hd (Qa r::Qa (.ba [.int a,.int b])::Qa (.ba [.int c,.int e'])::nn 6) rU rfl λd' h'=>kC (.c2<| .q (W4 a1 b1)<| .c2<| .q (W4 a2 b2)<| .q (eE (n:=a*c) (m:=b*e') h' (Js (Js (Hl a1 b1) (Jo _ _)) BU.2) (Xb a3 b3) (Hl a2 b2))<| .z (q)) rfl
def zbw {x y:ab}{s:ab} (hd:1<=d) (e:bQ x y=Qa z) (q:Q z h):WF P0 d 148 [s,x,y] h Q:=by
 delta bQ at e;refine xO x.isNone (λhx=>?_) λhx=>?_
 ·rw[hx] at e;refine soB e ?_;cases nv hx
  exact lF (K:=0) hd (λ_=>rfl) q
 ·rw[hx] at e
  refine xEA (bs e) λa ea e=>?_;cases iv ea;refine xO y.isNone (λhy=>?_) λhy=>?_
  ·rw[hy] at e;obtain rfl:=Qa.inj e;cases nv hy
   exact lF (K:=0) hd (λ_=>rfl) q
  ·rw[hy] at e
   obtain⟨b,eb,rfl⟩:=ms e;cases iv eb;exact lF (K:=0) hd (λ_=>rfl) q
def zaZ {x y:ab}{s:ab} (hd:1<=d) (e:bB x y=Qa z) (q:Q z h):WF P0 d 149 [s,x,y] h Q:=by
 delta bB at e;refine xO x.isNone (λhx=>?_) λhx=>?_
 ·rw[hx] at e;obtain rfl:=Qa.inj e;cases nv hx
  exact lF (K:=0) hd (λ_=>rfl) q
 ·rw[hx] at e
  refine xEA (bs e) λa ea e=>?_;cases iv ea;refine xO y.isNone (λhy=>?_) λhy=>?_
  ·rw[hy] at e;obtain rfl:=Qa.inj e;cases nv hy
   exact lF (K:=0) hd (λ_=>rfl) q
  ·rw[hy] at e
   refine xEA (ms e) λb eb cv=>?_;subst cv;cases iv eb;exact lF (K:=0) hd (λ_=>rfl) q
def zbv {x y:ab}{s:ab} (hd:1<=d) (e:mx yd x y=Qa z) (q:Q z h):WF P0 d 162 [s,x,y] h Q:=by
 refine xEA (bs e) λzg18 ea e=>?_;obtain⟨a,b⟩:=zg18;obtain⟨⟨c,e'⟩,eb,rfl⟩:=ms e;obtain⟨rfl,a1,a2,a3⟩:=fr?_s ea;obtain⟨rfl,b1,b2,b3⟩:=fr?_s eb;have q:Q (if a*e'<c*b then .ba [.int c,.int e'] else .ba [.int a,.int b]) h:=q;refine kN (K:=0) hd (Qa s::Qa (.ba [.int a,.int b])::Qa (.ba [.int c,.int e'])::nn 6) tF rfl λd' h'=>?_;by_cases hr:a*e'<c*b
 ·rw[if_pos hr] at q
  exact kC (.c2<| .q (W4 a1 b2)<| .c2<| .q (W4 b1 a2)<| .c<| .t (decide_eq_true (ZR.mpr hr))<| .z (q)) rfl
 ·rw[if_neg hr] at q
  exact kC (.c2<| .q (W4 a1 b2)<| .c2<| .q (W4 b1 a2)<| .c<| .f (decide_eq_false (λh=>hr (ZR.mp h)))<| .z (q)) rfl
def zd6 {x y:ab} (hi:i<5) (hd:3<=d) (e:bP i x y=Qa z) (q:Q z h):WM (ag P0 d) (.ai (112+i)) Hb [x,y] h0 h Q:=by
 revert e
 refine pD (C:=λi=>bP i x y=Qa z->WM (ag P0 d) (.ai (112+i)) Hb [x,y] h0 h Q) i hi (λe=>?_) (λe=>?_) (λe=>?_) (λe=>?_) (λe=>?_)
 ·obtain⟨a,ea,e⟩:=bs (e)
  obtain⟨b,eb,rfl⟩:=ms e;cases iv ea;cases iv eb;exact kE (f:=143) (self:=[.ai 112]) rfl (lF (K:=0) (Jl (Jw _ _) hd) (λ_=>rfl) q)
 ·exact kE (f:=148) (self:=[.ai 113]) rfl (zbw (Jl (Jw _ _) hd) e q)
 ·obtain⟨a,ea,e⟩:=bs (e)
  obtain⟨b,eb,rfl⟩:=ms e;cases iv ea;cases iv eb;exact kE (f:=153) (self:=[.ai 114]) rfl (lF (K:=0) (Jl (Jw _ _) hd) (λ_=>rfl) q)
 ·exact kE (f:=158) (self:=[.ai 115]) rfl (Pc _ hd e q)
 ·exact kE (f:=162) (self:=[.ai 116]) rfl (zbv (Jl (Jw _ _) hd) e q)
def zdE {x y:ab} (hi:i<5) (hd:3<=d) (e:bA i x y=Qa z) (q:Q z h):WM (ag P0 d) (.ai (112+i)) WQ [x,y] h0 h Q:=by
 revert e
 refine pD (C:=λi=>bA i x y=Qa z->WM (ag P0 d) (.ai (112+i)) WQ [x,y] h0 h Q) i hi (λe=>?_) (λe=>?_) (λe=>?_) (λe=>?_) (λe=>?_)
 ·obtain⟨a,ea,e⟩:=bs (e)
  obtain⟨b,eb,rfl⟩:=ms e;cases iv ea;cases iv eb;exact kE (f:=144) (self:=[.ai 112]) rfl (lF (K:=0) (Jl (Jw _ _) hd) (λ_=>rfl) q)
 ·exact kE (f:=149) (self:=[.ai 113]) rfl (zaZ (Jl (Jw _ _) hd) e q)
 ·obtain⟨a,ea,e⟩:=bs (e)
  obtain⟨b,eb,rfl⟩:=ms e;obtain⟨rfl,h1⟩:=nat?_s ea;obtain⟨rfl,h2⟩:=nat?_s eb;exact kE (f:=154) (self:=[.ai 114]) rfl (kN (K:=0) (Jl (Jw _ _) hd) (Qa (.ai 114)::Qa (.int a)::Qa (.int b)::nn 6) tH rfl λd' _=>kC (.q (W4 h1 h2)<| .z (q)) rfl)
 ·exact kE (f:=159) (self:=[.ai 115]) rfl (AQ _ hd e q)
 ·exact kE (f:=159) (self:=[.ai 116]) rfl (AQ _ hd e q)
def bW (i:Nat):ab:=F5 (.int 0) .none (.int 0) (.ba [.int 0,.int 1]) (.ba [.int 0,.int 1]) i
def bS (i:Nat):ab:=F5 (.int 1) (.int 0) (.int 1) (.ba [.int 1,.int 1]) (.ba [.int 1,.int 1]) i
theorem zep (hi:i<5) (q:Q (bW i) h):WA P0 (.ai (112+i)) qZ h Q:=
 Dy (pD (C:=λi=>((P0.cf (112+i)).bind λc=>u3 P0 c qZ)=Qa (bW i)) i hi rfl rfl rfl rfl rfl) q
theorem zej (hi:i<5) (q:Q (bS i) h):WA P0 (.ai (112+i)) FK h Q:=
 Dy (pD (C:=λi=>((P0.cf (112+i)).bind λc=>u3 P0 c FK)=Qa (bS i)) i hi rfl rfl rfl rfl rfl) q
end
def oJ {t:MH}:(h++t)[h.length+j]?=t[j]?:=by rw[Kb (Jo _ _),Z9]
def A0 {t:MH}:(h++t).set (h.length+j) o=h++t.set j o:=by rw[Yp _ _ (Jo _ _),Z9]
structure Rg where
 i:Nat
 hi:i<5
 α:Type
 ft:DecidableEq α
 e:α->ab
 zero:α
 da:α
 add:α->α->α
 mul:α->α->α
 D:Nat->Nat->α->Prop
 add_comm: ∀a b,add a b=add b a
 add_assoc: ∀a b c,add (add a b) c=add a (add b c)
 zero_add: ∀a,add zero a=a
 mul_comm: ∀a b,mul a b=mul b a
 mul_assoc: ∀a b c,mul (mul a b) c=mul a (mul b c)
 one_mul: ∀a,mul da a=a
 zero_mul: ∀a,mul zero a=zero
 mul_add: ∀a b c,mul a (add b c)=add (mul a b) (mul a c)
 pj:bW i=e zero
 rx:bS i=e da
 we: ∀a,aD (e a) (.ai 120)=Qa Qb
 fc: ∀h a b,lj h (e a) (e b)=Qa (decide (a=b))
 ah: ∀ {p q k l a},p<=q->k<=l->D p k a->D q l a
 bt:D 0 0 zero
 gd:D 0 0 da
 fw: ∀ {p k a b},D p k a->D p k b->D p (k+1) (add a b)
 fj: ∀ {p q k l a b},D p k a->D q l b->D (p+q) (k+l) (mul a b)
 gg: ∀ {p k a b},D p k a->D p k b->4*p+k<=3800->bP i (e a) (e b)=Qa (e (add a b))
 fm: ∀ {p q k l a b},D p k a->D q l b->4*(p+q)+(k+l)<=3800->bA i (e a) (e b)=Qa (e (mul a b))
 gh: ∀ {p k a d h0 h}{Q:ab->MH->Prop},3<=d->D p k a->4*p+k<=3800->Q (e a) h->WM (ag P0 d) (.ai (112+i)) Iu [e a] h0 h Q
 gf: ∀ {d h0 h}{Q:ab->MH->Prop},3<=d->Q (e da) h->WM (ag P0 d) (.ai (112+i)) SH [e zero] h0 h Q
section
variable {d:Nat}{h h0:MH}{Q:ab->MH->Prop} (R:Rg)
theorem Rg.bO {a b:R.α} (hd:3<=d) (ha:R.D p k a) (hb:R.D p k b) (hl:4*p+k<=3800) (q:Q (R.e (R.add a b)) h):WM (ag P0 d) (.ai (112+R.i)) Hb [R.e a,R.e b] h0 h Q:=zd6 R.hi hd (R.gg ha hb hl) q
theorem Rg.xt {l:Nat}{a b:R.α} (hd:3<=d) (ha:R.D p k a) (hb:R.D p' l b) (hl:4*(p+p')+(k+l)<=3800) (q:Q (R.e (R.mul a b)) h):WM (ag P0 d) (.ai (112+R.i)) WQ [R.e a,R.e b] h0 h Q:=zdE R.hi hd (R.fm ha hb hl) q
theorem Rg.vn (q:Q (R.e R.zero) h):WA P0 (.ai (112+R.i)) qZ h Q:=zep R.hi (R.pj▸q)
theorem Rg.ye (q:Q (R.e R.da) h):WA P0 (.ai (112+R.i)) FK h Q:=zej R.hi (R.rx▸q)
theorem Rg.eq {a b:R.α} (q:Q (.bool (@decide (a=b) (R.ft a b))) h):WC .eq (R.e a) (R.e b) h Q:=zdu (R.fc h a b) q
theorem Rg.ne {a b:R.α} (q:Q (.bool (!@decide (a=b) (R.ft a b))) h):WC .ne (R.e a) (R.e b) h Q:=zdt (R.fc h a b) q
end
variable {R:Rg}
theorem Rg.pl {a b:R.α} (hd:3<=d) (ha:R.D p k a) (hb:R.D p k b) (hl:4*p+k<=3800) (h:MH):kP (ag P0 d) (.ai (112+R.i)) Hb [R.e a,R.e b] h h=Qa (R.e (R.add a b),h):=W.eq (R.bO hd ha hb hl ⟨rfl,rfl⟩)
theorem Rg.ti {l:Nat}{a b:R.α} (hd:3<=d) (ha:R.D p k a) (hb:R.D p' l b) (hl:4*(p+p')+(k+l)<=3800) (h:MH):kP (ag P0 d) (.ai (112+R.i)) WQ [R.e a,R.e b] h h=Qa (R.e (R.mul a b),h):=W.eq (R.xt hd ha hb hl ⟨rfl,rfl⟩)
theorem Rg.nd {a:R.α} (hd:3<=d) (ha:R.D p k a) (hl:4*p+k<=3800) (h:MH):kP (ag P0 d) (.ai (112+R.i)) Iu [R.e a] h h=Qa (R.e a,h):=W.eq (R.gh hd ha hl ⟨rfl,rfl⟩)
theorem Rg.on (R:Rg) (h:MH):getAttr P0 h (.ai (112+R.i)) FK=Qa (R.e R.da):=Wo.eq (R.ye (Q:=λa _=>a=_) rfl)
theorem Rg.no (R:Rg) (h:MH):getAttr P0 h (.ai (112+R.i)) qZ=Qa (R.e R.zero):=Wo.eq (R.vn (Q:=λa _=>a=_) rfl)
theorem Rg.qe (a b:R.α) (h:MH):lj h (R.e a) (R.e b)=Qa (@decide (a=b) (R.ft a b)):=R.fc h a b
theorem Rg.yes {a b:R.α} (h:a=b): @decide (a=b) (R.ft a b)=true:= @decide_eq_true _ (R.ft a b) h
theorem Rg.not {a b:R.α} (h: ¬a=b): @decide (a=b) (R.ft a b)=false:= @decide_eq_false _ (R.ft a b) h
theorem dT {p:Prop}{i:Decidable p} (h: @decide p i=Qe):p:= @of_decide_eq_true p i h
theorem dF {p:Prop}{i:Decidable p} (h: @decide p i=Qb): ¬p:= @of_decide_eq_false p i h
theorem Hq (hk:k<=3800) (hn:n<=2 ^ k):n<wB:=Jt hn (qas (by decide) (Js (JQ hk) (Jw _ _)))
def nat?_of {n:Nat} (hn:n<wB):nat? (.int n)=Qa n:=by
 show au _ _=_;rw[MI (by rw[ZX];exact⟨decide_eq_true (KS _),Zf.mpr hn⟩),KI]
def vc:Nat:=10 ^ 4000
def BV:wB<=vc:=by decide+kernel
theorem wM (hn:n<wB):decide ((10 ^ 4000:Int)<=n)=false:=decide_eq_false λhg=>absurd (YP.mp (show ((vc:Nat):Int)<=(n:Int) from hg)) (qaP.mpr (Js hn BV))
def Nf {s:ab} (hd:1<=d) (hn:n<wB) (q:Q (.int n) h):WF P0 d 152 [s,.int n] h Q:=by
 exact kN (K:=0) hd (Qa s::Qa (.int n)::nn 6) u2 rfl λd' h'=>kC (.c4<| .c2<| .f (wM hn)<| .z (q)) rfl
def Ax:Rg where
 i:=2
 hi:=by decide
 α:=Nat
 ft:=inferInstance
 e:=λn=> .int n
 zero:=0
 da:=1
 add:=(· + ·)
 mul:=(· * ·)
 D:=λp k n=>n<=2 ^ k
 add_comm:=ZJ
 add_assoc:=J9
 zero_add:=ZM
 mul_comm:=Xo
 mul_assoc:=qaI
 one_mul:=Z5
 zero_mul:=Nat.zero_mul
 mul_add:=qbr
 pj:=rfl
 rx:=rfl
 we:=λ_=>rfl
 fc:=λh a b=>v5.trans (congrArg Qa (by
  by_cases hab:a=b
  ·subst hab;simp
  ·rw[decide_eq_false hab,beq_false_of_ne];exact λe=>hab (YM.inj e)))
 ah:=λ_ hk ha=>Jl ha (qat (by decide) hk)
 bt:=by decide
 gd:=by decide
 fw:=λha hb=>by exact Jl (JG ha hb) (Jx (Nat.mul_two _).symm)
 fj:=λha hb=>by rw[XH];exact qbf ha hb
 gg:=λ_ _ _=>rfl
 fm:=λ{p q k l a b} ha hb hl=>by
  show bT (· * ·) (.int a) (.int b)=_;unfold bT;rw[nat?_of (Hq (k:=k) (Jl (Jo _ _) (Jl (Jw _ _) hl)) ha),nat?_of (Hq (k:=l) (Jl (Jw _ _) (Jl (Jw _ _) hl)) hb)];rfl
 gh:=λ{p k a d h0 h Q} hd ha hl q=>kE (f:=152) (self:=[.ai 114]) rfl (Nf (Jl (Jw _ _) hd) (Hq (k:=k) (Jl (Jw _ _) hl) ha) q)
 gf:=λ{d h0 h Q} hd q=>kE (f:=155) (self:=[.ai 114]) rfl (lF (K:=0) (Jl (Jw _ _) hd) (λ_=>rfl) q)
section
variable {h0:MH}
def oj:List Nat:= [32,9,10,58,47,95,91,93,62,35,59,63,61]
def V1 (c:Nat):Bool:=!oj.contains c && !qaU ⟨#[c]⟩
def zci (hd:1<=d) (hc:V1 c=Qe) (q:Q (.bool Qe) h):WF P0 d 101 [.str [c]] h Q:=by
 exact kN (K:=0) hd (Qa (.str [c])::nn 6) oP rfl λd' h'=>kC (.c4<| .c3<| .t ((Jm.mp hc).1)<| .c2<| .z ((show Q (.bool (!qaU ⟨#[c]⟩)) h by rw[(Jm.mp hc).2];exact q))) rfl
def Eh (hd:2<=d) (hc:V1 c=Qe) (q:Q (.str [c]) h):WF P0 d 103 [.str [c]] h Q:=by
 exact kN (K:=1) hd (Qa (.str [c])::nn 6) nH rfl λd' h'=>kC (.p (fn (as:=[.str [c]]) rfl (zci h' hc (ck (.bool Qe) h)))<| .c2<| .z (q)) rfl
def i9 {c:Cx}{e:Ex}{b:List Sm}{s:List Nat} (F:Option ab->Internal.Frame) (hs:s.length<c.cn) (he:WE c (F Qd) e h λv g=>v= .str s/\g=h)
  (step: ∀a R o,a∈s->R .nx (F (Qa (.str [a]))) h->cq c b ((F o).set x (Qa (.str [a]))) h R): ∃o,exec c (.fo [x] Qb e b) (F Qd) h=Qa ((.nx,F o),h):=by
 have w:WS c (.fo [x] Qb e b) (F Qd) h λfl f g=> ∃o,fl= .nx/\f=F o/\g=h:=Gg (he.mono λv g q=>by
  refine eqB q.1 ?_;obtain rfl:=q.2;refine⟨.sq s,s.map λc=> .str [c],rfl,by rw[Jp];exact hs,λ_ f g'=>g'=g/\∃o,f=F o,⟨rfl,Qd,rfl⟩,λi _ _ _=>by rw[JA];rfl,λi v hv f g' q=>?_,λf g' q=>q.2.elim λo e=>⟨o,rfl,e,q.1⟩⟩;obtain⟨rfl,o,rfl⟩:=q;rw[JA] at hv;obtain⟨a,ha,rfl⟩:=ms hv;exact mL (step a _ o (Jq ha) ⟨rfl,_,rfl⟩))
 refine xEEA (W.get w) λzg20 g e zg21=>?_;refine xEAA zg21 λo q1 q2 q3=>?_;obtain⟨fl,f⟩:=zg20;refine eqE q1 ?_;subst q2;cases q3;exact⟨o,e⟩
def Ic {s:List Nat} (hd:3<=d) (hs: ∀c∈s,V1 c=Qe) (hl:s.length<1000) (q:Q (.str s) h):WF P0 d 134 [.str s] h Q:=by
 refine kN (K:=2) hd (Qa (.str s)::nn 7) oO rfl λd' h'=>?_;obtain⟨o,e⟩:=i9 (h:=h) (c:=ag P0 d') (x:=1) (e:=.var 0) (b:=[.expr (.call (.lit (.ai 103)) [.var 1])]) (λo=>Qa (.str s)::o::nn 6) (Zx hl (by show 1000<200000;decide)) (by exact kJ (.z (ck (.str s) h)) rfl) λa R o ha q=>by
  exact kC (.p (fn (as:=[.str [a]]) rfl (Eh h' (hs a ha) (ck (.str [a]) h)))<| .z (q)) rfl
 exact kC (.c3<| .s (e)<| .z (q)) rfl
end
section
variable {h0:MH}
def dh (s:List Nat):Prop:=s= []\/∃c,s= [c]/\V1 c=Qe
def Ei {s:List Nat} (hd:3<=d) (hs:dh s) (q:Q (.str s) h):WF P0 d 119 [.str s] h Q:=by
 refine kN (K:=2) hd (Qa (.str s)::nn 6) oD rfl λd' h'=>?_;rcases hs with rfl| ⟨c,rfl,hc⟩
 ·exact kC (.c2<| .z (q)) rfl
 ·exact kC (.c2<| .p (fn (as:=[.str [c]]) rfl (Eh h' hc (ck (.str [c]) h)))<| .z (q)) rfl
def Ek {a b c:Int}{x:ab} (hd:1<=d) (h1:b<=a) (h2:a<=c) (q:Q (.int a) h):WF P0 d 117 [.int a,.int b,.int c,x] h Q:=by
 exact kN (K:=0) hd (Qa (.int a)::Qa (.int b)::Qa (.int c)::Qa x::nn 6) oE rfl λd' h'=>kC (.c4<| .f (decide_eq_false (YW.mpr h1))<| .c<| .f (decide_eq_false (YW.mpr h2))<| .z (q)) rfl
def zbM {s:List Nat} (hd:4<=d) (hs: ∀c∈s,V1 c=Qe) (hl:s.length<=200) (q:Q .none h):WF P0 d 130 [.str s] h Q:=by
 exact kN (K:=3) hd (Qa (.str s)::nn 6) pG rfl λd' h'=>kC (.p (fn (as:=[.str s]) rfl (Ic h' hs (Js (JQ hl) (Jw _ _)) (ck (.str s) h)))<| .c2<| .f (decide_eq_false (p:=(200:Int)<s.length) (by lia))<| .z (q)) rfl
end
abbrev nL:Nat:=1919512167
abbrev kI:Nat:=1634886515
abbrev lU:Nat:=1701733491
abbrev rB:Nat:=495873782388
abbrev tY:Nat:=439855772532
abbrev wU:Nat:=104880676367988
abbrev m8:Nat:=504397587826
abbrev oT:Nat:=465726563698
abbrev wR:Nat:=131277443786868
abbrev qE:Nat:=127961880028532
def ze0 {a b:List ab} (e:Qa (ae.list a)=Qa (.list b)):a=b:=by cases e;rfl
def zgi: ∀ {as bs:List Nat},as.map ab.ref=bs.map ab.ref->as=bs:=by
 intro as
 induction as with
 |nil=>intro bs e;cases bs with|nil=>rfl|cons _ _=>cases e
 |cons a as ih=>
  intro bs e;cases bs with
  |nil=>cases e
  |cons b bs=>injection e with e1 e2;injection e1 with e1;rw[e1,ih e2]
theorem Pj {bs:List Nat} (e:Qa (ae.list (as.map .ref))=Qa (.list (bs.map .ref))):as=bs:=zgi (ze0 e)
structure Ar (α:Type) where
 up:List Nat
 lo:List Nat
 w:α
 t:Nat
structure Mc (α:Type) where
 aa:List (List (Ar α))
 aj:List α
 start:Nat
 first:α
 ax:Nat
structure Ly where
 m:Nat
 aA:Nat
 aE:Nat
 ar:List Nat
section
variable (R:Rg)
def mC (a:Ar R.α):ae:= .inst 118 [(m8,.str a.up),(oT,.str a.lo),(wR,R.e a.w),(qE,.int a.t)]
def mO (L:Ly) (M:Mc R.α):ae:= .inst 121 [(nL,.ai (112+R.i)),(kI,.ref L.aA),(lU,.ref L.aE),(rB,.int M.start),(tY,R.e M.first),(wU,.int M.ax)]
def qP (h:MH) (r:Nat) (xs:List (Ar R.α)):Prop:= ∃as:List Nat,h[r]?=Qa (.list (as.map .ref))/\as.length=xs.length/\∀ (j a:Nat) (x:Ar R.α),as[j]?=Qa a->xs[j]?=Qa x->h[a]?=Qa (mC R x)
def om (h:MH) (ar:List Nat) (m:Nat):Prop:= ∃ads:List (List Nat),ads.flatten.Nodup/\(∀a∈ads.flatten,m<a)/\ar.map (λr=>h[r]?)=ads.map λas=>Qa (.list (as.map .ref))
structure ak (h:MH) (L:Ly) (M:Mc R.α):Prop where
 fb:h[L.m]?=Qa (mO R L M)
 aa:h[L.aA]?=Qa (.list (L.ar.map .ref))
 aj:h[L.aE]?=Qa (.list (M.aj.map R.e))
 len:L.ar.length=M.aa.length
 di:M.aj.length=M.aa.length
 ar: ∀ (k r:Nat) (xs:List (Ar R.α)),L.ar[k]?=Qa r->M.aa[k]?=Qa xs->qP R h r xs
 nd:(L.aA::L.aE::L.ar).Nodup
 bb:M.aa.length<=10000
 ct:(M.aa.map Z3).sum=M.ax
 cl:M.ax<=100000
 ds:om h L.ar L.m
end
def om.to (D:om h ar m) (e: ∀r∈ar,∀vs,h[r]?=Qa (.list vs) ->h'[r]?=Qa (.list vs)):om h' ar m:=by
 refine Zv D λads zq3=>?_;refine⟨ads,zq3.1,zq3.2.1,(ZI λr hr=>?_).trans zq3.2.2⟩;have hm:h[r]?∈ar.map λr=>h[r]?:=JJ.mpr ⟨r,hr,rfl⟩;rw[zq3.2.2] at hm;refine(JJ.mp hm).elim λas zq2=>?_;rw[<-zq2.2];exact e r hr _ zq2.2.symm
def GI {l:List (List α)}{xs:List α} (h:xs∈l):xs.length<=(l.map Z3).sum:=by
 induction l with
 |nil=>exact absurd h JB
 |cons y l ih=>
  simp only[JO,YC];rcases JM.mp h with rfl|h
  ·exact Jo _ _
  ·have:=ih h;exact Yl this
def Eo {l:List (List α)}{a:α} (hs:s<l.length):((l.set s (l[s]++ [a])).map Z3).sum=(l.map Z3).sum+1:=by
 induction l generalizing s with
 |nil=>exact absurd hs (Ze _)
 |cons y l ih=>
  cases s with
  |zero=>simp;exact ZK _ _ _
  |succ s=>
   have:=ih (s:=s) (KC hs)
   simp only[List.set_cons_succ,List.getElem_cons_succ,JO,YC,this];exact K7 (J9 _ _ _)
variable {L:Ly}{M:Mc R.α}
theorem ak.cr (I:ak R h L M): ∀xs∈M.aa,xs.length<=M.ax:=λxs hx=>I.ct▸GI hx
structure l9 (h h':MH) (S:List Nat):Prop where
 len:h.length<=h'.length
 at': ∀ (a:Nat) (o:ae),a∉S->h[a]?=Qa o->h'[a]?=Qa o
def fg (L:Ly):List Nat:=L.m::L.aA::L.aE::L.ar
theorem l9.refl {S:List Nat}:l9 h h S:=⟨Jv _,λ_ _ _ e=>e⟩
theorem l9.trans {S:List Nat} (x:l9 h h' S) (y:l9 h' h'' S):l9 h h'' S:=⟨Jl x.len y.len,λa o hs e=>y.at' a o hs (x.at' a o hs e)⟩
theorem l9.sub {S T:List Nat} (x:l9 h h' S) (hs: ∀a∈S,a∈T):l9 h h' T:=⟨x.len,λa o ht e=>x.at' a o (λq=>ht (hs a q)) e⟩
theorem l9.bz {t:MH}{S:List Nat}:l9 h (h++t) S:=⟨by rw[Jz];exact Jo _ _,λ_ _ _ e=>jS e⟩
theorem l9.set {a:Nat}:l9 h (h.set a o) [a]:=⟨by rw[J0];exact Jv _,λb x hb e=>j4 (λq=>hb (q▸ .head _)) e⟩
section
variable {h0:MH}
def qP.mono {r:Nat}{xs:List (Ar R.α)} (x:qP R h r xs) (hk: ∀ (a:Nat) (o:ae),h[a]?=Qa o->(∃x,o=mC R x)\/a=r->h'[a]?=Qa o):qP R h' r xs:=by
 exact Zv x λas zq1=>⟨as,hk _ _ zq1.1 (.inr rfl),zq1.2.1,λj a x ha hx=>hk _ _ (zq1.2.2 j a x ha hx) (.inl ⟨x,rfl⟩)⟩
theorem ak.bz {t:MH} (I:ak R h L M):ak R (h++t) L M:=
 ⟨jS I.fb,jS I.aa,jS I.aj,I.len,I.di,λk r xs hr hx=>(I.ar k r xs hr hx).mono λa o e _=>jS e,I.nd,I.bb,I.ct,I.cl,I.ds.to λ_ _ _ e=>jS e⟩
def ak.ng {S:List Nat} (I:ak R h L M) (K:l9 h h' S) (hs: ∀a∈S,h.length<=a):ak R h' L M:=by
 have g: ∀ (a:Nat) (o:ae),h[a]?=Qa o->h'[a]?=Qa o:=λa o e=>K.at' a o (λq=>absurd (kD e) (ZU.mpr (hs a q))) e;exact⟨g _ _ I.fb,g _ _ I.aa,g _ _ I.aj,I.len,I.di,λk r xs hr hx=>(I.ar k r xs hr hx).mono λa o e _=>g a o e,I.nd,I.bb,I.ct,I.cl,I.ds.to λ_ _ _ e=>g _ _ e⟩
theorem l8 (I:ak R h L M):getAttr P0 h (.ref L.m) nL=Qa (.ai (112+R.i)):=ga I.fb rfl rfl
theorem sU (I:ak R h L M):getAttr P0 h (.ref L.m) lU=Qa (.ref L.aE):=ga I.fb rfl rfl
theorem nD (I:ak R h L M):getAttr P0 h (.ref L.m) kI=Qa (.ref L.aA):=ga I.fb rfl rfl
theorem rG (I:ak R h L M):getAttr P0 h (.ref L.m) rB=Qa (.int M.start):=ga I.fb rfl rfl
theorem vF (I:ak R h L M):getAttr P0 h (.ref L.m) tY=Qa (R.e M.first):=ga I.fb rfl rfl
theorem F1 (I:ak R h L M) (d:Nat):jZ (ag P0 d) (.bi 7103854) [.ref L.aA] h=Qa (.int M.aa.length,h):=W.eq (AB I.aa (by rw[Jp,I.len];exact ck _ _))
def OZ (hd:1<=d) (I:ak R h L M) (q:Q (.int M.aa.length) h):WF P0 d 174 [.ref L.m] h Q:=by
 exact kN (K:=0) hd (Qa (.ref L.m)::nn 6) rQ rfl λd' h'=>kC (.v (nD I)<| .p (F1 I d')<| .z (q)) rfl
def zbL (hd:2<=d) (I:ak R h L M) (hk:k<M.aa.length) (q:Q (.int k) h):WF P0 d 170 [.ref L.m,.int k] h Q:=by
 exact kN (K:=1) hd (Qa (.ref L.m)::Qa (.int k)::nn 6) nI rfl λd' h'=>kC (.v (nD I)<| .p (F1 I d')<| .c<| .p (fn (as:=[.int k,.int 0,.int ((M.aa.length:Int) -1),.str [115,116,97,116,101]]) rfl (Ek h' (KS _) (by lia) (ck (.int k) h)))<| .z (q)) rfl
theorem zil {f:Nat} (I:ak R h L M) (hn:vM [(nL,.ai (112+R.i)),(kI,.ref L.aA),(lU,.ref L.aE),(rB,.int M.start),(tY,R.e M.first),(wU,.int M.ax)] n=Qd) (hm:yZ P0 121 n=Qa f):nA P0 h (.ref L.m) n=Qa (f,[.ref L.m]):=lN I.fb hn hm
end
section
variable {h0:MH}
theorem cj {a b:Nat}{p:ae} (e1:h[a]?=Qa o) (e2:h[b]?=Qa p) (hn:o≠p):a≠b:=λq=>hn (by subst q;exact Qa.inj (e1.symm.trans e2))
theorem ak.mA (I:ak R h L M):L.m≠L.aA:=cj I.fb I.aa nofun
theorem ak.mE (I:ak R h L M):L.m≠L.aE:=cj I.fb I.aj nofun
theorem ak.AE (I:ak R h L M):L.aA≠L.aE:=λq=>(JI.mp I.nd).1 (q▸ .head _)
theorem ak.xc (I:ak R h L M):L.aA∉L.ar:=λq=>(JI.mp I.nd).1 (.tail _ q)
theorem ak.rp (I:ak R h L M):L.aE∉L.ar:=(JI.mp (JI.mp I.nd).2).1
theorem ak.nr (I:ak R h L M):L.ar.Nodup:=(JI.mp (JI.mp I.nd).2).2
def ak.row (I:ak R h L M) (hk:k<M.aa.length): ∃r,L.ar[k]?=Qa r/\qP R h r M.aa[k]:=by
 exact⟨_,Jn (by rw[I.len];exact hk:k<L.ar.length),I.ar k _ _ (Jn (by rw[I.len];exact hk:k<L.ar.length)) (Jn hk)⟩
def ak.tc (I:ak R h L M) {r:Nat} (hr:r∈L.ar):r<h.length:=by
 obtain⟨k,hk,rfl⟩:=Yu.mp hr;refine xEA (I.row (k:=k) (by rw[<-I.len];exact hk)) λr h1 fK=>?_;refine xEA fK λas h2 _=>?_;rw[Jn hk] at h1;refine soB h1 ?_;exact kD h2
theorem ak.lm (I:ak R h L M):L.m∉L.ar:=λq=>by
 obtain⟨k,hk,e⟩:=Yu.mp q;refine xEA (I.row (k:=k) (by rw[<-I.len];exact hk)) λr h1 zg10=>?_;refine xEA zg10 λas h2 _=>?_;rw[Jn hk,e] at h1;obtain rfl:=Qa.inj h1;exact cj I.fb h2 nofun rfl
def O2 (hd:1<=d) (I:ak R h L M) (hn:M.aa.length+n<=20000) (q:Q .none h):WF P0 d 167 [.ref L.m,.int n] h Q:=by
 exact kN (K:=0) hd (Qa (.ref L.m)::Qa (.int n)::nn 6) nJ rfl λd' h'=>kC (.v (nD I)<| .p (F1 I d')<| .c2<| .f (decide_eq_false (p:=(20000:Int)<M.aa.length+n) (by lia))<| .z (q)) rfl
theorem zcZ (z:Cx) {a:Nat}{us:List ab} (v:ab) (h0a:h0[a]?=Qa (.list us)) (ha:h[a]?=Qa (.list vs)) (hl:vs.length<1000000):kP z (.ref a) ek [v] h0 h=Qa (.none,h.set a (.list (vs++ [v]))):=W.eq (Ut h0a ha hl (ck _ _))
theorem S9 (hd:1<=d) (I:ak R h L M) (hn:M.aa.length+n<=20000):kP (ag P0 d) (.ref L.m) 450661264077055929053037 [.int n] h h=Qa (.none,h):=me (lN I.fb rfl rfl) (O2 hd I hn (ck _ _))
def Ly.more (L:Ly) (r:Nat):Ly:= {L with ar:=L.ar++ [r]}
def Mc.more (M:Mc R.α):Mc R.α:= {M with aa:=M.aa++ [[]],aj:=M.aj++ [R.zero]}
def D5 (h:MH) (L:Ly):MH:=(h++ [ae.list []]).set L.aA (ae.list (L.ar.map ab.ref++ [ab.ref h.length]))
def wJ (R:Rg) (h:MH) (L:Ly) (M:Mc R.α):MH:=(D5 h L).set L.aE (ae.list (M.aj.map R.e++ [R.e R.zero]))
section
variable {a:Nat}{o:ae}
theorem tT (e:(h++ [ae.list []])[a]?=Qa o) (h1:a≠L.aA):(D5 h L)[a]?=Qa o:=j4 (Ka h1) e
theorem tS (e:(h++ [ae.list []])[a]?=Qa o) (h1:a≠L.aA) (h2:a≠L.aE):(wJ R h L M)[a]?=Qa o:=j4 (Ka h2) (tT e h1)
theorem PR (I:ak R h L M) {r:Nat}{xs:List (Ar R.α)} (hm:r∈L.ar) (hr:qP R h r xs):qP R (wJ R h L M) r xs:=hr.mono λa o e ho=>tS (jS e) (ho.elim (λ⟨_,q⟩=>cj e I.aa (q▸nofun)) λq p=>I.xc (p▸q▸hm)) (ho.elim (λ⟨_,q⟩=>cj e I.aj (q▸nofun)) λq p=>I.rp (p▸q▸hm))
end
def yC {l:List α}{x:α}:(l++ [x]).length=l.length+1:=by rw[Jz,qan]
def EO {l:List α}{m:List β}{x z:α}{y w:β} (hl:l.length=m.length) (h1:(l++ [x])[k]?=Qa z) (h2:(m++ [y])[k]?=Qa w):(l[k]?=Qa z/\m[k]?=Qa w)\/(z=x/\w=y):=by
 by_cases hk:k<l.length
 ·rw[Kg hk] at h1
  rw[Kg (hl▸hk)] at h2;exact .inl ⟨h1,h2⟩
 ·have e:k=l.length:=Zt (JN (Js (jY h1) (Jx yC))) (ZU.mp hk)
  subst e;rw[Kb (Jv _),YS] at h1;rw[hl,Kb (Jv _),YS] at h2;exact .inr ⟨(Qa.inj h1).symm,(Qa.inj h2).symm⟩
def I7 (I:ak R h L M) (k r:Nat) (xs:List (Ar R.α)) (hr:(L.ar++ [h.length])[k]?=Qa r) (hx:(M.aa++ [[]])[k]?=Qa xs):qP R (wJ R h L M) r xs:=by
 rcases EO I.len hr hx with ⟨h1,h2⟩| ⟨rfl,rfl⟩
 ·exact PR I (Jq h1) (I.ar k r xs h1 h2)
 ·exact⟨[],tS ap (Kd (kD I.aa)) (Kd (kD I.aj)),rfl,λj a x ha=>af ha⟩
def PP (I:ak R h L M):(L.aA::L.aE::(L.ar++ [h.length])).Nodup:=by
 rw[<-Yb,<-Yb];refine Kq.mpr ⟨I.nd,JI.mpr ⟨JB,.nil⟩,λa ha b hb e=>?_⟩;rw[JE.mp hb] at e;subst e;rcases JM.mp ha with e|ha
 ·exact absurd (e▸kD I.aa) (Zb _)
 ·rcases JM.mp ha with e|ha
  ·exact absurd (e▸kD I.aj) (Zb _)
  ·exact absurd (I.tc ha) (Zb _)
def PU (I:ak R h L M):om (wJ R h L M) (L.ar++ [h.length]) L.m:=by
 refine xEAA (I.ds.to (h':=wJ R h L M) λr hr o e=>tS (jS e) (λq=>I.xc (q▸hr)) λq=>I.rp (q▸hr)) λads n b q=>?_;refine⟨ads++ [[]],by rw[qaE,Zm];exact n,by rw[qaE,Zm];exact b,?_⟩;simp only[JU,JU,q,Xt,tS ap (Kd (kD I.aa)) (Kd (kD I.aj))];rfl
theorem ak.more (I:ak R h L M) (hl:M.aa.length<10000):ak R (wJ R h L M) (L.more h.length) M.more where
 fb:=tS (jS I.fb) I.mA I.mE
 aa:=(j4 (Ka I.AE) (kO (jS I.aa))).trans (by rw[<-Xt,<-JU];rfl)
 aj:=(kO (tT (jS I.aj) (Ka I.AE))).trans (by rw[<-Xt,<-JU];rfl)
 len:=yC.trans ((congrArg (· +1) I.len).trans yC.symm)
 di:=yC.trans ((congrArg (· +1) I.di).trans yC.symm)
 ar:=I7 I
 nd:=PP I
 bb:=(yC▸hl)
 ct:=(show ((M.aa++ [[]]).map Z3).sum=M.ax by rw[JU,Xj];exact I.ct)
 cl:=I.cl
 ds:=PU I
theorem FO:l9 h (wJ R h L M) [L.aA,L.aE]:=⟨by unfold wJ D5;rw[J0,J0,yC];exact ZA _,λa o ha e=>tS (jS e) (λq=>ha (q▸ .head _)) λq=>ha (q▸ .tail _ (.head _))⟩
def LD (hd:2<=d) (I:ak R h L M) (hl:M.aa.length<10000) (q: ∀h',ak R h' (L.more h.length) M.more->l9 h h' [L.aA,L.aE]->Q (.int M.aa.length) h'):WF P0 d 168 [.ref L.m] h Q:=by
 refine kN (K:=1) hd (Qa (.ref L.m)::nn 6) qK rfl λd' h'=>?_;have e4:((M.more.aa.length:Nat):Int) -1=M.aa.length:=by
  rw[show M.more.aa.length=M.aa.length+1 from yC,qa6];exact Int.add_sub_cancel ..
 exact kC (.p (S9 (n:=1) h' I (Jl (Zn (JK hl)) (by decide)))<| .v (nD I)<| .at (h++ [ae.list []])<| .p (zcZ (ag P0 d') (.ref h.length) I.aa (jS (t:=[ae.list []]) I.aa) (by rw[Jp,I.len];exact Zx hl (by decide)))<| .v ((ga (tT (jS I.fb) I.mA:(D5 h L)[L.m]?=Qa (mO R L M)) rfl rfl:getAttr P0 (D5 h L) (.ref L.m) lU=Qa (.ref L.aE)))<| .v ((ga (tT (jS I.fb) I.mA:(D5 h L)[L.m]?=Qa (mO R L M)) rfl rfl:getAttr P0 (D5 h L) (.ref L.m) nL=Qa (.ai (112+R.i))))<| .w (R.no)<| .p (zcZ (ag P0 d') (R.e R.zero) (tT (h:=h) (jS I.aj) (Ka I.AE)) (tT (h:=h) (jS I.aj) (Ka I.AE)) (by rw[Jp,I.di];exact Zx hl (by decide)))<| .v (nD (I.more hl))<| .p (F1 (I.more hl) d')<| .c<| .z ((show Q (.int ((M.more.aa.length:Int) -1)) (wJ R h L M) by rw[e4];exact q _ (I.more hl) FO))) (by kernel_rfl)
end
section
variable {h0:MH}
theorem zS {a:Nat} (ha:h[a]?=Qa o) (hf:P0.cz k n=Qe) (hl:fs.length<400) (e:W6 fs n v=fs'):setAttr P0 (h.set a (.inst k fs)) (.ref a) n v=Qa (h.set a (.inst k fs')):=(DG (kO ha) hf hl).trans (by rw[qaV,e])
def NA {a:Nat}{up lo:List Nat}{w:R.α}{t:Nat} (hd:1<=d) (ha:h[a]?=Qa (.inst 118 [])) (q:Q .none (h.set a (mC R ⟨up,lo,w,t⟩))):WF P0 d 166 [.ref a,.str up,.str lo,R.e w,.int t] h Q:=by
 exact kN (K:=0) hd (Qa (.ref a)::Qa (.str up)::Qa (.str lo)::Qa (R.e w)::Qa (.int t)::nn 6) y5 rfl λd' h'=>kC (.h ((DG ha rfl (by decide):setAttr P0 h (.ref a) m8 (.str up)=Qa (h.set a (.inst 118 [(m8,.str up)]))))<| .h ((zS (k:=118) (n:=oT) (fs:=[(m8,.str up)]) (v:=.str lo) ha rfl (by decide:1<400) rfl))<| .h ((zS (k:=118) (n:=wR) (fs:=[(m8,.str up),(oT,.str lo)]) (v:=R.e w) ha rfl (by decide:2<400) rfl))<| .h ((zS (k:=118) (n:=qE) (fs:=[(m8,.str up),(oT,.str lo),(wR,R.e w)]) (v:=.int t) ha rfl (by decide:3<400) rfl))<| .z ((q))) (by kernel_rfl)
theorem EP {x:Ar R.α}:mC R x≠mO R L M:=λe=>by
 injection e with e1 e2;exact absurd e1 (by decide)
def Mc.fk (M:Mc R.α) (s:Nat) (a:Ar R.α):Mc R.α:= {M with aa:=M.aa.set s (M.aa[s]?.getD []++ [a]),ax:=M.ax+1}
def Di (R:Rg) (h:MH) (L:Ly) (M:Mc R.α):MH:=h.set L.m (mO R L {M with ax:=M.ax+1})
def Uo (R:Rg) (h:MH) (L:Ly) (M:Mc R.α) (a:Ar R.α) (r:Nat) (as:List Nat):MH:=(Di R h L M++ [mC R a]).set r (.list (as.map ab.ref++ [ab.ref h.length]))
theorem zcl:(Di R h L M).length=h.length:=J0 ..
section
variable {a:Ar R.α}{s r b:Nat}{as:List Nat}{o:ae}
theorem xQ (e:h[b]?=Qa o) (h1:b≠L.m):(Di R h L M)[b]?=Qa o:=j4 (Ka h1) e
theorem uA (e:h[b]?=Qa o) (h1:b≠L.m) (h2:b≠r):(Uo R h L M a r as)[b]?=Qa o:=j4 (Ka h2) (jS (xQ e h1))
theorem Ny (hr:r<h.length):(Uo R h L M a r as)[h.length]?=Qa (mC R a):=j4 (Z8 hr) ((congrArg (λn=>(Di R h L M++ [mC R a])[n]?) zcl.symm).trans ap)
theorem Nx (hr:r∈L.ar):l9 h (Uo R h L M a r as) (fg L):=⟨by unfold Uo;rw[J0,yC,zcl];exact ZA _,λb o hb e=>uA e (λq=>hb (q▸ .head _)) λq=>hb (q▸ .tail _ (.tail _ (.tail _ hr)))⟩
structure Dk (R:Rg) (h:MH) (L:Ly) (M:Mc R.α) (s r:Nat) (as:List Nat) (xs:List (Ar R.α)):Prop where
 i:L.ar[s]?=Qa r
 x:M.aa[s]?=Qa xs
 a:h[r]?=Qa (.list (as.map ab.ref))
 l:as.length=xs.length
 o: ∀ (j b:Nat) (x:Ar R.α),as[j]?=Qa b->xs[j]?=Qa x->h[b]?=Qa (mC R x)
def Nu {xs:List (Ar R.α)} (I:ak R h L M) (W:Dk R h L M s r as xs):qP R (Uo R h L M a r as) r (xs++ [a]):=by
 have hm:=Jq W.i;refine⟨as++ [h.length],?_,yC.trans ((congrArg (· +1) W.l).trans yC.symm),λj b x hb hx=>?_⟩
 ·rw[JU];exact kO (jS (xQ W.a λq=>I.lm (q▸hm)))
 ·rcases EO W.l hb hx with ⟨h1,h2⟩| ⟨rfl,rfl⟩
  ·exact uA (W.o j b x h1 h2) (cj (W.o j b x h1 h2) I.fb EP) (cj (W.o j b x h1 h2) W.a nofun)
  ·exact Ny (I.tc hm)
def Bs {xs:List (Ar R.α)}{ys:List (Ar R.α)} (I:ak R h L M) (W:Dk R h L M s r as xs) (hk:s≠k) (hr:L.ar[k]?=Qa r') (hy:M.aa[k]?=Qa ys):qP R (Uo R h L M a r as) r' ys:=by
 have hn:r'≠r:=λq=>by
  subst q;obtain⟨l1,e1⟩:=Ju.mp W.i;obtain⟨l2,e2⟩:=Ju.mp hr;exact hk (Yw I.nr|>.mp (e1.trans e2.symm))
 exact(I.ar k r' ys hr hy).mono λb o e ho=>uA e (ho.elim (λ⟨_,q⟩=>cj e I.fb (q▸EP)) λq p=>I.lm (p▸q▸(Jq hr))) (ho.elim (λ⟨_,q⟩=>cj e W.a (q▸nofun)) λq=>q▸hn)
def sL {l:List Nat}{r:Nat} (h:l[k]?=Qa r):(l.map ab.ref)[k]?=Qa (.ref r):=by rw[JA,h];rfl
theorem ak.zd (I:ak R h L M) {as:List Nat}{r:Nat} (hr:L.ar[k]?=Qa r) (ha:h[r]?=Qa (.list (as.map ab.ref))): ∀b∈as,b<h.length:=λb hb=>by
 have hk:k<M.aa.length:=I.len▸jY hr;refine Zv (I.ar k r _ hr (Jn hk)) λas' zq15=>?_;have h1:=zq15.1;refine(Xc hb).elim λj zq14=>?_;rw[ha] at h1;have e1:(as'.map ab.ref)[j]?=Qa (.ref b):=(ze0 h1:as.map ab.ref=as'.map ab.ref)▸sL zq14;rw[JA] at e1;refine(Zl.mp e1).elim λb' zq13=>?_;have e3:=zq13.2;cases e3;exact kD (zq15.2.2 j _ _ zq13.1 (Jn (zq15.2.1▸jY zq13.1:j<M.aa[k].length)))
def zbP {l:List (List Nat)}{s:Nat}{as:List Nat} (n:l.flatten.Nodup) (hs:l[s]?=Qa as) (hx: ∀bs∈l,x∉bs):(l.set s (as++ [x])).flatten.Nodup:=by
 refine(Ju.mp hs).elim λh zq12=>?_;refine eqE zq12 ?_;have e:=KG s l;rw[Kl h] at e;have hf:x∉l.flatten:=λq=>let ⟨bs,h1,h2⟩:=Yx.mp q;hx bs h1 h2;rw[List.set_eq_take_append_cons_drop,if_pos h,Yy,K3];rw[(by conv=>lhs;rw[<-e,Yy,K3]:l.flatten=(l.take s).flatten++(l[s]++(l.drop (s+1)).flatten))] at n hf;rw[JD,List.singleton_append,<-JD];refine YV.nodup_iff.mpr (JI.mpr ⟨?_,?_⟩)
 ·rw[JD];exact hf
 ·rw[JD];exact n
def zcY {xs:List (Ar R.α)} (I:ak R h L M) (W:Dk R h L M s r as xs):om (Uo R h L M a r as) L.ar L.m:=by
 refine Zv I.ds λads zq11=>?_;have b:=zq11.2.1;have q:=zq11.2.2;have g2: ∀ (k:Nat),(L.ar.map λr=>h[r]?)[k]?=ads[k]?.map λas=>Qa (.list (as.map .ref)):=λk=>by rw[q];exact JA ..
 have hs:ads[s]?=Qa as:=by
  have e:=((λk=>JA ..) s).symm.trans (g2 s);rw[W.i,Xk,W.a] at e;exact(Zl.mp e.symm).elim λas' zq10=>zq10.1.trans (congrArg Qa (Pj zq10.2))
 refine⟨ads.set s (as++ [h.length]),zbP zq11.1 hs λbs hb hx=>?_,λx hx=>?_,?_⟩
 ·refine(Xc hb).elim λk zq9=>?_
  have e:=((λk=>JA ..) k).symm.trans (g2 k);rw[zq9] at e;exact(Zl.mp e).elim λr' zq8=>Zb _ (I.zd zq8.1 zq8.2 _ hx)
 ·obtain⟨bs,hb,hx⟩:=Yx.mp hx
  rcases Km hb with hb|rfl
  ·exact b x (Yx.mpr ⟨bs,hb,hx⟩)
  ·rcases Zd.mp hx with hx|hx
   ·exact b x (Yx.mpr ⟨as,Jq hs,hx⟩)
   ·rw[JE.mp hx];exact kD I.fb
 ·refine Ys λk=>?_
  simp only[JA,JA];by_cases e:s=k
  ·subst e
   simp only[W.i,JV (jY hs),Xk,Xk,JU];exact congrArg Qa (kO (jS (xQ W.a λq=>I.lm (q▸(Jq W.i)))))
  ·rw[JZ e,<-g2 k,(λk=>JA ..) k]
   cases hr:L.ar[k]? with
   |none=>rfl
   |some r'=>
    obtain⟨o,ho⟩: ∃o,h[r']?=Qa o:=⟨_,Jn (I.tc (Jq hr))⟩;have hn:r'≠r:=λq=>by
     subst q;obtain⟨l1,e1⟩:=Ju.mp W.i;obtain⟨l2,e2⟩:=Ju.mp hr;exact e (Yw I.nr|>.mp (e1.trans e2.symm))
    show Qa (Uo R h L M a r as)[r']?=Qa h[r']?;rw[ho,uA ho (λq=>I.lm (q▸(Jq hr))) hn]
def ak.fk {xs:List (Ar R.α)} (I:ak R h L M) (W:Dk R h L M s r as xs) (hc:M.ax<100000):ak R (Uo R h L M a r as) L (M.fk s a):=by
 have hm:=Jq W.i;refine⟨j4 (λq=>I.lm (q▸hm)) (jS (kO I.fb)),uA I.aa (Ka I.mA) λq=>I.xc (q▸hm),uA I.aj (Ka I.mE) λq=>I.rp (q▸hm),I.len.trans (J0 ..).symm,I.di.trans (J0 ..).symm,λk r' ys hr hy=>?_,I.nd,Jl (Jx (J0 ..)) I.bb,?_,hc,zcY I W⟩
 ·have hy:(M.aa.set s (M.aa[s]?.getD []++ [a]))[k]?=Qa ys:=hy
  rw[(by rw[W.x];rfl:M.aa[s]?.getD []=xs)] at hy;by_cases hk:s=k
  ·subst hk
   rw[JV (jY W.x)] at hy;refine lW hy ?_;cases W.i.symm.trans hr;exact Nu I W
  ·rw[JZ hk] at hy
   exact Bs I W hk hr hy
 ·show ((M.aa.set s (M.aa[s]?.getD []++ [a])).map Z3).sum=M.ax+1
  rw[(by rw[W.x];rfl:M.aa[s]?.getD []=xs),<-(Ju.mp W.x).2];exact(Eo (jY W.x)).trans (congrArg (· +1) I.ct)
def ak.bK (I:ak R h L M) (hs:s<M.aa.length): ∃r as,Dk R h L M s r as M.aa[s]:=by
 exact(I.row hs).elim λr zq3=>Zv zq3.2 λas zq4=>⟨r,as,zq3.1,Jn hs,zq4.1,zq4.2.1,zq4.2.2⟩
end
theorem zfd (I:ak R h L M):getAttr P0 h (.ref L.m) wU=Qa (.int M.ax):=ga I.fb rfl rfl
theorem ML (hd:2<=d) (I:ak R h L M) (hk:k<M.aa.length):kP (ag P0 d) (.ref L.m) 521330740336550618428517 [.int k] h h=Qa (.int k,h):=me (lN I.fb rfl rfl) (zbL hd I hk (ck (.int k) h))
theorem Pm (a:Ar R.α) (hd:1<=d):jZ (ag P0 d) (.ai 118) [.str a.up,.str a.lo,R.e a.w,.int a.t] h=Qa (.ref h.length,h++ [mC R a]):=W.eq (BF (i:=166) rfl rfl (NA (up:=a.up) (lo:=a.lo) (w:=a.w) (t:=a.t) hd ap ⟨rfl,rfl,wF⟩))
def ziy {a:Ar R.α} (hd:4<=d) (I:ak R h L M) (hs:s<M.aa.length) (ht:a.t<M.aa.length) (lu:dh a.up) (ll:dh a.lo) (hw:R.D p k a.w) (hl:4*p+k<=3800) (hc:M.ax<100000) {r:Nat} (W:Dk R h L M s r as M.aa[s])
  (q0:a.w=R.zero->Q .none h) (q1:a.w≠R.zero->Q .none (Uo R h L M a r as)):WF P0 d 171 [.ref L.m,.int s,.str a.up,.str a.lo,R.e a.w,.int a.t] h Q:=by
 refine kN (K:=3) hd (Qa (.ref L.m)::Qa (.int s)::Qa (.str a.up)::Qa (.str a.lo)::Qa (R.e a.w)::Qa (.int a.t)::nn 6) tE rfl λd' h'=>?_;have r1:=xQ (R:=R) (M:=M) W.a λq=>I.lm (q▸Jq W.i);have e4:=Pm (h:=Di R h L M) (d:=d') a (Jl (by decide) h');rw[zcl] at e4;exact kC (.p (ML (Jl (by decide) h':2<=d') I hs)<| .p (ML (Jl (by decide) h':2<=d') I ht)<| .p (fn (as:=[.str a.up]) rfl (Ei h' lu (ck (.str a.up) h)))<| .p (fn (as:=[.str a.lo]) rfl (Ei h' ll (ck (.str a.lo) h)))<| .v (l8 I)<| .q (R.nd h' hw hl)<| .v (l8 I)<| .w (R.no)<| .k (R.qe a.w R.zero)<| .br (@decide (a.w=R.zero) (R.ft a.w R.zero)) (λhz=> .z (q0 (dT hz))) (λhz=> .v (zfd I)<| .c<| .f (decide_eq_false (p:=(200000:Int)<=M.ax) (qaN.mpr (ZR.mpr (Zx hc (by decide)))))<| .v (zfd I)<| .c<| .h ((DG I.fb rfl (by decide:6<400):setAttr P0 h (.ref L.m) wU (.int ((M.ax:Int)+1))=Qa (Di R h L M)))<| .v ((ga (kO I.fb) rfl rfl:getAttr P0 (Di R h L M) (.ref L.m) kI=Qa (.ref L.aA)))<| .v ((sl (xQ I.aa (Ka I.mA)) (sL W.i):lG (Di R h L M) (.ref L.aA) (.int s)=Qa (.ref r)))<| .p (e4)<| .p ((zcZ (ag P0 d') (.ref h.length) r1 (jS (t:=[mC R a]) r1) (by rw[Jp,W.l];exact Jt (I.cr _ (Zo hs)) (Zx hc (by decide)))))<| .z ((q1 (dF hz))))) (by kernel_rfl)
def Nv {a:Ar R.α} (hd:4<=d) (I:ak R h L M) (hs:s<M.aa.length) (ht:a.t<M.aa.length) (lu:dh a.up) (ll:dh a.lo) (hw:R.D p k a.w) (hl:4*p+k<=3800) (hc:M.ax<100000)
  (q: ∀h' M',ak R h' L M'->l9 h h' (fg L) ->(a.w=R.zero->M'=M) ->(a.w≠R.zero->M'=M.fk s a) ->Q .none h'):WF P0 d 171 [.ref L.m,.int s,.str a.up,.str a.lo,R.e a.w,.int a.t] h Q:=by
 exact(I.bK hs).elim λr zq1=>zq1.elim λas zq2=>ziy hd I hs ht lu ll hw hl hc zq2 (λe=>q h M I .refl (λ_=>rfl) λhn=>absurd e hn) λe=>q _ _ (I.fk zq2 hc) (Nx (Jq zq2.i)) (λh=>absurd h e) λ_=>rfl
end
section
variable {h0:MH}
def ak.vk {M':Mc R.α} (I:ak R h L M) (e1:M'.aa=M.aa) (e2:M'.aj=M.aj) (e3:M'.ax=M.ax):ak R (h.set L.m (mO R L M')) L M':=by
 refine⟨kO I.fb,j4 I.mA I.aa,j4 I.mE (e2▸I.aj),e1▸I.len,by rw[e1,e2];exact I.di,λk r xs hr hx=>?_,I.nd,e1▸I.bb,by rw[e1,e3];exact I.ct,e3▸I.cl,I.ds.to λr hr _ e=>j4 (λq=>I.lm (q▸hr)) e⟩;rw[e1] at hx;refine(I.ar k r xs hr hx).mono λa o e ho=>j4 ?_ e;rcases ho with ⟨x,rfl⟩|rfl
 ·exact Ka (cj e I.fb EP)
 ·exact λq=>I.lm (q▸Jq hr)
theorem SD:L.m∈fg L:= .head _
theorem zeh:L.aE∈fg L:= .tail _ (.tail _ (.head _))
theorem C6 {a:Nat} (ha:a∈fg L):l9 h (h.set a o) (fg L):=l9.set.sub λb hb=>by rw[JE.mp hb];exact ha
def Da {w:R.α} (hd:4<=d) (I:ak R h L M) (hs:s<M.aa.length) (hw:R.D p k w) (hl:4*p+k<=3800) (q: ∀h',ak R h' L {M with start:=s,first:=w} ->l9 h h' (fg L) ->Q .none h'):WF P0 d 172 [.ref L.m,.int s,R.e w] h Q:=by
 refine kN (K:=3) hd (Qa (.ref L.m)::Qa (.int s)::Qa (R.e w)::nn 6) qL rfl λd' h'=>?_;have e1:setAttr P0 h (.ref L.m) tY (R.e w)=Qa (h.set L.m (mO R L {M with first:=w})):=DG I.fb rfl (by decide:6<400);have e2:setAttr P0 (h.set L.m (mO R L {M with first:=w})) (.ref L.m) rB (.int s)=Qa ((h.set L.m (mO R L {M with first:=w})).set L.m (mO R L {M with start:=s,first:=w})):=DG (I.vk (M':= {M with first:=w}) rfl rfl rfl).fb rfl (by decide:6<400);exact kC (.p (ML (Jl (by decide) h') I hs)<| .b (R.we w)<| .c<| .v (l8 I)<| .q (R.nd h' hw hl)<| .h (e1)<| .h (e2)<| .z ((q _ ((I.vk (M':= {M with first:=w}) rfl rfl rfl).vk (M':= {M with start:=s,first:=w}) rfl rfl rfl) ((C6 SD).trans (C6 SD))))) (by kernel_rfl)
def ak.sk {w:R.α} (I:ak R h L M):ak R (h.set L.aE (.list ((M.aj.set s w).map R.e))) L {M with aj:=M.aj.set s w}:=by
 refine⟨j4 (Ka I.mE) I.fb,j4 (Ka I.AE) I.aa,kO I.aj,I.len,(J0 ..).trans I.di,λk r xs hr hx=>?_,I.nd,I.bb,I.ct,I.cl,I.ds.to λr hr _ e=>j4 (λq=>I.rp (q▸hr)) e⟩;refine(I.ar k r xs hr hx).mono λa o e ho=>j4 ?_ e;rcases ho with ⟨x,rfl⟩|rfl
 ·exact Ka (cj e I.aj nofun)
 ·exact λq=>I.rp (q▸Jq hr)
theorem map_set' {f:α->β}{l:List α}{x:α}:(l.map f).set i (f x)=(l.set i x).map f:=(List.map_set ..).symm
theorem zT (w:R.α) (I:ak R h L M) (hs:s<M.aa.length): ∃g,m7 h (.ref L.aE) (.int s) (R.e w)=Qa g/\ak R g L {M with aj:=M.aj.set s w} /\l9 h g (fg L):=
 ⟨_,(zbe I.aj (by rw[Jp,I.di];exact hs)).trans (by rw[map_set']),I.sk,C6 zeh⟩
def zcy {w:R.α} (hd:4<=d) (I:ak R h L M) (hs:s<M.aa.length) (hw:R.D p k w) (hl:4*p+k<=3800) (q: ∀h',ak R h' L {M with aj:=M.aj.set s w} ->l9 h h' (fg L) ->Q .none h'):WF P0 d 173 [.ref L.m,.int s,R.e w] h Q:=by
 exact(zT w I hs).elim λg zq2=>kN (K:=3) hd (Qa (.ref L.m)::Qa (.int s)::Qa (R.e w)::nn 6) pJ rfl λd' h'=>kC (.p (ML (Jl (by decide) h') I hs)<| .b (R.we w)<| .c<| .v (l8 I)<| .q (R.nd h' hw hl)<| .v (sU I)<| .h (zq2.1)<| .z ((q g zq2.2.1 zq2.2.2))) (by kernel_rfl)
def RC (hd:4<=d) (I:ak R h L M) (hs:s<M.aa.length) (q: ∀h',ak R h' L {M with aj:=M.aj.set s R.da} ->l9 h h' (fg L) ->Q .none h'):WF P0 d 173 [.ref L.m,.int s] h Q:=by
 exact(zT R.da I hs).elim λg zq1=>kN (K:=3) hd (Qa (.ref L.m)::Qa (.int s)::Qa (.ai 120)::nn 6) pJ rfl λd' h'=>kC (.p (ML (Jl (by decide) h') I hs)<| .c2<| .v (l8 I)<| .w (R.on)<| .v (sU I)<| .h (zq1.1)<| .z ((q g zq1.2.1 zq1.2.2))) (by kernel_rfl)
def M0:Mc R.α:=⟨[],[],0,R.da,0⟩
theorem Wq {t:MH} (hf:P0.cz k n=Qe) (hl:fs.length<400) (e:W6 fs n v=fs'):setAttr P0 (h++ .inst k fs::t) (.ref h.length) n v=Qa (h++ .inst k fs'::t):=(DG ap hf hl).trans (by rw[wF,e])
def AW {t:MH} (hj:t.length+1=j) (hf:P0.cz k n=Qe) (hl:fs.length<400) (e:W6 fs n (.ref (h.length+j))=fs'):setAttr P0 (h++ .inst k fs::t++ [.list []]) (.ref h.length) n (.ref (h++ .inst k fs::t).length)=Qa (h++ .inst k fs'::(t++ [.list []])):=by
 simp only[JD,Jz,ZE,hj];exact Wq hf hl e
def Rn (hd:1<=d) (q:Q .none (h++ [mO R ⟨h.length,h.length+1,h.length+2,[]⟩ M0,.list [],.list []])):WF P0 d 177 [.ref h.length,.ai (112+R.i)] (h++ [.inst 121 []]) Q:=by
 exact kN (K:=0) hd (Qa (.ref h.length)::Qa (.ai (112+R.i))::nn 6) rS rfl λd' h'=>kC (.h ((Wq (h:=h) (t:=[]) (k:=121) (n:=nL) (fs:=[]) (v:=.ai (112+R.i)) rfl (by decide:0<400) rfl))<| .at (h++ [.inst 121 [(nL,.ai (112+R.i))]]++ [.list []])<| .h ((AW (h:=h) (t:=[]) (k:=121) (n:=kI) (j:=1) (fs:=[(nL,.ai (112+R.i))]) rfl rfl (by decide:1<400) rfl))<| .at (h++ [.inst 121 [(nL,.ai (112+R.i)),(kI,.ref (h.length+1))],.list []]++ [.list []])<| .h ((AW (h:=h) (t:=[.list []]) (k:=121) (n:=lU) (j:=2) (fs:=[(nL,.ai (112+R.i)),(kI,.ref (h.length+1))]) rfl rfl (by decide:2<400) rfl))<| .h ((Wq (h:=h) (t:=[.list [],.list []]) (k:=121) (n:=rB) (fs:=[(nL,.ai (112+R.i)),(kI,.ref (h.length+1)),(lU,.ref (h.length+2))]) (v:=.int 0) rfl (by decide:3<400) rfl))<| .w (R.on)<| .h ((Wq (h:=h) (t:=[.list [],.list []]) (k:=121) (n:=tY) (fs:=[(nL,.ai (112+R.i)),(kI,.ref (h.length+1)),(lU,.ref (h.length+2)),(rB,.int 0)]) (v:=R.e R.da) rfl (by decide:4<400) rfl))<| .h ((Wq (h:=h) (t:=[.list [],.list []]) (k:=121) (n:=wU) (fs:=[(nL,.ai (112+R.i)),(kI,.ref (h.length+1)),(lU,.ref (h.length+2)),(rB,.int 0),(tY,R.e R.da)]) (v:=.int 0) rfl (by decide:5<400) rfl))<| .z ((q))) rfl
theorem zbO (R:Rg) (h:MH):ak R (h++ [mO R ⟨h.length,h.length+1,h.length+2,[]⟩ M0,.list [],.list []]) ⟨h.length,h.length+1,h.length+2,[]⟩ (M0 (R:=R)):=
 ⟨ap,oJ (j:=1),oJ (j:=2),rfl,rfl,(λk r xs hr=>af hr),by show [h.length+1,h.length+2].Nodup;exact JI.mpr ⟨λq=>absurd (JE.mp q) (Z8 (JT _)),JI.mpr ⟨JB,.nil⟩⟩,Jy _,rfl,Jy _,[],.nil,λa ha=>absurd ha JB,rfl⟩
theorem Ij (R:Rg) (hd:1<=d) (h:MH): ∃t,jZ (ag P0 d) (.ai 121) [.ai (112+R.i)] h=Qa (.ref h.length,h++t)/\ak R (h++t) ⟨h.length,h.length+1,h.length+2,[]⟩ (M0 (R:=R)):=
 ⟨_,W.eq (BF (i:=177) rfl rfl (Rn hd ⟨rfl,ck _ _⟩)),zbO R h⟩
end
section
variable {h0:MH}
def Ar.fh {α:Type} (x:Ar α):Bool:=x.up== [] && x.lo== []
abbrev rD:Nat:=7598521885536580729
def zcA {a:Nat}{x:Ar R.α} (hd:1<=d) (ha:h[a]?=Qa (mC R x)) (q:Q (.bool x.fh) h):WF P0 d 165 [.ref a] h Q:=by
 refine kN (K:=0) hd (Qa (.ref a)::nn 6) rV rfl λd' h'=>?_;delta Ar.fh at q;exact kC (.v ((ga ha rfl rfl:getAttr P0 h (.ref a) m8=Qa (.str x.up)))<| .k (xo x.up [])<| .br (x.up== []) (λhb=> .v ((ga ha rfl rfl:getAttr P0 h (.ref a) oT=Qa (.str x.lo)))<| .k (xo x.lo [])<| .z ((show Q (.bool (x.lo== [])) h by rw[hb] at q;exact q))) (λhb=> .z ((show Q (.bool (x.up== [])) h by rw[hb] at q ⊢;exact q)))) rfl
theorem Mv {a:Nat}{x:Ar R.α} (hd:1<=d) (h0a:h0[a]?=Qa (mC R x)) (ha:h[a]?=Qa (mC R x)) (q:Q (.bool x.fh) h):WM (ag P0 d) (.ref a) rD [] h0 h Q:=
 kE (lN h0a rfl rfl) (zcA hd ha q)
theorem ak.uo (I:ak R h L M) {xs:List (Ar R.α)} (hx:xs∈M.aa):xs.length<200000:=Jt (I.cr _ hx) (Jt I.cl (by decide))
def pL {l:List Nat} (h:(l.map ab.ref)[k]?=Qa v): ∃r,l[k]?=Qa r/\v= .ref r:=by
 rw[JA] at h;exact(ms h).elim λr zq9=>⟨r,zq9.1,zq9.2.symm⟩
def zj (r:ab) (Fr:Internal.Frame->Prop) (A:Prop) (n:Nat) (B:Nat->Prop) (h:MH) (o:SR):Prop:= ∃f,(A/\o=Qa ((.rt r,f),h))\/(Fr f/\(∀i,i<n->B i)/\o=Qa ((.nx,f),h))
section
variable {r:ab}{Fr:Internal.Frame->Prop}{A:Prop}{n:Nat}{B:Nat->Prop}
def zj.of {o:SR} (w:W o λp g=>g=h/\((A/\p.1= .rt r)\/(Fr p.2/\(∀i,i<n->B i)/\p.1= .nx))):zj r Fr A n B h o:=by
 refine xEEAA (W.get w) λcv g e q1 q=>?_;obtain⟨fl,f⟩:=cv;refine eqE q1 ?_;exact⟨f,q.imp (λq=>⟨q.1,e.trans (by rw[show fl=_ from q.2])⟩) λq=>⟨q.1,q.2.1,e.trans (by rw[show fl=_ from q.2.2])⟩⟩
def eH {c:Cx}{a:Nat}{e:Ex}{b:List Sm}{fr:Internal.Frame} (hl:vs.length=n) (hn:n<c.cn) (hk:h[a]?=Qa (.list vs)) (e0:WE c fr e h λv g=>v= .ref a/\g=h) (f0:Fr fr)
  (step: ∀i v f R,vs[i]?=Qa v->Fr f->(∀f,A->R (.rt r) f h) ->(∀f,B i->Fr f->R .nx f h) ->cq c b (f.set x (Qa v)) h R):zj r Fr A n B h (exec c (.fo [x] Qb e b) fr h):=by
 subst hl;exact .of (N9 (R:=λfl f g=>g=h/\((A/\fl= .rt r)\/(Fr f/\(∀i,i<vs.length->B i)/\fl= .nx))) hn (λi f g=>g=h/\Fr f/\∀j,j<i->B j) (λi f g q=>q.1▸hk) (e0.mono λv g q=>⟨q.1,q.2,f0,λj hj=>absurd hj (Ze _)⟩)
  (λi v hv f g q=>by
   refine eqB q.1 ?_;have hf:=q.2.1;exact step i v f _ hv hf (λ_ h=>⟨rfl,.inl ⟨h,rfl⟩⟩) λf h hf=>⟨rfl,hf,λj hj=>(Nat.lt_succ_iff_lt_or_eq.mp hj).elim (q.2.2 j) λq=>q▸h⟩)
  λf g q=>⟨q.1,.inr ⟨q.2.1,q.2.2,rfl⟩⟩)
end
theorem Nm {l:List α}{x:α}{p:α->Prop} (h:l[i]?=Qa x) (hp:p x) (y:α) (e:l[i]?=Qa y):p y:=Qa.inj (h.symm.trans e)▸hp
theorem zal {l:List α}{p:α->Bool}{x:α} (h:x∈l) (hp:p x=Qe):l.any p=true:=K9.mpr ⟨x,h,hp⟩
theorem zam {l:List α}{p:α->Bool} (h: ∀i,i<l.length-> ∀x,l[i]?=Qa x->p x=Qb):l.any p=false:=Yq.mpr λx hx=>(Xc hx).elim λi hi=>by rw[h i (jY hi) x hi];exact Za
abbrev V2 (m:Nat) (o1 o2:Option ab):Internal.Frame:=Qa (.ref m)::o1::o2::nn 6
abbrev zct:List Sm:= [.ite (.bh (.var 2) rD []) [.ret (.lit (.bool Qe))] []]
abbrev S8:List Sm:= [.fo [2] Qb (.var 1) zct]
def zc (r:List (Ar R.α)):Bool:=r.any Ar.fh
def zim {b:Nat}{o1 o:Option ab}{x:Ar R.α}{X:Fl->Internal.Frame->MH->Prop} (hd:1<=d) (hx:h[b]?=Qa (mC R x)) (q1: ∀f,x.fh=Qe->X (.rt (.bool Qe)) f h) (q2:x.fh=Qb->X .nx (V2 m o1 (Qa (.ref b))) h):cq (ag P0 d) zct ((V2 m o1 o).set 2 (Qa (.ref b))) h X:=by
 exact kC (.p ((W.eq (Mv hd hx hx (ck _ _)):kP (ag P0 d) (.ref b) rD [] h h=Qa (.bool x.fh,h)))<| .br (x.fh) (λhe=> .z (q1 (V2 m o1 (Qa (.ref b))) he)) (λhe=> .z (q2 he))) rfl
def zin {r:Nat}{o2:Option ab}{xs:List (Ar R.α)} (hd:1<=d) (W:qP R h r xs) (hl:xs.length<200000):zj (.bool Qe) (λf=> ∃o,f=V2 m (Qa (.ref r)) o) (zc xs=Qe) xs.length (λi=> ∀x,xs[i]?=Qa x->x.fh=Qb) h (exec (ag P0 d) (.fo [2] Qb (.var 1) zct) (V2 m (Qa (.ref r)) o2) h):=by
 refine Zv W λas zq8=>?_;exact eH ((Jp ..).trans zq8.2.1) hl zq8.1 (by exact kJ (.z (ck (.ref r) h)) rfl) ⟨o2,rfl⟩ λi v f R' hv hf q1 q2=>by
  obtain⟨b,hb,rfl⟩:=pL hv;obtain⟨o,rfl⟩:=hf;have hx:=Jn (l:=xs) (i:=i) (zq8.2.1▸jY hb);exact zim hd (zq8.2.2 _ _ _ hb hx) (λf he=>q1 f (zal (Jq hx) he)) λhe=>q2 _ (Nm hx he) ⟨_,rfl⟩
def ze6 {r:Nat}{o1 o2:Option ab}{xs:List (Ar R.α)}{X:Fl->Internal.Frame->MH->Prop} (hd:1<=d) (W:qP R h r xs) (hl:xs.length<200000) (q1: ∀f,zc xs=Qe->X (.rt (.bool Qe)) f h) (q2: ∀o,zc xs=Qb->X .nx (V2 m (Qa (.ref r)) o) h):cq (ag P0 d) S8 ((V2 m o1 o2).set 1 (Qa (.ref r))) h X:=by
 refine Zv (zin (m:=m) (o2:=o2) hd W hl) λf zq5=>?_;obtain⟨ha,e⟩| ⟨⟨o,hf⟩,ha,e⟩:=zq5
 ·exact kC (.s (e)<| .z (q1 f ha)) rfl
 ·rw[hf] at e
  exact kC (.s (e)<| .z (q2 o (zam ha))) rfl
def zio (hd:1<=d) (I:ak R h L M):zj (.bool Qe) (λf=> ∃o o2,f=V2 L.m o o2) (M.aa.any zc=Qe) M.aa.length (λi=> ∀x,M.aa[i]?=Qa x->zc x=Qb) h (exec (ag P0 d) (.fo [1] Qb (.aq (.var 0) kI) S8) (V2 L.m Qd Qd) h):=by
 exact eH ((Jp ..).trans I.len) (Jt I.bb (show 10000<200000 by decide)) I.aa (by exact kJ (.v (nD I)<| .z (ck (.ref L.aA) h)) rfl) ⟨Qd,Qd,rfl⟩ λi v f R' hv hf q1 q2=>by
  obtain⟨r,hr,rfl⟩:=pL hv;obtain⟨o,o2,rfl⟩:=hf;have hx:=Jn (l:=M.aa) (i:=i) (I.len▸jY hr);exact ze6 hd (I.ar i r _ hr hx) (I.uo (Jq hx)) (λf ha=>q1 f (zal (Jq hx) ha)) λo ha=>q2 _ (Nm hx ha) ⟨_,_,rfl⟩
def Rp (hd:2<=d) (I:ak R h L M) (q:Q (.bool (M.aa.any λr=>r.any Ar.fh)) h):WF P0 d 175 [.ref L.m] h Q:=by
 refine kN (K:=1) hd (V2 L.m Qd Qd) oF rfl λd' h'=>?_;refine Zv (zio h' I) λf zq1=>?_;obtain⟨ha,e⟩| ⟨⟨o,o2,hf⟩,ha,e⟩:=zq1
 ·exact kC (.s (e)<| .z ((show Q (.bool Qe) h by rw[<-ha];exact q))) rfl
 ·rw[hf] at e
  exact kC (.s (e)<| .z ((show Q (.bool Qb) h by rw[<-zam ha];exact q))) rfl
end
section
variable {h0:MH}
def tM (h:MH) (b:Nat) (bc:List (List Nat)):Prop:= ∃rs:List Nat,h[b]?=Qa (.list (rs.map .ref))/\rs.length=bc.length/\∀ (k r:Nat) (xs:List Nat),rs[k]?=Qa r->bc[k]?=Qa xs->h[r]?=Qa (.list (dw xs))
def tW {l m:List α} (hl:l.length=m.length) (h: ∀ (i:Nat) (y:α),l[i]?=Qa y->m[i]?=Qa y):l=m:=by
 refine Ys λi=>?_;by_cases hi:i<l.length
 ·rw[Jn hi];exact(h i _ (Jn hi)).symm
 ·rw[ZH (ZU.mp hi),ZH (Jl (Jx (K7 hl)) (J7 hi))]
def zY {l:List Nat} (h:(dw l)[i]?=Qa v): ∃x,l[i]?=Qa x/\v= .int x:=by
 delta dw at h;rw[JA] at h;exact(ms h).elim λx zq5=>⟨x,zq5.1,zq5.2.symm⟩
theorem m9 {l:List Nat}:(dw l).length=l.length:=Jp ..
theorem oR (h:n<200000):n<=bb:=JK (Zx h (by decide))
def Wh {fr:Internal.Frame}{a:Nat} (G:Nat->ae) (hf:vs.length<cx.cn) (hl:vs.length<=bb)
  (q:WE cx fr it h λv h1=>v= .ref a/\h1[a]?=Qa (.list vs)/\(∀i v t,vs[i]?=Qa v->WE cx (fr.set x (Qa v)) eh (h1++t) λy h3=>y= .ref (h1++t).length/\h3=(h1++t)++ [G i])/\
   Q (.ref h1.length) (h1++ .list ((J4 (h1.length+1) vs.length).map .ref)::(Zg vs.length).map G)):WE cx fr (.comp eh [x] Qb it []) h Q:=by
 refine Wi (a:=a) (vs:=vs) (λh1 ys t=>ys=(J4 (h1.length+1) ys.length).map ab.ref/\t=(Zg ys.length).map G) hf hl (W.mono q λv h1 q=>?_);obtain⟨rfl,h1a,st,q⟩:=q;refine⟨rfl,h1a,⟨rfl,rfl⟩,λys t v J hv=>W.mono (st ys.length v (.list ys::t) hv) λy h3 q=>?_,λys t hy J=>?_⟩
 ·obtain⟨rfl,rfl⟩:=q
  refine⟨[G ys.length],JD ..,?_,?_⟩
  ·rw[(λy=>by rw[Jz];rfl: ∀y:ab,(ys++ [y]).length=ys.length+1),qaQ,JU,<-J.1]
   congr 2
   simp only[Jz,ZE,J.2,Jp,Zi]
   congr 1;lia
  ·rw[(λy=>by rw[Jz];rfl: ∀y:ab,(ys++ [y]).length=ys.length+1),qak,JU,<-J.2];rfl
 ·obtain⟨J1,J2⟩:=J
  rw[hy] at J1 J2;rw[J1,J2];exact q
def az (M:Mc R.α) (k:Nat):List (Ar R.α):=M.aa[k]?.getD []
def BM {fr:Internal.Frame}{a:Nat} (F:Nat->ab) (hf:vs.length<cx.cn) (hl:vs.length<=bb)
  (q:WE cx fr it h λv h1=>v= .ref a/\h1[a]?=Qa (.list vs)/\(∀i v t,vs[i]?=Qa v->WE cx (fr.set x (Qa v)) eh (h1++t) λy h3=>y=F i/\h3=h1++t)/\Q (.ref h1.length) (h1++ [.list ((Zg vs.length).map F)])):WE cx fr (.comp eh [x] Qb it []) h Q:=by
 refine Wi (a:=a) (vs:=vs) (λh1 ys t=>ys=(Zg ys.length).map F/\t= []) hf hl (W.mono q λv h1 q=>?_);obtain⟨rfl,h1a,st,q⟩:=q;refine⟨rfl,h1a,⟨rfl,rfl⟩,λys t v J hv=>W.mono (st ys.length v (.list ys::t) hv) λy h3 q=>?_,λys t hy J=>?_⟩
 ·obtain⟨rfl,rfl⟩:=q
  refine⟨[],by rw[Zm],?_,by rw[J.2];rfl⟩;simp only[yC,qak,JU,<-J.1];rfl
 ·obtain⟨J1,rfl⟩:=J
  rw[J1,hy];exact q
abbrev rx:Ex:= .comp (.aq (.var 2) qE) [2] Qb (.var 1) []
theorem FR {l:List α}{F:Nat->β}{f:α->β} (h: ∀ (i:Nat) (x:α),l[i]?=Qa x->F i=f x):(Zg l.length).map F=l.map f:=
 tW (by rw[Jp,Zi,Jp]) λi y hi=>by
  rw[JA] at hi ⊢;have hl:i<l.length:=Zi (n:=l.length)▸jY (ms hi).choose_spec.1;rw[ZW hl] at hi;rw[Jn hl];exact(congrArg Qa (h i _ (Jn hl))).symm.trans hi
def hG {r:Nat}{o2:Option ab}{xs:List (Ar R.α)} (W:qP R h r xs) (hl:xs.length<200000) (t:MH):WE (ag P0 d) (Qa (.ref m)::Qa (.ref r)::o2::nn 4) rx (h++t) λy g=>y= .ref (h++t).length/\g=(h++t)++ [.list (dw (xs.map Ar.t))]:=by
 refine Zv W λas zq4=>?_;have e:(as.map ab.ref).length=xs.length:=(Jp ..).trans zq4.2.1;have e2:(Zg (as.map ab.ref).length).map (λi=>ab.int (((xs[i]?.map Ar.t).getD 0:Nat):Int))=dw (xs.map Ar.t):=by
  unfold dw;rw[e,Kw];exact FR λi x hx=>by rw[hx];rfl
 refine BM (a:=r) (vs:=as.map .ref) (λi=> .int (((xs[i]?.map Ar.t).getD 0:Nat):Int)) (by rw[e];exact hl) (by rw[e];exact oR hl) ((by exact kJ (.z (ck (.ref r) (h++t))) rfl:WE (ag P0 d) (Qa (.ref m)::Qa (.ref r)::o2::nn 4) (.var 1) (h++t) λv g=>v= .ref r/\g=h++t).mono λv g q=>?_);refine eqE q.1 ?_;refine eqB q.2 ?_;rw[e2];refine⟨rfl,jS zq4.1,λi v t' hv=>?_,ck _ _⟩;refine(pL hv).elim λb zq3=>?_;refine eqB zq3.2 ?_;obtain⟨x,hx⟩: ∃x,xs[i]?=Qa x:=⟨_,Jn (zq4.2.1▸jY zq3.1)⟩;have e1:getAttr P0 (h++t++t') (.ref b) qE=Qa (.int x.t):=ga (jS (jS (zq4.2.2 i b _ zq3.1 hx))) rfl rfl;have e3:x.t=(xs[i]?.map Ar.t).getD 0:=by rw[hx];rfl
 rw[<-e3];exact kJ (.v (e1)<| .z (ck (.int (x.t:Nat)) (h++t++t'))) rfl
def hH (I:ak R h L M):eval (ag P0 d) (.comp rx [1] Qb (.aq (.var 0) kI) []) (Qa (.ref L.m)::nn 6) h=Qa (.ref h.length,h++ .list ((J4 (h.length+1) M.aa.length).map .ref)::(Zg M.aa.length).map λi=> .list (dw ((az M i).map Ar.t))):=by
 have hn:(L.ar.map ab.ref).length=M.aa.length:=(Jp ..).trans I.len;have hl:=Jt I.bb (show 10000<200000 by decide);refine W.eq (Wh (cx:=ag P0 d) (a:=L.aA) (x:=1) (eh:=rx) (vs:=L.ar.map .ref) (λi=> .list (dw ((az M i).map Ar.t))) (by rw[hn];exact hl) (by rw[hn];exact oR hl) (W.mono (by exact kJ (.v (nD I)<| .z (ck (.ref L.aA) h)) rfl:WE (ag P0 d) (Qa (.ref L.m)::nn 6) (.aq (.var 0) kI) h λv g=>v= .ref L.aA/\g=h) λv g q=>?_));refine eqE q.1 ?_;refine eqB q.2 ?_;rw[hn];refine⟨rfl,I.aa,λi v t hv=>?_,ck _ _⟩;refine(pL hv).elim λr zq2=>?_;refine eqB zq2.2 ?_;obtain⟨x,hx⟩: ∃x,M.aa[i]?=Qa x:=⟨_,Jn (I.len▸jY zq2.1)⟩;rw[(by unfold az;rw[hx];rfl:az M i=x)];exact hG (m:=L.m) (o2:=Qd) (I.ar i r x zq2.1 hx) (I.uo (Jq hx)) t
def hW (M:Mc R.α):tM (h++ .list ((J4 (h.length+1) M.aa.length).map .ref)::(Zg M.aa.length).map λi=> .list (dw ((az M i).map Ar.t))) h.length (M.aa.map λr=>r.map Ar.t):=by
 refine⟨_,ap,by rw[KU,Jp],λk r xs hr hx=>?_⟩;have hk:k<M.aa.length:=Jp (λr:List (Ar R.α)=>r.map Ar.t)▸jY hx;rw[qau hk] at hr;refine lW hr ?_;rw[JA] at hx;refine(ms hx).elim λx zq1=>?_;refine eqE zq1.2 ?_;simp only[show h.length+1+1*k=h.length+(k+1) by rw[Z5,J9,ZJ 1 k],oJ,List.getElem?_cons_succ,JA,ZW hk];rw[<-(by unfold az;rw[zq1.1];rfl:az M k=x)];rfl
def FD (hd:1<=d) (I:ak R h L M) (q: ∀t b,tM (h++t) b (M.aa.map λr=>r.map Ar.t) ->Q (.ref b) (h++t)):WF P0 d 125 [.ref L.m] h Q:=by
 exact kN (K:=0) hd (Qa (.ref L.m)::nn 6) pI rfl λd' h'=>kC (.p (hH (d:=d') I)<| .z (q _ _ (hW M))) rfl
end
abbrev rC:Nat:=1936292453
theorem mK (hd:1<=d) (I:ak R h L M):kP (ag P0 d) (.ref L.m) rC [] h h=Qa (.int M.aa.length,h):=me (lN I.fb rfl rfl) (OZ hd I ⟨rfl,rfl⟩)
def yI {l:List R.α}{x:R.α} (hs:l[s]?=Qa x):(l.map R.e)[s]?=Qa (R.e x):=by rw[JA,hs];rfl
abbrev at' (l:List R.α) (s:Nat):R.α:=l[s]?.getD R.zero
def Un {l:List R.α} (hs:s<l.length):l[s]?=Qa (at' l s):=by rw[Jn hs];unfold at';rw[Jn hs];rfl
theorem Nl {l:List R.α} (hs:s<l.length):at' l s∈l:=Jq (Un hs)
variable {a:Ar R.α}
theorem sg {b:Nat} (hB:h[b]?=Qa (mC R a)):getAttr P0 h (.ref b) m8=Qa (.str a.up):=ga hB rfl rfl
theorem tu {b:Nat} (hB:h[b]?=Qa (mC R a)):getAttr P0 h (.ref b) oT=Qa (.str a.lo):=ga hB rfl rfl
theorem yz {b:Nat} (hB:h[b]?=Qa (mC R a)):getAttr P0 h (.ref b) wR=Qa (R.e a.w):=ga hB rfl rfl
theorem vd {b:Nat} (hB:h[b]?=Qa (mC R a)):getAttr P0 h (.ref b) qE=Qa (.int a.t):=ga hB rfl rfl
theorem GR {b:Nat} (hd:1<=d) (hB:h[b]?=Qa (mC R a)):kP (ag P0 d) (.ref b) rD [] h h=Qa (.bool a.fh,h):=W.eq (Mv hd hB hB ⟨rfl,rfl⟩)
def nT {x:Bool} (h:x=Qe):(!x)=false:=by rw[h];rfl
def nF {x:Bool} (h:x=Qb):(!x)=true:=by rw[h];rfl
structure NO (R:Rg) (h:MH) (r:Nat) (as:List Nat) (xs:List (Ar R.α)):Prop where
 l:h[r]?=Qa (.list (as.map .ref))
 n:(as.map ab.ref).length=xs.length
 a: ∀ (j:Nat) (v:ab),(as.map ab.ref)[j]?=Qa v-> ∃b x,v= .ref b/\xs[j]?=Qa x/\h[b]?=Qa (mC R x)
def ak.oq (I:ak R h L M) (hk:k<M.aa.length): ∃r as,(L.ar.map ab.ref)[k]?=Qa (.ref r)/\NO R h r as (az M k)/\az M k∈M.aa:=by
 refine(I.row hk).elim λr zq8=>Zv zq8.2 λas zq9=>?_;rw[(by unfold az;rw[Jn hk];rfl:az M k=M.aa[k])];refine⟨r,as,sL zq8.1,⟨zq9.1,(Jp ..).trans zq9.2.1,λj v hv=>?_⟩,Zo hk⟩;refine(pL hv).elim λb zq7=>?_;refine eqB zq7.2 ?_;have hj:j<M.aa[k].length:=by rw[<-zq9.2.1];exact jY zq7.1
 exact⟨b,M.aa[k][j],rfl,Jn hj,zq9.2.2 j b _ zq7.1 (Jn hj)⟩
def nE (M:Mc R.α) (s:Nat):Nat:=((M.aa.take s).map Z3).sum
def Ai (hs:s<M.aa.length):nE M (s+1)=nE M s+M.aa[s].length:=by
 delta nE;rw[KD hs,JU,Xj];simp
def xH (I:ak R h L M) (s:Nat):nE M s<=M.ax:=by
 delta nE;rw[<-I.ct]
 conv=>rhs;rw[<-KG s M.aa,JU,Xj]
 exact Jo _ _
def tC (hs:s<M.aa.length):nE M (s+1)=nE M s+(az M s).length:=by
 rw[Ai hs];unfold az;rw[Jn hs];rfl
theorem FT {z:Cx}{a:Nat} (ha:h[a]?=Qa (.list vs)):jZ z (.bi vE) [.ref a] h=Qa (.int vs.length,h):=W.eq (AB ha ⟨rfl,rfl⟩)
theorem jF (z:Cx) {a:Nat} (v:ab) (ha:h[a]?=Qa (.list vs)) (hl:vs.length<1000000):kP z (.ref a) ek [v] h h=Qa (.none,h.set a (.list (vs++ [v]))):=W.eq (Ut ha ha hl ⟨rfl,rfl⟩)
def zfB (z:Cx) {a:Nat}{xs:List Nat} (i:Nat) (ha:h[a]?=Qa (.list (dw xs))) (hl:xs.length<1000000):kP z (.ref a) ek [.int i] h h=Qa (.none,h.set a (.list (dw (xs++ [i])))):=by
 rw[jF z _ ha (by rw[m9];exact hl)];delta dw;rw[JU];rfl
abbrev oS:Nat:=495873782885
abbrev Mt:Nat:=6386275
abbrev GK:Nat:=422608071022
abbrev SQ:Nat:=6647396
def LF (hd:2<=d) (I:ak R h L M) (hl:M.aa.length<10000): ∃g,kP (ag P0 d) (.ref L.m) oS [] h h=Qa (.int M.aa.length,g)/\ak R g (L.more h.length) M.more/\l9 h g [L.aA,L.aE]:=by
 refine(W.get (kE (P:=P0) (lN (n:=oS) I.fb rfl rfl) (LD (Q:=λv g=>v= .int M.aa.length/\ak R g (L.more h.length) M.more/\l9 h g [L.aA,L.aE]) hd I hl λg I' K=>⟨rfl,I',K⟩))).elim λv zq5=>zq5.elim λg zq6=>?_;refine eqE zq6.2.1 ?_;exact⟨g,zq6.1,zq6.2.2⟩
def zcX (hd:4<=d) (I:ak R h L M) (hs:s<M.aa.length) (ht:a.t<M.aa.length) (lu:dh a.up) (ll:dh a.lo) (hw:R.D p k a.w) (hl:4*p+k<=3800) (hc:M.ax<100000) (hz:a.w≠R.zero): ∃g,kP (ag P0 d) (.ref L.m) Mt [.int s,.str a.up,.str a.lo,R.e a.w,.int a.t] h h=Qa (.none,g)/\ak R g L (M.fk s a)/\l9 h g (fg L):=by
 refine(W.get (kE (P:=P0) (lN (n:=Mt) I.fb rfl rfl) (Nv (Q:=λv g=>v= .none/\ak R g L (M.fk s a)/\l9 h g (fg L)) hd I hs ht lu ll hw hl hc λg M' I' K _ hM=>⟨rfl,hM hz▸I',K⟩))).elim λv zq3=>zq3.elim λg zq4=>?_;refine eqE zq4.2.1 ?_;exact⟨g,zq4.1,zq4.2.2⟩
variable {w:R.α}
def Nk (hd:4<=d) (I:ak R h L M) (hs:s<M.aa.length) (hw:R.D p k w) (hl:4*p+k<=3800): ∃g,kP (ag P0 d) (.ref L.m) GK [.int s,R.e w] h h=Qa (.none,g)/\ak R g L {M with start:=s,first:=w} /\l9 h g (fg L):=by
 refine(W.get (kE (P:=P0) (lN (n:=GK) I.fb rfl rfl) (Da (Q:=λv g=>v= .none/\ak R g L {M with start:=s,first:=w} /\l9 h g (fg L)) hd I hs hw hl λg I' K=>⟨rfl,I',K⟩))).elim λv zq1=>zq1.elim λg zq2=>?_;refine eqE zq2.2.1 ?_;exact⟨g,zq2.1,zq2.2.2⟩
theorem GH (I:ak R h L M):M.aa.length<=100000:=Jl I.bb (by decide)
variable {xs:List (Ar R.α)}
theorem NO.le {r:Nat} (H:NO R h r as xs) (I:ak R g L M) (hm:xs∈M.aa):(as.map ab.ref).length<=100000:=H.n▸Jl (I.cr _ hm) I.cl
def v8 (mb:List Bool):Nat:=mb.countP (!·)
def EY (hk:mb[k]?=Qa Qb):v8 (mb.set k Qe)+1=v8 mb:=by
 delta v8;refine(Ju.mp hk).elim λhl zq7=>?_;rw[(List.countP_set (p:=λb:Bool=>!b) (l:=mb) (i:=k) (a:=Qe) hl),zq7]
 have:0<mb.countP (!·):=List.countP_pos_iff.mpr ⟨Qb,Jq hk,rfl⟩
 simp only[Bool.not_false,Bool.not_true]
 simp
 exact YJ (JY this)
structure VF (fs:List Nat) (bc:List (List Nat)) (mb:List Bool):Prop where
 first: ∀s∈fs,mb[s]?=Qa Qe
 uy: ∀P:Nat->Prop,(∀s∈fs,P s) ->(∀s xs,P s->bc[s]?=Qa xs-> ∀o∈xs,P o) -> ∀s:Nat,mb[s]?=Qa Qe->P s
section
variable {h0:MH}
def xJ {b:Bool} (h:mb[k]?=Qa b):(mb.map ab.bool)[k]?=Qa (.bool b):=by rw[JA,h];rfl
structure mr where
 mb:List Bool
 wk:List Nat
 a:Option ab
 b:Option ab
structure MX where
 h:MH
 m:Nat
 f:Nat
 b:Nat
 x0:ae
 n:Nat
 fs:List Nat
 bc:List (List Nat)
def mG (X:MX) (s:mr):MH:=X.h++ [X.x0,.list (s.mb.map ab.bool),.list (dw s.wk)]
def mF (X:MX) (a b:Option ab):Internal.Frame:=Qa (.ref X.m)::Qa (.ref X.f)::Qa (.ref X.b)::Qa (.ref (X.h.length+1))::Qa (.ref (X.h.length+2))::a::b::nn 6
section
variable {X:MX}{R':Fl->Internal.Frame->MH->Prop}{s:mr}
theorem zeO:(mG X s)[X.h.length+1]?=Qa (.list (s.mb.map ab.bool)):=oJ
theorem Mb:(mG X s)[X.h.length+2]?=Qa (.list (dw s.wk)):=oJ
theorem zeN:(mG X s).set (X.h.length+1) (.list (mb.map ab.bool))=mG X {s with mb:=mb}:=A0
theorem SK:(mG X s).set (X.h.length+2) (.list (dw wk))=mG X {s with wk:=wk}:=A0
structure zh (X:MX) (i:Nat) (s:mr):Prop where
 w:s.wk=X.fs
 l:s.mb.length=X.n
 h1: ∀y∈X.fs.take i,s.mb[y]?=Qa Qe
 h2: ∀y:Nat,s.mb[y]?=Qa Qe->y∈X.fs
theorem sM (X:MX) (s:mr) {o:Nat}{b:Bool} (e:s.mb[o]?=Qa b):lG (mG X s) (.ref (X.h.length+1)) (.int o)=Qa (.bool b):=sl zeO (xJ e)
def Md (X:MX) (s:mr) {y:Nat} (v:Bool) (hn:y<s.mb.length):m7 (mG X s) (.ref (X.h.length+1)) (.int y) (.bool v)=Qa (mG X {s with mb:=s.mb.set y v}):=by rw[zbe zeO (by rw[Jp];exact hn),map_set',zeN]
def zeS {y:Nat} (P:zh X i s) (hy:X.fs[i]?=Qa y) (hn:y<X.n) (q: ∀s',zh X (i+1) s'->R' .nx (mF X s'.a s'.b) (mG X s')):cq (ag P0 d) [.fq (.sb (.var 3) (.var 5)) (.lit (.bool Qe))] (mF X (Qa (.int y)) s.b) (mG X s) R':=by
 have hsn:y<s.mb.length:=by rw[P.l];exact hn
 have N:zh X (i+1) {s with mb:=s.mb.set y Qe,a:=Qa (.int y)}:=by
  refine⟨P.w,by show (s.mb.set y Qe).length=_;rw[J0];exact P.l,λz hz=>?_,λz hz=>?_⟩
  ·show (s.mb.set y Qe)[z]?=_
   rw[Kt,hy] at hz;by_cases e:y=z
   ·refine eqE e ?_;rw[JV hsn]
   ·rw[JZ e]
    exact(Zd.mp hz).elim (P.h1 z) λhz=>absurd (JE.mp (by simpa using hz)).symm e
  ·by_cases e:y=z
   ·refine eqE e ?_;exact Jq hy
   ·rw[JZ e] at hz;exact P.h2 z hz
 exact kC (.h (Md X s Qe hsn)<| .z (q _ N)) rfl
structure zg (X:MX) (k:Nat) (s:mr):Prop where
 kk:k=2*v8 s.mb+s.wk.length
 kl:k<=30000
 l:s.mb.length=X.n
 B:VF X.fs X.bc s.mb
 w: ∀y∈s.wk,s.mb[y]?=Qa Qe
 c: ∀ (y:Nat) xs,s.mb[y]?=Qa Qe->y∉s.wk->X.bc[y]?=Qa xs-> ∀o∈xs,s.mb[o]?=Qa Qe
structure wz (X:MX) (y:Nat) (xs:List Nat) (k:Nat) (j:Nat) (s:mr):Prop where
 kk:2*v8 s.mb+s.wk.length<=k
 l:s.mb.length=X.n
 B:VF X.fs X.bc s.mb
 yy:s.mb[y]?=Qa Qe
 w: ∀z∈s.wk,s.mb[z]?=Qa Qe
 c: ∀ (z:Nat) xs,s.mb[z]?=Qa Qe->z∉s.wk->z≠y->X.bc[z]?=Qa xs-> ∀o∈xs,s.mb[o]?=Qa Qe
 t: ∀o∈xs.take j,s.mb[o]?=Qa Qe
def zb7 (X:MX) (s:mr) (z:Cx):jZ z (.bi vE) [.ref (X.h.length+2)] (mG X s)=Qa (.int s.wk.length,mG X s):=by rw[FT Mb,m9]
theorem zb8 (X:MX) (s:mr) (z:Cx) (o:Nat) (hl:s.wk.length<1000000):kP z (.ref (X.h.length+2)) ek [.int o] (mG X s) (mG X s)=Qa (.none,mG X {s with wk:=s.wk++ [o]}):=(zfB z o Mb hl).trans (by rw[SK])
abbrev b6:List Sm:= [.ite (.not (.sub (.var 3) (.var 6))) [.fq (.sb (.var 3) (.var 6)) (.lit (.bool Qe)),.expr (.bh (.var 4) ek [.var 6])] []]
def wz.more {y o:Nat}{xs:List Nat} (P:wz X y xs k j s) (hx:X.bc[y]?=Qa xs) (ho:xs[j]?=Qa o) (he:s.mb[o]?=Qa Qb):wz X y xs k (j+1) {s with mb:=s.mb.set o Qe,wk:=s.wk++ [o],b:=Qa (.int o)}:=by
 have up: ∀ {z:Nat},s.mb[z]?=Qa Qe->(s.mb.set o Qe)[z]?=Qa true:=λ{z} hz=>by
  rw[JZ λe=>by subst e;rw[he] at hz;exact nomatch hz];exact hz
 have dn: ∀ {z:Nat},(s.mb.set o Qe)[z]?=Qa Qe->z=o\/s.mb[z]?=Qa true:=λ{z} hz=>by
  by_cases e:o=z
  ·exact .inl e.symm
  ·rw[JZ e] at hz;exact .inr hz
 refine⟨?_,by show (s.mb.set o Qe).length=_;rw[J0];exact P.l,⟨λz hz=>up (P.B.first z hz),λT p1 p2 z hz=>?_⟩,up P.yy,λz hz=>?_,λz zs e1 e2 e3 e4 w hw=>?_,λz hz=>?_⟩
 ·refine Jl ?_ P.kk
  simp only[Jz,<-(EY he),Kv,ZK];exact ZA _
 ·exact(dn hz).elim (λe=>e▸p2 y xs (P.B.uy T p1 p2 y P.yy) hx o (Jq ho)) (P.B.uy T p1 p2 z)
 ·exact(Zd.mp hz).elim (λhz=>up (P.w z hz)) λhz=>(JE.mp hz)▸(JV (jY he):(s.mb.set o Qe)[o]?=Qa Qe)
 ·exact(dn e1).elim (λe=>absurd (Zd.mpr (.inr (e▸ .head _))) e2) λe1=>up (P.c z zs e1 (λq=>e2 (Zd.mpr (.inl q))) e3 e4 w hw)
 ·rw[Kt,ho] at hz
  exact(Zd.mp hz).elim (λhz=>up (P.t z hz)) λhz=>(JE.mp hz)▸(JV (jY he):(s.mb.set o Qe)[o]?=Qa Qe)
def zeR {y o:Nat}{xs:List Nat} (P:wz X y xs k j s) (hx:X.bc[y]?=Qa xs) (ho:xs[j]?=Qa o) (hn:o<X.n) (hk:k<100000) (q: ∀s',wz X y xs k (j+1) s'->R' .nx (mF X (Qa (.int y)) s'.b) (mG X s')):
  cq (ag P0 d) b6 (mF X (Qa (.int y)) (Qa (.int o))) (mG X s) R':=by
 have hon:o<s.mb.length:=by rw[P.l];exact hn
 have hoe:=Jn hon;refine xO (s.mb[o]) (λhb=>?_) λhb=>?_
 ·rw[hb] at hoe
  have N:wz X y xs k (j+1) {s with b:=Qa (.int o)}:=⟨P.kk,P.l,P.B,P.yy,P.w,P.c,λz hz=>by
   rw[Kt,ho] at hz;exact(Zd.mp hz).elim (P.t z) λhz=>(JE.mp hz)▸hoe⟩
  exact kC (.v (sM X s hoe)<| .c2<| .z (q _ N)) rfl
 ·rw[hb] at hoe
  have hw:s.wk.length<1000000:=Jt (Jl (Jw _ _) P.kk) (Zx hk (by decide));exact kC (.v (sM X s hoe)<| .c2<| .h (Md X s Qe hon)<| .p (zb8 X {s with mb:=s.mb.set o Qe} (ag P0 d) o hw)<| .z (q _ (P.more hx ho hoe))) rfl
end
structure cY (X:MX):Prop where
 A:tM X.h X.b X.bc
 hl:X.bc.length=X.n
 hn:X.n<=10000
 vb: ∀s∈X.fs,s<X.n
 ri:X.fs.length<=10000
 yu: ∀xs∈X.bc,xs.length<200000->True
 sf: ∀xs∈X.bc,xs.length<=100000/\∀o∈xs,o<X.n
section
variable {X:MX} (O:cY X)
include O
abbrev m0 (X:MX):mr:=⟨JL X.n Qb,X.fs,Qd,Qd⟩
def zie: ∃s,zh X X.fs.length s/\exec (ag P0 d) (.fo [5] Qb (.var 4) [.fq (.sb (.var 3) (.var 5)) (.lit (.bool Qe))]) (mF X Qd Qd) (mG X (m0 X))=Qa ((.nx,mF X s.a s.b),mG X s):=by
 have:=qf (c:=ag P0 d) (tg:=[5]) (many:=Qb) (a:=X.h.length+2) (e:=.var 4) (b:=[.fq (.sb (.var 3) (.var 5)) (.lit (.bool Qe))]) (vs:=dw X.fs) (λs:mr=>mF X s.a s.b) (mG X) (zh X) (m0 X) (by rw[m9];exact Jl O.ri (by decide)) rfl (λi s P=>by have e:= @Mb X s;rw[show s.wk=X.fs from P.w] at e;exact e) (by exact kJ (.z (ck (.ref (X.h.length+2)) (mG X (m0 X)))) (by kernel_rfl)) ⟨rfl,Zu ..,(λs hs=>absurd hs JB),λs hs=>JH (Zk (Jq hs))⟩ λi v s R1 _ hv P1 T1=>by
  obtain⟨y,hy,rfl⟩:=zY hv;exact mL (zeS P1 hy (O.vb y (Jq hy)) T1.nx)
 rwa [m9] at this
structure MD (X:MX) (s:mr):Prop where
 l:s.mb.length=X.n
 B:VF X.fs X.bc s.mb
 c: ∀ (y:Nat) xs,s.mb[y]?=Qa Qe->X.bc[y]?=Qa xs-> ∀o∈xs,s.mb[o]?=Qa Qe
abbrev dY:Sm:= .fo [6] Qb (.sub (.var 2) (.var 5)) b6
def zic {y:Nat}{s:mr} (P:zg X k s) (hw:s.wk=wk++ [y]): ∃s',(∃j,j<k/\zg X j s')/\exec (ag P0 d) dY (mF X (Qa (.int y)) s.b) (mG X {s with wk:=wk})=Qa ((.nx,mF X s'.a s'.b),mG X s'):=by
 have hym:=P.w y (hw▸Zd.mpr (.inr (.head _)));have hyn:y<X.bc.length:=by rw[O.hl,<-P.l];exact jY hym
 refine xEAA O.A λrs A1 A2 A3=>?_;have hxe:=Jn hyn;have hkk:2*v8 s.mb+wk.length+1=k:=by rw[P.kk,hw,Jz];rfl
 have hx:=O.sf _ (Zo hyn);obtain⟨s',P3,e⟩:=qf (c:=ag P0 d) (tg:=[6]) (many:=Qb) (a:=rs[y]) (e:=.sub (.var 2) (.var 5)) (b:=b6) (vs:=dw X.bc[y]) (λs:mr=>mF X (Qa (.int y)) s.b) (mG X) (wz X y X.bc[y] (2*v8 s.mb+wk.length)) {s with wk:=wk} (by rw[m9];exact hx.1) rfl (λi s P=>jS (A3 y _ _ (Jn (l:=rs) (i:=y) (by rw[A2];exact hyn)) hxe)) (by exact kJ (.v (sl (jS (t:=[X.x0,.list (s.mb.map ab.bool),.list (dw wk)]) A1) (sL (Jn (l:=rs) (i:=y) (by rw[A2];exact hyn))))<| .z (ck (.ref rs[y]) (mG X {s with wk:=wk}))) rfl) ⟨Jv _,P.l,P.B,hym,λx hx=>P.w x (hw▸Zd.mpr (.inl hx)),λz ys e1 e2 e3=>P.c z ys e1 λq=>by
    rw[hw] at q;exact(Zd.mp q).elim e2 λq=>e3 (JE.mp q),λo ho=>absurd ho JB⟩ λi v s R1 _ hv P1 T1=>by
  refine xEA (zY hv) λo ho cv=>?_;refine eqB cv ?_;exact mL (zeR P1 hxe ho (hx.2 o (Jq ho)) (Js (J5 (Jx hkk)) (Jl P.kl (Jw _ _))) T1.nx)
 have kt:=P3.t;rw[m9,Zc] at kt;refine⟨{s' with a:=Qa (.int y)},⟨_,Jt P3.kk (hkk▸JT _),rfl,Jl P3.kk (XA (Jl (Jx hkk) P.kl)),P3.l,P3.B,P3.w,λz ys e1 e2 e3=>?_⟩,e⟩;by_cases e:z=y
 ·subst e
  rw[show X.bc[z]?=Qa ys from e3] at hxe;refine soB hxe ?_;exact kt
 ·exact P3.c z ys e1 e2 e e3
abbrev dZ:List Sm:= [.fq (.nm 5) (.bh (.var 4) qx []),dY]
def zid {s:mr} (P:zg X k s): ∃s',MD X s'/\exec (ag P0 d) (.wh (.ew .gt (.call (.lit (.bi vE)) [.var 4]) (.lit (.int 0))) dZ) (mF X s.a s.b) (mG X s)=Qa ((.nx,mF X s'.a s'.b),mG X s'):=by
 refine eG (c:=ag P0 d) (t:=.ew .gt (.call (.lit (.bi vE)) [.var 4]) (.lit (.int 0))) (b:=dZ) (λs:mr=>mF X s.a s.b) (mG X) (zg X) (MD X) s (Jl P.kl (by decide)) rfl P λk s P=>⟨decide ((0:Int)<(s.wk.length:Nat)),?_,λhc R' _ T=>?_,λhc=>?_⟩
 ·exact kJ (.p (zb7 X s (ag P0 d))<| .c<| .z (ck (.bool (decide ((0:Int)<(s.wk.length:Nat)))) (mG X s))) rfl
 ·obtain⟨wk,y,hw⟩: ∃wk y,s.wk=wk++ [y]:=⟨s.wk.dropLast,s.wk.getLast (List.ne_nil_of_length_pos (ZR.mp (dT hc):0<s.wk.length)),(Xh _).symm⟩
  refine(zic (d:=d) O P hw).elim λs' zq3=>?_;have e1:kP (ag P0 d) (.ref (X.h.length+2)) qx [] (mG X s) (mG X s)=Qa (.int y,mG X {s with wk:=wk}):=by
   exact W.eq (zaE Mb (by rw[<-(by rw[hw];exact JU .. :dw s.wk=dw wk++ [.int y])];exact Mb) ⟨rfl,SK⟩)
  exact kC (.p (e1)<| .s (zq3.2)<| .z (T.nx s' zq3.1)) rfl
 ·exact⟨P.l,P.B,λy xs e1=>P.c y xs e1 (by rw[(ZO.mp (by have:=dF hc;lia):s.wk= [])];exact JB)⟩
end
def zb9 {f b:Nat}{fs:List Nat} (hd:2<=d) (I:ak R h L M) (hf:h[f]?=Qa (.list (dw fs))) (A:tM h b bc) (hl:bc.length=M.aa.length) (vb: ∀s∈fs,s<M.aa.length) (ri:fs.length<=10000) (yu: ∀xs∈bc,xs.length<=100000/\∀o∈xs,o<M.aa.length)
  (q: ∀mb t,mb.length=M.aa.length->VF fs bc mb->(∀ (s:Nat) xs,mb[s]?=Qa Qe->bc[s]?=Qa xs-> ∀o∈xs,mb[o]?=Qa Qe) ->(h++t)[h.length+1]?=Qa (.list (mb.map ab.bool)) ->Q (.ref (h.length+1)) (h++t)):WF P0 d 124 [.ref L.m,.ref f,.ref b] h Q:=by
 refine kN (K:=1) hd (Qa (.ref L.m)::Qa (.ref f)::Qa (.ref b)::nn 10) rP rfl λd' h'=>?_;refine xEA (zie (d:=d') (⟨A,hl,I.bb,vb,ri,λ_ _ _=>trivial,yu⟩:cY ⟨h,L.m,f,b,.list [.bool Qb],M.aa.length,fs,bc⟩)) λs P e=>?_;have h1:=P.h1;rw[Zc] at h1;have hw:s.wk=fs:=P.w;have P2:zg ⟨h,L.m,f,b,.list [.bool Qb],M.aa.length,fs,bc⟩ (2*v8 s.mb+s.wk.length) s:=⟨rfl,by
   have h2:v8 s.mb<=s.mb.length:=List.countP_le_length ..;rw[show s.mb.length=M.aa.length from P.l] at h2
   have:=I.bb
   rw[hw]
   lia,P.l,⟨h1,λT p1 _ y hy=>p1 y (P.h2 y hy)⟩,λy hy=>h1 y (hw▸hy),λy xs hy hn=>absurd (hw.symm▸P.h2 y hy) hn⟩
 refine(zid (d:=d') (⟨A,hl,I.bb,vb,ri,λ_ _ _=>trivial,yu⟩:cY ⟨h,L.m,f,b,.list [.bool Qb],M.aa.length,fs,bc⟩) P2).elim λs' zq1=>?_;have e1:pE .mul (.ref h.length) (.int M.aa.length) (h++ [.list [.bool Qb]])=Qa (.ref (h.length+1),h++ [.list [.bool Qb],.list ((JL M.aa.length Qb).map ab.bool)]):=by
  refine W.eq (AK (n:=M.aa.length) ap (oR (Jt I.bb (by decide))) (by show 1*_<=_;rw[Z5];exact oR (Jt I.bb (by decide))) ⟨by rw[Jz];rfl,?_⟩);rw[A8,JD,<-Xq];rfl
 have e2:jZ (ag P0 d') (.ty Hc) [.ref f] (h++ [.list [.bool Qb],.list ((JL M.aa.length Qb).map ab.bool)])=Qa (.ref (h.length+2),mG ⟨h,L.m,f,b,.list [.bool Qb],M.aa.length,fs,bc⟩ (m0 ⟨h,L.m,f,b,.list [.bool Qb],M.aa.length,fs,bc⟩)):=by
  refine W.eq (N4 (jS hf) ⟨by rw[Jz];rfl,?_⟩);rw[JD];rfl
 exact kC (.p (mK (h:=h++ [.list [.bool Qb]]) h' I.bz)<| .p (e1)<| .p (e2)<| .s (e)<| .s (zq1.2)<| .z (q s'.mb [.list [.bool Qb],.list (s'.mb.map ab.bool),.list (dw s'.wk)] zq1.1.l zq1.1.B zq1.1.c oJ)) rfl
end
structure VK (h hh:MH) (rs:List Nat) (bc:List (List Nat)):Prop where
 bz: ∃t,hh=h++t
 cJ:hh[h.length]?=Qa (.list (rs.map .ref))
 len:rs.length=bc.length
 nf: ∀r∈rs,h.length<r
 nd:rs.Nodup
 row: ∀ (k r:Nat) (xs:List Nat),rs[k]?=Qa r->bc[k]?=Qa xs->hh[r]?=Qa (.list (dw xs))
theorem sI {t:MH}{r:Nat} (hr:h.length<=r):(h++t).set r o=h++t.set (r-h.length) o:=Yp _ _ hr
def VK.push {r:Nat}{xs:List Nat} (A:VK h hh rs bc) (hr:rs[k]?=Qa r) (hx:bc[k]?=Qa xs):VK h (hh.set r (.list (dw (xs++ [s])))) rs (bc.set k (xs++ [s])):=by
 refine A.bz.elim λt zq12=>?_;obtain rfl:=zq12;have hm:=A.nf r (Jq hr);refine⟨⟨_,sI (JK hm)⟩,j4 (Kd hm) A.cJ,by rw[J0];exact A.len,A.nf,A.nd,λk' r' xs' hr' hx'=>?_⟩;by_cases e:k=k'
 ·subst e
  rw[hr] at hr';refine lW hr' ?_;rw[JV (jY hx)] at hx';refine lW hx' ?_;exact kO (A.row k r xs hr hx)
 ·rw[JZ e] at hx'
  refine j4 (λq=>?_) (A.row k' r' xs' hr' hx');subst q;obtain⟨l1,e1⟩:=Ju.mp hr;exact(Ju.mp hr').elim λl2 zq10=>e (Yw A.nd|>.mp (e1.trans zq10.symm))
theorem VK.yr (A:VK h hh rs bc):tM hh h.length bc:=⟨rs,A.cJ,A.len,A.row⟩
section
variable {h0:MH}
structure m3 (M:Mc R.α) (i j:Nat) (bc:List (List Nat)):Prop where
 len:bc.length=M.aa.length
 sum:(bc.map Z3).sum=((M.aa.take i).map Z3).sum+j
 mem: ∀ (k:Nat) xs,bc[k]?=Qa xs-> ∀s,s∈xs ↔ ∃ys,M.aa[s]?=Qa ys/\((s<i/\∃a∈ys,a.t=k)\/(s=i/\∃a∈ys.take j,a.t=k))
def m3.step {xs:List Nat}{ys:List (Ar R.α)} (B:m3 M i j bc) (hy:M.aa[i]?=Qa ys) (ha:ys[j]?=Qa a) (hk:a.t=k) (hx:bc[k]?=Qa xs):m3 M i (j+1) (bc.set k (xs++ [i])):=by
 obtain⟨hkl,e⟩:=Ju.mp hx;subst e;refine⟨by rw[J0];exact B.len,by rw[Eo hkl,B.sum];exact J9 _ _ _,λk' xs' hx' s=>?_⟩;have tk: ∀ {b},b∈ys.take (j+1) ↔ b∈ys.take j\/b=a:=λ{b} =>by
  rw[Kt,ha,Zd];simp
 by_cases e:k=k'
 ·subst e
  rw[JV hkl] at hx';refine lW hx' ?_;refine Zd.trans ?_;rw[B.mem k _ hx s,JE]
  constructor
  ·rintro (⟨zs,h1,h2| ⟨h2,b,h3,h4⟩⟩|rfl)
   ·exact⟨zs,h1,.inl h2⟩
   ·exact⟨zs,h1,.inr ⟨h2,b,by subst h2;rw[hy] at h1;obtain rfl:=Qa.inj h1;exact tk.mpr (.inl h3),h4⟩⟩
   ·exact⟨ys,hy,.inr ⟨rfl,a,tk.mpr (.inr rfl),hk⟩⟩
  ·rintro ⟨zs,h1,h2| ⟨rfl,b,h3,h4⟩⟩
   ·exact .inl ⟨zs,h1,.inl h2⟩
   ·exact .inr rfl
 ·rw[JZ e] at hx'
  refine(B.mem k' xs' hx' s).trans ?_
  constructor
  ·rintro ⟨zs,h1,h2| ⟨h2,b,h3,h4⟩⟩
   ·exact⟨zs,h1,.inl h2⟩
   ·exact⟨zs,h1,.inr ⟨h2,b,by subst h2;rw[hy] at h1;obtain rfl:=Qa.inj h1;exact tk.mpr (.inl h3),h4⟩⟩
  ·rintro ⟨zs,h1,h2| ⟨h2,b,h3,h4⟩⟩
   ·exact⟨zs,h1,.inl h2⟩
   ·refine⟨zs,h1,.inr ⟨h2,b,?_,h4⟩⟩
    subst h2;rw[hy] at h1;obtain rfl:=Qa.inj h1;rcases tk.mp h3 with h3|rfl
    ·exact h3
    ·exact absurd (hk.symm.trans h4) e
def m3.next {ys:List (Ar R.α)} (B:m3 M i ys.length bc) (hy:M.aa[i]?=Qa ys):m3 M (i+1) 0 bc:=by
 obtain⟨hil,e⟩:=Ju.mp hy;refine⟨B.len,?_,λk xs hx s=>?_⟩
 ·rw[B.sum,KD hil,JU,Xj,e];simp
 ·refine(B.mem k xs hx s).trans ?_
  constructor
  ·rintro ⟨zs,h1,⟨h2,h3⟩| ⟨h2,h3⟩⟩
   ·exact⟨zs,h1,.inl ⟨qac _ h2,h3⟩⟩
   ·subst h2;rw[hy] at h1;obtain rfl:=Qa.inj h1
    rw[Zc] at h3;exact⟨ys,hy,.inl ⟨JT _,h3⟩⟩
  ·rintro ⟨zs,h1,⟨h2,h3⟩| ⟨h2,b,h3,_⟩⟩
   ·by_cases e:s=i
    ·subst e;rw[hy] at h1;obtain rfl:=Qa.inj h1
     exact⟨ys,hy,.inr ⟨rfl,by rw[Zc];exact h3⟩⟩
    ·exact⟨zs,h1,.inl ⟨J8 (JN h2) e,h3⟩⟩
   ·exact absurd h3 JB
def VK.im (A:VK h hh rs bc) (I:ak R h L M):ak R hh L M:=by obtain⟨t,rfl⟩:=A.bz;exact I.bz
def VK.up {a:Nat} (A:VK h hh rs bc) (e:h[a]?=Qa o):hh[a]?=Qa o:=by obtain⟨t,rfl⟩:=A.bz;exact jS e
structure BS where
 g:MH
 bc:List (List Nat)
 a:Option ab:=Qd
 b:Option ab:=Qd
abbrev aH (L:Ly) (n:Nat) (a b:Option ab):Internal.Frame:=Qa (.ref L.m)::Qa (.ref n)::a::b::nn 6
structure BP (h:MH) (M:Mc R.α) (rs:List Nat) (i j:Nat) (s:BS):Prop where
 A:VK h s.g rs s.bc
 B:m3 M i j s.bc
abbrev eK:List Sm:= [.expr (.bh (.sub (.var 1) (.aq (.var 3) qE)) ek [.var 2])]
abbrev eJ:Sm:= .fo [3] Qb (.sub (.aq (.var 0) kI) (.var 2)) eK
def RR (I:ak R h L M) {xs:List Nat} (B:m3 M i j bc) (hi:i<M.aa.length) (hj:j<(az M i).length) (hx:bc[k]?=Qa xs):xs.length<1000000:=by
 have h1:=GI (Jq hx);rw[B.sum] at h1;have h2:=xH I (i+1);rw[tC hi] at h2;exact Jt (Jl h1 (Jl (Jr (JK hj) _) h2)) (Jt I.cl (by decide))
def zcL {s:BS} (I:ak R h L M) (ht: ∀ys∈M.aa,∀a∈ys,a.t<M.aa.length) (hi:i<M.aa.length) (P:BP h M rs i 0 s):
  ∃s',BP h M rs (i+1) 0 s'/\exec (ag P0 d) eJ (aH L h.length (Qa (.int i)) s.b) s.g=Qa ((.nx,aH L h.length (Qa (.int i)) s'.b),s'.g):=by
 refine(I.oq hi).elim λr zq6=>zq6.elim λas zq7=>?_;have hie:M.aa[i]?=Qa (az M i):=by unfold az;rw[Jn hi];rfl
 refine(qf (c:=ag P0 d) (tg:=[3]) (many:=Qb) (a:=r) (e:=.sub (.aq (.var 0) kI) (.var 2)) (b:=eK) (vs:=as.map .ref) (λs:BS=>aH L h.length (Qa (.int i)) s.b) BS.g (λj=>BP h M rs i j) s (zq7.2.1.le I zq7.2.2) rfl (λj s P=>P.A.up zq7.2.1.l) (by exact kJ (.v (nD (P.A.im I))<| .v (sl (P.A.im I).aa zq7.1)<| .z (ck (.ref r) s.g)) rfl) P λj v s X _ hv P T=>?_).elim λs' q=>⟨s',⟨q.1.A,(zq7.2.1.n▸q.1.B).next hie⟩,q.2⟩;refine xEEAA (zq7.2.1.a j v hv) λb x cv hx hb=>?_;refine eqB cv ?_;have htg:=ht _ zq7.2.2 x (Jq hx);have hr':=Jn (l:=rs) (i:=x.t) (by rw[P.A.len,P.B.len];exact htg);have hx':=Jn (l:=s.bc) (i:=x.t) (by rw[P.B.len];exact htg);exact mL (kC (.v (vd (P.A.up hb))<| .v (sl P.A.cJ (sL hr'))<| .p (zfB (ag P0 d) i (P.A.row _ _ _ hr' hx') (RR I P.B hi (jY hx) hx'))<| .z (T.nx ⟨_,_,s.a,Qa (.ref b)⟩ ⟨P.A.push hr' hx',P.B.step hie hx rfl hx'⟩)) rfl)
def zfz:m3 M 0 0 (JL M.aa.length []):=by
 refine⟨Zu,by simp,λk xs hx s=>?_⟩;rw[Zk (Jq hx)];exact⟨λh=>absurd h JB,λ⟨ys,_,q⟩=>q.elim (λq=>absurd q.1 (Ze _)) λq=>q.2.elim λb q=>absurd q.1 JB⟩
abbrev cM (h:MH) (n:Nat):MH:=h++ae.list ((J4 (h.length+1) n).map ab.ref)::JL n (.list [])
def zfC:VK h (cM h n) (J4 (h.length+1) n) (JL n []):=by
 refine⟨⟨_,rfl⟩,ap,by rw[KU,Zu],λr hr=>(List.mem_range'_1.mp hr).1,List.nodup_range' ..,λk r xs hr hx=>?_⟩;obtain⟨hk,e⟩:=Ju.mp hr;rw[List.getElem_range',Z5,J9,ZJ 1] at e;rw[KU] at hk;rw[Zk (Jq hx),<-e,oJ];show (JL _ _)[k]?=_;rw[Z0,if_pos hk];rfl
def RN (I:ak R h L M):eval (ag P0 d) (.comp (.list []) [4] Qb (.aq (.var 0) kI) []) (Qa (.ref L.m)::nn 9) h=Qa (.ref h.length,cM h M.aa.length):=by
 have hn:(L.ar.map ab.ref).length<200000:=by
  rw[Jp,I.len];exact Jt I.bb (by decide)
 refine W.eq (Wi (a:=L.aA) (vs:=L.ar.map .ref) (λ_ ys t=>ys=(J4 (h.length+1) ys.length).map ab.ref/\t=JL ys.length (.list [])) hn (oR hn) ?_);refine W.of (a:=.ref L.aA) (W.eq (by exact kJ (.v (nD I)<| .z (ck (.ref L.aA) h)) rfl:WE (ag P0 d) (Qa (.ref L.m)::nn 9) (.aq (.var 0) kI) h λv g=>v= .ref L.aA/\g=h)) ⟨rfl,I.aa,⟨rfl,rfl⟩,λys t v J hv=>?_,λys t hl J=>?_⟩
 ·refine AJ (AI ⟨[.list []],by rw[JD];rfl,?_,?_⟩)
  ·rw[(λy=>by rw[Jz];rfl: ∀y:ab,(ys++ [y]).length=ys.length+1),qaQ,JU,<-J.1]
   congr 2
   simp only[Jz,ZE,J.2,Zu,Z5,J9,ZJ 1]
  ·rw[(λy=>by rw[Jz];rfl: ∀y:ab,(ys++ [y]).length=ys.length+1),KA,<-J.2]
 ·obtain⟨J1,J2⟩:=J
  rw[Jp,I.len] at hl;rw[hl] at J1 J2;refine eqB J1 ?_;subst J2;exact⟨rfl,rfl⟩
def RQ (hd:2<=d) (I:ak R h L M) (ht: ∀ys∈M.aa,∀a∈ys,a.t<M.aa.length) (q: ∀t bc,m3 M M.aa.length 0 bc->tM (h++t) h.length bc->Q (.ref h.length) (h++t)):WF P0 d 123 [.ref L.m] h Q:=by
 refine kN (K:=1) hd (Qa (.ref L.m)::nn 9) oC rfl λd' h'=>?_;obtain⟨s,P,e⟩:=kh (c:=ag P0 d') (x:=2) (n:=M.aa.length) (e:=.call (.lit (.ty 491260897125)) [.bh (.var 0) rC []]) (b:=[eJ]) (λs:BS=>aH L h.length s.a s.b) BS.g (λi=>BP h M (J4 (h.length+1) M.aa.length) i 0) ⟨_,_,Qd,Qd⟩ (GH I) rfl (by exact kJ (.p (mK h' ((zfC (h:=h) (n:=M.aa.length)).im I))<| .c<| .z (ck (.fy M.aa.length) (cM h M.aa.length))) rfl) ⟨(zfC (h:=h) (n:=M.aa.length)),zfz⟩ λi s X _ hi P T=>by
  exact(zcL (d:=d') I ht hi P).elim λs' zq2=>kC (.s (zq2.2)<| .z (T.nx ⟨s'.g,s'.bc,Qa (.int i),s'.b⟩ ⟨zq2.1.A,zq2.1.B⟩)) rfl
 obtain⟨t,ht⟩:=P.A.bz;have A':=P.A.yr;rw[ht] at A' e;exact kC (.p (RN (d:=d') I)<| .s (e)<| .z (q t s.bc P.B A')) rfl
end
def sJ:List Nat->Nat->List (ab×ab)
 | [],_=> []
 |k::r,o=>(.int (k:Int),.int (o:Int))::sJ r (o+1)
def Eu {a b:Nat}:gm (.int a) (.int b)=(a==b):=by
 show ((a:Int)==(b:Int))=_;by_cases h:a=b
 ·subst h;simp
 ·rw[beq_false_of_ne h,beq_false_of_ne];exact λe=>h (YM.inj e)
def Ig {l:List Nat}: ∀ {o:Nat},(sJ l o).length=l.length:=by
 induction l with
 |nil=>exact rfl
 |cons k l ih=>exact congrArg (· +1) ih
def l5 {k k':ab}:j7 ((k',v)::es) k=bif gm k' k then Qa v else j7 es k:=by
 delta j7;simp only[YE];cases gm k' k<;>rfl
def WN {l:List Nat}: ∀ {o:Nat},j7 (sJ l o) (.int k)=if k∈l then Qa (.int ((o+l.idxOf k:Nat):Int)) else none:=by
 induction l with
 |nil=>intro o;rfl
 |cons x l ih=>
  intro o;show j7 ((.int (x:Int),.int (o:Int))::sJ l (o+1)) _=_;simp only[l5,Eu,ih];by_cases h:x=k
  ·refine eqE h ?_;simp
  ·simp only[beq_false_of_ne h,cond_false,List.idxOf_cons,beq_false_of_ne h,cond_false]
   by_cases hk:k∈l
   ·rw[if_pos hk,if_pos (qav _ hk)]
    congr 2;lia
   ·rw[if_neg hk,if_neg λq=>(JM.mp q).elim (λe=>h e.symm) hk]
def FI {l:List Nat}: ∀ {o:Nat},sJ (l++ [k]) o=sJ l o++ [(.int (k:Int),.int ((o+l.length:Nat):Int))]:=by
 induction l with
 |nil=>intro o;rfl
 |cons x l ih=>
  intro o;show _::sJ (l++ [k]) (o+1)=_;rw[ih,show o+(x::l).length=o+1+l.length by rw[ZE];lia];rfl
def x6 {l:List Nat}{o:Nat}:j5 (sJ l o) (.int k)=true:=by cases l<;>rfl
def Ie {l:List Nat} (hk:k∉l) (hv:v= .int (l.length:Nat)):nM (sJ l 0) (.int k) v=sJ (l++ [k]) 0:=by
 delta nM;rw[WN,if_neg hk,FI,hv,ZM];rfl
section
variable {c:Cx}
def i7 {a:Nat}{l:List Nat} (ha:h[a]?=Qa (.list (dw l))):FX h (.int k) (.ref a)=Qa (decide (k∈l)):=by
 show ay ((kY h (.ref a)).bind λvs=>U1 h (.int k) vs) _=_;rw[pB ha];show ay (U1 h (.int k) (dw l)) _=_;have e:(dw l).mapM (kb h 7)=Qa (l.map λ(x:Nat)=>qa1 x):=by
  clear ha
  delta dw
  induction l with
  |nil=>rfl
  |cons x l ih=>rw[JO,Yt,ih];rfl
 have e2:U1 h (.int k) (dw l)=Qa (decide (k∈l)):=by
  delta U1;rw[e];show Qa ((l.map λ(x:Nat)=>qa1 x).any λy=>KR y (.int k))=_
  congr 1
  rw[List.any_map]
  clear ha e
  induction l with
  |nil=>rfl
  |cons x l ih=>
   have ex:KR (.int (x:Int)) (.int (k:Int))=(x==k):=Eu;simp only[List.any_cons,ih];show (KR (.int (x:Int)) (.int (k:Int))||decide (k∈l))=_;rw[ex];by_cases hx:x=k
   ·refine eqE hx ?_;simp
   ·rw[beq_false_of_ne hx,qaJ]
    by_cases hk:k∈l
    ·rw[decide_eq_true hk,decide_eq_true (qav _ hk)]
    ·rw[decide_eq_false hk,decide_eq_false λq=>(JM.mp q).elim (λe=>hx e.symm) hk]
 rw[e2];rfl
end
section
variable {S:List Nat}
def l9.pre {t:MH} (K:l9 (g++t) h' S) (hs: ∀a∈S,g.length<=a): ∃t',h'=g++t':=by
 refine⟨h'.drop g.length,?_⟩;have hl:=K.len;rw[Jz] at hl
 have:g=h'.take g.length:=by
  refine tW (by rw[Kz];exact Zt (Nat.le_min_of_le_of_le (Jv _) (Jl (Jo _ _) hl)) (JN (JQ (YD _ _)))) λi o hi=>?_;rw[List.getElem?_take,if_pos (kD hi)];exact K.at' i o (λq=>absurd (hs i q) (qaP.mpr (kD hi))) (jS hi)
 conv=>rhs;lhs;rw[this]
 exact(KG ..).symm
end
section
variable {h0:MH}
structure kQ (M:Mc R.α) (p k:Nat):Prop where
 st:M.start<M.aa.length
 fk: ∀ys∈M.aa,∀a∈ys,a.t<M.aa.length/\dh a.up/\dh a.lo/\R.D p k a.w/\a.w≠R.zero
 fst:R.D p k M.first
 ed: ∀e∈M.aj,R.D p k e
 bd:4*p+k<=3800
 n:M.aa.length<=300
 c:M.ax<=300
def xi (M:Mc R.α):List (List Nat):=M.aa.map λr=>r.map Ar.t
def Al (bc:List (List Nat)) (mb:List Bool):Prop:= ∀ (s:Nat) xs,mb[s]?=Qa Qe->bc[s]?=Qa xs-> ∀o∈xs,mb[o]?=Qa Qe
def xD (M:Mc R.α) (k:Nat):Bool:=!@decide (M.aj[k]?.getD R.zero=R.zero) (R.ft _ _)
structure VE (M:Mc R.α) (ks:List Nat) (mb1 mb2:List Bool) (bc:List (List Nat)):Prop where
 l1:mb1.length=M.aa.length
 m1:VF [M.start] (xi M) mb1
 c1:Al (xi M) mb1
 l2:mb2.length=M.aa.length
 m2:VF (nX (xD M) M.aa.length) bc mb2
 c2:Al bc mb2
 b2:m3 M M.aa.length 0 bc
 ks:ks=nX (λk=>mb1[k]?.getD Qb && mb2[k]?.getD Qb) M.aa.length
def cu (M:Mc R.α) (k:Nat):R.α:=M.aj[k]?.getD R.zero
def o7 (ks:List Nat) (xs:List (Ar R.α)):List (Ar R.α):=xs.filterMap λa=>if a.t∈ks then Qa {a with t:=ks.idxOf a.t} else Qd
inductive oX (M:Mc R.α) (ks:List Nat) (T:Mc R.α):Prop
 |tw (h1:M.start∈ks) (h2:M.first≠R.zero) (ha:T.aa=ks.map λk=>o7 ks (az M k)) (he:T.aj=ks.map (cu M)) (hs:T.start=ks.idxOf M.start) (hf:T.first=M.first):oX M ks T
 |nj (h1:M.start∉ks\/M.first=R.zero) (ha:T.aa= [[]]) (he:T.aj= [R.zero]) (hs:T.start=0) (hf:T.first=R.da):oX M ks T
def zU {p:Nat->Bool} (h:k∈nX p n):k<n/\p k=true:=by
 have:=Kx.mp h
 exact⟨KH.mp this.1,this.2⟩
theorem Ee {p:Nat->Bool}:(nX p n).Nodup:=qad.filter _
def ak.rk (I:ak R h L M) (hk:k<M.aa.length):(M.aj.map R.e)[k]?=Qa (R.e (cu M k)):=by
 have:k<M.aj.length:=by rw[I.di];exact hk
 delta cu;refine(JA).trans ?_;rw[Jn this];rfl
structure TS (h g:MH) (m D aK:Nat) (ks l:List Nat) (L:Ly) (M:Mc R.α):Prop where
 pre: ∃t,g=h++t
 kK:g[aK]?=Qa (.list (dw ks))
 dD: ∃ep,g[D]?=Qa (.dict ep (sJ l 0))
 I:ak R g L M
 em:L.m=m
 fg: ∀a∈fg L,h.length<=a/\a≠aK/\a≠D
def TS.ng {l:List Nat}{L':Ly}{M':Mc R.α} (S:TS h g m D aK ks l L M) (K:l9 g g' (Tactic.fg L)) (I':ak R g' L' M') (em:L'.m=L.m) (ho: ∀a∈Tactic.fg L',a∈Tactic.fg L\/g.length<=a):TS h g' m D aK ks l L' M':=by
 refine S.pre.elim λt zq36=>?_;obtain rfl:=zq36;obtain⟨ep,hD⟩:=S.dD;have lt:h.length<=(h++t).length:=by rw[Jz];exact Jo _ _
 refine⟨K.pre λa ha=>(S.fg a ha).1,K.at' _ _ (λq=>(S.fg _ q).2.1 rfl) S.kK,⟨ep,K.at' _ _ (λq=>(S.fg _ q).2.2 rfl) hD⟩,I',em.trans S.em,λa ha=>?_⟩;rcases ho a ha with ha|ha
 ·exact S.fg a ha
 ·exact⟨Jl lt ha,Kd (Js (kD S.kK) ha),Kd (Js (kD hD) ha)⟩
def ak.og {ep:Option Nat} (I:ak R h L M) (hD:h[D]?=Qa (.dict ep es)):ak R (h.set D o) L M:=by
 have g: ∀ (a:Nat) (x:ae),h[a]?=Qa x->(∀ep es,x≠ .dict ep es) ->(h.set D o)[a]?=Qa x:=λa x e hn=>j4 (λq=>by subst q;exact hn _ _ (Qa.inj (e.symm.trans hD))) e;refine⟨g _ _ I.fb nofun,g _ _ I.aa nofun,g _ _ I.aj nofun,I.len,I.di,λk r xs hr hx=>?_,I.nd,I.bb,I.ct,I.cl,I.ds.to λ_ _ _ e=>g _ _ e nofun⟩;refine(I.ar k r xs hr hx).mono λa x e ho=>?_;rcases ho with ⟨y,rfl⟩|rfl
 ·exact g _ _ e nofun
 ·obtain⟨as,h1,_⟩:=I.ar k a xs hr hx
  refine g _ _ e ?_;rw[h1] at e;refine lW e ?_
  nofun
def TS.kf {l:List Nat}{ep:Option Nat} (S:TS h g m D aK ks l L M) (hh:h.length<=D) (hx:x∉l):TS h (g.set D (.dict ep (sJ (l++ [x]) 0))) m D aK ks (l++ [x]) L M:=by
 refine S.dD.elim λep' zq33=>?_;refine S.pre.elim λt zq32=>?_;obtain rfl:=zq32;exact⟨⟨_,sI hh⟩,j4 (cj zq33 S.kK nofun) S.kK,⟨ep,kO zq33⟩,S.I.og zq33,S.em,S.fg⟩
theorem WJ {r:Nat}: ∀a∈Tactic.fg (L.more r),a∈Tactic.fg L\/a=r:=λa ha=>by
 simp only[Tactic.fg,Ly.more,JM,Zd,JB,or_false] at ha ⊢;rcases ha with h|h|h|h|h
 ·exact .inl (.inl h)
 ·exact .inl (.inr (.inl h))
 ·exact .inl (.inr (.inr (.inl h)))
 ·exact .inl (.inr (.inr (.inr h)))
 ·exact .inr h
structure ST (M:Mc R.α) (ks:List Nat) (i j:Nat) (T:Mc R.α):Prop where
 al:T.aa.length=ks.length
 a: ∀ (m k:Nat),ks[m]?=Qa k->T.aa[m]?=Qa (if m<i then o7 ks (az M k) else if m=i then o7 ks ((az M k).take j) else[])
 e: ∀ (m k:Nat),ks[m]?=Qa k->T.aj[m]?=Qa (if m<i then cu M k else R.zero)
 c:T.ax<=i*300+j
def Wk:o7 ks (xs++ [a])=o7 ks xs++if a.t∈ks then[{a with t:=ks.idxOf a.t}] else[]:=by
 delta o7;refine List.filterMap_append.trans ?_
 congr 1
 by_cases h:a.t∈ks
 ·simp [h]
 ·simp [h]
def ST.iw {T:Mc R.α} (S:ST M ks i j T) (hk:ks[i]?=Qa k) (ha:(az M k)[j]?=Qa a) (hn:a.t∉ks):ST M ks i (j+1) T:=by
 refine⟨S.al,λm k' hk'=>?_,S.e,Zh S.c⟩;rw[S.a m k' hk'];by_cases h1:m<i
 ·rw[if_pos h1,if_pos h1]
 ·rw[if_neg h1,if_neg h1]
  by_cases h2:m=i
  ·subst h2
   rw[hk] at hk';refine lW hk' ?_;rw[if_pos rfl,if_pos rfl,Kt,ha];show Qa _=Qa (o7 ks (_++ [a]));rw[Wk,if_neg hn,Zm]
  ·rw[if_neg h2,if_neg h2]
def ST.add {T:Mc R.α} (S:ST M ks i j T) (hk:ks[i]?=Qa k) (ha:(az M k)[j]?=Qa a) (hn:a.t∈ks):ST M ks i (j+1) (T.fk i {a with t:=ks.idxOf a.t}):=by
 refine⟨by show (T.aa.set i _).length=_;rw[J0];exact S.al,λm k' hk'=>?_,S.e,by have:=S.c;show T.ax+1<=_;exact Jl (JG this (Jv _)) (Jx (J9 _ _ _))⟩;show (T.aa.set i (T.aa[i]?.getD []++ [{a with t:=ks.idxOf a.t}]))[m]?=_;by_cases h2:i=m
 ·subst h2
  rw[hk] at hk';refine lW hk' ?_;rw[JV (by rw[S.al];exact jY hk:i<T.aa.length),S.a i k hk,if_neg (Zb _),if_pos rfl,if_neg (Zb _),if_pos rfl,Kt,ha];show Qa _=Qa (o7 ks (_++ [a]));rw[Wk,if_pos hn];rfl
 ·rw[JZ h2,S.a m k' hk']
  by_cases h1:m<i
  ·rw[if_pos h1,if_pos h1]
  ·rw[if_neg h1,if_neg h1,if_neg (Ka h2),if_neg (Ka h2)]
def ST.next {T:Mc R.α} (S:ST M ks i (az M k).length T) (hk:ks[i]?=Qa k) (hl:(az M k).length<=300) (hE:T.aj.length=T.aa.length):ST M ks (i+1) 0 {T with aj:=T.aj.set i (cu M k)}:=by
 refine⟨S.al,λm k' hk'=>?_,λm k' hk'=>?_,Jl S.c (Jl (Jr hl _) (Jx (Nat.succ_mul i 300).symm))⟩
 ·rw[S.a m k' hk']
  by_cases h1:m<i
  ·rw[if_pos h1,if_pos (Zy h1)]
  ·rw[if_neg h1]
   by_cases h2:m=i
   ·subst h2
    rw[hk] at hk';refine lW hk' ?_;rw[if_pos rfl,if_pos (JT _),Zc]
   ·rw[if_neg h2,if_neg (Zz (JY (J8 (J7 h1) (Ka h2))))]
    by_cases h3:m=i+1
    ·rw[if_pos h3];rfl
    ·rw[if_neg h3]
 ·show (T.aj.set i (cu M k))[m]?=_
  by_cases h2:i=m
  ·subst h2
   rw[hk] at hk';refine lW hk' ?_;rw[JV (by rw[hE,S.al];exact jY hk:i<T.aj.length),if_pos (JT _)]
  ·rw[JZ h2,S.e m k' hk']
   by_cases h1:m<i
   ·rw[if_pos h1,if_pos (Zy h1)]
   ·rw[if_neg h1,if_neg (Zz (JY (J8 (J7 h1) h2)))]
structure kx (R:Rg) where
 g:MH
 L:Ly
 M:Mc R.α
 a:Option ab
 b:Option ab
structure TX (R:Rg) where
 h:MH
 L:Ly
 M:Mc R.α
 ks:List Nat
 m:Nat
 D:Nat
 aK:Nat
 o1:Option ab
 o3:Option ab
 o4:Option ab
 p:Nat
 k:Nat
def kc (X:TX R) (a b:Option ab):Internal.Frame:=Qa (.ref X.L.m)::X.o1::a::X.o3::X.o4::Qa (.ref X.aK)::Qa (.ref X.m)::Qa (.ref X.D)::b::nn 6
structure ww (X:TX R):Prop where
 I:ak R X.h X.L X.M
 G:kQ X.M X.p X.k
 ks: ∀x∈X.ks,x<X.M.aa.length
 nk:X.ks.Nodup
 n:X.ks.length<=300
 D:X.h.length<=X.D
abbrev cS (X:TX R) (l:List Nat) (s:kx R):Prop:=TS X.h s.g X.m X.D X.aK X.ks l s.L s.M
variable {X:TX R}{R':Fl->Internal.Frame->MH->Prop}
def TS.im {l:List Nat}{L1:Ly}{M1:Mc R.α} (S:TS h g m D aK ks l L1 M1) (I:ak R h L M):ak R g L M:=by obtain⟨t,rfl⟩:=S.pre;exact I.bz
def TS.up {l:List Nat}{L1:Ly}{M1:Mc R.α} (S:TS h g m D aK ks l L1 M1) {a:Nat} (e:h[a]?=Qa o):g[a]?=Qa o:=by obtain⟨t,rfl⟩:=S.pre;exact jS e
structure uk (X:TX R) (i:Nat) (s:kx R):Prop where
 S:cS X (X.ks.take i) s
 a:s.M.aa=JL i []
 e:s.M.aj=JL i R.zero
 c:s.M.ax=0
def d7 (k:Nat) {ep:Option Nat}{l:List Nat} (hD:h[D]?=Qa (.dict ep (sJ l 0))):nB .rc (.int k) (.ref D) h=Qa (decide (k∈l)):=by
 show ay ((kY h (.ref D)).bind _) ((dictAt h (.ref D)).bind λd=>au (j5 d.2 (.int k)) (Qa (j7 d.2 (.int k)).isSome))=_;rw[sO hD,oA hD];show au (j5 (sJ l 0) (.int k)) (Qa (j7 (sJ l 0) (.int k)).isSome)=_;rw[x6,WN];by_cases hk:k∈l
 ·rw[if_pos hk,decide_eq_true hk];rfl
 ·rw[if_neg hk,decide_eq_false hk];rfl
theorem sN {ep:Option Nat}{l:List Nat} (hD:h[D]?=Qa (.dict ep (sJ l 0))) (hk:k∈l) (hi:l.idxOf k=i):lG h (.ref D) (.int k)=Qa (.int i):=sd hD x6 (by rw[WN,if_pos hk,ZM,hi])
def ME {l:List Nat} (nk:l.Nodup) (hx:l[i]?=Qa x):l.idxOf x=i:=by
 rw[<-(Ju.mp hx).2];exact nk.idxOf_getElem i (jY hx)
theorem B9 {l:List Nat} (nk:l.Nodup) (hx:l[i]?=Qa x):x∉l.take i:=λhq=>by
 obtain⟨j,hj,e⟩:=Yu.mp hq;rw[Kz] at hj;rw[List.getElem_take] at e
 have:=Yw nk|>.mp (e.trans (Ju.mp hx).2.symm)
 exact absurd (this▸Js hj (YD _ _)) (Zb _)
theorem Ce {a:Nat} (ha:a∈ [L.aA,L.aE]):a∈Tactic.fg L:=(JM.mp ha).elim (λe=>e▸ .tail _ (.head _)) λha=>(JE.mp ha)▸ .tail _ (.tail _ (.head _))
abbrev zq:List Sm:= [.fq (.sb (.var 7) (.var 2)) (.bh (.var 6) oS [])]
def zdJ {s:kx R} (hd:5<=d) (O:ww X) (P:uk X i s) (hx:X.ks[i]?=Qa x) (q: ∀s',uk X (i+1) s'->R' .nx (kc X s'.a s'.b) s'.g):
  cq (ag P0 d) zq (kc X (Qa (.int x)) s.b) s.g R':=by
 have hl1:s.M.aa.length=i:=by rw[P.a,Zu]
 have hli:(X.ks.take i).length=i:=by rw[Kz,Yi (JK (jY hx))]
 have hxn:=B9 O.nk hx;have hil:=Js (jY hx) O.n;refine(LF (d:=d) (Jl (by decide) hd) P.S.I (by rw[hl1];exact Zx hil (by decide))).elim λg' zq29=>?_;have e1:=zq29.1;have S':=P.S.ng (zq29.2.2.sub λa ha=>Ce ha) zq29.2.1 rfl λa ha=>(WJ a ha).imp id λe=>Jx e.symm;rw[P.S.em] at e1;obtain⟨ep,hD⟩:=S'.dD;have e2:=E9 (v:=.int s.M.aa.length) hD (x6 (k:=x)) (by rw[Ig,hli];exact Zx hil (by decide));rw[Ie hxn (by rw[hl1,hli])] at e2;have S'':=S'.kf (ep:=bif (j7 (sJ (X.ks.take i) 0) (.int x)).isSome then ep else ep.map (· +1)) O.D hxn;rw[(by rw[Kt,hx];rfl:X.ks.take i++ [x]=X.ks.take (i+1))] at S'' e2;exact kC (.p (e1)<| .h (e2)<| .z (q ⟨_,s.L.more s.g.length,s.M.more,Qa (.int x),s.b⟩ ⟨S'',by show s.M.aa++ [[]]=_;rw[P.a,KA],by show s.M.aj++ [R.zero]=_;rw[P.e,KA],P.c⟩)) rfl
structure qj (X:TX R) (i j:Nat) (s:kx R):Prop where
 S:cS X X.ks s
 T:ST X.M X.ks i j s.M
abbrev bC:List Sm:= [.ite (.ew .rc (.aq (.var 8) 127961880028532) (.var 7)) [.expr (.bh (.var 6) 6386275 [.sub (.var 7) (.var 2),.aq (.var 8) 504397587826,.aq (.var 8) 465726563698,.aq (.var 8) 131277443786868,.sub (.var 7) (.aq (.var 8) 127961880028532)])] []]
def zdI {b:Nat}{y:Ar R.α}{s:kx R} (hd:5<=d) (O:ww X) (P:qj X i j s) (hx:X.ks[i]?=Qa x) (hje:(az X.M x)[j]?=Qa y) (hj:j<300) (hA:X.h[b]?=Qa (mC R y)) (ga:y.t<X.M.aa.length/\dh y.up/\dh y.lo/\R.D X.p X.k y.w/\y.w≠R.zero)
  (q: ∀s',qj X i (j+1) s'->R' .nx (kc X (Qa (.int x)) s'.b) s'.g):cq (ag P0 d) bC (kc X (Qa (.int x)) (Qa (.ref b))) s.g R':=by
 have S:=P.S;have T:=P.T;have hA':=S.up hA;obtain⟨ep,hD⟩:=S.dD;cases (inferInstance:Decidable (y.t∈X.ks)) with
 |isTrue hk=>
  obtain⟨g',e,I',K⟩:=zcX (d:=d) (s:=i) (a:={y with t:=X.ks.idxOf y.t}) (Jl (by decide) hd) S.I (by rw[T.al];exact(jY hx)) (by show X.ks.idxOf y.t<_;rw[T.al];exact Z4.mpr hk) ga.2.1 ga.2.2.1 ga.2.2.2.1 O.G.bd (Jt T.c (by
   have:i*300<=299*300:=Zq _ (JN (Js (jY hx) O.n))
   exact Js (Yv this hj) (Jw _ _))) ga.2.2.2.2
  rw[S.em] at e;exact kC (.v (vd hA')<| .b (d7 y.t hD)<| .t (decide_eq_true hk)<| .v (sN hD (Jq hx) (ME O.nk hx))<| .v (sg hA')<| .v (tu hA')<| .v (yz hA')<| .v (vd hA')<| .v (sN hD hk rfl)<| .p (e)<| .z (q ⟨g',s.L,_,s.a,Qa (.ref b)⟩ ⟨S.ng K I' rfl λa ha=> .inl ha,T.add hx hje hk⟩)) rfl
 |isFalse hk=>exact kC (.v (vd hA')<| .b (d7 y.t hD)<| .f (decide_eq_false hk)<| .z (q ⟨s.g,s.L,s.M,s.a,Qa (.ref b)⟩ ⟨S,T.iw hx hje hk⟩)) rfl
abbrev dC:Sm:= .fo [8] Qb (.sub (.aq (.var 0) 1634886515) (.var 2)) bC
def za3 {s:kx R} (hd:5<=d) (O:ww X) (P:qj X i 0 s) (hx:X.ks[i]?=Qa x): ∃s',qj X i (az X.M x).length s'/\exec (ag P0 d) dC (kc X (Qa (.int x)) s.b) s.g=Qa ((.nx,kc X (Qa (.int x)) s'.b),s'.g):=by
 refine(O.I.oq (O.ks x (Jq hx))).elim λr zq25=>zq25.elim λas zq26=>?_;rw[<-zq26.2.1.n];exact qf (c:=ag P0 d) (tg:=[8]) (many:=Qb) (a:=r) (e:=.sub (.aq (.var 0) 1634886515) (.var 2)) (b:=bC) (vs:=as.map .ref) (λs':kx R=>kc X (Qa (.int x)) s'.b) kx.g (λj=>qj X i j) s (zq26.2.1.le O.I zq26.2.2) rfl (λj s P=>P.S.up zq26.2.1.l) (by exact kJ (.v (nD (P.S.im O.I))<| .v (sl (P.S.im O.I).aa zq26.1)<| .z (ck (.ref r) s.g)) rfl) P λj v s' R1 _ hv P1 T1=>by
  refine(zq26.2.1.a j v hv).elim λb zq23=>zq23.elim λy zq24=>?_;refine eqB zq24.1 ?_;exact mL (zdI hd O P1 hx zq24.2.1 (Js (jY zq24.2.1) (Jl (O.I.cr _ zq26.2.2) O.G.c)) zq24.2.2 (O.G.fk _ zq26.2.2 y (Jq zq24.2.1)) T1.nx)
abbrev zp:List Sm:= [dC,.fq (.sb (.aq (.var 6) 1701733491) (.sub (.var 7) (.var 2))) (.sub (.aq (.var 0) 1701733491) (.var 2))]
def zdH {s:kx R} (hd:5<=d) (O:ww X) (P:qj X i 0 s) (hx:X.ks[i]?=Qa x) (q: ∀s',qj X (i+1) 0 s'->R' .nx (kc X s'.a s'.b) s'.g):cq (ag P0 d) zp (kc X (Qa (.int x)) s.b) s.g R':=by
 refine xEA (za3 (d:=d) hd O P hx) λs' P' e=>?_;have hxk:=Jq hx;have S:=P'.S;refine xE S.dD λep hD=>?_;refine xEAA (zT (s:=i) (cu X.M x) S.I (by rw[P'.T.al];exact jY hx)) λg' e2 I' K=>?_;exact kC (.s (e)<| .v (sU (S.im O.I))<| .v (sl (S.im O.I).aj (O.I.rk (O.ks x hxk)))<| .v ((S.em▸sU S.I:getAttr P0 s'.g (.ref X.m) lU=Qa (.ref s'.L.aE)))<| .v (sN hD hxk (ME O.nk hx))<| .h (e2)<| .z (q ⟨g',s'.L,_,Qa (.int x),s'.b⟩ ⟨S.ng K I' rfl λa ha=> .inl ha,P'.T.next hx (Jl (O.I.cr _ (by unfold az;rw[Jn (O.ks x hxk)];exact Zo (O.ks x hxk):az X.M x∈X.M.aa)) O.G.c) S.I.di⟩)) rfl
section
variable (hd:5<=d) (O:ww X)
include hd O
def d5:(dw X.ks).length<=100000:=by rw[m9];exact Jl O.n (by decide)
def za4 {s:kx R} (P:uk X 0 s): ∃s',uk X X.ks.length s'/\exec (ag P0 d) (.fo [2] Qb (.var 5) zq) (kc X s.a s.b) s.g=Qa ((.nx,kc X s'.a s'.b),s'.g):=by
 rw[<-m9];exact qf (c:=ag P0 d) (tg:=[2]) (many:=Qb) (a:=X.aK) (e:=.var 5) (b:=zq) (vs:=dw X.ks) (λs:kx R=>kc X s.a s.b) kx.g (λi=>uk X i) s (d5 hd O) rfl (λi s P=>P.S.kK) (by exact kJ (.z (ck (.ref X.aK) s.g)) rfl) P λi v s R1 _ hv P1 T1=>by
  obtain⟨x,hx,rfl⟩:=zY hv;exact mL (zdJ hd O P1 hx T1.nx)
def za2 {s:kx R} (P:qj X 0 0 s): ∃s',qj X X.ks.length 0 s'/\exec (ag P0 d) (.fo [2] Qb (.var 5) zp) (kc X s.a s.b) s.g=Qa ((.nx,kc X s'.a s'.b),s'.g):=by
 rw[<-m9];exact qf (c:=ag P0 d) (tg:=[2]) (many:=Qb) (a:=X.aK) (e:=.var 5) (b:=zp) (vs:=dw X.ks) (λs:kx R=>kc X s.a s.b) kx.g (λi=>qj X i 0) s (d5 hd O) rfl (λi s P=>P.S.kK) (by exact kJ (.z (ck (.ref X.aK) s.g)) rfl) P λi v s R1 _ hv P1 T1=>by
  obtain⟨x,hx,rfl⟩:=zY hv;exact mL (zdH hd O P1 hx T1.nx)
end
def uk.go {s:kx R} (P:uk X X.ks.length s):qj X 0 0 s:=by
 have S:=P.S;unfold cS at S;rw[Zc] at S;refine⟨S,by rw[P.a,Zu],λm k hk=>?_,λm k hk=>?_,by rw[P.c];exact Jy _⟩
 ·rw[P.a,Z0,if_pos (jY hk),if_neg (Ze _)]
  by_cases h0:m=0
  ·rw[if_pos h0];rfl
  ·rw[if_neg h0]
 ·rw[P.e,Z0,if_pos (jY hk),if_neg (Ze _)]
def ST.done {T:Mc R.α} (T':ST M ks ks.length 0 T) (hE:T.aj.length=T.aa.length):T.aa=ks.map (λk=>o7 ks (az M k))/\T.aj=ks.map (cu M):=by
 refine⟨tW (by rw[Jp];exact T'.al) λm y hy=>?_,tW (by rw[Jp];exact hE.trans T'.al) λm y hy=>?_⟩
 ·have hm:m<ks.length:=by rw[<-T'.al];exact jY hy
  have:=T'.a m _ (Jn hm)
  rw[if_pos hm] at this;simp only[JA,Jn hm];exact this.symm.trans hy
 ·have hm:m<ks.length:=by rw[<-T'.al,<-hE];exact jY hy
  have:=T'.e m _ (Jn hm)
  rw[if_pos hm] at this;simp only[JA,Jn hm];exact this.symm.trans hy
structure zfG (R:Rg) (h:MH) (M:Mc R.α) (ks:List Nat) (t:MH) (L':Ly) (T:Mc R.α):Prop where
 J:ak R (h++t) L' T
 ho: ∀a∈fg L',h.length<=a
 gA:oX M ks T
abbrev m3L' (m:Nat):Ly:=⟨m,m+1,m+2,[]⟩
def zbB {a:Nat} (ha:a∈fg (m3L' m)):m<=a/\a<=m+2:=by
 simp only[fg,JM,JB,or_false] at ha;rcases ha with rfl|rfl|rfl<;>lia
theorem zbN (k:Nat) {a:Nat}{l:List Nat} (ha:h[a]?=Qa (.list (dw l))):nB .oh (.int k) (.ref a) h=Qa (!decide (k∈l)):=SY (i7 ha)
def za1 {s0:kx R} (hd:5<=d) (O:ww X) (hs:X.M.start∈X.ks) (hz: ¬X.M.first=R.zero) (P:uk X 0 s0) (eg:s0.g=g) (ea:s0.b=Qd): ∃t L' T,∃s':kx R,exec (ag P0 d) (.fo [2] Qb (.var 5) zq) (kc X s0.a Qd) g=Qa ((.nx,kc X s'.a s'.b),s'.g)/\∃s2:kx R,exec (ag P0 d) (.fo [2] Qb (.var 5) zp) (kc X s'.a s'.b) s'.g=Qa ((.nx,kc X s2.a s2.b),s2.g)/\qj X X.ks.length 0 s2/\kP (ag P0 d) (.ref X.m) GK [.int (X.ks.idxOf X.M.start:Nat),R.e X.M.first] s2.g s2.g=Qa (.none,X.h++t)/\L'.m=X.m/\zfG R X.h X.M X.ks t L' T:=by
 subst eg;refine(za4 (d:=d) hd O P).elim λs1 zq17=>?_;have e1:=zq17.2;rw[ea] at e1;refine(za2 (d:=d) hd O zq17.1.go).elim λs2 zq16=>?_;have S:=zq16.1.S;refine(Nk (d:=d) (s:=X.ks.idxOf X.M.start) (Jl (by decide) hd) S.I (by rw[zq16.1.T.al];exact Z4.mpr hs) O.G.fst O.G.bd).elim λg' zq15=>?_;have e3:=zq15.1;have S':=S.ng zq15.2.2 zq15.2.1 rfl λa ha=> .inl ha;refine S'.pre.elim λt zq14=>?_;rw[S.em,zq14] at e3;exact⟨t,s2.L,{s2.M with start:=X.ks.idxOf X.M.start,first:=X.M.first},s1,e1,s2,zq16.2,zq16.1,e3,S.em,zq14▸zq15.2.1,λa ha=>(S'.fg a ha).1,.tw hs hz (zq16.1.T.done S.I.di).1 (zq16.1.T.done S.I.di).2 rfl rfl⟩
def OC {t0:MH}{o1 o2 o3 o4:Option ab} (I:ak R h L M) (G:kQ M p k) (hks: ∀x∈ks,x<M.aa.length) (nk:ks.Nodup) (hK:(h++t0)[aK]?=Qa (.list (dw ks))) (J:ak R (h++t0++t1) ⟨(h++t0).length,(h++t0).length+1,(h++t0).length+2,[]⟩ (M0 (R:=R))):
  ww (⟨h,L,M,ks,(h++t0).length,(h++t0++t1).length,aK,o1,o3,o4,p,k⟩:TX R)/\uk (⟨h,L,M,ks,(h++t0).length,(h++t0++t1).length,aK,o1,o3,o4,p,k⟩:TX R) 0 ⟨h++t0++t1++ [.dict (Qa 0) []],⟨(h++t0).length,(h++t0).length+1,(h++t0).length+2,[]⟩,M0,o2,Qd⟩:=by
 have hm:h.length<=(h++t0).length:=by rw[Jz];exact Jo _ _
 have kl:=nk.length_le_of_subset (l₂:=Zg M.aa.length) λx hx=>KH.mpr (hks x hx);rw[Zi] at kl;refine⟨⟨I,G,hks,nk,Jl kl G.n,Jl hm (by rw[Jz (as:=h++t0)];exact Jo _ _:(h++t0).length<=(h++t0++t1).length)⟩,⟨⟨t0++(t1++ [.dict (Qa 0) []]),by rw[<-JD,<-JD]⟩,jS (jS hK),⟨Qa 0,ap⟩,J.bz,rfl,λa ha=>?_⟩,rfl,rfl,rfl⟩
 have:=zbB ha
 exact⟨Jl hm this.1,λe=>absurd (e▸(kD hK)) (ZU.mpr this.1),λe=>absurd (e▸Jt this.2 (kD J.aj)) (Zb _)⟩
def B8 {o1 o2 o3 o4:Option ab} (hd:5<=d) (I:ak R h L M) (G:kQ M p k) (hks: ∀x∈ks,x<M.aa.length) (nk:ks.Nodup) (eg: ∃t,g=h++t) (hK:g[aK]?=Qa (.list (dw ks)))
  (q: ∀t L' T,ak R (h++t) L' T->(∀a∈fg L',h.length<=a) ->oX M ks T->Q (.ref L'.m) (h++t)):cq (ag P0 d) (lY.drop 5) (Qa (.ref L.m)::o1::o2::o3::o4::Qa (.ref aK)::nn 9) g (Internal.Fin Q):=by
 obtain⟨t0,rfl⟩:=eg;have I0:ak R (h++t0) L M:=I.bz;refine(Ij (d:=d) R (Jl (by decide) hd) (h++t0)).elim λt1 zq12=>?_;have I1:ak R (h++t0++t1) L M:=I0.bz;have hK1:=jS (t:=t1) hK;have hm:h.length<=(h++t0).length:=by rw[Jz];exact Jo _ _
 have nj:(M.start∉ks\/M.first=R.zero) -> ∃t',kP (ag P0 d) (.ref (h++t0).length) oS [] (h++t0++t1) (h++t0++t1)=Qa (.int 0,h++t')/\Q (.ref (h++t0).length) (h++t'):=λhb=>by
  refine(LF (d:=d) (Jl (by decide) hd) zq12.2 (by show 0<10000;decide)).elim λg' zq11=>?_;have K':=zq11.2.2;rw[JD] at K';obtain⟨t',rfl⟩:=K'.pre λa ha=>Jl hm (zbB (m:=(h++t0).length) (Ce (L:=m3L' (h++t0).length) ha)).1;exact⟨t',zq11.1,q t' _ _ zq11.2.1 (λa ha=>(WJ a ha).elim (λha=>Jl hm (zbB (m:=(h++t0).length) ha).1) λe=>e▸Jl hm (by rw[Jz (as:=h++t0)];exact Jo _ _)) (.nj hb rfl rfl rfl rfl)⟩
 cases (inferInstance:Decidable (M.start∈ks)) with
 |isFalse hs=>
  obtain⟨t',e2,q⟩:=nj (.inl hs);have hb:(!decide (M.start∈ks))=true:=by rw[decide_eq_false hs];rfl
  exact kC (.v (l8 I0)<| .p (zq12.1)<| .v (rG I1)<| .b (zbN M.start hK1)<| .t (hb)<| .t (hb)<| .p (e2)<| .z (q)) rfl
 |isTrue hs=>
  have hb:(!decide (M.start∈ks))=false:=by rw[decide_eq_true hs];rfl
  cases R.ft M.first R.zero with
  |isTrue hz=>
   exact(nj (.inr hz)).elim λt' zq8=>kC (.v (l8 I0)<| .p (zq12.1)<| .v (rG I1)<| .b (zbN M.start hK1)<| .f (hb)<| .v (vF I1)<| .v (l8 I1)<| .w (R.no)<| .k (R.qe M.first R.zero)<| .t (R.yes hz)<| .p (zq8.1)<| .z (zq8.2)) rfl
  |isFalse hz=>
   have zq7:=OC (o1:=o1) (o2:=o2) (o3:=o3) (o4:=o4) I G hks nk hK zq12.2;refine(za1 (d:=d) hd zq7.1 hs hz zq7.2 rfl rfl).elim λt zq2=>zq2.elim λL' zq3=>zq3.elim λT zq4=>zq4.elim λs1 zq5=>zq5.2.elim λs2 zq6=>?_;have em:=zq6.2.2.2.1;have em:L'.m=(h++t0).length:=em;obtain⟨ep,hD⟩:=zq6.2.1.S.dD;exact kC (.v (l8 I0)<| .p (zq12.1)<| .v (rG I1)<| .b (zbN M.start hK1)<| .f (hb)<| .v (vF I1)<| .v (l8 I1)<| .w (R.no)<| .k (R.qe M.first R.zero)<| .f (R.not hz)<| .c<| .s (zq5.1)<| .s (zq6.1)<| .v (rG (zq6.2.1.S.im I:ak R s2.g L M))<| .v (sN hD hs rfl)<| .v (vF (zq6.2.1.S.im I:ak R s2.g L M))<| .p (zq6.2.2.1)<| .z ((show Internal.Fin Q (.rt (.ref (h++t0).length)) [] (h++t) from em▸q t L' T zq6.2.2.2.2.J zq6.2.2.2.2.ho zq6.2.2.2.2.gA))) rfl
end
section
variable {h0:MH}
theorem zcM (B:m3 M M.aa.length 0 bc) (I:ak R h L M) (G: ∀ys∈M.aa,∀a∈ys,a.t<M.aa.length): ∀xs∈bc,xs.length<=100000/\∀o∈xs,o<M.aa.length:=λxs hx=>by
 have h2:=B.sum;rw[Zc,I.ct] at h2;refine⟨Jl (GI hx) (h2▸I.cl),λo ho=>?_⟩;obtain⟨k,hk,rfl⟩:=Yu.mp hx;exact((B.mem k _ (Jn hk) o).mp ho).elim λys zq34=>jY zq34.1
def zae {c:Cx}{e:Ex}{fr:Internal.Frame} (p:Nat->Bool) (hn:n<=100000) (hc:c.cn=200000) (hx: ∀i:Nat,(fr.set x (Qa (.int (i:Int))))[x]?=Qa (Qa (.int (i:Int)))) (e0:WE c fr it h λv g=>v= .fy n/\g=h)
  (step: ∀i,i<n-> ∀acc,WE c (fr.set x (Qa (.int i))) e (h++ [.list acc]) λv g=>v= .bool (p i)/\g=h++ [.list acc]):eval c (.comp (.var x) [x] Qb it [e]) fr h=Qa (.ref h.length,h++ [.list (dw (nX p n))]):=by
 refine W.eq (BO p (by rw[hc];exact Jt hn (by decide)) (Jl hn (by decide)) (e0.mono λv g q=>?_));refine eqE q.1 ?_;refine eqB q.2 ?_;refine⟨rfl,λi hi acc=>Wf ((step i hi acc).mono λv g q=>?_),hx,rfl,rfl⟩;refine eqB q.1 ?_;refine eqE q.2 ?_;exact zO ⟨λhb=>vY ⟨rfl,hb.symm⟩,λhb=>⟨rfl,hb.symm⟩⟩
theorem Rg.qn (a b:R.α) (h:MH):nB .ne (R.e a) (R.e b) h=Qa (!@decide (a=b) (R.ft a b)):=Internal.cj (R.fc h a b)
abbrev dB (L:Ly) (o1 o3 o4:Option ab):Internal.Frame:=Qa (.ref L.m)::o1::Qd::o3::o4::nn 10
theorem zcx {o1:Option ab} (hd:1<=d) (I:ak R h L M):eval (ag P0 d) (.comp (.var 9) [9] Qb (.call (.lit (.ty 491260897125)) [.bh (.var 0) rC []]) [.ew .ne (.sub (.aq (.var 0) lU) (.var 9)) (.aq (.aq (.var 0) nL) qZ)]) (dB L o1 Qd Qd) h=Qa (.ref h.length,h++ [.list (dw (nX (xD M) M.aa.length))]):=
 zae (xD M) (GH I) rfl (λ_=>rfl) (by exact kJ (.p (mK hd I)<| .c<| .z (ck (.fy M.aa.length) h)) (by kernel_rfl)) λi hi acc=>by
  have J:ak R (h++ [.list acc]) L M:=I.bz;exact kJ (.v (sU J)<| .v (sl J.aj (I.rk hi))<| .v (l8 J)<| .w (R.no)<| .k (R.qn (cu M i) R.zero)<| .z (ck (.bool (xD M i)) (h++ [.list acc]))) (by kernel_rfl)
theorem zcs {a1 a2:Nat}{o3:Option ab} (hd:1<=d) (I:ak R h L M) (h1:h[a1]?=Qa (.list (mb1.map ab.bool))) (h2:h[a2]?=Qa (.list (mb2.map ab.bool))) (l1:mb1.length=M.aa.length) (l2:mb2.length=M.aa.length):eval (ag P0 d) (.comp (.var 9) [9] Qb (.call (.lit (.ty 491260897125)) [.bh (.var 0) rC []]) [.qh Qb [.sub (.var 1) (.var 9),.sub (.var 4) (.var 9)]]) (dB L (Qa (.ref a1)) o3 (Qa (.ref a2))) h=Qa (.ref h.length,h++ [.list (dw (nX (λk=>mb1[k]?.getD Qb && mb2[k]?.getD Qb) M.aa.length))]):=
 zae _ (GH I) rfl (λ_=>rfl) (by exact kJ (.p (mK hd I)<| .c<| .z (ck (.fy M.aa.length) h)) (by kernel_rfl)) λi hi acc=>by
  have e1:=Jn (l:=mb1) (i:=i) (l1▸hi);have e2:=Jn (l:=mb2) (i:=i) (l2▸hi)
  generalize mb1[i]'(l1▸hi)=b1 at e1
  generalize mb2[i]'(l2▸hi)=b2 at e2
  simp only[e1,e2];cases b1 with
  |false=>exact kJ (.v ((sl (jS (t:=[.list acc]) h1) (xJ e1)))<| .c<| .z (ck (.bool Qb) (h++ [.list acc]))) (by kernel_rfl)
  |true=>exact kJ (.v ((sl (jS (t:=[.list acc]) h1) (xJ e1)))<| .c<| .v ((sl (jS (t:=[.list acc]) h2) (xJ e2)))<| .z (ck (.bool b2) (h++ [.list acc]))) (by kernel_rfl)
def zbG (hd:1<=d) (I:ak R h L M): ∃t,∃b:Nat,jZ (ag P0 d) (.ai 125) [.ref L.m] h=Qa (.ref b,h++t)/\tM (h++t) b (xi M):=by
 obtain⟨v,g,e,t,b,rfl,rfl,q⟩:=W.get (mJ (P:=P0) (d:=d) rfl (FD (Q:=λv g=> ∃t b,v= .ref b/\g=h++t/\tM (h++t) b (xi M)) hd I λt b A=>⟨t,b,rfl,rfl,A⟩));exact⟨t,b,e,q⟩
structure Sg (h t:MH) (n a:Nat) (fs:List Nat) (bc:List (List Nat)) (mb:List Bool):Prop where
 l:mb.length=n
 B:VF fs bc mb
 c:Al bc mb
 at':(h++t)[a]?=Qa (.list (mb.map ab.bool))
def Mf {f b:Nat}{fs:List Nat} (hd:2<=d) (I:ak R h L M) (hf:h[f]?=Qa (.list (dw fs))) (A:tM h b bc) (hl:bc.length=M.aa.length) (vb: ∀s∈fs,s<M.aa.length) (ri:fs.length<=10000) (yu: ∀xs∈bc,xs.length<=100000/\∀o∈xs,o<M.aa.length):
  ∃t,∃a:Nat,jZ (ag P0 d) (.ai 124) [.ref L.m,.ref f,.ref b] h=Qa (.ref a,h++t)/\∃mb,Sg h t M.aa.length a fs bc mb:=by
 refine xEEA (W.get (mJ (P:=P0) (d:=d) rfl (zb9 (Q:=λv g=> ∃t a,v= .ref a/\g=h++t/\∃mb,Sg h t M.aa.length a fs bc mb) hd I hf A hl vb ri yu λmb t l B c m=>⟨t,_,rfl,rfl,mb,l,B,c,m⟩))) λv g e cv=>?_;refine xEEAA cv λt a gq mu q=>?_;subst gq;subst mu;exact⟨t,a,e,q⟩
def RT (hd:2<=d) (I:ak R h L M) (ht: ∀ys∈M.aa,∀a∈ys,a.t<M.aa.length): ∃t,∃b:Nat,jZ (ag P0 d) (.ai 123) [.ref L.m] h=Qa (.ref b,h++t)/\∃bc,m3 M M.aa.length 0 bc/\tM (h++t) b bc:=by
 refine xEEA (W.get (mJ (P:=P0) (d:=d) rfl (RQ (Q:=λv g=> ∃t b,v= .ref b/\g=h++t/\∃bc,m3 M M.aa.length 0 bc/\tM (h++t) b bc) hd I ht λt bc B A=>⟨t,_,rfl,rfl,bc,B,A⟩))) λv g e cv=>?_;refine xEEAA cv λt b gq mu q=>?_;subst gq;subst mu;exact⟨t,b,e,q⟩
def zf4 (hd:5<=d) (I:ak R h L M) (G:kQ M p k): ∃t,∃b:Nat,jZ (ag P0 d) (.ai 125) [.ref L.m] (h++ [.list [.int M.start]])=Qa (.ref b,h++ [.list [.int M.start]]++t)/\∃t2,∃a:Nat,jZ (ag P0 d) (.ai 124) [.ref L.m,.ref h.length,.ref b] (h++ [.list [.int M.start]]++t)=Qa (.ref a,h++t2)/\∃mb,Sg h t2 M.aa.length a [M.start] (xi M) mb:=by
 refine(zbG (d:=d) (h:=h++ [.list [.int M.start]]) (Jl (by decide) hd) I.bz).elim λt zq20=>zq20.elim λb zq21=>?_;obtain⟨t2,a,e2,mb,m⟩:=Mf (d:=d) (f:=h.length) (fs:=[M.start]) (Jl (by decide) hd) I.bz.bz (jS ap) zq21.2 (Jp ..) (λs hs=>by rw[JE.mp hs];exact G.st) (by show 1<=10000;decide) λxs hx=>by
  obtain⟨ys,hy,rfl⟩:=JJ.mp hx;refine⟨by rw[Jp];exact Jl (I.cr _ hy) I.cl,λo ho=>?_⟩;obtain⟨a,ha,rfl⟩:=JJ.mp ho;exact(G.fk ys hy a ha).1
 have hg:((h++ [ae.list [.int M.start]])++t)++t2=h++([ae.list [.int M.start]]++t++t2):=by rw[JD,JD,JD]
 exact⟨t,b,zq21.1,[ae.list [.int M.start]]++t++t2,a,hg▸e2,mb,m.l,m.B,m.c,hg▸m.at'⟩
def zf3 (hd:5<=d) (I:ak R h L M) (G:kQ M p k): ∃t,∃b:Nat,jZ (ag P0 d) (.ai 123) [.ref L.m] (h++ [.list (dw (nX (xD M) M.aa.length))])=Qa (.ref b,h++ [.list (dw (nX (xD M) M.aa.length))]++t)/\∃t2,∃a:Nat,jZ (ag P0 d) (.ai 124) [.ref L.m,.ref h.length,.ref b] (h++ [.list (dw (nX (xD M) M.aa.length))]++t)=Qa (.ref a,h++t2)/\∃mb bc,m3 M M.aa.length 0 bc/\Sg h t2 M.aa.length a (nX (xD M) M.aa.length) bc mb:=by
 refine(RT (d:=d) (h:=h++ [.list (dw (nX (xD M) M.aa.length))]) (Jl (by decide) hd) I.bz (λys hy a ha=>(G.fk ys hy a ha).1: ∀ys∈M.aa,∀a∈ys,a.t<M.aa.length)).elim λt zq15=>zq15.elim λb zq16=>zq16.2.elim λbc zq17=>?_;refine(Mf (d:=d) (f:=h.length) (fs:=nX (xD M) M.aa.length) (Jl (by decide) hd) I.bz.bz (jS ap) zq17.2 zq17.1.len (λs hs=>(zU hs).1) (Jl WD I.bb) (zcM zq17.1 I (λys hy a ha=>(G.fk ys hy a ha).1: ∀ys∈M.aa,∀a∈ys,a.t<M.aa.length))).elim λt2 zq12=>zq12.elim λa zq13=>zq13.2.elim λmb zq14=>?_;have hg:((h++ [ae.list (dw (nX (xD M) M.aa.length))])++t)++t2=h++([ae.list (dw (nX (xD M) M.aa.length))]++t++t2):=by rw[JD,JD,JD]
 exact⟨t,b,zq16.1,_,a,hg▸zq13.1,mb,bc,zq17.1,zq14.l,zq14.B,zq14.c,hg▸zq14.at'⟩
abbrev dA (M:Mc R.α) (mb1 mb2:List Bool):List Nat:=nX (λk=>mb1[k]?.getD Qb && mb2[k]?.getD Qb) M.aa.length
def AO (hd:6<=d) (I:ak R h L M) (G:kQ M p k) (q: ∀t L' T ks mb1 mb2 bc,ak R (h++t) L' T->(∀a∈fg L',h.length<=a) ->VE M ks mb1 mb2 bc->oX M ks T->Q (.ref L'.m) (h++t)):WF P0 d 133 [.ref L.m] h Q:=by
 refine kN (K:=5) hd (Qa (.ref L.m)::nn 14) lY (by kernel_rfl) λd' h'=>?_;have d1:1<=d':=Jl (by decide) h';refine(zf4 (d:=d') h' I G).elim λt1 zq7=>zq7.elim λb1 zq8=>zq8.2.elim λt2 zq9=>zq9.elim λa1 zq10=>zq10.2.elim λmb1 zq11=>?_;have m1:=zq11;have I2:ak R (h++t2) L M:=I.bz;refine(zf3 (d:=d') h' I2 G).elim λt3 zq1=>zq1.elim λb2 zq2=>zq2.2.elim λt4 zq3=>zq3.elim λa2 zq4=>zq4.2.elim λmb2 zq5=>zq5.elim λbc zq6=>?_;have m2:=zq6.2;exact oQ (a:=lY.take 5) (b:=lY.drop 5) (kC (.p (mK d1 I)<| .k (uc M.aa.length 0)<| .f ((beq_false_of_ne λe=>absurd G.st (by rw[KL.mp e];exact Ze _):((M.aa.length:Int)==0)=Qb))<| .v (rG I)<| .p (zq8.1)<| .p (zq10.1)<| .p (zcx (o1:=Qa (.ref a1)) d1 I2)<| .p (zq2.1)<| .p (zq4.1)<| .p (zcs (o3:=Qa (.ref (h++t2).length)) d1 (I2.bz:ak R (h++t2++t4) L M) (jS m1.at') m2.at' m1.l m2.l)<| .z (oH (B8 (Q:=Q) (g:=h++t2++t4++ [.list (dw (dA M mb1 mb2))]) (o1:=Qa (.ref a1)) (o2:=Qd) (o3:=Qa (.ref (h++t2).length)) (o4:=Qa (.ref a2)) h' I G (λx hx=>(zU hx).1) Ee ⟨t2++(t4++ [.list (dw (dA M mb1 mb2))]),by rw[JD,JD]⟩ ap λt' L' T J ho TR=>q t' L' T _ mb1 mb2 bc J ho ⟨m1.l,m1.B,m1.c,m2.l,m2.B,m2.c,zq6.1,rfl⟩ TR))) (by kernel_rfl))
end
structure qk where
 κ:Type
 dq:DecidableEq κ
 v:κ->ab
 eq: ∀a b,gm (v a) (v b)= @decide (a=b) (dq a b)
 kd: ∀a,lM (v a)=3
noncomputable instance (T:qk):DecidableEq T.κ:=T.dq
section
variable {T:qk}
def pV (T:qk) (es:List (ab×ab)):Prop:= ∀p∈es,∃a,p.1=T.v a
def qH {k:T.κ} (K:pV T es):j5 es (T.v k)=true:=by
 have h1:(lM (T.v k) !=0)=true:=by rw[T.kd];rfl
 delta j5;rw[h1];cases es with
 |nil=>rfl
 |cons p r=>
  obtain⟨a,e⟩:=K p (.head _);have q:SO (p::r)=Qa (lM (T.v k)):=by rw[T.kd,<-T.kd a,<-e];rfl
  rw[q,beq_self_eq_true];rfl
def Bc {k k':T.κ} (K:pV T es):j7 (es.map λp=>bif gm p.1 (T.v k) then(p.1,v) else p) (T.v k')=if k=k' then(j7 es (T.v k')).map λ_=>v else j7 es (T.v k'):=by
 induction es with
 |nil=>by_cases h:k=k'<;>simp [h] <;>rfl
 |cons p r ih=>
  refine xE (K p (.head _)) λa e=>?_;obtain⟨x,y⟩:=p;subst e;rw[JO,T.eq];by_cases h1:a=k
  ·subst h1
   rw[decide_eq_true rfl,cond_true,l5,l5,T.eq,(ih λp hp=>K p (.tail _ hp))];by_cases h2:a=k'
   ·rw[decide_eq_true h2,if_pos h2,if_pos h2];rfl
   ·rw[decide_eq_false h2,if_neg h2,if_neg h2];rfl
  ·simp only[decide_eq_false h1,cond_false,l5,l5,T.eq,(ih λp hp=>K p (.tail _ hp))]
   by_cases h2:a=k'
   ·refine eqE h2 ?_
    rw[decide_eq_true rfl,if_neg λe=>h1 e.symm,if_neg λe=>h1 e.symm]
   ·simp only[decide_eq_false h2,cond_false,cond_false]
def Bd {k k':ab}:j7 (es++ [(k,v)]) k'=(j7 es k').or (bif gm k k' then Qa v else Qd):=by
 induction es with
 |nil=>rw[qal,l5];rfl
 |cons p r ih=>
  rw[Yb,l5,l5,ih];cases gm p.1 k'<;>rfl
def Bb {k k':T.κ} (K:pV T es):j7 (nM es (T.v k) v) (T.v k')=if k=k' then Qa v else j7 es (T.v k'):=by
 delta nM;cases hg:j7 es (T.v k) with
 |some x=>
  simp only[YK,cond_true,Bc K];by_cases h:k=k'
  ·subst h
   rw[if_pos rfl,if_pos rfl,hg];rfl
  ·rw[if_neg h,if_neg h]
 |none=>
  simp only[YL,cond_false,Bd,T.eq];by_cases h:k=k'
  ·subst h
   rw[if_pos rfl,hg,decide_eq_true rfl];rfl
  ·rw[if_neg h,decide_eq_false h,cond_false,Option.or_none]
def UN {k:T.κ} (K:pV T es):pV T (nM es (T.v k) v)/\(nM es (T.v k) v).length<=es.length+1:=by
 delta nM;cases hg:j7 es (T.v k) with
 |some x=>
  simp only[YK,cond_true];refine⟨λp hp=>?_,by rw[Jp];exact Jo _ _⟩;obtain⟨q,hq,rfl⟩:=JJ.mp hp;cases gm q.1 (T.v k)
  ·exact K q hq
  ·exact K q hq
 |none=>
  simp only[YL,cond_false];refine⟨λp hp=>?_,by rw[Jz];exact Jv _⟩;rcases Zd.mp hp with hp|hp
  ·exact K p hp
  ·rw[JE.mp hp];exact⟨k,rfl⟩
def Po {k:T.κ} (K:pV T es) (nd:(es.map (·.1)).Nodup):((nM es (T.v k) v).map (·.1)).Nodup:=by
 delta nM;cases hg:j7 es (T.v k) with
 |some x=>
  simp only[YK,cond_true,Kw,show ((λp:ab×ab=>p.1) ∘ λp=>bif gm p.1 (T.v k) then(p.1,v) else p)=λp=>p.1 from funext λp=>by show (bif gm p.1 (T.v k) then(p.1,v) else p).1=p.1;cases gm p.1 (T.v k)<;>rfl];exact nd
 |none=>
  simp only[YL,cond_false,JU];refine Kq.mpr ⟨nd,List.Pairwise.cons (λ_ h=>absurd h JB) .nil,λa ha b hb e=>?_⟩;rw[JE.mp hb] at e;obtain⟨p,hp,rfl⟩:=JJ.mp ha
  have:=List.find?_eq_none.mp (Option.map_eq_none_iff.mp hg) p hp
  rw[e,T.eq,decide_eq_true rfl] at this;exact this rfl
end
abbrev GJ (i j:Nat):ab:= .ba [.int (i:Int),.int (j:Int)]
def ze2:gm (GJ i j) (GJ i' j')=decide ((i,j)=(i',j')):=by
 have e: ∀ {a b:Nat},((a:Int)==(b:Int))=decide (a=b):=λ{a b} =>by
  by_cases h:a=b
  ·subst h;simp
  ·exact(decide_eq_false h)▸beq_false_of_ne λe=>h (YM.inj e)
 show (((i:Int)==(i':Int)) && (((j:Int)==(j':Int)) && Qe))=_;rw[e,e,Yk,<-Bool.decide_and,decide_eq_decide];exact(qba.injEq ..).symm▸Iff.rfl
abbrev lL:qk:=⟨Nat×Nat,inferInstance,λp=>GJ p.1 p.2,λ_ _=>ze2,λ_=>rfl⟩
def AU {s t:List Nat}:((⟨s.toArray⟩:PySem.Str)==⟨t.toArray⟩)=decide (s=t):=by
 by_cases hs:s=t
 ·subst hs;simp
 ·rw[decide_eq_false hs]
  exact beq_false_of_ne λe=>hs (congrArg (λx:PySem.Str=>x.cps.toList) e)
def SU {a b:List Nat×List Nat}:gm (.ba [.str a.1,.str a.2]) (.ba [.str b.1,.str b.2])=decide (a=b):=by
 show (((⟨a.1.toArray⟩:PySem.Str)==⟨b.1.toArray⟩) && (((⟨a.2.toArray⟩:PySem.Str)==⟨b.2.toArray⟩) && Qe))=_;rw[AU,AU,Yk,<-Bool.decide_and,decide_eq_decide];exact Prod.ext_iff.symm
abbrev jT:qk:=⟨List Nat×List Nat,inferInstance,λp=> .ba [.str p.1,.str p.2],λ_ _=>SU,λ_=>rfl⟩
section
variable {T:qk}{h0:MH}
def lC (R:Rg) (n:Nat):List R.α:=JL n R.zero
structure RW (T:qk) (R:Rg) (h g:MH) (D N c:Nat) (Ad:T.κ->Option Nat) (V:T.κ->List R.α):Prop where
 pre: ∃t,g=h++t
 qy:h.length<=D
 dd: ∃ep es,g[D]?=Qa (.dict ep es)/\pV T es/\es.length<=c/\∀k,j7 es (T.v k)=(Ad k).map ab.ref
 inj: ∀k k' a,Ad k=Qa a->Ad k'=Qa a->k=k'
 nf: ∀k a,Ad k=Qa a->h.length<=a
 row: ∀k a,Ad k=Qa a->g[a]?=Qa (.list ((V k).map R.e))
 qv: ∀k,Ad k=Qd->V k=lC R N
 len: ∀k,(V k).length=N
 sm: ∃e es,g[D]?=Qa (.dict (Qa e) es)/\(es.map (·.1)).Nodup
def cw {β:Type} (f:T.κ->β) (k:T.κ) (x:β):T.κ->β:=λa=>if a=k then x else f a
theorem jX {f:T.κ->β}{k:T.κ}{x:β}:cw f k x k=x:=if_pos rfl
theorem j3 {f:T.κ->β}{k a:T.κ}{x:β} (h: ¬a=k):cw f k x a=f a:=if_neg h
def RW.bz {t:MH}{N:Nat}{Ad:T.κ->Option Nat}{V:T.κ->List R.α} (S:RW T R h g D N c Ad V):RW T R h (g++t) D N c Ad V:=by
 refine S.pre.elim λt0 zq9=>?_;obtain rfl:=zq9;exact S.dd.elim λep zq7=>zq7.elim λes zq8=>⟨⟨_,JD ..⟩,S.qy,⟨ep,es,jS zq8.1,zq8.2⟩,S.inj,S.nf,λk a ha=>jS (S.row k a ha),S.qv,S.len,S.sm.elim λe q=>q.elim λes q=>⟨e,es,jS q.1,q.2⟩⟩
def RW.qp {N a:Nat}{k:T.κ}{Ad:T.κ->Option Nat}{V:T.κ->List R.α}{x:List R.α} (S:RW T R h g D N c Ad V) (ha:Ad k=Qa a) (hx:x.length=N):RW T R h (g.set a (.list (x.map R.e))) D N c Ad (cw V k x):=by
 refine S.pre.elim λt0 zq6=>?_;obtain rfl:=zq6;refine S.dd.elim λep zq4=>zq4.elim λes zq5=>?_;have hr:=S.row k a ha;refine⟨⟨_,sI (S.nf k a ha)⟩,S.qy,⟨ep,es,j4 (cj hr zq5.1 nofun) zq5.1,zq5.2⟩,S.inj,S.nf,λk' a' ha'=>?_,λk' hn=>?_,λk'=>?_,S.sm.elim λe q=>q.elim λes q=>⟨e,es,j4 (cj hr q.1 nofun) q.1,q.2⟩⟩
 ·by_cases e:k'=k
  ·subst e
   rw[ha] at ha';refine lW ha' ?_;rw[jX];exact kO hr
  ·rw[j3 e]
   exact j4 (λq=>by subst q;exact e (S.inj _ _ _ ha' ha)) (S.row k' a' ha')
 ·rw[j3 λe=>by subst e;rw[ha] at hn;exact nomatch hn]
  exact S.qv k' hn
 ·by_cases e:k'=k
  ·refine eqE e ?_;rw[jX];exact hx
  ·exact(j3 e)▸S.len k'
def RW.kf {N a:Nat}{k:T.κ}{ep:Option Nat}{Ad:T.κ->Option Nat}{V:T.κ->List R.α}{x:List R.α} (S:RW T R h g D N c Ad V) (hD:g[D]?=Qa (.dict ep es)) (ha:g[a]?=Qa (.list (x.map R.e))) (hl:h.length<=a) (hn: ∀k,Ad k≠Qa a) (hx:x.length=N) (ep':Option Nat) (he:ep'.isSome=Qe):RW T R h (g.set D (.dict ep' (nM es (T.v k) (.ref a)))) D N (c+1) (cw Ad k (Qa a)) (cw V k x):=by
 refine S.pre.elim λt0 zq3=>?_;obtain rfl:=zq3;refine xEEAAA S.dd λep0 es0 h1 K hc h2=>?_;rw[hD] at h1;cases h1;refine⟨⟨_,sI S.qy⟩,S.qy,⟨ep',_,kO hD,(UN (k:=k) (v:=.ref a) K).1,Jl (UN (k:=k) (v:=.ref a) K).2 (Zn hc),λk'=>?_⟩,λk1 k2 a' e1 e2=>?_,λk' a' e=>?_,λk' a' e=>?_,λk' e=>?_,λk'=>?_,?_⟩
 ·rw[Bb K]
  by_cases e:k=k'
  ·subst e;rw[if_pos rfl,jX];rfl
  ·rw[if_neg e,j3 λq=>e q.symm,h2]
 ·by_cases q1:k1=k<;>by_cases q2:k2=k
  ·exact q1.trans q2.symm
  ·subst q1
   rw[jX] at e1;rw[j3 q2] at e2;obtain rfl:=Qa.inj e1;exact absurd e2 (hn _)
  ·subst q2
   rw[jX] at e2;rw[j3 q1] at e1;obtain rfl:=Qa.inj e2;exact absurd e1 (hn _)
  ·rw[j3 q1] at e1;rw[j3 q2] at e2
   exact S.inj _ _ _ e1 e2
 ·by_cases q1:k'=k
  ·subst q1;rw[jX] at e;cases e;exact hl
  ·rw[j3 q1] at e;exact S.nf _ _ e
 ·by_cases q1:k'=k
  ·subst q1;rw[jX] at e ⊢;cases e;exact j4 (cj hD ha nofun) ha
  ·rw[j3 q1] at e ⊢
   have:=S.row _ _ e
   exact j4 (cj hD this nofun) this
 ·by_cases q1:k'=k
  ·subst q1;rw[jX] at e;exact nomatch e
  ·rw[j3 q1] at e ⊢;exact S.qv _ e
 ·by_cases q1:k'=k
  ·subst q1;rw[jX];exact hx
  ·rw[j3 q1];exact S.len k'
 ·cases ep' with
  |none=>cases he
  |some e=>
   refine S.sm.elim λe' q=>q.elim λes' q=>⟨e,_,kO hD,Po K ?_⟩
   have:=q.1
   rw[hD] at this;cases this;exact q.2
def RW.ep {N:Nat}{Ad:T.κ->Option Nat}{V:T.κ->List R.α}{ep:Option Nat} (S:RW T R h g D N c Ad V) (hD:g[D]?=Qa (.dict ep es)) (b:Bool):(bif b then ep else ep.map (· +1)).isSome=true:=by
 refine xEEA S.sm λe es' q _=>?_;rw[hD] at q;cases q;cases b<;>rfl
end
section
variable {T:qk}
def fS (s:List Nat) (a b:Nat) (h:MH):slice h (.str s) 3 [.int a,.int b]=Qa (.str (ni s (min a s.length) (min b s.length)),h):=by
 have e: ∀n:Nat,xI s.length (.int n)=Qa (min n s.length):=λn=>by
  delta xI;simp only[ab.int?,qab];rw[MI (decide_eq_true (by omega)),KI]
 exact zgf (s:=s) (n:=3) (bs:=[.int a,.int b]) (p:=(min a s.length,min b s.length)) (by show ((xI s.length (.int a)).bind λx=>(xI s.length (.int b)).map λy=>(x,y))=_;rw[e,e];rfl)
def jw (u:List Nat) (i:Nat) (s:List Nat):Bool:=s== [] ||ni u (min i u.length) (min (i+1) u.length)==s
def Rx {s:List Nat} (hd:1<=d) (q:Q (.bool (jw u i s)) h):WF P0 d 129 [.str u,.int i,.str s] h Q:=by
 refine kN (K:=0) hd (Qa (.str u)::Qa (.int i)::Qa (.str s)::nn 6) xN rfl λd' h'=>?_;delta jw at q;exact kC (.k (xo s [])<| .br (s== []) (λhb=> .z ((show Q (.bool (s== [])) h by rw[hb] at q ⊢;exact q))) (λhb=> .c<| .q (fS u i (i+1))<| .k (xo (ni u (min i u.length) (min (i+1) u.length)) s)<| .z ((show Q (.bool (ni u (min i u.length) (min (i+1) u.length)==s)) h by rw[hb] at q;exact q)))) rfl
def RW.qa {N:Nat}{Ad:T.κ->Option Nat}{V:T.κ->List R.α} (S:RW T R h g D N c Ad V) (I:ak R h L M):ak R g L M:=by obtain⟨t,rfl⟩:=S.pre;exact I.bz
def zeJ {a:Nat} (ha:h[a]?=Qa (.list [R.e R.zero])) (hn:n<=10000):pE .mul (.ref a) (.int n) h=Qa (.ref h.length,h++ [.list ((lC R n).map R.e)]):=by
 refine W.eq (AK (n:=n) ha (oR (by omega)) (by show 1*_<=_;rw[Z5];exact oR (by omega)) ⟨rfl,?_⟩);rw[A8,show JL n (R.e R.zero)=(lC R n).map R.e from(Xq ..).symm]
theorem Rg.yo (R:Rg) (g:MH) (hn:n<=10000):pE .mul (.ref g.length) (.int n) (g++ [.list [R.e R.zero]])=Qa (.ref (g++ [ae.list [R.e R.zero]]).length,g++ [.list [R.e R.zero]]++ [.list ((lC R n).map R.e)]):=zeJ ap hn
def zbd {l:List R.α}{a:Nat} (x:R.α) (hr:h[a]?=Qa (.list (l.map R.e))) (hs:s<l.length):m7 h (.ref a) (.int s) (R.e x)=Qa (h.set a (.list ((l.set s x).map R.e))):=by rw[zbe hr (by rw[Jp];exact hs),map_set']
def zlen:(lC R n).length=n:=by unfold lC;rw[Zu]
def HK (hd:2<=d) (I:ak R h L M) (hs:M.start<M.aa.length) (q:Q (.ref (h.length+1)) (h++ [.list [R.e R.zero],.list (((lC R M.aa.length).set M.start M.first).map R.e)])):WF P0 d 128 [.ref L.m] h Q:=by
 refine kN (K:=1) hd (Qa (.ref L.m)::nn 7) uX rfl λd' h'=>?_;have e2:=zeJ (h:=h++ [ae.list [R.e R.zero]]) (R:=R) (n:=M.aa.length) ap I.bb;rw[(by rw[Jz];rfl:(h++ [ae.list [R.e R.zero]]).length=h.length+1),JD] at e2;have e3:=zbd (s:=M.start) M.first (oJ (h:=h) (j:=1) (t:=[.list [R.e R.zero],.list ((lC R M.aa.length).map R.e)])) (by rw[zlen];exact hs);rw[A0] at e3;exact kC (.v (l8 I)<| .w (R.no)<| .p (mK (h:=h++ [.list [R.e R.zero]]) h' I.bz)<| .p (e2)<| .v (vF (I.bz:ak R (h++([ae.list [R.e R.zero]]++ [ae.list ((lC R M.aa.length).map R.e)])) L M))<| .v (rG (I.bz:ak R (h++([ae.list [R.e R.zero]]++ [ae.list ((lC R M.aa.length).map R.e)])) L M))<| .h (e3)<| .z ((q))) rfl
def Ih (z:T.κ) {ep:Option Nat} (hD:h[D]?=Qa (.dict ep es)) (K:pV T es):nB .oh ((T.v z)) (.ref D) h=Qa (!(j7 es ((T.v z))).isSome):=by
 refine SY ?_;show ay ((kY h (.ref D)).bind _) ((dictAt h (.ref D)).bind λd=>au (j5 d.2 ((T.v z))) (Qa (j7 d.2 ((T.v z))).isSome))=_;rw[sO hD,oA hD];show au (j5 es ((T.v z))) (Qa (j7 es ((T.v z))).isSome)=_;rw[qH K];rfl
def m5 (r:List R.α) (s:Nat) (x:R.α):List R.α:=r.set s (R.add (r[s]?.getD R.zero) x)
abbrev Sb (T:qk) (L:Ly) (D:Nat) (z:T.κ) (s:Nat) (x:R.α):Internal.Frame:=Qa (.ref L.m)::Qa (.ref D)::Qa ((T.v z))::Qa (.int s)::Qa (R.e x)::nn 6
def NE {a:Nat}{z:T.κ}{x:R.α}{ep:Option Nat}{l:List R.α}{F:Fl->Internal.Frame->MH->Prop} (hd:3<=d) (I:ak R g L M) (hD:g[D]?=Qa (.dict ep es)) (K:pV T es) (hk:j7 es ((T.v z))=Qa (.ref a)) (hr:g[a]?=Qa (.list (l.map R.e))) (hs:s<l.length) (hV: ∀y∈l,R.D p k y) (hx:R.D p k x) (hl:4*p+k<=3800)
  (q:F .nx (Sb T L D z s x) (g.set a (.list ((m5 l s x).map R.e)))):cq (ag P0 d) (pP.drop 1) (Sb T L D z s x) g F:=by
 exact kC (.v (l8 I)<| .v (sd hD (qH K) hk)<| .v (sl hr (yI (Un hs)))<| .q (R.pl hd (hV _ (Nl hs)) hx hl)<| .v (sd hD (qH K) hk)<| .h (zbd (R.add (at' l s) x) hr hs)<| .z ((q))) rfl
section
variable {D c s p k:Nat}{z:T.κ}{Ad:T.κ->Option Nat}{V:T.κ->List R.α}{x:R.α}{ep:Option Nat}{es:List (ab×ab)}
def R8 {a:Nat}{l:List R.α} (hd:4<=d) (I:ak R g L M) (hD:g[D]?=Qa (.dict ep es)) (K:pV T es) (hk:j7 es ((T.v z))=Qa (.ref a)) (hr:g[a]?=Qa (.list (l.map R.e))) (hs:s<l.length) (hV: ∀y∈l,R.D p k y) (hx:R.D p k x) (hl:4*p+k<=3800)
  (q:Q .none (g.set a (.list ((m5 l s x).map R.e)))):WF P0 d 126 [.ref L.m,.ref D,(T.v z),.int s,R.e x] g Q:=by
 exact kN (K:=3) hd (Sb T L D z s x) pP rfl λd' h'=>Sl (kC (.b (Ih z hD K)<| .f ((show (!(j7 es ((T.v z))).isSome)=Qb by rw[hk];rfl))<| .z (oH (NE h' I hD K hk hr hs hV hx hl (F:=Internal.Fin Q) q))) rfl)
abbrev W5 (R:Rg) (g:MH) (n D:Nat) (ep:Option Nat) (es:List (ab×ab)) (z:T.κ):MH:=qaW (g++ [ae.list [R.e R.zero]]++ [ae.list ((lC R n).map R.e)]) D (ae.dict (bif (j7 es ((T.v z))).isSome then ep else ep.map (· +1)) (nM es ((T.v z)) (.ref (g++ [ae.list [R.e R.zero]]).length)))
def ND (hd:4<=d) (I:ak R g L M) (hD:g[D]?=Qa (.dict ep es)) (K:pV T es) (hl':es.length<bb) (hk:j7 es ((T.v z))=Qd) (I3:ak R (W5 R g M.aa.length D ep es z) L M) (hD':(W5 R g M.aa.length D ep es z)[D]?=Qa (.dict ep' es')) (K':pV T es') (hk':j7 es' ((T.v z))=Qa (.ref (g++ [ae.list [R.e R.zero]]).length))
  (hr:(W5 R g M.aa.length D ep es z)[(g++ [ae.list [R.e R.zero]]).length]?=Qa (.list ((lC R M.aa.length).map R.e))) (hs:s<M.aa.length) (hx:R.D p k x) (hl:4*p+k<=3800)
  (q:Q .none ((W5 R g M.aa.length D ep es z).set (g++ [ae.list [R.e R.zero]]).length (.list ((m5 (lC R M.aa.length) s x).map R.e)))):WF P0 d 126 [.ref L.m,.ref D,(T.v z),.int s,R.e x] g Q:=by
 exact kN (K:=3) hd (Sb T L D z s x) pP rfl λd' h'=>Sl (kC (.b (Ih z hD K)<| .t ((show (!(j7 es ((T.v z))).isSome)=Qe by rw[hk];rfl))<| .v (l8 I)<| .w (R.no)<| .p (mK (Jl (by decide) h') (I.bz:ak R (g++ [ae.list [R.e R.zero]]) L M))<| .p (R.yo g I.bb)<| .h (E9 (v:=.ref (g++ [ae.list [R.e R.zero]]).length) (jS (t:=[ae.list ((lC R M.aa.length).map R.e)]) (jS (t:=[ae.list [R.e R.zero]]) hD)) (qH (k:=z) K) hl')<| .z (oH (NE h' I3 hD' K' hk' hr (by rw[zlen];exact hs) (λy hy=>by rw[Zk hy];exact R.ah (Jy _) (Jy _) R.bt: ∀y∈lC R M.aa.length,R.D p k y) hx hl (F:=Internal.Fin Q) q))) (by kernel_rfl))
theorem HW {l:List R.α}:(m5 l s x).length=l.length:=J0
def RW.gy (S:RW T R h g D M.aa.length c Ad V) (hA:Ad z=Qd) (hD:g[D]?=Qa (.dict ep es)):RW T R h (W5 R g M.aa.length D ep es z) D M.aa.length (c+1) (cw Ad z (Qa (g++ [ae.list [R.e R.zero]]).length)) V:=by
 have lg:h.length<=(g++ [ae.list [R.e R.zero]]).length:=by obtain⟨t0,rfl⟩:=S.pre;rw[Jz,Jz];exact Jl (Jo _ _) (Jo _ _)
 have S3:=(S.bz.bz:RW T R h (g++ [ae.list [R.e R.zero]]++ [ae.list ((lC R M.aa.length).map R.e)]) D M.aa.length c Ad V).kf (k:=z) (x:=lC R M.aa.length) (jS (jS hD)) ap lg (λk' e=>absurd (kD (S.row k' _ e)) (by rw[Jz];exact ZU.mpr (Jo _ _))) zlen (bif (j7 es ((T.v z))).isSome then ep else ep.map (· +1)) (S.ep hD _);have eV:cw V z (lC R M.aa.length)=V:=by
  funext a
  by_cases e:a=z
  ·refine eqB e ?_;rw[jX];exact(S.qv _ hA).symm
  ·exact j3 e
 rw[eV] at S3;exact S3
def RW.more (S:RW T R h g D M.aa.length c Ad V):RW T R h g D M.aa.length (c+1) Ad V:=by
 exact S.dd.elim λep zq8=>zq8.elim λes zq9=>⟨S.pre,S.qy,⟨ep,es,zq9.1,zq9.2.1,Zh zq9.2.2.1,zq9.2.2.2⟩,S.inj,S.nf,S.row,S.qv,S.len,S.sm⟩
end
def zi (D:Nat) (g g':MH) (Ad Ad':T.κ->Option Nat):Prop:= ∀a vs,a≠D->(∀k,Ad k≠Qa a) ->g[a]?=Qa (.list vs) ->g'[a]?=Qa (.list vs)/\∀k,Ad' k≠Qa a
def NC {N:Nat}{z:T.κ}{Ad:T.κ->Option Nat}{V:T.κ->List R.α}{x:R.α} (hd:4<=d) (I:ak R h L M) (S:RW T R h g D N c Ad V) (hN:N=M.aa.length) (hc:c<100000) (hs:s<N) (hV: ∀y∈V z,R.D p k y) (hx:R.D p k x) (hl:4*p+k<=3800)
  (q: ∀g' Ad',RW T R h g' D N (c+1) Ad' (cw V z (m5 (V z) s x)) ->(∀z' a',Ad z'=Qa a'->Ad' z'=Qa a') ->(∀z' a',Ad' z'=Qa a'->z'=z\/Ad z'=Qa a') ->zi D g g' Ad Ad'->Q .none g'):WF P0 d 126 [.ref L.m,.ref D,(T.v z),.int s,R.e x] g Q:=by
 subst hN;refine FH (Ad z) (λhA=>?_) λa hA=>?_
 ·refine S.dd.elim λep zq4=>zq4.elim λes zq5=>?_
  have S3:=S.gy hA zq5.1;refine S3.dd.elim λep' zq2=>zq2.elim λes' zq3=>?_;have hr:=S3.row z _ jX;have e:=S.qv z hA;have S4:=S3.qp (k:=z) (x:=m5 (V z) s x) jX (HW.trans (S.len z));rw[e] at hr S4 q;exact ND hd (S.qa I) zq5.1 zq5.2.1 (Jt zq5.2.2.1 (Zx hc (by decide))) (by rw[zq5.2.2.2,hA];rfl) (S3.qa I) zq3.1 zq3.2.1 (by rw[zq3.2.2.2,jX];rfl) hr hs hx hl (q _ _ S4 (λz' a' e=>by rw[j3 λq=>by rw[q,hA] at e;exact nomatch e];exact e) (λz' a' e=>by
   by_cases q:z'=z
   ·exact .inl q
   ·rw[j3 q] at e;exact .inr e) λb vs h0 h1 h2=>by
    have lb:=kD h2;have n1: ¬(g++ [ae.list [R.e R.zero]]).length=b:=λe=>by
     rw[<-e,Jz] at lb;exact ZU.mpr (Jo _ _) lb
    refine⟨j4 n1 (j4 (λe=>h0 e.symm) (jS (jS h2))),λk e=>?_⟩;by_cases q:k=z
    ·rw[q,jX] at e;exact n1 (Qa.inj e)
    ·rw[j3 q] at e;exact h1 k e)
 ·exact S.dd.elim λep zq6=>zq6.elim λes zq7=>R8 hd (S.qa I) zq7.1 zq7.2.1 (by rw[zq7.2.2.2,hA];rfl) (S.row z a hA) (by rw[S.len];exact hs) hV hx hl (q _ Ad (S.more.qp hA (HW.trans (S.len z))) (λ_ _ e=>e) (λ_ _ e=> .inr e) λ_ _ _ h1 h2=>⟨j4 (λe=>h1 z (hA.trans (congrArg Qa e))) h2,h1⟩)
def Ug (r e:List R.α):R.α:=(r.zip e).foldl (λo p=>R.add o (R.mul p.1 p.2)) R.zero
def RB (hd:4<=d) (I:ak R h L M) (q:Q (R.e R.zero) h):WF P0 d 127 [.ref L.m,.none] h Q:=by
 exact kN (K:=3) hd (Qa (.ref L.m)::Qa .none::nn 9) p9 rfl λd' h'=>kC (.v (l8 I)<| .w (R.no)<| .c2<| .q (R.nd h' R.bt (by decide))<| .z (q)) (by kernel_rfl)
abbrev zcz (R:Rg) (L:Ly) (a:Nat) (o:R.α) (z:Option ab):Internal.Frame:=Qa (.ref L.m)::Qa (.ref a)::Qa (.ai (112+R.i))::Qa (R.e o)::z::nn 6
abbrev zfo:List Sm:= [.fq (.nm 3) (.bh (.var 2) Hb [.var 3,.bh (.var 2) WQ [.sub (.var 1) (.var 4),.sub (.aq (.var 0) lU) (.var 4)]])]
def Ba {r e:List R.α} (h1:i<r.length) (h2:i<e.length):Ug (r.take (i+1)) (e.take (i+1))=R.add (Ug (r.take i) (e.take i)) (R.mul (at' r i) (at' e i)):=by
 delta Ug;simp only[Kt,Kt,Un h1,Un h2];rw[List.zip_append (by rw[Kz,Kz];omega),YR];rfl
def MW {a:Nat}{r:List R.α} (hd:3<=d) (I:ak R h L M) (ha:h[a]?=Qa (.list (r.map R.e))) (hr:r.length=M.aa.length) (h1: ∀x∈r,R.D p k x) (h2: ∀x∈M.aj,R.D p' k' x) (hl:4*(p+p')+(k+k'+M.aa.length)<=3800): ∃z,exec (ag P0 d) (.fo [4] Qb (.call (.lit (.ty GE)) [.bh (.var 0) rC []]) zfo) (zcz R L a R.zero Qd) h=Qa ((.nx,zcz R L a (Ug r M.aj) z),h)/\R.D (p+p') (k+k'+M.aa.length) (Ug r M.aj):=by
 have hN:=I.bb;obtain⟨⟨o,z⟩,P,e⟩:=kh (c:=ag P0 d) (x:=4) (n:=M.aa.length) (e:=.call (.lit (.ty GE)) [.bh (.var 0) rC []]) (b:=zfo) (σ:=R.α×Option ab) (λs=>zcz R L a s.1 s.2) (λ_=>h) (λi s=>s.1=Ug (r.take i) (M.aj.take i)/\R.D (p+p') (k+k'+i) s.1) (R.zero,Qd) (by omega) rfl
  (by exact kJ (.p (mK (Jl (by decide) hd) I)<| .c<| .z (ck (.fy M.aa.length) h)) (by kernel_rfl)) ⟨rfl,R.ah (Jy _) (Jy _) R.bt⟩ λi s X _ hi P T=>by
   have hi1:i<r.length:=by omega
   have hi2:i<M.aj.length:=by rw[I.di];exact hi
   have dm:=R.ah (Jv _) (Jo (k+k') i) (R.fj (h1 _ (Nl hi1)) (h2 _ (Nl hi2)));exact kC (.v (sl ha (yI (Un hi1)))<| .v (sU I)<| .v (sl I.aj (yI (Un hi2)))<| .q (R.ti hd (h1 _ (Nl hi1)) (h2 _ (Nl hi2)) (by omega))<| .q (R.pl hd P.2 dm (by omega))<| .z (T.nx (R.add s.1 (R.mul (at' r i) (at' M.aj i)),Qa (.int i)) ⟨by rw[Ba hi1 hi2,P.1],R.fw P.2 dm⟩)) rfl
 obtain⟨q,D⟩:o=Ug (r.take M.aa.length) (M.aj.take M.aa.length)/\R.D (p+p') (k+k'+M.aa.length) o:=P;subst q;rw[show r.take M.aa.length=r by rw[<-hr,Zc],show M.aj.take M.aa.length=M.aj by rw[<-I.di,Zc]] at D e;exact⟨z,e,D⟩
def Vj {a:Nat}{r:List R.α} (hd:4<=d) (I:ak R h L M) (ha:h[a]?=Qa (.list (r.map R.e))) (hr:r.length=M.aa.length) (h1: ∀x∈r,R.D p k x) (h2: ∀x∈M.aj,R.D p' k' x) (hl:4*(p+p')+(k+k'+M.aa.length)<=3800) (q:Q (R.e (Ug r M.aj)) h):WF P0 d 127 [.ref L.m,.ref a] h Q:=by
 exact kN (K:=3) hd (Qa (.ref L.m)::Qa (.ref a)::nn 9) p9 rfl λd' h'=>(MW h' I ha hr h1 h2 hl).elim λz zq1=>kC (.v (l8 I)<| .w (R.no)<| .c2<| .s (zq1.1)<| .q (R.nd h' zq1.2 hl)<| .z (q)) rfl
end
section
def Rg.add_zero (a:R.α):R.add a R.zero=a:=by rw[R.add_comm];exact R.zero_add a
def Rg.mul_zero (a:R.α):R.mul a R.zero=R.zero:=by rw[R.mul_comm];exact R.zero_mul a
def Rg.add_mul (a b c:R.α):R.mul (R.add a b) c=R.add (R.mul a c) (R.mul b c):=by rw[R.mul_comm,R.mul_add,R.mul_comm c a,R.mul_comm c b]
def Rg.swap (a b c:R.α):R.add a (R.add b c)=R.add b (R.add a c):=by rw[<-R.add_assoc,R.add_comm a b,R.add_assoc]
def pY (l:List R.α):R.α:=l.foldr R.add R.zero
theorem j8 {a:R.α}{l:List R.α}:pY (a::l)=R.add a (pY l):=rfl
theorem mQ {F G:β->R.α}{l:List β} (h: ∀x∈l,F x=G x):pY (l.map F)=pY (l.map G):=congrArg pY (ZI h)
def AS {F G:β->R.α}{y:R.α}{c:β}: ∀ {l:List β},l.Nodup->c∈l->(∀x∈l,x≠c->F x=G x) ->F c=R.add y (G c) ->pY (l.map F)=R.add y (pY (l.map G)):=by
 intro l
 induction l with
 |nil=>exact λ_ h=>absurd h JB
 |cons x l ih=>
  intro nd hc he hy;have nd:=JI.mp nd;simp only[JO,JO,j8,j8];rcases JM.mp hc with rfl|hc
  ·simp only[hy,mQ λz hz=>he z (.tail _ hz) λe=>nd.1 (e▸hz),R.add_assoc]
  ·simp only[ih nd.2 hc (λz hz=>he z (.tail _ hz)) hy,he x (.head _) λe=>nd.1 (e▸hc),R.swap]
def j6:List R.α->(Nat->R.α) ->Nat->R.α
 | [],_,_=>R.zero
 |x::r,b,o=>R.add (R.mul x (b o)) (j6 r b (o+1))
def mH {b:Nat->R.α}: ∀ {o:Nat},j6 (lC R n) b o=R.zero:=by
 delta lC
 induction n with
 |zero=>intro o;rfl
 |succ n ih=>
  intro o;show R.add (R.mul R.zero (b o)) (j6 (JL n R.zero) b (o+1))=_;rw[ih,R.zero_mul,R.zero_add]
def UV {b:Nat->R.α}{x:R.α}: ∀ {r:List R.α}{s o:Nat},s<r.length->j6 (m5 r s x) b o=R.add (R.mul x (b (o+s))) (j6 r b o):=by
 intro r
 induction r with
 |nil=>exact λh=>absurd h (Ze _)
 |cons y r ih=>
  intro s o hs;cases s with
  |zero=>
   show R.add (R.mul (R.add y x) (b o)) (j6 r b (o+1))=R.add (R.mul x (b o)) (R.add (R.mul y (b o)) (j6 r b (o+1)));rw[R.add_mul,R.add_assoc,R.swap]
  |succ s=>
   have:=ih (s:=s) (o:=o+1) (KC hs)
   show R.add (R.mul y (b o)) (j6 (m5 r s x) b (o+1))=R.add (R.mul x (b (o+(s+1)))) (R.add (R.mul y (b o)) (j6 r b (o+1)));rw[this,R.swap,show o+1+s=o+(s+1) by lia]
def yL {r:List R.α}{b:Nat->R.α} (hs:s<r.length):j6 (r.drop s) b s=R.add (R.mul r[s] (b s)) (j6 (r.drop (s+1)) b (s+1)):=by
 rw[Kl hs];rfl
def F3 {l:List (R.α×R.α)}{a b:R.α}:l.foldl (λo p=>R.add o (R.mul p.1 p.2)) (R.add a b)=R.add a (l.foldl (λo p=>R.add o (R.mul p.1 p.2)) b):=by
 induction l generalizing b with
 |nil=>rfl
 |cons p l ih=>rw(occs:=.all) [Yj,Yj,R.add_assoc,ih]
def EB {r e:List R.α}{o:Nat}{b:Nat->R.α} (hl:r.length=e.length) (hb: ∀ (s:Nat) x,e[s]?=Qa x->b (o+s)=x):Ug r e=j6 r b o:=by
 delta Ug
 induction r generalizing e o with
 |nil=>rfl
 |cons x r ih=>
  cases e with
  |nil=>exact Nat.noConfusion hl
  |cons y e=>
   simp only[Yg,Yj];show (r.zip e).foldl _ (R.add R.zero (R.mul x y))=R.add (R.mul x (b o)) (j6 r b (o+1));simp only[R.add_comm R.zero,F3,ih (o:=o+1) (ZP.inj hl) λs z hz=>by rw[XJ];exact hb (s+1) z hz,show b o=y from hb 0 y rfl]
def cells (n m:Nat):List (Nat×Nat):=(Zg (n+1)).flatMap λi=>(Zg (m+1)).map λj=>(i,j)
def tU:(i,j)∈cells n m ↔ i<=n/\j<=m:=by
 delta cells;simp only[List.mem_flatMap,KH,JJ,qba.injEq]
 constructor
 ·rintro ⟨a,ha,b,hb,rfl,rfl⟩;exact⟨JN ha,JN hb⟩
 ·rintro ⟨h1,h2⟩;exact⟨i,JQ h1,j,JQ h2,rfl,rfl⟩
def L9:(cells n m).Nodup:=by
 delta cells;refine List.pairwise_flatMap.mpr ⟨λi _=>?_,List.Pairwise.imp ?_ (qad (n:=n+1))⟩
 ·exact List.pairwise_map.mpr (List.Pairwise.imp (λhab e=>hab (qba.inj e).2) (qad (n:=m+1)))
 ·intro a b hab x hx y hy e
  obtain⟨j,_,rfl⟩:=JJ.mp hx;obtain⟨j',_,rfl⟩:=JJ.mp hy;exact hab (qba.inj e).1
def done (i j:Nat) (c:Nat×Nat):Prop:=c.1<i\/(c.1=i/\c.2<j)
section
variable {T:qk}{cs:List T.κ}{dn dn':T.κ->Prop}{B:T.κ->Nat->R.α}{V:T.κ->List R.α}
def rX (cs:List T.κ) (dn:T.κ->Prop) (B:T.κ->Nat->R.α) (V:T.κ->List R.α):R.α:=pY (cs.map λc=> @ite _ (dn c) (Classical.propDecidable _) R.zero (j6 (V c) (B c) 0))
def Fy (e: ∀c∈cs,dn c ↔ dn' c):rX cs dn B V=rX cs dn' B V:=by
 refine mQ λc hc=>?_;by_cases h:dn c
 ·rw[if_pos h,if_pos ((e c hc).mp h)]
 ·rw[if_neg h,if_neg λq=>h ((e c hc).mpr q)]
def UC {k:T.κ} (nd:cs.Nodup) (hk:k∈cs) (h0: ¬dn k) (h1: ∀c,dn' c ↔ dn c\/c=k):rX cs dn B V=R.add (j6 (V k) (B k) 0) (rX cs dn' B V):=by
 refine AS (c:=k) nd hk (λc _ hc=>?_) ?_
 ·by_cases h:dn c
  ·rw[if_pos h,if_pos ((h1 c).mpr (.inl h))]
  ·rw[if_neg h,if_neg λq=>((h1 c).mp q).elim h hc]
 ·rw[if_neg h0,if_pos ((h1 k).mpr (.inr rfl)),R.add_zero]
def x5 {k:T.κ}{x:R.α} (nd:cs.Nodup) (hk:k∈cs) (hn: ¬dn k) (hs:s<(V k).length):rX cs dn B (cw V k (m5 (V k) s x))=R.add (R.mul x (B k s)) (rX cs dn B V):=by
 refine AS (c:=k) nd hk (λc _ hc=>?_) ?_
 ·by_cases h:dn c
  ·rw[if_pos h,if_pos h]
  ·rw[if_neg h,if_neg h,j3 hc]
 ·rw[if_neg hn,if_neg hn,jX,UV hs,ZM]
def UD {k:T.κ}{r:List R.α} (hn:dn k):rX cs dn B (cw V k r)=rX cs dn B V:=by
 refine mQ λc _=>?_;by_cases h:dn c
 ·rw[if_pos h,if_pos h]
 ·rw[if_neg h,if_neg h,j3 λq:c=k=>h (by rw[q];exact hn)]
def Lx (l:List β):pY (l.map λ_=>R.zero)=R.zero:=by
 induction l with
 |nil=>rfl
 |cons x l ih=>rw[JO,j8,ih,R.zero_add]
def tQ (h: ∀c∈cs,¬dn c->j6 (V c) (B c) 0=R.zero):rX cs dn B V=R.zero:=by
 refine(mQ λc hc=>?_).trans (Lx cs);by_cases hd:dn c
 ·exact(if_pos hd)
 ·rw[if_neg hd,h c hc hd]
end
def mw (n m:Nat) (B:Nat->Nat->Nat->R.α) (i j:Nat) (V:Nat×Nat->List R.α):R.α:=rX (T:=lL) (cells n m) (done i j) (λc=>B c.1 c.2) V
variable {n m:Nat}{B:Nat->Nat->Nat->R.α}{V:Nat×Nat->List R.α}
theorem CZ (hi:i<=n) (hj:j<=m):mw n m B i j V=R.add (j6 (V (i,j)) (B i j) 0) (mw n m B i (j+1) V):=
 UC (T:=lL) (k:=(i,j)) (B:=λc=>B c.1 c.2) L9 (tU.mpr ⟨hi,hj⟩) (by unfold done;simp) λc=>by
  delta done
  constructor
  ·rintro (h|h)
   ·exact .inl (.inl h)
   ·exact(Yh (JN h.2)).elim (λe=> .inl (.inr ⟨h.1,e⟩)) λe=> .inr (qbe h.1 e)
  ·rintro ((h|h)|rfl)
   ·exact .inl h
   ·exact .inr ⟨h.1,Zy h.2⟩
   ·exact .inr ⟨rfl,JT _⟩
def Gy:mw n m B i (m+1) V=mw n m B (i+1) 0 V:=by
 refine Fy (T:=lL) λc hc=>?_
 have:=tU.mp hc
 exact⟨λq=> .inl (q.elim Zy λq=>JQ (Jx q.1)),λq=>q.elim (λq=>(Yh (JN q)).imp id λe=>⟨e,JQ this.2⟩) λq=>absurd q.2 (Ze _)⟩
theorem L4 {a b:Nat}{x:R.α} (ha:a<=n) (hb:b<=m) (hn: ¬done i j (a,b)) (hs:s<(V (a,b)).length):mw n m B i j (cw (T:=lL) V (a,b) (m5 (V (a,b)) s x))=R.add (R.mul x (B a b s)) (mw n m B i j V):=
 x5 (T:=lL) (k:=(a,b)) (B:=λc=>B c.1 c.2) L9 (tU.mpr ⟨ha,hb⟩) hn hs
theorem C0 {a b:Nat}{r:List R.α} (hn:done i j (a,b)):mw n m B i j (cw (T:=lL) V (a,b) r)=mw n m B i j V:=UD (T:=lL) (k:=(a,b)) hn
theorem CY {N:Nat} (h: ∀a b,V (a,b)=lC R N):mw n m B i j V=R.zero:=tQ (T:=lL) λc _ _=>by rw[h,mH]
theorem Ed:mw n m B (n+1) 0 V=R.zero:=tQ (T:=lL) λc hc hd=>absurd (.inl (JQ (tU.mp hc).1)) hd
end
section
variable {h0:MH}
def gx (u l:List Nat) (i j:Nat) (a:Ar R.α):Bool:=!a.fh && (jw u i a.up && jw l j a.lo)
def VA (B:Nat->Nat->Nat->R.α) (u l:List Nat) (i j:Nat) (xs:List (Ar R.α)):R.α:=pY (xs.map λa=>bif gx u l i j a then R.mul a.w (B (i+a.up.length) (j+a.lo.length) a.t) else R.zero)
def xM (M:Mc R.α) (B:Nat->Nat->Nat->R.α) (u l:List Nat) (i j s:Nat):R.α:=R.add (if i=u.length/\j=l.length then cu M s else R.zero) (VA B u l i j (az M s))
theorem GX {s:List Nat} (hs:dh s) (h:jw u i s=Qe):i<=u.length->i+s.length<=u.length/\s.length<=1:=λhi=>by
 rcases hs with rfl| ⟨c,rfl,_⟩
 ·exact⟨by simpa using hi,by decide⟩
 ·refine⟨?_,Jv _⟩
  by_cases he:i=u.length
  ·subst he
   delta jw at h;rw[Yi (Jv _),XU (ZA _)] at h;delta ni at h;rw[Zc,Ke] at h;exact JH h
  ·exact JY (J8 hi he)
def z3 (h:a.fh=Qb):0<a.up.length+a.lo.length:=by
 delta Ar.fh at h;obtain⟨up,lo,w,t⟩:=a;cases up with
 |cons _ _=>show 0<_+1+_;exact qac _ (Zs _)
 |nil=>
  cases lo with
  |cons _ _=>show 0<_+(_+1);exact Nat.lt_add_left _ (Zs _)
  |nil=>exact JH h
def Be (R:Rg) (i j c p k:Nat) (V:Nat×Nat->List R.α):Prop:= ∀a b,¬done i j (a,b) -> ∀x∈V (a,b),R.D (p*(a+b+1)) (k*(a+b+1)+c) x
theorem Ho {r:List R.α}{x y:R.α} (hy:y∈m5 r s x):y∈r\/y=R.add (r[s]?.getD R.zero) x:=Km hy
def Bo {B:Nat->Nat->Nat->R.α}{l:List Nat}{q:Nat} (ha:xs[q]?=Qa a):VA B u l i j (xs.drop q)=R.add (bif gx u l i j a then R.mul a.w (B (i+a.up.length) (j+a.lo.length) a.t) else R.zero) (VA B u l i j (xs.drop (q+1))):=by
 refine(Ju.mp ha).elim λhq zq6=>?_;refine eqE zq6 ?_;simp only[Kl hq];rfl
structure CS (R:Rg) where
 g:MH
 Ad:Nat×Nat->Option Nat
 V:Nat×Nat->List R.α
 c:Nat
 a:Option ab:=Qd
 b:Option ab:=Qd
 d:Option ab:=Qd
 e:Option ab:=Qd
 f:Option ab:=Qd
 k:Option ab:=Qd
structure WX (R:Rg) where
 h:MH
 L:Ly
 M:Mc R.α
 u:List Nat
 l:List Nat
 D:Nat
 ov:ab
 p:Nat
 k:Nat
 p1:Nat
 k1:Nat
 pS:Nat
 kS:Nat
 B:Nat->Nat->Nat->R.α
 W:R.α
structure mq (X:WX R):Prop where
 I:ak R X.h X.L X.M
 G:kQ X.M X.p1 X.k1
 pp:X.p1+X.pS<=X.p
 kk:X.k1+X.kS<=X.k
 cl:1+(X.u.length+1)*(X.l.length+1)*(X.M.ax+1)<100000
 bd:4*(X.p*(X.u.length+X.l.length+2))+(X.k*(X.u.length+X.l.length+2)+(1+(X.u.length+1)*(X.l.length+1)*(X.M.ax+1)+X.M.aa.length))<=3800
def gr (X:WX R) (a b d e f k:Option ab):Internal.Frame:=Qa (.ref X.L.m)::Qa (.str X.u)::Qa (.str X.l)::Qa (.ai (112+R.i))::Qa X.ov::Qa (.ref X.D)::a::b::d::e::f::k::nn 6
abbrev vN (n:Nat):Option ab:=Qa (.int n)
abbrev vR (n:Nat):Option ab:=Qa (.ref n)
structure y7 (X:WX R) (i j aR c0:Nat) (row:List R.α) (F:R.α):Prop where
 O:mq X
 hi:i<=X.u.length
 hj:j<=X.l.length
 cc:c0+X.M.ax<=1+(X.u.length+1)*(X.l.length+1)*(X.M.ax+1)
 len:row.length=X.M.aa.length
 dg: ∀x∈row,R.D (X.p*(i+j+1)+X.pS) (X.k*(i+j+1)+X.kS+c0) x
structure CP (X:WX R) (i j aR c0:Nat) (row:List R.α) (n:Nat) (e:R.α) (s:CS R):Prop where
 rw':RW lL R X.h s.g X.D X.M.aa.length s.c s.Ad s.V
 lo:c0<=s.c
 hi:s.c<=c0+n
 dg:Be R i (j+1) s.c X.p X.k s.V
 vr:s.V (i,j)=row
 ad:s.Ad (i,j)=Qa aR
 w:R.add (mw X.u.length X.l.length X.B i (j+1) s.V) e=X.W
variable {X:WX R}{i j aR c0:Nat}{row:List R.α}{F:R.α}{Rr R':Fl->Internal.Frame->MH->Prop}
def RW.im {N:Nat}{Ad:Nat×Nat->Option Nat}{V:Nat×Nat->List R.α} (S:RW lL R h g D N c Ad V) (I:ak R h L M):ak R g L M:=by obtain⟨t,rfl⟩:=S.pre;exact I.bz
def RW.up {N:Nat}{Ad:Nat×Nat->Option Nat}{V:Nat×Nat->List R.α} (S:RW lL R h g D N c Ad V) {a:Nat} (e:h[a]?=Qa o):g[a]?=Qa o:=by obtain⟨t,rfl⟩:=S.pre;exact jS e
theorem o6 {a b:Nat} (h:a<=b):p*a<=p*b:=JF _ h
structure ziE (X:WX R) (y c0 c x:Nat):Prop where
 p1:X.p*(y+1)+X.pS+X.p1<=X.p*(x+1)
 k1:X.k*(y+1)+X.kS+c0+X.k1<=X.k*(x+1)+c
 b:4*(X.p*(x+1))+(X.k*(x+1)+c)<=3800
 t:4*(X.p*(y+1)+X.pS+X.p1)+(X.k*(y+1)+X.kS+c0+X.k1)<=3800
theorem cO (a b c d:Nat):a+b+c+d=a+(d+b)+c:=(ZK _ _ _).trans (congrArg (· +c) ((J9 _ _ _).trans (congrArg (a+ ·) (ZJ _ _))))
def OG (O:mq X) {y:Nat} (h1:x<=X.u.length+X.l.length) (hx:y<x) (h0:c0<=c) (hc:c<=1+(X.u.length+1)*(X.l.length+1)*(X.M.ax+1)):ziE X y c0 c x:=by
 have e: ∀ {p:Nat},p*(y+1)+p<=p*(x+1):=λ{p} =>by rw[<-Kv];exact o6 (Zn hx)
 have f: ∀ {p:Nat},p*(x+1)<=p*(X.u.length+X.l.length+2):=λ{p} =>o6 (Zn (Zh h1));have p1:X.p*(y+1)+X.pS+X.p1<=X.p*(x+1):=Jl (by rw[J9,ZJ X.pS];exact Jr O.pp _) e;have k1:X.k*(y+1)+X.kS+c0+X.k1<=X.k*(x+1)+c:=by
  rw[cO];exact JG (Jl (Jr O.kk _) e) h0
 have b:4*(X.p*(x+1))+(X.k*(x+1)+c)<=3800:=Jl (JG (o6 f) (JG f (Jl hc (Jo _ _)))) O.bd;exact⟨p1,k1,b,Jl (JG (o6 p1) k1) b⟩
abbrev R7:List Sm:= [.ite (.qh Qe [.bh (.var 10) 7598521885536580729 [],.not (.call (.lit (.ai 129)) [.var 1,.var 6,.aq (.var 10) 504397587826]),.not (.call (.lit (.ai 129)) [.var 2,.var 7,.aq (.var 10) 465726563698])]) [.cont] [],.fq (.nm 11) (.ba [.ez .add (.var 6) (.call (.lit (.bi 7103854)) [.aq (.var 10) 504397587826]),.ez .add (.var 7) (.call (.lit (.bi 7103854)) [.aq (.var 10) 465726563698])]),.expr (.call (.lit (.ai 126)) [.var 0,.var 5,.var 11,.aq (.var 10) 127961880028532,.bh (.var 3) ry [.sub (.var 8) (.var 9),.aq (.var 10) 131277443786868]])]
def CP.kf {e e' x:R.α}{s:CS R}{a b t:Nat} (C:y7 X i j aR c0 row F) (P:CP X i j aR c0 row n e s) (ha:a<=X.u.length) (hb:b<=X.l.length) (ht:t<X.M.aa.length) (hn: ¬done i (j+1) (a,b)) (hD:R.D (X.p*(a+b+1)) (X.k*(a+b+1)+s.c) x)
  (S':RW lL R X.h g' X.D X.M.aa.length (s.c+1) Ad' (cw (T:=lL) s.V (a,b) (m5 (s.V (a,b)) t x))) (hk: ∀z' a',s.Ad z'=Qa a'->Ad' z'=Qa a') (he:e=R.add (R.mul x (X.B a b t)) e') (z y:Option ab):CP X i j aR c0 row (n+1) e' ⟨g',Ad',cw (T:=lL) s.V (a,b) (m5 (s.V (a,b)) t x),s.c+1,Qd,Qd,Qd,Qd,z,y⟩:=by
 have hl:t<(s.V (a,b)).length:=by rw[P.rw'.len];exact ht
 refine⟨S',Zh P.lo,Zn P.hi,λa' b' hn' y hy=>?_,?_,hk _ _ P.ad,?_⟩
 ·have hy:y∈cw (T:=lL) s.V (a,b) (m5 (s.V (a,b)) t x) (a',b'):=hy
  show R.D (X.p*(a'+b'+1)) (X.k*(a'+b'+1)+(s.c+1)) y;by_cases q:(a',b')=(a,b)
  ·cases q
   rw[jX] at hy;rcases Ho hy with hy|rfl
   ·exact R.ah (Jv _) (ZA _) (P.dg _ _ hn' y hy)
   ·rw[Jn hl]
    exact R.fw (P.dg _ _ hn' _ (Zo hl)) hD
  ·rw[j3 q] at hy
   exact R.ah (Jv _) (ZA _) (P.dg a' b' hn' y hy)
 ·show cw (T:=lL) s.V (a,b) (m5 (s.V (a,b)) t x) (i,j)=row
  rw[j3 λq:(i,j)=(a,b)=>hn (by refine eqE q ?_;exact .inr ⟨rfl,JT _⟩)];exact P.vr
 ·rw[L4 ha hb hn hl,<-P.w,he,<-R.add_assoc,R.add_comm (R.mul _ _)]
theorem MN (hd:1<=d) (u:List Nat) (i:Nat) (s:List Nat) (h:MH):jZ (ag P0 d) (.ai 129) [.str u,.int i,.str s] h=Qa (.bool (jw u i s),h):=fn rfl (Rx hd ⟨rfl,rfl⟩)
def zc1 {N:Nat}{Ad:Nat×Nat->Option Nat}{V:Nat×Nat->List R.α}{x:R.α} (hd:4<=d) (I:ak R h L M) (S:RW lL R h g D N c Ad V) (hN:N=M.aa.length) (hc:c<100000) (hs:s<N) (hV: ∀y∈V (i,j),R.D p k y) (hx:R.D p k x) (hl:4*p+k<=3800):
  ∃g' Ad',jZ (ag P0 d) (.ai 126) [.ref L.m,.ref D,GJ i j,.int s,R.e x] g=Qa (.none,g')/\RW lL R h g' D N (c+1) Ad' (cw (T:=lL) V (i,j) (m5 (V (i,j)) s x))/\∀z' a',Ad z'=Qa a'->Ad' z'=Qa a':=by
 refine(W.get (mJ (P:=P0) rfl (NC (Q:=λv g'=>v= .none/\∃Ad',RW lL R h g' D N (c+1) Ad' (cw (T:=lL) V (i,j) (m5 (V (i,j)) s x))/\∀z' a',Ad z'=Qa a'->Ad' z'=Qa a') hd I S hN hc hs hV hx hl λg' Ad' S' hk _ _=>⟨rfl,Ad',S',hk⟩))).elim λv zq3=>zq3.elim λg' zq4=>?_;refine eqE zq4.2.1 ?_;exact zq4.2.2.elim λAd' zq5=>⟨g',Ad',zq4.1,zq5⟩
def Ow {b:Nat}{E y T e0 e1:R.α}{st:CS R}{z:Option ab} (hd:5<=d) (C:y7 X i j aR c0 row F) (hs:row[s]?=Qa y) (hn:n<X.M.ax) (hB:X.h[b]?=Qa (mC R a)) (gt:a.t<X.M.aa.length) (g2:dh a.up) (g3:dh a.lo) (g4:R.D X.p1 X.k1 a.w)
  (P:CP X i j aR c0 row n e0 st) (h0:e0=R.add (R.mul y (R.add (bif gx X.u X.l i j a then R.mul a.w (X.B (i+a.up.length) (j+a.lo.length) a.t) else R.zero) T)) E) (h1:e1=R.add (R.mul y T) E)
  (q1: ∀s',CP X i j aR c0 row (n+1) e1 s'->R' .nx (gr X (vN i) (vN j) (vR aR) (vN s) s'.f s'.k) s'.g) (q2: ∀s',CP X i j aR c0 row (n+1) e1 s'->R' .ct (gr X (vN i) (vN j) (vR aR) (vN s) s'.f s'.k) s'.g):
  cq (ag P0 d) R7 (gr X (vN i) (vN j) (vR aR) (vN s) (vR b) z) st.g R':=by
 have S:=P.rw';have hB:=S.up hB;have d1:1<=d:=Jl (by decide) hd;have iw:gx X.u X.l i j a=Qb->R' .ct (gr X (vN i) (vN j) (vR aR) (vN s) (vR b) z) st.g:=λhh=>by
  rw[hh,cond_false,R.zero_add,<-h1] at h0;exact q2 {st with f:=vR b,k:=z} ⟨S,P.lo,Zh P.hi,P.dg,P.vr,P.ad,h0▸P.w⟩
 refine xO a.fh (λhe=>?_) λhe=>?_
 ·exact kC (.p (GR d1 hB)<| .t (he)<| .t (he)<| .z (iw (by unfold gx;rw[he];rfl))) rfl
 ·refine xO (jw X.u i a.up) (λhu=>?_) λhu=>?_
  ·refine xO (jw X.l j a.lo) (λhlo=>?_) λhlo=>?_
   ·have hh:gx X.u X.l i j a=true:=by unfold gx;rw[he,hu,hlo];rfl
    rw[hh,cond_true,R.mul_add,R.add_assoc,<-h1,<-R.mul_assoc] at h0;have f1:=(GX g2 hu C.hi).1;have f3:=(GX g3 hlo C.hj).1;have nds: ¬done i (j+1) (i+a.up.length,j+a.lo.length):=λq=>q.elim (Zz (Jo _ _)) λq=>Zb 0 (YI (z3 he) (congr (congrArg _ (qaC (q.1:i+a.up.length=i+0))) (qag (JN (Nat.lt_of_add_lt_add_left q.2)))));have hc:st.c<c0+X.M.ax:=Jt P.hi (J3 hn _);have T1:=OG C.O (y:=i+j) (c0:=c0) (c:=st.c) (x:=i+a.up.length+(j+a.lo.length)) (JG f1 f3) (YI (ZY (z3 he)) (Xd i j a.up.length a.lo.length)) P.lo (Jl (JK hc) C.cc);have hxd:=C.dg y (Jq hs);have hRa:=S.row (i,j) aR P.ad;rw[P.vr] at hRa;refine(zc1 (d:=d) (i:=i+a.up.length) (j:=j+a.lo.length) (s:=a.t) (x:=R.mul y a.w) (Jl (by decide) hd) C.O.I S rfl (Js hc (Jl C.cc (JK C.O.cl))) gt (P.dg _ _ nds) (R.ah T1.p1 T1.k1 (R.fj hxd g4)) T1.b).elim λg' zq1=>zq1.elim λAd' zq2=>?_;exact kC (.p (GR d1 hB)<| .f (he)<| .v (sg hB)<| .q (MN d1 X.u i a.up)<| .c<| .f (nT hu)<| .v (tu hB)<| .q (MN d1 X.l j a.lo)<| .c<| .f (nT hlo)<| .v (sg hB)<| .c2<| .v (tu hB)<| .c2<| .v (vd hB)<| .v (sl hRa (yI hs))<| .v (yz hB)<| .q (R.ti (Jl (by decide) hd) hxd g4 T1.t)<| .p (zq2.1)<| .z (q1 _ (P.kf C f1 f3 gt nds (R.ah T1.p1 T1.k1 (R.fj hxd g4)) zq2.2.1 zq2.2.2 h0 (vR b) (Qa (GJ (i+a.up.length) (j+a.lo.length)))))) (by kernel_rfl)
   ·exact kC (.p (GR d1 hB)<| .f (he)<| .v (sg hB)<| .q (MN d1 X.u i a.up)<| .c<| .f (nT hu)<| .v (tu hB)<| .q (MN d1 X.l j a.lo)<| .c<| .t (nF hlo)<| .z (iw (by unfold gx;rw[hlo,Xu,Xu]))) rfl
  ·exact kC (.p (GR d1 hB)<| .f (he)<| .v (sg hB)<| .q (MN d1 X.u i a.up)<| .c<| .t (nF hu)<| .t (nF hu)<| .z (iw (by unfold gx;rw[hu,qbg,Xu]))) rfl
end
section
variable {h0:MH}{X:WX R}{row:List R.α}{F:R.α}
def WO (M:Mc R.α):Prop:=(M.aa.any λr=>r.any Ar.fh)=Qb
def rJ {r:List R.α}{b b':Nat->R.α}{o:Nat} (h: ∀s,o<=s->s<o+r.length->b s=b' s):j6 r b o=j6 r b' o:=by
 induction r generalizing o with
 |nil=>rfl
 |cons x r ih=>
  show R.add (R.mul x (b o)) (j6 r b (o+1))=R.add (R.mul x (b' o)) (j6 r b' (o+1));rw[h o (Jv _) (by rw[ZE];exact ZY (Zs _)),ih λs h1 h2=>h s (JK (J5 h1)) (by rw[ZE];lia)]
def HS {r:List R.α}{b b':Nat->R.α}{o:Nat}:j6 r (λs=>R.add (b s) (b' s)) o=R.add (j6 r b o) (j6 r b' o):=by
 induction r generalizing o with
 |nil=>exact(R.zero_add _).symm
 |cons x r ih=>
  show R.add (R.mul x (R.add (b o) (b' o))) (j6 r _ (o+1))=R.add (R.add (R.mul x (b o)) (j6 r b (o+1))) (R.add (R.mul x (b' o)) (j6 r b' (o+1)));simp only[ih,R.mul_add,R.add_assoc,R.add_assoc]
  congr 1
  rw[R.swap]
def yK {r:List R.α}{o:Nat}:j6 r (λ_=>R.zero) o=R.zero:=by
 induction r generalizing o with
 |nil=>rfl
 |cons x r ih=>
  show R.add (R.mul x R.zero) (j6 r _ (o+1))=_;rw[ih,R.mul_zero,R.zero_add]
abbrev xx:List Sm:= [.ite (.ew .eq (.sub (.var 8) (.var 9)) (.aq (.var 3) rz)) [.cont] [],.fo [10] Qb (.sub (.aq (.var 0) 1634886515) (.var 9)) R7]
abbrev NH (X:WX R) (i j:Nat):Nat->R.α:=λs=>VA X.B X.u X.l i j (az X.M s)
def zdv {n0 r:Nat}{y E e0:R.α}{st:CS R} (hd:5<=d) (C:y7 X i j aR c0 row F) (hs:row[s]?=Qa y) (hm:xs∈X.M.aa) (hr:(X.L.ar.map ab.ref)[s]?=Qa (.ref r)) (H:NO R X.h r as xs) (hn:n0+xs.length<=X.M.ax) (P:CP X i j aR c0 row n0 e0 st) (h0:e0=R.add (R.mul y (VA X.B X.u X.l i j xs)) E):
  ∃s',CP X i j aR c0 row (n0+xs.length) E s'/\exec (ag P0 d) (.fo [10] Qb (.sub (.aq (.var 0) kI) (.var 9)) R7) (gr X (vN i) (vN j) (vR aR) (vN s) st.f st.k) st.g=Qa ((.nx,gr X (vN i) (vN j) (vR aR) (vN s) s'.f s'.k),s'.g):=by
 subst h0;obtain⟨s',P',e⟩:=qf (c:=ag P0 d) (tg:=[10]) (many:=Qb) (a:=r) (e:=.sub (.aq (.var 0) kI) (.var 9)) (b:=R7) (vs:=as.map .ref) (λs':CS R=>gr X (vN i) (vN j) (vR aR) (vN s) s'.f s'.k) CS.g (λq=>CP X i j aR c0 row (n0+q) (R.add (R.mul y (VA X.B X.u X.l i j (xs.drop q))) E)) st
  (H.n▸Jl (Jl (Jw _ _) hn) (Jl C.O.G.c (by decide))) rfl (λq s' P=>P.rw'.up H.l) (by exact kJ (.v (nD (P.rw'.qa C.O.I))<| .v (sl (P.rw'.qa C.O.I).aa hr)<| .z (ck (.ref r) st.g)) (by kernel_rfl)) P (λq v s' R1 _ hv P1 T1=>by
   refine xEEAA (H.a q v hv) λb x cv hx hb=>?_;refine eqB cv ?_;have ga:=C.O.G.fk _ hm x (Jq hx);exact mL (Ow hd C hs (n:=n0+q) (Js (J3 (jY hx) _) hn) hb ga.1 ga.2.1 ga.2.2.1 ga.2.2.2.1 P1 (by rw[Bo hx]) rfl T1.nx T1.ct))
 rw[H.n,Ke,show VA X.B X.u X.l i j []=R.zero from rfl,R.mul_zero,R.zero_add] at P';exact⟨s',P',e⟩
def zaz {n0 n1:Nat}{e0 e1:R.α}{st:CS R} (hd:5<=d) (C:y7 X i j aR c0 row F) (hs:s<X.M.aa.length) (P:CP X i j aR c0 row n0 e0 st) (hn:n1=n0+(az X.M s).length) (hc:n1<=X.M.ax) (h0:e0=R.add (R.mul (at' row s) (NH X i j s)) e1)
  (q1: ∀s',CP X i j aR c0 row n1 e1 s'->R' .nx (gr X (vN i) (vN j) (vR aR) s'.e s'.f s'.k) s'.g) (q2: ∀s',CP X i j aR c0 row n1 e1 s'->R' .ct (gr X (vN i) (vN j) (vR aR) s'.e s'.f s'.k) s'.g):
  cq (ag P0 d) xx (gr X (vN i) (vN j) (vR aR) (vN s) st.f st.k) st.g R':=by
 have hsr:=Un (l:=row) (s:=s) (by rw[C.len];exact hs);have hRa:=P.rw'.row (i,j) aR P.ad;rw[P.vr] at hRa;cases R.ft (at' row s) R.zero with
 |isTrue hz=>
  rw[hz,R.zero_mul,R.zero_add] at h0;have P':CP X i j aR c0 row n1 e1 {st with e:=vN s}:=⟨P.rw',P.lo,hn▸Jl P.hi (Jr (Jo _ _) _),P.dg,P.vr,P.ad,h0▸P.w⟩;exact kC (.v (sl hRa (yI hsr))<| .w (R.no)<| .k (R.qe (at' row s) R.zero)<| .t (R.yes hz)<| .z (q2 _ P')) rfl
 |isFalse hz=>
  refine(C.O.I.oq hs).elim λr zq3=>zq3.elim λas zq4=>?_;refine xEA (zdv hd C hsr zq4.2.2 zq4.1 zq4.2.1 (hn▸hc) P h0) λs' P' e=>?_;have N:CP X i j aR c0 row n1 e1 {s' with e:=vN s}:=by refine eqB hn ?_;exact⟨P'.rw',P'.lo,P'.hi,P'.dg,P'.vr,P'.ad,P'.w⟩
  exact kC (.v (sl hRa (yI hsr))<| .w (R.no)<| .k (R.qe (at' row s) R.zero)<| .f (R.not hz)<| .s (e)<| .z (q1 _ N)) rfl
def EA {r:List R.α}{b:Nat->R.α} (hs:s<r.length):j6 (r.drop s) b s=R.add (R.mul (at' r s) (b s)) (j6 (r.drop (s+1)) b (s+1)):=by
 rw[yL hs];unfold at';rw[Jn hs];rfl
def zfY {st:CS R}{e0:R.α} (hd:5<=d) (C:y7 X i j aR c0 row F) (P:CP X i j aR c0 row 0 e0 st) (h0:e0=R.add (j6 row (NH X i j) 0) F):
  ∃s',CP X i j aR c0 row X.M.ax F s'/\exec (ag P0 d) (.fo [9] Qb (.call (.lit (.ty 491260897125)) [.bh (.var 0) 1936292453 []]) xx) (gr X (vN i) (vN j) (vR aR) st.e st.f st.k) st.g=Qa ((.nx,gr X (vN i) (vN j) (vR aR) s'.e s'.f s'.k),s'.g):=by
 subst h0;have I:=P.rw'.qa C.O.I;obtain⟨s',P',e⟩:=kh (c:=ag P0 d) (x:=9) (n:=X.M.aa.length) (e:=.call (.lit (.ty 491260897125)) [.bh (.var 0) 1936292453 []]) (b:=xx) (λs':CS R=>gr X (vN i) (vN j) (vR aR) s'.e s'.f s'.k) CS.g (λs=>CP X i j aR c0 row (nE X.M s) (R.add (j6 (row.drop s) (NH X i j) s) F)) st
  (Jl I.bb (by decide)) rfl (by exact kJ (.p (mK (Jl (by decide) hd) I)<| .c<| .z (ck (.fy X.M.aa.length) st.g)) (by kernel_rfl)) P (λs s' R1 _ hs P1 T1=>zaz hd C hs P1 (tC hs) (xH C.O.I _) (by rw[EA (by rw[C.len];exact hs),R.add_assoc]) T1.nx T1.ct)
 have e1:nE X.M X.M.aa.length=X.M.ax:=by unfold nE;rw[Zc,I.ct]
 have e2:row.drop X.M.aa.length= []:=by rw[<-C.len,Ke]
 rw[e1,e2,show j6 [] (NH X i j) X.M.aa.length=R.zero from rfl,R.zero_add] at P';exact⟨s',P',e⟩
end
section
variable {h0:MH}{X:WX R}{row:List R.α}{F:R.α}
structure Lg (X:WX R):Prop where
 r:X.ov= .none\/∃a,X.ov= .ref a
 no:X.ov= .none-> ∀i j s,i<=X.u.length->j<=X.l.length->s<X.M.aa.length->X.B i j s=xM X.M X.B X.u X.l i j s
 so: ∀aT,X.ov= .ref aT-> ∀ {d P K aR:Nat}{g:MH}{row:List R.α}{Q:ab->MH->Prop},5<=d->(∃t,g=X.h++t) ->g[aR]?=Qa (.list (row.map R.e)) ->row.length=X.M.aa.length->(∀x∈row,R.D P K x) ->4*(P+X.pS)+(K+X.kS)<=3800->
  (∀t a row',g.length<=a->(g++t)[a]?=Qa (.list (row'.map R.e)) ->row'.length=X.M.aa.length->(∀x∈row',R.D (P+X.pS) (K+X.kS) x) ->(∀i j,i<=X.u.length->j<=X.l.length->j6 row (X.B i j) 0=j6 row' (xM X.M X.B X.u X.l i j) 0) ->Q (.ref a) (g++t)) ->
  WF P0 d 132 [.ai (112+R.i),.ref aR,.ref aT] g Q
abbrev Vy (X:WX R) (i j:Nat):Nat->R.α:=λs=>if i=X.u.length/\j=X.l.length then cu X.M s else R.zero
structure PS (X:WX R) (i j:Nat) (s:CS R):Prop where
 rw':RW lL R X.h s.g X.D X.M.aa.length s.c s.Ad s.V
 hc:s.c<=1+(i*(X.l.length+1)+j)*(X.M.ax+1)
 dg:Be R i j s.c X.p X.k s.V
 w:i<X.u.length\/(i=X.u.length/\j<=X.l.length) ->mw X.u.length X.l.length X.B i j s.V=X.W
 eu:(i=X.u.length/\j=X.l.length+1)\/i=X.u.length+1->j6 (s.V (X.u.length,X.l.length)) (cu X.M) 0=X.W/\∀x∈s.V (X.u.length,X.l.length),R.D (X.p*(X.u.length+X.l.length+1)+X.pS) (X.k*(X.u.length+X.l.length+1)+X.kS+s.c) x
theorem zcH {Y B:Nat} (h:c<=1+Y+1) (h2:Y+(n+1)<=B):c+n<=1+B:=
 Jl (JW h n) (Jl (Jx ((J9 (1+Y) 1 n).trans ((J9 1 Y _).trans (congrArg (λz=>1+(Y+z)) (ZJ 1 n))))) (Jr h2 1))
def G6 (O:mq X) (h1:i<=X.u.length) (h2:j<=X.l.length):(i*(X.l.length+1)+j)*(X.M.ax+1)+(X.M.ax+1)<=(X.u.length+1)*(X.l.length+1)*(X.M.ax+1):=by
 have h3:(i*(X.l.length+1)+j)+1<=(X.u.length+1)*(X.l.length+1):=by
  rw[K6 X.u.length];exact(JG (Zq _ h1:i*(X.l.length+1)<=X.u.length*(X.l.length+1)) (Jl (Zn h2) (Jx (Z5 _).symm)):i*(X.l.length+1)+(j+1)<=_)
 have h5:=Zq (X.M.ax+1) h3;rwa [K6 _ 1,Z5] at h5
def CP.next {s:CS R} (C:y7 X i j aR c0 row (j6 row (Vy X i j) 0)) (P:CP X i j aR c0 row X.M.ax (j6 row (Vy X i j) 0) s) (h0:c0<=1+(i*(X.l.length+1)+j)*(X.M.ax+1)+1):PS X i (j+1) s:=by
 have hi:=P.hi;refine⟨P.rw',by rw[show i*(X.l.length+1)+(j+1)=(i*(X.l.length+1)+j)+1 from rfl,K6 _ 1,Z5];exact Jl P.hi (zcH h0 (Jv _)),P.dg,λhlt=>?_,λhf=>?_⟩
 ·have: ¬(i=X.u.length/\j=X.l.length):=λe=>hlt.elim (λh=>Z8 h e.1) λh=>Z8 h.2 e.2
  have hw:=P.w;rw[show Vy X i j=λ_=>R.zero from funext λ_=>if_neg this,yK,R.add_zero] at hw;exact hw
 ·have hh:i=X.u.length/\j=X.l.length:=hf.elim (λh=>⟨h.1,ZP.inj h.2⟩) λh=>absurd (h▸C.hi) (Xe _)
  have hw:=P.w;rw[show Vy X i j=cu X.M from funext λ_=>if_pos hh] at hw;obtain rfl:=hh.1;obtain rfl:=hh.2;rw[Gy,Ed,R.zero_add] at hw;rw[P.vr];exact⟨hw,λx hx=>R.ah (Jv _) (Jr P.lo _) (C.dg x hx)⟩
abbrev UY:List Sm:= [.fq (.nm 8) (.bh (.var 5) 6776180 [.ba [.var 6,.var 7]]),.ite (.ew .is (.var 8) (.lit .none)) [.cont] [],.ite (.ew .jj (.var 4) (.lit .none)) [.fq (.nm 8) (.call (.lit (.ai 132)) [.var 3,.var 8,.var 4]),.fq (.sb (.var 5) (.ba [.var 6,.var 7])) (.var 8)] [],.fo [9] Qb (.call (.lit (.ty 491260897125)) [.bh (.var 0) 1936292453 []]) xx]
def Bm {V:List R.α}:j6 V (xM X.M X.B X.u X.l i j) 0=R.add (j6 V (NH X i j) 0) (j6 V (Vy X i j) 0):=by
 rw[R.add_comm,<-HS];rfl
def MM (z:Cx) {N:Nat}{Ad:Nat×Nat->Option Nat}{V:Nat×Nat->List R.α} (S:RW lL R h g D N c Ad V) (i j:Nat) (hv:((Ad (i,j)).map ab.ref).getD .none=v):kP z (.ref D) my [GJ i j] g g=Qa (v,g):=by
 exact S.dd.elim λep zq13=>zq13.elim λes zq14=>W.eq (Of zq14.1 zq14.1 (qH (T:=lL) (k:=(i,j)) zq14.2.1) ⟨(congrArg (λo=>o.getD .none) (zq14.2.2.2 (i,j))).trans hv,rfl⟩)
theorem G5 {V:Nat×Nat->List R.α} (hc:c<=c') (h:Be R i j c p k V):Be R i (j+1) c' p k V:=λa b hn x hx=>R.ah (Jv _) (Jr hc _) (h a b (λq=>hn (q.elim .inl λq=> .inr ⟨q.1,Zy q.2⟩)) x hx)
abbrev zfv:Sm:= .fo [9] Qb (.call (.lit (.ty 491260897125)) [.bh (.var 0) 1936292453 []]) xx
def CM:1+(i*(X.l.length+1)+(j+1))*(X.M.ax+1)=1+(i*(X.l.length+1)+j)*(X.M.ax+1)+(X.M.ax+1):=by
 rw(occs:=.all) [show i*(X.l.length+1)+(j+1)=(i*(X.l.length+1)+j)+1 from rfl,K6 _ 1,Z5,J9]
def EG {a:Nat}{st:CS R} (hd:5<=d) (O:mq X) (hi:i<=X.u.length) (hj:j<=X.l.length) (S:RW lL R X.h st.g X.D X.M.aa.length st.c st.Ad st.V) (hA:st.Ad (i,j)=Qa a) (dg:Be R i (j+1) st.c X.p X.k st.V) (hD: ∀x∈st.V (i,j),R.D (X.p*(i+j+1)+X.pS) (X.k*(i+j+1)+X.kS+st.c) x)
  (hc:st.c<=1+(i*(X.l.length+1)+j)*(X.M.ax+1)+1) (hw:R.add (mw X.u.length X.l.length X.B i (j+1) st.V) (j6 (st.V (i,j)) (xM X.M X.B X.u X.l i j) 0)=X.W):
  ∃s',PS X i (j+1) s'/\exec (ag P0 d) zfv (gr X (vN i) (vN j) (vR a) st.e st.f st.k) st.g=Qa ((.nx,gr X (vN i) (vN j) (vR a) s'.e s'.f s'.k),s'.g):=by
 rw[Bm] at hw;exact(zfY hd (⟨O,hi,hj,zcH hc (G6 O hi hj),S.len (i,j),hD⟩:y7 X i j a st.c (st.V (i,j)) (j6 (st.V (i,j)) (Vy X i j) 0)) ⟨S,Jv _,Jv _,dg,rfl,hA,hw⟩ rfl).elim λs' zq12=>⟨s',zq12.1.next (⟨O,hi,hj,zcH hc (G6 O hi hj),S.len (i,j),hD⟩:y7 X i j a st.c (st.V (i,j)) (j6 (st.V (i,j)) (Vy X i j) 0)) hc,zq12.2⟩
def g9 (e:X.ov= .none) (h:MH):nB .jj X.ov .none h=Qa false:=by rw[e];rfl
def g8 {a:Nat} (e:X.ov= .ref a) (h:MH):nB .jj X.ov .none h=Qa true:=by rw[e];rfl
structure NP (X:WX R) (g t:MH) (a P K:Nat) (row row':List R.α):Prop where
 ge:g.length<=a
 at':(g++t)[a]?=Qa (.list (row'.map R.e))
 len:row'.length=X.M.aa.length
 dg: ∀x∈row',R.D (P+X.pS) (K+X.kS) x
 w: ∀i j,i<=X.u.length->j<=X.l.length->j6 row (X.B i j) 0=j6 row' (xM X.M X.B X.u X.l i j) 0
def Lg.ex (V:Lg X) {P:Nat}{row:List R.α} (hov:X.ov= .ref aT) (hd:5<=d) (hp: ∃t,g=X.h++t) (hr:g[aR]?=Qa (.list (row.map R.e))) (hl:row.length=X.M.aa.length) (hD: ∀x∈row,R.D P K x) (hb:4*(P+X.pS)+(K+X.kS)<=3800):
  ∃t a row',jZ (ag P0 d) (.ai 132) [.ai (112+R.i),.ref aR,X.ov] g=Qa (.ref a,g++t)/\NP X g t a P K row row':=by
 obtain⟨v,g',e,t,a,row',rfl,rfl,N⟩:=W.get (mJ (P:=P0) (d:=d) rfl (V.so aT hov hd hp hr hl hD hb (Q:=λv g'=> ∃t a row',v= .ref a/\g'=g++t/\NP X g t a P K row row') λt a row' h1 h2 h3 h4 h5=>⟨t,a,row',rfl,rfl,h1,h2,h3,h4,h5⟩));exact⟨t,a,row',by rw[hov];exact e,N⟩
abbrev g7 (st:CS R) (g:MH) (i j a:Nat) (row:List R.α):CS R:=⟨g,cw (T:=lL) st.Ad (i,j) (Qa a),cw (T:=lL) st.V (i,j) row,st.c+1,st.a,st.b,st.d,st.e,st.f,st.k⟩
def RM (O:mq X) (hi:i<=X.u.length) (hj:j<=X.l.length) (hc:c<=1+(i*(X.l.length+1)+j)*(X.M.ax+1)):4*(X.p*(i+j+1)+X.pS)+(X.k*(i+j+1)+c+X.kS)<=3800:=by
 have e3:=o6 (p:=X.p) (show i+j+1+1<=X.u.length+X.l.length+2 by exact JY (Yv (JG hi hj) (JT _)));have e4:=o6 (p:=X.k) (show i+j+1+1<=X.u.length+X.l.length+2 by exact JY (Yv (JG hi hj) (JT _)));rw[Kv] at e3 e4;exact Jl (JG (JF 4 (Jl (Jr (Jl (Jw _ _) O.pp) _) e3)) (Jl (Jx (ZK _ _ _)) (JG (Jl (Jr (Jl (Jw _ _) O.kk) _) e4) (Jl hc (Jl (Jr (Jl (Jo _ _) (G6 O hi hj)) 1) (Jo _ _)))))) O.bd
section
variable {st:CS R} (hd:6<=d) (O:mq X) (hi:i<=X.u.length) (hj:j<=X.l.length) (P:PS X i j st)
include hd O hi hj P
def PS.hw:R.add (j6 (st.V (i,j)) (X.B i j) 0) (mw X.u.length X.l.length X.B i (j+1) st.V)=X.W:=by
 have hp:=P.w ((Yh hi).imp id λh=>⟨h,hj⟩);rwa [CZ hi hj] at hp
theorem PS.cG: ∀x∈st.V (i,j),R.D (X.p*(i+j+1)) (X.k*(i+j+1)+st.c) x:=P.dg i j (by unfold done;simp)
def Oq (hA:st.Ad (i,j)=Qd) (q2: ∀s',PS X i (j+1) s'->R' .ct (gr X (vN i) s'.b s'.d s'.e s'.f s'.k) s'.g):cq (ag P0 d) UY (gr X (vN i) (vN j) st.d st.e st.f st.k) st.g R':=by
 have hp:=PS.hw hd O hi hj P;have hz:=P.rw'.qv (i,j) hA;rw[hz,mH,R.zero_add] at hp;have N:PS X i (j+1) {st with b:=vN j,d:=Qa .none}:=by
  refine⟨P.rw',by rw[CM];exact Jl P.hc (Jo _ _),G5 (Jv _) P.dg,λ_=>hp,λhf=>?_⟩;have hh:i=X.u.length/\j=X.l.length:=hf.elim (λh=>⟨h.1,ZP.inj h.2⟩) λh=>absurd (h▸hi) (Xe _);obtain rfl:=hh.1;obtain rfl:=hh.2;rw[Gy,Ed] at hp;exact⟨by show j6 (st.V _) _ _=_;rw[hz,mH];exact hp,λx hx=>R.ah (Jo _ _) (JW (Jo _ _) _) (PS.cG hd O hi hj P x hx)⟩
 exact kC (.p (MM (ag P0 d) P.rw' i j (v:=.none) (by rw[hA];rfl))<| .c2<| .z (q2 _ N)) rfl
def Oo (V:Lg X) {a:Nat} (hA:st.Ad (i,j)=Qa a) (hov:X.ov= .none) (q1: ∀s',PS X i (j+1) s'->R' .nx (gr X (vN i) s'.b s'.d s'.e s'.f s'.k) s'.g):cq (ag P0 d) UY (gr X (vN i) (vN j) st.d st.e st.f st.k) st.g R':=by
 have hp:=PS.hw hd O hi hj P;rw[rJ λs _ h2=>V.no hov i j s hi hj (by rw[P.rw'.len,ZM] at h2;exact h2),R.add_comm] at hp;refine(EG (Jl (by decide) hd) O hi hj P.rw' hA (G5 (Jv _) P.dg) (λx hx=>R.ah (Jo _ _) (JW (Jo _ _) _) (PS.cG hd O hi hj P x hx)) (Zh P.hc) hp).elim λs' zq6=>?_;have N:PS X i (j+1) {s' with b:=vN j,d:=vR a}:=⟨zq6.1.rw',zq6.1.hc,zq6.1.dg,zq6.1.w,zq6.1.eu⟩;exact kC (.p (MM (ag P0 d) P.rw' i j (v:=.ref a) (by rw[hA];rfl))<| .c2<| .k (g9 hov)<| .c<| .s (zq6.2)<| .z (q1 _ N)) rfl
def On (V:Lg X) {a:Nat} (hA:st.Ad (i,j)=Qa a) (hov:X.ov= .ref aT) (q1: ∀s',PS X i (j+1) s'->R' .nx (gr X (vN i) s'.b s'.d s'.e s'.f s'.k) s'.g):cq (ag P0 d) UY (gr X (vN i) (vN j) st.d st.e st.f st.k) st.g R':=by
 have hp:=PS.hw hd O hi hj P;have S:=P.rw';refine(V.ex hov (Jl (by decide) hd) S.pre (S.row (i,j) a hA) (S.len (i,j)) (PS.cG hd O hi hj P) (RM O hi hj P.hc)).elim λt zq3=>zq3.elim λb zq4=>zq4.elim λrow' zq5=>?_;refine S.dd.elim λep zq1=>zq1.elim λes zq2=>?_;rw[zq5.2.w i j hi hj,<-C0 (r:=row') (a:=i) (b:=j) (i:=i) (j:=j+1) (V:=st.V) (by unfold done;simp),R.add_comm] at hp;obtain⟨s',P',e⟩:=EG (st:=g7 st _ i j b row') (Jl (by decide) hd) O hi hj ((S.bz:RW lL R X.h (st.g++t) X.D X.M.aa.length st.c st.Ad st.V).kf (k:=(i,j)) (jS zq2.1) zq5.2.at' (Jl (by obtain⟨t0,hg⟩:=S.pre;rw[hg,Jz];exact Jo _ _) zq5.2.ge) (λz' e=>absurd (kD (S.row z' _ e)) (ZU.mpr zq5.2.ge)) zq5.2.len (bif (j7 es (GJ i j)).isSome then ep else ep.map (· +1)) (S.ep zq2.1 _)) (show cw (T:=lL) st.Ad (i,j) (Qa b) (i,j)=Qa b from jX) (λa' b' hn x hx=>by
   have hx:x∈cw (T:=lL) st.V (i,j) row' (a',b'):=hx;rw[j3 (λq=>hn (by refine eqB q ?_;exact .inr ⟨rfl,JT _⟩): ¬(a',b')=(i,j))] at hx;exact G5 (ZA _) P.dg a' b' hn x hx) (λx hx=>by
   have hx:x∈cw (T:=lL) st.V (i,j) row' (i,j):=hx;rw[jX] at hx;exact R.ah (Jv _) (by show _<=_+(st.c+1);exact Jl (Jx (ZK _ _ _)) (JG (Jv _) (Jo _ _))) (zq5.2.dg x hx)) (Zn P.hc) (by show R.add _ (j6 (cw (T:=lL) st.V (i,j) row' (i,j)) _ 0)=_;rw[jX];exact hp)
 have N':PS X i (j+1) {s' with b:=vN j,d:=vR b}:=⟨P'.rw',P'.hc,P'.dg,P'.w,P'.eu⟩;exact kC (.p (MM (ag P0 d) P.rw' i j (v:=.ref a) (by rw[hA];rfl))<| .c2<| .k (g8 hov)<| .c<| .p (zq5.1)<| .h (E9 (v:=.ref b) (jS (t:=t) zq2.1) (qH (T:=lL) (k:=(i,j)) zq2.2.1) (Jt zq2.2.2.1 (Jt P.hc (Jt (Jr (Jl (Jo _ _) (G6 O hi hj)) 1) (Zx O.cl (by decide)))):es.length<bb))<| .s (e)<| .z (q1 _ N')) (by kernel_rfl)
end
def BR {st:CS R} (hd:6<=d) (O:mq X) (V:Lg X) (hi:i<=X.u.length) (hj:j<=X.l.length) (P:PS X i j st)
  (q1: ∀s',PS X i (j+1) s'->R' .nx (gr X (vN i) s'.b s'.d s'.e s'.f s'.k) s'.g) (q2: ∀s',PS X i (j+1) s'->R' .ct (gr X (vN i) s'.b s'.d s'.e s'.f s'.k) s'.g):
  cq (ag P0 d) UY (gr X (vN i) (vN j) st.d st.e st.f st.k) st.g R':=by
 refine FH (st.Ad (i,j)) (λhA=>?_) λa hA=>?_
 ·exact Oq hd O hi hj P hA q2
 ·exact V.r.elim (λhov=>Oo hd O hi hj P V hA hov q1) λ⟨_,hov⟩=>On hd O hi hj P V hA hov q1
end
section
variable {h0:MH}{X:WX R}{row:List R.α}{F:R.α}
def uF (M:Mc R.α):List R.α:=(lC R M.aa.length).set M.start M.first
def W2 (T:qk) (k0:T.κ) (h:MH) (M:Mc R.α):MH:=h++([.list [R.e R.zero],.list ((uF M).map R.e)]++ [.dict (Qa 1) [(T.v k0,ab.ref (h.length+1))]])
abbrev UR (h:MH) (M:Mc R.α):MH:=W2 lL (0,0) h M
def Cn {T:qk}{k0:T.κ}{N:Nat} (hN:N=M.aa.length):RW T R h (W2 T k0 h M) (h.length+2) N 1 (cw (λ_=>Qd) k0 (Qa (h.length+1))) (cw (λ_=>lC R N) k0 (uF M)):=by
 subst hN;delta W2;refine⟨⟨_,rfl⟩,Jo _ _,⟨_,_,oJ,?_,Jv _,λk=>?_⟩,λk k' a h1 h2=>?_,λk a h1=>?_,λk a h1=>?_,λk h1=>?_,λk=>?_,_,_,oJ,List.Pairwise.cons (λ_ h=>absurd h JB) .nil⟩
 ·intro p hp;rw[JE.mp hp];exact⟨k0,rfl⟩
 ·rw[l5,T.eq]
  by_cases e:k=k0
  ·subst e;rw[jX,decide_eq_true rfl];rfl
  ·rw[j3 e,decide_eq_false λq=>e q.symm];rfl
 ·by_cases e1:k=k0
  ·by_cases e2:k'=k0
   ·exact e1.trans e2.symm
   ·rw[j3 e2] at h2;exact af h2
  ·rw[j3 e1] at h1;exact af h1
 ·by_cases e1:k=k0
  ·subst e1;rw[jX] at h1;refine lW h1 ?_;exact Jo _ _
  ·rw[j3 e1] at h1;exact nomatch h1
 ·by_cases e1:k=k0
  ·subst e1;rw[jX] at h1 ⊢;refine lW h1 ?_;exact oJ
  ·rw[j3 e1] at h1;exact nomatch h1
 ·by_cases e1:k=k0
  ·subst e1;rw[jX] at h1;exact nomatch h1
  ·exact j3 e1
 ·by_cases e1:k=k0
  ·subst e1;rw[jX];unfold uF;rw[J0];unfold lC;rw[Zu]
  ·rw[j3 e1];unfold lC;rw[Zu]
theorem Ck {N:Nat} (hN:N=M.aa.length):RW lL R h (UR h M) (h.length+2) N 1 (cw (T:=lL) (λ_=>Qd) (0,0) (Qa (h.length+1))) (cw (T:=lL) (λ_=>lC R N) (0,0) (uF M)):=Cn hN
theorem Cm (G:kQ M p1 k1) (hp:p1<=p) (hk:k1<=k):Be R 0 0 1 p k (cw (T:=lL) (λ_=>lC R M.aa.length) (0,0) (uF M)):=λa b _ x hx=>by
 by_cases e1:(a,b)=(0,0)
 ·cases e1
  rw[jX] at hx;rcases Km hx with hx|rfl
  ·exact(Zk hx)▸(R.ah (Jy _) (Jy _) R.bt)
  ·exact R.ah (Jl hp (Jx (qaw p).symm)) (Zh (Jl hk (Jx (qaw k).symm))) G.fst
 ·rw[j3 e1] at hx
  simp only[Zk hx];exact(R.ah (Jy _) (Jy _) R.bt)
def E8 {B:Nat->Nat->Nat->R.α} (hs:M.start<M.aa.length):mw n m B 0 0 (cw (T:=lL) (λ_=>lC R M.aa.length) (0,0) (uF M))=R.mul M.first (B 0 0 M.start):=by
 have e:uF M=m5 (lC R M.aa.length) M.start M.first:=by
  delta uF m5 lC;rw[Z0,if_pos hs];show _=qaW _ _ (R.add R.zero M.first);rw[R.zero_add]
 have zl:(lC R M.aa.length).length=M.aa.length:=Zu ..;rw[e,L4 (V:=λ_=>lC R M.aa.length) (Jy _) (Jy _) (by unfold done;simp) (by rw[zl];exact hs),CY (λ_ _=>rfl),R.add_zero]
abbrev zbp:Sm:= .fo [7] Qb (.call (.lit (.ty 491260897125)) [.ez .add (.call (.lit (.bi 7103854)) [.var 2]) (.lit (.int 1))]) UY
theorem WK (n:Nat) (g:MH):ab.fy ((n:Int)+1)= .fy (n+1:Nat)/\g=g:=⟨rfl,rfl⟩
def Ep {a b:Nat} (h:1+(a+1)*(b+1)*(c+1)<n):a+1<n/\b+1<n:=by
 exact⟨Jt (Jl (ZZ (a+1) (Zs b)) (ZZ ((a+1)*(b+1)) (Zs c))) (Jt (Jw _ _) h:(a+1)*(b+1)*(c+1)<n),Jt (Jl (qah (b+1) (Zs a)) (ZZ ((a+1)*(b+1)) (Zs c))) (Jt (Jw _ _) h:(a+1)*(b+1)*(c+1)<n)⟩
def PS.bV {s:CS R} (P:PS X i (X.l.length+1) s):PS X (i+1) 0 {s with a:=vN i}:=by
 refine⟨P.rw',by rw(occs:=.all) [Nat.add_zero,K6 i 1,Z5];exact P.hc,λa b hn=>P.dg a b λq=>hn ?_,λhlt=>?_,λhf=>P.eu (.inl ⟨by lia,rfl⟩)⟩
 ·exact .inl (q.elim Zy λq=>JQ (Jx q.1))
 ·exact(Gy).symm.trans (P.w (.inl (hlt.elim qaT λh=>Jx h.1)))
theorem zfZ {st:CS R} (hd:6<=d) (O:mq X) (V:Lg X) (hi:i<=X.u.length) (P:PS X i 0 st): ∃s',PS X (i+1) 0 s'/\exec (ag P0 d) zbp (gr X (vN i) st.b st.d st.e st.f st.k) st.g=Qa ((.nx,gr X s'.a s'.b s'.d s'.e s'.f s'.k),s'.g):=
 (kh (c:=ag P0 d) (x:=7) (n:=X.l.length+1) (e:=.call (.lit (.ty 491260897125)) [.ez .add (.call (.lit (.bi 7103854)) [.var 2]) (.lit (.int 1))]) (b:=UY) (λs':CS R=>gr X (vN i) s'.b s'.d s'.e s'.f s'.k) CS.g (λj=>PS X i j) st (JK (Ep O.cl).2) rfl (by exact kJ (.c3<| .z (WK X.l.length st.g)) rfl) P λj s' R1 _ hj P1 T1=>BR hd O V hi (JN hj) P1 T1.nx T1.ct).elim λs' q=>⟨{s' with a:=vN i},q.1.bV,q.2⟩
abbrev bE (X:WX R):CS R:=⟨UR X.h X.M,cw (T:=lL) (λ_=>Qd) (0,0) (Qa (X.h.length+1)),cw (T:=lL) (λ_=>lC R X.M.aa.length) (0,0) (uF X.M),1,Qd,Qd,Qd,Qd,Qd,Qd⟩
def zcB {b:Nat->R.α} (hb: ∀s,R.D p' k' (b s)): ∀ {r:List R.α}{o:Nat},(∀x∈r,R.D p k x) ->R.D (p+p') (k+k'+r.length) (j6 r b o):=by
 intro r
 induction r with
 |nil=>exact λ_=>R.ah (Jy _) (Jy _) R.bt
 |cons x r ih=>exact λh=>R.fw (R.ah (Jv _) (Jo _ _) (R.fj (h x (.head _)) (hb _))) (ih λy hy=>h y (.tail _ hy))
def kQ.wo (G:kQ M p k) (s:Nat):R.D p k (cu M s):=by
 delta cu;refine FH (M.aj[s]?) (λe=>?_) λx e=>?_
 ·rw[e]
  exact R.ah (Jy _) (Jy _) R.bt
 ·rw[e]
  exact G.ed x (Jq e)
abbrev zis:Sm:= .fo [6] Qb (.call (.lit (.ty 491260897125)) [.ez .add (.call (.lit (.bi 7103854)) [.var 1]) (.lit (.int 1))]) [zbp]
theorem zf1 (hd:6<=d) (O:mq X) (V:Lg X) (P:PS X 0 0 (bE X)): ∃s',PS X (X.u.length+1) 0 s'/\exec (ag P0 d) zis (gr X Qd Qd Qd Qd Qd Qd) (UR X.h X.M)=Qa ((.nx,gr X s'.a s'.b s'.d s'.e s'.f s'.k),s'.g):=
 kh (c:=ag P0 d) (x:=6) (n:=X.u.length+1) (e:=.call (.lit (.ty 491260897125)) [.ez .add (.call (.lit (.bi 7103854)) [.var 1]) (.lit (.int 1))]) (b:=[zbp]) (λs':CS R=>gr X s'.a s'.b s'.d s'.e s'.f s'.k) CS.g (λi=>PS X i 0) (bE X) (JK (Ep O.cl).1) rfl (by exact kJ (.c3<| .z (WK X.u.length (UR X.h X.M))) rfl) P λi s' R1 _ hi P1 T1=>by
  exact(zfZ hd O V (JN hi) P1).elim λs2 zq5=>kC (.s (zq5.2)<| .z (T1.nx s2 zq5.1)) rfl
abbrev zfy (X:WX R):Nat:=X.k*(X.u.length+X.l.length+2)+(1+(X.u.length+1)*(X.l.length+1)*(X.M.ax+1)+X.M.aa.length)
def GY {C N:Nat} (h1:p1+pS<=p) (h2:k1+kS<=k) (h3:c<=C) (h4:4*(p*(n+2))+(k*(n+2)+(C+N))<=3800):
  p*(n+1)+pS+p1<=p*(n+2)/\k*(n+1)+kS+c+k1+N<=k*(n+2)+(C+N)/\4*(p*(n+1)+pS+p1)+(k*(n+1)+kS+c+k1+N)<=3800:=by
 rw[(Kv .. :p*(n+2)=p*(n+1)+p),(Kv .. :k*(n+2)=k*(n+1)+k)] at h4 ⊢;have A1:=Jl (Jx (J9 (p*(n+1)) pS p1)) (Jr (Jl (Jx (ZJ _ _)) h1) _);have A2:=Jl (JW (Jl (Jx (cO (k*(n+1)) kS c k1)) (JG (Jr h2 _) h3)) N) (Jx (J9 _ _ _));exact⟨A1,A2,Jl (JG (JF 4 A1) A2) h4⟩
def zf0 {s:CS R} (hd:4<=d) (O:mq X) (P:PS X (X.u.length+1) 0 s): ∃v,kP (ag P0 d) (.ref X.D) my [GJ X.u.length X.l.length] s.g s.g=Qa (v,s.g)/\jZ (ag P0 d) (.ai 127) [.ref X.L.m,v] s.g=Qa (R.e X.W,s.g)/\R.D (X.p*(X.u.length+X.l.length+2)) (zfy X) X.W:=by
 have S:=P.rw';obtain⟨hw,hdg⟩:=P.eu (.inr rfl);refine FH (s.Ad (X.u.length,X.l.length)) (λhA=>?_) λa hA=>?_
 ·rw[S.qv _ hA,mH] at hw
  exact⟨.none,MM _ S _ _ (by rw[hA];rfl),hw▸fn rfl (RB hd (S.qa O.I) ⟨rfl,rfl⟩),hw▸R.ah (Jy _) (Jy _) R.bt⟩
 ·have hDv:=zcB (o:=0) (b:=cu X.M) (λs=>O.G.wo s) hdg
  rw[hw,S.len] at hDv;refine⟨.ref a,MM _ S _ _ (by rw[hA];rfl),?_,R.ah (GY O.pp O.kk P.hc O.bd).1 (GY O.pp O.kk P.hc O.bd).2.1 hDv⟩
  have:=fn (P:=P0) rfl (Vj (Q:=λv g=>v=_/\g=_) hd (S.qa O.I) (S.row _ _ hA) (S.len _) hdg O.G.ed (GY O.pp O.kk P.hc O.bd).2.2 ⟨rfl,rfl⟩)
  rw[EB (o:=0) (b:=cu X.M) ((S.len _).trans O.I.di.symm) λs x hx=>by unfold cu;rw[ZM,hx];rfl,hw] at this;exact this
def zc0 (eD:X.D=X.h.length+2):lK (X.h++ [ae.list [R.e R.zero],.list (((lC R X.M.aa.length).set X.M.start X.M.first).map R.e)]) (.dict (Qa 1) [(GJ 0 0,.ref (X.h.length+1))])=Qa (.ref X.D,UR X.h X.M):=by
 delta lK UR W2 uF;simp only[JD,eD,Jz];rfl
theorem gY (O:mq X) (eD:X.D=X.h.length+2) (eW:X.W=R.mul X.M.first (X.B 0 0 X.M.start)) (hk:X.k1<=X.k) (hp:X.p1<=X.p):PS X 0 0 (bE X):=
 ⟨by rw[eD];exact Ck rfl,Jo _ _,Cm O.G hp hk,λ_=>by rw[eW];exact E8 O.G.st,λe=>e.elim (λe=>Nat.noConfusion e.2) λe=>Nat.noConfusion e⟩
def Lp (hd:7<=d) (O:mq X) (V:Lg X) (eg:g=X.h) (eD:X.D=X.h.length+2) (eW:X.W=R.mul X.M.first (X.B 0 0 X.M.start)) (hk:X.k1<=X.k) (hp:X.p1<=X.p)
  (q: ∀t,R.D (X.p*(X.u.length+X.l.length+2)) (zfy X) (R.mul X.M.first (X.B 0 0 X.M.start)) ->Q (R.e (R.mul X.M.first (X.B 0 0 X.M.start))) (X.h++t)):cq (ag P0 d) (l6.drop 5) (Qa (.ref X.L.m)::Qa (.str X.u)::Qa (.str X.l)::Qa (.ai (112+R.i))::Qa X.ov::nn 13) g (Internal.Fin Q):=by
 subst eg;refine xEA (zf1 (Jl (by decide) hd) O V (gY O eD eW hk hp)) λs P e=>?_;refine(zf0 (d:=d) (Jl (by decide) hd) O P).elim λv zq2=>?_;have e1:=zq2.1;have e2:=zq2.2.1;refine P.rw'.pre.elim λt zq1=>?_;rw[zq1,eW] at e2;rw[zq1] at e e1;exact kC (.p ((fn (P:=P0) (d:=d) (h:=X.h) rfl (HK (Q:=λv g=>v=_/\g=_) (Jl (by decide) hd) O.I O.G.st ⟨rfl,rfl⟩)))<| .p (zc0 eD)<| .s (e)<| .c2<| .p (e1)<| .p (e2)<| .z (q t (eW▸zq2.2.2))) (by kernel_rfl)
end
section
variable {h0:MH}
def oI (u l:List Nat) (i j:Nat) (a:Ar R.α):Bool:=jw u i a.up && jw l j a.lo
def lS (B:Nat->Nat->Nat->R.α) (u l:List Nat) (i j:Nat) (xs:List (Ar R.α)):R.α:=pY (xs.map λa=>bif oI u l i j a then R.mul a.w (B (i+a.up.length) (j+a.lo.length) a.t) else R.zero)
def HO (b:Nat->R.α) (xs:List (Ar R.α)):R.α:=pY (xs.map λa=>bif a.fh then R.mul a.w (b a.t) else R.zero)
def Bn (M:Mc R.α) (B:Nat->Nat->Nat->R.α) (u l:List Nat) (i j s:Nat):R.α:=R.add (if i=u.length/\j=l.length then cu M s else R.zero) (lS B u l i j (az M s))
def BH (M:Mc R.α) (u l:List Nat):Nat->Nat->Nat->Nat->R.α
 |0,_,_,_=>R.zero
 |f+1,i,j,s=>Bn M (BH M u l f) u l i j s
def ny (M:Mc R.α):Prop:= ∀ (s:Nat) ys,M.aa[s]?=Qa ys-> ∀a∈ys,a.fh=Qe->s<a.t
def pM (h:a.fh=Qe):a.up= []/\a.lo= []:=by
 delta Ar.fh at h;obtain⟨up,lo,w,t⟩:=a;cases up with
 |cons _ _=>exact JH h
 |nil=>
  cases lo with
  |cons _ _=>exact JH h
  |nil=>exact⟨rfl,rfl⟩
def Aq {B:Nat->Nat->Nat->R.α}{l:List Nat}:lS B u l i j xs=R.add (VA B u l i j xs) (HO (B i j) xs):=by
 induction xs with
 |nil=>exact(R.zero_add _).symm
 |cons a xs ih=>
  unfold lS VA HO at ih ⊢;simp only[JO,JO,JO,j8,j8,j8,ih];refine xO a.fh (λhe=>?_) λhe=>?_
  ·rw[he]
   simp only[(by unfold gx;rw[he];rfl:gx u l i j a=Qb),(by unfold oI;rw[(pM he).1,(pM he).2];rfl:oI u l i j a=Qe),(pM he).1,(pM he).2,cond_true,cond_true,cond_false,R.zero_add,R.swap];rfl
  ·rw[he]
   simp only[(by unfold gx oI;rw[he];rfl:gx u l i j a=oI u l i j a),cond_false,R.zero_add,R.add_assoc]
def vP {B:Nat->Nat->Nat->R.α}{l:List Nat}:Bn M B u l i j s=R.add (xM M B u l i j s) (HO (B i j) (az M s)):=by
 delta Bn xM;simp only[Aq,R.add_assoc]
def UU {b:Nat->R.α} (h: ∀a∈xs,a.fh=Qb):HO b xs=R.zero:=by
 delta HO
 induction xs with
 |nil=>rfl
 |cons a xs ih=>rw[JO,j8,h a (.head _),ih λa ha=>h a (.tail _ ha)];exact R.zero_add _
def Vz {B B':Nat->Nat->Nat->R.α}{l:List Nat} (h: ∀a∈xs,oI u l i j a=Qe->B (i+a.up.length) (j+a.lo.length) a.t=B' (i+a.up.length) (j+a.lo.length) a.t):lS B u l i j xs=lS B' u l i j xs:=by
 refine mQ λa ha=>?_;cases hh:oI u l i j a with
 |true=>rw[cond_true,cond_true,h a ha hh]
 |false=>rfl
theorem mY {B:Nat->Nat->Nat->R.α}{l:List Nat}:lS B u l i j (a::xs)=R.add (bif oI u l i j a then R.mul a.w (B (i+a.up.length) (j+a.lo.length) a.t) else R.zero) (lS B u l i j xs):=rfl
def mW (h:a∈az M s): ∃ys,M.aa[s]?=Qa ys/\ys∈M.aa/\a∈ys:=by
 delta az at h;cases hs:M.aa[s]? with
 |none=>rw[hs] at h;exact absurd h JB
 |some ys=>rw[hs] at h;exact⟨ys,rfl,Jq hs,h⟩
structure uR (M:Mc R.α):Prop where
 l: ∀ys∈M.aa,∀a∈ys,dh a.up/\dh a.lo
 t: ∀ys∈M.aa,∀a∈ys,a.t<M.aa.length
 e:ny M
def yA (M:Mc R.α) (u l:List Nat) (i j s:Nat):Nat:=((u.length-i)+(l.length-j))*(M.aa.length+1)+(M.aa.length-s)
def wK {l:List Nat} (H:uR M) (hi:i<=u.length) (hj:j<=l.length) (ha:a∈az M s) (hh:oI u l i j a=Qe):i+a.up.length<=u.length/\j+a.lo.length<=l.length/\yA M u l (i+a.up.length) (j+a.lo.length) a.t<yA M u l i j s:=by
 refine(mW ha).elim λys zq8=>?_;have zq7:=H.l ys zq8.2.1 a zq8.2.2;have f1:=(GX zq7.1 (Jm.mp hh).1 hi).1;have f2:=(GX zq7.2 (Jm.mp hh).2 hj).1;refine⟨f1,f2,?_⟩;delta yA;refine xO a.fh (λhe=>?_) λhe=>?_
 ·have:=H.e s ys zq8.1 a zq8.2.2 he
  rw[(pM he).1,(pM he).2];exact J3 (Nat.sub_lt_sub_left (jY zq8.1) this) _
 ·have h6:((u.length-(i+a.up.length))+(l.length-(j+a.lo.length))+1)*(M.aa.length+1)<=((u.length-i)+(l.length-j))*(M.aa.length+1):=Zq _ (Jl (Jr (z3 he) _) (Jx ((Xd _ _ _ _).trans (congr (congrArg _ (qbh .. ▸YJ (qao f1))) (qbh .. ▸YJ (qao f2))))))
  rw[K6,Z5] at h6;exact Js (J3 (JQ (YG _ _)) _) (Jl h6 (Jo _ _))
def Lj {l:List Nat} (H:uR M): ∀ {f f' i j s:Nat},i<=u.length->j<=l.length->yA M u l i j s<f->yA M u l i j s<f'->BH M u l f i j s=BH M u l f' i j s:=by
 intro f
 induction f with
 |zero=>exact λ_ _ h=>absurd h (Ze _)
 |succ f ih=>
  intro f' i j s hi hj h1 h2;cases f' with
  |zero=>exact absurd h2 (Ze _)
  |succ f'=>
   show R.add _ (lS (BH M u l f) u l i j (az M s))=R.add _ (lS (BH M u l f') u l i j (az M s))
   congr 1
   refine Vz λa ha hh=>?_;have zq5:=wK H hi hj ha hh;exact ih zq5.1 zq5.2.1 (Js zq5.2.2 (JN h1)) (Js zq5.2.2 (JN h2))
def Bv (M:Mc R.α) (u l:List Nat) (i j s:Nat):R.α:=BH M u l (yA M u l i j s+1) i j s
def U4 {l:List Nat} (H:uR M) (hi:i<=u.length) (hj:j<=l.length):Bv M u l i j s=Bn M (Bv M u l) u l i j s:=by
 show R.add _ (lS (BH M u l (yA M u l i j s)) u l i j (az M s))=R.add _ (lS (Bv M u l) u l i j (az M s))
 congr 1
 refine Vz λa ha hh=>?_;exact Lj H (wK H hi hj ha hh).1 (wK H hi hj ha hh).2.1 (wK H hi hj ha hh).2.2 (JT _)
section
variable {ks:List Nat}{mb1 mb2:List Bool}{bc:List (List Nat)} (TB:VE M ks mb1 mb2 bc) (hE:M.aj.length=M.aa.length)
include TB hE
theorem M9 (hk:mb2[k]?≠Qa Qe) (ha:a∈az M k) (ht:a.t<M.aa.length):mb2[a.t]?≠Qa true:=λq=>hk (by
 refine(mW ha).elim λys zq3=>?_;have hx:=Jn (l:=bc) (i:=a.t) (by rw[TB.b2.len];exact ht);refine TB.c2 _ _ q hx k ((TB.b2.mem _ _ hx k).mpr ⟨ys,zq3.1,.inl ⟨jY zq3.1,a,zq3.2.2,rfl⟩⟩))
def Na (hk:mb2[k]?≠Qa Qe):cu M k=R.zero:=by
 by_cases hkn:k<M.aa.length
 ·cases he:xD M k with
  |true=>exact absurd (TB.m2.first k (Kx.mpr ⟨KH.mpr hkn,he⟩)) hk
  |false=>
   delta xD at he;exact dT (Bool.not_inj (y:=Qe) he)
 ·delta cu
  rw[ZH (Jl (Jx hE) (J7 hkn))];rfl
def UW {l:List Nat} (ht: ∀ys∈M.aa,∀a∈ys,a.t<M.aa.length): ∀ {f i j k:Nat},mb2[k]?≠Qa Qe->BH M u l f i j k=R.zero:=by
 intro f
 induction f with
 |zero=>exact λ_=>rfl
 |succ f ih=>
  intro i j k hk;show R.add (if i=u.length/\j=l.length then cu M k else R.zero) (lS (BH M u l f) u l i j (az M k))=_;have e1:(if i=u.length/\j=l.length then cu M k else R.zero)=R.zero:=by rw[Na TB hE hk];split<;>rfl
  simp only[e1,R.zero_add]
  have: ∀xs:List (Ar R.α),(∀a∈xs,a∈az M k) ->lS (BH M u l f) u l i j xs=R.zero:=λxs=>by
   induction xs with
   |nil=>exact λ_=>rfl
   |cons a xs ihx=>
    intro h;refine(mW (h a (.head _))).elim λys zq2=>?_;simp only[mY,ihx λb hb=>h b (.tail _ hb),ih (M9 TB hE hk (h a (.head _)) (ht ys zq2.2.1 a zq2.2.2)),R.mul_zero];cases oI u l i j a<;>exact R.zero_add _
  exact this _ λ_ h=>h
def E2 {l:List Nat}{T:Mc R.α} (nk:ks.Nodup) (ht: ∀ys∈M.aa,∀a∈ys,a.t<M.aa.length) (ha:T.aa=ks.map λk=>o7 ks (az M k)) (he:T.aj=ks.map (cu M)): ∀ {f i j k:Nat},k∈ks->BH T u l f i j (ks.idxOf k)=BH M u l f i j k:=by
 intro f
 induction f with
 |zero=>exact λ_=>rfl
 |succ f ih=>
  intro i j k hk;have hix:=Z4.mpr hk;have e1:cu T (ks.idxOf k)=cu M k:=by
   delta cu;simp only[he,JA,Jn hix,(Xv hix)];rfl
  have e2:az T (ks.idxOf k)=o7 ks (az M k):=by
   delta az;simp only[ha,JA,Jn hix,(Xv hix)];rfl
  show R.add (if i=u.length/\j=l.length then cu T (ks.idxOf k) else R.zero) (lS (BH T u l f) u l i j (az T (ks.idxOf k)))=R.add _ (lS (BH M u l f) u l i j (az M k));simp only[e1,e2]
  congr 1
  rw[TB.ks] at hk;have hp:=Jm.mp (zU hk).2;have m1k:mb1[k]?=Qa true:=by
   cases hm:mb1[k]? with
   |none=>rw[hm] at hp;exact JH hp.1
   |some b=>rw[hm] at hp;exact congrArg Qa hp.1
  have: ∀xs:List (Ar R.α),(∀a∈xs,a∈az M k) ->lS (BH T u l f) u l i j (o7 ks xs)=lS (BH M u l f) u l i j xs:=λxs=>by
   induction xs with
   |nil=>exact λ_=>rfl
   |cons a xs ihx=>
    intro h;have ihx:=ihx λb hb=>h b (.tail _ hb);refine(mW (h a (.head _))).elim λys zq1=>?_;unfold o7 at ihx ⊢;simp only[KO];by_cases hin:a.t∈ks
    ·rw[if_pos hin]
     simp only[mY,mY,ihx];show R.add (bif oI u l i j a then R.mul a.w (BH T u l f (i+a.up.length) (j+a.lo.length) (ks.idxOf a.t)) else R.zero) _=_;rw[ih hin]
    ·simp only[if_neg hin]
     have hd2:mb2[a.t]?≠Qa true:=λq=>hin (by
      rw[TB.ks];exact Kx.mpr ⟨KH.mpr (ht ys zq1.2.1 a zq1.2.2),by rw[(TB.c1 k (ys.map Ar.t) m1k (by unfold xi;rw[JA,zq1.1];rfl) a.t (JJ.mpr ⟨a,zq1.2.2,rfl⟩):mb1[a.t]?=Qa Qe),q];rfl⟩)
     rw[mY,UW TB hE ht hd2,R.mul_zero];have e0:(bif oI u l i j a then R.zero else R.zero)=R.zero:=by cases oI u l i j a<;>rfl
     rw[e0,R.zero_add];exact ihx
  exact this _ λ_ h=>h
end
end
section
variable {h0:MH}
def DE {l:List Nat}{p:Nat->Bool}{f:Nat->Nat}:((l.filter p).map f).sum<=(l.map f).sum:=by
 induction l with
 |nil=>exact Jv _
 |cons x l ih=>
  simp only[List.filter_cons,JO,YC];cases p x
  ·exact Yl ih
  ·show (((x::l.filter p)).map f).sum<=_
   simp only[JO,YC];exact Jr ih _
def Au:M.aa=(Zg M.aa.length).map (az M):=by
 refine tW (by rw[Jp,Zi]) λi y hy=>?_;rw[JA,ZW (jY hy)];show Qa (M.aa[i]?.getD [])=_;rw[hy];rfl
theorem E3:(o7 ks xs).length<=xs.length:=XK ..
def xX (h:a∈o7 ks xs): ∃b∈xs,b.t∈ks/\a= {b with t:=ks.idxOf b.t}:=by
 refine(List.mem_filterMap.mp h).elim λb zq16=>?_;have e:=zq16.2;by_cases hk:b.t∈ks
 ·rw[if_pos hk] at e;exact⟨b,zq16.1,hk,(Qa.inj e).symm⟩
 ·rw[if_neg hk] at e;exact af e
def zba {l:List Nat}{f g:Nat->Nat} (h: ∀x,f x<=g x):(l.map f).sum<=(l.map g).sum:=by
 induction l with
 |nil=>exact Jv _
 |cons x l ih=>rw[JO,JO,YC,YC];have:=h x;exact JG this ih
theorem kQ.dh (G:kQ M p k) (H:ny M):uR M:=⟨λys hy a ha=>⟨(G.fk ys hy a ha).2.1,(G.fk ys hy a ha).2.2.1⟩,λys hy a ha=>(G.fk ys hy a ha).1,H⟩
def DV {p:Nat->Bool}{a b:Nat} (ha:(nX p n)[i]?=Qa a) (hb:(nX p n)[j]?=Qa b) (h:a<b):i<j:=by
 obtain⟨h1,rfl⟩:=Ju.mp ha;obtain⟨h2,rfl⟩:=Ju.mp hb;refine qaZ λhle=>?_;rcases Yh hle with hl|he
 ·exact Nat.lt_asymm h (List.pairwise_iff_getElem.mp (List.Pairwise.filter _ List.pairwise_lt_range:(nX p n).Pairwise (· < ·)) _ _ h2 h1 hl)
 ·subst he;exact Zb _ h
structure zfH (M T:Mc R.α) (p k:Nat):Prop where
 g:kQ T p k
 ax:T.ax<=M.ax
 len:T.aa.length<=M.aa.length
 up:ny M->ny T
 no:WO M->WO T
def Uw {T:Mc R.α}{L':Ly} (I:ak R h L M) (G:kQ M p k) (TB:VE M ks mb1 mb2 bc) (TR:oX M ks T) (J:ak R g L' T):zfH M T p k:=by
 have hks: ∀x∈ks,x<M.aa.length:=λx hx=>by rw[TB.ks] at hx;exact(zU hx).1
 have hkl:ks.length<=M.aa.length:=by rw[TB.ks];exact WD
 cases TR with
 |tw h1 h2 ha he hs hf=>
  have hal:T.aa.length=ks.length:=by rw[ha,Jp]
  have hcnt:T.ax<=M.ax:=by
   simp only[<-J.ct,<-I.ct,ha,Kw];have e:(M.aa.map Z3)=(Zg M.aa.length).map (λk=>(az M k).length):=by
    conv=>lhs;rw[Au (M:=M)]
    exact Kw
   rw[e,TB.ks];exact Jl (zba λx=>E3) DE
  refine⟨⟨by rw[hal,hs];exact Z4.mpr h1,λys hy a hay=>?_,hf▸G.fst,λx hx=>?_,G.bd,by have:=G.n;exact Jl (Jx hal) (Jl hkl this),Jl hcnt G.c⟩,hcnt,Jl (Jx hal) hkl,λH s ys hys a hay hae=>?_,λhE=>?_⟩
  ·rw[ha] at hy
   refine(JJ.mp hy).elim λk' zq13=>?_;obtain rfl:=zq13.2;refine(xX hay).elim λb zq12=>?_;refine eqB zq12.2.2 ?_;refine(mW zq12.1).elim λzs zq11=>?_;have zq10:=G.fk zs zq11.2.1 b zq11.2.2;exact⟨by rw[hal];exact Z4.mpr zq12.2.1,zq10.2.1,zq10.2.2.1,zq10.2.2.2.1,zq10.2.2.2.2⟩
  ·rw[he] at hx
   refine(JJ.mp hx).elim λk' zq9=>?_;refine eqE zq9.2 ?_;delta cu;rw[Jn (by rw[I.di];exact(hks k' zq9.1):k'<M.aj.length)];exact G.ed _ (Zo (by rw[I.di];exact(hks k' zq9.1):k'<M.aj.length))
  ·rw[ha,JA] at hys
   obtain⟨k',hk',rfl⟩:=ms hys;obtain⟨b,hb,hbt,rfl⟩:=xX hay;refine(mW hb).elim λzs zq6=>?_;have hlt:=H k' zs zq6.1 b zq6.2.2 hae;have hge:ks[ks.idxOf b.t]?=Qa b.t:=by rw[Jn (Z4.mpr hbt),Xv (Z4.mpr hbt)]
   rw[TB.ks] at hk' hge;show s<ks.idxOf b.t;rw[TB.ks];exact DV hk' hge hlt
  ·delta WO
   refine Yq.mpr λys hy=>?_;rw[ha] at hy;obtain⟨k',hk',rfl⟩:=JJ.mp hy;intro q;obtain⟨a,hay,he⟩:=K9.mp q;obtain⟨b,hb,hbt,rfl⟩:=xX hay;exact(mW hb).elim λzs zq2=>absurd (K9.mpr ⟨b,zq2.2.2,he⟩) (Yq.mp hE zs zq2.2.1)
 |nj h1 ha he hs hf=>
  have hcnt:T.ax=0:=by rw[<-J.ct,ha];rfl
  refine⟨⟨by rw[ha,hs];exact Nat.zero_lt_one,λys hy a hay=>?_,hf▸R.ah (Jy _) (Jy _) R.gd,λx hx=>?_,G.bd,by rw[ha];show 1<=300;decide,Jl (Jx hcnt) (Jy _)⟩,Jl (Jx hcnt) (Jy _),by rw[ha];show 1<=_;exact Jl (Jw _ _) (JY G.st),λ_ s ys hys a hay _=>?_,λ_=>by unfold WO;rw[ha];rfl⟩
  ·rw[ha] at hy
   cases JE.mp hy;exact absurd hay JB
  ·rw[he] at hx
   cases JE.mp hx;exact R.ah (Jy _) (Jy _) R.bt
  ·rw[ha] at hys
   cases JE.mp (Jq hys);exact absurd hay JB
def yU {l:List Nat}{T:Mc R.α} (I:ak R h L M) (G:kQ M p k) (TB:VE M ks mb1 mb2 bc) (TR:oX M ks T) (HM:uR M) (HT:uR T):R.mul T.first (Bv T u l 0 0 T.start)=R.mul M.first (Bv M u l 0 0 M.start):=by
 have ht: ∀ys∈M.aa,∀a∈ys,a.t<M.aa.length:=λys hy a ha=>(G.fk ys hy a ha).1;have nk:ks.Nodup:=by rw[TB.ks];exact Ee
 cases TR with
 |tw h1 h2 ha he hs hf=>
  rw[hs,hf];have eM:Bv M u l 0 0 M.start=BH M u l (yA M u l 0 0 M.start+yA T u l 0 0 (ks.idxOf M.start)+1) 0 0 M.start:=Lj HM (Jy _) (Jy _) (JT _) (JQ (Jo _ _));have eT:Bv T u l 0 0 (ks.idxOf M.start)=BH T u l (yA M u l 0 0 M.start+yA T u l 0 0 (ks.idxOf M.start)+1) 0 0 (ks.idxOf M.start):=Lj HT (Jy _) (Jy _) (JT _) (JQ (Jw _ _));simp only[eM,eT,(E2 TB I.di nk ht ha he h1: ∀ {f:Nat},BH T u l f 0 0 (ks.idxOf M.start)=BH M u l f 0 0 M.start)]
 |nj h1 ha he hs hf=>
  have e1:Bv T u l 0 0 T.start=R.zero:=by
   delta Bv;show R.add (if 0=u.length/\0=l.length then cu T T.start else R.zero) (lS (BH T u l _) u l 0 0 (az T T.start))=_;have e2:cu T T.start=R.zero:=by unfold cu;rw[he,hs];rfl
   have e3:az T T.start= []:=by unfold az;rw[ha,hs];rfl
   rw[e2,e3]
   have:(if 0=u.length/\0=l.length then R.zero else R.zero)=R.zero:=by split<;>rfl
   simp only[this,R.zero_add];rfl
  rw[e1,R.mul_zero];rcases h1 with h1|h1
  ·have hd2:mb2[M.start]?≠Qa true:=λq=>h1 (by
    rw[TB.ks];exact Kx.mpr ⟨KH.mpr G.st,by rw[TB.m1.first M.start (.head _),q];rfl⟩)
   unfold Bv;rw[UW TB I.di ht hd2,R.mul_zero]
  ·rw[h1,R.zero_mul]
def UG (hE:WO M) (h:a∈az M s):a.fh=false:=by
 refine(mW h).elim λys zq1=>?_
 have:=Yq.mp hE ys zq1.2.1
 cases he:a.fh with
 |false=>rfl
 |true=>exact absurd (K9.mpr ⟨a,zq1.2.2,he⟩) this
abbrev wX (h:MH) (L:Ly) (M:Mc R.α) (u l:List Nat) (ov:ab) (p k p1 k1 pS kS:Nat):WX R:=⟨h,L,M,u,l,h.length+2,ov,p,k,p1,k1,pS,kS,Bv M u l,R.mul M.first (Bv M u l 0 0 M.start)⟩
end
section
variable {h0:MH}
abbrev DR (R:Rg):=List (Nat×R.α)
def kU (r:DR R):List (ab×ab):=r.map λp=>(ab.int (p.1:Int),R.e p.2)
def kZ:DR R->Nat->R.α
 | [],_=>R.zero
 |p::t,j=>if p.1=j then p.2 else kZ t j
def x4:DR R->Nat->R.α->DR R
 | [],j,v=> [(j,v)]
 |p::t,j,v=>if p.1=j then(j,v)::t else p::x4 t j v
theorem nK {p:Nat×R.α}{t:DR R}:kZ (p::t) j=if p.1=j then p.2 else kZ t j:=rfl
theorem oZ {p:Nat×R.α}{t:DR R}{v:R.α}:x4 (p::t) j v=if p.1=j then(j,v)::t else p::x4 t j v:=rfl
def j2 (r:DR R):List Nat:=r.map (·.1)
def mD (r:DR R) (b:Nat->R.α):R.α:=pY (r.map λp=>R.mul p.2 (b p.1))
def Mu {a b:Nat}:gm (.int (a:Int)) (.int (b:Int))=(a==b):=by
 show ((Dz [] (.int (a:Int)) (.int (b:Int))).getD Qb)=_;have e:Dz [] (.int (a:Int)) (.int (b:Int))=Qa ((a:Int)==(b:Int)):=v5 (h:=[]);rw[e];show ((a:Int)==(b:Int))=(a==b);rw[Ku,beq_iff_eq,beq_iff_eq];lia
def tZ {r:DR R}:j5 (kU r) (.int (j:Int))=true:=by
 cases r with
 |nil=>rfl
 |cons p t=>rfl
def xF {r:DR R}:j7 (kU r) (.int (j:Int))=if j∈j2 r then Qa (R.e (kZ r j)) else none:=by
 induction r with
 |nil=>rfl
 |cons p t ih=>
  show j7 ((ab.int (p.1:Int),R.e p.2)::kU t) _=_;simp only[l5,Mu,ih];simp only[nK];delta j2;by_cases h:p.1=j
  ·rw[beq_iff_eq.mpr h,cond_true,if_pos (by rw[JO,h];exact .head _),if_pos h]
  ·rw[beq_false_of_ne h,cond_false,if_neg h]
   by_cases h2:j∈t.map (·.1)
   ·rw[if_pos h2,if_pos (.tail _ h2)]
   ·rw[if_neg h2]
    exact(if_neg λq=>(JM.mp q).elim (λe=>h e.symm) h2).symm
def F8 {r:DR R} (h:j∉j2 r):((kU r).map λp=>bif gm p.1 (.int (j:Int)) then(p.1,v) else p)=kU r:=by
 induction r with
 |nil=>rfl
 |cons p t ih=>
  show (bif gm (ab.int (p.1:Int)) (.int (j:Int)) then _ else _)::(kU t).map _=_;rw[Mu,beq_false_of_ne λe=>h (by rw[<-e];exact .head _),ih λq=>h (.tail _ q)];rfl
def M7 {r:DR R}{v:R.α} (nd:(j2 r).Nodup):nM (kU r) (.int (j:Int)) (R.e v)=kU (x4 r j v):=by
 delta nM;rw[xF];by_cases h:j∈j2 r
 ·rw[if_pos h,YK,cond_true]
  induction r with
  |nil=>exact absurd h JB
  |cons p t ih=>
   show (bif gm (ab.int (p.1:Int)) (.int (j:Int)) then _ else _)::(kU t).map _=_;rw[Mu];simp only[oZ];by_cases e:p.1=j
   ·rw[beq_iff_eq.mpr e,cond_true,if_pos e,F8 (e▸(JI.mp nd).1)]
    show (ab.int (p.1:Int),R.e v)::kU t=(ab.int (j:Int),R.e v)::kU t;rw[e]
   ·rw[beq_false_of_ne e,cond_false,if_neg e]
    rw[ih (JI.mp nd).2 ((JM.mp h).elim (λq=>absurd q.symm e) id:j∈j2 t)];rfl
 ·rw[if_neg h,YL,cond_false]
  induction r with
  |nil=>rfl
  |cons p t ih=>
   rw[oZ];rw[if_neg (λe=>h (by rw[<-e];exact .head _): ¬p.1=j)];show (ab.int (p.1:Int),R.e p.2)::(kU t++ [(ab.int (j:Int),R.e v)])=_;rw[ih (JI.mp nd).2 λq=>h (.tail _ q)];rfl
def qC {r:DR R}{v:R.α}: ∀x,x∈j2 (x4 r j v) ↔ x∈j2 r\/x=j:=by
 induction r with
 |nil=>intro x;show x∈ [j] ↔ _;rw[JE];exact⟨.inr,λh=>h.elim (λh=>absurd h JB) id⟩
 |cons p t ih=>
  intro x;simp only[oZ];by_cases e:p.1=j
  ·rw[if_pos e]
   show x∈j::j2 t ↔ x∈p.1::j2 t\/x=j;rw[e,JM];exact⟨λh=> .inl h,λh=>h.elim id .inl⟩
  ·rw[if_neg e]
   show x∈p.1::j2 (x4 t j v) ↔ x∈p.1::j2 t\/x=j;rw[JM,JM,ih,or_assoc]
def A6 {r:DR R}{v:R.α} (nd:(j2 r).Nodup):(j2 (x4 r j v)).Nodup:=by
 induction r with
 |nil=>exact JI.mpr ⟨JB,.nil⟩
 |cons p t ih=>
  have nd:=JI.mp nd;simp only[oZ];by_cases e:p.1=j
  ·rw[if_pos e];exact JI.mpr ⟨e▸nd.1,nd.2⟩
  ·rw[if_neg e]
   exact JI.mpr ⟨λq=>((qC _).mp q).elim nd.1 e,ih nd.2⟩
def Wu {r:DR R}{v:R.α}{q:Nat×R.α} (h:q∈x4 r j v):q∈r\/q=(j,v):=by
 induction r with
 |nil=>exact .inr (JE.mp h)
 |cons p t ih=>
  rw[oZ] at h;by_cases e:p.1=j
  ·rw[if_pos e] at h
   exact(JM.mp h).elim .inr λh=> .inl (.tail _ h)
  ·rw[if_neg e] at h
   rcases JM.mp h with rfl|h
   ·exact .inl (.head _)
   ·exact(ih h).imp (.tail _) id
def wH {r:DR R} (h:j∈j2 r):(j,kZ r j)∈r:=by
 induction r with
 |nil=>exact absurd h JB
 |cons p t ih=>
  simp only[nK];by_cases e:p.1=j
  ·rw[if_pos e,<-e];exact .head _
  ·rw[if_neg e];exact .tail _ (ih ((JM.mp h).elim (λq=>absurd q.symm e) id))
def tO {r:DR R} (h:j∉j2 r):kZ r j=R.zero:=by
 induction r with
 |nil=>rfl
 |cons p t ih=>
  simp only[nK];rw[if_neg λe=>h (by rw[<-e];exact .head _),ih λq=>h (.tail _ q)]
def CL {r:DR R}{b:Nat->R.α}:mD (x4 r j (R.add (kZ r j) w)) b=R.add (R.mul w (b j)) (mD r b):=by
 delta mD
 induction r with
 |nil=>show R.add (R.mul (R.add R.zero w) (b j)) R.zero=R.add (R.mul w (b j)) R.zero;rw[R.zero_add]
 |cons p t ih=>
  simp only[oZ,nK];by_cases e:p.1=j
  ·rw[if_pos e,if_pos e,JO,JO,j8,j8,e,R.add_mul,R.add_assoc,R.swap]
  ·rw[if_neg e,if_neg e,JO,JO,j8,j8,ih,R.swap]
def nW (r:DR R) (j:Nat) (w:R.α):DR R:= @ite _ (w=R.zero) (R.ft _ _) r (x4 r j (R.add (kZ r j) w))
def Wy {r:DR R}{b:Nat->R.α}:mD (nW r j w) b=R.add (R.mul w (b j)) (mD r b):=by
 delta nW;by_cases h:w=R.zero
 ·rw[if_pos h,h,R.zero_mul,R.zero_add]
 ·rw[if_neg h,CL]
structure qO (n P K:Nat) (r:DR R):Prop where
 nd:(j2 r).Nodup
 lt: ∀x∈j2 r,x<n
 dg: ∀p∈r,R.D P K p.2
def qO.get {P:Nat}{r:DR R} (H:qO n P K r) (j:Nat):R.D P K (kZ r j):=by
 by_cases h:j∈j2 r
 ·exact H.dg _ (wH h)
 ·exact(tO h)▸R.ah (Jy _) (Jy _) R.bt
def A9 {P:Nat}{r:DR R} (H:qO n P K r) (hj:j<n) (hw:R.D P K w):qO n P (K+1) (nW r j w):=by
 delta nW;by_cases h:w=R.zero
 ·rw[if_pos h];exact⟨H.nd,H.lt,λp hp=>R.ah (Jv _) (ZA _) (H.dg p hp)⟩
 ·rw[if_neg h]
  refine⟨A6 H.nd,λx hx=>((qC x).mp hx).elim (H.lt x) λe=>e▸hj,λp hp=>?_⟩;rcases Wu hp with hp|rfl
  ·exact R.ah (Jv _) (ZA _) (H.dg p hp)
  ·exact R.fw (H.get j) hw
def qO.len {P:Nat}{r:DR R} (H:qO n P K r):r.length<=n:=by
 have:=H.nd.length_le_of_subset (l₂:=Zg n) λx hx=>KH.mpr (H.lt x hx)
 rwa [Zi,show (j2 r).length=r.length from Jp ..] at this
def zab (z:Cx) {a:Nat}{ep:Option Nat}{r:DR R} (hr:h[a]?=Qa (.dict ep (kU r))) (j:Nat):kP z (.ref a) my [.int j,R.e R.zero] h h=Qa (R.e (kZ r j),h):=by
 refine W.eq (zaF hr hr tZ ⟨?_,rfl⟩);rw[xF];by_cases h:j∈j2 r
 ·rw[if_pos h];rfl
 ·rw[if_neg h,tO h];rfl
theorem zgg {a:Nat}{ep:Option Nat}{r:DR R} (v:R.α) (hr:h[a]?=Qa (.dict ep (kU r))) (nd:(j2 r).Nodup) (hl:r.length<=1000): ∃ep',m7 h (.ref a) (.int j) (R.e v)=Qa (h.set a (.dict ep' (kU (x4 r j v)))):=
 ⟨_,(E9 hr tZ (by unfold kU;rw[Jp];exact Jt hl (by decide))).trans (by rw[M7 nd])⟩
def Gu {P a:Nat}{ep:Option Nat}{r:DR R} (hd:4<=d) (hr:h[a]?=Qa (.dict ep (kU r))) (H:qO n P K r) (hn:n<=1000) (hw:R.D P K w) (hl:4*P+K<=3800): ∃ep',jZ (ag P0 d) (.ai 104) [.ai (112+R.i),.ref a,.int (j:Int),R.e w] h=Qa (.none,h.set a (.dict ep' (kU (nW r j w)))):=by
 obtain⟨ep',e⟩: ∃ep',WF P0 d 104 [.ai (112+R.i),.ref a,.int (j:Int),R.e w] h λv g=>v= .none/\g=h.set a (.dict ep' (kU (nW r j w))):=by
  cases hq:R.ft w R.zero with
  |isTrue q=>
   have e:h.set a (.dict ep (kU (nW r j w)))=h:=by
    refine(Ju.mp hr).elim λhl zq2=>?_;delta nW;rw[if_pos q,<-zq2,KY]
   refine⟨ep,kN (K:=3) hd (Qa (.ai (112+R.i))::Qa (.ref a)::Qa (.int (j:Int))::Qa (R.e w)::nn 6) rL rfl λd' h'=>?_⟩;rw[e];have hf:(!@decide (w=R.zero) (R.ft _ _))=false:=by rw[R.yes q];rfl
   exact kC (.w (R.no)<| .b ((Internal.cj (R.fc h w R.zero)))<| .f (hf)<| .z (ck .none h)) rfl
  |isFalse q=>
   obtain⟨ep',e⟩:=zgg (j:=j) (R.add (kZ r j) w) hr H.nd (Jl H.len hn);refine⟨ep',kN (K:=3) hd (Qa (.ai (112+R.i))::Qa (.ref a)::Qa (.int (j:Int))::Qa (R.e w)::nn 6) rL rfl λd' h'=>?_⟩;rw[(by unfold nW;rw[if_neg q]:nW r j w=x4 r j (R.add (kZ r j) w))];exact kC (.w (R.no)<| .b ((Internal.cj (R.fc h w R.zero)))<| .t ((by rw[R.not q];rfl:(!@decide (w=R.zero) (R.ft _ _))=Qe))<| .w (R.no)<| .p (zab (ag P0 d') hr j)<| .q (R.pl h' (H.get j) hw hl)<| .h (e)<| .z (ck .none (h.set a (.dict ep' (kU (x4 r j (R.add (kZ r j) w))))))) rfl
 exact⟨ep',fn rfl e⟩
end
variable {b:Nat->R.α}
def UA {r:DR R}{l:List Nat} (hp:l.Perm (j2 r)) (nd:(j2 r).Nodup):pY (l.map λj=>R.mul (kZ r j) (b j))=mD r b:=by
 have sp: ∀ {x y:List R.α},x.Perm y->pY x=pY y:=λ{x y} h=>by
  induction h with
  |nil=>rfl
  |cons a _ ih=>rw[j8,j8,ih]
  |swap a b l=>rw[j8,j8,j8,j8,R.swap]
  |trans _ _ h1 h2=>exact h1.trans h2
 refine(sp (hp.map _)).trans ?_;delta mD j2;rw[Kw]
 clear hp l
 induction r with
 |nil=>rfl
 |cons p t ih=>
  have nd:=JI.mp nd;simp only[JO,JO,j8,j8,<-ih nd.2];show R.add (R.mul (kZ (p::t) p.1) (b p.1)) _=_;rw[nK,if_pos rfl]
  congr 1
  refine congrArg pY (ZI λq hq=>?_);show R.mul (kZ (p::t) q.1) (b q.1)=R.mul (kZ t q.1) (b q.1);rw[nK,if_neg λe=>nd.1 (by rw[show (λx:Nat×R.α=>x.1) p=q.1 from e];exact JJ.mpr ⟨q,hq,rfl⟩)]
variable {b':Nat->R.α}
theorem qX {r:DR R} (h: ∀x∈j2 r,b x=b' x):mD r b=mD r b':=congrArg pY (ZI λp hp=>by rw[h p.1 (JJ.mpr ⟨p,hp,rfl⟩)])
def O7 {r:DR R}{x:R.α} (nd:(j2 r).Nodup) (hk:k∈j2 r) (h: ∀j,j≠k->b j=b' j) (e:b k=R.add (b' k) x):mD r b=R.add (R.mul (kZ r k) x) (mD r b'):=by
 induction r with
 |nil=>exact absurd hk JB
 |cons p t ih=>
  show R.add (R.mul p.2 (b p.1)) (mD t b)=R.add _ (R.add (R.mul p.2 (b' p.1)) (mD t b'));simp only[nK];by_cases hp:p.1=k
  ·rw[if_pos hp,qX (b:=b) (b':=b') λy hy=>h y λq=>(JI.mp nd).1 (by rw[show (λx:Nat×R.α=>x.1) p=k from hp,<-q];exact hy),hp,e,R.mul_add,R.add_comm (R.mul p.2 (b' k)),R.add_assoc]
  ·rw[if_neg hp,ih (JI.mp nd).2 ((JM.mp hk).elim (λq=>absurd q.symm hp) id),h _ hp,R.swap]
def F7 (ov:DR R) (f:R.α) (l:List Nat) (t:DR R):DR R:=l.foldl (λt j=>nW t j (R.mul f (kZ ov j))) t
variable {ov:DR R}
def M6 {f:R.α}: ∀ {l:List Nat}{t:DR R},mD (F7 ov f l t) b=R.add (R.mul f (pY (l.map λj=>R.mul (kZ ov j) (b j)))) (mD t b):=by
 intro l
 induction l with
 |nil=>intro t;show mD t b=R.add (R.mul f R.zero) (mD t b);rw[R.mul_zero,R.zero_add]
 |cons j l ih=>
  intro t;show mD (F7 ov f l (nW t j (R.mul f (kZ ov j)))) b=_;simp only[ih,Wy,JO,j8,R.mul_add,R.mul_assoc,R.add_assoc,R.swap]
structure SR (n p K i k:Nat) (t:DR R):Prop where
 nd:(j2 t).Nodup
 lt: ∀x∈j2 t,i<x/\x<n
 dg: ∀q∈t,R.D (p*(q.1-i)) (K*(q.1-i)+k) q.2
variable {t:DR R}
theorem SR.mono (H:SR n p K i k t) (h:k<=k'):SR n p K i k' t:=⟨H.nd,H.lt,λq hq=>R.ah (Jv _) (Jr h _) (H.dg q hq)⟩
theorem SR.get (H:SR n p K i k t) (h:j∈j2 t):R.D (p*(j-i)) (K*(j-i)+k) (kZ t j):=H.dg _ (wH h)
structure vh (n p K i k:Nat) (l:List Nat) (t:DR R):Prop where
 nd:(j2 t).Nodup
 lt: ∀x∈j2 t,i<x/\x<n
 dg: ∀q∈t,R.D (p*(q.1-i)) (K*(q.1-i)+(k+1)) q.2
 dl: ∀q∈t,q.1∈l->R.D (p*(q.1-i)) (K*(q.1-i)+k) q.2
theorem SR.l (H:SR n p K i k t) (l:List Nat):vh n p K i k l t:=⟨H.nd,H.lt,(H.mono (ZA k)).dg,λq hq _=>H.dg q hq⟩
def vh.add {l:List Nat} (H:vh n p K i k (j::l) t) (hj:j∉l) (h1:i<j) (h2:j<n) (hw:R.D (p*(j-i)) (K*(j-i)+k) w):vh n p K i k l (nW t j w):=by
 delta nW;by_cases h:w=R.zero
 ·rw[if_pos h];exact⟨H.nd,H.lt,H.dg,λq hq hl=>H.dl q hq (.tail _ hl)⟩
 ·rw[if_neg h]
  refine⟨A6 H.nd,λx hx=>((qC x).mp hx).elim (H.lt x) λe=>e▸ ⟨h1,h2⟩,λq hq=>?_,λq hq hl=>?_⟩
  ·rcases Wu hq with hq|rfl
   ·exact H.dg q hq
   ·refine R.fw (k:=K*(j-i)+k) ?_ hw
    by_cases hj:j∈j2 t
    ·exact H.dl _ (wH hj) (.head _)
    ·simp only[tO hj];exact R.ah (Jy _) (Jy _) R.bt
  ·rcases Wu hq with hq|rfl
   ·exact H.dl q hq (.tail _ hl)
   ·exact absurd hl hj
structure ER (n p K0 k:Nat) (ov:DR R):Prop where
 nd:(j2 ov).Nodup
 lt: ∀x∈j2 ov,k<x/\x<n
 dg: ∀q∈ov,R.D p K0 q.2
def UI {n:Nat}{f:R.α} (hf:R.D (p*(k-i)) (K*(k-i)+m) f) (hw:R.D p K0 w) (hi:i<k) (hj:k<j) (hK:K0<=K):R.D (p*(j-i)) (K*(j-i)+m) (R.mul f w):=by
 have e2:K*(k-i)+K<=K*(j-i):=by rw[<-Kv];exact JF _ (qax (JK hi) hj)
 exact R.ah (by rw[<-Kv];exact JF _ (qax (JK hi) hj):p*(k-i)+p<=p*(j-i)) (Jl (Jx (ZK _ _ _)) (JW (Jl (Jr hK _) e2) _)) (R.fj hf hw)
def bk (N B:Nat->R.α) (k:Nat):Nat->R.α:=λj=>if j<k then N j else B j
def Cj {N B:Nat->R.α}{l:List Nat} (H:SR n p K i m t) (E:ER n p K0 k ov) (hl:l.Perm (j2 ov)) (hB:B k=R.add (N k) (mD ov B)) (hk:k∈j2 t):mD (F7 ov (kZ t k) l t) (bk N B (k+1))=mD t (bk N B k):=by
 rw[M6,UA hl E.nd,O7 (b:=bk N B k) (b':=bk N B (k+1)) (k:=k) (x:=mD ov B) H.nd hk]
 ·congr 2
  exact qX λx hx=>if_neg (by have:=(E.lt x hx).1;exact Zz (JY this))
 ·intro j hj
  delta bk;by_cases h:j<k
  ·rw[if_pos h,if_pos (Zy h)]
  ·rw[if_neg h,if_neg (Zz (JY (J8 (J7 h) (Ka hj))))]
 ·delta bk
  rw[if_neg (Zb _),if_pos (JT _),hB]
theorem Ci {N B:Nat->R.α} (H:SR n p K i m t) (hk:k∉j2 t):mD t (bk N B (k+1))=mD t (bk N B k):=qX λx hx=>by
 have:x≠k:=λe=>hk (e▸hx)
 delta bk;by_cases h:x<k
 ·rw[if_pos h,if_pos (Zy h)]
 ·rw[if_neg h,if_neg (Zz (JY (J8 (J7 h) (Ka this))))]
def mP (xs:List (Ar R.α)):DR R:=xs.foldl (λr a=>bif a.fh then nW r a.t a.w else r) []
def yV:mP (xs++ [a])=bif a.fh then nW (mP xs) a.t a.w else mP xs:=by unfold mP;rw[YR];rfl
def DC:mD (mP xs) b=HO b xs:=by
 have go: ∀ (xs:List (Ar R.α)) (r:DR R),mD (xs.foldl (λr a=>bif a.fh then nW r a.t a.w else r) r) b=R.add (mD r b) (HO b xs):=by
  intro xs
  induction xs with
  |nil=>intro r;exact(R.add_zero _).symm
  |cons a xs ih=>
   intro r;simp only[Yj,ih];show _=R.add (mD r b) (R.add (bif a.fh then R.mul a.w (b a.t) else R.zero) (HO b xs));cases a.fh with
   |true=>rw[cond_true,cond_true,Wy,R.add_assoc,R.swap]
   |false=>rw[cond_false,cond_false,R.zero_add]
 exact(go xs []).trans (R.zero_add _)
def Ux: ∀ {xs:List (Ar R.α)},(∀a∈xs,a.t<n/\R.D p k a.w/\(a.fh=Qe->s<a.t)) ->qO n p (k+xs.length) (mP xs)/\∀x∈j2 (mP xs),s<x:=by
 intro xs;rw[<-List.reverse_reverse xs]
 generalize xs.reverse=ys
 induction ys with
 |nil=>exact λ_=>⟨⟨.nil,λx h=>absurd h JB,λq h=>absurd h JB⟩,λx h=>absurd h JB⟩
 |cons a ys ih=>
  intro h;rw[KJ] at h ⊢;refine xA (ih λb hb=>h b (ZQ _ hb)) λh1 h2=>?_;have zq1:=h a (JR _ (.head _));rw[yV,Jz,qan,<-J9];refine xO a.fh (λhe=>?_) λhe=>?_
  ·rw[he]
   simp only[cond_true];refine⟨A9 h1 zq1.1 (R.ah (Jv _) (Jo _ _) zq1.2.1),λx hx=>?_⟩;unfold nW at hx;by_cases hw:a.w=R.zero
   ·rw[if_pos hw] at hx;exact h2 x hx
   ·rw[if_neg hw] at hx
    exact((qC x).mp hx).elim (h2 x) λe=>e▸zq1.2.2 he
  ·rw[he]
   exact⟨⟨h1.nd,h1.lt,λq hq=>R.ah (Jv _) (ZA _) (h1.dg q hq)⟩,h2⟩
section
variable {h0:MH}
structure gb (h g:MH) (T:List (DR R)):Prop where
 pre: ∃t,g=h++t
 at':g[h.length]?=Qa (.list ((J4 (h.length+1) T.length).map .ref))
 row: ∀ (i:Nat) (t:DR R),T[i]?=Qa t-> ∃ep,g[h.length+(i+1)]?=Qa (.dict ep (kU t))
structure yS (g:MH) (aT:Nat) (T:List (DR R)):Prop where
 x: ∃rs:List Nat,g[aT]?=Qa (.list (rs.map .ref))/\rs.length=T.length/\∀ (i r:Nat) (t:DR R),rs[i]?=Qa r->T[i]?=Qa t-> ∃ep,g[r]?=Qa (.dict ep (kU t))
variable {g:MH}{aT:Nat}{T:List (DR R)}
def CN {a:Nat} (hi:i<n):(J4 (a+1) n)[i]?=Qa (a+(i+1)):=by
 refine(qau hi).trans ?_
 congr 1;lia
theorem gb.r (H:gb h g T):yS g h.length T:=⟨_,H.at',by rw[KU],λi r t hr ht=>by
 rw[CN (jY ht)] at hr;refine lW hr ?_;exact H.row i t ht⟩
def yS.bz {t:MH} (H:yS g aT T):yS (g++t) aT T:=by
 exact H.x.elim λrs zq7=>⟨rs,jS zq7.1,zq7.2.1,λi r t a b=>(zq7.2.2 i r t a b).elim λep e=>⟨ep,jS e⟩⟩
def gb.bz {t:MH} (H:gb h g T):gb h (g++t) T:=by
 refine H.pre.elim λt0 zq6=>?_;obtain rfl:=zq6;exact⟨⟨_,JD ..⟩,jS H.at',λi t a=>(H.row i t a).elim λep e=>⟨ep,jS e⟩⟩
def yS.at (H:yS g aT T) (ht:T[i]?=Qa t): ∃r ep,(∀ {Q:ab->MH->Prop},Q (.ref r) g->WI (.ref aT) (.int (i:Int)) g Q)/\g[r]?=Qa (.dict ep (kU t)):=by
 refine H.x.elim λrs zq5=>?_;have hi:i<rs.length:=by rw[zq5.2.1];exact jY ht
 obtain⟨ep,e⟩:=zq5.2.2 i _ t (Jn hi) ht;exact⟨_,ep,λq=>AG (i:=i) zq5.1 (sL (Jn hi)) q,e⟩
def gb.set {t':DR R}{ep:Option Nat} (H:gb h g T) (hi:i<T.length):gb h (g.set (h.length+(i+1)) (.dict ep (kU t'))) (T.set i t'):=by
 refine(H.row i _ (Jn hi)).elim λep0 zq3=>?_;refine H.pre.elim λt0 zq2=>?_;obtain rfl:=zq2;refine⟨⟨_,sI (Jo _ _)⟩,by rw[J0];exact j4 (Kd (ZY (Zs _))) H.at',λj u hu=>?_⟩;by_cases e:i=j
 ·subst e
  rw[JV hi] at hu;refine lW hu ?_;exact⟨ep,kO zq3⟩
 ·rw[JZ e] at hu
  obtain⟨ep1,e1⟩:=H.row j u hu;exact⟨ep1,j4 (by lia) e1⟩
def AR {Tf:Nat->DR R}{ep:Nat->Option Nat}:gb h (h++ .list ((J4 (h.length+1) n).map .ref)::(Zg n).map λi=> .dict (ep i) (kU (Tf i))) ((Zg n).map Tf):=by
 refine⟨⟨_,rfl⟩,by rw[Jp,Zi];exact ap,λi t ht=>⟨ep i,?_⟩⟩;have hk:i<n:=by have:=jY ht;rwa [Jp,Zi] at this
 rw[JA,ZW hk] at ht;refine lW ht ?_;rw[oJ];show ((Zg n).map _)[i]?=_;rw[JA,ZW hk];rfl
def sG (M:Mc R.α) (i j s:Nat):List (Ar R.α):=if s<i then az M s else if s=i then(az M s).take j else[]
def nU (M:Mc R.α) (i j:Nat):List (DR R):=(Zg M.aa.length).map λs=>mP (sG M i j s)
def Gj (hs:s<M.aa.length):(nU M i j)[s]?=Qa (mP (sG M i j s)):=by
 delta nU;simp only[JA,ZW hs];rfl
def E4 (hi:i<M.aa.length) (ha:(az M i)[j]?=Qa a):nU M i (j+1)=(nU M i j).set i (bif a.fh then nW (mP ((az M i).take j)) a.t a.w else mP ((az M i).take j)):=by
 refine tW (by unfold nU;rw[Jp,J0,Jp]) λs y hy=>?_;have hs:s<M.aa.length:=by have:=jY hy;unfold nU at this;rwa [Jp,Zi] at this
 rw[Gj hs] at hy;refine lW hy ?_;by_cases e:i=s
 ·subst e
  rw[JV (by unfold nU;rw[Jp,Zi];exact hs)];delta sG;rw[if_neg (Zb _),if_pos rfl,Kt,ha];show _=Qa (mP (_++ [a]));rw[yV]
 ·refine(JZ e).trans ?_
  rw[Gj hs];delta sG;by_cases h1:s<i
  ·rw[if_pos h1,if_pos h1]
  ·rw[if_neg h1,if_neg h1,if_neg (Ka e),if_neg (Ka e)]
def E5:nU M i (az M i).length=nU M (i+1) 0:=by
 delta nU;refine ZI λs _=>congrArg mP ?_;delta sG;by_cases h1:s<i
 ·rw[if_pos h1,if_pos (Zy h1)]
 ·rw[if_neg h1]
  by_cases h2:s=i
  ·refine eqE h2 ?_
   rw[if_pos rfl,if_pos (JT _),Zc]
  ·rw[if_neg h2,if_neg (Zz (JY (J8 (J7 h1) (Ka h2))))]
   by_cases h3:s=i+1
   ·rw[if_pos h3];rfl
   ·rw[if_neg h3]
end
section
variable {h0:MH}
structure vg where
 g:MH
 a:Option ab:=Qd
 b:Option ab:=Qd
def xf (L:Ly) (n0:Nat) (a b:Option ab):Internal.Frame:=Qa (.ref L.m)::Qa (.bool Qe)::Qa (.ref n0)::a::b::nn 6
abbrev OB:List Sm:= [.ite (.qh Qe [.bh (.var 4) 7598521885536580729 [],.not (.var 1)]) [.expr (.call (.lit (.ai 104)) [.aq (.var 0) 1919512167,.sub (.var 2) (.var 3),.aq (.var 4) 127961880028532,.aq (.var 4) 131277443786868])] []]
abbrev zf5:List Sm:= [.fo [4] Qb (.sub (.aq (.var 0) 1634886515) (.var 3)) OB]
def Lw:(nU M i j).length=M.aa.length:=by unfold nU;rw[Jp,Zi]
def gb.im {T:List (DR R)} (H:gb h g T) (I:ak R h L M):ak R g L M:=by obtain⟨t,rfl⟩:=H.pre;exact I.bz
def gb.up {T:List (DR R)} (H:gb h g T) {a:Nat} (e:h[a]?=Qa o):g[a]?=Qa o:=by obtain⟨t,rfl⟩:=H.pre;exact jS e
def NJ (h:M.aa[i]?=Qa xs):az M i=xs:=by unfold az;rw[h];rfl
def xW:sG M i j i=(az M i).take j:=by unfold sG;rw[if_neg (Zb _),if_pos rfl]
theorem gb.su {T:List (DR R)} (H:gb h g T) (hi:i<T.length):lG g (.ref h.length) (.int (i:Int))=Qa (.ref (h.length+(i+1))):=sl (i:=i) H.at' (sL (CN hi))
def OA {b:Nat}{s:vg} (hd:5<=d) (I:ak R h L M) (G:kQ M p k) (U:ny M) (hl:4*p+(k+300)<=3800) (hi:i<M.aa.length) (ha:(az M i)[j]?=Qa a) (hb:h[b]?=Qa (mC R a)) (T:gb h s.g (nU M i j))
  (q: ∀s':vg,gb h s'.g (nU M i (j+1)) ->R' .nx (xf L h.length (vN i) s'.b) s'.g):cq (ag P0 d) OB (xf L h.length (vN i) (vR b)) s.g R':=by
 have ts:=E4 (M:=M) (j:=j) hi ha;have hB:=T.up hb;have hie:M.aa[i]?=Qa (az M i):=by unfold az;rw[Jn hi];rfl
 have hm:=Jq hie;have e0:=Gj (M:=M) (i:=i) (j:=j) hi;rw[xW] at e0;refine xO a.fh (λhe=>?_) λhe=>?_
 ·rw[he,cond_true] at ts
  refine(T.row i _ e0).elim λep hr=>?_;have ok:=(Ux (R:=R) (n:=M.aa.length) (p:=p) (k:=k) (s:=i) (xs:=(az M i).take j) λc hc=>by
   exact⟨(G.fk _ hm c (Ky hc)).1,(G.fk _ hm c (Ky hc)).2.2.2.1,λhe=>U i _ hie c (Ky hc) he⟩).1
  refine(Gu (d:=d) (j:=a.t) (w:=a.w) (Jl (by decide) hd) hr ok (Jl G.n (by decide)) (R.ah (Jv _) (Jo _ _) (G.fk _ hm a (Jq ha)).2.2.2.1) (Jl (Jr (Jr (Jl (by rw[Kz];exact XX _ _) (Jl (I.cr _ hm) G.c):((az M i).take j).length<=300) k) _) hl)).elim λep' e=>?_;have N:=T.set (t':=nW (mP ((az M i).take j)) a.t a.w) (ep:=ep') (by rw[Lw];exact hi);rw[<-ts] at N;exact kC (.p (GR (Jl (by decide) hd:1<=d) hB)<| .t (he)<| .t (he)<| .v (l8 (T.im I))<| .v (T.su (by rw[Lw];exact hi))<| .v (vd hB)<| .v (yz hB)<| .p (e)<| .z (q ⟨_,Qd,vR b⟩ N)) (by kernel_rfl)
 ·rw[he,cond_false] at ts
  have N:gb h s.g (nU M i (j+1)):=by
   simp only[ts,<-Ju.mp e0|>.2,KY];exact T
  exact kC (.p (GR (Jl (by decide) hd:1<=d) hB)<| .f (he)<| .c2<| .z (q ⟨s.g,Qd,vR b⟩ N)) (by kernel_rfl)
def Ox {s:vg} (hd:5<=d) (I:ak R h L M) (G:kQ M p k) (U:ny M) (hl:4*p+(k+300)<=3800) (hi:i<M.aa.length) (T:gb h s.g (nU M i 0)):
  ∃s':vg,gb h s'.g (nU M (i+1) 0)/\exec (ag P0 d) (.fo [4] Qb (.sub (.aq (.var 0) 1634886515) (.var 3)) OB) (xf L h.length (vN i) s.b) s.g=Qa ((.nx,xf L h.length (vN i) s'.b),s'.g):=by
 refine(I.oq hi).elim λr zq3=>zq3.elim λas zq4=>?_;refine(qf (c:=ag P0 d) (tg:=[4]) (many:=Qb) (a:=r) (e:=.sub (.aq (.var 0) 1634886515) (.var 3)) (b:=OB) (vs:=as.map .ref) (λs':vg=>xf L h.length (vN i) s'.b) vg.g (λj s'=>gb h s'.g (nU M i j)) s (zq4.2.1.le I zq4.2.2) rfl (λj s' T2=>T2.up zq4.2.1.l) (by exact kJ (.v (nD (T.im I))<| .v (sl (T.im I).aa zq4.1)<| .z (ck (.ref r) s.g)) rfl) T λj v s' R2 _ hv T2 C2=>?_).elim λs' e=>⟨s',by rw[<-E5];exact zq4.2.1.n▸e.1,e.2⟩;refine(zq4.2.1.a j v hv).elim λb zq1=>zq1.elim λx zq2=>?_;refine eqB zq2.1 ?_;exact mL (OA hd I G U hl hi zq2.2.1 zq2.2.2 T2 C2.nx)
abbrev zo (h:MH) (n:Nat):MH:=h++ .list ((J4 (h.length+1) n).map .ref)::(Zg n).map λ_=> .dict (Qa 0) []
def zdF:gb h (zo h M.aa.length) (nU M 0 0):=by
 have e:nU M 0 0=(Zg M.aa.length).map λ_=>([]:DR R):=by
  delta nU;refine ZI λs _=>?_;delta sG;rw[if_neg (Ze _)];by_cases h:s=0
  ·rw[if_pos h];rfl
  ·rw[if_neg h];rfl
 simp only[e];exact AR (ep:=λ_=>Qa 0) (Tf:=λ_=>([]:DR R))
def Oz (I:ak R h L M):eval (ag P0 d) (.comp (.dict []) [5] Qb (.aq (.var 0) kI) []) (Qa (.ref L.m)::Qa (.bool Qe)::nn 9) h=Qa (.ref h.length,zo h M.aa.length):=by
 have hl:(L.ar.map ab.ref).length=M.aa.length:=by rw[Jp,I.len]
 refine W.eq (Wh (a:=L.aA) (vs:=L.ar.map .ref) (λi=> .dict (Qa 0) []) (by rw[hl];exact Jt I.bb (show 10000<200000 by decide)) (by rw[hl];exact Jl I.bb (by decide)) (W.of (a:=.ref L.aA) (W.eq (by exact kJ (.v (nD I)<| .z (ck (.ref L.aA) h)) (by kernel_rfl):WE (ag P0 d) (Qa (.ref L.m)::Qa (.bool Qe)::nn 9) (.aq (.var 0) kI) h λv g=>v= .ref L.aA/\g=h)) ⟨rfl,I.aa,λi v t _=>?_,by rw[hl];exact⟨rfl,rfl⟩⟩));exact kJ (.c<| .z (ck (.ref (h++t).length) ((h++t)++ [.dict (Qa 0) []]))) rfl
def Cb (hd:6<=d) (I:ak R h L M) (G:kQ M p k) (U:ny M) (hl:4*p+(k+300)<=3800) (q: ∀t,gb h (h++t) (nU M M.aa.length 0) ->Q (.ref h.length) (h++t)):WF P0 d 108 [.ref L.m,.bool Qe] h Q:=by
 refine kN (K:=5) hd (Qa (.ref L.m)::Qa (.bool Qe)::nn 9) tD rfl λd' h'=>?_;have d1:1<=d':=Jl (by decide) h';refine(kh (c:=ag P0 d') (x:=3) (n:=M.aa.length) (e:=.call (.lit (.ty 491260897125)) [.bh (.var 0) rC []]) (b:=zf5) (λs:vg=>xf L h.length s.a s.b) vg.g (λi s=>gb h s.g (nU M i 0)) ⟨zo h M.aa.length,Qd,Qd⟩ (GH I) rfl (by exact kJ (.p (mK d1 ((zdF (h:=h) (M:=M)).im I))<| .c<| .z (ck (.fy M.aa.length) (zo h M.aa.length))) rfl) (zdF (h:=h) (M:=M)) λi s R1 _ hi T1 C1=>(Ox (d:=d') h' I G U hl hi T1).elim λs' e=>by exact kC (.s (e.2)<| .z (C1.nx ⟨s'.g,vN i,s'.b⟩ e.1)) rfl).elim λs e=>e.1.pre.elim λt ht=>?_;have e2:=e.2;rw[ht] at e2;exact kC (.p (mK d1 I)<| .c<| .f ((decide_eq_false (by have:=G.n;lia):decide ((M.aa.length:Int)>2000)=Qb))<| .p (Oz (d:=d') I)<| .s (e2)<| .z (q t (ht▸e.1:gb h (h++t) (nU M M.aa.length 0)))) rfl
end
section
variable {c:Cx}{h0:MH}
theorem RD {r:DR R}:((kU r).all λp=>lM p.1==1)=true:=ZF.mpr λp hp=>by
 refine(JJ.mp hp).elim λx zq2=>?_;refine eqE zq2.2 ?_;rfl
def N5 {a:Nat}{ep:Option Nat}{r:DR R} (ha:h[a]?=Qa (.dict ep (kU r))) (q:Q (.ref h.length) (h++ [.dict Qd (kU r)])):WV c (.ty Em) [.ref a] h Q:=by
 refine Sk (v:=.ref h.length) (h':=h++ [.dict Qd (kU r)]) ?_ q;show ay ((dictAt h (.ref a)).bind λd=>au (d.2.all λp=>lM p.1==1) (lK h (.dict Qd d.2))) _=_;rw[oA ha];show ay (au ((kU r).all λp=>lM p.1==1) (lK h (.dict Qd (kU r)))) _=_;rw[RD];rfl
def qd (r:DR R):List Int:=(j2 r).map YM
def F9 {r:DR R}:uV ((kU r).map (·.1))=Qa (qd r):=by
 delta uV
 induction r with
 |nil=>rfl
 |cons p t ih=>
  show List.mapM ab.int? (ab.int (p.1:Int)::(kU t).map (·.1))=_;rw[Yt,ih];rfl
def kM (r:DR R):List Nat:=(wC (qd r)).map qbl
def mX {r:DR R}:(kM r).Perm (j2 r):=by
 have h:(wC (qd r)).Perm (qd r):=Xn ..;have h:=h.map qbl;unfold qd at h;rw[Kw] at h;rw[((ZI λx _=>rfl).trans (List.map_id _):(j2 r).map (qbl ∘ YM)=j2 r)] at h;exact h
def DO {r:DR R}:(wC (qd r)).map ab.int=(kM r).map λn:Nat=>ab.int (n:Int):=by
 delta kM;rw[Kw];refine ZI λx hx=>?_;refine(JJ.mp ((Xn ..).mem_iff.mp hx:x∈qd r)).elim λn zq1=>?_;refine eqE zq1.2 ?_;rfl
def EW {a:Nat}{ep:Option Nat}{r:DR R} (ha:h[a]?=Qa (.dict ep (kU r))) (h1:r≠ []) (h2:r.length<64) (q:Q (.ref h.length) (h++ [.list ((kM r).map λn:Nat=>ab.int (n:Int))])):WV c (.bi tR) [.ref a] h Q:=by
 refine AD (v:=.ref h.length) (h':=h++ [.list ((kM r).map λn:Nat=>ab.int (n:Int))]) ?_ q;show ay ((dictAt h (.ref a)).bind _) _=_;rw[oA ha];show ay ((uV ((kU r).map (·.1))).bind _) _=_;rw[F9];show ay (au (!(qd r).isEmpty && Zj ((qd r).length+1) 64) _) _=_;have e2:(qd r).isEmpty=false:=by
  cases r with
  |nil=>exact absurd rfl h1
  |cons _ _=>rfl
 simp only[(by unfold qd j2;rw[Jp,Jp]:(qd r).length=r.length),e2,KF (JY h2),DO];rfl
theorem Uz {r:DR R}:(j2 r).length=r.length:=Jp ..
theorem cB (z:Cx) {a:Nat}{ep:Option Nat}{r:DR R} (ha:h[a]?=Qa (.dict ep (kU r))):jZ z (.ty Em) [.ref a] h=Qa (.ref h.length,h++ [.dict Qd (kU r)]):=W.eq (N5 ha ⟨rfl,rfl⟩)
theorem d9 (z:Cx) {a:Nat}{ep:Option Nat}{r:DR R} (ha:h[a]?=Qa (.dict ep (kU r))) (h1:r≠ []) (h2:r.length<=60):jZ z (.bi tR) [.ref a] h=Qa (.ref h.length,h++ [.list ((kM r).map λn:Nat=>ab.int (n:Int))]):=W.eq (EW ha h1 (Jt h2 (by decide)) ⟨rfl,rfl⟩)
def d6 (k:Nat) {a:Nat}{ep:Option Nat}{r:DR R} (ha:h[a]?=Qa (.dict ep (kU r))):nB .rc (.int k) (.ref a) h=Qa (decide (k∈j2 r)):=by
 show ay ((kY h (.ref a)).bind _) ((dictAt h (.ref a)).bind λd=>au (j5 d.2 (.int k)) (Qa (j7 d.2 (.int k)).isSome))=_;rw[sO ha,oA ha];show au (j5 (kU r) (.int k)) (Qa (j7 (kU r) (.int k)).isSome)=_;rw[tZ,xF];by_cases hk:k∈j2 r
 ·rw[if_pos hk,decide_eq_true hk];rfl
 ·rw[if_neg hk,decide_eq_false hk];rfl
theorem sR {a:Nat}{ep:Option Nat}{r:DR R} (ha:h[a]?=Qa (.dict ep (kU r))) (hk:k∈j2 r):lG h (.ref a) (.int k)=Qa (R.e (kZ r k)):=sd ha tZ (by rw[xF,if_pos hk])
theorem zaa (z:Cx) {a:Nat}{ep:Option Nat}{r:DR R} (ha:h[a]?=Qa (.dict ep (kU r))):jZ z (.bi vE) [.ref a] h=Qa (.int r.length,h):=W.eq (AC ha ⟨by unfold kU;rw[Jp],rfl⟩)
end
section
variable {h0:MH}
structure SX (R:Rg) where
 h:MH
 aT:Nat
 n:Nat
 p:Nat
 K:Nat
 Tf:Nat->DR R
structure lh (X:SX R):Prop where
 er: ∀k,k<X.n->ER X.n X.p X.K k (X.Tf k)
 n:X.n<=60
 bd:4*(X.p*X.n)+(X.K*X.n+X.n+1)<=3800
variable {X:SX R}
structure mZ (X:SX R) (i k:Nat) (t:DR R):Prop where
 sr:SR X.n X.p X.K i k t
 ev: ∀N B:Nat->R.α,(∀s,s<X.n->B s=R.add (N s) (mD (X.Tf s) B)) ->mD t (bk N B k)=mD (X.Tf i) B
 un:k<=i->t=X.Tf i
def mZ.zero (O:lh X) (hi:i<X.n):mZ X i 0 (X.Tf i):=by
 have E:=O.er i hi;refine⟨⟨E.nd,E.lt,λq hq=>?_⟩,λN B _=>rfl,λ_=>rfl⟩;have h1:i<q.1:=(E.lt _ (JJ.mpr ⟨q,hq,rfl⟩)).1;exact R.ah (ZZ _ (qaX h1)) (ZZ _ (qaX h1)) (E.dg q hq)
theorem mZ.ph (H:mZ X i k t) (hk:k∉j2 t):mZ X i (k+1) t:=
 ⟨H.sr.mono (ZA _),λN B e=>(Ci H.sr hk).trans (H.ev N B e),λh=>H.un (JK (J5 h))⟩
def mZ.step {t':DR R}{l:List Nat} (O:lh X) (H:mZ X i k t) (hk:k∈j2 t) (hl:l.Perm (j2 (X.Tf k))) (e:t'=F7 (X.Tf k) (kZ t k) l t) (D:vh X.n X.p X.K i k [] t'):mZ X i (k+1) t':=by
 have hkn:=H.sr.lt k hk;exact⟨⟨D.nd,D.lt,D.dg⟩,λN B q=>by rw[e,Cj H.sr (O.er k hkn.2) hl (q k hkn.2) hk];exact H.ev N B q,λh=>absurd hkn.1 (Zz (JK (J5 h)))⟩
structure jo (R:Rg) where
 g:MH
 T:List (DR R)
 a:Option ab:=Qd
 b:Option ab:=Qd
 c:Option ab:=Qd
 d:Option ab:=Qd
 e:Option ab:=Qd
 f:Option ab:=Qd
def je (X:SX R) (a b c d e f:Option ab):Internal.Frame:=Qa (.ai (112+R.i))::Qa (.ref X.aT)::Qa (.ref X.h.length)::a::b::c::d::e::f::nn 6
structure Uq (X:SX R) (g:MH) (a:Nat) (o:ae):Prop where
 ge:X.h.length+X.n<a
 at':g[a]?=Qa o
theorem Uq.set {a:Nat} (B:Uq X g a o) (hi:i<X.n):Uq X (g.set (X.h.length+(i+1)) o') a o:=⟨B.ge,j4 (by have:=B.ge;exact Z8 (Jt (JG (Jv _) (JY hi)) this)) B.at'⟩
theorem Uq.bz {t:MH}{a:Nat} (B:Uq X g a o):Uq X (g++t) a o:=⟨B.ge,jS B.at'⟩
structure JS (R:Rg) where
 g:MH
 t:DR R
 b:Option ab:=Qd
structure JP (X:SX R) (T:List (DR R)) (i k aO aS:Nat) (t0:DR R) (j:Nat) (s:JS R):Prop where
 T:gb X.h s.g (T.set i s.t)
 e:s.t=F7 (X.Tf k) (kZ t0 k) ((kM (X.Tf k)).take j) t0
 D:vh X.n X.p X.K i k ((kM (X.Tf k)).drop j) s.t
 o:Uq X s.g aO (.dict Qd (kU (X.Tf k)))
 l:Uq X s.g aS (.list ((kM (X.Tf k)).map λn:Nat=> .int (n:Int)))
theorem LS {r:DR R} (h:(j2 r).Nodup):(kM r).Nodup:=mX.nodup_iff.mpr h
def pN {l:List α}{x:α} (h:l[j]?=Qa x):l.drop j=x::l.drop (j+1):=by
 refine(Ju.mp h).elim λh1 zq1=>?_;refine eqE zq1 ?_;exact Kl h1
def zR {l:List α}{x:α} (h:l[j]?=Qa x):l.take (j+1)=l.take j++ [x]:=by
 simp only[Kt,h];rfl
theorem vh.ok {P:Nat}{l:List Nat} (H:vh n p K i k l t) (h1:p*n<=P) (h2:K*n+(k+1)<=K'):qO n P K' t:=⟨H.nd,λx hx=>(H.lt x hx).2,λq hq=>by
 exact R.ah (Jl (JF _ (by have:q.1<n:=((H.lt _ (JJ.mpr ⟨q,hq,rfl⟩)).2);exact JK (Kf this):q.1-i<=n)) h1) (Jl (JW (JF _ (by have:q.1<n:=((H.lt _ (JJ.mpr ⟨q,hq,rfl⟩)).2);exact JK (Kf this):q.1-i<=n)) _) h2) (H.dg q hq)⟩
abbrev jB:List Sm:= [.expr (.call (.lit (.ai 104)) [.var 0,.sub (.var 2) (.var 6),.var 8,.bh (.var 0) ry [.var 7,.sub (.var 4) (.var 8)]])]
def zdY (hi:i<k) (hk:k<x) (hx:x<n) (bd:4*(p*n)+(K*n+n+1)<=3800):p*(x-i)<=p*n/\K*(x-i)+k<=K*n+(k+1)/\4*(p*(k-i)+p)+(K*(k-i)+k+K)<=3800/\4*(p*n)+(K*n+(k+1))<=3800:=by
 have e3:p*(k-i)+p<=p*n:=by rw[<-Kv];exact JF _ (JY (Kf (Zx hk hx)))
 have e4:K*(k-i)+K<=K*n:=by rw[<-Kv];exact JF _ (JY (Kf (Zx hk hx)))
 exact⟨JF _ (JK (Kf hx)),JG (JF _ (JK (Kf hx)):K*(x-i)<=K*n) (Jo _ _),Jl (JG (JF 4 e3) (Jl (Jx (ZK _ _ _)) (Zh (JG e4 (JK (Zx hk hx)))))) bd,Jl (Jr (Jr (Zh (Zx hk hx)) _) _) bd⟩
def zdX {T:List (DR R)}{t0:DR R}{s:JS R} (hd:5<=d) (O:lh X) (hT:T.length=X.n) (H:SR X.n X.p X.K i k t0) (hi:i<k) (hk:k∈j2 t0) (hx:(kM (X.Tf k))[j]?=Qa x) (P:JP X T i k aO aS t0 j s)
  (q: ∀s',JP X T i k aO aS t0 (j+1) s'->R' .nx (je X (vN k) (vR aO) (Qa (R.e R.da)) (vN i) (Qa (R.e (kZ t0 k))) s'.b) s'.g):
  cq (ag P0 d) jB (je X (vN k) (vR aO) (Qa (R.e R.da)) (vN i) (Qa (R.e (kZ t0 k))) (vN x)) s.g R':=by
 have E:=O.er k (H.lt k hk).2;have hxk:x∈j2 (X.Tf k):=mX.mem_iff.mp (Jq hx);have sf:=E.lt x hxk;have hin:i<X.n:=Zx hi (H.lt k hk).2;have D:=P.D;rw[pN hx] at D;have nd:=LS E.nd;rw[<-KG j (kM (X.Tf k)),pN hx] at nd;have hil:i<(T.set i s.t).length:=by rw[J0,hT];exact hin
 have hf:=H.get hk;have hw:R.D X.p X.K (kZ (X.Tf k) x):=E.dg _ (wH hxk);have B:=zdY (p:=X.p) (K:=X.K) hi sf.1 sf.2 O.bd;refine(P.T.row i s.t (JV (by rw[hT];exact hin))).elim λep hr=>?_;refine(Gu (d:=d) (j:=x) (w:=R.mul (kZ t0 k) (kZ (X.Tf k) x)) (n:=X.n) (P:=X.p*X.n) (K:=X.K*X.n+(k+1)) (Jl (by decide) hd) hr (D.ok (Jv _) (Jv _)) (Jl O.n (by decide)) (R.ah B.1 B.2.1 (UI (n:=0) (j:=x) hf hw hi sf.1 (Jv _))) B.2.2.2).elim λep' e=>?_;have T':=P.T.set (t':=nW s.t x (R.mul (kZ t0 k) (kZ (X.Tf k) x))) (ep:=ep') hil;rw[qaV] at T';have N:JP X T i k aO aS t0 (j+1) ⟨_,nW s.t x (R.mul (kZ t0 k) (kZ (X.Tf k) x)),vN x⟩:=⟨T',by
  show nW s.t x _=_;rw[zR hx];delta F7;rw[YR,P.e];rfl,D.add ((JI.mp (Kq.mp nd).2.1).1) (Zx hi sf.1) sf.2 (UI (n:=0) (j:=x) hf hw hi sf.1 (Jv _)),P.o.set hin,P.l.set hin⟩
 exact kC (.v ((P.T.su hil:lG s.g (.ref X.h.length) (.int (i:Int))=Qa (.ref (X.h.length+(i+1)))))<| .v (sR P.o.at' hxk)<| .q (R.ti (Jl (by decide) hd) hf hw B.2.2.1)<| .p (e)<| .z (q _ N)) (by kernel_rfl)
end
section
variable {h0:MH}{X:SX R}
structure KP (X:SX R) (k i:Nat) (s:jo R):Prop where
 T:gb X.h s.g s.T
 len:s.T.length=X.n
 row: ∀r t,s.T[r]?=Qa t->mZ X r (if r<i then k+1 else k) t
structure IP (X:SX R) (k aO i:Nat) (s:jo R):Prop where
 K:KP X k i s
 o:Uq X s.g aO (.dict Qd (kU (X.Tf k)))
theorem KP.next {s s':jo R} (K:KP X k X.n s) (e1:s'.g=s.g) (e2:s'.T=s.T):KP X (k+1) 0 s':=⟨by rw[e1,e2];exact K.T,by rw[e2];exact K.len,λr t h=>by
 rw[e2] at h
 have:=K.row r t h
 rw[if_pos (by rw[<-K.len];exact jY h)] at this;rwa [if_neg (Ze _)]⟩
theorem KP.yb {s s':jo R}{t':DR R} (K:KP X k i s) (hT:gb X.h s'.g s'.T) (e:s'.T=s.T.set i t') (hi:i<X.n) (ht:mZ X i (k+1) t'):KP X k (i+1) s':=⟨hT,by rw[e,J0];exact K.len,λr t h=>by
 rw[e] at h;by_cases hr:i=r
 ·subst hr
  rw[JV (by rw[K.len];exact hi)] at h;refine lW h ?_;rw[if_pos (JT _)];exact ht
 ·rw[JZ hr] at h
  have:=K.row r t h
  by_cases h1:r<i
  ·rw[if_pos h1] at this;rwa [if_pos (Zy h1)]
  ·rw[if_neg h1] at this;rwa [if_neg (Zz (JY (J8 (J7 h1) hr)))]⟩
def LU {l:List α}{x:α} (h:l[i]?=Qa x):l.set i x=l:=by
 refine(Ju.mp h).elim λh1 zq2=>?_;refine eqE zq2 ?_;exact KY h1
abbrev iB:List Sm:= [.ite (.ew .rc (.var 3) (.sub (.var 2) (.var 6))) [.fq (.nm 7) (.bh (.var 0) ry [.sub (.sub (.var 2) (.var 6)) (.var 3),.var 5]),.fo [8] Qb (.call (.lit (.bi 126922498794852)) [.var 4]) jB] []]
def ze3 {s:jo R}{t0:DR R} (hd:5<=d) (O:lh X) (hk:k<X.n) (hi:i<X.n) (hne:X.Tf k≠ []) (P:IP X k aO i s) (hie:s.T[i]?=Qa t0) (I:mZ X i k t0) (hin:k∈j2 t0):
  ∃s',IP X k aO (i+1) s'/\s'.e=Qa (R.e (kZ t0 k))/\exec (ag P0 d) (.fo [8] Qb (.call (.lit (.bi 126922498794852)) [.var 4]) jB) (je X (vN k) (vR aO) (Qa (R.e R.da)) (vN i) (Qa (R.e (kZ t0 k))) s.f) s.g=Qa ((.nx,je X (vN k) (vR aO) (Qa (R.e R.da)) (vN i) (Qa (R.e (kZ t0 k))) s'.f),s'.g):=by
 have hlen:(X.Tf k).length<=60:=Jl (qO.mk (O.er k hk).nd (λx hx=>((O.er k hk).lt x hx).2) (O.er k hk).dg:qO X.n X.p X.K (X.Tf k)).len O.n;have w:WS (ag P0 d) (.fo [8] Qb (.call (.lit (.bi 126922498794852)) [.var 4]) jB) (je X (vN k) (vR aO) (Qa (R.e R.da)) (vN i) (Qa (R.e (kZ t0 k))) s.f) s.g λfl f g=> ∃s':JS R,JP X s.T i k aO s.g.length t0 (kM (X.Tf k)).length s'/\fl= .nx/\f=je X (vN k) (vR aO) (Qa (R.e R.da)) (vN i) (Qa (R.e (kZ t0 k))) s'.b/\g=s'.g:=by
  have e0:WE (ag P0 d) (je X (vN k) (vR aO) (Qa (R.e R.da)) (vN i) (Qa (R.e (kZ t0 k))) s.f) (.call (.lit (.bi 126922498794852)) [.var 4]) s.g λv g=>v= .ref s.g.length/\g=s.g++ [.list ((kM (X.Tf k)).map λn:Nat=> .int (n:Int))]:=by exact kJ (.p (d9 (ag P0 d) P.o.at' hne hlen)<| .z (ck (.ref s.g.length) (s.g++ [.list ((kM (X.Tf k)).map λn:Nat=> .int (n:Int))]))) rfl
  refine vZ (a:=s.g.length) (vs:=(kM (X.Tf k)).map λn:Nat=> .int (n:Int)) (λs':JS R=>je X (vN k) (vR aO) (Qa (R.e R.da)) (vN i) (Qa (R.e (kZ t0 k))) s'.b) JS.g (JP X s.T i k aO s.g.length t0) (by rw[(Jp .. :((kM (X.Tf k)).map λn:Nat=>ab.int (n:Int)).length=(kM (X.Tf k)).length)];exact Jt (by rw[mX.length_eq,Uz];exact hlen:(kM (X.Tf k)).length<=60) (show 60<200000 by decide)) ⟨s.g++ [.list ((kM (X.Tf k)).map λn:Nat=> .int (n:Int))],t0,s.f⟩ (λj s' P'=>P'.l.at') (e0.mono λv g q=>⟨q.1,rfl,q.2,by rw[LU hie];exact P.K.T.bz,rfl,I.sr.l _,P.o.bz,Zx P.o.ge (kD P.o.at'),ap⟩) (λj v s' R2 hv P2 C2=>?_) λs' P'=>⟨s',(Jp .. :((kM (X.Tf k)).map λn:Nat=>ab.int (n:Int)).length=(kM (X.Tf k)).length)▸P',rfl,rfl,rfl⟩;rw[JA] at hv;refine(Zl.mp hv).elim λx zq1=>?_;refine eqE zq1.2 ?_;exact mL (zdX hd O P.K.len I.sr (I.sr.lt k hin).1 hin zq1.1 P2 C2.nx)
 obtain⟨⟨fl,f⟩,g,e,s',P',q1,q2,q3⟩:=W.get w;refine eqE q1 ?_;subst q2;subst q3;have D:=P'.D;have e1:=P'.e;rw[Ke] at D;rw[Zc] at e1;exact⟨⟨s'.g,s.T.set i s'.t,Qd,Qd,Qd,Qd,Qa (R.e (kZ t0 k)),s'.b⟩,⟨P.K.yb P'.T rfl hi (I.step O hin mX e1 D),P'.o⟩,rfl,e⟩
def zd0 (hk:k<n) (bd:4*(p*n)+(K*n+n+1)<=3800):4*(p*(k-i)+0)+(K*(k-i)+k+0)<=3800:=by
 exact Jl (JG (JF 4 (JF _ (JK (Kf hk)):p*(k-i)<=p*n)) (Zh (JG (JF _ (JK (Kf hk)):K*(k-i)<=K*n) (JK hk)):K*(k-i)+k<=K*n+n+1)) bd
def zdZ {s:jo R} (hd:5<=d) (O:lh X) (hk:k<X.n) (hi:i<X.n) (hne:X.Tf k≠ []) (P:IP X k aO i s)
  (q: ∀s',IP X k aO (i+1) s'->R' .nx (je X (vN k) (vR aO) (Qa (R.e R.da)) (vN i) s'.e s'.f) s'.g):
  cq (ag P0 d) iB (je X (vN k) (vR aO) (Qa (R.e R.da)) (vN i) s.e s.f) s.g R':=by
 have hil:i<s.T.length:=by rw[P.K.len];exact hi
 have hie:=Jn hil;have I:=P.K.row i _ hie;rw[if_neg (Zb _)] at I;refine(P.K.T.row i _ hie).elim λep hr=>?_;cases (inferInstance:Decidable (k∈j2 s.T[i])) with
 |isTrue hin=>
  refine(ze3 (d:=d) hd O hk hi hne P hie I hin).elim λs' e=>?_;have e1:=R.ti (d:=d) (Jl (by decide) hd) (I.sr.get hin) R.gd (zd0 hk O.bd);rw[R.mul_comm,R.one_mul] at e1;exact kC (.v ((P.K.T.su hil))<| .b (d6 k hr)<| .t (decide_eq_true hin)<| .v ((P.K.T.su hil))<| .v (sR hr hin)<| .q (e1)<| .s (e.2.2)<| .z ((show R' .nx (je X (vN k) (vR aO) (Qa (R.e R.da)) (vN i) (Qa (R.e (kZ s.T[i] k))) s'.f) s'.g from e.2.1▸q s' e.1))) rfl
 |isFalse hin=>exact kC (.v ((P.K.T.su hil))<| .b (d6 k hr)<| .f (decide_eq_false hin)<| .z (q s ⟨P.K.yb (t':=s.T[i]) P.K.T (LU hie).symm hi (I.ph hin),P.o⟩)) rfl
end
section
variable {h0:MH}{X:SX R}
def gb.lt {T:List (DR R)} (H:gb h g T):h.length+T.length<g.length:=by
 cases e:T.length with
 |zero=>have:=kD H.at';exact J5 (JY this)
 |succ n=>
  refine(H.row n _ (Jn (J5 (Jx (K7 e))))).elim λep zq1=>?_
  have:=kD zq1;exact this
def gb.ln (z:Cx) {T:List (DR R)} (H:gb h g T) (hn:T.length=n):jZ z (.bi vE) [.ref h.length] g=Qa (.int n,g):=by rw[FT H.at',Jp,KU,hn]
theorem KP.iw {s s':jo R} (O:lh X) (K:KP X k 0 s) (e:X.Tf k= []) (e1:gb X.h s'.g s'.T) (e2:s'.T=s.T):KP X (k+1) 0 s':=⟨e1,by rw[e2];exact K.len,λr t h=>by
 rw[e2] at h;have I:=K.row r t h;rw[if_neg (Ze _)] at I ⊢;by_cases hk:k∈j2 t
 ·refine I.step (l:=[]) O hk (by rw[e];exact .nil) (by rw[e];rfl) ⟨I.sr.nd,I.sr.lt,(I.sr.mono (ZA k)).dg,λq _ hq=>absurd hq JB⟩
 ·exact I.ph hk⟩
abbrev kB:List Sm:= [.fq (.nm 4) (.call (.lit (.ty 1684628340)) [.sub (.var 2) (.var 3)]),.ite (.ew .eq (.call (.lit (.bi 7103854)) [.var 4]) (.lit (.int 0))) [.cont] [],.fq (.nm 5) (.bh (.var 0) xj [.bh (.var 4) 6776180 [.var 3,.aq (.var 0) rz]]),.fo [6] Qb (.call (.lit (.ty 491260897125)) [.call (.lit (.bi 7103854)) [.var 2]]) iB]
abbrev xh:Ex:= .call (.lit (.ty 491260897125)) [.call (.lit (.bi 7103854)) [.var 2]]
theorem ze5 {s:jo R} (hd:5<=d) (O:lh X) (hk:k<X.n) (hne:X.Tf k≠ []) (P:IP X k aO 0 s): ∃s',KP X (k+1) 0 s'/\exec (ag P0 d) (.fo [6] Qb xh iB) (je X (vN k) (vR aO) (Qa (R.e R.da)) s.d s.e s.f) s.g=Qa ((.nx,je X (vN k) (vR aO) (Qa (R.e R.da)) s'.d s'.e s'.f),s'.g):=
 (kh (c:=ag P0 d) (x:=6) (n:=X.n) (e:=xh) (b:=iB) (λs':jo R=>je X (vN k) (vR aO) (Qa (R.e R.da)) s'.d s'.e s'.f) jo.g (IP X k aO) s (Jl O.n (by decide)) rfl (by exact kJ (.p (P.K.T.ln (ag P0 d) P.K.len)<| .c<| .z (ck (.fy X.n) s.g)) (by kernel_rfl)) P λi s' R1 _ hi P1 C1=>zdZ hd O hk hi hne P1 λs2 P2=>C1.nx {s2 with d:=vN i} ⟨⟨P2.K.T,P2.K.len,P2.K.row⟩,P2.o⟩).elim λs' e=>⟨s',e.1.K.next rfl rfl,e.2⟩
theorem Rg.st (R:Rg) (hd:3<=d) (h:MH):kP (ag P0 d) (.ai (112+R.i)) SH [R.e R.zero] h h=Qa (R.e R.da,h):=W.eq (R.gf hd ⟨rfl,rfl⟩)
def zdW {s:jo R} (hd:6<=d) (O:lh X) (hk:k<X.n) (K:KP X k 0 s)
  (q1: ∀s',KP X (k+1) 0 s'->R' .nx (je X (vN k) s'.b s'.c s'.d s'.e s'.f) s'.g) (q2: ∀s',KP X (k+1) 0 s'->R' .ct (je X (vN k) s'.b s'.c s'.d s'.e s'.f) s'.g):
  cq (ag P0 d) kB (je X (vN k) s.b s.c s.d s.e s.f) s.g R':=by
 have hkl:k<s.T.length:=by rw[K.len];exact hk
 have I:=K.row k _ (Jn hkl);rw[if_neg (Ze _)] at I;refine(K.T.row k _ (Jn hkl)).elim λep hr=>?_;rw[I.un (Jv _)] at hr;have hlt:=K.T.lt;rw[K.len] at hlt;have o1:Uq X (s.g++ [.dict Qd (kU (X.Tf k))]) s.g.length (.dict Qd (kU (X.Tf k))):=⟨hlt,ap⟩;cases (inferInstance:Decidable ((X.Tf k).length=0)) with
 |isTrue hz=>
  have hb:(((X.Tf k).length:Int)==0)=true:=by rw[hz];rfl
  exact kC (.v ((K.T.su hkl:lG s.g (.ref X.h.length) (.int (k:Int))=Qa (.ref (X.h.length+(k+1)))))<| .p (cB (ag P0 d) hr)<| .p (zaa (ag P0 d) o1.at')<| .k (uc (X.Tf k).length 0)<| .t (hb)<| .z (q2 {s with g:=s.g++ [.dict Qd (kU (X.Tf k))],b:=vR s.g.length} (K.iw O (List.eq_nil_of_length_eq_zero hz) K.T.bz rfl))) rfl
 |isFalse hz=>
  refine(ze5 (d:=d) (s:={s with g:=s.g++ [.dict Qd (kU (X.Tf k))]}) (Jl (by decide) hd) O hk (λe=>hz (by rw[e];rfl)) ⟨⟨K.T.bz,K.len,K.row⟩,o1⟩).elim λs' e=>?_;have eg:=zab (ag P0 d) o1.at' k;rw[tO λq=>absurd ((O.er k hk).lt k q).1 (Zb _)] at eg;exact kC (.v ((K.T.su hkl:lG s.g (.ref X.h.length) (.int (k:Int))=Qa (.ref (X.h.length+(k+1)))))<| .p (cB (ag P0 d) hr)<| .p (zaa (ag P0 d) o1.at')<| .k (uc (X.Tf k).length 0)<| .f ((beq_false_of_ne λe=>hz (KL.mp e):(((X.Tf k).length:Int)==0)=Qb))<| .w (R.no)<| .p (eg)<| .q (R.st (d:=d) (Jl (by decide) hd))<| .s (e.2)<| .z (q1 {s' with b:=vR s.g.length,c:=Qa (R.e R.da)} ⟨e.1.T,e.1.len,e.1.row⟩)) (by kernel_rfl)
end
section
variable {h0:MH}{X:SX R}
structure Sj (X:SX R) (i:Nat) (t:DR R):Prop where
 ok:qO X.n (X.p*X.n) (X.K*X.n+X.n+1) t
 ev: ∀N B:Nat->R.α,(∀s,s<X.n->B s=R.add (N s) (mD (X.Tf s) B)) ->mD t N=B i
 me:i∈j2 t
theorem SR.ok {P:Nat} (H:SR n p K i k t) (h1:p*n<=P) (h2:K*n+k<=K'):qO n P K' t:=⟨H.nd,λx hx=>(H.lt x hx).2,λq hq=>by
 have hx:q.1<n:=(H.lt _ (JJ.mpr ⟨q,hq,rfl⟩)).2;exact R.ah (Jl (JF _ (JK (Kf hx):q.1-i<=n)) h1) (Jl (JW (JF _ (JK (Kf hx):q.1-i<=n)) _) h2) (H.dg q hq)⟩
def mZ.done (ne:R.da≠R.zero) (hi:i<X.n) (I:mZ X i X.n t):Sj X i (nW t i R.da):=by
 refine⟨A9 (I.sr.ok (Jv _) (Jv _)) hi (R.ah (Jy _) (Jy _) R.gd),λN B e=>?_,?_⟩
 ·rw[Wy,R.one_mul,e i hi]
  congr 1
  rw[<-I.ev N B e];exact qX λx hx=>(if_pos (I.sr.lt x hx).2).symm
 ·delta nW
  rw[if_neg ne];exact(qC i).mpr (.inr rfl)
structure FP (X:SX R) (i:Nat) (s:jo R):Prop where
 T:gb X.h s.g s.T
 len:s.T.length=X.n
 row: ∀r t,s.T[r]?=Qa t->(i<=r->mZ X r X.n t)/\(r<i->Sj X r t)
structure ET (X:SX R) (g:MH) (T:List (DR R)):Prop where
 tb:gb X.h g T
 len:T.length=X.n
 row: ∀r t,T[r]?=Qa t->Sj X r t
theorem Rg.bR (R:Rg) (h:MH):getAttr P0 h (.ai (112+R.i)) FK=Qa (R.e R.da):=Wo.eq (R.ye (Q:=λv _=>v=_) rfl)
theorem zdV (bd:4*(p*n)+(K*n+n+1)<=3800):4*(p*n)+(K*n+n)<=3800:=Jl (JG (Jv _) (Jo _ _)) bd
abbrev bJ:List Sm:= [.expr (.call (.lit (.ai 104)) [.var 0,.sub (.var 2) (.var 3),.var 3,.aq (.var 0) FK])]
def zd1 {s:jo R} (hd:5<=d) (O:lh X) (ne:R.da≠R.zero) (hk:k<X.n) (P:FP X k s) (q: ∀s',FP X (k+1) s'->R' .nx (je X s'.a s'.b s'.c s'.d s'.e s'.f) s'.g):cq (ag P0 d) bJ (je X (vN k) s.b s.c s.d s.e s.f) s.g R':=by
 have hkl:k<s.T.length:=by rw[P.len];exact hk
 have hke:=Jn hkl;refine(P.T.row k _ hke).elim λep hr=>?_;refine(Gu (d:=d) (j:=k) (n:=X.n) (P:=X.p*X.n) (K:=X.K*X.n+X.n) (w:=R.da) (Jl (by decide) hd) hr (((P.row k _ hke).1 (Jv _)).sr.ok (Jv _) (Jv _)) (Jl O.n (by decide)) (R.ah (Jy _) (Jy _) R.gd) (zdV O.bd)).elim λep' e=>?_;have N:FP X (k+1) ⟨_,s.T.set k (nW s.T[k] k R.da),vN k,s.b,s.c,s.d,s.e,s.f⟩:=⟨P.T.set hkl (ep:=ep'),by rw[J0];exact P.len,λr t ht=>by
  by_cases e:k=r
  ·subst e
   rw[JV hkl] at ht;refine lW ht ?_;exact⟨λh=>absurd h (Xe _),λ_=>((P.row k _ hke).1 (Jv _)).done ne hk⟩
  ·rw[JZ e] at ht
   have:=P.row r t ht
   exact⟨λh=>this.1 (XA h),λh=>this.2 (J8 (JN h) (Ka e))⟩⟩
 exact kC (.v ((P.T.su hkl:lG s.g (.ref X.h.length) (.int (k:Int))=Qa (.ref (X.h.length+(k+1)))))<| .w (R.bR)<| .p (e)<| .z (q _ N)) rfl
abbrev Co (X:SX R):MH:=X.h++ .list ((J4 (X.h.length+1) X.n).map .ref)::(Zg X.n).map λi=>ae.dict Qd (kU (X.Tf i))
def OI (O:lh X) (T0:yS X.h X.aT ((Zg X.n).map X.Tf)):eval (ag P0 d) (.comp (.call (.lit (.ty 1684628340)) [.var 9]) [9] Qb (.var 1) []) (Qa (.ai (112+R.i))::Qa (.ref X.aT)::nn 13) X.h=Qa (.ref X.h.length,Co X):=by
 refine T0.x.elim λrs zq7=>?_;have a2:=zq7.2.1;rw[Jp,Zi] at a2;have hl:(rs.map ab.ref).length=X.n:=by rw[Jp,a2]
 refine W.eq (Wh (a:=X.aT) (vs:=rs.map .ref) (λi=> .dict Qd (kU (X.Tf i))) (by rw[hl];exact Jt O.n (show 60<200000 by decide)) (by rw[hl];exact Jl O.n (by decide)) (Wg rfl ⟨rfl,zq7.1,λi v t hv=>?_,by rw[hl];exact⟨rfl,rfl⟩⟩));refine(pL hv).elim λr zq6=>?_;refine eqB zq6.2 ?_;have hi:i<X.n:=by rw[<-a2];exact jY zq6.1
 refine(zq7.2.2 i r (X.Tf i) zq6.1 (by rw[JA,ZW hi];rfl)).elim λep zq5=>?_;exact kJ (.p (cB (ag P0 d) (jS (t:=t) zq5))<| .z (ck (.ref (X.h++t).length) (X.h++t++ [.dict Qd (kU (X.Tf i))]))) rfl
def c5 (O:lh X):KP X 0 0 ⟨Co X,(Zg X.n).map X.Tf,Qd,Qd,Qd,Qd,Qd,Qd⟩:=by
 have ln:((Zg X.n).map X.Tf).length=X.n:=by rw[Jp,Zi]
 refine⟨AR (ep:=λ_=>Qd),ln,λr t ht=>?_⟩;rw[if_neg (Ze _)];have hr:r<X.n:=by rw[<-ln];exact jY ht
 rw[JA,ZW hr] at ht;refine lW ht ?_;exact mZ.zero O hr
theorem ze1 (hd:6<=d) (O:lh X): ∃s:jo R,KP X X.n 0 s/\exec (ag P0 d) (.fo [3] Qb xh kB) (je X Qd Qd Qd Qd Qd Qd) (Co X)=Qa ((.nx,je X s.a s.b s.c s.d s.e s.f),s.g):=
 kh (c:=ag P0 d) (x:=3) (n:=X.n) (e:=xh) (b:=kB) (λs:jo R=>je X s.a s.b s.c s.d s.e s.f) jo.g (λk s=>KP X k 0 s) ⟨Co X,(Zg X.n).map X.Tf,Qd,Qd,Qd,Qd,Qd,Qd⟩ (Jl O.n (by decide)) rfl (by exact kJ (.p ((c5 O).T.ln (ag P0 d) (c5 O).len)<| .c<| .z (ck (.fy X.n) (Co X))) (by kernel_rfl)) (c5 O) λk s R1 _ hk P1 C1=>zdW hd O hk P1 (λs' P'=>C1.nx {s' with a:=vN k} ⟨P'.T,P'.len,P'.row⟩) λs' P'=>C1.ct {s' with a:=vN k} ⟨P'.T,P'.len,P'.row⟩
theorem zfl {s:jo R} (hd:6<=d) (O:lh X) (ne:R.da≠R.zero) (K:KP X X.n 0 s): ∃s':jo R,FP X X.n s'/\exec (ag P0 d) (.fo [3] Qb xh bJ) (je X s.a s.b s.c s.d s.e s.f) s.g=Qa ((.nx,je X s'.a s'.b s'.c s'.d s'.e s'.f),s'.g):=
 kh (c:=ag P0 d) (x:=3) (n:=X.n) (e:=xh) (b:=bJ) (λs:jo R=>je X s.a s.b s.c s.d s.e s.f) jo.g (λk s=>FP X k s) s (Jl O.n (by decide)) rfl (by exact kJ (.p (K.T.ln (ag P0 d) K.len)<| .c<| .z (ck (.fy X.n) s.g)) (by kernel_rfl)) ⟨K.T,K.len,λr t ht=>⟨λ_=>by
  have:=K.row r t ht
  rwa [if_neg (Ze _)] at this,λh=>absurd h (Ze _)⟩⟩ λk s R1 _ hk P1 C1=>zd1 (Jl (by decide) hd) O ne hk P1 C1.nx
def OH (hd:7<=d) (O:lh X) (ne:R.da≠R.zero) (T0:yS X.h X.aT ((Zg X.n).map X.Tf)): ∃t,jZ (ag P0 d) (.ai 107) [.ai (112+R.i),.ref X.aT] X.h=Qa (.ref X.h.length,X.h++t)/\∃T,ET X (X.h++t) T:=by
 have w:WF P0 d 107 [.ai (112+R.i),.ref X.aT] X.h λv g=>v= .ref X.h.length/\∃s:jo R,g=s.g/\FP X X.n s:=by
  exact kN (K:=6) hd (Qa (.ai (112+R.i))::Qa (.ref X.aT)::nn 13) uW rfl λd' h'=>(ze1 (d:=d') h' O).elim λs a=>(zfl (d:=d') h' O ne a.1).elim λs' b=>kC (.p (OI (d:=d') O T0)<| .s (a.2)<| .s (b.2)<| .z ((show ab.ref X.h.length= .ref X.h.length/\∃s2:jo R,s'.g=s2.g/\FP X X.n s2 from⟨rfl,s',rfl,b.1⟩))) rfl
 obtain⟨v,g,e,rfl,s,rfl,P⟩:=W.get (mJ (P:=P0) rfl w);obtain⟨t,ht⟩:=P.T.pre;rw[ht] at e;exact⟨t,e,s.T,ht▸P.T,P.len,λr t ht=>(P.row r t ht).2 (by rw[<-P.len];exact jY ht)⟩
end
section
variable {h0:MH}{X:SX R}
def NB (X:SX R) (N B:Nat->R.α):Prop:= ∀s,s<X.n->B s=R.add (N s) (mD (X.Tf s) B)
structure RS (R:Rg) where
 g:MH
 V:List R.α
 b:Option ab:=Qd
 c:Option ab:=Qd
structure RX (X:SX R) (h:MH) (aR aS:Nat) (T:List (DR R)) (row:List R.α) (P K:Nat):Prop where
 O:lh X
 rR:h[aR]?=Qa (.list (row.map R.e))
 len:row.length=X.n
 dg: ∀x∈row,R.D P K x
 tb:yS h aS T
 tl:T.length=X.n
 tr: ∀r t,T[r]?=Qa t->Sj X r t
 bd:4*(P+X.p*X.n)+(K+(X.K*X.n+X.n+1)+X.n)<=3800
structure RP (X:SX R) (h:MH) (row:List R.α) (P K i:Nat) (s:RS R):Prop where
 pre: ∃t,s.g=h++t
 at':s.g[h.length+1]?=Qa (.list (s.V.map R.e))
 len:s.V.length=X.n
 ev: ∀N B,NB X N B->R.add (j6 s.V N 0) (j6 (row.drop i) B i)=j6 row B 0
 dg: ∀x∈s.V,R.D (P+X.p*X.n) (K+(X.K*X.n+X.n+1)+i) x
structure RJ (X:SX R) (h:MH) (row:List R.α) (P K i aL:Nat) (y:R.α) (t:DR R) (j:Nat) (s:RS R):Prop where
 pre: ∃t,s.g=h++t
 at':s.g[h.length+1]?=Qa (.list (s.V.map R.e))
 len:s.V.length=X.n
 ev: ∀N B,NB X N B->R.add (j6 s.V N 0) (R.add (R.mul y (pY (((kM t).drop j).map λx=>R.mul (kZ t x) (N x)))) (j6 (row.drop (i+1)) B (i+1)))=j6 row B 0
 dg: ∀x∈s.V,R.D (P+X.p*X.n) (K+(X.K*X.n+X.n+1)+(i+1)) x
 dl: ∀ (m:Nat) x,s.V[m]?=Qa x->m∈(kM t).drop j->R.D (P+X.p*X.n) (K+(X.K*X.n+X.n+1)+i) x
 ge:h.length+1<aL
 l:s.g[aL]?=Qa (.list ((kM t).map λn:Nat=> .int (n:Int)))
def qr (R:Rg) (h:MH) (aR aS:Nat) (b c:Option ab):Internal.Frame:=Qa (.ai (112+R.i))::Qa (.ref aR)::Qa (.ref aS)::Qa (.ref (h.length+1))::b::c::nn 6
abbrev zt:List Sm:= [.fq (.sb (.var 3) (.var 5)) (.bh (.var 0) vm [.sub (.var 3) (.var 5),.bh (.var 0) ry [.sub (.var 1) (.var 4),.sub (.sub (.var 2) (.var 4)) (.var 5)]])]
variable {aR aS:Nat}{T:List (DR R)}{row:List R.α}{P K:Nat}
def yS.su {T:List (DR R)} (H:yS g aT T) (ht:T[i]?=Qa t): ∃r ep,lG g (.ref aT) (.int (i:Int))=Qa (.ref r)/\g[r]?=Qa (.dict ep (kU t)):=by
 refine H.x.elim λrs zq3=>?_;have hi:i<rs.length:=by rw[zq3.2.1];exact jY ht
 obtain⟨ep,e⟩:=zq3.2.2 i _ t (Jn hi) ht;exact⟨_,ep,sl (i:=i) zq3.1 (sL (Jn hi)),e⟩
theorem zd2 {P:Nat} (hi:i<n) (bd:4*(P+p*n)+(K+(K'*n+n+1)+n)<=3800):4*(P+p*n)+(K+(K'*n+n+1))<=3800/\4*(P+p*n)+(K+(K'*n+n+1)+i)<=3800:=⟨Jl (JG (Jv _) (Jo _ _)) bd,JK (Js (J3 (J3 hi _) _) bd)⟩
def RJ.kf {y v:R.α}{s:RS R} (I:RJ X h row P K i aL y t j s) (hx:(kM t)[j]?=Qa x) (hxd:x∉ (kM t).drop (j+1)) (hVe:s.V[x]?=Qa v) (hv:R.D (P+X.p*X.n) (K+(X.K*X.n+X.n+1)+i) v) (hm:R.D (P+X.p*X.n) (K+(X.K*X.n+X.n+1)) (R.mul y (kZ t x))):
  RJ X h row P K i aL y t (j+1) ⟨s.g.set (h.length+1) (.list ((s.V.set x (R.add v (R.mul y (kZ t x)))).map R.e)),s.V.set x (R.add v (R.mul y (kZ t x))),Qd,vN x⟩:=by
 refine I.pre.elim λtl zq1=>?_;refine⟨⟨_,by show s.g.set _ _=_;rw[zq1];exact sI (ZA _)⟩,kO I.at',by show (s.V.set _ _).length=_;rw[J0];exact I.len,λN B e=>?_,λz hz=>?_,λm z hz hm=>?_,I.ge,j4 (λe=>absurd (e▸I.ge) (Zb _)) I.l⟩
 ·simp only[<-I.ev N B e,<-(by unfold m5;rw[hVe];rfl:m5 s.V x (R.mul y (kZ t x))=s.V.set x (R.add v (R.mul y (kZ t x)))),UV (jY hVe),pN hx,JO,j8,R.mul_add,ZM,<-R.mul_assoc,R.add_assoc,R.add_assoc,R.swap]
 ·exact(Km hz).elim (I.dg z) λe=>e▸(R.fw hv (R.ah (Jv _) (Jo _ _) hm):R.D (P+X.p*X.n) (K+(X.K*X.n+X.n+1)+(i+1)) (R.add v (R.mul y (kZ t x))))
 ·rw[JZ (λe=>hxd (e▸hm):x≠m)] at hz
  exact I.dl m z hz (by rw[pN hx];exact .tail _ hm)
def zbm {y:R.α}{s:RS R} (hd:4<=d) (C:RX X h aR aS T row P K) (hy:row[i]?=Qa y) (ht:T[i]?=Qa t) (hx:(kM t)[j]?=Qa x) (I:RJ X h row P K i aL y t j s)
  (q: ∀s',RJ X h row P K i aL y t (j+1) s'->R' .nx (qr R h aR aS (vN i) s'.c) s'.g):cq (ag P0 d) zt (qr R h aR aS (vN i) (vN x)) s.g R':=by
 have D:=C.tr i t ht;have hxk:x∈j2 t:=mX.mem_iff.mp (Jq hx);have hVe:=Un (l:=s.V) (s:=x) (by rw[I.len];exact D.ok.lt x hxk);have nd:=LS D.ok.nd;rw[<-KG j (kM t),pN hx] at nd;have hDy:=C.dg y (Jq hy);have B:=zd2 (by rw[<-C.len];exact jY hy:i<X.n) C.bd;have d3:3<=d:=Jl (by decide) hd;exact I.pre.elim λtl eg=>(yS.su (g:=s.g) (eg▸C.tb.bz) ht).elim λr w=>w.elim λep w=>kC (.v (sl I.at' (yI hVe))<| .v (sl (eg▸jS C.rR:s.g[aR]?=Qa (.list (row.map R.e))) (yI hy))<| .v (w.1)<| .v (sR w.2 hxk)<| .q (R.ti d3 hDy (D.ok.get x) B.1)<| .q (R.pl d3 (I.dl x _ hVe (by rw[pN hx];exact .head _)) (R.ah (Jv _) (Jo _ _) (R.fj hDy (D.ok.get x))) B.2)<| .h ((zbd (R.add (at' s.V x) (R.mul y (kZ t x))) I.at' (jY hVe)))<| .z (q _ (I.kf hx ((JI.mp (Kq.mp nd).2.1).1) hVe (I.dl x _ hVe (by rw[pN hx];exact .head _)) (R.fj hDy (D.ok.get x))))) rfl
end
variable {T:List (DR R)}
section
variable {h0:MH}{X:SX R}{row:List R.α}{P:Nat}
abbrev dG:List Sm:= [.ite (.ew .ne (.sub (.var 1) (.var 4)) (.aq (.var 0) rz)) [.fo [5] Qb (.call (.lit (.bi 126922498794852)) [.sub (.var 2) (.var 4)]) zt] []]
def RP.next {s s':RS R} (I:RP X h row P K i s) (e1:s'.g=s.g) (e2:s'.V=s.V) (hi:row[i]?=Qa R.zero):RP X h row P K (i+1) s':=by
 refine(Ju.mp hi).elim λh1 zq3=>?_;refine⟨by rw[e1];exact I.pre,by rw[e1,e2];exact I.at',by rw[e2];exact I.len,λN B e=>?_,λx hx=>R.ah (Jv _) (ZA _) (I.dg x (e2▸hx))⟩;simp only[e2,<-I.ev N B e,yL h1,zq3,R.zero_mul,R.zero_add]
def zbo {y:R.α}{s:RS R} (hd:4<=d) (C:RX X h aR aS T row P K) (hy:row[i]?=Qa y) (ht:T[i]?=Qa t) (I:RP X h row P K i s): ∃s':RS R,RP X h row P K (i+1) s'/\exec (ag P0 d) (.fo [5] Qb (.call (.lit (.bi 126922498794852)) [.sub (.var 2) (.var 4)]) zt) (qr R h aR aS (vN i) s.c) s.g=Qa ((.nx,qr R h aR aS (vN i) s'.c),s'.g):=by
 have D:=C.tr i t ht;refine I.pre.elim λtl eg=>(yS.su (g:=s.g) (eg▸C.tb.bz) ht).elim λr w=>w.elim λep w=>?_;have hlen:=Jl D.ok.len C.O.n;have hvl:((kM t).map λn:Nat=>ab.int (n:Int)).length=(kM t).length:=Jp ..;have W1:WS (ag P0 d) (.fo [5] Qb (.call (.lit (.bi 126922498794852)) [.sub (.var 2) (.var 4)]) zt) (qr R h aR aS (vN i) s.c) s.g λfl f g=> ∃s':RS R,RJ X h row P K i s.g.length y t (kM t).length s'/\fl= .nx/\f=qr R h aR aS (vN i) s'.c/\g=s'.g:=by
  refine vZ (a:=s.g.length) (vs:=(kM t).map λn:Nat=> .int (n:Int)) (λs':RS R=>qr R h aR aS (vN i) s'.c) RS.g (RJ X h row P K i s.g.length y t) (by rw[hvl];exact Jt (by rw[mX.length_eq,Uz];exact hlen:(kM t).length<=60) (show 60<200000 by decide)) ⟨s.g++ [.list ((kM t).map λn:Nat=> .int (n:Int))],s.V,Qd,s.c⟩ (λj s' P'=>P'.l) ((by exact kJ (.v (w.1)<| .p (d9 (ag P0 d) w.2 (λe=>by have:=D.me;rw[e] at this;exact absurd this JB:t≠ []) hlen)<| .z (ck (.ref s.g.length) (s.g++ [.list ((kM t).map λn:Nat=> .int (n:Int))]))) rfl:WE (ag P0 d) (qr R h aR aS (vN i) s.c) (.call (.lit (.bi 126922498794852)) [.sub (.var 2) (.var 4)]) s.g λv g=>v= .ref s.g.length/\g=s.g++ [.list ((kM t).map λn:Nat=> .int (n:Int))]).mono λv g q=>⟨q.1,rfl,q.2,⟨tl++ [.list ((kM t).map λn:Nat=> .int (n:Int))],by show s.g++_=_;rw[eg,JD]⟩,jS I.at',I.len,λN B e=>?_,λx hx=>R.ah (Jv _) (ZA _) (I.dg x hx),λm x hx _=>I.dg x (Jq hx),(kD I.at'),ap⟩) (λj v s' R2 hv P2 C2=>?_) λs' P'=>⟨s',hvl▸P',rfl,rfl,rfl⟩
  ·obtain⟨h1,h2⟩:=Ju.mp hy
   simp only[<-I.ev N B e,yL h1,h2,List.drop_zero,UA mX D.ok.nd,D.ev N B e]
  ·rw[JA] at hv
   refine(Zl.mp hv).elim λx zq1=>?_;refine eqE zq1.2 ?_;exact mL (zbm hd C hy ht zq1.1 P2 C2.nx)
 obtain⟨⟨fl,f⟩,g,e,s',P2,q1,q2,q3⟩:=W.get W1;refine eqE q1 ?_;subst q2;subst q3;refine⟨s',⟨P2.pre,P2.at',P2.len,λN B hNB=>?_,P2.dg⟩,e⟩;rw[<-P2.ev N B hNB,Ke];show _=R.add _ (R.add (R.mul y R.zero) _);rw[R.mul_zero,R.zero_add]
def zbn {s:RS R} (hd:4<=d) (C:RX X h aR aS T row P K) (hi:i<X.n) (I:RP X h row P K i s)
  (q: ∀s',RP X h row P K (i+1) s'->R' .nx (qr R h aR aS (vN i) s'.c) s'.g):cq (ag P0 d) dG (qr R h aR aS (vN i) s.c) s.g R':=by
 have hy:=Un (l:=row) (s:=i) (by rw[C.len];exact hi);have rR:s.g[aR]?=Qa (.list (row.map R.e)):=I.pre.elim λtl eg=>eg▸jS C.rR;cases hq:R.ft (at' row i) R.zero with
 |isTrue hz=>
  have hf:(!@decide (at' row i=R.zero) (R.ft _ _))=false:=by rw[R.yes hz];rfl
  exact kC (.v (sl rR (yI hy))<| .w (R.no)<| .k (R.qn (at' row i) R.zero)<| .f (hf)<| .z (q s (I.next rfl rfl (hy.trans (congrArg Qa hz))))) rfl
 |isFalse hz=>
  have hf:(!@decide (at' row i=R.zero) (R.ft _ _))=true:=by rw[R.not hz];rfl
  refine(zbo (d:=d) hd C hy (Jn (l:=T) (i:=i) (by rw[C.tl];exact hi)) I).elim λs' e=>?_;exact kC (.v (sl rR (yI hy))<| .w (R.no)<| .k (R.qn (at' row i) R.zero)<| .t (hf)<| .s (e.2)<| .z (q s' e.1)) rfl
abbrev xg (R:Rg) (h:MH) (n:Nat):MH:=h++ [.list [R.e R.zero]]++ [.list ((lC R n).map R.e)]
def wG (hd:5<=d) (C:RX X h aR aS T row P K)
  (q: ∀t V,(h++t)[h.length+1]?=Qa (.list (V.map R.e)) ->V.length=X.n->(∀x∈V,R.D (P+X.p*X.n) (K+(X.K*X.n+X.n+1)+X.n) x) ->(∀N B,NB X N B->j6 V N 0=j6 row B 0) ->Q (.ref (h.length+1)) (h++t)):WF P0 d 132 [.ai (112+R.i),.ref aR,.ref aS] h Q:=by
 refine kN (K:=4) hd (Qa (.ai (112+R.i))::Qa (.ref aR)::Qa (.ref aS)::nn 9) pF rfl λd' h'=>?_;have e1:(h++ [ae.list [R.e R.zero]]).length=h.length+1:=by rw[Jz];rfl
 have em:=R.yo h (n:=X.n) (Jl C.O.n (by decide));rw[e1] at em;have ln:(row.map R.e).length=X.n:=by rw[Jp,C.len]
 have len1:jZ (ag P0 d') (.bi vE) [.ref aR] (h++ [.list [R.e R.zero]])=Qa (.int X.n,h++ [.list [R.e R.zero]]):=by rw[FT (jS C.rR),ln]
 refine(kh (c:=ag P0 d') (x:=4) (n:=X.n) (e:=.call (.lit (.ty 491260897125)) [.call (.lit (.bi 7103854)) [.var 1]]) (b:=dG) (λs:RS R=>qr R h aR aS s.b s.c) RS.g (RP X h row P K) ⟨xg R h X.n,lC R X.n,Qd,Qd⟩ (Jl C.O.n (by decide)) rfl (by exact kJ (.p ((by rw[FT (jS (jS C.rR):(xg R h X.n)[aR]?=Qa (.list (row.map R.e))),ln]:jZ (ag P0 d') (.bi vE) [.ref aR] (xg R h X.n)=Qa (.int X.n,xg R h X.n)))<| .c<| .z (ck (.fy X.n) (xg R h X.n))) (by kernel_rfl)) (⟨⟨_,JD ..⟩,by rw[<-e1];exact ap,zlen,λN B _=>by rw[mH,R.zero_add];rfl,λx hx=>by rw[Zk hx];exact R.ah (Jy _) (Jy _) R.bt⟩:RP X h row P K 0 ⟨xg R h X.n,lC R X.n,Qd,Qd⟩) λi s R1 _ hi P1 C1=>zbn h' C hi P1 λs' P'=>C1.nx {s' with b:=vN i} ⟨P'.pre,P'.at',P'.len,P'.ev,P'.dg⟩).elim λs e=>e.1.pre.elim λt ht=>?_;have e2:=e.2;rw[ht] at e2;have ev:=e.1.ev;rw[<-C.len,Ke] at ev;exact kC (.w (R.no)<| .p (len1)<| .p (em)<| .s (e2)<| .z (q t s.V (ht▸e.1.at') e.1.len e.1.dg λN B hN=>(R.add_zero _).symm.trans (ev N B hN))) rfl
end
section
variable {h0:MH}
abbrev sX (g:MH) (aT:Nat) (M:Mc R.α) (p K:Nat):SX R:=⟨g,aT,M.aa.length,p,K,λs=>mP (az M s)⟩
theorem Ca:nU M M.aa.length 0=(Zg M.aa.length).map λs=>mP (az M s):=ZI λs hs=>by
 delta sG;rw[if_pos (KH.mp hs)]
def CJ (I:ak R h L M) (G:kQ M p k) (U:ny M) (hn:M.aa.length<=60) (hK:k+M.ax<=K) (bd:4*(p*M.aa.length)+(K*M.aa.length+M.aa.length+1)<=3800):lh (sX g aT M p K):=by
 refine⟨λs hs=>?_,hn,bd⟩;have hx:=NJ (Jn hs);obtain⟨ok,up⟩:=Ux (R:=R) (n:=M.aa.length) (p:=p) (k:=k) (s:=s) (xs:=M.aa[s]) λc hc=>by
  exact⟨(G.fk _ (Zo hs) c hc).1,(G.fk _ (Zo hs) c hc).2.2.2.1,λq=>U s _ (Jn hs) c hc q⟩
 simp only[hx]
 have:=I.cr _ (Zo hs)
 exact⟨ok.nd,λx hx=>⟨up x hx,ok.lt x hx⟩,λq hq=>R.ah (Jv _) (by show _<=K;exact Jl (Jr this _) hK) (ok.dg q hq)⟩
theorem zfb (hd:2<=d) (I:ak R h L M):kP (ag P0 d) (.ref L.m) 1925483444799026525305 [] h h=Qa (.bool (M.aa.any λr=>r.any Ar.fh),h):=me (lN I.fb rfl rfl) (Rp hd I ⟨rfl,rfl⟩)
inductive xr (M:Mc R.α) (p K:Nat) (h:MH) (v:ab) (g:MH):Prop
 |no (e:WO M) (hv:v= .none) (hg:g=h):xr M p K h v g
 |so (t1 t2:MH) (T:List (DR R)) (S:ET (sX (h++t1) h.length M p K) (h++t1++t2) T) (hv:v= .ref (h++t1).length) (hg:g=h++t1++t2):xr M p K h v g
def MV (hd:8<=d) (I:ak R h L M) (G:kQ M p k) (U:ny M) (ne:R.da≠R.zero) (hn:M.aa.length<=60) (hK:k+M.ax<=K) (bd:4*(p*M.aa.length)+(K*M.aa.length+M.aa.length+1)<=3800) (bd2:4*p+(k+300)<=3800):
  ∃v g,jZ (ag P0 d) (.ai 131) [.ref L.m] h=Qa (v,g)/\xr M p K h v g:=by
 have w:WF P0 d 131 [.ref L.m] h (xr M p K h):=by
  refine kN (K:=7) hd (Qa (.ref L.m)::nn 6) oK rfl λd' h'=>?_;refine xO (M.aa.any λr=>r.any Ar.fh) (λhE=>?_) λhE=>?_
  ·refine xEEAA (W.get (mJ (P:=P0) (d:=d') rfl (Cb (Q:=λv g=>v= .ref h.length/\∃t,g=h++t/\gb h (h++t) (nU M M.aa.length 0)) (Jl (by decide) h') I G U bd2 λt T=>⟨rfl,t,rfl,T⟩))) λv g e cv gq=>?_
   refine xEA gq λt mu T=>?_;subst cv;subst mu;exact(OH (d:=d') (X:=sX (h++t) h.length M p K) h' (CJ I G U hn hK bd) ne (Ca▸T.r)).elim λt2 a=>a.2.elim λT2 S=>kC (.p (zfb (Jl (by decide) h':2<=d') I)<| .c<| .f (nT hE)<| .v (l8 I)<| .p (e)<| .p (a.1)<| .z ((show xr M p K h (.ref (h++t).length) (h++t++t2) from .so t t2 T2 S rfl rfl))) (by kernel_rfl)
  ·exact kC (.p (zfb (Jl (by decide) h':2<=d') I)<| .c<| .t (nF hE)<| .z ((show xr M p K h .none h from .no hE rfl rfl))) (by kernel_rfl)
 exact(W.get (mJ (P:=P0) rfl w)).elim λv zq1=>zq1.elim λg zq2=>⟨v,g,zq2.1,zq2.2⟩
end
section
variable {h0:MH}
theorem zar {l:List Nat} (H:uR M) (hi:i<=u.length) (hj:j<=l.length):NB (sX g aT M p K) (xM M (Bv M u l) u l i j) (Bv M u l i j):=λs hs=>by
 simp only[U4 H hi hj,vP,DC]
def zei {L':Ly}{T:Mc R.α}{l:List Nat}{S:List (DR R)} (H:uR T) (O:lh (sX g aT T p K)) (Z:ET (sX g aT T p K) g0 S) (h1:p*T.aa.length<=pS) (h2:K*T.aa.length+T.aa.length+1+T.aa.length<=kS):
  Lg (wX g0 L' T u l (.ref g.length) pW kW p k pS kS):=by
 refine⟨.inr ⟨_,rfl⟩,(λe=>nomatch e),λaT' e {d P K' aR g1 row Q} hd hg hR hl hD hb q=>?_⟩;have e:g.length=aT':=by
  injection (e:ab.ref g.length= .ref aT')
 refine eqE e ?_;obtain⟨t,rfl⟩:=hg;refine wG (X:=sX g aT T p K) (T:=S) (P:=P) (K:=K') hd ⟨O,hR,hl,hD,Z.tb.r.bz,Z.len,Z.row,?_⟩ λt2 V a1 a2 a3 a4=>?_
 ·exact Jl (JG (JF 4 (Jr h1 P)) (Jl (Jx (J9 _ _ _)) (Jr h2 K'))) hb
 ·refine q t2 _ V (ZA _) a1 a2 (λx hx=>R.ah (Jr h1 P) ?_ (a3 x hx)) λi j hi hj=>(a4 _ _ (zar H hi hj)).symm
  exact Jl (Jx (J9 _ _ _)) (JG (Jv _) h2)
def eA (hd:4<=d) (hu: ∀c∈u,V1 c=Qe) (lu:u.length<=200) (h:MH): ∃v,jZ (ag P0 d) (.ai 130) [.str u] h=Qa (v,h):=by
 obtain⟨v,g,e,rfl⟩:=W.get (mJ (P:=P0) (d:=d) rfl (zbM (Q:=λ_ g=>g=h) (hd) hu lu rfl));exact⟨v,e⟩
structure eX (M:Mc R.α) (h t:MH) (L':Ly) (T:Mc R.α) (p k:Nat) (u l:List Nat):Prop where
 J:ak R (h++t) L' T
 G:kQ T p k
 U:ny T
 n:T.aa.length<=M.aa.length
 c:T.ax<=M.ax
 w:R.mul T.first (Bv T u l 0 0 T.start)=R.mul M.first (Bv M u l 0 0 M.start)
def zaW (hd:6<=d) (I:ak R h L M) (G:kQ M p k) (U:ny M) (u l:List Nat): ∃t L' T,jZ (ag P0 d) (.ai 133) [.ref L.m] h=Qa (.ref L'.m,h++t)/\eX M h t L' T p k u l:=by
 obtain⟨v,g,e,t,L',T,rfl,rfl,q⟩:=W.get (mJ (P:=P0) rfl (AO (Q:=λv g=> ∃t L' T,v= .ref L'.m/\g=h++t/\eX M h t L' T p k u l) hd I G λt L' T ks mb1 mb2 bc J ho TB TR=>by
  have TG:=Uw I G TB TR J;exact⟨t,L',T,rfl,rfl,J,TG.g,TG.up U,TG.len,TG.ax,yU I G TB TR (G.dh U) (TG.g.dh (TG.up U))⟩))
 exact⟨t,L',T,e,q⟩
def zdq {y B:Nat} (hn:n'<=n) (hc:c'<=c) (n60:n<=60) (cl:1+(x+1)*(y+1)*(c+1)<B)
  (bd:4*((p+p*n)*(x+y+2))+((k+((k+c)*n+n+1+n))*(x+y+2)+(1+(x+1)*(y+1)*(c+1)+n))<=3800):
  p*n'<=p*n/\(k+c)*n'+n'+1+n'<=(k+c)*n+n+1+n/\4*(p*n')+((k+c)*n'+n'+1)<=3800/\1+(x+1)*(y+1)*(c'+1)<B/\4*((p+p*n)*(x+y+2))+((k+((k+c)*n+n+1+n))*(x+y+2)+(1+(x+1)*(y+1)*(c'+1)+n'))<=3800/\1+(x+1)*(y+1)*(c'+1)+n'<=1+(x+1)*(y+1)*(c+1)+n:=by
 have h0:=JF ((x+1)*(y+1)) (Zn hc);have h4:(k+c)*n'+n'+1+n'<=(k+c)*n+n+1+n:=JG (JW (JG (JF (k+c) hn) hn) 1) hn;exact⟨(JF p hn),h4,Jl (JG (JF 4 (Jl (Jl (JF p hn) (Jw _ _)) (ZZ (p+p*n) (Zs (x+y+1))):p*n'<=(p+p*n)*(x+y+2))) (Jl (Jl (Jl (Jl (Jo _ n') h4) (Jw _ _)) (ZZ (k+((k+c)*n+n+1+n)) (Zs (x+y+1))):(k+c)*n'+n'+1<=(k+((k+c)*n+n+1+n))*(x+y+2)) (Jo _ _))) bd,Jt (Jr h0 1) cl,Jl (Jr (Jr (JG (Jr h0 1) hn:1+(x+1)*(y+1)*(c'+1)+n'<=1+(x+1)*(y+1)*(c+1)+n) _) _) bd,(JG (Jr h0 1) hn:1+(x+1)*(y+1)*(c'+1)+n'<=1+(x+1)*(y+1)*(c+1)+n)⟩
theorem mq.of {T:Mc R.α}{L':Ly}{l:List Nat}{ov:ab} (J:ak R g L' T) (G:kQ T p k) (cl:1+(u.length+1)*(l.length+1)*(T.ax+1)<100000) (bd:4*((p+pS)*(u.length+l.length+2))+((k+kS)*(u.length+l.length+2)+(1+(u.length+1)*(l.length+1)*(T.ax+1)+T.aa.length))<=3800):mq (wX g L' T u l ov (p+pS) (k+kS) p k pS kS):=⟨J,G,Jv _,Jv _,cl,bd⟩
def Dx {l:List Nat} (hd:10<=d) (I:ak R h L M) (G:kQ M p k) (U:ny M) (ne:R.da≠R.zero) (hn:M.aa.length<=60) (hu: ∀c∈u,V1 c=Qe) (hl: ∀c∈l,V1 c=Qe) (lu:u.length<=200) (ll:l.length<=200)
  (cl:1+(u.length+1)*(l.length+1)*(M.ax+1)<100000) (bd2:4*p+(k+300)<=3800)
  (hbd:4*((p+p*M.aa.length)*(u.length+l.length+2))+((k+((k+M.ax)*M.aa.length+M.aa.length+1+M.aa.length))*(u.length+l.length+2)+(1+(u.length+1)*(l.length+1)*(M.ax+1)+M.aa.length))<=3800)
  (q: ∀t,R.D ((p+p*M.aa.length)*(u.length+l.length+2)) ((k+((k+M.ax)*M.aa.length+M.aa.length+1+M.aa.length))*(u.length+l.length+2)+(1+(u.length+1)*(l.length+1)*(M.ax+1)+M.aa.length)) (R.mul M.first (Bv M u l 0 0 M.start)) ->Q (R.e (R.mul M.first (Bv M u l 0 0 M.start))) (h++t)):WF P0 d 106 [.ref L.m,.str u,.str l] h Q:=by
 refine kN (K:=9) hd (Qa (.ref L.m)::Qa (.str u)::Qa (.str l)::nn 15) l6 rfl λd' h'=>?_;refine(eA (d:=d') (Jl (by decide) h':4<=d') hu lu h).elim λv1 a=>(eA (d:=d') (Jl (by decide) h':4<=d') hl ll h).elim λv2 b=>?_;refine(zaW (d:=d') (Jl (by decide) h') I G U u l).elim λt c=>c.elim λL' c=>c.elim λT c=>?_;have Z:=c.2;have B:=zdq Z.n Z.c hn cl hbd;refine(MV (d:=d') (K:=k+M.ax) (Jl (by decide) h') Z.J Z.G Z.U ne (Jl Z.n hn) (Jr Z.c k) B.2.2.1 bd2).elim λov e=>e.elim λg e=>?_;refine oQ (a:=l6.take 5) (b:=l6.drop 5) ?_;have eu: ∀ (g:MH) (t2:MH),g++t2=h++(g.drop h.length++t2) ->R.D ((p+p*M.aa.length)*(u.length+l.length+2)) ((k+((k+M.ax)*M.aa.length+M.aa.length+1+M.aa.length))*(u.length+l.length+2)+(1+(u.length+1)*(l.length+1)*(T.ax+1)+T.aa.length)) (R.mul T.first (Bv T u l 0 0 T.start)) ->Q (R.e (R.mul T.first (Bv T u l 0 0 T.start))) (g++t2):=λg t2 hg hD=>by
  rw[Z.w] at hD ⊢;simp only[hg];exact q _ (R.ah (Jv _) (Jr B.2.2.2.2.2 _) hD)
 have dr: ∀s t2:MH,(h++s)++t2=h++((h++s).drop h.length++t2):=λs t2=>by rw[List.drop_left,JD]
 have tail:cq (ag P0 d') (l6.drop 5) (Qa (.ref L'.m)::Qa (.str u)::Qa (.str l)::Qa (.ai (112+R.i))::Qa ov::nn 13) g (Internal.Fin Q):=by
  cases e.2 with
  |no hE hv hg=>
   rw[hv,hg];exact Lp (X:=wX (h++t) L' T u l .none (p+p*M.aa.length) (k+((k+M.ax)*M.aa.length+M.aa.length+1+M.aa.length)) p k _ _) (Jl (by decide) h') (mq.of Z.J Z.G B.2.2.2.1 B.2.2.2.2.1) ⟨.inl rfl,λ_ i j s hi hj _=>by
    show Bv T u l i j s=_;rw[U4 (Z.G.dh Z.U) hi hj,vP,UU λa ha=>UG hE ha,R.add_zero],λaT e=>nomatch e⟩ rfl rfl rfl (Jo _ _) (Jo _ _) λt2=>eu (h++t) t2 (dr t t2)
  |so t1 t2 S SS hv hg=>
   rw[hv,hg];exact Lp (X:=wX (h++t++t1++t2) L' T u l (.ref (h++t++t1).length) (p+p*M.aa.length) (k+((k+M.ax)*M.aa.length+M.aa.length+1+M.aa.length)) p k _ _) (Jl (by decide) h') (mq.of Z.J.bz.bz Z.G B.2.2.2.1 B.2.2.2.2.1) (zei (Z.G.dh Z.U) (CJ Z.J Z.G Z.U (Jl Z.n hn) (Jr Z.c k) B.2.2.1) SS B.1 B.2.1) rfl rfl rfl (Jo _ _) (Jo _ _) λt3=>eu (h++t++t1++t2) t3 (by rw[JD h,JD h];exact dr _ t3)
 exact kC (.p (a)<| .p (b)<| .v (l8 I)<| .p (c.1)<| .p (e.1)<| .z (oH tail)) rfl
end
def eB (b:Bool):ab:= .int (bif b then 1 else 0)
def zc7:Rg where
 i:=0
 hi:=by decide
 α:=Bool
 ft:=inferInstance
 e:=eB
 zero:=Qb
 da:=Qe
 add:=or
 mul:=and
 D:=λ_ _ _=>True
 add_comm:=Bool.or_comm
 add_assoc:=Bool.or_assoc
 zero_add:=qaJ
 mul_comm:=Bool.and_comm
 mul_assoc:=Bool.and_assoc
 one_mul:=qaG
 zero_mul:=qbg
 mul_add:=Bool.and_or_distrib_left
 pj:=rfl
 rx:=rfl
 we:=λ_=>rfl
 fc:=λh a b=>v5.trans (congrArg Qa (by cases a<;>cases b<;>rfl))
 ah:=λ_ _ _=>trivial
 bt:=trivial
 gd:=trivial
 fw:=λ_ _=>trivial
 fj:=λ_ _=>trivial
 gg:=λ{p k a b} _ _ _=>by cases a<;>cases b<;>rfl
 fm:=λ{p q k l a b} _ _ _=>by cases a<;>cases b<;>rfl
 gh:=λ{p k a d h0 h Q} hd _ _ q=>kE (f:=142) (self:=[.ai 112]) rfl (by
  cases a
  ·exact lF (K:=0) (Jl (Jw _ _) hd) (λ_=>rfl) q
  ·exact lF (K:=0) (Jl (Jw _ _) hd) (λ_=>rfl) q)
 gf:=λ{d h0 h Q} hd q=>kE (f:=145) (self:=[.ai 112]) rfl (lF (K:=0) (Jl (Jw _ _) hd) (λ_=>rfl) q)
def eO (x:Option Nat):ab:=JC (motive:=λ_=>ab) x .none λn=> .int n
def zib (x y:Option Nat):Option Nat:=JC (motive:=λ_=>Option Nat) x y λn=>JC (motive:=λ_=>Option Nat) y x λm=>Qa (if m<n then m else n)
def g6 (x y:Option Nat):Option Nat:=x.bind λn=>y.map λm=>n+m
def Mj {s:ab} (hd:1<=d) (hn:n<wB) (q:Q (.int n) h):WF P0 d 147 [s,.int n] h Q:=by
 exact kN (K:=0) hd (Qa s::Qa (.int n)::nn 6) uZ rfl λd' h'=>kC (.c4<| .c4<| .f (wM hn)<| .z (q)) rfl
def Le:Rg where
 i:=1
 hi:=by decide
 α:=Option Nat
 ft:=inferInstance
 e:=eO
 zero:=Qd
 da:=Qa 0
 add:=zib
 mul:=g6
 D:=λp _ x=> ∀n,x=Qa n->n<=3*p
 add_comm:=λa b=>by
  cases a with
  |none=>cases b<;>rfl
  |some n=>cases b with
   |none=>rfl
   |some m=>show Qa _=Qa _;congr 1;split<;>split<;>lia
 add_assoc:=λa b c=>by
  cases a with
  |none=>rfl
  |some n=>cases b with
   |none=>rfl
   |some m=>cases c with
    |none=>rfl
    |some k=>show Qa _=Qa _;congr 1;(repeat' split)<;>lia
 zero_add:=λa=>rfl
 mul_comm:=λa b=>by
  cases a with
  |none=>cases b<;>rfl
  |some n=>cases b with
   |none=>rfl
   |some m=>exact congrArg Qa (ZJ n m)
 mul_assoc:=λa b c=>by
  cases a with
  |none=>rfl
  |some n=>cases b with
   |none=>rfl
   |some m=>cases c with
    |none=>rfl
    |some k=>exact congrArg Qa (J9 n m k)
 one_mul:=λa=>by
  cases a with
  |none=>rfl
  |some n=>exact congrArg Qa (ZM n)
 zero_mul:=λa=>rfl
 mul_add:=λa b c=>by
  cases a with
  |none=>rfl
  |some n=>cases b with
   |none=>cases c<;>rfl
   |some m=>cases c with
    |none=>rfl
    |some k=>show Qa (n+if k<m then k else m)=Qa (if n+k<n+m then n+k else n+m);congr 1;(repeat' split)<;>lia
 pj:=rfl
 rx:=rfl
 we:=λa=>by cases a<;>rfl
 fc:=λh a b=>by
  cases a with
  |none=>cases b<;>rfl
  |some n=>cases b with
   |none=>rfl
   |some m=>exact v5.trans (congrArg Qa (by
     by_cases hab:n=m
     ·subst hab;simp
     ·rw[decide_eq_false (λe=>hab (Qa.inj e)),beq_false_of_ne];lia))
 ah:=λhp _ ha n e=>Jl (ha n e) (JF 3 hp)
 bt:=λn e=>nomatch e
 gd:=λn e=>by cases e;exact Jv _
 fw:=λ{p k a b} ha hb n e=>by
  cases a with
  |none=>exact hb n e
  |some x=>cases b with
   |none=>exact ha n e
   |some y=>
    rw[<-(Qa.inj e:(if y<x then y else x)=n)];split<;>lia
 fj:=λ{p q k l a b} ha hb n e=>by
  cases a with
  |none=>exact nomatch e
  |some x=>cases b with
   |none=>exact nomatch e
   |some y=>
    have e:x+y=n:=Qa.inj e;have h1:=ha x rfl;have h2:=hb y rfl;lia
 gg:=λ{p k a b} _ _ _=>by
  cases a with
  |none=>cases b<;>rfl
  |some x=>cases b with
   |none=>rfl
   |some y=>
    show Qa (ab.int _)=Qa (ab.int _)
    congr 2
    by_cases hxy:y<x
    ·rw[if_pos hxy,if_pos (ZR.mpr hxy)]
    ·rw[if_neg hxy,if_neg λq=>hxy (ZR.mp q)]
 fm:=λ{p q k l a b} _ _ _=>by
  cases a with
  |none=>cases b<;>rfl
  |some x=>cases b with
   |none=>rfl
   |some y=>rfl
 gh:=λ{p k a d h0 h Q} hd ha hl q=>kE (f:=147) (self:=[.ai 113]) rfl (by
  cases a with
  |none=>exact lF (K:=0) (Jl (Jw _ _) hd) (λ_=>rfl) q
  |some n=>exact Mj (Jl (Jw _ _) hd) (by
    have:=ha n rfl
    have:n<2 ^ 3900:=Jt (show n<=3800 by lia) (by decide+kernel)
    exact this) q)
 gf:=λ{d h0 h Q} hd q=>kE (f:=150) (self:=[.ai 113]) rfl (lF (K:=0) (Jl (Jw _ _) hd) (λ_=>rfl) q)
abbrev QN:Type:= {q:Rat // 0<=q}
def eQ (q:QN):ab:= .ba [.int q.1.num,.int q.1.den]
def nQ (q:QN):Nat:=q.1.num.toNat
theorem yY (q:QN):((nQ q:Nat):Int)=q.1.num:=qaD (Rat.num_nonneg.mpr q.2)
def tA (q:QN):eQ q= .ba [.int (nQ q:Nat),.int q.1.den]:=by unfold eQ;rw[yY]
structure DQ (p k:Nat) (q:QN):Prop where
 d:q.1.den ∣ 12 ^ p
 n:nQ q<=2 ^ k*q.1.den
theorem M8 (h:d ∣ 12 ^ p):d<=2 ^ (4*p):=Jl (Nat.le_of_dvd (qbs (by decide)) h) (by rw[Nat.pow_mul];exact Nat.pow_le_pow_left (by decide) p)
def DQ.bd {q:QN} (H:DQ p k q) (hl:4*p+k<=3800):nQ q<wB/\q.1.den<wB:=by
 refine⟨Hq (k:=4*p+k) hl (Jl H.n ?_),Hq (k:=4*p) (Jl (Jo _ _) hl) (M8 H.d)⟩;simp only[ZJ,XH];exact JF _ (M8 H.d)
def fr?_of {n m:Nat} (hn:n<wB) (hm:m<wB) (h0:0<m):fr? (.ba [.int n,.int m])=Qa (n,m):=by
 show (nat? (.int n)).bind (λa=>(nat? (.int m)).bind λb=>au (Zj 1 b) (Qa (a,b)))=_;rw[nat?_of hn,nat?_of hm];show au (Zj 1 m) _=_;rw[KF h0];rfl
def ve {q:QN} (H:DQ p k q) (hl:4*p+k<=3800):fr? (eQ q)=Qa (nQ q,q.1.den):=by
 rw[tA];exact fr?_of (H.bd hl).1 (H.bd hl).2 q.1.den_pos
def zV (hm:m≠0):(Rat.normalize (n:Int) m hm).num=((n / Kr n m:Nat):Int)/\(Rat.normalize (n:Int) m hm).den=m / Kr n m:=by
 rw[Rat.normalize_eq];exact⟨by show (n:Int) / ((Kr n m:Nat):Int)=_;rw[Int.natCast_ediv],rfl⟩
def tK (a b:QN):QN:=⟨a.1+b.1,Rat.add_nonneg a.2 b.2⟩
def nZ (a b:QN):QN:=⟨a.1*b.1,Rat.mul_nonneg a.2 b.2⟩
def z7 (a b:QN):nQ (tK a b)=(nQ a*b.1.den+nQ b*a.1.den) / Kr (nQ a*b.1.den+nQ b*a.1.den) (a.1.den*b.1.den)/\(tK a b).1.den=a.1.den*b.1.den / Kr (nQ a*b.1.den+nQ b*a.1.den) (a.1.den*b.1.den):=by
 have h0:a.1.den*b.1.den≠0:=qa7 a.1.den_nz b.1.den_nz;have e:(tK a b).1=Rat.normalize ((nQ a*b.1.den+nQ b*a.1.den:Nat):Int) (a.1.den*b.1.den) h0:=by
  show a.1+b.1=_;rw[Rat.add_def]
  congr 1
  simp only[qa6,K1,K1,yY,yY]
 exact⟨by unfold nQ;rw[e,(zV (n:=nQ a*b.1.den+nQ b*a.1.den) h0).1];rfl,by rw[e,(zV (n:=nQ a*b.1.den+nQ b*a.1.den) h0).2]⟩
def zW (a b:QN):nQ (nZ a b)=(nQ a*nQ b) / Kr (nQ a*nQ b) (a.1.den*b.1.den)/\(nZ a b).1.den=a.1.den*b.1.den / Kr (nQ a*nQ b) (a.1.den*b.1.den):=by
 have h0:a.1.den*b.1.den≠0:=qa7 a.1.den_nz b.1.den_nz;have e:(nZ a b).1=Rat.normalize ((nQ a*nQ b:Nat):Int) (a.1.den*b.1.den) h0:=by
  show a.1*b.1=_;rw[Rat.mul_def]
  congr 1
  simp only[K1,yY,yY]
 exact⟨by unfold nQ;rw[e,(zV (n:=nQ a*nQ b) h0).1];rfl,by rw[e,(zV (n:=nQ a*nQ b) h0).2]⟩
def zc2 (a b:QN):eQ (tK a b)=zv (nQ a) a.1.den (nQ b) b.1.den:=by
 simp only[tA,(z7 a b).1,(z7 a b).2];rfl
def IY (a b:QN):eQ (nZ a b)=xe (nQ a) a.1.den (nQ b) b.1.den:=by
 rw[tA,(zW a b).1,(zW a b).2];rfl
def Ir (q:QN):Kr (nQ q) q.1.den=1:=by
 exact(by have:=yY q;lia:nQ q=q.1.num.natAbs)▸q.1.reduced
def zad (hd:0<d):n / Kr n d*d=n*(d / Kr n d):=by
 refine Zv (Nat.gcd_dvd_left n d) λx zq6=>?_;refine xE (Nat.gcd_dvd_right n d) λy hy=>?_;rw[(Xw (YB _ hd:0<Kr n d) zq6:n / Kr n d=x),(Xw (YB _ hd:0<Kr n d) hy:d / Kr n d=y)]
 calc x*d=x*(Kr n d*y):=by rw[<-hy]
  _=(Kr n d*x)*y:=by rw[<-qaI,Xo x]
  _=n*y:=by rw[<-zq6]
def NF (a b:QN):nQ (tK a b)*(a.1.den*b.1.den)=(nQ a*b.1.den+nQ b*a.1.den)*(tK a b).1.den:=by
 simp only[(z7 a b).1,(z7 a b).2];exact zad (Xb a.1.den_pos b.1.den_pos)
def IW (a b:QN):nQ (nZ a b)*(a.1.den*b.1.den)=(nQ a*nQ b)*(nZ a b).1.den:=by
 simp only[(zW a b).1,(zW a b).2];exact zad (Xb a.1.den_pos b.1.den_pos)
def EC {q:QN}{M:Nat} (h:nQ q*M=x*q.1.den):q.1.den ∣ M:=by
 exact(by rw[Nat.Coprime,Nat.gcd_comm];exact Ir q:Nat.Coprime q.1.den (nQ q)).dvd_of_dvd_mul_left ⟨x,by rw[h,Xo]⟩
def NG {a b:QN}{M:Nat} (hM:0<M) (ha:a.1.den ∣ M) (hb:b.1.den ∣ M):(tK a b).1.den ∣ M:=by
 obtain⟨x,hx⟩:=ha;obtain⟨y,hy⟩:=hb;refine EC (x:=nQ a*x+nQ b*y) (Nat.eq_of_mul_eq_mul_right hM ?_);have e:=NF a b
 generalize nQ (tK a b)=n at*
 generalize (tK a b).1.den=c at*
 generalize a.1.den=d at*
 generalize b.1.den=f at*
 generalize nQ a=u at*
 generalize nQ b=v at*
 calc n*M*M=n*(d*x)*(f*y):=by rw[<-hx,<-hy]
  _=(n*(d*f))*(x*y):=by ac_rfl
  _=((u*f+v*d)*c)*(x*y):=by rw[e]
  _=(u*x*(f*y)+v*y*(d*x))*c:=by simp only[K6];congr 1<;>ac_rfl
  _=(u*x*M+v*y*M)*c:=by rw[<-hx,<-hy]
  _=(u*x+v*y)*c*M:=by simp only[K6];congr 1<;>ac_rfl
def Hi {a b:QN}{M N:Nat} (ha:a.1.den ∣ M) (hb:b.1.den ∣ N):(nZ a b).1.den ∣ M*N:=by
 obtain⟨x,hx⟩:=ha;obtain⟨y,hy⟩:=hb;refine EC (x:=nQ a*nQ b*(x*y)) ?_;have e:=IW a b
 generalize nQ (nZ a b)=n at*
 generalize (nZ a b).1.den=c at*
 simp only[hx,hy]
 calc n*(a.1.den*x*(b.1.den*y))=(n*(a.1.den*b.1.den))*(x*y):=by ac_rfl
  _=(nQ a*nQ b*c)*(x*y):=by rw[e]
  _=nQ a*nQ b*(x*y)*c:=by ac_rfl
def R9 {a b:QN} (ha:nQ a<=k*a.1.den) (hb:nQ b<=k*b.1.den):nQ (tK a b)<=k*2*(tK a b).1.den:=by
 refine Xx ?_ (Xb a.1.den_pos b.1.den_pos);rw[(NF a b)];have h3:nQ a*b.1.den+nQ b*a.1.den<=k*2*(a.1.den*b.1.den):=by
  have e1:k*2*(a.1.den*b.1.den)=k*a.1.den*b.1.den+k*b.1.den*a.1.den:=by
   rw[qaI k 2,YO,qbr];congr 1<;>ac_rfl
  rw[e1];exact JG (Zq b.1.den ha) (Zq a.1.den hb)
 rw[show k*2*(tK a b).1.den*(a.1.den*b.1.den)=k*2*(a.1.den*b.1.den)*(tK a b).1.den by ac_rfl];exact(Zq (tK a b).1.den h3)
def En {a b:QN}{l:Nat} (ha:nQ a<=k*a.1.den) (hb:nQ b<=l*b.1.den):nQ (nZ a b)<=k*l*(nZ a b).1.den:=by
 refine Xx ?_ (Xb a.1.den_pos b.1.den_pos);rw[(IW a b)];rw[show k*l*(nZ a b).1.den*(a.1.den*b.1.den)=k*a.1.den*(l*b.1.den)*(nZ a b).1.den by ac_rfl];exact(Zq (nZ a b).1.den (qbf ha hb))
theorem IZ (a b c:QN):nZ a (tK b c)=tK (nZ a b) (nZ a c):=Subtype.ext (Rat.mul_add ..)
def uI (a b:QN):QN:=if a.1<b.1 then b else a
theorem o9 {a b:QN} (h:b.1<=a.1):uI a b=a:=if_neg (Rat.not_lt.mpr h)
def maxQ_l' {a b:QN} (h:a.1<=b.1):uI a b=b:=by
 delta uI;by_cases q:a.1<b.1
 ·exact if_pos q
 ·exact(if_neg q).trans (Subtype.ext (Rat.le_antisymm h (Rat.not_lt.mp q)))
def FQ (a b:QN):uI a b=uI b a:=by
 rcases Rat.le_total (a:=a.1) (b:=b.1) with h|h
 ·rw[maxQ_l' h,o9 h]
 ·rw[o9 h,maxQ_l' h]
def D6 (a b c:QN):uI (uI a b) c=uI a (uI b c):=by
 rcases Rat.le_total (a:=a.1) (b:=b.1) with h|h<;>rcases Rat.le_total (a:=b.1) (b:=c.1) with h2|h2
 ·rw[maxQ_l' h,maxQ_l' h2,maxQ_l' (Rat.le_trans h h2)]
 ·rw[maxQ_l' h,o9 h2,maxQ_l' h]
 ·rw[o9 h,maxQ_l' h2]
 ·rw[o9 h,o9 h2,o9 h,o9 (Rat.le_trans h2 h)]
def IX (a b c:QN):nZ a (uI b c)=uI (nZ a b) (nZ a c):=by
 rcases Rat.le_total (a:=b.1) (b:=c.1) with h|h
 ·rw[maxQ_l' h,maxQ_l' (a:=nZ a b) (b:=nZ a c) (Rat.mul_le_mul_of_nonneg_left h a.2)]
 ·rw[o9 h,o9 (a:=nZ a b) (b:=nZ a c) (Rat.mul_le_mul_of_nonneg_left h a.2)]
def zca (a b:QN):eQ (uI a b)=yd (nQ a) a.1.den (nQ b) b.1.den:=by
 delta yd;have e:a.1<b.1 ↔ nQ a*b.1.den<nQ b*a.1.den:=by
  rw[Rat.lt_iff,<-yY,<-yY]
  constructor
  ·intro h;exact ZR.mp (by rw[K1,K1];exact h)
  ·intro h;have:=ZR.mpr h;rw[K1,K1] at this;exact this
 delta uI;by_cases h:a.1<b.1
 ·rw[if_pos h,if_pos (e.mp h),tA]
 ·rw[if_neg h,if_neg λq=>h (e.mpr q),tA]
def PZ (a b:QN):uI a b=a\/uI a b=b:=by
 rcases Rat.le_total (a:=a.1) (b:=b.1) with h|h
 ·exact .inr (maxQ_l' h)
 ·exact .inl (o9 h)
def Ri {a b c e:Int}:lj h (.ba [.int a,.int b]) (.ba [.int c,.int e])=Qa (a==c && b==e):=by
 show Qa (a==c && (b==e && Qe))=_;rw[Yk]
theorem zdw:wB<gB:=qas (by decide) (by decide)
def Sq {a b:QN}:lj h (eQ a) (eQ b)=Qa (@decide (a=b) (inferInstance)):=by
 delta eQ;refine Ri.trans ?_
 congr 1
 by_cases q:a=b
 ·subst q;simp
 ·rw[decide_eq_false q,qam]
  by_cases h1:a.1.num=b.1.num
  ·exact .inr (beq_false_of_ne λh2=>q (Subtype.ext (Rat.ext h1 (Int.ofNat_inj.mp h2))))
  ·exact .inl (beq_false_of_ne h1)
def L3 {q:QN}{s:ab} (hd:2<=d) (h1:nQ q<wB) (h2:q.1.den<wB) (qq:Q (eQ q) h):WF P0 d 157 [s,eQ q] h Q:=by
 have hp:=q.1.den_pos;rw[tA] at qq ⊢;exact kN (K:=1) hd (Qa s::Qa (.ba [.int (nQ q),.int q.1.den])::nn 6) tJ rfl λd' h'=>kC (.c4<| .c4<| .c4<| .c4<| .c3<| .f (decide_eq_false (p:=(q.1.den:Int)<1) (by lia))<| .c2<| .f (wM h1)<| .c2<| .f (wM h2)<| .c2<| .q ((λh=>(zfc h' (Zx h1 zdw) h).trans (by rw[(Ir q)];rfl): ∀h,jZ (ag P0 d') (.ai 109) [.int q.1.den,.int (nQ q)] h=Qa (.int 1,h)))<| .c2<| .z (qq)) rfl
theorem bN:(0:Rat)<=1:=rfl
def Lf:Rg where
 i:=3
 hi:=by decide
 α:=QN
 ft:=inferInstance
 e:=eQ
 zero:=⟨0,Rat.le_refl⟩
 da:=⟨1,bN⟩
 add:=tK
 mul:=nZ
 D:=DQ
 add_comm:=λa b=>Subtype.ext (Rat.add_comm ..)
 add_assoc:=λa b c=>Subtype.ext (Rat.add_assoc ..)
 zero_add:=λa=>Subtype.ext (Rat.zero_add ..)
 mul_comm:=λa b=>Subtype.ext (Rat.mul_comm ..)
 mul_assoc:=λa b c=>Subtype.ext (Rat.mul_assoc ..)
 one_mul:=λa=>Subtype.ext (Rat.one_mul ..)
 zero_mul:=λa=>Subtype.ext (Rat.zero_mul ..)
 mul_add:=IZ
 pj:=rfl
 rx:=rfl
 we:=λa=>rfl
 fc:=λh a b=>Sq
 ah:=λ{p q k l a} hp hk ha=>⟨qbk ha.d (qa8 12 hp),Jl ha.n (Zq _ (qat (by decide) hk))⟩
 bt:=⟨qay _,Jy _⟩
 gd:=⟨qay _,by show 1<=_;decide⟩
 fw:=λ{p k a b} ha hb=>⟨NG (qbs (by decide)) ha.d hb.d,by rw[qbn];exact R9 ha.n hb.n⟩
 fj:=λ{p q k l a b} ha hb=>⟨by rw[XH];exact Hi ha.d hb.d,by rw[XH];exact En ha.n hb.n⟩
 gg:=λ{p k a b} ha hb hl=>by
  show mx zv (eQ a) (eQ b)=_;unfold mx;rw[ve ha hl,ve hb hl,zc2];rfl
 fm:=λ{p q k l a b} ha hb hl=>by
  show mx xe (eQ a) (eQ b)=_;unfold mx;rw[ve ha (by lia),ve hb (by lia),IY];rfl
 gh:=λ{p k a d h0 h Q} hd ha hl q=>kE (f:=157) (self:=[.ai 115]) rfl (L3 (JK (J5 hd)) (ha.bd hl).1 (ha.bd hl).2 q)
 gf:=λ{d h0 h Q} hd q=>kE (f:=160) (self:=[.ai 115]) rfl (lF (K:=2) hd (λ_=>by kernel_rfl) q)
structure DL (p k:Nat) (q:QN):Prop where
 d:q.1.den ∣ 12 ^ p
 n:nQ q<=q.1.den
theorem DL.q {q:QN} (H:DL p k q):DQ p 0 q:=⟨H.d,by rw[Nat.pow_zero,Z5];exact H.n⟩
def FS {q:QN}{s:ab} (hd:3<=d) (h1:nQ q<wB) (h2:q.1.den<wB) (h3:nQ q<=q.1.den) (qq:Q (eQ q) h):WF P0 d 161 [s,eQ q] h Q:=by
 rw[tA] at qq ⊢;exact kN (K:=2) hd (Qa s::Qa (.ba [.int (nQ q),.int q.1.den])::nn 6) tG rfl λd' h'=>kC (.q ((λh=>by rw[<-tA];exact me (f:=157) (self:=[]) rfl (L3 h' h1 h2 (ck _ _)): ∀h,kP (ag P0 d') (.ai 111) Iu [s,.ba [.int (nQ q),.int q.1.den]] h h=Qa (.ba [.int (nQ q),.int q.1.den],h)))<| .c3<| .f (decide_eq_false (p:=(q.1.den:Int)<nQ q) (by lia))<| .z (qq)) rfl
def Ld:Rg where
 i:=4
 hi:=by decide
 α:=QN
 ft:=inferInstance
 e:=eQ
 zero:=⟨0,Rat.le_refl⟩
 da:=⟨1,bN⟩
 add:=uI
 mul:=nZ
 D:=DL
 add_comm:=FQ
 add_assoc:=D6
 zero_add:=λa=>maxQ_l' a.2
 mul_comm:=λa b=>Subtype.ext (Rat.mul_comm ..)
 mul_assoc:=λa b c=>Subtype.ext (Rat.mul_assoc ..)
 one_mul:=λa=>Subtype.ext (Rat.one_mul ..)
 zero_mul:=λa=>Subtype.ext (Rat.zero_mul ..)
 mul_add:=IX
 pj:=rfl
 rx:=rfl
 we:=λa=>rfl
 fc:=λh a b=>Sq
 ah:=λ{p q k l a} hp hk ha=>⟨qbk ha.d (qa8 12 hp),ha.n⟩
 bt:=⟨qay _,Jy _⟩
 gd:=⟨qay _,Jv 1⟩
 fw:=λ{p k a b} ha hb=>by
  rcases PZ a b with e|e
  ·rw[e];exact⟨ha.d,ha.n⟩
  ·rw[e];exact⟨hb.d,hb.n⟩
 fj:=λ{p q k l a b} ha hb=>⟨by rw[XH];exact Hi ha.d hb.d,by
  have:=En (k:=1) (l:=1) (by rw[Z5];exact ha.n) (by rw[Z5];exact hb.n)
  simpa using this⟩
 gg:=λ{p k a b} ha hb hl=>by
  show mx yd (eQ a) (eQ b)=_;unfold mx;rw[ve ha.q (JW (Jl (Jo _ _) hl) _),ve hb.q (JW (Jl (Jo _ _) hl) _),zca];rfl
 fm:=λ{p q k l a b} ha hb hl=>by
  show mx xe (eQ a) (eQ b)=_;unfold mx;rw[ve ha.q (by lia),ve hb.q (by lia),IY];rfl
 gh:=λ{p k a d h0 h Q} hd ha hl q=>kE (f:=161) (self:=[.ai 116]) rfl (FS hd (ha.q.bd (JW (Jl (Jo _ _) hl) _)).1 (ha.q.bd (JW (Jl (Jo _ _) hl) _)).2 ha.n q)
 gf:=λ{d h0 h Q} hd q=>kE (f:=163) (self:=[.ai 116]) rfl (lF (K:=0) (Jl (Jw _ _) hd) (λ_=>rfl) q)
section
variable {h0:MH}
structure Mk (R:Rg) (h g:MH) (m:Nat) (M:Mc R.α) (X:List (Nat×ae)):Prop where
 x: ∃L:Ly,L.m=m/\ak R g L M/\(∀a∈fg L,h.length<=a)/\∀p∈X,g[p.1]?=Qa p.2/\p.1∉fg L
 pre: ∃t,g=h++t
def Mk.ob (H:Mk R h g m M X) {a:Nat} (hp:(a,o)∈X):g[a]?=Qa o:=by
 exact H.x.elim λL zq12=>(zq12.2.2.2 _ hp).1
def Mk.up (H:Mk R h g m M X) {a:Nat} (e:h[a]?=Qa o):g[a]?=Qa o:=by
 refine H.pre.elim λt zq11=>?_;refine eqB zq11 ?_;exact jS e
def Mk.to {L':Ly}{M':Mc R.α}{S:List Nat} (H:Mk R h g m M X) (e1:L.m=m) (ho: ∀a∈fg L,h.length<=a) (hx: ∀p∈X,g[p.1]?=Qa p.2/\p.1∉fg L) (I':ak R g' L' M') (em:L'.m=L.m) (K:l9 g g' S) (hS: ∀a∈S,a∈fg L) (hL: ∀a∈fg L',a∈fg L\/g.length<=a):Mk R h g' m M' X:=by
 refine H.pre.elim λt zq10=>?_;obtain rfl:=zq10;refine⟨⟨L',by rw[em,e1],I',λa ha=>(hL a ha).elim (ho a) λq=>Jl (by rw[Jz];exact Jo _ _) q,λp hp=>?_⟩,K.pre λa ha=>ho a (hS a ha)⟩;refine xA (hx p hp) λh1 h2=>?_;exact⟨K.at' _ _ (λq=>h2 (hS _ q)) h1,λq=>(hL _ q).elim h2 λq=>absurd (kD h1) (Zz q)⟩
def Mk.more (H:Mk R h g m M X) {t:MH}:Mk R h (g++t) m M X:=by
 exact H.x.elim λL zq8=>H.to zq8.1 zq8.2.2.1 zq8.2.2.2 zq8.2.1.bz rfl (l9.bz (S:=[])) (λa ha=>absurd ha JB) λa ha=> .inl ha
def ak.qt (I:ak R g L M) {a:Nat} (ha:a∈fg L):a<g.length:=by
 rcases JM.mp ha with rfl|ha
 ·exact kD I.fb
 rcases JM.mp ha with rfl|ha
 ·exact kD I.aa
 rcases JM.mp ha with rfl|ha
 ·exact kD I.aj
 ·exact I.tc ha
def Mk.fb (H:Mk R h g m M X) {t:ae}:Mk R h (g++ [t]) m M ((g.length,t)::X):=by
 refine((H.more (t:=[t])).x).elim λL zq7=>?_;refine H.x.elim λL0 zq6=>?_;refine⟨⟨L0,zq6.1,zq6.2.1.bz,zq6.2.2.1,λp hp=>?_⟩,(H.to (L:=L0) zq6.1 zq6.2.2.1 zq6.2.2.2 (zq6.2.1.bz (t:=[t])) rfl (l9.bz (S:=[])) (λa ha=>absurd ha JB) λa ha=> .inl ha).pre⟩;rcases JM.mp hp with rfl|hp
 ·exact⟨ap,λq=>absurd (zq6.2.1.qt q) (Zb _)⟩
 ·exact⟨jS (zq6.2.2.2 p hp).1,(zq6.2.2.2 p hp).2⟩
theorem D4 (hd:1<=d) (q: ∀g,Mk R h g h.length M0 []->Q (.ref h.length) g):WV (ag P0 d) (.ai 121) [.ai (112+R.i)] h Q:=
 (Ij R hd h).elim λt e=>W.of e.1 (q _ ⟨⟨_,rfl,e.2,λa ha=>by
  simp only[fg,JM,JB,or_false] at ha;rcases ha with rfl|rfl|rfl<;>lia,λp hp=>absurd hp JB⟩,t,rfl⟩)
def WR (hd:2<=d) (H:Mk R h g m M X) (hl:M.aa.length<10000) (q: ∀g',Mk R h g' m M.more X->Q (.int M.aa.length) g'):WM (ag P0 d) (.ref m) 495873782885 [] g g Q:=by
 refine H.x.elim λL zq5=>?_;obtain rfl:=zq5.1;refine kE (lN zq5.2.1.fb rfl rfl) (LD hd zq5.2.1 hl λg' I' K=>q g' (H.to rfl zq5.2.2.1 zq5.2.2.2 I' rfl K (λa ha=>?_) λa ha=>?_))
 ·simp only[JM,JB,or_false] at ha
  rcases ha with rfl|rfl
  ·exact .tail _ (.head _)
  ·exact .tail _ (.tail _ (.head _))
 ·rcases WJ a ha with ha|rfl
  ·exact .inl ha
  ·exact .inr (Jv _)
def I9 (hd:4<=d) (H:Mk R h g m M X) (hs:s<M.aa.length) (ht:a.t<M.aa.length) (lu:dh a.up) (ll:dh a.lo) (hw:R.D p k a.w) (hl:4*p+k<=3800) (hc:M.ax<100000)
  (q: ∀g' M',Mk R h g' m M' X->(a.w=R.zero->M'=M) ->(a.w≠R.zero->M'=M.fk s a) ->Q .none g'):WM (ag P0 d) (.ref m) 6386275 [.int s,.str a.up,.str a.lo,R.e a.w,.int a.t] g g Q:=by
 refine H.x.elim λL zq4=>?_;obtain rfl:=zq4.1;exact kE (lN zq4.2.1.fb rfl rfl) (Nv hd zq4.2.1 hs ht lu ll hw hl hc λg' M' I' K h1 h2=>q g' M' (H.to rfl zq4.2.2.1 zq4.2.2.2 I' rfl K (λa ha=>ha) λa ha=> .inl ha) h1 h2)
def I8 (hd:4<=d) (H:Mk R h g m M X) (hs:s<M.aa.length) (hw:R.D p k w) (hl:4*p+k<=3800) (q: ∀g',Mk R h g' m {M with aj:=M.aj.set s w} X->Q .none g'):WM (ag P0 d) (.ref m) 6647396 [.int s,R.e w] g g Q:=by
 refine xEAA H.x λL cv I gq=>?_;refine xA gq λho hx=>?_;subst cv;exact kE (lN I.fb rfl rfl) (zcy hd I hs hw hl λg' I' K=>q g' (H.to rfl ho hx I' rfl K (λa ha=>ha) λa ha=> .inl ha))
def PW (hd:4<=d) (H:Mk R h g m M X) (hs:s<M.aa.length) (q: ∀g',Mk R h g' m {M with aj:=M.aj.set s R.da} X->Q .none g'):WM (ag P0 d) (.ref m) 6647396 [.int s] g g Q:=by
 refine H.x.elim λL zq2=>?_;obtain rfl:=zq2.1;exact kE (lN zq2.2.1.fb rfl rfl) (RC hd zq2.2.1 hs λg' I' K=>q g' (H.to rfl zq2.2.2.1 zq2.2.2.2 I' rfl K (λa ha=>ha) λa ha=> .inl ha))
def Hn (hd:4<=d) (H:Mk R h g m M X) (hs:s<M.aa.length) (hw:R.D p k w) (hl:4*p+k<=3800) (q: ∀g',Mk R h g' m {M with start:=s,first:=w} X->Q .none g'):WM (ag P0 d) (.ref m) 422608071022 [.int s,R.e w] g g Q:=by
 refine xEAA H.x λL cv I gq=>?_;refine xA gq λho hx=>?_;subst cv;exact kE (lN I.fb rfl rfl) (Da hd I hs hw hl λg' I' K=>q g' (H.to rfl ho hx I' rfl K (λa ha=>ha) λa ha=> .inl ha))
end
section
variable {h0:MH}
def ak.bI {a:Nat} (I:ak R g L M) (ha:g[a]?=Qa (.list vs)) (hn:a∉fg L):ak R (g.set a o) L M:=by
 have k: ∀ {b:Nat}{o':ae},b∈fg L->g[b]?=Qa o'->(g.set a o)[b]?=Qa o':=λ{b o'} hb e=>j4 (λq=>hn (q▸hb)) e;refine⟨k (.head _) I.fb,k (.tail _ (.head _)) I.aa,k (.tail _ (.tail _ (.head _))) I.aj,I.len,I.di,λi r xs hr hx=>?_,I.nd,I.bb,I.ct,I.cl,I.ds.to λr hr _ e=>k (.tail _ (.tail _ (.tail _ hr))) e⟩;refine Zv (I.ar i r xs hr hx) λas zq13=>?_;refine⟨as,k (.tail _ (.tail _ (.tail _ (Jq hr)))) zq13.1,zq13.2.1,λj b x e1 e2=>?_⟩;have hb:=zq13.2.2 j b x e1 e2;exact j4 (λq=>by subst q;rw[ha] at hb;cases hb) hb
def Mk.bH {a:Nat} (H:Mk R h g m M ((a,.list vs)::X)) (hX: ∀p∈X,a≠p.1) (ha:h.length<=a):Mk R h (g.set a o) m M ((a,o)::X):=by
 refine H.x.elim λL zq12=>?_;have hx:=zq12.2.2.2;obtain⟨h1,h2⟩:=hx _ (.head _);refine H.pre.elim λt zq10=>?_;obtain rfl:=zq10;refine⟨⟨L,zq12.1,zq12.2.1.bI h1 h2,zq12.2.2.1,λp hp=>?_⟩,_,sI ha⟩;rcases JM.mp hp with rfl|hp
 ·exact⟨kO h1,h2⟩
 ·exact⟨j4 (hX p hp) (hx p (.tail _ hp)).1,(hx p (.tail _ hp)).2⟩
theorem Mk.lt (H:Mk R h g m M X): ∀p∈X,g.length≠p.1:=λp hp=>by
 refine H.x.elim λL zq9=>?_
 have:=kD (zq9.2.2.2 p hp).1
 exact Kd this
def Mk.drop {p:Nat×ae} (H:Mk R h g m M (p::X)):Mk R h g m M X:=by
 exact H.x.elim λL zq8=>⟨⟨L,zq8.1,zq8.2.1,zq8.2.2.1,λq hq=>zq8.2.2.2 q (.tail _ hq)⟩,H.pre⟩
def Mk.le (H:Mk R h g m M X):h.length<=g.length:=by
 refine H.pre.elim λt zq7=>?_;refine eqB zq7 ?_;simp only[Jz];exact Jo _ _
def lE (M:Mc R.α):Nat->Mc R.α
 |0=>M
 |n+1=>(lE M n).more
def UJ:(lE M n).aa.length=M.aa.length+n:=by
 induction n with
 |zero=>rfl
 |succ n ih=>show (_++ [[]]).length=_;rw[Jz,ih];rfl
def PY (hd:2<=d) (H:Mk R h g m M X) (hl:M.aa.length+n<10000): ∃v g',eval (ag P0 d) (.comp (.bh (.var 0) 495873782885 []) [2] Qb (.call (.lit (.ty 491260897125)) [.var 1]) []) (Qa (.ref m)::Qa (.int n)::nn 6) g=Qa (v,g')/\Mk R h g' m (lE M n) X:=by
 refine W.get (o:=eval (ag P0 d) _ _ g) (Q:=λ_ g'=>Mk R h g' m (lE M n) X) (zP ?_);have I0: ∃k,∃xs:List ab,pC g (.fy n)=Qa k/\xs.length<(ag P0 d).cn/\∃I:Nat->MH->Prop,I 0 (g++ [.list []])/\(∀i h,I i h->lX h i k=Qa xs[i]?)/\
   (∀i x,xs[i]?=Qa x-> ∀hh,I i hh->Wo (nG (Qa (.ref m)::Qa (.int n)::nn 6) [2] Qb x) λfr1=>uj (ag P0 d) fr1 [] hh λb h2=>Br b (WE (ag P0 d) fr1 (.bh (.var 0) 495873782885 []) h2 λx h3=> ∃vs,h3[g.length]?=Qa (.list vs)/\vs.length<bb/\I (i+1) (h3.set g.length (.list (vs++ [x])))) (I (i+1) h2))/\
   ∀hh,I xs.length hh->Mk R h hh m (lE M n) X:=by
  refine⟨.rg n,Gw n,Ab (oR (Js (JQ (Jw _ _)) (Jl (JY hl) (Jw _ _)))),by rw[nV];show _<200000;exact Js (JQ (Jw _ _)) (Jl (JY hl) (Jw _ _)),λi hh=>i<=n/\∃vs,vs.length=i/\Mk R h hh m (lE M i) ((g.length,.list vs)::X),⟨Jy _,[],rfl,(H.fb (t:=.list []))⟩,λi hh q=>DX q.1,λi v hv hh q=>?_,λhh q=>?_⟩
  ·obtain⟨hi,rfl⟩:=Gv hv
   refine q.2.elim λvs zq5=>?_;refine mL (vY (zcJ ?_))
   have: ∃v g',kP (ag P0 d) (.ref m) 495873782885 [] hh hh=Qa (v,g')/\Mk R h g' m (lE M (i+1)) ((g.length,.list vs)::X):=W.get (WR hd zq5.2 (by rw[UJ];exact Js (J3 hi _) (JK hl)) λg' H2=>H2)
   exact this.elim λv zq3=>zq3.elim λg' zq4=>kJ (.p (zq4.1)<| .z ((⟨vs,zq4.2.ob (.head _),by rw[zq5.1];exact Js hi (oR (Js (JQ (Jw _ _)) (Jl (JY hl) (Jw _ _)))),hi,_,by rw[Jz,zq5.1];rfl,zq4.2.bH H.lt H.le⟩: ∃us,g'[g.length]?=Qa (.list us)/\us.length<bb/\i+1<=n/\∃ws,ws.length=i+1/\Mk R h (g'.set g.length (.list (us++ [v]))) m (lE M (i+1)) ((g.length,.list ws)::X)))) rfl
  ·rw[nV] at q
   exact q.2.elim λvs zq2=>zq2.2.drop
 exact kJ (.c<| .z (I0)) rfl
def UK (hd:3<=d) (H:Mk R h g m M X) (hl:M.aa.length+n<10000) (q: ∀v g',Mk R h g' m (lE M n) X->Q v g'):WM (ag P0 d) (.ref m) 126943688418675 [.int n] g g Q:=by
 refine H.x.elim λL zq1=>?_;refine kE (zq1.1▸lN zq1.2.1.fb rfl rfl:nA P0 g (.ref m) 126943688418675=Qa (169,[.ref m])) (kN (K:=2) hd (Qa (.ref m)::Qa (.int n)::nn 6) pU rfl λd' h'=>?_);have e1:=S9 (n:=n) (d:=d') (JK (J5 h')) zq1.2.1 (Jl (JK hl) (Jw _ _));rw[zq1.1] at e1;exact(PY h' H hl).elim λv a=>a.elim λg' b=>kC (.p (e1)<| .p (b.1)<| .z (q v g' b.2)) rfl
end
section
variable {h0:MH}
def kA (i:Nat):List Nat:=F5 [121,101,115] [108,101,97,115,116] [99,111,117,110,116] [99,104,97,110,99,101] [108,105,107,101,108,121] i
abbrev Iv:Nat:=1851878757
theorem zer (hi:i<5) (q:Q (.str (kA i)) h):WA P0 (.ai (112+i)) Iv h Q:=
 Dy (pD (C:=λi=>((P0.cf (112+i)).bind λc=>u3 P0 c Iv)=Qa (.str (kA i))) i hi rfl rfl rfl rfl rfl) q
def zd3 (hi:i<5) (hd:1<=d) (q:Q (.ai (112+i)) h):WF P0 d 105 [.str (kA i)] h Q:=by
 revert q
 refine pD (C:=λi=>Q (.ai (112+i)) h->WF P0 d 105 [.str (kA i)] h Q) i hi ?_ ?_ ?_ ?_ ?_<;>intro q
 ·exact lF (K:=0) hd (λ_=>by kernel_rfl) q
 ·exact lF (K:=0) hd (λ_=>by kernel_rfl) q
 ·exact lF (K:=0) hd (λ_=>by kernel_rfl) q
 ·exact lF (K:=0) hd (λ_=>by kernel_rfl) q
 ·exact lF (K:=0) hd (λ_=>by kernel_rfl) q
def lz (i:Nat):List ab:=F5 [.int 1,.int 1,.int 1] [.int 0,.int 1,.int 3] [.int 1,.int 1,.int 2] [.ba [.int 1,.int 4],.ba [.int 1,.int 3],.ba [.int 1,.int 2]] [.ba [.int 1,.int 2],.ba [.int 1,.int 3],.ba [.int 1,.int 1]] i
def jr (h:MH):Nat->MH
 |0=>h
 |n+1=>jr h n++ [ae.list (lz n)]
def xd (h:MH):List (ab×ab):= [(.str (kA 0),.ref (jr h 0).length),(.str (kA 1),.ref (jr h 1).length),(.str (kA 2),.ref (jr h 2).length),(.str (kA 3),.ref (jr h 3).length),(.str (kA 4),.ref (jr h 4).length)]
def P4 (h:MH) (n:Nat):(jr h n).length=h.length+n:=by
 induction n with
 |zero=>rfl
 |succ n ih=>exact yC.trans (congrArg (· +1) ih)
def zeT (h:MH) (x:ae):jr h 5++ [x]=h++ [.list (lz 0),.list (lz 1),.list (lz 2),.list (lz 3),.list (lz 4),x]:=by unfold jr jr jr jr jr jr;simp only[JD,Yb,qal]
def zeU (hi:i<5) (hd:1<=d) (q: ∀t a,h.length<=a->(h++t)[a]?=Qa (.list (lz i)) ->Q (.ref a) (h++t)):WF P0 d 138 [.str (kA i)] h Q:=by
 refine kN (K:=0) hd (Qa (.str (kA i))::nn 6) oM rfl λd' h'=>?_;have e2:Q (.ref (jr h i).length) (jr h 5++ [.dict (Qa 5) (xd h)]):=by
  rw[zeT,P4];exact q _ _ (Jo _ _) (oJ.trans (pD (C:=λi=>([ae.list (lz 0),.list (lz 1),.list (lz 2),.list (lz 3),.list (lz 4),.dict (Qa 5) (xd h)]:MH)[i]?=Qa (.list (lz i))) i hi rfl rfl rfl rfl rfl))
 exact kC (.c<| .v ((sd (ep:=Qa 5) (es:=xd h) ap (pD (C:=λi=>j5 (xd h) (.str (kA i))=Qe) i hi rfl rfl rfl rfl rfl) (pD (C:=λi=>j7 (xd h) (.str (kA i))=Qa (.ref (jr h i).length)) i hi rfl rfl rfl rfl rfl):lG (jr h 5++ [.dict (Qa 5) (xd h)]) (.ref (jr h 5).length) (.str (kA i))=Qa (.ref (jr h i).length)))<| .z (e2)) rfl
end
def cell (ns:List Int) (k:Nat):Int:=ns[k]?.getD 0
theorem zeX (z:Cx) (ns:List Int) (h:MH):jZ z (.bi 7103854) [.fl (ns.map .int)] h=Qa (.int ns.length,h):=W.eq (Dt (n:=ns.length) (by show Qa _=_;rw[Jp]) (ck _ _))
def RK (hd:1<=d) {i:Int} (hi:i=k) (q:Q (.int (cell ns k)) h):WF P0 d 137 [.fl (ns.map .int),.int i] h Q:=by
 subst hi;refine kN (K:=0) hd (Qa (.fl (ns.map .int))::Qa (.int k)::nn 6) qJ rfl λd' h'=>?_;by_cases hk:k<ns.length
 ·have e:cell ns k=ns[k]:=by unfold cell;rw[Jn hk];rfl
  exact kC (.q (zeX (ag P0 d') ns)<| .c<| .t (decide_eq_true (ZR.mpr hk))<| .v ((Wo.eq (zdp (Q:=λa _=>a= .int (cell ns k)) (v:=.int (cell ns k)) (by rw[JA,Jn hk,e];rfl) rfl):lG h (.fl (ns.map .int)) (.int k)=Qa (.int (cell ns k))))<| .z (q)) rfl
 ·have e:cell ns k=0:=by
   delta cell;rw[ZH (J7 hk)];rfl
  rw[e] at q;exact kC (.q (zeX (ag P0 d') ns)<| .c<| .f (decide_eq_false (λh=>hk (ZR.mp h)))<| .z (q)) rfl
def qW (x:Int) (hm:0<m): ∃n:Nat,n<m/\Y9 x m=n:=by
 have g1:=Int.fmod_nonneg_of_pos x (b:=m) (by lia);have g2:=Int.fmod_lt_of_pos x (b:=m) (by lia);exact⟨(Y9 x m).toNat,by lia,by lia⟩
section
variable {h0:MH}
structure RL (R:Rg) (ws:List R.α):Prop where
 ne:R.da≠R.zero
 len:ws.length=3
 dg: ∀w∈ws,R.D 1 1 w/\w≠R.zero
 e:lz R.i=ws.map R.e
def fz:List (List Nat):= [[97],[98],[]]
structure rn (us:List (List Nat)) (n k:Nat) (M:Mc R.α):Prop where
 len:M.aa.length=n
 aj: ∀e∈M.aj,R.D 1 1 e
 fk: ∀ (s:Nat) (ys:List (Ar R.α)),M.aa[s]?=Qa ys-> ∀a∈ys,a.t<n/\dh a.up/\dh a.lo/\R.D 1 1 a.w/\a.w≠R.zero/\(a.fh=Qe->s<a.t)/\a.up∈us/\a.lo∈fz
 ct:M.ax<=k
def rn.kf (P:rn us n k M) (hs:s<n) (ha:a.t<n/\dh a.up/\dh a.lo/\R.D 1 1 a.w/\a.w≠R.zero/\(a.fh=Qe->s<a.t)/\a.up∈us/\a.lo∈fz):rn us n (k+1) (M.fk s a):=by
 have hsl:s<M.aa.length:=by rw[P.len];exact hs
 refine⟨by show (qaW _ _ _).length=_;rw[J0];exact P.len,P.aj,λs' ys hy x hx=>?_,Zn P.ct⟩;have hy:(M.aa.set s (M.aa[s]?.getD []++ [a]))[s']?=Qa ys:=hy;by_cases e:s=s'
 ·subst e
  rw[JV hsl] at hy;obtain rfl:=Qa.inj hy;rcases Zd.mp hx with hx|hx
  ·rw[Jn hsl] at hx
   exact P.fk s _ (Jn hsl) x hx
  ·cases JE.mp hx;exact ha
 ·rw[JZ e] at hy
  exact P.fk s' ys hy x hx
structure ul (R:Rg) where
 g:MH
 M:Mc R.α
 a:Option ab:=Qd
 b:Option ab:=Qd
 c:Option ab:=Qd
 d:Option ab:=Qd
 e:Option ab:=Qd
 f:Option ab:=Qd
structure xq (R:Rg) where
 h:MH
 ns:List Int
 o:Nat
 aU:Nat
 us:List (List Nat)
 ws:List R.α
 n:Nat
 aW:Nat
structure cZ (X:xq R):Prop where
 Z:RL R X.ws
 hU:X.h[X.aU]?=Qa (.list (X.us.map .str))
 hu:X.us≠ []
 yw: ∀u∈X.us,dh u
 hn:0<X.n
 wg:X.n<=4
def se (X:xq R) (a b c d e f:Option ab):Internal.Frame:=Qa (.fl (X.ns.map .int))::Qa (.int X.o)::Qa (.ai (112+R.i))::Qa (.ref X.aU)::Qa (.bool Qb)::Qa (.ref X.h.length)::Qa (.int X.n)::Qa (.ref X.aW)::a::b::c::d::e::f::nn 6
structure pf (X:xq R) (k:Nat) (s:ul R):Prop where
 H:Mk R X.h s.g X.h.length s.M [(X.aW,.list (X.ws.map R.e))]
 P:rn X.us X.n k s.M
abbrev aC:List Sm:= [(Sm.fq (T1.nm 9) (Ex.call (Ex.lit (ab.ai 137)) [(Ex.var 0),(Ex.ez gn.add (Ex.ez gn.add (Ex.var 1) (Ex.lit (ab.int 2))) (Ex.var 8))])),(Sm.fq (T1.nm 10) (Ex.ez gn.mod (Ex.var 9) (Ex.var 6))),(Sm.fq (T1.nm 11) (Ex.ez gn.mod (Ex.ez gn.fdiv (Ex.var 9) (Ex.lit (ab.int 4))) (Ex.var 6))),(Sm.fq (T1.nm 12) (Ex.sub (Ex.var 3) (Ex.ez gn.mod (Ex.ez gn.fdiv (Ex.var 9) (Ex.lit (ab.int 16))) (Ex.call (Ex.lit (ab.bi 7103854)) [(Ex.var 3)])))),(Sm.fq (T1.nm 13) (Ex.sub (Ex.list [(Ex.lit (ab.str [97])),(Ex.lit (ab.str [98])),(Ex.lit (ab.str []))]) (Ex.ez gn.mod (Ex.ez gn.fdiv (Ex.var 9) (Ex.lit (ab.int 48))) (Ex.lit (ab.int 3))))),(Sm.fq (T1.nm 11) (Ex.call (Ex.lit (ab.bi 7168376)) [(Ex.var 11),(Ex.ez gn.mul (Ex.ez gn.add (Ex.var 10) (Ex.lit (ab.int 1))) (Ex.qh Qe [(Ex.ew rq.eq (Ex.ez gn.add (Ex.var 12) (Ex.var 13)) (Ex.lit (ab.str []))),(Ex.var 4)]))])),(Sm.ite (Ex.ew rq.lt (Ex.var 11) (Ex.var 6)) [(Sm.expr (Ex.bh (Ex.var 5) 6386275 [(Ex.var 10),(Ex.var 12),(Ex.var 13),(Ex.sub (Ex.var 7) (Ex.ez gn.mod (Ex.ez gn.fdiv (Ex.var 9) (Ex.lit (ab.int 144))) (Ex.lit (ab.int 3)))),(Ex.var 11)]))] [])]
def i5 {u:Nat} (h:u<3): ∃lo,([ab.str [97],.str [98],.str []]:List ab)[u]?=Qa (.str lo)/\dh lo/\lo∈fz:=by
 rcases u with _|_|_|u
 ·exact⟨[97],rfl,.inr ⟨97,rfl,by decide+kernel⟩,.head _⟩
 ·exact⟨[98],rfl,.inr ⟨98,rfl,by decide+kernel⟩,.tail _ (.head _)⟩
 ·exact⟨[],rfl,.inl rfl,.tail _ (.tail _ (.head _))⟩
 ·exact absurd h (ZU.mpr (Jw _ _))
abbrev b7:List Sm:= [(Sm.ite (Ex.ew rq.lt (Ex.var 11) (Ex.var 6)) [(Sm.expr (Ex.bh (Ex.var 5) 6386275 [(Ex.var 10),(Ex.var 12),(Ex.var 13),(Ex.sub (Ex.var 7) (Ex.ez gn.mod (Ex.ez gn.fdiv (Ex.var 9) (Ex.lit (ab.int 144))) (Ex.lit (ab.int 3)))),(Ex.var 11)]))] [])]
theorem rN (hd:1<=d) (ns:List Int) (k:Nat) (h:MH):jZ (ag P0 d) (.ai 137) [.fl (ns.map .int),.int k] h=Qa (.int (cell ns k),h):=fn rfl (RK (d:=d) (k:=k) hd rfl ⟨rfl,rfl⟩)
theorem eL {a b:List Nat} (ha:a.length<=1) (hb:b.length<=1) (h:MH):pE .add (.str a) (.str b) h=Qa (.str (a++b),h):=W.eq (Ov (Jl (JG ha hb) (by decide)) ⟨rfl,rfl⟩)
theorem Rc {l:List Nat} (h:dh l):l.length<=1:=h.elim (λe=>e▸Jy _) λ⟨_,e,_⟩=>e▸Jv _
theorem zfa {a b:Int}{r:Nat} (e:(if b>a then b else a)=(r:Int)) (z:Cx) (h:MH):jZ z (.bi Pq) [.int a,.int b] h=Qa (.int r,h):=W.eq (zay ⟨by rw[e],rfl⟩)
def zif {t:Nat}{b:Bool} (hb:b=Qe):(if ((s:Int)+1)*(if b=Qe then 1 else 0)>(t:Int) then((s:Int)+1)*(if b=Qe then 1 else 0) else(t:Int))=((max t (s+1):Nat):Int):=by
 rw[if_pos hb,Int.mul_one]
 split<;>lia
def zig {t:Nat}:(if ((s:Int)+1)*(if Qb=Qe then 1 else 0)>(t:Int) then((s:Int)+1)*(if Qb=Qe then 1 else 0) else(t:Int))=(t:Int):=by
 rw[if_neg Za,Int.mul_zero]
 split<;>lia
section
variable {X:xq R} (C:cZ X)
include C
theorem zaR (H:Mk R X.h g X.h.length M [(X.aW,.list (X.ws.map R.e))]) (x:Int): ∃i:Nat,Y9 x 3=i/\∃w,lG g (.ref X.aW) (.int i)=Qa (R.e w)/\R.D 1 1 w/\w≠R.zero:=
 (qW x (show 0<3 by decide)).elim λi q=>by
  have hi:i<X.ws.length:=by rw[C.Z.len];exact q.1
  exact⟨i,q.2,X.ws[i],sl (H.ob (.head _)) (by rw[JA,Jn hi];rfl),C.Z.dg _ (Zo hi)⟩
def zcd {T:Nat}{x:Int}{up lo:List Nat}{s:ul R} (hd:5<=d) (hu:up∈X.us) (l1:dh up) (l2:dh lo/\lo∈fz) (hs:sc<X.n) (hk:k<8) (hT:(up++lo== [])=Qe->sc<T)
  (I:pf X k s) (q: ∀s',pf X (k+1) s'->R' .nx (se X (vN k) (Qa (.int x)) (vN sc) (vN T) (Qa (.str up)) (Qa (.str lo))) s'.g):
  cq (ag P0 d) b7 (se X (vN k) (Qa (.int x)) (vN sc) (vN T) (Qa (.str up)) (Qa (.str lo))) s.g R':=by
 cases (inferInstance:Decidable ((T:Int)<(X.n:Int))) with
 |isTrue hlt=>
  refine(zaR C I.H (qap x 144)).elim λwi a=>a.2.elim λw b=>?_;refine xEEAA (W.get (I9 (d:=d) (Q:=λv g=>v= .none/\∃M',pf X (k+1) ⟨g,M',Qd,Qd,Qd,Qd,Qd,Qd⟩) (s:=sc) (a:=⟨up,lo,w,T⟩) (Jl (by decide) hd) I.H (by rw[I.P.len];exact hs) (by rw[I.P.len];exact(ZR.mp hlt:T<X.n)) l1 l2.1 b.2.1 (by decide) (Jt I.P.ct (Zx hk (by decide))) λg' M' H' _ e=>⟨rfl,M',H',e b.2.2▸I.P.kf hs ⟨(ZR.mp hlt:T<X.n),l1,l2.1,b.2.1,b.2.2,λhe=>hT (by rw[show up= [] from(pM he).1,show lo= [] from(pM he).2];rfl),hu,l2.2⟩⟩)) λv g e cv gq=>?_;refine xE gq λM' q'=>?_;refine eqE cv ?_;exact kC (.c<| .t (decide_eq_true hlt)<| .c<| .q (qF a.1 (by decide))<| .v (b.1)<| .p (e)<| .z (q _ q')) (by kernel_rfl)
 |isFalse hlt=>exact kC (.c<| .f (decide_eq_false hlt)<| .z (q s ⟨I.H,I.P.len,I.P.aj,I.P.fk,Zh I.P.ct⟩)) rfl
theorem SB (x:Int): ∃i:Nat,i<X.n/\Y9 x X.n=i:=qW x C.hn
theorem Pp:(X.n:Int)≠0:=λe=>absurd (KL.mp e▸C.hn) (Zb _)
theorem zdy (x:Int): ∃i:Nat,Y9 x X.us.length=i/\∃up,(X.us.map ab.str)[i]?=Qa (.str up)/\up∈X.us:=
 (qW x (qaF.mpr C.hu)).elim λi q=>⟨i,q.2,X.us[i]'q.1,by rw[JA,Jn q.1];rfl,Zo q.1⟩
theorem Sr:(X.us.length:Int)≠0:=λe=>absurd (KL.mp e▸qaF.mpr C.hu) (Zb _)
def d8 {z:Cx} (e:g[X.aU]?=Qa (.list (X.us.map .str))):jZ z (.bi vE) [.ref X.aU] g=Qa (.int X.us.length,g):=by rw[FT e,Jp]
abbrev l3:ae:= .list [.str [97],.str [98],.str []]
def zce {s:ul R} (hd:5<=d) (hk:k<8) (I:pf X k s) (q: ∀s',pf X (k+1) s'->R' .nx (se X (vN k) s'.b s'.c s'.d s'.e s'.f) s'.g):
  cq (ag P0 d) aC (se X (vN k) s.b s.c s.d s.e s.f) s.g R':=by
 refine(SB C (cell X.ns (X.o+2+k))).elim λsc a=>(SB C (qap (cell X.ns (X.o+2+k)) 4)).elim λtg b=>(zdy C (qap (cell X.ns (X.o+2+k)) 16)).elim λui c=>c.2.elim λup cc=>(qW (qap (cell X.ns (X.o+2+k)) 48) (show 0<3 by decide)).elim λli e=>(i5 e.1).elim λlo f=>?_;have I1:pf X k {s with g:=s.g++ [l3]}:=⟨I.H.more,I.P⟩;have g3:lG (s.g++ [l3]) (.ref s.g.length) (.int li)=Qa (.str lo):=sl ap f.1;have tail: ∀T:Nat,((up++lo== [])=Qe->sc<T) ->cq (ag P0 d) b7 (se X (vN k) (Qa (.int (cell X.ns (X.o+2+k)))) (vN sc) (vN T) (Qa (.str up)) (Qa (.str lo))) (s.g++ [l3]) R':=λT hT=>by
  have:=zcd (R':=R') (x:=cell X.ns (X.o+2+k)) C (s:={s with g:=s.g++ [l3]}) (T:=T) hd cc.2 (C.yw up cc.2) f.2 a.1 hk hT I1
  exact this λs' I'=>q {s' with b:=Qa (.int (cell X.ns (X.o+2+k))),c:=vN sc,d:=vN T,e:=Qa (.str up),f:=Qa (.str lo)} ⟨I'.H,I'.P⟩
 refine oQ (a:=aC.take 6) (b:=b7) ?_;refine xO (up++lo== []) (λhe=>?_) λhe=>?_
 ·exact kC (.c2<| .q (rN (Jl (by decide) hd:1<=d) X.ns (X.o+2+k))<| .q (qF a.2 (Pp C))<| .c<| .q (qF b.2 (Pp C))<| .c<| .p (d8 C (z:=ag P0 d) (I.H.up C.hU))<| .q (qF c.1 (Sr C))<| .v (sl (I.H.up C.hU) cc.1)<| .at ((s.g++ [l3]))<| .c<| .q (qF e.2 (by decide))<| .v (g3)<| .c<| .q (eL (Rc (C.yw up cc.2)) (Rc f.2.1))<| .k (xo (up++lo) [])<| .t (he)<| .c<| .q (zfa (zif (s:=sc) (t:=tg) he) (ag P0 d))<| .z (oH (tail (max tg (sc+1)) λ_=>Js (JT _) (Nat.le_max_right _ _)))) (by kernel_rfl)
 ·exact kC (.c2<| .q (rN (Jl (by decide) hd:1<=d) X.ns (X.o+2+k))<| .q (qF a.2 (Pp C))<| .c<| .q (qF b.2 (Pp C))<| .c<| .p (d8 C (z:=ag P0 d) (I.H.up C.hU))<| .q (qF c.1 (Sr C))<| .v (sl (I.H.up C.hU) cc.1)<| .at ((s.g++ [l3]))<| .c<| .q (qF e.2 (by decide))<| .v (g3)<| .c<| .q (eL (Rc (C.yw up cc.2)) (Rc f.2.1))<| .k (xo (up++lo) [])<| .f (he)<| .c<| .q (zfa (zig (s:=sc) (t:=tg)) (ag P0 d))<| .z (oH (tail tg λe=>absurd (e.symm.trans he) JH))) (by kernel_rfl)
end
end
section
variable {h0:MH}
def Mk.cK {a:Nat}{t:MH} (H:Mk R h g m M X) (ha:g.length<=a) (e:(g++t)[a]?=Qa o):Mk R h (g++t) m M ((a,o)::X):=by
 refine H.x.elim λL0 zq20=>?_;refine⟨⟨L0,zq20.1,zq20.2.1.bz,zq20.2.2.1,λp hp=>?_⟩,H.more.pre⟩;rcases JM.mp hp with rfl|hp
 ·exact⟨e,λq=>absurd (zq20.2.1.qt q) (by show ¬a<_;exact Zz ha)⟩
 ·exact⟨jS (zq20.2.2.2 p hp).1,(zq20.2.2.2 p hp).2⟩
structure Lk (us:List (List Nat)) (nm cm:Nat) (M:Mc R.α):Prop where
 g:kQ M 1 1
 up:ny M
 n:M.aa.length<=nm
 c:M.ax<=cm
 us: ∀ys∈M.aa,∀a∈ys,a.up∈us/\a.lo∈fz
abbrev zN (us:List (List Nat)) (M:Mc R.α):Prop:=Lk us 4 7 M
theorem Lk.to (Z:zN us M):Lk us 9 16 M:=⟨Z.g,Z.up,Jl Z.n (by decide),Jl Z.c (by decide),Z.us⟩
def I6:rn us n 0 (lE (M0 (R:=R)) n):=by
 have e:(lE (M0 (R:=R)) n).aa=JL n []/\(lE (M0 (R:=R)) n).aj=JL n R.zero/\(lE (M0 (R:=R)) n).ax=0:=by
  induction n with
  |zero=>exact⟨rfl,rfl,rfl⟩
  |succ n ih=>
   refine⟨?_,?_,ih.2.2⟩
   ·show _++ [[]]=_;rw[ih.1,<-KA]
   ·show _++ [R.zero]=_;rw[ih.2.1,<-KA]
 refine⟨by rw[e.1,Zu],λx hx=>?_,λs ys hy a ha=>?_,by rw[e.2.2];exact Jv _⟩
 ·rw[e.2.1] at hx
  rw[Zk hx];exact R.ah (Jy _) (Jy _) R.bt
 ·rw[e.1] at hy
  rw[Zk (Jq hy)] at ha;exact absurd ha JB
theorem rn.end' (P:rn us n k M) (hw:R.D 1 1 w):rn us n k {M with aj:=M.aj.set s w}:=⟨P.len,λe he=>(Km he).elim (P.aj e) λq=>q▸hw,P.fk,P.ct⟩
def rn.ok (P:rn us n k M) (hn:0<n) (wg:n<=4) (hk:k<=7) (hw:R.D 1 1 w):zN us {M with start:=0,first:=w}:=by
 have hc:=P.ct;have at': ∀ys∈M.aa,∃s,M.aa[s]?=Qa ys:=λys hy=>YU.mp hy;refine⟨⟨by show 0<M.aa.length;rw[P.len];exact hn,λys hy a ha=>?_,hw,P.aj,by decide,by show M.aa.length<=300;rw[P.len];exact Jl wg (Jw _ _),by show M.ax<=300;exact Jl (Jl hc hk) (Jw _ _)⟩,λs ys hy a ha he=>(P.fk s ys hy a ha).2.2.2.2.2.1 he,by show M.aa.length<=4;rw[P.len];exact wg,by show M.ax<=7;exact Jl hc hk,λys hy a ha=>?_⟩
 ·obtain⟨s,hs⟩:=at' ys hy
  have zq18:=P.fk s ys hs a ha;exact⟨by show a.t<M.aa.length;rw[P.len];exact zq18.1,zq18.2.1,zq18.2.2.1,zq18.2.2.2.1,zq18.2.2.2.2.1⟩
 ·obtain⟨s,hs⟩:=at' ys hy
  exact(P.fk s ys hs a ha).2.2.2.2.2.2
abbrev d0:List Sm:= [(Sm.expr (Ex.bh (Ex.var 5) 422608071022 [(Ex.lit (ab.int 0)),(Ex.sub (Ex.var 7) (Ex.ez gn.mod (Ex.call (Ex.lit (ab.ai 137)) [(Ex.var 0),(Ex.ez gn.add (Ex.var 1) (Ex.lit (ab.int 10)))]) (Ex.lit (ab.int 3))))])),(Sm.ret (Ex.var 5))]
theorem cA (R:Rg) (h:MH):getAttr P0 h (.ai (112+R.i)) Iv=Qa (.str (kA R.i)):=Wo.eq (zer (Q:=λv _=>v=_) R.hi rfl)
def zeV (R:Rg) (hd:1<=d): ∃t,∃a:Nat,jZ (ag P0 d) (.ai 138) [.str (kA R.i)] h=Qa (.ref a,h++t)/\h.length<=a/\(h++t)[a]?=Qa (.list (lz R.i)):=by
 refine xEEA (W.get (mJ (P:=P0) (d:=d) rfl (zeU (h:=h) (Q:=λv g=> ∃t a,v= .ref a/\g=h++t/\h.length<=a/\(h++t)[a]?=Qa (.list (lz R.i))) R.hi hd λt a h1 h2=>⟨t,a,rfl,rfl,h1,h2⟩))) λv g e cv=>?_;refine xEEAA cv λt a gq mu q=>?_;subst gq;subst mu;exact⟨t,a,e,q⟩
def zcf {ws:List R.α} (hd:4<=d) (Z:RL R ws) (hn:n<=4): ∃g0:MH,jZ (ag P0 d) (.ai 121) [.ai (112+R.i)] h=Qa (.ref h.length,g0)/\∃v,∃g1:MH,kP (ag P0 d) (.ref h.length) 126943688418675 [.int n] g0 g0=Qa (v,g1)/\∃aW:Nat,∃s:ul R,jZ (ag P0 d) (.ai 138) [.str (kA R.i)] g1=Qa (.ref aW,s.g)/\Mk R h s.g h.length s.M [(aW,.list (ws.map R.e))]/\rn us n 0 s.M:=by
 refine(W.get (D4 (h:=h) (R:=R) (d:=d) (Q:=λv g=>v= .ref h.length/\Mk R h g h.length M0 []) (Jl (by decide) hd) λg H=>⟨rfl,H⟩)).elim λv zq11=>zq11.elim λg0 zq12=>?_;obtain rfl:=zq12.2.1;have H:=zq12.2.2;refine(W.get (UK (n:=n) (d:=d) (Q:=λv g=>Mk R h g h.length (lE (M0 (R:=R)) n) []) (Jl (by decide) hd) H (by show 0+n<10000;exact Jt (by rw[ZM];exact hn) (by decide)) λv g H=>H)).elim λv zq9=>zq9.elim λg1 zq10=>?_;refine(zeV (h:=g1) R (d:=d) (Jl (by decide) hd)).elim λt zq7=>zq7.elim λaW zq8=>?_;exact⟨g0,zq12.1,v,g1,zq10.1,aW,⟨g1++t,_,Qd,Qd,Qd,Qd,Qd,Qd⟩,zq8.1,zq10.2.cK zq8.2.1 (Z.e▸zq8.2.2),I6⟩
section
variable {X:xq R} (C:cZ X)
include C
def Ml {s:ul R}{a b c e f o:Option ab} (hd:5<=d) (hk:k<=7) (I:pf X k s) (q: ∀g M,Mk R X.h g X.h.length M []->zN X.us M->Q (.ref X.h.length) g):cq (ag P0 d) d0 (se X a b c e f o) s.g (Internal.Fin Q):=by
 refine(zaR C I.H (cell X.ns (X.o+10))).elim λi u=>u.2.elim λw v=>?_;refine(W.get (Hn (d:=d) (s:=0) (Q:=λv g=>v= .none/\Mk R X.h g X.h.length {s.M with start:=0,first:=w} [(X.aW,.list (X.ws.map R.e))]) (Jl (by decide) hd) I.H (by rw[I.P.len];exact C.hn) v.2.1 (by decide) λg H=>⟨rfl,H⟩)).elim λv' zq5=>zq5.elim λg5 zq6=>?_;obtain rfl:=zq6.2.1;exact kC (.c<| .q (rN (d:=d) (Jl (by decide) hd) X.ns (X.o+10))<| .q (qF u.1 (by decide))<| .v (v.1)<| .p (zq6.1)<| .z (q g5 _ zq6.2.2.drop (I.P.ok C.hn C.wg hk v.2.1))) (by kernel_rfl)
abbrev i6:List Sm:=(kL.drop 5).take 2
def zch {s:ul R} (hd:5<=d) (hk:k<=7) (I:pf X k s) (q: ∀g M,Mk R X.h g X.h.length M []->zN X.us M->Q (.ref X.h.length) g):cq (ag P0 d) (kL.drop 5) (se X s.a s.b s.c s.d s.e s.f) s.g (Internal.Fin Q):=by
 have d1:1<=d:=Jl (by decide) hd;refine(zaR C I.H (cell X.ns (X.o+9))).elim λi u=>u.2.elim λw v=>(qW (cell X.ns (X.o+9)) (show 0<2 by decide)).elim λr y=>?_;refine xEEAA (W.get (I8 (d:=d) (s:=X.n-1) (Q:=λv g=>v= .none/\Mk R X.h g X.h.length {s.M with aj:=s.M.aj.set (X.n-1) w} [(X.aW,.list (X.ws.map R.e))]) (Jl (by decide) hd) I.H (by rw[I.P.len];exact YF C.hn qa4) v.2.1 (by decide) λg H=>⟨rfl,H⟩)) λv1 g4 e4 cv H4=>?_;subst cv;have I4:pf X k {s with g:=g4,M:= {s.M with aj:=s.M.aj.set (X.n-1) w} }:=⟨H4,I.P.end' v.2.1⟩;have eN:pE .sub (.int X.n) (.int 1) s.g=Qa (.int (X.n-1:Nat),s.g):=by
  show Qa (ab.int ((X.n:Int) -1),s.g)=_;rw[show (X.n:Int) -1=((X.n-1:Nat):Int) by have:=C.hn;lia]
 refine oQ (a:=i6) (b:=d0) ?_;cases (inferInstance:Decidable ((r:Int)=1)) with
 |isFalse hr=>exact kC (.p (eN)<| .c<| .q (rN d1 X.ns (X.o+9))<| .q (qF u.1 (by decide))<| .v (v.1)<| .p (e4)<| .c<| .q (rN d1 X.ns (X.o+9))<| .q (qF y.2 (by decide))<| .k (uc r 1)<| .f (beq_false_of_ne hr)<| .z (oH (Ml C (a:=s.a) (b:=s.b) (c:=s.c) (e:=s.d) (f:=s.e) (o:=s.f) hd hk I4 q))) (by kernel_rfl)
 |isTrue hr=>
  refine(W.get (PW (d:=d) (s:=0) (Q:=λv g=>v= .none/\Mk R X.h g X.h.length {s.M with aj:=(s.M.aj.set (X.n-1) w).set 0 R.da} [(X.aW,.list (X.ws.map R.e))]) (Jl (by decide) hd) I4.H (by show 0<s.M.aa.length;rw[I.P.len];exact C.hn) λg H=>⟨rfl,H⟩)).elim λv2 zq1=>zq1.elim λg5 zq2=>?_;obtain rfl:=zq2.2.1;have I5:pf X k {s with g:=g5,M:= {s.M with aj:=(s.M.aj.set (X.n-1) w).set 0 R.da} }:=⟨zq2.2.2,(I.P.end' (s:=X.n-1) v.2.1).end' (s:=0) (R.ah (Jy _) (Jy _) R.gd)⟩;exact kC (.p (eN)<| .c<| .q (rN d1 X.ns (X.o+9))<| .q (qF u.1 (by decide))<| .v (v.1)<| .p (e4)<| .c<| .q (rN d1 X.ns (X.o+9))<| .q (qF y.2 (by decide))<| .k (uc r 1)<| .t (beq_iff_eq.mpr hr)<| .p (zq2.1)<| .z (oH (Ml C (a:=s.a) (b:=s.b) (c:=s.c) (e:=s.d) (f:=s.e) (o:=s.f) hd hk I5 q))) (by kernel_rfl)
abbrev d4:Ex:= .call (.lit (.ty 491260897125)) [.ez .add (.lit (.int 2)) (.ez .mod (.call (.lit (.ai 137)) [.var 0,.ez .add (.var 1) (.lit (.int 1))]) (.lit (.int 6)))]
def zcg {s:ul R} (hd:5<=d) (I:pf X 0 s): ∃k s',k<=7/\pf X k s'/\exec (ag P0 d) (.fo [8] Qb d4 aC) (se X s.a s.b s.c s.d s.e s.f) s.g=Qa ((.nx,se X s'.a s'.b s'.c s'.d s'.e s'.f),s'.g):=by
 refine(qW (cell X.ns (X.o+1)) (show 0<6 by decide)).elim λk0 y=>?_;have hk:2+k0<=7:=Jr (JN y.1) 2;refine(kh (c:=ag P0 d) (x:=8) (n:=2+k0) (e:=d4) (b:=aC) (λs:ul R=>se X s.a s.b s.c s.d s.e s.f) ul.g (λk s=>pf X k s) s (Jl hk (by decide)) rfl (by exact kJ (.c<| .q (rN (d:=d) (Jl (by decide) hd) X.ns (X.o+1))<| .q (qF y.2 (by decide))<| .c2<| .z (ck (.fy (2+k0:Nat)) s.g)) (by kernel_rfl)) I λk s R1 _ hk' I1 C1=>zce C hd (Js hk' (Jl hk (by decide))) I1 λs' I'=>C1.nx {s' with a:=vN k} ⟨I'.H,I'.P⟩).elim λs' q=>⟨2+k0,s',hk,q⟩
end
def zeW {at':Nat}{ws:List R.α} (hd:6<=d) (Z:RL R ws) (hU:h[aU]?=Qa (.list (us.map .str))) (hu:us≠ []) (yw: ∀u∈us,dh u)
  (q: ∀g M,Mk R h g h.length M []->zN us M->Q (.ref h.length) g):WF P0 d 139 [.fl (ns.map .int),.int at',.ai (112+R.i),.ref aU,.bool Qb] h Q:=by
 refine kN (K:=5) hd (Qa (.fl (ns.map .int))::Qa (.int at')::Qa (.ai (112+R.i))::Qa (.ref aU)::Qa (.bool Qb)::nn 15) kL rfl λd' h'=>?_;refine(qW (cell ns at') (show 0<4 by decide)).elim λn0 y=>?_;have wg:1+n0<=4:=Jr (JN y.1) 1;refine(zcf (d:=d') (h:=h) (us:=us) (Jl (by decide) h') Z wg).elim λg0 a=>a.2.elim λv b=>b.elim λg1 c=>c.2.elim λaW e=>e.elim λs f=>?_;have C:cZ (⟨h,ns,at',aU,us,ws,1+n0,aW⟩:xq R):=⟨Z,hU,hu,yw,Js qa4 (Jo _ _),wg⟩;exact(zcg C (d:=d') (s:={s with a:=Qd,b:=Qd,c:=Qd,d:=Qd,e:=Qd,f:=Qd}) h' ⟨f.2.1,f.2.2⟩).elim λk z=>z.elim λs' w=>oQ (a:=kL.take 5) (b:=kL.drop 5) (kC (.p (a.1)<| .q (rN (d:=d') (Jl (by decide) h') ns at')<| .q (qF y.2 (by decide))<| .c<| .p (c.1)<| .w (cA R)<| .p (f.1)<| .s (w.2.2)<| .z (oH (zch C h' w.1 w.2.1 q))) (by kernel_rfl))
end
variable {M1:Mc R.α}{L1:Ly}
section
variable {h0:MH}
def NX (k:Nat) (a:Ar R.α):Ar R.α:= {a with t:=a.t+k}
structure Ma (N c:Nat) (A:Nat->List (Ar R.α)) (es:List R.α) (M:Mc R.α):Prop where
 len:M.aa.length=N
 at': ∀s,s<N->az M s=A s
 ct:M.ax<=c
 es:M.aj=es
 st:M.start=0
 fi:M.first=R.da
def yR (A:Nat->List (Ar R.α)) (s:Nat) (a:Ar R.α):Nat->List (Ar R.α):=λs'=>if s=s' then A s++ @ite _ (a.w=R.zero) (R.ft _ _) [] [a] else A s'
def Ma.kf {N:Nat}{A:Nat->List (Ar R.α)}{es:List R.α}{M':Mc R.α} (H:Ma N c A es M) (hs:s<N) (h1:a.w=R.zero->M'=M) (h2:a.w≠R.zero->M'=M.fk s a):Ma N (c+1) (yR A s a) es M':=by
 by_cases hz:a.w=R.zero
 ·rw[h1 hz]
  refine⟨H.len,λs' hs'=>?_,Zh H.ct,H.es,H.st,H.fi⟩;delta yR;by_cases e:s=s'
  ·refine eqE e ?_
   rw[if_pos rfl,if_pos hz,Zm];exact H.at' s hs
  ·rw[if_neg e];exact H.at' s' hs'
 ·rw[h2 hz]
  refine⟨by show (qaW _ _ _).length=_;rw[J0];exact H.len,λs' hs'=>?_,Zn H.ct,H.es,H.st,H.fi⟩;delta yR;show (M.aa.set s (M.aa[s]?.getD []++ [a]))[s']?.getD []=_;by_cases e:s=s'
  ·refine eqE e ?_
   rw[JV (by rw[H.len];exact hs:s<M.aa.length),if_pos rfl,if_neg hz,<-H.at' s hs];rfl
  ·rw[JZ e,if_neg e];exact H.at' s' hs'
def nO (A:Nat->List (Ar R.α)) (M1:Mc R.α) (k i j:Nat):Nat->List (Ar R.α):=λs=>A s++if k<=s then(sG M1 i j (s-k)).map (NX k) else[]
theorem Bw {A:Nat->List (Ar R.α)}:nO A M1 k 0 0=A:=funext λs=>by
 delta nO;have e:sG M1 0 0 (s-k)= []:=by
  delta sG;rw[if_neg (Ze _)];by_cases h:s-k=0
  ·exact(if_pos h)
  ·exact(if_neg h)
 rw[e];by_cases h:k<=s
 ·rw[if_pos h];exact Zm _
 ·rw[if_neg h];exact Zm _
theorem Bz {A:Nat->List (Ar R.α)}:nO A M1 k i (az M1 i).length=nO A M1 k (i+1) 0:=funext λs=>by
 delta nO
 congr 2
 congr 1
 delta sG;by_cases h1:s-k<i
 ·rw[if_pos h1,if_pos (Zy h1)]
 ·rw[if_neg h1]
  by_cases h2:s-k=i
  ·rw[if_pos h2,if_pos (JQ (Jx h2)),h2,Zc]
  ·rw[if_neg h2,if_neg (Zz (JY (J8 (J7 h1) (Ka h2))))]
   by_cases h3:s-k=i+1
   ·rw[if_pos h3];rfl
   ·rw[if_neg h3]
theorem Bx {A:Nat->List (Ar R.α)} (ha:(az M1 i)[j]?=Qa a) (hz:a.w≠R.zero):nO A M1 k i (j+1)=yR (nO A M1 k i j) (i+k) (NX k a):=funext λs=>by
 have hz': ¬(NX k a).w=R.zero:=hz;delta yR;by_cases e:i+k=s
 ·subst e
  rw[if_pos rfl,if_neg hz'];delta nO;simp only[if_pos (Jw _ _),if_pos (Jw _ _),Nat.add_sub_cancel,xW,xW,zR ha,JU,JD];rfl
 ·rw[if_neg e]
  delta nO;by_cases hk:k<=s
  ·rw[if_pos hk,if_pos hk]
   congr 2
   delta sG;by_cases h1:s-k<i
   ·rw[if_pos h1,if_pos h1]
   ·rw[if_neg h1,if_neg h1,if_neg (by lia),if_neg (by lia)]
  ·rw[if_neg hk,if_neg hk]
structure y8 (R:Rg) where
 g:MH
 M:Mc R.α
 a:Option ab:=Qd
 b:Option ab:=Qd
structure VL (R:Rg) (h:MH) (m:Nat) (X:List (Nat×ae)) (N c:Nat) (A:Nat->List (Ar R.α)) (es:List R.α) (s:y8 R):Prop where
 H:Mk R h s.g m s.M X
 P:Ma N c A es s.M
def atF (m m1 k:Nat) (a b:Option ab):Internal.Frame:=Qa (.ref m)::Qa (.ref m1)::Qa (.int k)::a::b::nn 6
abbrev atA:List Sm:= [.expr (.bh (.var 0) 6386275 [.ez .add (.var 3) (.var 2),.aq (.var 4) 504397587826,.aq (.var 4) 465726563698,.aq (.var 4) 131277443786868,.ez .add (.aq (.var 4) 127961880028532) (.var 2)])]
def mkA {q0 N:Nat}{A:Nat->List (Ar R.α)}{es:List R.α}{s0:y8 R} (hd:4<=d) (S:VL R h m X N c A es s0) (hs:s<N) (ht:a.t<N) (lu:dh a.up) (ll:dh a.lo) (hw:R.D p q0 a.w) (hl:4*p+q0<=3800) (hc:c<100000):
  ∃s':y8 R,kP (ag P0 d) (.ref m) Mt [.int s,.str a.up,.str a.lo,R.e a.w,.int a.t] s0.g s0.g=Qa (.none,s'.g)/\VL R h m X N (c+1) (yR A s a) es s':=by
 refine(W.get (I9 (Q:=λv g=>v= .none/\∃M',VL R h m X N (c+1) (yR A s a) es ⟨g,M',Qd,Qd⟩) hd S.H (by rw[S.P.len];exact hs) (by rw[S.P.len];exact ht) lu ll hw hl (Jt S.P.ct hc) λg' M' H' h1 h2=>⟨rfl,M',H',S.P.kf hs h1 h2⟩)).elim λv zq1=>zq1.elim λg zq2=>?_;refine eqE zq2.2.1 ?_;refine zq2.2.2.elim λM' zq3=>?_;exact⟨_,zq2.1,zq3⟩
def Mk.im (H:Mk R h g m M X) (I:ak R h L M1):ak R g L M1:=by obtain⟨t,rfl⟩:=H.pre;exact I.bz
def zcN {q0 b N:Nat}{A:Nat->List (Ar R.α)}{es:List R.α}{s:y8 R} (hd:5<=d) (hb:h[b]?=Qa (mC R a)) (ga:a.t+k<N/\dh a.up/\dh a.lo/\R.D p q0 a.w/\a.w≠R.zero) (hl:4*p+q0<=3800) (hi:i+k<N) (hc:c<100000) (ha:(az M1 i)[j]?=Qa a) (S:VL R h m X N c (nO A M1 k i j) es s)
  (q: ∀s',VL R h m X N (c+1) (nO A M1 k i (j+1)) es s'->R' .nx (atF m L1.m k (vN i) s'.b) s'.g):cq (ag P0 d) atA (atF m L1.m k (vN i) (vR b)) s.g R':=by
 have hB:=S.H.up hb;refine(mkA (d:=d) (a:=NX k a) (Jl (by decide) hd) S hi ga.1 ga.2.1 ga.2.2.1 ga.2.2.2.1 hl hc).elim λs' e=>?_;have N:VL R h m X N (c+1) (nO A M1 k i (j+1)) es {s' with b:=vR b}:=by rw[Bx ha ga.2.2.2.2];exact⟨e.2.H,e.2.P⟩
 exact kC (.c<| .v (sg hB)<| .v (tu hB)<| .v (yz hB)<| .v (vd hB)<| .c<| .p (e.1)<| .z (q _ N)) (by kernel_rfl)
end
section
variable {h0:MH}
def zcO {q0 N:Nat}{A:Nat->List (Ar R.α)}{es:List R.α}{s:y8 R} (hd:5<=d) (I:ak R h L1 M1) (G:kQ M1 p q0) (hi:i<M1.aa.length) (hN:M1.aa.length+k<=N) (hc:c+(az M1 i).length<100000) (S:VL R h m X N c (nO A M1 k i 0) es s):
  ∃s',VL R h m X N (c+(az M1 i).length) (nO A M1 k (i+1) 0) es s'/\exec (ag P0 d) (.fo [4] Qb (.sub (.aq (.var 1) kI) (.var 3)) atA) (atF m L1.m k (vN i) s.b) s.g=Qa ((.nx,atF m L1.m k (vN i) s'.b),s'.g):=by
 refine(I.oq hi).elim λr zq12=>zq12.elim λas zq13=>?_;refine(qf (c:=ag P0 d) (tg:=[4]) (many:=Qb) (a:=r) (e:=.sub (.aq (.var 1) kI) (.var 3)) (b:=atA) (vs:=as.map .ref) (λs':y8 R=>atF m L1.m k (vN i) s'.b) y8.g (λj s'=>VL R h m X N (c+j) (nO A M1 k i j) es s') s (zq13.2.1.le I zq13.2.2) rfl (λj s' S2=>S2.H.up zq13.2.1.l) (by exact kJ (.v (nD (S.H.im I))<| .v (sl (S.H.im I).aa zq13.1)<| .z (ck (.ref r) s.g)) (by kernel_rfl)) S λj v s' R1 _ hv S2 C2=>?_).elim λs' e=>⟨s',by rw[<-Bz];exact zq13.2.1.n▸e.1,e.2⟩;refine(zq13.2.1.a j v hv).elim λb zq10=>zq10.elim λx zq11=>?_;refine eqB zq11.1 ?_;exact mL (zcN hd zq11.2.2 ⟨Js (K5 (G.fk _ zq13.2.2 x (Jq zq11.2.1)).1 k) hN,(G.fk _ zq13.2.2 x (Jq zq11.2.1)).2⟩ G.bd (Js (K5 hi k) hN) (Jt (Jr (JK (jY zq11.2.1)) c) hc) zq11.2.1 S2 C2.nx)
def yQ {q0 N:Nat}{A:Nat->List (Ar R.α)}{es:List R.α}{s:y8 R} (hd:6<=d) (I:ak R h L1 M1) (G:kQ M1 p q0) (S:VL R h m X N c A es s) (hN:M1.aa.length+k<=N) (hc:c+M1.ax<100000):
  ∃s':y8 R,jZ (ag P0 d) (.ai 122) [.ref m,.ref L1.m,.int k] s.g=Qa (.none,s'.g)/\VL R h m X N (c+M1.ax) (nO A M1 k M1.aa.length 0) es s':=by
 have w:WF P0 d 122 [.ref m,.ref L1.m,.int k] s.g λv g=>v= .none/\∃s':y8 R,g=s'.g/\VL R h m X N (c+M1.ax) (nO A M1 k M1.aa.length 0) es s':=by
  refine kN (K:=5) hd (Qa (.ref m)::Qa (.ref L1.m)::Qa (.int k)::nn 8) pT (by kernel_rfl) λd' h'=>?_;refine(kh (c:=ag P0 d') (x:=3) (n:=M1.aa.length) (e:=.call (.lit (.ty 491260897125)) [.bh (.var 1) rC []]) (b:=[.fo [4] Qb (.sub (.aq (.var 1) kI) (.var 3)) atA]) (λs:y8 R=>atF m L1.m k s.a s.b) y8.g (λi s=>VL R h m X N (c+nE M1 i) (nO A M1 k i 0) es s) ⟨s.g,s.M,Qd,Qd⟩ (GH I) rfl (by exact kJ (.p (mK (Jl (by decide) h') (S.H.im I))<| .c<| .z (ck (.fy M1.aa.length) s.g)) (by kernel_rfl)) (by rw[Bw];exact⟨S.H,S.P⟩) λi s R1 _ hi S1 C1=>?_).elim λs' e=>?_
  ·refine(zcO (d:=d') h' I G hi hN (Jt (by rw[J9,<-(tC (M:=M1) hi)];exact Jr (xH I _) c) hc) S1).elim λs' e=>?_
   have N':VL R h m X N (c+nE M1 (i+1)) (nO A M1 k (i+1) 0) es {s' with a:=vN i}:=by rw[(tC (M:=M1) hi),<-J9];exact⟨e.1.H,e.1.P⟩
   exact kC (.s (e.2)<| .z (C1.nx _ N')) (by kernel_rfl)
  ·exact kC (.s (e.2)<| .z ((show ab.none= .none/\∃s2:y8 R,s'.g=s2.g/\VL R h m X N (c+M1.ax) (nO A M1 k M1.aa.length 0) es s2 from⟨rfl,s',rfl,((by unfold nE;rw[Zc,I.ct]:nE M1 M1.aa.length=M1.ax)▸e.1:VL R h m X N (c+M1.ax) (nO A M1 k M1.aa.length 0) es s')⟩))) (by kernel_rfl)
 refine(W.get (mJ (P:=P0) rfl w)).elim λv zq7=>zq7.elim λg zq8=>?_;refine eqE zq8.2.1 ?_;refine zq8.2.2.elim λs' zq9=>?_;obtain rfl:=zq9.1;exact⟨s',zq8.1,zq9.2⟩
def D3:lE M.more n=lE M (n+1):=by
 induction n with
 |zero=>rfl
 |succ n ih=>show (lE M.more n).more=_;rw[ih];rfl
def Hm:Ma n 0 (λ_=> []) (JL n R.zero) (lE (M0 (R:=R)) n):=by
 have e:(lE (M0 (R:=R)) n).aa=JL n []/\(lE (M0 (R:=R)) n).aj=JL n R.zero/\(lE (M0 (R:=R)) n).ax=0/\(lE (M0 (R:=R)) n).start=0/\(lE (M0 (R:=R)) n).first=R.da:=by
  induction n with
  |zero=>exact⟨rfl,rfl,rfl,rfl,rfl⟩
  |succ n ih=>
   refine⟨?_,?_,ih.2.2.1,ih.2.2.2.1,ih.2.2.2.2⟩
   ·show _++ [[]]=_;rw[ih.1,<-KA]
   ·show _++ [R.zero]=_;rw[ih.2.1,<-KA]
 refine⟨by rw[e.1,Zu],λs hs=>?_,Jx e.2.2.1,e.2.1,e.2.2.2.1,e.2.2.2.2⟩;delta az;rw[e.1,Z0,if_pos hs];rfl
def zen (R:Rg) (h:MH) (hd:4<=d): ∃g0:MH,jZ (ag P0 d) (.ai 121) [.ai (112+R.i)] h=Qa (.ref h.length,g0)/\∃g1:MH,kP (ag P0 d) (.ref h.length) oS [] g0 g0=Qa (.int 0,g1)/\Mk R h g1 h.length (M0.more (R:=R)) []:=by
 refine(W.get (D4 (h:=h) (R:=R) (d:=d) (Q:=λv g=>v= .ref h.length/\Mk R h g h.length M0 []) (Jl (by decide) hd) λg H=>⟨rfl,H⟩)).elim λv zq5=>zq5.elim λg0 zq6=>?_;obtain rfl:=zq6.2.1;have H:=zq6.2.2;refine(W.get (WR (d:=d) (Q:=λv g=>v= .int 0/\Mk R h g h.length (M0.more (R:=R)) []) (Jl (by decide) hd) H (by show 0<10000;decide) λg H=>⟨rfl,H⟩)).elim λv zq3=>zq3.elim λg1 zq4=>?_;refine eqE zq4.2.1 ?_;exact⟨g0,zq6.1,g1,zq4.1,zq4.2.2⟩
def zbK (hd:4<=d) (hn:1+n<10000) (H:Mk R h g h.length (M0.more (R:=R)) []): ∃s:y8 R,(∃v,kP (ag P0 d) (.ref h.length) 126943688418675 [.int n] g g=Qa (v,s.g))/\VL R h h.length [] (1+n) 0 (λ_=> []) (JL (1+n) R.zero) s:=by
 refine(W.get (UK (n:=n) (d:=d) (Q:=λv g=>Mk R h g h.length (lE (M0.more (R:=R)) n) []) (Jl (by decide) hd) H hn λv g H=>H)).elim λv zq1=>zq1.elim λg2 zq2=>?_;have H2:=zq2.2;rw[D3,ZJ n 1] at H2;exact⟨⟨g2,_,Qd,Qd⟩,⟨v,zq2.1⟩,H2,Hm⟩
def NZ (w:R.α) (t:Nat):Ar R.α:=⟨[],[],w,t⟩
end
variable {M2:Mc R.α}{L2:Ly}
section
variable {h0:MH}
def Nz (hd:2<=d) (I1:ak R h L1 M1) (I2:ak R h L2 M2) (h1:0<M1.aa.length) (h2:0<M2.aa.length) (q:Q .none h):WF P0 d 179 [.ref L1.m,.ref L2.m] h Q:=by
 refine kN (K:=1) hd (Qa (.ref L1.m)::Qa (.ref L2.m)::nn 6) m4 (by kernel_rfl) λd' h'=>?_;exact kC (.v (l8 I1)<| .w (cA R)<| .v (l8 I2)<| .w (cA R)<| .k (nes (kA R.i) (kA R.i))<| .f ((by rw[beq_self_eq_true];rfl:(!(kA R.i==kA R.i))=Qb))<| .p (mK h' I1)<| .k (uc M1.aa.length 0)<| .f (za5 h1)<| .p (mK h' I2)<| .k (uc M2.aa.length 0)<| .f (za5 h2)<| .z (q)) (by kernel_rfl)
def uU (M1 M2:Mc R.α):Nat->List (Ar R.α):=nO (nO (λ_=> []) M1 1 M1.aa.length 0) M2 (1+M1.aa.length) M2.aa.length 0
structure JX (R:Rg) where
 h:MH
 L1:Ly
 L2:Ly
 M1:Mc R.α
 M2:Mc R.α
 p:Nat
 q:Nat
structure JOk (X:JX R):Prop where
 I1:ak R X.h X.L1 X.M1
 I2:ak R X.h X.L2 X.M2
 G1:kQ X.M1 X.p X.q
 G2:kQ X.M2 X.p X.q
abbrev JX.n1 (X:JX R):Nat:=X.M1.aa.length
abbrev JX.n2 (X:JX R):Nat:=X.M2.aa.length
abbrev JX.N (X:JX R):Nat:=1+X.n1+X.n2
abbrev JnP (X:JX R) (c:Nat) (A:Nat->List (Ar R.α)) (es:List R.α) (s:y8 R):Prop:=VL R X.h X.h.length [] X.N c A es s
section
variable {Y:JX R} (O:JOk Y)
include O
def zij:1+(Y.n1+Y.n2)<10000:=by
 have:=O.G1.n
 have:=O.G2.n
 lia
theorem j_c:Y.M1.ax+Y.M2.ax<=600:=JG O.G1.c O.G2.c
def FW (hd:7<=d): ∃s:y8 R,jZ (ag P0 d) (.ai 180) [.ref Y.L1.m,.ref Y.L2.m] Y.h=Qa (.ba [.ref Y.h.length,.int 1,.int (1+Y.n1:Nat)],s.g)/\JnP Y (Y.M1.ax+Y.M2.ax) (uU Y.M1 Y.M2) (JL Y.N R.zero) s:=by
 have w:WF P0 d 180 [.ref Y.L1.m,.ref Y.L2.m] Y.h λv g=>v= .ba [.ref Y.h.length,.int 1,.int (1+Y.n1:Nat)]/\∃s:y8 R,g=s.g/\JnP Y (Y.M1.ax+Y.M2.ax) (uU Y.M1 Y.M2) (JL Y.N R.zero) s:=by
  refine kN (K:=6) hd (Qa (.ref Y.L1.m)::Qa (.ref Y.L2.m)::nn 7) oL (by kernel_rfl) λd' h'=>?_;have d1:1<=d':=Jl (by decide) h';refine(zen R Y.h (d:=d') (Jl (by decide) h')).elim λg0 a=>a.2.elim λg1 b=>?_;refine(zbK (n:=Y.n1+Y.n2) (d:=d') (Jl (by decide) h') (zij O) b.2).elim λs2 c=>c.1.elim λv2 c1=>?_;refine(yQ (d:=d') (k:=1) h' O.I1 O.G1 (show JnP Y 0 (λ_=> []) (JL Y.N R.zero) s2 by have:=c.2;rwa [<-J9] at this) (by rw[ZJ];exact Jo _ _) (Js (Nat.add_lt_add_of_lt_of_le (Zs _) (Jo _ _)) (Jl (Jr (j_c O) _) (Jv _)))).elim λs3 e=>?_;refine(yQ (d:=d') (k:=1+Y.n1) h' O.I2 O.G2 e.2 (by rw[ZJ];exact Jv _) (JQ (Jl (Jx (J9 _ _ _)) (Jl (Jr (j_c O) _) (Jw _ _))))).elim λs4 f=>?_;exact kC (.p ((fn (P:=P0) (d:=d') rfl (Nz (Q:=λv g=>v= .none/\g=Y.h) (Jl (by decide) h') O.I1 O.I2 (Jt (Jy _) O.G1.st) (Jt (Jy _) O.G2.st) ⟨rfl,rfl⟩)))<| .v (l8 O.I1)<| .p (a.1)<| .p (b.1)<| .p (mK d1 (b.2.im O.I1))<| .p (mK d1 (b.2.im O.I2))<| .c<| .p (c1)<| .p (e.1)<| .p (mK d1 (e.2.H.im O.I1))<| .c<| .p (f.1)<| .p (mK d1 ((by have:=f.2;rwa [ZM] at this:JnP Y (Y.M1.ax+Y.M2.ax) (uU Y.M1 Y.M2) (JL Y.N R.zero) s4).H.im O.I1))<| .c<| .z ((show ab.ba [.ref Y.h.length,.int 1,.int (1+Y.n1:Nat)]= .ba [.ref Y.h.length,.int 1,.int (1+Y.n1:Nat)]/\∃s:y8 R,s4.g=s.g/\JnP Y (Y.M1.ax+Y.M2.ax) (uU Y.M1 Y.M2) (JL Y.N R.zero) s from⟨rfl,s4,rfl,(by have:=f.2;rwa [ZM] at this:JnP Y (Y.M1.ax+Y.M2.ax) (uU Y.M1 Y.M2) (JL Y.N R.zero) s4)⟩))) (by kernel_rfl)
 obtain⟨v,g,e,rfl,s,rfl,q⟩:=W.get (mJ (P:=P0) rfl w);exact⟨s,e,q⟩
end
end
section
variable {h0:MH}
abbrev Ms:Nat:=1668247673
theorem tq (hd:2<=d) (H:Mk R h g m (lE M0 n) X) (hn:n<10000): ∃v g',kP (ag P0 d) (.ref m) oS [] g g=Qa (v,g')/\Mk R h g' m (lE M0 (n+1)) X:=
 W.get (o:=kP (ag P0 d) (.ref m) oS [] g g) (Q:=λ_ g'=>Mk R h g' m (lE M0 (n+1)) X) (WR hd H (by rw[UJ];show 0+n<_;rw[ZM];exact hn) λg' H'=>H')
abbrev cpF (L:Ly) (h:MH) (a:Option ab):Internal.Frame:=Qa (.ref L.m)::Qa (.ref h.length)::a::nn 6
theorem zft (hd:3<=d) (I:ak R h L M) (H:Mk R h g h.length (M0 (R:=R)) []): ∃s:y8 R,Mk R h s.g h.length (lE (M0 (R:=R)) M.aa.length) []/\exec (ag P0 d) (.fo [2] Qb (.call (.lit (.ty 491260897125)) [.call (.lit (.bi 7103854)) [.aq (.var 0) kI]]) [.expr (.bh (.var 1) oS [])]) (cpF L h Qd) g=Qa ((.nx,cpF L h s.a),s.g):=
 kh (c:=ag P0 d) (x:=2) (n:=M.aa.length) (e:=.call (.lit (.ty 491260897125)) [.call (.lit (.bi 7103854)) [.aq (.var 0) kI]]) (b:=[.expr (.bh (.var 1) oS [])]) (λs:y8 R=>cpF L h s.a) y8.g (λk s=>Mk R h s.g h.length (lE (M0 (R:=R)) k) []) ⟨g,M0,Qd,Qd⟩ (GH I) rfl (by exact kJ (.v (nD (H.im I))<| .p (F1 (H.im I) d)<| .c<| .z (ck (.fy M.aa.length) g)) (by kernel_rfl)) H λk s R1 _ hk S C=>
  (tq (d:=d) (Jl (by decide) hd) S (Js hk I.bb)).elim λv a=>a.elim λg' b=>by exact kC (.p (b.1)<| .z (C.nx ⟨g',M0,vN k,Qd⟩ b.2)) (by kernel_rfl)
def PV (H:Mk R h g m M X) (hs:s<M.aa.length): ∃aE g',getAttr P0 g (.ref m) lU=Qa (.ref aE)/\m7 g (.ref aE) (.int s) (R.e w)=Qa g'/\Mk R h g' m {M with aj:=M.aj.set s w} X:=by
 obtain⟨L,rfl,I,ho,hx⟩:=H.x;obtain⟨g',e,I',K⟩:=zT w I hs;exact⟨L.aE,g',sU I,e,H.to rfl ho hx I' rfl K (λa ha=>ha) λa ha=> .inl ha⟩
theorem Ma.sk {N:Nat}{A:Nat->List (Ar R.α)}{es:List R.α} (H:Ma N c A es M):Ma N c A (es.set s w) {M with aj:=M.aj.set s w}:=⟨H.len,H.at',H.ct,by show M.aj.set s w=_;rw[H.es],H.st,H.fi⟩
def eD {q0:Nat} (G:kQ M p q0) (hk:k<M.aj.length):R.D p q0 (cu M k)/\(M.aj.map R.e)[k]?=Qa (R.e (cu M k)):=by
 have e:cu M k=M.aj[k]:=by unfold cu;rw[Jn hk];rfl
 rw[e];exact⟨G.ed _ (Zo hk),by rw[JA,Jn hk];rfl⟩
def BD (M:Mc R.α) (n k:Nat):List R.α:=(Zg n).map λi=>if i<k then cu M i else R.zero
def GZ:(BD M n k)[i]?=if i<n then Qa (if i<k then cu M i else R.zero) else none:=by
 delta BD;rw[JA];by_cases h:i<n
 ·rw[ZW h,if_pos h];rfl
 ·rw[ZH (by rw[Zi];exact J7 h),if_neg h];rfl
def Rz (hk:k<n):(BD M n k).set k (cu M k)=BD M n (k+1):=by
 refine Ys λi=>?_;rw[GZ];by_cases e:k=i
 ·subst e
  rw[JV (by unfold BD;rw[Jp,Zi];exact hk),if_pos hk,if_pos (JT _)]
 ·rw[JZ e,GZ]
  congr 2
  by_cases h:i<k
  ·rw[if_pos h,if_pos (Zy h)]
  ·rw[if_neg h,if_neg (Zz (JY (J8 (J7 h) e)))]
def MU:JL n R.zero=BD M n 0:=by
 refine Ys λi=>?_;simp only[GZ,Z0];rfl
def RA (I:ak R h L M):BD M M.aa.length M.aa.length=M.aj:=by
 refine Ys λi=>?_;rw[GZ,<-I.di];by_cases h:i<M.aj.length
 ·rw[if_pos h,if_pos h];unfold cu;rw[Jn h];rfl
 ·rw[if_neg h,ZH (J7 h)]
theorem zfs {q0:Nat}{A:Nat->List (Ar R.α)}{s:y8 R} (hd:3<=d) (I:ak R h L M) (G:kQ M p q0) (hn:n=M.aa.length) (S:VL R h h.length [] n c A (BD M n 0) s): ∃s',VL R h h.length [] n c A (BD M n n) s'/\exec (ag P0 d) (.fo [2] Qb (.call (.lit (.ty 491260897125)) [.call (.lit (.bi 7103854)) [.aq (.var 0) lU]]) [.fq (.sb (.aq (.var 1) lU) (.var 2)) (.sub (.aq (.var 0) lU) (.var 2))]) (cpF L h s.a) s.g=Qa ((.nx,cpF L h s'.a),s'.g):=
 kh (c:=ag P0 d) (x:=2) (n:=n) (e:=.call (.lit (.ty 491260897125)) [.call (.lit (.bi 7103854)) [.aq (.var 0) lU]]) (b:=[.fq (.sb (.aq (.var 1) lU) (.var 2)) (.sub (.aq (.var 0) lU) (.var 2))]) (λs:y8 R=>cpF L h s.a) y8.g (λk s=>VL R h h.length [] n c A (BD M n k) s) s (hn▸GH I) rfl (by
  have e:((M.aj.map R.e).length:Int)=n:=by rw[Jp,I.di,hn]
  exact kJ (.v (sU (S.H.im I))<| .p (FT (z:=ag P0 d) (S.H.im I).aj)<| .c<| .z ((show ab.fy ((M.aj.map R.e).length:Int)= .fy n/\s.g=s.g from⟨congrArg ab.fy e,rfl⟩))) (by kernel_rfl)) S λk s R1 _ hk S C=>by
  obtain⟨_,e1⟩:=eD G (k:=k) (I.di▸(hn▸hk:k<M.aa.length));refine(PV (s:=k) (w:=cu M k) S.H (by rw[S.P.len];exact hk)).elim λaE a=>a.elim λg' b=>?_;have N:VL R h h.length [] n c A (BD M n (k+1)) ⟨g',{s.M with aj:=s.M.aj.set k (cu M k)},vN k,Qd⟩:=⟨b.2.2,Rz hk▸S.P.sk⟩;exact kC (.v (sU (S.H.im I))<| .v (sl (S.H.im I).aj e1)<| .v (b.1)<| .h (b.2.1)<| .z (C.nx _ N)) (by kernel_rfl)
def By (I:ak R h L M) (hs:s<M.aa.length):nO (λ_=> []) M 0 M.aa.length 0 s=az M s:=by
 delta nO sG;rw[if_pos (Jy _),qbm,if_pos hs];exact(ZI λa _=>rfl).trans (List.map_id _)
def Nt {A B:List (List (Ar R.α))} (hl:A.length=B.length) (h: ∀s,s<A.length->A[s]?.getD []=B[s]?.getD []):A=B:=by
 refine List.ext_getElem hl λi h1 h2=>?_
 have:=h i h1
 rwa [Jn h1,Jn h2] at this
def RF {q0:Nat} (hd:8<=d) (I:ak R h L M) (G:kQ M p q0): ∃g,kP (ag P0 d) (.ref L.m) Ms [] h h=Qa (.ref h.length,g)/\Mk R h g h.length M []:=by
 have w:WF P0 d 176 [.ref L.m] h λv g=>v= .ref h.length/\Mk R h g h.length M []:=by
  refine kN (K:=7) hd (Qa (.ref L.m)::nn 8) rT (by kernel_rfl) λd' h'=>?_;have hn:=Jt (Jy _) G.st;have hc:0+M.ax<100000:=by rw[ZM];exact Jt G.c (by decide)
  obtain⟨v,g0,e0,rfl,H0⟩:=W.get (D4 (h:=h) (R:=R) (d:=d') (Q:=λv g=>v= .ref h.length/\Mk R h g h.length (M0 (R:=R)) []) (Jl (by decide) h') λg H=>⟨rfl,H⟩);refine(zft (d:=d') (Jl (by decide) h') I H0).elim λs1 a=>?_;refine(yQ (d:=d') (k:=0) (s:=(⟨s1.g,lE M0 M.aa.length,Qd,Qd⟩:y8 R)) (Jl (by decide) h') I G ⟨a.1,Hm⟩ (Jv _) hc).elim λs2 b=>?_;have S2:VL R h h.length [] M.aa.length (0+M.ax) (nO (λ_=> []) M 0 M.aa.length 0) (BD M M.aa.length 0) {s2 with a:=s1.a}:=by rw[<-MU];exact⟨b.2.H,b.2.P⟩
  refine(zfs (d:=d') (Jl (by decide) h') I G rfl S2).elim λs3 c=>?_;obtain⟨v,g4,e4,rfl,H4⟩:=W.get (Hn (d:=d') (Q:=λv g=>v= .none/\Mk R h g h.length {s3.M with start:=M.start,first:=M.first} []) (s:=M.start) (w:=M.first) (Jl (by decide) h') c.1.H (by rw[c.1.P.len];exact G.st) G.fst G.bd λg H=>⟨rfl,H⟩);have ea:s3.M.aa=M.aa:=Nt c.1.P.len λs hs=>(c.1.P.at' s (c.1.P.len▸hs)).trans (By I (c.1.P.len▸hs));have ec:s3.M.ax=M.ax:=c.1.H.x.elim λL' q=>q.2.1.ct.symm.trans (ea▸I.ct);have em:({s3.M with start:=M.start,first:=M.first}:Mc R.α)=M:=by
   have ee:=c.1.P.es.trans (RA I);cases M;cases s3 with|mk g M3 a b=>cases M3;cases ea;cases ec;cases ee;rfl
  have Jb:ak R s2.g L M:=b.2.H.im I;rw[em] at H4;exact kC (.v (l8 I)<| .p (e0)<| .s (a.2)<| .p (b.1)<| .s (c.2)<| .v (nD (c.1.H.im I))<| .p (F1 (c.1.H.im I) d')<| .c<| .t (decide_eq_true (p:=(0:Int)<M.aa.length) (ZR.mpr hn))<| .v (rG (c.1.H.im I))<| .v (vF (c.1.H.im I))<| .p (e4)<| .z ((show ab.ref h.length= .ref h.length/\Mk R h g4 h.length M [] from⟨rfl,H4⟩))) (by kernel_rfl)
 obtain⟨v,g,e,rfl,H⟩:=W.get (kE (P:=P0) (lN (n:=Ms) I.fb rfl rfl) w);exact⟨g,e,H⟩
end
section
variable {h0:MH}
def uT {α:Type} (f:α->α) (k:Nat) (l:List α):List α:=(l.take k).map f++l.drop k
theorem D7 {f:α->α}{l:List α}:uT f 0 l=l:=rfl
def UL {f:α->α}{l:List α}:uT f l.length l=l.map f:=by
 delta uT;simp only[Zc,Ke,Zm]
def yB {f:α->α}{l:List α}{a:α} (h:l[k]?=Qa a):(uT f k l)[k]?=Qa a/\(uT f k l).set k (f a)=uT f (k+1) l:=by
 obtain⟨hk,rfl⟩:=Ju.mp h;have e:((l.take k).map f).length=k:=by rw[Jp,Kz,Yi (JK hk)]
 delta uT;refine⟨?_,?_⟩
 ·simp only[Kb (Jx e),e,YS,List.getElem?_drop];exact h
 ·simp only[Yp _ _ (Jx e),e,YS,Kl hk,List.set_cons_zero,KD hk,JU,JD];rfl
def om.at {r:Nat} (q:ar.map (λr=>h[r]?)=ads.map λas=>Qa (.list (as.map .ref))) (hr:ar[k]?=Qa r) (ha:h[r]?=Qa (.list (as.map .ref))):ads[k]?=Qa as:=by
 have e:(ar.map λr=>h[r]?)[k]?=ads[k]?.map λas=>Qa (.list (as.map .ref)):=by rw[q];exact JA ..
 rw[JA,hr,Xk,ha] at e;obtain⟨as',e1,e2⟩:=Zl.mp e.symm;refine e1.trans ?_;exact congrArg Qa (Pj e2)
def om.ne {r a:Nat} (D:om h ar m) (hr:ar[k]?=Qa r) (ha:h[r]?=Qa (.list (as.map .ref))) (hj:as[j]?=Qa a) (hr':ar[k']?=Qa r') (ha':h[r']?=Qa (.list (as'.map .ref))) (hj':as'[j']?=Qa a):k=k'/\j=j':=by
 obtain⟨ads,n,_,q⟩:=D;have e1:=om.at q hr ha;have e2:=om.at q hr' ha';have n:=List.pairwise_flatten.mp n;obtain⟨l1,f1⟩:=Ju.mp e1;obtain⟨l2,f2⟩:=Ju.mp e2;have no: ∀ {i i':Nat} (li:i<ads.length) (li':i'<ads.length),i<i'->a∈ads[i]->a∈ads[i']->False:=λli li' hlt m1 m2=>List.pairwise_iff_getElem.mp n.2 _ _ li li' hlt a m1 a m2 rfl;have m1:=f1▸Jq hj;have m2:=f2▸Jq hj';rcases Nat.lt_trichotomy k k' with hk|rfl|hk
 ·exact(no l1 l2 hk m1 m2).elim
 ·rw[e1] at e2
  obtain rfl:=Qa.inj e2;obtain⟨l3,f3⟩:=Ju.mp hj;obtain⟨l4,f4⟩:=Ju.mp hj';exact⟨rfl,(Yw (n.1 _ (f1▸Zo l1))).mp (f3.trans f4.symm)⟩
 ·exact(no l2 l1 hk m2 m1).elim
def om.nf {r a:Nat} (D:om h ar m) (hr:ar[k]?=Qa r) (ha:h[r]?=Qa (.list (as.map .ref))) (hj:as[j]?=Qa a):m<a:=by
 obtain⟨ads,_,b,q⟩:=D;exact b a (Yx.mpr ⟨as,Jq (om.at q hr ha),Jq hj⟩)
def ak.setArc {r b:Nat} (a':Ar R.α) (I:ak R g L M) (W:Dk R g L M i r as xs) (hb:as[j]?=Qa b) (hx:xs[j]?=Qa a):ak R (g.set b (mC R a')) L {M with aa:=M.aa.set i (xs.set j a')}:=by
 have o:=W.o j b a hb hx;have nl: ∀ {c:Nat}{vs:List ab},g[c]?=Qa (.list vs) ->(g.set b (mC R a'))[c]?=Qa (.list vs):=λe=>j4 (cj o e nofun) e;refine⟨j4 (cj o I.fb EP) I.fb,nl I.aa,nl I.aj,I.len.trans (J0 ..).symm,I.di.trans (J0 ..).symm,λk r' ys hr hy=>?_,I.nd,Jl (Jx (J0 ..)) I.bb,?_,I.cl,I.ds.to λ_ _ _ e=>nl e⟩
 ·by_cases hk:i=k
  ·subst hk
   rw[JV (jY W.x)] at hy;refine lW hy ?_;cases W.i.symm.trans hr;refine⟨as,nl W.a,W.l.trans (J0 ..).symm,λj' b' x h1 h2=>?_⟩;by_cases hj:j=j'
   ·subst hj
    rw[JV (jY hx)] at h2;refine lW h2 ?_;cases hb.symm.trans h1;exact kO o
   ·rw[JZ hj] at h2
    exact j4 (λq=>by subst q;exact hj (I.ds.ne W.i W.a hb W.i W.a h1).2) (W.o j' b' x h1 h2)
  ·rw[JZ hk] at hy
   obtain⟨as',h1,h2,h3⟩:=I.ar k r' ys hr hy;exact⟨as',nl h1,h2,λj' b' x e1 e2=>j4 (λq=>by subst q;exact hk (I.ds.ne W.i W.a hb hr h1 e1).1) (h3 j' b' x e1 e2)⟩
 ·simp only[List.map_set,J0,<-I.ct]
  refine(Ju.mp W.x).elim λl e=>?_;rw[<-e,<-List.getElem_map Z3 (l:=M.aa) (i:=i) (h:=by rw[Jp];exact l),KY]
structure N0 where
 g:MH
 a:Option ab:=Qd
 b:Option ab:=Qd
structure MuX (R:Rg) where
 h:MH
 L:Ly
 M:Mc R.α
 f:Ar R.α->Ar R.α
 F:Option ab->Option ab->Internal.Frame
 x:Nat
 y:Nat
 e:Ex
 b:List Sm
 d:Nat
structure NQ (X:MuX R):Prop where
 s1: ∀a b v,nG (X.F a b) [X.x] Qb v=Qa (X.F (Qa v) b)
 s2: ∀a b v,nG (X.F a b) [X.y] Qb v=Qa (X.F a (Qa v))
 e: ∀a b g,getAttr P0 g (.ref X.L.m) kI=Qa (.ref X.L.aA) ->WE (ag P0 X.d) (X.F a b) X.e g λv g'=>v= .ref X.L.aA/\g'=g
 v: ∀r b g,WE (ag P0 X.d) (X.F (Qa (.ref r)) b) (.var X.x) g λv g'=>v= .ref r/\g'=g
 st: ∀r p (a:Ar R.α) g R',g[p]?=Qa (mC R a) ->R' .nx (X.F (Qa (.ref r)) (Qa (.ref p))) (g.set p (mC R (X.f a))) ->cq (ag P0 X.d) X.b (X.F (Qa (.ref r)) (Qa (.ref p))) g R'
 lo:X.h.length<=X.L.m
structure MuP (X:MuX R) (A:List (List (Ar R.α))) (s:N0):Prop where
 I:ak R s.g X.L {X.M with aa:=A}
 pre: ∃t,s.g=X.h++t
structure MuR (X:MuX R) (A:List (List (Ar R.α))) (r:Nat) (as:List Nat) (s:N0):Prop where
 P:MuP X A s
 l:s.g[r]?=Qa (.list (as.map .ref))
variable {X:MuX R}
def PO {A:List (List (Ar R.α))}{r b:Nat}{s:N0} (O:NQ X) (P:MuR X A r as s) (hi:A[i]?=Qa xs) (hr:X.L.ar[i]?=Qa r) (hb:as[j]?=Qa b) (hx:xs[j]?=Qa a) (z y:Option ab):s.g[b]?=Qa (mC R a)/\MuR X (A.set i (xs.set j (X.f a))) r as ⟨s.g.set b (mC R (X.f a)),z,y⟩:=by
 obtain⟨as',h1,h2,h3⟩:=P.P.I.ar i r xs hr hi;rw[P.l] at h1;cases Pj h1;have W:Dk R s.g X.L {X.M with aa:=A} i r as xs:=⟨hr,hi,P.l,h2,h3⟩;refine⟨(W.o j b a hb hx),⟨P.P.I.setArc (X.f a) W hb hx,?_⟩,j4 (cj (W.o j b a hb hx) P.l nofun) P.l⟩;obtain⟨t,e⟩:=P.P.pre;exact⟨_,by show s.g.set b _=_;rw[e];exact sI (Jl O.lo (JK (P.P.I.ds.nf hr P.l hb)))⟩
def zb6 {r:Nat}{A:List (List (Ar R.α))}{s:N0} (O:NQ X) (hi:A[i]?=Qa xs) (hr:X.L.ar[i]?=Qa r) (hl:xs.length<=100000) (P:MuR X A r as s): ∃s',MuR X (A.set i (xs.map X.f)) r as s'/\exec (ag P0 X.d) (.fo [X.y] Qb (.var X.x) X.b) (X.F (Qa (.ref r)) s.b) s.g=Qa ((.nx,X.F (Qa (.ref r)) s'.b),s'.g):=by
 obtain⟨as',h1,h2,_⟩:=P.P.I.ar i r xs hr hi;rw[P.l] at h1;cases Pj h1;have e0:A.set i (uT X.f 0 xs)=A:=by rw[D7,<-(Ju.mp hi).2,KY]
 have q:=qf (c:=ag P0 X.d) (tg:=[X.y]) (many:=Qb) (a:=r) (e:=.var X.x) (b:=X.b) (vs:=as.map .ref) (λs:N0=>X.F (Qa (.ref r)) s.b) N0.g (λj s=>MuR X (A.set i (uT X.f j xs)) r as s) s (by rw[Jp,h2];exact hl) rfl (λj s P=>P.l) (O.v r s.b s.g) (by rw[e0];exact P) λj v s R1 _ hv P1 C=>by
  obtain⟨b,hb,rfl⟩:=pL hv;obtain⟨a,ha⟩: ∃a,xs[j]?=Qa a:=⟨_,Jn (by rw[<-h2];exact jY hb)⟩;have S:=PO (i:=i) O P1 (JV (jY hi)) hr hb (yB (f:=X.f) ha).1 Qd (Qa (.ref b));rw[(yB (f:=X.f) ha).2,qaV] at S;exact Wo.of (O.s2 _ _ _) (O.st r b a s.g _ S.1 (C.nx _ S.2))
 rw[Jp,h2,UL] at q;exact q
def zeK {s:N0} (O:NQ X) (P:MuP X X.M.aa s): ∃s',MuP X (X.M.aa.map λxs=>xs.map X.f) s'/\exec (ag P0 X.d) (.fo [X.x] Qb X.e [.fo [X.y] Qb (.var X.x) X.b]) (X.F s.a s.b) s.g=Qa ((.nx,X.F s'.a s'.b),s'.g):=by
 have hl:X.L.ar.length=X.M.aa.length:=P.I.len;have q:=qf (c:=ag P0 X.d) (tg:=[X.x]) (many:=Qb) (a:=X.L.aA) (e:=X.e) (b:=[.fo [X.y] Qb (.var X.x) X.b]) (vs:=X.L.ar.map .ref) (λs:N0=>X.F s.a s.b) N0.g (λi s=>MuP X (uT (λxs=>xs.map X.f) i X.M.aa) s) s (by rw[Jp,hl];exact Jl P.I.bb (by decide)) rfl (λj s P=>P.I.aa) (O.e _ _ _ (nD P.I)) P λi v s R1 _ hv P1 C=>by
  obtain⟨r,hr,rfl⟩:=pL hv;have hi:i<X.M.aa.length:=by rw[<-hl];exact jY hr
  have T:=yB (f:=λxs:List (Ar R.α)=>xs.map X.f) (Jn hi);obtain⟨as,h1,h2,_⟩:=P1.I.ar i r _ hr T.1;refine Wo.of (O.s1 _ _ _) ?_;refine(zb6 (s:={s with a:=Qa (.ref r)}) O T.1 hr (Jl (P1.I.cr _ (Jq T.1)) P1.I.cl) ⟨⟨P1.I,P1.pre⟩,h1⟩).elim λs' e=>?_;rw[T.2] at e;exact kC (.s (e.2)<| .z (C.nx {s' with a:=Qa (.ref r)} ⟨e.1.P.I,e.1.P.pre⟩)) (by kernel_rfl)
 rw[Jp,hl,UL] at q;exact q
end
section
variable {h0:MH}
def Mc.mapA (f:Ar R.α->Ar R.α) (M:Mc R.α):Mc R.α:= {M with aa:=M.aa.map λxs=>xs.map f}
def swA (a:Ar R.α):Ar R.α:= {a with up:=a.lo,lo:=a.up}
theorem zet {q0:Nat} (hd:2<=d) (I:ak R h L M) (G:kQ M p q0):jZ (ag P0 d) (.ai 181) [.ref L.m] h=Qa (.none,h):=fn rfl (by
 refine kN (K:=1) hd (Qa (.ref L.m)::nn 6) mU (by kernel_rfl) λd' h'=>?_;exact kC (.p (mK h' I)<| .k (uc M.aa.length 0)<| .f (za5 (Jt (Jy _) G.st))<| .z (ck .none h)) (by kernel_rfl))
theorem zeL {X:MuX R} (O:NQ X) (H:Mk R X.h g X.h.length X.M []) (e:X.L.m=X.h.length) (I:ak R g X.L X.M) (ho: ∀a∈fg X.L,X.h.length<=a): ∃s':N0,Mk R X.h s'.g X.h.length (X.M.mapA X.f) []/\exec (ag P0 X.d) (.fo [X.x] Qb X.e [.fo [X.y] Qb (.var X.x) X.b]) (X.F Qd Qd) g=Qa ((.nx,X.F s'.a s'.b),s'.g):=
 (zeK O (s:=⟨g,Qd,Qd⟩) ⟨I,H.pre⟩).elim λs' q=>⟨s',⟨⟨X.L,e,q.1.I,ho,λp hp=>absurd hp JB⟩,q.1.pre⟩,q.2⟩
abbrev ivB:List Sm:= [.jk [.at (.var 3) m8,.at (.var 3) oT] (.ba [.aq (.var 3) oT,.aq (.var 3) m8])]
abbrev ivX (h:MH) (L L':Ly) (M:Mc R.α) (d:Nat):MuX R:=⟨h,L',M,swA,λa b=>Qa (.ref L.m)::Qa (.ref h.length)::a::b::nn 6,2,3,.aq (.var 1) kI,ivB,d⟩
theorem ze4 {L':Ly} (e:L'.m=h.length):NQ (ivX h L L' M d):=⟨λ_ _ _=>rfl,λ_ _ _=>rfl,λa b g e1=>by
  rw[e] at e1;exact kJ (.v (e1)<| .z (ck (.ref L'.aA) g)) (by kernel_rfl),λr b g=>by
  exact kJ (.z (ck (.ref r) g)) (by kernel_rfl),λr p a g R' hb q=>by
  have e1:setAttr P0 g (.ref p) m8 (.str a.lo)=Qa (g.set p (mC R {a with up:=a.lo})):=DG hb rfl (by decide:4<400);have e2:setAttr P0 (g.set p (mC R {a with up:=a.lo})) (.ref p) oT (.str a.up)=Qa (g.set p (mC R (swA a))):=zS hb rfl (by decide:4<400) rfl;exact kC (.v (tu hb)<| .v (sg hb)<| .c<| .h (e1)<| .h (e2)<| .z (q)) (by kernel_rfl),Jx e.symm⟩
def FY {q0:Nat} (hd:9<=d) (I:ak R h L M) (G:kQ M p q0): ∃g,jZ (ag P0 d) (.ai 182) [.ref L.m] h=Qa (.ref h.length,g)/\Mk R h g h.length (M.mapA swA) []:=by
 have w:WF P0 d 182 [.ref L.m] h λv g=>v= .ref h.length/\Mk R h g h.length (M.mapA swA) []:=by
  refine kN (K:=8) hd (Qa (.ref L.m)::nn 9) pH (by kernel_rfl) λd' h'=>?_;refine(RF (d:=d') h' I G).elim λg1 a=>?_;refine a.2.x.elim λL' b=>?_;refine(zeL (ze4 (L:=L) (d:=d') b.1) a.2 b.1 b.2.1 b.2.2.1).elim λs' c=>?_;exact kC (.p (zet (Jl (by decide) h') I G)<| .p (a.1)<| .s (c.2)<| .z ((show ab.ref h.length= .ref h.length/\Mk R h s'.g h.length (M.mapA swA) [] from⟨rfl,c.1⟩))) (by kernel_rfl)
 obtain⟨v,g,e,rfl,H⟩:=W.get (mJ (P:=P0) rfl w);exact⟨g,e,H⟩
end
variable {LB:Ly}
section
variable {h0:MH}{B:Mc R.α}{l:List Nat}
def zhR: ∀n,n<10-> ∀c,c<17-> ∀x,x<3-> ∀y,y<3->1+(x+1)*(y+1)*(c+1)<100000/\(1+1*n)*(x+y+2)<=60/\(1+((1+c)*n+n+1+n))*(x+y+2)+(1+(x+1)*(y+1)*(c+1)+n)<=1201:=by decide+kernel
def gc (M:Mc R.α) (u l:List Nat):R.α:=R.mul M.first (Bv M u l 0 0 M.start)
structure qi (u:List Nat):Prop where
 n:u.length<=2
 c: ∀c∈u,V1 c=Qe
theorem qi.take (w:qi u) (i:Nat):qi (u.take i):=⟨Jl (List.length_take_le' _ _) w.n,λc hc=>w.c c (Ky hc)⟩
theorem qi.drop (w:qi u) (i:Nat):qi (u.drop i):=⟨Jl (by rw[XY];exact YG _ _) w.n,λc hc=>w.c c (qaq hc)⟩
def zdn (hd:10<=d) (ne:R.da≠R.zero) (I:ak R g L M) (G:kQ M p k) (U:ny M) (hn:M.aa.length<=60) (wu:qi u) (wl:qi l) (cl:1+(u.length+1)*(l.length+1)*(M.ax+1)<100000) (bd2:4*p+(k+300)<=3800)
  (hbd:4*((p+p*M.aa.length)*(u.length+l.length+2))+((k+((k+M.ax)*M.aa.length+M.aa.length+1+M.aa.length))*(u.length+l.length+2)+(1+(u.length+1)*(l.length+1)*(M.ax+1)+M.aa.length))<=3800):
  ∃t,jZ (ag P0 d) (.ai 106) [.ref L.m,.str u,.str l] g=Qa (R.e (gc M u l),g++t)/\R.D ((p+p*M.aa.length)*(u.length+l.length+2)) ((k+((k+M.ax)*M.aa.length+M.aa.length+1+M.aa.length))*(u.length+l.length+2)+(1+(u.length+1)*(l.length+1)*(M.ax+1)+M.aa.length)) (gc M u l):=by
 refine(W.get (mJ (P:=P0) rfl (Dx (Q:=λv g'=> ∃t,v=R.e (gc M u l)/\g'=g++t/\R.D _ _ (gc M u l)) hd I G U ne hn wu.c wl.c (Jl wu.n (by decide)) (Jl wl.n (by decide)) cl bd2 hbd λt hD=>⟨t,rfl,rfl,hD⟩))).elim λv zq6=>zq6.elim λg' zq7=>zq7.2.elim λt zq8=>?_;obtain rfl:=zq8.1;obtain rfl:=zq8.2.1;exact⟨t,zq7.1,zq8.2.2⟩
def Gf (hd:10<=d) (ne:R.da≠R.zero) (I:ak R g L M) (Z:Lk us 9 16 M) (wu:qi u) (wl:qi l): ∃t,jZ (ag P0 d) (.ai 106) [.ref L.m,.str u,.str l] g=Qa (R.e (gc M u l),g++t)/\R.D 60 1201 (gc M u l):=by
 have b:=zhR M.aa.length (JQ Z.n) M.ax (JQ Z.c) u.length (JQ wu.n) l.length (JQ wl.n);exact(zdn hd ne I Z.g Z.up (Jl Z.n (by decide)) wu wl b.1 (by decide) (Jl (JG (JF 4 b.2.1) b.2.2) (by decide))).elim λt q=>⟨t,q.1,R.ah b.2.1 b.2.2 q.2⟩
def wds:List (List Nat):= [[],[97],[98],[97,97],[97,98],[98,97],[98,98]]
def zds (hi:i<7): ∃w,(wds.map ab.str)[i]?=Qa (.str w)/\qi w/\w∈wds:=by
 have hl:i<wds.length:=hi
 have: ∀w∈wds,w.length<=2/\∀c∈w,V1 c=true:=by decide+kernel
 have:=this _ (Zo hl)
 exact⟨wds[i],by rw[JA,Jn hl];rfl,⟨this.1,this.2⟩,Zo hl⟩
theorem So {a:Nat} (W:g[a]?=Qa (.list (wds.map .str))) (x:Int): ∃i:Nat,Y9 x 7=i/\∃w,lG g (.ref a) (.int i)=Qa (.str w)/\qi w/\w∈wds:=
 (qW x (show 0<7 by decide)).elim λi q=>⟨i,q.2,(zds q.1).elim λw a=>⟨w,sl W a.1,a.2⟩⟩
theorem Rb: ∀u∈fz,dh u:=λu hu=>by
 delta fz at hu;simp only[JM,JB,or_false] at hu;rcases hu with rfl|rfl|rfl
 ·exact .inr ⟨97,rfl,by decide+kernel⟩
 ·exact .inr ⟨98,rfl,by decide+kernel⟩
 ·exact .inl rfl
def SM {ws:List R.α} (hu:us≠ []) (hl: ∀u∈us,u∈fz) (Z:RL R ws) (ns:List Int) (k:Nat): ∃M:Mc R.α,zN us M/\∃g',jZ (ag P0 60) (.ai 139) [.fl (ns.map .int),.int k,.ai (112+R.i),.ref g.length,.bool Qb] (g++ [.list (us.map .str)])=Qa (.ref (g++ [ae.list (us.map .str)]).length,g')/\∃L,L.m=(g++ [ae.list (us.map .str)]).length/\ak R g' L M/\∃t,g'=g++t:=by
 refine xEEA (W.get (mJ (P:=P0) (d:=60) (h:=g++ [.list (us.map .str)]) rfl (zeW (Q:=λv g'=> ∃M:Mc R.α,v= .ref (g++ [ae.list (us.map .str)]).length/\zN us M/\Mk R (g++ [.list (us.map .str)]) g' (g++ [ae.list (us.map .str)]).length M []) (ns:=ns) (us:=us) (ws:=ws) (at':=k) (by decide) Z ap hu (λu q=>Rb u (hl u q)) λg1 M1 H1 Z1=>⟨M1,rfl,Z1,H1⟩))) λv g' e cv=>?_;refine xEAA cv λM gq Z1 H=>?_;subst gq;refine H.x.elim λL zq2=>?_;refine xE H.pre λt ht=>?_;exact⟨M,Z1,g',e,L,zq2.1,zq2.2.1,_,by rw[ht,JD]⟩
end
def Mg {a b c w:α}{P:α->Prop} (h:w∈ [a,b,c]) (h1:P a) (h2:P b) (h3:P c):P w:=by
 simp only[JM,JB,or_false] at h;rcases h with rfl|rfl|rfl
 ·exact h1
 ·exact h2
 ·exact h3
theorem f9:RL zc7 [Qe,Qe,Qe]:=⟨show Qe≠Qb by decide,rfl,λw hw=>Mg (P:=λw=>zc7.D 1 1 w/\w≠zc7.zero) hw ⟨trivial,show Qe≠Qb by decide⟩ ⟨trivial,show Qe≠Qb by decide⟩ ⟨trivial,show Qe≠Qb by decide⟩,rfl⟩
theorem lD (h:n<=3):Le.D 1 1 (Qa n)/\(Qa n:Option Nat)≠none:=⟨λm e=>by cases e;exact h,nofun⟩
theorem f7:RL Le [Qa 0,Qa 1,Qa 3]:=⟨show (Qa 0:Option Nat)≠Qd from nofun,rfl,λw hw=>Mg (P:=λw=>Le.D 1 1 w/\w≠Le.zero) hw (lD (by decide)) (lD (by decide)) (lD (by decide)),rfl⟩
theorem fZ:RL Ax [(1:Nat),(1:Nat),(2:Nat)]:=⟨show (1:Nat)≠0 by decide,rfl,λw hw=>Mg (P:=λw=>Ax.D 1 1 w/\w≠Ax.zero) hw ⟨show 1<=2 ^ 1 by decide,show (1:Nat)≠0 by decide⟩ ⟨show 1<=2 ^ 1 by decide,show (1:Nat)≠0 by decide⟩ ⟨show 2<=2 ^ 1 by decide,show (2:Nat)≠0 by decide⟩,rfl⟩
def tx (n:Nat) (h:n≠0):QN:=⟨⟨1,n,h,Nat.coprime_one_left n⟩,Rat.num_nonneg.mp (show (0:Int)<=1 by decide)⟩
def rO {h:n≠0} (hd:n ∣ 12):DQ 1 1 (tx n h)/\DL 1 1 (tx n h)/\tx n h≠ ⟨0,Rat.le_refl⟩:=by
 refine⟨⟨by rw[qbt];exact hd,by show 1<=2 ^ 1*n;lia⟩,⟨by rw[qbt];exact hd,(Xr h:1<=n)⟩,λe=>?_⟩;have e:(1:Int)=0:=congrArg (λq:QN=>q.1.num) e;exact absurd e (by decide)
theorem SE:(⟨1,bN⟩:QN)≠ ⟨0,Rat.le_refl⟩:=λe=>by
 exact absurd (congrArg (λq:QN=>q.1.num) e:(1:Int)=0) (by decide)
theorem fY:RL Lf [tx 4 (by decide),tx 3 (by decide),tx 2 (by decide)]:=⟨SE,rfl,λw hw=>Mg (P:=λw=>Lf.D 1 1 w/\w≠Lf.zero) hw ⟨(rO ⟨3,rfl⟩).1,(rO ⟨3,rfl⟩).2.2⟩ ⟨(rO ⟨4,rfl⟩).1,(rO ⟨4,rfl⟩).2.2⟩ ⟨(rO ⟨6,rfl⟩).1,(rO ⟨6,rfl⟩).2.2⟩,rfl⟩
theorem fX:RL Ld [tx 2 (by decide),tx 3 (by decide),tx 1 (by decide)]:=⟨SE,rfl,λw hw=>Mg (P:=λw=>Ld.D 1 1 w/\w≠Ld.zero) hw ⟨(rO ⟨6,rfl⟩).2.1,(rO ⟨6,rfl⟩).2.2⟩ ⟨(rO ⟨4,rfl⟩).2.1,(rO ⟨4,rfl⟩).2.2⟩ ⟨(rO ⟨12,rfl⟩).2.1,(rO ⟨12,rfl⟩).2.2⟩,rfl⟩
section
variable {N:Nat}
abbrev WW:=List Nat×List Nat
def pre (k t:WW):Bool:=k.1.isPrefixOf t.1 && k.2.isPrefixOf t.2
def Bt (M:Mc R.α) (t k:WW) (s:Nat):R.α:=bif pre k t then Bv M t.1 t.2 k.1.length k.2.length s else R.zero
def ma (k:WW) (a:Ar R.α):WW:=(k.1++a.up,k.2++a.lo)
def qb (N:Nat) (k:WW) (a:Ar R.α):Bool:=!a.fh && decide (max (k.1.length+a.up.length) (k.2.length+a.lo.length)<=N)
def yD (N:Nat) (M:Mc R.α) (t k:WW) (xs:List (Ar R.α)):R.α:=pY (xs.map λa=>bif qb N k a then R.mul a.w (Bt M t (ma k a) a.t) else R.zero)
def Eb {k s:List Nat} (h:k.isPrefixOf u=Qe) (hs:dh s):(k++s).isPrefixOf u=jw u k.length s:=by
 obtain⟨r,rfl⟩:=List.isPrefixOf_iff_prefix.mp h;rcases hs with rfl| ⟨c,rfl,_⟩
 ·rw[Zm];exact h
 ·have e:(k++ [c]).isPrefixOf (k++r)= [c].isPrefixOf r:=by
   induction k with
   |nil=>rfl
   |cons x k ih=>
    show (x==x && (k++ [c]).isPrefixOf (k++r))=_;rw[beq_self_eq_true,qaG];exact ih (List.isPrefixOf_iff_prefix.mpr (J6 _ _))
  refine e.trans ?_;show _=(Qb||ni (k++r) (min k.length (k++r).length) (min (k.length+1) (k++r).length)== [c]);have e2:ni (k++r) (min k.length (k++r).length) (min (k.length+1) (k++r).length)=r.take 1:=by
   delta ni;rw[Yi (by rw[Jz];exact Jo _ _)];cases r with
   |nil=>rw[Zm,XU (Jo _ _),Zc,Ke];rfl
   |cons y r=>rw[Yi (by rw[Jz];exact Jr (Jw _ _) _),List.take_append,List.drop_append];simp
  rw[e2,qaJ];cases r with
  |nil=>rfl
  |cons y r=>
   show (c==y && Qe)=([y]== [c]);rw[Yk,Ku,beq_iff_eq,beq_iff_eq];exact⟨λe=>by rw[e],λe=>(KZ.inj e).1.symm⟩
def DS {k t:WW} (h:pre k t=Qe):k.1.length<=t.1.length/\k.2.length<=t.2.length:=by
 obtain⟨a,b⟩:=Jm.mp h;exact⟨(List.isPrefixOf_iff_prefix.mp a).length_le,(List.isPrefixOf_iff_prefix.mp b).length_le⟩
def CX {k t:WW} (h:pre (ma k a) t=Qe):pre k t=true:=by
 obtain⟨x,y⟩:=Jm.mp h;exact Jm.mpr ⟨List.isPrefixOf_iff_prefix.mpr ((J6 _ _).trans (List.isPrefixOf_iff_prefix.mp x)),List.isPrefixOf_iff_prefix.mpr ((J6 _ _).trans (List.isPrefixOf_iff_prefix.mp y))⟩
def Rq {t k:WW} (h:pre k t=Qb):yD N M t k xs=R.zero:=by
 refine(mQ λa _=>?_).trans (Lx xs)
 have:Bt M t (ma k a) a.t=R.zero:=by
  delta Bt;cases q:pre (ma k a) t with
  |false=>rfl
  |true=>rw[CX q] at h;cases h
 rw[this,R.mul_zero];cases qb N k a<;>rfl
def MG {t k:WW} (h:pre k t=Qe) (h1:t.1.length<=N) (h2:t.2.length<=N) (hl: ∀a∈xs,dh a.up/\dh a.lo):
  yD N M t k xs=VA (Bv M t.1 t.2) t.1 t.2 k.1.length k.2.length xs:=by
 refine mQ λa ha=>?_;have hp:pre (ma k a) t=(jw t.1 k.1.length a.up && jw t.2 k.2.length a.lo):=by
  refine xA (Jm.mp h) λx y=>?_;delta pre ma;rw[Eb x (hl a ha).1,Eb y (hl a ha).2]
 delta qb gx;cases he:a.fh with
 |true=>rfl
 |false=>
  refine xO (jw t.1 k.1.length a.up && jw t.2 k.2.length a.lo) (λhf=>?_) λhf=>?_
  ·rw[hf]
   rw[hf] at hp;rw[show decide (max (k.1.length+a.up.length) (k.2.length+a.lo.length)<=N)=Qe from decide_eq_true (Nat.max_le.mpr ⟨Jl (Jz▸(DS hp).1) h1,Jl (Jz▸(DS hp).2) h2⟩)];delta Bt;rw[hp];show R.mul a.w (Bv M t.1 t.2 (k.1++a.up).length (k.2++a.lo).length a.t)=R.mul a.w _;rw[Jz,Jz]
  ·rw[hf]
   delta Bt;rw[hp,hf];show (bif (!Qb && decide (max (k.1.length+a.up.length) (k.2.length+a.lo.length)<=N)) then R.mul a.w R.zero else R.zero)=R.zero;rw[R.mul_zero];cases (!Qb && decide (max (k.1.length+a.up.length) (k.2.length+a.lo.length)<=N))<;>rfl
def zdh {t k:WW}{row row':List R.α} (h1:t.1.length<=N) (h2:t.2.length<=N) (hl: ∀s,∀a∈az M s,dh a.up/\dh a.lo)
  (H: ∀u l i j,i<=u.length->j<=l.length->j6 row (Bv M u l i j) 0=j6 row' (xM M (Bv M u l) u l i j) 0):
  j6 row (Bt M t k) 0=R.add (j6 row' (λs=>yD N M t k (az M s)) 0) (if k=t then j6 row' (cu M) 0 else R.zero):=by
 refine xO (pre k t) (λhp=>?_) λhp=>?_
 ·have hb:=DS hp
  simp only[show Bt M t k=Bv M t.1 t.2 k.1.length k.2.length from funext λs=>by unfold Bt;rw[hp];rfl,H _ _ _ _ hb.1 hb.2];have hk:k=t ↔ k.1.length=t.1.length/\k.2.length=t.2.length:=⟨λe=>by rw[e];exact⟨rfl,rfl⟩,λe=>by
   obtain⟨x,y⟩:=Jm.mp hp;exact qbe ((List.isPrefixOf_iff_prefix.mp x).eq_of_length e.1) ((List.isPrefixOf_iff_prefix.mp y).eq_of_length e.2)⟩
  rw[show (λs=>yD N M t k (az M s))=λs=>VA (Bv M t.1 t.2) t.1 t.2 k.1.length k.2.length (az M s) from funext λs=>MG hp h1 h2 (hl s)];by_cases e:k=t
  ·rw[if_pos e,<-HS]
   refine rJ λs _ _=>?_;delta xM;rw[if_pos (hk.mp e),R.add_comm]
  ·rw[if_neg e,R.add_zero]
   refine rJ λs _ _=>?_;delta xM;rw[if_neg λq=>e (hk.mpr q),R.zero_add]
 ·have n: ¬k=t:=λe=>by
   rw[e] at hp;exact Za (hp.symm.trans (Jm.mpr ⟨List.isPrefixOf_iff_prefix.mpr (K8 _),List.isPrefixOf_iff_prefix.mpr (K8 _)⟩))
  simp only[if_neg n,R.add_zero,show Bt M t k=λ_=>R.zero from funext λs=>by unfold Bt;rw[hp];rfl,show (λs=>yD N M t k (az M s))=λ_=>R.zero from funext λs=>Rq hp,yK,yK]
end
section
def zff {s t:List Nat} (hl:s.length+t.length<=1000) (h:MH):pE .add (.str s) (.str t) h=Qa (.str (s++t),h):=by
 show ay Qd (ay Qd (au (Zj (s.length+t.length) bb) (Qa (ab.str (s++t),h))))=_;rw[KF (Jl hl (by decide:1000<=bb))];rfl
def eC (z:Cx) (a b:Nat) (h:MH):jZ z (.bi 7168376) [.int a,.int b] h=Qa (.int (max a b:Nat),h):=by
 show Qa (ab.int (if (b:Int)>a then(b:Int) else a),h)=_;by_cases q:a<b
 ·rw[if_pos (ZR.mpr q),Nat.max_eq_right (JK q)]
 ·rw[if_neg λe=>q (ZR.mp e),Nat.max_eq_left (ZU.mp q)]
structure QS (R:Rg) where
 g:MH
 Ad:WW->Option Nat
 V:WW->List R.α
 c:Nat
 a:Option ab:=Qd
 b:Option ab:=Qd
 d:Option ab:=Qd
 e:Option ab:=Qd
 f:Option ab:=Qd
 k:Option ab:=Qd
structure PX (R:Rg) where
 h:MH
 L:Ly
 M:Mc R.α
 N:Nat
 D:Nat
 ov:ab
 p:Nat
 k:Nat
 p1:Nat
 k1:Nat
 pS:Nat
 kS:Nat
 cs:List WW
 W:WW->R.α
abbrev sz (k:WW):Nat:=k.1.length+k.2.length
abbrev PX.cl (X:PX R):Nat:=1+X.cs.length*(X.M.ax+1)
structure ly (X:PX R):Prop where
 I:ak R X.h X.L X.M
 G:kQ X.M X.p1 X.k1
 pp:X.p1+X.pS<=X.p
 kk:X.k1+X.kS<=X.k
 cl:X.cl<20000
 n:X.N<=200
 bd:4*(X.p*(2*X.N+2))+(X.k*(2*X.N+2)+(X.cl+X.M.aa.length))<=3800
 nd:X.cs.Nodup
 len: ∀k∈X.cs,k.1.length<=X.N/\k.2.length<=X.N
 up: ∀k∈X.cs,∀ys∈X.M.aa,∀a∈ys,qb X.N k a=Qe->ma k a∈X.cs
def zbc {y B:Nat} (pp:p1+pS<=p) (kk:k1+kS<=k) (hx:y<x) (h0:c0<=c) (hz:x+1<=Z) (bd:4*(p*Z)+(k*Z+B)<=3800) (hc:c<=B):
  p*(y+1)+pS+p1<=p*(x+1)/\k*(y+1)+kS+c0+k1<=k*(x+1)+c/\4*(p*(x+1))+(k*(x+1)+c)<=3800:=by
 have e: ∀ {p:Nat},p*(y+1)+p<=p*(x+1):=λ{p} =>by rw[<-Kv];exact JF _ (Zn hx)
 refine⟨Jl (by rw[J9,ZJ pS];exact Jr pp _) e,?_,?_⟩
 ·rw[cO]
  exact JG (Jl (Jr kk _) e) h0
 ·exact Jl (JG (JF 4 (JF p hz)) (JG (JF k hz) hc)) bd
structure KM (D m:Nat) (s' s:QS R):Prop where
 al: ∀k,(∃a,s.Ad k=Qa a) -> ∃a,s'.Ad k=Qa a
 kp:zi (T:=jT) D s.g s'.g s.Ad s'.Ad
 nw: ∀k,sz k<=m->(∃a,s'.Ad k=Qa a) -> ∃a,s.Ad k=Qa a
theorem KM.rfl' {s:QS R}:KM D m s s:=⟨λ_ h=>h,λ_ _ _ h1 h2=>⟨h2,h1⟩,λ_ _ h=>h⟩
theorem KM.trans {s s' s'':QS R} (h:KM D m s' s) (h':KM D m s'' s'):KM D m s'' s:=⟨λk q=>h'.al k (h.al k q),λa vs h0 h1 h2=>let q:=h.kp a vs h0 h1 h2;h'.kp a vs h0 q.2 q.1,λk hk q=>h.nw k hk (h'.nw k hk q)⟩
structure U2 (X:PX R) (K:WW) (aR c0:Nat) (row:List R.α) (dn:WW->Prop):Prop where
 O:ly X
 hK:K∈X.cs
 cc:c0+X.M.ax<=X.cl
 len:row.length=X.M.aa.length
 dg: ∀x∈row,R.D (X.p*(sz K+1)+X.pS) (X.k*(sz K+1)+X.kS+c0) x
 lo: ∀k,dn k->sz k<=sz K
structure PQ (X:PX R) (K:WW) (aR c0:Nat) (row:List R.α) (dn:WW->Prop) (V0:QS R) (n:Nat) (e:WW->R.α) (s:QS R):Prop where
 rw':RW jT R X.h s.g X.D X.M.aa.length s.c s.Ad s.V
 lo:c0<=s.c
 hi:s.c<=c0+n
 dg: ∀k,¬dn k-> ∀x∈s.V k,R.D (X.p*(sz k+1)) (X.k*(sz k+1)+s.c) x
 vr:s.V K=row
 ad:s.Ad K=Qa aR
 ky: ∀k a,s.Ad k=Qa a->k∈X.cs
 w: ∀t∈X.cs,R.add (rX (T:=jT) X.cs dn (Bt X.M t) s.V) (e t)=X.W t
 fx: ∀k,dn k->s.V k=V0.V k
 al:KM X.D (sz K) s V0
variable {X:PX R}{K:WW}{aR c0:Nat}{row:List R.α}{dn:WW->Prop}{V0:QS R}{R':Fl->Internal.Frame->MH->Prop}
def iz (X:PX R) (a b d e f k:Option ab):Internal.Frame:=Qa (.ref X.L.m)::Qa (.int X.N)::Qa (.ai (112+R.i))::Qa X.ov::Qa (.ref X.D)::a::b::d::e::f::k::nn 7
def PQ.kf {e e':WW->R.α}{x:R.α}{s:QS R}{Ad':WW->Option Nat}{z:WW}{t:Nat} (C:U2 X K aR c0 row dn) (P:PQ X K aR c0 row dn V0 n e s) (hz:z∈X.cs) (ht:t<X.M.aa.length) (hn:sz K<sz z) (hD:R.D (X.p*(sz z+1)) (X.k*(sz z+1)+s.c) x)
  (S':RW jT R X.h g' X.D X.M.aa.length (s.c+1) Ad' (cw (T:=jT) s.V z (m5 (s.V z) t x))) (hk: ∀k a,s.Ad k=Qa a->Ad' k=Qa a) (hk2: ∀k a,Ad' k=Qa a->k=z\/s.Ad k=Qa a) (hkp:zi (T:=jT) X.D s.g g' s.Ad Ad') (he: ∀u∈X.cs,e u=R.add (R.mul x (Bt X.M u z t)) (e' u)) (y1 y2:Option ab) (q:Option ab×Option ab×Option ab×Option ab):
  PQ X K aR c0 row dn V0 (n+1) e' ⟨g',Ad',cw (T:=jT) s.V z (m5 (s.V z) t x),s.c+1,q.1,q.2.1,q.2.2.1,q.2.2.2,y1,y2⟩:=by
 have hl:t<(s.V z).length:=by rw[P.rw'.len];exact ht
 have hnd: ¬dn z:=λq=>ZU.mpr (C.lo z q) hn;refine⟨S',Zh P.lo,Zn P.hi,λk hk y hy=>?_,?_,hk _ _ P.ad,λk a h=>(hk2 k a h).elim (λe=>e▸hz) (P.ky k a),λu hu=>?_,λk hk=>?_,P.al.trans ⟨λk h=>h.elim λa q=>⟨a,hk k a q⟩,hkp,λk hm h=>h.elim λa q=>(hk2 k a q).elim (λe=>absurd (e▸hm) (qaP.mpr hn)) λq=>⟨a,q⟩⟩⟩
 ·have hy:y∈cw (T:=jT) s.V z (m5 (s.V z) t x) k:=hy
  show R.D (X.p*(sz k+1)) (X.k*(sz k+1)+(s.c+1)) y;by_cases q:k=z
  ·cases q
   rw[jX] at hy;rcases Ho hy with hy|rfl
   ·exact R.ah (Jv _) (ZA _) (P.dg _ hk y hy)
   ·rw[Jn hl]
    exact R.fw (P.dg _ hk _ (Zo hl)) hD
  ·rw[j3 q] at hy
   exact R.ah (Jv _) (ZA _) (P.dg k hk y hy)
 ·show cw (T:=jT) s.V z (m5 (s.V z) t x) K=row
  exact(j3 (λe=>Zb _ (e▸hn): ¬K=z)).trans (P.vr)
 ·rw[x5 (T:=jT) C.O.nd hz hnd hl,<-P.w u hu,he u hu,<-R.add_assoc,R.add_comm (R.mul _ _)]
 ·show cw (T:=jT) s.V z (m5 (s.V z) t x) k=V0.V k
  rw[j3 λe=>hnd (by rw[<-e];exact hk)];exact P.fx k hk
def Sa {N:Nat}{z:WW}{Ad:WW->Option Nat}{V:WW->List R.α}{x:R.α} (hd:4<=d) (I:ak R h L M) (S:RW jT R h g D N c Ad V) (hN:N=M.aa.length) (hc:c<100000) (hs:s<N) (hV: ∀y∈V z,R.D p k y) (hx:R.D p k x) (hl:4*p+k<=3800):
  ∃g' Ad',jZ (ag P0 d) (.ai 126) [.ref L.m,.ref D,jT.v z,.int s,R.e x] g=Qa (.none,g')/\RW jT R h g' D N (c+1) Ad' (cw (T:=jT) V z (m5 (V z) s x))/\(∀z' a',Ad z'=Qa a'->Ad' z'=Qa a')/\(∀z' a',Ad' z'=Qa a'->z'=z\/Ad z'=Qa a')/\zi (T:=jT) D g g' Ad Ad':=by
 refine(W.get (mJ (P:=P0) rfl (NC (T:=jT) (Q:=λv g'=>v= .none/\∃Ad',RW jT R h g' D N (c+1) Ad' (cw (T:=jT) V z (m5 (V z) s x))/\(∀z' a',Ad z'=Qa a'->Ad' z'=Qa a')/\(∀z' a',Ad' z'=Qa a'->z'=z\/Ad z'=Qa a')/\zi (T:=jT) D g g' Ad Ad') hd I S hN hc hs hV hx hl λg' Ad' S' hk hk2 hk3=>⟨rfl,Ad',S',hk,hk2,hk3⟩))).elim λv zq3=>zq3.elim λg' zq4=>?_;refine eqE zq4.2.1 ?_;exact zq4.2.2.elim λAd' zq5=>⟨g',Ad',zq4.1,zq5⟩
abbrev Eg:List Sm:= [.fq (.nm 9) (.ba [.ez .add (.sub (.var 6) (.lit (.int 0))) (.aq (.var 8) 504397587826),.ez .add (.sub (.var 6) (.lit (.int 1))) (.aq (.var 8) 465726563698)]),.ite (.qh Qb [.not (.bh (.var 8) 7598521885536580729 []),.ew .le (.call (.lit (.bi 7168376)) [.call (.lit (.bi 7103854)) [.sub (.var 9) (.lit (.int 0))],.call (.lit (.bi 7103854)) [.sub (.var 9) (.lit (.int 1))]]) (.var 1)]) [.expr (.call (.lit (.ai 126)) [.var 0,.var 4,.var 9,.aq (.var 8) 127961880028532,.bh (.var 2) ry [.sub (.sub (.var 4) (.var 6)) (.var 7),.aq (.var 8) 131277443786868]])] []]
def Mq {s:List Nat} (h:dh s):s.length<=1:=by
 rcases h with e| ⟨c,e,_⟩
 ·rw[e];exact Jy _
 ·rw[e];exact Jv _
def RW.up' {N:Nat}{Ad:WW->Option Nat}{V:WW->List R.α} (S:RW jT R h g D N c Ad V) {a:Nat} (e:h[a]?=Qa o):g[a]?=Qa o:=by obtain⟨t,rfl⟩:=S.pre;exact jS e
def Pf {b:Nat}{E T e0 e1':WW->R.α}{y:R.α}{st:QS R} (hd:5<=d) (C:U2 X K aR c0 row dn) (hs:row[s]?=Qa y) (hn:n<X.M.ax) (hB:X.h[b]?=Qa (mC R a)) (gt:a.t<X.M.aa.length) (g2:dh a.up) (g3:dh a.lo) (g4:R.D X.p1 X.k1 a.w) (g5:qb X.N K a=Qe->ma K a∈X.cs)
  (P:PQ X K aR c0 row dn V0 n e0 st) (h0: ∀u∈X.cs,e0 u=R.add (R.mul y (R.add (bif qb X.N K a then R.mul a.w (Bt X.M u (ma K a) a.t) else R.zero) (T u))) (E u)) (h1: ∀u,e1' u=R.add (R.mul y (T u)) (E u))
  (q1: ∀s',PQ X K aR c0 row dn V0 (n+1) e1' s'->s'.k=st.k->R' .nx (iz X sv (Qa (jT.v K)) (vN s) s'.e s'.f s'.k) s'.g):
  cq (ag P0 d) Eg (iz X sv (Qa (jT.v K)) (vN s) (vR b) z1 st.k) st.g R':=by
 have S:=P.rw';have hB:st.g[b]?=Qa (mC R a):=by obtain⟨t,e⟩:=S.pre;rw[e];exact jS hB
 have d1:1<=d:=Jl (by decide) hd;have ad1:=zff (s:=K.1) (t:=a.up) (Jl (JG (Jl (C.O.len K C.hK).1 C.O.n) (Mq g2)) (by decide));have ad2:=zff (s:=K.2) (t:=a.lo) (Jl (JG (Jl (C.O.len K C.hK).2 C.O.n) (Mq g3)) (by decide));have iw:qb X.N K a=Qb-> ∀z,R' .nx (iz X sv (Qa (jT.v K)) (vN s) (vR b) z st.k) st.g:=λhh z=>by
  refine q1 {st with e:=vR b,f:=z} ⟨S,P.lo,Zh P.hi,P.dg,P.vr,P.ad,P.ky,λt ht=>?_,P.fx,P.al.al,P.al.kp,P.al.nw⟩ rfl;simp only[<-P.w t ht,h0 t ht,h1 t,hh,cond_false,R.zero_add]
 refine xO a.fh (λhe=>?_) λhe=>?_
 ·exact kC (.c<| .v (sg hB)<| .q ad1<| .c<| .v (tu hB)<| .q ad2<| .p (GR d1 hB)<| .c<| .f (nT he)<| .f (nT he)<| .z (iw (by unfold qb;rw[he];rfl) (Qa (jT.v (ma K a))))) rfl
 ·have hi:qb X.N K a=decide (((max (K.1++a.up).length (K.2++a.lo).length:Nat):Int)<=(X.N:Int)):=by
   delta qb;rw[he,Jz,Jz,decide_eq_decide.mpr YP];rfl
  refine xO (qb X.N K a) (λhb=>?_) λhb=>?_
  ·rw[hb] at hi
   have hlt:sz K<sz (ma K a):=by
    show K.1.length+K.2.length<(K.1++a.up).length+(K.2++a.lo).length;rw[Jz,Jz,Xd];exact ZY (z3 he)
   have hc:st.c<c0+X.M.ax:=Jt P.hi (J3 hn _);have T1:=zbc (B:=X.cl+X.M.aa.length) C.O.pp C.O.kk hlt P.lo (Zn (Zh (Jl (JG (C.O.len _ (g5 hb)).1 (C.O.len _ (g5 hb)).2) (Jx (YO _).symm))):sz (ma K a)+1<=2*X.N+2) C.O.bd (Jl (JK hc) (Jl C.cc (Jo _ _)));have hxd:=C.dg y (Jq hs);have hRa:=S.row K aR P.ad;rw[P.vr] at hRa;refine xEEAAA S.dd λep es hDd hKy _ hdg=>?_;refine(Sa (d:=d) (z:=ma K a) (s:=a.t) (x:=R.mul y a.w) (Jl (by decide) hd) C.O.I S rfl (Js hc (Jl C.cc (Jl (JK C.O.cl) (by decide)))) gt (P.dg _ λq=>ZU.mpr (C.lo _ q) hlt) (R.ah T1.1 T1.2.1 (R.fj hxd g4)) T1.2.2).elim λg' zq1=>zq1.elim λAd' zq2=>?_;exact kC (.c<| .v (sg hB)<| .q ad1<| .c<| .v (tu hB)<| .q ad2<| .p (GR d1 hB)<| .c<| .t (nF he)<| .c2<| .c2<| .q (eC (ag P0 d) (K.1++a.up).length (K.2++a.lo).length)<| .t hi.symm<| .c<|
    .v (vd hB)<| .v (sd hDd (qH (T:=jT) hKy) ((hdg K).trans (by rw[P.ad];rfl):j7 es (jT.v K)=Qa (.ref aR)))<| .v (sl hRa (yI hs))<| .v (yz hB)<| .q (R.ti (Jl (by decide) hd) hxd g4 (Jl (JG (JF 4 T1.1) T1.2.1) T1.2.2))<| .p (zq2.1)<| .z (q1 _ (P.kf C (g5 hb) gt hlt (R.ah T1.1 T1.2.1 (R.fj hxd g4)) zq2.2.1 zq2.2.2.1 zq2.2.2.2.1 zq2.2.2.2.2 (e':=e1') (λu hu=>by rw[h0 u hu,hb,cond_true,h1 u,R.mul_add,R.add_assoc,<-R.mul_assoc]) (Qa (jT.v (ma K a))) st.k (Qd,Qd,Qd,vR b)) rfl)) (by kernel_rfl)
  ·rw[hb] at hi
   exact kC (.c<| .v (sg hB)<| .q ad1<| .c<| .v (tu hB)<| .q ad2<| .p (GR d1 hB)<| .c<| .t (nF he)<| .c2<| .c2<| .q (eC (ag P0 d) (K.1++a.up).length (K.2++a.lo).length)<| .f hi.symm<| .c<| .z (iw hb (Qa (jT.v (ma K a))))) rfl
end
variable {dn:WW->Prop}{V0:QS R}
section
variable {X:PX R}{K:WW}{row:List R.α}
theorem ziq (z:Cx) {ep:Option Nat} (hD:h[D]?=Qa (.dict ep es)):jZ z (.bi vE) [.ref D] h=Qa (.int es.length,h):=W.eq (AC hD ⟨rfl,rfl⟩)
abbrev gS (X:PX R) (K t:WW):Nat->R.α:=λs=>yD X.N X.M t K (az X.M s)
def F0 {N q:Nat}{t:WW} (ha:xs[q]?=Qa a):yD N M t K (xs.drop q)=R.add (bif qb N K a then R.mul a.w (Bt M t (ma K a) a.t) else R.zero) (yD N M t K (xs.drop (q+1))):=by
 obtain⟨hq,e⟩:=Ju.mp ha;simp only[Kl hq,e];rfl
def zeg {n0 r:Nat}{y:R.α}{E e0:WW->R.α}{st:QS R} (hd:5<=d) (C:U2 X K aR c0 row dn) (hs:row[s]?=Qa y) (hm:xs∈X.M.aa) (hr:(X.L.ar.map ab.ref)[s]?=Qa (.ref r)) (H:NO R X.h r as xs) (hn:n0+xs.length<=X.M.ax) (P:PQ X K aR c0 row dn V0 n0 e0 st) (h0: ∀t,e0 t=R.add (R.mul y (yD X.N X.M t K xs)) (E t)):
  ∃s',PQ X K aR c0 row dn V0 (n0+xs.length) E s'/\s'.k=st.k/\exec (ag P0 d) (.fo [8] Qb (.sub (.aq (.var 0) kI) (.var 7)) Eg) (iz X sv (Qa (jT.v K)) (vN s) st.e st.f st.k) st.g=Qa ((.nx,iz X sv (Qa (jT.v K)) (vN s) s'.e s'.f s'.k),s'.g):=by
 obtain⟨s',P',e⟩:=qf (c:=ag P0 d) (tg:=[8]) (many:=Qb) (a:=r) (e:=.sub (.aq (.var 0) kI) (.var 7)) (b:=Eg) (vs:=as.map .ref) (λs':QS R=>iz X sv (Qa (jT.v K)) (vN s) s'.e s'.f s'.k) QS.g (λq s'=>PQ X K aR c0 row dn V0 (n0+q) (λt=>R.add (R.mul y (yD X.N X.M t K (xs.drop q))) (E t)) s'/\s'.k=st.k) st
  (H.n▸Jl (Jl (Jw _ _) hn) (Jl C.O.G.c (by decide))) rfl (λq s' P=>P.1.rw'.up' H.l) (by exact kJ (.v (nD (P.rw'.qa C.O.I))<| .v (sl (P.rw'.qa C.O.I).aa hr)<| .z (ck (.ref r) st.g)) (by kernel_rfl)) ⟨(⟨P.rw',P.lo,P.hi,P.dg,P.vr,P.ad,P.ky,(λt ht=>by rw[<-P.w t ht,h0 t];rfl),P.fx,P.al.al,P.al.kp,P.al.nw⟩:PQ X K aR c0 row dn V0 (n0+0) (λt=>R.add (R.mul y (yD X.N X.M t K (xs.drop 0))) (E t)) st),rfl⟩ (λq v s' R1 _ hv P1 T1=>by
   refine xEEAA (H.a q v hv) λb x cv hx hb=>?_;refine eqB cv ?_;have ga:=C.O.G.fk _ hm x (Jq hx);exact mL (Pf hd C hs (n:=n0+q) (Js (J3 (jY hx) _) hn) hb ga.1 ga.2.1 ga.2.2.1 ga.2.2.2.1 (C.O.up K C.hK _ hm x (Jq hx)) P1.1 (T:=λt=>yD X.N X.M t K (xs.drop (q+1))) (E:=E) (λt _=>by rw[F0 hx]) (λ_=>rfl) λs2 P2 k2=>T1.nx _ ⟨P2,k2.trans P1.2⟩))
 rw[H.n] at P';refine⟨s',⟨P'.1.rw',P'.1.lo,P'.1.hi,P'.1.dg,P'.1.vr,P'.1.ad,P'.1.ky,λt ht=>?_,P'.1.fx,P'.1.al⟩,P'.2,e⟩
 have:=P'.1.w t ht
 rw[Ke,show yD X.N X.M t K []=R.zero from rfl,R.mul_zero,R.zero_add] at this;exact this
abbrev CT:List Sm:= [.ite (.ew .eq (.sub (.sub (.var 4) (.var 6)) (.var 7)) (.aq (.var 2) rz)) [.cont] [],.fo [8] Qb (.sub (.aq (.var 0) 1634886515) (.var 7)) Eg,.ite (.ew .gt (.call (.lit (.bi 7103854)) [.var 4]) (.lit (.int 20000))) [.bL (.lit (.str [116,111,111,32,109,97,110,121,32,119,111,114,100,115]))] []]
def zbs {n0 n1:Nat}{e0 e1:WW->R.α}{st:QS R} (hd:5<=d) (C:U2 X K aR c0 row dn) (hs:s<X.M.aa.length) (P:PQ X K aR c0 row dn V0 n0 e0 st) (hn:n1=n0+(az X.M s).length) (hc:n1<=X.M.ax) (h0: ∀t,e0 t=R.add (R.mul (at' row s) (gS X K t s)) (e1 t))
  (q1: ∀s',PQ X K aR c0 row dn V0 n1 e1 s'->s'.k=st.k->R' .nx (iz X sv (Qa (jT.v K)) s'.d s'.e s'.f s'.k) s'.g) (q2: ∀s',PQ X K aR c0 row dn V0 n1 e1 s'->s'.k=st.k->R' .ct (iz X sv (Qa (jT.v K)) s'.d s'.e s'.f s'.k) s'.g):
  cq (ag P0 d) CT (iz X sv (Qa (jT.v K)) (vN s) st.e st.f st.k) st.g R':=by
 have hsr:=Un (l:=row) (s:=s) (by rw[C.len];exact hs);have hRa:=P.rw'.row K aR P.ad;rw[P.vr] at hRa;refine xEEAAA P.rw'.dd λep es hDd hKy _ hdg=>?_;have f1:=sd hDd (qH (T:=jT) hKy) ((hdg K).trans (by rw[P.ad];rfl):j7 es (jT.v K)=Qa (.ref aR));cases R.ft (at' row s) R.zero with
 |isTrue hz=>
  have P':PQ X K aR c0 row dn V0 n1 e1 {st with d:=vN s}:=⟨P.rw',P.lo,hn▸Jl P.hi (Jr (Jo _ _) _),P.dg,P.vr,P.ad,P.ky,(λt ht=>by
   have:=P.w t ht
   rw[h0 t,hz,R.zero_mul,R.zero_add] at this;exact this),P.fx,⟨P.al.al,P.al.kp,P.al.nw⟩⟩
  exact kC (.v f1<| .v (sl hRa (yI hsr))<| .w (R.no)<| .k (R.qe (at' row s) R.zero)<| .t (R.yes hz)<| .z (q2 _ P' rfl)) rfl
 |isFalse hz=>
  refine(C.O.I.oq hs).elim λr zq3=>zq3.elim λas zq4=>?_;refine xEAA (zeg (sv:=sv) hd C hsr zq4.2.2 zq4.1 zq4.2.1 (hn▸hc) P h0) λs' P' k' e=>?_;refine xEEAAA P'.rw'.dd λep' es' hD' _ hc' _=>?_;have N:PQ X K aR c0 row dn V0 n1 e1 {s' with d:=vN s}:=by refine eqB hn ?_;exact⟨P'.rw',P'.lo,P'.hi,P'.dg,P'.vr,P'.ad,P'.ky,P'.w,P'.fx,P'.al.al,P'.al.kp,P'.al.nw⟩
  exact kC (.v f1<| .v (sl hRa (yI hsr))<| .w (R.no)<| .k (R.qe (at' row s) R.zero)<| .f (R.not hz)<| .s (e)<| .p (ziq (ag P0 d) hD')<| .c<| .f (decide_eq_false (YW.mpr (YP.mpr (Jl hc' (Jl P'.hi (Jl (Jr (hn▸hc) _) (Jl C.cc (JK C.O.cl)))))): ¬((20000:Int)<(es'.length:Int))))<| .z (q1 _ N k')) rfl
end
section
variable {X:PX R}{K:WW}{row:List R.α}
def zgk {F e0:WW->R.α}{st:QS R} (hd:5<=d) (C:U2 X K aR c0 row dn) (P:PQ X K aR c0 row dn V0 0 e0 st) (h0: ∀t,e0 t=R.add (j6 row (gS X K t) 0) (F t)):
  ∃s',PQ X K aR c0 row dn V0 X.M.ax F s'/\s'.k=st.k/\exec (ag P0 d) (.fo [7] Qb (.call (.lit (.ty 491260897125)) [.bh (.var 0) 1936292453 []]) CT) (iz X sv (Qa (jT.v K)) st.d st.e st.f st.k) st.g=Qa ((.nx,iz X sv (Qa (jT.v K)) s'.d s'.e s'.f s'.k),s'.g):=by
 have I:=P.rw'.qa C.O.I;obtain⟨s',P',e⟩:=kh (c:=ag P0 d) (x:=7) (n:=X.M.aa.length) (e:=.call (.lit (.ty 491260897125)) [.bh (.var 0) 1936292453 []]) (b:=CT) (λs':QS R=>iz X sv (Qa (jT.v K)) s'.d s'.e s'.f s'.k) QS.g (λs s'=>PQ X K aR c0 row dn V0 (nE X.M s) (λt=>R.add (j6 (row.drop s) (gS X K t) s) (F t)) s'/\s'.k=st.k) st
  (Jl I.bb (by decide)) rfl (by exact kJ (.p (mK (Jl (by decide) hd) I)<| .c<| .z (ck (.fy X.M.aa.length) st.g)) (by kernel_rfl)) ⟨(⟨P.rw',P.lo,Jl P.hi (Jr (Jy _) _),P.dg,P.vr,P.ad,P.ky,(λt ht=>by rw[<-P.w t ht,h0 t];rfl),P.fx,P.al⟩:PQ X K aR c0 row dn V0 (nE X.M 0) (λt=>R.add (j6 (row.drop 0) (gS X K t) 0) (F t)) st),rfl⟩ (λs s' R1 _ hs P1 T1=>zbs hd C hs P1.1 (tC hs) (xH C.O.I _) (λt=>by rw[EA (by rw[C.len];exact hs),R.add_assoc]) (λs2 P2 k2=>T1.nx _ ⟨P2,k2.trans P1.2⟩) λs2 P2 k2=>T1.ct _ ⟨P2,k2.trans P1.2⟩)
 have e1:nE X.M X.M.aa.length=X.M.ax:=by unfold nE;rw[Zc,I.ct]
 have e2:row.drop X.M.aa.length= []:=by rw[<-C.len,Ke]
 rw[e1,e2] at P';refine⟨s',⟨P'.1.rw',P'.1.lo,P'.1.hi,P'.1.dg,P'.1.vr,P'.1.ad,P'.1.ky,λt ht=>?_,P'.1.fx,P'.1.al⟩,P'.2,e⟩
 have:=P'.1.w t ht
 rw[show j6 [] (gS X K t) X.M.aa.length=R.zero from rfl,R.zero_add] at this;exact this
end
variable {dn':WW->Prop}
section
variable {X:PX R}{K:WW}
def Vh (X:PX R) (dn:WW->Prop) (V:WW->List R.α) (t:WW):R.α:= @ite _ (dn t) (Classical.propDecidable _) (j6 (V t) (cu X.M) 0) R.zero
theorem xB {V:WW->List R.α}{t:WW} (h:dn t):Vh X dn V t=j6 (V t) (cu X.M) 0:=if_pos h
theorem xC {V:WW->List R.α}{t:WW} (h: ¬dn t):Vh X dn V t=R.zero:=if_neg h
structure PT (X:PX R) (dn:WW->Prop) (b:Nat) (s:QS R):Prop where
 rw':RW jT R X.h s.g X.D X.M.aa.length s.c s.Ad s.V
 hc:s.c<=1+b*(X.M.ax+1)
 dg: ∀k,¬dn k-> ∀x∈s.V k,R.D (X.p*(sz k+1)) (X.k*(sz k+1)+s.c) x
 de: ∀k,dn k-> ∀x∈s.V k,R.D (X.p*(sz k+1)+X.pS) (X.k*(sz k+1)+X.kS+s.c) x
 ky: ∀k a,s.Ad k=Qa a->k∈X.cs
 ne: ∃k a,s.Ad k=Qa a
 w: ∀t∈X.cs,R.add (rX (T:=jT) X.cs dn (Bt X.M t) s.V) (Vh X dn s.V t)=X.W t
theorem Rd {b:Nat} (hb:b<n):1+(b+1)*(c+1)<=1+n*(c+1):=Jr (Zq _ hb) 1
def L7 {a b:Nat}{st:QS R} (hd:5<=d) (O:ly X) (hK:K∈X.cs) (S:RW jT R X.h st.g X.D X.M.aa.length st.c st.Ad st.V) (hA:st.Ad K=Qa a) (hc:st.c+X.M.ax<=1+(b+1)*(X.M.ax+1)) (hb:b<X.cs.length) (lo: ∀k,dn' k->sz k<=sz K) (hKd:dn' K)
  (dg: ∀k,¬dn' k-> ∀x∈st.V k,R.D (X.p*(sz k+1)) (X.k*(sz k+1)+st.c) x) (de: ∀k,dn' k-> ∀x∈st.V k,R.D (X.p*(sz k+1)+X.pS) (X.k*(sz k+1)+X.kS+st.c) x) (ky: ∀k a,st.Ad k=Qa a->k∈X.cs)
  (hw: ∀t∈X.cs,R.add (rX (T:=jT) X.cs dn' (Bt X.M t) st.V) (R.add (j6 (st.V K) (gS X K t) 0) (Vh X dn' st.V t))=X.W t):
  ∃s',PT X dn' (b+1) s'/\s'.k=st.k/\KM X.D (sz K) s' st/\exec (ag P0 d) (.fo [7] Qb (.call (.lit (.ty 491260897125)) [.bh (.var 0) 1936292453 []]) CT) (iz X sv (Qa (jT.v K)) st.d st.e st.f st.k) st.g=Qa ((.nx,iz X sv (Qa (jT.v K)) s'.d s'.e s'.f s'.k),s'.g):=by
 refine xEAA (zgk (V0:=st) (F:=Vh X dn' st.V) (sv:=sv) hd (⟨O,hK,Jl hc (Rd hb),S.len K,de K hKd,lo⟩:U2 X K a st.c (st.V K) dn') ⟨S,Jv _,Jv _,dg,rfl,hA,ky,hw,λ_ _=>rfl,KM.rfl'⟩ λt=>rfl) λs' P' k' e=>?_;refine⟨s',⟨P'.rw',Jl P'.hi hc,P'.dg,λk hk x hx=>?_,P'.ky,⟨K,a,P'.ad⟩,λt ht=>?_⟩,k',P'.al,e⟩
 ·rw[P'.fx k hk] at hx
  exact R.ah (Jv _) (Jr P'.lo _) (de k hk x hx)
 ·simp only[<-P'.w t ht]
  congr 1
  by_cases q:dn' t
  ·rw[xB q,xB q,P'.fx t q]
  ·rw[xC q,xC q]
structure zfK (X:PX R) (g t:MH) (a P K:Nat) (row row':List R.α):Prop where
 ge:g.length<=a
 at':(g++t)[a]?=Qa (.list (row'.map R.e))
 len:row'.length=X.M.aa.length
 dg: ∀x∈row',R.D (P+X.pS) (K+X.kS) x
 w: ∀u l i j,i<=u.length->j<=l.length->j6 row (Bv X.M u l i j) 0=j6 row' (xM X.M (Bv X.M u l) u l i j) 0
structure wx (X:PX R):Prop where
 r:X.ov= .none\/∃a,X.ov= .ref a
 no:X.ov= .none-> ∀row:List R.α,row.length=X.M.aa.length-> ∀u l i j,i<=u.length->j<=l.length->j6 row (Bv X.M u l i j) 0=j6 row (xM X.M (Bv X.M u l) u l i j) 0
 so: ∀aT,X.ov= .ref aT-> ∀ {d P K aR:Nat}{g:MH}{row:List R.α},5<=d->(∃t,g=X.h++t) ->g[aR]?=Qa (.list (row.map R.e)) ->row.length=X.M.aa.length->(∀x∈row,R.D P K x) ->4*(P+X.pS)+(K+X.kS)<=3800->
  ∃t a row',jZ (ag P0 d) (.ai 132) [.ai (112+R.i),.ref aR,.ref aT] g=Qa (.ref a,g++t)/\zfK X g t a P K row row'
def SP {V:WW->List R.α}{row':List R.α} (O:ly X) (hK:K∈X.cs) (h0: ¬dn K) (h1: ∀k,dn' k ↔ dn k\/k=K) (hl: ∀s,∀a∈az X.M s,dh a.up/\dh a.lo)
  (H: ∀u l i j,i<=u.length->j<=l.length->j6 (V K) (Bv X.M u l i j) 0=j6 row' (xM X.M (Bv X.M u l) u l i j) 0) {t:WW} (ht:t∈X.cs) (hw:R.add (rX (T:=jT) X.cs dn (Bt X.M t) V) (Vh X dn V t)=X.W t):
  R.add (rX (T:=jT) X.cs dn' (Bt X.M t) (cw (T:=jT) V K row')) (R.add (j6 row' (gS X K t) 0) (Vh X dn' (cw (T:=jT) V K row') t))=X.W t:=by
 have hKd:dn' K:=(h1 K).mpr (.inr rfl);rw[UD (T:=jT) hKd,<-hw,UC (T:=jT) O.nd hK h0 h1,(zdh (M:=X.M) (N:=X.N) (t:=t) (k:=K) (row:=V K) (row':=row') (O.len t ht).1 (O.len t ht).2 hl H)];have e:Vh X dn' (cw (T:=jT) V K row') t=R.add (if K=t then j6 row' (cu X.M) 0 else R.zero) (Vh X dn V t):=by
  by_cases q:K=t
  ·refine eqE q ?_
   rw[if_pos rfl,xB hKd,xC h0,R.add_zero,jX]
  ·rw[if_neg q,R.zero_add]
   by_cases q':dn t
   ·rw[xB q',xB ((h1 t).mpr (.inl q')),j3 λe=>q e.symm]
   ·rw[xC q',xC λh=>((h1 t).mp h).elim q' λe=>q e.symm]
 rw[e,<-R.add_assoc,R.add_comm (rX _ _ _ _),<-R.add_assoc];exact congrArg (λz=>R.add z (Vh X dn V t)) ((R.add_assoc _ _ _).trans ((congrArg (R.add _) (R.add_comm _ _)).trans (R.add_assoc _ _ _).symm))
end
section
variable {X:PX R}{K:WW}
def QS.upR (st:QS R) (g:MH) (K:WW) (a:Nat) (row:List R.α):QS R:=⟨g,cw (T:=jT) st.Ad K (Qa a),cw (T:=jT) st.V K row,st.c+1,st.a,st.b,st.d,st.e,st.f,st.k⟩
def zgm (e:X.ov= .none) (h:MH):nB .jj X.ov .none h=Qa false:=by rw[e];rfl
def zgl {a:Nat} (e:X.ov= .ref a) (h:MH):nB .jj X.ov .none h=Qa true:=by rw[e];rfl
def zcq (O:ly X) (hK:K∈X.cs) (hc:c<=X.cl):4*(X.p*(sz K+1)+X.pS)+(X.k*(sz K+1)+c+X.kS)<=3800:=by
 have hz:sz K+1+1<=2*X.N+2:=JW (Jl (JG (O.len K hK).1 (O.len K hK).2) (Jx (YO _).symm)) 2;have e3:=JF X.p hz;have e4:=JF X.k hz;rw[Kv] at e3 e4;have h1:X.p*(sz K+1)+X.pS<=X.p*(2*X.N+2):=Jl (Jr (Jl (Jw _ _) O.pp) _) e3;have h2:X.k*(sz K+1)+c+X.kS<=X.k*(2*X.N+2)+(X.cl+X.M.aa.length):=by
  rw[ZK];exact JG (Jl (Jr (Jl (Jw _ _) O.kk) _) e4) (Jl hc (Jo _ _))
 exact Jl (JG (JF 4 h1) h2) O.bd
theorem Er (O:ly X) (s:Nat): ∀a∈az X.M s,dh a.up/\dh a.lo:=λa ha=>by
 refine xEAA (mW ha) λys _ hy h=>?_;exact⟨(O.G.fk ys hy a h).2.1,(O.G.fk ys hy a h).2.2.1⟩
abbrev FV:List Sm:= [.ite (.ew .jj (.var 3) (.lit .none)) [.fq (.sb (.var 4) (.var 6)) (.call (.lit (.ai 132)) [.var 2,.sub (.var 4) (.var 6),.var 3])] [],.fo [7] Qb (.call (.lit (.ty 491260897125)) [.bh (.var 0) 1936292453 []]) CT]
section
variable {a b:Nat}{st:QS R}{sv:Option ab} (hd:5<=d) (O:ly X) (V:wx X) (hK:K∈X.cs) (h0: ¬dn K) (h1: ∀k,dn' k ↔ dn k\/k=K) (lo: ∀k,dn' k->sz k<=sz K) (hb:b<X.cs.length) (P:PT X dn b st) (hA:st.Ad K=Qa a)
 (q1: ∀s',PT X dn' (b+1) s'->s'.k=st.k->KM X.D (sz K) s' st->R' .nx (iz X sv (Qa (jT.v K)) s'.d s'.e s'.f s'.k) s'.g)
include hd O V hK h0 h1 lo hb P hA q1
def zby (hov:X.ov= .none):cq (ag P0 d) FV (iz X sv (Qa (jT.v K)) st.d st.e st.f st.k) st.g R':=by
 have hKd:dn' K:=(h1 K).mpr (.inr rfl);have eV:cw (T:=jT) st.V K (st.V K)=st.V:=funext λk=>by
  by_cases q:k=K
  ·refine eqE q ?_;exact jX
  ·exact j3 q
 obtain⟨s',P',k',m',e⟩:=L7 (sv:=sv) hd O hK P.rw' hA (b:=b) (dn':=dn') (Jl (JW P.hc _) (by rw(occs:=.all) [K6 b 1,Z5,<-J9];exact Jr (ZA _) _)) hb lo hKd
  (λk hk=>P.dg k λq=>hk ((h1 k).mpr (.inl q))) (λk hk x hx=>((h1 k).mp hk).elim (λq=>P.de k q x hx) λq=>by
   subst q;exact R.ah (Jo _ _) (JW (Jo _ _) _) (P.dg k h0 x hx)) P.ky
  (λt ht=>by
   have:=SP O hK h0 h1 (Er O) (V.no hov (st.V K) (P.rw'.len K)) ht (P.w t ht)
   rw(occs:=.all) [eV] at this
   exact this)
 exact kC (.k (zgm hov)<| .c<| .s (e)<| .z (q1 _ P' k' m')) rfl
def zbx (hov:X.ov= .ref aT):cq (ag P0 d) FV (iz X sv (Qa (jT.v K)) st.d st.e st.f st.k) st.g R':=by
 have S:=P.rw';have hcl:st.c<=X.cl:=Jl P.hc (Jr (Zq _ (JK hb)) 1);refine xEE (V.so aT hov hd S.pre (S.row K a hA) (S.len K) (P.dg K h0) (zcq O hK hcl)) λt a2 cv=>?_;refine xEA cv λrow' ec Nw=>?_;rw[<-hov] at ec;refine xEEAAA S.dd λep es hDd hKy hlen hdg=>?_;have hKe:j7 es (jT.v K)=Qa (.ref a):=(hdg K).trans (by rw[hA];rfl);have ge:X.h.length<=a2:=Jl (by obtain⟨t0,hg⟩:=S.pre;rw[hg,Jz];exact Jo _ _) Nw.ge;have S2:=(S.bz:RW jT R X.h (st.g++t) X.D X.M.aa.length st.c st.Ad st.V).kf (k:=K) (jS hDd) Nw.at' ge (λz' e=>absurd (kD (S.row z' _ e)) (ZU.mpr Nw.ge)) Nw.len (bif (j7 es (jT.v K)).isSome then ep else ep.map (· +1)) (S.ep hDd _);obtain⟨s',P',k',m',e⟩:=L7 (sv:=sv) (st:=st.upR _ K a2 row') hd O hK S2 (show cw (T:=jT) st.Ad K (Qa a2) K=Qa a2 from jX) (b:=b) (dn':=dn')
  (by show st.c+1+X.M.ax<=_;rw[K6 b 1,Z5,<-J9,J9 st.c,ZJ 1];exact JW P.hc _) hb lo ((h1 K).mpr (.inr rfl))
  (λk hk x hx=>by
   have hx:x∈cw (T:=jT) st.V K row' k:=hx;rw[j3 λq:k=K=>hk (by rw[q];exact((h1 K).mpr (.inr rfl)))] at hx;exact R.ah (Jv _) (Jr (ZA _) _) (P.dg k (λq=>hk ((h1 k).mpr (.inl q))) x hx))
  (λk hk x hx=>by
   have hx:x∈cw (T:=jT) st.V K row' k:=hx;by_cases q:k=K
   ·cases q
    rw[jX] at hx;exact R.ah (Jv _) (by show _<=_+(st.c+1);rw[ZK];exact Jr (ZA _) _) (Nw.dg x hx)
   ·rw[j3 q] at hx
    exact R.ah (Jv _) (Jr (ZA _) _) (P.de k (((h1 k).mp hk).resolve_right q) x hx))
  (λk a' h=>by
   have h:cw (T:=jT) st.Ad K (Qa a2) k=Qa a':=h;by_cases q:k=K
   ·rw[q];exact hK
   ·rw[j3 q] at h;exact P.ky k a' h)
  (λt ht=>by
   have:=SP O hK h0 h1 (Er O) Nw.w ht (P.w t ht)
   show R.add (rX (T:=jT) X.cs dn' (Bt X.M t) (cw (T:=jT) st.V K row')) (R.add (j6 (cw (T:=jT) st.V K row' K) (gS X K t) 0) (Vh X dn' (cw (T:=jT) st.V K row') t))=X.W t;rw[jX];exact this)
 exact kC (.k (zgl hov)<| .c<| .v (sd hDd (qH (T:=jT) hKy) hKe)<| .p (ec)<| .h (E9 (v:=.ref a2) (jS (t:=t) hDd) (qH (T:=jT) (k:=K) hKy) (Jt hlen (Jt hcl (Zx O.cl (by decide))):es.length<bb))<| .s (e)<| .z (q1 _ P' k' ⟨λk h=>m'.al k (by
  show ∃a,cw (T:=jT) st.Ad K (Qa a2) k=Qa a;by_cases q:k=K
  ·refine eqE q ?_;exact⟨a2,jX⟩
  ·rw[j3 q];exact h),λb vs n0 n1 n2=>m'.kp b vs n0 (λk e=>by
  have e:cw (T:=jT) st.Ad K (Qa a2) k=Qa b:=e;by_cases q:k=K
  ·rw[q,jX] at e
   obtain rfl:=Qa.inj e;exact ZU.mpr Nw.ge (kD n2)
  ·rw[j3 q] at e;exact n1 k e) (j4 (λe=>n0 e.symm) (jS n2)),λk hm h=>by
  by_cases q:k=K
  ·refine eqB q ?_;exact⟨a,hA⟩
  ·exact(m'.nw k hm h).elim λb e=>⟨b,(j3 (T:=jT) (f:=st.Ad) (x:=Qa a2) q).symm.trans e⟩⟩)) rfl
theorem Pd:cq (ag P0 d) FV (iz X sv (Qa (jT.v K)) st.d st.e st.f st.k) st.g R':=
 V.r.elim (zby hd O V hK h0 h1 lo hb P hA q1) λ⟨_,hov⟩=>zbx hd O V hK h0 h1 lo hb P hA q1 hov
end
end
section
variable {c:Cx}{fr:Internal.Frame}
def Rh (hD:h[D]?=Qa (.dict (Qa e) es)):pC h (.ref D)=Qa (.dk D es.length e):=by
 show ay Qd (ay (ay ((h[D]?.bind ae.list?).map λ_=>It.ls D) ((h[D]?.bind ae.dict?).bind λd=>d.1.map λep=>It.dk D d.2.length ep)) _)=_;rw[hD];rfl
def Pk (hD:h[D]?=Qa (.dict (Qa e) es)):lX h i (.dk D es.length e)=Qa (es.map (·.1))[i]?:=by
 show (h[D]?.bind ae.dict?).bind (λd=>au (d.1==Qa e && d.2.length==es.length) (Qa (d.2[i]?.map (·.1))))=_;rw[hD];show au (Qa e==Qa e && es.length==es.length) (Qa (es[i]?.map (·.1)))=_;simp only[beq_self_eq_true,beq_self_eq_true,JA];rfl
def Wj (p:ab->Bool) (f:ab->ab) (hf:es.length<c.cn) (hl:es.length<=bb)
  (q:WE c fr it h λv h1=>v= .ref D/\h1[D]?=Qa (.dict (Qa e) es)/\(∀v,v∈es.map (·.1) -> ∀acc,uj c (fr.set x (Qa v)) ifs (h1++ [.list acc]) λb h2=>h2=h1++ [.list acc]/\b=p v/\(b=Qe->WE c (fr.set x (Qa v)) eh h2 λy h3=>h3=h2/\y=f v))/\Q (.ref h1.length) (h1++ [.list (((es.map (·.1)).filter p).map f)])):WE c fr (.comp eh [x] Qb it ifs) h Q:=by
 refine zP (W.mono q λv h1 q=>?_);obtain⟨rfl,hD,st,q⟩:=q;refine⟨.dk D es.length e,es.map (·.1),Rh hD,by rw[Jp];exact hf,λi hh=>hh=h1++ [.list ((((es.map (·.1)).take i).filter p).map f)],rfl,?_,?_,?_⟩
 ·rintro i hh rfl;exact Pk (jS hD)
 ·rintro i v hv hh rfl
  refine mL (W.mono (st v (Jq hv) _) λb h2 q=>?_);obtain⟨rfl,rfl,q⟩:=q;have hi:=jY hv;have step:=congrArg (YA f) (HL (p:=p) hv);rw[JU] at step;refine br (λhb=>W.mono (q hb) λy h3 q=>?_) (λhb=>?_)
  ·obtain⟨rfl,rfl⟩:=q
   refine⟨_,ap,?_,?_⟩
   ·rw[Jp]
    have h1:=Z7 p ((es.map (·.1)).take i);rw[Kz] at h1;rw[Jp] at hi;exact Jt h1 (Jt (YD _ _) (Js hi hl))
   ·rw[wF]
    show _=h1++ [ae.list ((((es.map (·.1)).take (i+1)).filter p).map f)];rw[step,hb];rfl
  ·show _=h1++ [ae.list ((((es.map (·.1)).take (i+1)).filter p).map f)]
   rw[step,hb];show _=h1++ [ae.list (_++ [])];rw[Zm]
 ·rintro hh rfl
  exact Zc▸q
theorem BQ (p:ab->Bool) (hf:es.length<c.cn) (hl:es.length<=bb) (hx: ∀v,(fr.set x (Qa v))[x]?=Qa (Qa v))
  (q:WE c fr it h λv h1=>v= .ref D/\h1[D]?=Qa (.dict (Qa e) es)/\(∀v,v∈es.map (·.1) -> ∀acc,uj c (fr.set x (Qa v)) ifs (h1++ [.list acc]) λb h2=>h2=h1++ [.list acc]/\b=p v)/\Q (.ref h1.length) (h1++ [.list ((es.map (·.1)).filter p)])):WE c fr (.comp (.var x) [x] Qb it ifs) h Q:=
 Wj p id hf hl (W.mono q λv h1 q=>⟨q.1,q.2.1,λv hv acc=>(q.2.2.1 v hv acc).mono λb h2 z=>⟨z.1,z.2,λ_=>Wg (hx v) ⟨rfl,rfl⟩⟩,by rw[List.map_id];exact q.2.2.2⟩)
end
section
variable {N:Nat}{Ad:WW->Option Nat}{V:WW->List R.α}
def Re: ∀ {es:List (ab×ab)},pV jT es-> ∃ks:List WW,es.map (·.1)=ks.map jT.v:=by
 intro es
 induction es with
 |nil=>exact λ_=>⟨[],rfl⟩
 |cons p r ih=>
  intro K;obtain⟨a,e⟩:=K p (.head _);obtain⟨ks,q⟩:=ih λp hp=>K p (.tail _ hp);exact⟨a::ks,by rw[JO,JO,q,e]⟩
structure zfN (g:MH) (D c:Nat) (Ad:WW->Option Nat) (e:Nat) (es:List (ab×ab)) (ks:List WW):Prop where
 at':g[D]?=Qa (.dict (Qa e) es)
 kq:es.map (·.1)=ks.map jT.v
 nd:ks.Nodup
 mem: ∀k,k∈ks ↔ ∃a,Ad k=Qa a
 len:es.length<=c
def RW.qz (S:RW jT R h g D N c Ad V): ∃e es ks,zfN g D c Ad e es ks:=by
 refine xEEA S.sm λe es hD nd=>?_;refine xEEAAA S.dd λep es' h1 K hc hg=>?_;rw[hD] at h1;cases h1;refine xE (Re K) λks q=>?_;rw[q] at nd;refine⟨e,es,ks,hD,q,nd.of_map _ λa b hab e=>hab (congrArg jT.v e),λk=>?_,hc⟩;have hg:=hg k
 constructor
 ·intro hk
  have:jT.v k∈es.map (·.1):=q▸JJ.mpr ⟨k,hk,rfl⟩
  refine xEA (JJ.mp this) λp hp e1=>?_;cases hA:Ad k with
  |some a=>exact⟨a,rfl⟩
  |none=>
   rw[hA] at hg
   have:=List.find?_eq_none.mp (Option.map_eq_none_iff.mp hg) p hp
   rw[show p.1=jT.v k from e1,jT.eq,decide_eq_true rfl] at this;exact absurd rfl this
 ·rintro ⟨a,hA⟩
  rw[hA] at hg;refine xEA (Zl.mp hg) λp hp _=>?_;have h1:=KN hp;have h2:p.1∈es.map (·.1):=JJ.mpr ⟨p,Kj hp,rfl⟩;rw[q] at h2;refine xEA (JJ.mp h2) λb hb e2=>?_;rw[<-e2,jT.eq] at h1;exact of_decide_eq_true h1▸hb
def Ea (l:List WW):Wz (l.map jT.v)=Qa l:=by
 delta Wz
 induction l with
 |nil=>rfl
 |cons a l ih=>
  rw[JO,Yt,ih];rfl
def ze8 (z:Cx) {a:Nat}{l:List WW} (ha:g[a]?=Qa (.list (l.map jT.v))) (hl:l.length<=60):jZ z (.bi tR) [.ref a] g=Qa (.ref g.length,g++ [.list ((mB l).map jT.v)]):=by
 refine W.eq (AD (v:=.ref g.length) (h':=g++ [.list ((mB l).map jT.v)]) ?_ ⟨rfl,rfl⟩);show ay ((dictAt g (.ref a)).bind _) (ay ((dictAt g (.ref a)).bind _) ((kY g (.ref a)).bind λvs=>(Wz vs).bind λl=>au (Zj l.length 60) (lK g (.list ((mB l).map lc)))))=_;rw[HU ha,pB ha];show (Wz (l.map jT.v)).bind _=_;rw[Ea];show au (Zj l.length 60) _=_;rw[KF hl];rfl
def ze9 (z:Cx) {a:Nat}{ep:Option Nat}{l:List WW} (ha:g[a]?=Qa (.dict ep es)) (hk:es.map (·.1)=l.map jT.v) (hl:l.length<=60):jZ z (.bi tR) [.ref a] g=Qa (.ref g.length,g++ [.list ((mB l).map jT.v)]):=by
 refine W.eq (AD (v:=.ref g.length) (h':=g++ [.list ((mB l).map jT.v)]) ?_ ⟨rfl,rfl⟩);show ay ((dictAt g (.ref a)).bind λp=>(uV (p.2.map (·.1))).bind _) (ay ((dictAt g (.ref a)).bind λp=>(Wz (p.2.map (·.1))).bind λl=>au (Zj l.length 60) (lK g (.list ((mB l).map lc)))) _)=_;rw[oA ha];show ay ((uV (es.map (·.1))).bind _) (ay ((Wz (es.map (·.1))).bind _) _)=_;rw[hk,Ea];have e:(uV (l.map jT.v)).bind (λl=>au (!l.isEmpty && Zj (l.length+1) 64) (lK g (.list ((wC l).map .int))))=none:=by cases l<;>rfl
 refine(congrArg (λx=>ay x _) e).trans ?_;show ay (au (Zj l.length 60) _) _=_;rw[KF hl];rfl
def AX {cs ks:List WW} (nc:cs.Nodup) (nk:ks.Nodup) (p:WW->Bool) (hm: ∀k,k∈ks ↔ k∈cs/\p k=Qe):ks.Perm (cs.filter p)/\ks.length<=cs.length:=by
 have P:ks.Perm (cs.filter p):=(List.perm_ext_iff_of_nodup nk (nc.filter _)).mpr λk=>by rw[hm,Kx]
 exact⟨P,P.length_eq▸Z7 _ _⟩
end
section
variable {X:PX R}{K:WW}
def pz (s:Nat) (v:ab):Bool:=((zbu v).map λk=>decide (sz k=s)).getD Qb
theorem zgj (s:Nat) (k:WW):pz s (jT.v k)=decide (sz k=s):=rfl
theorem Fv (s:Nat) (ks:List WW):(ks.map jT.v).filter (pz s)=(ks.filter λk=>decide (sz k=s)).map jT.v:=List.filter_map ..
abbrev zcr:Ex:= .comp (.var 12) [12] Qb (.var 4) [.ew .eq (.ez .add (.call (.lit (.bi 7103854)) [.sub (.var 12) (.lit (.int 0))]) (.call (.lit (.bi 7103854)) [.sub (.var 12) (.lit (.int 1))])) (.var 5)]
def Rf {ks:List WW}{Ad:WW->Option Nat}{b z f x k:Option ab} (H:zfN g X.D c Ad e es ks) (hc:c<=100000):eval (ag P0 d) zcr (iz X (vN s) b z f x k) g=Qa (.ref g.length,g++ [.list ((ks.filter λk=>decide (sz k=s)).map jT.v)]):=by
 have hl:=Jl H.len hc;refine W.eq (BQ (pz s) (Jt hl (by decide:100000<200000)) (Jl hl (by decide)) (λ_=>rfl) (Wg rfl ⟨rfl,H.at',λv hv acc=>?_,rfl,?_⟩))
 ·rw[H.kq] at hv
  obtain⟨k,_,rfl⟩:=JJ.mp hv;refine Wf ((show WE (ag P0 d) _ _ (g++ [.list acc]) (λv h=>v= .bool (((k.1.length:Int)+(k.2.length:Int))==(s:Int))/\h=g++ [.list acc]) from kJ (.c4<| .c<| .k (uc ((k.1.length:Int)+(k.2.length:Int)) s)<| .z (ck (.bool (((k.1.length:Int)+(k.2.length:Int))==(s:Int))) (g++ [.list acc]))) rfl).mono λv h q=>?_);obtain⟨rfl,rfl⟩:=q;have e:(((k.1.length:Int)+(k.2.length:Int))==(s:Int))=pz s (jT.v k):=by
   rw[zgj,Ku,beq_iff_eq,decide_eq_true_eq];exact⟨λh=>YM.inj h,λh=>by rw[<-h];rfl⟩
  rw[e];exact zO ⟨λhb=>vY ⟨rfl,hb.symm⟩,λhb=>⟨rfl,hb.symm⟩⟩
 ·rw[H.kq,Fv]
end
def zfg {c:Cx}{a:Nat}{e:Ex}{b:List Sm} (F:σ->Internal.Frame) (G:σ->MH) (P:Nat->σ->Prop) (s0:σ) (hn:vs.length<=100000) (hc:c.cn=200000)
  (hk: ∀i s,P i s->(G s)[a]?=Qa (.list vs)) (e0:WE c (F s0) e h λv g=>v= .ref a/\g=G s0) (p0:P 0 s0)
  (step: ∀i v s R' R,vs[i]?=Qa v->P i s->To F G (P (i+1)) R R'->Wo (nG (F s) tg many v) λfr1=>cq c b fr1 (G s) R'): ∃s,P vs.length s/\exec c (.fo tg many e b) (F s0) h=Qa ((.nx,F s),G s):=by
 have w:WS c (.fo tg many e b) (F s0) h λfl f g=> ∃s,P vs.length s/\fl= .nx/\f=F s/\g=G s:=
  vZ F G P (by rw[hc];exact Js (JQ hn) (Jw _ _)) s0 hk (e0.mono λv g q=>⟨q.1,rfl,q.2,p0⟩) (λi v s R' hi hp T=>step i v s R' _ hi hp T) λs hp=>⟨s,hp,rfl,rfl,rfl⟩
 obtain⟨⟨fl,f⟩,g,e,s,hp,q1,q2,q3⟩:=W.get w;refine eqE q1 ?_;subst q2;subst q3;exact⟨s,hp,e⟩
section
variable {X:PX R}{b b':Nat}{st:QS R}
theorem PT.bz {t:MH} (P:PT X dn b st):PT X dn b {st with g:=st.g++t}:=⟨P.rw'.bz,P.hc,P.dg,P.de,P.ky,P.ne,P.w⟩
def PT.iw (P:PT X dn b st) (hb:b<=b') (h1: ∀k,dn k->dn' k) (h2: ∀k,dn' k->dn k\/st.Ad k=Qd):PT X dn' b' st:=by
 have zr: ∀k,st.Ad k=Qd-> ∀x∈st.V k,x=R.zero:=λk h x hx=>by
  rw[P.rw'.qv k h] at hx;exact Zk hx
 refine⟨P.rw',Jl P.hc (Jr (Zq _ hb) 1),λk hk=>P.dg k λq=>hk (h1 k q),λk hk x hx=>?_,P.ky,P.ne,λt ht=>?_⟩
 ·exact(h2 k hk).elim (λq=>P.de k q x hx) λq=>by rw[zr k q x hx];exact(R.ah (Jy _) (Jy _) R.bt)
 ·rw[<-P.w t ht]
  have hz: ∀k,dn' k-> ¬dn k->st.V k=lC R X.M.aa.length:=λk q n=>P.rw'.qv k ((h2 k q).resolve_left n);refine congr (congrArg R.add (mQ λk hk=>?_)) ?_
  ·by_cases q:dn k
   ·rw[if_pos q,if_pos (h1 k q)]
   ·by_cases q':dn' k
    ·rw[if_neg q,if_pos q',hz k q' q,mH]
    ·rw[if_neg q,if_neg q']
  ·by_cases q:dn t
   ·rw[xB q,xB (h1 t q)]
   ·by_cases q':dn' t
    ·rw[xC q,xB q',hz t q' q,mH]
    ·rw[xC q,xC q']
def E1 (p q:α->Bool): ∀ (l:List α),(∀x,p x=Qe->q x=Qb) ->(l.filter p).length+(l.filter q).length=(l.filter λx=>p x||q x).length:=by
 intro l h
 induction l with
 |nil=>rfl
 |cons x l ih=>
  simp only[List.filter_cons,List.filter_cons,List.filter_cons];cases hp:p x with
  |true=>
   rw[h x hp];show (x::l.filter p).length+(l.filter q).length=(x::l.filter λx=>p x||q x).length;simp only[ZE,ZE,<-ih,ZK]
  |false=>
   cases hq:q x with
   |true=>
    show (l.filter p).length+(x::l.filter q).length=(x::l.filter λx=>p x||q x).length;simp only[ZE,ZE,<-ih];rfl
   |false=>exact ih
def bs (X:PX R) (s:Nat):Nat:=(X.cs.filter λk=>decide (sz k<s)).length
def zcI (p:WW->Bool) (hp: ∀k,p k=Qe->sz k=s):bs X s+(X.cs.filter p).length<=X.cs.length/\bs X s+(X.cs.filter p).length<=bs X (s+1):=by
 have e:=E1 (λk=>decide (sz k<s)) p X.cs λk h=>by
  cases q:p k with
  |false=>rfl
  |true=>exact absurd (of_decide_eq_true h) (by rw[hp k q];exact Zb _)
 delta bs;rw[e];refine⟨Z7 _ _,?_⟩;rw[<-List.countP_eq_length_filter,<-List.countP_eq_length_filter];refine List.countP_mono_left λk _ h=>?_;rcases Xm.mp h with h|h
 ·exact decide_eq_true (Zy (of_decide_eq_true h))
 ·exact decide_eq_true (by rw[hp k h];exact JT _)
end
variable {s1:QS R}
section
variable {X:PX R}{b:Nat}{st:QS R}{l:List WW}
abbrev pb (s:Nat) (k:WW):Prop:=sz k<s
abbrev cD (s:Nat) (l:List WW) (j:Nat) (k:WW):Prop:=sz k<s\/k∈l.take j
structure SI (X:PX R) (s:Nat) (l:List WW) (s1:QS R) (k0:Option ab) (j:Nat) (st:QS R):Prop where
 P:PT X (cD s l j) (bs X s+j) st
 k:st.k=k0
 m:KM X.D s st s1
theorem PT.bF {y:Option ab} (P:PT X dn b st):PT X dn b {st with b:=y}:=⟨P.rw',P.hc,P.dg,P.de,P.ky,P.ne,P.w⟩
theorem PT.bG {y:Option ab} (P:PT X dn b st):PT X dn b {st with a:=y}:=⟨P.rw',P.hc,P.dg,P.de,P.ky,P.ne,P.w⟩
theorem Ej {K:WW} (nd:l.Nodup) (h:l[i]?=Qa K):K∉l.take i:=λq=>by
 rw[((KG i l).symm:l=l.take i++l.drop i),pN h] at nd;exact(Kq.mp nd).2.2 K q K (.head _) rfl
structure SL (X:PX R) (s:Nat) (l:List WW) (s1:QS R):Prop where
 nd:l.Nodup
 mem: ∀k,k∈l ↔ sz k=s/\∃a,s1.Ad k=Qa a
 cs: ∀k∈l,k∈X.cs
 n:bs X s+l.length<=X.cs.length/\bs X s+l.length<=bs X (s+1)
def OY (hd:5<=d) (O:ly X) (V:wx X) (H:SL X s l s1) (hv:(l.map jT.v)[i]?=Qa v) (I:SI X s l s1 k0 i st) (T:To (λs':QS R=>iz X (vN s) s'.b s'.d s'.e s'.f s'.k) QS.g (SI X s l s1 k0 (i+1)) R1 R'):
  Wo (nG (iz X (vN s) st.b st.d st.e st.f st.k) [6] Qb v) λfr1=>cq (ag P0 d) FV fr1 st.g R':=by
 rw[JA] at hv;obtain⟨K,hK,rfl⟩:=Zl.mp hv;have hm:=Jq hK;have q:=(H.mem K).mp hm;have hKs:sz K=s:=q.1;refine(I.m.al K q.2).elim λa hA=>?_;refine mL (Pd (dn:=cD s l i) (dn':=cD s l (i+1)) (a:=a) hd O V (H.cs K hm) (λh=>h.elim (λh=>absurd hKs (Z8 h)) (Ej H.nd hK)) (λk=>?_) (λk h=>?_) (b:=bs X s+i) (Js (J3 (jY hK) _) H.n.1) I.P hA λs' P' k' m'=>T.nx {s' with b:=Qa (jT.v K)} ⟨P'.bF,k'.trans I.k,I.m.trans (hKs▸ ⟨m'.al,m'.kp,m'.nw⟩)⟩)
 ·show sz k<s\/k∈l.take (i+1) ↔ (sz k<s\/k∈l.take i)\/k=K
  rw[zR hK,Zd,JE,or_assoc]
 ·exact h.elim (λh=>hKs▸JK h) λh=>Jx (((H.mem k).mp (Ky h)).1.trans hKs.symm)
abbrev CF:Sm:= .fo [6] Qb (.call (.lit (.bi 126922498794852)) [zcr]) FV
def CU (hd:5<=d) (O:ly X) (V:wx X) (C:X.cs.length<=60) (P:PT X (pb s) (bs X s) st): ∃st',PT X (pb (s+1)) (bs X (s+1)) st'/\st'.k=st.k/\exec (ag P0 d) CF (iz X (vN s) st.b st.d st.e st.f st.k) st.g=Qa ((.nx,iz X (vN s) st'.b st'.d st'.e st'.f st'.k),st'.g):=by
 refine xEE P.rw'.qz λe es cv=>?_;refine xE cv λks H=>?_;have nk:(ks.filter λk=>decide (sz k=s)).Nodup:=H.nd.filter _;have hm: ∀k,k∈ks.filter (λk=>decide (sz k=s)) ↔ sz k=s/\∃a,st.Ad k=Qa a:=λk=>by
  rw[Kx,H.mem,decide_eq_true_eq,and_comm]
 obtain⟨el,hl⟩:=AX (cs:=X.cs) (ks:=ks.filter λk=>decide (sz k=s)) O.nd nk (λk=>decide (sz k=s) && (st.Ad k).isSome) λk=>by
  rw[hm,Jm,decide_eq_true_eq,Zw];exact⟨λh=>⟨h.2.elim λa q=>P.ky k a q,h⟩,λh=>h.2⟩
 have f1:=Rf (d:=d) (X:=X) (s:=s) (b:=st.b) (z:=st.d) (f:=st.e) (x:=st.f) (k:=st.k) H (Jl P.hc (Jl (Jr (Zq _ (Z7 _ _)) 1) (Jl (JK O.cl) (by decide))):st.c<=100000)
 generalize ks.filter (λk=>decide (sz k=s))=kl at nk hm el hl f1
 have L:SL X s (mB kl) st:=by
  refine⟨(lP kl).nodup_iff.mpr nk,λk=>?_,λk hk=>?_,((lP kl).length_eq.trans el.length_eq)▸zcI _ λk h=>of_decide_eq_true (Jm.mp h).1⟩
  ·rw[(lP kl).mem_iff,hm]
  ·exact((hm k).mp ((lP kl).mem_iff.mp hk)).2.elim λa q=>P.ky k a q
 have f2:=ze8 (g:=st.g++ [.list (kl.map jT.v)]) (ag P0 d) (a:=st.g.length) ap (Jl hl C);have n60:(mB kl).length<=60:=(lP kl).length_eq▸Jl hl C
 generalize mB kl=l at L f2 n60
 have lt1:st.g.length<=(st.g++ [ae.list (kl.map jT.v)]).length:=by rw[Jz];exact Jo _ _
 obtain⟨s',I,e⟩:=zfg (c:=ag P0 d) (h:=st.g) (tg:=[6]) (many:=Qb) (e:=.call (.lit (.bi 126922498794852)) [zcr]) (b:=FV) (vs:=l.map jT.v) (a:=(st.g++ [ae.list (kl.map jT.v)]).length) (λs':QS R=>iz X (vN s) s'.b s'.d s'.e s'.f s'.k) QS.g (SI X s l {st with g:=st.g++ [.list (kl.map jT.v)]++ [.list (l.map jT.v)]} st.k) {st with g:=st.g++ [.list (kl.map jT.v)]++ [.list (l.map jT.v)]}
  (by rw[Jp];exact Jl n60 (by decide)) rfl (λi s2 I=>(I.m.kp _ _ (λe=>ZU.mpr lt1 (e▸kD H.at'):(st.g++ [ae.list (kl.map jT.v)]).length≠X.D) (λk e=>ZU.mpr lt1 (kD (P.rw'.row k _ e)): ∀k,st.Ad k≠Qa (st.g++ [ae.list (kl.map jT.v)]).length) ap).1) (by exact kJ (.p f1<| .p f2<| .z (ck (.ref (st.g++ [ae.list (kl.map jT.v)]).length) (st.g++ [.list (kl.map jT.v)]++ [.list (l.map jT.v)]))) (by kernel_rfl)) ⟨(P.bz.bz).iw (Jv _) (λk h=> .inl h) λk h=> .inl (h.elim id λh=>absurd h JB),rfl,KM.rfl'⟩ λi v s2 R' R1 hv I T=>OY (s1:={st with g:=st.g++ [.list (kl.map jT.v)]++ [.list (l.map jT.v)]}) hd O V ⟨L.nd,L.mem,L.cs,L.n⟩ hv I T
 rw[Jp] at I;refine⟨s',I.P.iw L.n.2 (λk h=>?_) (λk h=>?_),I.k,e⟩
 ·exact h.elim (λh=>Zy h) λh=>by
   show sz k<s+1;rw[((L.mem k).mp (Ky h)).1];exact JT _
 ·rcases Yh (JN h) with h|h
  ·exact .inl (.inl h)
  ·by_cases q:k∈l
   ·exact .inl (.inr (by rw[Zc];exact q))
   ·refine .inr ?_
    cases hA:s'.Ad k with
    |none=>rfl
    |some a=>exact absurd ((L.mem k).mpr ⟨h,I.m.nw k (Jx h) ⟨a,hA⟩⟩) q
end
section
variable {X:PX R}{b:Nat}{st:QS R}{l:List WW}
abbrev zbj:Sm:= .fo [5] Qb (.call (.lit (.ty 491260897125)) [.ez .add (.ez .mul (.lit (.int 2)) (.var 1)) (.lit (.int 1))]) [CF]
def zbt (hd:5<=d) (O:ly X) (V:wx X) (C:X.cs.length<=60) (P:PT X (pb 0) (bs X 0) st): ∃st',PT X (pb (2*X.N+1)) (bs X (2*X.N+1)) st'/\st'.k=st.k/\exec (ag P0 d) zbj (iz X st.a st.b st.d st.e st.f st.k) st.g=Qa ((.nx,iz X st'.a st'.b st'.d st'.e st'.f st'.k),st'.g):=by
 obtain⟨s',P',e⟩:=kh (c:=ag P0 d) (x:=5) (n:=2*X.N+1) (e:=.call (.lit (.ty 491260897125)) [.ez .add (.ez .mul (.lit (.int 2)) (.var 1)) (.lit (.int 1))]) (b:=[CF]) (λs':QS R=>iz X s'.a s'.b s'.d s'.e s'.f s'.k) QS.g (λi s'=>PT X (pb i) (bs X i) s'/\s'.k=st.k) st
  (Jl (Zn (JF 2 O.n)) (by decide)) rfl (by exact kJ (.q (W4 (a:=2) (b:=X.N) (by decide) (Jt O.n (by decide)))<| .c2<| .z (WK (2*X.N) st.g)) (by kernel_rfl)) ⟨P,rfl⟩ λi s' R1 _ hi P1 T1=>by
   refine xEAA (CU hd O V C P1.1) λs2 P2 k2 e=>?_;exact kC (.s e<| .z (T1.nx {s2 with a:=vN i} ⟨P2.bG,k2.trans P1.2⟩)) rfl
 exact⟨s',P'.1,P'.2,e⟩
def PT.eu (O:ly X) (P:PT X (pb (2*X.N+1)) b st) {t:WW} (ht:t∈X.cs):j6 (st.V t) (cu X.M) 0=X.W t:=by
 have hd: ∀t∈X.cs,pb (2*X.N+1) t:=λt ht=>JQ (Jl (JG (O.len t ht).1 (O.len t ht).2) (Jx (YO _).symm));simp only[<-P.w t ht,xB (hd t ht),tQ (T:=jT) λc hc h=>absurd (hd c hc) h,R.zero_add]
def Pe (O:ly X) (P:PT X (pb (2*X.N+1)) b st) (hb:b<=X.cs.length) {t:WW} (ht:t∈X.cs):4*(X.p*(sz t+1)+X.pS+X.p1)+(X.k*(sz t+1)+X.kS+st.c+X.k1+X.M.aa.length)<=3800:=by
 have hz:sz t+2<=2*X.N+2:=JW (Jl (JG (O.len t ht).1 (O.len t ht).2) (Jx (YO _).symm)) 2;exact(GY (n:=sz t) O.pp O.kk (Jl P.hc (Jr (Zq _ hb) 1):st.c<=X.cl) (Jl (JG (JF 4 (JF _ hz)) (JW (JF _ hz) _)) O.bd)).2.2
def Pa {a:Nat} (hd:4<=d) (O:ly X) (P:PT X (pb (2*X.N+1)) b st) (hb:b<=X.cs.length) {t:WW} (ht:t∈X.cs) (hA:st.Ad t=Qa a) (hg: ∃t,g=st.g++t):jZ (ag P0 d) (.ai 127) [.ref X.L.m,.ref a] g=Qa (R.e (X.W t),g):=by
 obtain⟨t',rfl⟩:=hg;have S:RW jT R X.h (st.g++t') X.D X.M.aa.length st.c st.Ad st.V:=P.rw'.bz
 have:=fn (P:=P0) rfl (Vj (Q:=λv g=>v=_/\g=_) hd (S.qa O.I) (S.row _ _ hA) (S.len _) (P.de t (JQ (Jl (JG (O.len t ht).1 (O.len t ht).2) (Jx (YO _).symm)):sz t<2*X.N+1)) O.G.ed (Pe O P hb ht) ⟨rfl,rfl⟩)
 rw[EB (o:=0) (b:=cu X.M) ((S.len _).trans O.I.di.symm) λs x hx=>by unfold cu;rw[ZM,hx];rfl,P.eu O ht] at this;exact this
end
section
variable {X:PX R}{b:Nat}{st:QS R}{l:List WW}
abbrev nz (W:WW->R.α) (k:WW):Bool:=!@decide (W k=R.zero) (R.ft _ _)
def pZ (W:WW->R.α) (l:List WW):List (ab×ab):=(l.filter (nz W)).map λk=>(jT.v k,R.e (W k))
def Ay (W:WW->R.α) (cs:List WW) (es:List (ab×ab)):Prop:= ∃l,es=pZ W l/\(l.filter (nz W)).Perm (cs.filter (nz W))
def FB {W:WW->R.α}{K:WW} (h:l[i]?=Qa K):pZ W (l.take (i+1))=pZ W (l.take i)++(bif !@decide (W K=R.zero) (R.ft _ _) then[(jT.v K,R.e (W K))] else[]):=by
 delta pZ;rw[zR h,Xs,JU]
 congr 1
 refine xO (!@decide (W K=R.zero) (R.ft _ _)) (λhb=>?_) λhb=>?_
 ·rw[hb]
  rw[List.filter_cons_of_pos (by exact hb)];rfl
 ·rw[hb]
  rw[List.filter_cons_of_neg (p:=nz W) (λe=>Za (hb.symm.trans e))];rfl
def FC {W:WW->R.α}{K:WW} (h:K∉l):j7 (pZ W l) (jT.v K)=none:=by
 refine Option.map_eq_none_iff.mpr (List.find?_eq_none.mpr λp hp q=>?_);obtain⟨k,hk,rfl⟩:=JJ.mp hp;rw[jT.eq] at q;exact h (of_decide_eq_true q▸(Kx.mp hk).1)
theorem UF {W:WW->R.α}:pV jT (pZ W l):=λp hp=>by
 obtain⟨k,_,rfl⟩:=JJ.mp hp;exact⟨k,rfl⟩
structure QO where
 ep:Nat
 es:List (ab×ab)
 b:Option ab
 v:Option ab
abbrev GA (st:QS R) (l:List WW) (s:QO):MH:=st.g++ [.dict (Qa s.ep) s.es,.list (l.map jT.v)]
abbrev yf (X:PX R) (st:QS R) (s:QO):Internal.Frame:=Qa (.ref X.L.m)::Qa (.int X.N)::Qa (.ai (112+R.i))::Qa X.ov::Qa (.ref X.D)::st.a::s.b::st.d::st.e::st.f::vR st.g.length::s.v::nn 6
abbrev zbE:List Sm:= [.fq (.nm 11) (.call (.lit (.ai 127)) [.var 0,.sub (.var 4) (.var 6)]),.ite (.ew .ne (.var 11) (.aq (.var 2) rz)) [.fq (.sb (.var 10) (.var 6)) (.var 11)] []]
def Pi {s:QO} (hd:4<=d) (O:ly X) (P:PT X (pb (2*X.N+1)) b st) (hb:b<=X.cs.length) (nd:l.Nodup) (n60:l.length<=60) (hm: ∀k∈l,∃a,st.Ad k=Qa a) (hv:(l.map jT.v)[i]?=Qa v) (I:s.es=pZ X.W (l.take i)) (T:To (yf X st) (GA st l) (λs=>s.es=pZ X.W (l.take (i+1))) R1 R'):
  Wo (nG (yf X st s) [6] Qb v) λfr1=>cq (ag P0 d) zbE fr1 (GA st l s) R':=by
 rw[JA] at hv;refine xEA (Zl.mp hv) λK hK cv=>?_;refine eqE cv ?_;refine xE (hm K (Jq hK)) λa hA=>?_;refine xEEAAA P.rw'.dd λep es hDd hKy _ hdg=>?_;have f1:=sd (jS (t:=[.dict (Qa s.ep) s.es,.list (l.map jT.v)]) hDd) (qH (T:=jT) hKy) ((hdg K).trans (by rw[hA];rfl):j7 es (jT.v K)=Qa (.ref a));have f2:=Pa (g:=GA st l s) hd O P hb (P.ky K a hA) hA ⟨_,rfl⟩;have st1:=FB (W:=X.W) hK;refine xO (!@decide (X.W K=R.zero) (R.ft _ _)) (λhq=>?_) λhq=>?_
 ·rw[hq,cond_true] at st1
  have f3:=E9 (h:=GA st l s) (v:=R.e (X.W K)) (a:=st.g.length) (oJ (j:=0)) (I▸qH (T:=jT) (k:=K) UF) (I▸by
   show ((((l.take i).filter _).map _).length)<bb;rw[Jp];exact Jt (Jl (Z7 _ _) (Jl (List.length_take_le' _ _) n60)) (by decide))
  have e3:(GA st l s).set st.g.length (.dict (bif (j7 s.es (jT.v K)).isSome then Qa s.ep else(Qa s.ep).map (· +1)) (nM s.es (jT.v K) (R.e (X.W K))))=GA st l ⟨s.ep+1,s.es++ [(jT.v K,R.e (X.W K))],Qa (jT.v K),Qa (R.e (X.W K))⟩:=by
   delta nM;rw[(I▸FC (Ej nd hK):j7 s.es (jT.v K)=Qd)];exact A0 (j:=0)
  rw[e3] at f3;exact mL (kC (.v f1<| .p f2<| .w (R.no)<| .k (R.qn (X.W K) R.zero)<| .t hq<| .h f3<| .z (T.nx ⟨s.ep+1,s.es++ [(jT.v K,R.e (X.W K))],Qa (jT.v K),Qa (R.e (X.W K))⟩ (by show s.es++_=_;rw[I,st1]))) rfl)
 ·rw[hq,cond_false,Zm] at st1
  exact mL (kC (.v f1<| .p f2<| .w (R.no)<| .k (R.qn (X.W K) R.zero)<| .f hq<| .z (T.nx {s with b:=Qa (jT.v K),v:=Qa (R.e (X.W K))} (I.trans st1.symm))) rfl)
end
section
variable {X:PX R}{b:Nat}{st:QS R}{l:List WW}
abbrev zgn:Sm:= .fo [6] Qb (.call (.lit (.bi 126922498794852)) [.var 4]) zbE
def zbJ {W:WW->R.α}{cs:List WW}{p:WW->Bool} (h: ∀k∈cs,p k=Qb->W k=R.zero):(cs.filter p).filter (nz W)=cs.filter (nz W):=by
 refine List.filter_filter.trans ?_;refine List.filter_congr λk hk=>?_;cases hp:p k with
 |true=>exact Yk _
 |false=>unfold nz;rw[Xu,h k hk hp];exact(congrArg (!·) (@decide_eq_true _ (R.ft R.zero R.zero) rfl)).symm
def Pb (hd:4<=d) (O:ly X) (C:X.cs.length<=60) (P:PT X (pb (2*X.N+1)) b st) (hb:b<=X.cs.length): ∃s l,Ay X.W X.cs s.es/\exec (ag P0 d) zgn (yf X st ⟨0,[],st.b,Qd⟩) (st.g++ [.dict (Qa 0) []])=Qa ((.nx,yf X st s),GA st l s):=by
 refine xEE P.rw'.qz λe es cv=>?_;refine xE cv λks H=>?_;obtain⟨el,hl⟩:=AX (cs:=X.cs) (ks:=ks) O.nd H.nd (λk=>(st.Ad k).isSome) λk=>by
  rw[H.mem,Zw];exact⟨λh=>⟨h.elim λa q=>P.ky k a q,h⟩,λh=>h.2⟩
 have f2:=ze9 (g:=st.g++ [.dict (Qa 0) []]) (ag P0 d) (jS H.at') H.kq (Jl hl C);have nd:(mB ks).Nodup:=(lP ks).nodup_iff.mpr H.nd;have n60:(mB ks).length<=60:=(lP ks).length_eq▸Jl hl C;have hm: ∀k∈mB ks,∃a,st.Ad k=Qa a:=λk hk=>(H.mem k).mp ((lP ks).mem_iff.mp hk);have eo:((mB ks).filter (nz X.W)).Perm (X.cs.filter (nz X.W)):=by
  refine(((lP ks).trans el).filter _).trans (.of_eq (zbJ λk hk h=>?_));have hA:st.Ad k=none:=by
   cases q:st.Ad k with
   |none=>rfl
   |some a=>rw[q] at h;cases h
  rw[<-P.eu O hk,P.rw'.qv k hA,mH]
 generalize mB ks=l at f2 nd n60 hm eo
 rw[Jz,JD] at f2;obtain⟨s',I,e⟩:=zfg (c:=ag P0 d) (h:=st.g++ [.dict (Qa 0) []]) (tg:=[6]) (many:=Qb) (e:=.call (.lit (.bi 126922498794852)) [.var 4]) (b:=zbE) (vs:=l.map jT.v) (a:=st.g.length+1) (yf X st) (GA st l) (λi s=>s.es=pZ X.W (l.take i)) ⟨0,[],st.b,Qd⟩
  (by rw[Jp];exact Jl n60 (by decide)) rfl (λi s2 _=>oJ (j:=1)) (by exact kJ (.p f2<| .z (ck (.ref (st.g.length+1)) (st.g++ [.dict (Qa 0) [],.list (l.map jT.v)]))) (by kernel_rfl)) rfl λi v s2 R' R1 hv I T=>Pi hd O P hb nd n60 hm hv I T
 rw[Jp,Zc] at I;exact⟨s',l,⟨l,I,eo⟩,e⟩
abbrev fP (X:PX R):QS R:=⟨W2 jT ([],[]) X.h X.M,cw (T:=jT) (λ_=>Qd) ([],[]) (Qa (X.h.length+1)),cw (T:=jT) (λ_=>lC R X.M.aa.length) ([],[]) (uF X.M),1,Qd,Qd,Qd,Qd,Qd,Qd⟩
def O1 (hs:M.start<M.aa.length):uF M=m5 (lC R M.aa.length) M.start M.first:=by
 delta uF m5 lC;rw[Z0,if_pos hs];show _=qaW _ _ (R.add R.zero M.first);rw[R.zero_add]
def gX (O:ly X) (eD:X.D=X.h.length+2) (h0:(([],[]):WW)∈X.cs) (eW: ∀t∈X.cs,X.W t=R.mul X.M.first (Bv X.M t.1 t.2 0 0 X.M.start)):PT X (pb 0) (bs X 0) (fP X):=by
 have z: ∀ {p k:Nat},R.D p k R.zero:=R.ah (Jy _) (Jy _) R.bt;refine⟨by rw[eD];exact Cn rfl,Jo _ _,λk _ x hx=>?_,λk hk=>absurd hk (Ze _),λk a h=>?_,⟨([],[]),X.h.length+1,(jX (T:=jT):cw (T:=jT) (λ_=>Qd) ([],[]) (Qa (X.h.length+1)) ([],[])=_)⟩,λt ht=>?_⟩
 ·have hx:x∈cw (T:=jT) (λ_=>lC R X.M.aa.length) ([],[]) (uF X.M) k:=hx
  by_cases e:k=([],[])
  ·subst e
   rw[jX (T:=jT)] at hx;rcases Km hx with hx|rfl
   ·simp only[Zk hx];exact z
   ·exact R.ah (Jl (Jl (Jo _ _) O.pp) (Jx (qaw X.p).symm)) (Zh (Jl (Jl (Jo _ _) O.kk) (Jx (qaw X.k).symm))) O.G.fst
  ·rw[j3 e] at hx
   simp only[Zk hx];exact z
 ·have h:cw (T:=jT) (λ_=>Qd) ([],[]) (Qa (X.h.length+1)) k=Qa a:=h
  by_cases e:k=([],[])
  ·exact e▸h0
  ·rw[j3 e] at h;cases h
 ·rw[xC (Ze _),R.add_zero]
  show rX (T:=jT) X.cs (pb 0) (Bt X.M t) (cw (T:=jT) (λ_=>lC R X.M.aa.length) ([],[]) (uF X.M))=_;rw[O1 O.G.st];refine(x5 (T:=jT) (V:=λ_=>lC R X.M.aa.length) O.nd h0 (Ze _) (by rw[(zlen:(lC R X.M.aa.length).length=X.M.aa.length)];exact O.G.st)).trans ?_;rw[tQ (T:=jT) λc _ _=>mH,R.add_zero,eW t ht];rfl
structure fA (R:Rg) (h g:MH) (v:ab) (W:WW->R.α) (cs:List WW):Prop where
 pre: ∃t,g=h++t
 v: ∃a ep es,v= .ref a/\g[a]?=Qa (.dict (Qa ep) es)/\Ay W cs es
def L6 (hd:7<=d) (O:ly X) (V:wx X) (C:X.cs.length<=60) (eg:g=X.h) (eD:X.D=X.h.length+2) (h0:(([],[]):WW)∈X.cs) (eW: ∀t∈X.cs,X.W t=R.mul X.M.first (Bv X.M t.1 t.2 0 0 X.M.start))
  (q: ∀g' v,fA R X.h g' v X.W X.cs->Q v g'):cq (ag P0 d) (mI.drop 4) (Qa (.ref X.L.m)::Qa (.int X.N)::Qa (.ai (112+R.i))::Qa X.ov::nn 14) g (Internal.Fin Q):=by
 subst eg;refine xEAA (zbt (Jl (by decide) hd) O V C (gX O eD h0 eW)) λs P k e=>?_;refine xEEA (Pb (d:=d) (Jl (by decide) hd) O C P (Z7 _ _)) λs2 l I e2=>?_;have f2:lK (X.h++ [ae.list [R.e R.zero],.list (((lC R X.M.aa.length).set X.M.start X.M.first).map R.e)]) (.dict (Qa 1) [(jT.v ([],[]),.ref (X.h.length+1))])=Qa (.ref X.D,W2 jT ([],[]) X.h X.M):=by
  delta lK W2 uF;rw[JD,eD,Jz];rfl
 rw[(k:s.k=Qd)] at e;exact kC (.p (fn (P:=P0) (d:=d) (h:=X.h) rfl (HK (Q:=λv g=>v=_/\g=_) (Jl (by decide) hd) O.I O.G.st ⟨rfl,rfl⟩))<| .p f2<| .s e<| .c<| .s e2<| .z (q _ _ ⟨P.rw'.pre.elim λt h=>⟨t++ [.dict (Qa s2.ep) s2.es,.list (l.map jT.v)],by rw[<-JD,<-h]⟩,s.g.length,s2.ep,s2.es,rfl,oJ (h:=s.g) (j:=0) (t:=[.dict (Qa s2.ep) s2.es,.list (l.map jT.v)]),I⟩:Q (.ref s.g.length) (GA s l s2))) (by kernel_rfl)
end
section
variable {T:Mc R.α}
abbrev pX (g:MH) (L:Ly) (T:Mc R.α) (N:Nat) (ov:ab) (p k p1 k1 pS kS:Nat) (cs:List WW) (W:WW->R.α):PX R:=⟨g,L,T,N,g.length+2,ov,p,k,p1,k1,pS,kS,cs,W⟩
def zbC {L':Ly}{N:Nat}{S:List (DR R)}{cs:List WW}{W:WW->R.α} (H:uR T) (O:lh (sX g aT T p K)) (Z:ET (sX g aT T p K) g0 S) (h1:p*T.aa.length<=pS) (h2:K*T.aa.length+T.aa.length+1+T.aa.length<=kS):
  wx (pX g0 L' T N (.ref g.length) pW kW p1 k1 pS kS cs W):=by
 refine⟨.inr ⟨_,rfl⟩,(λe=>nomatch e),λaT' e {d P K' aR g1 row} hd hg hR hl hD hb=>?_⟩;have e:g.length=aT':=by
  injection (e:ab.ref g.length= .ref aT')
 refine eqE e ?_;obtain⟨t,rfl⟩:=hg;obtain⟨v,g',e,t2,a,row',rfl,rfl,q⟩:=Internal.W.get (mJ (P:=P0) (d:=d) rfl (wG (X:=sX g aT T p K) (T:=S) (P:=P) (K:=K') (Q:=λv g'=> ∃t2 a row',v= .ref a/\g'=g0++t++t2/\zfK (pX g0 L' T N (.ref g.length) pW kW p1 k1 pS kS cs W) (g0++t) t2 a P K' row row') hd ⟨O,hR,hl,hD,Z.tb.r.bz,Z.len,Z.row,by
  exact Jl (JG (JF 4 (Jr h1 P)) (Jl (Jx (J9 _ _ _)) (Jr h2 K'))) hb⟩ λt2 V a1 a2 a3 a4=>⟨t2,_,V,rfl,rfl,ZA _,a1,a2,λx hx=>R.ah (Jr h1 P) (by
   exact Jl (Jx (J9 _ _ _)) (JG (Jv _) h2)) (a3 x hx),λu l i j hi hj=>(a4 _ _ (zar H hi hj)).symm⟩))
 exact⟨t2,a,row',e,q⟩
theorem zbD {L':Ly}{N:Nat}{cs:List WW}{W:WW->R.α} (H:uR T) (hE:WO T):wx (pX g0 L' T N .none pW kW p1 k1 pS kS cs W):=
 ⟨.inl rfl,λ_ row _ u l i j hi hj=>rJ λs _ _=>by
  rw[U4 H hi hj,vP,UU λa ha=>UG hE ha,R.add_zero],λaT e=>nomatch e⟩
end
def dE:List (List Nat):= [[],[97],[98]]
def jy:List WW:=dE.flatMap λu=>dE.map λl=>(u,l)
def Vk:jy.length=9/\jy.Nodup/\(∀k∈jy,k.1.length<=1/\k.2.length<=1)/\(([],[]):WW)∈jy:=by decide+kernel
def zcE: ∀k∈jy,∀u∈fz,∀l∈fz,max (k.1.length+u.length) (k.2.length+l.length)<=1->(k.1++u,k.2++l)∈jy:=by decide+kernel
structure eY (us:List (List Nat)) (M:Mc R.α) (h t:MH) (L':Ly) (T:Mc R.α):Prop where
 J:ak R (h++t) L' T
 Z:Lk us 9 16 T
 w: ∀u l,gc T u l=gc M u l
 n:T.aa.length<=M.aa.length
 tr: ∃ks mb1 mb2 bc,VE M ks mb1 mb2 bc/\oX M ks T
def zdC {T:Mc R.α} (Z:Lk us 9 16 M) (TR:oX M ks T): ∀ys∈T.aa,∀a∈ys,a.up∈us/\a.lo∈fz:=by
 intro ys hy a ha;cases TR with
 |tw h1 h2 ea he hs hf=>
  rw[ea] at hy;refine xEA (JJ.mp hy) λk _ cv=>?_;subst cv;refine xEA (List.mem_filterMap.mp ha) λb hb e=>?_;refine xEAA (mW hb) λzs _ hz hb=>?_
  have:=Z.us zs hz b hb
  by_cases q:b.t∈ks
  ·rw[if_pos q] at e;cases e;exact this
  ·rw[if_neg q] at e;cases e
 |nj h1 ea he hs hf=>
  rw[ea] at hy;rw[JE.mp hy] at ha;exact absurd ha JB
def zaX (hd:6<=d) (I:ak R h L M) (Z:Lk us 9 16 M): ∃t L' T,jZ (ag P0 d) (.ai 133) [.ref L.m] h=Qa (.ref L'.m,h++t)/\eY us M h t L' T:=by
 obtain⟨v,g,e,t,L',T,rfl,rfl,q⟩:=W.get (mJ (P:=P0) rfl (AO (Q:=λv g=> ∃t L' T,v= .ref L'.m/\g=h++t/\eY us M h t L' T) hd I Z.g λt L' T ks mb1 mb2 bc J ho TB TR=>by
  have TG:=Uw I Z.g TB TR J;exact⟨t,L',T,rfl,rfl,J,⟨TG.g,TG.up Z.up,Jl TG.len Z.n,Jl TG.ax Z.c,zdC Z TR⟩,λu l=>yU I Z.g TB TR (Z.g.dh Z.up) (TG.g.dh (TG.up Z.up)),TG.len,ks,mb1,mb2,bc,TB,TR⟩))
 exact⟨t,L',T,e,q⟩
def zeo: ∀n,n<10-> ∀c,c<17->1+c<=17/\1*n<=9/\17*n+n+1+n<=172/\4*(1*n)+(17*n+n+1)<=3800/\1+9*(c+1)<20000/\4*(10*(2*1+2))+(173*(2*1+2)+(1+9*(c+1)+n))<=3800:=by decide+kernel
variable {L':Ly}
def zd5 {T:Mc R.α}{ov:ab}{W:WW->R.α} (hu: ∀u∈us,u∈fz) (J:ak R g L' T) (Z:Lk us 9 16 T):ly (pX g L' T 1 ov 10 173 1 1 9 172 jy W):=by
 have b:=zeo T.aa.length (JQ Z.n) T.ax (JQ Z.c);have l:=Vk;refine⟨J,Z.g,(by decide:1+9<=10),(by decide:1+172<=173),?_,(by decide:1<=200),?_,l.2.1,l.2.2.1,λk hk ys hy a ha hb=>?_⟩
 ·show 1+jy.length*(T.ax+1)<20000
  rw[l.1];exact b.2.2.2.2.1
 ·show 4*(10*(2*1+2))+(173*(2*1+2)+(1+jy.length*(T.ax+1)+T.aa.length))<=3800
  rw[l.1];exact b.2.2.2.2.2
 ·have q:=Z.us ys hy a ha
  exact zcE k hk _ (hu _ q.1) _ q.2 (of_decide_eq_true (Jm.mp hb).2)
theorem Mp (Z:Lk us 9 16 M):uR M:=Z.g.dh Z.up
abbrev Wt (M:Mc R.α) (k:WW):R.α:=gc M k.1 k.2
structure vT (M:Mc R.α) (h g:MH) (a:Nat):Prop where
 pre: ∃t,g=h++t
 at': ∃ep es,g[a]?=Qa (.dict (Qa ep) es)/\Ay (Wt M) jy es
theorem vT.of {h0:MH} (p: ∃t,h=h0++t) (P:fA R h g v (Wt M) jy): ∃a,v= .ref a/\vT M h0 g a:=P.v.elim λa e=>e.elim λep e=>e.elim λes q=>⟨a,q.1,p.elim λt e=>P.pre.elim λs f=>⟨t++s,by rw[f,e,JD]⟩,ep,es,q.2⟩
def zfr:jy.length<=60:=by rw[Vk.1];decide
def L8 (hd:10<=d) (ne:R.da≠R.zero) (hu: ∀u∈us,u∈fz) (I:ak R h L M) (Z:Lk us 9 16 M): ∃a g,jZ (ag P0 d) (.ai 141) [.ref L.m,.int 1] h=Qa (.ref a,g)/\vT M h g a:=by
 have w:WF P0 d 141 [.ref L.m,.int 1] h λv g=> ∃a,v= .ref a/\vT M h g a:=by
  refine kN (K:=9) hd (Qa (.ref L.m)::Qa (.int 1)::nn 16) mI rfl λd' h'=>?_;refine(zaX (d:=d') (Jl (by decide) h') I Z).elim λt c=>c.elim λL' c=>c.elim λT c=>?_;have C:=c.2;have B:=zeo T.aa.length (JQ C.Z.n) T.ax (JQ C.Z.c);have n60:T.aa.length<=60:=Jl C.Z.n (by decide);refine(MV (d:=d') (K:=17) (p:=1) (k:=1) (Jl (by decide) h') C.J C.Z.g C.Z.up ne n60 B.1 B.2.2.2.1 (by decide)).elim λov e=>e.elim λg e=>?_;have tail:cq (ag P0 d') (mI.drop 4) (Qa (.ref L'.m)::Qa (.int 1)::Qa (.ai (112+R.i))::Qa ov::nn 14) g (Internal.Fin λv g=> ∃a,v= .ref a/\vT M h g a):=by
   have eW: ∀k∈jy,Wt M k=R.mul T.first (Bv T k.1 k.2 0 0 T.start):=λk _=>(C.w k.1 k.2).symm;cases e.2 with
   |no hE hv hg=>
    rw[hv,hg];exact L6 (X:=pX (h++t) L' T 1 .none 10 173 1 1 9 172 jy (Wt M)) (Jl (by decide) h') (zd5 hu C.J C.Z) (zbD (Mp C.Z) hE) zfr rfl rfl Vk.2.2.2 eW λg' v P=>vT.of ⟨t,rfl⟩ P
   |so t1 t2 S SS hv hg=>
    rw[hv,hg];exact L6 (X:=pX (h++t++t1++t2) L' T 1 (.ref (h++t++t1).length) 10 173 1 1 9 172 jy (Wt M)) (Jl (by decide) h') (zd5 hu C.J.bz.bz C.Z) (zbC (Mp C.Z) (CJ C.J C.Z.g C.Z.up n60 B.1 B.2.2.2.1) SS B.2.1 B.2.2.1) zfr rfl rfl Vk.2.2.2 eW λg' v P=>vT.of ⟨t++t1++t2,by simp only[JD]⟩ P
  exact oQ (a:=mI.take 4) (b:=mI.drop 4) (kC (.p (fn (P:=P0) (d:=d') (h:=h) rfl (Ek (a:=1) (b:=0) (c:=200) (x:=.str [108,101,110,103,116,104]) (Jl (by decide) h') (by decide) (by decide) (ck _ _)))<| .v (l8 I)<| .p c.1<| .p e.1<| .z (oH tail)) (by kernel_rfl))
 refine xEEA (W.get (mJ (P:=P0) rfl w)) λv g e cv=>?_;refine xEA cv λa gq P=>?_;subst gq;exact⟨a,g,e,P⟩
section
variable {h0:MH}
def B0 (M1 M2:Mc R.α):Nat->List (Ar R.α):=yR (yR (uU M1 M2) 0 (NZ M1.first (1+M1.start))) 0 (NZ M2.first (1+M1.aa.length+M2.start))
def z0 (M:Mc R.α) (b k:Nat) (f:Nat->R.α) (s:Nat):R.α:=if b<=s/\s<b+k then cu M (s-b) else f s
structure EnQ (N:Nat) (f:Nat->R.α) (es:List R.α):Prop where
 len:es.length=N
 at': ∀s,es[s]?.getD R.zero=f s
def EnQ.kf {N b:Nat}{f:Nat->R.α}{es:List R.α} (E:EnQ N (z0 M b k f) es) (hk:b+k<N):EnQ N (z0 M b (k+1) f) (es.set (b+k) (cu M k)):=by
 refine⟨by rw[J0];exact E.len,λs=>?_⟩;by_cases e:b+k=s
 ·subst e
  delta z0;rw[JV (by rw[E.len];exact hk),if_pos ⟨Jo _ _,JT _⟩,Z9];rfl
 ·rw[JZ e,E.at' s]
  delta z0;by_cases h:b<=s/\s<b+k
  ·rw[if_pos h,if_pos ⟨h.1,Zy h.2⟩]
  ·rw[if_neg h,if_neg λq=>h ⟨q.1,J8 (JN q.2) (Ka e)⟩]
theorem HQ {b:Nat}{f:Nat->R.α}:z0 M b 0 f=f:=funext λs=>if_neg λq=>ZU.mpr q.1 q.2
structure Se (R:Rg) where
 s:y8 R
 es:List R.α
structure NL (Y:JX R) (c:Nat) (A:Nat->List (Ar R.α)) (f:Nat->R.α) (s:Se R):Prop where
 H:JnP Y c A s.es s.s
 E:EnQ Y.N f s.es
def unF (Y:JX R) (a:Option ab):Internal.Frame:=Qa (.ref Y.L1.m)::Qa (.ref Y.L2.m)::Qa (.ref Y.h.length)::Qa (.int 1)::Qa (.int (1+Y.n1:Nat))::a::nn 6
abbrev rgE (x:Nat):Ex:= .call (.lit (.ty 491260897125)) [.bh (.var x) rC []]
abbrev unB (x y:Nat):List Sm:= [.expr (.bh (.var 2) SQ [.ez .add (.var x) (.var 5),.sub (.aq (.var y) lU) (.var 5)])]
section
variable {Y:JX R} (O:JOk Y)
include O
def B1 {b q0:Nat}{A:Nat->List (Ar R.α)}{f:Nat->R.α}{s:Se R} (hd:4<=d) (I:ak R Y.h L M) (G:kQ M p q0) (hk:k<M.aa.length) (hb:b+k<Y.N) (S:NL Y c A (z0 M b k f) s): ∃e1:(M.aj.map R.e)[k]?=Qa (R.e (cu M k)),∃g,kP (ag P0 d) (.ref Y.h.length) SQ [.int (b+k:Nat),R.e (cu M k)] s.s.g s.s.g=Qa (.none,g)/\∀z,NL Y c A (z0 M b (k+1) f) ⟨⟨g,{s.s.M with aj:=s.s.M.aj.set (b+k) (cu M k)},z,Qd⟩,s.es.set (b+k) (cu M k)⟩:=by
 obtain⟨D1,e1⟩:=eD G (I.di▸hk);obtain⟨v,g,e,rfl,H⟩:=W.get (I8 (d:=d) (Q:=λv g=>v= .none/\Mk R Y.h g Y.h.length {s.s.M with aj:=s.s.M.aj.set (b+k) (cu M k)} []) (s:=b+k) hd S.H.H (by rw[S.H.P.len];exact hb) D1 G.bd λg H=>⟨rfl,H⟩);exact⟨e1,g,e,λz=>⟨⟨H,S.H.P.sk⟩,S.E.kf hb⟩⟩
def un1 {s:Se R}{A:Nat->List (Ar R.α)}{f:Nat->R.α} (hd:5<=d) (P:NL Y c A f s): ∃s',NL Y c A (z0 Y.M1 1 Y.n1 f) s'/\exec (ag P0 d) (.fo [5] Qb (rgE 0) (unB 3 0)) (unF Y s.s.a) s.s.g=Qa ((.nx,unF Y s'.s.a),s'.s.g):=by
 refine kh (c:=ag P0 d) (x:=5) (n:=Y.n1) (e:=rgE 0) (b:=unB 3 0) (λs:Se R=>unF Y s.s.a) (λs=>s.s.g) (λk s=>NL Y c A (z0 Y.M1 1 k f) s) s (GH O.I1) rfl (by exact kJ (.p (mK (Jl (by decide) hd) (P.H.H.im O.I1))<| .c<| .z (ck (.fy Y.n1) s.s.g)) (by kernel_rfl)) (by rw[HQ];exact P) λk s R1 _ hk S C=>?_;obtain⟨e1,g,e,N⟩:=B1 O (d:=d) (Jl (by decide) hd) O.I1 O.G1 hk (Js (J3 hk 1) (Jo _ _)) S;exact kC (.c<| .v (sU (S.H.H.im O.I1))<| .v (sl (S.H.H.im O.I1).aj e1)<| .p (e)<| .z (C.nx _ (N (vN k)))) (by kernel_rfl)
def un2 {s:Se R}{A:Nat->List (Ar R.α)}{f:Nat->R.α} (hd:5<=d) (P:NL Y c A f s): ∃s',NL Y c A (z0 Y.M2 (1+Y.n1) Y.n2 f) s'/\exec (ag P0 d) (.fo [5] Qb (rgE 1) (unB 4 1)) (unF Y s.s.a) s.s.g=Qa ((.nx,unF Y s'.s.a),s'.s.g):=by
 refine kh (c:=ag P0 d) (x:=5) (n:=Y.n2) (e:=rgE 1) (b:=unB 4 1) (λs:Se R=>unF Y s.s.a) (λs=>s.s.g) (λk s=>NL Y c A (z0 Y.M2 (1+Y.n1) k f) s) s (GH O.I2) rfl (by exact kJ (.p (mK (Jl (by decide) hd) (P.H.H.im O.I2))<| .c<| .z (ck (.fy Y.n2) s.s.g)) (by kernel_rfl)) (by rw[HQ];exact P) λk s R1 _ hk S C=>?_;obtain⟨e1,g,e,N⟩:=B1 O (d:=d) (Jl (by decide) hd) O.I2 O.G2 hk (J3 hk _) S;exact kC (.c<| .v (sU (S.H.H.im O.I2))<| .v (sl (S.H.H.im O.I2).aj e1)<| .p (e)<| .z (C.nx _ (N (vN k)))) (by kernel_rfl)
theorem EnQ.zero:EnQ Y.N (λ_=>R.zero) (JL Y.N R.zero):=⟨Zu,λs=>by
 rw[Z0];by_cases h:s<Y.N
 ·rw[if_pos h];rfl
 ·rw[if_neg h];rfl⟩
def BZ (hd:8<=d): ∃s:Se R,jZ (ag P0 d) (.ai 183) [.ref Y.L1.m,.ref Y.L2.m] Y.h=Qa (.ref Y.h.length,s.s.g)/\NL Y (Y.M1.ax+Y.M2.ax+1+1) (B0 Y.M1 Y.M2) (z0 Y.M2 (1+Y.n1) Y.n2 (z0 Y.M1 1 Y.n1 λ_=>R.zero)) s:=by
 have w:WF P0 d 183 [.ref Y.L1.m,.ref Y.L2.m] Y.h λv g=>v= .ref Y.h.length/\∃s:Se R,g=s.s.g/\NL Y (Y.M1.ax+Y.M2.ax+1+1) (B0 Y.M1 Y.M2) (z0 Y.M2 (1+Y.n1) Y.n2 (z0 Y.M1 1 Y.n1 λ_=>R.zero)) s:=by
  refine kN (K:=7) hd (Qa (.ref Y.L1.m)::Qa (.ref Y.L2.m)::nn 10) pR (by kernel_rfl) λd' h'=>?_;refine(FW O (d:=d') h').elim λs0 a=>?_;have cc:=j_c O;have z:0<Y.N:=Js qa4 (Jl (Jo _ _) (Jo _ _));refine(mkA (d:=d') (s:=0) (a:=NZ Y.M1.first (1+Y.M1.start)) (Jl (by decide) h') a.2 z (Js (J3 O.G1.st 1) (Jo _ _)) (.inl rfl) (.inl rfl) O.G1.fst O.G1.bd (by lia)).elim λs1 b=>?_;refine(mkA (d:=d') (s:=0) (a:=NZ Y.M2.first (1+Y.n1+Y.M2.start)) (Jl (by decide) h') b.2 z (J3 O.G2.st _) (.inl rfl) (.inl rfl) O.G2.fst O.G2.bd (by lia)).elim λs2 c=>?_;refine(un1 O (d:=d') (Jl (by decide) h') (s:=⟨{s2 with a:=Qd},JL Y.N R.zero⟩) ⟨⟨c.2.H,c.2.P⟩,EnQ.zero O⟩).elim λs3 f=>?_;refine(un2 O (d:=d') (Jl (by decide) h') f.1).elim λs4 e=>?_;exact kC (.p (a.1)<| .c<| .v (vF (a.2.H.im O.I1))<| .v (rG (a.2.H.im O.I1))<| .c<| .p (b.1)<| .v (vF (b.2.H.im O.I2))<| .v (rG (b.2.H.im O.I2))<| .c<| .p (c.1)<| .s (f.2)<| .s (e.2)<| .z ((show ab.ref Y.h.length= .ref Y.h.length/\∃s:Se R,s4.s.g=s.s.g/\NL Y (Y.M1.ax+Y.M2.ax+1+1) (B0 Y.M1 Y.M2) (z0 Y.M2 (1+Y.n1) Y.n2 (z0 Y.M1 1 Y.n1 λ_=>R.zero)) s from⟨rfl,s4,rfl,e.1⟩))) (by kernel_rfl)
 obtain⟨v,g,e,rfl,s,rfl,q⟩:=W.get (mJ (P:=P0) rfl w);exact⟨s,e,q⟩
end
end
section
variable {B:Mc R.α}{l:List Nat}
def opA (a:Ar R.α):List (Ar R.α):= @ite _ (a.w=R.zero) (R.ft _ _) [] [a]
def Ls (hn:n=M.aa.length):sG M n 0 s=az M s:=by
 delta sG;by_cases h:s<n
 ·exact(if_pos h)
 ·rw[if_neg h]
  rw[(by unfold az;rw[ZH (Jl (Jx (K7 hn)) (J7 h))];rfl:az M s= [])];by_cases h2:s=n
  ·exact(if_pos h2)
  ·exact(if_neg h2)
def GL:uU M1 M2 s=(if 1<=s then(az M1 (s-1)).map (NX 1) else[])++(if 1+M1.aa.length<=s then(az M2 (s-(1+M1.aa.length))).map (NX (1+M1.aa.length)) else[]):=by
 delta uU nO;rw[Ls rfl,Ls rfl,qal]
def NI (h:M.aa.length<=s):az M s= []:=by unfold az;rw[ZH h];rfl
structure UnM (M1 M2 B:Mc R.α):Prop where
 n:B.aa.length=1+M1.aa.length+M2.aa.length
 a0:az B 0=opA (NZ M1.first (1+M1.start))++opA (NZ M2.first (1+M1.aa.length+M2.start))
 a1: ∀s,s<M1.aa.length->az B (1+s)=(az M1 s).map (NX 1)
 a2: ∀s,s<M2.aa.length->az B (1+M1.aa.length+s)=(az M2 s).map (NX (1+M1.aa.length))
 e0:cu B 0=R.zero
 e1: ∀s,s<M1.aa.length->cu B (1+s)=cu M1 s
 e2: ∀s,s<M2.aa.length->cu B (1+M1.aa.length+s)=cu M2 s
 st:B.start=0
 fi:B.first=R.da
theorem ES {A:Nat->List (Ar R.α)} (h:0≠s):yR A 0 a s=A s:=if_neg h
def BY {es:List R.α} (P:Ma (1+M1.aa.length+M2.aa.length) c (B0 M1 M2) es B) (E:EnQ (1+M1.aa.length+M2.aa.length) (z0 M2 (1+M1.aa.length) M2.aa.length (z0 M1 1 M1.aa.length λ_=>R.zero)) es):UnM M1 M2 B:=by
 have ee: ∀s,cu B s=z0 M2 (1+M1.aa.length) M2.aa.length (z0 M1 1 M1.aa.length λ_=>R.zero) s:=λs=>by
  show B.aj[s]?.getD R.zero=_;exact P.es▸E.at' s
 have ua: ∀s,0≠s->B0 M1 M2 s=uU M1 M2 s:=λs h=>(ES h).trans (ES h);refine⟨P.len,?_,λs hs=>?_,λs hs=>?_,?_,λs hs=>?_,λs hs=>?_,P.st,P.fi⟩
 ·rw[P.at' 0 (J5 (ZS (Jo _ _)))]
  have e:uU M1 M2 0= []:=by rw[GL,if_neg (by decide),if_neg (qa2 (J5 (Jo _ _)))];rfl
  show yR (yR _ 0 _) 0 _ 0=_;delta yR;rw[if_pos rfl,if_pos rfl,e];rfl
 ·rw[P.at' (1+s) (qac _ (J3 hs _)),ua _ (by lia),GL,if_pos (Jo _ _),if_neg (qa2 (J3 hs _)),Zm,Z9]
 ·rw[P.at' (1+M1.aa.length+s) (J3 hs _),ua _ (by lia),GL,if_pos (ZS (Jo _ _)),if_pos (Jo _ _),Z9,NI (M:=M1) (by lia:M1.aa.length<=1+M1.aa.length+s-1)];rfl
 ·rw[ee]
  delta z0;rw[if_neg (by lia),if_neg (by lia)]
 ·rw[ee]
  delta z0;rw[if_neg (by lia),if_pos ⟨Jo _ _,J3 hs _⟩,Z9]
 ·rw[ee]
  delta z0;rw[if_pos ⟨Jo _ _,J3 hs _⟩,Z9]
def C9 {b:Ar R.α} (h:b∈opA a):b=a/\a.w≠R.zero:=by
 delta opA at h;by_cases hz:a.w=R.zero
 ·rw[if_pos hz] at h;exact absurd h JB
 ·rw[if_neg hz] at h;exact⟨JE.mp h,hz⟩
inductive UnA (M1 M2:Mc R.α) (s:Nat) (a:Ar R.α):Prop
 |em (n:Mc R.α) (hn:n=M1\/n=M2) (k:Nat) (e:a=NZ n.first (k+n.start)) (hs:s=0) (hz:a.w≠R.zero) (hk:0<k) (kn:k+n.aa.length<=1+M1.aa.length+M2.aa.length)
 |sh (n:Mc R.α) (hn:n=M1\/n=M2) (k r:Nat) (b:Ar R.α) (hb:b∈az n r) (e:a=NX k b) (hs:s=k+r) (kn:k+n.aa.length<=1+M1.aa.length+M2.aa.length)
def zaT (H:UnM M1 M2 B) (hs:s<1+M1.aa.length+M2.aa.length) (ha:a∈az B s):UnA M1 M2 s a:=by
 by_cases h0:s=0
 ·rw[h0,H.a0] at ha
  rcases Zd.mp ha with ha|ha
  ·have q:=C9 ha
   exact .em M1 (.inl rfl) 1 q.1 h0 (q.1▸q.2) (by decide) (Jo _ _)
  ·have q:=C9 ha
   exact .em M2 (.inr rfl) (1+M1.aa.length) q.1 h0 (q.1▸q.2) (by lia) (Jv _)
 ·by_cases h1:s<1+M1.aa.length
  ·obtain⟨r,e⟩: ∃r,s=1+r:=⟨s-1,by lia⟩
   rw[e,H.a1 r (by lia)] at ha;exact(JJ.mp ha).elim λb q=> .sh M1 (.inl rfl) 1 r b q.1 q.2.symm e (Jo _ _)
  ·obtain⟨r,e⟩: ∃r,s=1+M1.aa.length+r:=⟨s-(1+M1.aa.length),by lia⟩
   rw[e,H.a2 r (by lia)] at ha;exact(JJ.mp ha).elim λb q=> .sh M2 (.inr rfl) (1+M1.aa.length) r b q.1 q.2.symm e (Jv _)
def Bp {ys:List (Ar R.α)}{F:Nat->Nat->Nat->R.α}:lS F u l i j (xs++ys)=R.add (lS F u l i j xs) (lS F u l i j ys):=by
 induction xs with
 |nil=>exact(R.zero_add _).symm
 |cons x xs ih=>rw[Yb,mY,mY,ih,R.add_assoc]
def Df {t:Nat}{F:Nat->Nat->Nat->R.α}:lS F u l i j (opA (NZ w t))=R.mul w (F i j t):=by
 delta opA;by_cases h:(NZ w t).w=R.zero
 ·rw[if_pos h]
  have h:w=R.zero:=h;simp only[h,R.zero_mul];rfl
 ·rw[if_neg h,mY]
  have e:oI u l i j (NZ w t)=true:=rfl;simp only[e,cond_true];exact R.add_zero _
def SA (HB:uR B) (H2:uR M) (he: ∀s,s<M.aa.length->cu B (k+s)=cu M s) (hA: ∀s,s<M.aa.length->az B (k+s)=(az M s).map (NX k)): ∀ {f i j s:Nat},i<=u.length->j<=l.length->s<M.aa.length->yA M u l i j s<f->Bv B u l i j (k+s)=Bv M u l i j s:=by
 intro f
 induction f with
 |zero=>exact λ_ _ _ h=>absurd h (Ze _)
 |succ f ih=>
  intro i j s hi hj hs hf;simp only[U4 HB hi hj,U4 H2 hi hj];delta Bn;simp only[he s hs,hA s hs]
  congr 1
  delta lS;simp only[Kw];refine mQ λa ha=>?_;show (bif oI u l i j a then R.mul a.w (Bv B u l (i+a.up.length) (j+a.lo.length) (a.t+k)) else R.zero)=_;cases hh:oI u l i j a with
  |false=>rfl
  |true=>
   have q:=wK H2 hi hj ha hh;refine(mW ha).elim λys p=>?_;simp only[cond_true,cond_true,ZJ a.t,ih q.1 q.2.1 (H2.t ys p.2.1 a p.2.2) (Js q.2.2 (JN hf))]
def zaS (H:UnM M1 M2 B) (HB:uR B) (H1:uR M1) (H2:uR M2) (h1:M1.start<M1.aa.length) (h2:M2.start<M2.aa.length) (u l:List Nat):gc B u l=R.add (gc M1 u l) (gc M2 u l):=by
 delta gc;simp only[H.fi,R.one_mul,H.st,U4 HB (Jy _) (Jy _)];delta Bn;simp only[H.e0,H.a0,Bp,Df,Df,SA (k:=1) HB H1 H.e1 H.a1 (Jy _) (Jy _) h1 (JT _),SA (k:=1+M1.aa.length) HB H2 H.e2 H.a2 (Jy _) (Jy _) h2 (JT _)];have e0:(if 0=u.length/\0=l.length then R.zero else R.zero)=R.zero:=by split<;>rfl
 simp only[e0,R.zero_add]
def zdL:az (M.mapA swA) s=(az M s).map swA:=by
 show (M.aa.map _)[s]?.getD []=_;delta az;rw[JA];cases M.aa[s]?<;>rfl
def zdK: ∀ {f i j s:Nat},BH (M.mapA swA) l u f j i s=BH M u l f i j s:=by
 intro f
 induction f with
 |zero=>exact rfl
 |succ f ih=>
  intro i j s;show R.add (if j=l.length/\i=u.length then cu M s else R.zero) (lS (BH (M.mapA swA) l u f) l u j i (az (M.mapA swA) s))=R.add (if i=u.length/\j=l.length then cu M s else R.zero) (lS (BH M u l f) u l i j (az M s));rw[zdL,ite_congr (propext and_comm:(j=l.length/\i=u.length)=(i=u.length/\j=l.length)) (λ_=>rfl) λ_=>rfl]
  congr 1
  delta lS;simp only[Kw];refine mQ λa _=>?_;show (bif jw l j a.lo && jw u i a.up then R.mul a.w (BH (M.mapA swA) l u f (j+a.lo.length) (i+a.up.length) a.t) else R.zero)=(bif jw u i a.up && jw l j a.lo then R.mul a.w (BH M u l f (i+a.up.length) (j+a.lo.length) a.t) else R.zero);rw[Bool.and_comm,ih]
def za8 (u l:List Nat):gc (M.mapA swA) l u=gc M u l:=by
 delta gc Bv;rw[zdK];delta yA;rw[ZJ (l.length-0)];show R.mul M.first (BH M u l (((u.length-0)+(l.length-0))*((M.aa.map _).length+1)+((M.aa.map _).length-M.start)+1) 0 0 M.start)=_;rw[Jp]
end
section
variable {B:Mc R.α}
theorem Hp {f:Ar R.α->Ar R.α}{P:Ar R.α->Prop} (h: ∀ys∈M.aa,∀a∈ys,P (f a)): ∀ys∈(M.mapA f).aa,∀a∈ys,P a:=λys hy a ha=>by
 refine(JJ.mp hy).elim λxs q=>?_;refine(JJ.mp (q.2.symm▸ha:a∈YA _ xs)).elim λb p=>?_;exact p.2▸h xs q.1 b p.1
theorem wL {f:Ar R.α->Ar R.α}:(M.mapA f).aa.length=M.aa.length:=Jp ..
theorem za9 (a:Ar R.α):(swA a).fh=a.fh:=Bool.and_comm _ _
theorem Lk.sw (Z:Lk fz n c M):Lk fz n c (M.mapA swA):=
 ⟨⟨by rw[wL];exact Z.g.st,by
  rw[wL];exact Hp (P:=λa=>a.t<M.aa.length/\dh a.up/\dh a.lo/\R.D 1 1 a.w/\a.w≠R.zero) λys hy a ha=>(Z.g.fk ys hy a ha).imp id λq=>⟨q.2.1,q.1,q.2.2⟩,Z.g.fst,Z.g.ed,Z.g.bd,by rw[wL];exact Z.g.n,Z.g.c⟩,
 λs ys hy a ha he=>by
  have hy:(M.aa.map _)[s]?=Qa ys:=hy;rw[JA] at hy;refine(Zl.mp hy).elim λxs q=>?_;refine(JJ.mp (q.2.symm▸ha:a∈YA _ xs)).elim λb p=>?_;rw[<-p.2] at he ⊢;exact Z.up s xs q.1 b p.1 ((za9 b).symm.trans he),by rw[wL];exact Z.n,Z.c,Hp (P:=λa=>a.up∈fz/\a.lo∈fz) λys hy a ha=>(Z.us ys hy a ha).symm⟩
theorem Ez:([]:List Nat)∈fz:= .tail _ (.tail _ (.head _))
def zaU (H:UnM M1 M2 B) (Z1:zN fz M1) (Z2:zN fz M2) (hs:s<1+M1.aa.length+M2.aa.length) (ha:a∈az B s):(a.t<1+M1.aa.length+M2.aa.length/\dh a.up/\dh a.lo/\R.D 1 1 a.w/\a.w≠R.zero)/\(a.fh=Qe->s<a.t)/\a.up∈fz/\a.lo∈fz:=by
 have z: ∀n:Mc R.α,n=M1\/n=M2->zN fz n:=λn h=>h.elim (λe=>e▸Z1) λe=>e▸Z2;cases zaT H hs ha with
 |em n hn k e h0 hz hk kn=>
  have Z:=z n hn;rw[e] at hz ⊢;exact⟨⟨Js (J3 Z.g.st k) kn,.inl rfl,.inl rfl,Z.g.fst,hz⟩,λ_=>h0▸Js hk (Jo _ _),Ez,Ez⟩
 |sh n hn k r b hb e h0 kn=>
  refine(mW hb).elim λys q=>?_;rw[e];exact⟨⟨Js (Js (K5 ((z n hn).g.fk ys q.2.1 b q.2.2).1 k) (Jx (ZJ _ _))) kn,((z n hn).g.fk ys q.2.1 b q.2.2).2⟩,λhe=>by rw[h0,ZJ k];exact K5 ((z n hn).up r ys q.1 b q.2.2 he) k,(z n hn).us ys q.2.1 b q.2.2⟩
def zdz (H:UnM M1 M2 B) (Z1:zN fz M1) (Z2:zN fz M2) (hE:B.aj.length=B.aa.length) (hc:B.ax<=M1.ax+M2.ax+1+1):Lk fz 9 16 B:=by
 have lt: ∀ {s:Nat}{ys:List (Ar R.α)},B.aa[s]?=Qa ys->s<1+M1.aa.length+M2.aa.length/\az B s=ys:=λh=>⟨H.n▸jY h,NJ h⟩;have n9:B.aa.length<=9:=by rw[H.n];exact JG (Jr Z1.n 1) Z2.n
 have c16:B.ax<=16:=Jl hc (JW (JW (JG Z1.c Z2.c) 1) 1);have mem: ∀ys∈B.aa,∀a∈ys,∃s,s<1+M1.aa.length+M2.aa.length/\a∈az B s:=λys hy a ha=>(YU.mp hy).elim λs e=>⟨s,(lt e).1,(lt e).2▸ha⟩;refine⟨⟨by rw[H.st,H.n];exact J5 (ZS (Jo _ _)),λys hy a ha=>(mem ys hy a ha).elim λs q=>H.n.symm▸(zaU H Z1 Z2 q.1 q.2).1,by rw[H.fi];exact R.ah (Jy _) (Jy _) R.gd,λe he=>?_,by decide,Jl n9 (by decide),Jl c16 (by decide)⟩,λs ys h a ha=>(zaU H Z1 Z2 (lt h).1 ((lt h).2▸ha)).2.1,n9,c16,λys hy a ha=>(mem ys hy a ha).elim λs q=>(zaU H Z1 Z2 q.1 q.2).2.2⟩;refine(YU.mp he).elim λs hs=>?_;have hl:s<1+M1.aa.length+M2.aa.length:=H.n▸hE▸jY hs;rw[<-(by unfold cu;rw[hs];rfl:cu B s=e)];by_cases h0:s=0
 ·simp only[h0,H.e0];exact R.ah (Jy _) (Jy _) R.bt
 ·by_cases h1:s<1+M1.aa.length
  ·obtain⟨r,e⟩: ∃r,s=1+r:=⟨s-1,by lia⟩
   rw[e,H.e1 r (by lia)];exact Z1.g.wo r
  ·obtain⟨r,e⟩: ∃r,s=1+M1.aa.length+r:=⟨s-(1+M1.aa.length),by lia⟩
   rw[e,H.e2 r (by lia)];exact Z2.g.wo r
end
section
variable {l:List Nat}
structure UX (R:Rg) where
 g0:MH
 M1:Mc R.α
 M2:Mc R.α
 B:Mc R.α
 V:Mc R.α
 L1:Ly
 L2:Ly
 LB:Ly
 LV:Ly
 ns:List Int
 aW:Nat
structure UOk (X:UX R):Prop where
 ne:R.da≠R.zero
 I1:ak R X.g0 X.L1 X.M1
 I2:ak R X.g0 X.L2 X.M2
 IB:ak R X.g0 X.LB X.B
 IV:ak R X.g0 X.LV X.V
 Z1:Lk fz 9 16 X.M1
 Z2:Lk fz 9 16 X.M2
 ZB:Lk fz 9 16 X.B
 ZV:Lk fz 9 16 X.V
 w: ∀u l,gc X.B u l=R.add (gc X.M1 u l) (gc X.M2 u l)
 v: ∀u l,gc X.V l u=gc X.B u l
 W:X.g0[X.aW]?=Qa (.list (wds.map .str))
def NY (X:UX R) (k u l v f:Option ab):Internal.Frame:=Qa (.fl (X.ns.map .int))::Qa (.ai (112+R.i))::Qa (.ref X.L1.m)::Qa (.ref X.L2.m)::Qa (.ref X.LB.m)::Qa (.ref X.LV.m)::Qa (.ref X.aW)::k::u::l::v::f::nn 6
structure MS where
 g:MH
 k:Option ab:=Qd
 u:Option ab:=Qd
 l:Option ab:=Qd
 v:Option ab:=Qd
abbrev laB:List Sm:= [(Sm.fq (T1.nm 8) (Ex.sub (Ex.var 6) (Ex.ez gn.mod (Ex.call (Ex.lit (ab.ai 137)) [(Ex.var 0),(Ex.ez gn.add (Ex.lit (ab.int 25)) (Ex.var 7))]) (Ex.lit (ab.int 7))))),(Sm.fq (T1.nm 9) (Ex.sub (Ex.var 6) (Ex.ez gn.mod (Ex.call (Ex.lit (ab.ai 137)) [(Ex.var 0),(Ex.ez gn.add (Ex.lit (ab.int 29)) (Ex.var 7))]) (Ex.lit (ab.int 7))))),(Sm.fq (T1.nm 10) (Ex.bh (Ex.var 1) vm [(Ex.call (Ex.lit (ab.ai 106)) [(Ex.var 2),(Ex.var 8),(Ex.var 9)]),(Ex.call (Ex.lit (ab.ai 106)) [(Ex.var 3),(Ex.var 8),(Ex.var 9)])])),(Sm.ite (Ex.ew rq.ne (Ex.call (Ex.lit (ab.ai 106)) [(Ex.var 4),(Ex.var 8),(Ex.var 9)]) (Ex.var 10)) [(Sm.ret (Ex.lit (ab.bool Qb)))] []),(Sm.ite (Ex.ew rq.ne (Ex.call (Ex.lit (ab.ai 106)) [(Ex.var 5),(Ex.var 9),(Ex.var 8)]) (Ex.var 10)) [(Sm.ret (Ex.lit (ab.bool Qb)))] [])]
def zeZ {X:UX R} (O:UOk X) {s:MS} (hd:10<=d) (P: ∃t,s.g=X.g0++t) (q: ∀s':MS,(∃t,s'.g=X.g0++t) ->R' .nx (NY X (vN k) s'.u s'.l s'.v Qd) s'.g):cq (ag P0 d) laB (NY X (vN k) s.u s.l s.v Qd) s.g R':=by
 refine(So (a:=X.aW) (P.elim λt eg=>eg▸jS O.W) (cell X.ns (25+k))).elim λi1 a=>a.2.elim λu b=>(So (a:=X.aW) (P.elim λt eg=>eg▸jS O.W) (cell X.ns (29+k))).elim λi2 c=>c.2.elim λl f=>P.elim λt eg=>?_;refine(Gf (d:=d) (g:=s.g) hd O.ne (eg▸O.I1.bz) O.Z1 b.2.1 f.2.1).elim λt1 w1=>(Gf (d:=d) (g:=s.g++t1) hd O.ne (ak.bz (eg▸O.I2.bz)) O.Z2 b.2.1 f.2.1).elim λt2 w2=>?_;refine(Gf (d:=d) (g:=s.g++t1++t2) hd O.ne (ak.bz (ak.bz (eg▸O.IB.bz))) O.ZB b.2.1 f.2.1).elim λt3 w3=>(Gf (d:=d) (g:=s.g++t1++t2++t3) hd O.ne (ak.bz (ak.bz (ak.bz (eg▸O.IV.bz)))) O.ZV f.2.1 b.2.1).elim λt4 w4=>?_;have d1:1<=d:=Jl (by decide) hd;have z1:(!@decide (gc X.B u l=R.add (gc X.M1 u l) (gc X.M2 u l)) (R.ft _ _))=false:=by rw[R.yes (O.w u l)];rfl
 have z2:(!@decide (gc X.V l u=R.add (gc X.M1 u l) (gc X.M2 u l)) (R.ft _ _))=false:=by rw[R.yes ((O.v u l).trans (O.w u l))];rfl
 exact kC (.c<| .q (rN d1 X.ns (25+k))<| .q (qF a.1 (by decide))<| .v (b.1)<| .c<| .q (rN d1 X.ns (29+k))<| .q (qF c.1 (by decide))<| .v (f.1)<| .p (w1.1)<| .p (w2.1)<| .q (R.pl (Jl (by decide) hd) w1.2 w2.2 (by decide))<| .p (w3.1)<| .k (R.qn (gc X.B u l) (R.add (gc X.M1 u l) (gc X.M2 u l)))<| .f (z1)<| .p (w4.1)<| .k (R.qn (gc X.V l u) (R.add (gc X.M1 u l) (gc X.M2 u l)))<| .f (z2)<| .z (q ⟨s.g++t1++t2++t3++t4,vN k,Qa (.str u),Qa (.str l),Qa (R.e (R.add (gc X.M1 u l) (gc X.M2 u l)))⟩ (⟨t++t1++t2++t3++t4,by rw[eg];simp only[JD]⟩: ∃r,s.g++t1++t2++t3++t4=X.g0++r))) (by kernel_rfl)
theorem zcp {X:UX R} (O:UOk X) (hd:10<=d): ∃s:MS,(∃t,s.g=X.g0++t)/\exec (ag P0 d) (.fo [7] Qb (.call (.lit (.ty 491260897125)) [.lit (.int 4)]) laB) (NY X Qd Qd Qd Qd Qd) X.g0=Qa ((.nx,NY X s.k s.u s.l s.v Qd),s.g):=
 kh (c:=ag P0 d) (x:=7) (n:=4) (e:=.call (.lit (.ty 491260897125)) [.lit (.int 4)]) (b:=laB) (λs:MS=>NY X s.k s.u s.l s.v Qd) MS.g (λ_ s=> ∃t,s.g=X.g0++t) ⟨X.g0,Qd,Qd,Qd,Qd⟩ (by decide) rfl (by exact kJ (.c<| .z (ck (.fy 4) X.g0)) (by kernel_rfl)) ⟨[],(Zm _).symm⟩ λk s R1 _ hk P C=>zeZ (s:={s with k:=vN k}) O hd P λs' P'=>C.nx {s' with k:=vN k} P'
end
variable {l':List WW}
section
variable {V W:WW->R.α}{l:List WW}{X:UX R}
def Ph {K:WW} (hK:nz V K=Qe->K∈l):j7 (pZ V l) (jT.v K)=bif nz V K then Qa (R.e (V K)) else none:=by
 have e:j7 (pZ V l) (jT.v K)=((l.filter (nz V)).find? ((λp:ab×ab=>gm p.1 (jT.v K)) ∘ λk=>(jT.v k,R.e (V k)))).map ((λp:ab×ab=>p.2) ∘ λk=>(jT.v k,R.e (V k))):=by
  delta pZ j7;rw[List.find?_map,Option.map_map]
 refine e.trans ?_;cases hf:(l.filter (nz V)).find? ((λp:ab×ab=>gm p.1 (jT.v K)) ∘ λk=>(jT.v k,R.e (V k))) with
 |some k=>
  have h1:=KN hf;have h1:gm (jT.v k) (jT.v K)=true:=h1;rw[jT.eq] at h1;refine eqE (of_decide_eq_true h1) ?_;rw[(Kx.mp (Kj hf)).2];rfl
 |none=>
  cases hn:nz V K with
  |false=>rfl
  |true=>
   exact absurd ((jT.eq K K).trans (decide_eq_true rfl)) (List.find?_eq_none.mp hf K (Kx.mpr ⟨hK hn,hn⟩))
abbrev fT:ab->MH->Prop:=λv _=>v= .bool Qe
theorem Ec {t:MH} (pre: ∃t,g=g0++t): ∃t',g++t=g0++t':=pre.elim λt' e=>⟨t'++t,by rw[e,JD]⟩
abbrev Dp (k:WW):WW:=(k.2,k.1)
abbrev prD (k:WW):PySem.PyData:= .tuple [.str ⟨k.1.toArray⟩,.str ⟨k.2.toArray⟩]
def zcb (h:MH) (l:List WW):(l.map jT.v).mapM (kb h 7)=Qa (l.map prD):=by
 induction l with
 |nil=>rfl
 |cons a l ih=>rw[JO,Yt,ih];rfl
def zdD (hx:g[x]?=Qa (.list (l.map jT.v))):kb g 8 (.ref x)=Qa (.list (l.map prD)):=by
 show (kY g (.ref x)).bind (λvs=>(vs.mapM (kb g 7)).map PySem.PyData.list)=_;rw[pB hx];exact congrArg (qaM PySem.PyData.list) (zcb g l)
def zfm (l:List WW):KR (.list (l.map prD)) (.list (l.map prD))=true:=by
 induction l with
 |nil=>rfl
 |cons a l ih=>exact Jm.mpr ⟨(SU (a:=a) (b:=a)).trans (decide_eq_true rfl),ih⟩
def zdx {y:Nat} (hx:g[x]?=Qa (.list (l.map jT.v))) (hy:g[y]?=Qa (.list (l.map jT.v))):lj g (.ref x) (.ref y)=Qa true:=by
 show ay ((dictAt g (.ref x)).bind _) ((kb g 8 (.ref x)).bind λp=>(kb g 8 (.ref y)).map λq=>KR p q)=_;rw[HU hx,zdD hx,zdD hy];exact congrArg Qa (zfm l)
def zfq:(jy.map Dp).Perm jy:=by decide+kernel
def zbf (P:(l.filter (nz V)).Perm (jy.filter (nz V))) (P':(l'.filter (nz W)).Perm (jy.filter (nz W))) (h: ∀k,W (Dp k)=V k):mB ((l'.filter (nz W)).map Dp)=mB (l.filter (nz V)):=by
 have q:((l'.filter (nz W)).map Dp).Perm (l.filter (nz V)):=by
  refine(P'.map _).trans (.trans ?_ P.symm);rw[<-(funext λk=>by show (!@decide (V (Dp k)=R.zero) (R.ft _ _))=_;rw[<-h (Dp k)]:(nz V ∘ Dp)=nz W),<-List.filter_map];exact zfq.filter _
 exact L5 ((qV _).1.trans (q.trans (qV _).1.symm)) (qV _).2 (qV _).2
def Gz:(pZ V l).map (·.1)=(l.filter (nz V)).map jT.v:=by
 delta pZ;exact Kw
def swV (v:ab):ab:=((zbu v).map λk=>jT.v (Dp k)).getD .none
abbrev ziu:Ex:= .comp (.ba [.sub (.var 12) (.lit (.int 1)),.sub (.var 12) (.lit (.int 0))]) [12] Qb (.call (.lit (.ai 141)) [.var 5,.lit (.int 1)]) []
abbrev zit:Ex:= .comp (.var 12) [12] Qb (.var 11) [.ew .eq (.sub (.var 11) (.var 12)) (.aq (.var 1) qZ)]
theorem P9 (h:n<=60):n<(ag P0 d).cn/\n<=bb:=⟨Jt h (by show 60<200000;decide),Jl h (by decide)⟩
def RH {a ep:Nat}{k u v f:Option ab} (e:jZ (ag P0 d) (.ai 141) [.ref X.LV.m,.int 1] h=Qa (.ref a,g)) (ha:g[a]?=Qa (.dict (Qa ep) (pZ V l))) (n:(l.filter (nz V)).length<=60):eval (ag P0 d) ziu (NY X k u l0 v f) h=Qa (.ref g.length,g++ [.list (((l.filter (nz V)).map Dp).map jT.v)]):=by
 have hn:(pZ V l).length<=60:=by delta pZ;rw[Jp];exact n
 refine W.eq (Wj (λ_=>Qe) swV (P9 (d:=d) hn).1 (P9 (d:=d) hn).2 (W.of (a:=.ref a) (g:=g) (W.eq (by exact kJ (.p (e)<| .z (ck (.ref a) g)) (by kernel_rfl))) ⟨rfl,ha,λw hv acc=>?_,rfl,?_⟩))
 ·rw[Gz] at hv
  refine(JJ.mp hv).elim λK fM=>?_;obtain⟨_,rfl⟩:=fM;exact vY ⟨rfl,rfl,λ_=>by exact kJ (.c2<| .z (show g++ [ae.list acc]=g++ [ae.list acc]/\jT.v (Dp K)=swV (jT.v K) from⟨rfl,rfl⟩)) (by kernel_rfl)⟩
 ·rw[Gz,List.filter_eq_self.mpr λ_ _=>rfl,Kw,Kw];rfl
def RG {a ep:Nat}{k u v:Option ab} (ha:g[a]?=Qa (.dict (Qa ep) (pZ V l))) (n:(l.filter (nz V)).length<=60):eval (ag P0 d) zit (NY X k u l0 v (Qa (.ref a))) g=Qa (.ref g.length,g++ [.list []]):=by
 have hn:(pZ V l).length<=60:=by delta pZ;rw[Jp];exact n
 refine W.eq (Wj (λ_=>Qb) id (P9 (d:=d) hn).1 (P9 (d:=d) hn).2 (W.of (a:=.ref a) (g:=g) (W.eq (by exact kJ (.z (ck (.ref a) g)) (by kernel_rfl))) ⟨rfl,ha,λw hv acc=>?_,rfl,?_⟩))
 ·rw[Gz] at hv
  refine(JJ.mp hv).elim λK fL=>?_;obtain⟨hK,rfl⟩:=fL;have hK:=Kx.mp hK;refine Wf ((show WE (ag P0 d) ((NY X k u l0 v (Qa (.ref a))).set 12 (Qa (jT.v K))) (.ew .eq (.sub (.var 11) (.var 12)) (.aq (.var 1) qZ)) (g++ [.list acc]) (λv h=>v= .bool (@decide (V K=R.zero) (R.ft _ _))/\h=g++ [.list acc]) from by exact kJ (.v ((sd (jS (t:=[.list acc]) ha) (qH (T:=jT) (k:=K) UF) ((Ph λ_=>hK.1).trans (by rw[hK.2];rfl):j7 (pZ V l) (jT.v K)=Qa (R.e (V K)))))<| .w (R.no)<| .k (R.qe (V K) R.zero)<| .z (ck (.bool (@decide (V K=R.zero) (R.ft _ _))) (g++ [.list acc]))) (by kernel_rfl)).mono λv h q=>?_);obtain⟨rfl,rfl⟩:=q;rw[((Xz _).mp hK.2: @decide (V K=R.zero) (R.ft _ _)=Qb)];exact zO ⟨λhb=>JH hb,λ_=>⟨rfl,rfl,λhb=>JH hb⟩⟩
 ·rw[List.filter_eq_nil_iff.mpr λ_ _=>Za];rfl
end
section
variable {X:UX R}{k u l v:Option ab}
theorem k60 {V:WW->R.α}{l:List WW} (P:(l.filter (nz V)).Perm (jy.filter (nz V))):(l.filter (nz V)).length<=60:=P.length_eq▸Jl (Z7 _ _) (Vk.1▸(by decide))
def zco (O:UOk X) (pre: ∃t,g=X.g0++t):cq (ag P0 60) (lI.drop 7) (NY X k u l v Qd) g (Internal.Fin fT):=by
 obtain⟨a1,g1,e1,P1⟩:=L8 (d:=60) (h:=g) (us:=fz) (by decide) O.ne (λ_ h=>h) (pre.elim λt e=>e▸O.IB.bz) O.ZB;obtain⟨ep1,es1,h1,l1,rfl,p1⟩:=P1.at';obtain⟨a2,g3,e3,P3⟩:=L8 (d:=60) (h:=g1++ [.list ((mB (l1.filter (nz (Wt X.B)))).map jT.v)]) (us:=fz) (by decide) O.ne (λ_ h=>h) ((Ec (P1.pre.elim λt e=>e▸Ec pre): ∃t,g1++ [ae.list ((mB (l1.filter (nz (Wt X.B)))).map jT.v)]=X.g0++t).elim λt e=>e▸O.IV.bz) O.ZV;obtain⟨ep3,es3,h3,l3,rfl,p3⟩:=P3.at';have f4:=ze8 (g:=g3++ [.list (((l3.filter (nz (Wt X.V))).map Dp).map jT.v)]) (ag P0 60) ap (by rw[Jp];exact k60 p3);rw[(zbf p1 p3 λk=>O.v k.1 k.2:mB ((l3.filter (nz (Wt X.V))).map Dp)=mB (l1.filter (nz (Wt X.B))))] at f4;have up: ∀ {a:Nat}{o:ae},(g1++ [ae.list ((mB (l1.filter (nz (Wt X.B)))).map jT.v)])[a]?=Qa o->(g3++ [.list (((l3.filter (nz (Wt X.V))).map Dp).map jT.v)]++ [.list ((mB (l1.filter (nz (Wt X.B)))).map jT.v)])[a]?=Qa o:=λq=>jS (jS (P3.pre.elim λt e=>e▸jS q));have f5:nB .ne (.ref g1.length) (.ref (g3++ [ae.list (((l3.filter (nz (Wt X.V))).map Dp).map jT.v)]).length) (g3++ [.list (((l3.filter (nz (Wt X.V))).map Dp).map jT.v)]++ [.list ((mB (l1.filter (nz (Wt X.B)))).map jT.v)])=Qa false:=Internal.cj (r:=Qe) (zdx (up ap) ap)
 generalize g3++ [ae.list (((l3.filter (nz (Wt X.V))).map Dp).map jT.v)]++ [.list ((mB (l1.filter (nz (Wt X.B)))).map jT.v)]=g5 at f4 f5 up
 exact kC (.p (e1)<| .p ((ze9 (g:=g1) (ag P0 60) h1 Gz (k60 p1)))<| .p ((RH (k:=k) (u:=u) (l0:=l) (v:=v) (f:=Qa (.ref a1)) e3 h3 (k60 p3)))<| .p (f4)<| .b (f5)<| .c<| .p ((RG (d:=60) (X:=X) (k:=k) (u:=u) (l0:=l) (v:=v) (up (jS h1)) (k60 p1)))<| .at ((g5++ [.list []]++ [.list []]))<| .b ((zdx (l:=[]) (jS ap) ap:nB .eq (.ref g5.length) (.ref (g5++ [ae.list []]).length) (g5++ [.list []]++ [.list []])=Qa Qe))<| .z ((rfl:Internal.Fin fT (.rt (.bool Qe)) (NY X k u l v (Qa (.ref a1))) (g5++ [.list []]++ [.list []])))) (by kernel_rfl)
def Hu {ws:List R.α} (Z:RL R ws) (ns:List Int) (h:MH):cq (ag P0 60) (lI.drop 1) (Qa (.fl (ns.map .int))::Qa (.ai (112+R.i))::nn 16) h (Internal.Fin fT):=by
 refine(SM (g:=h) (us:=fz) (by decide) (λ_ h=>h) Z ns 1).elim λM1 a=>a.2.elim λg1 b=>b.2.elim λL1 c=>?_;refine(SM (g:=g1) (us:=fz) (by decide) (λ_ h=>h) Z ns 13).elim λM2 a2=>a2.2.elim λg2 b2=>b2.2.elim λL2 c2=>?_;have e1:=b.1;have e2:=b2.1;rw[<-c.1] at e1;rw[<-c2.1] at e2;have I1:ak R g2 L1 M1:=c2.2.2.elim λt e=>e▸c.2.1.bz;refine(BZ (d:=60) (Y:=⟨g2,L1,L2,M1,M2,1,1⟩) ⟨I1,c2.2.1,a.1.g,a2.1.g⟩ (by decide)).elim λs f=>?_;refine f.2.H.H.x.elim λLB q=>?_;have IB:ak R s.s.g LB s.s.M:=q.2.1;have ZB:=zdz (BY f.2.H.P f.2.E) a.1 a2.1 IB.di f.2.H.P.ct;have f1:=f.1;rw[<-(q.1:LB.m=g2.length)] at f1;refine(FY (d:=60) (h:=s.s.g) (by decide) IB ZB.g).elim λg4 f4=>?_;refine f4.2.x.elim λLV q4=>?_;have e4:=f4.1;rw[<-(q4.1:LV.m=s.s.g.length)] at e4;have up: ∀ {L:Ly}{M:Mc R.α},ak R g2 L M->ak R (g4++ [.list (wds.map .str)]) L M:=λI=>f.2.H.H.pre.elim λt e=>f4.2.pre.elim λt' e'=>(e')▸(e)▸I.bz.bz.bz;have upB:ak R (g4++ [.list (wds.map .str)]) LB s.s.M:=f4.2.pre.elim λt' e'=>(e')▸IB.bz.bz;have IV:ak R g4 LV (s.s.M.mapA swA):=q4.2.1;have O:UOk (⟨g4++ [.list (wds.map .str)],M1,M2,s.s.M,s.s.M.mapA swA,L1,L2,LB,LV,ns,g4.length⟩:UX R):=⟨Z.ne,up I1,up c2.2.1,upB,IV.bz,a.1.to,a2.1.to,ZB,ZB.sw,zaS (BY f.2.H.P f.2.E) (ZB.g.dh ZB.up) (a.1.g.dh a.1.up) (a2.1.g.dh a2.1.up) a.1.g.st a2.1.g.st,λu l=>za8 u l,ap⟩;refine(zcp (d:=60) O (by decide)).elim λz e=>?_;refine oQ (a:=(lI.drop 1).take 6) (b:=lI.drop 7) ?_;exact kC (.at ((h++ [.list (fz.map .str)]))<| .p (e1)<| .at ((g1++ [.list (fz.map .str)]))<| .p (e2)<| .p (f1)<| .p (e4)<| .at ((g4++ [.list (wds.map .str)]))<| .s (e.2)<| .z (oH (zco (k:=z.k) (u:=z.u) (l:=z.l) (v:=z.v) O e.1))) (by kernel_rfl)
end
def zcm (ns:List Int):WF P0 61 178 [.fl (ns.map .int)] [] λv _=>v= .bool true:=by
 refine AH (d:=60) (fn:=vK) rfl rfl ?_;show cq (ag P0 60) lI (Qa (.fl (ns.map .int))::nn 17) _ _;obtain⟨i,hi,ei⟩:=qW (cell ns 0) (show 0<5 by decide);have tail: ∀h,cq (ag P0 60) (lI.drop 1) (Qa (.fl (ns.map .int))::Qa (.ai (112+i))::nn 16) h (Internal.Fin λv _=>v= .bool Qe):=
  pD (C:=λi=> ∀h,cq (ag P0 60) (lI.drop 1) (Qa (.fl (ns.map .int))::Qa (.ai (112+i))::nn 16) h (Internal.Fin λv _=>v= .bool Qe)) i hi (Hu f9 ns) (Hu f7 ns) (Hu fZ ns) (Hu fY ns) (Hu fX ns)
 refine oQ (a:=lI.take 1) (b:=lI.drop 1) ?_;exact kC (.at ([.list [.str (kA 0),.str (kA 1),.str (kA 2),.str (kA 3),.str (kA 4)]])<| .q (rN (d:=60) (by decide) ns 0)<| .q (qF ei (by decide))<| .v ((sl (i:=i) rfl (pD (C:=λi=>([.str (kA 0),.str (kA 1),.str (kA 2),.str (kA 3),.str (kA 4)]:List ab)[i]?=Qa (.str (kA i))) i hi rfl rfl rfl rfl rfl):lG [.list [.str (kA 0),.str (kA 1),.str (kA 2),.str (kA 3),.str (kA 4)]] (.ref 0) (.int i)=Qa (.str (kA i))))<| .p ((fn (P:=P0) (d:=60) (h:=[.list [.str (kA 0),.str (kA 1),.str (kA 2),.str (kA 3),.str (kA 4)]]) rfl (zd3 (Q:=λv g=>v= .ai (112+i)/\g=_) hi (by decide) ⟨rfl,rfl⟩)))<| .z (oH (tail [.list [.str (kA 0),.str (kA 1),.str (kA 2),.str (kA 3),.str (kA 4)]]))) (by kernel_rfl)
def O0 (ns:List Int): ∃H',mT P0 200000 61 178 [ab.fl (ns.map ab.int)] []=Qa (ab.bool Qe,H'):=by
 obtain⟨v,h,e,rfl⟩:=W.get (zcm ns);exact⟨h,e⟩
def Mx {C:bf}{w:Wd}{vs:List Value} (h:Ja vs ns):jU C w (ns.map ab.int) vs:=by
 induction h with
 |nil=>exact .nil
 |cons n t _ ih=>exact .cons ⟨t,rfl⟩ ih
def ub {p:Qx}{w:Qn}{mb:PySem.Str->Option Value}{a:Qj}{vs:List Value}{R:WRecords}{as:List Qj} (KX:Frag.In (KK w.params) s₁.heap) (ZN:s₀.heap.objs.size=nat_lit 796)
  (T : Top p loose mean mg mb s₁.heap) (hmg : mg (qaR "law") = Qa (.ref fa)) (L : Laid R w s₀ s₁ [ofPy (YN (YA YY ns))] [.ref a] as) (hL : s₁.heap.IsList a vs.toArray) (hI : Ja vs ns) (hlen : ¬ ((63 : Int) < (ns.length : Int))) (hg : s₁.gens = #[]) :
  Qi (model pw w) callerA (call (.ref fa) [.ref a]) (λv s'=>Je PySem.Challenge.rw_ui0508_15.row.claim (classAt s₀.heap) (ExcName.means s₀.heap) [ofPy (YN (YA YY ns))] s₁ (.ok (.ret v)) s')
   (λe s'=>Je PySem.Challenge.rw_ui0508_15.row.claim (classAt s₀.heap) (ExcName.means s₀.heap) [ofPy (YN (YA YY ns))] s₁ (.error e) s') s₁:=by
 obtain⟨hat,hsz⟩:=script_at L;rw[ZN] at hat hsz;subst hat;obtain⟨so,h1,h2,n,h3⟩:=hL;have e:=mg_of KX T.g (zcn w);have e' : mg (qaR "law") = Qa (.ref SN) := e;rw[hmg] at e';cases e';have X:(ip w so).K.In s₁.heap:=by
  intro b o hb;have hb':qa3 b ((wD,so)::KK w.params)=Qa o:=hb;rw[ZG] at hb'
  split at hb'
  ·rename_i q
   rw[beq_iff_eq] at q;cases hb';subst q;exact h1
  ·exact KX b o hb'
 have hv:jV (ip w so) ⟨[],[]⟩ (ab.fl (ns.map ab.int)) (.ref wD):=by
  refine⟨wD,so,n,vs,rfl,⟨?_,h2,h3⟩,Mx hI,?_⟩
  ·show qa3 wD ((wD,so)::KK w.params)=Qa so
   rw[ZG,beq_self_eq_true]
  ·rw[Jp]
   have:bb=1000000:=rfl
   omega
 obtain⟨H',hr⟩:=O0 ns;refine Mn (C:=ip w so) (fO w so) X T (by rw[hsz];decide) (f:=zeY) (fa:=SN) (by kernel_rfl) (λfn h=>by
  have e:P0.km 178=Qa fn:=h;rw[show P0.km 178=Qa vK from by kernel_rfl] at e;cases e;rfl) hv hr λw' v s' r hk hgs hos=>?_
 have r:v= .bool true:=r;subst r;exact GoodW.toG ⟨.inl ⟨.bool Qe,.bool Qe,[],rfl,λ_=>rfl,.bool Qe,by first|kernel_rfl|wrow_post,unshared_nil⟩,hk,hos,hgs.trans hg⟩
end Tactic
end
open PySem PySem.W PySem.W.X PySem.Calls PyProof.Rows
set_option maxHeartbeats 0 in
theorem PySem.Challenge.cw_ui0508_15_holds : PySem.Challenge.rw_ui0508_15.Holds := by
 w_on
 refine holds_law (by
  rw[PySem.W.Fast.te9446332074065402090]
  kernel_rfl) fun said=>?_
 refine holds_openX Tactic.yq (XP:=XL (Tactic.bM Tactic.pw) []) (fun s e=>xl_of s (Bool.and_eq_true_iff.mp e).1) XL.keeps (by rfl) (by rfl) (by rfl) (fun s e=>recFacts_of (Bool.and_eq_true_iff.mp e).2) (by rfl) (by assumption) (by decide+kernel) ⟨rfl,rfl,rfl,rfl,rfl,by decide+kernel⟩ ?hw ?hc
 case hw=>w_witness2
 clear said
 intro w s₀ s₁ mg mb G y fa o pm cd doc dV kV ho hd hcd hD hmg hg args vals as L hpre hlay hrd hwl hlo;have hf:=Tactic.wm y L.keeps
 clear y
 obtain⟨KX,ZN,ZT⟩:=hf;refine Ground.open G ?_;intro T B D TE TW
 wrow_args hpre hlay hrd hwl hlo
 exact Tactic.ub KX ZN T hmg L (by assumption) (by assumption) (by assumption) hg
