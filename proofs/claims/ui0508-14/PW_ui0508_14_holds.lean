import PyProof.Rows.All
import Wide.All
import OpenK.AllK
import Wide.FinOn
import PyProof.Logic
import PySem.Claim
import PySem.PyData
import KE.KSortAsk
import PyProof.P3Statements
import PyProof.StrBlockL
import PyProof.Rows.StrNews2
import OpenK.KCell
import OpenK.KMeth
import PyProof.P3Eq
import PyProof.P3In
import PyProof.EqKinds
import PyProof.TupleKey
import PyProof.SetKind
import PyProof.Rows.RotEnd
import PyProof.Rows.ListMul
import PyProof.IsRules
import PyProof.Rows.TupDisplay
import PyProof.Rows.DictRows
import PyProof.DictStraight
import PyProof.DictIter
import KE.KEqDict
import PyProof.EnumMake
import PyProof.WalksMore
import PyProof.StrWalks
import PyProof.CompFree
import PyProof.Rows.StrNews
import PyProof.Rows.SeqSlice
import PyProof.SliceMore
import PyProof.Rows.StrTemp
import PyProof.StrLawsIdx
import PyProof.Rows.SetFrom
import PyProof.DictKeyH
import PyProof.MaxThree
import PyProof.TypeOfCall
import PyProof.CallType
import PyProof.Rows.GenSrcRange
import OpenK.KRaise
import KE.KSorted
import KE.KDictOf
import KE.KIntText
import KE.KxPart
import KE.KPop
import PyProof.StrLawsAffix
import PyProof.SetRoads
import KE.KUnpack
import KE.KPar
import KE.KSort
import KE.KDictSum
import KE.KSortTup
import PyProof.Rows.SortKey
import PyProof.Rows.SortStr
import PySem.Challenge.RW_ui0508_14
set_option Elab.async false
set_option linter.all false
set_option autoImplicit false
set_option maxHeartbeats 8000000
set_option maxRecDepth 100000
set_option genInjectivity false
set_option genSizeOfSpec false
set_option genSizeOf false
open Option renaming some->Qa,none->Qd,casesOn->JG,map_eq_some_iff->Zm,isSome_iff_exists->Zy,isNone_iff_eq_none->ZQ,isSome_some->YJ,isSome_none->YK,isSome_map->YP,bind_eq_some_iff->XY,bind_some->qad,map_none->qaj,map_some->qak,map->qaI,elim->qbl
open PySem renaming wpAny_bind->Qb,wpAny_pure->Qf,Shared->Qg,wpAny->Qh,DictEntry->Qi,wpAny_holding->Qj,Addr->Qk,IsTupleKey->Ql,World->Qm,wpAny_standAt->Qo,wpAny_dictEntries->Qp,wpAny_call_entry->Qq,wpAny_mono->Qr,Program->Qs,wpAny_typeNameOfWhole_keyiter->Qt,Around->Qv,wpAny_notOrdered_dict->Qw,NameKind->Qx,wpAny_typeNameOf_keyiter->Qy,Stmt->Qz,Heap->QA,atKey_none_of_get->QB,wpAny_newObj_type->QC,call_type_of->QD,wpAny_dictEpoch->QF,wpAny_richCompare_same_room->QG,call_meetsIn->QH,wpAny_pyIter_list->QI,wpAny_isInstance->QJ,wpAny_rule->QL,atKey_of_get->QM,wpAny_pyNext_list_item->QP,wpAny_allTrue_And_cons->QR,size_of_entries->QT,wpAny_execs_nil->QU,wpAny_isOneOf_keyiter->QV,wpAny_pyNext_list_end->QW,wpAny_allTrue_Or_cons->QX,wpAny_pyIter_listiter->QY,wpAny_storeName_local->QZ,FuncData->Q0,wpAny_updateDictKeys->Q1,wpAny_pyIter_keyiter->Q2,Arguments->Q4,Setting->Q5,wpAny_dictFind_heap->Q6,Model->Q8,wpAny_sequenceKey->Q9,slot_dict_setitem->Ja,wpAny_truthy_bool->Jc,getMethod_builtin->Jd,slot_list_setitem->Je,sizeLine_eq->Jg,wpAny_load->Jh,Flow->Jl,Thread->Jm
open Bool renaming false->Qc,true->Qe,and_eq_true_iff->Jo,noConfusion->JK,false_ne_true->JQ,and_eq_true->ZR,eq_iff_iff->Kq,or_eq_true_iff->KW,false_eq_true->K1,and_true->Ym,or_eq_true->Xm,and_false->Xz,true_and->XX,and_eq_false_iff->qal,not_true->qaC,false_or->qaF,not_eq_true'->qaS,false_and->qbd
open PySem.W renaming dictOf->Qn,piece_app->Qu,boot_heap->QK,cellsFrom_some->Q3,KeqHits->Jb,boot_drawn->Ji,GoodWG->Jj,kas_rev->Jk
open PyProof.Rows renaming valueAt_kvsOf->QE,assign_Tuple_tuple->Q7
open LawfulMonad renaming pure_bind->Jf
open Nat renaming le_trans->Jn,le_add_right->Jr,add_le_add_left->Js,lt_of_lt_of_le->Ju,le_refl->Jv,lt_of_le_of_lt->Jw,zero_le->JB,le_add_left->JC,le_of_eq->JF,mul_le_mul_left->JI,add_le_add->JJ,le_of_lt->JN,lt_succ_of_le->JO,lt_succ_self->JR,add_le_add_right->JV,le_of_lt_succ->JY,add_assoc->J8,not_lt_zero->J9,lt_irrefl->Zb,succ_le_of_lt->Zc,mul_le_mul_right->Ze,succ_le_succ->Zf,ble_eq->Zn,le_succ->Zp,zero_add->Zq,succ_pos->Zr,le_succ_of_le->Zs,lt_trans->Zv,ble->ZD,add_right_comm->ZF,ne_of_lt->ZG,not_lt_of_le->ZH,lt_succ_of_lt->ZJ,add_lt_add_left->ZL,le_of_not_lt->ZM,lt_add_of_pos_right->ZP,add_comm->ZW,lt_of_le_of_ne->ZX,sub_lt_of_lt->Z4,le_mul_of_pos_right->Z5,succ->Z6,not_lt->Z9,lt_of_succ_lt_succ->Ka,ne_of_gt->Kb,one_mul->Kg,gcd->Kv,exists_eq_add_of_le'->Kx,mul_succ->Kz,lt_of_succ_le->KI,ble_eq_true_of_le->KJ,min_le_left->KU,min_eq_left->KV,le_of_succ_le_succ->KY,le_antisymm->K6,le_of_succ_le->Yb,add_mul->Yf,lt_or_eq_of_le->Yl,le_add_left_of_le->Yn,add_lt_add_of_le_of_lt->Yt,succ_add_eq_add_succ->Yz,gcd_pos_of_pos_right->YB,pos_of_ne_zero->YG,lt_of_lt_of_eq->YH,sub_add_cancel->YI,two_mul->YN,sub_pos_of_lt->YQ,sub_self->YS,le_of_sub_eq_zero->YT,min_eq_right->YZ,mul_pos->Xh,add_add_add_comm->Xi,not_succ_le_self->Xj,mul_comm->Xq,mod_lt->Xv,not_le->Xw,div_eq_of_eq_mul_right->XA,le_of_mul_le_mul_right->XE,pow_add->XT,min_le_right->X4,add_sub_cancel_left->qae,eq_zero_of_le_zero->qah,le_mul_of_pos_left->qai,le_sub_of_add_le'->qam,le_zero->qap,pow_lt_pow_right->qaq,pow_le_pow_right->qar,mul_one->qat,sub_lt_sub_right->qau,one_dvd->qav,add_left_cancel->qaz,mul_assoc->qaE,sub_lt->qaK,sub_le->qaL,lt_of_succ_lt->qaQ,add_sub_of_le->qaR,lt_of_not_le->qaX,lt_add_right->qaY,mul_add->qa1,mul_ne_zero->qa5,pow_dvd_pow->qa6,beq->qa8,cast->qa9,mul_le_mul->qbb,sub_add_eq->qbe,dvd_trans->qbh,sub_zero->qbi,pow_succ->qbj,log2_lt->qbk,pow_pos->qbn,one_pos->qbo,pow_one->qbp
open List renaming getElem?_eq_getElem->Jp,length_map->Jq,mem_of_getElem?->Jt,length_append->Jx,getElem?_eq_some_iff->Jy,not_mem_nil->Jz,append_assoc->JA,mem_singleton->JD,getElem?_map->JE,nodup_cons->JH,mem_map->JL,mem_cons->JM,mem_append_right->JT,map_cons->JU,map_append->JW,range->JX,range'->JZ,length_cons->J0,replicate->J5,getElem?_set_self->J6,getElem?_set_ne->J7,all_eq_true->Za,length_set->Zd,length_range->Zg,mem_append->Zh,getElem?_concat_length->Zi,take_length->Zj,prefix_append->Zk,eq_of_mem_replicate->Zl,size_toArray->Zo,getElem_mem->Zt,length_replicate->Zw,mem_range->ZA,filterMap_cons->ZC,append_nil->ZE,lookup_cons->ZI,drop_eq_getElem_cons->ZK,drop_length->ZS,mem_filter->ZU,mem_append_left->ZV,idxOf_lt_length_iff->ZY,getElem?_toArray->ZZ,getElem?_eq_none->Z0,length_eq_zero_iff->Z3,getElem?_eq_none_iff->Z7,mem_or_eq_of_mem_set->Z8,map_congr_left->Ke,getElem?_range->Kf,length_filter_le->Kh,nodup_append->Kj,cons->Kl,getElem?_of_mem->Km,take_succ->Kn,getElem?_append_right->Ko,getElem?_append_left->Ks,mem_of_find?_eq_some->Kt,length->Ku,take_append_drop->Kw,find?_some->KA,length_range'->KB,length_take->KC,getElem?_replicate->KD,replicate_succ'->KF,perm_append_comm_assoc->KG,any_eq_true->KL,map_map->KN,mem_of_mem_take->KO,reverse_cons->KS,prefix_refl->KZ,concat_eq_append->K4,foldl_cons->K7,casesOn->K9,flatten_cons->Ya,take_succ_eq_append_getElem->Yd,nodup_range->Yh,cons_append->Yi,zip_cons_cons->Yk,contains_iff_mem->Yo,eq_nil_or_concat->Yp,set_getElem_self->Yq,any_eq_false->Yr,mem_iff_getElem->Ys,perm_middle->Yu,getElem_inj->Yv,flatten_append->Yx,length_reverse->Yy,length_filterMap_le->YA,sum_cons->YC,find?_cons->YD,length_nil->YE,range_succ->YF,getElem_idxOf->YL,foldl_append->YR,mem_iff_getElem?->YU,set_append_right->YV,length_singleton->YW,isEmpty_iff->Y9,mem_flatten->Xc,drop_nil->Xd,rec->Xe,mem_cons_of_mem->Xf,forIn_cons->Xk,dropLast_concat_getLast->Xl,sum_append->Xn,map_eq_nil_iff->Xo,map_replicate->Xt,map->Xu,filter_append->Xx,map_singleton->Xy,ext_getElem?->XU,range'_succ->X3,drop->qac,mapM_cons->qao,getElem?_range'->qas,replicate_succ->qaw,append_toArray->qax,flatten_concat->qaA,length_pos_iff->qaB,findIdx?_cons->qaM,range'_concat->qaN,set_set->qaV,length_drop->qaW,lookup->qa0,of_mem_zip->qa2,nil_append->qa4,set->qbc,findIdx?->qbg
open Array renaming mk->Zu,isEmpty_iff->XK
open Exists renaming elim->Zx
open PySem.Value renaming type->Zz,isStrOf_shape->Kd,isInt_shape->Ki,builtin->Kr,none->KH,str->KQ,ref->YX,bool->qag,casesOn->qaD,int->qbq
open PySem.W.SharedT renaming mk->ZO,abs->qbm
open Int renaming ofNat_lt->Z2,toNat_natCast->KR,natCast_nonneg->K2,natCast_mul->K8,ofNat_eq_zero->Ye,ofNat_le->YO,not_lt->YY,ofNat->Xa,toNat_of_nonneg->Xp,fmod->Xs,fdiv->qan,natAbs_eq_zero->qaH,not_le->qaJ,lt_trans->qaP,natCast_add->qa3
open Ne renaming symm->Kc
open PySem.Heap renaming lt_size->Ky,get?_update_self->K3
open PySem.F renaming slot_dict_get->K5,entry_dict_get->Yj,args_dict_get_2->qaa,args_dict_get_3->qab
open PySem.Builtin.Range renaming rangeSize->Yg
open PySem.PyData renaming eqv->Yw,list->YM,int->Xb,eqv->qaG,int->qaZ,keyHash->qba,eqvAll->qbf
open PySem.Builtin.Str renaming strSliceIndices->Xr
open Decidable renaming byContradiction->XH
open Eq renaming symm->XJ
open PySem.Data renaming casesOn->qaf
open PySem.Builtin.Int renaming intBits->qay
open PySem.Str renaming ofString->qaO
open Prod renaming mk->qaT,ext->qbr
open PySem.Txt renaming isspace->qaU
open PySem.Builtin.List renaming listSubscript?->qa7
open PySem.W.SL
section
set_option compiler.extract_closed false
set_option compiler.reuse false
open Lean in
local macro_rules (kind:=Lean.Parser.Command.declaration)
 |s=>if (s.getPos? true).isSome then
   let d:=s[1]
   pure ((if s[0].getPos?.isNone&&(d.isOfKind `Lean.Parser.Command.definition||d.isOfKind `Lean.Parser.Command.abbrev) then if d[3][1].isOfKind `Lean.Parser.Term.byTactic then s.setArg 1 (mkNode `Lean.Parser.Command.theorem #[mkAtom "theorem",d[1],mkNode `Lean.Parser.Command.declSig #[d[2][0],d[2][1][0]],d[3]]) else
    let n x:=mkNullNode #[mkNode (d.getKind.getPrefix.str x) #[mkAtom x]]
    s.setArg 0 ((if d[1][0].getId.isAtomic then s[0] else s[0].setArg 3 (n "protected")).setArg 4 (n "noncomputable")) else s).rewriteBottomUp λx=>
    if x.isIdent then mkIdent (x.getId.components.foldl (λa c=>let c:=c.getString!;.str a (((" ε=length ζ=List η=Option θ=Nat ι=elim μ=Value ν=trans ξ=ref ο=list π=map ρ=SetTable ς=absurd τ=if_neg υ=toArray φ=if_pos χ=beq_iff_eq ω=congrArg Α=lookup Β=int Γ=decide_eq_true Δ=casesOn Ε=none Ζ=Bool Η=bind Θ=decide_eq_false Ι=cons Κ=zero Λ=Frame Μ=symm Ν=heap Ξ=of_decide_eq_true Ο=var Ρ=PySem Τ=mono Υ=dict Φ=Int Χ=zero_add Ψ=Internal Ω=Nodup Ϛ=params ϛ=Array Ϝ=nil ϝ=Expr Ϟ=start ϟ=isSome Ϡ=size ϡ=getD Ϣ=add_assoc ϣ=motive_1 Ϥ=str ϥ=mpr Ϧ=beq_self_eq_true ϧ=beq_false_of_ne Ϩ=filter ϩ=isPrefixOf_iff_prefix Ϫ=set ϫ=next Ϭ=Params ϭ=builtin Ϯ=get?_push_of_some ϯ=bool am=add be=isEmpty bm=cond_false bn=call ch=toList dL=filterMap f8=decide_eq_true_eq jp=drop ld=Str lf=inj lv=len lw=first mo=head mt=inferInstance na=take pc=tail pi=cond_true pt=flatten py=lit re=isNone sn=fields ss=mul sB=get? sK=length_toList tz=mem_iff ui=names ut=add_zero u8=length_eq v4=handled v6=SameBut wf=den wi=objs wn=typeIs wv=inl wE=add_comm wS=Heap wT=Builtin w8=setIfInBounds w9=zero_mul xz=int? xL=mul_zero x9=beq_eq_false_iff_ne zn=toks At=DecidableEq AT=type Ch=Decidable Db=update Fa=function Go=Obj Hd=all Id=mul_assoc Ix=sub IN=idxOf IO=inr KT=val LE=Classical LT=wpAny_callSpecial?_slot Mi=get No=Perm Ok=noConfusion Op=mem_flatMap Ps=kindOf Rs=dictOf Sc=mul_add Ta=data Tb=mul_comm Tc=contains Td=Attribute Te=push Th=toNat Ti=dummies Tj=wpAny_setState_of Tk=mask Tl=list? Tm=String Tn=get?_push_size Tp=slot_dict_keyiterator_next Tq=row Tr=pre Ts=kind Tt=inst Tu=News Tv=advance Tw=Subtype Ty=ForInStep Tz=decide_eq_decide TA=ext TC=refl TD=cell TF=at' TH=more TI=body TJ=args TK=cells TL=ListComp TM=reverse TN=maxQ_l' TO=called_set TQ=bne_iff_ne "++c++"="++c).splitOn (" "++c++"=")|>.getD 1 c).splitOn " "|>.headD c)) .anonymous) else x.setInfo .none)
  else Macro.throwUnsupported
@[elab_as_elim]theorem Internal.zzB.{u}{α:Sort u}{b:α}{P:α→Prop}{a:α}(h:a=b)(k:P b):P a:=h.symm▸k
open Lean in
local macro_rules (kind:=Lean.Parser.Tactic.rwSeq)
 |s=>
  let r:=s[2][1][0]
  if s[3].isNone&&!r.isMissing&&s[1][0][0].isMissing then
   let m(k:String)(a:Array Syntax):Syntax:=.node .none (.str s.getKind.getPrefix k) a
   let n(a:Array Syntax):Syntax:=.node .none `null a
   let e:=mkAtom ".."
   let v(a:Array Syntax):=s.setArg 2 (s[2].setArg 1 (n a))
   let A f (a:Array Syntax):Syntax:=.node .none `Lean.Parser.Term.app #[f,n a]
   let t:=A r[1] #[.node .none `Lean.Parser.Term.ellipsis #[e]]
   pure (n #[m "first" #[e,n #[n #[e,m "refine" #[e,A (mkIdent `Internal.zzB) #[if r[0].isNone then t else A (mkIdent `Eq.symm) #[t],.node .none `Lean.Parser.Term.syntheticHole #[e,mkAtom "_"]]]],n #[e,(v #[r]).setKind `Lean.Parser.Tactic.rewriteSeq]]],v (s[2][1].getArgs.extract 2)])
  else Macro.throwUnsupported
namespace Internal
theorem xA{P0:Prop}{P1:Prop}{G:Prop}(h:P0/\P1)(k:P0->P1->G):G:=k h.1 h.2
theorem xE.{u0}{α0:Sort u0}{P0:α0->Prop}{G:Prop}(h:∃a0,P0 a0)(k:∀a0:α0,P0 a0->G):G:=h.ι λa0 h0=>k a0 h0
theorem xAA{P0:Prop}{P1:Prop}{P2:Prop}{G:Prop}(h:P0/\P1/\P2)(k:P0->P1->P2->G):G:=k h.1 h.2.1 h.2.2
theorem xEE.{u0,u1}{α0:Sort u0}{α1:Sort u1}{P0:α0->α1->Prop}{G:Prop}(h:∃a0,∃a1,P0 a0 a1)(k:∀a0:α0,∀a1:α1,P0 a0 a1->G):G:=h.ι λa0 h0=>h0.ι λa1 h1=>k a0 a1 h1
theorem xEA.{u0}{α0:Sort u0}{P0:α0->Prop}{P1:α0->Prop}{G:Prop}(h:∃a0,P0 a0/\P1 a0)(k:∀a0:α0,P0 a0->P1 a0->G):G:=h.ι λa0 h0=>k a0 h0.1 h0.2
theorem xEAA.{u0}{α0:Sort u0}{P0:α0->Prop}{P1:α0->Prop}{P2:α0->Prop}{G:Prop}(h:∃a0,P0 a0/\P1 a0/\P2 a0)(k:∀a0:α0,P0 a0->P1 a0->P2 a0->G):G:=h.ι λa0 h0=>k a0 h0.1 h0.2.1 h0.2.2
theorem xEEA.{u0,u1}{α0:Sort u0}{α1:Sort u1}{P0:α0->α1->Prop}{P1:α0->α1->Prop}{G:Prop}(h:∃a0,∃a1,P0 a0 a1/\P1 a0 a1)(k:∀a0:α0,∀a1:α1,P0 a0 a1->P1 a0 a1->G):G:=h.ι λa0 h0=>h0.ι λa1 h1=>k a0 a1 h1.1 h1.2
theorem xEEAA.{u0,u1}{α0:Sort u0}{α1:Sort u1}{P0:α0->α1->Prop}{P1:α0->α1->Prop}{P2:α0->α1->Prop}{G:Prop}(h:∃a0,∃a1,P0 a0 a1/\P1 a0 a1/\P2 a0 a1)(k:∀a0:α0,∀a1:α1,P0 a0 a1->P1 a0 a1->P2 a0 a1->G):G:=h.ι λa0 h0=>h0.ι λa1 h1=>k a0 a1 h1.1 h1.2.1 h1.2.2
theorem xEEAAA.{u0,u1}{α0:Sort u0}{α1:Sort u1}{P0:α0->α1->Prop}{P1:α0->α1->Prop}{P2:α0->α1->Prop}{P3:α0->α1->Prop}{G:Prop}(h:∃a0,∃a1,P0 a0 a1/\P1 a0 a1/\P2 a0 a1/\P3 a0 a1)(k:∀a0:α0,∀a1:α1,P0 a0 a1->P1 a0 a1->P2 a0 a1->P3 a0 a1->G):G:=h.ι λa0 h0=>h0.ι λa1 h1=>k a0 a1 h1.1 h1.2.1 h1.2.2.1 h1.2.2.2
@[elab_as_elim]
theorem lV{α:Type}{a:α}{P:α->Prop}{b:α}(h:Qa a=Qa b)(k:P a):P b:=Qa.lf h▸k
@[elab_as_elim]
theorem soB{α:Type}{b:α}{P:α->Prop}{a:α}(h:Qa a=Qa b)(k:P b):P a:=(Qa.lf h).Μ▸k
@[elab_as_elim]
theorem eqE.{u}{α:Sort u}{a:α}{P:α->Prop}{b:α}(h:a=b)(k:P a):P b:=h▸k
@[elab_as_elim]
theorem eqB.{u}{α:Sort u}{b:α}{P:α->Prop}{a:α}(h:a=b)(k:P b):P a:=h.Μ▸k
theorem vL(b:Ζ){P:Prop}(f:b=Qe->P)(g:b=Qc->P):P:=Ζ.Δ (motive:=λx=>(x=Qe->P)->(x=Qc->P)->P) b (λ_ g=>g rfl) (λf _=>f rfl) f g
theorem AZ{α:Type}(o:η α){P:Prop}(f:o=Qd->P)(g:∀x,o=Qa x->P):P:=JG (motive:=λx=>(x=Qd->P)->(∀y,x=Qa y->P)->P) o (λf _=>f rfl) (λx _ g=>g x rfl) f g
section
open PySem
variable{α:Type}{M:Q8}{A:Qv}{c:Prop}[Decidable c]{a b:Sem α}{Q:α->Qg->Prop}{E:Value->Qg->Prop}{s:Qg}
def wN(h:¬c)(k:Qh M A b Q E s):Qh M A (if c then a else b) Q E s:=by rw[τ h];exact k
def wP(h:c)(k:Qh M A a Q E s):Qh M A (if c then a else b) Q E s:=by rw[φ h];exact k
end
end Internal
namespace Internal
open PySem
variable{b:Bool}{e:Expr}{p:Option Expr×Option Expr×Option Expr×Pos}{P:Prop}{α β γ:Type}
set_option genCtorIdx false in
inductive ab where
 |none
 |bool(b:Ζ)
 |int(i:Φ)
 |str(s:ζ θ)
 |ay(vs:ζ ab)
 |ref(a:θ)
 |aj(a:θ)
 |ty(n:θ)
 |bi(n:θ)
 |gq(n:Φ)
 |fl(vs:ζ ab)
 |jr(n:θ)
set_option genCtorIdx false in
inductive ae where
 |list(vs:ζ ab)
 |dict(ep:η θ)(es:ζ (ab×ab))
 |inst(c:θ)(fs:ζ (θ×ab))
def ab.ctorIdx(x:ab):θ:=ab.Δ (ϣ:=λ_=>θ) x 0 (λ_=>1) (λ_=>2) (λ_=>3) (λ_=>4) (λ_=>5) (λ_=>6) (λ_=>7) (λ_=>8) (λ_=>9) (λ_=>10) (λ_=>11)
def ae.ctorIdx(x:ae):θ:=ae.Δ (motive:=λ_=>θ) x (λ_=>0) (λ_ _=>1) (λ_ _=>2)
abbrev MH:=ζ ae
abbrev Λ:=ζ (η ab)
inductive gy where
 |add|sub|mul|fdiv|mod|gZ
inductive te where
 |eq|ne|lt|le|gt|ge|qr|nu|is|ja
set_option genCtorIdx false in
inductive Ex where
 |var(x:θ)
 |lit(v:ab)
 |list(es:ζ Ex)
 |ay(es:ζ Ex)
 |dict(kvs:ζ Ex)
 |fq(op:gy)(a b:Ex)
 |not(a:Ex)
 |gm(op:te)(a b:Ex)
 |qa(stop:Ζ)(es:ζ Ex)
 |ite(c a b:Ex)
 |aq(e:Ex)(n:θ)
 |sub(e i:Ex)
 |slice(e:Ex)(k:θ)(bs:ζ Ex)
 |call(f:Ex)(as:ζ Ex)
 |bc(o:Ex)(n:θ)(as:ζ Ex)
 |comp(ez:Ex)(tg:ζ θ)(many:Ζ)(it:Ex)(ifs:ζ Ex)
set_option genCtorIdx false in
inductive T1 where
 |nm(x:θ)
 |at(o:Ex)(n:θ)
 |sb(o i:Ex)
set_option genCtorIdx false in
inductive Sm where
 |expr(e:Ex)
 |ft(t:T1)(e:Ex)
 |ju(ts:ζ T1)(e:Ex)
 |ret(e:Ex)
 |ite(c:Ex)(a b:ζ Sm)
 |wh(c:Ex)(b:ζ Sm)
 |fo(tg:ζ θ)(many:Ζ)(e:Ex)(b:ζ Sm)
 |brk|cont|rz
 |gu
 |bJ(e:Ex)
 |tr(x:θ)(e:Ex)(y:θ)(v:ab)
set_option genCtorIdx false in
inductive Fl where
 |nx|bk|ct
 |rt(v:ab)
abbrev Fn:=θ×θ×ζ ab×θ×ζ Sm
section
variable(ψ:Fn)
abbrev Fn.gw:=ψ.1
abbrev Fn.np:=ψ.2.1
abbrev Fn.oz:=ψ.2.2.1
abbrev Fn.ns:=ψ.2.2.2.1
abbrev Fn.TI:=ψ.2.2.2.2
end
abbrev Cl:=θ×(ζ (θ×ab))×η θ×ζ θ
section
variable(ψ:Cl)
abbrev Cl.gw:=ψ.1
abbrev Cl.kc:=ψ.2.1
abbrev Cl.init:=ψ.2.2.1
abbrev Cl.qx:=ψ.2.2.2
end
abbrev gx:=ζ Fn×ζ Cl×(ζ (θ×θ))
section
variable(ψ:gx)
abbrev gx.nf:=ψ.1
abbrev gx.cls:=ψ.2.1
abbrev gx.jy:=ψ.2.2
end
def eu(x:ld):θ:=x.cps.ch.foldl (λa c=>a*256+c) 0
def bz{α β:Type}(o:η (α×MH))(f:α->MH->η (β×MH)):η (β×MH):=JG (motive:=λ_=>η (β×MH)) o Qd λp=>f p.1 p.2
def bj{α:Type}(a b:η α):η α:=JG (motive:=λ_=>η α) a b Qa
def aw{α:Type}(b:Ζ)(o:η α):η α:=Ζ.Δ (motive:=λ_=>η α) b Qd o
def ab.xz(x:ab):η Φ:=ab.Δ (ϣ:=λ_=>η Φ) x .Ε (λ_=>.Ε) Qa (λ_=>.Ε) (λ_=>.Ε) (λ_=>.Ε) (λ_=>.Ε) (λ_=>.Ε) (λ_=>.Ε) (λ_=>.Ε) (λ_=>.Ε) (λ_=>.Ε)
def ab.str?(x:ab):η (ζ θ):=ab.Δ (ϣ:=λ_=>η (ζ θ)) x .Ε (λ_=>.Ε) (λ_=>.Ε) Qa (λ_=>.Ε) (λ_=>.Ε) (λ_=>.Ε) (λ_=>.Ε) (λ_=>.Ε) (λ_=>.Ε) (λ_=>.Ε) (λ_=>.Ε)
def ab.tup?(x:ab):η (ζ ab):=ab.Δ (ϣ:=λ_=>η (ζ ab)) x .Ε (λ_=>.Ε) (λ_=>.Ε) (λ_=>.Ε) Qa (λ_=>.Ε) (λ_=>.Ε) (λ_=>.Ε) (λ_=>.Ε) (λ_=>.Ε) (λ_=>.Ε) (λ_=>.Ε)
def ab.ref?(x:ab):η θ:=ab.Δ (ϣ:=λ_=>η θ) x .Ε (λ_=>.Ε) (λ_=>.Ε) (λ_=>.Ε) (λ_=>.Ε) Qa (λ_=>.Ε) (λ_=>.Ε) (λ_=>.Ε) (λ_=>.Ε) (λ_=>.Ε) (λ_=>.Ε)
def ab.top?(x:ab):η θ:=ab.Δ (ϣ:=λ_=>η θ) x .Ε (λ_=>.Ε) (λ_=>.Ε) (λ_=>.Ε) (λ_=>.Ε) (λ_=>.Ε) Qa (λ_=>.Ε) (λ_=>.Ε) (λ_=>.Ε) (λ_=>.Ε) (λ_=>.Ε)
def ab.ty?(x:ab):η θ:=ab.Δ (ϣ:=λ_=>η θ) x .Ε (λ_=>.Ε) (λ_=>.Ε) (λ_=>.Ε) (λ_=>.Ε) (λ_=>.Ε) (λ_=>.Ε) Qa (λ_=>.Ε) (λ_=>.Ε) (λ_=>.Ε) (λ_=>.Ε)
def ab.bi?(x:ab):η θ:=ab.Δ (ϣ:=λ_=>η θ) x .Ε (λ_=>.Ε) (λ_=>.Ε) (λ_=>.Ε) (λ_=>.Ε) (λ_=>.Ε) (λ_=>.Ε) (λ_=>.Ε) Qa (λ_=>.Ε) (λ_=>.Ε) (λ_=>.Ε)
def ab.fl?(x:ab):η (ζ ab):=ab.Δ (ϣ:=λ_=>η (ζ ab)) x .Ε (λ_=>.Ε) (λ_=>.Ε) (λ_=>.Ε) (λ_=>.Ε) (λ_=>.Ε) (λ_=>.Ε) (λ_=>.Ε) (λ_=>.Ε) (λ_=>.Ε) Qa (λ_=>.Ε)
def ab.bool?(x:ab):η Ζ:=ab.Δ (ϣ:=λ_=>η Ζ) x .Ε Qa (λ_=>.Ε) (λ_=>.Ε) (λ_=>.Ε) (λ_=>.Ε) (λ_=>.Ε) (λ_=>.Ε) (λ_=>.Ε) (λ_=>.Ε) (λ_=>.Ε) (λ_=>.Ε)
def ab.rng?(x:ab):η Φ:=ab.Δ (ϣ:=λ_=>η Φ) x .Ε (λ_=>.Ε) (λ_=>.Ε) (λ_=>.Ε) (λ_=>.Ε) (λ_=>.Ε) (λ_=>.Ε) (λ_=>.Ε) (λ_=>.Ε) Qa (λ_=>.Ε) (λ_=>.Ε)
def ab.re(x:ab):Ζ:=ab.Δ (ϣ:=λ_=>Ζ) x Qe (λ_=>Qc) (λ_=>Qc) (λ_=>Qc) (λ_=>Qc) (λ_=>Qc) (λ_=>Qc) (λ_=>Qc) (λ_=>Qc) (λ_=>Qc) (λ_=>Qc) (λ_=>Qc)
def ae.Tl(o:ae):η (ζ ab):=ae.Δ (motive:=λ_=>η (ζ ab)) o Qa (λ_ _=>Qd) (λ_ _=>Qd)
def ae.dict?(o:ae):η (η θ×ζ (ab×ab)):=ae.Δ (motive:=λ_=>η (η θ×ζ (ab×ab))) o (λ_=>Qd) (λe es=>Qa (e,es)) (λ_ _=>Qd)
def ae.inst?(o:ae):η (θ×ζ (θ×ab)):=ae.Δ (motive:=λ_=>η (θ×ζ (θ×ab))) o (λ_=>Qd) (λ_ _=>Qd) (λc fs=>Qa (c,fs))
def kP(h:MH)(x:ab):η (ζ ab):=x.ref?.Η λa=>h[a]?.Η ae.Tl
def lN(h:MH)(x:ab):η (η θ×ζ (ab×ab)):=x.ref?.Η λa=>h[a]?.Η ae.dict?
def cg(h:MH)(x:ab):η (θ×ζ (θ×ab)):=x.ref?.Η λa=>h[a]?.Η ae.inst?
def a0{α:Type}(as:ζ ab)(f:η α):η α:=K9 (motive:=λ_=>η α) as f λ_ _=>Qd
def a1{α:Type}(as:ζ ab)(f:ab->η α):η α:=K9 (motive:=λ_=>η α) as Qd λv r=>a0 r (f v)
def a2{α:Type}(as:ζ ab)(f:ab->ab->η α):η α:=K9 (motive:=λ_=>η α) as Qd λv r=>a1 r (f v)
def nq(h:MH):θ->ab->η PyData
 |_,.Ε=>Qa .Ε
 |_,.ϯ b=>Qa (.ϯ b)
 |_,.Β i=>Qa (.Β i)
 |_,.Ϥ s=>Qa (.Ϥ ⟨s.υ⟩)
 |k+1,.ay vs=>(vs.mapM (nq h k)).π .tuple
 |k+1,.ξ a=>(kP h (.ξ a)).Η λvs=>(vs.mapM (nq h k)).π .ο
 |_,_=>Qd
def vV(h:MH)(a b:ab):η Ζ:=(nq h 8 a).Η λx=>(nq h 8 b).π λy=>qaG x y
def fz(a b:ab):Ζ:=(vV [] a b).ϡ Qc
def jW(es:ζ (ab×ab))(k:ab):η ab:=(es.find? λp=>fz p.1 k).π (·.2)
def m9(v:ab):Ζ:=v.xz.ϟ||v.str?.ϟ
def jV(v:ab):θ:=bif m9 v then 1 else bif (v.tup?.π λvs=>vs.Hd m9).ϡ Qc then 3 else 0
def nU(h:MH)(es2:ζ (ab×ab)):ζ (ab×ab)->η Ζ
 | []=>Qa Qe
 |p::r=>JG (motive:=λ_=>η Ζ) (jW es2 p.1) (Qa Qc) λy=>(vV h p.2 y).Η λe=>(nU h es2 r).π λb=>e && b
def yM(es:ζ (ab×ab)):η θ:=es.head?.π λp=>jV p.1
def p8(a b:ζ (ab×ab)):Ζ:=a.be||b.be||yM a==yM b
def lz(h:MH)(a b:ab):η Ζ:=
 bj ((lN h a).Η λd1=>(lN h b).Η λd2=>aw (p8 d1.2 d2.2) (bif d1.2.ε==d2.2.ε then nU h d2.2 d1.2 else Qa Qc)) (vV h a b)
def truthy(h:MH)(x:ab):η Ζ:=ab.Δ (ϣ:=λ_=>η Ζ) x (Qa Qc) Qa (λi=>Qa (i !=0)) (λs=>Qa (!s.be)) (λvs=>Qa (!vs.be))
 (λa=>(kP h (.ξ a)).π λvs=>!vs.be) (λ_=>Qd) (λ_=>Qd) (λ_=>Qd) (λ_=>Qd) (λ_=>Qd) (λ_=>Qd)
def jT(es:ζ (ab×ab))(k:ab):Ζ:=jV k !=0 && (es.be||yM es==Qa (jV k))
def nA(es:ζ (ab×ab))(k v:ab):ζ (ab×ab):=
 bif (jW es k).ϟ then es.π λp=>bif fz p.1 k then(p.1,v) else p else es++[(k,v)]
def x5:ζ ab->ζ (ab×ab)->η (ζ (ab×ab))
 | [],es=>Qa es
 | [_],_=>Qd
 |k::v::r,es=>aw (jT es k) (x5 r (nA es k v))
def mC(h:MH)(o:ae):η (ab×MH):=Qa (.ξ h.ε,h++[o])
def bg:θ:=1000000
def vn:θ:=2 ^ 100000
def jg:θ:=2 ^ 8000
def L9(a b:Φ):Ζ:=ZD (a.natAbs+1) vn && ZD (b.natAbs+1) vn
def LK(l:θ)(n:Φ):Ζ:=decide (n<=bg) && decide (-(bg:Φ)<=n) && ZD (l*n.Th) bg
def zaF(h:MH)(x y:ab):η (ab×MH):=
 bj (x.xz.Η λa=>y.xz.Η λb=>Qa (.Β (a+b),h))
 (x.str?.Η λa=>y.str?.Η λb=>aw (ZD (a.ε+b.ε) bg) (Qa (.Ϥ (a++b),h)))
def L8(h:MH)(x y:ab):η (ab×MH):=
 bj (x.xz.Η λa=>y.xz.Η λb=>aw (L9 a b) (Qa (.Β (a*b),h)))
 (bj (x.xz.Η λa=>y.bool?.Η λb=>Qa (.Β (a*(if b then 1 else 0)),h))
 ((kP h x).Η λa=>y.xz.Η λn=>aw (LK a.ε n) (mC h (.ο (J5 n.Th a).pt))))
def HR(op:gy)(a b:Φ):η Φ:=gy.Δ (motive:=λ_=>η Φ) op Qd (Qa (a-b)) Qd
 (aw (b !=0 && ZD (b.natAbs+1) jg) (Qa (qan a b))) (aw (b !=0) (Qa (Xs a b))) Qd
def o7(op:gy)(x y:ab)(h:MH):η (ab×MH):=
 bj (x.xz.Η λa=>y.xz.Η λb=>(HR op a b).π λk=>(.Β k,h))
 (gy.Δ (motive:=λ_=>η (ab×MH)) op (zaF h x y) Qd (L8 h x y) Qd Qd Qd)
def zt(a b:ab):η Ζ:=
 bj (aw b.re (Qa a.re))
 (bj (a.ty?.Η λi=>b.ty?.π λj=>i==j)
 (bj (a.top?.Η λi=>b.top?.π λj=>i==j)
 (aw (a.re||a.xz.ϟ||a.tup?.ϟ) (b.top?.π λ_=>Qc))))
def UQ(h:MH)(x:ab)(vs:ζ ab):η Ζ:=(vs.mapM (nq h 7)).Η λds=>(nq h 7 x).π λd=>ds.any λy=>qaG y d
def one?(s:ζ θ):η θ:=K9 (motive:=λ_=>η θ) s Qd λc r=>K9 (motive:=λ_=>η θ) r (Qa c) λ_ _=>Qd
def F0(h:MH)(x y:ab):η Ζ:=
 bj (y.str?.Η λt=>(x.str?.Η one?).π λc=>t.Tc c)
 (bj (y.tup?.Η λvs=>UQ h x vs)
 (bj ((kP h y).Η λvs=>UQ h x vs)
 ((lN h y).Η λd=>aw (jT d.2 x) (Qa (jW d.2 x).ϟ))))
def Nf(x y:ab)(f:Φ->Φ->Ζ):η Ζ:=x.xz.Η λa=>y.xz.π λb=>f a b
def mX(op:te)(a b:ab)(h:MH):η Ζ:=te.Δ (motive:=λ_=>η Ζ) op (lz h a b) ((lz h a b).π (!·))
 (Nf a b λx y=>decide (x<y)) (Nf a b λx y=>decide (x<=y)) (Nf a b λx y=>decide (y<x)) (Nf a b λx y=>decide (y<=x))
 (F0 h a b) ((F0 h a b).π (!·)) (zt a b) ((zt a b).π (!·))
def pu(n:θ)(i:ab):η θ:=i.xz.Η λi=>aw (decide (0<=i) && decide (i<n)) (Qa i.Th)
def kR(h:MH)(o i:ab):η ab:=
 bj (o.tup?.Η λvs=>(pu vs.ε i).Η λk=>vs[k]?)
 (bj (o.fl?.Η λvs=>(pu vs.ε i).Η λk=>vs[k]?)
 (bj ((kP h o).Η λvs=>(pu vs.ε i).Η λk=>vs[k]?)
 ((lN h o).Η λd=>aw (jT d.2 i) (jW d.2 i))))
def wZ(n:θ)(v:ab):η θ:=v.xz.Η λi=>aw (decide (0<=i)) (Qa (min i.Th n))
def Vc(n k:θ)(bs:ζ ab):η (θ×θ):=
 bif k==3 then a2 bs λa b=>(wZ n a).Η λx=>(wZ n b).π λy=>(x,y) else Qd
def ng{α:Type}(l:ζ α)(a b:θ):ζ α:=(l.na b).jp a
def slice(h:MH)(o:ab)(k:θ)(bs:ζ ab):η (ab×MH):=o.str?.Η λs=>(Vc s.ε k bs).Η λp=>Qa (.Ϥ (ng s p.1 p.2),h)
def mQ(h:MH)(o i v:ab):η MH:=o.ref?.Η λa=>
 bj ((h[a]?.Η ae.Tl).Η λvs=>(pu vs.ε i).π λk=>h.Ϫ a (.ο (vs.Ϫ k v)))
 ((h[a]?.Η ae.dict?).Η λd=>aw (jT d.2 i && ZD (d.2.ε+1) bg) (Qa (h.Ϫ a (.Υ (bif (jW d.2 i).ϟ then d.1 else d.1.π (· +1)) (nA d.2 i v)))))
def vG(fs:ζ (θ×ab))(n:θ):η ab:=(fs.find? λp=>p.1==n).π (·.2)
def WH:ζ (θ×ab)->θ->ab->ζ (θ×ab)
 | [],n,v=>[(n,v)]
 |p::r,n,v=>bif p.1==n then(n,v)::r else p::WH r n v
def gx.gb(P:gx)(c:θ):η Cl:=P.cls.find? λx=>x.gw==c
def gx.kj(P:gx)(c n:θ):η ab:=(P.gb c).Η λx=>vG x.kc n
def gx.cz(P:gx)(c n:θ):Ζ:=((P.gb c).π λk=>k.qx.Tc n).ϡ Qc
def gx.cg(P:gx)(a:θ):η θ:=(P.jy.find? λp=>p.1==a).π (·.2)
def UH(P:gx)(v:ab):Ζ:=(v.top?.π λa=>P.nf.any λf=>f.gw==a).ϡ Qc
def uV(P:gx)(c n:θ):η ab:=(P.kj c n).Η λv=>aw (!UH P v) (Qa v)
def getAttr(P:gx)(h:MH)(o:ab)(n:θ):η ab:=
 bj ((cg h o).Η λq=>JG (motive:=λ_=>η ab) (vG q.2 n) (uV P q.1 n) λv=>aw (P.cz q.1 n) (Qa v))
 (o.top?.Η λa=>(P.cg a).Η λc=>uV P c n)
def setAttr(P:gx)(h:MH)(o:ab)(n:θ)(v:ab):η MH:=o.ref?.Η λa=>(h[a]?.Η ae.inst?).Η λq=>
 aw (P.cz q.1 n && ZD (q.2.ε+1) 400) (Qa (h.Ϫ a (.Tt q.1 (WH q.2 n v))))
def yK(P:gx)(c n:θ):η θ:=(P.kj c n).Η λv=>aw (UH P v) v.top?
def mS(P:gx)(h:MH)(o:ab)(n:θ):η (θ×ζ ab):=
 bj (o.top?.Η λa=>JG (motive:=λ_=>η (θ×ζ ab)) (P.cg a) ((yK P a n).π λf=>(f,[])) λc=>(yK P c n).π λf=>(f,[o]))
 ((cg h o).Η λq=>aw (vG q.2 n).re ((yK P q.1 n).π λf=>(f,[o])))
set_option genCtorIdx false in
inductive It where
 |ls(a:θ)
 |tp(vs:ζ ab)
 |dk(a n ep:θ)
 |sq(s:ζ θ)
 |rg(n:Φ)
 |fs(vs:ζ ab)
def oZ(h:MH)(x:ab):η It:=
 bj (x.rng?.Η λn=>aw (decide (n<=bg) && decide (-(bg:Φ)<=n)) (Qa (.rg n)))
 (bj (x.ref?.Η λa=>bj ((h[a]?.Η ae.Tl).π λ_=>.ls a) ((h[a]?.Η ae.dict?).Η λd=>d.1.π λep=>.dk a d.2.ε ep))
 (bj (x.tup?.π .tp) (bj (x.str?.π .sq) (x.fl?.π .fs))))
def lP(h:MH)(i:θ)(k:It):η (η ab):=It.Δ (motive:=λ_=>η (η ab)) k
 (λa=>(h[a]?.Η ae.Tl).π λvs=>vs[i]?)
 (λvs=>Qa vs[i]?)
 (λa n ep=>(h[a]?.Η ae.dict?).Η λd=>aw (d.1==Qa ep && d.2.ε==n) (Qa (d.2[i]?.π (·.1))))
 (λs=>Qa (s[i]?.π λc=>.Ϥ [c]))
 (λn=>Qa (bif decide ((i:Φ)<n) then Qa (.Β i) else Qd))
 (λvs=>Qa vs[i]?)
def items(h:MH)(x:ab):η (ζ ab):=bj x.tup? (kP h x)
def uC(tg:ζ θ)(vs:ζ ab)(fr:Λ):Λ:=(tg.zip vs).foldl (λf p=>f.Ϫ p.1 (Qa p.2)) fr
def nW(fr:Λ)(tg:ζ θ)(many:Ζ)(v:ab):η Λ:=
 bif many then v.tup?.Η λvs=>aw (vs.ε==tg.ε) (Qa (uC tg vs fr)) else aw (tg.ε==1) (Qa (uC tg [v] fr))
abbrev uD:θ:=7103854
abbrev Pt:θ:=7168376
abbrev zeR:θ:=7170414
abbrev tO:θ:=126922498794852
abbrev Gv:θ:=491260897125
abbrev LX:θ:=1818850164
abbrev A8:θ:=1684628340
abbrev IF:θ:=500186508389
abbrev zb8:θ:=7566450
abbrev zcb:θ:=6909556
abbrev SZ:θ:=1954115685
abbrev zb9:θ:=7562612
abbrev S9:θ:=1651470188
abbrev UB:θ:=5651857438861258853
abbrev fe:θ:=107135549927012
abbrev ql:θ:=7368560
abbrev ziq:θ:=452823639416
abbrev kg:θ:=6776180
abbrev lh:θ:=29681812198482789
abbrev zjk:θ:=1785686382
abbrev zca:θ:=2073057139020767260526
abbrev zio:θ:=495807392116
abbrev zin:θ:=495874894192
abbrev S5:θ:=545218989645367805047912
abbrev zjl:θ:=1718185572
abbrev zju:θ:=6382692
def zbh(h:MH)(x:ab):η θ:=ab.Δ (ϣ:=λ_=>η θ) x (Qa UB) (λ_=>Qa S9) (λ_=>Qa zcb) (λ_=>Qa zb8) (λ_=>Qa IF)
 (λa=>(kP h (.ξ a)).π λ_=>LX) (λ_=>Qd) (λ_=>Qd) (λ_=>Qd) (λ_=>Qd) (λ_=>Qd) (λ_=>Qd)
def Mg(h:MH)(x:ab):η θ:=ab.Δ (ϣ:=λ_=>η θ) x Qd (λ_=>Qd) (λ_=>Qd) (λs=>Qa s.ε) (λvs=>Qa vs.ε)
 (λa=>bj ((kP h (.ξ a)).π (·.ε)) ((lN h (.ξ a)).π (·.2.ε))) (λ_=>Qd) (λ_=>Qd) (λ_=>Qd) (λ_=>Qd) (λvs=>Qa vs.ε) Qa
def zaB(as:ζ ab)(h:MH):η (ab×MH):=a1 as λv=>(Mg h v).π λ(k:θ)=>(ab.Β (k:Φ),h)
def zaA(as:ζ ab)(h:MH):η (ab×MH):=a2 as λx y=>x.xz.Η λa=>y.xz.π λb=>(.Β (if b>a then b else a),h)
def zaz(as:ζ ab)(h:MH):η (ab×MH):=a2 as λx y=>x.xz.Η λa=>y.xz.π λb=>(.Β (if b<a then b else a),h)
def Re(a:ζ θ):ζ θ->Ζ:=Xe (motive:=λ_=>ζ θ->Ζ) (λb=>Xe (motive:=λ_=>Ζ) Qc (λ_ _ _=>Qe) b) (λx _ ih b=>Xe (motive:=λ_=>Ζ) Qc (λy r _=>Ζ.rec (motive:=λ_=>Ζ) (Ζ.rec (motive:=λ_=>Ζ) (ih r) Qc (ZD (Z6 y) x)) Qe (ZD (Z6 x) y)) b) a
def ym{α:Type}(lt:θ->θ->Ζ)(t:Ρ.W.KasT α):α:=Ρ.W.KasT.rec (motive:=λ_=>α) (λa=>a) (λi j _ ih=>ih (lt i j)) t
def Rc(x y:ab):Ζ:=(bj (x.str?.Η λs=>y.str?.π (Re s)) (x.xz.Η λi=>y.xz.π λj=>decide (i<j))).ϡ Qc
def zcy(a:ζ ab):ζ ab->Ζ:=Xe (motive:=λ_=>ζ ab->Ζ) (λ_=>Qc) (λx _ ih b=>K9 (motive:=λ_=>Ζ) b Qc λy r=>bif fz x y then ih r else Rc x y) a
def ltV(x y:ab):Ζ:=JG (motive:=λ_=>Ζ) x.tup? (Rc x y) λl=>zcy l (y.tup?.ϡ [])
def O0(v:ab):ζ Ζ:=(v.tup?.ϡ []).π λx=>x.str?.ϟ
def okV(l:ζ ab):Ζ:=ZD l.ε 60 && (l.Hd (λv=>m9 v && v.str?.ϟ==(l.headD .Ε).str?.ϟ)||l.Hd λv=>jV v==3 && decide (O0 v=Qe::(O0 (l.headD .Ε)).pc))
def yX(l:ζ ab):ζ ab:=bif ZD l.ε 1 then l else(ym (λi j=>ltV (l.ϡ i .Ε) (l.ϡ j .Ε)) (Ρ.W.kas_sort l.ε)).ch.π λi=>l.ϡ i .Ε
def wH(h:MH)(x:ab):η (ζ ab):=bj ((lN h x).π λp=>p.2.π (·.1)) (kP h x)
def HJ(as:ζ ab)(h:MH):η (ab×MH):=a1 as λx=>(wH h x).Η λms=>aw (okV ms) (mC h (.ο (yX ms)))
def GT(n:θ)(as:ζ ab)(h:MH):η (ab×MH):=
 bj (aw (n==uD) (zaB as h)) (bj (aw (n==Pt) (zaA as h)) (bj (aw (n==zeR) (zaz as h)) (aw (n==tO) (HJ as h))))
def Ax(as:ζ ab)(h:MH):η (ab×MH):=a1 as λx=>x.xz.π λk=>(.gq k,h)
def B7(as:ζ ab)(h:MH):η (ab×MH):=a1 as λx=>bj (x.tup?.Η λvs=>mC h (.ο vs)) (bj (x.fl?.Η λvs=>mC h (.ο vs)) ((kP h x).Η λvs=>mC h (.ο vs)))
def B8(as:ζ ab)(h:MH):η (ab×MH):=a1 as λx=>(lN h x).Η λd=>aw (d.2.Hd λp=>jV p.1==1) (mC h (.Υ Qd d.2))
def zdW(as:ζ ab)(h:MH):η (ab×MH):=Qd
def zdX(as:ζ ab)(h:MH):η (ab×MH):=Qd
def B6(as:ζ ab)(h:MH):η (ab×MH):=a1 as λx=>(zbh h x).π λk=>(.ty k,h)
def M3(l:ζ ab):Ζ:=Xe Qe (λv r b=>!(r.any (fz v)) && b) l
def SK(x:ab)(h:MH):η (ab×MH):=(kP h x).Η λvs=>aw (ZD vs.ε 18 && (vs.Hd (λv=>jV v==3) && M3 vs)) (Qa (.jr vs.ε,h))
def GR(n:θ)(as:ζ ab)(h:MH):η (ab×MH):=
 bj (aw (n==Gv) (Ax as h)) (bj (aw (n==LX) (B7 as h)) (bj (aw (n==zb8) (zdW as h)) (bj (aw (n==SZ) (B6 as h)) (bj (aw (n==A8) (B8 as h)) (bj (aw (n==zcb) (zdX as h)) (aw (n==zb9) (a1 as λx=>SK x h)))))))
def zbA(s:ζ θ):Ζ:=s.Hd (λc=>ZD (c+1) 0x110000) && ZD s.ε bg
def AD(s:ζ θ)(n:θ)(as:ζ ab)(h:MH):η (ab×MH):=aw (n==lh) (a0 as (Qa (.ϯ (Txt.isspace ⟨s.υ⟩),h)))
def wG(a:θ)(vs:ζ ab)(n:θ)(as:ζ ab)(h:MH):η (ab×MH):=
 bj (aw (n==fe) (a1 as λv=>aw (ZD (vs.ε+1) bg) (Qa (.Ε,h.Ϫ a (.ο (vs++[v]))))))
 (aw (n==ql) (a0 as (vs.getLast?.π λv=>(v,h.Ϫ a (.ο vs.dropLast)))))
def wY(es:ζ (ab×ab))(n:θ)(as:ζ ab)(h:MH):η (ab×MH):=
 aw (n==kg) (bj (a1 as λk=>aw (jT es k) (Qa ((jW es k).ϡ .Ε,h))) (a2 as λk d=>aw (jT es k) (Qa ((jW es k).ϡ d,h))))
def yQ(o:ab)(n:θ)(as:ζ ab)(h0 h:MH):η (ab×MH):=
 bj (o.str?.Η λs=>AD s n as h)
 (o.ref?.Η λa=>bj ((h0[a]?.Η ae.Tl).Η λ_=>(h[a]?.Η ae.Tl).Η λvs=>wG a vs n as h) ((h0[a]?.Η ae.dict?).Η λ_=>(h[a]?.Η ae.dict?).Η λd=>wY d.2 n as h))
abbrev Cx:=gx×θ×(θ->ζ ab->MH->η (ab×MH))
section
variable(ψ:Cx)
abbrev Cx.P:=ψ.1
abbrev Cx.ba:=ψ.2.1
abbrev Cx.bn:=ψ.2.2
end
def Pp(c:Cx)(a:θ)(k:Cl)(as:ζ ab)(h:MH):η (ab×MH):=
 k.init.Η λi=>bz (c.bn i (.ξ h.ε::as) (h++[.Tt a []])) λr h'=>aw r.re (Qa (.ξ h.ε,h'))
def jO(c:Cx)(f:ab)(as:ζ ab)(h:MH):η (ab×MH):=
 bj (f.top?.Η λa=>JG (motive:=λ_=>η (ab×MH)) (c.P.gb a) (c.bn a as h) λk=>Pp c a k as h)
 (bj (f.bi?.Η λn=>GT n as h) (f.ty?.Η λn=>GR n as h))
def kI(c:Cx)(o:ab)(n:θ)(as:ζ ab)(h0 h:MH):η (ab×MH):=
 JG (motive:=λ_=>η (ab×MH)) (mS c.P h0 o n) (yQ o n as h0 h) λp=>c.bn p.1 (p.2++as) h
def lT(p:η (ab×MH)):η (Ζ×MH):=bz p λv h=>(truthy h v).π λb=>(b,h)
def compLoop(next:θ->MH->η (η ab))(test:ab->MH->η (η Λ×MH))(ez:Λ->MH->η (ab×MH))(acc:θ):θ->θ->MH->η (Unit×MH)
 |0,_,_=>Qd
 |n+1,i,h=>(next i h).Η λov=>JG (motive:=λ_=>η (Unit×MH)) ov (Qa ((),h)) λv=>
  bz (test v h) λofr h1=>JG (motive:=λ_=>η (Unit×MH)) ofr (compLoop next test ez acc n (i+1) h1) λfr=>
   bz (ez fr h1) λx h2=>(h2[acc]?.Η ae.Tl).Η λvs=>aw (ZD (vs.ε+1) bg) (compLoop next test ez acc n (i+1) (h2.Ϫ acc (.ο (vs++[x]))))
mutual
noncomputable def eval (c:Cx):Ex->Frame->MH->Option (ab×MH)
 | .var x,fr,h=>fr[x]?.bind λo=>o.map λv=>(v,h)
 | .lit v,_,h=>Qa (v,h)
 | .list es,fr,h=>bz (qC c es fr h) λvs h1=>mC h1 (.list vs)
 | .ay es,fr,h=>bz (qC c es fr h) λvs h1=>Qa (.ay vs,h1)
 | .dict kvs,fr,h=>bz (qC c kvs fr h) λl h1=>(x5 l []).bind λes=>aw (ZD kvs.length 30) (mC h1 (.dict (Qa es.length) es))
 | .fq op a b,fr,h=>bz (eval c a fr h) λx h1=>bz (eval c b fr h1) λy h2=>o7 op x y h2
 | .not a,fr,h=>bz (lT (eval c a fr h)) λb h1=>Qa (.bool (!b),h1)
 | .gm op a b,fr,h=>bz (eval c a fr h) λx h1=>bz (eval c b fr h1) λy h2=>(mX op x y h2).map λr=>(.bool r,h2)
 | .qa stop es,fr,h=>yN c stop es fr h
 | .ite t a b,fr,h=>bz (lT (eval c t fr h)) λr h1=>bif r then eval c a fr h1 else eval c b fr h1
 | .aq e n,fr,h=>bz (eval c e fr h) λo h1=>(getAttr c.P h1 o n).map λv=>(v,h1)
 | .sub e i,fr,h=>bz (eval c e fr h) λo h1=>bz (eval c i fr h1) λk h2=>(kR h2 o k).map λv=>(v,h2)
 | .slice e k bs,fr,h=>bz (eval c e fr h) λo h1=>bz (qC c bs fr h1) λvs h2=>slice h2 o k vs
 | .call f as,fr,h=>bz (eval c f fr h) λg h1=>bz (qC c as fr h1) λvs h2=>jO c g vs h2
 | .bc o n as,fr,h=>bz (eval c o fr h) λv h1=>bz (qC c as fr h1) λvs h2=>kI c v n vs h1 h2
 | .comp ez tg many it ifs,fr,h=>bz (eval c it fr h) λv h1=>(oZ h1 v).bind λk=>
   bz (compLoop (λi h=>lP h i k) (λv h=>(nW fr tg many v).bind λfr'=>bz (Hy c ifs fr' h) λb h'=>Qa (bif b then Qa fr' else Qd,h')) (λfr' h=>eval c ez fr' h) h1.length c.ba 0 (h1++[.list []]))
    λ_ h2=>Qa (.ref h1.length,h2)
noncomputable def qC (c:Cx):List Ex->Frame->MH->Option (List ab×MH)
 | [],_,h=>Qa ([],h)
 |e::r,fr,h=>bz (eval c e fr h) λv h1=>bz (qC c r fr h1) λvs h2=>Qa (v::vs,h2)
noncomputable def yN (c:Cx) (stop:Bool):List Ex->Frame->MH->Option (ab×MH)
 | [],_,_=>Qd
 |e::r,fr,h=>bz (eval c e fr h) λv h1=>bif r.isEmpty then Qa (v,h1) else(truthy h1 v).bind λb=>bif b==stop then Qa (v,h1) else yN c stop r fr h1
noncomputable def Hy (c:Cx):List Ex->Frame->MH->Option (Bool×MH)
 | [],_,h=>Qa (Qe,h)
 |e::r,fr,h=>bz (lT (eval c e fr h)) λb h1=>bif b then Hy c r fr h1 else Qa (Qc,h1)
end
def Lm(c:Cx)(fr:Λ)(h:MH)(v:ab):T1->η (Λ×MH)
 | .nm x=>Qa (fr.Ϫ x (Qa v),h)
 | .at o n=>bz (eval c o fr h) λov h1=>(setAttr c.P h1 ov n v).π λh2=>(fr,h2)
 | .sb o i=>bz (eval c o fr h) λov h1=>bz (eval c i fr h1) λiv h2=>(mQ h2 ov iv v).π λh3=>(fr,h3)
def qM(c:Cx):ζ T1->ζ ab->Λ->MH->η (Λ×MH)
 | [],vs,fr,h=>aw vs.be (Qa (fr,h))
 |t::ts,vs,fr,h=>vs.head?.Η λv=>bz (Lm c fr h v t) λfr' h'=>qM c ts vs.pc fr' h'
abbrev SR:=η ((Fl×Λ)×MH)
def Wr(cond:Λ->MH->η (Ζ×MH))(body:Λ->MH->SR):θ->Λ->MH->SR
 |0,_,_=>Qd
 |n+1,fr,h=>bz (cond fr h) λb h1=>bif b then bz (body fr h1) λp h2=>Fl.Δ (motive:=λ_=>SR) p.1 (Wr cond body n p.2 h2) (Qa ((.nx,p.2),h2)) (Wr cond body n p.2 h2) (λv=>Qa ((.rt v,p.2),h2))
  else Qa ((.nx,fr),h1)
def UE(next:θ->MH->η (η ab))(bind:Λ->ab->η Λ)(body:Λ->MH->SR):θ->θ->Λ->MH->SR
 |0,_,_,_=>Qd
 |n+1,i,fr,h=>(next i h).Η λov=>JG (motive:=λ_=>SR) ov (Qa ((.nx,fr),h)) λv=>(bind fr v).Η λfr1=>
   bz (body fr1 h) λp h2=>Fl.Δ (motive:=λ_=>SR) p.1 (UE next bind body n (i+1) p.2 h2) (Qa ((.nx,p.2),h2)) (UE next bind body n (i+1) p.2 h2) (λv=>Qa ((.rt v,p.2),h2))
mutual
noncomputable def exec (c:Cx):Sm->Frame->MH->SR
 | .expr e,fr,h=>bz (eval c e fr h) λ_ h1=>Qa ((.nx,fr),h1)
 | .ft t e,fr,h=>bz (eval c e fr h) λv h1=>bz (Lm c fr h1 v t) λfr' h2=>Qa ((.nx,fr'),h2)
 | .ju ts e,fr,h=>bz (eval c e fr h) λv h1=>(items h1 v).bind λvs=>bz (qM c ts vs fr h1) λfr' h2=>Qa ((.nx,fr'),h2)
 | .ret e,fr,h=>bz (eval c e fr h) λv h1=>Qa ((.rt v,fr),h1)
 | .ite t a b,fr,h=>bz (lT (eval c t fr h)) λr h1=>bif r then execs c a fr h1 else execs c b fr h1
 | .wh t b,fr,h=>Wr (λfr h=>lT (eval c t fr h)) (λfr h=>execs c b fr h) c.ba fr h
 | .fo tg many e b,fr,h=>bz (eval c e fr h) λv h1=>(oZ h1 v).bind λk=>UE (λi h=>lP h i k) (λfr v=>nW fr tg many v) (λfr h=>execs c b fr h) c.ba 0 fr h1
 | .brk,fr,h=>Qa ((.bk,fr),h)
 | .cont,fr,h=>Qa ((.ct,fr),h)
 | .rz,fr,h=>Qa ((.nx,fr),h)
 | .gu,_,_=>Qd
 | .bJ _,_,_=>Qd
 | .tr _ _ _ _,_,_=>Qd
noncomputable def execs (c:Cx):List Sm->Frame->MH->SR
 | [],fr,h=>Qa ((.nx,fr),h)
 |s::r,fr,h=>bz (exec c s fr h) λp h1=>Fl.casesOn (motive:=λ_=>SR) p.1 (execs c r p.2 h1) (Qa (p,h1)) (Qa (p,h1)) (λ_=>Qa (p,h1))
end
def gx.kh(P:gx)(a:θ):η Fn:=P.nf.find? λf=>f.gw==a
def vI(f:Fn)(as:ζ ab):η (ζ ab):=aw (ZD as.ε f.np && ZD (f.np-as.ε) f.oz.ε) (Qa (as++f.oz.jp (f.oz.ε-(f.np-as.ε))))
def qY(f:Fn)(vs:ζ ab):Λ:=vs.π Qa++J5 (f.ns-f.np) Qd
def RQ(p:Fl×Λ)(h:MH):η (ab×MH):=Fl.Δ (motive:=λ_=>η (ab×MH)) p.1 (Qa (.Ε,h)) Qd Qd λv=>Qa (v,h)
def mB(P:gx)(ba:θ):θ->θ->ζ ab->MH->η (ab×MH)
 |0,_,_,_=>Qd
 |d+1,a,as,h=>(P.kh a).Η λf=>(vI f as).Η λvs=>bz (execs ⟨P,ba,mB P ba d⟩ f.TI (qY f vs) h) RQ
abbrev CC:=(ζ (ld×Qx))×(ζ (ld×θ))×θ×(ζ (ld×ab))
section
variable(ψ:CC)
abbrev CC.sc:=ψ.1
abbrev CC.jh:=ψ.2.1
abbrev CC.ϫ:=ψ.2.2.1
abbrev CC.gl:=ψ.2.2.2
end
def jQ (x:ld):Ζ:=x.cps.ch.Hd (λc=>1<=c && c<=255) && x !=("__debug__":ld) && x !=("__class__":ld) && x !=("super":ld) && !x.cps.ch.be
def M9:Const->η ab
 | .Ε=>Qa .Ε
 | .ϯ b=>Qa (.ϯ b)
 | .Β i=>Qa (.Β i)
 | .Ϥ s=>aw (zbA s.cps.ch) (Qa (.Ϥ s.cps.ch))
 |_=>Qd
def nH(cx:CC)(x:ld):η θ:=aw (cx.sc.Α x==Qa .local||cx.sc.Α x==Qa .TD) (cx.jh.Α x)
def Ew:Operator->η gy
 | .Add=>Qa .am
 | .Sub=>Qa .Ix
 | .Mult=>Qa .ss
 | .FloorDiv=>Qa .fdiv
 | .Mod=>Qa .mod
 | .Pow=>Qa .gZ
 |_=>Qd
def Ep:CmpOp->te
 | .Eq=>.eq
 | .NotEq=>.ne
 | .Lt=>.lt
 | .LtE=>.le
 | .Gt=>.gt
 | .GtE=>.ge
 | .In=>.qr
 | .NotIn=>.nu
 | .Is=>.is
 | .IsNot=>.ja
def p5(e:ϝ):η (ld×Pos):=ϝ.Δ (ϣ:=λ_=>η (ld×Pos)) e (λ_ _ _=>Qd) (λ_ _ _=>Qd) (λ_ _ _ _=>Qd) (λ_ _ _=>Qd) (λ_ _ _ _=>Qd) (λ_ _ _ _=>Qd) (λ_ _ _=>Qd) (λ_ _ _=>Qd) (λ_ _ _ _=>Qd) (λ_ _ _ _=>Qd) (λ_ _ _ _ _=>Qd) (λ_ _ _ _=>Qd) (λ_ _=>Qd) (λ_ _=>Qd) (λ_ _=>Qd) (λ_ _ _ _=>Qd) (λ_ _ _ _=>Qd) (λ_ _ _ _=>Qd) (λ_ _=>Qd) (λ_ _ _=>Qd) (λ_ _ _=>Qd) (λ_ _ _=>Qd) (λ_ _=>Qd) (λx y=>Qa (x,y)) (λ_ _=>Qd) (λ_ _ _=>Qd) (λ_ _ _ _=>Qd)
def Vp(e:ϝ):η (ϝ×ld×Pos):=ϝ.Δ (ϣ:=λ_=>η (ϝ×ld×Pos)) e (λ_ _ _=>Qd) (λ_ _ _=>Qd) (λ_ _ _ _=>Qd) (λ_ _ _=>Qd) (λ_ _ _ _=>Qd) (λ_ _ _ _=>Qd) (λ_ _ _=>Qd) (λ_ _ _=>Qd) (λ_ _ _ _=>Qd) (λ_ _ _ _=>Qd) (λ_ _ _ _ _=>Qd) (λ_ _ _ _=>Qd) (λ_ _=>Qd) (λ_ _=>Qd) (λ_ _=>Qd) (λ_ _ _ _=>Qd) (λ_ _ _ _=>Qd) (λ_ _ _ _=>Qd) (λ_ _=>Qd) (λ_ _ _=>Qd) (λx y z=>Qa (x,y,z)) (λ_ _ _=>Qd) (λ_ _=>Qd) (λ_ _=>Qd) (λ_ _=>Qd) (λ_ _ _=>Qd) (λ_ _ _ _=>Qd)
def uW(e:ϝ):η (ζ ϝ×θ×Pos):=ϝ.Δ (ϣ:=λ_=>η (ζ ϝ×θ×Pos)) e (λ_ _ _=>Qd) (λ_ _ _=>Qd) (λ_ _ _ _=>Qd) (λ_ _ _=>Qd) (λ_ _ _ _=>Qd) (λ_ _ _ _=>Qd) (λ_ _ _=>Qd) (λ_ _ _=>Qd) (λ_ _ _ _=>Qd) (λ_ _ _ _=>Qd) (λ_ _ _ _ _=>Qd) (λ_ _ _ _=>Qd) (λ_ _=>Qd) (λ_ _=>Qd) (λ_ _=>Qd) (λ_ _ _ _=>Qd) (λ_ _ _ _=>Qd) (λ_ _ _ _=>Qd) (λ_ _=>Qd) (λ_ _ _=>Qd) (λ_ _ _=>Qd) (λ_ _ _=>Qd) (λ_ _=>Qd) (λ_ _=>Qd) (λ_ _=>Qd) (λx y z=>Qa (x,y,z)) (λ_ _ _ _=>Qd)
def Nr(e:ϝ):η (ϝ×ϝ×Pos):=ϝ.Δ (ϣ:=λ_=>η (ϝ×ϝ×Pos)) e (λ_ _ _=>Qd) (λ_ _ _=>Qd) (λ_ _ _ _=>Qd) (λ_ _ _=>Qd) (λ_ _ _ _=>Qd) (λ_ _ _ _=>Qd) (λ_ _ _=>Qd) (λ_ _ _=>Qd) (λ_ _ _ _=>Qd) (λ_ _ _ _=>Qd) (λ_ _ _ _ _=>Qd) (λ_ _ _ _=>Qd) (λ_ _=>Qd) (λ_ _=>Qd) (λ_ _=>Qd) (λ_ _ _ _=>Qd) (λ_ _ _ _=>Qd) (λ_ _ _ _=>Qd) (λ_ _=>Qd) (λ_ _ _=>Qd) (λ_ _ _=>Qd) (λx y z=>Qa (x,y,z)) (λ_ _=>Qd) (λ_ _=>Qd) (λ_ _=>Qd) (λ_ _ _=>Qd) (λ_ _ _ _=>Qd)
def xD(e:ϝ):η (η ϝ×η ϝ×η ϝ×Pos):=ϝ.Δ (ϣ:=λ_=>η (η ϝ×η ϝ×η ϝ×Pos)) e (λ_ _ _=>Qd) (λ_ _ _=>Qd) (λ_ _ _ _=>Qd) (λ_ _ _=>Qd) (λ_ _ _ _=>Qd) (λ_ _ _ _=>Qd) (λ_ _ _=>Qd) (λ_ _ _=>Qd) (λ_ _ _ _=>Qd) (λ_ _ _ _=>Qd) (λ_ _ _ _ _=>Qd) (λ_ _ _ _=>Qd) (λ_ _=>Qd) (λ_ _=>Qd) (λ_ _=>Qd) (λ_ _ _ _=>Qd) (λ_ _ _ _=>Qd) (λ_ _ _ _=>Qd) (λ_ _=>Qd) (λ_ _ _=>Qd) (λ_ _ _=>Qd) (λ_ _ _=>Qd) (λ_ _=>Qd) (λ_ _=>Qd) (λ_ _=>Qd) (λ_ _ _=>Qd) (λx y z u=>Qa (x,y,z,u))
def pV(e:ϝ):Ζ:=ϝ.Δ (ϣ:=λ_=>Ζ) e (λ_ _ _=>Qc) (λ_ _ _=>Qc) (λ_ _ _ _=>Qc) (λ_ _ _=>Qc) (λ_ _ _ _=>Qc) (λ_ _ _ _=>Qc) (λ_ _ _=>Qc) (λ_ _ _=>Qc) (λx y z u=>Qe) (λ_ _ _ _=>Qc) (λ_ _ _ _ _=>Qc) (λ_ _ _ _=>Qc) (λ_ _=>Qc) (λ_ _=>Qc) (λ_ _=>Qc) (λ_ _ _ _=>Qc) (λ_ _ _ _=>Qc) (λ_ _ _ _=>Qc) (λ_ _=>Qc) (λ_ _ _=>Qc) (λ_ _ _=>Qc) (λ_ _ _=>Qc) (λ_ _=>Qc) (λ_ _=>Qc) (λ_ _=>Qc) (λ_ _ _=>Qc) (λ_ _ _ _=>Qc)
def Vi(e:ϝ):Ζ:=ϝ.Δ (ϣ:=λ_=>Ζ) e (λ_ _ _=>Qe) (λ_ _ _=>Qe) (λ_ _ _ _=>Qe) (λ_ _ _=>Qe) (λ_ _ _ _=>Qe) (λ_ _ _ _=>Qe) (λ_ _ _=>Qe) (λ_ _ _=>Qe) (λ_ _ _ _=>Qe) (λ_ _ _ _=>Qe) (λ_ _ _ _ _=>Qe) (λ_ _ _ _=>Qe) (λ_ _=>Qe) (λ_ _=>Qe) (λ_ _=>Qe) (λ_ _ _ _=>Qe) (λx y z u=>!y.be) (λ_ _ _ _=>Qe) (λ_ _=>Qe) (λ_ _ _=>Qe) (λ_ _ _=>Qe) (λ_ _ _=>Qe) (λ_ _=>Qe) (λ_ _=>Qe) (λ_ _=>Qe) (λ_ _ _=>Qe) (λ_ _ _ _=>Qe)
def oB(f:α->η β):ζ α->η (ζ β)
 | []=>Qa []
 |a::r=>(f a).Η λb=>(oB f r).π λbs=>b::bs
def FF(l:ζ α)(f:α->η β):η β:=K9 (motive:=λ_=>η β) l Qd λa r=>K9 (motive:=λ_=>η β) r (f a) λ_ _=>Qd
inductive lO(R:α->β->Prop):ζ α->ζ β->Prop
 |Ϝ:lO R [] []
 |Ι{a:α}{b:β}{as:ζ α}{bs:ζ β}:R a b->lO R as bs->lO R (a::as) (b::bs)
variable{o:Option α}{f:α->Option β}{r:β}
theorem bs(h:o.Η f=Qa r):∃a,o=Qa a/\f a=Qa r:=XY.mp h
theorem ms{f:α->β}(h:o.π f=Qa r):∃a,o=Qa a/\f a=r:=Zm.mp h
def gs{r:α}(h:aw b o=Qa r):b=Qe/\o=Qa r:=by
 cases b
 ·cases h
 ·exact⟨rfl,h⟩
theorem j1(g:∀a,o=Qa a->f a=Qa r->P)(h:o.Η f=Qa r):P:=(bs h).ι λa h=>g a h.1 h.2
theorem kL{f:α->β}(g:∀a,o=Qa a->f a=r->P)(h:o.π f=Qa r):P:=(ms h).ι λa h=>g a h.1 h.2
theorem l6{r:α}(g:b=Qe->o=Qa r->P)(h:aw b o=Qa r):P:=g (gs h).1 (gs h).2
variable{a:Option α}
theorem lB{b:η α}{r:α}(g:a=Qa r->P)(g':b=Qa r->P):bj a b=Qa r->P:=JG (motive:=λa=>(a=Qa r->P)->bj a b=Qa r->P) a (λ_ h=>g' h) (λ_ g h=>g h) g
theorem jM{o:η (α×MH)}{f:α->MH->η (β×MH)}{r:β×MH}(g:∀a h,o=Qa (a,h)->f a h=Qa r->P):bz o f=Qa r->P:=JG (motive:=λo=>(∀a h,o=Qa (a,h)->f a h=Qa r->P)->bz o f=Qa r->P) o (λ_ h=>η.Ok rfl (heq_of_eq h)) (λp g h=>g p.1 p.2 rfl h) g
variable{l:List α}
def Wk(h:FF l f=Qa r):∃a,l=[a]/\f a=Qa r:=by
 cases l with
 |Ϝ=>cases h
 |Ι a l=>
  cases l with
  |Ϝ=>exact⟨a,rfl,h⟩
  |Ι _ _=>cases h
def qR:∀{r:ζ β},oB f l=Qa r->lO (λa b=>f a=Qa b) l r:=by
 induction l with
 |Ϝ=>intro r h;cases h;exact .Ϝ
 |Ι a l ih=>
  intro r h;obtain⟨b,h1,h⟩:=bs h;refine(ms h).ι λbs zq1=>?_;obtain rfl:=zq1.2;exact .Ι h1 (ih zq1.1)
variable{R:α->β->Prop}{as:List α}
def lO.Τ{S:α->β->Prop}(h:∀a b,R a b->S a b){bs:ζ β}(r:lO R as bs):lO S as bs:=by
 induction r with
 |Ϝ=>exact .Ϝ
 |Ι x _ ih=>exact .Ι (h _ _ x) ih
def lO.ε{bs:ζ β}(r:lO R as bs):bs.ε=as.ε:=by
 induction r with
 |Ϝ=>rfl
 |Ι _ _ ih=>exact ω (· +1) ih
theorem ag{p:α}(h:Qd=Qa p):P:=nomatch h
theorem qG{p:ld×Pos}:p5 e=Qa p->e=.Name p.1 p.2:=ϝ.Δ (ϣ:=λe=>p5 e=Qa p->e=.Name p.1 p.2) e (λ_ _ _ h=>ag h) (λ_ _ _ h=>ag h) (λ_ _ _ _ h=>ag h) (λ_ _ _ h=>ag h) (λ_ _ _ _ h=>ag h) (λ_ _ _ _ h=>ag h) (λ_ _ _ h=>ag h) (λ_ _ _ h=>ag h) (λ_ _ _ _ h=>ag h) (λ_ _ _ _ h=>ag h) (λ_ _ _ _ _ h=>ag h) (λ_ _ _ _ h=>ag h) (λ_ _ h=>ag h) (λ_ _ h=>ag h) (λ_ _ h=>ag h) (λ_ _ _ _ h=>ag h) (λ_ _ _ _ h=>ag h) (λ_ _ _ _ h=>ag h) (λ_ _ h=>ag h) (λ_ _ _ h=>ag h) (λ_ _ _ h=>ag h) (λ_ _ _ h=>ag h) (λ_ _ h=>ag h) (λx y h=>Qa.lf h▸rfl) (λ_ _ h=>ag h) (λ_ _ _ h=>ag h) (λ_ _ _ _ h=>ag h)
theorem Vo{p:ϝ×ld×Pos}:Vp e=Qa p->e=.Td p.1 p.2.1 p.2.2:=ϝ.Δ (ϣ:=λe=>Vp e=Qa p->e=.Td p.1 p.2.1 p.2.2) e (λ_ _ _ h=>ag h) (λ_ _ _ h=>ag h) (λ_ _ _ _ h=>ag h) (λ_ _ _ h=>ag h) (λ_ _ _ _ h=>ag h) (λ_ _ _ _ h=>ag h) (λ_ _ _ h=>ag h) (λ_ _ _ h=>ag h) (λ_ _ _ _ h=>ag h) (λ_ _ _ _ h=>ag h) (λ_ _ _ _ _ h=>ag h) (λ_ _ _ _ h=>ag h) (λ_ _ h=>ag h) (λ_ _ h=>ag h) (λ_ _ h=>ag h) (λ_ _ _ _ h=>ag h) (λ_ _ _ _ h=>ag h) (λ_ _ _ _ h=>ag h) (λ_ _ h=>ag h) (λ_ _ _ h=>ag h) (λx y z h=>Qa.lf h▸rfl) (λ_ _ _ h=>ag h) (λ_ _ h=>ag h) (λ_ _ h=>ag h) (λ_ _ h=>ag h) (λ_ _ _ h=>ag h) (λ_ _ _ _ h=>ag h)
theorem zK{p:ζ ϝ×θ×Pos}:uW e=Qa p->e=.Tuple p.1 p.2.1 p.2.2:=ϝ.Δ (ϣ:=λe=>uW e=Qa p->e=.Tuple p.1 p.2.1 p.2.2) e (λ_ _ _ h=>ag h) (λ_ _ _ h=>ag h) (λ_ _ _ _ h=>ag h) (λ_ _ _ h=>ag h) (λ_ _ _ _ h=>ag h) (λ_ _ _ _ h=>ag h) (λ_ _ _ h=>ag h) (λ_ _ _ h=>ag h) (λ_ _ _ _ h=>ag h) (λ_ _ _ _ h=>ag h) (λ_ _ _ _ _ h=>ag h) (λ_ _ _ _ h=>ag h) (λ_ _ h=>ag h) (λ_ _ h=>ag h) (λ_ _ h=>ag h) (λ_ _ _ _ h=>ag h) (λ_ _ _ _ h=>ag h) (λ_ _ _ _ h=>ag h) (λ_ _ h=>ag h) (λ_ _ _ h=>ag h) (λ_ _ _ h=>ag h) (λ_ _ _ h=>ag h) (λ_ _ h=>ag h) (λ_ _ h=>ag h) (λ_ _ h=>ag h) (λx y z h=>Qa.lf h▸rfl) (λ_ _ _ _ h=>ag h)
theorem Sp{p:ϝ×ϝ×Pos}:Nr e=Qa p->e=.Subscript p.1 p.2.1 p.2.2:=ϝ.Δ (ϣ:=λe=>Nr e=Qa p->e=.Subscript p.1 p.2.1 p.2.2) e (λ_ _ _ h=>ag h) (λ_ _ _ h=>ag h) (λ_ _ _ _ h=>ag h) (λ_ _ _ h=>ag h) (λ_ _ _ _ h=>ag h) (λ_ _ _ _ h=>ag h) (λ_ _ _ h=>ag h) (λ_ _ _ h=>ag h) (λ_ _ _ _ h=>ag h) (λ_ _ _ _ h=>ag h) (λ_ _ _ _ _ h=>ag h) (λ_ _ _ _ h=>ag h) (λ_ _ h=>ag h) (λ_ _ h=>ag h) (λ_ _ h=>ag h) (λ_ _ _ _ h=>ag h) (λ_ _ _ _ h=>ag h) (λ_ _ _ _ h=>ag h) (λ_ _ h=>ag h) (λ_ _ _ h=>ag h) (λ_ _ _ h=>ag h) (λx y z h=>Qa.lf h▸rfl) (λ_ _ h=>ag h) (λ_ _ h=>ag h) (λ_ _ h=>ag h) (λ_ _ _ h=>ag h) (λ_ _ _ _ h=>ag h)
theorem Bo:xD e=Qa p->e=.Slice p.1 p.2.1 p.2.2.1 p.2.2.2:=ϝ.Δ (ϣ:=λe=>xD e=Qa p->e=.Slice p.1 p.2.1 p.2.2.1 p.2.2.2) e (λ_ _ _ h=>ag h) (λ_ _ _ h=>ag h) (λ_ _ _ _ h=>ag h) (λ_ _ _ h=>ag h) (λ_ _ _ _ h=>ag h) (λ_ _ _ _ h=>ag h) (λ_ _ _ h=>ag h) (λ_ _ _ h=>ag h) (λ_ _ _ _ h=>ag h) (λ_ _ _ _ h=>ag h) (λ_ _ _ _ _ h=>ag h) (λ_ _ _ _ h=>ag h) (λ_ _ h=>ag h) (λ_ _ h=>ag h) (λ_ _ h=>ag h) (λ_ _ _ _ h=>ag h) (λ_ _ _ _ h=>ag h) (λ_ _ _ _ h=>ag h) (λ_ _ h=>ag h) (λ_ _ _ h=>ag h) (λ_ _ _ h=>ag h) (λ_ _ _ h=>ag h) (λ_ _ h=>ag h) (λ_ _ h=>ag h) (λ_ _ h=>ag h) (λ_ _ _ h=>ag h) (λx y z u h=>Qa.lf h▸rfl)
def qQ(e:ϝ):η ld:=(p5 e).π (·.1)
def vY(e:ϝ):η (ζ ld×Ζ):=bj ((p5 e).π λp=>([p.1],Qc)) ((uW e).Η λp=>(oB qQ p.1).π λxs=>(xs,Qe))
def vH(outer:ζ (ld×Qx))(sc:Scope):ζ (ld×Qx):=
 sc.ui.π λp=>(p.1,if (p.2==.free && outer.Α p.1==Qa .TD)=Qe then .TD else p.2)
def cj(cx:CC)(sc:Scope)(xs:ζ ld):CC:=
 ⟨vH cx.sc sc,xs.zip (JZ cx.ϫ xs.ε)++cx.jh,cx.ϫ+xs.ε,cx.gl⟩
def W6(cx:CC)(sc:Scope)(xs:ζ ld):Ζ:=
 sc.Ts==.Fa &&
 (sc.ui.Hd λp=>p.2 !=.TD && (p.2 !=.local||(sc.ui.Α p.1==Qa .local && (xs.Tc p.1||(cx.jh.Α p.1).re))) && (p.2 !=.free||(sc.ui.Α p.1==Qa .free && cx.sc.Α p.1==Qa .TD))) &&
 xs.Hd (λx=>sc.ui.Α x==Qa .local) && decide xs.Ω
def Un:ζ Ex->ζ Ex->ζ Ex
 |k::ks,v::vs=>k::v::Un ks vs
 |_,_=>[]
def ID(cx:CC)(x:ld):η Ex:=aw (jQ x) (JG (motive:=λ_=>η Ex) (nH cx x) (aw (cx.sc.Α x==Qa .globalImplicit) ((cx.gl.Α x).π .py)) λi=>Qa (.Ο i))
def zfO(f:ϝ->η Ex)(cx:CC)(pos:Pos)(as:ζ Ex)(g:ϝ):η Ex:=
 bj ((p5 g).Η λp=>(ID cx p.1).π λe=>.bn e as)
 ((Vp g).Η λp=>aw (jQ p.2.1 && Vi p.1 && p.2.2.endLine==pos.line) ((f p.1).π λe=>.bc e (eu p.2.1) as))
def GV(f:ϝ->η Ex)(lo hi:η ϝ):η (θ×ζ Ex):=
 JG (motive:=λ_=>η (θ×ζ Ex)) lo Qd
  λa=>(f a).Η λx=>JG (motive:=λ_=>η (θ×ζ Ex)) hi Qd λb=>(f b).π λy=>(3,[x,y])
def zgv(f:ϝ->η Ex)(v sl:ϝ):η Ex:=
 JG (motive:=λ_=>η Ex) (xD sl) ((f v).Η λe=>(f sl).π λi=>.Ix e i)
  λp=>aw ((p5 v).ϟ && p.2.2.1.re) ((f v).Η λe=>(GV f p.1 p.2.1).π λq=>.slice e q.1 q.2)
def lH:θ->CC->ϝ->η Ex
 |0,_,_=>Qd
 |n+1,cx,e=>match e with
  | .Constant c _ _=>(M9 c).π .py
  | .Name x _=>ID cx x
  | .BoolOp op vs _=>(oB (lH n cx) vs).π (.qa (op==.Or))
  | .BinOp l op r _=>(Ew op).Η λo=>(lH n cx l).Η λa=>(lH n cx r).π λb=>.fq o a b
  | .UnaryOp op x _=>aw (op==.Not) ((lH n cx x).π .not)
  | .IfExp t a b _=>(lH n cx t).Η λt'=>(lH n cx a).Η λa'=>(lH n cx b).π λb'=>.ite t' a' b'
  | .ζ es _=>aw (ZD es.ε 1000) ((oB (lH n cx) es).π .ο)
  | .Tuple es _ _=>aw (ZD es.ε 1000) ((oB (lH n cx) es).π .ay)
  | .Compare l ops cs _=>FF ops λo=>FF cs λr=>(lH n cx l).Η λa=>(lH n cx r).π λb=>.gm (Ep o) a b
  | .Call f as ks pos=>aw (ks.be && ZD as.ε 20) ((oB (lH n cx) as).Η λbs=>zfO (lH n cx) cx pos bs f)
  | .Td v nm _=>aw (jQ nm && Vi v) ((lH n cx v).π λe=>.aq e (eu nm))
  | .Subscript v sl _=>zgv (lH n cx) v sl
  | .Dict ks vs _=>aw (ks.ε==vs.ε) ((oB (λo=>o.Η (lH n cx)) ks).Η λa=>(oB (lH n cx) vs).π λb=>.Υ (Un a b))
  | .TL ez gens sc _=>FF gens λg=>(vY g.target).Η λt=>aw (g.is_async==0 && W6 cx sc t.1) ((lH n cx g.iter).Η λit=>(oB (lH n (cj cx sc t.1)) g.ifs).Η λifs=>
    (lH n (cj cx sc t.1) ez).π λe=>.comp e (JZ cx.ϫ t.1.ε) t.2 it ifs)
  |_=>Qd
abbrev pM:CC->ϝ->η Ex:=lH 60
def Na(cx:CC)(t:ϝ):η T1:=
 bj ((p5 t).Η λp=>aw (jQ p.1) ((nH cx p.1).π .nm))
 (bj ((Vp t).Η λp=>aw (jQ p.2.1) ((pM cx p.1).π λe=>.at e (eu p.2.1)))
 ((Nr t).Η λp=>(pM cx p.1).Η λa=>(pM cx p.2.1).π λb=>.sb a b))
def Gi(cx:CC)(x:ld):η θ:=aw (jQ x) (nH cx x)
def Nb(cx:CC)(t:ϝ):η (Ex×θ):=(Vp t).Η λp=>aw (jQ p.2.1) ((pM cx p.1).π λe=>(e,eu p.2.1))
def Ur(v:ϝ):Ζ:=!pV v && ((uW v).π λp=>!p.1.Hd (constantsAlone 8)).ϡ Qe
def IC(es:ζ ϝ):η (ζ ld):=(oB qQ es).Η λxs=>aw (decide xs.Ω) (Qa xs)
def zi1(cx:CC)(v t:ϝ):η Sm:=
 JG (motive:=λ_=>η Sm) (uW t) ((Na cx t).Η λa=>(pM cx v).π λb=>.ft a b)
  λp=>aw (Ur v) ((pM cx v).Η λb=>bj ((IC p.1).Η λxs=>(oB (Gi cx) xs).π λis=>.ju (is.π .nm) b)
   (aw (!p.1.be) ((oB (Nb cx) p.1).π λts=>.ju (ts.π λq=>.at q.1 q.2) b)))
def sS:θ->CC->Qz->η Sm
 |0,_,_=>Qd
 |n+1,cx,st=>match st with
  | .ϝ v _=>aw (!pV v) ((pM cx v).π .expr)
  | .Pass _=>Qa .rz
  | .Break _=>Qa .brk
  | .Continue _=>Qa .cont
  | .Return v _=>JG (motive:=λ_=>η Sm) v (Qa (.ret (.py .Ε))) λe=>(pM cx e).π .ret
  | .Assign ts v _=>FF ts (zi1 cx v)
  | .If t a b _=>(pM cx t).Η λx=>(oB (λs=>Qa ((sS n cx s).ϡ .gu)) a).Η λy=>(oB (λs=>Qa ((sS n cx s).ϡ .gu)) b).π λz=>.ite x y z
  | .While t b e _=>aw e.be ((pM cx t).Η λx=>(oB (λs=>Qa ((sS n cx s).ϡ .gu)) b).π λy=>.wh x y)
  | .For t it b e _=>aw e.be ((vY t).Η λq=>aw (decide q.1.Ω) ((pM cx it).Η λx=>(oB (Gi cx) q.1).Η λsl=>(oB (λs=>Qa ((sS n cx s).ϡ .gu)) b).π λy=>.fo sl q.2 x y))
  |_=>Qd
abbrev zax(cx:CC):ζ Qz->η (ζ Sm):=oB λs=>Qa ((sS 40 cx s).ϡ .gu)
def vE(ps:ζ ld)(sc:Scope):ζ ld:=
 ps++(sc.ui.Ϩ λp=>(p.2==.local||p.2==.TD) && !ps.Tc p.1).π (·.1)
def MO(ps:ζ ld)(sc:Scope)(gl:ζ (ld×ab)):CC:=
 ⟨sc.ui,(vE ps sc).zip (JZ 0 (vE ps sc).ε),(vE ps sc).ε,gl⟩
def W8(gl:ζ (ld×ab))(params:Q4)(body:ζ Qz)(sc:Scope):η (θ×θ×ζ Sm):=
 aw (params.posonlyargs.be && params.vararg.re && params.kwonlyargs.be && params.kwarg.re && sc.Ts==.Fa && !sc.isGenerator && !sc.isCoroutine && (params.TJ.π (·.arg)).Hd (λx=>sc.ui.Α x==Qa .local||sc.ui.Α x==Qa .TD))
  ((zax (MO (params.TJ.π (·.arg)) sc gl) body).π λb=>((params.TJ.π (·.arg)).ε,(vE (params.TJ.π (·.arg)) sc).ε+6,b))
end Internal
namespace Internal
open PySem PySem.W PySem.Calls PyProof.Rows
variable{D Ia L N a b c ca fa la:Qk}{P:Qk->Str->Prop}{params:Q4}{A A':Qv}{owner:Array (Option Nat)}{f:Array Qi->Array Qi}{G:Array GenState->Array GenState->Prop}{its:Array Value}{led many:Bool}{Q:Bool->Qg->Prop}{env:Env}{mean:ExcName->Option Value}{ez iter value:Expr}{f6:Jl}{fd:Q0}{h h' h₀:QA}{hsh:Int}{z:It}{news:List (Qk×Obj)}{args:List (Bool×Sem Value)}{l':List (Int×Value)}{cl cs:List (Str×Qk)}{fs:List (Value->Sem Unit)}{wr:List Qk}{k0:List Bool}{es es':List Qi}{ifs:List Expr}{hs:List Int}{tg:List Nat}{body:List Qz}{loose nms xs:List Str}{q:List Str×Bool}{first operands us vs vs':List Value}{D0 c' d e ep i j l1 l2 mask n n' wanted:Nat}{hashAt:Nat->Int}{gm:Nat->Nat->(Bool->Qg->Prop)->Qg->Prop}{I Z:Nat->Qg->Prop}{io o oN oa ob ob':Obj}{op:Operator}{hi hi' lo lo':Option Expr}{apos pos ps sp tpos xp:Pos}{prog:Qs}{R:Result->Qg->Prop}{sc scope:Scope}{whole:Sem Value}{t t1:SetTable}{s s' s0 s1 s2 s4 s6 s₁:Qg}{X:Qg->Prop}{st:Qz}{aq nm qual x:Str}{cm m mE mN mb mg:Str->Option Value}{id:String}{α β γ δ:Type}{c1 c2 cdv gv key kv rv v vi vl vo vu vv vx vy yv:Value}{E:Value->Qg->Prop}
abbrev bw:=ζ (Qk×Go)
abbrev bf:=Qs×Qm×Frag×gx×(ζ (θ×Qk))
section
variable(ψ:bf)
abbrev bf.prog:=ψ.1
abbrev bf.w:=ψ.2.1
abbrev bf.K:=ψ.2.2.1
abbrev bf.P:=ψ.2.2.2.1
abbrev bf.ad:=ψ.2.2.2.2
end
abbrev bf.M(C:bf):Model:=model C.prog C.w
def rG:ζ (θ×Tm):= [(Gv,"range"),(LX,"list"),(A8,"dict"),(IF,"tuple"),(zb8,"str"),(zcb,"int"),(SZ,"type"),(zb9,"set"),(S9,"bool"),(UB,"NoneType")]
def xB:ζ (θ×Tm):= [(uD,"len"),(Pt,"max"),(zeR,"min"),(tO,"sorted")]
def rx(s:ζ θ):Prop:=(∀c∈s,c<0x110000)/\s.ε<=bg
abbrev Wd:=ζ Qk×bw
section
variable(ψ:Wd)
abbrev Wd.σ:=ψ.1
abbrev Wd.tp:=ψ.2
end
def Wd.le(w w':Wd):Prop:=w.σ<+:w'.σ/\∀p∈w.tp,p∈w'.tp
section
variable{w w':Wd}(ψ:Wd.le w w')
def Wd.le.s:=@ψ.1
def Wd.le.t:=@ψ.2
end
theorem Wd.le.TC(w:Wd):w.le w:=⟨KZ _,λ_ x=>x⟩
theorem Wd.le.ν{a b c:Wd}(x:a.le b)(y:b.le c):a.le c:=⟨x.1.ν y.1,λp hp=>y.2 p (x.2 p hp)⟩
variable{w w':Wd}
def Wd.le.Mi(l:w.le w')(h:w.σ[i]?=Qa a):w'.σ[i]?=Qa a:=by
 refine Zx l.s λt zq21=>?_;refine(Jy.mp h).ι λhl zq20=>?_;rw[<-zq21,Ks hl];exact h
def zjd (C:bf) (tp:bw) (a:Qk) (o:Go) (n:θ) (vs:ζ μ):Prop:=((a,o)∈tp\/C.K.Α a=Qa o)/\o.cls= .AT "tuple"/\o.Ta= .seq vs.υ n
section
variable{C:bf}{tp:bw}{a:Qk}{o:Obj}{n:Nat}{vs:List Value}(ψ:zjd C tp a o n vs)
def zjd.TF:=@ψ.1
def zjd.cls:=@ψ.2.1
def zjd.Ta:=@ψ.2.2
end
def jF (C:bf) (a:Qk) (o:Go) (n:θ) (vs:ζ μ):Prop:=C.K.Α a=Qa o/\o.cls= .AT "list"/\o.Ta= .seq vs.υ n
section
variable{C:bf}{a:Qk}{o:Obj}{n:Nat}{vs:List Value}(ψ:jF C a o n vs)
def jF.TF:=@ψ.1
def jF.cls:=@ψ.2.1
def jF.Ta:=@ψ.2.2
end
abbrev zbG (t:Tok) (n:Φ) (u v:Tok):Go:= {cls:= .AT "range",dict:=Qd,data:= .sn #[.Β 0 t,.Β n u,.Β 1 v],slots:= #[]}
def zjc(tp:bw)(a:Qk)(o:Go)(es:ϛ (Φ×μ))(ep:θ)(t:ρ)(n:θ):Prop:=(a,o)∈tp/\o.ExactSet/\o.Ta=.Ϫ es ep t/\t.fits es.Ϡ=Qe/\es.Ϡ=n/\n<=bg
section
variable{tp:bw}{a:Qk}{o:Obj}{es:Array (Int×Value)}{ep:Nat}{t:SetTable}{n:Nat}(ψ:zjc tp a o es ep t n)
def zjc.TF:=@ψ.1
def zjc.ex:=@ψ.2.1
def zjc.Ta:=@ψ.2.2.1
def zjc.fits:=@ψ.2.2.2.1
def zjc.Ϡ:=@ψ.2.2.2.2.1
def zjc.le:=@ψ.2.2.2.2.2
end
inductive Sx(C:bf)(tp:bw)(l:θ)(R:ζ μ->Prop)(v:μ):Prop
 |mk(a:Qk)(o:Go)(n:θ)(vs:ζ μ)(e:v=.ξ a)(q:zjd C tp a o n vs)(r:R vs)(hl:l<=bg):Sx C tp l R v
inductive c7(C:bf)(l:θ)(R:ζ μ->Prop)(v:μ):Prop
 |mk(a:Qk)(o:Go)(n:θ)(vs:ζ μ)(e:v=.ξ a)(q:jF C a o n vs)(r:R vs)(hl:l<=bg):c7 C l R v
inductive zdw(tp:bw)(n:Φ)(x:μ):Prop
 |mk(a:Qk)(t u v:Tok)(e:x=.ξ a)(h:(a,zbG t n u v)∈tp):zdw tp n x
inductive HZ(P:μ->Prop)(R:ζ μ->Prop)(vs:ζ μ):Prop
 |mk(v:μ)(r:ζ μ)(e:vs=v::r)(h:P v)(t:R r):HZ P R vs
mutual
noncomputable def jL (C:bf) (w:Wd):ab->Value->Prop
 | .none=>λv=>v=.none
 | .bool b=>λv=>v=.bool b
 | .int i=>λv=>∃t,v=.int i t
 | .str s=>λv=>∃t,v=.str ⟨s.toArray⟩ t/\rx s
 | .ay mvs=>λv=>Sx C w.tp mvs.length (jI C w mvs) v
 | .ref i=>λv=>∃a,v=.ref a/\w.σ[i]?=Qa a
 | .aj id=>λv=>∃a,v=.ref a/\C.ad.lookup id=Qa a
 | .ty c=>λv=>∃n,v=.type n/\rG.lookup c=Qa n
 | .bi c=>λv=>∃n,v=.builtin n/\xB.lookup c=Qa n
 | .gq n=>λx=>zdw w.tp n x
 | .fl mvs=>λv=>c7 C mvs.length (jI C w mvs) v
 | .jr n=>λv=>∃a o es ep t,v=.ref a/\zjc w.tp a o es ep t n
noncomputable def jI (C:bf) (w:Wd):List ab->List Value->Prop
 | []=>λvs=>vs=[]
 |m::ms=>λvs=>HZ (jL C w m) (jI C w ms) vs
end
variable{C:bf}{mvs:List ab}
section
variable{x:ab}
theorem jI.Ϝ:jI C w [] []:=rfl
theorem jI.Ι{m:ab}{ms:ζ ab}(h:jL C w m v)(r:jI C w ms vs):jI C w (m::ms) (v::vs):=⟨v,vs,rfl,h,r⟩
theorem jI.cw(h:jL C w x v):jI C w [x] [v]:=.Ι h .Ϝ
def jI.ε:∀{ms:ζ ab}{vs:ζ μ},jI C w ms vs->ms.ε=vs.ε:=by
 intro ms
 induction ms with
 |Ϝ=>intro vs h;exact ω Ku (XJ h)
 |Ι m ms ih=>
  intro vs h;obtain⟨v,r,rfl,_,h⟩:=h;exact ω Z6 (ih h)
def jL.mono'(l:w.le w')(m:ab):∀v,jL C w m v->jL C w' m v:=by
 refine ab.rec (ϣ:=λm=>∀v,jL C w m v->jL C w' m v) (motive_2:=λms=>∀vs,jI C w ms vs->jI C w' ms vs) (λ_ h=>h) (λ_ _ h=>h) (λ_ _ h=>h) (λ_ _ h=>h) ?_ ?_ (λ_ _ h=>h) (λ_ _ h=>h) (λ_ _ h=>h) ?_ ?_ ?_ (λ_ h=>h) ?_ m
 ·exact λms ih v h=>Sx.Δ h λa o n vs e h r k=>⟨a,o,n,vs,e,⟨h.TF.imp (l.t _) id,h.cls,h.Ta⟩,ih vs r,k⟩
 ·exact λi v h=>h.ι λa h=>⟨a,h.1,l.Mi h.2⟩
 ·exact λn v h=>zdw.Δ h λa t u x e h=>⟨a,t,u,x,e,l.t _ h⟩
 ·exact λms ih v h=>c7.Δ h λa o n vs e h r k=>⟨a,o,n,vs,e,h,ih vs r,k⟩
 ·exact λn v h=>by
   refine xEE h λa o dw=>?_;refine xEE dw λes ep iq=>?_;refine xEA iq λt e h=>?_;exact⟨a,o,es,ep,t,e,l.t _ h.TF,h.ex,h.Ta,h.fits,h.Ϡ,h.le⟩
 ·exact λm ms i1 i2 vs h=>HZ.Δ h λv r e h h'=>⟨v,r,e,i1 v h,i2 r h'⟩
theorem jL.Τ(l:w.le w')(h:jL C w x v):jL C w' x v:=jL.mono' l x v h
def jI.Τ(l:w.le w'):∀{ms:ζ ab}{vs:ζ μ},jI C w ms vs->jI C w' ms vs:=by
 intro ms
 induction ms with
 |Ϝ=>exact λh=>h
 |Ι m ms ih=>
  exact λh=>HZ.Δ h λv r e h h'=>⟨v,r,e,h.Τ l,ih h'⟩
def jI.Mi:∀{ms:ζ ab}{vs:ζ μ}{i:θ}{m:ab},jI C w ms vs->ms[i]?=Qa m->∃v,vs[i]?=Qa v/\jL C w m v:=by
 intro ms
 induction ms with
 |Ϝ=>exact λ_ e=>ag e
 |Ι m ms ih=>
  intro vs i m' h e;obtain⟨v,r,rfl,h,h'⟩:=h;cases i with
  |zero=>exact⟨v,rfl,Qa.lf e▸h⟩
  |succ i=>exact ih (i:=i) h' e
def jI.append{ms':ζ ab}(h':jI C w ms' vs'):∀{ms:ζ ab}{vs:ζ μ},jI C w ms vs->jI C w (ms++ms') (vs++vs'):=by
 intro ms
 induction ms with
 |Ϝ=>intro vs h;rw[show vs=[] from h];exact h'
 |Ι m ms ih=>
  exact λh=>HZ.Δ h λv r e h hr=>⟨v,r++vs',ω (· ++vs') e,h,ih hr⟩
theorem jL.xz{i:Φ}:jL C w x v->x.xz=Qa i->∃t,v=.Β i t:=
 ab.Δ (ϣ:=λx=>jL C w x v->x.xz=Qa i->∃t,v=.Β i t) x (λ_ e=>ag e) (λ_ _ e=>ag e) (λ_ h e=>Qa.lf e▸h) (λ_ _ e=>ag e) (λ_ _ e=>ag e) (λ_ _ e=>ag e) (λ_ _ e=>ag e) (λ_ _ e=>ag e) (λ_ _ e=>ag e) (λ_ _ e=>ag e) (λ_ _ e=>ag e) (λ_ _ e=>ag e)
theorem jL.str?{i:ζ θ}:jL C w x v->x.str?=Qa i->∃t,v=.Ϥ ⟨i.υ⟩ t/\rx i:=
 ab.Δ (ϣ:=λx=>jL C w x v->x.str?=Qa i->∃t,v=.Ϥ ⟨i.υ⟩ t/\rx i) x (λ_ e=>ag e) (λ_ _ e=>ag e) (λ_ _ e=>ag e) (λ_ h e=>Qa.lf e▸h) (λ_ _ e=>ag e) (λ_ _ e=>ag e) (λ_ _ e=>ag e) (λ_ _ e=>ag e) (λ_ _ e=>ag e) (λ_ _ e=>ag e) (λ_ _ e=>ag e) (λ_ _ e=>ag e)
theorem tup?_s{i:ζ ab}:x.tup?=Qa i->x=.ay i:=
 ab.Δ (ϣ:=λx=>x.tup?=Qa i->x=.ay i) x (λe=>ag e) (λ_ e=>ag e) (λ_ e=>ag e) (λ_ e=>ag e) (λ_ e=>Qa.lf e▸rfl) (λ_ e=>ag e) (λ_ e=>ag e) (λ_ e=>ag e) (λ_ e=>ag e) (λ_ e=>ag e) (λ_ e=>ag e) (λ_ e=>ag e)
theorem ref?_s{i:θ}:x.ref?=Qa i->x=.ξ i:=
 ab.Δ (ϣ:=λx=>x.ref?=Qa i->x=.ξ i) x (λe=>ag e) (λ_ e=>ag e) (λ_ e=>ag e) (λ_ e=>ag e) (λ_ e=>ag e) (λ_ e=>Qa.lf e▸rfl) (λ_ e=>ag e) (λ_ e=>ag e) (λ_ e=>ag e) (λ_ e=>ag e) (λ_ e=>ag e) (λ_ e=>ag e)
theorem top?_s{i:θ}:x.top?=Qa i->x=.aj i:=
 ab.Δ (ϣ:=λx=>x.top?=Qa i->x=.aj i) x (λe=>ag e) (λ_ e=>ag e) (λ_ e=>ag e) (λ_ e=>ag e) (λ_ e=>ag e) (λ_ e=>ag e) (λ_ e=>Qa.lf e▸rfl) (λ_ e=>ag e) (λ_ e=>ag e) (λ_ e=>ag e) (λ_ e=>ag e) (λ_ e=>ag e)
theorem ty?_s{i:θ}:x.ty?=Qa i->x=.ty i:=
 ab.Δ (ϣ:=λx=>x.ty?=Qa i->x=.ty i) x (λe=>ag e) (λ_ e=>ag e) (λ_ e=>ag e) (λ_ e=>ag e) (λ_ e=>ag e) (λ_ e=>ag e) (λ_ e=>ag e) (λ_ e=>Qa.lf e▸rfl) (λ_ e=>ag e) (λ_ e=>ag e) (λ_ e=>ag e) (λ_ e=>ag e)
theorem bi?_s{i:θ}:x.bi?=Qa i->x=.bi i:=
 ab.Δ (ϣ:=λx=>x.bi?=Qa i->x=.bi i) x (λe=>ag e) (λ_ e=>ag e) (λ_ e=>ag e) (λ_ e=>ag e) (λ_ e=>ag e) (λ_ e=>ag e) (λ_ e=>ag e) (λ_ e=>ag e) (λ_ e=>Qa.lf e▸rfl) (λ_ e=>ag e) (λ_ e=>ag e) (λ_ e=>ag e)
theorem fl?_s{i:ζ ab}:x.fl?=Qa i->x=.fl i:=
 ab.Δ (ϣ:=λx=>x.fl?=Qa i->x=.fl i) x (λe=>ag e) (λ_ e=>ag e) (λ_ e=>ag e) (λ_ e=>ag e) (λ_ e=>ag e) (λ_ e=>ag e) (λ_ e=>ag e) (λ_ e=>ag e) (λ_ e=>ag e) (λ_ e=>ag e) (λ_ e=>Qa.lf e▸rfl) (λ_ e=>ag e)
theorem bool?_s{i:Ζ}:x.bool?=Qa i->x=.ϯ i:=
 ab.Δ (ϣ:=λx=>x.bool?=Qa i->x=.ϯ i) x (λe=>ag e) (λ_ e=>Qa.lf e▸rfl) (λ_ e=>ag e) (λ_ e=>ag e) (λ_ e=>ag e) (λ_ e=>ag e) (λ_ e=>ag e) (λ_ e=>ag e) (λ_ e=>ag e) (λ_ e=>ag e) (λ_ e=>ag e) (λ_ e=>ag e)
theorem rng?_s{i:Φ}:x.rng?=Qa i->x=.gq i:=
 ab.Δ (ϣ:=λx=>x.rng?=Qa i->x=.gq i) x (λe=>ag e) (λ_ e=>ag e) (λ_ e=>ag e) (λ_ e=>ag e) (λ_ e=>ag e) (λ_ e=>ag e) (λ_ e=>ag e) (λ_ e=>ag e) (λ_ e=>ag e) (λ_ e=>Qa.lf e▸rfl) (λ_ e=>ag e) (λ_ e=>ag e)
theorem Hk:x.re=Qe->x=.Ε:=
 ab.Δ (ϣ:=λx=>x.re=Qe->x=.Ε) x (λ_=>rfl) (λ_=>λh=>JK h) (λ_=>λh=>JK h) (λ_=>λh=>JK h) (λ_=>λh=>JK h) (λ_=>λh=>JK h) (λ_=>λh=>JK h) (λ_=>λh=>JK h) (λ_=>λh=>JK h) (λ_=>λh=>JK h) (λ_=>λh=>JK h) (λ_=>λh=>JK h)
theorem list?_s{o:ae}{i:ζ ab}:o.Tl=Qa i->o=.ο i:=
 ae.Δ (motive:=λo=>o.Tl=Qa i->o=.ο i) o (λ_ e=>Qa.lf e▸rfl) (λ_ _ e=>ag e) (λ_ _ e=>ag e)
theorem dict?_s{o:ae}{i:η θ×ζ (ab×ab)}:o.dict?=Qa i->o=.Υ i.1 i.2:=
 ae.Δ (motive:=λo=>o.dict?=Qa i->o=.Υ i.1 i.2) o (λ_ e=>ag e) (λ_ _ e=>Qa.lf e▸rfl) (λ_ _ e=>ag e)
theorem inst?_s{o:ae}{i:θ×ζ (θ×ab)}:o.inst?=Qa i->o=.Tt i.1 i.2:=
 ae.Δ (motive:=λo=>o.inst?=Qa i->o=.Tt i.1 i.2) o (λ_ e=>ag e) (λ_ _ e=>ag e) (λ_ _ e=>Qa.lf e▸rfl)
end
inductive zdD(n:θ)(P:μ->Prop)(R:ζ Qi->Prop)(es:ζ Qi):Prop
 |mk(x:ld)(t:Tok)(hsh:Φ)(v:μ)(r:ζ Qi)(e:es=⟨hsh,.Ϥ x t,v⟩::r)(nm:jQ x=Qe)(en:eu x=n)(h:P v)(t:R r):zdD n P R es
def tG(C:bf)(w:Wd):ζ (θ×ab)->ζ Qi->Prop
 | []=>λes=>es=[]
 |p::fs=>λes=>zdD p.1 (jL C w p.2) (tG C w fs) es
def tG.Τ(l:w.le w'):∀{fs:ζ (θ×ab)}{es:ζ Qi},tG C w fs es->tG C w' fs es:=by
 intro fs
 induction fs with
 |Ϝ=>exact λh=>h
 |Ι p fs ih=>
  exact λh=>zdD.Δ h λx t hsh v r e h1 h2 h3 h4=>⟨x,t,hsh,v,r,e,h1,h2,h3.Τ l,ih h4⟩
set_option genInjectivity true in
inductive ai where
 |i(n:Φ)
 |s(x:ld)
 deriving At
def ai.KT(a:ai):ab:=ai.Δ (motive:=λ_=>ab) a .Β (λx=>.Ϥ x.cps.ch)
def ai.is(a:ai)(v:μ):Ζ:=ai.Δ (motive:=λ_=>Ζ) a (λn=>μ.isInt n v) (λx=>μ.isStrOf x v)
def ai.hash(w:Qm)(a:ai):Φ:=ai.Δ (motive:=λ_=>Φ) a hashInt (λx=>hashStr w x)
def ai.lf(v:μ)(a b:ai)(ha:a.is v=Qe)(hb:b.is v=Qe):a=b:=by
 cases a with
 |i n=>
  cases b with
  |i k=>rw[μ.isInt_inj v _ _ ha hb]
  |s y=>obtain⟨t,rfl⟩:=Ki ha;cases hb
 |s x=>
  cases b with
  |i k=>obtain⟨t,rfl⟩:=Ki hb;cases ha
  |s y=>rw[μ.isStrOf_inj v _ _ ha hb]
def ai.byValue(k:ai)(v:μ)(h:k.is v=Qe):carriedByValue v=true:=by
 cases k with
 |i n=>obtain⟨t,rfl⟩:=Ki h;rfl
 |s x=>obtain⟨t,rfl⟩:=Kd h;rfl
def ai.pyHash{w:Qm}{k:ai}{Q:Φ->Qg->Prop}(hv:k.is v=Qe)(h:Q (k.hash w) {s with toks:=s.zn+1}):Qh (model prog w) A (Ρ.pyHash v) Q E s:=by
 cases k with
 |i n=>obtain⟨t,rfl⟩:=Ki hv;exact wpAny_pyHash_int h
 |s x=>obtain⟨t,rfl⟩:=Kd hv;exact wpAny_pyHash_str h
def ai.eqBool{w:Qm}{a b:ai}{u:μ}(hu:a.is u=Qe)(hv:b.is v=Qe)(h:Q (decide (a=b)) s):Qh (model prog w) A (Ρ.eqBool u v) Q E s:=by
 cases a with
 |i n=>
  obtain⟨t,rfl⟩:=Ki hu;cases b with
  |i k=>
   obtain⟨u,rfl⟩:=Ki hv;refine wpAny_eqBool_int ?_;simp only[ai.i.injEq] at h
   first|exact h|(simp only[beq_eq_decide];exact h)
  |s y=>
   obtain⟨u,rfl⟩:=Kd hv;exact SeqAt.EqAt.int_str _ _ _ _ _ _ _ _ (by simpa using h)
 |s x=>
  obtain⟨t,rfl⟩:=Kd hu;cases b with
  |i k=>
   obtain⟨u,rfl⟩:=Ki hv;exact SeqAt.EqAt.str_int _ _ _ _ _ _ _ _ (by simpa using h)
  |s y=>
   obtain⟨u,rfl⟩:=Kd hv;exact wpAny_eqBool_str (by simpa using h)
def ai.rq(k:ai)(x:ld)(t:Tok)(v:μ)(h:k.is (.Ϥ x t)=Qe):k.is v=v.isStr x:=by
 cases k with
 |i n=>cases h
 |s y=>
  have h':(x==y)=true:=h;rw[χ] at h';refine eqE h' ?_;cases v<;>rfl
def kA(prog:Qs)(w:Qm):KeyKind prog w ai:=
 ⟨ai.is,ai.hash w,ai.lf,ai.byValue,ai.pyHash,ai.eqBool,ai.rq⟩
def ai.ok(a:ai):Prop:=ai.Δ (motive:=λ_=>Prop) a (λ_=>True) (λx=>rx x.cps.ch)
def DA(C:bf)(w:Wd)(mes:ζ (ab×ab))(es:ζ Qi)(kvs:ζ (ai×μ)):Prop:=Pairs (kA C.prog C.w) es kvs/\KeysOf (kA C.prog C.w) es.υ/\(kvs.π (·.1)).Ω/\mes.π (·.1)=kvs.π (λp=>p.1.KT)/\(∀p∈kvs,p.1.ok)/\jI C w (mes.π (·.2)) (kvs.π (·.2))
section
variable{C:bf}{w:Wd}{mes:List (ab×ab)}{es:List Qi}{kvs:List (ai×Value)}(ψ:DA C w mes es kvs)
def DA.p:=@ψ.1
def DA.k:=@ψ.2.1
def DA.n:=@ψ.2.2.1
def DA.e:=@ψ.2.2.2.1
def DA.ok:=@ψ.2.2.2.2.1
def DA.r:=@ψ.2.2.2.2.2
end
def DT(C:bf)(w:Wd)(mes:ζ (ab×ab))(es:ζ Qi)(xs:ζ (ζ ai×Qk×μ)):Prop:=es=xs.π (entryOfKey (tupleKind (kA C.prog C.w)))/\(xs.π (·.1)).Ω/\(∀x∈xs,jL C w (.ay (x.1.π ai.KT)) (.ξ x.2.1))/\mes.π (·.1)=xs.π (λx=>ab.ay (x.1.π ai.KT))/\jI C w (mes.π (·.2)) (xs.π (·.2.2))
section
variable{C:bf}{w:Wd}{mes:List (ab×ab)}{es:List Qi}{xs:List (List ai×Qk×Value)}(ψ:DT C w mes es xs)
def DT.es:=@ψ.1
def DT.n:=@ψ.2.1
def DT.v:=@ψ.2.2.1
def DT.e:=@ψ.2.2.2.1
def DT.r:=@ψ.2.2.2.2
end
def qK(C:bf)(w:Wd)(mes:ζ (ab×ab))(es:ζ Qi):Prop:=(∃kvs,DA C w mes es kvs)\/∃xs,DT C w mes es xs
variable{mes:List (ab×ab)}
theorem qK.Τ(l:w.le w')(h:qK C w mes es):qK C w' mes es:=
 h.imp (λ⟨kvs,D⟩=>⟨kvs,D.p,D.k,D.n,D.e,D.ok,D.r.Τ l⟩) λ⟨xs,D⟩=>⟨xs,D.es,D.n,λx hx=>(D.v x hx).Τ l,D.e,D.r.Τ l⟩
inductive zdA(C:bf)(w:Wd)(a:Qk)(mvs:ζ ab)(en:bw):Prop
 |mk(vs:ζ μ)(n:θ)(e:en=[(a,listOf vs.υ n)])(r:jI C w mvs vs)(l:mvs.ε<=bg):zdA C w a mvs en
inductive zdF(C:bf)(w:Wd)(a:Qk)(ep:η θ)(mes:ζ (ab×ab))(en:bw):Prop
 |mk(es:ζ Qi)(n:θ)(e:en=[(a,Qn es n)])(hep:∀e,ep=Qa e->n=e)(d:qK C w mes es)(l:mes.ε<=bg):zdF C w a ep mes en
inductive zdB(C:bf)(w:Wd)(a:Qk)(id:θ)(fs:ζ (θ×ab))(en:bw):Prop
 |mk(c dx:Qk)(es:ζ Qi)(n:θ)(e:en=[(a,instObj c dx),(dx,Qn es n)])(hc:C.ad.Α id=Qa c)(f:tG C w fs es)(l:fs.ε<=500):zdB C w a id fs en
def uN(C:bf)(w:Wd)(a:Qk)(o:ae):bw->Prop:=ae.Δ (motive:=λ_=>bw->Prop) o
 (zdA C w a) (zdF C w a) (zdB C w a)
variable{en:bw}
theorem uN.Τ(l:w.le w'){o:ae}:uN C w a o en->uN C w' a o en:=
 ae.Δ (motive:=λo=>uN C w a o en->uN C w' a o en) o
  (λ_ h=>zdA.Δ h λvs n e h k=>.mk vs n e (h.Τ l) k) (λ_ _ h=>zdF.Δ h λes n e h h' k=>.mk es n e h (h'.Τ l) k) (λ_ _ h=>zdB.Δ h λc dx es n e h h' k=>.mk c dx es n e h (h'.Τ l) k)
inductive NP(P:ae->bw->Prop)(R:MH->ζ bw->Prop)(H:MH)(os:ζ bw):Prop
 |mk(o:ae)(H':MH)(en:bw)(os':ζ bw)(e1:H=o::H')(e2:os=en::os')(h:P o en)(t:R H' os'):NP P R H os
def rU(C:bf)(w:Wd):ζ Qk->MH->ζ bw->Prop
 | []=>λH os=>H=[]/\os=[]
 |a::as=>NP (uN C w a) (rU C w as)
def rU.Τ(l:w.le w'):∀{as:ζ Qk}{H:MH}{os:ζ bw},rU C w as H os->rU C w' as H os:=by
 intro as
 induction as with
 |Ϝ=>exact λh=>h
 |Ι a as ih=>
  exact λh=>NP.Δ h λo H' en os' e1 e2 h r=>⟨o,H',en,os',e1,e2,h.Τ l,ih r⟩
def rU.xl{o:ae}(h':uN C w a o en):∀{as:ζ Qk}{H:MH}{os:ζ bw},rU C w as H os->rU C w (as++[a]) (H++[o]) (os++[en]):=by
 intro as
 induction as with
 |Ϝ=>
  exact λh=>⟨o,[],en,[],ω (· ++[o]) h.1,ω (· ++[en]) h.2,h',rfl,rfl⟩
 |Ι b as ih=>
  exact λh=>NP.Δ h λo1 H' en1 os' e1 e2 h r=>⟨o1,H'++[o],en1,os'++[en],ω (· ++[o]) e1,ω (· ++[en]) e2,h,ih r⟩
def rU.ε:∀{as:ζ Qk}{H:MH}{os:ζ bw},rU C w as H os->as.ε=H.ε:=by
 intro as
 induction as with
 |Ϝ=>exact λh=>ω Ku h.1.Μ
 |Ι b as ih=>exact λh=>NP.Δ h λo1 H' en1 os' e1 _ _ r=>(ω Z6 (ih r)).ν (ω Ku e1.Μ)
inductive zaN(C:bf)(w:Wd)(as:ζ Qk)(i:θ)(a:Qk)(o:ae)(H:MH)(os:ζ bw):Prop
 |mk(pre:ζ bw)(en:bw)(post:ζ bw)(e:os=pre++en::post)(r:uN C w a o en)(g:∀o' en',uN C w a o' en'->rU C w as (H.Ϫ i o') (pre++en'::post)):zaN C w as i a o H os
def rU.at{o:ae}:∀{as:ζ Qk}{i:θ}{H:MH}{os:ζ bw},rU C w as H os->as[i]?=Qa a->H[i]?=Qa o->
  zaN C w as i a o H os:=by
 intro as
 induction as with
 |Ϝ=>exact λ_ e=>ag e
 |Ι b as ih=>
  intro i H os h ha ho;obtain⟨o1,H',en1,os',rfl,rfl,h,r⟩:=h;cases i with
  |zero=>
   refine lV ha ?_;refine lV ho ?_;exact⟨[],en1,os',rfl,h,λo' en' h'=>⟨o',H',en',os',rfl,rfl,h',r⟩⟩
  |succ i=>
   obtain⟨pre,en,post,rfl,hr,k⟩:=ih (i:=i) r ha ho;exact⟨en1::pre,en,post,rfl,hr,λo' en' h'=>⟨o1,_,en1,_,rfl,rfl,h,k o' en' h'⟩⟩
structure Kp where
 ce:bw
 ex:bw
 m:ld->η μ
def bw.nd(l:bw):Prop:=(l.π (·.1)).Ω
theorem bw.nd.je{a b:bw}(p:a.No b)(h:bw.nd a):bw.nd b:=(p.π λq:Qk×Go=>q.1).nodup_iff.mp h
def Kp.Hd(k:Kp)(w:Wd)(os:ζ bw):bw:=os.pt++(w.tp++(k.ce++k.ex))
inductive xd(C:bf)(h₀:QA)(L:Qk)(k:Kp)(w:Wd)(H:MH)(h:QA):Prop
 |mk(os:ζ bw)(he:rU C w w.σ H os)(hn:Tu h₀ L h (k.Hd w os))(hd:bw.nd (k.Hd w os)):xd C h₀ L k w H h
def cb(C:bf)(h₀:QA)(L:Qk)(k:Kp)(w:Wd)(H:MH)(h:QA):Prop:=Fr h₀ L h k.m/\xd C h₀ L k w H h/\4<=h₀.wi.Ϡ/\∀a∈w.σ,4<=a
section
variable{C:bf}{h₀:QA}{L:Qk}{k:Kp}{w:Wd}{H:MH}{h:QA}(ψ:cb C h₀ L k w H h)
def cb.fr:=@ψ.1
def cb.os:=@ψ.2.1
def cb.og:=@ψ.2.2.1
def cb.lo:=@ψ.2.2.2
end
variable{post:bw}
def vW{d:Qk}{o':Go}:∀{pre:bw},bw.nd (pre++(d,o)::post)->Upd d o o' (pre++(d,o)::post) (pre++(d,o')::post):=by
 intro pre
 induction pre with
 |Ϝ=>exact λh=>.mo λp hp e=>(JH.mp h).1 (JL.ϥ ⟨p,hp,e⟩)
 |Ι q pre ih=>exact λh=>.pc (λe=>(JH.mp h).1 (JL.ϥ ⟨(d,o),JT _ (.mo _),e.Μ⟩)) (ih (JH.mp h).2)
variable{k:Kp}{H:MH}
theorem cb.lv(S:cb C h₀ L k w H h):w.σ.ε=H.ε:=xd.Δ S.os λ_ he _ _=>he.ε
inductive fE(C:bf)(h₀:QA)(L:Qk)(k:Kp)(w:Wd)(H:MH)(h:QA)(i:θ)(a:Qk)(o:ae):Prop
 |mk(pre en post:bw)(r:uN C w a o en)(n:Tu h₀ L h (pre++(en++post)))(d:bw.nd (pre++(en++post)))
   (g:∀o' en' h',en'.π (·.1)=en.π (·.1)->uN C w a o' en'->Fr h₀ L h' k.m->Tu h₀ L h' (pre++(en'++post))->cb C h₀ L k w (H.Ϫ i o') h'):fE C h₀ L k w H h i a o
def cb.at(S:cb C h₀ L k w H h){o:ae}(ha:w.σ[i]?=Qa a)(ho:H[i]?=Qa o):
  fE C h₀ L k w H h i a o:=by
 obtain⟨os,he,hn,hd⟩:=S.os;obtain⟨pre,en,post,rfl,hr,g⟩:=he.at ha ho;have e:∀en1:bw,k.Hd w (pre++en1::post)=pre.pt++(en1++(post.pt++(w.tp++(k.ce++k.ex)))):=by
  intro en1;unfold Kp.Hd;rw[Yx,Ya,JA,JA]
 rw[e] at hn hd;refine⟨pre.pt,en,_,hr,hn,hd,λo' en' h' hm hr' F N=>⟨F,⟨pre++en'::post,g o' en' hr',(e en').Μ▸N,(e en').Μ▸?_⟩,S.og,S.lo⟩⟩;unfold bw.nd at hd ⊢;rw[JW,JW] at hd ⊢;rw[hm];exact hd
def Wf(k:Kp)(w:Wd)(a:Qk)(en:bw)(os:ζ bw):(en++k.Hd w os).No (k.Hd ⟨w.σ++[a],w.tp⟩ (os++[en])):=by
 delta Kp.Hd;simp only[Yx,Ya,ζ.flatten_nil,ZE,JA];exact KG _ _ _
theorem AW(k:Kp)(w:Wd)(p:Qk×Go)(os:ζ bw):([p]++k.Hd w os).No (k.Hd ⟨w.σ,p::w.tp⟩ os):=(Yu (a:=p) (l₁:=os.pt) (l₂:=w.tp++(k.ce++k.ex))).Μ
theorem cb.ub(S:cb C h₀ L k w H h)(ha:4<=a):∀b∈w.σ++[a],4<=b:=λb hb=>(Zh.mp hb).ι (S.lo b) λhb=>JD.mp hb▸ha
theorem cb.ou(S:cb C h₀ L k w H h)(ha:h.wi.Ϡ<=a):4<=a:=Jn S.og (Jn S.fr.above (Jn (JN S.fr.ns.lt) ha))
inductive SB(C:bf)(h₀:QA)(L:Qk)(k:Kp)(w:Wd)(H:MH)(h:QA):Prop
 |mk(all:bw)(n:Tu h₀ L h all)
  (add:∀(a:Qk)(o:ae)(en:bw)(h':QA),uN C ⟨w.σ++[a],w.tp⟩ a o en->Fr h₀ L h' k.m->Tu h₀ L h' (en++all)->bw.nd en->(∀p∈en,∀q∈all,p.1≠q.1)->4<=a->cb C h₀ L k ⟨w.σ++[a],w.tp⟩ (H++[o]) h')
  (tp:∀(a:Qk)(o:Go)(h':QA),Fr h₀ L h' k.m->Tu h₀ L h' ((a,o)::all)->h.wi.Ϡ<=a->cb C h₀ L k ⟨w.σ,(a,o)::w.tp⟩ H h')
  (heap:∀h':QA,Fr h₀ L h' k.m->Tu h₀ L h' all->cb C h₀ L k w H h'):SB C h₀ L k w H h
def Gs{all:bw}(h:bw.nd en)(h':bw.nd all)(hf:∀p∈en,∀q∈all,p.1≠q.1):bw.nd (en++all):=by
 delta bw.nd;rw[JW,Kj];refine⟨h,h',λx hx y hy=>?_⟩;obtain⟨p,hp,rfl⟩:=JL.mp hx;obtain⟨q,hq,rfl⟩:=JL.mp hy;exact hf p hp q hq
theorem Tu.fresh{all:bw}(hn:Tu h₀ L h all)(he:∀p∈en,h.wi.Ϡ<=p.1):∀p∈en,∀q∈all,p.1≠q.1:=
 λp hp q hq e=>ς (Ky (hn q hq).1) (Z9.ϥ (e▸he p hp))
theorem qP(p:Qk×Go):bw.nd [p]:=JH.ϥ ⟨Jz,.Ϝ⟩
def cb.dz(S:cb C h₀ L k w H h):SB C h₀ L k w H h:=by
 obtain⟨os,he,hn,hd⟩:=S.os;refine⟨_,hn,λa o en h' hr F N hen hf h4=>⟨F,⟨os++[en],rU.xl hr (rU.Τ (w:=w) (w':=⟨w.σ++[a],w.tp⟩) ⟨Zk _ _,λ_ x=>x⟩ he),λp hp=>N p ((Wf k w a en os).tz.ϥ hp),bw.nd.je (Wf k w a en os) (Gs hen hd hf)⟩,S.og,S.ub h4⟩,
  λa o h' F N ha=>⟨F,⟨os,rU.Τ (w:=w) (w':=⟨w.σ,(a,o)::w.tp⟩) ⟨KZ _,λ_ x=>.pc _ x⟩ he,λp hp=>N p ((AW k w (a,o) os).tz.ϥ hp),bw.nd.je (AW k w (a,o) os) (Gs (qP _) hd (Tu.fresh hn λp hp=>JD.mp hp▸ha))⟩,S.og,S.lo⟩,
  λh' F N=>⟨F,⟨os,he,N,hd⟩,S.og,S.lo⟩⟩
theorem cb.uq(S:cb C h₀ L k w H h)(hc:(c,o)∈w.tp):h.sB c=Qa o:=xd.Δ S.os λ_ _ hn _=>(hn (c,o) (JT _ (ZV _ hc))).1
theorem cb.yn(S:cb C h₀ L k w H h)(hc:(c,o)∈k.ce):h.sB c=Qa o:=xd.Δ S.os λ_ _ hn _=>(hn (c,o) (JT _ (JT _ (ZV _ hc)))).1
theorem cb.cC(S:cb C h₀ L k w H h)(hc:(c,o)∈k.ex):h.sB c=Qa o:=xd.Δ S.os λ_ _ hn _=>(hn (c,o) (JT _ (JT _ (JT _ hc)))).1
inductive fH(C:bf)(w:Wd)(h:QA)(v:μ)(mvs:ζ ab):Prop
 |mk(a:Qk)(vs:ζ μ)(n:θ)(e:v=.ξ a)(g:h.sB a=Qa (listOf vs.υ n))(r:jI C w mvs vs)(l:mvs.ε<=bg):fH C w h v mvs
def cb.ο(S:cb C h₀ L k w H h){x:ab}(hv:jL C w x v)(ho:kP H x=Qa mvs):
  fH C w h v mvs:=by
 refine xEA (bs ho) λi e h1=>?_;refine xEA (bs h1) λo hi h2=>?_;cases ref?_s e;cases list?_s h2;obtain⟨a,rfl,ha⟩:=hv;obtain⟨pre,en,post,⟨vs,n,rfl,r,l⟩,hn,_,_⟩:=S.at ha hi;exact⟨a,vs,n,rfl,(hn (a,_) (JT _ (.mo _))).1,r,l⟩
abbrev kJ(C:bf)(d e:θ):= {x:Qv×QA×Qk×Env//(∃A₀ base outer,Below A₀ base outer x.2.1/\x.1.frames=Qa (x.2.2.2::outer))/\(C.K.In x.2.1)/\(∃p loose mean mg mb,Top p loose mean mg mb x.2.1)/\(x.2.2.2.frame=Qa x.2.2.1)/\(x.2.2.2.scope.Ts=.Fa)/\(x.1.v4=Qd)/\(x.1.depth+4*d+2+e<=900)/\(x.1.units+20*d+190+5*e<=9900)}
section
variable{C:bf}{d e:Nat}(ψ:kJ C d e)
abbrev kJ.A:=ψ.1.1
abbrev kJ.h₀:=ψ.1.2.1
abbrev kJ.L:=ψ.1.2.2.1
abbrev kJ.lk:=ψ.1.2.2.2
def kJ.below:∃A₀ base outer,Below A₀ base outer ψ.h₀/\ψ.A.frames=Qa (ψ.lk::outer):=ψ.2.1
def kJ.k:C.K.In ψ.h₀:=ψ.2.2.1
def kJ.aj:∃p loose mean mg mb,Top p loose mean mg mb ψ.h₀:=ψ.2.2.2.1
def kJ.frame:ψ.lk.frame=Qa ψ.L:=ψ.2.2.2.2.1
def kJ.Ts:ψ.lk.scope.Ts=.Fa:=ψ.2.2.2.2.2.1
def kJ.v4:ψ.A.v4=Qd:=ψ.2.2.2.2.2.2.1
def kJ.depth:ψ.A.depth+4*d+2+e<=900:=ψ.2.2.2.2.2.2.2.1
def kJ.units:ψ.A.units+20*d+190+5*e<=9900:=ψ.2.2.2.2.2.2.2.2
end
def kJ.fO{C:bf}{d e:θ}(Y:kJ C d e):kJ C d 0:=
 ⟨(Y.A,Y.h₀,Y.L,Y.lk),Y.below,Y.k,Y.aj,Y.frame,Y.Ts,Y.v4,Jn (Js (JB e) _) Y.depth,Jn (Js (JB _) _) Y.units⟩
abbrev St{C:bf}{d e:θ}(Y:kJ C d e)(k:Kp)(w:Wd)(H:MH)(s:Qg):Prop:=cb C Y.h₀ Y.L k w H s.Ν
def qH(s s':Qg):Prop:=s'.gens=s.gens/\s'.os=s.os
section
variable{s s':Qg}(ψ:qH s s')
end
theorem qH.TC(s:Qg):qH s s:=⟨rfl,rfl⟩
theorem qH.ν{a b c:Qg}(x:qH a b)(y:qH b c):qH a c:=⟨y.1.ν x.1,y.2.ν x.2⟩
def jc{C:bf}{d e:θ}(Y:kJ C d e)(k:Kp)(w w':Wd)(H':MH)(s s':Qg):Prop:=w.le w'/\St Y k w' H' s'/\qH s s'
section
variable{C:bf}{d e:Nat}{Y:kJ C d e}{k:Kp}{w w':Wd}{H':MH}{s s':Qg}(ψ:jc Y k w w' H' s s')
def jc.le:=@ψ.1
def jc.st:=@ψ.2.1
def jc.bx:=@ψ.2.2
end
def NQ{α β:Type}{C:bf}{d e:θ}(Y:kJ C d e)(k:Kp)(R:Wd->β->α->Prop)(t:Sem α)(w:Wd)(s:Qg)(r:β)(H':MH):Prop:=
 ∀(Q:α->Qg->Prop)(E:μ->Qg->Prop),(∀w' a s',jc Y k w w' H' s s'->R w' r a->Q a s')->Qh C.M Y.A t Q E s
def cf{α β:Type}{C:bf}{d e:θ}(Y:kJ C d e)(k:Kp)(R:Wd->β->α->Prop)(t:Sem α)(w:Wd)(s:Qg)(o:η (β×MH)):Prop:=
 ∀r,o=Qa r->NQ Y k R t w s r.1 r.2
variable{Y:kJ C d e}{R':Wd->δ->γ->Prop}
section
variable{R:Wd->β->α->Prop}{t:Sem α}{o:Option (β×MH)}
theorem jc.TC(S:St Y k w H s):jc Y k w w H s s:=⟨.TC w,S,.TC s⟩
theorem jc.zn(S:St Y k w H s)(n:θ):jc Y k w w H s {s with toks:=n}:=⟨.TC w,S,rfl,rfl⟩
theorem jc.ν{w1 w2:Wd}{H1 H2:MH}(a:jc Y k w w1 H1 s s1)(b:jc Y k w1 w2 H2 s1 s2):jc Y k w w2 H2 s s2:=⟨a.le.ν b.le,b.st,a.bx.ν b.bx⟩
theorem cf.Ε:cf Y k R t w s none:=λ_ h=>ag h
def cf.Η{f:β->MH->η (δ×MH)}{g:α->Sem γ}(h:cf Y k R t w s o)(hk:∀w' a s' r H1,jc Y k w w' H1 s s'->R w' r a->cf Y k R' (g a) w' s' (f r H1)):cf Y k R' (t>>=g) w s (bz o f):=by
 intro r' e Q E hq;cases o with
 |none=>exact ag e
 |some p=>exact Qb (h p rfl _ _ λw' a s' n1 r1=>hk w' a s' p.1 p.2 n1 r1 r' e Q E λw2 a2 s2 n2 r2=>hq w2 a2 s2 (n1.ν n2) r2)
def cf.pure'{r:β}{a:α}(S:St Y k w H s)(hr:R w r a):cf Y k R (pure a:Sem α) w s (Qa (r,H)):=by
 intro r' e Q E hq;obtain rfl:=Qa.lf e;exact Qf (hq w a s (.TC S) hr)
def cf.bj{o':η (β×MH)}(h:cf Y k R t w s o)(h':cf Y k R t w s o'):cf Y k R t w s (bj o o'):=by
 cases o with
 |none=>exact h'
 |some p=>exact h
def cf.aw{b:Ζ}(h:b=Qe->cf Y k R t w s o):cf Y k R t w s (aw b o):=by
 cases b with
 |false=>exact .Ε
 |true=>exact h rfl
def cf.jf{x:η γ}{f:γ->η (β×MH)}(h:∀a,x=Qa a->cf Y k R t w s (f a)):cf Y k R t w s (x.Η f):=by
 cases x with
 |none=>exact .Ε
 |some a=>exact h a rfl
def cf.ji{x:η γ}{f:γ->β×MH}(h:∀a,x=Qa a->cf Y k R t w s (Qa (f a))):cf Y k R t w s (x.π f):=by
 cases x with
 |none=>exact .Ε
 |some a=>exact h a rfl
def cf.case{x:η γ}{f:γ->η (β×MH)}(h0:x=Qd->cf Y k R t w s o)(h:∀a,x=Qa a->cf Y k R t w s (f a)):cf Y k R t w s (JG (motive:=λ_=>η (β×MH)) x o f):=by
 cases x with
 |none=>exact h0 rfl
 |some a=>exact h a rfl
def cf.KT{r:β}(S:St Y k w H s)(h:∀(Q:α->Qg->Prop)(E:μ->Qg->Prop),(∀a tk,R w r a->Q a {s with toks:=tk})->Qh C.M Y.A t Q E s):cf Y k R t w s (Qa (r,H)):=by
 intro r' e Q E hq;obtain rfl:=Qa.lf e;exact h Q E λa tk hr=>hq w a _ (.zn S tk) hr
theorem cf.xj{p:Pos}(h:cf Y k R t w s o):cf Y k R (standAt p>>=λ_=>t) w s o:=λr e Q E hq=>Qb (Qo (h r e Q E hq))
theorem cf.b8(h:cf Y k R t w s o):cf Y k R (holding vs t) w s o:=λr e Q E hq=>Qj (h r e Q E hq)
end
abbrev VR(C:bf):Wd->ab->μ->Prop:=λw m v=>jL C w m v
abbrev jA(C:bf):Wd->ζ ab->ζ μ->Prop:=λw m v=>jI C w m v
abbrev c9{α:Type}:Wd->α->α->Prop:=λ_ r a=>a=r
def uY (C:bf):Prop:=(∀id a,C.ad.Α id=Qa a-> ∃o,C.K.Α a=Qa o/\o.cls≠ .AT "tuple")/\(∀i j a,C.ad.Α i=Qa a->C.ad.Α j=Qa a->i=j)/\∀b,b<4-> ∃o,C.K.Α b=Qa o
section
variable{C:bf}(ψ:uY C)
def uY.cM:=@ψ.1
def uY.yq:=@ψ.2.1
def uY.qo:=@ψ.2.2
end
def fK (C:bf) (p:ld×ab) (rv:μ):Prop:=(∀w,jL C w p.2 rv)/\(nsIn C.K mainGlobals p.1=Qa (Qa rv)\/(nsIn C.K mainGlobals p.1=Qa Qd/\p.1≠"__name__"/\bootBuiltins p.1=Qa rv))
def NO(C:bf)(gl:ζ (ld×ab)):Prop:=∀x v,gl.Α x=Qa v->∃rv,fK C (x,v) rv
def wL:θ:=200000
def bf.cx(C:bf)(d:θ):Cx:=⟨C.P,wL,mB C.P wL d⟩
def nj(o:Go)(m:ld->η μ):Prop:=∃es ep,o.Ta=.Υ es ep/\StrKeys es/\∀name,nsFind es name=m name
def za(cx:CC)(env:Env)(L:Qk)(k:Kp)(mE:ld->η μ):Prop:=env.scope.Ts=.Fa/\env.globals=mainGlobals/\env.builtins=builtinsNs/\env.scope.ui=cx.sc/\(∀x,cx.sc.Α x=Qa .TD->∃c o v₀,env.TK.Α x=Qa c/\(c,o)∈k.ce/\o.Ta=.TD v₀)/\((env.locals=L/\mE=k.m)\/∃o,(env.locals,o)∈k.ex/\nj o mE)
section
variable{cx:CC}{env:Env}{L:Qk}{k:Kp}{mE:Str->Option Value}(ψ:za cx env L k mE)
def za.Ts:=@ψ.1
def za.gl:=@ψ.2.1
def za.bl:=@ψ.2.2.1
def za.sc:=@ψ.2.2.2.1
def za.TK:=@ψ.2.2.2.2.1
def za.jx:=@ψ.2.2.2.2.2
end
inductive Ag(C:bf)(w:Wd)(cx:CC)(env:Env)(ce:bw)(mE:ld->η μ)(x:ld)(v:ab):Prop
 |jx(rv:μ)(k:cx.sc.Α x=Qa .local)(e:mE x=Qa rv)(r:jL C w v rv):Ag C w cx env ce mE x v
 |cell(rv:μ)(c:Qk)(o:Go)(k:cx.sc.Α x=Qa .TD)(e:env.TK.Α x=Qa c)(m:(c,o)∈ce)(h:o.Ta=.TD (Qa rv))(r:jL C w v rv):Ag C w cx env ce mE x v
variable{ce:bw}
theorem Ag.Τ(l:w.le w'){cx:CC}{v:ab}(h:Ag C w cx env ce mE x v):Ag C w' cx env ce mE x v:=
 Ag.Δ h (λrv a b r=>.jx rv a b (r.Τ l)) (λrv c o a b m h r=>.TD rv c o a b m h (r.Τ l))
def zf4(C:bf)(w:Wd)(cx:CC)(env:Env)(ce:bw)(mE:ld->η μ)(fr:Λ):Prop:=
 ∀x i v,nH cx x=Qa i->fr[i]?=Qa (Qa v)->Ag C w cx env ce mE x v
def Pl{C:bf}{d e:θ}(Y:kJ C d e)(cx:CC)(env:Env)(k:Kp)(mE:ld->η μ)(fr:Λ)(w:Wd)(H:MH)(s:Qg):Prop:=za cx env Y.L k mE/\zf4 C w cx env k.ce mE fr/\St Y k w H s
section
variable{C:bf}{d e:Nat}{Y:kJ C d e}{cx:CC}{env:Env}{k:Kp}{mE:Str->Option Value}{fr:Frame}{w:Wd}{H:MH}{s:Qg}(ψ:Pl Y cx env k mE fr w H s)
def Pl.b:=@ψ.1
def Pl.f:=@ψ.2.1
def Pl.st:=@ψ.2.2
end
variable{H':MH}
theorem Pl.ϫ{cx:CC}{fr:Λ}(p:Pl Y cx env k mE fr w H s)(n:jc Y k w w' H' s s'):Pl Y cx env k mE fr w' H' s':=
 ⟨p.b,λx i v a b=>(p.f x i v a b).Τ n.le,n.st⟩
def mD(C:bf)(d:θ)(cx:CC)(e:ϝ)(ir:Ex):Prop:=
 ∀(Y:kJ C d 2)(env:Env)(k:Kp)(mE:ld->η μ)(fr:Λ)(w:Wd)(H:MH)(s:Qg),Pl Y cx env k mE fr w H s->cf Y k (VR C) (Ρ.eval e env) w s (eval (C.cx d) ir fr H)
def y9(C:bf)(d:θ)(cx:CC)(e:ϝ)(ir:Ex):Prop:=
 ∀(Y:kJ C d 2)(env:Env)(k:Kp)(mE:ld->η μ)(fr:Λ)(w:Wd)(H:MH)(s:Qg),Pl Y cx env k mE fr w H s->cf Y k c9 (Ρ.isTrue e env (Ρ.eval e env)) w s (lT (eval (C.cx d) ir fr H))
section
variable{cx:CC}{fr:Frame}
theorem cb.ml(S:cb C Y.h₀ Y.L k w H h):C.K.In h:=Y.k.keeps S.fr.keep
def za.ns(B:za cx env Y.L k mE)(S:St Y k w H s):s.Ν.Ns env.locals mE:=by
 rcases B.jx with h| ⟨o,ho,es,ep,h⟩
 ·simp only[h.1,h.2];exact S.fr.ns
 ·exact⟨o,es,ep,S.cC ho,h⟩
def CU{x:ζ θ}(h:zbA x=Qe):rx x:=by
 have h:=Jo.mp h;exact⟨λc hc=>Zn.mp (Za.mp h.1 c hc),Zn.mp h.2⟩
def Fh{c:Const}{v:ab}(hc:M9 c=Qa v):mD C d cx (.Constant c n pos) (.py v):=by
 intro Y env k mE fr w H s p;refine .KT p.st λQ E q=>?_;cases c with
 |none=>obtain rfl:=Qa.lf hc;exact Qf (q _ s.zn rfl)
 |bool b=>obtain rfl:=Qa.lf hc;exact Qf (q _ s.zn rfl)
 |int i=>obtain rfl:=Qa.lf hc;exact λ_ _ _=>q _ _ ⟨_,rfl⟩
 |str x=>
  obtain⟨h,e⟩:=gs hc;obtain rfl:=Qa.lf e;exact λ_ _ _=>q _ _ ⟨_,by rw[ϛ.toArray_toList],CU h⟩
 |_=>exact ag hc
def wA (h:jQ x=Qe):(x==("__debug__":ld))=false:=by
 have h1:=(Jo.mp (Jo.mp (Jo.mp (Jo.mp h).1).1).1).2;cases hx:(x==("__debug__":ld)) with
 |false=>rfl
 |true=>rw[show (x !=("__debug__":ld))=!(x==("__debug__":ld)) from rfl,hx] at h1;cases h1
def za.Ps(B:za cx env Y.L k mE){n:Qx}(h:cx.sc.Α x=Qa n):env.Ps x=Qa n:=by unfold Env.Ps;rw[B.sc];exact h
def OK(hx:jQ x=Qe)(hi:nH cx x=Qa i):mD C d cx (.Name x pos) (.Ο i):=by
 intro Y env k mE fr w H s p;refine .jf λov ho=>.ji λv hv=>.KT p.st λQ E q=>wpAny_Name ?_ (wA hx);subst hv;cases p.f x i v hi ho with
 |jx rv hk e r=>exact wpAny_loadName_local p.b.Ts (p.b.Ps hk) (p.b.ns p.st) e (q rv s.zn r)
 |cell rv c o hk e m h r=>exact wpAny_loadName_cell p.b.Ts (p.b.Ps hk) e ⟨o,p.st.yn m,h⟩ (q rv s.zn r)
def CF(G:NO C cx.gl){v:ab}(hx:jQ x=Qe)(hk:cx.sc.Α x=Qa .globalImplicit)(hg:cx.gl.Α x=Qa v):mD C d cx (.Name x pos) (.py v):=by
 intro Y env k mE fr w H s p;refine .KT p.st λQ E q=>?_;refine(G x v hg).ι λrv zq9=>?_;have hn:=zq9.2;refine xEE Y.aj λ_ _ dw=>?_;refine xEE dw λ_ mg iq=>?_;refine xE iq λmb T=>?_;have q:=q rv s.zn (zq9.1 w);refine Name_function_global p.b.Ts (p.b.Ps hk) ?_ (wA hx);have tg:=T.g.keeps p.st.fr.keep;rw[<-p.b.gl] at tg;rcases hn with hn| ⟨hn,hne,hb⟩
 ·exact loadGlobal_global tg (mg_of Y.k T.g hn) q
 ·have tb:=T.b.keeps p.st.fr.keep
  rw[<-p.b.bl] at tb;exact loadGlobal_builtin tg (mg_none_of Y.k T.g hn) tb ((T.builtins x hne).ν hb) q
def Lv{ir:Ex}(G:NO C cx.gl)(hc:ID cx x=Qa ir):mD C d cx (.Name x pos) ir:=by
 obtain⟨hx,hc⟩:=gs hc;refine AZ (nH cx x) (λhv=>?_) λi hv=>?_
 ·rw[hv] at hc
  obtain⟨hk,hc⟩:=gs hc;refine(ms hc).ι λv zq1=>?_;refine eqE zq1.2 ?_;exact CF G hx (χ.mp hk) zq1.1
 ·rw[hv] at hc
  refine lV hc ?_;exact OK hx hv
def Dh{M:Q8}{t:Sem μ}{Q:μ->Qg->Prop}(h:Qh M A t Q E s):Qh M A (operate operands t) Q E s:=by
 delta operate;exact Qb (Qj (Qr h (λr s' q=>Qb (wpAny_release (Qf q))) λ_ _ x=>x))
theorem cf.operate{t:Sem μ}{o:η (ab×MH)}(h:cf Y k (VR C) t w s o):cf Y k (VR C) (operate operands t) w s o:=λr e Q E hq=>Dh (h r e Q E hq)
end
section
variable{cx:CC}{fr:Frame}
def l8:bg<=sizeLine:=by decide+kernel
theorem sC(h:n<=bg):(n:Φ)<2 ^ 63:=Φ.lt_of_le_of_lt (YO.ϥ h) (by decide)
def cf.bV{t:Sem μ}(S:St Y k w H s)(r:jI C w mvs vs)(hl:mvs.ε<=bg)
  (h:∀(Q:μ->Qg->Prop)(E:μ->Qg->Prop) all,Tu Y.h₀ Y.L s.Ν all->(∀h' tk,Fr Y.h₀ Y.L h' k.m->Tu Y.h₀ Y.L h' ((s.Ν.wi.Ϡ,listOf vs.υ 0)::all)->Q (.ξ s.Ν.wi.Ϡ) {s with heap:=h',toks:=tk})->Qh C.M Y.A t Q E s):
  cf Y k (VR C) t w s (mC H (.ο mvs)):=by
 intro r' er Q E hq;obtain rfl:=Qa.lf er;obtain⟨all,hn,add,_,_⟩:=S.dz;exact h Q E all hn λh' tk F N=>hq _ _ _ ⟨(⟨Zk _ _,λ_ x=>x⟩:w.le ⟨w.σ++[s.Ν.wi.Ϡ],w.tp⟩),add _ (.ο mvs) [_] h' ⟨vs,0,rfl,r.Τ (⟨Zk _ _,λ_ x=>x⟩:w.le ⟨w.σ++[s.Ν.wi.Ϡ],w.tp⟩),hl⟩ F N (qP _) (Tu.fresh hn λp hp=>JD.mp hp▸Jv _) (S.ou (Jv _)),rfl,rfl⟩ ⟨_,rfl,by rw[<-S.lv];exact Zi⟩
def O7(r:jI C w mvs vs)(n:θ):jI C w (J5 n mvs).pt (J5 n vs).pt:=by
 induction n with
 |zero=>exact .Ϝ
 |succ n ih=>exact ih.append r
def O9(vs:ζ α)(k:θ):∀acc:ϛ α,(ζ.foldl (λx1 x2=>x1++x2) acc (J5 k vs.υ))=acc++(J5 k vs).pt.υ:=by
 induction k with
 |zero=>intro acc;exact(ϛ.append_empty).Μ
 |succ k ih=>
  intro acc;refine(ih _).ν ?_;simp only[qaw,Ya,ϛ.append_assoc,qax]
def O8(n:θ)(vs:ζ α):(J5 (if vs.υ.be=Qe then 0 else n) vs).pt=(J5 n vs).pt:=by
 cases vs with
 |Ϝ=>simp
 |Ι v r=>rfl
def Rj{s:ζ α}:(J5 n s).pt.ε=s.ε*n:=by rw[ζ.length_flatten,Xt,ζ.sum_replicate_nat,Xq]
theorem OD(a b:ζ θ):((⟨a.υ⟩:ld)++(⟨b.υ⟩:ld))=⟨(a++b).υ⟩:=ω ld.mk (qax a b)
def OX{x y:ab}{a b:μ}(S:St Y k w H s)(ha:jL C w x a)(hb:jL C w y b):cf Y k (VR C) (binaryOp .Add a b) w s (zaF H x y):=by
 refine .bj (.jf λi hi=>.jf λj hj=>?_) (.jf λi hi=>.jf λj hj=>.aw λhl=>?_)
 ·obtain⟨t,rfl⟩:=ha.xz hi
  obtain⟨u,rfl⟩:=hb.xz hj;exact .KT S λQ E q=>add_int (q _ _ ⟨_,rfl⟩)
 ·refine(ha.str? hi).ι λt zq18=>?_
  obtain rfl:=zq18.1;refine(hb.str? hj).ι λu zq17=>?_;obtain rfl:=zq17.1;have hl:=Zn.mp hl;exact .KT S λQ E q=>add_str (λt' tk=>q _ tk ⟨t',ω (KQ · t') (OD i j),λc hc=>(Zh.mp hc).ι (zq18.2.1 c) (zq17.2.1 c),by rw[Jx];exact hl⟩) (Jn hl l8)
def Vd{a:Φ}{b:θ}(h:a.natAbs<2 ^ b):qay a<=b+1:=by
 delta qay;split
 ·exact JB _
 ·rename_i h0
  exact Zs ((qbk λe=>h0 (by rw[qaH.mp e];rfl)).ϥ h)
def zcr{a b:Φ}(h:L9 a b=Qe):IntMulOk a b:=by
 have h:=Jo.mp h;have h1:=Vd (Zn.mp h.1);have h2:=Vd (Zn.mp h.2);delta IntMulOk;rw[ZR,not_and];intro _;delta wT.Φ.intTooBig;rw[f8,show bitsLine=134217728 by decide+kernel];lia
def Pa{l:θ}{n:Φ}(h:LK l n=Qe):n<=1000000/\ -1000000<=n/\l*n.Th<=bg:=by
 have h:=Jo.mp h;exact⟨Ξ (Jo.mp h.1).1,Ξ (Jo.mp h.1).2,Zn.mp h.2⟩
def OO{x y:ab}{a b:μ}(S:St Y k w H s)(ha:jL C w x a)(hb:jL C w y b):cf Y k (VR C) (binaryOp .Mult a b) w s (L8 H x y):=by
 refine .bj (.jf λi hi=>.jf λj hj=>.aw λhl=>?_) (.bj (.jf λi hi=>.jf λj hj=>?_) (.jf λi hi=>.jf λj hj=>.aw λhl=>?_))
 ·obtain⟨t,rfl⟩:=ha.xz hi
  obtain⟨u,rfl⟩:=hb.xz hj;exact .KT S λQ E q=>mul_int (q _ _ ⟨_,rfl⟩) (zcr hl)
 ·obtain⟨t,rfl⟩:=ha.xz hi
  cases bool?_s hj;subst hb;exact .KT S λQ E q=>IntBool.mul_int_bool (q _ _ ⟨_,rfl⟩)
 ·obtain⟨u,rfl⟩:=hb.xz hj
  obtain⟨a1,vs,n,rfl,g1,r1,l1⟩:=S.ο ha hi;refine xAA (Pa hl) λh1 h2 h3=>?_;refine .bV S (O7 r1 j.Th) (by rw[Rj];exact h3) λQ E all hn q=>mul_list S.fr hn g1 (by lia) (by lia) ?_ λh' F N=>q h' _ F ?_
  ·rw[Zo,<-r1.ε];exact Jn h3 (by decide)
  ·have e:=O9 vs (if vs.υ.be=Qe then 0 else j.Th) #[]
   rw[ϛ.empty_append,O8] at e;exact(e).Μ▸N
def Fy{x y:Φ}(h:y.natAbs<jg):wT.divisionGoesByPylong x y=false:=by
 delta wT.divisionGoesByPylong
 have:(if (y==0)=Qe then 0 else y.natAbs.log2 / 30+1)<=300:=by
  split
  ·exact JB _
  ·rename_i hz
   have:=(qbk λe=>hz (by rw[qaH.mp e];rfl)).ϥ h
   lia
 simp only[qal,decide_eq_false_iff_not];exact .wv (ZH this)
theorem zay{b:Φ}(h:(b !=0)=Qe):¬b=0:=TQ.mp h
def Fk{o:gy}(ho:Ew op=Qa o){x y:Φ}{t u:Tok}{z:Φ}(S:St Y k w H s)(e:HR o x y=Qa z):cf Y k (VR C) (binaryOp op (.Β x t) (.Β y u)) w s (Qa (.Β z,H)):=by
 refine .KT S λQ E q=>?_;cases op<;>cases ho
 ·exact ag e
 ·cases e;exact sub_int (q _ _ ⟨_,rfl⟩)
 ·exact ag e
 ·obtain⟨h,e⟩:=gs e
  cases e;exact mod_int' (zay h) (q _ _ ⟨_,rfl⟩)
 ·exact ag e
 ·obtain⟨h,e⟩:=gs e
  cases e;exact floordiv_int (zay (Jo.mp h).1) (q _ _ ⟨_,rfl⟩) (.wv (Fy (Zn.mp (Jo.mp h).2)))
def Fj{o:gy}(ho:Ew op=Qa o){x y:ab}{a b:μ}(S:St Y k w H s)(ha:jL C w x a)(hb:jL C w y b):cf Y k (VR C) (binaryOp op a b) w s (o7 o x y H):=by
 refine .bj (.jf λi hi=>.jf λj hj=>.ji λz hz=>?_) ?_
 ·obtain⟨t,rfl⟩:=ha.xz hi
  obtain⟨u,rfl⟩:=hb.xz hj;exact Fk ho S hz
 ·cases op<;>cases ho
  ·exact OX S ha hb
  ·exact .Ε
  ·exact OO S ha hb
  ·exact .Ε
  ·exact .Ε
  ·exact .Ε
theorem OW{l r:ϝ}{o:gy}{il ir:Ex}(ho:Ew op=Qa o)(hl:mD C d cx l il)(hr:mD C d cx r ir):mD C d cx (.BinOp l op r pos) (.fq o il ir):=
 λY env k mE fr w H s p=>.Η (hl Y env k mE fr w H s p) λw1 a1 s1 x H1 n1 r1=>.Η (.b8 (hr Y env k mE fr w1 H1 s1 (p.ϫ n1))) λw2 a2 s2 y H2 n2 r2=>.xj (.operate (Fj ho n2.st (r1.Τ n2.le) r2))
end
variable{l:List α}
def zcx{f:α->η β}{x:α}{r:ζ β}(h:(x::l).mapM f=Qa r):∃y ys,f x=Qa y/\l.mapM f=Qa ys/\r=y::ys:=by
 rw[qao] at h;refine(bs h).ι λy zq33=>?_;have h:=zq33.2;refine xEA (bs h) λys hys h=>?_;exact⟨y,ys,zq33.1,hys,(Qa.lf h).Μ⟩
inductive aD(h:QA)(v:μ)(d:PyData)(k:θ):Prop
 |mk(as:ζ Qk)(r:Reads h v d as)(c:d.canLay0=Qe)(l:d.depth<=k):aD h v d k
inductive zf0(h:QA)(v:ζ μ)(d:ζ PyData)(k:θ):Prop
 |mk(as:ζ Qk)(r:ReadsAll h v d as)(c:PyData.canLayAll0 d=Qe)(l:PyData.depthAll d<=k):zf0 h v d k
section
variable{cx:CC}{fr:Frame}
inductive fG(C:bf)(w:Wd)(h:QA)(v:μ)(mvs:ζ ab):Prop
 |mk (a:Qk) (o:Go) (n:θ) (vs:ζ μ) (e:v= .ξ a) (g:h.sB a=Qa o) (c:o.cls= .AT "tuple") (dt:o.Ta= .seq vs.υ n) (r:jI C w mvs vs) (l:mvs.ε<=bg):fG C w h v mvs
theorem cb.ay(S:cb C Y.h₀ Y.L k w H h)(hv:jL C w (.ay mvs) v):fG C w h v mvs:=
 Sx.Δ hv λa o n vs e q r l=>⟨a,o,n,vs,e,q.TF.ι S.uq (S.ml _ _),q.cls,q.Ta,r,l⟩
def tK(ih:∀v rv dt,jL C w v rv->nq H n v=Qa dt->aD h rv dt n):
  ∀{mvs:ζ ab}{vs:ζ μ}{ds:ζ PyData},jI C w mvs vs->mvs.mapM (nq H n)=Qa ds->zf0 h vs ds n:=by
 intro mvs
 induction mvs with
 |Ϝ=>intro vs ds h e;refine eqB h ?_;refine lV e ?_;exact⟨[],.Ϝ,rfl,JB _⟩
 |Ι m mvs ih'=>
  intro vs ds h e;refine xEEAA (zcx e) λy ys e1 e2 dw=>?_;refine eqB dw ?_;obtain⟨v,r,rfl,h,h'⟩:=h;obtain⟨as,r1,c1,d1⟩:=ih _ _ _ h e1;obtain⟨bs,r2,c2,d2⟩:=ih' h' e2;exact⟨as++bs,.Ι r1 r2,Jo.ϥ ⟨c1,c2⟩,θ.max_le.ϥ ⟨d1,d2⟩⟩
def nM(S:cb C Y.h₀ Y.L k w H h):∀(n:θ)(v:ab)(rv:μ)(dt:PyData),jL C w v rv->nq H n v=Qa dt->aD h rv dt n:=by
 have flat:∀(n:θ)(v:ab)(rv:μ)(dt:PyData),jL C w v rv->nq H 0 v=Qa dt->aD h rv dt n:=by
  intro n v rv dt hv e;cases v with
  |none=>refine lV e ?_;refine eqB hv ?_;exact⟨[],.Ε,rfl,JB _⟩
  |bool b=>refine lV e ?_;refine eqB hv ?_;exact⟨[],.ϯ b,rfl,JB _⟩
  |int i=>refine lV e ?_;obtain⟨t,rfl⟩:=hv;exact⟨[],.Β i t,rfl,JB _⟩
  |str x=>refine lV e ?_;obtain⟨t,rfl,ok⟩:=hv;exact⟨[],.Ϥ _ t,by simpa [PyData.canLay0,PyData.strOk] using ok.1,JB _⟩
  |_=>exact ag e
 intro n
 induction n with
 |zero=>exact flat 0
 |succ n ih=>
  intro v rv dt hv e;cases v with
  |ay vs=>
   obtain⟨ds,e1,rfl⟩:=ms e;obtain⟨a,o,n',ws,rfl,g,hc,hd,r,_⟩:=S.ay hv;obtain⟨as,ra,c1,d1⟩:=tK ih r e1;exact⟨as,.tuple g hc hd ra,c1,Zf d1⟩
  |ref i=>
   refine xEA (bs e) λvs hl e=>?_;obtain⟨ds,e1,rfl⟩:=ms e;obtain⟨a,ws,n',rfl,g,r,_⟩:=S.ο hv hl;obtain⟨as,ra,c1,d1⟩:=tK ih r e1;exact⟨a::as,.ο g rfl rfl ra,c1,Zf d1⟩
  |none=>exact flat _ _ _ _ hv e
  |bool b=>exact flat _ _ _ _ hv e
  |int i=>exact flat _ _ _ _ hv e
  |str x=>exact flat _ _ _ _ hv e
  |_=>exact ag e
theorem kJ.u(Y:kJ C d e)(h:n<=180):Y.A.units+n<9900:=Ju (ZL (Jw h (by decide:180<190)) _) (Jn (Jn (JV (Jr _ (20*d)) 190) (Jr _ _)) Y.units)
def CG(S:St Y k w H s){x y:ab}{r:Ζ}(hx:jL C w x vx)(hy:jL C w y vy)(e:vV H x y=Qa r):SeqAt.EqAt Y.A.in1 s vx vy r:=by
 refine xEA (bs e) λdx e1 e=>?_;obtain⟨dy,e2,rfl⟩:=ms e;obtain⟨_,r1,c1,d1⟩:=nM S 8 x vx dx hx e1;obtain⟨_,r2,c2,d2⟩:=nM S 8 y vy dy hy e2;refine SeqAt.eqAt_reads dx dy Y.A.in1 s vx vy _ _ r1 r2 c1 c2 ?_;rw[J8];exact Y.u (Jn (JJ (Jv _) (KU _ _)) (Jn (Js d1 _) (JC _ _)))
def c8{C:bf}{d e:θ}(Y:kJ C d e)(s:Qg)(vx vy:μ)(r:Ζ):Prop:=
 ∀(Q:μ->Qg->Prop)(E:μ->Qg->Prop),(Q (.ϯ r) s->Qh C.M Y.A (compareOp .Eq vx vy) Q E s)/\(Q (.ϯ (!r)) s->Qh C.M Y.A (compareOp .NotEq vx vy) Q E s)
def OT(S:St Y k w H s){x y:ab}{r:Ζ}(hx:jL C w x vx)(hy:jL C w y vy)(e:vV H x y=Qa r):c8 Y s vx vy r:=by
 refine xEA (bs e) λdx e1 e=>?_;obtain⟨dy,e2,rfl⟩:=ms e;obtain⟨_,r1,c1,d1⟩:=nM S 8 x vx dx hx e1;obtain⟨_,r2,c2,d2⟩:=nM S 8 y vy dy hy e2;have hu:Y.A.units+min dx.depth dy.depth<9900:=Y.u (Jn (Yn (KU _ _)) (Jn (JJ d2 d1) (JC _ _)));exact λQ E=>⟨SeqAt.compareEq_reads r1 r2 c1 c2 hu,SeqAt.compareNe_reads r1 r2 c1 c2 hu⟩
end
def ai.qz(a:ai):PyData:=ai.Δ (motive:=λ_=>PyData) a .Β .Ϥ
def zX(h:MH)(k:θ)(a:ai):nq h k a.KT=Qa a.qz:=by cases a<;>cases k<;>rfl
def HA(a b:ai):qaG a.qz b.qz=decide (a=b):=by
 cases a with
 |i x=>
  cases b with
  |i y=>show (x==y)=_;rw[Kq,χ,f8,ai.i.injEq]
  |s y=>rfl
 |s x=>
  cases b with
  |i y=>rfl
  |s y=>show (x==y)=_;rw[Kq,χ,f8,ai.s.injEq]
def DM(h:MH)(k:θ)(as:ζ ai):(as.π ai.KT).mapM (nq h k)=Qa (as.π ai.qz):=by
 induction as with
 |Ϝ=>rfl
 |Ι a r ih=>rw[JU,qao,zX,ih];rfl
def GK(as:ζ ai):∀bs:ζ ai,qbf (as.π ai.qz) (bs.π ai.qz)=decide (as=bs):=by
 induction as with
 |Ϝ=>intro bs;cases bs<;>rfl
 |Ι a x ih=>
  intro bs;cases bs with
  |Ϝ=>rfl
  |Ι b y=>
   show (qaG a.qz b.qz && qbf (x.π ai.qz) (y.π ai.qz))=_;rw[HA,ih,<-Ζ.decide_and,Tz,Kl.injEq]
def Wu(a b:ai):fz a.KT b.KT=decide (a=b):=by
 delta fz vV;rw[zX,zX];exact HA a b
def GC(as bs:ζ ai):fz (.ay (as.π ai.KT)) (.ay (bs.π ai.KT))=decide (as=bs):=by
 have e:∀l:ζ ai,nq [] 8 (.ay (l.π ai.KT))=Qa (.tuple (l.π ai.qz)):=λl=>ω (qaI PyData.tuple) (DM [] 7 l);delta fz vV;rw[e,e];exact GK as bs
def sD{v:ab}(h:m9 v=Qe):∃a:ai,v=a.KT:=by
 cases v with
 |int n=>exact⟨.i n,rfl⟩
 |str x=>exact⟨.s ⟨x.υ⟩,rfl⟩
 |_=>cases h
def lZ(a:ai):jV a.KT=1:=by cases a<;>rfl
def FY{vs:ζ ab}(h:vs.Hd m9=Qe):∃as:ζ ai,vs=as.π ai.KT:=by
 induction vs with
 |Ϝ=>exact⟨[],rfl⟩
 |Ι v r ih=>
  refine(sD (Jo.mp h).1).ι λa zq12=>?_;refine eqB zq12 ?_;refine(ih (Jo.mp h).2).ι λas zq11=>?_;refine eqB zq11 ?_;exact⟨a::as,rfl⟩
def Bq(as:ζ ai):(as.π ai.KT).Hd m9=true:=by
 induction as with
 |Ϝ=>rfl
 |Ι a r ih=>exact Jo.ϥ ⟨by cases a<;>rfl,ih⟩
def nS(as:ζ ai):jV (.ay (as.π ai.KT))=3:=by
 show (bif (as.π ai.KT).Hd m9 then 3 else 0)=3;rw[Bq];rfl
def oR{v:ab}(h:(jV v !=0)=Qe):(∃a:ai,v=a.KT)\/∃as:ζ ai,v=.ay (as.π ai.KT):=by
 delta jV at h;refine vL (m9 v) (λha=>?_) λha=>?_
 ·exact .wv (sD ha)
 ·rw[ha] at h
  refine AZ (v.tup?) (λht=>?_) λvs ht=>?_
  ·rw[ht] at h;cases h
  ·cases tup?_s ht
   refine vL (vs.Hd m9) (λhal=>?_) λhal=>?_
   ·obtain⟨as,rfl⟩:=FY hal;exact .IO ⟨as,rfl⟩
   ·have h':((bif vs.Hd m9 then 3 else 0:θ) !=0)=true:=h
    rw[hal] at h';cases h'
theorem ze8(h:(f es.υ).ch=es'):Go.mapDict f (Qn es ep)=Qn es' ep:=h▸rfl
theorem ze7(h:(f es.υ).ch=es'):Go.mapDictKeys f (Qn es ep)=Qn es' (ep+1):=h▸rfl
section
variable{prog:Qs}{w:Qm}{Kk:Type}[DecidableEq Kk]{knd:KeyKind prog w Kk}{A:Qv}{E:Value->Qg->Prop}{s:Qg}
def Di{d:Qk}{kvs:ζ (Kk×μ)}{k:Kk}{Q:Unit->Qg->Prop}(hkey:knd.is k key=Qe)(ho:s.Ν.sB d=Qa (Qn es ep))(hk:KeysOf knd es.υ)(hp:Pairs knd es kvs)(hn:(kvs.π (·.1)).Ω)(hsz:es.ε<=sizeLine)
  (h:∀(es':ζ Qi)(f:Go->Go),f (Qn es ep)=Qn es' (if kvs.any (λkv=>kv.1=k) then ep else ep+1)->KeysOf knd es'.υ->Pairs knd es' (stored kvs k v)->((stored kvs k v).π (·.1)).Ω->
   Q () {s with heap:=s.Ν.Db d f,toks:=s.zn+1}):Qh (model prog w) A (dictSet d key v) Q E s:=by
 delta dictSet
 try with_reducible refine Qj ?_
 refine Qb (knd.pyHash hkey ?_);delta dictSetHashed
 try with_reducible refine Qj ?_
 refine Qb (wpAny_dictFind_of (s:={s with toks:=s.zn+1}) hkey ho rfl hk ?_);have hidx:(es.υ.findIdx? λe=>knd.is k e.key)=kvs.findIdx? λkv=>decide (kv.1=k):=by
  rw[<-hp.findIdx k];simp
 cases hi:es.υ.findIdx? λe=>knd.is k e.key with
 |some i=>
  have hany:=any_of_findIdx_some (hidx▸hi);refine Qb (QL (Qb (wpAny_updateDict (s:={s with toks:=s.zn+1}) ho rfl (wpAny_point ?_))));refine h (es.modify i λe=> {e with val:=v}) _ ?_ ?_ ?_ ?_
  ·rw[φ hany];exact ze8 (by simp)
  ·have:=hk.modify i v;simpa using this
  ·rw[(by rw[stored,φ hany]:stored kvs k v=kvs.π (λkv=>if kv.1=k then(kv.1,v) else kv))];exact hp.modify hn (by rw[<-hi];simp:(es.findIdx? λe=>knd.is k e.key)=Qa i) v
  ·rw[(by rw[stored,φ hany]:stored kvs k v=kvs.π (λkv=>if kv.1=k then(kv.1,v) else kv)),keys_map_store];exact hn
 |none=>
  have hnot:k∉kvs.π (·.1):=not_mem_of_findIdx_none (hidx▸hi);have hany:¬(kvs.any λkv=>decide (kv.1=k))=true:=by
   rw[KL];rintro ⟨kv,hkv,he⟩;exact hnot (JL.ϥ ⟨kv,hkv,Ξ he⟩)
  refine Qb (QL (Q1 (hz:=by simpa using hsz) (s:={s with toks:=s.zn+1}) ho rfl ?_));refine h (es++[⟨knd.hash k,key,v⟩]) _ ?_ ?_ ?_ ?_
  ·rw[τ hany];exact ze7 (by simp)
  ·have:=hk.Te hkey v;simpa using this
  ·rw[(by rw[stored,τ hany]:stored kvs k v=kvs++[(k,v)])];exact hp.append hkey (knd.hash k) v
  ·rw[(by rw[stored,τ hany]:stored kvs k v=kvs++[(k,v)]),JW,Kj]
   refine⟨hn,JH.ϥ ⟨Jz,.Ϝ⟩,?_⟩;intro a ha b hb;rw[JD.mp hb];exact λe=>hnot ((show a=k from e)▸ha)
def VI {d:Qk}{Q:Unit->Qg->Prop} (hT:s.TypeIs (.ξ d) "dict") (h:Qh (model prog w) A.in1 (dictSet d key v) Q E s):Qh (model prog w) A (setItem (.ξ d) key v) Q E s:=by
 delta setItem
 try with_reducible refine Qj ?_
 refine Qb (Q9 hT rfl ?_);refine Qb (LT (name:=ld.ofString "__setitem__") hT Ja
  (Qq Ja hT entry_dict_setitem ?_ (args_dict_setitem _ _ _)))
 refine Qb (Qw hT ?_);show Qh _ _ (dictSet d key v>>=_) _ _ s;exact Qb (Qr h (λ_ s' q=>Qf ⟨.Ε,rfl,Qf q⟩) λ_ _ e=>e)
end
section
variable{prog:Qs}{w:Qm}{Kk:Type}[DecidableEq Kk]{knd:HeapKind prog w Kk}{A:Qv}{E:Value->Qg->Prop}{s:Qg}
def Lc{d:Qk}{xs:ζ (Kk×Qk×μ)}{k:Kk}{Q:Unit->Qg->Prop}(hu:knd.room A)(hkey:knd.is s.Ν k a)(ho:s.Ν.sB d=Qa (Qn (xs.π (entryOfKey knd)) ep))(his:∀x∈xs,knd.is s.Ν x.1 x.2.1)(hn:(xs.π (·.1)).Ω)(hsz:xs.ε<=sizeLine)
  (h:∀(f:Go->Go),f (Qn (xs.π (entryOfKey knd)) ep)=Qn ((storedH xs k a v).π (entryOfKey knd)) (if (atKey xs k).ϟ then ep else ep+1)->((storedH xs k a v).π (·.1)).Ω->
   Q () {s with heap:=s.Ν.Db d f,toks:=s.zn+knd.draws k}):Qh (model prog w) A (dictSet d (.ξ a) v) Q E s:=by
 have he:((xs.π (entryOfKey knd)).υ).ch=xs.π (entryOfKey knd):=rfl;delta dictSet
 try with_reducible refine Qj ?_
 refine Qb (knd.pyHash hu hkey ?_);delta dictSetHashed
 try with_reducible refine Qj ?_
 refine Qb (Q6 (s:={s with toks:=s.zn+knd.draws k}) hu hkey ho rfl he his hn ?_ ?_)
 ·intro hno
  have hnot:k∉xs.π (·.1):=not_mem_keys_of_get hno;refine Qb (QL (Q1 (hz:=by have e:=QT he;exact Jn (JF e) hsz) (s:={s with toks:=s.zn+knd.draws k}) ho rfl ?_));refine h _ ?_ ?_
  ·rw[storedH_new (QB hno),QB hno]
   exact ze7 (by simp [entryOfKey])
  ·rw[storedH_new (QB hno),JW,Kj]
   refine⟨hn,JH.ϥ ⟨Jz,.Ϝ⟩,?_⟩;intro x hx y hy;rw[JD.mp hy];exact λe=>hnot ((show x=k from e)▸hx)
 ·intro j p hj
  refine Qb (QL (Qb (wpAny_updateDict (s:={s with toks:=s.zn+knd.draws k}) ho rfl (wpAny_point ?_))));refine h _ ?_ ?_
  ·rw[storedH_old (QM hn hj),QM hn hj]
   have:=modify_map_putAt (entryOfKey knd) (λe:Qi=> {e with val:=v}) k v (λ_ _=>rfl) hn hj
   simp only[<-this];exact ze8 (by simp)
  ·rw[storedH_old (QM hn hj),keys_map_putAt];exact hn
end
section
variable{cx:CC}{fr:Frame}
def jL.atom{a:ai}(h:jL C w a.KT v):a.is v=Qe/\a.ok:=by
 cases a with
 |i n=>obtain⟨t,rfl⟩:=h;exact⟨Ϧ n,trivial⟩
 |s x=>obtain⟨t,rfl,ok⟩:=h;exact⟨Ϧ x,ok⟩
def jI.items{as:ζ ai}:∀{vs:ζ μ},jI C w (as.π ai.KT) vs->ItemsAre (kA C.prog C.w) as vs:=by
 induction as with
 |Ϝ=>intro vs h;refine eqB h ?_;exact .Ϝ
 |Ι a r ih=>intro vs h;obtain⟨v,t,rfl,h1,h2⟩:=h;exact .Ι h1.atom.1 (ih h2)
def cb.gn(S:cb C Y.h₀ Y.L k w H h){as:ζ ai}(hv:jL C w (.ay (as.π ai.KT)) v):∃t,v=.ξ t/\Ql (kA C.prog C.w) h as t:=by
 obtain⟨t,o,n,ws,e,ho,hc,hd,rr,hl⟩:=S.ay hv;exact⟨t,e,o,ws.υ,n,ho,hc,hd,rr.items⟩
theorem IA{pre:bw}(h:bw.nd (pre++([(a,o)]++post))):∀q∈pre++post,q.1≠a:=
 λq hq e=>(JH.mp (bw.nd.je (Yu (a:=(a,o)) (l₁:=pre) (l₂:=post)) h)).1 (JL.ϥ ⟨q,hq,e⟩)
def cb.cu(S:St Y k w H s){o o':ae}(ha:w.σ[i]?=Qa a)(ho:H[i]?=Qa o)(hen:∀en,uN C w a o en->∃ob,en=[(a,ob)])
  (hs:wS.v6 a s.Ν h') (hg:h'.sB a=Qa ob') (hr':uN C w a o' [(a,ob')]):cb C Y.h₀ Y.L k w (H.Ϫ i o') h':=by
 obtain⟨pre,en,post,hr,hn,hd,g⟩:=S.at ha ho;refine(hen en hr).ι λob1 zq8=>?_;obtain rfl:=zq8;have hm:=hn (a,ob1) (JT _ (.mo _));refine g o' [(a,ob')] h' rfl hr' ⟨S.fr.ns.sameBut hs (Kc hm.2.1),λc x e=>(hs.2 c (λq=>?_)).ν (S.fr.keep c x e),S.fr.above⟩ ?_
 ·rw[q,hm.2.2] at e;cases e
 ·intro p hp
  rcases Zh.mp hp with hp|hp
  ·have:=hn p (ZV _ hp)
   exact⟨(hs.2 p.1 ((IA hd) p (ZV _ hp))).ν this.1,this.2⟩
  ·rcases Zh.mp hp with hp|hp
   ·rw[JD.mp hp]
    exact⟨hg,hm.2⟩
   ·have:=hn p (JT _ (JT _ hp))
    exact⟨(hs.2 p.1 ((IA hd) p (JT _ hp))).ν this.1,this.2⟩
inductive c6{C:bf}{d e:θ}(Y:kJ C d e)(k:Kp)(w:Wd)(H:MH)(s:Qg)(i:θ)(v:μ)(p:η θ×ζ (ab×ab)):Prop
 |mk(a:Qk)(n:θ)(es:ζ Qi)(e:v=.ξ a)(m:(a==sysModules)=Qc)(hep:∀x,p.1=Qa x->n=x)(g:s.Ν.sB a=Qa (Qn es n))(r:qK C w p.2 es)(l:p.2.ε<=bg)
   (cu:∀h' o' ob',wS.v6 a s.Ν h'->h'.sB a=Qa ob'->uN C w a o' [(a,ob')]->cb C Y.h₀ Y.L k w (H.Ϫ i o') h'):c6 Y k w H s i v p
def cb.jz(S:St Y k w H s){p:η θ×ζ (ab×ab)}(hv:jL C w (.ξ i) v)(ho:H[i]?.Η ae.dict?=Qa p):c6 Y k w H s i v p:=by
 refine xEA (bs ho) λo hi h2=>?_;cases dict?_s h2;refine xEA hv λa e ha=>?_;obtain⟨pre,en,post,⟨es,n,rfl,hep,dr,l⟩,hn,_,_⟩:=S.at ha hi;refine⟨a,n,es,e,x9.ϥ λq=>ς (S.lo a (Jt ha)) (by rw[q];decide),hep,(hn (a,_) (JT _ (.mo _))).1,dr,l,λh' o' ob' g2 g3 g4=>S.cu ha hi (λen h=>?_) g2 g3 g4⟩;obtain⟨_,_,rfl,_,_,_⟩:=h;exact⟨_,rfl⟩
def cb.Υ(S:St Y k w H s){x:ab}{p:η θ×ζ (ab×ab)}(hv:jL C w x v)(ho:lN H x=Qa p):∃i,x=.ξ i/\c6 Y k w H s i v p:=by
 refine(bs ho).ι λi zq4=>?_;cases ref?_s zq4.1;exact⟨i,rfl,S.jz hv zq4.2⟩
def yL{f:α->ab}(e:mes.π (·.1)=l.π f):mes.ε=l.ε:=by
 have:=ω Ku e
 rwa [Jq,Jq] at this
theorem DA.Ϝ:DA C w [] [] []:=⟨.Ϝ,λe he=>ς he (by simp),.Ϝ,rfl,λ_ h=>ς h Jz,.Ϝ⟩
theorem DT.Ϝ:DT C w [] [] []:=⟨rfl,.Ϝ,λ_ h=>ς h Jz,rfl,.Ϝ⟩
def UK{x:ab}{p:ab×ab}{r:ζ (ab×ab)}(hf:jT mes x=Qe)(e:mes=p::r):jV p.1=jV x:=by
 subst e;exact Qa.lf (χ.mp (Jo.mp hf).2)
def qK.atom{a:ai}(hf:jT mes a.KT=Qe)(h:qK C w mes es):∃kvs,DA C w mes es kvs:=by
 rcases h with h| ⟨xs,D⟩
 ·exact h
 ·cases mes with
  |Ϝ=>
   have:=D.e
   cases xs with
   |Ϝ=>rw[D.es];exact⟨[],.Ϝ⟩
   |Ι _ _=>cases this
  |Ι p r=>
   cases xs with
   |Ϝ=>cases D.e
   |Ι x xs=>
    have:=UK hf rfl
    rw[show p.1=.ay (x.1.π ai.KT) from(Kl.lf D.e).1,nS,lZ] at this;cases this
def qK.oh{as:ζ ai}(hf:jT mes (.ay (as.π ai.KT))=Qe)(h:qK C w mes es):∃xs,DT C w mes es xs:=by
 rcases h with ⟨kvs,D⟩|h
 ·cases mes with
  |Ϝ=>
   have:=D.e
   cases kvs with
   |Ϝ=>have p:=D.p;cases p;exact⟨[],.Ϝ⟩
   |Ι _ _=>cases this
  |Ι p r=>
   cases kvs with
   |Ϝ=>cases D.e
   |Ι x kvs=>
    have:=UK hf rfl
    rw[show p.1=x.1.KT from(Kl.lf D.e).1,nS,lZ] at this;cases this
 ·exact h
theorem DA.Rs{kvs:ζ (ai×μ)}{a:θ}(D:DA C w mes es kvs)(hg:h.sB a=Qa (W.Rs es n)):h.DictOf (kA C.prog C.w) a kvs:=
 ⟨_,es.υ,n,hg,⟨rfl,rfl,rfl⟩,rfl,D.k,D.p,D.n⟩
theorem DT.qp(S:cb C Y.h₀ Y.L k w H h){xs:ζ (ζ ai×Qk×μ)}(D:DT C w mes es xs):∀x∈xs,Ql (kA C.prog C.w) h x.1 x.2.1:=λx hx=>by
 refine xEA (S.gn (D.v x hx)) λt e q=>?_;cases e;exact q
theorem DT.Rs(S:cb C Y.h₀ Y.L k w H h){xs:ζ (ζ ai×Qk×μ)}{b:θ}(D:DT C w mes es xs)(hg:h.sB b=Qa (W.Rs es n)):h.DictOfH (tupleKind (kA C.prog C.w)) b xs:=
 ⟨_,_,n,D.es▸hg,⟨rfl,rfl,rfl⟩,rfl,rfl,D.qp S,D.n⟩
def Ak(C:bf)(w:Wd)(m:η ab)(v:η μ):Prop:=(m=Qd/\v=Qd)\/∃mv rv,m=Qa mv/\v=Qa rv/\jL C w mv rv
def UJ[At α]{mk:α->ab}(hmk:∀a b,fz (mk a) (mk b)=decide (a=b))(k:α):∀{kvs:ζ (α×μ)}{mes:ζ (ab×ab)},mes.π (·.1)=kvs.π (λp=>mk p.1)->jI C w (mes.π (·.2)) (kvs.π (·.2))->Ak C w (jW mes (mk k)) (valueAt kvs k):=by
 intro kvs
 induction kvs with
 |Ϝ=>intro mes e r;rw[Xo.mp e];exact .wv ⟨rfl,rfl⟩
 |Ι y kvs ih=>
  intro mes e r;cases mes with
  |Ϝ=>cases e
  |Ι x mes=>
   obtain⟨e1,e2⟩:=Kl.lf e;obtain⟨v,t,ev,h,r⟩:=r;obtain⟨rfl,rfl⟩:=Kl.lf ev;have ih:=ih e2 r;unfold jW valueAt at ih ⊢;simp only[YD,YD,show x.1=mk y.1 from e1,hmk];cases hk:decide (y.1=k) with
   |true=>exact .IO ⟨_,_,rfl,rfl,h⟩
   |false=>exact ih
def Ak.ϟ{m:η ab}{v:η μ}(h:Ak C w m v):m.ϟ=v.ϟ:=by
 rcases h with ⟨rfl,rfl⟩| ⟨_,_,rfl,rfl,_⟩<;>rfl
theorem DA.Mi{kvs:ζ (ai×μ)}(D:DA C w mes es kvs)(k:ai):Ak C w (jW mes k.KT) (valueAt kvs k):=UJ Wu k D.e D.r
def DT.jv{xs:ζ (ζ ai×Qk×μ)}(D:DT C w mes es xs):mes.π (·.1)=(kvsOf xs).π (λp=>ab.ay (p.1.π ai.KT))/\jI C w (mes.π (·.2)) ((kvsOf xs).π (·.2)):=by
 refine⟨?_,?_⟩
 ·rw[D.e];simp [kvsOf]
 ·have:=D.r
  simpa [kvsOf,Function.comp_def] using this
def DT.Mi{xs:ζ (ζ ai×Qk×μ)}(D:DT C w mes es xs)(k:ζ ai):Ak C w (jW mes (.ay (k.π ai.KT))) ((atKey xs k).π (·.2)):=by
 rw[<-QE];exact UJ (mk:=λas:ζ ai=>ab.ay (as.π ai.KT)) GC k D.jv.1 D.jv.2
theorem kJ.room(Y:kJ C d e):(tupleKind (kA C.prog C.w)).room Y.A.in1:=tupleKind_room_in1 (Y.u (by decide))
end
section
variable{prog:Qs}{w:Qm}{K:Type}[DecidableEq K]{knd:HeapKind prog w K}{A:Qv}{E:Value->Qg->Prop}{s:Qg}
def RK{M:Q8}{b:β}{f:θ->β->Sem (Ty β)}{C:β->Qg->Prop}(I:θ->Prop)(turn:∀i,i<n->I i->∀R:Ty β->Qg->Prop,(I (i+1)->R (.yield b) s)->(∀b',C b' s->R (.done b') s)->Qh M A (f i b) R E s)(fb:I n->C b s)(h:I 0):Qh M A (forIn (JZ 0 n) b f) C E s:=by
 refine wpAny_forIn_list f (λrest b' s'=>b'=b/\s'=s/\∃i,i+rest.ε=n/\rest=JZ i rest.ε/\I i) C (λx rest b' s' q=>?_) (λb' s' q=>?_) _ b ⟨rfl,rfl,0,by rw[KB,Zq],by rw[KB],h⟩
 ·obtain⟨rfl,rfl,i,e1,e2,q⟩:=q
  rw[J0,X3] at e2;obtain⟨rfl,e2⟩:=Kl.lf e2;rw[J0] at e1;exact turn x (e1▸ZP (Zr _)) q _ (λq=>⟨rfl,rfl,x+1,(Yz ..).ν e1,e2,q⟩) λ_ q=>q
 ·obtain⟨rfl,rfl,i,e1,_,q⟩:=q
  exact fb (e1▸q)
def sG{nm:Tm}{xa xb:ζ (K×Qk×μ)}{r:Ζ}(ha:(a==sysModules)=Qc)(hb:(b==sysModules)=Qc)(hu:knd.room A)
  (da:s.Ν.DictOfH knd a xa) (db:s.Ν.DictOfH knd b xb) (dj:xa.ε=xb.ε->Jb A s (kvsOf xb) (kvsOf xa) r) (h:Q (xa.ε==xb.ε && r) s):
  Qh (model prog w) A (wT.Dict.samePairs nm a b) Q E s:=by
 obtain⟨oa,es,ep,hoa,_,hda,hea,hia,hna⟩:=da;obtain⟨ob,es',ep',hob,_,hdb,heb,hib,hnb⟩:=db;have hla:es.Ϡ=xa.ε:=QT hea;have hlb:es'.Ϡ=xb.ε:=QT heb;have hat:∀x (hx:x<es.Ϡ),es[x]?=Qa (entryOfKey knd (xa[x]'(hla▸hx)))/\knd.is s.Ν (xa[x]'(hla▸hx)).1 (xa[x]'(hla▸hx)).2.1/\(kvsOf xa).jp x=((xa[x]'(hla▸hx)).1,(xa[x]'(hla▸hx)).2.2)::(kvsOf xa).jp (x+1):=λx hx=>by
  have hx':x<xa.ε:=hla▸hx;refine⟨by rw[entry_at hea x,Jp hx'];rfl,hia _ (Zt hx'),(ZK (by unfold kvsOf;rw[Jq];exact hx':x<(kvsOf xa).ε)).ν ?_⟩
  congr 1
  simp only[kvsOf,ζ.getElem_map]
 rw[<-hla,<-hlb] at h;delta wT.Dict.samePairs wT.Dict.showsAll;refine Qb (wN (by rw[ha];exact JQ) (Qf (Qb (wN (by rw[hb];exact JQ) (Qf ?_)))));refine Qb (Qp hoa hda (Qb (Qp hob hdb ?_)));refine if hsz:es.Ϡ=es'.Ϡ then ?_ else wP (TQ.ϥ hsz) (Qb (QL (Qf (by rw[ϧ hsz] at h;exact h))))
 have h':Q r s:=by rw[hsz,Ϧ] at h;exact h
 refine wN (λe=>TQ.mp e hsz) (Qb (QF hoa hda (Qb ?_)));rw[Std.Legacy.Range.forIn_eq_forIn_range'];simp only[Std.Legacy.Range.Ϡ,qbi,θ.add_sub_cancel,θ.div_one];refine RK (λi=>Jb A s (kvsOf xb) ((kvsOf xa).jp i) r) (λx hx hpre R hy hd=>?_) (λq=>Qf ?_) (dj (hla▸hlb▸hsz))
 ·have P:=hat x hx
  generalize xa[x]'(hla▸hx)=p at P
  rw[P.2.2] at hpre;refine Qb (Qp hoa hda ?_);rw[P.1];show Qh _ _ (holding [YX p.2.1,p.2.2] _>>=_) _ _ _;refine Qb (Qj (Qb (Q6 hu P.2.1 hob hdb heb hib hnb (λhno=>Qf (wP (by decide) (Qf (hd _ (Qf ?_))))) λj p' hj=>?_)))
  ·rcases hpre.inv with ⟨_,er⟩| ⟨y,_,_,hy,_⟩
   ·exact er▸h'
   ·rw[(by rw[QE,QB hno];rfl:valueAt (kvsOf xb) p.1=Qd)] at hy;exact ag hy
  ·have hv':valueAt (kvsOf xb) p.1=Qa p'.2:=by rw[QE,QM hnb hj];rfl
   refine Qb (Qp hob hdb ?_);rw[(by rw[entry_at heb j,hj];rfl:es'[j]?=Qa (entryOfKey knd (p.1,p')))];rcases hpre.inv with ⟨hn,_⟩| ⟨y,e,b',hyy,he,hrr,er⟩
   ·rw[hv'] at hn;exact ag hn.Μ
   ·have ey:p'.2=y:=Qa.lf (hv'.Μ.ν hyy)
    rw[<-ey] at he;refine Qj (he prog w _ _ ?_);cases e with
    |false=>exact wP (by decide) (Qf (hd _ (Qf (by rw[er] at h';exact h'))))
    |true=>
     rw[XX] at er;rw[<-er] at hrr;exact wN (by decide) (Qb (QF hoa hda (wN (by rw[bne_self_eq_false];exact JQ) (Qf (hy hrr)))))
 ·rw[hla,show xa.ε=(kvsOf xa).ε by unfold kvsOf;rw[Jq],ZS] at q
  cases q;exact h'
def RC{xa xb:ζ (K×Qk×μ)}{r:Ζ}(ha:(a==sysModules)=Qc)(hb:(b==sysModules)=Qc)(hk:knd.room A.in1)
  (da:s.Ν.DictOfH knd a xa) (db:s.Ν.DictOfH knd b xb) (hu:A.units<cLine) (dj:xa.ε=xb.ε->Jb A.in1 s (kvsOf xb) (kvsOf xa) r) {Q:μ->Qg->Prop}:
  (Q (.ϯ (xa.ε==xb.ε && r)) s->Qh (model prog w) A (compareOp .Eq (.ξ a) (.ξ b)) Q E s)/\(Q (.ϯ (!(xa.ε==xb.ε && r))) s->Qh (model prog w) A (compareOp .NotEq (.ξ a) (.ξ b)) Q E s):=by
 refine⟨λh=>?_,λh=>?_⟩
 ·refine QG (op:=.Eq) da.wn db.wn Ρ.F.slot_dict_eq (Qq Ρ.F.slot_dict_eq da.wn Ρ.F.entry_dict_eq ?_ (Ρ.F.args_dict_eq_2 _ _)) hu
  show Qh _ _ (wT.Dict.dictSlotArgs "__eq__" ⟨[.ξ a,.ξ b],[]⟩>>=_) _ _ s;refine Qb ?_;delta wT.Dict.dictSlotArgs;refine Qb (Qw da.wn ?_);refine Qf ?_;refine Qb (QJ (T:="dict") db.wn Ρ.F.sub_dict_dict ?_);simp only[qaC,K1,if_false];exact Qb (Qf (Qb (Qf (Qb (sG ha hb hk da db dj (Qf ⟨_,rfl,(λx=>μ.Ok x),by simpa using h⟩))))))
 ·refine QG (op:=.NotEq) da.wn db.wn Ρ.F.slot_dict_ne (Qq Ρ.F.slot_dict_ne da.wn Ρ.F.entry_dict_ne ?_ (Ρ.F.args_dict_ne_2 _ _)) hu
  refine Qb ?_;delta wT.Dict.dictSlotArgs;refine Qb (Qw da.wn ?_);refine Qf ?_;refine Qb (QJ (T:="dict") db.wn Ρ.F.sub_dict_dict ?_);simp only[qaC,K1,if_false];exact Qb (Qf (Qb (Qf (Qb (sG ha hb hk da db dj (Qf ⟨_,rfl,(λx=>μ.Ok x),by simpa using h⟩))))))
end
section
variable{cx:CC}{fr:Frame}
def Ei[At α]{mk:α->ab}(S:St Y k w H s){mes2:ζ (ab×ab)}{kb:ζ (α×μ)}(hg:∀k,Ak C w (jW mes2 (mk k)) (valueAt kb k)):
  ∀{ka:ζ (α×μ)}{mes:ζ (ab×ab)}{r:Ζ},mes.π (·.1)=ka.π (λp=>mk p.1)->jI C w (mes.π (·.2)) (ka.π (·.2))->nU H mes2 mes=Qa r->Jb Y.A.in1 s kb ka r:=by
 intro ka
 induction ka with
 |Ϝ=>intro mes r e _ eh;rw[Xo.mp e] at eh;obtain rfl:=Qa.lf eh;exact .Ϝ
 |Ι y ka ih=>
  intro mes r e rr eh;cases mes with
  |Ϝ=>cases e
  |Ι x mes=>
   obtain⟨e1,e2⟩:=Kl.lf e;obtain⟨v,t,ev,h1,rr⟩:=rr;obtain⟨rfl,rfl⟩:=Kl.lf ev;have eh:JG (motive:=λ_=>η Ζ) (jW mes2 x.1) (Qa Qc) (λy=>(vV H x.2 y).Η λe=>(nU H mes2 mes).π λb=>e && b)=Qa r:=eh;rw[show x.1=mk y.1 from e1] at eh;rcases hg y.1 with ⟨g1,g2⟩| ⟨mv,rv,g1,g2,g3⟩
   ·rw[g1] at eh
    refine lV eh ?_;exact .miss g2
   ·rw[g1] at eh
    refine xEA (bs eh) λe' q1 eh=>?_;refine(ms eh).ι λb zq42=>?_;refine eqE zq42.2 ?_;exact .hit g2 (CG S h1 g3 q1) (ih e2 rr zq42.1)
def Ho[At α]{ka kb:ζ (α×μ)}{o:η Ζ}{r:Ζ}(e1:l1=ka.ε)(e2:l2=kb.ε)(e:(bif l1==l2 then o else Qa Qc)=Qa r)(h:o=Qa r->Jb A s kb ka r):
  ∃r',(ka.ε=kb.ε->Jb A s kb ka r')/\(ka.ε==kb.ε && r')=r:=by
 rw[e1,e2] at e;cases hl:(ka.ε==kb.ε) with
 |true=>rw[hl] at e;exact⟨r,λ_=>h e,rfl⟩
 |false=>rw[hl] at e;exact⟨Qc,λq=>ς (χ.ϥ q) (by rw[hl];exact JQ),Qa.lf e⟩
def Fs{es1 es2:ζ (ab×ab)}{d1 d2:ζ Qi}(hk:p8 es1 es2=Qe)(c1:qK C w es1 d1)(c2:qK C w es2 d2):(∃k1 k2,DA C w es1 d1 k1/\DA C w es2 d2 k2)\/∃x1 x2,DT C w es1 d1 x1/\DT C w es2 d2 x2:=by
 have fa:∀{es:ζ (ab×ab)}{x:ab},jV x≠0->(es.be||yM es==Qa (jV x))=Qe->jT es x=true:=λh h'=>Jo.ϥ ⟨TQ.ϥ h,h'⟩;cases es1 with
 |Ϝ=>
  rcases c2 with ⟨k2,D2⟩| ⟨x2,D2⟩
  ·obtain⟨k1,D1⟩:=c1.atom (a:=.i 0) (fa ((λa=>by rw[lZ];decide:∀a:ai,jV a.KT≠0) _) rfl)
   exact .wv ⟨k1,k2,D1,D2⟩
  ·obtain⟨x1,D1⟩:=c1.oh (as:=[]) (fa ((λa=>by rw[nS];decide:∀a:ζ ai,jV (.ay (a.π ai.KT))≠0) _) rfl)
   exact .IO ⟨x1,x2,D1,D2⟩
 |Ι p es1=>
  have hk:(es2.be||some (jV p.1)==yM es2)=true:=hk;have sw:∀{x:ab},p.1=x->(es2.be||yM es2==Qa (jV x))=true:=λe=>by
   subst e;rcases KW.mp hk with h|h
   ·rw[h];rfl
   ·rw[<-χ.mp h,Ϧ,Ζ.or_true]
  rcases c1 with ⟨k1,D1⟩| ⟨x1,D1⟩
  ·have e:=D1.e
   cases k1 with
   |Ϝ=>cases e
   |Ι y k1=>
    obtain⟨k2,D2⟩:=c2.atom (a:=y.1) (fa ((λa=>by rw[lZ];decide:∀a:ai,jV a.KT≠0) _) (sw (Kl.lf e).1));exact .wv ⟨_,k2,D1,D2⟩
  ·have e:=D1.e
   cases x1 with
   |Ϝ=>cases e
   |Ι y x1=>
    obtain⟨x2,D2⟩:=c2.oh (as:=y.1) (fa ((λa=>by rw[nS];decide:∀a:ζ ai,jV (.ay (a.π ai.KT))≠0) _) (sw (Kl.lf e).1));exact .IO ⟨_,x2,D1,D2⟩
def Dx(S:St Y k w H s){x y:ab}{d1 d2:η θ×ζ (ab×ab)}{r:Ζ}(hx:jL C w x vx)(hy:jL C w y vy)
  (o1:lN H x=Qa d1) (o2:lN H y=Qa d2) (hk:p8 d1.2 d2.2=Qe) (e:(bif d1.2.ε==d2.2.ε then nU H d2.2 d1.2 else Qa Qc)=Qa r):c8 Y s vx vy r:=by
 refine(S.Υ hx o1).ι λ_ zq37=>?_;obtain⟨a1,n1,es1,rfl,m1,_,g1,c1,_,_⟩:=zq37.2;refine xEA (S.Υ hy o2) λ_ _ zg14=>?_;obtain⟨a2,n2,es2,rfl,m2,_,g2,c2,_,_⟩:=zg14;have hcl:Y.A.units<cLine:=Y.u (JB _);rcases Fs hk c1 c2 with ⟨k1,k2,D1,D2⟩| ⟨x1,x2,D1,D2⟩
 ·obtain⟨r',dj,rfl⟩:=Ho (yL D1.e) (yL D2.e) e λe=>Ei S D2.Mi D1.e D1.r e
  exact λQ E=>⟨keq_eq m1 m2 (D1.Rs g1) (D2.Rs g2) hcl dj,keq_ne m1 m2 (D1.Rs g1) (D2.Rs g2) hcl dj⟩
 ·have hl:∀l:ζ (ζ ai×Qk×μ),l.ε=(kvsOf l).ε:=λl=>(Jq ..).Μ
  obtain⟨r',dj,rfl⟩:=Ho ((yL D1.e).ν (hl x1)) ((yL D2.e).ν (hl x2)) e λe=>Ei (mk:=λas:ζ ai=>ab.ay (as.π ai.KT)) S (λq=>by rw[QE];exact D2.Mi q) D1.jv.1 D1.jv.2 e;rw[<-hl,<-hl] at dj ⊢;exact λQ E=>RC m1 m2 Y.room (D1.Rs S g1) (D2.Rs S g2) hcl dj
theorem LA(S:St Y k w H s){x y:ab}{r:Ζ}(hx:jL C w x vx)(hy:jL C w y vy):lz H x y=Qa r->c8 Y s vx vy r:=
 lB (j1 λd1 o1=>j1 λd2 o2=>l6 λhk e=>Dx S hx hy o1 o2 hk e) (OT S hx hy)
theorem cb.grown(S:cb C Y.h₀ Y.L k w H h)(he:wS.ExtBut h.wi.Ϡ h h'):cb C Y.h₀ Y.L k w H h':=
 SB.Δ S.dz λall hn _ _ g=>g h' (S.fr.extBut he (Jv _)) λp hp=>⟨he p.1 p.2 (ZG (Ky (hn p hp).1)) (hn p hp).1,(hn p hp).2⟩
def jI.empty(r:jI C w mvs vs):vs.υ.be=mvs.be:=by
 cases mvs with
 |Ϝ=>subst r;rfl
 |Ι m mvs=>obtain⟨v,t,rfl,_,_⟩:=r;rfl
def u7(S:St Y k w H s){x:ab}{r:Ζ}(hx:jL C w x v)(e:truthy H x=Qa r)(h:∀tk,Q r {s with toks:=tk}):Qh C.M Y.A (Ρ.truthy v) Q E s:=by
 cases x with
 |none=>subst hx;obtain rfl:=Qa.lf e;exact truthy_none (h s.zn)
 |bool b=>refine eqB hx ?_;refine soB e ?_;exact Jc (h s.zn)
 |int i=>obtain⟨t,rfl⟩:=hx;obtain rfl:=Qa.lf e;exact truthy_int (h s.zn)
 |str l=>
  obtain rfl:=Qa.lf e;obtain⟨t,rfl,ok⟩:=hx;refine P.truthy_str (qaJ.ϥ (sC ok.2)) ?_;have e:(((⟨l.υ⟩:ld).ε:Φ) !=0)=!l.be:=by cases l<;>rfl
  exact e▸h _
 |ay vs=>
  obtain rfl:=Qa.lf e;obtain⟨t,o,n,ws,rfl,ho,hc,hd,rr,hl⟩:=S.ay hx;refine truthy_tuple (items:=ws.υ) ⟨o,ho,hc,n,hd⟩ (by rw[Zo,<-rr.ε];exact sC hl) ?_;exact rr.empty▸h _
 |ref i=>
  refine(ms e).ι λvs zq31=>?_;obtain rfl:=zq31.2;obtain⟨t,ws,n,rfl,ho,rr,hl⟩:=S.ο hx zq31.1;refine wpAny_truthy_list (items:=ws.υ) ⟨_,ho,rfl,n,rfl⟩ (by rw[Zo,<-rr.ε];exact sC hl) ?_;exact rr.empty▸h _
 |_=>exact ag e
def kG[BEq α][LawfulBEq α]{a:α}{b:β}:∀{l:ζ (α×β)},l.Α a=Qa b->(a,b)∈l:=by
 intro l
 induction l with
 |Ϝ=>exact λh=>ag h
 |Ι p l ih=>
  intro h;rw[ZI] at h;cases e:(a==p.1) with
  |true=>rw[e] at h;refine lV h ?_;rw[χ.mp e];exact .mo _
  |false=>rw[e] at h;exact .pc _ (ih h)
def EO:∀p∈rG,∀q∈rG,(p.1==q.1)=(p.2==q.2):=by decide
def ze4 {d1 d2:Data} (hc:c2≠ .AT "tuple") (f:ϛ μ->θ->ϛ μ->θ->α) (g:α):Ρ.emptiesJoinedAsOfOld.match_1 (λ_ _ _ _=>α) c1 c2 d1 d2 f (λ_ _ _ _=>g)=g:=by
 cases c1 with
 |type n=>
  by_cases h:n="tuple"
  ·subst h
   cases c2 with
   |type m=>delta Ρ.emptiesJoinedAsOfOld.match_1;exact dif_neg λe=>hc (ω Zz e)
   |_=>rfl
  ·delta Ρ.emptiesJoinedAsOfOld.match_1;exact dif_neg h
 |_=>rfl
def Uo (ha:s.Ν.sB a=Qa oa) (hb:s.Ν.sB b=Qa ob) (hc:ob.cls≠ .AT "tuple") (h:Q (a==b) s):Qh C.M A (isSame (.ξ a) (.ξ b)) Q E s:=by
 delta isSame
 dsimp only
 by_cases e:a=b
 ·subst e
  refine wP (by simp) ?_;rw[Ϧ] at h;exact Qf h
 ·refine wN (by simpa using e) ?_
  rw[x9.ϥ e] at h;refine Qb (Jh ha (Qb (Jh hb ?_)));rw[ze4 hc];exact Qf h
def jL.re{x:ab}(h:jL C w x v):isSame v .Ε=pure x.re:=by
 rw[isSame_none];cases x with
 |none=>subst h;rfl
 |bool b=>refine eqB h ?_;rfl
 |int i=>obtain⟨t,rfl⟩:=h;rfl
 |str i=>obtain⟨t,rfl,_⟩:=h;rfl
 |ay i=>obtain⟨_,_,_,_,rfl,_,_,_⟩:=h;rfl
 |ref i=>obtain⟨_,rfl,_⟩:=h;rfl
 |aj i=>obtain⟨_,rfl,_⟩:=h;rfl
 |ty i=>obtain⟨_,rfl,_⟩:=h;rfl
 |bi i=>obtain⟨_,rfl,_⟩:=h;rfl
 |gq i=>obtain⟨_,_,_,_,rfl,_⟩:=h;rfl
 |fl i=>obtain⟨_,_,_,_,rfl,_,_,_⟩:=h;rfl
 |jr i=>obtain⟨_,_,_,_,_,rfl,_⟩:=h;rfl
def CD(K:uY C)(S:St Y k w H s){x y:ab}{r:Ζ}(hx:jL C w x vx)(hy:jL C w y vy)(h:Q r s):zt x y=Qa r->Qh C.M Y.A (isSame vx vy) Q E s:=by
 have plain:isSame vx vy=pure r->Qh C.M Y.A (isSame vx vy) Q E s:=λq=>by rw[q];exact Qf h
 refine lB (l6 λq e=>?_) (lB (j1 λi e1=>kL λj e2 e=>?_) (lB (j1 λi e1=>kL λj e2 e=>?_) (l6 λq=>kL λj e2 e=>?_)))
 ·clear h
  cases Hk q;cases hy;exact plain (hx.re.ν (ω pure (Qa.lf e)))
 ·clear h
  cases ty?_s e1;cases ty?_s e2;obtain⟨n1,rfl,h1⟩:=hx;obtain⟨n2,rfl,h2⟩:=hy;refine plain (ω pure (Eq.ν ?_ ((EO _ (kG h1) _ (kG h2)).Μ.ν e)));by_cases e:n1=n2
  ·refine eqE e ?_;simp
  ·simp only[x9.ϥ e,x9.ϥ (λq=>e (Zz.lf q))]
 ·clear plain
  cases top?_s e1;cases top?_s e2;obtain⟨a1,rfl,h1⟩:=hx;obtain⟨a2,rfl,h2⟩:=hy;refine(K.cM _ _ h1).ι λo1 zq25=>?_;refine(K.cM _ _ h2).ι λo2 zq24=>?_;refine Uo (S.ml _ _ zq25.1) (S.ml _ _ zq24.1) zq24.2 ?_;have e':(a1==a2)=(i==j):=by
   rw[Kq,χ,χ];exact⟨λq=>K.yq _ _ _ h1 (q▸h2),λq=>Qa.lf ((q▸h1:C.ad.Α j=Qa a1).Μ.ν h2)⟩
  rw[e',e];exact h
 ·cases top?_s e2
  obtain⟨b,rfl,h2⟩:=hy;subst e;cases x with
  |none=>subst hx;exact plain rfl
  |int i=>obtain⟨t,rfl⟩:=hx;exact plain rfl
  |ay vs=>
   clear plain
   refine(K.cM _ _ h2).ι λo zq22=>?_;obtain⟨ta,ot,n,ws,rfl,hg,hct,_,_,_⟩:=S.ay hx;refine Uo hg (S.ml _ _ zq22.1) zq22.2 ?_;rw[x9.ϥ λq=>zq22.2 (by rw[<-hct,Qa.lf ((q▸hg:s.Ν.sB b=Qa ot).Μ.ν (S.ml _ _ zq22.1))])];exact h
  |_=>cases q
def jD{C:bf}{d e:θ}(Y:kJ C d e)(s:Qg)(vx vy:μ)(r:Ζ):Prop:=
 ∀(Q:μ->Qg->Prop)(E:μ->Qg->Prop),((∀tk,Q (.ϯ r) {s with toks:=tk})->Qh C.M Y.A (compareOp .In vx vy) Q E s)/\((∀tk,Q (.ϯ (!r)) {s with toks:=tk})->Qh C.M Y.A (compareOp .NotIn vx vy) Q E s)
def one?_s{s:ζ θ}{c:θ}(h:one? s=Qa c):s=[c]:=by
 cases s with
 |Ϝ=>exact ag h
 |Ι a r=>
  cases r with
  |Ϝ=>refine soB h ?_;rfl
  |Ι _ _=>exact ag h
def CE(S:St Y k w H s){x y:ab}{r:Ζ}(hx:jL C w x vx)(hy:jL C w y vy):F0 H x y=Qa r->jD Y s vx vy r:=by
 have hu:∀{a b:θ},a<=7->Y.A.units+1+min a b<cLine:=λh=>by rw[J8];exact Y.u (Jn (Js (Jn (KU _ _) h) 1) (by decide))
 refine lB (j1 λt e1=>kL λc e2 e=>?_) (lB (j1 λvs e1=>j1 λds e2=>kL λdx e3 e=>?_) (lB (j1 λvs e1=>j1 λds e2=>kL λdx e3 e=>?_) (j1 λp e1=>l6 λhf e=>?_)))
 ·obtain⟨x',e3,e2⟩:=bs e2
  cases one?_s e2;refine(hx.str? e3).ι λu zq19=>?_;obtain rfl:=zq19.1;refine(hy.str? e1).ι λt' zq18=>?_;refine eqB zq18.1 ?_;have hc:t.Tc c=decide (c∈t):=by rw[Kq,Yo,f8]
  simp only[<-e,hc];refine λQ E=>⟨λh=>in_str ?_,λh=>notIn_str ?_⟩
  ·rw[show (⟨[c].υ⟩:ld)=⟨#[c]⟩ from rfl,(StrLaws.found_one ⟨t.υ⟩ c)]
   exact h s.zn
  ·rw[show (⟨[c].υ⟩:ld)=⟨#[c]⟩ from rfl,(StrLaws.found_one ⟨t.υ⟩ c)]
   exact h s.zn
 ·cases tup?_s e1
  obtain⟨t,o,n,ws,rfl,ho,hc,hd,rr,_⟩:=S.ay hy;obtain⟨as,ra,c1,d1⟩:=tK (nM S 7) rr e2;obtain⟨bs,rb,c2,d2⟩:=nM S 7 x vx dx hx e3;rw[<-e];exact λQ E=>⟨λh=>SeqAt.in_tuple_reads (.tuple ho hc hd ra:Reads s.Ν (.ξ t) (.tuple ds) as) rb c1 c2 (hu d1) (h s.zn),λh=>SeqAt.notIn_tuple_reads (.tuple ho hc hd ra:Reads s.Ν (.ξ t) (.tuple ds) as) rb c1 c2 (hu d1) (h s.zn)⟩
 ·obtain⟨t,ws,n,rfl,ho,rr,_⟩:=S.ο hy e1
  obtain⟨as,ra,c1,d1⟩:=tK (nM S 7) rr e2;obtain⟨bs,rb,c2,d2⟩:=nM S 7 x vx dx hx e3;rw[<-e];exact λQ E=>⟨λh=>SeqAt.in_list_reads (.ο ho rfl rfl ra) rb c1 c2 (hu d1) (h s.zn),λh=>SeqAt.notIn_list_reads (.ο ho rfl rfl ra) rb c1 c2 (hu d1) (h s.zn)⟩
 ·refine(S.Υ hy e1).ι λi zq11=>?_
  obtain⟨b,n,es,rfl,hmod,_,hg,hdr,_,_⟩:=zq11.2;rw[<-Qa.lf e];rcases oR (Jo.mp hf).1 with ⟨q,rfl⟩| ⟨q,rfl⟩
  ·obtain⟨kvs,D⟩:=hdr.atom hf
   rw[(D.Mi q).ϟ];exact λQ E=>⟨λh=>wpAny_in_of hx.atom.1 hmod (D.Rs hg).mapOf (h _),λh=>wpAny_notIn_of hx.atom.1 hmod (D.Rs hg).mapOf (h _)⟩
  ·obtain⟨xs,D⟩:=hdr.oh hf
   obtain⟨t,rfl,ht⟩:=S.gn hx;simp only[(D.Mi q).ϟ,YP];exact λQ E=>⟨λh=>wpAny_in_heap Y.room ht hmod (D.Rs S hg) (h _),λh=>wpAny_notIn_heap Y.room ht hmod (D.Rs S hg) (h _)⟩
def AI{op:CmpOp}(K:uY C)(S:St Y k w H s){x y:ab}(hx:jL C w x vx)(hy:jL C w y vy):cf Y k (VR C) (compareOp op vx vy) w s ((mX (Ep op) x y H).π λr=>(.ϯ r,H)):=by
 refine .ji λr e=>.KT S λQ E q=>?_;have h:∀tk,Q (.ϯ r) {s with toks:=tk}:=λtk=>q _ tk rfl;have h0:=h s.zn;have cmpQ:∀{f:Φ->Φ->Ζ}{t:Sem μ},Nf x y f=Qa r->(∀a b t1 t2,vx=.Β a t1->vy=.Β b t2->r=f a b->Qh C.M Y.A t Q E s)->Qh C.M Y.A t Q E s:=λe g=>by
  refine xEA (bs e) λa e1 e=>?_;obtain⟨b,e2,rfl⟩:=ms e;obtain⟨t1,q1⟩:=hx.xz e1;obtain⟨t2,q2⟩:=hy.xz e2;exact g a b t1 t2 q1 q2 rfl
 cases op with
 |Eq=>exact(LA S hx hy e Q E).1 h0
 |NotEq=>
  obtain⟨q,hq,rfl⟩:=ms e;exact(LA S hx hy hq Q E).2 h0
 |Lt=>exact cmpQ e λa b t1 t2 e1 e2 e3=>by subst e1 e2 e3;exact lt_int h0
 |LtE=>exact cmpQ e λa b t1 t2 e1 e2 e3=>by subst e1 e2 e3;exact le_int h0
 |Gt=>exact cmpQ e λa b t1 t2 e1 e2 e3=>by subst e1 e2 e3;exact gt_int h0
 |GtE=>exact cmpQ e λa b t1 t2 e1 e2 e3=>by subst e1 e2 e3;exact ge_int h0
 |In=>exact(CE S hx hy e Q E).1 h
 |NotIn=>
  obtain⟨q,hq,rfl⟩:=ms e;exact(CE S hx hy hq Q E).2 h
 |Is=>exact Qb (CD K S hx hy (Qf h0) e)
 |IsNot=>
  obtain⟨q,hq,rfl⟩:=ms e;exact Qb (CD K S hx hy (Qf h0) hq)
end
section
variable{w:Qm}
def LL{d:Qk}{Q:μ->Qg->Prop}(hd:(d==sysModules)=Qc)(ho:s.Ν.sB d=Qa (Qn es ep))
  (hQ:Q (.ξ s.Ν.wi.Ϡ) {s with heap:=s.Ν.Te {cls:= .AT "dict_keyiterator",data:= .sn #[.ξ d,.Β 0 0,.Β es.ε 0,.Β ep 0]} }):
  Qh (model prog w) A (pyIter (.ξ d)) Q E s:=by
 refine wpAny_pyIter_slot (⟨_,ho,rfl⟩) F.slot_dict_iter (Qq F.slot_dict_iter (⟨_,ho,rfl⟩) F.entry_dict_iter ?_ (F.args_dict_iter_1 _));unfold wT.«dict.__iter__»;refine Qb ?_;delta wT.Dict.dictSlotNone;refine Qb (Qw (⟨_,ho,rfl⟩) ?_);show Qh _ _ (pure (YX d)) _ _ s;refine Qf ?_;show Qh _ _ (wT.Dict.showsAll d>>=_) _ _ s;delta wT.Dict.showsAll;rw[τ (by rw[hd];exact JQ)];exact Qb (Qf (Qb (Qp ho rfl (Qb (QF ho rfl (Qb (QC (Qf ⟨_,rfl,"dict_keyiterator",_,⟨_,wS.Tn _ rfl,rfl⟩,F.Tp.Α,hQ⟩))))))))
def Wa{it d:Qk}{Q:η μ->Qg->Prop}(hh:A.v4=Qd)(hit:s.Ν.IsKeyIter it d i es.ε ep)(hod:s.Ν.sB d=Qa (Qn es ep))
  (h1:∀e h',es[i]?=Qa e->h'.IsKeyIter it d (i+1) es.ε ep->wS.v6 it s.Ν h'->Q (Qa e.key) {s with heap:=h'})
  (h2:∀h',es[i]?=Qd->wS.ExtBut it s.Ν h'->Q Qd {s with heap:=h'}):Qh (model prog w) A (pyNext (.ξ it)) Q E s:=by
 refine Zx (id hit) λo zq23=>?_;delta pyNext;refine Qb (wpAny_attempt (LT (name:=ld.ofString "__next__") hit.wn F.Tp
  (Qq F.Tp hit.wn F.entry_dict_keyiterator_next ?_ (F.args_dict_keyiterator_next_1 _))))
 refine Qb (Qf ?_);refine Qb ?_;refine Qb ?_
 first|refine Qb (Qt hit.wn (Qf ?_))|refine Qb (Qy hit.wn (Qf ?_))
 refine Qb (wpAny_fieldsOf zq23.1 zq23.2.2 ?_);rw[τ (by decide: ¬(wT.Dict_items.ownsTuple "dict_keyiterator"=Qe))];refine wN (JQ) ?_;refine Qb (Qf ?_);refine Qb (Qp hod rfl ?_);refine wN (by simp) ?_;refine Qb (Qf ?_);refine Qb (QF hod rfl ?_);refine wN (by simp) ?_;refine Qf ?_;refine AZ (es[i]?) (λhx=>?_) λe hx=>?_
 ·have hx':es.υ[i]?=none:=by rw[ZZ];exact hx
  dsimp only
  rw[τ (by lia),KR,hx']
  dsimp only
  refine Qb ?_
  first|refine Qb (Qt hit.wn (Qf ?_))|refine Qb (Qy hit.wn (Qf ?_))
  show Qh _ _ (setField (.ξ it) 0 .Ε>>=_) _ _ s;refine Qb (wpAny_setField zq23.1 zq23.2.2 (by simp) ?_);refine Qb ?_;delta newExc newTuple;refine Qb (QC ?_ (by size_fits));refine Qb (m:=firstArgMember _ _) (wpAny_of_eq (a:=KH) (by first|rfl|(simp only[firstArgMember];rfl)) ?_);refine QC ?_ (by size_fits);delta raiseNew;refine Qb (wpAny_handled ?_);rw[show A.in1.v4=Qd from hh];refine Qb (Qf (wpAny_throw ?_));exact Qb (QJ (T:="StopIteration") (b:=Qe) ⟨_,wS.Tn _ rfl,rfl⟩ isSubtype_stop (Qf (h2 _ hx (((wS.v6.Db ..).extBut.Te _).Te _))))
 ·dsimp only
  rw[τ (by lia),KR,(by rw[ZZ];exact hx:es.υ[i]?=Qa e)]
  dsimp only
  refine Qb ?_
  first|refine Qb (Qt hit.wn (Qf ?_))|refine Qb (Qy hit.wn (Qf ?_))
  refine Qb (QV hit.wn ?_);show Qh _ _ (setField (.ξ it) 1 (rawInt ((i:Φ)+1))>>=_) _ _ s;refine Qb (wpAny_setField zq23.1 zq23.2.2 (by simp) ?_);have hit':(s.Ν.Db it (Go.mapFields (·.w8 1 (rawInt ((i:Φ)+1))))).IsKeyIter it d (i+1) es.ε ep:=
   ⟨_,K3 _ zq23.1 (Go.isFreed_of_fields (Go.data_mapFields zq23.2.2 _)),(Go.cls_mapFields ..).ν zq23.2.1,by rw[Go.data_mapFields zq23.2.2];simp [rawInt]⟩
  refine Qb (Qj ?_);refine Qb (QV (s:={s with heap:=s.Ν.Db it (Go.mapFields (·.w8 1 (rawInt ((i:Φ)+1))))}) hit'.wn ?_);exact Qf (Qf ⟨_,rfl,Qf (h1 e _ hx hit' (wS.v6.Db ..))⟩)
end
abbrev Kp.TA(k:Kp)(p:Qk×Go):Kp:= {k with ex:=p::k.ex}
def nE(k:Kp)(w:Wd)(os:ζ bw)(p:Qk×Go):((k.TA p).Hd w os).No (p::k.Hd w os):=by
 have:=Yu (a:=p) (l₁:=os.pt++(w.tp++k.ce)) (l₂:=k.ex)
 rw[JA,JA,JA,JA] at this;exact this
section
variable{o':Obj}
def cb.jb(S:cb C h₀ L k w H h)(o:Go)(hf:o.isFreed=Qc):cb C h₀ L (k.TA (h.wi.Ϡ,o)) w H (h.Te o):=by
 obtain⟨os,he,hn,hd⟩:=S.os;exact⟨S.fr.Te o,⟨os,he,λp hp=>hn.Te S.fr o hf p ((nE k w os _).tz.mp hp),bw.nd.je (nE k w os (h.wi.Ϡ,o)).Μ (Gs (qP _) hd (Tu.fresh hn λp hp=>JD.mp hp▸Jv _))⟩,S.og,S.lo⟩
def cb.fi(S:cb C h₀ L (k.TA (b,o)) w H h):h.sB b=Qa o/\b≠L/\h₀.sB b=none:=by
 obtain⟨os,he,hn,hd⟩:=S.os;exact hn (b,o) ((nE k w os (b,o)).tz.ϥ (.mo _))
theorem Fr.sameBut(F:Fr h₀ L h m)(hs:wS.v6 b h h')(g:b≠L/\h₀.sB b=Qd):Fr h₀ L h' m:=
 ⟨F.ns.sameBut hs (Kc g.1),λc x e=>(hs.2 c λq=>by rw[q,g.2] at e;cases e).ν (F.keep c x e),F.above⟩
def cb.iz(S:cb C h₀ L (k.TA (b,o)) w H h)(hs:wS.v6 b h h')(ho:h'.sB b=Qa o'):cb C h₀ L (k.TA (b,o')) w H h':=by
 obtain⟨os,he,hn,hd⟩:=S.os;have hd':=JH.mp (bw.nd.je (nE k w os (b,o)) hd);refine⟨Fr.sameBut S.fr hs S.fi.2,⟨os,he,λp hp=>?_,bw.nd.je (nE k w os (b,o')).Μ (JH.ϥ hd')⟩,S.og,S.lo⟩;rcases JM.mp ((nE k w os (b,o')).tz.mp hp) with e|hp
 ·rw[e];exact⟨ho,S.fi.2⟩
 ·have:=hn p ((nE k w os (b,o)).tz.ϥ (.pc _ hp))
  exact⟨(hs.2 p.1 λe=>hd'.1 (JL.ϥ ⟨p,hp,e⟩)).ν this.1,this.2⟩
def cb.gj(S:cb C h₀ L (k.TA (b,o)) w H h)(hx:wS.ExtBut b h h'):cb C h₀ L k w H h':=by
 have g:=S.fi;obtain⟨os,he,hn,hd⟩:=S.os;have hd':=JH.mp (bw.nd.je (nE k w os (b,o)) hd);refine⟨⟨S.fr.ns.extBut hx (Kc g.2.1),λc x e=>hx c x (λq=>by rw[q,g.2.2] at e;cases e) (S.fr.keep c x e),S.fr.above⟩,⟨os,he,λp hp=>?_,hd'.2⟩,S.og,S.lo⟩
 have:=hn p ((nE k w os (b,o)).tz.ϥ (.pc _ hp))
 exact⟨hx p.1 p.2 (λe=>hd'.1 (JL.ϥ ⟨p,hp,e⟩)) this.1,this.2⟩
def cb.ki{p q:Qk×Go}(S:cb C h₀ L ((k.TA q).TA p) w H h):cb C h₀ L ((k.TA p).TA q) w H h:=by
 obtain⟨os,he,hn,hd⟩:=S.os;have hp:(((k.TA p).TA q).Hd w os).No (((k.TA q).TA p).Hd w os):=ζ.No.append_left _ (ζ.No.append_left _ (ζ.No.append_left _ (ζ.No.swap p q k.ex)));exact⟨S.fr,⟨os,he,λr hr=>hn r (hp.tz.mp hr),bw.nd.je hp.Μ hd⟩,S.og,S.lo⟩
def cb.vj{m:ae}(S:cb C h₀ L (k.TA (b,o)) w H h)(h4:4<=b)(hr:uN C ⟨w.σ++[b],w.tp⟩ b m [(b,o)]):cb C h₀ L k ⟨w.σ++[b],w.tp⟩ (H++[m]) h:=by
 obtain⟨os,he,hn,hd⟩:=S.os;have hp:=(nE k w os (b,o)).ν (Wf k w b [(b,o)] os);exact⟨S.fr,⟨os++[[(b,o)]],rU.xl hr (rU.Τ (w:=w) (w':=⟨w.σ++[b],w.tp⟩) ⟨Zk _ _,λ_ x=>x⟩ he),λp hp'=>hn p (hp.tz.ϥ hp'),bw.nd.je hp hd⟩,S.og,S.ub h4⟩
end
inductive NM(io:Go)(T:Tm)(v:μ)(i:θ):Prop
 |mk(c:io.cls=.AT T)(d:io.Ta=.sn #[v,.Β (i:θ) 0]):NM io T v i
inductive zaH(io:Go)(x:ζ θ)(i:θ):Prop
 |mk (T:Tm) (t:Tok) (h:T="str_ascii_iterator"\/T="str_iterator") (q:NM io T (.Ϥ ⟨x.υ⟩ t) i):zaH io x i
inductive zaJ(io:Go)(n:Φ)(i:θ):Prop
 |mk (left:Φ) (h1:0<left ↔ (i:Φ)<n) (h2:0<left->left=n-i) (e:io= {cls:= .AT "range_iterator",dict:=Qd,data:= .sn #[rawInt (i:θ),rawInt left,rawInt 1],slots:= #[]}):zaJ io n i
def pE(C:bf)(w:Wd)(io:Go)(i:θ)(k:It):Prop:=It.Δ (motive:=λ_=>Prop) k
 (λa=> ∃la,w.σ[a]?=Qa la/\NM io "list_iterator" (.ξ la) i)
 (λmvs=> ∃ta,jL C w (.ay mvs) (.ξ ta)/\NM io "tuple_iterator" (.ξ ta) i)
 (λa n ep=> ∃la,w.σ[a]?=Qa la/\io.cls= .AT "dict_keyiterator"/\io.Ta= .sn #[.ξ la,.Β (i:θ) 0,.Β (n:θ) 0,.Β (ep:θ) 0])
 (λx=>rx x/\zaH io x i)
 (λn=>zaJ io n i)
 (λmvs=> ∃la,jL C w (.fl mvs) (.ξ la)/\NM io "list_iterator" (.ξ la) i)
theorem pE.Τ(l:w.le w'){k:It}:pE C w io i k->pE C w' io i k:=
 It.Δ (motive:=λk=>pE C w io i k->pE C w' io i k) k (λ_ h=>h.ι λla h=>⟨la,l.Mi h.1,h.2⟩) (λ_ h=>h.ι λla h=>⟨la,h.1.Τ l,h.2⟩) (λ_ _ _ h=>h.ι λla h=>⟨la,l.Mi h.1,h.2⟩) (λ_ h=>h) (λ_ h=>h) (λ_ h=>h.ι λla h=>⟨la,h.1.Τ l,h.2⟩)
section
variable{cx:CC}{fr:Frame}
def qK.gi(h:qK C w mes es):es.ε=mes.ε/\∀(i:θ)(p:ab×ab),mes[i]?=Qa p->∃e:Qi,es[i]?=Qa e/\jL C w p.1 e.key:=by
 rcases h with ⟨kvs,D⟩| ⟨xs,D⟩
 ·have l1:=yL D.e
  have l2:=D.p.ε;refine⟨by lia,λi p hp=>?_⟩;have hik:i<kvs.ε:=Ju ((Jy.mp hp).1:i<mes.ε) (JF l1);have hie:i<es.ε:=Ju hik (JF (XJ l2));refine⟨es[i],Jp hie,?_⟩;have hk:=(D.p.sB (i:=i) (Jp hie) (Jp hik)).1;have he:(mes.π (·.1))[i]?=(kvs.π λp=>p.1.KT)[i]?:=by rw[D.e]
  rw[JE,JE,hp,Jp hik] at he;rw[show p.1=kvs[i].1.KT from Qa.lf he];have hok:=D.ok kvs[i] (Zt hik)
  generalize kvs[i].1=a at hk hok
  cases a with
  |i z=>exact Ki hk
  |s x=>
   obtain⟨t,ht⟩:=Kd hk;exact⟨t,ht,hok⟩
 ·have l1:=yL D.e
  refine⟨by rw[D.es,Jq,l1],λi p hp=>?_⟩;have hik:i<xs.ε:=l1▸(Jy.mp hp).1;refine⟨entryOfKey (tupleKind (kA C.prog C.w)) xs[i],by rw[D.es,JE,Jp hik];rfl,?_⟩;have he:(mes.π (·.1))[i]?=(xs.π λx=>ab.ay (x.1.π ai.KT))[i]?:=by rw[D.e]
  rw[JE,JE,hp,Jp hik] at he;rw[show p.1=_ from Qa.lf he];exact D.v xs[i] (Zt hik)
def LM{n:Φ}(h1:n<=bg)(h2: -(bg:Φ)<=n):wT.Range.small 0 n 1=true:=by
 have hl:(bg:Φ)=1000000:=rfl;refine small_one ?_ ?_ ?_ ?_<;>lia
def Wb(n:Φ):(0<Yg 0 n 1 ↔ 0<n)/\(0<Yg 0 n 1->Yg 0 n 1=n):=by
 delta Yg;simp only[gt_iff_lt,Φ.zero_lt_one,if_true];split
 ·rename_i h
  refine⟨?_,?_⟩<;>lia
 ·rename_i h
  refine⟨?_,?_⟩<;>lia
def Lw(S:St Y k w H s){v:ab}(hv:jL C w v rv){Q:μ->Qg->Prop} 
  (h:∀I io h',cb C Y.h₀ Y.L (k.TA (I,io)) w H h'->pE C w io 0 z->Q (.ξ I) {s with heap:=h'}):oZ H v=Qa z->Qh C.M Y.A (pyIter rv) Q E s:=by
 refine lB (j1 λn e1=>l6 λhn e=>?_) (lB (j1 λa e1=>lB (kL λvs e2 e=>?_) (j1 λp e2=>kL λep e3 e=>?_)) (lB (kL λvs e1 e=>?_) (lB (kL λx e1 e=>?_) (kL λvs e1 e=>?_))))
 ·obtain rfl:=Qa.lf e;cases rng?_s e1
  obtain⟨r,t,u,v,rfl,hr⟩:=hv;exact wpAny_pyIter_range (S.uq hr) (LM (Ξ (Jo.mp hn).1) (Ξ (Jo.mp hn).2)) (h _ _ _ (S.jb _ rfl) ⟨_,(Wb n).1,λhh=>((Wb n).2 hh).ν (Φ.sub_zero n).Μ,rfl⟩)
 ·subst e;cases ref?_s e1
  obtain⟨la,ws,n,rfl,ho,rr,hl⟩:=S.ο hv e2;exact Zx hv λ_ zq20=>QI (items:=ws.υ) ⟨_,ho,rfl,n,rfl⟩ (h _ _ _ (S.jb _ rfl) ⟨la,YX.lf zq20.1▸zq20.2,rfl,rfl⟩)
 ·subst e;cases ref?_s e1
  obtain⟨b,n,es,rfl,hmod,hep,hg,dr,_,_⟩:=S.jz hv e2;cases hep ep e3;exact Zx hv λ_ zq18=>LL hmod hg (h _ _ _ (S.jb _ rfl) ⟨b,YX.lf zq18.1▸zq18.2,rfl,by rw[<-dr.gi.1];rfl⟩)
 ·subst e;cases tup?_s e1
  obtain⟨t,o,n,ws,rfl,ho,hc,hd,rr,hl⟩:=S.ay hv;exact iter_tuple (items:=ws.υ) ⟨o,ho,hc,n,hd⟩ (h _ _ _ (S.jb _ rfl) ⟨t,hv,rfl,rfl⟩)
 ·subst e
  obtain⟨t,rfl,ok⟩:=hv.str? e1;refine wpAny_pyIter_strU (h _ _ _ (S.jb _ rfl) ⟨ok,strIterType ⟨x.υ⟩,t,?_,rfl,rfl⟩);delta strIterType;split
  ·exact .wv rfl
  ·exact .IO rfl
 ·subst e;cases fl?_s e1
  obtain⟨la,o,n,ws,rfl,q,rr,hl⟩:=id hv;exact QI (items:=ws.υ) ⟨o,S.ml _ _ q.TF,q.cls,n,q.Ta⟩ (h _ _ _ (S.jb _ rfl) ⟨la,hv,rfl,rfl⟩)
def zaI{C:bf}{d e:θ}(Y:kJ C d e)(k:Kp)(w:Wd)(H:MH)(s:Qg)(I:Qk)(i:θ)(z:It)(r:η ab)(Q:η μ->Qg->Prop):Prop:=(∀v rv io' h' tk,r=Qa v->cb C Y.h₀ Y.L (k.TA (I,io')) w H h'->pE C w io' (i+1) z->jL C w v rv->Q (Qa rv) {s with heap:=h',toks:=tk})/\∀h',r=Qd->cb C Y.h₀ Y.L k w H h'->Q Qd {s with heap:=h'}
section
variable{C:bf}{d e:Nat}{Y:kJ C d e}{k:Kp}{w:Wd}{H:MH}{s:Qg}{I:Qk}{i:Nat}{z:It}{r:Option ab}{Q:Option Value->Qg->Prop}(ψ:zaI Y k w H s I i z r Q)
def zaI.go:=@ψ.1
def zaI.fb:=@ψ.2
end
def z4{I:Qk}{r:η ab}{Q:η μ->Qg->Prop}(S:St Y (k.TA (I,io)) w H s)(rr:jI C w mvs vs)(er:mvs[i]?=r)(G:zaI Y k w H s I i z r Q)
  (item:∀x (Q:η μ->Qg->Prop),vs.υ[i]?=Qa x->(∀h' o',h'.sB I=Qa o'->pE C w o' (i+1) z->wS.v6 I s.Ν h'->Q (Qa x) {s with heap:=h'})->Qh C.M Y.A (pyNext (.ξ I)) Q (λ_ _=>False) s)
  (fb:∀(Q:η μ->Qg->Prop),vs.υ[i]?=Qd->(∀h',wS.ExtBut I s.Ν h'->Q Qd {s with heap:=h'})->Qh C.M Y.A (pyNext (.ξ I)) Q (λ_ _=>False) s) {E:μ->Qg->Prop}:Qh C.M Y.A (pyNext (.ξ I)) Q E s:=by
 refine Qr (Q:=Q) (E:=λ_ _=>False) ?_ (λ_ _ q=>q) (λ_ _ q=>q.ι);cases r with
 |none=>
  refine fb Q ?_ λh' he=>G.fb h' rfl (S.gj he);rw[ZZ,Z7,<-rr.ε];exact Z7.mp er
 |some v=>
  exact(rr.Mi er).ι λrv zq14=>item rv Q (by rw[ZZ];exact zq14.1) λh' o' g1 g2 hs=>G.go v rv o' h' _ rfl (S.iz hs g1) g2 zq14.2
def Lu{I:Qk}{r:η ab}(S:St Y (k.TA (I,io)) w H s)(R:pE C w io i z)(e:lP H i z=Qa r){Q:η μ->Qg->Prop}(G:zaI Y k w H s I i z r Q):Qh C.M Y.A (pyNext (.ξ I)) Q E s:=by
 have hI:=S.fi.1;cases z with
 |fs mvs=>
  obtain⟨la,hv,ic⟩:=R;have zq12:=id hv;obtain⟨_,o,n,vs,e1,q,rr,_⟩:=zq12;cases e1;have hl0:s.Ν.IsList la vs.υ:=⟨o,S.ml _ _ q.TF,q.cls,n,q.Ta⟩;exact z4 S rr (Qa.lf e) G (λx Q hx g=>QP ⟨io,hI,ic.1,ic.2⟩ hl0 hx λh' hit' hs=>hit'.ι λo' p=>g h' o' p.1 ⟨la,hv,p.2.1,p.2.2⟩ hs) (λQ hx g=>QW Y.v4 ⟨io,hI,ic.1,ic.2⟩ hl0 hx g)
 |ls a=>
  obtain⟨la,ha,ic⟩:=R;obtain⟨mvs,hm,er⟩:=ms e;obtain⟨_,ws,n,e1,ho,rr,hl⟩:=S.ο (x:=.ξ a) ⟨la,rfl,ha⟩ hm;cases e1;have hl0:s.Ν.IsList la ws.υ:=⟨_,ho,rfl,n,rfl⟩;exact z4 S rr er G (λx Q hx g=>QP ⟨io,hI,ic.1,ic.2⟩ hl0 hx λh' hit' hs=>hit'.ι λo' p=>g h' o' p.1 ⟨la,ha,p.2.1,p.2.2⟩ hs) (λQ hx g=>QW Y.v4 ⟨io,hI,ic.1,ic.2⟩ hl0 hx g)
 |tp mvs=>
  obtain⟨ta,ht,ic⟩:=R;have zq7:=S.ay ht;obtain⟨_,o,n,ws,e1,ho,hc,hd,rr,hl⟩:=zq7;cases e1;have hl0:IsTup s.Ν ta ws.υ:=⟨o,ho,hc,n,hd⟩;exact z4 S rr (Qa.lf e) G (λx Q hx g=>next_tuple_item ⟨io,hI,ic.1,ic.2⟩ hl0 hx λh' hit' hs=>hit'.ι λo' p=>g h' o' p.1 ⟨ta,ht,p.2.1,p.2.2⟩ hs) (λQ hx g=>next_tuple_end Y.v4 ⟨io,hI,ic.1,ic.2⟩ hl0 hx g)
 |sq x=>
  obtain⟨ok,T,t,hT,ic⟩:=R;have er:=Qa.lf e;refine AZ (x[i]?) (λhc=>?_) λc hc=>?_
  ·rw[hc] at er
   have hvs:(⟨x.υ⟩:ld).cps[i]?=none:=(ZZ).ν hc;rcases hT with rfl|rfl
   ·exact wpAny_pyNext_ascii_end Y.v4 ⟨io,hI,ic.1,ic.2⟩ hvs λh' he=>G.fb h' er.Μ (S.gj he)
   ·exact wpAny_pyNext_wide_end Y.v4 ⟨io,hI,ic.1,ic.2⟩ hvs λh' he=>G.fb h' er.Μ (S.gj he)
  ·rw[hc] at er
   have hck:∀u:Tok,jL C w (.Ϥ [c]) (.Ϥ ⟨#[c]⟩ u):=λu=>⟨u,rfl,λy hy=>JD.mp hy▸ok.1 c (Jt hc),(by decide:1<=bg)⟩;rcases hT with rfl|rfl
   ·exact wpAny_pyNext_ascii_item ⟨io,hI,ic.1,ic.2⟩ ((ZZ).ν hc) λh' hit' hs=>hit'.ι λo' p=>G.go (.Ϥ [c]) _ o' h' _ er.Μ (S.iz hs p.1) ⟨ok,_,t,.wv rfl,p.2.1,p.2.2⟩ (hck _)
   ·exact wpAny_pyNext_wide_item ⟨io,hI,ic.1,ic.2⟩ ((ZZ).ν hc) λh' hit' hs=>hit'.ι λo' p=>G.go (.Ϥ [c]) _ o' h' _ er.Μ (S.iz hs p.1) ⟨ok,_,t,.IO rfl,p.2.1,p.2.2⟩ (hck _)
 |dk a n ep=>
  refine Zx R λla zq6=>?_;obtain⟨p,e2,e3⟩:=bs e;obtain⟨hc,e4⟩:=gs e3;have er:=Qa.lf e4
  clear e e3 e4
  have hc:=Jo.mp hc;obtain⟨b,n',es,e1,hmod,hep,hg,dr,_,_⟩:=S.jz ⟨la,rfl,zq6.1⟩ e2;cases e1;obtain⟨hlen,hget⟩:=dr.gi;cases hep ep (χ.mp hc.1);have hn:n=es.ε:=(χ.mp hc.2).Μ.ν hlen.Μ;subst hn;refine Wa Y.v4 ⟨io,hI,zq6.2.1,zq6.2.2⟩ hg (λde h' hde hit' hs=>?_) λh' hde he=>G.fb h' ?_ (S.gj he)
  ·cases hv:p.2[i]? with
   |none=>rw[Z7] at hv;rw[Z7.ϥ (Jn (JF hlen) hv)] at hde;cases hde
   |some q=>
    refine xEA (hget i q hv) λde' hde' hr=>?_;rw[hde] at hde';cases hde';rw[hv] at er;exact Zx hit' λo' zq1=>G.go q.1 de.key o' h' s.zn er.Μ (S.iz hs zq1.1) ⟨la,zq6.1,zq1.2.1,zq1.2.2⟩ hr
  ·rw[<-er,Z7.ϥ (by rw[<-hlen];exact Z7.mp hde)];rfl
 |rg n=>
  obtain⟨left,hl,hl2,rfl⟩:=R;have er:=Qa.lf e;cases hin:decide ((i:Φ)<n) with
  |true=>
   rw[hin] at er;refine wpAny_pyNext_range_item hI (hl.ϥ (Ξ hin)) λh' hit' hs=>G.go (.Β i) _ _ h' _ er.Μ (S.iz hs hit') ?_ ⟨_,rfl⟩
   have:=hl2 (hl.ϥ (Ξ hin))
   have e1:left-1=n-((i+1:θ):Φ):=(ω (· -1) this).ν (Φ.sub_sub n i 1);exact⟨left-1,by rw[e1];exact Φ.sub_pos,λ_=>e1,rfl⟩
  |false=>
   rw[hin] at er;exact wpAny_pyNext_range_end Y.v4 hI (YY.mp λq=>ς (hl.mp q) (of_decide_eq_false hin)) λh' he=>G.fb h' er.Μ (S.gj he)
end
def Sy(e:ϝ):Prop:=(∀rest env,starEach (e::rest) env=(Qc,Ρ.eval e env)::starEach rest env)/\(∀o i,subscripted e Qc o i=operate [o,i] (getItem o i))/\(∀op,behindInMarks op e=Qc)/\(∀env x,foldedSetIterable e env x=pure x)/\(pV e=Qc->∀t n env,swapsWith e t n env=pure Qc)
section
variable{e:Expr}(ψ:Sy e)
def Sy.xi:=@ψ.1
def Sy.Ix:=@ψ.2.1
def Sy.ny:=@ψ.2.2.1
def Sy.yl:=@ψ.2.2.2.1
def Sy.swap:=@ψ.2.2.2.2
end
def Sd(C:bf)(d:θ)(cx:CC)(e:ϝ)(ir:Ex):Prop:=mD C d cx e ir/\y9 C d cx e ir/\Sy e
section
variable{C:bf}{d:Nat}{cx:CC}{e:Expr}{ir:Ex}(ψ:Sd C d cx e ir)
def Sd.es:=@ψ.1
def Sd.ts:=@ψ.2.1
def Sd.sy:=@ψ.2.2
end
abbrev lx(C:bf)(d:θ)(cx:CC):ζ ϝ->ζ Ex->Prop:=lO (Sd C d cx)
def zf6(C:bf)(d:θ)(cx:CC)(es:ζ ϝ)(irs:ζ Ex):Prop:=
 ∀(Y:kJ C d 2)(env:Env)(k:Kp)(mE:ld->η μ)(fr:Λ)(w:Wd)(H:MH)(s:Qg)(pos:Pos),Pl Y cx env k mE fr w H s->cf Y k (jA C) (spliced (backTo pos (starEach es env))) w s (qC (C.cx d) irs fr H)
section
variable{cx:CC}{fr:Frame}
theorem Dn{e:ϝ}{ir:Ex}(h:mD C d cx e ir)(he:∀(env:Env)(whole:Sem μ),Ρ.isTrue e env whole=(do let v<-whole;standAt e.pos;holding [v] (Ρ.truthy v))):y9 C d cx e ir:=
 λY env k mE fr w H s p r=>jM λx H1 e1=>kL λb e2 e=>e▸λQ E hq=>isTrue_plain (h Y env k mE fr w H s p _ e1 _ _ λw1 a1 s1 n1 r1=>u7 n1.st r1 e2 λtk=>hq w1 b _ (n1.ν (.zn n1.st tk)) rfl) (he _ _)
def lL{es:ζ ϝ}{irs:ζ Ex}(h:lx C d cx es irs):(backTo pos (starEach es env)).any (·.1)=false:=by
 induction h with
 |Ϝ=>rfl
 |Ι h _ ih=>rw[h.sy.xi];exact ih
def qZ{c:Cx}{irs:ζ Ex}:∀{H:MH}{r:ζ ab×MH},qC c irs fr H=Qa r->r.1.ε=irs.ε:=by
 induction irs with
 |Ϝ=>intro H r h;refine lV h ?_;rfl
 |Ι e irs ih=>exact λ{H r} =>jM λv h1 e1=>jM λvs h2 e2 e=>Qa.lf e▸ω (· +1) (ih e2)
def r0{es:ζ ϝ}{irs:ζ Ex}(h:lx C d cx es irs):zf6 C d cx es irs:=by
 induction h with
 |Ϝ=>intro Y env k mE fr w H s pos p r e;refine lV e ?_;exact λQ E hq=>args_nil (hq w [] s (.TC p.st) .Ϝ)
 |Ι h _ ih=>
  intro Y env k mE fr w H s pos p r;refine jM λv H1 e1=>jM λvs H2 e2 e=>?_;refine lV e ?_;exact λQ E hq=>args_cons (h.es Y env k mE fr w H s p _ e1 _ _ λw1 a1 s1 n1 r1=>ih Y env k mE fr w1 H1 s1 pos (p.ϫ n1) _ e2 _ _ λw2 a2 s2 n2 r2=>hq w2 _ s2 (n1.ν n2) (.Ι (r1.Τ n2.le) r2)) (h.sy.xi _ _)
def jc.uv (S:St Y k w H s) (r:jI C w mvs vs) (hl:mvs.ε<=bg): ∃w',jc Y k w w' H s {s with heap:=s.Ν.Te {cls:= .AT "tuple",data:= .seq vs.υ} } /\jL C w' (.ay mvs) (.ξ s.Ν.wi.Ϡ):=by
 obtain⟨all,hn,_,tp,_⟩:=S.dz;have le:w.le ⟨w.σ,(s.Ν.wi.Ϡ,({cls:= .AT "tuple",data:= .seq vs.υ}:Go))::w.tp⟩:=⟨KZ _,λ_ x=> .pc _ x⟩;exact⟨_,⟨le,tp _ _ _ (S.fr.Te _) (hn.Te S.fr _) (Jv _),rfl,rfl⟩,_,_,0,vs,rfl,⟨.wv (.mo _),rfl,rfl⟩,r.Τ le,hl⟩
def Fb{es:ζ ϝ}{irs:ζ Ex}(h:lx C d cx es irs)(hi:ZD es.ε 1000=Qe):mD C d cx (.Tuple es n pos) (.ay irs):=by
 intro Y env k mE fr w H s p r;refine jM λvs H1 e1 e=>?_;refine lV e ?_;have hl:vs.ε<=bg:=by rw[qZ e1,h.ε];exact Jn (Zn.mp hi) (by decide)
 refine λQ E hq=>wpAny_Tuple (r0 h Y env k mE fr w H s pos p _ e1 _ _ λw1 a1 s1 n1 r1=>⟨by rw[<-r1.ε];exact Jn hl l8,?_⟩);exact(jc.uv n1.st r1 hl).ι λw2 zq26=>hq w2 _ _ (n1.ν zq26.1) zq26.2
def CB{es:ζ ϝ}{irs:ζ Ex}(h:lx C d cx es irs)(hi:ZD es.ε 1000=Qe):mD C d cx (.ζ es pos) (.ο irs):=by
 intro Y env k mE fr w H s p r;refine jM λvs H1 e1 e=>?_;have hl:vs.ε<=bg:=by rw[qZ e1,h.ε];exact Jn (Zn.mp hi) (by decide)
 refine λQ E hq=>wpAny_List (r0 h Y env k mE fr w H s pos p _ e1 _ _ λw1 a1 s1 n1 r1=>⟨by rw[<-r1.ε];exact Jn hl l8,?_⟩);obtain rfl:=Qa.lf e;obtain⟨all,hn,add,_,_⟩:=n1.st.dz;exact hq _ _ _ (n1.ν ⟨(⟨Zk _ _,λ_ x=>x⟩:w1.le ⟨w1.σ++[s1.Ν.wi.Ϡ],w1.tp⟩),add _ (.ο vs) [_] _ ⟨a1,0,rfl,r1.Τ (⟨Zk _ _,λ_ x=>x⟩:w1.le ⟨w1.σ++[s1.Ν.wi.Ϡ],w1.tp⟩),hl⟩ (n1.st.fr.Te _) (hn.Te n1.st.fr _) (qP _) (Tu.fresh hn λp hp=>JD.mp hp▸Jv _) (n1.st.ou (Jv _)),rfl,rfl⟩) ⟨_,rfl,by rw[<-n1.st.lv];exact Zi⟩
def My{i:ab}(hv:jL C w i v)(h:pu n i=Qa j):∃z t,v=.Β z t/\0<=z/\z<n/\j=z.Th:=by
 refine xEA (bs h) λz e1 h=>?_;refine xA (gs h) λhb e=>?_;exact(hv.xz e1).ι λt zq23=>⟨z,t,zq23,Ξ (Jo.mp hb).1,Ξ (Jo.mp hb).2,(Qa.lf e).Μ⟩
def zbz{z:Φ}(h0:0<=z)(h1:z<n):seqIndex? z n=Qa z.Th:=by
 unfold seqIndex?;simp only[τ (YY.ϥ h0)];exact(φ (Jo.ϥ ⟨Γ h0,Γ h1⟩))
def Cz{sl:ϝ}(hsl:Sy sl)(S:St Y k w H s){x y:ab}(hx:jL C w x vx)(hy:jL C w y vy):cf Y k (VR C) (subscriptTail value sl vx vy) w s ((kR H x y).π λv=>(v,H)):=by
 refine .ji λv e=>.KT S λQ E h=>?_;have lst:∀{b:Qk}{mvs:ζ ab}{ws:ζ μ},s.Ν.IsList b ws.υ->jI C w mvs ws->mvs.ε<=bg->vx=.ξ b->(pu mvs.ε y).Η (λj=>mvs[j]?)=Qa v->Qh C.M Y.A (subscriptTail value sl vx vy) Q E s:=by
  intro b mvs ws hL rr hl e1 e;refine xEA (bs e) λj hj e=>?_;obtain⟨z,t,rfl,h0,h1,rfl⟩:=My hy hj;refine(rr.Mi e).ι λrv zq17=>?_;have hl':=sC hl;subst e1;exact tail_any hL.wn slot_list_getitem.Α (wpAny_getItem_list hL h0 (qaP h1 hl') (by rw[ZZ];exact zq17.1) (h rv s.zn zq17.2)) (hsl.Ix _ _)
 revert e
 refine lB (j1 λvs e1=>j1 λj hj e=>?_) (lB (j1 λvs e1 e=>?_) (lB (j1 λvs e1 e=>?_) (j1 λp e1=>l6 λhf e=>?_)))
 ·cases tup?_s e1
  obtain⟨z,t,rfl,h0,h1,rfl⟩:=My hy hj;obtain⟨b,o,n,ws,rfl,ho,hc,hd,rr,hl⟩:=S.ay hx;exact(rr.Mi e).ι λrv zq13=>item_tupleT (l:=ws) ⟨o,ho,hc,n,hd⟩ (by lia) (qaP h1 (sC hl)) (zbz h0 (by rw[<-rr.ε];exact h1)) zq13.1 (h rv s.zn zq13.2) (hsl.Ix _ _)
 ·cases fl?_s e1
  obtain⟨b,o,n,ws,e2,q,rr,hl⟩:=hx;exact lst ⟨o,S.ml _ _ q.TF,q.cls,n,q.Ta⟩ rr hl e2 e
 ·obtain⟨b,ws,n,e2,ho,rr,hl⟩:=S.ο hx e1
  exact lst ⟨_,ho,rfl,n,rfl⟩ rr hl e2 e
 ·refine(S.Υ hx e1).ι λi zq8=>?_
  obtain⟨b,n,es,rfl,_,_,hg,hdr,_,_⟩:=zq8.2;rcases oR (Jo.mp hf).1 with ⟨q,rfl⟩| ⟨q,rfl⟩
  ·refine(hdr.atom hf).ι λkvs zq7=>?_
   have D:=zq7;have hD:=D.Rs hg;rcases D.Mi q with ⟨q1,_⟩| ⟨mv,rv,q1,q2,q3⟩
   ·exact ag (q1.Μ.ν e)
   ·cases q1.Μ.ν e
    exact tail_any hD.wn slot_dict_getitem.Α (wpAny_getItem_of hy.atom.1 hD.mapOf q2 (h rv _ q3)) (hsl.Ix _ _)
  ·obtain⟨xs,D⟩:=hdr.oh hf
   obtain⟨t,rfl,ht⟩:=S.gn hy;rcases D.Mi q with ⟨q1,_⟩| ⟨mv,rv,q1,q2,q3⟩
   ·exact ag (q1.Μ.ν e)
   ·cases q1.Μ.ν e
    obtain⟨pp,q4,rfl⟩:=ms q2;exact tail_any (D.Rs S hg).wn slot_dict_getitem.Α (wpAny_getItem_heap Y.room ht (D.Rs S hg) q4 (h pp.2 _ q3)) (hsl.Ix _ _)
theorem OM{v sl:ϝ}{ie ii:Ex}(hv:mD C d cx v ie)(hi:Sd C d cx sl ii):mD C d cx (.Subscript v sl pos) (.Ix ie ii):=
 λY env k mE fr w H s p r=>jM λx H1 e1=>jM λy H2 e2 e Q E hq=>Subscript_ (hv Y env k mE fr w H s p _ e1 _ _ λw1 a1 s1 n1 r1=>hi.es Y env k mE fr w1 H1 s1 (p.ϫ n1) _ e2 _ _ λw2 a2 s2 n2 r2=>
  Cz hi.sy n2.st (r1.Τ n2.le) r2 r e _ _ λw3 a3 s3 n3 r3=>hq w3 a3 s3 ((n1.ν n2).ν n3) r3)
theorem LD(K:uY C){l r:ϝ}{op:CmpOp}{il ir:Ex}(hl:mD C d cx l il)(hr:Sd C d cx r ir):mD C d cx (.Compare l [op] [r] pos) (.gm (Ep op) il ir):=
 λY env k mE fr w H s p r=>jM λx H1 e1=>jM λy H2 e2 e Q E hq=>wpAny_Compare1 (hl Y env k mE fr w H s p _ e1 _ _ λw1 a1 s1 n1 r1=>hr.es Y env k mE fr w1 H1 s1 (p.ϫ n1) _ e2 _ _ λw2 a2 s2 n2 r2=>
  AI K n2.st (r1.Τ n2.le) r2 r e _ _ λw3 a3 s3 n3 r3=>hq w3 a3 s3 ((n1.ν n2).ν n3) r3) (hr.sy.ny _)
def U7(K:uY C){l r:ϝ}{op:CmpOp}{il ir:Ex}(hl:mD C d cx l il)(hr:Sd C d cx r ir):y9 C d cx (.Compare l [op] [r] pos) (.gm (Ep op) il ir):=by
 intro Y env k mE fr w H s p r;refine jM λv H' e0=>kL λb et e=>?_
 revert e0
 refine jM λx H1 e1=>jM λy H2 e2=>kL λc e3 e4=>?_;cases e4;cases et;subst e;exact λQ E hq=>wpAny_isTrue_Compare1 (hl Y env k mE fr w H s p _ e1 _ _ λw1 a1 s1 n1 r1=>hr.es Y env k mE fr w1 H1 s1 (p.ϫ n1) _ e2 _ _ λw2 a2 s2 n2 r2=>
  AI K n2.st (r1.Τ n2.le) r2 (.ϯ b,H') (by rw[e3];rfl) _ _ λw3 a3 s3 n3 r3=>by rw[show a3=.ϯ b from r3];exact Jc (hq w3 b s3 ((n1.ν n2).ν n3) rfl)) (hr.sy.ny _)
def ON{x:ϝ}{ix:Ex}(hx:mD C d cx x ix):mD C d cx (.UnaryOp .Not x pos) (.not ix):=by
 intro Y env k mE fr w H s p r;refine jM λb H1 e0 e=>?_
 revert e0
 refine jM λx' H1' e1=>kL λb' e2 e3=>?_;cases e3;refine lV e ?_;exact λQ E hq=>Qb (hx Y env k mE fr w H s p _ e1 _ _ λw1 a1 s1 n1 r1=>Qb (Qo (Qj (not_value (u7 n1.st r1 e2 λtk=>hq w1 _ _ (n1.ν (.zn n1.st tk)) rfl)))))
def B9{x:ϝ}{ix:Ex}(hx:y9 C d cx x ix):y9 C d cx (.UnaryOp .Not x pos) (.not ix):=by
 intro Y env k mE fr w H s p r;refine jM λv H' e0=>kL λb et e=>?_
 revert e0
 refine jM λb' H1 e1 e2=>?_;cases e2;obtain rfl:=Qa.lf et;subst e;exact λQ E hq=>isTrue_not (hx Y env k mE fr w H s p _ e1 _ _ λw1 a1 s1 n1 r1=>by rw[show a1=b' from r1];exact hq w1 _ s1 n1 rfl)
def OS{t x y:ϝ}{it ix iy:Ex}(ht:y9 C d cx t it)(hx:mD C d cx x ix)(hy:mD C d cx y iy):mD C d cx (.IfExp t x y pos) (.ite it ix iy):=by
 intro Y env k mE fr w H s p r;refine jM λb H1 e1 e=>?_;refine λQ E hq=>Qb (ht Y env k mE fr w H s p _ e1 _ _ λw1 a1 s1 n1 r1=>?_);rw[show a1=b from r1];cases b with
 |true=>exact hx Y env k mE fr w1 H1 s1 (p.ϫ n1) _ e _ _ λw2 a2 s2 n2 r2=>hq w2 a2 s2 (n1.ν n2) r2
 |false=>exact hy Y env k mE fr w1 H1 s1 (p.ϫ n1) _ e _ _ λw2 a2 s2 n2 r2=>hq w2 a2 s2 (n1.ν n2) r2
def Ca{t x y:ϝ}{it ix iy:Ex}(ht:y9 C d cx t it)(hx:y9 C d cx x ix)(hy:y9 C d cx y iy):y9 C d cx (.IfExp t x y pos) (.ite it ix iy):=by
 intro Y env k mE fr w H s p r;refine jM λv H' e0 e=>?_
 revert e0
 refine jM λb H1 e1 e0=>?_;refine λQ E hq=>isTrue_IfExp (ht Y env k mE fr w H s p _ e1 _ _ λw1 a1 s1 n1 r1=>?_);rw[show a1=b from r1];cases b with
 |true=>exact hx Y env k mE fr w1 H1 s1 (p.ϫ n1) r (by show lT (eval _ _ _ _)=_;rw[show eval (C.cx d) ix fr H1=Qa (v,H') from e0];exact e) _ _ λw2 a2 s2 n2 r2=>hq w2 a2 s2 (n1.ν n2) r2
 |false=>exact hy Y env k mE fr w1 H1 s1 (p.ϫ n1) r (by show lT (eval _ _ _ _)=_;rw[show eval (C.cx d) iy fr H1=Qa (v,H') from e0];exact e) _ _ λw2 a2 s2 n2 r2=>hq w2 a2 s2 (n1.ν n2) r2
def OV{op:BoolOp}{es:ζ ϝ}{irs:ζ Ex}(h:lx C d cx es irs):∀(Y:kJ C d 2)(env:Env)(k:Kp)(mE:ld->η μ)(fr:Λ)(w:Wd)(H:MH)(s:Qg),Pl Y cx env k mE fr w H s->cf Y k (VR C) (boolOp pos op (evalEach es env)) w s (yN (C.cx d) (op==.Or) irs fr H):=by
 induction h with
 |Ϝ=>exact λY env k mE fr w H s p=>.Ε
 | @Ι ex i es irs he hs ih=>
  intro Y env k mE fr w H s p r;refine jM λv H1 e1 e=>?_;cases hs with
  |Ϝ=>refine lV e ?_;exact he.es Y env k mE fr w H s p _ e1
  | @Ι e' i' es' irs' he' hs'=>
   revert e
   refine j1 λb e2 e=>?_;intro Q E hq;show Qh C.M Y.A (do
    let v<-Ρ.eval ex env
    standAt pos
    let t<-holding [v] (Ρ.truthy v)
    match op,t with
    | .And,Qc| .Or,Qe=>pure v
    |_,_=>boolOp pos op (evalEach (e'::es') env)) Q E s
   refine Qb (he.es Y env k mE fr w H s p _ e1 _ _ λw1 a1 s1 n1 r1=>Qb (Qo (Qb (Qj (u7 n1.st r1 e2 λtk=>?_)))));have n2:=n1.ν (.zn n1.st tk);have stop:Qa (v,H1)=Qa r->Qh C.M Y.A (pure a1) Q E {s1 with toks:=tk}:=λe=>by obtain rfl:=Qa.lf e;exact Qf (hq w1 a1 _ n2 r1)
   have go:yN (C.cx d) (op==.Or) (i'::irs') fr H1=Qa r->Qh C.M Y.A (boolOp pos op (evalEach (e'::es') env)) Q E {s1 with toks:=tk}:=λe=>ih Y env k mE fr w1 H1 _ (p.ϫ n2) r e Q E λw2 a2 s2 n3 r2=>hq w2 a2 s2 (n2.ν n3) r2;cases op<;>cases b
   ·exact stop e
   ·exact go e
   ·exact go e
   ·exact stop e
def Cb{op:BoolOp}{es:ζ ϝ}{irs:ζ Ex}(h:lx C d cx es irs):∀(Y:kJ C d 2)(env:Env)(k:Kp)(mE:ld->η μ)(fr:Λ)(w:Wd)(H:MH)(s:Qg),Pl Y cx env k mE fr w H s->cf Y k c9 (allTrue op es env) w s (lT (yN (C.cx d) (op==.Or) irs fr H)):=by
 induction h with
 |Ϝ=>exact λY env k mE fr w H s p=>.Ε
 | @Ι ex i es irs he hs ih=>
  intro Y env k mE fr w H s p r;refine jM λv H' e0=>kL λb et e=>?_
  revert e0
  refine jM λv1 H1 e1 e2=>?_
  --the first test
  have first:∀c,truthy H1 v1=Qa c->∀{Q:Ζ->Qg->Prop}{E:μ->Qg->Prop},(∀w1 s1,jc Y k w w1 H1 s s1->Q c s1)->Qh C.M Y.A (Ρ.isTrue ex env (Ρ.eval ex env)) Q E s:=λc hc Q E hq=>
   he.ts Y env k mE fr w H s p (c,H1) (by show bz (eval _ _ _ _) _=_;rw[show eval (C.cx d) i fr H=Qa (v1,H1) from e1];show qaI _ (truthy H1 v1)=_;rw[hc];rfl) Q E λw1 a1 s1 n1 r1=>by rw[show a1=c from r1];exact hq w1 s1 n1
  subst e;intro Q E hq;cases hs with
  |Ϝ=>
   cases e2;cases op with
   |And=>
    refine QR (first b et λw1 s1 n1=>?_);cases b with
    |true=>exact wpAny_allTrue_And_nil (hq w1 _ s1 n1 rfl)
    |false=>exact hq w1 _ s1 n1 rfl
   |Or=>
    refine QX (first b et λw1 s1 n1=>?_);cases b with
    |true=>exact hq w1 _ s1 n1 rfl
    |false=>exact wpAny_allTrue_Or_nil (hq w1 _ s1 n1 rfl)
  | @Ι e' i' es' irs' he' hs'=>
   refine(bs e2).ι λc zq1=>?_;have stop:Qa (v1,H1)=Qa (v,H')->c=b/\H1=H':=λq=>by
    cases q;exact⟨Qa.lf (zq1.1.Μ.ν et),rfl⟩
   have go:∀w1 s1,jc Y k w w1 H1 s s1->yN (C.cx d) (op==.Or) (i'::irs') fr H1=Qa (v,H')->Qh C.M Y.A (allTrue op (e'::es') env) Q E s1:=λw1 s1 n1 q=>
    ih Y env k mE fr w1 H1 s1 (p.ϫ n1) (b,H') (by show bz (yN _ _ _ _ _) _=_;rw[q];show qaI _ (truthy H' v)=_;rw[et];rfl) Q E λw2 a2 s2 n2 r2=>hq w2 a2 s2 (n1.ν n2) r2
   cases op with
   |And=>
    refine QR (first c zq1.1 λw1 s1 n1=>?_);cases c with
    |true=>exact go w1 s1 n1 zq1.2
    |false=>obtain⟨rfl,rfl⟩:=stop zq1.2;exact hq w1 _ s1 n1 rfl
   |Or=>
    refine QX (first c zq1.1 λw1 s1 n1=>?_);cases c with
    |true=>obtain⟨rfl,rfl⟩:=stop zq1.2;exact hq w1 _ s1 n1 rfl
    |false=>exact go w1 s1 n1 zq1.2
end
section
variable{cx:CC}{fr:Frame}
def zdz(C:bf)(w:Wd){α:Type}(mk:α->ab)(mes:ζ (ab×ab))(kvs:ζ (α×μ)):Prop:=mes.π (·.1)=kvs.π (λp=>mk p.1)/\jI C w (mes.π (·.2)) (kvs.π (·.2))
section
variable{C:bf}{w:Wd}{α:Type}{mk:α->ab}{mes:List (ab×ab)}{kvs:List (α×Value)}(ψ:zdz C w mk mes kvs)
def zdz.e:=@ψ.1
def zdz.r:=@ψ.2
end
def Uw[At α]{mk:α->ab}(hmk:∀a b,fz (mk a) (mk b)=decide (a=b))(k:α){mv:ab}(hv:jL C w mv rv){kvs:ζ (α×μ)}(P:zdz C w mk mes kvs)(hany:(jW mes (mk k)).ϟ=kvs.any (λkv=>kv.1=k)):
  zdz C w mk (nA mes (mk k) mv) (stored kvs k rv):=by
 delta nA stored;simp only[hany];cases hc:kvs.any (λkv=>decide (kv.1=k)) with
 |false=>
  refine⟨?_,?_⟩
  ·show (mes++[_]).π _=(kvs++[_]).π _
   simp only[JW,JW,P.e];rfl
  ·show jI C w ((mes++[_]).π _) ((kvs++[_]).π _)
   simp only[JW,JW];exact jI.append (.cw hv) P.r
 |true=>
  obtain⟨e,r⟩:=P
  clear hc hany
  show zdz C w mk (mes.π _) (kvs.π _)
  induction kvs generalizing mes with
  |Ϝ=>rw[Xo.mp e];exact⟨rfl,.Ϝ⟩
  |Ι y kvs ih=>
   cases mes with
   |Ϝ=>cases e
   |Ι x mes=>
    obtain⟨e1,e2⟩:=Kl.lf e;obtain⟨v,t,ev,h,r⟩:=r;obtain⟨rfl,rfl⟩:=Kl.lf ev;have e1:x.1=mk y.1:=e1;have hk:fz x.1 (mk k)=decide (y.1=k):=by rw[e1,hmk]
    by_cases q:y.1=k
    ·rw[Γ q] at hk
     refine⟨?_,?_⟩
     ·show (bif fz x.1 (mk k) then _ else _:ab×ab).1::_=_
      rw[(ih e2 r).e,hk,JU,JU,φ q];exact ω (· ::_) e1
     ·show jI C w ((bif fz x.1 (mk k) then _ else _:ab×ab).2::_) _
      rw[hk,JU,JU,φ q];exact .Ι hv (ih e2 r).r
    ·rw[Θ q] at hk
     refine⟨?_,?_⟩
     ·show (bif fz x.1 (mk k) then _ else _:ab×ab).1::_=_
      rw[(ih e2 r).e,hk,JU,JU,τ q];exact ω (· ::_) e1
     ·show jI C w ((bif fz x.1 (mk k) then _ else _:ab×ab).2::_) _
      rw[hk,JU,JU,τ q];exact .Ι h (ih e2 r).r
def HC(mes:ζ (ab×ab))(k v:ab):(nA mes k v).ε=(bif (jW mes k).ϟ then mes.ε else mes.ε+1):=by
 delta nA;cases (jW mes k).ϟ with
 |true=>exact Jq ..
 |false=>exact Jx
def GN{k v:ab}(h:mes.ε<n):(nA mes k v).ε<=n:=by
 rw[HC];cases (jW mes k).ϟ with
 |true=>exact JN h
 |false=>exact h
def yS[At α](kvs:ζ (α×μ))(k:α):(valueAt kvs k).ϟ=kvs.any (λkv=>kv.1=k):=by
 delta valueAt;rw[YP,Kq,ζ.find?_isSome,KL]
def BJ(S:St Y k w H s)(hu:A.units+1<cLine)(hob:s.Ν.sB D=Qa (Qn es n))(j:qK C w mes es){x v:ab}(hf:jT mes x=Qe)(hlen:mes.ε<bg)(hk:jL C w x kv)(hv:jL C w v vv)
  {Q:Unit->Qg->Prop}{E:μ->Qg->Prop}
  (h:∀es' h' tk,wS.v6 D s.Ν h'->h'.sB D=Qa (Qn es' (bif (jW mes x).ϟ then n else n+1))->qK C w (nA mes x v) es'->Q () {s with heap:=h',toks:=tk}):Qh C.M A (dictSet D kv vv) Q E s:=by
 have ci:∀{b:Ζ}{x y:θ},(if b=Qe then x else y)=(bif b then x else y):=λ{b x y} =>by cases b<;>rfl
 rcases oR (Jo.mp hf).1 with ⟨q,rfl⟩| ⟨q,rfl⟩
 ·obtain⟨kvs,DD⟩:=j.atom hf
  obtain⟨h1,h2⟩:=hk.atom;have hl:es.ε<=sizeLine:=by rw(occs:=.Hd) [(qK.gi (.wv ⟨kvs,DD⟩)).1];exact Jn (JN hlen) l8
  have hany:=(DD.Mi q).ϟ.ν (yS kvs q);refine Di (knd:=kA C.prog C.w) h1 hob DD.k DD.p DD.n hl λes' f hfe q1 q2 q3=>?_
  rw(occs:=.Hd) [<-hany,ci] at hfe
  have P:=Uw Wu q hv ⟨DD.e,DD.r⟩ hany;refine h es' _ _ (wS.v6.Db ..) ?_ (.wv ⟨_,q2,q1,q3,P.e,λp hp=>?_,P.r⟩)
  ·rw(occs:=.Hd) [<-hfe]
   exact K3 _ hob (by rw(occs:=.Hd) [hfe];rfl)
  ·unfold stored at hp
   split at hp
   ·obtain⟨q,hq,rfl⟩:=JL.mp hp
    split<;>exact DD.ok q hq
   ·rcases Zh.mp hp with hp|hp
    ·exact DD.ok p hp
    ·rw(occs:=.Hd) [JD.mp hp];exact h2
 ·obtain⟨xs,DD⟩:=j.oh hf
  obtain⟨t,rfl,ht⟩:=S.gn hk;have hl:xs.ε<=sizeLine:=by rw(occs:=.Hd) [<-yL DD.e];exact Jn (JN hlen) l8
  refine Lc (knd:=tupleKind (kA C.prog C.w)) (qaQ hu) ht (DD.es▸hob) (DD.qp S) DD.n hl λf hfe q3=>?_;have hany:=(DD.Mi q).ϟ
  rw(occs:=.Hd) [YP] at hany
  rw(occs:=.Hd) [<-hany,ci] at hfe
  have P:=Uw (mk:=λas:ζ ai=>ab.ay (as.π ai.KT)) GC q hv ⟨DD.jv.1,DD.jv.2⟩ (by rw(occs:=.Hd) [<-yS,QE,YP];exact hany)
  rw(occs:=.Hd) [<-kvsOf_storedH xs q t vv] at P
  refine h _ _ _ (wS.v6.Db ..) ?_ (.IO ⟨_,rfl,q3,λx hx=>?_,?_,?_⟩)
  ·rw(occs:=.Hd) [<-hfe,<-DD.es]
   exact K3 _ hob (by rw(occs:=.Hd) [DD.es,hfe];rfl)
  ·rcases mem_storedH hx with ⟨y,hy,q1,q2⟩| ⟨q1,q2⟩
   ·rw(occs:=.Hd) [q1,q2];exact DD.v y hy
   ·rw(occs:=.Hd) [q1,q2];exact hk
  ·rw(occs:=.Hd) [P.e];simp [kvsOf]
  ·have:=P.r
   simpa [kvsOf,Function.comp_def] using this
theorem Pl.TA(p:Pl Y cx env k mE fr w H s){q:Qk×Go}(S:St Y (k.TA q) w H s'):Pl Y cx env (k.TA q) mE fr w H s':=
 ⟨⟨p.b.Ts,p.b.gl,p.b.bl,p.b.sc,p.b.TK,p.b.jx.imp id λ⟨o,h⟩=>⟨o,.pc _ h.1,h.2⟩⟩,p.f,S⟩
def El:ζ (μ×μ)->ζ μ
 | []=>[]
 |p::r=>p.1::p.2::El r
def F6(ws:ζ (μ×μ)):(El ws).ε=2*ws.ε:=by
 induction ws with
 |Ϝ=>rfl
 |Ι p ws ih=>rw[J0,Kz];exact ω (· +2) ih
abbrev cW(C:bf)(d:θ)(cx:CC)(o:η ϝ)(i:Ex):Prop:=∃e,o=Qa e/\Sd C d cx e i
def Fg{ks:ζ (η ϝ)}{ia:ζ Ex}(hk:lO (cW C d cx) ks ia):∀{vs:ζ ϝ}{ib:ζ Ex},lx C d cx vs ib->ks.ε=vs.ε->∀(Y:kJ C d 2)(env:Env)(k:Kp)(mE:ld->η μ)(fr:Λ)(w:Wd)(H:MH)(s:Qg),Pl Y cx env k mE fr w H s->
  cf Y k (λw l ws=>jI C w l (El ws)) (evalPairs (pairTrees ks vs env pos)) w s (qC (C.cx d) (Un ia ib) fr H):=by
 induction hk with
 |Ϝ=>
  intro vs ib hv hl Y env k mE fr w H s p r e;cases hv with
  |Ϝ=>refine lV e ?_;exact λQ E hq=>evalPairs_nil (hq w [] s (.TC p.st) .Ϝ)
  |Ι _ _=>cases hl
 |Ι hk _ ih=>
  intro vs ib hv hl Y env k mE fr w H s p r;cases hv with
  |Ϝ=>cases hl
  | @Ι v b vs ib hv hvs=>
   obtain⟨ke,rfl,hk⟩:=hk;refine jM λx H1 e1=>jM λl H2 e0 e=>?_
   revert e0
   refine jM λy H3 e2=>jM λl' H4 e3 e4=>?_;cases e4;refine lV e ?_;exact λQ E hq=>evalPairs_cons (hk.es Y env k mE fr w H s p _ e1 _ _ λw1 a1 s1 n1 r1=>Qb (hv.es Y env k mE fr w1 H1 s1 (p.ϫ n1) _ e2 _ _ λw2 a2 s2 n2 r2=>Qb (Qo (Qf
    (ih hvs (Z6.lf hl) Y env k mE fr w2 H3 s2 ((p.ϫ n1).ϫ n2) _ e3 _ _ λw3 a3 s3 n3 r3=>hq w3 ((a1,a2)::a3) s3 ((n1.ν n2).ν n3) (.Ι (r1.Τ (n2.le.ν n3.le)) (.Ι (r2.Τ n3.le) r3)))))))
def Cn:∀{ws:ζ (μ×μ)}{l:ζ ab}{mes mes':ζ (ab×ab)}{es:ζ Qi}{s:Qg}{Q:PUnit->Qg->Prop}{E:μ->Qg->Prop},
  jI C w l (El ws)->x5 l mes=Qa mes'->mes.ε+ws.ε<=1000->St Y (k.TA (D,Qn es mes.ε)) w H s->qK C w mes es->
  (∀es' s',St Y (k.TA (D,Qn es' mes'.ε)) w H s'->qK C w mes' es'->qH s s'->Q PUnit.unit s')->Qh C.M Y.A (storeAll D ws) Q E s:=by
 intro ws
 induction ws with
 |Ϝ=>
  intro l mes mes' es s Q E r e _ S j hq;cases l with
  |Ϝ=>obtain rfl:=Qa.lf e;exact Qf (hq es s S j (.TC s))
  |Ι _ _=>obtain⟨_,_,e,_,_⟩:=r;cases e
 |Ι p ws ih=>
  intro l mes mes' es s Q E r e hl S j hq;cases l with
  |Ϝ=>cases r
  |Ι x l=>
   obtain⟨kv,t,e1,hk,r⟩:=r;cases e1;cases l with
   |Ϝ=>cases r
   |Ι v l=>
    obtain⟨vv,t,e1,hv,r⟩:=r;cases e1;obtain⟨hf,e⟩:=gs e;delta storeAll;rw[Xk];refine Qb (Qb (BJ S (Y.u (n:=1) (by decide)) S.fi.1 j hf (Zv (Ju (ZP (Zr _)) hl:mes.ε<1000) (by decide)) hk hv λes' h' tk hs hg j'=>Qf ?_));rw[<-HC (v:=v)] at hg;exact ih (s:={s with heap:=h',toks:=tk}) r e (Jn (JV (GN (JR _)) _) (by rw[Yz];exact hl)) (S.iz hs hg) j' λes'' s'' S'' j'' sm=>hq es'' s'' S'' j'' ⟨sm.1,sm.2⟩
def NT{ks:ζ (η ϝ)}{ia:ζ Ex}(hk:lO (cW C d cx) ks ia):∀{ib:ζ Ex},ib.ε=ks.ε->ks.Hd (·.ϟ)=Qe/\(Un ia ib).ε=2*ks.ε:=by
 induction hk with
 |Ϝ=>exact λ_=>⟨rfl,rfl⟩
 |Ι h _ ih=>
  intro ib hl;cases ib with
  |Ϝ=>cases hl
  |Ι b ib=>
   refine Zx h λ_ zq25=>?_;refine eqB zq25.1 ?_;exact⟨(ih (Z6.lf hl)).1,by rw[J0,Kz,<-(ih (Z6.lf hl)).2];rfl⟩
def CH{ks:ζ (η ϝ)}{vs:ζ ϝ}{ia ib:ζ Ex}(hk:lO (cW C d cx) ks ia)(hv:lx C d cx vs ib)(hl:ks.ε=vs.ε):mD C d cx (.Dict ks vs pos) (.Υ (Un ia ib)):=by
 intro Y env k mE fr w H s p r;refine jM λl H1 e1=>j1 λes e2=>l6 λhlen e=>?_;refine lV e ?_;have hlen:=Zn.mp hlen;refine xA (NT hk (hv.ε.ν hl.Μ)) λhall hz=>?_;intro Q E hq;have S0:=p.st.jb {cls:= .AT "dict",data:= .Υ #[]} rfl;have fb: ∀ {w':Wd}{des:ζ Qi}{s':Qg},w.le w'->St Y (k.TA (s.Ν.wi.Ϡ,Qn des es.ε)) w' H1 s'->qK C w' es des->es.ε<=bg->qH s s'->Q (.ξ s.Ν.wi.Ϡ) s':=λ{w' des s'} le S' j' hl sm=>
  hq _ _ s' ⟨le.ν (⟨Zk _ _,λ_ x=>x⟩:w'.le ⟨w'.σ++[s.Ν.wi.Ϡ],w'.tp⟩),S'.vj (p.st.ou (Jv _)) ⟨des,_,rfl,λe he=>Qa.lf he,j'.Τ (⟨Zk _ _,λ_ x=>x⟩:w'.le ⟨w'.σ++[s.Ν.wi.Ϡ],w'.tp⟩),hl⟩,sm⟩ ⟨_,rfl,by rw[<-S'.lv];exact Zi⟩
 by_cases h0:ks=[]
 ·subst h0
  cases hk;have hvs:vs= []:=Z3.mp hl.Μ;subst hvs;cases hv;cases e1;obtain rfl:=Qa.lf e2;exact wpAny_Dict_empty (fb (s':= {s with heap:=s.Ν.Te {cls:= .AT "dict",data:= .Υ #[]} }) (.TC w) S0 (.wv ⟨[],.Ϝ⟩) (JB _) ⟨rfl,rfl⟩)
 ·refine wpAny_Dict_any hall hl h0 (by lia) (Fg hk hv hl Y env _ mE fr w H _ (p.TA S0) _ e1 _ _ λw1 ws s1 n1 r1=>?_)
  have hws:l.ε=2*ws.ε:=by rw[<-F6];exact r1.ε
  have hel:l.ε=(Un ia ib).ε:=qZ e1;have hsz:∀{l:ζ ab}{mes mes':ζ (ab×ab)},x5 l mes=Qa mes'->mes'.ε<=mes.ε+l.ε:=by
   intro l mes mes' e
   fun_induction x5 l mes with
   |case1=>cases e;exact Jv _
   |case2=>cases e
   |case3 es k v r ih=>
    refine xA (gs e) λ_ e=>?_;refine Jn (ih e) (Jn (JV (GN (JR _)) _) ?_);simp only[J0];lia
  have hes:=hsz e2;exact Cn (mes:=[]) (es:=[]) r1 e2 (by rw[YE];lia) n1.st (.wv ⟨[],.Ϝ⟩) λdes s' S' j' sm=>fb n1.le S' j' (by rw[YE] at hes;exact Jn hes (Jn (Jn (JF (Zq _)) (Jn (JF hel) hlen):_<=30) (by decide))) (qH.ν (b:=s1) ⟨n1.bx.1,n1.bx.2⟩ sm)
def Ng{i:Φ}(h:0<=i):max 0 (min (if i<0 then i+(n:Φ) else i) (n:Φ))=((min i.Th n:θ):Φ):=by
 rw[τ (YY.ϥ h)];obtain⟨m,rfl⟩:=Φ.eq_ofNat_of_zero_le h;simp only[KR];rcases θ.le_total m n with e|e
 ·rw[KV e,Φ.min_eq_left (YO.ϥ e)];exact Φ.max_eq_right (K2 m)
 ·rw[YZ e,Φ.min_eq_right (YO.ϥ e)];exact Φ.max_eq_right (K2 n)
def EP(s:ζ θ){l u:η Φ}(hl:∀i,l=Qa i->0<=i)(hu:∀i,u=Qa i->0<=i):
  Txt.slice ⟨s.υ⟩ l u=⟨(ng s (l.ι 0 (λi=>min i.Th s.ε)) (u.ι s.ε (λi=>min i.Th s.ε))).υ⟩:=by
 have hlen:(⟨s.υ⟩:ld).ε=s.ε:=rfl
 generalize ha:l.ι 0 (λi=>min i.Th s.ε)=a
 generalize hb:u.ι s.ε (λi=>min i.Th s.ε)=b
 have hbn:b<=s.ε:=by
  cases u with
  |none=>exact JF hb.Μ
  |some j=>exact hb▸X4 _ _
 have hidx:Xr l u 1 s.ε=(JX (b-a)).π (a+ ·):=by
  rw[<-sliceRange_one];delta Xr;simp only[show (1:Φ)>0 by decide,if_true]
  congr 1
  ·cases l with
   |none=>exact ω qa9 ha
   |some i=>
    have:=hl i rfl
    simp only[qbl] at ha;exact(Ng this).ν (ω qa9 ha)
  ·cases u with
   |none=>exact ω qa9 hb
   |some i=>
    have:=hu i rfl
    simp only[qbl] at hb;exact(Ng this).ν (ω qa9 hb)
 delta Txt.slice;rw[hlen,hidx];rw[(pick_run s.υ a (b-a):(Xu (λx=>a+x) (JX (b-a))).dL (λx=>(⟨s.υ⟩:ld).cps[x]?)=(s.jp a).na (b-a)),(by unfold ng;rw[ζ.drop_take]:ng s a b=(s.jp a).na (b-a))];split
 ·rename_i h
  simp only[Ϧ,XX,χ,Jq,Zg] at h;by_cases h0:s.ε=0
  ·rw[Z3.mp h0];simp
  ·rw[show a=0 from θ.eq_zero_of_not_pos λha=>ZG (Ju (qaK (YG λe=>h0 (by rw[<-h,e,θ.zero_sub])) ha) hbn) h,show b=s.ε by exact K6 hbn (Jn (JF (XJ h)) (qaL _ _))];simp
 ·rfl
def zc(C:bf)(v:μ)(l:η Φ):Prop:=(∀i,l=Qa i->0<=i)/\((l=Qd/\v=.Ε)\/∃i t,l=Qa i/\v=.Β i t)
section
variable{C:bf}{v:Value}{l:Option Int}(ψ:zc C v l)
end
def Eu{c:θ}{x:ab}(hv:jL C w x v)(h:wZ n x=Qa c):∃i,zc C v (Qa i)/\c=min i.Th n:=by
 refine xEA (bs h) λi e1 h=>?_;refine xA (gs h) λhb e=>?_;refine xE (hv.xz e1) λt e2=>?_;exact⟨i,⟨λj q=>Qa.lf q▸Ξ hb,.IO ⟨i,t,rfl,e2⟩⟩,(Qa.lf e).Μ⟩
theorem R0{x:ζ θ}{a b:θ}(h:rx x):rx (ng x a b):=
 ⟨λc hc=>h.1 c (KO (ζ.mem_of_mem_drop hc)),Jn (by unfold ng;rw[qaW,KC];exact Jn (qaL _ _) (X4 _ _)) h.2⟩
def OU(hc:(p5 value).ϟ=Qe)(S:St Y k w H s0){o:ab}{ov:μ}{bvs:ζ ab}(ho:jL C w o ov)
  (hb: ∀n p,Vc n n' bvs=Qa p-> ∃l u,zc C vl l/\zc C vu u/\p=(l.ι 0 (λi=>min i.Th n),u.ι n (λi=>min i.Th n))) (hs:s= {s0 with heap:=s0.Ν.Te {cls:= .AT "slice",data:= .sn #[vl,vu,.Ε]} }) {r:ab×MH} (e:slice H o n' bvs=Qa r) {Q:μ->Qg->Prop}{E:μ->Qg->Prop}
  (hq:∀w' a s',jc Y k w w' r.2 s0 s'->jL C w' r.1 a->Q a s'):Qh C.M Y.A (subscriptTail value (.Slice lo' hi' Qd sp) ov (.ξ s0.Ν.wi.Ϡ)) Q E s:=by
 subst hs;have hgo:∀o r,letTemporaryGo value o r=pure ():=by
  exact(Zy.mp hc).ι λp zq18=>(qG zq18)▸λ_ _=>rfl
 revert e
 refine j1 λx e1=>j1 λp e2 e=>?_
 ·cases e
  obtain⟨t,rfl,ok⟩:=ho.str? e1;obtain⟨l,u,⟨p1,p2⟩,⟨p3,p4⟩,rfl⟩:=hb _ _ e2;obtain⟨all,hn,_,_,g3⟩:=S.dz;have hsz:(⟨x.υ⟩:ld).ε<=sizeLine:=Jn ok.2 l8;have fb:∀(h':QA)(t':Tok)(tk:θ),Fr Y.h₀ Y.L h' k.m->Tu Y.h₀ Y.L h' all->Q (.Ϥ (Txt.slice ⟨x.υ⟩ l u) t') {s0 with heap:=h',toks:=tk}:=λh' t' tk F N=>by
   rw[EP x p1 p3];exact hq w _ _ ⟨.TC w,g3 h' F N,rfl,rfl⟩ ⟨t',rfl,R0 ok⟩
  rcases p2 with ⟨rfl,rfl⟩| ⟨i,ti,rfl,rfl⟩
  ·rcases p4 with ⟨rfl,rfl⟩| ⟨j,tj,rfl,rfl⟩
   ·exact slice_strN_nn S.fr hn fb rfl (hgo _) hsz
   ·exact slice_strN_ns S.fr hn fb rfl (hgo _) hsz
  ·rcases p4 with ⟨rfl,rfl⟩| ⟨j,tj,rfl,rfl⟩
   ·exact slice_strN_sn S.fr hn fb rfl (hgo _) hsz
   ·exact slice_strN_ss S.fr hn fb rfl (hgo _) hsz
def Fd{v:ϝ}{ie:Ex}{f:ϝ->η Ex}{q:θ×ζ Ex}(hc:(p5 v).ϟ=Qe)(hv:mD C d cx v ie)(hf:∀e i,f e=Qa i->Sd C d cx e i)(hb:GV f lo hi=Qa q):mD C d cx (.Subscript v (.Slice lo hi Qd sp) pos) (.slice ie q.1 q.2):=by
 intro Y env k mE fr w H s p r;refine jM λx H1 e1=>jM λbv H2 e2 e=>?_;intro Q E hq;refine Subscript_ (hv Y env k mE fr w H s p _ e1 _ _ λw1 a1 s1 n1 r1=>wpAny_Slice ?_);have p1:=p.ϫ n1;have fb:∀{w3:Wd}{s3:Qg}{vl vu:μ},jc Y k w1 w3 H2 s1 s3->(∀n p,Vc n q.1 bv=Qa p->∃l u,zc C vl l/\zc C vu u/\p=(l.ι 0 (λi=>min i.Th n),u.ι n (λi=>min i.Th n)))->
   Qh C.M Y.A (evalPart Qd env) (λst s₃=>Qh C.M Y.A (subscriptTail v (.Slice lo hi Qd sp) a1 (.ξ s₃.Ν.wi.Ϡ)) Q E {s₃ with heap:=s₃.Ν.Te {cls:= .AT "slice",data:= .sn #[vl,vu,st]} }) E s3:=λ{w3 s3 vl vu} n3 hbb=>
  Qf (OU hc n3.st (r1.Τ n3.le) hbb rfl e λw4 a4 s4 n4 r4=>hq w4 a4 s4 ((n1.ν n3).ν n4) r4)
 cases lo with
 |none=>cases hb
 |some a=>
  refine xEA (bs hb) λxa hxa hb=>?_;cases hi with
  |none=>cases hb
  |some b=>
   refine(ms hb).ι λy zq5=>?_;have e3:=zq5.2;subst e3
   revert e2
   refine jM λx' H3 e2=>jM λl H4 e5 e4=>?_;cases e4
   revert e5
   refine jM λy' H5 e3=>jM λl' H6 e6 e7=>?_;cases e6;cases e7;refine(hf _ _ hxa).es Y env k mE fr w1 H1 s1 p1 _ e2 _ _ λw2 a2 s2 n2 r2=>(hf _ _ zq5.1).es Y env k mE fr w2 H3 s2 (p1.ϫ n2) _ e3 _ _ λw3 a3 s3 n3 r3=>fb (n2.ν n3) λn p h=>?_;refine xEA (bs (o:=wZ n x') (f:=λx=>(wZ n y').π λy=>(x,y)) h) λc h1 h=>?_;obtain⟨c',h2,rfl⟩:=ms h;refine(Eu (r2.Τ n3.le) h1).ι λi zq2=>?_;obtain rfl:=zq2.2;refine(Eu r3 h2).ι λj zq1=>?_;obtain rfl:=zq1.2;exact⟨Qa i,Qa j,zq2.1,zq1.1,rfl⟩
end
abbrev O3 (led:Ζ):Go:= {cls:= .AT "set",dict:=Qd,data:= .Ϫ #[] 0 (.fresh 0 0 led)}
def p7(t:ρ):θ->ρ.Probe->ρ.Probe
 |0,p=>p
 |n+1,p=>p7 t n (t.Tv p)
def Vq(t:ρ)(m n:θ):∀p,p7 t (m+n) p=p7 t n (p7 t m p):=by
 induction m with
 |zero=>intro p;rw[Zq];rfl
 |succ m ih=>intro p;rw[θ.succ_add];exact ih _
def tf(t:ρ)(i q:θ):ρ.Probe:=⟨i,ρ.runEnd t.Tk i-i,i,q,Qd⟩
def Sr(t:ρ)(i q:θ):∀(n j:θ),p7 t n ⟨j,n,i,q,Qd⟩=⟨j+n,0,i,q,Qd⟩:=by
 intro n
 induction n with
 |zero=>intro j;rfl
 |succ n ih=>
  intro j;show p7 t n (t.Tv ⟨j,n+1,i,q,Qd⟩)=_;have e:t.Tv ⟨j,n+1,i,q,Qd⟩=⟨j+1,n,i,q,Qd⟩:=by
   unfold ρ.Tv;rw[φ (Zr n)];rfl
  rw[e,ih,J8,ZW 1]
def lpI(t:ρ)(i q:θ):θ:=(i*5+1+q / 32) % (t.Tk+1)
def NA(t:ρ)(i q:θ):p7 t (ρ.runEnd t.Tk i-i+1) (tf t i q)=tf t (lpI t i q) (q / 32):=by
 rw[Vq];show p7 t 1 (p7 t _ ⟨i,ρ.runEnd t.Tk i-i,i,q,Qd⟩)=_;rw[Sr];show t.Tv ⟨i+(ρ.runEnd t.Tk i-i),0,i,q,Qd⟩=_;unfold ρ.Tv;rw[τ (Zb 0)];rfl
def zbB(mask i:θ):ρ.runEnd mask i-i+1<=10:=by
 unfold ρ.runEnd;by_cases h:i+9<=mask
 ·rw[φ h];exact Zc (θ.sub_lt_left_of_lt_add (Jr _ _) (JR _))
 ·rw[τ h];exact Zf (θ.sub_le_of_le_add (JC _ _))
def Gy(t:ρ):θ->θ->θ->θ
 |0,i,_=>i
 |n+1,i,q=>Gy t n (lpI t i q) (q / 32)
def Rf(t:ρ):∀(n i q:θ),∃m,m<=10*n/\p7 t m (tf t i q)=tf t (Gy t n i q) (q / 32 ^ n):=by
 intro n
 induction n with
 |zero=>intro i q;exact⟨0,Jv _,by rw[θ.pow_zero,θ.div_one];rfl⟩
 |succ n ih=>
  intro i q;obtain⟨m,hm,e⟩:=ih (lpI t i q) (q / 32);refine⟨ρ.runEnd t.Tk i-i+1+m,by have:=zbB t.Tk i;lia,?_⟩;rw[Vq,NA,e,θ.div_div_eq_div_mul,<-θ.pow_succ'];rfl
def Eb(t:ρ)(m n:θ):∀i q,Gy t (m+n) i q=Gy t n (Gy t m i q) (q / 32 ^ m):=by
 induction m with
 |zero=>intro i q;rw[Zq,θ.pow_zero,θ.div_one];rfl
 |succ m ih=>
  intro i q;rw[θ.succ_add];show Gy t (m+n) _ _=Gy t n (Gy t m _ _) _;rw[ih,θ.div_div_eq_div_mul,<-θ.pow_succ']
def five(mask:θ):θ->θ->θ
 |0,i=>i
 |n+1,i=>five mask n ((i*5+1) % (mask+1))
def Hf(t:ρ):∀n i,Gy t n i 0=five t.Tk n i:=by
 intro n
 induction n with
 |zero=>exact λ_=>rfl
 |succ n ih=>intro i;show Gy t n (lpI t i 0) (0 / 32)=five t.Tk n _;rw[θ.zero_div,ih];rfl
def wQ:(∀i,i<8->∀r,r<8->∃n,n<8/\five 7 n i=r)/\∀i,i<32->∀r,r<32->∃n,n<32/\five 31 n i=r:=by
 constructor
 ·intro i hi r hr
  have:((JX 8).Hd λi=>(JX 8).Hd λr=>(JX 8).any λn=>five 7 n i==r)=true:=by decide+kernel
  have h1:=Za.mp (Za.mp this i (ZA.ϥ hi)) r (ZA.ϥ hr);obtain⟨n,hn,e⟩:=KL.mp h1;exact⟨n,ZA.mp hn,χ.mp e⟩
 ·intro i hi r hr
  have:((JX 32).Hd λi=>(JX 32).Hd λr=>(JX 32).any λn=>five 31 n i==r)=true:=by decide+kernel
  have h1:=Za.mp (Za.mp this i (ZA.ϥ hi)) r (ZA.ϥ hr);obtain⟨n,hn,e⟩:=KL.mp h1;exact⟨n,ZA.mp hn,χ.mp e⟩
def zfL(hm:t.Tk=7\/t.Tk=31){q:θ}(hq:q<2 ^ 64){r:θ}(hr:r<=t.Tk):∃m,m<10*ρ.turns t.Tk/\(p7 t m (tf t i q)).j=r:=by
 have h0:q / 32 ^ 13=0:=θ.div_eq_of_lt (Ju hq (by decide));have hi:Gy t 13 i q<t.Tk+1:=by
  show Gy t 12 (lpI t i q) (q / 32)<_
  have:∀n i q,i<t.Tk+1->Gy t n i q<t.Tk+1:=by
   intro n
   induction n with
   |zero=>exact λ_ _ h=>h
   |succ n ih=>exact λi q _=>ih _ _ (Xv _ (Zr _))
  exact this _ _ _ (Xv _ (Zr _))
 obtain⟨n,hn,e⟩:∃n,n<t.Tk+1/\five t.Tk n (Gy t 13 i q)=r:=by
  rcases hm with h|h
  ·rw[h] at hi hr ⊢;exact wQ.1 _ hi _ (JO hr)
  ·rw[h] at hi hr ⊢;exact wQ.2 _ hi _ (JO hr)
 obtain⟨m,h1,h2⟩:=Rf t (13+n) i q;refine⟨m,Jw h1 ?_,?_⟩
 ·unfold ρ.turns;lia
 ·rw[h2,Eb,h0,Hf,e];rfl
def E9{xs:ϛ θ}(h:xs.Ϡ<=mask):∃r,r<=mask/\r∉xs:=by
 by_cases q:∀r,r<=mask->r∈xs
 ·have:=(Yh (n:=mask+1)).length_le_of_subset (l₂:=xs.ch) λx hx=>ϛ.mem_def.mp (q x (JY (ZA.mp hx)))
  rw[Zg,ϛ.sK] at this;exact ς h (Xw.ϥ this)
 ·obtain⟨r,hr⟩:=LE.not_forall.mp q
  exact⟨r,(LE.not_imp.mp hr).1,(LE.not_imp.mp hr).2⟩
def AL(hd:t.Ti= #[])(j:θ):t.slot j=if (t.place[ρ.below t.place j]?==Qa j)=Qe then .live (ρ.below t.place j) else .empty:=by
 have e2:ρ.has t.Ti j=false:=by rw[hd];unfold ρ.has;rfl
 show (if (t.place[ρ.below t.place j]?==Qa j)=Qe then ρ.Slot.live (ρ.below t.place j) else if ρ.has t.Ti j=Qe then .dummy else .empty)=_;rw[e2];rfl
def Fm(hd:t.Ti= #[])(h:j∉t.place):t.slot j=.empty:=by
 rw[AL hd,τ λq=>h (ϛ.mem_of_getElem? (χ.mp q))]
def VL(hd:t.Ti= #[])(j:θ):t.slot j=.empty\/∃i,t.slot j=.live i/\i<t.place.Ϡ:=by
 rw[AL hd];by_cases q:(t.place[ρ.below t.place j]?==Qa j)=Qe
 ·rw[φ q]
  exact .IO ⟨_,rfl,(ϛ.getElem?_eq_some_iff.mp (χ.mp q)).1⟩
 ·rw[τ q];exact .wv rfl
inductive EJ(t:ρ)(hashAt:θ->Φ)(h:Φ)(p:ρ.Probe)(m:θ):ρ.Met->Prop
 |free(k:θ)(hk:k<=m)(j:θ):EJ t hashAt h p m (.empty j Qd)
 |cand(k:θ)(hk:k<m)(i:θ)(hi:i<t.place.Ϡ)(hs:t.slot (p7 t k p).j=.live i)(e:hashAt i=h):EJ t hashAt h p m (.candidate (p7 t k p).j i (p7 t (k+1) p))
def Ej{h:Φ}{f:θ}{p:ρ.Probe}:ρ.probe.go t hashAt h (f+1) p=ρ.Slot.Δ (motive:=λ_=>η ρ.Met) (t.slot p.j) (Qa (.empty p.j p.dummy)) (ρ.probe.go t hashAt h f (t.Tv {p with dummy:=Qa p.j})) λi=>if (hashAt i==h)=Qe then Qa (.candidate p.j i (t.Tv p)) else ρ.probe.go t hashAt h f (t.Tv p):=by kernel_rfl
def ME(hd:t.Ti= #[]){h:Φ}:∀(m ba:θ)(p:ρ.Probe),m<ba->p.dummy=Qd->t.slot (p7 t m p).j=.empty->∃x,ρ.probe.go t hashAt h ba p=Qa x/\EJ t hashAt h p m x:=by
 intro m
 induction m with
 |zero=>
  intro ba p hf hp hs;cases ba with
  |zero=>exact ς hf (Zb _)
  |succ f=>
   have hs:t.slot p.j=.empty:=hs;refine⟨.empty p.j Qd,?_,.free 0 (Jv _) _⟩;rw[Ej,hs];show Qa (ρ.Met.empty p.j p.dummy)=_;rw[hp]
 |succ m ih=>
  intro ba p hf hp hs;cases ba with
  |zero=>exact ς hf (J9 _)
  |succ f=>
   rcases VL hd p.j with q| ⟨i,q,hi⟩
   ·refine⟨.empty p.j Qd,?_,.free 0 (JB _) _⟩
    rw[Ej,q];show Qa (ρ.Met.empty p.j p.dummy)=_;rw[hp]
   ·by_cases e:hashAt i=h
    ·refine⟨.candidate p.j i (t.Tv p),?_,.cand 0 (Zr _) i hi q e⟩
     rw[Ej,q];show (if (hashAt i==h)=Qe then _ else _)=_;rw[φ (χ.ϥ e)]
    ·have hp':(t.Tv p).dummy=none:=by
      unfold ρ.Tv;by_cases c:p.TH>0
      ·rw[φ c];exact hp
      ·rw[τ c];exact hp
     obtain⟨x,e1,e2⟩:=ih f (t.Tv p) (Ka hf) hp' hs;refine⟨x,?_,?_⟩
     ·rw[Ej,q]
      show (if (hashAt i==h)=Qe then _ else _)=_;rw[τ λc=>e (χ.mp c)];exact e1
     ·cases e2 with
      |free k hk j=>exact .free (k+1) (Zf hk) j
      |cand k hk i' hi' hs' e'=>exact .cand (k+1) (θ.succ_lt_succ hk) i' hi' hs' e'
abbrev tM(mask:θ):ρ:= {ρ.fresh 0 0 Qe with mask:=mask}
def Ek{f q:θ}:ρ.layClean.free mask owner (f+1) i q=JG (motive:=λ_=>η θ) ((JX (ρ.runEnd mask i+1-i)).find? λk=>(owner.ϡ (i+k) (Qa 0)).re) (ρ.layClean.free mask owner f (ρ.leap mask i q).1 (ρ.leap mask i q).2) λk=>Qa (i+k):=by kernel_rfl
def RH:∀(n i q:θ),owner.ϡ (Gy (tM mask) n i q) (Qa 0)=Qd->∀ba,n<ba->∃j,ρ.layClean.free mask owner ba i q=Qa j/\owner.ϡ j (Qa 0)=none:=by
 intro n
 induction n with
 |zero=>
  intro i q h ba hf;cases ba with
  |zero=>exact ς hf (Zb _)
  |succ f=>
   rw[Ek];cases e:(JX (ρ.runEnd mask i+1-i)).find? λk=>(owner.ϡ (i+k) (Qa 0)).re with
   |some k=>exact⟨i+k,rfl,ZQ.mp (KA (p:=λk=>(owner.ϡ (i+k) (Qa 0)).re) e)⟩
   |none=>
    have h0:(0:θ)∈JX (ρ.runEnd mask i+1-i):=by
     rw[ZA];unfold ρ.runEnd;by_cases c:i+9<=mask
     ·rw[φ c];exact YQ (JO (Jr _ _))
     ·rw[τ c];exact YQ (JR _)
    have:=ζ.find?_eq_none.mp e 0 h0
    have h:owner.ϡ i (Qa 0)=none:=h;rw[θ.ut,h] at this;exact ς rfl this
 |succ n ih=>
  intro i q h ba hf;cases ba with
  |zero=>exact ς hf (J9 _)
  |succ f=>
   rw[Ek];cases e:(JX (ρ.runEnd mask i+1-i)).find? λk=>(owner.ϡ (i+k) (Qa 0)).re with
   |some k=>exact⟨i+k,rfl,ZQ.mp (KA (p:=λk=>(owner.ϡ (i+k) (Qa 0)).re) e)⟩
   |none=>exact ih _ _ h f (Ka hf)
abbrev liv(mask:θ)(owner:ϛ (η θ)):ζ (θ×θ):=(JX (mask+1)).dL λj=>(owner.ϡ j Qd).π (j,·)
def B5{f g:θ->η (θ×θ)}{x:θ×θ}(h0:f j=Qd)(h1:g j=Qa x)(h2:∀i,i≠j->g i=f i):∀{l:ζ θ},l.Ω->j∈l->(l.dL g).No (x::l.dL f):=by
 intro l
 induction l with
 |Ϝ=>exact λ_ h=>ς h Jz
 |Ι y l ih=>
  intro nd hj;have nd:=JH.mp nd;by_cases e:y=j
  ·subst e
   have bx:l.dL g=l.dL f:=by
    have go:∀m:ζ θ,y∉m->m.dL g=m.dL f:=λm=>by
     induction m with
     |Ϝ=>exact λ_=>rfl
     |Ι z m ihm=>intro nm;rw[ZC,ZC,h2 z λq=>nm (q▸ .mo _),ihm λq=>nm (.pc _ q)]
    exact go l nd.1
   rw[ZC,ZC,h1,h0,bx]
  ·have hj:j∈l:=(JM.mp hj).ι (λq=>ς q.Μ e) id
   have q:=ih nd.2 hj;rw[ZC,ZC,h2 y e];cases f y with
   |none=>exact q
   |some z=>exact(q.Ι z).ν (.swap _ _ _)
def OwI(mask:θ)(k:θ)(owner:ϛ (η θ)):Prop:=owner.Ϡ=mask+1/\((liv mask owner).π (·.2)).No (JX k)
section
variable{mask:Nat}{k:Nat}{owner:Array (Option Nat)}(ψ:OwI mask k owner)
def OwI.sz:=@ψ.1
def OwI.pm:=@ψ.2
end
def E8{k:θ}(O:OwI mask k owner)(hk:k<=mask):∃r,r<=mask/\owner.ϡ r (Qa 0)=none:=by
 by_cases q:∀r,r<=mask->owner.ϡ r (Qa 0)≠Qd
 ·have hl:(liv mask owner).ε=mask+1:=by
   have:∀l:ζ θ,(∀j∈l,j<=mask)->(l.dL λj=>(owner.ϡ j Qd).π (j,·)).ε=l.ε:=by
    intro l
    induction l with
    |Ϝ=>exact λ_=>rfl
    |Ι y l ih=>
     intro h;have hy:=h y (.mo _);have e:=q y hy;have hlt:y<owner.Ϡ:=by rw[O.sz];exact JO hy
     have e1:owner.ϡ y Qd=owner.ϡ y (Qa 0):=by simp [ϛ.ϡ,hlt]
     rw[ZC,e1];refine AZ (owner.ϡ y (Qa 0)) (λc=>?_) λz c=>?_
     ·rw[c]
      exact ς c e
     ·rw[c]
      show (_::_:ζ (θ×θ)).ε=_;rw[J0,J0,ih λj hj=>h j (.pc _ hj)]
   rw[this _ λj hj=>JY (ZA.mp hj),Zg]
  have:=O.pm.u8
  rw[Jq,hl,Zg] at this;lia
 ·obtain⟨r,hr⟩:=LE.not_forall.mp q
  exact⟨r,(LE.not_imp.mp hr).1,LE.not_not.mp (LE.not_imp.mp hr).2⟩
def OwI.put{k:θ}(O:OwI mask k owner)(hj:owner.ϡ j (Qa 0)=Qd):OwI mask (k+1) (owner.w8 j (Qa k)):=by
 have hlt:j<owner.Ϡ:=by
  by_cases c:j<owner.Ϡ
  ·exact c
  ·simp [ϛ.ϡ,c] at hj
 refine⟨by rw[ϛ.size_setIfInBounds];exact O.sz,?_⟩;have hn:owner.ϡ j Qd=none:=by simp [ϛ.ϡ,hlt] at hj ⊢;exact hj
 have P:=B5 (f:=λi=>(owner.ϡ i Qd).π (i,·)) (g:=λi=>((owner.w8 j (Qa k)).ϡ i Qd).π (i,·)) (j:=j) (x:=(j,k)) (by show (owner.ϡ j Qd).π _=Qd;rw[hn];rfl) (by
  have:(owner.w8 j (Qa k)).ϡ j Qd=Qa k:=by simp [ϛ.ϡ,hlt]
  rw[this];rfl) (λi hi=>by
  have:(owner.w8 j (Qa k)).ϡ i Qd=owner.ϡ i none:=by
   simp only[ϛ.getD_eq_getD_getElem?,ϛ.getElem?_setIfInBounds_ne (Kc hi)]
  rw[this]) (Yh (n:=mask+1)) (ZA.ϥ (O.sz▸hlt))
 refine(P.π (·.2)).ν ?_;rw[JU];refine(O.pm.Ι k).ν ?_;rw[YF];exact(ζ.perm_append_comm (l₁:=[k])).ν (.TC _)
def EA(h:Φ):ρ.bits h<2 ^ 64:=by
 unfold ρ.bits;have h1:=Φ.emod_lt_of_pos h (show (0:Φ)<2 ^ 64 by decide);have h2:=Φ.emod_nonneg h (show (2 ^ 64:Φ)≠0 by decide);lia
def MM{k:θ}(hm:mask=7\/mask=31)(O:OwI mask k owner)(hk:k<=mask)(i:θ)(h:Φ):∃j,ρ.layClean.free mask owner (ρ.turns mask) i (ρ.bits h)=Qa j/\owner.ϡ j (Qa 0)=none:=by
 obtain⟨r,hr,e⟩:=E8 O hk;have h0:ρ.bits h / 32 ^ 13=0:=θ.div_eq_of_lt (Ju (EA h) (by decide));have hi:Gy (tM mask) 13 i (ρ.bits h)<mask+1:=by
  have:∀n i q,i<mask+1->Gy (tM mask) n i q<mask+1:=by
   intro n
   induction n with
   |zero=>exact λ_ _ h=>h
   |succ n ih=>exact λi q _=>ih _ _ (Xv _ (Zr _))
  show Gy (tM mask) 12 (lpI (tM mask) i _) _<_;exact this _ _ _ (Xv _ (Zr _))
 obtain⟨n,hn,en⟩:∃n,n<mask+1/\five mask n (Gy (tM mask) 13 i (ρ.bits h))=r:=by
  rcases hm with c|c
  ·rw[c] at hi hr ⊢;exact wQ.1 _ hi _ (JO hr)
  ·rw[c] at hi hr ⊢;exact wQ.2 _ hi _ (JO hr)
 exact RH (13+n) i (ρ.bits h) (by rw[Eb,h0,Hf,en];exact e) _ (by unfold ρ.turns;exact Ju (θ.add_lt_add_of_lt_of_le (JR _) (JN hn)) (JF (ZW _ _)))
def zcK(hm:mask=7\/mask=31)(hn:hs.ε<=mask+1):∃owner,ρ.layClean mask hs.υ=Qa owner/\OwI mask hs.ε owner:=by
 have go:∀(l:ζ Φ)(k:θ)(owner:ϛ (η θ)),OwI mask k owner->k+l.ε<=mask+1->∃o,(l.foldl (λacc h=>do
   let (owner,k)<-acc
   let j<-ρ.layClean.free mask owner (ρ.turns mask) (ρ.bits h % (mask+1)) (ρ.bits h)
   pure (owner.w8 j (Qa k),k+1)) (Qa (owner,k)):η (ϛ (η θ)×θ))=Qa (o,k+l.ε)/\OwI mask (k+l.ε) o:=by
  intro l
  induction l with
  |Ϝ=>exact λk o O _=>⟨o,rfl,O⟩
  |Ι h l ih=>
   intro k o O hk;rw[J0] at hk;obtain⟨j,e,hj⟩:=MM hm O (by lia) (ρ.bits h % (mask+1)) h;obtain⟨o',e',O'⟩:=ih (k+1) _ (O.put hj) (by lia);refine⟨o',?_,by rw[J0,<-J8,ZF];exact O'⟩;rw[K7,J0,<-J8,ZF,<-e']
   congr 1
   show ((ρ.layClean.free mask o (ρ.turns mask) _ _).Η λj=>Qa (o.w8 j (Qa k),k+1))=_;rw[e];rfl
 obtain⟨o,e,O⟩:=go hs 0 (ϛ.replicate (mask+1) Qd) ⟨by rw[ϛ.size_replicate],by
  have:liv mask (ϛ.replicate (mask+1) Qd)=[]:=by
   refine ζ.filterMap_eq_nil_iff.ϥ λj hj=>?_
   have:(ϛ.replicate (mask+1) (none:η θ)).ϡ j Qd=none:=by simp [ϛ.ϡ]
   rw[this];rfl
  rw[this];exact .TC _⟩ (Jn (JF (ZW _ _)) (KY (Zf hn)))
 rw[Zq] at e O;refine⟨o,?_,O⟩;unfold ρ.layClean;rw[ζ.foldl_toArray];exact ω (qaI (·.1)) e
section
variable{prog:Qs}{w:Qm}{K:Type}[DecidableEq K]{knd:HeapKind prog w K}{A:Qv}{E:Value->Qg->Prop}{s:Qg}
def vJ(knd:HeapKind prog w K)(h:QA)(a:Qk)(ks:ζ K)(o:Go)(es:ϛ (Φ×μ))(ep:θ)(t:ρ):Prop:=h.sB a=Qa o/\o.Ta=.Ϫ es ep t/\es.Ϡ=ks.ε/\t.place.Ϡ=es.Ϡ/\t.Ti= #[]/\(t.Tk=7\/t.Tk=31)/\es.Ϡ*5<t.Tk*3/\∀(i:θ)(x:Φ×μ),es[i]?=Qa x->∃k b,k∈ks/\x=(knd.hash k,.ξ b)/\knd.is h k b
section
variable{knd:HeapKind prog w K}{h:QA}{a:Qk}{ks:List K}{o:Obj}{es:Array (Int×Value)}{ep:Nat}{t:SetTable}(ψ:vJ knd h a ks o es ep t)
def vJ.ho:=@ψ.1
def vJ.hd:=@ψ.2.1
def vJ.n:=@ψ.2.2.1
def vJ.pl:=@ψ.2.2.2.1
def vJ.du:=@ψ.2.2.2.2.1
def vJ.msk:=@ψ.2.2.2.2.2.1
def vJ.bg:=@ψ.2.2.2.2.2.2.1
def vJ.el:=@ψ.2.2.2.2.2.2.2
end
def vJ.fits{ks:ζ K}{es:ϛ (Φ×μ)}(T:vJ knd h a ks o es ep t):t.fits es.Ϡ=true:=by
 unfold ρ.fits ρ.fill;rw[T.du,T.pl,ZR];refine⟨χ.ϥ rfl,Γ ?_⟩
 have:=T.bg
 show es.Ϡ+0<=t.Tk;lia
def GZ(knd:HeapKind prog w K)(A:Qv)(E:μ->Qg->Prop)(s:Qg)(b:Qk):Prop:=∀(ys:ζ μ)(C:Ζ->Qg->Prop),(∀y∈ys,∃k c,y=.ξ c/\knd.is s.Ν k c)->C Qc s->Qh (model prog w) A (searchCouldBeSeen (.ξ b) ys) C E s
theorem vJ.vals{ks:ζ K}{es:ϛ (Φ×μ)}(T:vJ knd h a ks o es ep t)(p:Φ×μ->Ζ):∀y∈(es.Ϩ p).ch.π (·.2),∃k c,y=.ξ c/\knd.is h k c:=λy hy=>by
 obtain⟨x,hx,rfl⟩:=JL.mp hy;rw[ϛ.toList_filter] at hx;obtain⟨i,e⟩:=Km (ZU.mp hx).1;obtain⟨k,c,_,e2,q⟩:=T.el i x (by rw[<-ϛ.getElem?_toList];exact e);exact⟨k,c,by rw[e2],q⟩
def CR:t.sameMemory t.moves t.Tk=Qa true:=by
 unfold ρ.sameMemory;rw[φ (χ.ϥ rfl)]
def Bs:∀(n:θ){p:ρ.Probe},p.dummy=Qd->(p7 t n p).dummy=none:=by
 intro n
 induction n with
 |zero=>exact λh=>h
 |succ n ih=>
  intro p h;refine ih ?_;unfold ρ.Tv;by_cases c:p.TH>0
  ·rw[φ c];exact h
  ·rw[τ c];exact h
def zcv(hd:t.Ti= #[]){H:θ->Φ}{h:Φ}{m:θ}{p:ρ.Probe}(hM:m<10*ρ.turns t.Tk)(hp:p.dummy=Qd)(he:t.slot (p7 t m p).j=.empty){x:ρ.Met}(e:t.probe H h p=Qa x):EJ t H h p m x:=by
 obtain⟨y,ey,my⟩:=ME (hashAt:=H) (h:=h) hd m _ p hM hp he
 have:y=x:=Qa.lf (ey.Μ.ν e)
 exact this▸my
theorem I8(hd:t.Ti= #[]){H:θ->Φ}{h:Φ}{m:θ}{p:ρ.Probe}(hM:m<10*ρ.turns t.Tk)(hp:p.dummy=Qd)(he:t.slot (p7 t m p).j=.empty)(e:∀x,t.probe H h p=Qa x->False):False:=
 (ME (hashAt:=H) (h:=h) hd m _ p hM hp he).ι λy q=>e y q.1
theorem zdS{M:Q8}{c:Prop}[Ch c]{x y:Sem α}{Q:α->Qg->Prop}(h:c->Qh M A y Q E s->Qh M A x Q E s)(k:Qh M A y Q E s):Qh M A (if c then x else y) Q E s:=
 if q:c then wP q (h q k) else wN q k
def Fq{ks:ζ K}{es:ϛ (Φ×μ)}{k:K}{Q:SetFound->Qg->Prop}(T:vJ knd s.Ν a ks o es ep t)(hk:knd.is s.Ν k b)(hn:k∉ks)(hr:knd.room A)
  (hs:GZ knd A E s b) (q:∀j,Q (.free j Qc) s):
  ∀(M:θ)(ba:θ)(p:ρ.Probe)(st:η ρ.Probe),M<10*ρ.turns t.Tk->M<ba->p.dummy=Qd->st.ϡ (t.probeStart (knd.hash k))=p->t.slot (p7 t M p).j=.empty->Qh (model prog w) A (setSearchFrom a (.ξ b) (knd.hash k) Qe ba st) Q E s:=by
 intro M
 induction M using θ.strongRecOn with
 |ind M ih=>
  intro ba p st hM hf hp hst he;cases ba with
  |zero=>exact ς hf (J9 _)
  |succ f=>
   have iJ:∀k',k'<M->Qh (model prog w) A (setSearchFrom a (.ξ b) (knd.hash k) Qe f (Qa (p7 t (k'+1) p))) Q E s:=λk' h=>by
    refine ih (M-(k'+1)) (θ.sub_lt_self (Zr _) (Zc h)) f _ _ (Z4 hM) (Ju (θ.sub_lt_sub_left h (JR _)) (JY (Z4 hf))) (Bs _ hp) rfl ?_;rw[<-Vq,qaR h];exact he
   show Qh _ _ (setState a>>=_) _ _ _;refine Qb (Tj T.ho T.hd T.fits (wN (λe=>?_) ?_))
   ·unfold ρ.gaveWay at e
    rcases T.msk with c|c<;>rw[c] at e<;>cases e
   rw[hst]
   dsimp only
   split
   ·rename_i met hm
    cases zcv T.du hM hp he hm with
    |free k' hk' j=>exact Qf (q j)
    |cand k' hk' i hi hs' e=>
     obtain⟨k2,b2,m2,e2,i2⟩:=T.el i _ (ϛ.getElem?_eq_getElem (T.pl▸hi:i<es.Ϡ));have ex:es[i]?=Qa (knd.hash k2,.ξ b2):=by rw[ϛ.getElem?_eq_getElem (T.pl▸hi:i<es.Ϡ),e2]
     refine zdS (λ_ tl=>Qb (hs _ _ (T.vals _) (wN JQ tl))) ?_;rw[ex];refine Qb (Qj (knd.eqBool hr i2 hk ?_));rw[(Θ λq=>hn (q▸m2):decide (k2=k)=Qc)];refine Qb (Tj T.ho T.hd T.fits (wN JQ ?_));rw[CR]
     dsimp only
     rw[φ rfl,hs']
     dsimp only
     rw[ex];exact Qb (wpAny_isSame_ref_self (Qb (Qf (iJ k' hk'))))
   ·rename_i hm
    exact(I8 T.du hM hp he hm).ι
end
def Mx(xs:ϛ α)(p:θ)(x:α):(ρ.insertAt xs p x).ch=xs.ch.na p++x::xs.ch.jp p:=by
 unfold ρ.insertAt
 simp [ϛ.toList_append,ζ.take_of_length_le]
def Hn(xs:ϛ α)(p:θ)(x:α):(ρ.insertAt xs p x).ch.No (x::xs.ch):=by
 rw[Mx];exact(Yu).ν (.Ι x (.of_eq (Kw p xs.ch)))
def Hm(xs:ϛ α)(p:θ)(x:α):(ρ.insertAt xs p x).Ϡ=xs.Ϡ+1:=by
 have:=(Hn xs p x).u8
 rw[ϛ.sK,J0,ϛ.sK] at this;exact this
def MP(es:ζ α):(JX es.ε).dL (es[·]?)=es:=by
 have:∀(n:θ),n<=es.ε->(JX n).dL (es[·]?)=es.na n:=by
  intro n
  induction n with
  |zero=>exact λ_=>rfl
  |succ n ih=>
   intro h;rw[YF,ζ.filterMap_append,ih (Yb h),Kn]
   congr 1
 rw[this _ (Jv _),Zj]
def Ft{es:ϛ (Φ×μ)}(hw:ρ.sizeAbove wanted=32)(hn:es.Ϡ<=32):∃t' order,t.relaid (es.π (·.1)) wanted=Qa (t',order)/\t'.Tk=31/\t'.Ti= #[]/\t'.place.Ϡ=es.Ϡ/\(order.dL (es[·]?)).ch.No es.ch:=by
 have hl:(es.ch.π (·.1)).ε<=31+1:=by rw[Jq,ϛ.sK];exact hn
 obtain⟨owner,e,O⟩:=zcK (mask:=31) (.IO rfl) hl;have e:ρ.layClean 31 (es.π (·.1))=Qa owner:=by
  have h:(es.ch.π (·.1)).υ=es.π (·.1):=ϛ.ext' (by rw[ϛ.toList_map]);rw[<-h];exact e
 have hp:=O.pm;rw[Jq,ϛ.sK] at hp;have hlen:(liv 31 owner).ε=es.Ϡ:=by have:=hp.u8;rwa [Jq,Zg] at this
 refine⟨{mask:=31,place:=((liv 31 owner).π (·.1)).υ,dummies:= #[],finger:=t.finger,led:=t.led,moves:=t.movedTo 31,plain:=t.plain},((liv 31 owner).π (·.2)).υ,?_,rfl,rfl,?_,?_⟩
 ·unfold ρ.relaid ρ.laid
  rw[hw];rw[e];rfl
 ·rw[Zo,Jq,hlen]
 ·have h1:(((liv 31 owner).π (·.2)).υ.dL (es[·]?)).ch=((liv 31 owner).π (·.2)).dL (es.ch[·]?):=by
   simp [ϛ.toList_filterMap]
  rw[h1];refine(hp.dL _).ν (.of_eq ?_);rw[<-ϛ.sK];exact MP es.ch
section
variable{prog:Qs}{w:Qm}{K:Type}[DecidableEq K]{knd:HeapKind prog w K}{A:Qv}{E:Value->Qg->Prop}{s:Qg}
def LI{ks:ζ K}{es:ϛ (Φ×μ)}{k:K}{Q:SetFound->Qg->Prop}(T:vJ knd s.Ν a ks o es ep t)(hk:knd.is s.Ν k b)(hn:k∉ks)(hr:knd.room A)
  (hs:GZ knd A E s b) (q:∀j,Q (.free j Qc) s):Qh (model prog w) A (setSearch a (.ξ b) (knd.hash k) Qe) Q E s:=by
 have hp:t.place.Ϡ<=t.Tk:=by rw[T.pl];have:=T.bg;lia
 obtain⟨r,hr1,hr2⟩:=E9 hp;obtain⟨m,hm,e⟩:=zfL T.msk (i:=ρ.bits (knd.hash k) % (t.Tk+1)) (EA (knd.hash k)) hr1;refine Fq T hk hn hr hs q m 100000 _ Qd hm (Ju hm ?_) rfl rfl ?_
 ·unfold ρ.turns
  rcases T.msk with c|c<;>rw[c] <;>decide
 ·show t.slot (p7 t m (tf t _ _)).j=_
  rw[e];exact Fm T.du hr2
end
def zbL(hd:t.Ti= #[])(j:θ):∃p,t.put j=({t with place:=ρ.insertAt t.place p j},p):=by
 refine⟨ρ.below t.place j,?_⟩;unfold ρ.put
 have:ρ.has t.Ti j=false:=by
  rw[hd];rfl
 rw[this,hd];cases t;refine eqE hd ?_;rfl
section
variable{prog:Qs}{w:Qm}{K:Type}[DecidableEq K]{knd:HeapKind prog w K}{A:Qv}{E:Value->Qg->Prop}{s:Qg}
def TEl(knd:HeapKind prog w K)(h:QA)(ks:ζ K)(l:ζ (Φ×μ)):Prop:=∀x∈l,∃k b,k∈ks/\x=(knd.hash k,.ξ b)/\knd.is h k b
theorem vJ.els{ks:ζ K}{es:ϛ (Φ×μ)}(T:vJ knd h a ks o es ep t):TEl knd h ks es.ch:=λx hx=>
 (Km hx).ι λi e=>T.el i x (by rw[<-ϛ.getElem?_toList];exact e)
theorem zau{ks:ζ K}{es:ϛ (Φ×μ)}(e:TEl knd h ks es.ch)(i:θ)(x:Φ×μ)(q:es[i]?=Qa x):∃k b,k∈ks/\x=(knd.hash k,.ξ b)/\knd.is h k b:=
 e x (Jt (by rw[ϛ.getElem?_toList];exact q))
theorem TEl.keep{ks ks':ζ K}{l:ζ (Φ×μ)}(e:TEl knd h ks l)(hs:∀k,k∈ks->k∈ks')(hp:l'.No l)(kp:∀k b,knd.is h k b->knd.is h' k b):TEl knd h' ks' l':=λx hx=>
 (e x (hp.tz.mp hx)).ι λk q=>q.ι λb q=>⟨k,b,hs k q.1,q.2.1,kp k b q.2.2⟩
def Uv{es:ϛ (Φ×μ)}(ho:h.sB a=Qa o)(hd:o.Ta=.Ϫ es ep t)(es':ϛ (Φ×μ))(t':ρ):
  (h.Db a (Go.putSet es' t')).sB a=Qa {o with data:=.Ϫ es' (ep+1) t'}:=by
 have:=K3 (Go.putSet es' t') ho (by rw[putSet_of es' t' hd];rfl)
 rw[putSet_of es' t' hd] at this;exact this
def CY{es:ϛ (Φ×μ)}{Q:Unit->Qg->Prop}(ho:s.Ν.sB a=Qa o)(hd:o.Ta=.Ϫ es ep t)(hf:t.fits es.Ϡ=Qe)(hw:ρ.sizeAbove wanted=32)(hn:es.Ϡ<=32)
  (q:∀es' t',es'.ch.No es.ch->t'.Tk=31->t'.Ti= #[]->t'.place.Ϡ=es'.Ϡ->Q () {s with heap:=s.Ν.Db a (Go.putSet es' t')}):Qh (model prog w) A (setRelay a wanted) Q E s:=by
 obtain⟨t',order,e,hm,hdu,hpl,hp⟩:=Ft (t:=t) (es:=es) hw hn;have hsz:(order.dL (es[·]?)).Ϡ=es.Ϡ:=by
  have:=hp.u8
  rwa [ϛ.sK,ϛ.sK] at this
 refine Qb (Tj ho hd hf (wN (by rw[hw];decide) ?_));rw[e];refine Qb (wN (c:=((order.dL (es[·]?)).Ϡ !=es.Ϡ)=Qe) (by rw[hsz,bne_self_eq_false];exact JQ) (Qf ?_));exact wpAny_storeSet_of ho hd (q _ _ hp hm hdu (hpl.ν hsz.Μ)) (fits_of_scanBound (by rw[hsz];exact Jw hn (by decide)))
theorem BX{M:Q8}{c:Prop}[Ch c]{x y:Sem α}{Q:α->Qg->Prop}(h:c->Qh M A x Q E s)(k:¬c->Qh M A y Q E s):Qh M A (if c then x else y) Q E s:=if q:c then wP q (h q) else wN q (k q)
def Vr{ks:ζ K}{es X:ϛ (Φ×μ)}{k:K}(T:vJ knd s.Ν a ks o es ep t)(hl:ks.ε<=17)(kp:∀h' k b,wS.v6 a s.Ν h'->knd.is s.Ν k b->knd.is h' k b)
  (q:∀h' o' es' ep' t',wS.v6 a s.Ν h'->vJ knd h' a (k::ks) o' es' ep' t'->(o.ExactSet->o'.ExactSet)->Q Qe {s with heap:=h'})
  (hsz:X.Ϡ=es.Ϡ+1) (hE:TEl knd s.Ν (k::ks) X.ch) (hpl:t1.place.Ϡ=X.Ϡ) (hdu:t1.Ti= #[]) (hm:t1.Tk=t.Tk):Qh (model prog w) A (do
   storeSet a X t1
   if (!Qc && ρ.tooFull t1)=Qe then do
     setRelay a (ρ.grown (es.Ϡ+1))
     pure Qe
    else pure Qe) Q E s:=by
 have hb:X.Ϡ<scanBound:=by rw[hsz,T.n];exact Jw (Zf hl) (by decide)
 have hfill:t1.fill=es.Ϡ+1:=by
  show t1.place.Ϡ+t1.Ti.Ϡ=_;rw[hpl,hsz,hdu];rfl
 have h1:=T.bg;have hfit:ρ.fits t1 X.Ϡ=true:=Jo.ϥ ⟨χ.ϥ hpl,Γ (by
  rw[hfill,hm];rcases T.msk with c|c<;>rw[c] at h1 ⊢ <;>lia)⟩
 refine Qb (wpAny_storeSet_of T.ho T.hd ?_ (fits_of_scanBound hb));have ho1:=Uv T.ho T.hd X t1;have sb:=wS.v6.Db s.Ν a (Go.putSet X t1);have hfull:ρ.tooFull t1=decide ((es.Ϡ+1)*5 ≥ t.Tk*3):=by
  show decide (t1.fill*5 ≥ t1.Tk*3)=_;rw[hfill,hm]
 refine BX (λc=>?_) λc=>Qf (q _ _ _ _ _ sb ⟨ho1,rfl,hsz.ν (ω (· +1) T.n),hpl,hdu,by rw[hm];exact T.msk,?_,zau (hE.keep (λ_ h=>h) (.TC _) λk b=>kp _ k b sb)⟩ λh=>h)
 ·have c:(es.Ϡ+1)*5 ≥ t.Tk*3:=Ξ (hfull▸c)
  have hm:t.Tk=7/\es.Ϡ=4:=by
   rcases T.msk with d|d
   ·rw[d] at c h1;exact⟨d,by lia⟩
   ·have h2:=T.n
    rw[d] at c;lia
  refine Qb (CY ho1 rfl hfit (by rw[hm.2];rfl) (by rw[hsz,hm.2];decide) λes' t' hp' h1 h2 h3=>?_);have hn':es'.Ϡ=es.Ϡ+1:=by have:=hp'.u8;rwa [ϛ.sK,ϛ.sK,hsz] at this
  refine Qf (q _ _ _ _ _ (sb.ν (wS.v6.Db _ a _)) ⟨Uv ho1 rfl es' t',rfl,hn'.ν (ω (· +1) T.n),h3,h2,.IO h1,?_,zau (hE.keep (λ_ h=>h) hp' λk b=>kp _ k b (sb.ν (wS.v6.Db _ a _)))⟩ λh=>h);rw[hn',hm.2,h1];decide
 ·rw[hsz,hm]
  exact θ.lt_of_not_ge λq=>c (hfull▸Γ q)
def add_ok{ks:ζ K}{es:ϛ (Φ×μ)}{k:K}(T:vJ knd s.Ν a ks o es ep t)(hk:knd.is s.Ν k b)(hn:k∉ks)(hr:knd.room A)(hl:ks.ε<=17)
  (hs:GZ knd A E s b)
  (hv:∀(C:Ζ->Qg->Prop),(∀r,C r s)->Qh (model prog w) A (hashByValue 8 (.ξ b)) C E s)
  (kp:∀h' k b,wS.v6 a s.Ν h'->knd.is s.Ν k b->knd.is h' k b)
  (q:∀h' o' es' ep' t',wS.v6 a s.Ν h'->vJ knd h' a (k::ks) o' es' ep' t'->(o.ExactSet->o'.ExactSet)->Q Qe {s with heap:=h'}) (ba:θ):Qh (model prog w) A (setAddHashedIn a (.ξ b) (knd.hash k) (ba+1)) Q E s:=by
 show Qh _ _ (setState a>>=_) _ _ _;refine Qb (Tj T.ho T.hd T.fits (wN JQ ?_));refine Qb (LI T hk hn hr hs λj=>?_);refine Qb (Tj T.ho T.hd T.fits ?_);obtain⟨p,hp⟩:=zbL T.du j
 dsimp only
 rw[hp];have hE:TEl knd s.Ν (k::ks) (ρ.insertAt es p (knd.hash k,YX b)).ch:=λx hx=>by
  rcases JM.mp ((Hn _ _ _).tz.mp hx) with c|c
  ·exact⟨k,b,ζ.mem_cons_self,c,hk⟩
  ·exact(T.els x c).ι λk' q=>q.ι λb' q=>⟨k',b',Xf _ q.1,q.2⟩
 have hsz:=Hm es p (knd.hash k,YX b);have hpl:(ρ.insertAt t.place p j).Ϡ=(ρ.insertAt es p (knd.hash k,YX b)).Ϡ:=by rw[Hm,hsz,T.pl]
 refine BX (λ_=>Qb (hv _ λr=>?_)) λ_=>Qb (Qf (Vr T hl kp q hsz hE hpl T.du rfl));cases r with
 |true=>exact Vr T hl kp q hsz hE hpl T.du rfl
 |false=>exact Vr T hl kp q hsz hE hpl T.du rfl
end
section
variable{prog:Qs}{w:Qm}{K:Type}[DecidableEq K]{knd:KeyKind prog w K}{A:Qv}{E:Value->Qg->Prop}{s:Qg}
def Uc(n:θ)(h:carriedByValue v=Qe):ofAClassStatement n v=pure false:=by
 cases v with
 |ref a=>exact ς h JQ
 |_=>cases n<;>rfl
def WJ{M:Q8}{b:β}{f:α->β->Sem (Ty β)}{C:β->Qg->Prop}(turn:∀x∈l,∀(R:Ty β->Qg->Prop),R (.yield b) s->(∀b',C b' s->R (.done b') s)->Qh M A (f x b) R E s)(h:C b s):Qh M A (forIn l b f) C E s:=by
 refine wpAny_forIn_list f (λrest b' s'=>b'=b/\s'=s/\∀x∈rest,x∈l) C (λx rest b' s' q=>?_) (λb' s' q=>?_) l b ⟨rfl,rfl,λ_ h=>h⟩
 ·obtain⟨rfl,rfl,q⟩:=q
  exact turn x (q x (.mo _)) _ ⟨rfl,rfl,λy hy=>q y (.pc _ hy)⟩ λ_ h=>h
 ·obtain⟨rfl,rfl,_⟩:=q;exact h
def yP{ks:ζ K}(hk:Ql knd s.Ν ks a)(h:Q Qc s):Qh (model prog w) A (ofAClassStatement 8 (.ξ a)) Q E s:=by
 have hT:=hk.wn;obtain⟨o,items,n,ho,_,hd,hi⟩:=hk;unfold ofAClassStatement;refine Qb (wpAny_typeOf hT (wP rfl (Qb (Qf (wN JQ ?_)))));refine Qb (wpAny_seqItems ho hd (Qb ?_));rw[<-ϛ.forIn_toList];refine WJ (λv hv R hR _=>?_) (Qf h);rw[Uc _ (hi.byValue v hv)];exact Qb (Qf (wN JQ (Qf hR)))
def U6{ks:ζ K}(hk:Ql knd s.Ν ks b):GZ (tupleKind knd) A E s b:=by
 intro ys C hy hc;refine Qb (WJ (λv hv R hR _=>?_) (Qf hc));obtain⟨k,c,rfl,hkc⟩:=hy v hv;refine BX (λ_=>Qf hR) λ_=>?_;refine Qb ((tupleKind knd).quiet (k:=ks) hk (wN JQ ?_));refine Qb ((tupleKind knd).quiet hkc (wN JQ ?_));exact Qb (yP hk (wN JQ (Qb (yP hkc (wN JQ (Qf hR))))))
def F1(n:θ)(h:carriedByValue v=Qe):∃r,hashByValue n v=pure r:=by
 cases v with
 |ref a=>exact ς h JQ
 |_=>exact⟨_,by cases n<;>first|rfl|(unfold hashByValue;rfl)⟩
def ES{ks:ζ K}(hk:Ql knd s.Ν ks b)(C:Ζ->Qg->Prop)(h:∀r,C r s):Qh (model prog w) A (hashByValue 8 (.ξ b)) C E s:=by
 have hT:=hk.wn;obtain⟨o,items,n,ho,_,hd,hi⟩:=hk;unfold hashByValue;refine Qb (wpAny_specialOf hT F.slot_tuple_hash.Α ?_);refine Qb (wpAny_seqItems ho hd (Qb ?_));rw[<-ϛ.forIn_toList];refine WJ (λv hv R hR hD=>?_) (Qf (h _));obtain⟨q,e⟩:=F1 7 (hi.byValue v hv);rw[e];refine Qb (Qf ?_);cases q with
 |true=>exact wN JQ (Qf hR)
 |false=>exact wP rfl (Qf (hD _ (Qf (h _))))
def zV{ks:ζ K}{S:Qk}{es:ϛ (Φ×μ)}(x:Ql knd h ks a)(ho:h.sB S=Qa o)(hd:o.Ta=.Ϫ es ep t)(hs:wS.v6 S h h'):Ql knd h' ks a:=by
 obtain⟨o',items,n,ho',hc,hd',hi⟩:=x;have hne:a≠S:=by
  rintro rfl
  obtain rfl:o'=o:=Qa.lf (ho'.Μ.ν ho);rw[hd] at hd';exact nomatch hd'
 exact⟨o',items,n,(hs.2 a hne).ν ho',hc,hd',hi⟩
def Gk{ks:ζ (ζ K)}{es:ϛ (Φ×μ)}{k:ζ K}(T:vJ (tupleKind knd) s.Ν a ks o es ep t)(hk:Ql knd s.Ν k b)(hn:k∉ks)(hr:A.units<cLine)(hl:ks.ε<=17)
  (q:∀h' o' es' ep' t',wS.v6 a s.Ν h'->vJ (tupleKind knd) h' a (k::ks) o' es' ep' t'->(o.ExactSet->o'.ExactSet)->Q Qe {s with heap:=h',toks:=s.zn+(k.ε+1)}):Qh (model prog w) A (setAdd a (.ξ b)) Q E s:=by
 unfold setAdd;refine Qj (Qb ((tupleKind knd).pyHash hr hk ?_));unfold setAddHashed;refine Qj ?_;exact add_ok (s:={s with toks:=s.zn+(k.ε+1)}) T hk hn hr hl (U6 hk) (λC h=>ES (s:={s with toks:=s.zn+(k.ε+1)}) hk C h) (λh' k' b' sb x=>zV x T.ho T.hd sb) q 99999
end
section
variable{prog:Qs}{w:Qm}{K:Type}[DecidableEq K]{knd:KeyKind prog w K}{A:Qv}{E:Value->Qg->Prop}
def TAt(knd:KeyKind prog w K)(h:QA)(S:Qk)(ks:ζ (ζ K)):Prop:=∃o es ep t,vJ (tupleKind knd) h S ks o es ep t/\o.ExactSet
def wI{k:ζ K}(x:Ql knd h k b)(e:∀o,h.sB b=Qa o->h'.sB b=Qa o):Ql knd h' k b:=by
 obtain⟨o,items,n,ho,r⟩:=x;exact⟨o,items,n,e o ho,r⟩
def TAt.keep{S:Qk}{ks:ζ (ζ K)}(x:TAt knd h S ks)(hS:∀o,h.sB S=Qa o->h'.sB S=Qa o)(e:∀k b,Ql knd h k b->Ql knd h' k b):TAt knd h' S ks:=by
 obtain⟨o,es,ep,t,T,hx⟩:=x;exact⟨o,es,ep,t,⟨hS o T.ho,T.hd,T.n,T.pl,T.du,T.msk,T.bg,λi x q=>by
  obtain⟨k,b,m,e1,e2⟩:=T.el i x q;exact⟨k,b,m,e1,e k b e2⟩⟩,hx⟩
def Fo{I S:Qk}{fp:ζ Qk}{P:θ->μ->Prop}(W:WalksS prog w A.in1 I fp wr G n P Z)(hS:S∉fp)(hu:A.in1.units<cLine)(val:θ->ζ K)
  (hI:∀i s k b,Z i s->Ql knd s.Ν k b->b∉wr) (hd:∀i j,i<j->j<n->val i≠val j):∀(m i:θ)(ks:ζ (ζ K))(s:Qg),i+m=n->ks.ε+m<=18->Z i s->TAt knd s.Ν S ks->
  (∀j v,P j v->∃b,v=.ξ b/\Ql knd s.Ν (val j) b)->(∀k∈ks,∃j,j<i/\k=val j)->
  (∀s' ks',Moved (S::wr) G s s'->TAt knd s'.Ν S ks'->ks'.ε=ks.ε+m->R (.ok (.ret .Ε)) s') ->codeAny (model prog w) A (.ϭ "set.update.loop" ⟨[.ξ S,.ξ I],[]⟩) R s:=by
 have hw:S∉wr:=λh=>hS (W.Ix _ h);intro m
 induction m with
 |zero=>
  intro i ks s hi hb z hs hv hk hR;subst hi;refine codeAny_builtin F.entry_set_update_loop ?_;rw[Around.under_plainId F.plain_set_update_loop _];refine Qb (W.done s _ _ z λs' hm=>?_);exact Qf (hR s' ks (hm.Τ (λb hb=>.pc _ hb)) (hs.keep (λo ho=>hm.Ν S o hw ho) λk b x=>wI x λo ho=>hm.Ν b o (hI _ _ _ _ z x) ho) rfl)
 |succ m ih=>
  intro i ks s hi hb z hs hv hk hR;have hin:i<n:=Ju (ZP (Zr _)) (JF hi);refine codeAny_builtin F.entry_set_update_loop ?_;rw[Around.under_plainId F.plain_set_update_loop _];refine Qb (W.item i s _ _ hin z λv s' hp z' hm=>?_);have kk:∀k b,Ql knd s.Ν k b->Ql knd s'.Ν k b:=λk b x=>wI x λo ho=>hm.Ν b o (hI _ _ _ _ z x) ho;obtain⟨b,rfl,q1⟩:=hv i v hp;obtain⟨o,es,ep,t,T,hx⟩:=hs.keep (λo ho=>hm.Ν S o hw ho) kk;refine Qb (Qj ?_);have hn:val i∉ks:=λh=>by
   obtain⟨j,hj,e⟩:=hk _ h;exact hd j i hj hin e.Μ
  refine Gk T (kk _ _ q1) hn hu (by lia) λh' o' es' ep' t' sb T' hx'=>?_;have k2:∀k b,Ql knd s'.Ν k b->Ql knd h' k b:=λk b x=>zV x T.ho T.hd sb;refine Qf ⟨plainId_quiet F.plain_set_update_loop _,ih (i+1) (val i::ks) _ (by lia) (by rw[J0];lia) (W.frame _ s' _ _ z' (Jr _ _) (λc hc o e=>?_)) ⟨o',es',ep',t',T',hx' hx⟩ (λj v hj=>?_) (λk hk'=>?_) λs'' ks' hm' hs3 hl=>?_⟩
  ·rw[sb.2 c λh=>hS (h▸hc)];exact e
  ·obtain⟨c,e,y⟩:=hv j v hj
   exact⟨c,e,k2 _ _ (kk _ _ y)⟩
  ·rcases JM.mp hk' with c|c
   ·exact⟨i,JR i,c⟩
   ·obtain⟨j,hj,e⟩:=hk k c
    exact⟨j,ZJ hj,e⟩
  ·refine hR s'' ks' (Moved.ν W.gtrans ((hm.Τ (λb hb=>.pc _ hb)).then_heap (Jr _ _) λc oc hc e=>?_) hm') hs3 (by rw[hl,J0];lia)
   rw[sb.2 c λh=>hc (h▸ .mo _)];exact e
end
section
variable{prog:Qs}{w:Qm}{K:Type}[DecidableEq K]{knd:KeyKind prog w K}{A:Qv}{E:Value->Qg->Prop}{s:Qg}
theorem DO{I l:θ}{k:ζ K}(x:h.IsListIter I l i)(y:Ql knd h k b):b∉ [I]:=λq=>by
 obtain⟨o,ho,hc,_⟩:=x;obtain⟨o',_,_,ho',hc',_⟩:=y;rw[JD] at q;subst q
 have:=Qa.lf (ho.Μ.ν ho')
 subst this;rw[hc] at hc';exact ς hc' (by decide)
theorem ML{S:Qk}(ho:h.sB S=Qa (O3 led)):TAt knd h S []:=
 ⟨_,#[],0,_,⟨ho,rfl,rfl,rfl,rfl,.wv rfl,(show 0*5<7*3 by decide),λi x e=>ς e (by simp)⟩,rfl,rfl,rfl⟩
def CN{S l:Qk}{items:ϛ μ}{P:Fin->Qg->Prop}(hh:A.v4=Qd)(hu:A.in1.units<cLine)(hS:s.Ν.sB S=Qa (O3 led))(hl:s.Ν.IsList l items)(hne:l≠S)(val:θ->ζ K)
  (hv:∀j v,items[j]?=Qa v->∃b,v=.ξ b/\Ql knd s.Ν (val j) b) (hd:∀i j,i<j->j<items.Ϡ->val i≠val j) (hb:items.Ϡ<=18)
  (h:∀(h':QA)(tk:θ) ks,TAt knd h' S ks->ks.ε=items.Ϡ->(∀b o,b≠S->s.Ν.sB b=Qa o->h'.sB b=Qa o)->P (.done (.ret .Ε)) {s with heap:=h',toks:=tk}):
  Qh (model prog w) A (wT.«set.__init__» {pos:=[.ξ S,.ξ l]}) P E s:=by
 have hl1:=hl;obtain⟨⟨ocls,odict,odata,oslots⟩,hol,hcl,nl,hdl⟩:=hl;cases hcl;cases hdl;have hsls:=F.sub_list_set;have hslf:=F.sub_list_frozenset;have hnd:(Zz "list"==Zz "dict")=false:=by decide
 unfold wT.«set.__init__» noKeywords wT.Frozenset.updateFrom
 generalize hPI:pyIter=PI
 wp_walk
 subst hPI
 clear hsls hslf hnd
 refine QI hl1 (Qb (wpAny_runValue ?_));have hlt:=Ky hol;have hSt:=Ky hS;refine Fo (knd:=knd) (Walks.ο (A:=A.in1) (by simp [hh]) _ l (ZG hlt) items).toS (S:=S) (λq=>(JM.mp q).ι (ZG hSt) λq=>hne (JD.mp q).Μ) hu val (λi s' k b z x=>DO z.1 x) hd items.Ϡ 0 [] _ (Zq _) (by rw[YE,Zq];exact hb)
  ⟨⟨_,wS.Tn _ rfl,rfl,rfl⟩,(hl1.Te _)⟩ (ML (led:=led) (wS.Ϯ _ hS)) (λj v hj=>?_) (λk hk=>ς hk Jz) λs' ks' hm hS' hlen=>?_
 ·obtain⟨b,e,x⟩:=hv j v hj
  exact⟨b,e,wI x λo ho=>wS.Ϯ _ ho⟩
 ·obtain⟨h',g',d',tk',os'⟩:=s'
  have eg:g'=s.gens:=hm.gens;have ed:d'=s.drawn:=hm.drawn;have eo:os'=s.os:=hm.os;subst eg;subst ed;subst eo;refine Qf ?_;show Qh _ _ (ret KH) _ _ _;refine Qf (h h' tk' ks' hS' (by rw[hlen,YE,Zq]) λb o q e=>hm.Ν b o ?_ (wS.Ϯ _ e));exact λy=>(JM.mp y).ι q λy=>ZG (Ky e) (JD.mp y)
def y8{l:Qk}{items:ϛ μ}{Q:μ->Qg->Prop}(hh:A.v4=Qd)(hu:A.in1.in1.in1.units<cLine)(hl:s.Ν.IsList l items)(val:θ->ζ K)
  (hv:∀j v,items[j]?=Qa v->∃b,v=.ξ b/\Ql knd s.Ν (val j) b) (hd:∀i j,i<j->j<items.Ϡ->val i≠val j) (hb:items.Ϡ<=18)
  (h:∀(h':QA)(tk:θ) ks,TAt knd h' s.Ν.wi.Ϡ ks->ks.ε=items.Ϡ->(∀b o,s.Ν.sB b=Qa o->h'.sB b=Qa o)->Q (.ξ s.Ν.wi.Ϡ) {s with heap:=h',toks:=tk}):
  Qh (model prog w) A (call (.AT "set") [.ξ l]) Q E s:=by
 have init:∀(h1:QA)(led:Ζ)(P:Fin->Qg->Prop)(E:μ->Qg->Prop),h1=s.Ν.Te (O3 led)->(∀(h':QA)(tk:θ),Q (.ξ s.Ν.wi.Ϡ) {s with heap:=h',toks:=tk}->P (.done (.ret .Ε)) {s with heap:=h',toks:=tk})->Qh (model prog w) A.in1.in1 (wT.«set.__init__» {pos:=[.ξ s.Ν.wi.Ϡ,.ξ l]}) P E {s with heap:=h1}:=λh1 led P E e hP=>by
  have ne:∀{b o},s.Ν.sB b=Qa o->b≠s.Ν.wi.Ϡ:=λq=>ZG (Ky q);have up:∀{b o},s.Ν.sB b=Qa o->h1.sB b=Qa o:=λq=>e▸wS.Ϯ _ q;refine CN (s:={s with heap:=h1}) (led:=led) (by simp [hh]) hu (e▸wS.Tn _ rfl) (e▸hl.Te _) (hl.ι λo q=>ne q.1) val (λj v hj=>?_) hd hb λh' tk ks x1 x2 x3=>hP h' tk (h h' tk ks x1 x2 λb o q=>x3 b o (ne q) (up q));obtain⟨b,e',x⟩:=hv j v hj;exact⟨b,e',wI x λo ho=>up ho⟩
 clear hv hd hb h hu hh
 obtain⟨c,tl,hmro⟩:=F.TO.mro;have hmade:=F.TO.made;have hsub:=F.TO.Ix;refine wpAny_call (codeAny_of_tree ?_);show Qh _ _ (callAny (.AT "set") _) _ _ _;refine Qf ⟨Code.quiet_builtin _ (by decide+kernel),codeAny_builtin F.entry_type_call ?_⟩;rw[Around.under_plain (weight_type_call_type "set" [.ξ l] []) rfl];have h1:=F.TO.notType;have h2:=F.TO.canCreate;have hct:=F.typeCall_set_1 (.ξ l)
 repeat (any_goals (first|assumption|wp_step))
 clear h1 h2 hct hmade hmro
 refine codeAny_mono (code_set_new_1 (.ξ l) (E:=E) (Q₁:=λfj s₁=>∃(led:Ζ)(h1:QA),h1=s.Ν.Te (O3 led)/\fj=.ξ s.Ν.wi.Ϡ/\s₁= {s with heap:=h1}) λled=>⟨led,_,rfl,rfl,rfl⟩) λr s₁ hr=>?_;cases r with
 |error e=>exact hr
 |ok fl=>
  cases fl with
  |ret fj=>
   obtain⟨led,h1,e1,rfl,rfl⟩:=hr;have hT:Shared.TypeIs {s with heap:=h1} (.ξ s.Ν.wi.Ϡ) "set":=⟨_,e1▸wS.Tn _ rfl,rfl⟩;have hli:=F.TO.init.Α;have hbi:=F.TO.init.Η (.ξ s.Ν.wi.Ϡ)
   repeat (any_goals (first|assumption|wp_step))
   clear hli hbi hsub
   refine codeAny_mono (codeAny_call_builtin (R:=wants (λr s₂=>r=.Ε/\Q (.ξ s.Ν.wi.Ϡ) s₂) E) F.TO.init.plain F.entry_set_init (check_set_init_1 hT (init h1 led _ _ e1 λh' tk q=>⟨rfl,q⟩))) λr₂ s₂ hr₂=>?_;cases r₂ with
   |error e=>exact hr₂
   |ok fl₂=>
    cases fl₂ with
    |ret r=>
     obtain⟨rfl,q⟩:=hr₂
     repeat (any_goals (first|assumption|wp_step))
    |_=>exact hr₂.ι
  |_=>exact hr.ι
end
def Ov{vs:ζ ab}(h:vs.Hd (λv=>jV v==3)=Qe):∃ks:ζ (ζ ai),vs=ks.π λk=>.ay (k.π ai.KT):=by
 induction vs with
 |Ϝ=>exact⟨[],rfl⟩
 |Ι v r ih=>
  obtain⟨h1,h2⟩:=Jo.mp h;obtain⟨ks,rfl⟩:=ih h2;have h3:jV v=3:=eq_of_beq h1;rcases oR (v:=v) (by rw[h3];rfl) with ⟨a,rfl⟩| ⟨as,rfl⟩
  ·rw[lZ] at h3;exact ς h3 (by decide)
  ·exact⟨as::ks,rfl⟩
def zc1:∀{ks:ζ (ζ ai)},M3 (ks.π λk=>.ay (k.π ai.KT))=Qe->ks.Ω:=by
 intro ks
 induction ks with
 |Ϝ=>exact λ_=>.Ϝ
 |Ι k r ih=>
  intro h;obtain⟨h1,h2⟩:=Jo.mp (show (!((r.π λk=>ab.ay (k.π ai.KT)).any (fz (.ay (k.π ai.KT)))) && M3 (r.π λk=>.ay (k.π ai.KT)))=Qe from h);refine JH.ϥ ⟨λhk=>?_,ih h2⟩
  have:(r.π λk=>ab.ay (k.π ai.KT)).any (fz (.ay (k.π ai.KT)))=true:=KL.ϥ ⟨_,JL.ϥ ⟨k,hk,rfl⟩,by rw[GC];exact Γ rfl⟩
  rw[this] at h1;exact ς h1 JQ
def zb6{ks:ζ (ζ ai)}(h:ks.Ω)(i j:θ)(hi:i<j)(hj:j<ks.ε):(ks[i]?).ϡ [] ≠ (ks[j]?).ϡ []:=by
 rw[Jp hj,Jp (Zv hi hj)];exact λe=>ZG hi ((Yv h).mp e)
variable{as:List ab}
def Fe (S:St Y k w H s) {x:ab} (hx:jL C w x v):cf Y k (VR C) (call (.AT "set") [v]) w s (SK x H):=by
 refine .jf λl e=>.aw λhc=>?_;obtain⟨h1,h2⟩:=Jo.mp hc;obtain⟨h3,h4⟩:=Jo.mp h2;obtain⟨ks,rfl⟩:=Ov h3;have nd:=zc1 h4;obtain⟨b,ws,n,rfl,g,rr,lm⟩:=S.ο hx e;have hlen:=rr.ε;rw[Jq] at hlen;have h18:ks.ε<=18:=by have:=Zn.mp h1;rwa [Jq] at this
 intro r' e';refine lV e' ?_;obtain⟨all,hn,_,tp,_⟩:=S.dz;refine λQ E hq=>y8 (knd:=kA C.prog C.w) Y.v4 (Ju (Y.u (n:=3) (by decide)) (by rw[cLine_is];decide)) ⟨_,g,rfl,n,rfl⟩ (λj=>(ks[j]?).ϡ []) (λj v hj=>?_) (λi j hi hj=>zb6 nd i j hi (by rw[hlen];exact hj)) (by rw[Zo,<-hlen];exact h18) λh' tk ks' hT hl' hk=>?_
 ·have hj':ws[j]?=Qa v:=by rw[<-ZZ];exact hj
  have hjl:j<ks.ε:=by rw[hlen];exact(Jy.mp hj').1
  obtain⟨v',e1,e2⟩:=rr.Mi (i:=j) (m:=.ay (ks[j].π ai.KT)) (by rw[JE,Jp hjl];rfl)
  have:v'=v:=Qa.lf (e1.Μ.ν hj')
  refine eqE this ?_;rw[Jp hjl];exact S.gn e2
 ·obtain⟨o,es,ep,t',T,hex⟩:=hT
  have hsz:es.Ϡ=(ks.π λk=>ab.ay (k.π ai.KT)).ε:=by rw[T.n,hl',Zo,<-hlen,Jq]
  have le:w.le ⟨w.σ,(s.Ν.wi.Ϡ,o)::w.tp⟩:=⟨KZ _,λp hp=>.pc _ hp⟩;refine hq _ _ {s with heap:=h',toks:=tk} ⟨le,tp _ _ h' (S.fr.keeps hk) (λq hq=>?_) (Jv _),rfl,rfl⟩ ⟨_,o,es,ep,t',rfl,.mo _,hex,T.hd,T.fits,hsz,?_⟩
  ·rcases JM.mp hq with e|hq
   ·rw[e]
    exact⟨T.ho,Kb S.fr.ns.lt,wS.get?_none_of_le (Jn S.fr.above (JN S.fr.ns.lt))⟩
   ·exact⟨hk _ _ (hn q hq).1,(hn q hq).2⟩
  ·rw[Jq]
   exact Jn h18 (by decide)
open PySem.NumText
variable{T:List Value->Sem α}
section
variable{R:Wd->β->α->Prop}
def cf.a0{o:η (β×MH)}(r:jI C w as vs)(h:cf Y k R (T []) w s o):cf Y k R (T vs) w s (a0 as o):=by
 cases as with
 |Ϝ=>refine eqB r ?_;exact h
 |Ι _ _=>exact .Ε
def cf.a1{f:ab->η (β×MH)}(r:jI C w as vs)(h:∀v rv,jL C w v rv->cf Y k R (T [rv]) w s (f v)):cf Y k R (T vs) w s (a1 as f):=by
 cases as with
 |Ϝ=>exact .Ε
 |Ι v as=>obtain⟨rv,t,rfl,hv,r⟩:=r;exact .a0 (T:=λl=>T (rv::l)) r (h v rv hv)
def cf.a2{f:ab->ab->η (β×MH)}(r:jI C w as vs)(h:∀v rv,jL C w v rv->∀v' rv',jL C w v' rv'->cf Y k R (T [rv,rv']) w s (f v v')):cf Y k R (T vs) w s (a2 as f):=by
 cases as with
 |Ϝ=>exact .Ε
 |Ι v as=>obtain⟨rv,t,rfl,hv,r⟩:=r;exact .a1 (T:=λl=>T (rv::l)) r (h v rv hv)
end
def F7(l:ζ θ):θ:=l.foldl (λa c=>a*256+c) 0
def xZ(l:ζ θ)(c:θ):F7 (l++[c])=F7 l*256+c:=by unfold F7;rw[YR];rfl
def MU{a b c:θ}(h1:c<=255)(h2:c'<=255)(e:a*256+c=b*256+c'):a=b/\c=c':=by lia
def MV:∀(n:θ)(l l':ζ θ),l.ε<=n->(∀c∈l,1<=c/\c<=255)->(∀c∈l',1<=c/\c<=255)->F7 l=F7 l'->l=l':=by
 have nz:∀{r:ζ θ}{c:θ},(∀x∈r++[c],1<=x/\x<=255)->F7 (r++[c])≠0:=λ{r c} h e=>by
  rw[xZ] at e
  have:=(h c (JT _ (.mo _))).1
  lia
 intro n
 induction n with
 |zero=>
  intro l l' hl h h' e;cases Z3.mp (qap.mp hl);rcases Yp l' with rfl| ⟨r,c,rfl⟩
  ·rfl
  ·rw[K4] at*;exact ς e.Μ (nz h')
 |succ n ih=>
  intro l l' hl h h' e;rcases Yp l with rfl| ⟨r,c,rfl⟩
  ·rcases Yp l' with rfl| ⟨r',c',rfl⟩
   ·rfl
   ·rw[K4] at*;exact ς e.Μ (nz h')
  ·rcases Yp l' with rfl| ⟨r',c',rfl⟩
   ·rw[K4] at*;exact ς e (nz h)
   ·rw[K4] at*
    rw[K4,xZ,xZ] at*;obtain⟨e1,e2⟩:=MU (h c (JT _ (.mo _))).2 (h' c' (JT _ (.mo _))).2 e;rw[e2,ih r r' (by rw[Jx] at hl;exact KY hl) (λx hx=>h x (ZV _ hx)) (λx hx=>h' x (ZV _ hx)) e1]
def GL{y:ld}(hx:jQ x=Qe)(hy:jQ y=Qe)(e:eu x=eu y):x=y:=by
 have hd:∀z:ld,jQ z=Qe->∀c∈z.cps.ch,1<=c/\c<=255:=by
  intro z hz c hc;delta jQ at hz;simp only[ZR,Za,f8] at hz;exact hz.1.1.1.1 c hc
 have:=MV _ x.cps.ch y.cps.ch (Jv _) (hd x hx) (hd y hy) e
 cases x;cases y;exact ω ld.mk (ϛ.toList_inj.mp this)
section
variable{w:Qm}
theorem C3(d:Qk)(es:ζ Qi)(n:θ)(hd:(d==sysModules)=Qc):
  MeetsIn prog w (wT.«dict.__len__» ⟨[.ξ d],[]⟩) (λ_ R s=>s.Ν.sB d=Qa (Qn es n)/\R (.ok (.ret (.Β es.ε s.zn))) {s with toks:=s.zn+1}):=
 .of_wp λA R s ⟨ho,h⟩=>by
  show Qh _ _ (dictSize d>>=_) _ _ s;delta dictSize;refine Qb (Qb (Qp ho rfl (Qf ?_)));exact Qb (wpAny_pendingCount_other hd (wpAny_ret_mkInt (by simpa using h)))
def Pd{d:Qk}{Q:μ->Qg->Prop}(hd:(d==sysModules)=Qc)(ho:s.Ν.sB d=Qa (Qn es n))(hfit:(es.ε:Φ)<2 ^ 63)
  (h:Q (.Β es.ε (s.zn+1)) {s with toks:=s.zn+1+1}):Qh (model prog w) A (call (.ϭ "len") [.ξ d]) Q E s:=by
 refine Calls.call_function_entry kind_len plain_len entry_len (args_len1 _) ?_;unfold wT.«len»;refine Qb (m:=oneArg "len" _) (Qf ?_);refine Qb (m:=callSpecial? (.ξ d) (ld.ofString "__len__")) (LT (name:=ld.ofString "__len__") (⟨_,ho,rfl⟩:s.TypeIs (.ξ d) "dict") F.slot_dict_len
  (QH F.slot_dict_len (⟨_,ho,rfl⟩:s.TypeIs (.ξ d) "dict") F.entry_dict_len (F.args_dict_len_1 _) (C3 d es n hd) ⟨ho,?_⟩))
 refine Qb (Qj (Qf ?_));refine Qb (wpAny_letGo ?_);refine wN (YY.ϥ (K2 _)) ?_;refine wN (qaJ.ϥ hfit) ?_;exact Qb (wpAny_mkInt (Qf ⟨_,rfl,h⟩))
end
def OR (S:St Y k w H s) (r:jI C w as vs):cf Y k (VR C) (call (.ϭ "len") vs) w s (zaB as H):=by
 refine .a1 (T:=λl=>call (.ϭ "len") l) r λx v hx=> .ji λn e=> .KT S λQ E q=>?_;have q: ∀t tk,Q (.Β n t) {s with toks:=tk}:=λt tk=>q _ tk ⟨t,rfl⟩;have lst: ∀ {b:Qk}{ws:ζ μ},s.Ν.IsList b ws.υ->n=ws.ε->n<=bg->Qh C.M Y.A (call (.ϭ "len") [.ξ b]) Q E s:=λ{b ws} hL e hl=>by
  subst e;exact len_list hL (sC hl) (q _ _)
 cases x with
 |str l=>cases e;obtain⟨t,rfl,ok⟩:=hx;exact len_str (qaJ.ϥ (sC ok.2)) (q _ _)
 |ay l=>
  cases e;obtain⟨t,o,n',ws,rfl,ho,hc,hd,rr,hl⟩:=S.ay hx;refine PyProof.Rows.len_tuple (items:=ws.υ) ⟨o,ho,hc,n',hd⟩ (by rw[(by rw[Zo,rr.ε]:ws.υ.Ϡ=l.ε)];exact sC hl) ?_;rw[(by rw[Zo,rr.ε]:ws.υ.Ϡ=l.ε)];exact q _ _
 |fl l=>cases e;obtain⟨b,o,n',ws,rfl,h,rr,hl⟩:=hx;exact lst ⟨o,S.ml _ _ h.TF,h.cls,n',h.Ta⟩ rr.ε hl
 |ref i=>
  revert e
  refine lB (kL λl hl e=>?_) (kL λp hp e=>?_)
  ·obtain⟨t,ws,n',rfl,ho,rr,hl⟩:=S.ο hx hl
   exact lst ⟨_,ho,rfl,n',rfl⟩ (e.Μ.ν rr.ε) (e▸hl)
  ·obtain⟨_,_,b,n',es,rfl,hmod,_,hg,hdr,hl,_⟩:=S.Υ hx hp
   exact Pd hmod hg (by rw[hdr.gi.1];exact sC hl) (by rw[(hdr.gi.1.ν e)];exact q _ _)
 |jr i=>
  cases e;obtain⟨_,_,_,_,_,rfl,h⟩:=hx;exact call_len_set (S.uq h.TF) h.ex h.Ta h.fits (by rw[h.Ϡ];exact sC h.le) (by rw[h.Ϡ];exact q _ _)
 |_=>exact ag e
theorem cb.oq(S:cb C Y.h₀ Y.L k w H h)(hk:∀b o,h.sB b=Qa o->h'.sB b=Qa o):cb C Y.h₀ Y.L k w H h':=
 SB.Δ S.dz λall hn _ _ g=>g h' (S.fr.keeps hk) λp hp=>⟨hk _ _ (hn p hp).1,(hn p hp).2⟩
def cf.Β{t:Sem μ}{z:Φ}(S:St Y k w H s)(h:∀(Q:μ->Qg->Prop)(E:μ->Qg->Prop),(∀u h' tk,(∀b o,s.Ν.sB b=Qa o->h'.sB b=Qa o)->Q (.Β z u) {s with heap:=h',toks:=tk})->Qh C.M Y.A t Q E s):cf Y k (VR C) t w s (Qa (.Β z,H)):=by
 intro r e;refine lV e ?_;exact λQ E hq=>h Q E λu h' tk hk=>hq w _ _ ⟨.TC w,S.oq hk,rfl,rfl⟩ ⟨u,rfl⟩
def OQ (S:St Y k w H s) (r:jI C w as vs):cf Y k (VR C) (call (.ϭ "max") vs) w s (zaA as H):=by
 refine .a2 (T:=λl=>call (.ϭ "max") l) r λx v hx y u hy=> .jf λa ea=> .ji λb eb=>?_;obtain⟨_,rfl⟩:=hx.xz ea;obtain⟨_,rfl⟩:=hy.xz eb;refine .Β S λQ E q=>max_two_ints Y.v4 λh' tk hk=>?_;by_cases c:b>a
 ·rw[φ c] at q ⊢;exact q _ h' tk hk
 ·rw[τ c] at q ⊢;exact q _ h' tk hk
def OP (S:St Y k w H s) (r:jI C w as vs):cf Y k (VR C) (call (.ϭ "min") vs) w s (zaz as H):=by
 refine .a2 (T:=λl=>call (.ϭ "min") l) r λx v hx y u hy=> .jf λa ea=> .ji λb eb=>?_;obtain⟨_,rfl⟩:=hx.xz ea;obtain⟨_,rfl⟩:=hy.xz eb;refine .Β S λQ E q=>min_two_ints Y.v4 λh' tk hk=>?_;by_cases c:b<a
 ·rw[φ c] at q ⊢;exact q _ h' tk hk
 ·rw[τ c] at q ⊢;exact q _ h' tk hk
def vZ{t:ζ (θ×Tm)}{m:θ}{x y:Tm}(h:(n==m)=Qe)(hx:t.Α n=Qa x)(hy:t.Α m=Qa y):x=y:=by rw[χ.mp h] at hx;exact Qa.lf (hx.Μ.ν hy)
def Ff (S:St Y k w H s) (r:jI C w as vs):cf Y k (VR C) (call (.AT "range") vs) w s (Ax as H):=by
 refine .a1 (T:=λl=>call (.AT "range") l) r λx v hx=> .ji λn e=>?_;obtain⟨t,rfl⟩:=hx.xz e;intro r' e';refine lV e' ?_;obtain⟨all,hn,_,tp,_⟩:=S.dz;exact λQ E hq=>call_range_1 (hq ⟨w.σ,_::w.tp⟩ _ {s with heap:=_,toks:=_} ⟨⟨KZ _,λp hp=> .pc _ hp⟩,tp _ _ _ (S.fr.Te _) (hn.Te S.fr _) (Jv _),rfl,rfl⟩ ⟨_,_,_,_,rfl,.mo _⟩)
def Dv (S:St Y k w H s) (r:jI C w as vs):cf Y k (VR C) (call (.AT "list") vs) w s (B7 as H):=by
 have key: ∀ {mvs:ζ ab}{ws:ζ μ}{la:Qk}{o:Go}{n:θ},jI C w mvs ws->mvs.ε<=bg->s.Ν.sB la=Qa o->(o.cls= .AT "list"\/o.cls= .AT "tuple") ->o.Ta= .seq ws.υ n->cf Y k (VR C) (call (.AT "list") [.ξ la]) w s (mC H (.ο mvs)):=by
  intro mvs ws la o n rr hl ho hc hd r' e' Q E hq;obtain rfl:=Qa.lf e';obtain⟨all,hn,add,_,_⟩:=S.dz;have le:w.le ⟨w.σ++[s.Ν.wi.Ϡ],w.tp⟩:=⟨Zk _ _,λ_ x=>x⟩;have hsz:ws.υ.Ϡ<=sizeLine:=by rw[Zo,<-rr.ε];exact Jn hl l8
  have fb:∀h' c',(∀b o,s.Ν.sB b=Qa o->h'.sB b=Qa o)->h'.sB s.Ν.wi.Ϡ=Qa (listOf ws.υ c')->Q (.ξ s.Ν.wi.Ϡ) {s with heap:=h'}:=λh' c' hk hD=>
   hq _ _ _ ⟨le,add _ (.ο mvs) [_] h' ⟨ws,c',rfl,rr.Τ le,hl⟩ (S.fr.keeps hk) (news_pushed S.fr hn hk hD rfl) (qP _) (Tu.fresh hn λp hp=>JD.mp hp▸Jv _) (S.ou (Jv _)),rfl,rfl⟩ ⟨_,rfl,by rw[<-S.lv];exact Zi⟩
  rcases hc with hc|hc
  ·exact call_list_seq (hsz:=hsz) la (.wv rfl) ho hc hd fb
  ·exact call_list_seq (hsz:=hsz) la (.IO rfl) ho hc hd fb
 refine .a1 (T:=λl=>call (.AT "list") l) r λx v hx=> .bj (.jf λl e=>?_) (.bj (.jf λl e=>?_) (.jf λl e=>?_))
 ·cases tup?_s e
  obtain⟨t,o,n,ws,rfl,ho,hc,hd,rr,hl⟩:=S.ay hx;exact key rr hl ho (.IO hc) hd
 ·cases fl?_s e
  obtain⟨t,o,n,ws,rfl,q,rr,hl⟩:=hx;exact key rr hl (S.ml _ _ q.TF) (.wv q.cls) q.Ta
 ·obtain⟨la,ws,n,rfl,ho,rr,hl⟩:=S.ο hx e
  exact key rr hl ho (.wv rfl) rfl
def Dt (S:St Y k w H s) (r:jI C w as vs):cf Y k (VR C) (call (.AT "type") vs) w s (B6 as H):=by
 refine .a1 (T:=λl=>call (.AT "type") l) r λx v hx=> .ji λn e=> .KT S λQ E q=>?_;have fb: ∀ {T:Tm},rG.Α n=Qa T->Q (.AT T) s:=λhT=>q _ s.zn ⟨_,rfl,hT⟩;cases x with
 |none=>obtain rfl:=Qa.lf e;refine eqB hx ?_;exact QD (Tx:="NoneType") rfl rfl (fb rfl)
 |bool b=>obtain rfl:=Qa.lf e;refine eqB hx ?_;exact QD (Tx:="bool") rfl rfl (fb rfl)
 |int i=>obtain rfl:=Qa.lf e;obtain⟨_,rfl⟩:=hx;exact QD (Tx:="int") rfl rfl (fb rfl)
 |str l=>obtain rfl:=Qa.lf e;obtain⟨_,rfl,_⟩:=hx;exact QD (Tx:="str") rfl rfl (fb rfl)
 |ay l=>obtain rfl:=Qa.lf e;obtain⟨t,o,n,ws,rfl,ho,hc,_,_,_⟩:=S.ay hx;exact QD (Tx:="tuple") ⟨o,ho,hc⟩ rfl (fb rfl)
 |ref i=>
  refine(ms e).ι λl zq9=>?_;have e:=zq9.2;subst e;obtain⟨la,ws,n,rfl,ho,_,_⟩:=(S.ο hx zq9.1);exact QD (Tx:="list") ⟨_,ho,rfl⟩ rfl (fb rfl)
 |_=>exact ag e
def Dw (S:St Y k w H s) (r:jI C w as vs):cf Y k (VR C) (call (.AT "dict") vs) w s (B8 as H):=by
 refine .a1 (T:=λl=>call (.AT "dict") l) r λx v hx=> .jf λp hp=> .aw λhk=>?_;intro r' e';refine lV e' ?_;refine(S.Υ hx hp).ι λ_ zq4=>?_;obtain⟨b,n,es,rfl,hmod,_,hg,hdr,hl,_⟩:=zq4.2;obtain⟨kvs,D⟩: ∃kvs,DA C w p.2 es kvs:=by
  cases hp2:p.2 with
  |Ϝ=>rw[hp2] at hdr;exact hdr.atom (a:=.i 0) rfl
  |Ι q qs=>
   rw[hp2] at hdr hk;have h1:=χ.mp (Jo.mp hk).1;rcases hdr with h| ⟨xs,D⟩
   ·exact h
   ·have e:=D.e
    cases xs with
    |Ϝ=>cases e
    |Ι x xs=>rw[show q.1=.ay (x.1.π ai.KT) from(Kl.lf e).1,nS] at h1;cases h1
 obtain⟨all,hn,add,_,_⟩:=S.dz;refine λQ E hq=>kt_call_dict (knd:=kA C.prog C.w) hmod (D.Rs hg) (by rw[<-yL D.e];exact Jn hl l8) λh' hD hs=>?_;obtain⟨o,es',ep',ho',hex,hd,q1,q2,q3⟩:=hD;have hoe:o=Qn es'.ch ep':=by
  obtain⟨oc,od,odata,osl⟩:=o;obtain⟨x1,x2,x3⟩:=hex;subst x1;subst x2;cases x3;cases hd;rfl
 have hkeep:∀c x,s.Ν.sB c=Qa x->h'.sB c=Qa x:=λc x hc=>(hs.2 c (ZG (Ky hc))).ν (wS.Ϯ _ hc);refine hq _ _ {s with heap:=h'} ⟨(⟨Zk _ _,λ_ x=>x⟩:w.le ⟨w.σ++[s.Ν.wi.Ϡ],w.tp⟩),add _ (.Υ Qd p.2) [(s.Ν.wi.Ϡ,Qn es'.ch ep')] h' ⟨_,_,rfl,λe he=>ag he,qK.Τ (⟨Zk _ _,λ_ x=>x⟩:w.le ⟨w.σ++[s.Ν.wi.Ϡ],w.tp⟩) (.wv ⟨kvs,q2,q1,D.n,D.e,D.ok,D.r⟩),hl⟩ (S.fr.keeps hkeep) (λq hq=>?_) (qP _) (Tu.fresh hn λp hp=>JD.mp hp▸Jv _) (S.ou (Jv _)),rfl,rfl⟩ ⟨_,rfl,by rw[<-S.lv];exact Zi⟩;rcases JM.mp hq with e|hq
 ·rw[e]
  exact⟨by rw[<-hoe];exact ho',Kb S.fr.ns.lt,wS.get?_none_of_le (Jn S.fr.above (JN S.fr.ns.lt))⟩
 ·exact⟨hkeep _ _ (hn q hq).1,(hn q hq).2⟩
theorem zbw{nm:Tm}(hb:rG.Α n=Qa nm)(S:St Y k w H s)(r:jI C w as vs):cf Y k (VR C) (call (.AT nm) vs) w s (GR n as H):=
 .bj (.aw λh=>vZ (t:=rG) h hb (y:="range") rfl▸Ff S r) (.bj (.aw λh=>vZ (t:=rG) h hb (y:="list") rfl▸Dv S r) (.bj (.aw λh=> .Ε)
 (.bj (.aw λh=>vZ (t:=rG) h hb (y:="type") rfl▸Dt S r) (.bj (.aw λh=>vZ (t:=rG) h hb (y:="dict") rfl▸Dw S r) (.bj (.aw λh=> .Ε) (.aw λh=>vZ (t:=rG) h hb (y:="set") rfl▸ .a1 (T:=λl=>call (.AT "set") l) r λx v hx=>Fe S hx))))))
def FH:jQ "append"=Qe/\eu "append"=fe:=by decide+kernel
def zbZ:jQ "pop"=Qe/\eu "pop"=ql:=by decide+kernel
def zb0:jQ "get"=Qe/\eu "get"=kg:=by decide+kernel
def DF:jQ "isspace"=Qe/\eu "isspace"=lh:=by decide+kernel
theorem Gu(hn:jQ nm=Qe)(ok:jQ x=Qe/\eu x=n)(h:(eu nm==n)=Qe):x=nm:=GL ok.1 hn (ok.2.ν (χ.mp h).Μ)
def NL{C:bf}{d e:θ}(Y:kJ C d e)(k:Kp)(w:Wd)(vx:μ)(vs:ζ ab)(h2:MH)(r:ab×MH)(id:Tm):Prop:=
 ∀w2 s2 ws,w.le w2->St Y k w2 h2 s2->jI C w2 vs ws->NQ Y k (VR C) (call (.ϭ id) (vx::ws)) w2 s2 r.1 r.2
def SA{C:bf}{d e:θ}(Y:kJ C d e)(k:Kp)(w:Wd)(s:Qg)(vx:μ)(nm:ld)(vs:ζ ab)(h2:MH)(r:ab×MH):Prop:=
 ∀(pl:Sem Ζ)(Q:μ×ζ μ->Qg->Prop)(E:μ->Qg->Prop),(∀id,NL Y k w vx vs h2 r id->Q (.ϭ id,[vx]) s)->Qh C.M Y.A (getMethod vx nm pl) Q E s
variable{h2:MH}{r:ab×MH}
theorem NL.of{vs:ζ ab}{o:η (ab×MH)}(e:o=Qa r)(h:∀w2 s2 ws,w.le w2->St Y k w2 h2 s2->jI C w2 vs ws->cf Y k (VR C) (call (.ϭ id) (vx::ws)) w2 s2 o):NL Y k w vx vs h2 r id:=
 λw2 s2 ws l S2 rr=>h w2 s2 ws l S2 rr r e
def Lr(hn:jQ nm=Qe){x:ζ θ}{u:Tok}(ok:rx x){vs:ζ ab}:AD x (eu nm) vs h2=Qa r->SA Y k w s (.Ϥ ⟨x.υ⟩ u) nm vs h2 r:=by
 refine l6 λh e=>?_;cases Gu hn DF h;refine λpl Q E q=>GM.isspace (q "str.isspace" (.of e λw2 s2 ws l S2 rr=> .a0 (T:=λl=>call (.ϭ "str.isspace") (_::l)) rr (.KT S2 λQ E q=>SC.isspace (q _ s2.zn rfl))))
def Ml:∀{ws:ζ μ}{v:ab},jI C w mvs ws->mvs.getLast?=Qa v->∃p y,kl_last ws=Qa (p,y)/\jI C w mvs.dropLast p/\jL C w v y:=by
 intro ws v r e;have hne:mvs≠[]:=λq=>by rw[q] at e;cases e
 have hl:kl_last ws≠none:=λq=>by
  rw[kl_last_none q] at r;cases mvs with
  |Ϝ=>exact hne rfl
  |Ι _ _=>obtain⟨_,_,e,_,_⟩:=r;cases e
 obtain⟨⟨p,y⟩,hpy⟩:=η.ne_none_iff_exists'.mp hl;refine⟨p,y,hpy,?_⟩;have hm:mvs.dropLast++[v]=mvs:=by
  have h1:=Xl hne;rwa [show mvs.getLast hne=v from Qa.lf ((ζ.getLast?_eq_getLast hne).Μ.ν e)] at h1
 rw[<-hm,kl_last_spec hpy] at r
 clear hm hpy hl e hne
 generalize mvs.dropLast=q at r ⊢
 induction q generalizing p with
 |Ϝ=>
  cases p with
  |Ϝ=>obtain⟨_,_,e,h,_⟩:=r;cases e;exact⟨.Ϝ,h⟩
  |Ι a p=>have:=r.ε;simp at this
 |Ι b q ih=>
  cases p with
  |Ϝ=>have:=r.ε;simp at this
  |Ι a p=>
   obtain⟨_,_,e,h,r⟩:=r;cases e;obtain⟨h1,h2⟩:=ih p r;exact⟨.Ι h h1,h2⟩
inductive zaL{C:bf}{d e:θ}(Y:kJ C d e)(k:Kp)(w:Wd)(H:MH)(s:Qg)(i:θ)(la:Qk)(mvs:ζ ab):Prop
 |mk(ws:ζ μ)(n:θ)(pre post:bw)(r:jI C w mvs ws)(l:mvs.ε<=bg)(hn:Tu Y.h₀ Y.L s.Ν (pre++(la,listOf ws.υ n)::post))
   (u:∀ws' n',Upd la (listOf ws.υ n) (listOf ws' n') (pre++(la,listOf ws.υ n)::post) (pre++(la,listOf ws' n')::post))
   (g:∀mvs' ws' n' h',jI C w mvs' ws'->mvs'.ε<=bg->Fr Y.h₀ Y.L h' k.m->Tu Y.h₀ Y.L h' (pre++(la,listOf ws'.υ n')::post)->cb C Y.h₀ Y.L k w (H.Ϫ i (.ο mvs')) h'):zaL Y k w H s i la mvs
def cb.ua(S:St Y k w H s)(ha:w.σ[i]?=Qa la)(hm:H[i]?.Η ae.Tl=Qa mvs):zaL Y k w H s i la mvs:=by
 refine xEA (bs hm) λo hi h2=>?_;cases list?_s h2;obtain⟨pre,en,post,⟨ws,n,rfl,r,l⟩,hn,hd,g⟩:=S.at ha hi;exact⟨ws,n,pre,post,r,l,hn,λws' n'=>vW hd,λmvs' ws' n' h' r' l' F N=>g (.ο mvs') [(la,listOf ws'.υ n')] h' rfl ⟨ws',n',rfl,r',l'⟩ F N⟩
variable{y:ab}
def z7 (S:St Y k w H s) (ha:w.σ[i]?=Qa la) (hm:H[i]?.Η ae.Tl=Qa mvs) (hy:jL C w y yv) (hlen:mvs.ε<bg):cf Y k (VR C) (call (.ϭ "list.append") [.ξ la,yv]) w s (Qa (.Ε,H.Ϫ i (.ο (mvs++ [y])))):=by
 obtain⟨ws,n,pre,post,r,l,hn,u,g⟩:=S.ua ha hm;intro r' e';cases e';refine λQ E hq=>append_K S.fr hn (u (ws.υ.Te yv) (n+1)) (λh' F' N'=>hq w _ {s with heap:=h'} ⟨.TC w,g (mvs++[y]) (ws++[yv]) (n+1) h' (jI.append (.cw hy) r) (by rw[Jx];exact hlen) F' (by rw[ζ.push_toArray] at N';exact N'),rfl,rfl⟩ rfl) ?_;rw[Zo,<-r.ε];exact Jn l l8
variable{mvs0:List ab}
def Gd(hn:jQ nm=Qe)(S:St Y k w H s)(ha:w.σ[i]?=Qa la){vs:ζ ab}(hm0:H[i]?.Η ae.Tl=Qa mvs0)(hm:h2[i]?.Η ae.Tl=Qa mvs):wG i mvs (eu nm) vs h2=Qa r->SA Y k w s (.ξ la) nm vs h2 r:=by
 have zq12:=S.ο (x:=.ξ i) ⟨la,rfl,ha⟩ hm0;obtain⟨_,ws0,n0,e0,ho,_,_⟩:=zq12;cases e0;refine lB (l6 λh e=>?_) (l6 λh e=>?_)
 ·cases Gu hn FH h
  exact λpl Q E q=>getMethod_list_append ho rfl rfl (q "list.append" (.of e λw2 s2 ws l S2 rr=> .a1 (T:=λl=>call (.ϭ "list.append") (_::l)) rr λy vy hy=> .aw λhl=>z7 S2 (l.Mi ha) hm hy (Zn.mp hl)))
 ·cases Gu hn zbZ h
  refine λpl Q E q=>Jd ⟨_,ho,rfl⟩ Ρ.F.plainAttrs_list Ρ.F.slot_list_pop Ρ.F.type_list_pop (λa e=>by cases e;exact⟨_,ho,rfl⟩) (q "list.pop" (.of e λw2 s2 ws l S2 rr=> .a0 (T:=λl=>call (.ϭ "list.pop") (_::l)) rr (.ji λv hv=>?_)));obtain⟨ws,n,pre,post,r,l',hn,u,g⟩:=S2.ua (l.Mi ha) hm;refine(Ml r hv).ι λp zq9=>zq9.ι λy zq10=>?_;intro r' e';cases e';exact λQ E hq=>kl_pop S2.fr hn zq10.1 (u p.υ (n+1)) (by rw[ζ.toList_toArray,<-r.ε];exact Jn l' l8) λh' F' N'=>hq w2 y {s2 with heap:=h'} ⟨.TC w2,g mvs.dropLast p (n+1) h' zq10.2.1 (Jn (by rw[ζ.length_dropLast];exact qaL _ _) l') F' N',rfl,rfl⟩ zq10.2.2
variable{p0 p:Option Nat×List (ab×ab)}
def Gf(hn:jQ nm=Qe)(S:St Y k w H s)(ha:w.σ[i]?=Qa la){vs:ζ ab}(hm0:H[i]?.Η ae.dict?=Qa p0)(hm:h2[i]?.Η ae.dict?=Qa p):wY p.2 (eu nm) vs h2=Qa r->SA Y k w s (.ξ la) nm vs h2 r:=by
 obtain⟨_,n0,es0,e0,_,_,hg,_,_,_⟩:=S.jz ⟨la,rfl,ha⟩ hm0;cases e0;refine l6 λh e=>?_;cases Gu hn zb0 h;refine λpl Q E q=>Jd ⟨_,hg,rfl⟩ Ρ.F.plainAttrs_dict K5 Ρ.F.type_dict_get (λa e=>by cases e;exact⟨_,hg,rfl⟩) (q "dict.get" (.of e λw2 s2 ws l S2 rr=>?_));have key: ∀ {x dv:ab}{kv dvv:μ}{args:ζ μ},jL C w2 x kv->jL C w2 dv dvv->jT p.2 x=Qe->((args= [.ξ la,kv]/\dvv= .Ε)\/args= [.ξ la,kv,dvv]) ->cf Y k (VR C) (call (.ϭ "dict.get") args) w2 s2 (Qa ((jW p.2 x).ϡ dv,h2)):=by
  intro x dv kv dvv args hk hdv hf hargs;refine .KT S2 λQ E q=>?_;obtain⟨_,n2,es,e2,hmod,_,hg2,hdr,_,_⟩:=S2.jz ⟨la,rfl,l.Mi ha⟩ hm;cases e2;have fb:∀{o:η μ},Ak C w2 (jW p.2 x) o->∀tk,Q (o.ϡ dvv) {s2 with toks:=tk}:=λh tk=>by
   rcases h with ⟨q1,rfl⟩| ⟨mv,rv,q1,rfl,q3⟩
   ·rw[q1] at q;exact q _ tk hdv
   ·rw[q1] at q;exact q _ tk q3
  rcases oR (Jo.mp hf).1 with ⟨ka,rfl⟩| ⟨ka,rfl⟩
  ·obtain⟨kvs,D⟩:=hdr.atom hf
   have hD:=D.Rs hg2;rcases hargs with ⟨rfl,rfl⟩|rfl
   ·exact QH K5 hD.wn Yj (qaa _ _) (meets_dict_get _ la hk.atom.1 hmod) ⟨_,hD.mapOf,fb (D.Mi ka) _⟩
   ·exact QH K5 hD.wn Yj (qab _ _ _) (meets_dict_get_default _ la hk.atom.1 hmod dvv) ⟨_,hD.mapOf,fb (D.Mi ka) _⟩
  ·obtain⟨xs,D⟩:=hdr.oh hf
   have hD:=D.Rs S2 hg2;obtain⟨t,rfl,ht⟩:=S2.gn hk;rcases hargs with ⟨rfl,rfl⟩|rfl
   ·exact QH K5 hD.wn Yj (qaa _ _) (meetsH_dict_get _ la t hmod) ⟨Y.room,ka,xs,ht,hD,fb (D.Mi ka) _⟩
   ·exact QH K5 hD.wn Yj (qab _ _ _) (meetsH_dict_get_default _ la t hmod dvv) ⟨Y.room,ka,xs,ht,hD,fb (D.Mi ka) _⟩
 exact .bj (.a1 (T:=λl=>call (.ϭ "dict.get") (_::l)) rr λx kv hk=> .aw λhf=>key hk rfl hf (.wv ⟨rfl,rfl⟩)) (.a2 (T:=λl=>call (.ϭ "dict.get") (_::l)) rr λx kv hk dv dvv hd=> .aw λhf=>key hk hd hf (.IO rfl))
def CI(hn:jQ nm=Qe)(S:St Y k w H s){x:ab}(hx:jL C w x vx){vs:ζ ab}:yQ x (eu nm) vs H h2=Qa r->SA Y k w s vx nm vs h2 r:=by
 refine lB (j1 λl e1 e=>?_) (j1 λi e1=>lB (j1 λm0 e2=>j1 λm e3 e=>?_) (j1 λm0 e2=>j1 λm e3 e=>?_))
 ·obtain⟨u,rfl,ok⟩:=hx.str? e1
  exact Lr hn ok e
 ·cases ref?_s e1
  obtain⟨la,rfl,ha⟩:=hx;exact Gd hn S ha e2 e3 e
 ·cases ref?_s e1
  obtain⟨la,rfl,ha⟩:=hx;exact Gf hn S ha e2 e3 e
inductive Vu(C:bf)(id c:θ):Prop
 |mk(a ca dx:Qk)(n:θ)(k1:C.ad.Α id=Qa a)(k2:C.ad.Α c=Qa ca)(k3:C.K.Α a=Qa ⟨.ξ ca,Qa dx,.plain,#[]⟩)(k4:C.K.Α dx=Qa (Qn [] n)):Vu C id c
inductive qJ(C:bf)(c n:θ)(P:Qk->ld->Prop):Prop
 |mk(ca:Qk)(name:ld)(k1:C.ad.Α c=Qa ca)(k2:jQ name=Qe)(k3:eu name=n)(k4:plainGet C.K ca name=Qe)(k5:hasDictIn C.K ca=Qe)(p:P ca name):qJ C c n P
inductive NR(C:bf)(v:ab)(ca:Qk)(name:ld):Prop
 |mk(av:μ)(k6:findIn C.K (.ξ ca) name=Qa (Qa av))(k7:∀w,jL C w v av)
  (k8:UH C.P v=Qe->isFn C.K av=Qe/\specialIn C.K (.ξ ca) "__getattribute__"=Qa (Qa (.ϭ "type.__getattribute__"))/\∃mc,typeIn C.K (.ξ ca)=Qa mc/\readsIn C.K ca mc=Qe/\findCls C.K (.ξ ca) mc name=Qa (.KT av)) (k9:UH C.P v=Qc->specialIn C.K av "__get__"=Qa Qd/\handedIn av=Qe/\copiedNames.Tc name=Qc):NR C v ca name
inductive zdC(C:bf)(ca:Qk)(name:ld):Prop
 |mk(aq:η μ)(k6:findIn C.K (.ξ ca) name=Qa aq)(k7:noGet C.K aq=Qe)
  (k8:takerIn C.K ca name=Qa Qd) (k9:findIn C.K (.ξ ca) "__setattr__"=Qa (Qa (.ϭ "object.__setattr__"))) (k10:plainOver C.K ca=Qe):zdC C ca name
inductive Vv(C:bf)(c i:θ):Prop
 |mk (ca fI:Qk) (k1:C.ad.Α c=Qa ca) (k2:C.ad.Α i=Qa fI) (k3:makesIn C.K ca=Qe) (k4:findIn C.K (.ξ ca) "__init__"=Qa (Qa (.ξ fI))) (k5:isFn C.K (.ξ fI)=Qe) (k6:keepIn C.K (.ξ ca)=Qe):Vv C c i
def xH(C:bf)(f:Fn)(fd:Q0)(xs:ζ ld):Prop:=
 (f.oz=[]/\∀vs:ζ μ,vs.ε=f.np->bindArgs fd ⟨vs,[]⟩=pure (xs.zip vs))\/
 (f.oz≠[]/\∃dvs,(∀w,jI C w f.oz dvs)/\∀(S:Q5)(vs:ζ μ),vs.ε<=f.np->f.np-vs.ε<=dvs.ε->peek C.K S (bindArgs fd ⟨vs,[]⟩)=Qa (xs.zip (vs++dvs.jp (dvs.ε-(f.np-vs.ε)))))
inductive G5(C:bf)(gl:ζ (ld×ab))(f:Fn):Prop
 |mk(a:Qk)(name qual:ld)(params:Q4)(body:ζ Qz)(scope:Scope)(dV kV doc pm:μ)(an:η Qk)(cdv ct oc:μ)(od:η Qk)(osl:ϛ (η μ))(k1:C.ad.Α f.gw=Qa a)(k2:C.K.Α a=Qa ⟨oc,od,.func (fnOf name qual params body scope dV kV doc pm an cdv ct),osl⟩)
  (k3:codeIn C.K cdv qual=Qe) (k4:W8 gl params body scope=Qa (f.np,f.ns,f.TI)) (k6:keepIn C.K (.ξ a)=Qe)
  (k7:xH C f (fnOf name qual params body scope dV kV doc pm an cdv ct) (params.TJ.π (·.arg)))
  (k8:(params.TJ.π (·.arg)).Ω) (k10:((cellsFrom 0 scope.ui []).π (·.1)).Ω):G5 C gl f
def EI (C:bf):Prop:= ∀ {d e:θ}{Y:kJ C d e}{k:Kp}{w:Wd}{H:MH}{s:Qg}{as:ζ ab}{vs:ζ μ},uY C->St Y k w H s->jI C w as vs->cf Y k (VR C) (call (.ϭ "sorted") vs) w s (HJ as H)
def mU(C:bf)(gl:ζ (ld×ab)):Prop:=NO C gl/\(∀a f,C.P.kh a=Qa f->f.gw=a/\G5 C gl f)/\(∀id c,C.P.cg id=Qa c->Vu C id c)/\(∀c n v,C.P.kj c n=Qa v->qJ C c n (NR C v))/\(∀c n,C.P.cz c n=Qe->qJ C c n (zdC C))/\(∀c k i,C.P.gb c=Qa k->k.init=Qa i->Vv C c i)/\uY C/\EI C
section
variable{C:bf}{gl:List (Str×ab)}(ψ:mU C gl)
def mU.yj:=@ψ.1
def mU.nf:=@ψ.2.1
def mU.jy:=@ψ.2.2.1
def mU.kc:=@ψ.2.2.2.1
def mU.qx:=@ψ.2.2.2.2.1
def mU.ud:=@ψ.2.2.2.2.2.1
def mU.ij:=@ψ.2.2.2.2.2.2.1
def mU.fR:=@ψ.2.2.2.2.2.2.2
end
variable{gl:List (Str×ab)}
section
variable{cx:CC}{fr:Frame}
def qJ.use{c:θ}(h:qJ C c n P)(hn:jQ nm=Qe)(e:n=eu nm)(hc:C.ad.Α c=Qa ca):plainGet C.K ca nm=Qe/\hasDictIn C.K ca=Qe/\P ca nm:=by
 obtain⟨ca',name,k1,k2,k3,k4,k5,p⟩:=h;cases Qa.lf (k1.Μ.ν hc);cases GL k2 hn (k3.ν e);exact⟨k4,k5,p⟩
def Bl:∀p∈xB,handedIn (.ϭ p.2)=true:=by decide+kernel
def F3{v:ab}(h:jL C w v rv):handedIn rv=true:=by
 cases v with
 |none=>refine eqB h ?_;rfl
 |bool b=>refine eqB h ?_;rfl
 |int i=>obtain⟨t,rfl⟩:=h;rfl
 |str i=>obtain⟨t,rfl,_⟩:=h;rfl
 |ay i=>obtain⟨_,_,_,_,rfl,_,_,_⟩:=h;rfl
 |ref i=>obtain⟨_,rfl,_⟩:=h;rfl
 |aj i=>obtain⟨_,rfl,_⟩:=h;rfl
 |ty i=>obtain⟨_,rfl,_⟩:=h;rfl
 |bi i=>obtain⟨n,rfl,hb⟩:=h;exact Bl _ (kG hb)
 |gq i=>obtain⟨_,_,_,_,rfl,_⟩:=h;rfl
 |fl i=>obtain⟨_,_,_,_,rfl,_,_,_⟩:=h;rfl
 |jr i=>obtain⟨_,_,_,_,_,rfl,_⟩:=h;rfl
def UG{t:Tok}(hx:jQ x=Qe)(hn:jQ nm=Qe):(KQ x t).isStr nm=(eu x==eu nm):=by
 show (x==nm)=_;rw[Kq,χ,χ];exact⟨λe=>e▸rfl,GL hx hn⟩
inductive zdE(C:bf)(w:Wd)(m:η ab)(o:η (η μ)):Prop
 |none(h1:m=.Ε)(h2:o=Qa .Ε):zdE C w m o
 |some(v:ab)(rv:μ)(h1:m=Qa v)(h2:o=Qa (Qa rv))(r:jL C w v rv):zdE C w m o
def tG.Mi(hn:jQ nm=Qe):∀{fs:ζ (θ×ab)}{es:ζ Qi},tG C w fs es->es.any (·.refKey)=Qc/\((vG fs (eu nm)=Qd/\es.find? (·.key.isStr nm)=Qd)\/∃v e,vG fs (eu nm)=Qa v/\es.find? (·.key.isStr nm)=Qa e/\jL C w v e.KT):=by
 intro fs
 induction fs with
 |Ϝ=>intro es h;rw[show es=[] from h];exact⟨rfl,.wv ⟨rfl,rfl⟩⟩
 |Ι p fs ih=>
  intro es h;obtain⟨x,t,hsh,v,r,rfl,h1,h2,h3,h4⟩:=h;obtain⟨i1,i2⟩:=ih h4;refine⟨i1,?_⟩;unfold vG at i2 ⊢;rw[YD,YD]
  dsimp only
  rw[UG h1 hn,h2];cases hq:(p.1==eu nm) with
  |true=>exact .IO ⟨_,_,rfl,rfl,h3⟩
  |false=>exact i2
def tG.getL(hn:jQ nm=Qe){fs:ζ (θ×ab)}(r:tG C w fs es):zdE C w (vG fs (eu nm)) (getL nm es):=by
 obtain⟨hr,h⟩:=r.Mi hn;delta W.getL;rcases h with ⟨h1,h2⟩| ⟨v,e,h1,h2,h3⟩
 ·rw[h2]
  exact .Ε h1 (by dsimp only;rw[hr];rfl)
 ·rw[h2]
  exact .some v e.KT h1 rfl h3
def tG.put(hn:jQ nm=Qe){t:Tok}{v:ab}(hv:jL C w v rv):∀{fs:ζ (θ×ab)}{es:ζ Qi},tG C w fs es->tG C w (WH fs (eu nm) v) (putL nm hsh (.Ϥ nm t) rv es):=by
 intro fs
 induction fs with
 |Ϝ=>intro es h;rw[show es=[] from h];exact⟨nm,t,hsh,rv,[],rfl,hn,rfl,hv,rfl⟩
 |Ι p fs ih=>
  intro es h;obtain⟨x,t',hsh',v',r,rfl,h1,h2,h3,h4⟩:=h;show tG C w (bif p.1==eu nm then _ else _) _;unfold putL;rw[UG h1 hn,h2];refine vL (p.1==eu nm) (λhq=>?_) λhq=>?_
  ·rw[hq]
   rw[φ rfl];exact⟨x,t',hsh',rv,r,rfl,h1,h2.ν (χ.mp hq),hv,h4⟩
  ·rw[hq]
   rw[τ JQ];exact⟨x,t',hsh',v',_,rfl,h1,h2,h3,(ih h4)⟩
def tG.ε:∀{fs:ζ (θ×ab)}{es:ζ Qi},tG C w fs es->es.ε=fs.ε:=by
 intro fs
 induction fs with
 |Ϝ=>intro es h;rw[show es=[] from h];rfl
 |Ι p fs ih=>intro es h;obtain⟨_,_,_,_,r,rfl,_,_,_,h4⟩:=h;exact ω (· +1) (ih h4)
def Hp(fs:ζ (θ×ab))(n:θ)(v:ab):(WH fs n v).ε<=fs.ε+1:=by
 induction fs with
 |Ϝ=>exact Jv _
 |Ι p fs ih=>
  show (bif p.1==n then _ else _:ζ (θ×ab)).ε<=_;cases (p.1==n) with
  |true=>exact Zp _
  |false=>exact Zf ih
inductive zaM{C:bf}{d e:θ}(Y:kJ C d e)(k:Kp)(w:Wd)(H:MH)(s:Qg)(i:θ)(v:μ)(q:θ×ζ (θ×ab)):Prop
 |mk(a ca dx:Qk)(es:ζ Qi)(n:θ)(pre post:bw)(e:v=.ξ a)(hc:C.ad.Α q.1=Qa ca)(f:tG C w q.2 es)(l:q.2.ε<=500)(hn:Tu Y.h₀ Y.L s.Ν ((pre++[(a,instObj ca dx)])++(dx,Qn es n)::post))(I:InstAt s.Ν a (instObj ca dx) ca (Qa (Qn es n)))
   (u:∀o',Upd dx (Qn es n) o' ((pre++[(a,instObj ca dx)])++(dx,Qn es n)::post) ((pre++[(a,instObj ca dx)])++(dx,o')::post))
   (g:∀fs' es' n' h',tG C w fs' es'->fs'.ε<=500->Fr Y.h₀ Y.L h' k.m->Tu Y.h₀ Y.L h' ((pre++[(a,instObj ca dx)])++(dx,Qn es' n')::post)->cb C Y.h₀ Y.L k w (H.Ϫ i (.Tt q.1 fs')) h'):zaM Y k w H s i v q
def cb.qt(S:St Y k w H s){q:θ×ζ (θ×ab)}(hv:jL C w (.ξ i) v)(ho:H[i]?.Η ae.inst?=Qa q):zaM Y k w H s i v q:=by
 refine xEA (bs ho) λo hi h2=>?_;cases inst?_s h2;refine xEA hv λa e ha=>?_;obtain⟨pre,en,post,⟨c,dx,es,n,rfl,hc,f,l⟩,hn,hd,g⟩:=S.at ha hi;have eq:∀o',pre++([(a,instObj c dx),(dx,o')]++post)=(pre++[(a,instObj c dx)])++(dx,o')::post:=λo'=>by rw[JA];rfl
 rw[eq] at hn hd;exact⟨a,c,dx,es,n,pre,post,e,hc,f,l,hn,InstAt.of_news hn (ZV _ (JT _ (.mo _))) (JT _ (.mo _)),λo'=>vW hd,λfs' es' n' h' r l' F N=>g (.Tt q.1 fs') [(a,instObj c dx),(dx,Qn es' n')] h' rfl ⟨c,dx,es',n',rfl,hc,r,l'⟩ F (by rw[eq];exact N)⟩
def Lz(O:mU C gl)(S:St Y k w H s){x:ab}(hnm:jQ nm=Qe)(hx:jL C w x vx):cf Y k (VR C) (Ρ.getAttr vx nm Qe) w s ((getAttr C.P H x (eu nm)).π λv=>(v,H)):=by
 refine .ji λv e=>.KT S λQ E q=>?_;have att:∀{a ca dx:Qk}{c n:θ}{es:ζ Qi},InstAt s.Ν a (instObj ca dx) ca (Qa (Qn es n))->C.ad.Α c=Qa ca->getL nm es=Qa Qd->uV C.P c (eu nm)=Qa v->Qh C.M Y.A (Ρ.getAttr (.ξ a) nm Qe) Q E s:=λI hc q2 e=>by
  refine xEA (bs e) λu hu e=>?_;obtain⟨hf,e⟩:=gs e;cases e;obtain⟨t4,t5,av,t6,t7,_,t9⟩:=(O.kc _ _ _ hu).use hnm rfl hc;have zq35:=t9 (by cases hq:UH C.P v;rfl;rw[hq] at hf;cases hf);exact get_cls S.fr Y.k I t4 t5 t6 zq35.1 zq35.2.1 zq35.2.2 q2 (q av _ (t7 w))
 revert e
 refine lB (j1 λp hp e=>?_) (j1 λa e1=>j1 λc hc e=>?_)
 ·obtain⟨i,e1,hp⟩:=bs hp
  cases ref?_s e1;obtain⟨a,ca,dx,es,n,pre,post,rfl,hc,hF,hl,hN,I,_,_⟩:=S.qt hx hp;cases hF.getL hnm with
  |none h1 h2=>rw[h1] at e;exact att I hc h2 e
  |some u rv h1 h2 r=>
   rw[h1] at e;obtain⟨qu,e⟩:=gs e;cases e;refine xAA ((O.qx _ _ qu).use hnm rfl hc) λt4 t5 zg190=>?_;obtain⟨aq,t6,t7,_,_,_⟩:=zg190;exact get_own S.fr Y.k I t4 t5 t6 t7 h2 (F3 r) (q rv _ r)
 ·cases top?_s e1
  obtain⟨xa,rfl,hx⟩:=hx;obtain⟨xa',ca,dx,n,i1,i2,i3,i4⟩:=O.jy _ _ hc;cases Qa.lf (i1.Μ.ν hx);exact att (InstAt.of_K S.ml i3 i4) i2 rfl e
def Lx(O:mU C gl)(S:St Y k w H s){x:ab}{r:θ×ζ ab}{pl:Sem Ζ}(hnm:jQ nm=Qe)(hx:jL C w x vx){Q:μ×ζ μ->Qg->Prop} 
  (h:∀fa first tk,C.ad.Α r.1=Qa fa->jI C w r.2 first->Q (.ξ fa,first) {s with toks:=tk}):mS C.P H x (eu nm)=Qa r->Qh C.M Y.A (Ρ.getMethod vx nm pl) Q E s:=by
 have met:∀{a ca dx:Qk}{c n f:θ}{es:ζ Qi},vx=.ξ a->InstAt s.Ν a (instObj ca dx) ca (Qa (Qn es n))->C.ad.Α c=Qa ca->getL nm es=Qa Qd->yK C.P c (eu nm)=Qa f->(f,[x])=r->Qh C.M Y.A (Ρ.getMethod vx nm pl) Q E s:=λea I hc q2 e er=>by
  refine xEA (bs e) λu hu e=>?_;refine xA (gs e) λhf e=>?_;cases top?_s e;have zq26:=(O.kc _ _ _ hu).use hnm rfl hc;obtain⟨av,t6,t7,t8,_⟩:=zq26.2.2;refine xEA (t7 w) λga dw hg=>?_;subst dw;subst er ea;exact method_inst S.fr Y.k I zq26.1 t6 (t8 hf).1 q2 (h _ _ s.zn hg (.cw hx))
 refine lB (j1 λa e1 e=>?_) (j1 λq hq=>l6 λhnone=>kL λf hf e=>?_)
 ·cases top?_s e1
  refine xEA (id hx) λxa e2 hxa=>?_;refine AZ (C.P.cg a) (λhi=>?_) λc hi=>?_
  ·rw[hi] at e
   refine xEA (ms e) λf hf e=>?_;refine(bs hf).ι λu zq20=>?_;have hf:=zq20.2;refine xA (gs hf) λhfn hf=>?_;cases top?_s hf;obtain⟨av,t6,t7,t8,_⟩:=((O.kc _ _ _ zq20.1).use hnm rfl hxa).2.2;refine xEA (t7 w) λga iq hg=>?_;subst iq;refine(t8 hfn).2.2.ι λmc zq16=>?_;subst e e2;exact method_of_cls S.fr Y.k (t8 hfn).2.1 (cls_val S.fr Y.k zq16.1 zq16.2.1 zq16.2.2 rfl (h _ _ _ hg .Ϝ))
  ·rw[hi] at e
   refine xEA (ms e) λf hf e=>?_;obtain⟨xa',ca,dx,n,i1,i2,i3,i4⟩:=O.jy _ _ hi;cases Qa.lf (i1.Μ.ν hxa);exact met e2 (InstAt.of_K S.ml i3 i4) i2 rfl hf e
 ·obtain⟨i,e1,hq⟩:=bs hq
  cases ref?_s e1;obtain⟨a,ca,dx,es,n,pre,post,ea,hc,hF,hl,hN,I,_,_⟩:=S.qt hx hq;cases hF.getL hnm with
  |none h1 h2=>exact met ea I hc h2 hf e
  |some u rv h1 h2 r'=>rw[h1] at hnone;cases hnone
def yI(O:mU C gl)(S:St Y k w H s){x v:ab}(hnm:jQ nm=Qe)(hx:jL C w x vx)(hv:jL C w v vv){Q:Unit->Qg->Prop} 
  (h:∀s',jc Y k w w H' s s'->Q () s'):setAttr C.P H x (eu nm) v=Qa H'->Qh C.M Y.A (Ρ.setAttr vx nm vv) Q E s:=by
 refine j1 λi e1=>j1 λq hq=>l6 λqu e=>?_;cases ref?_s e1;obtain rfl:=Qa.lf e;obtain⟨a,ca,dx,es,n,pre,post,rfl,hc,hF,hl,hN,I,U,g⟩:=(S.qt hx hq);have zq11:=(O.qx _ _ (Jo.mp qu).1).use hnm rfl hc;obtain⟨aq,t6,t7,t8,t9,t10⟩:=zq11.2.2;have hp:=hF.put (hsh:=qba C.w.Ϛ nm) (t:=s.zn+1) hnm hv;have hl4:=Zn.mp (Jo.mp qu).2;exact set_dict S.fr Y.k hN I rfl t9 t10 t8 zq11.2.1 (by cases hF.getL hnm with|none _ h2=>rw[h2];rfl|some _ _ _ h2 _=>rw[h2];rfl:(getL nm es).ϟ=Qe) rfl (U _) (by rw[hp.ε];exact Jn (Jn (Hp q.2 (eu nm) v) hl4) (JC _ _)) λh' F' N'=>h _ ⟨.TC w,g _ _ _ h' hp (Jn (Jn (Hp q.2 (eu nm) v) hl4) (JC _ _)) F' N',rfl,rfl⟩
def Vh{o:ϝ}(h:Vi o=Qe):attributeBase o aq env whole=whole:=by
 cases o with
 |Call f as ks pos=>
  cases as with
  |Ϝ=>cases h
  |Ι x r=>cases f<;>rfl
 |_=>rfl
def CJ(O:mU C gl){v:ϝ}{iv:Ex}(hv:mD C d cx v iv)(hn:jQ nm=Qe)(hb:Vi v=Qe):mD C d cx (.Td v nm pos) (.aq iv (eu nm)):=by
 intro Y env k mE fr w H s p r;refine jM λx H1 e1 e Q E hq=>Attribute_any_ (hv Y env k mE fr w H s p _ e1 _ _ λw1 a1 s1 n1 r1=>Lz O n1.st hn r1 r e _ _ λw2 a2 s2 n2 r2=>hq w2 a2 s2 (n1.ν n2) r2) ?_;show (do
   let o<-attributeBase v nm env (Ρ.eval v env)
   standAt pos.atName
   let r<-holding [o] (Ρ.getAttr o nm Qe)
   letTemporaryGo v o r
   pure r)=_
 rw[Vh hb]
def oL{M:Q8}{f:μ}{Q:Args->Qg->Prop}(hp:args.any (·.1)=Qc)(h:Qh M A (spliced args) (λvs s'=>Q ⟨vs,[]⟩ s') E s):Qh M A (evalArgs f Qe args []) Q E s:=by
 cases args with
 |Ϝ=>
  delta evalArgs;exact Qb (Qr h (λvs s' h'=>Qj (Qb (Qf (Qb (Qf (Qf h')))))) λ_ _ x=>x)
 |Ι p r=>
  obtain⟨b,x⟩:=p;cases b with
  |false=>exact evalArgs_plain h
  |true=>cases hp
theorem pY{M:Q8}{K:Frag}{f:μ}{es:ζ ϝ}{irs:ζ Ex}{Q:μ->Qg->Prop}(hk:keepIn K f=Qe)(hc:lx C d cx es irs)
  (h:Qh M A (spliced (backTo pos (starEach es env))) (λvs s₁=>K.In s₁.Ν/\Qh M A (call f (first++vs)) Q E s₁) E s):Qh M A (callWith pos f first (backTo pos (starEach es env)) []) Q E s:=
 callWith_of (by rw[lL hc];rfl) (keeps_K hk) (oL (lL hc) h)
def oO(C:bf)(d:θ):Prop:=
 ∀(Y:kJ C d 0)(k:Kp)(w:Wd)(H:MH)(s:Qg)(f:θ)(fa:Qk)(as:ζ ab)(vs:ζ μ)(r:ab×MH),St Y k w H s->C.ad.Α f=Qa fa->jI C w as vs->mB C.P wL d f as H=Qa r->
  ∀R:Result->Qg->Prop,(∀w' rv s',jc Y k w w' r.2 s s'->jL C w' r.1 rv->R (.ok (.ret rv)) s')->codeAny C.M Y.A (.bn (.ξ fa) ⟨vs,[]⟩) R s
theorem oO.wp(hC:oO C d)(Y:kJ C d e){f:θ}(S:St Y k w H s)(hf:C.ad.Α f=Qa fa)(r:jI C w as vs):cf Y k (VR C) (call (.ξ fa) vs) w s (mB C.P wL d f as H):=
 λr' ev Q E hq=>wpAny_call (hC Y.fO k w H s f fa as vs r' S hf r ev _ λw' rv s' n r2=>hq w' rv s' ⟨n.le,n.st,n.bx⟩ r2)
def Ef(O:mU C gl){f:θ}(hf:C.ad.Α f=Qa fa)(e:mB C.P wL d f as H=Qa r):keepIn C.K (.ξ fa)=true:=by
 cases d with
 |zero=>exact ag e
 |succ d=>
  refine xEA (bs e) λfn hfn e=>?_;refine xA (O.nf _ _ hfn) λh1 dw=>?_;obtain⟨fa',_,_,_,_,_,_,_,_,_,_,_,_,_,_,_,k1,_,_,_,k6,_,_,_⟩:=dw;rw[h1,hf] at k1;refine soB k1 ?_;exact k6
def D5 {f:η (ζ Env)} (h:A.frames=f):(A.under (.ϭ "type.__call__" ⟨.ξ ca::vs,[]⟩)).frames=f:=by
 show pushEnvs (Code.envs (.ϭ "type.__call__" ⟨.ξ ca::vs,[]⟩)) A.frames=_;rw[show Code.envs (.ϭ "type.__call__" ⟨.ξ ca::vs,[]⟩)= [] by unfold Code.envs;rw[show Code.isFrame (.ϭ "type.__call__" ⟨.ξ ca::vs,[]⟩)=Qc from rfl,τ JQ]];exact h
def Bi{a:θ}(h:a+n+2+2<=900):a+1+n+2+0<=900:=by rw[ZF a 1 n];exact Jn (Js (by decide:3<=4) (a+n)) h
def Bh{a:θ}(h:a+n+190+5*2<=9900):a+1+n+190+5*0<=9900:=by rw[ZF a 1 n];exact Jn (Js (by decide:191<=200) (a+n)) h
def kJ.qd (Y:kJ C d 2) (ca:Qk) (vs:ζ μ):kJ C d 0:=⟨(Y.A.under (.ϭ "type.__call__" ⟨.ξ ca::vs,[]⟩),Y.h₀,Y.L,Y.lk),Y.below.ι λA₀ h=>h.ι λbase h=>h.ι λouter h=>⟨A₀,base,outer,h.1,D5 h.2⟩,Y.k,Y.aj,Y.frame,Y.Ts,Y.v4,Bi Y.depth,Bh Y.units⟩
def CA(O:mU C gl)(hC:oO C d){Y:kJ C d 2}(S:St Y k w H s){c:θ}{cl:Cl}(hk:C.P.gb c=Qa cl)(hca:C.ad.Α c=Qa ca)(r:jI C w as vs):cf Y k (VR C) (call (.ξ ca) vs) w s (Pp (C.cx d) c cl as H):=by
 refine .jf λi hi=>λr'=>jM λx H' ev=>l6 λhx e=>?_;cases Hk hx;refine lV e ?_;intro Q E hq;obtain⟨ca',fI,t1,t2,t3,t4,t5,t6⟩:=O.ud _ _ _ hk hi;cases Qa.lf (t1.Μ.ν hca);obtain⟨all,hn,add,_,_⟩:=S.dz;refine call_cls S.fr Y.k hn t3 t4 t5 λx dx h' F' N' l1 l2=>?_;have hx4:4<=x:=XH λhlt=>by
  obtain⟨o,ho⟩:=O.ij.qo x (qaX hlt)
  have:=(N' (x,instObj ca dx) (.mo _)).2.2
  rw[Y.k _ _ ho] at this;cases this
 have le:w.le ⟨w.σ++[x],w.tp⟩:=⟨Zk _ _,λ_ x=>x⟩;have hS:cb C Y.h₀ Y.L k ⟨w.σ++[x],w.tp⟩ (H++[.Tt c []]) h':=by
  refine add x (.Tt c []) [(x,instObj ca dx),(dx,Qn [] 0)] h' ⟨ca,dx,[],0,rfl,hca,rfl,JB _⟩ F' N' ?_ ?_ hx4
  ·exact JH.ϥ ⟨λh=>ς (JD.mp h) (Kb l2),qP _⟩
  ·intro p hp q hq
   have:=l1 q hq
   rcases JM.mp hp with rfl|hp
   ·exact Kb (Zv this l2)
   ·exact(JD.mp hp)▸Kb this
 have hr:(w.σ++[x])[H.ε]?=Qa x:=by rw[<-S.lv];exact Zi
 exact hC (Y.qd ca vs) k ⟨w.σ++[x],w.tp⟩ (H++[ae.Tt c []]) {s with heap:=h'} i fI (.ξ H.ε::as) (.ξ x::vs) (.Ε,H') hS t2 (.Ι ⟨x,rfl,hr⟩ (r.Τ le)) ev _ λw' rv s' n r2=>⟨r2,hq w' _ s' ⟨le.ν n.le,n.st,n.bx.1,n.bx.2⟩ ⟨x,rfl,n.le.Mi hr⟩⟩
theorem zbx(O:mU C gl){nm:Tm}(hb:xB.Α n=Qa nm)(S:St Y k w H s)(r:jI C w as vs):cf Y k (VR C) (call (.ϭ nm) vs) w s (GT n as H):=
 .bj (.aw λh=>vZ (t:=xB) h hb (y:="len") rfl▸OR S r) (.bj (.aw λh=>vZ (t:=xB) h hb (y:="max") rfl▸OQ S r) (.bj (.aw λh=>vZ (t:=xB) h hb (y:="min") rfl▸OP S r) (.aw λh=>vZ (t:=xB) h hb (y:="sorted") rfl▸O.fR O.ij S r)))
def Fi(O:mU C gl)(hC:oO C d){es:ζ ϝ}{irs:ζ Ex}(hc:lx C d cx es irs){Y:kJ C d 2}{g:ab}{vs:ζ ab}{H1:MH}(p:Pl Y cx env k mE fr w H s)(hg:jL C w g gv)(e1:qC (C.cx d) irs fr H=Qa (vs,H1)):cf Y k (VR C) (callWith pos gv [] (backTo pos (starEach es env)) []) w s (jO (C.cx d) g vs H1):=by
 have args:∀{Q:ζ μ->Qg->Prop}{E:μ->Qg->Prop},(∀w1 a1 s1,jc Y k w w1 H1 s s1->jI C w1 vs a1->Q a1 s1)->Qh C.M Y.A (spliced (backTo pos (starEach es env))) Q E s:=λhq=>r0 hc Y env k mE fr w H s pos p _ e1 _ _ hq;refine .bj (.jf λf hf=>.case (λhcl=>?_) (λcl hcl=>?_)) (.bj (.jf λn hn=>?_) (.jf λn hn=>?_))
 ·cases top?_s hf
  refine Zx hg λga zq6=>?_;refine eqB zq6.1 ?_;have hga:=zq6.2;intro r e Q E hq;exact pY (Ef O hga e) hc (args λw1 a1 s1 n1 r1=>⟨n1.st.ml,hC.wp Y n1.st hga r1 r e Q E λw2 a2 s2 n2 r2=>hq w2 a2 s2 (n1.ν n2) r2⟩)
 ·cases top?_s hf
  obtain⟨ga,rfl,hga⟩:=hg;intro r e Q E hq;refine(bs e).ι λi zq4=>?_;obtain⟨ca',fI,t1,t2,t3,t4,t5,t6⟩:=O.ud _ _ _ hcl zq4.1;cases Qa.lf (t1.Μ.ν hga);exact pY t6 hc (args λw1 a1 s1 n1 r1=>⟨n1.st.ml,CA O hC n1.st hcl hga r1 r e Q E λw2 a2 s2 n2 r2=>hq w2 a2 s2 (n1.ν n2) r2⟩)
 ·cases bi?_s hn
  obtain⟨nm,rfl,hb⟩:=hg;exact λr e Q E hq=>callWith_builtin (lL hc) (oL (lL hc) (args λw1 a1 s1 n1 r1=>zbx O hb n1.st r1 r e Q E λw2 a2 s2 n2 r2=>hq w2 a2 s2 (n1.ν n2) r2))
 ·cases ty?_s hn
  obtain⟨nm,rfl,hb⟩:=hg;exact λr e Q E hq=>Ρ.callWith_type (lL hc) (oL (lL hc) (args λw1 a1 s1 n1 r1=>zbw hb n1.st r1 r e Q E λw2 a2 s2 n2 r2=>hq w2 a2 s2 (n1.ν n2) r2))
theorem Gg(O:mU C gl)(hC:oO C d){ig:Ex}{es:ζ ϝ}{irs:ζ Ex}(hc:lx C d cx es irs)(hx:mD C d cx (.Name x xp) ig):mD C d cx (.Call (.Name x xp) es [] pos) (.bn ig irs):=
 λY env k mE fr w H s p r=>jM λg H1 e1=>jM λvs H2 e2 e Q E hq=>Call_ (hx Y env k mE fr w H s p _ e1 _ _ λw1 a1 s1 n1 r1=>Fi O hC hc (p.ϫ n1) r1 e2 r e Q E λw2 a2 s2 n2 r2=>hq w2 a2 s2 (n1.ν n2) r2)
def I7{es:ζ ϝ}{irs:ζ Ex}(hc:lx C d cx es irs)(hn:n<30):methodCallForm n (backTo pos (starEach es env)) []=true:=by
 delta methodCallForm;rw[ZR,ZR];refine⟨⟨?_,rfl⟩,Γ hn⟩;rw[Za];intro x hx
 have:=(Yr.mp (lL (env:=env) (pos:=pos) hc)) x hx
 cases hb:x.1 with
 |false=>rfl
 |true=>exact ς hb this
def Gh(O:mU C gl)(hC:oO C d){o:ϝ}{io:Ex}{es:ζ ϝ}{irs:ζ Ex}(hc:lx C d cx es irs)(hlen:es.ε<=20)(ho:mD C d cx o io)(hn:jQ nm=Qe)(hb:Vi o=Qe)
  (hp:(apos.endLine==pos.line)=Qe):mD C d cx (.Call (.Td o nm apos) es [] pos) (.bc io (eu nm) irs):=by
 intro Y env k mE fr w H s p r;refine jM λx H1 e1=>jM λvs H2 e2 e Q E hq=>?_;show Qh C.M Y.A (do
  let ov<-attributeBase o nm env (Ρ.eval o env)
  standAt apos.atName
  methodCall o nm apos pos env ov (es.ε+0) (backTo pos (starEach es env)) (backToKw pos (keywordEach [] env))) Q E s
 rw[Vh hb];refine Qb (ho Y env k mE fr w H s p _ e1 _ _ λw1 a1 s1 n1 r1=>Qb (Qo ?_));delta methodCall;rw[show methodCallForm (es.ε+0) (backTo pos (starEach es env)) (backToKw pos (keywordEach [] env))=Qe from I7 hc (Jw hlen (by decide))];delta calleeOf methodCallPos;rw[φ rfl];refine Qb (Qj ?_);refine AZ (mS C.P H1 x (eu nm)) (λhm=>?_) λq hm=>?_
 ·have e:yQ x (eu nm) vs H1 H2=Qa r:=by
   have e':JG (motive:=λ_=>η (ab×MH)) (mS C.P H1 x (eu nm)) (yQ x (eu nm) vs H1 H2) (λp=>mB C.P wL d p.1 (p.2++vs) H2)=Qa r:=e;rw[hm] at e';exact e'
  refine CI hn n1.st r1 e _ _ _ λid hid=>?_;rw[φ (by rw[hp];rfl)];exact Qb (Qf (callWith_builtin (lL hc) (oL (lL hc) (r0 hc Y env k mE fr w1 H1 s1 pos (p.ϫ n1) _ e2 _ _ λw2 a2 s2 n2 r2=>hid w2 s2 a2 n2.le n2.st r2 Q E λw3 a3 s3 n3 r3=>hq w3 a3 s3 ((n1.ν n2).ν n3) r3))))
 ·have e:mB C.P wL d q.1 (q.2++vs) H2=Qa r:=by
   have e':JG (motive:=λ_=>η (ab×MH)) (mS C.P H1 x (eu nm)) (yQ x (eu nm) vs H1 H2) (λp=>mB C.P wL d p.1 (p.2++vs) H2)=Qa r:=e;rw[hm] at e';exact e'
  refine Lx O n1.st hn r1 (λfa first tk hfa hself=>?_) hm;rw[φ (by rw[hp];rfl)];refine Qb (Qf ?_);have n1':=n1.ν (.zn n1.st tk);exact pY (s:={s1 with toks:=tk}) (Ef O hfa e) hc (r0 hc Y env k mE fr w1 H1 {s1 with toks:=tk} pos (p.ϫ n1') _ e2 _ _ λw2 a2 s2 n2 r2=>⟨n2.st.ml,hC.wp Y n2.st hfa (jI.append r2 (hself.Τ n2.le)) r e Q E λw3 a3 s3 n3 r3=>hq w3 a3 s3 ((n1'.ν n2).ν n3) r3⟩)
end
section
variable(prog:Qs)(w:Qm)(A:Qv)(env:Env)(R:Result->Qg->Prop)
def cE:μ->Qg->Prop:=notedBy (model prog w) A env λe s'=>R (.error e) s'
variable(ez:Expr)(acc:Value)(X:Qg->Prop)
def cX (x:μ) (s:Qg):Prop:=Qh (model prog w) A (call (.ϭ "list.append") [acc,x]) (λ_=>X) (cE prog w A env R) s
def cT(ok:Ζ)(s:Qg):Prop:=if ok=Qe then Qh (model prog w) A (Ρ.eval ez env) (cX prog w A env R acc X) (cE prog w A env R) s else X s
variable(target:Expr)(it:Value)(ifs:List Expr)
def cV(v:μ)(s:Qg):Prop:=Qh (model prog w) A (letOwnedTupleGo target it v) (λ_ s₁'=>Qh (model prog w) A (assign target env v) (λ_ s₂=>
     Qh (model prog w) A (forIn ifs Qe λc r=>if r=Qe then do let ok<-Ρ.isTrue c env (Ρ.eval c env);pure (Ty.yield ok) else pure (Ty.yield r)) (cT prog w A env R ez acc X) (cE prog w A env R) s₂)
     (cE prog w A env R) s₁') (cE prog w A env R) s
def cN(r:η μ)(s:Qg):Prop:=r.ι (R (.ok .ϫ) s) λv=>cV prog w A env R ez acc X target it ifs v s
variable{prog w A env R ez acc target it ifs}
def uM(I:θ->Qg->Prop)
  (turn:∀n s,I n s->Qh (model prog w) A (pyNext it) (cN prog w A env R ez acc (λs=>∃m,m<n/\I m s) target it ifs) (cE prog w A env R) s)
  (n:θ) (h:I n s):codeAny (model prog w) A (.compLoop (.TL ez [⟨target,iter,ifs,0⟩] scope pos) 0 it acc env) R s:=by
 refine codeAny_loop rfl I (λn s hI=>?_) n h;show Qh _ A ((compTurn (.TL ez [⟨target,iter,ifs,0⟩] scope pos) 0 it acc env).onRaise (λx=>do noteFrame x env;theTreesLotGoes x)) _ _ s;refine wpAny_noted ?_;rw[compTurn_list];refine Qb (Qo (Qb (Qr (turn n s hI) (λr s₁ h₁=>?_) λ_ _ h'=>h')));cases r with
 |none=>exact Qf h₁
 |some v=>
  refine Qb (Qr h₁ (λ_ s₁' h₁'=>?_) λ_ _ h'=>h');refine Qb (Qr h₁' (λ_ s₂ h₂=>Qb (Qr h₂ (λok s₃ h₃=>?_) λ_ _ h'=>h')) λ_ _ h'=>h');cases ok with
  |false=>exact Qf ⟨rfl,h₃⟩
  |true=>exact Qb (Qb (Qr h₃ (λx s₄ h₄=>Qb (Qr h₄ (λ_ s₅ h₅=>Qf (Qf ⟨rfl,h₅⟩)) λ_ _ h'=>h')) λ_ _ h'=>h'))
end
def HF(outer:ζ (ld×Qx))(sc:Scope)(x:ld):(vH outer sc).Α x=(sc.ui.Α x).π λk=>if (k==.free && outer.Α x==Qa .TD)=Qe then .TD else k:=by
 delta vH
 generalize sc.ui=l
 induction l with
 |Ϝ=>rfl
 |Ι p l ih=>
  rw[JU,ZI,ZI];refine vL (x==p.1) (λhxy=>?_) λhxy=>?_
  ·rw[hxy]
   rw[χ.mp hxy];rfl
  ·rw[hxy]
   exact ih
def nV(env:Env)(p:ld×Qx)(cs:ζ (ld×Qk)):ζ (ld×Qk):=if p.2==.free then(match env.TK.Α p.1 with|some a=>(p.1,a)::cs|none=>cs) else cs
def R5:∀(l:ζ (ld×Qx))(acc:ζ (ld×Qk)),(∀p∈l,p.2=.free->(env.TK.Α p.1).ϟ=Qe)->
  (forIn l acc λx r=>match x with
   |(name,kind)=>if (kind==NameKind.free)=Qe then do let a<-cellOf env name;pure (Ty.yield ((name,a)::r)) else pure (Ty.yield r):Sem (ζ (ld×Qk)))=pure (l.foldl (λcs p=>nV env p cs) acc):=by
 intro l
 induction l with
 |Ϝ=>exact λacc _=>rfl
 |Ι p l ih=>
  intro acc h;rw[Xk,K7]
  dsimp only
  by_cases hk:(p.2==NameKind.free)=Qe
  ·rw[φ hk]
   refine xE (Zy.mp (h (p.1,p.2) (.mo _) (χ.mp hk))) λa ha=>?_;rw[(by unfold cellOf;rw[show env.TK.Α p.1=Qa a from ha]:cellOf env p.1=pure a),Jf,Jf]
   dsimp only
   rw[(λacc=>ih acc λp hp=>h p (.pc _ hp))]
   congr 2
   delta nV;rw[φ hk]
   dsimp only at ha ⊢
   rw[ha]
  ·rw[τ hk,Jf]
   dsimp only
   rw[(λacc=>ih acc λp hp=>h p (.pc _ hp))]
   congr 2
   unfold nV;rw[τ hk]
def Bj(hc:env.TK.Α x=Qa c):∀(l:ζ (ld×Qx))(acc:ζ (ld×Qk)),((x,NameKind.free)∈l\/acc.Α x=Qa c)->(l.foldl (λcs p=>nV env p cs) acc).Α x=Qa c:=by
 intro l
 induction l with
 |Ϝ=>exact λacc h=>h.ι (λh=>ς h Jz) id
 |Ι p l ih=>
  intro acc h;simp only[K7];refine ih _ ?_;have keep:acc.Α x=Qa c->(nV env p acc).Α x=Qa c:=λh=>by
   delta nV;split
   ·split
    ·rename_i a ha
     simp only[ZI];cases hxy:x==p.1 with
     |true=>rw[χ.mp hxy] at hc;exact ha.Μ.ν hc
     |false=>exact h
    ·exact h
   ·exact h
  rcases h with h|h
  ·rcases JM.mp h with e|h
   ·refine .IO ?_
    rw[<-e];delta nV
    dsimp only
    rw[hc,φ (show (NameKind.free==NameKind.free)=Qe from rfl)];simp only[ZI,Ϧ]
   ·exact .wv h
  ·exact .IO (keep h)
def D6(h:∀p∈scope.ui,p.2=.free->(env.TK.Α p.1).ϟ=Qe):∃cl,closureFor scope env=pure cl/\∀x c,(x,NameKind.free)∈scope.ui->env.TK.Α x=Qa c->cl.Α x=Qa c:=by
 refine⟨scope.ui.foldl (λcs p=>nV env p cs) [],?_,λx c hx hc=>Bj hc _ _ (.wv hx)⟩
 have:=R5 (env:=env) scope.ui [] h
 delta closureFor;simp only[<-this];simp only[bind_pure]
def NI(cx:CC)(sc:Scope)(xs:ζ ld):Prop:=sc.Ts=.Fa/\(∀p∈sc.ui,p.2≠.TD)/\(∀p∈sc.ui,p.2=.local->sc.ui.Α p.1=Qa .local/\(p.1∈xs\/cx.jh.Α p.1=Qd))/\(∀p∈sc.ui,p.2=.free->sc.ui.Α p.1=Qa .free/\cx.sc.Α p.1=Qa .TD)/\xs.Ω/\∀x∈xs,sc.ui.Α x=Qa .local
section
variable{cx:CC}{sc:Scope}{xs:List Str}(ψ:NI cx sc xs)
def NI.Ts:=@ψ.1
def NI.qk:=@ψ.2.1
def NI.jx:=@ψ.2.2.1
def NI.free:=@ψ.2.2.2.1
def NI.nd:=@ψ.2.2.2.2.1
def NI.xs:=@ψ.2.2.2.2.2
end
def AO{cx:CC}(h:W6 cx sc xs=Qe):NI cx sc xs:=by
 delta W6 at h;simp only[ZR,Za,χ,Xm,TQ,ne_eq,f8,Yo,ZQ] at h;obtain⟨⟨⟨h1,h2⟩,h3⟩,h4⟩:=h;exact⟨h1,λp hp=>(h2 p hp).1.1,λp hp hl=>(h2 p hp).1.2.ι (ς hl) id,λp hp hf=>(h2 p hp).2.ι (ς hf) id,h4,h3⟩
def Ul(cx:CC):Prop:=∀x i,cx.jh.Α x=Qa i->i<cx.ϫ
def DN[BEq α](a:α)(r:ζ (α×β)):∀(l:ζ (α×β)),(l++r).Α a=(l.Α a).or (r.Α a):=by
 intro l
 induction l with
 |Ϝ=>rfl
 |Ι p l ih=>
  rw[Yi,ZI,ZI];cases a==p.1 with
  |true=>rfl
  |false=>exact ih
def oV(x:ld):∀(l:ζ ld)(n:θ),(∀i,(l.zip (JZ n l.ε)).Α x=Qa i->∃j,i=n+j/\l[j]?=Qa x)/\(x∉l->(l.zip (JZ n l.ε)).Α x=Qd)/\(x∈l->((l.zip (JZ n l.ε)).Α x).ϟ=Qe):=by
 intro l
 induction l with
 |Ϝ=>exact λn=>⟨λi h=>ag h,λ_=>rfl,λh=>ς h Jz⟩
 |Ι y l ih=>
  intro n;simp only[J0,X3,Yk,ZI];cases hxy:x==y with
  |true=>exact⟨λi h=>⟨0,(Qa.lf h).Μ,by rw[χ.mp hxy];rfl⟩,λh=>ς (χ.mp hxy▸ζ.mem_cons_self) h,λ_=>rfl⟩
  |false=>
   exact⟨λi h=>((ih (n+1)).1 i h).ι λj zq24=>⟨j+1,zq24.1.ν (by rw[J8,ZW 1]),zq24.2⟩,λh=>(ih (n+1)).2.1 λh'=>h (.pc _ h'),λh=>(ih (n+1)).2.2 ((JM.mp h).resolve_left (x9.mp hxy))⟩
def sF{cx:CC}(h:(cj cx sc xs).jh.Α x=Qa i):(∃j,i=cx.ϫ+j/\xs[j]?=Qa x)\/(x∉xs/\cx.jh.Α x=Qa i):=by
 have h:(xs.zip (JZ cx.ϫ xs.ε)++cx.jh).Α x=Qa i:=h;rw[DN] at h;by_cases hx:x∈xs
 ·refine(Zy.mp ((oV x xs cx.ϫ).2.2 hx)).ι λj zq22=>?_
  rw[zq22] at h;refine lV h ?_;exact .wv ((oV x xs cx.ϫ).1 _ zq22)
 ·rw[(oV x xs cx.ϫ).2.1 hx] at h
  exact .IO ⟨hx,h⟩
def Ul.cj{cx:CC}(h:Ul cx)(sc:Scope)(xs:ζ ld):Ul (cj cx sc xs):=by
 intro x i hi;rcases sF hi with ⟨j,rfl,hj⟩| ⟨_,hi⟩
 ·exact ZL (Jy.mp hj).1 _
 ·exact Ju (h x i hi) (Jr _ _)
def zA{cx:CC}(h:nH cx x=Qa i):(cx.sc.Α x=Qa .local\/cx.sc.Α x=Qa .TD)/\cx.jh.Α x=Qa i:=by
 exact⟨(KW.mp (gs h).1).imp χ.mp χ.mp,(gs h).2⟩
def CM{fr:Λ}{v u:ab}(h:(fr.Ϫ i (Qa v))[j]?=Qa (Qa u)):(i=j/\u=v)\/(i≠j/\fr[j]?=Qa (Qa u)):=by
 by_cases hij:i=j
 ·subst hij
  rw[ζ.getElem?_set] at h;simp only[if_true] at h
  split at h
  ·cases h;exact .wv ⟨rfl,rfl⟩
  ·cases h
 ·rw[J7 hij] at h
  exact .IO ⟨hij,h⟩
def z8(i:θ)(u:ab):∀(vs:ζ ab)(n:θ)(fr:Λ),(uC (JZ n vs.ε) vs fr)[i]?=Qa (Qa u)->(∃j,i=n+j/\vs[j]?=Qa u)\/((i<n\/n+vs.ε<=i)/\fr[i]?=Qa (Qa u)):=by
 intro vs
 induction vs with
 |Ϝ=>exact λn fr h=>.IO ⟨θ.lt_or_ge i n,h⟩
 |Ι v vs ih=>
  intro n fr h;rw[J0,X3] at h;rcases ih (n+1) (fr.Ϫ n (Qa v)) h with ⟨j,h1,h2⟩| ⟨h1,h2⟩
  ·exact .wv ⟨j+1,by lia,h2⟩
  ·rcases CM h2 with ⟨e,rfl⟩| ⟨hne,h3⟩
   ·exact .wv ⟨0,e.Μ,rfl⟩
   ·exact .IO ⟨by rw[J0];lia,h3⟩
section
variable{cx:CC}{fr:Frame}
def Ge{I:Qk}(hI:s.Ν.sB I=Qa io)(R:pE C w io i z){Q:μ->Qg->Prop}(h:Q (.ξ I) s):Qh C.M A (pyIter (.ξ I)) Q E s:=by
 cases z with
 |fs _=>obtain⟨la,_,ic⟩:=R;exact QY ⟨io,hI,ic.1,ic.2⟩ h
 |ls _=>obtain⟨la,_,ic⟩:=R;exact QY ⟨io,hI,ic.1,ic.2⟩ h
 |tp _=>obtain⟨la,_,ic⟩:=R;exact wpAny_pyIter_tupleiter ⟨io,hI,ic.1,ic.2⟩ h
 |sq _=>
  obtain⟨T,t,hT,ic⟩:=R.2;rcases hT with rfl|rfl
  ·exact wpAny_pyIter_striter_ascii ⟨io,hI,ic.1,ic.2⟩ h
  ·exact wpAny_pyIter_striter_wide ⟨io,hI,ic.1,ic.2⟩ h
 |dk _ _ _=>obtain⟨la,_,ic,id⟩:=R;exact Q2 ⟨io,hI,ic,id⟩ h
 |rg _=>obtain⟨_,_,_,rfl⟩:=R;exact wpAny_pyIter_rangeiter hI h
abbrev Lg:ζ Tm:= ["enumerate","zip","dict_itemiterator","dict_reverseitemiterator","odict_iterator","itertools.zip_longest","itertools.pairwise"]
def pE.cls(R:pE C w io i z):∃T vs,io.cls=.AT T/\io.Ta=.sn vs/\Lg.Tc T=false:=by
 cases z with
 |fs _=>obtain⟨la,_,ic⟩:=R;exact⟨_,_,ic.1,ic.2,by decide⟩
 |ls _=>obtain⟨la,_,ic⟩:=R;exact⟨_,_,ic.1,ic.2,by decide⟩
 |tp _=>obtain⟨la,_,ic⟩:=R;exact⟨_,_,ic.1,ic.2,by decide⟩
 |sq _=>obtain⟨_,T,t,hT,ic⟩:=R;rcases hT with rfl|rfl<;>exact⟨_,_,ic.1,ic.2,by decide⟩
 |dk _ _ _=>obtain⟨la,_,ic,id⟩:=R;exact⟨_,_,ic,id,by decide⟩
 |rg _=>obtain⟨_,_,_,rfl⟩:=R;exact⟨_,_,rfl,rfl,by decide⟩
def Wh{I:Qk}(hI:s.Ν.sB I=Qa io){tg:ϝ}(R:∃T vs,io.cls=.AT T/\io.Ta=.sn vs/\Lg.Tc T=Qc){Q:Unit->Qg->Prop}(h:Q () s):Qh C.M A (letOwnedTupleGo tg (.ξ I) v) Q E s:=by
 refine R.ι λT zq19=>zq19.ι λvs zq20=>?_;have key:Qh C.M A (do
  let (.ξ r,.ξ a):=((YX I),v)|return
  let o<-load r
  match o.cls,o.Ta with
  | .AT n,.sn vs=>
   if ["enumerate","zip","dict_itemiterator","dict_reverseitemiterator","odict_iterator","itertools.zip_longest","itertools.pairwise"].Tc n && vs[0]?==Qa (rawInt a) then
    rule "for.unpacks-the-owned-tuple"
    updateField r 0 .Ε
  |_,_=>pure ()) Q E s:=by
  cases v with
  |ref b=>
   refine Qb (Jh hI ?_);rw[zq20.1,zq20.2.1]
   dsimp only
   rw[show (["enumerate","zip","dict_itemiterator","dict_reverseitemiterator","odict_iterator","itertools.zip_longest","itertools.pairwise"].Tc T)=Qc from zq20.2.2];exact Qf h
  |_=>exact Qf h
 cases tg<;>first|exact Qf h|exact key
abbrev zY(env:Env)(ifs:ζ ϝ)(b:Ζ):Sem Ζ:=forIn ifs b λc r=>if r=Qe then do let ok<-Ρ.isTrue c env (Ρ.eval c env);pure (Ty.yield ok) else pure (Ty.yield r)
def Li:∀(ifs:ζ ϝ),zY env ifs Qc=pure false:=by
 intro ifs
 induction ifs with
 |Ϝ=>rfl
 |Ι c r ih=>
  delta zY;rw[Xk];simp only[K1,if_false,Jf];exact ih
def Fc{irs:ζ Ex}(h:lx C d cx ifs irs):∀(Y:kJ C d 2)(env:Env)(k:Kp)(mE:ld->η μ)(fr:Λ)(w:Wd)(H:MH)(s:Qg),Pl Y cx env k mE fr w H s->cf Y k c9 (zY env ifs Qe) w s (Hy (C.cx d) irs fr H):=by
 induction h with
 |Ϝ=>exact λY env k mE fr w H s p=>.pure' p.st rfl
 |Ι he _ ih=>
  intro Y env k mE fr w H s p r;refine jM λb H1 e1 e Q E hq=>?_;delta zY;rw[Xk];simp only[if_true];refine Qb (Qb (he.ts Y env k mE fr w H s p _ e1 _ _ λw1 a1 s1 n1 r1=>Qf ?_));rw[show a1=b from r1];cases b with
  |true=>exact ih Y env k mE fr w1 H1 s1 (p.ϫ n1) _ e _ _ λw2 a2 s2 n2 r2=>hq w2 a2 s2 (n1.ν n2) r2
  |false=>
   obtain rfl:=Qa.lf e;show Qh C.M Y.A (zY env _ Qc) Q E s1;rw[Li];exact Qf (hq w1 _ s1 n1 rfl)
def VM(hk:env.scope.Ts=.Fa)(hs:env.scope.ui=cx.sc):(relabel sc env).ui=vH cx.sc sc:=by
 delta relabel vH
 dsimp only
 apply Ke
 intro p _;rw[hk,<-hs];delta Env.Ps;obtain⟨n,k⟩:=p
 dsimp only
 rw[show (ScopeKind.Fa==ScopeKind.Fa)=Qe from rfl,Ym]
 split<;>rfl
def qW(O:NI cx sc xs):((vH cx.sc sc).Α x=Qa .local->sc.ui.Α x=Qa .local)/\((vH cx.sc sc).Α x=Qa .TD->sc.ui.Α x=Qa .free/\cx.sc.Α x=Qa .TD):=by
 rw[HF];refine⟨kL λk hk e=>?_,kL λk hk e=>?_⟩
 ·split at e
  ·cases e
  ·rw[hk,e]
 ·split at e
  ·rename_i hc
   rw[ZR,χ,χ] at hc;rw[hk,hc.1];exact⟨rfl,hc.2⟩
  ·exact ς e (O.qk _ (kG hk))
def Pl.yh(p:Pl Y cx env k mE fr w H s)(O:NI cx sc xs)(hn:Ul cx)(hcl:∀x c,(x,NameKind.free)∈sc.ui->env.TK.Α x=Qa c->cl.Α x=Qa c){k':Kp}(hk:k'.ce=k.ce)(hm:(N,oN)∈k'.ex)(hns:nj oN mN)
  {w':Wd} (le:w.le w') {H':MH}{s':Qg} (S':St Y k' w' H' s') {mvs:ζ ab}{vs:ζ μ} (r:jI C w' mvs vs) (hl:mvs.ε=xs.ε) (hv:∀(j:θ) x,xs[j]?=Qa x->mN x=vs[j]?):Pl Y (cj cx sc xs) (compEnvC sc cl N env) k' mN (uC (JZ cx.ϫ xs.ε) mvs fr) w' H' s':=by
 refine⟨⟨O.Ts,p.b.gl,p.b.bl,VM p.b.Ts p.b.sc,λx hx=>?_,.IO ⟨oN,hm,hns⟩⟩,λx i v hx hvv=>?_,S'⟩
 ·exact(p.b.TK x ((qW O).2 hx).2).ι λc zq15=>zq15.ι λo zq16=>zq16.ι λv₀ zq17=>⟨c,o,v₀,hcl x c (kG ((qW O).2 hx).1) zq17.1,hk▸zq17.2.1,zq17.2.2⟩
 ·obtain⟨hkd,hi⟩:=zA hx
  rw[<-hl] at hvv;rcases hkd with hkd|hkd
  ·have hloc:=(qW O).1 hkd
   rcases sF hi with ⟨j,rfl,hj⟩| ⟨hne,hi'⟩
   ·have hjl:=(Jy.mp hj).1
    rcases z8 _ _ _ _ _ hvv with ⟨j',e,hj'⟩| ⟨hlt,_⟩
    ·cases qaz e
     exact(r.Mi hj').ι λrv zq13=>.jx rv hkd ((hv _ _ hj).ν zq13.1) zq13.2
    ·lia
   ·rcases (O.jx _ (kG hloc) rfl).2 with h|h
    ·exact ς h hne
    ·rw[h] at hi';cases hi'
  ·have zq12:=(qW O).2 hkd
   rcases sF hi with ⟨j,rfl,hj⟩| ⟨_,hi'⟩
   ·have:=O.xs x (Jt hj)
    rw[zq12.1] at this;cases this
   ·have hlt:=hn x i hi'
    rcases z8 _ _ _ _ _ hvv with ⟨j',e,hj'⟩| ⟨_,hv'⟩
    ·lia
    ·have hvar:nH cx x=Qa i:=by unfold nH;rw[zq12.2];exact hi'
     cases (p.f x i v hvar hv').Τ le with
     |jx _ h3 _ _=>rw[zq12.2] at h3;cases h3
     |cell rv c o _ e1 e2 e3 e4=>exact .TD rv c o hkd (hcl x c (kG zq12.1) e1) (hk▸e2) e3 e4
abbrev GE(env:Env)(x:ld)(f:μ->Sem Unit):Prop:=∀(M:Q8)(A:Qv)(v:μ)(Q:Unit->Qg->Prop)(E:μ->Qg->Prop)(s:Qg),Qh M A (storeName env x v) Q E s->Qh M A (f v) Q E s
def nB{es:ζ ϝ}(h:lO (λe x=>qQ e=Qa x) es xs):lO (GE env) xs ((assignEach es env).π (·.2))/\(assignEach es env).ε=xs.ε/\(assignEach es env).findIdx? (·.1)=none:=by
 induction h with
 |Ϝ=>exact⟨.Ϝ,rfl,rfl⟩
 | @Ι e x es xs h _ ih=>
  obtain⟨p,hp,rfl⟩:=ms h;cases qG hp;refine⟨.Ι (λ_ _ _ _ _ _ z=>Ρ.wpAny_assign_Name z) ih.1,ω (· +1) ih.2.1,?_⟩;show qbg _ ((Qc,assign (.Name p.1 p.2) env)::assignEach es env)=Qd;rw[qaM];simp only[K1,if_false,ih.2.2,qaj]
def SN{t:ϝ}(h:vY t=Qa q):(∃x p,t=.Name x p/\q=([x],Qc))\/∃es n p,t=.Tuple es n p/\q.2=Qe/\lO (λe x=>qQ e=Qa x) es q.1:=by
 revert h
 refine lB (kL λp hp e=>?_) (j1 λp hp=>kL λxs hx e=>?_)
 ·exact .wv ⟨p.1,p.2,qG hp,e.Μ⟩
 ·subst e
  exact .IO ⟨p.1,p.2.1,p.2.2,zK hp,rfl,qR hx⟩
inductive zaO(fr fr1:Λ)(tg:ζ θ)(many:Ζ)(v:ab):Prop
 |mk(mvs:ζ ab)(l:mvs.ε=tg.ε)(e:fr1=uC tg mvs fr)(t:many=Qe->v=.ay mvs)(f:many=Qc->mvs=[v]):zaO fr fr1 tg many v
def EC{v:ab}{fr1:Λ}(h:nW fr tg many v=Qa fr1):zaO fr fr1 tg many v:=by
 cases many with
 |true=>
  refine xEA (bs (o:=v.tup?) h) λvs h1 h=>?_;exact⟨vs,χ.mp (gs h).1,(Qa.lf (gs h).2).Μ,λ_=>tup?_s h1,λq=>JK q⟩
 |false=>
  exact⟨[v],(χ.mp (gs (b:=tg.ε==1) h).1).Μ,(Qa.lf (gs (b:=tg.ε==1) h).2).Μ,λq=>JK q,λ_=>rfl⟩
def yH(hk:env.scope.Ts=.Fa)(hx:env.Ps x=Qa .local)(S:St Y (k.TA (env.locals,oN)) w H s)(hns:nj oN mN){Q:Unit->Qg->Prop} 
  (h:∀oN' mN' h' tk,cb C Y.h₀ Y.L (k.TA (env.locals,oN')) w H h'->nj oN' mN'->mN' x=Qa rv->(∀y,y≠x->mN' y=mN y)->Q () {s with heap:=h',toks:=tk}):Qh C.M Y.A (storeName env x rv) Q E s:=by
 refine Zx hns λes zq6=>zq6.ι λep zq7=>?_;refine QZ (m:=mN) hx ⟨oN,es,ep,S.fi.1,zq7⟩ (λh' hn hs=>?_) (by rw[hk];rfl);exact Zx hn λo' zq3=>zq3.ι λes' zq4=>zq4.ι λep' zq5=>h o' _ h' _ (S.iz hs zq5.1) ⟨es',ep',zq5.2⟩ (φ rfl) (λy hy=>τ hy)
def OF(hk:env.scope.Ts=.Fa)(hb:lO (GE env) xs fs):(∀x∈xs,env.Ps x=Qa .local)->xs.Ω->∀{vs:ζ μ}{oN:Go}{mN:ld->η μ}{s:Qg}{Q:Unit->Qg->Prop}{E:μ->Qg->Prop},
  vs.ε=xs.ε->St Y (k.TA (env.locals,oN)) w H s->nj oN mN->
  (∀oN' mN' h' tk,cb C Y.h₀ Y.L (k.TA (env.locals,oN')) w H h'->nj oN' mN'->(∀(j:θ) x,xs[j]?=Qa x->mN' x=vs[j]?)->(∀y,y∉xs->mN' y=mN y)->Q () {s with heap:=h',toks:=tk})->Qh C.M Y.A (assignInOrder fs vs) Q E s:=by
 induction hb with
 |Ϝ=>
  intro _ _ vs oN mN s Q E hl S hns h;cases Z3.mp hl;exact Qf (h oN mN s.Ν s.zn S hns (λj x hj=>ag hj) (λ_ _=>rfl))
 | @Ι x f xs fs hf _ ih=>
  intro hx hd vs oN mN s Q E hl S hns h;cases vs with
  |Ϝ=>cases hl
  |Ι v vs=>
   show Qh C.M Y.A (do holding _ _;assignInOrder _ _) Q E s;refine Qb (Qj (hf _ _ _ _ _ _ (yH hk (hx x (.mo _)) S hns λoN1 mN1 h1 tk S1 hns1 e1 e2=>?_)));refine ih (λy hy=>hx y (.pc _ hy)) (JH.mp hd).2 (s:={s with heap:=h1,toks:=tk}) (Z6.lf hl) S1 hns1 λoN2 mN2 h2 tk2 S2 hns2 k1 k2=>?_;refine h oN2 mN2 h2 tk2 S2 hns2 (λj y hj=>?_) (λy hy=>(k2 y λq=>hy (.pc _ q)).ν (e2 y λq=>hy (q▸ .mo _)));cases j with
   |zero=>refine lV hj ?_;rw[k2 _ (JH.mp hd).1,e1];rfl
   |succ j=>exact k1 j y hj
def Sk(hk:env.scope.Ts=.Fa){t:ϝ}(ht:vY t=Qa q)(hx:∀x∈q.1,env.Ps x=Qa .local)(hd:q.1.Ω){v:ab}(h1:q.2=Qe->v=.ay mvs)(h2:q.2=Qc->mvs=[v])(hl:mvs.ε=q.1.ε)(hv:jL C w v rv)
  {oN:Go}{mN:ld->η μ} (S:St Y (k.TA (env.locals,oN)) w H s) (hns:nj oN mN) {Q:Unit->Qg->Prop}{E:μ->Qg->Prop}
  (h:∀vs oN' mN' h' tk,jI C w mvs vs->cb C Y.h₀ Y.L (k.TA (env.locals,oN')) w H h'->nj oN' mN'->(∀(j:θ) x,q.1[j]?=Qa x->mN' x=vs[j]?)->Q () {s with heap:=h',toks:=tk}):Qh C.M Y.A (assign t env rv) Q E s:=by
 rcases SN ht with ⟨x,p,rfl,rfl⟩| ⟨es,n,p,rfl,hq,hes⟩
 ·cases h2 rfl
  refine Ρ.wpAny_assign_Name (yH hk (hx x (.mo _)) S hns λoN' mN' h' tk S' hns' e1 _=>h [rv] oN' mN' h' tk (.cw hv) S' hns' λj y hj=>?_);cases j with
  |zero=>refine lV hj ?_;exact e1
  |succ j=>exact ag hj
 ·cases h1 hq
  have zq2:=nB (env:=env) hes;obtain⟨tt,o,n',ws,rfl,ho,hc,hdd,rr,_⟩:=S.ay hv;exact Q7 (items:=ws.υ) Y.v4 ⟨o,ho,hc,n',hdd⟩ (by rw[zq2.2.1,Zo,<-rr.ε,hl]) zq2.2.2 λh' he=>OF hk zq2.1 hx hd (s:={s with heap:=h'}) (by rw[<-rr.ε,hl]) (S.grown he) hns λoN' mN' h'' tk S2 hns2 k1 _=>h ws oN' mN' h'' tk rr S2 hns2 k1
end
def dA(C:bf)(d:θ)(cx:CC)(g:Comprehension)(sc:Scope)(ez:ϝ)(q:ζ ld×Ζ)(ie ii:Ex)(iifs:ζ Ex):Prop:=g.is_async=0/\vY g.target=Qa q/\NI cx sc q.1/\Sd C d cx g.iter ii/\Sd C d (cj cx sc q.1) ez ie/\lx C d (cj cx sc q.1) g.ifs iifs
section
variable{C:bf}{d:Nat}{cx:CC}{g:Comprehension}{sc:Scope}{ez:Expr}{q:List Str×Bool}{ie ii:Ex}{iifs:List Ex}(ψ:dA C d cx g sc ez q ie ii iifs)
def dA.as:=@ψ.1
def dA.t:=@ψ.2.1
def dA.o:=@ψ.2.2.1
def dA.it:=@ψ.2.2.2.1
def dA.ez:=@ψ.2.2.2.2.1
def dA.ifs:=@ψ.2.2.2.2.2
end
section
variable{cx:CC}{fr:Frame}
def cF(cx:Cx)(fr:Λ)(tg:ζ θ)(many:Ζ)(ie:Ex)(iifs:ζ Ex)(z:It)(D:θ):θ->θ->MH->η (Unit×MH):=
 compLoop (λi h=>lP h i z) (λv h=>(nW fr tg many v).Η λfr'=>bz (Hy cx iifs fr' h) λb h'=>Qa (bif b then Qa fr' else Qd,h')) (λfr' h=>eval cx ie fr' h) D
def zdG(C:bf){d e:θ}(Y:kJ C d e)(k:Kp)(w0:Wd)(s0:Qg)(I N:Qk)(z:It)(F:θ->MH->η (Unit×MH))(H2:MH)(s:Qg)(w:Wd)(H:MH)(j:θ)(io oN:Go)(mN:ld->η μ):Prop:=w0.le w/\St Y ((k.TA (N,oN)).TA (I,io)) w H s/\nj oN mN/\pE C w io j z/\qH s0 s/\F j H=Qa ((),H2)
section
variable{C:bf}{d e:Nat}{Y:kJ C d e}{k:Kp}{w0:Wd}{s0:Qg}{I N:Qk}{z:It}{F:Nat->MH->Option (Unit×MH)}{H2:MH}{s:Qg}{w:Wd}{H:MH}{j:Nat}{io oN:Obj}{mN:Str->Option Value}(ψ:zdG C Y k w0 s0 I N z F H2 s w H j io oN mN)
def zdG.le:=@ψ.1
def zdG.st:=@ψ.2.1
def zdG.ns:=@ψ.2.2.1
def zdG.it:=@ψ.2.2.2.1
def zdG.sm:=@ψ.2.2.2.2.1
def zdG.lp:=@ψ.2.2.2.2.2
end
def zjg(C:bf){d e:θ}(Y:kJ C d e)(k:Kp)(w0:Wd)(s0:Qg)(I N:Qk)(z:It)(F:θ->MH->η (Unit×MH))(H2:MH)(s:Qg):Prop:=∃w H j io oN mN,zdG C Y k w0 s0 I N z F H2 s w H j io oN mN
def Bf{Y:kJ C d 2}{t:ϝ}{ie:Ex}{iifs:ζ Ex}{F:θ->θ->MH->η (Unit×MH)}{w0 w5:Wd}{H2 H5:MH}{I:Qk} 
  (hF:F=cF (C.cx d) fr (JZ cx.ϫ q.1.ε) q.2 ie iifs z D0) (Ot:vY t=Qa q) (Os:NI cx sc q.1) (Oi:lx C d (cj cx sc q.1) ifs iifs) (Oe:Sd C d (cj cx sc q.1) ez ie)
  (hP:∀{oN:Go}{mN:ld->η μ}{io:Go}{w':Wd}{H':MH}{s':Qg}{mvs:ζ ab}{vs:ζ μ},nj oN mN->w0.le w'->St Y ((k.TA (N,oN)).TA (I,io)) w' H' s'->jI C w' mvs vs->mvs.ε=q.1.ε->(∀(j:θ) x,q.1[j]?=Qa x->mN x=vs[j]?)->Pl Y (cj cx sc q.1) (compEnvC sc cl N env) ((k.TA (N,oN)).TA (I,io)) mN (uC (JZ cx.ϫ q.1.ε) mvs fr) w' H' s')
  (hD:w0.σ[D0]?=Qa D) (c:zdG C Y k w0 s0 I N z (F (n+1)) H2 s' w5 H5 j io oN mN)
  (hX:∀{s w H j io oN mN},zdG C Y k w0 s0 I N z (F n) H2 s w H j io oN mN->X s) (hE:∀{w oN mN s},w0.le w->St Y (k.TA (N,oN)) w H2 s->nj oN mN->qH s0 s->R (.ok .ϫ) s):
  Qh C.M Y.A (pyNext (.ξ I)) (cN C.prog C.w Y.A (compEnvC sc cl N env) R ez (.ξ D) X t (.ξ I) ifs) (cE C.prog C.w Y.A (compEnvC sc cl N env) R) s':=by
 subst hF;have lp5:=c.lp
 revert lp5
 refine j1 λov hov lp5=>Lu c.st c.it hov ⟨λu rv io6 h' tk hu S6 R6 hr=>?_,λh' hu S6=>?_⟩
 ·subst hu
  refine Wh (s:={s' with heap:=h',toks:=tk}) S6.fi.1 R6.cls ?_
  revert lp5
  refine jM λofr H7 htest lp5=>?_;refine xEA (bs htest) λfr2 hbind htest=>?_;obtain⟨mvs,b1,b2,b3,b4⟩:=EC hbind;rw[KB] at b1;refine Sk (s:={s' with heap:=h',toks:=tk}) (env:=compEnvC sc cl N env) (k:=k.TA (I,io6)) Os.Ts Ot (λx hx=>lookup_relabel_local (Os.xs x hx)) Os.nd b3 b4 b1 hr (cb.ki S6) c.ns λvs oN7 mN7 h7 tk7 rr7 S7 hns7 hm7=>?_;have P7:=hP hns7 c.le (cb.ki S7:St Y ((k.TA (N,oN7)).TA (I,io6)) w5 H5 {s' with heap:=h7,toks:=tk7}) rr7 b1 hm7;rw[<-b2] at P7
  revert htest
  refine jM λb H8 htt e8=>?_;cases e8;refine Fc Oi Y _ _ _ _ _ _ _ P7 _ htt _ _ λw8 ok s8 n8 r8=>?_;cases (r8);have le8:=c.le.ν n8.le;have sm8:qH s0 s8:=qH.ν c.sm ⟨n8.bx.1,n8.bx.2⟩;cases b with
  |false=>exact hX ⟨le8,n8.st,hns7,R6.Τ n8.le,sm8,lp5⟩
  |true=>
   revert lp5
   refine jM λx9 H9 ev9=>j1 λacc hacc=>l6 λhlen lp9=>?_;refine Oe.es Y _ _ _ _ _ _ _ (P7.ϫ n8) _ ev9 _ _ λw9 xv s9 n9 r9=>?_;exact z7 n9.st ((le8.ν n9.le).Mi hD) hacc r9 (Zn.mp hlen) _ rfl _ _ λw10 _ s10 sa _=>hX ⟨(le8.ν n9.le).ν sa.le,sa.st,hns7,R6.Τ ((n8.le.ν n9.le).ν sa.le),(sm8.ν n9.bx).ν sa.bx,lp9⟩
 ·subst hu
  cases lp5;exact hE c.le S6 c.ns ⟨c.sm.1,c.sm.2⟩
theorem Bg{Y:kJ C d 2}{t it:ϝ}{ie ii:Ex}{iifs:ζ Ex}{m:θ}{w0:Wd}{H2 H4:MH}{I:Qk}(O:dA C d cx ⟨t,it,ifs,0⟩ sc ez q ie ii iifs)(hn:Ul cx)
  (hcl:∀x c,(x,NameKind.free)∈sc.ui->env.TK.Α x=Qa c->cl.Α x=Qa c) (p:Pl Y cx env k mE fr w H s) (le:w.le w0) (hD:w0.σ[D0]?=Qa D) (S4:St Y ((k.TA (N,oN)).TA (I,io)) w0 H4 s4) (hns:nj oN mN) (R2:pE C w0 io 0 z)
  (lp:cF (C.cx d) fr (JZ cx.ϫ q.1.ε) q.2 ie iifs z D0 m 0 H4=Qa ((),H2)) (hE:∀{w oN mN s},w0.le w->St Y (k.TA (N,oN)) w H2 s->nj oN mN->qH s4 s->R (.ok .ϫ) s):
  codeAny C.M Y.A (.compLoop (.TL ez [⟨t,it,ifs,0⟩] sc pos) 0 (.ξ I) (.ξ D) (compEnvC sc cl N env)) R s4:=
 uM (λn s'=>zjg C Y k w0 s4 I N z (cF (C.cx d) fr (JZ cx.ϫ q.1.ε) q.2 ie iifs z D0 n) H2 s') (λn s' c=>by
  refine c.ι λ_ c=>c.ι λ_ c=>c.ι λ_ c=>c.ι λ_ c=>c.ι λ_ c=>c.ι λ_ c=>?_;cases n with
  |zero=>exact ag c.lp
  |succ n=>exact Bf rfl O.t O.o O.ifs O.ez (λhns l S r hl hv=>p.yh O.o hn hcl (k':=(k.TA (N,_)).TA (I,_)) rfl (.pc _ (.mo _)) hns (le.ν l) S r hl hv) hD c (λc=>⟨n,JR n,_,_,_,_,_,_,c⟩) hE) m ⟨_,_,0,io,oN,_,.TC _,S4,hns,R2,⟨rfl,rfl⟩,lp⟩
def Er{Y:kJ C d 2}{g:Comprehension}{ie ii:Ex}{iifs:ζ Ex}(O:dA C d cx g sc ez q ie ii iifs)(hn:Ul cx)(p:Pl Y cx env k mE fr w H s) 
  (ev:eval (C.cx d) (.comp ie (JZ cx.ϫ q.1.ε) q.2 ii iifs) fr H=Qa r) {use:η (μ->Sem Unit)}{Q:μ->Qg->Prop}{E:μ->Qg->Prop}
  (hpost:∀w' D N oN mN s',w.le w'->St Y (k.TA (N,oN)) w' r.2 s'->nj oN mN->jL C w' r.1 (.ξ D)->qH s s'->compPost C.M Y.A E use Q (.ξ D) N (.ok .ϫ) s'):
  Qh C.M Y.A (comprehension (.TL ez [g] sc pos) sc env ps (newList []) Qc (Ρ.eval g.iter env) use) Q E s:=by
 have as:=O.as;have Os:=O.o;obtain⟨t,it,ifs,a⟩:=g;subst (as:a=0)
 revert ev
 refine jM λv H1 ev1=>j1 λz hz=>jM λ_ H2 lp e=>?_;obtain rfl:=Qa.lf e;obtain⟨cl,hclos,hcl⟩:=D6 (scope:=sc) (env:=env) λx hx hf=>by
  refine(p.b.TK x.1 (Os.free x hx hf).2).ι λc zq11=>zq11.ι λ_ zq12=>zq12.ι λ_ zq13=>?_;rw[zq13.1];rfl
 refine wpAny_comprehension_free rfl (O.it.sy.yl env) hclos Os.Ts (λx hx hl=>(Os.jx x hx hl).1) (O.it.es Y env k mE fr w H s p _ ev1 _ _ λw1 a1 s1 n1 r1=>Lw n1.st r1 (λI io h2 S2 R2=>?_) hz);obtain⟨all,hnn,add,_,_⟩:=S2.dz;refine QC (wpAny_newFunctionEnv Os.qk (by intro y hy;simp at hy) (λh₁ hns₁ hsb₁=>?_) Os.Ts);have le2:w1.le ⟨w1.σ++[h2.wi.Ϡ],w1.tp⟩:=⟨Zk _ _,λ_ x=>x⟩;have S3:=add _ (.ο []) [(h2.wi.Ϡ,listOf ([]:ζ μ).υ 0)] _ ⟨[],0,rfl,.Ϝ,JB _⟩ (S2.fr.Te _) (hnn.Te S2.fr _) (qP _) (Tu.fresh hnn λp hp=>JD.mp hp▸Jv _) (S2.ou (Jv _));have hD:(w1.σ++[h2.wi.Ϡ])[H1.ε]?=Qa h2.wi.Ϡ:=by rw[<-S2.lv];exact Zi
 refine Zx hns₁ λoN zq8=>zq8.ι λesN zq9=>zq9.ι λepN zq10=>?_;have S4:=(S3.jb {cls:= .AT "dict",data:= .Υ #[]} rfl).iz hsb₁ zq10.1;have hns:nj oN (λx=>qa0 x ([]:ζ (ld×μ)).TM):=⟨esN,epN,zq10.2⟩;have loop:=λ(s4:Qg) (hs4:s4.Ν=h₁) (sm4:qH s s4)=>Bg (pos:=pos) (s4:=s4) (R:=compPost C.M Y.A E use Q _ _) O hn hcl (p.ϫ n1) le2 hD (by rw[St,hs4];exact S4.ki) hns (R2.Τ le2) lp λle S hns sm=>hpost _ _ _ _ _ _ ((n1.le.ν le2).ν le) S hns ⟨_,rfl,le.Mi hD⟩ (sm4.ν sm);exact codeAny_compStart_list (loop _ rfl ⟨n1.bx.1,n1.bx.2⟩) (Ge (s:={s1 with heap:=h₁,toks:=_}) (cb.fi (cb.ki S4)).1 R2 (loop _ rfl ⟨n1.bx.1,n1.bx.2⟩))
theorem lF{e:ϝ}(h1:∀rest env,starEach (e::rest) env=(Qc,Ρ.eval e env)::starEach rest env)(h2:∀o i,subscripted e Qc o i=operate [o,i] (getItem o i))(h3:∀op,behindInMarks op e=Qc)(h4:∀env x,foldedSetIterable e env x=pure x)(h5:∀t n env,swapsWith e t n env=pure Qc):Sy e:=⟨h1,h2,h3,h4,λ_=>h5⟩
theorem Sd.of{e:ϝ}{ir:Ex}(h:mD C d cx e ir)(he:∀(env:Env)(whole:Sem μ),Ρ.isTrue e env whole=(do let v<-whole;standAt e.pos;holding [v] (Ρ.truthy v)))(sy:Sy e):Sd C d cx e ir:=⟨h,Dn h he,sy⟩
def zL(O:mU C gl)(hC:oO C d):∀(n:θ)(cx:CC),NO C cx.gl->Ul cx->∀(e:ϝ)(ir:Ex),lH n cx e=Qa ir->Sd C d cx e ir:=by
 intro n
 induction n with
 |zero=>exact λcx _ _ e ir h=>ag h
 |succ n ih'=>
  intro cx hg hcc e ir;have ih:=ih' cx hg hcc;have ihs:∀{es irs},oB (lH n cx) es=Qa irs->lx C d cx es irs:=λh=>(qR h).Τ ih;cases e with
  |Constant c m pos=>exact kL λv hv e=>e▸ .of (Fh hv) (λ_ _=>rfl) (lF (λ_ _=>rfl) (λ_ _=>rfl) (λ_=>rfl) (λ_ _=>rfl) (λ_ _ _=>rfl))
  |Name x pos=>exact λh=>.of (Lv hg h) (λ_ _=>rfl) (lF (λ_ _=>rfl) (λ_ _=>rfl) (λ_=>rfl) (λ_ _=>rfl) (λ_ _ _=>rfl))
  |BoolOp op vs pos=>
   exact kL λirs hi e=>e▸ ⟨λY env k mE fr w H s p=>OV (pos:=pos) (ihs hi) Y env k mE fr w H s p,λY env k mE fr w H s p r e Q E hq=>wpAny_isTrue_BoolOp (Cb (ihs hi) Y env k mE fr w H s p r e Q E hq),lF (λ_ _=>rfl) (λ_ _=>rfl) (λ_=>rfl) (λ_ _=>rfl) (λ_ _ _=>rfl)⟩
  |BinOp l op r pos=>
   exact j1 λo ho=>j1 λa ha=>kL λb hb e=>e▸ .of (OW ho (ih _ _ ha).es (ih _ _ hb).es) (λ_ _=>rfl) (lF (λ_ _=>rfl) (λ_ _=>rfl) (λ_=>rfl) (λ_ _=>rfl) (λ_ _ _=>rfl))
  |UnaryOp op x pos=>
   refine l6 λho=>kL λa ha e=>e▸?_;cases op with
   |Not=>exact⟨ON (ih _ _ ha).es,B9 (ih _ _ ha).ts,lF (λ_ _=>rfl) (λ_ _=>rfl) (λ_=>rfl) (λ_ _=>rfl) (λ_ _ _=>rfl)⟩
   |_=>cases ho
  |IfExp t x y pos=>
   exact j1 λa ha=>j1 λb hb=>kL λc hc e=>e▸ ⟨OS (ih _ _ ha).ts (ih _ _ hb).es (ih _ _ hc).es,Ca (ih _ _ ha).ts (ih _ _ hb).ts (ih _ _ hc).ts,lF (λ_ _=>rfl) (λ_ _=>rfl) (λ_=>rfl) (λ_ _=>rfl) (λ_ _ _=>rfl)⟩
  |ζ es pos=>exact l6 λhl=>kL λirs hi e=>e▸ .of (CB (ihs hi) hl) (λ_ _=>rfl) (lF (λ_ _=>rfl) (λ_ _=>rfl) (λ_=>rfl) (λ_ _=>rfl) (λ_ _ _=>rfl))
  |Tuple es m pos=>exact l6 λhl=>kL λirs hi e=>e▸ .of (Fb (ihs hi) hl) (λ_ _=>rfl) (lF (λ_ _=>rfl) (λ_ _=>rfl) (λ_=>rfl) (λ_ _=>rfl) (λ_ _ _=>rfl))
  |Compare l ops cs pos=>
   intro h;obtain⟨o,rfl,h⟩:=Wk h;obtain⟨r,rfl,h⟩:=Wk h
   revert h
   exact j1 λa ha=>kL λb hb e=>e▸ ⟨LD O.ij (ih _ _ ha).es (ih _ _ hb),U7 O.ij (ih _ _ ha).es (ih _ _ hb),lF (λ_ _=>rfl) (λ_ _=>rfl) (λ_=>rfl) (λ_ _=>rfl) (λ_ _ _=>rfl)⟩
  |Call f as ks pos=>
   refine l6 λhk=>j1 λirs hi h=>?_;cases ks with
   |Ι _ _=>cases (Jo.mp hk).1
   |Ϝ=>
    refine .of ?_ (λ_ _=>rfl) (lF (λ_ _=>rfl) (λ_ _=>rfl) (λ_=>rfl) (λ_ _=>rfl) (λ_ _ _=>rfl))
    revert h
    refine lB (j1 λp hp=>kL λg hgn e=>?_) (j1 λp hp=>l6 λhc=>kL λg hgn e=>?_)
    ·rw[<-e,qG hp]
     exact Gg O hC (ihs hi) (Lv hg hgn)
    ·have hc:=Jo.mp hc
     rw[<-e,Vo hp];exact Gh O hC (ihs hi) (Zn.mp (Jo.mp hk).2) (ih _ _ hgn).es (Jo.mp hc.1).1 (Jo.mp hc.1).2 hc.2
  |Td v nm pos=>
   exact l6 λhc=>kL λa ha e=>e▸ .of (CJ O (ih _ _ ha).es (Jo.mp hc).1 (Jo.mp hc).2) (λ_ _=>rfl) (lF (λ_ _=>rfl) (λ_ _=>rfl) (λ_=>rfl) (λ_ _=>rfl) (λ_ _ _=>rfl))
  |Subscript v sl pos=>
   intro h;refine .of ?_ (λ_ _=>rfl) (lF (λ_ _=>rfl) (λ_ _=>rfl) (λ_=>rfl) (λ_ _=>rfl) (λ_ _ _=>rfl));have h:JG (motive:=λ_=>η Ex) (xD sl) ((lH n cx v).Η λe=>(lH n cx sl).π λi=>.Ix e i) (λp=>aw ((p5 v).ϟ && p.2.2.1.re) ((lH n cx v).Η λe=>(GV (lH n cx) p.1 p.2.1).π λq=>.slice e q.1 q.2))=Qa ir:=h;refine AZ (xD sl) (λhs=>?_) λp hs=>?_
   ·rw[hs] at h
    revert h
    exact j1 λa ha=>kL λb hb e=>e▸OM (ih _ _ ha).es (ih _ _ hb)
   ·rw[hs] at h
    revert h
    refine l6 λhc=>j1 λa ha=>kL λq hq e=>?_;simp only[<-e,Bo hs,ZQ.mp (Jo.mp hc).2];exact Fd (Jo.mp hc).1 (ih _ _ ha).es ih hq
  |Dict ks vs pos=>
   refine l6 λhl=>j1 λia ha=>kL λib hb e=>e▸?_;exact .of (CH ((qR ha).Τ λo i h=>(bs h).ι λe h=>⟨e,h.1,ih _ _ h.2⟩) (ihs hb) (χ.mp hl)) (λ_ _=>rfl) (lF (λ_ _=>rfl) (λ_ _=>rfl) (λ_=>rfl) (λ_ _=>rfl) (λ_ _ _=>rfl))
  |TL ez gens sc pos=>
   intro h;obtain⟨g,rfl,h⟩:=Wk h
   revert h
   refine j1 λq hq=>l6 λhc=>j1 λii hi=>j1 λiifs hf=>kL λie he e=>e▸?_;refine .of (λY env k mE fr w H s p r ev Q E hQ=>?_) (λ_ _=>rfl) ⟨λ_ _=>rfl,λ_ _=>rfl,λ_=>rfl,λ_ _=>rfl,λq=>JK q⟩;obtain⟨t,it,ifs,a⟩:=g;have ha:a=0:=χ.mp (Jo.mp hc).1;subst ha;simp only[eval_ListComp];refine Er (⟨χ.mp (Jo.mp hc).1,hq,AO (Jo.mp hc).2,ih _ _ hi,(ih' (cj cx sc q.1) hg (hcc.cj sc q.1)) _ _ he,(qR hf).Τ (ih' (cj cx sc q.1) hg (hcc.cj sc q.1))⟩) hcc p ev λw' D N oN mN s' le S' hns r' sm=>?_;refine Zx hns λes zq1=>zq1.ι λep zq2=>?_;exact⟨mN,⟨oN,es,ep,S'.fi.1,zq2⟩,λh' hs=>hQ w' _ {s' with heap:=h'} ⟨le,S'.gj hs.extBut,sm.1,sm.2⟩ r'⟩
  |_=>exact λh=>ag h
end
inductive td(C:bf)(w:Wd):Fl->Jl->Prop
 |nx:td C w .nx .ϫ
 |bk:td C w .bk .brk
 |ct:td C w .ct .cont
 |rt{v:ab}{rv:μ}:jL C w v rv->td C w (.rt v) (.ret rv)
def zf5(cx:CC)(env:Env)(L:Qk):Prop:=env.scope.Ts=.Fa/\env.globals=mainGlobals/\env.builtins=builtinsNs/\env.scope.ui=cx.sc/\(∀x,cx.sc.Α x=Qa .TD->∃c,env.TK.Α x=Qa c)/\(∀x y c,cx.sc.Α x=Qa .TD->cx.sc.Α y=Qa .TD->env.TK.Α x=Qa c->env.TK.Α y=Qa c->x=y)/\env.locals=L/\∀x y i,nH cx x=Qa i->nH cx y=Qa i->x=y
section
variable{cx:CC}{env:Env}{L:Qk}(ψ:zf5 cx env L)
def zf5.Ts:=@ψ.1
def zf5.gl:=@ψ.2.1
def zf5.bl:=@ψ.2.2.1
def zf5.sc:=@ψ.2.2.2.1
def zf5.TK:=@ψ.2.2.2.2.1
def zf5.cJ:=@ψ.2.2.2.2.2.1
def zf5.jx:=@ψ.2.2.2.2.2.2.1
def zf5.lf:=@ψ.2.2.2.2.2.2.2
end
def zjh(cx:CC)(env:Env)(ce:bw):Prop:=∀x c,cx.sc.Α x=Qa .TD->env.TK.Α x=Qa c->∃o v₀,(c,o)∈ce/\o.Ta=.TD v₀
def iw{C:bf}{d e:θ}(Y:kJ C d e)(cx:CC)(env:Env)(k:Kp)(fr:Λ)(w:Wd)(H:MH)(s:Qg):Prop:=zf5 cx env Y.L/\zjh cx env k.ce/\zf4 C w cx env k.ce k.m fr/\St Y k w H s
section
variable{C:bf}{d e:Nat}{Y:kJ C d e}{cx:CC}{env:Env}{k:Kp}{fr:Frame}{w:Wd}{H:MH}{s:Qg}(ψ:iw Y cx env k fr w H s)
def iw.b:=@ψ.1
def iw.c:=@ψ.2.1
def iw.f:=@ψ.2.2.1
def iw.st:=@ψ.2.2.2
end
theorem iw.pl{cx:CC}{fr:Λ}(p:iw Y cx env k fr w H s):Pl Y cx env k k.m fr w H s:=
 ⟨⟨p.b.Ts,p.b.gl,p.b.bl,p.b.sc,λx h=>(p.b.TK x h).ι λc hc=>(p.c x c h hc).ι λo h=>h.ι λv₀ h=>⟨c,o,v₀,hc,h.1,h.2⟩,.wv ⟨p.b.jx,rfl⟩⟩,p.f,p.st⟩
theorem iw.ϫ{cx:CC}{fr:Λ}(p:iw Y cx env k fr w H s)(n:jc Y k w w' H' s s'):iw Y cx env k fr w' H' s':=⟨p.b,p.c,λx i v a b=>(p.f x i v a b).Τ n.le,n.st⟩
def ni{C:bf}{d e:θ}(Y:kJ C d e)(cx:CC)(env:Env)(ex:bw)(w:Wd)(s:Qg)(k':Kp)(fr':Λ)(w':Wd)(H':MH)(s':Qg):Prop:=k'.ex=ex/\w.le w'/\iw Y cx env k' fr' w' H' s'/\qH s s'
section
variable{C:bf}{d e:Nat}{Y:kJ C d e}{cx:CC}{env:Env}{ex:bw}{w:Wd}{s:Qg}{k':Kp}{fr':Frame}{w':Wd}{H':MH}{s':Qg}(ψ:ni Y cx env ex w s k' fr' w' H' s')
def ni.ex:=@ψ.1
def ni.le:=@ψ.2.1
def ni.pl:=@ψ.2.2.1
def ni.bx:=@ψ.2.2.2
end
variable{ex:bw}{w1 w2:Wd}{k1 k2:Kp}{fr1 fr2:Frame}{H1 H2:MH}
theorem ni.ν{cx:CC}(a:ni Y cx env ex w s k1 fr1 w1 H1 s1)(b:ni Y cx env k1.ex w1 s1 k2 fr2 w2 H2 s2):ni Y cx env ex w s k2 fr2 w2 H2 s2:=⟨b.ex.ν a.ex,a.le.ν b.le,b.pl,a.bx.ν b.bx⟩
theorem iw.nx{cx:CC}{fr:Λ}(p:iw Y cx env k fr w H s)(n:jc Y k w w' H' s s'):ni Y cx env k.ex w s k fr w' H' s':=⟨rfl,n.le,p.ϫ n,n.bx⟩
theorem iw.rf{cx:CC}{fr:Λ}(p:iw Y cx env k fr w H s):ni Y cx env k.ex w s k fr w H s:=⟨rfl,.TC w,p,.TC s⟩
def fD{C:bf}{d e:θ}(Y:kJ C d e)(cx:CC)(env:Env)(ex:bw)(t:Sem Jl)(w:Wd)(s:Qg)(r:(Fl×Λ)×MH):Prop:=
 ∀(Q:Jl->Qg->Prop)(E:μ->Qg->Prop),(∀k' w' f s',ni Y cx env ex w s k' r.1.2 w' r.2 s'->td C w' r.1.1 f->Q f s')->Qh C.M Y.A t Q E s
def vK(C:bf)(d:θ)(cx:CC)(st:Qz)(ir:Sm):Prop:=
 ∀(Y:kJ C d 2)(env:Env)(k:Kp)(fr:Λ)(w:Wd)(H:MH)(s:Qg),iw Y cx env k fr w H s->∀r,exec (C.cx d) ir fr H=Qa r->fD Y cx env k.ex (Ρ.exec st env) w s r
def uX(C:bf)(d:θ)(cx:CC)(st:ζ Qz)(ir:ζ Sm):Prop:=
 ∀(Y:kJ C d 2)(env:Env)(k:Kp)(fr:Λ)(w:Wd)(H:MH)(s:Qg),iw Y cx env k fr w H s->∀r,execs (C.cx d) ir fr H=Qa r->fD Y cx env k.ex (Ρ.execs st env) w s r
section
variable{cx:CC}{fr:Frame}
def UP(ce:bw)(c:Qk)(o:Go):bw:=ce.π λp=>if p.1=c then(c,o) else p
def Bk(ce:bw)(c:Qk)(o:Go):(UP ce c o).π (·.1)=ce.π (·.1):=by
 delta UP;rw[KN]
 apply Ke
 intro p _;show (if p.1=c then(c,o) else p).1=p.1;split
 ·rename_i h;exact h.Μ
 ·rfl
def cb.xm{o':Go}(S:cb C h₀ L k w H h)(hc:(c,o)∈k.ce)(hs:wS.v6 c h h')(ho:h'.sB c=Qa o'):cb C h₀ L {k with ce:=UP k.ce c o'} w H h':=by
 obtain⟨os,he,hn,hd⟩:=S.os;have g:=hn (c,o) (JT _ (JT _ (ZV _ hc)));have hp:∀ce:bw,({k with ce:=ce}:Kp).Hd w os|>.No (ce++(os.pt++(w.tp++k.ex))):=λce=>
  (ζ.No.append_left os.pt (KG w.tp ce k.ex)).ν (KG os.pt ce (w.tp++k.ex))
 have hd1:=bw.nd.je (hp k.ce) hd;unfold bw.nd at hd1;have hd2:=hd1;rw[JW,Kj] at hd2;refine⟨Fr.sameBut S.fr hs g.2,⟨os,he,λp hpm=>?_,bw.nd.je (hp _).Μ ?_⟩,S.og,S.lo⟩
 ·rcases Zh.mp ((hp _).tz.mp hpm) with hpm|hpm
  ·refine(JL.mp hpm).ι λq zq14=>?_
   have e:=zq14.2;by_cases hqc:q.1=c
   ·rw[φ hqc] at e
    rw[<-e];exact⟨ho,g.2⟩
   ·rw[τ hqc] at e
    rw[<-e]
    have:=hn q (JT _ (JT _ (ZV _ zq14.1)))
    exact⟨(hs.2 q.1 hqc).ν this.1,this.2⟩
  ·have:=hn p ((hp k.ce).tz.ϥ (JT _ hpm))
   exact⟨(hs.2 p.1 λe=>hd2.2.2 c (JL.ϥ ⟨_,hc,rfl⟩) p.1 (JL.ϥ ⟨_,hpm,rfl⟩) e.Μ).ν this.1,this.2⟩
 ·delta bw.nd
  rw[JW,Bk,<-JW];exact hd1
def qN(p:iw Y cx env k fr w H s){v:ab}(hi:nH cx x=Qa i)(r:jL C w v rv){Q:Unit->Qg->Prop} 
  (h:∀k' s',ni Y cx env k.ex w s k' (fr.Ϫ i (Qa v)) w H s'->Q () s'):Qh C.M A' (storeName env x rv) Q E s:=by
 have nt:∀{y j},nH cx y=Qa j->i≠j->y≠x:=λhj hij e=>hij (by rw[e,hi] at hj;exact Qa.lf hj);rcases (zA hi).1 with hk|hk
 ·refine QZ (p.pl.b.Ps hk) (by rw[p.b.jx];exact p.st.fr.ns) (λh' hn hs=>?_) (by rw[p.b.Ts];rfl)
  rw[p.b.jx] at hn hs;obtain⟨os,he,hnn,hd⟩:=p.st.os;refine h {k with m:=λy=>if y=x then Qa rv else k.m y} _ ⟨rfl,.TC w,⟨p.b,p.c,λy j u hj hu=>?_,⟨p.st.fr.Ϫ hn hs,⟨os,he,hnn.Ϫ hs,hd⟩,p.st.og,p.st.lo⟩⟩,rfl,rfl⟩;rcases CM hu with ⟨rfl,rfl⟩| ⟨hij,hu'⟩
  ·cases p.b.lf y x _ hj hi
   exact .jx rv hk (φ rfl) r
  ·cases p.f y j u hj hu' with
   |jx rv' h1 h2 h3=>exact .jx rv' h1 ((τ (nt hj hij)).ν h2) h3
   |cell rv' c o h1 h2 h3 h4 h5=>exact .TD rv' c o h1 h2 h3 h4 h5
 ·refine(p.b.TK x hk).ι λc zq13=>?_
  have hc:=zq13;refine(p.c x c hk hc).ι λo zq11=>zq11.ι λv₀ zq12=>?_;refine wpAny_storeName_cell p.b.Ts (p.pl.b.Ps hk) hc ⟨o,p.st.yn zq12.1,zq12.2⟩ λh' hv hs=>?_;refine Zx hv λo' zq10=>?_;have hmem:∀{y cy oy},cx.sc.Α y=Qa .TD->env.TK.Α y=Qa cy->(cy,oy)∈k.ce->y≠x->(cy,oy)∈UP k.ce c o':=λ{y cy oy} hy hcy hm hyx=>
   JL.ϥ ⟨(cy,oy),hm,τ λe=>hyx (p.b.cJ y x c hy hk (by rw[hcy];exact ω Qa e) hc)⟩
  have hself:(c,o')∈UP k.ce c o':=JL.ϥ ⟨(c,o),zq12.1,φ rfl⟩;refine h {k with ce:=UP k.ce c o'} _ ⟨rfl,.TC w,⟨p.b,λy cy hy hcy=>?_,λy j u hj hu=>?_,p.st.xm zq12.1 hs zq10.1⟩,rfl,rfl⟩
  ·by_cases hyx:y=x
   ·cases hyx
    rw[hc] at hcy;refine lV hcy ?_;exact⟨o',Qa rv,hself,zq10.2⟩
   ·exact(p.c y cy hy hcy).ι λoy zq8=>zq8.ι λvy zq9=>⟨oy,vy,hmem hy hcy zq9.1 hyx,zq9.2⟩
  ·rcases CM hu with ⟨rfl,rfl⟩| ⟨hij,hu'⟩
   ·cases p.b.lf y x _ hj hi
    exact .TD rv c o' hk hc hself zq10.2 r
   ·cases p.f y j u hj hu' with
    |jx rv' h1 h2 h3=>exact .jx rv' h1 h2 h3
    |cell rv' cy oy h1 h2 h3 h4 h5=>exact .TD rv' cy oy h1 h2 (hmem h1 h2 h3 (nt hj hij)) h4 h5
theorem Cv:uX C d cx [] []:=λY env k fr w H s p r e=>by
 refine lV e ?_;exact λQ E hq=>QU (hq k w .ϫ s p.rf .nx)
def E5{r:ζ Qz}{i:Sm}{is:ζ Sm}(h1:vK C d cx st i)(h2:uX C d cx r is):uX C d cx (st::r) (i::is):=by
 intro Y env k fr w H s p r;refine jM λq H1 e1 e Q E hq=>wpAny_execs_cons (h1 Y env k fr w H s p _ e1 _ _ λk1 w1 f s1 n1 r1=>?_);obtain⟨fl,fr1⟩:=q;cases r1 with
 |nx=>exact h2 Y env k1 fr1 w1 H1 s1 n1.pl _ e _ _ λk2 w2 f2 s2 n2 r2=>hq k2 w2 f2 s2 (n1.ν n2) r2
 |bk=>obtain rfl:=Qa.lf e;exact hq k1 w1 .brk s1 n1 .bk
 |ct=>obtain rfl:=Qa.lf e;exact hq k1 w1 .cont s1 n1 .ct
 |rt h=>obtain rfl:=Qa.lf e;exact hq k1 w1 _ s1 n1 (.rt h)
def Cy(hcc:Ul cx){v:ϝ}{iv:Ex}(hi:nH cx x=Qa i)(hv:Sd C d cx v iv)(hL:∀{ez gens sc cp},v=.TL ez gens sc cp->∃g q ie ii iifs,gens=[g]/\dA C d cx g sc ez q ie ii iifs/\iv=.comp ie (JZ cx.ϫ q.1.ε) q.2 ii iifs):vK C d cx (.Assign [.Name x xp] v pos) (.ft (.nm i) iv):=by
 intro Y env k fr w H s p r;show bz (eval (C.cx d) iv fr H) (λv h1=>bz (Lm (C.cx d) fr h1 v (.nm i)) λfr' h2=>Qa ((.nx,fr'),h2))=Qa r->_;refine jM λu H1 e1 e=>?_;refine lV e ?_;intro Q E hq;have plain:swapsWith v (Qa (.Name x xp)) pos.line env=pure Qc->Qh C.M Y.A (Ρ.exec (.Assign [.Name x xp] v pos) env) Q E s:=λhsw=>
  wpAny_Assign_Name (hv.es Y env k k.m fr w H s p.pl _ e1 _ _ λw1 a1 s1 n1 r1=>qN (p.ϫ n1) hi r1 λk' s' n2=>hq k' w1 .ϫ s' ((p.nx n1).ν n2) .nx) hsw
 refine vL (pV v) (λhc=>?_) λhc=>?_
 ·clear hv
  cases v with
  |TL ez gens sc cpos=>
   obtain⟨b,hb⟩:∃b,swapsWith (.TL ez gens sc cpos) (Qa (.Name x xp)) pos.line env=pure b:=⟨_,rfl⟩;cases b with
   |false=>exact plain hb
   |true=>
    obtain⟨g,q,ie,ii,iifs,rfl,P,rfl⟩:=hL rfl;obtain⟨t,it,ifs,a⟩:=g;cases P.as;rw[exec_Assign_Name_used _ _ _ _ hb];refine Qb (Qo (Qb ?_));refine Qb (Qr (Er (use:=Qa (assign (.Name x xp) env)) (Q:=λ_ s'=>Q .ϫ s') P hcc p.pl e1 λw1 D N oN mN s1 le S1 hns r1 sm1=>?_) (λ_ s' hq=>Qf (Qf hq)) λ_ _ e=>e);refine Ρ.wpAny_assign_Name (qN (⟨p.b,p.c,λx i v a b=>(p.f x i v a b).Τ le,S1⟩:iw Y cx env (k.TA (N,oN)) fr w1 H1 s1) hi r1 λk' s' n2=>?_);refine Zx hns λes zq1=>zq1.ι λep zq2=>?_;obtain⟨ce',ex',m'⟩:=k';cases n2.ex;exact⟨mN,⟨oN,es,ep,cb.fi (k:=⟨ce',k.ex,m'⟩) n2.pl.st|>.1,zq2⟩,λh'' hs=>hq ⟨ce',k.ex,m'⟩ w1 .ϫ {s' with heap:=h''} ⟨rfl,le,⟨n2.pl.b,n2.pl.c,n2.pl.f,cb.gj (k:=⟨ce',k.ex,m'⟩) n2.pl.st hs.extBut⟩,(sm1.ν n2.bx).1,(sm1.ν n2.bx).2⟩ .nx⟩
  |_=>cases hc
 ·exact plain (hv.sy.swap hc _ _ _)
def Cu{v:ϝ}{iv:Ex}(hv:mD C d cx v iv):vK C d cx (.Return (Qa v) pos) (.ret iv):=by
 intro Y env k fr w H s p r;show bz (eval (C.cx d) iv fr H) (λv h1=>Qa ((.rt v,fr),h1))=Qa r->_;refine jM λu H1 e1 e=>?_;refine lV e ?_;exact λQ E hq=>wpAny_Return_some (hv Y env k k.m fr w H s p.pl _ e1 _ _ λw1 a1 s1 n1 r1=>hq k w1 _ s1 (p.nx n1) (.rt r1))
def E3:vK C d cx (.Return Qd pos) (.ret (.py .Ε)):=by
 intro Y env k fr w H s p r e;refine lV e ?_;exact λQ E hq=>wpAny_Return_none (hq k w _ s p.rf (.rt rfl))
def OJ{t:ϝ}{x y:ζ Qz}{it:Ex}{ix iy:ζ Sm}(ht:y9 C d cx t it)(hx:uX C d cx x ix)(hy:uX C d cx y iy):vK C d cx (.If t x y pos) (.ite it ix iy):=by
 intro Y env k fr w H s p r;show bz (lT (eval (C.cx d) it fr H)) (λr h1=>bif r then execs (C.cx d) ix fr h1 else execs (C.cx d) iy fr h1)=Qa r->_;refine jM λb H1 e1 e Q E hq=>wpAny_If (ht Y env k k.m fr w H s p.pl _ e1 _ _ λw1 a1 s1 n1 r1=>?_);rw[show a1=b from r1];cases b with
 |true=>exact hx Y env k fr w1 H1 s1 (p.ϫ n1) _ e _ _ λk2 w2 f2 s2 n2 r2=>hq k2 w2 f2 s2 ((p.nx n1).ν n2) r2
 |false=>exact hy Y env k fr w1 H1 s1 (p.ϫ n1) _ e _ _ λk2 w2 f2 s2 n2 r2=>hq k2 w2 f2 s2 ((p.nx n1).ν n2) r2
inductive zf2{C:bf}{d e:θ}(Y:kJ C d e)(cx:CC)(env:Env)(ex:bw)(w0:Wd)(s0:Qg)(F:Λ->MH->SR)(r:(Fl×Λ)×MH)(s:Qg):Prop
 |mk(k:Kp)(fr:Λ)(w:Wd)(H:MH)(n:ni Y cx env ex w0 s0 k fr w H s)(lp:F fr H=Qa r):zf2 Y cx env ex w0 s0 F r s
def Dr{t:ϝ}{b:ζ Qz}{it:Ex}{ib:ζ Sm}(ht:y9 C d cx t it)(hb:uX C d cx b ib):vK C d cx (.While t b [] pos) (.wh it ib):=by
 intro Y env k fr w H s p r ev Q E hq;refine wpAny_While (codeAny_whileLoop (λn s'=>zf2 Y cx env k.ex w s (Wr (λfr h=>lT (eval (C.cx d) it fr h)) (λfr h=>execs (C.cx d) ib fr h) n) r s') ?_ (C.cx d).ba ⟨k,fr,w,H,p.rf,ev⟩)
 rintro n s' ⟨k1,fr1,w1,H1,n1,lp⟩
 cases n with
 |zero=>exact ag lp
 |succ n=>
  revert lp
  refine jM λc H2 e2 lp=>ht Y env k1 k1.m fr1 w1 H1 s' n1.pl.pl _ e2 _ _ λw2 a2 s2 n2 r2=>?_;simp only[show a2=c from r2];have n2':=n1.ν (n1.pl.nx n2);cases c with
  |false=>
   obtain rfl:=Qa.lf lp;rw[τ JQ];exact QU (hq k1 w2 .ϫ s2 n2' .nx)
  |true=>
   rw[φ rfl]
   revert lp
   show bz (execs (C.cx d) ib fr1 H2) (λp h2=>Fl.Δ (motive:=λ_=>SR) p.1 (Wr (λfr h=>lT (eval (C.cx d) it fr h)) (λfr h=>execs (C.cx d) ib fr h) n p.2 h2) (Qa ((.nx,p.2),h2)) (Wr (λfr h=>lT (eval (C.cx d) it fr h)) (λfr h=>execs (C.cx d) ib fr h) n p.2 h2) (λv=>Qa ((.rt v,p.2),h2)))=Qa r->_;refine jM λq H3 e3 lp=>hb Y env k1 fr1 w2 H2 s2 n2'.pl _ e3 _ _ λk3 w3 f3 s3 n3 r3=>?_;obtain⟨fl,fr3⟩:=q;cases r3 with
   |nx=>exact⟨n,JR n,k3,fr3,w3,H3,(n2'.ν n3),lp⟩
   |ct=>exact⟨n,JR n,k3,fr3,w3,H3,(n2'.ν n3),lp⟩
   |bk=>obtain rfl:=Qa.lf lp;exact hq k3 w3 .ϫ s3 (n2'.ν n3) .nx
   |rt h=>obtain rfl:=Qa.lf lp;exact hq k3 w3 _ s3 (n2'.ν n3) (.rt h)
end
def Fz{v:ab}:∀(is:ζ θ)(vs:ζ ab)(fr:Λ),i∉is->(uC is vs fr).Ϫ i (Qa v)=uC is vs (fr.Ϫ i (Qa v)):=by
 intro is
 induction is with
 |Ϝ=>exact λvs fr _=>rfl
 |Ι j is ih=>
  intro vs fr h;cases vs with
  |Ϝ=>rfl
  |Ι u vs=>
   show (uC is vs (fr.Ϫ j (Qa u))).Ϫ i (Qa v)=uC is vs ((fr.Ϫ i (Qa v)).Ϫ j (Qa u));rw[ih vs _ λq=>h (.pc _ q),ζ.set_comm _ _ λq:j=i=>h (q▸ .mo _)]
def C5:∀(is:ζ θ)(vs:ζ ab)(i:θ)(v:ab)(fr:Λ),is.ε=vs.ε->uC (is++[i]) (vs++[v]) fr=(uC is vs fr).Ϫ i (Qa v):=by
 intro is
 induction is with
 |Ϝ=>intro vs i v fr h;cases Z3.mp h.Μ;rfl
 |Ι j is ih=>
  intro vs i v fr h;cases vs with
  |Ϝ=>cases h
  |Ι u vs=>exact ih vs i v _ (Z6.lf h)
def C4:∀(is:ζ θ)(vs:ζ ab)(fr:Λ),is.Ω->is.ε=vs.ε->uC is.TM vs.TM fr=uC is vs fr:=by
 intro is
 induction is with
 |Ϝ=>intro vs fr _ h;cases Z3.mp h.Μ;rfl
 |Ι i is ih=>
  intro vs fr hd h;cases vs with
  |Ϝ=>cases h
  |Ι v vs=>
   rw[KS,KS,C5 _ _ _ _ _ (by rw[Yy,Yy];exact Z6.lf h),ih vs fr (JH.mp hd).2 (Z6.lf h),Fz is vs fr (JH.mp hd).1];rfl
section
variable{cx:CC}{fr:Frame}
def jI.TM:∀{ms:ζ ab}{vs:ζ μ},jI C w ms vs->jI C w ms.TM vs.TM:=by
 intro ms
 induction ms with
 |Ϝ=>intro vs h;refine eqB h ?_;exact .Ϝ
 |Ι m ms ih=>intro vs h;obtain⟨v,r,rfl,h,h'⟩:=h;rw[KS,KS];exact jI.append (.cw h) (ih h')
def lO.TM{R:α->β->Prop}{as:ζ α}{bs:ζ β}(h:lO R as bs):lO R as.TM bs.TM:=by
 have cq:∀{as:ζ α}{bs:ζ β}{a b},lO R as bs->R a b->lO R (as++[a]) (bs++[b]):=λh hab=>by
  induction h with
  |Ϝ=>exact .Ι hab .Ϝ
  |Ι x _ ih=>exact .Ι x ih
 induction h with
 |Ϝ=>exact .Ϝ
 |Ι x _ ih=>rw[KS,KS];exact cq ih x
abbrev sE(cx:CC)(x:ld)(i:θ):Prop:=nH cx x=Qa i
def xK:∀{xs:ζ ld}{is:ζ θ}{fs:ζ (μ->Sem Unit)},lO (sE cx) xs is->lO (GE env) xs fs->∀{mvs:ζ ab}{vs:ζ μ}{k:Kp}{fr:Λ}{s:Qg}{Q:Unit->Qg->Prop}{E:μ->Qg->Prop},
  jI C w mvs vs->mvs.ε=is.ε->iw Y cx env k fr w H s->(∀k' s',ni Y cx env k.ex w s k' (uC is mvs fr) w H s'->Q () s')->Qh C.M Y.A (assignInOrder fs vs) Q E s:=by
 intro xs is fs hi
 induction hi generalizing fs with
 |Ϝ=>
  intro hf mvs vs k fr s Q E r hl p h;cases hf;cases Z3.mp hl;subst r;exact Qf (h k s p.rf)
 |Ι hi _ ih=>
  intro hf mvs vs k fr s Q E r hl p h;cases hf with
  |Ι hf uf=>
   cases mvs with
   |Ϝ=>cases hl
   |Ι mv mvs=>
    obtain⟨v,t,rfl,hv,r⟩:=r;show Qh C.M Y.A (do holding _ _;assignInOrder _ _) Q E s;exact Qb (Qj (hf _ _ _ _ _ _ (qN p hi hv λk1 s1 n1=>ih uf r (Z6.lf hl) n1.pl λk2 s2 n2=>h k2 s2 (n1.ν n2))))
def D9:∀(xs:ζ ld),lO (GE env) xs (xs.π λn=>bindName env n):=by
 intro xs
 induction xs with
 |Ϝ=>exact .Ϝ
 |Ι x xs ih=>exact .Ι (λ_ _ _ _ _ _ z=>wpAny_bindName z) ih
theorem AJ{is:ζ θ}(h:oB (Gi cx) xs=Qa is):lO (sE cx) xs is:=(qR h).Τ λ_ _ h=>(gs h).2
def CK(B:zf5 cx env Y.L){is:ζ θ}(h:lO (sE cx) xs is):xs.Ω->is.Ω:=by
 have mem:∀{xs:ζ ld}{is:ζ θ},lO (sE cx) xs is->∀i∈is,∃y∈xs,nH cx y=Qa i:=λh=>by
  induction h with
  |Ϝ=>exact λi hi=>ς hi Jz
  | @Ι x j _ _ h _ ih=>
   intro i hi;rcases JM.mp hi with rfl|hi
   ·exact⟨x,.mo _,h⟩
   ·obtain⟨y,hy,e⟩:=ih i hi;exact⟨y,.pc _ hy,e⟩
 induction h with
 |Ϝ=>exact λ_=>.Ϝ
 | @Ι x i xs is h1 h2 ih=>
  intro hd;have hd:=JH.mp hd;exact JH.ϥ ⟨λhi=>(mem h2 i hi).ι λy zq13=>hd.1 (B.lf x y i h1 zq13.2▸zq13.1),ih hd.2⟩
def LV(F:ϝ->η ld)(kk:ld->Pos->Ζ)(hF:∀i p,F (.Name i p)=if kk i p then Qa i else Qd){es:ζ ϝ}(h:lO (λe x=>qQ e=Qa x) es xs):(es.dL F).ε=es.ε->es.dL F=xs:=by
 induction h with
 |Ϝ=>exact λ_=>rfl
 | @Ι e x es xs h _ ih=>
  intro hl;obtain⟨p,hp,rfl⟩:=ms h;cases qG hp;rw[ZC,hF] at hl ⊢;refine vL (kk p.1 p.2) (λhk=>?_) λhk=>?_
  ·rw[hk]
   rw[hk] at hl;exact ω (Kl _) (ih (Z6.lf hl))
  ·rw[hk]
   rw[hk] at hl;exact ς (YA F es) (Xw.ϥ (YH (JR _) hl.Μ))
def GD{c:Prop}[Ch c]{a b x y:Sem α}(ha:a=x)(hb:¬c->b=x\/b=y):(if c then a else b)=x\/(if c then a else b)=y:=by
 by_cases h:c
 ·rw[φ h];exact .wv ha
 ·rw[τ h];exact hb h
def DP{c:Prop}[Ch c]{a b x:Sem α}(ha:a=x)(hb:¬c->b=x):(if c then a else b)=x:=by
 by_cases h:c
 ·rw[φ h];exact ha
 ·rw[τ h];exact hb h
def dX{a b c:θ}(h:¬((a !=b||c !=d)=Qe)):a=b:=by
 rw[Xm,TQ] at h;exact Ch.not_not.mp λq=>h (.wv q)
def Uu{es:ζ ϝ}{v:ϝ}(h:uW v=Qd):swappedStores [.Tuple es n tpos] v env=pure none:=by cases v<;>first|rfl|cases h
def zbp{es:ζ ϝ}{v:ϝ}(hok:Ur v=Qe)(hn:lO (λe x=>qQ e=Qa x) es xs):
  swappedStores [.Tuple es n tpos] v env=pure Qd\/swappedStores [.Tuple es n tpos] v env=pure (Qa xs):=by
 refine AZ (uW v) (λht=>?_) λp ht=>?_
 ·exact .wv (Uu ht)
 ·cases zK ht
  have hok:(!p.1.Hd (constantsAlone 8))=true:=(Jo.mp hok).2;have hok:p.1.Hd (constantsAlone 8)=false:=by
   cases hq:p.1.Hd (constantsAlone 8) with
   |false=>rfl
   |true=>rw[hq] at hok;cases hok
  refine GD rfl λ_=>GD rfl λ_=>GD rfl λh3=>GD rfl λ_=>.IO ?_;rw[hok];exact ω (λz=>(pure (Qa z):Sem (η (ζ ld)))) (LV _ (λid pos=>env.Ps id==Qa .local && pos.line==((es.head?.π (·.pos.line)).ϡ 0)) (λi p=>rfl) hn (dX h3))
def EY{c:Cx}{h:MH}:∀{is:ζ θ}{mvs:ζ ab}{fr:Λ}{r:Λ×MH},qM c (is.π T1.nm) mvs fr h=Qa r->mvs.ε=is.ε/\r=(uC is mvs fr,h):=by
 intro is
 induction is with
 |Ϝ=>
  intro mvs fr r e;refine xA (gs e) λh1 e=>?_;refine lV e ?_;cases mvs with
  |Ϝ=>exact⟨rfl,rfl⟩
  |Ι _ _=>cases h1
 |Ι i is ih=>
  intro mvs fr r e;cases mvs with
  |Ϝ=>exact ag e
  |Ι v mvs=>
   have zq10:=ih (show qM c (is.π T1.nm) mvs (fr.Ϫ i (Qa v)) h=Qa r from e);exact⟨ω (· +1) zq10.1,zq10.2⟩
def Wv{v:ab}(S:St Y k w H s)(hv:jL C w v rv)(hi:items H v=Qa mvs){Q:ζ μ->Qg->Prop} 
  (h:∀vs h',jI C w mvs vs->cb C Y.h₀ Y.L k w H h'->Q vs {s with heap:=h'}):Qh C.M Y.A (unpackItems rv mvs.ε Qd) Q E s:=by
 revert hi
 refine lB (λe=>?_) (λe=>?_)
 ·cases tup?_s e
  obtain⟨t,o,n,ws,rfl,ho,hc,hdt,rr,_⟩:=S.ay hv;rw[rr.ε,<-Zo];exact unpackItems_tuple (items:=ws.υ) Y.v4 ⟨o,ho,hc,n,hdt⟩ λh' he=>h ws h' rr (S.grown he)
 ·obtain⟨t,ws,n,rfl,ho,rr,_⟩:=S.ο hv e
  rw[rr.ε,<-Zo];exact kun_itemsOf Y.v4 ⟨_,ho,rfl,n,rfl⟩ λh' he=>h ws h' rr (S.grown he)
theorem zZ{v:ϝ}{i:Ex}(hv:Sd C d cx v i)(hok:Ur v=Qe){t:ϝ}:swapsWith v (Qa t) n env=pure false:=hv.sy.swap (by have:=(Jo.mp hok).1;cases hq:pV v;rfl;rw[hq] at this;cases this) _ _ _
def E6{es:ζ ϝ}{v:ϝ}{is:ζ θ}{iv:Ex}(hok:Ur v=Qe)(hn:lO (λe x=>qQ e=Qa x) es xs)(hnd:xs.Ω)(hs:lO (sE cx) xs is)(hv:Sd C d cx v iv):
  vK C d cx (.Assign [.Tuple es n tpos] v pos) (.ju (is.π T1.nm) iv):=by
 intro Y env k fr w H s p r;show bz (eval (C.cx d) iv fr H) (λv h1=>(items h1 v).Η λvs=>bz (qM (C.cx d) (is.π T1.nm) vs fr h1) λfr' h2=>Qa ((.nx,fr'),h2))=Qa r->_;refine jM λu H1 e1=>j1 λmvs hm=>jM λfr' H2 e2 e=>?_;obtain⟨hl,e3⟩:=EY e2;cases e3;refine lV e ?_;intro Q E hq;rcases zbp (env:=env) (tpos:=tpos) (n:=n) hok hn with hw|hw
 ·refine Assign_Tuple (hv.es Y env k k.m fr w H s p.pl _ e1 _ _ λw1 a1 s1 n1 r1=>?_) (by unfold swapsWithSole;exact zZ hv hok) hw
  rw[assign_Tuple];refine Qb (Qo ?_);delta unpack;rw[(nB (env:=env) hn).2.1,(nB (env:=env) hn).2.2,<-(hl.ν hs.ε)];exact Qb (Qj (Wv n1.st r1 hm λvs h' rr S'=>xK hs (nB (env:=env) hn).1 rr hl (⟨p.b,p.c,(p.ϫ n1).f,S'⟩:iw Y cx env k fr w1 H1 {s1 with heap:=h'}) λk2 s2 n2=>hq k2 w1 .ϫ s2 ⟨n2.ex,n1.le.ν n2.le,n2.pl,n1.bx.ν ⟨n2.bx.1,n2.bx.2⟩⟩ .nx))
 ·refine Assign_Tuple_swapped (names:=xs) (hv.es Y env k k.m fr w H s p.pl _ e1 _ _ λw1 a1 s1 n1 r1=>?_) (by unfold swapsWithSole;exact zZ hv hok) hw
  rw[<-(hl.ν hs.ε)];refine Wv n1.st r1 hm λvs h' rr S'=>xK hs.TM (D9 xs.TM) rr.TM (by rw[Yy,Yy];exact hl) (⟨p.b,p.c,(p.ϫ n1).f,S'⟩:iw Y cx env k fr w1 H1 {s1 with heap:=h'}) λk2 s2 n2=>?_;rw[C4 is mvs fr (CK p.b hs hnd) hl.Μ] at n2;exact hq k2 w1 .ϫ s2 ⟨n2.ex,n1.le.ν n2.le,n2.pl,n1.bx.ν ⟨n2.bx.1,n2.bx.2⟩⟩ .nx
abbrev Rw(C:bf)(d:θ)(cx:CC)(e:ϝ)(q:Ex×θ):Prop:=∃o nm pos,e=.Td o nm pos/\jQ nm=Qe/\q.2=eu nm/\Sd C d cx o q.1
def FK{F:ϝ->η ld}{es:ζ ϝ}{ts:ζ (Ex×θ)}(h4:(es.dL F).ε=es.ε)(hF:∀o nm pos,F (.Td o nm pos)=Qd)(h:lO (Rw C d cx) es ts)(he:es.be=Qc):False:=by
 have e:es.dL F=[]:=by
  clear h4 he
  induction h with
  |Ϝ=>rfl
  |Ι h _ ih=>obtain⟨o,nm,pos,rfl,_⟩:=h;rw[ZC,hF];exact ih
 rw[e] at h4;cases es with
 |Ϝ=>cases he
 |Ι _ _=>cases h4
def zbq{es:ζ ϝ}{ts:ζ (Ex×θ)}{v:ϝ}(he:es.be=Qc)(ht:lO (Rw C d cx) es ts):swappedStores [.Tuple es n tpos] v env=pure none:=by
 refine AZ (uW v) (λhv=>?_) λp hv=>?_
 ·exact Uu hv
 ·cases zK hv
  refine DP rfl λ_=>DP rfl λ_=>DP rfl λh3=>(FK (dX h3) (λ_ _ _=>rfl) ht he).ι
def xM(O:mU C gl){es:ζ ϝ}{ts:ζ (Ex×θ)}(ht:lO (Rw C d cx) es ts):(assignEach es env).ε=es.ε/\(assignEach es env).findIdx? (·.1)=Qd/\∀{Y:kJ C d 2}{k:Kp}{fr:Λ}{w:Wd}{H:MH}{mvs:ζ ab}{vs:ζ μ}{r:Λ×MH}{s:Qg}{Q:Unit->Qg->Prop}{E:μ->Qg->Prop},
   jI C w mvs vs->iw Y cx env k fr w H s->qM (C.cx d) (ts.π λq=>T1.at q.1 q.2) mvs fr H=Qa r->(r.1=fr->mvs.ε=es.ε->∀w' s',jc Y k w w' r.2 s s'->Q () s')->Qh C.M Y.A (assignInOrder ((assignEach es env).π (·.2)) vs) Q E s:=by
 induction ht with
 |Ϝ=>
  refine⟨rfl,rfl,λ{Y k fr w H mvs vs r s Q E} rr p e h=>?_⟩;refine xA (gs e) λh1 e=>?_;obtain rfl:=Qa.lf e;cases mvs with
  |Ϝ=>refine eqE rr ?_;exact Qf (h rfl rfl w s (.TC p.st))
  |Ι _ _=>cases h1
 | @Ι _ q _ _ ha _ ih=>
  refine Zx ha λo zq2=>zq2.ι λnm zq3=>zq3.ι λpos zq4=>?_;refine eqB zq4.1 ?_;refine⟨ω (· +1) ih.1,?_,λ{Y k fr w H mvs vs r s Q E} rr p e h=>?_⟩
  ·show qbg _ ((Qc,assign (.Td o nm pos) env)::assignEach _ env)=Qd
   rw[qaM];simp only[K1,if_false,ih.2.1,qaj]
  ·cases mvs with
   |Ϝ=>exact ag e
   |Ι mv mvs=>
    obtain⟨v,t,rfl,hv,rr⟩:=rr
    revert e
    refine jM λfr1 H1 e1 e=>?_
    revert e1
    show bz (eval (C.cx d) q.1 fr H) (λov h1=>(setAttr C.P h1 ov q.2 mv).π λh2=>(fr,h2))=Qa (fr1,H1)->_;refine jM λov H2 e3=>kL λH3 hs e4=>?_;cases e4;rw[zq4.2.2.1] at hs;show Qh C.M Y.A (do holding _ (assign (.Td o nm pos) env v);assignInOrder _ _) Q E s;refine Qb (Qj ?_);simp only[assign_Attribute];exact Qb (Qj (zq4.2.2.2.es Y env k k.m _ w H s p.pl _ e3 _ _ λw1 a1 s1 n1 r1=>Qb (Qo (Qb (Qj (yI O n1.st zq4.2.1 r1 (hv.Τ n1.le) (λs2 n2=>wpAny_release (ih.2.2 (rr.Τ n1.le) (p.ϫ (n1.ν n2)) e λe5 e6 w' s' n3=>h e5 (ω (· +1) e6) w' s' ((n1.ν n2).ν n3))) hs))))))
def Lp(O:mU C gl){es:ζ ϝ}{v:ϝ}{ts:ζ (Ex×θ)}{iv:Ex}(hok:Ur v=Qe)(hne:es.be=Qc)(ht:lO (Rw C d cx) es ts)(hv:Sd C d cx v iv):
  vK C d cx (.Assign [.Tuple es n tpos] v pos) (.ju (ts.π λq=>T1.at q.1 q.2) iv):=by
 intro Y env k fr w H s p r;show bz (eval (C.cx d) iv fr H) (λv h1=>(items h1 v).Η λvs=>bz (qM (C.cx d) (ts.π λq=>T1.at q.1 q.2) vs fr h1) λfr' h2=>Qa ((.nx,fr'),h2))=Qa r->_;refine jM λu H1 e1=>j1 λmvs hm=>jM λfr' H2 e2 e=>?_;refine lV e ?_;have hlen:∀{ts:ζ T1}{mvs:ζ ab}{fr:Λ}{h:MH}{r:Λ×MH},qM (C.cx d) ts mvs fr h=Qa r->mvs.ε=ts.ε:=by
  intro ts
  induction ts with
  |Ϝ=>intro mvs fr h r e;have:=(gs e).1;cases mvs with|Ϝ=>rfl|Ι _ _=>cases this
  |Ι t ts ih=>
   intro mvs fr h r e;cases mvs with
   |Ϝ=>exact ag e
   |Ι v mvs=>revert e;exact jM λfr' h' _ e=>ω (· +1) (ih e)
 intro Q E hq;refine Assign_Tuple (hv.es Y env k k.m fr w H s p.pl _ e1 _ _ λw1 a1 s1 n1 r1=>?_) (by unfold swapsWithSole;exact zZ hv hok) (zbq hne ht);rw[assign_Tuple];refine Qb (Qo ?_);delta unpack;simp only[(xM (env:=env) O ht).1,(xM (env:=env) O ht).2.1,<-((hlen e2).ν ((Jq ..).ν ht.ε):mvs.ε=es.ε)];refine Qb (Qj (Wv n1.st r1 hm λvs h' rr S'=>?_));have n2:jc Y k w w1 H1 s {s1 with heap:=h'}:=⟨n1.le,S',n1.bx.1,n1.bx.2⟩;exact(xM (env:=env) O ht).2.2 rr (p.ϫ n2) e2 λe5 _ w' s' n3=>by
  subst e5;exact hq k w' .ϫ s' (p.nx (n2.ν n3)) .nx
end
def Dg{w:Qm}{l:Qk}{z:Φ}{t:Tok}{Q:Unit->Qg->Prop}(ho:s.Ν.sB l=Qa (listOf its n))(h0:0<=z)(hj:z<its.Ϡ)(hfit:z<2 ^ 63)
  (hQ:∀h' n',h'.sB l=Qa (listOf (its.w8 z.Th v) n')->wS.v6 l s.Ν h'->Q () {s with heap:=h'}):Qh (model prog w) A (setItem (.ξ l) (.Β z t) v) Q E s:=by
 delta setItem
 try with_reducible refine Qj ?_
 refine Qb (Q9 (⟨_,ho,rfl⟩) rfl ?_);refine Qb (LT (name:=ld.ofString "__setitem__") (⟨_,ho,rfl⟩) Je
  (Qq Je (⟨_,ho,rfl⟩) entry_list_setitem ?_ (args_list_setitem _ _ _)))
 show Qh _ _ (qa7 (.Β z t)>>=_) _ _ s;refine Qb (wpAny_listSubscript_int (fitsIndex_of h0 hfit) ?_)
 clear hfit
 obtain⟨j,rfl⟩:=Φ.eq_ofNat_of_zero_le h0;have hj':j<its.Ϡ:=Z2.mp hj;refine Qb (Qb (wpAny_seqItemAt ho rfl (Qf ?_)));rw[(ϛ.getElem?_eq_getElem hj':its[j]?=Qa its[j])];refine Qb (wpAny_setSeqItemAt ho rfl ?_);have fb:Q () {s with heap:=s.Ν.Db l (Go.mapSeq (·.w8 j v))}:=hQ _ _ (K3 _ ho rfl) (wS.v6.Db ..)
 first
  |exact Qb (Qf (Qf ⟨.Ε,rfl,Qf fb⟩))
  |exact Qf ⟨.Ε,rfl,Qf fb⟩
section
variable{cx:CC}{fr:Frame}
def HI(p:iw Y cx env k fr w H s){t:ϝ}{sl:ζ θ}(ht:vY t=Qa q)(hs:lO (sE cx) q.1 sl){v:ab}(hv:jL C w v rv)(hb:nW fr sl q.2 v=Qa fr1){Q:Unit->Qg->Prop} 
  (h:∀k' s',ni Y cx env k.ex w s k' fr1 w H s'->Q () s'):Qh C.M Y.A (assign t env rv) Q E s:=by
 obtain⟨mvs,b1,rfl,b3,b4⟩:=EC hb;rcases SN ht with ⟨x,pp,rfl,rfl⟩| ⟨es,n,pp,rfl,hq,hes⟩
 ·cases b4 rfl
  cases hs with
  |Ι hi hs=>
   cases hs;exact Ρ.wpAny_assign_Name (qN p hi hv h)
 ·cases b3 hq
  obtain⟨tt,o,n',ws,rfl,ho,hc,hd,rr,_⟩:=p.st.ay hv;exact Q7 (items:=ws.υ) Y.v4 ⟨o,ho,hc,n',hd⟩ (by rw[(nB (env:=env) hes).2.1,Zo,<-rr.ε,b1,hs.ε]) (nB (env:=env) hes).2.2 λh' he=>xK hs (nB (env:=env) hes).1 rr b1 (⟨p.b,p.c,p.f,p.st.grown he⟩:iw Y cx env k fr w H {s with heap:=h'}) λk' s' n2=>h k' s' ⟨n2.ex,n2.le,n2.pl,n2.bx.1,n2.bx.2⟩
inductive BA{C:bf}{d e:θ}(Y:kJ C d e)(cx:CC)(env:Env)(ex:bw)(w0:Wd)(s0:Qg)(I:Qk)(z:It)(F:θ->Λ->MH->SR)(r:(Fl×Λ)×MH)(s:Qg):Prop
 |mk(k:Kp)(fr:Λ)(w:Wd)(H:MH)(j:θ)(io:Go)(ex':k.ex=ex)(le:w0.le w)(p:iw Y cx env (k.TA (I,io)) fr w H s)(it:pE C w io j z)(sm:qH s0 s)(lp:F j fr H=Qa r):BA Y cx env ex w0 s0 I z F r s
theorem iw.gj{q:Qk×Go}(p:iw Y cx env (k.TA q) fr w H s)(hx:wS.ExtBut q.1 s.Ν h'):iw Y cx env k fr w H {s with heap:=h'}:=⟨p.b,p.c,p.f,cb.gj (b:=q.1) (o:=q.2) p.st hx⟩
def Im{ov:η ab}{v:ab}{a:β}{f:ab->β}{r:β}(h:ov=Qa v)(q:JG (motive:=λ_=>β) ov a f=r):f v=r:=by subst h;exact q
def Io{ov:η ab}{a:β}{f:ab->β}{r:β}(h:ov=Qd)(q:JG (motive:=λ_=>β) ov a f=r):a=r:=by subst h;exact q
section
variable(M:Q8)(A:Qv)(env:Env)(R:Result->Qg->Prop)(I:Nat->Qg->Prop)(n:Nat)
def pe:μ->Qg->Prop:=notedBy M A env λe s'=>R (.error e) s'
def eL:Jl->Qg->Prop:=λf s=>Flow.Δ (motive:=λ_=>Prop) f (∃m,m<n/\I m s) (R (.ok .ϫ) s) (∃m,m<n/\I m s) λv=>R (.ok (.ret v)) s
def iR(t:ϝ)(it:μ)(b:ζ Qz)(v:μ)(s:Qg):Prop:=Qh M A (letOwnedTupleGo t it v) (λ_ s₁'=>Qh M A (assign t env v) (λ_ s₂=>Qh M A (Ρ.execs b env) (eL R I n) (pe M A env R) s₂) (pe M A env R) s₁') (pe M A env R) s
def iT(t:ϝ)(it:μ)(b:ζ Qz):η μ->Qg->Prop:=λr s=>JG (motive:=λ_=>Prop) r (Qh M A (Ρ.execs [] env) (λf s₃=>R (.ok f) s₃) (pe M A env R) s) λv=>iR M A env R I n t it b v s
end
def RN(C:bf)(d:θ)(z:It)(sl:ζ θ)(m:Ζ)(ib:ζ Sm):θ->θ->Λ->MH->SR:=UE (λi h=>lP h i z) (λfr v=>nW fr sl m v) (λfr h=>execs (C.cx d) ib fr h)
def RM{Y:kJ C d 2}{w0:Wd}{F:θ->θ->Λ->MH->SR}{r:(Fl×Λ)×MH}{g:Fl×Λ}{k6:Kp}{w6:Wd}{H6:MH} 
  (hI:∀m s,BA Y cx env ex w0 s0 Ia z (F m) r s->I m s) (hq:∀k' w' f s',ni Y cx env ex w0 s0 k' r.1.2 w' r.2 s'->td C w' r.1.1 f->R (.ok f) s')
  (st:∀m,F m (j+1) g.2 H6=Qa r->BA Y cx env ex w0 s0 Ia z (F m) r s6) (rk:ni Y cx env ex w0 s0 k6 g.2 w6 H6 s6) (r6:td C w6 g.1 f6)
  (lp:Fl.Δ (motive:=λ_=>SR) g.1 (F n (j+1) g.2 H6) (Qa ((.nx,g.2),H6)) (F n (j+1) g.2 H6) (λv=>Qa ((.rt v,g.2),H6))=Qa r):eL R I (n+1) f6 s6:=by
 obtain⟨fl,fr6⟩:=g;cases r6 with
 |nx=>exact⟨n,JR n,hI n s6 (st n lp)⟩
 |ct=>exact⟨n,JR n,hI n s6 (st n lp)⟩
 |bk=>obtain rfl:=Qa.lf lp;exact hq _ w6 .ϫ s6 rk .nx
 |rt h=>obtain rfl:=Qa.lf lp;exact hq _ w6 _ s6 rk (.rt h)
def MN{t:ϝ}{b:ζ Qz}{sl:ζ θ}{ib:ζ Sm}(ht:vY t=Qa q)(hsl:lO (sE cx) q.1 sl)(hb:uX C d cx b ib){Y:kJ C d 2}{w0:Wd}{r:(Fl×Λ)×MH} 
  (hI:∀m s,BA Y cx env ex w0 s0 Ia z (RN C d z sl q.2 ib m) r s->I m s) (hq:∀k' w' f s',ni Y cx env ex w0 s0 k' r.1.2 w' r.2 s'->td C w' r.1.1 f->R (.ok f) s')
  (h:BA Y cx env ex w0 s0 Ia z (RN C d z sl q.2 ib n) r s'):Qh C.M Y.A (pyNext (.ξ Ia)) (iT C.M Y.A env R I n t (.ξ Ia) b) (pe C.M Y.A env R) s':=by
 obtain⟨k3,fr3,w3,H3,j,io3,ex3,le3,p3,R3,sm3,lp⟩:=h;cases n with
 |zero=>exact ag lp
 |succ n=>
  refine j1 (λov hov lp=>?_) lp;refine Lu p3.st R3 hov ⟨λv rv io4 h' tk hv S4 R4 hr=>?_,λh' hv S4=>?_⟩
  ·refine Wh (s:={s' with heap:=h',toks:=tk}) S4.fi.1 R4.cls ?_
   refine j1 (λfr5 hb5 lp=>?_) (Im hv lp);have p4:iw Y cx env (k3.TA (Ia,io4)) fr3 w3 H3 {s' with heap:=h',toks:=tk}:=⟨p3.b,p3.c,p3.f,S4⟩;refine HI p4 ht hsl hr hb5 λk5 s5 n5=>?_;refine jM (λg H6 e6 lp=>?_) lp;refine hb Y env k5 fr5 w3 H3 s5 n5.pl _ e6 _ _ λk6 w6 f6 s6 n6 r6=>?_;have n6':=n5.ν n6;have sm6:qH s0 s6:=sm3.ν ⟨n6'.bx.1,n6'.bx.2⟩;have p6:iw Y cx env ((⟨k6.ce,k3.ex,k6.m⟩:Kp).TA (Ia,io4)) g.2 w6 H6 s6:=by
    have:=n6'.pl
    obtain⟨ce6,ex6,m6⟩:=k6;cases n6'.ex;exact this
   exact RM hI hq (λm lp=>⟨⟨k6.ce,k3.ex,k6.m⟩,g.2,w6,H6,j+1,io4,ex3,le3.ν n6'.le,p6,R4.Τ n6'.le,sm6,lp⟩) (⟨ex3,le3.ν n6'.le,p6.gj λ_ _ _ e=>e,sm6⟩:ni Y cx env ex w0 s0 ⟨k6.ce,k3.ex,k6.m⟩ g.2 w6 H6 s6) r6 lp
  ·have lp:=Io hv lp
   obtain rfl:=Qa.lf lp;exact QU (hq k3 w3 .ϫ {s' with heap:=h'} ⟨ex3,le3,⟨p3.b,p3.c,p3.f,S4⟩,sm3.1,sm3.2⟩ .nx)
def Cw{t:ϝ}{it:ϝ}{b:ζ Qz}{sl:ζ θ}{ii:Ex}{ib:ζ Sm}(ht:vY t=Qa q)(hsl:lO (sE cx) q.1 sl)(hi:Sd C d cx it ii)(hb:uX C d cx b ib):vK C d cx (.For t it b [] pos) (.fo sl q.2 ii ib):=by
 intro Y env k fr w H s p r;show bz (eval (C.cx d) ii fr H) (λv h1=>(oZ h1 v).Η λk=>RN C d k sl q.2 ib (C.cx d).ba 0 fr h1)=Qa r->_;refine jM λu H1 e1=>j1 λz hz lp=>?_;intro Q E hq;exact wpAny_For (hi.es Y env k k.m fr w H s p.pl _ e1 _ _ λw1 a1 s1 n1 r1=>Lw n1.st r1 (λI io h2 S2 R2=>codeAny_forLoop_any (λn s'=>BA Y cx env k.ex w s I z (RN C d z sl q.2 ib n) r s') (λn s' h=>Eq.mp (by kernel_rfl) (MN (R:=λr s=>match r with| .ok f=>Q f s| .error e=>cameBackBy C.M Y.A env E e s) (n:=n) ht hsl hb (λ_ _ h=>h) hq h)) (C.cx d).ba ⟨k,fr,w1,H1,0,io,rfl,n1.le,⟨p.b,p.c,(p.ϫ n1).f,S2⟩,R2,⟨n1.bx.1,n1.bx.2⟩,lp⟩) hz) (hi.sy.yl env)
def zfK {e:ϝ}:dropValue e pos v=pure .ϫ\/dropValue e pos v=(do standAt pos;let _<-runValue (.ϭ "proto.let_go" {});pure .ϫ):=by
 have h:dropValue (.Tuple [] 0 pos) pos v=pure .ϫ\/dropValue (.Tuple [] 0 pos) pos v=(do standAt pos;let _<-runValue (.ϭ "proto.let_go" {});pure .ϫ):=by
  cases v<;>first|exact .wv rfl|exact .IO rfl
 cases e<;>first|exact .wv rfl|exact Eq.mp (by kernel_rfl) h
def E4{v:ϝ}{iv:Ex}(hc:pV v=Qc)(hv:Sd C d cx v iv):vK C d cx (.ϝ v pos) (.expr iv):=by
 intro Y env k fr w H s p r;show bz (eval (C.cx d) iv fr H) (λ_ h1=>Qa ((.nx,fr),h1))=Qa r->_;refine jM λu H1 e1 e=>?_;refine lV e ?_;intro Q E hq;rw[exec_Expr env v pos (by unfold interactive;rw[p.b.Ts];rfl) (hv.sy.swap hc _ _ _)];refine Qb (Qo (Qb (hv.es Y env k k.m fr w H s p.pl _ e1 _ _ λw1 a1 s1 n1 r1=>?_)));have fb:=hq k w1 .ϫ s1 (p.nx n1) .nx;rcases zfK (e:=v) (pos:=pos) (v:=a1) with h|h
 ·rw[h];exact Qf fb
 ·rw[h];exact Qb (Qo (Qb (wpAny_runValue (codeAny_builtin entry_let_go (Qf (Qf fb))))))
theorem nP{P:Prop}(h:Qc=Qe):P:=ς h JQ
def LC(e:ϝ):Prop:=∃a b c p,e=.TL a b c p
theorem Ms{e:ϝ}:pV e=Qe->LC e:=ϝ.Δ (ϣ:=λe=>pV e=Qe->LC e) e (λ_ _ _ h=>nP h) (λ_ _ _ h=>nP h) (λ_ _ _ _ h=>nP h) (λ_ _ _ h=>nP h) (λ_ _ _ _ h=>nP h) (λ_ _ _ _ h=>nP h) (λ_ _ _ h=>nP h) (λ_ _ _ h=>nP h) (λa b c p _=>⟨a,b,c,p,rfl⟩) (λ_ _ _ _ h=>nP h) (λ_ _ _ _ _ h=>nP h) (λ_ _ _ _ h=>nP h) (λ_ _ h=>nP h) (λ_ _ h=>nP h) (λ_ _ h=>nP h) (λ_ _ _ _ h=>nP h) (λ_ _ _ _ h=>nP h) (λ_ _ _ _ h=>nP h) (λ_ _ h=>nP h) (λ_ _ _ h=>nP h) (λ_ _ _ h=>nP h) (λ_ _ _ h=>nP h) (λ_ _ h=>nP h) (λ_ _ h=>nP h) (λ_ _ h=>nP h) (λ_ _ _ h=>nP h) (λ_ _ _ _ h=>nP h)
def Cj{v o:ϝ}{i:Ex}(hv:Sd C d cx v i)(hr:∀a b c p,swapsWith (.TL a b c p) (Qa o) n env=pure Qc):swapsWith v (Qa o) n env=pure false:=by
 refine vL (pV v) (λhc=>?_) λhc=>?_
 ·obtain⟨a,b,c,p,rfl⟩:=Ms hc;exact hr a b c p
 ·exact hv.sy.swap hc _ _ _
def Ds(O:mU C gl){o:ϝ}{v:ϝ}{io iv:Ex}(hn:jQ nm=Qe)(ho:Sd C d cx o io)(hv:Sd C d cx v iv):vK C d cx (.Assign [.Td o nm xp] v pos) (.ft (.at io (eu nm)) iv):=by
 intro Y env k fr w H s p r;show bz (eval (C.cx d) iv fr H) (λv h1=>bz (bz (eval (C.cx d) io fr h1) λov h2=>(setAttr C.P h2 ov (eu nm) v).π λh3=>(fr,h3)) λfr' h2=>Qa ((.nx,fr'),h2))=Qa r->_;refine jM λu H1 e1=>jM λfr' H2 e2 e=>?_;refine lV e ?_
 revert e2
 refine jM λov H3 e3=>kL λH4 hs e4=>?_;cases e4;exact λQ E hq=>plainObj_wpAny_Assign_Attribute (hv.es Y env k k.m _ w H s p.pl _ e1 _ _ λw1 a1 s1 n1 r1=>ho.es Y env k k.m _ w1 H1 s1 (p.ϫ n1).pl _ e3 _ _ λw2 a2 s2 n2 r2=>
  yI O n2.st hn r2 (r1.Τ n2.le) (λs3 n3=>hq k w2 .ϫ s3 (p.nx ((n1.ν n2).ν n3)) .nx) hs) (Cj hv λ_ _ _ _=>rfl)
def EL{v:ab}(hv:jL C w v rv):∀{ms:ζ ab}{vs:ζ μ}{j:θ},jI C w ms vs->jI C w (ms.Ϫ j v) (vs.Ϫ j rv):=by
 intro ms
 induction ms with
 |Ϝ=>intro vs j h;refine eqB h ?_;exact .Ϝ
 |Ι m ms ih=>
  intro vs j h;obtain⟨x,t,rfl,h,r⟩:=h;cases j with
  |zero=>exact .Ι hv r
  |succ j=>exact .Ι h (ih r)
def Du(S:St Y k w H s){o i v:ab}(ho:jL C w o vo)(hi:jL C w i vi)(hv:jL C w v vv){Q:Unit->Qg->Prop} 
  (h:∀s',jc Y k w w H' s s'->Q () s'):mQ H o i v=Qa H'->Qh C.M Y.A (setItem vo vi vv) Q E s:=by
 refine j1 λx e1=>lB (j1 λmvs hm=>kL λj hj e=>?_) (j1 λp hp=>l6 λhf e=>?_)
 ·cases ref?_s e1;subst e
  obtain⟨z,t,rfl,h0,h1,rfl⟩:=My hi hj;obtain⟨la,rfl,ha⟩:=ho;refine(bs hm).ι λob zq47=>?_;cases list?_s zq47.2;obtain⟨_,ws,n,e,hget,rr,hl⟩:=S.ο (x:=.ξ x) ⟨la,rfl,ha⟩ hm;cases e;refine Dg hget h0 (by rw[Zo,<-rr.ε];exact h1) (qaP h1 (sC hl)) λh' n' hg hs=>h _ ⟨.TC w,S.cu ha zq47.1 (λen h=>?_) hs (by rw[hg,ζ.setIfInBounds_toArray]) ⟨_,n',rfl,EL hv rr,by rw[Zd];exact hl⟩,rfl,rfl⟩;obtain⟨_,_,rfl,_,_⟩:=h;exact⟨_,rfl⟩
 ·cases ref?_s e1;obtain rfl:=Qa.lf e
  have hf:=Jo.mp hf;obtain⟨b,n,es,rfl,hmod,hep,hg,hdr,hl,cu⟩:=S.jz ho hp;refine VI ⟨_,hg,rfl⟩ (BJ S (A:=Y.A.in1) (Y.u (n:=2) (by decide)) hg hdr hf.1 (Zn.mp hf.2) hi hv λes' h' tk hs hgo j'=>h _ ⟨.TC w,cu h' _ _ hs hgo ⟨es',_,rfl,λe he=>?_,j',GN (Zn.mp hf.2)⟩,rfl,rfl⟩);cases hq:(jW p.2 i).ϟ with
  |true=>rw[hq] at he;exact hep e he
  |false=>
   rw[hq] at he;obtain⟨e0,he0,rfl⟩:=ms he;exact ω (· +1) (hep e0 he0)
def Lq{o i:ϝ}{v:ϝ}{io ii iv:Ex}(ho:Sd C d cx o io)(hi:Sd C d cx i ii)(hv:Sd C d cx v iv):vK C d cx (.Assign [.Subscript o i xp] v pos) (.ft (.sb io ii) iv):=by
 intro Y env k fr w H s p r;show bz (eval (C.cx d) iv fr H) (λv h1=>bz (bz (eval (C.cx d) io fr h1) λov h2=>bz (eval (C.cx d) ii fr h2) λiv h3=>(mQ h3 ov iv v).π λh4=>(fr,h4)) λfr' h2=>Qa ((.nx,fr'),h2))=Qa r->_;refine jM λu H1 e1=>jM λfr' H2 e2 e=>?_;refine lV e ?_
 revert e2
 refine jM λov H3 e3=>jM λix H4 e4=>kL λH5 hs e5=>?_;cases e5;exact λQ E hq=>wpAny_Assign_Subscript (hv.es Y env k k.m _ w H s p.pl _ e1 _ _ λw1 a1 s1 n1 r1=>ho.es Y env k k.m _ w1 H1 s1 (p.ϫ n1).pl _ e3 _ _ λw2 a2 s2 n2 r2=>hi.es Y env k k.m _ w2 H3 s2 ((p.ϫ n1).ϫ n2).pl _ e4 _ _ λw3 a3 s3 n3 r3=>
  Du n3.st (r2.Τ n3.le) r3 (r1.Τ (n2.le.ν n3.le)) (λs4 n4=>hq k w3 .ϫ s4 (p.nx (((n1.ν n2).ν n3).ν n4)) .nx) hs) (Cj hv λ_ _ _ _=>rfl)
def HU(O:mU C gl)(hC:oO C d)(hg:NO C cx.gl)(hcc:Ul cx):∀(n:θ),(∀(st:Qz)(ir:Sm),sS n cx st=Qa ir->vK C d cx st ir)/\∀(sts:ζ Qz)(irs:ζ Sm),oB (λs=>Qa ((sS n cx s).ϡ .gu)) sts=Qa irs->uX C d cx sts irs:=by
 intro n;have hE:∀{e ir},pM cx e=Qa ir->Sd C d cx e ir:=λh=>zL O hC 60 cx hg hcc _ _ h;have lists:∀{n:θ},(∀(st:Qz)(ir:Sm),sS n cx st=Qa ir->vK C d cx st ir)->∀(sts:ζ Qz)(irs:ζ Sm),oB (λs=>Qa ((sS n cx s).ϡ .gu)) sts=Qa irs->uX C d cx sts irs:=by
  intro n h sts irs e
  induction qR e with
  |Ϝ=>exact Cv
  | @Ι st i _ _ h1 h2 ih=>
   have rest:=ih (by
    refine(bs e).ι λb zq16=>?_;have e:=zq16.2;refine xEA (ms e) λc h3 e=>?_;cases e;exact h3)
   refine E5 ?_ rest;cases hs:sS n cx st with
   |some i'=>rw[hs] at h1;cases h1;exact h st _ hs
   |none=>rw[hs] at h1;cases h1;exact λY env k fr w H s p r e=>ag e
 have st:∀(st:Qz)(ir:Sm),sS n cx st=Qa ir->vK C d cx st ir:=by
  induction n with
  |zero=>exact λst ir h=>ag h
  |succ n ih=>
   have ihs:=lists ih;intro st ir;cases st with
   |Pass pos=>intro h;cases h;exact λY env k fr w H s p r e Q E hq=>by cases e;exact wpAny_Pass (hq k w _ s p.rf .nx)
   |Break pos=>intro h;cases h;exact λY env k fr w H s p r e Q E hq=>by cases e;exact λ_ _ _=>hq k w _ s p.rf .bk
   |Continue pos=>intro h;cases h;exact λY env k fr w H s p r e Q E hq=>by cases e;exact λ_ _ _=>hq k w _ s p.rf .ct
   |Return v pos=>
    intro h;cases v with
    |none=>cases h;exact E3
    |some e=>obtain⟨i,hi,rfl⟩:=ms h;exact Cu (hE hi).es
   |Assign ts v pos=>
    intro h;refine xEA (Wk h) λt dw h=>?_;subst dw;have h:JG (motive:=λ_=>η Sm) (uW t) ((Na cx t).Η λa=>(pM cx v).π λb=>.ft a b) (λp=>aw (Ur v) ((pM cx v).Η λb=>bj ((IC p.1).Η λxs=>(oB (Gi cx) xs).π λis=>.ju (is.π .nm) b) (aw (!p.1.be) ((oB (Nb cx) p.1).π λts=>.ju (ts.π λq=>.at q.1 q.2) b))))=Qa ir:=h;cases ht:uW t with
    |some p=>
     rw[ht] at h;cases zK ht
     revert h
     refine l6 λhok=>j1 λb hb=>lB (j1 λxs hx=>kL λis his e=>?_) (l6 λhne=>kL λts hts e=>?_)
     ·refine(bs hx).ι λxs' zq13=>?_
      have h2:=zq13.2;refine xA (gs h2) λh2 h3=>?_;cases h3;exact e▸E6 hok (qR zq13.1) (Ξ h2) (AJ his) (hE hb)
     ·refine e▸Lp O hok (by cases hq:p.1.be;rfl;rw[hq] at hne;cases hne) ((qR hts).Τ λe q h=>?_) (hE hb)
      refine xEA (bs h) λp hp h=>?_;refine xA (gs h) λhn h=>?_;refine xEA (ms h) λi hi iq=>?_;subst iq;exact⟨p.1,p.2.1,p.2.2,Vo hp,hn,rfl,hE hi⟩
    |none=>
     rw[ht] at h;refine xEA (bs h) λa ha h=>?_;refine xEA (ms h) λb hb qc=>?_;subst qc
     revert ha
     refine lB (j1 λp hp=>l6 λ_=>kL λi hi e=>?_) (lB (j1 λp hp=>l6 λhn=>kL λi hi e=>?_) (j1 λp hp=>j1 λi hi=>kL λj hj e=>?_))
     ·rw[<-e,qG hp]
      refine Cy hcc hi (hE hb) λ{ez gens sc cp} ev=>?_;subst ev
      clear h
      refine xEA (Wk (show FF gens _=Qa b from hb)) λg eg hz=>?_;subst eg;refine(bs hz).ι λq zq5=>?_;have zq4:=gs zq5.2;exact(bs zq4.2).ι λii zq3=>(bs zq3.2).ι λiifs zq2=>(ms zq2.2).ι λie zq1=>⟨g,q,ie,ii,iifs,rfl,⟨χ.mp (Jo.mp zq4.1).1,zq5.1,AO (Jo.mp zq4.1).2,zL O hC 59 cx hg hcc _ _ zq3.1,(zL O hC 59 (cj cx sc q.1) hg (hcc.cj sc q.1)) _ _ zq1.1,(qR zq2.1).Τ (zL O hC 59 (cj cx sc q.1) hg (hcc.cj sc q.1))⟩,zq1.2.Μ⟩
     ·rw[<-e,Vo hp];exact Ds O hn (hE hi) (hE hb)
     ·rw[<-e,Sp hp];exact Lq (hE hi) (hE hj) (hE hb)
   |If t x y pos=>exact j1 λa ha=>j1 λb hb=>kL λc hc e=>e▸OJ (hE ha).ts (ihs _ _ hb) (ihs _ _ hc)
   |While t b e pos=>
    refine l6 λhe=>j1 λa ha=>kL λc hc e'=>?_;cases e with
    |Ϝ=>exact e'▸Dr (hE ha).ts (ihs _ _ hc)
    |Ι _ _=>cases he
   |For t it b e pos=>
    refine l6 λhe=>j1 λq hq=>l6 λ_=>j1 λa ha=>j1 λsl hs=>kL λc hc e'=>?_;cases e with
    |Ϝ=>exact e'▸Cw hq (AJ hs) (hE ha) (ihs _ _ hc)
    |Ι _ _=>cases he
   |ϝ v pos=>exact l6 λhc=>kL λi hi e=>e▸E4 (by cases hq:pV v;rfl;rw[hq] at hc;cases hc) (hE hi)
   |_=>exact λh=>ag h
 exact⟨st,lists st⟩
end
theorem Et(ps:ζ ld)(sc:Scope)(gl:ζ (ld×ab)):Ul (MO ps sc gl):=λx i h=>by
 refine((oV x _ 0).1 i h).ι λj zq32=>?_;refine eqB zq32.1 ?_;rw[Zq];exact(Jy.mp zq32.2).1
def Aa{kindOf:ld->η Qx}:∀{r:ζ (ld×μ)}{m:ld->η μ},x∉r.π (·.1)->bindL kindOf r m x=m x:=by
 intro r
 induction r with
 |Ϝ=>exact λ_=>rfl
 |Ι p r ih=>
  intro m h;unfold bindL;rw[ih λq=>h (.pc _ q)];split
  ·exact τ λq:x=p.1=>h (q▸ .mo _)
  ·rfl
def Ab{kindOf:ld->η Qx}:∀{r:ζ (ld×μ)}{m:ld->η μ},x∉r.π (·.1)->bindC kindOf r m x=m x:=by
 intro r
 induction r with
 |Ϝ=>exact λ_=>rfl
 |Ι p r ih=>
  intro m h;unfold bindC;rw[ih λq=>h (.pc _ q)];split
  ·rfl
  ·exact τ λq:x=p.1=>h (q▸ .mo _)
def EB{kindOf:ld->η Qx}:∀{r:ζ (ld×μ)}{m:ld->η μ},(x,v)∈r->(r.π (·.1)).Ω->(kindOf x=Qa .local->bindL kindOf r m x=Qa v)/\(kindOf x≠Qa .local->bindC kindOf r m x=Qa v):=by
 intro r
 induction r with
 |Ϝ=>exact λh _=>ς h Jz
 |Ι p r ih=>
  intro m h hd;have hd:=JH.mp hd;unfold bindL bindC;rcases JM.mp h with e|h
  ·subst e
   exact⟨λhk=>by rw[Aa hd.1,φ hk];exact φ rfl,λhk=>by rw[Ab hd.1,τ hk];exact φ rfl⟩
  ·exact⟨(ih h hd.2).1,(ih h hd.2).2⟩
def Vb{cells:bw}(h:CellsAre cm cs cells):cs.Α x=Qa c->∃o,(c,o)∈cells/\o.Ta=.TD (cm x):=by
 induction h with
 |Ϝ=>exact λh=>ag h
 | @Ι n a o cs cells hd r ih=>
  intro h;rw[ZI] at h;refine vL (x==n) (λe=>?_) λe=>?_
  ·rw[e] at h;refine lV h ?_;rw[χ.mp e];exact⟨o,.mo _,hd⟩
  ·rw[e] at h;obtain⟨o',h1,h2⟩:=ih h;exact⟨o',.pc _ h1,h2⟩
def yA{cells:bw}(h:CellsAre cm cs cells):cells.π (·.1)=cs.π (·.2):=by
 induction h with
 |Ϝ=>rfl
 |Ι _ _ ih=>exact ω (_:: ·) ih
def rC(lo:θ):∀(names:ζ (ld×Qx))(n:θ)(acc:ζ (ld×Qk)),lo<=n->(acc.π (·.2)).Ω->(∀p∈acc,p.2<n/\lo<=p.2)->((cellsFrom n names acc).π (·.2)).Ω/\∀p∈cellsFrom n names acc,lo<=p.2:=by
 intro names
 induction names with
 |Ϝ=>exact λn acc _ h hl=>⟨h,λp hp=>(hl p hp).2⟩
 |Ι q r ih=>
  intro n acc hn h hl;unfold cellsFrom;split
  ·refine ih (n+1) _ (Zs hn) ?_ ?_
   ·rw[JU,JH]
    exact⟨λhx=>(JL.mp hx).ι λp zq31=>ς (hl p zq31.1).1 (by rw[zq31.2];exact Zb _),h⟩
   ·intro p hp
    rcases JM.mp hp with rfl|hp
    ·exact⟨JR _,hn⟩
    ·exact⟨ZJ (hl p hp).1,(hl p hp).2⟩
  ·exact ih n acc hn h hl
def Mb{y:ld}:(cs.π (·.2)).Ω->cs.Α x=Qa c->cs.Α y=Qa c->x=y:=by
 induction cs with
 |Ϝ=>exact λ_ h _=>ag h
 |Ι p r ih=>
  intro hd hx hy;have hd:=JH.mp hd;rw[ZI] at hx hy;refine vL (x==p.1) (λex=>?_) λex=>?_
  ·rw[ex] at hx
   cases ey:y==p.1 with
   |true=>exact(χ.mp ex).ν (χ.mp ey).Μ
   |false=>rw[ey] at hy;exact((λh e=>hd.1 (JL.ϥ ⟨_,kG h,e⟩):∀{z},r.Α z=Qa c->c=p.2->False) hy (Qa.lf hx).Μ).ι
  ·rw[ex] at hx
   cases ey:y==p.1 with
   |true=>rw[ey] at hy;exact((λh e=>hd.1 (JL.ϥ ⟨_,kG h,e⟩):∀{z},r.Α z=Qa c->c=p.2->False) hx (Qa.lf hy).Μ).ι
   |false=>rw[ey] at hy;exact ih hd.2 hx hy
variable{ws:List ab}
def Hw{Y:kJ C d 2}{fn:Fn}{cells:bw}(hkind:scope.Ts=.Fa)(hbn:xs.Ω)(ru:jI C w ws us)(hlen:ws.ε=xs.ε)
  (hc:CellsAre (bindC (envOfC qual scope Y.L fa cdv).Ps (xs.zip us) λ_=>Qd) (cellsFrom (Y.L+1) scope.ui []) cells)
  (S:St Y ⟨cells,ex,bindL (envOfC qual scope Y.L fa cdv).Ps (xs.zip us) λ_=>Qd⟩ w H s):iw Y (MO xs scope gl) (envOfC qual scope Y.L fa cdv) ⟨cells,ex,bindL (envOfC qual scope Y.L fa cdv).Ps (xs.zip us) λ_=>Qd⟩ (qY fn ws) w H s:=by
 have slot:∀{x i},nH (MO xs scope gl) x=Qa i->(vE xs scope)[i]?=Qa x:=λ{x i} h=>by
  refine((oV x (vE xs scope) 0).1 i (zA h).2).ι λj zq30=>?_;have e:=zq30.1;rw[Zq] at e;exact e▸zq30.2
 have hz:((xs.zip us).π (·.1)).Ω:=by rw[ζ.map_fst_zip (by rw[<-hlen,ru.ε];exact Jv _)];exact hbn
 refine⟨⟨hkind,rfl,rfl,rfl,λx hx=>Zy.mp (Q3 scope.ui (Y.L+1) [] (.wv hx)),λx y c hx hy hcx hcy=>Mb ((rC 0 scope.ui (Y.L+1) [] (JB _) .Ϝ λ_ h=>ς h Jz).1) hcx hcy,rfl,λx y i hx hy=>Qa.lf ((slot hx).Μ.ν (slot hy))⟩,
  λx c _ hcx=>(Vb hc hcx).ι λo h=>⟨o,_,h.1,h.2⟩,λx i u hx hu=>?_,S⟩
 have hlt:i<ws.ε:=XH λhge=>by
  delta qY at hu;rw[Ko (by rw[Jq];exact ZM hge)] at hu;obtain⟨_,hu'⟩:=Jy.mp hu;rw[ζ.getElem_replicate] at hu';cases hu'
 unfold qY at hu;rw[Ks (by rw[Jq];exact hlt),JE] at hu;refine(ms hu).ι λu' zq28=>?_;have hu2:=zq28.2;refine lV hu2 ?_;refine(ru.Mi zq28.1).ι λrv zq27=>?_;have hr:=zq27.2;have hpx:xs[i]?=Qa x:=by
  have:=slot hx
  unfold vE at this;rwa [Ks (by rw[<-hlen];exact hlt)] at this
 have hmem:(x,rv)∈xs.zip us:=Jt (ζ.getElem?_zip_eq_some.ϥ ⟨hpx,zq27.1⟩);rcases (zA hx).1 with hk|hk
 ·exact .jx rv hk ((EB hmem hz).1 hk) hr
 ·refine(Zy.mp (Q3 scope.ui (Y.L+1) [] (.wv hk))).ι λc zq26=>?_
  refine(Vb hc zq26).ι λo zq25=>?_;refine .TD rv c o hk zq26 zq25.1 ?_ hr;rw[zq25.2,(EB hmem hz).2 (by show scope.ui.Α x≠_;rw[show scope.ui.Α x=Qa .TD from hk];decide)]
inductive fL(gl:ζ (ld×ab))(params:Q4)(body:ζ Qz)(sc:Scope)(f:Fn):Prop
 |mk(kind:sc.Ts=.Fa)(gen:sc.isGenerator=Qc)(co:sc.isCoroutine=Qc)(ps:∀x∈params.TJ.π (·.arg),sc.ui.Α x=Qa .local\/sc.ui.Α x=Qa .TD)(b:zax (MO (params.TJ.π (·.arg)) sc gl) body=Qa f.TI)(np:(params.TJ.π (·.arg)).ε=f.np):fL gl params body sc f
def W7{f:Fn}(h:W8 gl params body sc=Qa (f.np,f.ns,f.TI)):fL gl params body sc f:=by
 obtain⟨hb,h⟩:=gs h;refine(ms h).ι λb zq23=>?_;have h2:=zq23.2;simp only[ZR,Za,Xm,χ,qaS] at hb;simp only[qaT.injEq] at h2;exact⟨hb.1.1.1.2,hb.1.1.2,hb.1.2,hb.2,h2.2.2▸zq23.1,h2.1⟩
def jI.jp{ms:ζ ab}:∀{vs:ζ μ}{n:θ},jI C w ms vs->jI C w (ms.jp n) (vs.jp n):=by
 induction ms with
 |Ϝ=>intro vs n h;refine eqB h ?_;rw[Xd,Xd];exact .Ϝ
 |Ι m ms ih=>
  intro vs n h;cases n with
  |zero=>exact h
  |succ n=>obtain⟨v,t,rfl,_,r⟩:=h;exact ih r
def zdl{fn:Fn}(hk:C.K.In s.Ν)(k7:xH C fn fd xs)(r:jI C w as vs)(ha:vI fn as=Qa ws):∃us,jI C w ws us/\ws.ε=fn.np/\BindsTo s fd ⟨vs,[]⟩ (xs.zip us):=by
 obtain⟨hc,e⟩:=gs ha;have h1:=Zn.mp (Jo.mp hc).1;have h2:=Zn.mp (Jo.mp hc).2;have e:=(Qa.lf e).Μ;rcases k7 with ⟨k5,k7⟩| ⟨_,dvs,k7a,k7b⟩
 ·rw[k5] at h2 e
  rw[Xd,ZE] at e;refine eqB e ?_;exact⟨vs,r,(K6 h1 (YT (qap.mp h2))),BindsTo.of_eq (k7 vs (r.ε▸(K6 h1 (YT (qap.mp h2)))))⟩
 ·refine⟨vs++dvs.jp (dvs.ε-(fn.np-vs.ε)),?_,?_,kp_binds hk λSt=>k7b St vs (Jn (JF (XJ r.ε)) h1) (Jn (θ.sub_le_sub_left (JF r.ε) _) (Jn h2 (JF ((k7a w).ε))))⟩
  ·rw[e,<-((k7a w).ε),<-r.ε]
   exact jI.append (k7a w).jp r
  ·rw[e,Jx,qaW];exact(ω (as.ε+ ·) (θ.sub_sub_self h2)).ν (qaR h1)
abbrev iW(f:Jl):μ:=match f with| .ret v=>v|_=>.Ε
def DV{fl:Fl}{f:Jl}{fr:Λ}(hr:td C w fl f)(e:RQ (fl,fr) H=Qa r):jL C w r.1 (iW f)/\H=r.2:=by
 cases hr with
 |nx=>refine lV e ?_;exact⟨rfl,rfl⟩
 |bk=>exact ag e
 |ct=>exact ag e
 |rt h=>refine lV e ?_;exact⟨h,rfl⟩
def Nh(O:mU C gl):∀d,oO C d:=by
 intro d
 induction d with
 |zero=>exact λY k w H s f fa as vs r S hf rr e=>ag e
 |succ d ih=>
  intro Y k w H s f fa as vs r S hf rr;refine j1 λfn hfn=>j1 λws hargs=>jM λq HE ev er R hq=>?_;obtain⟨hfa,ad,name,qual,params,body,scope,dV,kV,doc,pm,an,cdv,ct,oc,od,osl,k1,k2,k3,k4,k6,k7,k8,k10⟩:=O.nf _ _ hfn;rw[hfa,hf] at k1;obtain rfl:=Qa.lf k1;refine(zdl S.ml k7 rr hargs).ι λus zq20=>?_;obtain⟨hkind,hgen,hco,hps,hbd,hnp⟩:=W7 k4;refine Y.below.ι λA₀ zq16=>zq16.ι λbase zq17=>zq17.ι λouter zq18=>?_;refine Y.aj.ι λp zq11=>zq11.ι λloose zq12=>zq12.ι λmean zq13=>zq13.ι λmg zq14=>zq14.ι λmb zq15=>?_;obtain⟨os,he,hn,hd⟩:=S.os;refine code_defC (binds:=(params.TJ.π (·.arg)).zip us) zq18.1 S.fr Y.k hn zq15 zq18.2 Y.frame Y.Ts k2 k3 (by have:=Y.depth;show Y.A.depth<1000;exact Ju (JO (Jr _ _)) (Jn (KY this) (JC _ _))) zq20.2.2 ?_ k10 (λg L' h₁ tk cells FG F' N' Yc B' Xg Tg hlt=>?_) hco hgen hkind
  ·rw[Za]
   intro y hy;rw[Xm,χ,χ];exact hps y.1 (qa2 hy).1
  let Y':kJ C d 2:=⟨(Y.A.deeper (envOfC qual scope L' fa cdv),g,L',envOfC qual scope L' fa cdv),⟨Y.A,base,Y.lk::outer,B',Around.frames_deeper zq18.2⟩,Xg,⟨p,loose,mean,mg,mb,Tg⟩,rfl,hkind,Y.v4,by have:=Y.depth;show Y.A.depth+1+4*d+2+2<=900;lia,by have:=Y.units;show Y.A.units+3+20*d+190+5*2<=9900;lia⟩
  have zq10:=rC (L'+1) scope.ui (L'+1) [] (Jv _) .Ϝ λ_ h=>ς h Jz;have pm':∀cells:bw,(os.pt++(w.tp++(cells++(k.ce++k.ex)))).No (cells++(os.pt++(w.tp++(k.ce++k.ex)))):=λcells=>(ζ.No.append_left _ (KG _ _ _)).ν (KG _ _ _);have S':St Y' ⟨cells,k.ce++k.ex,bindL (envOfC qual scope L' fa cdv).Ps ((params.TJ.π (·.arg)).zip us) λ_=>Qd⟩ w H {s with heap:=h₁,toks:=tk}:=by
   refine⟨F',⟨os,he,λp hp=>N' p ((pm' cells).tz.mp hp),bw.nd.je (pm' cells).Μ (Gs ?_ hd λx hx y hy e=>?_)⟩,Jn S.og (Jn FG.above (JN FG.ns.lt)),S.lo⟩
   ·unfold bw.nd;rw[yA Yc];exact zq10.1
   ·have hx':x.1∈cells.π (·.1):=JL.ϥ ⟨x,hx,rfl⟩
    rw[yA Yc] at hx';exact(JL.mp hx').ι λq zq9=>ς (Ju (hlt y hy) (Yb (zq10.2 q zq9.1))) (by rw[zq9.2,e];exact Zb _)
  refine(HU O ih O.yj (Et _ _ _) 40).2 _ _ hbd Y' _ _ _ _ _ _ (Hw (Y:=Y') (gl:=gl) (fn:=fn) (ex:=k.ce++k.ex) hkind k8 zq20.1 (zq20.2.1.ν hnp.Μ) Yc S') _ ev _ _ λk1 w1 f1 s1 n1 r1=>?_;obtain⟨os1,he1,hn1,hd1⟩:=n1.pl.st.os;rw[show k1.Hd w1 os1=os1.pt++(w1.tp++(k1.ce++(k.ce++k.ex))) from by unfold Kp.Hd;rw[n1.ex]] at hn1 hd1;have sub:(k.Hd w1 os1).Sublist (os1.pt++(w1.tp++(k1.ce++(k.ce++k.ex)))):=(ζ.Sublist.TC _).append ((ζ.Sublist.TC _).append (ζ.sublist_append_right _ _));exact leaveK_ n1.pl.st.fr hn1 λF2 N2=>hq w1 _ s1 ⟨n1.le,⟨F2,⟨os1,(DV r1 er).2▸he1,λp hp=>N2 p (sub.subset hp),ζ.Sublist.nodup (ζ.Sublist.π _ sub) hd1⟩,S.og,n1.pl.st.lo⟩,n1.bx.1,n1.bx.2⟩ ((DV r1 er).1)
def Mj(O:mU C gl){p:Qs}(X:C.K.In s₁.Ν)(T:Top p loose mean mg mb s₁.Ν)(hbig:4<=s₁.Ν.wi.Ϡ)
  {f:θ}{fa:Qk}{mvs:ζ ab}{rv:μ}{r:ab×MH} (hf:C.ad.Α f=Qa fa) (hlaw:∀fn,C.P.kh f=Qa fn->fn.oz=[]) (hv:jL C ⟨[],[]⟩ (.fl mvs) rv) (ev:mB C.P wL 61 f [.fl mvs] []=Qa r) {Q:μ->Qg->Prop}{E:μ->Qg->Prop}
  (hq:∀w v s',jL C w r.1 v->(∀b o,s₁.Ν.sB b=Qa o->s'.Ν.sB b=Qa o)->s'.gens=s₁.gens->s'.os=s₁.os->Q v s'):
  Qh C.M callerA (call (.ξ fa) [rv]) Q E s₁:=by
 revert ev
 refine j1 λfn hfn=>j1 λws hargs=>jM λq HE ev er=>?_;obtain⟨hfa,ad,name,qual,params,body,scope,dV,kV,doc,pm,an,cdv,ct,oc,od,osl,k1,k2,k3,k4,k6,k7,k8,k10⟩:=O.nf _ _ hfn;rw[hfa,hf] at k1;obtain rfl:=Qa.lf k1;obtain⟨k5,k7⟩:=k7.resolve_right λh=>h.1 (hlaw fn hfn);obtain⟨hkind,hgen,hco,hps,hbd,hnp⟩:=W7 k4;obtain⟨hc,e⟩:=gs hargs;have hc:=Jo.mp hc;rw[k5] at hc e;rw[Xd,ZE] at e;obtain rfl:=Qa.lf e;have hl:1=fn.np:=K6 (Zn.mp hc.1) (YT (qap.mp (Zn.mp hc.2)));refine wpAny_call (codeAny_call_cells (binds:=(params.TJ.π (·.arg)).zip [rv]) (fd:=fnOf name qual params body scope dV kV doc pm an cdv ct) (body:=body) (by decide) (X _ _ k2) rfl T.nolimit (codeRec_of X k3) rfl (k7 [rv] hl) rfl ?_ (λs2 x=>?_) hco hgen hkind)
 ·intro y hy
  rcases hps y.1 (qa2 hy).1 with h|h
  ·exact .wv h
  ·exact .IO ⟨h,Q3 _ _ _ (.wv h)⟩
 refine x.done.ι λh₁ zq2=>zq2.ι λtk zq3=>?_;obtain rfl:=zq3.1;refine(Cl.news (h₀:=s₁.Ν) (Jv _) λn c hm=>⟨x.TD n c (lookup_of_mem_nodup (cellsFrom_names scope.ui 0 (s₁.Ν.wi.Ϡ+1) [] [] rfl▸k10) hm),x.above n c hm⟩).ι λcells zq1=>?_
 let Y':kJ C 60 2:=⟨(callerA.deeper (envOfC qual scope s₁.Ν.wi.Ϡ fa cdv),s₁.Ν,s₁.Ν.wi.Ϡ,envOfC qual scope s₁.Ν.wi.Ϡ fa cdv),⟨callerA,s₁.Ν,[],below_caller _,rfl⟩,X,⟨p,loose,mean,mg,mb,T⟩,rfl,hkind,rfl,(by decide:301+1+4*60+2+2<=900),(by decide:4+3+20*60+190+5*2<=9900)⟩
 have eq:(⟨cells,[],bindL (envOfC qual scope s₁.Ν.wi.Ϡ fa cdv).Ps ((params.TJ.π (·.arg)).zip [rv]) λ_=>Qd⟩:Kp).Hd ⟨[],[]⟩ []=cells:=ZE _;have S':St Y' ⟨cells,[],bindL (envOfC qual scope s₁.Ν.wi.Ϡ fa cdv).Ps ((params.TJ.π (·.arg)).zip [rv]) λ_=>Qd⟩ ⟨[],[]⟩ [] {s₁ with heap:=h₁,toks:=tk}:=
  ⟨(⟨x.toInCall.ns,x.toInCall.keep,Jv _⟩:Fr s₁.Ν s₁.Ν.wi.Ϡ h₁ (bindL (envOfC qual scope s₁.Ν.wi.Ϡ fa cdv).Ps ((params.TJ.π (·.arg)).zip [rv]) λ_=>Qd)),⟨[],⟨rfl,rfl⟩,eq.Μ▸zq1.1,eq.Μ▸(by unfold bw.nd;rw[yA zq1.2];exact((rC 0 scope.ui (s₁.Ν.wi.Ϡ+1) [] (JB _) .Ϝ λ_ h=>ς h Jz).1))⟩,hbig,λ_ h=>ς h Jz⟩
 refine(HU O (Nh O 60) O.yj (Et _ _ _) 40).2 _ _ hbd Y' _ _ _ _ _ _ (Hw (Y:=Y') (gl:=gl) (fn:=fn) (ex:=[]) hkind k8 (.cw hv) (by rw[hnp];exact hl) zq1.2 S') _ ev _ _ λk1 w1 f1 s1 n1 r1=>?_;exact hq w1 _ s1 (DV r1 er).1 n1.pl.st.fr.keep n1.bx.1 n1.bx.2
def Data.seq?(d:Data):η (ζ μ×θ):=qaf (motive:=λ_=>η (ζ μ×θ)) d Qd (λ_=>Qd) (λxs n=>Qa (xs.ch,n)) (λ_ _=>Qd) (λ_ _ _=>Qd) (λ_ _=>Qd) (λ_=>Qd) (λ_=>Qd) (λ_=>Qd) (λ_=>Qd) Qd
def seq?_s{d:Data}{p:ζ μ×θ}:Data.seq? d=Qa p->d=.seq p.1.υ p.2:=by
 cases d<;>first|exact λe=>ag e|(intro e;refine lV e ?_;rfl)
def Data.func?(d:Data):η FuncData:=qaf (motive:=λ_=>η Q0) d Qd (λ_=>Qd) (λ_ _=>Qd) (λ_ _=>Qd) (λ_ _ _=>Qd) (λ_ _=>Qd) (λ_=>Qd) Qa (λ_=>Qd) (λ_=>Qd) Qd
def func?_s{d:Data}{f:Q0}:Data.func? d=Qa f->d=.func f:=by
 cases d<;>first|exact λe=>ag e|(intro e;refine lV e ?_;rfl)
def μ.ref?(v:μ):η Addr:=qaD (motive:=λ_=>η Qk) v Qd Qd Qd (λ_=>Qd) (λ_ _=>Qd) (λ_ _=>Qd) (λ_ _=>Qd) (λ_ _=>Qd) (λ_=>Qd) (λ_=>Qd) Qa
def zgk?_s{v:μ}{a:Qk}:μ.ref? v=Qa a->v=.ξ a:=by
 cases v<;>first|exact λe=>ag e|(intro e;refine lV e ?_;rfl)
def zai(v:μ)(i:Φ):Ζ:=qaD (motive:=λ_=>Ζ) v Qc Qc Qc (λ_=>Qc) (λj _=>j==i) (λ_ _=>Qc) (λ_ _=>Qc) (λ_ _=>Qc) (λ_=>Qc) (λ_=>Qc) (λ_=>Qc)
def Rx{i:Φ}:zai v i=Qe->∃t,v=.Β i t:=by
 cases v with
 |int j t=>exact λe=>⟨t,by rw[χ.mp e]⟩
 |_=>exact λe=>JK e
def SQ(v:μ)(s:ζ θ):Ζ:=qaD (motive:=λ_=>Ζ) v Qc Qc Qc (λ_=>Qc) (λ_ _=>Qc) (λ_ _=>Qc) (λx _=>x.cps.ch==s) (λ_ _=>Qc) (λ_=>Qc) (λ_=>Qc) (λ_=>Qc)
def OE{s:ζ θ}:SQ v s=Qe->∃t,v=.Ϥ ⟨s.υ⟩ t:=by
 cases v with
 |str x t=>exact λe=>⟨t,by rw[<-χ.mp e]⟩
 |_=>exact λe=>JK e
def typeIs(v:μ)(o:η Tm):Ζ:=JG (motive:=λ_=>Ζ) o Qc λn=>v==.AT n
def zi0(v:μ)(o:η Tm):Ζ:=JG (motive:=λ_=>Ζ) o Qc λn=>v==.ϭ n
def LH(C:bf)(v:μ)(n:Tm):η (ζ μ×θ):=(μ.ref? v).Η λa=>(C.K.Α a).Η λo=>aw (o.cls==.AT n) (Data.seq? o.Ta)
inductive zfY(C:bf)(v:μ)(n:Tm)(p:ζ μ×θ):Prop
 |mk(a:Qk)(o:Go)(e:v=.ξ a)(k:C.K.Α a=Qa o)(c:o.cls=.AT n)(d:o.Ta=.seq p.1.υ p.2):zfY C v n p
def AN{n:Tm}{p:ζ μ×θ}(h:LH C v n=Qa p):zfY C v n p:=by
 refine(bs h).ι λa zq37=>?_;have h:=zq37.2;refine(bs h).ι λo zq36=>?_;have h:=zq36.2;obtain⟨e3,h⟩:=gs h;exact⟨a,o,zgk?_s zq37.1,zq36.1,χ.mp e3,seq?_s h⟩
def EG(f:ab->μ->Ζ):ζ ab->ζ μ->Ζ
 | [],vs=>vs.be
 |m::ms,vs=>K9 (motive:=λ_=>Ζ) vs Qc λv r=>f m v && EG f ms r
def Fu(C:bf):θ->ab->μ->Ζ
 |0,_,_=>Qc
 |k+1,m,v=>ab.Δ (ϣ:=λ_=>Ζ) m (v==.Ε) (λb=>v==.ϯ b) (λi=>zai v i) (λs=>SQ v s && zbA s)
  (λms=>JG (motive:=λ_=>Ζ) (LH C v "tuple") Qc λp=>EG (Fu C k) ms p.1 && ZD ms.ε bg) (λ_=>Qc)
  (λid=>JG (motive:=λ_=>Ζ) (C.ad.Α id) Qc λa=>v==.ξ a) (λc=>typeIs v (rG.Α c)) (λc=>zi0 v (xB.Α c)) (λ_=>Qc)
  (λms=>JG (motive:=λ_=>Ζ) (LH C v "list") Qc λp=>EG (Fu C k) ms p.1 && ZD ms.ε bg) (λ_=>Qc)
def zM{f:ab->μ->Ζ}(hf:∀m v,f m v=Qe->∀w,jL C w m v)(w:Wd):∀(ms:ζ ab)(vs:ζ μ),EG f ms vs=Qe->jI C w ms vs:=by
 intro ms
 induction ms with
 |Ϝ=>intro vs h;exact Y9.mp h
 |Ι m ms ih=>
  intro vs h;cases vs with
  |Ϝ=>exact JK h
  |Ι v r=>
   exact .Ι (hf _ _ (Jo.mp h).1 w) (ih r (Jo.mp h).2)
def rP{o:η α}{f:α->Ζ}(h:JG (motive:=λ_=>Ζ) o Qc f=Qe):∃a,o=Qa a/\f a=true:=by
 cases o with
 |none=>exact JK h
 |some a=>exact⟨a,rfl,h⟩
def z9:∀(k:θ)(m:ab)(v:μ),Fu C k m v=Qe->∀w,jL C w m v:=by
 intro k
 induction k with
 |zero=>exact λm v h=>JK h
 |succ k ih=>
  intro m v h w;cases m with
  |none=>exact χ.mp h
  |bool b=>exact χ.mp h
  |int i=>exact Rx h
  |str s=>
   have h:=Jo.mp h;exact(OE h.1).ι λt zq34=>⟨t,zq34,CU h.2⟩
  |ay ms=>
   refine xEA (rP (o:=LH C v "tuple") h) λp e h=>?_;obtain⟨a,o,e,q1,q2,q3⟩:=AN e;have h:=Jo.mp h;exact⟨a,o,p.2,p.1,e,⟨.IO q1,q2,q3⟩,zM ih w _ _ h.1,Zn.mp h.2⟩
  |ref a=>exact JK h
  |aj id=>
   refine xEA (rP (o:=C.ad.Α id) h) λa e h=>?_;exact⟨a,χ.mp h,e⟩
  |ty c=>
   refine xEA (rP (o:=rG.Α c) h) λn e h=>?_;exact⟨n,χ.mp h,e⟩
  |bi c=>
   refine xEA (rP (o:=xB.Α c) h) λn e h=>?_;exact⟨n,χ.mp h,e⟩
  |gq n=>exact JK h
  |fl ms=>
   refine xEA (rP (o:=LH C v "list") h) λp e h=>?_;obtain⟨a,o,e,q1,q2,q3⟩:=AN e;have h:=Jo.mp h;exact⟨a,o,p.2,p.1,e,⟨q1,q2,q3⟩,zM ih w _ _ h.1,Zn.mp h.2⟩
  |jr n=>exact JK h
def oo(o:η (η μ))(f:μ->Ζ)(g:Ζ):Ζ:=JG (motive:=λ_=>Ζ) o Qc λx=>JG (motive:=λ_=>Ζ) x g f
def zbX{o:η (η μ)}{f:μ->Ζ}{g:Ζ}(h:oo o f g=Qe):(∃v,o=Qa (Qa v)/\f v=Qe)\/o=Qa Qd/\g=true:=by
 rcases o with _|_|v
 ·exact JK h
 ·exact .IO ⟨rfl,h⟩
 ·exact .wv ⟨v,rfl,h⟩
def b9 (C:bf) (p:ld×ab):Ζ:=oo (nsIn C.K mainGlobals p.1) (Fu C 5 p.2) (!(p.1=="__name__") && oo (Qa (bootBuiltins p.1)) (Fu C 5 p.2) Qc)
def zft{p:ld×ab}(h:b9 C p=Qe):∃rv,fK C p rv:=by
 rcases zbX h with ⟨v,e,h⟩| ⟨e,h⟩
 ·exact⟨v,z9 _ _ _ h,.wv e⟩
 ·have h:=Jo.mp h
  rcases zbX h.2 with ⟨v,e2,h2⟩| ⟨_,h2⟩
  ·exact⟨v,z9 _ _ _ h2,.IO ⟨e,λq=>by rw[q] at h;exact ς h.1 (by decide+kernel),Qa.lf e2⟩⟩
  ·exact JK h2
def zeQ(nms:ζ ld)(n:θ):η ld:=nms.find? λx=>eu x==n && jQ x
def Iy(h:zeQ nms n=Qa x):jQ x=Qe/\eu x=n:=by
 exact⟨(Jo.mp (KA (p:=λx=>eu x==n && jQ x) h:(eu x==n && jQ x)=Qe)).2,χ.mp (Jo.mp (KA (p:=λx=>eu x==n && jQ x) h:(eu x==n && jQ x)=Qe)).1⟩
def IE(C:bf)(nms:ζ ld)(c n:θ)(f:Qk->ld->Ζ):Ζ:=JG (motive:=λ_=>Ζ) (C.ad.Α c) Qc λca=>JG (motive:=λ_=>Ζ) (zeQ nms n) Qc λx=>plainGet C.K ca x && hasDictIn C.K ca && f ca x
def A7{c:θ}{f:Qk->ld->Ζ}(hf:∀a x,f a x=Qe->P a x)(h:IE C nms c n f=Qe):qJ C c n P:=by
 refine(rP h).ι λca zq26=>?_;have h:=zq26.2;refine(rP h).ι λx zq25=>?_;have h:=zq25.2;have h:=Jo.mp h;exact⟨ca,x,zq26.1,(Iy zq25.1).1,(Iy zq25.1).2,(Jo.mp h.1).1,(Jo.mp h.1).2,hf _ _ h.2⟩
def zfM(o:η CFound)(v:μ):Ζ:=JG (motive:=λ_=>Ζ) o Qc λx=>CFound.Δ (motive:=λ_=>Ζ) x (λu=>u==v) λ_ _ _ _=>Qc
def zc7{o:η CFound}(h:zfM o v=Qe):o=Qa (.KT v):=by
 rcases o with _|_|_
 ·exact JK h
 ·rw[χ.mp h]
 ·exact JK h
def zaC(C:bf)(v:ab)(ca:Qk)(x:ld):Ζ:=oo (findIn C.K (.ξ ca) x) (λav=>Fu C 5 v av && bif UH C.P v then
 isFn C.K av && (specialIn C.K (.ξ ca) "__getattribute__"==Qa (Qa (.ϭ "type.__getattribute__")) && JG (motive:=λ_=>Ζ) (typeIn C.K (.ξ ca)) Qc λmc=>readsIn C.K ca mc && zfM (findCls C.K (.ξ ca) mc x) av)
 else specialIn C.K av "__get__"==Qa Qd && (handedIn av && !copiedNames.Tc x)) Qc
def Si{v:ab}(h:zaC C v ca x=Qe):NR C v ca x:=by
 rcases zbX h with ⟨av,e,h⟩| ⟨_,h⟩
 ·have h:=Jo.mp h
  refine⟨av,e,z9 _ _ _ h.1,λhi=>?_,λhi=>?_⟩
  ·rw[hi] at h
   have h1:=Jo.mp h.2;exact(rP (Jo.mp h1.2).2).ι λmc zq24=>⟨h1.1,χ.mp (Jo.mp h1.2).1,mc,zq24.1,(Jo.mp zq24.2).1,zc7 (Jo.mp zq24.2).2⟩
  ·rw[hi] at h
   have h1:=Jo.mp h.2;exact⟨χ.mp h1.1,(Jo.mp h1.2).1,qaS _▸(Jo.mp h1.2).2⟩
 ·exact JK h
def zfE (C:bf) (ca:Qk) (x:ld):Ζ:=JG (motive:=λ_=>Ζ) (findIn C.K (.ξ ca) x) Qc λat'=>noGet C.K at' && (takerIn C.K ca x==Qa Qd && (findIn C.K (.ξ ca) "__setattr__"==Qa (Qa (.ϭ "object.__setattr__")) && plainOver C.K ca))
def zcW(h:zfE C ca x=Qe):zdC C ca x:=by
 refine(rP h).ι λat' zq23=>?_;have h2:=Jo.mp (Jo.mp zq23.2).2;exact⟨at',zq23.1,(Jo.mp zq23.2).1,χ.mp h2.1,χ.mp (Jo.mp h2.2).1,(Jo.mp h2.2).2⟩
def zaj (C:bf) (c i:θ):Ζ:=JG (motive:=λ_=>Ζ) (C.ad.Α c) Qc λca=>JG (motive:=λ_=>Ζ) (C.ad.Α i) Qc λfI=>makesIn C.K ca && (findIn C.K (.ξ ca) "__init__"==Qa (Qa (.ξ fI)) && (isFn C.K (.ξ fI) && keepIn C.K (.ξ ca)))
def RB{c:θ}(h:zaj C c i=Qe):Vv C c i:=by
 refine(rP h).ι λca zq22=>?_;refine(rP zq22.2).ι λfI zq21=>?_;have h2:=Jo.mp (Jo.mp zq21.2).2;exact⟨ca,fI,zq22.1,zq21.1,(Jo.mp zq21.2).1,χ.mp h2.1,(Jo.mp h2.2).1,(Jo.mp h2.2).2⟩
def cI(C:bf)(nms:ζ ld)(k:Cl):Ζ:=(k.kc.Hd λp=>IE C nms k.gw p.1 (zaC C p.2)) && ((k.qx.Hd λn=>IE C nms k.gw n (zfE C)) && (k.init.Hd λi=>zaj C k.gw i))
def MQ{f g:α->η β}:∀{l:ζ α},(∀x∈l,f x=g x)->l.dL f=l.dL g:=by
 intro l
 induction l with
 |Ϝ=>exact λ_=>rfl
 |Ι x l ih=>intro h;rw[ZC,ZC,h x (.mo _),ih λy hy=>h y (.pc _ hy)]
def BD:∀{vs:ζ μ},xs.Ω->vs.ε=xs.ε->(∀n∈xs,((xs.zip vs).Α n).ϟ=Qe)/\(xs.dL λn=>((xs.zip vs).Α n).π (n,·))=xs.zip vs:=by
 induction xs with
 |Ϝ=>exact λ_ _=>⟨λ_ h=>ς h Jz,rfl⟩
 |Ι x xs ih=>
  intro vs nd hl;cases vs with
  |Ϝ=>exact θ.Ok hl
  |Ι v vs=>
   have nd:=JH.mp nd;have ne:∀n∈xs,(((x::xs).zip (v::vs)).Α n)=(xs.zip vs).Α n:=λn hn=>by
    simp only[Yk,ZI,ϧ (show n≠x from λe=>nd.1 (e▸hn))]
   refine⟨λn hn=>?_,?_⟩
   ·rcases JM.mp hn with rfl|hn
    ·simp only[Yk,ZI,Ϧ];rfl
    ·rw[ne n hn];exact((ih (vs:=vs) nd.2 (Z6.lf hl)).1) n hn
   ·rw[ZC,(MQ λn hn=>by rw[ne n hn]:(xs.dL λn=>(((x::xs).zip (v::vs)).Α n).π (n,·))=xs.dL λn=>((xs.zip vs).Α n).π (n,·)),(ih (vs:=vs) nd.2 (Z6.lf hl)).2,Yk,ZI,Ϧ];rfl
def D8(h1:fd.Ϛ.posonlyargs=[])(h2:fd.Ϛ.vararg=Qd)(h3:fd.Ϛ.kwonlyargs=[])(h4:fd.Ϛ.kwarg=Qd)(hd:fd.defaults=.Ε)(hl:vs.ε=(fd.Ϛ.TJ.π (·.arg)).ε)(nd:(fd.Ϛ.TJ.π (·.arg)).Ω):
  bindArgs fd ⟨vs,[]⟩=pure ((fd.Ϛ.TJ.π (·.arg)).zip vs):=by
 obtain⟨n,q,⟨po,as,va,ko,kd,ka,df⟩,bo,sc,gl,cl,de,kw,dc,pm,an,co,ct,bu⟩:=fd;obtain rfl:po=[]:=h1;obtain rfl:va=none:=h2;obtain rfl:ko=[]:=h3;obtain rfl:ka=none:=h4;obtain rfl:de=.Ε:=hd;obtain⟨e1,e2⟩:=BD nd hl;delta bindArgs
 dsimp only
 generalize as.π (·.arg)=xs at*
 refine(τ (c:=(decide (vs.ε>xs.ε) && Qe)=Qe) (by rw(occs:=.Hd) [hl,Θ (Zb _)];exact JQ)).ν ?_;have hD:∀n,qac n ((Qd:η (ϛ μ)).ϡ #[]).ch=[]:=λn=>Xd;refine(τ ?_).ν ?_
 ·show ¬(!((xs.na (xs.ε-(qac _ _).ε)).Ϩ λn=>((xs.zip vs).Α n).re).be)=Qe
  rw(occs:=.Hd) [hD,YE,qbi,Zj,ζ.filter_eq_nil_iff.ϥ λn hn=>?_]
  ·exact JQ
  ·rw(occs:=.Hd) [ZQ]
   intro q
   have:=e1 n hn
   rw(occs:=.Hd) [q] at this
   exact JK this
 refine(ω (λz=>forIn z _ _>>=_) (by rw(occs:=.Hd) [hD];exact ζ.zip_nil_right:ζ.zip (qac _ _) (qac _ _)=[])).ν ?_;exact ω (pure:ζ (ld×μ)->Sem (ζ (ld×μ))) ((by rw(occs:=.Hd) [ZE];exact e2:((xs++[]).dL λn=>((xs.zip vs).Α n).π (n,·))=xs.zip vs))
def stm?(b:FuncBody):η (ζ Qz):=FuncBody.Δ (motive:=λ_=>η (ζ Qz)) b Qa (λ_=>Qd)
def stm?_s{b:FuncBody}{l:ζ Qz}:stm? b=Qa l->b=.stmts l:=by
 cases b<;>first|exact λe=>ag e|(intro e;refine lV e ?_;rfl)
abbrev jG:=Qk×Go×Q0
section
variable(ψ:jG)
abbrev jG.a:=ψ.1
abbrev jG.o:=ψ.2.1
abbrev jG.fd:=ψ.2.2
end
def MR(C:bf)(f:Fn):η jG:=(C.ad.Α f.gw).Η λa=>(C.K.Α a).Η λo=>(Data.func? o.Ta).π λfd=>⟨a,o,fd⟩
def Nd(C:bf)(gl:ζ (ld×ab))(f:Fn):η (θ×θ×ζ Sm):=(MR C f).Η λp=>(stm? p.fd.TI).Η λb=>W8 gl p.fd.Ϛ b p.fd.scope
def xx{α:Type}[BEq α]:ζ α->Ζ
 | []=>Qe
 |a::r=>!r.Tc a && xx r
def IB[BEq α][LawfulBEq α]:∀{l:ζ α},xx l=Qe->l.Ω:=by
 intro l
 induction l with
 |Ϝ=>exact λ_=>ζ.nodup_nil
 |Ι a r ih=>
  intro h;have h:=Jo.mp h;refine JH.ϥ ⟨λhm=>?_,ih h.2⟩;rw[Yo.ϥ hm] at h;exact JK h.1
def DC(fd:Q0):Ζ:=fd.Ϛ.posonlyargs.be && (fd.Ϛ.vararg.re && (fd.Ϛ.kwonlyargs.be && (fd.Ϛ.kwarg.re && fd.defaults==.Ε)))
def jn(C:bf)(f:Fn):Ζ:=JG (motive:=λ_=>Ζ) (MR C f) Qc λp=>(p.fd.globals==mainGlobals && (p.fd.closure.be && (p.fd.builtins==builtinsNs && (codeIn C.K p.fd.code p.fd.qualname && keepIn C.K (.ξ p.a))))) && ((xx (p.fd.Ϛ.TJ.π (·.arg)) && xx ((cellsFrom 0 p.fd.scope.ui []).π (·.1))) && (!f.oz.be||DC p.fd))
def Vw(C:bf)(f:Fn):Prop:=f.oz≠[]->∀p,MR C f=Qa p->xH C f p.fd (p.fd.Ϛ.TJ.π (·.arg))
def zfG{b:ζ Qz}(k1:fd.globals=mainGlobals)(k2:fd.closure=[])(k3:fd.builtins=builtinsNs)(k4:fd.TI=.stmts b):fd=fnOf fd.name fd.qualname fd.Ϛ b fd.scope fd.defaults fd.kwdefaults fd.doc fd.pyModule fd.annotations fd.code fd.closureTuple:=by
 cases fd;subst k1;subst k2;subst k3;cases k4;rfl
theorem Ih(h:DC fd=Qe)(hl:vs.ε=(fd.Ϛ.TJ.π (·.arg)).ε)(nd:(fd.Ϛ.TJ.π (·.arg)).Ω):bindArgs fd ⟨vs,[]⟩=pure ((fd.Ϛ.TJ.π (·.arg)).zip vs):=
 let h7:=Jo.mp h
 let h8:=Jo.mp h7.2
 let h9:=Jo.mp h8.2
 let h10:=Jo.mp h9.2
 D8 (Y9.mp h7.1) (ZQ.mp h8.1) (Y9.mp h9.1) (ZQ.mp h10.1) (χ.mp h10.2) hl nd
def iU{f:Fn}{b:ζ Qz}(e1:C.ad.Α f.gw=Qa a)(e2:C.K.Α a=Qa o)(e3:Data.func? o.Ta=Qa fd)(eb:stm? fd.TI=Qa b)(hc:W8 gl fd.Ϛ b fd.scope=Qa (f.np,f.ns,f.TI))(hD:f.oz≠[]->xH C f fd (fd.Ϛ.TJ.π (·.arg)))
  (h1:(fd.globals==mainGlobals && (fd.closure.be && (fd.builtins==builtinsNs && (codeIn C.K fd.code fd.qualname && keepIn C.K (.ξ a)))))=Qe) (nd:(fd.Ϛ.TJ.π (·.arg)).Ω) (nc:((cellsFrom 0 fd.scope.ui []).π (·.1)).Ω) (h2:(!f.oz.be||DC fd)=Qe):G5 C gl f:=by
 have h1:=Jo.mp h1;have h4:=Jo.mp (Jo.mp h1.2).2;have ef:=zfG (χ.mp h1.1) (Y9.mp (Jo.mp h1.2).1) (χ.mp h4.1) (stm?_s eb);exact⟨a,fd.name,fd.qualname,fd.Ϛ,b,fd.scope,fd.defaults,fd.kwdefaults,fd.doc,fd.pyModule,fd.annotations,fd.code,fd.closureTuple,o.cls,o.Υ,o.slots,e1,ef▸func?_s e3▸e2,(Jo.mp h4.2).1,hc,(Jo.mp h4.2).2,ef▸((Ch.em (f.oz=[])).ι .IO λh=>.wv (hD h):xH C f fd (fd.Ϛ.TJ.π (·.arg))\/f.oz=[]).ι id λhd=>.wv ⟨hd,λvs hl=>Ih ((KW.mp h2).resolve_left (by rw[hd];exact λh=>JK h)) (hl.ν (by obtain⟨_,_,_,_,_,np⟩:=W7 hc;exact np:(fd.Ϛ.TJ.π (·.arg)).ε=f.np).Μ) nd⟩,nd,nc⟩
def zfD{f:Fn}(h:jn C f=Qe)(hc:Nd C gl f=Qa (f.np,f.ns,f.TI))(hD:Vw C f):G5 C gl f:=by
 refine xEA (rP h) λp e h=>?_;delta Nd at hc;rw[e] at hc;refine xEA (bs (show ((stm? p.fd.TI).Η λb=>W8 gl p.fd.Ϛ b p.fd.scope)=_ from hc)) λb eb hc=>?_;have hD:=λh=>hD h p e;refine xEA (bs e) λa e1 e=>?_;refine xEA (bs e) λo e2 e=>?_;refine(ms e).ι λfd zq14=>?_;obtain rfl:=zq14.2;have h5:=Jo.mp (Jo.mp h).2;exact iU e1 e2 zq14.1 eb hc hD (Jo.mp h).1 (IB (Jo.mp h5.1).1) (IB (Jo.mp h5.1).2) h5.2
def Ig(o:Go):Ζ:=qaf (motive:=λ_=>Ζ) o.Ta Qe (λ_=>Qc) (λ_ _=>Qc) (λ_ _=>Qc) (λ_ _ _=>Qc) (λ_ _=>Qc) (λ_=>Qc) (λ_=>Qc) (λ_=>Qc) (λ_=>Qc) Qc
def MY(o:Go):Ζ:=qaf (motive:=λ_=>Ζ) o.Ta Qc (λ_=>Qc) (λ_ _=>Qc) (λes _=>es.be) (λ_ _ _=>Qc) (λ_ _=>Qc) (λ_=>Qc) (λ_=>Qc) (λ_=>Qc) (λ_=>Qc) Qc
def Mu(C:bf)(p:θ×θ):Ζ:=JG (motive:=λ_=>Ζ) (C.ad.Α p.1) Qc λa=>JG (motive:=λ_=>Ζ) (C.ad.Α p.2) Qc λca=>JG (motive:=λ_=>Ζ) (C.K.Α a) Qc λo=>JG (motive:=λ_=>Ζ) o.Υ Qc λdx=>
 JG (motive:=λ_=>Ζ) (C.K.Α dx) Qc λo'=>(o.cls== .ξ ca && (Ig o && o.slots.be)) && ((o'.cls== .AT "dict" && o'.Υ.re) && (MY o' && o'.slots.be))
def Ie(h:Ig o=Qe):o.Ta=.plain:=by
 obtain⟨c,d,x,s⟩:=o;cases x<;>first|rfl|exact JK h
def MW(h:MY o=Qe):∃n,o.Ta=.Υ #[] n:=by
 obtain⟨c,d,x,s⟩:=o;cases x with
 |dict es n=>exact⟨n,by rw[XK.mp h]⟩
 |_=>exact JK h
def Ry{p:θ×θ}(h:Mu C p=Qe):Vu C p.1 p.2:=by
 refine(rP h).ι λa zq13=>?_;have h:=zq13.2;refine(rP h).ι λca zq12=>?_;have h:=zq12.2;refine(rP h).ι λo zq11=>?_;have h:=zq11.2;refine(rP h).ι λdx zq10=>?_;have h:=zq10.2;refine xEA (rP h) λo' e5 h=>?_;have h1:=Jo.mp (Jo.mp h).1;have h4:=Jo.mp (Jo.mp (Jo.mp h).2).1;have h5:=Jo.mp (Jo.mp (Jo.mp h).2).2;refine xE (MW h5.1) λn e6=>?_;refine⟨a,ca,dx,n,zq13.1,zq12.1,?_,?_⟩
 ·simp only[zq11.1,<-χ.mp h1.1,<-zq10.1,<-Ie (Jo.mp h1.2).1,<-XK.mp (Jo.mp h1.2).2]
 ·obtain⟨c,d,x,s⟩:=o'
  cases χ.mp h4.1;cases ZQ.mp h4.2;subst e6;cases XK.mp h5.2;exact e5
def iZ (C:bf):Ζ:=C.ad.Hd λp=>JG (motive:=λ_=>Ζ) (C.K.Α p.2) Qc λo=>!(o.cls== .AT "tuple")
def ziL(C:bf):Ζ:=(C.K.Α 0).ϟ && ((C.K.Α 1).ϟ && ((C.K.Α 2).ϟ && (C.K.Α 3).ϟ))
def Rz{l:ζ (θ×Qk)}:(l.π (·.2)).Ω->∀{i j:θ}{a:Qk},(i,a)∈l->(j,a)∈l->i=j:=by
 induction l with
 |Ϝ=>exact λ_ _ _ _ h _=>ς h Jz
 |Ι p r ih=>
  intro hn i j a h1 h2;have hn:=JH.mp hn;rcases JM.mp h1 with h1|h1<;>rcases JM.mp h2 with h2|h2
  ·exact ω (·.1) (h1.ν h2.Μ)
  ·exact ς (JL.ϥ ⟨(j,a),h2,show a=p.2 from ω (λq:θ×Qk=>q.2) h1⟩) hn.1
  ·exact ς (JL.ϥ ⟨(i,a),h1,show a=p.2 from ω (λq:θ×Qk=>q.2) h2⟩) hn.1
  ·exact ih hn.2 h1 h2
def zc6(h1:iZ C=Qe)(h2:xx (C.ad.π (·.2))=Qe)(h3:ziL C=Qe):uY C:=by
 refine⟨λid a h=>?_,λi j a hi hj=>Rz (IB h2) (kG hi) (kG hj),λb hb=>?_⟩
 ·refine(rP (Za.mp h1 _ (kG h))).ι λo zq7=>?_
  have h:=zq7.2;exact⟨o,zq7.1,λhc=>by rw[hc] at h;exact ς h (by decide+kernel)⟩
 ·have h3:=Jo.mp h3
  have h4:=Jo.mp h3.2;have h5:=Jo.mp h4.2;rcases b with _|_|_|_|b
  ·exact Zy.mp h3.1
  ·exact Zy.mp h4.1
  ·exact Zy.mp h5.1
  ·exact Zy.mp h5.2
  ·exact ς hb (Z9.ϥ (JC 4 b))
def zbk(hc:C.P.nf.π (Nd C gl)=C.P.nf.π λf=>Qa (f.np,f.ns,f.TI))(hf:C.P.nf.Hd (jn C)=Qe)(hD:∀f∈C.P.nf,Vw C f)(hg:gl.Hd (b9 C)=Qe)(hi:C.P.jy.Hd (Mu C)=Qe)(hk:C.P.cls.Hd (cI C nms)=Qe)(h5:uY C)(h6:EI C):mU C gl:=by
 have cls:∀{c k},C.P.gb c=Qa k->k.gw=c/\cI C nms k=true:=λ{c k} h=>⟨χ.mp (KA (p:=λx:Cl=>x.gw==c) h),Za.mp hk k (Kt h)⟩;refine⟨λx v h=>zft (Za.mp hg (x,v) (kG h)),λa f h=>?_,λid c h=>?_,λc n v h=>?_,λc n h=>?_,λc k i h hi=>?_,h5,h6⟩
 ·have hm:=Kt h
  exact⟨χ.mp (KA (p:=λf:Fn=>f.gw==a) h),zfD (Za.mp hf f hm) (ζ.map_inj_left.mp hc f hm) (hD f hm)⟩
 ·obtain⟨p,hp,rfl⟩:=ms h
  rw[<-χ.mp (KA (p:=λp:θ×θ=>p.1==id) hp)];exact Ry (Za.mp hi p (Kt hp))
 ·obtain⟨k,hk,h⟩:=bs h
  obtain⟨p,hp,rfl⟩:=ms h;obtain⟨e,hb⟩:=cls hk;rw[<-e,<-χ.mp (KA (p:=λp:θ×ab=>p.1==n) hp)];exact A7 (λ_ _=>Si) (Za.mp (Jo.mp hb).1 p (Kt hp))
 ·unfold gx.cz at h
  cases hk:C.P.gb c with
  |none=>rw[hk] at h;exact JK h
  |some k=>
   rw[hk] at h;rw[<-(cls hk).1];exact A7 (λ_ _=>zcW) (Za.mp (Jo.mp (Jo.mp (cls hk).2).2).1 n (Yo.mp h))
 ·obtain⟨e,hb⟩:=cls h
  have:=(Jo.mp (Jo.mp hb).2).2
  rw[hi] at this;rw[<-e];exact RB this
section
variable{p:Array Nat}
abbrev lU(n:θ)(p:ϛ θ):Prop:=p.No (JX n).υ
def lU.lt{p:ϛ θ}(h:lU n p)(hn:0<n)(k:θ):p.ϡ k 0<n:=by
 by_cases hk:k<p.Ϡ
 ·have e:p.ϡ k 0=p[k]:=by simp [ϛ.ϡ,hk]
  rw[e];have hm:p[k] ∈p.ch:=by simp
  have:=(ϛ.perm_iff_toList_perm.mp h).tz.mp hm
  simpa using this
 ·have e:p.ϡ k 0=0:=by simp [ϛ.ϡ,hk]
  rw[e];exact hn
theorem lU.xo{p:ϛ θ}(h:lU n p)(i j:θ):lU n (Jk p i j):=(mirror_perm _ _ _ _).ν h
theorem lU.iX{p:ϛ θ}(h:lU n p)(i j:θ):lU n (bubble p i j):=(bubble_perm _ _ _).ν h
def ip(n:θ)(P:α->Prop)(t:KasT α):Prop:=KasT.rec (motive:=λ_=>Prop) P (λi j _ ih=>(i<n/\j<n)/\∀b,ih b) t
def ip.Η{P:α->Prop}{Q:β->Prop}{f:α->KasT β}(hf:∀a,P a->ip n Q (f a)){t:KasT α}:ip n P t->ip n Q (t.Η f):=by
 induction t with
 |ret a=>exact hf a
 |ask i j k ih=>exact λh=>⟨h.1,λb=>ih b (h.2 b)⟩
def ip.ev{P:α->Prop}{lt:θ->θ->Ζ}{t:KasT α}:ip n P t->P (ym lt t):=by
 induction t with
 |ret a=>exact id
 |ask i j k ih=>exact λh=>ih (lt i j) (h.2 _)
def ip.wp{P:α->Prop}{G:α->Qg->Prop}{lt:θ->θ->Ζ}(hc:∀(i j:θ)(C:Ζ->Qg->Prop),i<n->j<n->C (lt i j) s->gm i j C s){t:KasT α}:ip n P t->G (ym lt t) s->t.kasWp gm G s:=by
 induction t with
 |ret a=>exact λ_ h=>h
 |ask i j k ih=>exact λh g=>hc i j _ h.1.1 h.1.2 (ih (lt i j) (h.2 _) g)
def Nq(hp:lU n p)(hn:0<n){f:θ}:∀{a:θ},ip n (λ_=>True) (kas_asc p f a):=by
 induction f with
 |zero=>exact trivial
 |succ f ih=>exact⟨⟨hp.lt hn _,hp.lt hn _⟩,λc=>Ζ.Δ (motive:=λc=>ip n _ (if c=Qe then _ else _)) c ih trivial⟩
def RZ(hn:0<n){f:θ}:∀{p:ϛ θ}{a q:θ},lU n p->ip n (λr=>lU n r.1) (kas_desc f p a q):=by
 induction f with
 |zero=>exact λh=>h
 |succ f ih=>
  intro p a q hp;refine⟨⟨hp.lt hn _,hp.lt hn _⟩,λc=>?_⟩;cases c with
  |false=>exact⟨⟨hp.lt hn _,hp.lt hn _⟩,λd=>Ζ.Δ (motive:=λd=>ip n _ (if d=Qe then _ else _)) d (ih hp) hp⟩
  |true=>exact θ.Δ (motive:=λq=>ip n _ (if q>0 then kas_desc f (Jk p (a-(q+1)) a) (a+1) 0 else _)) q (ih hp) λq=>ih (hp.xo _ _)
theorem Lj(hn:0<n){m k:θ}(hp:lU n p):ip n (λr=>lU n r.2) (kas_tail3 m k p):=ip.Η (P:=λ_=>True) (Q:=λr:θ×ϛ θ=>lU n r.2) (f:=λa=>.ret (a,Jk p 0 m)) (λ_ _=>hp.xo 0 m) (Nq (hp.xo _ _) hn)
def yO(hn:0<n){m k:θ}(hp:lU n p):ip n (λr=>lU n r.2) (kas_descPart m k p):=by
 refine ip.Η (λr hr=>?_) (RZ hn hp);obtain⟨p',a,q⟩:=r;exact θ.Δ (motive:=λq=>ip n _ (if q>0 then kas_tail3 a k (Jk p' (a-(q+1)) a) else _)) q (Lj hn hr) λq=>Lj hn (lU.xo hr _ _)
def M8(hn:0<n){k:θ}(hp:lU n p):ip n (λr=>lU n r.2) (kas_count k p):=by
 refine ip.Η (λm _=>?_) (Nq hp hn);by_cases h1:(m==k)=Qe
 ·rw[φ h1];exact hp
 ·rw[τ h1]
  by_cases h2:m>1
  ·rw[φ h2]
   exact⟨⟨hp.lt hn _,hp.lt hn _⟩,λc=>Ζ.Δ (motive:=λc=>ip n _ (if c=Qe then _ else _)) c (yO hn (hp.xo _ _)) hp⟩
  ·rw[τ h2];exact yO hn hp
def Ii(hn:0<n)(hp:lU n p){k f:θ}:∀{l r:θ},ip n (λ_=>True) (kas_place p k f l r):=by
 induction f with
 |zero=>exact trivial
 |succ f ih=>
  intro l r;show ip n _ (if l ≥ r then _ else _);by_cases h:l ≥ r
  ·rw[φ h];exact trivial
  ·rw[τ h];exact⟨⟨hp.lt hn _,hp.lt hn _⟩,λc=>Ζ.Δ (motive:=λc=>ip n _ (if c=Qe then _ else _)) c ih ih⟩
def zde(hn:0<n){f:θ}:∀{p:ϛ θ}{k:θ},lU n p->ip n (lU n) (kas_bin f p k):=by
 induction f with
 |zero=>exact λh=>h
 |succ f ih=>exact λhp=>ip.Η (λ_ _=>ih (hp.iX _ _)) (Ii hn hp)
def AH(hn:0<n):ip n (lU n) (kas_sort n):=by
 refine ip.Η (λr hr=>?_) (M8 hn (ϛ.No.TC _));by_cases h:r.1<n
 ·rw[φ h];exact zde hn hr
 ·rw[τ h];exact hr
end
def MG{l:ζ ab}:((JX l.ε).π λi=>l.ϡ i .Ε)=l:=by
 apply ζ.ext_getElem
 ·simp
 ·intro i h3 h4
  simp [ζ.getD_eq_getElem?_getD,h4]
def tH(l:ζ ab):(yX l).No l:=by
 delta yX;cases h:ZD l.ε 1 with
 |true=>exact .TC _
 |false=>
  have h1:=(ϛ.perm_iff_toList_perm.mp (((AH (YG λe=>by rw[e] at h;exact JK h:0<l.ε)).ev:lU _ (ym (λi j=>ltV (l.ϡ i .Ε) (l.ϡ j .Ε)) _)))).π λi=>l.ϡ i .Ε;rw[ζ.toList_toArray,MG] at h1;exact h1
theorem HH{a b:θ}:ZD a b=Qe ↔ a<=b:=⟨θ.le_of_ble_eq_true,KJ⟩
def Rd(a:ζ θ):∀b:ζ θ,Re a b=decide (a<b):=by
 induction a with
 |Ϝ=>
  intro b;cases b with
  |Ϝ=>rfl
  |Ι y b=>exact(Γ (ζ.nil_lt_cons y b)).Μ
 |Ι x a ih=>
  intro b;cases b with
  |Ϝ=>exact(Θ (ζ.not_lt_nil _)).Μ
  |Ι y b=>
   show Ζ.rec (motive:=λ_=>Ζ) (Ζ.rec (motive:=λ_=>Ζ) (Re a b) Qc (ZD (Z6 y) x)) Qe (ZD (Z6 x) y)=_;rw[ih,Kq,f8,ζ.cons_lt_cons_iff];cases q:ZD (Z6 x) y with
   |true=>exact⟨λ_=>.wv (HH.mp q),λ_=>rfl⟩
   |false=>
    have q1:¬x<y:=λe=>by rw[HH.ϥ e] at q;cases q
    cases q':ZD (Z6 y) x with
    |true=>exact⟨λe=>(JK e:False).ι,λe=>e.ι (λe=>ς e q1) λe=>ς (HH.mp q') (by rw[e.1];exact Zb _)⟩
    |false=>
     exact⟨λe=>.IO ⟨K6 (Z9.mp (λe=>by rw[HH.ϥ e] at q';cases q')) (Z9.mp q1),Ξ e⟩,λe=>e.ι (λe=>ς e q1) λe=>Γ e.2⟩
section
variable{w:Qm}
def Dz{l:Qk}{Q:μ->Qg->Prop}(F:Fr h₀ L s.Ν m)(N:Tu h₀ L s.Ν news)(hl:s.Ν.IsList l vs.υ)(hz:vs.ε<=sizeLine)
  (h: ∀ (D:Qk) (h':QA),Fr h₀ L h' m->Tu h₀ L h' ((D,listOf vs.υ 0)::news) ->(∀q∈news,q.1<D) ->Qh (model prog w) A.in1 (call (.ϭ "list.sort") [.ξ D]) (λ_ s'=>Q (.ξ D) s') E {s with heap:=h'}):
  Qh (model prog w) A (call (.ϭ "sorted") [.ξ l]) Q E s:=by
 refine Calls.call_function_entry kind_sorted plain_sorted entry_sorted (args_sorted1 _) ?_;unfold wT.«sorted»;refine Qb (m:=checkCount "sorted" 1 1 _) (Qf ?_);refine Qb (collect_list hl ?_ hz);refine Qb (wpAny_newList ?_ hz);have keep1: ∀b o,s.Ν.sB b=Qa o->((s.Ν.Te (seqObj "list" #[] 0)).Db s.Ν.wi.Ϡ (Go.mapSeq (· ++vs.υ))).sB b=Qa o:=λb o q=>by
  rw[wS.get?_update_ne _ _ _ _ (ZG (Ky q)),wS.get?_push_ne _ _ _ (ZG (Ky q))];exact q
 have N1:Tu h₀ L ((s.Ν.Te (seqObj "list" #[] 0)).Db s.Ν.wi.Ϡ (Go.mapSeq (· ++vs.υ))) news:=λp hp=>⟨keep1 _ _ (N p hp).1,(N p hp).2⟩;exact Qb (Qj (Qr (h _ _ ((F.keeps keep1).Te {cls:= .AT "list",data:= .seq vs.υ}) (Tu.Te (F.keeps keep1) N1 {cls:= .AT "list",data:= .seq vs.υ} rfl) (λq hq=>Ky (N1 q hq).1)) (λ_ s' x=>Qf ⟨_,rfl,x⟩) λ_ _ e=>e))
def Fw{Q:μ->Qg->Prop}(F:Fr h₀ L s.Ν m)(N:Tu h₀ L s.Ν ((a,listOf vs.υ n)::news))(hna:∀p∈news,p.1≠a)(h2:vs.ε<2)
  (h: ∀h' c,Fr h₀ L h' m->Tu h₀ L h' ((a,listOf vs.υ c)::news) ->Q .Ε {s with heap:=h'}):Qh (model prog w) A (call (.ϭ "list.sort") [.ξ a]) Q E s:=by
 have nz:=N (a,listOf vs.υ n) (.mo _);have ho:s.Ν.sB a=Qa (seqObj "list" vs.υ n):=nz.1;refine Qq slot_list_sort ⟨_,nz.1,rfl⟩ entry_list_sort ?_ (args_list_sort _);have s1:=wS.v6.Db s.Ν a (Go.mapSeq λ_=>(#[]:ϛ μ));obtain⟨e1,ho1⟩: ∃e1,(s.Ν.Db a (Go.mapSeq λ_=>(#[]:ϛ μ))).sB a=Qa (seqObj "list" #[] e1):=⟨_,get?_update_seq ho λ_=> #[]⟩;have hsl:sizeLine=16777216:=Jg;rw[list_sort_plain];refine Qb (listItems_at ho rfl ?_);refine Qb (listUpdate_at ho rfl ?_ (by rw[Zo];exact Jn (JN (θ.lt_add_left _ h2)) (JF (XJ hsl))) (JB _));refine Qb (seqEpoch_at ho1 rfl ?_);refine Qb (wpAny_newTuple ?_ (by show vs.ε<=_;exact Jn (JN (θ.lt_add_left _ h2)) (JF (XJ hsl))));refine Qb (wpAny_newList ?_ (JB _));refine Qj ?_
 dsimp only
 have hn2:vs.υ.Ϡ<2:=by rw[Zo];exact h2
 rw[φ hn2,φ hn2];refine Qb (Qf (Qb (Qf ?_)))
 dsimp only
 have harr:(arrOf (SortSt.mk' general' (vs.υ.zip vs.υ) #[] 7 Qd)).π (·.2)=vs.υ:=by
  show (vs.υ.zip vs.υ).π (·.2)=vs.υ
  apply ϛ.toList_inj.mp
  simp [ζ.map_snd_zip]
 refine Qb (seqEpoch_at (wS.Ϯ _ (wS.Ϯ _ ho1)) rfl ?_);rw[harr];refine Qb (listUpdate_at (wS.Ϯ _ (wS.Ϯ _ ho1)) rfl ?_ (JB _) (by rw[Zo];exact Yn (JY h2)));simp only[bne_self_eq_false,K1,if_false];have s2:=wS.v6.Db (((s.Ν.Db a (Go.mapSeq λ_=>(#[]:ϛ μ))).Te (seqObj "tuple" vs.υ 0)).Te (seqObj "list" #[] 0)) a (Go.mapSeq λ_=>vs.υ);obtain⟨c2,hc2⟩: ∃c2,((((s.Ν.Db a (Go.mapSeq λ_=>(#[]:ϛ μ))).Te (seqObj "tuple" vs.υ 0)).Te (seqObj "list" #[] 0)).Db a (Go.mapSeq λ_=>vs.υ)).sB a=Qa (seqObj "list" vs.υ c2):=⟨_,get?_update_seq (wS.Ϯ _ (wS.Ϯ _ ho1)) λ_=>vs.υ⟩;refine Qf ⟨_,rfl,h _ c2 (kas_fr (((kas_fr F s1 nz.2.1 nz.2.2).Te (seqObj "tuple" vs.υ 0)).Te (seqObj "list" #[] 0)) s2 nz.2.1 nz.2.2) λp hp=>?_⟩;rcases JM.mp hp with rfl|hp
 ·exact⟨hc2,nz.2⟩
 ·exact kas_news ((kas_news (λp hp=>N p (.pc _ hp):Tu h₀ L s.Ν news) s1 hna).grown λb x e=>wS.Ϯ _ (wS.Ϯ _ e):Tu h₀ L (((s.Ν.Db a (Go.mapSeq λ_=>(#[]:ϛ μ))).Te (seqObj "tuple" vs.υ 0)).Te (seqObj "list" #[] 0)) news) s2 hna p hp
end
section
variable{w:Qm}
theorem Pc {d:Qk} (lo:(d==sysModules)=Qc):KdlSrc prog w "dict" d d es.ε (λi v=> ∃e,es[i]?=Qa e/\e.key=v) (λh=>h.sB d=Qa (Qn es ep)) where
 type:=λ_ hm=>⟨_,hm,rfl⟩
 there:=λ_ hm=>⟨Ky hm,Ky hm⟩
 keep:=λ_ _ hm hk=>hk d (.wv rfl) _ hm
 notList:=rfl
 notTuple:=rfl
 hint:=λ_ _ s _ hm hq=>kdl_hint_dict (s:=s) ⟨_,hm,rfl⟩ hq
 iter:=λA s hh hm=>⟨_,(λi h=>h.IsKeyIter s.Ν.wi.Ϡ d i es.ε ep/\h.sB d=Qa (Qn es ep)),(λ_ _ hq=>LL lo hm hq),
  {sub:=λb hb=>by simp at hb;simp [hb]
   frame:=λ_ _ _ st hk=>⟨st.1.at λo e=>hk _ (by simp) o e,hk d (by simp) _ st.2⟩
   item:=λi s' Q E hi st hQ=>Wa hh st.1 st.2 (λe h' hx hit' hs'=>hQ e.key h' s'.zn ⟨e,hx,rfl⟩ ⟨hit',(hs'.2 d (ZG (Ky hm))).ν st.2⟩ λb o hb q=>hs'.extBut b o (λh=>hb (by simp [h])) q) λh' hx=>ς hx (by rw[Jp hi];nofun)
   done:=λs' Q E st hQ=>Wa hh st.1 st.2 (λe h' hx=>ς hx (by simp)) λh' hx he'=>hQ h' s'.zn λb o hb e=>he' b o (λh=>hb (by simp [h])) e
   self:=λ_ _ _ _ st hQ=>Q2 st.1 hQ},
  ⟨⟨_,wS.Tn _ rfl,rfl,by simp⟩,wS.Ϯ _ hm⟩⟩
end
def ED{f:Ζ}{a c:ai}{p q:μ}(hp:(kA C.prog C.w).is a p=Qe)(hq:(kA C.prog C.w).is c q=Qe)(hk:a.KT.str?.ϟ=c.KT.str?.ϟ)(h:Q (Rc a.KT c.KT) s):Qh C.M A (oneLt' f p q) Q E s:=by
 cases a with
 |i n=>
  cases c with
  |s y=>cases hk
  |i m=>
   obtain⟨t,rfl⟩:=Ki hp;obtain⟨u,rfl⟩:=Ki hq;cases f with
   |true=>exact oneLt_int h
   |false=>exact kat_one _ _ (PyProof.Rows.lt_int h)
 |s x=>
  cases c with
  |i m=>cases hk
  |s y=>
   obtain⟨t,rfl⟩:=Kd hp;obtain⟨u,rfl⟩:=Kd hq;have h:Q (Re x.cps.ch y.cps.ch) s:=h;rw[Rd] at h;cases f with
   |true=>exact oneLt_str h
   |false=>exact kat_one _ _ (PyProof.Rows.lt_str h)
def zcF{as:ζ ai}:∀{bs:ζ ai}{xs ys:ζ μ}{i:θ},ItemsAre (kA C.prog C.w) as xs->ItemsAre (kA C.prog C.w) bs ys->O0 (.ay (as.π ai.KT))=O0 (.ay (bs.π ai.KT))->Q (zcy (as.π ai.KT) (bs.π ai.KT)) s->KatLex C.prog C.w A Qe Qc Q (xs.zip ys) i s:=by
 induction as with
 |Ϝ=>
  intro bs xs ys i hx hy hs h;cases hx;exact kat_nil h
 |Ι a as ih=>
  intro bs xs ys i hx hy hs h;cases bs with
  |Ϝ=>cases hs
  |Ι c bs=>
   cases hx with
   |Ι h1 r1=>
    cases hy with
    |Ι h2 r2=>
     have h:Q (bif fz a.KT c.KT then zcy (as.π ai.KT) (bs.π ai.KT) else Rc a.KT c.KT) s:=h;rw[Wu] at h;refine kat_cons ((kA C.prog C.w).eqBool h1 h2 (kat_go (λed=>kat_yes (ih r1 r2 (Kl.lf hs).2 ?_)) λed=>kat_no (ED h1 h2 (Kl.lf hs).1 ?_)))
     ·rw[ed] at h;exact h
     ·rw[ed] at h;exact h
def KOk(C:bf)(h:QA)(ms:ζ ab)(vs:ζ μ)(κ:SortKind):Prop:=(∀{A:Qv}{E:μ->Qg->Prop}{s:Qg}{Q:SortKind->Qg->Prop},s.Ν=h->Q κ s->Qh C.M A (keyKind' vs.υ) Q E s)/\∀{A:Qv}{E:μ->Qg->Prop}{s:Qg}{Q:Ζ->Qg->Prop}{i j:θ},s.Ν=h->i<ms.ε->j<ms.ε->Q (ltV (ms.ϡ i .Ε) (ms.ϡ j .Ε)) s->Qh C.M A (keyLt' κ (vs.ϡ i KH) (vs.ϡ j KH)) Q E s
section
variable{C:bf}{h:QA}{ms:List ab}{vs:List Value}{κ:SortKind}(ψ:KOk C h ms vs κ)
def KOk.Ts:=@ψ.1
def KOk.lt:=@ψ.2
end
def B1{ms:ζ ab}(r:jI C w ms vs)(hi:i<ms.ε):ms.ϡ i .Ε∈ms/\vs.ϡ i .Ε∈vs/\jL C w (ms.ϡ i .Ε) (vs.ϡ i .Ε):=by
 obtain⟨v,e1,e2⟩:=r.Mi (Jp hi);simp only[ζ.getD_eq_getElem?_getD,Jp hi,e1];exact⟨Zt hi,Jt e1,e2⟩
def zdU{ms:ζ ab}(r:jI C w ms vs)(hv:v∈vs):∃m∈ms,jL C w m v:=by
 obtain⟨i,hi⟩:=YU.mp hv;have hl:i<ms.ε:=r.ε▸(Jy.mp hi).1;obtain⟨v',e1,e2⟩:=r.Mi (Jp hl);cases hi.Μ.ν e1;exact⟨_,Zt hl,e2⟩
def FX{ms:ζ ab}{b:Ζ}(r:jI C w ms vs)(h2:2<=vs.ε)(ok:∀m∈ms,m9 m=Qe/\m.str?.ϟ=b):KOk C h ms vs oneType':=by
 refine⟨λ{A E s Q} e hq=>?_,λ{A E s Q i j} e hi hj hq=>?_⟩
 ·refine kas_kind (T:=bif b then .AT "str" else .AT "int") h2 (λv hv=>?_) (by cases b<;>rfl) (by cases b<;>rfl) hq
  obtain⟨m,hm,hr⟩:=zdU r hv;obtain⟨o1,rfl⟩:=ok m hm;obtain⟨a,rfl⟩:=sD o1;cases a with
  |i n=>obtain⟨t,rfl⟩:=hr;exact Looks.of_pure rfl
  |s x=>obtain⟨t,rfl,_⟩:=hr;exact Looks.of_pure rfl
 ·obtain⟨m1,_,r1⟩:=B1 r hi
  obtain⟨m2,_,r2⟩:=B1 r hj
  revert hq r1 r2 m1 m2
  generalize ms.ϡ i .Ε=x,ms.ϡ j .Ε=y,vs.ϡ i KH=p,vs.ϡ j KH=q
  intro hq m1 r1 m2 r2;obtain⟨a1,b1⟩:=ok x m1;obtain⟨a2,b2⟩:=ok y m2;obtain⟨a,rfl⟩:=sD a1;obtain⟨c,rfl⟩:=sD a2;rw[keyLt'_oneType];refine ED r1.atom.1 r2.atom.1 (b1.ν b2.Μ) ?_;cases a<;>exact hq
def Mp{ms:ζ ab}(r:jI C w ms vs)(h2:2<=vs.ε)(P:∀m v,m∈ms->jL C w m v->∃as t,m=.ay (as.π ai.KT)/\v=.ξ t/\Ql (kA C.prog C.w) h as t)(ok:∀m∈ms,O0 m=Qe::k0):KOk C h ms vs (tuples' Qe):=by
 refine⟨λ{A E s Q} e hq=>?_,λ{A E s Q i j} e hi hj hq=>?_⟩
 ·subst e
  have g:∀(vs:ζ μ),(∀v∈vs,∃m∈ms,jL C w m v)->∃fs,KatTups s.Ν vs fs/\fs.ε=vs.ε/\∀f∈fs,∃x t,f=.Ϥ x t:=by
   intro vs
   induction vs with
   |Ϝ=>exact λ_=>⟨[],.Ϝ,rfl,λ_ h=>ς h Jz⟩
   |Ι v vs ih=>
    intro H;obtain⟨fs,q1,q2,q3⟩:=ih λv hv=>H v (.pc _ hv);obtain⟨m,hm,hr⟩:=H v (.mo _);obtain⟨as,t,rfl,rfl,o,items,n,g1,g2,g3,g4⟩:=P m v hm hr;have hs:=ok _ hm;cases as with
    |Ϝ=>cases hs
    |Ι a as=>
     cases a with
     |i n=>cases (Kl.lf hs).1
     |s x=>
      obtain⟨t1,rest,e⟩:∃t1 rest,items.ch=KQ x t1::rest:=by
       revert g4
       generalize items.ch=ws
       intro g4;cases g4 with
       |Ι h1 r=>
        obtain⟨t1,rfl⟩:=Kd h1;exact⟨t1,_,rfl⟩
      have hf:items[0]?=Qa (.Ϥ x t1):=by rw[<-ϛ.getElem?_toList,e];rfl
      exact⟨_::fs,.Ι g1 g2 g3 hf q1,ω Z6 q2,λf hf=>(JM.mp hf).ι (λe=>⟨_,_,e⟩) (q3 f)⟩
  obtain⟨fs,q1,q2,q3⟩:=g vs λv hv=>zdU r hv;exact kat_kind (T:=.AT "str") q1 (by rw[q2];exact Ju (by decide) h2) (λf hf=>by obtain⟨x,t,rfl⟩:=q3 f hf;exact Looks.of_pure rfl) rfl hq
 ·subst e
  obtain⟨m1,_,r1⟩:=B1 r hi;obtain⟨m2,_,r2⟩:=B1 r hj
  revert hq r1 r2 m1 m2
  generalize ms.ϡ i .Ε=x,ms.ϡ j .Ε=y,vs.ϡ i KH=p,vs.ϡ j KH=q
  intro hq m1 r1 m2 r2;have hs:=(ok x m1).ν (ok y m2).Μ;obtain⟨as,t,rfl,rfl,ox,xs,n,g1,_,d1,i1⟩:=P x p m1 r1;obtain⟨bs,u,rfl,rfl,oy,ys,k,g2,_,d2,i2⟩:=P y q m2 r2;refine kat_lt g1 d1 g2 d2 ?_;have e1:xs.Ϡ=ys.Ϡ:=by
   have e:=ω Ku hs;rw[<-ϛ.sK,<-ϛ.sK,<-i1.ε,<-i2.ε];unfold O0 at e;simp only[ab.tup?,η.getD_some,Jq] at e;exact e
  rw[e1,Θ (Zb _)];exact zcF i1 i2 hs hq
def zbg{ms:ζ ab}(r:jI C w ms vs):∀{p:ζ θ},(∀i∈p,i<ms.ε)->jI C w (p.π λi=>ms.ϡ i .Ε) (p.π λi=>vs.ϡ i .Ε):=by
 intro p
 induction p with
 |Ϝ=>intro _;exact .Ϝ
 |Ι i p ih=>
  intro h;exact .Ι (B1 r (h i (.mo _))).2.2 (ih λj hj=>h j (.pc _ hj))
def zbe{ms:ζ ab}{Q:μ->Qg->Prop}(F:Fr h₀ L s.Ν m)(N:Tu h₀ L s.Ν ((D,listOf vs.υ n)::news))(hna:∀p∈news,p.1≠D)(hP:2<=vs.ε->∀h',Fr h₀ L h' m->Tu h₀ L h' news->∃κ,KOk C h' ms vs κ)(r:jI C w ms vs)(h60:ms.ε<=60)
  (h:∀(h':QA)(rk:ζ μ)(c:θ),Fr h₀ L h' m->Tu h₀ L h' ((D,listOf rk.υ c)::news)->jI C w (yX ms) rk->Q .Ε {s with heap:=h'}):
  Qh C.M A (call (.ϭ "list.sort") [.ξ D]) Q E s:=by
 have hl:vs.ε=ms.ε:=r.ε.Μ;by_cases h2:vs.ε<2
 ·have hsame:yX ms=ms:=by
   unfold yX;rw[KJ (JY (hl▸h2))];rfl
  exact Fw F N hna h2 λh' c F' N'=>h h' vs c F' N' (by rw[hsame];exact r)
 ·have h2:=Z9.mp h2
  refine kat_lsort (vs:=vs) F N (.mo hna) rfl h2 (by rw[hl];exact Jw h60 (by decide)) λe1 h' F' N'=>?_;obtain⟨κ,P⟩:=hP h2 h' F' λp hp=>N' p (.pc _ hp);refine P.Ts (s:={s with heap:=h'}) rfl ?_;have T:=AH (hl▸Ju (by decide) h2:0<ms.ε);have hs:yX ms=(ym (λi j=>ltV (ms.ϡ i .Ε) (ms.ϡ j .Ε)) (kas_sort ms.ε)).ch.π λi=>ms.ϡ i .Ε:=by unfold yX;rw[(Ζ.eq_false_iff.ϥ λe=>ς (θ.le_of_ble_eq_true e) (Xw.ϥ (hl▸h2)):ZD ms.ε 1=Qc)];rfl
  rw[hs] at h;rw[hl];refine T.wp (lt:=λi j=>ltV (ms.ϡ i .Ε) (ms.ϡ j .Ε)) (λi j Cc hi hj hc=>P.lt (s:={s with heap:=h'}) rfl hi hj hc) ?_;exact KasFin.intro F' N' (.mo hna) λh2' c F2 N2=>h h2' _ c F2 N2 (zbg r λi hi=>ZA.mp (by
    have:=(ϛ.perm_iff_toList_perm.mp T.ev).tz.mp hi
    rwa [ζ.toList_toArray] at this))
def zcN{ms:ζ ab}(ok:okV ms=Qe)(r:jI C w ms vs)(h2:2<=vs.ε)(S:cb C Y.h₀ Y.L k w H h):∃κ,KOk C h ms vs κ:=by
 rcases KW.mp (Jo.mp ok).2 with q|q
 ·exact⟨_,FX r h2 λm hm=>(Jo.mp (Za.mp q m hm)).imp id eq_of_beq⟩
 ·refine⟨_,Mp r h2 (λm v hm hr=>?_) λm hm=>Ξ (Jo.mp (Za.mp q m hm)).2⟩
  have h3:jV m=3:=eq_of_beq (Jo.mp (Za.mp q m hm)).1;rcases oR (v:=m) (by rw[h3];rfl) with ⟨a,rfl⟩| ⟨as,rfl⟩
  ·rw[lZ] at h3;exact ς h3 (by decide)
  ·obtain⟨t,rfl,ht⟩:=S.gn hr
   exact⟨as,t,rfl,rfl,ht⟩
theorem Ls (K:uY C) (S:St Y k w H s) {x:ab} (hx:jL C w x v):cf Y k (VR C) (call (.ϭ "sorted") [v]) w s ((wH H x).Η λms=>aw (okV ms) (mC H (.ο (yX ms)))):=
 .jf λms hms=>.aw λhc=>by
  intro r' e' Q E hq;obtain rfl:=Qa.lf e';have h60:ms.ε<=60:=HH.mp (Jo.mp hc).1;obtain⟨all,hn,add,_,hp2⟩:=S.dz;have tail: ∀ (B:Qk) (h':QA) (tk:θ) (vs:ζ μ),Fr Y.h₀ Y.L h' k.m->Tu Y.h₀ Y.L h' ((B,listOf vs.υ 0)::all) ->(∀q∈all,q.1<B) ->jI C w ms vs->Qh C.M Y.A.in1 (call (.ϭ "list.sort") [.ξ B]) (λ_ s'=>Q (.ξ B) s') E {s with heap:=h',toks:=tk}:=λB h' tk vs F' N' hlt rr=>by
   refine zbe (s:={s with heap:=h',toks:=tk}) F' N' (λp hp=>ZG (hlt p hp)) (λh2 h3 F2 N2=>zcN hc rr h2 (hp2 h3 F2 N2)) rr h60 λh2 rk c F2 N2 hO=>?_;have h4:4<=B:=ZM λhlt4=>by
    refine(K.qo B hlt4).ι λo zq3=>?_
    have:=(N2 (B,_) (.mo _)).2.2
    rw[Y.k B o zq3] at this;exact nomatch this
   exact hq _ _ {s with heap:=h2,toks:=tk} ⟨(⟨Zk _ _,λ_ x=>x⟩:w.le ⟨w.σ++[B],w.tp⟩),add B (.ο (yX ms)) [(B,listOf rk.υ c)] h2 ⟨_,_,rfl,jI.Τ (w':=⟨w.σ++[B],w.tp⟩) ⟨Zk _ _,λ_ x=>x⟩ hO,by rw[(tH ms).u8];exact Jn h60 (by decide)⟩ F2 N2 (qP _) (λp hp q hq=>by rw[JD.mp hp];exact λe=>ς (hlt q hq) (by rw[<-e];exact Zb _)) h4,rfl,rfl⟩ ⟨_,rfl,by rw[<-S.lv];exact Zi⟩
  refine lB (kL λp hp e=>?_) (λe=>?_) hms
  ·subst e
   refine(S.Υ hx hp).ι λ_ zq17=>?_;obtain⟨b,n,es,rfl,hmod,_,hg,hdr,hlim,_⟩:=zq17.2;obtain⟨hl,hk⟩:=hdr.gi;rw[Jq] at h60;refine kdu_sorted (Pc hmod) Y.v4 S.fr hn hg (by rw[hl];exact Jn h60 (by rw[Jg];decide)) λB h' tk vs F' N' hlt hvl hvs=>tail B h' tk vs F' N' hlt ?_;have key:∀{ms:ζ ab}{vs:ζ μ},ms.ε=vs.ε->(∀(j:θ)(mv:ab)(v:μ),ms[j]?=Qa mv->vs[j]?=Qa v->jL C w mv v)->jI C w ms vs:=by
    intro ms
    induction ms with
    |Ϝ=>intro vs h _;cases vs with
     |Ϝ=>exact .Ϝ
     |Ι _ _=>exact θ.Ok h
    |Ι x ms ih=>intro vs h hj;cases vs with
     |Ϝ=>exact θ.Ok h
     |Ι y vs=>exact .Ι (hj 0 x y rfl rfl) (ih (Z6.lf h) λj mv v h1 h2=>hj (j+1) mv v h1 h2)
   refine key (by rw[Jq,hvl,hl]) λj mv v h1 h2=>?_;rw[JE] at h1;obtain⟨q,hq,rfl⟩:=Zm.mp h1;obtain⟨en,e1,e2⟩:=hk j q hq;obtain⟨en',e3,rfl⟩:=hvs j v h2;cases e1.Μ.ν e3;exact e2
  ·obtain⟨b,ws,n,rfl,hg,rr,hlim⟩:=S.ο hx e
   exact Dz S.fr hn ⟨_,hg,rfl,n,rfl⟩ (by rw[<-rr.ε];exact Jn h60 (by rw[Jg];decide)) λD h' F' N' hlt=>tail D h' s.zn ws F' N' hlt rr
theorem zgw (C:bf):EI C:=λ{d e Y k w H s as vs} K S r=> .a1 (T:=λl=>call (.ϭ "sorted") l) r λx v hx=>Ls K S hx
end Internal
namespace Internal
variable{op:gy}{many r st:Bool}{tg:List Nat}{ts:List T1}{a ac d i l n x:Nat}{ep ep0:Option Nat}{A A' B B' pq pr:Prop}{α β σ:Type}
structure W{α:Type}(o:η (α×MH))(Q:α->MH->Prop):Prop where
 w:JG (motive:=λ_=>Prop) o False λp=>Q p.1 p.2
structure Wo{α:Type}(o:η α)(Q:α->Prop):Prop where
 w:JG (motive:=λ_=>Prop) o False Q
section
variable{o:Option (α×MH)}{Q:α->MH->Prop}
def W.Mi(h:W o Q):∃a g,o=Qa (a,g)/\Q a g:=by
 cases o with
 |none=>exact h.w.ι
 |some p=>exact⟨p.1,p.2,rfl,h.w⟩
def W.Τ{Q':α->MH->Prop}(h:W o Q)(i:∀a g,Q a g->Q' a g):W o Q':=by
 cases o with
 |none=>exact⟨h.w⟩
 |some p=>exact⟨i _ _ h.w⟩
def W.of{a:α}{g:MH}(e:o=Qa (a,g))(q:Q a g):W o Q:=by subst e;exact⟨q⟩
theorem lA{a:α}{g:MH}(q:Q a g):W (Qa (a,g)) Q:=⟨q⟩
def au{f:α->MH->η (β×MH)}{R:β->MH->Prop}(h:W o λa g=>W (f a g) R):W (bz o f) R:=by
 cases o with
 |none=>exact h.w.ι
 |some p=>exact h.w
def w_bnd'{f:α->MH->η (β×MH)}{R:β->MH->Prop}(h:W (bz o f) R):W o λa g=>W (f a g) R:=by
 cases o with
 |none=>exact⟨h.w⟩
 |some p=>exact⟨h⟩
theorem Ao{b:β}{P:β->Prop}(q:P b):Wo (Qa b) P:=⟨q⟩
def vT{x:η β}{f:β->η (α×MH)}(h:Wo x λb=>W (f b) Q):W (x.Η f) Q:=by
 cases x with
 |none=>exact h.w.ι
 |some b=>exact h.w
def Uq{x:η β}{f:β->α×MH}(h:Wo x λb=>Q (f b).1 (f b).2):W (x.π f) Q:=by
 cases x with
 |none=>exact h.w.ι
 |some b=>exact⟨h.w⟩
def Av{b:Ζ}(hb:b=Qe)(h:W o Q):W (aw b o) Q:=by subst hb;exact h
def Lf{o':η (α×MH)}(h:W o Q):W (bj o o') Q:=by
 cases o with
 |none=>exact h.w.ι
 |some p=>exact⟨h.w⟩
def Wo.Τ{o:η β}{P P':β->Prop}(h:Wo o P)(i:∀a,P a->P' a):Wo o P':=by
 cases o with
 |none=>exact⟨h.w⟩
 |some a=>exact⟨i a h.w⟩
def Wo.of{o:η β}{P:β->Prop}{a:β}(e:o=Qa a)(q:P a):Wo o P:=by subst e;exact⟨q⟩
theorem rZ{p:η (ab×MH)}{Q:Ζ->MH->Prop}(h:W p λv g=>Wo (truthy g v) λb=>Q b g):W (lT p) Q:=au (h.Τ λv g h=>Uq (f:=λb=>(b,g)) h)
end
def WB(op:gy)(x y:ab)(h:MH)(Q:ab->MH->Prop):Prop:=W (o7 op x y h) Q
def WC(op:te)(x y:ab)(h:MH)(Q:ab->MH->Prop):Prop:=Wo (mX op x y h) λr=>Q (.ϯ r) h
def WT(x:ab)(h:MH)(Q:Ζ->Prop):Prop:=Wo (truthy h x) Q
def WI(o k:ab)(h:MH)(Q:ab->MH->Prop):Prop:=Wo (kR h o k) λv=>Q v h
def WA(P:gx)(o:ab)(n:θ)(h:MH)(Q:ab->MH->Prop):Prop:=Wo (getAttr P h o n) λv=>Q v h
def i9(o:ab)(k:θ)(bs:ζ ab)(h:MH)(Q:ab->MH->Prop):Prop:=W (slice h o k bs) Q
def WV(c:Cx)(f:ab)(as:ζ ab)(h:MH)(Q:ab->MH->Prop):Prop:=W (jO c f as h) Q
def WM(c:Cx)(o:ab)(n:θ)(as:ζ ab)(h0 h:MH)(Q:ab->MH->Prop):Prop:=W (kI c o n as h0 h) Q
def fB(c:Cx)(ts:ζ T1)(vs:ζ ab)(fr:Λ)(h:MH)(Q:Λ->MH->Prop):Prop:=W (qM c ts vs fr h) Q
def Br(r:Ζ)(A B:Prop):Prop:=(r=Qe->A)/\(r=Qc->B)
theorem br(a:r=Qe->A)(b:r=Qc->B):Br r A B:=⟨a,b⟩
theorem zda(a:A):Br Qe A B:=⟨λ_=>a,λh=>JK h⟩
theorem ziZ(b:B):Br Qc A B:=⟨λh=>(JK h:False).ι,λ_=>b⟩
abbrev ah(P:gx)(d:θ):Cx:=⟨P,200000,mB P 200000 d⟩
variable{Q:ab->MH->Prop}
section
variable{c:Cx}{fr:Frame}{h:MH}{P:gx}
def WE(c:Cx)(fr:Λ)(e:Ex)(h:MH)(Q:ab->MH->Prop):Prop:=W (eval c e fr h) Q
def uj(c:Cx)(fr:Λ)(es:ζ Ex)(h:MH)(Q:ζ ab->MH->Prop):Prop:=W (qC c es fr h) Q
def u6{v:ab}(hx:fr[x]?=Qa (Qa v))(q:Q v h):WE c fr (.Ο x) h Q:=by
 show W ((fr[x]?).Η λo=>o.π λv=>(v,h)) Q;exact hx▸ ⟨q⟩
theorem za0{v:ab}(q:Q v h):WE c fr (.py v) h Q:=lA q
theorem Aq{Q:ζ ab->MH->Prop}(q:Q [] h):uj c fr [] h Q:=lA q
theorem BL{Q:ζ ab->MH->Prop}{e:Ex}{r:ζ Ex}(q:WE c fr e h λv h1=>uj c fr r h1 λvs h2=>Q (v::vs) h2):uj c fr (e::r) h Q:=au (W.Τ q λv h1 q=>au (W.Τ q λ_ _ q=>lA q))
theorem As{es:ζ Ex}(q:uj c fr es h λvs h1=>Q (.ξ h1.ε) (h1++[.ο vs])):WE c fr (.ο es) h Q:=au (W.Τ q λ_ _ q=>lA q)
theorem zaX{es:ζ Ex}(q:uj c fr es h λvs h1=>Q (.ay vs) h1):WE c fr (.ay es) h Q:=au (W.Τ q λ_ _ q=>lA q)
theorem za4{a b:Ex}(q:WE c fr a h λx h1=>WE c fr b h1 λy h2=>WB op x y h2 Q):WE c fr (.fq op a b) h Q:=au (W.Τ q λx h1 q=>au q)
theorem zaZ{a:Ex}(q:WE c fr a h λx h1=>WT x h1 λb=>Q (.ϯ (!b)) h1):WE c fr (.not a) h Q:=au (rZ (W.Τ q λ_ _ q=>Wo.Τ q λ_ q=>lA q))
theorem za2{op:te}{a b:Ex}(q:WE c fr a h λx h1=>WE c fr b h1 λy h2=>WC op x y h2 Q):WE c fr (.gm op a b) h Q:=au (W.Τ q λx h1 q=>au (W.Τ q λy h2 q=>Uq (f:=λr=>(ab.ϯ r,h2)) q))
def GU{a b:η (α×MH)}{Q:α->MH->Prop}(q:Br r (W a Q) (W b Q)):W (bif r then a else b) Q:=by
 cases r with
 |true=>exact q.1 rfl
 |false=>exact q.2 rfl
theorem za1{t a b:Ex}(q:WE c fr t h λx h1=>WT x h1 λr=>Br r (WE c fr a h1 Q) (WE c fr b h1 Q)):WE c fr (.ite t a b) h Q:=au (rZ (W.Τ q λx h1 q=>Wo.Τ q λr q=>GU q))
theorem Oc{e:Ex}(q:WE c fr e h λo h1=>WA c.P o n h1 Q):WE c fr (.aq e n) h Q:=au (W.Τ q λo h1 q=>Uq (f:=λv=>(v,h1)) q)
theorem zaY{e i:Ex}(q:WE c fr e h λo h1=>WE c fr i h1 λk h2=>WI o k h2 Q):WE c fr (.Ix e i) h Q:=au (W.Τ q λo h1 q=>au (W.Τ q λk h2 q=>Uq (f:=λv=>(v,h2)) q))
theorem BM{e:Ex}{k:θ}{bs:ζ Ex}(q:WE c fr e h λo h1=>uj c fr bs h1 λvs h2=>i9 o k vs h2 Q):WE c fr (.slice e k bs) h Q:=au (W.Τ q λo h1 q=>au q)
theorem Oa{f:Ex}{as:ζ Ex}(q:WE c fr f h λg h1=>uj c fr as h1 λvs h2=>WV c g vs h2 Q):WE c fr (.bn f as) h Q:=au (W.Τ q λo h1 q=>au q)
theorem N9{o:Ex}{as:ζ Ex}(q:WE c fr o h λg h1=>uj c fr as h1 λvs h2=>WM c g n vs h1 h2 Q):WE c fr (.bc o n as) h Q:=au (W.Τ q λo h1 q=>au q)
theorem Ob{e:Ex}(q:WE c fr e h Q):WE c fr (.qa st [e]) h Q:=au (f:=λv h1=>Qa (v,h1)) (W.Τ q λ_ _ q=>lA q)
theorem za3{e f:Ex}{r:ζ Ex}(q:WE c fr e h λv h1=>WT v h1 λb=>Br (b==st) (Q v h1) (WE c fr (.qa st (f::r)) h1 Q)):WE c fr (.qa st (e::f::r)) h Q:=au (f:=λv h1=>(truthy h1 v).Η λb=>bif b==st then Qa (v,h1) else yN c st (f::r) fr h1) (W.Τ q λv h1 q=>vT (Wo.Τ q λb q=>GU ⟨λh=>lA (q.1 h),q.2⟩))
variable{R:Fl->Frame->MH->Prop}
def WS(c:Cx)(s:Sm)(fr:Λ)(h:MH)(R:Fl->Λ->MH->Prop):Prop:=W (exec c s fr h) λp h=>R p.1 p.2 h
def ck(c:Cx)(s:ζ Sm)(fr:Λ)(h:MH)(R:Fl->Λ->MH->Prop):Prop:=W (execs c s fr h) λp h=>R p.1 p.2 h
theorem NW(q:R .nx fr h):ck c [] fr h R:=lA (a:=(Fl.nx,fr)) q
def zb(c:Cx)(r:ζ Sm)(R:Fl->Λ->MH->Prop)(fl:Fl)(fr:Λ)(h:MH):Prop:=Fl.Δ (motive:=λ_=>Prop) fl (ck c r fr h R) (R .bk fr h) (R .ct fr h) λv=>R (.rt v) fr h
def BG{s:Sm}{r:ζ Sm}(q:WS c s fr h (zb c r R)):ck c (s::r) fr h R:=by
 exact au (W.Τ q λp h1 q=>by
  obtain⟨fl,f2⟩:=p;cases fl with
  |nx=>exact q
  |bk=>exact⟨q⟩
  |ct=>exact⟨q⟩
  |rt v=>exact⟨q⟩)
def N0{e:Ex}(q:WE c fr e h λ_ h1=>R .nx fr h1):WS c (.expr e) fr h R:=by
 show W (bz (eval c e fr h) λ_ h1=>Qa ((Fl.nx,fr),h1)) λp h=>R p.1 p.2 h;exact au (W.Τ q λ_ _ q=>⟨q⟩)
def N4{e:Ex}(q:WE c fr e h λv h1=>Wo (items h1 v) λvs=>fB c ts vs fr h1 λf2 h2=>R .nx f2 h2):WS c (.ju ts e) fr h R:=by
 exact au (W.Τ q λv h1 q=>vT (Wo.Τ q λvs q=>au (W.Τ q λ_ _ q=>⟨q⟩)))
def zaT{e:Ex}(q:WE c fr e h λv h1=>R (.rt v) fr h1):WS c (.ret e) fr h R:=by
 show W (bz (eval c e fr h) λv h1=>Qa ((Fl.rt v,fr),h1)) λp h=>R p.1 p.2 h;exact au (W.Τ q λ_ _ q=>⟨q⟩)
def zaU{t:Ex}{a b:ζ Sm}(q:WE c fr t h λx h1=>WT x h1 λr=>Br r (ck c a fr h1 R) (ck c b fr h1 R)):WS c (.ite t a b) fr h R:=by
 exact au (rZ (W.Τ q λx h1 q=>Wo.Τ q λr q=>GU q))
theorem zaV(q:R .bk fr h):WS c .brk fr h R:=lA (a:=(Fl.bk,fr)) q
theorem N3(q:R .ct fr h):WS c .cont fr h R:=lA (a:=(Fl.ct,fr)) q
theorem NX(q:R .nx fr h):WS c .rz fr h R:=lA (a:=(Fl.nx,fr)) q
def WF(P:gx)(d f:θ)(as:ζ ab)(h:MH)(Q:ab->MH->Prop):Prop:=W (mB P 200000 d f as h) Q
def Fin(Q:ab->MH->Prop)(fl:Fl)(_:Λ)(h:MH):Prop:=Fl.Δ (motive:=λ_=>Prop) fl (Q .Ε h) False False λv=>Q v h
def Ap{f:θ}{fn:Fn}{as vs:ζ ab}(hf:P.kh f=Qa fn)(ha:vI fn as=Qa vs)(q:ck (ah P d) fn.TI (qY fn vs) h (Fin Q)):WF P (d+1) f as h Q:=by
 show W ((P.kh f).Η λf=>(vI f as).Η λvs=>bz (execs ⟨P,200000,mB P 200000 d⟩ f.TI (qY f vs) h) RQ) Q;rw[hf];show W ((vI fn as).Η λvs=>bz (execs ⟨P,200000,mB P 200000 d⟩ fn.TI (qY fn vs) h) RQ) Q;rw[ha];exact au (W.Τ q λp h1 q=>by
  obtain⟨fl,f2⟩:=p;cases fl with
  |nx=>exact⟨q⟩
  |bk=>exact q.ι
  |ct=>exact q.ι
  |rt v=>exact⟨q⟩)
def zdQ{K f:θ}{fn:Fn}{as vs:ζ ab}(hd:K+1<=d)(hf:P.kh f=Qa fn)(ha:vI fn as=Qa vs)(q:∀d',K<=d'->ck (ah P d') fn.TI (qY fn vs) h (Fin Q)):WF P d f as h Q:=by
 refine(Kx hd).ι λd' zq1=>?_;refine eqB zq1 ?_;exact Ap (d:=d'+K) hf ha (q _ (JC _ _))
end
def jH{h t:MH}{o:ae}(e:h[a]?=Qa o):(h++t)[a]?=Qa o:=by
 exact(Ks (Jy.mp e).1).ν (e)
def ap{h t:MH}{o:ae}:(h++o::t)[h.ε]?=Qa o:=by
 refine(Ko (Jv _)).ν ?_;rw[YS];rfl
def jZ{h:MH}{b:θ}{o x:ae}(ne:b≠a)(e:h[a]?=Qa o):(h.Ϫ b x)[a]?=Qa o:=by rw[J7 ne];exact e
theorem j4{h:MH}{o:ae}(e:h[a]?=Qa o):a<h.ε:=(Jy.mp e).1
theorem kM{h:MH}{o x:ae}(e:h[a]?=Qa o):(h.Ϫ a x)[a]?=Qa x:=J6 (j4 e)
def tI{h t:MH}{o x:ae}:(h++o::t).Ϫ h.ε x=h++x::t:=by
 rw[YV _ _ (Jv _),YS];rfl
variable{vs:List ab}
def oW{h:MH}(e:h[a]?=Qa (.ο vs)):kP h (.ξ a)=Qa vs:=by
 show (h[a]?).Η ae.Tl=_;rw[e];rfl
variable{es:List (ab×ab)}
def mT{h:MH}(e:h[a]?=Qa (.Υ ep es)):lN h (.ξ a)=Qa (ep,es):=by
 show (h[a]?).Η ae.dict?=_;rw[e];rfl
def M4{h:MH}(e:h[a]?=Qa (.ο vs)):lN h (.ξ a)=none:=by
 show (h[a]?).Η ae.dict?=_;rw[e];rfl
def sA{h:MH}(e:h[a]?=Qa (.Υ ep es)):kP h (.ξ a)=none:=by
 show (h[a]?).Η ae.Tl=_;rw[e];rfl
variable{fs:List (Nat×ab)}
def Hl{h:MH}{k:θ}(e:h[a]?=Qa (.Tt k fs)):cg h (.ξ a)=Qa (k,fs):=by
 show (h[a]?).Η ae.inst?=_;rw[e];rfl
section
variable{c:Cx}{fr:Frame}{h:MH}{P:gx}
def Oj{a b:ζ θ}(hl:a.ε+b.ε<=bg)(q:Q (.Ϥ (a++b)) h):WB .am (.Ϥ a) (.Ϥ b) h Q:=by
 show W (aw (ZD (a.ε+b.ε) bg) (Qa (ab.Ϥ (a++b),h))) Q;exact(Zn.ϥ hl)▸ ⟨q⟩
def MC{b:Ζ}{o:η α}(hb:b=Qe):aw b o=o:=by subst hb;rfl
def za5{a b:Φ}(hm:L9 a b=Qe)(q:Q (.Β (a*b)) h):WB .ss (.Β a) (.Β b) h Q:=by
 have e:L8 h (.Β a) (.Β b)=Qa (.Β (a*b),h):=by
  delta L8;simp only[ab.xz,qad,MC hm];rfl
 have e2:o7 .ss (.Β a) (.Β b) h=bj Qd (L8 h (.Β a) (.Β b)):=by
  delta o7;simp only[ab.xz,qad,HR,qaj]
 delta WB;rw[e2,e];exact⟨q⟩
def zbH(hn:n<=bg)(hl:l*n<=bg):LK l (n:Φ)=true:=by
 delta LK;rw[ZR,ZR];exact⟨⟨Γ (by lia),Γ (by lia)⟩,Zn.ϥ (by rw[KR];exact hl)⟩
def AQ{x:α}:(J5 n [x]).pt=J5 n x:=by
 induction n with
 |zero=>rfl
 |succ n ih=>rw[qaw,Ya,ih];rfl
def Au{x:ζ ab}(ha:h[a]?=Qa (.ο x))(hl:n<=bg)(hx:x.ε*n<=bg)(q:Q (.ξ h.ε) (h++[.ο (J5 n x).pt])):WB .ss (.ξ a) (.Β n) h Q:=by
 show W ((kP h (.ξ a)).Η λa=>(Qa (n:Φ)).Η λn=>aw (LK a.ε n) (mC h (.ο (J5 n.Th a).pt))) Q;rw[oW ha];exact Av (o:=mC h (.ο (J5 n x).pt)) (zbH hl hx) (lA q)
def Le{o:η Φ}{k:Φ}(e:o=Qa k)(q:Q (.Β k) h){o':η (ab×MH)}:W (bj (o.π λk=>(ab.Β k,h)) o') Q:=by subst e;exact⟨q⟩
def Oh{a b:Φ}(hb:b≠0)(hl:b.natAbs<jg)(q:Q (.Β (qan a b)) h):WB .fdiv (.Β a) (.Β b) h Q:=by
 refine Le (o:=HR .fdiv a b) ?_ q;show aw _ _=_;rw[show (b !=0 && ZD (b.natAbs+1) jg)=Qe by rw[ZR];exact⟨TQ.ϥ hb,Zn.ϥ hl⟩];rfl
def za6{a b:Φ}(hb:b≠0)(q:Q (.Β (Xs a b)) h):WB .mod (.Β a) (.Β b) h Q:=by
 refine Le (o:=HR .mod a b) ?_ q;show aw _ _=_;rw[TQ.ϥ hb];rfl
theorem U2{b:Ζ}{Q:Ζ->Prop}(q:Q b):WT (.ϯ b) h Q:=⟨q⟩
def DU(hi:i<n):pu n (.Β i)=Qa i:=by
 show aw _ _=_;simp only[Γ (show (0:Φ)<=(i:Φ) by exact K2 _),Γ (show (i:Φ)<(n:Φ) by lia),KR];rfl
theorem jR{vs:ζ α}{v:α}(hv:vs[i]?=Qa v):i<vs.ε:=(Jy.mp hv).1
def U4{a b:η α}{v:α}{Q:α->Prop}(e:a=Qa v)(q:Q v):Wo (bj a b) Q:=by subst e;exact⟨q⟩
def N7{v:ab}(ha:h[a]?=Qa (.ο vs))(hv:vs[i]?=Qa v)(q:Q v h):WI (.ξ a) (.Β i) h Q:=by
 refine U4 (a:=(kP h (.ξ a)).Η λvs=>(pu vs.ε (.Β i)).Η λk=>vs[k]?) ?_ q;rw[oW ha];show (pu vs.ε (.Β i)).Η _=_;exact(DU (jR hv))▸hv
def zdO{v:ab}(hv:vs[i]?=Qa v)(q:Q v h):WI (.fl vs) (.Β i) h Q:=by
 exact U4 (a:=(pu vs.ε (.Β i)).Η λk=>vs[k]?) ((DU (jR hv))▸hv) q
def N8{k v:ab}(ha:h[a]?=Qa (.Υ ep es))(hf:jT es k=Qe)(hv:jW es k=Qa v)(q:Q v h):WI (.ξ a) k h Q:=by
 show Wo (bj ((kP h (.ξ a)).Η _) ((lN h (.ξ a)).Η λd=>aw (jT d.2 k) (jW d.2 k))) _;rw[sA ha,mT ha];show Wo (aw (jT es k) (jW es k)) _;rw[hf,hv];exact⟨q⟩
def za7{k:θ}{v:ab}(ha:h[a]?=Qa (.Tt k fs))(hv:vG fs n=Qa v)(hf:P.cz k n=Qe)(q:Q v h):WA P (.ξ a) n h Q:=by
 refine U4 (a:=(cg h (.ξ a)).Η λq=>JG (motive:=λ_=>η ab) (vG q.2 n) (uV P q.1 n) λv=>aw (P.cz q.1 n) (Qa v)) ?_ q;rw[Hl ha];show JG (motive:=λ_=>η ab) (vG fs n) (uV P k n) (λv=>aw (P.cz k n) (Qa v))=_;rw[hv];rw[hf];rfl
def Dl{v:ab}(e:((P.cg a).Η λc=>uV P c n)=Qa v)(q:Q v h):WA P (.aj a) n h Q:=by
 show Wo ((P.cg a).Η λc=>uV P c n) _;exact e▸ ⟨q⟩
def Fp{k:θ}{v:ab}{Q:MH->Prop}(ha:h[a]?=Qa (.Tt k fs))(hf:P.cz k n=Qe)(hl:fs.ε<400)(q:Q (h.Ϫ a (.Tt k (WH fs n v)))):Wo (setAttr P h (.ξ a) n v) Q:=by
 show Wo ((h[a]?.Η ae.inst?).Η λq=>aw (P.cz q.1 n && ZD (q.2.ε+1) 400) (Qa (h.Ϫ a (.Tt q.1 (WH q.2 n v))))) Q;rw[ha];show Wo (aw (P.cz k n && ZD (fs.ε+1) 400) (Qa (h.Ϫ a (.Tt k (WH fs n v))))) Q;rw[hf,Zn.ϥ hl];exact⟨q⟩
def CO{v:ab}{Q:MH->Prop}(ha:h[a]?=Qa (.ο vs))(hi:i<vs.ε)(q:Q (h.Ϫ a (.ο (vs.Ϫ i v)))):Wo (mQ h (.ξ a) (.Β i) v) Q:=by
 refine U4 (a:=(h[a]?.Η ae.Tl).Η λvs=>(pu vs.ε (.Β i)).π λk=>h.Ϫ a (.ο (vs.Ϫ k v))) ?_ q;rw[ha];show (pu vs.ε (.Β i)).π _=_;rw[DU hi];rfl
def CQ{k v:ab}{Q:MH->Prop}(ha:h[a]?=Qa (.Υ ep es))(hf:jT es k=Qe)(hl:es.ε<bg)(q:Q (h.Ϫ a (.Υ (bif (jW es k).ϟ then ep else ep.π (· +1)) (nA es k v)))):Wo (mQ h (.ξ a) k v) Q:=by
 show Wo (bj ((h[a]?.Η ae.Tl).Η _) ((h[a]?.Η ae.dict?).Η λd=>aw (jT d.2 k && ZD (d.2.ε+1) bg) (Qa (h.Ϫ a (.Υ (bif (jW d.2 k).ϟ then d.1 else d.1.π (· +1)) (nA d.2 k v)))))) Q;rw[ha];show Wo (aw (jT es k && ZD (es.ε+1) bg) (Qa (h.Ϫ a (.Υ (bif (jW es k).ϟ then ep else ep.π (· +1)) (nA es k v))))) Q;rw[hf,Zn.ϥ hl];exact⟨q⟩
def mM{as:ζ ab}(hc:P.gb a=Qd)(q:WF P d a as h Q):WV (ah P d) (.aj a) as h Q:=by
 show W (bj (JG (motive:=λ_=>η (ab×MH)) (P.gb a) (mB P 200000 d a as h) λk=>Pp (ah P d) a k as h) _) Q;exact hc▸Lf (q:W (mB P 200000 d a as h) Q)
def BF{k:Cl}{as:ζ ab}(hc:P.gb a=Qa k)(hi:k.init=Qa i)(q:WF P d i (.ξ h.ε::as) (h++[.Tt a []]) λv h'=>v=.Ε/\Q (.ξ h.ε) h'):WV (ah P d) (.aj a) as h Q:=by
 show W (bj (JG (motive:=λ_=>η (ab×MH)) (P.gb a) (mB P 200000 d a as h) λk=>Pp (ah P d) a k as h) _) Q;rw[hc];refine Lf ?_;show W (k.init.Η λi=>bz (mB P 200000 d i (.ξ h.ε::as) (h++[.Tt a []])) λr h'=>aw r.re (Qa (.ξ h.ε,h'))) Q;rw[hi];exact au (f:=λr h'=>aw r.re (Qa (ab.ξ h.ε,h'))) (R:=Q) (W.Τ q λv h' q=>by rw[q.1];exact⟨q.2⟩)
def SE{as:ζ ab}{v:ab}{h':MH}(e:GT n as h=Qa (v,h'))(q:Q v h'):WV c (.bi n) as h Q:=by
 show W (bj (GT n as h) Qd) Q;exact e▸ ⟨q⟩
def BE{as:ζ ab}{v:ab}{h':MH}(e:GR n as h=Qa (v,h'))(q:Q v h'):WV c (.ty n) as h Q:=by
 show W (GR n as h) Q;exact e▸ ⟨q⟩
def Df{v:ab}(e:Mg h v=Qa n)(q:Q (.Β n) h):WV c (.bi uD) [v] h Q:=by
 refine SE (v:=.Β n) (h':=h) ?_ q;show bj ((Mg h v).π λ(k:θ)=>(ab.Β (k:Φ),h)) _=_;rw[e];rfl
def NU(ha:h[a]?=Qa (.ο vs))(q:Q (.ξ h.ε) (h++[.ο vs])):WV c (.ty LX) [.ξ a] h Q:=by
 refine BE (v:=.ξ h.ε) (h':=h++[.ο vs]) ?_ q;show bj ((kP h (.ξ a)).Η λvs=>mC h (.ο vs)) _=_;simp only[oW ha];rfl
theorem zaP{a b:Φ}(q:Q (.Β (if b>a then b else a)) h):WV c (.bi Pt) [.Β a,.Β b] h Q:=⟨q⟩
def zcH(ha:h[a]?=Qa (.ο vs)):Mg h (.ξ a)=Qa vs.ε:=by
 show bj ((kP h (.ξ a)).π (·.ε)) _=_;rw[oW ha];rfl
def zcI(ha:h[a]?=Qa (.Υ ep es)):Mg h (.ξ a)=Qa es.ε:=by
 show bj ((kP h (.ξ a)).π (·.ε)) ((lN h (.ξ a)).π (·.2.ε))=_;rw[sA ha,mT ha];rfl
def j9{o:ab}{f:θ}{self as:ζ ab}{h0:MH}(hg:mS P h0 o n=Qa (f,self))(q:WF P d f (self++as) h Q):WM (ah P d) o n as h0 h Q:=by
 show W (JG (motive:=λ_=>η (ab×MH)) (mS P h0 o n) (yQ o n as h0 h) λp=>mB P 200000 d p.1 (p.2++as) h) Q;exact hg▸(q:W (mB P 200000 d f (self++as) h) Q)
def lM{k f:θ}{h0:MH}(ha:h0[a]?=Qa (.Tt k fs))(hn:vG fs n=Qd)(hm:yK P k n=Qa f):mS P h0 (.ξ a) n=Qa (f,[.ξ a]):=by
 show ((cg h0 (.ξ a)).Η λq=>aw (vG q.2 n).re ((yK P q.1 n).π λf=>(f,[ab.ξ a])))=_;rw[Hl ha];show aw (vG fs n).re ((yK P k n).π λf=>(f,[ab.ξ a]))=_;rw[hn,hm];rfl
def SG{as:ζ ab}{h0:MH}(hi:cg h0 (.ξ a)=Qd)(q:W (yQ (.ξ a) n as h0 h) Q):WM c (.ξ a) n as h0 h Q:=by
 show W (JG (motive:=λ_=>η (ab×MH)) ((cg h0 (.ξ a)).Η _) (yQ (.ξ a) n as h0 h) λ(p:θ×ζ ab)=>c.bn p.1 (p.2++as) h) Q;exact hi▸q
def Mv(e:h[a]?=Qa (.ο vs)):cg h (.ξ a)=none:=by
 show (h[a]?).Η ae.inst?=_;rw[e];rfl
def Mw(e:h[a]?=Qa (.Υ ep es)):cg h (.ξ a)=none:=by
 show (h[a]?).Η ae.inst?=_;rw[e];rfl
def Ey{as us:ζ ab}{h0:MH}(h0a:h0[a]?=Qa (.ο us))(ha:h[a]?=Qa (.ο vs))(q:W (wG a vs n as h) Q):WM c (.ξ a) n as h0 h Q:=by
 refine SG (Mv h0a) ?_;show W (bj ((h0[a]?.Η ae.Tl).Η λ_=>(h[a]?.Η ae.Tl).Η λvs=>wG a vs n as h) _) Q;rw[h0a,ha];exact Lf q
theorem Up{us:ζ ab}{v:ab}{h0:MH}(h0a:h0[a]?=Qa (.ο us))(ha:h[a]?=Qa (.ο vs))(hl:vs.ε<bg)(q:Q .Ε (h.Ϫ a (.ο (vs++[v])))):WM c (.ξ a) fe [v] h0 h Q:=
 Ey h0a ha (Lf (Av (o:=Qa (ab.Ε,h.Ϫ a (.ο (vs++[v])))) (Zn.ϥ hl) (lA q)))
def zaW{us:ζ ab}{v:ab}{h0:MH}(h0a:h0[a]?=Qa (.ο us))(ha:h[a]?=Qa (.ο (vs++[v])))(q:Q v (h.Ϫ a (.ο vs))):WM c (.ξ a) ql [] h0 h Q:=by
 refine Ey h0a ha ?_;show W ((vs++[v]).getLast?.π λw=>(w,h.Ϫ a (.ο (vs++[v]).dropLast))) Q;rw[ζ.getLast?_concat,ζ.dropLast_concat];exact⟨q⟩
def Ez{as:ζ ab}{es0:ζ (ab×ab)}{h0:MH}(h0a:h0[a]?=Qa (.Υ ep0 es0))(ha:h[a]?=Qa (.Υ ep es))(q:W (wY es n as h) Q):WM c (.ξ a) n as h0 h Q:=by
 refine SG (Mw h0a) ?_;show W (bj ((h0[a]?.Η ae.Tl).Η _) ((h0[a]?.Η ae.dict?).Η λ_=>(h[a]?.Η ae.dict?).Η λd=>wY d.2 n as h)) Q;rw[h0a,ha];exact q
theorem BK{es0:ζ (ab×ab)}{k e:ab}{h0:MH}(h0a:h0[a]?=Qa (.Υ ep0 es0))(ha:h[a]?=Qa (.Υ ep es))(hf:jT es k=Qe)(q:Q ((jW es k).ϡ e) h):WM c (.ξ a) kg [k,e] h0 h Q:=
 Ez h0a ha (Av (o:=Qa ((jW es k).ϡ e,h)) hf (lA q))
theorem N6{es0:ζ (ab×ab)}{k:ab}{h0:MH}(h0a:h0[a]?=Qa (.Υ ep0 es0))(ha:h[a]?=Qa (.Υ ep es))(hf:jT es k=Qe)(q:Q ((jW es k).ϡ .Ε) h):WM c (.ξ a) kg [k] h0 h Q:=
 Ez h0a ha (Lf (Av (o:=Qa ((jW es k).ϡ .Ε,h)) hf (lA q)))
end
def Ah(I:Λ->MH->Prop)(R:Fl->Λ->MH->Prop)(fl:Fl)(fr:Λ)(h:MH):Prop:=Fl.Δ (motive:=λ_=>Prop) fl (I fr h) (R .nx fr h) (I fr h) λv=>R (.rt v) fr h
variable{R:Fl->Frame->MH->Prop}
section
variable{c:Cx}{fr:Frame}{h:MH}
def Ri{next:θ->MH->η (η ab)}{bd:Λ->ab->η Λ}{b:Λ->MH->SR}(n:θ)(I:θ->Λ->MH->Prop)
  (step:∀i,i<n->∀fr h,I i fr h->Wo (next i h) λov=>Wo ov λv=>Wo (bd fr v) λfr1=>W (b fr1 h) λp h'=>Ah (I (i+1)) R p.1 p.2 h')
  (stop:∀fr h,I n fr h->Wo (next n h) λov=>ov=Qd/\R .nx fr h):∀(m i fu:θ),i+m=n->m<fu->∀fr h,I i fr h->W (UE next bd b fu i fr h) λp h=>R p.1 p.2 h:=by
 intro m
 induction m with
 |zero=>
  intro i fu hi hf fr h I0;refine(Kx hf).ι λfu zq12=>?_;obtain rfl:=zq12;subst hi;have q:Wo (next i h) λov=>ov=Qd/\R .nx fr h:=stop fr h I0;exact vT (q.Τ λov q=>by obtain⟨rfl,q⟩:=q;exact⟨q⟩)
 |succ m ih=>
  intro i fu hi hf fr h I0;obtain⟨fu,rfl⟩:=Kx (Jw (JB _) hf);have q:=step i (Ju (ZP (Zr _)) (JF hi)) fr h I0;refine vT (q.Τ λov q=>?_);cases ov with
  |none=>exact q.w.ι
  |some v=>
   refine vT (Wo.Τ q.w λfr1 q=>au (W.Τ q λp h2 q=>?_));obtain⟨fl,f2⟩:=p;cases fl with
   |nx=>exact ih (i+1) _ (by lia) (Ka hf) f2 h2 q
   |ct=>exact ih (i+1) _ (by lia) (Ka hf) f2 h2 q
   |bk=>exact⟨q⟩
   |rt v=>exact⟨q⟩
def U3{e:Ex}{b:ζ Sm}
  (q:WE c fr e h λv h1=>∃k,∃xs:ζ ab,oZ h1 v=Qa k/\xs.ε<c.ba/\∃I:θ->Λ->MH->Prop,I 0 fr h1/\(∀i fr h,I i fr h->lP h i k=Qa xs[i]?)/\
   (∀i x,xs[i]?=Qa x->∀fr h,I i fr h->Wo (nW fr tg many x) λfr1=>ck c b fr1 h (Ah (I (i+1)) R))/\∀fr h,I xs.ε fr h->R .nx fr h):WS c (.fo tg many e b) fr h R:=by
 show W (bz (eval c e fr h) λv h1=>(oZ h1 v).Η λk=>UE (λi h=>lP h i k) (λfr v=>nW fr tg many v) (λfr h=>execs c b fr h) c.ba 0 fr h1) λp h=>R p.1 p.2 h;refine au (W.Τ q λv h1 q=>?_);refine q.ι λk zq8=>zq8.ι λxs zq9=>zq9.2.2.ι λI zq10=>?_;rw[zq9.1];refine Ri xs.ε I (λi hi fr h hI=>?_) (λfr h hI=>?_) xs.ε 0 c.ba (Zq _) zq9.2.1 fr h1 zq10.1
 ·simp only[zq10.2.1 i fr h hI,Jp hi]
  exact⟨⟨zq10.2.2.1 i _ (Jp hi) fr h hI⟩⟩
 ·rw[zq10.2.1 _ fr h hI,Z0 (Jv _)]
  exact⟨rfl,zq10.2.2.2 fr h hI⟩
def zI(ha:h[a]?=Qa (.ο vs)):oZ h (.ξ a)=Qa (.ls a):=by
 show bj Qd (bj (bj ((h[a]?.Η ae.Tl).π λ_=>It.ls a) _) _)=_;rw[ha];rfl
def zD(ha:h[a]?=Qa (.ο vs)):lP h i (.ls a)=Qa vs[i]?:=by
 show (h[a]?.Η ae.Tl).π _=_;rw[ha];rfl
def DS(hn:n<=bg):oZ h (.gq n)=Qa (.rg n):=by
 show bj (aw _ _) _=_;simp only[Γ (show (n:Φ)<=(bg:Φ) by lia),Γ (show-(bg:Φ)<=(n:Φ) by lia)];rfl
def Gp(n:θ):ζ ab:=(JX n).π λ(i:θ)=>ab.Β (i:Φ)
def nL:(Gp n).ε=n:=by unfold Gp;rw[Jq,Zg]
def AP(hi:i<n):(Gp n)[i]?=Qa (.Β i):=by
 unfold Gp;rw[JE,Kf hi];rfl
def Gn{x:ab}(hx:(Gp n)[i]?=Qa x):i<n/\x=.Β i:=by
 have hi:i<n:=by have:=jR hx;rwa [nL] at this
 rw[AP hi] at hx;exact⟨hi,(Qa.lf hx).Μ⟩
def DG(hi:i<=n):lP h i (.rg n)=Qa (Gp n)[i]?:=by
 show Qa (bif decide ((i:Φ)<(n:Φ)) then Qa (ab.Β i) else Qd)=_;by_cases hl:i<n
 ·rw[Γ (show (i:Φ)<(n:Φ) by lia),AP hl];rfl
 ·rw[Θ (show ¬(i:Φ)<(n:Φ) by lia),Z0 (by rw[nL];exact ZM hl)];rfl
theorem lI{v:ab}{Q:Λ->Prop}(q:Q (fr.Ϫ x (Qa v))):Wo (nW fr [x] Qc v) Q:=⟨q⟩
theorem NZ{e:Ex}{b:ζ Sm}(hn:vs.ε<c.ba)(I:θ->Λ->MH->Prop)
  (hk:∀i fr h,I i fr h->h[a]?=Qa (.ο vs)) (q:WE c fr e h λv h1=>v=.ξ a/\I 0 fr h1)
  (step:∀i v,vs[i]?=Qa v->∀fr h,I i fr h->ck c b (fr.Ϫ x (Qa v)) h (Ah (I (i+1)) R))
  (stop:∀fr h,I vs.ε fr h->R .nx fr h):WS c (.fo [x] Qc e b) fr h R:=
 U3 (W.Τ q λv h1 q=>by
  refine eqB q.1 ?_;exact⟨.ls a,vs,zI (hk _ _ _ q.2),hn,I,q.2,λi fr h hI=>zD (hk _ _ _ hI),λi x hx fr h hI=>lI (step i x hx fr h hI),stop⟩)
theorem NY{e:Ex}{b:ζ Sm}(hn:n<c.ba)(hl:n<=bg)(I:θ->Λ->MH->Prop)
  (q:WE c fr e h λv h1=>v=.gq n/\I 0 fr h1)
  (step:∀i,i<n->∀fr h,I i fr h->ck c b (fr.Ϫ x (Qa (.Β i))) h (Ah (I (i+1)) R))
  (stop:∀fr h,I n fr h->R .nx fr h):WS c (.fo [x] Qc e b) fr h R:=
 U3 (W.Τ q λv h1 q=>by
  obtain⟨rfl,I0⟩:=q;refine⟨.rg n,Gp n,DS hl,by rw[nL];exact hn,λi fr h=>i<=n/\I i fr h,⟨JB _,I0⟩,λi fr h hI=>DG hI.1,λi x hx fr h hI=>?_,λfr h hI=>stop fr h (nL (n:=n)▸hI.2)⟩;obtain⟨hi,rfl⟩:=Gn hx;refine lI (W.Τ (step i hi fr h hI.2) λp h' q=>?_);obtain⟨fl,f2⟩:=p;cases fl with
  |nx=>exact⟨hi,q⟩
  |ct=>exact⟨hi,q⟩
  |bk=>exact q
  |rt v=>exact q)
def Rh{cond:Λ->MH->η (Ζ×MH)}{b:Λ->MH->SR}(I:θ->Λ->MH->Prop)
  (step:∀k fr h,I k fr h->W (cond fr h) λr h1=>Br r (W (b fr h1) λp h'=>Ah (λfr h=>∃j,j<k/\I j fr h) R p.1 p.2 h') (R .nx fr h1)):∀(m k:θ),k<m->∀fr h,I k fr h->W (Wr cond b m fr h) λp h=>R p.1 p.2 h:=by
 intro m
 induction m with
 |zero=>exact λk hk=>ς hk (J9 _)
 |succ m ih=>
  intro k hk fr h I0;refine au (W.Τ (step k fr h I0) λr h1 q=>?_);cases r with
  |false=>exact⟨q.2 rfl⟩
  |true=>
   simp only[pi];refine au (W.Τ (q.1 rfl) λp h2 q=>?_);obtain⟨fl,f2⟩:=p;cases fl with
   |nx=>obtain⟨j,hj,q⟩:=q;exact ih j (Ju hj (JY hk)) f2 h2 q
   |ct=>obtain⟨j,hj,q⟩:=q;exact ih j (Ju hj (JY hk)) f2 h2 q
   |bk=>exact⟨q⟩
   |rt v=>exact⟨q⟩
def zdN{t:Ex}{b:ζ Sm}{k:θ}(I:θ->Λ->MH->Prop)(hk:k<c.ba)(I0:I k fr h)
  (step:∀k fr h,I k fr h->WE c fr t h λv h1=>WT v h1 λr=>Br r (ck c b fr h1 (Ah (λfr h=>∃j,j<k/\I j fr h) R)) (R .nx fr h1)):WS c (.wh t b) fr h R:=by
 exact Rh I (λk fr h hI=>rZ (step k fr h hI)) c.ba k hk fr h I0
def sk(c:Cx)(fr:Λ)(es:ζ Ex)(h:MH)(Q:Ζ->MH->Prop):Prop:=W (Hy c es fr h) Q
theorem vQ{Q:Ζ->MH->Prop}(q:Q Qe h):sk c fr [] h Q:=lA q
def Lb{Q:Ζ->MH->Prop}{e:Ex}{r:ζ Ex}(q:WE c fr e h λv h1=>WT v h1 λb=>Br b (sk c fr r h1 Q) (Q Qc h1)):sk c fr (e::r) h Q:=by
 exact au (rZ (W.Τ q λv h1 q=>Wo.Τ q λb q=>GU ⟨q.1,λh=>lA (q.2 h)⟩))
def D3{next:θ->MH->η (η ab)}{t:ab->MH->η (η Λ×MH)}{el:Λ->MH->η (ab×MH)}{R:MH->Prop}(n:θ)(I:θ->MH->Prop)
  (step:∀i,i<n->∀h,I i h->Wo (next i h) λov=>Wo ov λv=>W (t v h) λo h1=>(o=Qd->I (i+1) h1)/\∀fr,o=Qa fr->W (el fr h1) λx h2=>∃vs,h2[ac]?=Qa (.ο vs)/\vs.ε<bg/\I (i+1) (h2.Ϫ ac (.ο (vs++[x]))))
  (stop:∀h,I n h->Wo (next n h) λov=>ov=Qd/\R h):∀(m i fu:θ),i+m=n->m<fu->∀h,I i h->W (compLoop next t el ac fu i h) λ_ h=>R h:=by
 intro m
 induction m with
 |zero=>
  intro i fu hi hf h I0;refine(Kx hf).ι λfu zq6=>?_;obtain rfl:=zq6;subst hi;have q:Wo (next i h) λov=>ov=Qd/\R h:=stop h I0;exact vT (q.Τ λov q=>by obtain⟨rfl,q⟩:=q;exact⟨q⟩)
 |succ m ih=>
  intro i fu hi hf h I0;refine xE (Kx (Jw (JB _) hf)) λfu dw=>?_;subst dw;have q:=step i (Ju (ZP (Zr _)) (JF hi)) h I0;refine vT (q.Τ λov q=>?_);cases ov with
  |none=>exact q.w.ι
  |some v=>
   have q:W (t v h) λo h1=>(o=Qd->I (i+1) h1)/\∀fr,o=Qa fr->W (el fr h1) λx h2=>∃vs,h2[ac]?=Qa (.ο vs)/\vs.ε<bg/\I (i+1) (h2.Ϫ ac (.ο (vs++[x]))):=q.w;refine au (W.Τ q λo h1 q=>?_);cases o with
   |none=>exact ih (i+1) _ (by lia) (Ka hf) h1 (q.1 rfl)
   |some fr=>
    refine au (W.Τ (q.2 fr rfl) λx h2 q=>?_);refine xEAA q λvs e1 e2 q=>?_;rw[e1];show W (aw (ZD (vs.ε+1) bg) _) _;rw[Zn.ϥ e2];exact ih (i+1) _ (by lia) (Ka hf) _ q
def vS{ez it:Ex}{ifs:ζ Ex}
  (q:WE c fr it h λv h1=>∃k,∃xs:ζ ab,oZ h1 v=Qa k/\xs.ε<c.ba/\∃I:θ->MH->Prop,I 0 (h1++[.ο []])/\(∀i h,I i h->lP h i k=Qa xs[i]?)/\
   (∀i x,xs[i]?=Qa x->∀hh,I i hh->Wo (nW fr tg many x) λfr1=>sk c fr1 ifs hh λb h2=>Br b (WE c fr1 ez h2 λx h3=>∃vs,h3[h1.ε]?=Qa (.ο vs)/\vs.ε<bg/\I (i+1) (h3.Ϫ h1.ε (.ο (vs++[x])))) (I (i+1) h2))/\
   ∀hh,I xs.ε hh->Q (.ξ h1.ε) hh):WE c fr (.comp ez tg many it ifs) h Q:=by
 refine au (W.Τ q λv h1 q=>?_);refine q.ι λk zq1=>zq1.ι λxs zq2=>zq2.2.2.ι λI zq3=>?_;simp only[zq2.1];refine au (f:=λ_ h2=>Qa (ab.ξ h1.ε,h2)) ?_;refine W.Τ (Q:=λ_ h2=>Q (.ξ h1.ε) h2) ?_ λ_ _ q=>lA q;refine D3 (R:=λh2=>Q (.ξ h1.ε) h2) xs.ε I (λi hi hh hI=>?_) (λhh hI=>?_) xs.ε 0 c.ba (Zq _) zq2.2.1 _ zq3.1
 ·simp only[zq3.2.1 i hh hI,Jp hi]
  refine Ao (Ao (vT (Wo.Τ (zq3.2.2.1 i _ (Jp hi) hh hI) λfr1 q=>au (W.Τ q λb h2 q=>?_))));cases b with
  |true=>exact⟨nofun,λfr e=>by refine lV e ?_;exact q.1 rfl⟩
  |false=>exact⟨λ_=>q.2 rfl,nofun⟩
 ·rw[zq3.2.1 _ hh hI,Z0 (Jv _)]
  exact⟨rfl,zq3.2.2.2 hh hI⟩
theorem nC{r:ζ Sm}(q:ck c r fr h R):zb c r R .nx fr h:=q
variable{I:Frame->MH->Prop}
abbrev nn(k:θ):Λ:=J5 k Qd
end
section
variable{c:Cx}{fr:Frame}{h:MH}
def pJ{vs:ζ α}{p:α->Ζ}{v:α}(hv:vs[i]?=Qa v):(vs.na (i+1)).Ϩ p=(vs.na i).Ϩ p++(bif p v then[v] else[]):=by
 refine(Jy.mp hv).ι λhi zq1=>?_;refine eqE zq1 ?_;rw[Yd hi,Xx];cases hb:p vs[i] <;>simp [hb]
def BO{ez it:Ex}{ifs:ζ Ex}(a:θ)(vs:ζ ab)(p:ab->Ζ)(f:ab->ab)(hf:vs.ε<c.ba)(hl:vs.ε<=bg)
  (q:WE c fr it h λv h1=>v=.ξ a/\h1[a]?=Qa (.ο vs)/\
   (∀v,v∈vs->∀acc,sk c (fr.Ϫ x (Qa v)) ifs (h1++[.ο acc]) λb h2=>h2=h1++[.ο acc]/\b=p v/\(b=Qe->WE c (fr.Ϫ x (Qa v)) ez h2 λy h3=>h3=h2/\y=f v))/\Q (.ξ h1.ε) (h1++[.ο ((vs.Ϩ p).π f)])):WE c fr (.comp ez [x] Qc it ifs) h Q:=by
 refine vS (W.Τ q λv h1 q=>?_);refine eqB q.1 ?_;have h1a:=q.2.1;have st:=q.2.2.1;have q:=q.2.2.2;refine⟨.ls a,vs,zI h1a,hf,λi hh=>hh=h1++[.ο (((vs.na i).Ϩ p).π f)],rfl,?_,?_,?_⟩
 ·rintro i hh rfl;exact zD (jH h1a)
 ·rintro i v hv hh rfl
  refine lI (W.Τ (st v (Jt hv) _) λb h2 q=>?_);obtain rfl:=q.1;obtain rfl:=q.2.1;refine br (λhb=>W.Τ (q.2.2 hb) λy h3 q=>?_) λhb=>?_
  ·obtain⟨rfl,rfl⟩:=q
   refine⟨_,ap,?_,?_⟩
   ·rw[Jq]
    have h1:=Kh p (vs.na i);rw[KC] at h1
    have:=jR hv
    exact Jw h1 (Jw (KU _ _) (Ju this hl))
   ·rw[tI]
    show _=h1++[ae.ο (((vs.na (i+1)).Ϩ p).π f)];rw[(pJ (p:=p) hv),hb,JW];rfl
  ·show _=h1++[ae.ο (((vs.na (i+1)).Ϩ p).π f)]
   rw[(pJ (p:=p) hv),hb,bm,ZE]
 ·rintro hh rfl
  rw[Zj];exact q
end
section
variable{c:Cx}{fr:Frame}{h:MH}
def On{s t:ζ θ}:lz h (.Ϥ s) (.Ϥ t)=Qa (s==t):=by
 show Qa (Yw (.Ϥ ⟨s.υ⟩) (.Ϥ ⟨t.υ⟩))=_;have e:Yw (.Ϥ ⟨s.υ⟩) (.Ϥ ⟨t.υ⟩)=((⟨s.υ⟩:Ρ.ld)==⟨t.υ⟩):=rfl;rw[e];by_cases hs:s=t
 ·refine eqE hs ?_;simp
 ·rw[ϧ hs,ϧ]
  intro e
  apply hs
  injection e with e;injection e
def vU{a b:Φ}:lz h (.Β a) (.Β b)=Qa (a==b):=by
 rfl
theorem Am(ha:h[a]?=Qa (.ο vs))(q:Q (.Β vs.ε) h):WV c (.bi uD) [.ξ a] h Q:=Df (zcH ha) q
theorem An(ha:h[a]?=Qa (.Υ ep es))(q:Q (.Β es.ε) h):WV c (.bi uD) [.ξ a] h Q:=Df (zcI ha) q
end
section
variable{c:Cx}{fr:Frame}{h:MH}
def zU{ez it:Ex}(J:MH->ζ ab->MH->Prop)(hf:vs.ε<c.ba)(hl:vs.ε<=bg)
  (q:WE c fr it h λv h1=>v=.ξ a/\h1[a]?=Qa (.ο vs)/\J h1 [] []/\
   (∀ys t v,J h1 ys t->vs[ys.ε]?=Qa v->WE c (fr.Ϫ x (Qa v)) ez (h1++.ο ys::t) λy h3=>∃s,h3=h1++.ο ys::(t++s)/\J h1 (ys++[y]) (t++s))/\
   ∀ys t,ys.ε=vs.ε->J h1 ys t->Q (.ξ h1.ε) (h1++.ο ys::t)):WE c fr (.comp ez [x] Qc it []) h Q:=by
 refine vS (W.Τ q λv h1 q=>?_);obtain⟨rfl,h1a,j0,st,q⟩:=q;refine⟨.ls a,vs,zI h1a,hf,λi hh=>∃ys t,hh=h1++.ο ys::t/\ys.ε=i/\J h1 ys t,⟨[],[],rfl,rfl,j0⟩,?_,?_,?_⟩
 ·rintro i hh ⟨ys,t,rfl,_,_⟩;exact zD (jH h1a)
 ·rintro i v hv hh ⟨ys,t,rfl,rfl,hy⟩
  refine lI (vQ (zda (W.Τ (st ys t v hy hv) λy h3 q=>?_)));obtain⟨s,rfl,ht⟩:=q;exact⟨ys,ap,Ju (jR hv) hl,ys++[y],t++s,tI,by rw[Jx];rfl,ht⟩
 ·rintro hh ⟨ys,t,rfl,hl,hy⟩;exact q ys t hl hy
def nO(p:θ->Ζ)(n:θ):ζ θ:=(JX n).Ϩ p
def Uz{p:θ->Ζ}:nO p (n+1)=nO p n++(bif p n then[n] else[]):=by
 delta nO;simp only[YF,Xx];cases hb:p n<;>simp [hb]
def We{p:θ->Ζ}:(nO p n).ε<=n:=by
 have:=Kh p (JX n)
 rwa [Zg] at this
def ek(l:ζ θ):ζ ab:=l.π λ(k:θ)=>ab.Β (k:Φ)
def BQ{it:Ex}{ifs:ζ Ex}(p:θ->Ζ)(J:MH->Prop)(j0:J [])(hf:n<c.ba)(hl:n<=bg)
  (q:WE c fr it h λv h1=>v=.gq n/\(∀i,i<n->∀acc t,J t->sk c (fr.Ϫ x (Qa (.Β i))) ifs (h1++.ο acc::t) λb h2=>(∃s,J s/\h2=h1++.ο acc::s)/\b=p i)/\(∀i:θ,(fr.Ϫ x (Qa (.Β (i:Φ))))[x]?=Qa (Qa (.Β (i:Φ))))/\∀t,J t->Q (.ξ h1.ε) (h1++.ο (ek (nO p n))::t)):WE c fr (.comp (.Ο x) [x] Qc it ifs) h Q:=by
 refine vS (W.Τ q λv h1 q=>?_);obtain⟨rfl,st,hx,q⟩:=q;refine⟨.rg n,Gp n,DS hl,by rw[nL];exact hf,λi hh=>i<=n/\∃t,J t/\hh=h1++.ο (ek (nO p i))::t,⟨JB _,[],j0,rfl⟩,?_,?_,?_⟩
 ·rintro i hh ⟨hi,_⟩;exact DG hi
 ·rintro i v hv hh ⟨_,t,jt,rfl⟩
  obtain⟨hi,rfl⟩:=Gn hv;refine lI (W.Τ (st i hi _ t jt) λb h2 q=>?_);obtain⟨⟨s,js,rfl⟩,rfl⟩:=q;refine br (λhb=>u6 (hx i) ⟨_,ap,?_,hi,s,js,?_⟩) (λhb=>⟨hi,s,js,?_⟩)
  ·delta ek
   rw[Jq]
   have:=We (p:=p) (n:=i)
   exact Ju (Jw this hi) hl
  ·rw[tI,Uz,hb]
   delta ek;rw[JW];rfl
  ·rw[Uz,hb,bm,ZE]
 ·rintro hh ⟨_,t,jt,rfl⟩
  exact nL▸q t jt
theorem BR{it:Ex}{ifs:ζ Ex}(p:θ->Ζ)(hf:n<c.ba)(hl:n<=bg)
  (q:WE c fr it h λv h1=>v=.gq n/\(∀i,i<n->∀acc,sk c (fr.Ϫ x (Qa (.Β i))) ifs (h1++[.ο acc]) λb h2=>h2=h1++[.ο acc]/\b=p i)/\(∀i:θ,(fr.Ϫ x (Qa (.Β (i:Φ))))[x]?=Qa (Qa (.Β (i:Φ))))/\Q (.ξ h1.ε) (h1++[.ο (ek (nO p n))])):WE c fr (.comp (.Ο x) [x] Qc it ifs) h Q:=
 BQ p (· =[]) rfl hf hl (W.Τ q λv h1 q=>⟨q.1,λi hi acc t e=>by rw[e];exact W.Τ (q.2.1 i hi acc) λb h2 q=>⟨⟨[],rfl,q.1⟩,q.2⟩,q.2.2.1,λt e=>e▸q.2.2.2⟩)
end
section
variable{c:Cx}{fr:Frame}{h:MH}
structure pb(F:σ->Λ)(G:σ->MH)(P:σ->Prop)(fr:Λ)(h:MH):Prop where
 x:∃s,fr=F s/\h=G s/\P s
theorem pb.of{F:σ->Λ}{G:σ->MH}{P:σ->Prop}(s:σ)(hp:P s):pb F G P (F s) (G s):=⟨s,rfl,rfl,hp⟩
def To(F:σ->Λ)(G:σ->MH)(P:σ->Prop)(R R':Fl->Λ->MH->Prop):Prop:=(∀s,P s->R' .nx (F s) (G s))/\(∀s,P s->R' .ct (F s) (G s))/\(∀fr h,R .nx fr h->R' .bk fr h)/\∀v fr h,R (.rt v) fr h->R' (.rt v) fr h
section
variable{F:σ->Frame}{G:σ->MH}{P:σ->Prop}{R R':Fl->Frame->MH->Prop}(ψ:To F G P R R')
def To.nx:=@ψ.1
def To.ct:=@ψ.2.1
end
theorem Ay{F:σ->Λ}{G:σ->MH}{P:σ->Prop}:To F G P R (Ah (pb F G P) R):=⟨λs hp=>pb.of s hp,λs hp=>pb.of s hp,λ_ _ h=>h,λ_ _ _ h=>h⟩
theorem rY{e:Ex}{b:ζ Sm}(F:σ->Λ)(G:σ->MH)(P:θ->σ->Prop)(hn:vs.ε<c.ba)(s0:σ)
  (hk:∀i s,P i s->(G s)[a]?=Qa (.ο vs)) (q:WE c fr e h λv h1=>v=.ξ a/\fr=F s0/\h1=G s0/\P 0 s0)
  (step:∀i v s R',vs[i]?=Qa v->P i s->To F G (P (i+1)) R R'->Wo (nW (F s) tg many v) λfr1=>ck c b fr1 (G s) R')
  (stop:∀s,P vs.ε s->R .nx (F s) (G s)):WS c (.fo tg many e b) fr h R:=
 U3 (W.Τ q λv h1 q=>by
  refine eqB q.1 ?_;refine eqB q.2.1 ?_;refine eqB q.2.2.1 ?_;refine⟨.ls a,vs,zI (hk _ _ q.2.2.2),hn,λi=>pb F G (P i),pb.of s0 q.2.2.2,λi fr h hI=>?_,λi x hx fr h hI=>?_,λfr h hI=>?_⟩
  ·obtain⟨s,rfl,rfl,hp⟩:=hI.x
   exact zD (hk i s hp)
  ·refine hI.x.ι λs zq5=>?_
   refine eqB zq5.1 ?_;refine eqB zq5.2.1 ?_;exact step i x s _ hx zq5.2.2 Ay
  ·obtain⟨s,rfl,rfl,hp⟩:=hI.x
   exact stop s hp)
theorem BI{e:Ex}{b:ζ Sm}(F:σ->Λ)(G:σ->MH)(P:θ->σ->Prop)(hn:n<c.ba)(hl:n<=bg)(s0:σ)
  (q:WE c fr e h λv h1=>v=.gq n/\fr=F s0/\h1=G s0/\P 0 s0)
  (step:∀i s R',i<n->P i s->To F G (P (i+1)) R R'->ck c b ((F s).Ϫ x (Qa (.Β i))) (G s) R')
  (stop:∀s,P n s->R .nx (F s) (G s)):WS c (.fo [x] Qc e b) fr h R:=
 NY hn hl (λi=>pb F G (P i)) (W.Τ q λv h1 q=>⟨q.1,by rw[q.2.1,q.2.2.1];exact pb.of s0 q.2.2.2⟩) (λi hi fr h hI=>by
  obtain⟨s,rfl,rfl,hp⟩:=hI.x;exact step i s _ hi hp Ay) λfr h hI=>by
  obtain⟨s,rfl,rfl,hp⟩:=hI.x;exact stop s hp
def zaS{t:Ex}{b:ζ Sm}{k:θ}(F:σ->Λ)(G:σ->MH)(P:θ->σ->Prop)(hk:k<c.ba)(s0:σ)(e1:fr=F s0)(e2:h=G s0)(I0:P k s0)
  (step:∀k s R',P k s->To F G (λs=>∃j,j<k/\P j s) R R'->WE c (F s) t (G s) λv h1=>WT v h1 λr=>Br r (ck c b (F s) h1 R') (R .nx (F s) h1)):WS c (.wh t b) fr h R:=by
 subst e1;subst e2;refine zdN (λk=>pb F G (P k)) hk (pb.of s0 I0) λk fr h hI=>?_;refine hI.x.ι λs zq1=>?_;refine eqB zq1.1 ?_;refine eqB zq1.2.1 ?_;have hp:=zq1.2.2;exact step k s _ hp ⟨λs hp=>⟨hp.choose,hp.choose_spec.1,pb.of s hp.choose_spec.2⟩,λs hp=>⟨hp.choose,hp.choose_spec.1,pb.of s hp.choose_spec.2⟩,λ_ _ h=>h,λ_ _ _ h=>h⟩
end
set_option genCtorIdx false in
inductive Hs where
 |Ϝ
 |c(t:Hs)
 |v(v:ab)(t:Hs)
 |p(v:ab)(h:MH)(t:Hs)
 |h(h:MH)(t:Hs)
 |b(b:Ζ)(t:Hs)
 |br(x y:Hs)
 |s(fl:Fl)(fr:Λ)(h:MH)(t:Hs)
 |l(vs:ζ ab)(t:Hs)
structure j8{α:Type}(a:α):Prop where
 f:False
def qi{α:Type}(o:η α)(k:α->Prop):Prop:=JG (motive:=λ_=>Prop) o (j8 o) k
section
variable{α:Type}(o:Option α)(hs:Hs)
def Sl(o:η ab)(hs:Hs)(k:ab->Hs->Prop):Prop:=
 Hs.Δ (motive:=λ_=>Prop) hs (j8 o) (λt=>qi o λv=>k v t) (λv t=>o=Qa v/\k v t) (λ_ _ _=>j8 o) (λ_ _=>j8 o) (λ_ _=>j8 o) (λ_ _=>j8 o) (λ_ _ _ _=>j8 o) (λ_ _=>j8 o)
def HQ(o:η (ab×MH))(hs:Hs)(k:ab->MH->Hs->Prop):Prop:=
 Hs.Δ (motive:=λ_=>Prop) hs (j8 o) (λt=>qi o λv=>k v.1 v.2 t) (λ_ _=>j8 o) (λv h t=>o=Qa (v,h)/\k v h t) (λ_ _=>j8 o) (λ_ _=>j8 o) (λ_ _=>j8 o) (λ_ _ _ _=>j8 o) (λ_ _=>j8 o)
def So(o:η MH)(hs:Hs)(k:MH->Hs->Prop):Prop:=
 Hs.Δ (motive:=λ_=>Prop) hs (j8 o) (λt=>qi o λv=>k v t) (λ_ _=>j8 o) (λ_ _ _=>j8 o) (λh t=>o=Qa h/\k h t) (λ_ _=>j8 o) (λ_ _=>j8 o) (λ_ _ _ _=>j8 o) (λ_ _=>j8 o)
def Ae(o:η Ζ)(hs:Hs)(k:Ζ->Hs->Prop):Prop:=
 Hs.Δ (motive:=λ_=>Prop) hs (j8 o) (λt=>qi o λv=>k v t) (λ_ _=>j8 o) (λ_ _ _=>j8 o) (λ_ _=>j8 o) (λb t=>o=Qa b/\k b t) (λx y=>qi o λr=>(r=Qe->k Qe x)/\(r=Qc->k Qc y)) (λ_ _ _ _=>j8 o) (λ_ _=>j8 o)
def Sn(o:SR)(hs:Hs)(k:Fl->Λ->MH->Hs->Prop):Prop:=
 Hs.Δ (motive:=λ_=>Prop) hs (j8 o) (λt=>qi o λv=>k v.1.1 v.1.2 v.2 t) (λ_ _=>j8 o) (λ_ _ _=>j8 o) (λ_ _=>j8 o) (λ_ _=>j8 o) (λ_ _=>j8 o) (λfl fr h t=>o=Qa ((fl,fr),h)/\k fl fr h t) (λ_ _=>j8 o)
def zfS(o:η (ζ ab))(hs:Hs)(k:ζ ab->Hs->Prop):Prop:=
 Hs.Δ (motive:=λ_=>Prop) hs (j8 o) (λt=>qi o λv=>k v t) (λ_ _=>j8 o) (λ_ _ _=>j8 o) (λ_ _=>j8 o) (λ_ _=>j8 o) (λ_ _=>j8 o) (λ_ _ _ _=>j8 o) (λvs t=>o=Qa vs/\k vs t)
end
def uP{o:η α}{k:α->Prop}(q:qi o k):∃v,o=Qa v/\k v:=by
 cases o with
 |none=>exact q.f.ι
 |some v=>exact⟨v,rfl,q⟩
variable{hs:Hs}
def zdf{o:η ab}{k:ab->Hs->Prop}(q:Sl o hs k):∃v t,o=Qa v/\k v t:=by
 cases hs with
 |c t=>exact(uP q).ι λv q=>⟨v,t,q⟩
 |v v t=>exact⟨v,t,q⟩
 |_=>exact q.f.ι
variable{o:Option (ab×MH)}
def zdh{k:ab->MH->Hs->Prop}(q:HQ o hs k):∃v h t,o=Qa (v,h)/\k v h t:=by
 cases hs with
 |c t=>exact(uP q).ι λv q=>⟨v.1,v.2,t,q⟩
 |p v h t=>exact⟨v,h,t,q⟩
 |_=>exact q.f.ι
def zdj{o:η MH}{k:MH->Hs->Prop}(q:So o hs k):∃h t,o=Qa h/\k h t:=by
 cases hs with
 |c t=>exact(uP q).ι λv q=>⟨v,t,q⟩
 |h h t=>exact⟨h,t,q⟩
 |_=>exact q.f.ι
def zdk{o:η Ζ}{k:Ζ->Hs->Prop}(q:Ae o hs k):∃b t,o=Qa b/\k b t:=by
 cases hs with
 |c t=>exact(uP q).ι λv q=>⟨v,t,q⟩
 |b b t=>exact⟨b,t,q⟩
 |br x y=>
  refine(uP q).ι λr q=>⟨r,cond r x y,q.1,?_⟩;cases r with
  |true=>exact q.2.1 rfl
  |false=>exact q.2.2 rfl
 |_=>exact q.f.ι
def zdg{o:SR}{k:Fl->Λ->MH->Hs->Prop}(q:Sn o hs k):∃fl fr h t,o=Qa ((fl,fr),h)/\k fl fr h t:=by
 cases hs with
 |c t=>exact(uP q).ι λv q=>⟨v.1.1,v.1.2,v.2,t,q⟩
 |s fl fr h t=>exact⟨fl,fr,h,t,q⟩
 |_=>exact q.f.ι
def zdi{o:η (ζ ab)}{k:ζ ab->Hs->Prop}(q:zfS o hs k):∃vs t,o=Qa vs/\k vs t:=by
 cases hs with
 |c t=>exact(uP q).ι λv q=>⟨v,t,q⟩
 |l vs t=>exact⟨vs,t,q⟩
 |_=>exact q.f.ι
mutual
noncomputable def lK (c:Cx):Ex->Frame->MH->Hs->(ab->MH->Hs->Prop)->Prop
 | .var x,fr,h,hs,K=>qi fr[x]? λo=>qi o λv=>K v h hs
 | .lit v,_,h,hs,K=>K v h hs
 | .list es,fr,h,hs,K=>sP c es fr h hs λvs h1 hs=>K (.ref h1.length) (h1++[.list vs]) hs
 | .ay es,fr,h,hs,K=>sP c es fr h hs λvs h1 hs=>K (.ay vs) h1 hs
 | .dict es,fr,h,hs,K=>sP c es fr h hs λl h1 hs=>HQ ((x5 l []).bind λps=>aw (ZD es.length 30) (mC h1 (.dict (Qa ps.length) ps))) hs K
 | .fq op a b,fr,h,hs,K=>lK c a fr h hs λx h1 hs=>lK c b fr h1 hs λy h2 hs=>HQ (o7 op x y h2) hs K
 | .not a,fr,h,hs,K=>lK c a fr h hs λx h1 hs=>Ae (truthy h1 x) hs λb hs=>K (.bool (!b)) h1 hs
 | .gm op a b,fr,h,hs,K=>lK c a fr h hs λx h1 hs=>lK c b fr h1 hs λy h2 hs=>Ae (mX op x y h2) hs λr hs=>K (.bool r) h2 hs
 | .qa stop es,fr,h,hs,K=>DW c stop es fr h hs K
 | .ite t a b,fr,h,hs,K=>lK c t fr h hs λx h1 hs=>Ae (truthy h1 x) hs λr hs=>bif r then lK c a fr h1 hs K else lK c b fr h1 hs K
 | .aq e n,fr,h,hs,K=>lK c e fr h hs λo h1 hs=>Sl (getAttr c.P h1 o n) hs λv hs=>K v h1 hs
 | .sub e i,fr,h,hs,K=>lK c e fr h hs λo h1 hs=>lK c i fr h1 hs λk h2 hs=>Sl (kR h2 o k) hs λv hs=>K v h2 hs
 | .slice e k bs,fr,h,hs,K=>lK c e fr h hs λo h1 hs=>sP c bs fr h1 hs λvs h2 hs=>HQ (slice h2 o k vs) hs K
 | .call f as,fr,h,hs,K=>lK c f fr h hs λg h1 hs=>sP c as fr h1 hs λvs h2 hs=>HQ (jO c g vs h2) hs K
 | .bc o n as,fr,h,hs,K=>lK c o fr h hs λg h1 hs=>sP c as fr h1 hs λvs h2 hs=>HQ (kI c g n vs h1 h2) hs K
 | .comp ez tg many it ifs,fr,h,hs,K=>HQ (eval c (.comp ez tg many it ifs) fr h) hs K
noncomputable def sP (c:Cx):List Ex->Frame->MH->Hs->(List ab->MH->Hs->Prop)->Prop
 | [],_,h,hs,K=>K [] h hs
 |e::r,fr,h,hs,K=>lK c e fr h hs λv h1 hs=>sP c r fr h1 hs λvs h2 hs=>K (v::vs) h2 hs
noncomputable def DW (c:Cx) (stop:Bool):List Ex->Frame->MH->Hs->(ab->MH->Hs->Prop)->Prop
 | [],_,_,_,_=>False
 |e::r,fr,h,hs,K=>lK c e fr h hs λv h1 hs=>bif r.isEmpty then K v h1 hs else Ae (truthy h1 v) hs λb hs=>bif b==stop then K v h1 hs else DW c stop r fr h1 hs K
end
def Dq(c:Cx)(fr:Λ)(h:MH)(v:ab)(hs:Hs)(K:Λ->MH->Hs->Prop):T1->Prop
 | .nm x=>K (fr.Ϫ x (Qa v)) h hs
 | .at o n=>lK c o fr h hs λov h1 hs=>So (setAttr c.P h1 ov n v) hs λh2 hs=>K fr h2 hs
 | .sb o i=>lK c o fr h hs λov h1 hs=>lK c i fr h1 hs λiv h2 hs=>So (mQ h2 ov iv v) hs λh3 hs=>K fr h3 hs
def Gb(c:Cx):ζ T1->ζ ab->Λ->MH->Hs->(Λ->MH->Hs->Prop)->Prop
 | [],vs,fr,h,hs,K=>bif vs.be then K fr h hs else False
 |t::ts,vs,fr,h,hs,K=>qi vs.head? λv=>Dq c fr h v hs (λfr' h' hs=>Gb c ts vs.pc fr' h' hs K) t
mutual
noncomputable def zas (c:Cx):Sm->Frame->MH->Hs->(Fl->Frame->MH->Hs->Prop)->Prop
 | .expr e,fr,h,hs,K=>lK c e fr h hs λ_ h1 hs=>K .nx fr h1 hs
 | .ft t e,fr,h,hs,K=>lK c e fr h hs λv h1 hs=>Dq c fr h1 v hs (λfr' h2 hs=>K .nx fr' h2 hs) t
 | .ju ts e,fr,h,hs,K=>lK c e fr h hs λv h1 hs=>zfS (items h1 v) hs λvs hs=>Gb c ts vs fr h1 hs λfr' h2 hs=>K .nx fr' h2 hs
 | .ret e,fr,h,hs,K=>lK c e fr h hs λv h1 hs=>K (.rt v) fr h1 hs
 | .ite t a b,fr,h,hs,K=>lK c t fr h hs λx h1 hs=>Ae (truthy h1 x) hs λr hs=>bif r then W4 c a fr h1 hs K else W4 c b fr h1 hs K
 | .wh t b,fr,h,hs,K=>Sn (exec c (.wh t b) fr h) hs K
 | .fo tg many e b,fr,h,hs,K=>Sn (exec c (.fo tg many e b) fr h) hs K
 | .brk,fr,h,hs,K=>K .bk fr h hs
 | .cont,fr,h,hs,K=>K .ct fr h hs
 | .rz,fr,h,hs,K=>K .nx fr h hs
 | .gu,_,_,_,_=>False
 | .bJ _,_,_,_,_=>False
 | .tr _ _ _ _,_,_,_,_=>False
noncomputable def W4 (c:Cx):List Sm->Frame->MH->Hs->(Fl->Frame->MH->Hs->Prop)->Prop
 | [],fr,h,hs,K=>K .nx fr h hs
 |s::r,fr,h,hs,K=>zas c s fr h hs λfl fr1 h1 hs=>Fl.casesOn (motive:=λ_=>Prop) fl (W4 c r fr1 h1 hs K) (K fl fr1 h1 hs) (K fl fr1 h1 hs) (λ_=>K fl fr1 h1 hs)
end
abbrev Ev{α:Type}(K:α->MH->Hs->Prop)(v:α)(h:MH):Prop:=∃t,K v h t
theorem yD{k:ab->MH->Hs->Prop}(q:HQ o hs k):W o (Ev k):=let ⟨_,_,t,e,q⟩:=zdh q; .of e ⟨t,q⟩
theorem Nm{o:η ab}{k:ab->Hs->Prop}(q:Sl o hs k):Wo o λv=>∃t,k v t:=let ⟨_,t,e,q⟩:=zdf q; .of e ⟨t,q⟩
theorem Np{o:η MH}{k:MH->Hs->Prop}(q:So o hs k):Wo o λv=>∃t,k v t:=let ⟨_,t,e,q⟩:=zdj q; .of e ⟨t,q⟩
theorem Vn{o:η Ζ}{k:Ζ->Hs->Prop}(q:Ae o hs k):Wo o λv=>∃t,k v t:=let ⟨_,t,e,q⟩:=zdk q; .of e ⟨t,q⟩
def zdb(a:A->A')(b:B->B')(q:cond r A B):Br r A' B':=by
 cases r with
 |true=>exact zda (a q)
 |false=>exact ziZ (b q)
structure HE(c:Cx)(e:Ex):Prop where
 o:∀{fr h hs K},lK c e fr h hs K->W (eval c e fr h) (Ev K)
def jE(c:Cx)(es:ζ Ex):Prop:=(∀{fr h hs K},sP c es fr h hs K->W (qC c es fr h) (Ev K))/\∀{stop fr h hs K},DW c stop es fr h hs K->WE c fr (.qa stop es) h (Ev K)
section
variable{c:Cx}{es:List Ex}(ψ:jE c es)
def jE.o:=@ψ.1
def jE.b:=@ψ.2
end
section
variable{c:Cx}
def oK(e:Ex):HE c e:=by
 refine Ex.rec (ϣ:=HE c) (motive_2:=jE c) ?_ ?_ ?_ ?_ ?_ ?_ ?_ ?_ ?_ ?_ ?_ ?_ ?_ ?_ ?_ ?_ ?_ ?_ e
 ·exact λx=>⟨λq=>let ⟨o,e1,q⟩:=uP q;let ⟨v,e2,q⟩:=uP q;u6 (e1.ν (ω Qa e2)) ⟨_,q⟩⟩
 ·exact λv=>⟨λq=>za0 ⟨_,q⟩⟩
 ·exact λes i=>⟨λq=>As ((i.o q).Τ λ_ _ q=>q)⟩
 ·exact λes i=>⟨λq=>zaX ((i.o q).Τ λ_ _ q=>q)⟩
 ·exact λes i=>⟨λq=>au ((i.o q).Τ λ_ _ q=>q.ι λ_ q=>yD q)⟩
 ·exact λop a b i j=>⟨λq=>za4 ((i.o q).Τ λ_ _ q=>q.ι λ_ q=>(j.o q).Τ λ_ _ q=>q.ι λ_ q=>yD q)⟩
 ·exact λa i=>⟨λq=>zaZ ((i.o q).Τ λ_ _ q=>q.ι λ_ q=>Vn q)⟩
 ·exact λop a b i j=>⟨λq=>za2 ((i.o q).Τ λ_ _ q=>q.ι λ_ q=>(j.o q).Τ λ_ _ q=>q.ι λ_ q=>Vn q)⟩
 ·exact λst es i=>⟨λq=>i.b q⟩
 ·exact λt a b i j k=>⟨λq=>za1 ((i.o q).Τ λ_ _ q=>q.ι λ_ q=>(Vn q).Τ λr q=>q.ι λ_ q=>zdb j.o k.o q)⟩
 ·exact λa n i=>⟨λq=>Oc ((i.o q).Τ λ_ _ q=>q.ι λ_ q=>Nm q)⟩
 ·exact λa b i j=>⟨λq=>zaY ((i.o q).Τ λ_ _ q=>q.ι λ_ q=>(j.o q).Τ λ_ _ q=>q.ι λ_ q=>Nm q)⟩
 ·exact λa k bs i j=>⟨λq=>BM ((i.o q).Τ λ_ _ q=>q.ι λ_ q=>(j.o q).Τ λ_ _ q=>q.ι λ_ q=>yD q)⟩
 ·exact λf as i j=>⟨λq=>Oa ((i.o q).Τ λ_ _ q=>q.ι λ_ q=>(j.o q).Τ λ_ _ q=>q.ι λ_ q=>yD q)⟩
 ·exact λo n as i j=>⟨λq=>N9 ((i.o q).Τ λ_ _ q=>q.ι λ_ q=>(j.o q).Τ λ_ _ q=>q.ι λ_ q=>yD q)⟩
 ·exact λez tg many it ifs _ _ _=>⟨λq=>yD q⟩
 ·exact⟨λq=>Aq ⟨_,q⟩,λq=>q.ι⟩
 ·refine λe r i j=>⟨λq=>BL ((i.o q).Τ λ_ _ q=>q.ι λ_ q=>(j.o q).Τ λ_ _ q=>q),λ{st fr h hs K} q=>?_⟩
  cases r with
  |Ϝ=>exact Ob (i.o q)
  |Ι f r=>exact za3 ((i.o q).Τ λ_ _ q=>q.ι λ_ q=>(Vn q).Τ λb q=>q.ι λ_ q=>zdb (λq=>⟨_,q⟩) j.b q)
def Ll{fr:Λ}{h:MH}{v:ab}{K:Λ->MH->Hs->Prop}{t:T1}(q:Dq c fr h v hs K t):W (Lm c fr h v t) (Ev K):=by
 cases t with
 |nm x=>exact lA (a:=fr.Ϫ x (Qa v)) ⟨_,q⟩
 | «at» o n=>
  show W (bz (eval c o fr h) λov h1=>(setAttr c.P h1 ov n v).π λh2=>(fr,h2)) _;exact au (((oK o).o q).Τ λov h1 q=>q.ι λ_ q=>Uq (f:=λh2=>(fr,h2)) (Np q))
 |sb o i=>
  show W (bz (eval c o fr h) λov h1=>bz (eval c i fr h1) λiv h2=>(mQ h2 ov iv v).π λh3=>(fr,h3)) _;exact au (((oK o).o q).Τ λov h1 q=>q.ι λ_ q=>au (((oK i).o q).Τ λiv h2 q=>q.ι λ_ q=>Uq (f:=λh2=>(fr,h2)) (Np q)))
def EZ:∀{vs:ζ ab}{fr:Λ}{h:MH}{hs:Hs}{K:Λ->MH->Hs->Prop}(q:Gb c ts vs fr h hs K),fB c ts vs fr h (Ev K):=by
 induction ts with
 |Ϝ=>
  intro vs fr h hs K q;cases vs with
  |Ϝ=>exact lA (a:=fr) ⟨_,q⟩
  |Ι _ _=>exact q.ι
 |Ι t ts i=>
  intro vs fr h hs K q;refine(uP q).ι λv zq2=>?_;have q:=zq2.2;exact vT (Wo.of zq2.1 (au ((Ll q).Τ λ_ _ q=>q.ι λ_ q=>i q)))
abbrev Ex'(K:Fl->Λ->MH->Hs->Prop)(fl:Fl)(fr:Λ)(h:MH):Prop:=∃t,K fl fr h t
structure HX(c:Cx)(s:Sm):Prop where
 o:∀{fr h hs K},zas c s fr h hs K->WS c s fr h (Ex' K)
structure fJ(c:Cx)(s:ζ Sm):Prop where
 o:∀{fr h hs K},W4 c s fr h hs K->ck c s fr h (Ex' K)
theorem Nn{o:SR}{k:Fl->Λ->MH->Hs->Prop}(q:Sn o hs k):W o λp h=>Ex' k p.1 p.2 h:=let ⟨_,_,_,t,e,q⟩:=zdg q; .of e ⟨t,q⟩
def N5{t:T1}{e:Ex}{fr:Λ}{h:MH}(q:WE c fr e h λv h1=>W (Lm c fr h1 v t) λf2 h2=>R .nx f2 h2):WS c (.ft t e) fr h R:=by
 exact au (W.Τ q λv h1 q=>au (W.Τ q λ_ _ q=>⟨q⟩))
def MS(s:ζ Sm):fJ c s:=by
 refine Sm.rec_1 (ϣ:=HX c) (motive_2:=fJ c) ?_ ?_ ?_ ?_ ?_ ?_ ?_ ?_ ?_ ?_ ?_ ?_ ?_ ?_ ?_ s
 ·exact λe=>⟨λq=>N0 ((oK e).o q)⟩
 ·exact λt e=>⟨λq=>N5 (((oK e).o q).Τ λ_ _ q=>q.ι λ_ q=>Ll q)⟩
 ·exact λts e=>⟨λq=>N4 (((oK e).o q).Τ λ_ _ q=>q.ι λ_ q=>let ⟨_,_,e2,q⟩:=zdi q; .of e2 (EZ q))⟩
 ·exact λe=>⟨λq=>zaT ((oK e).o q)⟩
 ·exact λt a b j k=>⟨λq=>zaU (((oK t).o q).Τ λ_ _ q=>q.ι λ_ q=>(Vn q).Τ λr q=>q.ι λ_ q=>zdb j.o k.o q)⟩
 ·exact λt b _=>⟨λq=>Nn q⟩
 ·exact λtg many e b _=>⟨λq=>Nn q⟩
 ·exact⟨λq=>zaV ⟨_,q⟩⟩
 ·exact⟨λq=>N3 ⟨_,q⟩⟩
 ·exact⟨λq=>NX ⟨_,q⟩⟩
 ·exact⟨λq=>q.ι⟩
 ·exact λ_=>⟨λq=>q.ι⟩
 ·exact λ_ _ _ _=>⟨λq=>q.ι⟩
 ·exact⟨λq=>NW ⟨_,q⟩⟩
 ·exact λs r i j=>⟨λq=>BG ((i.o q).Τ λp _ q=>by
   obtain⟨fl,fr⟩:=p;obtain⟨t,q⟩:=q;cases fl with
   |nx=>exact j.o q
   |bk=>exact⟨_,q⟩
   |ct=>exact⟨_,q⟩
   |rt v=>exact⟨_,q⟩)⟩
end
structure S(h:MH)(hs:Hs)(p:Prop):Prop where
 o:p
variable{g g':MH}{ht:Hs}
theorem S.z(f:pr):S g .Ϝ pr:=⟨f⟩
theorem S.at(g':MH)(r:S g' hs pr):S g hs pr:=⟨r.o⟩
theorem S.c(r:S g hs pr):S g (.c hs) pr:=⟨r.o⟩
theorem S.c2(r:S g hs pr):S g (.c (.c hs)) pr:=⟨r.o⟩
theorem S.c3(r:S g hs pr):S g (.c (.c (.c hs))) pr:=⟨r.o⟩
theorem S.c4(r:S g hs pr):S g (.c (.c (.c (.c hs)))) pr:=⟨r.o⟩
theorem S.v{o:η ab}{v:ab}(f:o=Qa v)(r:S g hs pr):S g (.v v hs) (o=Qa v/\pr):=⟨f,r.o⟩
theorem S.w{o:MH->η ab}{v:ab}(f:∀h,o h=Qa v)(r:S g hs pr):S g (.v v hs) (o g=Qa v/\pr):=⟨f g,r.o⟩
theorem S.p{v:ab}(f:o=Qa (v,g'))(r:S g' hs pr):S g (.p v g' hs) (o=Qa (v,g')/\pr):=⟨f,r.o⟩
theorem S.q{o:MH->η (ab×MH)}{v:ab}(f:∀h,o h=Qa (v,h))(r:S g hs pr):S g (.p v g hs) (o g=Qa (v,g)/\pr):=⟨f g,r.o⟩
theorem S.h{o:η MH}(f:o=Qa g')(r:S g' hs pr):S g (.h g' hs) (o=Qa g'/\pr):=⟨f,r.o⟩
theorem S.b{o:η Ζ}{b:Ζ}(f:o=Qa b)(r:S g hs pr):S g (.b b hs) (o=Qa b/\pr):=⟨f,r.o⟩
theorem S.k{o:MH->η Ζ}{b:Ζ}(f:∀h,o h=Qa b)(r:S g hs pr):S g (.b b hs) (o g=Qa b/\pr):=⟨f g,r.o⟩
theorem S.t{x:Ζ}(f:x=Qe)(r:S g hs pr):S g (.b Qe hs) (Qa x=Qa Qe/\pr):=⟨ω Qa f,r.o⟩
theorem S.f{x:Ζ}(f:x=Qc)(r:S g hs pr):S g (.b Qc hs) (Qa x=Qa Qc/\pr):=⟨ω Qa f,r.o⟩
theorem S.br(x:Ζ)(f:x=Qe->S g hs pr)(h:x=Qc->S g ht pq):S g (.br hs ht) ((x=Qe->pr)/\(x=Qc->pq)):=⟨λe=>(f e).o,λe=>(h e).o⟩
theorem S.s{o:SR}{fl:Fl}{fr:Λ}(f:o=Qa ((fl,fr),g'))(r:S g' hs pr):S g (.s fl fr g' hs) (o=Qa ((fl,fr),g')/\pr):=⟨f,r.o⟩
section
variable{b:List Sm}{fr:Frame}{h:MH}{p:Prop}{P:gx}
def j6{c:Cx}(s:S h hs p)(e:W4 c b fr h hs (λfl fr h _=>R fl fr h)=p):ck c b fr h R:=by
 exact((MS b).o (e▸s.o)).Τ λ_ _ q=>q.ι λ_ q=>q
end
section
variable{P:gx}{c:Cx}{h:MH}
theorem W.eq{o:η (α×MH)}{v:α}(w:W o λa b=>a=v/\b=g):o=Qa (v,g):=let ⟨_,_,e,q⟩:=w.Mi;by obtain⟨rfl,rfl⟩:=q;exact e
def Wo.eq{o:η α}{v:α}(w:Wo o λa=>a=v):o=Qa v:=by
 cases o with
 |none=>exact w.w.ι
 |some p=>exact ω Qa w.w
theorem ga{k:θ}{v:ab}(ha:h[a]?=Qa (.Tt k fs))(hv:vG fs n=Qa v)(hf:P.cz k n=Qe):getAttr P h (.ξ a) n=Qa v:=Wo.eq (za7 ha hv hf (Q:=λa _=>a=v) rfl)
theorem sl{v:ab}(ha:h[a]?=Qa (.ο vs))(hv:vs[i]?=Qa v):kR h (.ξ a) (.Β i)=Qa v:=Wo.eq (N7 ha hv (Q:=λa _=>a=v) rfl)
theorem sd{k v:ab}(ha:h[a]?=Qa (.Υ ep es))(hf:jT es k=Qe)(hv:jW es k=Qa v):kR h (.ξ a) k=Qa v:=Wo.eq (N8 ha hf hv (Q:=λa _=>a=v) rfl)
theorem zbv{v:ab}(ha:h[a]?=Qa (.ο vs))(hi:i<vs.ε):mQ h (.ξ a) (.Β i) v=Qa (h.Ϫ a (.ο (vs.Ϫ i v))):=Wo.eq (CO ha hi rfl)
theorem E1{k v:ab}(ha:h[a]?=Qa (.Υ ep es))(hf:jT es k=Qe)(hl:es.ε<bg):mQ h (.ξ a) k v=Qa (h.Ϫ a (.Υ (bif (jW es k).ϟ then ep else ep.π (· +1)) (nA es k v))):=Wo.eq (CQ ha hf hl rfl)
theorem E2{k:θ}{v:ab}(ha:h[a]?=Qa (.Tt k fs))(hf:P.cz k n=Qe)(hl:fs.ε<400):setAttr P h (.ξ a) n v=Qa (h.Ϫ a (.Tt k (WH fs n v))):=Wo.eq (Fp ha hf hl rfl)
theorem wz(s t:ζ θ)(h:MH):lz h (.Ϥ s) (.Ϥ t)=Qa (s==t):=On
theorem vm(s t:Φ)(h:MH):lz h (.Β s) (.Β t)=Qa (s==t):=vU
def cv{a b:ab}(e:lz h a b=Qa r):mX .ne a b h=Qa (!r):=by
 show (lz h a b).π _=_;rw[e];rfl
def zak{a b:ab}(e:F0 h a b=Qa r):mX .nu a b h=Qa (!r):=by
 show (F0 h a b).π _=_;rw[e];rfl
theorem fn{as:ζ ab}{v:ab}(hc:P.gb a=Qd)(w:WF P d a as h λx y=>x=v/\y=g):jO (ah P d) (.aj a) as h=Qa (v,g):=W.eq (mM hc w)
theorem me{f:θ}{o:ab}{self as:ζ ab}{h0:MH}{v:ab}(hg:mS P h0 o n=Qa (f,self))(w:WF P d f (self++as) h λx y=>x=v/\y=g):kI (ah P d) o n as h0 h=Qa (v,g):=W.eq (j9 hg w)
def zgy{s:ζ θ}{bs:ζ ab}{p:θ×θ}(e:Vc s.ε n bs=Qa p):slice h (.Ϥ s) n bs=Qa (.Ϥ (ng s p.1 p.2),h):=by
 show (Vc s.ε n bs).Η _=_;rw[e];rfl
theorem kO{e:Ex}{fr:Λ}{p:Prop}(s:S h hs p)(q:lK c e fr h hs (λv h _=>Q v h)=p):WE c fr e h Q:=((oK e).o (q▸s.o)).Τ λ_ _ q=>q.ι λ_ q=>q
theorem cn(v:ab)(g:MH):v=v/\g=g:=⟨rfl,rfl⟩
def oe{e:Ex}{b:ζ Sm}(F:σ->Λ)(G:σ->MH)(P:θ->σ->Prop)(s0:σ)(hn:n<=100000)(hc:c.ba=200000)
  (e0:WE c (F s0) e (G s0) λv g=>v=.gq n/\g=G s0) (p0:P 0 s0)
  (step:∀i s R' R,i<n->P i s->To F G (P (i+1)) R R'->ck c b ((F s).Ϫ x (Qa (.Β i))) (G s) R'):∃s,P n s/\exec c (.fo [x] Qc e b) (F s0) (G s0)=Qa ((.nx,F s),G s):=by
 have w:WS c (.fo [x] Qc e b) (F s0) (G s0) λfl f g=>∃s,P n s/\fl=.nx/\f=F s/\g=G s:=
  BI F G P (by rw[hc];exact Ju (JO hn) (JC _ _)) (by show n<=1000000;exact Jn hn (JC _ _)) s0 (e0.Τ λv g q=>⟨q.1,rfl,q.2,p0⟩) (λi s R' hi hp T=>step i s R' _ hi hp T) λs hp=>⟨s,hp,rfl,rfl,rfl⟩
 obtain⟨⟨fl,f⟩,g,e,s,hp,q1,q2,q3⟩:=W.Mi w;refine eqE q1 ?_;subst q2;subst q3;exact⟨s,hp,e⟩
def pv{e:Ex}{b:ζ Sm}(F:σ->Λ)(G:σ->MH)(P:θ->σ->Prop)(s0:σ)(hn:vs.ε<=100000)(hc:c.ba=200000)
  (hk:∀i s,P i s->(G s)[a]?=Qa (.ο vs)) (e0:WE c (F s0) e (G s0) λv g=>v=.ξ a/\g=G s0) (p0:P 0 s0)
  (step:∀i v s R' R,vs[i]?=Qa v->P i s->To F G (P (i+1)) R R'->Wo (nW (F s) tg many v) λfr1=>ck c b fr1 (G s) R'):∃s,P vs.ε s/\exec c (.fo tg many e b) (F s0) (G s0)=Qa ((.nx,F s),G s):=by
 have w:WS c (.fo tg many e b) (F s0) (G s0) λfl f g=>∃s,P vs.ε s/\fl=.nx/\f=F s/\g=G s:=
  rY F G P (by rw[hc];exact Ju (JO hn) (JC _ _)) s0 hk (e0.Τ λv g q=>⟨q.1,rfl,q.2,p0⟩) (λi v s R' hi hp T=>step i v s R' _ hi hp T) λs hp=>⟨s,hp,rfl,rfl,rfl⟩
 obtain⟨⟨fl,f⟩,g,e,s,hp,q1,q2,q3⟩:=W.Mi w;refine eqE q1 ?_;subst q2;subst q3;exact⟨s,hp,e⟩
def zfI(P:gx)(a:θ)(as:ζ ab):η (ζ Sm×Λ):=(P.kh a).Η λf=>(vI f as).π λvs=>(f.TI,qY f vs)
def kN{K f:θ}{as:ζ ab}(hd:K+1<=d)(fr:Λ)(bd:ζ Sm)(e:zfI P f as=Qa (bd,fr))(q:∀d',K<=d'->ck (ah P d') bd fr h (Fin Q)):WF P d f as h Q:=by
 refine xEA (XY.mp e) λfn e1 e=>?_;refine xEA (Zm.mp e) λvs e2 e=>?_;cases e;exact zdQ hd e1 e2 q
def mP{a b:ζ Sm}:∀{fr:Λ}{h:MH},ck c a fr h (zb c b R)->ck c (a++b) fr h R:=by
 induction a with
 |Ϝ=>exact λq=>q.w
 |Ι s a ih=>
  intro fr h q;have q:W (bz (exec c s fr h) λ(p:Fl×Λ) h1=>Fl.Δ (motive:=λ_=>SR) p.1 (execs c a p.2 h1) (Qa (p,h1)) (Qa (p,h1)) (λ_=>Qa (p,h1))) λp h=>zb c b R p.1 p.2 h:=q;refine au ((w_bnd' q).Τ λp h1 q=>?_);obtain⟨fl,f2⟩:=p;cases fl with
  |nx=>exact ih q
  |bk=>exact⟨q.w⟩
  |ct=>exact⟨q.w⟩
  |rt v=>exact⟨q.w⟩
theorem SF{s:Sm}{r:ζ Sm}{fr:Λ}{h:MH}(q:ck c [s] fr h (zb c r R)):ck c (s::r) fr h R:=mP q
end
theorem zgx(C:bf):EI C:=zgw C
end Internal
open PySem PySem.W PySem.W.X PyProof.Rows PySem.Calls
set_option linter.unusedVariables false
namespace Tactic
def ye:ζ Tm:= ["builtins.copyright#opaque","builtins.credits#opaque","builtins.license#opaque"]
end Tactic
lay_quick Tactic.ye
namespace Tactic
abbrev TP:Program:=Ρ.Challenge.pw_ui0508_14
abbrev kr:=Ρ.W.Fast.tw15667345088766844465
theorem Al: @topGo=kr:=Ρ.W.Fast.te15667345088766844465
abbrev jk:=Ρ.W.Fast.tw14082659384304107361
theorem HV: @topRun=jk:=Ρ.W.Fast.te14082659384304107361
abbrev jl:=Ρ.W.Fast.tw14374325043358763698
theorem HW: @segRun=jl:=Ρ.W.Fast.te14374325043358763698
abbrev bt:=Ρ.W.Fast.tw10110043849684766642
theorem G6: @segRunT=bt:=Ρ.W.Fast.te10110043849684766642
abbrev bh:=Ρ.W.Fast.tw14364793385576792824
theorem nD: @treeTable=bh:=Ρ.W.Fast.te14364793385576792824
abbrev lr:=Ρ.W.Fast.tw11892475500146522536
theorem HY: @denote=lr:=Ρ.W.Fast.te11892475500146522536
abbrev rh:=Q4×ζ Qz×Scope
def zeO:rh:=(⟨[],[],Qd,[],[],Qd,[]⟩,[],⟨.Fa,[],Qc,Qc,[]⟩)
def fQ(s:Qz)(z:rh×ζ Qz):rh×ζ Stmt:=Stmt.Δ (motive_2:=λ_=>rh×ζ Qz) s (λ_ a b _ _ _ c _ _ _=>((a,b,c),[])) (λ_ _ _ _ _ _ _ _ _ _=>z) (λ_ _ _ b _ _ _ _ _ _ _=>(z.1,b)) (λ_ _=>z) (λ_ _=>z) (λ_ _ _=>z) (λ_ _ _ _ _ _ _=>z) (λ_ _ _ _=>z) (λ_ _ _ _ _=>z) (λ_ _ _ _ _=>z) (λ_ _ _ _ _=>z) (λ_ _ _ _=>z) (λ_ _ _ _=>z) (λ_ _ _=>z) (λ_ _ _=>z) (λ_ _ _=>z) (λ_ _ _=>z) (λ_ _ _ _ _=>z) (λ_ _ _ _ _=>z) (λ_ _ _=>z) (λ_ _=>z) (λ_ _ _ _=>z) (λ_ _=>z) (λ_ _=>z) (λ_ _=>z) (λ_=>z) (λ_=>z) (λ_=>z)
def bA(l:ζ Qz):rh×ζ Stmt:=l.Δ (zeO,[]) λs _=>fQ s (zeO,[])
def px(i:θ):rh:=(bA (TP.main.TI.jp i)).1
def jn(i j:θ):rh:=(bA ((bA (TP.main.TI.jp i)).2.jp j)).1
def ziU(f:rh)(name qual:Ρ.ld)(g:Qk)(cl:ζ (Ρ.ld×Qk))(dV kV doc pm:μ)(an:η Qk)(cd ct:μ)(b:Qk):FuncData:=
 {name:=name,qualname:=qual,params:=f.1,body:=.stmts f.2.1,scope:=f.2.2,globals:=g,closure:=cl,defaults:=dV,kwdefaults:=kV,doc:=doc,pyModule:=pm,annotations:=an,code:=cd,closureTuple:=ct,builtins:=b}
def de(P:Ϭ)(n:Ρ.ld)(t:Tok)(v:μ):DictEntry:=⟨qba P n,.Ϥ n t,v⟩
def XZ(f:θ):θ->ζ θ:= @θ.rec (λ_=>θ->ζ θ) (λ_=>[]) (λ_ ih k=>bif qa8 k 0 then[] else(k % 128)::ih (k / 128)) f
abbrev XN(k:θ):Ρ.ld:=⟨⟨XZ 60 k⟩⟩
abbrev X9(i:Φ)(t:Tok):μ:=qbq i t
abbrev X0(i:Φ):μ:=qbq i 0
abbrev XS(s:Ρ.ld)(t:Tok):μ:=KQ s t
abbrev XB(b:Ζ):μ:=qag b
abbrev X7:μ:=KH
abbrev X6{α:Type}:η α:=Qd
abbrev X8{α:Type}(l:ζ α):ϛ α:=Zu l
abbrev X1(a:Qk):μ:=.ξ a
def XO(c:μ)(d:η Qk)(b:Data):Ϭ->Go:=λ_=>⟨c,d,b,Zu []⟩
def X2(n:Ρ.ld)(t:Tok)(v:μ):Ϭ->DictEntry:=λP=>de P n t v
abbrev XF(f:rh)(n q:Ρ.ld)(g:Qk)(dV kV doc pm:μ)(an:η Qk)(cd ct:μ)   :Data:=.func (ziU f n q g [] dV kV doc pm an cd ct 0)
abbrev X5:Ϭ->BT:=λ_=>.Ϝ
abbrev rc:μ:=Zz s2766695959194262286x5
abbrev aB:μ:=Zz s5856160107412720595x4
abbrev ik:μ:=Zz s14018661285674007319x4
abbrev zz:μ:=Zz s7174869446012820540x8
abbrev i7:μ:=Zz s6070975301684473832x10
abbrev e9:μ:=Zz s11030030927630378310x26
abbrev i6:μ:=Zz s17162191345867700912x4
abbrev eZ:μ:=Zz s14755015743595814543x17
abbrev i5:μ:=Zz s4290257624100764138x5
abbrev i0:μ:=Zz s9222952809800978799x4
abbrev zi4:μ:=Zz s2742458400755230247x6
def n0:=XN 0x7d97675c9bf6bc
def n1:=XN 0x79e0bba75c6bf6e9c3b31af
def n2:=XN 0xbf7f769c3b6fdf
def n3:=XN 0xbf7f2edc3bafdf
def n4:=XN 0x1cf961e9cd765c7d7273dd87974
def n5:=XN 421105403244511
def n6:=XN 0x17efe5cf875e3c3c2fdf
def n7:=XN 0x2fdfe597261dfb2fdf
def n8:=XN 0xbf7f1e5e1cefdf
def n9:=XN 0x17eff3ddbf4f4c3d37eedd86fdf
def sa:=XN 0xbf7f9eed3d3669eb8afdf
def zp:=XN 0xbf7f2ecd39afdf
def zo:=XN 0x2fdfc997463c38efdf
def wy:=XN 29219126239
def yc:=XN 2874561127620
def zm:=XN 0x1cb86ed9ab466c98b0
def yb:=XN 367430873507014
def wx:=XN 0xa94e2d48316947
def wt:=XN 22438781133
def zk:=XN 0x3d7eed1bebb6efaf74284a0
def pj:=XN 0xe5bf9728b97769d18f0cd
def vf:=XN 0x72cbd3a65d97f9e9
def vd:=XN 0x1cb2f4e99765fc9972ee
def vc:=XN 0x3665c58765fc9972ee
def vb:=XN 0x64e5bfbdfc9972ee
def uz:=XN 0x3a6eebbf1dfc9972ee
def uy:=XN 29779293299
def wq:=XN 0x66df7fa68cfa72f7
def wo:=XN 177530829
def ux:=XN 27340091636
def uw:=XN 1651297
def jj:=XN 240679539
def b5:=XN 107
def mj:=XN 0x2fdfcbb3ae4dfb6fdf
def zj:=XN 0xe7cb7f2e595765c7d7273dd87974
def tx:=XN 0xbf7f2edc3bb661ebc6fdf
def mi:=XN 0x17efefdd97769d9d39f2d39afdf
def mh:=XN 0x5fbfcf2f4eb8b4f2e9d30dfc7a7a61e9cefdf
def tw:=XN 0x17efe6cbcb5e1cbdefdf
def ya:=XN 232387827
def bZ:=XN 211597303
def bY:=XN 27359129846
def bX:=XN 31381287660
def iM:=XN 245168109
def iL:=XN 244872311
def xy:=XN 245248756
def om:=XN 217822450
def ol:=XN 1964018
def d0:=XN 27321202288
def ph:=XN 4013864678135
def jm:=XN 0x1cf3eed3c9765c7d7273dd87974
def wm:=XN 0x73cbb74f4bfdf7f2
def wj:=XN 0x3961e9ceff9e9c36e5
def bW:=XN 243136498
def zi:=XN 1915631
def dZ:=XN 105
def dY:=XN 106
def tu:=XN 448010674303213
def tq:=XN 1897177
def oj:=XN 213610734
def n60:=XN 1897209
def rm:=XN 0x72cb9396fbfcf0e8
def n62:=XN 0xe9cb0f0bfbb0e3
def Pu:=XN 4013864876014
def IJ:=XN 1668975
def mf:=XN 211383022
def Da:=XN 243103344
def FM:=XN 31083689204
def BB:=XN 3809597945827
def A9:=XN 240745327
def DH:=XN 0x72cbd3a65c57f9e9
def pg:=XN 251393139
def pf:=XN 211317490
def mV:=XN 215692019
def uE:=XN 97
def Gw:=XN 98
def n85:=XN 0xbf7fa63d392fdf
def n86:=XN 31381287628
def n96:=XN 31371130819
def n97:=XN 211350495
def n98:=XN 31371130851
def xS:=XN 3497140974659
def ze2:=XN 3497140974691
def L6:=XN 30815303797
def ziD:=XN 226275565
def L5:=XN 30815418348
def Wp:=XN 4186732950732
def FQ:=XN 0xddbf4f4c787966
def ze1:=XN 4186732950764
def ze0:=XN 110
def ziC:=XN 100
def ziB:=XN 15586
def uF:=XN 0x65dda7463c3b5765c7d7273dd87974
def PZ:=XN 22430328018
def PY:=XN 0x14e2d483529dfa94e7cd
def PW:=XN 0x53874a0dfa94e7cd
def PV:=XN 1140559
def L4:=XN 1636673
def FO:=XN 0xbf7fa69dda6fdf
def PU:=XN 0xf3d386dcb7f9e9
def zcq:=XN 29204459756
def FN:=XN 4013059518708
def Gx:=XN 448010674303181
def PR:=XN 0x36efdfcafe4cb9775f
def VO:=XN 27356854899
def PO:=XN 3978726767219
def PN:=XN 0x32f4c3d39dfc9972ee
def LZ:=XN 1636705
def zcp:=XN 29749703779
def DI:=XN 29749801698
def LY:=XN 1652581
def IK:=XN 213824755
def zco:=XN 0x39e3e586ff4ddd77e3
def PM:=XN 0x79e9c36e5bfcf0e8
def zcn:=XN 3980574372076
def zcm:=XN 0xdda70ece17f9e9
def zcl:=XN 255604707
def zck:=XN 31083705580
def ziA:=XN 3944329476846
def zcj:=XN 3497149691891
def zci:=XN 31379192435
def PL:=XN 0x6ed39f2e25d97769d18f0cd
def PK:=XN 0x1937655d97769d18f0cd
def zeZ:=XN 4015504749023
def zeY:=XN 242809185
def zeX:=XN 242825061
def zch:=XN 31381566694
def zcg:=XN 0x34637dc306ac34f5bfdf0ec
def PJ:=XN 230324596
def PH:=XN 443747950901215
def PG:=XN 0x64e587bebc78715f
def PF:=XN 244938463
def PE:=XN 0xf3d386dcb7f2f6dfb72f2
def zcf:=XN 22424102871
def zce:=XN 372306437449676
def PD:=XN 0x1d396fd1cefe4cb9775f
def PC:=XN 4016840536927
def PB:=XN 31115080543
def PA:=XN 211366111
def Pz:=XN 3463297348319
def Py:=XN 31110885616
def Px:=XN 0x6cd9971dfef8765f
def Pw:=XN 0xe7d3467d397bdfef8765f
def Pv:=XN 0xcbbb4e8c7876dfef8765f
def zcd:=XN 1962220
def ziz:=XN 3497399218914
def ziy:=XN 1913581
def zix:=XN 226277367
def zeW:=XN 30815173231
def ziw:=XN 242973427
def zeV:=XN 1995499
def ziv:=XN 0x197769dbcb2f4cb91765c7d7273dd87974
def zeU:=XN 0x6eebc9765c7d7273dd87974
def zeT:=XN 14945
def ziu:=XN 3944367338220
def zeS:=XN 4016016503283
def zit:=XN 3982185216117
def zis:=XN 3466780866415
def Sa:Φ:=Xa (10 ^ 4000)
def XG(t:BT):θ->Go:= @BT.rec (λ_=>θ->Go) (λ_=>⟨.Ε,Qd,.plain,Zu []⟩) (λv _ _ L R i=>bif qa8 i 0 then v else bif qa8 (i % 2) 1 then L (i / 2) else R (i / 2-1)) t
def XI(t:BT):θ->Go->BT:= @BT.rec (λ_=>θ->Go->BT) (λ_ o=>.node o .Ϝ .Ϝ) (λv l r L R i o=>bif qa8 i 0 then .node o l r else bif qa8 (i % 2) 1 then .node v (L (i / 2) o) r else .node v l (R (i / 2-1) o)) t
def XR(P:Ϭ)(l:ζ (Ϭ->Go)):θ->BT->BT:= @Xe _ (λ_=>θ->BT->BT) (λ_ t=>t) (λo _ ih a t=>ih (Z6 a) (XI t a (o P))) l
def XQ(t:θ)(l:ζ (Ρ.ld×μ)):ζ (Ϭ->Qi):= @Xe _ (λ_=>θ->ζ (Ϭ->Qi)) (λ_=>[]) (λe _ ih t=>X2 e.1 t e.2::ih (Z6 t)) l t
def XP(t:Ϭ->BT)(l:ζ (θ×ζ (Ϭ->Go))):Ϭ->BT:=λP=> @Xe (θ×ζ (Ϭ->Go)) (λ_=>BT->BT) (λt=>t) (λe _ ih t=>ih (XR P e.2 e.1 t)) l (t P)
def XD(c:μ)(d:η Qk)(l:ζ (Ϭ->Qi))(n:θ):Ϭ->Go:=λP=>⟨c,d,.Υ (Zu (l.π λe=>e P)) n,Zu []⟩
def XM(o:Go):Ϭ->Go:=λ_=>o
def Y0(a:Ρ.ld)(b c d:θ):Ϭ->Go:=XM ⟨(Zz s17162191345867700912x4),Qd,(.cls (ClassData.mk a [(Zz s2742458400755230247x6)] [(.ξ b),(Zz s2742458400755230247x6)] c a Qe [] [] Qc Qd Qc)),Zu [Qd,Qd,(Qa (KQ a d)),(Qa (KQ a (d+8))),(Qa (Kr s11443829558043349243x14)),(Qa (qag Qe))]⟩
def Y1(a b:θ)(c:Ρ.ld)(d:θ):Ϭ->Go:=XM ⟨(Zz s658472552662922059x5),Qd,.plain,Zu [(Qa (.ξ a)),(Qa (.ξ 3)),(Qa (.ξ b)),Qd,(Qa (KQ c d)),Qd,(Qa (.ξ 0))]⟩
def Y2(a:Ρ.ld)(b:θ)(c:Φ)(d:θ)(e:Φ):Ϭ->Go:=XO aB X6 (.sn (X8 [(XS a b),(XS a (b+1)),(XS n1 (b+2)),(X0 c),(X0 0),(X0 0),(X0 0),(X0 0),(X1 d),(XB Qc),(X0 181),(X1 (d+1)),X7,X7,X7,X7,(X0 e),(X0 c),(XS n1 (b+4))]))
def Y3(a b:θ):Ϭ->Go:=XO eZ X6 (.sn (X8 [(XS n85 a),(X1 b),(Kr s6511155373996960695x17),(Kr s12411053484034534018x21)]))
def Y4(a b:θ):Ϭ->Go:=XO eZ X6 (.sn (X8 [(XS tw a),(X1 b),(Kr s10220274742760427390x26),X7]))
def Y5(a:θ):Ϭ->Go:=XO e9 X6 (.sn (X8 [(Kr s4860613602091757760x24),(X1 a)]))
def Y6(a:θ):Ϭ->Go:=XO i5 X6 (.sn (X8 [(X1 a),(X1 a),(X1 a)]))
def Y7(a:Ρ.ld)(b:θ)(c:Ρ.ld)(d:Φ)(e:θ)(f:Φ):Ϭ->Go:=XO aB X6 (.sn (X8 [(XS a b),(XS c (b+1)),(XS n1 (b+2)),(X0 d),(X0 3),(X0 0),(X0 0),(X0 3),(X1 e),(XB Qe),(X0 181),(X1 (e+1)),X7,(X1 (e+2)),(X1 (e+3)),(X1 (e+4)),(X0 f),(X0 d),(XS n1 (b+7))]))
def Y8(a b:θ):Ϭ->Go:=XO (X1 a) (Qa b) .plain
def o0:=XO rc X6 (.seq (X8 []) 0)
def o1:=XO X7 X6 (.sn (X8 []))
def o2:=Y2 n0 182 1 11 185
def o3:=Y1 13 3 n2 164
def q0:ζ (Ϭ->Qi):=XQ 165 [(n3,XS n4 277),(n5,X7),(n6,X7),(n7,Kr s7097527257260152453x26),(n8,X7),(n9,X1 6),(sa,X1 4)]++XQ 173 [(zp,XS n1 172),(zo,X7)]++[X2 wy 193 (X1 21),X2 yc 197 (XS zm 196),X2 yb 199 (X9 4000 198),X2 wx 202 (X9 Sa 201),X2 wt 204 (XS zk 203),X2 pj 222 (X1 31),X2 vf 229 (X1 41),X2 vd 236 (X1 48),X2 vc 243 (X1 55),X2 vb 251 (X1 62),X2 uz 261 (X1 69),X2 uy 268 (X1 76),X2 wq 276 (X1 83),X2 wo 280 (X9 2000 279),X2 ux 286 (X1 88),X2 uw 296 (X1 95),X2 jj 302 (X1 100)]
def o4:=XD ik X6 q0 26
def q1:ζ μ:=[(X0 1),(X0 0),(X1 20),(X0 9),(X0 0),(X1 27),(X0 11),(X0 0),(X1 40),(X0 13),(X0 0),(X1 47),(X0 17),(X0 0),(X1 54),(X0 21),(X0 0),(X1 61),(X0 27),(X0 0),(X1 68),(X0 31),(X0 0),(X1 75),(X0 37),(X0 0),(X1 82),(X0 46),(X0 0),(X1 87),(X0 55),(X0 0),(X1 94),(X0 58),(X0 0),(X1 99)]
def o5:=XO X7 X6 (.sn (X8 q1))
def iI:=XO rc X6 (.seq (X8 [i7]) 0)
def tm:=XO e9 X6 (.sn (X8 [(Kr s10062305145149207511x16),i6]))
def iH:=XD ik X6 [(X2 mj 212 (XS zj 194)),(X2 tx 214 (XS pj 213)),(X2 mi 216 (X9 9 215)),(X2 mh 217 (X1 29))] 4
def iG:=Y2 pj 207 9 25 210
def iF:=Y1 27 24 zj 194
def iE:=XD ik X6 [(X2 mj 212 (XS zj 194)),(X2 mi 216 (X9 9 215)),(X2 mh 217 (X1 29)),(X2 tw 219 (X1 32)),(X2 n5 220 X7)] 3
def iD:=XM ⟨(Zz s17162191345867700912x4),Qd,(.cls (ClassData.mk pj [(Zz s6070975301684473832x10)] [(.ξ 31),(Zz s6070975301684473832x10),(Zz s5946037652744460706x9),(Zz s4278001404047624695x13),(Zz s2742458400755230247x6)] 30 pj Qe [] [] Qc Qd Qc)),Zu [(Qa (.ξ 22)),Qd,(Qa (KQ pj 205)),(Qa (KQ pj 213)),(Qa (Kr s4209523147560561109x18)),(Qa (qag Qe))]⟩
def iC:=Y4 218 31
def iA:=Y6 31
def hZ:=Y5 31
def q2:ζ (Ϭ->Qi):=XQ 165 [(n3,XS jm 322),(n5,X7),(n6,X7),(n7,Kr s7097527257260152453x26),(n8,X7),(n9,X1 6),(sa,X1 4)]++XQ 173 [(zp,XS n1 172),(zo,X7)]++[X2 wy 193 (X1 21),X2 yc 197 (XS zm 196),X2 yb 199 (X9 4000 198),X2 wx 202 (X9 Sa 201),X2 wt 204 (XS zk 203),X2 pj 222 (X1 31),X2 vf 229 (X1 41),X2 vd 236 (X1 48),X2 vc 243 (X1 55),X2 vb 251 (X1 62),X2 uz 261 (X1 69),X2 uy 268 (X1 76),X2 wq 276 (X1 83),X2 wo 280 (X9 2000 279),X2 ux 286 (X1 88),X2 uw 296 (X1 95),X2 jj 302 (X1 100),X2 wm 314 (X1 107),X2 wj 321 (X1 114)]
def o58:=XD ik X6 q2 28
def q3:ζ μ:=q1++[(X0 73),(X0 0),(X1 106),(X0 80),(X0 0),(X1 113)]
def o59:=XO X7 X6 (.sn (X8 q3))
def q4:ζ (Ϭ->Qi):=q2++[X2 tq 427 (X1 187)]
def o68:=XD ik X6 q4 29
def q5:ζ μ:=q3++[(X0 85),(X0 0),(X1 120)]
def o69:=XO X7 X6 (.sn (X8 q5))
def q6:ζ (Ϭ->Qi):=[X2 mj 331 (XS jm 322),X2 tx 333 (XS tq 332),X2 mi 335 (X9 85 334)]++XQ 337 [(oj,XS n60 336),(rm,XB Qe),(n62,XB Qe)]++[X2 Pu 341 (X9 0 340),X2 IJ 343 (X9 1 342),X2 mf 351 (X1 128),X2 Da 360 (X1 135),X2 FM 369 (X1 142),X2 jj 377 (X1 149),X2 BB 385 (X1 156),X2 A9 394 (X1 163),X2 DH 403 (X1 170),X2 pg 411 (X1 177)]++XQ 419 [(pf,X1 184),(mh,X1 185)]
def o70:=XD ik X6 q6 18
def q7:ζ μ:=[(X0 92),(X0 4),(X1 127),(X0 97),(X0 4),(X1 134),(X0 100),(X0 4),(X1 141),(X0 103),(X0 4),(X1 148),(X0 106),(X0 4),(X1 155),(X0 109),(X0 4),(X1 162),(X0 112),(X0 4),(X1 169),(X0 115),(X0 4),(X1 176),(X0 118),(X0 4),(X1 183)]
def o71:=XO X7 X6 (.sn (X8 q7))
def o72:=Y2 tq 326 85 118 329
def o73:=Y1 120 117 jm 322
def q8:ζ (Ϭ->Qi):=[X2 mj 331 (XS jm 322),X2 mi 335 (X9 85 334)]++XQ 337 [(oj,XS n60 336),(rm,XB Qe),(n62,XB Qe)]++[X2 Pu 341 (X9 0 340),X2 IJ 343 (X9 1 342),X2 mf 351 (X1 128),X2 Da 360 (X1 135),X2 FM 369 (X1 142),X2 jj 377 (X1 149),X2 BB 385 (X1 156),X2 A9 394 (X1 163),X2 DH 403 (X1 170),X2 pg 411 (X1 177)]++XQ 419 [(pf,X1 184),(mh,X1 185)]++[X2 n85 422 (X1 188)]++XQ 424 [(tw,X1 189),(n5,X7)]
def zij:=XD ik X6 q8 4
def zii:=Y0 tq 187 186 324
def zih:=Y3 421 187
def zig:=Y4 423 187
def zif:=Y6 187
def zie:=Y5 187
def q9:ζ (Ϭ->Qi):=q4++[X2 n86 530 (X1 264)]
def zid:=XD ik X6 q9 30
def dW:ζ μ:=q5++[(X0 120),(X0 0),(X1 197)]
def zic:=XO X7 X6 (.sn (X8 dW))
def gW:ζ (Ϭ->Qi):=[X2 mj 435 (XS jm 322),X2 tx 437 (XS n86 436),X2 mi 439 (X9 120 438)]++XQ 441 [(oj,XS bX 440),(rm,XB Qe),(n62,XB Qe),(Pu,X7)]++[X2 IJ 446 (X9 0 445),X2 mf 454 (X1 205),X2 Da 463 (X1 212),X2 FM 472 (X1 219),X2 jj 480 (X1 226),X2 BB 488 (X1 233),X2 A9 497 (X1 240),X2 DH 506 (X1 247),X2 pg 514 (X1 254)]++XQ 522 [(pf,X1 261),(mh,X1 262)]
def zib:=XD ik X6 gW 18
def gV:ζ μ:=[(X0 127),(X0 4),(X1 204),(X0 132),(X0 4),(X1 211),(X0 139),(X0 4),(X1 218),(X0 144),(X0 4),(X1 225),(X0 147),(X0 4),(X1 232),(X0 150),(X0 4),(X1 239),(X0 155),(X0 4),(X1 246),(X0 158),(X0 4),(X1 253),(X0 161),(X0 4),(X1 260)]
def zia:=XO X7 X6 (.sn (X8 gV))
def zh9:=Y2 n86 430 120 195 433
def zh8:=Y1 197 194 jm 322
def gU:ζ (Ϭ->Qi):=[X2 mj 435 (XS jm 322),X2 mi 439 (X9 120 438)]++XQ 441 [(oj,XS bX 440),(rm,XB Qe),(n62,XB Qe),(Pu,X7)]++[X2 IJ 446 (X9 0 445),X2 mf 454 (X1 205),X2 Da 463 (X1 212),X2 FM 472 (X1 219),X2 jj 480 (X1 226),X2 BB 488 (X1 233),X2 A9 497 (X1 240),X2 DH 506 (X1 247),X2 pg 514 (X1 254)]++XQ 522 [(pf,X1 261),(mh,X1 262)]++[X2 n85 525 (X1 265)]++XQ 527 [(tw,X1 266),(n5,X7)]
def zh7:=XD ik X6 gU 4
def zh6:=Y0 n86 264 263 428
def zh5:=Y3 524 264
def zh4:=Y4 526 264
def zh3:=Y6 264
def zh2:=Y5 264
def dU:ζ (Ϭ->Qi):=q9++[X2 n96 634 (X1 341),X2 n97 642 (X1 352)]
def zh1:=XD ik X6 dU 32
def dS:ζ μ:=dW++[(X0 165),(X0 0),(X1 274),(X0 202),(X0 0),(X1 351)]
def zh0:=XO X7 X6 (.sn (X8 dS))
def gT:ζ (Ϭ->Qi):=[X2 mj 538 (XS jm 322),X2 tx 540 (XS n96 539),X2 mi 542 (X9 165 541)]++XQ 544 [(oj,XS n98 543),(rm,XB Qc),(n62,XB Qe)]++[X2 Pu 548 (X9 0 547),X2 IJ 550 (X9 1 549),X2 mf 558 (X1 282),X2 Da 567 (X1 289),X2 FM 576 (X1 296),X2 jj 584 (X1 303),X2 BB 592 (X1 310),X2 A9 601 (X1 317),X2 DH 610 (X1 324),X2 pg 618 (X1 331)]++XQ 626 [(pf,X1 338),(mh,X1 339)]
def zhZ:=XD ik X6 gT 18
def gR:ζ μ:=[(X0 172),(X0 4),(X1 281),(X0 177),(X0 4),(X1 288),(X0 180),(X0 4),(X1 295),(X0 183),(X0 4),(X1 302),(X0 188),(X0 4),(X1 309),(X0 191),(X0 4),(X1 316),(X0 194),(X0 4),(X1 323),(X0 197),(X0 4),(X1 330),(X0 200),(X0 4),(X1 337)]
def zhY:=XO X7 X6 (.sn (X8 gR))
def zhX:=Y2 n96 533 165 272 536
def zhW:=Y1 274 271 jm 322
def gQ:ζ (Ϭ->Qi):=[X2 mj 538 (XS jm 322),X2 mi 542 (X9 165 541)]++XQ 544 [(oj,XS n98 543),(rm,XB Qc),(n62,XB Qe)]++[X2 Pu 548 (X9 0 547),X2 IJ 550 (X9 1 549),X2 mf 558 (X1 282),X2 Da 567 (X1 289),X2 FM 576 (X1 296),X2 jj 584 (X1 303),X2 BB 592 (X1 310),X2 A9 601 (X1 317),X2 DH 610 (X1 324),X2 pg 618 (X1 331)]++XQ 626 [(pf,X1 338),(mh,X1 339)]++[X2 n85 629 (X1 342)]++XQ 631 [(tw,X1 343),(n5,X7)]
def zhV:=XD ik X6 gQ 4
def zhU:=Y0 n96 341 340 531
def zhT:=Y3 628 341
def zhS:=Y4 630 341
def zhR:=Y6 341
def zhQ:=Y5 341
def dR:ζ (Ϭ->Qi):=dU++[X2 xS 751 (X1 427)]
def zhP:=XD ik X6 dR 33
def dQ:ζ μ:=dS++[(X0 206),(X0 0),(X1 358)]
def zhO:=XO X7 X6 (.sn (X8 dQ))
def gP:ζ (Ϭ->Qi):=[X2 mj 650 (XS jm 322),X2 tx 652 (XS xS 651),X2 mi 654 (X9 206 653)]++XQ 656 [(oj,XS ze2 655),(rm,XB Qc),(n62,XB Qe)]++[X2 Pu 661 (X1 360),X2 IJ 664 (X1 361),X2 mf 672 (X1 368),X2 Da 681 (X1 375),X2 FM 690 (X1 382),X2 jj 698 (X1 389),X2 BB 706 (X1 396),X2 A9 715 (X1 403),X2 DH 724 (X1 410),X2 pg 732 (X1 417)]++XQ 743 [(pf,X1 424),(mh,X1 425)]
def zhN:=XD ik X6 gP 18
def gO:ζ μ:=[(X0 213),(X0 4),(X1 367),(X0 220),(X0 4),(X1 374),(X0 223),(X0 4),(X1 381),(X0 226),(X0 4),(X1 388),(X0 231),(X0 4),(X1 395),(X0 234),(X0 4),(X1 402),(X0 237),(X0 4),(X1 409),(X0 240),(X0 4),(X1 416),(X0 243),(X0 4),(X1 423)]
def zhM:=XO X7 X6 (.sn (X8 gO))
def zhL:=Y2 xS 645 206 356 648
def zhK:=Y1 358 355 jm 322
def zhJ:=XO rc X6 (.seq (X8 [(X9 0 659),(X9 1 660)]) 0)
def zhI:=XO rc X6 (.seq (X8 [(X9 1 662),(X9 1 663)]) 0)
def gN:ζ (Ϭ->Qi):=[X2 mj 650 (XS jm 322),X2 mi 654 (X9 206 653)]++XQ 656 [(oj,XS ze2 655),(rm,XB Qc),(n62,XB Qe)]++[X2 Pu 661 (X1 360),X2 IJ 664 (X1 361),X2 mf 672 (X1 368),X2 Da 681 (X1 375),X2 FM 690 (X1 382),X2 jj 698 (X1 389),X2 BB 706 (X1 396),X2 A9 715 (X1 403),X2 DH 724 (X1 410),X2 pg 732 (X1 417)]++XQ 743 [(pf,X1 424),(mh,X1 425)]++[X2 n85 746 (X1 428)]++XQ 748 [(tw,X1 429),(n5,X7)]
def zhH:=XD ik X6 gN 4
def zhG:=Y0 xS 427 426 643
def zhF:=Y3 745 427
def zhE:=Y4 747 427
def zhD:=Y6 427
def zhC:=Y5 427
def gM:ζ (Ϭ->Qi):=dR++[X2 Wp 804 (X1 469),X2 FQ 813 (X1 478)]
def zhB:=XD ik X6 gM 35
def dP:ζ μ:=dQ++[(X0 248),(X0 0),(X1 437),(X0 268),(X0 0),(X1 477)]
def zhA:=XO X7 X6 (.sn (X8 dP))
def zhz:=XM ⟨(Zz s17162191345867700912x4),Qd,(.cls (ClassData.mk xS [(Zz s2742458400755230247x6)] [(.ξ 427),(Zz s2742458400755230247x6)] 426 xS Qe [] [(.ξ 469)] Qc Qd Qc)),Zu [Qd,Qd,(Qa (KQ xS 643)),(Qa (KQ xS 651)),(Qa (Kr s11443829558043349243x14)),(Qa (qag Qe))]⟩
def zhy:=XO rc X6 (.seq (X8 [(X1 427)]) 0)
def gL:ζ (Ϭ->Qi):=[X2 mj 759 (XS jm 322),X2 tx 761 (XS Wp 760),X2 mi 763 (X9 248 762)]++XQ 765 [(oj,XS ze1 764),(rm,XB Qe)]++[X2 mf 774 (X1 445),X2 Da 783 (X1 452),X2 jj 791 (X1 459)]++XQ 800 [(DH,X1 466),(mh,X1 467)]
def zhx:=XD ik X6 gL 10
def zhw:=XO X7 X6 (.sn (X8 [(X0 252),(X0 4),(X1 444),(X0 258),(X0 4),(X1 451),(X0 263),(X0 4),(X1 458),(X0 266),(X0 4),(X1 465)]))
def zhv:=Y2 Wp 754 248 435 757
def zhu:=Y1 437 434 jm 322
def gK:ζ (Ϭ->Qi):=[X2 mj 759 (XS jm 322),X2 mi 763 (X9 248 762)]++XQ 765 [(oj,XS ze1 764),(rm,XB Qe)]++[X2 mf 774 (X1 445),X2 Da 783 (X1 452),X2 jj 791 (X1 459)]++XQ 800 [(DH,X1 466),(mh,X1 467),(n5,X7)]
def zht:=XD ik X6 gK 2
def zhs:=XM ⟨(Zz s17162191345867700912x4),Qd,(.cls (ClassData.mk Wp [(.ξ 427)] [(.ξ 469),(.ξ 427),(Zz s2742458400755230247x6)] 468 Wp Qe [] [] Qc Qd Qc)),Zu [(Qa (.ξ 432)),Qd,(Qa (KQ Wp 752)),(Qa (KQ Wp 760)),(Qa (Kr s11443829558043349243x14)),(Qa (qag Qe))]⟩
def zhr:=Y6 469
def zhq:=Y5 469
def dO:ζ (Ϭ->Qi):=XQ 165 [(n3,XS uF 823),(n5,X7),(n6,X7),(n7,Kr s7097527257260152453x26),(n8,X7),(n9,X1 6),(sa,X1 4)]++XQ 173 [(zp,XS n1 172),(zo,X7)]++[X2 wy 193 (X1 21),X2 yc 197 (XS zm 196),X2 yb 199 (X9 4000 198),X2 wx 202 (X9 Sa 201),X2 wt 204 (XS zk 203),X2 pj 222 (X1 31),X2 vf 229 (X1 41),X2 vd 236 (X1 48),X2 vc 243 (X1 55),X2 vb 251 (X1 62),X2 uz 261 (X1 69),X2 uy 268 (X1 76),X2 wq 276 (X1 83),X2 wo 280 (X9 2000 279),X2 ux 286 (X1 88),X2 uw 296 (X1 95),X2 jj 302 (X1 100),X2 wm 314 (X1 107),X2 wj 321 (X1 114),X2 tq 427 (X1 187),X2 n86 530 (X1 264),X2 n96 634 (X1 341),X2 n97 642 (X1 352),X2 xS 751 (X1 427),X2 Wp 804 (X1 469)]++XQ 813 [(FQ,X1 478),(PZ,X1 489)]++[X2 om 822 (X1 496),X2 PY 826 (X9 20000 825)]++XQ 828 [(PW,X9 200000 827),(PV,X1 497)]
def zhp:=XD ik X6 dO 40
def dN:ζ μ:=dP++[(X0 272),(X0 0),(X1 495)]
def zho:=XO X7 X6 (.sn (X8 dN))
def Iq:=XO ik X6 (.Υ (X8 []) 0)
def zhn:=Y8 187 479
def zhm:=Y8 264 481
def zhl:=Y8 341 483
def zhk:=Y8 427 485
def zhj:=Y8 469 487
def zhi:=XO i0 X6 (.seq (X8 [(X1 480),(X1 482),(X1 484),(X1 486),(X1 488)]) 0)
def zhh:=XO zi4 X6 .plain
def dM:ζ (Ϭ->Qi):=dO++[X2 L4 878 (X1 528)]
def zhg:=XD ik X6 dM 41
def dK:ζ μ:=dN++[(X0 281),(X0 0),(X1 503)]
def zhf:=XO X7 X6 (.sn (X8 dK))
def zhe:=XD ik X6 [(X2 mj 837 (XS uF 823)),(X2 tx 839 (XS L4 838)),(X2 mi 841 (X9 281 840)),(X2 FO 852 (X1 511)),(X2 PU 859 (X1 518)),(X2 zcq 866 (X1 525)),(X2 mh 871 (X1 526))] 7
def zhd:=XO X7 X6 (.sn (X8 [(X0 283),(X0 4),(X1 510),(X0 289),(X0 4),(X1 517),(X0 292),(X0 4),(X1 524)]))
def zhc:=Y2 L4 832 281 501 835
def zhb:=Y1 503 500 uF 823
def zha:=XO rc X6 (.seq (X8 [(XS L5 867),(XS FN 868),(XS L6 869),(XS ph 870)]) 0)
def gJ:ζ (Ϭ->Qi):=[X2 mj 837 (XS uF 823),X2 mi 841 (X9 281 840),X2 FO 852 (X1 511),X2 PU 859 (X1 518),X2 zcq 866 (X1 525),X2 mh 871 (X1 526),X2 n85 873 (X1 529)]++XQ 875 [(tw,X1 530),(n5,X7)]
def zg9:=XD ik X6 gJ 4
def zg8:=Y0 L4 528 527 830
def zg7:=Y3 872 528
def zg6:=Y4 874 528
def zg5:=Y6 528
def zg4:=Y5 528
def gI:ζ (Ϭ->Qi):=dM++[X2 Gx 1037 (X1 654)]
def zg3:=XD ik X6 gI 42
def dJ:ζ μ:=dK++[(X0 294),(X0 0),(X1 538)]
def zg2:=XO X7 X6 (.sn (X8 dJ))
def gH:ζ (Ϭ->Qi):=[X2 mj 886 (XS uF 823),X2 tx 888 (XS Gx 887),X2 mi 890 (X9 294 889),X2 FO 898 (X1 546),X2 PR 906 (X1 553),X2 VO 913 (X1 560),X2 PO 919 (X1 565),X2 PN 927 (X1 572),X2 LZ 939 (X1 579),X2 zcp 951 (X1 586),X2 DI 960 (X1 594),X2 LY 969 (X1 602),X2 IK 976 (X1 609),X2 zco 983 (X1 616),X2 PM 992 (X1 623),X2 zcn 1002 (X1 630),X2 zcm 1009 (X1 637),X2 zcl 1016 (X1 644),X2 zck 1023 (X1 651),X2 mh 1030 (X1 652)]
def zg1:=XD ik X6 gH 20
def gG:ζ μ:=[(X0 296),(X0 4),(X1 545),(X0 304),(X0 4),(X1 552),(X0 308),(X0 4),(X1 559),(X0 314),(X0 4),(X1 564),(X0 318),(X0 4),(X1 571),(X0 321),(X0 4),(X1 578),(X0 334),(X0 4),(X1 585),(X0 337),(X0 4),(X1 593),(X0 342),(X0 4),(X1 601),(X0 346),(X0 4),(X1 608),(X0 349),(X0 4),(X1 615),(X0 352),(X0 4),(X1 622),(X0 359),(X0 4),(X1 629),(X0 367),(X0 4),(X1 636),(X0 370),(X0 4),(X1 643),(X0 373),(X0 4),(X1 650)]
def zg0:=XO X7 X6 (.sn (X8 gG))
def zgZ:=Y2 Gx 881 294 536 884
def zgY:=Y1 538 535 uF 823
def zeM:=XO rc X6 (.seq (X8 [(X1 497)]) 0)
def zgX:=XO rc X6 (.seq (X8 [(XS mV 955),(XS zci 956),(XS ph 957)]) 0)
def zgW:=XO X7 X6 (XF (jn 36 7) DI PL 0 X7 X7 X7 X7 X6 X7 X7)
def zgV:=Y7 DI 952 PL 337 588 958
def zeL:=XO zz X6 (XF (jn 36 7) DI PL 3 (X1 587) X7 X7 (XS uF 823) X6 (X1 593) X7)
def zgU:=XO rc X6 (.seq (X8 [(XS mV 964),(XS VO 965),(XS ph 966)]) 0)
def zgT:=XO X7 X6 (XF (jn 36 8) LY PK 0 X7 X7 X7 X7 X6 X7 X7)
def zgS:=Y7 LY 961 PK 342 596 967
def zeK:=XO zz X6 (XF (jn 36 8) LY PK 3 (X1 595) X7 X7 (XS uF 823) X6 (X1 601) X7)
def zgR:=XO rc X6 (.seq (X8 [(XS zeZ 1024),(XS zeY 1025),(XS zeX 1026),(XS zch 1027),(XS om 1028),(XS zci 1029)]) 0)
def gE:ζ (Ϭ->Qi):=[X2 mj 886 (XS uF 823),X2 mi 890 (X9 294 889),X2 FO 898 (X1 546),X2 PR 906 (X1 553),X2 VO 913 (X1 560),X2 PO 919 (X1 565),X2 PN 927 (X1 572),X2 LZ 939 (X1 579),X2 zcp 951 (X1 586),X2 DI 960 (X1 594),X2 LY 969 (X1 602),X2 IK 976 (X1 609),X2 zco 983 (X1 616),X2 PM 992 (X1 623),X2 zcn 1002 (X1 630),X2 zcm 1009 (X1 637),X2 zcl 1016 (X1 644),X2 zck 1023 (X1 651),X2 mh 1030 (X1 652),X2 n85 1032 (X1 655)]++XQ 1034 [(tw,X1 656),(n5,X7)]
def zgQ:=XD ik X6 gE 4
def zgP:=Y0 Gx 654 653 879
def zgO:=Y3 1031 654
def zgN:=Y4 1033 654
def zgM:=Y6 654
def zgL:=Y5 654
def gD:ζ (Ϭ->Qi):=XQ 165 [(n3,XS zcg 1164),(n5,X7),(n6,X7),(n7,Kr s7097527257260152453x26),(n8,X7),(n9,X1 6),(sa,X1 4)]++XQ 173 [(zp,XS n1 172),(zo,X7)]++[X2 wy 193 (X1 21),X2 yc 197 (XS zm 196),X2 yb 199 (X9 4000 198),X2 wx 202 (X9 Sa 201),X2 wt 204 (XS zk 203),X2 pj 222 (X1 31),X2 vf 229 (X1 41),X2 vd 236 (X1 48),X2 vc 243 (X1 55),X2 vb 251 (X1 62),X2 uz 261 (X1 69),X2 uy 268 (X1 76),X2 wq 276 (X1 83),X2 wo 280 (X9 2000 279),X2 ux 286 (X1 88),X2 uw 296 (X1 95),X2 jj 302 (X1 100),X2 wm 314 (X1 107),X2 wj 321 (X1 114),X2 tq 427 (X1 187),X2 n86 530 (X1 264),X2 n96 634 (X1 341),X2 n97 642 (X1 352),X2 xS 751 (X1 427),X2 Wp 804 (X1 469)]++XQ 813 [(FQ,X1 478),(PZ,X1 489)]++[X2 om 822 (X1 496),X2 PY 826 (X9 20000 825)]++XQ 828 [(PW,X9 200000 827),(PV,X1 497)]++[X2 L4 878 (X1 528),X2 Gx 1037 (X1 654),X2 PJ 1043 (X1 663),X2 PH 1049 (X1 668),X2 PG 1055 (X1 673),X2 PF 1068 (X1 680),X2 PE 1087 (X1 687),X2 zcf 1091 (X9 20000 1090),X2 zce 1093 (X9 200 1092),X2 ph 1111 (X1 694),X2 PD 1118 (X1 701),X2 PC 1126 (X1 708),X2 PB 1135 (X1 715),X2 PA 1146 (X1 722),X2 Pz 1157 (X1 729),X2 Py 1163 (X1 734),X2 Px 1173 (X1 741),X2 Pw 1180 (X1 748),X2 Pv 1200 (X1 755),X2 zcd 1206 (X1 760)]
def zgK:=XD ik X6 gD 60
def gC:ζ μ:=dJ++[(X0 375),(X0 0),(X1 662),(X0 396),(X0 0),(X1 667),(X0 398),(X0 0),(X1 672),(X0 404),(X0 0),(X1 679),(X0 417),(X0 0),(X1 686),(X0 443),(X0 0),(X1 693),(X0 467),(X0 0),(X1 700),(X0 471),(X0 0),(X1 707),(X0 475),(X0 0),(X1 714),(X0 477),(X0 0),(X1 721),(X0 481),(X0 0),(X1 728),(X0 488),(X0 0),(X1 733),(X0 514),(X0 0),(X1 740),(X0 518),(X0 0),(X1 747),(X0 520),(X0 0),(X1 754),(X0 539),(X0 0),(X1 759)]
def zgJ:=XO X7 X6 (.sn (X8 gC))
def zam(P:Ϭ):wS:=⟨⟨[boot_o_0 P,boot_o_1 P,boot_o_2 P,boot_o_3 P,boot_o_4 P,boot_o_5 P,boot_o_6 P,boot_o_7 P,boot_o_8 P,boot_o_9 P,boot_o_10 P,o0 P,o1 P,o2 P,o3 P]⟩,{}⟩
def XW(l:ζ Ρ.ld)(t:θ):ζ μ:= @Xe Ρ.ld (λ_=>θ->ζ μ) (λ_=>[]) (λs _ ih t=>XS s t::ih (Z6 t)) l t
def XC(c n:Ρ.ld):Ρ.ld:=⟨⟨c.cps.ch++46::n.cps.ch⟩⟩
def nh(f:rh)(c d:Ρ.ld)(m:Ρ.ld)(k B T:θ)(l a:Φ)(ns:ζ Ρ.ld):ζ (Ϭ->Go):=[o0,o1,XO rc X6 (.seq (X8 (XW ns (T+3))) 0),o0,XO X7 X6 (XF f c d 0 X7 X7 X7 X7 X6 X7 X7),XO aB X6 (.sn (X8 [(XS c T),(XS d (T+1)),(XS n1 (T+2)),(X0 l),(X0 a),(X0 0),(X0 0),(X0 3),(X1 B),(XB Qe),(X0 181),(X1 (B+1)),X7,(X1 (B+2)),(X1 (B+3)),(X1 (B+4)),(X0 (Xa (T+3+ns.ε))),(X0 l),(XS n1 (T+4+ns.ε))])),XO zz X6 (XF f c d 3 X7 X7 X7 (XS m k) X6 (X1 (B+5)) X7)]
def yr(f:rh)(c d:Ρ.ld)(m:Ρ.ld)(k B T:θ)(l a:Φ):ζ (Ϭ->Go):=[o0,o1,XO X7 X6 (XF f c d 0 X7 X7 X7 X7 X6 X7 X7),XO aB X6 (.sn (X8 [(XS c T),(XS d (T+1)),(XS n1 (T+2)),(X0 l),(X0 a),(X0 0),(X0 0),(X0 3),(X1 B),(XB Qe),(X0 181),(X1 (B+1)),X7,X7,X7,(X1 (B+2)),(X0 (Xa (T+3+0))),(X0 l),(XS n1 (T+4+0))])),XO zz X6 (XF f c d 3 X7 X7 X7 (XS m k) X6 (X1 (B+3)) X7)]
def i8(j:θ)(c:Ρ.ld):=nh (px j) c c n2 164
def vp(j:θ)(c:Ρ.ld):=nh (px j) c c zj 194
def fA(j:θ)(c:Ρ.ld):=yr (px j) c c n4 277
def cS(j:θ)(c:Ρ.ld):=nh (px j) c c n4 277
def sj(j:θ)(c:Ρ.ld):=nh (jn 22 j) c (XC tq c) jm 322
def si(j:θ)(c:Ρ.ld):=nh (jn 23 j) c (XC n86 c) jm 322
def sh(j:θ)(c:Ρ.ld):=nh (jn 24 j) c (XC n96 c) jm 322
def cR(j:θ)(c:Ρ.ld):=nh (px j) c c jm 322
def sg(j:θ)(c:Ρ.ld):=nh (jn 26 j) c (XC xS c) jm 322
def aC(j:θ)(c:Ρ.ld):=nh (jn 27 j) c (XC Wp c) jm 322
def zdu(j:θ)(c:Ρ.ld):=nh (jn 35 j) c (XC L4 c) uF 823
def yE(j:θ)(c:Ρ.ld):=nh (jn 36 j) c (XC Gx c) uF 823
def zi9(j:θ)(c:Ρ.ld):=yr (jn 36 j) c (XC Gx c) uF 823
def zdt(j:θ)(c:Ρ.ld):=yr (px j) c c uF 823
def zi8(j:θ)(c:Ρ.ld):=nh (px j) c c uF 823
def zi7(j:θ)(c:Ρ.ld):=nh (px j) c c ziv 1069
def Bu(j:θ)(c:Ρ.ld):=nh (px j) c c zeU 1088
def zi6(j:θ)(c:Ρ.ld):=yr (px j) c c zeU 1088
def zds(j:θ)(c:Ρ.ld):=nh (px j) c c zcg 1164
def zi5(j:θ)(c:Ρ.ld):=yr (px j) c c zcg 1164
def aV:=XP X5 [(0,[boot_o_0,boot_o_1,boot_o_2,boot_o_3,boot_o_4,boot_o_5,boot_o_6,boot_o_7,boot_o_8,boot_o_9,boot_o_10,o0,o1,o2,o3])]
def aQ:=XP aV [(3,[o4]),(12,[o5]),(15,i8 0 wy 15 187 1 1 [b5]++[iI,tm,iH,o0,o1,iG,iF,o0,iE,iD,iC,iA,hZ]++vp 7 vf 35 223 11 1 [ya]++vp 8 vd 42 230 13 1 [ya]++vp 9 vc 49 237 17 1 [ya]++vp 10 vb 56 244 21 1 [bZ,ya]++vp 11 uz 63 252 27 4 [bY,bX,iM,iL]++vp 12 uy 70 262 31 1 [bY]++vp 13 wq 77 269 37 1 [xy,ya]++fA 16 ux 84 281 46 2++cS 17 uw 89 287 55 4 [om,ol,d0,ph]++fA 18 jj 96 297 58 2)]
def aP:=XP aQ [(3,[o58]),(12,[o59]),(101,cS 19 wm 101 303 73 3 [om,ol,bW,zi,dZ,dY]++cS 20 wj 108 315 80 1 [tu])]
def aN:=XP aP [(3,[o68]),(12,[o69]),(115,[o0,tm,o70,o0,o71,o72,o73]++sj 5 mf 122 344 92 2 [mV,uE]++sj 6 Da 129 352 97 3 [mV,uE,Gw]++sj 7 FM 136 361 100 3 [mV,uE,Gw]++sj 8 jj 143 370 103 2 [mV,uE]++sj 9 BB 150 378 106 2 [mV,ol]++sj 10 A9 157 386 109 3 [mV,uE,Gw]++sj 11 DH 164 395 112 3 [mV,uE,Gw]++sj 12 pg 171 404 115 2 [mV,uE]++sj 13 pf 178 412 118 2 [mV,xy]++[o0,zij,zii,zih,zig,zif,zie])]
def aM:=XP aN [(3,[zid]),(12,[zic]),(192,[o0,tm,zib,o0,zia,zh9,zh8]++si 5 mf 199 447 127 2 [mV,uE]++si 6 Da 206 455 132 3 [mV,uE,Gw]++si 7 FM 213 464 139 3 [mV,uE,Gw]++si 8 jj 220 473 144 2 [mV,uE]++si 9 BB 227 481 147 2 [mV,ol]++si 10 A9 234 489 150 3 [mV,uE,Gw]++si 11 DH 241 498 155 3 [mV,uE,Gw]++si 12 pg 248 507 158 2 [mV,uE]++si 13 pf 255 515 161 2 [mV,xy]++[o0,zh7,zh6,zh5,zh4,zh3,zh2])]
def aJ:=XP aM [(3,[zh1]),(12,[zh0]),(269,[o0,tm,zhZ,o0,zhY,zhX,zhW]++sh 5 mf 276 551 172 2 [mV,uE]++sh 6 Da 283 559 177 3 [mV,uE,Gw]++sh 7 FM 290 568 180 3 [mV,uE,Gw]++sh 8 jj 297 577 183 2 [mV,uE]++sh 9 BB 304 585 188 2 [mV,ol]++sh 10 A9 311 593 191 3 [mV,uE,Gw]++sh 11 DH 318 602 194 3 [mV,uE,Gw]++sh 12 pg 325 611 197 2 [mV,uE]++sh 13 pf 332 619 200 2 [mV,xy]++[o0,zhV,zhU,zhT,zhS,zhR,zhQ]++cR 25 n97 346 635 202 2 [uE,Gw])]
def aI:=XP aJ [(3,[zhP]),(12,[zhO]),(353,[o0,tm,zhN,o0,zhM,zhL,zhK,zhJ,zhI]++sg 5 mf 362 665 213 2 [mV,uE]++sg 6 Da 369 673 220 3 [mV,uE,Gw]++sg 7 FM 376 682 223 3 [mV,uE,Gw]++sg 8 jj 383 691 226 2 [mV,uE]++sg 9 BB 390 699 231 2 [mV,ol]++sg 10 A9 397 707 234 3 [mV,uE,Gw]++sg 11 DH 404 716 237 3 [mV,uE,Gw]++sg 12 pg 411 725 240 2 [mV,uE]++sg 13 pf 418 733 243 2 [mV,xy,L6,ziD,L5]++[o0,zhH,zhG,zhF,zhE,zhD,zhC])]
def aH:=XP aI [(3,[zhB]),(12,[zhA]),(427,[zhz]),(432,[zhy,tm,zhx,o0,zhw,zhv,zhu]++aC 2 mf 439 767 252 2 [mV,uE]++aC 3 Da 446 775 258 3 [mV,uE,Gw]++aC 4 jj 453 784 263 2 [mV,uE]++aC 5 DH 460 792 266 3 [mV,uE,Gw]++[o0,zht,zhs,zhr,zhq]++cR 28 FQ 472 805 268 2 [ze0,ziC,ziB])]
def aG:=XP aH [(3,[zhp]),(12,[zho]),(479,[Iq,zhn,Iq,zhm,Iq,zhl,Iq,zhk,Iq,zhj,zhi]++cR 30 om 490 815 272 1 [oj,IJ]++[zhh])]
def aF:=XP aG [(3,[zhg]),(12,[zhf]),(498,[o0,tm,zhe,o0,zhd,zhc,zhb]++zdu 0 FO 505 842 283 5 [mV,L6,L5,ph,FN]++zdu 1 PU 512 853 289 1 [mV]++zdu 2 zcq 519 860 292 1 [mV]++[zha,zg9,zg8,zg7,zg6,zg5,zg4])]
def zbi:=XP aF [(3,[zg3]),(12,[zg2]),(533,[o0,tm,zg1,o0,zg0,zgZ,zgY]++yE 0 FO 540 891 296 2 [mV,om]++yE 1 PR 547 899 304 2 [mV,n98]++yE 2 VO 554 907 308 1 [mV]++zi9 3 PO 561 914 314 2++yE 4 PN 566 920 318 2 [mV,ziA]++yE 5 LZ 573 928 321 6 [mV,zcj,L6,L5,ph,FN]++yE 6 zcp 580 940 334 6 [mV,zcj,L6,L5,ph,FN]++[zeM,o0,o1,zgX,o0,zgW,zgV,zeL,zeM,o0,o1,zgU,o0,zgT,zgS,zeK]++yE 9 IK 603 970 346 1 [mV]++yE 10 zco 610 977 349 1 [mV]++yE 11 PM 617 984 352 1 [mV,ol,LZ]++yE 12 zcn 624 993 359 1 [mV,zi,ol,LZ]++yE 13 zcm 631 1003 367 1 [mV]++yE 14 zcl 638 1010 370 1 [mV]++yE 15 zck 645 1017 373 1 [mV]++[zgR,zgQ,zgP,zgO,zgN,zgM,zgL])]
def Oy:=XP zbi [(3,[zgK]),(12,[zgJ]),(659,zdt 37 PJ 659 1038 375 1++zdt 38 PH 664 1044 396 1++zdt 39 PG 669 1050 398 1++zi8 40 PF 674 1056 404 3 [tu,zch,ziz,ziy,zix,VO,zeW]++zi7 42 PE 681 1071 417 1 [tu,om,A9,zi,VO,ol,ziw,LY,zeW,LZ,zeV]++Bu 46 ph 688 1094 443 3 [tu,L6,L5,om,A9,bW,dZ,dY,ol,VO,LZ,d0]++Bu 47 PD 695 1112 467 1 [bZ]++Bu 48 PC 702 1119 471 1 [tu,ol]++Bu 49 PB 709 1127 475 3 [bZ,zeT,ziu]++Bu 50 PA 716 1136 477 5 [tu,bW,zeV,VO,bY]++Bu 51 Pz 723 1147 481 2 [tu,ol,om,zi,VO]++zi6 52 Py 730 1158 488 2++zds 54 Px 735 1166 514 2 [zeS,b5]++zds 55 Pw 742 1174 518 1 [oj]++zds 56 Pv 749 1181 520 5 [zeS,zeT,IJ,zit,zis,tu,IK,ol,b5,ze0,zcj,FN,L6,L5]++zi5 57 zcd 756 1201 539 1)]
def zal(P:Ϭ):wS:=absHeap (Oy P) 761 {}
def zee:ζ Stmt:=(TP.main.TI.jp 0).na 19
def zed:ζ Stmt:=(TP.main.TI.jp 19).na 3
def zec:ζ Stmt:=(TP.main.TI.jp 22).na 1
def zeb:ζ Stmt:=(TP.main.TI.jp 23).na 1
def zea:ζ Stmt:=(TP.main.TI.jp 24).na 2
def zd9:ζ Stmt:=(TP.main.TI.jp 26).na 1
def zd8:ζ Stmt:=(TP.main.TI.jp 27).na 2
def zd7:ζ Stmt:=(TP.main.TI.jp 29).na 6
def zd6:ζ Stmt:=(TP.main.TI.jp 35).na 1
def SP:ζ Stmt:=(TP.main.TI.jp 36).na 1
def SO:ζ Stmt:=(TP.main.TI.jp 37).na 21
def Cm:ζ Stmt:=zee++(zed++(zec++(zeb++(zea++(zd9++(zd8++(zd7++(zd6++(SP++(SO++([])))))))))))
def xY:Env:= {scope:=TP.main.scope,locals:=mainNs,globals:=mainNs,cells:=[],code:=(.ξ 13),frame:=Qa 14}
def fp:Pos:=⟨0,0,0,0⟩
abbrev cE:Code:=Code.TI Cm xY
abbrev oM:η μ:=(Qa (.ξ 6))
def zer(w:Qm):(λos=>kr bh TP w 11 oM 12 ⟨QK w.Ϛ,Zu [],Ji,boot_toks,os⟩ (topStub TP))=λos=>Qa (⟨zam w.Ϛ,Zu [],{},187,os⟩,Thread.mk (lr bh cE) cE ⟨0,0,0,0⟩ [topFrame fp]):=by kernel_rfl
def zfP(w:Qm):(λos=>jl bh TP w 11 oM 1 1 ⟨zam w.Ϛ,Zu [],{},187,os⟩ (blockOf Cm xY cE ⟨0,0,0,0⟩ [topFrame fp]))=λos=>Qa (Flow.ϫ,qbm (ZO (aV w.Ϛ) 15 {} (Zu []) {} 187 os),cE,⟨0,0,0,0⟩):=by kernel_rfl
def zeD(w:Qm):(λos=>bt bh TP w 11 oM 1 578 (ZO (aV w.Ϛ) 15 {} (Zu []) {} 187 os) (piecesOf zee xY cE ⟨0,0,0,0⟩ [topFrame fp]))=λos=>Qa (Flow.ϫ,(ZO (aQ w.Ϛ) 101 {} (Zu []) {} 303 os),cE,⟨58,0,72,14⟩):=by kernel_rfl
def zeC(w:Qm):(λos=>bt bh TP w 11 oM 1 73 (ZO (aQ w.Ϛ) 101 {} (Zu []) {} 303 os) (piecesOf zed xY cE ⟨58,0,72,14⟩ [topFrame fp]))=λos=>Qa (Flow.ϫ,(ZO (aP w.Ϛ) 115 {} (Zu []) {} 324 os),cE,⟨84,0,84,8⟩):=by kernel_rfl
def zeB(w:Qm):(λos=>bt bh TP w 11 oM 1 530 (ZO (aP w.Ϛ) 115 {} (Zu []) {} 324 os) (piecesOf zec xY cE ⟨84,0,84,8⟩ [topFrame fp]))=λos=>Qa (Flow.ϫ,(ZO (aN w.Ϛ) 192 {} (Zu []) {} 428 os),cE,⟨85,0,119,41⟩):=by kernel_rfl
def zeA(w:Qm):(λos=>bt bh TP w 11 oM 1 529 (ZO (aN w.Ϛ) 192 {} (Zu []) {} 428 os) (piecesOf zeb xY cE ⟨85,0,119,41⟩ [topFrame fp]))=λos=>Qa (Flow.ϫ,(ZO (aM w.Ϛ) 269 {} (Zu []) {} 531 os),cE,⟨120,0,164,30⟩):=by kernel_rfl
def zez(w:Qm):(λos=>bt bh TP w 11 oM 1 560 (ZO (aM w.Ϛ) 269 {} (Zu []) {} 531 os) (piecesOf zea xY cE ⟨120,0,164,30⟩ [topFrame fp]))=λos=>Qa (Flow.ϫ,(ZO (aJ w.Ϛ) 353 {} (Zu []) {} 643 os),cE,⟨202,0,205,12⟩):=by kernel_rfl
def zey(w:Qm):(λos=>bt bh TP w 11 oM 1 541 (ZO (aJ w.Ϛ) 353 {} (Zu []) {} 643 os) (piecesOf zd9 xY cE ⟨202,0,205,12⟩ [topFrame fp]))=λos=>Qa (Flow.ϫ,(ZO (aI w.Ϛ) 432 {} (Zu []) {} 752 os),cE,⟨206,0,247,70⟩):=by kernel_rfl
def zex(w:Qm):(λos=>bt bh TP w 11 oM 1 393 (ZO (aI w.Ϛ) 432 {} (Zu []) {} 752 os) (piecesOf zd8 xY cE ⟨206,0,247,70⟩ [topFrame fp]))=λos=>Qa (Flow.ϫ,(ZO (aH w.Ϛ) 479 {} (Zu []) {} 814 os),cE,⟨268,0,270,29⟩):=by kernel_rfl
def zew(w:Qm):(λos=>bt bh TP w 11 oM 1 331 (ZO (aH w.Ϛ) 479 {} (Zu []) {} 814 os) (piecesOf zd7 xY cE ⟨268,0,270,29⟩ [topFrame fp]))=λos=>Qa (Flow.ϫ,(ZO (aG w.Ϛ) 498 {} (Zu []) {} 830 os),cE,⟨280,0,280,3⟩):=by kernel_rfl
def zeu(w:Qm):(λos=>bt bh TP w 11 oM 1 291 (ZO (aG w.Ϛ) 498 {} (Zu []) {} 830 os) (piecesOf zd6 xY cE ⟨280,0,280,3⟩ [topFrame fp]))=λos=>Qa (Flow.ϫ,(ZO (aF w.Ϛ) 533 {} (Zu []) {} 879 os),cE,⟨281,0,293,39⟩):=by kernel_rfl
def zbT(w:Qm):(λos=>bt bh TP w 11 oM 1 721 (ZO (aF w.Ϛ) 533 {} (Zu []) {} 879 os) (piecesOf SP xY cE ⟨281,0,293,39⟩ [topFrame fp]))=λos=>Qa (Flow.ϫ,(ZO (zbi w.Ϛ) 659 {} (Zu []) {} 1038 os),cE,⟨294,0,374,17⟩):=by kernel_rfl
def zbS(w:Qm):(λos=>bt bh TP w 11 oM 1 547 (ZO (zbi w.Ϛ) 659 {} (Zu []) {} 1038 os) (piecesOf SO xY cE ⟨294,0,374,17⟩ [topFrame fp]))=λos=>Qa (Flow.ϫ,(ZO (Oy w.Ϛ) 761 {} (Zu []) {} 1207 os),cE,⟨539,0,554,45⟩):=by kernel_rfl
def zfF(w:Qm):(λos=>jk bh TP w 11 oM 2 (qbm (ZO (Oy w.Ϛ) 761 {} (Zu []) {} 1207 os)) (Thread.mk (doneF Flow.ϫ) cE ⟨539,0,554,45⟩ [topFrame fp]))=λos=>Qa (⟨zal w.Ϛ,Zu [],{},1207,os⟩):=by kernel_rfl
abbrev zbs:θ:=(12+(1+(578+(73+(530+(529+(560+(541+(393+(331+(291+(721+(547+2)))))))))))))
def fV{w:Qm}{n:θ}{s:Qg}{t:Jm}{x}(h:kr bh TP w 11 oM n s t=x):topGo treeTable TP w 11 oM n s t=x:=by rw[Al,nD];exact h
def fW{w:Qm}{n:θ}{s:Qg}{t:Jm}{x}(h:jl bh TP w 11 oM 1 n s t=x):segRun treeTable TP w 11 oM 1 n s t=x:=by rw[HW,nD];exact h
theorem qf{w:Qm}{n:θ}{s s':SharedT}{t:Jm}{f:Jl}{c:Code}{q:Pos}(h:bt bh TP w 11 oM 1 n s t=Qa (f,s',c,q)):segRun treeTable TP w 11 oM 1 n s.abs t=Qa (f,s'.abs,c,q):=segRun_of (by rw[G6,nD];exact h)
def fU{w:Qm}{n:θ}{s:Qg}{t:Jm}{x}(h:jk bh TP w 11 oM n s t=x):topRun treeTable TP w 11 oM n s t=x:=by rw[HV,nD];exact h
theorem zgA(w:Qm)(os:OsState):topRun treeTable TP w 11 oM zbs ⟨QK w.Ϛ,Zu [],Ji,boot_toks,os⟩ (topStub TP)=Qa ⟨zal w.Ϛ,Zu [],{},1207,os⟩:=
 go_top (fV (by have h:=congrFun (zer w) os;rw[<-nD,<-HY] at h;rw[<-nD];exact h)) (piece_block (fW (congrFun (zfP w) os)) (Qu (qf (congrFun (zeD w) os)) (Qu (qf (congrFun (zeC w) os)) (Qu (qf (congrFun (zeB w) os)) (Qu (qf (congrFun (zeA w) os)) (Qu (qf (congrFun (zez w) os)) (Qu (qf (congrFun (zey w) os)) (Qu (qf (congrFun (zex w) os)) (Qu (qf (congrFun (zew w) os)) (Qu (qf (congrFun (zeu w) os)) (Qu (qf (congrFun (zbT w) os)) (Qu (qf (congrFun (zbS w) os)) (fU (congrFun (zfF w) os))))))))))))))
def zy:ζ Addr:=JZ 0 23++(JZ 29 4++(JZ 35 80++(JZ 122 68++(JZ 199 68++(JZ 276 68++(JZ 346 7++(JZ 360 70++([432]++(JZ 439 31++(JZ 472 26++(JZ 505 26++(JZ 540 117++(JZ 659 102)))))))))))))
def KK(P:Ϭ):Frag:=zy.π λa=>(a,XG (Oy P) a)
abbrev v5:θ:=761
abbrev SM:θ:=1207
abbrev m00:θ:=11
def bK(p:Qs):Program:= {p with main:= {p.main with body:=p.main.TI.jp 57} }
def zcz:ζ Ρ.ld:=[wy,yc,yb,wx,wt,pj,vf,vd,vc,vb,uz,uy,wq,wo,ux,uw,jj,wm,wj,tq,n86,n96,n97,xS,Wp,FQ,PZ,om,PY,PW,PV,L4,Gx,PJ,PH,PG,PF,PE,zcf,zce,ph,PD,PC,PB,PA,Pz,Py,Px,Pw,Pv]
abbrev NN:θ:=7000
theorem Mq:∀P,zy=(KK P).π (·.1):=λP=>by kernel_rfl
theorem vk{w:Qm}{s t:Qg}(y:obsZ zy s=valZ KK v5 SM w)(k:∀b o,s.Ν.sB b=Qa o->t.Ν.sB b=Qa o):Frag.In (KK w.Ϛ) t.Ν/\s.Ν.wi.Ϡ=nat_lit 761/\s.zn=nat_lit 1207:=
 ⟨InK.keeps w s.Ν t.Ν (z_facts Mq y).2.1 k,(z_facts Mq y).2.2.1,(z_facts Mq y).2.2.2⟩
theorem zc4:∀w:Qm,(fencedOpening treeTable TP w NN).π (λs=>(s.Ν,s.gens,s.drawn,s.zn))=Qa (QK w.Ϛ,Zu [],Ji,boot_toks):=
 boot_open (p:=TP) (N:=NN) (by kernel_rfl) (by decide) (λs=>by rfl)
theorem zc3: ∀w:Qm,((QK w.Ϛ).isNs mainGlobals && (Zu []:ϛ GenState).Ϡ==0,(QK w.Ϛ).wi.Ϡ,(QK w.Ϛ).nsMap mainGlobals "__annotations__")=(Qe,11,oM):=λw=>by kernel_rfl
abbrev pw:Program:=Ρ.Challenge.pw_ui0508_14
def yf:LeftO pw (bK pw) zcz (λs=>xlAt (bK pw) [] s && recOk [] s) (obsZ zy) (valZ KK v5 SM) NN:=by
 exact LeftO.of_pieces (p:=TP) (g0:=Qe) zc4 zc3 zgA (by decide) (λw=>by kernel_rfl)
abbrev QQ(s₀ s₁:Qg)(ns:ζ Φ):μ->Qg->Prop:=λv s'=>Jj Ρ.Challenge.rw_ui0508_14.Tq.claim (classAt s₀.Ν) (ExcName.means s₀.Ν) [ofPy (YM (Xu Xb ns))] s₁ (.ok (.ret v)) s'
abbrev EE(s₀ s₁:Qg)(ns:ζ Φ):μ->Qg->Prop:=λe s'=>Jj Ρ.Challenge.rw_ui0508_14.Tq.claim (classAt s₀.Ν) (ExcName.means s₀.Ν) [ofPy (YM (Xu Xb ns))] s₁ (.error e) s'
theorem small{p:Qs}{w:Qm}{A:Qv}{t:Sem μ}{s₀ s₁ s:Qg}{ns:ζ Φ}(h:Qh (model p w) A t (QQ s₀ s₁ ns) (EE s₀ s₁ ns) s):
  Qh (model p w) A t (λv s'=>Jj Ρ.Challenge.rw_ui0508_14.Tq.claim (classAt s₀.Ν) (ExcName.means s₀.Ν) [ofPy (YM (Xu Xb ns))] s₁ (.ok (.ret v)) s')
   (λe s'=>Jj Ρ.Challenge.rw_ui0508_14.Tq.claim (classAt s₀.Ν) (ExcName.means s₀.Ν) [ofPy (YM (Xu Xb ns))] s₁ (.error e) s') s:=h
end Tactic
namespace Tactic
open Internal
abbrev xw:θ:=1851878757
abbrev oi:θ:=121424990136436
abbrev xu:θ:=1852138852
abbrev tn:θ:=1886156147
abbrev pd:θ:=499984983411
abbrev wg:θ:=1937006962
def zv:ζ (Ρ.ld×ab):=[(wt,(.Ϥ [32,9,10,58,47,95,91,93,62,35,59,63,61])),((XN 0x1bb2ec),(.bi 7103854)),((XN 0x1cba73),(.ty 7566450)),((XN 0xcbc3cf4),(.ty 1954115685)),(pj,(.aj 100)),(vf,(.aj 101)),(uy,(.aj 102)),(vd,(.aj 103)),((XN 0x1d3769),(.ty 6909556)),(wo,(.Β 2000)),(uw,(.aj 104)),((XN 0x65cfbb0f2),(.ty 491260897125)),(om,(.aj 105)),(ph,(.aj 106)),((XN 0xe98f4e4),(.ty 1684628340)),((XN 0x3265e9cb7f3),(.bi 126922498794852)),(jj,(.aj 107)),(ux,(.aj 108)),((XN 0x1e30ed),(.bi 7168376)),((XN 0x1bb4ed),(.bi 7170414)),(wx,(.Β (10 ^ 4000))),(n97,(.aj 109)),((XN 0x65d9c3af4),(.ty 500186508389)),(FQ,(.aj 110)),(xS,(.aj 111)),(PZ,(.fl [.aj 112,.aj 113,.aj 114,.aj 115,.aj 116])),(PY,(.Β 20000)),(uz,(.aj 117)),(L4,(.aj 118)),(PW,(.Β 200000)),(vc,(.aj 119)),(PV,(.aj 120)),(Gx,(.aj 121)),(PG,(.aj 123)),(PF,(.aj 124)),(PH,(.aj 125)),((XN 0xe9cf4ec),(.ty 1818850164)),(wj,(.aj 131)),(PJ,(.aj 133)),(PA,(.aj 126)),(Pz,(.aj 127)),(PC,(.aj 128)),(PB,(.aj 129)),(PD,(.aj 130)),(wm,(.aj 132)),(zce,(.Β 200)),(vb,(.aj 134)),(zcf,(.Β 20000)),(Px,(.aj 137)),(Pw,(.aj 138)),(Pv,(.aj 139)),(Py,(.aj 141)),(PE,(.aj 188)),((XN 0x1d32f3),(.ty 7562612))]
def eY:ζ (θ×Qk):=[(100,31),(101,41),(102,76),(103,48),(104,95),(105,496),(106,694),(107,100),(108,88),(109,352),(110,478),(111,427),(112,480),(113,482),(114,484),(115,486),(116,488),(117,69),(118,528),(119,55),(120,497),(121,654),(123,673),(124,680),(125,668),(126,722),(127,729),(128,708),(129,715),(130,701),(131,114),(132,107),(133,663),(134,62),(137,741),(138,748),(139,755),(141,734),(142,128),(143,135),(144,142),(145,149),(146,187),(147,205),(148,212),(149,219),(150,226),(151,264),(152,282),(153,289),(154,296),(155,303),(156,341),(157,368),(158,375),(159,382),(160,389),(161,445),(162,452),(163,459),(164,469),(165,518),(166,511),(167,553),(168,560),(169,565),(170,572),(171,579),(172,594),(173,602),(174,609),(175,623),(176,644),(177,546),(178,760),(187,637),(188,687),(191,586),(202,156),(203,163),(204,177),(205,233),(206,240),(207,254),(208,310),(209,317),(210,331),(211,396),(212,403),(213,417),(214,525),(215,651),(237,83),(240,184),(241,261),(242,338),(243,424)]
def c00(w:Qm)(so:Go):bf:= ⟨pw,w,(v5,so)::KK w.Ϛ,⟨[],[],[]⟩,eY⟩
abbrev cP(n:θ):= {b:θ×θ×ζ Sm // ∀w so,Nd (c00 w so) zv ⟨n,0,[],0,[]⟩=Qa b}
def u5:cP 101:=⟨_,λ_ _=>by conv=>lhs;reduce⟩
def oG:ζ Sm:=u5.1.2.2
def uL:Fn:=⟨101,1,[],7,oG⟩
def rV:cP 103:=⟨_,λ_ _=>by conv=>lhs;reduce⟩
def mY:ζ Sm:=rV.1.2.2
def rQ:Fn:=⟨103,1,[],7,mY⟩
def tY:cP 119:=⟨_,λ_ _=>by conv=>lhs;reduce⟩
def nY:ζ Sm:=tY.1.2.2
def sJ:Fn:=⟨119,1,[],7,nY⟩
def u4:cP 134:=⟨_,λ_ _=>by conv=>lhs;reduce⟩
def oF:ζ Sm:=u4.1.2.2
def uK:Fn:=⟨134,1,[],8,oF⟩
def tZ:cP 117:=⟨_,λ_ _=>by conv=>lhs;reduce⟩
def nZ:ζ Sm:=tZ.1.2.2
def sL:Fn:=⟨117,4,[],10,nZ⟩
def Vy:cP 108:=⟨_,λ_ _=>by conv=>lhs;reduce⟩
def sU:ζ Sm:=Vy.1.2.2
def WK:Fn:=⟨108,2,[],11,sU⟩
def G8:cP 104:=⟨_,λ_ _=>by conv=>lhs;reduce⟩
def rE:ζ Sm:=G8.1.2.2
def GF:Fn:=⟨104,4,[],10,rE⟩
def US:cP 107:=⟨_,λ_ _=>by conv=>lhs;reduce⟩
def uQ:ζ Sm:=US.1.2.2
def VW:Fn:=⟨107,2,[],15,uQ⟩
def vM:cP 132:=⟨_,λ_ _=>by conv=>lhs;reduce⟩
def o9:ζ Sm:=vM.1.2.2
def vA:Fn:=⟨132,3,[],12,o9⟩
def uZ:cP 131:=⟨_,λ_ _=>by conv=>lhs;reduce⟩
def l7:ζ Sm:=uZ.1.2.2
def uH:Fn:=⟨131,1,[],7,l7⟩
def Dd:cP 142:=⟨_,λ_ _=>by conv=>lhs;reduce⟩
def HP:ζ Sm:=Dd.1.2.2
def Hu:Fn:=⟨142,2,[],8,HP⟩
def HN:ζ Sm:=[.ret (.bn (.py (.bi 7168376)) [.Ο 1,.Ο 2])]
def Ht:Fn:=⟨143,3,[],9,HN⟩
def GW:ζ Sm:=[.ret (.bn (.py (.bi 7170414)) [.Ο 1,.Ο 2])]
def GI:Fn:=⟨144,3,[],9,GW⟩
def HL:ζ Sm:=[.ret (.py (.Β 1))]
def Hr:Fn:=⟨145,2,[],8,HL⟩
def UZ:cP 147:=⟨_,λ_ _=>by conv=>lhs;reduce⟩
def uT:ζ Sm:=UZ.1.2.2
def V6:Fn:=⟨147,2,[],8,uT⟩
def UY:cP 148:=⟨_,λ_ _=>by conv=>lhs;reduce⟩
def Ug:ζ Sm:=UY.1.2.2
def V5:Fn:=⟨148,3,[],9,Ug⟩
def VD:cP 149:=⟨_,λ_ _=>by conv=>lhs;reduce⟩
def Vf:ζ Sm:=VD.1.2.2
def WR:Fn:=⟨149,3,[],9,Vf⟩
def Ue:ζ Sm:=[.ret (.py (.Β 0))]
def V4:Fn:=⟨150,2,[],8,Ue⟩
def U1:cP 152:=⟨_,λ_ _=>by conv=>lhs;reduce⟩
def uU:ζ Sm:=U1.1.2.2
def V9:Fn:=⟨152,2,[],8,uU⟩
def Ui:ζ Sm:=[.ret (.fq .am (.Ο 1) (.Ο 2))]
def V8:Fn:=⟨153,3,[],9,Ui⟩
def sZ:ζ Sm:=[.ret (.fq .ss (.Ο 1) (.Ο 2))]
def WU:Fn:=⟨154,3,[],9,sZ⟩
def U0:cP 155:=⟨_,λ_ _=>by conv=>lhs;reduce⟩
def Uh:ζ Sm:=U0.1.2.2
def V7:Fn:=⟨155,2,[],8,Uh⟩
def UX:cP 109:=⟨_,λ_ _=>by conv=>lhs;reduce⟩
def uS:ζ Sm:=UX.1.2.2
def V3:Fn:=⟨109,2,[],8,uS⟩
def VH:cP 157:=⟨_,λ_ _=>by conv=>lhs;reduce⟩
def tA:ζ Sm:=VH.1.2.2
def W2:Fn:=⟨157,2,[],8,tA⟩
def VF:cP 158:=⟨_,λ_ _=>by conv=>lhs;reduce⟩
def s7:ζ Sm:=VF.1.2.2
def WZ:Fn:=⟨158,3,[],9,s7⟩
def zR:cP 159:=⟨_,λ_ _=>by conv=>lhs;reduce⟩
def rL:ζ Sm:=zR.1.2.2
def y5:Fn:=⟨159,3,[],9,rL⟩
def VE:cP 160:=⟨_,λ_ _=>by conv=>lhs;reduce⟩
def Vg:ζ Sm:=VE.1.2.2
def WY:Fn:=⟨160,2,[],8,Vg⟩
def VC:cP 161:=⟨_,λ_ _=>by conv=>lhs;reduce⟩
def sY:ζ Sm:=VC.1.2.2
def WQ:Fn:=⟨161,2,[],8,sY⟩
def VB:cP 162:=⟨_,λ_ _=>by conv=>lhs;reduce⟩
def sW:ζ Sm:=VB.1.2.2
def WO:Fn:=⟨162,3,[],9,sW⟩
def Ve:ζ Sm:=[.ret (.aq (.Ο 0) 7302757)]
def WN:Fn:=⟨163,2,[],8,Ve⟩
def xI:cP 110:=⟨_,λ_ _=>by conv=>lhs;reduce⟩
def pP:ζ Sm:=xI.1.2.2
def wM:Fn:=⟨110,2,[],9,pP⟩
def UW:cP 105:=⟨_,λ_ _=>by conv=>lhs;reduce⟩
def Ud:ζ Sm:=UW.1.2.2
def V2:Fn:=⟨105,1,[],8,Ud⟩
def De:cP 166:=⟨_,λ_ _=>by conv=>lhs;reduce⟩
def yR:ζ Sm:=De.1.2.2
def Hv:Fn:=⟨166,5,[],11,yR⟩
def zS:cP 165:=⟨_,λ_ _=>by conv=>lhs;reduce⟩
def rM:ζ Sm:=zS.1.2.2
def y6:Fn:=⟨165,1,[],7,rM⟩
def zQ:cP 177:=⟨_,λ_ _=>by conv=>lhs;reduce⟩
def rK:ζ Sm:=zQ.1.2.2
def y4:Fn:=⟨177,2,[],8,rK⟩
def rX:cP 167:=⟨_,λ_ _=>by conv=>lhs;reduce⟩
def m3:ζ Sm:=rX.1.2.2
def rT:Fn:=⟨167,2,[],8,m3⟩
def yV:cP 168:=⟨_,λ_ _=>by conv=>lhs;reduce⟩
def qE:ζ Sm:=yV.1.2.2
def xW:Fn:=⟨168,1,[],7,qE⟩
def xJ:cP 169:=⟨_,λ_ _=>by conv=>lhs;reduce⟩
def pQ:ζ Sm:=xJ.1.2.2
def wO:Fn:=⟨169,2,[],8,pQ⟩
def rW:cP 170:=⟨_,λ_ _=>by conv=>lhs;reduce⟩
def mZ:ζ Sm:=rW.1.2.2
def rS:Fn:=⟨170,2,[],8,mZ⟩
def VA:cP 171:=⟨_,λ_ _=>by conv=>lhs;reduce⟩
def sV:ζ Sm:=VA.1.2.2
def WL:Fn:=⟨171,6,[],12,sV⟩
def yW:cP 172:=⟨_,λ_ _=>by conv=>lhs;reduce⟩
def qF:ζ Sm:=yW.1.2.2
def ej:Fn:=⟨172,3,[(ab.aj 120)],9,qF⟩
def Vz:cP 173:=⟨_,λ_ _=>by conv=>lhs;reduce⟩
def pC:ζ Sm:=Vz.1.2.2
def fh:Fn:=⟨173,3,[(ab.aj 120)],9,pC⟩
def rJ:ζ Sm:=[.ret (.bn (.py (.bi 7103854)) [.aq (.Ο 0) 1634886515])]
def y3:Fn:=⟨174,1,[],7,rJ⟩
def uA:cP 175:=⟨_,λ_ _=>by conv=>lhs;reduce⟩
def oA:ζ Sm:=uA.1.2.2
def sO:Fn:=⟨175,1,[],9,oA⟩
def zO:cP 133:=⟨_,λ_ _=>by conv=>lhs;reduce⟩
def lQ:ζ Sm:=zO.1.2.2
def yZ:Fn:=⟨133,1,[],15,lQ⟩
def vP:cP 125:=⟨_,λ_ _=>by conv=>lhs;reduce⟩
def pB:ζ Sm:=vP.1.2.2
def vC:Fn:=⟨125,1,[],7,pB⟩
def tX:cP 123:=⟨_,λ_ _=>by conv=>lhs;reduce⟩
def nX:ζ Sm:=tX.1.2.2
def sI:Fn:=⟨123,1,[],10,nX⟩
def zP:cP 124:=⟨_,λ_ _=>by conv=>lhs;reduce⟩
def rI:ζ Sm:=zP.1.2.2
def y0:Fn:=⟨124,3,[],13,rI⟩
def pT:cP 188:=⟨_,λ_ _=>by conv=>lhs;reduce⟩
def jY:ζ Sm:=pT.1.2.2
def pG:Fn:=⟨188,1,[],17,jY⟩
def UT:cP 106:=⟨_,λ_ _=>by conv=>lhs;reduce⟩
def lS:ζ Sm:=UT.1.2.2
def VY:Fn:=⟨106,3,[],18,lS⟩
def vO:cP 130:=⟨_,λ_ _=>by conv=>lhs;reduce⟩
def pA:ζ Sm:=vO.1.2.2
def vB:Fn:=⟨130,1,[],7,pA⟩
def UU:cP 128:=⟨_,λ_ _=>by conv=>lhs;reduce⟩
def uR:ζ Sm:=UU.1.2.2
def VZ:Fn:=⟨128,1,[],8,uR⟩
def La:cP 129:=⟨_,λ_ _=>by conv=>lhs;reduce⟩
def xC:ζ Sm:=La.1.2.2
def GH:Fn:=⟨129,3,[],9,xC⟩
def Dc:cP 126:=⟨_,λ_ _=>by conv=>lhs;reduce⟩
def pO:ζ Sm:=Dc.1.2.2
def Hq:Fn:=⟨126,5,[],11,pO⟩
def UV:cP 127:=⟨_,λ_ _=>by conv=>lhs;reduce⟩
def pZ:ζ Sm:=UV.1.2.2
def V1:Fn:=⟨127,2,[],11,pZ⟩
def G9:cP 141:=⟨_,λ_ _=>by conv=>lhs;reduce⟩
def l4:ζ Sm:=G9.1.2.2
def GG:Fn:=⟨141,2,[],18,l4⟩
def yU:cP 137:=⟨_,λ_ _=>by conv=>lhs;reduce⟩
def qD:ζ Sm:=yU.1.2.2
def xV:Fn:=⟨137,2,[],8,qD⟩
def u2:cP 138:=⟨_,λ_ _=>by conv=>lhs;reduce⟩
def oE:ζ Sm:=u2.1.2.2
def uI:Fn:=⟨138,1,[],7,oE⟩
def u3:cP 139:=⟨_,λ_ _=>by conv=>lhs;reduce⟩
def kE:ζ Sm:=u3.1.2.2
def uJ:Fn:=⟨139,5,[],20,kE⟩
def EK:cP 178:=⟨_,λ_ _=>by conv=>lhs;reduce⟩
def lC:ζ Sm:=EK.1.2.2
def vD:Fn:=⟨178,1,[],15,lC⟩
def P0:gx:=⟨[uL,rQ,sJ,uK,sL,WK,GF,VW,vA,uH,Hu,Ht,GI,Hr,V6,V5,WR,V4,V9,V8,WU,V7,V3,W2,WZ,y5,WY,WQ,WO,WN,wM,V2,Hv,y6,y4,rT,xW,wO,rS,WL,ej,fh,y3,sO,yZ,vC,sI,y0,pG,VY,vB,VZ,GH,Hq,V1,GG,xV,uI,uJ,vD],
 [⟨146,[(xw,(.Ϥ [121,101,115])),(oi,(.Β 0)),(7302757,(.Β 1)),(xu,(.aj 142)),(tn,(.aj 143)),(pd,(.aj 144)),(wg,(.aj 145))],Qd,[]⟩,
  ⟨151,[(xw,(.Ϥ [108,101,97,115,116])),(oi,.Ε),(7302757,(.Β 0)),(xu,(.aj 147)),(tn,(.aj 148)),(pd,(.aj 149)),(wg,(.aj 150))],Qd,[]⟩,
  ⟨156,[(xw,(.Ϥ [99,111,117,110,116])),(oi,(.Β 0)),(7302757,(.Β 1)),(xu,(.aj 152)),(tn,(.aj 153)),(pd,(.aj 154)),(wg,(.aj 155))],Qd,[]⟩,
  ⟨111,[(xw,(.Ϥ [99,104,97,110,99,101])),(oi,(.ay [.Β 0,.Β 1])),(7302757,(.ay [.Β 1,.Β 1])),(xu,(.aj 157)),(tn,(.aj 158)),(pd,(.aj 159)),(wg,(.aj 160))],Qd,[]⟩,
  ⟨164,[(xw,(.Ϥ [108,105,107,101,108,121])),(xu,(.aj 161)),(tn,(.aj 162)),(wg,(.aj 163)),(oi,(.ay [.Β 0,.Β 1])),(7302757,(.ay [.Β 1,.Β 1])),(pd,(.aj 159))],Qd,[]⟩,
  ⟨118,[(7598521885536580729,(.aj 165))],Qa 166,[504397587826,465726563698,131277443786868,127961880028532]⟩,
  ⟨121,[(450661264077055929053037,(.aj 167)),(495873782885,(.aj 168)),(126943688418675,(.aj 169)),(521330740336550618428517,(.aj 170)),(6386275,(.aj 171)),(422608071022,(.aj 172)),(6647396,(.aj 173)),(1936292453,(.aj 174)),(1925483444799026525305,(.aj 175))],Qa 177,[1919512167,1634886515,1701733491,495873782388,439855772532,104880676367988]⟩],
 [(112,146),(113,151),(114,156),(115,111),(116,164)]⟩
def iK:ζ Ρ.ld:=[zeZ,PR,LZ,zeY,DI,LY,zeX,zch,PM,PU,L5,oj,mf,PN,Pu,IJ,Da,om,IK,jj,zci,VO,PO,FN,FM,L6,ph]
def ij(w:Qm)(so:Go):bf:= ⟨pw,w,(v5,so)::KK w.Ϛ,P0,eY⟩
section
variable(w:Qm)(so:Obj)
def zd2:P0.nf.π (Nd (ij w so) zv)=P0.nf.π λf=>Qa (f.np,f.ns,f.TI):=by kernel_rfl
def zgr:P0.nf.Hd (Ψ.jn (ij w so))=true:=by kernel_rfl
def zgq:zv.Hd (b9 (ij w so))=true:=by kernel_rfl
def zgp:P0.jy.Hd (Mu (ij w so))=true:=by kernel_rfl
def zgt:P0.cls.Hd (cI (ij w so) iK)=true:=by kernel_rfl
theorem zgu:uY (ij w so):=zc6 (by kernel_rfl) (by kernel_rfl) (by kernel_rfl)
def kH:FuncData:=fnOf DI PL (jn 36 7).1 (jn 36 7).2.1 (jn 36 7).2.2 (.ξ 587) KH KH (KQ uF 823) Qd (.ξ 593) KH
def yC(S:Q5)(v0:μ)(v1:μ):peek (ij w so).K S (bindArgs kH ⟨[v0,v1],[]⟩)=Qa ((kH.Ϛ.TJ.π (·.arg)).zip [v0,v1,(.ξ 497)]):=by kernel_rfl
def yB(S:Q5)(v0:μ)(v1:μ)(v2:μ):peek (ij w so).K S (bindArgs kH ⟨[v0,v1,v2],[]⟩)=Qa ((kH.Ϛ.TJ.π (·.arg)).zip [v0,v1,v2]):=by kernel_rfl
theorem yY(S:Q5):∀(vs:ζ μ),vs.ε<=3->3-vs.ε<=1->peek (ij w so).K S (bindArgs kH ⟨vs,[]⟩)=Qa ((kH.Ϛ.TJ.π (·.arg)).zip (vs++qac (1-(3-vs.ε)) [(.ξ 497)])):=λvs h1 h2=>match vs,h1,h2 with
 | [],_,h2=>ς h2 (show ¬3-0<=1 by decide)
 | [_],_,h2=>ς h2 (show ¬3-1<=1 by decide)
 | [v0,v1],_,_=>yC w so S v0 v1
 | [v0,v1,v2],_,_=>yB w so S v0 v1 v2
 |_::_::_::_::r,h1,_=>ς h1 (show ¬r.ε+4<=3 by omega)
theorem y7:Vw (ij w so) ej:=λh p e=>by
 rw[show MR (ij w so) ej=Qa ⟨594,zeL w.Ϛ,kH⟩ from by kernel_rfl] at e;cases e;exact .IO ⟨h,[(.ξ 497)],λw'=>zM (z9 5) w' _ _ (by kernel_rfl),λS vs h1 h2=>yY w so S vs h1 h2⟩
def kU:FuncData:=fnOf LY PK (jn 36 8).1 (jn 36 8).2.1 (jn 36 8).2.2 (.ξ 595) KH KH (KQ uF 823) Qd (.ξ 601) KH
def Vk(S:Q5)(v0:μ)(v1:μ):peek (ij w so).K S (bindArgs kU ⟨[v0,v1],[]⟩)=Qa ((kU.Ϛ.TJ.π (·.arg)).zip [v0,v1,(.ξ 497)]):=by kernel_rfl
def Vj(S:Q5)(v0:μ)(v1:μ)(v2:μ):peek (ij w so).K S (bindArgs kU ⟨[v0,v1,v2],[]⟩)=Qa ((kU.Ϛ.TJ.π (·.arg)).zip [v0,v1,v2]):=by kernel_rfl
theorem VN(S:Q5):∀(vs:ζ μ),vs.ε<=3->3-vs.ε<=1->peek (ij w so).K S (bindArgs kU ⟨vs,[]⟩)=Qa ((kU.Ϛ.TJ.π (·.arg)).zip (vs++qac (1-(3-vs.ε)) [(.ξ 497)])):=λvs h1 h2=>match vs,h1,h2 with
 | [],_,h2=>ς h2 (show ¬3-0<=1 by decide)
 | [_],_,h2=>ς h2 (show ¬3-1<=1 by decide)
 | [v0,v1],_,_=>Vk w so S v0 v1
 | [v0,v1,v2],_,_=>Vj w so S v0 v1 v2
 |_::_::_::_::r,h1,_=>ς h1 (show ¬r.ε+4<=3 by omega)
theorem Ub:Vw (ij w so) fh:=λh p e=>by
 rw[show MR (ij w so) fh=Qa ⟨602,zeK w.Ϛ,kU⟩ from by kernel_rfl] at e;cases e;exact .IO ⟨h,[(.ξ 497)],λw'=>zM (z9 5) w' _ _ (by kernel_rfl),λS vs h1 h2=>VN w so S vs h1 h2⟩
def NS:ζ Fn->Prop
 | []=>True
 |f::r=>Vw (ij w so) f/\NS r
def NS.at:∀{l:ζ Fn},NS w so l->∀f∈l,Vw (ij w so) f:=by
 intro l
 induction l with
 |Ϝ=>exact λ_ _ h=>ς h Jz
 |Ι f l ih=>exact λh g hg=>(JM.mp hg).ι (λe=>e▸h.1) λhg=>ih h.2 g hg
theorem kF{α:Sort _}{a:α}{P:Prop}(h:¬a=a):P:=ς rfl h
theorem zgs:∀f∈P0.nf,Vw (ij w so) f:=NS.at w so (show NS w so P0.nf from⟨kF,⟨kF,⟨kF,⟨kF,⟨kF,⟨kF,⟨kF,⟨kF,⟨kF,⟨kF,⟨kF,⟨kF,⟨kF,⟨kF,⟨kF,⟨kF,⟨kF,⟨kF,⟨kF,⟨kF,⟨kF,⟨kF,⟨kF,⟨kF,⟨kF,⟨kF,⟨kF,⟨kF,⟨kF,⟨kF,⟨kF,⟨kF,⟨kF,⟨kF,⟨kF,⟨kF,⟨kF,⟨kF,⟨kF,⟨kF,⟨y7 w so,⟨Ub w so,⟨kF,⟨kF,⟨kF,⟨kF,⟨kF,⟨kF,⟨kF,⟨kF,⟨kF,⟨kF,⟨kF,⟨kF,⟨kF,⟨kF,⟨kF,⟨kF,⟨kF,⟨kF,trivial⟩⟩⟩⟩⟩⟩⟩⟩⟩⟩⟩⟩⟩⟩⟩⟩⟩⟩⟩⟩⟩⟩⟩⟩⟩⟩⟩⟩⟩⟩⟩⟩⟩⟩⟩⟩⟩⟩⟩⟩⟩⟩⟩⟩⟩⟩⟩⟩⟩⟩⟩⟩⟩⟩⟩⟩⟩⟩⟩⟩)
theorem fP:mU (ij w so) zv:=zbk (zd2 w so) (zgr w so) (zgs w so) (zgq w so) (zgp w so) (zgt w so) (zgu w so) (zgx _)
end
abbrev zfi:θ:=178
abbrev zaf:Addr:=760
def zcM(w:Qm):nsIn (KK w.Ϛ) mainGlobals (zcd)=Qa (Qa (.ξ 760)):=by kernel_rfl
end Tactic
open Internal
namespace Tactic
open Internal
variable{fa:Qk}{many:Bool}{cx:Cx}{e ez it:Ex}{mean:ExcName->Option Value}{F R' R1 Rr:Fl->Internal.Frame->MH->Prop}{bp:List (List Nat)}{X':List (Nat×ae)}{fs fs':List (Nat×ab)}{all es es':List (ab×ab)}{mb mb1 mb2:List Bool}{ifs:List Ex}{ns:List Int}{as ks os az rs tg u wk:List Nat}{loose:List PySem.Str}{vs:List ab}{g g' g0 h h' h'' hh t1:MH}{o o':ae}{D J K K' K0 N P' PP Q' Y Z a aK aL aO aR aS aT aU aW c c' c0 d i' j' k k' k1 kS kW m n n' p p' p1 pS pW r' s sc x:Nat}{Ad':Nat×Nat->Option Nat}{ep':Option Nat}{a10 a5 a6 a7 a8 a9 b0 k0 sv z1:Option ab}{mg:PySem.Str->Option Value}{s₀ s₁:Qg}{α β κ σ:Type}{ov v z:ab}{Q:ab->MH->Prop}
abbrev LW:θ:=1886156147
abbrev Wn:θ:=499984983411
abbrev wC:θ:=121424990136436
abbrev FL:θ:=7302757
abbrev S8:θ:=1937006962
abbrev IH:θ:=1852138852
def eJ{c:Cx}{t:Ex}{b:ζ Sm}{k0:θ}(F:σ->Ψ.Λ)(G:σ->MH)(P:θ->σ->Prop)(D:σ->Prop)(s0:σ)(hk:k0<=190000)(hc:c.ba=200000)(p0:P k0 s0)
  (step:∀k s,P k s->∃r:Ζ,WE c (F s) t (G s) (λv g=>v=.ϯ r/\g=G s)/\(r=Qe->∀R' R,To F G (λs=>∃j,j<k/\P j s) R R'->ck c b (F s) (G s) R')/\(r=Qc->D s)):∃s,D s/\exec c (.wh t b) (F s0) (G s0)=Qa ((.nx,F s),G s):=by
 have w:WS c (.wh t b) (F s0) (G s0) λfl f g=>∃s,D s/\fl=.nx/\f=F s/\g=G s:=
  zaS F G P (by rw[hc];exact Jw hk (by decide)) s0 rfl rfl p0 λk s R' hp T=>by
   refine(step k s hp).ι λr zq1=>?_;refine zq1.1.Τ λv g q=>?_;obtain rfl:=q.1;obtain rfl:=q.2;exact U2 ⟨λh=>zq1.2.1 h R' _ T,λh=>⟨s,zq1.2.2 h,rfl,rfl,rfl⟩⟩
 refine xEEA (W.Mi w) λdw g e iq=>?_;refine xEAA iq λs hp q1 qc=>?_;refine xA qc λq2 q3=>?_;obtain⟨fl,f⟩:=dw;refine eqE q1 ?_;subst q2;subst q3;exact⟨s,hp,e⟩
theorem qX{a b r:Φ}(e:Xs a b=r)(hb:b≠0)(h:MH):o7 .mod (.Β a) (.Β b) h=Qa (.Β r,h):=W.eq (za6 hb ⟨by rw[e],rfl⟩)
theorem eI{b:θ}(hb:b≠0)(hl:b<jg)(h:MH):o7 .fdiv (.Β a) (.Β b) h=Qa (.Β (a / b:θ),h):=W.eq (Oh (λe=>hb (Ye.mp e)) hl ⟨by rw[<-Φ.ofNat_fdiv],rfl⟩)
section
variable{h0:MH}
def zw(n m:θ):ab:=.ay [.Β (n / Kv n m:θ),.Β (m / Kv n m:θ)]
def MA{b r:θ}(hr:0<r)(h:r<=b):2*(b % r)<b:=by
 exact Jw (JF (YN _)) (Ju (θ.add_lt_add_right (Xv b hr) _) (Jn (JV (Z5 _ ((θ.one_le_div_iff hr).ϥ h:1<=b / r):r<=r*(b / r)) _) (JF (θ.div_add_mod b r))))
def gB:θ:=2 ^ 90000
theorem zfz:∃J,gB=2 ^ J/\2*J+1<=190000:=⟨90000,rfl,by decide⟩
abbrev GS:=θ×θ
section
variable(ψ:GS)
abbrev GS.x:=ψ.1
abbrev GS.y:=ψ.2
end
abbrev gF(s:GS):Ψ.Λ:=Qa (.Β s.x)::Qa (.Β s.y)::nn 6
def GP(g k:θ)(s:GS):Prop:=Kv s.y s.x=g/\∃j,(s.y<2 ^ j/\2*j<=k)\/(s.y<s.x/\s.x<2 ^ j/\2*j<=k+1)
section
variable{g k:Nat}{s:GS}(ψ:GP g k s)
def GP.g:=@ψ.1
end
def GP.ϫ{g:θ}{s:GS}(P:GP g k s)(hy:0<s.y):∃j,j<k/\GP g j ⟨s.y,s.x % s.y⟩:=by
 obtain⟨hg,j,hj⟩:=P;have hg':Kv (s.x % s.y) s.y=g:=by rw[<-θ.gcd_rec];exact hg
 rcases hj with ⟨h1,h2⟩| ⟨h1,h2,h3⟩
 ·have hk:0<k:=YG λe=>by
   rw[show j=0 from qah (Jn (qai j (Zr 1)) (e▸h2))] at h1;exact ZH (Zc hy) h1
  exact⟨k-1,qaK hk (Zr _),hg',j,.IO ⟨(Xv s.x hy),h1,Jn h2 (JF (YI hk).Μ)⟩⟩
 ·cases j with
  |zero=>exact ς h2 (ZH (JN (Jw hy h1)))
  |succ j=>
   rw[qbj] at h2
   have:=MA hy (JN h1)
   exact⟨k-1,qaK (Ju (Zr _) (KY h3)) (Zr 0),hg',j,.wv ⟨θ.lt_of_mul_lt_mul_left (a:=2) (Zv this (YH h2 (Xq _ _))),θ.le_sub_one_of_lt (KY h3)⟩⟩
theorem zcT{b:θ}(hb:b<2 ^ J)(hJ:2*J+1<=190000):∃s:GS,(s.y=0/\s.x=Kv b a)/\exec (ah P0 d) (.wh (.gm .gt (.Ο 1) (.py (.Β 0))) [.ju [.nm 0,.nm 1] (.ay [.Ο 1,.fq .mod (.Ο 0) (.Ο 1)])]) (gF ⟨a,b⟩) h=Qa ((.nx,gF s),h):=
 eJ (c:=ah P0 d) (k0:=2*J+1) gF (λ_=>h) (GP (Kv b a)) (λs=>s.y=0/\s.x=Kv b a) ⟨a,b⟩ hJ rfl ⟨rfl,J,.wv ⟨hb,Zp _⟩⟩ λk s P=>⟨decide ((0:Φ)<s.y),by exact kO (.c<|.z (cn (.ϯ (decide ((0:Φ)<s.y))) h)) rfl,λhr R' R T=>by
  have hy:0<s.y:=Z2.mp (Ξ hr);exact j6 (.q (qX (r:=(s.x % s.y:θ)) (Φ.ofNat_fmod s.x s.y).Μ (λe=>Kb hy (Ye.mp e)))<|.c<|.z (T.nx ⟨s.y,s.x % s.y⟩ (P.ϫ hy))) rfl,λhr=>by
  have hy:s.y=0:=θ.eq_zero_of_not_pos λh=>of_decide_eq_false hr (Z2.ϥ h);have hg:=P.g;rw[hy,θ.gcd_zero_left] at hg;exact⟨hy,hg⟩⟩
def zcS{b:θ}(hd:1<=d)(hb:b<gB)(q:Q (.Β (Kv b a:θ)) h):WF P0 d 109 [.Β a,.Β b] h Q:=by
 exact zfz.ι λJ e=>kN (K:=0) hd (gF ⟨a,b⟩) uS rfl λd' _=>(zcT (d:=d') (h:=h) (a:=a) (e.1▸hb) e.2).ι λs f=>j6 (.s (f.2)<|.z ((f.1.2▸q:Q (.Β s.x) h))) rfl
theorem zfx{b:θ}(hd:1<=d)(hb:b<gB)(h:MH):jO (ah P0 d) (.aj 109) [.Β a,.Β b] h=Qa (.Β (Kv b a:θ),h):=fn rfl (zcS hd hb (cn _ _))
def RI(hd:2<=d)(hn:n<gB)(hm:0<m)(hl:m<jg)(q:Q (zw n m) h):WF P0 d 110 [.Β n,.Β m] h Q:=by
 refine kN (K:=1) hd (Qa (.Β n)::Qa (.Β m)::nn 7) pP rfl λd' h'=>?_;have g0:Kv n m≠0:=θ.pos_iff_ne_zero.mp (YB _ hm);have gl:Kv n m<jg:=Jw (θ.gcd_le_right _ hm) hl;exact j6 (.q (zfx (a:=m) h' hn)<|.q (eI (a:=n) g0 gl)<|.q (eI (a:=m) g0 gl)<|.z (q)) rfl
theorem eH(hd:2<=d)(hn:n<gB)(hm:0<m)(hl:m<jg)(h:MH):jO (ah P0 d) (.aj 110) [.Β n,.Β m] h=Qa (zw n m,h):=fn rfl (RI hd hn hm hl (cn _ _))
def iv{x:ab}{i:Φ}(e:x.xz=Qa i):x=.Β i:=by
 cases x<;>first|exact ag e|(refine lV e ?_;rfl)
def tv{x:ab}{i:ζ ab}(e:x.tup?=Qa i):x=.ay i:=by
 cases x<;>first|exact ag e|(refine lV e ?_;rfl)
def nv{x:ab}(e:x.re=Qe):x=.Ε:=by
 cases x<;>first|rfl|cases e
def zi3{f:ab->ab->η α}{r:α}(e:a2 vs f=Qa r):∃x y,vs=[x,y]/\f x y=Qa r:=by
 obtain _| ⟨x,_| ⟨y,_| ⟨z,l⟩⟩⟩:=vs
 ·exact ag e
 ·exact ag e
 ·exact⟨x,y,rfl,e⟩
 ·exact ag e
def wB:θ:=2 ^ 3900
def BY:wB*wB<jg/\jg+jg<=gB:=by decide+kernel
def B0:wB<=vn:=by decide+kernel
def nat?(v:ab):η θ:=v.xz.Η λa=>aw (decide (0<=a) && ZD (a.Th+1) wB) (Qa a.Th)
def nat?_s{v:ab}{n:θ}(e:nat? v=Qa n):v=.Β n/\n<wB:=by
 refine xEA (bs e) λa e1 e=>?_;refine xA (gs e) λhb e=>?_;refine lV e ?_;exact⟨by rw[iv e1,Xp (Ξ (Jo.mp hb).1)],Zn.mp (Jo.mp hb).2⟩
def fr?(v:ab):η (θ×θ):=v.tup?.Η λvs=>a2 vs λx y=>(nat? x).Η λa=>(nat? y).Η λb=>aw (ZD 1 b) (Qa (a,b))
def zjf(v:ab)(p:θ×θ):Prop:=v=.ay [.Β p.1,.Β p.2]/\p.1<wB/\p.2<wB/\0<p.2
section
variable{v:ab}{p:Nat×Nat}(ψ:zjf v p)
end
def fr?_s{v:ab}{p:θ×θ}(e:fr? v=Qa p):zjf v p:=by
 refine xEA (bs e) λvs e1 e=>?_;obtain⟨x,y,rfl,e⟩:=zi3 e;refine xEA (bs e) λa ea e=>?_;refine xEA (bs e) λb eb e=>?_;obtain⟨hb,e⟩:=gs e;refine lV e ?_;obtain⟨rfl,h1⟩:=nat?_s ea;obtain⟨rfl,h2⟩:=nat?_s eb;exact⟨tv e1,h1,h2,Zn.mp hb⟩
def mz(f:θ->θ->θ->θ->ab)(x y:ab):η ab:=(fr? x).Η λp=>(fr? y).π λq=>f p.1 p.2 q.1 q.2
def bS(f:Φ->Φ->Φ)(x y:ab):η ab:=x.xz.Η λa=>y.xz.π λb=>.Β (f a b)
def bR(f:θ->θ->θ)(x y:ab):η ab:=(nat? x).Η λa=>(nat? y).π λb=>.Β (f a b:θ)
def bO(x y:ab):η ab:=bif x.re then Qa y else x.xz.Η λa=>bif y.re then Qa x else y.xz.π λb=>.Β (if b<a then b else a)
def aY(x y:ab):η ab:=bif x.re then Qa .Ε else x.xz.Η λa=>bif y.re then Qa .Ε else y.xz.π λb=>.Β (a+b)
def zh(a b c d:θ):ab:=zw (a*d+c*b) (b*d)
def wa(a b c d:θ):ab:=zw (a*c) (b*d)
def xq(a b c d:θ):ab:=if a*d<c*b then .ay [.Β c,.Β d] else .ay [.Β a,.Β b]
def five{α:Type}(a b c d e:α)(i:θ):α:=bif i==0 then a else bif i==1 then b else bif i==2 then c else bif i==3 then d else e
def bN(i:θ):ab->ab->η ab:=five (bS λa b=>if b>a then b else a) bO (bS (· + ·)) (mz zh) (mz xq) i
def aX(i:θ):ab->ab->η ab:=five (bS λa b=>if b<a then b else a) aY (bR (· * ·)) (mz wa) (mz wa) i
def o6{C:θ->Prop}(i:θ)(hi:i<5)(c0:C 0)(c1:C 1)(c2:C 2)(c3:C 3)(c4:C 4):C i:=by
 rcases i with _|_|_|_|_|i
 ·exact c0
 ·exact c1
 ·exact c2
 ·exact c3
 ·exact c4
 ·exact ς hi (ZH (JC 5 i))
def ziE{b:θ}(ha:a<wB)(hb:b<wB):L9 (.ofNat a) (.ofNat b)=true:=by
 delta L9;rw[ZR];exact⟨Zn.ϥ (Jn ha B0),Zn.ϥ (Jn hb B0)⟩
theorem Ha{b:θ}(ha:a<wB)(hb:b<wB):a*b<jg:=Ju (θ.mul_lt_mul'' ha hb) (JN BY.1)
theorem Wx{b:θ}(ha:a<wB)(hb:b<wB)(h:MH):o7 .ss (.Β a) (.Β b) h=Qa (.Β (a*b:θ),h):=W.eq (za5 (ziE ha hb) (cn _ _))
def kZ{f:θ}{as:ζ ab}(hd:K+1<=d)(e:∀d',mB P0 200000 (d'+K+1) f as h=Qa (z,h))(q:Q z h):WF P0 d f as h Q:=by
 refine(Kx hd).ι λd' zq21=>?_;refine eqB zq21 ?_;exact W.of (e d') q
def Pg{x y:ab}(r:ab)(hd:3<=d)(e:mz zh x y=Qa z)(q:Q z h):WF P0 d 158 [r,x,y] h Q:=by
 refine xEA (bs e) λfM ea e=>?_;obtain⟨a,b⟩:=fM;obtain⟨⟨c,e'⟩,eb,rfl⟩:=ms e;obtain⟨rfl,a1,a2,a3⟩:=fr?_s ea;obtain⟨rfl,b1,b2,b3⟩:=fr?_s eb;exact kN (K:=2) hd (Qa r::Qa (.ay [.Β a,.Β b])::Qa (.ay [.Β c,.Β e'])::nn 6) s7 rfl λd' h'=>j6 (.c2<|.q (Wx a1 b2)<|.c2<|.q (Wx b1 a2)<|.c3<|.q (Wx a2 b2)<|.q (eH (n:=a*e'+c*b) (m:=b*e') h' (Ju (θ.add_lt_add (Ha a1 b2) (Ha b1 a2)) BY.2) (Xh a3 b3) (Ha a2 b2))<|.z (q)) rfl
def Az{x y:ab}(r:ab)(hd:3<=d)(e:mz wa x y=Qa z)(q:Q z h):WF P0 d 159 [r,x,y] h Q:=by
 refine xEA (bs e) λzg12 ea e=>?_;obtain⟨a,b⟩:=zg12;obtain⟨⟨c,e'⟩,eb,rfl⟩:=ms e;obtain⟨rfl,a1,a2,a3⟩:=fr?_s ea;obtain⟨rfl,b1,b2,b3⟩:=fr?_s eb;exact kN (K:=2) hd (Qa r::Qa (.ay [.Β a,.Β b])::Qa (.ay [.Β c,.Β e'])::nn 6) rL rfl λd' h'=>j6 (.c2<|.q (Wx a1 b1)<|.c2<|.q (Wx a2 b2)<|.q (eH (n:=a*c) (m:=b*e') h' (Ju (Ju (Ha a1 b1) (Jr _ _)) BY.2) (Xh a3 b3) (Ha a2 b2))<|.z (q)) rfl
def zbP{x y:ab}{s:ab}(hd:1<=d)(e:bO x y=Qa z)(q:Q z h):WF P0 d 148 [s,x,y] h Q:=by
 delta bO at e;refine vL x.re (λhx=>?_) λhx=>?_
 ·rw[hx] at e;refine soB e ?_;cases nv hx
  exact kZ (K:=0) hd (λ_=>rfl) q
 ·rw[hx] at e
  refine xEA (bs e) λa ea e=>?_;cases iv ea;refine vL y.re (λhy=>?_) λhy=>?_
  ·rw[hy] at e;obtain rfl:=Qa.lf e;cases nv hy
   exact kZ (K:=0) hd (λ_=>rfl) q
  ·rw[hy] at e
   obtain⟨b,eb,rfl⟩:=ms e;cases iv eb;exact kZ (K:=0) hd (λ_=>rfl) q
def zbj{x y:ab}{s:ab}(hd:1<=d)(e:aY x y=Qa z)(q:Q z h):WF P0 d 149 [s,x,y] h Q:=by
 delta aY at e;refine vL x.re (λhx=>?_) λhx=>?_
 ·rw[hx] at e;obtain rfl:=Qa.lf e;cases nv hx
  exact kZ (K:=0) hd (λ_=>rfl) q
 ·rw[hx] at e
  refine xEA (bs e) λa ea e=>?_;cases iv ea;refine vL y.re (λhy=>?_) λhy=>?_
  ·rw[hy] at e;obtain rfl:=Qa.lf e;cases nv hy
   exact kZ (K:=0) hd (λ_=>rfl) q
  ·rw[hy] at e
   refine xEA (ms e) λb eb dw=>?_;subst dw;cases iv eb;exact kZ (K:=0) hd (λ_=>rfl) q
def zbO{x y:ab}{s:ab}(hd:1<=d)(e:mz xq x y=Qa z)(q:Q z h):WF P0 d 162 [s,x,y] h Q:=by
 refine xEA (bs e) λzg18 ea e=>?_;obtain⟨a,b⟩:=zg18;obtain⟨⟨c,e'⟩,eb,rfl⟩:=ms e;obtain⟨rfl,a1,a2,a3⟩:=fr?_s ea;obtain⟨rfl,b1,b2,b3⟩:=fr?_s eb;have q:Q (if a*e'<c*b then .ay [.Β c,.Β e'] else .ay [.Β a,.Β b]) h:=q;refine kN (K:=0) hd (Qa s::Qa (.ay [.Β a,.Β b])::Qa (.ay [.Β c,.Β e'])::nn 6) sW rfl λd' h'=>?_;by_cases hr:a*e'<c*b
 ·rw[φ hr] at q
  exact j6 (.c2<|.q (Wx a1 b2)<|.c2<|.q (Wx b1 a2)<|.c<|.t (Γ (Z2.ϥ hr))<|.z (q)) rfl
 ·rw[τ hr] at q
  exact j6 (.c2<|.q (Wx a1 b2)<|.c2<|.q (Wx b1 a2)<|.c<|.f (Θ (λh=>hr (Z2.mp h)))<|.z (q)) rfl
def zet{i:θ}{x y:ab}(hi:i<5)(hd:3<=d)(e:bN i x y=Qa z)(q:Q z h):WM (ah P0 d) (.aj (112+i)) LW [x,y] h0 h Q:=by
 revert e
 refine o6 (C:=λi=>bN i x y=Qa z->WM (ah P0 d) (.aj (112+i)) LW [x,y] h0 h Q) i hi (λe=>?_) (λe=>?_) (λe=>?_) (λe=>?_) (λe=>?_)
 ·obtain⟨a,ea,e⟩:=bs (e)
  obtain⟨b,eb,rfl⟩:=ms e;cases iv ea;cases iv eb;exact j9 (f:=143) (self:=[.aj 112]) rfl (kZ (K:=0) (Jn (JC _ _) hd) (λ_=>rfl) q)
 ·exact j9 (f:=148) (self:=[.aj 113]) rfl (zbP (Jn (JC _ _) hd) e q)
 ·obtain⟨a,ea,e⟩:=bs (e)
  obtain⟨b,eb,rfl⟩:=ms e;cases iv ea;cases iv eb;exact j9 (f:=153) (self:=[.aj 114]) rfl (kZ (K:=0) (Jn (JC _ _) hd) (λ_=>rfl) q)
 ·exact j9 (f:=158) (self:=[.aj 115]) rfl (Pg _ hd e q)
 ·exact j9 (f:=162) (self:=[.aj 116]) rfl (zbO (Jn (JC _ _) hd) e q)
def zd0{i:θ}{x y:ab}(hi:i<5)(hd:3<=d)(e:aX i x y=Qa z)(q:Q z h):WM (ah P0 d) (.aj (112+i)) Wn [x,y] h0 h Q:=by
 revert e
 refine o6 (C:=λi=>aX i x y=Qa z->WM (ah P0 d) (.aj (112+i)) Wn [x,y] h0 h Q) i hi (λe=>?_) (λe=>?_) (λe=>?_) (λe=>?_) (λe=>?_)
 ·obtain⟨a,ea,e⟩:=bs (e)
  obtain⟨b,eb,rfl⟩:=ms e;cases iv ea;cases iv eb;exact j9 (f:=144) (self:=[.aj 112]) rfl (kZ (K:=0) (Jn (JC _ _) hd) (λ_=>rfl) q)
 ·exact j9 (f:=149) (self:=[.aj 113]) rfl (zbj (Jn (JC _ _) hd) e q)
 ·obtain⟨a,ea,e⟩:=bs (e)
  obtain⟨b,eb,rfl⟩:=ms e;obtain⟨rfl,h1⟩:=nat?_s ea;obtain⟨rfl,h2⟩:=nat?_s eb;exact j9 (f:=154) (self:=[.aj 114]) rfl (kN (K:=0) (Jn (JC _ _) hd) (Qa (.aj 114)::Qa (.Β a)::Qa (.Β b)::nn 6) sZ rfl λd' _=>j6 (.q (Wx h1 h2)<|.z (q)) rfl)
 ·exact j9 (f:=159) (self:=[.aj 115]) rfl (Az _ hd e q)
 ·exact j9 (f:=159) (self:=[.aj 116]) rfl (Az _ hd e q)
def bU(i:θ):ab:=five (.Β 0) .Ε (.Β 0) (.ay [.Β 0,.Β 1]) (.ay [.Β 0,.Β 1]) i
def bQ(i:θ):ab:=five (.Β 1) (.Β 0) (.Β 1) (.ay [.Β 1,.Β 1]) (.ay [.Β 1,.Β 1]) i
theorem zeN{i:θ}(hi:i<5)(q:Q (bU i) h):WA P0 (.aj (112+i)) wC h Q:=
 Dl (o6 (C:=λi=>((P0.cg (112+i)).Η λc=>uV P0 c wC)=Qa (bU i)) i hi rfl rfl rfl rfl rfl) q
theorem zeI{i:θ}(hi:i<5)(q:Q (bQ i) h):WA P0 (.aj (112+i)) FL h Q:=
 Dl (o6 (C:=λi=>((P0.cg (112+i)).Η λc=>uV P0 c FL)=Qa (bQ i)) i hi rfl rfl rfl rfl rfl) q
end
def oC{t:MH}{j:θ}:(h++t)[h.ε+j]?=t[j]?:=by rw[Ko (Jr _ _),qae]
def AM{t:MH}{j:θ}:(h++t).Ϫ (h.ε+j) o=h++t.Ϫ j o:=by rw[YV _ _ (Jr _ _),qae]
structure Rg where
 i:θ
 hi:i<5
 α:Type
 gk:At α
 e:α->ab
 zero:α
 cw:α
 add:α->α->α
 mul:α->α->α
 D:θ->θ->α->Prop
 wE:∀a b,add a b=add b a
 Ϣ:∀a b c,add (add a b) c=add a (add b c)
 Χ:∀a,add zero a=a
 Tb:∀a b,mul a b=mul b a
 Id:∀a b c,mul (mul a b) c=mul a (mul b c)
 one_mul:∀a,mul cw a=a
 w9:∀a,mul zero a=zero
 Sc:∀a b c,mul a (add b c)=add (mul a b) (mul a c)
 pe:bU i=e zero
 rl:bQ i=e cw
 vg:∀a,zt (e a) (.aj 120)=Qa Qc
 ff:∀h a b,lz h (e a) (e b)=Qa (decide (a=b))
 af:∀{p q k l a},p<=q->k<=l->D p k a->D q l a
 bq:D 0 0 zero
 gd:D 0 0 cw
 fm:∀{p k a b},D p k a->D p k b->D p (k+1) (add a b)
 fc:∀{p q k l a b},D p k a->D q l b->D (p+q) (k+l) (mul a b)
 gg:∀{p k a b},D p k a->D p k b->4*p+k<=3800->bN i (e a) (e b)=Qa (e (add a b))
 fw:∀{p q k l a b},D p k a->D q l b->4*(p+q)+(k+l)<=3800->aX i (e a) (e b)=Qa (e (mul a b))
 gh:∀{p k a d h0 h}{Q:ab->MH->Prop},3<=d->D p k a->4*p+k<=3800->Q (e a) h->WM (ah P0 d) (.aj (112+i)) IH [e a] h0 h Q
 gf:∀{d h0 h}{Q:ab->MH->Prop},3<=d->Q (e cw) h->WM (ah P0 d) (.aj (112+i)) S8 [e zero] h0 h Q
section
variable{d:Nat}{h h0:MH}{Q:ab->MH->Prop}(R:Rg)
theorem Rg.bM{a b:R.α}(hd:3<=d)(ha:R.D p k a)(hb:R.D p k b)(hl:4*p+k<=3800)(q:Q (R.e (R.am a b)) h):WM (ah P0 d) (.aj (112+R.i)) LW [R.e a,R.e b] h0 h Q:=zet R.hi hd (R.gg ha hb hl) q
theorem Rg.xh{l:θ}{a b:R.α}(hd:3<=d)(ha:R.D p k a)(hb:R.D p' l b)(hl:4*(p+p')+(k+l)<=3800)(q:Q (R.e (R.ss a b)) h):WM (ah P0 d) (.aj (112+R.i)) Wn [R.e a,R.e b] h0 h Q:=zd0 R.hi hd (R.fw ha hb hl) q
theorem Rg.uu(q:Q (R.e R.Κ) h):WA P0 (.aj (112+R.i)) wC h Q:=zeN R.hi (R.pe▸q)
theorem Rg.xr(q:Q (R.e R.cw) h):WA P0 (.aj (112+R.i)) FL h Q:=zeI R.hi (R.rl▸q)
end
variable{R:Rg}
theorem Rg.pl{a b:R.α}(hd:3<=d)(ha:R.D p k a)(hb:R.D p k b)(hl:4*p+k<=3800)(h:MH):kI (ah P0 d) (.aj (112+R.i)) LW [R.e a,R.e b] h h=Qa (R.e (R.am a b),h):=W.eq (R.bM hd ha hb hl ⟨rfl,rfl⟩)
theorem Rg.ti{l:θ}{a b:R.α}(hd:3<=d)(ha:R.D p k a)(hb:R.D p' l b)(hl:4*(p+p')+(k+l)<=3800)(h:MH):kI (ah P0 d) (.aj (112+R.i)) Wn [R.e a,R.e b] h h=Qa (R.e (R.ss a b),h):=W.eq (R.xh hd ha hb hl ⟨rfl,rfl⟩)
theorem Rg.nd{a:R.α}(hd:3<=d)(ha:R.D p k a)(hl:4*p+k<=3800)(h:MH):kI (ah P0 d) (.aj (112+R.i)) IH [R.e a] h h=Qa (R.e a,h):=W.eq (R.gh hd ha hl ⟨rfl,rfl⟩)
theorem Rg.on(R:Rg)(h:MH):getAttr P0 h (.aj (112+R.i)) FL=Qa (R.e R.cw):=Wo.eq (R.xr (Q:=λa _=>a=_) rfl)
theorem Rg.no(R:Rg)(h:MH):getAttr P0 h (.aj (112+R.i)) wC=Qa (R.e R.Κ):=Wo.eq (R.uu (Q:=λa _=>a=_) rfl)
theorem Rg.qe(a b:R.α)(h:MH):lz h (R.e a) (R.e b)=Qa (@decide (a=b) (R.gk a b)):=R.ff h a b
theorem Rg.yes{a b:R.α}(h:a=b): @decide (a=b) (R.gk a b)=true:= @Γ _ (R.gk a b) h
theorem Rg.not{a b:R.α}(h:¬a=b): @decide (a=b) (R.gk a b)=false:= @Θ _ (R.gk a b) h
theorem dT{p:Prop}{i:Ch p}(h: @decide p i=Qe):p:= @Ξ p i h
theorem dF{p:Prop}{i:Ch p}(h: @decide p i=Qc):¬p:= @of_decide_eq_false p i h
theorem He(hk:k<=3800)(hn:n<=2 ^ k):n<wB:=Jw hn (qaq (by decide) (Ju (JO hk) (JC _ _)))
def nat?_of{n:θ}(hn:n<wB):nat? (.Β n)=Qa n:=by
 show aw _ _=_;rw[MC (by rw[ZR];exact⟨Γ (K2 _),Zn.ϥ hn⟩),KR]
def ug:θ:=10 ^ 4000
def BZ:wB<=ug:=by decide+kernel
theorem wF(hn:n<wB):decide ((10 ^ 4000:Φ)<=n)=false:=Θ λhg=>ς (YO.mp (show ((ug:θ):Φ)<=(n:Φ) from hg)) (Xw.ϥ (Ju hn BZ))
def Nc{s:ab}(hd:1<=d)(hn:n<wB)(q:Q (.Β n) h):WF P0 d 152 [s,.Β n] h Q:=by
 exact kN (K:=0) hd (Qa s::Qa (.Β n)::nn 6) uU rfl λd' h'=>j6 (.c4<|.c2<|.f (wF hn)<|.z (q)) rfl
def Aj:Rg where
 i:=2
 hi:=by decide
 α:=θ
 gk:=mt
 e:=λn=>.Β n
 zero:=0
 cw:=1
 add:=(· + ·)
 mul:=(· * ·)
 D:=λp k n=>n<=2 ^ k
 wE:=ZW
 Ϣ:=J8
 Χ:=Zq
 Tb:=Xq
 Id:=qaE
 one_mul:=Kg
 w9:=θ.w9
 Sc:=qa1
 pe:=rfl
 rl:=rfl
 vg:=λ_=>rfl
 ff:=λh a b=>vU.ν (ω Qa (by
  by_cases hab:a=b
  ·subst hab;simp
  ·rw[Θ hab,ϧ];exact λe=>hab (Xa.lf e)))
 af:=λ_ hk ha=>Jn ha (qar (by decide) hk)
 bq:=by decide
 gd:=by decide
 fm:=λha hb=>by exact Jn (JJ ha hb) (JF (θ.mul_two _).Μ)
 fc:=λha hb=>by rw[XT];exact qbb ha hb
 gg:=λ_ _ _=>rfl
 fw:=λ{p q k l a b} ha hb hl=>by
  show bR (· * ·) (.Β a) (.Β b)=_;unfold bR;rw[nat?_of (He (k:=k) (Jn (Jr _ _) (Jn (JC _ _) hl)) ha),nat?_of (He (k:=l) (Jn (JC _ _) (Jn (JC _ _) hl)) hb)];rfl
 gh:=λ{p k a d h0 h Q} hd ha hl q=>j9 (f:=152) (self:=[.aj 114]) rfl (Nc (Jn (JC _ _) hd) (He (k:=k) (Jn (JC _ _) hl) ha) q)
 gf:=λ{d h0 h Q} hd q=>j9 (f:=155) (self:=[.aj 114]) rfl (kZ (K:=0) (Jn (JC _ _) hd) (λ_=>rfl) q)
section
variable{h0:MH}
def ny:ζ θ:=[32,9,10,58,47,95,91,93,62,35,59,63,61]
def VU(c:θ):Ζ:=!ny.Tc c && !qaU ⟨#[c]⟩
def zcG(hd:1<=d)(hc:VU c=Qe)(q:Q (.ϯ Qe) h):WF P0 d 101 [.Ϥ [c]] h Q:=by
 exact kN (K:=0) hd (Qa (.Ϥ [c])::nn 6) oG rfl λd' h'=>j6 (.c4<|.c3<|.t ((Jo.mp hc).1)<|.c2<|.z ((show Q (.ϯ (!qaU ⟨#[c]⟩)) h by rw[(Jo.mp hc).2];exact q))) rfl
def A0(hd:2<=d)(hc:VU c=Qe)(q:Q (.Ϥ [c]) h):WF P0 d 103 [.Ϥ [c]] h Q:=by
 exact kN (K:=1) hd (Qa (.Ϥ [c])::nn 6) mY rfl λd' h'=>j6 (.p (fn (as:=[.Ϥ [c]]) rfl (zcG h' hc (cn (.ϯ Qe) h)))<|.c2<|.z (q)) rfl
def iS{c:Cx}{b:ζ Sm}{s:ζ θ}(F:η ab->Ψ.Λ)(hs:s.ε<c.ba)(he:WE c (F Qd) e h λv g=>v=.Ϥ s/\g=h)
  (step:∀a R o,a∈s->R .nx (F (Qa (.Ϥ [a]))) h->ck c b ((F o).Ϫ x (Qa (.Ϥ [a]))) h R):∃o,exec c (.fo [x] Qc e b) (F Qd) h=Qa ((.nx,F o),h):=by
 have w:WS c (.fo [x] Qc e b) (F Qd) h λfl f g=>∃o,fl=.nx/\f=F o/\g=h:=U3 (he.Τ λv g q=>by
  refine eqB q.1 ?_;obtain rfl:=q.2;refine⟨.sq s,s.π λc=>.Ϥ [c],rfl,by rw[Jq];exact hs,λ_ f g'=>g'=g/\∃o,f=F o,⟨rfl,Qd,rfl⟩,λi _ _ _=>by rw[JE];rfl,λi v hv f g' q=>?_,λf g' q=>q.2.ι λo e=>⟨o,rfl,e,q.1⟩⟩;obtain⟨rfl,o,rfl⟩:=q;rw[JE] at hv;obtain⟨a,ha,rfl⟩:=ms hv;exact lI (step a _ o (Jt ha) ⟨rfl,_,rfl⟩))
 refine xEEA (W.Mi w) λzg20 g e zg21=>?_;refine xEAA zg21 λo q1 q2 q3=>?_;obtain⟨fl,f⟩:=zg20;refine eqE q1 ?_;subst q2;cases q3;exact⟨o,e⟩
def Ir{s:ζ θ}(hd:3<=d)(hs:∀c∈s,VU c=Qe)(hl:s.ε<1000)(q:Q (.Ϥ s) h):WF P0 d 134 [.Ϥ s] h Q:=by
 refine kN (K:=2) hd (Qa (.Ϥ s)::nn 7) oF rfl λd' h'=>?_;obtain⟨o,e⟩:=iS (h:=h) (c:=ah P0 d') (x:=1) (e:=.Ο 0) (b:=[.expr (.bn (.py (.aj 103)) [.Ο 1])]) (λo=>Qa (.Ϥ s)::o::nn 6) (Zv hl (by show 1000<200000;decide)) (by exact kO (.z (cn (.Ϥ s) h)) rfl) λa R o ha q=>by
  exact j6 (.p (fn (as:=[.Ϥ [a]]) rfl (A0 h' (hs a ha) (cn (.Ϥ [a]) h)))<|.z (q)) rfl
 exact j6 (.c3<|.s (e)<|.z (q)) rfl
end
section
variable{h0:MH}
def dp(s:ζ θ):Prop:=s=[]\/∃c,s=[c]/\VU c=Qe
def A4{s:ζ θ}(hd:3<=d)(hs:dp s)(q:Q (.Ϥ s) h):WF P0 d 119 [.Ϥ s] h Q:=by
 refine kN (K:=2) hd (Qa (.Ϥ s)::nn 6) nY rfl λd' h'=>?_;rcases hs with rfl| ⟨c,rfl,hc⟩
 ·exact j6 (.c2<|.z (q)) rfl
 ·exact j6 (.c2<|.p (fn (as:=[.Ϥ [c]]) rfl (A0 h' hc (cn (.Ϥ [c]) h)))<|.z (q)) rfl
def A6{a b c:Φ}{x:ab}(hd:1<=d)(h1:b<=a)(h2:a<=c)(q:Q (.Β a) h):WF P0 d 117 [.Β a,.Β b,.Β c,x] h Q:=by
 exact kN (K:=0) hd (Qa (.Β a)::Qa (.Β b)::Qa (.Β c)::Qa x::nn 6) nZ rfl λd' h'=>j6 (.c4<|.f (Θ (YY.ϥ h1))<|.c<|.f (Θ (YY.ϥ h2))<|.z (q)) rfl
def zb3{s:ζ θ}(hd:4<=d)(hs:∀c∈s,VU c=Qe)(hl:s.ε<=200)(q:Q .Ε h):WF P0 d 130 [.Ϥ s] h Q:=by
 exact kN (K:=3) hd (Qa (.Ϥ s)::nn 6) pA rfl λd' h'=>j6 (.p (fn (as:=[.Ϥ s]) rfl (Ir h' hs (Ju (JO hl) (JC _ _)) (cn (.Ϥ s) h)))<|.c2<|.f (Θ (p:=(200:Φ)<s.ε) (by lia))<|.z (q)) rfl
end
abbrev m8:θ:=1919512167
abbrev kT:θ:=1634886515
abbrev oY:θ:=1701733491
abbrev qS:θ:=495873782388
abbrev tT:θ:=439855772532
abbrev wK:θ:=104880676367988
abbrev oJ:θ:=504397587826
abbrev qU:θ:=465726563698
abbrev wJ:θ:=131277443786868
abbrev oX:θ:=127961880028532
def zfk{a b:ζ ab}(e:Qa (ae.ο a)=Qa (.ο b)):a=b:=by cases e;rfl
def zgB:∀{as bs:ζ θ},as.π ab.ξ=bs.π ab.ξ->as=bs:=by
 intro as
 induction as with
 |Ϝ=>intro bs e;cases bs with|Ϝ=>rfl|Ι _ _=>cases e
 |Ι a as ih=>
  intro bs e;cases bs with
  |Ϝ=>cases e
  |Ι b bs=>injection e with e1 e2;injection e1 with e1;rw[e1,ih e2]
theorem zgI{bs:ζ θ}(e:Qa (ae.ο (as.π .ξ))=Qa (.ο (bs.π .ξ))):as=bs:=zgB (zfk e)
abbrev Ar(α:Type):=ζ θ×ζ θ×α×θ
section
variable{α:Type}(ψ:Ar α)
abbrev Ar.up:=ψ.1
abbrev Ar.lo:=ψ.2.1
abbrev Ar.w:=ψ.2.2.1
abbrev Ar.t:=ψ.2.2.2
end
structure Mc(α:Type) where
 aa:ζ (ζ (Ar α))
 ak:ζ α
 start:θ
 first:α
 bb:θ
structure Ly where
 m:θ
 aA:θ
 aE:θ
 az:ζ θ
section
variable(R:Rg)
def mW(a:Ar R.α):ae:=.Tt 118 [(oJ,.Ϥ a.up),(qU,.Ϥ a.lo),(wJ,R.e a.w),(oX,.Β a.t)]
def mO(L:Ly)(M:Mc R.α):ae:=.Tt 121 [(m8,.aj (112+R.i)),(kT,.ξ L.aA),(oY,.ξ L.aE),(qS,.Β M.Ϟ),(tT,R.e M.lw),(wK,.Β M.bb)]
def qI(h:MH)(r:θ)(xs:ζ (Ar R.α)):Prop:=∃as:ζ θ,h[r]?=Qa (.ο (as.π .ξ))/\as.ε=xs.ε/\∀(j a:θ)(x:Ar R.α),as[j]?=Qa a->xs[j]?=Qa x->h[a]?=Qa (mW R x)
def xf(h:MH)(az:ζ θ)(m:θ):Prop:=∃ads:ζ (ζ θ),ads.pt.Ω/\(∀a∈ads.pt,m<a)/\az.π (λr=>h[r]?)=ads.π λas=>Qa (.ο (as.π .ξ))
end
def ao(R:Rg)(h:MH)(L:Ly)(M:Mc R.α):Prop:=h[L.m]?=Qa (mO R L M)/\h[L.aA]?=Qa (.ο (L.az.π .ξ))/\h[L.aE]?=Qa (.ο (M.ak.π R.e))/\L.az.ε=M.aa.ε/\M.ak.ε=M.aa.ε/\(∀(k r:θ)(xs:ζ (Ar R.α)),L.az[k]?=Qa r->M.aa[k]?=Qa xs->qI R h r xs)/\(L.aA::L.aE::L.az).Ω/\M.aa.ε<=10000/\(M.aa.π Ku).sum=M.bb/\M.bb<=100000/\xf h L.az L.m
section
variable{R:Rg}{h:MH}{L:Ly}{M:Mc R.α}(ψ:ao R h L M)
def ao.fj:=@ψ.1
def ao.aa:=@ψ.2.1
def ao.ak:=@ψ.2.2.1
def ao.lv:=@ψ.2.2.2.1
def ao.fg:=@ψ.2.2.2.2.1
def ao.az:=@ψ.2.2.2.2.2.1
def ao.nd:=@ψ.2.2.2.2.2.2.1
def ao.bg:=@ψ.2.2.2.2.2.2.2.1
def ao.ct:=@ψ.2.2.2.2.2.2.2.2.1
def ao.cl:=@ψ.2.2.2.2.2.2.2.2.2.1
def ao.ds:=@ψ.2.2.2.2.2.2.2.2.2.2
end
def xf.to(D:xf h az m)(e:∀r∈az,∀vs,h[r]?=Qa (.ο vs)->h'[r]?=Qa (.ο vs)):xf h' az m:=by
 refine Zx D λads zq3=>?_;refine⟨ads,zq3.1,zq3.2.1,(Ke λr hr=>?_).ν zq3.2.2⟩;have hm:h[r]?∈az.π λr=>h[r]?:=JL.ϥ ⟨r,hr,rfl⟩;rw[zq3.2.2] at hm;refine(JL.mp hm).ι λas zq2=>?_;rw[<-zq2.2];exact e r hr _ zq2.2.Μ
def Gz{l:ζ (ζ α)}{xs:ζ α}(h:xs∈l):xs.ε<=(l.π Ku).sum:=by
 induction l with
 |Ϝ=>exact ς h Jz
 |Ι y l ih=>
  simp only[JU,YC];rcases JM.mp h with rfl|h
  ·exact Jr _ _
  ·have:=ih h;exact Yn this
def Ec{l:ζ (ζ α)}{a:α}(hs:s<l.ε):((l.Ϫ s (l[s]++[a])).π Ku).sum=(l.π Ku).sum+1:=by
 induction l generalizing s with
 |Ϝ=>exact ς hs (J9 _)
 |Ι y l ih=>
  cases s with
  |zero=>simp;exact ZF _ _ _
  |succ s=>
   have:=ih (s:=s) (Ka hs)
   simp only[ζ.set_cons_succ,ζ.getElem_cons_succ,JU,YC,this];exact XJ (J8 _ _ _)
variable{L:Ly}{M:Mc R.α}
theorem ao.cr(I:ao R h L M):∀xs∈M.aa,xs.ε<=M.bb:=λxs hx=>I.ct▸Gz hx
def lX(h h':MH)(S:ζ θ):Prop:=h.ε<=h'.ε/\∀(a:θ)(o:ae),a∉S->h[a]?=Qa o->h'[a]?=Qa o
section
variable{h h':MH}{S:List Nat}(ψ:lX h h' S)
def lX.lv:=@ψ.1
def lX.TF:=@ψ.2
end
def fk(L:Ly):ζ θ:=L.m::L.aA::L.aE::L.az
theorem lX.TC{S:ζ θ}:lX h h S:=⟨Jv _,λ_ _ _ e=>e⟩
theorem lX.ν{S:ζ θ}(x:lX h h' S)(y:lX h' h'' S):lX h h'' S:=⟨Jn x.lv y.lv,λa o hs e=>y.TF a o hs (x.TF a o hs e)⟩
theorem lX.Ix{S T:ζ θ}(x:lX h h' S)(hs:∀a∈S,a∈T):lX h h' T:=⟨x.lv,λa o ht e=>x.TF a o (λq=>ht (hs a q)) e⟩
theorem lX.cq{t:MH}{S:ζ θ}:lX h (h++t) S:=⟨by rw[Jx];exact Jr _ _,λ_ _ _ e=>jH e⟩
theorem lX.Ϫ:lX h (h.Ϫ a o) [a]:=⟨by rw[Zd];exact Jv _,λb x hb e=>jZ (λq=>hb (q▸ .mo _)) e⟩
section
variable{h0:MH}
def qI.Τ{r:θ}{xs:ζ (Ar R.α)}(x:qI R h r xs)(hk:∀(a:θ)(o:ae),h[a]?=Qa o->(∃x,o=mW R x)\/a=r->h'[a]?=Qa o):qI R h' r xs:=by
 exact Zx x λas zq1=>⟨as,hk _ _ zq1.1 (.IO rfl),zq1.2.1,λj a x ha hx=>hk _ _ (zq1.2.2 j a x ha hx) (.wv ⟨x,rfl⟩)⟩
theorem ao.cq{t:MH}(I:ao R h L M):ao R (h++t) L M:=
 ⟨jH I.fj,jH I.aa,jH I.ak,I.lv,I.fg,λk r xs hr hx=>(I.az k r xs hr hx).Τ λa o e _=>jH e,I.nd,I.bg,I.ct,I.cl,I.ds.to λ_ _ _ e=>jH e⟩
theorem l9(I:ao R h L M):getAttr P0 h (.ξ L.m) m8=Qa (.aj (112+R.i)):=ga I.fj rfl rfl
theorem Wz(I:ao R h L M):getAttr P0 h (.ξ L.m) oY=Qa (.ξ L.aE):=ga I.fj rfl rfl
theorem oD(I:ao R h L M):getAttr P0 h (.ξ L.m) kT=Qa (.ξ L.aA):=ga I.fj rfl rfl
theorem u9(I:ao R h L M):getAttr P0 h (.ξ L.m) qS=Qa (.Β M.Ϟ):=ga I.fj rfl rfl
theorem Wy(I:ao R h L M):getAttr P0 h (.ξ L.m) tT=Qa (R.e M.lw):=ga I.fj rfl rfl
theorem RG(I:ao R h L M)(d:θ):jO (ah P0 d) (.bi 7103854) [.ξ L.aA] h=Qa (.Β M.aa.ε,h):=W.eq (Am I.aa (by rw[Jq,I.lv];exact cn _ _))
def OZ(hd:1<=d)(I:ao R h L M)(q:Q (.Β M.aa.ε) h):WF P0 d 174 [.ξ L.m] h Q:=by
 exact kN (K:=0) hd (Qa (.ξ L.m)::nn 6) rJ rfl λd' h'=>j6 (.v (oD I)<|.p (RG I d')<|.z (q)) rfl
def zb2(hd:2<=d)(I:ao R h L M)(hk:k<M.aa.ε)(q:Q (.Β k) h):WF P0 d 170 [.ξ L.m,.Β k] h Q:=by
 exact kN (K:=1) hd (Qa (.ξ L.m)::Qa (.Β k)::nn 6) mZ rfl λd' h'=>j6 (.v (oD I)<|.p (RG I d')<|.c<|.p (fn (as:=[.Β k,.Β 0,.Β ((M.aa.ε:Φ) -1),.Ϥ [115,116,97,116,101]]) rfl (A6 h' (K2 _) (by lia) (cn (.Β k) h)))<|.z (q)) rfl
theorem ziO{f:θ}(I:ao R h L M)(hn:vG [(m8,.aj (112+R.i)),(kT,.ξ L.aA),(oY,.ξ L.aE),(qS,.Β M.Ϟ),(tT,R.e M.lw),(wK,.Β M.bb)] n=Qd)(hm:yK P0 121 n=Qa f):mS P0 h (.ξ L.m) n=Qa (f,[.ξ L.m]):=lM I.fj hn hm
end
section
variable{h0:MH}
theorem cv{b:θ}{p:ae}(e1:h[a]?=Qa o)(e2:h[b]?=Qa p)(hn:o≠p):a≠b:=λq=>hn (by subst q;exact Qa.lf (e1.Μ.ν e2))
theorem ao.mA(I:ao R h L M):L.m≠L.aA:=cv I.fj I.aa nofun
theorem ao.mE(I:ao R h L M):L.m≠L.aE:=cv I.fj I.ak nofun
theorem ao.AE(I:ao R h L M):L.aA≠L.aE:=λq=>(JH.mp I.nd).1 (q▸ .mo _)
theorem ao.vw(I:ao R h L M):L.aA∉L.az:=λq=>(JH.mp I.nd).1 (.pc _ q)
theorem ao.ri(I:ao R h L M):L.aE∉L.az:=(JH.mp (JH.mp I.nd).2).1
theorem ao.nr(I:ao R h L M):L.az.Ω:=(JH.mp (JH.mp I.nd).2).2
def ao.Tq(I:ao R h L M)(hk:k<M.aa.ε):∃r,L.az[k]?=Qa r/\qI R h r M.aa[k]:=by
 exact⟨_,Jp (by rw[I.lv];exact hk:k<L.az.ε),I.az k _ _ (Jp (by rw[I.lv];exact hk:k<L.az.ε)) (Jp hk)⟩
def ao.ry(I:ao R h L M){r:θ}(hr:r∈L.az):r<h.ε:=by
 obtain⟨k,hk,rfl⟩:=Ys.mp hr;refine xEA (I.Tq (k:=k) (by rw[<-I.lv];exact hk)) λr h1 fN=>?_;refine xEA fN λas h2 _=>?_;rw[Jp hk] at h1;refine soB h1 ?_;exact j4 h2
theorem ao.lj(I:ao R h L M):L.m∉L.az:=λq=>by
 obtain⟨k,hk,e⟩:=Ys.mp q;refine xEA (I.Tq (k:=k) (by rw[<-I.lv];exact hk)) λr h1 zg10=>?_;refine xEA zg10 λas h2 _=>?_;rw[Jp hk,e] at h1;obtain rfl:=Qa.lf h1;exact cv I.fj h2 nofun rfl
def O6(hd:1<=d)(I:ao R h L M)(hn:M.aa.ε+n<=20000)(q:Q .Ε h):WF P0 d 167 [.ξ L.m,.Β n] h Q:=by
 exact kN (K:=0) hd (Qa (.ξ L.m)::Qa (.Β n)::nn 6) m3 rfl λd' h'=>j6 (.v (oD I)<|.p (RG I d')<|.c2<|.f (Θ (p:=(20000:Φ)<M.aa.ε+n) (by lia))<|.z (q)) rfl
theorem zdo(z:Cx){us:ζ ab}(v:ab)(h0a:h0[a]?=Qa (.ο us))(ha:h[a]?=Qa (.ο vs))(hl:vs.ε<1000000):kI z (.ξ a) fe [v] h0 h=Qa (.Ε,h.Ϫ a (.ο (vs++[v]))):=W.eq (Up h0a ha hl (cn _ _))
theorem zao(hd:1<=d)(I:ao R h L M)(hn:M.aa.ε+n<=20000):kI (ah P0 d) (.ξ L.m) 450661264077055929053037 [.Β n] h h=Qa (.Ε,h):=me (lM I.fj rfl rfl) (O6 hd I hn (cn _ _))
def Ly.TH(L:Ly)(r:θ):Ly:= {L with az:=L.az++[r]}
def Mc.TH(M:Mc R.α):Mc R.α:= {M with aa:=M.aa++[[]],ak:=M.ak++[R.Κ]}
def DJ(h:MH)(L:Ly):MH:=(h++[ae.ο []]).Ϫ L.aA (ae.ο (L.az.π ab.ξ++[ab.ξ h.ε]))
def wD(R:Rg)(h:MH)(L:Ly)(M:Mc R.α):MH:=(DJ h L).Ϫ L.aE (ae.ο (M.ak.π R.e++[R.e R.Κ]))
section
variable{a:Nat}{o:ae}
theorem tQ(e:(h++[ae.ο []])[a]?=Qa o)(h1:a≠L.aA):(DJ h L)[a]?=Qa o:=jZ (Kc h1) e
theorem tP(e:(h++[ae.ο []])[a]?=Qa o)(h1:a≠L.aA)(h2:a≠L.aE):(wD R h L M)[a]?=Qa o:=jZ (Kc h2) (tQ e h1)
theorem P5(I:ao R h L M){r:θ}{xs:ζ (Ar R.α)}(hm:r∈L.az)(hr:qI R h r xs):qI R (wD R h L M) r xs:=hr.Τ λa o e ho=>tP (jH e) (ho.ι (λ⟨_,q⟩=>cv e I.aa (q▸nofun)) λq p=>I.vw (p▸q▸hm)) (ho.ι (λ⟨_,q⟩=>cv e I.ak (q▸nofun)) λq p=>I.ri (p▸q▸hm))
end
def xT{l:ζ α}{x:α}:(l++[x]).ε=l.ε+1:=by rw[Jx,YW]
def EF{l:ζ α}{m:ζ β}{x z:α}{y w:β}(hl:l.ε=m.ε)(h1:(l++[x])[k]?=Qa z)(h2:(m++[y])[k]?=Qa w):(l[k]?=Qa z/\m[k]?=Qa w)\/(z=x/\w=y):=by
 by_cases hk:k<l.ε
 ·rw[Ks hk] at h1
  rw[Ks (hl▸hk)] at h2;exact .wv ⟨h1,h2⟩
 ·have e:k=l.ε:=K6 (JY (Ju (jR h1) (JF xT))) (Z9.mp hk)
  subst e;rw[Ko (Jv _),YS] at h1;rw[hl,Ko (Jv _),YS] at h2;exact .IO ⟨(Qa.lf h1).Μ,(Qa.lf h2).Μ⟩
def IU(I:ao R h L M)(k r:θ)(xs:ζ (Ar R.α))(hr:(L.az++[h.ε])[k]?=Qa r)(hx:(M.aa++[[]])[k]?=Qa xs):qI R (wD R h L M) r xs:=by
 rcases EF I.lv hr hx with ⟨h1,h2⟩| ⟨rfl,rfl⟩
 ·exact P5 I (Jt h1) (I.az k r xs h1 h2)
 ·exact⟨[],tP ap (Kb (j4 I.aa)) (Kb (j4 I.ak)),rfl,λj a x ha=>ag ha⟩
def P4(I:ao R h L M):(L.aA::L.aE::(L.az++[h.ε])).Ω:=by
 rw[<-Yi,<-Yi];refine Kj.ϥ ⟨I.nd,JH.ϥ ⟨Jz,.Ϝ⟩,λa ha b hb e=>?_⟩;rw[JD.mp hb] at e;subst e;rcases JM.mp ha with e|ha
 ·exact ς (e▸j4 I.aa) (Zb _)
 ·rcases JM.mp ha with e|ha
  ·exact ς (e▸j4 I.ak) (Zb _)
  ·exact ς (I.ry ha) (Zb _)
def P6(I:ao R h L M):xf (wD R h L M) (L.az++[h.ε]) L.m:=by
 refine xEAA (I.ds.to (h':=wD R h L M) λr hr o e=>tP (jH e) (λq=>I.vw (q▸hr)) λq=>I.ri (q▸hr)) λads n b q=>?_;refine⟨ads++[[]],by rw[qaA,ZE];exact n,by rw[qaA,ZE];exact b,?_⟩;simp only[JW,JW,q,Xy,tP ap (Kb (j4 I.aa)) (Kb (j4 I.ak))];rfl
theorem ao.TH(I:ao R h L M)(hl:M.aa.ε<10000):ao R (wD R h L M) (L.TH h.ε) M.TH:=
 ⟨tP (jH I.fj) I.mA I.mE,(jZ (Kc I.AE) (kM (jH I.aa))).ν (by rw[<-Xy,<-JW];rfl),(kM (tQ (jH I.ak) (Kc I.AE))).ν (by rw[<-Xy,<-JW];rfl),xT.ν ((ω (· +1) I.lv).ν xT.Μ),xT.ν ((ω (· +1) I.fg).ν xT.Μ),IU I,P4 I,(xT▸hl),(show ((M.aa++[[]]).π Ku).sum=M.bb by rw[JW,Xn];exact I.ct),I.cl,P6 I⟩
theorem FS:lX h (wD R h L M) [L.aA,L.aE]:=⟨by unfold wD DJ;rw[Zd,Zd,xT];exact Zp _,λa o ha e=>tP (jH e) (λq=>ha (q▸ .mo _)) λq=>ha (q▸ .pc _ (.mo _))⟩
def Ln(hd:2<=d)(I:ao R h L M)(hl:M.aa.ε<10000)(q:∀h',ao R h' (L.TH h.ε) M.TH->lX h h' [L.aA,L.aE]->Q (.Β M.aa.ε) h'):WF P0 d 168 [.ξ L.m] h Q:=by
 refine kN (K:=1) hd (Qa (.ξ L.m)::nn 6) qE rfl λd' h'=>?_;have e4:((M.TH.aa.ε:θ):Φ) -1=M.aa.ε:=by
  rw[show M.TH.aa.ε=M.aa.ε+1 from xT,qa3];exact Φ.add_sub_cancel ..
 exact j6 (.p (zao (n:=1) h' I (Jn (Zf (JN hl)) (by decide)))<|.v (oD I)<|.at (h++[ae.ο []])<|.p (zdo (ah P0 d') (.ξ h.ε) I.aa (jH (t:=[ae.ο []]) I.aa) (by rw[Jq,I.lv];exact Zv hl (by decide)))<|.v ((ga (tQ (jH I.fj) I.mA:(DJ h L)[L.m]?=Qa (mO R L M)) rfl rfl:getAttr P0 (DJ h L) (.ξ L.m) oY=Qa (.ξ L.aE)))<|.v ((ga (tQ (jH I.fj) I.mA:(DJ h L)[L.m]?=Qa (mO R L M)) rfl rfl:getAttr P0 (DJ h L) (.ξ L.m) m8=Qa (.aj (112+R.i))))<|.w (R.no)<|.p (zdo (ah P0 d') (R.e R.Κ) (tQ (h:=h) (jH I.ak) (Kc I.AE)) (tQ (h:=h) (jH I.ak) (Kc I.AE)) (by rw[Jq,I.fg];exact Zv hl (by decide)))<|.v (oD (I.TH hl))<|.p (RG (I.TH hl) d')<|.c<|.z ((show Q (.Β ((M.TH.aa.ε:Φ) -1)) (wD R h L M) by rw[e4];exact q _ (I.TH hl) FS))) (by kernel_rfl)
end
section
variable{h0:MH}
theorem Gc(ha:h[a]?=Qa o)(hf:P0.cz k n=Qe)(hl:fs.ε<400)(e:WH fs n v=fs'):setAttr P0 (h.Ϫ a (.Tt k fs)) (.ξ a) n v=Qa (h.Ϫ a (.Tt k fs')):=(E2 (kM ha) hf hl).ν (by rw[qaV,e])
def Nz{up lo:ζ θ}{w:R.α}{t:θ}(hd:1<=d)(ha:h[a]?=Qa (.Tt 118 []))(q:Q .Ε (h.Ϫ a (mW R ⟨up,lo,w,t⟩))):WF P0 d 166 [.ξ a,.Ϥ up,.Ϥ lo,R.e w,.Β t] h Q:=by
 exact kN (K:=0) hd (Qa (.ξ a)::Qa (.Ϥ up)::Qa (.Ϥ lo)::Qa (R.e w)::Qa (.Β t)::nn 6) yR rfl λd' h'=>j6 (.h ((E2 ha rfl (by decide):setAttr P0 h (.ξ a) oJ (.Ϥ up)=Qa (h.Ϫ a (.Tt 118 [(oJ,.Ϥ up)]))))<|.h ((Gc (k:=118) (n:=qU) (fs:=[(oJ,.Ϥ up)]) (v:=.Ϥ lo) ha rfl (by decide:1<400) rfl))<|.h ((Gc (k:=118) (n:=wJ) (fs:=[(oJ,.Ϥ up),(qU,.Ϥ lo)]) (v:=R.e w) ha rfl (by decide:2<400) rfl))<|.h ((Gc (k:=118) (n:=oX) (fs:=[(oJ,.Ϥ up),(qU,.Ϥ lo),(wJ,R.e w)]) (v:=.Β t) ha rfl (by decide:3<400) rfl))<|.z ((q))) (by kernel_rfl)
theorem Nv{x:Ar R.α}:mW R x≠mO R L M:=λe=>by
 injection e with e1 e2;exact ς e1 (by decide)
def Mc.fv(M:Mc R.α)(s:θ)(a:Ar R.α):Mc R.α:= {M with aa:=M.aa.Ϫ s (M.aa[s]?.ϡ []++[a]),bb:=M.bb+1}
def HS(R:Rg)(h:MH)(L:Ly)(M:Mc R.α):MH:=h.Ϫ L.m (mO R L {M with bb:=M.bb+1})
def Uk(R:Rg)(h:MH)(L:Ly)(M:Mc R.α)(a:Ar R.α)(r:θ)(as:ζ θ):MH:=(HS R h L M++[mW R a]).Ϫ r (.ο (as.π ab.ξ++[ab.ξ h.ε]))
theorem zcJ:(HS R h L M).ε=h.ε:=Zd ..
section
variable{a:Ar R.α}{s r b:Nat}{as:List Nat}{o:ae}
theorem xF(e:h[b]?=Qa o)(h1:b≠L.m):(HS R h L M)[b]?=Qa o:=jZ (Kc h1) e
theorem tW(e:h[b]?=Qa o)(h1:b≠L.m)(h2:b≠r):(Uk R h L M a r as)[b]?=Qa o:=jZ (Kc h2) (jH (xF e h1))
theorem Ny(hr:r<h.ε):(Uk R h L M a r as)[h.ε]?=Qa (mW R a):=jZ (ZG hr) ((ω (λn=>(HS R h L M++[mW R a])[n]?) zcJ.Μ).ν ap)
theorem Nx(hr:r∈L.az):lX h (Uk R h L M a r as) (fk L):=⟨by unfold Uk;rw[Zd,xT,zcJ];exact Zp _,λb o hb e=>tW e (λq=>hb (q▸ .mo _)) λq=>hb (q▸ .pc _ (.pc _ (.pc _ hr)))⟩
def Bx(R:Rg)(h:MH)(L:Ly)(M:Mc R.α)(s r:θ)(as:ζ θ)(xs:ζ (Ar R.α)):Prop:=L.az[s]?=Qa r/\M.aa[s]?=Qa xs/\h[r]?=Qa (.ο (as.π ab.ξ))/\as.ε=xs.ε/\∀(j b:θ)(x:Ar R.α),as[j]?=Qa b->xs[j]?=Qa x->h[b]?=Qa (mW R x)
section
variable{R:Rg}{h:MH}{L:Ly}{M:Mc R.α}{s r:Nat}{as:List Nat}{xs:List (Ar R.α)}(ψ:Bx R h L M s r as xs)
def Bx.i:=@ψ.1
def Bx.x:=@ψ.2.1
def Bx.a:=@ψ.2.2.1
def Bx.l:=@ψ.2.2.2.1
def Bx.o:=@ψ.2.2.2.2
end
def Nt{xs:ζ (Ar R.α)}(I:ao R h L M)(W:Bx R h L M s r as xs):qI R (Uk R h L M a r as) r (xs++[a]):=by
 have hm:=Jt W.i;refine⟨as++[h.ε],?_,xT.ν ((ω (· +1) W.l).ν xT.Μ),λj b x hb hx=>?_⟩
 ·rw[JW];exact kM (jH (xF W.a λq=>I.lj (q▸hm)))
 ·rcases EF W.l hb hx with ⟨h1,h2⟩| ⟨rfl,rfl⟩
  ·exact tW (W.o j b x h1 h2) (cv (W.o j b x h1 h2) I.fj Nv) (cv (W.o j b x h1 h2) W.a nofun)
  ·exact Ny (I.ry hm)
def Bp{xs:ζ (Ar R.α)}{ys:ζ (Ar R.α)}(I:ao R h L M)(W:Bx R h L M s r as xs)(hk:s≠k)(hr:L.az[k]?=Qa r')(hy:M.aa[k]?=Qa ys):qI R (Uk R h L M a r as) r' ys:=by
 have hn:r'≠r:=λq=>by
  subst q;obtain⟨l1,e1⟩:=Jy.mp W.i;obtain⟨l2,e2⟩:=Jy.mp hr;exact hk (Yv I.nr|>.mp (e1.ν e2.Μ))
 exact(I.az k r' ys hr hy).Τ λb o e ho=>tW e (ho.ι (λ⟨_,q⟩=>cv e I.fj (q▸Nv)) λq p=>I.lj (p▸q▸(Jt hr))) (ho.ι (λ⟨_,q⟩=>cv e W.a (q▸nofun)) λq=>q▸hn)
def r7{l:ζ θ}{r:θ}(h:l[k]?=Qa r):(l.π ab.ξ)[k]?=Qa (.ξ r):=by rw[JE,h];rfl
theorem ao.yp(I:ao R h L M){as:ζ θ}{r:θ}(hr:L.az[k]?=Qa r)(ha:h[r]?=Qa (.ο (as.π ab.ξ))):∀b∈as,b<h.ε:=λb hb=>by
 have hk:k<M.aa.ε:=I.lv▸jR hr;refine Zx (I.az k r _ hr (Jp hk)) λas' zq15=>?_;have h1:=zq15.1;refine(Km hb).ι λj zq14=>?_;rw[ha] at h1;have e1:(as'.π ab.ξ)[j]?=Qa (.ξ b):=(zfk h1:as.π ab.ξ=as'.π ab.ξ)▸r7 zq14;rw[JE] at e1;refine(Zm.mp e1).ι λb' zq13=>?_;have e3:=zq13.2;cases e3;exact j4 (zq15.2.2 j _ _ zq13.1 (Jp (zq15.2.1▸jR zq13.1:j<M.aa[k].ε)))
def zb7{l:ζ (ζ θ)}{s:θ}{as:ζ θ}(n:l.pt.Ω)(hs:l[s]?=Qa as)(hx:∀bs∈l,x∉bs):(l.Ϫ s (as++[x])).pt.Ω:=by
 refine(Jy.mp hs).ι λh zq12=>?_;refine eqE zq12 ?_;have e:=Kw s l;rw[ZK h] at e;have hf:x∉l.pt:=λq=>let ⟨bs,h1,h2⟩:=Xc.mp q;hx bs h1 h2;rw[ζ.set_eq_take_append_cons_drop,φ h,Yx,Ya];rw[(by conv=>lhs;rw[<-e,Yx,Ya]:l.pt=(l.na s).pt++(l[s]++(l.jp (s+1)).pt))] at n hf;rw[JA,ζ.singleton_append,<-JA];refine Yu.nodup_iff.ϥ (JH.ϥ ⟨?_,?_⟩)
 ·rw[JA];exact hf
 ·rw[JA];exact n
def zdn{xs:ζ (Ar R.α)}(I:ao R h L M)(W:Bx R h L M s r as xs):xf (Uk R h L M a r as) L.az L.m:=by
 refine Zx I.ds λads zq11=>?_;have b:=zq11.2.1;have q:=zq11.2.2;have g2:∀(k:θ),(L.az.π λr=>h[r]?)[k]?=ads[k]?.π λas=>Qa (.ο (as.π .ξ)):=λk=>by rw[q];exact JE ..
 have hs:ads[s]?=Qa as:=by
  have e:=((λk=>JE ..) s).Μ.ν (g2 s);rw[W.i,qak,W.a] at e;exact(Zm.mp e.Μ).ι λas' zq10=>zq10.1.ν (ω Qa (zgI zq10.2))
 refine⟨ads.Ϫ s (as++[h.ε]),zb7 zq11.1 hs λbs hb hx=>?_,λx hx=>?_,?_⟩
 ·refine(Km hb).ι λk zq9=>?_
  have e:=((λk=>JE ..) k).Μ.ν (g2 k);rw[zq9] at e;exact(Zm.mp e).ι λr' zq8=>Zb _ (I.yp zq8.1 zq8.2 _ hx)
 ·obtain⟨bs,hb,hx⟩:=Xc.mp hx
  rcases Z8 hb with hb|rfl
  ·exact b x (Xc.ϥ ⟨bs,hb,hx⟩)
  ·rcases Zh.mp hx with hx|hx
   ·exact b x (Xc.ϥ ⟨as,Jt hs,hx⟩)
   ·rw[JD.mp hx];exact j4 I.fj
 ·refine XU λk=>?_
  simp only[JE,JE];by_cases e:s=k
  ·subst e
   simp only[W.i,J6 (jR hs),qak,qak,JW];exact ω Qa (kM (jH (xF W.a λq=>I.lj (q▸(Jt W.i)))))
  ·rw[J7 e,<-g2 k,(λk=>JE ..) k]
   cases hr:L.az[k]? with
   |none=>rfl
   |some r'=>
    obtain⟨o,ho⟩:∃o,h[r']?=Qa o:=⟨_,Jp (I.ry (Jt hr))⟩;have hn:r'≠r:=λq=>by
     subst q;obtain⟨l1,e1⟩:=Jy.mp W.i;obtain⟨l2,e2⟩:=Jy.mp hr;exact e (Yv I.nr|>.mp (e1.ν e2.Μ))
    show Qa (Uk R h L M a r as)[r']?=Qa h[r']?;rw[ho,tW ho (λq=>I.lj (q▸(Jt hr))) hn]
def ao.fv{xs:ζ (Ar R.α)}(I:ao R h L M)(W:Bx R h L M s r as xs)(hc:M.bb<100000):ao R (Uk R h L M a r as) L (M.fv s a):=by
 have hm:=Jt W.i;refine⟨jZ (λq=>I.lj (q▸hm)) (jH (kM I.fj)),tW I.aa (Kc I.mA) λq=>I.vw (q▸hm),tW I.ak (Kc I.mE) λq=>I.ri (q▸hm),I.lv.ν (Zd ..).Μ,I.fg.ν (Zd ..).Μ,λk r' ys hr hy=>?_,I.nd,Jn (JF (Zd ..)) I.bg,?_,hc,zdn I W⟩
 ·have hy:(M.aa.Ϫ s (M.aa[s]?.ϡ []++[a]))[k]?=Qa ys:=hy
  rw[(by rw[W.x];rfl:M.aa[s]?.ϡ []=xs)] at hy;by_cases hk:s=k
  ·subst hk
   rw[J6 (jR W.x)] at hy;refine lV hy ?_;cases W.i.Μ.ν hr;exact Nt I W
  ·rw[J7 hk] at hy
   exact Bp I W hk hr hy
 ·show ((M.aa.Ϫ s (M.aa[s]?.ϡ []++[a])).π Ku).sum=M.bb+1
  rw[(by rw[W.x];rfl:M.aa[s]?.ϡ []=xs),<-(Jy.mp W.x).2];exact(Ec (jR W.x)).ν (ω (· +1) I.ct)
def ao.bI(I:ao R h L M)(hs:s<M.aa.ε):∃r as,Bx R h L M s r as M.aa[s]:=by
 exact(I.Tq hs).ι λr zq3=>Zx zq3.2 λas zq4=>⟨r,as,zq3.1,Jp hs,zq4.1,zq4.2.1,zq4.2.2⟩
end
theorem zfy(I:ao R h L M):getAttr P0 h (.ξ L.m) wK=Qa (.Β M.bb):=ga I.fj rfl rfl
theorem MI(hd:2<=d)(I:ao R h L M)(hk:k<M.aa.ε):kI (ah P0 d) (.ξ L.m) 521330740336550618428517 [.Β k] h h=Qa (.Β k,h):=me (lM I.fj rfl rfl) (zb2 hd I hk (cn (.Β k) h))
theorem Po(a:Ar R.α)(hd:1<=d):jO (ah P0 d) (.aj 118) [.Ϥ a.up,.Ϥ a.lo,R.e a.w,.Β a.t] h=Qa (.ξ h.ε,h++[mW R a]):=W.eq (BF (i:=166) rfl rfl (Nz (up:=a.up) (lo:=a.lo) (w:=a.w) (t:=a.t) hd ap ⟨rfl,rfl,tI⟩))
def zi2{a:Ar R.α}(hd:4<=d)(I:ao R h L M)(hs:s<M.aa.ε)(ht:a.t<M.aa.ε)(lu:dp a.up)(ll:dp a.lo)(hw:R.D p k a.w)(hl:4*p+k<=3800)(hc:M.bb<100000){r:θ}(W:Bx R h L M s r as M.aa[s])
  (q0:a.w=R.Κ->Q .Ε h) (q1:a.w≠R.Κ->Q .Ε (Uk R h L M a r as)):WF P0 d 171 [.ξ L.m,.Β s,.Ϥ a.up,.Ϥ a.lo,R.e a.w,.Β a.t] h Q:=by
 refine kN (K:=3) hd (Qa (.ξ L.m)::Qa (.Β s)::Qa (.Ϥ a.up)::Qa (.Ϥ a.lo)::Qa (R.e a.w)::Qa (.Β a.t)::nn 6) sV rfl λd' h'=>?_;have r1:=xF (R:=R) (M:=M) W.a λq=>I.lj (q▸Jt W.i);have e4:=Po (h:=HS R h L M) (d:=d') a (Jn (by decide) h');rw[zcJ] at e4;exact j6 (.p (MI (Jn (by decide) h':2<=d') I hs)<|.p (MI (Jn (by decide) h':2<=d') I ht)<|.p (fn (as:=[.Ϥ a.up]) rfl (A4 h' lu (cn (.Ϥ a.up) h)))<|.p (fn (as:=[.Ϥ a.lo]) rfl (A4 h' ll (cn (.Ϥ a.lo) h)))<|.v (l9 I)<|.q (R.nd h' hw hl)<|.v (l9 I)<|.w (R.no)<|.k (R.qe a.w R.Κ)<|.br (@decide (a.w=R.Κ) (R.gk a.w R.Κ)) (λhz=>.z (q0 (dT hz))) (λhz=>.v (zfy I)<|.c<|.f (Θ (p:=(200000:Φ)<=M.bb) (qaJ.ϥ (Z2.ϥ (Zv hc (by decide)))))<|.v (zfy I)<|.c<|.h ((E2 I.fj rfl (by decide:6<400):setAttr P0 h (.ξ L.m) wK (.Β ((M.bb:Φ)+1))=Qa (HS R h L M)))<|.v ((ga (kM I.fj) rfl rfl:getAttr P0 (HS R h L M) (.ξ L.m) kT=Qa (.ξ L.aA)))<|.v ((sl (xF I.aa (Kc I.mA)) (r7 W.i):kR (HS R h L M) (.ξ L.aA) (.Β s)=Qa (.ξ r)))<|.p (e4)<|.p ((zdo (ah P0 d') (.ξ h.ε) r1 (jH (t:=[mW R a]) r1) (by rw[Jq,W.l];exact Jw (I.cr _ (Zt hs)) (Zv hc (by decide)))))<|.z ((q1 (dF hz))))) (by kernel_rfl)
def Nu{a:Ar R.α}(hd:4<=d)(I:ao R h L M)(hs:s<M.aa.ε)(ht:a.t<M.aa.ε)(lu:dp a.up)(ll:dp a.lo)(hw:R.D p k a.w)(hl:4*p+k<=3800)(hc:M.bb<100000)
  (q:∀h' M',ao R h' L M'->lX h h' (fk L)->(a.w=R.Κ->M'=M)->(a.w≠R.Κ->M'=M.fv s a)->Q .Ε h'):WF P0 d 171 [.ξ L.m,.Β s,.Ϥ a.up,.Ϥ a.lo,R.e a.w,.Β a.t] h Q:=by
 exact(I.bI hs).ι λr zq1=>zq1.ι λas zq2=>zi2 hd I hs ht lu ll hw hl hc zq2 (λe=>q h M I .TC (λ_=>rfl) λhn=>ς e hn) λe=>q _ _ (I.fv zq2 hc) (Nx (Jt zq2.i)) (λh=>ς h e) λ_=>rfl
end
section
variable{h0:MH}
def ao.ur{M':Mc R.α}(I:ao R h L M)(e1:M'.aa=M.aa)(e2:M'.ak=M.ak)(e3:M'.bb=M.bb):ao R (h.Ϫ L.m (mO R L M')) L M':=by
 refine⟨kM I.fj,jZ I.mA I.aa,jZ I.mE (e2▸I.ak),e1▸I.lv,by rw[e1,e2];exact I.fg,λk r xs hr hx=>?_,I.nd,e1▸I.bg,by rw[e1,e3];exact I.ct,e3▸I.cl,I.ds.to λr hr _ e=>jZ (λq=>I.lj (q▸hr)) e⟩;rw[e1] at hx;refine(I.az k r xs hr hx).Τ λa o e ho=>jZ ?_ e;rcases ho with ⟨x,rfl⟩|rfl
 ·exact Kc (cv e I.fj Nv)
 ·exact λq=>I.lj (q▸Jt hr)
theorem SW:L.m∈fk L:=.mo _
theorem zeF:L.aE∈fk L:=.pc _ (.pc _ (.mo _))
theorem Ik(ha:a∈fk L):lX h (h.Ϫ a o) (fk L):=lX.Ϫ.Ix λb hb=>by rw[JD.mp hb];exact ha
def HK{w:R.α}(hd:4<=d)(I:ao R h L M)(hs:s<M.aa.ε)(hw:R.D p k w)(hl:4*p+k<=3800)(q:∀h',ao R h' L {M with start:=s,first:=w}->lX h h' (fk L)->Q .Ε h'):WF P0 d 172 [.ξ L.m,.Β s,R.e w] h Q:=by
 refine kN (K:=3) hd (Qa (.ξ L.m)::Qa (.Β s)::Qa (R.e w)::nn 6) qF rfl λd' h'=>?_;have e1:setAttr P0 h (.ξ L.m) tT (R.e w)=Qa (h.Ϫ L.m (mO R L {M with first:=w})):=E2 I.fj rfl (by decide:6<400);have e2:setAttr P0 (h.Ϫ L.m (mO R L {M with first:=w})) (.ξ L.m) qS (.Β s)=Qa ((h.Ϫ L.m (mO R L {M with first:=w})).Ϫ L.m (mO R L {M with start:=s,first:=w})):=E2 (I.ur (M':= {M with first:=w}) rfl rfl rfl).fj rfl (by decide:6<400);exact j6 (.p (MI (Jn (by decide) h') I hs)<|.b (R.vg w)<|.c<|.v (l9 I)<|.q (R.nd h' hw hl)<|.h (e1)<|.h (e2)<|.z ((q _ ((I.ur (M':= {M with first:=w}) rfl rfl rfl).ur (M':= {M with start:=s,first:=w}) rfl rfl rfl) ((Ik SW).ν (Ik SW))))) (by kernel_rfl)
def ao.bG{w:R.α}(I:ao R h L M):ao R (h.Ϫ L.aE (.ο ((M.ak.Ϫ s w).π R.e))) L {M with ak:=M.ak.Ϫ s w}:=by
 refine⟨jZ (Kc I.mE) I.fj,jZ (Kc I.AE) I.aa,kM I.ak,I.lv,(Zd ..).ν I.fg,λk r xs hr hx=>?_,I.nd,I.bg,I.ct,I.cl,I.ds.to λr hr _ e=>jZ (λq=>I.ri (q▸hr)) e⟩;refine(I.az k r xs hr hx).Τ λa o e ho=>jZ ?_ e;rcases ho with ⟨x,rfl⟩|rfl
 ·exact Kc (cv e I.ak nofun)
 ·exact λq=>I.ri (q▸Jt hr)
theorem map_set'{f:α->β}{l:ζ α}{i:θ}{x:α}:(l.π f).Ϫ i (f x)=(l.Ϫ i x).π f:=(ζ.map_set ..).Μ
theorem Gj(w:R.α)(I:ao R h L M)(hs:s<M.aa.ε):∃g,mQ h (.ξ L.aE) (.Β s) (R.e w)=Qa g/\ao R g L {M with ak:=M.ak.Ϫ s w} /\lX h g (fk L):=
 ⟨_,(zbv I.ak (by rw[Jq,I.fg];exact hs)).ν (by rw[map_set']),I.bG,Ik zeF⟩
def zcY{w:R.α}(hd:4<=d)(I:ao R h L M)(hs:s<M.aa.ε)(hw:R.D p k w)(hl:4*p+k<=3800)(q:∀h',ao R h' L {M with ak:=M.ak.Ϫ s w}->lX h h' (fk L)->Q .Ε h'):WF P0 d 173 [.ξ L.m,.Β s,R.e w] h Q:=by
 exact(Gj w I hs).ι λg zq2=>kN (K:=3) hd (Qa (.ξ L.m)::Qa (.Β s)::Qa (R.e w)::nn 6) pC rfl λd' h'=>j6 (.p (MI (Jn (by decide) h') I hs)<|.b (R.vg w)<|.c<|.v (l9 I)<|.q (R.nd h' hw hl)<|.v (Wz I)<|.h (zq2.1)<|.z ((q g zq2.2.1 zq2.2.2))) (by kernel_rfl)
def RV(hd:4<=d)(I:ao R h L M)(hs:s<M.aa.ε)(q:∀h',ao R h' L {M with ak:=M.ak.Ϫ s R.cw}->lX h h' (fk L)->Q .Ε h'):WF P0 d 173 [.ξ L.m,.Β s] h Q:=by
 exact(Gj R.cw I hs).ι λg zq1=>kN (K:=3) hd (Qa (.ξ L.m)::Qa (.Β s)::Qa (.aj 120)::nn 6) pC rfl λd' h'=>j6 (.p (MI (Jn (by decide) h') I hs)<|.c2<|.v (l9 I)<|.w (R.on)<|.v (Wz I)<|.h (zq1.1)<|.z ((q g zq1.2.1 zq1.2.2))) (by kernel_rfl)
def M0:Mc R.α:=⟨[],[],0,R.cw,0⟩
theorem z6{t:MH}(hf:P0.cz k n=Qe)(hl:fs.ε<400)(e:WH fs n v=fs'):setAttr P0 (h++.Tt k fs::t) (.ξ h.ε) n v=Qa (h++.Tt k fs'::t):=(E2 ap hf hl).ν (by rw[tI,e])
def AF{j:θ}{t:MH}(hj:t.ε+1=j)(hf:P0.cz k n=Qe)(hl:fs.ε<400)(e:WH fs n (.ξ (h.ε+j))=fs'):setAttr P0 (h++.Tt k fs::t++[.ο []]) (.ξ h.ε) n (.ξ (h++.Tt k fs::t).ε)=Qa (h++.Tt k fs'::(t++[.ο []])):=by
 simp only[JA,Jx,J0,hj];exact z6 hf hl e
def RA(hd:1<=d)(q:Q .Ε (h++[mO R ⟨h.ε,h.ε+1,h.ε+2,[]⟩ M0,.ο [],.ο []])):WF P0 d 177 [.ξ h.ε,.aj (112+R.i)] (h++[.Tt 121 []]) Q:=by
 exact kN (K:=0) hd (Qa (.ξ h.ε)::Qa (.aj (112+R.i))::nn 6) rK rfl λd' h'=>j6 (.h ((z6 (h:=h) (t:=[]) (k:=121) (n:=m8) (fs:=[]) (v:=.aj (112+R.i)) rfl (by decide:0<400) rfl))<|.at (h++[.Tt 121 [(m8,.aj (112+R.i))]]++[.ο []])<|.h ((AF (h:=h) (t:=[]) (k:=121) (n:=kT) (j:=1) (fs:=[(m8,.aj (112+R.i))]) rfl rfl (by decide:1<400) rfl))<|.at (h++[.Tt 121 [(m8,.aj (112+R.i)),(kT,.ξ (h.ε+1))],.ο []]++[.ο []])<|.h ((AF (h:=h) (t:=[.ο []]) (k:=121) (n:=oY) (j:=2) (fs:=[(m8,.aj (112+R.i)),(kT,.ξ (h.ε+1))]) rfl rfl (by decide:2<400) rfl))<|.h ((z6 (h:=h) (t:=[.ο [],.ο []]) (k:=121) (n:=qS) (fs:=[(m8,.aj (112+R.i)),(kT,.ξ (h.ε+1)),(oY,.ξ (h.ε+2))]) (v:=.Β 0) rfl (by decide:3<400) rfl))<|.w (R.on)<|.h ((z6 (h:=h) (t:=[.ο [],.ο []]) (k:=121) (n:=tT) (fs:=[(m8,.aj (112+R.i)),(kT,.ξ (h.ε+1)),(oY,.ξ (h.ε+2)),(qS,.Β 0)]) (v:=R.e R.cw) rfl (by decide:4<400) rfl))<|.h ((z6 (h:=h) (t:=[.ο [],.ο []]) (k:=121) (n:=wK) (fs:=[(m8,.aj (112+R.i)),(kT,.ξ (h.ε+1)),(oY,.ξ (h.ε+2)),(qS,.Β 0),(tT,R.e R.cw)]) (v:=.Β 0) rfl (by decide:5<400) rfl))<|.z ((q))) rfl
theorem zb5(R:Rg)(h:MH):ao R (h++[mO R ⟨h.ε,h.ε+1,h.ε+2,[]⟩ M0,.ο [],.ο []]) ⟨h.ε,h.ε+1,h.ε+2,[]⟩ (M0 (R:=R)):=
 ⟨ap,oC (j:=1),oC (j:=2),rfl,rfl,(λk r xs hr=>ag hr),by show [h.ε+1,h.ε+2].Ω;exact JH.ϥ ⟨λq=>ς (JD.mp q) (ZG (JR _)),JH.ϥ ⟨Jz,.Ϝ⟩⟩,JB _,rfl,JB _,[],.Ϝ,λa ha=>ς ha Jz,rfl⟩
theorem Iz(R:Rg)(hd:1<=d)(h:MH):∃t,jO (ah P0 d) (.aj 121) [.aj (112+R.i)] h=Qa (.ξ h.ε,h++t)/\ao R (h++t) ⟨h.ε,h.ε+1,h.ε+2,[]⟩ (M0 (R:=R)):=
 ⟨_,W.eq (BF (i:=177) rfl rfl (RA hd ⟨rfl,cn _ _⟩)),zb5 R h⟩
end
section
variable{h0:MH}
def Ar.di{α:Type}(x:Ar α):Ζ:=x.up== [] && x.lo== []
abbrev qV:θ:=7598521885536580729
def zc0{x:Ar R.α}(hd:1<=d)(ha:h[a]?=Qa (mW R x))(q:Q (.ϯ x.di) h):WF P0 d 165 [.ξ a] h Q:=by
 refine kN (K:=0) hd (Qa (.ξ a)::nn 6) rM rfl λd' h'=>?_;delta Ar.di at q;exact j6 (.v ((ga ha rfl rfl:getAttr P0 h (.ξ a) oJ=Qa (.Ϥ x.up)))<|.k (wz x.up [])<|.br (x.up== []) (λhb=>.v ((ga ha rfl rfl:getAttr P0 h (.ξ a) qU=Qa (.Ϥ x.lo)))<|.k (wz x.lo [])<|.z ((show Q (.ϯ (x.lo== [])) h by rw[hb] at q;exact q))) (λhb=>.z ((show Q (.ϯ (x.up== [])) h by rw[hb] at q ⊢;exact q)))) rfl
theorem Mr{x:Ar R.α}(hd:1<=d)(h0a:h0[a]?=Qa (mW R x))(ha:h[a]?=Qa (mW R x))(q:Q (.ϯ x.di) h):WM (ah P0 d) (.ξ a) qV [] h0 h Q:=
 j9 (lM h0a rfl rfl) (zc0 hd ha q)
theorem ao.th(I:ao R h L M){xs:ζ (Ar R.α)}(hx:xs∈M.aa):xs.ε<200000:=Jw (I.cr _ hx) (Jw I.cl (by decide))
def tJ{l:ζ θ}(h:(l.π ab.ξ)[k]?=Qa v):∃r,l[k]?=Qa r/\v=.ξ r:=by
 rw[JE] at h;exact(ms h).ι λr zq9=>⟨r,zq9.1,zq9.2.Μ⟩
def yz(r:ab)(Fr:Ψ.Λ->Prop)(A:Prop)(n:θ)(B:θ->Prop)(h:MH)(o:SR):Prop:=∃f,(A/\o=Qa ((.rt r,f),h))\/(Fr f/\(∀i,i<n->B i)/\o=Qa ((.nx,f),h))
section
variable{r:ab}{Fr:Internal.Frame->Prop}{A:Prop}{n:Nat}{B:Nat->Prop}
def yz.of{o:SR}(w:W o λp g=>g=h/\((A/\p.1=.rt r)\/(Fr p.2/\(∀i,i<n->B i)/\p.1=.nx))):yz r Fr A n B h o:=by
 refine xEEAA (W.Mi w) λdw g e q1 q=>?_;obtain⟨fl,f⟩:=dw;refine eqE q1 ?_;exact⟨f,q.imp (λq=>⟨q.1,e.ν (by rw[show fl=_ from q.2])⟩) λq=>⟨q.1,q.2.1,e.ν (by rw[show fl=_ from q.2.2])⟩⟩
def eK{c:Cx}{b:ζ Sm}{fr:Ψ.Λ}(hl:vs.ε=n)(hn:n<c.ba)(hk:h[a]?=Qa (.ο vs))(e0:WE c fr e h λv g=>v=.ξ a/\g=h)(f0:Fr fr)
  (step:∀i v f R,vs[i]?=Qa v->Fr f->(∀f,A->R (.rt r) f h)->(∀f,B i->Fr f->R .nx f h)->ck c b (f.Ϫ x (Qa v)) h R):yz r Fr A n B h (exec c (.fo [x] Qc e b) fr h):=by
 subst hl;exact .of (NZ (R:=λfl f g=>g=h/\((A/\fl=.rt r)\/(Fr f/\(∀i,i<vs.ε->B i)/\fl=.nx))) hn (λi f g=>g=h/\Fr f/\∀j,j<i->B j) (λi f g q=>q.1▸hk) (e0.Τ λv g q=>⟨q.1,q.2,f0,λj hj=>ς hj (J9 _)⟩)
  (λi v hv f g q=>by
   refine eqB q.1 ?_;have hf:=q.2.1;exact step i v f _ hv hf (λ_ h=>⟨rfl,.wv ⟨h,rfl⟩⟩) λf h hf=>⟨rfl,hf,λj hj=>(θ.lt_succ_iff_lt_or_eq.mp hj).ι (q.2.2 j) λq=>q▸h⟩)
  λf g q=>⟨q.1,.IO ⟨q.2.1,q.2.2,rfl⟩⟩)
end
theorem Nk{l:ζ α}{i:θ}{x:α}{p:α->Prop}(h:l[i]?=Qa x)(hp:p x)(y:α)(e:l[i]?=Qa y):p y:=Qa.lf (h.Μ.ν e)▸hp
theorem zaD{l:ζ α}{p:α->Ζ}{x:α}(h:x∈l)(hp:p x=Qe):l.any p=true:=KL.ϥ ⟨x,h,hp⟩
theorem zaE{l:ζ α}{p:α->Ζ}(h:∀i,i<l.ε->∀x,l[i]?=Qa x->p x=Qc):l.any p=false:=Yr.ϥ λx hx=>(Km hx).ι λi hi=>by rw[h i (jR hi) x hi];exact JQ
abbrev VV(m:θ)(o1 o2:η ab):Ψ.Λ:=Qa (.ξ m)::o1::o2::nn 6
abbrev zcR:ζ Sm:=[.ite (.bc (.Ο 2) qV []) [.ret (.py (.ϯ Qe))] []]
abbrev zan:ζ Sm:=[.fo [2] Qc (.Ο 1) zcR]
def yo(r:ζ (Ar R.α)):Ζ:=r.any Ar.di
def ziP{b:θ}{o1 o:η ab}{x:Ar R.α}{X:Fl->Ψ.Λ->MH->Prop}(hd:1<=d)(hx:h[b]?=Qa (mW R x))(q1:∀f,x.di=Qe->X (.rt (.ϯ Qe)) f h)(q2:x.di=Qc->X .nx (VV m o1 (Qa (.ξ b))) h):ck (ah P0 d) zcR ((VV m o1 o).Ϫ 2 (Qa (.ξ b))) h X:=by
 exact j6 (.p ((W.eq (Mr hd hx hx (cn _ _)):kI (ah P0 d) (.ξ b) qV [] h h=Qa (.ϯ x.di,h)))<|.br (x.di) (λhe=>.z (q1 (VV m o1 (Qa (.ξ b))) he)) (λhe=>.z (q2 he))) rfl
def ziQ{r:θ}{o2:η ab}{xs:ζ (Ar R.α)}(hd:1<=d)(W:qI R h r xs)(hl:xs.ε<200000):yz (.ϯ Qe) (λf=>∃o,f=VV m (Qa (.ξ r)) o) (yo xs=Qe) xs.ε (λi=>∀x,xs[i]?=Qa x->x.di=Qc) h (exec (ah P0 d) (.fo [2] Qc (.Ο 1) zcR) (VV m (Qa (.ξ r)) o2) h):=by
 refine Zx W λas zq8=>?_;exact eK ((Jq ..).ν zq8.2.1) hl zq8.1 (by exact kO (.z (cn (.ξ r) h)) rfl) ⟨o2,rfl⟩ λi v f R' hv hf q1 q2=>by
  obtain⟨b,hb,rfl⟩:=tJ hv;obtain⟨o,rfl⟩:=hf;have hx:=Jp (l:=xs) (i:=i) (zq8.2.1▸jR hb);exact ziP hd (zq8.2.2 _ _ _ hb hx) (λf he=>q1 f (zaD (Jt hx) he)) λhe=>q2 _ (Nk hx he) ⟨_,rfl⟩
def zfs{r:θ}{o1 o2:η ab}{xs:ζ (Ar R.α)}{X:Fl->Ψ.Λ->MH->Prop}(hd:1<=d)(W:qI R h r xs)(hl:xs.ε<200000)(q1:∀f,yo xs=Qe->X (.rt (.ϯ Qe)) f h)(q2:∀o,yo xs=Qc->X .nx (VV m (Qa (.ξ r)) o) h):ck (ah P0 d) zan ((VV m o1 o2).Ϫ 1 (Qa (.ξ r))) h X:=by
 refine Zx (ziQ (m:=m) (o2:=o2) hd W hl) λf zq5=>?_;obtain⟨ha,e⟩| ⟨⟨o,hf⟩,ha,e⟩:=zq5
 ·exact j6 (.s (e)<|.z (q1 f ha)) rfl
 ·rw[hf] at e
  exact j6 (.s (e)<|.z (q2 o (zaE ha))) rfl
def ziR(hd:1<=d)(I:ao R h L M):yz (.ϯ Qe) (λf=>∃o o2,f=VV L.m o o2) (M.aa.any yo=Qe) M.aa.ε (λi=>∀x,M.aa[i]?=Qa x->yo x=Qc) h (exec (ah P0 d) (.fo [1] Qc (.aq (.Ο 0) kT) zan) (VV L.m Qd Qd) h):=by
 exact eK ((Jq ..).ν I.lv) (Jw I.bg (show 10000<200000 by decide)) I.aa (by exact kO (.v (oD I)<|.z (cn (.ξ L.aA) h)) rfl) ⟨Qd,Qd,rfl⟩ λi v f R' hv hf q1 q2=>by
  obtain⟨r,hr,rfl⟩:=tJ hv;obtain⟨o,o2,rfl⟩:=hf;have hx:=Jp (l:=M.aa) (i:=i) (I.lv▸jR hr);exact zfs hd (I.az i r _ hr hx) (I.th (Jt hx)) (λf ha=>q1 f (zaD (Jt hx) ha)) λo ha=>q2 _ (Nk hx ha) ⟨_,_,rfl⟩
def RE(hd:2<=d)(I:ao R h L M)(q:Q (.ϯ (M.aa.any λr=>r.any Ar.di)) h):WF P0 d 175 [.ξ L.m] h Q:=by
 refine kN (K:=1) hd (VV L.m Qd Qd) oA rfl λd' h'=>?_;refine Zx (ziR h' I) λf zq1=>?_;obtain⟨ha,e⟩| ⟨⟨o,o2,hf⟩,ha,e⟩:=zq1
 ·exact j6 (.s (e)<|.z ((show Q (.ϯ Qe) h by rw[<-ha];exact q))) rfl
 ·rw[hf] at e
  exact j6 (.s (e)<|.z ((show Q (.ϯ Qc) h by rw[<-zaE ha];exact q))) rfl
end
section
variable{h0:MH}
def tF(h:MH)(b:θ)(bp:ζ (ζ θ)):Prop:=∃rs:ζ θ,h[b]?=Qa (.ο (rs.π .ξ))/\rs.ε=bp.ε/\∀(k r:θ)(xs:ζ θ),rs[k]?=Qa r->bp[k]?=Qa xs->h[r]?=Qa (.ο (ek xs))
def tS{l m:ζ α}(hl:l.ε=m.ε)(h:∀(i:θ)(y:α),l[i]?=Qa y->m[i]?=Qa y):l=m:=by
 refine XU λi=>?_;by_cases hi:i<l.ε
 ·rw[Jp hi];exact(h i _ (Jp hi)).Μ
 ·rw[Z0 (Z9.mp hi),Z0 (Jn (JF (XJ hl)) (ZM hi))]
def zJ{l:ζ θ}{i:θ}(h:(ek l)[i]?=Qa v):∃x,l[i]?=Qa x/\v=.Β x:=by
 delta ek at h;rw[JE] at h;exact(ms h).ι λx zq5=>⟨x,zq5.1,zq5.2.Μ⟩
theorem mR{l:ζ θ}:(ek l).ε=l.ε:=Jq ..
theorem oI(h:n<200000):n<=bg:=JN (Zv h (by decide))
def zT{fr:Ψ.Λ}(G:θ->ae)(hf:vs.ε<cx.ba)(hl:vs.ε<=bg)
  (q:WE cx fr it h λv h1=>v=.ξ a/\h1[a]?=Qa (.ο vs)/\(∀i v t,vs[i]?=Qa v->WE cx (fr.Ϫ x (Qa v)) ez (h1++t) λy h3=>y=.ξ (h1++t).ε/\h3=(h1++t)++[G i])/\
   Q (.ξ h1.ε) (h1++.ο ((JZ (h1.ε+1) vs.ε).π .ξ)::(JX vs.ε).π G)):WE cx fr (.comp ez [x] Qc it []) h Q:=by
 refine zU (a:=a) (vs:=vs) (λh1 ys t=>ys=(JZ (h1.ε+1) ys.ε).π ab.ξ/\t=(JX ys.ε).π G) hf hl (W.Τ q λv h1 q=>?_);obtain⟨rfl,h1a,st,q⟩:=q;refine⟨rfl,h1a,⟨rfl,rfl⟩,λys t v J hv=>W.Τ (st ys.ε v (.ο ys::t) hv) λy h3 q=>?_,λys t hy J=>?_⟩
 ·obtain⟨rfl,rfl⟩:=q
  refine⟨[G ys.ε],JA ..,?_,?_⟩
  ·rw[(λy=>by rw[Jx];rfl:∀y:ab,(ys++[y]).ε=ys.ε+1),qaN,JW,<-J.1]
   congr 2
   simp only[Jx,J0,J.2,Jq,Zg]
   congr 1;lia
  ·rw[(λy=>by rw[Jx];rfl:∀y:ab,(ys++[y]).ε=ys.ε+1),YF,JW,<-J.2];rfl
 ·obtain⟨J1,J2⟩:=J
  rw[hy] at J1 J2;rw[J1,J2];exact q
def ax(M:Mc R.α)(k:θ):ζ (Ar R.α):=M.aa[k]?.ϡ []
def BN{fr:Ψ.Λ}(F:θ->ab)(hf:vs.ε<cx.ba)(hl:vs.ε<=bg)
  (q:WE cx fr it h λv h1=>v=.ξ a/\h1[a]?=Qa (.ο vs)/\(∀i v t,vs[i]?=Qa v->WE cx (fr.Ϫ x (Qa v)) ez (h1++t) λy h3=>y=F i/\h3=h1++t)/\Q (.ξ h1.ε) (h1++[.ο ((JX vs.ε).π F)])):WE cx fr (.comp ez [x] Qc it []) h Q:=by
 refine zU (a:=a) (vs:=vs) (λh1 ys t=>ys=(JX ys.ε).π F/\t=[]) hf hl (W.Τ q λv h1 q=>?_);obtain⟨rfl,h1a,st,q⟩:=q;refine⟨rfl,h1a,⟨rfl,rfl⟩,λys t v J hv=>W.Τ (st ys.ε v (.ο ys::t) hv) λy h3 q=>?_,λys t hy J=>?_⟩
 ·obtain⟨rfl,rfl⟩:=q
  refine⟨[],by rw[ZE],?_,by rw[J.2];rfl⟩;simp only[xT,YF,JW,<-J.1];rfl
 ·obtain⟨J1,rfl⟩:=J
  rw[J1,hy];exact q
abbrev rl:Ex:=.comp (.aq (.Ο 2) oX) [2] Qc (.Ο 1) []
theorem FU{l:ζ α}{F:θ->β}{f:α->β}(h:∀(i:θ)(x:α),l[i]?=Qa x->F i=f x):(JX l.ε).π F=l.π f:=
 tS (by rw[Jq,Zg,Jq]) λi y hi=>by
  rw[JE] at hi ⊢;have hl:i<l.ε:=Zg (n:=l.ε)▸jR (ms hi).choose_spec.1;rw[Kf hl] at hi;rw[Jp hl];exact(ω Qa (h i _ (Jp hl))).Μ.ν hi
def hG{r:θ}{o2:η ab}{xs:ζ (Ar R.α)}(W:qI R h r xs)(hl:xs.ε<200000)(t:MH):WE (ah P0 d) (Qa (.ξ m)::Qa (.ξ r)::o2::nn 4) rl (h++t) λy g=>y=.ξ (h++t).ε/\g=(h++t)++[.ο (ek (xs.π Ar.t))]:=by
 refine Zx W λas zq4=>?_;have e:(as.π ab.ξ).ε=xs.ε:=(Jq ..).ν zq4.2.1;have e2:(JX (as.π ab.ξ).ε).π (λi=>ab.Β (((xs[i]?.π Ar.t).ϡ 0:θ):Φ))=ek (xs.π Ar.t):=by
  unfold ek;rw[e,KN];exact FU λi x hx=>by rw[hx];rfl
 refine BN (a:=r) (vs:=as.π .ξ) (λi=>.Β (((xs[i]?.π Ar.t).ϡ 0:θ):Φ)) (by rw[e];exact hl) (by rw[e];exact oI hl) ((by exact kO (.z (cn (.ξ r) (h++t))) rfl:WE (ah P0 d) (Qa (.ξ m)::Qa (.ξ r)::o2::nn 4) (.Ο 1) (h++t) λv g=>v=.ξ r/\g=h++t).Τ λv g q=>?_);refine eqE q.1 ?_;refine eqB q.2 ?_;rw[e2];refine⟨rfl,jH zq4.1,λi v t' hv=>?_,cn _ _⟩;refine(tJ hv).ι λb zq3=>?_;refine eqB zq3.2 ?_;obtain⟨x,hx⟩:∃x,xs[i]?=Qa x:=⟨_,Jp (zq4.2.1▸jR zq3.1)⟩;have e1:getAttr P0 (h++t++t') (.ξ b) oX=Qa (.Β x.t):=ga (jH (jH (zq4.2.2 i b _ zq3.1 hx))) rfl rfl;have e3:x.t=(xs[i]?.π Ar.t).ϡ 0:=by rw[hx];rfl
 rw[<-e3];exact kO (.v (e1)<|.z (cn (.Β (x.t:θ)) (h++t++t'))) rfl
def hH(I:ao R h L M):eval (ah P0 d) (.comp rl [1] Qc (.aq (.Ο 0) kT) []) (Qa (.ξ L.m)::nn 6) h=Qa (.ξ h.ε,h++.ο ((JZ (h.ε+1) M.aa.ε).π .ξ)::(JX M.aa.ε).π λi=>.ο (ek ((ax M i).π Ar.t))):=by
 have hn:(L.az.π ab.ξ).ε=M.aa.ε:=(Jq ..).ν I.lv;have hl:=Jw I.bg (show 10000<200000 by decide);refine W.eq (zT (cx:=ah P0 d) (a:=L.aA) (x:=1) (ez:=rl) (vs:=L.az.π .ξ) (λi=>.ο (ek ((ax M i).π Ar.t))) (by rw[hn];exact hl) (by rw[hn];exact oI hl) (W.Τ (by exact kO (.v (oD I)<|.z (cn (.ξ L.aA) h)) rfl:WE (ah P0 d) (Qa (.ξ L.m)::nn 6) (.aq (.Ο 0) kT) h λv g=>v=.ξ L.aA/\g=h) λv g q=>?_));refine eqE q.1 ?_;refine eqB q.2 ?_;rw[hn];refine⟨rfl,I.aa,λi v t hv=>?_,cn _ _⟩;refine(tJ hv).ι λr zq2=>?_;refine eqB zq2.2 ?_;obtain⟨x,hx⟩:∃x,M.aa[i]?=Qa x:=⟨_,Jp (I.lv▸jR zq2.1)⟩;rw[(by unfold ax;rw[hx];rfl:ax M i=x)];exact hG (m:=L.m) (o2:=Qd) (I.az i r x zq2.1 hx) (I.th (Jt hx)) t
def hY(M:Mc R.α):tF (h++.ο ((JZ (h.ε+1) M.aa.ε).π .ξ)::(JX M.aa.ε).π λi=>.ο (ek ((ax M i).π Ar.t))) h.ε (M.aa.π λr=>r.π Ar.t):=by
 refine⟨_,ap,by rw[KB,Jq],λk r xs hr hx=>?_⟩;have hk:k<M.aa.ε:=Jq (λr:ζ (Ar R.α)=>r.π Ar.t)▸jR hx;rw[qas hk] at hr;refine lV hr ?_;rw[JE] at hx;refine(ms hx).ι λx zq1=>?_;refine eqE zq1.2 ?_;simp only[show h.ε+1+1*k=h.ε+(k+1) by rw[Kg,J8,ZW 1 k],oC,ζ.getElem?_cons_succ,JE,Kf hk];rw[<-(by unfold ax;rw[zq1.1];rfl:ax M k=x)];rfl
def FE(hd:1<=d)(I:ao R h L M)(q:∀t b,tF (h++t) b (M.aa.π λr=>r.π Ar.t)->Q (.ξ b) (h++t)):WF P0 d 125 [.ξ L.m] h Q:=by
 exact kN (K:=0) hd (Qa (.ξ L.m)::nn 6) pB rfl λd' h'=>j6 (.p (hH (d:=d') I)<|.z (q _ _ (hY M))) rfl
end
abbrev qT:θ:=1936292453
theorem pH(hd:1<=d)(I:ao R h L M):kI (ah P0 d) (.ξ L.m) qT [] h h=Qa (.Β M.aa.ε,h):=me (lM I.fj rfl rfl) (OZ hd I ⟨rfl,rfl⟩)
def x4{l:ζ R.α}{x:R.α}(hs:l[s]?=Qa x):(l.π R.e)[s]?=Qa (R.e x):=by rw[JE,hs];rfl
abbrev at'(l:ζ R.α)(s:θ):R.α:=l[s]?.ϡ R.Κ
def Uj{l:ζ R.α}(hs:s<l.ε):l[s]?=Qa (at' l s):=by rw[Jp hs];unfold at';rw[Jp hs];rfl
theorem Nj{l:ζ R.α}(hs:s<l.ε):at' l s∈l:=Jt (Uj hs)
theorem qv{b:θ}{a:Ar R.α}(hB:h[b]?=Qa (mW R a)):getAttr P0 h (.ξ b) oJ=Qa (.Ϥ a.up):=ga hB rfl rfl
theorem rp{b:θ}{a:Ar R.α}(hB:h[b]?=Qa (mW R a)):getAttr P0 h (.ξ b) qU=Qa (.Ϥ a.lo):=ga hB rfl rfl
theorem yk{b:θ}{a:Ar R.α}(hB:h[b]?=Qa (mW R a)):getAttr P0 h (.ξ b) wJ=Qa (R.e a.w):=ga hB rfl rfl
theorem ro{b:θ}{a:Ar R.α}(hB:h[b]?=Qa (mW R a)):getAttr P0 h (.ξ b) oX=Qa (.Β a.t):=ga hB rfl rfl
theorem WD{b:θ}{a:Ar R.α}(hd:1<=d)(hB:h[b]?=Qa (mW R a)):kI (ah P0 d) (.ξ b) qV [] h h=Qa (.ϯ a.di,h):=W.eq (Mr hd hB hB ⟨rfl,rfl⟩)
def nT{x:Ζ}(h:x=Qe):(!x)=false:=by rw[h];rfl
def nF{x:Ζ}(h:x=Qc):(!x)=true:=by rw[h];rfl
def By(R:Rg)(h:MH)(r:θ)(as:ζ θ)(xs:ζ (Ar R.α)):Prop:=h[r]?=Qa (.ο (as.π .ξ))/\(as.π ab.ξ).ε=xs.ε/\∀(j:θ)(v:ab),(as.π ab.ξ)[j]?=Qa v->∃b x,v=.ξ b/\xs[j]?=Qa x/\h[b]?=Qa (mW R x)
section
variable{R:Rg}{h:MH}{r:Nat}{as:List Nat}{xs:List (Ar R.α)}(ψ:By R h r as xs)
def By.l:=@ψ.1
def By.n:=@ψ.2.1
def By.a:=@ψ.2.2
end
def ao.mu(I:ao R h L M)(hk:k<M.aa.ε):∃r as,(L.az.π ab.ξ)[k]?=Qa (.ξ r)/\By R h r as (ax M k)/\ax M k∈M.aa:=by
 refine(I.Tq hk).ι λr zq8=>Zx zq8.2 λas zq9=>?_;rw[(by unfold ax;rw[Jp hk];rfl:ax M k=M.aa[k])];refine⟨r,as,r7 zq8.1,⟨zq9.1,(Jq ..).ν zq9.2.1,λj v hv=>?_⟩,Zt hk⟩;refine(tJ hv).ι λb zq7=>?_;refine eqB zq7.2 ?_;have hj:j<M.aa[k].ε:=by rw[<-zq9.2.1];exact jR zq7.1
 exact⟨b,M.aa[k][j],rfl,Jp hj,zq9.2.2 j b _ zq7.1 (Jp hj)⟩
def pN(M:Mc R.α)(s:θ):θ:=((M.aa.na s).π Ku).sum
def D4(hs:s<M.aa.ε):pN M (s+1)=pN M s+M.aa[s].ε:=by
 delta pN;rw[Yd hs,JW,Xn];simp
def W9(I:ao R h L M)(s:θ):pN M s<=M.bb:=by
 delta pN;rw[<-I.ct]
 conv=>rhs;rw[<-Kw s M.aa,JW,Xn]
 exact Jr _ _
def Va(hs:s<M.aa.ε):pN M (s+1)=pN M s+(ax M s).ε:=by
 rw[D4 hs];unfold ax;rw[Jp hs];rfl
theorem FW{z:Cx}(ha:h[a]?=Qa (.ο vs)):jO z (.bi uD) [.ξ a] h=Qa (.Β vs.ε,h):=W.eq (Am ha ⟨rfl,rfl⟩)
theorem iY(z:Cx)(v:ab)(ha:h[a]?=Qa (.ο vs))(hl:vs.ε<1000000):kI z (.ξ a) fe [v] h h=Qa (.Ε,h.Ϫ a (.ο (vs++[v]))):=W.eq (Up ha ha hl ⟨rfl,rfl⟩)
def zfT(z:Cx){xs:ζ θ}(i:θ)(ha:h[a]?=Qa (.ο (ek xs)))(hl:xs.ε<1000000):kI z (.ξ a) fe [.Β i] h h=Qa (.Ε,h.Ϫ a (.ο (ek (xs++[i])))):=by
 rw[iY z _ ha (by rw[mR];exact hl)];delta ek;rw[JW];rfl
abbrev zH:θ:=495873782885
abbrev zah:θ:=6386275
abbrev GB:θ:=422608071022
def Lo(hd:2<=d)(I:ao R h L M)(hl:M.aa.ε<10000):∃g,kI (ah P0 d) (.ξ L.m) zH [] h h=Qa (.Β M.aa.ε,g)/\ao R g (L.TH h.ε) M.TH/\lX h g [L.aA,L.aE]:=by
 refine(W.Mi (j9 (P:=P0) (lM (n:=zH) I.fj rfl rfl) (Ln (Q:=λv g=>v=.Β M.aa.ε/\ao R g (L.TH h.ε) M.TH/\lX h g [L.aA,L.aE]) hd I hl λg I' K=>⟨rfl,I',K⟩))).ι λv zq5=>zq5.ι λg zq6=>?_;refine eqE zq6.2.1 ?_;exact⟨g,zq6.1,zq6.2.2⟩
def zdm{a:Ar R.α}(hd:4<=d)(I:ao R h L M)(hs:s<M.aa.ε)(ht:a.t<M.aa.ε)(lu:dp a.up)(ll:dp a.lo)(hw:R.D p k a.w)(hl:4*p+k<=3800)(hc:M.bb<100000)(hz:a.w≠R.Κ):∃g,kI (ah P0 d) (.ξ L.m) zah [.Β s,.Ϥ a.up,.Ϥ a.lo,R.e a.w,.Β a.t] h h=Qa (.Ε,g)/\ao R g L (M.fv s a)/\lX h g (fk L):=by
 refine(W.Mi (j9 (P:=P0) (lM (n:=zah) I.fj rfl rfl) (Nu (Q:=λv g=>v=.Ε/\ao R g L (M.fv s a)/\lX h g (fk L)) hd I hs ht lu ll hw hl hc λg M' I' K _ hM=>⟨rfl,hM hz▸I',K⟩))).ι λv zq3=>zq3.ι λg zq4=>?_;refine eqE zq4.2.1 ?_;exact⟨g,zq4.1,zq4.2.2⟩
variable{w:R.α}
def Ni(hd:4<=d)(I:ao R h L M)(hs:s<M.aa.ε)(hw:R.D p k w)(hl:4*p+k<=3800):∃g,kI (ah P0 d) (.ξ L.m) GB [.Β s,R.e w] h h=Qa (.Ε,g)/\ao R g L {M with start:=s,first:=w} /\lX h g (fk L):=by
 refine(W.Mi (j9 (P:=P0) (lM (n:=GB) I.fj rfl rfl) (HK (Q:=λv g=>v=.Ε/\ao R g L {M with start:=s,first:=w} /\lX h g (fk L)) hd I hs hw hl λg I' K=>⟨rfl,I',K⟩))).ι λv zq1=>zq1.ι λg zq2=>?_;refine eqE zq2.2.1 ?_;exact⟨g,zq2.1,zq2.2.2⟩
theorem Mf(I:ao R h L M):M.aa.ε<=100000:=Jn I.bg (by decide)
variable{xs:List (Ar R.α)}
theorem By.le{r:θ}(H:By R h r as xs)(I:ao R g L M)(hm:xs∈M.aa):(as.π ab.ξ).ε<=100000:=H.n▸Jn (I.cr _ hm) I.cl
def vX(mb:ζ Ζ):θ:=mb.countP (!·)
def EN(hk:mb[k]?=Qa Qc):vX (mb.Ϫ k Qe)+1=vX mb:=by
 delta vX;refine(Jy.mp hk).ι λhl zq7=>?_;rw[(ζ.countP_set (p:=λb:Ζ=>!b) (l:=mb) (i:=k) (a:=Qe) hl),zq7]
 have:0<mb.countP (!·):=ζ.countP_pos_iff.ϥ ⟨Qc,Jt hk,rfl⟩
 simp only[Ζ.not_false,qaC]
 simp
 exact YI (Zc this)
def Vt(fs:ζ θ)(bp:ζ (ζ θ))(mb:ζ Ζ):Prop:=(∀s∈fs,mb[s]?=Qa Qe)/\∀P:θ->Prop,(∀s∈fs,P s)->(∀s xs,P s->bp[s]?=Qa xs->∀o∈xs,P o)->∀s:θ,mb[s]?=Qa Qe->P s
section
variable{fs:List Nat}{bp:List (List Nat)}{mb:List Bool}(ψ:Vt fs bp mb)
def Vt.lw:=@ψ.1
def Vt.uc:=@ψ.2
end
section
variable{h0:MH}
def w7{b:Ζ}(h:mb[k]?=Qa b):(mb.π ab.ϯ)[k]?=Qa (.ϯ b):=by rw[JE,h];rfl
structure mr where
 mb:ζ Ζ
 wk:ζ θ
 a:η ab
 b:η ab
abbrev MX:=MH×θ×θ×θ×ae×θ×ζ θ×ζ (ζ θ)
section
variable(ψ:MX)
abbrev MX.h:=ψ.1
abbrev MX.m:=ψ.2.1
abbrev MX.f:=ψ.2.2.1
abbrev MX.b:=ψ.2.2.2.1
abbrev MX.x0:=ψ.2.2.2.2.1
abbrev MX.n:=ψ.2.2.2.2.2.1
abbrev MX.fs:=ψ.2.2.2.2.2.2.1
abbrev MX.bp:=ψ.2.2.2.2.2.2.2
end
def mG(X:MX)(s:mr):MH:=X.h++[X.x0,.ο (s.mb.π ab.ϯ),.ο (ek s.wk)]
def mF(X:MX)(a b:η ab):Ψ.Λ:=Qa (.ξ X.m)::Qa (.ξ X.f)::Qa (.ξ X.b)::Qa (.ξ (X.h.ε+1))::Qa (.ξ (X.h.ε+2))::a::b::nn 6
section
variable{X:MX}{R':Fl->Internal.Frame->MH->Prop}{s:mr}
theorem ze6:(mG X s)[X.h.ε+1]?=Qa (.ο (s.mb.π ab.ϯ)):=oC
theorem IZ:(mG X s)[X.h.ε+2]?=Qa (.ο (ek s.wk)):=oC
theorem ze5:(mG X s).Ϫ (X.h.ε+1) (.ο (mb.π ab.ϯ))=mG X {s with mb:=mb}:=AM
theorem zad:(mG X s).Ϫ (X.h.ε+2) (.ο (ek wk))=mG X {s with wk:=wk}:=AM
def yw(X:MX)(i:θ)(s:mr):Prop:=s.wk=X.fs/\s.mb.ε=X.n/\(∀y∈X.fs.na i,s.mb[y]?=Qa Qe)/\∀y:θ,s.mb[y]?=Qa Qe->y∈X.fs
section
variable{X:MX}{i:Nat}{s:mr}(ψ:yw X i s)
def yw.w:=@ψ.1
def yw.l:=@ψ.2.1
def yw.h1:=@ψ.2.2.1
def yw.h2:=@ψ.2.2.2
end
theorem sM(X:MX)(s:mr){o:θ}{b:Ζ}(e:s.mb[o]?=Qa b):kR (mG X s) (.ξ (X.h.ε+1)) (.Β o)=Qa (.ϯ b):=sl ze6 (w7 e)
def I6(X:MX)(s:mr){y:θ}(v:Ζ)(hn:y<s.mb.ε):mQ (mG X s) (.ξ (X.h.ε+1)) (.Β y) (.ϯ v)=Qa (mG X {s with mb:=s.mb.Ϫ y v}):=by rw[zbv ze6 (by rw[Jq];exact hn),map_set',ze5]
def zfa{i y:θ}(P:yw X i s)(hy:X.fs[i]?=Qa y)(hn:y<X.n)(q:∀s',yw X (i+1) s'->R' .nx (mF X s'.a s'.b) (mG X s')):ck (ah P0 d) [.ft (.sb (.Ο 3) (.Ο 5)) (.py (.ϯ Qe))] (mF X (Qa (.Β y)) s.b) (mG X s) R':=by
 have hsn:y<s.mb.ε:=by rw[P.l];exact hn
 have N:yw X (i+1) {s with mb:=s.mb.Ϫ y Qe,a:=Qa (.Β y)}:=by
  refine⟨P.w,by show (s.mb.Ϫ y Qe).ε=_;rw[Zd];exact P.l,λz hz=>?_,λz hz=>?_⟩
  ·show (s.mb.Ϫ y Qe)[z]?=_
   rw[Kn,hy] at hz;by_cases e:y=z
   ·refine eqE e ?_;rw[J6 hsn]
   ·rw[J7 e]
    exact(Zh.mp hz).ι (P.h1 z) λhz=>ς (JD.mp (by simpa using hz)).Μ e
  ·by_cases e:y=z
   ·refine eqE e ?_;exact Jt hy
   ·rw[J7 e] at hz;exact P.h2 z hz
 exact j6 (.h (I6 X s Qe hsn)<|.z (q _ N)) rfl
def yu(X:MX)(k:θ)(s:mr):Prop:=k=2*vX s.mb+s.wk.ε/\k<=30000/\s.mb.ε=X.n/\Vt X.fs X.bp s.mb/\(∀y∈s.wk,s.mb[y]?=Qa Qe)/\∀(y:θ) xs,s.mb[y]?=Qa Qe->y∉s.wk->X.bp[y]?=Qa xs->∀o∈xs,s.mb[o]?=Qa Qe
section
variable{X:MX}{k:Nat}{s:mr}(ψ:yu X k s)
def yu.kk:=@ψ.1
def yu.kl:=@ψ.2.1
def yu.l:=@ψ.2.2.1
def yu.B:=@ψ.2.2.2.1
def yu.w:=@ψ.2.2.2.2.1
def yu.c:=@ψ.2.2.2.2.2
end
def vt(X:MX)(y:θ)(xs:ζ θ)(k:θ)(j:θ)(s:mr):Prop:=2*vX s.mb+s.wk.ε<=k/\s.mb.ε=X.n/\Vt X.fs X.bp s.mb/\s.mb[y]?=Qa Qe/\(∀z∈s.wk,s.mb[z]?=Qa Qe)/\(∀(z:θ) xs,s.mb[z]?=Qa Qe->z∉s.wk->z≠y->X.bp[z]?=Qa xs->∀o∈xs,s.mb[o]?=Qa Qe)/\∀o∈xs.na j,s.mb[o]?=Qa Qe
section
variable{X:MX}{y:Nat}{xs:List Nat}{k:Nat}{j:Nat}{s:mr}(ψ:vt X y xs k j s)
def vt.kk:=@ψ.1
def vt.l:=@ψ.2.1
def vt.B:=@ψ.2.2.1
def vt.yy:=@ψ.2.2.2.1
def vt.w:=@ψ.2.2.2.2.1
def vt.c:=@ψ.2.2.2.2.2.1
def vt.t:=@ψ.2.2.2.2.2.2
end
def zcs(X:MX)(s:mr)(z:Cx):jO z (.bi uD) [.ξ (X.h.ε+2)] (mG X s)=Qa (.Β s.wk.ε,mG X s):=by rw[FW IZ,mR]
theorem zct(X:MX)(s:mr)(z:Cx)(o:θ)(hl:s.wk.ε<1000000):kI z (.ξ (X.h.ε+2)) fe [.Β o] (mG X s) (mG X s)=Qa (.Ε,mG X {s with wk:=s.wk++[o]}):=(zfT z o IZ hl).ν (by rw[zad])
abbrev b6:ζ Sm:=[.ite (.not (.Ix (.Ο 3) (.Ο 6))) [.ft (.sb (.Ο 3) (.Ο 6)) (.py (.ϯ Qe)),.expr (.bc (.Ο 4) fe [.Ο 6])] []]
def vt.TH{y j o:θ}{xs:ζ θ}(P:vt X y xs k j s)(hx:X.bp[y]?=Qa xs)(ho:xs[j]?=Qa o)(he:s.mb[o]?=Qa Qc):vt X y xs k (j+1) {s with mb:=s.mb.Ϫ o Qe,wk:=s.wk++[o],b:=Qa (.Β o)}:=by
 have up:∀{z:θ},s.mb[z]?=Qa Qe->(s.mb.Ϫ o Qe)[z]?=Qa true:=λ{z} hz=>by
  rw[J7 λe=>by subst e;rw[he] at hz;exact nomatch hz];exact hz
 have dn:∀{z:θ},(s.mb.Ϫ o Qe)[z]?=Qa Qe->z=o\/s.mb[z]?=Qa true:=λ{z} hz=>by
  by_cases e:o=z
  ·exact .wv e.Μ
  ·rw[J7 e] at hz;exact .IO hz
 refine⟨?_,by show (s.mb.Ϫ o Qe).ε=_;rw[Zd];exact P.l,⟨λz hz=>up (P.B.lw z hz),λT p1 p2 z hz=>?_⟩,up P.yy,λz hz=>?_,λz zs e1 e2 e3 e4 w hw=>?_,λz hz=>?_⟩
 ·refine Jn ?_ P.kk
  simp only[Jx,<-(EN he),Kz,ZF];exact Zp _
 ·exact(dn hz).ι (λe=>e▸p2 y xs (P.B.uc T p1 p2 y P.yy) hx o (Jt ho)) (P.B.uc T p1 p2 z)
 ·exact(Zh.mp hz).ι (λhz=>up (P.w z hz)) λhz=>(JD.mp hz)▸(J6 (jR he):(s.mb.Ϫ o Qe)[o]?=Qa Qe)
 ·exact(dn e1).ι (λe=>ς (Zh.ϥ (.IO (e▸ .mo _))) e2) λe1=>up (P.c z zs e1 (λq=>e2 (Zh.ϥ (.wv q))) e3 e4 w hw)
 ·rw[Kn,ho] at hz
  exact(Zh.mp hz).ι (λhz=>up (P.t z hz)) λhz=>(JD.mp hz)▸(J6 (jR he):(s.mb.Ϫ o Qe)[o]?=Qa Qe)
def ze9{y j o:θ}{xs:ζ θ}(P:vt X y xs k j s)(hx:X.bp[y]?=Qa xs)(ho:xs[j]?=Qa o)(hn:o<X.n)(hk:k<100000)(q:∀s',vt X y xs k (j+1) s'->R' .nx (mF X (Qa (.Β y)) s'.b) (mG X s')):
  ck (ah P0 d) b6 (mF X (Qa (.Β y)) (Qa (.Β o))) (mG X s) R':=by
 have hon:o<s.mb.ε:=by rw[P.l];exact hn
 have hoe:=Jp hon;refine vL (s.mb[o]) (λhb=>?_) λhb=>?_
 ·rw[hb] at hoe
  have N:vt X y xs k (j+1) {s with b:=Qa (.Β o)}:=⟨P.kk,P.l,P.B,P.yy,P.w,P.c,λz hz=>by
   rw[Kn,ho] at hz;exact(Zh.mp hz).ι (P.t z) λhz=>(JD.mp hz)▸hoe⟩
  exact j6 (.v (sM X s hoe)<|.c2<|.z (q _ N)) rfl
 ·rw[hb] at hoe
  have hw:s.wk.ε<1000000:=Jw (Jn (JC _ _) P.kk) (Zv hk (by decide));exact j6 (.v (sM X s hoe)<|.c2<|.h (I6 X s Qe hon)<|.p (zct X {s with mb:=s.mb.Ϫ o Qe} (ah P0 d) o hw)<|.z (q _ (P.TH hx ho hoe))) rfl
end
def cY(X:MX):Prop:=tF X.h X.b X.bp/\X.bp.ε=X.n/\(∀s∈X.fs,s<X.n)/\X.fs.ε<=10000/\∀xs∈X.bp,xs.ε<=100000/\∀o∈xs,o<X.n
section
variable{X:MX}(ψ:cY X)
def cY.A:=@ψ.1
def cY.hl:=@ψ.2.1
def cY.uf:=@ψ.2.2.1
def cY.qu:=@ψ.2.2.2.1
def cY.ue:=@ψ.2.2.2.2
end
def MD(X:MX)(s:mr):Prop:=s.mb.ε=X.n/\Vt X.fs X.bp s.mb/\∀(y:θ) xs,s.mb[y]?=Qa Qe->X.bp[y]?=Qa xs->∀o∈xs,s.mb[o]?=Qa Qe
section
variable{X:MX}{s:mr}(ψ:MD X s)
def MD.l:=@ψ.1
def MD.B:=@ψ.2.1
def MD.c:=@ψ.2.2
end
section
variable{X:MX}(O:cY X)
include O
abbrev m0(X:MX):mr:=⟨J5 X.n Qc,X.fs,Qd,Qd⟩
def ziI:∃s,yw X X.fs.ε s/\exec (ah P0 d) (.fo [5] Qc (.Ο 4) [.ft (.sb (.Ο 3) (.Ο 5)) (.py (.ϯ Qe))]) (mF X Qd Qd) (mG X (m0 X))=Qa ((.nx,mF X s.a s.b),mG X s):=by
 have:=pv (c:=ah P0 d) (tg:=[5]) (many:=Qc) (a:=X.h.ε+2) (e:=.Ο 4) (b:=[.ft (.sb (.Ο 3) (.Ο 5)) (.py (.ϯ Qe))]) (vs:=ek X.fs) (λs:mr=>mF X s.a s.b) (mG X) (yw X) (m0 X) (by rw[mR];exact Jn O.qu (by decide)) rfl (λi s P=>by have e:= @IZ X s;rw[show s.wk=X.fs from P.w] at e;exact e) (by exact kO (.z (cn (.ξ (X.h.ε+2)) (mG X (m0 X)))) (by kernel_rfl)) ⟨rfl,Zw ..,(λs hs=>ς hs Jz),λs hs=>JK (Zl (Jt hs))⟩ λi v s R1 _ hv P1 T1=>by
  obtain⟨y,hy,rfl⟩:=zJ hv;exact lI (zfa P1 hy (O.uf y (Jt hy)) T1.nx)
 rwa [mR] at this
abbrev d4:Sm:=.fo [6] Qc (.Ix (.Ο 2) (.Ο 5)) b6
def ziG{y:θ}{s:mr}(P:yu X k s)(hw:s.wk=wk++[y]):∃s',(∃j,j<k/\yu X j s')/\exec (ah P0 d) d4 (mF X (Qa (.Β y)) s.b) (mG X {s with wk:=wk})=Qa ((.nx,mF X s'.a s'.b),mG X s'):=by
 have hym:=P.w y (hw▸Zh.ϥ (.IO (.mo _)));have hyn:y<X.bp.ε:=by rw[O.hl,<-P.l];exact jR hym
 refine xEAA O.A λrs A1 A2 A3=>?_;have hxe:=Jp hyn;have hkk:2*vX s.mb+wk.ε+1=k:=by rw[P.kk,hw,Jx];rfl
 have hx:=O.ue _ (Zt hyn);obtain⟨s',P3,e⟩:=pv (c:=ah P0 d) (tg:=[6]) (many:=Qc) (a:=rs[y]) (e:=.Ix (.Ο 2) (.Ο 5)) (b:=b6) (vs:=ek X.bp[y]) (λs:mr=>mF X (Qa (.Β y)) s.b) (mG X) (vt X y X.bp[y] (2*vX s.mb+wk.ε)) {s with wk:=wk} (by rw[mR];exact hx.1) rfl (λi s P=>jH (A3 y _ _ (Jp (l:=rs) (i:=y) (by rw[A2];exact hyn)) hxe)) (by exact kO (.v (sl (jH (t:=[X.x0,.ο (s.mb.π ab.ϯ),.ο (ek wk)]) A1) (r7 (Jp (l:=rs) (i:=y) (by rw[A2];exact hyn))))<|.z (cn (.ξ rs[y]) (mG X {s with wk:=wk}))) rfl) ⟨Jv _,P.l,P.B,hym,λx hx=>P.w x (hw▸Zh.ϥ (.wv hx)),λz ys e1 e2 e3=>P.c z ys e1 λq=>by
    rw[hw] at q;exact(Zh.mp q).ι e2 λq=>e3 (JD.mp q),λo ho=>ς ho Jz⟩ λi v s R1 _ hv P1 T1=>by
  refine xEA (zJ hv) λo ho dw=>?_;refine eqB dw ?_;exact lI (ze9 P1 hxe ho (hx.2 o (Jt ho)) (Ju (KI (JF hkk)) (Jn P.kl (JC _ _))) T1.nx)
 have kt:=P3.t;rw[mR,Zj] at kt;refine⟨{s' with a:=Qa (.Β y)},⟨_,Jw P3.kk (hkk▸JR _),rfl,Jn P3.kk (Yb (Jn (JF hkk) P.kl)),P3.l,P3.B,P3.w,λz ys e1 e2 e3=>?_⟩,e⟩;by_cases e:z=y
 ·subst e
  rw[show X.bp[z]?=Qa ys from e3] at hxe;refine soB hxe ?_;exact kt
 ·exact P3.c z ys e1 e2 e e3
abbrev d5:ζ Sm:=[.ft (.nm 5) (.bc (.Ο 4) ql []),d4]
def ziH{s:mr}(P:yu X k s):∃s',MD X s'/\exec (ah P0 d) (.wh (.gm .gt (.bn (.py (.bi uD)) [.Ο 4]) (.py (.Β 0))) d5) (mF X s.a s.b) (mG X s)=Qa ((.nx,mF X s'.a s'.b),mG X s'):=by
 refine eJ (c:=ah P0 d) (t:=.gm .gt (.bn (.py (.bi uD)) [.Ο 4]) (.py (.Β 0))) (b:=d5) (λs:mr=>mF X s.a s.b) (mG X) (yu X) (MD X) s (Jn P.kl (by decide)) rfl P λk s P=>⟨decide ((0:Φ)<(s.wk.ε:θ)),?_,λhc R' _ T=>?_,λhc=>?_⟩
 ·exact kO (.p (zcs X s (ah P0 d))<|.c<|.z (cn (.ϯ (decide ((0:Φ)<(s.wk.ε:θ)))) (mG X s))) rfl
 ·obtain⟨wk,y,hw⟩:∃wk y,s.wk=wk++[y]:=⟨s.wk.dropLast,s.wk.getLast (ζ.ne_nil_of_length_pos (Z2.mp (dT hc):0<s.wk.ε)),(Xl _).Μ⟩
  refine(ziG (d:=d) O P hw).ι λs' zq3=>?_;have e1:kI (ah P0 d) (.ξ (X.h.ε+2)) ql [] (mG X s) (mG X s)=Qa (.Β y,mG X {s with wk:=wk}):=by
   exact W.eq (zaW IZ (by rw[<-(by rw[hw];exact JW .. :ek s.wk=ek wk++[.Β y])];exact IZ) ⟨rfl,zad⟩)
  exact j6 (.p (e1)<|.s (zq3.2)<|.z (T.nx s' zq3.1)) rfl
 ·exact⟨P.l,P.B,λy xs e1=>P.c y xs e1 (by rw[(Z3.mp (by have:=dF hc;lia):s.wk=[])];exact Jz)⟩
end
def zcu{f b:θ}{fs:ζ θ}(hd:2<=d)(I:ao R h L M)(hf:h[f]?=Qa (.ο (ek fs)))(A:tF h b bp)(hl:bp.ε=M.aa.ε)(uf:∀s∈fs,s<M.aa.ε)(qu:fs.ε<=10000)(zu:∀xs∈bp,xs.ε<=100000/\∀o∈xs,o<M.aa.ε)
  (q:∀mb t,mb.ε=M.aa.ε->Vt fs bp mb->(∀(s:θ) xs,mb[s]?=Qa Qe->bp[s]?=Qa xs->∀o∈xs,mb[o]?=Qa Qe)->(h++t)[h.ε+1]?=Qa (.ο (mb.π ab.ϯ))->Q (.ξ (h.ε+1)) (h++t)):WF P0 d 124 [.ξ L.m,.ξ f,.ξ b] h Q:=by
 refine kN (K:=1) hd (Qa (.ξ L.m)::Qa (.ξ f)::Qa (.ξ b)::nn 10) rI rfl λd' h'=>?_;refine xEA (ziI (d:=d') (⟨A,hl,uf,qu,zu⟩:cY ⟨h,L.m,f,b,.ο [.ϯ Qc],M.aa.ε,fs,bp⟩)) λs P e=>?_;have h1:=P.h1;rw[Zj] at h1;have hw:s.wk=fs:=P.w;have P2:yu ⟨h,L.m,f,b,.ο [.ϯ Qc],M.aa.ε,fs,bp⟩ (2*vX s.mb+s.wk.ε) s:=⟨rfl,by
   have h2:vX s.mb<=s.mb.ε:=ζ.countP_le_length ..;rw[show s.mb.ε=M.aa.ε from P.l] at h2
   have:=I.bg
   rw[hw]
   lia,P.l,⟨h1,λT p1 _ y hy=>p1 y (P.h2 y hy)⟩,λy hy=>h1 y (hw▸hy),λy xs hy hn=>ς (hw.Μ▸P.h2 y hy) hn⟩
 refine(ziH (d:=d') (⟨A,hl,uf,qu,zu⟩:cY ⟨h,L.m,f,b,.ο [.ϯ Qc],M.aa.ε,fs,bp⟩) P2).ι λs' zq1=>?_;have e1:o7 .ss (.ξ h.ε) (.Β M.aa.ε) (h++[.ο [.ϯ Qc]])=Qa (.ξ (h.ε+1),h++[.ο [.ϯ Qc],.ο ((J5 M.aa.ε Qc).π ab.ϯ)]):=by
  refine W.eq (Au (n:=M.aa.ε) ap (oI (Jw I.bg (by decide))) (by show 1*_<=_;rw[Kg];exact oI (Jw I.bg (by decide))) ⟨by rw[Jx];rfl,?_⟩);rw[AQ,JA,<-Xt];rfl
 have e2:jO (ah P0 d') (.ty LX) [.ξ f] (h++[.ο [.ϯ Qc],.ο ((J5 M.aa.ε Qc).π ab.ϯ)])=Qa (.ξ (h.ε+2),mG ⟨h,L.m,f,b,.ο [.ϯ Qc],M.aa.ε,fs,bp⟩ (m0 ⟨h,L.m,f,b,.ο [.ϯ Qc],M.aa.ε,fs,bp⟩)):=by
  refine W.eq (NU (jH hf) ⟨by rw[Jx];rfl,?_⟩);rw[JA];rfl
 exact j6 (.p (pH (h:=h++[.ο [.ϯ Qc]]) h' I.cq)<|.p (e1)<|.p (e2)<|.s (e)<|.s (zq1.2)<|.z (q s'.mb [.ο [.ϯ Qc],.ο (s'.mb.π ab.ϯ),.ο (ek s'.wk)] zq1.1.l zq1.1.B zq1.1.c oC)) rfl
end
def Vx(h hh:MH)(rs:ζ θ)(bp:ζ (ζ θ)):Prop:=(∃t,hh=h++t)/\hh[h.ε]?=Qa (.ο (rs.π .ξ))/\rs.ε=bp.ε/\(∀r∈rs,h.ε<r)/\rs.Ω/\∀(k r:θ)(xs:ζ θ),rs[k]?=Qa r->bp[k]?=Qa xs->hh[r]?=Qa (.ο (ek xs))
section
variable{h hh:MH}{rs:List Nat}{bp:List (List Nat)}(ψ:Vx h hh rs bp)
def Vx.cq:=@ψ.1
def Vx.cK:=@ψ.2.1
def Vx.lv:=@ψ.2.2.1
def Vx.qo:=@ψ.2.2.2.1
def Vx.nd:=@ψ.2.2.2.2.1
def Vx.Tq:=@ψ.2.2.2.2.2
end
theorem pU{t:MH}{r:θ}(hr:h.ε<=r):(h++t).Ϫ r o=h++t.Ϫ (r-h.ε) o:=YV _ _ hr
def Vx.Te{r:θ}{xs:ζ θ}(A:Vx h hh rs bp)(hr:rs[k]?=Qa r)(hx:bp[k]?=Qa xs):Vx h (hh.Ϫ r (.ο (ek (xs++[s])))) rs (bp.Ϫ k (xs++[s])):=by
 refine A.cq.ι λt zq12=>?_;obtain rfl:=zq12;have hm:=A.qo r (Jt hr);refine⟨⟨_,pU (JN hm)⟩,jZ (Kb hm) A.cK,by rw[Zd];exact A.lv,A.qo,A.nd,λk' r' xs' hr' hx'=>?_⟩;by_cases e:k=k'
 ·subst e
  rw[hr] at hr';refine lV hr' ?_;rw[J6 (jR hx)] at hx';refine lV hx' ?_;exact kM (A.Tq k r xs hr hx)
 ·rw[J7 e] at hx'
  refine jZ (λq=>?_) (A.Tq k' r' xs' hr' hx');subst q;obtain⟨l1,e1⟩:=Jy.mp hr;exact(Jy.mp hr').ι λl2 zq10=>e (Yv A.nd|>.mp (e1.ν zq10.Μ))
theorem Vx.yg(A:Vx h hh rs bp):tF hh h.ε bp:=⟨rs,A.cK,A.lv,A.Tq⟩
section
variable{h0:MH}
def mJ(M:Mc R.α)(i j:θ)(bp:ζ (ζ θ)):Prop:=bp.ε=M.aa.ε/\(bp.π Ku).sum=((M.aa.na i).π Ku).sum+j/\∀(k:θ) xs,bp[k]?=Qa xs->∀s,s∈xs ↔ ∃ys,M.aa[s]?=Qa ys/\((s<i/\∃a∈ys,a.t=k)\/(s=i/\∃a∈ys.na j,a.t=k))
section
variable{M:Mc R.α}{i j:Nat}{bp:List (List Nat)}(ψ:mJ M i j bp)
def mJ.lv:=@ψ.1
def mJ.sum:=@ψ.2.1
def mJ.mem:=@ψ.2.2
end
def mJ.step{i j:θ}{xs:ζ θ}{ys:ζ (Ar R.α)}{a:Ar R.α}(B:mJ M i j bp)(hy:M.aa[i]?=Qa ys)(ha:ys[j]?=Qa a)(hk:a.t=k)(hx:bp[k]?=Qa xs):mJ M i (j+1) (bp.Ϫ k (xs++[i])):=by
 obtain⟨hkl,e⟩:=Jy.mp hx;subst e;refine⟨by rw[Zd];exact B.lv,by rw[Ec hkl,B.sum];exact J8 _ _ _,λk' xs' hx' s=>?_⟩;have tk:∀{b},b∈ys.na (j+1) ↔ b∈ys.na j\/b=a:=λ{b} =>by
  rw[Kn,ha,Zh];simp
 by_cases e:k=k'
 ·subst e
  rw[J6 hkl] at hx';refine lV hx' ?_;refine Zh.ν ?_;rw[B.mem k _ hx s,JD]
  constructor
  ·rintro (⟨zs,h1,h2| ⟨h2,b,h3,h4⟩⟩|rfl)
   ·exact⟨zs,h1,.wv h2⟩
   ·exact⟨zs,h1,.IO ⟨h2,b,by subst h2;rw[hy] at h1;obtain rfl:=Qa.lf h1;exact tk.ϥ (.wv h3),h4⟩⟩
   ·exact⟨ys,hy,.IO ⟨rfl,a,tk.ϥ (.IO rfl),hk⟩⟩
  ·rintro ⟨zs,h1,h2| ⟨rfl,b,h3,h4⟩⟩
   ·exact .wv ⟨zs,h1,.wv h2⟩
   ·exact .IO rfl
 ·rw[J7 e] at hx'
  refine(B.mem k' xs' hx' s).ν ?_
  constructor
  ·rintro ⟨zs,h1,h2| ⟨h2,b,h3,h4⟩⟩
   ·exact⟨zs,h1,.wv h2⟩
   ·exact⟨zs,h1,.IO ⟨h2,b,by subst h2;rw[hy] at h1;obtain rfl:=Qa.lf h1;exact tk.ϥ (.wv h3),h4⟩⟩
  ·rintro ⟨zs,h1,h2| ⟨h2,b,h3,h4⟩⟩
   ·exact⟨zs,h1,.wv h2⟩
   ·refine⟨zs,h1,.IO ⟨h2,b,?_,h4⟩⟩
    subst h2;rw[hy] at h1;obtain rfl:=Qa.lf h1;rcases tk.mp h3 with h3|rfl
    ·exact h3
    ·exact ς (hk.Μ.ν h4) e
def mJ.ϫ{i:θ}{ys:ζ (Ar R.α)}(B:mJ M i ys.ε bp)(hy:M.aa[i]?=Qa ys):mJ M (i+1) 0 bp:=by
 obtain⟨hil,e⟩:=Jy.mp hy;refine⟨B.lv,?_,λk xs hx s=>?_⟩
 ·rw[B.sum,Yd hil,JW,Xn,e];simp
 ·refine(B.mem k xs hx s).ν ?_
  constructor
  ·rintro ⟨zs,h1,⟨h2,h3⟩| ⟨h2,h3⟩⟩
   ·exact⟨zs,h1,.wv ⟨qaY _ h2,h3⟩⟩
   ·subst h2;rw[hy] at h1;obtain rfl:=Qa.lf h1
    rw[Zj] at h3;exact⟨ys,hy,.wv ⟨JR _,h3⟩⟩
  ·rintro ⟨zs,h1,⟨h2,h3⟩| ⟨h2,b,h3,_⟩⟩
   ·by_cases e:s=i
    ·subst e;rw[hy] at h1;obtain rfl:=Qa.lf h1
     exact⟨ys,hy,.IO ⟨rfl,by rw[Zj];exact h3⟩⟩
    ·exact⟨zs,h1,.wv ⟨ZX (JY h2) e,h3⟩⟩
   ·exact ς h3 Jz
def Vx.im(A:Vx h hh rs bp)(I:ao R h L M):ao R hh L M:=by obtain⟨t,rfl⟩:=A.cq;exact I.cq
def Vx.up(A:Vx h hh rs bp)(e:h[a]?=Qa o):hh[a]?=Qa o:=by obtain⟨t,rfl⟩:=A.cq;exact jH e
abbrev BS:=MH×ζ (ζ θ)×η ab×η ab
section
variable(ψ:BS)
abbrev BS.g:=ψ.1
abbrev BS.bp:=ψ.2.1
abbrev BS.a:=ψ.2.2.1
abbrev BS.b:=ψ.2.2.2
end
abbrev zx(L:Ly)(n:θ)(a b:η ab):Ψ.Λ:=Qa (.ξ L.m)::Qa (.ξ n)::a::b::nn 6
def BP(h:MH)(M:Mc R.α)(rs:ζ θ)(i j:θ)(s:BS):Prop:=Vx h s.g rs s.bp/\mJ M i j s.bp
section
variable{h:MH}{M:Mc R.α}{rs:List Nat}{i j:Nat}{s:BS}(ψ:BP h M rs i j s)
def BP.A:=@ψ.1
def BP.B:=@ψ.2
end
abbrev eR:ζ Sm:=[.expr (.bc (.Ix (.Ο 1) (.aq (.Ο 3) oX)) fe [.Ο 2])]
abbrev eP:Sm:=.fo [3] Qc (.Ix (.aq (.Ο 0) kT) (.Ο 2)) eR
def Sg(I:ao R h L M){i j:θ}{xs:ζ θ}(B:mJ M i j bp)(hi:i<M.aa.ε)(hj:j<(ax M i).ε)(hx:bp[k]?=Qa xs):xs.ε<1000000:=by
 have h1:=Gz (Jt hx);rw[B.sum] at h1;have h2:=W9 I (i+1);rw[Va hi] at h2;exact Jw (Jn h1 (Jn (Js (JN hj) _) h2)) (Jw I.cl (by decide))
def zdc{i:θ}{s:BS}(I:ao R h L M)(ht:∀ys∈M.aa,∀a∈ys,a.t<M.aa.ε)(hi:i<M.aa.ε)(P:BP h M rs i 0 s):
  ∃s',BP h M rs (i+1) 0 s'/\exec (ah P0 d) eP (zx L h.ε (Qa (.Β i)) s.b) s.g=Qa ((.nx,zx L h.ε (Qa (.Β i)) s'.b),s'.g):=by
 refine(I.mu hi).ι λr zq6=>zq6.ι λas zq7=>?_;have hie:M.aa[i]?=Qa (ax M i):=by unfold ax;rw[Jp hi];rfl
 refine(pv (c:=ah P0 d) (tg:=[3]) (many:=Qc) (a:=r) (e:=.Ix (.aq (.Ο 0) kT) (.Ο 2)) (b:=eR) (vs:=as.π .ξ) (λs:BS=>zx L h.ε (Qa (.Β i)) s.b) BS.g (λj=>BP h M rs i j) s (zq7.2.1.le I zq7.2.2) rfl (λj s P=>P.A.up zq7.2.1.l) (by exact kO (.v (oD (P.A.im I))<|.v (sl (P.A.im I).aa zq7.1)<|.z (cn (.ξ r) s.g)) rfl) P λj v s X _ hv P T=>?_).ι λs' q=>⟨s',⟨q.1.A,(zq7.2.1.n▸q.1.B).ϫ hie⟩,q.2⟩;refine xEEAA (zq7.2.1.a j v hv) λb x dw hx hb=>?_;refine eqB dw ?_;have htg:=ht _ zq7.2.2 x (Jt hx);have hr':=Jp (l:=rs) (i:=x.t) (by rw[P.A.lv,P.B.lv];exact htg);have hx':=Jp (l:=s.bp) (i:=x.t) (by rw[P.B.lv];exact htg);exact lI (j6 (.v (ro (P.A.up hb))<|.v (sl P.A.cK (r7 hr'))<|.p (zfT (ah P0 d) i (P.A.Tq _ _ _ hr' hx') (Sg I P.B hi (jR hx) hx'))<|.z (T.nx ⟨_,_,s.a,Qa (.ξ b)⟩ ⟨P.A.Te hr' hx',P.B.step hie hx rfl hx'⟩)) rfl)
def zfR:mJ M 0 0 (J5 M.aa.ε []):=by
 refine⟨Zw,by simp,λk xs hx s=>?_⟩;rw[Zl (Jt hx)];exact⟨λh=>ς h Jz,λ⟨ys,_,q⟩=>q.ι (λq=>ς q.1 (J9 _)) λq=>q.2.ι λb q=>ς q.1 Jz⟩
abbrev cO(h:MH)(n:θ):MH:=h++ae.ο ((JZ (h.ε+1) n).π ab.ξ)::J5 n (.ο [])
def zfU:Vx h (cO h n) (JZ (h.ε+1) n) (J5 n []):=by
 refine⟨⟨_,rfl⟩,ap,by rw[KB,Zw],λr hr=>(ζ.mem_range'_1.mp hr).1,ζ.nodup_range' ..,λk r xs hr hx=>?_⟩;obtain⟨hk,e⟩:=Jy.mp hr;rw[ζ.getElem_range',Kg,J8,ZW 1] at e;rw[KB] at hk;rw[Zl (Jt hx),<-e,oC];show (J5 _ _)[k]?=_;rw[KD,φ hk];rfl
def R9(I:ao R h L M):eval (ah P0 d) (.comp (.ο []) [4] Qc (.aq (.Ο 0) kT) []) (Qa (.ξ L.m)::nn 9) h=Qa (.ξ h.ε,cO h M.aa.ε):=by
 have hn:(L.az.π ab.ξ).ε<200000:=by
  rw[Jq,I.lv];exact Jw I.bg (by decide)
 refine W.eq (zU (a:=L.aA) (vs:=L.az.π .ξ) (λ_ ys t=>ys=(JZ (h.ε+1) ys.ε).π ab.ξ/\t=J5 ys.ε (.ο [])) hn (oI hn) ?_);refine W.of (a:=.ξ L.aA) (W.eq (by exact kO (.v (oD I)<|.z (cn (.ξ L.aA) h)) rfl:WE (ah P0 d) (Qa (.ξ L.m)::nn 9) (.aq (.Ο 0) kT) h λv g=>v=.ξ L.aA/\g=h)) ⟨rfl,I.aa,⟨rfl,rfl⟩,λys t v J hv=>?_,λys t hl J=>?_⟩
 ·refine As (Aq ⟨[.ο []],by rw[JA];rfl,?_,?_⟩)
  ·rw[(λy=>by rw[Jx];rfl:∀y:ab,(ys++[y]).ε=ys.ε+1),qaN,JW,<-J.1]
   congr 2
   simp only[Jx,J0,J.2,Zw,Kg,J8,ZW 1]
  ·rw[(λy=>by rw[Jx];rfl:∀y:ab,(ys++[y]).ε=ys.ε+1),KF,<-J.2]
 ·obtain⟨J1,J2⟩:=J
  rw[Jq,I.lv] at hl;rw[hl] at J1 J2;refine eqB J1 ?_;subst J2;exact⟨rfl,rfl⟩
def Sf(hd:2<=d)(I:ao R h L M)(ht:∀ys∈M.aa,∀a∈ys,a.t<M.aa.ε)(q:∀t bp,mJ M M.aa.ε 0 bp->tF (h++t) h.ε bp->Q (.ξ h.ε) (h++t)):WF P0 d 123 [.ξ L.m] h Q:=by
 refine kN (K:=1) hd (Qa (.ξ L.m)::nn 9) nX rfl λd' h'=>?_;obtain⟨s,P,e⟩:=oe (c:=ah P0 d') (x:=2) (n:=M.aa.ε) (e:=.bn (.py (.ty 491260897125)) [.bc (.Ο 0) qT []]) (b:=[eP]) (λs:BS=>zx L h.ε s.a s.b) BS.g (λi=>BP h M (JZ (h.ε+1) M.aa.ε) i 0) ⟨_,_,Qd,Qd⟩ (Mf I) rfl (by exact kO (.p (pH h' ((zfU (h:=h) (n:=M.aa.ε)).im I))<|.c<|.z (cn (.gq M.aa.ε) (cO h M.aa.ε))) rfl) ⟨(zfU (h:=h) (n:=M.aa.ε)),zfR⟩ λi s X _ hi P T=>by
  exact(zdc (d:=d') I ht hi P).ι λs' zq2=>j6 (.s (zq2.2)<|.z (T.nx ⟨s'.g,s'.bp,Qa (.Β i),s'.b⟩ ⟨zq2.1.A,zq2.1.B⟩)) rfl
 obtain⟨t,ht⟩:=P.A.cq;have A':=P.A.yg;rw[ht] at A' e;exact j6 (.p (R9 (d:=d') I)<|.s (e)<|.z (q t s.bp P.B A')) rfl
end
def r5:ζ θ->θ->ζ (ab×ab)
 | [],_=>[]
 |k::r,o=>(.Β (k:Φ),.Β (o:Φ))::r5 r (o+1)
def Eg{b:θ}:fz (.Β a) (.Β b)=(a==b):=by
 show ((a:Φ)==(b:Φ))=_;by_cases h:a=b
 ·subst h;simp
 ·rw[ϧ h,ϧ];exact λe=>h (Xa.lf e)
def Iv{l:ζ θ}:∀{o:θ},(r5 l o).ε=l.ε:=by
 induction l with
 |Ϝ=>exact rfl
 |Ι k l ih=>exact ω (· +1) ih
def lR{k k':ab}:jW ((k',v)::es) k=bif fz k' k then Qa v else jW es k:=by
 delta jW;simp only[YD];cases fz k' k<;>rfl
def Wm{l:ζ θ}:∀{o:θ},jW (r5 l o) (.Β k)=if k∈l then Qa (.Β ((o+l.IN k:θ):Φ)) else none:=by
 induction l with
 |Ϝ=>intro o;rfl
 |Ι x l ih=>
  intro o;show jW ((.Β (x:Φ),.Β (o:Φ))::r5 l (o+1)) _=_;simp only[lR,Eg,ih];by_cases h:x=k
  ·refine eqE h ?_;simp
  ·simp only[ϧ h,bm,ζ.idxOf_cons,ϧ h,bm]
   by_cases hk:k∈l
   ·rw[φ hk,φ (Xf _ hk)]
    congr 2;lia
   ·rw[τ hk,τ λq=>(JM.mp q).ι (λe=>h e.Μ) hk]
def FI{l:ζ θ}:∀{o:θ},r5 (l++[k]) o=r5 l o++[(.Β (k:Φ),.Β ((o+l.ε:θ):Φ))]:=by
 induction l with
 |Ϝ=>intro o;rfl
 |Ι x l ih=>
  intro o;show _::r5 (l++[k]) (o+1)=_;rw[ih,show o+(x::l).ε=o+1+l.ε by rw[J0];lia];rfl
def xQ{l:ζ θ}{o:θ}:jT (r5 l o) (.Β k)=true:=by cases l<;>rfl
def Iu{l:ζ θ}(hk:k∉l)(hv:v=.Β (l.ε:θ)):nA (r5 l 0) (.Β k) v=r5 (l++[k]) 0:=by
 delta nA;rw[Wm,τ hk,FI,hv,Zq];rfl
section
variable{c:Cx}
def iP{l:ζ θ}(ha:h[a]?=Qa (.ο (ek l))):F0 h (.Β k) (.ξ a)=Qa (decide (k∈l)):=by
 show bj ((kP h (.ξ a)).Η λvs=>UQ h (.Β k) vs) _=_;rw[oW ha];show bj (UQ h (.Β k) (ek l)) _=_;have e:(ek l).mapM (nq h 7)=Qa (l.π λ(x:θ)=>qaZ x):=by
  clear ha
  delta ek
  induction l with
  |Ϝ=>rfl
  |Ι x l ih=>rw[JU,qao,ih];rfl
 have e2:UQ h (.Β k) (ek l)=Qa (decide (k∈l)):=by
  delta UQ;rw[e];show Qa ((l.π λ(x:θ)=>qaZ x).any λy=>Yw y (.Β k))=_
  congr 1
  rw[ζ.any_map]
  clear ha e
  induction l with
  |Ϝ=>rfl
  |Ι x l ih=>
   have ex:Yw (.Β (x:Φ)) (.Β (k:Φ))=(x==k):=Eg;simp only[ζ.any_cons,ih];show (Yw (.Β (x:Φ)) (.Β (k:Φ))||decide (k∈l))=_;rw[ex];by_cases hx:x=k
   ·refine eqE hx ?_;simp
   ·rw[ϧ hx,qaF]
    by_cases hk:k∈l
    ·rw[Γ hk,Γ (Xf _ hk)]
    ·rw[Θ hk,Θ λq=>(JM.mp q).ι (λe=>hx e.Μ) hk]
 rw[e2];rfl
end
section
variable{S:List Nat}
def lX.Tr{t:MH}(K:lX (g++t) h' S)(hs:∀a∈S,g.ε<=a):∃t',h'=g++t':=by
 refine⟨h'.jp g.ε,?_⟩;have hl:=K.lv;rw[Jx] at hl
 have:g=h'.na g.ε:=by
  refine tS (by rw[KC];exact K6 (θ.le_min_of_le_of_le (Jv _) (Jn (Jr _ _) hl)) (JY (JO (KU _ _)))) λi o hi=>?_;rw[ζ.getElem?_take,φ (j4 hi)];exact K.TF i o (λq=>ς (hs i q) (Xw.ϥ (j4 hi))) (jH hi)
 conv=>rhs;lhs;rw[this]
 exact(Kw ..).Μ
end
section
variable{h0:MH}
def kQ(M:Mc R.α)(p k:θ):Prop:=M.Ϟ<M.aa.ε/\(∀ys∈M.aa,∀a∈ys,a.t<M.aa.ε/\dp a.up/\dp a.lo/\R.D p k a.w/\a.w≠R.Κ)/\R.D p k M.lw/\(∀e∈M.ak,R.D p k e)/\4*p+k<=3800/\M.aa.ε<=300/\M.bb<=300
section
variable{M:Mc R.α}{p k:Nat}(ψ:kQ M p k)
def kQ.st:=@ψ.1
def kQ.fv:=@ψ.2.1
def kQ.fst:=@ψ.2.2.1
def kQ.ed:=@ψ.2.2.2.1
def kQ.bd:=@ψ.2.2.2.2.1
def kQ.n:=@ψ.2.2.2.2.2.1
def kQ.c:=@ψ.2.2.2.2.2.2
end
def we(M:Mc R.α):ζ (ζ θ):=M.aa.π λr=>r.π Ar.t
def D7(bp:ζ (ζ θ))(mb:ζ Ζ):Prop:=∀(s:θ) xs,mb[s]?=Qa Qe->bp[s]?=Qa xs->∀o∈xs,mb[o]?=Qa Qe
def wV(M:Mc R.α)(k:θ):Ζ:=!@decide (M.ak[k]?.ϡ R.Κ=R.Κ) (R.gk _ _)
def G0(M:Mc R.α)(ks:ζ θ)(mb1 mb2:ζ Ζ)(bp:ζ (ζ θ)):Prop:=mb1.ε=M.aa.ε/\Vt [M.Ϟ] (we M) mb1/\D7 (we M) mb1/\mb2.ε=M.aa.ε/\Vt (nO (wV M) M.aa.ε) bp mb2/\D7 bp mb2/\mJ M M.aa.ε 0 bp/\ks=nO (λk=>mb1[k]?.ϡ Qc && mb2[k]?.ϡ Qc) M.aa.ε
section
variable{M:Mc R.α}{ks:List Nat}{mb1 mb2:List Bool}{bp:List (List Nat)}(ψ:G0 M ks mb1 mb2 bp)
def G0.m1:=@ψ.2.1
def G0.c1:=@ψ.2.2.1
def G0.m2:=@ψ.2.2.2.2.1
def G0.c2:=@ψ.2.2.2.2.2.1
def G0.b2:=@ψ.2.2.2.2.2.2.1
def G0.ks:=@ψ.2.2.2.2.2.2.2
end
def dh(M:Mc R.α)(k:θ):R.α:=M.ak[k]?.ϡ R.Κ
def nI(ks:ζ θ)(xs:ζ (Ar R.α)):ζ (Ar R.α):=xs.dL λa=>if a.t∈ks then Qa ⟨a.1,a.2.1,a.2.2.1,ks.IN a.t⟩ else Qd
inductive nG(M:Mc R.α)(ks:ζ θ)(T:Mc R.α):Prop
 |qw(h1:M.Ϟ∈ks)(h2:M.lw≠R.Κ)(ha:T.aa=ks.π λk=>nI ks (ax M k))(he:T.ak=ks.π (dh M))(hs:T.Ϟ=ks.IN M.Ϟ)(hf:T.lw=M.lw):nG M ks T
 |lq(h1:M.Ϟ∉ks\/M.lw=R.Κ)(ha:T.aa=[[]])(he:T.ak=[R.Κ])(hs:T.Ϟ=0)(hf:T.lw=R.cw):nG M ks T
def zC{p:θ->Ζ}(h:k∈nO p n):k<n/\p k=true:=by
 have:=ZU.mp h
 exact⟨ZA.mp this.1,this.2⟩
theorem AV{p:θ->Ζ}:(nO p n).Ω:=Yh.Ϩ _
def ao.qy(I:ao R h L M)(hk:k<M.aa.ε):(M.ak.π R.e)[k]?=Qa (R.e (dh M k)):=by
 have:k<M.ak.ε:=by rw[I.fg];exact hk
 delta dh;refine(JE).ν ?_;rw[Jp this];rfl
def TS(h g:MH)(m D aK:θ)(ks l:ζ θ)(L:Ly)(M:Mc R.α):Prop:=(∃t,g=h++t)/\g[aK]?=Qa (.ο (ek ks))/\(∃ep,g[D]?=Qa (.Υ ep (r5 l 0)))/\ao R g L M/\L.m=m/\∀a∈fk L,h.ε<=a/\a≠aK/\a≠D
section
variable{h g:MH}{m D aK:Nat}{ks l:List Nat}{L:Ly}{M:Mc R.α}(ψ:TS h g m D aK ks l L M)
def TS.Tr:=@ψ.1
def TS.kK:=@ψ.2.1
def TS.dD:=@ψ.2.2.1
def TS.I:=@ψ.2.2.2.1
def TS.em:=@ψ.2.2.2.2.1
def TS.fk:=@ψ.2.2.2.2.2
end
def TS.oq{l:ζ θ}{L':Ly}{M':Mc R.α}(S:TS h g m D aK ks l L M)(K:lX g g' (Tactic.fk L))(I':ao R g' L' M')(em:L'.m=L.m)(ho:∀a∈Tactic.fk L',a∈Tactic.fk L\/g.ε<=a):TS h g' m D aK ks l L' M':=by
 refine S.Tr.ι λt zq36=>?_;obtain rfl:=zq36;obtain⟨ep,hD⟩:=S.dD;have lt:h.ε<=(h++t).ε:=by rw[Jx];exact Jr _ _
 refine⟨K.Tr λa ha=>(S.fk a ha).1,K.TF _ _ (λq=>(S.fk _ q).2.1 rfl) S.kK,⟨ep,K.TF _ _ (λq=>(S.fk _ q).2.2 rfl) hD⟩,I',em.ν S.em,λa ha=>?_⟩;rcases ho a ha with ha|ha
 ·exact S.fk a ha
 ·exact⟨Jn lt ha,Kb (Ju (j4 S.kK) ha),Kb (Ju (j4 hD) ha)⟩
def ao.nt{ep:η θ}(I:ao R h L M)(hD:h[D]?=Qa (.Υ ep es)):ao R (h.Ϫ D o) L M:=by
 have g:∀(a:θ)(x:ae),h[a]?=Qa x->(∀ep es,x≠.Υ ep es)->(h.Ϫ D o)[a]?=Qa x:=λa x e hn=>jZ (λq=>by subst q;exact hn _ _ (Qa.lf (e.Μ.ν hD))) e;refine⟨g _ _ I.fj nofun,g _ _ I.aa nofun,g _ _ I.ak nofun,I.lv,I.fg,λk r xs hr hx=>?_,I.nd,I.bg,I.ct,I.cl,I.ds.to λ_ _ _ e=>g _ _ e nofun⟩;refine(I.az k r xs hr hx).Τ λa x e ho=>?_;rcases ho with ⟨y,rfl⟩|rfl
 ·exact g _ _ e nofun
 ·obtain⟨as,h1,_⟩:=I.az k a xs hr hx
  refine g _ _ e ?_;rw[h1] at e;refine lV e ?_
  nofun
def TS.put{l:ζ θ}{ep:η θ}(S:TS h g m D aK ks l L M)(hh:h.ε<=D)(hx:x∉l):TS h (g.Ϫ D (.Υ ep (r5 (l++[x]) 0))) m D aK ks (l++[x]) L M:=by
 refine S.dD.ι λep' zq33=>?_;refine S.Tr.ι λt zq32=>?_;obtain rfl:=zq32;exact⟨⟨_,pU hh⟩,jZ (cv zq33 S.kK nofun) S.kK,⟨ep,kM zq33⟩,S.I.nt zq33,S.em,S.fk⟩
theorem Wi{r:θ}:∀a∈Tactic.fk (L.TH r),a∈Tactic.fk L\/a=r:=λa ha=>by
 simp only[Tactic.fk,Ly.TH,JM,Zh,Jz,or_false] at ha ⊢;rcases ha with h|h|h|h|h
 ·exact .wv (.wv h)
 ·exact .wv (.IO (.wv h))
 ·exact .wv (.IO (.IO (.wv h)))
 ·exact .wv (.IO (.IO (.IO h)))
 ·exact .IO h
def ST(M:Mc R.α)(ks:ζ θ)(i j:θ)(T:Mc R.α):Prop:=T.aa.ε=ks.ε/\(∀(m k:θ),ks[m]?=Qa k->T.aa[m]?=Qa (if m<i then nI ks (ax M k) else if m=i then nI ks ((ax M k).na j) else[]))/\(∀(m k:θ),ks[m]?=Qa k->T.ak[m]?=Qa (if m<i then dh M k else R.Κ))/\T.bb<=i*300+j
section
variable{M:Mc R.α}{ks:List Nat}{i j:Nat}{T:Mc R.α}(ψ:ST M ks i j T)
def ST.al:=@ψ.1
def ST.a:=@ψ.2.1
def ST.e:=@ψ.2.2.1
def ST.c:=@ψ.2.2.2
end
def zW{a:Ar R.α}:nI ks (xs++[a])=nI ks xs++if a.t∈ks then[⟨a.1,a.2.1,a.2.2.1,ks.IN a.t⟩] else[]:=by
 delta nI;refine ζ.filterMap_append.ν ?_
 congr 1
 by_cases h:a.t∈ks
 ·simp [h]
 ·simp [h]
def ST.fy{i j:θ}{T:Mc R.α}{a:Ar R.α}(S:ST M ks i j T)(hk:ks[i]?=Qa k)(ha:(ax M k)[j]?=Qa a)(hn:a.t∉ks):ST M ks i (j+1) T:=by
 refine⟨S.al,λm k' hk'=>?_,S.e,Zs S.c⟩;rw[S.a m k' hk'];by_cases h1:m<i
 ·rw[φ h1,φ h1]
 ·rw[τ h1,τ h1]
  by_cases h2:m=i
  ·subst h2
   rw[hk] at hk';refine lV hk' ?_;rw[φ rfl,φ rfl,Kn,ha];show Qa _=Qa (nI ks (_++[a]));rw[zW,τ hn,ZE]
  ·rw[τ h2,τ h2]
def ST.am{i j:θ}{T:Mc R.α}{a:Ar R.α}(S:ST M ks i j T)(hk:ks[i]?=Qa k)(ha:(ax M k)[j]?=Qa a)(hn:a.t∈ks):ST M ks i (j+1) (T.fv i ⟨a.1,a.2.1,a.2.2.1,ks.IN a.t⟩):=by
 refine⟨by show (T.aa.Ϫ i _).ε=_;rw[Zd];exact S.al,λm k' hk'=>?_,S.e,by have:=S.c;show T.bb+1<=_;exact Jn (JJ this (Jv _)) (JF (J8 _ _ _))⟩;show (T.aa.Ϫ i (T.aa[i]?.ϡ []++[⟨a.1,a.2.1,a.2.2.1,ks.IN a.t⟩]))[m]?=_;by_cases h2:i=m
 ·subst h2
  rw[hk] at hk';refine lV hk' ?_;rw[J6 (by rw[S.al];exact jR hk:i<T.aa.ε),S.a i k hk,τ (Zb _),φ rfl,τ (Zb _),φ rfl,Kn,ha];show Qa _=Qa (nI ks (_++[a]));rw[zW,φ hn];rfl
 ·rw[J7 h2,S.a m k' hk']
  by_cases h1:m<i
  ·rw[φ h1,φ h1]
  ·rw[τ h1,τ h1,τ (Kc h2),τ (Kc h2)]
def ST.ϫ{i:θ}{T:Mc R.α}(S:ST M ks i (ax M k).ε T)(hk:ks[i]?=Qa k)(hl:(ax M k).ε<=300)(hE:T.ak.ε=T.aa.ε):ST M ks (i+1) 0 {T with ak:=T.ak.Ϫ i (dh M k)}:=by
 refine⟨S.al,λm k' hk'=>?_,λm k' hk'=>?_,Jn S.c (Jn (Js hl _) (JF (θ.succ_mul i 300).Μ))⟩
 ·rw[S.a m k' hk']
  by_cases h1:m<i
  ·rw[φ h1,φ (ZJ h1)]
  ·rw[τ h1]
   by_cases h2:m=i
   ·subst h2
    rw[hk] at hk';refine lV hk' ?_;rw[φ rfl,φ (JR _),Zj]
   ·rw[τ h2,τ (ZH (Zc (ZX (ZM h1) (Kc h2))))]
    by_cases h3:m=i+1
    ·rw[φ h3];rfl
    ·rw[τ h3]
 ·show (T.ak.Ϫ i (dh M k))[m]?=_
  by_cases h2:i=m
  ·subst h2
   rw[hk] at hk';refine lV hk' ?_;rw[J6 (by rw[hE,S.al];exact jR hk:i<T.ak.ε),φ (JR _)]
  ·rw[J7 h2,S.e m k' hk']
   by_cases h1:m<i
   ·rw[φ h1,φ (ZJ h1)]
   ·rw[τ h1,τ (ZH (Zc (ZX (ZM h1) h2)))]
abbrev km(R:Rg):=MH×Ly×Mc R.α×η ab×η ab
section
variable{R:Rg}(ψ:km R)
abbrev km.g:=ψ.1
abbrev km.L:=ψ.2.1
abbrev km.M:=ψ.2.2.1
abbrev km.a:=ψ.2.2.2.1
abbrev km.b:=ψ.2.2.2.2
end
abbrev TX(R:Rg):=MH×Ly×Mc R.α×ζ θ×θ×θ×θ×η ab×η ab×η ab×θ×θ
section
variable{R:Rg}(ψ:TX R)
abbrev TX.h:=ψ.1
abbrev TX.L:=ψ.2.1
abbrev TX.M:=ψ.2.2.1
abbrev TX.ks:=ψ.2.2.2.1
abbrev TX.m:=ψ.2.2.2.2.1
abbrev TX.D:=ψ.2.2.2.2.2.1
abbrev TX.aK:=ψ.2.2.2.2.2.2.1
abbrev TX.o1:=ψ.2.2.2.2.2.2.2.1
abbrev TX.o3:=ψ.2.2.2.2.2.2.2.2.1
abbrev TX.o4:=ψ.2.2.2.2.2.2.2.2.2.1
abbrev TX.p:=ψ.2.2.2.2.2.2.2.2.2.2.1
abbrev TX.k:=ψ.2.2.2.2.2.2.2.2.2.2.2
end
def kf(X:TX R)(a b:η ab):Ψ.Λ:=Qa (.ξ X.L.m)::X.o1::a::X.o3::X.o4::Qa (.ξ X.aK)::Qa (.ξ X.m)::Qa (.ξ X.D)::b::nn 6
def vq(X:TX R):Prop:=ao R X.h X.L X.M/\kQ X.M X.p X.k/\(∀x∈X.ks,x<X.M.aa.ε)/\X.ks.Ω/\X.ks.ε<=300/\X.h.ε<=X.D
section
variable{X:TX R}(ψ:vq X)
def vq.I:=@ψ.1
def vq.G:=@ψ.2.1
def vq.ks:=@ψ.2.2.1
def vq.nk:=@ψ.2.2.2.1
def vq.n:=@ψ.2.2.2.2.1
def vq.D:=@ψ.2.2.2.2.2
end
abbrev cU(X:TX R)(l:ζ θ)(s:km R):Prop:=TS X.h s.g X.m X.D X.aK X.ks l s.L s.M
variable{X:TX R}{R':Fl->Internal.Frame->MH->Prop}
def TS.im{l:ζ θ}{L1:Ly}{M1:Mc R.α}(S:TS h g m D aK ks l L1 M1)(I:ao R h L M):ao R g L M:=by obtain⟨t,rfl⟩:=S.Tr;exact I.cq
def TS.up{l:ζ θ}{L1:Ly}{M1:Mc R.α}(S:TS h g m D aK ks l L1 M1)(e:h[a]?=Qa o):g[a]?=Qa o:=by obtain⟨t,rfl⟩:=S.Tr;exact jH e
def sx(X:TX R)(i:θ)(s:km R):Prop:=cU X (X.ks.na i) s/\s.M.aa=J5 i []/\s.M.ak=J5 i R.Κ/\s.M.bb=0
section
variable{X:TX R}{i:Nat}{s:km R}(ψ:sx X i s)
def sx.S:=@ψ.1
def sx.a:=@ψ.2.1
def sx.e:=@ψ.2.2.1
def sx.c:=@ψ.2.2.2
end
def eA(k:θ){ep:η θ}{l:ζ θ}(hD:h[D]?=Qa (.Υ ep (r5 l 0))):mX .qr (.Β k) (.ξ D) h=Qa (decide (k∈l)):=by
 show bj ((kP h (.ξ D)).Η _) ((lN h (.ξ D)).Η λd=>aw (jT d.2 (.Β k)) (Qa (jW d.2 (.Β k)).ϟ))=_;rw[sA hD,mT hD];show aw (jT (r5 l 0) (.Β k)) (Qa (jW (r5 l 0) (.Β k)).ϟ)=_;rw[xQ,Wm];by_cases hk:k∈l
 ·rw[φ hk,Γ hk];rfl
 ·rw[τ hk,Θ hk];rfl
theorem sN{i:θ}{ep:η θ}{l:ζ θ}(hD:h[D]?=Qa (.Υ ep (r5 l 0)))(hk:k∈l)(hi:l.IN k=i):kR h (.ξ D) (.Β k)=Qa (.Β i):=sd hD xQ (by rw[Wm,φ hk,Zq,hi])
def Mz{l:ζ θ}(nk:l.Ω){i:θ}(hx:l[i]?=Qa x):l.IN x=i:=by
 rw[<-(Jy.mp hx).2];exact nk.idxOf_getElem i (jR hx)
theorem Cf{l:ζ θ}(nk:l.Ω){i:θ}(hx:l[i]?=Qa x):x∉l.na i:=λhq=>by
 obtain⟨j,hj,e⟩:=Ys.mp hq;rw[KC] at hj;rw[ζ.getElem_take] at e
 have:=Yv nk|>.mp (e.ν (Jy.mp hx).2.Μ)
 exact ς (this▸Ju hj (KU _ _)) (Zb _)
theorem Ck(ha:a∈ [L.aA,L.aE]):a∈Tactic.fk L:=(JM.mp ha).ι (λe=>e▸ .pc _ (.mo _)) λha=>(JD.mp ha)▸ .pc _ (.pc _ (.mo _))
abbrev zf:ζ Sm:=[.ft (.sb (.Ο 7) (.Ο 2)) (.bc (.Ο 6) zH [])]
def zd5{i:θ}{s:km R}(hd:5<=d)(O:vq X)(P:sx X i s)(hx:X.ks[i]?=Qa x)(q:∀s',sx X (i+1) s'->R' .nx (kf X s'.a s'.b) s'.g):
  ck (ah P0 d) zf (kf X (Qa (.Β x)) s.b) s.g R':=by
 have hl1:s.M.aa.ε=i:=by rw[P.a,Zw]
 have hli:(X.ks.na i).ε=i:=by rw[KC,KV (JN (jR hx))]
 have hxn:=Cf O.nk hx;have hil:=Ju (jR hx) O.n;refine(Lo (d:=d) (Jn (by decide) hd) P.S.I (by rw[hl1];exact Zv hil (by decide))).ι λg' zq29=>?_;have e1:=zq29.1;have S':=P.S.oq (zq29.2.2.Ix λa ha=>Ck ha) zq29.2.1 rfl λa ha=>(Wi a ha).imp id λe=>JF e.Μ;rw[P.S.em] at e1;obtain⟨ep,hD⟩:=S'.dD;have e2:=E1 (v:=.Β s.M.aa.ε) hD (xQ (k:=x)) (by rw[Iv,hli];exact Zv hil (by decide));rw[Iu hxn (by rw[hl1,hli])] at e2;have S'':=S'.put (ep:=bif (jW (r5 (X.ks.na i) 0) (.Β x)).ϟ then ep else ep.π (· +1)) O.D hxn;rw[(by rw[Kn,hx];rfl:X.ks.na i++[x]=X.ks.na (i+1))] at S'' e2;exact j6 (.p (e1)<|.h (e2)<|.z (q ⟨_,s.L.TH s.g.ε,s.M.TH,Qa (.Β x),s.b⟩ ⟨S'',by show s.M.aa++[[]]=_;rw[P.a,KF],by show s.M.ak++[R.Κ]=_;rw[P.e,KF],P.c⟩)) rfl
def qb(X:TX R)(i j:θ)(s:km R):Prop:=cU X X.ks s/\ST X.M X.ks i j s.M
section
variable{X:TX R}{i j:Nat}{s:km R}(ψ:qb X i j s)
def qb.S:=@ψ.1
def qb.T:=@ψ.2
end
abbrev aZ:ζ Sm:=[.ite (.gm .qr (.aq (.Ο 8) 127961880028532) (.Ο 7)) [.expr (.bc (.Ο 6) 6386275 [.Ix (.Ο 7) (.Ο 2),.aq (.Ο 8) 504397587826,.aq (.Ο 8) 465726563698,.aq (.Ο 8) 131277443786868,.Ix (.Ο 7) (.aq (.Ο 8) 127961880028532)])] []]
def zd4{i j b:θ}{y:Ar R.α}{s:km R}(hd:5<=d)(O:vq X)(P:qb X i j s)(hx:X.ks[i]?=Qa x)(hje:(ax X.M x)[j]?=Qa y)(hj:j<300)(hA:X.h[b]?=Qa (mW R y))(ga:y.t<X.M.aa.ε/\dp y.up/\dp y.lo/\R.D X.p X.k y.w/\y.w≠R.Κ)
  (q:∀s',qb X i (j+1) s'->R' .nx (kf X (Qa (.Β x)) s'.b) s'.g):ck (ah P0 d) aZ (kf X (Qa (.Β x)) (Qa (.ξ b))) s.g R':=by
 have S:=P.S;have T:=P.T;have hA':=S.up hA;obtain⟨ep,hD⟩:=S.dD;cases (mt:Ch (y.t∈X.ks)) with
 |isTrue hk=>
  obtain⟨g',e,I',K⟩:=zdm (d:=d) (s:=i) (a:=⟨y.1,y.2.1,y.2.2.1,X.ks.IN y.t⟩) (Jn (by decide) hd) S.I (by rw[T.al];exact(jR hx)) (by show X.ks.IN y.t<_;rw[T.al];exact ZY.ϥ hk) ga.2.1 ga.2.2.1 ga.2.2.2.1 O.G.bd (Jw T.c (by
   have:i*300<=299*300:=Ze _ (JY (Ju (jR hx) O.n))
   exact Ju (Yt this hj) (JC _ _))) ga.2.2.2.2
  rw[S.em] at e;exact j6 (.v (ro hA')<|.b (eA y.t hD)<|.t (Γ hk)<|.v (sN hD (Jt hx) (Mz O.nk hx))<|.v (qv hA')<|.v (rp hA')<|.v (yk hA')<|.v (ro hA')<|.v (sN hD hk rfl)<|.p (e)<|.z (q ⟨g',s.L,_,s.a,Qa (.ξ b)⟩ ⟨S.oq K I' rfl λa ha=>.wv ha,T.am hx hje hk⟩)) rfl
 |isFalse hk=>exact j6 (.v (ro hA')<|.b (eA y.t hD)<|.f (Θ hk)<|.z (q ⟨s.g,s.L,s.M,s.a,Qa (.ξ b)⟩ ⟨S,T.fy hx hje hk⟩)) rfl
abbrev dG:Sm:=.fo [8] Qc (.Ix (.aq (.Ο 0) 1634886515) (.Ο 2)) aZ
def zbn{i:θ}{s:km R}(hd:5<=d)(O:vq X)(P:qb X i 0 s)(hx:X.ks[i]?=Qa x):∃s',qb X i (ax X.M x).ε s'/\exec (ah P0 d) dG (kf X (Qa (.Β x)) s.b) s.g=Qa ((.nx,kf X (Qa (.Β x)) s'.b),s'.g):=by
 refine(O.I.mu (O.ks x (Jt hx))).ι λr zq25=>zq25.ι λas zq26=>?_;rw[<-zq26.2.1.n];exact pv (c:=ah P0 d) (tg:=[8]) (many:=Qc) (a:=r) (e:=.Ix (.aq (.Ο 0) 1634886515) (.Ο 2)) (b:=aZ) (vs:=as.π .ξ) (λs':km R=>kf X (Qa (.Β x)) s'.b) km.g (λj=>qb X i j) s (zq26.2.1.le O.I zq26.2.2) rfl (λj s P=>P.S.up zq26.2.1.l) (by exact kO (.v (oD (P.S.im O.I))<|.v (sl (P.S.im O.I).aa zq26.1)<|.z (cn (.ξ r) s.g)) rfl) P λj v s' R1 _ hv P1 T1=>by
  refine(zq26.2.1.a j v hv).ι λb zq23=>zq23.ι λy zq24=>?_;refine eqB zq24.1 ?_;exact lI (zd4 hd O P1 hx zq24.2.1 (Ju (jR zq24.2.1) (Jn (O.I.cr _ zq26.2.2) O.G.c)) zq24.2.2 (O.G.fv _ zq26.2.2 y (Jt zq24.2.1)) T1.nx)
abbrev ze:ζ Sm:=[dG,.ft (.sb (.aq (.Ο 6) 1701733491) (.Ix (.Ο 7) (.Ο 2))) (.Ix (.aq (.Ο 0) 1701733491) (.Ο 2))]
def zd3{i:θ}{s:km R}(hd:5<=d)(O:vq X)(P:qb X i 0 s)(hx:X.ks[i]?=Qa x)(q:∀s',qb X (i+1) 0 s'->R' .nx (kf X s'.a s'.b) s'.g):ck (ah P0 d) ze (kf X (Qa (.Β x)) s.b) s.g R':=by
 refine xEA (zbn (d:=d) hd O P hx) λs' P' e=>?_;have hxk:=Jt hx;have S:=P'.S;refine xE S.dD λep hD=>?_;refine xEAA (Gj (s:=i) (dh X.M x) S.I (by rw[P'.T.al];exact jR hx)) λg' e2 I' K=>?_;exact j6 (.s (e)<|.v (Wz (S.im O.I))<|.v (sl (S.im O.I).ak (O.I.qy (O.ks x hxk)))<|.v ((S.em▸Wz S.I:getAttr P0 s'.g (.ξ X.m) oY=Qa (.ξ s'.L.aE)))<|.v (sN hD hxk (Mz O.nk hx))<|.h (e2)<|.z (q ⟨g',s'.L,_,Qa (.Β x),s'.b⟩ ⟨S.oq K I' rfl λa ha=>.wv ha,P'.T.ϫ hx (Jn (O.I.cr _ (by unfold ax;rw[Jp (O.ks x hxk)];exact Zt (O.ks x hxk):ax X.M x∈X.M.aa)) O.G.c) S.I.fg⟩)) rfl
section
variable(hd:5<=d)(O:vq X)
include hd O
def d8:(ek X.ks).ε<=100000:=by rw[mR];exact Jn O.n (by decide)
def zbo{s:km R}(P:sx X 0 s):∃s',sx X X.ks.ε s'/\exec (ah P0 d) (.fo [2] Qc (.Ο 5) zf) (kf X s.a s.b) s.g=Qa ((.nx,kf X s'.a s'.b),s'.g):=by
 rw[<-mR];exact pv (c:=ah P0 d) (tg:=[2]) (many:=Qc) (a:=X.aK) (e:=.Ο 5) (b:=zf) (vs:=ek X.ks) (λs:km R=>kf X s.a s.b) km.g (λi=>sx X i) s (d8 hd O) rfl (λi s P=>P.S.kK) (by exact kO (.z (cn (.ξ X.aK) s.g)) rfl) P λi v s R1 _ hv P1 T1=>by
  obtain⟨x,hx,rfl⟩:=zJ hv;exact lI (zd5 hd O P1 hx T1.nx)
def zbm{s:km R}(P:qb X 0 0 s):∃s',qb X X.ks.ε 0 s'/\exec (ah P0 d) (.fo [2] Qc (.Ο 5) ze) (kf X s.a s.b) s.g=Qa ((.nx,kf X s'.a s'.b),s'.g):=by
 rw[<-mR];exact pv (c:=ah P0 d) (tg:=[2]) (many:=Qc) (a:=X.aK) (e:=.Ο 5) (b:=ze) (vs:=ek X.ks) (λs:km R=>kf X s.a s.b) km.g (λi=>qb X i 0) s (d8 hd O) rfl (λi s P=>P.S.kK) (by exact kO (.z (cn (.ξ X.aK) s.g)) rfl) P λi v s R1 _ hv P1 T1=>by
  obtain⟨x,hx,rfl⟩:=zJ hv;exact lI (zd3 hd O P1 hx T1.nx)
end
def sx.go{s:km R}(P:sx X X.ks.ε s):qb X 0 0 s:=by
 have S:=P.S;unfold cU at S;rw[Zj] at S;refine⟨S,by rw[P.a,Zw],λm k hk=>?_,λm k hk=>?_,by rw[P.c];exact JB _⟩
 ·rw[P.a,KD,φ (jR hk),τ (J9 _)]
  by_cases h0:m=0
  ·rw[φ h0];rfl
  ·rw[τ h0]
 ·rw[P.e,KD,φ (jR hk),τ (J9 _)]
def ST.done{T:Mc R.α}(T':ST M ks ks.ε 0 T)(hE:T.ak.ε=T.aa.ε):T.aa=ks.π (λk=>nI ks (ax M k))/\T.ak=ks.π (dh M):=by
 refine⟨tS (by rw[Jq];exact T'.al) λm y hy=>?_,tS (by rw[Jq];exact hE.ν T'.al) λm y hy=>?_⟩
 ·have hm:m<ks.ε:=by rw[<-T'.al];exact jR hy
  have:=T'.a m _ (Jp hm)
  rw[φ hm] at this;simp only[JE,Jp hm];exact this.Μ.ν hy
 ·have hm:m<ks.ε:=by rw[<-T'.al,<-hE];exact jR hy
  have:=T'.e m _ (Jp hm)
  rw[φ hm] at this;simp only[JE,Jp hm];exact this.Μ.ν hy
def zfW(R:Rg)(h:MH)(M:Mc R.α)(ks:ζ θ)(t:MH)(L':Ly)(T:Mc R.α):Prop:=ao R (h++t) L' T/\(∀a∈fk L',h.ε<=a)/\nG M ks T
section
variable{R:Rg}{h:MH}{M:Mc R.α}{ks:List Nat}{t:MH}{L':Ly}{T:Mc R.α}(ψ:zfW R h M ks t L' T)
def zfW.J:=@ψ.1
def zfW.ho:=@ψ.2.1
def zfW.gA:=@ψ.2.2
end
abbrev m3L'(m:θ):Ly:=⟨m,m+1,m+2,[]⟩
def zbU(ha:a∈fk (m3L' m)):m<=a/\a<=m+2:=by
 simp only[fk,JM,Jz,or_false] at ha;rcases ha with rfl|rfl|rfl<;>lia
theorem zb4(k:θ){l:ζ θ}(ha:h[a]?=Qa (.ο (ek l))):mX .nu (.Β k) (.ξ a) h=Qa (!decide (k∈l)):=zak (iP ha)
def zbl{s0:km R}(hd:5<=d)(O:vq X)(hs:X.M.Ϟ∈X.ks)(hz:¬X.M.lw=R.Κ)(P:sx X 0 s0)(eg:s0.g=g)(ea:s0.b=Qd):∃t L' T,∃s':km R,exec (ah P0 d) (.fo [2] Qc (.Ο 5) zf) (kf X s0.a Qd) g=Qa ((.nx,kf X s'.a s'.b),s'.g)/\∃s2:km R,exec (ah P0 d) (.fo [2] Qc (.Ο 5) ze) (kf X s'.a s'.b) s'.g=Qa ((.nx,kf X s2.a s2.b),s2.g)/\qb X X.ks.ε 0 s2/\kI (ah P0 d) (.ξ X.m) GB [.Β (X.ks.IN X.M.Ϟ:θ),R.e X.M.lw] s2.g s2.g=Qa (.Ε,X.h++t)/\L'.m=X.m/\zfW R X.h X.M X.ks t L' T:=by
 subst eg;refine(zbo (d:=d) hd O P).ι λs1 zq17=>?_;have e1:=zq17.2;rw[ea] at e1;refine(zbm (d:=d) hd O zq17.1.go).ι λs2 zq16=>?_;have S:=zq16.1.S;refine(Ni (d:=d) (s:=X.ks.IN X.M.Ϟ) (Jn (by decide) hd) S.I (by rw[zq16.1.T.al];exact ZY.ϥ hs) O.G.fst O.G.bd).ι λg' zq15=>?_;have e3:=zq15.1;have S':=S.oq zq15.2.2 zq15.2.1 rfl λa ha=>.wv ha;refine S'.Tr.ι λt zq14=>?_;rw[S.em,zq14] at e3;exact⟨t,s2.L,{s2.M with start:=X.ks.IN X.M.Ϟ,first:=X.M.lw},s1,e1,s2,zq16.2,zq16.1,e3,S.em,zq14▸zq15.2.1,λa ha=>(S'.fk a ha).1,.qw hs hz (zq16.1.T.done S.I.fg).1 (zq16.1.T.done S.I.fg).2 rfl rfl⟩
def OC{t0:MH}{o1 o2 o3 o4:η ab}(I:ao R h L M)(G:kQ M p k)(hks:∀x∈ks,x<M.aa.ε)(nk:ks.Ω)(hK:(h++t0)[aK]?=Qa (.ο (ek ks)))(J:ao R (h++t0++t1) ⟨(h++t0).ε,(h++t0).ε+1,(h++t0).ε+2,[]⟩ (M0 (R:=R))):
  vq (⟨h,L,M,ks,(h++t0).ε,(h++t0++t1).ε,aK,o1,o3,o4,p,k⟩:TX R)/\sx (⟨h,L,M,ks,(h++t0).ε,(h++t0++t1).ε,aK,o1,o3,o4,p,k⟩:TX R) 0 ⟨h++t0++t1++[.Υ (Qa 0) []],⟨(h++t0).ε,(h++t0).ε+1,(h++t0).ε+2,[]⟩,M0,o2,Qd⟩:=by
 have hm:h.ε<=(h++t0).ε:=by rw[Jx];exact Jr _ _
 have kl:=nk.length_le_of_subset (l₂:=JX M.aa.ε) λx hx=>ZA.ϥ (hks x hx);rw[Zg] at kl;refine⟨⟨I,G,hks,nk,Jn kl G.n,Jn hm (by rw[Jx (as:=h++t0)];exact Jr _ _:(h++t0).ε<=(h++t0++t1).ε)⟩,⟨⟨t0++(t1++[.Υ (Qa 0) []]),by rw[<-JA,<-JA]⟩,jH (jH hK),⟨Qa 0,ap⟩,J.cq,rfl,λa ha=>?_⟩,rfl,rfl,rfl⟩
 have:=zbU ha
 exact⟨Jn hm this.1,λe=>ς (e▸(j4 hK)) (Z9.ϥ this.1),λe=>ς (e▸Jw this.2 (j4 J.ak)) (Zb _)⟩
def Ce{o1 o2 o3 o4:η ab}(hd:5<=d)(I:ao R h L M)(G:kQ M p k)(hks:∀x∈ks,x<M.aa.ε)(nk:ks.Ω)(eg:∃t,g=h++t)(hK:g[aK]?=Qa (.ο (ek ks)))
  (q:∀t L' T,ao R (h++t) L' T->(∀a∈fk L',h.ε<=a)->nG M ks T->Q (.ξ L'.m) (h++t)):ck (ah P0 d) (lQ.jp 5) (Qa (.ξ L.m)::o1::o2::o3::o4::Qa (.ξ aK)::nn 9) g (Ψ.Fin Q):=by
 obtain⟨t0,rfl⟩:=eg;have I0:ao R (h++t0) L M:=I.cq;refine(Iz (d:=d) R (Jn (by decide) hd) (h++t0)).ι λt1 zq12=>?_;have I1:ao R (h++t0++t1) L M:=I0.cq;have hK1:=jH (t:=t1) hK;have hm:h.ε<=(h++t0).ε:=by rw[Jx];exact Jr _ _
 have lq:(M.Ϟ∉ks\/M.lw=R.Κ)->∃t',kI (ah P0 d) (.ξ (h++t0).ε) zH [] (h++t0++t1) (h++t0++t1)=Qa (.Β 0,h++t')/\Q (.ξ (h++t0).ε) (h++t'):=λhb=>by
  refine(Lo (d:=d) (Jn (by decide) hd) zq12.2 (by show 0<10000;decide)).ι λg' zq11=>?_;have K':=zq11.2.2;rw[JA] at K';obtain⟨t',rfl⟩:=K'.Tr λa ha=>Jn hm (zbU (m:=(h++t0).ε) (Ck (L:=m3L' (h++t0).ε) ha)).1;exact⟨t',zq11.1,q t' _ _ zq11.2.1 (λa ha=>(Wi a ha).ι (λha=>Jn hm (zbU (m:=(h++t0).ε) ha).1) λe=>e▸Jn hm (by rw[Jx (as:=h++t0)];exact Jr _ _)) (.lq hb rfl rfl rfl rfl)⟩
 cases (mt:Ch (M.Ϟ∈ks)) with
 |isFalse hs=>
  obtain⟨t',e2,q⟩:=lq (.wv hs);have hb:(!decide (M.Ϟ∈ks))=true:=by rw[Θ hs];rfl
  exact j6 (.v (l9 I0)<|.p (zq12.1)<|.v (u9 I1)<|.b (zb4 M.Ϟ hK1)<|.t (hb)<|.t (hb)<|.p (e2)<|.z (q)) rfl
 |isTrue hs=>
  have hb:(!decide (M.Ϟ∈ks))=false:=by rw[Γ hs];rfl
  cases R.gk M.lw R.Κ with
  |isTrue hz=>
   exact(lq (.IO hz)).ι λt' zq8=>j6 (.v (l9 I0)<|.p (zq12.1)<|.v (u9 I1)<|.b (zb4 M.Ϟ hK1)<|.f (hb)<|.v (Wy I1)<|.v (l9 I1)<|.w (R.no)<|.k (R.qe M.lw R.Κ)<|.t (R.yes hz)<|.p (zq8.1)<|.z (zq8.2)) rfl
  |isFalse hz=>
   have zq7:=OC (o1:=o1) (o2:=o2) (o3:=o3) (o4:=o4) I G hks nk hK zq12.2;refine(zbl (d:=d) hd zq7.1 hs hz zq7.2 rfl rfl).ι λt zq2=>zq2.ι λL' zq3=>zq3.ι λT zq4=>zq4.ι λs1 zq5=>zq5.2.ι λs2 zq6=>?_;have em:=zq6.2.2.2.1;have em:L'.m=(h++t0).ε:=em;obtain⟨ep,hD⟩:=zq6.2.1.S.dD;exact j6 (.v (l9 I0)<|.p (zq12.1)<|.v (u9 I1)<|.b (zb4 M.Ϟ hK1)<|.f (hb)<|.v (Wy I1)<|.v (l9 I1)<|.w (R.no)<|.k (R.qe M.lw R.Κ)<|.f (R.not hz)<|.c<|.s (zq5.1)<|.s (zq6.1)<|.v (u9 (zq6.2.1.S.im I:ao R s2.g L M))<|.v (sN hD hs rfl)<|.v (Wy (zq6.2.1.S.im I:ao R s2.g L M))<|.p (zq6.2.2.1)<|.z ((show Ψ.Fin Q (.rt (.ξ (h++t0).ε)) [] (h++t) from em▸q t L' T zq6.2.2.2.2.J zq6.2.2.2.2.ho zq6.2.2.2.2.gA))) rfl
end
section
variable{h0:MH}
theorem zdd(B:mJ M M.aa.ε 0 bp)(I:ao R h L M)(G:∀ys∈M.aa,∀a∈ys,a.t<M.aa.ε):∀xs∈bp,xs.ε<=100000/\∀o∈xs,o<M.aa.ε:=λxs hx=>by
 have h2:=B.sum;rw[Zj,I.ct] at h2;refine⟨Jn (Gz hx) (h2▸I.cl),λo ho=>?_⟩;obtain⟨k,hk,rfl⟩:=Ys.mp hx;exact((B.mem k _ (Jp hk) o).mp ho).ι λys zq34=>jR zq34.1
def zaw{c:Cx}{fr:Ψ.Λ}(p:θ->Ζ)(hn:n<=100000)(hc:c.ba=200000)(hx:∀i:θ,(fr.Ϫ x (Qa (.Β (i:Φ))))[x]?=Qa (Qa (.Β (i:Φ))))(e0:WE c fr it h λv g=>v=.gq n/\g=h)
  (step:∀i,i<n->∀acc,WE c (fr.Ϫ x (Qa (.Β i))) e (h++[.ο acc]) λv g=>v=.ϯ (p i)/\g=h++[.ο acc]):eval c (.comp (.Ο x) [x] Qc it [e]) fr h=Qa (.ξ h.ε,h++[.ο (ek (nO p n))]):=by
 refine W.eq (BR p (by rw[hc];exact Jw hn (by decide)) (Jn hn (by decide)) (e0.Τ λv g q=>?_));refine eqE q.1 ?_;refine eqB q.2 ?_;refine⟨rfl,λi hi acc=>Lb ((step i hi acc).Τ λv g q=>?_),hx,rfl,rfl⟩;refine eqB q.1 ?_;refine eqE q.2 ?_;exact U2 ⟨λhb=>vQ ⟨rfl,hb.Μ⟩,λhb=>⟨rfl,hb.Μ⟩⟩
theorem Rg.qn(a b:R.α)(h:MH):mX .ne (R.e a) (R.e b) h=Qa (!@decide (a=b) (R.gk a b)):=Ψ.cv (R.ff h a b)
abbrev dE(L:Ly)(o1 o3 o4:η ab):Ψ.Λ:=Qa (.ξ L.m)::o1::Qd::o3::o4::nn 10
theorem zcX{o1:η ab}(hd:1<=d)(I:ao R h L M):eval (ah P0 d) (.comp (.Ο 9) [9] Qc (.bn (.py (.ty 491260897125)) [.bc (.Ο 0) qT []]) [.gm .ne (.Ix (.aq (.Ο 0) oY) (.Ο 9)) (.aq (.aq (.Ο 0) m8) wC)]) (dE L o1 Qd Qd) h=Qa (.ξ h.ε,h++[.ο (ek (nO (wV M) M.aa.ε))]):=
 zaw (wV M) (Mf I) rfl (λ_=>rfl) (by exact kO (.p (pH hd I)<|.c<|.z (cn (.gq M.aa.ε) h)) (by kernel_rfl)) λi hi acc=>by
  have J:ao R (h++[.ο acc]) L M:=I.cq;exact kO (.v (Wz J)<|.v (sl J.ak (I.qy hi))<|.v (l9 J)<|.w (R.no)<|.k (R.qn (dh M i) R.Κ)<|.z (cn (.ϯ (wV M i)) (h++[.ο acc]))) (by kernel_rfl)
theorem zcQ{a1 a2:θ}{o3:η ab}(hd:1<=d)(I:ao R h L M)(h1:h[a1]?=Qa (.ο (mb1.π ab.ϯ)))(h2:h[a2]?=Qa (.ο (mb2.π ab.ϯ)))(l1:mb1.ε=M.aa.ε)(l2:mb2.ε=M.aa.ε):eval (ah P0 d) (.comp (.Ο 9) [9] Qc (.bn (.py (.ty 491260897125)) [.bc (.Ο 0) qT []]) [.qa Qc [.Ix (.Ο 1) (.Ο 9),.Ix (.Ο 4) (.Ο 9)]]) (dE L (Qa (.ξ a1)) o3 (Qa (.ξ a2))) h=Qa (.ξ h.ε,h++[.ο (ek (nO (λk=>mb1[k]?.ϡ Qc && mb2[k]?.ϡ Qc) M.aa.ε))]):=
 zaw _ (Mf I) rfl (λ_=>rfl) (by exact kO (.p (pH hd I)<|.c<|.z (cn (.gq M.aa.ε) h)) (by kernel_rfl)) λi hi acc=>by
  have e1:=Jp (l:=mb1) (i:=i) (l1▸hi);have e2:=Jp (l:=mb2) (i:=i) (l2▸hi)
  generalize mb1[i]'(l1▸hi)=b1 at e1
  generalize mb2[i]'(l2▸hi)=b2 at e2
  simp only[e1,e2];cases b1 with
  |false=>exact kO (.v ((sl (jH (t:=[.ο acc]) h1) (w7 e1)))<|.c<|.z (cn (.ϯ Qc) (h++[.ο acc]))) (by kernel_rfl)
  |true=>exact kO (.v ((sl (jH (t:=[.ο acc]) h1) (w7 e1)))<|.c<|.v ((sl (jH (t:=[.ο acc]) h2) (w7 e2)))<|.z (cn (.ϯ b2) (h++[.ο acc]))) (by kernel_rfl)
def zbY(hd:1<=d)(I:ao R h L M):∃t,∃b:θ,jO (ah P0 d) (.aj 125) [.ξ L.m] h=Qa (.ξ b,h++t)/\tF (h++t) b (we M):=by
 obtain⟨v,g,e,t,b,rfl,rfl,q⟩:=W.Mi (mM (P:=P0) (d:=d) rfl (FE (Q:=λv g=>∃t b,v=.ξ b/\g=h++t/\tF (h++t) b (we M)) hd I λt b A=>⟨t,b,rfl,rfl,A⟩));exact⟨t,b,e,q⟩
def Sz(h t:MH)(n a:θ)(fs:ζ θ)(bp:ζ (ζ θ))(mb:ζ Ζ):Prop:=mb.ε=n/\Vt fs bp mb/\D7 bp mb/\(h++t)[a]?=Qa (.ο (mb.π ab.ϯ))
section
variable{h t:MH}{n a:Nat}{fs:List Nat}{bp:List (List Nat)}{mb:List Bool}(ψ:Sz h t n a fs bp mb)
def Sz.l:=@ψ.1
def Sz.B:=@ψ.2.1
def Sz.c:=@ψ.2.2.1
def Sz.TF:=@ψ.2.2.2
end
def I9{f b:θ}{fs:ζ θ}(hd:2<=d)(I:ao R h L M)(hf:h[f]?=Qa (.ο (ek fs)))(A:tF h b bp)(hl:bp.ε=M.aa.ε)(uf:∀s∈fs,s<M.aa.ε)(qu:fs.ε<=10000)(zu:∀xs∈bp,xs.ε<=100000/\∀o∈xs,o<M.aa.ε):
  ∃t,∃a:θ,jO (ah P0 d) (.aj 124) [.ξ L.m,.ξ f,.ξ b] h=Qa (.ξ a,h++t)/\∃mb,Sz h t M.aa.ε a fs bp mb:=by
 refine xEEA (W.Mi (mM (P:=P0) (d:=d) rfl (zcu (Q:=λv g=>∃t a,v=.ξ a/\g=h++t/\∃mb,Sz h t M.aa.ε a fs bp mb) hd I hf A hl uf qu zu λmb t l B c m=>⟨t,_,rfl,rfl,mb,l,B,c,m⟩))) λv g e dw=>?_;refine xEEAA dw λt a iq qc q=>?_;subst iq;subst qc;exact⟨t,a,e,q⟩
def Sh(hd:2<=d)(I:ao R h L M)(ht:∀ys∈M.aa,∀a∈ys,a.t<M.aa.ε):∃t,∃b:θ,jO (ah P0 d) (.aj 123) [.ξ L.m] h=Qa (.ξ b,h++t)/\∃bp,mJ M M.aa.ε 0 bp/\tF (h++t) b bp:=by
 refine xEEA (W.Mi (mM (P:=P0) (d:=d) rfl (Sf (Q:=λv g=>∃t b,v=.ξ b/\g=h++t/\∃bp,mJ M M.aa.ε 0 bp/\tF (h++t) b bp) hd I ht λt bp B A=>⟨t,_,rfl,rfl,bp,B,A⟩))) λv g e dw=>?_;refine xEEAA dw λt b iq qc q=>?_;subst iq;subst qc;exact⟨t,b,e,q⟩
def zgn(hd:5<=d)(I:ao R h L M)(G:kQ M p k):∃t,∃b:θ,jO (ah P0 d) (.aj 125) [.ξ L.m] (h++[.ο [.Β M.Ϟ]])=Qa (.ξ b,h++[.ο [.Β M.Ϟ]]++t)/\∃t2,∃a:θ,jO (ah P0 d) (.aj 124) [.ξ L.m,.ξ h.ε,.ξ b] (h++[.ο [.Β M.Ϟ]]++t)=Qa (.ξ a,h++t2)/\∃mb,Sz h t2 M.aa.ε a [M.Ϟ] (we M) mb:=by
 refine(zbY (d:=d) (h:=h++[.ο [.Β M.Ϟ]]) (Jn (by decide) hd) I.cq).ι λt zq20=>zq20.ι λb zq21=>?_;obtain⟨t2,a,e2,mb,m⟩:=I9 (d:=d) (f:=h.ε) (fs:=[M.Ϟ]) (Jn (by decide) hd) I.cq.cq (jH ap) zq21.2 (Jq ..) (λs hs=>by rw[JD.mp hs];exact G.st) (by show 1<=10000;decide) λxs hx=>by
  obtain⟨ys,hy,rfl⟩:=JL.mp hx;refine⟨by rw[Jq];exact Jn (I.cr _ hy) I.cl,λo ho=>?_⟩;obtain⟨a,ha,rfl⟩:=JL.mp ho;exact(G.fv ys hy a ha).1
 have hg:((h++[ae.ο [.Β M.Ϟ]])++t)++t2=h++([ae.ο [.Β M.Ϟ]]++t++t2):=by rw[JA,JA,JA]
 exact⟨t,b,zq21.1,[ae.ο [.Β M.Ϟ]]++t++t2,a,hg▸e2,mb,m.l,m.B,m.c,hg▸m.TF⟩
def zgm(hd:5<=d)(I:ao R h L M)(G:kQ M p k):∃t,∃b:θ,jO (ah P0 d) (.aj 123) [.ξ L.m] (h++[.ο (ek (nO (wV M) M.aa.ε))])=Qa (.ξ b,h++[.ο (ek (nO (wV M) M.aa.ε))]++t)/\∃t2,∃a:θ,jO (ah P0 d) (.aj 124) [.ξ L.m,.ξ h.ε,.ξ b] (h++[.ο (ek (nO (wV M) M.aa.ε))]++t)=Qa (.ξ a,h++t2)/\∃mb bp,mJ M M.aa.ε 0 bp/\Sz h t2 M.aa.ε a (nO (wV M) M.aa.ε) bp mb:=by
 refine(Sh (d:=d) (h:=h++[.ο (ek (nO (wV M) M.aa.ε))]) (Jn (by decide) hd) I.cq (λys hy a ha=>(G.fv ys hy a ha).1:∀ys∈M.aa,∀a∈ys,a.t<M.aa.ε)).ι λt zq15=>zq15.ι λb zq16=>zq16.2.ι λbp zq17=>?_;refine(I9 (d:=d) (f:=h.ε) (fs:=nO (wV M) M.aa.ε) (Jn (by decide) hd) I.cq.cq (jH ap) zq17.2 zq17.1.lv (λs hs=>(zC hs).1) (Jn We I.bg) (zdd zq17.1 I (λys hy a ha=>(G.fv ys hy a ha).1:∀ys∈M.aa,∀a∈ys,a.t<M.aa.ε))).ι λt2 zq12=>zq12.ι λa zq13=>zq13.2.ι λmb zq14=>?_;have hg:((h++[ae.ο (ek (nO (wV M) M.aa.ε))])++t)++t2=h++([ae.ο (ek (nO (wV M) M.aa.ε))]++t++t2):=by rw[JA,JA,JA]
 exact⟨t,b,zq16.1,_,a,hg▸zq13.1,mb,bp,zq17.1,zq14.l,zq14.B,zq14.c,hg▸zq14.TF⟩
abbrev dC(M:Mc R.α)(mb1 mb2:ζ Ζ):ζ θ:=nO (λk=>mb1[k]?.ϡ Qc && mb2[k]?.ϡ Qc) M.aa.ε
def Ox(hd:6<=d)(I:ao R h L M)(G:kQ M p k)(q:∀t L' T ks mb1 mb2 bp,ao R (h++t) L' T->(∀a∈fk L',h.ε<=a)->G0 M ks mb1 mb2 bp->nG M ks T->Q (.ξ L'.m) (h++t)):WF P0 d 133 [.ξ L.m] h Q:=by
 refine kN (K:=5) hd (Qa (.ξ L.m)::nn 14) lQ (by kernel_rfl) λd' h'=>?_;have d1:1<=d':=Jn (by decide) h';refine(zgn (d:=d') h' I G).ι λt1 zq7=>zq7.ι λb1 zq8=>zq8.2.ι λt2 zq9=>zq9.ι λa1 zq10=>zq10.2.ι λmb1 zq11=>?_;have m1:=zq11;have I2:ao R (h++t2) L M:=I.cq;refine(zgm (d:=d') h' I2 G).ι λt3 zq1=>zq1.ι λb2 zq2=>zq2.2.ι λt4 zq3=>zq3.ι λa2 zq4=>zq4.2.ι λmb2 zq5=>zq5.ι λbp zq6=>?_;have m2:=zq6.2;exact mP (a:=lQ.na 5) (b:=lQ.jp 5) (j6 (.p (pH d1 I)<|.k (vm M.aa.ε 0)<|.f ((ϧ λe=>ς G.st (by rw[Ye.mp e];exact J9 _):((M.aa.ε:Φ)==0)=Qc))<|.v (u9 I)<|.p (zq8.1)<|.p (zq10.1)<|.p (zcX (o1:=Qa (.ξ a1)) d1 I2)<|.p (zq2.1)<|.p (zq4.1)<|.p (zcQ (o3:=Qa (.ξ (h++t2).ε)) d1 (I2.cq:ao R (h++t2++t4) L M) (jH m1.TF) m2.TF m1.l m2.l)<|.z (nC (Ce (Q:=Q) (g:=h++t2++t4++[.ο (ek (dC M mb1 mb2))]) (o1:=Qa (.ξ a1)) (o2:=Qd) (o3:=Qa (.ξ (h++t2).ε)) (o4:=Qa (.ξ a2)) h' I G (λx hx=>(zC hx).1) AV ⟨t2++(t4++[.ο (ek (dC M mb1 mb2))]),by rw[JA,JA]⟩ ap λt' L' T J ho TR=>q t' L' T _ mb1 mb2 bp J ho ⟨m1.l,m1.B,m1.c,m2.l,m2.B,m2.c,zq6.1,rfl⟩ TR))) (by kernel_rfl))
end
structure lc where
 κ:Type
 dq:At κ
 v:κ->ab
 eq:∀a b,fz (v a) (v b)= @decide (a=b) (dq a b)
 c:θ
 hc:(c !=0)=Qe
 kd:∀a,jV (v a)=c
noncomputable instance (T:lc):At T.κ:=T.dq
section
variable{T:lc}
def pD(T:lc)(es:ζ (ab×ab)):Prop:=∀p∈es,∃a,p.1=T.v a
def pI{k:T.κ}(K:pD T es):jT es (T.v k)=true:=by
 have h1:(jV (T.v k) !=0)=true:=by rw[T.kd];exact T.hc
 delta jT;rw[h1];cases es with
 |Ϝ=>rfl
 |Ι p r=>
  obtain⟨a,e⟩:=K p (.mo _);have q:yM (p::r)=Qa (jV (T.v k)):=by rw[T.kd,<-T.kd a,<-e];rfl
  rw[q,Ϧ];rfl
def Bc{k k':T.κ}(K:pD T es):jW (es.π λp=>bif fz p.1 (T.v k) then(p.1,v) else p) (T.v k')=if k=k' then(jW es (T.v k')).π λ_=>v else jW es (T.v k'):=by
 induction es with
 |Ϝ=>by_cases h:k=k'<;>simp [h] <;>rfl
 |Ι p r ih=>
  refine xE (K p (.mo _)) λa e=>?_;obtain⟨x,y⟩:=p;subst e;rw[JU,T.eq];by_cases h1:a=k
  ·subst h1
   rw[Γ rfl,pi,lR,lR,T.eq,(ih λp hp=>K p (.pc _ hp))];by_cases h2:a=k'
   ·rw[Γ h2,φ h2,φ h2];rfl
   ·rw[Θ h2,τ h2,τ h2];rfl
  ·simp only[Θ h1,bm,lR,lR,T.eq,(ih λp hp=>K p (.pc _ hp))]
   by_cases h2:a=k'
   ·refine eqE h2 ?_
    rw[Γ rfl,τ λe=>h1 e.Μ,τ λe=>h1 e.Μ]
   ·simp only[Θ h2,bm,bm]
def Bd{k k':ab}:jW (es++[(k,v)]) k'=(jW es k').or (bif fz k k' then Qa v else Qd):=by
 induction es with
 |Ϝ=>rw[qa4,lR];rfl
 |Ι p r ih=>
  rw[Yi,lR,lR,ih];cases fz p.1 k'<;>rfl
def Bb{k k':T.κ}(K:pD T es):jW (nA es (T.v k) v) (T.v k')=if k=k' then Qa v else jW es (T.v k'):=by
 delta nA;cases hg:jW es (T.v k) with
 |some x=>
  simp only[YJ,pi,Bc K];by_cases h:k=k'
  ·subst h
   rw[φ rfl,φ rfl,hg];rfl
  ·rw[τ h,τ h]
 |none=>
  simp only[YK,bm,Bd,T.eq];by_cases h:k=k'
  ·subst h
   rw[φ rfl,hg,Γ rfl];rfl
  ·rw[τ h,Θ h,bm,η.or_none]
def UF{k:T.κ}(K:pD T es):pD T (nA es (T.v k) v)/\(nA es (T.v k) v).ε<=es.ε+1:=by
 delta nA;cases hg:jW es (T.v k) with
 |some x=>
  simp only[YJ,pi];refine⟨λp hp=>?_,by rw[Jq];exact Jr _ _⟩;obtain⟨q,hq,rfl⟩:=JL.mp hp;cases fz q.1 (T.v k)
  ·exact K q hq
  ·exact K q hq
 |none=>
  simp only[YK,bm];refine⟨λp hp=>?_,by rw[Jx];exact Jv _⟩;rcases Zh.mp hp with hp|hp
  ·exact K p hp
  ·rw[JD.mp hp];exact⟨k,rfl⟩
def Pq{k:T.κ}(K:pD T es)(nd:(es.π (·.1)).Ω):((nA es (T.v k) v).π (·.1)).Ω:=by
 delta nA;cases hg:jW es (T.v k) with
 |some x=>
  simp only[YJ,pi,KN,show ((λp:ab×ab=>p.1) ∘ λp=>bif fz p.1 (T.v k) then(p.1,v) else p)=λp=>p.1 from funext λp=>by show (bif fz p.1 (T.v k) then(p.1,v) else p).1=p.1;cases fz p.1 (T.v k)<;>rfl];exact nd
 |none=>
  simp only[YK,bm,JW];refine Kj.ϥ ⟨nd,ζ.Pairwise.Ι (λ_ h=>ς h Jz) .Ϝ,λa ha b hb e=>?_⟩;rw[JD.mp hb] at e;obtain⟨p,hp,rfl⟩:=JL.mp ha
  have:=ζ.find?_eq_none.mp (η.map_eq_none_iff.mp hg) p hp
  rw[e,T.eq,Γ rfl] at this;exact this rfl
end
abbrev GA(i j:θ):ab:=.ay [.Β (i:Φ),.Β (j:Φ)]
def zfo{i j:θ}:fz (GA i j) (GA i' j')=decide ((i,j)=(i',j')):=by
 have e:∀{a b:θ},((a:Φ)==(b:Φ))=decide (a=b):=λ{a b} =>by
  by_cases h:a=b
  ·subst h;simp
  ·exact(Θ h)▸ϧ λe=>h (Xa.lf e)
 show (((i:Φ)==(i':Φ)) && (((j:Φ)==(j':Φ)) && Qe))=_;rw[e,e,Ym,<-Ζ.decide_and,Tz];exact(qaT.injEq ..).Μ▸Iff.rfl
abbrev lG:lc:=⟨θ×θ,mt,λp=>GA p.1 p.2,λ_ _=>zfo,3,rfl,λ_=>rfl⟩
def zB{s t:ζ θ}:((⟨s.υ⟩:Ρ.ld)==⟨t.υ⟩)=decide (s=t):=by
 by_cases hs:s=t
 ·subst hs;simp
 ·rw[Θ hs]
  exact ϧ λe=>hs (ω (λx:Ρ.ld=>x.cps.ch) e)
def zfn{a b:ζ θ×ζ θ}:fz (.ay [.Ϥ a.1,.Ϥ a.2]) (.ay [.Ϥ b.1,.Ϥ b.2])=decide (a=b):=by
 show (((⟨a.1.υ⟩:Ρ.ld)==⟨b.1.υ⟩) && (((⟨a.2.υ⟩:Ρ.ld)==⟨b.2.υ⟩) && Qe))=_;rw[zB,zB,Ym,<-Ζ.decide_and,Tz];exact Prod.ext_iff.Μ
abbrev jJ:lc:=⟨ζ θ×ζ θ,mt,λp=>.ay [.Ϥ p.1,.Ϥ p.2],λ_ _=>zfn,3,rfl,λ_=>rfl⟩
section
variable{T:lc}{h0:MH}
def kY(R:Rg)(n:θ):ζ R.α:=J5 n R.Κ
def RW(T:lc)(R:Rg)(h g:MH)(D N c:θ)(Ad:T.κ->η θ)(V:T.κ->ζ R.α):Prop:=(∃t,g=h++t)/\h.ε<=D/\(∃ep es,g[D]?=Qa (.Υ ep es)/\pD T es/\es.ε<=c/\∀k,jW es (T.v k)=(Ad k).π ab.ξ)/\(∀k k' a,Ad k=Qa a->Ad k'=Qa a->k=k')/\(∀k a,Ad k=Qa a->h.ε<=a)/\(∀k a,Ad k=Qa a->g[a]?=Qa (.ο ((V k).π R.e)))/\(∀k,Ad k=Qd->V k=kY R N)/\(∀k,(V k).ε=N)/\∃e es,g[D]?=Qa (.Υ (Qa e) es)/\(es.π (·.1)).Ω
section
variable{T:lc}{R:Rg}{h g:MH}{D N c:Nat}{Ad:T.κ->Option Nat}{V:T.κ->List R.α}(ψ:RW T R h g D N c Ad V)
def RW.Tr:=@ψ.1
def RW.qm:=@ψ.2.1
def RW.dd:=@ψ.2.2.1
def RW.lf:=@ψ.2.2.2.1
def RW.qo:=@ψ.2.2.2.2.1
def RW.Tq:=@ψ.2.2.2.2.2.1
def RW.qj:=@ψ.2.2.2.2.2.2.1
def RW.lv:=@ψ.2.2.2.2.2.2.2.1
def RW.sm:=@ψ.2.2.2.2.2.2.2.2
end
def cu{β:Type}(f:T.κ->β)(k:T.κ)(x:β):T.κ->β:=λa=>if a=k then x else f a
theorem jN{f:T.κ->β}{k:T.κ}{x:β}:cu f k x k=x:=φ rfl
theorem jU{f:T.κ->β}{k a:T.κ}{x:β}(h:¬a=k):cu f k x a=f a:=τ h
def RW.cq{t:MH}{Ad:T.κ->η θ}{V:T.κ->ζ R.α}(S:RW T R h g D N c Ad V):RW T R h (g++t) D N c Ad V:=by
 refine S.Tr.ι λt0 zq9=>?_;obtain rfl:=zq9;exact S.dd.ι λep zq7=>zq7.ι λes zq8=>⟨⟨_,JA ..⟩,S.qm,⟨ep,es,jH zq8.1,zq8.2⟩,S.lf,S.qo,λk a ha=>jH (S.Tq k a ha),S.qj,S.lv,S.sm.ι λe q=>q.ι λes q=>⟨e,es,jH q.1,q.2⟩⟩
def RW.qg{k:T.κ}{Ad:T.κ->η θ}{V:T.κ->ζ R.α}{x:ζ R.α}(S:RW T R h g D N c Ad V)(ha:Ad k=Qa a)(hx:x.ε=N):RW T R h (g.Ϫ a (.ο (x.π R.e))) D N c Ad (cu V k x):=by
 refine S.Tr.ι λt0 zq6=>?_;obtain rfl:=zq6;refine S.dd.ι λep zq4=>zq4.ι λes zq5=>?_;have hr:=S.Tq k a ha;refine⟨⟨_,pU (S.qo k a ha)⟩,S.qm,⟨ep,es,jZ (cv hr zq5.1 nofun) zq5.1,zq5.2⟩,S.lf,S.qo,λk' a' ha'=>?_,λk' hn=>?_,λk'=>?_,S.sm.ι λe q=>q.ι λes q=>⟨e,es,jZ (cv hr q.1 nofun) q.1,q.2⟩⟩
 ·by_cases e:k'=k
  ·subst e
   rw[ha] at ha';refine lV ha' ?_;rw[jN];exact kM hr
  ·rw[jU e]
   exact jZ (λq=>by subst q;exact e (S.lf _ _ _ ha' ha)) (S.Tq k' a' ha')
 ·rw[jU λe=>by subst e;rw[ha] at hn;exact nomatch hn]
  exact S.qj k' hn
 ·by_cases e:k'=k
  ·refine eqE e ?_;rw[jN];exact hx
  ·exact(jU e)▸S.lv k'
def RW.put{k:T.κ}{ep:η θ}{Ad:T.κ->η θ}{V:T.κ->ζ R.α}{x:ζ R.α}(S:RW T R h g D N c Ad V)(hD:g[D]?=Qa (.Υ ep es))(ha:g[a]?=Qa (.ο (x.π R.e)))(hl:h.ε<=a)(hn:∀k,Ad k≠Qa a)(hx:x.ε=N)(ep':η θ)(he:ep'.ϟ=Qe):RW T R h (g.Ϫ D (.Υ ep' (nA es (T.v k) (.ξ a)))) D N (c+1) (cu Ad k (Qa a)) (cu V k x):=by
 refine S.Tr.ι λt0 zq3=>?_;obtain rfl:=zq3;refine xEEAAA S.dd λep0 es0 h1 K hc h2=>?_;rw[hD] at h1;cases h1;refine⟨⟨_,pU S.qm⟩,S.qm,⟨ep',_,kM hD,(UF (k:=k) (v:=.ξ a) K).1,Jn (UF (k:=k) (v:=.ξ a) K).2 (Zf hc),λk'=>?_⟩,λk1 k2 a' e1 e2=>?_,λk' a' e=>?_,λk' a' e=>?_,λk' e=>?_,λk'=>?_,?_⟩
 ·rw[Bb K]
  by_cases e:k=k'
  ·subst e;rw[φ rfl,jN];rfl
  ·rw[τ e,jU λq=>e q.Μ,h2]
 ·by_cases q1:k1=k<;>by_cases q2:k2=k
  ·exact q1.ν q2.Μ
  ·subst q1
   rw[jN] at e1;rw[jU q2] at e2;obtain rfl:=Qa.lf e1;exact ς e2 (hn _)
  ·subst q2
   rw[jN] at e2;rw[jU q1] at e1;obtain rfl:=Qa.lf e2;exact ς e1 (hn _)
  ·rw[jU q1] at e1;rw[jU q2] at e2
   exact S.lf _ _ _ e1 e2
 ·by_cases q1:k'=k
  ·subst q1;rw[jN] at e;cases e;exact hl
  ·rw[jU q1] at e;exact S.qo _ _ e
 ·by_cases q1:k'=k
  ·subst q1;rw[jN] at e ⊢;cases e;exact jZ (cv hD ha nofun) ha
  ·rw[jU q1] at e ⊢
   have:=S.Tq _ _ e
   exact jZ (cv hD this nofun) this
 ·by_cases q1:k'=k
  ·subst q1;rw[jN] at e;exact nomatch e
  ·rw[jU q1] at e ⊢;exact S.qj _ e
 ·by_cases q1:k'=k
  ·subst q1;rw[jN];exact hx
  ·rw[jU q1];exact S.lv k'
 ·cases ep' with
  |none=>cases he
  |some e=>
   refine S.sm.ι λe' q=>q.ι λes' q=>⟨e,_,kM hD,Pq K ?_⟩
   have:=q.1
   rw[hD] at this;cases this;exact q.2
def RW.ep{Ad:T.κ->η θ}{V:T.κ->ζ R.α}{ep:η θ}(S:RW T R h g D N c Ad V)(hD:g[D]?=Qa (.Υ ep es))(b:Ζ):(bif b then ep else ep.π (· +1)).ϟ=true:=by
 refine xEEA S.sm λe es' q _=>?_;rw[hD] at q;cases q;cases b<;>rfl
end
section
variable{T:lc}
def fS(s:ζ θ)(a b:θ)(h:MH):slice h (.Ϥ s) 3 [.Β a,.Β b]=Qa (.Ϥ (ng s (min a s.ε) (min b s.ε)),h):=by
 have e:∀n:θ,wZ s.ε (.Β n)=Qa (min n s.ε):=λn=>by
  delta wZ;simp only[ab.xz,qad];rw[MC (Γ (by omega)),KR]
 exact zgy (s:=s) (n:=3) (bs:=[.Β a,.Β b]) (p:=(min a s.ε,min b s.ε)) (by show ((wZ s.ε (.Β a)).Η λx=>(wZ s.ε (.Β b)).π λy=>(x,y))=_;rw[e,e];rfl)
def jo(u:ζ θ)(i:θ)(s:ζ θ):Ζ:=s== [] ||ng u (min i u.ε) (min (i+1) u.ε)==s
def RO{s:ζ θ}{i:θ}(hd:1<=d)(q:Q (.ϯ (jo u i s)) h):WF P0 d 129 [.Ϥ u,.Β i,.Ϥ s] h Q:=by
 refine kN (K:=0) hd (Qa (.Ϥ u)::Qa (.Β i)::Qa (.Ϥ s)::nn 6) xC rfl λd' h'=>?_;delta jo at q;exact j6 (.k (wz s [])<|.br (s== []) (λhb=>.z ((show Q (.ϯ (s== [])) h by rw[hb] at q ⊢;exact q))) (λhb=>.c<|.q (fS u i (i+1))<|.k (wz (ng u (min i u.ε) (min (i+1) u.ε)) s)<|.z ((show Q (.ϯ (ng u (min i u.ε) (min (i+1) u.ε)==s)) h by rw[hb] at q;exact q)))) rfl
def RW.pk{Ad:T.κ->η θ}{V:T.κ->ζ R.α}(S:RW T R h g D N c Ad V)(I:ao R h L M):ao R g L M:=by obtain⟨t,rfl⟩:=S.Tr;exact I.cq
def ze3(ha:h[a]?=Qa (.ο [R.e R.Κ]))(hn:n<=10000):o7 .ss (.ξ a) (.Β n) h=Qa (.ξ h.ε,h++[.ο ((kY R n).π R.e)]):=by
 refine W.eq (Au (n:=n) ha (oI (Jw hn (by decide))) (by show 1*_<=_;rw[Kg];exact oI (Jw hn (by decide))) ⟨rfl,?_⟩);rw[AQ,show J5 n (R.e R.Κ)=(kY R n).π R.e from(Xt ..).Μ]
theorem Rg.yd(R:Rg)(g:MH)(hn:n<=10000):o7 .ss (.ξ g.ε) (.Β n) (g++[.ο [R.e R.Κ]])=Qa (.ξ (g++[ae.ο [R.e R.Κ]]).ε,g++[.ο [R.e R.Κ]]++[.ο ((kY R n).π R.e)]):=ze3 ap hn
def zbu{l:ζ R.α}(x:R.α)(hr:h[a]?=Qa (.ο (l.π R.e)))(hs:s<l.ε):mQ h (.ξ a) (.Β s) (R.e x)=Qa (h.Ϫ a (.ο ((l.Ϫ s x).π R.e))):=by rw[zbv hr (by rw[Jq];exact hs),map_set']
def zlen:(kY R n).ε=n:=by unfold kY;rw[Zw]
def Hx(hd:2<=d)(I:ao R h L M)(hs:M.Ϟ<M.aa.ε)(q:Q (.ξ (h.ε+1)) (h++[.ο [R.e R.Κ],.ο (((kY R M.aa.ε).Ϫ M.Ϟ M.lw).π R.e)])):WF P0 d 128 [.ξ L.m] h Q:=by
 refine kN (K:=1) hd (Qa (.ξ L.m)::nn 7) uR rfl λd' h'=>?_;have e2:=ze3 (h:=h++[ae.ο [R.e R.Κ]]) (R:=R) (n:=M.aa.ε) ap I.bg;rw[(by rw[Jx];rfl:(h++[ae.ο [R.e R.Κ]]).ε=h.ε+1),JA] at e2;have e3:=zbu (s:=M.Ϟ) M.lw (oC (h:=h) (j:=1) (t:=[.ο [R.e R.Κ],.ο ((kY R M.aa.ε).π R.e)])) (by rw[zlen];exact hs);rw[AM] at e3;exact j6 (.v (l9 I)<|.w (R.no)<|.p (pH (h:=h++[.ο [R.e R.Κ]]) h' I.cq)<|.p (e2)<|.v (Wy (I.cq:ao R (h++([ae.ο [R.e R.Κ]]++[ae.ο ((kY R M.aa.ε).π R.e)])) L M))<|.v (u9 (I.cq:ao R (h++([ae.ο [R.e R.Κ]]++[ae.ο ((kY R M.aa.ε).π R.e)])) L M))<|.h (e3)<|.z ((q))) rfl
def Iw(z:T.κ){ep:η θ}(hD:h[D]?=Qa (.Υ ep es))(K:pD T es):mX .nu ((T.v z)) (.ξ D) h=Qa (!(jW es ((T.v z))).ϟ):=by
 refine zak ?_;show bj ((kP h (.ξ D)).Η _) ((lN h (.ξ D)).Η λd=>aw (jT d.2 ((T.v z))) (Qa (jW d.2 ((T.v z))).ϟ))=_;rw[sA hD,mT hD];show aw (jT es ((T.v z))) (Qa (jW es ((T.v z))).ϟ)=_;rw[pI K];rfl
def mL(r:ζ R.α)(s:θ)(x:R.α):ζ R.α:=r.Ϫ s (R.am (r[s]?.ϡ R.Κ) x)
abbrev Sw(T:lc)(L:Ly)(D:θ)(z:T.κ)(s:θ)(x:R.α):Ψ.Λ:=Qa (.ξ L.m)::Qa (.ξ D)::Qa ((T.v z))::Qa (.Β s)::Qa (R.e x)::nn 6
def ND{z:T.κ}{x:R.α}{ep:η θ}{l:ζ R.α}(hd:3<=d)(I:ao R g L M)(hD:g[D]?=Qa (.Υ ep es))(K:pD T es)(hk:jW es ((T.v z))=Qa (.ξ a))(hr:g[a]?=Qa (.ο (l.π R.e)))(hs:s<l.ε)(hV:∀y∈l,R.D p k y)(hx:R.D p k x)(hl:4*p+k<=3800)
  (q:F .nx (Sw T L D z s x) (g.Ϫ a (.ο ((mL l s x).π R.e)))):ck (ah P0 d) (pO.jp 1) (Sw T L D z s x) g F:=by
 exact j6 (.v (l9 I)<|.v (sd hD (pI K) hk)<|.v (sl hr (x4 (Uj hs)))<|.q (R.pl hd (hV _ (Nj hs)) hx hl)<|.v (sd hD (pI K) hk)<|.h (zbu (R.am (at' l s) x) hr hs)<|.z ((q))) rfl
section
variable{D c s p k:Nat}{z:T.κ}{Ad:T.κ->Option Nat}{V:T.κ->List R.α}{x:R.α}{ep:Option Nat}{es:List (ab×ab)}
def Ss{l:ζ R.α}(hd:4<=d)(I:ao R g L M)(hD:g[D]?=Qa (.Υ ep es))(K:pD T es)(hk:jW es ((T.v z))=Qa (.ξ a))(hr:g[a]?=Qa (.ο (l.π R.e)))(hs:s<l.ε)(hV:∀y∈l,R.D p k y)(hx:R.D p k x)(hl:4*p+k<=3800)
  (q:Q .Ε (g.Ϫ a (.ο ((mL l s x).π R.e)))):WF P0 d 126 [.ξ L.m,.ξ D,(T.v z),.Β s,R.e x] g Q:=by
 exact kN (K:=3) hd (Sw T L D z s x) pO rfl λd' h'=>SF (j6 (.b (Iw z hD K)<|.f ((show (!(jW es ((T.v z))).ϟ)=Qc by rw[hk];rfl))<|.z (nC (ND h' I hD K hk hr hs hV hx hl (F:=Ψ.Fin Q) q))) rfl)
abbrev WG(R:Rg)(g:MH)(n D:θ)(ep:η θ)(es:ζ (ab×ab))(z:T.κ):MH:=qbc (g++[ae.ο [R.e R.Κ]]++[ae.ο ((kY R n).π R.e)]) D (ae.Υ (bif (jW es ((T.v z))).ϟ then ep else ep.π (· +1)) (nA es ((T.v z)) (.ξ (g++[ae.ο [R.e R.Κ]]).ε)))
def NC(hd:4<=d)(I:ao R g L M)(hD:g[D]?=Qa (.Υ ep es))(K:pD T es)(hl':es.ε<bg)(hk:jW es ((T.v z))=Qd)(I3:ao R (WG R g M.aa.ε D ep es z) L M)(hD':(WG R g M.aa.ε D ep es z)[D]?=Qa (.Υ ep' es'))(K':pD T es')(hk':jW es' ((T.v z))=Qa (.ξ (g++[ae.ο [R.e R.Κ]]).ε))
  (hr:(WG R g M.aa.ε D ep es z)[(g++[ae.ο [R.e R.Κ]]).ε]?=Qa (.ο ((kY R M.aa.ε).π R.e))) (hs:s<M.aa.ε) (hx:R.D p k x) (hl:4*p+k<=3800)
  (q:Q .Ε ((WG R g M.aa.ε D ep es z).Ϫ (g++[ae.ο [R.e R.Κ]]).ε (.ο ((mL (kY R M.aa.ε) s x).π R.e)))):WF P0 d 126 [.ξ L.m,.ξ D,(T.v z),.Β s,R.e x] g Q:=by
 exact kN (K:=3) hd (Sw T L D z s x) pO rfl λd' h'=>SF (j6 (.b (Iw z hD K)<|.t ((show (!(jW es ((T.v z))).ϟ)=Qe by rw[hk];rfl))<|.v (l9 I)<|.w (R.no)<|.p (pH (Jn (by decide) h') (I.cq:ao R (g++[ae.ο [R.e R.Κ]]) L M))<|.p (R.yd g I.bg)<|.h (E1 (v:=.ξ (g++[ae.ο [R.e R.Κ]]).ε) (jH (t:=[ae.ο ((kY R M.aa.ε).π R.e)]) (jH (t:=[ae.ο [R.e R.Κ]]) hD)) (pI (k:=z) K) hl')<|.z (nC (ND h' I3 hD' K' hk' hr (by rw[zlen];exact hs) (λy hy=>by rw[Zl hy];exact R.af (JB _) (JB _) R.bq:∀y∈kY R M.aa.ε,R.D p k y) hx hl (F:=Ψ.Fin Q) q))) (by kernel_rfl))
theorem HG{l:ζ R.α}:(mL l s x).ε=l.ε:=Zd
def RW.fresh(S:RW T R h g D M.aa.ε c Ad V)(hA:Ad z=Qd)(hD:g[D]?=Qa (.Υ ep es)):RW T R h (WG R g M.aa.ε D ep es z) D M.aa.ε (c+1) (cu Ad z (Qa (g++[ae.ο [R.e R.Κ]]).ε)) V:=by
 have lg:h.ε<=(g++[ae.ο [R.e R.Κ]]).ε:=by obtain⟨t0,rfl⟩:=S.Tr;rw[Jx,Jx];exact Jn (Jr _ _) (Jr _ _)
 have S3:=(S.cq.cq:RW T R h (g++[ae.ο [R.e R.Κ]]++[ae.ο ((kY R M.aa.ε).π R.e)]) D M.aa.ε c Ad V).put (k:=z) (x:=kY R M.aa.ε) (jH (jH hD)) ap lg (λk' e=>ς (j4 (S.Tq k' _ e)) (by rw[Jx];exact Z9.ϥ (Jr _ _))) zlen (bif (jW es ((T.v z))).ϟ then ep else ep.π (· +1)) (S.ep hD _);have eV:cu V z (kY R M.aa.ε)=V:=by
  funext a
  by_cases e:a=z
  ·refine eqB e ?_;rw[jN];exact(S.qj _ hA).Μ
  ·exact jU e
 rw[eV] at S3;exact S3
def RW.TH(S:RW T R h g D M.aa.ε c Ad V):RW T R h g D M.aa.ε (c+1) Ad V:=by
 exact S.dd.ι λep zq8=>zq8.ι λes zq9=>⟨S.Tr,S.qm,⟨ep,es,zq9.1,zq9.2.1,Zs zq9.2.2.1,zq9.2.2.2⟩,S.lf,S.qo,S.Tq,S.qj,S.lv,S.sm⟩
end
def yx(D:θ)(g g':MH)(Ad Ad':T.κ->η θ):Prop:=∀a (o:ae),a≠D->(∀k,Ad k≠Qa a)->g[a]?=Qa o->g'[a]?=Qa o/\∀k,Ad' k≠Qa a
def add_ok{z:T.κ}{Ad:T.κ->η θ}{V:T.κ->ζ R.α}{x:R.α}(hd:4<=d)(I:ao R h L M)(S:RW T R h g D N c Ad V)(hN:N=M.aa.ε)(hc:c<100000)(hs:s<N)(hV:∀y∈V z,R.D p k y)(hx:R.D p k x)(hl:4*p+k<=3800)
  (q:∀g' Ad',RW T R h g' D N (c+1) Ad' (cu V z (mL (V z) s x))->(∀z' a',Ad z'=Qa a'->Ad' z'=Qa a')->(∀z' a',Ad' z'=Qa a'->z'=z\/Ad z'=Qa a')->yx D g g' Ad Ad'->Q .Ε g'):WF P0 d 126 [.ξ L.m,.ξ D,(T.v z),.Β s,R.e x] g Q:=by
 subst hN;refine AZ (Ad z) (λhA=>?_) λa hA=>?_
 ·refine S.dd.ι λep zq4=>zq4.ι λes zq5=>?_
  have S3:=S.fresh hA zq5.1;refine S3.dd.ι λep' zq2=>zq2.ι λes' zq3=>?_;have hr:=S3.Tq z _ jN;have e:=S.qj z hA;have S4:=S3.qg (k:=z) (x:=mL (V z) s x) jN (HG.ν (S.lv z));rw[e] at hr S4 q;exact NC hd (S.pk I) zq5.1 zq5.2.1 (Jw zq5.2.2.1 (Zv hc (by decide))) (by rw[zq5.2.2.2,hA];rfl) (S3.pk I) zq3.1 zq3.2.1 (by rw[zq3.2.2.2,jN];rfl) hr hs hx hl (q _ _ S4 (λz' a' e=>by rw[jU λq=>by rw[q,hA] at e;exact nomatch e];exact e) (λz' a' e=>by
   by_cases q:z'=z
   ·exact .wv q
   ·rw[jU q] at e;exact .IO e) λb vs h0 h1 h2=>by
    have lb:=j4 h2;have n1:¬(g++[ae.ο [R.e R.Κ]]).ε=b:=λe=>by
     rw[<-e,Jx] at lb;exact Z9.ϥ (Jr _ _) lb
    refine⟨jZ n1 (jZ (λe=>h0 e.Μ) (jH (jH h2))),λk e=>?_⟩;by_cases q:k=z
    ·rw[q,jN] at e;exact n1 (Qa.lf e)
    ·rw[jU q] at e;exact h1 k e)
 ·exact S.dd.ι λep zq6=>zq6.ι λes zq7=>Ss hd (S.pk I) zq7.1 zq7.2.1 (by rw[zq7.2.2.2,hA];rfl) (S.Tq z a hA) (by rw[S.lv];exact hs) hV hx hl (q _ Ad (S.TH.qg hA (HG.ν (S.lv z))) (λ_ _ e=>e) (λ_ _ e=>.IO e) λ_ _ _ h1 h2=>⟨jZ (λe=>h1 z (hA.ν (ω Qa e))) h2,h1⟩)
def Ua(r e:ζ R.α):R.α:=(r.zip e).foldl (λo p=>R.am o (R.ss p.1 p.2)) R.Κ
def RU(hd:4<=d)(I:ao R h L M)(q:Q (R.e R.Κ) h):WF P0 d 127 [.ξ L.m,.Ε] h Q:=by
 exact kN (K:=3) hd (Qa (.ξ L.m)::Qa .Ε::nn 9) pZ rfl λd' h'=>j6 (.v (l9 I)<|.w (R.no)<|.c2<|.q (R.nd h' R.bq (by decide))<|.z (q)) (by kernel_rfl)
abbrev zcZ(R:Rg)(L:Ly)(a:θ)(o:R.α)(z:η ab):Ψ.Λ:=Qa (.ξ L.m)::Qa (.ξ a)::Qa (.aj (112+R.i))::Qa (R.e o)::z::nn 6
abbrev zfJ:ζ Sm:=[.ft (.nm 3) (.bc (.Ο 2) LW [.Ο 3,.bc (.Ο 2) Wn [.Ix (.Ο 1) (.Ο 4),.Ix (.aq (.Ο 0) oY) (.Ο 4)]])]
def Ba{r e:ζ R.α}{i:θ}(h1:i<r.ε)(h2:i<e.ε):Ua (r.na (i+1)) (e.na (i+1))=R.am (Ua (r.na i) (e.na i)) (R.ss (at' r i) (at' e i)):=by
 delta Ua;simp only[Kn,Kn,Uj h1,Uj h2];rw[ζ.zip_append (by rw[KC,KC,KV (JN h1),KV (JN h2)]),YR];rfl
def MT{r:ζ R.α}(hd:3<=d)(I:ao R h L M)(ha:h[a]?=Qa (.ο (r.π R.e)))(hr:r.ε=M.aa.ε)(h1:∀x∈r,R.D p k x)(h2:∀x∈M.ak,R.D p' k' x)(hl:4*(p+p')+(k+k'+M.aa.ε)<=3800):∃z,exec (ah P0 d) (.fo [4] Qc (.bn (.py (.ty Gv)) [.bc (.Ο 0) qT []]) zfJ) (zcZ R L a R.Κ Qd) h=Qa ((.nx,zcZ R L a (Ua r M.ak) z),h)/\R.D (p+p') (k+k'+M.aa.ε) (Ua r M.ak):=by
 obtain⟨⟨o,z⟩,P,e⟩:=oe (c:=ah P0 d) (x:=4) (n:=M.aa.ε) (e:=.bn (.py (.ty Gv)) [.bc (.Ο 0) qT []]) (b:=zfJ) (σ:=R.α×η ab) (λs=>zcZ R L a s.1 s.2) (λ_=>h) (λi s=>s.1=Ua (r.na i) (M.ak.na i)/\R.D (p+p') (k+k'+i) s.1) (R.Κ,Qd) (Jn I.bg (by decide)) rfl
  (by exact kO (.p (pH (Jn (by decide) hd) I)<|.c<|.z (cn (.gq M.aa.ε) h)) (by kernel_rfl)) ⟨rfl,R.af (JB _) (JB _) R.bq⟩ λi s X _ hi P T=>by
   have hi1:i<r.ε:=hr.Μ▸hi;have hi2:i<M.ak.ε:=by rw[I.fg];exact hi
   have dm:=R.af (Jv _) (Jr (k+k') i) (R.fc (h1 _ (Nj hi1)) (h2 _ (Nj hi2)));exact j6 (.v (sl ha (x4 (Uj hi1)))<|.v (Wz I)<|.v (sl I.ak (x4 (Uj hi2)))<|.q (R.ti hd (h1 _ (Nj hi1)) (h2 _ (Nj hi2)) (Jn (Js (Jr _ _) _) hl))<|.q (R.pl hd P.2 dm (Jn (Js (Js (JN hi) _) _) hl))<|.z (T.nx (R.am s.1 (R.ss (at' r i) (at' M.ak i)),Qa (.Β i)) ⟨by rw[Ba hi1 hi2,P.1],R.fm P.2 dm⟩)) rfl
 obtain⟨q,D⟩:o=Ua (r.na M.aa.ε) (M.ak.na M.aa.ε)/\R.D (p+p') (k+k'+M.aa.ε) o:=P;subst q;rw[show r.na M.aa.ε=r by rw[<-hr,Zj],show M.ak.na M.aa.ε=M.ak by rw[<-I.fg,Zj]] at D e;exact⟨z,e,D⟩
def W5{r:ζ R.α}(hd:4<=d)(I:ao R h L M)(ha:h[a]?=Qa (.ο (r.π R.e)))(hr:r.ε=M.aa.ε)(h1:∀x∈r,R.D p k x)(h2:∀x∈M.ak,R.D p' k' x)(hl:4*(p+p')+(k+k'+M.aa.ε)<=3800)(q:Q (R.e (Ua r M.ak)) h):WF P0 d 127 [.ξ L.m,.ξ a] h Q:=by
 exact kN (K:=3) hd (Qa (.ξ L.m)::Qa (.ξ a)::nn 9) pZ rfl λd' h'=>(MT h' I ha hr h1 h2 hl).ι λz zq1=>j6 (.v (l9 I)<|.w (R.no)<|.c2<|.s (zq1.1)<|.q (R.nd h' zq1.2 hl)<|.z (q)) rfl
end
section
def Rg.ut(a:R.α):R.am a R.Κ=a:=by rw[R.wE];exact R.Χ a
def Rg.xL(a:R.α):R.ss a R.Κ=R.Κ:=by rw[R.Tb];exact R.w9 a
def Rg.add_mul(a b c:R.α):R.ss (R.am a b) c=R.am (R.ss a c) (R.ss b c):=by rw[R.Tb,R.Sc,R.Tb c a,R.Tb c b]
def Rg.swap(a b c:R.α):R.am a (R.am b c)=R.am b (R.am a c):=by rw[<-R.Ϣ,R.wE a b,R.Ϣ]
def nK(l:ζ R.α):R.α:=l.foldr R.am R.Κ
theorem jS{a:R.α}{l:ζ R.α}:nK (a::l)=R.am a (nK l):=rfl
theorem lW{F G:β->R.α}{l:ζ β}(h:∀x∈l,F x=G x):nK (l.π F)=nK (l.π G):=ω nK (Ke h)
def AB{F G:β->R.α}{y:R.α}{c:β}:∀{l:ζ β},l.Ω->c∈l->(∀x∈l,x≠c->F x=G x)->F c=R.am y (G c)->nK (l.π F)=R.am y (nK (l.π G)):=by
 intro l
 induction l with
 |Ϝ=>exact λ_ h=>ς h Jz
 |Ι x l ih=>
  intro nd hc he hy;have nd:=JH.mp nd;simp only[JU,JU,jS,jS];rcases JM.mp hc with rfl|hc
  ·simp only[hy,lW λz hz=>he z (.pc _ hz) λe=>nd.1 (e▸hz),R.Ϣ]
  ·simp only[ih nd.2 hc (λz hz=>he z (.pc _ hz)) hy,he x (.mo _) λe=>nd.1 (e▸hc),R.swap]
def jX:ζ R.α->(θ->R.α)->θ->R.α
 | [],_,_=>R.Κ
 |x::r,b,o=>R.am (R.ss x (b o)) (jX r b (o+1))
def l0{b:θ->R.α}:∀{o:θ},jX (kY R n) b o=R.Κ:=by
 delta kY
 induction n with
 |zero=>intro o;rfl
 |succ n ih=>
  intro o;show R.am (R.ss R.Κ (b o)) (jX (J5 n R.Κ) b (o+1))=_;rw[ih,R.w9,R.Χ]
def UM{b:θ->R.α}{x:R.α}:∀{r:ζ R.α}{s o:θ},s<r.ε->jX (mL r s x) b o=R.am (R.ss x (b (o+s))) (jX r b o):=by
 intro r
 induction r with
 |Ϝ=>exact λh=>ς h (J9 _)
 |Ι y r ih=>
  intro s o hs;cases s with
  |zero=>
   show R.am (R.ss (R.am y x) (b o)) (jX r b (o+1))=R.am (R.ss x (b o)) (R.am (R.ss y (b o)) (jX r b (o+1)));rw[R.add_mul,R.Ϣ,R.swap]
  |succ s=>
   have:=ih (s:=s) (o:=o+1) (Ka hs)
   show R.am (R.ss y (b o)) (jX (mL r s x) b (o+1))=R.am (R.ss x (b (o+(s+1)))) (R.am (R.ss y (b o)) (jX r b (o+1)));rw[this,R.swap,show o+1+s=o+(s+1) by lia]
def x7{r:ζ R.α}{b:θ->R.α}(hs:s<r.ε):jX (r.jp s) b s=R.am (R.ss r[s] (b s)) (jX (r.jp (s+1)) b (s+1)):=by
 rw[ZK hs];rfl
def F5{l:ζ (R.α×R.α)}{a b:R.α}:l.foldl (λo p=>R.am o (R.ss p.1 p.2)) (R.am a b)=R.am a (l.foldl (λo p=>R.am o (R.ss p.1 p.2)) b):=by
 induction l generalizing b with
 |Ϝ=>rfl
 |Ι p l ih=>rw(occs:=.Hd) [K7,K7,R.Ϣ,ih]
def En{r e:ζ R.α}{o:θ}{b:θ->R.α}(hl:r.ε=e.ε)(hb:∀(s:θ) x,e[s]?=Qa x->b (o+s)=x):Ua r e=jX r b o:=by
 delta Ua
 induction r generalizing e o with
 |Ϝ=>rfl
 |Ι x r ih=>
  cases e with
  |Ϝ=>exact θ.Ok hl
  |Ι y e=>
   simp only[Yk,K7];show (r.zip e).foldl _ (R.am R.Κ (R.ss x y))=R.am (R.ss x (b o)) (jX r b (o+1));simp only[R.wE R.Κ,F5,ih (o:=o+1) (Z6.lf hl) λs z hz=>by rw[Yz];exact hb (s+1) z hz,show b o=y from hb 0 y rfl]
def cells(n m:θ):ζ (θ×θ):=(JX (n+1)).flatMap λi=>(JX (m+1)).π λj=>(i,j)
def tR{i j:θ}:(i,j)∈cells n m ↔ i<=n/\j<=m:=by
 delta cells;simp only[ζ.Op,ZA,JL,qaT.injEq]
 constructor
 ·rintro ⟨a,ha,b,hb,rfl,rfl⟩;exact⟨JY ha,JY hb⟩
 ·rintro ⟨h1,h2⟩;exact⟨i,JO h1,j,JO h2,rfl,rfl⟩
def LU:(cells n m).Ω:=by
 delta cells;refine ζ.pairwise_flatMap.ϥ ⟨λi _=>?_,ζ.Pairwise.imp ?_ (Yh (n:=n+1))⟩
 ·exact ζ.pairwise_map.ϥ (ζ.Pairwise.imp (λhab e=>hab (qaT.lf e).2) (Yh (n:=m+1)))
 ·intro a b hab x hx y hy e
  obtain⟨j,_,rfl⟩:=JL.mp hx;obtain⟨j',_,rfl⟩:=JL.mp hy;exact hab (qaT.lf e).1
def done(i j:θ)(c:θ×θ):Prop:=c.1<i\/(c.1=i/\c.2<j)
section
variable{T:lc}{cs:List T.κ}{dn dn':T.κ->Prop}{B:T.κ->Nat->R.α}{V:T.κ->List R.α}
def rO(cs:ζ T.κ)(dn:T.κ->Prop)(B:T.κ->θ->R.α)(V:T.κ->ζ R.α):R.α:=nK (cs.π λc=> @ite _ (dn c) (LE.propDecidable _) R.Κ (jX (V c) (B c) 0))
def FA(e:∀c∈cs,dn c ↔ dn' c):rO cs dn B V=rO cs dn' B V:=by
 refine lW λc hc=>?_;by_cases h:dn c
 ·rw[φ h,φ ((e c hc).mp h)]
 ·rw[τ h,τ λq=>h ((e c hc).ϥ q)]
def Ux{k:T.κ}(nd:cs.Ω)(hk:k∈cs)(h0:¬dn k)(h1:∀c,dn' c ↔ dn c\/c=k):rO cs dn B V=R.am (jX (V k) (B k) 0) (rO cs dn' B V):=by
 refine AB (c:=k) nd hk (λc _ hc=>?_) ?_
 ·by_cases h:dn c
  ·rw[φ h,φ ((h1 c).ϥ (.wv h))]
  ·rw[τ h,τ λq=>((h1 c).mp q).ι h hc]
 ·rw[τ h0,φ ((h1 k).ϥ (.IO rfl)),R.ut]
def xP{k:T.κ}{x:R.α}(nd:cs.Ω)(hk:k∈cs)(hn:¬dn k)(hs:s<(V k).ε):rO cs dn B (cu V k (mL (V k) s x))=R.am (R.ss x (B k s)) (rO cs dn B V):=by
 refine AB (c:=k) nd hk (λc _ hc=>?_) ?_
 ·by_cases h:dn c
  ·rw[φ h,φ h]
  ·rw[τ h,τ h,jU hc]
 ·rw[τ hn,τ hn,jN,UM hs,Zq]
def Uy{k:T.κ}{r:ζ R.α}(hn:dn k):rO cs dn B (cu V k r)=rO cs dn B V:=by
 refine lW λc _=>?_;by_cases h:dn c
 ·rw[φ h,φ h]
 ·rw[τ h,τ h,jU λq:c=k=>h (by rw[q];exact hn)]
def z0(l:ζ β):nK (l.π λ_=>R.Κ)=R.Κ:=by
 induction l with
 |Ϝ=>rfl
 |Ι x l ih=>rw[JU,jS,ih,R.Χ]
def tL(h:∀c∈cs,¬dn c->jX (V c) (B c) 0=R.Κ):rO cs dn B V=R.Κ:=by
 refine(lW λc hc=>?_).ν (z0 cs);by_cases hd:dn c
 ·exact(φ hd)
 ·rw[τ hd,h c hc hd]
end
def mw(n m:θ)(B:θ->θ->θ->R.α)(i j:θ)(V:θ×θ->ζ R.α):R.α:=rO (T:=lG) (cells n m) (done i j) (λc=>B c.1 c.2) V
variable{n m:Nat}{B:Nat->Nat->Nat->R.α}{V:Nat×Nat->List R.α}
theorem Ib{i j:θ}(hi:i<=n)(hj:j<=m):mw n m B i j V=R.am (jX (V (i,j)) (B i j) 0) (mw n m B i (j+1) V):=
 Ux (T:=lG) (k:=(i,j)) (B:=λc=>B c.1 c.2) LU (tR.ϥ ⟨hi,hj⟩) (by unfold done;simp) λc=>by
  delta done
  constructor
  ·rintro (h|h)
   ·exact .wv (.wv h)
   ·exact(Yl (JY h.2)).ι (λe=>.wv (.IO ⟨h.1,e⟩)) λe=>.IO (qbr h.1 e)
  ·rintro ((h|h)|rfl)
   ·exact .wv h
   ·exact .IO ⟨h.1,ZJ h.2⟩
   ·exact .IO ⟨rfl,JR _⟩
def Gq{i:θ}:mw n m B i (m+1) V=mw n m B (i+1) 0 V:=by
 refine FA (T:=lG) λc hc=>?_
 have:=tR.mp hc
 exact⟨λq=>.wv (q.ι ZJ λq=>JO (JF q.1)),λq=>q.ι (λq=>(Yl (JY q)).imp id λe=>⟨e,JO this.2⟩) λq=>ς q.2 (J9 _)⟩
theorem LO{i j b:θ}{x:R.α}(ha:a<=n)(hb:b<=m)(hn:¬done i j (a,b))(hs:s<(V (a,b)).ε):mw n m B i j (cu (T:=lG) V (a,b) (mL (V (a,b)) s x))=R.am (R.ss x (B a b s)) (mw n m B i j V):=
 xP (T:=lG) (k:=(a,b)) (B:=λc=>B c.1 c.2) LU (tR.ϥ ⟨ha,hb⟩) hn hs
theorem Ic{i j b:θ}{r:ζ R.α}(hn:done i j (a,b)):mw n m B i j (cu (T:=lG) V (a,b) r)=mw n m B i j V:=Uy (T:=lG) (k:=(a,b)) hn
theorem C9{i j:θ}(h:∀a b,V (a,b)=kY R N):mw n m B i j V=R.Κ:=tL (T:=lG) λc _ _=>by rw[h,l0]
theorem AU:mw n m B (n+1) 0 V=R.Κ:=tL (T:=lG) λc hc hd=>ς (.wv (JO (tR.mp hc).1)) hd
end
section
variable{h0:MH}
def dj(u l:ζ θ)(i j:θ)(a:Ar R.α):Ζ:=!a.di && (jo u i a.up && jo l j a.lo)
def tB(B:θ->θ->θ->R.α)(u l:ζ θ)(i j:θ)(xs:ζ (Ar R.α)):R.α:=nK (xs.π λa=>bif dj u l i j a then R.ss a.w (B (i+a.up.ε) (j+a.lo.ε) a.t) else R.Κ)
def rD(M:Mc R.α)(B:θ->θ->θ->R.α)(u l:ζ θ)(i j s:θ):R.α:=R.am (if i=u.ε/\j=l.ε then dh M s else R.Κ) (tB B u l i j (ax M s))
theorem xX{s:ζ θ}{i:θ}(hs:dp s)(h:jo u i s=Qe):i<=u.ε->i+s.ε<=u.ε/\s.ε<=1:=λhi=>by
 rcases hs with rfl| ⟨c,rfl,_⟩
 ·exact⟨by simpa using hi,by decide⟩
 ·refine⟨?_,Jv _⟩
  by_cases he:i=u.ε
  ·subst he
   delta jo at h;rw[KV (Jv _),YZ (Zp _)] at h;delta ng at h;rw[Zj,ZS] at h;exact JK h
  ·exact Zc (ZX hi he)
def wW{a:Ar R.α}(h:a.di=Qc):0<a.up.ε+a.lo.ε:=by
 delta Ar.di at h;obtain⟨up,lo,w,t⟩:=a;cases up with
 |Ι _ _=>show 0<_+1+_;exact qaY _ (Zr _)
 |Ϝ=>
  cases lo with
  |Ι _ _=>show 0<_+(_+1);exact θ.lt_add_left _ (Zr _)
  |Ϝ=>exact JK h
def Be(R:Rg)(i j c p k:θ)(V:θ×θ->ζ R.α):Prop:=∀a b,¬done i j (a,b)->∀x∈V (a,b),R.D (p*(a+b+1)) (k*(a+b+1)+c) x
theorem Hc{r:ζ R.α}{x y:R.α}(hy:y∈mL r s x):y∈r\/y=R.am (r[s]?.ϡ R.Κ) x:=Z8 hy
def Bn{B:θ->θ->θ->R.α}{l:ζ θ}{i j q:θ}{a:Ar R.α}(ha:xs[q]?=Qa a):tB B u l i j (xs.jp q)=R.am (bif dj u l i j a then R.ss a.w (B (i+a.up.ε) (j+a.lo.ε) a.t) else R.Κ) (tB B u l i j (xs.jp (q+1))):=by
 refine(Jy.mp ha).ι λhq zq6=>?_;refine eqE zq6 ?_;simp only[ZK hq];rfl
abbrev CS(R:Rg):=MH×(θ×θ->η θ)×(θ×θ->ζ R.α)×θ×η ab×η ab×η ab×η ab×η ab×η ab
section
variable{R:Rg}(ψ:CS R)
abbrev CS.g:=ψ.1
abbrev CS.Ad:=ψ.2.1
abbrev CS.V:=ψ.2.2.1
abbrev CS.c:=ψ.2.2.2.1
abbrev CS.a:=ψ.2.2.2.2.1
abbrev CS.b:=ψ.2.2.2.2.2.1
abbrev CS.d:=ψ.2.2.2.2.2.2.1
abbrev CS.e:=ψ.2.2.2.2.2.2.2.1
abbrev CS.f:=ψ.2.2.2.2.2.2.2.2.1
abbrev CS.k:=ψ.2.2.2.2.2.2.2.2.2
end
abbrev WX(R:Rg):=MH×Ly×Mc R.α×ζ θ×ζ θ×θ×ab×θ×θ×θ×θ×θ×θ×(θ->θ->θ->R.α)×R.α
section
variable{R:Rg}(ψ:WX R)
abbrev WX.h:=ψ.1
abbrev WX.L:=ψ.2.1
abbrev WX.M:=ψ.2.2.1
abbrev WX.u:=ψ.2.2.2.1
abbrev WX.l:=ψ.2.2.2.2.1
abbrev WX.D:=ψ.2.2.2.2.2.1
abbrev WX.ov:=ψ.2.2.2.2.2.2.1
abbrev WX.p:=ψ.2.2.2.2.2.2.2.1
abbrev WX.k:=ψ.2.2.2.2.2.2.2.2.1
abbrev WX.p1:=ψ.2.2.2.2.2.2.2.2.2.1
abbrev WX.k1:=ψ.2.2.2.2.2.2.2.2.2.2.1
abbrev WX.pS:=ψ.2.2.2.2.2.2.2.2.2.2.2.1
abbrev WX.kS:=ψ.2.2.2.2.2.2.2.2.2.2.2.2.1
abbrev WX.B:=ψ.2.2.2.2.2.2.2.2.2.2.2.2.2.1
abbrev WX.W:=ψ.2.2.2.2.2.2.2.2.2.2.2.2.2.2
end
def mq(X:WX R):Prop:=ao R X.h X.L X.M/\kQ X.M X.p1 X.k1/\X.p1+X.pS<=X.p/\X.k1+X.kS<=X.k/\1+(X.u.ε+1)*(X.l.ε+1)*(X.M.bb+1)<100000/\4*(X.p*(X.u.ε+X.l.ε+2))+(X.k*(X.u.ε+X.l.ε+2)+(1+(X.u.ε+1)*(X.l.ε+1)*(X.M.bb+1)+X.M.aa.ε))<=3800
section
variable{X:WX R}(ψ:mq X)
def mq.I:=@ψ.1
def mq.G:=@ψ.2.1
def mq.pp:=@ψ.2.2.1
def mq.kk:=@ψ.2.2.2.1
def mq.cl:=@ψ.2.2.2.2.1
def mq.bd:=@ψ.2.2.2.2.2
end
def gp(X:WX R)(a b d e f k:η ab):Ψ.Λ:=Qa (.ξ X.L.m)::Qa (.Ϥ X.u)::Qa (.Ϥ X.l)::Qa (.aj (112+R.i))::Qa X.ov::Qa (.ξ X.D)::a::b::d::e::f::k::nn 6
abbrev vN(n:θ):η ab:=Qa (.Β n)
abbrev vR(n:θ):η ab:=Qa (.ξ n)
def yT(X:WX R)(i j aR c0:θ)(row:ζ R.α)(F:R.α):Prop:=mq X/\i<=X.u.ε/\j<=X.l.ε/\c0+X.M.bb<=1+(X.u.ε+1)*(X.l.ε+1)*(X.M.bb+1)/\row.ε=X.M.aa.ε/\∀x∈row,R.D (X.p*(i+j+1)+X.pS) (X.k*(i+j+1)+X.kS+c0) x
section
variable{X:WX R}{i j aR c0:Nat}{row:List R.α}{F:R.α}(ψ:yT X i j aR c0 row F)
def yT.O:=@ψ.1
def yT.hi:=@ψ.2.1
def yT.hj:=@ψ.2.2.1
def yT.cc:=@ψ.2.2.2.1
def yT.lv:=@ψ.2.2.2.2.1
def yT.dg:=@ψ.2.2.2.2.2
end
def CP(X:WX R)(i j aR c0:θ)(row:ζ R.α)(n:θ)(e:R.α)(s:CS R):Prop:=RW lG R X.h s.g X.D X.M.aa.ε s.c s.Ad s.V/\c0<=s.c/\s.c<=c0+n/\Be R i (j+1) s.c X.p X.k s.V/\s.V (i,j)=row/\s.Ad (i,j)=Qa aR/\R.am (mw X.u.ε X.l.ε X.B i (j+1) s.V) e=X.W
section
variable{X:WX R}{i j aR c0:Nat}{row:List R.α}{n:Nat}{e:R.α}{s:CS R}(ψ:CP X i j aR c0 row n e s)
def CP.rw':=@ψ.1
def CP.lo:=@ψ.2.1
def CP.hi:=@ψ.2.2.1
def CP.dg:=@ψ.2.2.2.1
def CP.vr:=@ψ.2.2.2.2.1
def CP.ad:=@ψ.2.2.2.2.2.1
def CP.w:=@ψ.2.2.2.2.2.2
end
variable{X:WX R}{i j aR c0:Nat}{row:List R.α}{F:R.α}{Rr R':Fl->Internal.Frame->MH->Prop}
def RW.up{Ad:θ×θ->η θ}{V:θ×θ->ζ R.α}(S:RW lG R h g D N c Ad V)(e:h[a]?=Qa o):g[a]?=Qa o:=by obtain⟨t,rfl⟩:=S.Tr;exact jH e
theorem oQ{b:θ}(h:a<=b):p*a<=p*b:=JI _ h
def zjb(X:WX R)(y c0 c x:θ):Prop:=X.p*(y+1)+X.pS+X.p1<=X.p*(x+1)/\X.k*(y+1)+X.kS+c0+X.k1<=X.k*(x+1)+c/\4*(X.p*(x+1))+(X.k*(x+1)+c)<=3800/\4*(X.p*(y+1)+X.pS+X.p1)+(X.k*(y+1)+X.kS+c0+X.k1)<=3800
section
variable{X:WX R}{y c0 c x:Nat}(ψ:zjb X y c0 c x)
def zjb.p1:=@ψ.1
def zjb.k1:=@ψ.2.1
def zjb.b:=@ψ.2.2.1
def zjb.t:=@ψ.2.2.2
end
theorem cQ(a b c d:θ):a+b+c+d=a+(d+b)+c:=(ZF _ _ _).ν (ω (· +c) ((J8 _ _ _).ν (ω (a+ ·) (ZW _ _))))
def OG(O:mq X){y:θ}(h1:x<=X.u.ε+X.l.ε)(hx:y<x)(h0:c0<=c)(hc:c<=1+(X.u.ε+1)*(X.l.ε+1)*(X.M.bb+1)):zjb X y c0 c x:=by
 have e:∀{p:θ},p*(y+1)+p<=p*(x+1):=λ{p} =>by rw[<-Kz];exact oQ (Zf hx)
 have f:∀{p:θ},p*(x+1)<=p*(X.u.ε+X.l.ε+2):=λ{p} =>oQ (Zf (Zs h1));have p1:X.p*(y+1)+X.pS+X.p1<=X.p*(x+1):=Jn (by rw[J8,ZW X.pS];exact Js O.pp _) e;have k1:X.k*(y+1)+X.kS+c0+X.k1<=X.k*(x+1)+c:=by
  rw[cQ];exact JJ (Jn (Js O.kk _) e) h0
 have b:4*(X.p*(x+1))+(X.k*(x+1)+c)<=3800:=Jn (JJ (oQ f) (JJ f (Jn hc (Jr _ _)))) O.bd;exact⟨p1,k1,b,Jn (JJ (oQ p1) k1) b⟩
abbrev Sq:ζ Sm:=[.ite (.qa Qe [.bc (.Ο 10) 7598521885536580729 [],.not (.bn (.py (.aj 129)) [.Ο 1,.Ο 6,.aq (.Ο 10) 504397587826]),.not (.bn (.py (.aj 129)) [.Ο 2,.Ο 7,.aq (.Ο 10) 465726563698])]) [.cont] [],.ft (.nm 11) (.ay [.fq .am (.Ο 6) (.bn (.py (.bi 7103854)) [.aq (.Ο 10) 504397587826]),.fq .am (.Ο 7) (.bn (.py (.bi 7103854)) [.aq (.Ο 10) 465726563698])]),.expr (.bn (.py (.aj 126)) [.Ο 0,.Ο 5,.Ο 11,.aq (.Ο 10) 127961880028532,.bc (.Ο 3) pd [.Ix (.Ο 8) (.Ο 9),.aq (.Ο 10) 131277443786868]])]
def CP.put{e e' x:R.α}{s:CS R}{b t:θ}(C:yT X i j aR c0 row F)(P:CP X i j aR c0 row n e s)(ha:a<=X.u.ε)(hb:b<=X.l.ε)(ht:t<X.M.aa.ε)(hn:¬done i (j+1) (a,b))(hD:R.D (X.p*(a+b+1)) (X.k*(a+b+1)+s.c) x)
  (S':RW lG R X.h g' X.D X.M.aa.ε (s.c+1) Ad' (cu (T:=lG) s.V (a,b) (mL (s.V (a,b)) t x))) (hk:∀z' a',s.Ad z'=Qa a'->Ad' z'=Qa a') (he:e=R.am (R.ss x (X.B a b t)) e') (z y:η ab):CP X i j aR c0 row (n+1) e' ⟨g',Ad',cu (T:=lG) s.V (a,b) (mL (s.V (a,b)) t x),s.c+1,Qd,Qd,Qd,Qd,z,y⟩:=by
 have hl:t<(s.V (a,b)).ε:=by rw[P.rw'.lv];exact ht
 refine⟨S',Zs P.lo,Zf P.hi,λa' b' hn' y hy=>?_,?_,hk _ _ P.ad,?_⟩
 ·have hy:y∈cu (T:=lG) s.V (a,b) (mL (s.V (a,b)) t x) (a',b'):=hy
  show R.D (X.p*(a'+b'+1)) (X.k*(a'+b'+1)+(s.c+1)) y;by_cases q:(a',b')=(a,b)
  ·cases q
   rw[jN] at hy;rcases Hc hy with hy|rfl
   ·exact R.af (Jv _) (Zp _) (P.dg _ _ hn' y hy)
   ·rw[Jp hl]
    exact R.fm (P.dg _ _ hn' _ (Zt hl)) hD
  ·rw[jU q] at hy
   exact R.af (Jv _) (Zp _) (P.dg a' b' hn' y hy)
 ·show cu (T:=lG) s.V (a,b) (mL (s.V (a,b)) t x) (i,j)=row
  rw[jU λq:(i,j)=(a,b)=>hn (by refine eqE q ?_;exact .IO ⟨rfl,JR _⟩)];exact P.vr
 ·rw[LO ha hb hn hl,<-P.w,he,<-R.Ϣ,R.wE (R.ss _ _)]
theorem MK(hd:1<=d)(u:ζ θ)(i:θ)(s:ζ θ)(h:MH):jO (ah P0 d) (.aj 129) [.Ϥ u,.Β i,.Ϥ s] h=Qa (.ϯ (jo u i s),h):=fn rfl (RO hd ⟨rfl,rfl⟩)
def zdq{i j:θ}{Ad:θ×θ->η θ}{V:θ×θ->ζ R.α}{x:R.α}(hd:4<=d)(I:ao R h L M)(S:RW lG R h g D N c Ad V)(hN:N=M.aa.ε)(hc:c<100000)(hs:s<N)(hV:∀y∈V (i,j),R.D p k y)(hx:R.D p k x)(hl:4*p+k<=3800):
  ∃g' Ad',jO (ah P0 d) (.aj 126) [.ξ L.m,.ξ D,GA i j,.Β s,R.e x] g=Qa (.Ε,g')/\RW lG R h g' D N (c+1) Ad' (cu (T:=lG) V (i,j) (mL (V (i,j)) s x))/\∀z' a',Ad z'=Qa a'->Ad' z'=Qa a':=by
 refine(W.Mi (mM (P:=P0) rfl (add_ok (Q:=λv g'=>v=.Ε/\∃Ad',RW lG R h g' D N (c+1) Ad' (cu (T:=lG) V (i,j) (mL (V (i,j)) s x))/\∀z' a',Ad z'=Qa a'->Ad' z'=Qa a') hd I S hN hc hs hV hx hl λg' Ad' S' hk _ _=>⟨rfl,Ad',S',hk⟩))).ι λv zq3=>zq3.ι λg' zq4=>?_;refine eqE zq4.2.1 ?_;exact zq4.2.2.ι λAd' zq5=>⟨g',Ad',zq4.1,zq5⟩
def Ol{b:θ}{E y T e0 e1:R.α}{a:Ar R.α}{st:CS R}{z:η ab}(hd:5<=d)(C:yT X i j aR c0 row F)(hs:row[s]?=Qa y)(hn:n<X.M.bb)(hB:X.h[b]?=Qa (mW R a))(gt:a.t<X.M.aa.ε)(g2:dp a.up)(g3:dp a.lo)(g4:R.D X.p1 X.k1 a.w)
  (P:CP X i j aR c0 row n e0 st) (h0:e0=R.am (R.ss y (R.am (bif dj X.u X.l i j a then R.ss a.w (X.B (i+a.up.ε) (j+a.lo.ε) a.t) else R.Κ) T)) E) (h1:e1=R.am (R.ss y T) E)
  (q1:∀s',CP X i j aR c0 row (n+1) e1 s'->R' .nx (gp X (vN i) (vN j) (vR aR) (vN s) s'.f s'.k) s'.g) (q2:∀s',CP X i j aR c0 row (n+1) e1 s'->R' .ct (gp X (vN i) (vN j) (vR aR) (vN s) s'.f s'.k) s'.g):
  ck (ah P0 d) Sq (gp X (vN i) (vN j) (vR aR) (vN s) (vR b) z) st.g R':=by
 have S:=P.rw';have hB:=S.up hB;have d1:1<=d:=Jn (by decide) hd;have fy:dj X.u X.l i j a=Qc->R' .ct (gp X (vN i) (vN j) (vR aR) (vN s) (vR b) z) st.g:=λhh=>by
  rw[hh,bm,R.Χ,<-h1] at h0;exact q2 ⟨st.1,st.2.1,st.2.2.1,st.2.2.2.1,st.2.2.2.2.1,st.2.2.2.2.2.1,st.2.2.2.2.2.2.1,st.2.2.2.2.2.2.2.1,vR b,z⟩ ⟨S,P.lo,Zs P.hi,P.dg,P.vr,P.ad,h0▸P.w⟩
 refine vL a.di (λhe=>?_) λhe=>?_
 ·exact j6 (.p (WD d1 hB)<|.t (he)<|.t (he)<|.z (fy (by unfold dj;rw[he];rfl))) rfl
 ·refine vL (jo X.u i a.up) (λhu=>?_) λhu=>?_
  ·refine vL (jo X.l j a.lo) (λhlo=>?_) λhlo=>?_
   ·have hh:dj X.u X.l i j a=true:=by unfold dj;rw[he,hu,hlo];rfl
    rw[hh,pi,R.Sc,R.Ϣ,<-h1,<-R.Id] at h0;have f1:=(xX g2 hu C.hi).1;have f3:=(xX g3 hlo C.hj).1;have nds:¬done i (j+1) (i+a.up.ε,j+a.lo.ε):=λq=>q.ι (ZH (Jr _ _)) λq=>Zb 0 (YH (wW he) (congr (ω _ (qaz (q.1:i+a.up.ε=i+0))) (qah (JY (θ.lt_of_add_lt_add_left q.2)))));have hc:st.c<c0+X.M.bb:=Jw P.hi (ZL hn _);have T1:=OG C.O (y:=i+j) (c0:=c0) (c:=st.c) (x:=i+a.up.ε+(j+a.lo.ε)) (JJ f1 f3) (YH (ZP (wW he)) (Xi i j a.up.ε a.lo.ε)) P.lo (Jn (JN hc) C.cc);have hxd:=C.dg y (Jt hs);have hRa:=S.Tq (i,j) aR P.ad;rw[P.vr] at hRa;refine(zdq (d:=d) (i:=i+a.up.ε) (j:=j+a.lo.ε) (s:=a.t) (x:=R.ss y a.w) (Jn (by decide) hd) C.O.I S rfl (Ju hc (Jn C.cc (JN C.O.cl))) gt (P.dg _ _ nds) (R.af T1.p1 T1.k1 (R.fc hxd g4)) T1.b).ι λg' zq1=>zq1.ι λAd' zq2=>?_;exact j6 (.p (WD d1 hB)<|.f (he)<|.v (qv hB)<|.q (MK d1 X.u i a.up)<|.c<|.f (nT hu)<|.v (rp hB)<|.q (MK d1 X.l j a.lo)<|.c<|.f (nT hlo)<|.v (qv hB)<|.c2<|.v (rp hB)<|.c2<|.v (ro hB)<|.v (sl hRa (x4 hs))<|.v (yk hB)<|.q (R.ti (Jn (by decide) hd) hxd g4 T1.t)<|.p (zq2.1)<|.z (q1 _ (P.put C f1 f3 gt nds (R.af T1.p1 T1.k1 (R.fc hxd g4)) zq2.2.1 zq2.2.2 h0 (vR b) (Qa (GA (i+a.up.ε) (j+a.lo.ε)))))) (by kernel_rfl)
   ·exact j6 (.p (WD d1 hB)<|.f (he)<|.v (qv hB)<|.q (MK d1 X.u i a.up)<|.c<|.f (nT hu)<|.v (rp hB)<|.q (MK d1 X.l j a.lo)<|.c<|.t (nF hlo)<|.z (fy (by unfold dj;rw[hlo,Xz,Xz]))) rfl
  ·exact j6 (.p (WD d1 hB)<|.f (he)<|.v (qv hB)<|.q (MK d1 X.u i a.up)<|.c<|.t (nF hu)<|.t (nF hu)<|.z (fy (by unfold dj;rw[hu,qbd,Xz]))) rfl
end
section
variable{h0:MH}{X:WX R}{i j:Nat}{row:List R.α}{F:R.α}
def LS(M:Mc R.α):Prop:=(M.aa.any λr=>r.any Ar.di)=Qc
def rB{r:ζ R.α}{b b':θ->R.α}{o:θ}(h:∀s,o<=s->s<o+r.ε->b s=b' s):jX r b o=jX r b' o:=by
 induction r generalizing o with
 |Ϝ=>rfl
 |Ι x r ih=>
  show R.am (R.ss x (b o)) (jX r b (o+1))=R.am (R.ss x (b' o)) (jX r b' (o+1));rw[h o (Jv _) (by rw[J0];exact ZP (Zr _)),ih λs h1 h2=>h s (JN (KI h1)) (by rw[J0];lia)]
def HD{r:ζ R.α}{b b':θ->R.α}{o:θ}:jX r (λs=>R.am (b s) (b' s)) o=R.am (jX r b o) (jX r b' o):=by
 induction r generalizing o with
 |Ϝ=>exact(R.Χ _).Μ
 |Ι x r ih=>
  show R.am (R.ss x (R.am (b o) (b' o))) (jX r _ (o+1))=R.am (R.am (R.ss x (b o)) (jX r b (o+1))) (R.am (R.ss x (b' o)) (jX r b' (o+1)));simp only[ih,R.Sc,R.Ϣ,R.Ϣ]
  congr 1
  rw[R.swap]
def x6{r:ζ R.α}{o:θ}:jX r (λ_=>R.Κ) o=R.Κ:=by
 induction r generalizing o with
 |Ϝ=>rfl
 |Ι x r ih=>
  show R.am (R.ss x R.Κ) (jX r _ (o+1))=_;rw[ih,R.xL,R.Χ]
abbrev xk:ζ Sm:=[.ite (.gm .eq (.Ix (.Ο 8) (.Ο 9)) (.aq (.Ο 3) oi)) [.cont] [],.fo [10] Qc (.Ix (.aq (.Ο 0) 1634886515) (.Ο 9)) Sq]
abbrev NG(X:WX R)(i j:θ):θ->R.α:=λs=>tB X.B X.u X.l i j (ax X.M s)
def zdR{n0 r:θ}{y E e0:R.α}{st:CS R}(hd:5<=d)(C:yT X i j aR c0 row F)(hs:row[s]?=Qa y)(hm:xs∈X.M.aa)(hr:(X.L.az.π ab.ξ)[s]?=Qa (.ξ r))(H:By R X.h r as xs)(hn:n0+xs.ε<=X.M.bb)(P:CP X i j aR c0 row n0 e0 st)(h0:e0=R.am (R.ss y (tB X.B X.u X.l i j xs)) E):
  ∃s',CP X i j aR c0 row (n0+xs.ε) E s'/\exec (ah P0 d) (.fo [10] Qc (.Ix (.aq (.Ο 0) kT) (.Ο 9)) Sq) (gp X (vN i) (vN j) (vR aR) (vN s) st.f st.k) st.g=Qa ((.nx,gp X (vN i) (vN j) (vR aR) (vN s) s'.f s'.k),s'.g):=by
 subst h0;obtain⟨s',P',e⟩:=pv (c:=ah P0 d) (tg:=[10]) (many:=Qc) (a:=r) (e:=.Ix (.aq (.Ο 0) kT) (.Ο 9)) (b:=Sq) (vs:=as.π .ξ) (λs':CS R=>gp X (vN i) (vN j) (vR aR) (vN s) s'.f s'.k) CS.g (λq=>CP X i j aR c0 row (n0+q) (R.am (R.ss y (tB X.B X.u X.l i j (xs.jp q))) E)) st
  (H.n▸Jn (Jn (JC _ _) hn) (Jn C.O.G.c (by decide))) rfl (λq s' P=>P.rw'.up H.l) (by exact kO (.v (oD (P.rw'.pk C.O.I))<|.v (sl (P.rw'.pk C.O.I).aa hr)<|.z (cn (.ξ r) st.g)) (by kernel_rfl)) P (λq v s' R1 _ hv P1 T1=>by
   refine xEEAA (H.a q v hv) λb x dw hx hb=>?_;refine eqB dw ?_;have ga:=C.O.G.fv _ hm x (Jt hx);exact lI (Ol hd C hs (n:=n0+q) (Ju (ZL (jR hx) _) hn) hb ga.1 ga.2.1 ga.2.2.1 ga.2.2.2.1 P1 (by rw[Bn hx]) rfl T1.nx T1.ct))
 rw[H.n,ZS,show tB X.B X.u X.l i j []=R.Κ from rfl,R.xL,R.Χ] at P';exact⟨s',P',e⟩
def zaR{n0 n1:θ}{e0 e1:R.α}{st:CS R}(hd:5<=d)(C:yT X i j aR c0 row F)(hs:s<X.M.aa.ε)(P:CP X i j aR c0 row n0 e0 st)(hn:n1=n0+(ax X.M s).ε)(hc:n1<=X.M.bb)(h0:e0=R.am (R.ss (at' row s) (NG X i j s)) e1)
  (q1:∀s',CP X i j aR c0 row n1 e1 s'->R' .nx (gp X (vN i) (vN j) (vR aR) s'.e s'.f s'.k) s'.g) (q2:∀s',CP X i j aR c0 row n1 e1 s'->R' .ct (gp X (vN i) (vN j) (vR aR) s'.e s'.f s'.k) s'.g):
  ck (ah P0 d) xk (gp X (vN i) (vN j) (vR aR) (vN s) st.f st.k) st.g R':=by
 have hsr:=Uj (l:=row) (s:=s) (by rw[C.lv];exact hs);have hRa:=P.rw'.Tq (i,j) aR P.ad;rw[P.vr] at hRa;cases R.gk (at' row s) R.Κ with
 |isTrue hz=>
  rw[hz,R.w9,R.Χ] at h0;have P':CP X i j aR c0 row n1 e1 ⟨st.1,st.2.1,st.2.2.1,st.2.2.2.1,st.2.2.2.2.1,st.2.2.2.2.2.1,st.2.2.2.2.2.2.1,vN s,st.2.2.2.2.2.2.2.2⟩:=⟨P.rw',P.lo,hn▸Jn P.hi (Js (Jr _ _) _),P.dg,P.vr,P.ad,h0▸P.w⟩;exact j6 (.v (sl hRa (x4 hsr))<|.w (R.no)<|.k (R.qe (at' row s) R.Κ)<|.t (R.yes hz)<|.z (q2 _ P')) rfl
 |isFalse hz=>
  refine(C.O.I.mu hs).ι λr zq3=>zq3.ι λas zq4=>?_;refine xEA (zdR hd C hsr zq4.2.2 zq4.1 zq4.2.1 (hn▸hc) P h0) λs' P' e=>?_;have N:CP X i j aR c0 row n1 e1 ⟨s'.1,s'.2.1,s'.2.2.1,s'.2.2.2.1,s'.2.2.2.2.1,s'.2.2.2.2.2.1,s'.2.2.2.2.2.2.1,vN s,s'.2.2.2.2.2.2.2.2⟩:=by refine eqB hn ?_;exact⟨P'.rw',P'.lo,P'.hi,P'.dg,P'.vr,P'.ad,P'.w⟩
  exact j6 (.v (sl hRa (x4 hsr))<|.w (R.no)<|.k (R.qe (at' row s) R.Κ)<|.f (R.not hz)<|.s (e)<|.z (q1 _ N)) rfl
def Em{r:ζ R.α}{b:θ->R.α}(hs:s<r.ε):jX (r.jp s) b s=R.am (R.ss (at' r s) (b s)) (jX (r.jp (s+1)) b (s+1)):=by
 rw[x7 hs];unfold at';rw[Jp hs];rfl
def zgf{st:CS R}{e0:R.α}(hd:5<=d)(C:yT X i j aR c0 row F)(P:CP X i j aR c0 row 0 e0 st)(h0:e0=R.am (jX row (NG X i j) 0) F):
  ∃s',CP X i j aR c0 row X.M.bb F s'/\exec (ah P0 d) (.fo [9] Qc (.bn (.py (.ty 491260897125)) [.bc (.Ο 0) 1936292453 []]) xk) (gp X (vN i) (vN j) (vR aR) st.e st.f st.k) st.g=Qa ((.nx,gp X (vN i) (vN j) (vR aR) s'.e s'.f s'.k),s'.g):=by
 subst h0;have I:=P.rw'.pk C.O.I;obtain⟨s',P',e⟩:=oe (c:=ah P0 d) (x:=9) (n:=X.M.aa.ε) (e:=.bn (.py (.ty 491260897125)) [.bc (.Ο 0) 1936292453 []]) (b:=xk) (λs':CS R=>gp X (vN i) (vN j) (vR aR) s'.e s'.f s'.k) CS.g (λs=>CP X i j aR c0 row (pN X.M s) (R.am (jX (row.jp s) (NG X i j) s) F)) st
  (Jn I.bg (by decide)) rfl (by exact kO (.p (pH (Jn (by decide) hd) I)<|.c<|.z (cn (.gq X.M.aa.ε) st.g)) (by kernel_rfl)) P (λs s' R1 _ hs P1 T1=>zaR hd C hs P1 (Va hs) (W9 C.O.I _) (by rw[Em (by rw[C.lv];exact hs),R.Ϣ]) T1.nx T1.ct)
 have e1:pN X.M X.M.aa.ε=X.M.bb:=by unfold pN;rw[Zj,I.ct]
 have e2:row.jp X.M.aa.ε=[]:=by rw[<-C.lv,ZS]
 rw[e1,e2,show jX [] (NG X i j) X.M.aa.ε=R.Κ from rfl,R.Χ] at P';exact⟨s',P',e⟩
end
section
variable{h0:MH}{X:WX R}{i j:Nat}{row:List R.α}{F:R.α}
def G4(X:WX R):Prop:=(X.ov=.Ε\/∃a,X.ov=.ξ a)/\(X.ov=.Ε->∀i j s,i<=X.u.ε->j<=X.l.ε->s<X.M.aa.ε->X.B i j s=rD X.M X.B X.u X.l i j s)/\∀aT,X.ov=.ξ aT->∀{d P K aR:θ}{g:MH}{row:ζ R.α}{Q:ab->MH->Prop},5<=d->(∃t,g=X.h++t)->g[aR]?=Qa (.ο (row.π R.e))->row.ε=X.M.aa.ε->(∀x∈row,R.D P K x)->4*(P+X.pS)+(K+X.kS)<=3800->(∀t a row',g.ε<=a->(g++t)[a]?=Qa (.ο (row'.π R.e))->row'.ε=X.M.aa.ε->(∀x∈row',R.D (P+X.pS) (K+X.kS) x)->(∀i j,i<=X.u.ε->j<=X.l.ε->jX row (X.B i j) 0=jX row' (rD X.M X.B X.u X.l i j) 0)->Q (.ξ a) (g++t))->WF P0 d 132 [.aj (112+R.i),.ξ aR,.ξ aT] g Q
section
variable{X:WX R}(ψ:G4 X)
def G4.r:=@ψ.1
def G4.no:=@ψ.2.1
def G4.so:=@ψ.2.2
end
abbrev Vl(X:WX R)(i j:θ):θ->R.α:=λs=>if i=X.u.ε/\j=X.l.ε then dh X.M s else R.Κ
def PS(X:WX R)(i j:θ)(s:CS R):Prop:=RW lG R X.h s.g X.D X.M.aa.ε s.c s.Ad s.V/\s.c<=1+(i*(X.l.ε+1)+j)*(X.M.bb+1)/\Be R i j s.c X.p X.k s.V/\(i<X.u.ε\/(i=X.u.ε/\j<=X.l.ε)->mw X.u.ε X.l.ε X.B i j s.V=X.W)/\((i=X.u.ε/\j=X.l.ε+1)\/i=X.u.ε+1->jX (s.V (X.u.ε,X.l.ε)) (dh X.M) 0=X.W/\∀x∈s.V (X.u.ε,X.l.ε),R.D (X.p*(X.u.ε+X.l.ε+1)+X.pS) (X.k*(X.u.ε+X.l.ε+1)+X.kS+s.c) x)
section
variable{X:WX R}{i j:Nat}{s:CS R}(ψ:PS X i j s)
def PS.rw':=@ψ.1
def PS.hc:=@ψ.2.1
def PS.dg:=@ψ.2.2.1
def PS.w:=@ψ.2.2.2.1
def PS.fb:=@ψ.2.2.2.2
end
theorem zc8{B:θ}(h:c<=1+Y+1)(h2:Y+(n+1)<=B):c+n<=1+B:=
 Jn (JV h n) (Jn (JF ((J8 (1+Y) 1 n).ν ((J8 1 Y _).ν (ω (λz=>1+(Y+z)) (ZW 1 n))))) (Js h2 1))
def GQ(O:mq X){i j:θ}(h1:i<=X.u.ε)(h2:j<=X.l.ε):(i*(X.l.ε+1)+j)*(X.M.bb+1)+(X.M.bb+1)<=(X.u.ε+1)*(X.l.ε+1)*(X.M.bb+1):=by
 have h3:(i*(X.l.ε+1)+j)+1<=(X.u.ε+1)*(X.l.ε+1):=by
  rw[Yf X.u.ε];exact(JJ (Ze _ h1:i*(X.l.ε+1)<=X.u.ε*(X.l.ε+1)) (Jn (Zf h2) (JF (Kg _).Μ)):i*(X.l.ε+1)+(j+1)<=_)
 have h5:=Ze (X.M.bb+1) h3;rwa [Yf _ 1,Kg] at h5
def CP.ϫ{s:CS R}(C:yT X i j aR c0 row (jX row (Vl X i j) 0))(P:CP X i j aR c0 row X.M.bb (jX row (Vl X i j) 0) s)(h0:c0<=1+(i*(X.l.ε+1)+j)*(X.M.bb+1)+1):PS X i (j+1) s:=by
 have hi:=P.hi;refine⟨P.rw',by rw[show i*(X.l.ε+1)+(j+1)=(i*(X.l.ε+1)+j)+1 from rfl,Yf _ 1,Kg];exact Jn P.hi (zc8 h0 (Jv _)),P.dg,λhlt=>?_,λhf=>?_⟩
 ·have:¬(i=X.u.ε/\j=X.l.ε):=λe=>hlt.ι (λh=>ZG h e.1) λh=>ZG h.2 e.2
  have hw:=P.w;rw[show Vl X i j=λ_=>R.Κ from funext λ_=>τ this,x6,R.ut] at hw;exact hw
 ·have hh:i=X.u.ε/\j=X.l.ε:=hf.ι (λh=>⟨h.1,Z6.lf h.2⟩) λh=>ς (h▸C.hi) (Xj _)
  have hw:=P.w;rw[show Vl X i j=dh X.M from funext λ_=>φ hh] at hw;obtain rfl:=hh.1;obtain rfl:=hh.2;rw[Gq,AU,R.Χ] at hw;rw[P.vr];exact⟨hw,λx hx=>R.af (Jv _) (Js P.lo _) (C.dg x hx)⟩
abbrev UO:ζ Sm:=[.ft (.nm 8) (.bc (.Ο 5) 6776180 [.ay [.Ο 6,.Ο 7]]),.ite (.gm .is (.Ο 8) (.py .Ε)) [.cont] [],.ite (.gm .ja (.Ο 4) (.py .Ε)) [.ft (.nm 8) (.bn (.py (.aj 132)) [.Ο 3,.Ο 8,.Ο 4]),.ft (.sb (.Ο 5) (.ay [.Ο 6,.Ο 7])) (.Ο 8)] [],.fo [9] Qc (.bn (.py (.ty 491260897125)) [.bc (.Ο 0) 1936292453 []]) xk]
def Bm{V:ζ R.α}:jX V (rD X.M X.B X.u X.l i j) 0=R.am (jX V (NG X i j) 0) (jX V (Vl X i j) 0):=by
 rw[R.wE,<-HD];rfl
def MJ(z:Cx){Ad:θ×θ->η θ}{V:θ×θ->ζ R.α}(S:RW lG R h g D N c Ad V)(i j:θ)(hv:((Ad (i,j)).π ab.ξ).ϡ .Ε=v):kI z (.ξ D) kg [GA i j] g g=Qa (v,g):=by
 exact S.dd.ι λep zq13=>zq13.ι λes zq14=>W.eq (N6 zq14.1 zq14.1 (pI (T:=lG) (k:=(i,j)) zq14.2.1) ⟨(ω (λo=>o.ϡ .Ε) (zq14.2.2.2 (i,j))).ν hv,rfl⟩)
theorem GO{V:θ×θ->ζ R.α}(hc:c<=c')(h:Be R i j c p k V):Be R i (j+1) c' p k V:=λa b hn x hx=>R.af (Jv _) (Js hc _) (h a b (λq=>hn (q.ι .wv λq=>.IO ⟨q.1,ZJ q.2⟩)) x hx)
abbrev zfN:Sm:=.fo [9] Qc (.bn (.py (.ty 491260897125)) [.bc (.Ο 0) 1936292453 []]) xk
def CW:1+(i*(X.l.ε+1)+(j+1))*(X.M.bb+1)=1+(i*(X.l.ε+1)+j)*(X.M.bb+1)+(X.M.bb+1):=by
 rw(occs:=.Hd) [show i*(X.l.ε+1)+(j+1)=(i*(X.l.ε+1)+j)+1 from rfl,Yf _ 1,Kg,J8]
def Es{st:CS R}(hd:5<=d)(O:mq X)(hi:i<=X.u.ε)(hj:j<=X.l.ε)(S:RW lG R X.h st.g X.D X.M.aa.ε st.c st.Ad st.V)(hA:st.Ad (i,j)=Qa a)(dg:Be R i (j+1) st.c X.p X.k st.V)(hD:∀x∈st.V (i,j),R.D (X.p*(i+j+1)+X.pS) (X.k*(i+j+1)+X.kS+st.c) x)
  (hc:st.c<=1+(i*(X.l.ε+1)+j)*(X.M.bb+1)+1) (hw:R.am (mw X.u.ε X.l.ε X.B i (j+1) st.V) (jX (st.V (i,j)) (rD X.M X.B X.u X.l i j) 0)=X.W):
  ∃s',PS X i (j+1) s'/\exec (ah P0 d) zfN (gp X (vN i) (vN j) (vR a) st.e st.f st.k) st.g=Qa ((.nx,gp X (vN i) (vN j) (vR a) s'.e s'.f s'.k),s'.g):=by
 rw[Bm] at hw;exact(zgf hd (⟨O,hi,hj,zc8 hc (GQ O hi hj),S.lv (i,j),hD⟩:yT X i j a st.c (st.V (i,j)) (jX (st.V (i,j)) (Vl X i j) 0)) ⟨S,Jv _,Jv _,dg,rfl,hA,hw⟩ rfl).ι λs' zq12=>⟨s',zq12.1.ϫ (⟨O,hi,hj,zc8 hc (GQ O hi hj),S.lv (i,j),hD⟩:yT X i j a st.c (st.V (i,j)) (jX (st.V (i,j)) (Vl X i j) 0)) hc,zq12.2⟩
def g9(e:X.ov=.Ε)(h:MH):mX .ja X.ov .Ε h=Qa false:=by rw[e];rfl
def g8(e:X.ov=.ξ a)(h:MH):mX .ja X.ov .Ε h=Qa true:=by rw[e];rfl
def NJ(X:WX R)(g t:MH)(a P K:θ)(row row':ζ R.α):Prop:=g.ε<=a/\(g++t)[a]?=Qa (.ο (row'.π R.e))/\row'.ε=X.M.aa.ε/\(∀x∈row',R.D (P+X.pS) (K+X.kS) x)/\∀i j,i<=X.u.ε->j<=X.l.ε->jX row (X.B i j) 0=jX row' (rD X.M X.B X.u X.l i j) 0
section
variable{X:WX R}{g t:MH}{a P K:Nat}{row row':List R.α}(ψ:NJ X g t a P K row row')
def NJ.ge:=@ψ.1
def NJ.TF:=@ψ.2.1
def NJ.lv:=@ψ.2.2.1
def NJ.dg:=@ψ.2.2.2.1
def NJ.w:=@ψ.2.2.2.2
end
def G4.ex(V:G4 X){P:θ}{row:ζ R.α}(hov:X.ov=.ξ aT)(hd:5<=d)(hp:∃t,g=X.h++t)(hr:g[aR]?=Qa (.ο (row.π R.e)))(hl:row.ε=X.M.aa.ε)(hD:∀x∈row,R.D P K x)(hb:4*(P+X.pS)+(K+X.kS)<=3800):
  ∃t a row',jO (ah P0 d) (.aj 132) [.aj (112+R.i),.ξ aR,X.ov] g=Qa (.ξ a,g++t)/\NJ X g t a P K row row':=by
 obtain⟨v,g',e,t,a,row',rfl,rfl,N⟩:=W.Mi (mM (P:=P0) (d:=d) rfl (V.so aT hov hd hp hr hl hD hb (Q:=λv g'=>∃t a row',v=.ξ a/\g'=g++t/\NJ X g t a P K row row') λt a row' h1 h2 h3 h4 h5=>⟨t,a,row',rfl,rfl,h1,h2,h3,h4,h5⟩));exact⟨t,a,row',by rw[hov];exact e,N⟩
abbrev g7(st:CS R)(g:MH)(i j a:θ)(row:ζ R.α):CS R:=⟨g,cu (T:=lG) st.Ad (i,j) (Qa a),cu (T:=lG) st.V (i,j) row,st.c+1,st.a,st.b,st.d,st.e,st.f,st.k⟩
def R8(O:mq X)(hi:i<=X.u.ε)(hj:j<=X.l.ε)(hc:c<=1+(i*(X.l.ε+1)+j)*(X.M.bb+1)):4*(X.p*(i+j+1)+X.pS)+(X.k*(i+j+1)+c+X.kS)<=3800:=by
 have e3:=oQ (p:=X.p) (show i+j+1+1<=X.u.ε+X.l.ε+2 by exact Zc (Yt (JJ hi hj) (JR _)));have e4:=oQ (p:=X.k) (show i+j+1+1<=X.u.ε+X.l.ε+2 by exact Zc (Yt (JJ hi hj) (JR _)));rw[Kz] at e3 e4;exact Jn (JJ (JI 4 (Jn (Js (Jn (JC _ _) O.pp) _) e3)) (Jn (JF (ZF _ _ _)) (JJ (Jn (Js (Jn (JC _ _) O.kk) _) e4) (Jn hc (Jn (Js (Jn (Jr _ _) (GQ O hi hj)) 1) (Jr _ _)))))) O.bd
section
variable{st:CS R}(hd:6<=d)(O:mq X)(hi:i<=X.u.length)(hj:j<=X.l.length)(P:PS X i j st)
include hd O hi hj P
def PS.hw:R.am (jX (st.V (i,j)) (X.B i j) 0) (mw X.u.ε X.l.ε X.B i (j+1) st.V)=X.W:=by
 have hp:=P.w ((Yl hi).imp id λh=>⟨h,hj⟩);rwa [Ib hi hj] at hp
theorem PS.cH:∀x∈st.V (i,j),R.D (X.p*(i+j+1)) (X.k*(i+j+1)+st.c) x:=P.dg i j (by unfold done;simp)
def Og(hA:st.Ad (i,j)=Qd)(q2:∀s',PS X i (j+1) s'->R' .ct (gp X (vN i) s'.b s'.d s'.e s'.f s'.k) s'.g):ck (ah P0 d) UO (gp X (vN i) (vN j) st.d st.e st.f st.k) st.g R':=by
 have hp:=PS.hw hd O hi hj P;have hz:=P.rw'.qj (i,j) hA;rw[hz,l0,R.Χ] at hp;have N:PS X i (j+1) ⟨st.1,st.2.1,st.2.2.1,st.2.2.2.1,st.2.2.2.2.1,vN j,Qa .Ε,st.2.2.2.2.2.2.2⟩:=by
  refine⟨P.rw',by rw[CW];exact Jn P.hc (Jr _ _),GO (Jv _) P.dg,λ_=>hp,λhf=>?_⟩;have hh:i=X.u.ε/\j=X.l.ε:=hf.ι (λh=>⟨h.1,Z6.lf h.2⟩) λh=>ς (h▸hi) (Xj _);obtain rfl:=hh.1;obtain rfl:=hh.2;rw[Gq,AU] at hp;exact⟨by show jX (st.V _) _ _=_;rw[hz,l0];exact hp,λx hx=>R.af (Jr _ _) (JV (Jr _ _) _) (PS.cH hd O hi hj P x hx)⟩
 exact j6 (.p (MJ (ah P0 d) P.rw' i j (v:=.Ε) (by rw[hA];rfl))<|.c2<|.z (q2 _ N)) rfl
def Of(V:G4 X)(hA:st.Ad (i,j)=Qa a)(hov:X.ov=.Ε)(q1:∀s',PS X i (j+1) s'->R' .nx (gp X (vN i) s'.b s'.d s'.e s'.f s'.k) s'.g):ck (ah P0 d) UO (gp X (vN i) (vN j) st.d st.e st.f st.k) st.g R':=by
 have hp:=PS.hw hd O hi hj P;rw[rB λs _ h2=>V.no hov i j s hi hj (by rw[P.rw'.lv,Zq] at h2;exact h2),R.wE] at hp;refine(Es (Jn (by decide) hd) O hi hj P.rw' hA (GO (Jv _) P.dg) (λx hx=>R.af (Jr _ _) (JV (Jr _ _) _) (PS.cH hd O hi hj P x hx)) (Zs P.hc) hp).ι λs' zq6=>?_;have N:PS X i (j+1) ⟨s'.1,s'.2.1,s'.2.2.1,s'.2.2.2.1,s'.2.2.2.2.1,vN j,vR a,s'.2.2.2.2.2.2.2⟩:=⟨zq6.1.rw',zq6.1.hc,zq6.1.dg,zq6.1.w,zq6.1.fb⟩;exact j6 (.p (MJ (ah P0 d) P.rw' i j (v:=.ξ a) (by rw[hA];rfl))<|.c2<|.k (g9 hov)<|.c<|.s (zq6.2)<|.z (q1 _ N)) rfl
def Od(V:G4 X)(hA:st.Ad (i,j)=Qa a)(hov:X.ov=.ξ aT)(q1:∀s',PS X i (j+1) s'->R' .nx (gp X (vN i) s'.b s'.d s'.e s'.f s'.k) s'.g):ck (ah P0 d) UO (gp X (vN i) (vN j) st.d st.e st.f st.k) st.g R':=by
 have hp:=PS.hw hd O hi hj P;have S:=P.rw';refine(V.ex hov (Jn (by decide) hd) S.Tr (S.Tq (i,j) a hA) (S.lv (i,j)) (PS.cH hd O hi hj P) (R8 O hi hj P.hc)).ι λt zq3=>zq3.ι λb zq4=>zq4.ι λrow' zq5=>?_;refine S.dd.ι λep zq1=>zq1.ι λes zq2=>?_;rw[zq5.2.w i j hi hj,<-Ic (r:=row') (a:=i) (b:=j) (i:=i) (j:=j+1) (V:=st.V) (by unfold done;simp),R.wE] at hp;obtain⟨s',P',e⟩:=Es (st:=g7 st _ i j b row') (Jn (by decide) hd) O hi hj ((S.cq:RW lG R X.h (st.g++t) X.D X.M.aa.ε st.c st.Ad st.V).put (k:=(i,j)) (jH zq2.1) zq5.2.TF (Jn (by obtain⟨t0,hg⟩:=S.Tr;rw[hg,Jx];exact Jr _ _) zq5.2.ge) (λz' e=>ς (j4 (S.Tq z' _ e)) (Z9.ϥ zq5.2.ge)) zq5.2.lv (bif (jW es (GA i j)).ϟ then ep else ep.π (· +1)) (S.ep zq2.1 _)) (show cu (T:=lG) st.Ad (i,j) (Qa b) (i,j)=Qa b from jN) (λa' b' hn x hx=>by
   have hx:x∈cu (T:=lG) st.V (i,j) row' (a',b'):=hx;rw[jU (λq=>hn (by refine eqB q ?_;exact .IO ⟨rfl,JR _⟩):¬(a',b')=(i,j))] at hx;exact GO (Zp _) P.dg a' b' hn x hx) (λx hx=>by
   have hx:x∈cu (T:=lG) st.V (i,j) row' (i,j):=hx;rw[jN] at hx;exact R.af (Jv _) (by show _<=_+(st.c+1);exact Jn (JF (ZF _ _ _)) (JJ (Jv _) (Jr _ _))) (zq5.2.dg x hx)) (Zf P.hc) (by show R.am _ (jX (cu (T:=lG) st.V (i,j) row' (i,j)) _ 0)=_;rw[jN];exact hp)
 have N':PS X i (j+1) ⟨s'.1,s'.2.1,s'.2.2.1,s'.2.2.2.1,s'.2.2.2.2.1,vN j,vR b,s'.2.2.2.2.2.2.2⟩:=⟨P'.rw',P'.hc,P'.dg,P'.w,P'.fb⟩;exact j6 (.p (MJ (ah P0 d) P.rw' i j (v:=.ξ a) (by rw[hA];rfl))<|.c2<|.k (g8 hov)<|.c<|.p (zq5.1)<|.h (E1 (v:=.ξ b) (jH (t:=t) zq2.1) (pI (T:=lG) (k:=(i,j)) zq2.2.1) (Jw zq2.2.2.1 (Jw P.hc (Jw (Js (Jn (Jr _ _) (GQ O hi hj)) 1) (Zv O.cl (by decide)))):es.ε<bg))<|.s (e)<|.z (q1 _ N')) (by kernel_rfl)
end
def BW{st:CS R}(hd:6<=d)(O:mq X)(V:G4 X)(hi:i<=X.u.ε)(hj:j<=X.l.ε)(P:PS X i j st)
  (q1:∀s',PS X i (j+1) s'->R' .nx (gp X (vN i) s'.b s'.d s'.e s'.f s'.k) s'.g) (q2:∀s',PS X i (j+1) s'->R' .ct (gp X (vN i) s'.b s'.d s'.e s'.f s'.k) s'.g):
  ck (ah P0 d) UO (gp X (vN i) (vN j) st.d st.e st.f st.k) st.g R':=by
 refine AZ (st.Ad (i,j)) (λhA=>?_) λa hA=>?_
 ·exact Og hd O hi hj P hA q2
 ·exact V.r.ι (λhov=>Of hd O hi hj P V hA hov q1) λ⟨_,hov⟩=>Od hd O hi hj P V hA hov q1
end
section
variable{h0:MH}{X:WX R}{i j:Nat}{row:List R.α}{F:R.α}
def uB(M:Mc R.α):ζ R.α:=(kY R M.aa.ε).Ϫ M.Ϟ M.lw
def Ww(T:lc)(k0:T.κ)(h:MH)(M:Mc R.α):MH:=h++([.ο [R.e R.Κ],.ο ((uB M).π R.e)]++[.Υ (Qa 1) [(T.v k0,ab.ξ (h.ε+1))]])
abbrev UI(h:MH)(M:Mc R.α):MH:=Ww lG (0,0) h M
def Cs{T:lc}{k0:T.κ}(hN:N=M.aa.ε):RW T R h (Ww T k0 h M) (h.ε+2) N 1 (cu (λ_=>Qd) k0 (Qa (h.ε+1))) (cu (λ_=>kY R N) k0 (uB M)):=by
 subst hN;delta Ww;refine⟨⟨_,rfl⟩,Jr _ _,⟨_,_,oC,?_,Jv _,λk=>?_⟩,λk k' a h1 h2=>?_,λk a h1=>?_,λk a h1=>?_,λk h1=>?_,λk=>?_,⟨_,_,oC,ζ.Pairwise.Ι (λ_ h=>ς h Jz) .Ϝ⟩⟩
 ·intro p hp;rw[JD.mp hp];exact⟨k0,rfl⟩
 ·rw[lR,T.eq]
  by_cases e:k=k0
  ·subst e;rw[jN,Γ rfl];rfl
  ·rw[jU e,Θ λq=>e q.Μ];rfl
 ·by_cases e1:k=k0
  ·by_cases e2:k'=k0
   ·exact e1.ν e2.Μ
   ·rw[jU e2] at h2;exact ag h2
  ·rw[jU e1] at h1;exact ag h1
 ·by_cases e1:k=k0
  ·subst e1;rw[jN] at h1;refine lV h1 ?_;exact Jr _ _
  ·rw[jU e1] at h1;exact nomatch h1
 ·by_cases e1:k=k0
  ·subst e1;rw[jN] at h1 ⊢;refine lV h1 ?_;exact oC
  ·rw[jU e1] at h1;exact nomatch h1
 ·by_cases e1:k=k0
  ·subst e1;rw[jN] at h1;exact nomatch h1
  ·exact jU e1
 ·by_cases e1:k=k0
  ·subst e1;rw[jN];unfold uB;rw[Zd];unfold kY;rw[Zw]
  ·rw[jU e1];unfold kY;rw[Zw]
theorem Cq(hN:N=M.aa.ε):RW lG R h (UI h M) (h.ε+2) N 1 (cu (T:=lG) (λ_=>Qd) (0,0) (Qa (h.ε+1))) (cu (T:=lG) (λ_=>kY R N) (0,0) (uB M)):=Cs hN
theorem Cr(G:kQ M p1 k1)(hp:p1<=p)(hk:k1<=k):Be R 0 0 1 p k (cu (T:=lG) (λ_=>kY R M.aa.ε) (0,0) (uB M)):=λa b _ x hx=>by
 by_cases e1:(a,b)=(0,0)
 ·cases e1
  rw[jN] at hx;rcases Z8 hx with hx|rfl
  ·exact(Zl hx)▸(R.af (JB _) (JB _) R.bq)
  ·exact R.af (Jn hp (JF (qat p).Μ)) (Zs (Jn hk (JF (qat k).Μ))) G.fst
 ·rw[jU e1] at hx
  simp only[Zl hx];exact(R.af (JB _) (JB _) R.bq)
def E0{B:θ->θ->θ->R.α}(hs:M.Ϟ<M.aa.ε):mw n m B 0 0 (cu (T:=lG) (λ_=>kY R M.aa.ε) (0,0) (uB M))=R.ss M.lw (B 0 0 M.Ϟ):=by
 have e:uB M=mL (kY R M.aa.ε) M.Ϟ M.lw:=by
  delta uB mL kY;rw[KD,φ hs];show _=qbc _ _ (R.am R.Κ M.lw);rw[R.Χ]
 have zl:(kY R M.aa.ε).ε=M.aa.ε:=Zw ..;rw[e,LO (V:=λ_=>kY R M.aa.ε) (JB _) (JB _) (by unfold done;simp) (by rw[zl];exact hs),C9 (λ_ _=>rfl),R.ut]
abbrev zbF:Sm:=.fo [7] Qc (.bn (.py (.ty 491260897125)) [.fq .am (.bn (.py (.bi 7103854)) [.Ο 2]) (.py (.Β 1))]) UO
theorem Wj(n:θ)(g:MH):ab.gq ((n:Φ)+1)=.gq (n+1:θ)/\g=g:=⟨rfl,rfl⟩
def Ed{b:θ}(h:1+(a+1)*(b+1)*(c+1)<n):a+1<n/\b+1<n:=by
 exact⟨Jw (Jn (Z5 (a+1) (Zr b)) (Z5 ((a+1)*(b+1)) (Zr c))) (Jw (JC _ _) h:(a+1)*(b+1)*(c+1)<n),Jw (Jn (qai (b+1) (Zr a)) (Z5 ((a+1)*(b+1)) (Zr c))) (Jw (JC _ _) h:(a+1)*(b+1)*(c+1)<n)⟩
def PS.bT{s:CS R}(P:PS X i (X.l.ε+1) s):PS X (i+1) 0 ⟨s.1,s.2.1,s.2.2.1,s.2.2.2.1,vN i,s.2.2.2.2.2⟩:=by
 refine⟨P.rw',by rw(occs:=.Hd) [θ.ut,Yf i 1,Kg];exact P.hc,λa b hn=>P.dg a b λq=>hn ?_,λhlt=>?_,λhf=>P.fb (.wv ⟨by lia,rfl⟩)⟩
 ·exact .wv (q.ι ZJ λq=>JO (JF q.1))
 ·exact(Gq).Μ.ν (P.w (.wv (hlt.ι qaQ λh=>JF h.1)))
theorem zgg{st:CS R}(hd:6<=d)(O:mq X)(V:G4 X)(hi:i<=X.u.ε)(P:PS X i 0 st):∃s',PS X (i+1) 0 s'/\exec (ah P0 d) zbF (gp X (vN i) st.b st.d st.e st.f st.k) st.g=Qa ((.nx,gp X s'.a s'.b s'.d s'.e s'.f s'.k),s'.g):=
 (oe (c:=ah P0 d) (x:=7) (n:=X.l.ε+1) (e:=.bn (.py (.ty 491260897125)) [.fq .am (.bn (.py (.bi 7103854)) [.Ο 2]) (.py (.Β 1))]) (b:=UO) (λs':CS R=>gp X (vN i) s'.b s'.d s'.e s'.f s'.k) CS.g (λj=>PS X i j) st (JN (Ed O.cl).2) rfl (by exact kO (.c3<|.z (Wj X.l.ε st.g)) rfl) P λj s' R1 _ hj P1 T1=>BW hd O V hi (JY hj) P1 T1.nx T1.ct).ι λs' q=>⟨⟨s'.1,s'.2.1,s'.2.2.1,s'.2.2.2.1,vN i,s'.2.2.2.2.2⟩,q.1.bT,q.2⟩
abbrev bB(X:WX R):CS R:=⟨UI X.h X.M,cu (T:=lG) (λ_=>Qd) (0,0) (Qa (X.h.ε+1)),cu (T:=lG) (λ_=>kY R X.M.aa.ε) (0,0) (uB X.M),1,Qd,Qd,Qd,Qd,Qd,Qd⟩
def zc2{b:θ->R.α}(hb:∀s,R.D p' k' (b s)):∀{r:ζ R.α}{o:θ},(∀x∈r,R.D p k x)->R.D (p+p') (k+k'+r.ε) (jX r b o):=by
 intro r
 induction r with
 |Ϝ=>exact λ_=>R.af (JB _) (JB _) R.bq
 |Ι x r ih=>exact λh=>R.fm (R.af (Jv _) (Jr _ _) (R.fc (h x (.mo _)) (hb _))) (ih λy hy=>h y (.pc _ hy))
def kQ.cD(G:kQ M p k)(s:θ):R.D p k (dh M s):=by
 delta dh;refine AZ (M.ak[s]?) (λe=>?_) λx e=>?_
 ·rw[e]
  exact R.af (JB _) (JB _) R.bq
 ·rw[e]
  exact G.ed x (Jt e)
abbrev ziY:Sm:=.fo [6] Qc (.bn (.py (.ty 491260897125)) [.fq .am (.bn (.py (.bi 7103854)) [.Ο 1]) (.py (.Β 1))]) [zbF]
theorem zgj(hd:6<=d)(O:mq X)(V:G4 X)(P:PS X 0 0 (bB X)):∃s',PS X (X.u.ε+1) 0 s'/\exec (ah P0 d) ziY (gp X Qd Qd Qd Qd Qd Qd) (UI X.h X.M)=Qa ((.nx,gp X s'.a s'.b s'.d s'.e s'.f s'.k),s'.g):=
 oe (c:=ah P0 d) (x:=6) (n:=X.u.ε+1) (e:=.bn (.py (.ty 491260897125)) [.fq .am (.bn (.py (.bi 7103854)) [.Ο 1]) (.py (.Β 1))]) (b:=[zbF]) (λs':CS R=>gp X s'.a s'.b s'.d s'.e s'.f s'.k) CS.g (λi=>PS X i 0) (bB X) (JN (Ed O.cl).1) rfl (by exact kO (.c3<|.z (Wj X.u.ε (UI X.h X.M))) rfl) P λi s' R1 _ hi P1 T1=>by
  exact(zgg hd O V (JY hi) P1).ι λs2 zq5=>j6 (.s (zq5.2)<|.z (T1.nx s2 zq5.1)) rfl
abbrev zfQ(X:WX R):θ:=X.k*(X.u.ε+X.l.ε+2)+(1+(X.u.ε+1)*(X.l.ε+1)*(X.M.bb+1)+X.M.aa.ε)
def GJ{C:θ}(h1:p1+pS<=p)(h2:k1+kS<=k)(h3:c<=C)(h4:4*(p*(n+2))+(k*(n+2)+(C+N))<=3800):
  p*(n+1)+pS+p1<=p*(n+2)/\k*(n+1)+kS+c+k1+N<=k*(n+2)+(C+N)/\4*(p*(n+1)+pS+p1)+(k*(n+1)+kS+c+k1+N)<=3800:=by
 rw[(Kz .. :p*(n+2)=p*(n+1)+p),(Kz .. :k*(n+2)=k*(n+1)+k)] at h4 ⊢;have A1:=Jn (JF (J8 (p*(n+1)) pS p1)) (Js (Jn (JF (ZW _ _)) h1) _);have A2:=Jn (JV (Jn (JF (cQ (k*(n+1)) kS c k1)) (JJ (Js h2 _) h3)) N) (JF (J8 _ _ _));exact⟨A1,A2,Jn (JJ (JI 4 A1) A2) h4⟩
def zgi{s:CS R}(hd:4<=d)(O:mq X)(P:PS X (X.u.ε+1) 0 s):∃v,kI (ah P0 d) (.ξ X.D) kg [GA X.u.ε X.l.ε] s.g s.g=Qa (v,s.g)/\jO (ah P0 d) (.aj 127) [.ξ X.L.m,v] s.g=Qa (R.e X.W,s.g)/\R.D (X.p*(X.u.ε+X.l.ε+2)) (zfQ X) X.W:=by
 have S:=P.rw';obtain⟨hw,hdg⟩:=P.fb (.IO rfl);refine AZ (s.Ad (X.u.ε,X.l.ε)) (λhA=>?_) λa hA=>?_
 ·rw[S.qj _ hA,l0] at hw
  exact⟨.Ε,MJ _ S _ _ (by rw[hA];rfl),hw▸fn rfl (RU hd (S.pk O.I) ⟨rfl,rfl⟩),hw▸R.af (JB _) (JB _) R.bq⟩
 ·have hDv:=zc2 (o:=0) (b:=dh X.M) (λs=>O.G.cD s) hdg
  rw[hw,S.lv] at hDv;refine⟨.ξ a,MJ _ S _ _ (by rw[hA];rfl),?_,R.af (GJ O.pp O.kk P.hc O.bd).1 (GJ O.pp O.kk P.hc O.bd).2.1 hDv⟩
  have:=fn (P:=P0) rfl (W5 (Q:=λv g=>v=_/\g=_) hd (S.pk O.I) (S.Tq _ _ hA) (S.lv _) hdg O.G.ed (GJ O.pp O.kk P.hc O.bd).2.2 ⟨rfl,rfl⟩)
  rw[En (o:=0) (b:=dh X.M) ((S.lv _).ν O.I.fg.Μ) λs x hx=>by unfold dh;rw[Zq,hx];rfl,hw] at this;exact this
def zdp(eD:X.D=X.h.ε+2):mC (X.h++[ae.ο [R.e R.Κ],.ο (((kY R X.M.aa.ε).Ϫ X.M.Ϟ X.M.lw).π R.e)]) (.Υ (Qa 1) [(GA 0 0,.ξ (X.h.ε+1))])=Qa (.ξ X.D,UI X.h X.M):=by
 delta mC UI Ww uB;simp only[JA,eD,Jx];rfl
theorem gY(O:mq X)(eD:X.D=X.h.ε+2)(eW:X.W=R.ss X.M.lw (X.B 0 0 X.M.Ϟ))(hk:X.k1<=X.k)(hp:X.p1<=X.p):PS X 0 0 (bB X):=
 ⟨by rw[eD];exact Cq rfl,Jr _ _,Cr O.G hp hk,λ_=>by rw[eW];exact E0 O.G.st,λe=>e.ι (λe=>θ.Ok e.2) λe=>θ.Ok e⟩
def Ld(hd:7<=d)(O:mq X)(V:G4 X)(eg:g=X.h)(eD:X.D=X.h.ε+2)(eW:X.W=R.ss X.M.lw (X.B 0 0 X.M.Ϟ))(hk:X.k1<=X.k)(hp:X.p1<=X.p)
  (q:∀t,R.D (X.p*(X.u.ε+X.l.ε+2)) (zfQ X) (R.ss X.M.lw (X.B 0 0 X.M.Ϟ))->Q (R.e (R.ss X.M.lw (X.B 0 0 X.M.Ϟ))) (X.h++t)):ck (ah P0 d) (lS.jp 5) (Qa (.ξ X.L.m)::Qa (.Ϥ X.u)::Qa (.Ϥ X.l)::Qa (.aj (112+R.i))::Qa X.ov::nn 13) g (Ψ.Fin Q):=by
 subst eg;refine xEA (zgj (Jn (by decide) hd) O V (gY O eD eW hk hp)) λs P e=>?_;refine(zgi (d:=d) (Jn (by decide) hd) O P).ι λv zq2=>?_;have e1:=zq2.1;have e2:=zq2.2.1;refine P.rw'.Tr.ι λt zq1=>?_;rw[zq1,eW] at e2;rw[zq1] at e e1;exact j6 (.p ((fn (P:=P0) (d:=d) (h:=X.h) rfl (Hx (Q:=λv g=>v=_/\g=_) (Jn (by decide) hd) O.I O.G.st ⟨rfl,rfl⟩)))<|.p (zdp eD)<|.s (e)<|.c2<|.p (e1)<|.p (e2)<|.z (q t (eW▸zq2.2.2))) (by kernel_rfl)
end
section
variable{h0:MH}
def qB(u l:ζ θ)(i j:θ)(a:Ar R.α):Ζ:=jo u i a.up && jo l j a.lo
def m4(B:θ->θ->θ->R.α)(u l:ζ θ)(i j:θ)(xs:ζ (Ar R.α)):R.α:=nK (xs.π λa=>bif qB u l i j a then R.ss a.w (B (i+a.up.ε) (j+a.lo.ε) a.t) else R.Κ)
def Hz(b:θ->R.α)(xs:ζ (Ar R.α)):R.α:=nK (xs.π λa=>bif a.di then R.ss a.w (b a.t) else R.Κ)
def Sb(M:Mc R.α)(B:θ->θ->θ->R.α)(u l:ζ θ)(i j s:θ):R.α:=R.am (if i=u.ε/\j=l.ε then dh M s else R.Κ) (m4 B u l i j (ax M s))
def BH(M:Mc R.α)(u l:ζ θ):θ->θ->θ->θ->R.α
 |0,_,_,_=>R.Κ
 |f+1,i,j,s=>Sb M (BH M u l f) u l i j s
def ma(M:Mc R.α):Prop:=∀(s:θ) ys,M.aa[s]?=Qa ys->∀a∈ys,a.di=Qe->s<a.t
def pK{a:Ar R.α}(h:a.di=Qe):a.up=[]/\a.lo=[]:=by
 delta Ar.di at h;obtain⟨up,lo,w,t⟩:=a;cases up with
 |Ι _ _=>exact JK h
 |Ϝ=>
  cases lo with
  |Ι _ _=>exact JK h
  |Ϝ=>exact⟨rfl,rfl⟩
def Ac{B:θ->θ->θ->R.α}{l:ζ θ}{i j:θ}:m4 B u l i j xs=R.am (tB B u l i j xs) (Hz (B i j) xs):=by
 induction xs with
 |Ϝ=>exact(R.Χ _).Μ
 |Ι a xs ih=>
  unfold m4 tB Hz at ih ⊢;simp only[JU,JU,JU,jS,jS,jS,ih];refine vL a.di (λhe=>?_) λhe=>?_
  ·rw[he]
   simp only[(by unfold dj;rw[he];rfl:dj u l i j a=Qc),(by unfold qB;rw[(pK he).1,(pK he).2];rfl:qB u l i j a=Qe),(pK he).1,(pK he).2,pi,pi,bm,R.Χ,R.swap];rfl
  ·rw[he]
   simp only[(by unfold dj qB;rw[he];rfl:dj u l i j a=qB u l i j a),bm,R.Χ,R.Ϣ]
def o8{B:θ->θ->θ->R.α}{l:ζ θ}{i j:θ}:Sb M B u l i j s=R.am (rD M B u l i j s) (Hz (B i j) (ax M s)):=by
 delta Sb rD;simp only[Ac,R.Ϣ]
def tU{b:θ->R.α}(h:∀a∈xs,a.di=Qc):Hz b xs=R.Κ:=by
 delta Hz
 induction xs with
 |Ϝ=>rfl
 |Ι a xs ih=>rw[JU,jS,h a (.mo _),ih λa ha=>h a (.pc _ ha)];exact R.Χ _
def Vm{B B':θ->θ->θ->R.α}{l:ζ θ}{i j:θ}(h:∀a∈xs,qB u l i j a=Qe->B (i+a.up.ε) (j+a.lo.ε) a.t=B' (i+a.up.ε) (j+a.lo.ε) a.t):m4 B u l i j xs=m4 B' u l i j xs:=by
 refine lW λa ha=>?_;cases hh:qB u l i j a with
 |true=>rw[pi,pi,h a ha hh]
 |false=>rfl
theorem rF{B:θ->θ->θ->R.α}{l:ζ θ}{i j:θ}{a:Ar R.α}:m4 B u l i j (a::xs)=R.am (bif qB u l i j a then R.ss a.w (B (i+a.up.ε) (j+a.lo.ε) a.t) else R.Κ) (m4 B u l i j xs):=rfl
def mH{a:Ar R.α}(h:a∈ax M s):∃ys,M.aa[s]?=Qa ys/\ys∈M.aa/\a∈ys:=by
 delta ax at h;cases hs:M.aa[s]? with
 |none=>rw[hs] at h;exact ς h Jz
 |some ys=>rw[hs] at h;exact⟨ys,rfl,Jt hs,h⟩
def xG(M:Mc R.α):Prop:=(∀ys∈M.aa,∀a∈ys,dp a.up/\dp a.lo)/\(∀ys∈M.aa,∀a∈ys,a.t<M.aa.ε)/\ma M
section
variable{M:Mc R.α}(ψ:xG M)
def xG.l:=@ψ.1
def xG.t:=@ψ.2.1
def xG.e:=@ψ.2.2
end
def Wq(M:Mc R.α)(u l:ζ θ)(i j s:θ):θ:=((u.ε-i)+(l.ε-j))*(M.aa.ε+1)+(M.aa.ε-s)
theorem AC{A B i j y:θ}(f1:i+x<=A)(f2:j+y<=B)(h:0<x+y):(A-(i+x))+(B-(j+y))+1<=(A-i)+(B-j):=Jn (Js h _) (JF ((Xi _ _ _ _).ν (congr (ω _ (qbe .. ▸YI (qam f1))) (qbe .. ▸YI (qam f2)))))
def zG{l:ζ θ}{i j:θ}{a:Ar R.α}(H:xG M)(hi:i<=u.ε)(hj:j<=l.ε)(ha:a∈ax M s)(hh:qB u l i j a=Qe):i+a.up.ε<=u.ε/\j+a.lo.ε<=l.ε/\Wq M u l (i+a.up.ε) (j+a.lo.ε) a.t<Wq M u l i j s:=by
 refine(mH ha).ι λys zq8=>?_;have zq7:=H.l ys zq8.2.1 a zq8.2.2;have f1:=(xX zq7.1 (Jo.mp hh).1 hi).1;have f2:=(xX zq7.2 (Jo.mp hh).2 hj).1;refine⟨f1,f2,?_⟩;delta Wq;refine vL a.di (λhe=>?_) λhe=>?_
 ·have:=H.e s ys zq8.1 a zq8.2.2 he
  rw[(pK he).1,(pK he).2];exact ZL (θ.sub_lt_sub_left (jR zq8.1) this) _
 ·have h6:((u.ε-(i+a.up.ε))+(l.ε-(j+a.lo.ε))+1)*(M.aa.ε+1)<=((u.ε-i)+(l.ε-j))*(M.aa.ε+1):=Ze _ (AC f1 f2 (wW he))
  rw[Yf,Kg] at h6;exact Ju (ZL (JO (qaL _ _)) _) (Jn h6 (Jr _ _))
def G7{l:ζ θ}(H:xG M):∀{f f' i j s:θ},i<=u.ε->j<=l.ε->Wq M u l i j s<f->Wq M u l i j s<f'->BH M u l f i j s=BH M u l f' i j s:=by
 intro f
 induction f with
 |zero=>exact λ_ _ h=>ς h (J9 _)
 |succ f ih=>
  intro f' i j s hi hj h1 h2;cases f' with
  |zero=>exact ς h2 (J9 _)
  |succ f'=>
   show R.am _ (m4 (BH M u l f) u l i j (ax M s))=R.am _ (m4 (BH M u l f') u l i j (ax M s))
   congr 1
   refine Vm λa ha hh=>?_;have zq5:=zG H hi hj ha hh;exact ih zq5.1 zq5.2.1 (Ju zq5.2.2 (JY h1)) (Ju zq5.2.2 (JY h2))
def Bv(M:Mc R.α)(u l:ζ θ)(i j s:θ):R.α:=BH M u l (Wq M u l i j s+1) i j s
def H0{l:ζ θ}(H:xG M){i j:θ}(hi:i<=u.ε)(hj:j<=l.ε):Bv M u l i j s=Sb M (Bv M u l) u l i j s:=by
 show R.am _ (m4 (BH M u l (Wq M u l i j s)) u l i j (ax M s))=R.am _ (m4 (Bv M u l) u l i j (ax M s))
 congr 1
 refine Vm λa ha hh=>?_;exact G7 H (zG H hi hj ha hh).1 (zG H hi hj ha hh).2.1 (zG H hi hj ha hh).2.2 (JR _)
section
variable{ks:List Nat}{mb1 mb2:List Bool}{bp:List (List Nat)}(TB:G0 M ks mb1 mb2 bp)(hE:M.ak.length=M.aa.length)
include TB hE
theorem M6{a:Ar R.α}(hk:mb2[k]?≠Qa Qe)(ha:a∈ax M k)(ht:a.t<M.aa.ε):mb2[a.t]?≠Qa true:=λq=>hk (by
 refine(mH ha).ι λys zq3=>?_;have hx:=Jp (l:=bp) (i:=a.t) (by rw[TB.b2.lv];exact ht);refine TB.c2 _ _ q hx k ((TB.b2.mem _ _ hx k).ϥ ⟨ys,zq3.1,.wv ⟨jR zq3.1,a,zq3.2.2,rfl⟩⟩))
def M7(hk:mb2[k]?≠Qa Qe):dh M k=R.Κ:=by
 by_cases hkn:k<M.aa.ε
 ·cases he:wV M k with
  |true=>exact ς (TB.m2.lw k (ZU.ϥ ⟨ZA.ϥ hkn,he⟩)) hk
  |false=>
   delta wV at he;exact dT (Ζ.not_inj (y:=Qe) he)
 ·delta dh
  rw[Z0 (Jn (JF hE) (ZM hkn))];rfl
def UN{l:ζ θ}(ht:∀ys∈M.aa,∀a∈ys,a.t<M.aa.ε):∀{f i j k:θ},mb2[k]?≠Qa Qe->BH M u l f i j k=R.Κ:=by
 intro f
 induction f with
 |zero=>exact λ_=>rfl
 |succ f ih=>
  intro i j k hk;show R.am (if i=u.ε/\j=l.ε then dh M k else R.Κ) (m4 (BH M u l f) u l i j (ax M k))=_;have e1:(if i=u.ε/\j=l.ε then dh M k else R.Κ)=R.Κ:=by rw[M7 TB hE hk];split<;>rfl
  simp only[e1,R.Χ]
  have:∀xs:ζ (Ar R.α),(∀a∈xs,a∈ax M k)->m4 (BH M u l f) u l i j xs=R.Κ:=λxs=>by
   induction xs with
   |Ϝ=>exact λ_=>rfl
   |Ι a xs ihx=>
    intro h;refine(mH (h a (.mo _))).ι λys zq2=>?_;simp only[rF,ihx λb hb=>h b (.pc _ hb),ih (M6 TB hE hk (h a (.mo _)) (ht ys zq2.2.1 a zq2.2.2)),R.xL];cases qB u l i j a<;>exact R.Χ _
  exact this _ λ_ h=>h
def ET{l:ζ θ}{T:Mc R.α}(nk:ks.Ω)(ht:∀ys∈M.aa,∀a∈ys,a.t<M.aa.ε)(ha:T.aa=ks.π λk=>nI ks (ax M k))(he:T.ak=ks.π (dh M)):∀{f i j k:θ},k∈ks->BH T u l f i j (ks.IN k)=BH M u l f i j k:=by
 intro f
 induction f with
 |zero=>exact λ_=>rfl
 |succ f ih=>
  intro i j k hk;have hix:=ZY.ϥ hk;have e1:dh T (ks.IN k)=dh M k:=by
   delta dh;simp only[he,JE,Jp hix,(YL hix)];rfl
  have e2:ax T (ks.IN k)=nI ks (ax M k):=by
   delta ax;simp only[ha,JE,Jp hix,(YL hix)];rfl
  show R.am (if i=u.ε/\j=l.ε then dh T (ks.IN k) else R.Κ) (m4 (BH T u l f) u l i j (ax T (ks.IN k)))=R.am _ (m4 (BH M u l f) u l i j (ax M k));simp only[e1,e2]
  congr 1
  rw[TB.ks] at hk;have hp:=Jo.mp (zC hk).2;have m1k:mb1[k]?=Qa true:=by
   cases hm:mb1[k]? with
   |none=>rw[hm] at hp;exact JK hp.1
   |some b=>rw[hm] at hp;exact ω Qa hp.1
  have:∀xs:ζ (Ar R.α),(∀a∈xs,a∈ax M k)->m4 (BH T u l f) u l i j (nI ks xs)=m4 (BH M u l f) u l i j xs:=λxs=>by
   induction xs with
   |Ϝ=>exact λ_=>rfl
   |Ι a xs ihx=>
    intro h;have ihx:=ihx λb hb=>h b (.pc _ hb);refine(mH (h a (.mo _))).ι λys zq1=>?_;unfold nI at ihx ⊢;simp only[ZC];by_cases hin:a.t∈ks
    ·rw[φ hin]
     simp only[rF,rF,ihx];show R.am (bif qB u l i j a then R.ss a.w (BH T u l f (i+a.up.ε) (j+a.lo.ε) (ks.IN a.t)) else R.Κ) _=_;rw[ih hin]
    ·simp only[τ hin]
     have hd2:mb2[a.t]?≠Qa true:=λq=>hin (by
      rw[TB.ks];exact ZU.ϥ ⟨ZA.ϥ (ht ys zq1.2.1 a zq1.2.2),by rw[(TB.c1 k (ys.π Ar.t) m1k (by unfold we;rw[JE,zq1.1];rfl) a.t (JL.ϥ ⟨a,zq1.2.2,rfl⟩):mb1[a.t]?=Qa Qe),q];rfl⟩)
     rw[rF,UN TB hE ht hd2,R.xL];have e0:(bif qB u l i j a then R.Κ else R.Κ)=R.Κ:=by cases qB u l i j a<;>rfl
     rw[e0,R.Χ];exact ihx
  exact this _ λ_ h=>h
end
end
section
variable{h0:MH}
def Dp{l:ζ θ}{p:θ->Ζ}{f:θ->θ}:((l.Ϩ p).π f).sum<=(l.π f).sum:=by
 induction l with
 |Ϝ=>exact Jv _
 |Ι x l ih=>
  simp only[ζ.filter_cons,JU,YC];cases p x
  ·exact Yn ih
  ·show (((x::l.Ϩ p)).π f).sum<=_
   simp only[JU,YC];exact Js ih _
def Af:M.aa=(JX M.aa.ε).π (ax M):=by
 refine tS (by rw[Jq,Zg]) λi y hy=>?_;rw[JE,Kf (jR hy)];show Qa (M.aa[i]?.ϡ [])=_;rw[hy];rfl
theorem EV:(nI ks xs).ε<=xs.ε:=YA ..
def Us{a:Ar R.α}(h:a∈nI ks xs):∃b∈xs,b.t∈ks/\a= ⟨b.1,b.2.1,b.2.2.1,ks.IN b.t⟩:=by
 refine(ζ.mem_filterMap.mp h).ι λb zq16=>?_;have e:=zq16.2;by_cases hk:b.t∈ks
 ·rw[φ hk] at e;exact⟨b,zq16.1,hk,(Qa.lf e).Μ⟩
 ·rw[τ hk] at e;exact ag e
def zbr{l:ζ θ}{f g:θ->θ}(h:∀x,f x<=g x):(l.π f).sum<=(l.π g).sum:=by
 induction l with
 |Ϝ=>exact Jv _
 |Ι x l ih=>rw[JU,JU,YC,YC];have:=h x;exact JJ this ih
theorem kQ.dp(G:kQ M p k)(H:ma M):xG M:=⟨λys hy a ha=>⟨(G.fv ys hy a ha).2.1,(G.fv ys hy a ha).2.2.1⟩,λys hy a ha=>(G.fv ys hy a ha).1,H⟩
def DE{p:θ->Ζ}{i j:θ}{b:θ}(ha:(nO p n)[i]?=Qa a)(hb:(nO p n)[j]?=Qa b)(h:a<b):i<j:=by
 obtain⟨h1,rfl⟩:=Jy.mp ha;obtain⟨h2,rfl⟩:=Jy.mp hb;refine qaX λhle=>?_;rcases Yl hle with hl|he
 ·exact θ.lt_asymm h (ζ.pairwise_iff_getElem.mp (ζ.Pairwise.Ϩ _ ζ.pairwise_lt_range:(nO p n).Pairwise (· < ·)) _ _ h2 h1 hl)
 ·subst he;exact Zb _ h
def zfX(M T:Mc R.α)(p k:θ):Prop:=kQ T p k/\T.bb<=M.bb/\T.aa.ε<=M.aa.ε/\(ma M->ma T)
section
variable{M T:Mc R.α}{p k:Nat}(ψ:zfX M T p k)
def zfX.g:=@ψ.1
def zfX.bb:=@ψ.2.1
def zfX.lv:=@ψ.2.2.1
def zfX.up:=@ψ.2.2.2
end
def EU{T:Mc R.α}{L':Ly}(I:ao R h L M)(G:kQ M p k)(TB:G0 M ks mb1 mb2 bp)(TR:nG M ks T)(J:ao R g L' T):zfX M T p k:=by
 have hks:∀x∈ks,x<M.aa.ε:=λx hx=>by rw[TB.ks] at hx;exact(zC hx).1
 have hkl:ks.ε<=M.aa.ε:=by rw[TB.ks];exact We
 cases TR with
 |qw h1 h2 ha he hs hf=>
  have hal:T.aa.ε=ks.ε:=by rw[ha,Jq]
  have hcnt:T.bb<=M.bb:=by
   simp only[<-J.ct,<-I.ct,ha,KN];have e:(M.aa.π Ku)=(JX M.aa.ε).π (λk=>(ax M k).ε):=by
    conv=>lhs;rw[Af (M:=M)]
    exact KN
   rw[e,TB.ks];exact Jn (zbr λx=>EV) Dp
  refine⟨⟨by rw[hal,hs];exact ZY.ϥ h1,λys hy a hay=>?_,hf▸G.fst,λx hx=>?_,G.bd,by have:=G.n;exact Jn (JF hal) (Jn hkl this),Jn hcnt G.c⟩,hcnt,Jn (JF hal) hkl,λH s ys hys a hay hae=>?_⟩
  ·rw[ha] at hy
   refine(JL.mp hy).ι λk' zq13=>?_;obtain rfl:=zq13.2;refine(Us hay).ι λb zq12=>?_;refine eqB zq12.2.2 ?_;refine(mH zq12.1).ι λzs zq11=>?_;have zq10:=G.fv zs zq11.2.1 b zq11.2.2;exact⟨by rw[hal];exact ZY.ϥ zq12.2.1,zq10.2.1,zq10.2.2.1,zq10.2.2.2.1,zq10.2.2.2.2⟩
  ·rw[he] at hx
   refine(JL.mp hx).ι λk' zq9=>?_;refine eqE zq9.2 ?_;delta dh;rw[Jp (by rw[I.fg];exact(hks k' zq9.1):k'<M.ak.ε)];exact G.ed _ (Zt (by rw[I.fg];exact(hks k' zq9.1):k'<M.ak.ε))
  ·rw[ha,JE] at hys
   obtain⟨k',hk',rfl⟩:=ms hys;obtain⟨b,hb,hbt,rfl⟩:=Us hay;refine(mH hb).ι λzs zq6=>?_;have hlt:=H k' zs zq6.1 b zq6.2.2 hae;have hge:ks[ks.IN b.t]?=Qa b.t:=by rw[Jp (ZY.ϥ hbt),YL (ZY.ϥ hbt)]
   rw[TB.ks] at hk' hge;show s<ks.IN b.t;rw[TB.ks];exact DE hk' hge hlt
 |lq h1 ha he hs hf=>
  have hcnt:T.bb=0:=by rw[<-J.ct,ha];rfl
  refine⟨⟨by rw[ha,hs];exact θ.zero_lt_one,λys hy a hay=>?_,hf▸R.af (JB _) (JB _) R.gd,λx hx=>?_,G.bd,by rw[ha];show 1<=300;decide,Jn (JF hcnt) (JB _)⟩,Jn (JF hcnt) (JB _),by rw[ha];show 1<=_;exact Jn (JC _ _) (Zc G.st),λ_ s ys hys a hay _=>?_⟩
  ·rw[ha] at hy
   cases JD.mp hy;exact ς hay Jz
  ·rw[he] at hx
   cases JD.mp hx;exact R.af (JB _) (JB _) R.bq
  ·rw[ha] at hys
   cases JD.mp (Jt hys);exact ς hay Jz
def Lh{l:ζ θ}{T:Mc R.α}(I:ao R h L M)(G:kQ M p k)(TB:G0 M ks mb1 mb2 bp)(TR:nG M ks T)(HM:xG M)(HT:xG T):R.ss T.lw (Bv T u l 0 0 T.Ϟ)=R.ss M.lw (Bv M u l 0 0 M.Ϟ):=by
 have ht:∀ys∈M.aa,∀a∈ys,a.t<M.aa.ε:=λys hy a ha=>(G.fv ys hy a ha).1;have nk:ks.Ω:=by rw[TB.ks];exact AV
 cases TR with
 |qw h1 h2 ha he hs hf=>
  rw[hs,hf];have eM:Bv M u l 0 0 M.Ϟ=BH M u l (Wq M u l 0 0 M.Ϟ+Wq T u l 0 0 (ks.IN M.Ϟ)+1) 0 0 M.Ϟ:=G7 HM (JB _) (JB _) (JR _) (JO (Jr _ _));have eT:Bv T u l 0 0 (ks.IN M.Ϟ)=BH T u l (Wq M u l 0 0 M.Ϟ+Wq T u l 0 0 (ks.IN M.Ϟ)+1) 0 0 (ks.IN M.Ϟ):=G7 HT (JB _) (JB _) (JR _) (JO (JC _ _));simp only[eM,eT,(ET TB I.fg nk ht ha he h1:∀{f:θ},BH T u l f 0 0 (ks.IN M.Ϟ)=BH M u l f 0 0 M.Ϟ)]
 |lq h1 ha he hs hf=>
  have e1:Bv T u l 0 0 T.Ϟ=R.Κ:=by
   delta Bv;show R.am (if 0=u.ε/\0=l.ε then dh T T.Ϟ else R.Κ) (m4 (BH T u l _) u l 0 0 (ax T T.Ϟ))=_;have e2:dh T T.Ϟ=R.Κ:=by unfold dh;rw[he,hs];rfl
   have e3:ax T T.Ϟ=[]:=by unfold ax;rw[ha,hs];rfl
   rw[e2,e3]
   have:(if 0=u.ε/\0=l.ε then R.Κ else R.Κ)=R.Κ:=by split<;>rfl
   simp only[this,R.Χ];rfl
  rw[e1,R.xL];rcases h1 with h1|h1
  ·have hd2:mb2[M.Ϟ]?≠Qa true:=λq=>h1 (by
    rw[TB.ks];exact ZU.ϥ ⟨ZA.ϥ G.st,by rw[TB.m1.lw M.Ϟ (.mo _),q];rfl⟩)
   unfold Bv;rw[UN TB I.fg ht hd2,R.xL]
  ·rw[h1,R.w9]
def xR(hE:LS M){a:Ar R.α}(h:a∈ax M s):a.di=false:=by
 refine(mH h).ι λys zq1=>?_
 have:=Yr.mp hE ys zq1.2.1
 cases he:a.di with
 |false=>rfl
 |true=>exact ς (KL.ϥ ⟨a,zq1.2.2,he⟩) this
abbrev wX(h:MH)(L:Ly)(M:Mc R.α)(u l:ζ θ)(ov:ab)(p k p1 k1 pS kS:θ):WX R:=⟨h,L,M,u,l,h.ε+2,ov,p,k,p1,k1,pS,kS,Bv M u l,R.ss M.lw (Bv M u l 0 0 M.Ϟ)⟩
end
section
variable{R:Rg}{κ:Type}[DecidableEq κ]
abbrev qL(κ:Type)(R:Rg):=ζ (κ×R.α)
def jP:qL κ R->κ->R.α
 | [],_=>R.Κ
 |p::t,j=>if p.1=j then p.2 else jP t j
def rN:qL κ R->κ->R.α->qL κ R
 | [],j,v=>[(j,v)]
 |p::t,j,v=>if p.1=j then(j,v)::t else p::rN t j v
theorem m7{p:κ×R.α}{t:qL κ R}{j:κ}:jP (p::t) j=if p.1=j then p.2 else jP t j:=rfl
theorem m5{p:κ×R.α}{t:qL κ R}{j:κ}{v:R.α}:rN (p::t) j v=if p.1=j then(j,v)::t else p::rN t j v:=rfl
def jK{κ:Type}(r:qL κ R):ζ κ:=r.π (·.1)
def j7{κ:Type}(r:qL κ R)(b:κ->R.α):R.α:=nK (r.π λp=>R.ss p.2 (b p.1))
def oP{r:qL κ R}{j:κ}{v:R.α}:∀x,x∈jK (rN r j v) ↔ x∈jK r\/x=j:=by
 induction r with
 |Ϝ=>intro x;show x∈ [j] ↔ _;rw[JD];exact⟨.IO,λh=>h.ι (λh=>ς h Jz) id⟩
 |Ι p t ih=>
  intro x;simp only[m5];by_cases e:p.1=j
  ·rw[φ e]
   show x∈j::jK t ↔ x∈p.1::jK t\/x=j;rw[e,JM];exact⟨λh=>.wv h,λh=>h.ι id .wv⟩
  ·rw[τ e]
   show x∈p.1::jK (rN t j v) ↔ x∈p.1::jK t\/x=j;refine JM.ν ?_;rw[JM,ih,or_assoc]
def Gm{r:qL κ R}{j:κ}{v:R.α}(nd:(jK r).Ω):(jK (rN r j v)).Ω:=by
 induction r with
 |Ϝ=>exact JH.ϥ ⟨Jz,.Ϝ⟩
 |Ι p t ih=>
  have nd:=JH.mp nd;simp only[m5];by_cases e:p.1=j
  ·rw[φ e];exact JH.ϥ ⟨e▸nd.1,nd.2⟩
  ·rw[τ e]
   exact JH.ϥ ⟨λq=>((oP _).mp q).ι nd.1 e,ih nd.2⟩
def v7{r:qL κ R}{j:κ}{v:R.α}{q:κ×R.α}(h:q∈rN r j v):q∈r\/q=(j,v):=by
 induction r with
 |Ϝ=>exact .IO (JD.mp h)
 |Ι p t ih=>
  rw[m5] at h;by_cases e:p.1=j
  ·rw[φ e] at h
   exact(JM.mp h).ι .IO λh=>.wv (.pc _ h)
  ·rw[τ e] at h
   rcases JM.mp h with rfl|h
   ·exact .wv (.mo _)
   ·exact(ih h).imp (.pc _) id
def oS{r:qL κ R}{j:κ}(h:j∈jK r):(j,jP r j)∈r:=by
 induction r with
 |Ϝ=>exact ς h Jz
 |Ι p t ih=>
  simp only[m7];by_cases e:p.1=j
  ·rw[φ e,<-e];exact .mo _
  ·rw[τ e];exact .pc _ (ih ((JM.mp h).ι (λq=>ς q.Μ e) id))
def p9{r:qL κ R}{j:κ}(h:j∉jK r):jP r j=R.Κ:=by
 induction r with
 |Ϝ=>rfl
 |Ι p t ih=>
  simp only[m7];rw[τ λe=>h (by rw[<-e];exact .mo _),ih λq=>h (.pc _ q)]
def LJ{r:qL κ R}{j:κ}{w:R.α}{b:κ->R.α}:j7 (rN r j (R.am (jP r j) w)) b=R.am (R.ss w (b j)) (j7 r b):=by
 delta j7
 induction r with
 |Ϝ=>show R.am (R.ss (R.am R.Κ w) (b j)) R.Κ=R.am (R.ss w (b j)) R.Κ;rw[R.Χ]
 |Ι p t ih=>
  simp only[m5,m7];by_cases e:p.1=j
  ·rw[φ e,φ e,JU,JU,jS,jS,e,R.add_mul,R.Ϣ,R.swap]
  ·rw[τ e,τ e,JU,JU,jS,jS,ih,R.swap]
def qA{r:qL κ R}{b:κ->R.α}{l:ζ κ}(hp:l.No (jK r))(nd:(jK r).Ω):nK (l.π λj=>R.ss (jP r j) (b j))=j7 r b:=by
 have sp:∀{x y:ζ R.α},x.No y->nK x=nK y:=λ{x y} h=>by
  induction h with
  |Ϝ=>rfl
  |Ι a _ ih=>rw[jS,jS,ih]
  |swap a b l=>rw[jS,jS,jS,jS,R.swap]
  |trans _ _ h1 h2=>exact h1.ν h2
 refine(sp (hp.π _)).ν ?_;delta j7 jK;rw[KN]
 clear hp l
 induction r with
 |Ϝ=>rfl
 |Ι p t ih=>
  simp only[JU,JU,jS,jS,<-ih (JH.mp nd).2];show R.am (R.ss (jP (p::t) p.1) (b p.1)) _=_;rw[m7,φ rfl]
  congr 1
  refine ω nK (Ke λq hq=>?_);show R.ss (jP (p::t) q.1) (b q.1)=R.ss (jP t q.1) (b q.1);rw[m7,τ λe=>(JH.mp nd).1 (by rw[show (λx:κ×R.α=>x.1) p=q.1 from e];exact JL.ϥ ⟨q,hq,rfl⟩)]
theorem oT{κ:Type}{r:qL κ R}{b b':κ->R.α}(h:∀x∈jK r,b x=b' x):j7 r b=j7 r b':=ω nK (Ke λp hp=>by rw[h p.1 (JL.ϥ ⟨p,hp,rfl⟩)])
abbrev DR(R:Rg):=qL θ R
end
section
variable{T:lc}
def j5(T:lc)(r:qL T.κ R):ζ (ab×ab):=r.π λp=>(T.v p.1,R.e p.2)
theorem DY{r:qL T.κ R}:pD T (j5 T r):=λ_ hp=>(JL.mp hp).ι λq e=>⟨q.1,by rw[<-e.2]⟩
theorem rA{r:qL T.κ R}{j:T.κ}:jT (j5 T r) (T.v j)=true:=pI DY
def tV{r:qL T.κ R}{j:T.κ}:jW (j5 T r) (T.v j)=if j∈jK r then Qa (R.e (jP r j)) else none:=by
 induction r with
 |Ϝ=>rfl
 |Ι p t ih=>
  show jW ((T.v p.1,R.e p.2)::j5 T t) _=_;simp only[lR,T.eq,ih];simp only[m7];delta jK;by_cases h:p.1=j
  ·rw[Γ h,pi,φ (by rw[JU,h];exact .mo _),φ h]
  ·rw[Θ h,bm,τ h]
   by_cases h2:j∈t.π (·.1)
   ·rw[φ h2,φ (.pc _ h2)]
   ·rw[τ h2]
    exact(τ λq=>(JM.mp q).ι (λe=>h e.Μ) h2).Μ
def DZ{r:qL T.κ R}{j:T.κ}(h:j∉jK r):((j5 T r).π λp=>bif fz p.1 (T.v j) then(p.1,v) else p)=j5 T r:=by
 induction r with
 |Ϝ=>rfl
 |Ι p t ih=>
  show (bif fz (T.v p.1) (T.v j) then _ else _)::(j5 T t).π _=_;rw[T.eq,Θ λe=>h (by rw[<-e];exact .mo _),ih λq=>h (.pc _ q)];rfl
def F9{r:qL T.κ R}{j:T.κ}{v:R.α}(nd:(jK r).Ω):nA (j5 T r) (T.v j) (R.e v)=j5 T (rN r j v):=by
 delta nA;rw[tV];by_cases h:j∈jK r
 ·rw[φ h,YJ,pi]
  induction r with
  |Ϝ=>exact ς h Jz
  |Ι p t ih=>
   show (bif fz (T.v p.1) (T.v j) then _ else _)::(j5 T t).π _=_;rw[T.eq];simp only[m5];by_cases e:p.1=j
   ·rw[Γ e,pi,φ e,DZ (e▸(JH.mp nd).1)]
    show (T.v p.1,R.e v)::j5 T t=(T.v j,R.e v)::j5 T t;rw[e]
   ·rw[Θ e,bm,τ e]
    rw[ih (JH.mp nd).2 ((JM.mp h).ι (λq=>ς q.Μ e) id:j∈jK t)];rfl
 ·rw[τ h,YK,bm]
  induction r with
  |Ϝ=>rfl
  |Ι p t ih=>
   simp only[m5];rw[τ (λe=>h (by rw[<-e];exact .mo _):¬p.1=j)];show (T.v p.1,R.e p.2)::(j5 T t++[(T.v j,R.e v)])=_;rw[ih (JH.mp nd).2 λq=>h (.pc _ q)];rfl
def zaq(z:Cx){ep:η θ}{r:qL T.κ R}(hr:h[a]?=Qa (.Υ ep (j5 T r)))(j:T.κ):kI z (.ξ a) kg [T.v j,R.e R.Κ] h h=Qa (R.e (jP r j),h):=by
 refine W.eq (BK hr hr rA ⟨?_,rfl⟩);rw[tV];by_cases h:j∈jK r
 ·rw[φ h];rfl
 ·rw[τ h,p9 h];rfl
theorem SU{j:T.κ}{ep:η θ}{r:qL T.κ R}(v:R.α)(hr:h[a]?=Qa (.Υ ep (j5 T r)))(nd:(jK r).Ω)(hl:r.ε<=1000):∃ep',mQ h (.ξ a) (T.v j) (R.e v)=Qa (h.Ϫ a (.Υ ep' (j5 T (rN r j v)))):=
 ⟨_,(E1 hr rA (by unfold j5;rw[Jq];exact Jw hl (by decide))).ν (by rw[F9 nd])⟩
end
def zfp{a b:ζ θ×ζ θ×θ}:fz (.ay [.Ϥ a.1,.Ϥ a.2.1,.Β (a.2.2:θ)]) (.ay [.Ϥ b.1,.Ϥ b.2.1,.Β (b.2.2:θ)])=decide (a=b):=by
 show (((⟨a.1.υ⟩:Ρ.ld)==⟨b.1.υ⟩) && (((⟨a.2.1.υ⟩:Ρ.ld)==⟨b.2.1.υ⟩) && (((a.2.2:Φ)==(b.2.2:Φ)) && Qe)))=_;rw[zB,zB,Ym,show ((a.2.2:Φ)==(b.2.2:Φ))=decide (a.2.2=b.2.2) from by
  by_cases h:a.2.2=b.2.2
  ·rw[h];simp
  ·exact(Θ h)▸ϧ λe=>h (Xa.lf e),<-Ζ.decide_and,<-Ζ.decide_and,Tz]
 obtain⟨x,y,z⟩:=a;obtain⟨x',y',z'⟩:=b;simp only[qaT.injEq]
abbrev kD:lc:=⟨ζ θ×ζ θ×θ,mt,λp=>.ay [.Ϥ p.1,.Ϥ p.2.1,.Β (p.2.2:θ)],λ_ _=>zfp,3,rfl,λ_=>rfl⟩
def zfm{b:θ}:fz (.Β (a:Φ)) (.Β (b:Φ))=decide (a=b):=by
 show ((vV [] (.Β (a:Φ)) (.Β (b:Φ))).ϡ Qc)=_;have e:vV [] (.Β (a:Φ)) (.Β (b:Φ))=Qa ((a:Φ)==(b:Φ)):=vU (h:=[]);rw[e];show ((a:Φ)==(b:Φ))=_;rw[Kq,χ,f8];exact Φ.ofNat_inj
abbrev Rt:lc:=⟨θ,mt,λa=>.Β (a:Φ),λ_ _=>zfm,1,rfl,λ_=>rfl⟩
section
variable{h0:MH}
def kX(r:DR R):ζ (ab×ab):=r.π λp=>(ab.Β (p.1:Φ),R.e p.2)
theorem UL{r:DR R}{j:θ}:jT (kX r) (.Β (j:Φ))=true:=rA (T:=Rt)
theorem HB{r:DR R}{j:θ}:jW (kX r) (.Β (j:Φ))=if j∈jK r then Qa (R.e (jP r j)) else none:=tV (T:=Rt)
def nN(r:DR R)(j:θ)(w:R.α):DR R:= @ite _ (w=R.Κ) (R.gk _ _) r (rN r j (R.am (jP r j) w))
def Wc{r:DR R}{j:θ}{b:θ->R.α}:j7 (nN r j w) b=R.am (R.ss w (b j)) (j7 r b):=by
 delta nN;by_cases h:w=R.Κ
 ·rw[φ h,h,R.w9,R.Χ]
 ·rw[τ h,LJ]
def pR(n P K:θ)(r:DR R):Prop:=(jK r).Ω/\(∀x∈jK r,x<n)/\∀p∈r,R.D P K p.2
section
variable{n P K:Nat}{r:DR R}(ψ:pR n P K r)
def pR.nd:=@ψ.1
def pR.lt:=@ψ.2.1
def pR.dg:=@ψ.2.2
end
def pR.Mi{P:θ}{r:DR R}(H:pR n P K r)(j:θ):R.D P K (jP r j):=by
 by_cases h:j∈jK r
 ·exact H.dg _ (oS h)
 ·exact(p9 h)▸R.af (JB _) (JB _) R.bq
def AR{P j:θ}{r:DR R}(H:pR n P K r)(hj:j<n)(hw:R.D P K w):pR n P (K+1) (nN r j w):=by
 delta nN;by_cases h:w=R.Κ
 ·rw[φ h];exact⟨H.nd,H.lt,λp hp=>R.af (Jv _) (Zp _) (H.dg p hp)⟩
 ·rw[τ h]
  refine⟨Gm H.nd,λx hx=>((oP x).mp hx).ι (H.lt x) λe=>e▸hj,λp hp=>?_⟩;rcases v7 hp with hp|rfl
  ·exact R.af (Jv _) (Zp _) (H.dg p hp)
  ·exact R.fm (H.Mi j) hw
def pR.lv{P:θ}{r:DR R}(H:pR n P K r):r.ε<=n:=by
 have:=H.nd.length_le_of_subset (l₂:=JX n) λx hx=>ZA.ϥ (H.lt x hx)
 rwa [Zg,show (jK r).ε=r.ε from Jq ..] at this
theorem zar(z:Cx){ep:η θ}{r:DR R}(hr:h[a]?=Qa (.Υ ep (kX r)))(j:θ):kI z (.ξ a) kg [.Β j,R.e R.Κ] h h=Qa (R.e (jP r j),h):=zaq (T:=Rt) z hr j
theorem zgz{j:θ}{ep:η θ}{r:DR R}(v:R.α)(hr:h[a]?=Qa (.Υ ep (kX r)))(nd:(jK r).Ω)(hl:r.ε<=1000):∃ep',mQ h (.ξ a) (.Β j) (R.e v)=Qa (h.Ϫ a (.Υ ep' (kX (rN r j v)))):=SU (T:=Rt) v hr nd hl
def Gl{P j:θ}{ep:η θ}{r:DR R}(hd:4<=d)(hr:h[a]?=Qa (.Υ ep (kX r)))(H:pR n P K r)(hn:n<=1000)(hw:R.D P K w)(hl:4*P+K<=3800):∃ep',jO (ah P0 d) (.aj 104) [.aj (112+R.i),.ξ a,.Β (j:Φ),R.e w] h=Qa (.Ε,h.Ϫ a (.Υ ep' (kX (nN r j w)))):=by
 obtain⟨ep',e⟩:∃ep',WF P0 d 104 [.aj (112+R.i),.ξ a,.Β (j:Φ),R.e w] h λv g=>v=.Ε/\g=h.Ϫ a (.Υ ep' (kX (nN r j w))):=by
  cases hq:R.gk w R.Κ with
  |isTrue q=>
   have e:h.Ϫ a (.Υ ep (kX (nN r j w)))=h:=by
    refine(Jy.mp hr).ι λhl zq2=>?_;delta nN;rw[φ q,<-zq2,Yq]
   refine⟨ep,kN (K:=3) hd (Qa (.aj (112+R.i))::Qa (.ξ a)::Qa (.Β (j:Φ))::Qa (R.e w)::nn 6) rE rfl λd' h'=>?_⟩;rw[e];have hf:(!@decide (w=R.Κ) (R.gk _ _))=false:=by rw[R.yes q];rfl
   exact j6 (.w (R.no)<|.b ((Ψ.cv (R.ff h w R.Κ)))<|.f (hf)<|.z (cn .Ε h)) rfl
  |isFalse q=>
   obtain⟨ep',e⟩:=zgz (j:=j) (R.am (jP r j) w) hr H.nd (Jn H.lv hn);refine⟨ep',kN (K:=3) hd (Qa (.aj (112+R.i))::Qa (.ξ a)::Qa (.Β (j:Φ))::Qa (R.e w)::nn 6) rE rfl λd' h'=>?_⟩;rw[(by unfold nN;rw[τ q]:nN r j w=rN r j (R.am (jP r j) w))];exact j6 (.w (R.no)<|.b ((Ψ.cv (R.ff h w R.Κ)))<|.t ((by rw[R.not q];rfl:(!@decide (w=R.Κ) (R.gk _ _))=Qe))<|.w (R.no)<|.p (zar (ah P0 d') hr j)<|.q (R.pl h' (H.Mi j) hw hl)<|.h (e)<|.z (cn .Ε (h.Ϫ a (.Υ ep' (kX (rN r j (R.am (jP r j) w))))))) rfl
 exact⟨ep',fn rfl e⟩
end
variable{b b':Nat->R.α}
def Pb{r:DR R}{x:R.α}(nd:(jK r).Ω)(hk:k∈jK r)(h:∀j,j≠k->b j=b' j)(e:b k=R.am (b' k) x):j7 r b=R.am (R.ss (jP r k) x) (j7 r b'):=by
 induction r with
 |Ϝ=>exact ς hk Jz
 |Ι p t ih=>
  show R.am (R.ss p.2 (b p.1)) (j7 t b)=R.am _ (R.am (R.ss p.2 (b' p.1)) (j7 t b'));simp only[m7];by_cases hp:p.1=k
  ·rw[φ hp,oT (b:=b) (b':=b') λy hy=>h y λq=>(JH.mp nd).1 (by rw[show (λx:θ×R.α=>x.1) p=k from hp,<-q];exact hy),hp,e,R.Sc,R.wE (R.ss p.2 (b' k)),R.Ϣ]
  ·rw[τ hp,ih (JH.mp nd).2 ((JM.mp hk).ι (λq=>ς q.Μ hp) id),h _ hp,R.swap]
def F8(ov:DR R)(f:R.α)(l:ζ θ)(t:DR R):DR R:=l.foldl (λt j=>nN t j (R.ss f (jP ov j))) t
def MZ{ov:DR R}{f:R.α}:∀{l:ζ θ}{t:DR R},j7 (F8 ov f l t) b=R.am (R.ss f (nK (l.π λj=>R.ss (jP ov j) (b j)))) (j7 t b):=by
 intro l
 induction l with
 |Ϝ=>intro t;show j7 t b=R.am (R.ss f R.Κ) (j7 t b);rw[R.xL,R.Χ]
 |Ι j l ih=>
  intro t;show j7 (F8 ov f l (nN t j (R.ss f (jP ov j)))) b=_;simp only[ih,Wc,JU,jS,R.Sc,R.Id,R.Ϣ,R.swap]
def SR(n p K i k:θ)(t:DR R):Prop:=(jK t).Ω/\(∀x∈jK t,i<x/\x<n)/\∀q∈t,R.D (p*(q.1-i)) (K*(q.1-i)+k) q.2
section
variable{n p K i k:Nat}{t:DR R}(ψ:SR n p K i k t)
def SR.nd:=@ψ.1
def SR.lt:=@ψ.2.1
def SR.dg:=@ψ.2.2
end
variable{t:DR R}
theorem SR.Τ{i:θ}(H:SR n p K i k t)(h:k<=k'):SR n p K i k' t:=⟨H.nd,H.lt,λq hq=>R.af (Jv _) (Js h _) (H.dg q hq)⟩
theorem SR.Mi{i j:θ}(H:SR n p K i k t)(h:j∈jK t):R.D (p*(j-i)) (K*(j-i)+k) (jP t j):=H.dg _ (oS h)
def ul(n p K i k:θ)(l:ζ θ)(t:DR R):Prop:=(jK t).Ω/\(∀x∈jK t,i<x/\x<n)/\(∀q∈t,R.D (p*(q.1-i)) (K*(q.1-i)+(k+1)) q.2)/\∀q∈t,q.1∈l->R.D (p*(q.1-i)) (K*(q.1-i)+k) q.2
section
variable{n p K i k:Nat}{l:List Nat}{t:DR R}(ψ:ul n p K i k l t)
def ul.nd:=@ψ.1
def ul.lt:=@ψ.2.1
def ul.dg:=@ψ.2.2.1
def ul.dl:=@ψ.2.2.2
end
theorem SR.l{i:θ}(H:SR n p K i k t)(l:ζ θ):ul n p K i k l t:=⟨H.nd,H.lt,(H.Τ (Zp k)).dg,λq hq _=>H.dg q hq⟩
def ul.am{i j:θ}{l:ζ θ}(H:ul n p K i k (j::l) t)(hj:j∉l)(h1:i<j)(h2:j<n)(hw:R.D (p*(j-i)) (K*(j-i)+k) w):ul n p K i k l (nN t j w):=by
 delta nN;by_cases h:w=R.Κ
 ·rw[φ h];exact⟨H.nd,H.lt,H.dg,λq hq hl=>H.dl q hq (.pc _ hl)⟩
 ·rw[τ h]
  refine⟨Gm H.nd,λx hx=>((oP x).mp hx).ι (H.lt x) λe=>e▸ ⟨h1,h2⟩,λq hq=>?_,λq hq hl=>?_⟩
  ·rcases v7 hq with hq|rfl
   ·exact H.dg q hq
   ·refine R.fm (k:=K*(j-i)+k) ?_ hw
    by_cases hj:j∈jK t
    ·exact H.dl _ (oS hj) (.mo _)
    ·simp only[p9 hj];exact R.af (JB _) (JB _) R.bq
  ·rcases v7 hq with hq|rfl
   ·exact H.dl q hq (.pc _ hl)
   ·exact ς hl hj
def ER(n p K0 k:θ)(ov:DR R):Prop:=(jK ov).Ω/\(∀x∈jK ov,k<x/\x<n)/\∀q∈ov,R.D p K0 q.2
section
variable{n p K0 k:Nat}{ov:DR R}(ψ:ER n p K0 k ov)
def ER.nd:=@ψ.1
def ER.lt:=@ψ.2.1
def ER.dg:=@ψ.2.2
end
def UC{n i j:θ}{f:R.α}(hf:R.D (p*(k-i)) (K*(k-i)+m) f)(hw:R.D p K0 w)(hi:i<k)(hj:k<j)(hK:K0<=K):R.D (p*(j-i)) (K*(j-i)+m) (R.ss f w):=by
 have e2:K*(k-i)+K<=K*(j-i):=by rw[<-Kz];exact JI _ (qau (JN hi) hj)
 exact R.af (by rw[<-Kz];exact JI _ (qau (JN hi) hj):p*(k-i)+p<=p*(j-i)) (Jn (JF (ZF _ _ _)) (JV (Jn (Js hK _) e2) _)) (R.fc hf hw)
def bk(N B:θ->R.α)(k:θ):θ->R.α:=λj=>if j<k then N j else B j
def Cp{i:θ}{ov:DR R}{N B:θ->R.α}{l:ζ θ}(H:SR n p K i m t)(E:ER n p K0 k ov)(hl:l.No (jK ov))(hB:B k=R.am (N k) (j7 ov B))(hk:k∈jK t):j7 (F8 ov (jP t k) l t) (bk N B (k+1))=j7 t (bk N B k):=by
 rw[MZ,qA hl E.nd,Pb (b:=bk N B k) (b':=bk N B (k+1)) (k:=k) (x:=j7 ov B) H.nd hk]
 ·congr 2
  exact oT λx hx=>τ (by have:=(E.lt x hx).1;exact ZH (Zc this))
 ·intro j hj
  delta bk;by_cases h:j<k
  ·rw[φ h,φ (ZJ h)]
  ·rw[τ h,τ (ZH (Zc (ZX (ZM h) (Kc hj))))]
 ·delta bk
  rw[τ (Zb _),φ (JR _),hB]
theorem Co{i:θ}{N B:θ->R.α}(H:SR n p K i m t)(hk:k∉jK t):j7 t (bk N B (k+1))=j7 t (bk N B k):=oT λx hx=>by
 have:x≠k:=λe=>hk (e▸hx)
 delta bk;by_cases h:x<k
 ·rw[φ h,φ (ZJ h)]
 ·rw[τ h,τ (ZH (Zc (ZX (ZM h) (Kc this))))]
def l5(xs:ζ (Ar R.α)):DR R:=xs.foldl (λr a=>bif a.di then nN r a.t a.w else r) []
def yG{a:Ar R.α}:l5 (xs++[a])=bif a.di then nN (l5 xs) a.t a.w else l5 xs:=by unfold l5;rw[YR];rfl
def Do:j7 (l5 xs) b=Hz b xs:=by
 have go:∀(xs:ζ (Ar R.α))(r:DR R),j7 (xs.foldl (λr a=>bif a.di then nN r a.t a.w else r) r) b=R.am (j7 r b) (Hz b xs):=by
  intro xs
  induction xs with
  |Ϝ=>intro r;exact(R.ut _).Μ
  |Ι a xs ih=>
   intro r;simp only[K7,ih];show _=R.am (j7 r b) (R.am (bif a.di then R.ss a.w (b a.t) else R.Κ) (Hz b xs));cases a.di with
   |true=>rw[pi,pi,Wc,R.Ϣ,R.swap]
   |false=>rw[bm,bm,R.Χ]
 exact(go xs []).ν (R.Χ _)
def Ut:∀{xs:ζ (Ar R.α)},(∀a∈xs,a.t<n/\R.D p k a.w/\(a.di=Qe->s<a.t))->pR n p (k+xs.ε) (l5 xs)/\∀x∈jK (l5 xs),s<x:=by
 intro xs;rw[<-ζ.reverse_reverse xs]
 generalize xs.TM=ys
 induction ys with
 |Ϝ=>exact λ_=>⟨⟨.Ϝ,λx h=>ς h Jz,λq h=>ς h Jz⟩,λx h=>ς h Jz⟩
 |Ι a ys ih=>
  intro h;rw[KS] at h ⊢;refine xA (ih λb hb=>h b (ZV _ hb)) λh1 h2=>?_;have zq1:=h a (JT _ (.mo _));rw[yG,Jx,YW,<-J8];refine vL a.di (λhe=>?_) λhe=>?_
  ·rw[he]
   simp only[pi];refine⟨AR h1 zq1.1 (R.af (Jv _) (Jr _ _) zq1.2.1),λx hx=>?_⟩;unfold nN at hx;by_cases hw:a.w=R.Κ
   ·rw[φ hw] at hx;exact h2 x hx
   ·rw[τ hw] at hx
    exact((oP x).mp hx).ι (h2 x) λe=>e▸zq1.2.2 he
  ·rw[he]
   exact⟨⟨h1.nd,h1.lt,λq hq=>R.af (Jv _) (Zp _) (h1.dg q hq)⟩,h2⟩
section
variable{h0:MH}
def gc(h g:MH)(T:ζ (DR R)):Prop:=(∃t,g=h++t)/\g[h.ε]?=Qa (.ο ((JZ (h.ε+1) T.ε).π .ξ))/\∀(i:θ)(t:DR R),T[i]?=Qa t->∃ep,g[h.ε+(i+1)]?=Qa (.Υ ep (kX t))
section
variable{h g:MH}{T:List (DR R)}(ψ:gc h g T)
def gc.Tr:=@ψ.1
def gc.TF:=@ψ.2.1
def gc.Tq:=@ψ.2.2
end
structure Vs(g:MH)(aT:θ)(T:ζ (DR R)):Prop where
 x:∃rs:ζ θ,g[aT]?=Qa (.ο (rs.π .ξ))/\rs.ε=T.ε/\∀(i r:θ)(t:DR R),rs[i]?=Qa r->T[i]?=Qa t->∃ep,g[r]?=Qa (.Υ ep (kX t))
variable{g:MH}{aT:Nat}{T:List (DR R)}
def Dy{i:θ}(hi:i<n):(JZ (a+1) n)[i]?=Qa (a+(i+1)):=by
 refine(qas hi).ν ?_
 congr 1;lia
theorem gc.r(H:gc h g T):Vs g h.ε T:=⟨_,H.TF,by rw[KB],λi r t hr ht=>by
 rw[Dy (jR ht)] at hr;refine lV hr ?_;exact H.Tq i t ht⟩
def Vs.cq{t:MH}(H:Vs g aT T):Vs (g++t) aT T:=by
 exact H.x.ι λrs zq7=>⟨rs,jH zq7.1,zq7.2.1,λi r t a b=>(zq7.2.2 i r t a b).ι λep e=>⟨ep,jH e⟩⟩
def gc.cq{t:MH}(H:gc h g T):gc h (g++t) T:=by
 refine H.Tr.ι λt0 zq6=>?_;obtain rfl:=zq6;exact⟨⟨_,JA ..⟩,jH H.TF,λi t a=>(H.Tq i t a).ι λep e=>⟨ep,jH e⟩⟩
def gc.Ϫ{i:θ}{t':DR R}{ep:η θ}(H:gc h g T)(hi:i<T.ε):gc h (g.Ϫ (h.ε+(i+1)) (.Υ ep (kX t'))) (T.Ϫ i t'):=by
 refine(H.Tq i _ (Jp hi)).ι λep0 zq3=>?_;refine H.Tr.ι λt0 zq2=>?_;obtain rfl:=zq2;refine⟨⟨_,pU (Jr _ _)⟩,by rw[Zd];exact jZ (Kb (ZP (Zr _))) H.TF,λj u hu=>?_⟩;by_cases e:i=j
 ·subst e
  rw[J6 hi] at hu;refine lV hu ?_;exact⟨ep,kM zq3⟩
 ·rw[J7 e] at hu
  obtain⟨ep1,e1⟩:=H.Tq j u hu;exact⟨ep1,jZ (by lia) e1⟩
def AA{Tf:θ->DR R}{ep:θ->η θ}:gc h (h++.ο ((JZ (h.ε+1) n).π .ξ)::(JX n).π λi=>.Υ (ep i) (kX (Tf i))) ((JX n).π Tf):=by
 refine⟨⟨_,rfl⟩,by rw[Jq,Zg];exact ap,λi t ht=>⟨ep i,?_⟩⟩;have hk:i<n:=by have:=jR ht;rwa [Jq,Zg] at this
 rw[JE,Kf hk] at ht;refine lV ht ?_;rw[oC];show ((JX n).π _)[i]?=_;rw[JE,Kf hk];rfl
def U5(M:Mc R.α)(i j s:θ):ζ (Ar R.α):=if s<i then ax M s else if s=i then(ax M s).na j else[]
def nJ(M:Mc R.α)(i j:θ):ζ (DR R):=(JX M.aa.ε).π λs=>l5 (U5 M i j s)
def Ga{i j:θ}(hs:s<M.aa.ε):(nJ M i j)[s]?=Qa (l5 (U5 M i j s)):=by
 delta nJ;simp only[JE,Kf hs];rfl
def EW{i j:θ}{a:Ar R.α}(hi:i<M.aa.ε)(ha:(ax M i)[j]?=Qa a):nJ M i (j+1)=(nJ M i j).Ϫ i (bif a.di then nN (l5 ((ax M i).na j)) a.t a.w else l5 ((ax M i).na j)):=by
 refine tS (by unfold nJ;rw[Jq,Zd,Jq]) λs y hy=>?_;have hs:s<M.aa.ε:=by have:=jR hy;unfold nJ at this;rwa [Jq,Zg] at this
 rw[Ga hs] at hy;refine lV hy ?_;by_cases e:i=s
 ·subst e
  rw[J6 (by unfold nJ;rw[Jq,Zg];exact hs)];delta U5;rw[τ (Zb _),φ rfl,Kn,ha];show _=Qa (l5 (_++[a]));rw[yG]
 ·refine(J7 e).ν ?_
  rw[Ga hs];delta U5;by_cases h1:s<i
  ·rw[φ h1,φ h1]
  ·rw[τ h1,τ h1,τ (Kc e),τ (Kc e)]
def EX{i:θ}:nJ M i (ax M i).ε=nJ M (i+1) 0:=by
 delta nJ;refine Ke λs _=>ω l5 ?_;delta U5;by_cases h1:s<i
 ·rw[φ h1,φ (ZJ h1)]
 ·rw[τ h1]
  by_cases h2:s=i
  ·refine eqE h2 ?_
   rw[φ rfl,φ (JR _),Zj]
  ·rw[τ h2,τ (ZH (Zc (ZX (ZM h1) (Kc h2))))]
   by_cases h3:s=i+1
   ·rw[φ h3];rfl
   ·rw[τ h3]
end
section
variable{h0:MH}
abbrev uk:=MH×η ab×η ab
section
variable(ψ:uk)
abbrev uk.g:=ψ.1
abbrev uk.a:=ψ.2.1
abbrev uk.b:=ψ.2.2
end
def wb(L:Ly)(n0:θ)(a b:η ab):Ψ.Λ:=Qa (.ξ L.m)::Qa (.ϯ Qe)::Qa (.ξ n0)::a::b::nn 6
abbrev OB:ζ Sm:=[.ite (.qa Qe [.bc (.Ο 4) 7598521885536580729 [],.not (.Ο 1)]) [.expr (.bn (.py (.aj 104)) [.aq (.Ο 0) 1919512167,.Ix (.Ο 2) (.Ο 3),.aq (.Ο 4) 127961880028532,.aq (.Ο 4) 131277443786868])] []]
abbrev zgo:ζ Sm:=[.fo [4] Qc (.Ix (.aq (.Ο 0) 1634886515) (.Ο 3)) OB]
def Lk{i j:θ}:(nJ M i j).ε=M.aa.ε:=by unfold nJ;rw[Jq,Zg]
def gc.im{T:ζ (DR R)}(H:gc h g T)(I:ao R h L M):ao R g L M:=by obtain⟨t,rfl⟩:=H.Tr;exact I.cq
def gc.up{T:ζ (DR R)}(H:gc h g T)(e:h[a]?=Qa o):g[a]?=Qa o:=by obtain⟨t,rfl⟩:=H.Tr;exact jH e
def GY{i:θ}(h:M.aa[i]?=Qa xs):ax M i=xs:=by unfold ax;rw[h];rfl
def EM{i j:θ}:U5 M i j i=(ax M i).na j:=by unfold U5;rw[τ (Zb _),φ rfl]
theorem gc.su{i:θ}{T:ζ (DR R)}(H:gc h g T)(hi:i<T.ε):kR g (.ξ h.ε) (.Β (i:Φ))=Qa (.ξ (h.ε+(i+1))):=sl (i:=i) H.TF (r7 (Dy hi))
def OA{i j b:θ}{a:Ar R.α}{s:uk}(hd:5<=d)(I:ao R h L M)(G:kQ M p k)(U:ma M)(hl:4*p+(k+300)<=3800)(hi:i<M.aa.ε)(ha:(ax M i)[j]?=Qa a)(hb:h[b]?=Qa (mW R a))(T:gc h s.g (nJ M i j))
  (q:∀s':uk,gc h s'.g (nJ M i (j+1))->R' .nx (wb L h.ε (vN i) s'.b) s'.g):ck (ah P0 d) OB (wb L h.ε (vN i) (vR b)) s.g R':=by
 have ts:=EW (M:=M) (j:=j) hi ha;have hB:=T.up hb;have hie:M.aa[i]?=Qa (ax M i):=by unfold ax;rw[Jp hi];rfl
 have hm:=Jt hie;have e0:=Ga (M:=M) (i:=i) (j:=j) hi;rw[EM] at e0;refine vL a.di (λhe=>?_) λhe=>?_
 ·rw[he,pi] at ts
  refine(T.Tq i _ e0).ι λep hr=>?_;have ok:=(Ut (R:=R) (n:=M.aa.ε) (p:=p) (k:=k) (s:=i) (xs:=(ax M i).na j) λc hc=>by
   exact⟨(G.fv _ hm c (KO hc)).1,(G.fv _ hm c (KO hc)).2.2.2.1,λhe=>U i _ hie c (KO hc) he⟩).1
  refine(Gl (d:=d) (j:=a.t) (w:=a.w) (Jn (by decide) hd) hr ok (Jn G.n (by decide)) (R.af (Jv _) (Jr _ _) (G.fv _ hm a (Jt ha)).2.2.2.1) (Jn (Js (Js (Jn (by rw[KC];exact X4 _ _) (Jn (I.cr _ hm) G.c):((ax M i).na j).ε<=300) k) _) hl)).ι λep' e=>?_;have N:=T.Ϫ (t':=nN (l5 ((ax M i).na j)) a.t a.w) (ep:=ep') (by rw[Lk];exact hi);rw[<-ts] at N;exact j6 (.p (WD (Jn (by decide) hd:1<=d) hB)<|.t (he)<|.t (he)<|.v (l9 (T.im I))<|.v (T.su (by rw[Lk];exact hi))<|.v (ro hB)<|.v (yk hB)<|.p (e)<|.z (q ⟨_,Qd,vR b⟩ N)) (by kernel_rfl)
 ·rw[he,bm] at ts
  have N:gc h s.g (nJ M i (j+1)):=by
   simp only[ts,<-Jy.mp e0|>.2,Yq];exact T
  exact j6 (.p (WD (Jn (by decide) hd:1<=d) hB)<|.f (he)<|.c2<|.z (q ⟨s.g,Qd,vR b⟩ N)) (by kernel_rfl)
def Ow{i:θ}{s:uk}(hd:5<=d)(I:ao R h L M)(G:kQ M p k)(U:ma M)(hl:4*p+(k+300)<=3800)(hi:i<M.aa.ε)(T:gc h s.g (nJ M i 0)):
  ∃s':uk,gc h s'.g (nJ M (i+1) 0)/\exec (ah P0 d) (.fo [4] Qc (.Ix (.aq (.Ο 0) 1634886515) (.Ο 3)) OB) (wb L h.ε (vN i) s.b) s.g=Qa ((.nx,wb L h.ε (vN i) s'.b),s'.g):=by
 refine(I.mu hi).ι λr zq3=>zq3.ι λas zq4=>?_;refine(pv (c:=ah P0 d) (tg:=[4]) (many:=Qc) (a:=r) (e:=.Ix (.aq (.Ο 0) 1634886515) (.Ο 3)) (b:=OB) (vs:=as.π .ξ) (λs':uk=>wb L h.ε (vN i) s'.b) uk.g (λj s'=>gc h s'.g (nJ M i j)) s (zq4.2.1.le I zq4.2.2) rfl (λj s' T2=>T2.up zq4.2.1.l) (by exact kO (.v (oD (T.im I))<|.v (sl (T.im I).aa zq4.1)<|.z (cn (.ξ r) s.g)) rfl) T λj v s' R2 _ hv T2 C2=>?_).ι λs' e=>⟨s',by rw[<-EX];exact zq4.2.1.n▸e.1,e.2⟩;refine(zq4.2.1.a j v hv).ι λb zq1=>zq1.ι λx zq2=>?_;refine eqB zq2.1 ?_;exact lI (OA hd I G U hl hi zq2.2.1 zq2.2.2 T2 C2.nx)
abbrev zd(h:MH)(n:θ):MH:=h++.ο ((JZ (h.ε+1) n).π .ξ)::(JX n).π λ_=>.Υ (Qa 0) []
def zd1:gc h (zd h M.aa.ε) (nJ M 0 0):=by
 have e:nJ M 0 0=(JX M.aa.ε).π λ_=>([]:DR R):=by
  delta nJ;refine Ke λs _=>?_;delta U5;rw[τ (J9 _)];by_cases h:s=0
  ·rw[φ h];rfl
  ·rw[τ h];rfl
 simp only[e];exact AA (ep:=λ_=>Qa 0) (Tf:=λ_=>([]:DR R))
def Oz(I:ao R h L M):eval (ah P0 d) (.comp (.Υ []) [5] Qc (.aq (.Ο 0) kT) []) (Qa (.ξ L.m)::Qa (.ϯ Qe)::nn 9) h=Qa (.ξ h.ε,zd h M.aa.ε):=by
 have hl:(L.az.π ab.ξ).ε=M.aa.ε:=by rw[Jq,I.lv]
 refine W.eq (zT (a:=L.aA) (vs:=L.az.π .ξ) (λi=>.Υ (Qa 0) []) (by rw[hl];exact Jw I.bg (show 10000<200000 by decide)) (by rw[hl];exact Jn I.bg (by decide)) (W.of (a:=.ξ L.aA) (W.eq (by exact kO (.v (oD I)<|.z (cn (.ξ L.aA) h)) (by kernel_rfl):WE (ah P0 d) (Qa (.ξ L.m)::Qa (.ϯ Qe)::nn 9) (.aq (.Ο 0) kT) h λv g=>v=.ξ L.aA/\g=h)) ⟨rfl,I.aa,λi v t _=>?_,by rw[hl];exact⟨rfl,rfl⟩⟩));exact kO (.c<|.z (cn (.ξ (h++t).ε) ((h++t)++[.Υ (Qa 0) []]))) rfl
def Ci(hd:6<=d)(I:ao R h L M)(G:kQ M p k)(U:ma M)(hl:4*p+(k+300)<=3800)(q:∀t,gc h (h++t) (nJ M M.aa.ε 0)->Q (.ξ h.ε) (h++t)):WF P0 d 108 [.ξ L.m,.ϯ Qe] h Q:=by
 refine kN (K:=5) hd (Qa (.ξ L.m)::Qa (.ϯ Qe)::nn 9) sU rfl λd' h'=>?_;have d1:1<=d':=Jn (by decide) h';refine(oe (c:=ah P0 d') (x:=3) (n:=M.aa.ε) (e:=.bn (.py (.ty 491260897125)) [.bc (.Ο 0) qT []]) (b:=zgo) (λs:uk=>wb L h.ε s.a s.b) uk.g (λi s=>gc h s.g (nJ M i 0)) ⟨zd h M.aa.ε,Qd,Qd⟩ (Mf I) rfl (by exact kO (.p (pH d1 ((zd1 (h:=h) (M:=M)).im I))<|.c<|.z (cn (.gq M.aa.ε) (zd h M.aa.ε))) rfl) (zd1 (h:=h) (M:=M)) λi s R1 _ hi T1 C1=>(Ow (d:=d') h' I G U hl hi T1).ι λs' e=>by exact j6 (.s (e.2)<|.z (C1.nx ⟨s'.g,vN i,s'.b⟩ e.1)) rfl).ι λs e=>e.1.Tr.ι λt ht=>?_;have e2:=e.2;rw[ht] at e2;exact j6 (.p (pH d1 I)<|.c<|.f ((Θ (by have:=G.n;lia):decide ((M.aa.ε:Φ)>2000)=Qc))<|.p (Oz (d:=d') I)<|.s (e2)<|.z (q t (ht▸e.1:gc h (h++t) (nJ M M.aa.ε 0)))) rfl
end
variable{f:α->β}
def Wg{m n:ζ β}(h:m.No n):∀l:ζ α,n=l.π f->∃l':ζ α,l'.No l/\m=l'.π f:=by
 induction h with
 |Ϝ=>intro l e;exact⟨l,.TC l,e⟩
 |Ι x _ ih=>
  intro l e;cases l with
  |Ϝ=>cases e
  |Ι a l=>
   obtain⟨rfl,e2⟩:=Kl.lf e;obtain⟨l',p,rfl⟩:=ih l e2;exact⟨a::l',p.Ι a,rfl⟩
 |swap x y r=>
  intro l e;cases l with
  |Ϝ=>cases e
  |Ι a l=>
   cases l with
   |Ϝ=>cases e
   |Ι b l=>
    obtain⟨rfl,e2⟩:=Kl.lf e;obtain⟨rfl,rfl⟩:=Kl.lf e2;exact⟨b::a::l,.swap a b l,rfl⟩
 |trans _ _ ih1 ih2=>
  intro l e;obtain⟨l1,p1,e1⟩:=ih2 l e;obtain⟨l2,p2,e2⟩:=ih1 l1 e1;exact⟨l2,p2.ν p1,e2⟩
def E7(f:α->ab)(l:ζ α):ζ α:=LE.choose (Wg (tH (l.π f)) l rfl)
theorem xN{f:α->ab}(l:ζ α):(E7 f l).No l:=(LE.choose_spec (Wg (tH (l.π f)) l rfl)).1
def zcU(z:Cx){f:α->ab}{x:ab}{l:ζ α}(hx:wH h x=Qa (l.π f))(hl:l.ε<=60)(ok:(∃b,∀a,m9 (f a)=Qe/\(f a).str?.ϟ=b)\/∃k0,∀a,jV (f a)=3/\O0 (f a)=Qe::k0):jO z (.bi tO) [x] h=Qa (.ξ h.ε,h++[.ο ((E7 f l).π f)]):=by
 refine W.eq (SE (v:=.ξ h.ε) (h':=h++[.ο ((E7 f l).π f)]) ?_ ⟨rfl,rfl⟩);show (wH h x).Η _=_;rw[hx];have hk:okV (l.π f)=true:=by
  refine Jo.ϥ ⟨KJ (by rw[Jq];exact hl),?_⟩;cases l with
  |Ϝ=>rfl
  |Ι x l=>
   refine KW.ϥ (ok.imp (λq=>?_) λq=>?_)
   ·obtain⟨b,q⟩:=q
    refine Za.ϥ λv hv=>?_;obtain⟨a,_,rfl⟩:=JL.mp hv;show (m9 (f a) && (f a).str?.ϟ==(f x).str?.ϟ)=Qe;simp only[(q a).1,(q a).2,(q x).2,Ϧ];rfl
   ·obtain⟨k0,q⟩:=q
    refine Za.ϥ λv hv=>?_;obtain⟨a,_,rfl⟩:=JL.mp hv;show (jV (f a)==3 && decide (O0 (f a)=Qe::(O0 (f x)).pc))=Qe;simp only[(q a).1,(q a).2,(q x).2];exact Jo.ϥ ⟨rfl,Γ rfl⟩
 show aw (okV (l.π f)) _=_;rw[hk];show Qa (_,h++[.ο (yX (l.π f))])=_;rw[show yX (l.π f)=(E7 f l).π f from(LE.choose_spec (Wg (tH (l.π f)) l rfl)).2]
def kvL(ha:h[a]?=Qa (.ο vs)):wH h (.ξ a)=Qa vs:=by
 delta wH;rw[M4 ha,oW ha];rfl
def kvD{ep:η θ}(ha:h[a]?=Qa (.Υ ep es)):wH h (.ξ a)=Qa (es.π (·.1)):=by
 delta wH;rw[mT ha];rfl
section
variable{c:Cx}{h0:MH}
theorem RY{r:DR R}:((kX r).Hd λp=>jV p.1==1)=true:=Za.ϥ λp hp=>by
 refine(JL.mp hp).ι λx zq2=>?_;refine eqE zq2.2 ?_;rfl
def NV{ep:η θ}{r:DR R}(ha:h[a]?=Qa (.Υ ep (kX r)))(q:Q (.ξ h.ε) (h++[.Υ Qd (kX r)])):WV c (.ty A8) [.ξ a] h Q:=by
 refine BE (v:=.ξ h.ε) (h':=h++[.Υ Qd (kX r)]) ?_ q;show bj ((lN h (.ξ a)).Η λd=>aw (d.2.Hd λp=>jV p.1==1) (mC h (.Υ Qd d.2))) _=_;rw[mT ha];show bj (aw ((kX r).Hd λp=>jV p.1==1) (mC h (.Υ Qd (kX r)))) _=_;rw[RY];rfl
abbrev iV(n:θ):ab:=.Β (n:Φ)
def j2(r:DR R):ζ θ:=E7 iV (jK r)
theorem kC{r:DR R}:(j2 r).No (jK r):=xN _
theorem xO{r:DR R}:(jK r).ε=r.ε:=Jq ..
theorem cB(z:Cx){ep:η θ}{r:DR R}(ha:h[a]?=Qa (.Υ ep (kX r))):jO z (.ty A8) [.ξ a] h=Qa (.ξ h.ε,h++[.Υ Qd (kX r)]):=W.eq (NV ha ⟨rfl,rfl⟩)
theorem cA(z:Cx){ep:η θ}{r:DR R}(ha:h[a]?=Qa (.Υ ep (kX r)))(h2:r.ε<=60):jO z (.bi tO) [.ξ a] h=Qa (.ξ h.ε,h++[.ο ((j2 r).π λn:θ=>ab.Β (n:Φ))]):=
 zcU z (f:=iV) ((kvD ha).ν (by delta kX jK;rw[KN,KN];rfl)) (Jn (JF xO) h2) (.wv ⟨Qc,λ_=>⟨rfl,rfl⟩⟩)
def d9(k:θ){ep:η θ}{r:DR R}(ha:h[a]?=Qa (.Υ ep (kX r))):mX .qr (.Β k) (.ξ a) h=Qa (decide (k∈jK r)):=by
 show bj ((kP h (.ξ a)).Η _) ((lN h (.ξ a)).Η λd=>aw (jT d.2 (.Β k)) (Qa (jW d.2 (.Β k)).ϟ))=_;rw[sA ha,mT ha];show aw (jT (kX r) (.Β k)) (Qa (jW (kX r) (.Β k)).ϟ)=_;rw[UL,HB];by_cases hk:k∈jK r
 ·rw[φ hk,Γ hk];rfl
 ·rw[τ hk,Θ hk];rfl
theorem sR{ep:η θ}{r:DR R}(ha:h[a]?=Qa (.Υ ep (kX r)))(hk:k∈jK r):kR h (.ξ a) (.Β k)=Qa (R.e (jP r k)):=sd ha UL (by rw[HB,φ hk])
theorem zap(z:Cx){ep:η θ}{r:DR R}(ha:h[a]?=Qa (.Υ ep (kX r))):jO z (.bi uD) [.ξ a] h=Qa (.Β r.ε,h):=W.eq (An ha ⟨by unfold kX;rw[Jq],rfl⟩)
end
section
variable{h0:MH}
structure SX(R:Rg) where
 h:MH
 aT:θ
 n:θ
 p:θ
 K:θ
 Tf:θ->DR R
def kz(X:SX R):Prop:=(∀k,k<X.n->ER X.n X.p X.K k (X.Tf k))/\X.n<=60/\4*(X.p*X.n)+(X.K*X.n+X.n+1)<=3800
section
variable{X:SX R}(ψ:kz X)
def kz.er:=@ψ.1
def kz.n:=@ψ.2.1
def kz.bd:=@ψ.2.2
end
variable{X:SX R}
def mI(X:SX R)(i k:θ)(t:DR R):Prop:=SR X.n X.p X.K i k t/\(∀N B:θ->R.α,(∀s,s<X.n->B s=R.am (N s) (j7 (X.Tf s) B))->j7 t (bk N B k)=j7 (X.Tf i) B)/\(k<=i->t=X.Tf i)
section
variable{X:SX R}{i k:Nat}{t:DR R}(ψ:mI X i k t)
def mI.sr:=@ψ.1
def mI.ev:=@ψ.2.1
def mI.un:=@ψ.2.2
end
def mI.Κ{i:θ}(O:kz X)(hi:i<X.n):mI X i 0 (X.Tf i):=by
 have E:=O.er i hi;refine⟨⟨E.nd,E.lt,λq hq=>?_⟩,λN B _=>rfl,λ_=>rfl⟩;have h1:i<q.1:=(E.lt _ (JL.ϥ ⟨q,hq,rfl⟩)).1;exact R.af (Z5 _ (YQ h1)) (Z5 _ (YQ h1)) (E.dg q hq)
theorem mI.rk{i:θ}(H:mI X i k t)(hk:k∉jK t):mI X i (k+1) t:=
 ⟨H.sr.Τ (Zp _),λN B e=>(Co H.sr hk).ν (H.ev N B e),λh=>H.un (JN (KI h))⟩
def mI.step{i:θ}{t':DR R}{l:ζ θ}(O:kz X)(H:mI X i k t)(hk:k∈jK t)(hl:l.No (jK (X.Tf k)))(e:t'=F8 (X.Tf k) (jP t k) l t)(D:ul X.n X.p X.K i k [] t'):mI X i (k+1) t':=by
 have hkn:=H.sr.lt k hk;exact⟨⟨D.nd,D.lt,D.dg⟩,λN B q=>by rw[e,Cp H.sr (O.er k hkn.2) hl (q k hkn.2) hk];exact H.ev N B q,λh=>ς hkn.1 (ZH (JN (KI h)))⟩
abbrev jq(R:Rg):=MH×ζ (DR R)×η ab×η ab×η ab×η ab×η ab×η ab
section
variable{R:Rg}(ψ:jq R)
abbrev jq.g:=ψ.1
abbrev jq.T:=ψ.2.1
abbrev jq.a:=ψ.2.2.1
abbrev jq.b:=ψ.2.2.2.1
abbrev jq.c:=ψ.2.2.2.2.1
abbrev jq.d:=ψ.2.2.2.2.2.1
abbrev jq.e:=ψ.2.2.2.2.2.2.1
abbrev jq.f:=ψ.2.2.2.2.2.2.2
end
def jd(X:SX R)(a b c d e f:η ab):Ψ.Λ:=Qa (.aj (112+R.i))::Qa (.ξ X.aT)::Qa (.ξ X.h.ε)::a::b::c::d::e::f::nn 6
def Um(X:SX R)(g:MH)(a:θ)(o:ae):Prop:=X.h.ε+X.n<a/\g[a]?=Qa o
section
variable{X:SX R}{g:MH}{a:Nat}{o:ae}(ψ:Um X g a o)
def Um.ge:=@ψ.1
def Um.TF:=@ψ.2
end
theorem Um.Ϫ{i:θ}(B:Um X g a o)(hi:i<X.n):Um X (g.Ϫ (X.h.ε+(i+1)) o') a o:=⟨B.ge,jZ (by have:=B.ge;exact ZG (Jw (JJ (Jv _) (Zc hi)) this)) B.TF⟩
theorem Um.cq{t:MH}(B:Um X g a o):Um X (g++t) a o:=⟨B.ge,jH B.TF⟩
abbrev JS(R:Rg):=MH×DR R×η ab
section
variable{R:Rg}(ψ:JS R)
abbrev JS.g:=ψ.1
abbrev JS.t:=ψ.2.1
abbrev JS.b:=ψ.2.2
end
def JP(X:SX R)(T:ζ (DR R))(i k aO aS:θ)(t0:DR R)(j:θ)(s:JS R):Prop:=gc X.h s.g (T.Ϫ i s.t)/\s.t=F8 (X.Tf k) (jP t0 k) ((j2 (X.Tf k)).na j) t0/\ul X.n X.p X.K i k ((j2 (X.Tf k)).jp j) s.t/\Um X s.g aO (.Υ Qd (kX (X.Tf k)))/\Um X s.g aS (.ο ((j2 (X.Tf k)).π λn:θ=>.Β (n:Φ)))
section
variable{X:SX R}{T:List (DR R)}{i k aO aS:Nat}{t0:DR R}{j:Nat}{s:JS R}(ψ:JP X T i k aO aS t0 j s)
def JP.T:=@ψ.1
def JP.e:=@ψ.2.1
def JP.D:=@ψ.2.2.1
def JP.o:=@ψ.2.2.2.1
def JP.l:=@ψ.2.2.2.2
end
theorem LF{r:DR R}(h:(jK r).Ω):(j2 r).Ω:=kC.nodup_iff.ϥ h
def pL{l:ζ α}{j:θ}{x:α}(h:l[j]?=Qa x):l.jp j=x::l.jp (j+1):=by
 refine(Jy.mp h).ι λh1 zq1=>?_;refine eqE zq1 ?_;exact ZK h1
def U9{l:ζ α}{j:θ}{x:α}(h:l[j]?=Qa x):l.na (j+1)=l.na j++[x]:=by
 simp only[Kn,h];rfl
theorem ul.ok{i P:θ}{l:ζ θ}(H:ul n p K i k l t)(h1:p*n<=P)(h2:K*n+(k+1)<=K'):pR n P K' t:=⟨H.nd,λx hx=>(H.lt x hx).2,λq hq=>by
 exact R.af (Jn (JI _ (by have:q.1<n:=((H.lt _ (JL.ϥ ⟨q,hq,rfl⟩)).2);exact JN (Z4 this):q.1-i<=n)) h1) (Jn (JV (JI _ (by have:q.1<n:=((H.lt _ (JL.ϥ ⟨q,hq,rfl⟩)).2);exact JN (Z4 this):q.1-i<=n)) _) h2) (H.dg q hq)⟩
abbrev jB:ζ Sm:=[.expr (.bn (.py (.aj 104)) [.Ο 0,.Ix (.Ο 2) (.Ο 6),.Ο 8,.bc (.Ο 0) pd [.Ο 7,.Ix (.Ο 4) (.Ο 8)]])]
def zei{i:θ}(hi:i<k)(hk:k<x)(hx:x<n)(bd:4*(p*n)+(K*n+n+1)<=3800):p*(x-i)<=p*n/\K*(x-i)+k<=K*n+(k+1)/\4*(p*(k-i)+p)+(K*(k-i)+k+K)<=3800/\4*(p*n)+(K*n+(k+1))<=3800:=by
 have e3:p*(k-i)+p<=p*n:=by rw[<-Kz];exact JI _ (Zc (Z4 (Zv hk hx)))
 have e4:K*(k-i)+K<=K*n:=by rw[<-Kz];exact JI _ (Zc (Z4 (Zv hk hx)))
 exact⟨JI _ (JN (Z4 hx)),JJ (JI _ (JN (Z4 hx)):K*(x-i)<=K*n) (Jr _ _),Jn (JJ (JI 4 e3) (Jn (JF (ZF _ _ _)) (Zs (JJ e4 (JN (Zv hk hx)))))) bd,Jn (Js (Js (Zs (Zv hk hx)) _) _) bd⟩
def zeh{T:ζ (DR R)}{i j:θ}{t0:DR R}{s:JS R}(hd:5<=d)(O:kz X)(hT:T.ε=X.n)(H:SR X.n X.p X.K i k t0)(hi:i<k)(hk:k∈jK t0)(hx:(j2 (X.Tf k))[j]?=Qa x)(P:JP X T i k aO aS t0 j s)
  (q:∀s',JP X T i k aO aS t0 (j+1) s'->R' .nx (jd X (vN k) (vR aO) (Qa (R.e R.cw)) (vN i) (Qa (R.e (jP t0 k))) s'.b) s'.g):
  ck (ah P0 d) jB (jd X (vN k) (vR aO) (Qa (R.e R.cw)) (vN i) (Qa (R.e (jP t0 k))) (vN x)) s.g R':=by
 have E:=O.er k (H.lt k hk).2;have hxk:x∈jK (X.Tf k):=kC.tz.mp (Jt hx);have ue:=E.lt x hxk;have hin:i<X.n:=Zv hi (H.lt k hk).2;have D:=P.D;rw[pL hx] at D;have nd:=LF E.nd;rw[<-Kw j (j2 (X.Tf k)),pL hx] at nd;have hil:i<(T.Ϫ i s.t).ε:=by rw[Zd,hT];exact hin
 have hf:=H.Mi hk;have hw:R.D X.p X.K (jP (X.Tf k) x):=E.dg _ (oS hxk);have B:=zei (p:=X.p) (K:=X.K) hi ue.1 ue.2 O.bd;refine(P.T.Tq i s.t (J6 (by rw[hT];exact hin))).ι λep hr=>?_;refine(Gl (d:=d) (j:=x) (w:=R.ss (jP t0 k) (jP (X.Tf k) x)) (n:=X.n) (P:=X.p*X.n) (K:=X.K*X.n+(k+1)) (Jn (by decide) hd) hr (D.ok (Jv _) (Jv _)) (Jn O.n (by decide)) (R.af B.1 B.2.1 (UC (n:=0) (j:=x) hf hw hi ue.1 (Jv _))) B.2.2.2).ι λep' e=>?_;have T':=P.T.Ϫ (t':=nN s.t x (R.ss (jP t0 k) (jP (X.Tf k) x))) (ep:=ep') hil;rw[qaV] at T';have N:JP X T i k aO aS t0 (j+1) ⟨_,nN s.t x (R.ss (jP t0 k) (jP (X.Tf k) x)),vN x⟩:=⟨T',by
  show nN s.t x _=_;rw[U9 hx];delta F8;rw[YR,P.e];rfl,D.am ((JH.mp (Kj.mp nd).2.1).1) (Zv hi ue.1) ue.2 (UC (n:=0) (j:=x) hf hw hi ue.1 (Jv _)),P.o.Ϫ hin,P.l.Ϫ hin⟩
 exact j6 (.v ((P.T.su hil:kR s.g (.ξ X.h.ε) (.Β (i:Φ))=Qa (.ξ (X.h.ε+(i+1)))))<|.v (sR P.o.TF hxk)<|.q (R.ti (Jn (by decide) hd) hf hw B.2.2.1)<|.p (e)<|.z (q _ N)) (by kernel_rfl)
end
section
variable{h0:MH}{X:SX R}
def KP(X:SX R)(k i:θ)(s:jq R):Prop:=gc X.h s.g s.T/\s.T.ε=X.n/\∀r t,s.T[r]?=Qa t->mI X r (if r<i then k+1 else k) t
section
variable{X:SX R}{k i:Nat}{s:jq R}(ψ:KP X k i s)
def KP.T:=@ψ.1
def KP.lv:=@ψ.2.1
def KP.Tq:=@ψ.2.2
end
def IP(X:SX R)(k aO i:θ)(s:jq R):Prop:=KP X k i s/\Um X s.g aO (.Υ Qd (kX (X.Tf k)))
section
variable{X:SX R}{k aO i:Nat}{s:jq R}(ψ:IP X k aO i s)
def IP.K:=@ψ.1
def IP.o:=@ψ.2
end
theorem KP.ϫ{s s':jq R}(K:KP X k X.n s)(e1:s'.g=s.g)(e2:s'.T=s.T):KP X (k+1) 0 s':=⟨by rw[e1,e2];exact K.T,by rw[e2];exact K.lv,λr t h=>by
 rw[e2] at h
 have:=K.Tq r t h
 rw[φ (by rw[<-K.lv];exact jR h)] at this;rwa [τ (J9 _)]⟩
theorem KP.xn{i:θ}{s s':jq R}{t':DR R}(K:KP X k i s)(hT:gc X.h s'.g s'.T)(e:s'.T=s.T.Ϫ i t')(hi:i<X.n)(ht:mI X i (k+1) t'):KP X k (i+1) s':=⟨hT,by rw[e,Zd];exact K.lv,λr t h=>by
 rw[e] at h;by_cases hr:i=r
 ·subst hr
  rw[J6 (by rw[K.lv];exact hi)] at h;refine lV h ?_;rw[φ (JR _)];exact ht
 ·rw[J7 hr] at h
  have:=K.Tq r t h
  by_cases h1:r<i
  ·rw[φ h1] at this;rwa [φ (ZJ h1)]
  ·rw[τ h1] at this;rwa [τ (ZH (Zc (ZX (ZM h1) hr)))]⟩
def LG{l:ζ α}{i:θ}{x:α}(h:l[i]?=Qa x):l.Ϫ i x=l:=by
 refine(Jy.mp h).ι λh1 zq2=>?_;refine eqE zq2 ?_;exact Yq h1
abbrev iB:ζ Sm:=[.ite (.gm .qr (.Ο 3) (.Ix (.Ο 2) (.Ο 6))) [.ft (.nm 7) (.bc (.Ο 0) pd [.Ix (.Ix (.Ο 2) (.Ο 6)) (.Ο 3),.Ο 5]),.fo [8] Qc (.bn (.py (.bi 126922498794852)) [.Ο 4]) jB] []]
def zfq{i:θ}{s:jq R}{t0:DR R}(hd:5<=d)(O:kz X)(hk:k<X.n)(hi:i<X.n)(hne:X.Tf k≠[])(P:IP X k aO i s)(hie:s.T[i]?=Qa t0)(I:mI X i k t0)(hin:k∈jK t0):
  ∃s',IP X k aO (i+1) s'/\s'.e=Qa (R.e (jP t0 k))/\exec (ah P0 d) (.fo [8] Qc (.bn (.py (.bi 126922498794852)) [.Ο 4]) jB) (jd X (vN k) (vR aO) (Qa (R.e R.cw)) (vN i) (Qa (R.e (jP t0 k))) s.f) s.g=Qa ((.nx,jd X (vN k) (vR aO) (Qa (R.e R.cw)) (vN i) (Qa (R.e (jP t0 k))) s'.f),s'.g):=by
 have hlen:(X.Tf k).ε<=60:=Jn (show pR X.n X.p X.K (X.Tf k) from⟨(O.er k hk).nd,λx hx=>((O.er k hk).lt x hx).2,(O.er k hk).dg⟩).lv O.n;have w:WS (ah P0 d) (.fo [8] Qc (.bn (.py (.bi 126922498794852)) [.Ο 4]) jB) (jd X (vN k) (vR aO) (Qa (R.e R.cw)) (vN i) (Qa (R.e (jP t0 k))) s.f) s.g λfl f g=>∃s':JS R,JP X s.T i k aO s.g.ε t0 (j2 (X.Tf k)).ε s'/\fl=.nx/\f=jd X (vN k) (vR aO) (Qa (R.e R.cw)) (vN i) (Qa (R.e (jP t0 k))) s'.b/\g=s'.g:=by
  have e0:WE (ah P0 d) (jd X (vN k) (vR aO) (Qa (R.e R.cw)) (vN i) (Qa (R.e (jP t0 k))) s.f) (.bn (.py (.bi 126922498794852)) [.Ο 4]) s.g λv g=>v=.ξ s.g.ε/\g=s.g++[.ο ((j2 (X.Tf k)).π λn:θ=>.Β (n:Φ))]:=by exact kO (.p (cA (ah P0 d) P.o.TF hlen)<|.z (cn (.ξ s.g.ε) (s.g++[.ο ((j2 (X.Tf k)).π λn:θ=>.Β (n:Φ))]))) rfl
  refine rY (a:=s.g.ε) (vs:=(j2 (X.Tf k)).π λn:θ=>.Β (n:Φ)) (λs':JS R=>jd X (vN k) (vR aO) (Qa (R.e R.cw)) (vN i) (Qa (R.e (jP t0 k))) s'.b) JS.g (JP X s.T i k aO s.g.ε t0) (by rw[(Jq .. :((j2 (X.Tf k)).π λn:θ=>ab.Β (n:Φ)).ε=(j2 (X.Tf k)).ε)];exact Jw (by rw[kC.u8,xO];exact hlen:(j2 (X.Tf k)).ε<=60) (show 60<200000 by decide)) ⟨s.g++[.ο ((j2 (X.Tf k)).π λn:θ=>.Β (n:Φ))],t0,s.f⟩ (λj s' P'=>P'.l.TF) (e0.Τ λv g q=>⟨q.1,rfl,q.2,⟨by rw[LG hie];exact P.K.T.cq,rfl,I.sr.l _,P.o.cq,⟨Zv P.o.ge (j4 P.o.TF),ap⟩⟩⟩) (λj v s' R2 hv P2 C2=>?_) λs' P'=>⟨s',(Jq .. :((j2 (X.Tf k)).π λn:θ=>ab.Β (n:Φ)).ε=(j2 (X.Tf k)).ε)▸P',rfl,rfl,rfl⟩;rw[JE] at hv;refine(Zm.mp hv).ι λx zq1=>?_;refine eqE zq1.2 ?_;exact lI (zeh hd O P.K.lv I.sr (I.sr.lt k hin).1 hin zq1.1 P2 C2.nx)
 obtain⟨⟨fl,f⟩,g,e,s',P',q1,q2,q3⟩:=W.Mi w;refine eqE q1 ?_;subst q2;subst q3;have D:=P'.D;have e1:=P'.e;rw[ZS] at D;rw[Zj] at e1;exact⟨⟨s'.g,s.T.Ϫ i s'.t,Qd,Qd,Qd,Qd,Qa (R.e (jP t0 k)),s'.b⟩,⟨P.K.xn P'.T rfl hi (I.step O hin kC e1 D),P'.o⟩,rfl,e⟩
def zek{i:θ}(hk:k<n)(bd:4*(p*n)+(K*n+n+1)<=3800):4*(p*(k-i)+0)+(K*(k-i)+k+0)<=3800:=by
 exact Jn (JJ (JI 4 (JI _ (JN (Z4 hk)):p*(k-i)<=p*n)) (Zs (JJ (JI _ (JN (Z4 hk)):K*(k-i)<=K*n) (JN hk)):K*(k-i)+k<=K*n+n+1)) bd
def zej{i:θ}{s:jq R}(hd:5<=d)(O:kz X)(hk:k<X.n)(hi:i<X.n)(hne:X.Tf k≠[])(P:IP X k aO i s)
  (q:∀s',IP X k aO (i+1) s'->R' .nx (jd X (vN k) (vR aO) (Qa (R.e R.cw)) (vN i) s'.e s'.f) s'.g):
  ck (ah P0 d) iB (jd X (vN k) (vR aO) (Qa (R.e R.cw)) (vN i) s.e s.f) s.g R':=by
 have hil:i<s.T.ε:=by rw[P.K.lv];exact hi
 have hie:=Jp hil;have I:=P.K.Tq i _ hie;rw[τ (Zb _)] at I;refine(P.K.T.Tq i _ hie).ι λep hr=>?_;cases (mt:Ch (k∈jK s.T[i])) with
 |isTrue hin=>
  refine(zfq (d:=d) hd O hk hi hne P hie I hin).ι λs' e=>?_;have e1:=R.ti (d:=d) (Jn (by decide) hd) (I.sr.Mi hin) R.gd (zek hk O.bd);rw[R.Tb,R.one_mul] at e1;exact j6 (.v ((P.K.T.su hil))<|.b (d9 k hr)<|.t (Γ hin)<|.v ((P.K.T.su hil))<|.v (sR hr hin)<|.q (e1)<|.s (e.2.2)<|.z ((show R' .nx (jd X (vN k) (vR aO) (Qa (R.e R.cw)) (vN i) (Qa (R.e (jP s.T[i] k))) s'.f) s'.g from e.2.1▸q s' e.1))) rfl
 |isFalse hin=>exact j6 (.v ((P.K.T.su hil))<|.b (d9 k hr)<|.f (Θ hin)<|.z (q s ⟨P.K.xn (t':=s.T[i]) P.K.T (LG hie).Μ hi (I.rk hin),P.o⟩)) rfl
end
section
variable{h0:MH}{X:SX R}
def gc.lt{T:ζ (DR R)}(H:gc h g T):h.ε+T.ε<g.ε:=by
 cases e:T.ε with
 |zero=>have:=j4 H.TF;exact KI (Zc this)
 |succ n=>
  refine(H.Tq n _ (Jp (KI (JF (XJ e))))).ι λep zq1=>?_
  have:=j4 zq1;exact this
def gc.ln(z:Cx){T:ζ (DR R)}(H:gc h g T)(hn:T.ε=n):jO z (.bi uD) [.ξ h.ε] g=Qa (.Β n,g):=by rw[FW H.TF,Jq,KB,hn]
theorem KP.fy{s s':jq R}(O:kz X)(K:KP X k 0 s)(e:X.Tf k=[])(e1:gc X.h s'.g s'.T)(e2:s'.T=s.T):KP X (k+1) 0 s':=⟨e1,by rw[e2];exact K.lv,λr t h=>by
 rw[e2] at h;have I:=K.Tq r t h;rw[τ (J9 _)] at I ⊢;by_cases hk:k∈jK t
 ·refine I.step (l:=[]) O hk (by rw[e];exact .Ϝ) (by rw[e];rfl) ⟨I.sr.nd,I.sr.lt,(I.sr.Τ (Zp k)).dg,λq _ hq=>ς hq Jz⟩
 ·exact I.rk hk⟩
abbrev kB:ζ Sm:=[.ft (.nm 4) (.bn (.py (.ty 1684628340)) [.Ix (.Ο 2) (.Ο 3)]),.ite (.gm .eq (.bn (.py (.bi 7103854)) [.Ο 4]) (.py (.Β 0))) [.cont] [],.ft (.nm 5) (.bc (.Ο 0) wg [.bc (.Ο 4) 6776180 [.Ο 3,.aq (.Ο 0) oi]]),.fo [6] Qc (.bn (.py (.ty 491260897125)) [.bn (.py (.bi 7103854)) [.Ο 2]]) iB]
abbrev wd:Ex:=.bn (.py (.ty 491260897125)) [.bn (.py (.bi 7103854)) [.Ο 2]]
theorem zfr{s:jq R}(hd:5<=d)(O:kz X)(hk:k<X.n)(hne:X.Tf k≠[])(P:IP X k aO 0 s):∃s',KP X (k+1) 0 s'/\exec (ah P0 d) (.fo [6] Qc wd iB) (jd X (vN k) (vR aO) (Qa (R.e R.cw)) s.d s.e s.f) s.g=Qa ((.nx,jd X (vN k) (vR aO) (Qa (R.e R.cw)) s'.d s'.e s'.f),s'.g):=
 (oe (c:=ah P0 d) (x:=6) (n:=X.n) (e:=wd) (b:=iB) (λs':jq R=>jd X (vN k) (vR aO) (Qa (R.e R.cw)) s'.d s'.e s'.f) jq.g (IP X k aO) s (Jn O.n (by decide)) rfl (by exact kO (.p (P.K.T.ln (ah P0 d) P.K.lv)<|.c<|.z (cn (.gq X.n) s.g)) (by kernel_rfl)) P λi s' R1 _ hi P1 C1=>zej hd O hk hi hne P1 λs2 P2=>C1.nx ⟨s2.1,s2.2.1,s2.2.2.1,s2.2.2.2.1,s2.2.2.2.2.1,vN i,s2.2.2.2.2.2.2⟩ ⟨⟨P2.K.T,P2.K.lv,P2.K.Tq⟩,P2.o⟩).ι λs' e=>⟨s',e.1.K.ϫ rfl rfl,e.2⟩
theorem Rg.st(R:Rg)(hd:3<=d)(h:MH):kI (ah P0 d) (.aj (112+R.i)) S8 [R.e R.Κ] h h=Qa (R.e R.cw,h):=W.eq (R.gf hd ⟨rfl,rfl⟩)
def zeg{s:jq R}(hd:6<=d)(O:kz X)(hk:k<X.n)(K:KP X k 0 s)
  (q1:∀s',KP X (k+1) 0 s'->R' .nx (jd X (vN k) s'.b s'.c s'.d s'.e s'.f) s'.g) (q2:∀s',KP X (k+1) 0 s'->R' .ct (jd X (vN k) s'.b s'.c s'.d s'.e s'.f) s'.g):
  ck (ah P0 d) kB (jd X (vN k) s.b s.c s.d s.e s.f) s.g R':=by
 have hkl:k<s.T.ε:=by rw[K.lv];exact hk
 have I:=K.Tq k _ (Jp hkl);rw[τ (J9 _)] at I;refine(K.T.Tq k _ (Jp hkl)).ι λep hr=>?_;rw[I.un (Jv _)] at hr;have hlt:=K.T.lt;rw[K.lv] at hlt;have o1:Um X (s.g++[.Υ Qd (kX (X.Tf k))]) s.g.ε (.Υ Qd (kX (X.Tf k))):=⟨hlt,ap⟩;cases (mt:Ch ((X.Tf k).ε=0)) with
 |isTrue hz=>
  have hb:(((X.Tf k).ε:Φ)==0)=true:=by rw[hz];rfl
  exact j6 (.v ((K.T.su hkl:kR s.g (.ξ X.h.ε) (.Β (k:Φ))=Qa (.ξ (X.h.ε+(k+1)))))<|.p (cB (ah P0 d) hr)<|.p (zap (ah P0 d) o1.TF)<|.k (vm (X.Tf k).ε 0)<|.t (hb)<|.z (q2 ⟨s.g++[.Υ Qd (kX (X.Tf k))],s.2.1,s.2.2.1,vR s.g.ε,s.2.2.2.2⟩ (K.fy O (ζ.eq_nil_of_length_eq_zero hz) K.T.cq rfl))) rfl
 |isFalse hz=>
  refine(zfr (d:=d) (s:=⟨s.g++[.Υ Qd (kX (X.Tf k))],s.2⟩) (Jn (by decide) hd) O hk (λe=>hz (by rw[e];rfl)) ⟨⟨K.T.cq,K.lv,K.Tq⟩,o1⟩).ι λs' e=>?_;have eg:=zar (ah P0 d) o1.TF k;rw[p9 λq=>ς ((O.er k hk).lt k q).1 (Zb _)] at eg;exact j6 (.v ((K.T.su hkl:kR s.g (.ξ X.h.ε) (.Β (k:Φ))=Qa (.ξ (X.h.ε+(k+1)))))<|.p (cB (ah P0 d) hr)<|.p (zap (ah P0 d) o1.TF)<|.k (vm (X.Tf k).ε 0)<|.f ((ϧ λe=>hz (Ye.mp e):(((X.Tf k).ε:Φ)==0)=Qc))<|.w (R.no)<|.p (eg)<|.q (R.st (d:=d) (Jn (by decide) hd))<|.s (e.2)<|.z (q1 ⟨s'.1,s'.2.1,s'.2.2.1,vR s.g.ε,Qa (R.e R.cw),s'.2.2.2.2.2⟩ ⟨e.1.T,e.1.lv,e.1.Tq⟩)) (by kernel_rfl)
end
section
variable{h0:MH}{X:SX R}
def SD(X:SX R)(i:θ)(t:DR R):Prop:=pR X.n (X.p*X.n) (X.K*X.n+X.n+1) t/\(∀N B:θ->R.α,(∀s,s<X.n->B s=R.am (N s) (j7 (X.Tf s) B))->j7 t N=B i)/\i∈jK t
section
variable{X:SX R}{i:Nat}{t:DR R}(ψ:SD X i t)
def SD.ok:=@ψ.1
def SD.ev:=@ψ.2.1
def SD.me:=@ψ.2.2
end
theorem SR.ok{i P:θ}(H:SR n p K i k t)(h1:p*n<=P)(h2:K*n+k<=K'):pR n P K' t:=⟨H.nd,λx hx=>(H.lt x hx).2,λq hq=>by
 have hx:q.1<n:=(H.lt _ (JL.ϥ ⟨q,hq,rfl⟩)).2;exact R.af (Jn (JI _ (JN (Z4 hx):q.1-i<=n)) h1) (Jn (JV (JI _ (JN (Z4 hx):q.1-i<=n)) _) h2) (H.dg q hq)⟩
def mI.done{i:θ}(ne:R.cw≠R.Κ)(hi:i<X.n)(I:mI X i X.n t):SD X i (nN t i R.cw):=by
 refine⟨AR (I.sr.ok (Jv _) (Jv _)) hi (R.af (JB _) (JB _) R.gd),λN B e=>?_,?_⟩
 ·rw[Wc,R.one_mul,e i hi]
  congr 1
  rw[<-I.ev N B e];exact oT λx hx=>(φ (I.sr.lt x hx).2).Μ
 ·delta nN
  rw[τ ne];exact(oP i).ϥ (.IO rfl)
def FP(X:SX R)(i:θ)(s:jq R):Prop:=gc X.h s.g s.T/\s.T.ε=X.n/\∀r t,s.T[r]?=Qa t->(i<=r->mI X r X.n t)/\(r<i->SD X r t)
section
variable{X:SX R}{i:Nat}{s:jq R}(ψ:FP X i s)
def FP.T:=@ψ.1
def FP.lv:=@ψ.2.1
def FP.Tq:=@ψ.2.2
end
def EH(X:SX R)(g:MH)(T:ζ (DR R)):Prop:=gc X.h g T/\T.ε=X.n/\∀r t,T[r]?=Qa t->SD X r t
section
variable{X:SX R}{g:MH}{T:List (DR R)}(ψ:EH X g T)
def EH.tb:=@ψ.1
def EH.lv:=@ψ.2.1
def EH.Tq:=@ψ.2.2
end
theorem Rg.bP(R:Rg)(h:MH):getAttr P0 h (.aj (112+R.i)) FL=Qa (R.e R.cw):=Wo.eq (R.xr (Q:=λv _=>v=_) rfl)
theorem zef(bd:4*(p*n)+(K*n+n+1)<=3800):4*(p*n)+(K*n+n)<=3800:=Jn (JJ (Jv _) (Jr _ _)) bd
abbrev bH:ζ Sm:=[.expr (.bn (.py (.aj 104)) [.Ο 0,.Ix (.Ο 2) (.Ο 3),.Ο 3,.aq (.Ο 0) FL])]
def zel{s:jq R}(hd:5<=d)(O:kz X)(ne:R.cw≠R.Κ)(hk:k<X.n)(P:FP X k s)(q:∀s',FP X (k+1) s'->R' .nx (jd X s'.a s'.b s'.c s'.d s'.e s'.f) s'.g):ck (ah P0 d) bH (jd X (vN k) s.b s.c s.d s.e s.f) s.g R':=by
 have hkl:k<s.T.ε:=by rw[P.lv];exact hk
 have hke:=Jp hkl;refine(P.T.Tq k _ hke).ι λep hr=>?_;refine(Gl (d:=d) (j:=k) (n:=X.n) (P:=X.p*X.n) (K:=X.K*X.n+X.n) (w:=R.cw) (Jn (by decide) hd) hr (((P.Tq k _ hke).1 (Jv _)).sr.ok (Jv _) (Jv _)) (Jn O.n (by decide)) (R.af (JB _) (JB _) R.gd) (zef O.bd)).ι λep' e=>?_;have N:FP X (k+1) ⟨_,s.T.Ϫ k (nN s.T[k] k R.cw),vN k,s.b,s.c,s.d,s.e,s.f⟩:=⟨P.T.Ϫ hkl (ep:=ep'),by rw[Zd];exact P.lv,λr t ht=>by
  by_cases e:k=r
  ·subst e
   rw[J6 hkl] at ht;refine lV ht ?_;exact⟨λh=>ς h (Xj _),λ_=>((P.Tq k _ hke).1 (Jv _)).done ne hk⟩
  ·rw[J7 e] at ht
   have:=P.Tq r t ht
   exact⟨λh=>this.1 (Yb h),λh=>this.2 (ZX (JY h) (Kc e))⟩⟩
 exact j6 (.v ((P.T.su hkl:kR s.g (.ξ X.h.ε) (.Β (k:Φ))=Qa (.ξ (X.h.ε+(k+1)))))<|.w (R.bP)<|.p (e)<|.z (q _ N)) rfl
abbrev Ct(X:SX R):MH:=X.h++.ο ((JZ (X.h.ε+1) X.n).π .ξ)::(JX X.n).π λi=>ae.Υ Qd (kX (X.Tf i))
def OI(O:kz X)(T0:Vs X.h X.aT ((JX X.n).π X.Tf)):eval (ah P0 d) (.comp (.bn (.py (.ty 1684628340)) [.Ο 9]) [9] Qc (.Ο 1) []) (Qa (.aj (112+R.i))::Qa (.ξ X.aT)::nn 13) X.h=Qa (.ξ X.h.ε,Ct X):=by
 refine T0.x.ι λrs zq7=>?_;have a2:=zq7.2.1;rw[Jq,Zg] at a2;have hl:(rs.π ab.ξ).ε=X.n:=by rw[Jq,a2]
 refine W.eq (zT (a:=X.aT) (vs:=rs.π .ξ) (λi=>.Υ Qd (kX (X.Tf i))) (by rw[hl];exact Jw O.n (show 60<200000 by decide)) (by rw[hl];exact Jn O.n (by decide)) (u6 rfl ⟨rfl,zq7.1,λi v t hv=>?_,by rw[hl];exact⟨rfl,rfl⟩⟩));refine(tJ hv).ι λr zq6=>?_;refine eqB zq6.2 ?_;have hi:i<X.n:=by rw[<-a2];exact jR zq6.1
 refine(zq7.2.2 i r (X.Tf i) zq6.1 (by rw[JE,Kf hi];rfl)).ι λep zq5=>?_;exact kO (.p (cB (ah P0 d) (jH (t:=t) zq5))<|.z (cn (.ξ (X.h++t).ε) (X.h++t++[.Υ Qd (kX (X.Tf i))]))) rfl
def c5(O:kz X):KP X 0 0 ⟨Ct X,(JX X.n).π X.Tf,Qd,Qd,Qd,Qd,Qd,Qd⟩:=by
 have ln:((JX X.n).π X.Tf).ε=X.n:=by rw[Jq,Zg]
 refine⟨AA (ep:=λ_=>Qd),ln,λr t ht=>?_⟩;rw[τ (J9 _)];have hr:r<X.n:=by rw[<-ln];exact jR ht
 rw[JE,Kf hr] at ht;refine lV ht ?_;exact mI.Κ O hr
theorem zfl(hd:6<=d)(O:kz X):∃s:jq R,KP X X.n 0 s/\exec (ah P0 d) (.fo [3] Qc wd kB) (jd X Qd Qd Qd Qd Qd Qd) (Ct X)=Qa ((.nx,jd X s.a s.b s.c s.d s.e s.f),s.g):=
 oe (c:=ah P0 d) (x:=3) (n:=X.n) (e:=wd) (b:=kB) (λs:jq R=>jd X s.a s.b s.c s.d s.e s.f) jq.g (λk s=>KP X k 0 s) ⟨Ct X,(JX X.n).π X.Tf,Qd,Qd,Qd,Qd,Qd,Qd⟩ (Jn O.n (by decide)) rfl (by exact kO (.p ((c5 O).T.ln (ah P0 d) (c5 O).lv)<|.c<|.z (cn (.gq X.n) (Ct X))) (by kernel_rfl)) (c5 O) λk s R1 _ hk P1 C1=>zeg hd O hk P1 (λs' P'=>C1.nx ⟨s'.1,s'.2.1,vN k,s'.2.2.2⟩ ⟨P'.T,P'.lv,P'.Tq⟩) λs' P'=>C1.ct ⟨s'.1,s'.2.1,vN k,s'.2.2.2⟩ ⟨P'.T,P'.lv,P'.Tq⟩
theorem zfH{s:jq R}(hd:6<=d)(O:kz X)(ne:R.cw≠R.Κ)(K:KP X X.n 0 s):∃s':jq R,FP X X.n s'/\exec (ah P0 d) (.fo [3] Qc wd bH) (jd X s.a s.b s.c s.d s.e s.f) s.g=Qa ((.nx,jd X s'.a s'.b s'.c s'.d s'.e s'.f),s'.g):=
 oe (c:=ah P0 d) (x:=3) (n:=X.n) (e:=wd) (b:=bH) (λs:jq R=>jd X s.a s.b s.c s.d s.e s.f) jq.g (λk s=>FP X k s) s (Jn O.n (by decide)) rfl (by exact kO (.p (K.T.ln (ah P0 d) K.lv)<|.c<|.z (cn (.gq X.n) s.g)) (by kernel_rfl)) ⟨K.T,K.lv,λr t ht=>⟨λ_=>by
  have:=K.Tq r t ht
  rwa [τ (J9 _)] at this,λh=>ς h (J9 _)⟩⟩ λk s R1 _ hk P1 C1=>zel (Jn (by decide) hd) O ne hk P1 C1.nx
def OH(hd:7<=d)(O:kz X)(ne:R.cw≠R.Κ)(T0:Vs X.h X.aT ((JX X.n).π X.Tf)):∃t,jO (ah P0 d) (.aj 107) [.aj (112+R.i),.ξ X.aT] X.h=Qa (.ξ X.h.ε,X.h++t)/\∃T,EH X (X.h++t) T:=by
 have w:WF P0 d 107 [.aj (112+R.i),.ξ X.aT] X.h λv g=>v=.ξ X.h.ε/\∃s:jq R,g=s.g/\FP X X.n s:=by
  exact kN (K:=6) hd (Qa (.aj (112+R.i))::Qa (.ξ X.aT)::nn 13) uQ rfl λd' h'=>(zfl (d:=d') h' O).ι λs a=>(zfH (d:=d') h' O ne a.1).ι λs' b=>j6 (.p (OI (d:=d') O T0)<|.s (a.2)<|.s (b.2)<|.z ((show ab.ξ X.h.ε=.ξ X.h.ε/\∃s2:jq R,s'.g=s2.g/\FP X X.n s2 from⟨rfl,s',rfl,b.1⟩))) rfl
 obtain⟨v,g,e,rfl,s,rfl,P⟩:=W.Mi (mM (P:=P0) rfl w);obtain⟨t,ht⟩:=P.T.Tr;rw[ht] at e;exact⟨t,e,s.T,ht▸P.T,P.lv,λr t ht=>(P.Tq r t ht).2 (by rw[<-P.lv];exact jR ht)⟩
end
section
variable{h0:MH}{X:SX R}
def NB(X:SX R)(N B:θ->R.α):Prop:=∀s,s<X.n->B s=R.am (N s) (j7 (X.Tf s) B)
abbrev RS(R:Rg):=MH×ζ R.α×η ab×η ab
section
variable{R:Rg}(ψ:RS R)
abbrev RS.g:=ψ.1
abbrev RS.V:=ψ.2.1
abbrev RS.b:=ψ.2.2.1
abbrev RS.c:=ψ.2.2.2
end
def RX(X:SX R)(h:MH)(aR aS:θ)(T:ζ (DR R))(row:ζ R.α)(P K:θ):Prop:=kz X/\h[aR]?=Qa (.ο (row.π R.e))/\row.ε=X.n/\(∀x∈row,R.D P K x)/\Vs h aS T/\T.ε=X.n/\(∀r t,T[r]?=Qa t->SD X r t)/\4*(P+X.p*X.n)+(K+(X.K*X.n+X.n+1)+X.n)<=3800
section
variable{X:SX R}{h:MH}{aR aS:Nat}{T:List (DR R)}{row:List R.α}{P K:Nat}(ψ:RX X h aR aS T row P K)
def RX.O:=@ψ.1
def RX.rR:=@ψ.2.1
def RX.lv:=@ψ.2.2.1
def RX.dg:=@ψ.2.2.2.1
def RX.tb:=@ψ.2.2.2.2.1
def RX.tl:=@ψ.2.2.2.2.2.1
def RX.tr:=@ψ.2.2.2.2.2.2.1
def RX.bd:=@ψ.2.2.2.2.2.2.2
end
def RP(X:SX R)(h:MH)(row:ζ R.α)(P K i:θ)(s:RS R):Prop:=(∃t,s.g=h++t)/\s.g[h.ε+1]?=Qa (.ο (s.V.π R.e))/\s.V.ε=X.n/\(∀N B,NB X N B->R.am (jX s.V N 0) (jX (row.jp i) B i)=jX row B 0)/\∀x∈s.V,R.D (P+X.p*X.n) (K+(X.K*X.n+X.n+1)+i) x
section
variable{X:SX R}{h:MH}{row:List R.α}{P K i:Nat}{s:RS R}(ψ:RP X h row P K i s)
def RP.Tr:=@ψ.1
def RP.TF:=@ψ.2.1
def RP.lv:=@ψ.2.2.1
def RP.ev:=@ψ.2.2.2.1
def RP.dg:=@ψ.2.2.2.2
end
def RJ(X:SX R)(h:MH)(row:ζ R.α)(P K i aL:θ)(y:R.α)(t:DR R)(j:θ)(s:RS R):Prop:=(∃t,s.g=h++t)/\s.g[h.ε+1]?=Qa (.ο (s.V.π R.e))/\s.V.ε=X.n/\(∀N B,NB X N B->R.am (jX s.V N 0) (R.am (R.ss y (nK (((j2 t).jp j).π λx=>R.ss (jP t x) (N x)))) (jX (row.jp (i+1)) B (i+1)))=jX row B 0)/\(∀x∈s.V,R.D (P+X.p*X.n) (K+(X.K*X.n+X.n+1)+(i+1)) x)/\(∀(m:θ) x,s.V[m]?=Qa x->m∈(j2 t).jp j->R.D (P+X.p*X.n) (K+(X.K*X.n+X.n+1)+i) x)/\h.ε+1<aL/\s.g[aL]?=Qa (.ο ((j2 t).π λn:θ=>.Β (n:Φ)))
section
variable{X:SX R}{h:MH}{row:List R.α}{P K i aL:Nat}{y:R.α}{t:DR R}{j:Nat}{s:RS R}(ψ:RJ X h row P K i aL y t j s)
def RJ.Tr:=@ψ.1
def RJ.TF:=@ψ.2.1
def RJ.lv:=@ψ.2.2.1
def RJ.ev:=@ψ.2.2.2.1
def RJ.dg:=@ψ.2.2.2.2.1
def RJ.dl:=@ψ.2.2.2.2.2.1
def RJ.ge:=@ψ.2.2.2.2.2.2.1
def RJ.l:=@ψ.2.2.2.2.2.2.2
end
def qh(R:Rg)(h:MH)(aR aS:θ)(b c:η ab):Ψ.Λ:=Qa (.aj (112+R.i))::Qa (.ξ aR)::Qa (.ξ aS)::Qa (.ξ (h.ε+1))::b::c::nn 6
abbrev zg:ζ Sm:=[.ft (.sb (.Ο 3) (.Ο 5)) (.bc (.Ο 0) tn [.Ix (.Ο 3) (.Ο 5),.bc (.Ο 0) pd [.Ix (.Ο 1) (.Ο 4),.Ix (.Ix (.Ο 2) (.Ο 4)) (.Ο 5)]])]
variable{aR aS:Nat}{T:List (DR R)}{row:List R.α}{P K:Nat}
def Vs.su{T:ζ (DR R)}{i:θ}(H:Vs g aT T)(ht:T[i]?=Qa t):∃r ep,kR g (.ξ aT) (.Β (i:Φ))=Qa (.ξ r)/\g[r]?=Qa (.Υ ep (kX t)):=by
 refine H.x.ι λrs zq3=>?_;have hi:i<rs.ε:=by rw[zq3.2.1];exact jR ht
 obtain⟨ep,e⟩:=zq3.2.2 i _ t (Jp hi) ht;exact⟨_,ep,sl (i:=i) zq3.1 (r7 (Jp hi)),e⟩
theorem zem{P i:θ}(hi:i<n)(bd:4*(P+p*n)+(K+(K'*n+n+1)+n)<=3800):4*(P+p*n)+(K+(K'*n+n+1))<=3800/\4*(P+p*n)+(K+(K'*n+n+1)+i)<=3800:=⟨Jn (JJ (Jv _) (Jr _ _)) bd,JN (Ju (ZL (ZL hi _) _) bd)⟩
def RJ.put{i j:θ}{y v:R.α}{s:RS R}(I:RJ X h row P K i aL y t j s)(hx:(j2 t)[j]?=Qa x)(hxd:x∉ (j2 t).jp (j+1))(hVe:s.V[x]?=Qa v)(hv:R.D (P+X.p*X.n) (K+(X.K*X.n+X.n+1)+i) v)(hm:R.D (P+X.p*X.n) (K+(X.K*X.n+X.n+1)) (R.ss y (jP t x))):
  RJ X h row P K i aL y t (j+1) ⟨s.g.Ϫ (h.ε+1) (.ο ((s.V.Ϫ x (R.am v (R.ss y (jP t x)))).π R.e)),s.V.Ϫ x (R.am v (R.ss y (jP t x))),Qd,vN x⟩:=by
 refine I.Tr.ι λtl zq1=>?_;refine⟨⟨_,by show s.g.Ϫ _ _=_;rw[zq1];exact pU (Zp _)⟩,kM I.TF,by show (s.V.Ϫ _ _).ε=_;rw[Zd];exact I.lv,λN B e=>?_,λz hz=>?_,λm z hz hm=>?_,I.ge,jZ (λe=>ς (e▸I.ge) (Zb _)) I.l⟩
 ·simp only[<-I.ev N B e,<-(by unfold mL;rw[hVe];rfl:mL s.V x (R.ss y (jP t x))=s.V.Ϫ x (R.am v (R.ss y (jP t x)))),UM (jR hVe),pL hx,JU,jS,R.Sc,Zq,<-R.Id,R.Ϣ,R.Ϣ,R.swap]
 ·exact(Z8 hz).ι (I.dg z) λe=>e▸(R.fm hv (R.af (Jv _) (Jr _ _) hm):R.D (P+X.p*X.n) (K+(X.K*X.n+X.n+1)+(i+1)) (R.am v (R.ss y (jP t x))))
 ·rw[J7 (λe=>hxd (e▸hm):x≠m)] at hz
  exact I.dl m z hz (by rw[pL hx];exact .pc _ hm)
def zbC{i j:θ}{y:R.α}{s:RS R}(hd:4<=d)(C:RX X h aR aS T row P K)(hy:row[i]?=Qa y)(ht:T[i]?=Qa t)(hx:(j2 t)[j]?=Qa x)(I:RJ X h row P K i aL y t j s)
  (q:∀s',RJ X h row P K i aL y t (j+1) s'->R' .nx (qh R h aR aS (vN i) s'.c) s'.g):ck (ah P0 d) zg (qh R h aR aS (vN i) (vN x)) s.g R':=by
 have D:=C.tr i t ht;have hxk:x∈jK t:=kC.tz.mp (Jt hx);have hVe:=Uj (l:=s.V) (s:=x) (by rw[I.lv];exact D.ok.lt x hxk);have nd:=LF D.ok.nd;rw[<-Kw j (j2 t),pL hx] at nd;have hDy:=C.dg y (Jt hy);have B:=zem (by rw[<-C.lv];exact jR hy:i<X.n) C.bd;have d3:3<=d:=Jn (by decide) hd;exact I.Tr.ι λtl eg=>(Vs.su (g:=s.g) (eg▸C.tb.cq) ht).ι λr w=>w.ι λep w=>j6 (.v (sl I.TF (x4 hVe))<|.v (sl (eg▸jH C.rR:s.g[aR]?=Qa (.ο (row.π R.e))) (x4 hy))<|.v (w.1)<|.v (sR w.2 hxk)<|.q (R.ti d3 hDy (D.ok.Mi x) B.1)<|.q (R.pl d3 (I.dl x _ hVe (by rw[pL hx];exact .mo _)) (R.af (Jv _) (Jr _ _) (R.fc hDy (D.ok.Mi x))) B.2)<|.h ((zbu (R.am (at' s.V x) (R.ss y (jP t x))) I.TF (jR hVe)))<|.z (q _ (I.put hx ((JH.mp (Kj.mp nd).2.1).1) hVe (I.dl x _ hVe (by rw[pL hx];exact .mo _)) (R.fc hDy (D.ok.Mi x))))) rfl
end
variable{T:List (DR R)}
section
variable{h0:MH}{X:SX R}{row:List R.α}{P:Nat}
abbrev dI:ζ Sm:=[.ite (.gm .ne (.Ix (.Ο 1) (.Ο 4)) (.aq (.Ο 0) oi)) [.fo [5] Qc (.bn (.py (.bi 126922498794852)) [.Ix (.Ο 2) (.Ο 4)]) zg] []]
def RP.ϫ{i:θ}{s s':RS R}(I:RP X h row P K i s)(e1:s'.g=s.g)(e2:s'.V=s.V)(hi:row[i]?=Qa R.Κ):RP X h row P K (i+1) s':=by
 refine(Jy.mp hi).ι λh1 zq3=>?_;refine⟨by rw[e1];exact I.Tr,by rw[e1,e2];exact I.TF,by rw[e2];exact I.lv,λN B e=>?_,λx hx=>R.af (Jv _) (Zp _) (I.dg x (e2▸hx))⟩;simp only[e2,<-I.ev N B e,x7 h1,zq3,R.w9,R.Χ]
def zbE{i:θ}{y:R.α}{s:RS R}(hd:4<=d)(C:RX X h aR aS T row P K)(hy:row[i]?=Qa y)(ht:T[i]?=Qa t)(I:RP X h row P K i s):∃s':RS R,RP X h row P K (i+1) s'/\exec (ah P0 d) (.fo [5] Qc (.bn (.py (.bi 126922498794852)) [.Ix (.Ο 2) (.Ο 4)]) zg) (qh R h aR aS (vN i) s.c) s.g=Qa ((.nx,qh R h aR aS (vN i) s'.c),s'.g):=by
 have D:=C.tr i t ht;refine I.Tr.ι λtl eg=>(Vs.su (g:=s.g) (eg▸C.tb.cq) ht).ι λr w=>w.ι λep w=>?_;have hlen:=Jn D.ok.lv C.O.n;have hvl:((j2 t).π λn:θ=>ab.Β (n:Φ)).ε=(j2 t).ε:=Jq ..;have W1:WS (ah P0 d) (.fo [5] Qc (.bn (.py (.bi 126922498794852)) [.Ix (.Ο 2) (.Ο 4)]) zg) (qh R h aR aS (vN i) s.c) s.g λfl f g=>∃s':RS R,RJ X h row P K i s.g.ε y t (j2 t).ε s'/\fl=.nx/\f=qh R h aR aS (vN i) s'.c/\g=s'.g:=by
  refine rY (a:=s.g.ε) (vs:=(j2 t).π λn:θ=>.Β (n:Φ)) (λs':RS R=>qh R h aR aS (vN i) s'.c) RS.g (RJ X h row P K i s.g.ε y t) (by rw[hvl];exact Jw (by rw[kC.u8,xO];exact hlen:(j2 t).ε<=60) (show 60<200000 by decide)) ⟨s.g++[.ο ((j2 t).π λn:θ=>.Β (n:Φ))],s.V,Qd,s.c⟩ (λj s' P'=>P'.l) ((by exact kO (.v (w.1)<|.p (cA (ah P0 d) w.2 hlen)<|.z (cn (.ξ s.g.ε) (s.g++[.ο ((j2 t).π λn:θ=>.Β (n:Φ))]))) rfl:WE (ah P0 d) (qh R h aR aS (vN i) s.c) (.bn (.py (.bi 126922498794852)) [.Ix (.Ο 2) (.Ο 4)]) s.g λv g=>v=.ξ s.g.ε/\g=s.g++[.ο ((j2 t).π λn:θ=>.Β (n:Φ))]).Τ λv g q=>⟨q.1,rfl,q.2,⟨tl++[.ο ((j2 t).π λn:θ=>.Β (n:Φ))],by show s.g++_=_;rw[eg,JA]⟩,jH I.TF,I.lv,λN B e=>?_,λx hx=>R.af (Jv _) (Zp _) (I.dg x hx),λm x hx _=>I.dg x (Jt hx),(j4 I.TF),ap⟩) (λj v s' R2 hv P2 C2=>?_) λs' P'=>⟨s',hvl▸P',rfl,rfl,rfl⟩
  ·obtain⟨h1,h2⟩:=Jy.mp hy
   simp only[<-I.ev N B e,x7 h1,h2,ζ.drop_zero,qA kC D.ok.nd,D.ev N B e]
  ·rw[JE] at hv
   refine(Zm.mp hv).ι λx zq1=>?_;refine eqE zq1.2 ?_;exact lI (zbC hd C hy ht zq1.1 P2 C2.nx)
 obtain⟨⟨fl,f⟩,g,e,s',P2,q1,q2,q3⟩:=W.Mi W1;refine eqE q1 ?_;subst q2;subst q3;refine⟨s',⟨P2.Tr,P2.TF,P2.lv,λN B hNB=>?_,P2.dg⟩,e⟩;rw[<-P2.ev N B hNB,ZS];show _=R.am _ (R.am (R.ss y R.Κ) _);rw[R.xL,R.Χ]
def zbD{i:θ}{s:RS R}(hd:4<=d)(C:RX X h aR aS T row P K)(hi:i<X.n)(I:RP X h row P K i s)
  (q:∀s',RP X h row P K (i+1) s'->R' .nx (qh R h aR aS (vN i) s'.c) s'.g):ck (ah P0 d) dI (qh R h aR aS (vN i) s.c) s.g R':=by
 have hy:=Uj (l:=row) (s:=i) (by rw[C.lv];exact hi);have rR:s.g[aR]?=Qa (.ο (row.π R.e)):=I.Tr.ι λtl eg=>eg▸jH C.rR;cases hq:R.gk (at' row i) R.Κ with
 |isTrue hz=>
  have hf:(!@decide (at' row i=R.Κ) (R.gk _ _))=false:=by rw[R.yes hz];rfl
  exact j6 (.v (sl rR (x4 hy))<|.w (R.no)<|.k (R.qn (at' row i) R.Κ)<|.f (hf)<|.z (q s (I.ϫ rfl rfl (hy.ν (ω Qa hz))))) rfl
 |isFalse hz=>
  have hf:(!@decide (at' row i=R.Κ) (R.gk _ _))=true:=by rw[R.not hz];rfl
  refine(zbE (d:=d) hd C hy (Jp (l:=T) (i:=i) (by rw[C.tl];exact hi)) I).ι λs' e=>?_;exact j6 (.v (sl rR (x4 hy))<|.w (R.no)<|.k (R.qn (at' row i) R.Κ)<|.t (hf)<|.s (e.2)<|.z (q s' e.1)) rfl
abbrev wc(R:Rg)(h:MH)(n:θ):MH:=h++[.ο [R.e R.Κ]]++[.ο ((kY R n).π R.e)]
def v8(hd:5<=d)(C:RX X h aR aS T row P K)
  (q:∀t V,(h++t)[h.ε+1]?=Qa (.ο (V.π R.e))->V.ε=X.n->(∀x∈V,R.D (P+X.p*X.n) (K+(X.K*X.n+X.n+1)+X.n) x)->(∀N B,NB X N B->jX V N 0=jX row B 0)->Q (.ξ (h.ε+1)) (h++t)):WF P0 d 132 [.aj (112+R.i),.ξ aR,.ξ aS] h Q:=by
 refine kN (K:=4) hd (Qa (.aj (112+R.i))::Qa (.ξ aR)::Qa (.ξ aS)::nn 9) o9 rfl λd' h'=>?_;have e1:(h++[ae.ο [R.e R.Κ]]).ε=h.ε+1:=by rw[Jx];rfl
 have em:=R.yd h (n:=X.n) (Jn C.O.n (by decide));rw[e1] at em;have ln:(row.π R.e).ε=X.n:=by rw[Jq,C.lv]
 have len1:jO (ah P0 d') (.bi uD) [.ξ aR] (h++[.ο [R.e R.Κ]])=Qa (.Β X.n,h++[.ο [R.e R.Κ]]):=by rw[FW (jH C.rR),ln]
 refine(oe (c:=ah P0 d') (x:=4) (n:=X.n) (e:=.bn (.py (.ty 491260897125)) [.bn (.py (.bi 7103854)) [.Ο 1]]) (b:=dI) (λs:RS R=>qh R h aR aS s.b s.c) RS.g (RP X h row P K) ⟨wc R h X.n,kY R X.n,Qd,Qd⟩ (Jn C.O.n (by decide)) rfl (by exact kO (.p ((by rw[FW (jH (jH C.rR):(wc R h X.n)[aR]?=Qa (.ο (row.π R.e))),ln]:jO (ah P0 d') (.bi uD) [.ξ aR] (wc R h X.n)=Qa (.Β X.n,wc R h X.n)))<|.c<|.z (cn (.gq X.n) (wc R h X.n))) (by kernel_rfl)) (⟨⟨_,JA ..⟩,by rw[<-e1];exact ap,zlen,λN B _=>by rw[l0,R.Χ];rfl,λx hx=>by rw[Zl hx];exact R.af (JB _) (JB _) R.bq⟩:RP X h row P K 0 ⟨wc R h X.n,kY R X.n,Qd,Qd⟩) λi s R1 _ hi P1 C1=>zbD h' C hi P1 λs' P'=>C1.nx ⟨s'.1,s'.2.1,vN i,s'.2.2.2⟩ ⟨P'.Tr,P'.TF,P'.lv,P'.ev,P'.dg⟩).ι λs e=>e.1.Tr.ι λt ht=>?_;have e2:=e.2;rw[ht] at e2;have ev:=e.1.ev;rw[<-C.lv,ZS] at ev;exact j6 (.w (R.no)<|.p (len1)<|.p (em)<|.s (e2)<|.z (q t s.V (ht▸e.1.TF) e.1.lv e.1.dg λN B hN=>(R.ut _).Μ.ν (ev N B hN))) rfl
end
section
variable{h0:MH}
abbrev sX(g:MH)(aT:θ)(M:Mc R.α)(p K:θ):SX R:=⟨g,aT,M.aa.ε,p,K,λs=>l5 (ax M s)⟩
theorem Cg:nJ M M.aa.ε 0=(JX M.aa.ε).π λs=>l5 (ax M s):=Ke λs hs=>by
 delta U5;rw[φ (ZA.mp hs)]
def CT(I:ao R h L M)(G:kQ M p k)(U:ma M)(hn:M.aa.ε<=60)(hK:k+M.bb<=K)(bd:4*(p*M.aa.ε)+(K*M.aa.ε+M.aa.ε+1)<=3800):kz (sX g aT M p K):=by
 refine⟨λs hs=>?_,hn,bd⟩;have hx:=GY (Jp hs);obtain⟨ok,up⟩:=Ut (R:=R) (n:=M.aa.ε) (p:=p) (k:=k) (s:=s) (xs:=M.aa[s]) λc hc=>by
  exact⟨(G.fv _ (Zt hs) c hc).1,(G.fv _ (Zt hs) c hc).2.2.2.1,λq=>U s _ (Jp hs) c hc q⟩
 simp only[hx]
 have:=I.cr _ (Zt hs)
 exact⟨ok.nd,λx hx=>⟨up x hx,ok.lt x hx⟩,λq hq=>R.af (Jv _) (by show _<=K;exact Jn (Js this _) hK) (ok.dg q hq)⟩
theorem zcV(hd:2<=d)(I:ao R h L M):kI (ah P0 d) (.ξ L.m) 1925483444799026525305 [] h h=Qa (.ϯ (M.aa.any λr=>r.any Ar.di),h):=me (lM I.fj rfl rfl) (RE hd I ⟨rfl,rfl⟩)
inductive uo(M:Mc R.α)(p K:θ)(h:MH)(v:ab)(g:MH):Prop
 |no(e:LS M)(hv:v=.Ε)(hg:g=h):uo M p K h v g
 |so(t1 t2:MH)(T:ζ (DR R))(S:EH (sX (h++t1) h.ε M p K) (h++t1++t2) T)(hv:v=.ξ (h++t1).ε)(hg:g=h++t1++t2):uo M p K h v g
theorem zat(hd:8<=d)(I:ao R h L M)(hE:LS M):jO (ah P0 d) (.aj 131) [.ξ L.m] h=Qa (.Ε,h):=
 W.eq (mM (P:=P0) rfl (kN (K:=7) hd (Qa (.ξ L.m)::nn 6) l7 rfl λd' h'=>j6 (.p (zcV (Jn (by decide) h':2<=d') I)<|.c<|.t (nF hE)<|.z (cn .Ε h)) (by kernel_rfl)))
def DX(hd:8<=d)(I:ao R h L M)(G:kQ M p k)(U:ma M)(ne:R.cw≠R.Κ)(hn:M.aa.ε<=60)(hK:k+M.bb<=K)(bd:4*(p*M.aa.ε)+(K*M.aa.ε+M.aa.ε+1)<=3800)(bd2:4*p+(k+300)<=3800):
  ∃v g,jO (ah P0 d) (.aj 131) [.ξ L.m] h=Qa (v,g)/\uo M p K h v g:=by
 refine vL (M.aa.any λr=>r.any Ar.di) (λhE=>?_) λhE=>⟨_,_,zat hd I hE,.no hE rfl rfl⟩;have w:WF P0 d 131 [.ξ L.m] h (uo M p K h):=by
  refine kN (K:=7) hd (Qa (.ξ L.m)::nn 6) l7 rfl λd' h'=>?_;refine xEEAA (W.Mi (mM (P:=P0) (d:=d') rfl (Ci (Q:=λv g=>v=.ξ h.ε/\∃t,g=h++t/\gc h (h++t) (nJ M M.aa.ε 0)) (Jn (by decide) h') I G U bd2 λt T=>⟨rfl,t,rfl,T⟩))) λv g e dw iq=>?_;refine xEA iq λt qc T=>?_;subst dw;subst qc;exact(OH (d:=d') (X:=sX (h++t) h.ε M p K) h' (CT I G U hn hK bd) ne (Cg▸T.r)).ι λt2 a=>a.2.ι λT2 S=>j6 (.p (zcV (Jn (by decide) h':2<=d') I)<|.c<|.f (nT hE)<|.v (l9 I)<|.p (e)<|.p (a.1)<|.z ((show uo M p K h (.ξ (h++t).ε) (h++t++t2) from .so t t2 T2 S rfl rfl))) (by kernel_rfl)
 exact(W.Mi (mM (P:=P0) rfl w)).ι λv zq1=>zq1.ι λg zq2=>⟨v,g,zq2.1,zq2.2⟩
end
section
variable{h0:MH}
theorem NK{i j:θ}{l:ζ θ}(H:xG M)(hi:i<=u.ε)(hj:j<=l.ε):NB (sX g aT M p K) (rD M (Bv M u l) u l i j) (Bv M u l i j):=λs hs=>by
 simp only[H0 H hi hj,o8,Do]
def zeG{L':Ly}{T:Mc R.α}{l:ζ θ}{S:ζ (DR R)}(H:xG T)(O:kz (sX g aT T p K))(Z:EH (sX g aT T p K) g0 S)(h1:p*T.aa.ε<=pS)(h2:K*T.aa.ε+T.aa.ε+1+T.aa.ε<=kS):
  G4 (wX g0 L' T u l (.ξ g.ε) pW kW p k pS kS):=by
 refine⟨.IO ⟨_,rfl⟩,(λe=>nomatch e),λaT' e {d P K' aR g1 row Q} hd hg hR hl hD hb q=>?_⟩;have e:g.ε=aT':=by
  injection (e:ab.ξ g.ε=.ξ aT')
 refine eqE e ?_;obtain⟨t,rfl⟩:=hg;refine v8 (X:=sX g aT T p K) (T:=S) (P:=P) (K:=K') hd ⟨O,hR,hl,hD,Z.tb.r.cq,Z.lv,Z.Tq,?_⟩ λt2 V a1 a2 a3 a4=>?_
 ·exact Jn (JJ (JI 4 (Js h1 P)) (Jn (JF (J8 _ _ _)) (Js h2 K'))) hb
 ·refine q t2 _ V (Zp _) a1 a2 (λx hx=>R.af (Js h1 P) ?_ (a3 x hx)) λi j hi hj=>(a4 _ _ (NK H hi hj)).Μ
  exact Jn (JF (J8 _ _ _)) (JJ (Jv _) h2)
def eE(hd:4<=d)(hu:∀c∈u,VU c=Qe)(lu:u.ε<=200)(h:MH):∃v,jO (ah P0 d) (.aj 130) [.Ϥ u] h=Qa (v,h):=by
 obtain⟨v,g,e,rfl⟩:=W.Mi (mM (P:=P0) (d:=d) rfl (zb3 (Q:=λ_ g=>g=h) (hd) hu lu rfl));exact⟨v,e⟩
def fC(M:Mc R.α)(h t:MH)(L':Ly)(T:Mc R.α)(p k:θ):Prop:=ao R (h++t) L' T/\kQ T p k/\ma T/\T.aa.ε<=M.aa.ε/\T.bb<=M.bb/\(∀u l,R.ss T.lw (Bv T u l 0 0 T.Ϟ)=R.ss M.lw (Bv M u l 0 0 M.Ϟ))/\∃ks,nG M ks T
section
variable{M:Mc R.α}{h t:MH}{L':Ly}{T:Mc R.α}{p k:Nat}(ψ:fC M h t L' T p k)
def fC.J:=@ψ.1
def fC.G:=@ψ.2.1
def fC.U:=@ψ.2.2.1
def fC.n:=@ψ.2.2.2.1
def fC.c:=@ψ.2.2.2.2.1
def fC.w:=@ψ.2.2.2.2.2.1
def fC.tr:=@ψ.2.2.2.2.2.2
end
def U8(hd:6<=d)(I:ao R h L M)(G:kQ M p k)(U:ma M):∃t L' T,jO (ah P0 d) (.aj 133) [.ξ L.m] h=Qa (.ξ L'.m,h++t)/\fC M h t L' T p k:=by
 obtain⟨v,g,e,t,L',T,rfl,rfl,q⟩:=W.Mi (mM (P:=P0) rfl (Ox (Q:=λv g=>∃t L' T,v=.ξ L'.m/\g=h++t/\fC M h t L' T p k) hd I G λt L' T ks mb1 mb2 bp J ho TB TR=>by
  have TG:=EU I G TB TR J;exact⟨t,L',T,rfl,rfl,J,TG.g,TG.up U,TG.lv,TG.bb,λu l=>Lh I G TB TR (G.dp U) (TG.g.dp (TG.up U)),ks,TR⟩))
 exact⟨t,L',T,e,q⟩
def zdP{y B:θ}(hn:n'<=n)(hc:c'<=c)(n60:n<=60)(cl:1+(x+1)*(y+1)*(c+1)<B)
  (bd:4*((p+p*n)*(x+y+2))+((k+((k+c)*n+n+1+n))*(x+y+2)+(1+(x+1)*(y+1)*(c+1)+n))<=3800):
  p*n'<=p*n/\(k+c)*n'+n'+1+n'<=(k+c)*n+n+1+n/\4*(p*n')+((k+c)*n'+n'+1)<=3800/\1+(x+1)*(y+1)*(c'+1)<B/\4*((p+p*n)*(x+y+2))+((k+((k+c)*n+n+1+n))*(x+y+2)+(1+(x+1)*(y+1)*(c'+1)+n'))<=3800/\1+(x+1)*(y+1)*(c'+1)+n'<=1+(x+1)*(y+1)*(c+1)+n:=by
 have h0:=JI ((x+1)*(y+1)) (Zf hc);have h4:(k+c)*n'+n'+1+n'<=(k+c)*n+n+1+n:=JJ (JV (JJ (JI (k+c) hn) hn) 1) hn;exact⟨(JI p hn),h4,Jn (JJ (JI 4 (Jn (Jn (JI p hn) (JC _ _)) (Z5 (p+p*n) (Zr (x+y+1))):p*n'<=(p+p*n)*(x+y+2))) (Jn (Jn (Jn (Jn (Jr _ n') h4) (JC _ _)) (Z5 (k+((k+c)*n+n+1+n)) (Zr (x+y+1))):(k+c)*n'+n'+1<=(k+((k+c)*n+n+1+n))*(x+y+2)) (Jr _ _))) bd,Jw (Js h0 1) cl,Jn (Js (Js (JJ (Js h0 1) hn:1+(x+1)*(y+1)*(c'+1)+n'<=1+(x+1)*(y+1)*(c+1)+n) _) _) bd,(JJ (Js h0 1) hn:1+(x+1)*(y+1)*(c'+1)+n'<=1+(x+1)*(y+1)*(c+1)+n)⟩
theorem mq.of{T:Mc R.α}{L':Ly}{l:ζ θ}(J:ao R g L' T)(G:kQ T p k)(cl:1+(u.ε+1)*(l.ε+1)*(T.bb+1)<100000)(bd:4*((p+pS)*(u.ε+l.ε+2))+((k+kS)*(u.ε+l.ε+2)+(1+(u.ε+1)*(l.ε+1)*(T.bb+1)+T.aa.ε))<=3800):mq (wX g L' T u l ov (p+pS) (k+kS) p k pS kS):=⟨J,G,Jv _,Jv _,cl,bd⟩
def Dj{l:ζ θ}(hd:10<=d)(I:ao R h L M)(G:kQ M p k)(U:ma M)(ne:R.cw≠R.Κ)(hn:M.aa.ε<=60)(hu:∀c∈u,VU c=Qe)(hl:∀c∈l,VU c=Qe)(lu:u.ε<=200)(ll:l.ε<=200)
  (cl:1+(u.ε+1)*(l.ε+1)*(M.bb+1)<100000) (bd2:4*p+(k+300)<=3800)
  (hbd:4*((p+p*M.aa.ε)*(u.ε+l.ε+2))+((k+((k+M.bb)*M.aa.ε+M.aa.ε+1+M.aa.ε))*(u.ε+l.ε+2)+(1+(u.ε+1)*(l.ε+1)*(M.bb+1)+M.aa.ε))<=3800)
  (q:∀t,R.D ((p+p*M.aa.ε)*(u.ε+l.ε+2)) ((k+((k+M.bb)*M.aa.ε+M.aa.ε+1+M.aa.ε))*(u.ε+l.ε+2)+(1+(u.ε+1)*(l.ε+1)*(M.bb+1)+M.aa.ε)) (R.ss M.lw (Bv M u l 0 0 M.Ϟ))->Q (R.e (R.ss M.lw (Bv M u l 0 0 M.Ϟ))) (h++t)):WF P0 d 106 [.ξ L.m,.Ϥ u,.Ϥ l] h Q:=by
 refine kN (K:=9) hd (Qa (.ξ L.m)::Qa (.Ϥ u)::Qa (.Ϥ l)::nn 15) lS rfl λd' h'=>?_;refine(eE (d:=d') (Jn (by decide) h':4<=d') hu lu h).ι λv1 a=>(eE (d:=d') (Jn (by decide) h':4<=d') hl ll h).ι λv2 b=>?_;refine(U8 (d:=d') (Jn (by decide) h') I G U).ι λt c=>c.ι λL' c=>c.ι λT c=>?_;have Z:=c.2;have B:=zdP Z.n Z.c hn cl hbd;refine(DX (d:=d') (K:=k+M.bb) (Jn (by decide) h') Z.J Z.G Z.U ne (Jn Z.n hn) (Js Z.c k) B.2.2.1 bd2).ι λov e=>e.ι λg e=>?_;refine mP (a:=lS.na 5) (b:=lS.jp 5) ?_;have fb:∀(g:MH)(t2:MH),g++t2=h++(g.jp h.ε++t2)->R.D ((p+p*M.aa.ε)*(u.ε+l.ε+2)) ((k+((k+M.bb)*M.aa.ε+M.aa.ε+1+M.aa.ε))*(u.ε+l.ε+2)+(1+(u.ε+1)*(l.ε+1)*(T.bb+1)+T.aa.ε)) (R.ss T.lw (Bv T u l 0 0 T.Ϟ))->Q (R.e (R.ss T.lw (Bv T u l 0 0 T.Ϟ))) (g++t2):=λg t2 hg hD=>by
  rw[Z.w] at hD ⊢;simp only[hg];exact q _ (R.af (Jv _) (Js B.2.2.2.2.2 _) hD)
 have dr:∀s t2:MH,(h++s)++t2=h++((h++s).jp h.ε++t2):=λs t2=>by rw[ζ.drop_left,JA]
 have tail:ck (ah P0 d') (lS.jp 5) (Qa (.ξ L'.m)::Qa (.Ϥ u)::Qa (.Ϥ l)::Qa (.aj (112+R.i))::Qa ov::nn 13) g (Ψ.Fin Q):=by
  cases e.2 with
  |no hE hv hg=>
   rw[hv,hg];exact Ld (X:=wX (h++t) L' T u l .Ε (p+p*M.aa.ε) (k+((k+M.bb)*M.aa.ε+M.aa.ε+1+M.aa.ε)) p k _ _) (Jn (by decide) h') (mq.of Z.J Z.G B.2.2.2.1 B.2.2.2.2.1) ⟨.wv rfl,λ_ i j s hi hj _=>by
    show Bv T u l i j s=_;rw[H0 (Z.G.dp Z.U) hi hj,o8,tU λa ha=>xR hE ha,R.ut],λaT e=>nomatch e⟩ rfl rfl rfl (Jr _ _) (Jr _ _) λt2=>fb (h++t) t2 (dr t t2)
  |so t1 t2 S SS hv hg=>
   rw[hv,hg];exact Ld (X:=wX (h++t++t1++t2) L' T u l (.ξ (h++t++t1).ε) (p+p*M.aa.ε) (k+((k+M.bb)*M.aa.ε+M.aa.ε+1+M.aa.ε)) p k _ _) (Jn (by decide) h') (mq.of Z.J.cq.cq Z.G B.2.2.2.1 B.2.2.2.2.1) (zeG (Z.G.dp Z.U) (CT Z.J Z.G Z.U (Jn Z.n hn) (Js Z.c k) B.2.2.1) SS B.1 B.2.1) rfl rfl rfl (Jr _ _) (Jr _ _) λt3=>fb (h++t++t1++t2) t3 (by rw[JA h,JA h];exact dr _ t3)
 exact j6 (.p (a)<|.p (b)<|.v (l9 I)<|.p (c.1)<|.p (e.1)<|.z (nC tail)) rfl
end
def eB(b:Ζ):ab:=.Β (bif b then 1 else 0)
def zdy:Rg where
 i:=0
 hi:=by decide
 α:=Ζ
 gk:=mt
 e:=eB
 zero:=Qc
 cw:=Qe
 add:=or
 mul:=and
 D:=λ_ _ _=>True
 wE:=Ζ.or_comm
 Ϣ:=Ζ.or_assoc
 Χ:=qaF
 Tb:=Ζ.and_comm
 Id:=Ζ.and_assoc
 one_mul:=XX
 w9:=qbd
 Sc:=Ζ.and_or_distrib_left
 pe:=rfl
 rl:=rfl
 vg:=λ_=>rfl
 ff:=λh a b=>vU.ν (ω Qa (by cases a<;>cases b<;>rfl))
 af:=λ_ _ _=>trivial
 bq:=trivial
 gd:=trivial
 fm:=λ_ _=>trivial
 fc:=λ_ _=>trivial
 gg:=λ{p k a b} _ _ _=>by cases a<;>cases b<;>rfl
 fw:=λ{p q k l a b} _ _ _=>by cases a<;>cases b<;>rfl
 gh:=λ{p k a d h0 h Q} hd _ _ q=>j9 (f:=142) (self:=[.aj 112]) rfl (by
  cases a
  ·exact kZ (K:=0) (Jn (JC _ _) hd) (λ_=>rfl) q
  ·exact kZ (K:=0) (Jn (JC _ _) hd) (λ_=>rfl) q)
 gf:=λ{d h0 h Q} hd q=>j9 (f:=145) (self:=[.aj 112]) rfl (kZ (K:=0) (Jn (JC _ _) hd) (λ_=>rfl) q)
def eO(x:η θ):ab:=JG (motive:=λ_=>ab) x .Ε λn=>.Β n
def ziF(x y:η θ):η θ:=JG (motive:=λ_=>η θ) x y λn=>JG (motive:=λ_=>η θ) y x λm=>Qa (if m<n then m else n)
theorem mn(n m:θ):(if m<n then m else n)=min n m:=if h:m<n then(φ h).ν (YZ (JN h)).Μ else(τ h).ν (KV (ZM h)).Μ
def g6(x y:η θ):η θ:=x.Η λn=>y.π λm=>n+m
def Md{s:ab}(hd:1<=d)(hn:n<wB)(q:Q (.Β n) h):WF P0 d 147 [s,.Β n] h Q:=by
 exact kN (K:=0) hd (Qa s::Qa (.Β n)::nn 6) uT rfl λd' h'=>j6 (.c4<|.c4<|.f (wF hn)<|.z (q)) rfl
def G2:Rg where
 i:=1
 hi:=by decide
 α:=η θ
 gk:=mt
 e:=eO
 zero:=Qd
 cw:=Qa 0
 add:=ziF
 mul:=g6
 D:=λp _ x=>∀n,x=Qa n->n<=3*p
 wE:=λa b=>by
  cases a with
  |none=>cases b<;>rfl
  |some n=>cases b with
   |none=>rfl
   |some m=>exact ω Qa ((mn n m).ν ((θ.min_comm n m).ν (mn m n).Μ))
 Ϣ:=λa b c=>by
  cases a with
  |none=>rfl
  |some n=>cases b with
   |none=>rfl
   |some m=>cases c with
    |none=>rfl
    |some k=>exact ω Qa (by rw[mn,mn,mn,mn,θ.min_assoc])
 Χ:=λa=>rfl
 Tb:=λa b=>by
  cases a with
  |none=>cases b<;>rfl
  |some n=>cases b with
   |none=>rfl
   |some m=>exact ω Qa (ZW n m)
 Id:=λa b c=>by
  cases a with
  |none=>rfl
  |some n=>cases b with
   |none=>rfl
   |some m=>cases c with
    |none=>rfl
    |some k=>exact ω Qa (J8 n m k)
 one_mul:=λa=>by
  cases a with
  |none=>rfl
  |some n=>exact ω Qa (Zq n)
 w9:=λa=>rfl
 Sc:=λa b c=>by
  cases a with
  |none=>rfl
  |some n=>cases b with
   |none=>cases c<;>rfl
   |some m=>cases c with
    |none=>rfl
    |some k=>exact ω Qa (by rw[mn,mn,θ.add_min_add_left])
 pe:=rfl
 rl:=rfl
 vg:=λa=>by cases a<;>rfl
 ff:=λh a b=>by
  cases a with
  |none=>cases b<;>rfl
  |some n=>cases b with
   |none=>rfl
   |some m=>exact vU.ν (ω Qa (by rw[Kq,χ,f8,Qa.injEq];exact Φ.ofNat_inj))
 af:=λhp _ ha n e=>Jn (ha n e) (JI 3 hp)
 bq:=λn e=>nomatch e
 gd:=λn e=>by cases e;exact Jv _
 fm:=λ{p k a b} ha hb n e=>by
  cases a with
  |none=>exact hb n e
  |some x=>cases b with
   |none=>exact ha n e
   |some y=>
    exact(Qa.lf e:(if y<x then y else x)=n)▸mn x y▸Jn (KU x y) (ha x rfl)
 fc:=λ{p q k l a b} ha hb n e=>by
  cases a with
  |none=>exact nomatch e
  |some x=>cases b with
   |none=>exact nomatch e
   |some y=>
    exact(Qa.lf e:x+y=n)▸Jn (JJ (ha x rfl) (hb y rfl)) (JF (qa1 3 p q).Μ)
 gg:=λ{p k a b} _ _ _=>by
  cases a with
  |none=>cases b<;>rfl
  |some x=>cases b with
   |none=>rfl
   |some y=>
    show Qa (ab.Β _)=Qa (ab.Β _)
    congr 2
    by_cases hxy:y<x
    ·rw[φ hxy,φ (Z2.ϥ hxy)]
    ·rw[τ hxy,τ λq=>hxy (Z2.mp q)]
 fw:=λ{p q k l a b} _ _ _=>by
  cases a with
  |none=>cases b<;>rfl
  |some x=>cases b with
   |none=>rfl
   |some y=>rfl
 gh:=λ{p k a d h0 h Q} hd ha hl q=>j9 (f:=147) (self:=[.aj 113]) rfl (by
  cases a with
  |none=>exact kZ (K:=0) (Jn (JC _ _) hd) (λ_=>rfl) q
  |some n=>exact Md (Jn (JC _ _) hd) (by
    exact Jw (Jn (ha n rfl) (Jn (Ze p (by decide:3<=4)) (Jn (Jr _ k) hl)):n<=3800) (by decide+kernel:3800<2 ^ 3900)) q)
 gf:=λ{d h0 h Q} hd q=>j9 (f:=150) (self:=[.aj 113]) rfl (kZ (K:=0) (Jn (JC _ _) hd) (λ_=>rfl) q)
abbrev QN:Type:= {q:Rat // 0<=q}
def eQ(q:QN):ab:=.ay [.Β q.1.num,.Β q.1.wf]
def nQ(q:QN):θ:=q.1.num.Th
theorem yJ(q:QN):((nQ q:θ):Φ)=q.1.num:=Xp (Rat.num_nonneg.ϥ q.2)
def sQ(q:QN):eQ q=.ay [.Β (nQ q:θ),.Β q.1.wf]:=by unfold eQ;rw[yJ]
def DQ(p k:θ)(q:QN):Prop:=q.1.wf ∣ 12 ^ p/\nQ q<=2 ^ k*q.1.wf
section
variable{p k:Nat}{q:QN}(ψ:DQ p k q)
def DQ.d:=@ψ.1
def DQ.n:=@ψ.2
end
theorem M5(h:d ∣ 12 ^ p):d<=2 ^ (4*p):=Jn (θ.le_of_dvd (qbn (by decide)) h) (by rw[θ.pow_mul];exact θ.pow_le_pow_left (by decide) p)
def DQ.bd{q:QN}(H:DQ p k q)(hl:4*p+k<=3800):nQ q<wB/\q.1.wf<wB:=by
 refine⟨He (k:=4*p+k) hl (Jn H.n ?_),He (k:=4*p) (Jn (Jr _ _) hl) (M5 H.d)⟩;simp only[ZW,XT];exact JI _ (M5 H.d)
def fr?_of{n m:θ}(hn:n<wB)(hm:m<wB)(h0:0<m):fr? (.ay [.Β n,.Β m])=Qa (n,m):=by
 show (nat? (.Β n)).Η (λa=>(nat? (.Β m)).Η λb=>aw (ZD 1 b) (Qa (a,b)))=_;rw[nat?_of hn,nat?_of hm];show aw (ZD 1 m) _=_;rw[KJ h0];rfl
def uh{q:QN}(H:DQ p k q)(hl:4*p+k<=3800):fr? (eQ q)=Qa (nQ q,q.1.wf):=by
 rw[sQ];exact fr?_of (H.bd hl).1 (H.bd hl).2 q.1.den_pos
def zE(hm:m≠0):(Rat.normalize (n:Φ) m hm).num=((n / Kv n m:θ):Φ)/\(Rat.normalize (n:Φ) m hm).wf=m / Kv n m:=by
 rw[Rat.normalize_eq];exact⟨by show (n:Φ) / ((Kv n m:θ):Φ)=_;rw[Φ.natCast_ediv],rfl⟩
def tC(a b:QN):QN:=⟨a.1+b.1,Rat.add_nonneg a.2 b.2⟩
def nR(a b:QN):QN:=⟨a.1*b.1,Rat.mul_nonneg a.2 b.2⟩
def zN(a b:QN):nQ (tC a b)=(nQ a*b.1.wf+nQ b*a.1.wf) / Kv (nQ a*b.1.wf+nQ b*a.1.wf) (a.1.wf*b.1.wf)/\(tC a b).1.wf=a.1.wf*b.1.wf / Kv (nQ a*b.1.wf+nQ b*a.1.wf) (a.1.wf*b.1.wf):=by
 have h0:a.1.wf*b.1.wf≠0:=qa5 a.1.den_nz b.1.den_nz;have e:(tC a b).1=Rat.normalize ((nQ a*b.1.wf+nQ b*a.1.wf:θ):Φ) (a.1.wf*b.1.wf) h0:=by
  show a.1+b.1=_;rw[Rat.add_def]
  congr 1
  simp only[qa3,K8,K8,yJ,yJ]
 exact⟨by unfold nQ;rw[e,(zE (n:=nQ a*b.1.wf+nQ b*a.1.wf) h0).1];rfl,by rw[e,(zE (n:=nQ a*b.1.wf+nQ b*a.1.wf) h0).2]⟩
def zF(a b:QN):nQ (nR a b)=(nQ a*nQ b) / Kv (nQ a*nQ b) (a.1.wf*b.1.wf)/\(nR a b).1.wf=a.1.wf*b.1.wf / Kv (nQ a*nQ b) (a.1.wf*b.1.wf):=by
 have h0:a.1.wf*b.1.wf≠0:=qa5 a.1.den_nz b.1.den_nz;have e:(nR a b).1=Rat.normalize ((nQ a*nQ b:θ):Φ) (a.1.wf*b.1.wf) h0:=by
  show a.1*b.1=_;rw[Rat.mul_def]
  congr 1
  simp only[K8,yJ,yJ]
 exact⟨by unfold nQ;rw[e,(zE (n:=nQ a*nQ b) h0).1];rfl,by rw[e,(zE (n:=nQ a*nQ b) h0).2]⟩
def zdr(a b:QN):eQ (tC a b)=zh (nQ a) a.1.wf (nQ b) b.1.wf:=by
 simp only[sQ,(zN a b).1,(zN a b).2];rfl
def IQ(a b:QN):eQ (nR a b)=wa (nQ a) a.1.wf (nQ b) b.1.wf:=by
 rw[sQ,(zF a b).1,(zF a b).2];rfl
def IG(q:QN):Kv (nQ q) q.1.wf=1:=by
 exact((Φ.natAbs_natCast _).Μ.ν (ω Φ.natAbs (yJ q)):nQ q=q.1.num.natAbs)▸q.1.reduced
def zav(hd:0<d):n / Kv n d*d=n*(d / Kv n d):=by
 refine Zx (θ.gcd_dvd_left n d) λx zq6=>?_;refine xE (θ.gcd_dvd_right n d) λy hy=>?_;rw[(XA (YB _ hd:0<Kv n d) zq6:n / Kv n d=x),(XA (YB _ hd:0<Kv n d) hy:d / Kv n d=y)]
 calc x*d=x*(Kv n d*y):=by rw[<-hy]
  _=(Kv n d*x)*y:=by rw[<-qaE,Xq x]
  _=n*y:=by rw[<-zq6]
def NE(a b:QN):nQ (tC a b)*(a.1.wf*b.1.wf)=(nQ a*b.1.wf+nQ b*a.1.wf)*(tC a b).1.wf:=by
 simp only[(zN a b).1,(zN a b).2];exact zav (Xh a.1.den_pos b.1.den_pos)
def IL(a b:QN):nQ (nR a b)*(a.1.wf*b.1.wf)=(nQ a*nQ b)*(nR a b).1.wf:=by
 simp only[(zF a b).1,(zF a b).2];exact zav (Xh a.1.den_pos b.1.den_pos)
def Eo{q:QN}{M:θ}(h:nQ q*M=x*q.1.wf):q.1.wf ∣ M:=by
 exact(by rw[θ.Coprime,θ.gcd_comm];exact IG q:θ.Coprime q.1.wf (nQ q)).dvd_of_dvd_mul_left ⟨x,by rw[h,Xq]⟩
def NF{a b:QN}{M:θ}(hM:0<M)(ha:a.1.wf ∣ M)(hb:b.1.wf ∣ M):(tC a b).1.wf ∣ M:=by
 obtain⟨x,hx⟩:=ha;obtain⟨y,hy⟩:=hb;refine Eo (x:=nQ a*x+nQ b*y) (θ.eq_of_mul_eq_mul_right hM ?_);have e:=NE a b
 generalize nQ (tC a b)=n at*
 generalize (tC a b).1.wf=c at*
 generalize a.1.wf=d at*
 generalize b.1.wf=f at*
 generalize nQ a=u at*
 generalize nQ b=v at*
 calc n*M*M=n*(d*x)*(f*y):=by rw[<-hx,<-hy]
  _=(n*(d*f))*(x*y):=by ac_rfl
  _=((u*f+v*d)*c)*(x*y):=by rw[e]
  _=(u*x*(f*y)+v*y*(d*x))*c:=by simp only[Yf];congr 1<;>ac_rfl
  _=(u*x*M+v*y*M)*c:=by rw[<-hx,<-hy]
  _=(u*x+v*y)*c*M:=by simp only[Yf];congr 1<;>ac_rfl
def L7{a b:QN}{M:θ}(ha:a.1.wf ∣ M)(hb:b.1.wf ∣ N):(nR a b).1.wf ∣ M*N:=by
 obtain⟨x,hx⟩:=ha;obtain⟨y,hy⟩:=hb;refine Eo (x:=nQ a*nQ b*(x*y)) ?_;have e:=IL a b
 generalize nQ (nR a b)=n at*
 generalize (nR a b).1.wf=c at*
 simp only[hx,hy]
 calc n*(a.1.wf*x*(b.1.wf*y))=(n*(a.1.wf*b.1.wf))*(x*y):=by ac_rfl
  _=(nQ a*nQ b*c)*(x*y):=by rw[e]
  _=nQ a*nQ b*(x*y)*c:=by ac_rfl
def Su{a b:QN}(ha:nQ a<=k*a.1.wf)(hb:nQ b<=k*b.1.wf):nQ (tC a b)<=k*2*(tC a b).1.wf:=by
 refine XE ?_ (Xh a.1.den_pos b.1.den_pos);rw[(NE a b)];have h3:nQ a*b.1.wf+nQ b*a.1.wf<=k*2*(a.1.wf*b.1.wf):=by
  have e1:k*2*(a.1.wf*b.1.wf)=k*a.1.wf*b.1.wf+k*b.1.wf*a.1.wf:=by
   rw[qaE k 2,YN,qa1];congr 1<;>ac_rfl
  rw[e1];exact JJ (Ze b.1.wf ha) (Ze a.1.wf hb)
 rw[show k*2*(tC a b).1.wf*(a.1.wf*b.1.wf)=k*2*(a.1.wf*b.1.wf)*(tC a b).1.wf by ac_rfl];exact(Ze (tC a b).1.wf h3)
def Ea{a b:QN}{l:θ}(ha:nQ a<=k*a.1.wf)(hb:nQ b<=l*b.1.wf):nQ (nR a b)<=k*l*(nR a b).1.wf:=by
 refine XE ?_ (Xh a.1.den_pos b.1.den_pos);rw[(IL a b)];rw[show k*l*(nR a b).1.wf*(a.1.wf*b.1.wf)=k*a.1.wf*(l*b.1.wf)*(nR a b).1.wf by ac_rfl];exact(Ze (nR a b).1.wf (qbb ha hb))
theorem IR(a b c:QN):nR a (tC b c)=tC (nR a b) (nR a c):=Tw.TA (Rat.Sc ..)
def uG(a b:QN):QN:=if a.1<b.1 then b else a
theorem oU{a b:QN}(h:b.1<=a.1):uG a b=a:=τ (Rat.not_lt.ϥ h)
def TN{a b:QN}(h:a.1<=b.1):uG a b=b:=by
 delta uG;by_cases q:a.1<b.1
 ·exact φ q
 ·exact(τ q).ν (Tw.TA (Rat.le_antisymm h (Rat.not_lt.mp q)))
def FT(a b:QN):uG a b=uG b a:=by
 rcases Rat.le_total (a:=a.1) (b:=b.1) with h|h
 ·rw[TN h,oU h]
 ·rw[oU h,TN h]
def DK(a b c:QN):uG (uG a b) c=uG a (uG b c):=by
 rcases Rat.le_total (a:=a.1) (b:=b.1) with h|h<;>rcases Rat.le_total (a:=b.1) (b:=c.1) with h2|h2
 ·rw[TN h,TN h2,TN (Rat.le_trans h h2)]
 ·rw[TN h,oU h2,TN h]
 ·rw[oU h,TN h2]
 ·rw[oU h,oU h2,oU h,oU (Rat.le_trans h2 h)]
def IM(a b c:QN):nR a (uG b c)=uG (nR a b) (nR a c):=by
 rcases Rat.le_total (a:=b.1) (b:=c.1) with h|h
 ·rw[TN h,TN (a:=nR a b) (b:=nR a c) (Rat.mul_le_mul_of_nonneg_left h a.2)]
 ·rw[oU h,oU (a:=nR a b) (b:=nR a c) (Rat.mul_le_mul_of_nonneg_left h a.2)]
def zcw(a b:QN):eQ (uG a b)=xq (nQ a) a.1.wf (nQ b) b.1.wf:=by
 delta xq;have e:a.1<b.1 ↔ nQ a*b.1.wf<nQ b*a.1.wf:=by
  rw[Rat.lt_iff,<-yJ,<-yJ]
  constructor
  ·intro h;exact Z2.mp (by rw[K8,K8];exact h)
  ·intro h;have:=Z2.ϥ h;rw[K8,K8] at this;exact this
 delta uG;by_cases h:a.1<b.1
 ·rw[φ h,φ (e.mp h),sQ]
 ·rw[τ h,τ λq=>h (e.ϥ q),sQ]
def Ra(a b:QN):uG a b=a\/uG a b=b:=by
 rcases Rat.le_total (a:=a.1) (b:=b.1) with h|h
 ·exact .IO (TN h)
 ·exact .wv (oU h)
def Rv{a b c e:Φ}:lz h (.ay [.Β a,.Β b]) (.ay [.Β c,.Β e])=Qa (a==c && b==e):=by
 show Qa (a==c && (b==e && Qe))=_;rw[Ym]
theorem zdT:wB<gB:=qaq (by decide) (by decide)
def SH{a b:QN}:lz h (eQ a) (eQ b)=Qa (@decide (a=b) (mt)):=by
 delta eQ;refine Rv.ν ?_
 congr 1
 by_cases q:a=b
 ·subst q;simp
 ·rw[Θ q,qal]
  by_cases h1:a.1.num=b.1.num
  ·exact .IO (ϧ λh2=>q (Tw.TA (Rat.TA h1 (Φ.ofNat_inj.mp h2))))
  ·exact .wv (ϧ h1)
def LN{q:QN}{s:ab}(hd:2<=d)(h1:nQ q<wB)(h2:q.1.wf<wB)(qq:Q (eQ q) h):WF P0 d 157 [s,eQ q] h Q:=by
 have hp:=q.1.den_pos;rw[sQ] at qq ⊢;exact kN (K:=1) hd (Qa s::Qa (.ay [.Β (nQ q),.Β q.1.wf])::nn 6) tA rfl λd' h'=>j6 (.c4<|.c4<|.c4<|.c4<|.c3<|.f (Θ (p:=(q.1.wf:Φ)<1) (by lia))<|.c2<|.f (wF h1)<|.c2<|.f (wF h2)<|.c2<|.q ((λh=>(zfx h' (Zv h1 zdT) h).ν (by rw[(IG q)];rfl):∀h,jO (ah P0 d') (.aj 109) [.Β q.1.wf,.Β (nQ q)] h=Qa (.Β 1,h)))<|.c2<|.z (qq)) rfl
theorem bL:(0:Rat)<=1:=rfl
def G3:Rg where
 i:=3
 hi:=by decide
 α:=QN
 gk:=mt
 e:=eQ
 zero:=⟨0,Rat.le_refl⟩
 cw:=⟨1,bL⟩
 add:=tC
 mul:=nR
 D:=DQ
 wE:=λa b=>Tw.TA (Rat.wE ..)
 Ϣ:=λa b c=>Tw.TA (Rat.Ϣ ..)
 Χ:=λa=>Tw.TA (Rat.Χ ..)
 Tb:=λa b=>Tw.TA (Rat.Tb ..)
 Id:=λa b c=>Tw.TA (Rat.Id ..)
 one_mul:=λa=>Tw.TA (Rat.one_mul ..)
 w9:=λa=>Tw.TA (Rat.w9 ..)
 Sc:=IR
 pe:=rfl
 rl:=rfl
 vg:=λa=>rfl
 ff:=λh a b=>SH
 af:=λ{p q k l a} hp hk ha=>⟨qbh ha.d (qa6 12 hp),Jn ha.n (Ze _ (qar (by decide) hk))⟩
 bq:=⟨qav _,JB _⟩
 gd:=⟨qav _,by show 1<=_;decide⟩
 fm:=λ{p k a b} ha hb=>⟨NF (qbn (by decide)) ha.d hb.d,by rw[qbj];exact Su ha.n hb.n⟩
 fc:=λ{p q k l a b} ha hb=>⟨by rw[XT];exact L7 ha.d hb.d,by rw[XT];exact Ea ha.n hb.n⟩
 gg:=λ{p k a b} ha hb hl=>by
  show mz zh (eQ a) (eQ b)=_;unfold mz;rw[uh ha hl,uh hb hl,zdr];rfl
 fw:=λ{p q k l a b} ha hb hl=>by
  show mz wa (eQ a) (eQ b)=_;unfold mz;rw[uh ha (by lia),uh hb (by lia),IQ];rfl
 gh:=λ{p k a d h0 h Q} hd ha hl q=>j9 (f:=157) (self:=[.aj 115]) rfl (LN (JN (KI hd)) (ha.bd hl).1 (ha.bd hl).2 q)
 gf:=λ{d h0 h Q} hd q=>j9 (f:=160) (self:=[.aj 115]) rfl (kZ (K:=2) hd (λ_=>by kernel_rfl) q)
def DL(p k:θ)(q:QN):Prop:=q.1.wf ∣ 12 ^ p/\nQ q<=q.1.wf
section
variable{p k:Nat}{q:QN}(ψ:DL p k q)
def DL.d:=@ψ.1
def DL.n:=@ψ.2
end
theorem DL.q{q:QN}(H:DL p k q):DQ p 0 q:=⟨H.d,by rw[θ.pow_zero,Kg];exact H.n⟩
def FV{q:QN}{s:ab}(hd:3<=d)(h1:nQ q<wB)(h2:q.1.wf<wB)(h3:nQ q<=q.1.wf)(qq:Q (eQ q) h):WF P0 d 161 [s,eQ q] h Q:=by
 rw[sQ] at qq ⊢;exact kN (K:=2) hd (Qa s::Qa (.ay [.Β (nQ q),.Β q.1.wf])::nn 6) sY rfl λd' h'=>j6 (.q ((λh=>by rw[<-sQ];exact me (f:=157) (self:=[]) rfl (LN h' h1 h2 (cn _ _)):∀h,kI (ah P0 d') (.aj 111) IH [s,.ay [.Β (nQ q),.Β q.1.wf]] h h=Qa (.ay [.Β (nQ q),.Β q.1.wf],h)))<|.c3<|.f (Θ (p:=(q.1.wf:Φ)<nQ q) (by lia))<|.z (qq)) rfl
def G1:Rg where
 i:=4
 hi:=by decide
 α:=QN
 gk:=mt
 e:=eQ
 zero:=⟨0,Rat.le_refl⟩
 cw:=⟨1,bL⟩
 add:=uG
 mul:=nR
 D:=DL
 wE:=FT
 Ϣ:=DK
 Χ:=λa=>TN a.2
 Tb:=λa b=>Tw.TA (Rat.Tb ..)
 Id:=λa b c=>Tw.TA (Rat.Id ..)
 one_mul:=λa=>Tw.TA (Rat.one_mul ..)
 w9:=λa=>Tw.TA (Rat.w9 ..)
 Sc:=IM
 pe:=rfl
 rl:=rfl
 vg:=λa=>rfl
 ff:=λh a b=>SH
 af:=λ{p q k l a} hp hk ha=>⟨qbh ha.d (qa6 12 hp),ha.n⟩
 bq:=⟨qav _,JB _⟩
 gd:=⟨qav _,Jv 1⟩
 fm:=λ{p k a b} ha hb=>by
  rcases Ra a b with e|e
  ·rw[e];exact⟨ha.d,ha.n⟩
  ·rw[e];exact⟨hb.d,hb.n⟩
 fc:=λ{p q k l a b} ha hb=>⟨by rw[XT];exact L7 ha.d hb.d,by
  have:=Ea (k:=1) (l:=1) (by rw[Kg];exact ha.n) (by rw[Kg];exact hb.n)
  simpa using this⟩
 gg:=λ{p k a b} ha hb hl=>by
  show mz xq (eQ a) (eQ b)=_;unfold mz;rw[uh ha.q (JV (Jn (Jr _ _) hl) _),uh hb.q (JV (Jn (Jr _ _) hl) _),zcw];rfl
 fw:=λ{p q k l a b} ha hb hl=>by
  show mz wa (eQ a) (eQ b)=_;unfold mz;rw[uh ha.q (by lia),uh hb.q (by lia),IQ];rfl
 gh:=λ{p k a d h0 h Q} hd ha hl q=>j9 (f:=161) (self:=[.aj 116]) rfl (FV hd (ha.q.bd (JV (Jn (Jr _ _) hl) _)).1 (ha.q.bd (JV (Jn (Jr _ _) hl) _)).2 ha.n q)
 gf:=λ{d h0 h Q} hd q=>j9 (f:=163) (self:=[.aj 116]) rfl (kZ (K:=0) (Jn (JC _ _) hd) (λ_=>rfl) q)
section
variable{h0:MH}{X:List (Nat×ae)}
def Mk(R:Rg)(h g:MH)(m:θ)(M:Mc R.α)(X:ζ (θ×ae)):Prop:=(∃L:Ly,L.m=m/\ao R g L M/\(∀a∈fk L,h.ε<=a)/\∀p∈X,g[p.1]?=Qa p.2/\p.1∉fk L)/\∃t,g=h++t
section
variable{R:Rg}{h g:MH}{m:Nat}{M:Mc R.α}{X:List (Nat×ae)}(ψ:Mk R h g m M X)
def Mk.x:=@ψ.1
def Mk.Tr:=@ψ.2
end
def Mk.ob(H:Mk R h g m M X)(hp:(a,o)∈X):g[a]?=Qa o:=by
 exact H.x.ι λL zq12=>(zq12.2.2.2 _ hp).1
def Mk.up(H:Mk R h g m M X)(e:h[a]?=Qa o):g[a]?=Qa o:=by
 refine H.Tr.ι λt zq11=>?_;refine eqB zq11 ?_;exact jH e
def Mk.to{L':Ly}{M':Mc R.α}{S:ζ θ}(H:Mk R h g m M X)(e1:L.m=m)(ho:∀a∈fk L,h.ε<=a)(hx:∀p∈X,g[p.1]?=Qa p.2/\p.1∉fk L)(I':ao R g' L' M')(em:L'.m=L.m)(K:lX g g' S)(hS:∀a∈S,a∈fk L)(hL:∀a∈fk L',a∈fk L\/g.ε<=a):Mk R h g' m M' X:=by
 refine H.Tr.ι λt zq10=>?_;obtain rfl:=zq10;refine⟨⟨L',by rw[em,e1],I',λa ha=>(hL a ha).ι (ho a) λq=>Jn (by rw[Jx];exact Jr _ _) q,λp hp=>?_⟩,K.Tr λa ha=>ho a (hS a ha)⟩;refine xA (hx p hp) λh1 h2=>?_;exact⟨K.TF _ _ (λq=>h2 (hS _ q)) h1,λq=>(hL _ q).ι h2 λq=>ς (j4 h1) (ZH q)⟩
def Mk.TH(H:Mk R h g m M X){t:MH}:Mk R h (g++t) m M X:=by
 exact H.x.ι λL zq8=>H.to zq8.1 zq8.2.2.1 zq8.2.2.2 zq8.2.1.cq rfl (lX.cq (S:=[])) (λa ha=>ς ha Jz) λa ha=>.wv ha
def ao.mx(I:ao R g L M)(ha:a∈fk L):a<g.ε:=by
 rcases JM.mp ha with rfl|ha
 ·exact j4 I.fj
 rcases JM.mp ha with rfl|ha
 ·exact j4 I.aa
 rcases JM.mp ha with rfl|ha
 ·exact j4 I.ak
 ·exact I.ry ha
def Mk.fj(H:Mk R h g m M X){t:ae}:Mk R h (g++[t]) m M ((g.ε,t)::X):=by
 refine((H.TH (t:=[t])).x).ι λL zq7=>?_;refine H.x.ι λL0 zq6=>?_;refine⟨⟨L0,zq6.1,zq6.2.1.cq,zq6.2.2.1,λp hp=>?_⟩,(H.to (L:=L0) zq6.1 zq6.2.2.1 zq6.2.2.2 (zq6.2.1.cq (t:=[t])) rfl (lX.cq (S:=[])) (λa ha=>ς ha Jz) λa ha=>.wv ha).Tr⟩;rcases JM.mp hp with rfl|hp
 ·exact⟨ap,λq=>ς (zq6.2.1.mx q) (Zb _)⟩
 ·exact⟨jH (zq6.2.2.2 p hp).1,(zq6.2.2.2 p hp).2⟩
theorem wex{o:η (α×MH)}{v:α}{P:MH->Prop}(h:W o λx g=>x=v/\P g):∃g,o=Qa (v,g)/\P g:=(W.Mi h).ι λx a=>a.ι λg b=>⟨g,b.2.1▸b.1,b.2.2⟩
theorem IW(R:Rg)(h:MH)(hd:1<=d):∃g,jO (ah P0 d) (.aj 121) [.aj (112+R.i)] h=Qa (.ξ h.ε,g)/\Mk R h g h.ε M0 []:=
 (Iz R hd h).ι λt e=>⟨_,e.1,⟨_,rfl,e.2,λa ha=>by
  simp only[fk,JM,Jz,or_false] at ha;rcases ha with rfl|rfl|rfl<;>lia,λp hp=>ς hp Jz⟩,t,rfl⟩
def IV(hd:2<=d)(H:Mk R h g m M X)(hl:M.aa.ε<10000)(q:∀g',Mk R h g' m M.TH X->Q (.Β M.aa.ε) g'):WM (ah P0 d) (.ξ m) 495873782885 [] g g Q:=by
 refine H.x.ι λL zq5=>?_;obtain rfl:=zq5.1;refine j9 (lM zq5.2.1.fj rfl rfl) (Ln hd zq5.2.1 hl λg' I' K=>q g' (H.to rfl zq5.2.2.1 zq5.2.2.2 I' rfl K (λa ha=>?_) λa ha=>?_))
 ·simp only[JM,Jz,or_false] at ha
  rcases ha with rfl|rfl
  ·exact .pc _ (.mo _)
  ·exact .pc _ (.pc _ (.mo _))
 ·rcases Wi a ha with ha|rfl
  ·exact .wv ha
  ·exact .IO (Jv _)
def IY{a:Ar R.α}(hd:4<=d)(H:Mk R h g m M X)(hs:s<M.aa.ε)(ht:a.t<M.aa.ε)(lu:dp a.up)(ll:dp a.lo)(hw:R.D p k a.w)(hl:4*p+k<=3800)(hc:M.bb<100000)
  (q:∀g' M',Mk R h g' m M' X->(a.w=R.Κ->M'=M)->(a.w≠R.Κ->M'=M.fv s a)->Q .Ε g'):WM (ah P0 d) (.ξ m) 6386275 [.Β s,.Ϥ a.up,.Ϥ a.lo,R.e a.w,.Β a.t] g g Q:=by
 refine H.x.ι λL zq4=>?_;obtain rfl:=zq4.1;exact j9 (lM zq4.2.1.fj rfl rfl) (Nu hd zq4.2.1 hs ht lu ll hw hl hc λg' M' I' K h1 h2=>q g' M' (H.to rfl zq4.2.2.1 zq4.2.2.2 I' rfl K (λa ha=>ha) λa ha=>.wv ha) h1 h2)
def IX(hd:4<=d)(H:Mk R h g m M X)(hs:s<M.aa.ε)(hw:R.D p k w)(hl:4*p+k<=3800):∃g',kI (ah P0 d) (.ξ m) 6647396 [.Β s,R.e w] g g=Qa (.Ε,g')/\Mk R h g' m {M with ak:=M.ak.Ϫ s w} X:=by
 refine xEAA H.x λL dw I iq=>?_;refine xA iq λho hx=>?_;subst dw;exact wex (j9 (lM I.fj rfl rfl) (zcY hd I hs hw hl λg' I' K=>⟨rfl,H.to rfl ho hx I' rfl K (λa ha=>ha) λa ha=>.wv ha⟩))
def P8(hd:4<=d)(H:Mk R h g m M X)(hs:s<M.aa.ε):∃g',kI (ah P0 d) (.ξ m) 6647396 [.Β s] g g=Qa (.Ε,g')/\Mk R h g' m {M with ak:=M.ak.Ϫ s R.cw} X:=by
 refine H.x.ι λL zq2=>?_;obtain rfl:=zq2.1;exact wex (j9 (lM zq2.2.1.fj rfl rfl) (RV hd zq2.2.1 hs λg' I' K=>⟨rfl,H.to rfl zq2.2.2.1 zq2.2.2.2 I' rfl K (λa ha=>ha) λa ha=>.wv ha⟩))
def Hb(hd:4<=d)(H:Mk R h g m M X)(hs:s<M.aa.ε)(hw:R.D p k w)(hl:4*p+k<=3800):∃g',kI (ah P0 d) (.ξ m) 422608071022 [.Β s,R.e w] g g=Qa (.Ε,g')/\Mk R h g' m {M with start:=s,first:=w} X:=by
 refine xEAA H.x λL dw I iq=>?_;refine xA iq λho hx=>?_;subst dw;exact wex (j9 (lM I.fj rfl rfl) (HK hd I hs hw hl λg' I' K=>⟨rfl,H.to rfl ho hx I' rfl K (λa ha=>ha) λa ha=>.wv ha⟩))
end
section
variable{h0:MH}{X:List (Nat×ae)}
def ao.bF(I:ao R g L M)(ha:g[a]?=Qa (.ο vs))(hn:a∉fk L):ao R (g.Ϫ a o) L M:=by
 have k:∀{b:θ}{o':ae},b∈fk L->g[b]?=Qa o'->(g.Ϫ a o)[b]?=Qa o':=λ{b o'} hb e=>jZ (λq=>hn (q▸hb)) e;refine⟨k (.mo _) I.fj,k (.pc _ (.mo _)) I.aa,k (.pc _ (.pc _ (.mo _))) I.ak,I.lv,I.fg,λi r xs hr hx=>?_,I.nd,I.bg,I.ct,I.cl,I.ds.to λr hr _ e=>k (.pc _ (.pc _ (.pc _ hr))) e⟩;refine Zx (I.az i r xs hr hx) λas zq13=>?_;refine⟨as,k (.pc _ (.pc _ (.pc _ (Jt hr)))) zq13.1,zq13.2.1,λj b x e1 e2=>?_⟩;have hb:=zq13.2.2 j b x e1 e2;exact jZ (λq=>by subst q;rw[ha] at hb;cases hb) hb
def Mk.bE(H:Mk R h g m M ((a,.ο vs)::X))(hX:∀p∈X,a≠p.1)(ha:h.ε<=a):Mk R h (g.Ϫ a o) m M ((a,o)::X):=by
 refine H.x.ι λL zq12=>?_;have hx:=zq12.2.2.2;obtain⟨h1,h2⟩:=hx _ (.mo _);refine H.Tr.ι λt zq10=>?_;obtain rfl:=zq10;refine⟨⟨L,zq12.1,zq12.2.1.bF h1 h2,zq12.2.2.1,λp hp=>?_⟩,⟨_,pU ha⟩⟩;rcases JM.mp hp with rfl|hp
 ·exact⟨kM h1,h2⟩
 ·exact⟨jZ (hX p hp) (hx p (.pc _ hp)).1,(hx p (.pc _ hp)).2⟩
theorem Mk.lt(H:Mk R h g m M X):∀p∈X,g.ε≠p.1:=λp hp=>by
 refine H.x.ι λL zq9=>?_
 have:=j4 (zq9.2.2.2 p hp).1
 exact Kb this
def Mk.jp{p:θ×ae}(H:Mk R h g m M (p::X)):Mk R h g m M X:=by
 exact H.x.ι λL zq8=>⟨⟨L,zq8.1,zq8.2.1,zq8.2.2.1,λq hq=>zq8.2.2.2 q (.pc _ hq)⟩,H.Tr⟩
def Mk.le(H:Mk R h g m M X):h.ε<=g.ε:=by
 refine H.Tr.ι λt zq7=>?_;refine eqB zq7 ?_;simp only[Jx];exact Jr _ _
def mK(M:Mc R.α):θ->Mc R.α
 |0=>M
 |n+1=>(mK M n).TH
def FR:(mK M n).aa.ε=M.aa.ε+n:=by
 induction n with
 |zero=>rfl
 |succ n ih=>show (_++[[]]).ε=_;rw[Jx,ih];rfl
def P9(hd:2<=d)(H:Mk R h g m M X)(hl:M.aa.ε+n<10000):∃v g',eval (ah P0 d) (.comp (.bc (.Ο 0) 495873782885 []) [2] Qc (.bn (.py (.ty 491260897125)) [.Ο 1]) []) (Qa (.ξ m)::Qa (.Β n)::nn 6) g=Qa (v,g')/\Mk R h g' m (mK M n) X:=by
 refine W.Mi (o:=eval (ah P0 d) _ _ g) (Q:=λ_ g'=>Mk R h g' m (mK M n) X) (vS ?_);have I0:∃k,∃xs:ζ ab,oZ g (.gq n)=Qa k/\xs.ε<(ah P0 d).ba/\∃I:θ->MH->Prop,I 0 (g++[.ο []])/\(∀i h,I i h->lP h i k=Qa xs[i]?)/\
   (∀i x,xs[i]?=Qa x->∀hh,I i hh->Wo (nW (Qa (.ξ m)::Qa (.Β n)::nn 6) [2] Qc x) λfr1=>sk (ah P0 d) fr1 [] hh λb h2=>Br b (WE (ah P0 d) fr1 (.bc (.Ο 0) 495873782885 []) h2 λx h3=>∃vs,h3[g.ε]?=Qa (.ο vs)/\vs.ε<bg/\I (i+1) (h3.Ϫ g.ε (.ο (vs++[x])))) (I (i+1) h2))/\
   ∀hh,I xs.ε hh->Mk R h hh m (mK M n) X:=by
  refine⟨.rg n,Gp n,DS (oI (Ju (JO (JC _ _)) (Jn (Zc hl) (JC _ _)))),by rw[nL];show _<200000;exact Ju (JO (JC _ _)) (Jn (Zc hl) (JC _ _)),λi hh=>i<=n/\∃vs,vs.ε=i/\Mk R h hh m (mK M i) ((g.ε,.ο vs)::X),⟨JB _,[],rfl,(H.fj (t:=.ο []))⟩,λi hh q=>DG q.1,λi v hv hh q=>?_,λhh q=>?_⟩
  ·obtain⟨hi,rfl⟩:=Gn hv
   refine q.2.ι λvs zq5=>?_;refine lI (vQ (zda ?_))
   have:∃v g',kI (ah P0 d) (.ξ m) 495873782885 [] hh hh=Qa (v,g')/\Mk R h g' m (mK M (i+1)) ((g.ε,.ο vs)::X):=W.Mi (IV hd zq5.2 (by rw[FR];exact Ju (ZL hi _) (JN hl)) λg' H2=>H2)
   exact this.ι λv zq3=>zq3.ι λg' zq4=>kO (.p (zq4.1)<|.z ((⟨vs,zq4.2.ob (.mo _),by rw[zq5.1];exact Ju hi (oI (Ju (JO (JC _ _)) (Jn (Zc hl) (JC _ _)))),hi,_,by rw[Jx,zq5.1];rfl,zq4.2.bE H.lt H.le⟩:∃us,g'[g.ε]?=Qa (.ο us)/\us.ε<bg/\i+1<=n/\∃ws,ws.ε=i+1/\Mk R h (g'.Ϫ g.ε (.ο (us++[v]))) m (mK M (i+1)) ((g.ε,.ο ws)::X)))) rfl
  ·rw[nL] at q
   exact q.2.ι λvs zq2=>zq2.2.jp
 exact kO (.c<|.z (I0)) rfl
def UD(hd:3<=d)(H:Mk R h g m M X)(hl:M.aa.ε+n<10000):∃v g',kI (ah P0 d) (.ξ m) 126943688418675 [.Β n] g g=Qa (v,g')/\Mk R h g' m (mK M n) X:=by
 refine H.x.ι λL zq1=>?_;refine W.Mi (Q:=λ_ g'=>Mk R h g' m (mK M n) X) (j9 (zq1.1▸lM zq1.2.1.fj rfl rfl:mS P0 g (.ξ m) 126943688418675=Qa (169,[.ξ m])) (kN (K:=2) hd (Qa (.ξ m)::Qa (.Β n)::nn 6) pQ rfl λd' h'=>?_));have e1:=zao (n:=n) (d:=d') (JN (KI h')) zq1.2.1 (Jn (JN hl) (JC _ _));rw[zq1.1] at e1;exact(P9 h' H hl).ι λv a=>a.ι λg' b=>j6 (.p (e1)<|.p (b.1)<|.z b.2) rfl
end
section
variable{h0:MH}
def j3(i:θ):ζ θ:=five [121,101,115] [108,101,97,115,116] [99,111,117,110,116] [99,104,97,110,99,101] [108,105,107,101,108,121] i
abbrev II:θ:=1851878757
theorem zeP{i:θ}(hi:i<5)(q:Q (.Ϥ (j3 i)) h):WA P0 (.aj (112+i)) II h Q:=
 Dl (o6 (C:=λi=>((P0.cg (112+i)).Η λc=>uV P0 c II)=Qa (.Ϥ (j3 i))) i hi rfl rfl rfl rfl rfl) q
def zeo{i:θ}(hi:i<5)(hd:1<=d)(q:Q (.aj (112+i)) h):WF P0 d 105 [.Ϥ (j3 i)] h Q:=by
 revert q
 refine o6 (C:=λi=>Q (.aj (112+i)) h->WF P0 d 105 [.Ϥ (j3 i)] h Q) i hi ?_ ?_ ?_ ?_ ?_<;>intro q
 ·exact kZ (K:=0) hd (λ_=>by kernel_rfl) q
 ·exact kZ (K:=0) hd (λ_=>by kernel_rfl) q
 ·exact kZ (K:=0) hd (λ_=>by kernel_rfl) q
 ·exact kZ (K:=0) hd (λ_=>by kernel_rfl) q
 ·exact kZ (K:=0) hd (λ_=>by kernel_rfl) q
def ly(i:θ):ζ ab:=five [.Β 1,.Β 1,.Β 1] [.Β 0,.Β 1,.Β 3] [.Β 1,.Β 1,.Β 2] [.ay [.Β 1,.Β 4],.ay [.Β 1,.Β 3],.ay [.Β 1,.Β 2]] [.ay [.Β 1,.Β 2],.ay [.Β 1,.Β 3],.ay [.Β 1,.Β 1]] i
def jw(h:MH):θ->MH
 |0=>h
 |n+1=>jw h n++[ae.ο (ly n)]
def vz(h:MH):ζ (ab×ab):=[(.Ϥ (j3 0),.ξ (jw h 0).ε),(.Ϥ (j3 1),.ξ (jw h 1).ε),(.Ϥ (j3 2),.ξ (jw h 2).ε),(.Ϥ (j3 3),.ξ (jw h 3).ε),(.Ϥ (j3 4),.ξ (jw h 4).ε)]
def Rb(h:MH)(n:θ):(jw h n).ε=h.ε+n:=by
 induction n with
 |zero=>rfl
 |succ n ih=>exact xT.ν (ω (· +1) ih)
def zfb(h:MH)(x:ae):jw h 5++[x]=h++[.ο (ly 0),.ο (ly 1),.ο (ly 2),.ο (ly 3),.ο (ly 4),x]:=by unfold jw jw jw jw jw jw;simp only[JA,Yi,qa4]
def zfc{i:θ}(hi:i<5)(hd:1<=d)(q:∀t a,h.ε<=a->(h++t)[a]?=Qa (.ο (ly i))->Q (.ξ a) (h++t)):WF P0 d 138 [.Ϥ (j3 i)] h Q:=by
 refine kN (K:=0) hd (Qa (.Ϥ (j3 i))::nn 6) oE rfl λd' h'=>?_;have e2:Q (.ξ (jw h i).ε) (jw h 5++[.Υ (Qa 5) (vz h)]):=by
  rw[zfb,Rb];exact q _ _ (Jr _ _) (oC.ν (o6 (C:=λi=>([ae.ο (ly 0),.ο (ly 1),.ο (ly 2),.ο (ly 3),.ο (ly 4),.Υ (Qa 5) (vz h)]:MH)[i]?=Qa (.ο (ly i))) i hi rfl rfl rfl rfl rfl))
 exact j6 (.c<|.v ((sd (ep:=Qa 5) (es:=vz h) ap (o6 (C:=λi=>jT (vz h) (.Ϥ (j3 i))=Qe) i hi rfl rfl rfl rfl rfl) (o6 (C:=λi=>jW (vz h) (.Ϥ (j3 i))=Qa (.ξ (jw h i).ε)) i hi rfl rfl rfl rfl rfl):kR (jw h 5++[.Υ (Qa 5) (vz h)]) (.ξ (jw h 5).ε) (.Ϥ (j3 i))=Qa (.ξ (jw h i).ε)))<|.z (e2)) rfl
end
def cell(ns:ζ Φ)(k:θ):Φ:=ns[k]?.ϡ 0
theorem zfh(z:Cx)(ns:ζ Φ)(h:MH):jO z (.bi 7103854) [.fl (ns.π .Β)] h=Qa (.Β ns.ε,h):=W.eq (Df (n:=ns.ε) (by show Qa _=_;rw[Jq]) (cn _ _))
def R7(hd:1<=d){i:Φ}(hi:i=k)(q:Q (.Β (cell ns k)) h):WF P0 d 137 [.fl (ns.π .Β),.Β i] h Q:=by
 subst hi;refine kN (K:=0) hd (Qa (.fl (ns.π .Β))::Qa (.Β k)::nn 6) qD rfl λd' h'=>?_;by_cases hk:k<ns.ε
 ·have e:cell ns k=ns[k]:=by unfold cell;rw[Jp hk];rfl
  exact j6 (.q (zfh (ah P0 d') ns)<|.c<|.t (Γ (Z2.ϥ hk))<|.v ((Wo.eq (zdO (Q:=λa _=>a=.Β (cell ns k)) (v:=.Β (cell ns k)) (by rw[JE,Jp hk,e];rfl) rfl):kR h (.fl (ns.π .Β)) (.Β k)=Qa (.Β (cell ns k))))<|.z (q)) rfl
 ·have e:cell ns k=0:=by
   delta cell;rw[Z0 (ZM hk)];rfl
  rw[e] at q;exact j6 (.q (zfh (ah P0 d') ns)<|.c<|.f (Θ (λh=>hk (Z2.mp h)))<|.z (q)) rfl
def qO(x:Φ)(hm:0<m):∃n:θ,n<m/\Xs x m=n:=by
 have g1:=Φ.fmod_nonneg_of_pos x (Φ.natCast_pos.ϥ hm);exact⟨(Xs x m).Th,(Φ.toNat_lt g1).ϥ (Φ.fmod_lt_of_pos x (Φ.natCast_pos.ϥ hm)),(Xp g1).Μ⟩
section
variable{h0:MH}
def RL(R:Rg)(ws:ζ R.α):Prop:=R.cw≠R.Κ/\ws.ε=3/\(∀w∈ws,R.D 1 1 w/\w≠R.Κ)/\ly R.i=ws.π R.e
section
variable{R:Rg}{ws:List R.α}(ψ:RL R ws)
def RL.ne:=@ψ.1
def RL.lv:=@ψ.2.1
def RL.dg:=@ψ.2.2.1
def RL.e:=@ψ.2.2.2
end
def gz:ζ (ζ θ):=[[97],[98],[]]
def rd(us:ζ (ζ θ))(n k:θ)(M:Mc R.α):Prop:=M.aa.ε=n/\(∀e∈M.ak,R.D 1 1 e)/\(∀(s:θ)(ys:ζ (Ar R.α)),M.aa[s]?=Qa ys->∀a∈ys,a.t<n/\dp a.up/\dp a.lo/\R.D 1 1 a.w/\a.w≠R.Κ/\(a.di=Qe->s<a.t)/\a.up∈us/\a.lo∈gz)/\M.bb<=k
section
variable{us:List (List Nat)}{n k:Nat}{M:Mc R.α}(ψ:rd us n k M)
def rd.lv:=@ψ.1
def rd.ak:=@ψ.2.1
def rd.fv:=@ψ.2.2.1
def rd.ct:=@ψ.2.2.2
end
def rd.put{us:ζ (ζ θ)}{a:Ar R.α}(P:rd us n k M)(hs:s<n)(ha:a.t<n/\dp a.up/\dp a.lo/\R.D 1 1 a.w/\a.w≠R.Κ/\(a.di=Qe->s<a.t)/\a.up∈us/\a.lo∈gz):rd us n (k+1) (M.fv s a):=by
 have hsl:s<M.aa.ε:=by rw[P.lv];exact hs
 refine⟨by show (qbc _ _ _).ε=_;rw[Zd];exact P.lv,P.ak,λs' ys hy x hx=>?_,Zf P.ct⟩;have hy:(M.aa.Ϫ s (M.aa[s]?.ϡ []++[a]))[s']?=Qa ys:=hy;by_cases e:s=s'
 ·subst e
  rw[J6 hsl] at hy;obtain rfl:=Qa.lf hy;rcases Zh.mp hx with hx|hx
  ·rw[Jp hsl] at hx
   exact P.fv s _ (Jp hsl) x hx
  ·cases JD.mp hx;exact ha
 ·rw[J7 e] at hy
  exact P.fv s' ys hy x hx
abbrev tc(R:Rg):=MH×Mc R.α×η ab×η ab×η ab×η ab×η ab×η ab
section
variable{R:Rg}(ψ:tc R)
abbrev tc.g:=ψ.1
abbrev tc.M:=ψ.2.1
abbrev tc.a:=ψ.2.2.1
abbrev tc.b:=ψ.2.2.2.1
abbrev tc.c:=ψ.2.2.2.2.1
abbrev tc.d:=ψ.2.2.2.2.2.1
abbrev tc.e:=ψ.2.2.2.2.2.2.1
abbrev tc.f:=ψ.2.2.2.2.2.2.2
end
abbrev xe(R:Rg):=MH×ζ Φ×θ×θ×ζ (ζ θ)×ζ R.α×θ×θ
section
variable{R:Rg}(ψ:xe R)
abbrev xe.h:=ψ.1
abbrev xe.ns:=ψ.2.1
abbrev xe.o:=ψ.2.2.1
abbrev xe.aU:=ψ.2.2.2.1
abbrev xe.us:=ψ.2.2.2.2.1
abbrev xe.ws:=ψ.2.2.2.2.2.1
abbrev xe.n:=ψ.2.2.2.2.2.2.1
abbrev xe.aW:=ψ.2.2.2.2.2.2.2
end
def cZ(X:xe R):Prop:=RL R X.ws/\X.h[X.aU]?=Qa (.ο (X.us.π .Ϥ))/\X.us≠[]/\(∀u∈X.us,dp u)/\0<X.n/\X.n<=4
section
variable{X:xe R}(ψ:cZ X)
def cZ.Z:=@ψ.1
def cZ.hU:=@ψ.2.1
def cZ.hu:=@ψ.2.2.1
def cZ.yi:=@ψ.2.2.2.1
def cZ.hn:=@ψ.2.2.2.2.1
def cZ.vh:=@ψ.2.2.2.2.2
end
def rn(X:xe R)(a b c d e f:η ab):Ψ.Λ:=Qa (.fl (X.ns.π .Β))::Qa (.Β X.o)::Qa (.aj (112+R.i))::Qa (.ξ X.aU)::Qa (.ϯ Qc)::Qa (.ξ X.h.ε)::Qa (.Β X.n)::Qa (.ξ X.aW)::a::b::c::d::e::f::nn 6
def pa(X:xe R)(k:θ)(s:tc R):Prop:=Mk R X.h s.g X.h.ε s.M [(X.aW,.ο (X.ws.π R.e))]/\rd X.us X.n k s.M
section
variable{X:xe R}{k:Nat}{s:tc R}(ψ:pa X k s)
def pa.H:=@ψ.1
def pa.P:=@ψ.2
end
abbrev zq:ζ Sm:=[(Sm.ft (T1.nm 9) (Ex.bn (Ex.py (ab.aj 137)) [(Ex.Ο 0),(Ex.fq gy.am (Ex.fq gy.am (Ex.Ο 1) (Ex.py (ab.Β 2))) (Ex.Ο 8))])),(Sm.ft (T1.nm 10) (Ex.fq gy.mod (Ex.Ο 9) (Ex.Ο 6))),(Sm.ft (T1.nm 11) (Ex.fq gy.mod (Ex.fq gy.fdiv (Ex.Ο 9) (Ex.py (ab.Β 4))) (Ex.Ο 6))),(Sm.ft (T1.nm 12) (Ex.Ix (Ex.Ο 3) (Ex.fq gy.mod (Ex.fq gy.fdiv (Ex.Ο 9) (Ex.py (ab.Β 16))) (Ex.bn (Ex.py (ab.bi 7103854)) [(Ex.Ο 3)])))),(Sm.ft (T1.nm 13) (Ex.Ix (Ex.ο [(Ex.py (ab.Ϥ [97])),(Ex.py (ab.Ϥ [98])),(Ex.py (ab.Ϥ []))]) (Ex.fq gy.mod (Ex.fq gy.fdiv (Ex.Ο 9) (Ex.py (ab.Β 48))) (Ex.py (ab.Β 3))))),(Sm.ft (T1.nm 11) (Ex.bn (Ex.py (ab.bi 7168376)) [(Ex.Ο 11),(Ex.fq gy.ss (Ex.fq gy.am (Ex.Ο 10) (Ex.py (ab.Β 1))) (Ex.qa Qe [(Ex.gm te.eq (Ex.fq gy.am (Ex.Ο 12) (Ex.Ο 13)) (Ex.py (ab.Ϥ []))),(Ex.Ο 4)]))])),(Sm.ite (Ex.gm te.lt (Ex.Ο 11) (Ex.Ο 6)) [(Sm.expr (Ex.bc (Ex.Ο 5) 6386275 [(Ex.Ο 10),(Ex.Ο 12),(Ex.Ο 13),(Ex.Ix (Ex.Ο 7) (Ex.fq gy.mod (Ex.fq gy.fdiv (Ex.Ο 9) (Ex.py (ab.Β 144))) (Ex.py (ab.Β 3)))),(Ex.Ο 11)]))] [])]
def iN{u:θ}(h:u<3):∃lo,([ab.Ϥ [97],.Ϥ [98],.Ϥ []]:ζ ab)[u]?=Qa (.Ϥ lo)/\dp lo/\lo∈gz:=by
 rcases u with _|_|_|u
 ·exact⟨[97],rfl,.IO ⟨97,rfl,by decide+kernel⟩,.mo _⟩
 ·exact⟨[98],rfl,.IO ⟨98,rfl,by decide+kernel⟩,.pc _ (.mo _)⟩
 ·exact⟨[],rfl,.wv rfl,.pc _ (.pc _ (.mo _))⟩
 ·exact ς h (Z9.ϥ (JC _ _))
abbrev b7:ζ Sm:=[(Sm.ite (Ex.gm te.lt (Ex.Ο 11) (Ex.Ο 6)) [(Sm.expr (Ex.bc (Ex.Ο 5) 6386275 [(Ex.Ο 10),(Ex.Ο 12),(Ex.Ο 13),(Ex.Ix (Ex.Ο 7) (Ex.fq gy.mod (Ex.fq gy.fdiv (Ex.Ο 9) (Ex.py (ab.Β 144))) (Ex.py (ab.Β 3)))),(Ex.Ο 11)]))] [])]
theorem sH(hd:1<=d)(ns:ζ Φ)(k:θ)(h:MH):jO (ah P0 d) (.aj 137) [.fl (ns.π .Β),.Β k] h=Qa (.Β (cell ns k),h):=fn rfl (R7 (d:=d) (k:=k) hd rfl ⟨rfl,rfl⟩)
theorem eU{a b:ζ θ}(ha:a.ε<=1)(hb:b.ε<=1)(h:MH):o7 .am (.Ϥ a) (.Ϥ b) h=Qa (.Ϥ (a++b),h):=W.eq (Oj (Jn (JJ ha hb) (by decide)) ⟨rfl,rfl⟩)
theorem Rn{l:ζ θ}(h:dp l):l.ε<=1:=h.ι (λe=>e▸JB _) λ⟨_,e,_⟩=>e▸Jv _
theorem zfw{a b:Φ}{r:θ}(e:(if b>a then b else a)=(r:Φ))(z:Cx)(h:MH):jO z (.bi Pt) [.Β a,.Β b] h=Qa (.Β r,h):=W.eq (zaP ⟨by rw[e],rfl⟩)
def ziJ{t:θ}{b:Ζ}(hb:b=Qe):(if ((s:Φ)+1)*(if b=Qe then 1 else 0)>(t:Φ) then((s:Φ)+1)*(if b=Qe then 1 else 0) else(t:Φ))=((max t (s+1):θ):Φ):=by
 rw[φ hb,Φ.mul_one]
 split<;>lia
def ziK{t:θ}:(if ((s:Φ)+1)*(if Qc=Qe then 1 else 0)>(t:Φ) then((s:Φ)+1)*(if Qc=Qe then 1 else 0) else(t:Φ))=(t:Φ):=by
 rw[τ JQ,Φ.xL]
 split<;>lia
section
variable{X:xe R}(C:cZ X)
include C
theorem za8(H:Mk R X.h g X.h.ε M [(X.aW,.ο (X.ws.π R.e))])(x:Φ):∃i:θ,Xs x 3=i/\∃w,kR g (.ξ X.aW) (.Β i)=Qa (R.e w)/\R.D 1 1 w/\w≠R.Κ:=
 (qO x (show 0<3 by decide)).ι λi q=>by
  have hi:i<X.ws.ε:=by rw[C.Z.lv];exact q.1
  exact⟨i,q.2,X.ws[i],sl (H.ob (.mo _)) (by rw[JE,Jp hi];rfl),C.Z.dg _ (Zt hi)⟩
def zcA{T:θ}{x:Φ}{up lo:ζ θ}{s:tc R}(hd:5<=d)(hu:up∈X.us)(l1:dp up)(l2:dp lo/\lo∈gz)(hs:sc<X.n)(hk:k<8)(hT:(up++lo== [])=Qe->sc<T)
  (I:pa X k s) (q:∀s',pa X (k+1) s'->R' .nx (rn X (vN k) (Qa (.Β x)) (vN sc) (vN T) (Qa (.Ϥ up)) (Qa (.Ϥ lo))) s'.g):
  ck (ah P0 d) b7 (rn X (vN k) (Qa (.Β x)) (vN sc) (vN T) (Qa (.Ϥ up)) (Qa (.Ϥ lo))) s.g R':=by
 cases (mt:Ch ((T:Φ)<(X.n:Φ))) with
 |isTrue hlt=>
  refine(za8 C I.H (qan x 144)).ι λwi a=>a.2.ι λw b=>?_;refine xEEAA (W.Mi (IY (d:=d) (Q:=λv g=>v=.Ε/\∃M',pa X (k+1) ⟨g,M',Qd,Qd,Qd,Qd,Qd,Qd⟩) (s:=sc) (a:=⟨up,lo,w,T⟩) (Jn (by decide) hd) I.H (by rw[I.P.lv];exact hs) (by rw[I.P.lv];exact(Z2.mp hlt:T<X.n)) l1 l2.1 b.2.1 (by decide) (Jw I.P.ct (Zv hk (by decide))) λg' M' H' _ e=>⟨rfl,M',H',e b.2.2▸I.P.put hs ⟨(Z2.mp hlt:T<X.n),l1,l2.1,b.2.1,b.2.2,λhe=>hT (by rw[show up=[] from(pK he).1,show lo=[] from(pK he).2];rfl),hu,l2.2⟩⟩)) λv g e dw iq=>?_;refine xE iq λM' q'=>?_;refine eqE dw ?_;exact j6 (.c<|.t (Γ hlt)<|.c<|.q (qX a.1 (by decide))<|.v (b.1)<|.p (e)<|.z (q _ q')) (by kernel_rfl)
 |isFalse hlt=>exact j6 (.c<|.f (Θ hlt)<|.z (q s ⟨I.H,I.P.lv,I.P.ak,I.P.fv,Zs I.P.ct⟩)) rfl
theorem SV(x:Φ):∃i:θ,i<X.n/\Xs x X.n=i:=qO x C.hn
theorem Pr:(X.n:Φ)≠0:=λe=>ς (Ye.mp e▸C.hn) (Zb _)
theorem zdV(x:Φ):∃i:θ,Xs x X.us.ε=i/\∃up,(X.us.π ab.Ϥ)[i]?=Qa (.Ϥ up)/\up∈X.us:=
 (qO x (qaB.ϥ C.hu)).ι λi q=>⟨i,q.2,X.us[i]'q.1,by rw[JE,Jp q.1];rfl,Zt q.1⟩
theorem SJ:(X.us.ε:Φ)≠0:=λe=>ς (Ye.mp e▸qaB.ϥ C.hu) (Zb _)
def eC{z:Cx}(e:g[X.aU]?=Qa (.ο (X.us.π .Ϥ))):jO z (.bi uD) [.ξ X.aU] g=Qa (.Β X.us.ε,g):=by rw[FW e,Jq]
abbrev l3:ae:=.ο [.Ϥ [97],.Ϥ [98],.Ϥ []]
def zcB{s:tc R}(hd:5<=d)(hk:k<8)(I:pa X k s)(q:∀s',pa X (k+1) s'->R' .nx (rn X (vN k) s'.b s'.c s'.d s'.e s'.f) s'.g):
  ck (ah P0 d) zq (rn X (vN k) s.b s.c s.d s.e s.f) s.g R':=by
 refine(SV C (cell X.ns (X.o+2+k))).ι λsc a=>(SV C (qan (cell X.ns (X.o+2+k)) 4)).ι λtg b=>(zdV C (qan (cell X.ns (X.o+2+k)) 16)).ι λui c=>c.2.ι λup cc=>(qO (qan (cell X.ns (X.o+2+k)) 48) (show 0<3 by decide)).ι λli e=>(iN e.1).ι λlo f=>?_;have I1:pa X k ⟨s.g++[l3],s.2⟩:=⟨I.H.TH,I.P⟩;have g3:kR (s.g++[l3]) (.ξ s.g.ε) (.Β li)=Qa (.Ϥ lo):=sl ap f.1;have tail:∀T:θ,((up++lo== [])=Qe->sc<T)->ck (ah P0 d) b7 (rn X (vN k) (Qa (.Β (cell X.ns (X.o+2+k)))) (vN sc) (vN T) (Qa (.Ϥ up)) (Qa (.Ϥ lo))) (s.g++[l3]) R':=λT hT=>by
  have:=zcA (R':=R') (x:=cell X.ns (X.o+2+k)) C (s:=⟨s.g++[l3],s.2⟩) (T:=T) hd cc.2 (C.yi up cc.2) f.2 a.1 hk hT I1
  exact this λs' I'=>q ⟨s'.1,s'.2.1,s'.2.2.1,Qa (.Β (cell X.ns (X.o+2+k))),vN sc,vN T,Qa (.Ϥ up),Qa (.Ϥ lo)⟩ ⟨I'.H,I'.P⟩
 refine mP (a:=zq.na 6) (b:=b7) ?_;refine vL (up++lo== []) (λhe=>?_) λhe=>?_
 ·exact j6 (.c2<|.q (sH (Jn (by decide) hd:1<=d) X.ns (X.o+2+k))<|.q (qX a.2 (Pr C))<|.c<|.q (qX b.2 (Pr C))<|.c<|.p (eC C (z:=ah P0 d) (I.H.up C.hU))<|.q (qX c.1 (SJ C))<|.v (sl (I.H.up C.hU) cc.1)<|.at ((s.g++[l3]))<|.c<|.q (qX e.2 (by decide))<|.v (g3)<|.c<|.q (eU (Rn (C.yi up cc.2)) (Rn f.2.1))<|.k (wz (up++lo) [])<|.t (he)<|.c<|.q (zfw (ziJ (s:=sc) (t:=tg) he) (ah P0 d))<|.z (nC (tail (max tg (sc+1)) λ_=>Ju (JR _) (θ.le_max_right _ _)))) (by kernel_rfl)
 ·exact j6 (.c2<|.q (sH (Jn (by decide) hd:1<=d) X.ns (X.o+2+k))<|.q (qX a.2 (Pr C))<|.c<|.q (qX b.2 (Pr C))<|.c<|.p (eC C (z:=ah P0 d) (I.H.up C.hU))<|.q (qX c.1 (SJ C))<|.v (sl (I.H.up C.hU) cc.1)<|.at ((s.g++[l3]))<|.c<|.q (qX e.2 (by decide))<|.v (g3)<|.c<|.q (eU (Rn (C.yi up cc.2)) (Rn f.2.1))<|.k (wz (up++lo) [])<|.f (he)<|.c<|.q (zfw (ziK (s:=sc) (t:=tg)) (ah P0 d))<|.z (nC (tail tg λe=>ς (e.Μ.ν he) JK))) (by kernel_rfl)
end
end
section
variable{h0:MH}{X:List (Nat×ae)}
def Mk.cL{t:MH}(H:Mk R h g m M X)(ha:g.ε<=a)(e:(g++t)[a]?=Qa o):Mk R h (g++t) m M ((a,o)::X):=by
 refine H.x.ι λL0 zq20=>?_;refine⟨⟨L0,zq20.1,zq20.2.1.cq,zq20.2.2.1,λp hp=>?_⟩,H.TH.Tr⟩;rcases JM.mp hp with rfl|hp
 ·exact⟨e,λq=>ς (zq20.2.1.mx q) (by show ¬a<_;exact ZH ha)⟩
 ·exact⟨jH (zq20.2.2.2 p hp).1,(zq20.2.2.2 p hp).2⟩
def uO(us:ζ (ζ θ))(M:Mc R.α):Prop:=kQ M 1 1/\ma M/\M.aa.ε<=4/\M.bb<=7/\∀ys∈M.aa,∀a∈ys,a.up∈us/\a.lo∈gz
section
variable{us:List (List Nat)}{M:Mc R.α}(ψ:uO us M)
def uO.g:=@ψ.1
def uO.up:=@ψ.2.1
def uO.n:=@ψ.2.2.1
def uO.c:=@ψ.2.2.2.1
def uO.us:=@ψ.2.2.2.2
end
def IS{us:ζ (ζ θ)}:rd us n 0 (mK (M0 (R:=R)) n):=by
 have e:(mK (M0 (R:=R)) n).aa=J5 n []/\(mK (M0 (R:=R)) n).ak=J5 n R.Κ/\(mK (M0 (R:=R)) n).bb=0:=by
  induction n with
  |zero=>exact⟨rfl,rfl,rfl⟩
  |succ n ih=>
   refine⟨?_,?_,ih.2.2⟩
   ·show _++[[]]=_;rw[ih.1,<-KF]
   ·show _++[R.Κ]=_;rw[ih.2.1,<-KF]
 refine⟨by rw[e.1,Zw],λx hx=>?_,λs ys hy a ha=>?_,by rw[e.2.2];exact Jv _⟩
 ·rw[e.2.1] at hx
  rw[Zl hx];exact R.af (JB _) (JB _) R.bq
 ·rw[e.1] at hy
  rw[Zl (Jt hy)] at ha;exact ς ha Jz
theorem rd.end'{us:ζ (ζ θ)}(P:rd us n k M)(hw:R.D 1 1 w):rd us n k {M with ak:=M.ak.Ϫ s w}:=⟨P.lv,λe he=>(Z8 he).ι (P.ak e) λq=>q▸hw,P.fv,P.ct⟩
def rd.ok{us:ζ (ζ θ)}(P:rd us n k M)(hn:0<n)(vh:n<=4)(hk:k<=7)(hw:R.D 1 1 w):uO us {M with start:=0,first:=w}:=by
 have at':∀ys∈M.aa,∃s,M.aa[s]?=Qa ys:=λys hy=>YU.mp hy;refine⟨⟨by show 0<M.aa.ε;rw[P.lv];exact hn,λys hy a ha=>?_,hw,P.ak,by decide,by show M.aa.ε<=300;rw[P.lv];exact Jn vh (JC _ _),by show M.bb<=300;exact Jn (Jn P.ct hk) (JC _ _)⟩,λs ys hy a ha he=>(P.fv s ys hy a ha).2.2.2.2.2.1 he,by show M.aa.ε<=4;rw[P.lv];exact vh,by show M.bb<=7;exact Jn P.ct hk,λys hy a ha=>?_⟩
 ·obtain⟨s,hs⟩:=at' ys hy
  have zq18:=P.fv s ys hs a ha;exact⟨by show a.t<M.aa.ε;rw[P.lv];exact zq18.1,zq18.2.1,zq18.2.2.1,zq18.2.2.2.1,zq18.2.2.2.2.1⟩
 ·obtain⟨s,hs⟩:=at' ys hy
  exact(P.fv s ys hs a ha).2.2.2.2.2.2
abbrev d6:ζ Sm:=[(Sm.expr (Ex.bc (Ex.Ο 5) 422608071022 [(Ex.py (ab.Β 0)),(Ex.Ix (Ex.Ο 7) (Ex.fq gy.mod (Ex.bn (Ex.py (ab.aj 137)) [(Ex.Ο 0),(Ex.fq gy.am (Ex.Ο 1) (Ex.py (ab.Β 10)))]) (Ex.py (ab.Β 3))))])),(Sm.ret (Ex.Ο 5))]
theorem iQ(R:Rg)(h:MH):getAttr P0 h (.aj (112+R.i)) II=Qa (.Ϥ (j3 R.i)):=Wo.eq (zeP (Q:=λv _=>v=_) R.hi rfl)
def zfd(R:Rg)(hd:1<=d):∃t,∃a:θ,jO (ah P0 d) (.aj 138) [.Ϥ (j3 R.i)] h=Qa (.ξ a,h++t)/\h.ε<=a/\(h++t)[a]?=Qa (.ο (ly R.i)):=by
 refine xEEA (W.Mi (mM (P:=P0) (d:=d) rfl (zfc (h:=h) (Q:=λv g=>∃t a,v=.ξ a/\g=h++t/\h.ε<=a/\(h++t)[a]?=Qa (.ο (ly R.i))) R.hi hd λt a h1 h2=>⟨t,a,rfl,rfl,h1,h2⟩))) λv g e dw=>?_;refine xEEAA dw λt a iq qc q=>?_;subst iq;subst qc;exact⟨t,a,e,q⟩
def zcC{us:ζ (ζ θ)}{ws:ζ R.α}(hd:4<=d)(Z:RL R ws)(hn:n<=4):∃g0:MH,jO (ah P0 d) (.aj 121) [.aj (112+R.i)] h=Qa (.ξ h.ε,g0)/\∃v,∃g1:MH,kI (ah P0 d) (.ξ h.ε) 126943688418675 [.Β n] g0 g0=Qa (v,g1)/\∃aW:θ,∃s:tc R,jO (ah P0 d) (.aj 138) [.Ϥ (j3 R.i)] g1=Qa (.ξ aW,s.g)/\Mk R h s.g h.ε s.M [(aW,.ο (ws.π R.e))]/\rd us n 0 s.M:=by
 refine(IW R h (d:=d) (Jn (by decide) hd)).ι λg0 a=>?_;refine(UD (n:=n) (d:=d) (Jn (by decide) hd) a.2 (by show 0+n<10000;exact Jw (by rw[Zq];exact hn) (by decide))).ι λv b=>b.ι λg1 b=>?_;refine(zfd (h:=g1) R (d:=d) (Jn (by decide) hd)).ι λt zq7=>zq7.ι λaW zq8=>?_;exact⟨g0,a.1,v,g1,b.1,aW,⟨g1++t,_,Qd,Qd,Qd,Qd,Qd,Qd⟩,zq8.1,b.2.cL zq8.2.1 (Z.e▸zq8.2.2),IS⟩
section
variable{X:xe R}(C:cZ X)
include C
def Me{s:tc R}{a b c e f o:η ab}(hd:5<=d)(hk:k<=7)(I:pa X k s)(q:∀g M,Mk R X.h g X.h.ε M []->uO X.us M->Q (.ξ X.h.ε) g):ck (ah P0 d) d6 (rn X a b c e f o) s.g (Ψ.Fin Q):=by
 refine(za8 C I.H (cell X.ns (X.o+10))).ι λi u=>u.2.ι λw v=>?_;refine(Hb (d:=d) (s:=0) (Jn (by decide) hd) I.H (by rw[I.P.lv];exact C.hn) v.2.1 (by decide)).ι λg5 a=>?_;exact j6 (.c<|.q (sH (d:=d) (Jn (by decide) hd) X.ns (X.o+10))<|.q (qX u.1 (by decide))<|.v (v.1)<|.p a.1<|.z (q g5 _ a.2.jp (I.P.ok C.hn C.vh hk v.2.1))) (by kernel_rfl)
abbrev iO:ζ Sm:=(kE.jp 5).na 2
def zcE{s:tc R}(hd:5<=d)(hk:k<=7)(I:pa X k s)(q:∀g M,Mk R X.h g X.h.ε M []->uO X.us M->Q (.ξ X.h.ε) g):ck (ah P0 d) (kE.jp 5) (rn X s.a s.b s.c s.d s.e s.f) s.g (Ψ.Fin Q):=by
 have d1:1<=d:=Jn (by decide) hd;refine(za8 C I.H (cell X.ns (X.o+9))).ι λi u=>u.2.ι λw v=>(qO (cell X.ns (X.o+9)) (show 0<2 by decide)).ι λr y=>?_;refine xEA (IX (d:=d) (s:=X.n-1) (Jn (by decide) hd) I.H (by rw[I.P.lv];exact qaK C.hn qbo) v.2.1 (by decide)) λg4 e4 H4=>?_;have I4:pa X k ⟨g4,{s.M with ak:=s.M.ak.Ϫ (X.n-1) w} ,s.2.2⟩:=⟨H4,I.P.end' v.2.1⟩;have eN:o7 .Ix (.Β X.n) (.Β 1) s.g=Qa (.Β (X.n-1:θ),s.g):=by
  show Qa (ab.Β ((X.n:Φ) -1),s.g)=_;rw[show (X.n:Φ) -1=((X.n-1:θ):Φ) from(Φ.ofNat_sub C.hn).Μ]
 refine mP (a:=iO) (b:=d6) ?_;cases (mt:Ch ((r:Φ)=1)) with
 |isFalse hr=>exact j6 (.p (eN)<|.c<|.q (sH d1 X.ns (X.o+9))<|.q (qX u.1 (by decide))<|.v (v.1)<|.p (e4)<|.c<|.q (sH d1 X.ns (X.o+9))<|.q (qX y.2 (by decide))<|.k (vm r 1)<|.f (ϧ hr)<|.z (nC (Me C (a:=s.a) (b:=s.b) (c:=s.c) (e:=s.d) (f:=s.e) (o:=s.f) hd hk I4 q))) (by kernel_rfl)
 |isTrue hr=>
  refine xEA (P8 (d:=d) (s:=0) (Jn (by decide) hd) I4.H (by show 0<s.M.aa.ε;rw[I.P.lv];exact C.hn)) λg5 e5 H5=>?_;have I5:pa X k ⟨g5,{s.M with ak:=(s.M.ak.Ϫ (X.n-1) w).Ϫ 0 R.cw} ,s.2.2⟩:=⟨H5,(I.P.end' (s:=X.n-1) v.2.1).end' (s:=0) (R.af (JB _) (JB _) R.gd)⟩;exact j6 (.p (eN)<|.c<|.q (sH d1 X.ns (X.o+9))<|.q (qX u.1 (by decide))<|.v (v.1)<|.p (e4)<|.c<|.q (sH d1 X.ns (X.o+9))<|.q (qX y.2 (by decide))<|.k (vm r 1)<|.t (χ.ϥ hr)<|.p e5<|.z (nC (Me C (a:=s.a) (b:=s.b) (c:=s.c) (e:=s.d) (f:=s.e) (o:=s.f) hd hk I5 q))) (by kernel_rfl)
abbrev d7:Ex:=.bn (.py (.ty 491260897125)) [.fq .am (.py (.Β 2)) (.fq .mod (.bn (.py (.aj 137)) [.Ο 0,.fq .am (.Ο 1) (.py (.Β 1))]) (.py (.Β 6)))]
def zcD{s:tc R}(hd:5<=d)(I:pa X 0 s):∃k s',k<=7/\pa X k s'/\exec (ah P0 d) (.fo [8] Qc d7 zq) (rn X s.a s.b s.c s.d s.e s.f) s.g=Qa ((.nx,rn X s'.a s'.b s'.c s'.d s'.e s'.f),s'.g):=by
 refine(qO (cell X.ns (X.o+1)) (show 0<6 by decide)).ι λk0 y=>?_;have hk:2+k0<=7:=Js (JY y.1) 2;refine(oe (c:=ah P0 d) (x:=8) (n:=2+k0) (e:=d7) (b:=zq) (λs:tc R=>rn X s.a s.b s.c s.d s.e s.f) tc.g (λk s=>pa X k s) s (Jn hk (by decide)) rfl (by exact kO (.c<|.q (sH (d:=d) (Jn (by decide) hd) X.ns (X.o+1))<|.q (qX y.2 (by decide))<|.c2<|.z (cn (.gq (2+k0:θ)) s.g)) (by kernel_rfl)) I λk s R1 _ hk' I1 C1=>zcB C hd (Ju hk' (Jn hk (by decide))) I1 λs' I'=>C1.nx ⟨s'.1,s'.2.1,vN k,s'.2.2.2⟩ ⟨I'.H,I'.P⟩).ι λs' q=>⟨2+k0,s',hk,q⟩
end
def zff{at':θ}{us:ζ (ζ θ)}{ws:ζ R.α}(hd:6<=d)(Z:RL R ws)(hU:h[aU]?=Qa (.ο (us.π .Ϥ)))(hu:us≠[])(yi:∀u∈us,dp u)
  (q:∀g M,Mk R h g h.ε M []->uO us M->Q (.ξ h.ε) g):WF P0 d 139 [.fl (ns.π .Β),.Β at',.aj (112+R.i),.ξ aU,.ϯ Qc] h Q:=by
 refine kN (K:=5) hd (Qa (.fl (ns.π .Β))::Qa (.Β at')::Qa (.aj (112+R.i))::Qa (.ξ aU)::Qa (.ϯ Qc)::nn 15) kE rfl λd' h'=>?_;refine(qO (cell ns at') (show 0<4 by decide)).ι λn0 y=>?_;have vh:1+n0<=4:=Js (JY y.1) 1;refine(zcC (d:=d') (h:=h) (us:=us) (Jn (by decide) h') Z vh).ι λg0 a=>a.2.ι λv b=>b.ι λg1 c=>c.2.ι λaW e=>e.ι λs f=>?_;have C:cZ (⟨h,ns,at',aU,us,ws,1+n0,aW⟩:xe R):=⟨Z,hU,hu,yi,Ju qbo (Jr _ _),vh⟩;exact(zcD C (d:=d') (s:=⟨s.1,s.2.1,Qd,Qd,Qd,Qd,Qd,Qd⟩) h' ⟨f.2.1,f.2.2⟩).ι λk z=>z.ι λs' w=>mP (a:=kE.na 5) (b:=kE.jp 5) (j6 (.p (a.1)<|.q (sH (d:=d') (Jn (by decide) h') ns at')<|.q (qX y.2 (by decide))<|.c<|.p (c.1)<|.w (iQ R)<|.p (f.1)<|.s (w.2.2)<|.z (nC (zcE C h' w.1 w.2.1 q))) (by kernel_rfl))
end
variable{M1 M2:Mc R.α}{L1 L2 LB:Ly}
section
variable{h0:MH}{B:Mc R.α}{l:List Nat}
def kx(M:Mc R.α)(u l:ζ θ):R.α:=R.ss M.lw (Bv M u l 0 0 M.Ϟ)
def yt(u:ζ θ):Prop:=u.ε<=2/\∀c∈u,VU c=Qe
section
variable{u:List Nat}(ψ:yt u)
def yt.n:=@ψ.1
def yt.c:=@ψ.2
end
def zdM(hd:10<=d)(ne:R.cw≠R.Κ)(I:ao R g L M)(G:kQ M p k)(U:ma M)(hn:M.aa.ε<=60)(wu:yt u)(wl:yt l)(cl:1+(u.ε+1)*(l.ε+1)*(M.bb+1)<100000)(bd2:4*p+(k+300)<=3800)
  (hbd:4*((p+p*M.aa.ε)*(u.ε+l.ε+2))+((k+((k+M.bb)*M.aa.ε+M.aa.ε+1+M.aa.ε))*(u.ε+l.ε+2)+(1+(u.ε+1)*(l.ε+1)*(M.bb+1)+M.aa.ε))<=3800):
  ∃t,jO (ah P0 d) (.aj 106) [.ξ L.m,.Ϥ u,.Ϥ l] g=Qa (R.e (kx M u l),g++t)/\R.D ((p+p*M.aa.ε)*(u.ε+l.ε+2)) ((k+((k+M.bb)*M.aa.ε+M.aa.ε+1+M.aa.ε))*(u.ε+l.ε+2)+(1+(u.ε+1)*(l.ε+1)*(M.bb+1)+M.aa.ε)) (kx M u l):=by
 refine(W.Mi (mM (P:=P0) rfl (Dj (Q:=λv g'=>∃t,v=R.e (kx M u l)/\g'=g++t/\R.D _ _ (kx M u l)) hd I G U ne hn wu.c wl.c (Jn wu.n (by decide)) (Jn wl.n (by decide)) cl bd2 hbd λt hD=>⟨t,rfl,rfl,hD⟩))).ι λv zq6=>zq6.ι λg' zq7=>zq7.2.ι λt zq8=>?_;refine eqE zq8.1 ?_;obtain rfl:=zq8.2.1;exact⟨t,zq7.1,zq8.2.2⟩
theorem Rk:∀u∈gz,dp u:=λu hu=>by
 delta gz at hu;simp only[JM,Jz,or_false] at hu;rcases hu with rfl|rfl|rfl
 ·exact .IO ⟨97,rfl,by decide+kernel⟩
 ·exact .IO ⟨98,rfl,by decide+kernel⟩
 ·exact .wv rfl
def zfg{ws:ζ R.α}{us:ζ (ζ θ)}(hu:us≠[])(hl:∀u∈us,u∈gz)(Z:RL R ws)(ns:ζ Φ)(k:θ):∃M:Mc R.α,uO us M/\∃g',jO (ah P0 60) (.aj 139) [.fl (ns.π .Β),.Β k,.aj (112+R.i),.ξ g.ε,.ϯ Qc] (g++[.ο (us.π .Ϥ)])=Qa (.ξ (g++[ae.ο (us.π .Ϥ)]).ε,g')/\∃L,L.m=(g++[ae.ο (us.π .Ϥ)]).ε/\ao R g' L M/\∃t,g'=g++t:=by
 refine xEEA (W.Mi (mM (P:=P0) (d:=60) (h:=g++[.ο (us.π .Ϥ)]) rfl (zff (Q:=λv g'=>∃M:Mc R.α,v=.ξ (g++[ae.ο (us.π .Ϥ)]).ε/\uO us M/\Mk R (g++[.ο (us.π .Ϥ)]) g' (g++[ae.ο (us.π .Ϥ)]).ε M []) (ns:=ns) (us:=us) (ws:=ws) (at':=k) (by decide) Z ap hu (λu q=>Rk u (hl u q)) λg1 M1 H1 Z1=>⟨M1,rfl,Z1,H1⟩))) λv g' e dw=>?_;refine xEAA dw λM iq Z1 H=>?_;refine eqE iq ?_;refine H.x.ι λL zq2=>?_;refine xE H.Tr λt ht=>?_;exact⟨M,Z1,g',e,L,zq2.1,zq2.2.1,_,by rw[ht,JA]⟩
end
def Ma{a b c w:α}{P:α->Prop}(h:w∈ [a,b,c])(h1:P a)(h2:P b)(h3:P c):P w:=by
 simp only[JM,Jz,or_false] at h;rcases h with rfl|rfl|rfl
 ·exact h1
 ·exact h2
 ·exact h3
theorem f9:RL zdy [Qe,Qe,Qe]:=⟨show Qe≠Qc by decide,rfl,λw hw=>Ma (P:=λw=>zdy.D 1 1 w/\w≠zdy.Κ) hw ⟨trivial,show Qe≠Qc by decide⟩ ⟨trivial,show Qe≠Qc by decide⟩ ⟨trivial,show Qe≠Qc by decide⟩,rfl⟩
theorem lD(h:n<=3):G2.D 1 1 (Qa n)/\(Qa n:η θ)≠none:=⟨λm e=>by refine lV e ?_;exact h,nofun⟩
theorem f7:RL G2 [Qa 0,Qa 1,Qa 3]:=⟨show (Qa 0:η θ)≠Qd from nofun,rfl,λw hw=>Ma (P:=λw=>G2.D 1 1 w/\w≠G2.Κ) hw (lD (by decide)) (lD (by decide)) (lD (by decide)),rfl⟩
theorem fZ:RL Aj [(1:θ),(1:θ),(2:θ)]:=⟨show (1:θ)≠0 by decide,rfl,λw hw=>Ma (P:=λw=>Aj.D 1 1 w/\w≠Aj.Κ) hw ⟨show 1<=2 ^ 1 by decide,show (1:θ)≠0 by decide⟩ ⟨show 1<=2 ^ 1 by decide,show (1:θ)≠0 by decide⟩ ⟨show 2<=2 ^ 1 by decide,show (2:θ)≠0 by decide⟩,rfl⟩
def se(n:θ)(h:n≠0):QN:=⟨⟨1,n,h,θ.coprime_one_left n⟩,Rat.num_nonneg.mp (show (0:Φ)<=1 by decide)⟩
def rH{h:n≠0}(hd:n ∣ 12):DQ 1 1 (se n h)/\DL 1 1 (se n h)/\se n h≠ ⟨0,Rat.le_refl⟩:=by
 refine⟨⟨by rw[qbp];exact hd,by show 1<=2 ^ 1*n;lia⟩,⟨by rw[qbp];exact hd,(YG h:1<=n)⟩,λe=>?_⟩;have e:(1:Φ)=0:=ω (λq:QN=>q.1.num) e;exact ς e (by decide)
theorem SY:(⟨1,bL⟩:QN)≠ ⟨0,Rat.le_refl⟩:=λe=>by
 exact ς (ω (λq:QN=>q.1.num) e:(1:Φ)=0) (by decide)
theorem fY:RL G3 [se 4 (by decide),se 3 (by decide),se 2 (by decide)]:=⟨SY,rfl,λw hw=>Ma (P:=λw=>G3.D 1 1 w/\w≠G3.Κ) hw ⟨(rH ⟨3,rfl⟩).1,(rH ⟨3,rfl⟩).2.2⟩ ⟨(rH ⟨4,rfl⟩).1,(rH ⟨4,rfl⟩).2.2⟩ ⟨(rH ⟨6,rfl⟩).1,(rH ⟨6,rfl⟩).2.2⟩,rfl⟩
theorem fX:RL G1 [se 2 (by decide),se 3 (by decide),se 1 (by decide)]:=⟨SY,rfl,λw hw=>Ma (P:=λw=>G1.D 1 1 w/\w≠G1.Κ) hw ⟨(rH ⟨6,rfl⟩).2.1,(rH ⟨6,rfl⟩).2.2⟩ ⟨(rH ⟨4,rfl⟩).2.1,(rH ⟨4,rfl⟩).2.2⟩ ⟨(rH ⟨12,rfl⟩).2.1,(rH ⟨12,rfl⟩).2.2⟩,rfl⟩
abbrev WW:=ζ θ×ζ θ
def pre(k t:WW):Ζ:=k.1.isPrefixOf t.1 && k.2.isPrefixOf t.2
def Bt(M:Mc R.α)(t k:WW)(s:θ):R.α:=bif pre k t then Bv M t.1 t.2 k.1.ε k.2.ε s else R.Κ
def md(k:WW)(a:Ar R.α):WW:=(k.1++a.up,k.2++a.lo)
def pn(N:θ)(k:WW)(a:Ar R.α):Ζ:=!a.di && decide (max (k.1.ε+a.up.ε) (k.2.ε+a.lo.ε)<=N)
def xU(N:θ)(M:Mc R.α)(t k:WW)(xs:ζ (Ar R.α)):R.α:=nK (xs.π λa=>bif pn N k a then R.ss a.w (Bt M t (md k a) a.t) else R.Κ)
def AS{k s:ζ θ}(h:k.isPrefixOf u=Qe)(hs:dp s):(k++s).isPrefixOf u=jo u k.ε s:=by
 obtain⟨r,rfl⟩:=ζ.ϩ.mp h;rcases hs with rfl| ⟨c,rfl,_⟩
 ·rw[ZE];exact h
 ·have e:(k++[c]).isPrefixOf (k++r)=[c].isPrefixOf r:=by
   induction k with
   |Ϝ=>rfl
   |Ι x k ih=>
    show (x==x && (k++[c]).isPrefixOf (k++r))=_;rw[Ϧ,XX];exact ih (ζ.ϩ.ϥ (Zk _ _))
  refine e.ν ?_;show _=(Qc||ng (k++r) (min k.ε (k++r).ε) (min (k.ε+1) (k++r).ε)== [c]);have e2:ng (k++r) (min k.ε (k++r).ε) (min (k.ε+1) (k++r).ε)=r.na 1:=by
   delta ng;rw[KV (by rw[Jx];exact Jr _ _)];cases r with
   |Ϝ=>rw[ZE,YZ (Jr _ _),Zj,ZS];rfl
   |Ι y r=>rw[KV (by rw[Jx];exact Js (JC _ _) _),ζ.take_append,ζ.drop_append];simp
  rw[e2,qaF];cases r with
  |Ϝ=>rfl
  |Ι y r=>
   show (c==y && Qe)=([y]== [c]);rw[Ym,Kq,χ,χ];exact⟨λe=>by rw[e],λe=>(Kl.lf e).1.Μ⟩
def DB{k t:WW}(h:pre k t=Qe):k.1.ε<=t.1.ε/\k.2.ε<=t.2.ε:=by
 obtain⟨a,b⟩:=Jo.mp h;exact⟨(ζ.ϩ.mp a).length_le,(ζ.ϩ.mp b).length_le⟩
def C8{k t:WW}{a:Ar R.α}(h:pre (md k a) t=Qe):pre k t=true:=by
 obtain⟨x,y⟩:=Jo.mp h;exact Jo.ϥ ⟨ζ.ϩ.ϥ ((Zk _ _).ν (ζ.ϩ.mp x)),ζ.ϩ.ϥ ((Zk _ _).ν (ζ.ϩ.mp y))⟩
def RF{t k:WW}(h:pre k t=Qc):xU N M t k xs=R.Κ:=by
 refine(lW λa _=>?_).ν (z0 xs)
 have:Bt M t (md k a) a.t=R.Κ:=by
  delta Bt;cases q:pre (md k a) t with
  |false=>rfl
  |true=>rw[C8 q] at h;cases h
 rw[this,R.xL];cases pn N k a<;>rfl
def MB{t k:WW}(h:pre k t=Qe)(h1:t.1.ε<=N)(h2:t.2.ε<=N)(hl:∀a∈xs,dp a.up/\dp a.lo):
  xU N M t k xs=tB (Bv M t.1 t.2) t.1 t.2 k.1.ε k.2.ε xs:=by
 refine lW λa ha=>?_;have hp:pre (md k a) t=(jo t.1 k.1.ε a.up && jo t.2 k.2.ε a.lo):=by
  refine xA (Jo.mp h) λx y=>?_;delta pre md;rw[AS x (hl a ha).1,AS y (hl a ha).2]
 delta pn dj;cases he:a.di with
 |true=>rfl
 |false=>
  refine vL (jo t.1 k.1.ε a.up && jo t.2 k.2.ε a.lo) (λhf=>?_) λhf=>?_
  ·rw[hf]
   rw[hf] at hp;rw[show decide (max (k.1.ε+a.up.ε) (k.2.ε+a.lo.ε)<=N)=Qe from Γ (θ.max_le.ϥ ⟨Jn (Jx▸(DB hp).1) h1,Jn (Jx▸(DB hp).2) h2⟩)];delta Bt;rw[hp];show R.ss a.w (Bv M t.1 t.2 (k.1++a.up).ε (k.2++a.lo).ε a.t)=R.ss a.w _;rw[Jx,Jx]
  ·rw[hf]
   delta Bt;rw[hp,hf];show (bif (!Qc && decide (max (k.1.ε+a.up.ε) (k.2.ε+a.lo.ε)<=N)) then R.ss a.w R.Κ else R.Κ)=R.Κ;rw[R.xL];cases (!Qc && decide (max (k.1.ε+a.up.ε) (k.2.ε+a.lo.ε)<=N))<;>rfl
variable{row':List R.α}
def zdH{t k:WW}{row:ζ R.α}(h1:t.1.ε<=N)(h2:t.2.ε<=N)(hl:∀s,∀a∈ax M s,dp a.up/\dp a.lo)
  (H:∀u l i j,i<=u.ε->j<=l.ε->jX row (Bv M u l i j) 0=jX row' (rD M (Bv M u l) u l i j) 0):
  jX row (Bt M t k) 0=R.am (jX row' (λs=>xU N M t k (ax M s)) 0) (if k=t then jX row' (dh M) 0 else R.Κ):=by
 refine vL (pre k t) (λhp=>?_) λhp=>?_
 ·have hb:=DB hp
  simp only[show Bt M t k=Bv M t.1 t.2 k.1.ε k.2.ε from funext λs=>by unfold Bt;rw[hp];rfl,H _ _ _ _ hb.1 hb.2];have hk:k=t ↔ k.1.ε=t.1.ε/\k.2.ε=t.2.ε:=⟨λe=>by rw[e];exact⟨rfl,rfl⟩,λe=>by
   obtain⟨x,y⟩:=Jo.mp hp;exact qbr ((ζ.ϩ.mp x).eq_of_length e.1) ((ζ.ϩ.mp y).eq_of_length e.2)⟩
  rw[show (λs=>xU N M t k (ax M s))=λs=>tB (Bv M t.1 t.2) t.1 t.2 k.1.ε k.2.ε (ax M s) from funext λs=>MB hp h1 h2 (hl s)];by_cases e:k=t
  ·rw[φ e,<-HD]
   refine rB λs _ _=>?_;delta rD;rw[φ (hk.mp e),R.wE]
  ·rw[τ e,R.ut]
   refine rB λs _ _=>?_;delta rD;rw[τ λq=>e (hk.ϥ q),R.Χ]
 ·have n:¬k=t:=λe=>by
   rw[e] at hp;exact JQ (hp.Μ.ν (Jo.ϥ ⟨ζ.ϩ.ϥ (KZ _),ζ.ϩ.ϥ (KZ _)⟩))
  simp only[τ n,R.ut,show Bt M t k=λ_=>R.Κ from funext λs=>by unfold Bt;rw[hp];rfl,show (λs=>xU N M t k (ax M s))=λ_=>R.Κ from funext λs=>RF hp,x6,x6]
section
def zfA{s t:ζ θ}(hl:s.ε+t.ε<=1000)(h:MH):o7 .am (.Ϥ s) (.Ϥ t) h=Qa (.Ϥ (s++t),h):=by
 show bj Qd (bj Qd (aw (ZD (s.ε+t.ε) bg) (Qa (ab.Ϥ (s++t),h))))=_;rw[KJ (Jn hl (by decide:1000<=bg))];rfl
def eG(z:Cx)(a b:θ)(h:MH):jO z (.bi 7168376) [.Β a,.Β b] h=Qa (.Β (max a b:θ),h):=by
 show Qa (ab.Β (if (b:Φ)>a then(b:Φ) else a),h)=_;by_cases q:a<b
 ·rw[φ (Z2.ϥ q),θ.max_eq_right (JN q)]
 ·rw[τ λe=>q (Z2.mp e),θ.max_eq_left (Z9.mp q)]
abbrev QS(R:Rg):=MH×(WW->η θ)×(WW->ζ R.α)×θ×η ab×η ab×η ab×η ab×η ab×η ab
section
variable{R:Rg}(ψ:QS R)
abbrev QS.g:=ψ.1
abbrev QS.Ad:=ψ.2.1
abbrev QS.V:=ψ.2.2.1
abbrev QS.c:=ψ.2.2.2.1
abbrev QS.a:=ψ.2.2.2.2.1
abbrev QS.b:=ψ.2.2.2.2.2.1
abbrev QS.d:=ψ.2.2.2.2.2.2.1
abbrev QS.e:=ψ.2.2.2.2.2.2.2.1
abbrev QS.f:=ψ.2.2.2.2.2.2.2.2.1
abbrev QS.k:=ψ.2.2.2.2.2.2.2.2.2
end
abbrev PX(R:Rg):=MH×Ly×Mc R.α×θ×θ×ab×θ×θ×θ×θ×θ×θ×ζ WW×(WW->R.α)
section
variable{R:Rg}(ψ:PX R)
abbrev PX.h:=ψ.1
abbrev PX.L:=ψ.2.1
abbrev PX.M:=ψ.2.2.1
abbrev PX.N:=ψ.2.2.2.1
abbrev PX.D:=ψ.2.2.2.2.1
abbrev PX.ov:=ψ.2.2.2.2.2.1
abbrev PX.p:=ψ.2.2.2.2.2.2.1
abbrev PX.k:=ψ.2.2.2.2.2.2.2.1
abbrev PX.p1:=ψ.2.2.2.2.2.2.2.2.1
abbrev PX.k1:=ψ.2.2.2.2.2.2.2.2.2.1
abbrev PX.pS:=ψ.2.2.2.2.2.2.2.2.2.2.1
abbrev PX.kS:=ψ.2.2.2.2.2.2.2.2.2.2.2.1
abbrev PX.cs:=ψ.2.2.2.2.2.2.2.2.2.2.2.2.1
abbrev PX.W:=ψ.2.2.2.2.2.2.2.2.2.2.2.2.2
end
abbrev sz(k:WW):θ:=k.1.ε+k.2.ε
abbrev PX.cl(X:PX R):θ:=1+X.cs.ε*(X.M.bb+1)
def ku(X:PX R):Prop:=ao R X.h X.L X.M/\kQ X.M X.p1 X.k1/\X.p1+X.pS<=X.p/\X.k1+X.kS<=X.k/\X.cl<20000/\X.N<=200/\4*(X.p*(2*X.N+2))+(X.k*(2*X.N+2)+(X.cl+X.M.aa.ε))<=3800/\X.cs.Ω/\(∀k∈X.cs,k.1.ε<=X.N/\k.2.ε<=X.N)/\∀k∈X.cs,∀ys∈X.M.aa,∀a∈ys,pn X.N k a=Qe->md k a∈X.cs
section
variable{X:PX R}(ψ:ku X)
def ku.I:=@ψ.1
def ku.G:=@ψ.2.1
def ku.pp:=@ψ.2.2.1
def ku.kk:=@ψ.2.2.2.1
def ku.cl:=@ψ.2.2.2.2.1
def ku.n:=@ψ.2.2.2.2.2.1
def ku.bd:=@ψ.2.2.2.2.2.2.1
def ku.nd:=@ψ.2.2.2.2.2.2.2.1
def ku.lv:=@ψ.2.2.2.2.2.2.2.2.1
def ku.up:=@ψ.2.2.2.2.2.2.2.2.2
end
def zbt{y B:θ}(pp:p1+pS<=p)(kk:k1+kS<=k)(hx:y<x)(h0:c0<=c)(hz:x+1<=Z)(bd:4*(p*Z)+(k*Z+B)<=3800)(hc:c<=B):
  p*(y+1)+pS+p1<=p*(x+1)/\k*(y+1)+kS+c0+k1<=k*(x+1)+c/\4*(p*(x+1))+(k*(x+1)+c)<=3800:=by
 have e:∀{p:θ},p*(y+1)+p<=p*(x+1):=λ{p} =>by rw[<-Kz];exact JI _ (Zf hx)
 refine⟨Jn (by rw[J8,ZW pS];exact Js pp _) e,?_,?_⟩
 ·rw[cQ]
  exact JJ (Jn (Js kk _) e) h0
 ·exact Jn (JJ (JI 4 (JI p hz)) (JJ (JI k hz) hc)) bd
def KM(D m:θ)(s' s:QS R):Prop:=(∀k,(∃a,s.Ad k=Qa a)->∃a,s'.Ad k=Qa a)/\yx (T:=jJ) D s.g s'.g s.Ad s'.Ad/\∀k,sz k<=m->(∃a,s'.Ad k=Qa a)->∃a,s.Ad k=Qa a
section
variable{D m:Nat}{s' s:QS R}(ψ:KM D m s' s)
def KM.al:=@ψ.1
def KM.kp:=@ψ.2.1
def KM.nw:=@ψ.2.2
end
theorem KM.rfl'{s:QS R}:KM D m s s:=⟨λ_ h=>h,λ_ _ _ h1 h2=>⟨h2,h1⟩,λ_ _ h=>h⟩
theorem KM.ν{s s' s'':QS R}(h:KM D m s' s)(h':KM D m s'' s'):KM D m s'' s:=⟨λk q=>h'.al k (h.al k q),λa vs h0 h1 h2=>let q:=h.kp a vs h0 h1 h2;h'.kp a vs h0 q.2 q.1,λk hk q=>h.nw k hk (h'.nw k hk q)⟩
def UR(X:PX R)(K:WW)(aR c0:θ)(row:ζ R.α)(dn:WW->Prop):Prop:=ku X/\K∈X.cs/\c0+X.M.bb<=X.cl/\row.ε=X.M.aa.ε/\(∀x∈row,R.D (X.p*(sz K+1)+X.pS) (X.k*(sz K+1)+X.kS+c0) x)/\∀k,dn k->sz k<=sz K
section
variable{X:PX R}{K:WW}{aR c0:Nat}{row:List R.α}{dn:WW->Prop}(ψ:UR X K aR c0 row dn)
def UR.O:=@ψ.1
def UR.hK:=@ψ.2.1
def UR.cc:=@ψ.2.2.1
def UR.lv:=@ψ.2.2.2.1
def UR.dg:=@ψ.2.2.2.2.1
def UR.lo:=@ψ.2.2.2.2.2
end
def PQ(X:PX R)(K:WW)(aR c0:θ)(row:ζ R.α)(dn:WW->Prop)(V0:QS R)(n:θ)(e:WW->R.α)(s:QS R):Prop:=RW jJ R X.h s.g X.D X.M.aa.ε s.c s.Ad s.V/\c0<=s.c/\s.c<=c0+n/\(∀k,¬dn k->∀x∈s.V k,R.D (X.p*(sz k+1)) (X.k*(sz k+1)+s.c) x)/\s.V K=row/\s.Ad K=Qa aR/\(∀k a,s.Ad k=Qa a->k∈X.cs)/\(∀t∈X.cs,R.am (rO (T:=jJ) X.cs dn (Bt X.M t) s.V) (e t)=X.W t)/\(∀k,dn k->s.V k=V0.V k)/\KM X.D (sz K) s V0
section
variable{X:PX R}{K:WW}{aR c0:Nat}{row:List R.α}{dn:WW->Prop}{V0:QS R}{n:Nat}{e:WW->R.α}{s:QS R}(ψ:PQ X K aR c0 row dn V0 n e s)
def PQ.rw':=@ψ.1
def PQ.lo:=@ψ.2.1
def PQ.hi:=@ψ.2.2.1
def PQ.dg:=@ψ.2.2.2.1
def PQ.vr:=@ψ.2.2.2.2.1
def PQ.ad:=@ψ.2.2.2.2.2.1
def PQ.ky:=@ψ.2.2.2.2.2.2.1
def PQ.w:=@ψ.2.2.2.2.2.2.2.1
def PQ.fx:=@ψ.2.2.2.2.2.2.2.2.1
def PQ.al:=@ψ.2.2.2.2.2.2.2.2.2
end
variable{X:PX R}{K:WW}{aR c0:Nat}{row:List R.α}{dn:WW->Prop}{V0:QS R}{R':Fl->Internal.Frame->MH->Prop}
def iu(X:PX R)(a b d e f k:η ab):Ψ.Λ:=Qa (.ξ X.L.m)::Qa (.Β X.N)::Qa (.aj (112+R.i))::Qa X.ov::Qa (.ξ X.D)::a::b::d::e::f::k::nn 7
def PQ.put{e e':WW->R.α}{x:R.α}{s:QS R}{Ad':WW->η θ}{z:WW}{t:θ}(C:UR X K aR c0 row dn)(P:PQ X K aR c0 row dn V0 n e s)(hz:z∈X.cs)(ht:t<X.M.aa.ε)(hn:sz K<sz z)(hD:R.D (X.p*(sz z+1)) (X.k*(sz z+1)+s.c) x)
  (S':RW jJ R X.h g' X.D X.M.aa.ε (s.c+1) Ad' (cu (T:=jJ) s.V z (mL (s.V z) t x))) (hk:∀k a,s.Ad k=Qa a->Ad' k=Qa a) (hk2:∀k a,Ad' k=Qa a->k=z\/s.Ad k=Qa a) (hkp:yx (T:=jJ) X.D s.g g' s.Ad Ad') (he:∀u∈X.cs,e u=R.am (R.ss x (Bt X.M u z t)) (e' u)) (y1 y2:η ab) (q:η ab×η ab×η ab×η ab):
  PQ X K aR c0 row dn V0 (n+1) e' ⟨g',Ad',cu (T:=jJ) s.V z (mL (s.V z) t x),s.c+1,q.1,q.2.1,q.2.2.1,q.2.2.2,y1,y2⟩:=by
 have hl:t<(s.V z).ε:=by rw[P.rw'.lv];exact ht
 have hnd:¬dn z:=λq=>Z9.ϥ (C.lo z q) hn;refine⟨S',Zs P.lo,Zf P.hi,λk hk y hy=>?_,?_,hk _ _ P.ad,λk a h=>(hk2 k a h).ι (λe=>e▸hz) (P.ky k a),λu hu=>?_,λk hk=>?_,P.al.ν ⟨λk h=>h.ι λa q=>⟨a,hk k a q⟩,hkp,λk hm h=>h.ι λa q=>(hk2 k a q).ι (λe=>ς (e▸hm) (Xw.ϥ hn)) λq=>⟨a,q⟩⟩⟩
 ·have hy:y∈cu (T:=jJ) s.V z (mL (s.V z) t x) k:=hy
  show R.D (X.p*(sz k+1)) (X.k*(sz k+1)+(s.c+1)) y;by_cases q:k=z
  ·cases q
   rw[jN] at hy;rcases Hc hy with hy|rfl
   ·exact R.af (Jv _) (Zp _) (P.dg _ hk y hy)
   ·rw[Jp hl]
    exact R.fm (P.dg _ hk _ (Zt hl)) hD
  ·rw[jU q] at hy
   exact R.af (Jv _) (Zp _) (P.dg k hk y hy)
 ·show cu (T:=jJ) s.V z (mL (s.V z) t x) K=row
  exact(jU (λe=>Zb _ (e▸hn):¬K=z)).ν (P.vr)
 ·rw[xP (T:=jJ) C.O.nd hz hnd hl,<-P.w u hu,he u hu,<-R.Ϣ,R.wE (R.ss _ _)]
 ·show cu (T:=jJ) s.V z (mL (s.V z) t x) k=V0.V k
  rw[jU λe=>hnd (by rw[<-e];exact hk)];exact P.fx k hk
def Sv{T:lc}{z:T.κ}{Ad:T.κ->η θ}{V:T.κ->ζ R.α}{x:R.α}(hd:4<=d)(I:ao R h L M)(S:RW T R h g D N c Ad V)(hN:N=M.aa.ε)(hc:c<100000)(hs:s<N)(hV:∀y∈V z,R.D p k y)(hx:R.D p k x)(hl:4*p+k<=3800):
 ∃g' Ad',jO (ah P0 d) (.aj 126) [.ξ L.m,.ξ D,T.v z,.Β s,R.e x] g=Qa (.Ε,g')/\RW T R h g' D N (c+1) Ad' (cu V z (mL (V z) s x))/\(∀z' a',Ad z'=Qa a'->Ad' z'=Qa a')/\(∀z' a',Ad' z'=Qa a'->z'=z\/Ad z'=Qa a')/\yx D g g' Ad Ad':=by
 refine(W.Mi (mM (P:=P0) rfl (add_ok (T:=T) (Q:=λv g'=>v=.Ε/\∃Ad',RW T R h g' D N (c+1) Ad' (cu V z (mL (V z) s x))/\(∀z' a',Ad z'=Qa a'->Ad' z'=Qa a')/\(∀z' a',Ad' z'=Qa a'->z'=z\/Ad z'=Qa a')/\yx D g g' Ad Ad') hd I S hN hc hs hV hx hl λg' Ad' S' hk hk2 hk3=>⟨rfl,Ad',S',hk,hk2,hk3⟩))).ι λv zq3=>zq3.ι λg' zq4=>?_;refine eqE zq4.2.1 ?_;exact zq4.2.2.ι λAd' zq5=>⟨g',Ad',zq4.1,zq5⟩
abbrev AX:ζ Sm:=[.ft (.nm 9) (.ay [.fq .am (.Ix (.Ο 6) (.py (.Β 0))) (.aq (.Ο 8) 504397587826),.fq .am (.Ix (.Ο 6) (.py (.Β 1))) (.aq (.Ο 8) 465726563698)]),.ite (.qa Qc [.not (.bc (.Ο 8) 7598521885536580729 []),.gm .le (.bn (.py (.bi 7168376)) [.bn (.py (.bi 7103854)) [.Ix (.Ο 9) (.py (.Β 0))],.bn (.py (.bi 7103854)) [.Ix (.Ο 9) (.py (.Β 1))]]) (.Ο 1)]) [.expr (.bn (.py (.aj 126)) [.Ο 0,.Ο 4,.Ο 9,.aq (.Ο 8) 127961880028532,.bc (.Ο 2) pd [.Ix (.Ix (.Ο 4) (.Ο 6)) (.Ο 7),.aq (.Ο 8) 131277443786868]])] []]
def Mn{s:ζ θ}(h:dp s):s.ε<=1:=by
 rcases h with e| ⟨c,e,_⟩
 ·rw[e];exact JB _
 ·rw[e];exact Jv _
def RW.up'{Ad:WW->η θ}{V:WW->ζ R.α}(S:RW jJ R h g D N c Ad V)(e:h[a]?=Qa o):g[a]?=Qa o:=by obtain⟨t,rfl⟩:=S.Tr;exact jH e
def Pj{b:θ}{E T e0 e1':WW->R.α}{y:R.α}{a:Ar R.α}{st:QS R}(hd:5<=d)(C:UR X K aR c0 row dn)(hs:row[s]?=Qa y)(hn:n<X.M.bb)(hB:X.h[b]?=Qa (mW R a))(gt:a.t<X.M.aa.ε)(g2:dp a.up)(g3:dp a.lo)(g4:R.D X.p1 X.k1 a.w)(g5:pn X.N K a=Qe->md K a∈X.cs)
  (P:PQ X K aR c0 row dn V0 n e0 st) (h0:∀u∈X.cs,e0 u=R.am (R.ss y (R.am (bif pn X.N K a then R.ss a.w (Bt X.M u (md K a) a.t) else R.Κ) (T u))) (E u)) (h1:∀u,e1' u=R.am (R.ss y (T u)) (E u))
  (q1:∀s',PQ X K aR c0 row dn V0 (n+1) e1' s'->s'.k=st.k->R' .nx (iu X sv (Qa (jJ.v K)) (vN s) s'.e s'.f s'.k) s'.g):
  ck (ah P0 d) AX (iu X sv (Qa (jJ.v K)) (vN s) (vR b) z1 st.k) st.g R':=by
 have S:=P.rw';have hB:st.g[b]?=Qa (mW R a):=by obtain⟨t,e⟩:=S.Tr;rw[e];exact jH hB
 have d1:1<=d:=Jn (by decide) hd;have ad1:=zfA (s:=K.1) (t:=a.up) (Jn (JJ (Jn (C.O.lv K C.hK).1 C.O.n) (Mn g2)) (by decide));have ad2:=zfA (s:=K.2) (t:=a.lo) (Jn (JJ (Jn (C.O.lv K C.hK).2 C.O.n) (Mn g3)) (by decide));have fy:pn X.N K a=Qc->∀z,R' .nx (iu X sv (Qa (jJ.v K)) (vN s) (vR b) z st.k) st.g:=λhh z=>by
  refine q1 ⟨st.1,st.2.1,st.2.2.1,st.2.2.2.1,st.2.2.2.2.1,st.2.2.2.2.2.1,st.2.2.2.2.2.2.1,vR b,z,st.2.2.2.2.2.2.2.2.2⟩ ⟨S,P.lo,Zs P.hi,P.dg,P.vr,P.ad,P.ky,λt ht=>?_,P.fx,⟨P.al.al,P.al.kp,P.al.nw⟩⟩ rfl;simp only[<-P.w t ht,h0 t ht,h1 t,hh,bm,R.Χ]
 refine vL a.di (λhe=>?_) λhe=>?_
 ·exact j6 (.c<|.v (qv hB)<|.q ad1<|.c<|.v (rp hB)<|.q ad2<|.p (WD d1 hB)<|.c<|.f (nT he)<|.f (nT he)<|.z (fy (by unfold pn;rw[he];rfl) (Qa (jJ.v (md K a))))) rfl
 ·have hi:pn X.N K a=decide (((max (K.1++a.up).ε (K.2++a.lo).ε:θ):Φ)<=(X.N:Φ)):=by
   delta pn;rw[he,Jx,Jx,Tz.ϥ YO];rfl
  refine vL (pn X.N K a) (λhb=>?_) λhb=>?_
  ·rw[hb] at hi
   have hlt:sz K<sz (md K a):=by
    show K.1.ε+K.2.ε<(K.1++a.up).ε+(K.2++a.lo).ε;rw[Jx,Jx,Xi];exact ZP (wW he)
   have hc:st.c<c0+X.M.bb:=Jw P.hi (ZL hn _);have T1:=zbt (B:=X.cl+X.M.aa.ε) C.O.pp C.O.kk hlt P.lo (Zf (Zs (Jn (JJ (C.O.lv _ (g5 hb)).1 (C.O.lv _ (g5 hb)).2) (JF (YN _).Μ))):sz (md K a)+1<=2*X.N+2) C.O.bd (Jn (JN hc) (Jn C.cc (Jr _ _)));have hxd:=C.dg y (Jt hs);have hRa:=S.Tq K aR P.ad;rw[P.vr] at hRa;refine xEEAAA S.dd λep es hDd hKy _ hdg=>?_;refine(Sv (T:=jJ) (d:=d) (z:=md K a) (s:=a.t) (x:=R.ss y a.w) (Jn (by decide) hd) C.O.I S rfl (Ju hc (Jn C.cc (Jn (JN C.O.cl) (by decide)))) gt (P.dg _ λq=>Z9.ϥ (C.lo _ q) hlt) (R.af T1.1 T1.2.1 (R.fc hxd g4)) T1.2.2).ι λg' zq1=>zq1.ι λAd' zq2=>?_;exact j6 (.c<|.v (qv hB)<|.q ad1<|.c<|.v (rp hB)<|.q ad2<|.p (WD d1 hB)<|.c<|.t (nF he)<|.c2<|.c2<|.q (eG (ah P0 d) (K.1++a.up).ε (K.2++a.lo).ε)<|.t hi.Μ<|.c<|
    .v (ro hB)<|.v (sd hDd (pI (T:=jJ) hKy) ((hdg K).ν (by rw[P.ad];rfl):jW es (jJ.v K)=Qa (.ξ aR)))<|.v (sl hRa (x4 hs))<|.v (yk hB)<|.q (R.ti (Jn (by decide) hd) hxd g4 (Jn (JJ (JI 4 T1.1) T1.2.1) T1.2.2))<|.p (zq2.1)<|.z (q1 _ (P.put C (g5 hb) gt hlt (R.af T1.1 T1.2.1 (R.fc hxd g4)) zq2.2.1 zq2.2.2.1 zq2.2.2.2.1 zq2.2.2.2.2 (e':=e1') (λu hu=>by rw[h0 u hu,hb,pi,h1 u,R.Sc,R.Ϣ,<-R.Id]) (Qa (jJ.v (md K a))) st.k (Qd,Qd,Qd,vR b)) rfl)) (by kernel_rfl)
  ·rw[hb] at hi
   exact j6 (.c<|.v (qv hB)<|.q ad1<|.c<|.v (rp hB)<|.q ad2<|.p (WD d1 hB)<|.c<|.t (nF he)<|.c2<|.c2<|.q (eG (ah P0 d) (K.1++a.up).ε (K.2++a.lo).ε)<|.f hi.Μ<|.c<|.z (fy hb (Qa (jJ.v (md K a))))) rfl
end
variable{X:PX R}{dn:WW->Prop}{V0:QS R}
section
variable{K:WW}{row:List R.α}
theorem ziT(z:Cx){ep:η θ}(hD:h[D]?=Qa (.Υ ep es)):jO z (.bi uD) [.ξ D] h=Qa (.Β es.ε,h):=W.eq (An hD ⟨rfl,rfl⟩)
abbrev gS(X:PX R)(K t:WW):θ->R.α:=λs=>xU X.N X.M t K (ax X.M s)
def F4{q:θ}{t:WW}{a:Ar R.α}(ha:xs[q]?=Qa a):xU N M t K (xs.jp q)=R.am (bif pn N K a then R.ss a.w (Bt M t (md K a) a.t) else R.Κ) (xU N M t K (xs.jp (q+1))):=by
 obtain⟨hq,e⟩:=Jy.mp ha;simp only[ZK hq,e];rfl
def zeE{n0 r:θ}{y:R.α}{E e0:WW->R.α}{st:QS R}(hd:5<=d)(C:UR X K aR c0 row dn)(hs:row[s]?=Qa y)(hm:xs∈X.M.aa)(hr:(X.L.az.π ab.ξ)[s]?=Qa (.ξ r))(H:By R X.h r as xs)(hn:n0+xs.ε<=X.M.bb)(P:PQ X K aR c0 row dn V0 n0 e0 st)(h0:∀t,e0 t=R.am (R.ss y (xU X.N X.M t K xs)) (E t)):
  ∃s',PQ X K aR c0 row dn V0 (n0+xs.ε) E s'/\s'.k=st.k/\exec (ah P0 d) (.fo [8] Qc (.Ix (.aq (.Ο 0) kT) (.Ο 7)) AX) (iu X sv (Qa (jJ.v K)) (vN s) st.e st.f st.k) st.g=Qa ((.nx,iu X sv (Qa (jJ.v K)) (vN s) s'.e s'.f s'.k),s'.g):=by
 obtain⟨s',P',e⟩:=pv (c:=ah P0 d) (tg:=[8]) (many:=Qc) (a:=r) (e:=.Ix (.aq (.Ο 0) kT) (.Ο 7)) (b:=AX) (vs:=as.π .ξ) (λs':QS R=>iu X sv (Qa (jJ.v K)) (vN s) s'.e s'.f s'.k) QS.g (λq s'=>PQ X K aR c0 row dn V0 (n0+q) (λt=>R.am (R.ss y (xU X.N X.M t K (xs.jp q))) (E t)) s'/\s'.k=st.k) st
  (H.n▸Jn (Jn (JC _ _) hn) (Jn C.O.G.c (by decide))) rfl (λq s' P=>P.1.rw'.up' H.l) (by exact kO (.v (oD (P.rw'.pk C.O.I))<|.v (sl (P.rw'.pk C.O.I).aa hr)<|.z (cn (.ξ r) st.g)) (by kernel_rfl)) ⟨(⟨P.rw',P.lo,P.hi,P.dg,P.vr,P.ad,P.ky,(λt ht=>by rw[<-P.w t ht,h0 t];rfl),P.fx,⟨P.al.al,P.al.kp,P.al.nw⟩⟩:PQ X K aR c0 row dn V0 (n0+0) (λt=>R.am (R.ss y (xU X.N X.M t K (xs.jp 0))) (E t)) st),rfl⟩ (λq v s' R1 _ hv P1 T1=>by
   refine xEEAA (H.a q v hv) λb x dw hx hb=>?_;refine eqB dw ?_;have ga:=C.O.G.fv _ hm x (Jt hx);exact lI (Pj hd C hs (n:=n0+q) (Ju (ZL (jR hx) _) hn) hb ga.1 ga.2.1 ga.2.2.1 ga.2.2.2.1 (C.O.up K C.hK _ hm x (Jt hx)) P1.1 (T:=λt=>xU X.N X.M t K (xs.jp (q+1))) (E:=E) (λt _=>by rw[F4 hx]) (λ_=>rfl) λs2 P2 k2=>T1.nx _ ⟨P2,k2.ν P1.2⟩))
 rw[H.n] at P';refine⟨s',⟨P'.1.rw',P'.1.lo,P'.1.hi,P'.1.dg,P'.1.vr,P'.1.ad,P'.1.ky,λt ht=>?_,P'.1.fx,P'.1.al⟩,P'.2,e⟩
 have:=P'.1.w t ht
 rw[ZS,show xU X.N X.M t K []=R.Κ from rfl,R.xL,R.Χ] at this;exact this
abbrev C6:ζ Sm:=[.ite (.gm .eq (.Ix (.Ix (.Ο 4) (.Ο 6)) (.Ο 7)) (.aq (.Ο 2) oi)) [.cont] [],.fo [8] Qc (.Ix (.aq (.Ο 0) 1634886515) (.Ο 7)) AX,.ite (.gm .gt (.bn (.py (.bi 7103854)) [.Ο 4]) (.py (.Β 20000))) [.bJ (.py (.Ϥ [116,111,111,32,109,97,110,121,32,119,111,114,100,115]))] []]
def zbM{n0 n1:θ}{e0 e1:WW->R.α}{st:QS R}(hd:5<=d)(C:UR X K aR c0 row dn)(hs:s<X.M.aa.ε)(P:PQ X K aR c0 row dn V0 n0 e0 st)(hn:n1=n0+(ax X.M s).ε)(hc:n1<=X.M.bb)(h0:∀t,e0 t=R.am (R.ss (at' row s) (gS X K t s)) (e1 t))
  (q1:∀s',PQ X K aR c0 row dn V0 n1 e1 s'->s'.k=st.k->R' .nx (iu X sv (Qa (jJ.v K)) s'.d s'.e s'.f s'.k) s'.g) (q2:∀s',PQ X K aR c0 row dn V0 n1 e1 s'->s'.k=st.k->R' .ct (iu X sv (Qa (jJ.v K)) s'.d s'.e s'.f s'.k) s'.g):
  ck (ah P0 d) C6 (iu X sv (Qa (jJ.v K)) (vN s) st.e st.f st.k) st.g R':=by
 have hsr:=Uj (l:=row) (s:=s) (by rw[C.lv];exact hs);have hRa:=P.rw'.Tq K aR P.ad;rw[P.vr] at hRa;refine xEEAAA P.rw'.dd λep es hDd hKy _ hdg=>?_;have f1:=sd hDd (pI (T:=jJ) hKy) ((hdg K).ν (by rw[P.ad];rfl):jW es (jJ.v K)=Qa (.ξ aR));cases R.gk (at' row s) R.Κ with
 |isTrue hz=>
  have P':PQ X K aR c0 row dn V0 n1 e1 ⟨st.1,st.2.1,st.2.2.1,st.2.2.2.1,st.2.2.2.2.1,st.2.2.2.2.2.1,vN s,st.2.2.2.2.2.2.2⟩:=⟨P.rw',P.lo,hn▸Jn P.hi (Js (Jr _ _) _),P.dg,P.vr,P.ad,P.ky,(λt ht=>by
   have:=P.w t ht
   rw[h0 t,hz,R.w9,R.Χ] at this;exact this),P.fx,⟨P.al.al,P.al.kp,P.al.nw⟩⟩
  exact j6 (.v f1<|.v (sl hRa (x4 hsr))<|.w (R.no)<|.k (R.qe (at' row s) R.Κ)<|.t (R.yes hz)<|.z (q2 _ P' rfl)) rfl
 |isFalse hz=>
  refine(C.O.I.mu hs).ι λr zq3=>zq3.ι λas zq4=>?_;refine xEAA (zeE (sv:=sv) hd C hsr zq4.2.2 zq4.1 zq4.2.1 (hn▸hc) P h0) λs' P' k' e=>?_;refine xEEAAA P'.rw'.dd λep' es' hD' _ hc' _=>?_;have N:PQ X K aR c0 row dn V0 n1 e1 ⟨s'.1,s'.2.1,s'.2.2.1,s'.2.2.2.1,s'.2.2.2.2.1,s'.2.2.2.2.2.1,vN s,s'.2.2.2.2.2.2.2⟩:=by refine eqB hn ?_;exact⟨P'.rw',P'.lo,P'.hi,P'.dg,P'.vr,P'.ad,P'.ky,P'.w,P'.fx,⟨P'.al.al,P'.al.kp,P'.al.nw⟩⟩
  exact j6 (.v f1<|.v (sl hRa (x4 hsr))<|.w (R.no)<|.k (R.qe (at' row s) R.Κ)<|.f (R.not hz)<|.s (e)<|.p (ziT (ah P0 d) hD')<|.c<|.f (Θ (YY.ϥ (YO.ϥ (Jn hc' (Jn P'.hi (Jn (Js (hn▸hc) _) (Jn C.cc (JN C.O.cl)))))):¬((20000:Φ)<(es'.ε:Φ))))<|.z (q1 _ N k')) rfl
end
section
variable{K:WW}{row:List R.α}
def zgD{F e0:WW->R.α}{st:QS R}(hd:5<=d)(C:UR X K aR c0 row dn)(P:PQ X K aR c0 row dn V0 0 e0 st)(h0:∀t,e0 t=R.am (jX row (gS X K t) 0) (F t)):
  ∃s',PQ X K aR c0 row dn V0 X.M.bb F s'/\s'.k=st.k/\exec (ah P0 d) (.fo [7] Qc (.bn (.py (.ty 491260897125)) [.bc (.Ο 0) 1936292453 []]) C6) (iu X sv (Qa (jJ.v K)) st.d st.e st.f st.k) st.g=Qa ((.nx,iu X sv (Qa (jJ.v K)) s'.d s'.e s'.f s'.k),s'.g):=by
 have I:=P.rw'.pk C.O.I;obtain⟨s',P',e⟩:=oe (c:=ah P0 d) (x:=7) (n:=X.M.aa.ε) (e:=.bn (.py (.ty 491260897125)) [.bc (.Ο 0) 1936292453 []]) (b:=C6) (λs':QS R=>iu X sv (Qa (jJ.v K)) s'.d s'.e s'.f s'.k) QS.g (λs s'=>PQ X K aR c0 row dn V0 (pN X.M s) (λt=>R.am (jX (row.jp s) (gS X K t) s) (F t)) s'/\s'.k=st.k) st
  (Jn I.bg (by decide)) rfl (by exact kO (.p (pH (Jn (by decide) hd) I)<|.c<|.z (cn (.gq X.M.aa.ε) st.g)) (by kernel_rfl)) ⟨(⟨P.rw',P.lo,Jn P.hi (Js (JB _) _),P.dg,P.vr,P.ad,P.ky,(λt ht=>by rw[<-P.w t ht,h0 t];rfl),P.fx,P.al⟩:PQ X K aR c0 row dn V0 (pN X.M 0) (λt=>R.am (jX (row.jp 0) (gS X K t) 0) (F t)) st),rfl⟩ (λs s' R1 _ hs P1 T1=>zbM hd C hs P1.1 (Va hs) (W9 C.O.I _) (λt=>by rw[Em (by rw[C.lv];exact hs),R.Ϣ]) (λs2 P2 k2=>T1.nx _ ⟨P2,k2.ν P1.2⟩) λs2 P2 k2=>T1.ct _ ⟨P2,k2.ν P1.2⟩)
 have e1:pN X.M X.M.aa.ε=X.M.bb:=by unfold pN;rw[Zj,I.ct]
 have e2:row.jp X.M.aa.ε=[]:=by rw[<-C.lv,ZS]
 rw[e1,e2] at P';refine⟨s',⟨P'.1.rw',P'.1.lo,P'.1.hi,P'.1.dg,P'.1.vr,P'.1.ad,P'.1.ky,λt ht=>?_,P'.1.fx,P'.1.al⟩,P'.2,e⟩
 have:=P'.1.w t ht
 rw[show jX [] (gS X K t) X.M.aa.ε=R.Κ from rfl,R.Χ] at this;exact this
end
variable{dn':WW->Prop}
section
variable{K:WW}
def W3(X:PX R)(dn:WW->Prop)(V:WW->ζ R.α)(t:WW):R.α:= @ite _ (dn t) (LE.propDecidable _) (jX (V t) (dh X.M) 0) R.Κ
theorem wR{V:WW->ζ R.α}{t:WW}(h:dn t):W3 X dn V t=jX (V t) (dh X.M) 0:=φ h
theorem wU{V:WW->ζ R.α}{t:WW}(h:¬dn t):W3 X dn V t=R.Κ:=τ h
def PT(X:PX R)(dn:WW->Prop)(b:θ)(s:QS R):Prop:=RW jJ R X.h s.g X.D X.M.aa.ε s.c s.Ad s.V/\s.c<=1+b*(X.M.bb+1)/\(∀k,¬dn k->∀x∈s.V k,R.D (X.p*(sz k+1)) (X.k*(sz k+1)+s.c) x)/\(∀k,dn k->∀x∈s.V k,R.D (X.p*(sz k+1)+X.pS) (X.k*(sz k+1)+X.kS+s.c) x)/\(∀k a,s.Ad k=Qa a->k∈X.cs)/\(∃k a,s.Ad k=Qa a)/\∀t∈X.cs,R.am (rO (T:=jJ) X.cs dn (Bt X.M t) s.V) (W3 X dn s.V t)=X.W t
section
variable{X:PX R}{dn:WW->Prop}{b:Nat}{s:QS R}(ψ:PT X dn b s)
def PT.rw':=@ψ.1
def PT.hc:=@ψ.2.1
def PT.dg:=@ψ.2.2.1
def PT.de:=@ψ.2.2.2.1
def PT.ky:=@ψ.2.2.2.2.1
def PT.ne:=@ψ.2.2.2.2.2.1
def PT.w:=@ψ.2.2.2.2.2.2
end
theorem Ro{b:θ}(hb:b<n):1+(b+1)*(c+1)<=1+n*(c+1):=Js (Ze _ hb) 1
def LP{b:θ}{st:QS R}(hd:5<=d)(O:ku X)(hK:K∈X.cs)(S:RW jJ R X.h st.g X.D X.M.aa.ε st.c st.Ad st.V)(hA:st.Ad K=Qa a)(hc:st.c+X.M.bb<=1+(b+1)*(X.M.bb+1))(hb:b<X.cs.ε)(lo:∀k,dn' k->sz k<=sz K)(hKd:dn' K)
  (dg:∀k,¬dn' k->∀x∈st.V k,R.D (X.p*(sz k+1)) (X.k*(sz k+1)+st.c) x) (de:∀k,dn' k->∀x∈st.V k,R.D (X.p*(sz k+1)+X.pS) (X.k*(sz k+1)+X.kS+st.c) x) (ky:∀k a,st.Ad k=Qa a->k∈X.cs)
  (hw:∀t∈X.cs,R.am (rO (T:=jJ) X.cs dn' (Bt X.M t) st.V) (R.am (jX (st.V K) (gS X K t) 0) (W3 X dn' st.V t))=X.W t):
  ∃s',PT X dn' (b+1) s'/\s'.k=st.k/\KM X.D (sz K) s' st/\exec (ah P0 d) (.fo [7] Qc (.bn (.py (.ty 491260897125)) [.bc (.Ο 0) 1936292453 []]) C6) (iu X sv (Qa (jJ.v K)) st.d st.e st.f st.k) st.g=Qa ((.nx,iu X sv (Qa (jJ.v K)) s'.d s'.e s'.f s'.k),s'.g):=by
 refine xEAA (zgD (V0:=st) (F:=W3 X dn' st.V) (sv:=sv) hd (⟨O,hK,Jn hc (Ro hb),S.lv K,de K hKd,lo⟩:UR X K a st.c (st.V K) dn') ⟨S,Jv _,Jv _,dg,rfl,hA,ky,hw,λ_ _=>rfl,KM.rfl'⟩ λt=>rfl) λs' P' k' e=>?_;refine⟨s',⟨P'.rw',Jn P'.hi hc,P'.dg,λk hk x hx=>?_,P'.ky,⟨K,a,P'.ad⟩,λt ht=>?_⟩,k',P'.al,e⟩
 ·rw[P'.fx k hk] at hx
  exact R.af (Jv _) (Js P'.lo _) (de k hk x hx)
 ·simp only[<-P'.w t ht]
  congr 1
  by_cases q:dn' t
  ·rw[wR q,wR q,P'.fx t q]
  ·rw[wU q,wU q]
def zf1(X:PX R)(g t:MH)(a P K:θ)(row row':ζ R.α):Prop:=g.ε<=a/\(g++t)[a]?=Qa (.ο (row'.π R.e))/\row'.ε=X.M.aa.ε/\(∀x∈row',R.D (P+X.pS) (K+X.kS) x)/\∀u l i j,i<=u.ε->j<=l.ε->jX row (Bv X.M u l i j) 0=jX row' (rD X.M (Bv X.M u l) u l i j) 0
section
variable{X:PX R}{g t:MH}{a P K:Nat}{row row':List R.α}(ψ:zf1 X g t a P K row row')
def zf1.ge:=@ψ.1
def zf1.TF:=@ψ.2.1
def zf1.lv:=@ψ.2.2.1
def zf1.dg:=@ψ.2.2.2.1
def zf1.w:=@ψ.2.2.2.2
end
def um(X:PX R):Prop:=(X.ov=.Ε\/∃a,X.ov=.ξ a)/\(X.ov=.Ε->∀row:ζ R.α,row.ε=X.M.aa.ε->∀u l i j,i<=u.ε->j<=l.ε->jX row (Bv X.M u l i j) 0=jX row (rD X.M (Bv X.M u l) u l i j) 0)/\∀aT,X.ov=.ξ aT->∀{d P K aR:θ}{g:MH}{row:ζ R.α},5<=d->(∃t,g=X.h++t)->g[aR]?=Qa (.ο (row.π R.e))->row.ε=X.M.aa.ε->(∀x∈row,R.D P K x)->4*(P+X.pS)+(K+X.kS)<=3800->∃t a row',jO (ah P0 d) (.aj 132) [.aj (112+R.i),.ξ aR,.ξ aT] g=Qa (.ξ a,g++t)/\zf1 X g t a P K row row'
section
variable{X:PX R}(ψ:um X)
def um.r:=@ψ.1
def um.no:=@ψ.2.1
def um.so:=@ψ.2.2
end
def zag{V:WW->ζ R.α}(O:ku X)(hK:K∈X.cs)(h0:¬dn K)(h1:∀k,dn' k ↔ dn k\/k=K)(hl:∀s,∀a∈ax X.M s,dp a.up/\dp a.lo)
  (H:∀u l i j,i<=u.ε->j<=l.ε->jX (V K) (Bv X.M u l i j) 0=jX row' (rD X.M (Bv X.M u l) u l i j) 0) {t:WW} (ht:t∈X.cs) (hw:R.am (rO (T:=jJ) X.cs dn (Bt X.M t) V) (W3 X dn V t)=X.W t):
  R.am (rO (T:=jJ) X.cs dn' (Bt X.M t) (cu (T:=jJ) V K row')) (R.am (jX row' (gS X K t) 0) (W3 X dn' (cu (T:=jJ) V K row') t))=X.W t:=by
 have hKd:dn' K:=(h1 K).ϥ (.IO rfl);rw[Uy (T:=jJ) hKd,<-hw,Ux (T:=jJ) O.nd hK h0 h1,(zdH (M:=X.M) (N:=X.N) (t:=t) (k:=K) (row:=V K) (row':=row') (O.lv t ht).1 (O.lv t ht).2 hl H)];have e:W3 X dn' (cu (T:=jJ) V K row') t=R.am (if K=t then jX row' (dh X.M) 0 else R.Κ) (W3 X dn V t):=by
  by_cases q:K=t
  ·refine eqE q ?_
   rw[φ rfl,wR hKd,wU h0,R.ut,jN]
  ·rw[τ q,R.Χ]
   by_cases q':dn t
   ·rw[wR q',wR ((h1 t).ϥ (.wv q')),jU λe=>q e.Μ]
   ·rw[wU q',wU λh=>((h1 t).mp h).ι q' λe=>q e.Μ]
 rw[e,<-R.Ϣ,R.wE (rO _ _ _ _),<-R.Ϣ];exact ω (λz=>R.am z (W3 X dn V t)) ((R.Ϣ _ _ _).ν ((ω (R.am _) (R.wE _ _)).ν (R.Ϣ _ _ _).Μ))
end
section
variable{K:WW}
def QS.upR(st:QS R)(g:MH)(K:WW)(a:θ)(row:ζ R.α):QS R:=⟨g,cu (T:=jJ) st.Ad K (Qa a),cu (T:=jJ) st.V K row,st.c+1,st.a,st.b,st.d,st.e,st.f,st.k⟩
def zgF(e:X.ov=.Ε)(h:MH):mX .ja X.ov .Ε h=Qa false:=by rw[e];rfl
def zgE(e:X.ov=.ξ a)(h:MH):mX .ja X.ov .Ε h=Qa true:=by rw[e];rfl
def zcO(O:ku X)(hK:K∈X.cs)(hc:c<=X.cl):4*(X.p*(sz K+1)+X.pS)+(X.k*(sz K+1)+c+X.kS)<=3800:=by
 have hz:sz K+1+1<=2*X.N+2:=JV (Jn (JJ (O.lv K hK).1 (O.lv K hK).2) (JF (YN _).Μ)) 2;have e3:=JI X.p hz;have e4:=JI X.k hz;rw[Kz] at e3 e4;have h1:X.p*(sz K+1)+X.pS<=X.p*(2*X.N+2):=Jn (Js (Jn (JC _ _) O.pp) _) e3;have h2:X.k*(sz K+1)+c+X.kS<=X.k*(2*X.N+2)+(X.cl+X.M.aa.ε):=by
  rw[ZF];exact JJ (Jn (Js (Jn (JC _ _) O.kk) _) e4) (Jn hc (Jr _ _))
 exact Jn (JJ (JI 4 h1) h2) O.bd
theorem Ee(O:ku X)(s:θ):∀a∈ax X.M s,dp a.up/\dp a.lo:=λa ha=>by
 refine xEAA (mH ha) λys _ hy h=>?_;exact⟨(O.G.fv ys hy a h).2.1,(O.G.fv ys hy a h).2.2.1⟩
abbrev FZ:ζ Sm:=[.ite (.gm .ja (.Ο 3) (.py .Ε)) [.ft (.sb (.Ο 4) (.Ο 6)) (.bn (.py (.aj 132)) [.Ο 2,.Ix (.Ο 4) (.Ο 6),.Ο 3])] [],.fo [7] Qc (.bn (.py (.ty 491260897125)) [.bc (.Ο 0) 1936292453 []]) C6]
section
variable{a b:Nat}{st:QS R}{sv:Option ab}(hd:5<=d)(O:ku X)(V:um X)(hK:K∈X.cs)(h0:¬dn K)(h1:∀k,dn' k ↔ dn k\/k=K)(lo:∀k,dn' k->sz k<=sz K)(hb:b<X.cs.length)(P:PT X dn b st)(hA:st.Ad K=Qa a)
 (q1:∀s',PT X dn' (b+1) s'->s'.k=st.k->KM X.D (sz K) s' st->R' .nx (iu X sv (Qa (jJ.v K)) s'.d s'.e s'.f s'.k) s'.g)
include hd O V hK h0 h1 lo hb P hA q1
def zbR(hov:X.ov=.Ε):ck (ah P0 d) FZ (iu X sv (Qa (jJ.v K)) st.d st.e st.f st.k) st.g R':=by
 have hKd:dn' K:=(h1 K).ϥ (.IO rfl);have eV:cu (T:=jJ) st.V K (st.V K)=st.V:=funext λk=>by
  by_cases q:k=K
  ·refine eqE q ?_;exact jN
  ·exact jU q
 obtain⟨s',P',k',m',e⟩:=LP (sv:=sv) hd O hK P.rw' hA (b:=b) (dn':=dn') (Jn (JV P.hc _) (by rw(occs:=.Hd) [Yf b 1,Kg,<-J8];exact Js (Zp _) _)) hb lo hKd
  (λk hk=>P.dg k λq=>hk ((h1 k).ϥ (.wv q))) (λk hk x hx=>((h1 k).mp hk).ι (λq=>P.de k q x hx) λq=>by
   subst q;exact R.af (Jr _ _) (JV (Jr _ _) _) (P.dg k h0 x hx)) P.ky
  (λt ht=>by
   have:=zag O hK h0 h1 (Ee O) (V.no hov (st.V K) (P.rw'.lv K)) ht (P.w t ht)
   rw(occs:=.Hd) [eV] at this
   exact this)
 exact j6 (.k (zgF hov)<|.c<|.s (e)<|.z (q1 _ P' k' m')) rfl
def zbQ(hov:X.ov=.ξ aT):ck (ah P0 d) FZ (iu X sv (Qa (jJ.v K)) st.d st.e st.f st.k) st.g R':=by
 have S:=P.rw';have hcl:st.c<=X.cl:=Jn P.hc (Js (Ze _ (JN hb)) 1);refine xEE (V.so aT hov hd S.Tr (S.Tq K a hA) (S.lv K) (P.dg K h0) (zcO O hK hcl)) λt a2 dw=>?_;refine xEA dw λrow' ec Nw=>?_;rw[<-hov] at ec;refine xEEAAA S.dd λep es hDd hKy hlen hdg=>?_;have hKe:jW es (jJ.v K)=Qa (.ξ a):=(hdg K).ν (by rw[hA];rfl);have ge:X.h.ε<=a2:=Jn (by obtain⟨t0,hg⟩:=S.Tr;rw[hg,Jx];exact Jr _ _) Nw.ge;have S2:=(S.cq:RW jJ R X.h (st.g++t) X.D X.M.aa.ε st.c st.Ad st.V).put (k:=K) (jH hDd) Nw.TF ge (λz' e=>ς (j4 (S.Tq z' _ e)) (Z9.ϥ Nw.ge)) Nw.lv (bif (jW es (jJ.v K)).ϟ then ep else ep.π (· +1)) (S.ep hDd _);obtain⟨s',P',k',m',e⟩:=LP (sv:=sv) (st:=st.upR _ K a2 row') hd O hK S2 (show cu (T:=jJ) st.Ad K (Qa a2) K=Qa a2 from jN) (b:=b) (dn':=dn')
  (by show st.c+1+X.M.bb<=_;rw[Yf b 1,Kg,<-J8,J8 st.c,ZW 1];exact JV P.hc _) hb lo ((h1 K).ϥ (.IO rfl))
  (λk hk x hx=>by
   have hx:x∈cu (T:=jJ) st.V K row' k:=hx;rw[jU λq:k=K=>hk (by rw[q];exact((h1 K).ϥ (.IO rfl)))] at hx;exact R.af (Jv _) (Js (Zp _) _) (P.dg k (λq=>hk ((h1 k).ϥ (.wv q))) x hx))
  (λk hk x hx=>by
   have hx:x∈cu (T:=jJ) st.V K row' k:=hx;by_cases q:k=K
   ·cases q
    rw[jN] at hx;exact R.af (Jv _) (by show _<=_+(st.c+1);rw[ZF];exact Js (Zp _) _) (Nw.dg x hx)
   ·rw[jU q] at hx
    exact R.af (Jv _) (Js (Zp _) _) (P.de k (((h1 k).mp hk).resolve_right q) x hx))
  (λk a' h=>by
   have h:cu (T:=jJ) st.Ad K (Qa a2) k=Qa a':=h;by_cases q:k=K
   ·rw[q];exact hK
   ·rw[jU q] at h;exact P.ky k a' h)
  (λt ht=>by
   have:=zag O hK h0 h1 (Ee O) Nw.w ht (P.w t ht)
   show R.am (rO (T:=jJ) X.cs dn' (Bt X.M t) (cu (T:=jJ) st.V K row')) (R.am (jX (cu (T:=jJ) st.V K row' K) (gS X K t) 0) (W3 X dn' (cu (T:=jJ) st.V K row') t))=X.W t;rw[jN];exact this)
 exact j6 (.k (zgE hov)<|.c<|.v (sd hDd (pI (T:=jJ) hKy) hKe)<|.p (ec)<|.h (E1 (v:=.ξ a2) (jH (t:=t) hDd) (pI (T:=jJ) (k:=K) hKy) (Jw hlen (Jw hcl (Zv O.cl (by decide))):es.ε<bg))<|.s (e)<|.z (q1 _ P' k' ⟨λk h=>m'.al k (by
  show ∃a,cu (T:=jJ) st.Ad K (Qa a2) k=Qa a;by_cases q:k=K
  ·refine eqE q ?_;exact⟨a2,jN⟩
  ·rw[jU q];exact h),λb vs n0 n1 n2=>m'.kp b vs n0 (λk e=>by
  have e:cu (T:=jJ) st.Ad K (Qa a2) k=Qa b:=e;by_cases q:k=K
  ·rw[q,jN] at e
   obtain rfl:=Qa.lf e;exact Z9.ϥ Nw.ge (j4 n2)
  ·rw[jU q] at e;exact n1 k e) (jZ (λe=>n0 e.Μ) (jH n2)),λk hm h=>by
  by_cases q:k=K
  ·refine eqB q ?_;exact⟨a,hA⟩
  ·exact(m'.nw k hm h).ι λb e=>⟨b,(jU (T:=jJ) (f:=st.Ad) (x:=Qa a2) q).Μ.ν e⟩⟩)) rfl
theorem Ph:ck (ah P0 d) FZ (iu X sv (Qa (jJ.v K)) st.d st.e st.f st.k) st.g R':=
 V.r.ι (zbR hd O V hK h0 h1 lo hb P hA q1) λ⟨_,hov⟩=>zbQ hd O V hK h0 h1 lo hb P hA q1 hov
end
end
section
variable{c:Cx}{fr:Internal.Frame}
def Ru{e:θ}(hD:h[D]?=Qa (.Υ (Qa e) es)):oZ h (.ξ D)=Qa (.dk D es.ε e):=by
 show bj Qd (bj (bj ((h[D]?.Η ae.Tl).π λ_=>It.ls D) ((h[D]?.Η ae.dict?).Η λd=>d.1.π λep=>It.dk D d.2.ε ep)) _)=_;rw[hD];rfl
def Pn{e i:θ}(hD:h[D]?=Qa (.Υ (Qa e) es)):lP h i (.dk D es.ε e)=Qa (es.π (·.1))[i]?:=by
 show (h[D]?.Η ae.dict?).Η (λd=>aw (d.1==Qa e && d.2.ε==es.ε) (Qa (d.2[i]?.π (·.1))))=_;rw[hD];show aw (Qa e==Qa e && es.ε==es.ε) (Qa (es[i]?.π (·.1)))=_;simp only[Ϧ,Ϧ,JE];rfl
def BU{e:θ}(p:ab->Ζ)(hf:es.ε<c.ba)(hl:es.ε<=bg)(hx:∀v,(fr.Ϫ x (Qa v))[x]?=Qa (Qa v))
  (q:WE c fr it h λv h1=>v=.ξ D/\h1[D]?=Qa (.Υ (Qa e) es)/\(∀v,v∈es.π (·.1)->∀acc,sk c (fr.Ϫ x (Qa v)) ifs (h1++[.ο acc]) λb h2=>h2=h1++[.ο acc]/\b=p v)/\Q (.ξ h1.ε) (h1++[.ο ((es.π (·.1)).Ϩ p)])):WE c fr (.comp (.Ο x) [x] Qc it ifs) h Q:=by
 refine vS (W.Τ q λv h1 q=>?_);obtain⟨rfl,hD,st,q⟩:=q;refine⟨.dk D es.ε e,es.π (·.1),Ru hD,by rw[Jq];exact hf,λi hh=>hh=h1++[.ο (((es.π (·.1)).na i).Ϩ p)],rfl,?_,?_,?_⟩
 ·rintro i hh rfl;exact Pn (jH hD)
 ·rintro i v hv hh rfl
  refine lI (W.Τ (st v (Jt hv) _) λb h2 q=>?_);obtain⟨rfl,rfl⟩:=q;have hi:=jR hv;refine br (λhb=>u6 (hx v) ⟨_,ap,?_,?_⟩) (λhb=>?_)
  ·have h1:=Kh p ((es.π (·.1)).na i)
   rw[KC] at h1;rw[Jq] at hi;exact Jw h1 (Jw (KU _ _) (Ju hi hl))
  ·rw[tI]
   show _=h1++[ae.ο (((es.π (·.1)).na (i+1)).Ϩ p)];rw[pJ hv,hb];rfl
  ·show _=h1++[ae.ο (((es.π (·.1)).na (i+1)).Ϩ p)]
   rw[pJ hv,hb,bm,ZE]
 ·rintro hh rfl
  exact Zj▸q
end
section
variable{T:lc}{Ad:T.κ->Option Nat}{V:T.κ->List R.α}
def Rp:∀{es:ζ (ab×ab)},pD T es->∃ks:ζ T.κ,es.π (·.1)=ks.π T.v:=by
 intro es
 induction es with
 |Ϝ=>exact λ_=>⟨[],rfl⟩
 |Ι p r ih=>
  intro K;obtain⟨a,e⟩:=K p (.mo _);obtain⟨ks,q⟩:=ih λp hp=>K p (.pc _ hp);exact⟨a::ks,by rw[JU,JU,q,e]⟩
def zf3(g:MH)(D c:θ)(Ad:T.κ->η θ)(e:θ)(es:ζ (ab×ab))(ks:ζ T.κ):Prop:=g[D]?=Qa (.Υ (Qa e) es)/\es.π (·.1)=ks.π T.v/\ks.Ω/\(∀k,k∈ks ↔ ∃a,Ad k=Qa a)/\es.ε<=c
section
variable{g:MH}{D c:Nat}{Ad:T.κ->Option Nat}{e:Nat}{es:List (ab×ab)}{ks:List T.κ}(ψ:zf3 g D c Ad e es ks)
def zf3.TF:=@ψ.1
def zf3.kq:=@ψ.2.1
def zf3.nd:=@ψ.2.2.1
def zf3.mem:=@ψ.2.2.2.1
def zf3.lv:=@ψ.2.2.2.2
end
def RW.qp(S:RW T R h g D N c Ad V):∃e es ks,zf3 g D c Ad e es ks:=by
 refine xEEA S.sm λe es hD nd=>?_;refine xEEAAA S.dd λep es' h1 K hc hg=>?_;rw[hD] at h1;cases h1;refine xE (Rp K) λks q=>?_;rw[q] at nd;refine⟨e,es,ks,hD,q,nd.of_map _ λa b hab e=>hab (ω T.v e),λk=>?_,hc⟩;have hg:=hg k
 constructor
 ·intro hk
  have:T.v k∈es.π (·.1):=q▸JL.ϥ ⟨k,hk,rfl⟩
  refine xEA (JL.mp this) λp hp e1=>?_;cases hA:Ad k with
  |some a=>exact⟨a,rfl⟩
  |none=>
   rw[hA] at hg
   have:=ζ.find?_eq_none.mp (η.map_eq_none_iff.mp hg) p hp
   rw[show p.1=T.v k from e1,T.eq,Γ rfl] at this;exact ς rfl this
 ·rintro ⟨a,hA⟩
  rw[hA] at hg;refine xEA (Zm.mp hg) λp hp _=>?_;have h1:=KA hp;have h2:p.1∈es.π (·.1):=JL.ϥ ⟨p,Kt hp,rfl⟩;rw[q] at h2;refine xEA (JL.mp h2) λb hb e2=>?_;rw[<-e2,T.eq] at h1;exact Ξ h1▸hb
abbrev VJ(l:ζ WW):ζ WW:=E7 jJ.v l
theorem lY(l:ζ WW):(VJ l).No l:=xN l
theorem zfu(z:Cx){x:ab}{l:ζ WW}(hx:wH g x=Qa (l.π jJ.v))(hl:l.ε<=60):jO z (.bi tO) [x] g=Qa (.ξ g.ε,g++[.ο ((VJ l).π jJ.v)]):=zcU z hx hl (.IO ⟨[Qe],λ_=>⟨rfl,rfl⟩⟩)
def AG{cs ks:ζ α}(nc:cs.Ω)(nk:ks.Ω)(p:α->Ζ)(hm:∀k,k∈ks ↔ k∈cs/\p k=Qe):ks.No (cs.Ϩ p)/\ks.ε<=cs.ε:=by
 have P:ks.No (cs.Ϩ p):=(ζ.perm_ext_iff_of_nodup nk (nc.Ϩ _)).ϥ λk=>by rw[hm,ZU]
 exact⟨P,P.u8▸Kh _ _⟩
end
section
variable{K:WW}
def pz(s:θ)(v:ab):Ζ:=decide (((v.tup?.ϡ []).π λx=>(x.str?.ϡ []).ε).sum=s)
theorem zgC(s:θ)(k:WW):pz s (jJ.v k)=decide (sz k=s):=rfl
theorem Fx(s:θ)(ks:ζ WW):(ks.π jJ.v).Ϩ (pz s)=(ks.Ϩ λk=>decide (sz k=s)).π jJ.v:=ζ.filter_map ..
abbrev zcP:Ex:=.comp (.Ο 12) [12] Qc (.Ο 4) [.gm .eq (.fq .am (.bn (.py (.bi 7103854)) [.Ix (.Ο 12) (.py (.Β 0))]) (.bn (.py (.bi 7103854)) [.Ix (.Ο 12) (.py (.Β 1))])) (.Ο 5)]
def Rq{e:θ}{ks:ζ WW}{Ad:WW->η θ}{b z f x k:η ab}(H:zf3 (T:=jJ) g X.D c Ad e es ks)(hc:c<=100000):eval (ah P0 d) zcP (iu X (vN s) b z f x k) g=Qa (.ξ g.ε,g++[.ο ((ks.Ϩ λk=>decide (sz k=s)).π jJ.v)]):=by
 have hl:=Jn H.lv hc;refine W.eq (BU (pz s) (Jw hl (by decide:100000<200000)) (Jn hl (by decide)) (λ_=>rfl) (u6 rfl ⟨rfl,H.TF,λv hv acc=>?_,rfl,?_⟩))
 ·rw[H.kq] at hv
  obtain⟨k,_,rfl⟩:=JL.mp hv;refine Lb ((show WE (ah P0 d) _ _ (g++[.ο acc]) (λv h=>v=.ϯ (((k.1.ε:Φ)+(k.2.ε:Φ))==(s:Φ))/\h=g++[.ο acc]) from kO (.c4<|.c<|.k (vm ((k.1.ε:Φ)+(k.2.ε:Φ)) s)<|.z (cn (.ϯ (((k.1.ε:Φ)+(k.2.ε:Φ))==(s:Φ))) (g++[.ο acc]))) rfl).Τ λv h q=>?_);obtain⟨rfl,rfl⟩:=q;have e:(((k.1.ε:Φ)+(k.2.ε:Φ))==(s:Φ))=pz s (jJ.v k):=by
   rw[zgC,Kq,χ,f8];exact⟨λh=>Xa.lf h,λh=>by rw[<-h];rfl⟩
  rw[e];exact U2 ⟨λhb=>vQ ⟨rfl,hb.Μ⟩,λhb=>⟨rfl,hb.Μ⟩⟩
 ·rw[H.kq,Fx]
end
def zfB{c:Cx}{b:ζ Sm}(F:σ->Ψ.Λ)(G:σ->MH)(P:θ->σ->Prop)(s0:σ)(hn:vs.ε<=100000)(hc:c.ba=200000)
  (hk:∀i s,P i s->(G s)[a]?=Qa (.ο vs)) (e0:WE c (F s0) e h λv g=>v=.ξ a/\g=G s0) (p0:P 0 s0)
  (step:∀i v s R' R,vs[i]?=Qa v->P i s->To F G (P (i+1)) R R'->Wo (nW (F s) tg many v) λfr1=>ck c b fr1 (G s) R'):∃s,P vs.ε s/\exec c (.fo tg many e b) (F s0) h=Qa ((.nx,F s),G s):=by
 have w:WS c (.fo tg many e b) (F s0) h λfl f g=>∃s,P vs.ε s/\fl=.nx/\f=F s/\g=G s:=
  rY F G P (by rw[hc];exact Ju (JO hn) (JC _ _)) s0 hk (e0.Τ λv g q=>⟨q.1,rfl,q.2,p0⟩) (λi v s R' hi hp T=>step i v s R' _ hi hp T) λs hp=>⟨s,hp,rfl,rfl,rfl⟩
 obtain⟨⟨fl,f⟩,g,e,s,hp,q1,q2,q3⟩:=W.Mi w;refine eqE q1 ?_;subst q2;subst q3;exact⟨s,hp,e⟩
section
variable{b b':Nat}{st:QS R}
theorem PT.cq{t:MH}(P:PT X dn b st):PT X dn b ⟨st.g++t,st.2⟩:=⟨P.rw'.cq,P.hc,P.dg,P.de,P.ky,P.ne,P.w⟩
def PT.fy(P:PT X dn b st)(hb:b<=b')(h1:∀k,dn k->dn' k)(h2:∀k,dn' k->dn k\/st.Ad k=Qd):PT X dn' b' st:=by
 have zr:∀k,st.Ad k=Qd->∀x∈st.V k,x=R.Κ:=λk h x hx=>by
  rw[P.rw'.qj k h] at hx;exact Zl hx
 refine⟨P.rw',Jn P.hc (Js (Ze _ hb) 1),λk hk=>P.dg k λq=>hk (h1 k q),λk hk x hx=>?_,P.ky,P.ne,λt ht=>?_⟩
 ·exact(h2 k hk).ι (λq=>P.de k q x hx) λq=>by rw[zr k q x hx];exact(R.af (JB _) (JB _) R.bq)
 ·rw[<-P.w t ht]
  have hz:∀k,dn' k->¬dn k->st.V k=kY R X.M.aa.ε:=λk q n=>P.rw'.qj k ((h2 k q).resolve_left n);refine congr (ω R.am (lW λk hk=>?_)) ?_
  ·by_cases q:dn k
   ·rw[φ q,φ (h1 k q)]
   ·by_cases q':dn' k
    ·rw[τ q,φ q',hz k q' q,l0]
    ·rw[τ q,τ q']
  ·by_cases q:dn t
   ·rw[wR q,wR (h1 t q)]
   ·by_cases q':dn' t
    ·rw[wU q,wR q',hz t q' q,l0]
    ·rw[wU q,wU q']
def EQ(p q:α->Ζ):∀(l:ζ α),(∀x,p x=Qe->q x=Qc)->(l.Ϩ p).ε+(l.Ϩ q).ε=(l.Ϩ λx=>p x||q x).ε:=by
 intro l h
 induction l with
 |Ϝ=>rfl
 |Ι x l ih=>
  simp only[ζ.filter_cons,ζ.filter_cons,ζ.filter_cons];cases hp:p x with
  |true=>
   rw[h x hp];show (x::l.Ϩ p).ε+(l.Ϩ q).ε=(x::l.Ϩ λx=>p x||q x).ε;simp only[J0,J0,<-ih,ZF]
  |false=>
   cases hq:q x with
   |true=>
    show (l.Ϩ p).ε+(x::l.Ϩ q).ε=(x::l.Ϩ λx=>p x||q x).ε;simp only[J0,J0,<-ih];rfl
   |false=>exact ih
def bs(X:PX R)(s:θ):θ:=(X.cs.Ϩ λk=>decide (sz k<s)).ε
def zc9(p:WW->Ζ)(hp:∀k,p k=Qe->sz k=s):bs X s+(X.cs.Ϩ p).ε<=X.cs.ε/\bs X s+(X.cs.Ϩ p).ε<=bs X (s+1):=by
 have e:=EQ (λk=>decide (sz k<s)) p X.cs λk h=>by
  cases q:p k with
  |false=>rfl
  |true=>exact ς (Ξ h) (by rw[hp k q];exact Zb _)
 delta bs;rw[e];refine⟨Kh _ _,?_⟩;rw[<-ζ.countP_eq_length_filter,<-ζ.countP_eq_length_filter];refine ζ.countP_mono_left λk _ h=>?_;rcases KW.mp h with h|h
 ·exact Γ (ZJ (Ξ h))
 ·exact Γ (by rw[hp k h];exact JR _)
end
variable{s1:QS R}
section
variable{b:Nat}{st:QS R}{l:List WW}
abbrev ow(s:θ)(k:WW):Prop:=sz k<s
abbrev cG(s:θ)(l:ζ WW)(j:θ)(k:WW):Prop:=sz k<s\/k∈l.na j
def SI(X:PX R)(s:θ)(l:ζ WW)(s1:QS R)(k0:η ab)(j:θ)(st:QS R):Prop:=PT X (cG s l j) (bs X s+j) st/\st.k=k0/\KM X.D s st s1
section
variable{X:PX R}{s:Nat}{l:List WW}{s1:QS R}{k0:Option ab}{j:Nat}{st:QS R}(ψ:SI X s l s1 k0 j st)
def SI.P:=@ψ.1
def SI.k:=@ψ.2.1
def SI.m:=@ψ.2.2
end
theorem PT.bC{y:η ab}(P:PT X dn b st):PT X dn b ⟨st.1,st.2.1,st.2.2.1,st.2.2.2.1,st.2.2.2.2.1,y,st.2.2.2.2.2.2⟩:=⟨P.rw',P.hc,P.dg,P.de,P.ky,P.ne,P.w⟩
theorem PT.bD{y:η ab}(P:PT X dn b st):PT X dn b ⟨st.1,st.2.1,st.2.2.1,st.2.2.2.1,y,st.2.2.2.2.2⟩:=⟨P.rw',P.hc,P.dg,P.de,P.ky,P.ne,P.w⟩
theorem A5{l:ζ α}{K:α}{i:θ}(nd:l.Ω)(h:l[i]?=Qa K):K∉l.na i:=λq=>by
 rw[((Kw i l).Μ:l=l.na i++l.jp i),pL h] at nd;exact(Kj.mp nd).2.2 K q K (.mo _) rfl
def SL(X:PX R)(s:θ)(l:ζ WW)(s1:QS R):Prop:=l.Ω/\(∀k,k∈l ↔ sz k=s/\∃a,s1.Ad k=Qa a)/\(∀k∈l,k∈X.cs)/\(bs X s+l.ε<=X.cs.ε/\bs X s+l.ε<=bs X (s+1))
section
variable{X:PX R}{s:Nat}{l:List WW}{s1:QS R}(ψ:SL X s l s1)
def SL.nd:=@ψ.1
def SL.mem:=@ψ.2.1
def SL.cs:=@ψ.2.2.1
def SL.n:=@ψ.2.2.2
end
def OY{i:θ}(hd:5<=d)(O:ku X)(V:um X)(H:SL X s l s1)(hv:(l.π jJ.v)[i]?=Qa v)(I:SI X s l s1 k0 i st)(T:To (λs':QS R=>iu X (vN s) s'.b s'.d s'.e s'.f s'.k) QS.g (SI X s l s1 k0 (i+1)) R1 R'):
  Wo (nW (iu X (vN s) st.b st.d st.e st.f st.k) [6] Qc v) λfr1=>ck (ah P0 d) FZ fr1 st.g R':=by
 rw[JE] at hv;obtain⟨K,hK,rfl⟩:=Zm.mp hv;have hm:=Jt hK;have q:=(H.mem K).mp hm;have hKs:sz K=s:=q.1;refine(I.m.al K q.2).ι λa hA=>?_;refine lI (Ph (dn:=cG s l i) (dn':=cG s l (i+1)) (a:=a) hd O V (H.cs K hm) (λh=>h.ι (λh=>ς hKs (ZG h)) (A5 H.nd hK)) (λk=>?_) (λk h=>?_) (b:=bs X s+i) (Ju (ZL (jR hK) _) H.n.1) I.P hA λs' P' k' m'=>T.nx ⟨s'.1,s'.2.1,s'.2.2.1,s'.2.2.2.1,s'.2.2.2.2.1,Qa (jJ.v K),s'.2.2.2.2.2.2⟩ ⟨P'.bC,k'.ν I.k,I.m.ν (hKs▸ ⟨m'.al,m'.kp,m'.nw⟩)⟩)
 ·show sz k<s\/k∈l.na (i+1) ↔ (sz k<s\/k∈l.na i)\/k=K
  rw[U9 hK,Zh,JD,or_assoc]
 ·exact h.ι (λh=>hKs▸JN h) λh=>JF (((H.mem k).mp (KO h)).1.ν hKs.Μ)
abbrev CL:Sm:=.fo [6] Qc (.bn (.py (.bi 126922498794852)) [zcP]) FZ
def C7(hd:5<=d)(O:ku X)(V:um X)(C:X.cs.ε<=60)(P:PT X (ow s) (bs X s) st):∃st',PT X (ow (s+1)) (bs X (s+1)) st'/\st'.k=st.k/\exec (ah P0 d) CL (iu X (vN s) st.b st.d st.e st.f st.k) st.g=Qa ((.nx,iu X (vN s) st'.b st'.d st'.e st'.f st'.k),st'.g):=by
 refine xEE P.rw'.qp λe es dw=>?_;refine xE dw λks H=>?_;have nk:(ks.Ϩ λk=>decide (sz k=s)).Ω:=H.nd.Ϩ _;have hm:∀k,k∈ks.Ϩ (λk=>decide (sz k=s)) ↔ sz k=s/\∃a,st.Ad k=Qa a:=λk=>by
  rw[ZU,H.mem,f8,and_comm]
 obtain⟨el,hl⟩:=AG (cs:=X.cs) (ks:=ks.Ϩ λk=>decide (sz k=s)) O.nd nk (λk=>decide (sz k=s) && (st.Ad k).ϟ) λk=>by
  rw[hm,Jo,f8,Zy];exact⟨λh=>⟨h.2.ι λa q=>P.ky k a q,h⟩,λh=>h.2⟩
 have f1:=Rq (d:=d) (X:=X) (s:=s) (b:=st.b) (z:=st.d) (f:=st.e) (x:=st.f) (k:=st.k) H (Jn P.hc (Jn (Js (Ze _ (Kh _ _)) 1) (Jn (JN O.cl) (by decide))):st.c<=100000)
 generalize ks.Ϩ (λk=>decide (sz k=s))=kl at nk hm el hl f1
 have L:SL X s (VJ kl) st:=by
  refine⟨(lY kl).nodup_iff.ϥ nk,λk=>?_,λk hk=>?_,((lY kl).u8.ν el.u8)▸zc9 _ λk h=>Ξ (Jo.mp h).1⟩
  ·rw[(lY kl).tz,hm]
  ·exact((hm k).mp ((lY kl).tz.mp hk)).2.ι λa q=>P.ky k a q
 have f2:=zfu (g:=st.g++[.ο (kl.π jJ.v)]) (ah P0 d) (x:=.ξ st.g.ε) (kvL ap) (Jn hl C);have n60:(VJ kl).ε<=60:=(lY kl).u8▸Jn hl C
 generalize VJ kl=l at L f2 n60
 have lt1:st.g.ε<=(st.g++[ae.ο (kl.π jJ.v)]).ε:=by rw[Jx];exact Jr _ _
 obtain⟨s',I,e⟩:=zfB (c:=ah P0 d) (h:=st.g) (tg:=[6]) (many:=Qc) (e:=.bn (.py (.bi 126922498794852)) [zcP]) (b:=FZ) (vs:=l.π jJ.v) (a:=(st.g++[ae.ο (kl.π jJ.v)]).ε) (λs':QS R=>iu X (vN s) s'.b s'.d s'.e s'.f s'.k) QS.g (SI X s l ⟨st.g++[.ο (kl.π jJ.v)]++[.ο (l.π jJ.v)],st.2⟩ st.k) ⟨st.g++[.ο (kl.π jJ.v)]++[.ο (l.π jJ.v)],st.2⟩
  (by rw[Jq];exact Jn n60 (by decide)) rfl (λi s2 I=>(I.m.kp _ _ (λe=>Z9.ϥ lt1 (e▸j4 H.TF):(st.g++[ae.ο (kl.π jJ.v)]).ε≠X.D) (λk e=>Z9.ϥ lt1 (j4 (P.rw'.Tq k _ e)):∀k,st.Ad k≠Qa (st.g++[ae.ο (kl.π jJ.v)]).ε) ap).1) (by exact kO (.p f1<|.p f2<|.z (cn (.ξ (st.g++[ae.ο (kl.π jJ.v)]).ε) (st.g++[.ο (kl.π jJ.v)]++[.ο (l.π jJ.v)]))) (by kernel_rfl)) ⟨(P.cq.cq).fy (Jv _) (λk h=>.wv h) λk h=>.wv (h.ι id λh=>ς h Jz),rfl,KM.rfl'⟩ λi v s2 R' R1 hv I T=>OY (s1:=⟨st.g++[.ο (kl.π jJ.v)]++[.ο (l.π jJ.v)],st.2⟩) hd O V ⟨L.nd,L.mem,L.cs,L.n⟩ hv I T
 rw[Jq] at I;refine⟨s',I.P.fy L.n.2 (λk h=>?_) (λk h=>?_),I.k,e⟩
 ·exact h.ι (λh=>ZJ h) λh=>by
   show sz k<s+1;rw[((L.mem k).mp (KO h)).1];exact JR _
 ·rcases Yl (JY h) with h|h
  ·exact .wv (.wv h)
  ·by_cases q:k∈l
   ·exact .wv (.IO (by rw[Zj];exact q))
   ·refine .IO ?_
    cases hA:s'.Ad k with
    |none=>rfl
    |some a=>exact ς ((L.mem k).ϥ ⟨h,I.m.nw k (JF h) ⟨a,hA⟩⟩) q
end
section
variable{b:Nat}{st:QS R}{l:List WW}
abbrev zby:Sm:=.fo [5] Qc (.bn (.py (.ty 491260897125)) [.fq .am (.fq .ss (.py (.Β 2)) (.Ο 1)) (.py (.Β 1))]) [CL]
def zbN(hd:5<=d)(O:ku X)(V:um X)(C:X.cs.ε<=60)(P:PT X (ow 0) (bs X 0) st):∃st',PT X (ow (2*X.N+1)) (bs X (2*X.N+1)) st'/\st'.k=st.k/\exec (ah P0 d) zby (iu X st.a st.b st.d st.e st.f st.k) st.g=Qa ((.nx,iu X st'.a st'.b st'.d st'.e st'.f st'.k),st'.g):=by
 obtain⟨s',P',e⟩:=oe (c:=ah P0 d) (x:=5) (n:=2*X.N+1) (e:=.bn (.py (.ty 491260897125)) [.fq .am (.fq .ss (.py (.Β 2)) (.Ο 1)) (.py (.Β 1))]) (b:=[CL]) (λs':QS R=>iu X s'.a s'.b s'.d s'.e s'.f s'.k) QS.g (λi s'=>PT X (ow i) (bs X i) s'/\s'.k=st.k) st
  (Jn (Zf (JI 2 O.n)) (by decide)) rfl (by exact kO (.q (Wx (a:=2) (b:=X.N) (by decide) (Jw O.n (by decide)))<|.c2<|.z (Wj (2*X.N) st.g)) (by kernel_rfl)) ⟨P,rfl⟩ λi s' R1 _ hi P1 T1=>by
   refine xEAA (C7 hd O V C P1.1) λs2 P2 k2 e=>?_;exact j6 (.s e<|.z (T1.nx ⟨s2.1,s2.2.1,s2.2.2.1,s2.2.2.2.1,vN i,s2.2.2.2.2.2⟩ ⟨P2.bD,k2.ν P1.2⟩)) rfl
 exact⟨s',P'.1,P'.2,e⟩
def PT.fb(O:ku X)(P:PT X (ow (2*X.N+1)) b st){t:WW}(ht:t∈X.cs):jX (st.V t) (dh X.M) 0=X.W t:=by
 have hd:∀t∈X.cs,ow (2*X.N+1) t:=λt ht=>JO (Jn (JJ (O.lv t ht).1 (O.lv t ht).2) (JF (YN _).Μ));simp only[<-P.w t ht,wR (hd t ht),tL (T:=jJ) λc hc h=>ς (hd c hc) h,R.Χ]
def Pi(O:ku X)(P:PT X (ow (2*X.N+1)) b st)(hb:b<=X.cs.ε){t:WW}(ht:t∈X.cs):4*(X.p*(sz t+1)+X.pS+X.p1)+(X.k*(sz t+1)+X.kS+st.c+X.k1+X.M.aa.ε)<=3800:=by
 have hz:sz t+2<=2*X.N+2:=JV (Jn (JJ (O.lv t ht).1 (O.lv t ht).2) (JF (YN _).Μ)) 2;exact(GJ (n:=sz t) O.pp O.kk (Jn P.hc (Js (Ze _ hb) 1):st.c<=X.cl) (Jn (JJ (JI 4 (JI _ hz)) (JV (JI _ hz) _)) O.bd)).2.2
def Pe(hd:4<=d)(O:ku X)(P:PT X (ow (2*X.N+1)) b st)(hb:b<=X.cs.ε){t:WW}(ht:t∈X.cs)(hA:st.Ad t=Qa a)(hg:∃t,g=st.g++t):jO (ah P0 d) (.aj 127) [.ξ X.L.m,.ξ a] g=Qa (R.e (X.W t),g):=by
 obtain⟨t',rfl⟩:=hg;have S:RW jJ R X.h (st.g++t') X.D X.M.aa.ε st.c st.Ad st.V:=P.rw'.cq
 have:=fn (P:=P0) rfl (W5 (Q:=λv g=>v=_/\g=_) hd (S.pk O.I) (S.Tq _ _ hA) (S.lv _) (P.de t (JO (Jn (JJ (O.lv t ht).1 (O.lv t ht).2) (JF (YN _).Μ)):sz t<2*X.N+1)) O.G.ed (Pi O P hb ht) ⟨rfl,rfl⟩)
 rw[En (o:=0) (b:=dh X.M) ((S.lv _).ν O.I.fg.Μ) λs x hx=>by unfold dh;rw[Zq,hx];rfl,P.fb O ht] at this;exact this
end
section
variable{b:Nat}{st:QS R}{l:List WW}
abbrev nz(W:WW->R.α)(k:WW):Ζ:=!@decide (W k=R.Κ) (R.gk _ _)
def oH(W:WW->R.α)(l:ζ WW):ζ (ab×ab):=(l.Ϩ (nz W)).π λk=>(jJ.v k,R.e (W k))
def yF(W:WW->R.α)(cs:ζ WW)(es:ζ (ab×ab)):Prop:=∃l,es=oH W l/\(l.Ϩ (nz W)).No (cs.Ϩ (nz W))
def FC{W:WW->R.α}{i:θ}{K:WW}(h:l[i]?=Qa K):oH W (l.na (i+1))=oH W (l.na i)++(bif !@decide (W K=R.Κ) (R.gk _ _) then[(jJ.v K,R.e (W K))] else[]):=by
 delta oH;rw[U9 h,Xx,JW]
 congr 1
 refine vL (!@decide (W K=R.Κ) (R.gk _ _)) (λhb=>?_) λhb=>?_
 ·rw[hb]
  rw[ζ.filter_cons_of_pos (by exact hb)];rfl
 ·rw[hb]
  rw[ζ.filter_cons_of_neg (p:=nz W) (λe=>JQ (hb.Μ.ν e))];rfl
def FD{W:WW->R.α}{K:WW}(h:K∉l):jW (oH W l) (jJ.v K)=none:=by
 refine η.map_eq_none_iff.ϥ (ζ.find?_eq_none.ϥ λp hp q=>?_);obtain⟨k,hk,rfl⟩:=JL.mp hp;rw[jJ.eq] at q;exact h (Ξ q▸(ZU.mp hk).1)
theorem UA{W:WW->R.α}:pD jJ (oH W l):=λp hp=>by
 obtain⟨k,_,rfl⟩:=JL.mp hp;exact⟨k,rfl⟩
abbrev QO:=η θ×(ζ (ab×ab))×η ab×η ab
section
variable(ψ:QO)
abbrev QO.ep:=ψ.1
abbrev QO.es:=ψ.2.1
abbrev QO.b:=ψ.2.2.1
abbrev QO.v:=ψ.2.2.2
end
abbrev Gr(st:QS R)(l:ζ WW)(s:QO):MH:=st.g++[.Υ s.ep s.es,.ο (l.π jJ.v)]
abbrev xt(X:PX R)(st:QS R)(s:QO):Ψ.Λ:=Qa (.ξ X.L.m)::Qa (.Β X.N)::Qa (.aj (112+R.i))::Qa X.ov::Qa (.ξ X.D)::st.a::s.b::st.d::st.e::st.f::vR st.g.ε::s.v::nn 6
abbrev zbW:ζ Sm:=[.ft (.nm 11) (.bn (.py (.aj 127)) [.Ο 0,.Ix (.Ο 4) (.Ο 6)]),.ite (.gm .ne (.Ο 11) (.aq (.Ο 2) oi)) [.ft (.sb (.Ο 10) (.Ο 6)) (.Ο 11)] []]
def Pk{i:θ}{s:QO}(hd:4<=d)(O:ku X)(P:PT X (ow (2*X.N+1)) b st)(hb:b<=X.cs.ε)(nd:l.Ω)(n60:l.ε<=60)(hm:∀k∈l,∃a,st.Ad k=Qa a)(hv:(l.π jJ.v)[i]?=Qa v)(I:s.es=oH X.W (l.na i))(T:To (xt X st) (Gr st l) (λs=>s.es=oH X.W (l.na (i+1))) R1 R'):
  Wo (nW (xt X st s) [6] Qc v) λfr1=>ck (ah P0 d) zbW fr1 (Gr st l s) R':=by
 rw[JE] at hv;refine xEA (Zm.mp hv) λK hK dw=>?_;refine eqE dw ?_;refine xE (hm K (Jt hK)) λa hA=>?_;refine xEEAAA P.rw'.dd λep es hDd hKy _ hdg=>?_;have f1:=sd (jH (t:=[.Υ s.ep s.es,.ο (l.π jJ.v)]) hDd) (pI (T:=jJ) hKy) ((hdg K).ν (by rw[hA];rfl):jW es (jJ.v K)=Qa (.ξ a));have f2:=Pe (g:=Gr st l s) hd O P hb (P.ky K a hA) hA ⟨_,rfl⟩;have st1:=FC (W:=X.W) hK;refine vL (!@decide (X.W K=R.Κ) (R.gk _ _)) (λhq=>?_) λhq=>?_
 ·rw[hq,pi] at st1
  have f3:=E1 (h:=Gr st l s) (v:=R.e (X.W K)) (a:=st.g.ε) (oC (j:=0)) (I▸pI (T:=jJ) (k:=K) UA) (I▸by
   show ((((l.na i).Ϩ _).π _).ε)<bg;rw[Jq];exact Jw (Jn (Kh _ _) (Jn (ζ.length_take_le' _ _) n60)) (by decide))
  have e3:(Gr st l s).Ϫ st.g.ε (.Υ (bif (jW s.es (jJ.v K)).ϟ then s.ep else s.ep.π (· +1)) (nA s.es (jJ.v K) (R.e (X.W K))))=Gr st l ⟨s.ep.π (· +1),s.es++[(jJ.v K,R.e (X.W K))],Qa (jJ.v K),Qa (R.e (X.W K))⟩:=by
   delta nA;rw[(I▸FD (A5 nd hK):jW s.es (jJ.v K)=Qd)];exact AM (j:=0)
  rw[e3] at f3;exact lI (j6 (.v f1<|.p f2<|.w (R.no)<|.k (R.qn (X.W K) R.Κ)<|.t hq<|.h f3<|.z (T.nx ⟨s.ep.π (· +1),s.es++[(jJ.v K,R.e (X.W K))],Qa (jJ.v K),Qa (R.e (X.W K))⟩ (by show s.es++_=_;rw[I,st1]))) rfl)
 ·rw[hq,bm,ZE] at st1
  exact lI (j6 (.v f1<|.p f2<|.w (R.no)<|.k (R.qn (X.W K) R.Κ)<|.f hq<|.z (T.nx ⟨s.1,s.2.1,Qa (jJ.v K),Qa (R.e (X.W K))⟩ (I.ν st1.Μ))) rfl)
end
section
variable{b:Nat}{st:QS R}{l:List WW}
abbrev zgG:Sm:=.fo [6] Qc (.bn (.py (.bi 126922498794852)) [.Ο 4]) zbW
def zb1{W:WW->R.α}{cs:ζ WW}{p:WW->Ζ}(h:∀k∈cs,p k=Qc->W k=R.Κ):(cs.Ϩ p).Ϩ (nz W)=cs.Ϩ (nz W):=by
 refine ζ.filter_filter.ν ?_;refine ζ.filter_congr λk hk=>?_;cases hp:p k with
 |true=>exact Ym _
 |false=>unfold nz;rw[Xz,h k hk hp];exact(ω (!·) (@Γ _ (R.gk R.Κ R.Κ) rfl)).Μ
def Pf(hd:4<=d)(O:ku X)(C:X.cs.ε<=60)(P:PT X (ow (2*X.N+1)) b st)(hb:b<=X.cs.ε):∃s l,yF X.W X.cs s.es/\exec (ah P0 d) zgG (xt X st ⟨Qa 0,[],st.b,Qd⟩) (st.g++[.Υ (Qa 0) []])=Qa ((.nx,xt X st s),Gr st l s):=by
 refine xEE P.rw'.qp λe es dw=>?_;refine xE dw λks H=>?_;obtain⟨el,hl⟩:=AG (cs:=X.cs) (ks:=ks) O.nd H.nd (λk=>(st.Ad k).ϟ) λk=>by
  rw[H.mem,Zy];exact⟨λh=>⟨h.ι λa q=>P.ky k a q,h⟩,λh=>h.2⟩
 have f2:=zfu (g:=st.g++[.Υ (Qa 0) []]) (ah P0 d) ((kvD (jH H.TF)).ν (ω Qa H.kq)) (Jn hl C);have nd:(VJ ks).Ω:=(lY ks).nodup_iff.ϥ H.nd;have n60:(VJ ks).ε<=60:=(lY ks).u8▸Jn hl C;have hm:∀k∈VJ ks,∃a,st.Ad k=Qa a:=λk hk=>(H.mem k).mp ((lY ks).tz.mp hk);have eo:((VJ ks).Ϩ (nz X.W)).No (X.cs.Ϩ (nz X.W)):=by
  refine(((lY ks).ν el).Ϩ _).ν (.of_eq (zb1 λk hk h=>?_));have hA:st.Ad k=none:=by
   cases q:st.Ad k with
   |none=>rfl
   |some a=>rw[q] at h;cases h
  rw[<-P.fb O hk,P.rw'.qj k hA,l0]
 generalize VJ ks=l at f2 nd n60 hm eo
 rw[Jx,JA] at f2;obtain⟨s',I,e⟩:=zfB (c:=ah P0 d) (h:=st.g++[.Υ (Qa 0) []]) (tg:=[6]) (many:=Qc) (e:=.bn (.py (.bi 126922498794852)) [.Ο 4]) (b:=zbW) (vs:=l.π jJ.v) (a:=st.g.ε+1) (xt X st) (Gr st l) (λi s=>s.es=oH X.W (l.na i)) ⟨Qa 0,[],st.b,Qd⟩
  (by rw[Jq];exact Jn n60 (by decide)) rfl (λi s2 _=>oC (j:=1)) (by exact kO (.p f2<|.z (cn (.ξ (st.g.ε+1)) (st.g++[.Υ (Qa 0) [],.ο (l.π jJ.v)]))) (by kernel_rfl)) rfl λi v s2 R' R1 hv I T=>Pk hd O P hb nd n60 hm hv I T
 rw[Jq,Zj] at I;exact⟨s',l,⟨l,I,eo⟩,e⟩
abbrev tf(X:PX R):QS R:=⟨Ww jJ ([],[]) X.h X.M,cu (T:=jJ) (λ_=>Qd) ([],[]) (Qa (X.h.ε+1)),cu (T:=jJ) (λ_=>kY R X.M.aa.ε) ([],[]) (uB X.M),1,Qd,Qd,Qd,Qd,Qd,Qd⟩
def O5(hs:M.Ϟ<M.aa.ε):uB M=mL (kY R M.aa.ε) M.Ϟ M.lw:=by
 delta uB mL kY;rw[KD,φ hs];show _=qbc _ _ (R.am R.Κ M.lw);rw[R.Χ]
def gX(O:ku X)(eD:X.D=X.h.ε+2)(h0:(([],[]):WW)∈X.cs)(eW:∀t∈X.cs,X.W t=R.ss X.M.lw (Bv X.M t.1 t.2 0 0 X.M.Ϟ)):PT X (ow 0) (bs X 0) (tf X):=by
 have z:∀{p k:θ},R.D p k R.Κ:=R.af (JB _) (JB _) R.bq;refine⟨by rw[eD];exact Cs rfl,Jr _ _,λk _ x hx=>?_,λk hk=>ς hk (J9 _),λk a h=>?_,⟨([],[]),X.h.ε+1,(jN (T:=jJ):cu (T:=jJ) (λ_=>Qd) ([],[]) (Qa (X.h.ε+1)) ([],[])=_)⟩,λt ht=>?_⟩
 ·have hx:x∈cu (T:=jJ) (λ_=>kY R X.M.aa.ε) ([],[]) (uB X.M) k:=hx
  by_cases e:k=([],[])
  ·subst e
   rw[jN (T:=jJ)] at hx;rcases Z8 hx with hx|rfl
   ·simp only[Zl hx];exact z
   ·exact R.af (Jn (Jn (Jr _ _) O.pp) (JF (qat X.p).Μ)) (Zs (Jn (Jn (Jr _ _) O.kk) (JF (qat X.k).Μ))) O.G.fst
  ·rw[jU e] at hx
   simp only[Zl hx];exact z
 ·have h:cu (T:=jJ) (λ_=>Qd) ([],[]) (Qa (X.h.ε+1)) k=Qa a:=h
  by_cases e:k=([],[])
  ·exact e▸h0
  ·rw[jU e] at h;cases h
 ·rw[wU (J9 _),R.ut]
  show rO (T:=jJ) X.cs (ow 0) (Bt X.M t) (cu (T:=jJ) (λ_=>kY R X.M.aa.ε) ([],[]) (uB X.M))=_;rw[O5 O.G.st];refine(xP (T:=jJ) (V:=λ_=>kY R X.M.aa.ε) O.nd h0 (J9 _) (by rw[(zlen:(kY R X.M.aa.ε).ε=X.M.aa.ε)];exact O.G.st)).ν ?_;rw[tL (T:=jJ) λc _ _=>l0,R.ut,eW t ht];rfl
def fF(R:Rg)(h g:MH)(v:ab)(W:WW->R.α)(cs:ζ WW):Prop:=(∃t,g=h++t)/\∃a ep es,v=.ξ a/\g[a]?=Qa (.Υ ep es)/\yF W cs es
section
variable{R:Rg}{h g:MH}{v:ab}{W:WW->R.α}{cs:List WW}(ψ:fF R h g v W cs)
def fF.Tr:=@ψ.1
def fF.v:=@ψ.2
end
def Ij(hd:7<=d)(O:ku X)(V:um X)(C:X.cs.ε<=60)(eg:g=X.h)(eD:X.D=X.h.ε+2)(h0:(([],[]):WW)∈X.cs)(eW:∀t∈X.cs,X.W t=R.ss X.M.lw (Bv X.M t.1 t.2 0 0 X.M.Ϟ))
  (q:∀g' v,fF R X.h g' v X.W X.cs->Q v g'):ck (ah P0 d) (l4.jp 4) (Qa (.ξ X.L.m)::Qa (.Β X.N)::Qa (.aj (112+R.i))::Qa X.ov::nn 14) g (Ψ.Fin Q):=by
 subst eg;refine xEAA (zbN (Jn (by decide) hd) O V C (gX O eD h0 eW)) λs P k e=>?_;refine xEEA (Pf (d:=d) (Jn (by decide) hd) O C P (Kh _ _)) λs2 l I e2=>?_;have f2:mC (X.h++[ae.ο [R.e R.Κ],.ο (((kY R X.M.aa.ε).Ϫ X.M.Ϟ X.M.lw).π R.e)]) (.Υ (Qa 1) [(jJ.v ([],[]),.ξ (X.h.ε+1))])=Qa (.ξ X.D,Ww jJ ([],[]) X.h X.M):=by
  delta mC Ww uB;rw[JA,eD,Jx];rfl
 rw[(k:s.k=Qd)] at e;exact j6 (.p (fn (P:=P0) (d:=d) (h:=X.h) rfl (Hx (Q:=λv g=>v=_/\g=_) (Jn (by decide) hd) O.I O.G.st ⟨rfl,rfl⟩))<|.p f2<|.s e<|.c<|.s e2<|.z (q _ _ ⟨P.rw'.Tr.ι λt h=>⟨t++[.Υ s2.ep s2.es,.ο (l.π jJ.v)],by rw[<-JA,<-h]⟩,⟨s.g.ε,s2.ep,s2.es,rfl,oC (h:=s.g) (j:=0) (t:=[.Υ s2.ep s2.es,.ο (l.π jJ.v)]),I⟩⟩:Q (.ξ s.g.ε) (Gr s l s2))) (by kernel_rfl)
end
section
variable{T:Mc R.α}
abbrev pX(g:MH)(L:Ly)(T:Mc R.α)(N:θ)(ov:ab)(p k p1 k1 pS kS:θ)(cs:ζ WW)(W:WW->R.α):PX R:=⟨g,L,T,N,g.ε+2,ov,p,k,p1,k1,pS,kS,cs,W⟩
def zbV{L':Ly}{S:ζ (DR R)}{cs:ζ WW}{W:WW->R.α}(H:xG T)(O:kz (sX g aT T p K))(Z:EH (sX g aT T p K) g0 S)(h1:p*T.aa.ε<=pS)(h2:K*T.aa.ε+T.aa.ε+1+T.aa.ε<=kS):
  um (pX g0 L' T N (.ξ g.ε) pW kW p1 k1 pS kS cs W):=by
 refine⟨.IO ⟨_,rfl⟩,(λe=>nomatch e),λaT' e {d P K' aR g1 row} hd hg hR hl hD hb=>?_⟩;have e:g.ε=aT':=by
  injection (e:ab.ξ g.ε=.ξ aT')
 refine eqE e ?_;obtain⟨t,rfl⟩:=hg;obtain⟨v,g',e,t2,a,row',rfl,rfl,q⟩:=Ψ.W.Mi (mM (P:=P0) (d:=d) rfl (v8 (X:=sX g aT T p K) (T:=S) (P:=P) (K:=K') (Q:=λv g'=>∃t2 a row',v=.ξ a/\g'=g0++t++t2/\zf1 (pX g0 L' T N (.ξ g.ε) pW kW p1 k1 pS kS cs W) (g0++t) t2 a P K' row row') hd ⟨O,hR,hl,hD,Z.tb.r.cq,Z.lv,Z.Tq,by
  exact Jn (JJ (JI 4 (Js h1 P)) (Jn (JF (J8 _ _ _)) (Js h2 K'))) hb⟩ λt2 V a1 a2 a3 a4=>⟨t2,_,V,rfl,rfl,Zp _,a1,a2,λx hx=>R.af (Js h1 P) (by
   exact Jn (JF (J8 _ _ _)) (JJ (Jv _) h2)) (a3 x hx),λu l i j hi hj=>(a4 _ _ (NK H hi hj)).Μ⟩))
 exact⟨t2,a,row',e,q⟩
theorem Il{L':Ly}{cs:ζ WW}{W:WW->R.α}(H:xG T)(hE:LS T):um (pX g0 L' T N .Ε pW kW p1 k1 pS kS cs W):=
 ⟨.wv rfl,λ_ row _ u l i j hi hj=>rB λs _ _=>by
  rw[H0 H hi hj,o8,tU λa ha=>xR hE ha,R.ut],λaT e=>nomatch e⟩
end
section
variable{us:List (List Nat)}
def dH:ζ (ζ θ):=[[],[97],[97,97],[97,98],[98],[98,97],[98,98]]
def mm:ζ WW:=dH.flatMap λu=>dH.π λl=>(u,l)
def x8:mm.ε=49/\mm.Ω/\(∀k∈mm,k.1.ε<=2/\k.2.ε<=2)/\(([],[]):WW)∈mm:=by decide+kernel
def zc5:∀k∈mm,∀u∈gz,∀l∈gz,max (k.1.ε+u.ε) (k.2.ε+l.ε)<=2->(k.1++u,k.2++l)∈mm:=by decide+kernel
def jC(us:ζ (ζ θ))(M:Mc R.α)(h t:MH)(L':Ly)(T:Mc R.α):Prop:=ao R (h++t) L' T/\uO us T/\∀u l,kx T u l=kx M u l
section
variable{us:List (List Nat)}{M:Mc R.α}{h t:MH}{L':Ly}{T:Mc R.α}(ψ:jC us M h t L' T)
def jC.J:=@ψ.1
def jC.Z:=@ψ.2.1
def jC.w:=@ψ.2.2
end
def zdY{T:Mc R.α}(Z:uO us M)(TR:nG M ks T):∀ys∈T.aa,∀a∈ys,a.up∈us/\a.lo∈gz:=by
 intro ys hy a ha;cases TR with
 |qw h1 h2 ea he hs hf=>
  rw[ea] at hy;refine xEA (JL.mp hy) λk _ dw=>?_;subst dw;refine xEA (ζ.mem_filterMap.mp ha) λb hb e=>?_;refine xEAA (mH hb) λzs _ hz hb=>?_
  have:=Z.us zs hz b hb
  by_cases q:b.t∈ks
  ·rw[φ q] at e;refine lV e ?_;exact this
  ·rw[τ q] at e;cases e
 |lq h1 ea he hs hf=>
  rw[ea] at hy;rw[JD.mp hy] at ha;exact ς ha Jz
theorem Cd(hd:6<=d)(I:ao R h L M)(Z:uO us M):∃t L' T,jO (ah P0 d) (.aj 133) [.ξ L.m] h=Qa (.ξ L'.m,h++t)/\jC us M h t L' T:=
 (U8 hd I Z.g Z.up).ι λt c=>c.ι λL' c=>c.ι λT c=>⟨t,L',T,c.1,c.2.J,⟨c.2.G,c.2.U,Jn c.2.n Z.n,Jn c.2.c Z.c,c.2.tr.ι λ_ q=>zdY Z q⟩,c.2.w⟩
def zim:∀n,n<5->∀c,c<8->1+c<=8/\1*n<=4/\8*n+n+1+n<=41/\4*(1*n)+(8*n+n+1)<=3800/\1+49*(c+1)<20000/\4*(5*(2*2+2))+(42*(2*2+2)+(1+49*(c+1)+n))<=3800:=by decide+kernel
def zes{L':Ly}{T:Mc R.α}{W:WW->R.α}(J:ao R g L' T)(G:kQ T p1 k1)(hu:∀ys∈T.aa,∀a∈ys,a.up∈gz/\a.lo∈gz)(pp:p1+pS<=p)(kk:k1+kS<=k)(b:1+49*(T.bb+1)<20000/\4*(p*(2*2+2))+(k*(2*2+2)+(1+49*(T.bb+1)+T.aa.ε))<=3800):ku (pX g L' T 2 ov p k p1 k1 pS kS mm W):=by
 refine⟨J,G,pp,kk,?_,(by decide:2<=200),?_,x8.2.1,x8.2.2.1,λk hk ys hy a ha hb=>?_⟩
 ·show 1+mm.ε*(T.bb+1)<20000
  rw[x8.1];exact b.1
 ·show 4*(p*(2*2+2))+(k*(2*2+2)+(1+mm.ε*(T.bb+1)+T.aa.ε))<=3800
  rw[x8.1];exact b.2
 ·exact zc5 k hk _ (hu ys hy a ha).1 _ (hu ys hy a ha).2 (Ξ (Jo.mp hb).2)
end
section
variable{us:List (List Nat)}
theorem Mm{us:ζ (ζ θ)}(Z:uO us M):xG M:=Z.g.dp Z.up
abbrev Wt(M:Mc R.α)(k:WW):R.α:=kx M k.1 k.2
def tD(M:Mc R.α)(h g:MH)(a:θ):Prop:=(∃t,g=h++t)/\∃ep es,g[a]?=Qa (.Υ ep es)/\yF (Wt M) mm es
section
variable{M:Mc R.α}{h g:MH}{a:Nat}(ψ:tD M h g a)
def tD.Tr:=@ψ.1
def tD.TF:=@ψ.2
end
theorem tD.of{h0:MH}(p:∃t,h=h0++t)(P:fF R h g v (Wt M) mm):∃a,v=.ξ a/\tD M h0 g a:=P.v.ι λa e=>e.ι λep e=>e.ι λes q=>⟨a,q.1,p.ι λt e=>P.Tr.ι λs f=>⟨t++s,by rw[f,e,JA]⟩,ep,es,q.2⟩
def ziX:mm.ε<=60:=by rw[x8.1];decide
def PrS(d:θ)(M:Mc R.α)(L:Ly)(h t:MH)(X:PX R):Prop:=jO (ah P0 d) (.aj 133) [.ξ L.m] h=Qa (.ξ X.L.m,h++t)/\jO (ah P0 d) (.aj 131) [.ξ X.L.m] (h++t)=Qa (X.ov,X.h)/\(∃t,X.h=h++t)/\ku X/\um X/\X.N=2/\X.D=X.h.ε+2/\X.cs=mm/\X.W=Wt M/\∀t∈X.cs,X.W t=R.ss X.M.lw (Bv X.M t.1 t.2 0 0 X.M.Ϟ)
section
variable{d:Nat}{M:Mc R.α}{L:Ly}{h t:MH}{X:PX R}(ψ:PrS d M L h t X)
def PrS.e1:=@ψ.1
def PrS.e2:=@ψ.2.1
def PrS.Tr:=@ψ.2.2.1
def PrS.O:=@ψ.2.2.2.1
def PrS.V:=@ψ.2.2.2.2.1
def PrS.N:=@ψ.2.2.2.2.2.1
def PrS.D:=@ψ.2.2.2.2.2.2.1
def PrS.cs:=@ψ.2.2.2.2.2.2.2.1
def PrS.W:=@ψ.2.2.2.2.2.2.2.2.1
def PrS.eW:=@ψ.2.2.2.2.2.2.2.2.2
end
def LQ(hd:10<=d)(I:ao R h L M)(H:∀d,9<=d->∃t X,PrS d M L h t X):∃a g,jO (ah P0 d) (.aj 141) [.ξ L.m,.Β 2] h=Qa (.ξ a,g)/\tD M h g a:=by
 have w:WF P0 d 141 [.ξ L.m,.Β 2] h λv g=>∃a,v=.ξ a/\tD M h g a:=by
  refine kN (K:=9) hd (Qa (.ξ L.m)::Qa (.Β 2)::nn 16) l4 rfl λd' h'=>?_;refine(H d' h').ι λt S=>S.ι λX S=>?_;have tail:ck (ah P0 d') (l4.jp 4) (Qa (.ξ X.L.m)::Qa (.Β X.N)::Qa (.aj (112+R.i))::Qa X.ov::nn 14) X.h (Ψ.Fin λv g=>∃a,v=.ξ a/\tD M h g a):=
   Ij (Jn (by decide) h') S.O S.V (by rw[S.cs];exact ziX) rfl S.D (by rw[S.cs];exact x8.2.2.2) S.eW λg' v P=>tD.of S.Tr (by rw[S.W,S.cs] at P;exact P)
  rw[S.N] at tail;exact mP (a:=l4.na 4) (b:=l4.jp 4) (j6 (.p (fn (P:=P0) (d:=d') (h:=h) rfl (A6 (a:=2) (b:=0) (c:=200) (x:=.Ϥ [108,101,110,103,116,104]) (Jn (by decide) h') (by decide) (by decide) (cn _ _)))<|.v (l9 I)<|.p S.e1<|.p S.e2<|.z (nC tail)) (by kernel_rfl))
 refine xEEA (W.Mi (mM (P:=P0) rfl w)) λv g e dw=>?_;refine xEA dw λa iq P=>?_;subst iq;exact⟨a,g,e,P⟩
theorem LR(hd:10<=d)(ne:R.cw≠R.Κ)(hu:∀u∈us,u∈gz)(I:ao R h L M)(Z:uO us M):∃a g,jO (ah P0 d) (.aj 141) [.ξ L.m,.Β 2] h=Qa (.ξ a,g)/\tD M h g a:=LQ hd I λd h'=>by
 refine(Cd (d:=d) (Jn (by decide) h') I Z).ι λt c=>c.ι λL' c=>c.ι λT c=>?_;have C:=c.2;have B:=zim T.aa.ε (JO C.Z.n) T.bb (JO C.Z.c);refine(DX (d:=d) (K:=8) (p:=1) (k:=1) (Jn (by decide) h') C.J C.Z.g C.Z.up ne (Jn C.Z.n (by decide)) B.1 B.2.2.2.1 (by decide)).ι λov e=>e.ι λg e=>?_;have O:∀{g:MH},ao R g L' T->ku (pX g L' T 2 ov 5 42 1 1 4 41 mm (Wt M)):=λJ=>zes J C.Z.g (λys hy a ha=>⟨hu _ (C.Z.us ys hy a ha).1,(C.Z.us ys hy a ha).2⟩) (by decide) (by decide) B.2.2.2.2;cases e.2 with
 |no hE hv hg=>
  subst hv;subst hg;exact⟨t,_,c.1,e.1,⟨t,rfl⟩,O C.J,Il (Mm C.Z) hE,rfl,rfl,rfl,rfl,(λk _=>(C.w k.1 k.2).Μ)⟩
 |so t1 t2 S SS hv hg=>
  subst hv;subst hg;exact⟨t,_,c.1,e.1,⟨t++t1++t2,by simp only[JA]⟩,O C.J.cq.cq,zbV (Mm C.Z) (CT C.J C.Z.g C.Z.up (Jn C.Z.n (by decide)) B.1 B.2.2.2.1) SS B.2.1 B.2.2.1,rfl,rfl,rfl,rfl,(λk _=>(C.w k.1 k.2).Μ)⟩
end
section
variable{O:Mc R.α}{row:Nat->DR R}{l:List Nat}
abbrev AK:=ζ θ×ζ θ×θ
abbrev lJ(a:Ar R.α):AK:=(a.up,a.lo,a.t)
def pF(b:AK->R.α)(xs:ζ (Ar R.α)):R.α:=nK (xs.π λa=>bif a.di then R.Κ else R.ss a.w (b (lJ a)))
def kBh(B:θ->θ->θ->R.α)(u l:ζ θ)(i j:θ)(k:AK):R.α:=bif jo u i k.1 && jo l j k.2.1 then B (i+k.1.ε) (j+k.2.1.ε) k.2.2 else R.Κ
def Nl{B:θ->θ->θ->R.α}{i j:θ}:tB B u l i j xs=pF (kBh B u l i j) xs:=by
 refine lW λa _=>?_;delta dj kBh;cases a.di with
 |true=>rfl
 |false=>show _=R.ss a.w (bif jo u i a.up && jo l j a.lo then _ else _);cases jo u i a.up && jo l j a.lo with
  |true=>rfl
  |false=>exact(R.xL _).Μ
def zdx(M O:Mc R.α)(row:θ->DR R):Prop:=(∀s,∀a∈ax O s,a.di=Qc)/\(∀s,s<M.aa.ε->∀b,pF b (ax O s)=j7 (row s) λo=>pF b (ax M o))/\(∀s,s<M.aa.ε->dh O s=j7 (row s) (dh M))/\∀s,s<M.aa.ε->∀u l i j,i<=u.ε->j<=l.ε->j7 (row s) (rD M (Bv M u l) u l i j)=Bv M u l i j s
section
variable{M O:Mc R.α}{row:Nat->DR R}(ψ:zdx M O row)
def zdx.em:=@ψ.1
def zdx.ar:=@ψ.2.1
def zdx.ed:=@ψ.2.2.1
def zdx.ev:=@ψ.2.2.2
end
def C0{r:qL κ R}{b c:κ->R.α}:j7 r (λx=>R.am (b x) (c x))=R.am (j7 r b) (j7 r c):=by
 delta j7
 induction r with
 |Ϝ=>exact(R.Χ _).Μ
 |Ι p t ih=>rw[JU,JU,JU,jS,jS,jS,ih,R.Sc,R.Ϣ,R.Ϣ,R.swap (R.ss p.2 (c p.1))]
theorem Fv{r:qL κ R}:j7 r (λ_=>R.Κ)=R.Κ:=(lW λ_ _=>R.xL _).ν (z0 r)
def Sj{B B':θ->θ->θ->R.α}{i j:θ}(h:∀a∈xs,dj u l i j a=Qe->B (i+a.up.ε) (j+a.lo.ε) a.t=B' (i+a.up.ε) (j+a.lo.ε) a.t):tB B u l i j xs=tB B' u l i j xs:=by
 refine lW λa ha=>?_;cases hh:dj u l i j a with
 |true=>rw[pi,pi,h a ha hh]
 |false=>rfl
def zbJ(H:zdx M O row)(B:θ->θ->θ->R.α){i j:θ}(hs:s<M.aa.ε):rD O B u l i j s=j7 (row s) (rD M B u l i j):=by
 show R.am (if i=u.ε/\j=l.ε then dh O s else R.Κ) (tB B u l i j (ax O s))=j7 (row s) λo=>R.am (if i=u.ε/\j=l.ε then dh M o else R.Κ) (tB B u l i j (ax M o));simp only[C0,Nl,H.ar s hs,show (λo=>tB B u l i j (ax M o))=λo=>pF (kBh B u l i j) (ax M o) from funext λo=>Nl]
 congr 1
 by_cases e:i=u.ε/\j=l.ε
 ·simp only[φ e];exact H.ed s hs
 ·simp only[τ e];exact Fv.Μ
def zeq(H:zdx M O row)(HM:xG M)(HO:xG O):∀m {i j s:θ},i<=u.ε->j<=l.ε->(u.ε-i)+(l.ε-j)<m->s<M.aa.ε->Bv O u l i j s=Bv M u l i j s:=by
 intro m
 induction m with
 |zero=>exact λ_ _ h=>ς h (J9 _)
 |succ m ih=>
  intro i j s hi hj hm hs;simp only[H0 HO hi hj,o8,tU (H.em s),R.ut,zbJ H _ hs,<-H.ev s hs u l i j hi hj];refine oT λx hx=>?_;show R.am _ _=R.am _ _
  congr 1
  refine Sj λa ha hh=>?_;refine(mH ha).ι λys q=>?_;have hb:=Jo.mp hh;have hf:=Jo.mp hb.2;have lb:=HM.l ys q.2.1 a q.2.2;have f1:=(xX lb.1 hf.1 hi).1;have f2:=(xX lb.2 hf.2 hj).1;have ep:=wW (Ζ.not_inj (y:=Qc) hb.1);exact ih f1 f2 (Jn (AC f1 f2 ep) (JY hm)) (HM.t ys q.2.1 a q.2.2)
end
section
variable{O:Mc R.α}
theorem tN{b:AK->R.α}{a:Ar R.α}:pF b (a::xs)=R.am (bif a.di then R.Κ else R.ss a.w (b (lJ a))) (pF b xs):=rfl
def FJ{b:AK->R.α}{a:Ar R.α}:pF b (xs++[a])=R.am (bif a.di then R.Κ else R.ss a.w (b (lJ a))) (pF b xs):=by
 induction xs with
 |Ϝ=>rfl
 |Ι x xs ih=>rw[Yi,tN,tN,ih,R.swap]
def zeH(row:DR R)(M:Mc R.α)(b:AK->R.α)(os:ζ θ):R.α:=nK (os.π λo=>R.ss (jP row o) (pF b (ax M o)))
def Wl(M:Mc R.α)(os:ζ θ):θ:=(os.π λo=>(ax M o).ε).sum
def KOk(us:ζ (ζ θ))(n:θ)(k:AK):Prop:=(k.1∈us/\k.2.1∈us)/\k.2.2<n/\(k.1== [] && k.2.1== [])=Qc
section
variable{us:List (List Nat)}{n:Nat}{k:AK}(ψ:KOk us n k)
def KOk.u:=@ψ.1
def KOk.t:=@ψ.2.1
def KOk.e:=@ψ.2.2
end
def Bw(us:ζ (ζ θ))(M:Mc R.α)(row:DR R)(P K N:θ)(f:R.α)(xs:ζ (Ar R.α))(os:ζ θ)(c:θ)(sm:qL AK R):Prop:=(jK sm).Ω/\(∀k∈jK sm,KOk us M.aa.ε k)/\(∀p∈sm,R.D P (K+c) p.2)/\(∀b,R.am (j7 sm b) (R.am (R.ss f (pF b xs)) (zeH row M b os))=j7 row λo=>pF b (ax M o))/\sm.ε<=c/\c+(xs.ε+Wl M os)<=N
section
variable{us:List (List Nat)}{M:Mc R.α}{row:DR R}{P K N:Nat}{f:R.α}{xs:List (Ar R.α)}{os:List Nat}{c:Nat}{sm:qL AK R}(ψ:Bw us M row P K N f xs os c sm)
def Bw.nd:=@ψ.1
def Bw.ky:=@ψ.2.1
def Bw.dg:=@ψ.2.2.1
def Bw.ev:=@ψ.2.2.2.1
def Bw.n:=@ψ.2.2.2.2.1
def Bw.c:=@ψ.2.2.2.2.2
end
def CV[At κ]{r:qL κ R}{j:κ}{v:R.α}:(rN r j v).ε<=r.ε+1:=by
 induction r with
 |Ϝ=>exact Jv _
 |Ι p t ih=>
  simp only[m5];by_cases e:p.1=j
  ·rw[φ e];exact Zp _
  ·rw[τ e];exact Zf ih
def CX[At κ]{r:qL κ R}{P:θ}(h:∀p∈r,R.D P K p.2)(j:κ):R.D P K (jP r j):=by
 by_cases q:j∈jK r
 ·exact h _ (oS q)
 ·exact(p9 q)▸R.af (JB _) (JB _) R.bq
variable{us:List (List Nat)}{row:DR R}{P K N c:Nat}{f:R.α}{xs:List (Ar R.α)}{os:List Nat}{sm:qL AK R}{a:Ar R.α}
theorem Bw.fy(H:Bw us M row P K N f (a::xs) os c sm)(he:a.di=Qe):Bw us M row P K N f xs os c sm:=
 ⟨H.nd,H.ky,H.dg,λb=>by rw[<-H.ev b,tN,he,pi,R.Χ],H.n,Jn (Js (JV (Zp _) _) c) H.c⟩
def Bw.put(H:Bw us M row P K N f (a::xs) os c sm)(he:a.di=Qc)(hk:KOk us M.aa.ε (lJ a))(hw:R.D P (K+c) (R.ss f a.w)):Bw us M row P K N f xs os (c+1) (rN sm (lJ a) (R.am (jP sm (lJ a)) (R.ss f a.w))):=by
 refine⟨Gm H.nd,λk h=>((oP k).mp h).ι (H.ky k) λe=>e▸hk,λp h=>?_,λb=>?_,Jn CV (Zf H.n),Jn (JF ?_) H.c⟩
 ·rcases v7 h with h|rfl
  ·exact R.af (Jv _) (Zp _) (H.dg p h)
  ·exact R.fm (CX H.dg _) hw
 ·simp only[<-H.ev b,LJ,tN,he,bm,R.Sc,R.Ϣ,R.Ϣ,<-R.Id,R.swap]
 ·simp only[J0,θ.succ_add,J8,ZW 1];rfl
theorem Bw.ϫ{o:θ}(H:Bw us M row P K N f [] (o::os) c sm):Bw us M row P K N (jP row o) (ax M o) os c sm:=
 ⟨H.nd,H.ky,H.dg,λb=>by rw[<-H.ev b];show _=R.am (j7 sm b) (R.am (R.ss f R.Κ) (R.am _ _));rw[R.xL,R.Χ];rfl,H.n,Jn (JF (by show _=c+(0+((ax M o).ε+_));rw[Zq];rfl)) H.c⟩
theorem Bw.Ϟ(hp:os.No (jK row))(nd:(jK row).Ω)(h:Wl M os<=N):Bw us M row P K N R.Κ [] os 0 []:=
 ⟨.Ϝ,λ_ h=>ς h Jz,λ_ h=>ς h Jz,λb=>by
  show R.am R.Κ (R.am (R.ss R.Κ R.Κ) (nK _))=_;simp only[R.w9,R.Χ,R.Χ];exact qA (b:=λo=>pF b (ax M o)) hp nd,Jv _,by rw[Zq];exact Jn (JF (Zq _)) h⟩
def Pm(nd:os.Ω)(h:∀o∈os,o<n):Wl M os<=Wl M (JX n):=by
 have e:os.No ((JX n).Ϩ (· ∈os)):=(ζ.perm_ext_iff_of_nodup nd (Yh.Ϩ _)).ϥ λx=>by
  rw[ZU,ZA,f8];exact⟨λq=>⟨h x q,q⟩,λq=>q.2⟩
 delta Wl;rw[(e.π _).sum_nat]
 generalize JX n=l
 induction l with
 |Ϝ=>exact Jv _
 |Ι x l ih=>
  rw[ζ.filter_cons];by_cases q:x∈os
  ·rw[φ (Γ q)];exact Js ih _
  ·rw[τ (λe=>q (Ξ e))];exact Jn ih (JC _ _)
end
section
variable{O:Mc R.α}{us:List (List Nat)}{row:Nat->DR R}
abbrev mkA(R:Rg)(k:AK)(w:R.α):Ar R.α:=⟨k.1,k.2.1,w,k.2.2⟩
def Mo(sm:qL AK R)(b:AK->R.α)(ks:ζ AK):R.α:=nK (ks.π λk=>R.ss (jP sm k) (b k))
def AOk(us:ζ (ζ θ))(n P K:θ)(a:Ar R.α):Prop:=KOk us n (lJ a)/\R.D P K a.w/\a.w≠R.Κ
section
variable{us:List (List Nat)}{n P K:Nat}{a:Ar R.α}(ψ:AOk us n P K a)
def AOk.k:=@ψ.1
def AOk.d:=@ψ.2.1
def AOk.z:=@ψ.2.2
end
def BC(us:ζ (ζ θ))(n P K:θ)(sm:qL AK R)(ks:ζ AK)(xs:ζ (Ar R.α)):Prop:=(∀a∈xs,AOk us n P K a)/\(xs.π lJ).Ω/\(∀a∈xs,lJ a∉ks)/\(∀b,R.am (pF b xs) (Mo sm b ks)=j7 sm b)/\xs.ε+ks.ε<=sm.ε
section
variable{us:List (List Nat)}{n P K:Nat}{sm:qL AK R}{ks:List AK}{xs:List (Ar R.α)}(ψ:BC us n P K sm ks xs)
def BC.al:=@ψ.1
def BC.nk:=@ψ.2.1
def BC.nl:=@ψ.2.2.1
def BC.ev:=@ψ.2.2.2.1
def BC.n:=@ψ.2.2.2.2
end
variable{n P K:Nat}{sm:qL AK R}{ks:List AK}{xs:List (Ar R.α)}{k:AK}
theorem BC.fy(H:BC us n P K sm (k::ks) xs)(hz:jP sm k=R.Κ):BC us n P K sm ks xs:=
 ⟨H.al,H.nk,λa h q=>H.nl a h (.pc _ q),λb=>by
  rw[<-H.ev b];show _=R.am _ (R.am (R.ss (jP sm k) (b k)) _);rw[hz,R.w9,R.Χ];rfl,Yb H.n⟩
def BC.put(H:BC us n P K sm (k::ks) xs)(hz:jP sm k≠R.Κ)(hk:KOk us n k)(hd:R.D P K (jP sm k))(nd:k∉ks):BC us n P K sm ks (xs++[mkA R k (jP sm k)]):=by
 refine⟨λa h=>?_,?_,λa h q=>?_,λb=>?_,Jn (JF ?_) H.n⟩
 ·rcases Zh.mp h with h|h
  ·exact H.al a h
  ·rw[JD.mp h];exact⟨hk,hd,hz⟩
 ·rw[JW]
  refine Kj.ϥ ⟨H.nk,JH.ϥ ⟨Jz,.Ϝ⟩,λx hx y hy e=>?_⟩;rw[JD.mp hy] at e;subst e;exact(JL.mp hx).ι λa q=>H.nl a q.1 (q.2▸ .mo _)
 ·rcases Zh.mp h with h|h
  ·exact H.nl a h (.pc _ q)
  ·rw[JD.mp h] at q;exact nd q
 ·simp only[<-H.ev b,FJ,show (mkA R k (jP sm k)).di=Qc from hk.e,bm]
  show R.am (R.am (R.ss (jP sm k) (b k)) (pF b xs)) (Mo sm b ks)=R.am (pF b xs) (R.am (R.ss (jP sm k) (b k)) (Mo sm b ks));rw[R.Ϣ,R.swap]
 ·rw[Jx,YW,J0,J8,ZW 1]
theorem BC.Ϟ(hp:ks.No (jK sm))(nd:(jK sm).Ω):BC us n P K sm ks []:=
 ⟨λ_ h=>ς h Jz,.Ϝ,λ_ h=>ς h Jz,λb=>(R.Χ _).ν (qA hp nd),JF ((Zq _).ν (hp.u8.ν (Jq ..)))⟩
theorem BC.done(H:BC us n P K sm [] xs)(b:AK->R.α):pF b xs=j7 sm b:=(R.ut _).Μ.ν (H.ev b)
def Ai(us:ζ (ζ θ))(M:Mc R.α)(row:θ->DR R)(P K C:θ)(s:θ)(O:Mc R.α):Prop:=O.aa.ε=M.aa.ε/\O.Ϟ=M.Ϟ/\O.lw=M.lw/\(∀t,∀a∈ax O t,AOk us M.aa.ε P K a)/\(∀t,((ax O t).π lJ).Ω)/\(∀t,t<s->∀b,pF b (ax O t)=j7 (row t) λo=>pF b (ax M o))/\(∀t,t<s->dh O t=j7 (row t) (dh M))/\(∀t,s<=t->ax O t=[])/\(∀e∈O.ak,R.D P K e)/\O.bb<=s*C/\∀t,(ax O t).ε<=C
section
variable{us:List (List Nat)}{M:Mc R.α}{row:Nat->DR R}{P K C:Nat}{s:Nat}{O:Mc R.α}(ψ:Ai us M row P K C s O)
def Ai.lv:=@ψ.1
def Ai.st:=@ψ.2.1
def Ai.fs:=@ψ.2.2.1
def Ai.al:=@ψ.2.2.2.1
def Ai.nk:=@ψ.2.2.2.2.1
def Ai.ar:=@ψ.2.2.2.2.2.1
def Ai.ed:=@ψ.2.2.2.2.2.2.1
def Ai.nx:=@ψ.2.2.2.2.2.2.2.1
def Ai.eD:=@ψ.2.2.2.2.2.2.2.2.1
def Ai.c:=@ψ.2.2.2.2.2.2.2.2.2.1
def Ai.ln:=@ψ.2.2.2.2.2.2.2.2.2.2
end
def Bz(us:ζ (ζ θ))(M:Mc R.α)(row:θ->DR R)(P K C:θ)(s:θ)(sm:qL AK R)(ks:ζ AK)(O:Mc R.α):Prop:=O.aa.ε=M.aa.ε/\O.Ϟ=M.Ϟ/\O.lw=M.lw/\(∀t,t≠s->∀a∈ax O t,AOk us M.aa.ε P K a)/\(∀t,t≠s->((ax O t).π lJ).Ω)/\(∀t,t<s->∀b,pF b (ax O t)=j7 (row t) λo=>pF b (ax M o))/\(∀t,t<s->dh O t=j7 (row t) (dh M))/\(∀t,s<t->ax O t=[])/\(∀e∈O.ak,R.D P K e)/\O.bb<=s*C+(ax O s).ε/\BC us M.aa.ε P K sm ks (ax O s)/\∀t,t≠s->(ax O t).ε<=C
section
variable{us:List (List Nat)}{M:Mc R.α}{row:Nat->DR R}{P K C:Nat}{s:Nat}{sm:qL AK R}{ks:List AK}{O:Mc R.α}(ψ:Bz us M row P K C s sm ks O)
def Bz.lv:=@ψ.1
def Bz.st:=@ψ.2.1
def Bz.fs:=@ψ.2.2.1
def Bz.al:=@ψ.2.2.2.1
def Bz.nk:=@ψ.2.2.2.2.1
def Bz.ar:=@ψ.2.2.2.2.2.1
def Bz.ed:=@ψ.2.2.2.2.2.2.1
def Bz.nx:=@ψ.2.2.2.2.2.2.2.1
def Bz.eD:=@ψ.2.2.2.2.2.2.2.2.1
def Bz.c:=@ψ.2.2.2.2.2.2.2.2.2.1
def Bz.a:=@ψ.2.2.2.2.2.2.2.2.2.2.1
def Bz.ln:=@ψ.2.2.2.2.2.2.2.2.2.2.2
end
variable{C s:Nat}
def GX{t:θ}{w:Mc R.α}(hs:s<O.aa.ε)(e:w.aa=O.aa.Ϫ s xs):ax w t=if t=s then xs else ax O t:=by
 delta ax;rw[e];by_cases q:t=s
 ·refine eqB q ?_;rw[J6 hs,φ rfl];rfl
 ·rw[J7 (Kc q),τ q]
theorem Ai.Ϟ(H:Ai us M row P K C s O)(hp:ks.No (jK sm))(nd:(jK sm).Ω):Bz us M row P K C s sm ks O:=
 ⟨H.lv,H.st,H.fs,λt _=>H.al t,λt _=>H.nk t,H.ar,H.ed,λt h=>H.nx t (JN h),H.eD,Jn H.c (Jr _ _),(H.nx s (Jv _))▸BC.Ϟ hp nd,λt _=>H.ln t⟩
theorem Bz.fy(H:Bz us M row P K C s sm (k::ks) O)(hz:jP sm k=R.Κ):Bz us M row P K C s sm ks O:=⟨H.lv,H.st,H.fs,H.al,H.nk,H.ar,H.ed,H.nx,H.eD,H.c,H.a.fy hz,H.ln⟩
def Bz.put(H:Bz us M row P K C s sm (k::ks) O)(hs:s<M.aa.ε)(hz:jP sm k≠R.Κ)(hk:KOk us M.aa.ε k)(hd:R.D P K (jP sm k))(nd:k∉ks){w:Mc R.α}(ea:w.aa=O.aa.Ϫ s (ax O s++[mkA R k (jP sm k)]))(ee:w.ak=O.ak)(es:w.Ϟ=O.Ϟ)(ef:w.lw=O.lw)(ec:w.bb=O.bb+1):Bz us M row P K C s sm ks w:=by
 have ne:∀t,t≠s->ax w t=ax O t:=λt q=>(GX (H.lv▸hs) ea).ν (τ q);refine⟨by rw[ea,Zd];exact H.lv,es.ν H.st,ef.ν H.fs,λt q=>ne t q▸H.al t q,λt q=>ne t q▸H.nk t q,λt q=>ne t (ZG q)▸H.ar t q,λt q=>?_,λt q=>(ne t (Kb q)).ν (H.nx t q),ee▸H.eD,?_,((GX (H.lv▸hs) ea).ν (φ rfl))▸H.a.put hz hk hd nd,λt q=>ne t q▸H.ln t q⟩
 ·rw[<-H.ed t q];unfold dh;rw[ee]
 ·simp only[ec,((GX (H.lv▸hs) ea).ν (φ rfl)),Jx];exact Zf H.c
def Bz.ϫ(H:Bz us M row P K C s sm [] O)(hs:s<M.aa.ε)(lE:O.ak.ε=M.aa.ε)(hd:∀b,j7 sm b=j7 (row s) λo=>pF b (ax M o))(hc:sm.ε<=C){e:R.α}(he:e=j7 (row s) (dh M))(hD:R.D P K e){w:Mc R.α}(ea:w.aa=O.aa)(ee:w.ak=O.ak.Ϫ s e)(es:w.Ϟ=O.Ϟ)(ef:w.lw=O.lw)(ec:w.bb=O.bb):Ai us M row P K C (s+1) w:=by
 have ha:∀t,ax w t=ax O t:=λt=>by unfold ax;rw[ea]
 have ev:∀t,dh w t=if t=s then e else dh O t:=λt=>by
  delta dh;rw[ee];by_cases q:t=s
  ·refine eqB q ?_;rw[J6 (by rw[lE];exact hs),φ rfl];rfl
  ·rw[J7 (Kc q),τ q]
 refine⟨ea▸H.lv,es.ν H.st,ef.ν H.fs,λt=>ha t▸?_,λt=>ha t▸?_,λt q b=>ha t▸?_,λt q=>?_,λt q=>(ha t).ν (H.nx t q),λx hx=>?_,?_,λt=>ha t▸?_⟩
 ·by_cases q:t=s
  ·rw[q];exact H.a.al
  ·exact H.al t q
 ·by_cases q:t=s
  ·rw[q];exact H.a.nk
  ·exact H.nk t q
 ·by_cases q':t=s
  ·rw[q',H.a.done b,hd b]
  ·exact H.ar t (ZX (JY q) q') b
 ·rw[ev]
  by_cases q':t=s
  ·rw[φ q',q',he]
  ·rw[τ q'];exact H.ed t (ZX (JY q) q')
 ·rw[ee] at hx
  exact(Z8 hx).ι (H.eD x) λq=>q▸hD
 ·simp only[ec,θ.succ_mul]
  exact Jn H.c (Js (Jn H.a.n hc) _)
 ·by_cases q:t=s
  ·rw[q];exact Jn H.a.n hc
  ·exact H.ln t q
theorem Ai.whole(H:Ai us M row P K C M.aa.ε O)(hv:∀s,s<M.aa.ε->∀u l i j,i<=u.ε->j<=l.ε->j7 (row s) (rD M (Bv M u l) u l i j)=Bv M u l i j s):zdx M O row:=
 ⟨λs a h=>(H.al s a h).k.e,H.ar,H.ed,hv⟩
end
section
variable{us:List (List Nat)}{row:DR R}{P:Nat}
abbrev VX:=MH×θ×θ×θ×η ab×θ
section
variable(ψ:VX)
abbrev VX.h:=ψ.1
abbrev VX.D:=ψ.2.1
abbrev VX.w:=ψ.2.2.1
abbrev VX.o:=ψ.2.2.2.1
abbrev VX.ov:=ψ.2.2.2.2.1
abbrev VX.s:=ψ.2.2.2.2.2
end
def NH(X:VX)(L:Ly)(R:Rg)(M:Mc R.α)(row:DR R):Prop:=(∃h0 t,X.h=h0++t/\ao R h0 L M/\h0.ε<=X.D)/\X.D<X.h.ε/\(∃e,X.h[X.w]?=Qa (.Υ e (kX row)))/\X.w≠X.D
section
variable{X:VX}{L:Ly}{R:Rg}{M:Mc R.α}{row:DR R}(ψ:NH X L R M row)
def NH.I:=@ψ.1
def NH.D:=@ψ.2.1
def NH.w:=@ψ.2.2.1
def NH.ne:=@ψ.2.2.2
end
structure VS(R:Rg) where
 g:MH
 sm:qL AK R
 c:θ
 e:R.α
 a:η ab:=Qd
 b:η ab:=Qd
 k:η ab:=Qd
def Dm(X:VX)(L:Ly)(R:Rg)(s:VS R):Ψ.Λ:=Qa (.ξ L.m)::Qa (.aj (112+R.i))::X.ov::Qa (.ξ X.o)::Qa (.Β (X.s:θ))::Qa (.ξ X.w)::Qa (.ξ X.D)::Qa (R.e s.e)::s.a::s.b::s.k::nn 6
def VP(X:VX)(us:ζ (ζ θ))(M:Mc R.α)(row:DR R)(P K N:θ)(f:R.α)(xs:ζ (Ar R.α))(os:ζ θ)(s:VS R):Prop:=(∃ep,s.g=X.h.Ϫ X.D (.Υ ep (j5 kD s.sm)))/\Bw us M row P K N f xs os s.c s.sm
section
variable{X:VX}{us:List (List Nat)}{M:Mc R.α}{row:DR R}{P K N:Nat}{f:R.α}{xs:List (Ar R.α)}{os:List Nat}{s:VS R}(ψ:VP X us M row P K N f xs os s)
def VP.g:=@ψ.1
def VP.S:=@ψ.2
end
abbrev veA:ζ Sm:=[.ite (.not (.bc (.Ο 9) 7598521885536580729 [])) [.ft (.nm 10) (.ay [.aq (.Ο 9) 504397587826,.aq (.Ο 9) 465726563698,.aq (.Ο 9) 127961880028532]),.ft (.sb (.Ο 6) (.Ο 10)) (.bc (.Ο 1) tn [.bc (.Ο 6) 6776180 [.Ο 10,.aq (.Ο 1) oi],.bc (.Ο 1) pd [.Ix (.Ο 5) (.Ο 8),.aq (.Ο 9) 131277443786868]])] []]
variable{X:VX}
theorem NH.at{m:ae}(e:X.h[a]?=Qa o)(n:a≠X.D):(X.h.Ϫ X.D m)[a]?=Qa o:=jZ (Kc n) e
def zba{a:Ar R.α}{b o:θ}{s:VS R}(hd:5<=d)(O:NH X L R M row)(ho:o∈jK row)(hb:X.h[b]?=Qa (mW R a))(nb:b≠X.D)(hk:a.di=Qc->KOk us M.aa.ε (lJ a))(hD:∀c,R.D P (K+c) (R.ss (jP row o) a.w)){q:θ}(d1:R.D p q (jP row o))(d2:R.D p' k' a.w)(hl:4*(p+p')+(q+k')<=3800)(hL:4*P+(K+N+1)<=3800)(hN:N<=900)
  (S:VP X us M row P K N (jP row o) (a::xs) os s) (ha:s.a=vN o) (hb':s.b=vR b)
  (q1:∀s':VS R,s'.a=vN o->s'.e=s.e->VP X us M row P K N (jP row o) xs os s'->R' .nx (Dm X L R s') s'.g):ck (ah P0 d) veA (Dm X L R s) s.g R':=by
 obtain⟨ep,eg⟩:=S.g;obtain⟨g,sm,c,e,a0,b0,k⟩:=s
 dsimp only at eg ha hb'
 refine eqB eg ?_;refine eqB ha ?_;refine eqB hb' ?_;have hB:=NH.at (m:=.Υ ep (j5 kD sm)) hb nb;obtain⟨ew,hw⟩:=O.w;have hS:(X.h.Ϫ X.D (.Υ ep (j5 kD sm)))[X.D]?=Qa (.Υ ep (j5 kD sm)):=J6 O.D;refine vL a.di (λhe=>?_) λhe=>?_
 ·exact j6 (.p (WD (Jn (by decide) hd:1<=d) hB)<|.c<|.f ((by rw[he];rfl:(!a.di)=Qc))<|.z (q1 ⟨X.h.Ϫ X.D (.Υ ep (j5 kD sm)),sm,c,e,vN o,vR b,k⟩ rfl rfl ⟨⟨ep,rfl⟩,S.S.fy he⟩)) (by kernel_rfl)
 ·have H:=S.S
  obtain⟨ep',e1⟩:=SU (T:=kD) (j:=lJ a) (R.am (jP sm (lJ a)) (R.ss (jP row o) a.w)) hS H.nd (Jn H.n (Jn (Jn (Jr _ _) H.c) (Jn hN (by decide))):sm.ε<=1000);rw[qaV] at e1;exact j6 (.p (WD (Jn (by decide) hd:1<=d) hB)<|.c<|.t ((by rw[he];rfl:(!a.di)=Qe))<|.v (qv hB)<|.v (rp hB)<|.v (ro hB)<|.w (R.no)<|.p (zaq (T:=kD) (ah P0 d) hS (lJ a))<|.v (sR (NH.at (m:=.Υ ep (j5 kD sm)) hw O.ne) ho)<|.v (yk hB)<|.q (R.ti (Jn (by decide) hd) d1 d2 hl)<|.q (R.pl (Jn (by decide) hd) (CX H.dg (lJ a)) (hD c) (Jn (Js (Js (Jn (Jr _ _) H.c) K:K+c<=K+N) _) (Jn (by lia) hL)))<|.h (e1)<|.z (q1 ⟨X.h.Ϫ X.D (.Υ ep' (j5 kD (rN sm (lJ a) (R.am (jP sm (lJ a)) (R.ss (jP row o) a.w))))),rN sm (lJ a) (R.am (jP sm (lJ a)) (R.ss (jP row o) a.w)),c+1,e,vN o,vR b,Qa (kD.v (lJ a))⟩ rfl rfl ⟨⟨ep',rfl⟩,H.put he (hk he) (hD c)⟩)) (by kernel_rfl)
end
section
variable{us:List (List Nat)}{row:DR R}{q:Nat}{X:VX}
def NH.im(O:NH X L R M row)(m:ae):ao R (X.h.Ϫ X.D m) L M:=by
 obtain⟨h0,t,e,I,hl⟩:=O.I;rw[e,pU hl];exact I.cq
def VG(us:ζ (ζ θ))(M:Mc R.α)(row:DR R)(p q p' k' N:θ):Prop:=(∀o,∀a∈ax M o,a.di=Qc->KOk us M.aa.ε (lJ a))/\(∀o,∀a∈ax M o,R.D p' k' a.w)/\(∀o∈jK row,R.D p q (jP row o))/\(∀o∈jK row,o<M.aa.ε)/\(∀o,R.D p' k' (dh M o))/\4*(p+p')+(q+k'+N+1)<=3800/\N<=900/\M.aa.ε<=60
section
variable{us:List (List Nat)}{M:Mc R.α}{row:DR R}{p q p' k' N:Nat}(ψ:VG us M row p q p' k' N)
def VG.k:=@ψ.1
def VG.w:=@ψ.2.1
def VG.r:=@ψ.2.2.1
def VG.n:=@ψ.2.2.2.1
def VG.e:=@ψ.2.2.2.2.1
def VG.b:=@ψ.2.2.2.2.2.1
def VG.N:=@ψ.2.2.2.2.2.2.1
def VG.l:=@ψ.2.2.2.2.2.2.2
end
def Oq{o:θ}{f:R.α}{s:VS R}(hd:5<=d)(O:NH X L R M row)(G:VG us M row p q p' k' N)(ho:o∈jK row)(S:VP X us M row (p+p') (q+k') N f [] (o::os) s)(ha:s.a=vN o):
  ∃s':VS R,(s'.a=vN o/\s'.e=s.e/\VP X us M row (p+p') (q+k') N (jP row o) [] os s')/\exec (ah P0 d) (.fo [9] Qc (.Ix (.aq (.Ο 0) 1634886515) (.Ο 8)) veA) (Dm X L R s) s.g=Qa ((.nx,Dm X L R s'),s'.g):=by
 obtain⟨h0,t,eh,I,hl⟩:=O.I;obtain⟨r,as,z1,z2,z3⟩:=I.mu (G.n o ho);have up:∀{a:θ}{ob m:ae},h0[a]?=Qa ob->(X.h.Ϫ X.D m)[a]?=Qa ob:=λ{a ob m} e=>by
  rw[eh,pU hl];exact jH e
 obtain⟨g,sm,c,e,a0,b0,k⟩:=s;obtain⟨ep,eg⟩:=S.g
 dsimp only at eg ha
 subst eg;refine eqB ha ?_;refine(pv (c:=ah P0 d) (tg:=[9]) (many:=Qc) (a:=r) (e:=.Ix (.aq (.Ο 0) 1634886515) (.Ο 8)) (b:=veA) (vs:=as.π .ξ) (Dm X L R) VS.g (λj s'=>s'.a=vN o/\s'.e=e/\VP X us M row (p+p') (q+k') N (jP row o) ((ax M o).jp j) os s') ⟨X.h.Ϫ X.D (.Υ ep (j5 kD sm)),sm,c,e,vN o,b0,k⟩ (z2.le I z3) rfl (λj s' T2=>?_) (by exact kO (.v (oD (O.im (.Υ ep (j5 kD sm))))<|.v (sl (O.im (.Υ ep (j5 kD sm))).aa z1)<|.z (cn (.ξ r) (X.h.Ϫ X.D (.Υ ep (j5 kD sm))))) (by kernel_rfl)) ⟨rfl,rfl,(⟨S.g,S.S.ϫ⟩:VP X us M row (p+p') (q+k') N (jP row o) ((ax M o).jp 0) os ⟨X.h.Ϫ X.D (.Υ ep (j5 kD sm)),sm,c,e,vN o,b0,k⟩)⟩ λj v s' R2 _ hv T2 C2=>?_).ι λs' e=>⟨s',⟨e.1.1,e.1.2.1,by have:=e.1.2.2;rwa [z2.n,ZS] at this⟩,e.2⟩
 ·obtain⟨ep',eg'⟩:=T2.2.2.g
  rw[eg'];exact up z2.l
 ·obtain⟨b,x,e1,e2,e3⟩:=z2.a j v hv
  refine eqB e1 ?_;have hx:=Jt e2;have hb:X.h[b]?=Qa (mW R x):=by rw[eh];exact jH e3
  obtain⟨hj,hjx⟩:=Jy.mp e2;have ed:(ax M o).jp j=x::(ax M o).jp (j+1):=by rw[ZK hj,hjx]
  have T3:=T2.2.2;rw[ed] at T3;exact lI (zba (s:={s' with b:=vR b}) hd O ho hb (ZG (Ju (jR e3) hl):b≠X.D) (G.k o x hx) (λc=>R.af (Jv _) (Jr _ _) (R.fc (G.r o ho) (G.w o x hx))) (G.r o ho) (G.w o x hx) (Jn (by lia) G.b) (Jn (by lia) G.b) G.N ⟨T3.g,T3.S⟩ T2.1 rfl λs2 f1 f2 f3=>C2.nx s2 ⟨f1,f2.ν T2.2.1,f3⟩)
end
def zfC{c:Cx}{b:ζ Sm}(F:σ->Ψ.Λ)(G:σ->MH)(P:θ->σ->Prop)(s0:σ)(hn:vs.ε<=100000)(hc:c.ba=200000)
  (hk:∀i s,P i s->(G s)[a]?=Qa (.ο vs)) (e0:WE c (F s0) e g0 λv g=>v=.ξ a/\g=G s0) (p0:P 0 s0)
  (step:∀i v s R' R,vs[i]?=Qa v->P i s->To F G (P (i+1)) R R'->Wo (nW (F s) tg many v) λfr1=>ck c b fr1 (G s) R'):∃s,P vs.ε s/\exec c (.fo tg many e b) (F s0) g0=Qa ((.nx,F s),G s):=by
 have w:WS c (.fo tg many e b) (F s0) g0 λfl f g=>∃s,P vs.ε s/\fl=.nx/\f=F s/\g=G s:=
  rY F G P (by rw[hc];exact Ju (JO hn) (JC _ _)) s0 hk (e0.Τ λv g q=>⟨q.1,rfl,q.2,p0⟩) (λi v s R' hi hp T=>step i v s R' _ hi hp T) λs hp=>⟨s,hp,rfl,rfl,rfl⟩
 obtain⟨⟨fl,f⟩,g,e,s,hp,q1,q2,q3⟩:=W.Mi w;refine eqE q1 ?_;subst q2;subst q3;exact⟨s,hp,e⟩
section
variable{us:List (List Nat)}{row:DR R}{q:Nat}{X:VX}
def zgH(row:DR R)(M:Mc R.α)(os:ζ θ):R.α:=nK (os.π λo=>R.ss (jP row o) (dh M o))
def VQ(X:VX)(us:ζ (ζ θ))(M:Mc R.α)(row:DR R)(p q p' k' N:θ)(os:ζ θ)(j:θ)(s:VS R):Prop:=(∃f,VP X us M row (p+p') (q+k') N f [] os s)/\R.am s.e (zgH row M os)=j7 row (dh M)/\R.D (p+p') (q+k'+j) s.e
section
variable{X:VX}{us:List (List Nat)}{M:Mc R.α}{row:DR R}{p q p' k' N:Nat}{os:List Nat}{j:Nat}{s:VS R}(ψ:VQ X us M row p q p' k' N os j s)
def VQ.f:=@ψ.1
def VQ.e:=@ψ.2.1
def VQ.d:=@ψ.2.2
end
abbrev veO:ζ Sm:=[.ft (.nm 7) (.bc (.Ο 1) tn [.Ο 7,.bc (.Ο 1) pd [.Ix (.Ο 5) (.Ο 8),.Ix (.aq (.Ο 0) 1701733491) (.Ο 8)]]),.fo [9] Qc (.Ix (.aq (.Ο 0) 1634886515) (.Ο 8)) veA]
def ziV(he:M.ak.ε=M.aa.ε){o:θ}(ho:o<M.aa.ε):(M.ak.π R.e)[o]?=Qa (R.e (dh M o)):=by
 delta dh;refine(JE).ν ?_;rw[Jp (he▸ho)];rfl
def B3{o:θ}{j:θ}{s:VS R}(hd:5<=d)(O:NH X L R M row)(G:VG us M row p q p' k' N)(hb:4*(p+p')+(q+k'+61)<=3800)(ho:o∈jK row)(hj:j<=60)(S:VQ X us M row p q p' k' N (o::os) j s)(ha:s.a=vN o)
  (q1:∀s':VS R,VQ X us M row p q p' k' N os (j+1) s'->R' .nx (Dm X L R s') s'.g):ck (ah P0 d) veO (Dm X L R s) s.g R':=by
 obtain⟨f,F⟩:=S.f;obtain⟨g,sm,c,e,a0,b0,k⟩:=s;obtain⟨ep,eg⟩:=F.g;have Sd:=S.d;have Se:=S.e
 dsimp only at eg ha Sd Se
 subst eg;refine eqB ha ?_;have im:=O.im (.Υ ep (j5 kD sm));obtain⟨ew,hw⟩:=O.w;have dm:=R.fc (G.r o ho) (G.e o);obtain⟨s',t1,t2⟩:=Oq (d:=d) hd O G ho (⟨F.g,F.S⟩:VP X us M row (p+p') (q+k') N f [] (o::os) ⟨X.h.Ϫ X.D (.Υ ep (j5 kD sm)),sm,c,R.am e (R.ss (jP row o) (dh M o)),vN o,b0,k⟩) rfl;have N':VQ X us M row p q p' k' N os (j+1) s':=⟨⟨_,t1.2.2⟩,by
  rw[t1.2.1,<-Se];rw[R.Ϣ];rfl,by
  rw[t1.2.1];exact R.fm Sd (R.af (Jv _) (Jr _ _) dm)⟩
 exact j6 (.v (sR (NH.at (m:=.Υ ep (j5 kD sm)) hw O.ne) ho)<|.v (Wz im)<|.v (sl im.ak (ziV im.fg (G.n o ho)))<|.q (R.ti (Jn (by decide) hd) (G.r o ho) (G.e o) (Jn (by lia) hb))<|.q (R.pl (Jn (by decide) hd) Sd (R.af (Jv _) (Jr _ _) dm) (Jn (by lia) hb))<|.s (t2)<|.z (q1 s' N')) (by kernel_rfl)
end
section
variable{us:List (List Nat)}{row:DR R}{q:Nat}{X:VX}
abbrev VK(row:DR R):ae:=.ο ((j2 row).π λn:θ=>.Β (n:Φ))
def za9{ep:η θ}{a0:η ab}(hd:5<=d)(O:NH X L R M row)(G:VG us M row p q p' k' N)(hb:4*(p+p')+(q+k'+61)<=3800)(eX:X.h=g0++[VK row])(hw:∃e,g0[X.w]?=Qa (.Υ e (kX row)))(hD:g0[X.D]?=Qa (.Υ ep []))(nd:(jK row).Ω)(ne:row≠[])(hl:row.ε<=60)(hN:Wl M (j2 row)<=N):
  ∃s':VS R,VQ X us M row p q p' k' N [] (j2 row).ε s'/\exec (ah P0 d) (.fo [8] Qc (.bn (.py (.bi 126922498794852)) [.Ο 5]) veO) (Dm X L R ⟨g0,[],0,R.Κ,a0,b0,k0⟩) g0=Qa ((.nx,Dm X L R s'),s'.g):=by
 obtain⟨ew,hw⟩:=hw;have hX:X.h[X.D]?=Qa (.Υ ep (j5 kD ([]:qL AK R))):=by rw[eX];exact jH hD
 have hle:(j2 row).ε<=60:=by rw[kC.u8];exact Jn (JF (Jq ..)) hl
 have s0:X.h=X.h.Ϫ X.D (.Υ ep (j5 kD ([]:qL AK R))):=by
  obtain⟨h1,h2⟩:=Jy.mp hX;simp only[<-h2,Yq]
 have P0':VQ X us M row p q p' k' N ((j2 row).jp 0) 0 ⟨X.h,[],0,R.Κ,a0,b0,k0⟩:=
  ⟨⟨R.Κ,⟨ep,s0⟩,Bw.Ϟ kC nd hN⟩,(R.Χ _).ν (qA kC nd),R.af (JB _) (JB _) R.bq⟩
 have e0:WE (ah P0 d) (Dm X L R ⟨X.h,[],0,R.Κ,a0,b0,k0⟩) (.bn (.py (.bi 126922498794852)) [.Ο 5]) g0 λv g=>v=.ξ g0.ε/\g=X.h:=by
  rw[eX];exact kO (.p (cA (ah P0 d) hw hl)<|.z (cn (.ξ g0.ε) (g0++[VK row]))) (by kernel_rfl)
 refine(zfC (c:=ah P0 d) (tg:=[8]) (many:=Qc) (a:=g0.ε) (b:=veO) (vs:=(j2 row).π λn:θ=>.Β (n:Φ)) (Dm X L R) VS.g (λj s'=>VQ X us M row p q p' k' N ((j2 row).jp j) j s') ⟨X.h,[],0,R.Κ,a0,b0,k0⟩ (by rw[Jq];exact Jn hle (by decide)) rfl (λj s' T=>?_) e0 P0' λj v s' R2 _ hv T C=>?_).ι λs' e=>⟨s',by have:=e.1;rwa [Jq,ZS] at this,e.2⟩
 ·obtain⟨f,F⟩:=T.f
  obtain⟨ep',eg⟩:=F.g;rw[eg];exact jZ (ZG (jR hD)) (by rw[eX];exact Zi)
 ·obtain⟨o,ho,rfl⟩:=Zm.mp (by rwa [JE] at hv)
  obtain⟨hj,hjx⟩:=Jy.mp ho;have ed:(j2 row).jp j=o::(j2 row).jp (j+1):=by rw[ZK hj,hjx]
  rw[ed] at T;obtain⟨f,F⟩:=T.f;exact lI (B3 (s:={s' with a:=vN o}) hd O G hb (kC.tz.mp (Jt ho)) (JN (Ju hj hle)) ⟨⟨f,F.g,F.S⟩,T.e,T.d⟩ rfl λs2 q=>C.nx s2 q)
def VQ.sm{s:VS R}{j:θ}(S:VQ X us M row p q p' k' N [] j s):(∃ep,s.g=X.h.Ϫ X.D (.Υ ep (j5 kD s.sm)))/\(∀b,j7 s.sm b=j7 row λo=>pF b (ax M o))/\(jK s.sm).Ω/\(∀k∈jK s.sm,KOk us M.aa.ε k)/\(∀x∈s.sm,R.D (p+p') (q+k'+N) x.2)/\s.sm.ε<=N/\s.e=j7 row (dh M):=by
 obtain⟨f,F⟩:=S.f;have hc:s.c<=N:=Jn (Jr _ _) F.S.c;refine⟨F.g,?_,F.S.nd,F.S.ky,λx hx=>R.af (Jv _) (Js hc _) (F.S.dg x hx),Jn F.S.n hc,(R.ut _).Μ.ν S.e⟩;intro b
 have:=F.S.ev b
 rw[<-this];show _=R.am (j7 s.sm b) (R.am (R.ss f R.Κ) R.Κ);rw[R.xL,R.Χ,R.ut]
end
theorem ziS(z:Cx){ep:η θ}{sm:qL AK R}(ha:g[a]?=Qa (.Υ ep (j5 kD sm)))(hl:sm.ε<=60):∃ks:ζ AK,ks.No (jK sm)/\jO z (.bi tO) [.ξ a] g=Qa (.ξ g.ε,g++[.ο (ks.π kD.v)]):=
 ⟨_,xN _,zcU z (f:=kD.v) ((kvD ha).ν (by delta j5 jK;rw[KN,KN];rfl)) (Jn (JF (Jq ..)) hl) (.IO ⟨[Qe,Qc],λ_=>⟨rfl,rfl⟩⟩)⟩
section
variable{us:List (List Nat)}{row:Nat->DR R}{KK C:Nat}{X:VX}
abbrev veK:ζ Sm:=[.expr (.bc (.Ο 3) 6386275 [.Ο 4,.Ix (.Ο 10) (.py (.Β 0)),.Ix (.Ο 10) (.py (.Β 1)),.Ix (.Ο 6) (.Ο 10),.Ix (.Ο 10) (.py (.Β 2))])]
theorem sT{ep:η θ}{sm:qL AK R}{k:AK}(ha:g[a]?=Qa (.Υ ep (j5 kD sm)))(hk:k∈jK sm):kR g (.ξ a) (.ay [.Ϥ k.1,.Ϥ k.2.1,.Β (k.2.2:θ)])=Qa (R.e (jP sm k)):=sd ha (rA (T:=kD) (j:=k)) ((tV (T:=kD) (j:=k)).ν (φ hk))
abbrev veX(X:VX)(lst:θ)(ep:η θ)(sm:qL AK R)(ks:ζ AK):ζ (θ×ae):=[(X.D,.Υ ep (j5 kD sm)),(lst,.ο (ks.π kD.v))]
def Oo{ep:η θ}{sm:qL AK R}{ks:ζ AK}{O:Mc R.α}{s:VS R}(hd:6<=d)(H:Mk R h s.g X.o O (veX X g0.ε ep sm ks))(J:Bz us M row PP KK C X.s sm ks O)(hs:X.s<M.aa.ε)(nk:ks.Ω)(hp:ks.No (jK sm))(hk:∀k∈jK sm,KOk us M.aa.ε k)(hD:∀k∈jK sm,R.D PP KK (jP sm k))(lb:∀u∈us,dp u)(bd:4*PP+KK<=3800)(hC:X.s*C+sm.ε<100000)(hl:sm.ε<=60)
  (e0:WE (ah P0 d) (Dm X L R s) (.bn (.py (.bi 126922498794852)) [.Ο 6]) g0 λv g=>v=.ξ g0.ε/\g=s.g):
  ∃x:VS R×Mc R.α,(Mk R h x.1.g X.o x.2 (veX X g0.ε ep sm ks)/\Bz us M row PP KK C X.s sm [] x.2/\x.1.e=s.e)/\exec (ah P0 d) (.fo [10] Qc (.bn (.py (.bi 126922498794852)) [.Ο 6]) veK) (Dm X L R s) g0=Qa ((.nx,Dm X L R x.1),x.1.g):=by
 refine(zfC (c:=ah P0 d) (tg:=[10]) (many:=Qc) (a:=g0.ε) (b:=veK) (vs:=ks.π kD.v) (λx:VS R×Mc R.α=>Dm X L R x.1) (λx=>x.1.g) (λj x=>Mk R h x.1.g X.o x.2 (veX X g0.ε ep sm ks)/\Bz us M row PP KK C X.s sm (ks.jp j) x.2/\x.1.e=s.e) (s,O) (by rw[Jq,hp.u8];exact Jn (JF (Jq ..)) (Jn hl (by decide))) rfl (λj x T=>T.1.ob (.pc _ (.mo _))) e0 ⟨H,J,rfl⟩ λj v x R2 _ hv T C2=>?_).ι λx e=>⟨x,by have:=e.1;rwa [Jq,ZS] at this,e.2⟩;obtain⟨k,ho,rfl⟩:=Zm.mp (by rwa [JE] at hv);obtain⟨hj,hjx⟩:=Jy.mp ho;have ed:ks.jp j=k::ks.jp (j+1):=by rw[ZK hj,hjx]
 have kin:=hp.tz.mp (Jt ho);have ok:=hk k kin;have T2:=T.2.1;rw[ed] at T2;have nd:k∉ks.jp (j+1):=by
  have:=nk.sublist (ζ.drop_sublist j ks)
  rw[ed] at this;exact(JH.mp this).1
 obtain⟨v,g,e,rfl,M',q1,q2⟩:=W.Mi (IY (d:=d) (Q:=λv g=>v=.Ε/\∃M',Mk R h g X.o M' (veX X g0.ε ep sm ks)/\Bz us M row PP KK C X.s sm (ks.jp (j+1)) M') (s:=X.s) (a:=mkA R k (jP sm k)) (Jn (by decide) hd) T.1 (by rw[T2.lv];exact hs) (by rw[T2.lv];exact ok.t) (lb _ ok.u.1) (lb _ ok.u.2) (hD k kin) bd (Jw T2.c (Jw (Js (Jn (Jr _ _) T2.a.n) _) hC):x.2.bb<100000) λg' M' H' e1 e2=>⟨rfl,M',H',by
  cases hz:R.gk (jP sm k) R.Κ with
  |isTrue z=>rw[e1 z];exact T2.fy z
  |isFalse z=>rw[e2 z];exact T2.put hs z ok (hD k kin) nd rfl rfl rfl rfl rfl⟩)
 refine lI ?_;exact j6 (.c2<|.v (sT (T.1.ob (.mo _:(X.D,ae.Υ ep (j5 kD sm))∈veX X g0.ε ep sm ks)) kin)<|.c<|.p (e)<|.z (C2.nx (⟨g,x.1.sm,x.1.c,x.1.e,x.1.a,x.1.b,Qa (kD.v k)⟩,M') ⟨q1,q2,T.2.2⟩)) (by kernel_rfl)
end
section
variable{O:Mc R.α}{us:List (List Nat)}{t:MH}{X:List (Nat×ae)}
def Mk.grow(H:Mk R h g m M X)(hx:∀p∈X',(g++t)[p.1]?=Qa p.2/\g.ε<=p.1):Mk R h (g++t) m M X':=by
 obtain⟨L,e,I,ho,_⟩:=H.x;obtain⟨t0,e0⟩:=H.Tr;refine⟨⟨L,e,I.cq,ho,λp hp=>⟨(hx p hp).1,λq=>?_⟩⟩,⟨t0++t,by rw[e0,JA]⟩⟩;exact ς (I.mx q) (Z9.ϥ (hx p hp).2)
end
section
variable{O:Mc R.α}{us:List (List Nat)}{row:Nat->DR R}{q KK C:Nat}
abbrev veT:ζ Sm:=[.ft (.nm 6) (.Υ []),.ft (.nm 7) (.aq (.Ο 1) oi),.fo [8] Qc (.bn (.py (.bi 126922498794852)) [.Ο 5]) veO,.fo [10] Qc (.bn (.py (.bi 126922498794852)) [.Ο 6]) veK,.expr (.bc (.Ο 3) 6647396 [.Ο 4,.Ο 7])]
def vtF(L:Ly)(R:Rg)(ov:η ab)(o s:θ)(a5 a6 a7 a8 a9 a10:η ab):Ψ.Λ:=Qa (.ξ L.m)::Qa (.aj (112+R.i))::ov::Qa (.ξ o)::Qa (.Β (s:θ))::a5::a6::a7::a8::a9::a10::nn 6
def Aw{ov:η ab}{o w:θ}(hd:6<=d)(I:ao R h L M)(H:Mk R h g o O [])(J:Ai us M row (p+p') KK C s O)(hs:s<M.aa.ε)(hw:∃e,g[w]?=Qa (.Υ e (kX (row s))))(G:VG us M (row s) p q p' k' N)(nd:(jK (row s)).Ω)(ne:row s≠[])(hl:(row s).ε<=60)(hN:Wl M (j2 (row s))<=N)(hN6:N<=60)(hNC:N<=C)(hK:q+k'+N<=KK)(hK2:q+k'+(row s).ε<=KK)(hb:4*(p+p')+(q+k'+61)<=3800)(bd:4*(p+p')+KK<=3800)(lb:∀u∈us,dp u)(hC:s*C+N<100000)
  (q1:∀g' O' a6 a7 a8 a9 a10,Mk R h g' o O' []->Ai us M row (p+p') KK C (s+1) O'->R' .nx (vtF L R ov o s (vR w) a6 a7 a8 a9 a10) g'):ck (ah P0 d) veT (vtF L R ov o s (vR w) a6 a7 a8 a9 a10) g R':=by
 obtain⟨ew,hw⟩:=hw;obtain⟨t0,e0⟩:=H.Tr;obtain⟨s1,S1,x1⟩:=za9 (X:=⟨g++[.Υ (Qa 0) []]++[VK (row s)],g.ε,w,o,ov,s⟩) (g0:=g++[.Υ (Qa 0) []]) (ep:=Qa 0) (a0:=a8) (b0:=a9) (k0:=a10) (d:=d) (Yb hd) (show NH ⟨g++[.Υ (Qa 0) []]++[VK (row s)],g.ε,w,o,ov,s⟩ L R M (row s) from⟨⟨h,t0++[.Υ (Qa 0) []]++[VK (row s)],by show g++_++_=_;rw[e0,JA,JA,JA],I,by show h.ε<=g.ε;rw[e0,Jx];exact Jr _ _⟩,by show g.ε<_;rw[Jx,Jx];exact Ju (JR _) (Jr _ _),⟨ew,jH (jH hw)⟩,ZG (jR hw)⟩) G hb rfl ⟨ew,jH hw⟩ (Zi) nd ne hl hN;obtain⟨⟨ep1,eg⟩,hdot,nds,hky,hdg,hlen,he⟩:=S1.sm;have eg2:s1.g=g++[.Υ ep1 (j5 kD s1.sm),VK (row s)]:=by
  simp only[eg];rw[JA,pU (Jv _),YS];rfl
 have hD1:s1.g[g.ε]?=Qa (.Υ ep1 (j5 kD s1.sm)):=by rw[eg2,Ko (Jv _),YS];rfl
 obtain⟨ks,hp,eS⟩:=ziS (ah P0 d) hD1 (Jn hlen hN6);have hgl:g.ε<=s1.g.ε:=by rw[eg2,Jx];exact Jr _ _
 have H2:Mk R h (s1.g++[.ο (ks.π kD.v)]) o O (veX ⟨g++[.Υ (Qa 0) []]++[VK (row s)],g.ε,w,o,ov,s⟩ s1.g.ε ep1 s1.sm ks):=by
  have:=Mk.grow (t:=[.Υ ep1 (j5 kD s1.sm),VK (row s)]++[.ο (ks.π kD.v)]) (X':=veX ⟨g++[.Υ (Qa 0) []]++[VK (row s)],g.ε,w,o,ov,s⟩ s1.g.ε ep1 s1.sm ks) H λx hx=>by
   rw[<-JA,<-eg2];rcases JM.mp hx with rfl|hx
   ·exact⟨jH hD1,Jv _⟩
   ·rw[JD.mp hx]
    exact⟨Zi,hgl⟩
  rwa [<-JA,<-eg2] at this
 obtain⟨x,⟨H3,J3,e3⟩,x2⟩:=Oo (X:=⟨g++[.Υ (Qa 0) []]++[VK (row s)],g.ε,w,o,ov,s⟩) (L:=L) (s:={s1 with g:=s1.g++[.ο (ks.π kD.v)]}) (g0:=s1.g) hd H2 (J.Ϟ hp nds) hs (hp.nodup_iff.ϥ nds) hp hky (λk hk=>R.af (Jv _) hK (hdg _ (oS hk)):∀k∈jK s1.sm,R.D (p+p') KK (jP s1.sm k)) lb bd (Jw (Js hlen _) hC:s*C+s1.sm.ε<100000) (Jn hlen hN6) (by exact kO (.p (eS)<|.z (cn (.ξ s1.g.ε) (s1.g++[.ο (ks.π kD.v)]))) (by kernel_rfl));have eD:R.D (p+p') KK x.1.e:=by
  simp only[e3];exact R.af (Jv _) (Jn (Js (by rw[kC.u8];exact JF (Jq ..)) _) hK2) S1.d
 obtain⟨L3,_,I3,_⟩:=H3.x;refine xEA (IX (d:=d) (Jn (by decide) hd) H3 (by rw[J3.lv];exact hs) eD bd) λg' e4 H4=>?_;have J4:Ai us M row (p+p') KK C (s+1) {x.2 with ak:=x.2.ak.Ϫ s x.1.e}:=J3.ϫ hs (I3.fg.ν J3.lv:x.2.ak.ε=M.aa.ε) hdot (Jn hlen hNC) (e3.ν he) eD rfl rfl rfl rfl rfl;exact j6 (.c<|.w (R.no)<|.s (x1)<|.s (x2)<|.p (e4)<|.z (q1 g' {x.2 with ak:=x.2.ak.Ϫ s x.1.e} (vR g.ε) (Qa (R.e x.1.e)) x.1.a x.1.b x.1.k H4.jp.jp J4)) (by kernel_rfl)
end
section
variable{O:Mc R.α}{us:List (List Nat)}{row:Nat->DR R}{q KK C:Nat}
abbrev B4:ζ Sm:=[.ft (.nm 5) (.Υ [.Ο 4,.aq (.Ο 1) 7302757]),.ite (.gm .ja (.Ο 2) (.py .Ε)) [.ft (.nm 5) (.Ix (.Ο 2) (.Ο 4))] []]
structure OvR(R:Rg)(h:MH)(n:θ)(row:θ->DR R)(ov:ab):Prop where
 x:(ov=.Ε/\∀s,s<n->row s=[(s,R.cw)])\/∃(aT:θ)(rs:ζ θ),ov=.ξ aT/\h[aT]?=Qa (.ο (rs.π .ξ))/\∀s,s<n->∃r e,rs[s]?=Qa r/\h[r]?=Qa (.Υ e (kX (row s)))
def B2{o:θ}(hd:6<=d)(I:ao R h L M)(V:OvR R h M.aa.ε row ov)(H:Mk R h g o O [])(J:Ai us M row (p+p') KK C s O)(hs:s<M.aa.ε)(G:VG us M (row s) p q p' k' N)(nd:(jK (row s)).Ω)(ne:row s≠[])(hl:(row s).ε<=60)(hN:Wl M (j2 (row s))<=N)(hN6:N<=60)(hNC:N<=C)(hK:q+k'+N<=KK)(hK2:q+k'+(row s).ε<=KK)(hb:4*(p+p')+(q+k'+61)<=3800)(bd:4*(p+p')+KK<=3800)(lb:∀u∈us,dp u)(hC:s*C+N<100000)
  (q1:∀g' O' a5 a6 a7 a8 a9 a10,Mk R h g' o O' []->Ai us M row (p+p') KK C (s+1) O'->R' .nx (vtF L R (Qa ov) o s a5 a6 a7 a8 a9 a10) g'):ck (ah P0 d) (B4++veT) (vtF L R (Qa ov) o s a5 a6 a7 a8 a9 a10) g R':=by
 refine mP ?_;have H1:Mk R h (g++[.Υ (Qa 1) (kX [(s,R.cw)])]) o O []:=H.grow λ_ hx=>ς hx Jz;rcases V.x with ⟨rfl,hr⟩| ⟨aT,rs,rfl,hT,hr⟩
 ·have hw:(g++[ae.Υ (Qa 1) (kX [(s,R.cw)])])[g.ε]?=Qa (.Υ (Qa 1) (kX (row s))):=by rw[hr s hs];exact Zi
  exact j6 (.w (R.on)<|.c3<|.z ((Aw (ov:=Qa .Ε) (a6:=a6) (a7:=a7) (a8:=a8) (a9:=a9) (a10:=a10) (d:=d) hd I H1 J hs ⟨_,hw⟩ G nd ne hl hN hN6 hNC hK hK2 hb bd lb hC λg' O' a6 a7 a8 a9 a10=>q1 g' O' _ a6 a7 a8 a9 a10))) (by kernel_rfl)
 ·obtain⟨r,e,e1,e2⟩:=hr s hs
  exact j6 (.w (R.on)<|.c3<|.v ((sl (i:=s) (H1.up hT) (r7 e1)))<|.z ((Aw (ov:=Qa (.ξ aT)) (a6:=a6) (a7:=a7) (a8:=a8) (a9:=a9) (a10:=a10) (d:=d) hd I H1 J hs ⟨_,H1.up e2⟩ G nd ne hl hN hN6 hNC hK hK2 hb bd lb hC λg' O' a6 a7 a8 a9 a10=>q1 g' O' _ a6 a7 a8 a9 a10))) (by kernel_rfl)
end
section
variable{O:Mc R.α}{us:List (List Nat)}{row:Nat->DR R}{q KK C:Nat}
abbrev VT(R:Rg):=MH×Mc R.α×η ab×η ab×η ab×η ab×η ab×η ab×η ab
section
variable{R:Rg}(ψ:VT R)
abbrev VT.g:=ψ.1
abbrev VT.O:=ψ.2.1
abbrev VT.a4:=ψ.2.2.1
abbrev VT.a5:=ψ.2.2.2.1
abbrev VT.a6:=ψ.2.2.2.2.1
abbrev VT.a7:=ψ.2.2.2.2.2.1
abbrev VT.a8:=ψ.2.2.2.2.2.2.1
abbrev VT.a9:=ψ.2.2.2.2.2.2.2.1
abbrev VT.a10:=ψ.2.2.2.2.2.2.2.2
end
def vaF(L:Ly)(R:Rg)(ov:η ab)(o:θ)(s:VT R):Ψ.Λ:=Qa (.ξ L.m)::Qa (.aj (112+R.i))::ov::Qa (.ξ o)::s.a4::s.a5::s.a6::s.a7::s.a8::s.a9::s.a10::nn 6
def zfV(us:ζ (ζ θ))(M:Mc R.α)(row:DR R)(p q p' k' N:θ):Prop:=VG us M row p q p' k' N/\(jK row).Ω/\row≠[]/\row.ε<=M.aa.ε/\Wl M (j2 row)<=N
section
variable{us:List (List Nat)}{M:Mc R.α}{row:DR R}{p q p' k' N:Nat}(ψ:zfV us M row p q p' k' N)
def zfV.G:=@ψ.1
def zfV.nd:=@ψ.2.1
def zfV.ne:=@ψ.2.2.1
def zfV.l:=@ψ.2.2.2.1
def zfV.N:=@ψ.2.2.2.2
end
def zja(us:ζ (ζ θ))(M:Mc R.α)(p q p' k' N KK C:θ):Prop:=N<=60/\N<=C/\q+k'+N<=KK/\q+k'+M.aa.ε<=KK/\4*(p+p')+(q+k'+61)<=3800/\4*(p+p')+KK<=3800/\(∀u∈us,dp u)/\M.aa.ε*C+N<100000
section
variable{us:List (List Nat)}{M:Mc R.α}{p q p' k' N KK C:Nat}(ψ:zja us M p q p' k' N KK C)
def zja.n6:=@ψ.1
def zja.nc:=@ψ.2.1
def zja.k:=@ψ.2.2.1
def zja.kn:=@ψ.2.2.2.1
def zja.hb:=@ψ.2.2.2.2.1
def zja.b:=@ψ.2.2.2.2.2.1
def zja.lb:=@ψ.2.2.2.2.2.2.1
def zja.c:=@ψ.2.2.2.2.2.2.2
end
def zbb{o:θ}(hd:6<=d)(I:ao R h L M)(V:OvR R h M.aa.ε row ov)(W0:∀s,s<M.aa.ε->zfV us M (row s) p q p' k' N)(B:zja us M p q p' k' N KK C)(H:Mk R h g o O [])(J:Ai us M row (p+p') KK C 0 O):
  ∃s:VT R,(Mk R h s.g o s.O []/\Ai us M row (p+p') KK C M.aa.ε s.O)/\exec (ah P0 d) (.fo [4] Qc (.bn (.py (.ty 491260897125)) [.bc (.Ο 0) qT []]) (B4++veT)) (vaF L R (Qa ov) o ⟨g,O,Qd,Qd,Qd,Qd,Qd,Qd,Qd⟩) g=Qa ((.nx,vaF L R (Qa ov) o s),s.g):=by
 refine oe (c:=ah P0 d) (x:=4) (n:=M.aa.ε) (e:=.bn (.py (.ty 491260897125)) [.bc (.Ο 0) qT []]) (b:=B4++veT) (vaF L R (Qa ov) o) VT.g (λk s=>Mk R h s.g o s.O []/\Ai us M row (p+p') KK C k s.O) ⟨g,O,Qd,Qd,Qd,Qd,Qd,Qd,Qd⟩ (Mf I) rfl (by exact kO (.p (pH (Jn (by decide) hd) ((by obtain⟨t,e⟩:=H.Tr;rw[e];exact I.cq:ao R g L M)))<|.c<|.z (cn (.gq M.aa.ε) g)) (by kernel_rfl)) ⟨H,J⟩ λk s R1 _ hk P1 C1=>?_;have w:=W0 k hk;exact B2 (ov:=ov) (a5:=s.a5) (a6:=s.a6) (a7:=s.a7) (a8:=s.a8) (a9:=s.a9) (a10:=s.a10) (s:=k) hd I V P1.1 P1.2 hk w.G w.nd w.ne (Jn w.l w.G.l) w.N B.n6 B.nc B.k (Jn (Js w.l _) B.kn) B.hb B.b B.lb (Jw (JV (Ze C (JN hk)) N) B.c) λg' O' a5 a6 a7 a8 a9 a10 H' J'=>C1.nx ⟨g',O',vN k,a5,a6,a7,a8,a9,a10⟩ ⟨H',J'⟩
end
section
variable{us:List (List Nat)}{row:Nat->DR R}{P C:Nat}
def IT:(mK (M0 (R:=R)) n).aa=J5 n []/\(mK (M0 (R:=R)) n).ak=J5 n R.Κ/\(mK (M0 (R:=R)) n).bb=0:=by
 induction n with
 |zero=>exact⟨rfl,rfl,rfl⟩
 |succ n ih=>
  refine⟨?_,?_,ih.2.2⟩
  ·show _++[[]]=_;rw[ih.1,<-KF]
  ·show _++[R.Κ]=_;rw[ih.2.1,<-KF]
abbrev reO(M:Mc R.α):Mc R.α:= {mK (M0 (R:=R)) M.aa.ε with start:=M.Ϟ,first:=M.lw}
def CZ:Ai us M row P K C 0 (reO M):=by
 have e:=IT (R:=R) (n:=M.aa.ε);have ea:∀t,ax (reO M) t=[]:=λt=>by
  show ((mK (M0 (R:=R)) M.aa.ε).aa)[t]?.ϡ []=[];rw[e.1,KD];by_cases h:t<M.aa.ε
  ·rw[φ h];rfl
  ·rw[τ h];rfl
 refine⟨?_,rfl,rfl,λt=>?_,λt=>?_,λt h=>ς h (J9 _),λt h=>ς h (J9 _),λt _=>ea t,λx hx=>?_,?_,λt=>by rw[ea t];exact JB _⟩
 ·rw[e.1,Zw]
 ·rw[ea t];exact λ_ h=>ς h Jz
 ·rw[ea t];exact .Ϝ
 ·have hx:x∈(mK (M0 (R:=R)) M.aa.ε).ak:=hx
  rw[e.2.1] at hx;rw[Zl hx];exact R.af (JB _) (JB _) R.bq
 ·rw[e.2.2];exact JB _
end
section
variable{l:List Nat}
def StR(M:Mc R.α)(row:θ->DR R)(P Q:θ):Prop:=(∀s,s<M.aa.ε->pR M.aa.ε P Q (row s))/\(∀s,s<M.aa.ε->s∈jK (row s))/\∀s,s<M.aa.ε->∀u l i j,i<=u.ε->j<=l.ε->j7 (row s) (rD M (Bv M u l) u l i j)=Bv M u l i j s
section
variable{M:Mc R.α}{row:Nat->DR R}{P Q:Nat}(ψ:StR M row P Q)
def StR.ok:=@ψ.1
def StR.me:=@ψ.2.1
def StR.ev:=@ψ.2.2
end
def RR(H:xG M)(E:uo M p K h v g):∃row,OvR R g M.aa.ε row v/\StR M row (p*M.aa.ε) (K*M.aa.ε+M.aa.ε+1):=by
 cases E with
 |no hE hv hg=>
  refine⟨λs=>[(s,R.cw)],⟨.wv ⟨hv,λ_ _=>rfl⟩⟩,λs hs=>⟨JH.ϥ ⟨Jz,.Ϝ⟩,λx hx=>by rw[JD.mp (hx)];exact hs,λq hq=>by rw[JD.mp hq];exact R.af (JB _) (JB _) R.gd⟩,λs _=>.mo _,λs hs u l i j hi hj=>?_⟩;show R.am (R.ss R.cw _) R.Κ=_;simp only[R.ut,R.one_mul,H0 H hi hj,o8,tU λa ha=>xR hE ha,R.ut]
 |so t1 t2 T S hv hg=>
  subst hg;have hn:∀s,s<M.aa.ε->s<T.ε:=λs hs=>by rw[S.lv];exact hs
  have gr:∀s (hs:s<M.aa.ε),(T[s]?).ϡ []=T[s]'(hn s hs):=λs hs=>by rw[Jp (hn s hs)];rfl
  refine⟨λs=>(T[s]?).ϡ [],⟨.IO ⟨(h++t1).ε,JZ ((h++t1).ε+1) T.ε,hv,S.tb.TF,λs hs=>?_⟩⟩,λs hs=>?_,λs hs=>?_,λs hs u l i j hi hj=>?_⟩
  ·obtain⟨e,q⟩:=S.tb.Tq s _ (Jp (hn s hs))
   exact⟨_,e,Dy (hn s hs),by rw[gr s hs];exact q⟩
  ·show pR _ _ _ ((T[s]?).ϡ [])
   rw[gr s hs];exact(S.Tq s _ (Jp (hn s hs))).ok
  ·show s∈jK ((T[s]?).ϡ [])
   rw[gr s hs];exact(S.Tq s _ (Jp (hn s hs))).me
  ·show j7 ((T[s]?).ϡ []) _=_
   rw[gr s hs];exact(S.Tq s _ (Jp (hn s hs))).ev _ _ (NK H hi hj)
end
section
variable{P Q KK C:Nat}{row:Nat->DR R}
def Hh(M:Mc R.α):ζ (ζ θ):=M.aa.flatMap λys=>ys.flatMap λa=>[a.up,a.lo]
def Mh{o:θ}{a:Ar R.α}(ha:a∈ax M o):a.up∈Hh M/\a.lo∈Hh M:=by
 obtain⟨ys,q⟩:=mH ha;exact⟨ζ.Op.ϥ ⟨ys,q.2.1,ζ.Op.ϥ ⟨a,q.2.2,.mo _⟩⟩,ζ.Op.ϥ ⟨ys,q.2.1,ζ.Op.ϥ ⟨a,q.2.2,.pc _ (.mo _)⟩⟩⟩
theorem Ws(G:kQ M p k):∀u∈Hh M,dp u:=λu hu=>by
 obtain⟨ys,h1,h2⟩:=ζ.Op.mp hu;obtain⟨a,h3,h4⟩:=ζ.Op.mp h2;rcases JM.mp h4 with e|h4
 ·rw[e];exact(G.fv ys h1 a h3).2.1
 ·rw[JD.mp h4];exact(G.fv ys h1 a h3).2.2.1
def Ip(I:ao R h L M):Wl M (JX M.aa.ε)=M.bb:=by
 rw[<-I.ct];delta Wl
 congr 1
 apply ζ.ext_getElem
 ·simp only[Jq,Jq,Zg]
 ·intro i h1 h2
  rw[Jq] at h2;simp only[ζ.getElem_map,ζ.getElem_range];delta ax;simp only[Jp h2];rfl
def Om(I:ao R h L M)(G:kQ M p k)(S:StR M row P Q)(hn:M.aa.ε<=60)(hc:M.bb<=N)(b:4*(P+p)+(Q+k+N+1)<=3800)(hN:N<=60)(hs:s<M.aa.ε):zfV (Hh M) M (row s) P Q p k N:=by
 have O:=S.ok s hs;have fv:∀o,∀a∈ax M o,a.t<M.aa.ε/\R.D p k a.w:=λo a ha=>by
  obtain⟨ys,q⟩:=mH ha;exact⟨(G.fv ys q.2.1 a q.2.2).1,(G.fv ys q.2.1 a q.2.2).2.2.2.1⟩
 refine⟨⟨λo a ha he=>⟨Mh ha,(fv o a ha).1,he⟩,λo a ha=>(fv o a ha).2,λo ho=>O.dg _ (oS ho),λo ho=>O.lt o ho,λo=>?_,b,Jn hN (by decide),hn⟩,O.nd,λe=>?_,O.lv,?_⟩
 ·delta dh
  by_cases q:o<M.ak.ε
  ·rw[Jp q];exact G.ed _ (Zt q)
  ·rw[Z0 (ZM q)];exact R.af (JB _) (JB _) R.bq
 ·have:=S.me s hs
  rw[e] at this;exact ς this Jz
 ·refine Jn (Pm (n:=M.aa.ε) (kC.nodup_iff.ϥ O.nd) λo ho=>O.lt o (kC.tz.mp ho)) ?_
  rw[Ip I];exact hc
end
section
variable{us:List (List Nat)}
def ReR(us:ζ (ζ θ))(M:Mc R.α)(h g:MH)(o:θ)(T O:Mc R.α)(row:θ->DR R):Prop:=Mk R h g o O []/\Ai (Hh T) T row 5 45 7 T.aa.ε O/\uO us T/\(∀u l,kx T u l=kx M u l)/\StR T row 4 37
section
variable{us:List (List Nat)}{M:Mc R.α}{h g:MH}{o:Nat}{T O:Mc R.α}{row:Nat->DR R}(ψ:ReR us M h g o T O row)
def ReR.H:=@ψ.1
def ReR.J:=@ψ.2.1
def ReR.Z:=@ψ.2.2.1
def ReR.w:=@ψ.2.2.2.1
def ReR.S:=@ψ.2.2.2.2
end
def zbI:∀n,n<5->1*n<=4/\8*n+n+1<=37/\4*(1*n)+(8*n+n+1)<=3800/\38+n<=45/\n*7+7<100000/\0+n<10000:=by decide+kernel
theorem StR.Τ{row:θ->DR R}{P Q:θ}(S:StR M row P Q)(h1:P<=P')(h2:Q<=Q'):StR M row P' Q':=⟨λs hs=>⟨(S.ok s hs).nd,(S.ok s hs).lt,λx hx=>R.af h1 h2 ((S.ok s hs).dg x hx)⟩,S.me,S.ev⟩
inductive ReA(us:ζ (ζ θ))(M:Mc R.α)(L:Ly)(h:MH)(d:θ):Prop
 |mk(t:MH)(L1:Ly)(T:Mc R.α)(row:θ->DR R)(ov:ab)(s:VT R)(Y:ReR us M (h++t) s.g (h++t).ε T s.O row)(e:execs (ah P0 d) (jY.na 7) (Qa (.ξ L.m)::nn 16) h=Qa ((.nx,vaF L1 R (Qa ov) (h++t).ε s),s.g))
def uo.Tr(E:uo M p K h v g):∃t,g=h++t:=by
 cases E with
 |no _ _ hg=>exact⟨[],hg.ν (ZE _).Μ⟩
 |so t1 t2 _ _ _ hg=>exact⟨t1++t2,hg.ν (JA ..)⟩
def zbK(hd:9<=d)(I:ao R h L M)(Z:uO us M)(ne:R.cw≠R.Κ):ReA us M L h d:=by
 refine(Cd (d:=d) (Jn (by decide) hd) I Z).ι λt a=>a.ι λL1 a=>a.ι λT a=>?_;have Y:=a.2;have b:=zbI T.aa.ε (JO Y.Z.n);refine(DX (d:=d) (p:=1) (k:=1) (K:=8) (Jn (by decide) hd) Y.J Y.Z.g Y.Z.up ne (Jn Y.Z.n (by decide)) (Js Y.Z.c 1) b.2.2.1 (by decide)).ι λov c=>c.ι λg c=>?_;refine xEA (RR (Y.Z.g.dp Y.Z.up) c.2) λrow V S=>?_;have S:=S.Τ b.1 b.2.1;refine c.2.Tr.ι λt2 eg=>?_;have I1:ao R g L1 T:=eg▸Y.J.cq;have eg:g=h++(t++t2):=eg.ν (JA ..);refine xEA (IW R g (d:=d) (Jn (by decide) hd)) λg3 e3 H3=>?_;have i3:ao R g3 L1 T:=H3.Tr.ι λt e=>e▸I1.cq;refine(UD (d:=d) (n:=T.aa.ε) (Jn (by decide) hd) H3 b.2.2.2.2.2).ι λv4 f=>f.ι λg4 f=>?_;have i4:ao R g4 L1 T:=f.2.Tr.ι λt e=>e▸I1.cq;refine xEA (Hb (d:=d) (s:=T.Ϟ) (w:=T.lw) (p:=1) (k:=1) (Jn (by decide) hd) f.2 (by rw[(IT (R:=R)).1,Zw];exact Y.Z.g.st) Y.Z.g.fst (by decide)) λg5 e5 H5=>?_;refine xEA (zbb (us:=Hh T) (ov:=ov) (row:=row) (p:=4) (q:=37) (p':=1) (k':=1) (N:=7) (KK:=45) (C:=7) (d:=d) (Jn (by decide) hd) I1 V (λs hs=>Om I1 Y.Z.g S (Jn Y.Z.n (by decide)) Y.Z.c (by decide) (by decide) hs) ⟨by decide,Jv _,by decide,b.2.2.2.1,by decide,by decide,Ws Y.Z.g,b.2.2.2.2.1⟩ H5 CZ) λs H6 e6=>?_;subst eg;refine .mk (t++t2) L1 T row ov s ⟨H6.1,H6.2,Y.Z,Y.w,S⟩ (W.eq ?_);show ck (ah P0 d) (jY.na 7) (Qa (.ξ L.m)::nn 16) h λfl fr hh=>(fl,fr)=(Fl.nx,vaF L1 R (Qa ov) (h++(t++t2)).ε s)/\hh=s.g;exact j6 (.v (l9 I)<|.p a.1<|.p c.1<|.p e3<|.p (pH (Jn (by decide) hd) i3)<|.p f.1<|.v (u9 i4)<|.v (Wy i4)<|.p e5<|.s e6<|.z (show (Fl.nx,vaF L1 R (Qa ov) (h++(t++t2)).ε s)=(Fl.nx,vaF L1 R (Qa ov) (h++(t++t2)).ε s)/\s.g=s.g from⟨rfl,rfl⟩)) (by kernel_rfl)
end
section
variable{T O:Mc R.α}{us:List (List Nat)}{o:Nat}{row:Nat->DR R}
def tE(M:Mc R.α):Prop:=∀s,((ax M s).π lJ).Ω/\(∀a∈ax M s,a.di=Qc/\a.up∈gz/\a.lo∈gz)/\(ax M s).ε<=7
theorem Hg(hu:∀u∈us,u∈gz)(Z:uO us T):∀u∈Hh T,u∈gz:=λu q=>by
 obtain⟨ys,h1,h2⟩:=ζ.Op.mp q;obtain⟨a,h3,h4⟩:=ζ.Op.mp h2;rcases JM.mp h4 with e|h4
 ·rw[e];exact hu _ (Z.us ys h1 a h3).1
 ·rw[JD.mp h4];exact(Z.us ys h1 a h3).2
def ReR.good(hu:∀u∈us,u∈gz)(Y:ReR us M h g o T O row):kQ O 5 45/\ma O/\O.bb<=28/\O.aa.ε<=4/\tE O:=by
 have ar:∀ys∈O.aa,∀a∈ys,AOk (Hh T) T.aa.ε 5 45 a:=λys hy a ha=>by
  obtain⟨s,hs⟩:=Km hy;exact Y.J.al s a (GY hs▸ha)
 refine⟨⟨?_,λys hy a ha=>?_,?_,Y.J.eD,by decide,Jn (Jn (JF Y.J.lv) Y.Z.n) (by decide),Jn (Jn Y.J.c (Ze 7 Y.Z.n)) (by decide)⟩,λi xs hx a ha he=>?_,(Jn Y.J.c (Ze 7 Y.Z.n)),(Jn (JF Y.J.lv) Y.Z.n),λs=>⟨Y.J.nk s,λa ha=>?_,Y.J.ln s⟩⟩
 ·simp only[Y.J.st,Y.J.lv];exact Y.Z.g.st
 ·have q:=ar ys hy a ha
  exact⟨Y.J.lv▸q.k.t,Ws Y.Z.g _ q.k.u.1,Ws Y.Z.g _ q.k.u.2,q.d,q.z⟩
 ·exact Y.J.fs▸R.af (by decide) (by decide) Y.Z.g.fst
 ·have q:=(ar xs (Jt hx) a ha).k.e
  rw[show a.di=Qc from q] at he;exact ς he JQ
 ·have q:=(Y.J.al s a ha).k
  exact⟨q.e,Hg hu Y.Z _ q.u.1,Hg hu Y.Z _ q.u.2⟩
def ReR.w'(hu:∀u∈us,u∈gz)(Y:ReR us M h g o T O row)(u l:ζ θ):kx O u l=kx M u l:=by
 rw[<-Y.w];show R.ss O.lw (Bv O u l 0 0 O.Ϟ)=R.ss T.lw (Bv T u l 0 0 T.Ϟ);rw[Y.J.fs,Y.J.st,zeq (Y.J.whole Y.S.ev) (Y.Z.g.dp Y.Z.up) ((Y.good hu).1.dp (Y.good hu).2.1) _ (JB _) (JB _) (JR _) Y.Z.g.st]
end
section
variable{O T:Mc R.α}
def Eh(h:x∈ks):(ks[ks.IN x]?).ϡ 0=x:=by
 have hl:=ZY.ϥ h;rw[Jp hl,YL hl];rfl
def zdZ:∀{xs:ζ (Ar R.α)},(xs.π lJ).Ω->((nI ks xs).π lJ).Ω:=by
 intro xs;delta nI
 induction xs with
 |Ϝ=>exact λ_=>.Ϝ
 |Ι a xs ih=>
  intro h;obtain⟨h1,h2⟩:=JH.mp (h);simp only[ZC];by_cases q:a.t∈ks
  ·rw[φ q]
   refine JH.ϥ ⟨λm=>?_,ih h2⟩;obtain⟨b',hb',e⟩:=JL.mp m;obtain⟨b,hb,e2⟩:=ζ.mem_filterMap.mp hb';by_cases q2:b.t∈ks
   ·rw[φ q2] at e2
    obtain rfl:=Qa.lf e2;have k1:b.up=a.up:=ω (λx:AK=>x.1) e;have k2:b.lo=a.lo:=ω (λx:AK=>x.2.1) e;exact h1 (JL.ϥ ⟨b,hb,by show (b.up,b.lo,b.t)=(a.up,a.lo,a.t);rw[k1,k2,((Eh q2).Μ.ν ((ω (λi=>(ks[i]?).ϡ 0) (ω (λx:AK=>x.2.2) e:ks.IN b.t=ks.IN a.t)).ν (Eh q)):b.t=a.t)]⟩)
   ·rw[τ q2] at e2;cases e2
  ·rw[τ q];exact ih h2
theorem tE.of(h:∀ys∈T.aa,(ys.π lJ).Ω/\(∀a∈ys,a.di=Qc/\a.up∈gz/\a.lo∈gz)/\ys.ε<=7):tE T:=λs=>by
 delta ax;cases e:T.aa[s]? with
 |none=>exact⟨.Ϝ,λa q=>ς q Jz,JB _⟩
 |some ys=>exact h ys (Jt e)
theorem tE.trim(H:tE O)(TR:nG O ks T):tE T:=.of λys hy=>by
 cases TR with
 |qw h1 h2 ea he hs hf=>
  rw[ea] at hy;obtain⟨k,_,rfl⟩:=JL.mp hy;obtain⟨nk,ne,ln⟩:=H k;refine⟨zdZ nk,λa ha=>?_,Jn (YA ..) ln⟩;obtain⟨b,hb,e⟩:=ζ.mem_filterMap.mp ha;by_cases q:b.t∈ks
  ·rw[φ q] at e
   refine eqE (Qa.lf e) ?_;exact ne b hb
  ·rw[τ q] at e;cases e
 |lq h1 ea he hs hf=>
  rw[ea] at hy;rw[JD.mp hy];exact⟨.Ϝ,λa ha=>ς ha Jz,JB _⟩
theorem tE.no(H:tE T):LS T:=Yr.ϥ λys hy e=>by
 obtain⟨a,ha,e⟩:=KL.mp e;obtain⟨s,hs⟩:=Km hy;rw[((H s).2.1 a ((GY hs).Μ▸ha)).1] at e;cases e
theorem tE.us(H:tE T):∀ys∈T.aa,∀a∈ys,a.up∈gz/\a.lo∈gz:=λys hy a ha=>by
 obtain⟨s,hs⟩:=Km hy;exact((H s).2.1 a ((GY hs).Μ▸ha)).2
def NoE(M:Mc R.α):Prop:=kQ M 5 45/\ma M/\M.bb<=28/\M.aa.ε<=4/\tE M
section
variable{M:Mc R.α}(ψ:NoE M)
def NoE.G:=@ψ.1
def NoE.U:=@ψ.2.1
def NoE.c:=@ψ.2.2.1
def NoE.n:=@ψ.2.2.2.1
def NoE.k:=@ψ.2.2.2.2
end
end
section
variable{us:List (List Nat)}
def ReT(M:Mc R.α)(h g:MH)(L2:Ly)(T:Mc R.α):Prop:=(∃t,g=h++t)/\ao R g L2 T/\NoE T/\∀u l,kx T u l=kx M u l
section
variable{M:Mc R.α}{h g:MH}{L2:Ly}{T:Mc R.α}(ψ:ReT M h g L2 T)
def ReT.Tr:=@ψ.1
def ReT.J:=@ψ.2.1
def ReT.E:=@ψ.2.2.1
def ReT.w:=@ψ.2.2.2
end
def zep(hd:10<=d)(hu:∀u∈us,u∈gz)(I:ao R h L M)(Z:uO us M)(ne:R.cw≠R.Κ):∃g L2 T2,jO (ah P0 d) (.aj 188) [.ξ L.m] h=Qa (.ξ L2.m,g)/\ReT M h g L2 T2:=by
 have w:WF P0 d 188 [.ξ L.m] h λv g=>∃L2 T2,v=.ξ L2.m/\ReT M h g L2 T2:=by
  refine kN (K:=9) hd (Qa (.ξ L.m)::nn 16) jY rfl λd' h'=>?_;cases zbK (d:=d') h' I Z ne with
  |mk t L1 T row ov s Y ex=>
   refine mP (a:=jY.na 7) (b:=jY.jp 7) ?_;refine Y.H.x.ι λL3 x=>Y.H.Tr.ι λt3 e3=>?_;have y:=Y.good hu;refine(U8 (d:=d') (Jn (by decide) h') x.2.1 y.1 y.2.1).ι λt2 a=>a.ι λL2 a=>a.ι λT2 a=>?_;have A:=a.2;have q:ReT M h (s.g++t2) L2 T2:=⟨⟨t++t3++t2,by rw[e3];simp only[JA]⟩,A.J,⟨A.G,A.U,Jn A.c y.2.2.1,Jn A.n y.2.2.2.1,A.tr.ι λ_ q=>y.2.2.2.2.trim q⟩,λu l=>(A.w u l).ν (Y.w' hu u l)⟩;have e2:=a.1;rw[x.1] at e2;delta ck;rw[ex];exact lA (nC (j6 (.p e2<|.z (show ∃L3 T3,ab.ξ L2.m=.ξ L3.m/\ReT M h (s.g++t2) L3 T3 from⟨L2,T2,rfl,q⟩)) (by kernel_rfl)))
 obtain⟨v,g,e,L2,T2,rfl,q⟩:=W.Mi (mM (P:=P0) rfl w);exact⟨g,L2,T2,e,q⟩
end
section
variable{V:WW->R.α}{l:List WW}
def Rg.ve(R:Rg)(h:MH)(a:R.α):vV h (R.e a) (R.e a)=Qa true:=by
 have n:(R.e a).ref?=none:=by
  cases hx:R.e a with
  |ref r=>
   have e:=R.ff [] a a;rw[hx] at e;exact ag (e)
  |_=>rfl
 have e:=R.ff h a a;unfold lz lN at e;rw[n] at e;exact(e).ν (ω Qa (@Γ _ (R.gk a a) rfl))
def AY{K:WW}(hK:nz V K=Qe->K∈l):jW (oH V l) (jJ.v K)=bif nz V K then Qa (R.e (V K)) else none:=by
 have e:jW (oH V l) (jJ.v K)=((l.Ϩ (nz V)).find? ((λp:ab×ab=>fz p.1 (jJ.v K)) ∘ λk=>(jJ.v k,R.e (V k)))).π ((λp:ab×ab=>p.2) ∘ λk=>(jJ.v k,R.e (V k))):=by
  delta oH jW;rw[ζ.find?_map,η.map_map]
 refine e.ν ?_;cases hf:(l.Ϩ (nz V)).find? ((λp:ab×ab=>fz p.1 (jJ.v K)) ∘ λk=>(jJ.v k,R.e (V k))) with
 |some k=>
  have h1:=KA hf;have h1:fz (jJ.v k) (jJ.v K)=true:=h1;rw[jJ.eq] at h1;refine eqE (Ξ h1) ?_;rw[(ZU.mp (Kt hf)).2];rfl
 |none=>
  cases hn:nz V K with
  |false=>rfl
  |true=>
   exact ς ((jJ.eq K K).ν (Γ rfl)) (ζ.find?_eq_none.mp hf K (ZU.ϥ ⟨hK hn,hn⟩))
def RD:∀{es:ζ (ab×ab)},(∀p∈es,jW all p.1=Qa p.2/\vV g p.2 p.2=Qa Qe)->nU g all es=Qa true:=by
 intro es
 induction es with
 |Ϝ=>exact λ_=>rfl
 |Ι p r ih=>
  intro H;show JG (motive:=λ_=>η Ζ) (jW all p.1) (Qa Qc) (λy=>(vV g p.2 y).Η λe=>(nU g all r).π λb=>e && b)=_;rw[(H p (.mo _)).1];show (vV g p.2 p.2).Η _=_;rw[(H p (.mo _)).2];rw[ih λq hq=>H q (.pc _ hq)];rfl
def RT{y:θ}{ep:η θ}{cs:ζ WW}(hx:g[x]?=Qa (.Υ ep es))(hy:g[y]?=Qa (.Υ ep' es'))(O:yF V cs es)(O':yF V cs es'):mX .eq (.ξ x) (.ξ y) g=Qa true:=by
 obtain⟨l,rfl,p⟩:=O;obtain⟨l',rfl,p'⟩:=O';have q:=p.ν p'.Μ;show lz g (.ξ x) (.ξ y)=_;delta lz
 rw(occs:=.Hd) [mT hx,mT hy]
 have hl:(oH V l).ε=(oH V l').ε:=by unfold oH;rw(occs:=.Hd) [Jq,Jq,q.u8]
 have e1:p8 (oH V l) (oH V l')=true:=by
  delta p8 yM oH;cases l.Ϩ (nz V) with
  |Ϝ=>rfl
  |Ι a r=>cases l'.Ϩ (nz V)<;>rfl
 show bj (aw (p8 (oH V l) (oH V l')) (bif (oH V l).ε==(oH V l').ε then nU g (oH V l') (oH V l) else Qa Qc)) _=_
 rw(occs:=.Hd) [e1,hl,Ϧ,pi,RD λp hp=>?_];rfl
 obtain⟨k,hk,rfl⟩:=JL.mp hp;obtain⟨h1,h2⟩:=ZU.mp (q.tz.mp hk);exact⟨(AY λ_=>h1).ν (by rw(occs:=.Hd) [show nz V k=Qe from h2];rfl),R.ve g _⟩
def MF(z:Cx){ep:η θ}{cs:ζ WW}{K:WW}(hx:g[x]?=Qa (.Υ ep es))(O:yF V cs es)(hK:K∈cs):kI z (.ξ x) kg [.ay [.Ϥ K.1,.Ϥ K.2],R.e R.Κ] g g=Qa (R.e (V K),g):=by
 obtain⟨l,rfl,p⟩:=O;refine W.eq (BK hx hx (k:=jJ.v K) (e:=R.e R.Κ) (pI (T:=jJ) (k:=K) UA) ⟨?_,rfl⟩);rw[AY λh=>(ZU.mp (p.tz.ϥ (ZU.ϥ ⟨hK,h⟩))).1];cases hn:nz V K with
 |true=>rfl
 |false=>
  have:V K=R.Κ:=Ξ (inst:=R.gk _ _) ((Ζ.not_eq_false' ..).mp hn)
  rw[this];rfl
end
section
variable{l:List Nat}
def zil:∀n,n<5->∀c,c<29->1+49*(c+1)<20000/\4*(5*(2*2+2))+(45*(2*2+2)+(1+49*(c+1)+n))<=3800:=by decide+kernel
def zik:∀n,n<5->∀c,c<29->∀x,x<3->∀y,y<3->1+(x+1)*(y+1)*(c+1)<100000/\4*((5+5*n)*(x+y+2))+((45+((45+c)*n+n+1+n))*(x+y+2)+(1+(x+1)*(y+1)*(c+1)+n))<=3800:=by decide+kernel
theorem FB(hd:10<=d)(I:ao R h L M)(Z:NoE M):∃a g,jO (ah P0 d) (.aj 141) [.ξ L.m,.Β 2] h=Qa (.ξ a,g)/\tD M h g a:=LQ hd I λd h'=>
 (U8 (d:=d) (Jn (by decide) h') I Z.G Z.U).ι λt c=>c.ι λL' c=>c.ι λT c=>c.2.tr.ι λks tr=>
  have C:=c.2;have K:=Z.k.trim tr
  ⟨t,pX (h++t) L' T 2 .Ε 5 45 5 45 0 0 mm (Wt M),c.1,zat (Jn (by decide) h') C.J K.no,⟨t,rfl⟩,zes C.J C.G K.us (by decide) (by decide) (zil _ (JO (Jn C.n Z.n)) _ (JO (Jn C.c Z.c))),Il (C.G.dp C.U) K.no,rfl,rfl,rfl,rfl,λk _=>(C.w k.1 k.2).Μ⟩
def zaQ(hd:10<=d)(ne:R.cw≠R.Κ)(I:ao R h L M)(Z:NoE M)(wu:yt u)(wl:yt l):∃t,jO (ah P0 d) (.aj 106) [.ξ L.m,.Ϥ u,.Ϥ l] h=Qa (R.e (kx M u l),h++t):=by
 have b:=zik M.aa.ε (JO Z.n) M.bb (JO Z.c) u.ε (JO wu.n) l.ε (JO wl.n);exact(zdM hd ne I Z.G Z.U (Jn Z.n (by decide)) wu wl b.1 (by decide) b.2).ι λt q=>⟨t,q.1⟩
end
section
variable{us:List (List Nat)}
abbrev XL(R:Rg):=MH×ζ Φ×Mc R.α×Ly×Mc R.α×Ly
section
variable{R:Rg}(ψ:XL R)
abbrev XL.g0:=ψ.1
abbrev XL.ns:=ψ.2.1
abbrev XL.M:=ψ.2.2.1
abbrev XL.L:=ψ.2.2.2.1
abbrev XL.T:=ψ.2.2.2.2.1
abbrev XL.K:=ψ.2.2.2.2.2
end
def OL(us:ζ (ζ θ))(X:XL R):Prop:=R.cw≠R.Κ/\ao R X.g0 X.L X.M/\uO us X.M/\ao R X.g0 X.K X.T/\NoE X.T/\∀u l,kx X.T u l=kx X.M u l
section
variable{us:List (List Nat)}{X:XL R}(ψ:OL us X)
def OL.ne:=@ψ.1
def OL.I:=@ψ.2.1
def OL.Z:=@ψ.2.2.1
def OL.J:=@ψ.2.2.2.1
def OL.E:=@ψ.2.2.2.2.1
def OL.w:=@ψ.2.2.2.2.2
end
abbrev vF(X:XL R)(a b c e f:η ab):Ψ.Λ:=Qa (.fl (X.ns.π .Β))::Qa (.aj (112+R.i))::Qa (.ξ X.L.m)::Qa (.ξ X.K.m)::a::b::c::e::f::nn 6
abbrev xc:=MH×η ab×η ab
section
variable(ψ:xc)
abbrev xc.g:=ψ.1
abbrev xc.a:=ψ.2.1
abbrev xc.b:=ψ.2.2
end
theorem OL.j{X:XL R}(O:OL us X)(pre:∃t,g=X.g0++t):ao R g X.K X.T:=pre.ι λt e=>e▸O.J.cq
theorem OL.i{X:XL R}(O:OL us X)(pre:∃t,g=X.g0++t):ao R g X.L X.M:=pre.ι λt e=>e▸O.I.cq
theorem v9{t:MH}(pre:∃t,g=g0++t):∃t',g++t=g0++t':=pre.ι λt' e=>⟨t'++t,by rw[e,JA]⟩
def ziW{ks:ζ AK}(nd:ks.Ω):M3 (ks.π kD.v)=true:=by
 induction ks with
 |Ϝ=>rfl
 |Ι k ks ih=>
  obtain⟨h1,h2⟩:=JH.mp nd;refine Jo.ϥ ⟨?_,ih h2⟩;refine(ω (!·) (Yr.ϥ λv hv=>?_)).ν rfl;obtain⟨b,hb,rfl⟩:=JL.mp hv;rw[kD.eq];exact λe=>h1 (Ξ e▸hb)
def zfv(z:Cx){ks:ζ AK}(ha:g[a]?=Qa (.ο (ks.π kD.v)))(nd:ks.Ω)(hl:ks.ε<=18):jO z (.ty zb9) [.ξ a] g=Qa (ab.jr ks.ε,g):=by
 refine W.eq (BE (v:=ab.jr ks.ε) (h':=g) ?_ ⟨rfl,rfl⟩);show (kP g (.ξ a)).Η _=_;rw[oW ha];show aw (ZD (ks.π kD.v).ε 18 && ((ks.π kD.v).Hd (λv=>jV v==3) && M3 (ks.π kD.v))) (Qa (ab.jr (ks.π kD.v).ε,g))=_;rw[Jq,KJ hl,ziW nd,show (ks.π kD.v).Hd (λv=>jV v==3)=Qe from Za.ϥ λv hv=>(JL.mp hv).ι λb q=>q.2▸rfl];rfl
abbrev zfj:Ex:=.comp (.ay [.aq (.Ο 9) 504397587826,.aq (.Ο 9) 465726563698,.aq (.Ο 9) 127961880028532]) [9] Qc (.Ο 4) []
def Rl(h:MH)(v:ab):ab:=.ay [(getAttr P0 h v oJ).ϡ .Ε,(getAttr P0 h v qU).ϡ .Ε,(getAttr P0 h v oX).ϡ .Ε]
def Hj{b:θ}{x:Ar R.α}(hb:g[b]?=Qa (mW R x)):Rl g (.ξ b)=kD.v (lJ x):=by
 delta Rl;rw[qv hb,rp hb,ro hb];rfl
def Rm{X:XL R}{r:θ}{b c e f:η ab}(H:By R g r as xs)(hn:xs.ε<=7):eval (ah P0 d) zfj (vF X (Qa (.ξ r)) b c e f) g=Qa (.ξ g.ε,g++[.ο ((xs.π lJ).π kD.v)]):=by
 have hl:(as.π ab.ξ).ε<=7:=Jn (JF H.n) hn;have eF:((as.π ab.ξ).Ϩ λ_=>Qe).π (Rl g)=(xs.π lJ).π kD.v:=by
  rw[ζ.filter_eq_self.ϥ λ_ _=>rfl];have ha:=H.a;have hn:=H.n
  revert ha hn
  generalize as.π ab.ξ=vs
  intro ha hn
  apply XU
  intro j;rw[JE,KN,JE];cases hv:vs[j]? with
  |none=>rw[Z0 (hn▸Z7.mp hv)];rfl
  |some v=>
   obtain⟨b,x,rfl,hx,hb⟩:=ha j v hv;rw[hx];exact ω Qa (Hj hb)
 refine W.eq (BO r (as.π .ξ) (λ_=>Qe) (Rl g) (Jw hl (by show 7<200000;decide)) (Jn hl (by decide)) (u6 rfl ⟨rfl,H.l,λv hv acc=>vQ ⟨rfl,rfl,λ_=>?_⟩,?_⟩))
 ·obtain⟨j,hj⟩:=YU.mp hv
  obtain⟨b,x,rfl,hx,hb⟩:=H.a j v hj;rw[Hj hb];exact kO (.v (qv (jH (t:=[.ο acc]) hb))<|.v (rp (jH (t:=[.ο acc]) hb))<|.v (ro (jH (t:=[.ο acc]) hb))<|.z ((⟨rfl,rfl⟩:g++[.ο acc]=g++[.ο acc]/\kD.v (lJ x)=kD.v (lJ x)))) (by kernel_rfl)
 ·exact eF▸cn _ _
abbrev zen:ζ Sm:=[.ft (.nm 5) zfj,.ite (.gm .ne (.bn (.py (.bi 7103854)) [.bn (.py (.ty 7562612)) [.Ο 5]]) (.bn (.py (.bi 7103854)) [.Ο 5])) [.ret (.py (.ϯ Qc))] []]
def zbf{X:XL R}(O:OL us X):∃s:xc,(∃t,s.g=X.g0++t)/\exec (ah P0 60) (.fo [4] Qc (.aq (.Ο 3) 1634886515) zen) (vF X Qd Qd Qd Qd Qd) X.g0=Qa ((.nx,vF X s.a s.b Qd Qd Qd),s.g):=by
 have hlen:(X.K.az.π ab.ξ).ε=X.T.aa.ε:=(Jq ..).ν O.J.lv;exact pv (c:=ah P0 60) (tg:=[4]) (many:=Qc) (a:=X.K.aA) (e:=.aq (.Ο 3) 1634886515) (b:=zen) (vs:=X.K.az.π .ξ) (λs:xc=>vF X s.a s.b Qd Qd Qd) xc.g (λ_ s=>∃t,s.g=X.g0++t) ⟨X.g0,Qd,Qd⟩ (by rw[hlen];exact Jn O.E.n (by decide)) rfl (λi s P=>P.ι λt e=>e▸jH O.J.aa) (by exact kO (.v (oD O.J)<|.z (cn (.ξ X.K.aA) X.g0)) (by kernel_rfl)) ⟨[],(ZE _).Μ⟩ λi v s R' R1 hv P T=>by
  obtain⟨r,as,hr,H,hm⟩:=(O.j P).mu (hlen▸jR hv);rw[hv] at hr;obtain rfl:=Qa.lf hr;obtain⟨nk,_,ln⟩:=O.E.k i;have hg:(s.g++[ae.ο (((ax X.T i).π lJ).π kD.v)])[s.g.ε]?=Qa (.ο (((ax X.T i).π lJ).π kD.v)):=ap;have f2:=zfv (ah P0 60) hg nk (by rw[Jq];exact Jn ln (by decide));have f3:=FW (z:=ah P0 60) hg;rw[Jq] at f3;have f4:jO (ah P0 60) (.bi uD) [.jr ((ax X.T i).π lJ).ε] (s.g++[.ο (((ax X.T i).π lJ).π kD.v)])=Qa (.Β ((ax X.T i).π lJ).ε,s.g++[.ο (((ax X.T i).π lJ).π kD.v)]):=rfl
  generalize ((ax X.T i).π lJ).ε=n at f2 f3 f4
  have z5:(!((n:Φ)==n))=false:=by rw[Ϧ];rfl
  refine lI ?_;exact j6 (.p ((Rm (d:=60) (X:=X) (b:=s.b) (c:=Qd) (e:=Qd) (f:=Qd) H ln))<|.p (f2)<|.p (f4)<|.p (f3)<|.b ((Ψ.cv (vm _ _ _):mX .ne (.Β n) (.Β n) (s.g++[.ο (((ax X.T i).π lJ).π kD.v)])=Qa (!((n:Φ)==n))))<|.f (z5)<|.z (T.nx ⟨s.g++[.ο (((ax X.T i).π lJ).π kD.v)],Qa (.ξ r),Qa (.ξ s.g.ε)⟩ (v9 P:∃t,s.g++[.ο (((ax X.T i).π lJ).π kD.v)]=X.g0++t))) (by kernel_rfl)
end
section
variable{us:List (List Nat)}{X:XL R}{o4 o5:Option ab}
abbrev fT:ab->MH->Prop:=λv _=>v=.ϯ Qe
def rj:ζ (ζ θ):=[[],[97],[98],[97,98],[98,97]]
def Dk:(∀u∈rj,∀l∈rj,(u,l)∈mm)/\∀u∈rj,u.ε<=2/\∀c∈u,VU c=true:=by decide+kernel
def BV{i:θ}(h:(rj.π ab.Ϥ)[i]?=Qa v):∃w,v=.Ϥ w/\w∈rj/\yt w:=by
 rw[JE] at h;obtain⟨w,hw,rfl⟩:=Zm.mp h;have hm:=Jt hw;exact⟨w,rfl,hm,(Dk.2 w hm).1,(Dk.2 w hm).2⟩
abbrev dB:ζ Sm:=[.ft (.nm 8) (.Ix (.Ο 6) (.fq .mod (.bn (.py (.aj 137)) [.Ο 0,.py (.Β 25)]) (.py (.Β 5)))),.ite (.gm .ne (.bn (.py (.aj 106)) [.Ο 3,.Ο 8,.Ο 7]) (.bc (.bn (.py (.aj 141)) [.Ο 2,.py (.Β 2)]) 6776180 [.ay [.Ο 8,.Ο 7],.aq (.Ο 1) oi])) [.ret (.py (.ϯ Qc))] []]
def Ou(O:OL us X)(hu:∀u∈us,u∈gz)(pre:∃t,g=X.g0++t)(hW:g[aW]?=Qa (.ο (rj.π .Ϥ))):∃s:xc,(∃t,s.g=g++t)/\exec (ah P0 60) (.fo [7] Qc (.Ο 6) dB) (vF X o4 o5 (Qa (.ξ aW)) Qd Qd) g=Qa ((.nx,vF X o4 o5 (Qa (.ξ aW)) s.a s.b),s.g):=by
 obtain⟨n,hn,en⟩:=qO (cell X.ns 25) (show 0<5 by decide);obtain⟨u,hv,hu5,wu⟩:=BV (Jp (l:=rj.π ab.Ϥ) (i:=n) hn);exact pv (c:=ah P0 60) (tg:=[7]) (many:=Qc) (a:=aW) (e:=.Ο 6) (b:=dB) (vs:=rj.π .Ϥ) (λs:xc=>vF X o4 o5 (Qa (.ξ aW)) s.a s.b) xc.g (λ_ s=>∃t,s.g=g++t) ⟨g,Qd,Qd⟩ (by decide) rfl (λi s P=>P.ι λt e=>e▸jH hW) (u6 rfl (cn (.ξ aW) g)) ⟨[],(ZE _).Μ⟩ λi v s R' R1 hvi P T=>by
  obtain⟨w,rfl,hw5,ww⟩:=BV hvi;have ps:∃t,s.g=X.g0++t:=P.ι λt e=>e▸v9 pre;obtain⟨t1,f1⟩:=zaQ (d:=60) (h:=s.g) (by decide) O.ne (O.j ps) O.E wu ww;obtain⟨a2,g2,f2,P2⟩:=LR (d:=60) (h:=s.g++t1) (by decide) O.ne hu (O.i ps).cq O.Z;obtain⟨ep,es,h2,hO⟩:=P2.TF;have hz:(!@decide (kx X.T u w=Wt X.M (u,w)) (R.gk _ _))=false:=by rw[R.yes (O.w u w)];rfl
  refine lI ?_;exact j6 (.q (sH (d:=60) (by decide) X.ns 25)<|.q (qX en (by decide))<|.v ((sl (P.ι λt e=>e▸jH hW) ((Jp hn).ν (ω Qa hv)):kR s.g (.ξ aW) (.Β n)=Qa (.Ϥ u)))<|.p (f1)<|.p (f2)<|.w (R.no)<|.p ((MF (ah P0 60) (K:=(u,w)) h2 hO (Dk.1 u hu5 w hw5)))<|.k (R.qn (kx X.T u w) (Wt X.M (u,w)))<|.f (hz)<|.z (T.nx ⟨g2,Qa (.Ϥ w),Qa (.Ϥ u)⟩ (P.ι λt e=>P2.Tr.ι λt2 e2=>⟨t++t1++t2,by rw[e2,e];simp only[JA]⟩:∃t,g2=g++t))) (by kernel_rfl)
def v3(O:OL us X)(hu:∀u∈us,u∈gz):ck (ah P0 60) (lC.jp 3) (vF X Qd Qd Qd Qd Qd) X.g0 (Ψ.Fin fT):=by
 obtain⟨s,p1,f1⟩:=zbf O;obtain⟨s2,p2,f2⟩:=Ou (o4:=s.a) (o5:=s.b) (g:=s.g++[.ο (rj.π .Ϥ)]) O hu (v9 p1) ap;have q2:∃t,s2.g=X.g0++t:=p2.ι λt e=>by rw[e];exact v9 (v9 p1)
 obtain⟨a1,g1,f3,P1⟩:=FB (d:=60) (by decide) (O.j q2) O.E;obtain⟨a2,g2,f4,P2⟩:=LR (d:=60) (h:=g1) (by decide) O.ne hu (P1.Tr.ι λt e=>e▸(O.i q2).cq) O.Z;have f5:mX .eq (.ξ a1) (.ξ a2) g2=Qa true:=by
  obtain⟨ep1,es1,h1,O1⟩:=P1.TF;obtain⟨ep2,es2,h2,O2⟩:=P2.TF;rw[show Wt X.T=Wt X.M from funext λk=>O.w k.1 k.2] at O1;exact RT (P2.Tr.ι λt e=>e▸jH h1) h2 O1 O2
 exact j6 (.p (zcV (d:=60) (by decide) O.J)<|.f ((O.E.k.no:(X.T.aa.any λr=>r.any Ar.di)=Qc))<|.s (f1)<|.at ((s.g++[.ο (rj.π .Ϥ)]))<|.s (f2)<|.p (f3)<|.p (f4)<|.b (f5)<|.z ((rfl:Ψ.Fin fT (.rt (.ϯ Qe)) (vF X s.a s.b (Qa (.ξ s.g.ε)) s2.a s2.b) g2))) (by kernel_rfl)
abbrev xg:ζ (ζ θ):=[[],[97],[],[98]]
def Hi{ws:ζ R.α}(Z:RL R ws)(ns:ζ Φ)(h:MH):ck (ah P0 60) (lC.jp 1) (Qa (.fl (ns.π .Β))::Qa (.aj (112+R.i))::nn 13) h (Ψ.Fin fT):=by
 have hu:∀u∈xg,u∈gz:=by decide
 refine(zfg (g:=h) (us:=xg) (by decide) hu Z ns 1).ι λM a=>a.2.ι λg1 b=>b.2.ι λL c=>?_;have e1:=b.1;rw[<-c.1] at e1;refine(zep (d:=60) (h:=g1) (us:=xg) (by decide) hu c.2.1 a.1 Z.ne).ι λg2 f=>f.ι λL' f=>f.ι λT f=>?_;have Y:=f.2;refine mP (a:=(lC.jp 1).na 2) (b:=lC.jp 3) ?_;exact j6 (.at ((h++[.ο (xg.π .Ϥ)]))<|.p (e1)<|.p (f.1)<|.z (nC (v3 (⟨Z.ne,Y.Tr.ι λt e=>e▸c.2.1.cq,a.1,Y.J,Y.E,Y.w⟩:OL xg (⟨g2,ns,M,L,T,L'⟩:XL R)) hu))) (by kernel_rfl)
end
def zcL(ns:ζ Φ):WF P0 61 178 [.fl (ns.π .Β)] [] λv _=>v=.ϯ true:=by
 refine Ap (d:=60) (fn:=vD) rfl rfl ?_;show ck (ah P0 60) lC (Qa (.fl (ns.π .Β))::nn 14) _ _;obtain⟨i,hi,ei⟩:=qO (cell ns 0) (show 0<5 by decide);have tail:∀h,ck (ah P0 60) (lC.jp 1) (Qa (.fl (ns.π .Β))::Qa (.aj (112+i))::nn 13) h (Ψ.Fin λv _=>v=.ϯ Qe):=
  o6 (C:=λi=>∀h,ck (ah P0 60) (lC.jp 1) (Qa (.fl (ns.π .Β))::Qa (.aj (112+i))::nn 13) h (Ψ.Fin λv _=>v=.ϯ Qe)) i hi (Hi f9 ns) (Hi f7 ns) (Hi fZ ns) (Hi fY ns) (Hi fX ns)
 refine mP (a:=lC.na 1) (b:=lC.jp 1) ?_;exact j6 (.at ([.ο [.Ϥ (j3 0),.Ϥ (j3 1),.Ϥ (j3 2),.Ϥ (j3 3),.Ϥ (j3 4)]])<|.q (sH (d:=60) (by decide) ns 0)<|.q (qX ei (by decide))<|.v ((sl (i:=i) rfl (o6 (C:=λi=>([.Ϥ (j3 0),.Ϥ (j3 1),.Ϥ (j3 2),.Ϥ (j3 3),.Ϥ (j3 4)]:ζ ab)[i]?=Qa (.Ϥ (j3 i))) i hi rfl rfl rfl rfl rfl):kR [.ο [.Ϥ (j3 0),.Ϥ (j3 1),.Ϥ (j3 2),.Ϥ (j3 3),.Ϥ (j3 4)]] (.ξ 0) (.Β i)=Qa (.Ϥ (j3 i))))<|.p ((fn (P:=P0) (d:=60) (h:=[.ο [.Ϥ (j3 0),.Ϥ (j3 1),.Ϥ (j3 2),.Ϥ (j3 3),.Ϥ (j3 4)]]) rfl (zeo (Q:=λv g=>v=.aj (112+i)/\g=_) hi (by decide) ⟨rfl,rfl⟩)))<|.z (nC (tail [.ο [.Ϥ (j3 0),.Ϥ (j3 1),.Ϥ (j3 2),.Ϥ (j3 3),.Ϥ (j3 4)]]))) (by kernel_rfl)
def O4(ns:ζ Φ):∃H',mB P0 200000 61 178 [ab.fl (ns.π ab.Β)] []=Qa (ab.ϯ Qe,H'):=by
 obtain⟨v,h,e,rfl⟩:=W.Mi (zcL ns);exact⟨h,e⟩
def Mt{C:bf}{w:Wd}{vs:ζ μ}(h:IntsAre vs ns):jI C w (ns.π ab.Β) vs:=by
 induction h with
 |Ϝ=>exact .Ϝ
 |Ι n t _ ih=>exact .Ι ⟨t,rfl⟩ ih
def sf{p:Qs}{w:Qm}{mb:Ρ.ld->η μ}{a:Qk}{vs:ζ μ}{R:WRecords}{as:ζ Qk}(KX:Frag.In (KK w.Ϛ) s₁.Ν)(ZN:s₀.Ν.wi.Ϡ=nat_lit 761)
  (T:Top p loose mean mg mb s₁.Ν) (hmg:mg (qaO "law")=Qa (.ξ fa)) (L:Laid R w s₀ s₁ [ofPy (YM (Xu Xb ns))] [.ξ a] as) (hL:s₁.Ν.IsList a vs.υ) (hI:IntsAre vs ns) (hlen: ¬((63:Φ)<(ns.ε:Φ))) (hg:s₁.gens= #[]):
  Qh (model pw w) callerA (call (.ξ fa) [.ξ a]) (λv s'=>Jj Ρ.Challenge.rw_ui0508_14.Tq.claim (classAt s₀.Ν) (ExcName.means s₀.Ν) [ofPy (YM (Xu Xb ns))] s₁ (.ok (.ret v)) s')
   (λe s'=>Jj Ρ.Challenge.rw_ui0508_14.Tq.claim (classAt s₀.Ν) (ExcName.means s₀.Ν) [ofPy (YM (Xu Xb ns))] s₁ (.error e) s') s₁:=by
 obtain⟨hat,hsz⟩:=script_at L;rw[ZN] at hat hsz;subst hat;obtain⟨so,h1,h2,n,h3⟩:=hL;have e:=mg_of KX T.g (zcM w);have e':mg (qaO "law")=Qa (.ξ zaf):=e;rw[hmg] at e';cases e';have X:(ij w so).K.In s₁.Ν:=by
  intro b o hb;have hb':qa0 b ((v5,so)::KK w.Ϛ)=Qa o:=hb;rw[ZI] at hb'
  split at hb'
  ·rename_i q
   rw[χ] at q;cases hb';subst q;exact h1
  ·exact KX b o hb'
 have hv:jL (ij w so) ⟨[],[]⟩ (ab.fl (ns.π ab.Β)) (.ξ v5):=by
  refine⟨v5,so,n,vs,rfl,⟨?_,h2,h3⟩,Mt hI,?_⟩
  ·show qa0 v5 ((v5,so)::KK w.Ϛ)=Qa so
   rw[ZI,Ϧ]
  ·rw[Jq]
   have:bg=1000000:=rfl
   omega
 obtain⟨H',hr⟩:=O4 ns;refine Mj (C:=ij w so) (fP w so) X T (by rw[hsz];decide) (f:=zfi) (fa:=zaf) (by kernel_rfl) (λfn h=>by
  have e:P0.kh 178=Qa fn:=h;rw[show P0.kh 178=Qa vD from by kernel_rfl] at e;cases e;rfl) hv hr λw' v s' r hk hgs hos=>?_
 have r:v=.ϯ true:=r;subst r;exact GoodW.toG ⟨.wv ⟨.ϯ Qe,.ϯ Qe,[],rfl,λ_=>rfl,.ϯ Qe,by first|kernel_rfl|wrow_post,unshared_nil⟩,hk,hos,hgs.ν hg⟩
end Tactic
end
open PySem PySem.W PySem.W.X PySem.Calls PyProof.Rows
set_option maxHeartbeats 0 in
theorem PySem.Challenge.cw_ui0508_14_holds : PySem.Challenge.rw_ui0508_14.Holds := by
 w_on
 refine holds_law (by
  rw[PySem.W.Fast.te9446332074065402090]
  kernel_rfl) fun said=>?_
 refine holds_openX Tactic.yf (XP:=XL (Tactic.bK Tactic.pw) []) (fun s e=>xl_of s (Bool.and_eq_true_iff.mp e).1) XL.keeps (by rfl) (by rfl) (by rfl) (fun s e=>recFacts_of (Bool.and_eq_true_iff.mp e).2) (by rfl) (by assumption) (by decide+kernel) ⟨rfl,rfl,rfl,rfl,rfl,by decide+kernel⟩ ?hw ?hc
 case hw=>w_witness2
 clear said
 intro w s₀ s₁ mg mb G y fa o pm cd doc dV kV ho hd hcd hD hmg hg args vals as L hpre hlay hrd hwl hlo;have hf:=Tactic.vk y L.keeps
 clear y
 obtain⟨KX,ZN,ZT⟩:=hf;refine Ground.open G ?_;intro T B D TE TW
 wrow_args hpre hlay hrd hwl hlo
 exact Tactic.sf KX ZN T hmg L (by assumption) (by assumption) (by assumption) hg
