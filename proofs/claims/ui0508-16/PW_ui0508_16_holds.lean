import PyProof.Rows.All
import Wide.All
import OpenK.AllK
import Wide.FinOn
import PyProof.Logic
import PySem.Claim
import PySem.PyData
import KE.KSortAsk
import PyProof.P3Statements
import PyProof.StrBlockL
import PyProof.Rows.StrNews2
import OpenK.KCell
import OpenK.KMeth
import PyProof.P3Eq
import PyProof.P3In
import PyProof.EqKinds
import PyProof.TupleKey
import PyProof.SetKind
import PyProof.Rows.RotEnd
import PyProof.Rows.ListMul
import PyProof.IsRules
import PyProof.Rows.TupDisplay
import PyProof.Rows.DictRows
import PyProof.DictStraight
import PyProof.DictIter
import KE.KEqDict
import PyProof.EnumMake
import PyProof.WalksMore
import PyProof.StrWalks
import PyProof.CompFree
import PyProof.Rows.StrNews
import PyProof.Rows.SeqSlice
import PyProof.SliceMore
import PyProof.Rows.StrTemp
import PyProof.StrLawsIdx
import PyProof.MaxThree
import PyProof.TypeOfCall
import PyProof.CallType
import PyProof.Rows.GenSrcRange
import OpenK.KRaise
import KE.KSorted
import KE.KDictOf
import KE.KIntText
import KE.KxPart
import KE.KPop
import PyProof.StrLawsAffix
import PyProof.SetRoads
import KE.KUnpack
import KE.KPar
import KE.KSort
import KE.KDictSum
import KE.KSortTup
import PyProof.Rows.SortKey
import PyProof.Rows.SortStr
import PySem.Challenge.RW_ui0508_16
set_option Elab.async false
set_option linter.all false
set_option autoImplicit false
set_option maxHeartbeats 8000000
set_option maxRecDepth 100000
set_option genInjectivity false
set_option genSizeOfSpec false
set_option genSizeOf false
open Option renaming some->Qa,none->Qc,casesOn->JG,map_eq_some_iff->Za,isSome_iff_exists->Zj,isNone_iff_eq_none->Kn,isSome_some->YM,isSome_none->YN,isSome_map->YQ,map_some->Xm,bind_eq_some_iff->qab,bind_some->qae,map_none->qam,map->qbc,elim->qbp
open Bool renaming false->Qb,true->Qe,and_eq_true_iff->Jn,noConfusion->JJ,false_ne_true->Zq,and_eq_true->ZY,eq_iff_iff->Z8,or_eq_true_iff->K8,and_true->Yi,false_eq_true->YJ,and_false->YT,or_eq_true->Xk,false_or->qaa,and_eq_false_iff->qao,true_and->qaH,not_eq_true'->qaT,false_and->qbh
open PySem renaming wpAny_bind->Qd,Shared->Qf,wpAny_pure->Qg,DictEntry->Qh,wpAny->Qi,Addr->Qj,wpAny_holding->Qk,wpAny_standAt->Qm,World->Qn,wpAny_mono->Qo,wpAny_typeNameOfWhole_keyiter->Qq,NameKind->Qr,wpAny_call_entry->Qs,wpAny_typeNameOf_keyiter->Qt,Setting->Qu,wpAny_newObj_type->Qv,call_type_of->Qw,Stmt->Qx,Program->Qy,call_meetsIn->Qz,atKey_none_of_get->QA,wpAny_dictEntries->QB,Around->QC,Heap->QD,wpAny_pyNext_list_item->QF,wpAny_allTrue_And_cons->QG,wpAny_execs_nil->QH,wpAny_notOrdered_dict->QI,wpAny_isOneOf_keyiter->QJ,wpAny_pyNext_list_end->QK,wpAny_allTrue_Or_cons->QL,wpAny_pyIter_listiter->QM,wpAny_storeName_local->QP,FuncData->QR,wpAny_updateDictKeys->QT,wpAny_pyIter_keyiter->QV,Arguments->QX,wpAny_rule->QY,wpAny_sequenceKey->Q0,slot_dict_setitem->Q1,atKey_of_get->Q2,wpAny_truthy_bool->Q3,wpAny_pyIter_list->Q4,getMethod_builtin->Q5,slot_list_setitem->Q6,sizeLine_eq->Q8,wpAny_dictEpoch->Q9,IsTupleKey->Ja,wpAny_load->Jc,Model->Jh,Flow->Ji,Thread->Jj
open PySem.W renaming dictOf->Ql,piece_app->Qp,boot_heap->QE,cellsFrom_some->QW,boot_drawn->Jd,GoodWG->Je,kas_rev->Jg,Frag->Jl
open PyProof.Rows renaming assign_Tuple_tuple->QZ,valueAt_kvsOf->Jf,IntsAre->Jk
open LawfulMonad renaming pure_bind->Q7
open Nat renaming le_trans->Jm,add_le_add_left->Jp,le_add_right->Jq,lt_of_le_of_lt->Jt,le_refl->Jv,lt_of_lt_of_le->Jw,le_add_left->Jz,le_of_eq->JC,mul_le_mul_left->JD,zero_le->JF,add_le_add->JH,le_of_lt->JL,add_le_add_right->JN,lt_succ_self->JT,lt_succ_of_le->JV,lt_irrefl->J3,le_succ_of_le->J4,add_assoc->J6,le_of_lt_succ->J7,mul_le_mul_right->J8,succ_le_of_lt->J9,not_lt_zero->Zb,le_succ->Ze,succ_le_succ->Zf,ble_eq->Zl,lt_trans->Zp,le_of_not_lt->Zr,not_lt->Zs,lt_succ_of_lt->Zu,not_lt_of_le->Zv,add_lt_add_left->Zw,ble->Zx,min_eq_left->ZD,add_right_comm->ZG,lt_of_le_of_ne->ZI,zero_add->ZK,lt_add_of_pos_right->ZM,one_mul->ZS,succ_pos->ZU,succ->ZX,le_mul_of_pos_right->Z2,ne_of_lt->Ke,add_comm->Kf,ne_of_gt->Kj,sub_lt_of_lt->Kl,gcd->Ks,exists_eq_add_of_le'->Kt,mul_succ->Kv,lt_of_succ_lt_succ->Ky,lt_of_succ_le->KA,le_antisymm->KC,add_mul->KH,min_le_left->KN,two_mul->KV,lt_or_eq_of_le->KZ,ble_eq_true_of_le->K3,pos_of_ne_zero->Yd,le_of_succ_le_succ->Ye,le_add_left_of_le->Yj,add_lt_add_of_le_of_lt->Yq,add_add_add_comm->Yr,not_succ_le_self->Ys,min_eq_right->Yv,sub_self->Yy,gcd_pos_of_pos_right->YF,lt_of_lt_of_eq->YK,sub_add_cancel->YL,add_sub_cancel_left->YP,le_of_sub_eq_zero->YU,min_le_right->YX,add_lt_add_right->Xd,mul_pos->Xe,mul_one->Xh,add_left_cancel->Xn,mul_comm->Xp,not_le->Xt,div_eq_of_eq_mul_right->Xx,le_of_mul_le_mul_right->Xy,lt_of_add_lt_add_left->XA,le_of_succ_le->XJ,pow_add->XU,succ_add_eq_add_succ->XX,sub_le->qag,eq_zero_of_le_zero->qaj,le_mul_of_pos_left->qak,le_sub_of_add_le'->qaq,le_zero->qau,pow_lt_pow_right->qav,pow_le_pow_right->qaw,sub_lt_sub_right->qaz,one_dvd->qaA,mul_assoc->qaJ,sub_lt->qaN,lt_of_succ_lt->qaS,sub_pos_of_lt->qaX,lt_of_not_le->qaZ,lt_add_right->qa1,mul_add->qa4,mul_ne_zero->qa8,pow_dvd_pow->qa9,beq->qbb,cast->qbd,mul_le_mul->qbf,sub_add_eq->qbi,dvd_trans->qbl,sub_zero->qbm,pow_succ->qbn,log2_lt->qbo,pow_pos->qbr,one_pos->qbs,pow_one->qbt,mod_lt->qbu
open List renaming getElem?_eq_getElem->Jo,mem_of_getElem?->Jr,length_map->Js,length_append->Ju,getElem?_eq_some_iff->Jx,getElem?_map->JA,append_assoc->JB,not_mem_nil->JE,mem_singleton->JI,nodup_cons->JK,mem_map->JM,mem_cons->JO,mem_append_right->JQ,map_append->JR,replicate->JU,take_length->JW,getElem?_set_self->JX,map_cons->JY,getElem?_set_ne->JZ,length_set->J0,range'->J5,eq_of_mem_replicate->Zc,mem_append->Zd,getElem_mem->Zg,prefix_append->Zh,append_nil->Zi,range->Zk,length_range->Zm,all_eq_true->Zn,length_replicate->Zy,size_toArray->Zz,length_cons->ZA,length_take->ZC,lookup_cons->ZE,getElem?_concat_length->ZJ,length_filter_le->ZL,mem_filter->ZO,length->ZP,mem_append_left->ZQ,getElem?_eq_none->ZR,map_congr_left->ZV,getElem?_range->ZW,length_eq_zero_iff->ZZ,getElem?_append_right->Z0,drop_length->Z3,mem_of_mem_take->Z4,getElem?_append_left->Z5,mem_or_eq_of_mem_set->Z6,idxOf_lt_length_iff->Z9,getElem?_toArray->Kb,take_append_drop->Kc,getElem?_replicate->Kg,getElem?_eq_none_iff->Km,mem_of_find?_eq_some->Ko,drop_eq_getElem_cons->Kq,nodup_append->Kr,take_succ->Ku,replicate_succ'->Kw,perm_append_comm_assoc->Kx,take_succ_eq_append_getElem->Kz,cons->KD,mem_range->KG,reverse_cons->KJ,find?_some->KQ,filterMap_cons->KR,casesOn->KS,map_map->KU,length_range'->KY,concat_eq_append->K1,set_getElem_self->K4,flatten_cons->K6,prefix_refl->K9,mem_flatten->Ya,zip_cons_cons->Yg,foldl_cons->Yh,contains_iff_mem->Yk,eq_nil_or_concat->Ym,set_append_right->Yn,ext_getElem?->Yo,mem_iff_getElem->Yp,any_eq_true->Yu,cons_append->Yx,getElem_inj->YA,flatten_append->YB,length_reverse->YC,rec->YD,drop_nil->YE,sum_cons->YG,find?_cons->YH,map->YR,foldl_append->YS,length_singleton->YV,perm_middle->YW,length_drop->YY,isEmpty_iff->YZ,drop->Y9,getElem?_of_mem->Xf,forIn_cons->Xi,dropLast_concat_getLast->Xj,sum_append->Xl,map_replicate->Xs,filter_append->Xu,map_singleton->Xv,getElem_idxOf->Xw,any_eq_false->XH,length_filterMap_le->XY,nodup_range->qaf,length_nil->qal,range_succ->qan,mem_iff_getElem?->qap,mapM_cons->qas,mem_of_mem_drop->qat,getElem?_range'->qax,mem_cons_of_mem->qay,replicate_succ->qaB,append_toArray->qaC,map_eq_nil_iff->qaE,flatten_concat->qaF,length_pos_iff->qaG,findIdx?_cons->qaO,range'_concat->qaP,set_set->qaV,set->qaW,range'_succ->qa0,lookup->qa3,of_mem_zip->qa5,nil_append->qa7,findIdx?->qbk
open PySem.Value renaming type->Jy,none->Z7,isStrOf_shape->Ka,isInt_shape->Kd,builtin->Kh,str->KB,int->Xa,bool->qai,casesOn->qaI,ref->qaY
open Array renaming mk->Zo,isEmpty_iff->XT
open Exists renaming elim->Zt
open Int renaming ofNat_lt->ZF,toNat_natCast->KI,ofNat_eq_zero->KL,natCast_nonneg->KW,natCast_mul->K5,ofNat_le->Yt,ofNat->Yz,not_lt->YI,fmod->Xc,toNat_of_nonneg->Xo,fdiv->qar,natAbs_eq_zero->qaL,not_le->qaM,lt_trans->qaR,natCast_add->qa6
open PySem.W.SharedT renaming mk->ZH,abs->qbq
open Ne renaming symm->Ki
open PySem.PyData renaming eqv->KF,list->YO,int->Xb,eqv->qaK,int->qa2,keyHash->qbe,eqvAll->qbj
open PySem.F renaming slot_dict_get->K2,entry_dict_get->Yf,args_dict_get_2->qac,args_dict_get_3->qad
open PySem.Heap renaming lt_size->K7,get?_update_self->Yl
open PySem.Builtin.Range renaming rangeSize->Yb
open PySem.Builtin.Str renaming strSliceIndices->Xq
open Prod renaming mk->Xr,ext->qbg
open Decidable renaming byContradiction->Xz
open Eq renaming symm->XE
open PySem.Data renaming casesOn->qah
open PySem.Builtin.Int renaming intBits->qaD
open PySem.Str renaming ofString->qaQ
open PySem.Txt renaming isspace->qaU
open PySem.Builtin.List renaming listSubscript?->qba
open PySem.W.SL
section
set_option compiler.extract_closed false
set_option compiler.reuse false
open Lean in
local macro_rules (kind:=Lean.Parser.Command.declaration)
 |s=>if (s.getPos? true).isSome then
   let d:=s[1]
   pure ((if s[0].getPos?.isNone&&(d.isOfKind `Lean.Parser.Command.definition||d.isOfKind `Lean.Parser.Command.abbrev) then if d[3][1].isOfKind `Lean.Parser.Term.byTactic then s.setArg 1 (mkNode `Lean.Parser.Command.theorem #[mkAtom "theorem",d[1],mkNode `Lean.Parser.Command.declSig #[d[2][0],d[2][1][0]],d[3]]) else
    let n x:=mkNullNode #[mkNode (d.getKind.getPrefix.str x) #[mkAtom x]]
    s.setArg 0 ((if d[1][0].getId.isAtomic then s[0] else s[0].setArg 3 (n "protected")).setArg 4 (n "noncomputable")) else s).rewriteBottomUp λx=>
    if x.isIdent then mkIdent (x.getId.components.foldl (λa c=>let c:=c.getString!;.str a (((" ε=length ζ=List η=Option θ=Nat ι=elim μ=Value ν=trans ξ=list ο=ref π=if_neg ρ=if_pos ς=map τ=toArray υ=absurd φ=int χ=congrArg ω=lookup Α=casesOn Β=beq_iff_eq Γ=decide_eq_false Δ=none Ε=Bool Ζ=decide_eq_true Η=bind Θ=Frame Ι=zero Κ=cons Λ=var Μ=symm Ν=mono Ξ=PySem Ο=of_decide_eq_true Ρ=Internal Τ=Int Υ=str Φ=params Χ=dict Ψ=isSome Ω=heap Ϛ=zero_add ϛ=Expr Ϝ=motive_1 ϝ=bool Ϟ=beq_false_of_ne ϟ=nil Ϡ=filter ϡ=isPrefixOf_iff_prefix Ϣ=Params ϣ=take Ϥ=start ϥ=Nodup Ϧ=add_assoc ϧ=call Ϩ=mpr ϩ=set Ϫ=decide_eq_true_eq ϫ=beq_self_eq_true Ϭ=next ϭ=builtin Ϯ=add ϯ=cond_false am=len be=Str bm=getD bn=drop ch=inferInstance db=isEmpty dL=inj f8=lit jp=first ld=flatten lf=fields lv=mul lw=tail mo=head mt=get?_push_of_some na=cond_true nb=inl pc=size pi=isNone pt=names py=den re=mem_iff sn=add_comm ss=toList sB=Array sK=int? tz=handled ui=add_zero ut=get? u8=inr v4=zero_mul v6=contains wn=beq_eq_false_iff_ne wr=sub wv=objs wE=function wS=toks wT=Obj w8=type w9=mul_assoc xz=mul_zero xL=get x9=idxOf zn=filterMap At=Decidable AT=wpAny_callSpecial?_slot Ch=pre Db=all Fa=kindOf Go=SameBut Hd=at' Id=args Ix=Heap IN=mul_comm IO=length_eq KT=Attribute LE=update LT=row Mi=toNat No=mul_add Ok=Subtype Op=val Ps=News Rs=list? Sc=isPrefixOf Ta=slot_dict_keyiterator_next Tb=ext Tc=kind Td=inst Te=data Th=body Ti=decide_eq_decide Tj=push Tk=cell Tl=typeIs Tm=String Tn=PyData Tp=cells Tq=ListComp Tr=eq_nil_of_length_eq_zero Ts=reverse Tt=maxQ_l' Tu=length_take_le' Tv=str? Tw=of_decide_eq_false Ty=Challenge Tz=noConfusion TA=choose_spec TC=DecidableEq TD=refl TF=more TH=Perm TI=local TJ=Builtin TK=rw_ui0508_16 TL=wpAny_assign_Name TM=rw' TN=scope TO=dict? "++c++"="++c).splitOn (" "++c++"=")|>.getD 1 c).splitOn " "|>.headD c)) .anonymous) else x.setInfo .none)
  else Macro.throwUnsupported
@[elab_as_elim]theorem Internal.zzB.{u}{α:Sort u}{b:α}{P:α→Prop}{a:α}(h:a=b)(k:P b):P a:=h.symm▸k
open Lean in
local macro_rules (kind:=Lean.Parser.Tactic.rwSeq)
 |s=>
  let r:=s[2][1][0]
  if s[3].isNone&&!r.isMissing&&s[1][0][0].isMissing then
   let m(k:String)(a:Array Syntax):Syntax:=.node .none (.str s.getKind.getPrefix k) a
   let n(a:Array Syntax):Syntax:=.node .none `null a
   let e:=mkAtom ".."
   let v(a:Array Syntax):=s.setArg 2 (s[2].setArg 1 (n a))
   let A f (a:Array Syntax):Syntax:=.node .none `Lean.Parser.Term.app #[f,n a]
   let t:=A r[1] #[.node .none `Lean.Parser.Term.ellipsis #[e]]
   pure (n #[m "first" #[e,n #[n #[e,m "refine" #[e,A (mkIdent `Internal.zzB) #[if r[0].isNone then t else A (mkIdent `Eq.symm) #[t],.node .none `Lean.Parser.Term.syntheticHole #[e,mkAtom "_"]]]],n #[e,(v #[r]).setKind `Lean.Parser.Tactic.rewriteSeq]]],v (s[2][1].getArgs.extract 2)])
  else Macro.throwUnsupported
namespace Internal
theorem xA{P0:Prop}{P1:Prop}{G:Prop}(h:P0/\P1)(k:P0->P1->G):G:=k h.1 h.2
theorem xE.{u0}{α0:Sort u0}{P0:α0->Prop}{G:Prop}(h:∃a0,P0 a0)(k:∀a0:α0,P0 a0->G):G:=h.ι λa0 h0=>k a0 h0
theorem xAA{P0:Prop}{P1:Prop}{P2:Prop}{G:Prop}(h:P0/\P1/\P2)(k:P0->P1->P2->G):G:=k h.1 h.2.1 h.2.2
theorem xEE.{u0,u1}{α0:Sort u0}{α1:Sort u1}{P0:α0->α1->Prop}{G:Prop}(h:∃a0,∃a1,P0 a0 a1)(k:∀a0:α0,∀a1:α1,P0 a0 a1->G):G:=h.ι λa0 h0=>h0.ι λa1 h1=>k a0 a1 h1
theorem xEA.{u0}{α0:Sort u0}{P0:α0->Prop}{P1:α0->Prop}{G:Prop}(h:∃a0,P0 a0/\P1 a0)(k:∀a0:α0,P0 a0->P1 a0->G):G:=h.ι λa0 h0=>k a0 h0.1 h0.2
theorem xEAA.{u0}{α0:Sort u0}{P0:α0->Prop}{P1:α0->Prop}{P2:α0->Prop}{G:Prop}(h:∃a0,P0 a0/\P1 a0/\P2 a0)(k:∀a0:α0,P0 a0->P1 a0->P2 a0->G):G:=h.ι λa0 h0=>k a0 h0.1 h0.2.1 h0.2.2
theorem xEEA.{u0,u1}{α0:Sort u0}{α1:Sort u1}{P0:α0->α1->Prop}{P1:α0->α1->Prop}{G:Prop}(h:∃a0,∃a1,P0 a0 a1/\P1 a0 a1)(k:∀a0:α0,∀a1:α1,P0 a0 a1->P1 a0 a1->G):G:=h.ι λa0 h0=>h0.ι λa1 h1=>k a0 a1 h1.1 h1.2
theorem xEEAA.{u0,u1}{α0:Sort u0}{α1:Sort u1}{P0:α0->α1->Prop}{P1:α0->α1->Prop}{P2:α0->α1->Prop}{G:Prop}(h:∃a0,∃a1,P0 a0 a1/\P1 a0 a1/\P2 a0 a1)(k:∀a0:α0,∀a1:α1,P0 a0 a1->P1 a0 a1->P2 a0 a1->G):G:=h.ι λa0 h0=>h0.ι λa1 h1=>k a0 a1 h1.1 h1.2.1 h1.2.2
theorem xEEAAA.{u0,u1}{α0:Sort u0}{α1:Sort u1}{P0:α0->α1->Prop}{P1:α0->α1->Prop}{P2:α0->α1->Prop}{P3:α0->α1->Prop}{G:Prop}(h:∃a0,∃a1,P0 a0 a1/\P1 a0 a1/\P2 a0 a1/\P3 a0 a1)(k:∀a0:α0,∀a1:α1,P0 a0 a1->P1 a0 a1->P2 a0 a1->P3 a0 a1->G):G:=h.ι λa0 h0=>h0.ι λa1 h1=>k a0 a1 h1.1 h1.2.1 h1.2.2.1 h1.2.2.2
@[elab_as_elim]
theorem lN{α:Type}{a:α}{P:α->Prop}{b:α}(h:Qa a=Qa b)(k:P a):P b:=Qa.dL h▸k
@[elab_as_elim]
theorem soB{α:Type}{b:α}{P:α->Prop}{a:α}(h:Qa a=Qa b)(k:P b):P a:=(Qa.dL h).Μ▸k
@[elab_as_elim]
theorem eqE.{u}{α:Sort u}{a:α}{P:α->Prop}{b:α}(h:a=b)(k:P a):P b:=h▸k
@[elab_as_elim]
theorem eqB.{u}{α:Sort u}{b:α}{P:α->Prop}{a:α}(h:a=b)(k:P b):P a:=h.Μ▸k
theorem rY(b:Ε){P:Prop}(f:b=Qe->P)(g:b=Qb->P):P:=Ε.Α (motive:=λx=>(x=Qe->P)->(x=Qb->P)->P) b (λ_ g=>g rfl) (λf _=>f rfl) f g
theorem FD{α:Type}(o:η α){P:Prop}(f:o=Qc->P)(g:∀x,o=Qa x->P):P:=JG (motive:=λx=>(x=Qc->P)->(∀y,x=Qa y->P)->P) o (λf _=>f rfl) (λx _ g=>g x rfl) f g
section
open PySem
variable{α:Type}{M:Jh}{A:QC}{c:Prop}[Decidable c]{a b:Sem α}{Q:α->Qf->Prop}{E:Value->Qf->Prop}{s:Qf}
def wN(h:¬c)(k:Qi M A b Q E s):Qi M A (if c then a else b) Q E s:=by rw[π h];exact k
def wP(h:c)(k:Qi M A a Q E s):Qi M A (if c then a else b) Q E s:=by rw[ρ h];exact k
end
end Internal
namespace Internal
open PySem
variable{b:Bool}{e:Expr}{p:Option Expr×Option Expr×Option Expr×Pos}{P:Prop}{α β γ:Type}
set_option genCtorIdx false in
inductive ab where
 |none
 |bool(b:Ε)
 |int(i:Τ)
 |str(s:ζ θ)
 |ay(vs:ζ ab)
 |ref(a:θ)
 |ai(a:θ)
 |ty(n:θ)
 |bi(n:θ)
 |gb(n:Τ)
 |fl(vs:ζ ab)
 |ql(n:θ)
set_option genCtorIdx false in
inductive ae where
 |list(vs:ζ ab)
 |dict(ep:η θ)(es:ζ (ab×ab))
 |inst(c:θ)(fs:ζ (θ×ab))
def ab.ctorIdx(x:ab):θ:=ab.Α (Ϝ:=λ_=>θ) x 0 (λ_=>1) (λ_=>2) (λ_=>3) (λ_=>4) (λ_=>5) (λ_=>6) (λ_=>7) (λ_=>8) (λ_=>9) (λ_=>10) (λ_=>11)
def ae.ctorIdx(x:ae):θ:=ae.Α (motive:=λ_=>θ) x (λ_=>0) (λ_ _=>1) (λ_ _=>2)
abbrev MH:=ζ ae
abbrev Θ:=ζ (η ab)
inductive ij where
 |add|sub|mul|fdiv|mod|gU
inductive ub where
 |eq|ne|lt|le|gt|ge|ma|jc|is|gh
set_option genCtorIdx false in
inductive Ex where
 |var(x:θ)
 |lit(v:ab)
 |list(es:ζ Ex)
 |ay(es:ζ Ex)
 |dict(kvs:ζ Ex)
 |ew(op:ij)(a b:Ex)
 |not(a:Ex)
 |ft(op:ub)(a b:Ex)
 |mh(stop:Ε)(es:ζ Ex)
 |ite(c a b:Ex)
 |aq(e:Ex)(n:θ)
 |sub(e i:Ex)
 |slice(e:Ex)(k:θ)(bs:ζ Ex)
 |call(f:Ex)(as:ζ Ex)
 |az(o:Ex)(n:θ)(as:ζ Ex)
 |comp(dz:Ex)(tg:ζ θ)(many:Ε)(it:Ex)(ifs:ζ Ex)
set_option genCtorIdx false in
inductive T1 where
 |nm(x:θ)
 |at(o:Ex)(n:θ)
 |sb(o i:Ex)
set_option genCtorIdx false in
inductive Sm where
 |expr(e:Ex)
 |fm(t:T1)(e:Ex)
 |jo(ts:ζ T1)(e:Ex)
 |ret(e:Ex)
 |ite(c:Ex)(a b:ζ Sm)
 |wh(c:Ex)(b:ζ Sm)
 |fo(tg:ζ θ)(many:Ε)(e:Ex)(b:ζ Sm)
 |brk|cont|sg
 |gw
 |bK(e:Ex)
 |tr(x:θ)(e:Ex)(y:θ)(v:ab)
set_option genCtorIdx false in
inductive Fl where
 |nx|bk|ct
 |rt(v:ab)
abbrev Fn:=θ×θ×ζ ab×θ×ζ Sm
section
variable(ψ:Fn)
abbrev Fn.gy:=ψ.1
abbrev Fn.np:=ψ.2.1
abbrev Fn.mf:=ψ.2.2.1
abbrev Fn.ns:=ψ.2.2.2.1
abbrev Fn.Th:=ψ.2.2.2.2
end
abbrev Cl:=θ×(ζ (θ×ab))×η θ×ζ θ
section
variable(ψ:Cl)
abbrev Cl.gy:=ψ.1
abbrev Cl.kn:=ψ.2.1
abbrev Cl.init:=ψ.2.2.1
abbrev Cl.rc:=ψ.2.2.2
end
abbrev gu:=ζ Fn×ζ Cl×(ζ (θ×θ))
section
variable(ψ:gu)
abbrev gu.oj:=ψ.1
abbrev gu.cls:=ψ.2.1
abbrev gu.ki:=ψ.2.2
end
def ek(x:be):θ:=x.cps.ss.foldl (λa c=>a*256+c) 0
def cf{α β:Type}(o:η (α×MH))(f:α->MH->η (β×MH)):η (β×MH):=JG (motive:=λ_=>η (β×MH)) o Qc λp=>f p.1 p.2
def ba{α:Type}(a b:η α):η α:=JG (motive:=λ_=>η α) a b Qa
def aw{α:Type}(b:Ε)(o:η α):η α:=Ε.Α (motive:=λ_=>η α) b Qc o
def ab.sK(x:ab):η Τ:=ab.Α (Ϝ:=λ_=>η Τ) x .Δ (λ_=>.Δ) Qa (λ_=>.Δ) (λ_=>.Δ) (λ_=>.Δ) (λ_=>.Δ) (λ_=>.Δ) (λ_=>.Δ) (λ_=>.Δ) (λ_=>.Δ) (λ_=>.Δ)
def ab.Tv(x:ab):η (ζ θ):=ab.Α (Ϝ:=λ_=>η (ζ θ)) x .Δ (λ_=>.Δ) (λ_=>.Δ) Qa (λ_=>.Δ) (λ_=>.Δ) (λ_=>.Δ) (λ_=>.Δ) (λ_=>.Δ) (λ_=>.Δ) (λ_=>.Δ) (λ_=>.Δ)
def ab.tup?(x:ab):η (ζ ab):=ab.Α (Ϝ:=λ_=>η (ζ ab)) x .Δ (λ_=>.Δ) (λ_=>.Δ) (λ_=>.Δ) Qa (λ_=>.Δ) (λ_=>.Δ) (λ_=>.Δ) (λ_=>.Δ) (λ_=>.Δ) (λ_=>.Δ) (λ_=>.Δ)
def ab.ref?(x:ab):η θ:=ab.Α (Ϝ:=λ_=>η θ) x .Δ (λ_=>.Δ) (λ_=>.Δ) (λ_=>.Δ) (λ_=>.Δ) Qa (λ_=>.Δ) (λ_=>.Δ) (λ_=>.Δ) (λ_=>.Δ) (λ_=>.Δ) (λ_=>.Δ)
def ab.top?(x:ab):η θ:=ab.Α (Ϝ:=λ_=>η θ) x .Δ (λ_=>.Δ) (λ_=>.Δ) (λ_=>.Δ) (λ_=>.Δ) (λ_=>.Δ) Qa (λ_=>.Δ) (λ_=>.Δ) (λ_=>.Δ) (λ_=>.Δ) (λ_=>.Δ)
def ab.ty?(x:ab):η θ:=ab.Α (Ϝ:=λ_=>η θ) x .Δ (λ_=>.Δ) (λ_=>.Δ) (λ_=>.Δ) (λ_=>.Δ) (λ_=>.Δ) (λ_=>.Δ) Qa (λ_=>.Δ) (λ_=>.Δ) (λ_=>.Δ) (λ_=>.Δ)
def ab.bi?(x:ab):η θ:=ab.Α (Ϝ:=λ_=>η θ) x .Δ (λ_=>.Δ) (λ_=>.Δ) (λ_=>.Δ) (λ_=>.Δ) (λ_=>.Δ) (λ_=>.Δ) (λ_=>.Δ) Qa (λ_=>.Δ) (λ_=>.Δ) (λ_=>.Δ)
def ab.fl?(x:ab):η (ζ ab):=ab.Α (Ϝ:=λ_=>η (ζ ab)) x .Δ (λ_=>.Δ) (λ_=>.Δ) (λ_=>.Δ) (λ_=>.Δ) (λ_=>.Δ) (λ_=>.Δ) (λ_=>.Δ) (λ_=>.Δ) (λ_=>.Δ) Qa (λ_=>.Δ)
def ab.bool?(x:ab):η Ε:=ab.Α (Ϝ:=λ_=>η Ε) x .Δ Qa (λ_=>.Δ) (λ_=>.Δ) (λ_=>.Δ) (λ_=>.Δ) (λ_=>.Δ) (λ_=>.Δ) (λ_=>.Δ) (λ_=>.Δ) (λ_=>.Δ) (λ_=>.Δ)
def ab.rng?(x:ab):η Τ:=ab.Α (Ϝ:=λ_=>η Τ) x .Δ (λ_=>.Δ) (λ_=>.Δ) (λ_=>.Δ) (λ_=>.Δ) (λ_=>.Δ) (λ_=>.Δ) (λ_=>.Δ) (λ_=>.Δ) Qa (λ_=>.Δ) (λ_=>.Δ)
def ab.pi(x:ab):Ε:=ab.Α (Ϝ:=λ_=>Ε) x Qe (λ_=>Qb) (λ_=>Qb) (λ_=>Qb) (λ_=>Qb) (λ_=>Qb) (λ_=>Qb) (λ_=>Qb) (λ_=>Qb) (λ_=>Qb) (λ_=>Qb) (λ_=>Qb)
def ae.Rs(o:ae):η (ζ ab):=ae.Α (motive:=λ_=>η (ζ ab)) o Qa (λ_ _=>Qc) (λ_ _=>Qc)
def ae.TO(o:ae):η (η θ×ζ (ab×ab)):=ae.Α (motive:=λ_=>η (η θ×ζ (ab×ab))) o (λ_=>Qc) (λe es=>Qa (e,es)) (λ_ _=>Qc)
def ae.inst?(o:ae):η (θ×ζ (θ×ab)):=ae.Α (motive:=λ_=>η (θ×ζ (θ×ab))) o (λ_=>Qc) (λ_ _=>Qc) (λc fs=>Qa (c,fs))
def j6(h:MH)(x:ab):η (ζ ab):=x.ref?.Η λa=>h[a]?.Η ae.Rs
def lV(h:MH)(x:ab):η (η θ×ζ (ab×ab)):=x.ref?.Η λa=>h[a]?.Η ae.TO
def ck(h:MH)(x:ab):η (θ×ζ (θ×ab)):=x.ref?.Η λa=>h[a]?.Η ae.inst?
def a0{α:Type}(as:ζ ab)(f:η α):η α:=KS (motive:=λ_=>η α) as f λ_ _=>Qc
def a1{α:Type}(as:ζ ab)(f:ab->η α):η α:=KS (motive:=λ_=>η α) as Qc λv r=>a0 r (f v)
def a2{α:Type}(as:ζ ab)(f:ab->ab->η α):η α:=KS (motive:=λ_=>η α) as Qc λv r=>a1 r (f v)
def a3{α:Type}(as:ζ ab)(f:ab->ab->ab->η α):η α:=KS (motive:=λ_=>η α) as Qc λv r=>a2 r (f v)
def ku(h:MH):θ->ab->η Tn
 |_,.Δ=>Qa .Δ
 |_,.ϝ b=>Qa (.ϝ b)
 |_,.φ i=>Qa (.φ i)
 |_,.Υ s=>Qa (.Υ ⟨s.τ⟩)
 |k+1,.ay vs=>(vs.mapM (ku h k)).ς .tuple
 |k+1,.ο a=>(j6 h (.ο a)).Η λvs=>(vs.mapM (ku h k)).ς .ξ
 |_,_=>Qc
def LO(h:MH)(a b:ab):η Ε:=(ku h 8 a).Η λx=>(ku h 8 b).ς λy=>qaK x y
def gc(a b:ab):Ε:=(LO [] a b).bm Qb
def jO(es:ζ (ab×ab))(k:ab):η ab:=(es.find? λp=>gc p.1 k).ς (·.2)
def nB(v:ab):Ε:=v.sK.Ψ||v.Tv.Ψ
def kG(v:ab):θ:=bif nB v then 1 else bif (v.tup?.ς λvs=>vs.Db nB).bm Qb then 3 else 0
def S9(es:ζ (ab×ab)):η θ:=es.head?.ς λp=>kG p.1
def kr(h:MH)(a b:ab):η Ε:=
 ba ((lV h a).Η λ_=>Qc) (LO h a b)
def truthy(h:MH)(x:ab):η Ε:=ab.Α (Ϝ:=λ_=>η Ε) x (Qa Qb) Qa (λi=>Qa (i !=0)) (λs=>Qa (!s.db)) (λvs=>Qa (!vs.db))
 (λa=>(j6 h (.ο a)).ς λvs=>!vs.db) (λ_=>Qc) (λ_=>Qc) (λ_=>Qc) (λ_=>Qc) (λ_=>Qc) (λ_=>Qc)
def jN(es:ζ (ab×ab))(k:ab):Ε:=kG k !=0 && (es.db||S9 es==Qa (kG k))
def mK(es:ζ (ab×ab))(k v:ab):ζ (ab×ab):=
 bif (jO es k).Ψ then es.ς λp=>bif gc p.1 k then(p.1,v) else p else es++[(k,v)]
def vV:ζ ab->ζ (ab×ab)->η (ζ (ab×ab))
 | [],es=>Qa es
 | [_],_=>Qc
 |k::v::r,es=>aw (jN es k) (vV r (mK es k v))
def lX(h:MH)(o:ae):η (ab×MH):=Qa (.ο h.ε,h++[o])
def bc:θ:=1000000
def wd:θ:=2 ^ 100000
def jh:θ:=2 ^ 8000
def HB(a b:Τ):Ε:=Zx (a.natAbs+1) wd && Zx (b.natAbs+1) wd
def Hk(l:θ)(n:Τ):Ε:=decide (n<=bc) && decide (-(bc:Τ)<=n) && Zx (l*n.Mi) bc
def zat(h:MH)(x y:ab):η (ab×MH):=
 ba (x.sK.Η λa=>y.sK.Η λb=>Qa (.φ (a+b),h))
 (x.Tv.Η λa=>y.Tv.Η λb=>aw (Zx (a.ε+b.ε) bc) (Qa (.Υ (a++b),h)))
def HA(h:MH)(x y:ab):η (ab×MH):=
 ba (x.sK.Η λa=>y.sK.Η λb=>aw (HB a b) (Qa (.φ (a*b),h)))
 (ba (x.sK.Η λa=>y.bool?.Η λb=>Qa (.φ (a*(if b then 1 else 0)),h))
 ((j6 h x).Η λa=>y.sK.Η λn=>aw (Hk a.ε n) (lX h (.ξ (JU n.Mi a).ld))))
def Dn(op:ij)(a b:Τ):η Τ:=ij.Α (motive:=λ_=>η Τ) op Qc (Qa (a-b)) Qc
 (aw (b !=0 && Zx (b.natAbs+1) jh) (Qa (qar a b))) (aw (b !=0) (Qa (Xc a b))) Qc
def oZ(op:ij)(x y:ab)(h:MH):η (ab×MH):=
 ba (x.sK.Η λa=>y.sK.Η λb=>(Dn op a b).ς λk=>(.φ k,h))
 (ij.Α (motive:=λ_=>η (ab×MH)) op (zat h x y) Qc (HA h x y) Qc Qc Qc)
def qx(a b:ab):η Ε:=
 ba (aw b.pi (Qa a.pi))
 (ba (a.ty?.Η λi=>b.ty?.ς λj=>i==j)
 (ba (a.top?.Η λi=>b.top?.ς λj=>i==j)
 (aw (a.pi||a.sK.Ψ||a.tup?.Ψ) (b.top?.ς λ_=>Qb))))
def xX(h:MH)(x:ab)(vs:ζ ab):η Ε:=(vs.mapM (ku h 7)).Η λds=>(ku h 7 x).ς λd=>ds.any λy=>qaK y d
def one?(s:ζ θ):η θ:=KS (motive:=λ_=>η θ) s Qc λc r=>KS (motive:=λ_=>η θ) r (Qa c) λ_ _=>Qc
def Ua(h:MH)(x y:ab):η Ε:=
 ba (y.Tv.Η λt=>(x.Tv.Η one?).ς λc=>t.v6 c)
 (ba (y.tup?.Η λvs=>xX h x vs)
 (ba ((j6 h y).Η λvs=>xX h x vs)
 ((lV h y).Η λd=>aw (jN d.2 x) (Qa (jO d.2 x).Ψ))))
def M6(x y:ab)(f:Τ->Τ->Ε):η Ε:=x.sK.Η λa=>y.sK.ς λb=>f a b
def mP(op:ub)(a b:ab)(h:MH):η Ε:=ub.Α (motive:=λ_=>η Ε) op (kr h a b) ((kr h a b).ς (!·))
 (M6 a b λx y=>decide (x<y)) (M6 a b λx y=>decide (x<=y)) (M6 a b λx y=>decide (y<x)) (M6 a b λx y=>decide (y<=x))
 (Ua h a b) ((Ua h a b).ς (!·)) (qx a b) ((qx a b).ς (!·))
def og(n:θ)(i:ab):η θ:=i.sK.Η λi=>aw (decide (0<=i) && decide (i<n)) (Qa i.Mi)
def kJ(h:MH)(o i:ab):η ab:=
 ba (o.tup?.Η λvs=>(og vs.ε i).Η λk=>vs[k]?)
 (ba (o.fl?.Η λvs=>(og vs.ε i).Η λk=>vs[k]?)
 (ba ((j6 h o).Η λvs=>(og vs.ε i).Η λk=>vs[k]?)
 ((lV h o).Η λd=>aw (jN d.2 i) (jO d.2 i))))
def xQ(n:θ)(v:ab):η θ:=v.sK.Η λi=>aw (decide (0<=i)) (Qa (min i.Mi n))
def Vr(n k:θ)(bs:ζ ab):η (θ×θ):=
 bif k==3 then a2 bs λa b=>(xQ n a).Η λx=>(xQ n b).ς λy=>(x,y) else Qc
def km{α:Type}(l:ζ α)(a b:θ):ζ α:=(l.ϣ b).bn a
def slice(h:MH)(o:ab)(k:θ)(bs:ζ ab):η (ab×MH):=o.Tv.Η λs=>(Vr s.ε k bs).Η λp=>Qa (.Υ (km s p.1 p.2),h)
def lT(h:MH)(o i v:ab):η MH:=o.ref?.Η λa=>
 ba ((h[a]?.Η ae.Rs).Η λvs=>(og vs.ε i).ς λk=>h.ϩ a (.ξ (vs.ϩ k v)))
 ((h[a]?.Η ae.TO).Η λd=>aw (jN d.2 i && Zx (d.2.ε+1) bc) (Qa (h.ϩ a (.Χ (bif (jO d.2 i).Ψ then d.1 else d.1.ς (· +1)) (mK d.2 i v)))))
def vS(fs:ζ (θ×ab))(n:θ):η ab:=(fs.find? λp=>p.1==n).ς (·.2)
def Va:ζ (θ×ab)->θ->ab->ζ (θ×ab)
 | [],n,v=>[(n,v)]
 |p::r,n,v=>bif p.1==n then(n,v)::r else p::Va r n v
def gu.gd(P:gu)(c:θ):η Cl:=P.cls.find? λx=>x.gy==c
def gu.lh(P:gu)(c n:θ):η ab:=(P.gd c).Η λx=>vS x.kn n
def gu.cz(P:gu)(c n:θ):Ε:=((P.gd c).ς λk=>k.rc.v6 n).bm Qb
def gu.ck(P:gu)(a:θ):η θ:=(P.ki.find? λp=>p.1==a).ς (·.2)
def U2(P:gu)(v:ab):Ε:=(v.top?.ς λa=>P.oj.any λf=>f.gy==a).bm Qb
def u6(P:gu)(c n:θ):η ab:=(P.lh c n).Η λv=>aw (!U2 P v) (Qa v)
def getAttr(P:gu)(h:MH)(o:ab)(n:θ):η ab:=
 ba ((ck h o).Η λq=>JG (motive:=λ_=>η ab) (vS q.2 n) (u6 P q.1 n) λv=>aw (P.cz q.1 n) (Qa v))
 (o.top?.Η λa=>(P.ck a).Η λc=>u6 P c n)
def setAttr(P:gu)(h:MH)(o:ab)(n:θ)(v:ab):η MH:=o.ref?.Η λa=>(h[a]?.Η ae.inst?).Η λq=>
 aw (P.cz q.1 n && Zx (q.2.ε+1) 400) (Qa (h.ϩ a (.Td q.1 (Va q.2 n v))))
def y4(P:gu)(c n:θ):η θ:=(P.lh c n).Η λv=>aw (U2 P v) v.top?
def mV(P:gu)(h:MH)(o:ab)(n:θ):η (θ×ζ ab):=
 ba (o.top?.Η λa=>JG (motive:=λ_=>η (θ×ζ ab)) (P.ck a) ((y4 P a n).ς λf=>(f,[])) λc=>(y4 P c n).ς λf=>(f,[o]))
 ((ck h o).Η λq=>aw (vS q.2 n).pi ((y4 P q.1 n).ς λf=>(f,[o])))
set_option genCtorIdx false in
inductive It where
 |ls(a:θ)
 |tp(vs:ζ ab)
 |dk(a n ep:θ)
 |sq(s:ζ θ)
 |rg(n:Τ)
 |fs(vs:ζ ab)
def nA(h:MH)(x:ab):η It:=
 ba (x.rng?.Η λn=>aw (decide (n<=bc) && decide (-(bc:Τ)<=n)) (Qa (.rg n)))
 (ba (x.ref?.Η λa=>ba ((h[a]?.Η ae.Rs).ς λ_=>.ls a) ((h[a]?.Η ae.TO).Η λd=>d.1.ς λep=>.dk a d.2.ε ep))
 (ba (x.tup?.ς .tp) (ba (x.Tv.ς .sq) (x.fl?.ς .fs))))
def lI(h:MH)(i:θ)(k:It):η (η ab):=It.Α (motive:=λ_=>η (η ab)) k
 (λa=>(h[a]?.Η ae.Rs).ς λvs=>vs[i]?)
 (λvs=>Qa vs[i]?)
 (λa n ep=>(h[a]?.Η ae.TO).Η λd=>aw (d.1==Qa ep && d.2.ε==n) (Qa (d.2[i]?.ς (·.1))))
 (λs=>Qa (s[i]?.ς λc=>.Υ [c]))
 (λn=>Qa (bif decide ((i:Τ)<n) then Qa (.φ i) else Qc))
 (λvs=>Qa vs[i]?)
def items(h:MH)(x:ab):η (ζ ab):=ba x.tup? (j6 h x)
def uI(tg:ζ θ)(vs:ζ ab)(fr:Θ):Θ:=(tg.zip vs).foldl (λf p=>f.ϩ p.1 (Qa p.2)) fr
def mQ(fr:Θ)(tg:ζ θ)(many:Ε)(v:ab):η Θ:=
 bif many then v.tup?.Η λvs=>aw (vs.ε==tg.ε) (Qa (uI tg vs fr)) else aw (tg.ε==1) (Qa (uI tg [v] fr))
abbrev uK:θ:=7103854
abbrev Pp:θ:=7168376
abbrev zbW:θ:=7170414
abbrev wR:θ:=126922498794852
abbrev WU:θ:=491260897125
abbrev Hw:θ:=1818850164
abbrev Ep:θ:=1684628340
abbrev ID:θ:=500186508389
abbrev zbU:θ:=7566450
abbrev zbX:θ:=6909556
abbrev IC:θ:=1954115685
abbrev zeO:θ:=7562612
abbrev SV:θ:=1651470188
abbrev UV:θ:=5651857438861258853
abbrev fg:θ:=107135549927012
abbrev qw:θ:=7368560
abbrev zjc:θ:=452823639416
abbrev jz:θ:=6776180
abbrev lx:θ:=29681812198482789
abbrev zkk:θ:=1785686382
abbrev zbV:θ:=2073057139020767260526
abbrev zjb:θ:=495807392116
abbrev zja:θ:=495874894192
abbrev SQ:θ:=545218989645367805047912
abbrev zkl:θ:=1718185572
abbrev zkH:θ:=6382692
def DH(h:MH)(x:ab):η θ:=ab.Α (Ϝ:=λ_=>η θ) x (Qa UV) (λ_=>Qa SV) (λ_=>Qa zbX) (λ_=>Qa zbU) (λ_=>Qa ID)
 (λa=>(j6 h (.ο a)).ς λ_=>Hw) (λ_=>Qc) (λ_=>Qc) (λ_=>Qc) (λ_=>Qc) (λ_=>Qc) (λ_=>Qc)
def Mb(h:MH)(x:ab):η θ:=ab.Α (Ϝ:=λ_=>η θ) x Qc (λ_=>Qc) (λ_=>Qc) (λs=>Qa s.ε) (λvs=>Qa vs.ε)
 (λa=>ba ((j6 h (.ο a)).ς (·.ε)) ((lV h (.ο a)).ς (·.2.ε))) (λ_=>Qc) (λ_=>Qc) (λ_=>Qc) (λ_=>Qc) (λvs=>Qa vs.ε) Qa
def zfq(l:ζ ab):η (ζ Τ):=l.mapM ab.sK
def zap(as:ζ ab)(h:MH):η (ab×MH):=a1 as λv=>(Mb h v).ς λ(k:θ)=>(ab.φ (k:Τ),h)
def zao(as:ζ ab)(h:MH):η (ab×MH):=a2 as λx y=>x.sK.Η λa=>y.sK.ς λb=>(.φ (if b>a then b else a),h)
def zan(as:ζ ab)(h:MH):η (ab×MH):=a2 as λx y=>x.sK.Η λa=>y.sK.ς λb=>(.φ (if b<a then b else a),h)
def Rf(a:ζ θ):ζ θ->Ε:=YD (motive:=λ_=>ζ θ->Ε) (λb=>YD (motive:=λ_=>Ε) Qb (λ_ _ _=>Qe) b) (λx _ ih b=>YD (motive:=λ_=>Ε) Qb (λy r _=>Ε.rec (motive:=λ_=>Ε) (Ε.rec (motive:=λ_=>Ε) (ih r) Qb (Zx (ZX y) x)) Qe (Zx (ZX x) y)) b) a
def yt{α:Type}(lt:θ->θ->Ε)(t:Ξ.W.KasT α):α:=Ξ.W.KasT.rec (motive:=λ_=>α) (λa=>a) (λi j _ ih=>ih (lt i j)) t
def Rd(x y:ab):Ε:=(ba (x.Tv.Η λs=>y.Tv.ς (Rf s)) (x.sK.Η λi=>y.sK.ς λj=>decide (i<j))).bm Qb
def zci(a:ζ ab):ζ ab->Ε:=YD (motive:=λ_=>ζ ab->Ε) (λ_=>Qb) (λx _ ih b=>KS (motive:=λ_=>Ε) b Qb λy r=>bif gc x y then ih r else Rd x y) a
def ltV(x y:ab):Ε:=JG (motive:=λ_=>Ε) x.tup? (Rd x y) λl=>zci l (y.tup?.bm [])
def OP(v:ab):ζ Ε:=(v.tup?.bm []).ς λx=>x.Tv.Ψ
def okV(l:ζ ab):Ε:=Zx l.ε 60 && (l.Db (λv=>nB v && v.Tv.Ψ==(l.headD .Δ).Tv.Ψ)||l.Db λv=>kG v==3 && decide (OP v=Qe::(OP (l.headD .Δ)).lw))
def zF(l:ζ ab):ζ ab:=bif Zx l.ε 1 then l else(yt (λi j=>ltV (l.bm i .Δ) (l.bm j .Δ)) (Ξ.W.kas_sort l.ε)).ss.ς λi=>l.bm i .Δ
def w7(h:MH)(x:ab):η (ζ ab):=ba ((lV h x).ς λp=>p.2.ς (·.1)) (j6 h x)
def Dh(as:ζ ab)(h:MH):η (ab×MH):=a1 as λx=>(w7 h x).Η λms=>aw (okV ms) (lX h (.ξ (zF ms)))
def Lj(n:θ)(as:ζ ab)(h:MH):η (ab×MH):=
 ba (aw (n==uK) (zap as h)) (ba (aw (n==Pp) (zao as h)) (ba (aw (n==zbW) (zan as h)) (aw (n==wR) (Dh as h))))
def AV(as:ζ ab)(h:MH):η (ab×MH):=a1 as λx=>x.sK.ς λk=>(.gb k,h)
def B4(as:ζ ab)(h:MH):η (ab×MH):=a1 as λx=>ba (x.tup?.Η λvs=>lX h (.ξ vs)) (ba (x.fl?.Η λvs=>lX h (.ξ vs)) ((j6 h x).Η λvs=>lX h (.ξ vs)))
def B5(as:ζ ab)(h:MH):η (ab×MH):=a1 as λx=>(lV h x).Η λd=>aw (d.2.Db λp=>kG p.1==1) (lX h (.Χ Qc d.2))
def zdP(as:ζ ab)(h:MH):η (ab×MH):=Qc
def zdQ(as:ζ ab)(h:MH):η (ab×MH):=Qc
def B3(as:ζ ab)(h:MH):η (ab×MH):=a1 as λx=>(DH h x).ς λk=>(.ty k,h)
def zkN(l:ζ ab):Ε:=YD Qe (λv r b=>!(r.any (gc v)) && b) l
def SD(x:ab)(h:MH):η (ab×MH):=Qc
def Li(n:θ)(as:ζ ab)(h:MH):η (ab×MH):=
 ba (aw (n==WU) (AV as h)) (ba (aw (n==Hw) (B4 as h)) (ba (aw (n==zbU) (zdP as h)) (ba (aw (n==IC) (B3 as h)) (ba (aw (n==Ep) (B5 as h)) (ba (aw (n==zbX) (zdQ as h)) (aw (n==zeO) (a1 as λx=>SD x h)))))))
def zbk(s:ζ θ):Ε:=s.Db (λc=>Zx (c+1) 0x110000) && Zx s.ε bc
def A0(s:ζ θ)(n:θ)(as:ζ ab)(h:MH):η (ab×MH):=aw (n==lx) (a0 as (Qa (.ϝ (Txt.isspace ⟨s.τ⟩),h)))
def wZ(a:θ)(vs:ζ ab)(n:θ)(as:ζ ab)(h:MH):η (ab×MH):=
 ba (aw (n==fg) (a1 as λv=>aw (Zx (vs.ε+1) bc) (Qa (.Δ,h.ϩ a (.ξ (vs++[v]))))))
 (aw (n==qw) (a0 as (vs.getLast?.ς λv=>(v,h.ϩ a (.ξ vs.dropLast)))))
def xP(es:ζ (ab×ab))(n:θ)(as:ζ ab)(h:MH):η (ab×MH):=
 aw (n==jz) (ba (a1 as λk=>aw (jN es k) (Qa ((jO es k).bm .Δ,h))) (a2 as λk d=>aw (jN es k) (Qa ((jO es k).bm d,h))))
def y7(o:ab)(n:θ)(as:ζ ab)(h0 h:MH):η (ab×MH):=
 ba (o.Tv.Η λs=>A0 s n as h)
 (o.ref?.Η λa=>ba ((h0[a]?.Η ae.Rs).Η λ_=>(h[a]?.Η ae.Rs).Η λvs=>wZ a vs n as h) ((h0[a]?.Η ae.TO).Η λ_=>(h[a]?.Η ae.TO).Η λd=>xP d.2 n as h))
abbrev Cx:=gu×θ×(θ->ζ ab->MH->η (ab×MH))
section
variable(ψ:Cx)
abbrev Cx.P:=ψ.1
abbrev Cx.cv:=ψ.2.1
abbrev Cx.ϧ:=ψ.2.2
end
def Pm(c:Cx)(a:θ)(k:Cl)(as:ζ ab)(h:MH):η (ab×MH):=
 k.init.Η λi=>cf (c.ϧ i (.ο h.ε::as) (h++[.Td a []])) λr h'=>aw r.pi (Qa (.ο h.ε,h'))
def jJ(c:Cx)(f:ab)(as:ζ ab)(h:MH):η (ab×MH):=
 ba (f.top?.Η λa=>JG (motive:=λ_=>η (ab×MH)) (c.P.gd a) (c.ϧ a as h) λk=>Pm c a k as h)
 (ba (f.bi?.Η λn=>Lj n as h) (f.ty?.Η λn=>Li n as h))
def j1(c:Cx)(o:ab)(n:θ)(as:ζ ab)(h0 h:MH):η (ab×MH):=
 JG (motive:=λ_=>η (ab×MH)) (mV c.P h0 o n) (y7 o n as h0 h) λp=>c.ϧ p.1 (p.2++as) h
def lQ(p:η (ab×MH)):η (Ε×MH):=cf p λv h=>(truthy h v).ς λb=>(b,h)
def compLoop(next:θ->MH->η (η ab))(test:ab->MH->η (η Θ×MH))(dz:Θ->MH->η (ab×MH))(acc:θ):θ->θ->MH->η (Unit×MH)
 |0,_,_=>Qc
 |n+1,i,h=>(next i h).Η λov=>JG (motive:=λ_=>η (Unit×MH)) ov (Qa ((),h)) λv=>
  cf (test v h) λofr h1=>JG (motive:=λ_=>η (Unit×MH)) ofr (compLoop next test dz acc n (i+1) h1) λfr=>
   cf (dz fr h1) λx h2=>(h2[acc]?.Η ae.Rs).Η λvs=>aw (Zx (vs.ε+1) bc) (compLoop next test dz acc n (i+1) (h2.ϩ acc (.ξ (vs++[x]))))
mutual
noncomputable def eval (c:Cx):Ex->Frame->MH->Option (ab×MH)
 | .var x,fr,h=>fr[x]?.bind λo=>o.map λv=>(v,h)
 | .lit v,_,h=>Qa (v,h)
 | .list es,fr,h=>cf (qC c es fr h) λvs h1=>lX h1 (.list vs)
 | .ay es,fr,h=>cf (qC c es fr h) λvs h1=>Qa (.ay vs,h1)
 | .dict kvs,fr,h=>cf (qC c kvs fr h) λl h1=>(vV l []).bind λes=>aw (Zx kvs.length 30) (lX h1 (.dict (Qa es.length) es))
 | .ew op a b,fr,h=>cf (eval c a fr h) λx h1=>cf (eval c b fr h1) λy h2=>oZ op x y h2
 | .not a,fr,h=>cf (lQ (eval c a fr h)) λb h1=>Qa (.bool (!b),h1)
 | .ft op a b,fr,h=>cf (eval c a fr h) λx h1=>cf (eval c b fr h1) λy h2=>(mP op x y h2).map λr=>(.bool r,h2)
 | .mh stop es,fr,h=>y5 c stop es fr h
 | .ite t a b,fr,h=>cf (lQ (eval c t fr h)) λr h1=>bif r then eval c a fr h1 else eval c b fr h1
 | .aq e n,fr,h=>cf (eval c e fr h) λo h1=>(getAttr c.P h1 o n).map λv=>(v,h1)
 | .sub e i,fr,h=>cf (eval c e fr h) λo h1=>cf (eval c i fr h1) λk h2=>(kJ h2 o k).map λv=>(v,h2)
 | .slice e k bs,fr,h=>cf (eval c e fr h) λo h1=>cf (qC c bs fr h1) λvs h2=>slice h2 o k vs
 | .call f as,fr,h=>cf (eval c f fr h) λg h1=>cf (qC c as fr h1) λvs h2=>jJ c g vs h2
 | .az o n as,fr,h=>cf (eval c o fr h) λv h1=>cf (qC c as fr h1) λvs h2=>j1 c v n vs h1 h2
 | .comp dz tg many it ifs,fr,h=>cf (eval c it fr h) λv h1=>(nA h1 v).bind λk=>
   cf (compLoop (λi h=>lI h i k) (λv h=>(mQ fr tg many v).bind λfr'=>cf (HU c ifs fr' h) λb h'=>Qa (bif b then Qa fr' else Qc,h')) (λfr' h=>eval c dz fr' h) h1.length c.cv 0 (h1++[.list []]))
    λ_ h2=>Qa (.ref h1.length,h2)
noncomputable def qC (c:Cx):List Ex->Frame->MH->Option (List ab×MH)
 | [],_,h=>Qa ([],h)
 |e::r,fr,h=>cf (eval c e fr h) λv h1=>cf (qC c r fr h1) λvs h2=>Qa (v::vs,h2)
noncomputable def y5 (c:Cx) (stop:Bool):List Ex->Frame->MH->Option (ab×MH)
 | [],_,_=>Qc
 |e::r,fr,h=>cf (eval c e fr h) λv h1=>bif r.isEmpty then Qa (v,h1) else(truthy h1 v).bind λb=>bif b==stop then Qa (v,h1) else y5 c stop r fr h1
noncomputable def HU (c:Cx):List Ex->Frame->MH->Option (Bool×MH)
 | [],_,h=>Qa (Qe,h)
 |e::r,fr,h=>cf (lQ (eval c e fr h)) λb h1=>bif b then HU c r fr h1 else Qa (Qb,h1)
end
def LX(c:Cx)(fr:Θ)(h:MH)(v:ab):T1->η (Θ×MH)
 | .nm x=>Qa (fr.ϩ x (Qa v),h)
 | .at o n=>cf (eval c o fr h) λov h1=>(setAttr c.P h1 ov n v).ς λh2=>(fr,h2)
 | .sb o i=>cf (eval c o fr h) λov h1=>cf (eval c i fr h1) λiv h2=>(lT h2 ov iv v).ς λh3=>(fr,h3)
def oR(c:Cx):ζ T1->ζ ab->Θ->MH->η (Θ×MH)
 | [],vs,fr,h=>aw vs.db (Qa (fr,h))
 |t::ts,vs,fr,h=>vs.head?.Η λv=>cf (LX c fr h v t) λfr' h'=>oR c ts vs.lw fr' h'
abbrev SR:=η ((Fl×Θ)×MH)
def W3(cond:Θ->MH->η (Ε×MH))(body:Θ->MH->SR):θ->Θ->MH->SR
 |0,_,_=>Qc
 |n+1,fr,h=>cf (cond fr h) λb h1=>bif b then cf (body fr h1) λp h2=>Fl.Α (motive:=λ_=>SR) p.1 (W3 cond body n p.2 h2) (Qa ((.nx,p.2),h2)) (W3 cond body n p.2 h2) (λv=>Qa ((.rt v,p.2),h2))
  else Qa ((.nx,fr),h1)
def UZ(next:θ->MH->η (η ab))(bind:Θ->ab->η Θ)(body:Θ->MH->SR):θ->θ->Θ->MH->SR
 |0,_,_,_=>Qc
 |n+1,i,fr,h=>(next i h).Η λov=>JG (motive:=λ_=>SR) ov (Qa ((.nx,fr),h)) λv=>(bind fr v).Η λfr1=>
   cf (body fr1 h) λp h2=>Fl.Α (motive:=λ_=>SR) p.1 (UZ next bind body n (i+1) p.2 h2) (Qa ((.nx,p.2),h2)) (UZ next bind body n (i+1) p.2 h2) (λv=>Qa ((.rt v,p.2),h2))
mutual
noncomputable def exec (c:Cx):Sm->Frame->MH->SR
 | .expr e,fr,h=>cf (eval c e fr h) λ_ h1=>Qa ((.nx,fr),h1)
 | .fm t e,fr,h=>cf (eval c e fr h) λv h1=>cf (LX c fr h1 v t) λfr' h2=>Qa ((.nx,fr'),h2)
 | .jo ts e,fr,h=>cf (eval c e fr h) λv h1=>(items h1 v).bind λvs=>cf (oR c ts vs fr h1) λfr' h2=>Qa ((.nx,fr'),h2)
 | .ret e,fr,h=>cf (eval c e fr h) λv h1=>Qa ((.rt v,fr),h1)
 | .ite t a b,fr,h=>cf (lQ (eval c t fr h)) λr h1=>bif r then execs c a fr h1 else execs c b fr h1
 | .wh t b,fr,h=>W3 (λfr h=>lQ (eval c t fr h)) (λfr h=>execs c b fr h) c.cv fr h
 | .fo tg many e b,fr,h=>cf (eval c e fr h) λv h1=>(nA h1 v).bind λk=>UZ (λi h=>lI h i k) (λfr v=>mQ fr tg many v) (λfr h=>execs c b fr h) c.cv 0 fr h1
 | .brk,fr,h=>Qa ((.bk,fr),h)
 | .cont,fr,h=>Qa ((.ct,fr),h)
 | .sg,fr,h=>Qa ((.nx,fr),h)
 | .gw,_,_=>Qc
 | .bK _,_,_=>Qc
 | .tr _ _ _ _,_,_=>Qc
noncomputable def execs (c:Cx):List Sm->Frame->MH->SR
 | [],fr,h=>Qa ((.nx,fr),h)
 |s::r,fr,h=>cf (exec c s fr h) λp h1=>Fl.casesOn (motive:=λ_=>SR) p.1 (execs c r p.2 h1) (Qa (p,h1)) (Qa (p,h1)) (λ_=>Qa (p,h1))
end
def gu.jn(P:gu)(a:θ):η Fn:=P.oj.find? λf=>f.gy==a
def rF(f:Fn)(as:ζ ab):η (ζ ab):=aw (Zx as.ε f.np && Zx (f.np-as.ε) f.mf.ε) (Qa (as++f.mf.bn (f.mf.ε-(f.np-as.ε))))
def oV(f:Fn)(vs:ζ ab):Θ:=vs.ς Qa++JU (f.ns-f.np) Qc
def RG(p:Fl×Θ)(h:MH):η (ab×MH):=Fl.Α (motive:=λ_=>η (ab×MH)) p.1 (Qa (.Δ,h)) Qc Qc λv=>Qa (v,h)
def mD(P:gu)(cv:θ):θ->θ->ζ ab->MH->η (ab×MH)
 |0,_,_,_=>Qc
 |d+1,a,as,h=>(P.jn a).Η λf=>(rF f as).Η λvs=>cf (execs ⟨P,cv,mD P cv d⟩ f.Th (oV f vs) h) RG
abbrev CC:=(ζ (be×Qr))×(ζ (be×θ))×θ×(ζ (be×ab))
section
variable(ψ:CC)
abbrev CC.sc:=ψ.1
abbrev CC.jk:=ψ.2.1
abbrev CC.Ϭ:=ψ.2.2.1
abbrev CC.gl:=ψ.2.2.2
end
def jL (x:be):Ε:=x.cps.ss.Db (λc=>1<=c && c<=255) && x !=("__debug__":be) && x !=("__class__":be) && x !=("super":be) && !x.cps.ss.db
def MW:Const->η ab
 | .Δ=>Qa .Δ
 | .ϝ b=>Qa (.ϝ b)
 | .φ i=>Qa (.φ i)
 | .Υ s=>aw (zbk s.cps.ss) (Qa (.Υ s.cps.ss))
 |_=>Qc
def nG(cx:CC)(x:be):η θ:=aw (cx.sc.ω x==Qa .TI||cx.sc.ω x==Qa .Tk) (cx.jk.ω x)
def EK:Operator->η ij
 | .Add=>Qa .Ϯ
 | .Sub=>Qa .wr
 | .Mult=>Qa .lv
 | .FloorDiv=>Qa .fdiv
 | .Mod=>Qa .mod
 | .Pow=>Qa .gU
 |_=>Qc
def EF:CmpOp->ub
 | .Eq=>.eq
 | .NotEq=>.ne
 | .Lt=>.lt
 | .LtE=>.le
 | .Gt=>.gt
 | .GtE=>.ge
 | .In=>.ma
 | .NotIn=>.jc
 | .Is=>.is
 | .IsNot=>.gh
def pY(e:ϛ):η (be×Pos):=ϛ.Α (Ϝ:=λ_=>η (be×Pos)) e (λ_ _ _=>Qc) (λ_ _ _=>Qc) (λ_ _ _ _=>Qc) (λ_ _ _=>Qc) (λ_ _ _ _=>Qc) (λ_ _ _ _=>Qc) (λ_ _ _=>Qc) (λ_ _ _=>Qc) (λ_ _ _ _=>Qc) (λ_ _ _ _=>Qc) (λ_ _ _ _ _=>Qc) (λ_ _ _ _=>Qc) (λ_ _=>Qc) (λ_ _=>Qc) (λ_ _=>Qc) (λ_ _ _ _=>Qc) (λ_ _ _ _=>Qc) (λ_ _ _ _=>Qc) (λ_ _=>Qc) (λ_ _ _=>Qc) (λ_ _ _=>Qc) (λ_ _ _=>Qc) (λ_ _=>Qc) (λx y=>Qa (x,y)) (λ_ _=>Qc) (λ_ _ _=>Qc) (λ_ _ _ _=>Qc)
def VI(e:ϛ):η (ϛ×be×Pos):=ϛ.Α (Ϝ:=λ_=>η (ϛ×be×Pos)) e (λ_ _ _=>Qc) (λ_ _ _=>Qc) (λ_ _ _ _=>Qc) (λ_ _ _=>Qc) (λ_ _ _ _=>Qc) (λ_ _ _ _=>Qc) (λ_ _ _=>Qc) (λ_ _ _=>Qc) (λ_ _ _ _=>Qc) (λ_ _ _ _=>Qc) (λ_ _ _ _ _=>Qc) (λ_ _ _ _=>Qc) (λ_ _=>Qc) (λ_ _=>Qc) (λ_ _=>Qc) (λ_ _ _ _=>Qc) (λ_ _ _ _=>Qc) (λ_ _ _ _=>Qc) (λ_ _=>Qc) (λ_ _ _=>Qc) (λx y z=>Qa (x,y,z)) (λ_ _ _=>Qc) (λ_ _=>Qc) (λ_ _=>Qc) (λ_ _=>Qc) (λ_ _ _=>Qc) (λ_ _ _ _=>Qc)
def u7(e:ϛ):η (ζ ϛ×θ×Pos):=ϛ.Α (Ϝ:=λ_=>η (ζ ϛ×θ×Pos)) e (λ_ _ _=>Qc) (λ_ _ _=>Qc) (λ_ _ _ _=>Qc) (λ_ _ _=>Qc) (λ_ _ _ _=>Qc) (λ_ _ _ _=>Qc) (λ_ _ _=>Qc) (λ_ _ _=>Qc) (λ_ _ _ _=>Qc) (λ_ _ _ _=>Qc) (λ_ _ _ _ _=>Qc) (λ_ _ _ _=>Qc) (λ_ _=>Qc) (λ_ _=>Qc) (λ_ _=>Qc) (λ_ _ _ _=>Qc) (λ_ _ _ _=>Qc) (λ_ _ _ _=>Qc) (λ_ _=>Qc) (λ_ _ _=>Qc) (λ_ _ _=>Qc) (λ_ _ _=>Qc) (λ_ _=>Qc) (λ_ _=>Qc) (λ_ _=>Qc) (λx y z=>Qa (x,y,z)) (λ_ _ _ _=>Qc)
def Nh(e:ϛ):η (ϛ×ϛ×Pos):=ϛ.Α (Ϝ:=λ_=>η (ϛ×ϛ×Pos)) e (λ_ _ _=>Qc) (λ_ _ _=>Qc) (λ_ _ _ _=>Qc) (λ_ _ _=>Qc) (λ_ _ _ _=>Qc) (λ_ _ _ _=>Qc) (λ_ _ _=>Qc) (λ_ _ _=>Qc) (λ_ _ _ _=>Qc) (λ_ _ _ _=>Qc) (λ_ _ _ _ _=>Qc) (λ_ _ _ _=>Qc) (λ_ _=>Qc) (λ_ _=>Qc) (λ_ _=>Qc) (λ_ _ _ _=>Qc) (λ_ _ _ _=>Qc) (λ_ _ _ _=>Qc) (λ_ _=>Qc) (λ_ _ _=>Qc) (λ_ _ _=>Qc) (λx y z=>Qa (x,y,z)) (λ_ _=>Qc) (λ_ _=>Qc) (λ_ _=>Qc) (λ_ _ _=>Qc) (λ_ _ _ _=>Qc)
def xV(e:ϛ):η (η ϛ×η ϛ×η ϛ×Pos):=ϛ.Α (Ϝ:=λ_=>η (η ϛ×η ϛ×η ϛ×Pos)) e (λ_ _ _=>Qc) (λ_ _ _=>Qc) (λ_ _ _ _=>Qc) (λ_ _ _=>Qc) (λ_ _ _ _=>Qc) (λ_ _ _ _=>Qc) (λ_ _ _=>Qc) (λ_ _ _=>Qc) (λ_ _ _ _=>Qc) (λ_ _ _ _=>Qc) (λ_ _ _ _ _=>Qc) (λ_ _ _ _=>Qc) (λ_ _=>Qc) (λ_ _=>Qc) (λ_ _=>Qc) (λ_ _ _ _=>Qc) (λ_ _ _ _=>Qc) (λ_ _ _ _=>Qc) (λ_ _=>Qc) (λ_ _ _=>Qc) (λ_ _ _=>Qc) (λ_ _ _=>Qc) (λ_ _=>Qc) (λ_ _=>Qc) (λ_ _=>Qc) (λ_ _ _=>Qc) (λx y z u=>Qa (x,y,z,u))
def Ni(e:ϛ):η (ϛ×ζ ϛ×ζ Keyword×Pos):=ϛ.Α (Ϝ:=λ_=>η (ϛ×ζ ϛ×ζ Keyword×Pos)) e (λ_ _ _=>Qc) (λ_ _ _=>Qc) (λ_ _ _ _=>Qc) (λ_ _ _=>Qc) (λ_ _ _ _=>Qc) (λ_ _ _ _=>Qc) (λ_ _ _=>Qc) (λ_ _ _=>Qc) (λ_ _ _ _=>Qc) (λ_ _ _ _=>Qc) (λ_ _ _ _ _=>Qc) (λ_ _ _ _=>Qc) (λ_ _=>Qc) (λ_ _=>Qc) (λ_ _=>Qc) (λ_ _ _ _=>Qc) (λx y z u=>Qa (x,y,z,u)) (λ_ _ _ _=>Qc) (λ_ _=>Qc) (λ_ _ _=>Qc) (λ_ _ _=>Qc) (λ_ _ _=>Qc) (λ_ _=>Qc) (λ_ _=>Qc) (λ_ _=>Qc) (λ_ _ _=>Qc) (λ_ _ _ _=>Qc)
def ES(e:ϛ):η (Const×θ×Pos):=ϛ.Α (Ϝ:=λ_=>η (Const×θ×Pos)) e (λ_ _ _=>Qc) (λ_ _ _=>Qc) (λ_ _ _ _=>Qc) (λ_ _ _=>Qc) (λ_ _ _ _=>Qc) (λ_ _ _ _=>Qc) (λ_ _ _=>Qc) (λ_ _ _=>Qc) (λ_ _ _ _=>Qc) (λ_ _ _ _=>Qc) (λ_ _ _ _ _=>Qc) (λ_ _ _ _=>Qc) (λ_ _=>Qc) (λ_ _=>Qc) (λ_ _=>Qc) (λ_ _ _ _=>Qc) (λ_ _ _ _=>Qc) (λ_ _ _ _=>Qc) (λ_ _=>Qc) (λx y z=>Qa (x,y,z)) (λ_ _ _=>Qc) (λ_ _ _=>Qc) (λ_ _=>Qc) (λ_ _=>Qc) (λ_ _=>Qc) (λ_ _ _=>Qc) (λ_ _ _ _=>Qc)
def pT(e:ϛ):Ε:=ϛ.Α (Ϝ:=λ_=>Ε) e (λ_ _ _=>Qb) (λ_ _ _=>Qb) (λ_ _ _ _=>Qb) (λ_ _ _=>Qb) (λ_ _ _ _=>Qb) (λ_ _ _ _=>Qb) (λ_ _ _=>Qb) (λ_ _ _=>Qb) (λx y z u=>Qe) (λ_ _ _ _=>Qb) (λ_ _ _ _ _=>Qb) (λ_ _ _ _=>Qb) (λ_ _=>Qb) (λ_ _=>Qb) (λ_ _=>Qb) (λ_ _ _ _=>Qb) (λ_ _ _ _=>Qb) (λ_ _ _ _=>Qb) (λ_ _=>Qb) (λ_ _ _=>Qb) (λ_ _ _=>Qb) (λ_ _ _=>Qb) (λ_ _=>Qb) (λ_ _=>Qb) (λ_ _=>Qb) (λ_ _ _=>Qb) (λ_ _ _ _=>Qb)
def Vx(e:ϛ):Ε:=ϛ.Α (Ϝ:=λ_=>Ε) e (λ_ _ _=>Qe) (λ_ _ _=>Qe) (λ_ _ _ _=>Qe) (λ_ _ _=>Qe) (λ_ _ _ _=>Qe) (λ_ _ _ _=>Qe) (λ_ _ _=>Qe) (λ_ _ _=>Qe) (λ_ _ _ _=>Qe) (λ_ _ _ _=>Qe) (λ_ _ _ _ _=>Qe) (λ_ _ _ _=>Qe) (λ_ _=>Qe) (λ_ _=>Qe) (λ_ _=>Qe) (λ_ _ _ _=>Qe) (λx y z u=>!y.db) (λ_ _ _ _=>Qe) (λ_ _=>Qe) (λ_ _ _=>Qe) (λ_ _ _=>Qe) (λ_ _ _=>Qe) (λ_ _=>Qe) (λ_ _=>Qe) (λ_ _=>Qe) (λ_ _ _=>Qe) (λ_ _ _ _=>Qe)
def nY(f:α->η β):ζ α->η (ζ β)
 | []=>Qa []
 |a::r=>(f a).Η λb=>(nY f r).ς λbs=>b::bs
def FB(l:ζ α)(f:α->η β):η β:=KS (motive:=λ_=>η β) l Qc λa r=>KS (motive:=λ_=>η β) r (f a) λ_ _=>Qc
inductive lH(R:α->β->Prop):ζ α->ζ β->Prop
 |ϟ:lH R [] []
 |Κ{a:α}{b:β}{as:ζ α}{bs:ζ β}:R a b->lH R as bs->lH R (a::as) (b::bs)
variable{o:Option α}{f:α->Option β}{r:β}
theorem bs(h:o.Η f=Qa r):∃a,o=Qa a/\f a=Qa r:=qab.mp h
theorem ms{f:α->β}(h:o.ς f=Qa r):∃a,o=Qa a/\f a=r:=Za.mp h
def gs{r:α}(h:aw b o=Qa r):b=Qe/\o=Qa r:=by
 cases b
 ·cases h
 ·exact⟨rfl,h⟩
theorem jR(g:∀a,o=Qa a->f a=Qa r->P)(h:o.Η f=Qa r):P:=(bs h).ι λa h=>g a h.1 h.2
theorem kE{f:α->β}(g:∀a,o=Qa a->f a=r->P)(h:o.ς f=Qa r):P:=(ms h).ι λa h=>g a h.1 h.2
theorem mB{r:α}(g:b=Qe->o=Qa r->P)(h:aw b o=Qa r):P:=g (gs h).1 (gs h).2
variable{a:Option α}
theorem kQ{b:η α}{r:α}(g:a=Qa r->P)(g':b=Qa r->P):ba a b=Qa r->P:=JG (motive:=λa=>(a=Qa r->P)->ba a b=Qa r->P) a (λ_ h=>g' h) (λ_ g h=>g h) g
theorem jH{o:η (α×MH)}{f:α->MH->η (β×MH)}{r:β×MH}(g:∀a h,o=Qa (a,h)->f a h=Qa r->P):cf o f=Qa r->P:=JG (motive:=λo=>(∀a h,o=Qa (a,h)->f a h=Qa r->P)->cf o f=Qa r->P) o (λ_ h=>η.Tz rfl (heq_of_eq h)) (λp g h=>g p.1 p.2 rfl h) g
variable{l:List α}
def WQ(h:FB l f=Qa r):∃a,l=[a]/\f a=Qa r:=by
 cases l with
 |ϟ=>cases h
 |Κ a l=>
  cases l with
  |ϟ=>exact⟨a,rfl,h⟩
  |Κ _ _=>cases h
def qU:∀{r:ζ β},nY f l=Qa r->lH (λa b=>f a=Qa b) l r:=by
 induction l with
 |ϟ=>intro r h;cases h;exact .ϟ
 |Κ a l ih=>
  intro r h;obtain⟨b,h1,h⟩:=bs h;refine(ms h).ι λbs zq1=>?_;obtain rfl:=zq1.2;exact .Κ h1 (ih zq1.1)
variable{R:α->β->Prop}{as:List α}
def lH.Ν{S:α->β->Prop}(h:∀a b,R a b->S a b){bs:ζ β}(r:lH R as bs):lH S as bs:=by
 induction r with
 |ϟ=>exact .ϟ
 |Κ x _ ih=>exact .Κ (h _ _ x) ih
def lH.ε{bs:ζ β}(r:lH R as bs):bs.ε=as.ε:=by
 induction r with
 |ϟ=>rfl
 |Κ _ _ ih=>exact χ (· +1) ih
theorem af{p:α}(h:Qc=Qa p):P:=nomatch h
theorem zfW{p:ϛ×ζ ϛ×ζ Keyword×Pos}:Ni e=Qa p->e=.Call p.1 p.2.1 p.2.2.1 p.2.2.2:=ϛ.Α (Ϝ:=λe=>Ni e=Qa p->e=.Call p.1 p.2.1 p.2.2.1 p.2.2.2) e (λ_ _ _ h=>af h) (λ_ _ _ h=>af h) (λ_ _ _ _ h=>af h) (λ_ _ _ h=>af h) (λ_ _ _ _ h=>af h) (λ_ _ _ _ h=>af h) (λ_ _ _ h=>af h) (λ_ _ _ h=>af h) (λ_ _ _ _ h=>af h) (λ_ _ _ _ h=>af h) (λ_ _ _ _ _ h=>af h) (λ_ _ _ _ h=>af h) (λ_ _ h=>af h) (λ_ _ h=>af h) (λ_ _ h=>af h) (λ_ _ _ _ h=>af h) (λx y z u h=>Qa.dL h▸rfl) (λ_ _ _ _ h=>af h) (λ_ _ h=>af h) (λ_ _ _ h=>af h) (λ_ _ _ h=>af h) (λ_ _ _ h=>af h) (λ_ _ h=>af h) (λ_ _ h=>af h) (λ_ _ h=>af h) (λ_ _ _ h=>af h) (λ_ _ _ _ h=>af h)
theorem zdv{p:Const×θ×Pos}:ES e=Qa p->e=.Constant p.1 p.2.1 p.2.2:=ϛ.Α (Ϝ:=λe=>ES e=Qa p->e=.Constant p.1 p.2.1 p.2.2) e (λ_ _ _ h=>af h) (λ_ _ _ h=>af h) (λ_ _ _ _ h=>af h) (λ_ _ _ h=>af h) (λ_ _ _ _ h=>af h) (λ_ _ _ _ h=>af h) (λ_ _ _ h=>af h) (λ_ _ _ h=>af h) (λ_ _ _ _ h=>af h) (λ_ _ _ _ h=>af h) (λ_ _ _ _ _ h=>af h) (λ_ _ _ _ h=>af h) (λ_ _ h=>af h) (λ_ _ h=>af h) (λ_ _ h=>af h) (λ_ _ _ _ h=>af h) (λ_ _ _ _ h=>af h) (λ_ _ _ _ h=>af h) (λ_ _ h=>af h) (λx y z h=>Qa.dL h▸rfl) (λ_ _ _ h=>af h) (λ_ _ _ h=>af h) (λ_ _ h=>af h) (λ_ _ h=>af h) (λ_ _ h=>af h) (λ_ _ _ h=>af h) (λ_ _ _ _ h=>af h)
theorem qH{p:be×Pos}:pY e=Qa p->e=.Name p.1 p.2:=ϛ.Α (Ϝ:=λe=>pY e=Qa p->e=.Name p.1 p.2) e (λ_ _ _ h=>af h) (λ_ _ _ h=>af h) (λ_ _ _ _ h=>af h) (λ_ _ _ h=>af h) (λ_ _ _ _ h=>af h) (λ_ _ _ _ h=>af h) (λ_ _ _ h=>af h) (λ_ _ _ h=>af h) (λ_ _ _ _ h=>af h) (λ_ _ _ _ h=>af h) (λ_ _ _ _ _ h=>af h) (λ_ _ _ _ h=>af h) (λ_ _ h=>af h) (λ_ _ h=>af h) (λ_ _ h=>af h) (λ_ _ _ _ h=>af h) (λ_ _ _ _ h=>af h) (λ_ _ _ _ h=>af h) (λ_ _ h=>af h) (λ_ _ _ h=>af h) (λ_ _ _ h=>af h) (λ_ _ _ h=>af h) (λ_ _ h=>af h) (λx y h=>Qa.dL h▸rfl) (λ_ _ h=>af h) (λ_ _ _ h=>af h) (λ_ _ _ _ h=>af h)
theorem VH{p:ϛ×be×Pos}:VI e=Qa p->e=.KT p.1 p.2.1 p.2.2:=ϛ.Α (Ϝ:=λe=>VI e=Qa p->e=.KT p.1 p.2.1 p.2.2) e (λ_ _ _ h=>af h) (λ_ _ _ h=>af h) (λ_ _ _ _ h=>af h) (λ_ _ _ h=>af h) (λ_ _ _ _ h=>af h) (λ_ _ _ _ h=>af h) (λ_ _ _ h=>af h) (λ_ _ _ h=>af h) (λ_ _ _ _ h=>af h) (λ_ _ _ _ h=>af h) (λ_ _ _ _ _ h=>af h) (λ_ _ _ _ h=>af h) (λ_ _ h=>af h) (λ_ _ h=>af h) (λ_ _ h=>af h) (λ_ _ _ _ h=>af h) (λ_ _ _ _ h=>af h) (λ_ _ _ _ h=>af h) (λ_ _ h=>af h) (λ_ _ _ h=>af h) (λx y z h=>Qa.dL h▸rfl) (λ_ _ _ h=>af h) (λ_ _ h=>af h) (λ_ _ h=>af h) (λ_ _ h=>af h) (λ_ _ _ h=>af h) (λ_ _ _ _ h=>af h)
theorem Wa{p:ζ ϛ×θ×Pos}:u7 e=Qa p->e=.Tuple p.1 p.2.1 p.2.2:=ϛ.Α (Ϝ:=λe=>u7 e=Qa p->e=.Tuple p.1 p.2.1 p.2.2) e (λ_ _ _ h=>af h) (λ_ _ _ h=>af h) (λ_ _ _ _ h=>af h) (λ_ _ _ h=>af h) (λ_ _ _ _ h=>af h) (λ_ _ _ _ h=>af h) (λ_ _ _ h=>af h) (λ_ _ _ h=>af h) (λ_ _ _ _ h=>af h) (λ_ _ _ _ h=>af h) (λ_ _ _ _ _ h=>af h) (λ_ _ _ _ h=>af h) (λ_ _ h=>af h) (λ_ _ h=>af h) (λ_ _ h=>af h) (λ_ _ _ _ h=>af h) (λ_ _ _ _ h=>af h) (λ_ _ _ _ h=>af h) (λ_ _ h=>af h) (λ_ _ _ h=>af h) (λ_ _ _ h=>af h) (λ_ _ _ h=>af h) (λ_ _ h=>af h) (λ_ _ h=>af h) (λ_ _ h=>af h) (λx y z h=>Qa.dL h▸rfl) (λ_ _ _ _ h=>af h)
theorem Sh{p:ϛ×ϛ×Pos}:Nh e=Qa p->e=.Subscript p.1 p.2.1 p.2.2:=ϛ.Α (Ϝ:=λe=>Nh e=Qa p->e=.Subscript p.1 p.2.1 p.2.2) e (λ_ _ _ h=>af h) (λ_ _ _ h=>af h) (λ_ _ _ _ h=>af h) (λ_ _ _ h=>af h) (λ_ _ _ _ h=>af h) (λ_ _ _ _ h=>af h) (λ_ _ _ h=>af h) (λ_ _ _ h=>af h) (λ_ _ _ _ h=>af h) (λ_ _ _ _ h=>af h) (λ_ _ _ _ _ h=>af h) (λ_ _ _ _ h=>af h) (λ_ _ h=>af h) (λ_ _ h=>af h) (λ_ _ h=>af h) (λ_ _ _ _ h=>af h) (λ_ _ _ _ h=>af h) (λ_ _ _ _ h=>af h) (λ_ _ h=>af h) (λ_ _ _ h=>af h) (λ_ _ _ h=>af h) (λx y z h=>Qa.dL h▸rfl) (λ_ _ h=>af h) (λ_ _ h=>af h) (λ_ _ h=>af h) (λ_ _ _ h=>af h) (λ_ _ _ _ h=>af h)
theorem Bl:xV e=Qa p->e=.Slice p.1 p.2.1 p.2.2.1 p.2.2.2:=ϛ.Α (Ϝ:=λe=>xV e=Qa p->e=.Slice p.1 p.2.1 p.2.2.1 p.2.2.2) e (λ_ _ _ h=>af h) (λ_ _ _ h=>af h) (λ_ _ _ _ h=>af h) (λ_ _ _ h=>af h) (λ_ _ _ _ h=>af h) (λ_ _ _ _ h=>af h) (λ_ _ _ h=>af h) (λ_ _ _ h=>af h) (λ_ _ _ _ h=>af h) (λ_ _ _ _ h=>af h) (λ_ _ _ _ _ h=>af h) (λ_ _ _ _ h=>af h) (λ_ _ h=>af h) (λ_ _ h=>af h) (λ_ _ h=>af h) (λ_ _ _ _ h=>af h) (λ_ _ _ _ h=>af h) (λ_ _ _ _ h=>af h) (λ_ _ h=>af h) (λ_ _ _ h=>af h) (λ_ _ _ h=>af h) (λ_ _ _ h=>af h) (λ_ _ h=>af h) (λ_ _ h=>af h) (λ_ _ h=>af h) (λ_ _ _ h=>af h) (λx y z u h=>Qa.dL h▸rfl)
def qS(e:ϛ):η be:=(pY e).ς (·.1)
def wF(e:ϛ):η (ζ be×Ε):=ba ((pY e).ς λp=>([p.1],Qb)) ((u7 e).Η λp=>(nY qS p.1).ς λxs=>(xs,Qe))
def vW(outer:ζ (be×Qr))(sc:Scope):ζ (be×Qr):=
 sc.pt.ς λp=>(p.1,if (p.2==.free && outer.ω p.1==Qa .Tk)=Qe then .Tk else p.2)
def cn(cx:CC)(sc:Scope)(xs:ζ be):CC:=
 ⟨vW cx.sc sc,xs.zip (J5 cx.Ϭ xs.ε)++cx.jk,cx.Ϭ+xs.ε,cx.gl⟩
def Vn(cx:CC)(sc:Scope)(xs:ζ be):Ε:=
 sc.Tc==.wE &&
 (sc.pt.Db λp=>p.2 !=.Tk && (p.2 !=.TI||(sc.pt.ω p.1==Qa .TI && (xs.v6 p.1||(cx.jk.ω p.1).pi))) && (p.2 !=.free||(sc.pt.ω p.1==Qa .free && cx.sc.ω p.1==Qa .Tk))) &&
 xs.Db (λx=>sc.pt.ω x==Qa .TI) && decide xs.ϥ
def UE:ζ Ex->ζ Ex->ζ Ex
 |k::ks,v::vs=>k::v::UE ks vs
 |_,_=>[]
def IA(cx:CC)(x:be):η Ex:=aw (jL x) (JG (motive:=λ_=>η Ex) (nG cx x) (aw (cx.sc.ω x==Qa .globalImplicit) ((cx.gl.ω x).ς .f8)) λi=>Qa (.Λ i))
def zfR(f:ϛ->η Ex)(cx:CC)(pos:Pos)(as:ζ Ex)(g:ϛ):η Ex:=
 ba ((pY g).Η λp=>(IA cx p.1).ς λe=>.ϧ e as)
 ((VI g).Η λp=>aw (jL p.2.1 && Vx p.1 && p.2.2.endLine==pos.line) ((f p.1).ς λe=>.az e (ek p.2.1) as))
def Ll(f:ϛ->η Ex)(lo hi:η ϛ):η (θ×ζ Ex):=
 JG (motive:=λ_=>η (θ×ζ Ex)) lo Qc
  λa=>(f a).Η λx=>JG (motive:=λ_=>η (θ×ζ Ex)) hi Qc λb=>(f b).ς λy=>(3,[x,y])
def zg8(f:ϛ->η Ex)(v sl:ϛ):η Ex:=
 JG (motive:=λ_=>η Ex) (xV sl) ((f v).Η λe=>(f sl).ς λi=>.wr e i)
  λp=>aw ((pY v).Ψ && p.2.2.1.pi) ((f v).Η λe=>(Ll f p.1 p.2.1).ς λq=>.slice e q.1 q.2)
def lA:θ->CC->ϛ->η Ex
 |0,_,_=>Qc
 |n+1,cx,e=>match e with
  | .Constant c _ _=>(MW c).ς .f8
  | .Name x _=>IA cx x
  | .BoolOp op vs _=>(nY (lA n cx) vs).ς (.mh (op==.Or))
  | .BinOp l op r _=>(EK op).Η λo=>(lA n cx l).Η λa=>(lA n cx r).ς λb=>.ew o a b
  | .UnaryOp op x _=>aw (op==.Not) ((lA n cx x).ς .not)
  | .IfExp t a b _=>(lA n cx t).Η λt'=>(lA n cx a).Η λa'=>(lA n cx b).ς λb'=>.ite t' a' b'
  | .ζ es _=>aw (Zx es.ε 1000) ((nY (lA n cx) es).ς .ξ)
  | .Tuple es _ _=>aw (Zx es.ε 1000) ((nY (lA n cx) es).ς .ay)
  | .Compare l ops cs _=>FB ops λo=>FB cs λr=>(lA n cx l).Η λa=>(lA n cx r).ς λb=>.ft (EF o) a b
  | .Call f as ks pos=>aw (ks.db && Zx as.ε 20) ((nY (lA n cx) as).Η λbs=>zfR (lA n cx) cx pos bs f)
  | .KT v nm _=>aw (jL nm && Vx v) ((lA n cx v).ς λe=>.aq e (ek nm))
  | .Subscript v sl _=>zg8 (lA n cx) v sl
  | .Dict ks vs _=>aw (ks.ε==vs.ε) ((nY (λo=>o.Η (lA n cx)) ks).Η λa=>(nY (lA n cx) vs).ς λb=>.Χ (UE a b))
  | .Tq dz gens sc _=>FB gens λg=>(wF g.target).Η λt=>aw (g.is_async==0 && Vn cx sc t.1) ((lA n cx g.iter).Η λit=>(nY (lA n (cn cx sc t.1)) g.ifs).Η λifs=>
    (lA n (cn cx sc t.1) dz).ς λe=>.comp e (J5 cx.Ϭ t.1.ε) t.2 it ifs)
  |_=>Qc
abbrev pJ:CC->ϛ->η Ex:=lA 60
def MY(cx:CC)(t:ϛ):η T1:=
 ba ((pY t).Η λp=>aw (jL p.1) ((nG cx p.1).ς .nm))
 (ba ((VI t).Η λp=>aw (jL p.2.1) ((pJ cx p.1).ς λe=>.at e (ek p.2.1)))
 ((Nh t).Η λp=>(pJ cx p.1).Η λa=>(pJ cx p.2.1).ς λb=>.sb a b))
def GF(cx:CC)(x:be):η θ:=aw (jL x) (nG cx x)
def MZ(cx:CC)(t:ϛ):η (Ex×θ):=(VI t).Η λp=>aw (jL p.2.1) ((pJ cx p.1).ς λe=>(e,ek p.2.1))
def UI(v:ϛ):Ε:=!pT v && ((u7 v).ς λp=>!p.1.Db (constantsAlone 8)).bm Qe
def Iz(es:ζ ϛ):η (ζ be):=(nY qS es).Η λxs=>aw (decide xs.ϥ) (Qa xs)
def zjT(cx:CC)(v t:ϛ):η Sm:=
 JG (motive:=λ_=>η Sm) (u7 t) ((MY cx t).Η λa=>(pJ cx v).ς λb=>.fm a b)
  λp=>aw (UI v) ((pJ cx v).Η λb=>ba ((Iz p.1).Η λxs=>(nY (GF cx) xs).ς λis=>.jo (is.ς .nm) b)
   (aw (!p.1.db) ((nY (MZ cx) p.1).ς λts=>.jo (ts.ς λq=>.at q.1 q.2) b)))
def tC:θ->CC->Qx->η Sm
 |0,_,_=>Qc
 |n+1,cx,st=>match st with
  | .ϛ v _=>aw (!pT v) ((pJ cx v).ς .expr)
  | .Pass _=>Qa .sg
  | .Break _=>Qa .brk
  | .Continue _=>Qa .cont
  | .Return v _=>JG (motive:=λ_=>η Sm) v (Qa (.ret (.f8 .Δ))) λe=>(pJ cx e).ς .ret
  | .Assign ts v _=>FB ts (zjT cx v)
  | .If t a b _=>(pJ cx t).Η λx=>(nY (λs=>Qa ((tC n cx s).bm .gw)) a).Η λy=>(nY (λs=>Qa ((tC n cx s).bm .gw)) b).ς λz=>.ite x y z
  | .While t b e _=>aw e.db ((pJ cx t).Η λx=>(nY (λs=>Qa ((tC n cx s).bm .gw)) b).ς λy=>.wh x y)
  | .For t it b e _=>aw e.db ((wF t).Η λq=>aw (decide q.1.ϥ) ((pJ cx it).Η λx=>(nY (GF cx) q.1).Η λsl=>(nY (λs=>Qa ((tC n cx s).bm .gw)) b).ς λy=>.fo sl q.2 x y))
  |_=>Qc
abbrev zal(cx:CC):ζ Qx->η (ζ Sm):=nY λs=>Qa ((tC 40 cx s).bm .gw)
def vQ(ps:ζ be)(sc:Scope):ζ be:=
 ps++(sc.pt.Ϡ λp=>(p.2==.TI||p.2==.Tk) && !ps.v6 p.1).ς (·.1)
def MG(ps:ζ be)(sc:Scope)(gl:ζ (be×ab)):CC:=
 ⟨sc.pt,(vQ ps sc).zip (J5 0 (vQ ps sc).ε),(vQ ps sc).ε,gl⟩
def Vp(gl:ζ (be×ab))(params:QX)(body:ζ Qx)(sc:Scope):η (θ×θ×ζ Sm):=
 aw (params.posonlyargs.db && params.vararg.pi && params.kwonlyargs.db && params.kwarg.pi && sc.Tc==.wE && !sc.isGenerator && !sc.isCoroutine && (params.Id.ς (·.arg)).Db (λx=>sc.pt.ω x==Qa .TI||sc.pt.ω x==Qa .Tk))
  ((zal (MG (params.Id.ς (·.arg)) sc gl) body).ς λb=>((params.Id.ς (·.arg)).ε,(vQ (params.Id.ς (·.arg)) sc).ε+6,b))
end Internal
namespace Internal
open PySem PySem.W PySem.Calls PyProof.Rows
variable{D Ia L N a c ca fa la:Qj}{P:Qj->Str->Prop}{params:QX}{A A':QC}{f:Array Qh->Array Qh}{its:Array Value}{many:Bool}{d1 d2:Data}{env:Env}{mean:ExcName->Option Value}{dz iter t value:Expr}{f6:Ji}{K:Jl}{fd:QR}{h h' h₀:QD}{hsh:Int}{z:It}{args:List (Bool×Sem Value)}{l:List (Nat×Qj)}{ks:List (Option Expr)}{cl cs:List (Str×Qj)}{fs:List (Value->Sem Unit)}{k0:List Bool}{es es':List Qh}{ifs:List Expr}{tg:List Nat}{b body:List Qx}{loose nms xs:List Str}{q:List Str×Bool}{first operands us vs vs':List Value}{D0 c' d e ep i j n n':Nat}{ft:Nat->Nat->(Bool->Qf->Prop)->Qf->Prop}{I:Nat->Qf->Prop}{io o oN oa ob ob':Obj}{op:Operator}{hi hi' lo lo':Option Expr}{apos pos ps sp tpos xp:Pos}{prog:Qy}{R:Result->Qf->Prop}{sc scope:Scope}{whole:Sem Value}{s s' s0 s1 s2 s4 s6 s₁:Qf}{X:Qf->Prop}{st:Qx}{aq nm qual x:Str}{cm m mE mN mb mg:Str->Option Value}{id:String}{α β γ δ:Type}{Q:Unit->Qf->Prop}{c1 c2 cdv gv key kv rv v vi vl vo vu vv vx vy yv:Value}{E:Value->Qf->Prop}
abbrev bw:=ζ (Qj×wT)
abbrev bf:=Qy×Qn×Jl×gu×(ζ (θ×Qj))
section
variable(ψ:bf)
abbrev bf.prog:=ψ.1
abbrev bf.w:=ψ.2.1
abbrev bf.K:=ψ.2.2.1
abbrev bf.P:=ψ.2.2.2.1
abbrev bf.ad:=ψ.2.2.2.2
end
abbrev bf.M(C:bf):Model:=model C.prog C.w
def rH:ζ (θ×Tm):= [(WU,"range"),(Hw,"list"),(Ep,"dict"),(ID,"tuple"),(zbU,"str"),(zbX,"int"),(IC,"type"),(zeO,"set"),(SV,"bool"),(UV,"NoneType")]
def xS:ζ (θ×Tm):= [(uK,"len"),(Pp,"max"),(zbW,"min"),(wR,"sorted")]
def se(s:ζ θ):Prop:=(∀c∈s,c<0x110000)/\s.ε<=bc
abbrev Wd:=ζ Qj×bw
section
variable(ψ:Wd)
abbrev Wd.σ:=ψ.1
abbrev Wd.tp:=ψ.2
end
def Wd.le(w w':Wd):Prop:=w.σ<+:w'.σ/\∀p∈w.tp,p∈w'.tp
section
variable{w w':Wd}(ψ:Wd.le w w')
def Wd.le.s:=@ψ.1
def Wd.le.t:=@ψ.2
end
theorem Wd.le.TD(w:Wd):w.le w:=⟨K9 _,λ_ x=>x⟩
theorem Wd.le.ν{a b c:Wd}(x:a.le b)(y:b.le c):a.le c:=⟨x.1.ν y.1,λp hp=>y.2 p (x.2 p hp)⟩
variable{w w':Wd}
def Wd.le.xL(l:w.le w')(h:w.σ[i]?=Qa a):w'.σ[i]?=Qa a:=by
 refine Zt l.s λt zq21=>?_;refine(Jx.mp h).ι λhl zq20=>?_;rw[<-zq21,Z5 hl];exact h
def zj2 (C:bf) (tp:bw) (a:Qj) (o:wT) (n:θ) (vs:ζ μ):Prop:=((a,o)∈tp\/C.K.ω a=Qa o)/\o.cls= .w8 "tuple"/\o.Te= .seq vs.τ n
section
variable{C:bf}{tp:bw}{a:Qj}{o:Obj}{n:Nat}{vs:List Value}(ψ:zj2 C tp a o n vs)
def zj2.Hd:=@ψ.1
def zj2.cls:=@ψ.2.1
def zj2.Te:=@ψ.2.2
end
def i8 (C:bf) (a:Qj) (o:wT) (n:θ) (vs:ζ μ):Prop:=C.K.ω a=Qa o/\o.cls= .w8 "list"/\o.Te= .seq vs.τ n
section
variable{C:bf}{a:Qj}{o:Obj}{n:Nat}{vs:List Value}(ψ:i8 C a o n vs)
def i8.Hd:=@ψ.1
def i8.cls:=@ψ.2.1
def i8.Te:=@ψ.2.2
end
abbrev zbq (t:Tok) (n:Τ) (u v:Tok):wT:= {cls:= .w8 "range",dict:=Qc,data:= .lf #[.φ 0 t,.φ n u,.φ 1 v],slots:= #[]}
def zj1(tp:bw)(a:Qj)(o:wT)(es:sB (Τ×μ))(ep:θ)(t:SetTable)(n:θ):Prop:=(a,o)∈tp/\o.ExactSet/\o.Te=.ϩ es ep t/\t.fits es.pc=Qe/\es.pc=n/\n<=bc
section
variable{tp:bw}{a:Qj}{o:Obj}{es:Array (Int×Value)}{ep:Nat}{t:SetTable}{n:Nat}(ψ:zj1 tp a o es ep t n)
def zj1.Hd:=@ψ.1
def zj1.ex:=@ψ.2.1
def zj1.Te:=@ψ.2.2.1
def zj1.fits:=@ψ.2.2.2.1
def zj1.pc:=@ψ.2.2.2.2.1
def zj1.le:=@ψ.2.2.2.2.2
end
inductive Sn(C:bf)(tp:bw)(l:θ)(R:ζ μ->Prop)(v:μ):Prop
 |mk(a:Qj)(o:wT)(n:θ)(vs:ζ μ)(e:v=.ο a)(q:zj2 C tp a o n vs)(r:R vs)(hl:l<=bc):Sn C tp l R v
inductive c8(C:bf)(l:θ)(R:ζ μ->Prop)(v:μ):Prop
 |mk(a:Qj)(o:wT)(n:θ)(vs:ζ μ)(e:v=.ο a)(q:i8 C a o n vs)(r:R vs)(hl:l<=bc):c8 C l R v
inductive zde(tp:bw)(n:Τ)(x:μ):Prop
 |mk(a:Qj)(t u v:Tok)(e:x=.ο a)(h:(a,zbq t n u v)∈tp):zde tp n x
inductive Du(P:μ->Prop)(R:ζ μ->Prop)(vs:ζ μ):Prop
 |mk(v:μ)(r:ζ μ)(e:vs=v::r)(h:P v)(t:R r):Du P R vs
mutual
noncomputable def jG (C:bf) (w:Wd):ab->Value->Prop
 | .none=>λv=>v=.none
 | .bool b=>λv=>v=.bool b
 | .int i=>λv=>∃t,v=.int i t
 | .str s=>λv=>∃t,v=.str ⟨s.toArray⟩ t/\se s
 | .ay mvs=>λv=>Sn C w.tp mvs.length (jD C w mvs) v
 | .ref i=>λv=>∃a,v=.ref a/\w.σ[i]?=Qa a
 | .ai id=>λv=>∃a,v=.ref a/\C.ad.lookup id=Qa a
 | .ty c=>λv=>∃n,v=.type n/\rH.lookup c=Qa n
 | .bi c=>λv=>∃n,v=.builtin n/\xS.lookup c=Qa n
 | .gb n=>λx=>zde w.tp n x
 | .fl mvs=>λv=>c8 C mvs.length (jD C w mvs) v
 | .ql n=>λv=>∃a o es ep t,v=.ref a/\zj1 w.tp a o es ep t n
noncomputable def jD (C:bf) (w:Wd):List ab->List Value->Prop
 | []=>λvs=>vs=[]
 |m::ms=>λvs=>Du (jG C w m) (jD C w ms) vs
end
variable{C:bf}{mvs:List ab}
section
variable{x:ab}
theorem jD.ϟ:jD C w [] []:=rfl
theorem jD.Κ{m:ab}{ms:ζ ab}(h:jG C w m v)(r:jD C w ms vs):jD C w (m::ms) (v::vs):=⟨v,vs,rfl,h,r⟩
theorem jD.da(h:jG C w x v):jD C w [x] [v]:=.Κ h .ϟ
def jD.ε:∀{ms:ζ ab}{vs:ζ μ},jD C w ms vs->ms.ε=vs.ε:=by
 intro ms
 induction ms with
 |ϟ=>intro vs h;exact χ ZP (XE h)
 |Κ m ms ih=>
  intro vs h;obtain⟨v,r,rfl,_,h⟩:=h;exact χ ZX (ih h)
def jG.mono'(l:w.le w')(m:ab):∀v,jG C w m v->jG C w' m v:=by
 refine ab.rec (Ϝ:=λm=>∀v,jG C w m v->jG C w' m v) (motive_2:=λms=>∀vs,jD C w ms vs->jD C w' ms vs) (λ_ h=>h) (λ_ _ h=>h) (λ_ _ h=>h) (λ_ _ h=>h) ?_ ?_ (λ_ _ h=>h) (λ_ _ h=>h) (λ_ _ h=>h) ?_ ?_ ?_ (λ_ h=>h) ?_ m
 ·exact λms ih v h=>Sn.Α h λa o n vs e h r k=>⟨a,o,n,vs,e,⟨h.Hd.imp (l.t _) id,h.cls,h.Te⟩,ih vs r,k⟩
 ·exact λi v h=>h.ι λa h=>⟨a,h.1,l.xL h.2⟩
 ·exact λn v h=>zde.Α h λa t u x e h=>⟨a,t,u,x,e,l.t _ h⟩
 ·exact λms ih v h=>c8.Α h λa o n vs e h r k=>⟨a,o,n,vs,e,h,ih vs r,k⟩
 ·exact λn v h=>by
   refine xEE h λa o cw=>?_;refine xEE cw λes ep iq=>?_;refine xEA iq λt e h=>?_;exact⟨a,o,es,ep,t,e,l.t _ h.Hd,h.ex,h.Te,h.fits,h.pc,h.le⟩
 ·exact λm ms i1 i2 vs h=>Du.Α h λv r e h h'=>⟨v,r,e,i1 v h,i2 r h'⟩
theorem jG.Ν(l:w.le w')(h:jG C w x v):jG C w' x v:=jG.mono' l x v h
def jD.Ν(l:w.le w'):∀{ms:ζ ab}{vs:ζ μ},jD C w ms vs->jD C w' ms vs:=by
 intro ms
 induction ms with
 |ϟ=>exact λh=>h
 |Κ m ms ih=>
  exact λh=>Du.Α h λv r e h h'=>⟨v,r,e,h.Ν l,ih h'⟩
def jD.xL:∀{ms:ζ ab}{vs:ζ μ}{i:θ}{m:ab},jD C w ms vs->ms[i]?=Qa m->∃v,vs[i]?=Qa v/\jG C w m v:=by
 intro ms
 induction ms with
 |ϟ=>exact λ_ e=>af e
 |Κ m ms ih=>
  intro vs i m' h e;obtain⟨v,r,rfl,h,h'⟩:=h;cases i with
  |zero=>exact⟨v,rfl,Qa.dL e▸h⟩
  |succ i=>exact ih (i:=i) h' e
def jD.append{ms':ζ ab}(h':jD C w ms' vs'):∀{ms:ζ ab}{vs:ζ μ},jD C w ms vs->jD C w (ms++ms') (vs++vs'):=by
 intro ms
 induction ms with
 |ϟ=>intro vs h;rw[show vs=[] from h];exact h'
 |Κ m ms ih=>
  exact λh=>Du.Α h λv r e h hr=>⟨v,r++vs',χ (· ++vs') e,h,ih hr⟩
theorem jG.sK{i:Τ}:jG C w x v->x.sK=Qa i->∃t,v=.φ i t:=
 ab.Α (Ϝ:=λx=>jG C w x v->x.sK=Qa i->∃t,v=.φ i t) x (λ_ e=>af e) (λ_ _ e=>af e) (λ_ h e=>Qa.dL e▸h) (λ_ _ e=>af e) (λ_ _ e=>af e) (λ_ _ e=>af e) (λ_ _ e=>af e) (λ_ _ e=>af e) (λ_ _ e=>af e) (λ_ _ e=>af e) (λ_ _ e=>af e) (λ_ _ e=>af e)
theorem jG.Tv{i:ζ θ}:jG C w x v->x.Tv=Qa i->∃t,v=.Υ ⟨i.τ⟩ t/\se i:=
 ab.Α (Ϝ:=λx=>jG C w x v->x.Tv=Qa i->∃t,v=.Υ ⟨i.τ⟩ t/\se i) x (λ_ e=>af e) (λ_ _ e=>af e) (λ_ _ e=>af e) (λ_ h e=>Qa.dL e▸h) (λ_ _ e=>af e) (λ_ _ e=>af e) (λ_ _ e=>af e) (λ_ _ e=>af e) (λ_ _ e=>af e) (λ_ _ e=>af e) (λ_ _ e=>af e) (λ_ _ e=>af e)
theorem tup?_s{i:ζ ab}:x.tup?=Qa i->x=.ay i:=
 ab.Α (Ϝ:=λx=>x.tup?=Qa i->x=.ay i) x (λe=>af e) (λ_ e=>af e) (λ_ e=>af e) (λ_ e=>af e) (λ_ e=>Qa.dL e▸rfl) (λ_ e=>af e) (λ_ e=>af e) (λ_ e=>af e) (λ_ e=>af e) (λ_ e=>af e) (λ_ e=>af e) (λ_ e=>af e)
theorem ref?_s{i:θ}:x.ref?=Qa i->x=.ο i:=
 ab.Α (Ϝ:=λx=>x.ref?=Qa i->x=.ο i) x (λe=>af e) (λ_ e=>af e) (λ_ e=>af e) (λ_ e=>af e) (λ_ e=>af e) (λ_ e=>Qa.dL e▸rfl) (λ_ e=>af e) (λ_ e=>af e) (λ_ e=>af e) (λ_ e=>af e) (λ_ e=>af e) (λ_ e=>af e)
theorem top?_s{i:θ}:x.top?=Qa i->x=.ai i:=
 ab.Α (Ϝ:=λx=>x.top?=Qa i->x=.ai i) x (λe=>af e) (λ_ e=>af e) (λ_ e=>af e) (λ_ e=>af e) (λ_ e=>af e) (λ_ e=>af e) (λ_ e=>Qa.dL e▸rfl) (λ_ e=>af e) (λ_ e=>af e) (λ_ e=>af e) (λ_ e=>af e) (λ_ e=>af e)
theorem ty?_s{i:θ}:x.ty?=Qa i->x=.ty i:=
 ab.Α (Ϝ:=λx=>x.ty?=Qa i->x=.ty i) x (λe=>af e) (λ_ e=>af e) (λ_ e=>af e) (λ_ e=>af e) (λ_ e=>af e) (λ_ e=>af e) (λ_ e=>af e) (λ_ e=>Qa.dL e▸rfl) (λ_ e=>af e) (λ_ e=>af e) (λ_ e=>af e) (λ_ e=>af e)
theorem bi?_s{i:θ}:x.bi?=Qa i->x=.bi i:=
 ab.Α (Ϝ:=λx=>x.bi?=Qa i->x=.bi i) x (λe=>af e) (λ_ e=>af e) (λ_ e=>af e) (λ_ e=>af e) (λ_ e=>af e) (λ_ e=>af e) (λ_ e=>af e) (λ_ e=>af e) (λ_ e=>Qa.dL e▸rfl) (λ_ e=>af e) (λ_ e=>af e) (λ_ e=>af e)
theorem fl?_s{i:ζ ab}:x.fl?=Qa i->x=.fl i:=
 ab.Α (Ϝ:=λx=>x.fl?=Qa i->x=.fl i) x (λe=>af e) (λ_ e=>af e) (λ_ e=>af e) (λ_ e=>af e) (λ_ e=>af e) (λ_ e=>af e) (λ_ e=>af e) (λ_ e=>af e) (λ_ e=>af e) (λ_ e=>af e) (λ_ e=>Qa.dL e▸rfl) (λ_ e=>af e)
theorem bool?_s{i:Ε}:x.bool?=Qa i->x=.ϝ i:=
 ab.Α (Ϝ:=λx=>x.bool?=Qa i->x=.ϝ i) x (λe=>af e) (λ_ e=>Qa.dL e▸rfl) (λ_ e=>af e) (λ_ e=>af e) (λ_ e=>af e) (λ_ e=>af e) (λ_ e=>af e) (λ_ e=>af e) (λ_ e=>af e) (λ_ e=>af e) (λ_ e=>af e) (λ_ e=>af e)
theorem rng?_s{i:Τ}:x.rng?=Qa i->x=.gb i:=
 ab.Α (Ϝ:=λx=>x.rng?=Qa i->x=.gb i) x (λe=>af e) (λ_ e=>af e) (λ_ e=>af e) (λ_ e=>af e) (λ_ e=>af e) (λ_ e=>af e) (λ_ e=>af e) (λ_ e=>af e) (λ_ e=>af e) (λ_ e=>Qa.dL e▸rfl) (λ_ e=>af e) (λ_ e=>af e)
theorem HJ:x.pi=Qe->x=.Δ:=
 ab.Α (Ϝ:=λx=>x.pi=Qe->x=.Δ) x (λ_=>rfl) (λ_=>λh=>JJ h) (λ_=>λh=>JJ h) (λ_=>λh=>JJ h) (λ_=>λh=>JJ h) (λ_=>λh=>JJ h) (λ_=>λh=>JJ h) (λ_=>λh=>JJ h) (λ_=>λh=>JJ h) (λ_=>λh=>JJ h) (λ_=>λh=>JJ h) (λ_=>λh=>JJ h)
theorem list?_s{o:ae}{i:ζ ab}:o.Rs=Qa i->o=.ξ i:=
 ae.Α (motive:=λo=>o.Rs=Qa i->o=.ξ i) o (λ_ e=>Qa.dL e▸rfl) (λ_ _ e=>af e) (λ_ _ e=>af e)
theorem dict?_s{o:ae}{i:η θ×ζ (ab×ab)}:o.TO=Qa i->o=.Χ i.1 i.2:=
 ae.Α (motive:=λo=>o.TO=Qa i->o=.Χ i.1 i.2) o (λ_ e=>af e) (λ_ _ e=>Qa.dL e▸rfl) (λ_ _ e=>af e)
theorem inst?_s{o:ae}{i:θ×ζ (θ×ab)}:o.inst?=Qa i->o=.Td i.1 i.2:=
 ae.Α (motive:=λo=>o.inst?=Qa i->o=.Td i.1 i.2) o (λ_ e=>af e) (λ_ _ e=>af e) (λ_ _ e=>Qa.dL e▸rfl)
end
inductive zdl(n:θ)(P:μ->Prop)(R:ζ Qh->Prop)(es:ζ Qh):Prop
 |mk(x:be)(t:Tok)(hsh:Τ)(v:μ)(r:ζ Qh)(e:es=⟨hsh,.Υ x t,v⟩::r)(nm:jL x=Qe)(en:ek x=n)(h:P v)(t:R r):zdl n P R es
def tO(C:bf)(w:Wd):ζ (θ×ab)->ζ Qh->Prop
 | []=>λes=>es=[]
 |p::fs=>λes=>zdl p.1 (jG C w p.2) (tO C w fs) es
def tO.Ν(l:w.le w'):∀{fs:ζ (θ×ab)}{es:ζ Qh},tO C w fs es->tO C w' fs es:=by
 intro fs
 induction fs with
 |ϟ=>exact λh=>h
 |Κ p fs ih=>
  exact λh=>zdl.Α h λx t hsh v r e h1 h2 h3 h4=>⟨x,t,hsh,v,r,e,h1,h2,h3.Ν l,ih h4⟩
set_option genInjectivity true in
inductive ap where
 |i(n:Τ)
 |s(x:be)
 deriving TC
def ap.Op(a:ap):ab:=ap.Α (motive:=λ_=>ab) a .φ (λx=>.Υ x.cps.ss)
def ap.is(a:ap)(v:μ):Ε:=ap.Α (motive:=λ_=>Ε) a (λn=>μ.isInt n v) (λx=>μ.isStrOf x v)
def ap.hash(w:Qn)(a:ap):Τ:=ap.Α (motive:=λ_=>Τ) a hashInt (λx=>hashStr w x)
def ap.dL(v:μ)(a b:ap)(ha:a.is v=Qe)(hb:b.is v=Qe):a=b:=by
 cases a with
 |i n=>
  cases b with
  |i k=>rw[μ.isInt_inj v _ _ ha hb]
  |s y=>obtain⟨t,rfl⟩:=Kd ha;cases hb
 |s x=>
  cases b with
  |i k=>obtain⟨t,rfl⟩:=Kd hb;cases ha
  |s y=>rw[μ.isStrOf_inj v _ _ ha hb]
def ap.byValue(k:ap)(v:μ)(h:k.is v=Qe):carriedByValue v=true:=by
 cases k with
 |i n=>obtain⟨t,rfl⟩:=Kd h;rfl
 |s x=>obtain⟨t,rfl⟩:=Ka h;rfl
def ap.pyHash{w:Qn}{k:ap}{Q:Τ->Qf->Prop}(hv:k.is v=Qe)(h:Q (k.hash w) {s with toks:=s.wS+1}):Qi (model prog w) A (Ξ.pyHash v) Q E s:=by
 cases k with
 |i n=>obtain⟨t,rfl⟩:=Kd hv;exact wpAny_pyHash_int h
 |s x=>obtain⟨t,rfl⟩:=Ka hv;exact wpAny_pyHash_str h
def ap.eqBool{w:Qn}{a b:ap}{u:μ}{Q:Ε->Qf->Prop}(hu:a.is u=Qe)(hv:b.is v=Qe)(h:Q (decide (a=b)) s):Qi (model prog w) A (Ξ.eqBool u v) Q E s:=by
 cases a with
 |i n=>
  obtain⟨t,rfl⟩:=Kd hu;cases b with
  |i k=>
   obtain⟨u,rfl⟩:=Kd hv;refine wpAny_eqBool_int ?_;simp only[ap.i.injEq] at h
   first|exact h|(simp only[beq_eq_decide];exact h)
  |s y=>
   obtain⟨u,rfl⟩:=Ka hv;exact SeqAt.EqAt.int_str _ _ _ _ _ _ _ _ (by simpa using h)
 |s x=>
  obtain⟨t,rfl⟩:=Ka hu;cases b with
  |i k=>
   obtain⟨u,rfl⟩:=Kd hv;exact SeqAt.EqAt.str_int _ _ _ _ _ _ _ _ (by simpa using h)
  |s y=>
   obtain⟨u,rfl⟩:=Ka hv;exact wpAny_eqBool_str (by simpa using h)
def ap.sa(k:ap)(x:be)(t:Tok)(v:μ)(h:k.is (.Υ x t)=Qe):k.is v=v.isStr x:=by
 cases k with
 |i n=>cases h
 |s y=>
  have h':(x==y)=true:=h;rw[Β] at h';refine eqE h' ?_;cases v<;>rfl
def j4(prog:Qy)(w:Qn):KeyKind prog w ap:=
 ⟨ap.is,ap.hash w,ap.dL,ap.byValue,ap.pyHash,ap.eqBool,ap.sa⟩
def ap.ok(a:ap):Prop:=ap.Α (motive:=λ_=>Prop) a (λ_=>True) (λx=>se x.cps.ss)
def DA(C:bf)(w:Wd)(mes:ζ (ab×ab))(es:ζ Qh)(kvs:ζ (ap×μ)):Prop:=Pairs (j4 C.prog C.w) es kvs/\KeysOf (j4 C.prog C.w) es.τ/\(kvs.ς (·.1)).ϥ/\mes.ς (·.1)=kvs.ς (λp=>p.1.Op)/\(∀p∈kvs,p.1.ok)/\jD C w (mes.ς (·.2)) (kvs.ς (·.2))
section
variable{C:bf}{w:Wd}{mes:List (ab×ab)}{es:List Qh}{kvs:List (ap×Value)}(ψ:DA C w mes es kvs)
def DA.p:=@ψ.1
def DA.k:=@ψ.2.1
def DA.n:=@ψ.2.2.1
def DA.e:=@ψ.2.2.2.1
def DA.ok:=@ψ.2.2.2.2.1
def DA.r:=@ψ.2.2.2.2.2
end
def DT(C:bf)(w:Wd)(mes:ζ (ab×ab))(es:ζ Qh)(xs:ζ (ζ ap×Qj×μ)):Prop:=es=xs.ς (entryOfKey (tupleKind (j4 C.prog C.w)))/\(xs.ς (·.1)).ϥ/\(∀x∈xs,jG C w (.ay (x.1.ς ap.Op)) (.ο x.2.1))/\mes.ς (·.1)=xs.ς (λx=>ab.ay (x.1.ς ap.Op))/\jD C w (mes.ς (·.2)) (xs.ς (·.2.2))
section
variable{C:bf}{w:Wd}{mes:List (ab×ab)}{es:List Qh}{xs:List (List ap×Qj×Value)}(ψ:DT C w mes es xs)
def DT.es:=@ψ.1
def DT.n:=@ψ.2.1
def DT.v:=@ψ.2.2.1
def DT.e:=@ψ.2.2.2.1
def DT.r:=@ψ.2.2.2.2
end
def r0(C:bf)(w:Wd)(mes:ζ (ab×ab))(es:ζ Qh):Prop:=(∃kvs,DA C w mes es kvs)\/∃xs,DT C w mes es xs
variable{mes:List (ab×ab)}
theorem r0.Ν(l:w.le w')(h:r0 C w mes es):r0 C w' mes es:=
 h.imp (λ⟨kvs,D⟩=>⟨kvs,D.p,D.k,D.n,D.e,D.ok,D.r.Ν l⟩) λ⟨xs,D⟩=>⟨xs,D.es,D.n,λx hx=>(D.v x hx).Ν l,D.e,D.r.Ν l⟩
inductive zdh(C:bf)(w:Wd)(a:Qj)(mvs:ζ ab)(en:bw):Prop
 |mk(vs:ζ μ)(n:θ)(e:en=[(a,listOf vs.τ n)])(r:jD C w mvs vs)(l:mvs.ε<=bc):zdh C w a mvs en
inductive zdn(C:bf)(w:Wd)(a:Qj)(ep:η θ)(mes:ζ (ab×ab))(en:bw):Prop
 |mk(es:ζ Qh)(n:θ)(e:en=[(a,Ql es n)])(hep:∀e,ep=Qa e->n=e)(d:r0 C w mes es)(l:mes.ε<=bc):zdn C w a ep mes en
inductive zdj(C:bf)(w:Wd)(a:Qj)(id:θ)(fs:ζ (θ×ab))(en:bw):Prop
 |mk(c dx:Qj)(es:ζ Qh)(n:θ)(e:en=[(a,instObj c dx),(dx,Ql es n)])(hc:C.ad.ω id=Qa c)(f:tO C w fs es)(l:fs.ε<=500):zdj C w a id fs en
def uT(C:bf)(w:Wd)(a:Qj)(o:ae):bw->Prop:=ae.Α (motive:=λ_=>bw->Prop) o
 (zdh C w a) (zdn C w a) (zdj C w a)
variable{en:bw}
theorem uT.Ν(l:w.le w'){o:ae}:uT C w a o en->uT C w' a o en:=
 ae.Α (motive:=λo=>uT C w a o en->uT C w' a o en) o
  (λ_ h=>zdh.Α h λvs n e h k=>.mk vs n e (h.Ν l) k) (λ_ _ h=>zdn.Α h λes n e h h' k=>.mk es n e h (h'.Ν l) k) (λ_ _ h=>zdj.Α h λc dx es n e h h' k=>.mk c dx es n e h (h'.Ν l) k)
inductive NF(P:ae->bw->Prop)(R:MH->ζ bw->Prop)(H:MH)(os:ζ bw):Prop
 |mk(o:ae)(H':MH)(en:bw)(os':ζ bw)(e1:H=o::H')(e2:os=en::os')(h:P o en)(t:R H' os'):NF P R H os
def rZ(C:bf)(w:Wd):ζ Qj->MH->ζ bw->Prop
 | []=>λH os=>H=[]/\os=[]
 |a::as=>NF (uT C w a) (rZ C w as)
def rZ.Ν(l:w.le w'):∀{as:ζ Qj}{H:MH}{os:ζ bw},rZ C w as H os->rZ C w' as H os:=by
 intro as
 induction as with
 |ϟ=>exact λh=>h
 |Κ a as ih=>
  exact λh=>NF.Α h λo H' en os' e1 e2 h r=>⟨o,H',en,os',e1,e2,h.Ν l,ih r⟩
def rZ.xu{o:ae}(h':uT C w a o en):∀{as:ζ Qj}{H:MH}{os:ζ bw},rZ C w as H os->rZ C w (as++[a]) (H++[o]) (os++[en]):=by
 intro as
 induction as with
 |ϟ=>
  exact λh=>⟨o,[],en,[],χ (· ++[o]) h.1,χ (· ++[en]) h.2,h',rfl,rfl⟩
 |Κ b as ih=>
  exact λh=>NF.Α h λo1 H' en1 os' e1 e2 h r=>⟨o1,H'++[o],en1,os'++[en],χ (· ++[o]) e1,χ (· ++[en]) e2,h,ih r⟩
def rZ.ε:∀{as:ζ Qj}{H:MH}{os:ζ bw},rZ C w as H os->as.ε=H.ε:=by
 intro as
 induction as with
 |ϟ=>exact λh=>χ ZP h.1.Μ
 |Κ b as ih=>exact λh=>NF.Α h λo1 H' en1 os' e1 _ _ r=>(χ ZX (ih r)).ν (χ ZP e1.Μ)
inductive zaA(C:bf)(w:Wd)(as:ζ Qj)(i:θ)(a:Qj)(o:ae)(H:MH)(os:ζ bw):Prop
 |mk(pre:ζ bw)(en:bw)(post:ζ bw)(e:os=pre++en::post)(r:uT C w a o en)(g:∀o' en',uT C w a o' en'->rZ C w as (H.ϩ i o') (pre++en'::post)):zaA C w as i a o H os
def rZ.at{o:ae}:∀{as:ζ Qj}{i:θ}{H:MH}{os:ζ bw},rZ C w as H os->as[i]?=Qa a->H[i]?=Qa o->
  zaA C w as i a o H os:=by
 intro as
 induction as with
 |ϟ=>exact λ_ e=>af e
 |Κ b as ih=>
  intro i H os h ha ho;obtain⟨o1,H',en1,os',rfl,rfl,h,r⟩:=h;cases i with
  |zero=>
   refine lN ha ?_;refine lN ho ?_;exact⟨[],en1,os',rfl,h,λo' en' h'=>⟨o',H',en',os',rfl,rfl,h',r⟩⟩
  |succ i=>
   obtain⟨pre,en,post,rfl,hr,k⟩:=ih (i:=i) r ha ho;exact⟨en1::pre,en,post,rfl,hr,λo' en' h'=>⟨o1,_,en1,_,rfl,rfl,h,k o' en' h'⟩⟩
structure Kp where
 ce:bw
 ex:bw
 m:be->η μ
def bw.nd(l:bw):Prop:=(l.ς (·.1)).ϥ
theorem bw.nd.jf{a b:bw}(p:a.TH b)(h:bw.nd a):bw.nd b:=(p.ς λq:Qj×wT=>q.1).nodup_iff.mp h
def Kp.Db(k:Kp)(w:Wd)(os:ζ bw):bw:=os.ld++(w.tp++(k.ce++k.ex))
inductive wj(C:bf)(h₀:QD)(L:Qj)(k:Kp)(w:Wd)(H:MH)(h:QD):Prop
 |mk(os:ζ bw)(he:rZ C w w.σ H os)(hn:Ps h₀ L h (k.Db w os))(hd:bw.nd (k.Db w os)):wj C h₀ L k w H h
def cb(C:bf)(h₀:QD)(L:Qj)(k:Kp)(w:Wd)(H:MH)(h:QD):Prop:=Fr h₀ L h k.m/\wj C h₀ L k w H h/\4<=h₀.wv.pc/\∀a∈w.σ,4<=a
section
variable{C:bf}{h₀:QD}{L:Qj}{k:Kp}{w:Wd}{H:MH}{h:QD}(ψ:cb C h₀ L k w H h)
def cb.fr:=@ψ.1
def cb.os:=@ψ.2.1
def cb.pd:=@ψ.2.2.1
def cb.lo:=@ψ.2.2.2
end
variable{post:bw}
def wC{d:Qj}{o':wT}:∀{pre:bw},bw.nd (pre++(d,o)::post)->Upd d o o' (pre++(d,o)::post) (pre++(d,o')::post):=by
 intro pre
 induction pre with
 |ϟ=>exact λh=>.mo λp hp e=>(JK.mp h).1 (JM.Ϩ ⟨p,hp,e⟩)
 |Κ q pre ih=>exact λh=>.lw (λe=>(JK.mp h).1 (JM.Ϩ ⟨(d,o),JQ _ (.mo _),e.Μ⟩)) (ih (JK.mp h).2)
variable{k:Kp}{H:MH}
theorem cb.am(S:cb C h₀ L k w H h):w.σ.ε=H.ε:=wj.Α S.os λ_ he _ _=>he.ε
inductive e9(C:bf)(h₀:QD)(L:Qj)(k:Kp)(w:Wd)(H:MH)(h:QD)(i:θ)(a:Qj)(o:ae):Prop
 |mk(pre en post:bw)(r:uT C w a o en)(n:Ps h₀ L h (pre++(en++post)))(d:bw.nd (pre++(en++post)))
   (g:∀o' en' h',en'.ς (·.1)=en.ς (·.1)->uT C w a o' en'->Fr h₀ L h' k.m->Ps h₀ L h' (pre++(en'++post))->cb C h₀ L k w (H.ϩ i o') h'):e9 C h₀ L k w H h i a o
def cb.at(S:cb C h₀ L k w H h){o:ae}(ha:w.σ[i]?=Qa a)(ho:H[i]?=Qa o):
  e9 C h₀ L k w H h i a o:=by
 obtain⟨os,he,hn,hd⟩:=S.os;obtain⟨pre,en,post,rfl,hr,g⟩:=he.at ha ho;have e:∀en1:bw,k.Db w (pre++en1::post)=pre.ld++(en1++(post.ld++(w.tp++(k.ce++k.ex)))):=by
  intro en1;unfold Kp.Db;rw[YB,K6,JB,JB]
 rw[e] at hn hd;refine⟨pre.ld,en,_,hr,hn,hd,λo' en' h' hm hr' F N=>⟨F,⟨pre++en'::post,g o' en' hr',(e en').Μ▸N,(e en').Μ▸?_⟩,S.pd,S.lo⟩⟩;unfold bw.nd at hd ⊢;rw[JR,JR] at hd ⊢;rw[hm];exact hd
def WH(k:Kp)(w:Wd)(a:Qj)(en:bw)(os:ζ bw):(en++k.Db w os).TH (k.Db ⟨w.σ++[a],w.tp⟩ (os++[en])):=by
 delta Kp.Db;simp only[YB,K6,ζ.flatten_nil,Zi,JB];exact Kx _ _ _
theorem Ei(k:Kp)(w:Wd)(p:Qj×wT)(os:ζ bw):([p]++k.Db w os).TH (k.Db ⟨w.σ,p::w.tp⟩ os):=(YW (a:=p) (l₁:=os.ld) (l₂:=w.tp++(k.ce++k.ex))).Μ
theorem cb.uj(S:cb C h₀ L k w H h)(ha:4<=a):∀b∈w.σ++[a],4<=b:=λb hb=>(Zd.mp hb).ι (S.lo b) λhb=>JI.mp hb▸ha
theorem cb.pu(S:cb C h₀ L k w H h)(ha:h.wv.pc<=a):4<=a:=Jm S.pd (Jm S.fr.above (Jm (JL S.fr.ns.lt) ha))
inductive Sq(C:bf)(h₀:QD)(L:Qj)(k:Kp)(w:Wd)(H:MH)(h:QD):Prop
 |mk(all:bw)(n:Ps h₀ L h all)
  (add:∀(a:Qj)(o:ae)(en:bw)(h':QD),uT C ⟨w.σ++[a],w.tp⟩ a o en->Fr h₀ L h' k.m->Ps h₀ L h' (en++all)->bw.nd en->(∀p∈en,∀q∈all,p.1≠q.1)->4<=a->cb C h₀ L k ⟨w.σ++[a],w.tp⟩ (H++[o]) h')
  (tp:∀(a:Qj)(o:wT)(h':QD),Fr h₀ L h' k.m->Ps h₀ L h' ((a,o)::all)->h.wv.pc<=a->cb C h₀ L k ⟨w.σ,(a,o)::w.tp⟩ H h')
  (heap:∀h':QD,Fr h₀ L h' k.m->Ps h₀ L h' all->cb C h₀ L k w H h'):Sq C h₀ L k w H h
def GQ{all:bw}(h:bw.nd en)(h':bw.nd all)(hf:∀p∈en,∀q∈all,p.1≠q.1):bw.nd (en++all):=by
 delta bw.nd;rw[JR,Kr];refine⟨h,h',λx hx y hy=>?_⟩;obtain⟨p,hp,rfl⟩:=JM.mp hx;obtain⟨q,hq,rfl⟩:=JM.mp hy;exact hf p hp q hq
theorem Ps.fresh{all:bw}(hn:Ps h₀ L h all)(he:∀p∈en,h.wv.pc<=p.1):∀p∈en,∀q∈all,p.1≠q.1:=
 λp hp q hq e=>υ (K7 (hn q hq).1) (Zs.Ϩ (e▸he p hp))
theorem qR(p:Qj×wT):bw.nd [p]:=JK.Ϩ ⟨JE,.ϟ⟩
def cb.fc(S:cb C h₀ L k w H h):Sq C h₀ L k w H h:=by
 obtain⟨os,he,hn,hd⟩:=S.os;refine⟨_,hn,λa o en h' hr F N hen hf h4=>⟨F,⟨os++[en],rZ.xu hr (rZ.Ν (w:=w) (w':=⟨w.σ++[a],w.tp⟩) ⟨Zh _ _,λ_ x=>x⟩ he),λp hp=>N p ((WH k w a en os).re.Ϩ hp),bw.nd.jf (WH k w a en os) (GQ hen hd hf)⟩,S.pd,S.uj h4⟩,
  λa o h' F N ha=>⟨F,⟨os,rZ.Ν (w:=w) (w':=⟨w.σ,(a,o)::w.tp⟩) ⟨K9 _,λ_ x=>.lw _ x⟩ he,λp hp=>N p ((Ei k w (a,o) os).re.Ϩ hp),bw.nd.jf (Ei k w (a,o) os) (GQ (qR _) hd (Ps.fresh hn λp hp=>JI.mp hp▸ha))⟩,S.pd,S.lo⟩,
  λh' F N=>⟨F,⟨os,he,N,hd⟩,S.pd,S.lo⟩⟩
theorem cb.news(S:cb C h₀ L k w H h):∃all,Ps h₀ L h all:=wj.Α S.os λ_ _ hn _=>⟨_,hn⟩
theorem cb.uy(S:cb C h₀ L k w H h)(hc:(c,o)∈w.tp):h.ut c=Qa o:=wj.Α S.os λ_ _ hn _=>(hn (c,o) (JQ _ (ZQ _ hc))).1
theorem cb.yu(S:cb C h₀ L k w H h)(hc:(c,o)∈k.ce):h.ut c=Qa o:=wj.Α S.os λ_ _ hn _=>(hn (c,o) (JQ _ (JQ _ (ZQ _ hc)))).1
theorem cb.cC(S:cb C h₀ L k w H h)(hc:(c,o)∈k.ex):h.ut c=Qa o:=wj.Α S.os λ_ _ hn _=>(hn (c,o) (JQ _ (JQ _ (JQ _ hc)))).1
inductive fD(C:bf)(w:Wd)(h:QD)(v:μ)(mvs:ζ ab):Prop
 |mk(a:Qj)(vs:ζ μ)(n:θ)(e:v=.ο a)(g:h.ut a=Qa (listOf vs.τ n))(r:jD C w mvs vs)(l:mvs.ε<=bc):fD C w h v mvs
def cb.ξ(S:cb C h₀ L k w H h){x:ab}(hv:jG C w x v)(ho:j6 H x=Qa mvs):
  fD C w h v mvs:=by
 refine xEA (bs ho) λi e h1=>?_;refine xEA (bs h1) λo hi h2=>?_;cases ref?_s e;cases list?_s h2;obtain⟨a,rfl,ha⟩:=hv;obtain⟨pre,en,post,⟨vs,n,rfl,r,l⟩,hn,_,_⟩:=S.at ha hi;exact⟨a,vs,n,rfl,(hn (a,_) (JQ _ (.mo _))).1,r,l⟩
abbrev kD(C:bf)(d e:θ):= {x:QC×QD×Qj×Env//(∃A₀ base outer,Below A₀ base outer x.2.1/\x.1.frames=Qa (x.2.2.2::outer))/\(C.K.In x.2.1)/\(∃p loose mean mg mb,Top p loose mean mg mb x.2.1)/\(x.2.2.2.frame=Qa x.2.2.1)/\(x.2.2.2.TN.Tc=.wE)/\(x.1.tz=Qc)/\(x.1.depth+4*d+2+e<=900)/\(x.1.units+20*d+190+5*e<=9900)}
section
variable{C:bf}{d e:Nat}(ψ:kD C d e)
abbrev kD.A:=ψ.1.1
abbrev kD.h₀:=ψ.1.2.1
abbrev kD.L:=ψ.1.2.2.1
abbrev kD.md:=ψ.1.2.2.2
def kD.below:∃A₀ base outer,Below A₀ base outer ψ.h₀/\ψ.A.frames=Qa (ψ.md::outer):=ψ.2.1
def kD.k:C.K.In ψ.h₀:=ψ.2.2.1
def kD.ai:∃p loose mean mg mb,Top p loose mean mg mb ψ.h₀:=ψ.2.2.2.1
def kD.frame:ψ.md.frame=Qa ψ.L:=ψ.2.2.2.2.1
def kD.Tc:ψ.md.TN.Tc=.wE:=ψ.2.2.2.2.2.1
def kD.tz:ψ.A.tz=Qc:=ψ.2.2.2.2.2.2.1
def kD.depth:ψ.A.depth+4*d+2+e<=900:=ψ.2.2.2.2.2.2.2.1
def kD.units:ψ.A.units+20*d+190+5*e<=9900:=ψ.2.2.2.2.2.2.2.2
end
def kD.fL{C:bf}{d e:θ}(Y:kD C d e):kD C d 0:=
 ⟨(Y.A,Y.h₀,Y.L,Y.md),Y.below,Y.k,Y.ai,Y.frame,Y.Tc,Y.tz,Jm (Jp (JF e) _) Y.depth,Jm (Jp (JF _) _) Y.units⟩
abbrev St{C:bf}{d e:θ}(Y:kD C d e)(k:Kp)(w:Wd)(H:MH)(s:Qf):Prop:=cb C Y.h₀ Y.L k w H s.Ω
def qI(s s':Qf):Prop:=s'.gens=s.gens/\s'.os=s.os
section
variable{s s':Qf}(ψ:qI s s')
def qI.g:=@ψ.1
def qI.o:=@ψ.2
end
theorem qI.TD(s:Qf):qI s s:=⟨rfl,rfl⟩
theorem qI.ν{a b c:Qf}(x:qI a b)(y:qI b c):qI a c:=⟨y.1.ν x.1,y.2.ν x.2⟩
def ip{C:bf}{d e:θ}(Y:kD C d e)(k:Kp)(w w':Wd)(H':MH)(s s':Qf):Prop:=w.le w'/\St Y k w' H' s'/\qI s s'
section
variable{C:bf}{d e:Nat}{Y:kD C d e}{k:Kp}{w w':Wd}{H':MH}{s s':Qf}(ψ:ip Y k w w' H' s s')
def ip.le:=@ψ.1
def ip.st:=@ψ.2.1
def ip.cj:=@ψ.2.2
end
def AL{α β:Type}{C:bf}{d e:θ}(Y:kD C d e)(k:Kp)(R:Wd->β->α->Prop)(t:Sem α)(w:Wd)(s:Qf)(r:β)(H':MH):Prop:=
 ∀(Q:α->Qf->Prop)(E:μ->Qf->Prop),(∀w' a s',ip Y k w w' H' s s'->R w' r a->Q a s')->Qi C.M Y.A t Q E s
def bq{α β:Type}{C:bf}{d e:θ}(Y:kD C d e)(k:Kp)(R:Wd->β->α->Prop)(t:Sem α)(w:Wd)(s:Qf)(o:η (β×MH)):Prop:=
 ∀r,o=Qa r->AL Y k R t w s r.1 r.2
variable{Y:kD C d e}{R':Wd->δ->γ->Prop}
section
variable{R:Wd->β->α->Prop}{t:Sem α}{o:Option (β×MH)}
theorem ip.TD(S:St Y k w H s):ip Y k w w H s s:=⟨.TD w,S,.TD s⟩
theorem ip.wS(S:St Y k w H s)(n:θ):ip Y k w w H s {s with toks:=n}:=⟨.TD w,S,rfl,rfl⟩
theorem ip.ν{w1 w2:Wd}{H1 H2:MH}(a:ip Y k w w1 H1 s s1)(b:ip Y k w1 w2 H2 s1 s2):ip Y k w w2 H2 s s2:=⟨a.le.ν b.le,b.st,a.cj.ν b.cj⟩
theorem bq.Δ:bq Y k R t w s none:=λ_ h=>af h
def bq.Η{f:β->MH->η (δ×MH)}{g:α->Sem γ}(h:bq Y k R t w s o)(hk:∀w' a s' r H1,ip Y k w w' H1 s s'->R w' r a->bq Y k R' (g a) w' s' (f r H1)):bq Y k R' (t>>=g) w s (cf o f):=by
 intro r' e Q E hq;cases o with
 |none=>exact af e
 |some p=>exact Qd (h p rfl _ _ λw' a s' n1 r1=>hk w' a s' p.1 p.2 n1 r1 r' e Q E λw2 a2 s2 n2 r2=>hq w2 a2 s2 (n1.ν n2) r2)
def bq.pure'{r:β}{a:α}(S:St Y k w H s)(hr:R w r a):bq Y k R (pure a:Sem α) w s (Qa (r,H)):=by
 intro r' e Q E hq;obtain rfl:=Qa.dL e;exact Qg (hq w a s (.TD S) hr)
def bq.ba{o':η (β×MH)}(h:bq Y k R t w s o)(h':bq Y k R t w s o'):bq Y k R t w s (ba o o'):=by
 cases o with
 |none=>exact h'
 |some p=>exact h
def bq.aw{b:Ε}(h:b=Qe->bq Y k R t w s o):bq Y k R t w s (aw b o):=by
 cases b with
 |false=>exact .Δ
 |true=>exact h rfl
def bq.jj{x:η γ}{f:γ->η (β×MH)}(h:∀a,x=Qa a->bq Y k R t w s (f a)):bq Y k R t w s (x.Η f):=by
 cases x with
 |none=>exact .Δ
 |some a=>exact h a rfl
def bq.jg{x:η γ}{f:γ->β×MH}(h:∀a,x=Qa a->bq Y k R t w s (Qa (f a))):bq Y k R t w s (x.ς f):=by
 cases x with
 |none=>exact .Δ
 |some a=>exact h a rfl
def bq.case{x:η γ}{f:γ->η (β×MH)}(h0:x=Qc->bq Y k R t w s o)(h:∀a,x=Qa a->bq Y k R t w s (f a)):bq Y k R t w s (JG (motive:=λ_=>η (β×MH)) x o f):=by
 cases x with
 |none=>exact h0 rfl
 |some a=>exact h a rfl
def bq.cond{b:Ε}{o':η (β×MH)}(h:b=Qe->bq Y k R t w s o)(h':b=Qb->bq Y k R t w s o'):bq Y k R t w s (bif b then o else o'):=by
 cases b with
 |false=>exact h' rfl
 |true=>exact h rfl
def bq.Op{r:β}(S:St Y k w H s)(h:∀(Q:α->Qf->Prop)(E:μ->Qf->Prop),(∀a tk,R w r a->Q a {s with toks:=tk})->Qi C.M Y.A t Q E s):bq Y k R t w s (Qa (r,H)):=by
 intro r' e Q E hq;obtain rfl:=Qa.dL e;exact h Q E λa tk hr=>hq w a _ (.wS S tk) hr
theorem bq.of(h:∀r H',o=Qa (r,H')->AL Y k R t w s r H'):bq Y k R t w s o:=λr e=>h r.1 r.2 e
theorem bq.by{t':Sem γ}{R':Wd->β->γ->Prop}(h:bq Y k R' t' w s o)(hr:∀(Q:α->Qf->Prop) E r H',o=Qa (r,H')->(∀w' a s',ip Y k w w' H' s s'->R w' r a->Q a s')->Qi C.M Y.A t' (λb s'=>∃w',ip Y k w w' H' s s'/\R' w' r b) E s->Qi C.M Y.A t Q E s):bq Y k R t w s o:=
 λr e Q E hq=>hr Q E r.1 r.2 e hq (h r e _ _ λw' b s' n1 r1=>⟨w',n1,r1⟩)
theorem bq.xt{p:Pos}(h:bq Y k R t w s o):bq Y k R (standAt p>>=λ_=>t) w s o:=λr e Q E hq=>Qd (Qm (h r e Q E hq))
theorem bq.b6(h:bq Y k R t w s o):bq Y k R (holding vs t) w s o:=λr e Q E hq=>Qk (h r e Q E hq)
theorem bq.to{R2:Wd->β->α->Prop}(h:bq Y k R t w s o)(i:∀w r a,R w r a->R2 w r a):bq Y k R2 t w s o:=λr e Q E hq=>h r e Q E λw' a s' n1 r1=>hq w' a s' n1 (i _ _ _ r1)
end
abbrev VR(C:bf):Wd->ab->μ->Prop:=λw m v=>jG C w m v
abbrev i0(C:bf):Wd->ζ ab->ζ μ->Prop:=λw m v=>jD C w m v
abbrev aP{α:Type}:Wd->α->α->Prop:=λ_ r a=>a=r
def vA (C:bf):Prop:=(∀id a,C.ad.ω id=Qa a-> ∃o,C.K.ω a=Qa o/\o.cls≠ .w8 "tuple")/\(∀i j a,C.ad.ω i=Qa a->C.ad.ω j=Qa a->i=j)/\∀b,b<4-> ∃o,C.K.ω b=Qa o
section
variable{C:bf}(ψ:vA C)
def vA.cM:=@ψ.1
def vA.yz:=@ψ.2.1
def vA.nu:=@ψ.2.2
end
def fF (C:bf) (p:be×ab) (rv:μ):Prop:=(∀w,jG C w p.2 rv)/\(nsIn C.K mainGlobals p.1=Qa (Qa rv)\/(nsIn C.K mainGlobals p.1=Qa Qc/\p.1≠"__name__"/\bootBuiltins p.1=Qa rv))
def NE(C:bf)(gl:ζ (be×ab)):Prop:=∀x v,gl.ω x=Qa v->∃rv,fF C (x,v) rv
def xH:θ:=200000
def bf.cx(C:bf)(d:θ):Cx:=⟨C.P,xH,mD C.P xH d⟩
def oq(o:wT)(m:be->η μ):Prop:=∃es ep,o.Te=.Χ es ep/\StrKeys es/\∀name,nsFind es name=m name
def zg(cx:CC)(env:Env)(L:Qj)(k:Kp)(mE:be->η μ):Prop:=env.TN.Tc=.wE/\env.globals=mainGlobals/\env.builtins=builtinsNs/\env.TN.pt=cx.sc/\(∀x,cx.sc.ω x=Qa .Tk->∃c o v₀,env.Tp.ω x=Qa c/\(c,o)∈k.ce/\o.Te=.Tk v₀)/\((env.locals=L/\mE=k.m)\/∃o,(env.locals,o)∈k.ex/\oq o mE)
section
variable{cx:CC}{env:Env}{L:Qj}{k:Kp}{mE:Str->Option Value}(ψ:zg cx env L k mE)
def zg.Tc:=@ψ.1
def zg.gl:=@ψ.2.1
def zg.bl:=@ψ.2.2.1
def zg.sc:=@ψ.2.2.2.1
def zg.Tp:=@ψ.2.2.2.2.1
def zg.kh:=@ψ.2.2.2.2.2
end
inductive AI(C:bf)(w:Wd)(cx:CC)(env:Env)(ce:bw)(mE:be->η μ)(x:be)(v:ab):Prop
 |kh(rv:μ)(k:cx.sc.ω x=Qa .TI)(e:mE x=Qa rv)(r:jG C w v rv):AI C w cx env ce mE x v
 |cell(rv:μ)(c:Qj)(o:wT)(k:cx.sc.ω x=Qa .Tk)(e:env.Tp.ω x=Qa c)(m:(c,o)∈ce)(h:o.Te=.Tk (Qa rv))(r:jG C w v rv):AI C w cx env ce mE x v
variable{ce:bw}
theorem AI.Ν(l:w.le w'){cx:CC}{v:ab}(h:AI C w cx env ce mE x v):AI C w' cx env ce mE x v:=
 AI.Α h (λrv a b r=>.kh rv a b (r.Ν l)) (λrv c o a b m h r=>.Tk rv c o a b m h (r.Ν l))
def zf8(C:bf)(w:Wd)(cx:CC)(env:Env)(ce:bw)(mE:be->η μ)(fr:Θ):Prop:=
 ∀x i v,nG cx x=Qa i->fr[i]?=Qa (Qa v)->AI C w cx env ce mE x v
def Pl{C:bf}{d e:θ}(Y:kD C d e)(cx:CC)(env:Env)(k:Kp)(mE:be->η μ)(fr:Θ)(w:Wd)(H:MH)(s:Qf):Prop:=zg cx env Y.L k mE/\zf8 C w cx env k.ce mE fr/\St Y k w H s
section
variable{C:bf}{d e:Nat}{Y:kD C d e}{cx:CC}{env:Env}{k:Kp}{mE:Str->Option Value}{fr:Frame}{w:Wd}{H:MH}{s:Qf}(ψ:Pl Y cx env k mE fr w H s)
def Pl.b:=@ψ.1
def Pl.f:=@ψ.2.1
def Pl.st:=@ψ.2.2
end
variable{H':MH}
theorem Pl.Ϭ{cx:CC}{fr:Θ}(p:Pl Y cx env k mE fr w H s)(n:ip Y k w w' H' s s'):Pl Y cx env k mE fr w' H' s':=
 ⟨p.b,λx i v a b=>(p.f x i v a b).Ν n.le,n.st⟩
def mI(C:bf)(d:θ)(cx:CC)(e:ϛ)(ir:Ex):Prop:=
 ∀(Y:kD C d 2)(env:Env)(k:Kp)(mE:be->η μ)(fr:Θ)(w:Wd)(H:MH)(s:Qf),Pl Y cx env k mE fr w H s->bq Y k (VR C) (Ξ.eval e env) w s (eval (C.cx d) ir fr H)
def zR(C:bf)(d:θ)(cx:CC)(e:ϛ)(ir:Ex):Prop:=
 ∀(Y:kD C d 2)(env:Env)(k:Kp)(mE:be->η μ)(fr:Θ)(w:Wd)(H:MH)(s:Qf),Pl Y cx env k mE fr w H s->bq Y k aP (Ξ.isTrue e env (Ξ.eval e env)) w s (lQ (eval (C.cx d) ir fr H))
section
variable{cx:CC}{fr:Frame}
theorem cb.mw(S:cb C Y.h₀ Y.L k w H h):C.K.In h:=Y.k.keeps S.fr.keep
def zg.ns(B:zg cx env Y.L k mE)(S:St Y k w H s):s.Ω.Ns env.locals mE:=by
 rcases B.kh with h| ⟨o,ho,es,ep,h⟩
 ·simp only[h.1,h.2];exact S.fr.ns
 ·exact⟨o,es,ep,S.cC ho,h⟩
def CN{x:ζ θ}(h:zbk x=Qe):se x:=by
 have h:=Jn.mp h;exact⟨λc hc=>Zl.mp (Zn.mp h.1 c hc),Zl.mp h.2⟩
def Fp{c:Const}{v:ab}(hc:MW c=Qa v):mI C d cx (.Constant c n pos) (.f8 v):=by
 intro Y env k mE fr w H s p;refine .Op p.st λQ E q=>?_;cases c with
 |none=>obtain rfl:=Qa.dL hc;exact Qg (q _ s.wS rfl)
 |bool b=>obtain rfl:=Qa.dL hc;exact Qg (q _ s.wS rfl)
 |int i=>obtain rfl:=Qa.dL hc;exact λ_ _ _=>q _ _ ⟨_,rfl⟩
 |str x=>
  obtain⟨h,e⟩:=gs hc;obtain rfl:=Qa.dL e;exact λ_ _ _=>q _ _ ⟨_,by rw[sB.toArray_toList],CN h⟩
 |_=>exact af hc
def wQ (h:jL x=Qe):(x==("__debug__":be))=false:=by
 have h1:=(Jn.mp (Jn.mp (Jn.mp (Jn.mp h).1).1).1).2;cases hx:(x==("__debug__":be)) with
 |false=>rfl
 |true=>rw[show (x !=("__debug__":be))=!(x==("__debug__":be)) from rfl,hx] at h1;cases h1
def zg.Fa(B:zg cx env Y.L k mE){n:Qr}(h:cx.sc.ω x=Qa n):env.Fa x=Qa n:=by unfold Env.Fa;rw[B.sc];exact h
def Oz(hx:jL x=Qe)(hi:nG cx x=Qa i):mI C d cx (.Name x pos) (.Λ i):=by
 intro Y env k mE fr w H s p;refine .jj λov ho=>.jg λv hv=>.Op p.st λQ E q=>wpAny_Name ?_ (wQ hx);subst hv;cases p.f x i v hi ho with
 |kh rv hk e r=>exact wpAny_loadName_local p.b.Tc (p.b.Fa hk) (p.b.ns p.st) e (q rv s.wS r)
 |cell rv c o hk e m h r=>exact wpAny_loadName_cell p.b.Tc (p.b.Fa hk) e ⟨o,p.st.yu m,h⟩ (q rv s.wS r)
def CD(G:NE C cx.gl){v:ab}(hx:jL x=Qe)(hk:cx.sc.ω x=Qa .globalImplicit)(hg:cx.gl.ω x=Qa v):mI C d cx (.Name x pos) (.f8 v):=by
 intro Y env k mE fr w H s p;refine .Op p.st λQ E q=>?_;refine(G x v hg).ι λrv zq9=>?_;have hn:=zq9.2;refine xEE Y.ai λ_ _ cw=>?_;refine xEE cw λ_ mg iq=>?_;refine xE iq λmb T=>?_;have q:=q rv s.wS (zq9.1 w);refine Name_function_global p.b.Tc (p.b.Fa hk) ?_ (wQ hx);have tg:=T.g.keeps p.st.fr.keep;rw[<-p.b.gl] at tg;rcases hn with hn| ⟨hn,hne,hb⟩
 ·exact loadGlobal_global tg (mg_of Y.k T.g hn) q
 ·have tb:=T.b.keeps p.st.fr.keep
  rw[<-p.b.bl] at tb;exact loadGlobal_builtin tg (mg_none_of Y.k T.g hn) tb ((T.builtins x hne).ν hb) q
def L9{ir:Ex}(G:NE C cx.gl)(hc:IA cx x=Qa ir):mI C d cx (.Name x pos) ir:=by
 obtain⟨hx,hc⟩:=gs hc;refine FD (nG cx x) (λhv=>?_) λi hv=>?_
 ·rw[hv] at hc
  obtain⟨hk,hc⟩:=gs hc;refine(ms hc).ι λv zq1=>?_;refine eqE zq1.2 ?_;exact CD G hx (Β.mp hk) zq1.1
 ·rw[hv] at hc
  refine lN hc ?_;exact Oz hx hv
def DB{M:Jh}{t:Sem μ}{Q:μ->Qf->Prop}(h:Qi M A t Q E s):Qi M A (operate operands t) Q E s:=by
 delta operate;exact Qd (Qk (Qo h (λr s' q=>Qd (wpAny_release (Qg q))) λ_ _ x=>x))
theorem bq.operate{t:Sem μ}{o:η (ab×MH)}(h:bq Y k (VR C) t w s o):bq Y k (VR C) (operate operands t) w s o:=λr e Q E hq=>DB (h r e Q E hq)
end
section
variable{cx:CC}{fr:Frame}
def l9:bc<=sizeLine:=by decide+kernel
theorem sJ(h:n<=bc):(n:Τ)<2 ^ 63:=Τ.lt_of_le_of_lt (Yt.Ϩ h) (by decide)
def bq.bU{t:Sem μ}(S:St Y k w H s)(r:jD C w mvs vs)(hl:mvs.ε<=bc)
  (h:∀(Q:μ->Qf->Prop)(E:μ->Qf->Prop) all,Ps Y.h₀ Y.L s.Ω all->(∀h' tk,Fr Y.h₀ Y.L h' k.m->Ps Y.h₀ Y.L h' ((s.Ω.wv.pc,listOf vs.τ 0)::all)->Q (.ο s.Ω.wv.pc) {s with heap:=h',toks:=tk})->Qi C.M Y.A t Q E s):
  bq Y k (VR C) t w s (lX H (.ξ mvs)):=by
 intro r' er Q E hq;obtain rfl:=Qa.dL er;obtain⟨all,hn,add,_,_⟩:=S.fc;exact h Q E all hn λh' tk F N=>hq _ _ _ ⟨(⟨Zh _ _,λ_ x=>x⟩:w.le ⟨w.σ++[s.Ω.wv.pc],w.tp⟩),add _ (.ξ mvs) [_] h' ⟨vs,0,rfl,r.Ν (⟨Zh _ _,λ_ x=>x⟩:w.le ⟨w.σ++[s.Ω.wv.pc],w.tp⟩),hl⟩ F N (qR _) (Ps.fresh hn λp hp=>JI.mp hp▸Jv _) (S.pu (Jv _)),rfl,rfl⟩ ⟨_,rfl,by rw[<-S.am];exact ZJ⟩
def OU(r:jD C w mvs vs)(n:θ):jD C w (JU n mvs).ld (JU n vs).ld:=by
 induction n with
 |zero=>exact .ϟ
 |succ n ih=>exact ih.append r
def OW(vs:ζ α)(k:θ):∀acc:sB α,(ζ.foldl (λx1 x2=>x1++x2) acc (JU k vs.τ))=acc++(JU k vs).ld.τ:=by
 induction k with
 |zero=>intro acc;exact(sB.append_empty).Μ
 |succ k ih=>
  intro acc;refine(ih _).ν ?_;simp only[qaB,K6,sB.append_assoc,qaC]
def OV(n:θ)(vs:ζ α):(JU (if vs.τ.db=Qe then 0 else n) vs).ld=(JU n vs).ld:=by
 cases vs with
 |ϟ=>simp
 |Κ v r=>rfl
def zgr{s:ζ θ}{c:θ}(h:c∈(JU n s).ld):c∈s:=by
 exact(Ya.mp h).ι λl zq21=>(ζ.mem_replicate.mp zq21.1).2▸zq21.2
def Rj{s:ζ α}:(JU n s).ld.ε=s.ε*n:=by rw[ζ.length_flatten,Xs,ζ.sum_replicate_nat,Xp]
theorem Oo(a b:ζ θ):((⟨a.τ⟩:be)++(⟨b.τ⟩:be))=⟨(a++b).τ⟩:=χ be.mk (qaC a b)
def OM{x y:ab}{a b:μ}(S:St Y k w H s)(ha:jG C w x a)(hb:jG C w y b):bq Y k (VR C) (binaryOp .Add a b) w s (zat H x y):=by
 refine .ba (.jj λi hi=>.jj λj hj=>?_) (.jj λi hi=>.jj λj hj=>.aw λhl=>?_)
 ·obtain⟨t,rfl⟩:=ha.sK hi
  obtain⟨u,rfl⟩:=hb.sK hj;exact .Op S λQ E q=>add_int (q _ _ ⟨_,rfl⟩)
 ·refine(ha.Tv hi).ι λt zq18=>?_
  obtain rfl:=zq18.1;refine(hb.Tv hj).ι λu zq17=>?_;obtain rfl:=zq17.1;have hl:=Zl.mp hl;exact .Op S λQ E q=>add_str (λt' tk=>q _ tk ⟨t',χ (KB · t') (Oo i j),λc hc=>(Zd.mp hc).ι (zq18.2.1 c) (zq17.2.1 c),by rw[Ju];exact hl⟩) (Jm hl l9)
def Vs{a:Τ}{b:θ}(h:a.natAbs<2 ^ b):qaD a<=b+1:=by
 delta qaD;split
 ·exact JF _
 ·rename_i h0
  exact J4 ((qbo λe=>h0 (by rw[qaL.mp e];rfl)).Ϩ h)
def zcb{a b:Τ}(h:HB a b=Qe):IntMulOk a b:=by
 have h:=Jn.mp h;have h1:=Vs (Zl.mp h.1);have h2:=Vs (Zl.mp h.2);delta IntMulOk;rw[ZY,not_and];intro _;delta TJ.Τ.intTooBig;rw[Ϫ,show bitsLine=134217728 by decide+kernel];lia
def OY{l:θ}{n:Τ}(h:Hk l n=Qe):n<=1000000/\ -1000000<=n/\l*n.Mi<=bc:=by
 have h:=Jn.mp h;exact⟨Ο (Jn.mp h.1).1,Ο (Jn.mp h.1).2,Zl.mp h.2⟩
def OC{x y:ab}{a b:μ}(S:St Y k w H s)(ha:jG C w x a)(hb:jG C w y b):bq Y k (VR C) (binaryOp .Mult a b) w s (HA H x y):=by
 refine .ba (.jj λi hi=>.jj λj hj=>.aw λhl=>?_) (.ba (.jj λi hi=>.jj λj hj=>?_) (.jj λi hi=>.jj λj hj=>.aw λhl=>?_))
 ·obtain⟨t,rfl⟩:=ha.sK hi
  obtain⟨u,rfl⟩:=hb.sK hj;exact .Op S λQ E q=>mul_int (q _ _ ⟨_,rfl⟩) (zcb hl)
 ·obtain⟨t,rfl⟩:=ha.sK hi
  cases bool?_s hj;subst hb;exact .Op S λQ E q=>IntBool.mul_int_bool (q _ _ ⟨_,rfl⟩)
 ·obtain⟨u,rfl⟩:=hb.sK hj
  obtain⟨a1,vs,n,rfl,g1,r1,l1⟩:=S.ξ ha hi;refine xAA (OY hl) λh1 h2 h3=>?_;refine .bU S (OU r1 j.Mi) (by rw[Rj];exact h3) λQ E all hn q=>mul_list S.fr hn g1 (by lia) (by lia) ?_ λh' F N=>q h' _ F ?_
  ·rw[Zz,<-r1.ε];exact Jm h3 (by decide)
  ·have e:=OW vs (if vs.τ.db=Qe then 0 else j.Mi) #[]
   rw[sB.empty_append,OV] at e;exact(e).Μ▸N
def Fy{x y:Τ}(h:y.natAbs<jh):TJ.divisionGoesByPylong x y=false:=by
 delta TJ.divisionGoesByPylong
 have:(if (y==0)=Qe then 0 else y.natAbs.log2 / 30+1)<=300:=by
  split
  ·exact JF _
  ·rename_i hz
   have:=(qbo λe=>hz (by rw[qaL.mp e];rfl)).Ϩ h
   lia
 simp only[qao,decide_eq_false_iff_not];exact .nb (Zv this)
theorem zam{b:Τ}(h:(b !=0)=Qe):¬b=0:=bne_iff_ne.mp h
def Ft{o:ij}(ho:EK op=Qa o){x y:Τ}{t u:Tok}{z:Τ}(S:St Y k w H s)(e:Dn o x y=Qa z):bq Y k (VR C) (binaryOp op (.φ x t) (.φ y u)) w s (Qa (.φ z,H)):=by
 refine .Op S λQ E q=>?_;cases op<;>cases ho
 ·exact af e
 ·cases e;exact sub_int (q _ _ ⟨_,rfl⟩)
 ·exact af e
 ·obtain⟨h,e⟩:=gs e
  cases e;exact mod_int' (zam h) (q _ _ ⟨_,rfl⟩)
 ·exact af e
 ·obtain⟨h,e⟩:=gs e
  cases e;exact floordiv_int (zam (Jn.mp h).1) (q _ _ ⟨_,rfl⟩) (.nb (Fy (Zl.mp (Jn.mp h).2)))
def Fs{o:ij}(ho:EK op=Qa o){x y:ab}{a b:μ}(S:St Y k w H s)(ha:jG C w x a)(hb:jG C w y b):bq Y k (VR C) (binaryOp op a b) w s (oZ o x y H):=by
 refine .ba (.jj λi hi=>.jj λj hj=>.jg λz hz=>?_) ?_
 ·obtain⟨t,rfl⟩:=ha.sK hi
  obtain⟨u,rfl⟩:=hb.sK hj;exact Ft ho S hz
 ·cases op<;>cases ho
  ·exact OM S ha hb
  ·exact .Δ
  ·exact OC S ha hb
  ·exact .Δ
  ·exact .Δ
  ·exact .Δ
theorem OK{l r:ϛ}{o:ij}{il ir:Ex}(ho:EK op=Qa o)(hl:mI C d cx l il)(hr:mI C d cx r ir):mI C d cx (.BinOp l op r pos) (.ew o il ir):=
 λY env k mE fr w H s p=>.Η (hl Y env k mE fr w H s p) λw1 a1 s1 x H1 n1 r1=>.Η (.b6 (hr Y env k mE fr w1 H1 s1 (p.Ϭ n1))) λw2 a2 s2 y H2 n2 r2=>.xt (.operate (Fs ho n2.st (r1.Ν n2.le) r2))
end
def I6{f:α->η β}{x:α}{l:ζ α}{r:ζ β}(h:(x::l).mapM f=Qa r):∃y ys,f x=Qa y/\l.mapM f=Qa ys/\r=y::ys:=by
 rw[qas] at h;refine(bs h).ι λy zq33=>?_;have h:=zq33.2;refine xEA (bs h) λys hys h=>?_;exact⟨y,ys,zq33.1,hys,(Qa.dL h).Μ⟩
inductive aN(h:QD)(v:μ)(d:Tn)(k:θ):Prop
 |mk(as:ζ Qj)(r:Reads h v d as)(c:d.canLay0=Qe)(l:d.depth<=k):aN h v d k
inductive zf4(h:QD)(v:ζ μ)(d:ζ Tn)(k:θ):Prop
 |mk(as:ζ Qj)(r:ReadsAll h v d as)(c:Tn.canLayAll0 d=Qe)(l:Tn.depthAll d<=k):zf4 h v d k
section
variable{cx:CC}{fr:Frame}
inductive fB(C:bf)(w:Wd)(h:QD)(v:μ)(mvs:ζ ab):Prop
 |mk (a:Qj) (o:wT) (n:θ) (vs:ζ μ) (e:v= .ο a) (g:h.ut a=Qa o) (c:o.cls= .w8 "tuple") (dt:o.Te= .seq vs.τ n) (r:jD C w mvs vs) (l:mvs.ε<=bc):fB C w h v mvs
theorem cb.ay(S:cb C Y.h₀ Y.L k w H h)(hv:jG C w (.ay mvs) v):fB C w h v mvs:=
 Sn.Α hv λa o n vs e q r l=>⟨a,o,n,vs,e,q.Hd.ι S.uy (S.mw _ _),q.cls,q.Te,r,l⟩
def tV(ih:∀v rv dt,jG C w v rv->ku H n v=Qa dt->aN h rv dt n):
  ∀{mvs:ζ ab}{vs:ζ μ}{ds:ζ Tn},jD C w mvs vs->mvs.mapM (ku H n)=Qa ds->zf4 h vs ds n:=by
 intro mvs
 induction mvs with
 |ϟ=>intro vs ds h e;refine eqB h ?_;refine lN e ?_;exact⟨[],.ϟ,rfl,JF _⟩
 |Κ m mvs ih'=>
  intro vs ds h e;refine xEEAA (I6 e) λy ys e1 e2 cw=>?_;refine eqB cw ?_;obtain⟨v,r,rfl,h,h'⟩:=h;obtain⟨as,r1,c1,d1⟩:=ih _ _ _ h e1;obtain⟨bs,r2,c2,d2⟩:=ih' h' e2;exact⟨as++bs,.Κ r1 r2,Jn.Ϩ ⟨c1,c2⟩,θ.max_le.Ϩ ⟨d1,d2⟩⟩
def nJ(S:cb C Y.h₀ Y.L k w H h):∀(n:θ)(v:ab)(rv:μ)(dt:Tn),jG C w v rv->ku H n v=Qa dt->aN h rv dt n:=by
 have flat:∀(n:θ)(v:ab)(rv:μ)(dt:Tn),jG C w v rv->ku H 0 v=Qa dt->aN h rv dt n:=by
  intro n v rv dt hv e;cases v with
  |none=>refine lN e ?_;refine eqB hv ?_;exact⟨[],.Δ,rfl,JF _⟩
  |bool b=>refine lN e ?_;refine eqB hv ?_;exact⟨[],.ϝ b,rfl,JF _⟩
  |int i=>refine lN e ?_;obtain⟨t,rfl⟩:=hv;exact⟨[],.φ i t,rfl,JF _⟩
  |str x=>refine lN e ?_;obtain⟨t,rfl,ok⟩:=hv;exact⟨[],.Υ _ t,by simpa [Tn.canLay0,Tn.strOk] using ok.1,JF _⟩
  |_=>exact af e
 intro n
 induction n with
 |zero=>exact flat 0
 |succ n ih=>
  intro v rv dt hv e;cases v with
  |ay vs=>
   obtain⟨ds,e1,rfl⟩:=ms e;obtain⟨a,o,n',ws,rfl,g,hc,hd,r,_⟩:=S.ay hv;obtain⟨as,ra,c1,d1⟩:=tV ih r e1;exact⟨as,.tuple g hc hd ra,c1,Zf d1⟩
  |ref i=>
   refine xEA (bs e) λvs hl e=>?_;obtain⟨ds,e1,rfl⟩:=ms e;obtain⟨a,ws,n',rfl,g,r,_⟩:=S.ξ hv hl;obtain⟨as,ra,c1,d1⟩:=tV ih r e1;exact⟨a::as,.ξ g rfl rfl ra,c1,Zf d1⟩
  |none=>exact flat _ _ _ _ hv e
  |bool b=>exact flat _ _ _ _ hv e
  |int i=>exact flat _ _ _ _ hv e
  |str x=>exact flat _ _ _ _ hv e
  |_=>exact af e
theorem kD.u(Y:kD C d e)(h:n<=180):Y.A.units+n<9900:=Jw (Zw (Jt h (by decide:180<190)) _) (Jm (Jm (JN (Jq _ (20*d)) 190) (Jq _ _)) Y.units)
def zea(S:St Y k w H s){x y:ab}{r:Ε}(hx:jG C w x vx)(hy:jG C w y vy)(e:LO H x y=Qa r):SeqAt.EqAt Y.A.in1 s vx vy r:=by
 refine xEA (bs e) λdx e1 e=>?_;obtain⟨dy,e2,rfl⟩:=ms e;obtain⟨_,r1,c1,d1⟩:=nJ S 8 x vx dx hx e1;obtain⟨_,r2,c2,d2⟩:=nJ S 8 y vy dy hy e2;refine SeqAt.eqAt_reads dx dy Y.A.in1 s vx vy _ _ r1 r2 c1 c2 ?_;rw[J6];exact Y.u (Jm (JH (Jv _) (KN _ _)) (Jm (Jp d1 _) (Jz _ _)))
def fG{C:bf}{d e:θ}(Y:kD C d e)(s:Qf)(vx vy:μ)(r:Ε):Prop:=
 ∀(Q:μ->Qf->Prop)(E:μ->Qf->Prop),(Q (.ϝ r) s->Qi C.M Y.A (compareOp .Eq vx vy) Q E s)/\(Q (.ϝ (!r)) s->Qi C.M Y.A (compareOp .NotEq vx vy) Q E s)
def OH(S:St Y k w H s){x y:ab}{r:Ε}(hx:jG C w x vx)(hy:jG C w y vy)(e:LO H x y=Qa r):fG Y s vx vy r:=by
 refine xEA (bs e) λdx e1 e=>?_;obtain⟨dy,e2,rfl⟩:=ms e;obtain⟨_,r1,c1,d1⟩:=nJ S 8 x vx dx hx e1;obtain⟨_,r2,c2,d2⟩:=nJ S 8 y vy dy hy e2;have hu:Y.A.units+min dx.depth dy.depth<9900:=Y.u (Jm (Yj (KN _ _)) (Jm (JH d2 d1) (Jz _ _)));exact λQ E=>⟨SeqAt.compareEq_reads r1 r2 c1 c2 hu,SeqAt.compareNe_reads r1 r2 c1 c2 hu⟩
end
def ap.ri(a:ap):Tn:=ap.Α (motive:=λ_=>Tn) a .φ .Υ
def Wp(h:MH)(k:θ)(a:ap):ku h k a.Op=Qa a.ri:=by cases a<;>cases k<;>rfl
def HW(a b:ap):qaK a.ri b.ri=decide (a=b):=by
 cases a with
 |i x=>
  cases b with
  |i y=>show (x==y)=_;rw[Z8,Β,Ϫ,ap.i.injEq]
  |s y=>rfl
 |s x=>
  cases b with
  |i y=>rfl
  |s y=>show (x==y)=_;rw[Z8,Β,Ϫ,ap.s.injEq]
def Af(h:MH)(k:θ)(as:ζ ap):(as.ς ap.Op).mapM (ku h k)=Qa (as.ς ap.ri):=by
 induction as with
 |ϟ=>rfl
 |Κ a r ih=>rw[JY,qas,Wp,ih];rfl
def La(as:ζ ap):∀bs:ζ ap,qbj (as.ς ap.ri) (bs.ς ap.ri)=decide (as=bs):=by
 induction as with
 |ϟ=>intro bs;cases bs<;>rfl
 |Κ a x ih=>
  intro bs;cases bs with
  |ϟ=>rfl
  |Κ b y=>
   show (qaK a.ri b.ri && qbj (x.ς ap.ri) (y.ς ap.ri))=_;rw[HW,ih,<-Ε.decide_and,Ti,KD.injEq]
def W4(a b:ap):gc a.Op b.Op=decide (a=b):=by
 delta gc LO;rw[Wp,Wp];exact HW a b
def EA(as bs:ζ ap):gc (.ay (as.ς ap.Op)) (.ay (bs.ς ap.Op))=decide (as=bs):=by
 have e:∀l:ζ ap,ku [] 8 (.ay (l.ς ap.Op))=Qa (.tuple (l.ς ap.ri)):=λl=>χ (qbc Tn.tuple) (Af [] 7 l);delta gc LO;rw[e,e];exact La as bs
def sO{v:ab}(h:nB v=Qe):∃a:ap,v=a.Op:=by
 cases v with
 |int n=>exact⟨.i n,rfl⟩
 |str x=>exact⟨.s ⟨x.τ⟩,rfl⟩
 |_=>cases h
def qV(a:ap):kG a.Op=1:=by cases a<;>rfl
def FW{vs:ζ ab}(h:vs.Db nB=Qe):∃as:ζ ap,vs=as.ς ap.Op:=by
 induction vs with
 |ϟ=>exact⟨[],rfl⟩
 |Κ v r ih=>
  refine(sO (Jn.mp h).1).ι λa zq12=>?_;refine eqB zq12 ?_;refine(ih (Jn.mp h).2).ι λas zq11=>?_;refine eqB zq11 ?_;exact⟨a::as,rfl⟩
def Bn(as:ζ ap):(as.ς ap.Op).Db nB=true:=by
 induction as with
 |ϟ=>rfl
 |Κ a r ih=>exact Jn.Ϩ ⟨by cases a<;>rfl,ih⟩
def sL(as:ζ ap):kG (.ay (as.ς ap.Op))=3:=by
 show (bif (as.ς ap.Op).Db nB then 3 else 0)=3;rw[Bn];rfl
def p9{v:ab}(h:(kG v !=0)=Qe):(∃a:ap,v=a.Op)\/∃as:ζ ap,v=.ay (as.ς ap.Op):=by
 delta kG at h;refine rY (nB v) (λha=>?_) λha=>?_
 ·exact .nb (sO ha)
 ·rw[ha] at h
  refine FD (v.tup?) (λht=>?_) λvs ht=>?_
  ·rw[ht] at h;cases h
  ·cases tup?_s ht
   refine rY (vs.Db nB) (λhal=>?_) λhal=>?_
   ·obtain⟨as,rfl⟩:=FW hal;exact .u8 ⟨as,rfl⟩
   ·have h':((bif vs.Db nB then 3 else 0:θ) !=0)=true:=h
    rw[hal] at h';cases h'
theorem ze6(h:(f es.τ).ss=es'):wT.mapDict f (Ql es ep)=Ql es' ep:=h▸rfl
theorem ze5(h:(f es.τ).ss=es'):wT.mapDictKeys f (Ql es ep)=Ql es' (ep+1):=h▸rfl
section
variable{prog:Qy}{w:Qn}{Kk:Type}[DecidableEq Kk]{knd:KeyKind prog w Kk}{A:QC}{E:Value->Qf->Prop}{s:Qf}
def DC{d:Qj}{kvs:ζ (Kk×μ)}{k:Kk}(hkey:knd.is k key=Qe)(ho:s.Ω.ut d=Qa (Ql es ep))(hk:KeysOf knd es.τ)(hp:Pairs knd es kvs)(hn:(kvs.ς (·.1)).ϥ)(hsz:es.ε<=sizeLine)
  (h:∀(es':ζ Qh)(f:wT->wT),f (Ql es ep)=Ql es' (if kvs.any (λkv=>kv.1=k) then ep else ep+1)->KeysOf knd es'.τ->Pairs knd es' (stored kvs k v)->((stored kvs k v).ς (·.1)).ϥ->
   Q () {s with heap:=s.Ω.LE d f,toks:=s.wS+1}):Qi (model prog w) A (dictSet d key v) Q E s:=by
 delta dictSet
 try with_reducible refine Qk ?_
 refine Qd (knd.pyHash hkey ?_);delta dictSetHashed
 try with_reducible refine Qk ?_
 refine Qd (wpAny_dictFind_of (s:={s with toks:=s.wS+1}) hkey ho rfl hk ?_);have hidx:(es.τ.findIdx? λe=>knd.is k e.key)=kvs.findIdx? λkv=>decide (kv.1=k):=by
  rw[<-hp.findIdx k];simp
 cases hi:es.τ.findIdx? λe=>knd.is k e.key with
 |some i=>
  have hany:=any_of_findIdx_some (hidx▸hi);refine Qd (QY (Qd (wpAny_updateDict (s:={s with toks:=s.wS+1}) ho rfl (wpAny_point ?_))));refine h (es.modify i λe=> {e with val:=v}) _ ?_ ?_ ?_ ?_
  ·rw[ρ hany];exact ze6 (by simp)
  ·have:=hk.modify i v;simpa using this
  ·rw[(by rw[stored,ρ hany]:stored kvs k v=kvs.ς (λkv=>if kv.1=k then(kv.1,v) else kv))];exact hp.modify hn (by rw[<-hi];simp:(es.findIdx? λe=>knd.is k e.key)=Qa i) v
  ·rw[(by rw[stored,ρ hany]:stored kvs k v=kvs.ς (λkv=>if kv.1=k then(kv.1,v) else kv)),keys_map_store];exact hn
 |none=>
  have hnot:k∉kvs.ς (·.1):=not_mem_of_findIdx_none (hidx▸hi);have hany:¬(kvs.any λkv=>decide (kv.1=k))=true:=by
   rw[Yu];rintro ⟨kv,hkv,he⟩;exact hnot (JM.Ϩ ⟨kv,hkv,Ο he⟩)
  refine Qd (QY (QT (hz:=by simpa using hsz) (s:={s with toks:=s.wS+1}) ho rfl ?_));refine h (es++[⟨knd.hash k,key,v⟩]) _ ?_ ?_ ?_ ?_
  ·rw[π hany];exact ze5 (by simp)
  ·have:=hk.Tj hkey v;simpa using this
  ·rw[(by rw[stored,π hany]:stored kvs k v=kvs++[(k,v)])];exact hp.append hkey (knd.hash k) v
  ·rw[(by rw[stored,π hany]:stored kvs k v=kvs++[(k,v)]),JR,Kr]
   refine⟨hn,JK.Ϩ ⟨JE,.ϟ⟩,?_⟩;intro a ha b hb;rw[JI.mp hb];exact λe=>hnot ((show a=k from e)▸ha)
def V4 {d:Qj} (hT:s.TypeIs (.ο d) "dict") (h:Qi (model prog w) A.in1 (dictSet d key v) Q E s):Qi (model prog w) A (setItem (.ο d) key v) Q E s:=by
 delta setItem
 try with_reducible refine Qk ?_
 refine Qd (Q0 hT rfl ?_);refine Qd (AT (name:=be.ofString "__setitem__") hT Q1
  (Qs Q1 hT entry_dict_setitem ?_ (args_dict_setitem _ _ _)))
 refine Qd (QI hT ?_);show Qi _ _ (dictSet d key v>>=_) _ _ s;exact Qd (Qo h (λ_ s' q=>Qg ⟨.Δ,rfl,Qg q⟩) λ_ _ e=>e)
end
section
variable{prog:Qy}{w:Qn}{Kk:Type}[DecidableEq Kk]{knd:HeapKind prog w Kk}{A:QC}{E:Value->Qf->Prop}{s:Qf}
def LH{d:Qj}{xs:ζ (Kk×Qj×μ)}{k:Kk}(hu:knd.room A)(hkey:knd.is s.Ω k a)(ho:s.Ω.ut d=Qa (Ql (xs.ς (entryOfKey knd)) ep))(his:∀x∈xs,knd.is s.Ω x.1 x.2.1)(hn:(xs.ς (·.1)).ϥ)(hsz:xs.ε<=sizeLine)
  (h:∀(f:wT->wT),f (Ql (xs.ς (entryOfKey knd)) ep)=Ql ((storedH xs k a v).ς (entryOfKey knd)) (if (atKey xs k).Ψ then ep else ep+1)->((storedH xs k a v).ς (·.1)).ϥ->
   Q () {s with heap:=s.Ω.LE d f,toks:=s.wS+knd.draws k}):Qi (model prog w) A (dictSet d (.ο a) v) Q E s:=by
 have he:((xs.ς (entryOfKey knd)).τ).ss=xs.ς (entryOfKey knd):=rfl;delta dictSet
 try with_reducible refine Qk ?_
 refine Qd (knd.pyHash hu hkey ?_);delta dictSetHashed
 try with_reducible refine Qk ?_
 refine Qd (wpAny_dictFind_heap (s:={s with toks:=s.wS+knd.draws k}) hu hkey ho rfl he his hn ?_ ?_)
 ·intro hno
  have hnot:k∉xs.ς (·.1):=not_mem_keys_of_get hno;refine Qd (QY (QT (hz:=by have e:=size_of_entries he;exact Jm (JC e) hsz) (s:={s with toks:=s.wS+knd.draws k}) ho rfl ?_));refine h _ ?_ ?_
  ·rw[storedH_new (QA hno),QA hno]
   exact ze5 (by simp [entryOfKey])
  ·rw[storedH_new (QA hno),JR,Kr]
   refine⟨hn,JK.Ϩ ⟨JE,.ϟ⟩,?_⟩;intro x hx y hy;rw[JI.mp hy];exact λe=>hnot ((show x=k from e)▸hx)
 ·intro j p hj
  refine Qd (QY (Qd (wpAny_updateDict (s:={s with toks:=s.wS+knd.draws k}) ho rfl (wpAny_point ?_))));refine h _ ?_ ?_
  ·rw[storedH_old (Q2 hn hj),Q2 hn hj]
   have:=modify_map_putAt (entryOfKey knd) (λe:Qh=> {e with val:=v}) k v (λ_ _=>rfl) hn hj
   simp only[<-this];exact ze6 (by simp)
  ·rw[storedH_old (Q2 hn hj),keys_map_putAt];exact hn
end
section
variable{cx:CC}{fr:Frame}
def jG.atom{a:ap}(h:jG C w a.Op v):a.is v=Qe/\a.ok:=by
 cases a with
 |i n=>obtain⟨t,rfl⟩:=h;exact⟨ϫ n,trivial⟩
 |s x=>obtain⟨t,rfl,ok⟩:=h;exact⟨ϫ x,ok⟩
def jD.items{as:ζ ap}:∀{vs:ζ μ},jD C w (as.ς ap.Op) vs->ItemsAre (j4 C.prog C.w) as vs:=by
 induction as with
 |ϟ=>intro vs h;refine eqB h ?_;exact .ϟ
 |Κ a r ih=>intro vs h;obtain⟨v,t,rfl,h1,h2⟩:=h;exact .Κ h1.atom.1 (ih h2)
def cb.iu(S:cb C Y.h₀ Y.L k w H h){as:ζ ap}(hv:jG C w (.ay (as.ς ap.Op)) v):∃t,v=.ο t/\Ja (j4 C.prog C.w) h as t:=by
 obtain⟨t,o,n,ws,e,ho,hc,hd,rr,hl⟩:=S.ay hv;exact⟨t,e,o,ws.τ,n,ho,hc,hd,rr.items⟩
theorem Iw{pre:bw}(h:bw.nd (pre++([(a,o)]++post))):∀q∈pre++post,q.1≠a:=
 λq hq e=>(JK.mp (bw.nd.jf (YW (a:=(a,o)) (l₁:=pre) (l₂:=post)) h)).1 (JM.Ϩ ⟨q,hq,e⟩)
def cb.bj(S:St Y k w H s){o o':ae}(ha:w.σ[i]?=Qa a)(ho:H[i]?=Qa o)(hen:∀en,uT C w a o en->∃ob,en=[(a,ob)])
  (hs:Ix.Go a s.Ω h') (hg:h'.ut a=Qa ob') (hr':uT C w a o' [(a,ob')]):cb C Y.h₀ Y.L k w (H.ϩ i o') h':=by
 obtain⟨pre,en,post,hr,hn,hd,g⟩:=S.at ha ho;refine(hen en hr).ι λob1 zq8=>?_;obtain rfl:=zq8;have hm:=hn (a,ob1) (JQ _ (.mo _));refine g o' [(a,ob')] h' rfl hr' ⟨S.fr.ns.sameBut hs (Ki hm.2.1),λc x e=>(hs.2 c (λq=>?_)).ν (S.fr.keep c x e),S.fr.above⟩ ?_
 ·rw[q,hm.2.2] at e;cases e
 ·intro p hp
  rcases Zd.mp hp with hp|hp
  ·have:=hn p (ZQ _ hp)
   exact⟨(hs.2 p.1 ((Iw hd) p (ZQ _ hp))).ν this.1,this.2⟩
  ·rcases Zd.mp hp with hp|hp
   ·rw[JI.mp hp]
    exact⟨hg,hm.2⟩
   ·have:=hn p (JQ _ (JQ _ hp))
    exact⟨(hs.2 p.1 ((Iw hd) p (JQ _ hp))).ν this.1,this.2⟩
inductive c7{C:bf}{d e:θ}(Y:kD C d e)(k:Kp)(w:Wd)(H:MH)(s:Qf)(i:θ)(v:μ)(p:η θ×ζ (ab×ab)):Prop
 |mk(a:Qj)(n:θ)(es:ζ Qh)(e:v=.ο a)(m:(a==sysModules)=Qb)(hep:∀x,p.1=Qa x->n=x)(g:s.Ω.ut a=Qa (Ql es n))(r:r0 C w p.2 es)(l:p.2.ε<=bc)
   (bj:∀h' o' ob',Ix.Go a s.Ω h'->h'.ut a=Qa ob'->uT C w a o' [(a,ob')]->cb C Y.h₀ Y.L k w (H.ϩ i o') h'):c7 Y k w H s i v p
def cb.kj(S:St Y k w H s){p:η θ×ζ (ab×ab)}(hv:jG C w (.ο i) v)(ho:H[i]?.Η ae.TO=Qa p):c7 Y k w H s i v p:=by
 refine xEA (bs ho) λo hi h2=>?_;cases dict?_s h2;refine xEA hv λa e ha=>?_;obtain⟨pre,en,post,⟨es,n,rfl,hep,dr,l⟩,hn,_,_⟩:=S.at ha hi;refine⟨a,n,es,e,wn.Ϩ λq=>υ (S.lo a (Jr ha)) (by rw[q];decide),hep,(hn (a,_) (JQ _ (.mo _))).1,dr,l,λh' o' ob' g2 g3 g4=>S.bj ha hi (λen h=>?_) g2 g3 g4⟩;obtain⟨_,_,rfl,_,_,_⟩:=h;exact⟨_,rfl⟩
def cb.Χ(S:St Y k w H s){x:ab}{p:η θ×ζ (ab×ab)}(hv:jG C w x v)(ho:lV H x=Qa p):∃i,x=.ο i/\c7 Y k w H s i v p:=by
 refine(bs ho).ι λi zq4=>?_;cases ref?_s zq4.1;exact⟨i,rfl,S.kj hv zq4.2⟩
def Et{f:α->ab}{l:ζ α}(e:mes.ς (·.1)=l.ς f):mes.ε=l.ε:=by
 have:=χ ZP e
 rwa [Js,Js] at this
theorem DA.ϟ:DA C w [] [] []:=⟨.ϟ,λe he=>υ he (by simp),.ϟ,rfl,λ_ h=>υ h JE,.ϟ⟩
theorem DT.ϟ:DT C w [] [] []:=⟨rfl,.ϟ,λ_ h=>υ h JE,rfl,.ϟ⟩
def U6{x:ab}{p:ab×ab}{r:ζ (ab×ab)}(hf:jN mes x=Qe)(e:mes=p::r):kG p.1=kG x:=by
 subst e;exact Qa.dL (Β.mp (Jn.mp hf).2)
def r0.atom{a:ap}(hf:jN mes a.Op=Qe)(h:r0 C w mes es):∃kvs,DA C w mes es kvs:=by
 rcases h with h| ⟨xs,D⟩
 ·exact h
 ·cases mes with
  |ϟ=>
   have:=D.e
   cases xs with
   |ϟ=>rw[D.es];exact⟨[],.ϟ⟩
   |Κ _ _=>cases this
  |Κ p r=>
   cases xs with
   |ϟ=>cases D.e
   |Κ x xs=>
    have:=U6 hf rfl
    rw[show p.1=.ay (x.1.ς ap.Op) from(KD.dL D.e).1,sL,qV] at this;cases this
def r0.rz{as:ζ ap}(hf:jN mes (.ay (as.ς ap.Op))=Qe)(h:r0 C w mes es):∃xs,DT C w mes es xs:=by
 rcases h with ⟨kvs,D⟩|h
 ·cases mes with
  |ϟ=>
   have:=D.e
   cases kvs with
   |ϟ=>have p:=D.p;cases p;exact⟨[],.ϟ⟩
   |Κ _ _=>cases this
  |Κ p r=>
   cases kvs with
   |ϟ=>cases D.e
   |Κ x kvs=>
    have:=U6 hf rfl
    rw[show p.1=x.1.Op from(KD.dL D.e).1,sL,qV] at this;cases this
 ·exact h
theorem DA.dictOf{kvs:ζ (ap×μ)}{a:θ}(D:DA C w mes es kvs)(hg:h.ut a=Qa (W.dictOf es n)):h.DictOf (j4 C.prog C.w) a kvs:=
 ⟨_,es.τ,n,hg,⟨rfl,rfl,rfl⟩,rfl,D.k,D.p,D.n⟩
theorem DT.ny(S:cb C Y.h₀ Y.L k w H h){xs:ζ (ζ ap×Qj×μ)}(D:DT C w mes es xs):∀x∈xs,Ja (j4 C.prog C.w) h x.1 x.2.1:=λx hx=>by
 refine xEA (S.iu (D.v x hx)) λt e q=>?_;cases e;exact q
theorem DT.dictOf(S:cb C Y.h₀ Y.L k w H h){xs:ζ (ζ ap×Qj×μ)}{b:θ}(D:DT C w mes es xs)(hg:h.ut b=Qa (W.dictOf es n)):h.DictOfH (tupleKind (j4 C.prog C.w)) b xs:=
 ⟨_,_,n,D.es▸hg,⟨rfl,rfl,rfl⟩,rfl,rfl,D.ny S,D.n⟩
def Bz(C:bf)(w:Wd)(m:η ab)(v:η μ):Prop:=(m=Qc/\v=Qc)\/∃mv rv,m=Qa mv/\v=Qa rv/\jG C w mv rv
def U5[TC α]{mk:α->ab}(hmk:∀a b,gc (mk a) (mk b)=decide (a=b))(k:α):∀{kvs:ζ (α×μ)}{mes:ζ (ab×ab)},mes.ς (·.1)=kvs.ς (λp=>mk p.1)->jD C w (mes.ς (·.2)) (kvs.ς (·.2))->Bz C w (jO mes (mk k)) (valueAt kvs k):=by
 intro kvs
 induction kvs with
 |ϟ=>intro mes e r;rw[qaE.mp e];exact .nb ⟨rfl,rfl⟩
 |Κ y kvs ih=>
  intro mes e r;cases mes with
  |ϟ=>cases e
  |Κ x mes=>
   obtain⟨e1,e2⟩:=KD.dL e;obtain⟨v,t,ev,h,r⟩:=r;obtain⟨rfl,rfl⟩:=KD.dL ev;have ih:=ih e2 r;unfold jO valueAt at ih ⊢;simp only[YH,YH,show x.1=mk y.1 from e1,hmk];cases hk:decide (y.1=k) with
   |true=>exact .u8 ⟨_,_,rfl,rfl,h⟩
   |false=>exact ih
def Bz.Ψ{m:η ab}{v:η μ}(h:Bz C w m v):m.Ψ=v.Ψ:=by
 rcases h with ⟨rfl,rfl⟩| ⟨_,_,rfl,rfl,_⟩<;>rfl
theorem DA.xL{kvs:ζ (ap×μ)}(D:DA C w mes es kvs)(k:ap):Bz C w (jO mes k.Op) (valueAt kvs k):=U5 W4 k D.e D.r
def DT.ou{xs:ζ (ζ ap×Qj×μ)}(D:DT C w mes es xs):mes.ς (·.1)=(kvsOf xs).ς (λp=>ab.ay (p.1.ς ap.Op))/\jD C w (mes.ς (·.2)) ((kvsOf xs).ς (·.2)):=by
 refine⟨?_,?_⟩
 ·rw[D.e];simp [kvsOf]
 ·have:=D.r
  simpa [kvsOf,Function.comp_def] using this
def DT.xL{xs:ζ (ζ ap×Qj×μ)}(D:DT C w mes es xs)(k:ζ ap):Bz C w (jO mes (.ay (k.ς ap.Op))) ((atKey xs k).ς (·.2)):=by
 rw[<-Jf];exact U5 (mk:=λas:ζ ap=>ab.ay (as.ς ap.Op)) EA k D.ou.1 D.ou.2
theorem kD.room(Y:kD C d e):(tupleKind (j4 C.prog C.w)).room Y.A.in1:=tupleKind_room_in1 (Y.u (by decide))
end
section
variable{cx:CC}{fr:Frame}
theorem He(S:St Y k w H s){x y:ab}{r:Ε}(hx:jG C w x vx)(hy:jG C w y vy):kr H x y=Qa r->fG Y s vx vy r:=
 kQ (jR λ_ _ e=>af e) (OH S hx hy)
theorem cb.grown(S:cb C Y.h₀ Y.L k w H h)(he:Ix.ExtBut h.wv.pc h h'):cb C Y.h₀ Y.L k w H h':=
 Sq.Α S.fc λall hn _ _ g=>g h' (S.fr.extBut he (Jv _)) λp hp=>⟨he p.1 p.2 (Ke (K7 (hn p hp).1)) (hn p hp).1,(hn p hp).2⟩
def jD.empty(r:jD C w mvs vs):vs.τ.db=mvs.db:=by
 cases mvs with
 |ϟ=>subst r;rfl
 |Κ m mvs=>obtain⟨v,t,rfl,_,_⟩:=r;rfl
def qO(S:St Y k w H s){x:ab}{r:Ε}(hx:jG C w x v)(e:truthy H x=Qa r){Q:Ε->Qf->Prop}(h:∀tk,Q r {s with toks:=tk}):Qi C.M Y.A (Ξ.truthy v) Q E s:=by
 cases x with
 |none=>subst hx;obtain rfl:=Qa.dL e;exact truthy_none (h s.wS)
 |bool b=>refine eqB hx ?_;refine soB e ?_;exact Q3 (h s.wS)
 |int i=>obtain⟨t,rfl⟩:=hx;obtain rfl:=Qa.dL e;exact truthy_int (h s.wS)
 |str l=>
  obtain rfl:=Qa.dL e;obtain⟨t,rfl,ok⟩:=hx;refine P.truthy_str (qaM.Ϩ (sJ ok.2)) ?_;have e:(((⟨l.τ⟩:be).ε:Τ) !=0)=!l.db:=by cases l<;>rfl
  exact e▸h _
 |ay vs=>
  obtain rfl:=Qa.dL e;obtain⟨t,o,n,ws,rfl,ho,hc,hd,rr,hl⟩:=S.ay hx;refine truthy_tuple (items:=ws.τ) ⟨o,ho,hc,n,hd⟩ (by rw[Zz,<-rr.ε];exact sJ hl) ?_;exact rr.empty▸h _
 |ref i=>
  refine(ms e).ι λvs zq31=>?_;obtain rfl:=zq31.2;obtain⟨t,ws,n,rfl,ho,rr,hl⟩:=S.ξ hx zq31.1;refine wpAny_truthy_list (items:=ws.τ) ⟨_,ho,rfl,n,rfl⟩ (by rw[Zz,<-rr.ε];exact sJ hl) ?_;exact rr.empty▸h _
 |_=>exact af e
theorem bq.truth{x:ab}(S:St Y k w H s)(hx:jG C w x v):bq Y k aP (Ξ.truthy v) w s ((truthy H x).ς λb=>(b,H)):=
 .jg λb hb=>.Op S λQ E q=>qO S hx hb λtk=>q b tk rfl
def j9[BEq α][LawfulBEq α]{a:α}{b:β}:∀{l:ζ (α×β)},l.ω a=Qa b->(a,b)∈l:=by
 intro l
 induction l with
 |ϟ=>exact λh=>af h
 |Κ p l ih=>
  intro h;rw[ZE] at h;cases e:(a==p.1) with
  |true=>rw[e] at h;refine lN h ?_;rw[Β.mp e];exact .mo _
  |false=>rw[e] at h;exact .lw _ (ih h)
def E0:∀p∈rH,∀q∈rH,(p.1==q.1)=(p.2==q.2):=by decide
def ze2 (hc:c2≠ .w8 "tuple") (f:sB μ->θ->sB μ->θ->α) (g:α):Ξ.emptiesJoinedAsOfOld.match_1 (λ_ _ _ _=>α) c1 c2 d1 d2 f (λ_ _ _ _=>g)=g:=by
 cases c1 with
 |type n=>
  by_cases h:n="tuple"
  ·subst h
   cases c2 with
   |type m=>delta Ξ.emptiesJoinedAsOfOld.match_1;exact dif_neg λe=>hc (χ Jy e)
   |_=>rfl
  ·delta Ξ.emptiesJoinedAsOfOld.match_1;exact dif_neg h
 |_=>rfl
def UF {b:Qj}{Q:Ε->Qf->Prop} (ha:s.Ω.ut a=Qa oa) (hb:s.Ω.ut b=Qa ob) (hc:ob.cls≠ .w8 "tuple") (h:Q (a==b) s):Qi C.M A (isSame (.ο a) (.ο b)) Q E s:=by
 delta isSame
 dsimp only
 by_cases e:a=b
 ·subst e
  refine wP (by simp) ?_;rw[ϫ] at h;exact Qg h
 ·refine wN (by simpa using e) ?_
  rw[wn.Ϩ e] at h;refine Qd (Jc ha (Qd (Jc hb ?_)));rw[ze2 hc];exact Qg h
def jG.pi{x:ab}(h:jG C w x v):isSame v .Δ=pure x.pi:=by
 rw[isSame_none];cases x with
 |none=>subst h;rfl
 |bool b=>refine eqB h ?_;rfl
 |int i=>obtain⟨t,rfl⟩:=h;rfl
 |str i=>obtain⟨t,rfl,_⟩:=h;rfl
 |ay i=>obtain⟨_,_,_,_,rfl,_,_,_⟩:=h;rfl
 |ref i=>obtain⟨_,rfl,_⟩:=h;rfl
 |ai i=>obtain⟨_,rfl,_⟩:=h;rfl
 |ty i=>obtain⟨_,rfl,_⟩:=h;rfl
 |bi i=>obtain⟨_,rfl,_⟩:=h;rfl
 |gb i=>obtain⟨_,_,_,_,rfl,_⟩:=h;rfl
 |fl i=>obtain⟨_,_,_,_,rfl,_,_,_⟩:=h;rfl
 |ql i=>obtain⟨_,_,_,_,_,rfl,_⟩:=h;rfl
def CA(K:vA C)(S:St Y k w H s){x y:ab}{r:Ε}(hx:jG C w x vx)(hy:jG C w y vy){Q:Ε->Qf->Prop}(h:Q r s):qx x y=Qa r->Qi C.M Y.A (isSame vx vy) Q E s:=by
 have plain:isSame vx vy=pure r->Qi C.M Y.A (isSame vx vy) Q E s:=λq=>by rw[q];exact Qg h
 refine kQ (mB λq e=>?_) (kQ (jR λi e1=>kE λj e2 e=>?_) (kQ (jR λi e1=>kE λj e2 e=>?_) (mB λq=>kE λj e2 e=>?_)))
 ·clear h
  cases HJ q;cases hy;exact plain (hx.pi.ν (χ pure (Qa.dL e)))
 ·clear h
  cases ty?_s e1;cases ty?_s e2;obtain⟨n1,rfl,h1⟩:=hx;obtain⟨n2,rfl,h2⟩:=hy;refine plain (χ pure (Eq.ν ?_ ((E0 _ (j9 h1) _ (j9 h2)).Μ.ν e)));by_cases e:n1=n2
  ·refine eqE e ?_;simp
  ·simp only[wn.Ϩ e,wn.Ϩ (λq=>e (Jy.dL q))]
 ·clear plain
  cases top?_s e1;cases top?_s e2;obtain⟨a1,rfl,h1⟩:=hx;obtain⟨a2,rfl,h2⟩:=hy;refine(K.cM _ _ h1).ι λo1 zq25=>?_;refine(K.cM _ _ h2).ι λo2 zq24=>?_;refine UF (S.mw _ _ zq25.1) (S.mw _ _ zq24.1) zq24.2 ?_;have e':(a1==a2)=(i==j):=by
   rw[Z8,Β,Β];exact⟨λq=>K.yz _ _ _ h1 (q▸h2),λq=>Qa.dL ((q▸h1:C.ad.ω j=Qa a1).Μ.ν h2)⟩
  rw[e',e];exact h
 ·cases top?_s e2
  obtain⟨b,rfl,h2⟩:=hy;subst e;cases x with
  |none=>subst hx;exact plain rfl
  |int i=>obtain⟨t,rfl⟩:=hx;exact plain rfl
  |ay vs=>
   clear plain
   refine(K.cM _ _ h2).ι λo zq22=>?_;obtain⟨ta,ot,n,ws,rfl,hg,hct,_,_,_⟩:=S.ay hx;refine UF hg (S.mw _ _ zq22.1) zq22.2 ?_;rw[wn.Ϩ λq=>zq22.2 (by rw[<-hct,Qa.dL ((q▸hg:s.Ω.ut b=Qa ot).Μ.ν (S.mw _ _ zq22.1))])];exact h
  |_=>cases q
def i6{C:bf}{d e:θ}(Y:kD C d e)(s:Qf)(vx vy:μ)(r:Ε):Prop:=
 ∀(Q:μ->Qf->Prop)(E:μ->Qf->Prop),((∀tk,Q (.ϝ r) {s with toks:=tk})->Qi C.M Y.A (compareOp .In vx vy) Q E s)/\((∀tk,Q (.ϝ (!r)) {s with toks:=tk})->Qi C.M Y.A (compareOp .NotIn vx vy) Q E s)
def one?_s{s:ζ θ}{c:θ}(h:one? s=Qa c):s=[c]:=by
 cases s with
 |ϟ=>exact af h
 |Κ a r=>
  cases r with
  |ϟ=>refine soB h ?_;rfl
  |Κ _ _=>exact af h
def CB(S:St Y k w H s){x y:ab}{r:Ε}(hx:jG C w x vx)(hy:jG C w y vy):Ua H x y=Qa r->i6 Y s vx vy r:=by
 have hu:∀{a b:θ},a<=7->Y.A.units+1+min a b<cLine:=λh=>by rw[J6];exact Y.u (Jm (Jp (Jm (KN _ _) h) 1) (by decide))
 refine kQ (jR λt e1=>kE λc e2 e=>?_) (kQ (jR λvs e1=>jR λds e2=>kE λdx e3 e=>?_) (kQ (jR λvs e1=>jR λds e2=>kE λdx e3 e=>?_) (jR λp e1=>mB λhf e=>?_)))
 ·obtain⟨x',e3,e2⟩:=bs e2
  cases one?_s e2;refine(hx.Tv e3).ι λu zq19=>?_;obtain rfl:=zq19.1;refine(hy.Tv e1).ι λt' zq18=>?_;refine eqB zq18.1 ?_;have hc:t.v6 c=decide (c∈t):=by rw[Z8,Yk,Ϫ]
  simp only[<-e,hc];refine λQ E=>⟨λh=>in_str ?_,λh=>notIn_str ?_⟩
  ·rw[show (⟨[c].τ⟩:be)=⟨#[c]⟩ from rfl,(StrLaws.found_one ⟨t.τ⟩ c)]
   exact h s.wS
  ·rw[show (⟨[c].τ⟩:be)=⟨#[c]⟩ from rfl,(StrLaws.found_one ⟨t.τ⟩ c)]
   exact h s.wS
 ·cases tup?_s e1
  obtain⟨t,o,n,ws,rfl,ho,hc,hd,rr,_⟩:=S.ay hy;obtain⟨as,ra,c1,d1⟩:=tV (nJ S 7) rr e2;obtain⟨bs,rb,c2,d2⟩:=nJ S 7 x vx dx hx e3;rw[<-e];exact λQ E=>⟨λh=>SeqAt.in_tuple_reads (.tuple ho hc hd ra:Reads s.Ω (.ο t) (.tuple ds) as) rb c1 c2 (hu d1) (h s.wS),λh=>SeqAt.notIn_tuple_reads (.tuple ho hc hd ra:Reads s.Ω (.ο t) (.tuple ds) as) rb c1 c2 (hu d1) (h s.wS)⟩
 ·obtain⟨t,ws,n,rfl,ho,rr,_⟩:=S.ξ hy e1
  obtain⟨as,ra,c1,d1⟩:=tV (nJ S 7) rr e2;obtain⟨bs,rb,c2,d2⟩:=nJ S 7 x vx dx hx e3;rw[<-e];exact λQ E=>⟨λh=>SeqAt.in_list_reads (.ξ ho rfl rfl ra) rb c1 c2 (hu d1) (h s.wS),λh=>SeqAt.notIn_list_reads (.ξ ho rfl rfl ra) rb c1 c2 (hu d1) (h s.wS)⟩
 ·refine(S.Χ hy e1).ι λi zq11=>?_
  obtain⟨b,n,es,rfl,hmod,_,hg,hdr,_,_⟩:=zq11.2;rw[<-Qa.dL e];rcases p9 (Jn.mp hf).1 with ⟨q,rfl⟩| ⟨q,rfl⟩
  ·obtain⟨kvs,D⟩:=hdr.atom hf
   rw[(D.xL q).Ψ];exact λQ E=>⟨λh=>wpAny_in_of hx.atom.1 hmod (D.dictOf hg).mapOf (h _),λh=>wpAny_notIn_of hx.atom.1 hmod (D.dictOf hg).mapOf (h _)⟩
  ·obtain⟨xs,D⟩:=hdr.rz hf
   obtain⟨t,rfl,ht⟩:=S.iu hx;simp only[(D.xL q).Ψ,YQ];exact λQ E=>⟨λh=>wpAny_in_heap Y.room ht hmod (D.dictOf S hg) (h _),λh=>wpAny_notIn_heap Y.room ht hmod (D.dictOf S hg) (h _)⟩
def A6{op:CmpOp}(K:vA C)(S:St Y k w H s){x y:ab}(hx:jG C w x vx)(hy:jG C w y vy):bq Y k (VR C) (compareOp op vx vy) w s ((mP (EF op) x y H).ς λr=>(.ϝ r,H)):=by
 refine .jg λr e=>.Op S λQ E q=>?_;have h:∀tk,Q (.ϝ r) {s with toks:=tk}:=λtk=>q _ tk rfl;have h0:=h s.wS;have cmpQ:∀{f:Τ->Τ->Ε}{t:Sem μ},M6 x y f=Qa r->(∀a b t1 t2,vx=.φ a t1->vy=.φ b t2->r=f a b->Qi C.M Y.A t Q E s)->Qi C.M Y.A t Q E s:=λe g=>by
  refine xEA (bs e) λa e1 e=>?_;obtain⟨b,e2,rfl⟩:=ms e;obtain⟨t1,q1⟩:=hx.sK e1;obtain⟨t2,q2⟩:=hy.sK e2;exact g a b t1 t2 q1 q2 rfl
 cases op with
 |Eq=>exact(He S hx hy e Q E).1 h0
 |NotEq=>
  obtain⟨q,hq,rfl⟩:=ms e;exact(He S hx hy hq Q E).2 h0
 |Lt=>exact cmpQ e λa b t1 t2 e1 e2 e3=>by subst e1 e2 e3;exact lt_int h0
 |LtE=>exact cmpQ e λa b t1 t2 e1 e2 e3=>by subst e1 e2 e3;exact le_int h0
 |Gt=>exact cmpQ e λa b t1 t2 e1 e2 e3=>by subst e1 e2 e3;exact gt_int h0
 |GtE=>exact cmpQ e λa b t1 t2 e1 e2 e3=>by subst e1 e2 e3;exact ge_int h0
 |In=>exact(CB S hx hy e Q E).1 h
 |NotIn=>
  obtain⟨q,hq,rfl⟩:=ms e;exact(CB S hx hy hq Q E).2 h
 |Is=>exact Qd (CA K S hx hy (Qg h0) e)
 |IsNot=>
  obtain⟨q,hq,rfl⟩:=ms e;exact Qd (CA K S hx hy (Qg h0) hq)
end
section
variable{w:Qn}
def Hl{d:Qj}{Q:μ->Qf->Prop}(hd:(d==sysModules)=Qb)(ho:s.Ω.ut d=Qa (Ql es ep))
  (hQ:Q (.ο s.Ω.wv.pc) {s with heap:=s.Ω.Tj {cls:= .w8 "dict_keyiterator",data:= .lf #[.ο d,.φ 0 0,.φ es.ε 0,.φ ep 0]} }):
  Qi (model prog w) A (pyIter (.ο d)) Q E s:=by
 refine wpAny_pyIter_slot (⟨_,ho,rfl⟩) F.slot_dict_iter (Qs F.slot_dict_iter (⟨_,ho,rfl⟩) F.entry_dict_iter ?_ (F.args_dict_iter_1 _));unfold TJ.«dict.__iter__»;refine Qd ?_;delta TJ.Dict.dictSlotNone;refine Qd (QI (⟨_,ho,rfl⟩) ?_);show Qi _ _ (pure (qaY d)) _ _ s;refine Qg ?_;show Qi _ _ (TJ.Dict.showsAll d>>=_) _ _ s;delta TJ.Dict.showsAll;rw[π (by rw[hd];exact Zq)];exact Qd (Qg (Qd (QB ho rfl (Qd (Q9 ho rfl (Qd (Qv (Qg ⟨_,rfl,"dict_keyiterator",_,⟨_,Ix.get?_push_size _ rfl,rfl⟩,F.Ta.ω,hQ⟩))))))))
def Wy{it d:Qj}{Q:η μ->Qf->Prop}(hh:A.tz=Qc)(hit:s.Ω.IsKeyIter it d i es.ε ep)(hod:s.Ω.ut d=Qa (Ql es ep))
  (h1:∀e h',es[i]?=Qa e->h'.IsKeyIter it d (i+1) es.ε ep->Ix.Go it s.Ω h'->Q (Qa e.key) {s with heap:=h'})
  (h2:∀h',es[i]?=Qc->Ix.ExtBut it s.Ω h'->Q Qc {s with heap:=h'}):Qi (model prog w) A (pyNext (.ο it)) Q E s:=by
 refine Zt (id hit) λo zq23=>?_;delta pyNext;refine Qd (wpAny_attempt (AT (name:=be.ofString "__next__") hit.Tl F.Ta
  (Qs F.Ta hit.Tl F.entry_dict_keyiterator_next ?_ (F.args_dict_keyiterator_next_1 _))))
 refine Qd (Qg ?_);refine Qd ?_;refine Qd ?_
 first|refine Qd (Qq hit.Tl (Qg ?_))|refine Qd (Qt hit.Tl (Qg ?_))
 refine Qd (wpAny_fieldsOf zq23.1 zq23.2.2 ?_);rw[π (by decide: ¬(TJ.Dict_items.ownsTuple "dict_keyiterator"=Qe))];refine wN (Zq) ?_;refine Qd (Qg ?_);refine Qd (QB hod rfl ?_);refine wN (by simp) ?_;refine Qd (Qg ?_);refine Qd (Q9 hod rfl ?_);refine wN (by simp) ?_;refine Qg ?_;refine FD (es[i]?) (λhx=>?_) λe hx=>?_
 ·have hx':es.τ[i]?=none:=by rw[Kb];exact hx
  dsimp only
  rw[π (by lia),KI,hx']
  dsimp only
  refine Qd ?_
  first|refine Qd (Qq hit.Tl (Qg ?_))|refine Qd (Qt hit.Tl (Qg ?_))
  show Qi _ _ (setField (.ο it) 0 .Δ>>=_) _ _ s;refine Qd (wpAny_setField zq23.1 zq23.2.2 (by simp) ?_);refine Qd ?_;delta newExc newTuple;refine Qd (Qv ?_ (by size_fits));refine Qd (m:=firstArgMember _ _) (wpAny_of_eq (a:=Z7) (by first|rfl|(simp only[firstArgMember];rfl)) ?_);refine Qv ?_ (by size_fits);delta raiseNew;refine Qd (wpAny_handled ?_);rw[show A.in1.tz=Qc from hh];refine Qd (Qg (wpAny_throw ?_));exact Qd (wpAny_isInstance (T:="StopIteration") (b:=Qe) ⟨_,Ix.get?_push_size _ rfl,rfl⟩ isSubtype_stop (Qg (h2 _ hx (((Ix.Go.LE ..).extBut.Tj _).Tj _))))
 ·dsimp only
  rw[π (by lia),KI,(by rw[Kb];exact hx:es.τ[i]?=Qa e)]
  dsimp only
  refine Qd ?_
  first|refine Qd (Qq hit.Tl (Qg ?_))|refine Qd (Qt hit.Tl (Qg ?_))
  refine Qd (QJ hit.Tl ?_);show Qi _ _ (setField (.ο it) 1 (rawInt ((i:Τ)+1))>>=_) _ _ s;refine Qd (wpAny_setField zq23.1 zq23.2.2 (by simp) ?_);have hit':(s.Ω.LE it (wT.mapFields (·.setIfInBounds 1 (rawInt ((i:Τ)+1))))).IsKeyIter it d (i+1) es.ε ep:=
   ⟨_,Yl _ zq23.1 (wT.isFreed_of_fields (wT.data_mapFields zq23.2.2 _)),(wT.cls_mapFields ..).ν zq23.2.1,by rw[wT.data_mapFields zq23.2.2];simp [rawInt]⟩
  refine Qd (Qk ?_);refine Qd (QJ (s:={s with heap:=s.Ω.LE it (wT.mapFields (·.setIfInBounds 1 (rawInt ((i:Τ)+1))))}) hit'.Tl ?_);exact Qg (Qg ⟨_,rfl,Qg (h1 e _ hx hit' (Ix.Go.LE ..))⟩)
end
abbrev Kp.Tb(k:Kp)(p:Qj×wT):Kp:= {k with ex:=p::k.ex}
def nE(k:Kp)(w:Wd)(os:ζ bw)(p:Qj×wT):((k.Tb p).Db w os).TH (p::k.Db w os):=by
 have:=YW (a:=p) (l₁:=os.ld++(w.tp++k.ce)) (l₂:=k.ex)
 rw[JB,JB,JB,JB] at this;exact this
section
variable{b:Qj}{o':Obj}
def cb.jd(S:cb C h₀ L k w H h)(o:wT)(hf:o.isFreed=Qb):cb C h₀ L (k.Tb (h.wv.pc,o)) w H (h.Tj o):=by
 obtain⟨os,he,hn,hd⟩:=S.os;exact⟨S.fr.Tj o,⟨os,he,λp hp=>hn.Tj S.fr o hf p ((nE k w os _).re.mp hp),bw.nd.jf (nE k w os (h.wv.pc,o)).Μ (GQ (qR _) hd (Ps.fresh hn λp hp=>JI.mp hp▸Jv _))⟩,S.pd,S.lo⟩
def cb.fk(S:cb C h₀ L (k.Tb (b,o)) w H h):h.ut b=Qa o/\b≠L/\h₀.ut b=none:=by
 obtain⟨os,he,hn,hd⟩:=S.os;exact hn (b,o) ((nE k w os (b,o)).re.Ϩ (.mo _))
theorem Fr.sameBut(F:Fr h₀ L h m)(hs:Ix.Go b h h')(g:b≠L/\h₀.ut b=Qc):Fr h₀ L h' m:=
 ⟨F.ns.sameBut hs (Ki g.1),λc x e=>(hs.2 c λq=>by rw[q,g.2] at e;cases e).ν (F.keep c x e),F.above⟩
def cb.jb(S:cb C h₀ L (k.Tb (b,o)) w H h)(hs:Ix.Go b h h')(ho:h'.ut b=Qa o'):cb C h₀ L (k.Tb (b,o')) w H h':=by
 obtain⟨os,he,hn,hd⟩:=S.os;have hd':=JK.mp (bw.nd.jf (nE k w os (b,o)) hd);refine⟨Fr.sameBut S.fr hs S.fk.2,⟨os,he,λp hp=>?_,bw.nd.jf (nE k w os (b,o')).Μ (JK.Ϩ hd')⟩,S.pd,S.lo⟩;rcases JO.mp ((nE k w os (b,o')).re.mp hp) with e|hp
 ·rw[e];exact⟨ho,S.fk.2⟩
 ·have:=hn p ((nE k w os (b,o)).re.Ϩ (.lw _ hp))
  exact⟨(hs.2 p.1 λe=>hd'.1 (JM.Ϩ ⟨p,hp,e⟩)).ν this.1,this.2⟩
def cb.gq(S:cb C h₀ L (k.Tb (b,o)) w H h)(hx:Ix.ExtBut b h h'):cb C h₀ L k w H h':=by
 have g:=S.fk;obtain⟨os,he,hn,hd⟩:=S.os;have hd':=JK.mp (bw.nd.jf (nE k w os (b,o)) hd);refine⟨⟨S.fr.ns.extBut hx (Ki g.2.1),λc x e=>hx c x (λq=>by rw[q,g.2.2] at e;cases e) (S.fr.keep c x e),S.fr.above⟩,⟨os,he,λp hp=>?_,hd'.2⟩,S.pd,S.lo⟩
 have:=hn p ((nE k w os (b,o)).re.Ϩ (.lw _ hp))
 exact⟨hx p.1 p.2 (λe=>hd'.1 (JM.Ϩ ⟨p,hp,e⟩)) this.1,this.2⟩
def cb.kz{p q:Qj×wT}(S:cb C h₀ L ((k.Tb q).Tb p) w H h):cb C h₀ L ((k.Tb p).Tb q) w H h:=by
 obtain⟨os,he,hn,hd⟩:=S.os;have hp:(((k.Tb p).Tb q).Db w os).TH (((k.Tb q).Tb p).Db w os):=ζ.TH.append_left _ (ζ.TH.append_left _ (ζ.TH.append_left _ (ζ.TH.swap p q k.ex)));exact⟨S.fr,⟨os,he,λr hr=>hn r (hp.re.mp hr),bw.nd.jf hp.Μ hd⟩,S.pd,S.lo⟩
def cb.wb{m:ae}(S:cb C h₀ L (k.Tb (b,o)) w H h)(h4:4<=b)(hr:uT C ⟨w.σ++[b],w.tp⟩ b m [(b,o)]):cb C h₀ L k ⟨w.σ++[b],w.tp⟩ (H++[m]) h:=by
 obtain⟨os,he,hn,hd⟩:=S.os;have hp:=(nE k w os (b,o)).ν (WH k w b [(b,o)] os);exact⟨S.fr,⟨os++[[(b,o)]],rZ.xu hr (rZ.Ν (w:=w) (w':=⟨w.σ++[b],w.tp⟩) ⟨Zh _ _,λ_ x=>x⟩ he),λp hp'=>hn p (hp.re.Ϩ hp'),bw.nd.jf hp hd⟩,S.pd,S.uj h4⟩
end
inductive ND(io:wT)(T:Tm)(v:μ)(i:θ):Prop
 |mk(c:io.cls=.w8 T)(d:io.Te=.lf #[v,.φ (i:θ) 0]):ND io T v i
inductive zau(io:wT)(x:ζ θ)(i:θ):Prop
 |mk (T:Tm) (t:Tok) (h:T="str_ascii_iterator"\/T="str_iterator") (q:ND io T (.Υ ⟨x.τ⟩ t) i):zau io x i
inductive zaw(io:wT)(n:Τ)(i:θ):Prop
 |mk (left:Τ) (h1:0<left ↔ (i:Τ)<n) (h2:0<left->left=n-i) (e:io= {cls:= .w8 "range_iterator",dict:=Qc,data:= .lf #[rawInt (i:θ),rawInt left,rawInt 1],slots:= #[]}):zaw io n i
def pC(C:bf)(w:Wd)(io:wT)(i:θ)(k:It):Prop:=It.Α (motive:=λ_=>Prop) k
 (λa=> ∃la,w.σ[a]?=Qa la/\ND io "list_iterator" (.ο la) i)
 (λmvs=> ∃ta,jG C w (.ay mvs) (.ο ta)/\ND io "tuple_iterator" (.ο ta) i)
 (λa n ep=> ∃la,w.σ[a]?=Qa la/\io.cls= .w8 "dict_keyiterator"/\io.Te= .lf #[.ο la,.φ (i:θ) 0,.φ (n:θ) 0,.φ (ep:θ) 0])
 (λx=>se x/\zau io x i)
 (λn=>zaw io n i)
 (λmvs=> ∃la,jG C w (.fl mvs) (.ο la)/\ND io "list_iterator" (.ο la) i)
theorem pC.Ν(l:w.le w'){k:It}:pC C w io i k->pC C w' io i k:=
 It.Α (motive:=λk=>pC C w io i k->pC C w' io i k) k (λ_ h=>h.ι λla h=>⟨la,l.xL h.1,h.2⟩) (λ_ h=>h.ι λla h=>⟨la,h.1.Ν l,h.2⟩) (λ_ _ _ h=>h.ι λla h=>⟨la,l.xL h.1,h.2⟩) (λ_ h=>h) (λ_ h=>h) (λ_ h=>h.ι λla h=>⟨la,h.1.Ν l,h.2⟩)
section
variable{cx:CC}{fr:Frame}
def r0.gn(h:r0 C w mes es):es.ε=mes.ε/\∀(i:θ)(p:ab×ab),mes[i]?=Qa p->∃e:Qh,es[i]?=Qa e/\jG C w p.1 e.key:=by
 rcases h with ⟨kvs,D⟩| ⟨xs,D⟩
 ·have l1:=Et D.e
  have l2:=D.p.ε;refine⟨by lia,λi p hp=>?_⟩;have hik:i<kvs.ε:=Jw ((Jx.mp hp).1:i<mes.ε) (JC l1);have hie:i<es.ε:=Jw hik (JC (XE l2));refine⟨es[i],Jo hie,?_⟩;have hk:=(D.p.ut (i:=i) (Jo hie) (Jo hik)).1;have he:(mes.ς (·.1))[i]?=(kvs.ς λp=>p.1.Op)[i]?:=by rw[D.e]
  rw[JA,JA,hp,Jo hik] at he;rw[show p.1=kvs[i].1.Op from Qa.dL he];have hok:=D.ok kvs[i] (Zg hik)
  generalize kvs[i].1=a at hk hok
  cases a with
  |i z=>exact Kd hk
  |s x=>
   obtain⟨t,ht⟩:=Ka hk;exact⟨t,ht,hok⟩
 ·have l1:=Et D.e
  refine⟨by rw[D.es,Js,l1],λi p hp=>?_⟩;have hik:i<xs.ε:=l1▸(Jx.mp hp).1;refine⟨entryOfKey (tupleKind (j4 C.prog C.w)) xs[i],by rw[D.es,JA,Jo hik];rfl,?_⟩;have he:(mes.ς (·.1))[i]?=(xs.ς λx=>ab.ay (x.1.ς ap.Op))[i]?:=by rw[D.e]
  rw[JA,JA,hp,Jo hik] at he;rw[show p.1=_ from Qa.dL he];exact D.v xs[i] (Zg hik)
def Hm{n:Τ}(h1:n<=bc)(h2: -(bc:Τ)<=n):TJ.Range.small 0 n 1=true:=by
 have hl:(bc:Τ)=1000000:=rfl;refine small_one ?_ ?_ ?_ ?_<;>lia
def Wz(n:Τ):(0<Yb 0 n 1 ↔ 0<n)/\(0<Yb 0 n 1->Yb 0 n 1=n):=by
 delta Yb;simp only[gt_iff_lt,Τ.zero_lt_one,if_true];split
 ·rename_i h
  refine⟨?_,?_⟩<;>lia
 ·rename_i h
  refine⟨?_,?_⟩<;>lia
def Ha(S:St Y k w H s){v:ab}(hv:jG C w v rv){Q:μ->Qf->Prop} 
  (h:∀I io h',cb C Y.h₀ Y.L (k.Tb (I,io)) w H h'->pC C w io 0 z->Q (.ο I) {s with heap:=h'}):nA H v=Qa z->Qi C.M Y.A (pyIter rv) Q E s:=by
 refine kQ (jR λn e1=>mB λhn e=>?_) (kQ (jR λa e1=>kQ (kE λvs e2 e=>?_) (jR λp e2=>kE λep e3 e=>?_)) (kQ (kE λvs e1 e=>?_) (kQ (kE λx e1 e=>?_) (kE λvs e1 e=>?_))))
 ·obtain rfl:=Qa.dL e;cases rng?_s e1
  obtain⟨r,t,u,v,rfl,hr⟩:=hv;exact wpAny_pyIter_range (S.uy hr) (Hm (Ο (Jn.mp hn).1) (Ο (Jn.mp hn).2)) (h _ _ _ (S.jd _ rfl) ⟨_,(Wz n).1,λhh=>((Wz n).2 hh).ν (Τ.sub_zero n).Μ,rfl⟩)
 ·subst e;cases ref?_s e1
  obtain⟨la,ws,n,rfl,ho,rr,hl⟩:=S.ξ hv e2;exact Zt hv λ_ zq20=>Q4 (items:=ws.τ) ⟨_,ho,rfl,n,rfl⟩ (h _ _ _ (S.jd _ rfl) ⟨la,qaY.dL zq20.1▸zq20.2,rfl,rfl⟩)
 ·subst e;cases ref?_s e1
  obtain⟨b,n,es,rfl,hmod,hep,hg,dr,_,_⟩:=S.kj hv e2;cases hep ep e3;exact Zt hv λ_ zq18=>Hl hmod hg (h _ _ _ (S.jd _ rfl) ⟨b,qaY.dL zq18.1▸zq18.2,rfl,by rw[<-dr.gn.1];rfl⟩)
 ·subst e;cases tup?_s e1
  obtain⟨t,o,n,ws,rfl,ho,hc,hd,rr,hl⟩:=S.ay hv;exact iter_tuple (items:=ws.τ) ⟨o,ho,hc,n,hd⟩ (h _ _ _ (S.jd _ rfl) ⟨t,hv,rfl,rfl⟩)
 ·subst e
  obtain⟨t,rfl,ok⟩:=hv.Tv e1;refine wpAny_pyIter_strU (h _ _ _ (S.jd _ rfl) ⟨ok,strIterType ⟨x.τ⟩,t,?_,rfl,rfl⟩);delta strIterType;split
  ·exact .nb rfl
  ·exact .u8 rfl
 ·subst e;cases fl?_s e1
  obtain⟨la,o,n,ws,rfl,q,rr,hl⟩:=id hv;exact Q4 (items:=ws.τ) ⟨o,S.mw _ _ q.Hd,q.cls,n,q.Te⟩ (h _ _ _ (S.jd _ rfl) ⟨la,hv,rfl,rfl⟩)
def zav{C:bf}{d e:θ}(Y:kD C d e)(k:Kp)(w:Wd)(H:MH)(s:Qf)(I:Qj)(i:θ)(z:It)(r:η ab)(Q:η μ->Qf->Prop):Prop:=(∀v rv io' h' tk,r=Qa v->cb C Y.h₀ Y.L (k.Tb (I,io')) w H h'->pC C w io' (i+1) z->jG C w v rv->Q (Qa rv) {s with heap:=h',toks:=tk})/\∀h',r=Qc->cb C Y.h₀ Y.L k w H h'->Q Qc {s with heap:=h'}
section
variable{C:bf}{d e:Nat}{Y:kD C d e}{k:Kp}{w:Wd}{H:MH}{s:Qf}{I:Qj}{i:Nat}{z:It}{r:Option ab}{Q:Option Value->Qf->Prop}(ψ:zav Y k w H s I i z r Q)
def zav.go:=@ψ.1
def zav.fe:=@ψ.2
end
def Ws{I:Qj}{r:η ab}{Q:η μ->Qf->Prop}(S:St Y (k.Tb (I,io)) w H s)(rr:jD C w mvs vs)(er:mvs[i]?=r)(G:zav Y k w H s I i z r Q)
  (item:∀x (Q:η μ->Qf->Prop),vs.τ[i]?=Qa x->(∀h' o',h'.ut I=Qa o'->pC C w o' (i+1) z->Ix.Go I s.Ω h'->Q (Qa x) {s with heap:=h'})->Qi C.M Y.A (pyNext (.ο I)) Q (λ_ _=>False) s)
  (fe:∀(Q:η μ->Qf->Prop),vs.τ[i]?=Qc->(∀h',Ix.ExtBut I s.Ω h'->Q Qc {s with heap:=h'})->Qi C.M Y.A (pyNext (.ο I)) Q (λ_ _=>False) s) {E:μ->Qf->Prop}:Qi C.M Y.A (pyNext (.ο I)) Q E s:=by
 refine Qo (Q:=Q) (E:=λ_ _=>False) ?_ (λ_ _ q=>q) (λ_ _ q=>q.ι);cases r with
 |none=>
  refine fe Q ?_ λh' he=>G.fe h' rfl (S.gq he);rw[Kb,Km,<-rr.ε];exact Km.mp er
 |some v=>
  exact(rr.xL er).ι λrv zq14=>item rv Q (by rw[Kb];exact zq14.1) λh' o' g1 g2 hs=>G.go v rv o' h' _ rfl (S.jb hs g1) g2 zq14.2
def L8{I:Qj}{r:η ab}(S:St Y (k.Tb (I,io)) w H s)(R:pC C w io i z)(e:lI H i z=Qa r){Q:η μ->Qf->Prop}(G:zav Y k w H s I i z r Q):Qi C.M Y.A (pyNext (.ο I)) Q E s:=by
 have hI:=S.fk.1;cases z with
 |fs mvs=>
  obtain⟨la,hv,ic⟩:=R;have zq12:=id hv;obtain⟨_,o,n,vs,e1,q,rr,_⟩:=zq12;cases e1;have hl0:s.Ω.IsList la vs.τ:=⟨o,S.mw _ _ q.Hd,q.cls,n,q.Te⟩;exact Ws S rr (Qa.dL e) G (λx Q hx g=>QF ⟨io,hI,ic.1,ic.2⟩ hl0 hx λh' hit' hs=>hit'.ι λo' p=>g h' o' p.1 ⟨la,hv,p.2.1,p.2.2⟩ hs) (λQ hx g=>QK Y.tz ⟨io,hI,ic.1,ic.2⟩ hl0 hx g)
 |ls a=>
  obtain⟨la,ha,ic⟩:=R;obtain⟨mvs,hm,er⟩:=ms e;obtain⟨_,ws,n,e1,ho,rr,hl⟩:=S.ξ (x:=.ο a) ⟨la,rfl,ha⟩ hm;cases e1;have hl0:s.Ω.IsList la ws.τ:=⟨_,ho,rfl,n,rfl⟩;exact Ws S rr er G (λx Q hx g=>QF ⟨io,hI,ic.1,ic.2⟩ hl0 hx λh' hit' hs=>hit'.ι λo' p=>g h' o' p.1 ⟨la,ha,p.2.1,p.2.2⟩ hs) (λQ hx g=>QK Y.tz ⟨io,hI,ic.1,ic.2⟩ hl0 hx g)
 |tp mvs=>
  obtain⟨ta,ht,ic⟩:=R;have zq7:=S.ay ht;obtain⟨_,o,n,ws,e1,ho,hc,hd,rr,hl⟩:=zq7;cases e1;have hl0:IsTup s.Ω ta ws.τ:=⟨o,ho,hc,n,hd⟩;exact Ws S rr (Qa.dL e) G (λx Q hx g=>next_tuple_item ⟨io,hI,ic.1,ic.2⟩ hl0 hx λh' hit' hs=>hit'.ι λo' p=>g h' o' p.1 ⟨ta,ht,p.2.1,p.2.2⟩ hs) (λQ hx g=>next_tuple_end Y.tz ⟨io,hI,ic.1,ic.2⟩ hl0 hx g)
 |sq x=>
  obtain⟨ok,T,t,hT,ic⟩:=R;have er:=Qa.dL e;refine FD (x[i]?) (λhc=>?_) λc hc=>?_
  ·rw[hc] at er
   have hvs:(⟨x.τ⟩:be).cps[i]?=none:=(Kb).ν hc;rcases hT with rfl|rfl
   ·exact wpAny_pyNext_ascii_end Y.tz ⟨io,hI,ic.1,ic.2⟩ hvs λh' he=>G.fe h' er.Μ (S.gq he)
   ·exact wpAny_pyNext_wide_end Y.tz ⟨io,hI,ic.1,ic.2⟩ hvs λh' he=>G.fe h' er.Μ (S.gq he)
  ·rw[hc] at er
   have hck:∀u:Tok,jG C w (.Υ [c]) (.Υ ⟨#[c]⟩ u):=λu=>⟨u,rfl,λy hy=>JI.mp hy▸ok.1 c (Jr hc),(by decide:1<=bc)⟩;rcases hT with rfl|rfl
   ·exact wpAny_pyNext_ascii_item ⟨io,hI,ic.1,ic.2⟩ ((Kb).ν hc) λh' hit' hs=>hit'.ι λo' p=>G.go (.Υ [c]) _ o' h' _ er.Μ (S.jb hs p.1) ⟨ok,_,t,.nb rfl,p.2.1,p.2.2⟩ (hck _)
   ·exact wpAny_pyNext_wide_item ⟨io,hI,ic.1,ic.2⟩ ((Kb).ν hc) λh' hit' hs=>hit'.ι λo' p=>G.go (.Υ [c]) _ o' h' _ er.Μ (S.jb hs p.1) ⟨ok,_,t,.u8 rfl,p.2.1,p.2.2⟩ (hck _)
 |dk a n ep=>
  refine Zt R λla zq6=>?_;obtain⟨p,e2,e3⟩:=bs e;obtain⟨hc,e4⟩:=gs e3;have er:=Qa.dL e4
  clear e e3 e4
  have hc:=Jn.mp hc;obtain⟨b,n',es,e1,hmod,hep,hg,dr,_,_⟩:=S.kj ⟨la,rfl,zq6.1⟩ e2;cases e1;obtain⟨hlen,hget⟩:=dr.gn;cases hep ep (Β.mp hc.1);have hn:n=es.ε:=(Β.mp hc.2).Μ.ν hlen.Μ;subst hn;refine Wy Y.tz ⟨io,hI,zq6.2.1,zq6.2.2⟩ hg (λde h' hde hit' hs=>?_) λh' hde he=>G.fe h' ?_ (S.gq he)
  ·cases hv:p.2[i]? with
   |none=>rw[Km] at hv;rw[Km.Ϩ (Jm (JC hlen) hv)] at hde;cases hde
   |some q=>
    refine xEA (hget i q hv) λde' hde' hr=>?_;rw[hde] at hde';cases hde';rw[hv] at er;exact Zt hit' λo' zq1=>G.go q.1 de.key o' h' s.wS er.Μ (S.jb hs zq1.1) ⟨la,zq6.1,zq1.2.1,zq1.2.2⟩ hr
  ·rw[<-er,Km.Ϩ (by rw[<-hlen];exact Km.mp hde)];rfl
 |rg n=>
  obtain⟨left,hl,hl2,rfl⟩:=R;have er:=Qa.dL e;cases hin:decide ((i:Τ)<n) with
  |true=>
   rw[hin] at er;refine wpAny_pyNext_range_item hI (hl.Ϩ (Ο hin)) λh' hit' hs=>G.go (.φ i) _ _ h' _ er.Μ (S.jb hs hit') ?_ ⟨_,rfl⟩
   have:=hl2 (hl.Ϩ (Ο hin))
   have e1:left-1=n-((i+1:θ):Τ):=(χ (· -1) this).ν (Τ.sub_sub n i 1);exact⟨left-1,by rw[e1];exact Τ.sub_pos,λ_=>e1,rfl⟩
  |false=>
   rw[hin] at er;exact wpAny_pyNext_range_end Y.tz hI (YI.mp λq=>υ (hl.mp q) (Tw hin)) λh' he=>G.fe h' er.Μ (S.gq he)
end
def Sy(e:ϛ):Prop:=(∀rest env,starEach (e::rest) env=(Qb,Ξ.eval e env)::starEach rest env)/\(∀o i,subscripted e Qb o i=operate [o,i] (getItem o i))/\(∀op,behindInMarks op e=Qb)/\(∀env x,foldedSetIterable e env x=pure x)/\(pT e=Qb->∀t n env,swapsWith e t n env=pure Qb)
section
variable{e:Expr}(ψ:Sy e)
def Sy.xr:=@ψ.1
def Sy.wr:=@ψ.2.1
def Sy.pa:=@ψ.2.2.1
def Sy.yr:=@ψ.2.2.2.1
def Sy.swap:=@ψ.2.2.2.2
end
def Sd(C:bf)(d:θ)(cx:CC)(e:ϛ)(ir:Ex):Prop:=mI C d cx e ir/\zR C d cx e ir/\Sy e
section
variable{C:bf}{d:Nat}{cx:CC}{e:Expr}{ir:Ex}(ψ:Sd C d cx e ir)
def Sd.es:=@ψ.1
def Sd.ts:=@ψ.2.1
def Sd.sy:=@ψ.2.2
end
abbrev mj(C:bf)(d:θ)(cx:CC):ζ ϛ->ζ Ex->Prop:=lH (Sd C d cx)
def zgb(C:bf)(d:θ)(cx:CC)(es:ζ ϛ)(irs:ζ Ex):Prop:=
 ∀(Y:kD C d 2)(env:Env)(k:Kp)(mE:be->η μ)(fr:Θ)(w:Wd)(H:MH)(s:Qf)(pos:Pos),Pl Y cx env k mE fr w H s->bq Y k (i0 C) (spliced (backTo pos (starEach es env))) w s (qC (C.cx d) irs fr H)
section
variable{cx:CC}{fr:Frame}
theorem DI{e:ϛ}{ir:Ex}(h:mI C d cx e ir)(he:∀(env:Env)(whole:Sem μ),Ξ.isTrue e env whole=(do let v<-whole;standAt e.pos;holding [v] (Ξ.truthy v))):zR C d cx e ir:=
 λY env k mE fr w H s p r=>jH λx H1 e1=>kE λb e2 e=>e▸λQ E hq=>isTrue_plain (h Y env k mE fr w H s p _ e1 _ _ λw1 a1 s1 n1 r1=>qO n1.st r1 e2 λtk=>hq w1 b _ (n1.ν (.wS n1.st tk)) rfl) (he _ _)
def lG{es:ζ ϛ}{irs:ζ Ex}(h:mj C d cx es irs):(backTo pos (starEach es env)).any (·.1)=false:=by
 induction h with
 |ϟ=>rfl
 |Κ h _ ih=>rw[h.sy.xr];exact ih
def rA{c:Cx}{irs:ζ Ex}:∀{H:MH}{r:ζ ab×MH},qC c irs fr H=Qa r->r.1.ε=irs.ε:=by
 induction irs with
 |ϟ=>intro H r h;refine lN h ?_;rfl
 |Κ e irs ih=>exact λ{H r} =>jH λv h1 e1=>jH λvs h2 e2 e=>Qa.dL e▸χ (· +1) (ih e2)
def sF{es:ζ ϛ}{irs:ζ Ex}(h:mj C d cx es irs):zgb C d cx es irs:=by
 induction h with
 |ϟ=>intro Y env k mE fr w H s pos p r e;refine lN e ?_;exact λQ E hq=>args_nil (hq w [] s (.TD p.st) .ϟ)
 |Κ h _ ih=>
  intro Y env k mE fr w H s pos p r;refine jH λv H1 e1=>jH λvs H2 e2 e=>?_;refine lN e ?_;exact λQ E hq=>args_cons (h.es Y env k mE fr w H s p _ e1 _ _ λw1 a1 s1 n1 r1=>ih Y env k mE fr w1 H1 s1 pos (p.Ϭ n1) _ e2 _ _ λw2 a2 s2 n2 r2=>hq w2 _ s2 (n1.ν n2) (.Κ (r1.Ν n2.le) r2)) (h.sy.xr _ _)
def ip.vg (S:St Y k w H s) (r:jD C w mvs vs) (hl:mvs.ε<=bc): ∃w',ip Y k w w' H s {s with heap:=s.Ω.Tj {cls:= .w8 "tuple",data:= .seq vs.τ} } /\jG C w' (.ay mvs) (.ο s.Ω.wv.pc):=by
 obtain⟨all,hn,_,tp,_⟩:=S.fc;have le:w.le ⟨w.σ,(s.Ω.wv.pc,({cls:= .w8 "tuple",data:= .seq vs.τ}:wT))::w.tp⟩:=⟨K9 _,λ_ x=> .lw _ x⟩;exact⟨_,⟨le,tp _ _ _ (S.fr.Tj _) (hn.Tj S.fr _) (Jv _),rfl,rfl⟩,_,_,0,vs,rfl,⟨.nb (.mo _),rfl,rfl⟩,r.Ν le,hl⟩
def Fh{es:ζ ϛ}{irs:ζ Ex}(h:mj C d cx es irs)(hi:Zx es.ε 1000=Qe):mI C d cx (.Tuple es n pos) (.ay irs):=by
 intro Y env k mE fr w H s p r;refine jH λvs H1 e1 e=>?_;refine lN e ?_;have hl:vs.ε<=bc:=by rw[rA e1,h.ε];exact Jm (Zl.mp hi) (by decide)
 refine λQ E hq=>wpAny_Tuple (sF h Y env k mE fr w H s pos p _ e1 _ _ λw1 a1 s1 n1 r1=>⟨by rw[<-r1.ε];exact Jm hl l9,?_⟩);exact(ip.vg n1.st r1 hl).ι λw2 zq26=>hq w2 _ _ (n1.ν zq26.1) zq26.2
def Cz{es:ζ ϛ}{irs:ζ Ex}(h:mj C d cx es irs)(hi:Zx es.ε 1000=Qe):mI C d cx (.ζ es pos) (.ξ irs):=by
 intro Y env k mE fr w H s p r;refine jH λvs H1 e1 e=>?_;have hl:vs.ε<=bc:=by rw[rA e1,h.ε];exact Jm (Zl.mp hi) (by decide)
 refine λQ E hq=>wpAny_List (sF h Y env k mE fr w H s pos p _ e1 _ _ λw1 a1 s1 n1 r1=>⟨by rw[<-r1.ε];exact Jm hl l9,?_⟩);obtain rfl:=Qa.dL e;obtain⟨all,hn,add,_,_⟩:=n1.st.fc;exact hq _ _ _ (n1.ν ⟨(⟨Zh _ _,λ_ x=>x⟩:w1.le ⟨w1.σ++[s1.Ω.wv.pc],w1.tp⟩),add _ (.ξ vs) [_] _ ⟨a1,0,rfl,r1.Ν (⟨Zh _ _,λ_ x=>x⟩:w1.le ⟨w1.σ++[s1.Ω.wv.pc],w1.tp⟩),hl⟩ (n1.st.fr.Tj _) (hn.Tj n1.st.fr _) (qR _) (Ps.fresh hn λp hp=>JI.mp hp▸Jv _) (n1.st.pu (Jv _)),rfl,rfl⟩) ⟨_,rfl,by rw[<-n1.st.am];exact ZJ⟩
def Mv{i:ab}(hv:jG C w i v)(h:og n i=Qa j):∃z t,v=.φ z t/\0<=z/\z<n/\j=z.Mi:=by
 refine xEA (bs h) λz e1 h=>?_;refine xA (gs h) λhb e=>?_;exact(hv.sK e1).ι λt zq23=>⟨z,t,zq23,Ο (Jn.mp hb).1,Ο (Jn.mp hb).2,(Qa.dL e).Μ⟩
def zbj{z:Τ}(h0:0<=z)(h1:z<n):seqIndex? z n=Qa z.Mi:=by
 unfold seqIndex?;simp only[π (YI.Ϩ h0)];exact(ρ (Jn.Ϩ ⟨Ζ h0,Ζ h1⟩))
def Cw{sl:ϛ}(hsl:Sy sl)(S:St Y k w H s){x y:ab}(hx:jG C w x vx)(hy:jG C w y vy):bq Y k (VR C) (subscriptTail value sl vx vy) w s ((kJ H x y).ς λv=>(v,H)):=by
 refine .jg λv e=>.Op S λQ E h=>?_;have lst:∀{b:Qj}{mvs:ζ ab}{ws:ζ μ},s.Ω.IsList b ws.τ->jD C w mvs ws->mvs.ε<=bc->vx=.ο b->(og mvs.ε y).Η (λj=>mvs[j]?)=Qa v->Qi C.M Y.A (subscriptTail value sl vx vy) Q E s:=by
  intro b mvs ws hL rr hl e1 e;refine xEA (bs e) λj hj e=>?_;obtain⟨z,t,rfl,h0,h1,rfl⟩:=Mv hy hj;refine(rr.xL e).ι λrv zq17=>?_;have hl':=sJ hl;subst e1;exact tail_any hL.Tl slot_list_getitem.ω (wpAny_getItem_list hL h0 (qaR h1 hl') (by rw[Kb];exact zq17.1) (h rv s.wS zq17.2)) (hsl.wr _ _)
 revert e
 refine kQ (jR λvs e1=>jR λj hj e=>?_) (kQ (jR λvs e1 e=>?_) (kQ (jR λvs e1 e=>?_) (jR λp e1=>mB λhf e=>?_)))
 ·cases tup?_s e1
  obtain⟨z,t,rfl,h0,h1,rfl⟩:=Mv hy hj;obtain⟨b,o,n,ws,rfl,ho,hc,hd,rr,hl⟩:=S.ay hx;exact(rr.xL e).ι λrv zq13=>item_tupleT (l:=ws) ⟨o,ho,hc,n,hd⟩ (by lia) (qaR h1 (sJ hl)) (zbj h0 (by rw[<-rr.ε];exact h1)) zq13.1 (h rv s.wS zq13.2) (hsl.wr _ _)
 ·cases fl?_s e1
  obtain⟨b,o,n,ws,e2,q,rr,hl⟩:=hx;exact lst ⟨o,S.mw _ _ q.Hd,q.cls,n,q.Te⟩ rr hl e2 e
 ·obtain⟨b,ws,n,e2,ho,rr,hl⟩:=S.ξ hx e1
  exact lst ⟨_,ho,rfl,n,rfl⟩ rr hl e2 e
 ·refine(S.Χ hx e1).ι λi zq8=>?_
  obtain⟨b,n,es,rfl,_,_,hg,hdr,_,_⟩:=zq8.2;rcases p9 (Jn.mp hf).1 with ⟨q,rfl⟩| ⟨q,rfl⟩
  ·refine(hdr.atom hf).ι λkvs zq7=>?_
   have D:=zq7;have hD:=D.dictOf hg;rcases D.xL q with ⟨q1,_⟩| ⟨mv,rv,q1,q2,q3⟩
   ·exact af (q1.Μ.ν e)
   ·cases q1.Μ.ν e
    exact tail_any hD.Tl slot_dict_getitem.ω (wpAny_getItem_of hy.atom.1 hD.mapOf q2 (h rv _ q3)) (hsl.wr _ _)
  ·obtain⟨xs,D⟩:=hdr.rz hf
   obtain⟨t,rfl,ht⟩:=S.iu hy;rcases D.xL q with ⟨q1,_⟩| ⟨mv,rv,q1,q2,q3⟩
   ·exact af (q1.Μ.ν e)
   ·cases q1.Μ.ν e
    obtain⟨pp,q4,rfl⟩:=ms q2;exact tail_any (D.dictOf S hg).Tl slot_dict_getitem.ω (wpAny_getItem_heap Y.room ht (D.dictOf S hg) q4 (h pp.2 _ q3)) (hsl.wr _ _)
theorem OA{v sl:ϛ}{ie ii:Ex}(hv:mI C d cx v ie)(hi:Sd C d cx sl ii):mI C d cx (.Subscript v sl pos) (.wr ie ii):=
 λY env k mE fr w H s p r=>jH λx H1 e1=>jH λy H2 e2 e Q E hq=>Subscript_ (hv Y env k mE fr w H s p _ e1 _ _ λw1 a1 s1 n1 r1=>hi.es Y env k mE fr w1 H1 s1 (p.Ϭ n1) _ e2 _ _ λw2 a2 s2 n2 r2=>
  Cw hi.sy n2.st (r1.Ν n2.le) r2 r e _ _ λw3 a3 s3 n3 r3=>hq w3 a3 s3 ((n1.ν n2).ν n3) r3)
theorem Hf(K:vA C){l r:ϛ}{op:CmpOp}{il ir:Ex}(hl:mI C d cx l il)(hr:Sd C d cx r ir):mI C d cx (.Compare l [op] [r] pos) (.ft (EF op) il ir):=
 λY env k mE fr w H s p r=>jH λx H1 e1=>jH λy H2 e2 e Q E hq=>wpAny_Compare1 (hl Y env k mE fr w H s p _ e1 _ _ λw1 a1 s1 n1 r1=>hr.es Y env k mE fr w1 H1 s1 (p.Ϭ n1) _ e2 _ _ λw2 a2 s2 n2 r2=>
  A6 K n2.st (r1.Ν n2.le) r2 r e _ _ λw3 a3 s3 n3 r3=>hq w3 a3 s3 ((n1.ν n2).ν n3) r3) (hr.sy.pa _)
def Gx(K:vA C){l r:ϛ}{op:CmpOp}{il ir:Ex}(hl:mI C d cx l il)(hr:Sd C d cx r ir):zR C d cx (.Compare l [op] [r] pos) (.ft (EF op) il ir):=by
 intro Y env k mE fr w H s p r;refine jH λv H' e0=>kE λb et e=>?_
 revert e0
 refine jH λx H1 e1=>jH λy H2 e2=>kE λc e3 e4=>?_;cases e4;cases et;subst e;exact λQ E hq=>wpAny_isTrue_Compare1 (hl Y env k mE fr w H s p _ e1 _ _ λw1 a1 s1 n1 r1=>hr.es Y env k mE fr w1 H1 s1 (p.Ϭ n1) _ e2 _ _ λw2 a2 s2 n2 r2=>
  A6 K n2.st (r1.Ν n2.le) r2 (.ϝ b,H') (by rw[e3];rfl) _ _ λw3 a3 s3 n3 r3=>by rw[show a3=.ϝ b from r3];exact Q3 (hq w3 b s3 ((n1.ν n2).ν n3) rfl)) (hr.sy.pa _)
def OB{x:ϛ}{ix:Ex}(hx:mI C d cx x ix):mI C d cx (.UnaryOp .Not x pos) (.not ix):=by
 intro Y env k mE fr w H s p r;refine jH λb H1 e0 e=>?_
 revert e0
 refine jH λx' H1' e1=>kE λb' e2 e3=>?_;cases e3;refine lN e ?_;exact λQ E hq=>Qd (hx Y env k mE fr w H s p _ e1 _ _ λw1 a1 s1 n1 r1=>Qd (Qm (Qk (not_value (qO n1.st r1 e2 λtk=>hq w1 _ _ (n1.ν (.wS n1.st tk)) rfl)))))
def B6{x:ϛ}{ix:Ex}(hx:zR C d cx x ix):zR C d cx (.UnaryOp .Not x pos) (.not ix):=by
 intro Y env k mE fr w H s p r;refine jH λv H' e0=>kE λb et e=>?_
 revert e0
 refine jH λb' H1 e1 e2=>?_;cases e2;obtain rfl:=Qa.dL et;subst e;exact λQ E hq=>isTrue_not (hx Y env k mE fr w H s p _ e1 _ _ λw1 a1 s1 n1 r1=>by rw[show a1=b' from r1];exact hq w1 _ s1 n1 rfl)
def OG{x y:ϛ}{it ix iy:Ex}(ht:zR C d cx t it)(hx:mI C d cx x ix)(hy:mI C d cx y iy):mI C d cx (.IfExp t x y pos) (.ite it ix iy):=by
 intro Y env k mE fr w H s p r;refine jH λb H1 e1 e=>?_;refine λQ E hq=>Qd (ht Y env k mE fr w H s p _ e1 _ _ λw1 a1 s1 n1 r1=>?_);rw[show a1=b from r1];cases b with
 |true=>exact hx Y env k mE fr w1 H1 s1 (p.Ϭ n1) _ e _ _ λw2 a2 s2 n2 r2=>hq w2 a2 s2 (n1.ν n2) r2
 |false=>exact hy Y env k mE fr w1 H1 s1 (p.Ϭ n1) _ e _ _ λw2 a2 s2 n2 r2=>hq w2 a2 s2 (n1.ν n2) r2
def B7{x y:ϛ}{it ix iy:Ex}(ht:zR C d cx t it)(hx:zR C d cx x ix)(hy:zR C d cx y iy):zR C d cx (.IfExp t x y pos) (.ite it ix iy):=by
 intro Y env k mE fr w H s p r;refine jH λv H' e0 e=>?_
 revert e0
 refine jH λb H1 e1 e0=>?_;refine λQ E hq=>isTrue_IfExp (ht Y env k mE fr w H s p _ e1 _ _ λw1 a1 s1 n1 r1=>?_);rw[show a1=b from r1];cases b with
 |true=>exact hx Y env k mE fr w1 H1 s1 (p.Ϭ n1) r (by show lQ (eval _ _ _ _)=_;rw[show eval (C.cx d) ix fr H1=Qa (v,H') from e0];exact e) _ _ λw2 a2 s2 n2 r2=>hq w2 a2 s2 (n1.ν n2) r2
 |false=>exact hy Y env k mE fr w1 H1 s1 (p.Ϭ n1) r (by show lQ (eval _ _ _ _)=_;rw[show eval (C.cx d) iy fr H1=Qa (v,H') from e0];exact e) _ _ λw2 a2 s2 n2 r2=>hq w2 a2 s2 (n1.ν n2) r2
def OJ{op:BoolOp}{es:ζ ϛ}{irs:ζ Ex}(h:mj C d cx es irs):∀(Y:kD C d 2)(env:Env)(k:Kp)(mE:be->η μ)(fr:Θ)(w:Wd)(H:MH)(s:Qf),Pl Y cx env k mE fr w H s->bq Y k (VR C) (boolOp pos op (evalEach es env)) w s (y5 (C.cx d) (op==.Or) irs fr H):=by
 induction h with
 |ϟ=>exact λY env k mE fr w H s p=>.Δ
 | @Κ ex i es irs he hs ih=>
  intro Y env k mE fr w H s p r;refine jH λv H1 e1 e=>?_;cases hs with
  |ϟ=>refine lN e ?_;exact he.es Y env k mE fr w H s p _ e1
  | @Κ e' i' es' irs' he' hs'=>
   revert e
   refine jR λb e2 e=>?_;intro Q E hq;show Qi C.M Y.A (do
    let v<-Ξ.eval ex env
    standAt pos
    let t<-holding [v] (Ξ.truthy v)
    match op,t with
    | .And,Qb| .Or,Qe=>pure v
    |_,_=>boolOp pos op (evalEach (e'::es') env)) Q E s
   refine Qd (he.es Y env k mE fr w H s p _ e1 _ _ λw1 a1 s1 n1 r1=>Qd (Qm (Qd (Qk (qO n1.st r1 e2 λtk=>?_)))));have n2:=n1.ν (.wS n1.st tk);have stop:Qa (v,H1)=Qa r->Qi C.M Y.A (pure a1) Q E {s1 with toks:=tk}:=λe=>by obtain rfl:=Qa.dL e;exact Qg (hq w1 a1 _ n2 r1)
   have go:y5 (C.cx d) (op==.Or) (i'::irs') fr H1=Qa r->Qi C.M Y.A (boolOp pos op (evalEach (e'::es') env)) Q E {s1 with toks:=tk}:=λe=>ih Y env k mE fr w1 H1 _ (p.Ϭ n2) r e Q E λw2 a2 s2 n3 r2=>hq w2 a2 s2 (n2.ν n3) r2;cases op<;>cases b
   ·exact stop e
   ·exact go e
   ·exact go e
   ·exact stop e
def B8{op:BoolOp}{es:ζ ϛ}{irs:ζ Ex}(h:mj C d cx es irs):∀(Y:kD C d 2)(env:Env)(k:Kp)(mE:be->η μ)(fr:Θ)(w:Wd)(H:MH)(s:Qf),Pl Y cx env k mE fr w H s->bq Y k aP (allTrue op es env) w s (lQ (y5 (C.cx d) (op==.Or) irs fr H)):=by
 induction h with
 |ϟ=>exact λY env k mE fr w H s p=>.Δ
 | @Κ ex i es irs he hs ih=>
  intro Y env k mE fr w H s p r;refine jH λv H' e0=>kE λb et e=>?_
  revert e0
  refine jH λv1 H1 e1 e2=>?_
  --the first test
  have first:∀c,truthy H1 v1=Qa c->∀{Q:Ε->Qf->Prop}{E:μ->Qf->Prop},(∀w1 s1,ip Y k w w1 H1 s s1->Q c s1)->Qi C.M Y.A (Ξ.isTrue ex env (Ξ.eval ex env)) Q E s:=λc hc Q E hq=>
   he.ts Y env k mE fr w H s p (c,H1) (by show cf (eval _ _ _ _) _=_;rw[show eval (C.cx d) i fr H=Qa (v1,H1) from e1];show qbc _ (truthy H1 v1)=_;rw[hc];rfl) Q E λw1 a1 s1 n1 r1=>by rw[show a1=c from r1];exact hq w1 s1 n1
  subst e;intro Q E hq;cases hs with
  |ϟ=>
   cases e2;cases op with
   |And=>
    refine QG (first b et λw1 s1 n1=>?_);cases b with
    |true=>exact wpAny_allTrue_And_nil (hq w1 _ s1 n1 rfl)
    |false=>exact hq w1 _ s1 n1 rfl
   |Or=>
    refine QL (first b et λw1 s1 n1=>?_);cases b with
    |true=>exact hq w1 _ s1 n1 rfl
    |false=>exact wpAny_allTrue_Or_nil (hq w1 _ s1 n1 rfl)
  | @Κ e' i' es' irs' he' hs'=>
   refine(bs e2).ι λc zq1=>?_;have stop:Qa (v1,H1)=Qa (v,H')->c=b/\H1=H':=λq=>by
    cases q;exact⟨Qa.dL (zq1.1.Μ.ν et),rfl⟩
   have go:∀w1 s1,ip Y k w w1 H1 s s1->y5 (C.cx d) (op==.Or) (i'::irs') fr H1=Qa (v,H')->Qi C.M Y.A (allTrue op (e'::es') env) Q E s1:=λw1 s1 n1 q=>
    ih Y env k mE fr w1 H1 s1 (p.Ϭ n1) (b,H') (by show cf (y5 _ _ _ _ _) _=_;rw[q];show qbc _ (truthy H' v)=_;rw[et];rfl) Q E λw2 a2 s2 n2 r2=>hq w2 a2 s2 (n1.ν n2) r2
   cases op with
   |And=>
    refine QG (first c zq1.1 λw1 s1 n1=>?_);cases c with
    |true=>exact go w1 s1 n1 zq1.2
    |false=>obtain⟨rfl,rfl⟩:=stop zq1.2;exact hq w1 _ s1 n1 rfl
   |Or=>
    refine QL (first c zq1.1 λw1 s1 n1=>?_);cases c with
    |true=>obtain⟨rfl,rfl⟩:=stop zq1.2;exact hq w1 _ s1 n1 rfl
    |false=>exact go w1 s1 n1 zq1.2
end
section
variable{cx:CC}{fr:Frame}
def zdg(C:bf)(w:Wd){α:Type}(mk:α->ab)(mes:ζ (ab×ab))(kvs:ζ (α×μ)):Prop:=mes.ς (·.1)=kvs.ς (λp=>mk p.1)/\jD C w (mes.ς (·.2)) (kvs.ς (·.2))
section
variable{C:bf}{w:Wd}{α:Type}{mk:α->ab}{mes:List (ab×ab)}{kvs:List (α×Value)}(ψ:zdg C w mk mes kvs)
def zdg.e:=@ψ.1
def zdg.r:=@ψ.2
end
def UN[TC α]{mk:α->ab}(hmk:∀a b,gc (mk a) (mk b)=decide (a=b))(k:α){mv:ab}(hv:jG C w mv rv){kvs:ζ (α×μ)}(P:zdg C w mk mes kvs)(hany:(jO mes (mk k)).Ψ=kvs.any (λkv=>kv.1=k)):
  zdg C w mk (mK mes (mk k) mv) (stored kvs k rv):=by
 delta mK stored;simp only[hany];cases hc:kvs.any (λkv=>decide (kv.1=k)) with
 |false=>
  refine⟨?_,?_⟩
  ·show (mes++[_]).ς _=(kvs++[_]).ς _
   simp only[JR,JR,P.e];rfl
  ·show jD C w ((mes++[_]).ς _) ((kvs++[_]).ς _)
   simp only[JR,JR];exact jD.append (.da hv) P.r
 |true=>
  obtain⟨e,r⟩:=P
  clear hc hany
  show zdg C w mk (mes.ς _) (kvs.ς _)
  induction kvs generalizing mes with
  |ϟ=>rw[qaE.mp e];exact⟨rfl,.ϟ⟩
  |Κ y kvs ih=>
   cases mes with
   |ϟ=>cases e
   |Κ x mes=>
    obtain⟨e1,e2⟩:=KD.dL e;obtain⟨v,t,ev,h,r⟩:=r;obtain⟨rfl,rfl⟩:=KD.dL ev;have e1:x.1=mk y.1:=e1;have hk:gc x.1 (mk k)=decide (y.1=k):=by rw[e1,hmk]
    by_cases q:y.1=k
    ·rw[Ζ q] at hk
     refine⟨?_,?_⟩
     ·show (bif gc x.1 (mk k) then _ else _:ab×ab).1::_=_
      rw[(ih e2 r).e,hk,JY,JY,ρ q];exact χ (· ::_) e1
     ·show jD C w ((bif gc x.1 (mk k) then _ else _:ab×ab).2::_) _
      rw[hk,JY,JY,ρ q];exact .Κ hv (ih e2 r).r
    ·rw[Γ q] at hk
     refine⟨?_,?_⟩
     ·show (bif gc x.1 (mk k) then _ else _:ab×ab).1::_=_
      rw[(ih e2 r).e,hk,JY,JY,π q];exact χ (· ::_) e1
     ·show jD C w ((bif gc x.1 (mk k) then _ else _:ab×ab).2::_) _
      rw[hk,JY,JY,π q];exact .Κ h (ih e2 r).r
def HZ(mes:ζ (ab×ab))(k v:ab):(mK mes k v).ε=(bif (jO mes k).Ψ then mes.ε else mes.ε+1):=by
 delta mK;cases (jO mes k).Ψ with
 |true=>exact Js ..
 |false=>exact Ju
def Lc{k v:ab}(h:mes.ε<n):(mK mes k v).ε<=n:=by
 rw[HZ];cases (jO mes k).Ψ with
 |true=>exact JL h
 |false=>exact h
def y9[TC α](kvs:ζ (α×μ))(k:α):(valueAt kvs k).Ψ=kvs.any (λkv=>kv.1=k):=by
 delta valueAt;rw[YQ,Z8,ζ.find?_isSome,Yu]
def BJ(S:St Y k w H s)(hu:A.units+1<cLine)(hob:s.Ω.ut D=Qa (Ql es n))(j:r0 C w mes es){x v:ab}(hf:jN mes x=Qe)(hlen:mes.ε<bc)(hk:jG C w x kv)(hv:jG C w v vv)
  {Q:Unit->Qf->Prop}{E:μ->Qf->Prop}
  (h:∀es' h' tk,Ix.Go D s.Ω h'->h'.ut D=Qa (Ql es' (bif (jO mes x).Ψ then n else n+1))->r0 C w (mK mes x v) es'->Q () {s with heap:=h',toks:=tk}):Qi C.M A (dictSet D kv vv) Q E s:=by
 have ci:∀{b:Ε}{x y:θ},(if b=Qe then x else y)=(bif b then x else y):=λ{b x y} =>by cases b<;>rfl
 rcases p9 (Jn.mp hf).1 with ⟨q,rfl⟩| ⟨q,rfl⟩
 ·obtain⟨kvs,DD⟩:=j.atom hf
  obtain⟨h1,h2⟩:=hk.atom;have hl:es.ε<=sizeLine:=by rw(occs:=.Db) [(r0.gn (.nb ⟨kvs,DD⟩)).1];exact Jm (JL hlen) l9
  have hany:=(DD.xL q).Ψ.ν (y9 kvs q);refine DC (knd:=j4 C.prog C.w) h1 hob DD.k DD.p DD.n hl λes' f hfe q1 q2 q3=>?_
  rw(occs:=.Db) [<-hany,ci] at hfe
  have P:=UN W4 q hv ⟨DD.e,DD.r⟩ hany;refine h es' _ _ (Ix.Go.LE ..) ?_ (.nb ⟨_,q2,q1,q3,P.e,λp hp=>?_,P.r⟩)
  ·rw(occs:=.Db) [<-hfe]
   exact Yl _ hob (by rw(occs:=.Db) [hfe];rfl)
  ·unfold stored at hp
   split at hp
   ·obtain⟨q,hq,rfl⟩:=JM.mp hp
    split<;>exact DD.ok q hq
   ·rcases Zd.mp hp with hp|hp
    ·exact DD.ok p hp
    ·rw(occs:=.Db) [JI.mp hp];exact h2
 ·obtain⟨xs,DD⟩:=j.rz hf
  obtain⟨t,rfl,ht⟩:=S.iu hk;have hl:xs.ε<=sizeLine:=by rw(occs:=.Db) [<-Et DD.e];exact Jm (JL hlen) l9
  refine LH (knd:=tupleKind (j4 C.prog C.w)) (qaS hu) ht (DD.es▸hob) (DD.ny S) DD.n hl λf hfe q3=>?_;have hany:=(DD.xL q).Ψ
  rw(occs:=.Db) [YQ] at hany
  rw(occs:=.Db) [<-hany,ci] at hfe
  have P:=UN (mk:=λas:ζ ap=>ab.ay (as.ς ap.Op)) EA q hv ⟨DD.ou.1,DD.ou.2⟩ (by rw(occs:=.Db) [<-y9,Jf,YQ];exact hany)
  rw(occs:=.Db) [<-kvsOf_storedH xs q t vv] at P
  refine h _ _ _ (Ix.Go.LE ..) ?_ (.u8 ⟨_,rfl,q3,λx hx=>?_,?_,?_⟩)
  ·rw(occs:=.Db) [<-hfe,<-DD.es]
   exact Yl _ hob (by rw(occs:=.Db) [DD.es,hfe];rfl)
  ·rcases mem_storedH hx with ⟨y,hy,q1,q2⟩| ⟨q1,q2⟩
   ·rw(occs:=.Db) [q1,q2];exact DD.v y hy
   ·rw(occs:=.Db) [q1,q2];exact hk
  ·rw(occs:=.Db) [P.e];simp [kvsOf]
  ·have:=P.r
   simpa [kvsOf,Function.comp_def] using this
theorem Pl.Tb(p:Pl Y cx env k mE fr w H s){q:Qj×wT}(S:St Y (k.Tb q) w H s'):Pl Y cx env (k.Tb q) mE fr w H s':=
 ⟨⟨p.b.Tc,p.b.gl,p.b.bl,p.b.sc,p.b.Tp,p.b.kh.imp id λ⟨o,h⟩=>⟨o,.lw _ h.1,h.2⟩⟩,p.f,S⟩
def EC:ζ (μ×μ)->ζ μ
 | []=>[]
 |p::r=>p.1::p.2::EC r
def F3(ws:ζ (μ×μ)):(EC ws).ε=2*ws.ε:=by
 induction ws with
 |ϟ=>rfl
 |Κ p ws ih=>rw[ZA,Kv];exact χ (· +2) ih
abbrev cY(C:bf)(d:θ)(cx:CC)(o:η ϛ)(i:Ex):Prop:=∃e,o=Qa e/\Sd C d cx e i
def Fo{ia:ζ Ex}(hk:lH (cY C d cx) ks ia):∀{vs:ζ ϛ}{ib:ζ Ex},mj C d cx vs ib->ks.ε=vs.ε->∀(Y:kD C d 2)(env:Env)(k:Kp)(mE:be->η μ)(fr:Θ)(w:Wd)(H:MH)(s:Qf),Pl Y cx env k mE fr w H s->
  bq Y k (λw l ws=>jD C w l (EC ws)) (evalPairs (pairTrees ks vs env pos)) w s (qC (C.cx d) (UE ia ib) fr H):=by
 induction hk with
 |ϟ=>
  intro vs ib hv hl Y env k mE fr w H s p r e;cases hv with
  |ϟ=>refine lN e ?_;exact λQ E hq=>evalPairs_nil (hq w [] s (.TD p.st) .ϟ)
  |Κ _ _=>cases hl
 |Κ hk _ ih=>
  intro vs ib hv hl Y env k mE fr w H s p r;cases hv with
  |ϟ=>cases hl
  | @Κ v b vs ib hv hvs=>
   obtain⟨ke,rfl,hk⟩:=hk;refine jH λx H1 e1=>jH λl H2 e0 e=>?_
   revert e0
   refine jH λy H3 e2=>jH λl' H4 e3 e4=>?_;cases e4;refine lN e ?_;exact λQ E hq=>evalPairs_cons (hk.es Y env k mE fr w H s p _ e1 _ _ λw1 a1 s1 n1 r1=>Qd (hv.es Y env k mE fr w1 H1 s1 (p.Ϭ n1) _ e2 _ _ λw2 a2 s2 n2 r2=>Qd (Qm (Qg
    (ih hvs (ZX.dL hl) Y env k mE fr w2 H3 s2 ((p.Ϭ n1).Ϭ n2) _ e3 _ _ λw3 a3 s3 n3 r3=>hq w3 ((a1,a2)::a3) s3 ((n1.ν n2).ν n3) (.Κ (r1.Ν (n2.le.ν n3.le)) (.Κ (r2.Ν n3.le) r3)))))))
def Ck:∀{ws:ζ (μ×μ)}{l:ζ ab}{mes mes':ζ (ab×ab)}{es:ζ Qh}{s:Qf}{Q:PUnit->Qf->Prop}{E:μ->Qf->Prop},
  jD C w l (EC ws)->vV l mes=Qa mes'->mes.ε+ws.ε<=1000->St Y (k.Tb (D,Ql es mes.ε)) w H s->r0 C w mes es->
  (∀es' s',St Y (k.Tb (D,Ql es' mes'.ε)) w H s'->r0 C w mes' es'->qI s s'->Q PUnit.unit s')->Qi C.M Y.A (storeAll D ws) Q E s:=by
 intro ws
 induction ws with
 |ϟ=>
  intro l mes mes' es s Q E r e _ S j hq;cases l with
  |ϟ=>obtain rfl:=Qa.dL e;exact Qg (hq es s S j (.TD s))
  |Κ _ _=>obtain⟨_,_,e,_,_⟩:=r;cases e
 |Κ p ws ih=>
  intro l mes mes' es s Q E r e hl S j hq;cases l with
  |ϟ=>cases r
  |Κ x l=>
   obtain⟨kv,t,e1,hk,r⟩:=r;cases e1;cases l with
   |ϟ=>cases r
   |Κ v l=>
    obtain⟨vv,t,e1,hv,r⟩:=r;cases e1;obtain⟨hf,e⟩:=gs e;delta storeAll;rw[Xi];refine Qd (Qd (BJ S (Y.u (n:=1) (by decide)) S.fk.1 j hf (Zp (Jw (ZM (ZU _)) hl:mes.ε<1000) (by decide)) hk hv λes' h' tk hs hg j'=>Qg ?_));rw[<-HZ (v:=v)] at hg;exact ih (s:={s with heap:=h',toks:=tk}) r e (Jm (JN (Lc (JT _)) _) (by rw[XX];exact hl)) (S.jb hs hg) j' λes'' s'' S'' j'' sm=>hq es'' s'' S'' j'' ⟨sm.1,sm.2⟩
def NK{ia:ζ Ex}(hk:lH (cY C d cx) ks ia):∀{ib:ζ Ex},ib.ε=ks.ε->ks.Db (·.Ψ)=Qe/\(UE ia ib).ε=2*ks.ε:=by
 induction hk with
 |ϟ=>exact λ_=>⟨rfl,rfl⟩
 |Κ h _ ih=>
  intro ib hl;cases ib with
  |ϟ=>cases hl
  |Κ b ib=>
   refine Zt h λ_ zq25=>?_;refine eqB zq25.1 ?_;exact⟨(ih (ZX.dL hl)).1,by rw[ZA,Kv,<-(ih (ZX.dL hl)).2];rfl⟩
def CE{vs:ζ ϛ}{ia ib:ζ Ex}(hk:lH (cY C d cx) ks ia)(hv:mj C d cx vs ib)(hl:ks.ε=vs.ε):mI C d cx (.Dict ks vs pos) (.Χ (UE ia ib)):=by
 intro Y env k mE fr w H s p r;refine jH λl H1 e1=>jR λes e2=>mB λhlen e=>?_;refine lN e ?_;have hlen:=Zl.mp hlen;refine xA (NK hk (hv.ε.ν hl.Μ)) λhall hz=>?_;intro Q E hq;have S0:=p.st.jd {cls:= .w8 "dict",data:= .Χ #[]} rfl;have fe: ∀ {w':Wd}{des:ζ Qh}{s':Qf},w.le w'->St Y (k.Tb (s.Ω.wv.pc,Ql des es.ε)) w' H1 s'->r0 C w' es des->es.ε<=bc->qI s s'->Q (.ο s.Ω.wv.pc) s':=λ{w' des s'} le S' j' hl sm=>
  hq _ _ s' ⟨le.ν (⟨Zh _ _,λ_ x=>x⟩:w'.le ⟨w'.σ++[s.Ω.wv.pc],w'.tp⟩),S'.wb (p.st.pu (Jv _)) ⟨des,_,rfl,λe he=>Qa.dL he,j'.Ν (⟨Zh _ _,λ_ x=>x⟩:w'.le ⟨w'.σ++[s.Ω.wv.pc],w'.tp⟩),hl⟩,sm⟩ ⟨_,rfl,by rw[<-S'.am];exact ZJ⟩
 by_cases h0:ks=[]
 ·subst h0
  cases hk;have hvs:vs= []:=ZZ.mp hl.Μ;subst hvs;cases hv;cases e1;obtain rfl:=Qa.dL e2;exact wpAny_Dict_empty (fe (s':= {s with heap:=s.Ω.Tj {cls:= .w8 "dict",data:= .Χ #[]} }) (.TD w) S0 (.nb ⟨[],.ϟ⟩) (JF _) ⟨rfl,rfl⟩)
 ·refine wpAny_Dict_any hall hl h0 (by lia) (Fo hk hv hl Y env _ mE fr w H _ (p.Tb S0) _ e1 _ _ λw1 ws s1 n1 r1=>?_)
  have hws:l.ε=2*ws.ε:=by rw[<-F3];exact r1.ε
  have hel:l.ε=(UE ia ib).ε:=rA e1;have hsz:∀{l:ζ ab}{mes mes':ζ (ab×ab)},vV l mes=Qa mes'->mes'.ε<=mes.ε+l.ε:=by
   intro l mes mes' e
   fun_induction vV l mes with
   |case1=>cases e;exact Jv _
   |case2=>cases e
   |case3 es k v r ih=>
    refine xA (gs e) λ_ e=>?_;refine Jm (ih e) (Jm (JN (Lc (JT _)) _) ?_);simp only[ZA];lia
  have hes:=hsz e2;exact Ck (mes:=[]) (es:=[]) r1 e2 (by rw[qal];lia) n1.st (.nb ⟨[],.ϟ⟩) λdes s' S' j' sm=>fe n1.le S' j' (by rw[qal] at hes;exact Jm hes (Jm (Jm (JC (ZK _)) (Jm (JC hel) hlen):_<=30) (by decide))) (qI.ν (b:=s1) ⟨n1.cj.1,n1.cj.2⟩ sm)
def M7{i:Τ}(h:0<=i):max 0 (min (if i<0 then i+(n:Τ) else i) (n:Τ))=((min i.Mi n:θ):Τ):=by
 rw[π (YI.Ϩ h)];obtain⟨m,rfl⟩:=Τ.eq_ofNat_of_zero_le h;simp only[KI];rcases θ.le_total m n with e|e
 ·rw[ZD e,Τ.min_eq_left (Yt.Ϩ e)];exact Τ.max_eq_right (KW m)
 ·rw[Yv e,Τ.min_eq_right (Yt.Ϩ e)];exact Τ.max_eq_right (KW n)
def E1(s:ζ θ){l u:η Τ}(hl:∀i,l=Qa i->0<=i)(hu:∀i,u=Qa i->0<=i):
  Txt.slice ⟨s.τ⟩ l u=⟨(km s (l.ι 0 (λi=>min i.Mi s.ε)) (u.ι s.ε (λi=>min i.Mi s.ε))).τ⟩:=by
 have hlen:(⟨s.τ⟩:be).ε=s.ε:=rfl
 generalize ha:l.ι 0 (λi=>min i.Mi s.ε)=a
 generalize hb:u.ι s.ε (λi=>min i.Mi s.ε)=b
 have hbn:b<=s.ε:=by
  cases u with
  |none=>exact JC hb.Μ
  |some j=>exact hb▸YX _ _
 have hidx:Xq l u 1 s.ε=(Zk (b-a)).ς (a+ ·):=by
  rw[<-sliceRange_one];delta Xq;simp only[show (1:Τ)>0 by decide,if_true]
  congr 1
  ·cases l with
   |none=>exact χ qbd ha
   |some i=>
    have:=hl i rfl
    simp only[qbp] at ha;exact(M7 this).ν (χ qbd ha)
  ·cases u with
   |none=>exact χ qbd hb
   |some i=>
    have:=hu i rfl
    simp only[qbp] at hb;exact(M7 this).ν (χ qbd hb)
 delta Txt.slice;rw[hlen,hidx];rw[(pick_run s.τ a (b-a):(YR (λx=>a+x) (Zk (b-a))).zn (λx=>(⟨s.τ⟩:be).cps[x]?)=(s.bn a).ϣ (b-a)),(by unfold km;rw[ζ.drop_take]:km s a b=(s.bn a).ϣ (b-a))];split
 ·rename_i h
  simp only[ϫ,qaH,Β,Js,Zm] at h;by_cases h0:s.ε=0
  ·rw[ZZ.mp h0];simp
  ·rw[show a=0 from θ.eq_zero_of_not_pos λha=>Ke (Jw (qaN (Yd λe=>h0 (by rw[<-h,e,θ.zero_sub])) ha) hbn) h,show b=s.ε by exact KC hbn (Jm (JC (XE h)) (qag _ _))];simp
 ·rfl
def jD.km{ms:ζ ab}(r:jD C w ms vs)(a b:θ):jD C w (Ρ.km ms a b) (Ρ.km vs a b):=by
 have hd:∀{ms:ζ ab}{vs:ζ μ},jD C w ms vs->∀b,jD C w (ms.bn b) (vs.bn b):=by
  intro ms
  induction ms with
  |ϟ=>intro vs r b;refine eqB r ?_;simp only[YE];exact .ϟ
  |Κ x ms ih=>
   intro vs r b;cases b with
   |zero=>exact r
   |succ b=>obtain⟨v,t,rfl,_,r⟩:=r;exact ih r b
 have ht:∀{ms:ζ ab}{vs:ζ μ},jD C w ms vs->∀b,jD C w (ms.ϣ b) (vs.ϣ b):=by
  intro ms
  induction ms with
  |ϟ=>intro vs r b;refine eqB r ?_;simp only[ζ.take_nil];exact .ϟ
  |Κ x ms ih=>
   intro vs r b;cases b with
   |zero=>exact .ϟ
   |succ b=>obtain⟨v,t,rfl,h,r⟩:=r;exact .Κ h (ih r b)
 exact hd (ht r b) a
def wo(C:bf)(v:μ)(l:η Τ):Prop:=(∀i,l=Qa i->0<=i)/\((l=Qc/\v=.Δ)\/∃i t,l=Qa i/\v=.φ i t)
section
variable{C:bf}{v:Value}{l:Option Int}(ψ:wo C v l)
def wo.nn:=@ψ.1
def wo.p:=@ψ.2
end
theorem wo.Δ:wo C .Δ none:=⟨λ_ q=>af q,.nb ⟨rfl,rfl⟩⟩
def EJ{c:θ}{x:ab}(hv:jG C w x v)(h:xQ n x=Qa c):∃i,wo C v (Qa i)/\c=min i.Mi n:=by
 refine xEA (bs h) λi e1 h=>?_;refine xA (gs h) λhb e=>?_;refine xE (hv.sK e1) λt e2=>?_;exact⟨i,⟨λj q=>Qa.dL q▸Ο hb,.u8 ⟨i,t,rfl,e2⟩⟩,(Qa.dL e).Μ⟩
theorem RQ{x:ζ θ}{a b:θ}(h:se x):se (km x a b):=
 ⟨λc hc=>h.1 c (Z4 (qat hc)),Jm (by unfold km;rw[YY,ZC];exact Jm (qag _ _) (YX _ _)) h.2⟩
def OI(hc:(pY value).Ψ=Qe)(S:St Y k w H s0){o:ab}{ov:μ}{bvs:ζ ab}(ho:jG C w o ov)
  (hb: ∀n p,Vr n n' bvs=Qa p-> ∃l u,wo C vl l/\wo C vu u/\p=(l.ι 0 (λi=>min i.Mi n),u.ι n (λi=>min i.Mi n))) (hs:s= {s0 with heap:=s0.Ω.Tj {cls:= .w8 "slice",data:= .lf #[vl,vu,.Δ]} }) {r:ab×MH} (e:slice H o n' bvs=Qa r) {Q:μ->Qf->Prop}{E:μ->Qf->Prop}
  (hq:∀w' a s',ip Y k w w' r.2 s0 s'->jG C w' r.1 a->Q a s'):Qi C.M Y.A (subscriptTail value (.Slice lo' hi' Qc sp) ov (.ο s0.Ω.wv.pc)) Q E s:=by
 subst hs;have hgo:∀o r,letTemporaryGo value o r=pure ():=by
  exact(Zj.mp hc).ι λp zq18=>(qH zq18)▸λ_ _=>rfl
 revert e
 refine jR λx e1=>jR λp e2 e=>?_
 ·cases e
  obtain⟨t,rfl,ok⟩:=ho.Tv e1;obtain⟨l,u,⟨p1,p2⟩,⟨p3,p4⟩,rfl⟩:=hb _ _ e2;obtain⟨all,hn,_,_,g3⟩:=S.fc;have hsz:(⟨x.τ⟩:be).ε<=sizeLine:=Jm ok.2 l9;have fe:∀(h':QD)(t':Tok)(tk:θ),Fr Y.h₀ Y.L h' k.m->Ps Y.h₀ Y.L h' all->Q (.Υ (Txt.slice ⟨x.τ⟩ l u) t') {s0 with heap:=h',toks:=tk}:=λh' t' tk F N=>by
   rw[E1 x p1 p3];exact hq w _ _ ⟨.TD w,g3 h' F N,rfl,rfl⟩ ⟨t',rfl,RQ ok⟩
  rcases p2 with ⟨rfl,rfl⟩| ⟨i,ti,rfl,rfl⟩
  ·rcases p4 with ⟨rfl,rfl⟩| ⟨j,tj,rfl,rfl⟩
   ·exact slice_strN_nn S.fr hn fe rfl (hgo _) hsz
   ·exact slice_strN_ns S.fr hn fe rfl (hgo _) hsz
  ·rcases p4 with ⟨rfl,rfl⟩| ⟨j,tj,rfl,rfl⟩
   ·exact slice_strN_sn S.fr hn fe rfl (hgo _) hsz
   ·exact slice_strN_ss S.fr hn fe rfl (hgo _) hsz
def Fj{v:ϛ}{ie:Ex}{f:ϛ->η Ex}{q:θ×ζ Ex}(hc:(pY v).Ψ=Qe)(hv:mI C d cx v ie)(hf:∀e i,f e=Qa i->Sd C d cx e i)(hb:Ll f lo hi=Qa q):mI C d cx (.Subscript v (.Slice lo hi Qc sp) pos) (.slice ie q.1 q.2):=by
 intro Y env k mE fr w H s p r;refine jH λx H1 e1=>jH λbv H2 e2 e=>?_;intro Q E hq;refine Subscript_ (hv Y env k mE fr w H s p _ e1 _ _ λw1 a1 s1 n1 r1=>wpAny_Slice ?_);have p1:=p.Ϭ n1;have fe:∀{w3:Wd}{s3:Qf}{vl vu:μ},ip Y k w1 w3 H2 s1 s3->(∀n p,Vr n q.1 bv=Qa p->∃l u,wo C vl l/\wo C vu u/\p=(l.ι 0 (λi=>min i.Mi n),u.ι n (λi=>min i.Mi n)))->
   Qi C.M Y.A (evalPart Qc env) (λst s₃=>Qi C.M Y.A (subscriptTail v (.Slice lo hi Qc sp) a1 (.ο s₃.Ω.wv.pc)) Q E {s₃ with heap:=s₃.Ω.Tj {cls:= .w8 "slice",data:= .lf #[vl,vu,st]} }) E s3:=λ{w3 s3 vl vu} n3 hbb=>
  Qg (OI hc n3.st (r1.Ν n3.le) hbb rfl e λw4 a4 s4 n4 r4=>hq w4 a4 s4 ((n1.ν n3).ν n4) r4)
 cases lo with
 |none=>cases hb
 |some a=>
  refine xEA (bs hb) λxa hxa hb=>?_;cases hi with
  |none=>cases hb
  |some b=>
   refine(ms hb).ι λy zq5=>?_;have e3:=zq5.2;subst e3
   revert e2
   refine jH λx' H3 e2=>jH λl H4 e5 e4=>?_;cases e4
   revert e5
   refine jH λy' H5 e3=>jH λl' H6 e6 e7=>?_;cases e6;cases e7;refine(hf _ _ hxa).es Y env k mE fr w1 H1 s1 p1 _ e2 _ _ λw2 a2 s2 n2 r2=>(hf _ _ zq5.1).es Y env k mE fr w2 H3 s2 (p1.Ϭ n2) _ e3 _ _ λw3 a3 s3 n3 r3=>fe (n2.ν n3) λn p h=>?_;refine xEA (bs (o:=xQ n x') (f:=λx=>(xQ n y').ς λy=>(x,y)) h) λc h1 h=>?_;obtain⟨c',h2,rfl⟩:=ms h;refine(EJ (r2.Ν n3.le) h1).ι λi zq2=>?_;obtain rfl:=zq2.2;refine(EJ r3 h2).ι λj zq1=>?_;obtain rfl:=zq1.2;exact⟨Qa i,Qa j,zq2.1,zq1.1,rfl⟩
end
variable{as:List ab}
theorem Fk (S:St Y k w H s) {x:ab} (hx:jG C w x v):bq Y k (VR C) (call (.w8 "set") [v]) w s (SD x H):= .Δ
open PySem.NumText
variable{T:List Value->Sem α}
section
variable{R:Wd->β->α->Prop}
def bq.a0{o:η (β×MH)}(r:jD C w as vs)(h:bq Y k R (T []) w s o):bq Y k R (T vs) w s (a0 as o):=by
 cases as with
 |ϟ=>refine eqB r ?_;exact h
 |Κ _ _=>exact .Δ
def bq.a1{f:ab->η (β×MH)}(r:jD C w as vs)(h:∀v rv,jG C w v rv->bq Y k R (T [rv]) w s (f v)):bq Y k R (T vs) w s (a1 as f):=by
 cases as with
 |ϟ=>exact .Δ
 |Κ v as=>obtain⟨rv,t,rfl,hv,r⟩:=r;exact .a0 (T:=λl=>T (rv::l)) r (h v rv hv)
def bq.a2{f:ab->ab->η (β×MH)}(r:jD C w as vs)(h:∀v rv,jG C w v rv->∀v' rv',jG C w v' rv'->bq Y k R (T [rv,rv']) w s (f v v')):bq Y k R (T vs) w s (a2 as f):=by
 cases as with
 |ϟ=>exact .Δ
 |Κ v as=>obtain⟨rv,t,rfl,hv,r⟩:=r;exact .a1 (T:=λl=>T (rv::l)) r (h v rv hv)
def bq.a3{f:ab->ab->ab->η (β×MH)}(r:jD C w as vs)(h:∀v rv,jG C w v rv->∀v' rv',jG C w v' rv'->∀u ru,jG C w u ru->bq Y k R (T [rv,rv',ru]) w s (f v v' u)):bq Y k R (T vs) w s (a3 as f):=by
 cases as with
 |ϟ=>exact .Δ
 |Κ v as=>obtain⟨rv,t,rfl,hv,r⟩:=r;exact .a2 (T:=λl=>T (rv::l)) r (h v rv hv)
end
def F5(l:ζ θ):θ:=l.foldl (λa c=>a*256+c) 0
def yQ(l:ζ θ)(c:θ):F5 (l++[c])=F5 l*256+c:=by unfold F5;rw[YS];rfl
def MN{a b c:θ}(h1:c<=255)(h2:c'<=255)(e:a*256+c=b*256+c'):a=b/\c=c':=by lia
def MO:∀(n:θ)(l l':ζ θ),l.ε<=n->(∀c∈l,1<=c/\c<=255)->(∀c∈l',1<=c/\c<=255)->F5 l=F5 l'->l=l':=by
 have nz:∀{r:ζ θ}{c:θ},(∀x∈r++[c],1<=x/\x<=255)->F5 (r++[c])≠0:=λ{r c} h e=>by
  rw[yQ] at e
  have:=(h c (JQ _ (.mo _))).1
  lia
 intro n
 induction n with
 |zero=>
  intro l l' hl h h' e;cases ZZ.mp (qau.mp hl);rcases Ym l' with rfl| ⟨r,c,rfl⟩
  ·rfl
  ·rw[K1] at*;exact υ e.Μ (nz h')
 |succ n ih=>
  intro l l' hl h h' e;rcases Ym l with rfl| ⟨r,c,rfl⟩
  ·rcases Ym l' with rfl| ⟨r',c',rfl⟩
   ·rfl
   ·rw[K1] at*;exact υ e.Μ (nz h')
  ·rcases Ym l' with rfl| ⟨r',c',rfl⟩
   ·rw[K1] at*;exact υ e (nz h)
   ·rw[K1] at*
    rw[K1,yQ,yQ] at*;obtain⟨e1,e2⟩:=MN (h c (JQ _ (.mo _))).2 (h' c' (JQ _ (.mo _))).2 e;rw[e2,ih r r' (by rw[Ju] at hl;exact Ye hl) (λx hx=>h x (ZQ _ hx)) (λx hx=>h' x (ZQ _ hx)) e1]
def Lb{y:be}(hx:jL x=Qe)(hy:jL y=Qe)(e:ek x=ek y):x=y:=by
 have hd:∀z:be,jL z=Qe->∀c∈z.cps.ss,1<=c/\c<=255:=by
  intro z hz c hc;delta jL at hz;simp only[ZY,Zn,Ϫ] at hz;exact hz.1.1.1.1 c hc
 have:=MO _ x.cps.ss y.cps.ss (Jv _) (hd x hx) (hd y hy) e
 cases x;cases y;exact χ be.mk (sB.toList_inj.mp this)
section
variable{w:Qn}
theorem CT(d:Qj)(es:ζ Qh)(n:θ)(hd:(d==sysModules)=Qb):
  MeetsIn prog w (TJ.«dict.__len__» ⟨[.ο d],[]⟩) (λ_ R s=>s.Ω.ut d=Qa (Ql es n)/\R (.ok (.ret (.φ es.ε s.wS))) {s with toks:=s.wS+1}):=
 .of_wp λA R s ⟨ho,h⟩=>by
  show Qi _ _ (dictSize d>>=_) _ _ s;delta dictSize;refine Qd (Qd (QB ho rfl (Qg ?_)));exact Qd (wpAny_pendingCount_other hd (wpAny_ret_mkInt (by simpa using h)))
def O5{d:Qj}{Q:μ->Qf->Prop}(hd:(d==sysModules)=Qb)(ho:s.Ω.ut d=Qa (Ql es n))(hfit:(es.ε:Τ)<2 ^ 63)
  (h:Q (.φ es.ε (s.wS+1)) {s with toks:=s.wS+1+1}):Qi (model prog w) A (call (.ϭ "len") [.ο d]) Q E s:=by
 refine Calls.call_function_entry kind_len plain_len entry_len (args_len1 _) ?_;unfold TJ.«len»;refine Qd (m:=oneArg "len" _) (Qg ?_);refine Qd (m:=callSpecial? (.ο d) (be.ofString "__len__")) (AT (name:=be.ofString "__len__") (⟨_,ho,rfl⟩:s.TypeIs (.ο d) "dict") F.slot_dict_len
  (Qz F.slot_dict_len (⟨_,ho,rfl⟩:s.TypeIs (.ο d) "dict") F.entry_dict_len (F.args_dict_len_1 _) (CT d es n hd) ⟨ho,?_⟩))
 refine Qd (Qk (Qg ?_));refine Qd (wpAny_letGo ?_);refine wN (YI.Ϩ (KW _)) ?_;refine wN (qaM.Ϩ hfit) ?_;exact Qd (wpAny_mkInt (Qg ⟨_,rfl,h⟩))
end
def OF (S:St Y k w H s) (r:jD C w as vs):bq Y k (VR C) (call (.ϭ "len") vs) w s (zap as H):=by
 refine .a1 (T:=λl=>call (.ϭ "len") l) r λx v hx=> .jg λn e=> .Op S λQ E q=>?_;have q: ∀t tk,Q (.φ n t) {s with toks:=tk}:=λt tk=>q _ tk ⟨t,rfl⟩;have lst: ∀ {b:Qj}{ws:ζ μ},s.Ω.IsList b ws.τ->n=ws.ε->n<=bc->Qi C.M Y.A (call (.ϭ "len") [.ο b]) Q E s:=λ{b ws} hL e hl=>by
  subst e;exact len_list hL (sJ hl) (q _ _)
 cases x with
 |str l=>cases e;obtain⟨t,rfl,ok⟩:=hx;exact len_str (qaM.Ϩ (sJ ok.2)) (q _ _)
 |ay l=>
  cases e;obtain⟨t,o,n',ws,rfl,ho,hc,hd,rr,hl⟩:=S.ay hx;refine PyProof.Rows.len_tuple (items:=ws.τ) ⟨o,ho,hc,n',hd⟩ (by rw[(by rw[Zz,rr.ε]:ws.τ.pc=l.ε)];exact sJ hl) ?_;rw[(by rw[Zz,rr.ε]:ws.τ.pc=l.ε)];exact q _ _
 |fl l=>cases e;obtain⟨b,o,n',ws,rfl,h,rr,hl⟩:=hx;exact lst ⟨o,S.mw _ _ h.Hd,h.cls,n',h.Te⟩ rr.ε hl
 |ref i=>
  revert e
  refine kQ (kE λl hl e=>?_) (kE λp hp e=>?_)
  ·obtain⟨t,ws,n',rfl,ho,rr,hl⟩:=S.ξ hx hl
   exact lst ⟨_,ho,rfl,n',rfl⟩ (e.Μ.ν rr.ε) (e▸hl)
  ·obtain⟨_,_,b,n',es,rfl,hmod,_,hg,hdr,hl,_⟩:=S.Χ hx hp
   exact O5 hmod hg (by rw[hdr.gn.1];exact sJ hl) (by rw[(hdr.gn.1.ν e)];exact q _ _)
 |ql i=>
  cases e;obtain⟨_,_,_,_,_,rfl,h⟩:=hx;exact call_len_set (S.uy h.Hd) h.ex h.Te h.fits (by rw[h.pc];exact sJ h.le) (by rw[h.pc];exact q _ _)
 |_=>exact af e
theorem cb.oe(S:cb C Y.h₀ Y.L k w H h)(hk:∀b o,h.ut b=Qa o->h'.ut b=Qa o):cb C Y.h₀ Y.L k w H h':=
 Sq.Α S.fc λall hn _ _ g=>g h' (S.fr.keeps hk) λp hp=>⟨hk _ _ (hn p hp).1,(hn p hp).2⟩
def bq.φ{t:Sem μ}{z:Τ}(S:St Y k w H s)(h:∀(Q:μ->Qf->Prop)(E:μ->Qf->Prop),(∀u h' tk,(∀b o,s.Ω.ut b=Qa o->h'.ut b=Qa o)->Q (.φ z u) {s with heap:=h',toks:=tk})->Qi C.M Y.A t Q E s):bq Y k (VR C) t w s (Qa (.φ z,H)):=by
 intro r e;refine lN e ?_;exact λQ E hq=>h Q E λu h' tk hk=>hq w _ _ ⟨.TD w,S.oe hk,rfl,rfl⟩ ⟨u,rfl⟩
def zfY:∀{vs:ζ μ}{ns:ζ Τ},jD C w mvs vs->zfq mvs=Qa ns->Jk vs ns:=by
 induction mvs with
 |ϟ=>intro vs ns h e;refine eqB h ?_;refine lN e ?_;exact .ϟ
 |Κ m mvs ih=>
  intro vs ns h e;refine xEEAA (I6 e) λy ys e1 e2 cw=>?_;refine eqB cw ?_;obtain⟨v,r,rfl,h,h'⟩:=h;refine(h.sK e1).ι λt zq27=>?_;refine eqB zq27 ?_;exact .Κ y t (ih h' e2)
def OE (S:St Y k w H s) (r:jD C w as vs):bq Y k (VR C) (call (.ϭ "max") vs) w s (zao as H):=by
 refine .a2 (T:=λl=>call (.ϭ "max") l) r λx v hx y u hy=> .jj λa ea=> .jg λb eb=>?_;obtain⟨_,rfl⟩:=hx.sK ea;obtain⟨_,rfl⟩:=hy.sK eb;refine .φ S λQ E q=>max_two_ints Y.tz λh' tk hk=>?_;by_cases c:b>a
 ·rw[ρ c] at q ⊢;exact q _ h' tk hk
 ·rw[π c] at q ⊢;exact q _ h' tk hk
def OD (S:St Y k w H s) (r:jD C w as vs):bq Y k (VR C) (call (.ϭ "min") vs) w s (zan as H):=by
 refine .a2 (T:=λl=>call (.ϭ "min") l) r λx v hx y u hy=> .jj λa ea=> .jg λb eb=>?_;obtain⟨_,rfl⟩:=hx.sK ea;obtain⟨_,rfl⟩:=hy.sK eb;refine .φ S λQ E q=>min_two_ints Y.tz λh' tk hk=>?_;by_cases c:b<a
 ·rw[ρ c] at q ⊢;exact q _ h' tk hk
 ·rw[π c] at q ⊢;exact q _ h' tk hk
def wH{t:ζ (θ×Tm)}{m:θ}{x y:Tm}(h:(n==m)=Qe)(hx:t.ω n=Qa x)(hy:t.ω m=Qa y):x=y:=by rw[Β.mp h] at hx;exact Qa.dL (hx.Μ.ν hy)
def Fm (S:St Y k w H s) (r:jD C w as vs):bq Y k (VR C) (call (.w8 "range") vs) w s (AV as H):=by
 refine .a1 (T:=λl=>call (.w8 "range") l) r λx v hx=> .jg λn e=>?_;obtain⟨t,rfl⟩:=hx.sK e;intro r' e';refine lN e' ?_;obtain⟨all,hn,_,tp,_⟩:=S.fc;exact λQ E hq=>call_range_1 (hq ⟨w.σ,_::w.tp⟩ _ {s with heap:=_,toks:=_} ⟨⟨K9 _,λp hp=> .lw _ hp⟩,tp _ _ _ (S.fr.Tj _) (hn.Tj S.fr _) (Jv _),rfl,rfl⟩ ⟨_,_,_,_,rfl,.mo _⟩)
def DW (S:St Y k w H s) (r:jD C w as vs):bq Y k (VR C) (call (.w8 "list") vs) w s (B4 as H):=by
 have key: ∀ {mvs:ζ ab}{ws:ζ μ}{la:Qj}{o:wT}{n:θ},jD C w mvs ws->mvs.ε<=bc->s.Ω.ut la=Qa o->(o.cls= .w8 "list"\/o.cls= .w8 "tuple") ->o.Te= .seq ws.τ n->bq Y k (VR C) (call (.w8 "list") [.ο la]) w s (lX H (.ξ mvs)):=by
  intro mvs ws la o n rr hl ho hc hd r' e' Q E hq;obtain rfl:=Qa.dL e';obtain⟨all,hn,add,_,_⟩:=S.fc;have le:w.le ⟨w.σ++[s.Ω.wv.pc],w.tp⟩:=⟨Zh _ _,λ_ x=>x⟩;have hsz:ws.τ.pc<=sizeLine:=by rw[Zz,<-rr.ε];exact Jm hl l9
  have fe:∀h' c',(∀b o,s.Ω.ut b=Qa o->h'.ut b=Qa o)->h'.ut s.Ω.wv.pc=Qa (listOf ws.τ c')->Q (.ο s.Ω.wv.pc) {s with heap:=h'}:=λh' c' hk hD=>
   hq _ _ _ ⟨le,add _ (.ξ mvs) [_] h' ⟨ws,c',rfl,rr.Ν le,hl⟩ (S.fr.keeps hk) (news_pushed S.fr hn hk hD rfl) (qR _) (Ps.fresh hn λp hp=>JI.mp hp▸Jv _) (S.pu (Jv _)),rfl,rfl⟩ ⟨_,rfl,by rw[<-S.am];exact ZJ⟩
  rcases hc with hc|hc
  ·exact call_list_seq (hsz:=hsz) la (.nb rfl) ho hc hd fe
  ·exact call_list_seq (hsz:=hsz) la (.u8 rfl) ho hc hd fe
 refine .a1 (T:=λl=>call (.w8 "list") l) r λx v hx=> .ba (.jj λl e=>?_) (.ba (.jj λl e=>?_) (.jj λl e=>?_))
 ·cases tup?_s e
  obtain⟨t,o,n,ws,rfl,ho,hc,hd,rr,hl⟩:=S.ay hx;exact key rr hl ho (.u8 hc) hd
 ·cases fl?_s e
  obtain⟨t,o,n,ws,rfl,q,rr,hl⟩:=hx;exact key rr hl (S.mw _ _ q.Hd) (.nb q.cls) q.Te
 ·obtain⟨la,ws,n,rfl,ho,rr,hl⟩:=S.ξ hx e
  exact key rr hl ho (.nb rfl) rfl
def DU (S:St Y k w H s) (r:jD C w as vs):bq Y k (VR C) (call (.w8 "type") vs) w s (B3 as H):=by
 refine .a1 (T:=λl=>call (.w8 "type") l) r λx v hx=> .jg λn e=> .Op S λQ E q=>?_;have fe: ∀ {T:Tm},rH.ω n=Qa T->Q (.w8 T) s:=λhT=>q _ s.wS ⟨_,rfl,hT⟩;cases x with
 |none=>obtain rfl:=Qa.dL e;refine eqB hx ?_;exact Qw (Tx:="NoneType") rfl rfl (fe rfl)
 |bool b=>obtain rfl:=Qa.dL e;refine eqB hx ?_;exact Qw (Tx:="bool") rfl rfl (fe rfl)
 |int i=>obtain rfl:=Qa.dL e;obtain⟨_,rfl⟩:=hx;exact Qw (Tx:="int") rfl rfl (fe rfl)
 |str l=>obtain rfl:=Qa.dL e;obtain⟨_,rfl,_⟩:=hx;exact Qw (Tx:="str") rfl rfl (fe rfl)
 |ay l=>obtain rfl:=Qa.dL e;obtain⟨t,o,n,ws,rfl,ho,hc,_,_,_⟩:=S.ay hx;exact Qw (Tx:="tuple") ⟨o,ho,hc⟩ rfl (fe rfl)
 |ref i=>
  refine(ms e).ι λl zq9=>?_;have e:=zq9.2;subst e;obtain⟨la,ws,n,rfl,ho,_,_⟩:=(S.ξ hx zq9.1);exact Qw (Tx:="list") ⟨_,ho,rfl⟩ rfl (fe rfl)
 |_=>exact af e
def DX (S:St Y k w H s) (r:jD C w as vs):bq Y k (VR C) (call (.w8 "dict") vs) w s (B5 as H):=by
 refine .a1 (T:=λl=>call (.w8 "dict") l) r λx v hx=> .jj λp hp=> .aw λhk=>?_;intro r' e';refine lN e' ?_;refine(S.Χ hx hp).ι λ_ zq4=>?_;obtain⟨b,n,es,rfl,hmod,_,hg,hdr,hl,_⟩:=zq4.2;obtain⟨kvs,D⟩: ∃kvs,DA C w p.2 es kvs:=by
  cases hp2:p.2 with
  |ϟ=>rw[hp2] at hdr;exact hdr.atom (a:=.i 0) rfl
  |Κ q qs=>
   rw[hp2] at hdr hk;have h1:=Β.mp (Jn.mp hk).1;rcases hdr with h| ⟨xs,D⟩
   ·exact h
   ·have e:=D.e
    cases xs with
    |ϟ=>cases e
    |Κ x xs=>rw[show q.1=.ay (x.1.ς ap.Op) from(KD.dL e).1,sL] at h1;cases h1
 obtain⟨all,hn,add,_,_⟩:=S.fc;refine λQ E hq=>kt_call_dict (knd:=j4 C.prog C.w) hmod (D.dictOf hg) (by rw[<-Et D.e];exact Jm hl l9) λh' hD hs=>?_;obtain⟨o,es',ep',ho',hex,hd,q1,q2,q3⟩:=hD;have hoe:o=Ql es'.ss ep':=by
  obtain⟨oc,od,odata,osl⟩:=o;obtain⟨x1,x2,x3⟩:=hex;subst x1;subst x2;cases x3;cases hd;rfl
 have hkeep:∀c x,s.Ω.ut c=Qa x->h'.ut c=Qa x:=λc x hc=>(hs.2 c (Ke (K7 hc))).ν (Ix.mt _ hc);refine hq _ _ {s with heap:=h'} ⟨(⟨Zh _ _,λ_ x=>x⟩:w.le ⟨w.σ++[s.Ω.wv.pc],w.tp⟩),add _ (.Χ Qc p.2) [(s.Ω.wv.pc,Ql es'.ss ep')] h' ⟨_,_,rfl,λe he=>af he,r0.Ν (⟨Zh _ _,λ_ x=>x⟩:w.le ⟨w.σ++[s.Ω.wv.pc],w.tp⟩) (.nb ⟨kvs,q2,q1,D.n,D.e,D.ok,D.r⟩),hl⟩ (S.fr.keeps hkeep) (λq hq=>?_) (qR _) (Ps.fresh hn λp hp=>JI.mp hp▸Jv _) (S.pu (Jv _)),rfl,rfl⟩ ⟨_,rfl,by rw[<-S.am];exact ZJ⟩;rcases JO.mp hq with e|hq
 ·rw[e]
  exact⟨by rw[<-hoe];exact ho',Kj S.fr.ns.lt,Ix.get?_none_of_le (Jm S.fr.above (JL S.fr.ns.lt))⟩
 ·exact⟨hkeep _ _ (hn q hq).1,(hn q hq).2⟩
theorem zbg{nm:Tm}(hb:rH.ω n=Qa nm)(S:St Y k w H s)(r:jD C w as vs):bq Y k (VR C) (call (.w8 nm) vs) w s (Li n as H):=
 .ba (.aw λh=>wH (t:=rH) h hb (y:="range") rfl▸Fm S r) (.ba (.aw λh=>wH (t:=rH) h hb (y:="list") rfl▸DW S r) (.ba (.aw λh=> .Δ)
 (.ba (.aw λh=>wH (t:=rH) h hb (y:="type") rfl▸DU S r) (.ba (.aw λh=>wH (t:=rH) h hb (y:="dict") rfl▸DX S r) (.ba (.aw λh=> .Δ) (.aw λh=>wH (t:=rH) h hb (y:="set") rfl▸ .a1 (T:=λl=>call (.w8 "set") l) r λx v hx=>Fk S hx))))))
def FC:jL "append"=Qe/\ek "append"=fg:=by decide+kernel
def zbM:jL "pop"=Qe/\ek "pop"=qw:=by decide+kernel
def zbN:jL "get"=Qe/\ek "get"=jz:=by decide+kernel
def D6:jL "isspace"=Qe/\ek "isspace"=lx:=by decide+kernel
theorem GT(hn:jL nm=Qe)(ok:jL x=Qe/\ek x=n)(h:(ek nm==n)=Qe):x=nm:=Lb ok.1 hn (ok.2.ν (Β.mp h).Μ)
def NC{C:bf}{d e:θ}(Y:kD C d e)(k:Kp)(w:Wd)(vx:μ)(vs:ζ ab)(h2:MH)(r:ab×MH)(id:Tm):Prop:=
 ∀w2 s2 ws,w.le w2->St Y k w2 h2 s2->jD C w2 vs ws->AL Y k (VR C) (call (.ϭ id) (vx::ws)) w2 s2 r.1 r.2
def Sp{C:bf}{d e:θ}(Y:kD C d e)(k:Kp)(w:Wd)(s:Qf)(vx:μ)(nm:be)(vs:ζ ab)(h2:MH)(r:ab×MH):Prop:=
 ∀(pl:Sem Ε)(Q:μ×ζ μ->Qf->Prop)(E:μ->Qf->Prop),(∀id,NC Y k w vx vs h2 r id->Q (.ϭ id,[vx]) s)->Qi C.M Y.A (getMethod vx nm pl) Q E s
variable{h2:MH}{r:ab×MH}
theorem NC.of{vs:ζ ab}{o:η (ab×MH)}(e:o=Qa r)(h:∀w2 s2 ws,w.le w2->St Y k w2 h2 s2->jD C w2 vs ws->bq Y k (VR C) (call (.ϭ id) (vx::ws)) w2 s2 o):NC Y k w vx vs h2 r id:=
 λw2 s2 ws l S2 rr=>h w2 s2 ws l S2 rr r e
def L6(hn:jL nm=Qe){x:ζ θ}{u:Tok}(ok:se x){vs:ζ ab}:A0 x (ek nm) vs h2=Qa r->Sp Y k w s (.Υ ⟨x.τ⟩ u) nm vs h2 r:=by
 refine mB λh e=>?_;cases GT hn D6 h;refine λpl Q E q=>GM.isspace (q "str.isspace" (.of e λw2 s2 ws l S2 rr=> .a0 (T:=λl=>call (.ϭ "str.isspace") (_::l)) rr (.Op S2 λQ E q=>SC.isspace (q _ s2.wS rfl))))
def Me:∀{ws:ζ μ}{v:ab},jD C w mvs ws->mvs.getLast?=Qa v->∃p y,kl_last ws=Qa (p,y)/\jD C w mvs.dropLast p/\jG C w v y:=by
 intro ws v r e;have hne:mvs≠[]:=λq=>by rw[q] at e;cases e
 have hl:kl_last ws≠none:=λq=>by
  rw[kl_last_none q] at r;cases mvs with
  |ϟ=>exact hne rfl
  |Κ _ _=>obtain⟨_,_,e,_,_⟩:=r;cases e
 obtain⟨⟨p,y⟩,hpy⟩:=η.ne_none_iff_exists'.mp hl;refine⟨p,y,hpy,?_⟩;have hm:mvs.dropLast++[v]=mvs:=by
  have h1:=Xj hne;rwa [show mvs.getLast hne=v from Qa.dL ((ζ.getLast?_eq_getLast hne).Μ.ν e)] at h1
 rw[<-hm,kl_last_spec hpy] at r
 clear hm hpy hl e hne
 generalize mvs.dropLast=q at r ⊢
 induction q generalizing p with
 |ϟ=>
  cases p with
  |ϟ=>obtain⟨_,_,e,h,_⟩:=r;cases e;exact⟨.ϟ,h⟩
  |Κ a p=>have:=r.ε;simp at this
 |Κ b q ih=>
  cases p with
  |ϟ=>have:=r.ε;simp at this
  |Κ a p=>
   obtain⟨_,_,e,h,r⟩:=r;cases e;obtain⟨h1,h2⟩:=ih p r;exact⟨.Κ h h1,h2⟩
inductive zay{C:bf}{d e:θ}(Y:kD C d e)(k:Kp)(w:Wd)(H:MH)(s:Qf)(i:θ)(la:Qj)(mvs:ζ ab):Prop
 |mk(ws:ζ μ)(n:θ)(pre post:bw)(r:jD C w mvs ws)(l:mvs.ε<=bc)(hn:Ps Y.h₀ Y.L s.Ω (pre++(la,listOf ws.τ n)::post))
   (u:∀ws' n',Upd la (listOf ws.τ n) (listOf ws' n') (pre++(la,listOf ws.τ n)::post) (pre++(la,listOf ws' n')::post))
   (g:∀mvs' ws' n' h',jD C w mvs' ws'->mvs'.ε<=bc->Fr Y.h₀ Y.L h' k.m->Ps Y.h₀ Y.L h' (pre++(la,listOf ws'.τ n')::post)->cb C Y.h₀ Y.L k w (H.ϩ i (.ξ mvs')) h'):zay Y k w H s i la mvs
def cb.uh(S:St Y k w H s)(ha:w.σ[i]?=Qa la)(hm:H[i]?.Η ae.Rs=Qa mvs):zay Y k w H s i la mvs:=by
 refine xEA (bs hm) λo hi h2=>?_;cases list?_s h2;obtain⟨pre,en,post,⟨ws,n,rfl,r,l⟩,hn,hd,g⟩:=S.at ha hi;exact⟨ws,n,pre,post,r,l,hn,λws' n'=>wC hd,λmvs' ws' n' h' r' l' F N=>g (.ξ mvs') [(la,listOf ws'.τ n')] h' rfl ⟨ws',n',rfl,r',l'⟩ F N⟩
variable{y:ab}
def Wv (S:St Y k w H s) (ha:w.σ[i]?=Qa la) (hm:H[i]?.Η ae.Rs=Qa mvs) (hy:jG C w y yv) (hlen:mvs.ε<bc):bq Y k (VR C) (call (.ϭ "list.append") [.ο la,yv]) w s (Qa (.Δ,H.ϩ i (.ξ (mvs++ [y])))):=by
 obtain⟨ws,n,pre,post,r,l,hn,u,g⟩:=S.uh ha hm;intro r' e';cases e';refine λQ E hq=>append_K S.fr hn (u (ws.τ.Tj yv) (n+1)) (λh' F' N'=>hq w _ {s with heap:=h'} ⟨.TD w,g (mvs++[y]) (ws++[yv]) (n+1) h' (jD.append (.da hy) r) (by rw[Ju];exact hlen) F' (by rw[ζ.push_toArray] at N';exact N'),rfl,rfl⟩ rfl) ?_;rw[Zz,<-r.ε];exact Jm l l9
variable{mvs0:List ab}
def GA(hn:jL nm=Qe)(S:St Y k w H s)(ha:w.σ[i]?=Qa la){vs:ζ ab}(hm0:H[i]?.Η ae.Rs=Qa mvs0)(hm:h2[i]?.Η ae.Rs=Qa mvs):wZ i mvs (ek nm) vs h2=Qa r->Sp Y k w s (.ο la) nm vs h2 r:=by
 have zq12:=S.ξ (x:=.ο i) ⟨la,rfl,ha⟩ hm0;obtain⟨_,ws0,n0,e0,ho,_,_⟩:=zq12;cases e0;refine kQ (mB λh e=>?_) (mB λh e=>?_)
 ·cases GT hn FC h
  exact λpl Q E q=>getMethod_list_append ho rfl rfl (q "list.append" (.of e λw2 s2 ws l S2 rr=> .a1 (T:=λl=>call (.ϭ "list.append") (_::l)) rr λy vy hy=> .aw λhl=>Wv S2 (l.xL ha) hm hy (Zl.mp hl)))
 ·cases GT hn zbM h
  refine λpl Q E q=>Q5 ⟨_,ho,rfl⟩ Ξ.F.plainAttrs_list Ξ.F.slot_list_pop Ξ.F.type_list_pop (λa e=>by cases e;exact⟨_,ho,rfl⟩) (q "list.pop" (.of e λw2 s2 ws l S2 rr=> .a0 (T:=λl=>call (.ϭ "list.pop") (_::l)) rr (.jg λv hv=>?_)));obtain⟨ws,n,pre,post,r,l',hn,u,g⟩:=S2.uh (l.xL ha) hm;refine(Me r hv).ι λp zq9=>zq9.ι λy zq10=>?_;intro r' e';cases e';exact λQ E hq=>kl_pop S2.fr hn zq10.1 (u p.τ (n+1)) (by rw[ζ.toList_toArray,<-r.ε];exact Jm l' l9) λh' F' N'=>hq w2 y {s2 with heap:=h'} ⟨.TD w2,g mvs.dropLast p (n+1) h' zq10.2.1 (Jm (by rw[ζ.length_dropLast];exact qag _ _) l') F' N',rfl,rfl⟩ zq10.2.2
variable{p0 p:Option Nat×List (ab×ab)}
def GC(hn:jL nm=Qe)(S:St Y k w H s)(ha:w.σ[i]?=Qa la){vs:ζ ab}(hm0:H[i]?.Η ae.TO=Qa p0)(hm:h2[i]?.Η ae.TO=Qa p):xP p.2 (ek nm) vs h2=Qa r->Sp Y k w s (.ο la) nm vs h2 r:=by
 obtain⟨_,n0,es0,e0,_,_,hg,_,_,_⟩:=S.kj ⟨la,rfl,ha⟩ hm0;cases e0;refine mB λh e=>?_;cases GT hn zbN h;refine λpl Q E q=>Q5 ⟨_,hg,rfl⟩ Ξ.F.plainAttrs_dict K2 Ξ.F.type_dict_get (λa e=>by cases e;exact⟨_,hg,rfl⟩) (q "dict.get" (.of e λw2 s2 ws l S2 rr=>?_));have key: ∀ {x dv:ab}{kv dvv:μ}{args:ζ μ},jG C w2 x kv->jG C w2 dv dvv->jN p.2 x=Qe->((args= [.ο la,kv]/\dvv= .Δ)\/args= [.ο la,kv,dvv]) ->bq Y k (VR C) (call (.ϭ "dict.get") args) w2 s2 (Qa ((jO p.2 x).bm dv,h2)):=by
  intro x dv kv dvv args hk hdv hf hargs;refine .Op S2 λQ E q=>?_;obtain⟨_,n2,es,e2,hmod,_,hg2,hdr,_,_⟩:=S2.kj ⟨la,rfl,l.xL ha⟩ hm;cases e2;have fe:∀{o:η μ},Bz C w2 (jO p.2 x) o->∀tk,Q (o.bm dvv) {s2 with toks:=tk}:=λh tk=>by
   rcases h with ⟨q1,rfl⟩| ⟨mv,rv,q1,rfl,q3⟩
   ·rw[q1] at q;exact q _ tk hdv
   ·rw[q1] at q;exact q _ tk q3
  rcases p9 (Jn.mp hf).1 with ⟨ka,rfl⟩| ⟨ka,rfl⟩
  ·obtain⟨kvs,D⟩:=hdr.atom hf
   have hD:=D.dictOf hg2;rcases hargs with ⟨rfl,rfl⟩|rfl
   ·exact Qz K2 hD.Tl Yf (qac _ _) (meets_dict_get _ la hk.atom.1 hmod) ⟨_,hD.mapOf,fe (D.xL ka) _⟩
   ·exact Qz K2 hD.Tl Yf (qad _ _ _) (meets_dict_get_default _ la hk.atom.1 hmod dvv) ⟨_,hD.mapOf,fe (D.xL ka) _⟩
  ·obtain⟨xs,D⟩:=hdr.rz hf
   have hD:=D.dictOf S2 hg2;obtain⟨t,rfl,ht⟩:=S2.iu hk;rcases hargs with ⟨rfl,rfl⟩|rfl
   ·exact Qz K2 hD.Tl Yf (qac _ _) (meetsH_dict_get _ la t hmod) ⟨Y.room,ka,xs,ht,hD,fe (D.xL ka) _⟩
   ·exact Qz K2 hD.Tl Yf (qad _ _ _) (meetsH_dict_get_default _ la t hmod dvv) ⟨Y.room,ka,xs,ht,hD,fe (D.xL ka) _⟩
 exact .ba (.a1 (T:=λl=>call (.ϭ "dict.get") (_::l)) rr λx kv hk=> .aw λhf=>key hk rfl hf (.nb ⟨rfl,rfl⟩)) (.a2 (T:=λl=>call (.ϭ "dict.get") (_::l)) rr λx kv hk dv dvv hd=> .aw λhf=>key hk hd hf (.u8 rfl))
def CF(hn:jL nm=Qe)(S:St Y k w H s){x:ab}(hx:jG C w x vx){vs:ζ ab}:y7 x (ek nm) vs H h2=Qa r->Sp Y k w s vx nm vs h2 r:=by
 refine kQ (jR λl e1 e=>?_) (jR λi e1=>kQ (jR λm0 e2=>jR λm e3 e=>?_) (jR λm0 e2=>jR λm e3 e=>?_))
 ·obtain⟨u,rfl,ok⟩:=hx.Tv e1
  exact L6 hn ok e
 ·cases ref?_s e1
  obtain⟨la,rfl,ha⟩:=hx;exact GA hn S ha e2 e3 e
 ·cases ref?_s e1
  obtain⟨la,rfl,ha⟩:=hx;exact GC hn S ha e2 e3 e
inductive VM(C:bf)(id c:θ):Prop
 |mk(a ca dx:Qj)(n:θ)(k1:C.ad.ω id=Qa a)(k2:C.ad.ω c=Qa ca)(k3:C.K.ω a=Qa ⟨.ο ca,Qa dx,.plain,#[]⟩)(k4:C.K.ω dx=Qa (Ql [] n)):VM C id c
inductive qK(C:bf)(c n:θ)(P:Qj->be->Prop):Prop
 |mk(ca:Qj)(name:be)(k1:C.ad.ω c=Qa ca)(k2:jL name=Qe)(k3:ek name=n)(k4:plainGet C.K ca name=Qe)(k5:hasDictIn C.K ca=Qe)(p:P ca name):qK C c n P
inductive NH(C:bf)(v:ab)(ca:Qj)(name:be):Prop
 |mk(av:μ)(k6:findIn C.K (.ο ca) name=Qa (Qa av))(k7:∀w,jG C w v av)
  (k8:U2 C.P v=Qe->isFn C.K av=Qe/\specialIn C.K (.ο ca) "__getattribute__"=Qa (Qa (.ϭ "type.__getattribute__"))/\∃mc,typeIn C.K (.ο ca)=Qa mc/\readsIn C.K ca mc=Qe/\findCls C.K (.ο ca) mc name=Qa (.Op av)) (k9:U2 C.P v=Qb->specialIn C.K av "__get__"=Qa Qc/\handedIn av=Qe/\copiedNames.v6 name=Qb):NH C v ca name
inductive zdk(C:bf)(ca:Qj)(name:be):Prop
 |mk(aq:η μ)(k6:findIn C.K (.ο ca) name=Qa aq)(k7:noGet C.K aq=Qe)
  (k8:takerIn C.K ca name=Qa Qc) (k9:findIn C.K (.ο ca) "__setattr__"=Qa (Qa (.ϭ "object.__setattr__"))) (k10:plainOver C.K ca=Qe):zdk C ca name
inductive VN(C:bf)(c i:θ):Prop
 |mk (ca fI:Qj) (k1:C.ad.ω c=Qa ca) (k2:C.ad.ω i=Qa fI) (k3:makesIn C.K ca=Qe) (k4:findIn C.K (.ο ca) "__init__"=Qa (Qa (.ο fI))) (k5:isFn C.K (.ο fI)=Qe) (k6:keepIn C.K (.ο ca)=Qe):VN C c i
def x5(C:bf)(f:Fn)(fd:QR)(xs:ζ be):Prop:=
 (f.mf=[]/\∀vs:ζ μ,vs.ε=f.np->bindArgs fd ⟨vs,[]⟩=pure (xs.zip vs))\/
 (f.mf≠[]/\∃dvs,(∀w,jD C w f.mf dvs)/\∀(S:Qu)(vs:ζ μ),vs.ε<=f.np->f.np-vs.ε<=dvs.ε->peek C.K S (bindArgs fd ⟨vs,[]⟩)=Qa (xs.zip (vs++dvs.bn (dvs.ε-(f.np-vs.ε)))))
inductive Lu(C:bf)(gl:ζ (be×ab))(f:Fn):Prop
 |mk(a:Qj)(name qual:be)(params:QX)(body:ζ Qx)(scope:Scope)(dV kV doc pm:μ)(an:η Qj)(cdv ct oc:μ)(od:η Qj)(osl:sB (η μ))(k1:C.ad.ω f.gy=Qa a)(k2:C.K.ω a=Qa ⟨oc,od,.func (fnOf name qual params body scope dV kV doc pm an cdv ct),osl⟩)
  (k3:codeIn C.K cdv qual=Qe) (k4:Vp gl params body scope=Qa (f.np,f.ns,f.Th)) (k6:keepIn C.K (.ο a)=Qe)
  (k7:x5 C f (fnOf name qual params body scope dV kV doc pm an cdv ct) (params.Id.ς (·.arg)))
  (k8:(params.Id.ς (·.arg)).ϥ) (k10:((cellsFrom 0 scope.pt []).ς (·.1)).ϥ):Lu C gl f
def EW (C:bf):Prop:= ∀ {d e:θ}{Y:kD C d e}{k:Kp}{w:Wd}{H:MH}{s:Qf}{as:ζ ab}{vs:ζ μ},vA C->St Y k w H s->jD C w as vs->bq Y k (VR C) (call (.ϭ "sorted") vs) w s (Dh as H)
def mZ(C:bf)(gl:ζ (be×ab)):Prop:=NE C gl/\(∀a f,C.P.jn a=Qa f->f.gy=a/\Lu C gl f)/\(∀id c,C.P.ck id=Qa c->VM C id c)/\(∀c n v,C.P.lh c n=Qa v->qK C c n (NH C v))/\(∀c n,C.P.cz c n=Qe->qK C c n (zdk C))/\(∀c k i,C.P.gd c=Qa k->k.init=Qa i->VN C c i)/\vA C/\EW C
section
variable{C:bf}{gl:List (Str×ab)}(ψ:mZ C gl)
def mZ.yq:=@ψ.1
def mZ.oj:=@ψ.2.1
def mZ.ki:=@ψ.2.2.1
def mZ.kn:=@ψ.2.2.2.1
def mZ.rc:=@ψ.2.2.2.2.1
def mZ.ul:=@ψ.2.2.2.2.2.1
def mZ.gf:=@ψ.2.2.2.2.2.2.1
def mZ.fP:=@ψ.2.2.2.2.2.2.2
end
variable{gl:List (Str×ab)}
section
variable{cx:CC}{fr:Frame}
def qK.use{c:θ}(h:qK C c n P)(hn:jL nm=Qe)(e:n=ek nm)(hc:C.ad.ω c=Qa ca):plainGet C.K ca nm=Qe/\hasDictIn C.K ca=Qe/\P ca nm:=by
 obtain⟨ca',name,k1,k2,k3,k4,k5,p⟩:=h;cases Qa.dL (k1.Μ.ν hc);cases Lb k2 hn (k3.ν e);exact⟨k4,k5,p⟩
def Bi:∀p∈xS,handedIn (.ϭ p.2)=true:=by decide+kernel
def FZ{v:ab}(h:jG C w v rv):handedIn rv=true:=by
 cases v with
 |none=>refine eqB h ?_;rfl
 |bool b=>refine eqB h ?_;rfl
 |int i=>obtain⟨t,rfl⟩:=h;rfl
 |str i=>obtain⟨t,rfl,_⟩:=h;rfl
 |ay i=>obtain⟨_,_,_,_,rfl,_,_,_⟩:=h;rfl
 |ref i=>obtain⟨_,rfl,_⟩:=h;rfl
 |ai i=>obtain⟨_,rfl,_⟩:=h;rfl
 |ty i=>obtain⟨_,rfl,_⟩:=h;rfl
 |bi i=>obtain⟨n,rfl,hb⟩:=h;exact Bi _ (j9 hb)
 |gb i=>obtain⟨_,_,_,_,rfl,_⟩:=h;rfl
 |fl i=>obtain⟨_,_,_,_,rfl,_,_,_⟩:=h;rfl
 |ql i=>obtain⟨_,_,_,_,_,rfl,_⟩:=h;rfl
def U1{t:Tok}(hx:jL x=Qe)(hn:jL nm=Qe):(KB x t).isStr nm=(ek x==ek nm):=by
 show (x==nm)=_;rw[Z8,Β,Β];exact⟨λe=>e▸rfl,Lb hx hn⟩
inductive zdm(C:bf)(w:Wd)(m:η ab)(o:η (η μ)):Prop
 |none(h1:m=.Δ)(h2:o=Qa .Δ):zdm C w m o
 |some(v:ab)(rv:μ)(h1:m=Qa v)(h2:o=Qa (Qa rv))(r:jG C w v rv):zdm C w m o
def tO.xL(hn:jL nm=Qe):∀{fs:ζ (θ×ab)}{es:ζ Qh},tO C w fs es->es.any (·.refKey)=Qb/\((vS fs (ek nm)=Qc/\es.find? (·.key.isStr nm)=Qc)\/∃v e,vS fs (ek nm)=Qa v/\es.find? (·.key.isStr nm)=Qa e/\jG C w v e.Op):=by
 intro fs
 induction fs with
 |ϟ=>intro es h;rw[show es=[] from h];exact⟨rfl,.nb ⟨rfl,rfl⟩⟩
 |Κ p fs ih=>
  intro es h;obtain⟨x,t,hsh,v,r,rfl,h1,h2,h3,h4⟩:=h;obtain⟨i1,i2⟩:=ih h4;refine⟨i1,?_⟩;unfold vS at i2 ⊢;rw[YH,YH]
  dsimp only
  rw[U1 h1 hn,h2];cases hq:(p.1==ek nm) with
  |true=>exact .u8 ⟨_,_,rfl,rfl,h3⟩
  |false=>exact i2
def tO.getL(hn:jL nm=Qe){fs:ζ (θ×ab)}(r:tO C w fs es):zdm C w (vS fs (ek nm)) (getL nm es):=by
 obtain⟨hr,h⟩:=r.xL hn;delta W.getL;rcases h with ⟨h1,h2⟩| ⟨v,e,h1,h2,h3⟩
 ·rw[h2]
  exact .Δ h1 (by dsimp only;rw[hr];rfl)
 ·rw[h2]
  exact .some v e.Op h1 rfl h3
def tO.put(hn:jL nm=Qe){t:Tok}{v:ab}(hv:jG C w v rv):∀{fs:ζ (θ×ab)}{es:ζ Qh},tO C w fs es->tO C w (Va fs (ek nm) v) (putL nm hsh (.Υ nm t) rv es):=by
 intro fs
 induction fs with
 |ϟ=>intro es h;rw[show es=[] from h];exact⟨nm,t,hsh,rv,[],rfl,hn,rfl,hv,rfl⟩
 |Κ p fs ih=>
  intro es h;obtain⟨x,t',hsh',v',r,rfl,h1,h2,h3,h4⟩:=h;show tO C w (bif p.1==ek nm then _ else _) _;unfold putL;rw[U1 h1 hn,h2];refine rY (p.1==ek nm) (λhq=>?_) λhq=>?_
  ·rw[hq]
   rw[ρ rfl];exact⟨x,t',hsh',rv,r,rfl,h1,h2.ν (Β.mp hq),hv,h4⟩
  ·rw[hq]
   rw[π Zq];exact⟨x,t',hsh',v',_,rfl,h1,h2,h3,(ih h4)⟩
def tO.ε:∀{fs:ζ (θ×ab)}{es:ζ Qh},tO C w fs es->es.ε=fs.ε:=by
 intro fs
 induction fs with
 |ϟ=>intro es h;rw[show es=[] from h];rfl
 |Κ p fs ih=>intro es h;obtain⟨_,_,_,_,r,rfl,_,_,_,h4⟩:=h;exact χ (· +1) (ih h4)
def HL(fs:ζ (θ×ab))(n:θ)(v:ab):(Va fs n v).ε<=fs.ε+1:=by
 induction fs with
 |ϟ=>exact Jv _
 |Κ p fs ih=>
  show (bif p.1==n then _ else _:ζ (θ×ab)).ε<=_;cases (p.1==n) with
  |true=>exact Ze _
  |false=>exact Zf ih
inductive zaz{C:bf}{d e:θ}(Y:kD C d e)(k:Kp)(w:Wd)(H:MH)(s:Qf)(i:θ)(v:μ)(q:θ×ζ (θ×ab)):Prop
 |mk(a ca dx:Qj)(es:ζ Qh)(n:θ)(pre post:bw)(e:v=.ο a)(hc:C.ad.ω q.1=Qa ca)(f:tO C w q.2 es)(l:q.2.ε<=500)(hn:Ps Y.h₀ Y.L s.Ω ((pre++[(a,instObj ca dx)])++(dx,Ql es n)::post))(I:InstAt s.Ω a (instObj ca dx) ca (Qa (Ql es n)))
   (u:∀o',Upd dx (Ql es n) o' ((pre++[(a,instObj ca dx)])++(dx,Ql es n)::post) ((pre++[(a,instObj ca dx)])++(dx,o')::post))
   (g:∀fs' es' n' h',tO C w fs' es'->fs'.ε<=500->Fr Y.h₀ Y.L h' k.m->Ps Y.h₀ Y.L h' ((pre++[(a,instObj ca dx)])++(dx,Ql es' n')::post)->cb C Y.h₀ Y.L k w (H.ϩ i (.Td q.1 fs')) h'):zaz Y k w H s i v q
def cb.qy(S:St Y k w H s){q:θ×ζ (θ×ab)}(hv:jG C w (.ο i) v)(ho:H[i]?.Η ae.inst?=Qa q):zaz Y k w H s i v q:=by
 refine xEA (bs ho) λo hi h2=>?_;cases inst?_s h2;refine xEA hv λa e ha=>?_;obtain⟨pre,en,post,⟨c,dx,es,n,rfl,hc,f,l⟩,hn,hd,g⟩:=S.at ha hi;have eq:∀o',pre++([(a,instObj c dx),(dx,o')]++post)=(pre++[(a,instObj c dx)])++(dx,o')::post:=λo'=>by rw[JB];rfl
 rw[eq] at hn hd;exact⟨a,c,dx,es,n,pre,post,e,hc,f,l,hn,InstAt.of_news hn (ZQ _ (JQ _ (.mo _))) (JQ _ (.mo _)),λo'=>wC hd,λfs' es' n' h' r l' F N=>g (.Td q.1 fs') [(a,instObj c dx),(dx,Ql es' n')] h' rfl ⟨c,dx,es',n',rfl,hc,r,l'⟩ F (by rw[eq];exact N)⟩
def Hc(O:mZ C gl)(S:St Y k w H s){x:ab}(hnm:jL nm=Qe)(hx:jG C w x vx):bq Y k (VR C) (Ξ.getAttr vx nm Qe) w s ((getAttr C.P H x (ek nm)).ς λv=>(v,H)):=by
 refine .jg λv e=>.Op S λQ E q=>?_;have att:∀{a ca dx:Qj}{c n:θ}{es:ζ Qh},InstAt s.Ω a (instObj ca dx) ca (Qa (Ql es n))->C.ad.ω c=Qa ca->getL nm es=Qa Qc->u6 C.P c (ek nm)=Qa v->Qi C.M Y.A (Ξ.getAttr (.ο a) nm Qe) Q E s:=λI hc q2 e=>by
  refine xEA (bs e) λu hu e=>?_;obtain⟨hf,e⟩:=gs e;cases e;obtain⟨t4,t5,av,t6,t7,_,t9⟩:=(O.kn _ _ _ hu).use hnm rfl hc;have zq35:=t9 (by cases hq:U2 C.P v;rfl;rw[hq] at hf;cases hf);exact get_cls S.fr Y.k I t4 t5 t6 zq35.1 zq35.2.1 zq35.2.2 q2 (q av _ (t7 w))
 revert e
 refine kQ (jR λp hp e=>?_) (jR λa e1=>jR λc hc e=>?_)
 ·obtain⟨i,e1,hp⟩:=bs hp
  cases ref?_s e1;obtain⟨a,ca,dx,es,n,pre,post,rfl,hc,hF,hl,hN,I,_,_⟩:=S.qy hx hp;cases hF.getL hnm with
  |none h1 h2=>rw[h1] at e;exact att I hc h2 e
  |some u rv h1 h2 r=>
   rw[h1] at e;obtain⟨qz,e⟩:=gs e;cases e;refine xAA ((O.rc _ _ qz).use hnm rfl hc) λt4 t5 zg190=>?_;obtain⟨aq,t6,t7,_,_,_⟩:=zg190;exact get_own S.fr Y.k I t4 t5 t6 t7 h2 (FZ r) (q rv _ r)
 ·cases top?_s e1
  obtain⟨xa,rfl,hx⟩:=hx;obtain⟨xa',ca,dx,n,i1,i2,i3,i4⟩:=O.ki _ _ hc;cases Qa.dL (i1.Μ.ν hx);exact att (InstAt.of_K S.mw i3 i4) i2 rfl e
def Hb(O:mZ C gl)(S:St Y k w H s){x:ab}{r:θ×ζ ab}{pl:Sem Ε}(hnm:jL nm=Qe)(hx:jG C w x vx){Q:μ×ζ μ->Qf->Prop} 
  (h:∀fa first tk,C.ad.ω r.1=Qa fa->jD C w r.2 first->Q (.ο fa,first) {s with toks:=tk}):mV C.P H x (ek nm)=Qa r->Qi C.M Y.A (Ξ.getMethod vx nm pl) Q E s:=by
 have met:∀{a ca dx:Qj}{c n f:θ}{es:ζ Qh},vx=.ο a->InstAt s.Ω a (instObj ca dx) ca (Qa (Ql es n))->C.ad.ω c=Qa ca->getL nm es=Qa Qc->y4 C.P c (ek nm)=Qa f->(f,[x])=r->Qi C.M Y.A (Ξ.getMethod vx nm pl) Q E s:=λea I hc q2 e er=>by
  refine xEA (bs e) λu hu e=>?_;refine xA (gs e) λhf e=>?_;cases top?_s e;have zq26:=(O.kn _ _ _ hu).use hnm rfl hc;obtain⟨av,t6,t7,t8,_⟩:=zq26.2.2;refine xEA (t7 w) λga cw hg=>?_;subst cw;subst er ea;exact method_inst S.fr Y.k I zq26.1 t6 (t8 hf).1 q2 (h _ _ s.wS hg (.da hx))
 refine kQ (jR λa e1 e=>?_) (jR λq hq=>mB λhnone=>kE λf hf e=>?_)
 ·cases top?_s e1
  refine xEA (id hx) λxa e2 hxa=>?_;refine FD (C.P.ck a) (λhi=>?_) λc hi=>?_
  ·rw[hi] at e
   refine xEA (ms e) λf hf e=>?_;refine(bs hf).ι λu zq20=>?_;have hf:=zq20.2;refine xA (gs hf) λhfn hf=>?_;cases top?_s hf;obtain⟨av,t6,t7,t8,_⟩:=((O.kn _ _ _ zq20.1).use hnm rfl hxa).2.2;refine xEA (t7 w) λga iq hg=>?_;subst iq;refine(t8 hfn).2.2.ι λmc zq16=>?_;subst e e2;exact method_of_cls S.fr Y.k (t8 hfn).2.1 (cls_val S.fr Y.k zq16.1 zq16.2.1 zq16.2.2 rfl (h _ _ _ hg .ϟ))
  ·rw[hi] at e
   refine xEA (ms e) λf hf e=>?_;obtain⟨xa',ca,dx,n,i1,i2,i3,i4⟩:=O.ki _ _ hi;cases Qa.dL (i1.Μ.ν hxa);exact met e2 (InstAt.of_K S.mw i3 i4) i2 rfl hf e
 ·obtain⟨i,e1,hq⟩:=bs hq
  cases ref?_s e1;obtain⟨a,ca,dx,es,n,pre,post,ea,hc,hF,hl,hN,I,_,_⟩:=S.qy hx hq;cases hF.getL hnm with
  |none h1 h2=>exact met ea I hc h2 hf e
  |some u rv h1 h2 r'=>rw[h1] at hnone;cases hnone
def y3(O:mZ C gl)(S:St Y k w H s){x v:ab}(hnm:jL nm=Qe)(hx:jG C w x vx)(hv:jG C w v vv) 
  (h:∀s',ip Y k w w H' s s'->Q () s'):setAttr C.P H x (ek nm) v=Qa H'->Qi C.M Y.A (Ξ.setAttr vx nm vv) Q E s:=by
 refine jR λi e1=>jR λq hq=>mB λqz e=>?_;cases ref?_s e1;obtain rfl:=Qa.dL e;obtain⟨a,ca,dx,es,n,pre,post,rfl,hc,hF,hl,hN,I,U,g⟩:=(S.qy hx hq);have zq11:=(O.rc _ _ (Jn.mp qz).1).use hnm rfl hc;obtain⟨aq,t6,t7,t8,t9,t10⟩:=zq11.2.2;have hp:=hF.put (hsh:=qbe C.w.Φ nm) (t:=s.wS+1) hnm hv;have hl4:=Zl.mp (Jn.mp qz).2;exact set_dict S.fr Y.k hN I rfl t9 t10 t8 zq11.2.1 (by cases hF.getL hnm with|none _ h2=>rw[h2];rfl|some _ _ _ h2 _=>rw[h2];rfl:(getL nm es).Ψ=Qe) rfl (U _) (by rw[hp.ε];exact Jm (Jm (HL q.2 (ek nm) v) hl4) (Jz _ _)) λh' F' N'=>h _ ⟨.TD w,g _ _ _ h' hp (Jm (Jm (HL q.2 (ek nm) v) hl4) (Jz _ _)) F' N',rfl,rfl⟩
def Vw{o:ϛ}(h:Vx o=Qe):attributeBase o aq env whole=whole:=by
 cases o with
 |Call f as ks pos=>
  cases as with
  |ϟ=>cases h
  |Κ x r=>cases f<;>rfl
 |_=>rfl
def CG(O:mZ C gl){v:ϛ}{iv:Ex}(hv:mI C d cx v iv)(hn:jL nm=Qe)(hb:Vx v=Qe):mI C d cx (.KT v nm pos) (.aq iv (ek nm)):=by
 intro Y env k mE fr w H s p r;refine jH λx H1 e1 e Q E hq=>Attribute_any_ (hv Y env k mE fr w H s p _ e1 _ _ λw1 a1 s1 n1 r1=>Hc O n1.st hn r1 r e _ _ λw2 a2 s2 n2 r2=>hq w2 a2 s2 (n1.ν n2) r2) ?_;show (do
   let o<-attributeBase v nm env (Ξ.eval v env)
   standAt pos.atName
   let r<-holding [o] (Ξ.getAttr o nm Qe)
   letTemporaryGo v o r
   pure r)=_
 rw[Vw hb]
def oI{M:Jh}{f:μ}{Q:Args->Qf->Prop}(hp:args.any (·.1)=Qb)(h:Qi M A (spliced args) (λvs s'=>Q ⟨vs,[]⟩ s') E s):Qi M A (evalArgs f Qe args []) Q E s:=by
 cases args with
 |ϟ=>
  delta evalArgs;exact Qd (Qo h (λvs s' h'=>Qk (Qd (Qg (Qd (Qg (Qg h')))))) λ_ _ x=>x)
 |Κ p r=>
  obtain⟨b,x⟩:=p;cases b with
  |false=>exact evalArgs_plain h
  |true=>cases hp
theorem pU{M:Jh}{f:μ}{es:ζ ϛ}{irs:ζ Ex}{Q:μ->Qf->Prop}(hk:keepIn K f=Qe)(hc:mj C d cx es irs)
  (h:Qi M A (spliced (backTo pos (starEach es env))) (λvs s₁=>K.In s₁.Ω/\Qi M A (call f (first++vs)) Q E s₁) E s):Qi M A (callWith pos f first (backTo pos (starEach es env)) []) Q E s:=
 callWith_of (by rw[lG hc];rfl) (keeps_K hk) (oI (lG hc) h)
def oL(C:bf)(d:θ):Prop:=
 ∀(Y:kD C d 0)(k:Kp)(w:Wd)(H:MH)(s:Qf)(f:θ)(fa:Qj)(as:ζ ab)(vs:ζ μ)(r:ab×MH),St Y k w H s->C.ad.ω f=Qa fa->jD C w as vs->mD C.P xH d f as H=Qa r->
  ∀R:Result->Qf->Prop,(∀w' rv s',ip Y k w w' r.2 s s'->jG C w' r.1 rv->R (.ok (.ret rv)) s')->codeAny C.M Y.A (.ϧ (.ο fa) ⟨vs,[]⟩) R s
theorem oL.wp(hC:oL C d)(Y:kD C d e){f:θ}(S:St Y k w H s)(hf:C.ad.ω f=Qa fa)(r:jD C w as vs):bq Y k (VR C) (call (.ο fa) vs) w s (mD C.P xH d f as H):=
 λr' ev Q E hq=>wpAny_call (hC Y.fL k w H s f fa as vs r' S hf r ev _ λw' rv s' n r2=>hq w' rv s' ⟨n.le,n.st,n.cj⟩ r2)
def Ez(O:mZ C gl){f:θ}(hf:C.ad.ω f=Qa fa)(e:mD C.P xH d f as H=Qa r):keepIn C.K (.ο fa)=true:=by
 cases d with
 |zero=>exact af e
 |succ d=>
  refine xEA (bs e) λfn hfn e=>?_;refine xA (O.oj _ _ hfn) λh1 cw=>?_;obtain⟨fa',_,_,_,_,_,_,_,_,_,_,_,_,_,_,_,k1,_,_,_,k6,_,_,_⟩:=cw;rw[h1,hf] at k1;refine soB k1 ?_;exact k6
def Au {f:η (ζ Env)} (h:A.frames=f):(A.under (.ϭ "type.__call__" ⟨.ο ca::vs,[]⟩)).frames=f:=by
 show pushEnvs (Code.envs (.ϭ "type.__call__" ⟨.ο ca::vs,[]⟩)) A.frames=_;rw[show Code.envs (.ϭ "type.__call__" ⟨.ο ca::vs,[]⟩)= [] by unfold Code.envs;rw[show Code.isFrame (.ϭ "type.__call__" ⟨.ο ca::vs,[]⟩)=Qb from rfl,π Zq]];exact h
def Bf{a:θ}(h:a+n+2+2<=900):a+1+n+2+0<=900:=by rw[ZG a 1 n];exact Jm (Jp (by decide:3<=4) (a+n)) h
def Be{a:θ}(h:a+n+190+5*2<=9900):a+1+n+190+5*0<=9900:=by rw[ZG a 1 n];exact Jm (Jp (by decide:191<=200) (a+n)) h
def kD.qj (Y:kD C d 2) (ca:Qj) (vs:ζ μ):kD C d 0:=⟨(Y.A.under (.ϭ "type.__call__" ⟨.ο ca::vs,[]⟩),Y.h₀,Y.L,Y.md),Y.below.ι λA₀ h=>h.ι λbase h=>h.ι λouter h=>⟨A₀,base,outer,h.1,Au h.2⟩,Y.k,Y.ai,Y.frame,Y.Tc,Y.tz,Bf Y.depth,Be Y.units⟩
def Cy(O:mZ C gl)(hC:oL C d){Y:kD C d 2}(S:St Y k w H s){c:θ}{cl:Cl}(hk:C.P.gd c=Qa cl)(hca:C.ad.ω c=Qa ca)(r:jD C w as vs):bq Y k (VR C) (call (.ο ca) vs) w s (Pm (C.cx d) c cl as H):=by
 refine .jj λi hi=>λr'=>jH λx H' ev=>mB λhx e=>?_;cases HJ hx;refine lN e ?_;intro Q E hq;obtain⟨ca',fI,t1,t2,t3,t4,t5,t6⟩:=O.ul _ _ _ hk hi;cases Qa.dL (t1.Μ.ν hca);obtain⟨all,hn,add,_,_⟩:=S.fc;refine call_cls S.fr Y.k hn t3 t4 t5 λx dx h' F' N' l1 l2=>?_;have hx4:4<=x:=Xz λhlt=>by
  obtain⟨o,ho⟩:=O.gf.nu x (qaZ hlt)
  have:=(N' (x,instObj ca dx) (.mo _)).2.2
  rw[Y.k _ _ ho] at this;cases this
 have le:w.le ⟨w.σ++[x],w.tp⟩:=⟨Zh _ _,λ_ x=>x⟩;have hS:cb C Y.h₀ Y.L k ⟨w.σ++[x],w.tp⟩ (H++[.Td c []]) h':=by
  refine add x (.Td c []) [(x,instObj ca dx),(dx,Ql [] 0)] h' ⟨ca,dx,[],0,rfl,hca,rfl,JF _⟩ F' N' ?_ ?_ hx4
  ·exact JK.Ϩ ⟨λh=>υ (JI.mp h) (Kj l2),qR _⟩
  ·intro p hp q hq
   have:=l1 q hq
   rcases JO.mp hp with rfl|hp
   ·exact Kj (Zp this l2)
   ·exact(JI.mp hp)▸Kj this
 have hr:(w.σ++[x])[H.ε]?=Qa x:=by rw[<-S.am];exact ZJ
 exact hC (Y.qj ca vs) k ⟨w.σ++[x],w.tp⟩ (H++[ae.Td c []]) {s with heap:=h'} i fI (.ο H.ε::as) (.ο x::vs) (.Δ,H') hS t2 (.Κ ⟨x,rfl,hr⟩ (r.Ν le)) ev _ λw' rv s' n r2=>⟨r2,hq w' _ s' ⟨le.ν n.le,n.st,n.cj.1,n.cj.2⟩ ⟨x,rfl,n.le.xL hr⟩⟩
theorem zbh(O:mZ C gl){nm:Tm}(hb:xS.ω n=Qa nm)(S:St Y k w H s)(r:jD C w as vs):bq Y k (VR C) (call (.ϭ nm) vs) w s (Lj n as H):=
 .ba (.aw λh=>wH (t:=xS) h hb (y:="len") rfl▸OF S r) (.ba (.aw λh=>wH (t:=xS) h hb (y:="max") rfl▸OE S r) (.ba (.aw λh=>wH (t:=xS) h hb (y:="min") rfl▸OD S r) (.aw λh=>wH (t:=xS) h hb (y:="sorted") rfl▸O.fP O.gf S r)))
def Fq(O:mZ C gl)(hC:oL C d){es:ζ ϛ}{irs:ζ Ex}(hc:mj C d cx es irs){Y:kD C d 2}{g:ab}{vs:ζ ab}{H1:MH}(p:Pl Y cx env k mE fr w H s)(hg:jG C w g gv)(e1:qC (C.cx d) irs fr H=Qa (vs,H1)):bq Y k (VR C) (callWith pos gv [] (backTo pos (starEach es env)) []) w s (jJ (C.cx d) g vs H1):=by
 have args:∀{Q:ζ μ->Qf->Prop}{E:μ->Qf->Prop},(∀w1 a1 s1,ip Y k w w1 H1 s s1->jD C w1 vs a1->Q a1 s1)->Qi C.M Y.A (spliced (backTo pos (starEach es env))) Q E s:=λhq=>sF hc Y env k mE fr w H s pos p _ e1 _ _ hq;refine .ba (.jj λf hf=>.case (λhcl=>?_) (λcl hcl=>?_)) (.ba (.jj λn hn=>?_) (.jj λn hn=>?_))
 ·cases top?_s hf
  refine Zt hg λga zq6=>?_;refine eqB zq6.1 ?_;have hga:=zq6.2;intro r e Q E hq;exact pU (Ez O hga e) hc (args λw1 a1 s1 n1 r1=>⟨n1.st.mw,hC.wp Y n1.st hga r1 r e Q E λw2 a2 s2 n2 r2=>hq w2 a2 s2 (n1.ν n2) r2⟩)
 ·cases top?_s hf
  obtain⟨ga,rfl,hga⟩:=hg;intro r e Q E hq;refine(bs e).ι λi zq4=>?_;obtain⟨ca',fI,t1,t2,t3,t4,t5,t6⟩:=O.ul _ _ _ hcl zq4.1;cases Qa.dL (t1.Μ.ν hga);exact pU t6 hc (args λw1 a1 s1 n1 r1=>⟨n1.st.mw,Cy O hC n1.st hcl hga r1 r e Q E λw2 a2 s2 n2 r2=>hq w2 a2 s2 (n1.ν n2) r2⟩)
 ·cases bi?_s hn
  obtain⟨nm,rfl,hb⟩:=hg;exact λr e Q E hq=>callWith_builtin (lG hc) (oI (lG hc) (args λw1 a1 s1 n1 r1=>zbh O hb n1.st r1 r e Q E λw2 a2 s2 n2 r2=>hq w2 a2 s2 (n1.ν n2) r2))
 ·cases ty?_s hn
  obtain⟨nm,rfl,hb⟩:=hg;exact λr e Q E hq=>Ξ.callWith_type (lG hc) (oI (lG hc) (args λw1 a1 s1 n1 r1=>zbg hb n1.st r1 r e Q E λw2 a2 s2 n2 r2=>hq w2 a2 s2 (n1.ν n2) r2))
theorem GD(O:mZ C gl)(hC:oL C d){ig:Ex}{es:ζ ϛ}{irs:ζ Ex}(hc:mj C d cx es irs)(hx:mI C d cx (.Name x xp) ig):mI C d cx (.Call (.Name x xp) es [] pos) (.ϧ ig irs):=
 λY env k mE fr w H s p r=>jH λg H1 e1=>jH λvs H2 e2 e Q E hq=>Call_ (hx Y env k mE fr w H s p _ e1 _ _ λw1 a1 s1 n1 r1=>Fq O hC hc (p.Ϭ n1) r1 e2 r e Q E λw2 a2 s2 n2 r2=>hq w2 a2 s2 (n1.ν n2) r2)
def IX{es:ζ ϛ}{irs:ζ Ex}(hc:mj C d cx es irs)(hn:n<30):methodCallForm n (backTo pos (starEach es env)) []=true:=by
 delta methodCallForm;rw[ZY,ZY];refine⟨⟨?_,rfl⟩,Ζ hn⟩;rw[Zn];intro x hx
 have:=(XH.mp (lG (env:=env) (pos:=pos) hc)) x hx
 cases hb:x.1 with
 |false=>rfl
 |true=>exact υ hb this
def GE(O:mZ C gl)(hC:oL C d){o:ϛ}{io:Ex}{es:ζ ϛ}{irs:ζ Ex}(hc:mj C d cx es irs)(hlen:es.ε<=20)(ho:mI C d cx o io)(hn:jL nm=Qe)(hb:Vx o=Qe)
  (hp:(apos.endLine==pos.line)=Qe):mI C d cx (.Call (.KT o nm apos) es [] pos) (.az io (ek nm) irs):=by
 intro Y env k mE fr w H s p r;refine jH λx H1 e1=>jH λvs H2 e2 e Q E hq=>?_;show Qi C.M Y.A (do
  let ov<-attributeBase o nm env (Ξ.eval o env)
  standAt apos.atName
  methodCall o nm apos pos env ov (es.ε+0) (backTo pos (starEach es env)) (backToKw pos (keywordEach [] env))) Q E s
 rw[Vw hb];refine Qd (ho Y env k mE fr w H s p _ e1 _ _ λw1 a1 s1 n1 r1=>Qd (Qm ?_));delta methodCall;rw[show methodCallForm (es.ε+0) (backTo pos (starEach es env)) (backToKw pos (keywordEach [] env))=Qe from IX hc (Jt hlen (by decide))];delta calleeOf methodCallPos;rw[ρ rfl];refine Qd (Qk ?_);refine FD (mV C.P H1 x (ek nm)) (λhm=>?_) λq hm=>?_
 ·have e:y7 x (ek nm) vs H1 H2=Qa r:=by
   have e':JG (motive:=λ_=>η (ab×MH)) (mV C.P H1 x (ek nm)) (y7 x (ek nm) vs H1 H2) (λp=>mD C.P xH d p.1 (p.2++vs) H2)=Qa r:=e;rw[hm] at e';exact e'
  refine CF hn n1.st r1 e _ _ _ λid hid=>?_;rw[ρ (by rw[hp];rfl)];exact Qd (Qg (callWith_builtin (lG hc) (oI (lG hc) (sF hc Y env k mE fr w1 H1 s1 pos (p.Ϭ n1) _ e2 _ _ λw2 a2 s2 n2 r2=>hid w2 s2 a2 n2.le n2.st r2 Q E λw3 a3 s3 n3 r3=>hq w3 a3 s3 ((n1.ν n2).ν n3) r3))))
 ·have e:mD C.P xH d q.1 (q.2++vs) H2=Qa r:=by
   have e':JG (motive:=λ_=>η (ab×MH)) (mV C.P H1 x (ek nm)) (y7 x (ek nm) vs H1 H2) (λp=>mD C.P xH d p.1 (p.2++vs) H2)=Qa r:=e;rw[hm] at e';exact e'
  refine Hb O n1.st hn r1 (λfa first tk hfa hself=>?_) hm;rw[ρ (by rw[hp];rfl)];refine Qd (Qg ?_);have n1':=n1.ν (.wS n1.st tk);exact pU (s:={s1 with toks:=tk}) (Ez O hfa e) hc (sF hc Y env k mE fr w1 H1 {s1 with toks:=tk} pos (p.Ϭ n1') _ e2 _ _ λw2 a2 s2 n2 r2=>⟨n2.st.mw,hC.wp Y n2.st hfa (jD.append r2 (hself.Ν n2.le)) r e Q E λw3 a3 s3 n3 r3=>hq w3 a3 s3 ((n1'.ν n2).ν n3) r3⟩)
end
section
variable(prog:Qy)(w:Qn)(A:QC)(env:Env)(R:Result->Qf->Prop)
def cE:μ->Qf->Prop:=notedBy (model prog w) A env λe s'=>R (.error e) s'
variable(dz:Expr)(acc:Value)(X:Qf->Prop)
def cX (x:μ) (s:Qf):Prop:=Qi (model prog w) A (call (.ϭ "list.append") [acc,x]) (λ_=>X) (cE prog w A env R) s
def cT(ok:Ε)(s:Qf):Prop:=if ok=Qe then Qi (model prog w) A (Ξ.eval dz env) (cX prog w A env R acc X) (cE prog w A env R) s else X s
variable(target:Expr)(it:Value)(ifs:List Expr)
def cV(v:μ)(s:Qf):Prop:=Qi (model prog w) A (letOwnedTupleGo target it v) (λ_ s₁'=>Qi (model prog w) A (assign target env v) (λ_ s₂=>
     Qi (model prog w) A (forIn ifs Qe λc r=>if r=Qe then do let ok<-Ξ.isTrue c env (Ξ.eval c env);pure (ForInStep.yield ok) else pure (ForInStep.yield r)) (cT prog w A env R dz acc X) (cE prog w A env R) s₂)
     (cE prog w A env R) s₁') (cE prog w A env R) s
def cN(r:η μ)(s:Qf):Prop:=r.ι (R (.ok .Ϭ) s) λv=>cV prog w A env R dz acc X target it ifs v s
variable{prog w A env R dz acc target it ifs}
def uS(I:θ->Qf->Prop)
  (turn:∀n s,I n s->Qi (model prog w) A (pyNext it) (cN prog w A env R dz acc (λs=>∃m,m<n/\I m s) target it ifs) (cE prog w A env R) s)
  (n:θ) (h:I n s):codeAny (model prog w) A (.compLoop (.Tq dz [⟨target,iter,ifs,0⟩] scope pos) 0 it acc env) R s:=by
 refine codeAny_loop rfl I (λn s hI=>?_) n h;show Qi _ A ((compTurn (.Tq dz [⟨target,iter,ifs,0⟩] scope pos) 0 it acc env).onRaise (λx=>do noteFrame x env;theTreesLotGoes x)) _ _ s;refine wpAny_noted ?_;rw[compTurn_list];refine Qd (Qm (Qd (Qo (turn n s hI) (λr s₁ h₁=>?_) λ_ _ h'=>h')));cases r with
 |none=>exact Qg h₁
 |some v=>
  refine Qd (Qo h₁ (λ_ s₁' h₁'=>?_) λ_ _ h'=>h');refine Qd (Qo h₁' (λ_ s₂ h₂=>Qd (Qo h₂ (λok s₃ h₃=>?_) λ_ _ h'=>h')) λ_ _ h'=>h');cases ok with
  |false=>exact Qg ⟨rfl,h₃⟩
  |true=>exact Qd (Qd (Qo h₃ (λx s₄ h₄=>Qd (Qo h₄ (λ_ s₅ h₅=>Qg (Qg ⟨rfl,h₅⟩)) λ_ _ h'=>h')) λ_ _ h'=>h'))
end
def Dd(outer:ζ (be×Qr))(sc:Scope)(x:be):(vW outer sc).ω x=(sc.pt.ω x).ς λk=>if (k==.free && outer.ω x==Qa .Tk)=Qe then .Tk else k:=by
 delta vW
 generalize sc.pt=l
 induction l with
 |ϟ=>rfl
 |Κ p l ih=>
  rw[JY,ZE,ZE];refine rY (x==p.1) (λhxy=>?_) λhxy=>?_
  ·rw[hxy]
   rw[Β.mp hxy];rfl
  ·rw[hxy]
   exact ih
def nS(env:Env)(p:be×Qr)(cs:ζ (be×Qj)):ζ (be×Qj):=if p.2==.free then(match env.Tp.ω p.1 with|some a=>(p.1,a)::cs|none=>cs) else cs
def RT:∀(l:ζ (be×Qr))(acc:ζ (be×Qj)),(∀p∈l,p.2=.free->(env.Tp.ω p.1).Ψ=Qe)->
  (forIn l acc λx r=>match x with
   |(name,kind)=>if (kind==NameKind.free)=Qe then do let a<-cellOf env name;pure (ForInStep.yield ((name,a)::r)) else pure (ForInStep.yield r):Sem (ζ (be×Qj)))=pure (l.foldl (λcs p=>nS env p cs) acc):=by
 intro l
 induction l with
 |ϟ=>exact λacc _=>rfl
 |Κ p l ih=>
  intro acc h;rw[Xi,Yh]
  dsimp only
  by_cases hk:(p.2==NameKind.free)=Qe
  ·rw[ρ hk]
   refine xE (Zj.mp (h (p.1,p.2) (.mo _) (Β.mp hk))) λa ha=>?_;rw[(by unfold cellOf;rw[show env.Tp.ω p.1=Qa a from ha]:cellOf env p.1=pure a),Q7,Q7]
   dsimp only
   rw[(λacc=>ih acc λp hp=>h p (.lw _ hp))]
   congr 2
   delta nS;rw[ρ hk]
   dsimp only at ha ⊢
   rw[ha]
  ·rw[π hk,Q7]
   dsimp only
   rw[(λacc=>ih acc λp hp=>h p (.lw _ hp))]
   congr 2
   unfold nS;rw[π hk]
def Bg(hc:env.Tp.ω x=Qa c):∀(l:ζ (be×Qr))(acc:ζ (be×Qj)),((x,NameKind.free)∈l\/acc.ω x=Qa c)->(l.foldl (λcs p=>nS env p cs) acc).ω x=Qa c:=by
 intro l
 induction l with
 |ϟ=>exact λacc h=>h.ι (λh=>υ h JE) id
 |Κ p l ih=>
  intro acc h;simp only[Yh];refine ih _ ?_;have keep:acc.ω x=Qa c->(nS env p acc).ω x=Qa c:=λh=>by
   delta nS;split
   ·split
    ·rename_i a ha
     simp only[ZE];cases hxy:x==p.1 with
     |true=>rw[Β.mp hxy] at hc;exact ha.Μ.ν hc
     |false=>exact h
    ·exact h
   ·exact h
  rcases h with h|h
  ·rcases JO.mp h with e|h
   ·refine .u8 ?_
    rw[<-e];delta nS
    dsimp only
    rw[hc,ρ (show (NameKind.free==NameKind.free)=Qe from rfl)];simp only[ZE,ϫ]
   ·exact .nb h
  ·exact .u8 (keep h)
def Av(h:∀p∈scope.pt,p.2=.free->(env.Tp.ω p.1).Ψ=Qe):∃cl,closureFor scope env=pure cl/\∀x c,(x,NameKind.free)∈scope.pt->env.Tp.ω x=Qa c->cl.ω x=Qa c:=by
 refine⟨scope.pt.foldl (λcs p=>nS env p cs) [],?_,λx c hx hc=>Bg hc _ _ (.nb hx)⟩
 have:=RT (env:=env) scope.pt [] h
 delta closureFor;simp only[<-this];simp only[bind_pure]
def Nx(cx:CC)(sc:Scope)(xs:ζ be):Prop:=sc.Tc=.wE/\(∀p∈sc.pt,p.2≠.Tk)/\(∀p∈sc.pt,p.2=.TI->sc.pt.ω p.1=Qa .TI/\(p.1∈xs\/cx.jk.ω p.1=Qc))/\(∀p∈sc.pt,p.2=.free->sc.pt.ω p.1=Qa .free/\cx.sc.ω p.1=Qa .Tk)/\xs.ϥ/\∀x∈xs,sc.pt.ω x=Qa .TI
section
variable{cx:CC}{sc:Scope}{xs:List Str}(ψ:Nx cx sc xs)
def Nx.Tc:=@ψ.1
def Nx.qu:=@ψ.2.1
def Nx.kh:=@ψ.2.2.1
def Nx.free:=@ψ.2.2.2.1
def Nx.nd:=@ψ.2.2.2.2.1
def Nx.xs:=@ψ.2.2.2.2.2
end
def A9{cx:CC}(h:Vn cx sc xs=Qe):Nx cx sc xs:=by
 delta Vn at h;simp only[ZY,Zn,Β,Xk,bne_iff_ne,ne_eq,Ϫ,Yk,Kn] at h;obtain⟨⟨⟨h1,h2⟩,h3⟩,h4⟩:=h;exact⟨h1,λp hp=>(h2 p hp).1.1,λp hp hl=>(h2 p hp).1.2.ι (υ hl) id,λp hp hf=>(h2 p hp).2.ι (υ hf) id,h4,h3⟩
def UA(cx:CC):Prop:=∀x i,cx.jk.ω x=Qa i->i<cx.Ϭ
def Ag[BEq α](a:α)(r:ζ (α×β)):∀(l:ζ (α×β)),(l++r).ω a=(l.ω a).or (r.ω a):=by
 intro l
 induction l with
 |ϟ=>rfl
 |Κ p l ih=>
  rw[Yx,ZE,ZE];cases a==p.1 with
  |true=>rfl
  |false=>exact ih
def oU(x:be):∀(l:ζ be)(n:θ),(∀i,(l.zip (J5 n l.ε)).ω x=Qa i->∃j,i=n+j/\l[j]?=Qa x)/\(x∉l->(l.zip (J5 n l.ε)).ω x=Qc)/\(x∈l->((l.zip (J5 n l.ε)).ω x).Ψ=Qe):=by
 intro l
 induction l with
 |ϟ=>exact λn=>⟨λi h=>af h,λ_=>rfl,λh=>υ h JE⟩
 |Κ y l ih=>
  intro n;simp only[ZA,qa0,Yg,ZE];cases hxy:x==y with
  |true=>exact⟨λi h=>⟨0,(Qa.dL h).Μ,by rw[Β.mp hxy];rfl⟩,λh=>υ (Β.mp hxy▸ζ.mem_cons_self) h,λ_=>rfl⟩
  |false=>
   exact⟨λi h=>((ih (n+1)).1 i h).ι λj zq24=>⟨j+1,zq24.1.ν (by rw[J6,Kf 1]),zq24.2⟩,λh=>(ih (n+1)).2.1 λh'=>h (.lw _ h'),λh=>(ih (n+1)).2.2 ((JO.mp h).resolve_left (wn.mp hxy))⟩
def sS{cx:CC}(h:(cn cx sc xs).jk.ω x=Qa i):(∃j,i=cx.Ϭ+j/\xs[j]?=Qa x)\/(x∉xs/\cx.jk.ω x=Qa i):=by
 have h:(xs.zip (J5 cx.Ϭ xs.ε)++cx.jk).ω x=Qa i:=h;rw[Ag] at h;by_cases hx:x∈xs
 ·refine(Zj.mp ((oU x xs cx.Ϭ).2.2 hx)).ι λj zq22=>?_
  rw[zq22] at h;refine lN h ?_;exact .nb ((oU x xs cx.Ϭ).1 _ zq22)
 ·rw[(oU x xs cx.Ϭ).2.1 hx] at h
  exact .u8 ⟨hx,h⟩
def UA.cn{cx:CC}(h:UA cx)(sc:Scope)(xs:ζ be):UA (cn cx sc xs):=by
 intro x i hi;rcases sS hi with ⟨j,rfl,hj⟩| ⟨_,hi⟩
 ·exact Zw (Jx.mp hj).1 _
 ·exact Jw (h x i hi) (Jq _ _)
def zU{cx:CC}(h:nG cx x=Qa i):(cx.sc.ω x=Qa .TI\/cx.sc.ω x=Qa .Tk)/\cx.jk.ω x=Qa i:=by
 exact⟨(K8.mp (gs h).1).imp Β.mp Β.mp,(gs h).2⟩
def CJ{fr:Θ}{v u:ab}(h:(fr.ϩ i (Qa v))[j]?=Qa (Qa u)):(i=j/\u=v)\/(i≠j/\fr[j]?=Qa (Qa u)):=by
 by_cases hij:i=j
 ·subst hij
  rw[ζ.getElem?_set] at h;simp only[if_true] at h
  split at h
  ·cases h;exact .nb ⟨rfl,rfl⟩
  ·cases h
 ·rw[JZ hij] at h
  exact .u8 ⟨hij,h⟩
def Ww(i:θ)(u:ab):∀(vs:ζ ab)(n:θ)(fr:Θ),(uI (J5 n vs.ε) vs fr)[i]?=Qa (Qa u)->(∃j,i=n+j/\vs[j]?=Qa u)\/((i<n\/n+vs.ε<=i)/\fr[i]?=Qa (Qa u)):=by
 intro vs
 induction vs with
 |ϟ=>exact λn fr h=>.u8 ⟨θ.lt_or_ge i n,h⟩
 |Κ v vs ih=>
  intro n fr h;rw[ZA,qa0] at h;rcases ih (n+1) (fr.ϩ n (Qa v)) h with ⟨j,h1,h2⟩| ⟨h1,h2⟩
  ·exact .nb ⟨j+1,by lia,h2⟩
  ·rcases CJ h2 with ⟨e,rfl⟩| ⟨hne,h3⟩
   ·exact .nb ⟨0,e.Μ,rfl⟩
   ·exact .u8 ⟨by rw[ZA];lia,h3⟩
section
variable{cx:CC}{fr:Frame}
def GB{I:Qj}(hI:s.Ω.ut I=Qa io)(R:pC C w io i z){Q:μ->Qf->Prop}(h:Q (.ο I) s):Qi C.M A (pyIter (.ο I)) Q E s:=by
 cases z with
 |fs _=>obtain⟨la,_,ic⟩:=R;exact QM ⟨io,hI,ic.1,ic.2⟩ h
 |ls _=>obtain⟨la,_,ic⟩:=R;exact QM ⟨io,hI,ic.1,ic.2⟩ h
 |tp _=>obtain⟨la,_,ic⟩:=R;exact wpAny_pyIter_tupleiter ⟨io,hI,ic.1,ic.2⟩ h
 |sq _=>
  obtain⟨T,t,hT,ic⟩:=R.2;rcases hT with rfl|rfl
  ·exact wpAny_pyIter_striter_ascii ⟨io,hI,ic.1,ic.2⟩ h
  ·exact wpAny_pyIter_striter_wide ⟨io,hI,ic.1,ic.2⟩ h
 |dk _ _ _=>obtain⟨la,_,ic,id⟩:=R;exact QV ⟨io,hI,ic,id⟩ h
 |rg _=>obtain⟨_,_,_,rfl⟩:=R;exact wpAny_pyIter_rangeiter hI h
abbrev LP:ζ Tm:= ["enumerate","zip","dict_itemiterator","dict_reverseitemiterator","odict_iterator","itertools.zip_longest","itertools.pairwise"]
def pC.cls(R:pC C w io i z):∃T vs,io.cls=.w8 T/\io.Te=.lf vs/\LP.v6 T=false:=by
 cases z with
 |fs _=>obtain⟨la,_,ic⟩:=R;exact⟨_,_,ic.1,ic.2,by decide⟩
 |ls _=>obtain⟨la,_,ic⟩:=R;exact⟨_,_,ic.1,ic.2,by decide⟩
 |tp _=>obtain⟨la,_,ic⟩:=R;exact⟨_,_,ic.1,ic.2,by decide⟩
 |sq _=>obtain⟨_,T,t,hT,ic⟩:=R;rcases hT with rfl|rfl<;>exact⟨_,_,ic.1,ic.2,by decide⟩
 |dk _ _ _=>obtain⟨la,_,ic,id⟩:=R;exact⟨_,_,ic,id,by decide⟩
 |rg _=>obtain⟨_,_,_,rfl⟩:=R;exact⟨_,_,rfl,rfl,by decide⟩
def WL{I:Qj}(hI:s.Ω.ut I=Qa io){tg:ϛ}(R:∃T vs,io.cls=.w8 T/\io.Te=.lf vs/\LP.v6 T=Qb)(h:Q () s):Qi C.M A (letOwnedTupleGo tg (.ο I) v) Q E s:=by
 refine R.ι λT zq19=>zq19.ι λvs zq20=>?_;have key:Qi C.M A (do
  let (.ο r,.ο a):=((qaY I),v)|return
  let o<-load r
  match o.cls,o.Te with
  | .w8 n,.lf vs=>
   if ["enumerate","zip","dict_itemiterator","dict_reverseitemiterator","odict_iterator","itertools.zip_longest","itertools.pairwise"].v6 n && vs[0]?==Qa (rawInt a) then
    rule "for.unpacks-the-owned-tuple"
    updateField r 0 .Δ
  |_,_=>pure ()) Q E s:=by
  cases v with
  |ref b=>
   refine Qd (Jc hI ?_);rw[zq20.1,zq20.2.1]
   dsimp only
   rw[show (["enumerate","zip","dict_itemiterator","dict_reverseitemiterator","odict_iterator","itertools.zip_longest","itertools.pairwise"].v6 T)=Qb from zq20.2.2];exact Qg h
  |_=>exact Qg h
 cases tg<;>first|exact Qg h|exact key
abbrev Wq(env:Env)(ifs:ζ ϛ)(b:Ε):Sem Ε:=forIn ifs b λc r=>if r=Qe then do let ok<-Ξ.isTrue c env (Ξ.eval c env);pure (ForInStep.yield ok) else pure (ForInStep.yield r)
def LR:∀(ifs:ζ ϛ),Wq env ifs Qb=pure false:=by
 intro ifs
 induction ifs with
 |ϟ=>rfl
 |Κ c r ih=>
  delta Wq;rw[Xi];simp only[YJ,if_false,Q7];exact ih
def Fi{irs:ζ Ex}(h:mj C d cx ifs irs):∀(Y:kD C d 2)(env:Env)(k:Kp)(mE:be->η μ)(fr:Θ)(w:Wd)(H:MH)(s:Qf),Pl Y cx env k mE fr w H s->bq Y k aP (Wq env ifs Qe) w s (HU (C.cx d) irs fr H):=by
 induction h with
 |ϟ=>exact λY env k mE fr w H s p=>.pure' p.st rfl
 |Κ he _ ih=>
  intro Y env k mE fr w H s p r;refine jH λb H1 e1 e Q E hq=>?_;delta Wq;rw[Xi];simp only[if_true];refine Qd (Qd (he.ts Y env k mE fr w H s p _ e1 _ _ λw1 a1 s1 n1 r1=>Qg ?_));rw[show a1=b from r1];cases b with
  |true=>exact ih Y env k mE fr w1 H1 s1 (p.Ϭ n1) _ e _ _ λw2 a2 s2 n2 r2=>hq w2 a2 s2 (n1.ν n2) r2
  |false=>
   obtain rfl:=Qa.dL e;show Qi C.M Y.A (Wq env _ Qb) Q E s1;rw[LR];exact Qg (hq w1 _ s1 n1 rfl)
def V6(hk:env.TN.Tc=.wE)(hs:env.TN.pt=cx.sc):(relabel sc env).pt=vW cx.sc sc:=by
 delta relabel vW
 dsimp only
 apply ZV
 intro p _;rw[hk,<-hs];delta Env.Fa;obtain⟨n,k⟩:=p
 dsimp only
 rw[show (ScopeKind.wE==ScopeKind.wE)=Qe from rfl,Yi]
 split<;>rfl
def qY(O:Nx cx sc xs):((vW cx.sc sc).ω x=Qa .TI->sc.pt.ω x=Qa .TI)/\((vW cx.sc sc).ω x=Qa .Tk->sc.pt.ω x=Qa .free/\cx.sc.ω x=Qa .Tk):=by
 rw[Dd];refine⟨kE λk hk e=>?_,kE λk hk e=>?_⟩
 ·split at e
  ·cases e
  ·rw[hk,e]
 ·split at e
  ·rename_i hc
   rw[ZY,Β,Β] at hc;rw[hk,hc.1];exact⟨rfl,hc.2⟩
  ·exact υ e (O.qu _ (j9 hk))
def Pl.yo(p:Pl Y cx env k mE fr w H s)(O:Nx cx sc xs)(hn:UA cx)(hcl:∀x c,(x,NameKind.free)∈sc.pt->env.Tp.ω x=Qa c->cl.ω x=Qa c){k':Kp}(hk:k'.ce=k.ce)(hm:(N,oN)∈k'.ex)(hns:oq oN mN)
  {w':Wd} (le:w.le w') {H':MH}{s':Qf} (S':St Y k' w' H' s') {mvs:ζ ab}{vs:ζ μ} (r:jD C w' mvs vs) (hl:mvs.ε=xs.ε) (hv:∀(j:θ) x,xs[j]?=Qa x->mN x=vs[j]?):Pl Y (cn cx sc xs) (compEnvC sc cl N env) k' mN (uI (J5 cx.Ϭ xs.ε) mvs fr) w' H' s':=by
 refine⟨⟨O.Tc,p.b.gl,p.b.bl,V6 p.b.Tc p.b.sc,λx hx=>?_,.u8 ⟨oN,hm,hns⟩⟩,λx i v hx hvv=>?_,S'⟩
 ·exact(p.b.Tp x ((qY O).2 hx).2).ι λc zq15=>zq15.ι λo zq16=>zq16.ι λv₀ zq17=>⟨c,o,v₀,hcl x c (j9 ((qY O).2 hx).1) zq17.1,hk▸zq17.2.1,zq17.2.2⟩
 ·obtain⟨hkd,hi⟩:=zU hx
  rw[<-hl] at hvv;rcases hkd with hkd|hkd
  ·have hloc:=(qY O).1 hkd
   rcases sS hi with ⟨j,rfl,hj⟩| ⟨hne,hi'⟩
   ·have hjl:=(Jx.mp hj).1
    rcases Ww _ _ _ _ _ hvv with ⟨j',e,hj'⟩| ⟨hlt,_⟩
    ·cases Xn e
     exact(r.xL hj').ι λrv zq13=>.kh rv hkd ((hv _ _ hj).ν zq13.1) zq13.2
    ·lia
   ·rcases (O.kh _ (j9 hloc) rfl).2 with h|h
    ·exact υ h hne
    ·rw[h] at hi';cases hi'
  ·have zq12:=(qY O).2 hkd
   rcases sS hi with ⟨j,rfl,hj⟩| ⟨_,hi'⟩
   ·have:=O.xs x (Jr hj)
    rw[zq12.1] at this;cases this
   ·have hlt:=hn x i hi'
    rcases Ww _ _ _ _ _ hvv with ⟨j',e,hj'⟩| ⟨_,hv'⟩
    ·lia
    ·have hvar:nG cx x=Qa i:=by unfold nG;rw[zq12.2];exact hi'
     cases (p.f x i v hvar hv').Ν le with
     |kh _ h3 _ _=>rw[zq12.2] at h3;cases h3
     |cell rv c o _ e1 e2 e3 e4=>exact .Tk rv c o hkd (hcl x c (j9 zq12.1) e1) (hk▸e2) e3 e4
abbrev G2(env:Env)(x:be)(f:μ->Sem Unit):Prop:=∀(M:Jh)(A:QC)(v:μ)(Q:Unit->Qf->Prop)(E:μ->Qf->Prop)(s:Qf),Qi M A (storeName env x v) Q E s->Qi M A (f v) Q E s
def nC{es:ζ ϛ}(h:lH (λe x=>qS e=Qa x) es xs):lH (G2 env) xs ((assignEach es env).ς (·.2))/\(assignEach es env).ε=xs.ε/\(assignEach es env).findIdx? (·.1)=none:=by
 induction h with
 |ϟ=>exact⟨.ϟ,rfl,rfl⟩
 | @Κ e x es xs h _ ih=>
  obtain⟨p,hp,rfl⟩:=ms h;cases qH hp;refine⟨.Κ (λ_ _ _ _ _ _ z=>Ξ.TL z) ih.1,χ (· +1) ih.2.1,?_⟩;show qbk _ ((Qb,assign (.Name p.1 p.2) env)::assignEach es env)=Qc;rw[qaO];simp only[YJ,if_false,ih.2.2,qam]
def SF(h:wF t=Qa q):(∃x p,t=.Name x p/\q=([x],Qb))\/∃es n p,t=.Tuple es n p/\q.2=Qe/\lH (λe x=>qS e=Qa x) es q.1:=by
 revert h
 refine kQ (kE λp hp e=>?_) (jR λp hp=>kE λxs hx e=>?_)
 ·exact .nb ⟨p.1,p.2,qH hp,e.Μ⟩
 ·subst e
  exact .u8 ⟨p.1,p.2.1,p.2.2,Wa hp,rfl,qU hx⟩
inductive zaB(fr fr1:Θ)(tg:ζ θ)(many:Ε)(v:ab):Prop
 |mk(mvs:ζ ab)(l:mvs.ε=tg.ε)(e:fr1=uI tg mvs fr)(t:many=Qe->v=.ay mvs)(f:many=Qb->mvs=[v]):zaB fr fr1 tg many v
def EO{v:ab}{fr1:Θ}(h:mQ fr tg many v=Qa fr1):zaB fr fr1 tg many v:=by
 cases many with
 |true=>
  refine xEA (bs (o:=v.tup?) h) λvs h1 h=>?_;exact⟨vs,Β.mp (gs h).1,(Qa.dL (gs h).2).Μ,λ_=>tup?_s h1,λq=>JJ q⟩
 |false=>
  exact⟨[v],(Β.mp (gs (b:=tg.ε==1) h).1).Μ,(Qa.dL (gs (b:=tg.ε==1) h).2).Μ,λq=>JJ q,λ_=>rfl⟩
def y0(hk:env.TN.Tc=.wE)(hx:env.Fa x=Qa .TI)(S:St Y (k.Tb (env.locals,oN)) w H s)(hns:oq oN mN) 
  (h:∀oN' mN' h' tk,cb C Y.h₀ Y.L (k.Tb (env.locals,oN')) w H h'->oq oN' mN'->mN' x=Qa rv->(∀y,y≠x->mN' y=mN y)->Q () {s with heap:=h',toks:=tk}):Qi C.M Y.A (storeName env x rv) Q E s:=by
 refine Zt hns λes zq6=>zq6.ι λep zq7=>?_;refine QP (m:=mN) hx ⟨oN,es,ep,S.fk.1,zq7⟩ (λh' hn hs=>?_) (by rw[hk];rfl);exact Zt hn λo' zq3=>zq3.ι λes' zq4=>zq4.ι λep' zq5=>h o' _ h' _ (S.jb hs zq5.1) ⟨es',ep',zq5.2⟩ (ρ rfl) (λy hy=>π hy)
def Ou(hk:env.TN.Tc=.wE)(hb:lH (G2 env) xs fs):(∀x∈xs,env.Fa x=Qa .TI)->xs.ϥ->∀{vs:ζ μ}{oN:wT}{mN:be->η μ}{s:Qf}{Q:Unit->Qf->Prop}{E:μ->Qf->Prop},
  vs.ε=xs.ε->St Y (k.Tb (env.locals,oN)) w H s->oq oN mN->
  (∀oN' mN' h' tk,cb C Y.h₀ Y.L (k.Tb (env.locals,oN')) w H h'->oq oN' mN'->(∀(j:θ) x,xs[j]?=Qa x->mN' x=vs[j]?)->(∀y,y∉xs->mN' y=mN y)->Q () {s with heap:=h',toks:=tk})->Qi C.M Y.A (assignInOrder fs vs) Q E s:=by
 induction hb with
 |ϟ=>
  intro _ _ vs oN mN s Q E hl S hns h;cases ZZ.mp hl;exact Qg (h oN mN s.Ω s.wS S hns (λj x hj=>af hj) (λ_ _=>rfl))
 | @Κ x f xs fs hf _ ih=>
  intro hx hd vs oN mN s Q E hl S hns h;cases vs with
  |ϟ=>cases hl
  |Κ v vs=>
   show Qi C.M Y.A (do holding _ _;assignInOrder _ _) Q E s;refine Qd (Qk (hf _ _ _ _ _ _ (y0 hk (hx x (.mo _)) S hns λoN1 mN1 h1 tk S1 hns1 e1 e2=>?_)));refine ih (λy hy=>hx y (.lw _ hy)) (JK.mp hd).2 (s:={s with heap:=h1,toks:=tk}) (ZX.dL hl) S1 hns1 λoN2 mN2 h2 tk2 S2 hns2 k1 k2=>?_;refine h oN2 mN2 h2 tk2 S2 hns2 (λj y hj=>?_) (λy hy=>(k2 y λq=>hy (.lw _ q)).ν (e2 y λq=>hy (q▸ .mo _)));cases j with
   |zero=>refine lN hj ?_;rw[k2 _ (JK.mp hd).1,e1];rfl
   |succ j=>exact k1 j y hj
def Sb(hk:env.TN.Tc=.wE)(ht:wF t=Qa q)(hx:∀x∈q.1,env.Fa x=Qa .TI)(hd:q.1.ϥ){v:ab}(h1:q.2=Qe->v=.ay mvs)(h2:q.2=Qb->mvs=[v])(hl:mvs.ε=q.1.ε)(hv:jG C w v rv)
  {oN:wT}{mN:be->η μ} (S:St Y (k.Tb (env.locals,oN)) w H s) (hns:oq oN mN) {Q:Unit->Qf->Prop}{E:μ->Qf->Prop}
  (h:∀vs oN' mN' h' tk,jD C w mvs vs->cb C Y.h₀ Y.L (k.Tb (env.locals,oN')) w H h'->oq oN' mN'->(∀(j:θ) x,q.1[j]?=Qa x->mN' x=vs[j]?)->Q () {s with heap:=h',toks:=tk}):Qi C.M Y.A (assign t env rv) Q E s:=by
 rcases SF ht with ⟨x,p,rfl,rfl⟩| ⟨es,n,p,rfl,hq,hes⟩
 ·cases h2 rfl
  refine Ξ.TL (y0 hk (hx x (.mo _)) S hns λoN' mN' h' tk S' hns' e1 _=>h [rv] oN' mN' h' tk (.da hv) S' hns' λj y hj=>?_);cases j with
  |zero=>refine lN hj ?_;exact e1
  |succ j=>exact af hj
 ·cases h1 hq
  have zq2:=nC (env:=env) hes;obtain⟨tt,o,n',ws,rfl,ho,hc,hdd,rr,_⟩:=S.ay hv;exact QZ (items:=ws.τ) Y.tz ⟨o,ho,hc,n',hdd⟩ (by rw[zq2.2.1,Zz,<-rr.ε,hl]) zq2.2.2 λh' he=>Ou hk zq2.1 hx hd (s:={s with heap:=h'}) (by rw[<-rr.ε,hl]) (S.grown he) hns λoN' mN' h'' tk S2 hns2 k1 _=>h ws oN' mN' h'' tk rr S2 hns2 k1
end
def c9(C:bf)(d:θ)(cx:CC)(g:Comprehension)(sc:Scope)(dz:ϛ)(q:ζ be×Ε)(ie ii:Ex)(iifs:ζ Ex):Prop:=g.is_async=0/\wF g.target=Qa q/\Nx cx sc q.1/\Sd C d cx g.iter ii/\Sd C d (cn cx sc q.1) dz ie/\mj C d (cn cx sc q.1) g.ifs iifs
section
variable{C:bf}{d:Nat}{cx:CC}{g:Comprehension}{sc:Scope}{dz:Expr}{q:List Str×Bool}{ie ii:Ex}{iifs:List Ex}(ψ:c9 C d cx g sc dz q ie ii iifs)
def c9.as:=@ψ.1
def c9.t:=@ψ.2.1
def c9.o:=@ψ.2.2.1
def c9.it:=@ψ.2.2.2.1
def c9.dz:=@ψ.2.2.2.2.1
def c9.ifs:=@ψ.2.2.2.2.2
end
section
variable{cx:CC}{fr:Frame}
def cF(cx:Cx)(fr:Θ)(tg:ζ θ)(many:Ε)(ie:Ex)(iifs:ζ Ex)(z:It)(D:θ):θ->θ->MH->η (Unit×MH):=
 compLoop (λi h=>lI h i z) (λv h=>(mQ fr tg many v).Η λfr'=>cf (HU cx iifs fr' h) λb h'=>Qa (bif b then Qa fr' else Qc,h')) (λfr' h=>eval cx ie fr' h) D
def zdo(C:bf){d e:θ}(Y:kD C d e)(k:Kp)(w0:Wd)(s0:Qf)(I N:Qj)(z:It)(F:θ->MH->η (Unit×MH))(H2:MH)(s:Qf)(w:Wd)(H:MH)(j:θ)(io oN:wT)(mN:be->η μ):Prop:=w0.le w/\St Y ((k.Tb (N,oN)).Tb (I,io)) w H s/\oq oN mN/\pC C w io j z/\qI s0 s/\F j H=Qa ((),H2)
section
variable{C:bf}{d e:Nat}{Y:kD C d e}{k:Kp}{w0:Wd}{s0:Qf}{I N:Qj}{z:It}{F:Nat->MH->Option (Unit×MH)}{H2:MH}{s:Qf}{w:Wd}{H:MH}{j:Nat}{io oN:Obj}{mN:Str->Option Value}(ψ:zdo C Y k w0 s0 I N z F H2 s w H j io oN mN)
def zdo.le:=@ψ.1
def zdo.st:=@ψ.2.1
def zdo.ns:=@ψ.2.2.1
def zdo.it:=@ψ.2.2.2.1
def zdo.sm:=@ψ.2.2.2.2.1
def zdo.lp:=@ψ.2.2.2.2.2
end
def zj6(C:bf){d e:θ}(Y:kD C d e)(k:Kp)(w0:Wd)(s0:Qf)(I N:Qj)(z:It)(F:θ->MH->η (Unit×MH))(H2:MH)(s:Qf):Prop:=∃w H j io oN mN,zdo C Y k w0 s0 I N z F H2 s w H j io oN mN
def Bc{Y:kD C d 2}{ie:Ex}{iifs:ζ Ex}{F:θ->θ->MH->η (Unit×MH)}{w0 w5:Wd}{H2 H5:MH}{I:Qj} 
  (hF:F=cF (C.cx d) fr (J5 cx.Ϭ q.1.ε) q.2 ie iifs z D0) (Ot:wF t=Qa q) (Os:Nx cx sc q.1) (Oi:mj C d (cn cx sc q.1) ifs iifs) (Oe:Sd C d (cn cx sc q.1) dz ie)
  (hP:∀{oN:wT}{mN:be->η μ}{io:wT}{w':Wd}{H':MH}{s':Qf}{mvs:ζ ab}{vs:ζ μ},oq oN mN->w0.le w'->St Y ((k.Tb (N,oN)).Tb (I,io)) w' H' s'->jD C w' mvs vs->mvs.ε=q.1.ε->(∀(j:θ) x,q.1[j]?=Qa x->mN x=vs[j]?)->Pl Y (cn cx sc q.1) (compEnvC sc cl N env) ((k.Tb (N,oN)).Tb (I,io)) mN (uI (J5 cx.Ϭ q.1.ε) mvs fr) w' H' s')
  (hD:w0.σ[D0]?=Qa D) (c:zdo C Y k w0 s0 I N z (F (n+1)) H2 s' w5 H5 j io oN mN)
  (hX:∀{s w H j io oN mN},zdo C Y k w0 s0 I N z (F n) H2 s w H j io oN mN->X s) (hE:∀{w oN mN s},w0.le w->St Y (k.Tb (N,oN)) w H2 s->oq oN mN->qI s0 s->R (.ok .Ϭ) s):
  Qi C.M Y.A (pyNext (.ο I)) (cN C.prog C.w Y.A (compEnvC sc cl N env) R dz (.ο D) X t (.ο I) ifs) (cE C.prog C.w Y.A (compEnvC sc cl N env) R) s':=by
 subst hF;have lp5:=c.lp
 revert lp5
 refine jR λov hov lp5=>L8 c.st c.it hov ⟨λu rv io6 h' tk hu S6 R6 hr=>?_,λh' hu S6=>?_⟩
 ·subst hu
  refine WL (s:={s' with heap:=h',toks:=tk}) S6.fk.1 R6.cls ?_
  revert lp5
  refine jH λofr H7 htest lp5=>?_;refine xEA (bs htest) λfr2 hbind htest=>?_;obtain⟨mvs,b1,b2,b3,b4⟩:=EO hbind;rw[KY] at b1;refine Sb (s:={s' with heap:=h',toks:=tk}) (env:=compEnvC sc cl N env) (k:=k.Tb (I,io6)) Os.Tc Ot (λx hx=>lookup_relabel_local (Os.xs x hx)) Os.nd b3 b4 b1 hr (cb.kz S6) c.ns λvs oN7 mN7 h7 tk7 rr7 S7 hns7 hm7=>?_;have P7:=hP hns7 c.le (cb.kz S7:St Y ((k.Tb (N,oN7)).Tb (I,io6)) w5 H5 {s' with heap:=h7,toks:=tk7}) rr7 b1 hm7;rw[<-b2] at P7
  revert htest
  refine jH λb H8 htt e8=>?_;cases e8;refine Fi Oi Y _ _ _ _ _ _ _ P7 _ htt _ _ λw8 ok s8 n8 r8=>?_;cases (r8);have le8:=c.le.ν n8.le;have sm8:qI s0 s8:=qI.ν c.sm ⟨n8.cj.1,n8.cj.2⟩;cases b with
  |false=>exact hX ⟨le8,n8.st,hns7,R6.Ν n8.le,sm8,lp5⟩
  |true=>
   revert lp5
   refine jH λx9 H9 ev9=>jR λacc hacc=>mB λhlen lp9=>?_;refine Oe.es Y _ _ _ _ _ _ _ (P7.Ϭ n8) _ ev9 _ _ λw9 xv s9 n9 r9=>?_;exact Wv n9.st ((le8.ν n9.le).xL hD) hacc r9 (Zl.mp hlen) _ rfl _ _ λw10 _ s10 sh _=>hX ⟨(le8.ν n9.le).ν sh.le,sh.st,hns7,R6.Ν ((n8.le.ν n9.le).ν sh.le),(sm8.ν n9.cj).ν sh.cj,lp9⟩
 ·subst hu
  cases lp5;exact hE c.le S6 c.ns ⟨c.sm.1,c.sm.2⟩
theorem Bd{Y:kD C d 2}{it:ϛ}{ie ii:Ex}{iifs:ζ Ex}{m:θ}{w0:Wd}{H2 H4:MH}{I:Qj}(O:c9 C d cx ⟨t,it,ifs,0⟩ sc dz q ie ii iifs)(hn:UA cx)
  (hcl:∀x c,(x,NameKind.free)∈sc.pt->env.Tp.ω x=Qa c->cl.ω x=Qa c) (p:Pl Y cx env k mE fr w H s) (le:w.le w0) (hD:w0.σ[D0]?=Qa D) (S4:St Y ((k.Tb (N,oN)).Tb (I,io)) w0 H4 s4) (hns:oq oN mN) (R2:pC C w0 io 0 z)
  (lp:cF (C.cx d) fr (J5 cx.Ϭ q.1.ε) q.2 ie iifs z D0 m 0 H4=Qa ((),H2)) (hE:∀{w oN mN s},w0.le w->St Y (k.Tb (N,oN)) w H2 s->oq oN mN->qI s4 s->R (.ok .Ϭ) s):
  codeAny C.M Y.A (.compLoop (.Tq dz [⟨t,it,ifs,0⟩] sc pos) 0 (.ο I) (.ο D) (compEnvC sc cl N env)) R s4:=
 uS (λn s'=>zj6 C Y k w0 s4 I N z (cF (C.cx d) fr (J5 cx.Ϭ q.1.ε) q.2 ie iifs z D0 n) H2 s') (λn s' c=>by
  refine c.ι λ_ c=>c.ι λ_ c=>c.ι λ_ c=>c.ι λ_ c=>c.ι λ_ c=>c.ι λ_ c=>?_;cases n with
  |zero=>exact af c.lp
  |succ n=>exact Bc rfl O.t O.o O.ifs O.dz (λhns l S r hl hv=>p.yo O.o hn hcl (k':=(k.Tb (N,_)).Tb (I,_)) rfl (.lw _ (.mo _)) hns (le.ν l) S r hl hv) hD c (λc=>⟨n,JT n,_,_,_,_,_,_,c⟩) hE) m ⟨_,_,0,io,oN,_,.TD _,S4,hns,R2,⟨rfl,rfl⟩,lp⟩
def EG{Y:kD C d 2}{g:Comprehension}{ie ii:Ex}{iifs:ζ Ex}(O:c9 C d cx g sc dz q ie ii iifs)(hn:UA cx)(p:Pl Y cx env k mE fr w H s) 
  (ev:eval (C.cx d) (.comp ie (J5 cx.Ϭ q.1.ε) q.2 ii iifs) fr H=Qa r) {use:η (μ->Sem Unit)}{Q:μ->Qf->Prop}{E:μ->Qf->Prop}
  (hpost:∀w' D N oN mN s',w.le w'->St Y (k.Tb (N,oN)) w' r.2 s'->oq oN mN->jG C w' r.1 (.ο D)->qI s s'->compPost C.M Y.A E use Q (.ο D) N (.ok .Ϭ) s'):
  Qi C.M Y.A (comprehension (.Tq dz [g] sc pos) sc env ps (newList []) Qb (Ξ.eval g.iter env) use) Q E s:=by
 have as:=O.as;have Os:=O.o;obtain⟨t,it,ifs,a⟩:=g;subst (as:a=0)
 revert ev
 refine jH λv H1 ev1=>jR λz hz=>jH λ_ H2 lp e=>?_;obtain rfl:=Qa.dL e;obtain⟨cl,hclos,hcl⟩:=Av (scope:=sc) (env:=env) λx hx hf=>by
  refine(p.b.Tp x.1 (Os.free x hx hf).2).ι λc zq11=>zq11.ι λ_ zq12=>zq12.ι λ_ zq13=>?_;rw[zq13.1];rfl
 refine wpAny_comprehension_free rfl (O.it.sy.yr env) hclos Os.Tc (λx hx hl=>(Os.kh x hx hl).1) (O.it.es Y env k mE fr w H s p _ ev1 _ _ λw1 a1 s1 n1 r1=>Ha n1.st r1 (λI io h2 S2 R2=>?_) hz);obtain⟨all,hnn,add,_,_⟩:=S2.fc;refine Qv (wpAny_newFunctionEnv Os.qu (by intro y hy;simp at hy) (λh₁ hns₁ hsb₁=>?_) Os.Tc);have le2:w1.le ⟨w1.σ++[h2.wv.pc],w1.tp⟩:=⟨Zh _ _,λ_ x=>x⟩;have S3:=add _ (.ξ []) [(h2.wv.pc,listOf ([]:ζ μ).τ 0)] _ ⟨[],0,rfl,.ϟ,JF _⟩ (S2.fr.Tj _) (hnn.Tj S2.fr _) (qR _) (Ps.fresh hnn λp hp=>JI.mp hp▸Jv _) (S2.pu (Jv _));have hD:(w1.σ++[h2.wv.pc])[H1.ε]?=Qa h2.wv.pc:=by rw[<-S2.am];exact ZJ
 refine Zt hns₁ λoN zq8=>zq8.ι λesN zq9=>zq9.ι λepN zq10=>?_;have S4:=(S3.jd {cls:= .w8 "dict",data:= .Χ #[]} rfl).jb hsb₁ zq10.1;have hns:oq oN (λx=>qa3 x ([]:ζ (be×μ)).Ts):=⟨esN,epN,zq10.2⟩;have loop:=λ(s4:Qf) (hs4:s4.Ω=h₁) (sm4:qI s s4)=>Bd (pos:=pos) (s4:=s4) (R:=compPost C.M Y.A E use Q _ _) O hn hcl (p.Ϭ n1) le2 hD (by rw[St,hs4];exact S4.kz) hns (R2.Ν le2) lp λle S hns sm=>hpost _ _ _ _ _ _ ((n1.le.ν le2).ν le) S hns ⟨_,rfl,le.xL hD⟩ (sm4.ν sm);exact codeAny_compStart_list (loop _ rfl ⟨n1.cj.1,n1.cj.2⟩) (GB (s:={s1 with heap:=h₁,toks:=_}) (cb.fk (cb.kz S4)).1 R2 (loop _ rfl ⟨n1.cj.1,n1.cj.2⟩))
theorem kZ{e:ϛ}(h1:∀rest env,starEach (e::rest) env=(Qb,Ξ.eval e env)::starEach rest env)(h2:∀o i,subscripted e Qb o i=operate [o,i] (getItem o i))(h3:∀op,behindInMarks op e=Qb)(h4:∀env x,foldedSetIterable e env x=pure x)(h5:∀t n env,swapsWith e t n env=pure Qb):Sy e:=⟨h1,h2,h3,h4,λ_=>h5⟩
theorem Sd.of{e:ϛ}{ir:Ex}(h:mI C d cx e ir)(he:∀(env:Env)(whole:Sem μ),Ξ.isTrue e env whole=(do let v<-whole;standAt e.pos;holding [v] (Ξ.truthy v)))(sy:Sy e):Sd C d cx e ir:=⟨h,DI h he,sy⟩
def Wb(O:mZ C gl)(hC:oL C d):∀(n:θ)(cx:CC),NE C cx.gl->UA cx->∀(e:ϛ)(ir:Ex),lA n cx e=Qa ir->Sd C d cx e ir:=by
 intro n
 induction n with
 |zero=>exact λcx _ _ e ir h=>af h
 |succ n ih'=>
  intro cx hg hcc e ir;have ih:=ih' cx hg hcc;have ihs:∀{es irs},nY (lA n cx) es=Qa irs->mj C d cx es irs:=λh=>(qU h).Ν ih;cases e with
  |Constant c m pos=>exact kE λv hv e=>e▸ .of (Fp hv) (λ_ _=>rfl) (kZ (λ_ _=>rfl) (λ_ _=>rfl) (λ_=>rfl) (λ_ _=>rfl) (λ_ _ _=>rfl))
  |Name x pos=>exact λh=>.of (L9 hg h) (λ_ _=>rfl) (kZ (λ_ _=>rfl) (λ_ _=>rfl) (λ_=>rfl) (λ_ _=>rfl) (λ_ _ _=>rfl))
  |BoolOp op vs pos=>
   exact kE λirs hi e=>e▸ ⟨λY env k mE fr w H s p=>OJ (pos:=pos) (ihs hi) Y env k mE fr w H s p,λY env k mE fr w H s p r e Q E hq=>wpAny_isTrue_BoolOp (B8 (ihs hi) Y env k mE fr w H s p r e Q E hq),kZ (λ_ _=>rfl) (λ_ _=>rfl) (λ_=>rfl) (λ_ _=>rfl) (λ_ _ _=>rfl)⟩
  |BinOp l op r pos=>
   exact jR λo ho=>jR λa ha=>kE λb hb e=>e▸ .of (OK ho (ih _ _ ha).es (ih _ _ hb).es) (λ_ _=>rfl) (kZ (λ_ _=>rfl) (λ_ _=>rfl) (λ_=>rfl) (λ_ _=>rfl) (λ_ _ _=>rfl))
  |UnaryOp op x pos=>
   refine mB λho=>kE λa ha e=>e▸?_;cases op with
   |Not=>exact⟨OB (ih _ _ ha).es,B6 (ih _ _ ha).ts,kZ (λ_ _=>rfl) (λ_ _=>rfl) (λ_=>rfl) (λ_ _=>rfl) (λ_ _ _=>rfl)⟩
   |_=>cases ho
  |IfExp t x y pos=>
   exact jR λa ha=>jR λb hb=>kE λc hc e=>e▸ ⟨OG (ih _ _ ha).ts (ih _ _ hb).es (ih _ _ hc).es,B7 (ih _ _ ha).ts (ih _ _ hb).ts (ih _ _ hc).ts,kZ (λ_ _=>rfl) (λ_ _=>rfl) (λ_=>rfl) (λ_ _=>rfl) (λ_ _ _=>rfl)⟩
  |ζ es pos=>exact mB λhl=>kE λirs hi e=>e▸ .of (Cz (ihs hi) hl) (λ_ _=>rfl) (kZ (λ_ _=>rfl) (λ_ _=>rfl) (λ_=>rfl) (λ_ _=>rfl) (λ_ _ _=>rfl))
  |Tuple es m pos=>exact mB λhl=>kE λirs hi e=>e▸ .of (Fh (ihs hi) hl) (λ_ _=>rfl) (kZ (λ_ _=>rfl) (λ_ _=>rfl) (λ_=>rfl) (λ_ _=>rfl) (λ_ _ _=>rfl))
  |Compare l ops cs pos=>
   intro h;obtain⟨o,rfl,h⟩:=WQ h;obtain⟨r,rfl,h⟩:=WQ h
   revert h
   exact jR λa ha=>kE λb hb e=>e▸ ⟨Hf O.gf (ih _ _ ha).es (ih _ _ hb),Gx O.gf (ih _ _ ha).es (ih _ _ hb),kZ (λ_ _=>rfl) (λ_ _=>rfl) (λ_=>rfl) (λ_ _=>rfl) (λ_ _ _=>rfl)⟩
  |Call f as ks pos=>
   refine mB λhk=>jR λirs hi h=>?_;cases ks with
   |Κ _ _=>cases (Jn.mp hk).1
   |ϟ=>
    refine .of ?_ (λ_ _=>rfl) (kZ (λ_ _=>rfl) (λ_ _=>rfl) (λ_=>rfl) (λ_ _=>rfl) (λ_ _ _=>rfl))
    revert h
    refine kQ (jR λp hp=>kE λg hgn e=>?_) (jR λp hp=>mB λhc=>kE λg hgn e=>?_)
    ·rw[<-e,qH hp]
     exact GD O hC (ihs hi) (L9 hg hgn)
    ·have hc:=Jn.mp hc
     rw[<-e,VH hp];exact GE O hC (ihs hi) (Zl.mp (Jn.mp hk).2) (ih _ _ hgn).es (Jn.mp hc.1).1 (Jn.mp hc.1).2 hc.2
  |KT v nm pos=>
   exact mB λhc=>kE λa ha e=>e▸ .of (CG O (ih _ _ ha).es (Jn.mp hc).1 (Jn.mp hc).2) (λ_ _=>rfl) (kZ (λ_ _=>rfl) (λ_ _=>rfl) (λ_=>rfl) (λ_ _=>rfl) (λ_ _ _=>rfl))
  |Subscript v sl pos=>
   intro h;refine .of ?_ (λ_ _=>rfl) (kZ (λ_ _=>rfl) (λ_ _=>rfl) (λ_=>rfl) (λ_ _=>rfl) (λ_ _ _=>rfl));have h:JG (motive:=λ_=>η Ex) (xV sl) ((lA n cx v).Η λe=>(lA n cx sl).ς λi=>.wr e i) (λp=>aw ((pY v).Ψ && p.2.2.1.pi) ((lA n cx v).Η λe=>(Ll (lA n cx) p.1 p.2.1).ς λq=>.slice e q.1 q.2))=Qa ir:=h;refine FD (xV sl) (λhs=>?_) λp hs=>?_
   ·rw[hs] at h
    revert h
    exact jR λa ha=>kE λb hb e=>e▸OA (ih _ _ ha).es (ih _ _ hb)
   ·rw[hs] at h
    revert h
    refine mB λhc=>jR λa ha=>kE λq hq e=>?_;simp only[<-e,Bl hs,Kn.mp (Jn.mp hc).2];exact Fj (Jn.mp hc).1 (ih _ _ ha).es ih hq
  |Dict ks vs pos=>
   refine mB λhl=>jR λia ha=>kE λib hb e=>e▸?_;exact .of (CE ((qU ha).Ν λo i h=>(bs h).ι λe h=>⟨e,h.1,ih _ _ h.2⟩) (ihs hb) (Β.mp hl)) (λ_ _=>rfl) (kZ (λ_ _=>rfl) (λ_ _=>rfl) (λ_=>rfl) (λ_ _=>rfl) (λ_ _ _=>rfl))
  |Tq dz gens sc pos=>
   intro h;obtain⟨g,rfl,h⟩:=WQ h
   revert h
   refine jR λq hq=>mB λhc=>jR λii hi=>jR λiifs hf=>kE λie he e=>e▸?_;refine .of (λY env k mE fr w H s p r ev Q E hQ=>?_) (λ_ _=>rfl) ⟨λ_ _=>rfl,λ_ _=>rfl,λ_=>rfl,λ_ _=>rfl,λq=>JJ q⟩;obtain⟨t,it,ifs,a⟩:=g;have ha:a=0:=Β.mp (Jn.mp hc).1;subst ha;simp only[eval_ListComp];refine EG (⟨Β.mp (Jn.mp hc).1,hq,A9 (Jn.mp hc).2,ih _ _ hi,(ih' (cn cx sc q.1) hg (hcc.cn sc q.1)) _ _ he,(qU hf).Ν (ih' (cn cx sc q.1) hg (hcc.cn sc q.1))⟩) hcc p ev λw' D N oN mN s' le S' hns r' sm=>?_;refine Zt hns λes zq1=>zq1.ι λep zq2=>?_;exact⟨mN,⟨oN,es,ep,S'.fk.1,zq2⟩,λh' hs=>hQ w' _ {s' with heap:=h'} ⟨le,S'.gq hs.extBut,sm.1,sm.2⟩ r'⟩
  |_=>exact λh=>af h
end
inductive ua(C:bf)(w:Wd):Fl->Ji->Prop
 |nx:ua C w .nx .Ϭ
 |bk:ua C w .bk .brk
 |ct:ua C w .ct .cont
 |rt{v:ab}{rv:μ}:jG C w v rv->ua C w (.rt v) (.ret rv)
def zga(cx:CC)(env:Env)(L:Qj):Prop:=env.TN.Tc=.wE/\env.globals=mainGlobals/\env.builtins=builtinsNs/\env.TN.pt=cx.sc/\(∀x,cx.sc.ω x=Qa .Tk->∃c,env.Tp.ω x=Qa c)/\(∀x y c,cx.sc.ω x=Qa .Tk->cx.sc.ω y=Qa .Tk->env.Tp.ω x=Qa c->env.Tp.ω y=Qa c->x=y)/\env.locals=L/\∀x y i,nG cx x=Qa i->nG cx y=Qa i->x=y
section
variable{cx:CC}{env:Env}{L:Qj}(ψ:zga cx env L)
def zga.Tc:=@ψ.1
def zga.gl:=@ψ.2.1
def zga.bl:=@ψ.2.2.1
def zga.sc:=@ψ.2.2.2.1
def zga.Tp:=@ψ.2.2.2.2.1
def zga.cJ:=@ψ.2.2.2.2.2.1
def zga.kh:=@ψ.2.2.2.2.2.2.1
def zga.dL:=@ψ.2.2.2.2.2.2.2
end
def zj7(cx:CC)(env:Env)(ce:bw):Prop:=∀x c,cx.sc.ω x=Qa .Tk->env.Tp.ω x=Qa c->∃o v₀,(c,o)∈ce/\o.Te=.Tk v₀
def ja{C:bf}{d e:θ}(Y:kD C d e)(cx:CC)(env:Env)(k:Kp)(fr:Θ)(w:Wd)(H:MH)(s:Qf):Prop:=zga cx env Y.L/\zj7 cx env k.ce/\zf8 C w cx env k.ce k.m fr/\St Y k w H s
section
variable{C:bf}{d e:Nat}{Y:kD C d e}{cx:CC}{env:Env}{k:Kp}{fr:Frame}{w:Wd}{H:MH}{s:Qf}(ψ:ja Y cx env k fr w H s)
def ja.b:=@ψ.1
def ja.c:=@ψ.2.1
def ja.f:=@ψ.2.2.1
def ja.st:=@ψ.2.2.2
end
theorem ja.pl{cx:CC}{fr:Θ}(p:ja Y cx env k fr w H s):Pl Y cx env k k.m fr w H s:=
 ⟨⟨p.b.Tc,p.b.gl,p.b.bl,p.b.sc,λx h=>(p.b.Tp x h).ι λc hc=>(p.c x c h hc).ι λo h=>h.ι λv₀ h=>⟨c,o,v₀,hc,h.1,h.2⟩,.nb ⟨p.b.kh,rfl⟩⟩,p.f,p.st⟩
theorem ja.Ϭ{cx:CC}{fr:Θ}(p:ja Y cx env k fr w H s)(n:ip Y k w w' H' s s'):ja Y cx env k fr w' H' s':=⟨p.b,p.c,λx i v a b=>(p.f x i v a b).Ν n.le,n.st⟩
def om{C:bf}{d e:θ}(Y:kD C d e)(cx:CC)(env:Env)(ex:bw)(w:Wd)(s:Qf)(k':Kp)(fr':Θ)(w':Wd)(H':MH)(s':Qf):Prop:=k'.ex=ex/\w.le w'/\ja Y cx env k' fr' w' H' s'/\qI s s'
section
variable{C:bf}{d e:Nat}{Y:kD C d e}{cx:CC}{env:Env}{ex:bw}{w:Wd}{s:Qf}{k':Kp}{fr':Frame}{w':Wd}{H':MH}{s':Qf}(ψ:om Y cx env ex w s k' fr' w' H' s')
def om.ex:=@ψ.1
def om.le:=@ψ.2.1
def om.pl:=@ψ.2.2.1
def om.cj:=@ψ.2.2.2
end
variable{ex:bw}{w1 w2:Wd}{k1 k2:Kp}{fr1 fr2:Frame}{H1 H2:MH}
theorem om.ν{cx:CC}(a:om Y cx env ex w s k1 fr1 w1 H1 s1)(b:om Y cx env k1.ex w1 s1 k2 fr2 w2 H2 s2):om Y cx env ex w s k2 fr2 w2 H2 s2:=⟨b.ex.ν a.ex,a.le.ν b.le,b.pl,a.cj.ν b.cj⟩
theorem ja.nx{cx:CC}{fr:Θ}(p:ja Y cx env k fr w H s)(n:ip Y k w w' H' s s'):om Y cx env k.ex w s k fr w' H' s':=⟨rfl,n.le,p.Ϭ n,n.cj⟩
theorem ja.rf{cx:CC}{fr:Θ}(p:ja Y cx env k fr w H s):om Y cx env k.ex w s k fr w H s:=⟨rfl,.TD w,p,.TD s⟩
def eZ{C:bf}{d e:θ}(Y:kD C d e)(cx:CC)(env:Env)(ex:bw)(t:Sem Ji)(w:Wd)(s:Qf)(r:(Fl×Θ)×MH):Prop:=
 ∀(Q:Ji->Qf->Prop)(E:μ->Qf->Prop),(∀k' w' f s',om Y cx env ex w s k' r.1.2 w' r.2 s'->ua C w' r.1.1 f->Q f s')->Qi C.M Y.A t Q E s
def vY(C:bf)(d:θ)(cx:CC)(st:Qx)(ir:Sm):Prop:=
 ∀(Y:kD C d 2)(env:Env)(k:Kp)(fr:Θ)(w:Wd)(H:MH)(s:Qf),ja Y cx env k fr w H s->∀r,exec (C.cx d) ir fr H=Qa r->eZ Y cx env k.ex (Ξ.exec st env) w s r
def u9(C:bf)(d:θ)(cx:CC)(st:ζ Qx)(ir:ζ Sm):Prop:=
 ∀(Y:kD C d 2)(env:Env)(k:Kp)(fr:Θ)(w:Wd)(H:MH)(s:Qf),ja Y cx env k fr w H s->∀r,execs (C.cx d) ir fr H=Qa r->eZ Y cx env k.ex (Ξ.execs st env) w s r
section
variable{cx:CC}{fr:Frame}
def Gd(ce:bw)(c:Qj)(o:wT):bw:=ce.ς λp=>if p.1=c then(c,o) else p
def Bh(ce:bw)(c:Qj)(o:wT):(Gd ce c o).ς (·.1)=ce.ς (·.1):=by
 delta Gd;rw[KU]
 apply ZV
 intro p _;show (if p.1=c then(c,o) else p).1=p.1;split
 ·rename_i h;exact h.Μ
 ·rfl
def cb.xw{o':wT}(S:cb C h₀ L k w H h)(hc:(c,o)∈k.ce)(hs:Ix.Go c h h')(ho:h'.ut c=Qa o'):cb C h₀ L {k with ce:=Gd k.ce c o'} w H h':=by
 obtain⟨os,he,hn,hd⟩:=S.os;have g:=hn (c,o) (JQ _ (JQ _ (ZQ _ hc)));have hp:∀ce:bw,({k with ce:=ce}:Kp).Db w os|>.TH (ce++(os.ld++(w.tp++k.ex))):=λce=>
  (ζ.TH.append_left os.ld (Kx w.tp ce k.ex)).ν (Kx os.ld ce (w.tp++k.ex))
 have hd1:=bw.nd.jf (hp k.ce) hd;unfold bw.nd at hd1;have hd2:=hd1;rw[JR,Kr] at hd2;refine⟨Fr.sameBut S.fr hs g.2,⟨os,he,λp hpm=>?_,bw.nd.jf (hp _).Μ ?_⟩,S.pd,S.lo⟩
 ·rcases Zd.mp ((hp _).re.mp hpm) with hpm|hpm
  ·refine(JM.mp hpm).ι λq zq14=>?_
   have e:=zq14.2;by_cases hqc:q.1=c
   ·rw[ρ hqc] at e
    rw[<-e];exact⟨ho,g.2⟩
   ·rw[π hqc] at e
    rw[<-e]
    have:=hn q (JQ _ (JQ _ (ZQ _ zq14.1)))
    exact⟨(hs.2 q.1 hqc).ν this.1,this.2⟩
  ·have:=hn p ((hp k.ce).re.Ϩ (JQ _ hpm))
   exact⟨(hs.2 p.1 λe=>hd2.2.2 c (JM.Ϩ ⟨_,hc,rfl⟩) p.1 (JM.Ϩ ⟨_,hpm,rfl⟩) e.Μ).ν this.1,this.2⟩
 ·delta bw.nd
  rw[JR,Bh,<-JR];exact hd1
def qN(p:ja Y cx env k fr w H s){v:ab}(hi:nG cx x=Qa i)(r:jG C w v rv) 
  (h:∀k' s',om Y cx env k.ex w s k' (fr.ϩ i (Qa v)) w H s'->Q () s'):Qi C.M A' (storeName env x rv) Q E s:=by
 have ow:∀{y j},nG cx y=Qa j->i≠j->y≠x:=λhj hij e=>hij (by rw[e,hi] at hj;exact Qa.dL hj);rcases (zU hi).1 with hk|hk
 ·refine QP (p.pl.b.Fa hk) (by rw[p.b.kh];exact p.st.fr.ns) (λh' hn hs=>?_) (by rw[p.b.Tc];rfl)
  rw[p.b.kh] at hn hs;obtain⟨os,he,hnn,hd⟩:=p.st.os;refine h {k with m:=λy=>if y=x then Qa rv else k.m y} _ ⟨rfl,.TD w,⟨p.b,p.c,λy j u hj hu=>?_,⟨p.st.fr.ϩ hn hs,⟨os,he,hnn.ϩ hs,hd⟩,p.st.pd,p.st.lo⟩⟩,rfl,rfl⟩;rcases CJ hu with ⟨rfl,rfl⟩| ⟨hij,hu'⟩
  ·cases p.b.dL y x _ hj hi
   exact .kh rv hk (ρ rfl) r
  ·cases p.f y j u hj hu' with
   |kh rv' h1 h2 h3=>exact .kh rv' h1 ((π (ow hj hij)).ν h2) h3
   |cell rv' c o h1 h2 h3 h4 h5=>exact .Tk rv' c o h1 h2 h3 h4 h5
 ·refine(p.b.Tp x hk).ι λc zq13=>?_
  have hc:=zq13;refine(p.c x c hk hc).ι λo zq11=>zq11.ι λv₀ zq12=>?_;refine wpAny_storeName_cell p.b.Tc (p.pl.b.Fa hk) hc ⟨o,p.st.yu zq12.1,zq12.2⟩ λh' hv hs=>?_;refine Zt hv λo' zq10=>?_;have hmem:∀{y cy oy},cx.sc.ω y=Qa .Tk->env.Tp.ω y=Qa cy->(cy,oy)∈k.ce->y≠x->(cy,oy)∈Gd k.ce c o':=λ{y cy oy} hy hcy hm hyx=>
   JM.Ϩ ⟨(cy,oy),hm,π λe=>hyx (p.b.cJ y x c hy hk (by rw[hcy];exact χ Qa e) hc)⟩
  have hself:(c,o')∈Gd k.ce c o':=JM.Ϩ ⟨(c,o),zq12.1,ρ rfl⟩;refine h {k with ce:=Gd k.ce c o'} _ ⟨rfl,.TD w,⟨p.b,λy cy hy hcy=>?_,λy j u hj hu=>?_,p.st.xw zq12.1 hs zq10.1⟩,rfl,rfl⟩
  ·by_cases hyx:y=x
   ·cases hyx
    rw[hc] at hcy;refine lN hcy ?_;exact⟨o',Qa rv,hself,zq10.2⟩
   ·exact(p.c y cy hy hcy).ι λoy zq8=>zq8.ι λvy zq9=>⟨oy,vy,hmem hy hcy zq9.1 hyx,zq9.2⟩
  ·rcases CJ hu with ⟨rfl,rfl⟩| ⟨hij,hu'⟩
   ·cases p.b.dL y x _ hj hi
    exact .Tk rv c o' hk hc hself zq10.2 r
   ·cases p.f y j u hj hu' with
    |kh rv' h1 h2 h3=>exact .kh rv' h1 h2 h3
    |cell rv' cy oy h1 h2 h3 h4 h5=>exact .Tk rv' cy oy h1 h2 (hmem h1 h2 h3 (ow hj hij)) h4 h5
theorem Ct:u9 C d cx [] []:=λY env k fr w H s p r e=>by
 refine lN e ?_;exact λQ E hq=>QH (hq k w .Ϭ s p.rf .nx)
def Fe{r:ζ Qx}{i:Sm}{is:ζ Sm}(h1:vY C d cx st i)(h2:u9 C d cx r is):u9 C d cx (st::r) (i::is):=by
 intro Y env k fr w H s p r;refine jH λq H1 e1 e Q E hq=>wpAny_execs_cons (h1 Y env k fr w H s p _ e1 _ _ λk1 w1 f s1 n1 r1=>?_);obtain⟨fl,fr1⟩:=q;cases r1 with
 |nx=>exact h2 Y env k1 fr1 w1 H1 s1 n1.pl _ e _ _ λk2 w2 f2 s2 n2 r2=>hq k2 w2 f2 s2 (n1.ν n2) r2
 |bk=>obtain rfl:=Qa.dL e;exact hq k1 w1 .brk s1 n1 .bk
 |ct=>obtain rfl:=Qa.dL e;exact hq k1 w1 .cont s1 n1 .ct
 |rt h=>obtain rfl:=Qa.dL e;exact hq k1 w1 _ s1 n1 (.rt h)
def Cv(hcc:UA cx){v:ϛ}{iv:Ex}(hi:nG cx x=Qa i)(hv:Sd C d cx v iv)(hL:∀{dz gens sc cp},v=.Tq dz gens sc cp->∃g q ie ii iifs,gens=[g]/\c9 C d cx g sc dz q ie ii iifs/\iv=.comp ie (J5 cx.Ϭ q.1.ε) q.2 ii iifs):vY C d cx (.Assign [.Name x xp] v pos) (.fm (.nm i) iv):=by
 intro Y env k fr w H s p r;show cf (eval (C.cx d) iv fr H) (λv h1=>cf (LX (C.cx d) fr h1 v (.nm i)) λfr' h2=>Qa ((.nx,fr'),h2))=Qa r->_;refine jH λu H1 e1 e=>?_;refine lN e ?_;intro Q E hq;have plain:swapsWith v (Qa (.Name x xp)) pos.line env=pure Qb->Qi C.M Y.A (Ξ.exec (.Assign [.Name x xp] v pos) env) Q E s:=λhsw=>
  wpAny_Assign_Name (hv.es Y env k k.m fr w H s p.pl _ e1 _ _ λw1 a1 s1 n1 r1=>qN (p.Ϭ n1) hi r1 λk' s' n2=>hq k' w1 .Ϭ s' ((p.nx n1).ν n2) .nx) hsw
 refine rY (pT v) (λhc=>?_) λhc=>?_
 ·clear hv
  cases v with
  |Tq dz gens sc cpos=>
   obtain⟨b,hb⟩:∃b,swapsWith (.Tq dz gens sc cpos) (Qa (.Name x xp)) pos.line env=pure b:=⟨_,rfl⟩;cases b with
   |false=>exact plain hb
   |true=>
    obtain⟨g,q,ie,ii,iifs,rfl,P,rfl⟩:=hL rfl;obtain⟨t,it,ifs,a⟩:=g;cases P.as;rw[exec_Assign_Name_used _ _ _ _ hb];refine Qd (Qm (Qd ?_));refine Qd (Qo (EG (use:=Qa (assign (.Name x xp) env)) (Q:=λ_ s'=>Q .Ϭ s') P hcc p.pl e1 λw1 D N oN mN s1 le S1 hns r1 sm1=>?_) (λ_ s' hq=>Qg (Qg hq)) λ_ _ e=>e);refine Ξ.TL (qN (⟨p.b,p.c,λx i v a b=>(p.f x i v a b).Ν le,S1⟩:ja Y cx env (k.Tb (N,oN)) fr w1 H1 s1) hi r1 λk' s' n2=>?_);refine Zt hns λes zq1=>zq1.ι λep zq2=>?_;obtain⟨ce',ex',m'⟩:=k';cases n2.ex;exact⟨mN,⟨oN,es,ep,cb.fk (k:=⟨ce',k.ex,m'⟩) n2.pl.st|>.1,zq2⟩,λh'' hs=>hq ⟨ce',k.ex,m'⟩ w1 .Ϭ {s' with heap:=h''} ⟨rfl,le,⟨n2.pl.b,n2.pl.c,n2.pl.f,cb.gq (k:=⟨ce',k.ex,m'⟩) n2.pl.st hs.extBut⟩,(sm1.ν n2.cj).1,(sm1.ν n2.cj).2⟩ .nx⟩
  |_=>cases hc
 ·exact plain (hv.sy.swap hc _ _ _)
def Cs{v:ϛ}{iv:Ex}(hv:mI C d cx v iv):vY C d cx (.Return (Qa v) pos) (.ret iv):=by
 intro Y env k fr w H s p r;show cf (eval (C.cx d) iv fr H) (λv h1=>Qa ((.rt v,fr),h1))=Qa r->_;refine jH λu H1 e1 e=>?_;refine lN e ?_;exact λQ E hq=>wpAny_Return_some (hv Y env k k.m fr w H s p.pl _ e1 _ _ λw1 a1 s1 n1 r1=>hq k w1 _ s1 (p.nx n1) (.rt r1))
def Fc:vY C d cx (.Return Qc pos) (.ret (.f8 .Δ)):=by
 intro Y env k fr w H s p r e;refine lN e ?_;exact λQ E hq=>wpAny_Return_none (hq k w _ s p.rf (.rt rfl))
def Oy{x y:ζ Qx}{it:Ex}{ix iy:ζ Sm}(ht:zR C d cx t it)(hx:u9 C d cx x ix)(hy:u9 C d cx y iy):vY C d cx (.If t x y pos) (.ite it ix iy):=by
 intro Y env k fr w H s p r;show cf (lQ (eval (C.cx d) it fr H)) (λr h1=>bif r then execs (C.cx d) ix fr h1 else execs (C.cx d) iy fr h1)=Qa r->_;refine jH λb H1 e1 e Q E hq=>wpAny_If (ht Y env k k.m fr w H s p.pl _ e1 _ _ λw1 a1 s1 n1 r1=>?_);rw[show a1=b from r1];cases b with
 |true=>exact hx Y env k fr w1 H1 s1 (p.Ϭ n1) _ e _ _ λk2 w2 f2 s2 n2 r2=>hq k2 w2 f2 s2 ((p.nx n1).ν n2) r2
 |false=>exact hy Y env k fr w1 H1 s1 (p.Ϭ n1) _ e _ _ λk2 w2 f2 s2 n2 r2=>hq k2 w2 f2 s2 ((p.nx n1).ν n2) r2
inductive zf7{C:bf}{d e:θ}(Y:kD C d e)(cx:CC)(env:Env)(ex:bw)(w0:Wd)(s0:Qf)(F:Θ->MH->SR)(r:(Fl×Θ)×MH)(s:Qf):Prop
 |mk(k:Kp)(fr:Θ)(w:Wd)(H:MH)(n:om Y cx env ex w0 s0 k fr w H s)(lp:F fr H=Qa r):zf7 Y cx env ex w0 s0 F r s
def DP{it:Ex}{ib:ζ Sm}(ht:zR C d cx t it)(hb:u9 C d cx b ib):vY C d cx (.While t b [] pos) (.wh it ib):=by
 intro Y env k fr w H s p r ev Q E hq;refine wpAny_While (codeAny_whileLoop (λn s'=>zf7 Y cx env k.ex w s (W3 (λfr h=>lQ (eval (C.cx d) it fr h)) (λfr h=>execs (C.cx d) ib fr h) n) r s') ?_ (C.cx d).cv ⟨k,fr,w,H,p.rf,ev⟩)
 rintro n s' ⟨k1,fr1,w1,H1,n1,lp⟩
 cases n with
 |zero=>exact af lp
 |succ n=>
  revert lp
  refine jH λc H2 e2 lp=>ht Y env k1 k1.m fr1 w1 H1 s' n1.pl.pl _ e2 _ _ λw2 a2 s2 n2 r2=>?_;simp only[show a2=c from r2];have n2':=n1.ν (n1.pl.nx n2);cases c with
  |false=>
   obtain rfl:=Qa.dL lp;rw[π Zq];exact QH (hq k1 w2 .Ϭ s2 n2' .nx)
  |true=>
   rw[ρ rfl]
   revert lp
   show cf (execs (C.cx d) ib fr1 H2) (λp h2=>Fl.Α (motive:=λ_=>SR) p.1 (W3 (λfr h=>lQ (eval (C.cx d) it fr h)) (λfr h=>execs (C.cx d) ib fr h) n p.2 h2) (Qa ((.nx,p.2),h2)) (W3 (λfr h=>lQ (eval (C.cx d) it fr h)) (λfr h=>execs (C.cx d) ib fr h) n p.2 h2) (λv=>Qa ((.rt v,p.2),h2)))=Qa r->_;refine jH λq H3 e3 lp=>hb Y env k1 fr1 w2 H2 s2 n2'.pl _ e3 _ _ λk3 w3 f3 s3 n3 r3=>?_;obtain⟨fl,fr3⟩:=q;cases r3 with
   |nx=>exact⟨n,JT n,k3,fr3,w3,H3,(n2'.ν n3),lp⟩
   |ct=>exact⟨n,JT n,k3,fr3,w3,H3,(n2'.ν n3),lp⟩
   |bk=>obtain rfl:=Qa.dL lp;exact hq k3 w3 .Ϭ s3 (n2'.ν n3) .nx
   |rt h=>obtain rfl:=Qa.dL lp;exact hq k3 w3 _ s3 (n2'.ν n3) (.rt h)
end
def Fz{v:ab}:∀(is:ζ θ)(vs:ζ ab)(fr:Θ),i∉is->(uI is vs fr).ϩ i (Qa v)=uI is vs (fr.ϩ i (Qa v)):=by
 intro is
 induction is with
 |ϟ=>exact λvs fr _=>rfl
 |Κ j is ih=>
  intro vs fr h;cases vs with
  |ϟ=>rfl
  |Κ u vs=>
   show (uI is vs (fr.ϩ j (Qa u))).ϩ i (Qa v)=uI is vs ((fr.ϩ i (Qa v)).ϩ j (Qa u));rw[ih vs _ λq=>h (.lw _ q),ζ.set_comm _ _ λq:j=i=>h (q▸ .mo _)]
def CV:∀(is:ζ θ)(vs:ζ ab)(i:θ)(v:ab)(fr:Θ),is.ε=vs.ε->uI (is++[i]) (vs++[v]) fr=(uI is vs fr).ϩ i (Qa v):=by
 intro is
 induction is with
 |ϟ=>intro vs i v fr h;cases ZZ.mp h.Μ;rfl
 |Κ j is ih=>
  intro vs i v fr h;cases vs with
  |ϟ=>cases h
  |Κ u vs=>exact ih vs i v _ (ZX.dL h)
def CU:∀(is:ζ θ)(vs:ζ ab)(fr:Θ),is.ϥ->is.ε=vs.ε->uI is.Ts vs.Ts fr=uI is vs fr:=by
 intro is
 induction is with
 |ϟ=>intro vs fr _ h;cases ZZ.mp h.Μ;rfl
 |Κ i is ih=>
  intro vs fr hd h;cases vs with
  |ϟ=>cases h
  |Κ v vs=>
   rw[KJ,KJ,CV _ _ _ _ _ (by rw[YC,YC];exact ZX.dL h),ih vs fr (JK.mp hd).2 (ZX.dL h),Fz is vs fr (JK.mp hd).1];rfl
section
variable{cx:CC}{fr:Frame}
def jD.Ts:∀{ms:ζ ab}{vs:ζ μ},jD C w ms vs->jD C w ms.Ts vs.Ts:=by
 intro ms
 induction ms with
 |ϟ=>intro vs h;refine eqB h ?_;exact .ϟ
 |Κ m ms ih=>intro vs h;obtain⟨v,r,rfl,h,h'⟩:=h;rw[KJ,KJ];exact jD.append (.da h) (ih h')
def lH.Ts{R:α->β->Prop}{as:ζ α}{bs:ζ β}(h:lH R as bs):lH R as.Ts bs.Ts:=by
 have cu:∀{as:ζ α}{bs:ζ β}{a b},lH R as bs->R a b->lH R (as++[a]) (bs++[b]):=λh hab=>by
  induction h with
  |ϟ=>exact .Κ hab .ϟ
  |Κ x _ ih=>exact .Κ x ih
 induction h with
 |ϟ=>exact .ϟ
 |Κ x _ ih=>rw[KJ,KJ];exact cu ih x
abbrev sQ(cx:CC)(x:be)(i:θ):Prop:=nG cx x=Qa i
def yC:∀{xs:ζ be}{is:ζ θ}{fs:ζ (μ->Sem Unit)},lH (sQ cx) xs is->lH (G2 env) xs fs->∀{mvs:ζ ab}{vs:ζ μ}{k:Kp}{fr:Θ}{s:Qf}{Q:Unit->Qf->Prop}{E:μ->Qf->Prop},
  jD C w mvs vs->mvs.ε=is.ε->ja Y cx env k fr w H s->(∀k' s',om Y cx env k.ex w s k' (uI is mvs fr) w H s'->Q () s')->Qi C.M Y.A (assignInOrder fs vs) Q E s:=by
 intro xs is fs hi
 induction hi generalizing fs with
 |ϟ=>
  intro hf mvs vs k fr s Q E r hl p h;cases hf;cases ZZ.mp hl;subst r;exact Qg (h k s p.rf)
 |Κ hi _ ih=>
  intro hf mvs vs k fr s Q E r hl p h;cases hf with
  |Κ hf uo=>
   cases mvs with
   |ϟ=>cases hl
   |Κ mv mvs=>
    obtain⟨v,t,rfl,hv,r⟩:=r;show Qi C.M Y.A (do holding _ _;assignInOrder _ _) Q E s;exact Qd (Qk (hf _ _ _ _ _ _ (qN p hi hv λk1 s1 n1=>ih uo r (ZX.dL hl) n1.pl λk2 s2 n2=>h k2 s2 (n1.ν n2))))
def Az:∀(xs:ζ be),lH (G2 env) xs (xs.ς λn=>bindName env n):=by
 intro xs
 induction xs with
 |ϟ=>exact .ϟ
 |Κ x xs ih=>exact .Κ (λ_ _ _ _ _ _ z=>wpAny_bindName z) ih
theorem A7{is:ζ θ}(h:nY (GF cx) xs=Qa is):lH (sQ cx) xs is:=(qU h).Ν λ_ _ h=>(gs h).2
def CH(B:zga cx env Y.L){is:ζ θ}(h:lH (sQ cx) xs is):xs.ϥ->is.ϥ:=by
 have mem:∀{xs:ζ be}{is:ζ θ},lH (sQ cx) xs is->∀i∈is,∃y∈xs,nG cx y=Qa i:=λh=>by
  induction h with
  |ϟ=>exact λi hi=>υ hi JE
  | @Κ x j _ _ h _ ih=>
   intro i hi;rcases JO.mp hi with rfl|hi
   ·exact⟨x,.mo _,h⟩
   ·obtain⟨y,hy,e⟩:=ih i hi;exact⟨y,.lw _ hy,e⟩
 induction h with
 |ϟ=>exact λ_=>.ϟ
 | @Κ x i xs is h1 h2 ih=>
  intro hd;have hd:=JK.mp hd;exact JK.Ϩ ⟨λhi=>(mem h2 i hi).ι λy zq13=>hd.1 (B.dL x y i h1 zq13.2▸zq13.1),ih hd.2⟩
def Hu(F:ϛ->η be)(kk:be->Pos->Ε)(hF:∀i p,F (.Name i p)=if kk i p then Qa i else Qc){es:ζ ϛ}(h:lH (λe x=>qS e=Qa x) es xs):(es.zn F).ε=es.ε->es.zn F=xs:=by
 induction h with
 |ϟ=>exact λ_=>rfl
 | @Κ e x es xs h _ ih=>
  intro hl;obtain⟨p,hp,rfl⟩:=ms h;cases qH hp;rw[KR,hF] at hl ⊢;refine rY (kk p.1 p.2) (λhk=>?_) λhk=>?_
  ·rw[hk]
   rw[hk] at hl;exact χ (KD _) (ih (ZX.dL hl))
  ·rw[hk]
   rw[hk] at hl;exact υ (XY F es) (Xt.Ϩ (YK (JT _) hl.Μ))
def G1{c:Prop}[At c]{a b x y:Sem α}(ha:a=x)(hb:¬c->b=x\/b=y):(if c then a else b)=x\/(if c then a else b)=y:=by
 by_cases h:c
 ·rw[ρ h];exact .nb ha
 ·rw[π h];exact hb h
def Aj{c:Prop}[At c]{a b x:Sem α}(ha:a=x)(hb:¬c->b=x):(if c then a else b)=x:=by
 by_cases h:c
 ·rw[ρ h];exact ha
 ·rw[π h];exact hb h
def dX{a b c:θ}(h:¬((a !=b||c !=d)=Qe)):a=b:=by
 rw[Xk,bne_iff_ne] at h;exact At.not_not.mp λq=>h (.nb q)
def UL{es:ζ ϛ}{v:ϛ}(h:u7 v=Qc):swappedStores [.Tuple es n tpos] v env=pure none:=by cases v<;>first|rfl|cases h
def za7{es:ζ ϛ}{v:ϛ}(hok:UI v=Qe)(hn:lH (λe x=>qS e=Qa x) es xs):
  swappedStores [.Tuple es n tpos] v env=pure Qc\/swappedStores [.Tuple es n tpos] v env=pure (Qa xs):=by
 refine FD (u7 v) (λht=>?_) λp ht=>?_
 ·exact .nb (UL ht)
 ·cases Wa ht
  have hok:(!p.1.Db (constantsAlone 8))=true:=(Jn.mp hok).2;have hok:p.1.Db (constantsAlone 8)=false:=by
   cases hq:p.1.Db (constantsAlone 8) with
   |false=>rfl
   |true=>rw[hq] at hok;cases hok
  refine G1 rfl λ_=>G1 rfl λ_=>G1 rfl λh3=>G1 rfl λ_=>.u8 ?_;rw[hok];exact χ (λz=>(pure (Qa z):Sem (η (ζ be)))) (Hu _ (λid pos=>env.Fa id==Qa .TI && pos.line==((es.head?.ς (·.pos.line)).bm 0)) (λi p=>rfl) hn (dX h3))
def E8{c:Cx}{h:MH}:∀{is:ζ θ}{mvs:ζ ab}{fr:Θ}{r:Θ×MH},oR c (is.ς T1.nm) mvs fr h=Qa r->mvs.ε=is.ε/\r=(uI is mvs fr,h):=by
 intro is
 induction is with
 |ϟ=>
  intro mvs fr r e;refine xA (gs e) λh1 e=>?_;refine lN e ?_;cases mvs with
  |ϟ=>exact⟨rfl,rfl⟩
  |Κ _ _=>cases h1
 |Κ i is ih=>
  intro mvs fr r e;cases mvs with
  |ϟ=>exact af e
  |Κ v mvs=>
   have zq10:=ih (show oR c (is.ς T1.nm) mvs (fr.ϩ i (Qa v)) h=Qa r from e);exact⟨χ (· +1) zq10.1,zq10.2⟩
def W5{v:ab}(S:St Y k w H s)(hv:jG C w v rv)(hi:items H v=Qa mvs){Q:ζ μ->Qf->Prop} 
  (h:∀vs h',jD C w mvs vs->cb C Y.h₀ Y.L k w H h'->Q vs {s with heap:=h'}):Qi C.M Y.A (unpackItems rv mvs.ε Qc) Q E s:=by
 revert hi
 refine kQ (λe=>?_) (λe=>?_)
 ·cases tup?_s e
  obtain⟨t,o,n,ws,rfl,ho,hc,hdt,rr,_⟩:=S.ay hv;rw[rr.ε,<-Zz];exact unpackItems_tuple (items:=ws.τ) Y.tz ⟨o,ho,hc,n,hdt⟩ λh' he=>h ws h' rr (S.grown he)
 ·obtain⟨t,ws,n,rfl,ho,rr,_⟩:=S.ξ hv e
  rw[rr.ε,<-Zz];exact kun_itemsOf Y.tz ⟨_,ho,rfl,n,rfl⟩ λh' he=>h ws h' rr (S.grown he)
theorem Wr{v:ϛ}{i:Ex}(hv:Sd C d cx v i)(hok:UI v=Qe):swapsWith v (Qa t) n env=pure false:=hv.sy.swap (by have:=(Jn.mp hok).1;cases hq:pT v;rfl;rw[hq] at this;cases this) _ _ _
def Ff{es:ζ ϛ}{v:ϛ}{is:ζ θ}{iv:Ex}(hok:UI v=Qe)(hn:lH (λe x=>qS e=Qa x) es xs)(hnd:xs.ϥ)(hs:lH (sQ cx) xs is)(hv:Sd C d cx v iv):
  vY C d cx (.Assign [.Tuple es n tpos] v pos) (.jo (is.ς T1.nm) iv):=by
 intro Y env k fr w H s p r;show cf (eval (C.cx d) iv fr H) (λv h1=>(items h1 v).Η λvs=>cf (oR (C.cx d) (is.ς T1.nm) vs fr h1) λfr' h2=>Qa ((.nx,fr'),h2))=Qa r->_;refine jH λu H1 e1=>jR λmvs hm=>jH λfr' H2 e2 e=>?_;obtain⟨hl,e3⟩:=E8 e2;cases e3;refine lN e ?_;intro Q E hq;rcases za7 (env:=env) (tpos:=tpos) (n:=n) hok hn with hw|hw
 ·refine Assign_Tuple (hv.es Y env k k.m fr w H s p.pl _ e1 _ _ λw1 a1 s1 n1 r1=>?_) (by unfold swapsWithSole;exact Wr hv hok) hw
  rw[assign_Tuple];refine Qd (Qm ?_);delta unpack;rw[(nC (env:=env) hn).2.1,(nC (env:=env) hn).2.2,<-(hl.ν hs.ε)];exact Qd (Qk (W5 n1.st r1 hm λvs h' rr S'=>yC hs (nC (env:=env) hn).1 rr hl (⟨p.b,p.c,(p.Ϭ n1).f,S'⟩:ja Y cx env k fr w1 H1 {s1 with heap:=h'}) λk2 s2 n2=>hq k2 w1 .Ϭ s2 ⟨n2.ex,n1.le.ν n2.le,n2.pl,n1.cj.ν ⟨n2.cj.1,n2.cj.2⟩⟩ .nx))
 ·refine Assign_Tuple_swapped (names:=xs) (hv.es Y env k k.m fr w H s p.pl _ e1 _ _ λw1 a1 s1 n1 r1=>?_) (by unfold swapsWithSole;exact Wr hv hok) hw
  rw[<-(hl.ν hs.ε)];refine W5 n1.st r1 hm λvs h' rr S'=>yC hs.Ts (Az xs.Ts) rr.Ts (by rw[YC,YC];exact hl) (⟨p.b,p.c,(p.Ϭ n1).f,S'⟩:ja Y cx env k fr w1 H1 {s1 with heap:=h'}) λk2 s2 n2=>?_;rw[CU is mvs fr (CH p.b hs hnd) hl.Μ] at n2;exact hq k2 w1 .Ϭ s2 ⟨n2.ex,n1.le.ν n2.le,n2.pl,n1.cj.ν ⟨n2.cj.1,n2.cj.2⟩⟩ .nx
abbrev Rq(C:bf)(d:θ)(cx:CC)(e:ϛ)(q:Ex×θ):Prop:=∃o nm pos,e=.KT o nm pos/\jL nm=Qe/\q.2=ek nm/\Sd C d cx o q.1
def FF{F:ϛ->η be}{es:ζ ϛ}{ts:ζ (Ex×θ)}(h4:(es.zn F).ε=es.ε)(hF:∀o nm pos,F (.KT o nm pos)=Qc)(h:lH (Rq C d cx) es ts)(he:es.db=Qb):False:=by
 have e:es.zn F=[]:=by
  clear h4 he
  induction h with
  |ϟ=>rfl
  |Κ h _ ih=>obtain⟨o,nm,pos,rfl,_⟩:=h;rw[KR,hF];exact ih
 rw[e] at h4;cases es with
 |ϟ=>cases he
 |Κ _ _=>cases h4
def za8{es:ζ ϛ}{ts:ζ (Ex×θ)}{v:ϛ}(he:es.db=Qb)(ht:lH (Rq C d cx) es ts):swappedStores [.Tuple es n tpos] v env=pure none:=by
 refine FD (u7 v) (λhv=>?_) λp hv=>?_
 ·exact UL hv
 ·cases Wa hv
  refine Aj rfl λ_=>Aj rfl λ_=>Aj rfl λh3=>(FF (dX h3) (λ_ _ _=>rfl) ht he).ι
def yD(O:mZ C gl){es:ζ ϛ}{ts:ζ (Ex×θ)}(ht:lH (Rq C d cx) es ts):(assignEach es env).ε=es.ε/\(assignEach es env).findIdx? (·.1)=Qc/\∀{Y:kD C d 2}{k:Kp}{fr:Θ}{w:Wd}{H:MH}{mvs:ζ ab}{vs:ζ μ}{r:Θ×MH}{s:Qf}{Q:Unit->Qf->Prop}{E:μ->Qf->Prop},
   jD C w mvs vs->ja Y cx env k fr w H s->oR (C.cx d) (ts.ς λq=>T1.at q.1 q.2) mvs fr H=Qa r->(r.1=fr->mvs.ε=es.ε->∀w' s',ip Y k w w' r.2 s s'->Q () s')->Qi C.M Y.A (assignInOrder ((assignEach es env).ς (·.2)) vs) Q E s:=by
 induction ht with
 |ϟ=>
  refine⟨rfl,rfl,λ{Y k fr w H mvs vs r s Q E} rr p e h=>?_⟩;refine xA (gs e) λh1 e=>?_;obtain rfl:=Qa.dL e;cases mvs with
  |ϟ=>refine eqE rr ?_;exact Qg (h rfl rfl w s (.TD p.st))
  |Κ _ _=>cases h1
 | @Κ _ q _ _ ha _ ih=>
  refine Zt ha λo zq2=>zq2.ι λnm zq3=>zq3.ι λpos zq4=>?_;refine eqB zq4.1 ?_;refine⟨χ (· +1) ih.1,?_,λ{Y k fr w H mvs vs r s Q E} rr p e h=>?_⟩
  ·show qbk _ ((Qb,assign (.KT o nm pos) env)::assignEach _ env)=Qc
   rw[qaO];simp only[YJ,if_false,ih.2.1,qam]
  ·cases mvs with
   |ϟ=>exact af e
   |Κ mv mvs=>
    obtain⟨v,t,rfl,hv,rr⟩:=rr
    revert e
    refine jH λfr1 H1 e1 e=>?_
    revert e1
    show cf (eval (C.cx d) q.1 fr H) (λov h1=>(setAttr C.P h1 ov q.2 mv).ς λh2=>(fr,h2))=Qa (fr1,H1)->_;refine jH λov H2 e3=>kE λH3 hs e4=>?_;cases e4;rw[zq4.2.2.1] at hs;show Qi C.M Y.A (do holding _ (assign (.KT o nm pos) env v);assignInOrder _ _) Q E s;refine Qd (Qk ?_);simp only[assign_Attribute];exact Qd (Qk (zq4.2.2.2.es Y env k k.m _ w H s p.pl _ e3 _ _ λw1 a1 s1 n1 r1=>Qd (Qm (Qd (Qk (y3 O n1.st zq4.2.1 r1 (hv.Ν n1.le) (λs2 n2=>wpAny_release (ih.2.2 (rr.Ν n1.le) (p.Ϭ (n1.ν n2)) e λe5 e6 w' s' n3=>h e5 (χ (· +1) e6) w' s' ((n1.ν n2).ν n3))) hs))))))
def L4(O:mZ C gl){es:ζ ϛ}{v:ϛ}{ts:ζ (Ex×θ)}{iv:Ex}(hok:UI v=Qe)(hne:es.db=Qb)(ht:lH (Rq C d cx) es ts)(hv:Sd C d cx v iv):
  vY C d cx (.Assign [.Tuple es n tpos] v pos) (.jo (ts.ς λq=>T1.at q.1 q.2) iv):=by
 intro Y env k fr w H s p r;show cf (eval (C.cx d) iv fr H) (λv h1=>(items h1 v).Η λvs=>cf (oR (C.cx d) (ts.ς λq=>T1.at q.1 q.2) vs fr h1) λfr' h2=>Qa ((.nx,fr'),h2))=Qa r->_;refine jH λu H1 e1=>jR λmvs hm=>jH λfr' H2 e2 e=>?_;refine lN e ?_;have hlen:∀{ts:ζ T1}{mvs:ζ ab}{fr:Θ}{h:MH}{r:Θ×MH},oR (C.cx d) ts mvs fr h=Qa r->mvs.ε=ts.ε:=by
  intro ts
  induction ts with
  |ϟ=>intro mvs fr h r e;have:=(gs e).1;cases mvs with|ϟ=>rfl|Κ _ _=>cases this
  |Κ t ts ih=>
   intro mvs fr h r e;cases mvs with
   |ϟ=>exact af e
   |Κ v mvs=>revert e;exact jH λfr' h' _ e=>χ (· +1) (ih e)
 intro Q E hq;refine Assign_Tuple (hv.es Y env k k.m fr w H s p.pl _ e1 _ _ λw1 a1 s1 n1 r1=>?_) (by unfold swapsWithSole;exact Wr hv hok) (za8 hne ht);rw[assign_Tuple];refine Qd (Qm ?_);delta unpack;simp only[(yD (env:=env) O ht).1,(yD (env:=env) O ht).2.1,<-((hlen e2).ν ((Js ..).ν ht.ε):mvs.ε=es.ε)];refine Qd (Qk (W5 n1.st r1 hm λvs h' rr S'=>?_));have n2:ip Y k w w1 H1 s {s1 with heap:=h'}:=⟨n1.le,S',n1.cj.1,n1.cj.2⟩;exact(yD (env:=env) O ht).2.2 rr (p.Ϭ n2) e2 λe5 _ w' s' n3=>by
  subst e5;exact hq k w' .Ϭ s' (p.nx (n2.ν n3)) .nx
end
def Dz{w:Qn}{l:Qj}{z:Τ}{t:Tok}(ho:s.Ω.ut l=Qa (listOf its n))(h0:0<=z)(hj:z<its.pc)(hfit:z<2 ^ 63)
  (hQ:∀h' n',h'.ut l=Qa (listOf (its.setIfInBounds z.Mi v) n')->Ix.Go l s.Ω h'->Q () {s with heap:=h'}):Qi (model prog w) A (setItem (.ο l) (.φ z t) v) Q E s:=by
 delta setItem
 try with_reducible refine Qk ?_
 refine Qd (Q0 (⟨_,ho,rfl⟩) rfl ?_);refine Qd (AT (name:=be.ofString "__setitem__") (⟨_,ho,rfl⟩) Q6
  (Qs Q6 (⟨_,ho,rfl⟩) entry_list_setitem ?_ (args_list_setitem _ _ _)))
 show Qi _ _ (qba (.φ z t)>>=_) _ _ s;refine Qd (wpAny_listSubscript_int (fitsIndex_of h0 hfit) ?_)
 clear hfit
 obtain⟨j,rfl⟩:=Τ.eq_ofNat_of_zero_le h0;have hj':j<its.pc:=ZF.mp hj;refine Qd (Qd (wpAny_seqItemAt ho rfl (Qg ?_)));rw[(sB.getElem?_eq_getElem hj':its[j]?=Qa its[j])];refine Qd (wpAny_setSeqItemAt ho rfl ?_);have fe:Q () {s with heap:=s.Ω.LE l (wT.mapSeq (·.setIfInBounds j v))}:=hQ _ _ (Yl _ ho rfl) (Ix.Go.LE ..)
 first
  |exact Qd (Qg (Qg ⟨.Δ,rfl,Qg fe⟩))
  |exact Qg ⟨.Δ,rfl,Qg fe⟩
section
variable{cx:CC}{fr:Frame}
def Dg(p:ja Y cx env k fr w H s){sl:ζ θ}(ht:wF t=Qa q)(hs:lH (sQ cx) q.1 sl){v:ab}(hv:jG C w v rv)(hb:mQ fr sl q.2 v=Qa fr1) 
  (h:∀k' s',om Y cx env k.ex w s k' fr1 w H s'->Q () s'):Qi C.M Y.A (assign t env rv) Q E s:=by
 obtain⟨mvs,b1,rfl,b3,b4⟩:=EO hb;rcases SF ht with ⟨x,pp,rfl,rfl⟩| ⟨es,n,pp,rfl,hq,hes⟩
 ·cases b4 rfl
  cases hs with
  |Κ hi hs=>
   cases hs;exact Ξ.TL (qN p hi hv h)
 ·cases b3 hq
  obtain⟨tt,o,n',ws,rfl,ho,hc,hd,rr,_⟩:=p.st.ay hv;exact QZ (items:=ws.τ) Y.tz ⟨o,ho,hc,n',hd⟩ (by rw[(nC (env:=env) hes).2.1,Zz,<-rr.ε,b1,hs.ε]) (nC (env:=env) hes).2.2 λh' he=>yC hs (nC (env:=env) hes).1 rr b1 (⟨p.b,p.c,p.f,p.st.grown he⟩:ja Y cx env k fr w H {s with heap:=h'}) λk' s' n2=>h k' s' ⟨n2.ex,n2.le,n2.pl,n2.cj.1,n2.cj.2⟩
inductive BA{C:bf}{d e:θ}(Y:kD C d e)(cx:CC)(env:Env)(ex:bw)(w0:Wd)(s0:Qf)(I:Qj)(z:It)(F:θ->Θ->MH->SR)(r:(Fl×Θ)×MH)(s:Qf):Prop
 |mk(k:Kp)(fr:Θ)(w:Wd)(H:MH)(j:θ)(io:wT)(ex':k.ex=ex)(le:w0.le w)(p:ja Y cx env (k.Tb (I,io)) fr w H s)(it:pC C w io j z)(sm:qI s0 s)(lp:F j fr H=Qa r):BA Y cx env ex w0 s0 I z F r s
theorem ja.gq{q:Qj×wT}(p:ja Y cx env (k.Tb q) fr w H s)(hx:Ix.ExtBut q.1 s.Ω h'):ja Y cx env k fr w H {s with heap:=h'}:=⟨p.b,p.c,p.f,cb.gq (b:=q.1) (o:=q.2) p.st hx⟩
def Ii{ov:η ab}{v:ab}{a:β}{f:ab->β}{r:β}(h:ov=Qa v)(q:JG (motive:=λ_=>β) ov a f=r):f v=r:=by subst h;exact q
def Ij{ov:η ab}{a:β}{f:ab->β}{r:β}(h:ov=Qc)(q:JG (motive:=λ_=>β) ov a f=r):a=r:=by subst h;exact q
section
variable(M:Jh)(A:QC)(env:Env)(R:Result->Qf->Prop)(I:Nat->Qf->Prop)(n:Nat)
def qc:μ->Qf->Prop:=notedBy M A env λe s'=>R (.error e) s'
def eJ:Ji->Qf->Prop:=λf s=>Flow.Α (motive:=λ_=>Prop) f (∃m,m<n/\I m s) (R (.ok .Ϭ) s) (∃m,m<n/\I m s) λv=>R (.ok (.ret v)) s
def iK(t:ϛ)(it:μ)(b:ζ Qx)(v:μ)(s:Qf):Prop:=Qi M A (letOwnedTupleGo t it v) (λ_ s₁'=>Qi M A (assign t env v) (λ_ s₂=>Qi M A (Ξ.execs b env) (eJ R I n) (qc M A env R) s₂) (qc M A env R) s₁') (qc M A env R) s
def iM(t:ϛ)(it:μ)(b:ζ Qx):η μ->Qf->Prop:=λr s=>JG (motive:=λ_=>Prop) r (Qi M A (Ξ.execs [] env) (λf s₃=>R (.ok f) s₃) (qc M A env R) s) λv=>iK M A env R I n t it b v s
end
def RD(C:bf)(d:θ)(z:It)(sl:ζ θ)(m:Ε)(ib:ζ Sm):θ->θ->Θ->MH->SR:=UZ (λi h=>lI h i z) (λfr v=>mQ fr sl m v) (λfr h=>execs (C.cx d) ib fr h)
def RC{Y:kD C d 2}{w0:Wd}{F:θ->θ->Θ->MH->SR}{r:(Fl×Θ)×MH}{g:Fl×Θ}{k6:Kp}{w6:Wd}{H6:MH} 
  (hI:∀m s,BA Y cx env ex w0 s0 Ia z (F m) r s->I m s) (hq:∀k' w' f s',om Y cx env ex w0 s0 k' r.1.2 w' r.2 s'->ua C w' r.1.1 f->R (.ok f) s')
  (st:∀m,F m (j+1) g.2 H6=Qa r->BA Y cx env ex w0 s0 Ia z (F m) r s6) (rn:om Y cx env ex w0 s0 k6 g.2 w6 H6 s6) (r6:ua C w6 g.1 f6)
  (lp:Fl.Α (motive:=λ_=>SR) g.1 (F n (j+1) g.2 H6) (Qa ((.nx,g.2),H6)) (F n (j+1) g.2 H6) (λv=>Qa ((.rt v,g.2),H6))=Qa r):eJ R I (n+1) f6 s6:=by
 obtain⟨fl,fr6⟩:=g;cases r6 with
 |nx=>exact⟨n,JT n,hI n s6 (st n lp)⟩
 |ct=>exact⟨n,JT n,hI n s6 (st n lp)⟩
 |bk=>obtain rfl:=Qa.dL lp;exact hq _ w6 .Ϭ s6 rn .nx
 |rt h=>obtain rfl:=Qa.dL lp;exact hq _ w6 _ s6 rn (.rt h)
def MF{sl:ζ θ}{ib:ζ Sm}(ht:wF t=Qa q)(hsl:lH (sQ cx) q.1 sl)(hb:u9 C d cx b ib){Y:kD C d 2}{w0:Wd}{r:(Fl×Θ)×MH} 
  (hI:∀m s,BA Y cx env ex w0 s0 Ia z (RD C d z sl q.2 ib m) r s->I m s) (hq:∀k' w' f s',om Y cx env ex w0 s0 k' r.1.2 w' r.2 s'->ua C w' r.1.1 f->R (.ok f) s')
  (h:BA Y cx env ex w0 s0 Ia z (RD C d z sl q.2 ib n) r s'):Qi C.M Y.A (pyNext (.ο Ia)) (iM C.M Y.A env R I n t (.ο Ia) b) (qc C.M Y.A env R) s':=by
 obtain⟨k3,fr3,w3,H3,j,io3,ex3,le3,p3,R3,sm3,lp⟩:=h;cases n with
 |zero=>exact af lp
 |succ n=>
  refine jR (λov hov lp=>?_) lp;refine L8 p3.st R3 hov ⟨λv rv io4 h' tk hv S4 R4 hr=>?_,λh' hv S4=>?_⟩
  ·refine WL (s:={s' with heap:=h',toks:=tk}) S4.fk.1 R4.cls ?_
   refine jR (λfr5 hb5 lp=>?_) (Ii hv lp);have p4:ja Y cx env (k3.Tb (Ia,io4)) fr3 w3 H3 {s' with heap:=h',toks:=tk}:=⟨p3.b,p3.c,p3.f,S4⟩;refine Dg p4 ht hsl hr hb5 λk5 s5 n5=>?_;refine jH (λg H6 e6 lp=>?_) lp;refine hb Y env k5 fr5 w3 H3 s5 n5.pl _ e6 _ _ λk6 w6 f6 s6 n6 r6=>?_;have n6':=n5.ν n6;have sm6:qI s0 s6:=sm3.ν ⟨n6'.cj.1,n6'.cj.2⟩;have p6:ja Y cx env ((⟨k6.ce,k3.ex,k6.m⟩:Kp).Tb (Ia,io4)) g.2 w6 H6 s6:=by
    have:=n6'.pl
    obtain⟨ce6,ex6,m6⟩:=k6;cases n6'.ex;exact this
   exact RC hI hq (λm lp=>⟨⟨k6.ce,k3.ex,k6.m⟩,g.2,w6,H6,j+1,io4,ex3,le3.ν n6'.le,p6,R4.Ν n6'.le,sm6,lp⟩) (⟨ex3,le3.ν n6'.le,p6.gq λ_ _ _ e=>e,sm6⟩:om Y cx env ex w0 s0 ⟨k6.ce,k3.ex,k6.m⟩ g.2 w6 H6 s6) r6 lp
  ·have lp:=Ij hv lp
   obtain rfl:=Qa.dL lp;exact QH (hq k3 w3 .Ϭ {s' with heap:=h'} ⟨ex3,le3,⟨p3.b,p3.c,p3.f,S4⟩,sm3.1,sm3.2⟩ .nx)
def Cu{it:ϛ}{sl:ζ θ}{ii:Ex}{ib:ζ Sm}(ht:wF t=Qa q)(hsl:lH (sQ cx) q.1 sl)(hi:Sd C d cx it ii)(hb:u9 C d cx b ib):vY C d cx (.For t it b [] pos) (.fo sl q.2 ii ib):=by
 intro Y env k fr w H s p r;show cf (eval (C.cx d) ii fr H) (λv h1=>(nA h1 v).Η λk=>RD C d k sl q.2 ib (C.cx d).cv 0 fr h1)=Qa r->_;refine jH λu H1 e1=>jR λz hz lp=>?_;intro Q E hq;exact wpAny_For (hi.es Y env k k.m fr w H s p.pl _ e1 _ _ λw1 a1 s1 n1 r1=>Ha n1.st r1 (λI io h2 S2 R2=>codeAny_forLoop_any (λn s'=>BA Y cx env k.ex w s I z (RD C d z sl q.2 ib n) r s') (λn s' h=>Eq.mp (by kernel_rfl) (MF (R:=λr s=>match r with| .ok f=>Q f s| .error e=>cameBackBy C.M Y.A env E e s) (n:=n) ht hsl hb (λ_ _ h=>h) hq h)) (C.cx d).cv ⟨k,fr,w1,H1,0,io,rfl,n1.le,⟨p.b,p.c,(p.Ϭ n1).f,S2⟩,R2,⟨n1.cj.1,n1.cj.2⟩,lp⟩) hz) (hi.sy.yr env)
def zfK {e:ϛ}:dropValue e pos v=pure .Ϭ\/dropValue e pos v=(do standAt pos;let _<-runValue (.ϭ "proto.let_go" {});pure .Ϭ):=by
 have h:dropValue (.Tuple [] 0 pos) pos v=pure .Ϭ\/dropValue (.Tuple [] 0 pos) pos v=(do standAt pos;let _<-runValue (.ϭ "proto.let_go" {});pure .Ϭ):=by
  cases v<;>first|exact .nb rfl|exact .u8 rfl
 cases e<;>first|exact .nb rfl|exact Eq.mp (by kernel_rfl) h
def Fd{v:ϛ}{iv:Ex}(hc:pT v=Qb)(hv:Sd C d cx v iv):vY C d cx (.ϛ v pos) (.expr iv):=by
 intro Y env k fr w H s p r;show cf (eval (C.cx d) iv fr H) (λ_ h1=>Qa ((.nx,fr),h1))=Qa r->_;refine jH λu H1 e1 e=>?_;refine lN e ?_;intro Q E hq;rw[exec_Expr env v pos (by unfold interactive;rw[p.b.Tc];rfl) (hv.sy.swap hc _ _ _)];refine Qd (Qm (Qd (hv.es Y env k k.m fr w H s p.pl _ e1 _ _ λw1 a1 s1 n1 r1=>?_)));have fe:=hq k w1 .Ϭ s1 (p.nx n1) .nx;rcases zfK (e:=v) (pos:=pos) (v:=a1) with h|h
 ·rw[h];exact Qg fe
 ·rw[h];exact Qd (Qm (Qd (wpAny_runValue (codeAny_builtin entry_let_go (Qg (Qg fe))))))
theorem nN{P:Prop}(h:Qb=Qe):P:=υ h Zq
def LC(e:ϛ):Prop:=∃a b c p,e=.Tq a b c p
theorem Mp{e:ϛ}:pT e=Qe->LC e:=ϛ.Α (Ϝ:=λe=>pT e=Qe->LC e) e (λ_ _ _ h=>nN h) (λ_ _ _ h=>nN h) (λ_ _ _ _ h=>nN h) (λ_ _ _ h=>nN h) (λ_ _ _ _ h=>nN h) (λ_ _ _ _ h=>nN h) (λ_ _ _ h=>nN h) (λ_ _ _ h=>nN h) (λa b c p _=>⟨a,b,c,p,rfl⟩) (λ_ _ _ _ h=>nN h) (λ_ _ _ _ _ h=>nN h) (λ_ _ _ _ h=>nN h) (λ_ _ h=>nN h) (λ_ _ h=>nN h) (λ_ _ h=>nN h) (λ_ _ _ _ h=>nN h) (λ_ _ _ _ h=>nN h) (λ_ _ _ _ h=>nN h) (λ_ _ h=>nN h) (λ_ _ _ h=>nN h) (λ_ _ _ h=>nN h) (λ_ _ _ h=>nN h) (λ_ _ h=>nN h) (λ_ _ h=>nN h) (λ_ _ h=>nN h) (λ_ _ _ h=>nN h) (λ_ _ _ _ h=>nN h)
def Cg{v o:ϛ}{i:Ex}(hv:Sd C d cx v i)(hr:∀a b c p,swapsWith (.Tq a b c p) (Qa o) n env=pure Qb):swapsWith v (Qa o) n env=pure false:=by
 refine rY (pT v) (λhc=>?_) λhc=>?_
 ·obtain⟨a,b,c,p,rfl⟩:=Mp hc;exact hr a b c p
 ·exact hv.sy.swap hc _ _ _
def DS(O:mZ C gl){o:ϛ}{v:ϛ}{io iv:Ex}(hn:jL nm=Qe)(ho:Sd C d cx o io)(hv:Sd C d cx v iv):vY C d cx (.Assign [.KT o nm xp] v pos) (.fm (.at io (ek nm)) iv):=by
 intro Y env k fr w H s p r;show cf (eval (C.cx d) iv fr H) (λv h1=>cf (cf (eval (C.cx d) io fr h1) λov h2=>(setAttr C.P h2 ov (ek nm) v).ς λh3=>(fr,h3)) λfr' h2=>Qa ((.nx,fr'),h2))=Qa r->_;refine jH λu H1 e1=>jH λfr' H2 e2 e=>?_;refine lN e ?_
 revert e2
 refine jH λov H3 e3=>kE λH4 hs e4=>?_;cases e4;exact λQ E hq=>plainObj_wpAny_Assign_Attribute (hv.es Y env k k.m _ w H s p.pl _ e1 _ _ λw1 a1 s1 n1 r1=>ho.es Y env k k.m _ w1 H1 s1 (p.Ϭ n1).pl _ e3 _ _ λw2 a2 s2 n2 r2=>
  y3 O n2.st hn r2 (r1.Ν n2.le) (λs3 n3=>hq k w2 .Ϭ s3 (p.nx ((n1.ν n2).ν n3)) .nx) hs) (Cg hv λ_ _ _ _=>rfl)
def EY{v:ab}(hv:jG C w v rv):∀{ms:ζ ab}{vs:ζ μ}{j:θ},jD C w ms vs->jD C w (ms.ϩ j v) (vs.ϩ j rv):=by
 intro ms
 induction ms with
 |ϟ=>intro vs j h;refine eqB h ?_;exact .ϟ
 |Κ m ms ih=>
  intro vs j h;obtain⟨x,t,rfl,h,r⟩:=h;cases j with
  |zero=>exact .Κ hv r
  |succ j=>exact .Κ h (ih r)
def DV(S:St Y k w H s){o i v:ab}(ho:jG C w o vo)(hi:jG C w i vi)(hv:jG C w v vv) 
  (h:∀s',ip Y k w w H' s s'->Q () s'):lT H o i v=Qa H'->Qi C.M Y.A (setItem vo vi vv) Q E s:=by
 refine jR λx e1=>kQ (jR λmvs hm=>kE λj hj e=>?_) (jR λp hp=>mB λhf e=>?_)
 ·cases ref?_s e1;subst e
  obtain⟨z,t,rfl,h0,h1,rfl⟩:=Mv hi hj;obtain⟨la,rfl,ha⟩:=ho;refine(bs hm).ι λob zq47=>?_;cases list?_s zq47.2;obtain⟨_,ws,n,e,hget,rr,hl⟩:=S.ξ (x:=.ο x) ⟨la,rfl,ha⟩ hm;cases e;refine Dz hget h0 (by rw[Zz,<-rr.ε];exact h1) (qaR h1 (sJ hl)) λh' n' hg hs=>h _ ⟨.TD w,S.bj ha zq47.1 (λen h=>?_) hs (by rw[hg,ζ.setIfInBounds_toArray]) ⟨_,n',rfl,EY hv rr,by rw[J0];exact hl⟩,rfl,rfl⟩;obtain⟨_,_,rfl,_,_⟩:=h;exact⟨_,rfl⟩
 ·cases ref?_s e1;obtain rfl:=Qa.dL e
  have hf:=Jn.mp hf;obtain⟨b,n,es,rfl,hmod,hep,hg,hdr,hl,bj⟩:=S.kj ho hp;refine V4 ⟨_,hg,rfl⟩ (BJ S (A:=Y.A.in1) (Y.u (n:=2) (by decide)) hg hdr hf.1 (Zl.mp hf.2) hi hv λes' h' tk hs hgo j'=>h _ ⟨.TD w,bj h' _ _ hs hgo ⟨es',_,rfl,λe he=>?_,j',Lc (Zl.mp hf.2)⟩,rfl,rfl⟩);cases hq:(jO p.2 i).Ψ with
  |true=>rw[hq] at he;exact hep e he
  |false=>
   rw[hq] at he;obtain⟨e0,he0,rfl⟩:=ms he;exact χ (· +1) (hep e0 he0)
def L5{o i:ϛ}{v:ϛ}{io ii iv:Ex}(ho:Sd C d cx o io)(hi:Sd C d cx i ii)(hv:Sd C d cx v iv):vY C d cx (.Assign [.Subscript o i xp] v pos) (.fm (.sb io ii) iv):=by
 intro Y env k fr w H s p r;show cf (eval (C.cx d) iv fr H) (λv h1=>cf (cf (eval (C.cx d) io fr h1) λov h2=>cf (eval (C.cx d) ii fr h2) λiv h3=>(lT h3 ov iv v).ς λh4=>(fr,h4)) λfr' h2=>Qa ((.nx,fr'),h2))=Qa r->_;refine jH λu H1 e1=>jH λfr' H2 e2 e=>?_;refine lN e ?_
 revert e2
 refine jH λov H3 e3=>jH λix H4 e4=>kE λH5 hs e5=>?_;cases e5;exact λQ E hq=>wpAny_Assign_Subscript (hv.es Y env k k.m _ w H s p.pl _ e1 _ _ λw1 a1 s1 n1 r1=>ho.es Y env k k.m _ w1 H1 s1 (p.Ϭ n1).pl _ e3 _ _ λw2 a2 s2 n2 r2=>hi.es Y env k k.m _ w2 H3 s2 ((p.Ϭ n1).Ϭ n2).pl _ e4 _ _ λw3 a3 s3 n3 r3=>
  DV n3.st (r2.Ν n3.le) r3 (r1.Ν (n2.le.ν n3.le)) (λs4 n4=>hq k w3 .Ϭ s4 (p.nx (((n1.ν n2).ν n3).ν n4)) .nx) hs) (Cg hv λ_ _ _ _=>rfl)
def Dp(O:mZ C gl)(hC:oL C d)(hg:NE C cx.gl)(hcc:UA cx):∀(n:θ),(∀(st:Qx)(ir:Sm),tC n cx st=Qa ir->vY C d cx st ir)/\∀(sts:ζ Qx)(irs:ζ Sm),nY (λs=>Qa ((tC n cx s).bm .gw)) sts=Qa irs->u9 C d cx sts irs:=by
 intro n;have hE:∀{e ir},pJ cx e=Qa ir->Sd C d cx e ir:=λh=>Wb O hC 60 cx hg hcc _ _ h;have lists:∀{n:θ},(∀(st:Qx)(ir:Sm),tC n cx st=Qa ir->vY C d cx st ir)->∀(sts:ζ Qx)(irs:ζ Sm),nY (λs=>Qa ((tC n cx s).bm .gw)) sts=Qa irs->u9 C d cx sts irs:=by
  intro n h sts irs e
  induction qU e with
  |ϟ=>exact Ct
  | @Κ st i _ _ h1 h2 ih=>
   have rest:=ih (by
    refine(bs e).ι λb zq16=>?_;have e:=zq16.2;refine xEA (ms e) λc h3 e=>?_;cases e;exact h3)
   refine Fe ?_ rest;cases hs:tC n cx st with
   |some i'=>rw[hs] at h1;cases h1;exact h st _ hs
   |none=>rw[hs] at h1;cases h1;exact λY env k fr w H s p r e=>af e
 have st:∀(st:Qx)(ir:Sm),tC n cx st=Qa ir->vY C d cx st ir:=by
  induction n with
  |zero=>exact λst ir h=>af h
  |succ n ih=>
   have ihs:=lists ih;intro st ir;cases st with
   |Pass pos=>intro h;cases h;exact λY env k fr w H s p r e Q E hq=>by cases e;exact wpAny_Pass (hq k w _ s p.rf .nx)
   |Break pos=>intro h;cases h;exact λY env k fr w H s p r e Q E hq=>by cases e;exact λ_ _ _=>hq k w _ s p.rf .bk
   |Continue pos=>intro h;cases h;exact λY env k fr w H s p r e Q E hq=>by cases e;exact λ_ _ _=>hq k w _ s p.rf .ct
   |Return v pos=>
    intro h;cases v with
    |none=>cases h;exact Fc
    |some e=>obtain⟨i,hi,rfl⟩:=ms h;exact Cs (hE hi).es
   |Assign ts v pos=>
    intro h;refine xEA (WQ h) λt cw h=>?_;subst cw;have h:JG (motive:=λ_=>η Sm) (u7 t) ((MY cx t).Η λa=>(pJ cx v).ς λb=>.fm a b) (λp=>aw (UI v) ((pJ cx v).Η λb=>ba ((Iz p.1).Η λxs=>(nY (GF cx) xs).ς λis=>.jo (is.ς .nm) b) (aw (!p.1.db) ((nY (MZ cx) p.1).ς λts=>.jo (ts.ς λq=>.at q.1 q.2) b))))=Qa ir:=h;cases ht:u7 t with
    |some p=>
     rw[ht] at h;cases Wa ht
     revert h
     refine mB λhok=>jR λb hb=>kQ (jR λxs hx=>kE λis his e=>?_) (mB λhne=>kE λts hts e=>?_)
     ·refine(bs hx).ι λxs' zq13=>?_
      have h2:=zq13.2;refine xA (gs h2) λh2 h3=>?_;cases h3;exact e▸Ff hok (qU zq13.1) (Ο h2) (A7 his) (hE hb)
     ·refine e▸L4 O hok (by cases hq:p.1.db;rfl;rw[hq] at hne;cases hne) ((qU hts).Ν λe q h=>?_) (hE hb)
      refine xEA (bs h) λp hp h=>?_;refine xA (gs h) λhn h=>?_;refine xEA (ms h) λi hi iq=>?_;subst iq;exact⟨p.1,p.2.1,p.2.2,VH hp,hn,rfl,hE hi⟩
    |none=>
     rw[ht] at h;refine xEA (bs h) λa ha h=>?_;refine xEA (ms h) λb hb qi=>?_;subst qi
     revert ha
     refine kQ (jR λp hp=>mB λ_=>kE λi hi e=>?_) (kQ (jR λp hp=>mB λhn=>kE λi hi e=>?_) (jR λp hp=>jR λi hi=>kE λj hj e=>?_))
     ·rw[<-e,qH hp]
      refine Cv hcc hi (hE hb) λ{dz gens sc cp} ev=>?_;subst ev
      clear h
      refine xEA (WQ (show FB gens _=Qa b from hb)) λg eg hz=>?_;subst eg;refine(bs hz).ι λq zq5=>?_;have zq4:=gs zq5.2;exact(bs zq4.2).ι λii zq3=>(bs zq3.2).ι λiifs zq2=>(ms zq2.2).ι λie zq1=>⟨g,q,ie,ii,iifs,rfl,⟨Β.mp (Jn.mp zq4.1).1,zq5.1,A9 (Jn.mp zq4.1).2,Wb O hC 59 cx hg hcc _ _ zq3.1,(Wb O hC 59 (cn cx sc q.1) hg (hcc.cn sc q.1)) _ _ zq1.1,(qU zq2.1).Ν (Wb O hC 59 (cn cx sc q.1) hg (hcc.cn sc q.1))⟩,zq1.2.Μ⟩
     ·rw[<-e,VH hp];exact DS O hn (hE hi) (hE hb)
     ·rw[<-e,Sh hp];exact L5 (hE hi) (hE hj) (hE hb)
   |If t x y pos=>exact jR λa ha=>jR λb hb=>kE λc hc e=>e▸Oy (hE ha).ts (ihs _ _ hb) (ihs _ _ hc)
   |While t b e pos=>
    refine mB λhe=>jR λa ha=>kE λc hc e'=>?_;cases e with
    |ϟ=>exact e'▸DP (hE ha).ts (ihs _ _ hc)
    |Κ _ _=>cases he
   |For t it b e pos=>
    refine mB λhe=>jR λq hq=>mB λ_=>jR λa ha=>jR λsl hs=>kE λc hc e'=>?_;cases e with
    |ϟ=>exact e'▸Cu hq (A7 hs) (hE ha) (ihs _ _ hc)
    |Κ _ _=>cases he
   |ϛ v pos=>exact mB λhc=>kE λi hi e=>e▸Fd (by cases hq:pT v;rfl;rw[hq] at hc;cases hc) (hE hi)
   |_=>exact λh=>af h
 exact⟨st,lists st⟩
end
theorem EI(ps:ζ be)(sc:Scope)(gl:ζ (be×ab)):UA (MG ps sc gl):=λx i h=>by
 refine((oU x _ 0).1 i h).ι λj zq32=>?_;refine eqB zq32.1 ?_;rw[ZK];exact(Jx.mp zq32.2).1
def AA{kindOf:be->η Qr}:∀{r:ζ (be×μ)}{m:be->η μ},x∉r.ς (·.1)->bindL kindOf r m x=m x:=by
 intro r
 induction r with
 |ϟ=>exact λ_=>rfl
 |Κ p r ih=>
  intro m h;unfold bindL;rw[ih λq=>h (.lw _ q)];split
  ·exact π λq:x=p.1=>h (q▸ .mo _)
  ·rfl
def AB{kindOf:be->η Qr}:∀{r:ζ (be×μ)}{m:be->η μ},x∉r.ς (·.1)->bindC kindOf r m x=m x:=by
 intro r
 induction r with
 |ϟ=>exact λ_=>rfl
 |Κ p r ih=>
  intro m h;unfold bindC;rw[ih λq=>h (.lw _ q)];split
  ·rfl
  ·exact π λq:x=p.1=>h (q▸ .mo _)
def EN{kindOf:be->η Qr}:∀{r:ζ (be×μ)}{m:be->η μ},(x,v)∈r->(r.ς (·.1)).ϥ->(kindOf x=Qa .TI->bindL kindOf r m x=Qa v)/\(kindOf x≠Qa .TI->bindC kindOf r m x=Qa v):=by
 intro r
 induction r with
 |ϟ=>exact λh _=>υ h JE
 |Κ p r ih=>
  intro m h hd;have hd:=JK.mp hd;unfold bindL bindC;rcases JO.mp h with e|h
  ·subst e
   exact⟨λhk=>by rw[AA hd.1,ρ hk];exact ρ rfl,λhk=>by rw[AB hd.1,π hk];exact ρ rfl⟩
  ·exact⟨(ih h hd.2).1,(ih h hd.2).2⟩
def Vq{cells:bw}(h:CellsAre cm cs cells):cs.ω x=Qa c->∃o,(c,o)∈cells/\o.Te=.Tk (cm x):=by
 induction h with
 |ϟ=>exact λh=>af h
 | @Κ n a o cs cells hd r ih=>
  intro h;rw[ZE] at h;refine rY (x==n) (λe=>?_) λe=>?_
  ·rw[e] at h;refine lN h ?_;rw[Β.mp e];exact⟨o,.mo _,hd⟩
  ·rw[e] at h;obtain⟨o',h1,h2⟩:=ih h;exact⟨o',.lw _ h1,h2⟩
def yT{cells:bw}(h:CellsAre cm cs cells):cells.ς (·.1)=cs.ς (·.2):=by
 induction h with
 |ϟ=>rfl
 |Κ _ _ ih=>exact χ (_:: ·) ih
def rC(lo:θ):∀(names:ζ (be×Qr))(n:θ)(acc:ζ (be×Qj)),lo<=n->(acc.ς (·.2)).ϥ->(∀p∈acc,p.2<n/\lo<=p.2)->((cellsFrom n names acc).ς (·.2)).ϥ/\∀p∈cellsFrom n names acc,lo<=p.2:=by
 intro names
 induction names with
 |ϟ=>exact λn acc _ h hl=>⟨h,λp hp=>(hl p hp).2⟩
 |Κ q r ih=>
  intro n acc hn h hl;unfold cellsFrom;split
  ·refine ih (n+1) _ (J4 hn) ?_ ?_
   ·rw[JY,JK]
    exact⟨λhx=>(JM.mp hx).ι λp zq31=>υ (hl p zq31.1).1 (by rw[zq31.2];exact J3 _),h⟩
   ·intro p hp
    rcases JO.mp hp with rfl|hp
    ·exact⟨JT _,hn⟩
    ·exact⟨Zu (hl p hp).1,(hl p hp).2⟩
  ·exact ih n acc hn h hl
def I7{y:be}:(cs.ς (·.2)).ϥ->cs.ω x=Qa c->cs.ω y=Qa c->x=y:=by
 induction cs with
 |ϟ=>exact λ_ h _=>af h
 |Κ p r ih=>
  intro hd hx hy;have hd:=JK.mp hd;rw[ZE] at hx hy;refine rY (x==p.1) (λex=>?_) λex=>?_
  ·rw[ex] at hx
   cases ey:y==p.1 with
   |true=>exact(Β.mp ex).ν (Β.mp ey).Μ
   |false=>rw[ey] at hy;exact((λh e=>hd.1 (JM.Ϩ ⟨_,j9 h,e⟩):∀{z},r.ω z=Qa c->c=p.2->False) hy (Qa.dL hx).Μ).ι
  ·rw[ex] at hx
   cases ey:y==p.1 with
   |true=>rw[ey] at hy;exact((λh e=>hd.1 (JM.Ϩ ⟨_,j9 h,e⟩):∀{z},r.ω z=Qa c->c=p.2->False) hx (Qa.dL hy).Μ).ι
   |false=>rw[ey] at hy;exact ih hd.2 hx hy
variable{ws:List ab}
def HS{Y:kD C d 2}{fn:Fn}{cells:bw}(hkind:scope.Tc=.wE)(hbn:xs.ϥ)(ru:jD C w ws us)(hlen:ws.ε=xs.ε)
  (hc:CellsAre (bindC (envOfC qual scope Y.L fa cdv).Fa (xs.zip us) λ_=>Qc) (cellsFrom (Y.L+1) scope.pt []) cells)
  (S:St Y ⟨cells,ex,bindL (envOfC qual scope Y.L fa cdv).Fa (xs.zip us) λ_=>Qc⟩ w H s):ja Y (MG xs scope gl) (envOfC qual scope Y.L fa cdv) ⟨cells,ex,bindL (envOfC qual scope Y.L fa cdv).Fa (xs.zip us) λ_=>Qc⟩ (oV fn ws) w H s:=by
 have slot:∀{x i},nG (MG xs scope gl) x=Qa i->(vQ xs scope)[i]?=Qa x:=λ{x i} h=>by
  refine((oU x (vQ xs scope) 0).1 i (zU h).2).ι λj zq30=>?_;have e:=zq30.1;rw[ZK] at e;exact e▸zq30.2
 have hz:((xs.zip us).ς (·.1)).ϥ:=by rw[ζ.map_fst_zip (by rw[<-hlen,ru.ε];exact Jv _)];exact hbn
 refine⟨⟨hkind,rfl,rfl,rfl,λx hx=>Zj.mp (QW scope.pt (Y.L+1) [] (.nb hx)),λx y c hx hy hcx hcy=>I7 ((rC 0 scope.pt (Y.L+1) [] (JF _) .ϟ λ_ h=>υ h JE).1) hcx hcy,rfl,λx y i hx hy=>Qa.dL ((slot hx).Μ.ν (slot hy))⟩,
  λx c _ hcx=>(Vq hc hcx).ι λo h=>⟨o,_,h.1,h.2⟩,λx i u hx hu=>?_,S⟩
 have hlt:i<ws.ε:=Xz λhge=>by
  delta oV at hu;rw[Z0 (by rw[Js];exact Zr hge)] at hu;obtain⟨_,hu'⟩:=Jx.mp hu;rw[ζ.getElem_replicate] at hu';cases hu'
 unfold oV at hu;rw[Z5 (by rw[Js];exact hlt),JA] at hu;refine(ms hu).ι λu' zq28=>?_;have hu2:=zq28.2;refine lN hu2 ?_;refine(ru.xL zq28.1).ι λrv zq27=>?_;have hr:=zq27.2;have hpx:xs[i]?=Qa x:=by
  have:=slot hx
  unfold vQ at this;rwa [Z5 (by rw[<-hlen];exact hlt)] at this
 have hmem:(x,rv)∈xs.zip us:=Jr (ζ.getElem?_zip_eq_some.Ϩ ⟨hpx,zq27.1⟩);rcases (zU hx).1 with hk|hk
 ·exact .kh rv hk ((EN hmem hz).1 hk) hr
 ·refine(Zj.mp (QW scope.pt (Y.L+1) [] (.nb hk))).ι λc zq26=>?_
  refine(Vq hc zq26).ι λo zq25=>?_;refine .Tk rv c o hk zq26 zq25.1 ?_ hr;rw[zq25.2,(EN hmem hz).2 (by show scope.pt.ω x≠_;rw[show scope.pt.ω x=Qa .Tk from hk];decide)]
inductive fH(gl:ζ (be×ab))(params:QX)(body:ζ Qx)(sc:Scope)(f:Fn):Prop
 |mk(kind:sc.Tc=.wE)(gen:sc.isGenerator=Qb)(co:sc.isCoroutine=Qb)(ps:∀x∈params.Id.ς (·.arg),sc.pt.ω x=Qa .TI\/sc.pt.ω x=Qa .Tk)(b:zal (MG (params.Id.ς (·.arg)) sc gl) body=Qa f.Th)(np:(params.Id.ς (·.arg)).ε=f.np):fH gl params body sc f
def Vo{f:Fn}(h:Vp gl params body sc=Qa (f.np,f.ns,f.Th)):fH gl params body sc f:=by
 obtain⟨hb,h⟩:=gs h;refine(ms h).ι λb zq23=>?_;have h2:=zq23.2;simp only[ZY,Zn,Xk,Β,qaT] at hb;simp only[Xr.injEq] at h2;exact⟨hb.1.1.1.2,hb.1.1.2,hb.1.2,hb.2,h2.2.2▸zq23.1,h2.1⟩
def jD.bn{ms:ζ ab}:∀{vs:ζ μ}{n:θ},jD C w ms vs->jD C w (ms.bn n) (vs.bn n):=by
 induction ms with
 |ϟ=>intro vs n h;refine eqB h ?_;rw[YE,YE];exact .ϟ
 |Κ m ms ih=>
  intro vs n h;cases n with
  |zero=>exact h
  |succ n=>obtain⟨v,t,rfl,_,r⟩:=h;exact ih r
def zc3{fn:Fn}(hk:C.K.In s.Ω)(k7:x5 C fn fd xs)(r:jD C w as vs)(ha:rF fn as=Qa ws):∃us,jD C w ws us/\ws.ε=fn.np/\BindsTo s fd ⟨vs,[]⟩ (xs.zip us):=by
 obtain⟨hc,e⟩:=gs ha;have h1:=Zl.mp (Jn.mp hc).1;have h2:=Zl.mp (Jn.mp hc).2;have e:=(Qa.dL e).Μ;rcases k7 with ⟨k5,k7⟩| ⟨_,dvs,k7a,k7b⟩
 ·rw[k5] at h2 e
  rw[YE,Zi] at e;refine eqB e ?_;exact⟨vs,r,(KC h1 (YU (qau.mp h2))),BindsTo.of_eq (k7 vs (r.ε▸(KC h1 (YU (qau.mp h2)))))⟩
 ·refine⟨vs++dvs.bn (dvs.ε-(fn.np-vs.ε)),?_,?_,kp_binds hk λSt=>k7b St vs (Jm (JC (XE r.ε)) h1) (Jm (θ.sub_le_sub_left (JC r.ε) _) (Jm h2 (JC ((k7a w).ε))))⟩
  ·rw[e,<-((k7a w).ε),<-r.ε]
   exact jD.append (k7a w).bn r
  ·rw[e,Ju,YY];exact(χ (as.ε+ ·) (θ.sub_sub_self h2)).ν (θ.add_sub_of_le h1)
abbrev iO(f:Ji):μ:=match f with| .ret v=>v|_=>.Δ
def Al{fl:Fl}{f:Ji}{fr:Θ}(hr:ua C w fl f)(e:RG (fl,fr) H=Qa r):jG C w r.1 (iO f)/\H=r.2:=by
 cases hr with
 |nx=>refine lN e ?_;exact⟨rfl,rfl⟩
 |bk=>exact af e
 |ct=>exact af e
 |rt h=>refine lN e ?_;exact⟨h,rfl⟩
def M8(O:mZ C gl):∀d,oL C d:=by
 intro d
 induction d with
 |zero=>exact λY k w H s f fa as vs r S hf rr e=>af e
 |succ d ih=>
  intro Y k w H s f fa as vs r S hf rr;refine jR λfn hfn=>jR λws hargs=>jH λq HE ev er R hq=>?_;obtain⟨hfa,ad,name,qual,params,body,scope,dV,kV,doc,pm,an,cdv,ct,oc,od,osl,k1,k2,k3,k4,k6,k7,k8,k10⟩:=O.oj _ _ hfn;rw[hfa,hf] at k1;obtain rfl:=Qa.dL k1;refine(zc3 S.mw k7 rr hargs).ι λus zq20=>?_;obtain⟨hkind,hgen,hco,hps,hbd,hnp⟩:=Vo k4;refine Y.below.ι λA₀ zq16=>zq16.ι λbase zq17=>zq17.ι λouter zq18=>?_;refine Y.ai.ι λp zq11=>zq11.ι λloose zq12=>zq12.ι λmean zq13=>zq13.ι λmg zq14=>zq14.ι λmb zq15=>?_;obtain⟨os,he,hn,hd⟩:=S.os;refine code_defC (binds:=(params.Id.ς (·.arg)).zip us) zq18.1 S.fr Y.k hn zq15 zq18.2 Y.frame Y.Tc k2 k3 (by have:=Y.depth;show Y.A.depth<1000;exact Jw (JV (Jq _ _)) (Jm (Ye this) (Jz _ _))) zq20.2.2 ?_ k10 (λg L' h₁ tk cells FG F' N' Yc B' Xg Tg hlt=>?_) hco hgen hkind
  ·rw[Zn]
   intro y hy;rw[Xk,Β,Β];exact hps y.1 (qa5 hy).1
  let Y':kD C d 2:=⟨(Y.A.deeper (envOfC qual scope L' fa cdv),g,L',envOfC qual scope L' fa cdv),⟨Y.A,base,Y.md::outer,B',Around.frames_deeper zq18.2⟩,Xg,⟨p,loose,mean,mg,mb,Tg⟩,rfl,hkind,Y.tz,by have:=Y.depth;show Y.A.depth+1+4*d+2+2<=900;lia,by have:=Y.units;show Y.A.units+3+20*d+190+5*2<=9900;lia⟩
  have zq10:=rC (L'+1) scope.pt (L'+1) [] (Jv _) .ϟ λ_ h=>υ h JE;have pm':∀cells:bw,(os.ld++(w.tp++(cells++(k.ce++k.ex)))).TH (cells++(os.ld++(w.tp++(k.ce++k.ex)))):=λcells=>(ζ.TH.append_left _ (Kx _ _ _)).ν (Kx _ _ _);have S':St Y' ⟨cells,k.ce++k.ex,bindL (envOfC qual scope L' fa cdv).Fa ((params.Id.ς (·.arg)).zip us) λ_=>Qc⟩ w H {s with heap:=h₁,toks:=tk}:=by
   refine⟨F',⟨os,he,λp hp=>N' p ((pm' cells).re.mp hp),bw.nd.jf (pm' cells).Μ (GQ ?_ hd λx hx y hy e=>?_)⟩,Jm S.pd (Jm FG.above (JL FG.ns.lt)),S.lo⟩
   ·unfold bw.nd;rw[yT Yc];exact zq10.1
   ·have hx':x.1∈cells.ς (·.1):=JM.Ϩ ⟨x,hx,rfl⟩
    rw[yT Yc] at hx';exact(JM.mp hx').ι λq zq9=>υ (Jw (hlt y hy) (XJ (zq10.2 q zq9.1))) (by rw[zq9.2,e];exact J3 _)
  refine(Dp O ih O.yq (EI _ _ _) 40).2 _ _ hbd Y' _ _ _ _ _ _ (HS (Y:=Y') (gl:=gl) (fn:=fn) (ex:=k.ce++k.ex) hkind k8 zq20.1 (zq20.2.1.ν hnp.Μ) Yc S') _ ev _ _ λk1 w1 f1 s1 n1 r1=>?_;obtain⟨os1,he1,hn1,hd1⟩:=n1.pl.st.os;rw[show k1.Db w1 os1=os1.ld++(w1.tp++(k1.ce++(k.ce++k.ex))) from by unfold Kp.Db;rw[n1.ex]] at hn1 hd1;have sub:(k.Db w1 os1).Sublist (os1.ld++(w1.tp++(k1.ce++(k.ce++k.ex)))):=(ζ.Sublist.TD _).append ((ζ.Sublist.TD _).append (ζ.sublist_append_right _ _));exact leaveK_ n1.pl.st.fr hn1 λF2 N2=>hq w1 _ s1 ⟨n1.le,⟨F2,⟨os1,(Al r1 er).2▸he1,λp hp=>N2 p (sub.subset hp),ζ.Sublist.nodup (ζ.Sublist.ς _ sub) hd1⟩,S.pd,n1.pl.st.lo⟩,n1.cj.1,n1.cj.2⟩ ((Al r1 er).1)
def Md(O:mZ C gl){p:Qy}(X:C.K.In s₁.Ω)(T:Top p loose mean mg mb s₁.Ω)(hbig:4<=s₁.Ω.wv.pc)
  {f:θ}{fa:Qj}{mvs:ζ ab}{rv:μ}{r:ab×MH} (hf:C.ad.ω f=Qa fa) (hlaw:∀fn,C.P.jn f=Qa fn->fn.mf=[]) (hv:jG C ⟨[],[]⟩ (.fl mvs) rv) (ev:mD C.P xH 61 f [.fl mvs] []=Qa r) {Q:μ->Qf->Prop}{E:μ->Qf->Prop}
  (hq:∀w v s',jG C w r.1 v->(∀b o,s₁.Ω.ut b=Qa o->s'.Ω.ut b=Qa o)->s'.gens=s₁.gens->s'.os=s₁.os->Q v s'):
  Qi C.M callerA (call (.ο fa) [rv]) Q E s₁:=by
 revert ev
 refine jR λfn hfn=>jR λws hargs=>jH λq HE ev er=>?_;obtain⟨hfa,ad,name,qual,params,body,scope,dV,kV,doc,pm,an,cdv,ct,oc,od,osl,k1,k2,k3,k4,k6,k7,k8,k10⟩:=O.oj _ _ hfn;rw[hfa,hf] at k1;obtain rfl:=Qa.dL k1;obtain⟨k5,k7⟩:=k7.resolve_right λh=>h.1 (hlaw fn hfn);obtain⟨hkind,hgen,hco,hps,hbd,hnp⟩:=Vo k4;obtain⟨hc,e⟩:=gs hargs;have hc:=Jn.mp hc;rw[k5] at hc e;rw[YE,Zi] at e;obtain rfl:=Qa.dL e;have hl:1=fn.np:=KC (Zl.mp hc.1) (YU (qau.mp (Zl.mp hc.2)));refine wpAny_call (codeAny_call_cells (binds:=(params.Id.ς (·.arg)).zip [rv]) (fd:=fnOf name qual params body scope dV kV doc pm an cdv ct) (body:=body) (by decide) (X _ _ k2) rfl T.nolimit (codeRec_of X k3) rfl (k7 [rv] hl) rfl ?_ (λs2 x=>?_) hco hgen hkind)
 ·intro y hy
  rcases hps y.1 (qa5 hy).1 with h|h
  ·exact .nb h
  ·exact .u8 ⟨h,QW _ _ _ (.nb h)⟩
 refine x.done.ι λh₁ zq2=>zq2.ι λtk zq3=>?_;obtain rfl:=zq3.1;refine(Cl.news (h₀:=s₁.Ω) (Jv _) λn c hm=>⟨x.Tk n c (lookup_of_mem_nodup (cellsFrom_names scope.pt 0 (s₁.Ω.wv.pc+1) [] [] rfl▸k10) hm),x.above n c hm⟩).ι λcells zq1=>?_
 let Y':kD C 60 2:=⟨(callerA.deeper (envOfC qual scope s₁.Ω.wv.pc fa cdv),s₁.Ω,s₁.Ω.wv.pc,envOfC qual scope s₁.Ω.wv.pc fa cdv),⟨callerA,s₁.Ω,[],below_caller _,rfl⟩,X,⟨p,loose,mean,mg,mb,T⟩,rfl,hkind,rfl,(by decide:301+1+4*60+2+2<=900),(by decide:4+3+20*60+190+5*2<=9900)⟩
 have eq:(⟨cells,[],bindL (envOfC qual scope s₁.Ω.wv.pc fa cdv).Fa ((params.Id.ς (·.arg)).zip [rv]) λ_=>Qc⟩:Kp).Db ⟨[],[]⟩ []=cells:=Zi _;have S':St Y' ⟨cells,[],bindL (envOfC qual scope s₁.Ω.wv.pc fa cdv).Fa ((params.Id.ς (·.arg)).zip [rv]) λ_=>Qc⟩ ⟨[],[]⟩ [] {s₁ with heap:=h₁,toks:=tk}:=
  ⟨(⟨x.toInCall.ns,x.toInCall.keep,Jv _⟩:Fr s₁.Ω s₁.Ω.wv.pc h₁ (bindL (envOfC qual scope s₁.Ω.wv.pc fa cdv).Fa ((params.Id.ς (·.arg)).zip [rv]) λ_=>Qc)),⟨[],⟨rfl,rfl⟩,eq.Μ▸zq1.1,eq.Μ▸(by unfold bw.nd;rw[yT zq1.2];exact((rC 0 scope.pt (s₁.Ω.wv.pc+1) [] (JF _) .ϟ λ_ h=>υ h JE).1))⟩,hbig,λ_ h=>υ h JE⟩
 refine(Dp O (M8 O 60) O.yq (EI _ _ _) 40).2 _ _ hbd Y' _ _ _ _ _ _ (HS (Y:=Y') (gl:=gl) (fn:=fn) (ex:=[]) hkind k8 (.da hv) (by rw[hnp];exact hl) zq1.2 S') _ ev _ _ λk1 w1 f1 s1 n1 r1=>?_;exact hq w1 _ s1 (Al r1 er).1 n1.pl.st.fr.keep n1.cj.1 n1.cj.2
def Data.seq?(d:Data):η (ζ μ×θ):=qah (motive:=λ_=>η (ζ μ×θ)) d Qc (λ_=>Qc) (λxs n=>Qa (xs.ss,n)) (λ_ _=>Qc) (λ_ _ _=>Qc) (λ_ _=>Qc) (λ_=>Qc) (λ_=>Qc) (λ_=>Qc) (λ_=>Qc) Qc
def seq?_s{d:Data}{p:ζ μ×θ}:Data.seq? d=Qa p->d=.seq p.1.τ p.2:=by
 cases d<;>first|exact λe=>af e|(intro e;refine lN e ?_;rfl)
def Data.func?(d:Data):η FuncData:=qah (motive:=λ_=>η QR) d Qc (λ_=>Qc) (λ_ _=>Qc) (λ_ _=>Qc) (λ_ _ _=>Qc) (λ_ _=>Qc) (λ_=>Qc) Qa (λ_=>Qc) (λ_=>Qc) Qc
def func?_s{d:Data}{f:QR}:Data.func? d=Qa f->d=.func f:=by
 cases d<;>first|exact λe=>af e|(intro e;refine lN e ?_;rfl)
def μ.ref?(v:μ):η Addr:=qaI (motive:=λ_=>η Qj) v Qc Qc Qc (λ_=>Qc) (λ_ _=>Qc) (λ_ _=>Qc) (λ_ _=>Qc) (λ_ _=>Qc) (λ_=>Qc) (λ_=>Qc) Qa
def zgX?_s{v:μ}{a:Qj}:μ.ref? v=Qa a->v=.ο a:=by
 cases v<;>first|exact λe=>af e|(intro e;refine lN e ?_;rfl)
def zaa(v:μ)(i:Τ):Ε:=qaI (motive:=λ_=>Ε) v Qb Qb Qb (λ_=>Qb) (λj _=>j==i) (λ_ _=>Qb) (λ_ _=>Qb) (λ_ _=>Qb) (λ_=>Qb) (λ_=>Qb) (λ_=>Qb)
def Rt{i:Τ}:zaa v i=Qe->∃t,v=.φ i t:=by
 cases v with
 |int j t=>exact λe=>⟨t,by rw[Β.mp e]⟩
 |_=>exact λe=>JJ e
def SK(v:μ)(s:ζ θ):Ε:=qaI (motive:=λ_=>Ε) v Qb Qb Qb (λ_=>Qb) (λ_ _=>Qb) (λ_ _=>Qb) (λx _=>x.cps.ss==s) (λ_ _=>Qb) (λ_=>Qb) (λ_=>Qb) (λ_=>Qb)
def Oq{s:ζ θ}:SK v s=Qe->∃t,v=.Υ ⟨s.τ⟩ t:=by
 cases v with
 |str x t=>exact λe=>⟨t,by rw[<-Β.mp e]⟩
 |_=>exact λe=>JJ e
def typeIs(v:μ)(o:η Tm):Ε:=JG (motive:=λ_=>Ε) o Qb λn=>v==.w8 n
def zjP(v:μ)(o:η Tm):Ε:=JG (motive:=λ_=>Ε) o Qb λn=>v==.ϭ n
def Hj(C:bf)(v:μ)(n:Tm):η (ζ μ×θ):=(μ.ref? v).Η λa=>(C.K.ω a).Η λo=>aw (o.cls==.w8 n) (Data.seq? o.Te)
inductive zf3(C:bf)(v:μ)(n:Tm)(p:ζ μ×θ):Prop
 |mk(a:Qj)(o:wT)(e:v=.ο a)(k:C.K.ω a=Qa o)(c:o.cls=.w8 n)(d:o.Te=.seq p.1.τ p.2):zf3 C v n p
def A8{n:Tm}{p:ζ μ×θ}(h:Hj C v n=Qa p):zf3 C v n p:=by
 refine(bs h).ι λa zq37=>?_;have h:=zq37.2;refine(bs h).ι λo zq36=>?_;have h:=zq36.2;obtain⟨e3,h⟩:=gs h;exact⟨a,o,zgX?_s zq37.1,zq36.1,Β.mp e3,seq?_s h⟩
def EU(f:ab->μ->Ε):ζ ab->ζ μ->Ε
 | [],vs=>vs.db
 |m::ms,vs=>KS (motive:=λ_=>Ε) vs Qb λv r=>f m v && EU f ms r
def Fv(C:bf):θ->ab->μ->Ε
 |0,_,_=>Qb
 |k+1,m,v=>ab.Α (Ϝ:=λ_=>Ε) m (v==.Δ) (λb=>v==.ϝ b) (λi=>zaa v i) (λs=>SK v s && zbk s)
  (λms=>JG (motive:=λ_=>Ε) (Hj C v "tuple") Qb λp=>EU (Fv C k) ms p.1 && Zx ms.ε bc) (λ_=>Qb)
  (λid=>JG (motive:=λ_=>Ε) (C.ad.ω id) Qb λa=>v==.ο a) (λc=>typeIs v (rH.ω c)) (λc=>zjP v (xS.ω c)) (λ_=>Qb)
  (λms=>JG (motive:=λ_=>Ε) (Hj C v "list") Qb λp=>EU (Fv C k) ms p.1 && Zx ms.ε bc) (λ_=>Qb)
def uD{f:ab->μ->Ε}(hf:∀m v,f m v=Qe->∀w,jG C w m v)(w:Wd):∀(ms:ζ ab)(vs:ζ μ),EU f ms vs=Qe->jD C w ms vs:=by
 intro ms
 induction ms with
 |ϟ=>intro vs h;exact YZ.mp h
 |Κ m ms ih=>
  intro vs h;cases vs with
  |ϟ=>exact JJ h
  |Κ v r=>
   exact .Κ (hf _ _ (Jn.mp h).1 w) (ih r (Jn.mp h).2)
def rS{o:η α}{f:α->Ε}(h:JG (motive:=λ_=>Ε) o Qb f=Qe):∃a,o=Qa a/\f a=true:=by
 cases o with
 |none=>exact JJ h
 |some a=>exact⟨a,rfl,h⟩
def vJ:∀(k:θ)(m:ab)(v:μ),Fv C k m v=Qe->∀w,jG C w m v:=by
 intro k
 induction k with
 |zero=>exact λm v h=>JJ h
 |succ k ih=>
  intro m v h w;cases m with
  |none=>exact Β.mp h
  |bool b=>exact Β.mp h
  |int i=>exact Rt h
  |str s=>
   have h:=Jn.mp h;exact(Oq h.1).ι λt zq34=>⟨t,zq34,CN h.2⟩
  |ay ms=>
   refine xEA (rS (o:=Hj C v "tuple") h) λp e h=>?_;obtain⟨a,o,e,q1,q2,q3⟩:=A8 e;have h:=Jn.mp h;exact⟨a,o,p.2,p.1,e,⟨.u8 q1,q2,q3⟩,uD ih w _ _ h.1,Zl.mp h.2⟩
  |ref a=>exact JJ h
  |ai id=>
   refine xEA (rS (o:=C.ad.ω id) h) λa e h=>?_;exact⟨a,Β.mp h,e⟩
  |ty c=>
   refine xEA (rS (o:=rH.ω c) h) λn e h=>?_;exact⟨n,Β.mp h,e⟩
  |bi c=>
   refine xEA (rS (o:=xS.ω c) h) λn e h=>?_;exact⟨n,Β.mp h,e⟩
  |gb n=>exact JJ h
  |fl ms=>
   refine xEA (rS (o:=Hj C v "list") h) λp e h=>?_;obtain⟨a,o,e,q1,q2,q3⟩:=A8 e;have h:=Jn.mp h;exact⟨a,o,p.2,p.1,e,⟨q1,q2,q3⟩,uD ih w _ _ h.1,Zl.mp h.2⟩
  |ql n=>exact JJ h
def oo(o:η (η μ))(f:μ->Ε)(g:Ε):Ε:=JG (motive:=λ_=>Ε) o Qb λx=>JG (motive:=λ_=>Ε) x g f
def zbI{o:η (η μ)}{f:μ->Ε}{g:Ε}(h:oo o f g=Qe):(∃v,o=Qa (Qa v)/\f v=Qe)\/o=Qa Qc/\g=true:=by
 rcases o with _|_|v
 ·exact JJ h
 ·exact .u8 ⟨rfl,h⟩
 ·exact .nb ⟨v,rfl,h⟩
def b7 (C:bf) (p:be×ab):Ε:=oo (nsIn C.K mainGlobals p.1) (Fv C 5 p.2) (!(p.1=="__name__") && oo (Qa (bootBuiltins p.1)) (Fv C 5 p.2) Qb)
def zft{p:be×ab}(h:b7 C p=Qe):∃rv,fF C p rv:=by
 rcases zbI h with ⟨v,e,h⟩| ⟨e,h⟩
 ·exact⟨v,vJ _ _ _ h,.nb e⟩
 ·have h:=Jn.mp h
  rcases zbI h.2 with ⟨v,e2,h2⟩| ⟨_,h2⟩
  ·exact⟨v,vJ _ _ _ h2,.u8 ⟨e,λq=>by rw[q] at h;exact υ h.1 (by decide+kernel),Qa.dL e2⟩⟩
  ·exact JJ h2
def zeN(nms:ζ be)(n:θ):η be:=nms.find? λx=>ek x==n && jL x
def Iu(h:zeN nms n=Qa x):jL x=Qe/\ek x=n:=by
 exact⟨(Jn.mp (KQ (p:=λx=>ek x==n && jL x) h:(ek x==n && jL x)=Qe)).2,Β.mp (Jn.mp (KQ (p:=λx=>ek x==n && jL x) h:(ek x==n && jL x)=Qe)).1⟩
def IB(C:bf)(nms:ζ be)(c n:θ)(f:Qj->be->Ε):Ε:=JG (motive:=λ_=>Ε) (C.ad.ω c) Qb λca=>JG (motive:=λ_=>Ε) (zeN nms n) Qb λx=>plainGet C.K ca x && hasDictIn C.K ca && f ca x
def Eo{c:θ}{f:Qj->be->Ε}(hf:∀a x,f a x=Qe->P a x)(h:IB C nms c n f=Qe):qK C c n P:=by
 refine(rS h).ι λca zq26=>?_;have h:=zq26.2;refine(rS h).ι λx zq25=>?_;have h:=zq25.2;have h:=Jn.mp h;exact⟨ca,x,zq26.1,(Iu zq25.1).1,(Iu zq25.1).2,(Jn.mp h.1).1,(Jn.mp h.1).2,hf _ _ h.2⟩
def zfP(o:η CFound)(v:μ):Ε:=JG (motive:=λ_=>Ε) o Qb λx=>CFound.Α (motive:=λ_=>Ε) x (λu=>u==v) λ_ _ _ _=>Qb
def zcO{o:η CFound}(h:zfP o v=Qe):o=Qa (.Op v):=by
 rcases o with _|_|_
 ·exact JJ h
 ·rw[Β.mp h]
 ·exact JJ h
def zaq(C:bf)(v:ab)(ca:Qj)(x:be):Ε:=oo (findIn C.K (.ο ca) x) (λav=>Fv C 5 v av && bif U2 C.P v then
 isFn C.K av && (specialIn C.K (.ο ca) "__getattribute__"==Qa (Qa (.ϭ "type.__getattribute__")) && JG (motive:=λ_=>Ε) (typeIn C.K (.ο ca)) Qb λmc=>readsIn C.K ca mc && zfP (findCls C.K (.ο ca) mc x) av)
 else specialIn C.K av "__get__"==Qa Qc && (handedIn av && !copiedNames.v6 x)) Qb
def Sa{v:ab}(h:zaq C v ca x=Qe):NH C v ca x:=by
 rcases zbI h with ⟨av,e,h⟩| ⟨_,h⟩
 ·have h:=Jn.mp h
  refine⟨av,e,vJ _ _ _ h.1,λhi=>?_,λhi=>?_⟩
  ·rw[hi] at h
   have h1:=Jn.mp h.2;exact(rS (Jn.mp h1.2).2).ι λmc zq24=>⟨h1.1,Β.mp (Jn.mp h1.2).1,mc,zq24.1,(Jn.mp zq24.2).1,zcO (Jn.mp zq24.2).2⟩
  ·rw[hi] at h
   have h1:=Jn.mp h.2;exact⟨Β.mp h1.1,(Jn.mp h1.2).1,qaT _▸(Jn.mp h1.2).2⟩
 ·exact JJ h
def zfC (C:bf) (ca:Qj) (x:be):Ε:=JG (motive:=λ_=>Ε) (findIn C.K (.ο ca) x) Qb λat'=>noGet C.K at' && (takerIn C.K ca x==Qa Qc && (findIn C.K (.ο ca) "__setattr__"==Qa (Qa (.ϭ "object.__setattr__")) && plainOver C.K ca))
def zcE(h:zfC C ca x=Qe):zdk C ca x:=by
 refine(rS h).ι λat' zq23=>?_;have h2:=Jn.mp (Jn.mp zq23.2).2;exact⟨at',zq23.1,(Jn.mp zq23.2).1,Β.mp h2.1,Β.mp (Jn.mp h2.2).1,(Jn.mp h2.2).2⟩
def zab (C:bf) (c i:θ):Ε:=JG (motive:=λ_=>Ε) (C.ad.ω c) Qb λca=>JG (motive:=λ_=>Ε) (C.ad.ω i) Qb λfI=>makesIn C.K ca && (findIn C.K (.ο ca) "__init__"==Qa (Qa (.ο fI)) && (isFn C.K (.ο fI) && keepIn C.K (.ο ca)))
def Rx{c:θ}(h:zab C c i=Qe):VN C c i:=by
 refine(rS h).ι λca zq22=>?_;refine(rS zq22.2).ι λfI zq21=>?_;have h2:=Jn.mp (Jn.mp zq21.2).2;exact⟨ca,fI,zq22.1,zq21.1,(Jn.mp zq21.2).1,Β.mp h2.1,(Jn.mp h2.2).1,(Jn.mp h2.2).2⟩
def cI(C:bf)(nms:ζ be)(k:Cl):Ε:=(k.kn.Db λp=>IB C nms k.gy p.1 (zaq C p.2)) && ((k.rc.Db λn=>IB C nms k.gy n (zfC C)) && (k.init.Db λi=>zab C k.gy i))
def MI{f g:α->η β}:∀{l:ζ α},(∀x∈l,f x=g x)->l.zn f=l.zn g:=by
 intro l
 induction l with
 |ϟ=>exact λ_=>rfl
 |Κ x l ih=>intro h;rw[KR,KR,h x (.mo _),ih λy hy=>h y (.lw _ hy)]
def BE:∀{vs:ζ μ},xs.ϥ->vs.ε=xs.ε->(∀n∈xs,((xs.zip vs).ω n).Ψ=Qe)/\(xs.zn λn=>((xs.zip vs).ω n).ς (n,·))=xs.zip vs:=by
 induction xs with
 |ϟ=>exact λ_ _=>⟨λ_ h=>υ h JE,rfl⟩
 |Κ x xs ih=>
  intro vs nd hl;cases vs with
  |ϟ=>exact θ.Tz hl
  |Κ v vs=>
   have nd:=JK.mp nd;have ne:∀n∈xs,(((x::xs).zip (v::vs)).ω n)=(xs.zip vs).ω n:=λn hn=>by
    simp only[Yg,ZE,Ϟ (show n≠x from λe=>nd.1 (e▸hn))]
   refine⟨λn hn=>?_,?_⟩
   ·rcases JO.mp hn with rfl|hn
    ·simp only[Yg,ZE,ϫ];rfl
    ·rw[ne n hn];exact((ih (vs:=vs) nd.2 (ZX.dL hl)).1) n hn
   ·rw[KR,(MI λn hn=>by rw[ne n hn]:(xs.zn λn=>(((x::xs).zip (v::vs)).ω n).ς (n,·))=xs.zn λn=>((xs.zip vs).ω n).ς (n,·)),(ih (vs:=vs) nd.2 (ZX.dL hl)).2,Yg,ZE,ϫ];rfl
def Ay(h1:fd.Φ.posonlyargs=[])(h2:fd.Φ.vararg=Qc)(h3:fd.Φ.kwonlyargs=[])(h4:fd.Φ.kwarg=Qc)(hd:fd.defaults=.Δ)(hl:vs.ε=(fd.Φ.Id.ς (·.arg)).ε)(nd:(fd.Φ.Id.ς (·.arg)).ϥ):
  bindArgs fd ⟨vs,[]⟩=pure ((fd.Φ.Id.ς (·.arg)).zip vs):=by
 obtain⟨n,q,⟨po,as,va,ko,kd,ka,df⟩,bo,sc,gl,cl,de,kw,dc,pm,an,co,ct,bu⟩:=fd;obtain rfl:po=[]:=h1;obtain rfl:va=none:=h2;obtain rfl:ko=[]:=h3;obtain rfl:ka=none:=h4;obtain rfl:de=.Δ:=hd;obtain⟨e1,e2⟩:=BE nd hl;delta bindArgs
 dsimp only
 generalize as.ς (·.arg)=xs at*
 refine(π (c:=(decide (vs.ε>xs.ε) && Qe)=Qe) (by rw(occs:=.Db) [hl,Γ (J3 _)];exact Zq)).ν ?_;have hD:∀n,Y9 n ((Qc:η (sB μ)).bm #[]).ss=[]:=λn=>YE;refine(π ?_).ν ?_
 ·show ¬(!((xs.ϣ (xs.ε-(Y9 _ _).ε)).Ϡ λn=>((xs.zip vs).ω n).pi).db)=Qe
  rw(occs:=.Db) [hD,qal,qbm,JW,ζ.filter_eq_nil_iff.Ϩ λn hn=>?_]
  ·exact Zq
  ·rw(occs:=.Db) [Kn]
   intro q
   have:=e1 n hn
   rw(occs:=.Db) [q] at this
   exact JJ this
 refine(χ (λz=>forIn z _ _>>=_) (by rw(occs:=.Db) [hD];exact ζ.zip_nil_right:ζ.zip (Y9 _ _) (Y9 _ _)=[])).ν ?_;exact χ (pure:ζ (be×μ)->Sem (ζ (be×μ))) ((by rw(occs:=.Db) [Zi];exact e2:((xs++[]).zn λn=>((xs.zip vs).ω n).ς (n,·))=xs.zip vs))
def stm?(b:FuncBody):η (ζ Qx):=FuncBody.Α (motive:=λ_=>η (ζ Qx)) b Qa (λ_=>Qc)
def stm?_s{b:FuncBody}{l:ζ Qx}:stm? b=Qa l->b=.stmts l:=by
 cases b<;>first|exact λe=>af e|(intro e;refine lN e ?_;rfl)
abbrev i9:=Qj×wT×QR
section
variable(ψ:i9)
abbrev i9.a:=ψ.1
abbrev i9.o:=ψ.2.1
abbrev i9.fd:=ψ.2.2
end
def Am(C:bf)(f:Fn):η i9:=(C.ad.ω f.gy).Η λa=>(C.K.ω a).Η λo=>(Data.func? o.Te).ς λfd=>⟨a,o,fd⟩
def M5(C:bf)(gl:ζ (be×ab))(f:Fn):η (θ×θ×ζ Sm):=(Am C f).Η λp=>(stm? p.fd.Th).Η λb=>Vp gl p.fd.Φ b p.fd.TN
def yf{α:Type}[BEq α]:ζ α->Ε
 | []=>Qe
 |a::r=>!r.v6 a && yf r
def Iy[BEq α][LawfulBEq α]:∀{l:ζ α},yf l=Qe->l.ϥ:=by
 intro l
 induction l with
 |ϟ=>exact λ_=>ζ.nodup_nil
 |Κ a r ih=>
  intro h;have h:=Jn.mp h;refine JK.Ϩ ⟨λhm=>?_,ih h.2⟩;rw[Yk.Ϩ hm] at h;exact JJ h.1
def D3(fd:QR):Ε:=fd.Φ.posonlyargs.db && (fd.Φ.vararg.pi && (fd.Φ.kwonlyargs.db && (fd.Φ.kwarg.pi && fd.defaults==.Δ)))
def jx(C:bf)(f:Fn):Ε:=JG (motive:=λ_=>Ε) (Am C f) Qb λp=>(p.fd.globals==mainGlobals && (p.fd.closure.db && (p.fd.builtins==builtinsNs && (codeIn C.K p.fd.code p.fd.qualname && keepIn C.K (.ο p.a))))) && ((yf (p.fd.Φ.Id.ς (·.arg)) && yf ((cellsFrom 0 p.fd.TN.pt []).ς (·.1))) && (!f.mf.db||D3 p.fd))
def x4(C:bf)(f:Fn):Prop:=f.mf≠[]->∀p,Am C f=Qa p->x5 C f p.fd (p.fd.Φ.Id.ς (·.arg))
def zfE(k1:fd.globals=mainGlobals)(k2:fd.closure=[])(k3:fd.builtins=builtinsNs)(k4:fd.Th=.stmts b):fd=fnOf fd.name fd.qualname fd.Φ b fd.TN fd.defaults fd.kwdefaults fd.doc fd.pyModule fd.annotations fd.code fd.closureTuple:=by
 cases fd;subst k1;subst k2;subst k3;cases k4;rfl
theorem C7(h:D3 fd=Qe)(hl:vs.ε=(fd.Φ.Id.ς (·.arg)).ε)(nd:(fd.Φ.Id.ς (·.arg)).ϥ):bindArgs fd ⟨vs,[]⟩=pure ((fd.Φ.Id.ς (·.arg)).zip vs):=
 let h7:=Jn.mp h
 let h8:=Jn.mp h7.2
 let h9:=Jn.mp h8.2
 let h10:=Jn.mp h9.2
 Ay (YZ.mp h7.1) (Kn.mp h8.1) (YZ.mp h9.1) (Kn.mp h10.1) (Β.mp h10.2) hl nd
def iN{f:Fn}(e1:C.ad.ω f.gy=Qa a)(e2:C.K.ω a=Qa o)(e3:Data.func? o.Te=Qa fd)(eb:stm? fd.Th=Qa b)(hc:Vp gl fd.Φ b fd.TN=Qa (f.np,f.ns,f.Th))(hD:f.mf≠[]->x5 C f fd (fd.Φ.Id.ς (·.arg)))
  (h1:(fd.globals==mainGlobals && (fd.closure.db && (fd.builtins==builtinsNs && (codeIn C.K fd.code fd.qualname && keepIn C.K (.ο a)))))=Qe) (nd:(fd.Φ.Id.ς (·.arg)).ϥ) (nc:((cellsFrom 0 fd.TN.pt []).ς (·.1)).ϥ) (h2:(!f.mf.db||D3 fd)=Qe):Lu C gl f:=by
 have h1:=Jn.mp h1;have h4:=Jn.mp (Jn.mp h1.2).2;have ef:=zfE (Β.mp h1.1) (YZ.mp (Jn.mp h1.2).1) (Β.mp h4.1) (stm?_s eb);exact⟨a,fd.name,fd.qualname,fd.Φ,b,fd.TN,fd.defaults,fd.kwdefaults,fd.doc,fd.pyModule,fd.annotations,fd.code,fd.closureTuple,o.cls,o.Χ,o.slots,e1,ef▸func?_s e3▸e2,(Jn.mp h4.2).1,hc,(Jn.mp h4.2).2,ef▸((At.em (f.mf=[])).ι .u8 λh=>.nb (hD h):x5 C f fd (fd.Φ.Id.ς (·.arg))\/f.mf=[]).ι id λhd=>.nb ⟨hd,λvs hl=>C7 ((K8.mp h2).resolve_left (by rw[hd];exact λh=>JJ h)) (hl.ν (by obtain⟨_,_,_,_,_,np⟩:=Vo hc;exact np:(fd.Φ.Id.ς (·.arg)).ε=f.np).Μ) nd⟩,nd,nc⟩
def zfB{f:Fn}(h:jx C f=Qe)(hc:M5 C gl f=Qa (f.np,f.ns,f.Th))(hD:x4 C f):Lu C gl f:=by
 refine xEA (rS h) λp e h=>?_;delta M5 at hc;rw[e] at hc;refine xEA (bs (show ((stm? p.fd.Th).Η λb=>Vp gl p.fd.Φ b p.fd.TN)=_ from hc)) λb eb hc=>?_;have hD:=λh=>hD h p e;refine xEA (bs e) λa e1 e=>?_;refine xEA (bs e) λo e2 e=>?_;refine(ms e).ι λfd zq14=>?_;obtain rfl:=zq14.2;have h5:=Jn.mp (Jn.mp h).2;exact iN e1 e2 zq14.1 eb hc hD (Jn.mp h).1 (Iy (Jn.mp h5.1).1) (Iy (Jn.mp h5.1).2) h5.2
def C6(o:wT):Ε:=qah (motive:=λ_=>Ε) o.Te Qe (λ_=>Qb) (λ_ _=>Qb) (λ_ _=>Qb) (λ_ _ _=>Qb) (λ_ _=>Qb) (λ_=>Qb) (λ_=>Qb) (λ_=>Qb) (λ_=>Qb) Qb
def MQ(o:wT):Ε:=qah (motive:=λ_=>Ε) o.Te Qb (λ_=>Qb) (λ_ _=>Qb) (λes _=>es.db) (λ_ _ _=>Qb) (λ_ _=>Qb) (λ_=>Qb) (λ_=>Qb) (λ_=>Qb) (λ_=>Qb) Qb
def Mr(C:bf)(p:θ×θ):Ε:=JG (motive:=λ_=>Ε) (C.ad.ω p.1) Qb λa=>JG (motive:=λ_=>Ε) (C.ad.ω p.2) Qb λca=>JG (motive:=λ_=>Ε) (C.K.ω a) Qb λo=>JG (motive:=λ_=>Ε) o.Χ Qb λdx=>
 JG (motive:=λ_=>Ε) (C.K.ω dx) Qb λo'=>(o.cls== .ο ca && (C6 o && o.slots.db)) && ((o'.cls== .w8 "dict" && o'.Χ.pi) && (MQ o' && o'.slots.db))
def C5(h:C6 o=Qe):o.Te=.plain:=by
 obtain⟨c,d,x,s⟩:=o;cases x<;>first|rfl|exact JJ h
def MP(h:MQ o=Qe):∃n,o.Te=.Χ #[] n:=by
 obtain⟨c,d,x,s⟩:=o;cases x with
 |dict es n=>exact⟨n,by rw[XT.mp h]⟩
 |_=>exact JJ h
def Ru{p:θ×θ}(h:Mr C p=Qe):VM C p.1 p.2:=by
 refine(rS h).ι λa zq13=>?_;have h:=zq13.2;refine(rS h).ι λca zq12=>?_;have h:=zq12.2;refine(rS h).ι λo zq11=>?_;have h:=zq11.2;refine(rS h).ι λdx zq10=>?_;have h:=zq10.2;refine xEA (rS h) λo' e5 h=>?_;have h1:=Jn.mp (Jn.mp h).1;have h4:=Jn.mp (Jn.mp (Jn.mp h).2).1;have h5:=Jn.mp (Jn.mp (Jn.mp h).2).2;refine xE (MP h5.1) λn e6=>?_;refine⟨a,ca,dx,n,zq13.1,zq12.1,?_,?_⟩
 ·simp only[zq11.1,<-Β.mp h1.1,<-zq10.1,<-C5 (Jn.mp h1.2).1,<-XT.mp (Jn.mp h1.2).2]
 ·obtain⟨c,d,x,s⟩:=o'
  cases Β.mp h4.1;cases Kn.mp h4.2;subst e6;cases XT.mp h5.2;exact e5
def iR (C:bf):Ε:=C.ad.Db λp=>JG (motive:=λ_=>Ε) (C.K.ω p.2) Qb λo=>!(o.cls== .w8 "tuple")
def zjz(C:bf):Ε:=(C.K.ω 0).Ψ && ((C.K.ω 1).Ψ && ((C.K.ω 2).Ψ && (C.K.ω 3).Ψ))
def Rv:(l.ς (·.2)).ϥ->∀{i j:θ}{a:Qj},(i,a)∈l->(j,a)∈l->i=j:=by
 induction l with
 |ϟ=>exact λ_ _ _ _ h _=>υ h JE
 |Κ p r ih=>
  intro hn i j a h1 h2;have hn:=JK.mp hn;rcases JO.mp h1 with h1|h1<;>rcases JO.mp h2 with h2|h2
  ·exact χ (·.1) (h1.ν h2.Μ)
  ·exact υ (JM.Ϩ ⟨(j,a),h2,show a=p.2 from χ (λq:θ×Qj=>q.2) h1⟩) hn.1
  ·exact υ (JM.Ϩ ⟨(i,a),h1,show a=p.2 from χ (λq:θ×Qj=>q.2) h2⟩) hn.1
  ·exact ih hn.2 h1 h2
def zcN(h1:iR C=Qe)(h2:yf (C.ad.ς (·.2))=Qe)(h3:zjz C=Qe):vA C:=by
 refine⟨λid a h=>?_,λi j a hi hj=>Rv (Iy h2) (j9 hi) (j9 hj),λb hb=>?_⟩
 ·refine(rS (Zn.mp h1 _ (j9 h))).ι λo zq7=>?_
  have h:=zq7.2;exact⟨o,zq7.1,λhc=>by rw[hc] at h;exact υ h (by decide+kernel)⟩
 ·have h3:=Jn.mp h3
  have h4:=Jn.mp h3.2;have h5:=Jn.mp h4.2;rcases b with _|_|_|_|b
  ·exact Zj.mp h3.1
  ·exact Zj.mp h4.1
  ·exact Zj.mp h5.1
  ·exact Zj.mp h5.2
  ·exact υ hb (Zs.Ϩ (Jz 4 b))
def za2(hc:C.P.oj.ς (M5 C gl)=C.P.oj.ς λf=>Qa (f.np,f.ns,f.Th))(hf:C.P.oj.Db (jx C)=Qe)(hD:∀f∈C.P.oj,x4 C f)(hg:gl.Db (b7 C)=Qe)(hi:C.P.ki.Db (Mr C)=Qe)(hk:C.P.cls.Db (cI C nms)=Qe)(h5:vA C)(h6:EW C):mZ C gl:=by
 have cls:∀{c k},C.P.gd c=Qa k->k.gy=c/\cI C nms k=true:=λ{c k} h=>⟨Β.mp (KQ (p:=λx:Cl=>x.gy==c) h),Zn.mp hk k (Ko h)⟩;refine⟨λx v h=>zft (Zn.mp hg (x,v) (j9 h)),λa f h=>?_,λid c h=>?_,λc n v h=>?_,λc n h=>?_,λc k i h hi=>?_,h5,h6⟩
 ·have hm:=Ko h
  exact⟨Β.mp (KQ (p:=λf:Fn=>f.gy==a) h),zfB (Zn.mp hf f hm) (ζ.map_inj_left.mp hc f hm) (hD f hm)⟩
 ·obtain⟨p,hp,rfl⟩:=ms h
  rw[<-Β.mp (KQ (p:=λp:θ×θ=>p.1==id) hp)];exact Ru (Zn.mp hi p (Ko hp))
 ·obtain⟨k,hk,h⟩:=bs h
  obtain⟨p,hp,rfl⟩:=ms h;obtain⟨e,hb⟩:=cls hk;rw[<-e,<-Β.mp (KQ (p:=λp:θ×ab=>p.1==n) hp)];exact Eo (λ_ _=>Sa) (Zn.mp (Jn.mp hb).1 p (Ko hp))
 ·unfold gu.cz at h
  cases hk:C.P.gd c with
  |none=>rw[hk] at h;exact JJ h
  |some k=>
   rw[hk] at h;rw[<-(cls hk).1];exact Eo (λ_ _=>zcE) (Zn.mp (Jn.mp (Jn.mp (cls hk).2).2).1 n (Yk.mp h))
 ·obtain⟨e,hb⟩:=cls h
  have:=(Jn.mp (Jn.mp hb).2).2
  rw[hi] at this;rw[<-e];exact Rx this
section
variable{p:Array Nat}
abbrev lF(n:θ)(p:sB θ):Prop:=p.TH (Zk n).τ
def lF.pc{p:sB θ}(h:lF n p):p.pc=n:=by
 have:=h.size_eq
 simpa using this
def lF.lt{p:sB θ}(h:lF n p)(hn:0<n)(k:θ):p.bm k 0<n:=by
 by_cases hk:k<p.pc
 ·have e:p.bm k 0=p[k]:=by simp [sB.bm,hk]
  rw[e];have hm:p[k] ∈p.ss:=by simp
  have:=(sB.perm_iff_toList_perm.mp h).re.mp hm
  simpa using this
 ·have e:p.bm k 0=0:=by simp [sB.bm,hk]
  rw[e];exact hn
theorem lF.xy{p:sB θ}(h:lF n p)(i j:θ):lF n (Jg p i j):=(mirror_perm _ _ _ _).ν h
theorem lF.iP{p:sB θ}(h:lF n p)(i j:θ):lF n (bubble p i j):=(bubble_perm _ _ _).ν h
def ik(n:θ)(P:α->Prop)(t:KasT α):Prop:=KasT.rec (motive:=λ_=>Prop) P (λi j _ ih=>(i<n/\j<n)/\∀b,ih b) t
def ik.Η{P:α->Prop}{Q:β->Prop}{f:α->KasT β}(hf:∀a,P a->ik n Q (f a)){t:KasT α}:ik n P t->ik n Q (t.Η f):=by
 induction t with
 |ret a=>exact hf a
 |ask i j k ih=>exact λh=>⟨h.1,λb=>ih b (h.2 b)⟩
def ik.ev{P:α->Prop}{lt:θ->θ->Ε}{t:KasT α}:ik n P t->P (yt lt t):=by
 induction t with
 |ret a=>exact id
 |ask i j k ih=>exact λh=>ih (lt i j) (h.2 _)
def ik.wp{P:α->Prop}{G:α->Qf->Prop}{lt:θ->θ->Ε}(hc:∀(i j:θ)(C:Ε->Qf->Prop),i<n->j<n->C (lt i j) s->ft i j C s){t:KasT α}:ik n P t->G (yt lt t) s->t.kasWp ft G s:=by
 induction t with
 |ret a=>exact λ_ h=>h
 |ask i j k ih=>exact λh g=>hc i j _ h.1.1 h.1.2 (ih (lt i j) (h.2 _) g)
def Ng(hp:lF n p)(hn:0<n){f:θ}:∀{a:θ},ik n (λ_=>True) (kas_asc p f a):=by
 induction f with
 |zero=>exact trivial
 |succ f ih=>exact⟨⟨hp.lt hn _,hp.lt hn _⟩,λc=>Ε.Α (motive:=λc=>ik n _ (if c=Qe then _ else _)) c ih trivial⟩
def RO(hn:0<n){f:θ}:∀{p:sB θ}{a q:θ},lF n p->ik n (λr=>lF n r.1) (kas_desc f p a q):=by
 induction f with
 |zero=>exact λh=>h
 |succ f ih=>
  intro p a q hp;refine⟨⟨hp.lt hn _,hp.lt hn _⟩,λc=>?_⟩;cases c with
  |false=>exact⟨⟨hp.lt hn _,hp.lt hn _⟩,λd=>Ε.Α (motive:=λd=>ik n _ (if d=Qe then _ else _)) d (ih hp) hp⟩
  |true=>exact θ.Α (motive:=λq=>ik n _ (if q>0 then kas_desc f (Jg p (a-(q+1)) a) (a+1) 0 else _)) q (ih hp) λq=>ih (hp.xy _ _)
theorem LS(hn:0<n){m k:θ}(hp:lF n p):ik n (λr=>lF n r.2) (kas_tail3 m k p):=ik.Η (P:=λ_=>True) (Q:=λr:θ×sB θ=>lF n r.2) (f:=λa=>.ret (a,Jg p 0 m)) (λ_ _=>hp.xy 0 m) (Ng (hp.xy _ _) hn)
def y6(hn:0<n){m k:θ}(hp:lF n p):ik n (λr=>lF n r.2) (kas_descPart m k p):=by
 refine ik.Η (λr hr=>?_) (RO hn hp);obtain⟨p',a,q⟩:=r;exact θ.Α (motive:=λq=>ik n _ (if q>0 then kas_tail3 a k (Jg p' (a-(q+1)) a) else _)) q (LS hn hr) λq=>LS hn (lF.xy hr _ _)
def MV(hn:0<n){k:θ}(hp:lF n p):ik n (λr=>lF n r.2) (kas_count k p):=by
 refine ik.Η (λm _=>?_) (Ng hp hn);by_cases h1:(m==k)=Qe
 ·rw[ρ h1];exact hp
 ·rw[π h1]
  by_cases h2:m>1
  ·rw[ρ h2]
   exact⟨⟨hp.lt hn _,hp.lt hn _⟩,λc=>Ε.Α (motive:=λc=>ik n _ (if c=Qe then _ else _)) c (y6 hn (hp.xy _ _)) hp⟩
  ·rw[π h2];exact y6 hn hp
def C8(hn:0<n)(hp:lF n p){k f:θ}:∀{l r:θ},ik n (λ_=>True) (kas_place p k f l r):=by
 induction f with
 |zero=>exact trivial
 |succ f ih=>
  intro l r;show ik n _ (if l ≥ r then _ else _);by_cases h:l ≥ r
  ·rw[ρ h];exact trivial
  ·rw[π h];exact⟨⟨hp.lt hn _,hp.lt hn _⟩,λc=>Ε.Α (motive:=λc=>ik n _ (if c=Qe then _ else _)) c ih ih⟩
def zcU(hn:0<n){f:θ}:∀{p:sB θ}{k:θ},lF n p->ik n (lF n) (kas_bin f p k):=by
 induction f with
 |zero=>exact λh=>h
 |succ f ih=>exact λhp=>ik.Η (λ_ _=>ih (hp.iP _ _)) (C8 hn hp)
def A5(hn:0<n):ik n (lF n) (kas_sort n):=by
 refine ik.Η (λr hr=>?_) (MV hn (sB.TH.TD _));by_cases h:r.1<n
 ·rw[ρ h];exact zcU hn hr
 ·rw[π h];exact hr
end
def MA{l:ζ ab}:((Zk l.ε).ς λi=>l.bm i .Δ)=l:=by
 apply ζ.ext_getElem
 ·simp
 ·intro i h3 h4
  simp [ζ.getD_eq_getElem?_getD,h4]
def tS(l:ζ ab):(zF l).TH l:=by
 delta zF;cases h:Zx l.ε 1 with
 |true=>exact .TD _
 |false=>
  have h1:=(sB.perm_iff_toList_perm.mp (((A5 (Yd λe=>by rw[e] at h;exact JJ h:0<l.ε)).ev:lF _ (yt (λi j=>ltV (l.bm i .Δ) (l.bm j .Δ)) _)))).ς λi=>l.bm i .Δ;rw[ζ.toList_toArray,MA] at h1;exact h1
theorem Df{a b:θ}:Zx a b=Qe ↔ a<=b:=⟨θ.le_of_ble_eq_true,K3⟩
def Re(a:ζ θ):∀b:ζ θ,Rf a b=decide (a<b):=by
 induction a with
 |ϟ=>
  intro b;cases b with
  |ϟ=>rfl
  |Κ y b=>exact(Ζ (ζ.nil_lt_cons y b)).Μ
 |Κ x a ih=>
  intro b;cases b with
  |ϟ=>exact(Γ (ζ.not_lt_nil _)).Μ
  |Κ y b=>
   show Ε.rec (motive:=λ_=>Ε) (Ε.rec (motive:=λ_=>Ε) (Rf a b) Qb (Zx (ZX y) x)) Qe (Zx (ZX x) y)=_;rw[ih,Z8,Ϫ,ζ.cons_lt_cons_iff];cases q:Zx (ZX x) y with
   |true=>exact⟨λ_=>.nb (Df.mp q),λ_=>rfl⟩
   |false=>
    have q1:¬x<y:=λe=>by rw[Df.Ϩ e] at q;cases q
    cases q':Zx (ZX y) x with
    |true=>exact⟨λe=>(JJ e:False).ι,λe=>e.ι (λe=>υ e q1) λe=>υ (Df.mp q') (by rw[e.1];exact J3 _)⟩
    |false=>
     exact⟨λe=>.u8 ⟨KC (Zs.mp (λe=>by rw[Df.Ϩ e] at q';cases q')) (Zs.mp q1),Ο e⟩,λe=>e.ι (λe=>υ e q1) λe=>Ζ e.2⟩
section
variable{w:Qn}
def DZ{l:Qj}{Q:μ->Qf->Prop}{news:ζ (Qj×wT)}(F:Fr h₀ L s.Ω m)(N:Ps h₀ L s.Ω news)(hl:s.Ω.IsList l vs.τ)(hz:vs.ε<=sizeLine)
  (h: ∀ (D:Qj) (h':QD),Fr h₀ L h' m->Ps h₀ L h' ((D,listOf vs.τ 0)::news) ->(∀q∈news,q.1<D) ->Qi (model prog w) A.in1 (call (.ϭ "list.sort") [.ο D]) (λ_ s'=>Q (.ο D) s') E {s with heap:=h'}):
  Qi (model prog w) A (call (.ϭ "sorted") [.ο l]) Q E s:=by
 refine Calls.call_function_entry kind_sorted plain_sorted entry_sorted (args_sorted1 _) ?_;unfold TJ.«sorted»;refine Qd (m:=checkCount "sorted" 1 1 _) (Qg ?_);refine Qd (collect_list hl ?_ hz);refine Qd (wpAny_newList ?_ hz);have keep1: ∀b o,s.Ω.ut b=Qa o->((s.Ω.Tj (seqObj "list" #[] 0)).LE s.Ω.wv.pc (wT.mapSeq (· ++vs.τ))).ut b=Qa o:=λb o q=>by
  rw[Ix.get?_update_ne _ _ _ _ (Ke (K7 q)),Ix.get?_push_ne _ _ _ (Ke (K7 q))];exact q
 have N1:Ps h₀ L ((s.Ω.Tj (seqObj "list" #[] 0)).LE s.Ω.wv.pc (wT.mapSeq (· ++vs.τ))) news:=λp hp=>⟨keep1 _ _ (N p hp).1,(N p hp).2⟩;exact Qd (Qk (Qo (h _ _ ((F.keeps keep1).Tj {cls:= .w8 "list",data:= .seq vs.τ}) (Ps.Tj (F.keeps keep1) N1 {cls:= .w8 "list",data:= .seq vs.τ} rfl) (λq hq=>K7 (N1 q hq).1)) (λ_ s' x=>Qg ⟨_,rfl,x⟩) λ_ _ e=>e))
def Fw{Q:μ->Qf->Prop}{news:ζ (Qj×wT)}(F:Fr h₀ L s.Ω m)(N:Ps h₀ L s.Ω ((a,listOf vs.τ n)::news))(hna:∀p∈news,p.1≠a)(h2:vs.ε<2)
  (h: ∀h' c,Fr h₀ L h' m->Ps h₀ L h' ((a,listOf vs.τ c)::news) ->Q .Δ {s with heap:=h'}):Qi (model prog w) A (call (.ϭ "list.sort") [.ο a]) Q E s:=by
 have nz:=N (a,listOf vs.τ n) (.mo _);have ho:s.Ω.ut a=Qa (seqObj "list" vs.τ n):=nz.1;refine Qs slot_list_sort ⟨_,nz.1,rfl⟩ entry_list_sort ?_ (args_list_sort _);have s1:=Ix.Go.LE s.Ω a (wT.mapSeq λ_=>(#[]:sB μ));obtain⟨e1,ho1⟩: ∃e1,(s.Ω.LE a (wT.mapSeq λ_=>(#[]:sB μ))).ut a=Qa (seqObj "list" #[] e1):=⟨_,get?_update_seq ho λ_=> #[]⟩;have hsl:sizeLine=16777216:=Q8;rw[list_sort_plain];refine Qd (listItems_at ho rfl ?_);refine Qd (listUpdate_at ho rfl ?_ (by rw[Zz];exact Jm (JL (θ.lt_add_left _ h2)) (JC (XE hsl))) (JF _));refine Qd (seqEpoch_at ho1 rfl ?_);refine Qd (wpAny_newTuple ?_ (by show vs.ε<=_;exact Jm (JL (θ.lt_add_left _ h2)) (JC (XE hsl))));refine Qd (wpAny_newList ?_ (JF _));refine Qk ?_
 dsimp only
 have hn2:vs.τ.pc<2:=by rw[Zz];exact h2
 rw[ρ hn2,ρ hn2];refine Qd (Qg (Qd (Qg ?_)))
 dsimp only
 have harr:(arrOf (SortSt.mk' general' (vs.τ.zip vs.τ) #[] 7 Qc)).ς (·.2)=vs.τ:=by
  show (vs.τ.zip vs.τ).ς (·.2)=vs.τ
  apply sB.toList_inj.mp
  simp [ζ.map_snd_zip]
 refine Qd (seqEpoch_at (Ix.mt _ (Ix.mt _ ho1)) rfl ?_);rw[harr];refine Qd (listUpdate_at (Ix.mt _ (Ix.mt _ ho1)) rfl ?_ (JF _) (by rw[Zz];exact Yj (J7 h2)));simp only[bne_self_eq_false,YJ,if_false];have s2:=Ix.Go.LE (((s.Ω.LE a (wT.mapSeq λ_=>(#[]:sB μ))).Tj (seqObj "tuple" vs.τ 0)).Tj (seqObj "list" #[] 0)) a (wT.mapSeq λ_=>vs.τ);obtain⟨c2,hc2⟩: ∃c2,((((s.Ω.LE a (wT.mapSeq λ_=>(#[]:sB μ))).Tj (seqObj "tuple" vs.τ 0)).Tj (seqObj "list" #[] 0)).LE a (wT.mapSeq λ_=>vs.τ)).ut a=Qa (seqObj "list" vs.τ c2):=⟨_,get?_update_seq (Ix.mt _ (Ix.mt _ ho1)) λ_=>vs.τ⟩;refine Qg ⟨_,rfl,h _ c2 (kas_fr (((kas_fr F s1 nz.2.1 nz.2.2).Tj (seqObj "tuple" vs.τ 0)).Tj (seqObj "list" #[] 0)) s2 nz.2.1 nz.2.2) λp hp=>?_⟩;rcases JO.mp hp with rfl|hp
 ·exact⟨hc2,nz.2⟩
 ·exact kas_news ((kas_news (λp hp=>N p (.lw _ hp):Ps h₀ L s.Ω news) s1 hna).grown λb x e=>Ix.mt _ (Ix.mt _ e):Ps h₀ L (((s.Ω.LE a (wT.mapSeq λ_=>(#[]:sB μ))).Tj (seqObj "tuple" vs.τ 0)).Tj (seqObj "list" #[] 0)) news) s2 hna p hp
end
section
variable{w:Qn}
theorem O4 {d:Qj} (lo:(d==sysModules)=Qb):KdlSrc prog w "dict" d d es.ε (λi v=> ∃e,es[i]?=Qa e/\e.key=v) (λh=>h.ut d=Qa (Ql es ep)) where
 type:=λ_ hm=>⟨_,hm,rfl⟩
 there:=λ_ hm=>⟨K7 hm,K7 hm⟩
 keep:=λ_ _ hm hk=>hk d (.nb rfl) _ hm
 notList:=rfl
 notTuple:=rfl
 hint:=λ_ _ s _ hm hq=>kdl_hint_dict (s:=s) ⟨_,hm,rfl⟩ hq
 iter:=λA s hh hm=>⟨_,(λi h=>h.IsKeyIter s.Ω.wv.pc d i es.ε ep/\h.ut d=Qa (Ql es ep)),(λ_ _ hq=>Hl lo hm hq),
  {sub:=λb hb=>by simp at hb;simp [hb]
   frame:=λ_ _ _ st hk=>⟨st.1.at λo e=>hk _ (by simp) o e,hk d (by simp) _ st.2⟩
   item:=λi s' Q E hi st hQ=>Wy hh st.1 st.2 (λe h' hx hit' hs'=>hQ e.key h' s'.wS ⟨e,hx,rfl⟩ ⟨hit',(hs'.2 d (Ke (K7 hm))).ν st.2⟩ λb o hb q=>hs'.extBut b o (λh=>hb (by simp [h])) q) λh' hx=>υ hx (by rw[Jo hi];nofun)
   done:=λs' Q E st hQ=>Wy hh st.1 st.2 (λe h' hx=>υ hx (by simp)) λh' hx he'=>hQ h' s'.wS λb o hb e=>he' b o (λh=>hb (by simp [h])) e
   self:=λ_ _ _ _ st hQ=>QV st.1 hQ},
  ⟨⟨_,Ix.get?_push_size _ rfl,rfl,by simp⟩,Ix.mt _ hm⟩⟩
end
def EP{f:Ε}{a c:ap}{p q:μ}{Q:Ε->Qf->Prop}(hp:(j4 C.prog C.w).is a p=Qe)(hq:(j4 C.prog C.w).is c q=Qe)(hk:a.Op.Tv.Ψ=c.Op.Tv.Ψ)(h:Q (Rd a.Op c.Op) s):Qi C.M A (oneLt' f p q) Q E s:=by
 cases a with
 |i n=>
  cases c with
  |s y=>cases hk
  |i m=>
   obtain⟨t,rfl⟩:=Kd hp;obtain⟨u,rfl⟩:=Kd hq;cases f with
   |true=>exact oneLt_int h
   |false=>exact kat_one _ _ (PyProof.Rows.lt_int h)
 |s x=>
  cases c with
  |i m=>cases hk
  |s y=>
   obtain⟨t,rfl⟩:=Ka hp;obtain⟨u,rfl⟩:=Ka hq;have h:Q (Rf x.cps.ss y.cps.ss) s:=h;rw[Re] at h;cases f with
   |true=>exact oneLt_str h
   |false=>exact kat_one _ _ (PyProof.Rows.lt_str h)
def zcp{Q:Ε->Qf->Prop}{as:ζ ap}:∀{bs:ζ ap}{xs ys:ζ μ}{i:θ},ItemsAre (j4 C.prog C.w) as xs->ItemsAre (j4 C.prog C.w) bs ys->OP (.ay (as.ς ap.Op))=OP (.ay (bs.ς ap.Op))->Q (zci (as.ς ap.Op) (bs.ς ap.Op)) s->KatLex C.prog C.w A Qe Qb Q (xs.zip ys) i s:=by
 induction as with
 |ϟ=>
  intro bs xs ys i hx hy hs h;cases hx;exact kat_nil h
 |Κ a as ih=>
  intro bs xs ys i hx hy hs h;cases bs with
  |ϟ=>cases hs
  |Κ c bs=>
   cases hx with
   |Κ h1 r1=>
    cases hy with
    |Κ h2 r2=>
     have h:Q (bif gc a.Op c.Op then zci (as.ς ap.Op) (bs.ς ap.Op) else Rd a.Op c.Op) s:=h;rw[W4] at h;refine kat_cons ((j4 C.prog C.w).eqBool h1 h2 (kat_go (λed=>kat_yes (ih r1 r2 (KD.dL hs).2 ?_)) λed=>kat_no (EP h1 h2 (KD.dL hs).1 ?_)))
     ·rw[ed] at h;exact h
     ·rw[ed] at h;exact h
def KOk(C:bf)(h:QD)(ms:ζ ab)(vs:ζ μ)(κ:SortKind):Prop:=(∀{A:QC}{E:μ->Qf->Prop}{s:Qf}{Q:SortKind->Qf->Prop},s.Ω=h->Q κ s->Qi C.M A (keyKind' vs.τ) Q E s)/\∀{A:QC}{E:μ->Qf->Prop}{s:Qf}{Q:Ε->Qf->Prop}{i j:θ},s.Ω=h->i<ms.ε->j<ms.ε->Q (ltV (ms.bm i .Δ) (ms.bm j .Δ)) s->Qi C.M A (keyLt' κ (vs.bm i Z7) (vs.bm j Z7)) Q E s
section
variable{C:bf}{h:QD}{ms:List ab}{vs:List Value}{κ:SortKind}(ψ:KOk C h ms vs κ)
def KOk.Tc:=@ψ.1
def KOk.lt:=@ψ.2
end
def B2{ms:ζ ab}(r:jD C w ms vs)(hi:i<ms.ε):ms.bm i .Δ∈ms/\vs.bm i .Δ∈vs/\jG C w (ms.bm i .Δ) (vs.bm i .Δ):=by
 obtain⟨v,e1,e2⟩:=r.xL (Jo hi);simp only[ζ.getD_eq_getElem?_getD,Jo hi,e1];exact⟨Zg hi,Jr e1,e2⟩
def zdM{ms:ζ ab}(r:jD C w ms vs)(hv:v∈vs):∃m∈ms,jG C w m v:=by
 obtain⟨i,hi⟩:=qap.mp hv;have hl:i<ms.ε:=r.ε▸(Jx.mp hi).1;obtain⟨v',e1,e2⟩:=r.xL (Jo hl);cases hi.Μ.ν e1;exact⟨_,Zg hl,e2⟩
def FV{ms:ζ ab}{b:Ε}(r:jD C w ms vs)(h2:2<=vs.ε)(ok:∀m∈ms,nB m=Qe/\m.Tv.Ψ=b):KOk C h ms vs oneType':=by
 refine⟨λ{A E s Q} e hq=>?_,λ{A E s Q i j} e hi hj hq=>?_⟩
 ·refine kas_kind (T:=bif b then .w8 "str" else .w8 "int") h2 (λv hv=>?_) (by cases b<;>rfl) (by cases b<;>rfl) hq
  obtain⟨m,hm,hr⟩:=zdM r hv;obtain⟨o1,rfl⟩:=ok m hm;obtain⟨a,rfl⟩:=sO o1;cases a with
  |i n=>obtain⟨t,rfl⟩:=hr;exact Looks.of_pure rfl
  |s x=>obtain⟨t,rfl,_⟩:=hr;exact Looks.of_pure rfl
 ·obtain⟨m1,_,r1⟩:=B2 r hi
  obtain⟨m2,_,r2⟩:=B2 r hj
  revert hq r1 r2 m1 m2
  generalize ms.bm i .Δ=x,ms.bm j .Δ=y,vs.bm i Z7=p,vs.bm j Z7=q
  intro hq m1 r1 m2 r2;obtain⟨a1,b1⟩:=ok x m1;obtain⟨a2,b2⟩:=ok y m2;obtain⟨a,rfl⟩:=sO a1;obtain⟨c,rfl⟩:=sO a2;rw[keyLt'_oneType];refine EP r1.atom.1 r2.atom.1 (b1.ν b2.Μ) ?_;cases a<;>exact hq
def Mg{ms:ζ ab}(r:jD C w ms vs)(h2:2<=vs.ε)(P:∀m v,m∈ms->jG C w m v->∃as t,m=.ay (as.ς ap.Op)/\v=.ο t/\Ja (j4 C.prog C.w) h as t)(ok:∀m∈ms,OP m=Qe::k0):KOk C h ms vs (tuples' Qe):=by
 refine⟨λ{A E s Q} e hq=>?_,λ{A E s Q i j} e hi hj hq=>?_⟩
 ·subst e
  have g:∀(vs:ζ μ),(∀v∈vs,∃m∈ms,jG C w m v)->∃fs,KatTups s.Ω vs fs/\fs.ε=vs.ε/\∀f∈fs,∃x t,f=.Υ x t:=by
   intro vs
   induction vs with
   |ϟ=>exact λ_=>⟨[],.ϟ,rfl,λ_ h=>υ h JE⟩
   |Κ v vs ih=>
    intro H;obtain⟨fs,q1,q2,q3⟩:=ih λv hv=>H v (.lw _ hv);obtain⟨m,hm,hr⟩:=H v (.mo _);obtain⟨as,t,rfl,rfl,o,items,n,g1,g2,g3,g4⟩:=P m v hm hr;have hs:=ok _ hm;cases as with
    |ϟ=>cases hs
    |Κ a as=>
     cases a with
     |i n=>cases (KD.dL hs).1
     |s x=>
      obtain⟨t1,rest,e⟩:∃t1 rest,items.ss=KB x t1::rest:=by
       revert g4
       generalize items.ss=ws
       intro g4;cases g4 with
       |Κ h1 r=>
        obtain⟨t1,rfl⟩:=Ka h1;exact⟨t1,_,rfl⟩
      have hf:items[0]?=Qa (.Υ x t1):=by rw[<-sB.getElem?_toList,e];rfl
      exact⟨_::fs,.Κ g1 g2 g3 hf q1,χ ZX q2,λf hf=>(JO.mp hf).ι (λe=>⟨_,_,e⟩) (q3 f)⟩
  obtain⟨fs,q1,q2,q3⟩:=g vs λv hv=>zdM r hv;exact kat_kind (T:=.w8 "str") q1 (by rw[q2];exact Jw (by decide) h2) (λf hf=>by obtain⟨x,t,rfl⟩:=q3 f hf;exact Looks.of_pure rfl) rfl hq
 ·subst e
  obtain⟨m1,_,r1⟩:=B2 r hi;obtain⟨m2,_,r2⟩:=B2 r hj
  revert hq r1 r2 m1 m2
  generalize ms.bm i .Δ=x,ms.bm j .Δ=y,vs.bm i Z7=p,vs.bm j Z7=q
  intro hq m1 r1 m2 r2;have hs:=(ok x m1).ν (ok y m2).Μ;obtain⟨as,t,rfl,rfl,ox,xs,n,g1,_,d1,i1⟩:=P x p m1 r1;obtain⟨bs,u,rfl,rfl,oy,ys,k,g2,_,d2,i2⟩:=P y q m2 r2;refine kat_lt g1 d1 g2 d2 ?_;have e1:xs.pc=ys.pc:=by
   have e:=χ ZP hs;rw[<-sB.length_toList,<-sB.length_toList,<-i1.ε,<-i2.ε];unfold OP at e;simp only[ab.tup?,η.getD_some,Js] at e;exact e
  rw[e1,Γ (J3 _)];exact zcp i1 i2 hs hq
section
variable{news:List (Qj×Obj)}
def zaW{ms:ζ ab}(r:jD C w ms vs):∀{p:ζ θ},(∀i∈p,i<ms.ε)->jD C w (p.ς λi=>ms.bm i .Δ) (p.ς λi=>vs.bm i .Δ):=by
 intro p
 induction p with
 |ϟ=>intro _;exact .ϟ
 |Κ i p ih=>
  intro h;exact .Κ (B2 r (h i (.mo _))).2.2 (ih λj hj=>h j (.lw _ hj))
def zaV{ms:ζ ab}{Q:μ->Qf->Prop}(F:Fr h₀ L s.Ω m)(N:Ps h₀ L s.Ω ((D,listOf vs.τ n)::news))(hna:∀p∈news,p.1≠D)(hP:2<=vs.ε->∀h',Fr h₀ L h' m->Ps h₀ L h' news->∃κ,KOk C h' ms vs κ)(r:jD C w ms vs)(h60:ms.ε<=60)
  (h:∀(h':QD)(rn:ζ μ)(c:θ),Fr h₀ L h' m->Ps h₀ L h' ((D,listOf rn.τ c)::news)->jD C w (zF ms) rn->Q .Δ {s with heap:=h'}):
  Qi C.M A (call (.ϭ "list.sort") [.ο D]) Q E s:=by
 have hl:vs.ε=ms.ε:=r.ε.Μ;by_cases h2:vs.ε<2
 ·have hsame:zF ms=ms:=by
   unfold zF;rw[K3 (J7 (hl▸h2))];rfl
  exact Fw F N hna h2 λh' c F' N'=>h h' vs c F' N' (by rw[hsame];exact r)
 ·have h2:=Zs.mp h2
  refine kat_lsort (vs:=vs) F N (.mo hna) rfl h2 (by rw[hl];exact Jt h60 (by decide)) λe1 h' F' N'=>?_;obtain⟨κ,P⟩:=hP h2 h' F' λp hp=>N' p (.lw _ hp);refine P.Tc (s:={s with heap:=h'}) rfl ?_;have T:=A5 (hl▸Jw (by decide) h2:0<ms.ε);have hs:zF ms=(yt (λi j=>ltV (ms.bm i .Δ) (ms.bm j .Δ)) (kas_sort ms.ε)).ss.ς λi=>ms.bm i .Δ:=by unfold zF;rw[(Ε.eq_false_iff.Ϩ λe=>υ (θ.le_of_ble_eq_true e) (Xt.Ϩ (hl▸h2)):Zx ms.ε 1=Qb)];rfl
  rw[hs] at h;rw[hl];refine T.wp (lt:=λi j=>ltV (ms.bm i .Δ) (ms.bm j .Δ)) (λi j Cc hi hj hc=>P.lt (s:={s with heap:=h'}) rfl hi hj hc) ?_;exact KasFin.intro F' N' (.mo hna) λh2' c F2 N2=>h h2' _ c F2 N2 (zaW r λi hi=>KG.mp (by
    have:=(sB.perm_iff_toList_perm.mp T.ev).re.mp hi
    rwa [ζ.toList_toArray] at this))
end
def zcw{ms:ζ ab}(ok:okV ms=Qe)(r:jD C w ms vs)(h2:2<=vs.ε)(S:cb C Y.h₀ Y.L k w H h):∃κ,KOk C h ms vs κ:=by
 rcases K8.mp (Jn.mp ok).2 with q|q
 ·exact⟨_,FV r h2 λm hm=>(Jn.mp (Zn.mp q m hm)).imp id eq_of_beq⟩
 ·refine⟨_,Mg r h2 (λm v hm hr=>?_) λm hm=>Ο (Jn.mp (Zn.mp q m hm)).2⟩
  have h3:kG m=3:=eq_of_beq (Jn.mp (Zn.mp q m hm)).1;rcases p9 (v:=m) (by rw[h3];rfl) with ⟨a,rfl⟩| ⟨as,rfl⟩
  ·rw[qV] at h3;exact υ h3 (by decide)
  ·obtain⟨t,rfl,ht⟩:=S.iu hr
   exact⟨as,t,rfl,rfl,ht⟩
theorem L7 (K:vA C) (S:St Y k w H s) {x:ab} (hx:jG C w x v):bq Y k (VR C) (call (.ϭ "sorted") [v]) w s ((w7 H x).Η λms=>aw (okV ms) (lX H (.ξ (zF ms)))):=
 .jj λms hms=>.aw λhc=>by
  intro r' e' Q E hq;obtain rfl:=Qa.dL e';have h60:ms.ε<=60:=Df.mp (Jn.mp hc).1;obtain⟨all,hn,add,_,hp2⟩:=S.fc;have tail: ∀ (B:Qj) (h':QD) (tk:θ) (vs:ζ μ),Fr Y.h₀ Y.L h' k.m->Ps Y.h₀ Y.L h' ((B,listOf vs.τ 0)::all) ->(∀q∈all,q.1<B) ->jD C w ms vs->Qi C.M Y.A.in1 (call (.ϭ "list.sort") [.ο B]) (λ_ s'=>Q (.ο B) s') E {s with heap:=h',toks:=tk}:=λB h' tk vs F' N' hlt rr=>by
   refine zaV (s:={s with heap:=h',toks:=tk}) F' N' (λp hp=>Ke (hlt p hp)) (λh2 h3 F2 N2=>zcw hc rr h2 (hp2 h3 F2 N2)) rr h60 λh2 rn c F2 N2 hO=>?_;have h4:4<=B:=Zr λhlt4=>by
    refine(K.nu B hlt4).ι λo zq3=>?_
    have:=(N2 (B,_) (.mo _)).2.2
    rw[Y.k B o zq3] at this;exact nomatch this
   exact hq _ _ {s with heap:=h2,toks:=tk} ⟨(⟨Zh _ _,λ_ x=>x⟩:w.le ⟨w.σ++[B],w.tp⟩),add B (.ξ (zF ms)) [(B,listOf rn.τ c)] h2 ⟨_,_,rfl,jD.Ν (w':=⟨w.σ++[B],w.tp⟩) ⟨Zh _ _,λ_ x=>x⟩ hO,by rw[(tS ms).IO];exact Jm h60 (by decide)⟩ F2 N2 (qR _) (λp hp q hq=>by rw[JI.mp hp];exact λe=>υ (hlt q hq) (by rw[<-e];exact J3 _)) h4,rfl,rfl⟩ ⟨_,rfl,by rw[<-S.am];exact ZJ⟩
  refine kQ (kE λp hp e=>?_) (λe=>?_) hms
  ·subst e
   refine(S.Χ hx hp).ι λ_ zq17=>?_;obtain⟨b,n,es,rfl,hmod,_,hg,hdr,hlim,_⟩:=zq17.2;obtain⟨hl,hk⟩:=hdr.gn;rw[Js] at h60;refine kdu_sorted (O4 hmod) Y.tz S.fr hn hg (by rw[hl];exact Jm h60 (by rw[Q8];decide)) λB h' tk vs F' N' hlt hvl hvs=>tail B h' tk vs F' N' hlt ?_;have key:∀{ms:ζ ab}{vs:ζ μ},ms.ε=vs.ε->(∀(j:θ)(mv:ab)(v:μ),ms[j]?=Qa mv->vs[j]?=Qa v->jG C w mv v)->jD C w ms vs:=by
    intro ms
    induction ms with
    |ϟ=>intro vs h _;cases vs with
     |ϟ=>exact .ϟ
     |Κ _ _=>exact θ.Tz h
    |Κ x ms ih=>intro vs h hj;cases vs with
     |ϟ=>exact θ.Tz h
     |Κ y vs=>exact .Κ (hj 0 x y rfl rfl) (ih (ZX.dL h) λj mv v h1 h2=>hj (j+1) mv v h1 h2)
   refine key (by rw[Js,hvl,hl]) λj mv v h1 h2=>?_;rw[JA] at h1;obtain⟨q,hq,rfl⟩:=Za.mp h1;obtain⟨en,e1,e2⟩:=hk j q hq;obtain⟨en',e3,rfl⟩:=hvs j v h2;cases e1.Μ.ν e3;exact e2
  ·obtain⟨b,ws,n,rfl,hg,rr,hlim⟩:=S.ξ hx e
   exact DZ S.fr hn ⟨_,hg,rfl,n,rfl⟩ (by rw[<-rr.ε];exact Jm h60 (by rw[Q8];decide)) λD h' F' N' hlt=>tail D h' s.wS ws F' N' hlt rr
theorem zg9 (C:bf):EW C:=λ{d e Y k w H s as vs} K S r=> .a1 (T:=λl=>call (.ϭ "sorted") l) r λx v hx=>L7 K S hx
end Internal
namespace Internal
variable{many r st:Bool}{op:ub}{tg:List Nat}{ts:List T1}{a ac d i n np ns x:Nat}{ep ep0:Option Nat}{A A' B B' pq pr:Prop}{α β σ:Type}
structure W{α:Type}(o:η (α×MH))(Q:α->MH->Prop):Prop where
 w:JG (motive:=λ_=>Prop) o False λp=>Q p.1 p.2
structure Wo{α:Type}(o:η α)(Q:α->Prop):Prop where
 w:JG (motive:=λ_=>Prop) o False Q
section
variable{o:Option (α×MH)}{Q:α->MH->Prop}
def W.xL(h:W o Q):∃a g,o=Qa (a,g)/\Q a g:=by
 cases o with
 |none=>exact h.w.ι
 |some p=>exact⟨p.1,p.2,rfl,h.w⟩
def W.Ν{Q':α->MH->Prop}(h:W o Q)(i:∀a g,Q a g->Q' a g):W o Q':=by
 cases o with
 |none=>exact⟨h.w⟩
 |some p=>exact⟨i _ _ h.w⟩
def W.of{a:α}{g:MH}(e:o=Qa (a,g))(q:Q a g):W o Q:=by subst e;exact⟨q⟩
theorem kO{a:α}{g:MH}(q:Q a g):W (Qa (a,g)) Q:=⟨q⟩
def ar{f:α->MH->η (β×MH)}{R:β->MH->Prop}(h:W o λa g=>W (f a g) R):W (cf o f) R:=by
 cases o with
 |none=>exact h.w.ι
 |some p=>exact h.w
def w_bnd'{f:α->MH->η (β×MH)}{R:β->MH->Prop}(h:W (cf o f) R):W o λa g=>W (f a g) R:=by
 cases o with
 |none=>exact⟨h.w⟩
 |some p=>exact⟨h⟩
theorem AO{b:β}{P:β->Prop}(q:P b):Wo (Qa b) P:=⟨q⟩
def uU{x:η β}{f:β->η (α×MH)}(h:Wo x λb=>W (f b) Q):W (x.Η f) Q:=by
 cases x with
 |none=>exact h.w.ι
 |some b=>exact h.w
def uV{x:η β}{f:β->α×MH}(h:Wo x λb=>Q (f b).1 (f b).2):W (x.ς f) Q:=by
 cases x with
 |none=>exact h.w.ι
 |some b=>exact⟨h.w⟩
def LM{b:Ε}(hb:b=Qe)(h:W o Q):W (aw b o) Q:=by subst hb;exact h
def LN{o':η (α×MH)}(h:W o Q):W (ba o o') Q:=by
 cases o with
 |none=>exact h.w.ι
 |some p=>exact⟨h.w⟩
def Wo.Ν{o:η β}{P P':β->Prop}(h:Wo o P)(i:∀a,P a->P' a):Wo o P':=by
 cases o with
 |none=>exact⟨h.w⟩
 |some a=>exact⟨i a h.w⟩
def Wo.of{o:η β}{P:β->Prop}{a:β}(e:o=Qa a)(q:P a):Wo o P:=by subst e;exact⟨q⟩
theorem sD{p:η (ab×MH)}{Q:Ε->MH->Prop}(h:W p λv g=>Wo (truthy g v) λb=>Q b g):W (lQ p) Q:=ar (h.Ν λv g h=>uV (f:=λb=>(b,g)) h)
end
def WB(op:ij)(x y:ab)(h:MH)(Q:ab->MH->Prop):Prop:=W (oZ op x y h) Q
def WC(op:ub)(x y:ab)(h:MH)(Q:ab->MH->Prop):Prop:=Wo (mP op x y h) λr=>Q (.ϝ r) h
def WT(x:ab)(h:MH)(Q:Ε->Prop):Prop:=Wo (truthy h x) Q
def WI(o k:ab)(h:MH)(Q:ab->MH->Prop):Prop:=Wo (kJ h o k) λv=>Q v h
def WA(P:gu)(o:ab)(n:θ)(h:MH)(Q:ab->MH->Prop):Prop:=Wo (getAttr P h o n) λv=>Q v h
def iZ(o:ab)(k:θ)(bs:ζ ab)(h:MH)(Q:ab->MH->Prop):Prop:=W (slice h o k bs) Q
def WV(c:Cx)(f:ab)(as:ζ ab)(h:MH)(Q:ab->MH->Prop):Prop:=W (jJ c f as h) Q
def WM(c:Cx)(o:ab)(n:θ)(as:ζ ab)(h0 h:MH)(Q:ab->MH->Prop):Prop:=W (j1 c o n as h0 h) Q
def tn(c:Cx)(ts:ζ T1)(vs:ζ ab)(fr:Θ)(h:MH)(Q:Θ->MH->Prop):Prop:=W (oR c ts vs fr h) Q
def Br(r:Ε)(A B:Prop):Prop:=(r=Qe->A)/\(r=Qb->B)
theorem br(a:r=Qe->A)(b:r=Qb->B):Br r A B:=⟨a,b⟩
theorem Ax(a:A):Br Qe A B:=⟨λ_=>a,λh=>JJ h⟩
theorem RY(b:B):Br Qb A B:=⟨λh=>(JJ h:False).ι,λ_=>b⟩
theorem zko{s:Ε}(e:r=s)(q:Br s A B):Br r A B:=e▸q
abbrev ah(P:gu)(d:θ):Cx:=⟨P,200000,mD P 200000 d⟩
variable{Q:ab->MH->Prop}
section
variable{c:Cx}{fr:Frame}{h:MH}{P:gu}
def WE(c:Cx)(fr:Θ)(e:Ex)(h:MH)(Q:ab->MH->Prop):Prop:=W (eval c e fr h) Q
def tq(c:Cx)(fr:Θ)(es:ζ Ex)(h:MH)(Q:ζ ab->MH->Prop):Prop:=W (qC c es fr h) Q
def qL{v:ab}(hx:fr[x]?=Qa (Qa v))(q:Q v h):WE c fr (.Λ x) h Q:=by
 show W ((fr[x]?).Η λo=>o.ς λv=>(v,h)) Q;exact hx▸ ⟨q⟩
theorem zaN{v:ab}(q:Q v h):WE c fr (.f8 v) h Q:=kO q
theorem AR{Q:ζ ab->MH->Prop}(q:Q [] h):tq c fr [] h Q:=kO q
theorem BM{Q:ζ ab->MH->Prop}{e:Ex}{r:ζ Ex}(q:WE c fr e h λv h1=>tq c fr r h1 λvs h2=>Q (v::vs) h2):tq c fr (e::r) h Q:=ar (W.Ν q λv h1 q=>ar (W.Ν q λ_ _ q=>kO q))
theorem AS{es:ζ Ex}(q:tq c fr es h λvs h1=>Q (.ο h1.ε) (h1++[.ξ vs])):WE c fr (.ξ es) h Q:=ar (W.Ν q λ_ _ q=>kO q)
theorem zaK{es:ζ Ex}(q:tq c fr es h λvs h1=>Q (.ay vs) h1):WE c fr (.ay es) h Q:=ar (W.Ν q λ_ _ q=>kO q)
theorem zgh{es:ζ Ex}(hl:Zx es.ε 30=Qe)(q:tq c fr es h λvs h1=>Wo (vV vs []) λps=>Q (.ο h1.ε) (h1++[.Χ (Qa ps.ε) ps])):WE c fr (.Χ es) h Q:=ar (W.Ν q λvs h1 q=>uU (Wo.Ν q λps q=>LM hl (kO q)))
theorem zaQ{op:ij}{a b:Ex}(q:WE c fr a h λx h1=>WE c fr b h1 λy h2=>WB op x y h2 Q):WE c fr (.ew op a b) h Q:=ar (W.Ν q λx h1 q=>ar q)
theorem zaM{a:Ex}(q:WE c fr a h λx h1=>WT x h1 λb=>Q (.ϝ (!b)) h1):WE c fr (.not a) h Q:=ar (sD (W.Ν q λ_ _ q=>Wo.Ν q λ_ q=>kO q))
theorem zaP{a b:Ex}(q:WE c fr a h λx h1=>WE c fr b h1 λy h2=>WC op x y h2 Q):WE c fr (.ft op a b) h Q:=ar (W.Ν q λx h1 q=>ar (W.Ν q λy h2 q=>uV (f:=λr=>(ab.ϝ r,h2)) q))
def Lk{a b:η (α×MH)}{Q:α->MH->Prop}(q:Br r (W a Q) (W b Q)):W (bif r then a else b) Q:=by
 cases r with
 |true=>exact q.1 rfl
 |false=>exact q.2 rfl
theorem zaO{t a b:Ex}(q:WE c fr t h λx h1=>WT x h1 λr=>Br r (WE c fr a h1 Q) (WE c fr b h1 Q)):WE c fr (.ite t a b) h Q:=ar (sD (W.Ν q λx h1 q=>Wo.Ν q λr q=>Lk q))
theorem N0{e:Ex}(q:WE c fr e h λo h1=>WA c.P o n h1 Q):WE c fr (.aq e n) h Q:=ar (W.Ν q λo h1 q=>uV (f:=λv=>(v,h1)) q)
theorem zaL{e i:Ex}(q:WE c fr e h λo h1=>WE c fr i h1 λk h2=>WI o k h2 Q):WE c fr (.wr e i) h Q:=ar (W.Ν q λo h1 q=>ar (W.Ν q λk h2 q=>uV (f:=λv=>(v,h2)) q))
theorem BN{e:Ex}{k:θ}{bs:ζ Ex}(q:WE c fr e h λo h1=>tq c fr bs h1 λvs h2=>iZ o k vs h2 Q):WE c fr (.slice e k bs) h Q:=ar (W.Ν q λo h1 q=>ar q)
theorem NY{f:Ex}{as:ζ Ex}(q:WE c fr f h λg h1=>tq c fr as h1 λvs h2=>WV c g vs h2 Q):WE c fr (.ϧ f as) h Q:=ar (W.Ν q λo h1 q=>ar q)
theorem NX{o:Ex}{as:ζ Ex}(q:WE c fr o h λg h1=>tq c fr as h1 λvs h2=>WM c g n vs h1 h2 Q):WE c fr (.az o n as) h Q:=ar (W.Ν q λo h1 q=>ar q)
theorem NZ{e:Ex}(q:WE c fr e h Q):WE c fr (.mh st [e]) h Q:=ar (f:=λv h1=>Qa (v,h1)) (W.Ν q λ_ _ q=>kO q)
theorem DF{e f:Ex}{r:ζ Ex}(q:WE c fr e h λv h1=>WT v h1 λb=>Br (b==st) (Q v h1) (WE c fr (.mh st (f::r)) h1 Q)):WE c fr (.mh st (e::f::r)) h Q:=ar (f:=λv h1=>(truthy h1 v).Η λb=>bif b==st then Qa (v,h1) else y5 c st (f::r) fr h1) (W.Ν q λv h1 q=>uU (Wo.Ν q λb q=>Lk ⟨λh=>kO (q.1 h),q.2⟩))
variable{R:Fl->Frame->MH->Prop}
def WS(c:Cx)(s:Sm)(fr:Θ)(h:MH)(R:Fl->Θ->MH->Prop):Prop:=W (exec c s fr h) λp h=>R p.1 p.2 h
def bz(c:Cx)(s:ζ Sm)(fr:Θ)(h:MH)(R:Fl->Θ->MH->Prop):Prop:=W (execs c s fr h) λp h=>R p.1 p.2 h
theorem NO(q:R .nx fr h):bz c [] fr h R:=kO (a:=(Fl.nx,fr)) q
def ux(c:Cx)(r:ζ Sm)(R:Fl->Θ->MH->Prop)(fl:Fl)(fr:Θ)(h:MH):Prop:=Fl.Α (motive:=λ_=>Prop) fl (bz c r fr h R) (R .bk fr h) (R .ct fr h) λv=>R (.rt v) fr h
def BI{s:Sm}{r:ζ Sm}(q:WS c s fr h (ux c r R)):bz c (s::r) fr h R:=by
 exact ar (W.Ν q λp h1 q=>by
  obtain⟨fl,f2⟩:=p;cases fl with
  |nx=>exact q
  |bk=>exact⟨q⟩
  |ct=>exact⟨q⟩
  |rt v=>exact⟨q⟩)
def NS{e:Ex}(q:WE c fr e h λ_ h1=>R .nx fr h1):WS c (.expr e) fr h R:=by
 show W (cf (eval c e fr h) λ_ h1=>Qa ((Fl.nx,fr),h1)) λp h=>R p.1 p.2 h;exact ar (W.Ν q λ_ _ q=>⟨q⟩)
def zgD{e:Ex}(q:WE c fr e h λv h1=>R .nx (fr.ϩ x (Qa v)) h1):WS c (.fm (.nm x) e) fr h R:=by
 show W (cf (eval c e fr h) λv h1=>Qa ((Fl.nx,fr.ϩ x (Qa v)),h1)) λp h=>R p.1 p.2 h;exact ar (W.Ν q λ_ _ q=>⟨q⟩)
def zdE{o e:Ex}(q:WE c fr e h λv h1=>WE c fr o h1 λov h2=>Wo (setAttr c.P h2 ov n v) λh3=>R .nx fr h3):WS c (.fm (.at o n) e) fr h R:=by
 exact ar (W.Ν q λv h1 q=>ar (ar (W.Ν q λov h2 q=>uV (f:=λh3=>(fr,h3)) (Q:=λfr' h2=>W (Qa ((Fl.nx,fr'),h2)) λp h=>R p.1 p.2 h) (Wo.Ν q λ_ q=>⟨q⟩))))
def zdD{o i e:Ex}(q:WE c fr e h λv h1=>WE c fr o h1 λov h2=>WE c fr i h2 λiv h3=>Wo (lT h3 ov iv v) λh4=>R .nx fr h4):WS c (.fm (.sb o i) e) fr h R:=by
 exact ar (W.Ν q λv h1 q=>ar (ar (W.Ν q λov h2 q=>ar (W.Ν q λiv h3 q=>uV (f:=λh4=>(fr,h4)) (Q:=λfr' h2=>W (Qa ((Fl.nx,fr'),h2)) λp h=>R p.1 p.2 h) (Wo.Ν q λ_ q=>⟨q⟩)))))
def NU{e:Ex}(q:WE c fr e h λv h1=>Wo (items h1 v) λvs=>tn c ts vs fr h1 λf2 h2=>R .nx f2 h2):WS c (.jo ts e) fr h R:=by
 exact ar (W.Ν q λv h1 q=>uU (Wo.Ν q λvs q=>ar (W.Ν q λ_ _ q=>⟨q⟩)))
def zaG{e:Ex}(q:WE c fr e h λv h1=>R (.rt v) fr h1):WS c (.ret e) fr h R:=by
 show W (cf (eval c e fr h) λv h1=>Qa ((Fl.rt v,fr),h1)) λp h=>R p.1 p.2 h;exact ar (W.Ν q λ_ _ q=>⟨q⟩)
def zaH{t:Ex}{a b:ζ Sm}(q:WE c fr t h λx h1=>WT x h1 λr=>Br r (bz c a fr h1 R) (bz c b fr h1 R)):WS c (.ite t a b) fr h R:=by
 exact ar (sD (W.Ν q λx h1 q=>Wo.Ν q λr q=>Lk q))
theorem zaI(q:R .bk fr h):WS c .brk fr h R:=kO (a:=(Fl.bk,fr)) q
theorem NT(q:R .ct fr h):WS c .cont fr h R:=kO (a:=(Fl.ct,fr)) q
theorem NP(q:R .nx fr h):WS c .sg fr h R:=kO (a:=(Fl.nx,fr)) q
def WK(c:Cx)(f:θ)(as:ζ ab)(h:MH)(Q:ab->MH->Prop):Prop:=W (c.ϧ f as h) Q
def WF(P:gu)(d f:θ)(as:ζ ab)(h:MH)(Q:ab->MH->Prop):Prop:=W (mD P 200000 d f as h) Q
def Fin(Q:ab->MH->Prop)(fl:Fl)(_:Θ)(h:MH):Prop:=Fl.Α (motive:=λ_=>Prop) fl (Q .Δ h) False False λv=>Q v h
def AQ{f:θ}{fn:Fn}{as vs:ζ ab}(hf:P.jn f=Qa fn)(ha:rF fn as=Qa vs)(q:bz (ah P d) fn.Th (oV fn vs) h (Fin Q)):WF P (d+1) f as h Q:=by
 show W ((P.jn f).Η λf=>(rF f as).Η λvs=>cf (execs ⟨P,200000,mD P 200000 d⟩ f.Th (oV f vs) h) RG) Q;rw[hf];show W ((rF fn as).Η λvs=>cf (execs ⟨P,200000,mD P 200000 d⟩ fn.Th (oV fn vs) h) RG) Q;rw[ha];exact ar (W.Ν q λp h1 q=>by
  obtain⟨fl,f2⟩:=p;cases fl with
  |nx=>exact⟨q⟩
  |bk=>exact q.ι
  |ct=>exact q.ι
  |rt v=>exact⟨q⟩)
def BL{K f:θ}{fn:Fn}{as vs:ζ ab}(hd:K+1<=d)(hf:P.jn f=Qa fn)(ha:rF fn as=Qa vs)(q:∀d',K<=d'->bz (ah P d') fn.Th (oV fn vs) h (Fin Q)):WF P d f as h Q:=by
 refine(Kt hd).ι λd' zq1=>?_;refine eqB zq1 ?_;exact AQ (d:=d'+K) hf ha (q _ (Jz _ _))
end
def jA{h t:MH}{o:ae}(e:h[a]?=Qa o):(h++t)[a]?=Qa o:=by
 exact(Z5 (Jx.mp e).1).ν (e)
def ak{h t:MH}{o:ae}:(h++o::t)[h.ε]?=Qa o:=by
 refine(Z0 (Jv _)).ν ?_;rw[Yy];rfl
def jP{h:MH}{b:θ}{o x:ae}(ne:b≠a)(e:h[a]?=Qa o):(h.ϩ b x)[a]?=Qa o:=by rw[JZ ne];exact e
theorem jS{h:MH}{o:ae}(e:h[a]?=Qa o):a<h.ε:=(Jx.mp e).1
theorem j8{h:MH}{o x:ae}(e:h[a]?=Qa o):(h.ϩ a x)[a]?=Qa x:=JX (jS e)
def qP{h t:MH}{o x:ae}:(h++o::t).ϩ h.ε x=h++x::t:=by
 rw[Yn _ _ (Jv _),Yy];rfl
variable{vs:List ab}
def l8{h:MH}(e:h[a]?=Qa (.ξ vs)):j6 h (.ο a)=Qa vs:=by
 show (h[a]?).Η ae.Rs=_;rw[e];rfl
variable{es:List (ab×ab)}
def nR{h:MH}(e:h[a]?=Qa (.Χ ep es)):lV h (.ο a)=Qa (ep,es):=by
 show (h[a]?).Η ae.TO=_;rw[e];rfl
def Dc{h:MH}(e:h[a]?=Qa (.ξ vs)):lV h (.ο a)=none:=by
 show (h[a]?).Η ae.TO=_;rw[e];rfl
def p8{h:MH}(e:h[a]?=Qa (.Χ ep es)):j6 h (.ο a)=none:=by
 show (h[a]?).Η ae.Rs=_;rw[e];rfl
variable{fs:List (Nat×ab)}
def HK{h:MH}{k:θ}(e:h[a]?=Qa (.Td k fs)):ck h (.ο a)=Qa (k,fs):=by
 show (h[a]?).Η ae.inst?=_;rw[e];rfl
section
variable{c:Cx}{fr:Frame}{h:MH}{P:gu}
theorem zgW{a b:Τ}(q:Q (.φ (a+b)) h):WB .Ϯ (.φ a) (.φ b) h Q:=⟨q⟩
theorem zgV{a b:Τ}(q:Q (.φ (a-b)) h):WB .wr (.φ a) (.φ b) h Q:=⟨q⟩
def N7{a b:ζ θ}(hl:a.ε+b.ε<=bc)(q:Q (.Υ (a++b)) h):WB .Ϯ (.Υ a) (.Υ b) h Q:=by
 show W (aw (Zx (a.ε+b.ε) bc) (Qa (ab.Υ (a++b),h))) Q;exact(Zl.Ϩ hl)▸ ⟨q⟩
def Mz{b:Ε}{o:η α}(hb:b=Qe):aw b o=o:=by subst hb;rfl
def zaR{a b:Τ}(hm:HB a b=Qe)(q:Q (.φ (a*b)) h):WB .lv (.φ a) (.φ b) h Q:=by
 have e:HA h (.φ a) (.φ b)=Qa (.φ (a*b),h):=by
  delta HA;simp only[ab.sK,qae,Mz hm];rfl
 have e2:oZ .lv (.φ a) (.φ b) h=ba Qc (HA h (.φ a) (.φ b)):=by
  delta oZ;simp only[ab.sK,qae,Dn,qam]
 delta WB;rw[e2,e];exact⟨q⟩
theorem zgl{a:Τ}{b:Ε}(q:Q (.φ (a*(if b then 1 else 0))) h):WB .lv (.φ a) (.ϝ b) h Q:=⟨q⟩
def zbr{l:θ}(hn:n<=bc)(hl:l*n<=bc):Hk l (n:Τ)=true:=by
 delta Hk;rw[ZY,ZY];exact⟨⟨Ζ (by lia),Ζ (by lia)⟩,Zl.Ϩ (by rw[KI];exact hl)⟩
def Ed{x:α}:(JU n [x]).ld=JU n x:=by
 induction n with
 |zero=>rfl
 |succ n ih=>rw[qaB,K6,ih];rfl
def AU{x:ζ ab}(ha:h[a]?=Qa (.ξ x))(hl:n<=bc)(hx:x.ε*n<=bc)(q:Q (.ο h.ε) (h++[.ξ (JU n x).ld])):WB .lv (.ο a) (.φ n) h Q:=by
 show W ((j6 h (.ο a)).Η λa=>(Qa (n:Τ)).Η λn=>aw (Hk a.ε n) (lX h (.ξ (JU n.Mi a).ld))) Q;rw[l8 ha];exact LM (o:=lX h (.ξ (JU n x).ld)) (zbr hl hx) (kO q)
def LL{o:η Τ}{k:Τ}(e:o=Qa k)(q:Q (.φ k) h){o':η (ab×MH)}:W (ba (o.ς λk=>(ab.φ k,h)) o') Q:=by subst e;exact⟨q⟩
def N6{a b:Τ}(hb:b≠0)(hl:b.natAbs<jh)(q:Q (.φ (qar a b)) h):WB .fdiv (.φ a) (.φ b) h Q:=by
 refine LL (o:=Dn .fdiv a b) ?_ q;show aw _ _=_;rw[show (b !=0 && Zx (b.natAbs+1) jh)=Qe by rw[ZY];exact⟨bne_iff_ne.Ϩ hb,Zl.Ϩ hl⟩];rfl
def zaS{a b:Τ}(hb:b≠0)(q:Q (.φ (Xc a b)) h):WB .mod (.φ a) (.φ b) h Q:=by
 refine LL (o:=Dn .mod a b) ?_ q;show aw _ _=_;rw[bne_iff_ne.Ϩ hb];rfl
theorem UH{a b:ab}(e:mP op a b h=Qa r)(q:Q (.ϝ r) h):WC op a b h Q:=Wo.of e q
theorem zkd{a b:Τ}(q:Q (.ϝ (decide (a<b))) h):WC .lt (.φ a) (.φ b) h Q:=⟨q⟩
theorem zke{a b:Τ}(q:Q (.ϝ (decide (a<=b))) h):WC .le (.φ a) (.φ b) h Q:=⟨q⟩
theorem zkf{a b:Τ}(q:Q (.ϝ (decide (b<a))) h):WC .gt (.φ a) (.φ b) h Q:=⟨q⟩
theorem zkg{a b:Τ}(q:Q (.ϝ (decide (b<=a))) h):WC .ge (.φ a) (.φ b) h Q:=⟨q⟩
theorem BY{a b:ab}(e:kr h a b=Qa r)(q:Q (.ϝ r) h):WC .eq a b h Q:=UH e q
theorem LJ{a b:ab}(e:kr h a b=Qa r)(q:Q (.ϝ (!r)) h):WC .ne a b h Q:=UH (r:=!r) (by show (kr h a b).ς _=_;rw[e];rfl) q
theorem zgN{a b:ab}(e:kr h a b=Qa Qe)(q:Q (.ϝ Qb) h):WC .ne a b h Q:=LJ e q
theorem zgO{a b:ab}(e:kr h a b=Qa Qb)(q:Q (.ϝ Qe) h):WC .ne a b h Q:=LJ e q
theorem Sw{a b:ab}(e:qx a b=Qa r)(q:Q (.ϝ r) h):WC .is a b h Q:=UH e q
theorem LK{a b:ab}(e:qx a b=Qa r)(q:Q (.ϝ (!r)) h):WC .gh a b h Q:=UH (r:=!r) (by show (qx a b).ς _=_;rw[e];rfl) q
theorem Sx{a b:ab}(e:Ua h a b=Qa r)(q:Q (.ϝ r) h):WC .ma a b h Q:=UH e q
theorem BX{a b:ab}(e:Ua h a b=Qa r)(q:Q (.ϝ (!r)) h):WC .jc a b h Q:=UH (r:=!r) (by show (Ua h a b).ς _=_;rw[e];rfl) q
theorem tQ{b:Ε}{Q:Ε->Prop}(q:Q b):WT (.ϝ b) h Q:=⟨q⟩
theorem zdz{v:ab}{b:Ε}{Q:Ε->Prop}(e:truthy h v=Qa b)(q:Q b):WT v h Q:=Wo.of e q
def G3(hi:i<n):og n (.φ i)=Qa i:=by
 show aw _ _=_;simp only[Ζ (show (0:Τ)<=(i:Τ) by exact KW _),Ζ (show (i:Τ)<(n:Τ) by lia),KI];rfl
theorem jI{vs:ζ α}{v:α}(hv:vs[i]?=Qa v):i<vs.ε:=(Jx.mp hv).1
def yA{a b:η α}{v:α}{Q:α->Prop}(e:a=Qa v)(q:Q v):Wo (ba a b) Q:=by subst e;exact⟨q⟩
def Gv{v:ab}(ha:h[a]?=Qa (.ξ vs))(hv:vs[i]?=Qa v)(q:Q v h):WI (.ο a) (.φ i) h Q:=by
 refine yA (a:=(j6 h (.ο a)).Η λvs=>(og vs.ε (.φ i)).Η λk=>vs[k]?) ?_ q;rw[l8 ha];show (og vs.ε (.φ i)).Η _=_;exact(G3 (jI hv))▸hv
def zgF{v:ab}(hv:vs[i]?=Qa v)(q:Q v h):WI (.ay vs) (.φ i) h Q:=by
 exact yA (a:=(og vs.ε (.φ i)).Η λk=>vs[k]?) ((G3 (jI hv))▸hv) q
theorem zj9{i:Τ}{v:ab}(hv:((og vs.ε (.φ i)).Η λk=>vs[k]?)=Qa v)(q:Q v h):WI (.ay vs) (.φ i) h Q:=yA (a:=(og vs.ε (.φ i)).Η λk=>vs[k]?) hv q
def zdF{v:ab}(hv:vs[i]?=Qa v)(q:Q v h):WI (.fl vs) (.φ i) h Q:=by
 exact yA (a:=(og vs.ε (.φ i)).Η λk=>vs[k]?) ((G3 (jI hv))▸hv) q
def AP{k v:ab}(ha:h[a]?=Qa (.Χ ep es))(hf:jN es k=Qe)(hv:jO es k=Qa v)(q:Q v h):WI (.ο a) k h Q:=by
 show Wo (ba ((j6 h (.ο a)).Η _) ((lV h (.ο a)).Η λd=>aw (jN d.2 k) (jO d.2 k))) _;rw[p8 ha,nR ha];show Wo (aw (jN es k) (jO es k)) _;rw[hf,hv];exact⟨q⟩
def zaT{k:θ}{v:ab}(ha:h[a]?=Qa (.Td k fs))(hv:vS fs n=Qa v)(hf:P.cz k n=Qe)(q:Q v h):WA P (.ο a) n h Q:=by
 refine yA (a:=(ck h (.ο a)).Η λq=>JG (motive:=λ_=>η ab) (vS q.2 n) (u6 P q.1 n) λv=>aw (P.cz q.1 n) (Qa v)) ?_ q;rw[HK ha];show JG (motive:=λ_=>η ab) (vS fs n) (u6 P k n) (λv=>aw (P.cz k n) (Qa v))=_;rw[hv];rw[hf];rfl
def DG{v:ab}(e:((P.ck a).Η λc=>u6 P c n)=Qa v)(q:Q v h):WA P (.ai a) n h Q:=by
 show Wo ((P.ck a).Η λc=>u6 P c n) _;exact e▸ ⟨q⟩
def Fu{k:θ}{v:ab}{Q:MH->Prop}(ha:h[a]?=Qa (.Td k fs))(hf:P.cz k n=Qe)(hl:fs.ε<400)(q:Q (h.ϩ a (.Td k (Va fs n v)))):Wo (setAttr P h (.ο a) n v) Q:=by
 show Wo ((h[a]?.Η ae.inst?).Η λq=>aw (P.cz q.1 n && Zx (q.2.ε+1) 400) (Qa (h.ϩ a (.Td q.1 (Va q.2 n v))))) Q;rw[ha];show Wo (aw (P.cz k n && Zx (fs.ε+1) 400) (Qa (h.ϩ a (.Td k (Va fs n v))))) Q;rw[hf,Zl.Ϩ hl];exact⟨q⟩
def CK{v:ab}{Q:MH->Prop}(ha:h[a]?=Qa (.ξ vs))(hi:i<vs.ε)(q:Q (h.ϩ a (.ξ (vs.ϩ i v)))):Wo (lT h (.ο a) (.φ i) v) Q:=by
 refine yA (a:=(h[a]?.Η ae.Rs).Η λvs=>(og vs.ε (.φ i)).ς λk=>h.ϩ a (.ξ (vs.ϩ k v))) ?_ q;rw[ha];show (og vs.ε (.φ i)).ς _=_;rw[G3 hi];rfl
def CL{k v:ab}{Q:MH->Prop}(ha:h[a]?=Qa (.Χ ep es))(hf:jN es k=Qe)(hl:es.ε<bc)(q:Q (h.ϩ a (.Χ (bif (jO es k).Ψ then ep else ep.ς (· +1)) (mK es k v)))):Wo (lT h (.ο a) k v) Q:=by
 show Wo (ba ((h[a]?.Η ae.Rs).Η _) ((h[a]?.Η ae.TO).Η λd=>aw (jN d.2 k && Zx (d.2.ε+1) bc) (Qa (h.ϩ a (.Χ (bif (jO d.2 k).Ψ then d.1 else d.1.ς (· +1)) (mK d.2 k v)))))) Q;rw[ha];show Wo (aw (jN es k && Zx (es.ε+1) bc) (Qa (h.ϩ a (.Χ (bif (jO es k).Ψ then ep else ep.ς (· +1)) (mK es k v))))) Q;rw[hf,Zl.Ϩ hl];exact⟨q⟩
def l5{as:ζ ab}(hc:P.gd a=Qc)(q:WF P d a as h Q):WV (ah P d) (.ai a) as h Q:=by
 show W (ba (JG (motive:=λ_=>η (ab×MH)) (P.gd a) (mD P 200000 d a as h) λk=>Pm (ah P d) a k as h) _) Q;exact hc▸LN (q:W (mD P 200000 d a as h) Q)
def BG{k:Cl}{as:ζ ab}(hc:P.gd a=Qa k)(hi:k.init=Qa i)(q:WF P d i (.ο h.ε::as) (h++[.Td a []]) λv h'=>v=.Δ/\Q (.ο h.ε) h'):WV (ah P d) (.ai a) as h Q:=by
 show W (ba (JG (motive:=λ_=>η (ab×MH)) (P.gd a) (mD P 200000 d a as h) λk=>Pm (ah P d) a k as h) _) Q;rw[hc];refine LN ?_;show W (k.init.Η λi=>cf (mD P 200000 d i (.ο h.ε::as) (h++[.Td a []])) λr h'=>aw r.pi (Qa (.ο h.ε,h'))) Q;rw[hi];exact ar (f:=λr h'=>aw r.pi (Qa (ab.ο h.ε,h'))) (R:=Q) (W.Ν q λv h' q=>by rw[q.1];exact⟨q.2⟩)
def Ss{as:ζ ab}{v:ab}{h':MH}(e:Lj n as h=Qa (v,h'))(q:Q v h'):WV c (.bi n) as h Q:=by
 show W (ba (Lj n as h) Qc) Q;exact e▸ ⟨q⟩
def BF{as:ζ ab}{v:ab}{h':MH}(e:Li n as h=Qa (v,h'))(q:Q v h'):WV c (.ty n) as h Q:=by
 show W (Li n as h) Q;exact e▸ ⟨q⟩
def Gs{v:ab}(e:Mb h v=Qa n)(q:Q (.φ n) h):WV c (.bi uK) [v] h Q:=by
 refine Ss (v:=.φ n) (h':=h) ?_ q;show ba ((Mb h v).ς λ(k:θ)=>(ab.φ (k:Τ),h)) _=_;rw[e];rfl
theorem zdy{k:Τ}(q:Q (.gb k) h):WV c (.ty WU) [.φ k] h Q:=⟨q⟩
def NL(ha:h[a]?=Qa (.ξ vs))(q:Q (.ο h.ε) (h++[.ξ vs])):WV c (.ty Hw) [.ο a] h Q:=by
 refine BF (v:=.ο h.ε) (h':=h++[.ξ vs]) ?_ q;show ba ((j6 h (.ο a)).Η λvs=>lX h (.ξ vs)) _=_;simp only[l8 ha];rfl
theorem zaC{a b:Τ}(q:Q (.φ (if b>a then b else a)) h):WV c (.bi Pp) [.φ a,.φ b] h Q:=⟨q⟩
theorem zgy{a b:Τ}(q:Q (.φ (if b<a then b else a)) h):WV c (.bi zbW) [.φ a,.φ b] h Q:=⟨q⟩
def zgc{v:ab}(e:DH h v=Qa n)(q:Q (.ty n) h):WV c (.ty IC) [v] h Q:=by
 refine BF (v:=.ty n) (h':=h) ?_ q;show ba ((DH h v).ς λk=>(ab.ty k,h)) _=_;rw[e];rfl
def zcr(ha:h[a]?=Qa (.ξ vs)):Mb h (.ο a)=Qa vs.ε:=by
 show ba ((j6 h (.ο a)).ς (·.ε)) _=_;rw[l8 ha];rfl
def zcs(ha:h[a]?=Qa (.Χ ep es)):Mb h (.ο a)=Qa es.ε:=by
 show ba ((j6 h (.ο a)).ς (·.ε)) ((lV h (.ο a)).ς (·.2.ε))=_;rw[p8 ha,nR ha];rfl
def jX{o:ab}{f:θ}{self as:ζ ab}{h0:MH}(hg:mV P h0 o n=Qa (f,self))(q:WF P d f (self++as) h Q):WM (ah P d) o n as h0 h Q:=by
 show W (JG (motive:=λ_=>η (ab×MH)) (mV P h0 o n) (y7 o n as h0 h) λp=>mD P 200000 d p.1 (p.2++as) h) Q;exact hg▸(q:W (mD P 200000 d f (self++as) h) Q)
def kY{k f:θ}{h0:MH}(ha:h0[a]?=Qa (.Td k fs))(hn:vS fs n=Qc)(hm:y4 P k n=Qa f):mV P h0 (.ο a) n=Qa (f,[.ο a]):=by
 show ((ck h0 (.ο a)).Η λq=>aw (vS q.2 n).pi ((y4 P q.1 n).ς λf=>(f,[ab.ο a])))=_;rw[HK ha];show aw (vS fs n).pi ((y4 P k n).ς λf=>(f,[ab.ο a]))=_;rw[hn,hm];rfl
def Sv{as:ζ ab}{h0:MH}(hi:ck h0 (.ο a)=Qc)(q:W (y7 (.ο a) n as h0 h) Q):WM c (.ο a) n as h0 h Q:=by
 show W (JG (motive:=λ_=>η (ab×MH)) ((ck h0 (.ο a)).Η _) (y7 (.ο a) n as h0 h) λ(p:θ×ζ ab)=>c.ϧ p.1 (p.2++as) h) Q;exact hi▸q
def Ms(e:h[a]?=Qa (.ξ vs)):ck h (.ο a)=none:=by
 show (h[a]?).Η ae.inst?=_;rw[e];rfl
def Mt(e:h[a]?=Qa (.Χ ep es)):ck h (.ο a)=none:=by
 show (h[a]?).Η ae.inst?=_;rw[e];rfl
def EL{as us:ζ ab}{h0:MH}(h0a:h0[a]?=Qa (.ξ us))(ha:h[a]?=Qa (.ξ vs))(q:W (wZ a vs n as h) Q):WM c (.ο a) n as h0 h Q:=by
 refine Sv (Ms h0a) ?_;show W (ba ((h0[a]?.Η ae.Rs).Η λ_=>(h[a]?.Η ae.Rs).Η λvs=>wZ a vs n as h) _) Q;rw[h0a,ha];exact LN q
theorem UG{us:ζ ab}{v:ab}{h0:MH}(h0a:h0[a]?=Qa (.ξ us))(ha:h[a]?=Qa (.ξ vs))(hl:vs.ε<bc)(q:Q .Δ (h.ϩ a (.ξ (vs++[v])))):WM c (.ο a) fg [v] h0 h Q:=
 EL h0a ha (LN (LM (o:=Qa (ab.Δ,h.ϩ a (.ξ (vs++[v])))) (Zl.Ϩ hl) (kO q)))
def zaJ{us:ζ ab}{v:ab}{h0:MH}(h0a:h0[a]?=Qa (.ξ us))(ha:h[a]?=Qa (.ξ (vs++[v])))(q:Q v (h.ϩ a (.ξ vs))):WM c (.ο a) qw [] h0 h Q:=by
 refine EL h0a ha ?_;show W ((vs++[v]).getLast?.ς λw=>(w,h.ϩ a (.ξ (vs++[v]).dropLast))) Q;rw[ζ.getLast?_concat,ζ.dropLast_concat];exact⟨q⟩
def EM{as:ζ ab}{es0:ζ (ab×ab)}{h0:MH}(h0a:h0[a]?=Qa (.Χ ep0 es0))(ha:h[a]?=Qa (.Χ ep es))(q:W (xP es n as h) Q):WM c (.ο a) n as h0 h Q:=by
 refine Sv (Mt h0a) ?_;show W (ba ((h0[a]?.Η ae.Rs).Η _) ((h0[a]?.Η ae.TO).Η λ_=>(h[a]?.Η ae.TO).Η λd=>xP d.2 n as h)) Q;rw[h0a,ha];exact q
theorem BK{es0:ζ (ab×ab)}{k e:ab}{h0:MH}(h0a:h0[a]?=Qa (.Χ ep0 es0))(ha:h[a]?=Qa (.Χ ep es))(hf:jN es k=Qe)(q:Q ((jO es k).bm e) h):WM c (.ο a) jz [k,e] h0 h Q:=
 EM h0a ha (LM (o:=Qa ((jO es k).bm e,h)) hf (kO q))
theorem NW{es0:ζ (ab×ab)}{k:ab}{h0:MH}(h0a:h0[a]?=Qa (.Χ ep0 es0))(ha:h[a]?=Qa (.Χ ep es))(hf:jN es k=Qe)(q:Q ((jO es k).bm .Δ) h):WM c (.ο a) jz [k] h0 h Q:=
 EM h0a ha (LN (LM (o:=Qa ((jO es k).bm .Δ,h)) hf (kO q)))
theorem zgg{Q:Θ->MH->Prop}(q:Q fr h):tn c [] [] fr h Q:=⟨q⟩
theorem zgB{v:ab}{Q:Θ->MH->Prop}(q:tn c ts vs (fr.ϩ x (Qa v)) h Q):tn c (.nm x::ts) (v::vs) fr h Q:=q
def zgA{o i:Ex}{v:ab}{Q:Θ->MH->Prop}(q:WE c fr o h λov h1=>WE c fr i h1 λiv h2=>Wo (lT h2 ov iv v) λh3=>tn c ts vs fr h3 Q):tn c (.sb o i::ts) (v::vs) fr h Q:=by
 exact ar (ar (W.Ν q λov h1 q=>ar (W.Ν q λiv h2 q=>uV (f:=λh3=>(fr,h3)) (Q:=λfr' h'=>W (oR c ts vs fr' h') Q) q)))
def zgC{o:Ex}{v:ab}{Q:Θ->MH->Prop}(q:WE c fr o h λov h1=>Wo (setAttr c.P h1 ov n v) λh3=>tn c ts vs fr h3 Q):tn c (.at o n::ts) (v::vs) fr h Q:=by
 exact ar (ar (W.Ν q λov h1 q=>uV (f:=λh3=>(fr,h3)) (Q:=λfr' h'=>W (oR c ts vs fr' h') Q) q))
def zgt{Q:ζ ab->Prop}(ha:h[a]?=Qa (.ξ vs))(q:Q vs):Wo (items h (.ο a)) Q:=by
 show Wo (ba Qc (j6 h (.ο a))) Q;exact(l8 ha)▸ ⟨q⟩
theorem zgs{Q:ζ ab->Prop}(q:Q vs):Wo (items h (.ay vs)) Q:=⟨q⟩
end
def VJ(I:Θ->MH->Prop)(R:Fl->Θ->MH->Prop)(fl:Fl)(fr:Θ)(h:MH):Prop:=Fl.Α (motive:=λ_=>Prop) fl (I fr h) (R .nx fr h) (I fr h) λv=>R (.rt v) fr h
variable{R:Fl->Frame->MH->Prop}
section
variable{c:Cx}{fr:Frame}{h:MH}
def Ri{next:θ->MH->η (η ab)}{bd:Θ->ab->η Θ}{b:Θ->MH->SR}(n:θ)(I:θ->Θ->MH->Prop)
  (step:∀i,i<n->∀fr h,I i fr h->Wo (next i h) λov=>Wo ov λv=>Wo (bd fr v) λfr1=>W (b fr1 h) λp h'=>VJ (I (i+1)) R p.1 p.2 h')
  (stop:∀fr h,I n fr h->Wo (next n h) λov=>ov=Qc/\R .nx fr h):∀(m i fu:θ),i+m=n->m<fu->∀fr h,I i fr h->W (UZ next bd b fu i fr h) λp h=>R p.1 p.2 h:=by
 intro m
 induction m with
 |zero=>
  intro i fu hi hf fr h I0;refine(Kt hf).ι λfu zq12=>?_;obtain rfl:=zq12;subst hi;have q:Wo (next i h) λov=>ov=Qc/\R .nx fr h:=stop fr h I0;exact uU (q.Ν λov q=>by obtain⟨rfl,q⟩:=q;exact⟨q⟩)
 |succ m ih=>
  intro i fu hi hf fr h I0;obtain⟨fu,rfl⟩:=Kt (Jt (JF _) hf);have q:=step i (Jw (ZM (ZU _)) (JC hi)) fr h I0;refine uU (q.Ν λov q=>?_);cases ov with
  |none=>exact q.w.ι
  |some v=>
   refine uU (Wo.Ν q.w λfr1 q=>ar (W.Ν q λp h2 q=>?_));obtain⟨fl,f2⟩:=p;cases fl with
   |nx=>exact ih (i+1) _ (by lia) (Ky hf) f2 h2 q
   |ct=>exact ih (i+1) _ (by lia) (Ky hf) f2 h2 q
   |bk=>exact⟨q⟩
   |rt v=>exact⟨q⟩
def Gu{e:Ex}{b:ζ Sm}
  (q:WE c fr e h λv h1=>∃k,∃xs:ζ ab,nA h1 v=Qa k/\xs.ε<c.cv/\∃I:θ->Θ->MH->Prop,I 0 fr h1/\(∀i fr h,I i fr h->lI h i k=Qa xs[i]?)/\
   (∀i x,xs[i]?=Qa x->∀fr h,I i fr h->Wo (mQ fr tg many x) λfr1=>bz c b fr1 h (VJ (I (i+1)) R))/\∀fr h,I xs.ε fr h->R .nx fr h):WS c (.fo tg many e b) fr h R:=by
 show W (cf (eval c e fr h) λv h1=>(nA h1 v).Η λk=>UZ (λi h=>lI h i k) (λfr v=>mQ fr tg many v) (λfr h=>execs c b fr h) c.cv 0 fr h1) λp h=>R p.1 p.2 h;refine ar (W.Ν q λv h1 q=>?_);refine q.ι λk zq8=>zq8.ι λxs zq9=>zq9.2.2.ι λI zq10=>?_;rw[zq9.1];refine Ri xs.ε I (λi hi fr h hI=>?_) (λfr h hI=>?_) xs.ε 0 c.cv (ZK _) zq9.2.1 fr h1 zq10.1
 ·simp only[zq10.2.1 i fr h hI,Jo hi]
  exact⟨⟨zq10.2.2.1 i _ (Jo hi) fr h hI⟩⟩
 ·rw[zq10.2.1 _ fr h hI,ZR (Jv _)]
  exact⟨rfl,zq10.2.2.2 fr h hI⟩
def xD(ha:h[a]?=Qa (.ξ vs)):nA h (.ο a)=Qa (.ls a):=by
 show ba Qc (ba (ba ((h[a]?.Η ae.Rs).ς λ_=>It.ls a) _) _)=_;rw[ha];rfl
def wO(ha:h[a]?=Qa (.ξ vs)):lI h i (.ls a)=Qa vs[i]?:=by
 show (h[a]?.Η ae.Rs).ς _=_;rw[ha];rfl
def Ak(hn:n<=bc):nA h (.gb n)=Qa (.rg n):=by
 show ba (aw _ _) _=_;simp only[Ζ (show (n:Τ)<=(bc:Τ) by lia),Ζ (show-(bc:Τ)<=(n:Τ) by lia)];rfl
def GI(n:θ):ζ ab:=(Zk n).ς λ(i:θ)=>ab.φ (i:Τ)
def nI:(GI n).ε=n:=by unfold GI;rw[Js,Zm]
def Ec(hi:i<n):(GI n)[i]?=Qa (.φ i):=by
 unfold GI;rw[JA,ZW hi];rfl
def GH{x:ab}(hx:(GI n)[i]?=Qa x):i<n/\x=.φ i:=by
 have hi:i<n:=by have:=jI hx;rwa [nI] at this
 rw[Ec hi] at hx;exact⟨hi,(Qa.dL hx).Μ⟩
def D7(hi:i<=n):lI h i (.rg n)=Qa (GI n)[i]?:=by
 show Qa (bif decide ((i:Τ)<(n:Τ)) then Qa (ab.φ i) else Qc)=_;by_cases hl:i<n
 ·rw[Ζ (show (i:Τ)<(n:Τ) by lia),Ec hl];rfl
 ·rw[Γ (show ¬(i:Τ)<(n:Τ) by lia),ZR (by rw[nI];exact Zr hl)];rfl
theorem kP{v:ab}{Q:Θ->Prop}(q:Q (fr.ϩ x (Qa v))):Wo (mQ fr [x] Qb v) Q:=⟨q⟩
theorem NR{e:Ex}{b:ζ Sm}(hn:vs.ε<c.cv)(I:θ->Θ->MH->Prop)
  (hk:∀i fr h,I i fr h->h[a]?=Qa (.ξ vs)) (q:WE c fr e h λv h1=>v=.ο a/\I 0 fr h1)
  (step:∀i v,vs[i]?=Qa v->∀fr h,I i fr h->bz c b (fr.ϩ x (Qa v)) h (VJ (I (i+1)) R))
  (stop:∀fr h,I vs.ε fr h->R .nx fr h):WS c (.fo [x] Qb e b) fr h R:=
 Gu (W.Ν q λv h1 q=>by
  refine eqB q.1 ?_;exact⟨.ls a,vs,xD (hk _ _ _ q.2),hn,I,q.2,λi fr h hI=>wO (hk _ _ _ hI),λi x hx fr h hI=>kP (step i x hx fr h hI),stop⟩)
theorem NQ{e:Ex}{b:ζ Sm}(hn:n<c.cv)(hl:n<=bc)(I:θ->Θ->MH->Prop)
  (q:WE c fr e h λv h1=>v=.gb n/\I 0 fr h1)
  (step:∀i,i<n->∀fr h,I i fr h->bz c b (fr.ϩ x (Qa (.φ i))) h (VJ (I (i+1)) R))
  (stop:∀fr h,I n fr h->R .nx fr h):WS c (.fo [x] Qb e b) fr h R:=
 Gu (W.Ν q λv h1 q=>by
  obtain⟨rfl,I0⟩:=q;refine⟨.rg n,GI n,Ak hl,by rw[nI];exact hn,λi fr h=>i<=n/\I i fr h,⟨JF _,I0⟩,λi fr h hI=>D7 hI.1,λi x hx fr h hI=>?_,λfr h hI=>stop fr h (nI (n:=n)▸hI.2)⟩;obtain⟨hi,rfl⟩:=GH hx;refine kP (W.Ν (step i hi fr h hI.2) λp h' q=>?_);obtain⟨fl,f2⟩:=p;cases fl with
  |nx=>exact⟨hi,q⟩
  |ct=>exact⟨hi,q⟩
  |bk=>exact q
  |rt v=>exact q)
def Rh{cond:Θ->MH->η (Ε×MH)}{b:Θ->MH->SR}(I:θ->Θ->MH->Prop)
  (step:∀k fr h,I k fr h->W (cond fr h) λr h1=>Br r (W (b fr h1) λp h'=>VJ (λfr h=>∃j,j<k/\I j fr h) R p.1 p.2 h') (R .nx fr h1)):∀(m k:θ),k<m->∀fr h,I k fr h->W (W3 cond b m fr h) λp h=>R p.1 p.2 h:=by
 intro m
 induction m with
 |zero=>exact λk hk=>υ hk (Zb _)
 |succ m ih=>
  intro k hk fr h I0;refine ar (W.Ν (step k fr h I0) λr h1 q=>?_);cases r with
  |false=>exact⟨q.2 rfl⟩
  |true=>
   simp only[na];refine ar (W.Ν (q.1 rfl) λp h2 q=>?_);obtain⟨fl,f2⟩:=p;cases fl with
   |nx=>obtain⟨j,hj,q⟩:=q;exact ih j (Jw hj (J7 hk)) f2 h2 q
   |ct=>obtain⟨j,hj,q⟩:=q;exact ih j (Jw hj (J7 hk)) f2 h2 q
   |bk=>exact⟨q⟩
   |rt v=>exact⟨q⟩
def zdC{t:Ex}{b:ζ Sm}{k:θ}(I:θ->Θ->MH->Prop)(hk:k<c.cv)(I0:I k fr h)
  (step:∀k fr h,I k fr h->WE c fr t h λv h1=>WT v h1 λr=>Br r (bz c b fr h1 (VJ (λfr h=>∃j,j<k/\I j fr h) R)) (R .nx fr h1)):WS c (.wh t b) fr h R:=by
 exact Rh I (λk fr h hI=>sD (step k fr h hI)) c.cv k hk fr h I0
def tm(c:Cx)(fr:Θ)(es:ζ Ex)(h:MH)(Q:Ε->MH->Prop):Prop:=W (HU c es fr h) Q
theorem tP{Q:Ε->MH->Prop}(q:Q Qe h):tm c fr [] h Q:=kO q
def sC{Q:Ε->MH->Prop}{e:Ex}{r:ζ Ex}(q:WE c fr e h λv h1=>WT v h1 λb=>Br b (tm c fr r h1 Q) (Q Qb h1)):tm c fr (e::r) h Q:=by
 exact ar (sD (W.Ν q λv h1 q=>Wo.Ν q λb q=>Lk ⟨q.1,λh=>kO (q.2 h)⟩))
def Aq{next:θ->MH->η (η ab)}{t:ab->MH->η (η Θ×MH)}{el:Θ->MH->η (ab×MH)}{R:MH->Prop}(n:θ)(I:θ->MH->Prop)
  (step:∀i,i<n->∀h,I i h->Wo (next i h) λov=>Wo ov λv=>W (t v h) λo h1=>(o=Qc->I (i+1) h1)/\∀fr,o=Qa fr->W (el fr h1) λx h2=>∃vs,h2[ac]?=Qa (.ξ vs)/\vs.ε<bc/\I (i+1) (h2.ϩ ac (.ξ (vs++[x]))))
  (stop:∀h,I n h->Wo (next n h) λov=>ov=Qc/\R h):∀(m i fu:θ),i+m=n->m<fu->∀h,I i h->W (compLoop next t el ac fu i h) λ_ h=>R h:=by
 intro m
 induction m with
 |zero=>
  intro i fu hi hf h I0;refine(Kt hf).ι λfu zq6=>?_;obtain rfl:=zq6;subst hi;have q:Wo (next i h) λov=>ov=Qc/\R h:=stop h I0;exact uU (q.Ν λov q=>by obtain⟨rfl,q⟩:=q;exact⟨q⟩)
 |succ m ih=>
  intro i fu hi hf h I0;refine xE (Kt (Jt (JF _) hf)) λfu cw=>?_;subst cw;have q:=step i (Jw (ZM (ZU _)) (JC hi)) h I0;refine uU (q.Ν λov q=>?_);cases ov with
  |none=>exact q.w.ι
  |some v=>
   have q:W (t v h) λo h1=>(o=Qc->I (i+1) h1)/\∀fr,o=Qa fr->W (el fr h1) λx h2=>∃vs,h2[ac]?=Qa (.ξ vs)/\vs.ε<bc/\I (i+1) (h2.ϩ ac (.ξ (vs++[x]))):=q.w;refine ar (W.Ν q λo h1 q=>?_);cases o with
   |none=>exact ih (i+1) _ (by lia) (Ky hf) h1 (q.1 rfl)
   |some fr=>
    refine ar (W.Ν (q.2 fr rfl) λx h2 q=>?_);refine xEAA q λvs e1 e2 q=>?_;rw[e1];show W (aw (Zx (vs.ε+1) bc) _) _;rw[Zl.Ϩ e2];exact ih (i+1) _ (by lia) (Ky hf) _ q
def tR{dz it:Ex}{ifs:ζ Ex}
  (q:WE c fr it h λv h1=>∃k,∃xs:ζ ab,nA h1 v=Qa k/\xs.ε<c.cv/\∃I:θ->MH->Prop,I 0 (h1++[.ξ []])/\(∀i h,I i h->lI h i k=Qa xs[i]?)/\
   (∀i x,xs[i]?=Qa x->∀hh,I i hh->Wo (mQ fr tg many x) λfr1=>tm c fr1 ifs hh λb h2=>Br b (WE c fr1 dz h2 λx h3=>∃vs,h3[h1.ε]?=Qa (.ξ vs)/\vs.ε<bc/\I (i+1) (h3.ϩ h1.ε (.ξ (vs++[x])))) (I (i+1) h2))/\
   ∀hh,I xs.ε hh->Q (.ο h1.ε) hh):WE c fr (.comp dz tg many it ifs) h Q:=by
 refine ar (W.Ν q λv h1 q=>?_);refine q.ι λk zq1=>zq1.ι λxs zq2=>zq2.2.2.ι λI zq3=>?_;simp only[zq2.1];refine ar (f:=λ_ h2=>Qa (ab.ο h1.ε,h2)) ?_;refine W.Ν (Q:=λ_ h2=>Q (.ο h1.ε) h2) ?_ λ_ _ q=>kO q;refine Aq (R:=λh2=>Q (.ο h1.ε) h2) xs.ε I (λi hi hh hI=>?_) (λhh hI=>?_) xs.ε 0 c.cv (ZK _) zq2.2.1 _ zq3.1
 ·simp only[zq3.2.1 i hh hI,Jo hi]
  refine AO (AO (uU (Wo.Ν (zq3.2.2.1 i _ (Jo hi) hh hI) λfr1 q=>ar (W.Ν q λb h2 q=>?_))));cases b with
  |true=>exact⟨nofun,λfr e=>by refine lN e ?_;exact q.1 rfl⟩
  |false=>exact⟨λ_=>q.2 rfl,nofun⟩
 ·rw[zq3.2.1 _ hh hI,ZR (Jv _)]
  exact⟨rfl,zq3.2.2.2 hh hI⟩
theorem mY{r:ζ Sm}(q:bz c r fr h R):ux c r R .nx fr h:=q
theorem zjS{r:ζ Sm}(q:R .bk fr h):ux c r R .bk fr h:=q
theorem zjR{r:ζ Sm}(q:R .ct fr h):ux c r R .ct fr h:=q
theorem zjQ{r:ζ Sm}{v:ab}(q:R (.rt v) fr h):ux c r R (.rt v) fr h:=q
theorem zjH{v:ab}(q:Q v h):Fin Q (.rt v) fr h:=q
theorem zjI(q:Q .Δ h):Fin Q .nx fr h:=q
variable{I:Frame->MH->Prop}
theorem zgn(q:I fr h):VJ I R .nx fr h:=q
theorem zgo(q:I fr h):VJ I R .ct fr h:=q
theorem zgp(q:R .nx fr h):VJ I R .bk fr h:=q
theorem zgm{v:ab}(q:R (.rt v) fr h):VJ I R (.rt v) fr h:=q
abbrev nn(k:θ):Θ:=JU k Qc
theorem zka{P:gu}{K f:θ}{mf as:ζ ab}{bd:ζ Sm}(hd:K+1<=d)(fr:Θ)(hf:P.jn f=Qa ⟨f,np,mf,ns,bd⟩)(ha:rF ⟨f,np,mf,ns,bd⟩ as=Qa vs)(hfr:oV ⟨f,np,mf,ns,bd⟩ vs=fr)(q:∀d',K<=d'->bz (ah P d') bd fr h (Fin Q)):WF P d f as h Q:=
 BL hd hf ha λd' h'=>hfr▸q d' h'
end
section
variable{c:Cx}{fr:Frame}{h:MH}
def pG{vs:ζ α}{p:α->Ε}{v:α}(hv:vs[i]?=Qa v):(vs.ϣ (i+1)).Ϡ p=(vs.ϣ i).Ϡ p++(bif p v then[v] else[]):=by
 refine(Jx.mp hv).ι λhi zq1=>?_;refine eqE zq1 ?_;rw[Kz hi,Xu];cases hb:p vs[i] <;>simp [hb]
def zdI{dz it:Ex}{ifs:ζ Ex}(a:θ)(vs:ζ ab)(p:ab->Ε)(f:ab->ab)(hf:vs.ε<c.cv)(hl:vs.ε<=bc)
  (q:WE c fr it h λv h1=>v=.ο a/\h1[a]?=Qa (.ξ vs)/\
   (∀v,v∈vs->∀acc,tm c (fr.ϩ x (Qa v)) ifs (h1++[.ξ acc]) λb h2=>h2=h1++[.ξ acc]/\b=p v/\(b=Qe->WE c (fr.ϩ x (Qa v)) dz h2 λy h3=>h3=h2/\y=f v))/\Q (.ο h1.ε) (h1++[.ξ ((vs.Ϡ p).ς f)])):WE c fr (.comp dz [x] Qb it ifs) h Q:=by
 refine tR (W.Ν q λv h1 q=>?_);refine eqB q.1 ?_;have h1a:=q.2.1;have st:=q.2.2.1;have q:=q.2.2.2;refine⟨.ls a,vs,xD h1a,hf,λi hh=>hh=h1++[.ξ (((vs.ϣ i).Ϡ p).ς f)],rfl,?_,?_,?_⟩
 ·rintro i hh rfl;exact wO (jA h1a)
 ·rintro i v hv hh rfl
  refine kP (W.Ν (st v (Jr hv) _) λb h2 q=>?_);obtain rfl:=q.1;obtain rfl:=q.2.1;refine br (λhb=>W.Ν (q.2.2 hb) λy h3 q=>?_) λhb=>?_
  ·obtain⟨rfl,rfl⟩:=q
   refine⟨_,ak,?_,?_⟩
   ·rw[Js]
    have h1:=ZL p (vs.ϣ i);rw[ZC] at h1
    have:=jI hv
    exact Jt h1 (Jt (KN _ _) (Jw this hl))
   ·rw[qP]
    show _=h1++[ae.ξ (((vs.ϣ (i+1)).Ϡ p).ς f)];rw[(pG (p:=p) hv),hb,JR];rfl
  ·show _=h1++[ae.ξ (((vs.ϣ (i+1)).Ϡ p).ς f)]
   rw[(pG (p:=p) hv),hb,ϯ,Zi]
 ·rintro hh rfl
  rw[JW];exact q
end
section
variable{c:Cx}{fr:Frame}{h:MH}
theorem zgJ{e f:Ex}{r:ζ Ex}(q:WE c fr e h λv h1=>WT v h1 λb=>Br b (WE c fr (.mh Qb (f::r)) h1 Q) (Q v h1)):WE c fr (.mh Qb (e::f::r)) h Q:=
 DF (W.Ν q λv h1 q=>Wo.Ν q λb q=>by cases b;exact Ax (q.2 rfl);exact RY (q.1 rfl))
theorem zkb{e f:Ex}{r:ζ Ex}(q:WE c fr e h λv h1=>WT v h1 λb=>Br b (Q v h1) (WE c fr (.mh Qe (f::r)) h1 Q)):WE c fr (.mh Qe (e::f::r)) h Q:=
 DF (W.Ν q λv h1 q=>Wo.Ν q λb q=>by cases b;exact RY (q.2 rfl);exact Ax (q.1 rfl))
theorem zgP{a b:ab}(e:qx a b=Qa Qe)(q:Q (.ϝ Qe) h):WC .is a b h Q:=Sw e q
theorem zgQ{a b:ab}(e:qx a b=Qa Qb)(q:Q (.ϝ Qb) h):WC .is a b h Q:=Sw e q
theorem zgj{a b:ab}(e:qx a b=Qa Qe)(q:Q (.ϝ Qb) h):WC .gh a b h Q:=LK e q
theorem zgk{a b:ab}(e:qx a b=Qa Qb)(q:Q (.ϝ Qe) h):WC .gh a b h Q:=LK e q
theorem zi9(q:Q (.ϝ Qb) h):Q (.ϝ (!Qe)) h:=q
def zT{s t:ζ θ}:kr h (.Υ s) (.Υ t)=Qa (s==t):=by
 show Qa (KF (.Υ ⟨s.τ⟩) (.Υ ⟨t.τ⟩))=_;have e:KF (.Υ ⟨s.τ⟩) (.Υ ⟨t.τ⟩)=((⟨s.τ⟩:Ξ.be)==⟨t.τ⟩):=rfl;rw[e];by_cases hs:s=t
 ·refine eqE hs ?_;simp
 ·rw[Ϟ hs,Ϟ]
  intro e
  apply hs
  injection e with e;injection e
theorem zgT{s t:ζ θ}(q:Q (.ϝ (s==t)) h):WC .eq (.Υ s) (.Υ t) h Q:=BY zT q
theorem zgL{s t:ζ θ}(q:Q (.ϝ (!(s==t))) h):WC .ne (.Υ s) (.Υ t) h Q:=LJ zT q
def qM{a b:Τ}:kr h (.φ a) (.φ b)=Qa (a==b):=by
 rfl
theorem zgU{a b:Τ}(q:Q (.ϝ (a==b)) h):WC .eq (.φ a) (.φ b) h Q:=BY qM q
theorem zgM{a b:Τ}(q:Q (.ϝ (!(a==b))) h):WC .ne (.φ a) (.φ b) h Q:=LJ qM q
theorem zgR{t:ζ θ}(q:Q (.ϝ (t.v6 x)) h):WC .ma (.Υ [x]) (.Υ t) h Q:=Sx (r:=t.v6 x) rfl q
theorem zgi{t:ζ θ}(q:Q (.ϝ (!t.v6 x)) h):WC .jc (.Υ [x]) (.Υ t) h Q:=BX (r:=t.v6 x) rfl q
def zjO(q:Br r B A):Br (!r) A B:=by
 cases r with
 |false=>exact Ax (q.2 rfl)
 |true=>exact RY (q.1 rfl)
theorem zgz{s:ζ θ}{Q:Ε->Prop}(q:Q (!s.db)):WT (.Υ s) h Q:=⟨q⟩
theorem zge{Q:Ε->Prop}(ha:h[a]?=Qa (.ξ vs))(q:Q (!vs.db)):WT (.ο a) h Q:=zdz (by
 show (j6 h (.ο a)).ς _=_;rw[l8 ha];rfl) q
theorem zjC{s:ζ θ}:nA h (.Υ s)=Qa (.sq s):=rfl
theorem zjB:nA h (.ay vs)=Qa (.tp vs):=rfl
theorem zgd{s:ζ θ}(q:Q (.φ s.ε) h):WV c (.bi uK) [.Υ s] h Q:=Gs rfl q
theorem AM(ha:h[a]?=Qa (.ξ vs))(q:Q (.φ vs.ε) h):WV c (.bi uK) [.ο a] h Q:=Gs (zcr ha) q
theorem AN(ha:h[a]?=Qa (.Χ ep es))(q:Q (.φ es.ε) h):WV c (.bi uK) [.ο a] h Q:=Gs (zcs ha) q
end
section
variable{c:Cx}{fr:Frame}{h:MH}
def zdH{dz it:Ex}(T:θ->ab->MH->Prop)(hf:vs.ε<c.cv)(hl:vs.ε<=bc)(hT:∀i y t s,T i y t->T i y (t++s))
  (q:WE c fr it h λv h1=>v=.ο a/\h1[a]?=Qa (.ξ vs)/\
   (∀i v,vs[i]?=Qa v->∀acc t,WE c (fr.ϩ x (Qa v)) dz (h1++.ξ acc::t) λy h3=>∃s,h3=h1++.ξ acc::(t++s)/\T i y (t++s))/\
   ∀ys t,ys.ε=vs.ε->(∀(i:θ)(y:ab),ys[i]?=Qa y->T i y t)->Q (.ο h1.ε) (h1++.ξ ys::t)):WE c fr (.comp dz [x] Qb it []) h Q:=by
 refine tR (W.Ν q λv h1 q=>?_);refine eqB q.1 ?_;have h1a:=q.2.1;have st:=q.2.2.1;have q:=q.2.2.2;refine⟨.ls a,vs,xD h1a,hf,λi hh=>∃ys t,hh=h1++.ξ ys::t/\ys.ε=i/\∀(j:θ)(y:ab),ys[j]?=Qa y->T j y t,⟨[],[],rfl,rfl,λj y hy=>af hy⟩,?_,?_,?_⟩
 ·rintro i hh ⟨ys,t,rfl,_,_⟩;exact wO (jA h1a)
 ·rintro i v hv hh ⟨ys,t,rfl,rfl,hy⟩
  refine kP (tP (Ax (W.Ν (st _ v hv ys t) λy h3 q=>?_)));obtain⟨s,rfl,ht⟩:=q;refine⟨ys,ak,Jw (jI hv) hl,ys++[y],t++s,qP,by rw[Ju];rfl,λj z hz=>?_⟩;by_cases hj:j<ys.ε
  ·rw[Z5 hj] at hz
   exact hT _ _ _ _ (hy j z hz)
  ·have hjl:=jI hz
   rw[Ju,YV] at hjl
   have:j=ys.ε:=KC (J7 hjl) (Zr hj)
   subst this;rw[Z0 (Jv _),Yy] at hz;refine lN hz ?_;exact ht
 ·rintro hh ⟨ys,t,rfl,hl,hy⟩;exact q ys t hl hy
def Wm{dz it:Ex}(J:MH->ζ ab->MH->Prop)(hf:vs.ε<c.cv)(hl:vs.ε<=bc)
  (q:WE c fr it h λv h1=>v=.ο a/\h1[a]?=Qa (.ξ vs)/\J h1 [] []/\
   (∀ys t v,J h1 ys t->vs[ys.ε]?=Qa v->WE c (fr.ϩ x (Qa v)) dz (h1++.ξ ys::t) λy h3=>∃s,h3=h1++.ξ ys::(t++s)/\J h1 (ys++[y]) (t++s))/\
   ∀ys t,ys.ε=vs.ε->J h1 ys t->Q (.ο h1.ε) (h1++.ξ ys::t)):WE c fr (.comp dz [x] Qb it []) h Q:=by
 refine tR (W.Ν q λv h1 q=>?_);obtain⟨rfl,h1a,j0,st,q⟩:=q;refine⟨.ls a,vs,xD h1a,hf,λi hh=>∃ys t,hh=h1++.ξ ys::t/\ys.ε=i/\J h1 ys t,⟨[],[],rfl,rfl,j0⟩,?_,?_,?_⟩
 ·rintro i hh ⟨ys,t,rfl,_,_⟩;exact wO (jA h1a)
 ·rintro i v hv hh ⟨ys,t,rfl,rfl,hy⟩
  refine kP (tP (Ax (W.Ν (st ys t v hy hv) λy h3 q=>?_)));obtain⟨s,rfl,ht⟩:=q;exact⟨ys,ak,Jw (jI hv) hl,ys++[y],t++s,qP,by rw[Ju];rfl,ht⟩
 ·rintro hh ⟨ys,t,rfl,hl,hy⟩;exact q ys t hl hy
def nM(p:θ->Ε)(n:θ):ζ θ:=(Zk n).Ϡ p
def UR{p:θ->Ε}:nM p (n+1)=nM p n++(bif p n then[n] else[]):=by
 delta nM;simp only[qan,Xu];cases hb:p n<;>simp [hb]
def WG{p:θ->Ε}:(nM p n).ε<=n:=by
 have:=ZL p (Zk n)
 rwa [Zm] at this
def di(l:ζ θ):ζ ab:=l.ς λ(k:θ)=>ab.φ (k:Τ)
def BQ{it:Ex}{ifs:ζ Ex}(p:θ->Ε)(J:MH->Prop)(j0:J [])(hf:n<c.cv)(hl:n<=bc)
  (q:WE c fr it h λv h1=>v=.gb n/\(∀i,i<n->∀acc t,J t->tm c (fr.ϩ x (Qa (.φ i))) ifs (h1++.ξ acc::t) λb h2=>(∃s,J s/\h2=h1++.ξ acc::s)/\b=p i)/\(∀i:θ,(fr.ϩ x (Qa (.φ (i:Τ))))[x]?=Qa (Qa (.φ (i:Τ))))/\∀t,J t->Q (.ο h1.ε) (h1++.ξ (di (nM p n))::t)):WE c fr (.comp (.Λ x) [x] Qb it ifs) h Q:=by
 refine tR (W.Ν q λv h1 q=>?_);obtain⟨rfl,st,hx,q⟩:=q;refine⟨.rg n,GI n,Ak hl,by rw[nI];exact hf,λi hh=>i<=n/\∃t,J t/\hh=h1++.ξ (di (nM p i))::t,⟨JF _,[],j0,rfl⟩,?_,?_,?_⟩
 ·rintro i hh ⟨hi,_⟩;exact D7 hi
 ·rintro i v hv hh ⟨_,t,jt,rfl⟩
  obtain⟨hi,rfl⟩:=GH hv;refine kP (W.Ν (st i hi _ t jt) λb h2 q=>?_);obtain⟨⟨s,js,rfl⟩,rfl⟩:=q;refine br (λhb=>qL (hx i) ⟨_,ak,?_,hi,s,js,?_⟩) (λhb=>⟨hi,s,js,?_⟩)
  ·delta di
   rw[Js]
   have:=WG (p:=p) (n:=i)
   exact Jw (Jt this hi) hl
  ·rw[qP,UR,hb]
   delta di;rw[JR];rfl
  ·rw[UR,hb,ϯ,Zi]
 ·rintro hh ⟨_,t,jt,rfl⟩
  exact nI▸q t jt
theorem BR{it:Ex}{ifs:ζ Ex}(p:θ->Ε)(hf:n<c.cv)(hl:n<=bc)
  (q:WE c fr it h λv h1=>v=.gb n/\(∀i,i<n->∀acc,tm c (fr.ϩ x (Qa (.φ i))) ifs (h1++[.ξ acc]) λb h2=>h2=h1++[.ξ acc]/\b=p i)/\(∀i:θ,(fr.ϩ x (Qa (.φ (i:Τ))))[x]?=Qa (Qa (.φ (i:Τ))))/\Q (.ο h1.ε) (h1++[.ξ (di (nM p n))])):WE c fr (.comp (.Λ x) [x] Qb it ifs) h Q:=
 BQ p (· =[]) rfl hf hl (W.Ν q λv h1 q=>⟨q.1,λi hi acc t e=>by rw[e];exact W.Ν (q.2.1 i hi acc) λb h2 q=>⟨⟨[],rfl,q.1⟩,q.2⟩,q.2.2.1,λt e=>e▸q.2.2.2⟩)
end
section
variable{c:Cx}{fr:Frame}{h:MH}
structure qa(F:σ->Θ)(G:σ->MH)(P:σ->Prop)(fr:Θ)(h:MH):Prop where
 x:∃s,fr=F s/\h=G s/\P s
theorem qa.of{F:σ->Θ}{G:σ->MH}{P:σ->Prop}(s:σ)(hp:P s):qa F G P (F s) (G s):=⟨s,rfl,rfl,hp⟩
def To(F:σ->Θ)(G:σ->MH)(P:σ->Prop)(R R':Fl->Θ->MH->Prop):Prop:=(∀s,P s->R' .nx (F s) (G s))/\(∀s,P s->R' .ct (F s) (G s))/\(∀fr h,R .nx fr h->R' .bk fr h)/\∀v fr h,R (.rt v) fr h->R' (.rt v) fr h
section
variable{F:σ->Frame}{G:σ->MH}{P:σ->Prop}{R R':Fl->Frame->MH->Prop}(ψ:To F G P R R')
def To.nx:=@ψ.1
def To.ct:=@ψ.2.1
def To.bk:=@ψ.2.2.1
def To.rt:=@ψ.2.2.2
end
theorem AW{F:σ->Θ}{G:σ->MH}{P:σ->Prop}:To F G P R (VJ (qa F G P) R):=⟨λs hp=>qa.of s hp,λs hp=>qa.of s hp,λ_ _ h=>h,λ_ _ _ h=>h⟩
theorem v9{e:Ex}{b:ζ Sm}(F:σ->Θ)(G:σ->MH)(P:θ->σ->Prop)(hn:vs.ε<c.cv)(s0:σ)
  (hk:∀i s,P i s->(G s)[a]?=Qa (.ξ vs)) (q:WE c fr e h λv h1=>v=.ο a/\fr=F s0/\h1=G s0/\P 0 s0)
  (step:∀i v s R',vs[i]?=Qa v->P i s->To F G (P (i+1)) R R'->Wo (mQ (F s) tg many v) λfr1=>bz c b fr1 (G s) R')
  (stop:∀s,P vs.ε s->R .nx (F s) (G s)):WS c (.fo tg many e b) fr h R:=
 Gu (W.Ν q λv h1 q=>by
  refine eqB q.1 ?_;refine eqB q.2.1 ?_;refine eqB q.2.2.1 ?_;refine⟨.ls a,vs,xD (hk _ _ q.2.2.2),hn,λi=>qa F G (P i),qa.of s0 q.2.2.2,λi fr h hI=>?_,λi x hx fr h hI=>?_,λfr h hI=>?_⟩
  ·obtain⟨s,rfl,rfl,hp⟩:=hI.x
   exact wO (hk i s hp)
  ·refine hI.x.ι λs zq5=>?_
   refine eqB zq5.1 ?_;refine eqB zq5.2.1 ?_;exact step i x s _ hx zq5.2.2 AW
  ·obtain⟨s,rfl,rfl,hp⟩:=hI.x
   exact stop s hp)
theorem LG{e:Ex}{b:ζ Sm}(F:σ->Θ)(G:σ->MH)(P:θ->σ->Prop)(hn:n<c.cv)(hl:n<=bc)(s0:σ)
  (q:WE c fr e h λv h1=>v=.gb n/\fr=F s0/\h1=G s0/\P 0 s0)
  (step:∀i s R',i<n->P i s->To F G (P (i+1)) R R'->bz c b ((F s).ϩ x (Qa (.φ i))) (G s) R')
  (stop:∀s,P n s->R .nx (F s) (G s)):WS c (.fo [x] Qb e b) fr h R:=
 NQ hn hl (λi=>qa F G (P i)) (W.Ν q λv h1 q=>⟨q.1,by rw[q.2.1,q.2.2.1];exact qa.of s0 q.2.2.2⟩) (λi hi fr h hI=>by
  obtain⟨s,rfl,rfl,hp⟩:=hI.x;exact step i s _ hi hp AW) λfr h hI=>by
  obtain⟨s,rfl,rfl,hp⟩:=hI.x;exact stop s hp
def zaF{t:Ex}{b:ζ Sm}{k:θ}(F:σ->Θ)(G:σ->MH)(P:θ->σ->Prop)(hk:k<c.cv)(s0:σ)(e1:fr=F s0)(e2:h=G s0)(I0:P k s0)
  (step:∀k s R',P k s->To F G (λs=>∃j,j<k/\P j s) R R'->WE c (F s) t (G s) λv h1=>WT v h1 λr=>Br r (bz c b (F s) h1 R') (R .nx (F s) h1)):WS c (.wh t b) fr h R:=by
 subst e1;subst e2;refine zdC (λk=>qa F G (P k)) hk (qa.of s0 I0) λk fr h hI=>?_;refine hI.x.ι λs zq1=>?_;refine eqB zq1.1 ?_;refine eqB zq1.2.1 ?_;have hp:=zq1.2.2;exact step k s _ hp ⟨λs hp=>⟨hp.choose,hp.TA.1,qa.of s hp.TA.2⟩,λs hp=>⟨hp.choose,hp.TA.1,qa.of s hp.TA.2⟩,λ_ _ h=>h,λ_ _ _ h=>h⟩
end
set_option genCtorIdx false in
inductive Hs where
 |ϟ
 |c(t:Hs)
 |v(v:ab)(t:Hs)
 |p(v:ab)(h:MH)(t:Hs)
 |h(h:MH)(t:Hs)
 |b(b:Ε)(t:Hs)
 |br(x y:Hs)
 |s(fl:Fl)(fr:Θ)(h:MH)(t:Hs)
 |l(vs:ζ ab)(t:Hs)
structure jZ{α:Type}(a:α):Prop where
 f:False
def qt{α:Type}(o:η α)(k:α->Prop):Prop:=JG (motive:=λ_=>Prop) o (jZ o) k
section
variable{α:Type}(o:Option α)(hs:Hs)
def Se(o:η ab)(hs:Hs)(k:ab->Hs->Prop):Prop:=
 Hs.Α (motive:=λ_=>Prop) hs (jZ o) (λt=>qt o λv=>k v t) (λv t=>o=Qa v/\k v t) (λ_ _ _=>jZ o) (λ_ _=>jZ o) (λ_ _=>jZ o) (λ_ _=>jZ o) (λ_ _ _ _=>jZ o) (λ_ _=>jZ o)
def Dm(o:η (ab×MH))(hs:Hs)(k:ab->MH->Hs->Prop):Prop:=
 Hs.Α (motive:=λ_=>Prop) hs (jZ o) (λt=>qt o λv=>k v.1 v.2 t) (λ_ _=>jZ o) (λv h t=>o=Qa (v,h)/\k v h t) (λ_ _=>jZ o) (λ_ _=>jZ o) (λ_ _=>jZ o) (λ_ _ _ _=>jZ o) (λ_ _=>jZ o)
def Sg(o:η MH)(hs:Hs)(k:MH->Hs->Prop):Prop:=
 Hs.Α (motive:=λ_=>Prop) hs (jZ o) (λt=>qt o λv=>k v t) (λ_ _=>jZ o) (λ_ _ _=>jZ o) (λh t=>o=Qa h/\k h t) (λ_ _=>jZ o) (λ_ _=>jZ o) (λ_ _ _ _=>jZ o) (λ_ _=>jZ o)
def AD(o:η Ε)(hs:Hs)(k:Ε->Hs->Prop):Prop:=
 Hs.Α (motive:=λ_=>Prop) hs (jZ o) (λt=>qt o λv=>k v t) (λ_ _=>jZ o) (λ_ _ _=>jZ o) (λ_ _=>jZ o) (λb t=>o=Qa b/\k b t) (λx y=>qt o λr=>(r=Qe->k Qe x)/\(r=Qb->k Qb y)) (λ_ _ _ _=>jZ o) (λ_ _=>jZ o)
def Sf(o:SR)(hs:Hs)(k:Fl->Θ->MH->Hs->Prop):Prop:=
 Hs.Α (motive:=λ_=>Prop) hs (jZ o) (λt=>qt o λv=>k v.1.1 v.1.2 v.2 t) (λ_ _=>jZ o) (λ_ _ _=>jZ o) (λ_ _=>jZ o) (λ_ _=>jZ o) (λ_ _=>jZ o) (λfl fr h t=>o=Qa ((fl,fr),h)/\k fl fr h t) (λ_ _=>jZ o)
def zfV(o:η (ζ ab))(hs:Hs)(k:ζ ab->Hs->Prop):Prop:=
 Hs.Α (motive:=λ_=>Prop) hs (jZ o) (λt=>qt o λv=>k v t) (λ_ _=>jZ o) (λ_ _ _=>jZ o) (λ_ _=>jZ o) (λ_ _=>jZ o) (λ_ _=>jZ o) (λ_ _ _ _=>jZ o) (λvs t=>o=Qa vs/\k vs t)
end
def uW{o:η α}{k:α->Prop}(q:qt o k):∃v,o=Qa v/\k v:=by
 cases o with
 |none=>exact q.f.ι
 |some v=>exact⟨v,rfl,q⟩
variable{hs:Hs}
def zcX{o:η ab}{k:ab->Hs->Prop}(q:Se o hs k):∃v t,o=Qa v/\k v t:=by
 cases hs with
 |c t=>exact(uW q).ι λv q=>⟨v,t,q⟩
 |v v t=>exact⟨v,t,q⟩
 |_=>exact q.f.ι
variable{o:Option (ab×MH)}
def zcZ{k:ab->MH->Hs->Prop}(q:Dm o hs k):∃v h t,o=Qa (v,h)/\k v h t:=by
 cases hs with
 |c t=>exact(uW q).ι λv q=>⟨v.1,v.2,t,q⟩
 |p v h t=>exact⟨v,h,t,q⟩
 |_=>exact q.f.ι
def zc1{o:η MH}{k:MH->Hs->Prop}(q:Sg o hs k):∃h t,o=Qa h/\k h t:=by
 cases hs with
 |c t=>exact(uW q).ι λv q=>⟨v,t,q⟩
 |h h t=>exact⟨h,t,q⟩
 |_=>exact q.f.ι
def zc2{o:η Ε}{k:Ε->Hs->Prop}(q:AD o hs k):∃b t,o=Qa b/\k b t:=by
 cases hs with
 |c t=>exact(uW q).ι λv q=>⟨v,t,q⟩
 |b b t=>exact⟨b,t,q⟩
 |br x y=>
  refine(uW q).ι λr q=>⟨r,cond r x y,q.1,?_⟩;cases r with
  |true=>exact q.2.1 rfl
  |false=>exact q.2.2 rfl
 |_=>exact q.f.ι
def zcY{o:SR}{k:Fl->Θ->MH->Hs->Prop}(q:Sf o hs k):∃fl fr h t,o=Qa ((fl,fr),h)/\k fl fr h t:=by
 cases hs with
 |c t=>exact(uW q).ι λv q=>⟨v.1.1,v.1.2,v.2,t,q⟩
 |s fl fr h t=>exact⟨fl,fr,h,t,q⟩
 |_=>exact q.f.ι
def zc0{o:η (ζ ab)}{k:ζ ab->Hs->Prop}(q:zfV o hs k):∃vs t,o=Qa vs/\k vs t:=by
 cases hs with
 |c t=>exact(uW q).ι λv q=>⟨v,t,q⟩
 |l vs t=>exact⟨vs,t,q⟩
 |_=>exact q.f.ι
mutual
noncomputable def lE (c:Cx):Ex->Frame->MH->Hs->(ab->MH->Hs->Prop)->Prop
 | .var x,fr,h,hs,K=>qt fr[x]? λo=>qt o λv=>K v h hs
 | .lit v,_,h,hs,K=>K v h hs
 | .list es,fr,h,hs,K=>tA c es fr h hs λvs h1 hs=>K (.ref h1.length) (h1++[.list vs]) hs
 | .ay es,fr,h,hs,K=>tA c es fr h hs λvs h1 hs=>K (.ay vs) h1 hs
 | .dict es,fr,h,hs,K=>tA c es fr h hs λl h1 hs=>Dm ((vV l []).bind λps=>aw (Zx es.length 30) (lX h1 (.dict (Qa ps.length) ps))) hs K
 | .ew op a b,fr,h,hs,K=>lE c a fr h hs λx h1 hs=>lE c b fr h1 hs λy h2 hs=>Dm (oZ op x y h2) hs K
 | .not a,fr,h,hs,K=>lE c a fr h hs λx h1 hs=>AD (truthy h1 x) hs λb hs=>K (.bool (!b)) h1 hs
 | .ft op a b,fr,h,hs,K=>lE c a fr h hs λx h1 hs=>lE c b fr h1 hs λy h2 hs=>AD (mP op x y h2) hs λr hs=>K (.bool r) h2 hs
 | .mh stop es,fr,h,hs,K=>An c stop es fr h hs K
 | .ite t a b,fr,h,hs,K=>lE c t fr h hs λx h1 hs=>AD (truthy h1 x) hs λr hs=>bif r then lE c a fr h1 hs K else lE c b fr h1 hs K
 | .aq e n,fr,h,hs,K=>lE c e fr h hs λo h1 hs=>Se (getAttr c.P h1 o n) hs λv hs=>K v h1 hs
 | .sub e i,fr,h,hs,K=>lE c e fr h hs λo h1 hs=>lE c i fr h1 hs λk h2 hs=>Se (kJ h2 o k) hs λv hs=>K v h2 hs
 | .slice e k bs,fr,h,hs,K=>lE c e fr h hs λo h1 hs=>tA c bs fr h1 hs λvs h2 hs=>Dm (slice h2 o k vs) hs K
 | .call f as,fr,h,hs,K=>lE c f fr h hs λg h1 hs=>tA c as fr h1 hs λvs h2 hs=>Dm (jJ c g vs h2) hs K
 | .az o n as,fr,h,hs,K=>lE c o fr h hs λg h1 hs=>tA c as fr h1 hs λvs h2 hs=>Dm (j1 c g n vs h1 h2) hs K
 | .comp dz tg many it ifs,fr,h,hs,K=>Dm (eval c (.comp dz tg many it ifs) fr h) hs K
noncomputable def tA (c:Cx):List Ex->Frame->MH->Hs->(List ab->MH->Hs->Prop)->Prop
 | [],_,h,hs,K=>K [] h hs
 |e::r,fr,h,hs,K=>lE c e fr h hs λv h1 hs=>tA c r fr h1 hs λvs h2 hs=>K (v::vs) h2 hs
noncomputable def An (c:Cx) (stop:Bool):List Ex->Frame->MH->Hs->(ab->MH->Hs->Prop)->Prop
 | [],_,_,_,_=>False
 |e::r,fr,h,hs,K=>lE c e fr h hs λv h1 hs=>bif r.isEmpty then K v h1 hs else AD (truthy h1 v) hs λb hs=>bif b==stop then K v h1 hs else An c stop r fr h1 hs K
end
def DM(c:Cx)(fr:Θ)(h:MH)(v:ab)(hs:Hs)(K:Θ->MH->Hs->Prop):T1->Prop
 | .nm x=>K (fr.ϩ x (Qa v)) h hs
 | .at o n=>lE c o fr h hs λov h1 hs=>Sg (setAttr c.P h1 ov n v) hs λh2 hs=>K fr h2 hs
 | .sb o i=>lE c o fr h hs λov h1 hs=>lE c i fr h1 hs λiv h2 hs=>Sg (lT h2 ov iv v) hs λh3 hs=>K fr h3 hs
def Gz(c:Cx):ζ T1->ζ ab->Θ->MH->Hs->(Θ->MH->Hs->Prop)->Prop
 | [],vs,fr,h,hs,K=>bif vs.db then K fr h hs else False
 |t::ts,vs,fr,h,hs,K=>qt vs.head? λv=>DM c fr h v hs (λfr' h' hs=>Gz c ts vs.lw fr' h' hs K) t
mutual
noncomputable def zai (c:Cx):Sm->Frame->MH->Hs->(Fl->Frame->MH->Hs->Prop)->Prop
 | .expr e,fr,h,hs,K=>lE c e fr h hs λ_ h1 hs=>K .nx fr h1 hs
 | .fm t e,fr,h,hs,K=>lE c e fr h hs λv h1 hs=>DM c fr h1 v hs (λfr' h2 hs=>K .nx fr' h2 hs) t
 | .jo ts e,fr,h,hs,K=>lE c e fr h hs λv h1 hs=>zfV (items h1 v) hs λvs hs=>Gz c ts vs fr h1 hs λfr' h2 hs=>K .nx fr' h2 hs
 | .ret e,fr,h,hs,K=>lE c e fr h hs λv h1 hs=>K (.rt v) fr h1 hs
 | .ite t a b,fr,h,hs,K=>lE c t fr h hs λx h1 hs=>AD (truthy h1 x) hs λr hs=>bif r then yP c a fr h1 hs K else yP c b fr h1 hs K
 | .wh t b,fr,h,hs,K=>Sf (exec c (.wh t b) fr h) hs K
 | .fo tg many e b,fr,h,hs,K=>Sf (exec c (.fo tg many e b) fr h) hs K
 | .brk,fr,h,hs,K=>K .bk fr h hs
 | .cont,fr,h,hs,K=>K .ct fr h hs
 | .sg,fr,h,hs,K=>K .nx fr h hs
 | .gw,_,_,_,_=>False
 | .bK _,_,_,_,_=>False
 | .tr _ _ _ _,_,_,_,_=>False
noncomputable def yP (c:Cx):List Sm->Frame->MH->Hs->(Fl->Frame->MH->Hs->Prop)->Prop
 | [],fr,h,hs,K=>K .nx fr h hs
 |s::r,fr,h,hs,K=>zai c s fr h hs λfl fr1 h1 hs=>Fl.casesOn (motive:=λ_=>Prop) fl (yP c r fr1 h1 hs K) (K fl fr1 h1 hs) (K fl fr1 h1 hs) (λ_=>K fl fr1 h1 hs)
end
abbrev Ev{α:Type}(K:α->MH->Hs->Prop)(v:α)(h:MH):Prop:=∃t,K v h t
theorem yW{k:ab->MH->Hs->Prop}(q:Dm o hs k):W o (Ev k):=let ⟨_,_,t,e,q⟩:=zcZ q; .of e ⟨t,q⟩
theorem Nc{o:η ab}{k:ab->Hs->Prop}(q:Se o hs k):Wo o λv=>∃t,k v t:=let ⟨_,t,e,q⟩:=zcX q; .of e ⟨t,q⟩
theorem Nf{o:η MH}{k:MH->Hs->Prop}(q:Sg o hs k):Wo o λv=>∃t,k v t:=let ⟨_,t,e,q⟩:=zc1 q; .of e ⟨t,q⟩
theorem VG{o:η Ε}{k:Ε->Hs->Prop}(q:AD o hs k):Wo o λv=>∃t,k v t:=let ⟨_,t,e,q⟩:=zc2 q; .of e ⟨t,q⟩
def zcR(a:A->A')(b:B->B')(q:cond r A B):Br r A' B':=by
 cases r with
 |true=>exact Ax (a q)
 |false=>exact RY (b q)
structure HE(c:Cx)(e:Ex):Prop where
 o:∀{fr h hs K},lE c e fr h hs K->W (eval c e fr h) (Ev K)
def i7(c:Cx)(es:ζ Ex):Prop:=(∀{fr h hs K},tA c es fr h hs K->W (qC c es fr h) (Ev K))/\∀{stop fr h hs K},An c stop es fr h hs K->WE c fr (.mh stop es) h (Ev K)
section
variable{c:Cx}{es:List Ex}(ψ:i7 c es)
def i7.o:=@ψ.1
def i7.b:=@ψ.2
end
section
variable{c:Cx}
def oH(e:Ex):HE c e:=by
 refine Ex.rec (Ϝ:=HE c) (motive_2:=i7 c) ?_ ?_ ?_ ?_ ?_ ?_ ?_ ?_ ?_ ?_ ?_ ?_ ?_ ?_ ?_ ?_ ?_ ?_ e
 ·exact λx=>⟨λq=>let ⟨o,e1,q⟩:=uW q;let ⟨v,e2,q⟩:=uW q;qL (e1.ν (χ Qa e2)) ⟨_,q⟩⟩
 ·exact λv=>⟨λq=>zaN ⟨_,q⟩⟩
 ·exact λes i=>⟨λq=>AS ((i.o q).Ν λ_ _ q=>q)⟩
 ·exact λes i=>⟨λq=>zaK ((i.o q).Ν λ_ _ q=>q)⟩
 ·exact λes i=>⟨λq=>ar ((i.o q).Ν λ_ _ q=>q.ι λ_ q=>yW q)⟩
 ·exact λop a b i j=>⟨λq=>zaQ ((i.o q).Ν λ_ _ q=>q.ι λ_ q=>(j.o q).Ν λ_ _ q=>q.ι λ_ q=>yW q)⟩
 ·exact λa i=>⟨λq=>zaM ((i.o q).Ν λ_ _ q=>q.ι λ_ q=>VG q)⟩
 ·exact λop a b i j=>⟨λq=>zaP ((i.o q).Ν λ_ _ q=>q.ι λ_ q=>(j.o q).Ν λ_ _ q=>q.ι λ_ q=>VG q)⟩
 ·exact λst es i=>⟨λq=>i.b q⟩
 ·exact λt a b i j k=>⟨λq=>zaO ((i.o q).Ν λ_ _ q=>q.ι λ_ q=>(VG q).Ν λr q=>q.ι λ_ q=>zcR j.o k.o q)⟩
 ·exact λa n i=>⟨λq=>N0 ((i.o q).Ν λ_ _ q=>q.ι λ_ q=>Nc q)⟩
 ·exact λa b i j=>⟨λq=>zaL ((i.o q).Ν λ_ _ q=>q.ι λ_ q=>(j.o q).Ν λ_ _ q=>q.ι λ_ q=>Nc q)⟩
 ·exact λa k bs i j=>⟨λq=>BN ((i.o q).Ν λ_ _ q=>q.ι λ_ q=>(j.o q).Ν λ_ _ q=>q.ι λ_ q=>yW q)⟩
 ·exact λf as i j=>⟨λq=>NY ((i.o q).Ν λ_ _ q=>q.ι λ_ q=>(j.o q).Ν λ_ _ q=>q.ι λ_ q=>yW q)⟩
 ·exact λo n as i j=>⟨λq=>NX ((i.o q).Ν λ_ _ q=>q.ι λ_ q=>(j.o q).Ν λ_ _ q=>q.ι λ_ q=>yW q)⟩
 ·exact λdz tg many it ifs _ _ _=>⟨λq=>yW q⟩
 ·exact⟨λq=>AR ⟨_,q⟩,λq=>q.ι⟩
 ·refine λe r i j=>⟨λq=>BM ((i.o q).Ν λ_ _ q=>q.ι λ_ q=>(j.o q).Ν λ_ _ q=>q),λ{st fr h hs K} q=>?_⟩
  cases r with
  |ϟ=>exact NZ (i.o q)
  |Κ f r=>exact DF ((i.o q).Ν λ_ _ q=>q.ι λ_ q=>(VG q).Ν λb q=>q.ι λ_ q=>zcR (λq=>⟨_,q⟩) j.b q)
def LW{fr:Θ}{h:MH}{v:ab}{K:Θ->MH->Hs->Prop}{t:T1}(q:DM c fr h v hs K t):W (LX c fr h v t) (Ev K):=by
 cases t with
 |nm x=>exact kO (a:=fr.ϩ x (Qa v)) ⟨_,q⟩
 | «at» o n=>
  show W (cf (eval c o fr h) λov h1=>(setAttr c.P h1 ov n v).ς λh2=>(fr,h2)) _;exact ar (((oH o).o q).Ν λov h1 q=>q.ι λ_ q=>uV (f:=λh2=>(fr,h2)) (Nf q))
 |sb o i=>
  show W (cf (eval c o fr h) λov h1=>cf (eval c i fr h1) λiv h2=>(lT h2 ov iv v).ς λh3=>(fr,h3)) _;exact ar (((oH o).o q).Ν λov h1 q=>q.ι λ_ q=>ar (((oH i).o q).Ν λiv h2 q=>q.ι λ_ q=>uV (f:=λh2=>(fr,h2)) (Nf q)))
def E9:∀{vs:ζ ab}{fr:Θ}{h:MH}{hs:Hs}{K:Θ->MH->Hs->Prop}(q:Gz c ts vs fr h hs K),tn c ts vs fr h (Ev K):=by
 induction ts with
 |ϟ=>
  intro vs fr h hs K q;cases vs with
  |ϟ=>exact kO (a:=fr) ⟨_,q⟩
  |Κ _ _=>exact q.ι
 |Κ t ts i=>
  intro vs fr h hs K q;refine(uW q).ι λv zq2=>?_;have q:=zq2.2;exact uU (Wo.of zq2.1 (ar ((LW q).Ν λ_ _ q=>q.ι λ_ q=>i q)))
abbrev Ex'(K:Fl->Θ->MH->Hs->Prop)(fl:Fl)(fr:Θ)(h:MH):Prop:=∃t,K fl fr h t
structure HX(c:Cx)(s:Sm):Prop where
 o:∀{fr h hs K},zai c s fr h hs K->WS c s fr h (Ex' K)
structure fE(c:Cx)(s:ζ Sm):Prop where
 o:∀{fr h hs K},yP c s fr h hs K->bz c s fr h (Ex' K)
theorem Nd{o:SR}{k:Fl->Θ->MH->Hs->Prop}(q:Sf o hs k):W o λp h=>Ex' k p.1 p.2 h:=let ⟨_,_,_,t,e,q⟩:=zcY q; .of e ⟨t,q⟩
def NV{t:T1}{e:Ex}{fr:Θ}{h:MH}(q:WE c fr e h λv h1=>W (LX c fr h1 v t) λf2 h2=>R .nx f2 h2):WS c (.fm t e) fr h R:=by
 exact ar (W.Ν q λv h1 q=>ar (W.Ν q λ_ _ q=>⟨q⟩))
def MJ(s:ζ Sm):fE c s:=by
 refine Sm.rec_1 (Ϝ:=HX c) (motive_2:=fE c) ?_ ?_ ?_ ?_ ?_ ?_ ?_ ?_ ?_ ?_ ?_ ?_ ?_ ?_ ?_ s
 ·exact λe=>⟨λq=>NS ((oH e).o q)⟩
 ·exact λt e=>⟨λq=>NV (((oH e).o q).Ν λ_ _ q=>q.ι λ_ q=>LW q)⟩
 ·exact λts e=>⟨λq=>NU (((oH e).o q).Ν λ_ _ q=>q.ι λ_ q=>let ⟨_,_,e2,q⟩:=zc0 q; .of e2 (E9 q))⟩
 ·exact λe=>⟨λq=>zaG ((oH e).o q)⟩
 ·exact λt a b j k=>⟨λq=>zaH (((oH t).o q).Ν λ_ _ q=>q.ι λ_ q=>(VG q).Ν λr q=>q.ι λ_ q=>zcR j.o k.o q)⟩
 ·exact λt b _=>⟨λq=>Nd q⟩
 ·exact λtg many e b _=>⟨λq=>Nd q⟩
 ·exact⟨λq=>zaI ⟨_,q⟩⟩
 ·exact⟨λq=>NT ⟨_,q⟩⟩
 ·exact⟨λq=>NP ⟨_,q⟩⟩
 ·exact⟨λq=>q.ι⟩
 ·exact λ_=>⟨λq=>q.ι⟩
 ·exact λ_ _ _ _=>⟨λq=>q.ι⟩
 ·exact⟨λq=>NO ⟨_,q⟩⟩
 ·exact λs r i j=>⟨λq=>BI ((i.o q).Ν λp _ q=>by
   obtain⟨fl,fr⟩:=p;obtain⟨t,q⟩:=q;cases fl with
   |nx=>exact j.o q
   |bk=>exact⟨_,q⟩
   |ct=>exact⟨_,q⟩
   |rt v=>exact⟨_,q⟩)⟩
end
structure S(h:MH)(hs:Hs)(p:Prop):Prop where
 o:p
variable{g g':MH}{ht:Hs}
theorem S.z(f:pr):S g .ϟ pr:=⟨f⟩
theorem S.at(g':MH)(r:S g' hs pr):S g hs pr:=⟨r.o⟩
theorem S.c(r:S g hs pr):S g (.c hs) pr:=⟨r.o⟩
theorem S.c2(r:S g hs pr):S g (.c (.c hs)) pr:=⟨r.o⟩
theorem S.c3(r:S g hs pr):S g (.c (.c (.c hs))) pr:=⟨r.o⟩
theorem S.c4(r:S g hs pr):S g (.c (.c (.c (.c hs)))) pr:=⟨r.o⟩
theorem S.v{o:η ab}{v:ab}(f:o=Qa v)(r:S g hs pr):S g (.v v hs) (o=Qa v/\pr):=⟨f,r.o⟩
theorem S.w{o:MH->η ab}{v:ab}(f:∀h,o h=Qa v)(r:S g hs pr):S g (.v v hs) (o g=Qa v/\pr):=⟨f g,r.o⟩
theorem S.p{v:ab}(f:o=Qa (v,g'))(r:S g' hs pr):S g (.p v g' hs) (o=Qa (v,g')/\pr):=⟨f,r.o⟩
theorem S.q{o:MH->η (ab×MH)}{v:ab}(f:∀h,o h=Qa (v,h))(r:S g hs pr):S g (.p v g hs) (o g=Qa (v,g)/\pr):=⟨f g,r.o⟩
theorem S.h{o:η MH}(f:o=Qa g')(r:S g' hs pr):S g (.h g' hs) (o=Qa g'/\pr):=⟨f,r.o⟩
theorem S.b{o:η Ε}{b:Ε}(f:o=Qa b)(r:S g hs pr):S g (.b b hs) (o=Qa b/\pr):=⟨f,r.o⟩
theorem S.k{o:MH->η Ε}{b:Ε}(f:∀h,o h=Qa b)(r:S g hs pr):S g (.b b hs) (o g=Qa b/\pr):=⟨f g,r.o⟩
theorem S.t{x:Ε}(f:x=Qe)(r:S g hs pr):S g (.b Qe hs) (Qa x=Qa Qe/\pr):=⟨χ Qa f,r.o⟩
theorem S.f{x:Ε}(f:x=Qb)(r:S g hs pr):S g (.b Qb hs) (Qa x=Qa Qb/\pr):=⟨χ Qa f,r.o⟩
theorem S.br(x:Ε)(f:x=Qe->S g hs pr)(h:x=Qb->S g ht pq):S g (.br hs ht) ((x=Qe->pr)/\(x=Qb->pq)):=⟨λe=>(f e).o,λe=>(h e).o⟩
theorem S.s{o:SR}{fl:Fl}{fr:Θ}(f:o=Qa ((fl,fr),g'))(r:S g' hs pr):S g (.s fl fr g' hs) (o=Qa ((fl,fr),g')/\pr):=⟨f,r.o⟩
theorem S.l{o:η (ζ ab)}(f:o=Qa vs)(r:S g hs pr):S g (.l vs hs) (o=Qa vs/\pr):=⟨f,r.o⟩
section
variable{b:List Sm}{fr:Frame}{h:MH}{p:Prop}{P:gu}
def jT{c:Cx}(s:S h hs p)(e:yP c b fr h hs (λfl fr h _=>R fl fr h)=p):bz c b fr h R:=by
 exact((MJ b).o (e▸s.o)).Ν λ_ _ q=>q.ι λ_ q=>q
theorem zgG{K f:θ}{fn:Fn}{as:ζ ab}(hd:K+1<=d)(hf:P.jn f=Qa fn)(ha:rF fn as=Qa vs)(q:∀d',K<=d'->∃hs p,S h hs p/\yP (ah P d') fn.Th (oV fn vs) h hs (λfl fr h _=>Fin Q fl fr h)=p):WF P d f as h Q:=
 BL hd hf ha λd' h'=>let ⟨_,_,s,e⟩:=q d' h';jT s e
end
section
variable{P:gu}{c:Cx}{h:MH}
theorem W.eq{o:η (α×MH)}{v:α}(w:W o λa b=>a=v/\b=g):o=Qa (v,g):=let ⟨_,_,e,q⟩:=w.xL;by obtain⟨rfl,rfl⟩:=q;exact e
def Wo.eq{o:η α}{v:α}(w:Wo o λa=>a=v):o=Qa v:=by
 cases o with
 |none=>exact w.w.ι
 |some p=>exact χ Qa w.w
theorem ga{k:θ}{v:ab}(ha:h[a]?=Qa (.Td k fs))(hv:vS fs n=Qa v)(hf:P.cz k n=Qe):getAttr P h (.ο a) n=Qa v:=Wo.eq (zaT ha hv hf (Q:=λa _=>a=v) rfl)
theorem sl{v:ab}(ha:h[a]?=Qa (.ξ vs))(hv:vs[i]?=Qa v):kJ h (.ο a) (.φ i)=Qa v:=Wo.eq (Gv ha hv (Q:=λa _=>a=v) rfl)
theorem sd{k v:ab}(ha:h[a]?=Qa (.Χ ep es))(hf:jN es k=Qe)(hv:jO es k=Qa v):kJ h (.ο a) k=Qa v:=Wo.eq (AP ha hf hv (Q:=λa _=>a=v) rfl)
theorem zbf{v:ab}(ha:h[a]?=Qa (.ξ vs))(hi:i<vs.ε):lT h (.ο a) (.φ i) v=Qa (h.ϩ a (.ξ (vs.ϩ i v))):=Wo.eq (CK ha hi rfl)
theorem L3{k v:ab}(ha:h[a]?=Qa (.Χ ep es))(hf:jN es k=Qe)(hl:es.ε<bc):lT h (.ο a) k v=Qa (h.ϩ a (.Χ (bif (jO es k).Ψ then ep else ep.ς (· +1)) (mK es k v))):=Wo.eq (CL ha hf hl rfl)
theorem DO{k:θ}{v:ab}(ha:h[a]?=Qa (.Td k fs))(hf:P.cz k n=Qe)(hl:fs.ε<400):setAttr P h (.ο a) n v=Qa (h.ϩ a (.Td k (Va fs n v))):=Wo.eq (Fu ha hf hl rfl)
theorem rd(s t:ζ θ)(h:MH):kr h (.Υ s) (.Υ t)=Qa (s==t):=zT
theorem tc(s t:Τ)(h:MH):kr h (.φ s) (.φ t)=Qa (s==t):=qM
def cq{a b:ab}(e:kr h a b=Qa r):mP .ne a b h=Qa (!r):=by
 show (kr h a b).ς _=_;rw[e];rfl
def Mu{a b:ab}(e:Ua h a b=Qa r):mP .jc a b h=Qa (!r):=by
 show (Ua h a b).ς _=_;rw[e];rfl
theorem fn{as:ζ ab}{v:ab}(hc:P.gd a=Qc)(w:WF P d a as h λx y=>x=v/\y=g):jJ (ah P d) (.ai a) as h=Qa (v,g):=W.eq (l5 hc w)
theorem me{f:θ}{o:ab}{self as:ζ ab}{h0:MH}{v:ab}(hg:mV P h0 o n=Qa (f,self))(w:WF P d f (self++as) h λx y=>x=v/\y=g):j1 (ah P d) o n as h0 h=Qa (v,g):=W.eq (jX hg w)
theorem WF.to{f:θ}{as:ζ ab}{v:ab}(w:WF P d f as h λx y=>x=v/\y=g)(q:Q v g):WF P d f as h Q:=W.of (W.eq w) q
def zhb{s:ζ θ}{bs:ζ ab}{p:θ×θ}(e:Vr s.ε n bs=Qa p):slice h (.Υ s) n bs=Qa (.Υ (km s p.1 p.2),h):=by
 show (Vr s.ε n bs).Η _=_;rw[e];rfl
def WS.at{s:Sm}{fr f:Θ}{fl:Fl}(w:WS c s fr h λa b k=>a=fl/\b=f/\k=g):exec c s fr h=Qa ((fl,f),g):=by
 refine xEEAAA (W.xL w) λcw k e q1 q2 q3=>?_;obtain⟨a,b⟩:=cw;refine eqE q1 ?_;refine eqE q2 ?_;refine eqE q3 ?_;exact e
theorem j2{e:Ex}{fr:Θ}{p:Prop}(s:S h hs p)(q:lE c e fr h hs (λv h _=>Q v h)=p):WE c fr e h Q:=((oH e).o (q▸s.o)).Ν λ_ _ q=>q.ι λ_ q=>q
theorem cg(v:ab)(g:MH):v=v/\g=g:=⟨rfl,rfl⟩
def lm{e:Ex}{b:ζ Sm}(F:σ->Θ)(G:σ->MH)(P:θ->σ->Prop)(s0:σ)(hn:n<=100000)(hc:c.cv=200000)
  (e0:WE c (F s0) e (G s0) λv g=>v=.gb n/\g=G s0) (p0:P 0 s0)
  (step:∀i s R' R,i<n->P i s->To F G (P (i+1)) R R'->bz c b ((F s).ϩ x (Qa (.φ i))) (G s) R'):∃s,P n s/\exec c (.fo [x] Qb e b) (F s0) (G s0)=Qa ((.nx,F s),G s):=by
 have w:WS c (.fo [x] Qb e b) (F s0) (G s0) λfl f g=>∃s,P n s/\fl=.nx/\f=F s/\g=G s:=
  LG F G P (by rw[hc];exact Jw (JV hn) (Jz _ _)) (by show n<=1000000;exact Jm hn (Jz _ _)) s0 (e0.Ν λv g q=>⟨q.1,rfl,q.2,p0⟩) (λi s R' hi hp T=>step i s R' _ hi hp T) λs hp=>⟨s,hp,rfl,rfl,rfl⟩
 obtain⟨⟨fl,f⟩,g,e,s,hp,q1,q2,q3⟩:=W.xL w;refine eqE q1 ?_;subst q2;subst q3;exact⟨s,hp,e⟩
def pb{e:Ex}{b:ζ Sm}(F:σ->Θ)(G:σ->MH)(P:θ->σ->Prop)(s0:σ)(hn:vs.ε<=100000)(hc:c.cv=200000)
  (hk:∀i s,P i s->(G s)[a]?=Qa (.ξ vs)) (e0:WE c (F s0) e (G s0) λv g=>v=.ο a/\g=G s0) (p0:P 0 s0)
  (step:∀i v s R' R,vs[i]?=Qa v->P i s->To F G (P (i+1)) R R'->Wo (mQ (F s) tg many v) λfr1=>bz c b fr1 (G s) R'):∃s,P vs.ε s/\exec c (.fo tg many e b) (F s0) (G s0)=Qa ((.nx,F s),G s):=by
 have w:WS c (.fo tg many e b) (F s0) (G s0) λfl f g=>∃s,P vs.ε s/\fl=.nx/\f=F s/\g=G s:=
  v9 F G P (by rw[hc];exact Jw (JV hn) (Jz _ _)) s0 hk (e0.Ν λv g q=>⟨q.1,rfl,q.2,p0⟩) (λi v s R' hi hp T=>step i v s R' _ hi hp T) λs hp=>⟨s,hp,rfl,rfl,rfl⟩
 obtain⟨⟨fl,f⟩,g,e,s,hp,q1,q2,q3⟩:=W.xL w;refine eqE q1 ?_;subst q2;subst q3;exact⟨s,hp,e⟩
def zfI(P:gu)(a:θ)(as:ζ ab):η (ζ Sm×Θ):=(P.jn a).Η λf=>(rF f as).ς λvs=>(f.Th,oV f vs)
def j7{K f:θ}{as:ζ ab}(hd:K+1<=d)(fr:Θ)(bd:ζ Sm)(e:zfI P f as=Qa (bd,fr))(q:∀d',K<=d'->bz (ah P d') bd fr h (Fin Q)):WF P d f as h Q:=by
 refine xEA (qab.mp e) λfn e1 e=>?_;refine xEA (Za.mp e) λvs e2 e=>?_;cases e;exact BL hd e1 e2 q
def mR{a b:ζ Sm}:∀{fr:Θ}{h:MH},bz c a fr h (ux c b R)->bz c (a++b) fr h R:=by
 induction a with
 |ϟ=>exact λq=>q.w
 |Κ s a ih=>
  intro fr h q;have q:W (cf (exec c s fr h) λ(p:Fl×Θ) h1=>Fl.Α (motive:=λ_=>SR) p.1 (execs c a p.2 h1) (Qa (p,h1)) (Qa (p,h1)) (λ_=>Qa (p,h1))) λp h=>ux c b R p.1 p.2 h:=q;refine ar ((w_bnd' q).Ν λp h1 q=>?_);obtain⟨fl,f2⟩:=p;cases fl with
  |nx=>exact ih q
  |bk=>exact⟨q.w⟩
  |ct=>exact⟨q.w⟩
  |rt v=>exact⟨q.w⟩
theorem Su{s:Sm}{r:ζ Sm}{fr:Θ}{h:MH}(q:bz c [s] fr h (ux c r R)):bz c (s::r) fr h R:=mR q
end
theorem zha(C:bf):EW C:=zg9 C
end Internal
open PySem PySem.W PySem.W.X PyProof.Rows PySem.Calls
set_option linter.unusedVariables false
namespace Tactic
def yl:ζ Tm:= ["builtins.copyright#opaque","builtins.credits#opaque","builtins.license#opaque"]
end Tactic
lay_quick Tactic.yl
namespace Tactic
abbrev TP:Program:=Ξ.Ty.pw_ui0508_16
theorem zku:Ξ.Ty.pw_ui0508_16=TP:=rfl
abbrev lk:=Ξ.W.Fast.tw15667345088766844465
theorem AK: @topGo=lk:=Ξ.W.Fast.te15667345088766844465
abbrev jq:=Ξ.W.Fast.tw14082659384304107361
theorem Dr: @topRun=jq:=Ξ.W.Fast.te14082659384304107361
abbrev jr:=Ξ.W.Fast.tw14374325043358763698
theorem Ds: @segRun=jr:=Ξ.W.Fast.te14374325043358763698
abbrev bg:=Ξ.W.Fast.tw10110043849684766642
theorem Lv: @segRunT=bg:=Ξ.W.Fast.te10110043849684766642
abbrev bb:=Ξ.W.Fast.tw14364793385576792824
theorem nD: @treeTable=bb:=Ξ.W.Fast.te14364793385576792824
abbrev mi:=Ξ.W.Fast.tw11892475500146522536
theorem Dt: @denote=mi:=Ξ.W.Fast.te11892475500146522536
abbrev rl:=QX×ζ Qx×Scope
def zeK:rl:=(⟨[],[],Qc,[],[],Qc,[]⟩,[],⟨.wE,[],Qb,Qb,[]⟩)
def fO(s:Qx)(z:rl×ζ Qx):rl×ζ Stmt:=Stmt.Α (motive_2:=λ_=>rl×ζ Qx) s (λ_ a b _ _ _ c _ _ _=>((a,b,c),[])) (λ_ _ _ _ _ _ _ _ _ _=>z) (λ_ _ _ b _ _ _ _ _ _ _=>(z.1,b)) (λ_ _=>z) (λ_ _=>z) (λ_ _ _=>z) (λ_ _ _ _ _ _ _=>z) (λ_ _ _ _=>z) (λ_ _ _ _ _=>z) (λ_ _ _ _ _=>z) (λ_ _ _ _ _=>z) (λ_ _ _ _=>z) (λ_ _ _ _=>z) (λ_ _ _=>z) (λ_ _ _=>z) (λ_ _ _=>z) (λ_ _ _=>z) (λ_ _ _ _ _=>z) (λ_ _ _ _ _=>z) (λ_ _ _=>z) (λ_ _=>z) (λ_ _ _ _=>z) (λ_ _=>z) (λ_ _=>z) (λ_ _=>z) (λ_=>z) (λ_=>z) (λ_=>z)
def bD(l:ζ Qx):rl×ζ Stmt:=l.Α (zeK,[]) λs _=>fO s (zeK,[])
def kb(i:θ):rl:=(bD (TP.main.Th.bn i)).1
def jx(i j:θ):rl:=(bD ((bD (TP.main.Th.bn i)).2.bn j)).1
def zjJ(f:rl)(name qual:Ξ.be)(g:Qj)(cl:ζ (Ξ.be×Qj))(dV kV doc pm:μ)(an:η Qj)(cd ct:μ)(b:Qj):FuncData:=
 {name:=name,qualname:=qual,params:=f.1,body:=.stmts f.2.1,scope:=f.2.2,globals:=g,closure:=cl,defaults:=dV,kwdefaults:=kV,doc:=doc,pyModule:=pm,annotations:=an,code:=cd,closureTuple:=ct,builtins:=b}
def de(P:Ϣ)(n:Ξ.be)(t:Tok)(v:μ):DictEntry:=⟨qbe P n,.Υ n t,v⟩
def XZ(f:θ):θ->ζ θ:= @θ.rec (λ_=>θ->ζ θ) (λ_=>[]) (λ_ ih k=>bif qbb k 0 then[] else(k % 128)::ih (k / 128)) f
abbrev XN(k:θ):Ξ.be:=⟨⟨XZ 60 k⟩⟩
abbrev X9(i:Τ)(t:Tok):μ:=Xa i t
abbrev X0(i:Τ):μ:=Xa i 0
abbrev XS(s:Ξ.be)(t:Tok):μ:=KB s t
abbrev XB(b:Ε):μ:=qai b
abbrev X7:μ:=Z7
abbrev X6{α:Type}:η α:=Qc
abbrev X8{α:Type}(l:ζ α):sB α:=Zo l
abbrev X1(a:Qj):μ:=.ο a
def XO(c:μ)(d:η Qj)(b:Data):Ϣ->wT:=λ_=>⟨c,d,b,Zo []⟩
def X2(n:Ξ.be)(t:Tok)(v:μ):Ϣ->DictEntry:=λP=>de P n t v
abbrev XF(f:rl)(n q:Ξ.be)(g:Qj)(dV kV doc pm:μ)(an:η Qj)(cd ct:μ)   :Data:=.func (zjJ f n q g [] dV kV doc pm an cd ct 0)
abbrev X3(o:Ϣ->wT)(x y:Ϣ->BT):Ϣ->BT:=λP=>.node (o P) (x P) (y P)
abbrev X4(o:Ϣ->wT):Ϣ->BT:=λP=>.node (o P) .ϟ .ϟ
abbrev X5:Ϣ->BT:=λ_=>.ϟ
abbrev pe:μ:=Jy s2766695959194262286x5
abbrev za:μ:=Jy s5856160107412720595x4
abbrev gz:μ:=Jy s14018661285674007319x4
abbrev xn:μ:=Jy s7174869446012820540x8
abbrev iW:μ:=Jy s6070975301684473832x10
abbrev eU:μ:=Jy s11030030927630378310x26
abbrev iU:μ:=Jy s17162191345867700912x4
abbrev eS:μ:=Jy s14755015743595814543x17
abbrev iT:μ:=Jy s4290257624100764138x5
abbrev iS:μ:=Jy s9222952809800978799x4
abbrev zjW:μ:=Jy s2742458400755230247x6
abbrev zmf:μ:=Jy s11695548795398191787x4
abbrev zme:μ:=Jy s4156966113859768872x10
abbrev zmd:μ:=Jy s9501651726347032510x9
abbrev zmc:μ:=Jy s15722918466584999320x5
abbrev zmb:μ:=Jy s591115383303110208x11
abbrev zma:μ:=Jy s15721156781594690315x7
abbrev zl9:μ:=Jy s14340494229221121180x9
abbrev zl8:μ:=Jy s13429844117177748173x6
abbrev zl7:μ:=Jy s16463266125957815391x5
abbrev zl6:μ:=Jy s4922535414793169389x9
abbrev zl5:μ:=Jy s8101838861749082086x8
abbrev zl4:μ:=Jy s7066276694103001551x3
abbrev zl3:μ:=Jy s462964344163437139x3
abbrev zl2:μ:=Jy s1438033511350832697x5
abbrev zl1:μ:=Jy s14365286008749172514x8
abbrev zl0:μ:=Jy s3642769012341782148x3
abbrev zlZ:μ:=Jy s4674234679698826739x5
abbrev zlY:μ:=Jy s16656946322747308186x12
abbrev zlX:μ:=Jy s10796804682411823810x3
abbrev zlW:μ:=Jy s14339709457334898076x3
abbrev zlV:μ:=Jy s4278001404047624695x13
abbrev zlU:μ:=Jy s6585700554429387442x18
abbrev zlT:μ:=Jy s5946037652744460706x9
abbrev zlS:μ:=Jy s7410770068591931388x13
abbrev zlR:μ:=Jy s11817881795495490833x17
abbrev zlQ:μ:=Jy s15679963881808890155x10
abbrev zlP:μ:=Jy s3871700062485845797x15
abbrev zlO:μ:=Jy s7689518266570723881x14
abbrev zlN:μ:=Jy s9001593270443806431x14
abbrev zlM:μ:=Jy s6882542574934516792x11
abbrev zlL:μ:=Jy s14403400214490484960x8
abbrev zlK:μ:=Jy s14457978657717015782x11
abbrev zlJ:μ:=Jy s1753610191782819921x11
abbrev zlI:μ:=Jy s14119380538032626715x11
abbrev zlH:μ:=Jy s11437920000406562045x9
abbrev zlG:μ:=Jy s10852414792293593619x7
abbrev zlF:μ:=Jy s14816307405966870543x14
abbrev zlE:μ:=Jy s8682627914449686677x12
abbrev zlD:μ:=Jy s4428170145600203450x18
abbrev zlC:μ:=Jy s5991306692159431302x13
abbrev zlB:μ:=Jy s16067994140765818257x11
abbrev zlA:μ:=Jy s2327743974964600596x11
abbrev zlz:μ:=Jy s2804747833354056582x9
abbrev zly:μ:=Jy s14270485950484850486x7
abbrev zlx:μ:=Jy s12041534306414923332x18
abbrev zlw:μ:=Jy s2531307568338490285x13
abbrev zlv:μ:=Jy s631175304937289666x17
abbrev zlu:μ:=Jy s5144983644357021410x12
abbrev zlt:μ:=Jy s18039099521571816885x18
abbrev zls:μ:=Jy s6011586214260557989x15
abbrev zlr:μ:=Jy s5430567037509283100x13
abbrev zlq:μ:=Jy s8117915138073963741x13
abbrev zlp:μ:=Jy s3423317712779056401x25
abbrev zlo:μ:=Jy s2007317383269046180x15
abbrev zln:μ:=Jy s17481586968713580700x14
abbrev zlm:μ:=Jy s2450899226349176912x13
abbrev zll:μ:=Jy s16626165730633575011x14
abbrev zlk:μ:=Jy s14288496050688921416x11
abbrev zlj:μ:=Jy s5735081916595925998x15
abbrev zli:μ:=Jy s3865607918536308442x17
abbrev zlh:μ:=Jy s13337502604062700212x15
abbrev zlg:μ:=Jy s13114017843053701147x15
abbrev zlf:μ:=Jy s17467278006356818441x17
abbrev zle:μ:=Jy s17722149559621369488x16
abbrev zld:μ:=Jy s7855274175708717672x17
abbrev zlc:μ:=Jy s13351283678309829046x18
abbrev zlb:μ:=Jy s6668348653404991179x15
abbrev zla:μ:=Jy s12913350958174193794x18
abbrev zk9:μ:=Jy s16115879512475548326x12
abbrev zk8:μ:=Jy s15920661018069861047x16
abbrev zk7:μ:=Jy s10779130036587390575x21
abbrev zk6:μ:=Jy s7801419657504700863x10
abbrev zk5:μ:=Jy s1688129525768580628x8
abbrev zk4:μ:=Jy s1031832959479892071x19
abbrev zk3:μ:=Jy s8991790508128307865x19
abbrev zk2:μ:=Jy s14539662485746970245x23
abbrev zk1:μ:=Jy s11643622729373238714x14
abbrev zk0:μ:=Jy s3386828779285465597x17
abbrev zkZ:μ:=Jy s13042696260734638735x12
abbrev zkY:μ:=Jy s18239426817015966623x15
abbrev zkX:μ:=Jy s1270395311379034370x22
abbrev zkW:μ:=Jy s10696252587037064777x22
abbrev zkV:μ:=Jy s7852717498200857586x20
abbrev zkU:μ:=Jy s6377248116197321094x8
abbrev zkT:μ:=Jy s3834378056692298002x18
abbrev zkS:μ:=Jy s17586630440231065808x18
abbrev zkR:μ:=Jy s15234114252648025395x21
abbrev zkQ:μ:=Jy s8496462677383758984x14
abbrev zkP:μ:=Jy s6658869562736209489x6
def n0:=XN 0x7d97675c9bf6bc
def n1:=XN 0x79e0bba75c6bf6e9c3b31af
def n2:=XN 0xbf7f769c3b6fdf
def n3:=XN 0xbf7f2edc3bafdf
def n4:=XN 0x1cf961e9cd765c7d7273dd87974
def n5:=XN 421105403244511
def n6:=XN 0x17efe5cf875e3c3c2fdf
def n7:=XN 0x2fdfe597261dfb2fdf
def n8:=XN 0xbf7f1e5e1cefdf
def n9:=XN 0x17eff3ddbf4f4c3d37eedd86fdf
def sh:=XN 0xbf7f9eed3d3669eb8afdf
def zz:=XN 0xbf7f2ecd39afdf
def zy:=XN 0x2fdfc997463c38efdf
def xm:=XN 29219126239
def yj:=XN 2874561127620
def zx:=XN 0x1cb86ed9ab466c98b0
def yi:=XN 367430873507014
def xl:=XN 0xa94e2d48316947
def xk:=XN 22438781133
def zw:=XN 0x3d7eed1bebb6efaf74284a0
def qg:=XN 0xe5bf9728b97769d18f0cd
def vt:=XN 0x72cbd3a65d97f9e9
def vq:=XN 0x1cb2f4e99765fc9972ee
def vp:=XN 0x3665c58765fc9972ee
def vn:=XN 0x64e5bfbdfc9972ee
def vm:=XN 0x3a6eebbf1dfc9972ee
def vk:=XN 29779293299
def xj:=XN 0x66df7fa68cfa72f7
def xi:=XN 177530829
def vj:=XN 27340091636
def vh:=XN 1651297
def jl:=XN 240679539
def zv:=XN 107
def mu:=XN 0x2fdfcbb3ae4dfb6fdf
def zu:=XN 0xe7cb7f2e595765c7d7273dd87974
def ug:=XN 0xbf7f2edc3bb661ebc6fdf
def mr:=XN 0x17efefdd97769d9d39f2d39afdf
def mq:=XN 0x5fbfcf2f4eb8b4f2e9d30dfc7a7a61e9cefdf
def uf:=XN 0x17efe6cbcb5e1cbdefdf
def yh:=XN 232387827
def zt:=XN 211597303
def zq:=XN 27359129846
def bY:=XN 31381287660
def bX:=XN 245168109
def iE:=XN 244872311
def yg:=XN 245248756
def pn:=XN 217822450
def pk:=XN 1964018
def d0:=XN 27321202288
def nq:=XN 4013864678135
def jv:=XN 0x1cf3eed3c9765c7d7273dd87974
def xh:=XN 0x73cbb74f4bfdf7f2
def xg:=XN 0x3961e9ceff9e9c36e5
def bW:=XN 243136498
def bV:=XN 1915631
def dZ:=XN 105
def dY:=XN 106
def rq:=XN 448010674303213
def ue:=XN 1897177
def pj:=XN 213610734
def n60:=XN 1897209
def rp:=XN 0x72cb9396fbfcf0e8
def SZ:=XN 0xe9cb0f0bfbb0e3
def Pq:=XN 4013864876014
def IH:=XN 1668975
def mm:=XN 211383022
def Dv:=XN 243103344
def FJ:=XN 31083689204
def BC:=XN 3809597945827
def FI:=XN 240745327
def D8:=XN 0x72cbd3a65c57f9e9
def qf:=XN 251393139
def qd:=XN 211317490
def m3:=XN 215692019
def uL:=XN 97
def GU:=XN 98
def n85:=XN 0xbf7fa63d392fdf
def SY:=XN 31381287628
def SW:=XN 31371130819
def n97:=XN 211350495
def n98:=XN 31371130851
def yJ:=XN 3497140974659
def zeY:=XN 3497140974691
def Hy:=XN 30815303797
def zjr:=XN 226275565
def GX:=XN 30815418348
def W0:=XN 4186732950732
def FN:=XN 0xddbf4f4c787966
def zeX:=XN 4186732950764
def zeW:=XN 110
def zjq:=XN 100
def zjp:=XN 15586
def uM:=XN 0x65dda7463c3b5765c7d7273dd87974
def PW:=XN 22430328018
def PV:=XN 0x14e2d483529dfa94e7cd
def PU:=XN 0x53874a0dfa94e7cd
def PR:=XN 1140559
def Hx:=XN 1636673
def FM:=XN 0xbf7fa69dda6fdf
def PP:=XN 0xf3d386dcb7f9e9
def zca:=XN 29204459756
def FL:=XN 4013059518708
def GW:=XN 448010674303181
def PO:=XN 0x36efdfcafe4cb9775f
def V9:=XN 27356854899
def PN:=XN 3978726767219
def PM:=XN 0x32f4c3d39dfc9972ee
def GV:=XN 1636705
def zb9:=XN 29749703779
def Aa:=XN 29749801698
def D9:=XN 1652581
def II:=XN 213824755
def zb8:=XN 0x39e3e586ff4ddd77e3
def PL:=XN 0x79e9c36e5bfcf0e8
def zb7:=XN 3980574372076
def zb6:=XN 0xdda70ece17f9e9
def PK:=XN 255604707
def zb5:=XN 31083705580
def zjo:=XN 3944329476846
def PJ:=XN 3497149691891
def zb4:=XN 31379192435
def PI:=XN 0x6ed39f2e25d97769d18f0cd
def PH:=XN 0x1937655d97769d18f0cd
def zeV:=XN 4015504749023
def zeU:=XN 242809185
def zeT:=XN 242825061
def zb3:=XN 31381566694
def zb2:=XN 0x36637dc306ac34f5bfdf0ec
def PG:=XN 3845270352481
def PF:=XN 230324596
def PE:=XN 443747950901215
def PD:=XN 0x64e587bebc78715f
def PC:=XN 244938463
def zb1:=XN 22424102871
def zb0:=XN 372306437449676
def PB:=XN 0x1d396fd1cefe4cb9775f
def PA:=XN 4016840536927
def Pz:=XN 31115080543
def Py:=XN 211366111
def Px:=XN 3463297348319
def WZ:=XN 509792722172655
def Pw:=XN 443164898638303
def WY:=XN 3982755641193
def Pv:=XN 31110885616
def Pu:=XN 0x6cd9971dfef8765f
def Pt:=XN 0xe7d3467d397bdfef8765f
def zeS:=XN 30815173231
def zjn:=XN 31354156147
def zjm:=XN 3497399218914
def zjl:=XN 1913581
def zjk:=XN 226277367
def FK:=XN 0x6eebc9765c7d7273dd87974
def zeR:=XN 14945
def zeQ:=XN 3944367338220
def zjj:=XN 1995499
def zji:=XN 30815449324
def zjh:=XN 3465723654882
def zjg:=XN 0x3befd99715fdbbf966
def zeP:=XN 4016016503283
def Pr:=XN 0xcbbb4e8c7876dfef8765f
def zbZ:=XN 1962220
def zjf:=XN 3982185216117
def zje:=XN 3466780866415
def R0:Τ:=Yz (10 ^ 4000)
def XG(t:BT):θ->wT:= @BT.rec (λ_=>θ->wT) (λ_=>⟨.Δ,Qc,.plain,Zo []⟩) (λv _ _ L R i=>bif qbb i 0 then v else bif qbb (i % 2) 1 then L (i / 2) else R (i / 2-1)) t
def XI(t:BT):θ->wT->BT:= @BT.rec (λ_=>θ->wT->BT) (λ_ o=>.node o .ϟ .ϟ) (λv l r L R i o=>bif qbb i 0 then .node o l r else bif qbb (i % 2) 1 then .node v (L (i / 2) o) r else .node v l (R (i / 2-1) o)) t
def XR(P:Ϣ)(l:ζ (Ϣ->wT)):θ->BT->BT:= @YD _ (λ_=>θ->BT->BT) (λ_ t=>t) (λo _ ih a t=>ih (ZX a) (XI t a (o P))) l
def XQ(t:θ)(l:ζ (Ξ.be×μ)):ζ (Ϣ->Qh):= @YD _ (λ_=>θ->ζ (Ϣ->Qh)) (λ_=>[]) (λe _ ih t=>X2 e.1 t e.2::ih (ZX t)) l t
def iY(P:Ϣ)(l:ζ (Ϣ->wT)):θ->Jl->Frag:= @YD _ (λ_=>θ->Jl->Jl) (λ_ r=>r) (λo _ ih a r=>(a,o P)::ih (ZX a) r) l
def XK(P:Ϣ)(l:ζ (θ×ζ (Ϣ->wT))):Frag:= @YD (θ×ζ (Ϣ->wT)) (λ_=>Jl) [] (λe _ ih=>iY P e.2 e.1 ih) l
def XP(t:Ϣ->BT)(l:ζ (θ×ζ (Ϣ->wT))):Ϣ->BT:=λP=> @YD (θ×ζ (Ϣ->wT)) (λ_=>BT->BT) (λt=>t) (λe _ ih t=>ih (XR P e.2 e.1 t)) l (t P)
def XD(c:μ)(d:η Qj)(l:ζ (Ϣ->Qh))(n:θ):Ϣ->wT:=λP=>⟨c,d,.Χ (Zo (l.ς λe=>e P)) n,Zo []⟩
def XM(o:wT):Ϣ->wT:=λ_=>o
def Y0(a:Ξ.be)(b c d:θ):Ϣ->wT:=XM ⟨(Jy s17162191345867700912x4),Qc,(.cls (ClassData.mk a [(Jy s2742458400755230247x6)] [(.ο b),(Jy s2742458400755230247x6)] c a Qe [] [] Qb Qc Qb)),Zo [Qc,Qc,(Qa (KB a d)),(Qa (KB a (d+8))),(Qa (Kh s11443829558043349243x14)),(Qa (qai Qe))]⟩
def Y1(a b:θ)(c:Ξ.be)(d:θ):Ϣ->wT:=XM ⟨(Jy s658472552662922059x5),Qc,.plain,Zo [(Qa (.ο a)),(Qa (.ο 3)),(Qa (.ο b)),Qc,(Qa (KB c d)),Qc,(Qa (.ο 0))]⟩
def Y2(a:Ξ.be)(b:θ)(c:Τ)(d:θ)(e:Τ):Ϣ->wT:=XO za X6 (.lf (X8 [(XS a b),(XS a (b+1)),(XS n1 (b+2)),(X0 c),(X0 0),(X0 0),(X0 0),(X0 0),(X1 d),(XB Qb),(X0 181),(X1 (d+1)),X7,X7,X7,X7,(X0 e),(X0 c),(XS n1 (b+4))]))
def Y3(a b:θ):Ϣ->wT:=XO eS X6 (.lf (X8 [(XS n85 a),(X1 b),(Kh s6511155373996960695x17),(Kh s12411053484034534018x21)]))
def Y4(a b:θ):Ϣ->wT:=XO eS X6 (.lf (X8 [(XS uf a),(X1 b),(Kh s10220274742760427390x26),X7]))
def Y5(a:θ):Ϣ->wT:=XO eU X6 (.lf (X8 [(Kh s4860613602091757760x24),(X1 a)]))
def Y6(a:Ξ.be)(b:θ)(c:Ξ.be)(d:Τ)(e:θ)(f:Τ)(g:θ):Ϣ->wT:=XO za X6 (.lf (X8 [(XS a b),(XS c (b+1)),(XS n1 (b+2)),(X0 d),(X0 3),(X0 0),(X0 0),(X0 3),(X1 e),(XB Qe),(X0 181),(X1 (e+1)),X7,(X1 (e+2)),(X1 (e+3)),(X1 (e+4)),(X0 f),(X0 d),(XS n1 g)]))
def Y7(a:θ):Ϣ->wT:=XO iT X6 (.lf (X8 [(X1 a),(X1 a),(X1 a)]))
def Y8(a b:θ):Ϣ->wT:=XO (X1 a) (Qa b) .plain
def o0:=XO pe X6 (.seq (X8 []) 0)
def o1:=XO X7 X6 (.lf (X8 []))
def o2:=Y2 n0 182 1 11 185
def o3:=Y1 13 3 n2 164
def q0:ζ (Ϣ->Qh):=XQ 165 [(n3,XS n4 277),(n5,X7),(n6,X7),(n7,Kh s7097527257260152453x26),(n8,X7),(n9,X1 6),(sh,X1 4)]++XQ 173 [(zz,XS n1 172),(zy,X7)]++[X2 xm 193 (X1 21),X2 yj 197 (XS zx 196),X2 yi 199 (X9 4000 198),X2 xl 202 (X9 R0 201),X2 xk 204 (XS zw 203),X2 qg 222 (X1 31),X2 vt 229 (X1 41),X2 vq 236 (X1 48),X2 vp 243 (X1 55),X2 vn 251 (X1 62),X2 vm 261 (X1 69),X2 vk 268 (X1 76),X2 xj 276 (X1 83),X2 xi 280 (X9 2000 279),X2 vj 286 (X1 88),X2 vh 296 (X1 95),X2 jl 302 (X1 100)]
def o4:=XD gz X6 q0 26
def q1:ζ μ:=[(X0 1),(X0 0),(X1 20),(X0 9),(X0 0),(X1 27),(X0 11),(X0 0),(X1 40),(X0 13),(X0 0),(X1 47),(X0 17),(X0 0),(X1 54),(X0 21),(X0 0),(X1 61),(X0 27),(X0 0),(X1 68),(X0 31),(X0 0),(X1 75),(X0 37),(X0 0),(X1 82),(X0 46),(X0 0),(X1 87),(X0 55),(X0 0),(X1 94),(X0 58),(X0 0),(X1 99)]
def o5:=XO X7 X6 (.lf (X8 q1))
def iC:=XO pe X6 (.seq (X8 [iW]) 0)
def ud:=XO eU X6 (.lf (X8 [(Kh s10062305145149207511x16),iU]))
def iA:=XD gz X6 [(X2 mu 212 (XS zu 194)),(X2 ug 214 (XS qg 213)),(X2 mr 216 (X9 9 215)),(X2 mq 217 (X1 29))] 4
def hZ:=Y2 qg 207 9 25 210
def hY:=Y1 27 24 zu 194
def hW:=XD gz X6 [(X2 mu 212 (XS zu 194)),(X2 mr 216 (X9 9 215)),(X2 mq 217 (X1 29)),(X2 uf 219 (X1 32)),(X2 n5 220 X7)] 3
def hH:=XM ⟨(Jy s17162191345867700912x4),Qc,(.cls (ClassData.mk qg [(Jy s6070975301684473832x10)] [(.ο 31),(Jy s6070975301684473832x10),(Jy s5946037652744460706x9),(Jy s4278001404047624695x13),(Jy s2742458400755230247x6)] 30 qg Qe [] [] Qb Qc Qb)),Zo [(Qa (.ο 22)),Qc,(Qa (KB qg 205)),(Qa (KB qg 213)),(Qa (Kh s4209523147560561109x18)),(Qa (qai Qe))]⟩
def hG:=Y4 218 31
def g9:=Y7 31
def g8:=Y5 31
def q2:ζ (Ϣ->Qh):=XQ 165 [(n3,XS jv 322),(n5,X7),(n6,X7),(n7,Kh s7097527257260152453x26),(n8,X7),(n9,X1 6),(sh,X1 4)]++XQ 173 [(zz,XS n1 172),(zy,X7)]++[X2 xm 193 (X1 21),X2 yj 197 (XS zx 196),X2 yi 199 (X9 4000 198),X2 xl 202 (X9 R0 201),X2 xk 204 (XS zw 203),X2 qg 222 (X1 31),X2 vt 229 (X1 41),X2 vq 236 (X1 48),X2 vp 243 (X1 55),X2 vn 251 (X1 62),X2 vm 261 (X1 69),X2 vk 268 (X1 76),X2 xj 276 (X1 83),X2 xi 280 (X9 2000 279),X2 vj 286 (X1 88),X2 vh 296 (X1 95),X2 jl 302 (X1 100),X2 xh 314 (X1 107),X2 xg 321 (X1 114)]
def o58:=XD gz X6 q2 28
def q3:ζ μ:=q1++[(X0 73),(X0 0),(X1 106),(X0 80),(X0 0),(X1 113)]
def o59:=XO X7 X6 (.lf (X8 q3))
def q4:ζ (Ϣ->Qh):=q2++[X2 ue 427 (X1 187)]
def o68:=XD gz X6 q4 29
def q5:ζ μ:=q3++[(X0 85),(X0 0),(X1 120)]
def o69:=XO X7 X6 (.lf (X8 q5))
def q6:ζ (Ϣ->Qh):=[X2 mu 331 (XS jv 322),X2 ug 333 (XS ue 332),X2 mr 335 (X9 85 334)]++XQ 337 [(pj,XS n60 336),(rp,XB Qe),(SZ,XB Qe)]++[X2 Pq 341 (X9 0 340),X2 IH 343 (X9 1 342),X2 mm 351 (X1 128),X2 Dv 360 (X1 135),X2 FJ 369 (X1 142),X2 jl 377 (X1 149),X2 BC 385 (X1 156),X2 FI 394 (X1 163),X2 D8 403 (X1 170),X2 qf 411 (X1 177)]++XQ 419 [(qd,X1 184),(mq,X1 185)]
def o70:=XD gz X6 q6 18
def q7:ζ μ:=[(X0 92),(X0 4),(X1 127),(X0 97),(X0 4),(X1 134),(X0 100),(X0 4),(X1 141),(X0 103),(X0 4),(X1 148),(X0 106),(X0 4),(X1 155),(X0 109),(X0 4),(X1 162),(X0 112),(X0 4),(X1 169),(X0 115),(X0 4),(X1 176),(X0 118),(X0 4),(X1 183)]
def o71:=XO X7 X6 (.lf (X8 q7))
def o72:=Y2 ue 326 85 118 329
def o73:=Y1 120 117 jv 322
def q8:ζ (Ϣ->Qh):=[X2 mu 331 (XS jv 322),X2 mr 335 (X9 85 334)]++XQ 337 [(pj,XS n60 336),(rp,XB Qe),(SZ,XB Qe)]++[X2 Pq 341 (X9 0 340),X2 IH 343 (X9 1 342),X2 mm 351 (X1 128),X2 Dv 360 (X1 135),X2 FJ 369 (X1 142),X2 jl 377 (X1 149),X2 BC 385 (X1 156),X2 FI 394 (X1 163),X2 D8 403 (X1 170),X2 qf 411 (X1 177)]++XQ 419 [(qd,X1 184),(mq,X1 185)]++[X2 n85 422 (X1 188)]++XQ 424 [(uf,X1 189),(n5,X7)]
def zi6:=XD gz X6 q8 4
def zi5:=Y0 ue 187 186 324
def zi4:=Y3 421 187
def zi3:=Y4 423 187
def zi2:=Y7 187
def zi1:=Y5 187
def q9:ζ (Ϣ->Qh):=q4++[X2 SY 530 (X1 264)]
def zi0:=XD gz X6 q9 30
def dW:ζ μ:=q5++[(X0 120),(X0 0),(X1 197)]
def ziZ:=XO X7 X6 (.lf (X8 dW))
def gQ:ζ (Ϣ->Qh):=[X2 mu 435 (XS jv 322),X2 ug 437 (XS SY 436),X2 mr 439 (X9 120 438)]++XQ 441 [(pj,XS bY 440),(rp,XB Qe),(SZ,XB Qe),(Pq,X7)]++[X2 IH 446 (X9 0 445),X2 mm 454 (X1 205),X2 Dv 463 (X1 212),X2 FJ 472 (X1 219),X2 jl 480 (X1 226),X2 BC 488 (X1 233),X2 FI 497 (X1 240),X2 D8 506 (X1 247),X2 qf 514 (X1 254)]++XQ 522 [(qd,X1 261),(mq,X1 262)]
def ziY:=XD gz X6 gQ 18
def gP:ζ μ:=[(X0 127),(X0 4),(X1 204),(X0 132),(X0 4),(X1 211),(X0 139),(X0 4),(X1 218),(X0 144),(X0 4),(X1 225),(X0 147),(X0 4),(X1 232),(X0 150),(X0 4),(X1 239),(X0 155),(X0 4),(X1 246),(X0 158),(X0 4),(X1 253),(X0 161),(X0 4),(X1 260)]
def ziX:=XO X7 X6 (.lf (X8 gP))
def ziW:=Y2 SY 430 120 195 433
def ziV:=Y1 197 194 jv 322
def gO:ζ (Ϣ->Qh):=[X2 mu 435 (XS jv 322),X2 mr 439 (X9 120 438)]++XQ 441 [(pj,XS bY 440),(rp,XB Qe),(SZ,XB Qe),(Pq,X7)]++[X2 IH 446 (X9 0 445),X2 mm 454 (X1 205),X2 Dv 463 (X1 212),X2 FJ 472 (X1 219),X2 jl 480 (X1 226),X2 BC 488 (X1 233),X2 FI 497 (X1 240),X2 D8 506 (X1 247),X2 qf 514 (X1 254)]++XQ 522 [(qd,X1 261),(mq,X1 262)]++[X2 n85 525 (X1 265)]++XQ 527 [(uf,X1 266),(n5,X7)]
def ziU:=XD gz X6 gO 4
def ziT:=Y0 SY 264 263 428
def ziS:=Y3 524 264
def ziR:=Y4 526 264
def ziQ:=Y7 264
def ziP:=Y5 264
def dU:ζ (Ϣ->Qh):=q9++[X2 SW 634 (X1 341),X2 n97 642 (X1 352)]
def ziO:=XD gz X6 dU 32
def dS:ζ μ:=dW++[(X0 165),(X0 0),(X1 274),(X0 202),(X0 0),(X1 351)]
def ziN:=XO X7 X6 (.lf (X8 dS))
def gN:ζ (Ϣ->Qh):=[X2 mu 538 (XS jv 322),X2 ug 540 (XS SW 539),X2 mr 542 (X9 165 541)]++XQ 544 [(pj,XS n98 543),(rp,XB Qb),(SZ,XB Qe)]++[X2 Pq 548 (X9 0 547),X2 IH 550 (X9 1 549),X2 mm 558 (X1 282),X2 Dv 567 (X1 289),X2 FJ 576 (X1 296),X2 jl 584 (X1 303),X2 BC 592 (X1 310),X2 FI 601 (X1 317),X2 D8 610 (X1 324),X2 qf 618 (X1 331)]++XQ 626 [(qd,X1 338),(mq,X1 339)]
def ziM:=XD gz X6 gN 18
def gM:ζ μ:=[(X0 172),(X0 4),(X1 281),(X0 177),(X0 4),(X1 288),(X0 180),(X0 4),(X1 295),(X0 183),(X0 4),(X1 302),(X0 188),(X0 4),(X1 309),(X0 191),(X0 4),(X1 316),(X0 194),(X0 4),(X1 323),(X0 197),(X0 4),(X1 330),(X0 200),(X0 4),(X1 337)]
def ziL:=XO X7 X6 (.lf (X8 gM))
def ziK:=Y2 SW 533 165 272 536
def ziJ:=Y1 274 271 jv 322
def gL:ζ (Ϣ->Qh):=[X2 mu 538 (XS jv 322),X2 mr 542 (X9 165 541)]++XQ 544 [(pj,XS n98 543),(rp,XB Qb),(SZ,XB Qe)]++[X2 Pq 548 (X9 0 547),X2 IH 550 (X9 1 549),X2 mm 558 (X1 282),X2 Dv 567 (X1 289),X2 FJ 576 (X1 296),X2 jl 584 (X1 303),X2 BC 592 (X1 310),X2 FI 601 (X1 317),X2 D8 610 (X1 324),X2 qf 618 (X1 331)]++XQ 626 [(qd,X1 338),(mq,X1 339)]++[X2 n85 629 (X1 342)]++XQ 631 [(uf,X1 343),(n5,X7)]
def ziI:=XD gz X6 gL 4
def ziH:=Y0 SW 341 340 531
def ziG:=Y3 628 341
def ziF:=Y4 630 341
def ziE:=Y7 341
def ziD:=Y5 341
def dR:ζ (Ϣ->Qh):=dU++[X2 yJ 751 (X1 427)]
def ziC:=XD gz X6 dR 33
def dQ:ζ μ:=dS++[(X0 206),(X0 0),(X1 358)]
def ziB:=XO X7 X6 (.lf (X8 dQ))
def gK:ζ (Ϣ->Qh):=[X2 mu 650 (XS jv 322),X2 ug 652 (XS yJ 651),X2 mr 654 (X9 206 653)]++XQ 656 [(pj,XS zeY 655),(rp,XB Qb),(SZ,XB Qe)]++[X2 Pq 661 (X1 360),X2 IH 664 (X1 361),X2 mm 672 (X1 368),X2 Dv 681 (X1 375),X2 FJ 690 (X1 382),X2 jl 698 (X1 389),X2 BC 706 (X1 396),X2 FI 715 (X1 403),X2 D8 724 (X1 410),X2 qf 732 (X1 417)]++XQ 743 [(qd,X1 424),(mq,X1 425)]
def ziA:=XD gz X6 gK 18
def gJ:ζ μ:=[(X0 213),(X0 4),(X1 367),(X0 220),(X0 4),(X1 374),(X0 223),(X0 4),(X1 381),(X0 226),(X0 4),(X1 388),(X0 231),(X0 4),(X1 395),(X0 234),(X0 4),(X1 402),(X0 237),(X0 4),(X1 409),(X0 240),(X0 4),(X1 416),(X0 243),(X0 4),(X1 423)]
def ziz:=XO X7 X6 (.lf (X8 gJ))
def ziy:=Y2 yJ 645 206 356 648
def zix:=Y1 358 355 jv 322
def ziw:=XO pe X6 (.seq (X8 [(X9 0 659),(X9 1 660)]) 0)
def ziv:=XO pe X6 (.seq (X8 [(X9 1 662),(X9 1 663)]) 0)
def gI:ζ (Ϣ->Qh):=[X2 mu 650 (XS jv 322),X2 mr 654 (X9 206 653)]++XQ 656 [(pj,XS zeY 655),(rp,XB Qb),(SZ,XB Qe)]++[X2 Pq 661 (X1 360),X2 IH 664 (X1 361),X2 mm 672 (X1 368),X2 Dv 681 (X1 375),X2 FJ 690 (X1 382),X2 jl 698 (X1 389),X2 BC 706 (X1 396),X2 FI 715 (X1 403),X2 D8 724 (X1 410),X2 qf 732 (X1 417)]++XQ 743 [(qd,X1 424),(mq,X1 425)]++[X2 n85 746 (X1 428)]++XQ 748 [(uf,X1 429),(n5,X7)]
def ziu:=XD gz X6 gI 4
def zit:=Y0 yJ 427 426 643
def zis:=Y3 745 427
def zir:=Y4 747 427
def ziq:=Y7 427
def zio:=Y5 427
def gH:ζ (Ϣ->Qh):=dR++[X2 W0 804 (X1 469),X2 FN 813 (X1 478)]
def zin:=XD gz X6 gH 35
def dP:ζ μ:=dQ++[(X0 248),(X0 0),(X1 437),(X0 268),(X0 0),(X1 477)]
def zim:=XO X7 X6 (.lf (X8 dP))
def zil:=XM ⟨(Jy s17162191345867700912x4),Qc,(.cls (ClassData.mk yJ [(Jy s2742458400755230247x6)] [(.ο 427),(Jy s2742458400755230247x6)] 426 yJ Qe [] [(.ο 469)] Qb Qc Qb)),Zo [Qc,Qc,(Qa (KB yJ 643)),(Qa (KB yJ 651)),(Qa (Kh s11443829558043349243x14)),(Qa (qai Qe))]⟩
def zik:=XO pe X6 (.seq (X8 [(X1 427)]) 0)
def gG:ζ (Ϣ->Qh):=[X2 mu 759 (XS jv 322),X2 ug 761 (XS W0 760),X2 mr 763 (X9 248 762)]++XQ 765 [(pj,XS zeX 764),(rp,XB Qe)]++[X2 mm 774 (X1 445),X2 Dv 783 (X1 452),X2 jl 791 (X1 459)]++XQ 800 [(D8,X1 466),(mq,X1 467)]
def zij:=XD gz X6 gG 10
def zii:=XO X7 X6 (.lf (X8 [(X0 252),(X0 4),(X1 444),(X0 258),(X0 4),(X1 451),(X0 263),(X0 4),(X1 458),(X0 266),(X0 4),(X1 465)]))
def zih:=Y2 W0 754 248 435 757
def zig:=Y1 437 434 jv 322
def gE:ζ (Ϣ->Qh):=[X2 mu 759 (XS jv 322),X2 mr 763 (X9 248 762)]++XQ 765 [(pj,XS zeX 764),(rp,XB Qe)]++[X2 mm 774 (X1 445),X2 Dv 783 (X1 452),X2 jl 791 (X1 459)]++XQ 800 [(D8,X1 466),(mq,X1 467),(n5,X7)]
def zif:=XD gz X6 gE 2
def zie:=XM ⟨(Jy s17162191345867700912x4),Qc,(.cls (ClassData.mk W0 [(.ο 427)] [(.ο 469),(.ο 427),(Jy s2742458400755230247x6)] 468 W0 Qe [] [] Qb Qc Qb)),Zo [(Qa (.ο 432)),Qc,(Qa (KB W0 752)),(Qa (KB W0 760)),(Qa (Kh s11443829558043349243x14)),(Qa (qai Qe))]⟩
def zid:=Y7 469
def zic:=Y5 469
def dO:ζ (Ϣ->Qh):=XQ 165 [(n3,XS uM 823),(n5,X7),(n6,X7),(n7,Kh s7097527257260152453x26),(n8,X7),(n9,X1 6),(sh,X1 4)]++XQ 173 [(zz,XS n1 172),(zy,X7)]++[X2 xm 193 (X1 21),X2 yj 197 (XS zx 196),X2 yi 199 (X9 4000 198),X2 xl 202 (X9 R0 201),X2 xk 204 (XS zw 203),X2 qg 222 (X1 31),X2 vt 229 (X1 41),X2 vq 236 (X1 48),X2 vp 243 (X1 55),X2 vn 251 (X1 62),X2 vm 261 (X1 69),X2 vk 268 (X1 76),X2 xj 276 (X1 83),X2 xi 280 (X9 2000 279),X2 vj 286 (X1 88),X2 vh 296 (X1 95),X2 jl 302 (X1 100),X2 xh 314 (X1 107),X2 xg 321 (X1 114),X2 ue 427 (X1 187),X2 SY 530 (X1 264),X2 SW 634 (X1 341),X2 n97 642 (X1 352),X2 yJ 751 (X1 427),X2 W0 804 (X1 469)]++XQ 813 [(FN,X1 478),(PW,X1 489)]++[X2 pn 822 (X1 496),X2 PV 826 (X9 20000 825)]++XQ 828 [(PU,X9 200000 827),(PR,X1 497)]
def zib:=XD gz X6 dO 40
def dN:ζ μ:=dP++[(X0 272),(X0 0),(X1 495)]
def zia:=XO X7 X6 (.lf (X8 dN))
def Il:=XO gz X6 (.Χ (X8 []) 0)
def zh9:=Y8 187 479
def zh8:=Y8 264 481
def zh7:=Y8 341 483
def zh6:=Y8 427 485
def zh5:=Y8 469 487
def zh4:=XO iS X6 (.seq (X8 [(X1 480),(X1 482),(X1 484),(X1 486),(X1 488)]) 0)
def zh3:=XO zjW X6 .plain
def dM:ζ (Ϣ->Qh):=dO++[X2 Hx 878 (X1 528)]
def zh2:=XD gz X6 dM 41
def dK:ζ μ:=dN++[(X0 281),(X0 0),(X1 503)]
def zh1:=XO X7 X6 (.lf (X8 dK))
def zh0:=XD gz X6 [(X2 mu 837 (XS uM 823)),(X2 ug 839 (XS Hx 838)),(X2 mr 841 (X9 281 840)),(X2 FM 852 (X1 511)),(X2 PP 859 (X1 518)),(X2 zca 866 (X1 525)),(X2 mq 871 (X1 526))] 7
def zhZ:=XO X7 X6 (.lf (X8 [(X0 283),(X0 4),(X1 510),(X0 289),(X0 4),(X1 517),(X0 292),(X0 4),(X1 524)]))
def zhY:=Y2 Hx 832 281 501 835
def zhX:=Y1 503 500 uM 823
def zhW:=XO pe X6 (.seq (X8 [(XS GX 867),(XS FL 868),(XS Hy 869),(XS nq 870)]) 0)
def gD:ζ (Ϣ->Qh):=[X2 mu 837 (XS uM 823),X2 mr 841 (X9 281 840),X2 FM 852 (X1 511),X2 PP 859 (X1 518),X2 zca 866 (X1 525),X2 mq 871 (X1 526),X2 n85 873 (X1 529)]++XQ 875 [(uf,X1 530),(n5,X7)]
def zhV:=XD gz X6 gD 4
def zhU:=Y0 Hx 528 527 830
def zhT:=Y3 872 528
def zhS:=Y4 874 528
def zhR:=Y7 528
def zhQ:=Y5 528
def gC:ζ (Ϣ->Qh):=dM++[X2 GW 1036 (X1 654)]
def zhP:=XD gz X6 gC 42
def dJ:ζ μ:=dK++[(X0 294),(X0 0),(X1 538)]
def zhO:=XO X7 X6 (.lf (X8 dJ))
def gA:ζ (Ϣ->Qh):=[X2 mu 886 (XS uM 823),X2 ug 888 (XS GW 887),X2 mr 890 (X9 294 889),X2 FM 898 (X1 546),X2 PO 906 (X1 553),X2 V9 913 (X1 560),X2 PN 919 (X1 565),X2 PM 927 (X1 572),X2 GV 939 (X1 579),X2 zb9 951 (X1 586),X2 Aa 960 (X1 594),X2 D9 969 (X1 602),X2 II 976 (X1 609),X2 zb8 983 (X1 616),X2 PL 992 (X1 623),X2 zb7 999 (X1 630),X2 zb6 1006 (X1 637),X2 PK 1015 (X1 644),X2 zb5 1022 (X1 651),X2 mq 1029 (X1 652)]
def zhN:=XD gz X6 gA 20
def f9:ζ μ:=[(X0 296),(X0 4),(X1 545),(X0 304),(X0 4),(X1 552),(X0 308),(X0 4),(X1 559),(X0 314),(X0 4),(X1 564),(X0 318),(X0 4),(X1 571),(X0 321),(X0 4),(X1 578),(X0 334),(X0 4),(X1 585),(X0 337),(X0 4),(X1 593),(X0 342),(X0 4),(X1 601),(X0 346),(X0 4),(X1 608),(X0 349),(X0 4),(X1 615),(X0 352),(X0 4),(X1 622),(X0 359),(X0 4),(X1 629),(X0 362),(X0 4),(X1 636),(X0 365),(X0 4),(X1 643),(X0 376),(X0 4),(X1 650)]
def zhM:=XO X7 X6 (.lf (X8 f9))
def zhL:=Y2 GW 881 294 536 884
def zhK:=Y1 538 535 uM 823
def zeI:=XO pe X6 (.seq (X8 [(X1 497)]) 0)
def zhJ:=XO pe X6 (.seq (X8 [(XS m3 955),(XS zb4 956),(XS nq 957)]) 0)
def zhI:=XO X7 X6 (XF (jx 36 7) Aa PI 0 X7 X7 X7 X7 X6 X7 X7)
def zhH:=Y6 Aa 952 PI 337 588 958 959
def zeH:=XO xn X6 (XF (jx 36 7) Aa PI 3 (X1 587) X7 X7 (XS uM 823) X6 (X1 593) X7)
def zhG:=XO pe X6 (.seq (X8 [(XS m3 964),(XS V9 965),(XS nq 966)]) 0)
def zhF:=XO X7 X6 (XF (jx 36 8) D9 PH 0 X7 X7 X7 X7 X6 X7 X7)
def zhE:=Y6 D9 961 PH 342 596 967 968
def zeG:=XO xn X6 (XF (jx 36 8) D9 PH 3 (X1 595) X7 X7 (XS uM 823) X6 (X1 601) X7)
def zhD:=XO pe X6 (.seq (X8 [(XS zeV 1023),(XS zeU 1024),(XS zeT 1025),(XS zb3 1026),(XS pn 1027),(XS zb4 1028)]) 0)
def f7:ζ (Ϣ->Qh):=[X2 mu 886 (XS uM 823),X2 mr 890 (X9 294 889),X2 FM 898 (X1 546),X2 PO 906 (X1 553),X2 V9 913 (X1 560),X2 PN 919 (X1 565),X2 PM 927 (X1 572),X2 GV 939 (X1 579),X2 zb9 951 (X1 586),X2 Aa 960 (X1 594),X2 D9 969 (X1 602),X2 II 976 (X1 609),X2 zb8 983 (X1 616),X2 PL 992 (X1 623),X2 zb7 999 (X1 630),X2 zb6 1006 (X1 637),X2 PK 1015 (X1 644),X2 zb5 1022 (X1 651),X2 mq 1029 (X1 652),X2 n85 1031 (X1 655)]++XQ 1033 [(uf,X1 656),(n5,X7)]
def zhC:=XD gz X6 f7 4
def zhB:=Y0 GW 654 653 879
def zhA:=Y3 1030 654
def zhz:=Y4 1032 654
def zhy:=Y7 654
def zhx:=Y5 654
def dI:ζ (Ϣ->Qh):=XQ 165 [(n3,XS zb2 1192),(n5,X7),(n6,X7),(n7,Kh s7097527257260152453x26),(n8,X7),(n9,X1 6),(sh,X1 4)]++XQ 173 [(zz,XS n1 172),(zy,X7)]++[X2 xm 193 (X1 21),X2 yj 197 (XS zx 196),X2 yi 199 (X9 4000 198),X2 xl 202 (X9 R0 201),X2 xk 204 (XS zw 203),X2 qg 222 (X1 31),X2 vt 229 (X1 41),X2 vq 236 (X1 48),X2 vp 243 (X1 55),X2 vn 251 (X1 62),X2 vm 261 (X1 69),X2 vk 268 (X1 76),X2 xj 276 (X1 83),X2 xi 280 (X9 2000 279),X2 vj 286 (X1 88),X2 vh 296 (X1 95),X2 jl 302 (X1 100),X2 xh 314 (X1 107),X2 xg 321 (X1 114),X2 ue 427 (X1 187),X2 SY 530 (X1 264),X2 SW 634 (X1 341),X2 n97 642 (X1 352),X2 yJ 751 (X1 427),X2 W0 804 (X1 469)]++XQ 813 [(FN,X1 478),(PW,X1 489)]++[X2 pn 822 (X1 496),X2 PV 826 (X9 20000 825)]++XQ 828 [(PU,X9 200000 827),(PR,X1 497)]++[X2 Hx 878 (X1 528),X2 GW 1036 (X1 654),X2 PG 1047 (X1 665),X2 PF 1053 (X1 670),X2 PE 1059 (X1 675),X2 PD 1065 (X1 680),X2 PC 1078 (X1 687),X2 zb1 1082 (X9 20000 1081),X2 zb0 1084 (X9 200 1083),X2 nq 1102 (X1 694),X2 PB 1109 (X1 701),X2 PA 1117 (X1 708),X2 Pz 1126 (X1 715),X2 Py 1137 (X1 722),X2 Px 1148 (X1 729),X2 WZ 1155 (X1 735),X2 Pw 1172 (X1 742),X2 WY 1185 (X1 750),X2 Pv 1191 (X1 755),X2 Pu 1201 (X1 762),X2 Pt 1208 (X1 769)]
def zhw:=XD gz X6 dI 61
def dH:ζ μ:=dJ++[(X0 378),(X0 0),(X1 664),(X0 382),(X0 0),(X1 669),(X0 403),(X0 0),(X1 674),(X0 405),(X0 0),(X1 679),(X0 411),(X0 0),(X1 686),(X0 426),(X0 0),(X1 693),(X0 450),(X0 0),(X1 700),(X0 454),(X0 0),(X1 707),(X0 458),(X0 0),(X1 714),(X0 460),(X0 0),(X1 721),(X0 464),(X0 0),(X1 728),(X0 471),(X0 0),(X1 734),(X0 494),(X0 0),(X1 741),(X0 510),(X0 0),(X1 749),(X0 516),(X0 0),(X1 754),(X0 542),(X0 0),(X1 761),(X0 546),(X0 0),(X1 768)]
def zhv:=XO X7 X6 (.lf (X8 dH))
def zhu:=XO pe X6 (.seq (X8 [(X9 40 1149)]) 0)
def zht:=XO X7 X6 (XF (kb 51) WZ WZ 0 X7 X7 X7 X7 X6 X7 X7)
def zhs:=XO za X6 (.lf (X8 [(XS WZ 1150),(XS WZ 1151),(XS n1 1152),(X0 471),(X0 3),(X0 0),(X0 0),(X0 3),(X1 731),(XB Qe),(X0 181),(X1 732),X7,X7,X7,(X1 733),(X0 1153),(X0 471),(XS n1 1154)]))
def zeF:=XO xn X6 (XF (kb 51) WZ WZ 3 (X1 730) X7 X7 (XS FK 1079) X6 (X1 734) X7)
def zhr:=XO pe X6 (.seq (X8 [(X9 40 1173)]) 0)
def zhq:=XO pe X6 (.seq (X8 [(XS rq 1177),(XS GX 1178),(XS bX 1179),(XS zjg 1180),(XS pk 1181),(XS GV 1182)]) 0)
def zhp:=XO X7 X6 (XF (kb 53) WY WY 0 X7 X7 X7 X7 X6 X7 X7)
def zho:=Y6 WY 1174 WY 510 744 1183 1184
def zeE:=XO xn X6 (XF (kb 53) WY WY 3 (X1 743) X7 X7 (XS FK 1079) X6 (X1 749) X7)
def q40:ζ (Ϣ->Qh):=dI++[X2 Pr 1228 (X1 776),X2 zbZ 1234 (X1 781)]
def zhn:=XD gz X6 q40 63
def q41:ζ μ:=dH++[(X0 548),(X0 0),(X1 775),(X0 567),(X0 0),(X1 780)]
def zhm:=XO X7 X6 (.lf (X8 q41))
def zad(P:Ϣ):Ix:=⟨⟨[boot_o_0 P,boot_o_1 P,boot_o_2 P,boot_o_3 P,boot_o_4 P,boot_o_5 P,boot_o_6 P,boot_o_7 P,boot_o_8 P,boot_o_9 P,boot_o_10 P,o0 P,o1 P,o2 P,o3 P]⟩,{}⟩
def XW(l:ζ Ξ.be)(t:θ):ζ μ:= @YD Ξ.be (λ_=>θ->ζ μ) (λ_=>[]) (λs _ ih t=>XS s t::ih (ZX t)) l t
def XC(c n:Ξ.be):Ξ.be:=⟨⟨c.cps.ss++46::n.cps.ss⟩⟩
def pf(f:rl)(c d:Ξ.be)(m:Ξ.be)(k B T:θ)(l a:Τ)(ns:ζ Ξ.be):ζ (Ϣ->wT):=[o0,o1,XO pe X6 (.seq (X8 (XW ns (T+3))) 0),o0,XO X7 X6 (XF f c d 0 X7 X7 X7 X7 X6 X7 X7),XO za X6 (.lf (X8 [(XS c T),(XS d (T+1)),(XS n1 (T+2)),(X0 l),(X0 a),(X0 0),(X0 0),(X0 3),(X1 B),(XB Qe),(X0 181),(X1 (B+1)),X7,(X1 (B+2)),(X1 (B+3)),(X1 (B+4)),(X0 (Yz (T+3+ns.ε))),(X0 l),(XS n1 (T+4+ns.ε))])),XO xn X6 (XF f c d 3 X7 X7 X7 (XS m k) X6 (X1 (B+5)) X7)]
def zb(f:rl)(c d:Ξ.be)(m:Ξ.be)(k B T:θ)(l a:Τ):ζ (Ϣ->wT):=[o0,o1,XO X7 X6 (XF f c d 0 X7 X7 X7 X7 X6 X7 X7),XO za X6 (.lf (X8 [(XS c T),(XS d (T+1)),(XS n1 (T+2)),(X0 l),(X0 a),(X0 0),(X0 0),(X0 3),(X1 B),(XB Qe),(X0 181),(X1 (B+1)),X7,X7,X7,(X1 (B+2)),(X0 (Yz (T+3+0))),(X0 l),(XS n1 (T+4+0))])),XO xn X6 (XF f c d 3 X7 X7 X7 (XS m k) X6 (X1 (B+3)) X7)]
def iX(j:θ)(c:Ξ.be):=pf (kb j) c c n2 164
def we(j:θ)(c:Ξ.be):=pf (kb j) c c zu 194
def eX(j:θ)(c:Ξ.be):=zb (kb j) c c n4 277
def cS(j:θ)(c:Ξ.be):=pf (kb j) c c n4 277
def th(j:θ)(c:Ξ.be):=pf (jx 22 j) c (XC ue c) jv 322
def tf(j:θ)(c:Ξ.be):=pf (jx 23 j) c (XC SY c) jv 322
def te(j:θ)(c:Ξ.be):=pf (jx 24 j) c (XC SW c) jv 322
def cR(j:θ)(c:Ξ.be):=pf (kb j) c c jv 322
def td(j:θ)(c:Ξ.be):=pf (jx 26 j) c (XC yJ c) jv 322
def aM(j:θ)(c:Ξ.be):=pf (jx 27 j) c (XC W0 c) jv 322
def zdd(j:θ)(c:Ξ.be):=pf (jx 35 j) c (XC Hx c) uM 823
def yX(j:θ)(c:Ξ.be):=pf (jx 36 j) c (XC GW c) uM 823
def zjZ(j:θ)(c:Ξ.be):=zb (jx 36 j) c (XC GW c) uM 823
def zf0(j:θ)(c:Ξ.be):=pf (kb j) c c uM 823
def zdc(j:θ)(c:Ξ.be):=zb (kb j) c c uM 823
def AH(j:θ)(c:Ξ.be):=pf (kb j) c c FK 1079
def zjY(j:θ)(c:Ξ.be):=zb (kb j) c c FK 1079
def zdb(j:θ)(c:Ξ.be):=pf (kb j) c c zb2 1192
def zjX(j:θ)(c:Ξ.be):=zb (kb j) c c zb2 1192
def a9:=XP X5 [(0,[boot_o_0,boot_o_1,boot_o_2,boot_o_3,boot_o_4,boot_o_5,boot_o_6,boot_o_7,boot_o_8,boot_o_9,boot_o_10,o0,o1,o2,o3])]
def a8:=XP a9 [(3,[o4]),(12,[o5]),(15,iX 0 xm 15 187 1 1 [zv]++[iC,ud,iA,o0,o1,hZ,hY,o0,hW,hH,hG,g9,g8]++we 7 vt 35 223 11 1 [yh]++we 8 vq 42 230 13 1 [yh]++we 9 vp 49 237 17 1 [yh]++we 10 vn 56 244 21 1 [zt,yh]++we 11 vm 63 252 27 4 [zq,bY,bX,iE]++we 12 vk 70 262 31 1 [zq]++we 13 xj 77 269 37 1 [yg,yh]++eX 16 vj 84 281 46 2++cS 17 vh 89 287 55 4 [pn,pk,d0,nq]++eX 18 jl 96 297 58 2)]
def a7:=XP a8 [(3,[o58]),(12,[o59]),(101,cS 19 xh 101 303 73 3 [pn,pk,bW,bV,dZ,dY]++cS 20 xg 108 315 80 1 [rq])]
def a6:=XP a7 [(3,[o68]),(12,[o69]),(115,[o0,ud,o70,o0,o71,o72,o73]++th 5 mm 122 344 92 2 [m3,uL]++th 6 Dv 129 352 97 3 [m3,uL,GU]++th 7 FJ 136 361 100 3 [m3,uL,GU]++th 8 jl 143 370 103 2 [m3,uL]++th 9 BC 150 378 106 2 [m3,pk]++th 10 FI 157 386 109 3 [m3,uL,GU]++th 11 D8 164 395 112 3 [m3,uL,GU]++th 12 qf 171 404 115 2 [m3,uL]++th 13 qd 178 412 118 2 [m3,yg]++[o0,zi6,zi5,zi4,zi3,zi2,zi1])]
def a5:=XP a6 [(3,[zi0]),(12,[ziZ]),(192,[o0,ud,ziY,o0,ziX,ziW,ziV]++tf 5 mm 199 447 127 2 [m3,uL]++tf 6 Dv 206 455 132 3 [m3,uL,GU]++tf 7 FJ 213 464 139 3 [m3,uL,GU]++tf 8 jl 220 473 144 2 [m3,uL]++tf 9 BC 227 481 147 2 [m3,pk]++tf 10 FI 234 489 150 3 [m3,uL,GU]++tf 11 D8 241 498 155 3 [m3,uL,GU]++tf 12 qf 248 507 158 2 [m3,uL]++tf 13 qd 255 515 161 2 [m3,yg]++[o0,ziU,ziT,ziS,ziR,ziQ,ziP])]
def aZ:=XP a5 [(3,[ziO]),(12,[ziN]),(269,[o0,ud,ziM,o0,ziL,ziK,ziJ]++te 5 mm 276 551 172 2 [m3,uL]++te 6 Dv 283 559 177 3 [m3,uL,GU]++te 7 FJ 290 568 180 3 [m3,uL,GU]++te 8 jl 297 577 183 2 [m3,uL]++te 9 BC 304 585 188 2 [m3,pk]++te 10 FI 311 593 191 3 [m3,uL,GU]++te 11 D8 318 602 194 3 [m3,uL,GU]++te 12 qf 325 611 197 2 [m3,uL]++te 13 qd 332 619 200 2 [m3,yg]++[o0,ziI,ziH,ziG,ziF,ziE,ziD]++cR 25 n97 346 635 202 2 [uL,GU])]
def aY:=XP aZ [(3,[ziC]),(12,[ziB]),(353,[o0,ud,ziA,o0,ziz,ziy,zix,ziw,ziv]++td 5 mm 362 665 213 2 [m3,uL]++td 6 Dv 369 673 220 3 [m3,uL,GU]++td 7 FJ 376 682 223 3 [m3,uL,GU]++td 8 jl 383 691 226 2 [m3,uL]++td 9 BC 390 699 231 2 [m3,pk]++td 10 FI 397 707 234 3 [m3,uL,GU]++td 11 D8 404 716 237 3 [m3,uL,GU]++td 12 qf 411 725 240 2 [m3,uL]++td 13 qd 418 733 243 2 [m3,yg,Hy,zjr,GX]++[o0,ziu,zit,zis,zir,ziq,zio])]
def aX:=XP aY [(3,[zin]),(12,[zim]),(427,[zil]),(432,[zik,ud,zij,o0,zii,zih,zig]++aM 2 mm 439 767 252 2 [m3,uL]++aM 3 Dv 446 775 258 3 [m3,uL,GU]++aM 4 jl 453 784 263 2 [m3,uL]++aM 5 D8 460 792 266 3 [m3,uL,GU]++[o0,zif,zie,zid,zic]++cR 28 FN 472 805 268 2 [zeW,zjq,zjp])]
def aV:=XP aX [(3,[zib]),(12,[zia]),(479,[Il,zh9,Il,zh8,Il,zh7,Il,zh6,Il,zh5,zh4]++cR 30 pn 490 815 272 1 [pj,IH]++[zh3])]
def aQ:=XP aV [(3,[zh2]),(12,[zh1]),(498,[o0,ud,zh0,o0,zhZ,zhY,zhX]++zdd 0 FM 505 842 283 5 [m3,Hy,GX,nq,FL]++zdd 1 PP 512 853 289 1 [m3]++zdd 2 zca 519 860 292 1 [m3]++[zhW,zhV,zhU,zhT,zhS,zhR,zhQ])]
def za0:=XP aQ [(3,[zhP]),(12,[zhO]),(533,[o0,ud,zhN,o0,zhM,zhL,zhK]++yX 0 FM 540 891 296 2 [m3,pn]++yX 1 PO 547 899 304 2 [m3,n98]++yX 2 V9 554 907 308 1 [m3]++zjZ 3 PN 561 914 314 2++yX 4 PM 566 920 318 2 [m3,zjo]++yX 5 GV 573 928 321 6 [m3,PJ,Hy,GX,nq,FL]++yX 6 zb9 580 940 334 6 [m3,PJ,Hy,GX,nq,FL]++[zeI,o0,o1,zhJ,o0,zhI,zhH,zeH,zeI,o0,o1,zhG,o0,zhF,zhE,zeG]++yX 9 II 603 970 346 1 [m3]++yX 10 zb8 610 977 349 1 [m3]++yX 11 PL 617 984 352 1 [m3,pk,GV]++yX 12 zb7 624 993 359 1 [m3]++yX 13 zb6 631 1000 362 1 [m3]++yX 14 PK 638 1007 365 1 [m3,bV,zv]++yX 15 zb5 645 1016 376 1 [m3]++[zhD,zhC,zhB,zhA,zhz,zhy,zhx])]
def zaZ:=XP za0 [(3,[zhw]),(12,[zhv]),(659,zf0 37 PG 659 1037 378 3 [rq,zeS,zjn,PJ,GV]++zdc 38 PF 666 1048 382 1++zdc 39 PE 671 1054 403 1++zdc 40 PD 676 1060 405 1++zf0 41 PC 681 1066 411 3 [rq,zb3,zjm,zjl,zjk,V9,zeS]++AH 45 nq 688 1085 426 3 [rq,Hy,GX,pn,FI,bW,dZ,dY,pk,V9,GV,d0]++AH 46 PB 695 1103 450 1 [zt]++AH 47 PA 702 1110 454 1 [rq,pk]++AH 48 Pz 709 1118 458 3 [zt,zeR,zeQ]++AH 49 Py 716 1127 460 5 [rq,bW,zjj,V9,zq]++AH 50 Px 723 1138 464 2 [rq,pk,pn,bV,V9]++[zhu,o0,o1,zht,zhs,zeF]++AH 52 Pw 736 1156 494 6 [rq,zji,zjh,zt,zeQ,bX,pn,pk,V9,GV,zq]++[zhr,o0,o1,zhq,o0,zhp,zho,zeE]++zjY 54 Pv 751 1186 516 2++zdb 56 Pu 756 1194 542 2 [zeP,zv]++zdb 57 Pt 763 1202 546 1 [pj])]
def Og:=XP zaZ [(3,[zhn]),(12,[zhm]),(770,zdb 58 Pr 770 1209 548 5 [zeP,zeR,IH,zjf,zje,rq,II,pk,zv,zeW,PJ,FL,Hy,GX]++zjX 59 zbZ 777 1229 567 1)]
def zac(P:Ϣ):Ix:=absHeap (Og P) 782 {}
def zd8:ζ Stmt:=(TP.main.Th.bn 0).ϣ 19
def zd7:ζ Stmt:=(TP.main.Th.bn 19).ϣ 3
def zd6:ζ Stmt:=(TP.main.Th.bn 22).ϣ 1
def zd5:ζ Stmt:=(TP.main.Th.bn 23).ϣ 1
def zd4:ζ Stmt:=(TP.main.Th.bn 24).ϣ 2
def zd3:ζ Stmt:=(TP.main.Th.bn 26).ϣ 1
def zd2:ζ Stmt:=(TP.main.Th.bn 27).ϣ 2
def zd1:ζ Stmt:=(TP.main.Th.bn 29).ϣ 6
def zd0:ζ Stmt:=(TP.main.Th.bn 35).ϣ 1
def SJ:ζ Stmt:=(TP.main.Th.bn 36).ϣ 1
def SH:ζ Stmt:=(TP.main.Th.bn 37).ϣ 21
def SG:ζ Stmt:=(TP.main.Th.bn 58).ϣ 2
def Cj:ζ Stmt:=zd8++(zd7++(zd6++(zd5++(zd4++(zd3++(zd2++(zd1++(zd0++(SJ++(SH++(SG++([]))))))))))))
def xM:Env:= {scope:=TP.main.TN,locals:=mainNs,globals:=mainNs,cells:=[],code:=(.ο 13),frame:=Qa 14}
def fp:Pos:=⟨0,0,0,0⟩
abbrev cE:Code:=Code.Th Cj xM
abbrev nZ:η μ:=(Qa (.ο 6))
def zek(w:Qn):(λos=>lk bb TP w 11 nZ 12 ⟨QE w.Φ,Zo [],Jd,boot_toks,os⟩ (topStub TP))=λos=>Qa (⟨zad w.Φ,Zo [],{},187,os⟩,Thread.mk (mi bb cE) cE ⟨0,0,0,0⟩ [topFrame fp]):=by kernel_rfl
def zfS(w:Qn):(λos=>jr bb TP w 11 nZ 1 1 ⟨zad w.Φ,Zo [],{},187,os⟩ (blockOf Cj xM cE ⟨0,0,0,0⟩ [topFrame fp]))=λos=>Qa (Flow.Ϭ,qbq (ZH (a9 w.Φ) 15 {} (Zo []) {} 187 os),cE,⟨0,0,0,0⟩):=by kernel_rfl
def zeu(w:Qn):(λos=>bg bb TP w 11 nZ 1 578 (ZH (a9 w.Φ) 15 {} (Zo []) {} 187 os) (piecesOf zd8 xM cE ⟨0,0,0,0⟩ [topFrame fp]))=λos=>Qa (Flow.Ϭ,(ZH (a8 w.Φ) 101 {} (Zo []) {} 303 os),cE,⟨58,0,72,14⟩):=by kernel_rfl
def zet(w:Qn):(λos=>bg bb TP w 11 nZ 1 73 (ZH (a8 w.Φ) 101 {} (Zo []) {} 303 os) (piecesOf zd7 xM cE ⟨58,0,72,14⟩ [topFrame fp]))=λos=>Qa (Flow.Ϭ,(ZH (a7 w.Φ) 115 {} (Zo []) {} 324 os),cE,⟨84,0,84,8⟩):=by kernel_rfl
def zes(w:Qn):(λos=>bg bb TP w 11 nZ 1 530 (ZH (a7 w.Φ) 115 {} (Zo []) {} 324 os) (piecesOf zd6 xM cE ⟨84,0,84,8⟩ [topFrame fp]))=λos=>Qa (Flow.Ϭ,(ZH (a6 w.Φ) 192 {} (Zo []) {} 428 os),cE,⟨85,0,119,41⟩):=by kernel_rfl
def zer(w:Qn):(λos=>bg bb TP w 11 nZ 1 529 (ZH (a6 w.Φ) 192 {} (Zo []) {} 428 os) (piecesOf zd5 xM cE ⟨85,0,119,41⟩ [topFrame fp]))=λos=>Qa (Flow.Ϭ,(ZH (a5 w.Φ) 269 {} (Zo []) {} 531 os),cE,⟨120,0,164,30⟩):=by kernel_rfl
def zeq(w:Qn):(λos=>bg bb TP w 11 nZ 1 560 (ZH (a5 w.Φ) 269 {} (Zo []) {} 531 os) (piecesOf zd4 xM cE ⟨120,0,164,30⟩ [topFrame fp]))=λos=>Qa (Flow.Ϭ,(ZH (aZ w.Φ) 353 {} (Zo []) {} 643 os),cE,⟨202,0,205,12⟩):=by kernel_rfl
def zep(w:Qn):(λos=>bg bb TP w 11 nZ 1 541 (ZH (aZ w.Φ) 353 {} (Zo []) {} 643 os) (piecesOf zd3 xM cE ⟨202,0,205,12⟩ [topFrame fp]))=λos=>Qa (Flow.Ϭ,(ZH (aY w.Φ) 432 {} (Zo []) {} 752 os),cE,⟨206,0,247,70⟩):=by kernel_rfl
def zeo(w:Qn):(λos=>bg bb TP w 11 nZ 1 393 (ZH (aY w.Φ) 432 {} (Zo []) {} 752 os) (piecesOf zd2 xM cE ⟨206,0,247,70⟩ [topFrame fp]))=λos=>Qa (Flow.Ϭ,(ZH (aX w.Φ) 479 {} (Zo []) {} 814 os),cE,⟨268,0,270,29⟩):=by kernel_rfl
def zen(w:Qn):(λos=>bg bb TP w 11 nZ 1 331 (ZH (aX w.Φ) 479 {} (Zo []) {} 814 os) (piecesOf zd1 xM cE ⟨268,0,270,29⟩ [topFrame fp]))=λos=>Qa (Flow.Ϭ,(ZH (aV w.Φ) 498 {} (Zo []) {} 830 os),cE,⟨280,0,280,3⟩):=by kernel_rfl
def zem(w:Qn):(λos=>bg bb TP w 11 nZ 1 291 (ZH (aV w.Φ) 498 {} (Zo []) {} 830 os) (piecesOf zd0 xM cE ⟨280,0,280,3⟩ [topFrame fp]))=λos=>Qa (Flow.Ϭ,(ZH (aQ w.Φ) 533 {} (Zo []) {} 879 os),cE,⟨281,0,293,17⟩):=by kernel_rfl
def zbA(w:Qn):(λos=>bg bb TP w 11 nZ 1 720 (ZH (aQ w.Φ) 533 {} (Zo []) {} 879 os) (piecesOf SJ xM cE ⟨281,0,293,17⟩ [topFrame fp]))=λos=>Qa (Flow.Ϭ,(ZH (za0 w.Φ) 659 {} (Zo []) {} 1037 os),cE,⟨294,0,377,17⟩):=by kernel_rfl
def zbz(w:Qn):(λos=>bg bb TP w 11 nZ 1 567 (ZH (za0 w.Φ) 659 {} (Zo []) {} 1037 os) (piecesOf SH xM cE ⟨294,0,377,17⟩ [topFrame fp]))=λos=>Qa (Flow.Ϭ,(ZH (zaZ w.Φ) 770 {} (Zo []) {} 1209 os),cE,⟨546,0,547,147⟩):=by kernel_rfl
def zby(w:Qn):(λos=>bg bb TP w 11 nZ 1 69 (ZH (zaZ w.Φ) 770 {} (Zo []) {} 1209 os) (piecesOf SG xM cE ⟨546,0,547,147⟩ [topFrame fp]))=λos=>Qa (Flow.Ϭ,(ZH (Og w.Φ) 782 {} (Zo []) {} 1235 os),cE,⟨567,0,584,76⟩):=by kernel_rfl
def zfD(w:Qn):(λos=>jq bb TP w 11 nZ 2 (qbq (ZH (Og w.Φ) 782 {} (Zo []) {} 1235 os)) (Thread.mk (doneF Flow.Ϭ) cE ⟨567,0,584,76⟩ [topFrame fp]))=λos=>Qa (⟨zac w.Φ,Zo [],{},1235,os⟩):=by kernel_rfl
abbrev zbd:θ:=(12+(1+(578+(73+(530+(529+(560+(541+(393+(331+(291+(720+(567+(69+2))))))))))))))
def fR{w:Qn}{n:θ}{s:Qf}{t:Jj}{x}(h:lk bb TP w 11 nZ n s t=x):topGo treeTable TP w 11 nZ n s t=x:=by rw[AK,nD];exact h
def fS{w:Qn}{n:θ}{s:Qf}{t:Jj}{x}(h:jr bb TP w 11 nZ 1 n s t=x):segRun treeTable TP w 11 nZ 1 n s t=x:=by rw[Ds,nD];exact h
theorem qb{w:Qn}{n:θ}{s s':SharedT}{t:Jj}{f:Ji}{c:Code}{q:Pos}(h:bg bb TP w 11 nZ 1 n s t=Qa (f,s',c,q)):segRun treeTable TP w 11 nZ 1 n s.abs t=Qa (f,s'.abs,c,q):=segRun_of (by rw[Lv,nD];exact h)
def fQ{w:Qn}{n:θ}{s:Qf}{t:Jj}{x}(h:jq bb TP w 11 nZ n s t=x):topRun treeTable TP w 11 nZ n s t=x:=by rw[Dr,nD];exact h
theorem zhd(w:Qn)(os:OsState):topRun treeTable TP w 11 nZ zbd ⟨QE w.Φ,Zo [],Jd,boot_toks,os⟩ (topStub TP)=Qa ⟨zac w.Φ,Zo [],{},1235,os⟩:=
 go_top (fR (by have h:=congrFun (zek w) os;rw[<-nD,<-Dt] at h;rw[<-nD];exact h)) (piece_block (fS (congrFun (zfS w) os)) (Qp (qb (congrFun (zeu w) os)) (Qp (qb (congrFun (zet w) os)) (Qp (qb (congrFun (zes w) os)) (Qp (qb (congrFun (zer w) os)) (Qp (qb (congrFun (zeq w) os)) (Qp (qb (congrFun (zep w) os)) (Qp (qb (congrFun (zeo w) os)) (Qp (qb (congrFun (zen w) os)) (Qp (qb (congrFun (zem w) os)) (Qp (qb (congrFun (zbA w) os)) (Qp (qb (congrFun (zbz w) os)) (Qp (qb (congrFun (zby w) os)) (fQ (congrFun (zfD w) os)))))))))))))))
def aJ:ζ Addr:=J5 0 23++(J5 29 4++(J5 35 80++(J5 122 68++(J5 199 68++(J5 276 68++(J5 346 7++(J5 360 70++([432]++(J5 439 31++(J5 472 26++(J5 505 26++(J5 540 117++(J5 659 123)))))))))))))
def KK(P:Ϣ):Frag:=aJ.ς λa=>(a,XG (Og P) a)
abbrev wJ:θ:=782
abbrev SE:θ:=1235
abbrev m00:θ:=11
def zo(p:Qy):Program:= {p with main:= {p.main with body:=p.main.Th.bn 59} }
abbrev qv:Program:=zo TP
def zcj:ζ Ξ.be:=[xm,yj,yi,xl,xk,qg,vt,vq,vp,vn,vm,vk,xj,xi,vj,vh,jl,xh,xg,ue,SY,SW,n97,yJ,W0,FN,PW,pn,PV,PU,PR,Hx,GW,PG,PF,PE,PD,PC,zb1,zb0,nq,PB,PA,Pz,Py,Px,WZ,Pw,WY,Pv,Pu,Pt,Pr]
abbrev NN:θ:=7000
theorem Mh:∀P,aJ=(KK P).ς (·.1):=λP=>by kernel_rfl
theorem wc{w:Qn}{s t:Qf}(y:obsZ aJ s=valZ KK wJ SE w)(k:∀b o,s.Ω.ut b=Qa o->t.Ω.ut b=Qa o):Frag.In (KK w.Φ) t.Ω/\s.Ω.wv.pc=nat_lit 782/\s.wS=nat_lit 1235:=
 ⟨InK.keeps w s.Ω t.Ω (z_facts Mh y).2.1 k,(z_facts Mh y).2.2.1,(z_facts Mh y).2.2.2⟩
theorem zcL:∀w:Qn,(fencedOpening treeTable TP w NN).ς (λs=>(s.Ω,s.gens,s.drawn,s.wS))=Qa (QE w.Φ,Zo [],Jd,boot_toks):=
 boot_open (p:=TP) (N:=NN) (by kernel_rfl) (by decide) (λs=>by rfl)
theorem zcK: ∀w:Qn,((QE w.Φ).isNs mainGlobals && (Zo []:sB GenState).pc==0,(QE w.Φ).wv.pc,(QE w.Φ).nsMap mainGlobals "__annotations__")=(Qe,11,nZ):=λw=>by kernel_rfl
abbrev pw:Program:=Ξ.Ty.pw_ui0508_16
def ym:LeftO pw (zo pw) zcj (λs=>xlAt (zo pw) [] s && recOk [] s) (obsZ aJ) (valZ KK wJ SE) NN:=by
 exact LeftO.of_pieces (p:=TP) (g0:=Qe) zcL zcK zhd (by decide) (λw=>by kernel_rfl)
abbrev QQ(s₀ s₁:Qf)(ns:ζ Τ):μ->Qf->Prop:=λv s'=>Je Ξ.Ty.TK.LT.claim (classAt s₀.Ω) (ExcName.means s₀.Ω) [ofPy (YO (YR Xb ns))] s₁ (.ok (.ret v)) s'
abbrev EE(s₀ s₁:Qf)(ns:ζ Τ):μ->Qf->Prop:=λe s'=>Je Ξ.Ty.TK.LT.claim (classAt s₀.Ω) (ExcName.means s₀.Ω) [ofPy (YO (YR Xb ns))] s₁ (.error e) s'
theorem small{p:Qy}{w:Qn}{A:QC}{t:Sem μ}{s₀ s₁ s:Qf}{ns:ζ Τ}(h:Qi (model p w) A t (QQ s₀ s₁ ns) (EE s₀ s₁ ns) s):
  Qi (model p w) A t (λv s'=>Je Ξ.Ty.TK.LT.claim (classAt s₀.Ω) (ExcName.means s₀.Ω) [ofPy (YO (YR Xb ns))] s₁ (.ok (.ret v)) s')
   (λe s'=>Je Ξ.Ty.TK.LT.claim (classAt s₀.Ω) (ExcName.means s₀.Ω) [ofPy (YO (YR Xb ns))] s₁ (.error e) s') s:=h
end Tactic
namespace Tactic
open Internal
abbrev ye:θ:=1851878757
abbrev lr:θ:=121424990136436
abbrev yd:θ:=1852138852
abbrev xf:θ:=1886156147
abbrev qr:θ:=499984983411
abbrev xe:θ:=1937006962
def aG:ζ (Ξ.be×ab):=[(xk,(.Υ [32,9,10,58,47,95,91,93,62,35,59,63,61])),((XN 0x1bb2ec),(.bi 7103854)),((XN 0x1cba73),(.ty 7566450)),((XN 0xcbc3cf4),(.ty 1954115685)),(qg,(.ai 100)),(vt,(.ai 101)),(vk,(.ai 102)),(vq,(.ai 103)),((XN 0x1d3769),(.ty 6909556)),(xi,(.φ 2000)),(vh,(.ai 104)),((XN 0x65cfbb0f2),(.ty 491260897125)),(pn,(.ai 105)),(nq,(.ai 106)),((XN 0xe98f4e4),(.ty 1684628340)),((XN 0x3265e9cb7f3),(.bi 126922498794852)),(jl,(.ai 107)),(vj,(.ai 108)),((XN 0x1e30ed),(.bi 7168376)),((XN 0x1bb4ed),(.bi 7170414)),(xl,(.φ (10 ^ 4000))),(n97,(.ai 109)),((XN 0x65d9c3af4),(.ty 500186508389)),(FN,(.ai 110)),(yJ,(.ai 111)),(PW,(.fl [.ai 112,.ai 113,.ai 114,.ai 115,.ai 116])),(PV,(.φ 20000)),(vm,(.ai 117)),(Hx,(.ai 118)),(PU,(.φ 200000)),(vp,(.ai 119)),(PR,(.ai 120)),(GW,(.ai 121)),(PG,(.ai 122)),(PD,(.ai 123)),(PC,(.ai 124)),(PE,(.ai 125)),((XN 0xe9cf4ec),(.ty 1818850164)),(Py,(.ai 126)),(Px,(.ai 127)),(PA,(.ai 128)),(Pz,(.ai 129)),(PB,(.ai 130)),(xg,(.ai 131)),(xh,(.ai 132)),(PF,(.ai 133)),(zb0,(.φ 200)),(vn,(.ai 134)),(Pw,(.ai 135)),(zb1,(.φ 20000)),(WZ,(.ai 136)),(Pu,(.ai 137)),(Pt,(.ai 138)),(Pr,(.ai 139)),(WY,(.ai 140)),(Pv,(.ai 141))]
def eR:ζ (θ×Qj):=[(100,31),(101,41),(102,76),(103,48),(104,95),(105,496),(106,694),(107,100),(108,88),(109,352),(110,478),(111,427),(112,480),(113,482),(114,484),(115,486),(116,488),(117,69),(118,528),(119,55),(120,497),(121,654),(122,665),(123,680),(124,687),(125,675),(126,722),(127,729),(128,708),(129,715),(130,701),(131,114),(132,107),(133,670),(134,62),(135,742),(136,735),(137,762),(138,769),(139,776),(140,750),(141,755),(142,128),(143,135),(144,142),(145,149),(146,187),(147,205),(148,212),(149,219),(150,226),(151,264),(152,282),(153,289),(154,296),(155,303),(156,341),(157,368),(158,375),(159,382),(160,389),(161,445),(162,452),(163,459),(164,469),(165,518),(166,511),(167,553),(168,560),(169,565),(170,572),(171,579),(172,594),(173,602),(174,609),(175,623),(176,644),(177,546),(178,781),(187,637),(191,586),(202,156),(203,163),(204,177),(205,233),(206,240),(207,254),(208,310),(209,317),(210,331),(211,396),(212,403),(213,417),(214,525),(215,651),(237,83),(240,184),(241,261),(242,338),(243,424)]
def c00(w:Qn)(so:wT):bf:= ⟨pw,w,(wJ,so)::KK w.Φ,⟨[],[],[]⟩,eR⟩
abbrev cP(n:θ):= {b:θ×θ×ζ Sm // ∀w so,M5 (c00 w so) aG ⟨n,0,[],0,[]⟩=Qa b}
def vG:cP 101:=⟨_,λ_ _=>by conv=>lhs;reduce⟩
def oD:ζ Sm:=vG.1.2.2
def uR:Fn:=⟨101,1,[],7,oD⟩
def r5:cP 103:=⟨_,λ_ _=>by conv=>lhs;reduce⟩
def m4:ζ Sm:=r5.1.2.2
def rU:Fn:=⟨103,1,[],7,m4⟩
def uF:cP 119:=⟨_,λ_ _=>by conv=>lhs;reduce⟩
def nV:ζ Sm:=uF.1.2.2
def sW:Fn:=⟨119,1,[],7,nV⟩
def vE:cP 134:=⟨_,λ_ _=>by conv=>lhs;reduce⟩
def oC:ζ Sm:=vE.1.2.2
def uQ:Fn:=⟨134,1,[],8,oC⟩
def uG:cP 117:=⟨_,λ_ _=>by conv=>lhs;reduce⟩
def nW:ζ Sm:=uG.1.2.2
def sY:Fn:=⟨117,4,[],10,nW⟩
def VP:cP 108:=⟨_,λ_ _=>by conv=>lhs;reduce⟩
def tE:ζ Sm:=VP.1.2.2
def Vb:Fn:=⟨108,2,[],11,tE⟩
def LA:cP 104:=⟨_,λ_ _=>by conv=>lhs;reduce⟩
def rD:ζ Sm:=LA.1.2.2
def G4:Fn:=⟨104,4,[],10,rD⟩
def Gg:cP 107:=⟨_,λ_ _=>by conv=>lhs;reduce⟩
def uY:ζ Sm:=Gg.1.2.2
def Uc:Fn:=⟨107,2,[],15,uY⟩
def v3:cP 132:=⟨_,λ_ _=>by conv=>lhs;reduce⟩
def o6:ζ Sm:=v3.1.2.2
def vL:Fn:=⟨132,3,[],12,o6⟩
def vB:cP 131:=⟨_,λ_ _=>by conv=>lhs;reduce⟩
def l7:ζ Sm:=vB.1.2.2
def uN:Fn:=⟨131,1,[],7,l7⟩
def Dx:cP 142:=⟨_,λ_ _=>by conv=>lhs;reduce⟩
def Dl:ζ Sm:=Dx.1.2.2
def HQ:Fn:=⟨142,2,[],8,Dl⟩
def Dk:ζ Sm:=[.ret (.ϧ (.f8 (.bi 7168376)) [.Λ 1,.Λ 2])]
def HP:Fn:=⟨143,3,[],9,Dk⟩
def Lm:ζ Sm:=[.ret (.ϧ (.f8 (.bi 7170414)) [.Λ 1,.Λ 2])]
def G7:Fn:=⟨144,3,[],9,Lm⟩
def Dj:ζ Sm:=[.ret (.f8 (.φ 1))]
def HO:Fn:=⟨145,2,[],8,Dj⟩
def Gp:cP 147:=⟨_,λ_ _=>by conv=>lhs;reduce⟩
def u4:ζ Sm:=Gp.1.2.2
def Ul:Fn:=⟨147,2,[],8,u4⟩
def Gn:cP 148:=⟨_,λ_ _=>by conv=>lhs;reduce⟩
def Uu:ζ Sm:=Gn.1.2.2
def Uk:Fn:=⟨148,3,[],9,Uu⟩
def VX:cP 149:=⟨_,λ_ _=>by conv=>lhs;reduce⟩
def Vu:ζ Sm:=VX.1.2.2
def Vh:Fn:=⟨149,3,[],9,Vu⟩
def Ut:ζ Sm:=[.ret (.f8 (.φ 0))]
def Uj:Fn:=⟨150,2,[],8,Ut⟩
def Gr:cP 152:=⟨_,λ_ _=>by conv=>lhs;reduce⟩
def u5:ζ Sm:=Gr.1.2.2
def Uo:Fn:=⟨152,2,[],8,u5⟩
def Uw:ζ Sm:=[.ret (.ew .Ϯ (.Λ 1) (.Λ 2))]
def Un:Fn:=⟨153,3,[],9,Uw⟩
def tJ:ζ Sm:=[.ret (.ew .lv (.Λ 1) (.Λ 2))]
def Vi:Fn:=⟨154,3,[],9,tJ⟩
def Gq:cP 155:=⟨_,λ_ _=>by conv=>lhs;reduce⟩
def Uv:ζ Sm:=Gq.1.2.2
def Um:Fn:=⟨155,2,[],8,Uv⟩
def Gm:cP 109:=⟨_,λ_ _=>by conv=>lhs;reduce⟩
def u3:ζ Sm:=Gm.1.2.2
def Ui:Fn:=⟨109,2,[],8,u3⟩
def V3:cP 157:=⟨_,λ_ _=>by conv=>lhs;reduce⟩
def tL:ζ Sm:=V3.1.2.2
def Vl:Fn:=⟨157,2,[],8,tL⟩
def VZ:cP 158:=⟨_,λ_ _=>by conv=>lhs;reduce⟩
def tK:ζ Sm:=VZ.1.2.2
def Vk:Fn:=⟨158,3,[],9,tK⟩
def Wj:cP 159:=⟨_,λ_ _=>by conv=>lhs;reduce⟩
def rO:ζ Sm:=Wj.1.2.2
def zO:Fn:=⟨159,3,[],9,rO⟩
def VY:cP 160:=⟨_,λ_ _=>by conv=>lhs;reduce⟩
def Vv:ζ Sm:=VY.1.2.2
def Vj:Fn:=⟨160,2,[],8,Vv⟩
def VW:cP 161:=⟨_,λ_ _=>by conv=>lhs;reduce⟩
def tI:ζ Sm:=VW.1.2.2
def Vg:Fn:=⟨161,2,[],8,tI⟩
def VV:cP 162:=⟨_,λ_ _=>by conv=>lhs;reduce⟩
def tH:ζ Sm:=VV.1.2.2
def Vf:Fn:=⟨162,3,[],9,tH⟩
def Vt:ζ Sm:=[.ret (.aq (.Λ 0) 7302757)]
def Ve:Fn:=⟨163,2,[],8,Vt⟩
def x6:cP 110:=⟨_,λ_ _=>by conv=>lhs;reduce⟩
def pL:ζ Sm:=x6.1.2.2
def xI:Fn:=⟨110,2,[],9,pL⟩
def Gl:cP 105:=⟨_,λ_ _=>by conv=>lhs;reduce⟩
def Us:ζ Sm:=Gl.1.2.2
def Uh:Fn:=⟨105,1,[],8,Us⟩
def Dy:cP 166:=⟨_,λ_ _=>by conv=>lhs;reduce⟩
def y8:ζ Sm:=Dy.1.2.2
def HR:Fn:=⟨166,5,[],11,y8⟩
def Wk:cP 165:=⟨_,λ_ _=>by conv=>lhs;reduce⟩
def rP:ζ Sm:=Wk.1.2.2
def zP:Fn:=⟨165,1,[],7,rP⟩
def Wh:cP 177:=⟨_,λ_ _=>by conv=>lhs;reduce⟩
def rM:ζ Sm:=Wh.1.2.2
def zM:Fn:=⟨177,2,[],8,rM⟩
def sA:cP 167:=⟨_,λ_ _=>by conv=>lhs;reduce⟩
def m7:ζ Sm:=sA.1.2.2
def rW:Fn:=⟨167,2,[],8,m7⟩
def zB:cP 168:=⟨_,λ_ _=>by conv=>lhs;reduce⟩
def qF:ζ Sm:=zB.1.2.2
def yN:Fn:=⟨168,1,[],7,qF⟩
def x8:cP 169:=⟨_,λ_ _=>by conv=>lhs;reduce⟩
def pN:ζ Sm:=x8.1.2.2
def xK:Fn:=⟨169,2,[],8,pN⟩
def r7:cP 170:=⟨_,λ_ _=>by conv=>lhs;reduce⟩
def m5:ζ Sm:=r7.1.2.2
def rV:Fn:=⟨170,2,[],8,m5⟩
def VU:cP 171:=⟨_,λ_ _=>by conv=>lhs;reduce⟩
def tG:ζ Sm:=VU.1.2.2
def Vd:Fn:=⟨171,6,[],12,tG⟩
def zC:cP 172:=⟨_,λ_ _=>by conv=>lhs;reduce⟩
def qG:ζ Sm:=zC.1.2.2
def dw:Fn:=⟨172,3,[(ab.ai 120)],9,qG⟩
def VT:cP 173:=⟨_,λ_ _=>by conv=>lhs;reduce⟩
def o9:ζ Sm:=VT.1.2.2
def fj:Fn:=⟨173,3,[(ab.ai 120)],9,o9⟩
def rL:ζ Sm:=[.ret (.ϧ (.f8 (.bi 7103854)) [.aq (.Λ 0) 1634886515])]
def zL:Fn:=⟨174,1,[],7,rL⟩
def uH:cP 175:=⟨_,λ_ _=>by conv=>lhs;reduce⟩
def nX:ζ Sm:=uH.1.2.2
def sZ:Fn:=⟨175,1,[],9,nX⟩
def Wi:cP 176:=⟨_,λ_ _=>by conv=>lhs;reduce⟩
def rN:ζ Sm:=Wi.1.2.2
def zN:Fn:=⟨176,1,[],9,rN⟩
def x7:cP 122:=⟨_,λ_ _=>by conv=>lhs;reduce⟩
def pM:ζ Sm:=x7.1.2.2
def xJ:Fn:=⟨122,3,[],11,pM⟩
def Wf:cP 133:=⟨_,λ_ _=>by conv=>lhs;reduce⟩
def lJ:ζ Sm:=Wf.1.2.2
def zJ:Fn:=⟨133,1,[],15,lJ⟩
def v8:cP 125:=⟨_,λ_ _=>by conv=>lhs;reduce⟩
def o8:ζ Sm:=v8.1.2.2
def vO:Fn:=⟨125,1,[],7,o8⟩
def uE:cP 123:=⟨_,λ_ _=>by conv=>lhs;reduce⟩
def nU:ζ Sm:=uE.1.2.2
def sV:Fn:=⟨123,1,[],10,nU⟩
def Wg:cP 124:=⟨_,λ_ _=>by conv=>lhs;reduce⟩
def rK:ζ Sm:=Wg.1.2.2
def zK:Fn:=⟨124,3,[],13,rK⟩
def Gh:cP 106:=⟨_,λ_ _=>by conv=>lhs;reduce⟩
def lM:ζ Sm:=Gh.1.2.2
def Ud:Fn:=⟨106,3,[],18,lM⟩
def v5:cP 130:=⟨_,λ_ _=>by conv=>lhs;reduce⟩
def o7:ζ Sm:=v5.1.2.2
def vM:Fn:=⟨130,1,[],7,o7⟩
def Gj:cP 128:=⟨_,λ_ _=>by conv=>lhs;reduce⟩
def u2:ζ Sm:=Gj.1.2.2
def Ue:Fn:=⟨128,1,[],8,u2⟩
def LF:cP 129:=⟨_,λ_ _=>by conv=>lhs;reduce⟩
def xU:ζ Sm:=LF.1.2.2
def G6:Fn:=⟨129,3,[],9,xU⟩
def Dw:cP 126:=⟨_,λ_ _=>by conv=>lhs;reduce⟩
def pK:ζ Sm:=Dw.1.2.2
def HN:Fn:=⟨126,5,[],11,pK⟩
def Gk:cP 127:=⟨_,λ_ _=>by conv=>lhs;reduce⟩
def pV:ζ Sm:=Gk.1.2.2
def Ug:Fn:=⟨127,2,[],11,pV⟩
def VQ:cP 136:=⟨_,λ_ _=>by conv=>lhs;reduce⟩
def lB:ζ Sm:=VQ.1.2.2
def fn_run_outputs:Fn:=⟨136,3,[(ab.φ 40)],18,lB⟩
def VS:cP 135:=⟨_,λ_ _=>by conv=>lhs;reduce⟩
def tF:ζ Sm:=VS.1.2.2
def Vc:Fn:=⟨135,6,[],17,tF⟩
def Gi:cP 140:=⟨_,λ_ _=>by conv=>lhs;reduce⟩
def uZ:ζ Sm:=Gi.1.2.2
def fn_run_inputs:Fn:=⟨140,3,[(ab.φ 40)],12,uZ⟩
def LD:cP 141:=⟨_,λ_ _=>by conv=>lhs;reduce⟩
def l0:ζ Sm:=LD.1.2.2
def G5:Fn:=⟨141,2,[],18,l0⟩
def zA:cP 137:=⟨_,λ_ _=>by conv=>lhs;reduce⟩
def qE:ζ Sm:=zA.1.2.2
def yM:Fn:=⟨137,2,[],8,qE⟩
def vC:cP 138:=⟨_,λ_ _=>by conv=>lhs;reduce⟩
def oB:ζ Sm:=vC.1.2.2
def uO:Fn:=⟨138,1,[],7,oB⟩
def vD:cP 139:=⟨_,λ_ _=>by conv=>lhs;reduce⟩
def j5:ζ Sm:=vD.1.2.2
def uP:Fn:=⟨139,5,[],20,j5⟩
def EX:cP 178:=⟨_,λ_ _=>by conv=>lhs;reduce⟩
def kU:ζ Sm:=EX.1.2.2
def vP:Fn:=⟨178,1,[],15,kU⟩
def P0:gu:=⟨[uR,rU,sW,uQ,sY,Vb,G4,Uc,vL,uN,HQ,HP,G7,HO,Ul,Uk,Vh,Uj,Uo,Un,Vi,Um,Ui,Vl,Vk,zO,Vj,Vg,Vf,Ve,xI,Uh,HR,zP,zM,rW,yN,xK,rV,Vd,dw,fj,zL,sZ,zN,xJ,zJ,vO,sV,zK,Ud,vM,Ue,G6,HN,Ug,fn_run_outputs,Vc,fn_run_inputs,G5,yM,uO,uP,vP],
 [⟨146,[(ye,(.Υ [121,101,115])),(lr,(.φ 0)),(7302757,(.φ 1)),(yd,(.ai 142)),(xf,(.ai 143)),(qr,(.ai 144)),(xe,(.ai 145))],Qc,[]⟩,
  ⟨151,[(ye,(.Υ [108,101,97,115,116])),(lr,.Δ),(7302757,(.φ 0)),(yd,(.ai 147)),(xf,(.ai 148)),(qr,(.ai 149)),(xe,(.ai 150))],Qc,[]⟩,
  ⟨156,[(ye,(.Υ [99,111,117,110,116])),(lr,(.φ 0)),(7302757,(.φ 1)),(yd,(.ai 152)),(xf,(.ai 153)),(qr,(.ai 154)),(xe,(.ai 155))],Qc,[]⟩,
  ⟨111,[(ye,(.Υ [99,104,97,110,99,101])),(lr,(.ay [.φ 0,.φ 1])),(7302757,(.ay [.φ 1,.φ 1])),(yd,(.ai 157)),(xf,(.ai 158)),(qr,(.ai 159)),(xe,(.ai 160))],Qc,[]⟩,
  ⟨164,[(ye,(.Υ [108,105,107,101,108,121])),(yd,(.ai 161)),(xf,(.ai 162)),(xe,(.ai 163)),(lr,(.ay [.φ 0,.φ 1])),(7302757,(.ay [.φ 1,.φ 1])),(qr,(.ai 159))],Qc,[]⟩,
  ⟨118,[(7598521885536580729,(.ai 165))],Qa 166,[504397587826,465726563698,131277443786868,127961880028532]⟩,
  ⟨121,[(450661264077055929053037,(.ai 167)),(495873782885,(.ai 168)),(126943688418675,(.ai 169)),(521330740336550618428517,(.ai 170)),(6386275,(.ai 171)),(422608071022,(.ai 172)),(6647396,(.ai 173)),(1936292453,(.ai 174)),(1925483444799026525305,(.ai 175)),(1668247673,(.ai 176))],Qa 177,[1919512167,1634886515,1701733491,495873782388,439855772532,104880676367988]⟩],
 [(112,146),(113,151),(114,156),(115,111),(116,164)]⟩
def iD:ζ Ξ.be:=[zeV,PO,GV,zeU,Aa,PK,D9,zeT,zb3,PL,PP,GX,pj,mm,PM,Pq,IH,Dv,pn,II,jl,zb4,V9,PN,FL,FJ,Hy,nq]
def gf(w:Qn)(so:wT):bf:= ⟨pw,w,(wJ,so)::KK w.Φ,P0,eR⟩
section
variable(w:Qn)(so:Obj)
def zdU:P0.oj.ς (M5 (gf w so) aG)=P0.oj.ς λf=>Qa (f.np,f.ns,f.Th):=by kernel_rfl
def zg4:P0.oj.Db (Ρ.jx (gf w so))=true:=by kernel_rfl
def zg3:aG.Db (b7 (gf w so))=true:=by kernel_rfl
def zg2:P0.ki.Db (Mr (gf w so))=true:=by kernel_rfl
def zg6:P0.cls.Db (cI (gf w so) iD)=true:=by kernel_rfl
theorem zg7:vA (gf w so):=zcN (by kernel_rfl) (by kernel_rfl) (by kernel_rfl)
def kA:FuncData:=fnOf Aa PI (jx 36 7).1 (jx 36 7).2.1 (jx 36 7).2.2 (.ο 587) Z7 Z7 (KB uM 823) Qc (.ο 593) Z7
def yV(S:Qu)(v0:μ)(v1:μ):peek (gf w so).K S (bindArgs kA ⟨[v0,v1],[]⟩)=Qa ((kA.Φ.Id.ς (·.arg)).zip [v0,v1,(.ο 497)]):=by kernel_rfl
def yU(S:Qu)(v0:μ)(v1:μ)(v2:μ):peek (gf w so).K S (bindArgs kA ⟨[v0,v1,v2],[]⟩)=Qa ((kA.Φ.Id.ς (·.arg)).zip [v0,v1,v2]):=by kernel_rfl
theorem zG(S:Qu):∀(vs:ζ μ),vs.ε<=3->3-vs.ε<=1->peek (gf w so).K S (bindArgs kA ⟨vs,[]⟩)=Qa ((kA.Φ.Id.ς (·.arg)).zip (vs++Y9 (1-(3-vs.ε)) [(.ο 497)])):=λvs h1 h2=>match vs,h1,h2 with
 | [],_,h2=>υ h2 (show ¬3-0<=1 by decide)
 | [_],_,h2=>υ h2 (show ¬3-1<=1 by decide)
 | [v0,v1],_,_=>yV w so S v0 v1
 | [v0,v1,v2],_,_=>yU w so S v0 v1 v2
 |_::_::_::_::r,h1,_=>υ h1 (show ¬r.ε+4<=3 by omega)
theorem zQ:x4 (gf w so) dw:=λh p e=>by
 rw[show Am (gf w so) dw=Qa ⟨594,zeH w.Φ,kA⟩ from by kernel_rfl] at e;cases e;exact .u8 ⟨h,[(.ο 497)],λw'=>uD (vJ 5) w' _ _ (by kernel_rfl),λS vs h1 h2=>zG w so S vs h1 h2⟩
def kM:FuncData:=fnOf D9 PH (jx 36 8).1 (jx 36 8).2.1 (jx 36 8).2.2 (.ο 595) Z7 Z7 (KB uM 823) Qc (.ο 601) Z7
def VB(S:Qu)(v0:μ)(v1:μ):peek (gf w so).K S (bindArgs kM ⟨[v0,v1],[]⟩)=Qa ((kM.Φ.Id.ς (·.arg)).zip [v0,v1,(.ο 497)]):=by kernel_rfl
def VA(S:Qu)(v0:μ)(v1:μ)(v2:μ):peek (gf w so).K S (bindArgs kM ⟨[v0,v1,v2],[]⟩)=Qa ((kM.Φ.Id.ς (·.arg)).zip [v0,v1,v2]):=by kernel_rfl
theorem V8(S:Qu):∀(vs:ζ μ),vs.ε<=3->3-vs.ε<=1->peek (gf w so).K S (bindArgs kM ⟨vs,[]⟩)=Qa ((kM.Φ.Id.ς (·.arg)).zip (vs++Y9 (1-(3-vs.ε)) [(.ο 497)])):=λvs h1 h2=>match vs,h1,h2 with
 | [],_,h2=>υ h2 (show ¬3-0<=1 by decide)
 | [_],_,h2=>υ h2 (show ¬3-1<=1 by decide)
 | [v0,v1],_,_=>VB w so S v0 v1
 | [v0,v1,v2],_,_=>VA w so S v0 v1 v2
 |_::_::_::_::r,h1,_=>υ h1 (show ¬r.ε+4<=3 by omega)
theorem Ur:x4 (gf w so) fj:=λh p e=>by
 rw[show Am (gf w so) fj=Qa ⟨602,zeG w.Φ,kM⟩ from by kernel_rfl] at e;cases e;exact .u8 ⟨h,[(.ο 497)],λw'=>uD (vJ 5) w' _ _ (by kernel_rfl),λS vs h1 h2=>V8 w so S vs h1 h2⟩
def kL:FuncData:=fnOf WZ WZ (kb 51).1 (kb 51).2.1 (kb 51).2.2 (.ο 730) Z7 Z7 (KB FK 1079) Qc (.ο 734) Z7
def Vz(S:Qu)(v0:μ)(v1:μ):peek (gf w so).K S (bindArgs kL ⟨[v0,v1],[]⟩)=Qa ((kL.Φ.Id.ς (·.arg)).zip [v0,v1,(Xa 40 1149)]):=by kernel_rfl
def Vy(S:Qu)(v0:μ)(v1:μ)(v2:μ):peek (gf w so).K S (bindArgs kL ⟨[v0,v1,v2],[]⟩)=Qa ((kL.Φ.Id.ς (·.arg)).zip [v0,v1,v2]):=by kernel_rfl
theorem V7(S:Qu):∀(vs:ζ μ),vs.ε<=3->3-vs.ε<=1->peek (gf w so).K S (bindArgs kL ⟨vs,[]⟩)=Qa ((kL.Φ.Id.ς (·.arg)).zip (vs++Y9 (1-(3-vs.ε)) [(Xa 40 1149)])):=λvs h1 h2=>match vs,h1,h2 with
 | [],_,h2=>υ h2 (show ¬3-0<=1 by decide)
 | [_],_,h2=>υ h2 (show ¬3-1<=1 by decide)
 | [v0,v1],_,_=>Vz w so S v0 v1
 | [v0,v1,v2],_,_=>Vy w so S v0 v1 v2
 |_::_::_::_::r,h1,_=>υ h1 (show ¬r.ε+4<=3 by omega)
theorem Uq:x4 (gf w so) fn_run_outputs:=λh p e=>by
 rw[show Am (gf w so) fn_run_outputs=Qa ⟨735,zeF w.Φ,kL⟩ from by kernel_rfl] at e;cases e;exact .u8 ⟨h,[(Xa 40 1149)],λw'=>uD (vJ 5) w' _ _ (by kernel_rfl),λS vs h1 h2=>V7 w so S vs h1 h2⟩
def kR:FuncData:=fnOf WY WY (kb 53).1 (kb 53).2.1 (kb 53).2.2 (.ο 743) Z7 Z7 (KB FK 1079) Qc (.ο 749) Z7
def Uy(S:Qu)(v0:μ)(v1:μ):peek (gf w so).K S (bindArgs kR ⟨[v0,v1],[]⟩)=Qa ((kR.Φ.Id.ς (·.arg)).zip [v0,v1,(Xa 40 1173)]):=by kernel_rfl
def Ux(S:Qu)(v0:μ)(v1:μ)(v2:μ):peek (gf w so).K S (bindArgs kR ⟨[v0,v1,v2],[]⟩)=Qa ((kR.Φ.Id.ς (·.arg)).zip [v0,v1,v2]):=by kernel_rfl
theorem GL(S:Qu):∀(vs:ζ μ),vs.ε<=3->3-vs.ε<=1->peek (gf w so).K S (bindArgs kR ⟨vs,[]⟩)=Qa ((kR.Φ.Id.ς (·.arg)).zip (vs++Y9 (1-(3-vs.ε)) [(Xa 40 1173)])):=λvs h1 h2=>match vs,h1,h2 with
 | [],_,h2=>υ h2 (show ¬3-0<=1 by decide)
 | [_],_,h2=>υ h2 (show ¬3-1<=1 by decide)
 | [v0,v1],_,_=>Uy w so S v0 v1
 | [v0,v1,v2],_,_=>Ux w so S v0 v1 v2
 |_::_::_::_::r,h1,_=>υ h1 (show ¬r.ε+4<=3 by omega)
theorem Lg:x4 (gf w so) fn_run_inputs:=λh p e=>by
 rw[show Am (gf w so) fn_run_inputs=Qa ⟨750,zeE w.Φ,kR⟩ from by kernel_rfl] at e;cases e;exact .u8 ⟨h,[(Xa 40 1173)],λw'=>uD (vJ 5) w' _ _ (by kernel_rfl),λS vs h1 h2=>GL w so S vs h1 h2⟩
def NI:ζ Fn->Prop
 | []=>True
 |f::r=>x4 (gf w so) f/\NI r
def NI.at:∀{l:ζ Fn},NI w so l->∀f∈l,x4 (gf w so) f:=by
 intro l
 induction l with
 |ϟ=>exact λ_ _ h=>υ h JE
 |Κ f l ih=>exact λh g hg=>(JO.mp hg).ι (λe=>e▸h.1) λhg=>ih h.2 g hg
theorem j3{α:Sort _}{a:α}{P:Prop}(h:¬a=a):P:=υ rfl h
theorem zg5:∀f∈P0.oj,x4 (gf w so) f:=NI.at w so (show NI w so P0.oj from⟨j3,⟨j3,⟨j3,⟨j3,⟨j3,⟨j3,⟨j3,⟨j3,⟨j3,⟨j3,⟨j3,⟨j3,⟨j3,⟨j3,⟨j3,⟨j3,⟨j3,⟨j3,⟨j3,⟨j3,⟨j3,⟨j3,⟨j3,⟨j3,⟨j3,⟨j3,⟨j3,⟨j3,⟨j3,⟨j3,⟨j3,⟨j3,⟨j3,⟨j3,⟨j3,⟨j3,⟨j3,⟨j3,⟨j3,⟨j3,⟨zQ w so,⟨Ur w so,⟨j3,⟨j3,⟨j3,⟨j3,⟨j3,⟨j3,⟨j3,⟨j3,⟨j3,⟨j3,⟨j3,⟨j3,⟨j3,⟨j3,⟨Uq w so,⟨j3,⟨Lg w so,⟨j3,⟨j3,⟨j3,⟨j3,⟨j3,trivial⟩⟩⟩⟩⟩⟩⟩⟩⟩⟩⟩⟩⟩⟩⟩⟩⟩⟩⟩⟩⟩⟩⟩⟩⟩⟩⟩⟩⟩⟩⟩⟩⟩⟩⟩⟩⟩⟩⟩⟩⟩⟩⟩⟩⟩⟩⟩⟩⟩⟩⟩⟩⟩⟩⟩⟩⟩⟩⟩⟩⟩⟩⟩⟩)
theorem fM:mZ (gf w so) aG:=za2 (zdU w so) (zg4 w so) (zg5 w so) (zg3 w so) (zg2 w so) (zg6 w so) (zg7 w so) (zha _)
end
abbrev zfg:θ:=178
abbrev S8:Addr:=781
def zcv(w:Qn):nsIn (KK w.Φ) mainGlobals (zbZ)=Qa (Qa (.ο 781)):=by kernel_rfl
end Tactic
open Internal
namespace Tactic
open Internal
variable{fa:Qj}{many:Bool}{cx:Cx}{dz it:Ex}{mean:ExcName->Option Value}{F R' R1 Rr:Fl->Internal.Frame->MH->Prop}{ads us bh:List (List Nat)}{X:List (Nat×ae)}{fs fs':List (Nat×ab)}{es es':List (ab×ab)}{mb mb1 mb2:List Bool}{ifs:List Ex}{ns:List Int}{as as' ks au rs tg u wk:List Nat}{A' A1 A2:List Nat->Option Nat}{loose:List PySem.Str}{vs:List ab}{g g' g0 g2 h h' h'' hh t1:MH}{o o':ae}{D D' E' J K K' K0 N Z a aK aL aO aR aS aT aU b c c' c0 d i i' j j' k k' k1 kS kW m n n' p p' p1 pS pW r' s sc x:Nat}{Ad':Nat×Nat->Option Nat}{ep':Option Nat}{b0 k0 sv z1:Option ab}{mg:PySem.Str->Option Value}{s₀ s₁:Qf}{α β κ σ:Type}{Q:ab->MH->Prop}
abbrev Hv:θ:=1886156147
abbrev WR:θ:=499984983411
abbrev wU:θ:=121424990136436
abbrev FH:θ:=7302757
abbrev SU:θ:=1937006962
abbrev IF:θ:=1852138852
def eH{c:Cx}{t:Ex}{b:ζ Sm}{k0:θ}(F:σ->Ρ.Θ)(G:σ->MH)(P:θ->σ->Prop)(D:σ->Prop)(s0:σ)(hk:k0<=190000)(hc:c.cv=200000)(p0:P k0 s0)
  (step:∀k s,P k s->∃r:Ε,WE c (F s) t (G s) (λv g=>v=.ϝ r/\g=G s)/\(r=Qe->∀R' R,To F G (λs=>∃j,j<k/\P j s) R R'->bz c b (F s) (G s) R')/\(r=Qb->D s)):∃s,D s/\exec c (.wh t b) (F s0) (G s0)=Qa ((.nx,F s),G s):=by
 have w:WS c (.wh t b) (F s0) (G s0) λfl f g=>∃s,D s/\fl=.nx/\f=F s/\g=G s:=
  zaF F G P (by rw[hc];exact Jt hk (by decide)) s0 rfl rfl p0 λk s R' hp T=>by
   refine(step k s hp).ι λr zq1=>?_;refine zq1.1.Ν λv g q=>?_;obtain rfl:=q.1;obtain rfl:=q.2;exact tQ ⟨λh=>zq1.2.1 h R' _ T,λh=>⟨s,zq1.2.2 h,rfl,rfl,rfl⟩⟩
 refine xEEA (W.xL w) λcw g e iq=>?_;refine xEAA iq λs hp q1 qi=>?_;refine xA qi λq2 q3=>?_;obtain⟨fl,f⟩:=cw;refine eqE q1 ?_;subst q2;subst q3;exact⟨s,hp,e⟩
theorem qZ{a b r:Τ}(e:Xc a b=r)(hb:b≠0)(h:MH):oZ .mod (.φ a) (.φ b) h=Qa (.φ r,h):=W.eq (zaS hb ⟨by rw[e],rfl⟩)
theorem eG(hb:b≠0)(hl:b<jh)(h:MH):oZ .fdiv (.φ a) (.φ b) h=Qa (.φ (a / b:θ),h):=W.eq (N6 (λe=>hb (KL.mp e)) hl ⟨by rw[<-Τ.ofNat_fdiv],rfl⟩)
theorem nes(s t:ζ θ)(h:MH):mP .ne (.Υ s) (.Υ t) h=Qa (!(s==t)):=Ρ.cq zT
theorem zkv(h:0<n):(((n:θ):Τ)==0)=false:=Ϟ λe=>υ (KL.mp e▸h) (J3 _)
section
variable{h0:MH}
def aH(n m:θ):ab:=.ay [.φ (n / Ks n m:θ),.φ (m / Ks n m:θ)]
def Mx{r:θ}(hr:0<r)(h:r<=b):2*(b % r)<b:=by
 exact Jt (JC (KV _)) (Jw (Xd (qbu b hr) _) (Jm (JN (Z2 _ ((θ.one_le_div_iff hr).Ϩ h:1<=b / r):r<=r*(b / r)) _) (JC (θ.div_add_mod b r))))
def gB:θ:=2 ^ 90000
theorem zfA:∃J,gB=2 ^ J/\2*J+1<=190000:=⟨90000,rfl,by decide⟩
abbrev GS:=θ×θ
section
variable(ψ:GS)
abbrev GS.x:=ψ.1
abbrev GS.y:=ψ.2
end
abbrev gF(s:GS):Ρ.Θ:=Qa (.φ s.x)::Qa (.φ s.y)::nn 6
def GP(g k:θ)(s:GS):Prop:=Ks s.y s.x=g/\∃j,(s.y<2 ^ j/\2*j<=k)\/(s.y<s.x/\s.x<2 ^ j/\2*j<=k+1)
section
variable{g k:Nat}{s:GS}(ψ:GP g k s)
def GP.g:=@ψ.1
def GP.j:=@ψ.2
end
def GP.Ϭ{g:θ}{s:GS}(P:GP g k s)(hy:0<s.y):∃j,j<k/\GP g j ⟨s.y,s.x % s.y⟩:=by
 obtain⟨hg,j,hj⟩:=P;have hg':Ks (s.x % s.y) s.y=g:=by rw[<-θ.gcd_rec];exact hg
 rcases hj with ⟨h1,h2⟩| ⟨h1,h2,h3⟩
 ·have hk:0<k:=Yd λe=>by
   rw[show j=0 from qaj (Jm (qak j (ZU 1)) (e▸h2))] at h1;exact Zv (J9 hy) h1
  exact⟨k-1,qaN hk (ZU _),hg',j,.u8 ⟨(qbu s.x hy),h1,Jm h2 (JC (YL hk).Μ)⟩⟩
 ·cases j with
  |zero=>exact υ h2 (Zv (JL (Jt hy h1)))
  |succ j=>
   rw[qbn] at h2
   have:=Mx hy (JL h1)
   exact⟨k-1,qaN (Jw (ZU _) (Ye h3)) (ZU 0),hg',j,.nb ⟨θ.lt_of_mul_lt_mul_left (a:=2) (Zp this (YK h2 (Xp _ _))),θ.le_sub_one_of_lt (Ye h3)⟩⟩
theorem zcB(hb:b<2 ^ J)(hJ:2*J+1<=190000):∃s:GS,(s.y=0/\s.x=Ks b a)/\exec (ah P0 d) (.wh (.ft .gt (.Λ 1) (.f8 (.φ 0))) [.jo [.nm 0,.nm 1] (.ay [.Λ 1,.ew .mod (.Λ 0) (.Λ 1)])]) (gF ⟨a,b⟩) h=Qa ((.nx,gF s),h):=
 eH (c:=ah P0 d) (k0:=2*J+1) gF (λ_=>h) (GP (Ks b a)) (λs=>s.y=0/\s.x=Ks b a) ⟨a,b⟩ hJ rfl ⟨rfl,J,.nb ⟨hb,Ze _⟩⟩ λk s P=>⟨decide ((0:Τ)<s.y),by exact j2 (.c<|.z (cg (.ϝ (decide ((0:Τ)<s.y))) h)) rfl,λhr R' R T=>by
  have hy:0<s.y:=ZF.mp (Ο hr);exact jT (.q (qZ (r:=(s.x % s.y:θ)) (Τ.ofNat_fmod s.x s.y).Μ (λe=>Kj hy (KL.mp e)))<|.c<|.z (T.nx ⟨s.y,s.x % s.y⟩ (P.Ϭ hy))) rfl,λhr=>by
  have hy:s.y=0:=θ.eq_zero_of_not_pos λh=>Tw hr (ZF.Ϩ h);have hg:=P.g;rw[hy,θ.gcd_zero_left] at hg;exact⟨hy,hg⟩⟩
def zcA(hd:1<=d)(hb:b<gB)(q:Q (.φ (Ks b a:θ)) h):WF P0 d 109 [.φ a,.φ b] h Q:=by
 exact zfA.ι λJ e=>j7 (K:=0) hd (gF ⟨a,b⟩) u3 rfl λd' _=>(zcB (d:=d') (h:=h) (a:=a) (e.1▸hb) e.2).ι λs f=>jT (.s (f.2)<|.z ((f.1.2▸q:Q (.φ s.x) h))) rfl
theorem zfy(hd:1<=d)(hb:b<gB)(h:MH):jJ (ah P0 d) (.ai 109) [.φ a,.φ b] h=Qa (.φ (Ks b a:θ),h):=fn rfl (zcA hd hb (cg _ _))
def RB(hd:2<=d)(hn:n<gB)(hm:0<m)(hl:m<jh)(q:Q (aH n m) h):WF P0 d 110 [.φ n,.φ m] h Q:=by
 refine j7 (K:=1) hd (Qa (.φ n)::Qa (.φ m)::nn 7) pL rfl λd' h'=>?_;have g0:Ks n m≠0:=θ.pos_iff_ne_zero.mp (YF _ hm);have gl:Ks n m<jh:=Jt (θ.gcd_le_right _ hm) hl;exact jT (.q (zfy (a:=m) h' hn)<|.q (eG (a:=n) g0 gl)<|.q (eG (a:=m) g0 gl)<|.z (q)) rfl
theorem eF(hd:2<=d)(hn:n<gB)(hm:0<m)(hl:m<jh)(h:MH):jJ (ah P0 d) (.ai 110) [.φ n,.φ m] h=Qa (aH n m,h):=fn rfl (RB hd hn hm hl (cg _ _))
def iv{x:ab}{i:Τ}(e:x.sK=Qa i):x=.φ i:=by
 cases x<;>first|exact af e|(refine lN e ?_;rfl)
def tv{x:ab}{i:ζ ab}(e:x.tup?=Qa i):x=.ay i:=by
 cases x<;>first|exact af e|(refine lN e ?_;rfl)
def nv{x:ab}(e:x.pi=Qe):x=.Δ:=by
 cases x<;>first|rfl|cases e
def zjV{f:ab->ab->η α}{r:α}(e:a2 vs f=Qa r):∃x y,vs=[x,y]/\f x y=Qa r:=by
 obtain _| ⟨x,_| ⟨y,_| ⟨z,l⟩⟩⟩:=vs
 ·exact af e
 ·exact af e
 ·exact⟨x,y,rfl,e⟩
 ·exact af e
def wB:θ:=2 ^ 3900
def BZ:wB*wB<jh/\jh+jh<=gB:=by decide+kernel
def B1:wB<=wd:=by decide+kernel
def nat?(v:ab):η θ:=v.sK.Η λa=>aw (decide (0<=a) && Zx (a.Mi+1) wB) (Qa a.Mi)
def nat?_s{v:ab}{n:θ}(e:nat? v=Qa n):v=.φ n/\n<wB:=by
 refine xEA (bs e) λa e1 e=>?_;refine xA (gs e) λhb e=>?_;refine lN e ?_;exact⟨by rw[iv e1,Xo (Ο (Jn.mp hb).1)],Zl.mp (Jn.mp hb).2⟩
def fr?(v:ab):η (θ×θ):=v.tup?.Η λvs=>a2 vs λx y=>(nat? x).Η λa=>(nat? y).Η λb=>aw (Zx 1 b) (Qa (a,b))
def zj5(v:ab)(p:θ×θ):Prop:=v=.ay [.φ p.1,.φ p.2]/\p.1<wB/\p.2<wB/\0<p.2
section
variable{v:ab}{p:Nat×Nat}(ψ:zj5 v p)
def zj5.e:=@ψ.1
def zj5.n:=@ψ.2.1
def zj5.d:=@ψ.2.2.1
def zj5.pos:=@ψ.2.2.2
end
def fr?_s{v:ab}{p:θ×θ}(e:fr? v=Qa p):zj5 v p:=by
 refine xEA (bs e) λvs e1 e=>?_;obtain⟨x,y,rfl,e⟩:=zjV e;refine xEA (bs e) λa ea e=>?_;refine xEA (bs e) λb eb e=>?_;obtain⟨hb,e⟩:=gs e;refine lN e ?_;obtain⟨rfl,h1⟩:=nat?_s ea;obtain⟨rfl,h2⟩:=nat?_s eb;exact⟨tv e1,h1,h2,Zl.mp hb⟩
def ni(f:θ->θ->θ->θ->ab)(x y:ab):η ab:=(fr? x).Η λp=>(fr? y).ς λq=>f p.1 p.2 q.1 q.2
def bR(f:Τ->Τ->Τ)(x y:ab):η ab:=x.sK.Η λa=>y.sK.ς λb=>.φ (f a b)
def bQ(f:θ->θ->θ)(x y:ab):η ab:=(nat? x).Η λa=>(nat? y).ς λb=>.φ (f a b:θ)
def bN(x y:ab):η ab:=bif x.pi then Qa y else x.sK.Η λa=>bif y.pi then Qa x else y.sK.ς λb=>.φ (if b<a then b else a)
def bB(x y:ab):η ab:=bif x.pi then Qa .Δ else x.sK.Η λa=>bif y.pi then Qa .Δ else y.sK.ς λb=>.φ (a+b)
def zp(a b c d:θ):ab:=aH (a*d+c*b) (b*d)
def wx(a b c d:θ):ab:=aH (a*c) (b*d)
def ya(a b c d:θ):ab:=if a*d<c*b then .ay [.φ c,.φ d] else .ay [.φ a,.φ b]
def F4{α:Type}(a b c d e:α)(i:θ):α:=bif i==0 then a else bif i==1 then b else bif i==2 then c else bif i==3 then d else e
def bM(i:θ):ab->ab->η ab:=F4 (bR λa b=>if b>a then b else a) bN (bR (· + ·)) (ni zp) (ni ya) i
def bA(i:θ):ab->ab->η ab:=F4 (bR λa b=>if b<a then b else a) bB (bQ (· * ·)) (ni wx) (ni wx) i
def oY{C:θ->Prop}(i:θ)(hi:i<5)(c0:C 0)(c1:C 1)(c2:C 2)(c3:C 3)(c4:C 4):C i:=by
 rcases i with _|_|_|_|_|i
 ·exact c0
 ·exact c1
 ·exact c2
 ·exact c3
 ·exact c4
 ·exact υ hi (Zv (Jz 5 i))
def zjs(ha:a<wB)(hb:b<wB):HB (.ofNat a) (.ofNat b)=true:=by
 delta HB;rw[ZY];exact⟨Zl.Ϩ (Jm ha B1),Zl.Ϩ (Jm hb B1)⟩
theorem HC(ha:a<wB)(hb:b<wB):a*b<jh:=Jw (θ.mul_lt_mul'' ha hb) (JL BZ.1)
theorem W7(ha:a<wB)(hb:b<wB)(h:MH):oZ .lv (.φ a) (.φ b) h=Qa (.φ (a*b:θ),h):=W.eq (zaR (zjs ha hb) (cg _ _))
def kN{f:θ}{as:ζ ab}{z:ab}(hd:K+1<=d)(e:∀d',mD P0 200000 (d'+K+1) f as h=Qa (z,h))(q:Q z h):WF P0 d f as h Q:=by
 refine(Kt hd).ι λd' zq21=>?_;refine eqB zq21 ?_;exact W.of (e d') q
def O8{x y z:ab}(r:ab)(hd:3<=d)(e:ni zp x y=Qa z)(q:Q z h):WF P0 d 158 [r,x,y] h Q:=by
 refine xEA (bs e) λfJ ea e=>?_;obtain⟨a,b⟩:=fJ;obtain⟨⟨c,e'⟩,eb,rfl⟩:=ms e;obtain⟨rfl,a1,a2,a3⟩:=fr?_s ea;obtain⟨rfl,b1,b2,b3⟩:=fr?_s eb;exact j7 (K:=2) hd (Qa r::Qa (.ay [.φ a,.φ b])::Qa (.ay [.φ c,.φ e'])::nn 6) tK rfl λd' h'=>jT (.c2<|.q (W7 a1 b2)<|.c2<|.q (W7 b1 a2)<|.c3<|.q (W7 a2 b2)<|.q (eF (n:=a*e'+c*b) (m:=b*e') h' (Jw (θ.add_lt_add (HC a1 b2) (HC b1 a2)) BZ.2) (Xe a3 b3) (HC a2 b2))<|.z (q)) rfl
def AX{x y z:ab}(r:ab)(hd:3<=d)(e:ni wx x y=Qa z)(q:Q z h):WF P0 d 159 [r,x,y] h Q:=by
 refine xEA (bs e) λzg12 ea e=>?_;obtain⟨a,b⟩:=zg12;obtain⟨⟨c,e'⟩,eb,rfl⟩:=ms e;obtain⟨rfl,a1,a2,a3⟩:=fr?_s ea;obtain⟨rfl,b1,b2,b3⟩:=fr?_s eb;exact j7 (K:=2) hd (Qa r::Qa (.ay [.φ a,.φ b])::Qa (.ay [.φ c,.φ e'])::nn 6) rO rfl λd' h'=>jT (.c2<|.q (W7 a1 b1)<|.c2<|.q (W7 a2 b2)<|.q (eF (n:=a*c) (m:=b*e') h' (Jw (Jw (HC a1 b1) (Jq _ _)) BZ.2) (Xe a3 b3) (HC a2 b2))<|.z (q)) rfl
def zbv{x y z:ab}{s:ab}(hd:1<=d)(e:bN x y=Qa z)(q:Q z h):WF P0 d 148 [s,x,y] h Q:=by
 delta bN at e;refine rY x.pi (λhx=>?_) λhx=>?_
 ·rw[hx] at e;refine soB e ?_;cases nv hx
  exact kN (K:=0) hd (λ_=>rfl) q
 ·rw[hx] at e
  refine xEA (bs e) λa ea e=>?_;cases iv ea;refine rY y.pi (λhy=>?_) λhy=>?_
  ·rw[hy] at e;obtain rfl:=Qa.dL e;cases nv hy
   exact kN (K:=0) hd (λ_=>rfl) q
  ·rw[hy] at e
   obtain⟨b,eb,rfl⟩:=ms e;cases iv eb;exact kN (K:=0) hd (λ_=>rfl) q
def za1{x y z:ab}{s:ab}(hd:1<=d)(e:bB x y=Qa z)(q:Q z h):WF P0 d 149 [s,x,y] h Q:=by
 delta bB at e;refine rY x.pi (λhx=>?_) λhx=>?_
 ·rw[hx] at e;obtain rfl:=Qa.dL e;cases nv hx
  exact kN (K:=0) hd (λ_=>rfl) q
 ·rw[hx] at e
  refine xEA (bs e) λa ea e=>?_;cases iv ea;refine rY y.pi (λhy=>?_) λhy=>?_
  ·rw[hy] at e;obtain rfl:=Qa.dL e;cases nv hy
   exact kN (K:=0) hd (λ_=>rfl) q
  ·rw[hy] at e
   refine xEA (ms e) λb eb cw=>?_;subst cw;cases iv eb;exact kN (K:=0) hd (λ_=>rfl) q
def zbu{x y z:ab}{s:ab}(hd:1<=d)(e:ni ya x y=Qa z)(q:Q z h):WF P0 d 162 [s,x,y] h Q:=by
 refine xEA (bs e) λzg18 ea e=>?_;obtain⟨a,b⟩:=zg18;obtain⟨⟨c,e'⟩,eb,rfl⟩:=ms e;obtain⟨rfl,a1,a2,a3⟩:=fr?_s ea;obtain⟨rfl,b1,b2,b3⟩:=fr?_s eb;have q:Q (if a*e'<c*b then .ay [.φ c,.φ e'] else .ay [.φ a,.φ b]) h:=q;refine j7 (K:=0) hd (Qa s::Qa (.ay [.φ a,.φ b])::Qa (.ay [.φ c,.φ e'])::nn 6) tH rfl λd' h'=>?_;by_cases hr:a*e'<c*b
 ·rw[ρ hr] at q
  exact jT (.c2<|.q (W7 a1 b2)<|.c2<|.q (W7 b1 a2)<|.c<|.t (Ζ (ZF.Ϩ hr))<|.z (q)) rfl
 ·rw[π hr] at q
  exact jT (.c2<|.q (W7 a1 b2)<|.c2<|.q (W7 b1 a2)<|.c<|.f (Γ (λh=>hr (ZF.mp h)))<|.z (q)) rfl
def zel{x y z:ab}(hi:i<5)(hd:3<=d)(e:bM i x y=Qa z)(q:Q z h):WM (ah P0 d) (.ai (112+i)) Hv [x,y] h0 h Q:=by
 revert e
 refine oY (C:=λi=>bM i x y=Qa z->WM (ah P0 d) (.ai (112+i)) Hv [x,y] h0 h Q) i hi (λe=>?_) (λe=>?_) (λe=>?_) (λe=>?_) (λe=>?_)
 ·obtain⟨a,ea,e⟩:=bs (e)
  obtain⟨b,eb,rfl⟩:=ms e;cases iv ea;cases iv eb;exact jX (f:=143) (self:=[.ai 112]) rfl (kN (K:=0) (Jm (Jz _ _) hd) (λ_=>rfl) q)
 ·exact jX (f:=148) (self:=[.ai 113]) rfl (zbv (Jm (Jz _ _) hd) e q)
 ·obtain⟨a,ea,e⟩:=bs (e)
  obtain⟨b,eb,rfl⟩:=ms e;cases iv ea;cases iv eb;exact jX (f:=153) (self:=[.ai 114]) rfl (kN (K:=0) (Jm (Jz _ _) hd) (λ_=>rfl) q)
 ·exact jX (f:=158) (self:=[.ai 115]) rfl (O8 _ hd e q)
 ·exact jX (f:=162) (self:=[.ai 116]) rfl (zbu (Jm (Jz _ _) hd) e q)
def zdS{x y z:ab}(hi:i<5)(hd:3<=d)(e:bA i x y=Qa z)(q:Q z h):WM (ah P0 d) (.ai (112+i)) WR [x,y] h0 h Q:=by
 revert e
 refine oY (C:=λi=>bA i x y=Qa z->WM (ah P0 d) (.ai (112+i)) WR [x,y] h0 h Q) i hi (λe=>?_) (λe=>?_) (λe=>?_) (λe=>?_) (λe=>?_)
 ·obtain⟨a,ea,e⟩:=bs (e)
  obtain⟨b,eb,rfl⟩:=ms e;cases iv ea;cases iv eb;exact jX (f:=144) (self:=[.ai 112]) rfl (kN (K:=0) (Jm (Jz _ _) hd) (λ_=>rfl) q)
 ·exact jX (f:=149) (self:=[.ai 113]) rfl (za1 (Jm (Jz _ _) hd) e q)
 ·obtain⟨a,ea,e⟩:=bs (e)
  obtain⟨b,eb,rfl⟩:=ms e;obtain⟨rfl,h1⟩:=nat?_s ea;obtain⟨rfl,h2⟩:=nat?_s eb;exact jX (f:=154) (self:=[.ai 114]) rfl (j7 (K:=0) (Jm (Jz _ _) hd) (Qa (.ai 114)::Qa (.φ a)::Qa (.φ b)::nn 6) tJ rfl λd' _=>jT (.q (W7 h1 h2)<|.z (q)) rfl)
 ·exact jX (f:=159) (self:=[.ai 115]) rfl (AX _ hd e q)
 ·exact jX (f:=159) (self:=[.ai 116]) rfl (AX _ hd e q)
def bT(i:θ):ab:=F4 (.φ 0) .Δ (.φ 0) (.ay [.φ 0,.φ 1]) (.ay [.φ 0,.φ 1]) i
def bP(i:θ):ab:=F4 (.φ 1) (.φ 0) (.φ 1) (.ay [.φ 1,.φ 1]) (.ay [.φ 1,.φ 1]) i
theorem zeJ(hi:i<5)(q:Q (bT i) h):WA P0 (.ai (112+i)) wU h Q:=
 DG (oY (C:=λi=>((P0.ck (112+i)).Η λc=>u6 P0 c wU)=Qa (bT i)) i hi rfl rfl rfl rfl rfl) q
theorem zeB(hi:i<5)(q:Q (bP i) h):WA P0 (.ai (112+i)) FH h Q:=
 DG (oY (C:=λi=>((P0.ck (112+i)).Η λc=>u6 P0 c FH)=Qa (bP i)) i hi rfl rfl rfl rfl rfl) q
end
def mU{t:MH}:(h++t)[h.ε+j]?=t[j]?:=by rw[Z0 (Jq _ _),YP]
def Hi{t:MH}:(h++t).ϩ (h.ε+j) o=h++t.ϩ j o:=by rw[Yn _ _ (Jq _ _),YP]
structure Rg where
 i:θ
 hi:i<5
 α:Type
 gi:TC α
 e:α->ab
 zero:α
 da:α
 add:α->α->α
 mul:α->α->α
 D:θ->θ->α->Prop
 sn:∀a b,add a b=add b a
 Ϧ:∀a b c,add (add a b) c=add a (add b c)
 Ϛ:∀a,add zero a=a
 IN:∀a b,mul a b=mul b a
 w9:∀a b c,mul (mul a b) c=mul a (mul b c)
 one_mul:∀a,mul da a=a
 v4:∀a,mul zero a=zero
 No:∀a b c,mul a (add b c)=add (mul a b) (mul a c)
 qc:bT i=e zero
 ro:bP i=e da
 vw:∀a,qx (e a) (.ai 120)=Qa Qb
 fh:∀h a b,kr h (e a) (e b)=Qa (decide (a=b))
 ag:∀{p q k l a},p<=q->k<=l->D p k a->D q l a
 bx:D 0 0 zero
 gr:D 0 0 da
 fz:∀{p k a b},D p k a->D p k b->D p (k+1) (add a b)
 dp:∀{p q k l a b},D p k a->D q l b->D (p+q) (k+l) (mul a b)
 gk:∀{p k a b},D p k a->D p k b->4*p+k<=3800->bM i (e a) (e b)=Qa (e (add a b))
 fv:∀{p q k l a b},D p k a->D q l b->4*(p+q)+(k+l)<=3800->bA i (e a) (e b)=Qa (e (mul a b))
 gm:∀{p k a d h0 h}{Q:ab->MH->Prop},3<=d->D p k a->4*p+k<=3800->Q (e a) h->WM (ah P0 d) (.ai (112+i)) IF [e a] h0 h Q
 gj:∀{d h0 h}{Q:ab->MH->Prop},3<=d->Q (e da) h->WM (ah P0 d) (.ai (112+i)) SU [e zero] h0 h Q
section
variable{d:Nat}{h h0:MH}{Q:ab->MH->Prop}(R:Rg)
theorem Rg.ve{a b:R.α}(hd:3<=d)(ha:R.D p k a)(hb:R.D p k b)(hl:4*p+k<=3800)(q:Q (R.e (R.Ϯ a b)) h):WM (ah P0 d) (.ai (112+R.i)) Hv [R.e a,R.e b] h0 h Q:=zel R.hi hd (R.gk ha hb hl) q
theorem Rg.xq{l:θ}{a b:R.α}(hd:3<=d)(ha:R.D p k a)(hb:R.D p' l b)(hl:4*(p+p')+(k+l)<=3800)(q:Q (R.e (R.lv a b)) h):WM (ah P0 d) (.ai (112+R.i)) WR [R.e a,R.e b] h0 h Q:=zdS R.hi hd (R.fv ha hb hl) q
theorem Rg.vf(q:Q (R.e R.Ι) h):WA P0 (.ai (112+R.i)) wU h Q:=zeJ R.hi (R.qc▸q)
theorem Rg.yb(q:Q (R.e R.da) h):WA P0 (.ai (112+R.i)) FH h Q:=zeB R.hi (R.ro▸q)
theorem Rg.eq{a b:R.α}(q:Q (.ϝ (@decide (a=b) (R.gi a b))) h):WC .eq (R.e a) (R.e b) h Q:=BY (R.fh h a b) q
theorem Rg.ne{a b:R.α}(q:Q (.ϝ (!@decide (a=b) (R.gi a b))) h):WC .ne (R.e a) (R.e b) h Q:=LJ (R.fh h a b) q
end
variable{R:Rg}
theorem Rg.pl{a b:R.α}(hd:3<=d)(ha:R.D p k a)(hb:R.D p k b)(hl:4*p+k<=3800)(h:MH):j1 (ah P0 d) (.ai (112+R.i)) Hv [R.e a,R.e b] h h=Qa (R.e (R.Ϯ a b),h):=W.eq (R.ve hd ha hb hl ⟨rfl,rfl⟩)
theorem Rg.ti{l:θ}{a b:R.α}(hd:3<=d)(ha:R.D p k a)(hb:R.D p' l b)(hl:4*(p+p')+(k+l)<=3800)(h:MH):j1 (ah P0 d) (.ai (112+R.i)) WR [R.e a,R.e b] h h=Qa (R.e (R.lv a b),h):=W.eq (R.xq hd ha hb hl ⟨rfl,rfl⟩)
theorem Rg.nd{a:R.α}(hd:3<=d)(ha:R.D p k a)(hl:4*p+k<=3800)(h:MH):j1 (ah P0 d) (.ai (112+R.i)) IF [R.e a] h h=Qa (R.e a,h):=W.eq (R.gm hd ha hl ⟨rfl,rfl⟩)
theorem Rg.on(R:Rg)(h:MH):getAttr P0 h (.ai (112+R.i)) FH=Qa (R.e R.da):=Wo.eq (R.yb (Q:=λa _=>a=_) rfl)
theorem Rg.no(R:Rg)(h:MH):getAttr P0 h (.ai (112+R.i)) wU=Qa (R.e R.Ι):=Wo.eq (R.vf (Q:=λa _=>a=_) rfl)
theorem Rg.qe(a b:R.α)(h:MH):kr h (R.e a) (R.e b)=Qa (@decide (a=b) (R.gi a b)):=R.fh h a b
theorem Rg.yes{a b:R.α}(h:a=b): @decide (a=b) (R.gi a b)=true:= @Ζ _ (R.gi a b) h
theorem Rg.not{a b:R.α}(h:¬a=b): @decide (a=b) (R.gi a b)=false:= @Γ _ (R.gi a b) h
theorem dT{p:Prop}{i:At p}(h: @decide p i=Qe):p:= @Ο p i h
theorem dF{p:Prop}{i:At p}(h: @decide p i=Qb):¬p:= @Tw p i h
theorem HH(hk:k<=3800)(hn:n<=2 ^ k):n<wB:=Jt hn (qav (by decide) (Jw (JV hk) (Jz _ _)))
def nat?_of{n:θ}(hn:n<wB):nat? (.φ n)=Qa n:=by
 show aw _ _=_;rw[Mz (by rw[ZY];exact⟨Ζ (KW _),Zl.Ϩ hn⟩),KI]
def uq:θ:=10 ^ 4000
def B0:wB<=uq:=by decide+kernel
theorem wY(hn:n<wB):decide ((10 ^ 4000:Τ)<=n)=false:=Γ λhg=>υ (Yt.mp (show ((uq:θ):Τ)<=(n:Τ) from hg)) (Xt.Ϩ (Jw hn B0))
def M4{s:ab}(hd:1<=d)(hn:n<wB)(q:Q (.φ n) h):WF P0 d 152 [s,.φ n] h Q:=by
 exact j7 (K:=0) hd (Qa s::Qa (.φ n)::nn 6) u5 rfl λd' h'=>jT (.c4<|.c2<|.f (wY hn)<|.z (q)) rfl
def AJ:Rg where
 i:=2
 hi:=by decide
 α:=θ
 gi:=ch
 e:=λn=>.φ n
 zero:=0
 da:=1
 add:=(· + ·)
 mul:=(· * ·)
 D:=λp k n=>n<=2 ^ k
 sn:=Kf
 Ϧ:=J6
 Ϛ:=ZK
 IN:=Xp
 w9:=qaJ
 one_mul:=ZS
 v4:=θ.v4
 No:=qa4
 qc:=rfl
 ro:=rfl
 vw:=λ_=>rfl
 fh:=λh a b=>qM.ν (χ Qa (by
  by_cases hab:a=b
  ·subst hab;simp
  ·rw[Γ hab,Ϟ];exact λe=>hab (Yz.dL e)))
 ag:=λ_ hk ha=>Jm ha (qaw (by decide) hk)
 bx:=by decide
 gr:=by decide
 fz:=λha hb=>by exact Jm (JH ha hb) (JC (θ.mul_two _).Μ)
 dp:=λha hb=>by rw[XU];exact qbf ha hb
 gk:=λ_ _ _=>rfl
 fv:=λ{p q k l a b} ha hb hl=>by
  show bQ (· * ·) (.φ a) (.φ b)=_;unfold bQ;rw[nat?_of (HH (k:=k) (Jm (Jq _ _) (Jm (Jz _ _) hl)) ha),nat?_of (HH (k:=l) (Jm (Jz _ _) (Jm (Jz _ _) hl)) hb)];rfl
 gm:=λ{p k a d h0 h Q} hd ha hl q=>jX (f:=152) (self:=[.ai 114]) rfl (M4 (Jm (Jz _ _) hd) (HH (k:=k) (Jm (Jz _ _) hl) ha) q)
 gj:=λ{d h0 h Q} hd q=>jX (f:=155) (self:=[.ai 114]) rfl (kN (K:=0) (Jm (Jz _ _) hd) (λ_=>rfl) q)
section
variable{h0:MH}
def pa:ζ θ:=[32,9,10,58,47,95,91,93,62,35,59,63,61]
def zI(c:θ):Ε:=!pa.v6 c && !qaU ⟨#[c]⟩
def zcq(hd:1<=d)(hc:zI c=Qe)(q:Q (.ϝ Qe) h):WF P0 d 101 [.Υ [c]] h Q:=by
 exact j7 (K:=0) hd (Qa (.Υ [c])::nn 6) oD rfl λd' h'=>jT (.c4<|.c3<|.t ((Jn.mp hc).1)<|.c2<|.z ((show Q (.ϝ (!qaU ⟨#[c]⟩)) h by rw[(Jn.mp hc).2];exact q))) rfl
def Em(hd:2<=d)(hc:zI c=Qe)(q:Q (.Υ [c]) h):WF P0 d 103 [.Υ [c]] h Q:=by
 exact j7 (K:=1) hd (Qa (.Υ [c])::nn 6) m4 rfl λd' h'=>jT (.p (fn (as:=[.Υ [c]]) rfl (zcq h' hc (cg (.ϝ Qe) h)))<|.c2<|.z (q)) rfl
def iL{c:Cx}{e:Ex}{b:ζ Sm}{s:ζ θ}(F:η ab->Ρ.Θ)(hs:s.ε<c.cv)(he:WE c (F Qc) e h λv g=>v=.Υ s/\g=h)
  (step:∀a R o,a∈s->R .nx (F (Qa (.Υ [a]))) h->bz c b ((F o).ϩ x (Qa (.Υ [a]))) h R):∃o,exec c (.fo [x] Qb e b) (F Qc) h=Qa ((.nx,F o),h):=by
 have w:WS c (.fo [x] Qb e b) (F Qc) h λfl f g=>∃o,fl=.nx/\f=F o/\g=h:=Gu (he.Ν λv g q=>by
  refine eqB q.1 ?_;obtain rfl:=q.2;refine⟨.sq s,s.ς λc=>.Υ [c],rfl,by rw[Js];exact hs,λ_ f g'=>g'=g/\∃o,f=F o,⟨rfl,Qc,rfl⟩,λi _ _ _=>by rw[JA];rfl,λi v hv f g' q=>?_,λf g' q=>q.2.ι λo e=>⟨o,rfl,e,q.1⟩⟩;obtain⟨rfl,o,rfl⟩:=q;rw[JA] at hv;obtain⟨a,ha,rfl⟩:=ms hv;exact kP (step a _ o (Jr ha) ⟨rfl,_,rfl⟩))
 refine xEEA (W.xL w) λzg20 g e zg21=>?_;refine xEAA zg21 λo q1 q2 q3=>?_;obtain⟨fl,f⟩:=zg20;refine eqE q1 ?_;subst q2;cases q3;exact⟨o,e⟩
def Io{s:ζ θ}(hd:3<=d)(hs:∀c∈s,zI c=Qe)(hl:s.ε<1000)(q:Q (.Υ s) h):WF P0 d 134 [.Υ s] h Q:=by
 refine j7 (K:=2) hd (Qa (.Υ s)::nn 7) oC rfl λd' h'=>?_;obtain⟨o,e⟩:=iL (h:=h) (c:=ah P0 d') (x:=1) (e:=.Λ 0) (b:=[.expr (.ϧ (.f8 (.ai 103)) [.Λ 1])]) (λo=>Qa (.Υ s)::o::nn 6) (Zp hl (by show 1000<200000;decide)) (by exact j2 (.z (cg (.Υ s) h)) rfl) λa R o ha q=>by
  exact jT (.p (fn (as:=[.Υ [a]]) rfl (Em h' (hs a ha) (cg (.Υ [a]) h)))<|.z (q)) rfl
 exact jT (.c3<|.s (e)<|.z (q)) rfl
end
section
variable{h0:MH}
def dh(s:ζ θ):Prop:=s=[]\/∃c,s=[c]/\zI c=Qe
def En{s:ζ θ}(hd:3<=d)(hs:dh s)(q:Q (.Υ s) h):WF P0 d 119 [.Υ s] h Q:=by
 refine j7 (K:=2) hd (Qa (.Υ s)::nn 6) nV rfl λd' h'=>?_;rcases hs with rfl| ⟨c,rfl,hc⟩
 ·exact jT (.c2<|.z (q)) rfl
 ·exact jT (.c2<|.p (fn (as:=[.Υ [c]]) rfl (Em h' hc (cg (.Υ [c]) h)))<|.z (q)) rfl
def GR{a b c:Τ}{x:ab}(hd:1<=d)(h1:b<=a)(h2:a<=c)(q:Q (.φ a) h):WF P0 d 117 [.φ a,.φ b,.φ c,x] h Q:=by
 exact j7 (K:=0) hd (Qa (.φ a)::Qa (.φ b)::Qa (.φ c)::Qa x::nn 6) nW rfl λd' h'=>jT (.c4<|.f (Γ (YI.Ϩ h1))<|.c<|.f (Γ (YI.Ϩ h2))<|.z (q)) rfl
def zbQ{s:ζ θ}(hd:4<=d)(hs:∀c∈s,zI c=Qe)(hl:s.ε<=200)(q:Q .Δ h):WF P0 d 130 [.Υ s] h Q:=by
 exact j7 (K:=3) hd (Qa (.Υ s)::nn 6) o7 rfl λd' h'=>jT (.p (fn (as:=[.Υ s]) rfl (Io h' hs (Jw (JV hl) (Jz _ _)) (cg (.Υ s) h)))<|.c2<|.f (Γ (p:=(200:Τ)<s.ε) (by lia))<|.z (q)) rfl
end
abbrev m9:θ:=1919512167
abbrev jY:θ:=1634886515
abbrev lO:θ:=1701733491
abbrev qW:θ:=495873782388
abbrev uA:θ:=439855772532
abbrev xC:θ:=104880676367988
abbrev mS:θ:=504397587826
abbrev oG:θ:=465726563698
abbrev xB:θ:=131277443786868
abbrev qA:θ:=127961880028532
def zfh{a b:ζ ab}(e:Qa (ae.ξ a)=Qa (.ξ b)):a=b:=by cases e;rfl
def zhe:∀{as bs:ζ θ},as.ς ab.ο=bs.ς ab.ο->as=bs:=by
 intro as
 induction as with
 |ϟ=>intro bs e;cases bs with|ϟ=>rfl|Κ _ _=>cases e
 |Κ a as ih=>
  intro bs e;cases bs with
  |ϟ=>cases e
  |Κ b bs=>injection e with e1 e2;injection e1 with e1;rw[e1,ih e2]
theorem Pi{bs:ζ θ}(e:Qa (ae.ξ (as.ς .ο))=Qa (.ξ (bs.ς .ο))):as=bs:=zhe (zfh e)
abbrev Ar(α:Type):=ζ θ×ζ θ×α×θ
section
variable{α:Type}(ψ:Ar α)
abbrev Ar.up:=ψ.1
abbrev Ar.lo:=ψ.2.1
abbrev Ar.w:=ψ.2.2.1
abbrev Ar.t:=ψ.2.2.2
end
structure Mc(α:Type) where
 aa:ζ (ζ (Ar α))
 aj:ζ α
 start:θ
 first:α
 ax:θ
structure Ly where
 m:θ
 aA:θ
 aE:θ
 au:ζ θ
section
variable(R:Rg)
def lP(a:Ar R.α):ae:=.Td 118 [(mS,.Υ a.up),(oG,.Υ a.lo),(xB,R.e a.w),(qA,.φ a.t)]
def mO(L:Ly)(M:Mc R.α):ae:=.Td 121 [(m9,.ai (112+R.i)),(jY,.ο L.aA),(lO,.ο L.aE),(qW,.φ M.Ϥ),(uA,R.e M.jp),(xC,.φ M.ax)]
def qJ(h:MH)(r:θ)(xs:ζ (Ar R.α)):Prop:=∃as:ζ θ,h[r]?=Qa (.ξ (as.ς .ο))/\as.ε=xs.ε/\∀(j a:θ)(x:Ar R.α),as[j]?=Qa a->xs[j]?=Qa x->h[a]?=Qa (lP R x)
def ph(h:MH)(au:ζ θ)(m:θ):Prop:=∃ads:ζ (ζ θ),ads.ld.ϥ/\(∀a∈ads.ld,m<a)/\au.ς (λr=>h[r]?)=ads.ς λas=>Qa (.ξ (as.ς .ο))
end
def ao(R:Rg)(h:MH)(L:Ly)(M:Mc R.α):Prop:=h[L.m]?=Qa (mO R L M)/\h[L.aA]?=Qa (.ξ (L.au.ς .ο))/\h[L.aE]?=Qa (.ξ (M.aj.ς R.e))/\L.au.ε=M.aa.ε/\M.aj.ε=M.aa.ε/\(∀(k r:θ)(xs:ζ (Ar R.α)),L.au[k]?=Qa r->M.aa[k]?=Qa xs->qJ R h r xs)/\(L.aA::L.aE::L.au).ϥ/\M.aa.ε<=10000/\(M.aa.ς ZP).sum=M.ax/\M.ax<=100000/\ph h L.au L.m
section
variable{R:Rg}{h:MH}{L:Ly}{M:Mc R.α}(ψ:ao R h L M)
def ao.fb:=@ψ.1
def ao.aa:=@ψ.2.1
def ao.aj:=@ψ.2.2.1
def ao.am:=@ψ.2.2.2.1
def ao.du:=@ψ.2.2.2.2.1
def ao.au:=@ψ.2.2.2.2.2.1
def ao.nd:=@ψ.2.2.2.2.2.2.1
def ao.bc:=@ψ.2.2.2.2.2.2.2.1
def ao.ct:=@ψ.2.2.2.2.2.2.2.2.1
def ao.cl:=@ψ.2.2.2.2.2.2.2.2.2.1
def ao.ds:=@ψ.2.2.2.2.2.2.2.2.2.2
end
def ph.to(D:ph h au m)(e:∀r∈au,∀vs,h[r]?=Qa (.ξ vs)->h'[r]?=Qa (.ξ vs)):ph h' au m:=by
 refine Zt D λads zq3=>?_;refine⟨ads,zq3.1,zq3.2.1,(ZV λr hr=>?_).ν zq3.2.2⟩;have hm:h[r]?∈au.ς λr=>h[r]?:=JM.Ϩ ⟨r,hr,rfl⟩;rw[zq3.2.2] at hm;refine(JM.mp hm).ι λas zq2=>?_;rw[<-zq2.2];exact e r hr _ zq2.2.Μ
def GY{l:ζ (ζ α)}{xs:ζ α}(h:xs∈l):xs.ε<=(l.ς ZP).sum:=by
 induction l with
 |ϟ=>exact υ h JE
 |Κ y l ih=>
  simp only[JY,YG];rcases JO.mp h with rfl|h
  ·exact Jq _ _
  ·have:=ih h;exact Yj this
def Es{l:ζ (ζ α)}{a:α}(hs:s<l.ε):((l.ϩ s (l[s]++[a])).ς ZP).sum=(l.ς ZP).sum+1:=by
 induction l generalizing s with
 |ϟ=>exact υ hs (Zb _)
 |Κ y l ih=>
  cases s with
  |zero=>simp;exact ZG _ _ _
  |succ s=>
   have:=ih (s:=s) (Ky hs)
   simp only[ζ.set_cons_succ,ζ.getElem_cons_succ,JY,YG,this];exact XE (J6 _ _ _)
variable{L:Ly}{M:Mc R.α}
theorem ao.cr(I:ao R h L M):∀xs∈M.aa,xs.ε<=M.ax:=λxs hx=>I.ct▸GY hx
def lR(h h':MH)(S:ζ θ):Prop:=h.ε<=h'.ε/\∀(a:θ)(o:ae),a∉S->h[a]?=Qa o->h'[a]?=Qa o
section
variable{h h':MH}{S:List Nat}(ψ:lR h h' S)
def lR.am:=@ψ.1
def lR.Hd:=@ψ.2
end
def ff(L:Ly):ζ θ:=L.m::L.aA::L.aE::L.au
theorem lR.TD{S:ζ θ}:lR h h S:=⟨Jv _,λ_ _ _ e=>e⟩
theorem lR.ν{S:ζ θ}(x:lR h h' S)(y:lR h' h'' S):lR h h'' S:=⟨Jm x.am y.am,λa o hs e=>y.Hd a o hs (x.Hd a o hs e)⟩
theorem lR.wr{S T:ζ θ}(x:lR h h' S)(hs:∀a∈S,a∈T):lR h h' T:=⟨x.am,λa o ht e=>x.Hd a o (λq=>ht (hs a q)) e⟩
theorem lR.cu{t:MH}{S:ζ θ}:lR h (h++t) S:=⟨by rw[Ju];exact Jq _ _,λ_ _ _ e=>jA e⟩
theorem lR.ϩ:lR h (h.ϩ a o) [a]:=⟨by rw[J0];exact Jv _,λb x hb e=>jP (λq=>hb (q▸ .mo _)) e⟩
section
variable{h0:MH}
def qJ.Ν{r:θ}{xs:ζ (Ar R.α)}(x:qJ R h r xs)(hk:∀(a:θ)(o:ae),h[a]?=Qa o->(∃x,o=lP R x)\/a=r->h'[a]?=Qa o):qJ R h' r xs:=by
 exact Zt x λas zq1=>⟨as,hk _ _ zq1.1 (.u8 rfl),zq1.2.1,λj a x ha hx=>hk _ _ (zq1.2.2 j a x ha hx) (.nb ⟨x,rfl⟩)⟩
theorem ao.cu{t:MH}(I:ao R h L M):ao R (h++t) L M:=
 ⟨jA I.fb,jA I.aa,jA I.aj,I.am,I.du,λk r xs hr hx=>(I.au k r xs hr hx).Ν λa o e _=>jA e,I.nd,I.bc,I.ct,I.cl,I.ds.to λ_ _ _ e=>jA e⟩
def ao.oe{S:ζ θ}(I:ao R h L M)(K:lR h h' S)(hs:∀a∈S,h.ε<=a):ao R h' L M:=by
 have g:∀(a:θ)(o:ae),h[a]?=Qa o->h'[a]?=Qa o:=λa o e=>K.Hd a o (λq=>υ (jS e) (Zs.Ϩ (hs a q))) e;exact⟨g _ _ I.fb,g _ _ I.aa,g _ _ I.aj,I.am,I.du,λk r xs hr hx=>(I.au k r xs hr hx).Ν λa o e _=>g a o e,I.nd,I.bc,I.ct,I.cl,I.ds.to λ_ _ _ e=>g _ _ e⟩
theorem lU(I:ao R h L M):getAttr P0 h (.ο L.m) m9=Qa (.ai (112+R.i)):=ga I.fb rfl rfl
theorem xF(I:ao R h L M):getAttr P0 h (.ο L.m) lO=Qa (.ο L.aE):=ga I.fb rfl rfl
theorem mW(I:ao R h L M):getAttr P0 h (.ο L.m) jY=Qa (.ο L.aA):=ga I.fb rfl rfl
theorem vK(I:ao R h L M):getAttr P0 h (.ο L.m) qW=Qa (.φ M.Ϥ):=ga I.fb rfl rfl
theorem W8(I:ao R h L M):getAttr P0 h (.ο L.m) uA=Qa (R.e M.jp):=ga I.fb rfl rfl
theorem F0(I:ao R h L M)(d:θ):jJ (ah P0 d) (.bi 7103854) [.ο L.aA] h=Qa (.φ M.aa.ε,h):=W.eq (AM I.aa (by rw[Js,I.am];exact cg _ _))
def OO(hd:1<=d)(I:ao R h L M)(q:Q (.φ M.aa.ε) h):WF P0 d 174 [.ο L.m] h Q:=by
 exact j7 (K:=0) hd (Qa (.ο L.m)::nn 6) rL rfl λd' h'=>jT (.v (mW I)<|.p (F0 I d')<|.z (q)) rfl
def zbP(hd:2<=d)(I:ao R h L M)(hk:k<M.aa.ε)(q:Q (.φ k) h):WF P0 d 170 [.ο L.m,.φ k] h Q:=by
 exact j7 (K:=1) hd (Qa (.ο L.m)::Qa (.φ k)::nn 6) m5 rfl λd' h'=>jT (.v (mW I)<|.p (F0 I d')<|.c<|.p (fn (as:=[.φ k,.φ 0,.φ ((M.aa.ε:Τ) -1),.Υ [115,116,97,116,101]]) rfl (GR h' (KW _) (by lia) (cg (.φ k) h)))<|.z (q)) rfl
theorem zjD{f:θ}(I:ao R h L M)(hn:vS [(m9,.ai (112+R.i)),(jY,.ο L.aA),(lO,.ο L.aE),(qW,.φ M.Ϥ),(uA,R.e M.jp),(xC,.φ M.ax)] n=Qc)(hm:y4 P0 121 n=Qa f):mV P0 h (.ο L.m) n=Qa (f,[.ο L.m]):=kY I.fb hn hm
end
section
variable{h0:MH}
theorem cq{p:ae}(e1:h[a]?=Qa o)(e2:h[b]?=Qa p)(hn:o≠p):a≠b:=λq=>hn (by subst q;exact Qa.dL (e1.Μ.ν e2))
theorem ao.mA(I:ao R h L M):L.m≠L.aA:=cq I.fb I.aa nofun
theorem ao.mE(I:ao R h L M):L.m≠L.aE:=cq I.fb I.aj nofun
theorem ao.AE(I:ao R h L M):L.aA≠L.aE:=λq=>(JK.mp I.nd).1 (q▸ .mo _)
theorem ao.wq(I:ao R h L M):L.aA∉L.au:=λq=>(JK.mp I.nd).1 (.lw _ q)
theorem ao.rm(I:ao R h L M):L.aE∉L.au:=(JK.mp (JK.mp I.nd).2).1
theorem ao.nr(I:ao R h L M):L.au.ϥ:=(JK.mp (JK.mp I.nd).2).2
def ao.LT(I:ao R h L M)(hk:k<M.aa.ε):∃r,L.au[k]?=Qa r/\qJ R h r M.aa[k]:=by
 exact⟨_,Jo (by rw[I.am];exact hk:k<L.au.ε),I.au k _ _ (Jo (by rw[I.am];exact hk:k<L.au.ε)) (Jo hk)⟩
def ao.sf(I:ao R h L M){r:θ}(hr:r∈L.au):r<h.ε:=by
 obtain⟨k,hk,rfl⟩:=Yp.mp hr;refine xEA (I.LT (k:=k) (by rw[<-I.am];exact hk)) λr h1 fK=>?_;refine xEA fK λas h2 _=>?_;rw[Jo hk] at h1;refine soB h1 ?_;exact jS h2
theorem ao.ly(I:ao R h L M):L.m∉L.au:=λq=>by
 obtain⟨k,hk,e⟩:=Yp.mp q;refine xEA (I.LT (k:=k) (by rw[<-I.am];exact hk)) λr h1 zg10=>?_;refine xEA zg10 λas h2 _=>?_;rw[Jo hk,e] at h1;obtain rfl:=Qa.dL h1;exact cq I.fb h2 nofun rfl
def OS(hd:1<=d)(I:ao R h L M)(hn:M.aa.ε+n<=20000)(q:Q .Δ h):WF P0 d 167 [.ο L.m,.φ n] h Q:=by
 exact j7 (K:=0) hd (Qa (.ο L.m)::Qa (.φ n)::nn 6) m7 rfl λd' h'=>jT (.v (mW I)<|.p (F0 I d')<|.c2<|.f (Γ (p:=(20000:Τ)<M.aa.ε+n) (by lia))<|.z (q)) rfl
theorem zc6(z:Cx){us:ζ ab}(v:ab)(h0a:h0[a]?=Qa (.ξ us))(ha:h[a]?=Qa (.ξ vs))(hl:vs.ε<1000000):j1 z (.ο a) fg [v] h0 h=Qa (.Δ,h.ϩ a (.ξ (vs++[v]))):=W.eq (UG h0a ha hl (cg _ _))
theorem zaf(hd:1<=d)(I:ao R h L M)(hn:M.aa.ε+n<=20000):j1 (ah P0 d) (.ο L.m) 450661264077055929053037 [.φ n] h h=Qa (.Δ,h):=me (kY I.fb rfl rfl) (OS hd I hn (cg _ _))
def Ly.TF(L:Ly)(r:θ):Ly:= {L with au:=L.au++[r]}
def Mc.TF(M:Mc R.α):Mc R.α:= {M with aa:=M.aa++[[]],aj:=M.aj++[R.Ι]}
def Ab(h:MH)(L:Ly):MH:=(h++[ae.ξ []]).ϩ L.aA (ae.ξ (L.au.ς ab.ο++[ab.ο h.ε]))
def wV(R:Rg)(h:MH)(L:Ly)(M:Mc R.α):MH:=(Ab h L).ϩ L.aE (ae.ξ (M.aj.ς R.e++[R.e R.Ι]))
section
variable{a:Nat}{o:ae}
theorem tX(e:(h++[ae.ξ []])[a]?=Qa o)(h1:a≠L.aA):(Ab h L)[a]?=Qa o:=jP (Ki h1) e
theorem tW(e:(h++[ae.ξ []])[a]?=Qa o)(h1:a≠L.aA)(h2:a≠L.aE):(wV R h L M)[a]?=Qa o:=jP (Ki h2) (tX e h1)
theorem P5(I:ao R h L M){r:θ}{xs:ζ (Ar R.α)}(hm:r∈L.au)(hr:qJ R h r xs):qJ R (wV R h L M) r xs:=hr.Ν λa o e ho=>tW (jA e) (ho.ι (λ⟨_,q⟩=>cq e I.aa (q▸nofun)) λq p=>I.wq (p▸q▸hm)) (ho.ι (λ⟨_,q⟩=>cq e I.aj (q▸nofun)) λq p=>I.rm (p▸q▸hm))
end
def yL{l:ζ α}{x:α}:(l++[x]).ε=l.ε+1:=by rw[Ju,YV]
def EQ{l:ζ α}{m:ζ β}{x z:α}{y w:β}(hl:l.ε=m.ε)(h1:(l++[x])[k]?=Qa z)(h2:(m++[y])[k]?=Qa w):(l[k]?=Qa z/\m[k]?=Qa w)\/(z=x/\w=y):=by
 by_cases hk:k<l.ε
 ·rw[Z5 hk] at h1
  rw[Z5 (hl▸hk)] at h2;exact .nb ⟨h1,h2⟩
 ·have e:k=l.ε:=KC (J7 (Jw (jI h1) (JC yL))) (Zs.mp hk)
  subst e;rw[Z0 (Jv _),Yy] at h1;rw[hl,Z0 (Jv _),Yy] at h2;exact .u8 ⟨(Qa.dL h1).Μ,(Qa.dL h2).Μ⟩
def IS(I:ao R h L M)(k r:θ)(xs:ζ (Ar R.α))(hr:(L.au++[h.ε])[k]?=Qa r)(hx:(M.aa++[[]])[k]?=Qa xs):qJ R (wV R h L M) r xs:=by
 rcases EQ I.am hr hx with ⟨h1,h2⟩| ⟨rfl,rfl⟩
 ·exact P5 I (Jr h1) (I.au k r xs h1 h2)
 ·exact⟨[],tW ak (Kj (jS I.aa)) (Kj (jS I.aj)),rfl,λj a x ha=>af ha⟩
def PZ(I:ao R h L M):(L.aA::L.aE::(L.au++[h.ε])).ϥ:=by
 rw[<-Yx,<-Yx];refine Kr.Ϩ ⟨I.nd,JK.Ϩ ⟨JE,.ϟ⟩,λa ha b hb e=>?_⟩;rw[JI.mp hb] at e;subst e;rcases JO.mp ha with e|ha
 ·exact υ (e▸jS I.aa) (J3 _)
 ·rcases JO.mp ha with e|ha
  ·exact υ (e▸jS I.aj) (J3 _)
  ·exact υ (I.sf ha) (J3 _)
def P6(I:ao R h L M):ph (wV R h L M) (L.au++[h.ε]) L.m:=by
 refine xEAA (I.ds.to (h':=wV R h L M) λr hr o e=>tW (jA e) (λq=>I.wq (q▸hr)) λq=>I.rm (q▸hr)) λads n b q=>?_;refine⟨ads++[[]],by rw[qaF,Zi];exact n,by rw[qaF,Zi];exact b,?_⟩;simp only[JR,JR,q,Xv,tW ak (Kj (jS I.aa)) (Kj (jS I.aj))];rfl
theorem ao.TF(I:ao R h L M)(hl:M.aa.ε<10000):ao R (wV R h L M) (L.TF h.ε) M.TF:=
 ⟨tW (jA I.fb) I.mA I.mE,(jP (Ki I.AE) (j8 (jA I.aa))).ν (by rw[<-Xv,<-JR];rfl),(j8 (tX (jA I.aj) (Ki I.AE))).ν (by rw[<-Xv,<-JR];rfl),yL.ν ((χ (· +1) I.am).ν yL.Μ),yL.ν ((χ (· +1) I.du).ν yL.Μ),IS I,PZ I,(yL▸hl),(show ((M.aa++[[]]).ς ZP).sum=M.ax by rw[JR,Xl];exact I.ct),I.cl,P6 I⟩
theorem FO:lR h (wV R h L M) [L.aA,L.aE]:=⟨by unfold wV Ab;rw[J0,J0,yL];exact Ze _,λa o ha e=>tW (jA e) (λq=>ha (q▸ .mo _)) λq=>ha (q▸ .lw _ (.mo _))⟩
def LY(hd:2<=d)(I:ao R h L M)(hl:M.aa.ε<10000)(q:∀h',ao R h' (L.TF h.ε) M.TF->lR h h' [L.aA,L.aE]->Q (.φ M.aa.ε) h'):WF P0 d 168 [.ο L.m] h Q:=by
 refine j7 (K:=1) hd (Qa (.ο L.m)::nn 6) qF rfl λd' h'=>?_;have e4:((M.TF.aa.ε:θ):Τ) -1=M.aa.ε:=by
  rw[show M.TF.aa.ε=M.aa.ε+1 from yL,qa6];exact Τ.add_sub_cancel ..
 exact jT (.p (zaf (n:=1) h' I (Jm (Zf (JL hl)) (by decide)))<|.v (mW I)<|.at (h++[ae.ξ []])<|.p (zc6 (ah P0 d') (.ο h.ε) I.aa (jA (t:=[ae.ξ []]) I.aa) (by rw[Js,I.am];exact Zp hl (by decide)))<|.v ((ga (tX (jA I.fb) I.mA:(Ab h L)[L.m]?=Qa (mO R L M)) rfl rfl:getAttr P0 (Ab h L) (.ο L.m) lO=Qa (.ο L.aE)))<|.v ((ga (tX (jA I.fb) I.mA:(Ab h L)[L.m]?=Qa (mO R L M)) rfl rfl:getAttr P0 (Ab h L) (.ο L.m) m9=Qa (.ai (112+R.i))))<|.w (R.no)<|.p (zc6 (ah P0 d') (R.e R.Ι) (tX (h:=h) (jA I.aj) (Ki I.AE)) (tX (h:=h) (jA I.aj) (Ki I.AE)) (by rw[Js,I.du];exact Zp hl (by decide)))<|.v (mW (I.TF hl))<|.p (F0 (I.TF hl) d')<|.c<|.z ((show Q (.φ ((M.TF.aa.ε:Τ) -1)) (wV R h L M) by rw[e4];exact q _ (I.TF hl) FO))) (by kernel_rfl)
end
section
variable{h0:MH}
theorem zX{v:ab}(ha:h[a]?=Qa o)(hf:P0.cz k n=Qe)(hl:fs.ε<400)(e:Va fs n v=fs'):setAttr P0 (h.ϩ a (.Td k fs)) (.ο a) n v=Qa (h.ϩ a (.Td k fs')):=(DO (j8 ha) hf hl).ν (by rw[qaV,e])
def Np{up lo:ζ θ}{w:R.α}{t:θ}(hd:1<=d)(ha:h[a]?=Qa (.Td 118 []))(q:Q .Δ (h.ϩ a (lP R ⟨up,lo,w,t⟩))):WF P0 d 166 [.ο a,.Υ up,.Υ lo,R.e w,.φ t] h Q:=by
 exact j7 (K:=0) hd (Qa (.ο a)::Qa (.Υ up)::Qa (.Υ lo)::Qa (R.e w)::Qa (.φ t)::nn 6) y8 rfl λd' h'=>jT (.h ((DO ha rfl (by decide):setAttr P0 h (.ο a) mS (.Υ up)=Qa (h.ϩ a (.Td 118 [(mS,.Υ up)]))))<|.h ((zX (k:=118) (n:=oG) (fs:=[(mS,.Υ up)]) (v:=.Υ lo) ha rfl (by decide:1<400) rfl))<|.h ((zX (k:=118) (n:=xB) (fs:=[(mS,.Υ up),(oG,.Υ lo)]) (v:=R.e w) ha rfl (by decide:2<400) rfl))<|.h ((zX (k:=118) (n:=qA) (fs:=[(mS,.Υ up),(oG,.Υ lo),(xB,R.e w)]) (v:=.φ t) ha rfl (by decide:3<400) rfl))<|.z ((q))) (by kernel_rfl)
theorem ET{x:Ar R.α}:lP R x≠mO R L M:=λe=>by
 injection e with e1 e2;exact υ e1 (by decide)
def Mc.fy(M:Mc R.α)(s:θ)(a:Ar R.α):Mc R.α:= {M with aa:=M.aa.ϩ s (M.aa[s]?.bm []++[a]),ax:=M.ax+1}
def Do(R:Rg)(h:MH)(L:Ly)(M:Mc R.α):MH:=h.ϩ L.m (mO R L {M with ax:=M.ax+1})
def Uz(R:Rg)(h:MH)(L:Ly)(M:Mc R.α)(a:Ar R.α)(r:θ)(as:ζ θ):MH:=(Do R h L M++[lP R a]).ϩ r (.ξ (as.ς ab.ο++[ab.ο h.ε]))
theorem zct:(Do R h L M).ε=h.ε:=J0 ..
section
variable{a:Ar R.α}{s r b:Nat}{as:List Nat}{o:ae}
theorem xW(e:h[b]?=Qa o)(h1:b≠L.m):(Do R h L M)[b]?=Qa o:=jP (Ki h1) e
theorem uC(e:h[b]?=Qa o)(h1:b≠L.m)(h2:b≠r):(Uz R h L M a r as)[b]?=Qa o:=jP (Ki h2) (jA (xW e h1))
theorem Nn(hr:r<h.ε):(Uz R h L M a r as)[h.ε]?=Qa (lP R a):=jP (Ke hr) ((χ (λn=>(Do R h L M++[lP R a])[n]?) zct.Μ).ν ak)
theorem Nm(hr:r∈L.au):lR h (Uz R h L M a r as) (ff L):=⟨by unfold Uz;rw[J0,yL,zct];exact Ze _,λb o hb e=>uC e (λq=>hb (q▸ .mo _)) λq=>hb (q▸ .lw _ (.lw _ (.lw _ hr)))⟩
def Dq(R:Rg)(h:MH)(L:Ly)(M:Mc R.α)(s r:θ)(as:ζ θ)(xs:ζ (Ar R.α)):Prop:=L.au[s]?=Qa r/\M.aa[s]?=Qa xs/\h[r]?=Qa (.ξ (as.ς ab.ο))/\as.ε=xs.ε/\∀(j b:θ)(x:Ar R.α),as[j]?=Qa b->xs[j]?=Qa x->h[b]?=Qa (lP R x)
section
variable{R:Rg}{h:MH}{L:Ly}{M:Mc R.α}{s r:Nat}{as:List Nat}{xs:List (Ar R.α)}(ψ:Dq R h L M s r as xs)
def Dq.i:=@ψ.1
def Dq.x:=@ψ.2.1
def Dq.a:=@ψ.2.2.1
def Dq.l:=@ψ.2.2.2.1
def Dq.o:=@ψ.2.2.2.2
end
def Nk{xs:ζ (Ar R.α)}(I:ao R h L M)(W:Dq R h L M s r as xs):qJ R (Uz R h L M a r as) r (xs++[a]):=by
 have hm:=Jr W.i;refine⟨as++[h.ε],?_,yL.ν ((χ (· +1) W.l).ν yL.Μ),λj b x hb hx=>?_⟩
 ·rw[JR];exact j8 (jA (xW W.a λq=>I.ly (q▸hm)))
 ·rcases EQ W.l hb hx with ⟨h1,h2⟩| ⟨rfl,rfl⟩
  ·exact uC (W.o j b x h1 h2) (cq (W.o j b x h1 h2) I.fb ET) (cq (W.o j b x h1 h2) W.a nofun)
  ·exact Nn (I.sf hm)
def Bm{xs:ζ (Ar R.α)}{ys:ζ (Ar R.α)}(I:ao R h L M)(W:Dq R h L M s r as xs)(hk:s≠k)(hr:L.au[k]?=Qa r')(hy:M.aa[k]?=Qa ys):qJ R (Uz R h L M a r as) r' ys:=by
 have hn:r'≠r:=λq=>by
  subst q;obtain⟨l1,e1⟩:=Jx.mp W.i;obtain⟨l2,e2⟩:=Jx.mp hr;exact hk (YA I.nr|>.mp (e1.ν e2.Μ))
 exact(I.au k r' ys hr hy).Ν λb o e ho=>uC e (ho.ι (λ⟨_,q⟩=>cq e I.fb (q▸ET)) λq p=>I.ly (p▸q▸(Jr hr))) (ho.ι (λ⟨_,q⟩=>cq e W.a (q▸nofun)) λq=>q▸hn)
def qT{l:ζ θ}{r:θ}(h:l[k]?=Qa r):(l.ς ab.ο)[k]?=Qa (.ο r):=by rw[JA,h];rfl
theorem ao.yx(I:ao R h L M){as:ζ θ}{r:θ}(hr:L.au[k]?=Qa r)(ha:h[r]?=Qa (.ξ (as.ς ab.ο))):∀b∈as,b<h.ε:=λb hb=>by
 have hk:k<M.aa.ε:=I.am▸jI hr;refine Zt (I.au k r _ hr (Jo hk)) λas' zq15=>?_;have h1:=zq15.1;refine(Xf hb).ι λj zq14=>?_;rw[ha] at h1;have e1:(as'.ς ab.ο)[j]?=Qa (.ο b):=(zfh h1:as.ς ab.ο=as'.ς ab.ο)▸qT zq14;rw[JA] at e1;refine(Za.mp e1).ι λb' zq13=>?_;have e3:=zq13.2;cases e3;exact jS (zq15.2.2 j _ _ zq13.1 (Jo (zq15.2.1▸jI zq13.1:j<M.aa[k].ε)))
def zbT{l:ζ (ζ θ)}{s:θ}{as:ζ θ}(n:l.ld.ϥ)(hs:l[s]?=Qa as)(hx:∀bs∈l,x∉bs):(l.ϩ s (as++[x])).ld.ϥ:=by
 refine(Jx.mp hs).ι λh zq12=>?_;refine eqE zq12 ?_;have e:=Kc s l;rw[Kq h] at e;have hf:x∉l.ld:=λq=>let ⟨bs,h1,h2⟩:=Ya.mp q;hx bs h1 h2;rw[ζ.set_eq_take_append_cons_drop,ρ h,YB,K6];rw[(by conv=>lhs;rw[<-e,YB,K6]:l.ld=(l.ϣ s).ld++(l[s]++(l.bn (s+1)).ld))] at n hf;rw[JB,ζ.singleton_append,<-JB];refine YW.nodup_iff.Ϩ (JK.Ϩ ⟨?_,?_⟩)
 ·rw[JB];exact hf
 ·rw[JB];exact n
def zc5{xs:ζ (Ar R.α)}(I:ao R h L M)(W:Dq R h L M s r as xs):ph (Uz R h L M a r as) L.au L.m:=by
 refine Zt I.ds λads zq11=>?_;have b:=zq11.2.1;have q:=zq11.2.2;have g2:∀(k:θ),(L.au.ς λr=>h[r]?)[k]?=ads[k]?.ς λas=>Qa (.ξ (as.ς .ο)):=λk=>by rw[q];exact JA ..
 have hs:ads[s]?=Qa as:=by
  have e:=((λk=>JA ..) s).Μ.ν (g2 s);rw[W.i,Xm,W.a] at e;exact(Za.mp e.Μ).ι λas' zq10=>zq10.1.ν (χ Qa (Pi zq10.2))
 refine⟨ads.ϩ s (as++[h.ε]),zbT zq11.1 hs λbs hb hx=>?_,λx hx=>?_,?_⟩
 ·refine(Xf hb).ι λk zq9=>?_
  have e:=((λk=>JA ..) k).Μ.ν (g2 k);rw[zq9] at e;exact(Za.mp e).ι λr' zq8=>J3 _ (I.yx zq8.1 zq8.2 _ hx)
 ·obtain⟨bs,hb,hx⟩:=Ya.mp hx
  rcases Z6 hb with hb|rfl
  ·exact b x (Ya.Ϩ ⟨bs,hb,hx⟩)
  ·rcases Zd.mp hx with hx|hx
   ·exact b x (Ya.Ϩ ⟨as,Jr hs,hx⟩)
   ·rw[JI.mp hx];exact jS I.fb
 ·refine Yo λk=>?_
  simp only[JA,JA];by_cases e:s=k
  ·subst e
   simp only[W.i,JX (jI hs),Xm,Xm,JR];exact χ Qa (j8 (jA (xW W.a λq=>I.ly (q▸(Jr W.i)))))
  ·rw[JZ e,<-g2 k,(λk=>JA ..) k]
   cases hr:L.au[k]? with
   |none=>rfl
   |some r'=>
    obtain⟨o,ho⟩:∃o,h[r']?=Qa o:=⟨_,Jo (I.sf (Jr hr))⟩;have hn:r'≠r:=λq=>by
     subst q;obtain⟨l1,e1⟩:=Jx.mp W.i;obtain⟨l2,e2⟩:=Jx.mp hr;exact e (YA I.nr|>.mp (e1.ν e2.Μ))
    show Qa (Uz R h L M a r as)[r']?=Qa h[r']?;rw[ho,uC ho (λq=>I.ly (q▸(Jr hr))) hn]
def ao.fy{xs:ζ (Ar R.α)}(I:ao R h L M)(W:Dq R h L M s r as xs)(hc:M.ax<100000):ao R (Uz R h L M a r as) L (M.fy s a):=by
 have hm:=Jr W.i;refine⟨jP (λq=>I.ly (q▸hm)) (jA (j8 I.fb)),uC I.aa (Ki I.mA) λq=>I.wq (q▸hm),uC I.aj (Ki I.mE) λq=>I.rm (q▸hm),I.am.ν (J0 ..).Μ,I.du.ν (J0 ..).Μ,λk r' ys hr hy=>?_,I.nd,Jm (JC (J0 ..)) I.bc,?_,hc,zc5 I W⟩
 ·have hy:(M.aa.ϩ s (M.aa[s]?.bm []++[a]))[k]?=Qa ys:=hy
  rw[(by rw[W.x];rfl:M.aa[s]?.bm []=xs)] at hy;by_cases hk:s=k
  ·subst hk
   rw[JX (jI W.x)] at hy;refine lN hy ?_;cases W.i.Μ.ν hr;exact Nk I W
  ·rw[JZ hk] at hy
   exact Bm I W hk hr hy
 ·show ((M.aa.ϩ s (M.aa[s]?.bm []++[a])).ς ZP).sum=M.ax+1
  rw[(by rw[W.x];rfl:M.aa[s]?.bm []=xs),<-(Jx.mp W.x).2];exact(Es (jI W.x)).ν (χ (· +1) I.ct)
def ao.bJ(I:ao R h L M)(hs:s<M.aa.ε):∃r as,Dq R h L M s r as M.aa[s]:=by
 exact(I.LT hs).ι λr zq3=>Zt zq3.2 λas zq4=>⟨r,as,zq3.1,Jo hs,zq4.1,zq4.2.1,zq4.2.2⟩
end
theorem zfz(I:ao R h L M):getAttr P0 h (.ο L.m) xC=Qa (.φ M.ax):=ga I.fb rfl rfl
theorem MB(hd:2<=d)(I:ao R h L M)(hk:k<M.aa.ε):j1 (ah P0 d) (.ο L.m) 521330740336550618428517 [.φ k] h h=Qa (.φ k,h):=me (kY I.fb rfl rfl) (zbP hd I hk (cg (.φ k) h))
theorem Pk(a:Ar R.α)(hd:1<=d):jJ (ah P0 d) (.ai 118) [.Υ a.up,.Υ a.lo,R.e a.w,.φ a.t] h=Qa (.ο h.ε,h++[lP R a]):=W.eq (BG (i:=166) rfl rfl (Np (up:=a.up) (lo:=a.lo) (w:=a.w) (t:=a.t) hd ak ⟨rfl,rfl,qP⟩))
def zjU{a:Ar R.α}(hd:4<=d)(I:ao R h L M)(hs:s<M.aa.ε)(ht:a.t<M.aa.ε)(lu:dh a.up)(ll:dh a.lo)(hw:R.D p k a.w)(hl:4*p+k<=3800)(hc:M.ax<100000){r:θ}(W:Dq R h L M s r as M.aa[s])
  (q0:a.w=R.Ι->Q .Δ h) (q1:a.w≠R.Ι->Q .Δ (Uz R h L M a r as)):WF P0 d 171 [.ο L.m,.φ s,.Υ a.up,.Υ a.lo,R.e a.w,.φ a.t] h Q:=by
 refine j7 (K:=3) hd (Qa (.ο L.m)::Qa (.φ s)::Qa (.Υ a.up)::Qa (.Υ a.lo)::Qa (R.e a.w)::Qa (.φ a.t)::nn 6) tG rfl λd' h'=>?_;have r1:=xW (R:=R) (M:=M) W.a λq=>I.ly (q▸Jr W.i);have e4:=Pk (h:=Do R h L M) (d:=d') a (Jm (by decide) h');rw[zct] at e4;exact jT (.p (MB (Jm (by decide) h':2<=d') I hs)<|.p (MB (Jm (by decide) h':2<=d') I ht)<|.p (fn (as:=[.Υ a.up]) rfl (En h' lu (cg (.Υ a.up) h)))<|.p (fn (as:=[.Υ a.lo]) rfl (En h' ll (cg (.Υ a.lo) h)))<|.v (lU I)<|.q (R.nd h' hw hl)<|.v (lU I)<|.w (R.no)<|.k (R.qe a.w R.Ι)<|.br (@decide (a.w=R.Ι) (R.gi a.w R.Ι)) (λhz=>.z (q0 (dT hz))) (λhz=>.v (zfz I)<|.c<|.f (Γ (p:=(200000:Τ)<=M.ax) (qaM.Ϩ (ZF.Ϩ (Zp hc (by decide)))))<|.v (zfz I)<|.c<|.h ((DO I.fb rfl (by decide:6<400):setAttr P0 h (.ο L.m) xC (.φ ((M.ax:Τ)+1))=Qa (Do R h L M)))<|.v ((ga (j8 I.fb) rfl rfl:getAttr P0 (Do R h L M) (.ο L.m) jY=Qa (.ο L.aA)))<|.v ((sl (xW I.aa (Ki I.mA)) (qT W.i):kJ (Do R h L M) (.ο L.aA) (.φ s)=Qa (.ο r)))<|.p (e4)<|.p ((zc6 (ah P0 d') (.ο h.ε) r1 (jA (t:=[lP R a]) r1) (by rw[Js,W.l];exact Jt (I.cr _ (Zg hs)) (Zp hc (by decide)))))<|.z ((q1 (dF hz))))) (by kernel_rfl)
def Nl{a:Ar R.α}(hd:4<=d)(I:ao R h L M)(hs:s<M.aa.ε)(ht:a.t<M.aa.ε)(lu:dh a.up)(ll:dh a.lo)(hw:R.D p k a.w)(hl:4*p+k<=3800)(hc:M.ax<100000)
  (q:∀h' M',ao R h' L M'->lR h h' (ff L)->(a.w=R.Ι->M'=M)->(a.w≠R.Ι->M'=M.fy s a)->Q .Δ h'):WF P0 d 171 [.ο L.m,.φ s,.Υ a.up,.Υ a.lo,R.e a.w,.φ a.t] h Q:=by
 exact(I.bJ hs).ι λr zq1=>zq1.ι λas zq2=>zjU hd I hs ht lu ll hw hl hc zq2 (λe=>q h M I .TD (λ_=>rfl) λhn=>υ e hn) λe=>q _ _ (I.fy zq2 hc) (Nm (Jr zq2.i)) (λh=>υ h e) λ_=>rfl
end
section
variable{h0:MH}
def ao.vc{M':Mc R.α}(I:ao R h L M)(e1:M'.aa=M.aa)(e2:M'.aj=M.aj)(e3:M'.ax=M.ax):ao R (h.ϩ L.m (mO R L M')) L M':=by
 refine⟨j8 I.fb,jP I.mA I.aa,jP I.mE (e2▸I.aj),e1▸I.am,by rw[e1,e2];exact I.du,λk r xs hr hx=>?_,I.nd,e1▸I.bc,by rw[e1,e3];exact I.ct,e3▸I.cl,I.ds.to λr hr _ e=>jP (λq=>I.ly (q▸hr)) e⟩;rw[e1] at hx;refine(I.au k r xs hr hx).Ν λa o e ho=>jP ?_ e;rcases ho with ⟨x,rfl⟩|rfl
 ·exact Ki (cq e I.fb ET)
 ·exact λq=>I.ly (q▸Jr hr)
theorem SN:L.m∈ff L:=.mo _
theorem zex:L.aE∈ff L:=.lw _ (.lw _ (.mo _))
theorem Ie(ha:a∈ff L):lR h (h.ϩ a o) (ff L):=lR.ϩ.wr λb hb=>by rw[JI.mp hb];exact ha
def Di{w:R.α}(hd:4<=d)(I:ao R h L M)(hs:s<M.aa.ε)(hw:R.D p k w)(hl:4*p+k<=3800)(q:∀h',ao R h' L {M with start:=s,first:=w}->lR h h' (ff L)->Q .Δ h'):WF P0 d 172 [.ο L.m,.φ s,R.e w] h Q:=by
 refine j7 (K:=3) hd (Qa (.ο L.m)::Qa (.φ s)::Qa (R.e w)::nn 6) qG rfl λd' h'=>?_;have e1:setAttr P0 h (.ο L.m) uA (R.e w)=Qa (h.ϩ L.m (mO R L {M with first:=w})):=DO I.fb rfl (by decide:6<400);have e2:setAttr P0 (h.ϩ L.m (mO R L {M with first:=w})) (.ο L.m) qW (.φ s)=Qa ((h.ϩ L.m (mO R L {M with first:=w})).ϩ L.m (mO R L {M with start:=s,first:=w})):=DO (I.vc (M':= {M with first:=w}) rfl rfl rfl).fb rfl (by decide:6<400);exact jT (.p (MB (Jm (by decide) h') I hs)<|.b (R.vw w)<|.c<|.v (lU I)<|.q (R.nd h' hw hl)<|.h (e1)<|.h (e2)<|.z ((q _ ((I.vc (M':= {M with first:=w}) rfl rfl rfl).vc (M':= {M with start:=s,first:=w}) rfl rfl rfl) ((Ie SN).ν (Ie SN))))) (by kernel_rfl)
def ao.vd{w:R.α}(I:ao R h L M):ao R (h.ϩ L.aE (.ξ ((M.aj.ϩ s w).ς R.e))) L {M with aj:=M.aj.ϩ s w}:=by
 refine⟨jP (Ki I.mE) I.fb,jP (Ki I.AE) I.aa,j8 I.aj,I.am,(J0 ..).ν I.du,λk r xs hr hx=>?_,I.nd,I.bc,I.ct,I.cl,I.ds.to λr hr _ e=>jP (λq=>I.rm (q▸hr)) e⟩;refine(I.au k r xs hr hx).Ν λa o e ho=>jP ?_ e;rcases ho with ⟨x,rfl⟩|rfl
 ·exact Ki (cq e I.aj nofun)
 ·exact λq=>I.rm (q▸Jr hr)
theorem map_set'{f:α->β}{l:ζ α}{x:α}:(l.ς f).ϩ i (f x)=(l.ϩ i x).ς f:=(ζ.map_set ..).Μ
theorem zZ(w:R.α)(I:ao R h L M)(hs:s<M.aa.ε):∃g,lT h (.ο L.aE) (.φ s) (R.e w)=Qa g/\ao R g L {M with aj:=M.aj.ϩ s w} /\lR h g (ff L):=
 ⟨_,(zbf I.aj (by rw[Js,I.du];exact hs)).ν (by rw[map_set']),I.vd,Ie zex⟩
def zcG{w:R.α}(hd:4<=d)(I:ao R h L M)(hs:s<M.aa.ε)(hw:R.D p k w)(hl:4*p+k<=3800)(q:∀h',ao R h' L {M with aj:=M.aj.ϩ s w}->lR h h' (ff L)->Q .Δ h'):WF P0 d 173 [.ο L.m,.φ s,R.e w] h Q:=by
 exact(zZ w I hs).ι λg zq2=>j7 (K:=3) hd (Qa (.ο L.m)::Qa (.φ s)::Qa (R.e w)::nn 6) o9 rfl λd' h'=>jT (.p (MB (Jm (by decide) h') I hs)<|.b (R.vw w)<|.c<|.v (lU I)<|.q (R.nd h' hw hl)<|.v (xF I)<|.h (zq2.1)<|.z ((q g zq2.2.1 zq2.2.2))) (by kernel_rfl)
def RM(hd:4<=d)(I:ao R h L M)(hs:s<M.aa.ε)(q:∀h',ao R h' L {M with aj:=M.aj.ϩ s R.da}->lR h h' (ff L)->Q .Δ h'):WF P0 d 173 [.ο L.m,.φ s] h Q:=by
 exact(zZ R.da I hs).ι λg zq1=>j7 (K:=3) hd (Qa (.ο L.m)::Qa (.φ s)::Qa (.ai 120)::nn 6) o9 rfl λd' h'=>jT (.p (MB (Jm (by decide) h') I hs)<|.c2<|.v (lU I)<|.w (R.on)<|.v (xF I)<|.h (zq1.1)<|.z ((q g zq1.2.1 zq1.2.2))) (by kernel_rfl)
def M0:Mc R.α:=⟨[],[],0,R.da,0⟩
theorem Wu{v:ab}{t:MH}(hf:P0.cz k n=Qe)(hl:fs.ε<400)(e:Va fs n v=fs'):setAttr P0 (h++.Td k fs::t) (.ο h.ε) n v=Qa (h++.Td k fs'::t):=(DO ak hf hl).ν (by rw[qP,e])
def A4{t:MH}(hj:t.ε+1=j)(hf:P0.cz k n=Qe)(hl:fs.ε<400)(e:Va fs n (.ο (h.ε+j))=fs'):setAttr P0 (h++.Td k fs::t++[.ξ []]) (.ο h.ε) n (.ο (h++.Td k fs::t).ε)=Qa (h++.Td k fs'::(t++[.ξ []])):=by
 simp only[JB,Ju,ZA,hj];exact Wu hf hl e
def Rw(hd:1<=d)(q:Q .Δ (h++[mO R ⟨h.ε,h.ε+1,h.ε+2,[]⟩ M0,.ξ [],.ξ []])):WF P0 d 177 [.ο h.ε,.ai (112+R.i)] (h++[.Td 121 []]) Q:=by
 exact j7 (K:=0) hd (Qa (.ο h.ε)::Qa (.ai (112+R.i))::nn 6) rM rfl λd' h'=>jT (.h ((Wu (h:=h) (t:=[]) (k:=121) (n:=m9) (fs:=[]) (v:=.ai (112+R.i)) rfl (by decide:0<400) rfl))<|.at (h++[.Td 121 [(m9,.ai (112+R.i))]]++[.ξ []])<|.h ((A4 (h:=h) (t:=[]) (k:=121) (n:=jY) (j:=1) (fs:=[(m9,.ai (112+R.i))]) rfl rfl (by decide:1<400) rfl))<|.at (h++[.Td 121 [(m9,.ai (112+R.i)),(jY,.ο (h.ε+1))],.ξ []]++[.ξ []])<|.h ((A4 (h:=h) (t:=[.ξ []]) (k:=121) (n:=lO) (j:=2) (fs:=[(m9,.ai (112+R.i)),(jY,.ο (h.ε+1))]) rfl rfl (by decide:2<400) rfl))<|.h ((Wu (h:=h) (t:=[.ξ [],.ξ []]) (k:=121) (n:=qW) (fs:=[(m9,.ai (112+R.i)),(jY,.ο (h.ε+1)),(lO,.ο (h.ε+2))]) (v:=.φ 0) rfl (by decide:3<400) rfl))<|.w (R.on)<|.h ((Wu (h:=h) (t:=[.ξ [],.ξ []]) (k:=121) (n:=uA) (fs:=[(m9,.ai (112+R.i)),(jY,.ο (h.ε+1)),(lO,.ο (h.ε+2)),(qW,.φ 0)]) (v:=R.e R.da) rfl (by decide:4<400) rfl))<|.h ((Wu (h:=h) (t:=[.ξ [],.ξ []]) (k:=121) (n:=xC) (fs:=[(m9,.ai (112+R.i)),(jY,.ο (h.ε+1)),(lO,.ο (h.ε+2)),(qW,.φ 0),(uA,R.e R.da)]) (v:=.φ 0) rfl (by decide:5<400) rfl))<|.z ((q))) rfl
theorem zbS(R:Rg)(h:MH):ao R (h++[mO R ⟨h.ε,h.ε+1,h.ε+2,[]⟩ M0,.ξ [],.ξ []]) ⟨h.ε,h.ε+1,h.ε+2,[]⟩ (M0 (R:=R)):=
 ⟨ak,mU (j:=1),mU (j:=2),rfl,rfl,(λk r xs hr=>af hr),by show [h.ε+1,h.ε+2].ϥ;exact JK.Ϩ ⟨λq=>υ (JI.mp q) (Ke (JT _)),JK.Ϩ ⟨JE,.ϟ⟩⟩,JF _,rfl,JF _,[],.ϟ,λa ha=>υ ha JE,rfl⟩
theorem Iv(R:Rg)(hd:1<=d)(h:MH):∃t,jJ (ah P0 d) (.ai 121) [.ai (112+R.i)] h=Qa (.ο h.ε,h++t)/\ao R (h++t) ⟨h.ε,h.ε+1,h.ε+2,[]⟩ (M0 (R:=R)):=
 ⟨_,W.eq (BG (i:=177) rfl rfl (Rw hd ⟨rfl,cg _ _⟩)),zbS R h⟩
end
section
variable{h0:MH}
def Ar.fq{α:Type}(x:Ar α):Ε:=x.up== [] && x.lo== []
abbrev qX:θ:=7598521885536580729
def zcI{x:Ar R.α}(hd:1<=d)(ha:h[a]?=Qa (lP R x))(q:Q (.ϝ x.fq) h):WF P0 d 165 [.ο a] h Q:=by
 refine j7 (K:=0) hd (Qa (.ο a)::nn 6) rP rfl λd' h'=>?_;delta Ar.fq at q;exact jT (.v ((ga ha rfl rfl:getAttr P0 h (.ο a) mS=Qa (.Υ x.up)))<|.k (rd x.up [])<|.br (x.up== []) (λhb=>.v ((ga ha rfl rfl:getAttr P0 h (.ο a) oG=Qa (.Υ x.lo)))<|.k (rd x.lo [])<|.z ((show Q (.ϝ (x.lo== [])) h by rw[hb] at q;exact q))) (λhb=>.z ((show Q (.ϝ (x.up== [])) h by rw[hb] at q ⊢;exact q)))) rfl
theorem Mo{x:Ar R.α}(hd:1<=d)(h0a:h0[a]?=Qa (lP R x))(ha:h[a]?=Qa (lP R x))(q:Q (.ϝ x.fq) h):WM (ah P0 d) (.ο a) qX [] h0 h Q:=
 jX (kY h0a rfl rfl) (zcI hd ha q)
theorem ao.uc(I:ao R h L M){xs:ζ (Ar R.α)}(hx:xs∈M.aa):xs.ε<200000:=Jt (I.cr _ hx) (Jt I.cl (by decide))
def pD{l:ζ θ}{v:ab}(h:(l.ς ab.ο)[k]?=Qa v):∃r,l[k]?=Qa r/\v=.ο r:=by
 rw[JA] at h;exact(ms h).ι λr zq9=>⟨r,zq9.1,zq9.2.Μ⟩
def ze(r:ab)(Fr:Ρ.Θ->Prop)(A:Prop)(n:θ)(B:θ->Prop)(h:MH)(o:SR):Prop:=∃f,(A/\o=Qa ((.rt r,f),h))\/(Fr f/\(∀i,i<n->B i)/\o=Qa ((.nx,f),h))
section
variable{r:ab}{Fr:Internal.Frame->Prop}{A:Prop}{n:Nat}{B:Nat->Prop}
def ze.of{o:SR}(w:W o λp g=>g=h/\((A/\p.1=.rt r)\/(Fr p.2/\(∀i,i<n->B i)/\p.1=.nx))):ze r Fr A n B h o:=by
 refine xEEAA (W.xL w) λcw g e q1 q=>?_;obtain⟨fl,f⟩:=cw;refine eqE q1 ?_;exact⟨f,q.imp (λq=>⟨q.1,e.ν (by rw[show fl=_ from q.2])⟩) λq=>⟨q.1,q.2.1,e.ν (by rw[show fl=_ from q.2.2])⟩⟩
def eI{c:Cx}{e:Ex}{b:ζ Sm}{fr:Ρ.Θ}(hl:vs.ε=n)(hn:n<c.cv)(hk:h[a]?=Qa (.ξ vs))(e0:WE c fr e h λv g=>v=.ο a/\g=h)(f0:Fr fr)
  (step:∀i v f R,vs[i]?=Qa v->Fr f->(∀f,A->R (.rt r) f h)->(∀f,B i->Fr f->R .nx f h)->bz c b (f.ϩ x (Qa v)) h R):ze r Fr A n B h (exec c (.fo [x] Qb e b) fr h):=by
 subst hl;exact .of (NR (R:=λfl f g=>g=h/\((A/\fl=.rt r)\/(Fr f/\(∀i,i<vs.ε->B i)/\fl=.nx))) hn (λi f g=>g=h/\Fr f/\∀j,j<i->B j) (λi f g q=>q.1▸hk) (e0.Ν λv g q=>⟨q.1,q.2,f0,λj hj=>υ hj (Zb _)⟩)
  (λi v hv f g q=>by
   refine eqB q.1 ?_;have hf:=q.2.1;exact step i v f _ hv hf (λ_ h=>⟨rfl,.nb ⟨h,rfl⟩⟩) λf h hf=>⟨rfl,hf,λj hj=>(θ.lt_succ_iff_lt_or_eq.mp hj).ι (q.2.2 j) λq=>q▸h⟩)
  λf g q=>⟨q.1,.u8 ⟨q.2.1,q.2.2,rfl⟩⟩)
end
theorem Nb{l:ζ α}{x:α}{p:α->Prop}(h:l[i]?=Qa x)(hp:p x)(y:α)(e:l[i]?=Qa y):p y:=Qa.dL (h.Μ.ν e)▸hp
theorem zar{l:ζ α}{p:α->Ε}{x:α}(h:x∈l)(hp:p x=Qe):l.any p=true:=Yu.Ϩ ⟨x,h,hp⟩
theorem zas{l:ζ α}{p:α->Ε}(h:∀i,i<l.ε->∀x,l[i]?=Qa x->p x=Qb):l.any p=false:=XH.Ϩ λx hx=>(Xf hx).ι λi hi=>by rw[h i (jI hi) x hi];exact Zq
abbrev Ub(m:θ)(o1 o2:η ab):Ρ.Θ:=Qa (.ο m)::o1::o2::nn 6
abbrev zcz:ζ Sm:=[.ite (.az (.Λ 2) qX []) [.ret (.f8 (.ϝ Qe))] []]
abbrev zae:ζ Sm:=[.fo [2] Qb (.Λ 1) zcz]
def yw(r:ζ (Ar R.α)):Ε:=r.any Ar.fq
def zjE{o1 o:η ab}{x:Ar R.α}{X:Fl->Ρ.Θ->MH->Prop}(hd:1<=d)(hx:h[b]?=Qa (lP R x))(q1:∀f,x.fq=Qe->X (.rt (.ϝ Qe)) f h)(q2:x.fq=Qb->X .nx (Ub m o1 (Qa (.ο b))) h):bz (ah P0 d) zcz ((Ub m o1 o).ϩ 2 (Qa (.ο b))) h X:=by
 exact jT (.p ((W.eq (Mo hd hx hx (cg _ _)):j1 (ah P0 d) (.ο b) qX [] h h=Qa (.ϝ x.fq,h)))<|.br (x.fq) (λhe=>.z (q1 (Ub m o1 (Qa (.ο b))) he)) (λhe=>.z (q2 he))) rfl
def zjF{r:θ}{o2:η ab}{xs:ζ (Ar R.α)}(hd:1<=d)(W:qJ R h r xs)(hl:xs.ε<200000):ze (.ϝ Qe) (λf=>∃o,f=Ub m (Qa (.ο r)) o) (yw xs=Qe) xs.ε (λi=>∀x,xs[i]?=Qa x->x.fq=Qb) h (exec (ah P0 d) (.fo [2] Qb (.Λ 1) zcz) (Ub m (Qa (.ο r)) o2) h):=by
 refine Zt W λas zq8=>?_;exact eI ((Js ..).ν zq8.2.1) hl zq8.1 (by exact j2 (.z (cg (.ο r) h)) rfl) ⟨o2,rfl⟩ λi v f R' hv hf q1 q2=>by
  obtain⟨b,hb,rfl⟩:=pD hv;obtain⟨o,rfl⟩:=hf;have hx:=Jo (l:=xs) (i:=i) (zq8.2.1▸jI hb);exact zjE hd (zq8.2.2 _ _ _ hb hx) (λf he=>q1 f (zar (Jr hx) he)) λhe=>q2 _ (Nb hx he) ⟨_,rfl⟩
def zfs{r:θ}{o1 o2:η ab}{xs:ζ (Ar R.α)}{X:Fl->Ρ.Θ->MH->Prop}(hd:1<=d)(W:qJ R h r xs)(hl:xs.ε<200000)(q1:∀f,yw xs=Qe->X (.rt (.ϝ Qe)) f h)(q2:∀o,yw xs=Qb->X .nx (Ub m (Qa (.ο r)) o) h):bz (ah P0 d) zae ((Ub m o1 o2).ϩ 1 (Qa (.ο r))) h X:=by
 refine Zt (zjF (m:=m) (o2:=o2) hd W hl) λf zq5=>?_;obtain⟨ha,e⟩| ⟨⟨o,hf⟩,ha,e⟩:=zq5
 ·exact jT (.s (e)<|.z (q1 f ha)) rfl
 ·rw[hf] at e
  exact jT (.s (e)<|.z (q2 o (zas ha))) rfl
def zjG(hd:1<=d)(I:ao R h L M):ze (.ϝ Qe) (λf=>∃o o2,f=Ub L.m o o2) (M.aa.any yw=Qe) M.aa.ε (λi=>∀x,M.aa[i]?=Qa x->yw x=Qb) h (exec (ah P0 d) (.fo [1] Qb (.aq (.Λ 0) jY) zae) (Ub L.m Qc Qc) h):=by
 exact eI ((Js ..).ν I.am) (Jt I.bc (show 10000<200000 by decide)) I.aa (by exact j2 (.v (mW I)<|.z (cg (.ο L.aA) h)) rfl) ⟨Qc,Qc,rfl⟩ λi v f R' hv hf q1 q2=>by
  obtain⟨r,hr,rfl⟩:=pD hv;obtain⟨o,o2,rfl⟩:=hf;have hx:=Jo (l:=M.aa) (i:=i) (I.am▸jI hr);exact zfs hd (I.au i r _ hr hx) (I.uc (Jr hx)) (λf ha=>q1 f (zar (Jr hx) ha)) λo ha=>q2 _ (Nb hx ha) ⟨_,_,rfl⟩
def Ry(hd:2<=d)(I:ao R h L M)(q:Q (.ϝ (M.aa.any λr=>r.any Ar.fq)) h):WF P0 d 175 [.ο L.m] h Q:=by
 refine j7 (K:=1) hd (Ub L.m Qc Qc) nX rfl λd' h'=>?_;refine Zt (zjG h' I) λf zq1=>?_;obtain⟨ha,e⟩| ⟨⟨o,o2,hf⟩,ha,e⟩:=zq1
 ·exact jT (.s (e)<|.z ((show Q (.ϝ Qe) h by rw[<-ha];exact q))) rfl
 ·rw[hf] at e
  exact jT (.s (e)<|.z ((show Q (.ϝ Qb) h by rw[<-zas ha];exact q))) rfl
end
section
variable{h0:MH}
def tN(h:MH)(b:θ)(bh:ζ (ζ θ)):Prop:=∃rs:ζ θ,h[b]?=Qa (.ξ (rs.ς .ο))/\rs.ε=bh.ε/\∀(k r:θ)(xs:ζ θ),rs[k]?=Qa r->bh[k]?=Qa xs->h[r]?=Qa (.ξ (di xs))
def tZ{l m:ζ α}(hl:l.ε=m.ε)(h:∀(i:θ)(y:α),l[i]?=Qa y->m[i]?=Qa y):l=m:=by
 refine Yo λi=>?_;by_cases hi:i<l.ε
 ·rw[Jo hi];exact(h i _ (Jo hi)).Μ
 ·rw[ZR (Zs.mp hi),ZR (Jm (JC (XE hl)) (Zr hi))]
def zgu{l:ζ θ}(h:l[i]?=Qa x):(di l)[i]?=Qa (.φ x):=by unfold di;rw[JA,h];rfl
def z9{l:ζ θ}{v:ab}(h:(di l)[i]?=Qa v):∃x,l[i]?=Qa x/\v=.φ x:=by
 delta di at h;rw[JA] at h;exact(ms h).ι λx zq5=>⟨x,zq5.1,zq5.2.Μ⟩
theorem mT{l:ζ θ}:(di l).ε=l.ε:=Js ..
theorem oF(h:n<200000):n<=bc:=JL (Zp h (by decide))
def Wl{fr:Ρ.Θ}(G:θ->ae)(hf:vs.ε<cx.cv)(hl:vs.ε<=bc)
  (q:WE cx fr it h λv h1=>v=.ο a/\h1[a]?=Qa (.ξ vs)/\(∀i v t,vs[i]?=Qa v->WE cx (fr.ϩ x (Qa v)) dz (h1++t) λy h3=>y=.ο (h1++t).ε/\h3=(h1++t)++[G i])/\
   Q (.ο h1.ε) (h1++.ξ ((J5 (h1.ε+1) vs.ε).ς .ο)::(Zk vs.ε).ς G)):WE cx fr (.comp dz [x] Qb it []) h Q:=by
 refine Wm (a:=a) (vs:=vs) (λh1 ys t=>ys=(J5 (h1.ε+1) ys.ε).ς ab.ο/\t=(Zk ys.ε).ς G) hf hl (W.Ν q λv h1 q=>?_);obtain⟨rfl,h1a,st,q⟩:=q;refine⟨rfl,h1a,⟨rfl,rfl⟩,λys t v J hv=>W.Ν (st ys.ε v (.ξ ys::t) hv) λy h3 q=>?_,λys t hy J=>?_⟩
 ·obtain⟨rfl,rfl⟩:=q
  refine⟨[G ys.ε],JB ..,?_,?_⟩
  ·rw[(λy=>by rw[Ju];rfl:∀y:ab,(ys++[y]).ε=ys.ε+1),qaP,JR,<-J.1]
   congr 2
   simp only[Ju,ZA,J.2,Js,Zm]
   congr 1;lia
  ·rw[(λy=>by rw[Ju];rfl:∀y:ab,(ys++[y]).ε=ys.ε+1),qan,JR,<-J.2];rfl
 ·obtain⟨J1,J2⟩:=J
  rw[hy] at J1 J2;rw[J1,J2];exact q
def bp(M:Mc R.α)(k:θ):ζ (Ar R.α):=M.aa[k]?.bm []
def BO{fr:Ρ.Θ}(F:θ->ab)(hf:vs.ε<cx.cv)(hl:vs.ε<=bc)
  (q:WE cx fr it h λv h1=>v=.ο a/\h1[a]?=Qa (.ξ vs)/\(∀i v t,vs[i]?=Qa v->WE cx (fr.ϩ x (Qa v)) dz (h1++t) λy h3=>y=F i/\h3=h1++t)/\Q (.ο h1.ε) (h1++[.ξ ((Zk vs.ε).ς F)])):WE cx fr (.comp dz [x] Qb it []) h Q:=by
 refine Wm (a:=a) (vs:=vs) (λh1 ys t=>ys=(Zk ys.ε).ς F/\t=[]) hf hl (W.Ν q λv h1 q=>?_);obtain⟨rfl,h1a,st,q⟩:=q;refine⟨rfl,h1a,⟨rfl,rfl⟩,λys t v J hv=>W.Ν (st ys.ε v (.ξ ys::t) hv) λy h3 q=>?_,λys t hy J=>?_⟩
 ·obtain⟨rfl,rfl⟩:=q
  refine⟨[],by rw[Zi],?_,by rw[J.2];rfl⟩;simp only[yL,qan,JR,<-J.1];rfl
 ·obtain⟨J1,rfl⟩:=J
  rw[J1,hy];exact q
abbrev ro:Ex:=.comp (.aq (.Λ 2) qA) [2] Qb (.Λ 1) []
theorem FS{l:ζ α}{F:θ->β}{f:α->β}(h:∀(i:θ)(x:α),l[i]?=Qa x->F i=f x):(Zk l.ε).ς F=l.ς f:=
 tZ (by rw[Js,Zm,Js]) λi y hi=>by
  rw[JA] at hi ⊢;have hl:i<l.ε:=Zm (n:=l.ε)▸jI (ms hi).TA.1;rw[ZW hl] at hi;rw[Jo hl];exact(χ Qa (h i _ (Jo hl))).Μ.ν hi
def gZ{r:θ}{o2:η ab}{xs:ζ (Ar R.α)}(W:qJ R h r xs)(hl:xs.ε<200000)(t:MH):WE (ah P0 d) (Qa (.ο m)::Qa (.ο r)::o2::nn 4) ro (h++t) λy g=>y=.ο (h++t).ε/\g=(h++t)++[.ξ (di (xs.ς Ar.t))]:=by
 refine Zt W λas zq4=>?_;have e:(as.ς ab.ο).ε=xs.ε:=(Js ..).ν zq4.2.1;have e2:(Zk (as.ς ab.ο).ε).ς (λi=>ab.φ (((xs[i]?.ς Ar.t).bm 0:θ):Τ))=di (xs.ς Ar.t):=by
  unfold di;rw[e,KU];exact FS λi x hx=>by rw[hx];rfl
 refine BO (a:=r) (vs:=as.ς .ο) (λi=>.φ (((xs[i]?.ς Ar.t).bm 0:θ):Τ)) (by rw[e];exact hl) (by rw[e];exact oF hl) ((by exact j2 (.z (cg (.ο r) (h++t))) rfl:WE (ah P0 d) (Qa (.ο m)::Qa (.ο r)::o2::nn 4) (.Λ 1) (h++t) λv g=>v=.ο r/\g=h++t).Ν λv g q=>?_);refine eqE q.1 ?_;refine eqB q.2 ?_;rw[e2];refine⟨rfl,jA zq4.1,λi v t' hv=>?_,cg _ _⟩;refine(pD hv).ι λb zq3=>?_;refine eqB zq3.2 ?_;obtain⟨x,hx⟩:∃x,xs[i]?=Qa x:=⟨_,Jo (zq4.2.1▸jI zq3.1)⟩;have e1:getAttr P0 (h++t++t') (.ο b) qA=Qa (.φ x.t):=ga (jA (jA (zq4.2.2 i b _ zq3.1 hx))) rfl rfl;have e3:x.t=(xs[i]?.ς Ar.t).bm 0:=by rw[hx];rfl
 rw[<-e3];exact j2 (.v (e1)<|.z (cg (.φ (x.t:θ)) (h++t++t'))) rfl
def g6(I:ao R h L M):eval (ah P0 d) (.comp ro [1] Qb (.aq (.Λ 0) jY) []) (Qa (.ο L.m)::nn 6) h=Qa (.ο h.ε,h++.ξ ((J5 (h.ε+1) M.aa.ε).ς .ο)::(Zk M.aa.ε).ς λi=>.ξ (di ((bp M i).ς Ar.t))):=by
 have hn:(L.au.ς ab.ο).ε=M.aa.ε:=(Js ..).ν I.am;have hl:=Jt I.bc (show 10000<200000 by decide);refine W.eq (Wl (cx:=ah P0 d) (a:=L.aA) (x:=1) (dz:=ro) (vs:=L.au.ς .ο) (λi=>.ξ (di ((bp M i).ς Ar.t))) (by rw[hn];exact hl) (by rw[hn];exact oF hl) (W.Ν (by exact j2 (.v (mW I)<|.z (cg (.ο L.aA) h)) rfl:WE (ah P0 d) (Qa (.ο L.m)::nn 6) (.aq (.Λ 0) jY) h λv g=>v=.ο L.aA/\g=h) λv g q=>?_));refine eqE q.1 ?_;refine eqB q.2 ?_;rw[hn];refine⟨rfl,I.aa,λi v t hv=>?_,cg _ _⟩;refine(pD hv).ι λr zq2=>?_;refine eqB zq2.2 ?_;obtain⟨x,hx⟩:∃x,M.aa[i]?=Qa x:=⟨_,Jo (I.am▸jI zq2.1)⟩;rw[(by unfold bp;rw[hx];rfl:bp M i=x)];exact gZ (m:=L.m) (o2:=Qc) (I.au i r x zq2.1 hx) (I.uc (Jr hx)) t
def g7(M:Mc R.α):tN (h++.ξ ((J5 (h.ε+1) M.aa.ε).ς .ο)::(Zk M.aa.ε).ς λi=>.ξ (di ((bp M i).ς Ar.t))) h.ε (M.aa.ς λr=>r.ς Ar.t):=by
 refine⟨_,ak,by rw[KY,Js],λk r xs hr hx=>?_⟩;have hk:k<M.aa.ε:=Js (λr:ζ (Ar R.α)=>r.ς Ar.t)▸jI hx;rw[qax hk] at hr;refine lN hr ?_;rw[JA] at hx;refine(ms hx).ι λx zq1=>?_;refine eqE zq1.2 ?_;simp only[show h.ε+1+1*k=h.ε+(k+1) by rw[ZS,J6,Kf 1 k],mU,ζ.getElem?_cons_succ,JA,ZW hk];rw[<-(by unfold bp;rw[zq1.1];rfl:bp M k=x)];rfl
def FA(hd:1<=d)(I:ao R h L M)(q:∀t b,tN (h++t) b (M.aa.ς λr=>r.ς Ar.t)->Q (.ο b) (h++t)):WF P0 d 125 [.ο L.m] h Q:=by
 exact j7 (K:=0) hd (Qa (.ο L.m)::nn 6) o8 rfl λd' h'=>jT (.p (g6 (d:=d') I)<|.z (q _ _ (g7 M))) rfl
end
abbrev sP:θ:=1936292453
theorem pF(hd:1<=d)(I:ao R h L M):j1 (ah P0 d) (.ο L.m) sP [] h h=Qa (.φ M.aa.ε,h):=me (kY I.fb rfl rfl) (OO hd I ⟨rfl,rfl⟩)
def rX{l:ζ R.α}{x:R.α}(hs:l[s]?=Qa x):(l.ς R.e)[s]?=Qa (R.e x):=by rw[JA,hs];rfl
abbrev at'(l:ζ R.α)(s:θ):R.α:=l[s]?.bm R.Ι
def VC{l:ζ R.α}(hs:s<l.ε):l[s]?=Qa (at' l s):=by rw[Jo hs];unfold at';rw[Jo hs];rfl
theorem Na{l:ζ R.α}(hs:s<l.ε):at' l s∈l:=Jr (VC hs)
theorem oh{a:Ar R.α}(hB:h[b]?=Qa (lP R a)):getAttr P0 h (.ο b) mS=Qa (.Υ a.up):=ga hB rfl rfl
theorem oi{a:Ar R.α}(hB:h[b]?=Qa (lP R a)):getAttr P0 h (.ο b) oG=Qa (.Υ a.lo):=ga hB rfl rfl
theorem ur{a:Ar R.α}(hB:h[b]?=Qa (lP R a)):getAttr P0 h (.ο b) xB=Qa (R.e a.w):=ga hB rfl rfl
theorem ry{a:Ar R.α}(hB:h[b]?=Qa (lP R a)):getAttr P0 h (.ο b) qA=Qa (.φ a.t):=ga hB rfl rfl
theorem xG{a:Ar R.α}(hd:1<=d)(hB:h[b]?=Qa (lP R a)):j1 (ah P0 d) (.ο b) qX [] h h=Qa (.ϝ a.fq,h):=W.eq (Mo hd hB hB ⟨rfl,rfl⟩)
def nT{x:Ε}(h:x=Qe):(!x)=false:=by rw[h];rfl
def nF{x:Ε}(h:x=Qb):(!x)=true:=by rw[h];rfl
def Bx(R:Rg)(h:MH)(r:θ)(as:ζ θ)(xs:ζ (Ar R.α)):Prop:=h[r]?=Qa (.ξ (as.ς .ο))/\(as.ς ab.ο).ε=xs.ε/\∀(j:θ)(v:ab),(as.ς ab.ο)[j]?=Qa v->∃b x,v=.ο b/\xs[j]?=Qa x/\h[b]?=Qa (lP R x)
section
variable{R:Rg}{h:MH}{r:Nat}{as:List Nat}{xs:List (Ar R.α)}(ψ:Bx R h r as xs)
def Bx.l:=@ψ.1
def Bx.n:=@ψ.2.1
def Bx.a:=@ψ.2.2
end
def ao.ng(I:ao R h L M)(hk:k<M.aa.ε):∃r as,(L.au.ς ab.ο)[k]?=Qa (.ο r)/\Bx R h r as (bp M k)/\bp M k∈M.aa:=by
 refine(I.LT hk).ι λr zq8=>Zt zq8.2 λas zq9=>?_;rw[(by unfold bp;rw[Jo hk];rfl:bp M k=M.aa[k])];refine⟨r,as,qT zq8.1,⟨zq9.1,(Js ..).ν zq9.2.1,λj v hv=>?_⟩,Zg hk⟩;refine(pD hv).ι λb zq7=>?_;refine eqB zq7.2 ?_;have hj:j<M.aa[k].ε:=by rw[<-zq9.2.1];exact jI zq7.1
 exact⟨b,M.aa[k][j],rfl,Jo hj,zq9.2.2 j b _ zq7.1 (Jo hj)⟩
def mC(M:Mc R.α)(s:θ):θ:=((M.aa.ϣ s).ς ZP).sum
def As(hs:s<M.aa.ε):mC M (s+1)=mC M s+M.aa[s].ε:=by
 delta mC;rw[Kz hs,JR,Xl];simp
def tD(I:ao R h L M)(s:θ):mC M s<=M.ax:=by
 delta mC;rw[<-I.ct]
 conv=>rhs;rw[<-Kc s M.aa,JR,Xl]
 exact Jq _ _
def qD(hs:s<M.aa.ε):mC M (s+1)=mC M s+(bp M s).ε:=by
 rw[As hs];unfold bp;rw[Jo hs];rfl
theorem FU{z:Cx}(ha:h[a]?=Qa (.ξ vs)):jJ z (.bi uK) [.ο a] h=Qa (.φ vs.ε,h):=W.eq (AM ha ⟨rfl,rfl⟩)
theorem iQ(z:Cx)(v:ab)(ha:h[a]?=Qa (.ξ vs))(hl:vs.ε<1000000):j1 z (.ο a) fg [v] h h=Qa (.Δ,h.ϩ a (.ξ (vs++[v]))):=W.eq (UG ha ha hl ⟨rfl,rfl⟩)
def zfX(z:Cx){xs:ζ θ}(i:θ)(ha:h[a]?=Qa (.ξ (di xs)))(hl:xs.ε<1000000):j1 z (.ο a) fg [.φ i] h h=Qa (.Δ,h.ϩ a (.ξ (di (xs++[i])))):=by
 rw[iQ z _ ha (by rw[mT];exact hl)];delta di;rw[JR];rfl
abbrev pE:θ:=495873782885
abbrev Mm:θ:=6386275
abbrev G0:θ:=422608071022
abbrev zkn:θ:=6647396
def LZ(hd:2<=d)(I:ao R h L M)(hl:M.aa.ε<10000):∃g,j1 (ah P0 d) (.ο L.m) pE [] h h=Qa (.φ M.aa.ε,g)/\ao R g (L.TF h.ε) M.TF/\lR h g [L.aA,L.aE]:=by
 refine(W.xL (jX (P:=P0) (kY (n:=pE) I.fb rfl rfl) (LY (Q:=λv g=>v=.φ M.aa.ε/\ao R g (L.TF h.ε) M.TF/\lR h g [L.aA,L.aE]) hd I hl λg I' K=>⟨rfl,I',K⟩))).ι λv zq5=>zq5.ι λg zq6=>?_;refine eqE zq6.2.1 ?_;exact⟨g,zq6.1,zq6.2.2⟩
def zc4{a:Ar R.α}(hd:4<=d)(I:ao R h L M)(hs:s<M.aa.ε)(ht:a.t<M.aa.ε)(lu:dh a.up)(ll:dh a.lo)(hw:R.D p k a.w)(hl:4*p+k<=3800)(hc:M.ax<100000)(hz:a.w≠R.Ι):∃g,j1 (ah P0 d) (.ο L.m) Mm [.φ s,.Υ a.up,.Υ a.lo,R.e a.w,.φ a.t] h h=Qa (.Δ,g)/\ao R g L (M.fy s a)/\lR h g (ff L):=by
 refine(W.xL (jX (P:=P0) (kY (n:=Mm) I.fb rfl rfl) (Nl (Q:=λv g=>v=.Δ/\ao R g L (M.fy s a)/\lR h g (ff L)) hd I hs ht lu ll hw hl hc λg M' I' K _ hM=>⟨rfl,hM hz▸I',K⟩))).ι λv zq3=>zq3.ι λg zq4=>?_;refine eqE zq4.2.1 ?_;exact⟨g,zq4.1,zq4.2.2⟩
variable{w:R.α}
def M9(hd:4<=d)(I:ao R h L M)(hs:s<M.aa.ε)(hw:R.D p k w)(hl:4*p+k<=3800):∃g,j1 (ah P0 d) (.ο L.m) G0 [.φ s,R.e w] h h=Qa (.Δ,g)/\ao R g L {M with start:=s,first:=w} /\lR h g (ff L):=by
 refine(W.xL (jX (P:=P0) (kY (n:=G0) I.fb rfl rfl) (Di (Q:=λv g=>v=.Δ/\ao R g L {M with start:=s,first:=w} /\lR h g (ff L)) hd I hs hw hl λg I' K=>⟨rfl,I',K⟩))).ι λv zq1=>zq1.ι λg zq2=>?_;refine eqE zq2.2.1 ?_;exact⟨g,zq2.1,zq2.2.2⟩
theorem Ah(I:ao R h L M):M.aa.ε<=100000:=Jm I.bc (by decide)
variable{xs:List (Ar R.α)}
theorem Bx.le{r:θ}(H:Bx R h r as xs)(I:ao R g L M)(hm:xs∈M.aa):(as.ς ab.ο).ε<=100000:=H.n▸Jm (I.cr _ hm) I.cl
def wD(mb:ζ Ε):θ:=mb.countP (!·)
def EZ(hk:mb[k]?=Qa Qb):wD (mb.ϩ k Qe)+1=wD mb:=by
 delta wD;refine(Jx.mp hk).ι λhl zq7=>?_;rw[(ζ.countP_set (p:=λb:Ε=>!b) (l:=mb) (i:=k) (a:=Qe) hl),zq7]
 have:0<mb.countP (!·):=ζ.countP_pos_iff.Ϩ ⟨Qb,Jr hk,rfl⟩
 simp only[Ε.not_false,Ε.not_true]
 simp
 exact YL (J9 this)
def VK(fs:ζ θ)(bh:ζ (ζ θ))(mb:ζ Ε):Prop:=(∀s∈fs,mb[s]?=Qa Qe)/\∀P:θ->Prop,(∀s∈fs,P s)->(∀s xs,P s->bh[s]?=Qa xs->∀o∈xs,P o)->∀s:θ,mb[s]?=Qa Qe->P s
section
variable{fs:List Nat}{bh:List (List Nat)}{mb:List Bool}(ψ:VK fs bh mb)
def VK.jp:=@ψ.1
def VK.uk:=@ψ.2
end
section
variable{h0:MH}
def xR{b:Ε}(h:mb[k]?=Qa b):(mb.ς ab.ϝ)[k]?=Qa (.ϝ b):=by rw[JA,h];rfl
structure mz where
 mb:ζ Ε
 wk:ζ θ
 a:η ab
 b:η ab
abbrev MX:=MH×θ×θ×θ×ae×θ×ζ θ×ζ (ζ θ)
section
variable(ψ:MX)
abbrev MX.h:=ψ.1
abbrev MX.m:=ψ.2.1
abbrev MX.f:=ψ.2.2.1
abbrev MX.b:=ψ.2.2.2.1
abbrev MX.x0:=ψ.2.2.2.2.1
abbrev MX.n:=ψ.2.2.2.2.2.1
abbrev MX.fs:=ψ.2.2.2.2.2.2.1
abbrev MX.bh:=ψ.2.2.2.2.2.2.2
end
def mG(X:MX)(s:mz):MH:=X.h++[X.x0,.ξ (s.mb.ς ab.ϝ),.ξ (di s.wk)]
def mF(X:MX)(a b:η ab):Ρ.Θ:=Qa (.ο X.m)::Qa (.ο X.f)::Qa (.ο X.b)::Qa (.ο (X.h.ε+1))::Qa (.ο (X.h.ε+2))::a::b::nn 6
section
variable{X:MX}{R':Fl->Internal.Frame->MH->Prop}{s:mz}
theorem ze4:(mG X s)[X.h.ε+1]?=Qa (.ξ (s.mb.ς ab.ϝ)):=mU
theorem IV:(mG X s)[X.h.ε+2]?=Qa (.ξ (di s.wk)):=mU
theorem ze3:(mG X s).ϩ (X.h.ε+1) (.ξ (mb.ς ab.ϝ))=mG X {s with mb:=mb}:=Hi
theorem S5:(mG X s).ϩ (X.h.ε+2) (.ξ (di wk))=mG X {s with wk:=wk}:=Hi
def zd(X:MX)(i:θ)(s:mz):Prop:=s.wk=X.fs/\s.mb.ε=X.n/\(∀y∈X.fs.ϣ i,s.mb[y]?=Qa Qe)/\∀y:θ,s.mb[y]?=Qa Qe->y∈X.fs
section
variable{X:MX}{i:Nat}{s:mz}(ψ:zd X i s)
def zd.w:=@ψ.1
def zd.l:=@ψ.2.1
def zd.h1:=@ψ.2.2.1
def zd.h2:=@ψ.2.2.2
end
theorem sM(X:MX)(s:mz){o:θ}{b:Ε}(e:s.mb[o]?=Qa b):kJ (mG X s) (.ο (X.h.ε+1)) (.φ o)=Qa (.ϝ b):=sl ze4 (xR e)
def IW(X:MX)(s:mz){y:θ}(v:Ε)(hn:y<s.mb.ε):lT (mG X s) (.ο (X.h.ε+1)) (.φ y) (.ϝ v)=Qa (mG X {s with mb:=s.mb.ϩ y v}):=by rw[zbf ze4 (by rw[Js];exact hn),map_set',ze3]
def ze8{y:θ}(P:zd X i s)(hy:X.fs[i]?=Qa y)(hn:y<X.n)(q:∀s',zd X (i+1) s'->R' .nx (mF X s'.a s'.b) (mG X s')):bz (ah P0 d) [.fm (.sb (.Λ 3) (.Λ 5)) (.f8 (.ϝ Qe))] (mF X (Qa (.φ y)) s.b) (mG X s) R':=by
 have hsn:y<s.mb.ε:=by rw[P.l];exact hn
 have N:zd X (i+1) {s with mb:=s.mb.ϩ y Qe,a:=Qa (.φ y)}:=by
  refine⟨P.w,by show (s.mb.ϩ y Qe).ε=_;rw[J0];exact P.l,λz hz=>?_,λz hz=>?_⟩
  ·show (s.mb.ϩ y Qe)[z]?=_
   rw[Ku,hy] at hz;by_cases e:y=z
   ·refine eqE e ?_;rw[JX hsn]
   ·rw[JZ e]
    exact(Zd.mp hz).ι (P.h1 z) λhz=>υ (JI.mp (by simpa using hz)).Μ e
  ·by_cases e:y=z
   ·refine eqE e ?_;exact Jr hy
   ·rw[JZ e] at hz;exact P.h2 z hz
 exact jT (.h (IW X s Qe hsn)<|.z (q _ N)) rfl
def zc(X:MX)(k:θ)(s:mz):Prop:=k=2*wD s.mb+s.wk.ε/\k<=30000/\s.mb.ε=X.n/\VK X.fs X.bh s.mb/\(∀y∈s.wk,s.mb[y]?=Qa Qe)/\∀(y:θ) xs,s.mb[y]?=Qa Qe->y∉s.wk->X.bh[y]?=Qa xs->∀o∈xs,s.mb[o]?=Qa Qe
section
variable{X:MX}{k:Nat}{s:mz}(ψ:zc X k s)
def zc.kk:=@ψ.1
def zc.kl:=@ψ.2.1
def zc.l:=@ψ.2.2.1
def zc.B:=@ψ.2.2.2.1
def zc.w:=@ψ.2.2.2.2.1
def zc.c:=@ψ.2.2.2.2.2
end
def wm(X:MX)(y:θ)(xs:ζ θ)(k:θ)(j:θ)(s:mz):Prop:=2*wD s.mb+s.wk.ε<=k/\s.mb.ε=X.n/\VK X.fs X.bh s.mb/\s.mb[y]?=Qa Qe/\(∀z∈s.wk,s.mb[z]?=Qa Qe)/\(∀(z:θ) xs,s.mb[z]?=Qa Qe->z∉s.wk->z≠y->X.bh[z]?=Qa xs->∀o∈xs,s.mb[o]?=Qa Qe)/\∀o∈xs.ϣ j,s.mb[o]?=Qa Qe
section
variable{X:MX}{y:Nat}{xs:List Nat}{k:Nat}{j:Nat}{s:mz}(ψ:wm X y xs k j s)
def wm.kk:=@ψ.1
def wm.l:=@ψ.2.1
def wm.B:=@ψ.2.2.1
def wm.yy:=@ψ.2.2.2.1
def wm.w:=@ψ.2.2.2.2.1
def wm.c:=@ψ.2.2.2.2.2.1
def wm.t:=@ψ.2.2.2.2.2.2
end
def zce(X:MX)(s:mz)(z:Cx):jJ z (.bi uK) [.ο (X.h.ε+2)] (mG X s)=Qa (.φ s.wk.ε,mG X s):=by rw[FU IV,mT]
theorem zcf(X:MX)(s:mz)(z:Cx)(o:θ)(hl:s.wk.ε<1000000):j1 z (.ο (X.h.ε+2)) fg [.φ o] (mG X s) (mG X s)=Qa (.Δ,mG X {s with wk:=s.wk++[o]}):=(zfX z o IV hl).ν (by rw[S5])
abbrev bZ:ζ Sm:=[.ite (.not (.wr (.Λ 3) (.Λ 6))) [.fm (.sb (.Λ 3) (.Λ 6)) (.f8 (.ϝ Qe)),.expr (.az (.Λ 4) fg [.Λ 6])] []]
def wm.TF{y o:θ}{xs:ζ θ}(P:wm X y xs k j s)(hx:X.bh[y]?=Qa xs)(ho:xs[j]?=Qa o)(he:s.mb[o]?=Qa Qb):wm X y xs k (j+1) {s with mb:=s.mb.ϩ o Qe,wk:=s.wk++[o],b:=Qa (.φ o)}:=by
 have up:∀{z:θ},s.mb[z]?=Qa Qe->(s.mb.ϩ o Qe)[z]?=Qa true:=λ{z} hz=>by
  rw[JZ λe=>by subst e;rw[he] at hz;exact nomatch hz];exact hz
 have dn:∀{z:θ},(s.mb.ϩ o Qe)[z]?=Qa Qe->z=o\/s.mb[z]?=Qa true:=λ{z} hz=>by
  by_cases e:o=z
  ·exact .nb e.Μ
  ·rw[JZ e] at hz;exact .u8 hz
 refine⟨?_,by show (s.mb.ϩ o Qe).ε=_;rw[J0];exact P.l,⟨λz hz=>up (P.B.jp z hz),λT p1 p2 z hz=>?_⟩,up P.yy,λz hz=>?_,λz zs e1 e2 e3 e4 w hw=>?_,λz hz=>?_⟩
 ·refine Jm ?_ P.kk
  simp only[Ju,<-(EZ he),Kv,ZG];exact Ze _
 ·exact(dn hz).ι (λe=>e▸p2 y xs (P.B.uk T p1 p2 y P.yy) hx o (Jr ho)) (P.B.uk T p1 p2 z)
 ·exact(Zd.mp hz).ι (λhz=>up (P.w z hz)) λhz=>(JI.mp hz)▸(JX (jI he):(s.mb.ϩ o Qe)[o]?=Qa Qe)
 ·exact(dn e1).ι (λe=>υ (Zd.Ϩ (.u8 (e▸ .mo _))) e2) λe1=>up (P.c z zs e1 (λq=>e2 (Zd.Ϩ (.nb q))) e3 e4 w hw)
 ·rw[Ku,ho] at hz
  exact(Zd.mp hz).ι (λhz=>up (P.t z hz)) λhz=>(JI.mp hz)▸(JX (jI he):(s.mb.ϩ o Qe)[o]?=Qa Qe)
def ze7{y o:θ}{xs:ζ θ}(P:wm X y xs k j s)(hx:X.bh[y]?=Qa xs)(ho:xs[j]?=Qa o)(hn:o<X.n)(hk:k<100000)(q:∀s',wm X y xs k (j+1) s'->R' .nx (mF X (Qa (.φ y)) s'.b) (mG X s')):
  bz (ah P0 d) bZ (mF X (Qa (.φ y)) (Qa (.φ o))) (mG X s) R':=by
 have hon:o<s.mb.ε:=by rw[P.l];exact hn
 have hoe:=Jo hon;refine rY (s.mb[o]) (λhb=>?_) λhb=>?_
 ·rw[hb] at hoe
  have N:wm X y xs k (j+1) {s with b:=Qa (.φ o)}:=⟨P.kk,P.l,P.B,P.yy,P.w,P.c,λz hz=>by
   rw[Ku,ho] at hz;exact(Zd.mp hz).ι (P.t z) λhz=>(JI.mp hz)▸hoe⟩
  exact jT (.v (sM X s hoe)<|.c2<|.z (q _ N)) rfl
 ·rw[hb] at hoe
  have hw:s.wk.ε<1000000:=Jt (Jm (Jz _ _) P.kk) (Zp hk (by decide));exact jT (.v (sM X s hoe)<|.c2<|.h (IW X s Qe hon)<|.p (zcf X {s with mb:=s.mb.ϩ o Qe} (ah P0 d) o hw)<|.z (q _ (P.TF hx ho hoe))) rfl
end
def cZ(X:MX):Prop:=tN X.h X.b X.bh/\X.bh.ε=X.n/\(∀s∈X.fs,s<X.n)/\X.fs.ε<=10000/\∀xs∈X.bh,xs.ε<=100000/\∀o∈xs,o<X.n
section
variable{X:MX}(ψ:cZ X)
def cZ.A:=@ψ.1
def cZ.hl:=@ψ.2.1
def cZ.uo:=@ψ.2.2.1
def cZ.qz:=@ψ.2.2.2.1
def cZ.um:=@ψ.2.2.2.2
end
def MD(X:MX)(s:mz):Prop:=s.mb.ε=X.n/\VK X.fs X.bh s.mb/\∀(y:θ) xs,s.mb[y]?=Qa Qe->X.bh[y]?=Qa xs->∀o∈xs,s.mb[o]?=Qa Qe
section
variable{X:MX}{s:mz}(ψ:MD X s)
def MD.l:=@ψ.1
def MD.B:=@ψ.2.1
def MD.c:=@ψ.2.2
end
section
variable{X:MX}(O:cZ X)
include O
abbrev m0(X:MX):mz:=⟨JU X.n Qb,X.fs,Qc,Qc⟩
def zjw:∃s,zd X X.fs.ε s/\exec (ah P0 d) (.fo [5] Qb (.Λ 4) [.fm (.sb (.Λ 3) (.Λ 5)) (.f8 (.ϝ Qe))]) (mF X Qc Qc) (mG X (m0 X))=Qa ((.nx,mF X s.a s.b),mG X s):=by
 have:=pb (c:=ah P0 d) (tg:=[5]) (many:=Qb) (a:=X.h.ε+2) (e:=.Λ 4) (b:=[.fm (.sb (.Λ 3) (.Λ 5)) (.f8 (.ϝ Qe))]) (vs:=di X.fs) (λs:mz=>mF X s.a s.b) (mG X) (zd X) (m0 X) (by rw[mT];exact Jm O.qz (by decide)) rfl (λi s P=>by have e:= @IV X s;rw[show s.wk=X.fs from P.w] at e;exact e) (by exact j2 (.z (cg (.ο (X.h.ε+2)) (mG X (m0 X)))) (by kernel_rfl)) ⟨rfl,Zy ..,(λs hs=>υ hs JE),λs hs=>JJ (Zc (Jr hs))⟩ λi v s R1 _ hv P1 T1=>by
  obtain⟨y,hy,rfl⟩:=z9 hv;exact kP (ze8 P1 hy (O.uo y (Jr hy)) T1.nx)
 rwa [mT] at this
abbrev d4:Sm:=.fo [6] Qb (.wr (.Λ 2) (.Λ 5)) bZ
def zju{y:θ}{s:mz}(P:zc X k s)(hw:s.wk=wk++[y]):∃s',(∃j,j<k/\zc X j s')/\exec (ah P0 d) d4 (mF X (Qa (.φ y)) s.b) (mG X {s with wk:=wk})=Qa ((.nx,mF X s'.a s'.b),mG X s'):=by
 have hym:=P.w y (hw▸Zd.Ϩ (.u8 (.mo _)));have hyn:y<X.bh.ε:=by rw[O.hl,<-P.l];exact jI hym
 refine xEAA O.A λrs A1 A2 A3=>?_;have hxe:=Jo hyn;have hkk:2*wD s.mb+wk.ε+1=k:=by rw[P.kk,hw,Ju];rfl
 have hx:=O.um _ (Zg hyn);obtain⟨s',P3,e⟩:=pb (c:=ah P0 d) (tg:=[6]) (many:=Qb) (a:=rs[y]) (e:=.wr (.Λ 2) (.Λ 5)) (b:=bZ) (vs:=di X.bh[y]) (λs:mz=>mF X (Qa (.φ y)) s.b) (mG X) (wm X y X.bh[y] (2*wD s.mb+wk.ε)) {s with wk:=wk} (by rw[mT];exact hx.1) rfl (λi s P=>jA (A3 y _ _ (Jo (l:=rs) (i:=y) (by rw[A2];exact hyn)) hxe)) (by exact j2 (.v (sl (jA (t:=[X.x0,.ξ (s.mb.ς ab.ϝ),.ξ (di wk)]) A1) (qT (Jo (l:=rs) (i:=y) (by rw[A2];exact hyn))))<|.z (cg (.ο rs[y]) (mG X {s with wk:=wk}))) rfl) ⟨Jv _,P.l,P.B,hym,λx hx=>P.w x (hw▸Zd.Ϩ (.nb hx)),λz ys e1 e2 e3=>P.c z ys e1 λq=>by
    rw[hw] at q;exact(Zd.mp q).ι e2 λq=>e3 (JI.mp q),λo ho=>υ ho JE⟩ λi v s R1 _ hv P1 T1=>by
  refine xEA (z9 hv) λo ho cw=>?_;refine eqB cw ?_;exact kP (ze7 P1 hxe ho (hx.2 o (Jr ho)) (Jw (KA (JC hkk)) (Jm P.kl (Jz _ _))) T1.nx)
 have kt:=P3.t;rw[mT,JW] at kt;refine⟨{s' with a:=Qa (.φ y)},⟨_,Jt P3.kk (hkk▸JT _),rfl,Jm P3.kk (XJ (Jm (JC hkk) P.kl)),P3.l,P3.B,P3.w,λz ys e1 e2 e3=>?_⟩,e⟩;by_cases e:z=y
 ·subst e
  rw[show X.bh[z]?=Qa ys from e3] at hxe;refine soB hxe ?_;exact kt
 ·exact P3.c z ys e1 e2 e e3
abbrev d5:ζ Sm:=[.fm (.nm 5) (.az (.Λ 4) qw []),d4]
def zjv{s:mz}(P:zc X k s):∃s',MD X s'/\exec (ah P0 d) (.wh (.ft .gt (.ϧ (.f8 (.bi uK)) [.Λ 4]) (.f8 (.φ 0))) d5) (mF X s.a s.b) (mG X s)=Qa ((.nx,mF X s'.a s'.b),mG X s'):=by
 refine eH (c:=ah P0 d) (t:=.ft .gt (.ϧ (.f8 (.bi uK)) [.Λ 4]) (.f8 (.φ 0))) (b:=d5) (λs:mz=>mF X s.a s.b) (mG X) (zc X) (MD X) s (Jm P.kl (by decide)) rfl P λk s P=>⟨decide ((0:Τ)<(s.wk.ε:θ)),?_,λhc R' _ T=>?_,λhc=>?_⟩
 ·exact j2 (.p (zce X s (ah P0 d))<|.c<|.z (cg (.ϝ (decide ((0:Τ)<(s.wk.ε:θ)))) (mG X s))) rfl
 ·obtain⟨wk,y,hw⟩:∃wk y,s.wk=wk++[y]:=⟨s.wk.dropLast,s.wk.getLast (ζ.ne_nil_of_length_pos (ZF.mp (dT hc):0<s.wk.ε)),(Xj _).Μ⟩
  refine(zju (d:=d) O P hw).ι λs' zq3=>?_;have e1:j1 (ah P0 d) (.ο (X.h.ε+2)) qw [] (mG X s) (mG X s)=Qa (.φ y,mG X {s with wk:=wk}):=by
   exact W.eq (zaJ IV (by rw[<-(by rw[hw];exact JR .. :di s.wk=di wk++[.φ y])];exact IV) ⟨rfl,S5⟩)
  exact jT (.p (e1)<|.s (zq3.2)<|.z (T.nx s' zq3.1)) rfl
 ·exact⟨P.l,P.B,λy xs e1=>P.c y xs e1 (by rw[(ZZ.mp (by have:=dF hc;lia):s.wk=[])];exact JE)⟩
end
def zcg{f:θ}{fs:ζ θ}(hd:2<=d)(I:ao R h L M)(hf:h[f]?=Qa (.ξ (di fs)))(A:tN h b bh)(hl:bh.ε=M.aa.ε)(uo:∀s∈fs,s<M.aa.ε)(qz:fs.ε<=10000)(aC:∀xs∈bh,xs.ε<=100000/\∀o∈xs,o<M.aa.ε)
  (q:∀mb t,mb.ε=M.aa.ε->VK fs bh mb->(∀(s:θ) xs,mb[s]?=Qa Qe->bh[s]?=Qa xs->∀o∈xs,mb[o]?=Qa Qe)->(h++t)[h.ε+1]?=Qa (.ξ (mb.ς ab.ϝ))->Q (.ο (h.ε+1)) (h++t)):WF P0 d 124 [.ο L.m,.ο f,.ο b] h Q:=by
 refine j7 (K:=1) hd (Qa (.ο L.m)::Qa (.ο f)::Qa (.ο b)::nn 10) rK rfl λd' h'=>?_;refine xEA (zjw (d:=d') (⟨A,hl,uo,qz,aC⟩:cZ ⟨h,L.m,f,b,.ξ [.ϝ Qb],M.aa.ε,fs,bh⟩)) λs P e=>?_;have h1:=P.h1;rw[JW] at h1;have hw:s.wk=fs:=P.w;have P2:zc ⟨h,L.m,f,b,.ξ [.ϝ Qb],M.aa.ε,fs,bh⟩ (2*wD s.mb+s.wk.ε) s:=⟨rfl,by
   have h2:wD s.mb<=s.mb.ε:=ζ.countP_le_length ..;rw[show s.mb.ε=M.aa.ε from P.l] at h2
   have:=I.bc
   rw[hw]
   lia,P.l,⟨h1,λT p1 _ y hy=>p1 y (P.h2 y hy)⟩,λy hy=>h1 y (hw▸hy),λy xs hy hn=>υ (hw.Μ▸P.h2 y hy) hn⟩
 refine(zjv (d:=d') (⟨A,hl,uo,qz,aC⟩:cZ ⟨h,L.m,f,b,.ξ [.ϝ Qb],M.aa.ε,fs,bh⟩) P2).ι λs' zq1=>?_;have e1:oZ .lv (.ο h.ε) (.φ M.aa.ε) (h++[.ξ [.ϝ Qb]])=Qa (.ο (h.ε+1),h++[.ξ [.ϝ Qb],.ξ ((JU M.aa.ε Qb).ς ab.ϝ)]):=by
  refine W.eq (AU (n:=M.aa.ε) ak (oF (Jt I.bc (by decide))) (by show 1*_<=_;rw[ZS];exact oF (Jt I.bc (by decide))) ⟨by rw[Ju];rfl,?_⟩);rw[Ed,JB,<-Xs];rfl
 have e2:jJ (ah P0 d') (.ty Hw) [.ο f] (h++[.ξ [.ϝ Qb],.ξ ((JU M.aa.ε Qb).ς ab.ϝ)])=Qa (.ο (h.ε+2),mG ⟨h,L.m,f,b,.ξ [.ϝ Qb],M.aa.ε,fs,bh⟩ (m0 ⟨h,L.m,f,b,.ξ [.ϝ Qb],M.aa.ε,fs,bh⟩)):=by
  refine W.eq (NL (jA hf) ⟨by rw[Ju];rfl,?_⟩);rw[JB];rfl
 exact jT (.p (pF (h:=h++[.ξ [.ϝ Qb]]) h' I.cu)<|.p (e1)<|.p (e2)<|.s (e)<|.s (zq1.2)<|.z (q s'.mb [.ξ [.ϝ Qb],.ξ (s'.mb.ς ab.ϝ),.ξ (di s'.wk)] zq1.1.l zq1.1.B zq1.1.c mU)) rfl
end
def VO(h hh:MH)(rs:ζ θ)(bh:ζ (ζ θ)):Prop:=(∃t,hh=h++t)/\hh[h.ε]?=Qa (.ξ (rs.ς .ο))/\rs.ε=bh.ε/\(∀r∈rs,h.ε<r)/\rs.ϥ/\∀(k r:θ)(xs:ζ θ),rs[k]?=Qa r->bh[k]?=Qa xs->hh[r]?=Qa (.ξ (di xs))
section
variable{h hh:MH}{rs:List Nat}{bh:List (List Nat)}(ψ:VO h hh rs bh)
def VO.cu:=@ψ.1
def VO.cK:=@ψ.2.1
def VO.am:=@ψ.2.2.1
def VO.nu:=@ψ.2.2.2.1
def VO.nd:=@ψ.2.2.2.2.1
def VO.LT:=@ψ.2.2.2.2.2
end
theorem sG{t:MH}{r:θ}(hr:h.ε<=r):(h++t).ϩ r o=h++t.ϩ (r-h.ε) o:=Yn _ _ hr
def VO.Tj{r:θ}{xs:ζ θ}(A:VO h hh rs bh)(hr:rs[k]?=Qa r)(hx:bh[k]?=Qa xs):VO h (hh.ϩ r (.ξ (di (xs++[s])))) rs (bh.ϩ k (xs++[s])):=by
 refine A.cu.ι λt zq12=>?_;obtain rfl:=zq12;have hm:=A.nu r (Jr hr);refine⟨⟨_,sG (JL hm)⟩,jP (Kj hm) A.cK,by rw[J0];exact A.am,A.nu,A.nd,λk' r' xs' hr' hx'=>?_⟩;by_cases e:k=k'
 ·subst e
  rw[hr] at hr';refine lN hr' ?_;rw[JX (jI hx)] at hx';refine lN hx' ?_;exact j8 (A.LT k r xs hr hx)
 ·rw[JZ e] at hx'
  refine jP (λq=>?_) (A.LT k' r' xs' hr' hx');subst q;obtain⟨l1,e1⟩:=Jx.mp hr;exact(Jx.mp hr').ι λl2 zq10=>e (YA A.nd|>.mp (e1.ν zq10.Μ))
theorem VO.yn(A:VO h hh rs bh):tN hh h.ε bh:=⟨rs,A.cK,A.am,A.LT⟩
section
variable{h0:MH}
def mM(M:Mc R.α)(i j:θ)(bh:ζ (ζ θ)):Prop:=bh.ε=M.aa.ε/\(bh.ς ZP).sum=((M.aa.ϣ i).ς ZP).sum+j/\∀(k:θ) xs,bh[k]?=Qa xs->∀s,s∈xs ↔ ∃ys,M.aa[s]?=Qa ys/\((s<i/\∃a∈ys,a.t=k)\/(s=i/\∃a∈ys.ϣ j,a.t=k))
section
variable{M:Mc R.α}{i j:Nat}{bh:List (List Nat)}(ψ:mM M i j bh)
def mM.am:=@ψ.1
def mM.sum:=@ψ.2.1
def mM.mem:=@ψ.2.2
end
def mM.step{xs:ζ θ}{ys:ζ (Ar R.α)}{a:Ar R.α}(B:mM M i j bh)(hy:M.aa[i]?=Qa ys)(ha:ys[j]?=Qa a)(hk:a.t=k)(hx:bh[k]?=Qa xs):mM M i (j+1) (bh.ϩ k (xs++[i])):=by
 obtain⟨hkl,e⟩:=Jx.mp hx;subst e;refine⟨by rw[J0];exact B.am,by rw[Es hkl,B.sum];exact J6 _ _ _,λk' xs' hx' s=>?_⟩;have tk:∀{b},b∈ys.ϣ (j+1) ↔ b∈ys.ϣ j\/b=a:=λ{b} =>by
  rw[Ku,ha,Zd];simp
 by_cases e:k=k'
 ·subst e
  rw[JX hkl] at hx';refine lN hx' ?_;refine Zd.ν ?_;rw[B.mem k _ hx s,JI]
  constructor
  ·rintro (⟨zs,h1,h2| ⟨h2,b,h3,h4⟩⟩|rfl)
   ·exact⟨zs,h1,.nb h2⟩
   ·exact⟨zs,h1,.u8 ⟨h2,b,by subst h2;rw[hy] at h1;obtain rfl:=Qa.dL h1;exact tk.Ϩ (.nb h3),h4⟩⟩
   ·exact⟨ys,hy,.u8 ⟨rfl,a,tk.Ϩ (.u8 rfl),hk⟩⟩
  ·rintro ⟨zs,h1,h2| ⟨rfl,b,h3,h4⟩⟩
   ·exact .nb ⟨zs,h1,.nb h2⟩
   ·exact .u8 rfl
 ·rw[JZ e] at hx'
  refine(B.mem k' xs' hx' s).ν ?_
  constructor
  ·rintro ⟨zs,h1,h2| ⟨h2,b,h3,h4⟩⟩
   ·exact⟨zs,h1,.nb h2⟩
   ·exact⟨zs,h1,.u8 ⟨h2,b,by subst h2;rw[hy] at h1;obtain rfl:=Qa.dL h1;exact tk.Ϩ (.nb h3),h4⟩⟩
  ·rintro ⟨zs,h1,h2| ⟨h2,b,h3,h4⟩⟩
   ·exact⟨zs,h1,.nb h2⟩
   ·refine⟨zs,h1,.u8 ⟨h2,b,?_,h4⟩⟩
    subst h2;rw[hy] at h1;obtain rfl:=Qa.dL h1;rcases tk.mp h3 with h3|rfl
    ·exact h3
    ·exact υ (hk.Μ.ν h4) e
def mM.Ϭ{ys:ζ (Ar R.α)}(B:mM M i ys.ε bh)(hy:M.aa[i]?=Qa ys):mM M (i+1) 0 bh:=by
 obtain⟨hil,e⟩:=Jx.mp hy;refine⟨B.am,?_,λk xs hx s=>?_⟩
 ·rw[B.sum,Kz hil,JR,Xl,e];simp
 ·refine(B.mem k xs hx s).ν ?_
  constructor
  ·rintro ⟨zs,h1,⟨h2,h3⟩| ⟨h2,h3⟩⟩
   ·exact⟨zs,h1,.nb ⟨qa1 _ h2,h3⟩⟩
   ·subst h2;rw[hy] at h1;obtain rfl:=Qa.dL h1
    rw[JW] at h3;exact⟨ys,hy,.nb ⟨JT _,h3⟩⟩
  ·rintro ⟨zs,h1,⟨h2,h3⟩| ⟨h2,b,h3,_⟩⟩
   ·by_cases e:s=i
    ·subst e;rw[hy] at h1;obtain rfl:=Qa.dL h1
     exact⟨ys,hy,.u8 ⟨rfl,by rw[JW];exact h3⟩⟩
    ·exact⟨zs,h1,.nb ⟨ZI (J7 h2) e,h3⟩⟩
   ·exact υ h3 JE
def VO.im(A:VO h hh rs bh)(I:ao R h L M):ao R hh L M:=by obtain⟨t,rfl⟩:=A.cu;exact I.cu
def VO.up(A:VO h hh rs bh)(e:h[a]?=Qa o):hh[a]?=Qa o:=by obtain⟨t,rfl⟩:=A.cu;exact jA e
abbrev BS:=MH×ζ (ζ θ)×η ab×η ab
section
variable(ψ:BS)
abbrev BS.g:=ψ.1
abbrev BS.bh:=ψ.2.1
abbrev BS.a:=ψ.2.2.1
abbrev BS.b:=ψ.2.2.2
end
abbrev aI(L:Ly)(n:θ)(a b:η ab):Ρ.Θ:=Qa (.ο L.m)::Qa (.ο n)::a::b::nn 6
def BP(h:MH)(M:Mc R.α)(rs:ζ θ)(i j:θ)(s:BS):Prop:=VO h s.g rs s.bh/\mM M i j s.bh
section
variable{h:MH}{M:Mc R.α}{rs:List Nat}{i j:Nat}{s:BS}(ψ:BP h M rs i j s)
def BP.A:=@ψ.1
def BP.B:=@ψ.2
end
abbrev eL:ζ Sm:=[.expr (.az (.wr (.Λ 1) (.aq (.Λ 3) qA)) fg [.Λ 2])]
abbrev eK:Sm:=.fo [3] Qb (.wr (.aq (.Λ 0) jY) (.Λ 2)) eL
def R8(I:ao R h L M){xs:ζ θ}(B:mM M i j bh)(hi:i<M.aa.ε)(hj:j<(bp M i).ε)(hx:bh[k]?=Qa xs):xs.ε<1000000:=by
 have h1:=GY (Jr hx);rw[B.sum] at h1;have h2:=tD I (i+1);rw[qD hi] at h2;exact Jt (Jm h1 (Jm (Jp (JL hj) _) h2)) (Jt I.cl (by decide))
def zcS{s:BS}(I:ao R h L M)(ht:∀ys∈M.aa,∀a∈ys,a.t<M.aa.ε)(hi:i<M.aa.ε)(P:BP h M rs i 0 s):
  ∃s',BP h M rs (i+1) 0 s'/\exec (ah P0 d) eK (aI L h.ε (Qa (.φ i)) s.b) s.g=Qa ((.nx,aI L h.ε (Qa (.φ i)) s'.b),s'.g):=by
 refine(I.ng hi).ι λr zq6=>zq6.ι λas zq7=>?_;have hie:M.aa[i]?=Qa (bp M i):=by unfold bp;rw[Jo hi];rfl
 refine(pb (c:=ah P0 d) (tg:=[3]) (many:=Qb) (a:=r) (e:=.wr (.aq (.Λ 0) jY) (.Λ 2)) (b:=eL) (vs:=as.ς .ο) (λs:BS=>aI L h.ε (Qa (.φ i)) s.b) BS.g (λj=>BP h M rs i j) s (zq7.2.1.le I zq7.2.2) rfl (λj s P=>P.A.up zq7.2.1.l) (by exact j2 (.v (mW (P.A.im I))<|.v (sl (P.A.im I).aa zq7.1)<|.z (cg (.ο r) s.g)) rfl) P λj v s X _ hv P T=>?_).ι λs' q=>⟨s',⟨q.1.A,(zq7.2.1.n▸q.1.B).Ϭ hie⟩,q.2⟩;refine xEEAA (zq7.2.1.a j v hv) λb x cw hx hb=>?_;refine eqB cw ?_;have htg:=ht _ zq7.2.2 x (Jr hx);have hr':=Jo (l:=rs) (i:=x.t) (by rw[P.A.am,P.B.am];exact htg);have hx':=Jo (l:=s.bh) (i:=x.t) (by rw[P.B.am];exact htg);exact kP (jT (.v (ry (P.A.up hb))<|.v (sl P.A.cK (qT hr'))<|.p (zfX (ah P0 d) i (P.A.LT _ _ _ hr' hx') (R8 I P.B hi (jI hx) hx'))<|.z (T.nx ⟨_,_,s.a,Qa (.ο b)⟩ ⟨P.A.Tj hr' hx',P.B.step hie hx rfl hx'⟩)) rfl)
def zfU:mM M 0 0 (JU M.aa.ε []):=by
 refine⟨Zy,by simp,λk xs hx s=>?_⟩;rw[Zc (Jr hx)];exact⟨λh=>υ h JE,λ⟨ys,_,q⟩=>q.ι (λq=>υ q.1 (Zb _)) λq=>q.2.ι λb q=>υ q.1 JE⟩
abbrev cO(h:MH)(n:θ):MH:=h++ae.ξ ((J5 (h.ε+1) n).ς ab.ο)::JU n (.ξ [])
def zfZ:VO h (cO h n) (J5 (h.ε+1) n) (JU n []):=by
 refine⟨⟨_,rfl⟩,ak,by rw[KY,Zy],λr hr=>(ζ.mem_range'_1.mp hr).1,ζ.nodup_range' ..,λk r xs hr hx=>?_⟩;obtain⟨hk,e⟩:=Jx.mp hr;rw[ζ.getElem_range',ZS,J6,Kf 1] at e;rw[KY] at hk;rw[Zc (Jr hx),<-e,mU];show (JU _ _)[k]?=_;rw[Kg,ρ hk];rfl
def RZ(I:ao R h L M):eval (ah P0 d) (.comp (.ξ []) [4] Qb (.aq (.Λ 0) jY) []) (Qa (.ο L.m)::nn 9) h=Qa (.ο h.ε,cO h M.aa.ε):=by
 have hn:(L.au.ς ab.ο).ε<200000:=by
  rw[Js,I.am];exact Jt I.bc (by decide)
 refine W.eq (Wm (a:=L.aA) (vs:=L.au.ς .ο) (λ_ ys t=>ys=(J5 (h.ε+1) ys.ε).ς ab.ο/\t=JU ys.ε (.ξ [])) hn (oF hn) ?_);refine W.of (a:=.ο L.aA) (W.eq (by exact j2 (.v (mW I)<|.z (cg (.ο L.aA) h)) rfl:WE (ah P0 d) (Qa (.ο L.m)::nn 9) (.aq (.Λ 0) jY) h λv g=>v=.ο L.aA/\g=h)) ⟨rfl,I.aa,⟨rfl,rfl⟩,λys t v J hv=>?_,λys t hl J=>?_⟩
 ·refine AS (AR ⟨[.ξ []],by rw[JB];rfl,?_,?_⟩)
  ·rw[(λy=>by rw[Ju];rfl:∀y:ab,(ys++[y]).ε=ys.ε+1),qaP,JR,<-J.1]
   congr 2
   simp only[Ju,ZA,J.2,Zy,ZS,J6,Kf 1]
  ·rw[(λy=>by rw[Ju];rfl:∀y:ab,(ys++[y]).ε=ys.ε+1),Kw,<-J.2]
 ·obtain⟨J1,J2⟩:=J
  rw[Js,I.am] at hl;rw[hl] at J1 J2;refine eqB J1 ?_;subst J2;exact⟨rfl,rfl⟩
def R7(hd:2<=d)(I:ao R h L M)(ht:∀ys∈M.aa,∀a∈ys,a.t<M.aa.ε)(q:∀t bh,mM M M.aa.ε 0 bh->tN (h++t) h.ε bh->Q (.ο h.ε) (h++t)):WF P0 d 123 [.ο L.m] h Q:=by
 refine j7 (K:=1) hd (Qa (.ο L.m)::nn 9) nU rfl λd' h'=>?_;obtain⟨s,P,e⟩:=lm (c:=ah P0 d') (x:=2) (n:=M.aa.ε) (e:=.ϧ (.f8 (.ty 491260897125)) [.az (.Λ 0) sP []]) (b:=[eK]) (λs:BS=>aI L h.ε s.a s.b) BS.g (λi=>BP h M (J5 (h.ε+1) M.aa.ε) i 0) ⟨_,_,Qc,Qc⟩ (Ah I) rfl (by exact j2 (.p (pF h' ((zfZ (h:=h) (n:=M.aa.ε)).im I))<|.c<|.z (cg (.gb M.aa.ε) (cO h M.aa.ε))) rfl) ⟨(zfZ (h:=h) (n:=M.aa.ε)),zfU⟩ λi s X _ hi P T=>by
  exact(zcS (d:=d') I ht hi P).ι λs' zq2=>jT (.s (zq2.2)<|.z (T.nx ⟨s'.g,s'.bh,Qa (.φ i),s'.b⟩ ⟨zq2.1.A,zq2.1.B⟩)) rfl
 obtain⟨t,ht⟩:=P.A.cu;have A':=P.A.yn;rw[ht] at A' e;exact jT (.p (RZ (d:=d') I)<|.s (e)<|.z (q t s.bh P.B A')) rfl
end
def pR:ζ θ->θ->ζ (ab×ab)
 | [],_=>[]
 |k::r,o=>(.φ (k:Τ),.φ (o:Τ))::pR r (o+1)
def EB:gc (.φ a) (.φ b)=(a==b):=by
 show ((a:Τ)==(b:Τ))=_;by_cases h:a=b
 ·subst h;simp
 ·rw[Ϟ h,Ϟ];exact λe=>h (Yz.dL e)
def Iq{l:ζ θ}:∀{o:θ},(pR l o).ε=l.ε:=by
 induction l with
 |ϟ=>exact rfl
 |Κ k l ih=>exact χ (· +1) ih
def lL{k k' v:ab}:jO ((k',v)::es) k=bif gc k' k then Qa v else jO es k:=by
 delta jO;simp only[YH];cases gc k' k<;>rfl
def sH{l:ζ θ}:∀{o:θ},jO (pR l o) (.φ k)=if k∈l then Qa (.φ ((o+l.x9 k:θ):Τ)) else none:=by
 induction l with
 |ϟ=>intro o;rfl
 |Κ x l ih=>
  intro o;show jO ((.φ (x:Τ),.φ (o:Τ))::pR l (o+1)) _=_;simp only[lL,EB,ih];by_cases h:x=k
  ·refine eqE h ?_;simp
  ·simp only[Ϟ h,ϯ,ζ.idxOf_cons,Ϟ h,ϯ]
   by_cases hk:k∈l
   ·rw[ρ hk,ρ (qay _ hk)]
    congr 2;lia
   ·rw[π hk,π λq=>(JO.mp q).ι (λe=>h e.Μ) hk]
def FE{l:ζ θ}:∀{o:θ},pR (l++[k]) o=pR l o++[(.φ (k:Τ),.φ ((o+l.ε:θ):Τ))]:=by
 induction l with
 |ϟ=>intro o;rfl
 |Κ x l ih=>
  intro o;show _::pR (l++[k]) (o+1)=_;rw[ih,show o+(x::l).ε=o+1+l.ε by rw[ZA];lia];rfl
def p7{l:ζ θ}{o:θ}:jN (pR l o) (.φ k)=true:=by cases l<;>rfl
def Ip{l:ζ θ}(hk:k∉l){v:ab}(hv:v=.φ (l.ε:θ)):mK (pR l 0) (.φ k) v=pR (l++[k]) 0:=by
 delta mK;rw[sH,π hk,FE,hv,ZK];rfl
section
variable{c:Cx}
def zgS{ep:η θ}{l:ζ θ}(hD:h[D]?=Qa (.Χ ep (pR l 0)))(q:Q (.ϝ (decide (k∈l))) h):WC .ma (.φ k) (.ο D) h Q:=by
 refine Sx (r:=decide (k∈l)) ?_ q;show ba ((j6 h (.ο D)).Η _) ((lV h (.ο D)).Η λd=>aw (jN d.2 (.φ k)) (Qa (jO d.2 (.φ k)).Ψ))=_;rw[p8 hD,nR hD];show aw (jN (pR l 0) (.φ k)) (Qa (jO (pR l 0) (.φ k)).Ψ)=_;rw[p7,sH];by_cases hk:k∈l
 ·rw[ρ hk,Ζ hk];rfl
 ·rw[π hk,Γ hk];rfl
theorem zks{ep:η θ}{l:ζ θ}(hD:h[D]?=Qa (.Χ ep (pR l 0)))(hk:k∈l)(q:Q (.φ (l.x9 k:θ)) h):WI (.ο D) (.φ k) h Q:=
 AP hD p7 (by rw[sH,ρ hk,ZK]) q
def iI{l:ζ θ}(ha:h[a]?=Qa (.ξ (di l))):Ua h (.φ k) (.ο a)=Qa (decide (k∈l)):=by
 show ba ((j6 h (.ο a)).Η λvs=>xX h (.φ k) vs) _=_;rw[l8 ha];show ba (xX h (.φ k) (di l)) _=_;have e:(di l).mapM (ku h 7)=Qa (l.ς λ(x:θ)=>qa2 x):=by
  clear ha
  delta di
  induction l with
  |ϟ=>rfl
  |Κ x l ih=>rw[JY,qas,ih];rfl
 have e2:xX h (.φ k) (di l)=Qa (decide (k∈l)):=by
  delta xX;rw[e];show Qa ((l.ς λ(x:θ)=>qa2 x).any λy=>KF y (.φ k))=_
  congr 1
  rw[ζ.any_map]
  clear ha e
  induction l with
  |ϟ=>rfl
  |Κ x l ih=>
   have ex:KF (.φ (x:Τ)) (.φ (k:Τ))=(x==k):=EB;simp only[ζ.any_cons,ih];show (KF (.φ (x:Τ)) (.φ (k:Τ))||decide (k∈l))=_;rw[ex];by_cases hx:x=k
   ·refine eqE hx ?_;simp
   ·rw[Ϟ hx,qaa]
    by_cases hk:k∈l
    ·rw[Ζ hk,Ζ (qay _ hk)]
    ·rw[Γ hk,Γ λq=>(JO.mp q).ι (λe=>hx e.Μ) hk]
 rw[e2];rfl
end
section
variable{S:List Nat}
def lR.Ch{t:MH}(K:lR (g++t) h' S)(hs:∀a∈S,g.ε<=a):∃t',h'=g++t':=by
 refine⟨h'.bn g.ε,?_⟩;have hl:=K.am;rw[Ju] at hl
 have:g=h'.ϣ g.ε:=by
  refine tZ (by rw[ZC];exact KC (θ.le_min_of_le_of_le (Jv _) (Jm (Jq _ _) hl)) (J7 (JV (KN _ _)))) λi o hi=>?_;rw[ζ.getElem?_take,ρ (jS hi)];exact K.Hd i o (λq=>υ (hs i q) (Xt.Ϩ (jS hi))) (jA hi)
 conv=>rhs;lhs;rw[this]
 exact(Kc ..).Μ
end
section
variable{h0:MH}
def kI(M:Mc R.α)(p k:θ):Prop:=M.Ϥ<M.aa.ε/\(∀ys∈M.aa,∀a∈ys,a.t<M.aa.ε/\dh a.up/\dh a.lo/\R.D p k a.w/\a.w≠R.Ι)/\R.D p k M.jp/\(∀e∈M.aj,R.D p k e)/\4*p+k<=3800/\M.aa.ε<=300/\M.ax<=300
section
variable{M:Mc R.α}{p k:Nat}(ψ:kI M p k)
def kI.st:=@ψ.1
def kI.fy:=@ψ.2.1
def kI.fst:=@ψ.2.2.1
def kI.ed:=@ψ.2.2.2.1
def kI.bd:=@ψ.2.2.2.2.1
def kI.n:=@ψ.2.2.2.2.2.1
def kI.c:=@ψ.2.2.2.2.2.2
end
def xd(M:Mc R.α):ζ (ζ θ):=M.aa.ς λr=>r.ς Ar.t
def Aw(bh:ζ (ζ θ))(mb:ζ Ε):Prop:=∀(s:θ) xs,mb[s]?=Qa Qe->bh[s]?=Qa xs->∀o∈xs,mb[o]?=Qa Qe
def xN(M:Mc R.α)(k:θ):Ε:=!@decide (M.aj[k]?.bm R.Ι=R.Ι) (R.gi _ _)
def Lo(M:Mc R.α)(ks:ζ θ)(mb1 mb2:ζ Ε)(bh:ζ (ζ θ)):Prop:=mb1.ε=M.aa.ε/\VK [M.Ϥ] (xd M) mb1/\Aw (xd M) mb1/\mb2.ε=M.aa.ε/\VK (nM (xN M) M.aa.ε) bh mb2/\Aw bh mb2/\mM M M.aa.ε 0 bh/\ks=nM (λk=>mb1[k]?.bm Qb && mb2[k]?.bm Qb) M.aa.ε
section
variable{M:Mc R.α}{ks:List Nat}{mb1 mb2:List Bool}{bh:List (List Nat)}(ψ:Lo M ks mb1 mb2 bh)
def Lo.l1:=@ψ.1
def Lo.m1:=@ψ.2.1
def Lo.c1:=@ψ.2.2.1
def Lo.l2:=@ψ.2.2.2.1
def Lo.m2:=@ψ.2.2.2.2.1
def Lo.c2:=@ψ.2.2.2.2.2.1
def Lo.b2:=@ψ.2.2.2.2.2.2.1
def Lo.ks:=@ψ.2.2.2.2.2.2.2
end
def eh(M:Mc R.α)(k:θ):R.α:=M.aj[k]?.bm R.Ι
def oQ(ks:ζ θ)(xs:ζ (Ar R.α)):ζ (Ar R.α):=xs.zn λa=>if a.t∈ks then Qa ⟨a.1,a.2.1,a.2.2.1,ks.x9 a.t⟩ else Qc
inductive oK(M:Mc R.α)(ks:ζ θ)(T:Mc R.α):Prop
 |si(h1:M.Ϥ∈ks)(h2:M.jp≠R.Ι)(ha:T.aa=ks.ς λk=>oQ ks (bp M k))(he:T.aj=ks.ς (eh M))(hs:T.Ϥ=ks.x9 M.Ϥ)(hf:T.jp=M.jp):oK M ks T
 |ol(h1:M.Ϥ∉ks\/M.jp=R.Ι)(ha:T.aa=[[]])(he:T.aj=[R.Ι])(hs:T.Ϥ=0)(hf:T.jp=R.da):oK M ks T
def z0{p:θ->Ε}(h:k∈nM p n):k<n/\p k=true:=by
 have:=ZO.mp h
 exact⟨KG.mp this.1,this.2⟩
theorem Eh{p:θ->Ε}:(nM p n).ϥ:=qaf.Ϡ _
def ao.rh(I:ao R h L M)(hk:k<M.aa.ε):(M.aj.ς R.e)[k]?=Qa (R.e (eh M k)):=by
 have:k<M.aj.ε:=by rw[I.du];exact hk
 delta eh;refine(JA).ν ?_;rw[Jo this];rfl
def TS(h g:MH)(m D aK:θ)(ks l:ζ θ)(L:Ly)(M:Mc R.α):Prop:=(∃t,g=h++t)/\g[aK]?=Qa (.ξ (di ks))/\(∃ep,g[D]?=Qa (.Χ ep (pR l 0)))/\ao R g L M/\L.m=m/\∀a∈ff L,h.ε<=a/\a≠aK/\a≠D
section
variable{h g:MH}{m D aK:Nat}{ks l:List Nat}{L:Ly}{M:Mc R.α}(ψ:TS h g m D aK ks l L M)
def TS.Ch:=@ψ.1
def TS.kK:=@ψ.2.1
def TS.dD:=@ψ.2.2.1
def TS.I:=@ψ.2.2.2.1
def TS.em:=@ψ.2.2.2.2.1
def TS.ff:=@ψ.2.2.2.2.2
end
def TS.oe{l:ζ θ}{L':Ly}{M':Mc R.α}(S:TS h g m D aK ks l L M)(K:lR g g' (Tactic.ff L))(I':ao R g' L' M')(em:L'.m=L.m)(ho:∀a∈Tactic.ff L',a∈Tactic.ff L\/g.ε<=a):TS h g' m D aK ks l L' M':=by
 refine S.Ch.ι λt zq36=>?_;obtain rfl:=zq36;obtain⟨ep,hD⟩:=S.dD;have lt:h.ε<=(h++t).ε:=by rw[Ju];exact Jq _ _
 refine⟨K.Ch λa ha=>(S.ff a ha).1,K.Hd _ _ (λq=>(S.ff _ q).2.1 rfl) S.kK,⟨ep,K.Hd _ _ (λq=>(S.ff _ q).2.2 rfl) hD⟩,I',em.ν S.em,λa ha=>?_⟩;rcases ho a ha with ha|ha
 ·exact S.ff a ha
 ·exact⟨Jm lt ha,Kj (Jw (jS S.kK) ha),Kj (Jw (jS hD) ha)⟩
def ao.ow{ep:η θ}(I:ao R h L M)(hD:h[D]?=Qa (.Χ ep es)):ao R (h.ϩ D o) L M:=by
 have g:∀(a:θ)(x:ae),h[a]?=Qa x->(∀ep es,x≠.Χ ep es)->(h.ϩ D o)[a]?=Qa x:=λa x e hn=>jP (λq=>by subst q;exact hn _ _ (Qa.dL (e.Μ.ν hD))) e;refine⟨g _ _ I.fb nofun,g _ _ I.aa nofun,g _ _ I.aj nofun,I.am,I.du,λk r xs hr hx=>?_,I.nd,I.bc,I.ct,I.cl,I.ds.to λ_ _ _ e=>g _ _ e nofun⟩;refine(I.au k r xs hr hx).Ν λa x e ho=>?_;rcases ho with ⟨y,rfl⟩|rfl
 ·exact g _ _ e nofun
 ·obtain⟨as,h1,_⟩:=I.au k a xs hr hx
  refine g _ _ e ?_;rw[h1] at e;refine lN e ?_
  nofun
def TS.put{l:ζ θ}{ep:η θ}(S:TS h g m D aK ks l L M)(hh:h.ε<=D)(hx:x∉l):TS h (g.ϩ D (.Χ ep (pR (l++[x]) 0))) m D aK ks (l++[x]) L M:=by
 refine S.dD.ι λep' zq33=>?_;refine S.Ch.ι λt zq32=>?_;obtain rfl:=zq32;exact⟨⟨_,sG hh⟩,jP (cq zq33 S.kK nofun) S.kK,⟨ep,j8 zq33⟩,S.I.ow zq33,S.em,S.ff⟩
theorem WN{r:θ}:∀a∈Tactic.ff (L.TF r),a∈Tactic.ff L\/a=r:=λa ha=>by
 simp only[Tactic.ff,Ly.TF,JO,Zd,JE,or_false] at ha ⊢;rcases ha with h|h|h|h|h
 ·exact .nb (.nb h)
 ·exact .nb (.u8 (.nb h))
 ·exact .nb (.u8 (.u8 (.nb h)))
 ·exact .nb (.u8 (.u8 (.u8 h)))
 ·exact .u8 h
def ST(M:Mc R.α)(ks:ζ θ)(i j:θ)(T:Mc R.α):Prop:=T.aa.ε=ks.ε/\(∀(m k:θ),ks[m]?=Qa k->T.aa[m]?=Qa (if m<i then oQ ks (bp M k) else if m=i then oQ ks ((bp M k).ϣ j) else[]))/\(∀(m k:θ),ks[m]?=Qa k->T.aj[m]?=Qa (if m<i then eh M k else R.Ι))/\T.ax<=i*300+j
section
variable{M:Mc R.α}{ks:List Nat}{i j:Nat}{T:Mc R.α}(ψ:ST M ks i j T)
def ST.al:=@ψ.1
def ST.a:=@ψ.2.1
def ST.e:=@ψ.2.2.1
def ST.c:=@ψ.2.2.2
end
def Wn{a:Ar R.α}:oQ ks (xs++[a])=oQ ks xs++if a.t∈ks then[⟨a.1,a.2.1,a.2.2.1,ks.x9 a.t⟩] else[]:=by
 delta oQ;refine ζ.filterMap_append.ν ?_
 congr 1
 by_cases h:a.t∈ks
 ·simp [h]
 ·simp [h]
def ST.fw{T:Mc R.α}{a:Ar R.α}(S:ST M ks i j T)(hk:ks[i]?=Qa k)(ha:(bp M k)[j]?=Qa a)(hn:a.t∉ks):ST M ks i (j+1) T:=by
 refine⟨S.al,λm k' hk'=>?_,S.e,J4 S.c⟩;rw[S.a m k' hk'];by_cases h1:m<i
 ·rw[ρ h1,ρ h1]
 ·rw[π h1,π h1]
  by_cases h2:m=i
  ·subst h2
   rw[hk] at hk';refine lN hk' ?_;rw[ρ rfl,ρ rfl,Ku,ha];show Qa _=Qa (oQ ks (_++[a]));rw[Wn,π hn,Zi]
  ·rw[π h2,π h2]
def ST.Ϯ{T:Mc R.α}{a:Ar R.α}(S:ST M ks i j T)(hk:ks[i]?=Qa k)(ha:(bp M k)[j]?=Qa a)(hn:a.t∈ks):ST M ks i (j+1) (T.fy i ⟨a.1,a.2.1,a.2.2.1,ks.x9 a.t⟩):=by
 refine⟨by show (T.aa.ϩ i _).ε=_;rw[J0];exact S.al,λm k' hk'=>?_,S.e,by have:=S.c;show T.ax+1<=_;exact Jm (JH this (Jv _)) (JC (J6 _ _ _))⟩;show (T.aa.ϩ i (T.aa[i]?.bm []++[⟨a.1,a.2.1,a.2.2.1,ks.x9 a.t⟩]))[m]?=_;by_cases h2:i=m
 ·subst h2
  rw[hk] at hk';refine lN hk' ?_;rw[JX (by rw[S.al];exact jI hk:i<T.aa.ε),S.a i k hk,π (J3 _),ρ rfl,π (J3 _),ρ rfl,Ku,ha];show Qa _=Qa (oQ ks (_++[a]));rw[Wn,ρ hn];rfl
 ·rw[JZ h2,S.a m k' hk']
  by_cases h1:m<i
  ·rw[ρ h1,ρ h1]
  ·rw[π h1,π h1,π (Ki h2),π (Ki h2)]
def ST.Ϭ{T:Mc R.α}(S:ST M ks i (bp M k).ε T)(hk:ks[i]?=Qa k)(hl:(bp M k).ε<=300)(hE:T.aj.ε=T.aa.ε):ST M ks (i+1) 0 {T with aj:=T.aj.ϩ i (eh M k)}:=by
 refine⟨S.al,λm k' hk'=>?_,λm k' hk'=>?_,Jm S.c (Jm (Jp hl _) (JC (θ.succ_mul i 300).Μ))⟩
 ·rw[S.a m k' hk']
  by_cases h1:m<i
  ·rw[ρ h1,ρ (Zu h1)]
  ·rw[π h1]
   by_cases h2:m=i
   ·subst h2
    rw[hk] at hk';refine lN hk' ?_;rw[ρ rfl,ρ (JT _),JW]
   ·rw[π h2,π (Zv (J9 (ZI (Zr h1) (Ki h2))))]
    by_cases h3:m=i+1
    ·rw[ρ h3];rfl
    ·rw[π h3]
 ·show (T.aj.ϩ i (eh M k))[m]?=_
  by_cases h2:i=m
  ·subst h2
   rw[hk] at hk';refine lN hk' ?_;rw[JX (by rw[hE,S.al];exact jI hk:i<T.aj.ε),ρ (JT _)]
  ·rw[JZ h2,S.e m k' hk']
   by_cases h1:m<i
   ·rw[ρ h1,ρ (Zu h1)]
   ·rw[π h1,π (Zv (J9 (ZI (Zr h1) h2)))]
abbrev lj(R:Rg):=MH×Ly×Mc R.α×η ab×η ab
section
variable{R:Rg}(ψ:lj R)
abbrev lj.g:=ψ.1
abbrev lj.L:=ψ.2.1
abbrev lj.M:=ψ.2.2.1
abbrev lj.a:=ψ.2.2.2.1
abbrev lj.b:=ψ.2.2.2.2
end
abbrev TX(R:Rg):=MH×Ly×Mc R.α×ζ θ×θ×θ×θ×η ab×η ab×η ab×θ×θ
section
variable{R:Rg}(ψ:TX R)
abbrev TX.h:=ψ.1
abbrev TX.L:=ψ.2.1
abbrev TX.M:=ψ.2.2.1
abbrev TX.ks:=ψ.2.2.2.1
abbrev TX.m:=ψ.2.2.2.2.1
abbrev TX.D:=ψ.2.2.2.2.2.1
abbrev TX.aK:=ψ.2.2.2.2.2.2.1
abbrev TX.o1:=ψ.2.2.2.2.2.2.2.1
abbrev TX.o3:=ψ.2.2.2.2.2.2.2.2.1
abbrev TX.o4:=ψ.2.2.2.2.2.2.2.2.2.1
abbrev TX.p:=ψ.2.2.2.2.2.2.2.2.2.2.1
abbrev TX.k:=ψ.2.2.2.2.2.2.2.2.2.2.2
end
def kx(X:TX R)(a b:η ab):Ρ.Θ:=Qa (.ο X.L.m)::X.o1::a::X.o3::X.o4::Qa (.ο X.aK)::Qa (.ο X.m)::Qa (.ο X.D)::b::nn 6
def wg(X:TX R):Prop:=ao R X.h X.L X.M/\kI X.M X.p X.k/\(∀x∈X.ks,x<X.M.aa.ε)/\X.ks.ϥ/\X.ks.ε<=300/\X.h.ε<=X.D
section
variable{X:TX R}(ψ:wg X)
def wg.I:=@ψ.1
def wg.G:=@ψ.2.1
def wg.ks:=@ψ.2.2.1
def wg.nk:=@ψ.2.2.2.1
def wg.n:=@ψ.2.2.2.2.1
def wg.D:=@ψ.2.2.2.2.2
end
abbrev cW(X:TX R)(l:ζ θ)(s:lj R):Prop:=TS X.h s.g X.m X.D X.aK X.ks l s.L s.M
variable{X:TX R}{R':Fl->Internal.Frame->MH->Prop}
def TS.im{l:ζ θ}{L1:Ly}{M1:Mc R.α}(S:TS h g m D aK ks l L1 M1)(I:ao R h L M):ao R g L M:=by obtain⟨t,rfl⟩:=S.Ch;exact I.cu
def TS.up{l:ζ θ}{L1:Ly}{M1:Mc R.α}(S:TS h g m D aK ks l L1 M1)(e:h[a]?=Qa o):g[a]?=Qa o:=by obtain⟨t,rfl⟩:=S.Ch;exact jA e
def tu(X:TX R)(i:θ)(s:lj R):Prop:=cW X (X.ks.ϣ i) s/\s.M.aa=JU i []/\s.M.aj=JU i R.Ι/\s.M.ax=0
section
variable{X:TX R}{i:Nat}{s:lj R}(ψ:tu X i s)
def tu.S:=@ψ.1
def tu.a:=@ψ.2.1
def tu.e:=@ψ.2.2.1
def tu.c:=@ψ.2.2.2
end
def eA(k:θ){ep:η θ}{l:ζ θ}(hD:h[D]?=Qa (.Χ ep (pR l 0))):mP .ma (.φ k) (.ο D) h=Qa (decide (k∈l)):=by
 show ba ((j6 h (.ο D)).Η _) ((lV h (.ο D)).Η λd=>aw (jN d.2 (.φ k)) (Qa (jO d.2 (.φ k)).Ψ))=_;rw[p8 hD,nR hD];show aw (jN (pR l 0) (.φ k)) (Qa (jO (pR l 0) (.φ k)).Ψ)=_;rw[p7,sH];by_cases hk:k∈l
 ·rw[ρ hk,Ζ hk];rfl
 ·rw[π hk,Γ hk];rfl
theorem sN{ep:η θ}{l:ζ θ}(hD:h[D]?=Qa (.Χ ep (pR l 0)))(hk:k∈l)(hi:l.x9 k=i):kJ h (.ο D) (.φ k)=Qa (.φ i):=sd hD p7 (by rw[sH,ρ hk,ZK,hi])
def Mw{l:ζ θ}(nk:l.ϥ)(hx:l[i]?=Qa x):l.x9 x=i:=by
 rw[<-(Jx.mp hx).2];exact nk.idxOf_getElem i (jI hx)
theorem Cb{l:ζ θ}(nk:l.ϥ)(hx:l[i]?=Qa x):x∉l.ϣ i:=λhq=>by
 obtain⟨j,hj,e⟩:=Yp.mp hq;rw[ZC] at hj;rw[ζ.getElem_take] at e
 have:=YA nk|>.mp (e.ν (Jx.mp hx).2.Μ)
 exact υ (this▸Jw hj (KN _ _)) (J3 _)
theorem Ci(ha:a∈ [L.aA,L.aE]):a∈Tactic.ff L:=(JO.mp ha).ι (λe=>e▸ .lw _ (.mo _)) λha=>(JI.mp ha)▸ .lw _ (.lw _ (.mo _))
abbrev zk:ζ Sm:=[.fm (.sb (.Λ 7) (.Λ 2)) (.az (.Λ 6) pE [])]
def zdX{s:lj R}(hd:5<=d)(O:wg X)(P:tu X i s)(hx:X.ks[i]?=Qa x)(q:∀s',tu X (i+1) s'->R' .nx (kx X s'.a s'.b) s'.g):
  bz (ah P0 d) zk (kx X (Qa (.φ x)) s.b) s.g R':=by
 have hl1:s.M.aa.ε=i:=by rw[P.a,Zy]
 have hli:(X.ks.ϣ i).ε=i:=by rw[ZC,ZD (JL (jI hx))]
 have hxn:=Cb O.nk hx;have hil:=Jw (jI hx) O.n;refine(LZ (d:=d) (Jm (by decide) hd) P.S.I (by rw[hl1];exact Zp hil (by decide))).ι λg' zq29=>?_;have e1:=zq29.1;have S':=P.S.oe (zq29.2.2.wr λa ha=>Ci ha) zq29.2.1 rfl λa ha=>(WN a ha).imp id λe=>JC e.Μ;rw[P.S.em] at e1;obtain⟨ep,hD⟩:=S'.dD;have e2:=L3 (v:=.φ s.M.aa.ε) hD (p7 (k:=x)) (by rw[Iq,hli];exact Zp hil (by decide));rw[Ip hxn (by rw[hl1,hli])] at e2;have S'':=S'.put (ep:=bif (jO (pR (X.ks.ϣ i) 0) (.φ x)).Ψ then ep else ep.ς (· +1)) O.D hxn;rw[(by rw[Ku,hx];rfl:X.ks.ϣ i++[x]=X.ks.ϣ (i+1))] at S'' e2;exact jT (.p (e1)<|.h (e2)<|.z (q ⟨_,s.L.TF s.g.ε,s.M.TF,Qa (.φ x),s.b⟩ ⟨S'',by show s.M.aa++[[]]=_;rw[P.a,Kw],by show s.M.aj++[R.Ι]=_;rw[P.e,Kw],P.c⟩)) rfl
def qh(X:TX R)(i j:θ)(s:lj R):Prop:=cW X X.ks s/\ST X.M X.ks i j s.M
section
variable{X:TX R}{i j:Nat}{s:lj R}(ψ:qh X i j s)
def qh.S:=@ψ.1
def qh.T:=@ψ.2
end
abbrev bC:ζ Sm:=[.ite (.ft .ma (.aq (.Λ 8) 127961880028532) (.Λ 7)) [.expr (.az (.Λ 6) 6386275 [.wr (.Λ 7) (.Λ 2),.aq (.Λ 8) 504397587826,.aq (.Λ 8) 465726563698,.aq (.Λ 8) 131277443786868,.wr (.Λ 7) (.aq (.Λ 8) 127961880028532)])] []]
def zdW{y:Ar R.α}{s:lj R}(hd:5<=d)(O:wg X)(P:qh X i j s)(hx:X.ks[i]?=Qa x)(hje:(bp X.M x)[j]?=Qa y)(hj:j<300)(hA:X.h[b]?=Qa (lP R y))(ga:y.t<X.M.aa.ε/\dh y.up/\dh y.lo/\R.D X.p X.k y.w/\y.w≠R.Ι)
  (q:∀s',qh X i (j+1) s'->R' .nx (kx X (Qa (.φ x)) s'.b) s'.g):bz (ah P0 d) bC (kx X (Qa (.φ x)) (Qa (.ο b))) s.g R':=by
 have S:=P.S;have T:=P.T;have hA':=S.up hA;obtain⟨ep,hD⟩:=S.dD;cases (ch:At (y.t∈X.ks)) with
 |isTrue hk=>
  obtain⟨g',e,I',K⟩:=zc4 (d:=d) (s:=i) (a:=⟨y.1,y.2.1,y.2.2.1,X.ks.x9 y.t⟩) (Jm (by decide) hd) S.I (by rw[T.al];exact(jI hx)) (by show X.ks.x9 y.t<_;rw[T.al];exact Z9.Ϩ hk) ga.2.1 ga.2.2.1 ga.2.2.2.1 O.G.bd (Jt T.c (by
   have:i*300<=299*300:=J8 _ (J7 (Jw (jI hx) O.n))
   exact Jw (Yq this hj) (Jz _ _))) ga.2.2.2.2
  rw[S.em] at e;exact jT (.v (ry hA')<|.b (eA y.t hD)<|.t (Ζ hk)<|.v (sN hD (Jr hx) (Mw O.nk hx))<|.v (oh hA')<|.v (oi hA')<|.v (ur hA')<|.v (ry hA')<|.v (sN hD hk rfl)<|.p (e)<|.z (q ⟨g',s.L,_,s.a,Qa (.ο b)⟩ ⟨S.oe K I' rfl λa ha=>.nb ha,T.Ϯ hx hje hk⟩)) rfl
 |isFalse hk=>exact jT (.v (ry hA')<|.b (eA y.t hD)<|.f (Γ hk)<|.z (q ⟨s.g,s.L,s.M,s.a,Qa (.ο b)⟩ ⟨S,T.fw hx hje hk⟩)) rfl
abbrev dE:Sm:=.fo [8] Qb (.wr (.aq (.Λ 0) 1634886515) (.Λ 2)) bC
def za5{s:lj R}(hd:5<=d)(O:wg X)(P:qh X i 0 s)(hx:X.ks[i]?=Qa x):∃s',qh X i (bp X.M x).ε s'/\exec (ah P0 d) dE (kx X (Qa (.φ x)) s.b) s.g=Qa ((.nx,kx X (Qa (.φ x)) s'.b),s'.g):=by
 refine(O.I.ng (O.ks x (Jr hx))).ι λr zq25=>zq25.ι λas zq26=>?_;rw[<-zq26.2.1.n];exact pb (c:=ah P0 d) (tg:=[8]) (many:=Qb) (a:=r) (e:=.wr (.aq (.Λ 0) 1634886515) (.Λ 2)) (b:=bC) (vs:=as.ς .ο) (λs':lj R=>kx X (Qa (.φ x)) s'.b) lj.g (λj=>qh X i j) s (zq26.2.1.le O.I zq26.2.2) rfl (λj s P=>P.S.up zq26.2.1.l) (by exact j2 (.v (mW (P.S.im O.I))<|.v (sl (P.S.im O.I).aa zq26.1)<|.z (cg (.ο r) s.g)) rfl) P λj v s' R1 _ hv P1 T1=>by
  refine(zq26.2.1.a j v hv).ι λb zq23=>zq23.ι λy zq24=>?_;refine eqB zq24.1 ?_;exact kP (zdW hd O P1 hx zq24.2.1 (Jw (jI zq24.2.1) (Jm (O.I.cr _ zq26.2.2) O.G.c)) zq24.2.2 (O.G.fy _ zq26.2.2 y (Jr zq24.2.1)) T1.nx)
abbrev zj:ζ Sm:=[dE,.fm (.sb (.aq (.Λ 6) 1701733491) (.wr (.Λ 7) (.Λ 2))) (.wr (.aq (.Λ 0) 1701733491) (.Λ 2))]
def zdV{s:lj R}(hd:5<=d)(O:wg X)(P:qh X i 0 s)(hx:X.ks[i]?=Qa x)(q:∀s',qh X (i+1) 0 s'->R' .nx (kx X s'.a s'.b) s'.g):bz (ah P0 d) zj (kx X (Qa (.φ x)) s.b) s.g R':=by
 refine xEA (za5 (d:=d) hd O P hx) λs' P' e=>?_;have hxk:=Jr hx;have S:=P'.S;refine xE S.dD λep hD=>?_;refine xEAA (zZ (s:=i) (eh X.M x) S.I (by rw[P'.T.al];exact jI hx)) λg' e2 I' K=>?_;exact jT (.s (e)<|.v (xF (S.im O.I))<|.v (sl (S.im O.I).aj (O.I.rh (O.ks x hxk)))<|.v ((S.em▸xF S.I:getAttr P0 s'.g (.ο X.m) lO=Qa (.ο s'.L.aE)))<|.v (sN hD hxk (Mw O.nk hx))<|.h (e2)<|.z (q ⟨g',s'.L,_,Qa (.φ x),s'.b⟩ ⟨S.oe K I' rfl λa ha=>.nb ha,P'.T.Ϭ hx (Jm (O.I.cr _ (by unfold bp;rw[Jo (O.ks x hxk)];exact Zg (O.ks x hxk):bp X.M x∈X.M.aa)) O.G.c) S.I.du⟩)) rfl
section
variable(hd:5<=d)(O:wg X)
include hd O
def d8:(di X.ks).ε<=100000:=by rw[mT];exact Jm O.n (by decide)
def za6{s:lj R}(P:tu X 0 s):∃s',tu X X.ks.ε s'/\exec (ah P0 d) (.fo [2] Qb (.Λ 5) zk) (kx X s.a s.b) s.g=Qa ((.nx,kx X s'.a s'.b),s'.g):=by
 rw[<-mT];exact pb (c:=ah P0 d) (tg:=[2]) (many:=Qb) (a:=X.aK) (e:=.Λ 5) (b:=zk) (vs:=di X.ks) (λs:lj R=>kx X s.a s.b) lj.g (λi=>tu X i) s (d8 hd O) rfl (λi s P=>P.S.kK) (by exact j2 (.z (cg (.ο X.aK) s.g)) rfl) P λi v s R1 _ hv P1 T1=>by
  obtain⟨x,hx,rfl⟩:=z9 hv;exact kP (zdX hd O P1 hx T1.nx)
def za4{s:lj R}(P:qh X 0 0 s):∃s',qh X X.ks.ε 0 s'/\exec (ah P0 d) (.fo [2] Qb (.Λ 5) zj) (kx X s.a s.b) s.g=Qa ((.nx,kx X s'.a s'.b),s'.g):=by
 rw[<-mT];exact pb (c:=ah P0 d) (tg:=[2]) (many:=Qb) (a:=X.aK) (e:=.Λ 5) (b:=zj) (vs:=di X.ks) (λs:lj R=>kx X s.a s.b) lj.g (λi=>qh X i 0) s (d8 hd O) rfl (λi s P=>P.S.kK) (by exact j2 (.z (cg (.ο X.aK) s.g)) rfl) P λi v s R1 _ hv P1 T1=>by
  obtain⟨x,hx,rfl⟩:=z9 hv;exact kP (zdV hd O P1 hx T1.nx)
end
def tu.go{s:lj R}(P:tu X X.ks.ε s):qh X 0 0 s:=by
 have S:=P.S;unfold cW at S;rw[JW] at S;refine⟨S,by rw[P.a,Zy],λm k hk=>?_,λm k hk=>?_,by rw[P.c];exact JF _⟩
 ·rw[P.a,Kg,ρ (jI hk),π (Zb _)]
  by_cases h0:m=0
  ·rw[ρ h0];rfl
  ·rw[π h0]
 ·rw[P.e,Kg,ρ (jI hk),π (Zb _)]
def ST.done{T:Mc R.α}(T':ST M ks ks.ε 0 T)(hE:T.aj.ε=T.aa.ε):T.aa=ks.ς (λk=>oQ ks (bp M k))/\T.aj=ks.ς (eh M):=by
 refine⟨tZ (by rw[Js];exact T'.al) λm y hy=>?_,tZ (by rw[Js];exact hE.ν T'.al) λm y hy=>?_⟩
 ·have hm:m<ks.ε:=by rw[<-T'.al];exact jI hy
  have:=T'.a m _ (Jo hm)
  rw[ρ hm] at this;simp only[JA,Jo hm];exact this.Μ.ν hy
 ·have hm:m<ks.ε:=by rw[<-T'.al,<-hE];exact jI hy
  have:=T'.e m _ (Jo hm)
  rw[ρ hm] at this;simp only[JA,Jo hm];exact this.Μ.ν hy
def zf1(R:Rg)(h:MH)(M:Mc R.α)(ks:ζ θ)(t:MH)(L':Ly)(T:Mc R.α):Prop:=ao R (h++t) L' T/\(∀a∈ff L',h.ε<=a)/\oK M ks T
section
variable{R:Rg}{h:MH}{M:Mc R.α}{ks:List Nat}{t:MH}{L':Ly}{T:Mc R.α}(ψ:zf1 R h M ks t L' T)
def zf1.J:=@ψ.1
def zf1.ho:=@ψ.2.1
def zf1.fZ:=@ψ.2.2
end
abbrev m3L'(m:θ):Ly:=⟨m,m+1,m+2,[]⟩
def zbB(ha:a∈ff (m3L' m)):m<=a/\a<=m+2:=by
 simp only[ff,JO,JE,or_false] at ha;rcases ha with rfl|rfl|rfl<;>lia
theorem zbR(k:θ){l:ζ θ}(ha:h[a]?=Qa (.ξ (di l))):mP .jc (.φ k) (.ο a) h=Qa (!decide (k∈l)):=Mu (iI ha)
def za3{s0:lj R}(hd:5<=d)(O:wg X)(hs:X.M.Ϥ∈X.ks)(hz:¬X.M.jp=R.Ι)(P:tu X 0 s0)(eg:s0.g=g)(ea:s0.b=Qc):∃t L' T,∃s':lj R,exec (ah P0 d) (.fo [2] Qb (.Λ 5) zk) (kx X s0.a Qc) g=Qa ((.nx,kx X s'.a s'.b),s'.g)/\∃s2:lj R,exec (ah P0 d) (.fo [2] Qb (.Λ 5) zj) (kx X s'.a s'.b) s'.g=Qa ((.nx,kx X s2.a s2.b),s2.g)/\qh X X.ks.ε 0 s2/\j1 (ah P0 d) (.ο X.m) G0 [.φ (X.ks.x9 X.M.Ϥ:θ),R.e X.M.jp] s2.g s2.g=Qa (.Δ,X.h++t)/\L'.m=X.m/\zf1 R X.h X.M X.ks t L' T:=by
 subst eg;refine(za6 (d:=d) hd O P).ι λs1 zq17=>?_;have e1:=zq17.2;rw[ea] at e1;refine(za4 (d:=d) hd O zq17.1.go).ι λs2 zq16=>?_;have S:=zq16.1.S;refine(M9 (d:=d) (s:=X.ks.x9 X.M.Ϥ) (Jm (by decide) hd) S.I (by rw[zq16.1.T.al];exact Z9.Ϩ hs) O.G.fst O.G.bd).ι λg' zq15=>?_;have e3:=zq15.1;have S':=S.oe zq15.2.2 zq15.2.1 rfl λa ha=>.nb ha;refine S'.Ch.ι λt zq14=>?_;rw[S.em,zq14] at e3;exact⟨t,s2.L,{s2.M with start:=X.ks.x9 X.M.Ϥ,first:=X.M.jp},s1,e1,s2,zq16.2,zq16.1,e3,S.em,zq14▸zq15.2.1,λa ha=>(S'.ff a ha).1,.si hs hz (zq16.1.T.done S.I.du).1 (zq16.1.T.done S.I.du).2 rfl rfl⟩
def Om{t0:MH}{o1 o2 o3 o4:η ab}(I:ao R h L M)(G:kI M p k)(hks:∀x∈ks,x<M.aa.ε)(nk:ks.ϥ)(hK:(h++t0)[aK]?=Qa (.ξ (di ks)))(J:ao R (h++t0++t1) ⟨(h++t0).ε,(h++t0).ε+1,(h++t0).ε+2,[]⟩ (M0 (R:=R))):
  wg (⟨h,L,M,ks,(h++t0).ε,(h++t0++t1).ε,aK,o1,o3,o4,p,k⟩:TX R)/\tu (⟨h,L,M,ks,(h++t0).ε,(h++t0++t1).ε,aK,o1,o3,o4,p,k⟩:TX R) 0 ⟨h++t0++t1++[.Χ (Qa 0) []],⟨(h++t0).ε,(h++t0).ε+1,(h++t0).ε+2,[]⟩,M0,o2,Qc⟩:=by
 have hm:h.ε<=(h++t0).ε:=by rw[Ju];exact Jq _ _
 have kl:=nk.length_le_of_subset (l₂:=Zk M.aa.ε) λx hx=>KG.Ϩ (hks x hx);rw[Zm] at kl;refine⟨⟨I,G,hks,nk,Jm kl G.n,Jm hm (by rw[Ju (as:=h++t0)];exact Jq _ _:(h++t0).ε<=(h++t0++t1).ε)⟩,⟨⟨t0++(t1++[.Χ (Qa 0) []]),by rw[<-JB,<-JB]⟩,jA (jA hK),⟨Qa 0,ak⟩,J.cu,rfl,λa ha=>?_⟩,rfl,rfl,rfl⟩
 have:=zbB ha
 exact⟨Jm hm this.1,λe=>υ (e▸(jS hK)) (Zs.Ϩ this.1),λe=>υ (e▸Jt this.2 (jS J.aj)) (J3 _)⟩
def Ca{o1 o2 o3 o4:η ab}(hd:5<=d)(I:ao R h L M)(G:kI M p k)(hks:∀x∈ks,x<M.aa.ε)(nk:ks.ϥ)(eg:∃t,g=h++t)(hK:g[aK]?=Qa (.ξ (di ks)))
  (q:∀t L' T,ao R (h++t) L' T->(∀a∈ff L',h.ε<=a)->oK M ks T->Q (.ο L'.m) (h++t)):bz (ah P0 d) (lJ.bn 5) (Qa (.ο L.m)::o1::o2::o3::o4::Qa (.ο aK)::nn 9) g (Ρ.Fin Q):=by
 obtain⟨t0,rfl⟩:=eg;have I0:ao R (h++t0) L M:=I.cu;refine(Iv (d:=d) R (Jm (by decide) hd) (h++t0)).ι λt1 zq12=>?_;have I1:ao R (h++t0++t1) L M:=I0.cu;have hK1:=jA (t:=t1) hK;have hm:h.ε<=(h++t0).ε:=by rw[Ju];exact Jq _ _
 have ol:(M.Ϥ∉ks\/M.jp=R.Ι)->∃t',j1 (ah P0 d) (.ο (h++t0).ε) pE [] (h++t0++t1) (h++t0++t1)=Qa (.φ 0,h++t')/\Q (.ο (h++t0).ε) (h++t'):=λhb=>by
  refine(LZ (d:=d) (Jm (by decide) hd) zq12.2 (by show 0<10000;decide)).ι λg' zq11=>?_;have K':=zq11.2.2;rw[JB] at K';obtain⟨t',rfl⟩:=K'.Ch λa ha=>Jm hm (zbB (m:=(h++t0).ε) (Ci (L:=m3L' (h++t0).ε) ha)).1;exact⟨t',zq11.1,q t' _ _ zq11.2.1 (λa ha=>(WN a ha).ι (λha=>Jm hm (zbB (m:=(h++t0).ε) ha).1) λe=>e▸Jm hm (by rw[Ju (as:=h++t0)];exact Jq _ _)) (.ol hb rfl rfl rfl rfl)⟩
 cases (ch:At (M.Ϥ∈ks)) with
 |isFalse hs=>
  obtain⟨t',e2,q⟩:=ol (.nb hs);have hb:(!decide (M.Ϥ∈ks))=true:=by rw[Γ hs];rfl
  exact jT (.v (lU I0)<|.p (zq12.1)<|.v (vK I1)<|.b (zbR M.Ϥ hK1)<|.t (hb)<|.t (hb)<|.p (e2)<|.z (q)) rfl
 |isTrue hs=>
  have hb:(!decide (M.Ϥ∈ks))=false:=by rw[Ζ hs];rfl
  cases R.gi M.jp R.Ι with
  |isTrue hz=>
   exact(ol (.u8 hz)).ι λt' zq8=>jT (.v (lU I0)<|.p (zq12.1)<|.v (vK I1)<|.b (zbR M.Ϥ hK1)<|.f (hb)<|.v (W8 I1)<|.v (lU I1)<|.w (R.no)<|.k (R.qe M.jp R.Ι)<|.t (R.yes hz)<|.p (zq8.1)<|.z (zq8.2)) rfl
  |isFalse hz=>
   have zq7:=Om (o1:=o1) (o2:=o2) (o3:=o3) (o4:=o4) I G hks nk hK zq12.2;refine(za3 (d:=d) hd zq7.1 hs hz zq7.2 rfl rfl).ι λt zq2=>zq2.ι λL' zq3=>zq3.ι λT zq4=>zq4.ι λs1 zq5=>zq5.2.ι λs2 zq6=>?_;have em:=zq6.2.2.2.1;have em:L'.m=(h++t0).ε:=em;obtain⟨ep,hD⟩:=zq6.2.1.S.dD;exact jT (.v (lU I0)<|.p (zq12.1)<|.v (vK I1)<|.b (zbR M.Ϥ hK1)<|.f (hb)<|.v (W8 I1)<|.v (lU I1)<|.w (R.no)<|.k (R.qe M.jp R.Ι)<|.f (R.not hz)<|.c<|.s (zq5.1)<|.s (zq6.1)<|.v (vK (zq6.2.1.S.im I:ao R s2.g L M))<|.v (sN hD hs rfl)<|.v (W8 (zq6.2.1.S.im I:ao R s2.g L M))<|.p (zq6.2.2.1)<|.z ((show Ρ.Fin Q (.rt (.ο (h++t0).ε)) [] (h++t) from em▸q t L' T zq6.2.2.2.2.J zq6.2.2.2.2.ho zq6.2.2.2.2.fZ))) rfl
end
section
variable{h0:MH}
theorem zcT(B:mM M M.aa.ε 0 bh)(I:ao R h L M)(G:∀ys∈M.aa,∀a∈ys,a.t<M.aa.ε):∀xs∈bh,xs.ε<=100000/\∀o∈xs,o<M.aa.ε:=λxs hx=>by
 have h2:=B.sum;rw[JW,I.ct] at h2;refine⟨Jm (GY hx) (h2▸I.cl),λo ho=>?_⟩;obtain⟨k,hk,rfl⟩:=Yp.mp hx;exact((B.mem k _ (Jo hk) o).mp ho).ι λys zq34=>jI zq34.1
def zak{c:Cx}{e:Ex}{fr:Ρ.Θ}(p:θ->Ε)(hn:n<=100000)(hc:c.cv=200000)(hx:∀i:θ,(fr.ϩ x (Qa (.φ (i:Τ))))[x]?=Qa (Qa (.φ (i:Τ))))(e0:WE c fr it h λv g=>v=.gb n/\g=h)
  (step:∀i,i<n->∀acc,WE c (fr.ϩ x (Qa (.φ i))) e (h++[.ξ acc]) λv g=>v=.ϝ (p i)/\g=h++[.ξ acc]):eval c (.comp (.Λ x) [x] Qb it [e]) fr h=Qa (.ο h.ε,h++[.ξ (di (nM p n))]):=by
 refine W.eq (BR p (by rw[hc];exact Jt hn (by decide)) (Jm hn (by decide)) (e0.Ν λv g q=>?_));refine eqE q.1 ?_;refine eqB q.2 ?_;refine⟨rfl,λi hi acc=>sC ((step i hi acc).Ν λv g q=>?_),hx,rfl,rfl⟩;refine eqB q.1 ?_;refine eqE q.2 ?_;exact tQ ⟨λhb=>tP ⟨rfl,hb.Μ⟩,λhb=>⟨rfl,hb.Μ⟩⟩
theorem Rg.qn(a b:R.α)(h:MH):mP .ne (R.e a) (R.e b) h=Qa (!@decide (a=b) (R.gi a b)):=Ρ.cq (R.fh h a b)
abbrev dB(L:Ly)(o1 o3 o4:η ab):Ρ.Θ:=Qa (.ο L.m)::o1::Qc::o3::o4::nn 10
theorem zcF{o1:η ab}(hd:1<=d)(I:ao R h L M):eval (ah P0 d) (.comp (.Λ 9) [9] Qb (.ϧ (.f8 (.ty 491260897125)) [.az (.Λ 0) sP []]) [.ft .ne (.wr (.aq (.Λ 0) lO) (.Λ 9)) (.aq (.aq (.Λ 0) m9) wU)]) (dB L o1 Qc Qc) h=Qa (.ο h.ε,h++[.ξ (di (nM (xN M) M.aa.ε))]):=
 zak (xN M) (Ah I) rfl (λ_=>rfl) (by exact j2 (.p (pF hd I)<|.c<|.z (cg (.gb M.aa.ε) h)) (by kernel_rfl)) λi hi acc=>by
  have J:ao R (h++[.ξ acc]) L M:=I.cu;exact j2 (.v (xF J)<|.v (sl J.aj (I.rh hi))<|.v (lU J)<|.w (R.no)<|.k (R.qn (eh M i) R.Ι)<|.z (cg (.ϝ (xN M i)) (h++[.ξ acc]))) (by kernel_rfl)
theorem zcy{a1 a2:θ}{o3:η ab}(hd:1<=d)(I:ao R h L M)(h1:h[a1]?=Qa (.ξ (mb1.ς ab.ϝ)))(h2:h[a2]?=Qa (.ξ (mb2.ς ab.ϝ)))(l1:mb1.ε=M.aa.ε)(l2:mb2.ε=M.aa.ε):eval (ah P0 d) (.comp (.Λ 9) [9] Qb (.ϧ (.f8 (.ty 491260897125)) [.az (.Λ 0) sP []]) [.mh Qb [.wr (.Λ 1) (.Λ 9),.wr (.Λ 4) (.Λ 9)]]) (dB L (Qa (.ο a1)) o3 (Qa (.ο a2))) h=Qa (.ο h.ε,h++[.ξ (di (nM (λk=>mb1[k]?.bm Qb && mb2[k]?.bm Qb) M.aa.ε))]):=
 zak _ (Ah I) rfl (λ_=>rfl) (by exact j2 (.p (pF hd I)<|.c<|.z (cg (.gb M.aa.ε) h)) (by kernel_rfl)) λi hi acc=>by
  have e1:=Jo (l:=mb1) (i:=i) (l1▸hi);have e2:=Jo (l:=mb2) (i:=i) (l2▸hi)
  generalize mb1[i]'(l1▸hi)=b1 at e1
  generalize mb2[i]'(l2▸hi)=b2 at e2
  simp only[e1,e2];cases b1 with
  |false=>exact j2 (.v ((sl (jA (t:=[.ξ acc]) h1) (xR e1)))<|.c<|.z (cg (.ϝ Qb) (h++[.ξ acc]))) (by kernel_rfl)
  |true=>exact j2 (.v ((sl (jA (t:=[.ξ acc]) h1) (xR e1)))<|.c<|.v ((sl (jA (t:=[.ξ acc]) h2) (xR e2)))<|.z (cg (.ϝ b2) (h++[.ξ acc]))) (by kernel_rfl)
def zbJ(hd:1<=d)(I:ao R h L M):∃t,∃b:θ,jJ (ah P0 d) (.ai 125) [.ο L.m] h=Qa (.ο b,h++t)/\tN (h++t) b (xd M):=by
 obtain⟨v,g,e,t,b,rfl,rfl,q⟩:=W.xL (l5 (P:=P0) (d:=d) rfl (FA (Q:=λv g=>∃t b,v=.ο b/\g=h++t/\tN (h++t) b (xd M)) hd I λt b A=>⟨t,b,rfl,rfl,A⟩));exact⟨t,b,e,q⟩
def So(h t:MH)(n a:θ)(fs:ζ θ)(bh:ζ (ζ θ))(mb:ζ Ε):Prop:=mb.ε=n/\VK fs bh mb/\Aw bh mb/\(h++t)[a]?=Qa (.ξ (mb.ς ab.ϝ))
section
variable{h t:MH}{n a:Nat}{fs:List Nat}{bh:List (List Nat)}{mb:List Bool}(ψ:So h t n a fs bh mb)
def So.l:=@ψ.1
def So.B:=@ψ.2.1
def So.c:=@ψ.2.2.1
def So.Hd:=@ψ.2.2.2
end
def IY{f:θ}{fs:ζ θ}(hd:2<=d)(I:ao R h L M)(hf:h[f]?=Qa (.ξ (di fs)))(A:tN h b bh)(hl:bh.ε=M.aa.ε)(uo:∀s∈fs,s<M.aa.ε)(qz:fs.ε<=10000)(aC:∀xs∈bh,xs.ε<=100000/\∀o∈xs,o<M.aa.ε):
  ∃t,∃a:θ,jJ (ah P0 d) (.ai 124) [.ο L.m,.ο f,.ο b] h=Qa (.ο a,h++t)/\∃mb,So h t M.aa.ε a fs bh mb:=by
 refine xEEA (W.xL (l5 (P:=P0) (d:=d) rfl (zcg (Q:=λv g=>∃t a,v=.ο a/\g=h++t/\∃mb,So h t M.aa.ε a fs bh mb) hd I hf A hl uo qz aC λmb t l B c m=>⟨t,_,rfl,rfl,mb,l,B,c,m⟩))) λv g e cw=>?_;refine xEEAA cw λt a iq qi q=>?_;subst iq;subst qi;exact⟨t,a,e,q⟩
def R9(hd:2<=d)(I:ao R h L M)(ht:∀ys∈M.aa,∀a∈ys,a.t<M.aa.ε):∃t,∃b:θ,jJ (ah P0 d) (.ai 123) [.ο L.m] h=Qa (.ο b,h++t)/\∃bh,mM M M.aa.ε 0 bh/\tN (h++t) b bh:=by
 refine xEEA (W.xL (l5 (P:=P0) (d:=d) rfl (R7 (Q:=λv g=>∃t b,v=.ο b/\g=h++t/\∃bh,mM M M.aa.ε 0 bh/\tN (h++t) b bh) hd I ht λt bh B A=>⟨t,_,rfl,rfl,bh,B,A⟩))) λv g e cw=>?_;refine xEEAA cw λt b iq qi q=>?_;subst iq;subst qi;exact⟨t,b,e,q⟩
def zg0(hd:5<=d)(I:ao R h L M)(G:kI M p k):∃t,∃b:θ,jJ (ah P0 d) (.ai 125) [.ο L.m] (h++[.ξ [.φ M.Ϥ]])=Qa (.ο b,h++[.ξ [.φ M.Ϥ]]++t)/\∃t2,∃a:θ,jJ (ah P0 d) (.ai 124) [.ο L.m,.ο h.ε,.ο b] (h++[.ξ [.φ M.Ϥ]]++t)=Qa (.ο a,h++t2)/\∃mb,So h t2 M.aa.ε a [M.Ϥ] (xd M) mb:=by
 refine(zbJ (d:=d) (h:=h++[.ξ [.φ M.Ϥ]]) (Jm (by decide) hd) I.cu).ι λt zq20=>zq20.ι λb zq21=>?_;obtain⟨t2,a,e2,mb,m⟩:=IY (d:=d) (f:=h.ε) (fs:=[M.Ϥ]) (Jm (by decide) hd) I.cu.cu (jA ak) zq21.2 (Js ..) (λs hs=>by rw[JI.mp hs];exact G.st) (by show 1<=10000;decide) λxs hx=>by
  obtain⟨ys,hy,rfl⟩:=JM.mp hx;refine⟨by rw[Js];exact Jm (I.cr _ hy) I.cl,λo ho=>?_⟩;obtain⟨a,ha,rfl⟩:=JM.mp ho;exact(G.fy ys hy a ha).1
 have hg:((h++[ae.ξ [.φ M.Ϥ]])++t)++t2=h++([ae.ξ [.φ M.Ϥ]]++t++t2):=by rw[JB,JB,JB]
 exact⟨t,b,zq21.1,[ae.ξ [.φ M.Ϥ]]++t++t2,a,hg▸e2,mb,m.l,m.B,m.c,hg▸m.Hd⟩
def zgZ(hd:5<=d)(I:ao R h L M)(G:kI M p k):∃t,∃b:θ,jJ (ah P0 d) (.ai 123) [.ο L.m] (h++[.ξ (di (nM (xN M) M.aa.ε))])=Qa (.ο b,h++[.ξ (di (nM (xN M) M.aa.ε))]++t)/\∃t2,∃a:θ,jJ (ah P0 d) (.ai 124) [.ο L.m,.ο h.ε,.ο b] (h++[.ξ (di (nM (xN M) M.aa.ε))]++t)=Qa (.ο a,h++t2)/\∃mb bh,mM M M.aa.ε 0 bh/\So h t2 M.aa.ε a (nM (xN M) M.aa.ε) bh mb:=by
 refine(R9 (d:=d) (h:=h++[.ξ (di (nM (xN M) M.aa.ε))]) (Jm (by decide) hd) I.cu (λys hy a ha=>(G.fy ys hy a ha).1:∀ys∈M.aa,∀a∈ys,a.t<M.aa.ε)).ι λt zq15=>zq15.ι λb zq16=>zq16.2.ι λbh zq17=>?_;refine(IY (d:=d) (f:=h.ε) (fs:=nM (xN M) M.aa.ε) (Jm (by decide) hd) I.cu.cu (jA ak) zq17.2 zq17.1.am (λs hs=>(z0 hs).1) (Jm WG I.bc) (zcT zq17.1 I (λys hy a ha=>(G.fy ys hy a ha).1:∀ys∈M.aa,∀a∈ys,a.t<M.aa.ε))).ι λt2 zq12=>zq12.ι λa zq13=>zq13.2.ι λmb zq14=>?_;have hg:((h++[ae.ξ (di (nM (xN M) M.aa.ε))])++t)++t2=h++([ae.ξ (di (nM (xN M) M.aa.ε))]++t++t2):=by rw[JB,JB,JB]
 exact⟨t,b,zq16.1,_,a,hg▸zq13.1,mb,bh,zq17.1,zq14.l,zq14.B,zq14.c,hg▸zq14.Hd⟩
abbrev dA(M:Mc R.α)(mb1 mb2:ζ Ε):ζ θ:=nM (λk=>mb1[k]?.bm Qb && mb2[k]?.bm Qb) M.aa.ε
def Of(hd:6<=d)(I:ao R h L M)(G:kI M p k)(q:∀t L' T ks mb1 mb2 bh,ao R (h++t) L' T->(∀a∈ff L',h.ε<=a)->Lo M ks mb1 mb2 bh->oK M ks T->Q (.ο L'.m) (h++t)):WF P0 d 133 [.ο L.m] h Q:=by
 refine j7 (K:=5) hd (Qa (.ο L.m)::nn 14) lJ (by kernel_rfl) λd' h'=>?_;have d1:1<=d':=Jm (by decide) h';refine(zg0 (d:=d') h' I G).ι λt1 zq7=>zq7.ι λb1 zq8=>zq8.2.ι λt2 zq9=>zq9.ι λa1 zq10=>zq10.2.ι λmb1 zq11=>?_;have m1:=zq11;have I2:ao R (h++t2) L M:=I.cu;refine(zgZ (d:=d') h' I2 G).ι λt3 zq1=>zq1.ι λb2 zq2=>zq2.2.ι λt4 zq3=>zq3.ι λa2 zq4=>zq4.2.ι λmb2 zq5=>zq5.ι λbh zq6=>?_;have m2:=zq6.2;exact mR (a:=lJ.ϣ 5) (b:=lJ.bn 5) (jT (.p (pF d1 I)<|.k (tc M.aa.ε 0)<|.f ((Ϟ λe=>υ G.st (by rw[KL.mp e];exact Zb _):((M.aa.ε:Τ)==0)=Qb))<|.v (vK I)<|.p (zq8.1)<|.p (zq10.1)<|.p (zcF (o1:=Qa (.ο a1)) d1 I2)<|.p (zq2.1)<|.p (zq4.1)<|.p (zcy (o3:=Qa (.ο (h++t2).ε)) d1 (I2.cu:ao R (h++t2++t4) L M) (jA m1.Hd) m2.Hd m1.l m2.l)<|.z (mY (Ca (Q:=Q) (g:=h++t2++t4++[.ξ (di (dA M mb1 mb2))]) (o1:=Qa (.ο a1)) (o2:=Qc) (o3:=Qa (.ο (h++t2).ε)) (o4:=Qa (.ο a2)) h' I G (λx hx=>(z0 hx).1) Eh ⟨t2++(t4++[.ξ (di (dA M mb1 mb2))]),by rw[JB,JB]⟩ ak λt' L' T J ho TR=>q t' L' T _ mb1 mb2 bh J ho ⟨m1.l,m1.B,m1.c,m2.l,m2.B,m2.c,zq6.1,rfl⟩ TR))) (by kernel_rfl))
end
structure ji where
 κ:Type
 dq:TC κ
 v:κ->ab
 eq:∀a b,gc (v a) (v b)= @decide (a=b) (dq a b)
 c:θ
 hc:(c !=0)=Qe
 kd:∀a,kG (v a)=c
noncomputable instance (T:ji):TC T.κ:=T.dq
section
variable{T:ji}
def pB(T:ji)(es:ζ (ab×ab)):Prop:=∀p∈es,∃a,p.1=T.v a
def mX{k:T.κ}(K:pB T es):jN es (T.v k)=true:=by
 have h1:(kG (T.v k) !=0)=true:=by rw[T.kd];exact T.hc
 delta jN;rw[h1];cases es with
 |ϟ=>rfl
 |Κ p r=>
  obtain⟨a,e⟩:=K p (.mo _);have q:S9 (p::r)=Qa (kG (T.v k)):=by rw[T.kd,<-T.kd a,<-e];rfl
  rw[q,ϫ];rfl
def F9{k k':T.κ}{v:ab}(K:pB T es):jO (es.ς λp=>bif gc p.1 (T.v k) then(p.1,v) else p) (T.v k')=if k=k' then(jO es (T.v k')).ς λ_=>v else jO es (T.v k'):=by
 induction es with
 |ϟ=>by_cases h:k=k'<;>simp [h] <;>rfl
 |Κ p r ih=>
  refine xE (K p (.mo _)) λa e=>?_;obtain⟨x,y⟩:=p;subst e;rw[JY,T.eq];by_cases h1:a=k
  ·subst h1
   rw[Ζ rfl,na,lL,lL,T.eq,(ih λp hp=>K p (.lw _ hp))];by_cases h2:a=k'
   ·rw[Ζ h2,ρ h2,ρ h2];rfl
   ·rw[Γ h2,π h2,π h2];rfl
  ·simp only[Γ h1,ϯ,lL,lL,T.eq,(ih λp hp=>K p (.lw _ hp))]
   by_cases h2:a=k'
   ·refine eqE h2 ?_
    rw[Ζ rfl,π λe=>h1 e.Μ,π λe=>h1 e.Μ]
   ·simp only[Γ h2,ϯ,ϯ]
def Ba{k v k':ab}:jO (es++[(k,v)]) k'=(jO es k').or (bif gc k k' then Qa v else Qc):=by
 induction es with
 |ϟ=>rw[qa7,lL];rfl
 |Κ p r ih=>
  rw[Yx,lL,lL,ih];cases gc p.1 k'<;>rfl
def F8{k k':T.κ}{v:ab}(K:pB T es):jO (mK es (T.v k) v) (T.v k')=if k=k' then Qa v else jO es (T.v k'):=by
 delta mK;cases hg:jO es (T.v k) with
 |some x=>
  simp only[YM,na,F9 K];by_cases h:k=k'
  ·subst h
   rw[ρ rfl,ρ rfl,hg];rfl
  ·rw[π h,π h]
 |none=>
  simp only[YN,ϯ,Ba,T.eq];by_cases h:k=k'
  ·subst h
   rw[ρ rfl,hg,Ζ rfl];rfl
  ·rw[π h,Γ h,ϯ,η.or_none]
def U0{k:T.κ}{v:ab}(K:pB T es):pB T (mK es (T.v k) v)/\(mK es (T.v k) v).ε<=es.ε+1:=by
 delta mK;cases hg:jO es (T.v k) with
 |some x=>
  simp only[YM,na];refine⟨λp hp=>?_,by rw[Js];exact Jq _ _⟩;obtain⟨q,hq,rfl⟩:=JM.mp hp;cases gc q.1 (T.v k)
  ·exact K q hq
  ·exact K q hq
 |none=>
  simp only[YN,ϯ];refine⟨λp hp=>?_,by rw[Ju];exact Jv _⟩;rcases Zd.mp hp with hp|hp
  ·exact K p hp
  ·rw[JI.mp hp];exact⟨k,rfl⟩
def Pn{k:T.κ}{v:ab}(K:pB T es)(nd:(es.ς (·.1)).ϥ):((mK es (T.v k) v).ς (·.1)).ϥ:=by
 delta mK;cases hg:jO es (T.v k) with
 |some x=>
  simp only[YM,na,KU,show ((λp:ab×ab=>p.1) ∘ λp=>bif gc p.1 (T.v k) then(p.1,v) else p)=λp=>p.1 from funext λp=>by show (bif gc p.1 (T.v k) then(p.1,v) else p).1=p.1;cases gc p.1 (T.v k)<;>rfl];exact nd
 |none=>
  simp only[YN,ϯ,JR];refine Kr.Ϩ ⟨nd,ζ.Pairwise.Κ (λ_ h=>υ h JE) .ϟ,λa ha b hb e=>?_⟩;rw[JI.mp hb] at e;obtain⟨p,hp,rfl⟩:=JM.mp ha
  have:=ζ.find?_eq_none.mp (η.map_eq_none_iff.mp hg) p hp
  rw[e,T.eq,Ζ rfl] at this;exact this rfl
end
abbrev GZ(i j:θ):ab:=.ay [.φ (i:Τ),.φ (j:Τ)]
def zfl:gc (GZ i j) (GZ i' j')=decide ((i,j)=(i',j')):=by
 have e:∀{a b:θ},((a:Τ)==(b:Τ))=decide (a=b):=λ{a b} =>by
  by_cases h:a=b
  ·subst h;simp
  ·exact(Γ h)▸Ϟ λe=>h (Yz.dL e)
 show (((i:Τ)==(i':Τ)) && (((j:Τ)==(j':Τ)) && Qe))=_;rw[e,e,Yi,<-Ε.decide_and,Ti];exact(Xr.injEq ..).Μ▸Iff.rfl
abbrev kX:ji:=⟨θ×θ,ch,λp=>GZ p.1 p.2,λ_ _=>zfl,3,rfl,λ_=>rfl⟩
def wI{s t:ζ θ}:((⟨s.τ⟩:Ξ.be)==⟨t.τ⟩)=decide (s=t):=by
 by_cases hs:s=t
 ·subst hs;simp
 ·rw[Γ hs]
  exact Ϟ λe=>hs (χ (λx:Ξ.be=>x.cps.ss) e)
def zfk{a b:ζ θ×ζ θ}:gc (.ay [.Υ a.1,.Υ a.2]) (.ay [.Υ b.1,.Υ b.2])=decide (a=b):=by
 show (((⟨a.1.τ⟩:Ξ.be)==⟨b.1.τ⟩) && (((⟨a.2.τ⟩:Ξ.be)==⟨b.2.τ⟩) && Qe))=_;rw[wI,wI,Yi,<-Ε.decide_and,Ti];exact Prod.ext_iff.Μ
abbrev jC:ji:=⟨ζ θ×ζ θ,ch,λp=>.ay [.Υ p.1,.Υ p.2],λ_ _=>zfk,3,rfl,λ_=>rfl⟩
section
variable{T:ji}{h0:MH}
def jV(R:Rg)(n:θ):ζ R.α:=JU n R.Ι
def RW(T:ji)(R:Rg)(h g:MH)(D N c:θ)(Ad:T.κ->η θ)(V:T.κ->ζ R.α):Prop:=(∃t,g=h++t)/\h.ε<=D/\(∃ep es,g[D]?=Qa (.Χ ep es)/\pB T es/\es.ε<=c/\∀k,jO es (T.v k)=(Ad k).ς ab.ο)/\(∀k k' a,Ad k=Qa a->Ad k'=Qa a->k=k')/\(∀k a,Ad k=Qa a->h.ε<=a)/\(∀k a,Ad k=Qa a->g[a]?=Qa (.ξ ((V k).ς R.e)))/\(∀k,Ad k=Qc->V k=jV R N)/\(∀k,(V k).ε=N)/\∃e es,g[D]?=Qa (.Χ (Qa e) es)/\(es.ς (·.1)).ϥ
section
variable{T:ji}{R:Rg}{h g:MH}{D N c:Nat}{Ad:T.κ->Option Nat}{V:T.κ->List R.α}(ψ:RW T R h g D N c Ad V)
def RW.Ch:=@ψ.1
def RW.nt:=@ψ.2.1
def RW.dd:=@ψ.2.2.1
def RW.dL:=@ψ.2.2.2.1
def RW.nu:=@ψ.2.2.2.2.1
def RW.LT:=@ψ.2.2.2.2.2.1
def RW.nj:=@ψ.2.2.2.2.2.2.1
def RW.am:=@ψ.2.2.2.2.2.2.2.1
def RW.sm:=@ψ.2.2.2.2.2.2.2.2
end
def bj{β:Type}(f:T.κ->β)(k:T.κ)(x:β):T.κ->β:=λa=>if a=k then x else f a
theorem jE{f:T.κ->β}{k:T.κ}{x:β}:bj f k x k=x:=ρ rfl
theorem jF{f:T.κ->β}{k a:T.κ}{x:β}(h:¬a=k):bj f k x a=f a:=π h
def RW.cu{t:MH}{Ad:T.κ->η θ}{V:T.κ->ζ R.α}(S:RW T R h g D N c Ad V):RW T R h (g++t) D N c Ad V:=by
 refine S.Ch.ι λt0 zq9=>?_;obtain rfl:=zq9;exact S.dd.ι λep zq7=>zq7.ι λes zq8=>⟨⟨_,JB ..⟩,S.nt,⟨ep,es,jA zq8.1,zq8.2⟩,S.dL,S.nu,λk a ha=>jA (S.LT k a ha),S.nj,S.am,S.sm.ι λe q=>q.ι λes q=>⟨e,es,jA q.1,q.2⟩⟩
def RW.qm{k:T.κ}{Ad:T.κ->η θ}{V:T.κ->ζ R.α}{x:ζ R.α}(S:RW T R h g D N c Ad V)(ha:Ad k=Qa a)(hx:x.ε=N):RW T R h (g.ϩ a (.ξ (x.ς R.e))) D N c Ad (bj V k x):=by
 refine S.Ch.ι λt0 zq6=>?_;obtain rfl:=zq6;refine S.dd.ι λep zq4=>zq4.ι λes zq5=>?_;have hr:=S.LT k a ha;refine⟨⟨_,sG (S.nu k a ha)⟩,S.nt,⟨ep,es,jP (cq hr zq5.1 nofun) zq5.1,zq5.2⟩,S.dL,S.nu,λk' a' ha'=>?_,λk' hn=>?_,λk'=>?_,S.sm.ι λe q=>q.ι λes q=>⟨e,es,jP (cq hr q.1 nofun) q.1,q.2⟩⟩
 ·by_cases e:k'=k
  ·subst e
   rw[ha] at ha';refine lN ha' ?_;rw[jE];exact j8 hr
  ·rw[jF e]
   exact jP (λq=>by subst q;exact e (S.dL _ _ _ ha' ha)) (S.LT k' a' ha')
 ·rw[jF λe=>by subst e;rw[ha] at hn;exact nomatch hn]
  exact S.nj k' hn
 ·by_cases e:k'=k
  ·refine eqE e ?_;rw[jE];exact hx
  ·exact(jF e)▸S.am k'
def RW.put{k:T.κ}{ep:η θ}{Ad:T.κ->η θ}{V:T.κ->ζ R.α}{x:ζ R.α}(S:RW T R h g D N c Ad V)(hD:g[D]?=Qa (.Χ ep es))(ha:g[a]?=Qa (.ξ (x.ς R.e)))(hl:h.ε<=a)(hn:∀k,Ad k≠Qa a)(hx:x.ε=N)(ep':η θ)(he:ep'.Ψ=Qe):RW T R h (g.ϩ D (.Χ ep' (mK es (T.v k) (.ο a)))) D N (c+1) (bj Ad k (Qa a)) (bj V k x):=by
 refine S.Ch.ι λt0 zq3=>?_;obtain rfl:=zq3;refine xEEAAA S.dd λep0 es0 h1 K hc h2=>?_;rw[hD] at h1;cases h1;refine⟨⟨_,sG S.nt⟩,S.nt,⟨ep',_,j8 hD,(U0 (k:=k) (v:=.ο a) K).1,Jm (U0 (k:=k) (v:=.ο a) K).2 (Zf hc),λk'=>?_⟩,λk1 k2 a' e1 e2=>?_,λk' a' e=>?_,λk' a' e=>?_,λk' e=>?_,λk'=>?_,?_⟩
 ·rw[F8 K]
  by_cases e:k=k'
  ·subst e;rw[ρ rfl,jE];rfl
  ·rw[π e,jF λq=>e q.Μ,h2]
 ·by_cases q1:k1=k<;>by_cases q2:k2=k
  ·exact q1.ν q2.Μ
  ·subst q1
   rw[jE] at e1;rw[jF q2] at e2;obtain rfl:=Qa.dL e1;exact υ e2 (hn _)
  ·subst q2
   rw[jE] at e2;rw[jF q1] at e1;obtain rfl:=Qa.dL e2;exact υ e1 (hn _)
  ·rw[jF q1] at e1;rw[jF q2] at e2
   exact S.dL _ _ _ e1 e2
 ·by_cases q1:k'=k
  ·subst q1;rw[jE] at e;cases e;exact hl
  ·rw[jF q1] at e;exact S.nu _ _ e
 ·by_cases q1:k'=k
  ·subst q1;rw[jE] at e ⊢;cases e;exact jP (cq hD ha nofun) ha
  ·rw[jF q1] at e ⊢
   have:=S.LT _ _ e
   exact jP (cq hD this nofun) this
 ·by_cases q1:k'=k
  ·subst q1;rw[jE] at e;exact nomatch e
  ·rw[jF q1] at e ⊢;exact S.nj _ e
 ·by_cases q1:k'=k
  ·subst q1;rw[jE];exact hx
  ·rw[jF q1];exact S.am k'
 ·cases ep' with
  |none=>cases he
  |some e=>
   refine S.sm.ι λe' q=>q.ι λes' q=>⟨e,_,j8 hD,Pn K ?_⟩
   have:=q.1
   rw[hD] at this;cases this;exact q.2
def RW.ep{Ad:T.κ->η θ}{V:T.κ->ζ R.α}{ep:η θ}(S:RW T R h g D N c Ad V)(hD:g[D]?=Qa (.Χ ep es))(b:Ε):(bif b then ep else ep.ς (· +1)).Ψ=true:=by
 refine xEEA S.sm λe es' q _=>?_;rw[hD] at q;cases q;cases b<;>rfl
end
section
variable{T:ji}
def bF(s:ζ θ)(a b:θ)(h:MH):slice h (.Υ s) 3 [.φ a,.φ b]=Qa (.Υ (km s (min a s.ε) (min b s.ε)),h):=by
 have e:∀n:θ,xQ s.ε (.φ n)=Qa (min n s.ε):=λn=>by
  delta xQ;simp only[ab.sK,qae];rw[Mz (Ζ (by omega)),KI]
 exact zhb (s:=s) (n:=3) (bs:=[.φ a,.φ b]) (p:=(min a s.ε,min b s.ε)) (by show ((xQ s.ε (.φ a)).Η λx=>(xQ s.ε (.φ b)).ς λy=>(x,y))=_;rw[e,e];rfl)
def kc(u:ζ θ)(i:θ)(s:ζ θ):Ε:=s== [] ||km u (min i u.ε) (min (i+1) u.ε)==s
def RF{s:ζ θ}(hd:1<=d)(q:Q (.ϝ (kc u i s)) h):WF P0 d 129 [.Υ u,.φ i,.Υ s] h Q:=by
 refine j7 (K:=0) hd (Qa (.Υ u)::Qa (.φ i)::Qa (.Υ s)::nn 6) xU rfl λd' h'=>?_;delta kc at q;exact jT (.k (rd s [])<|.br (s== []) (λhb=>.z ((show Q (.ϝ (s== [])) h by rw[hb] at q ⊢;exact q))) (λhb=>.c<|.q (bF u i (i+1))<|.k (rd (km u (min i u.ε) (min (i+1) u.ε)) s)<|.z ((show Q (.ϝ (km u (min i u.ε) (min (i+1) u.ε)==s)) h by rw[hb] at q;exact q)))) rfl
def RW.mx{Ad:T.κ->η θ}{V:T.κ->ζ R.α}(S:RW T R h g D N c Ad V)(I:ao R h L M):ao R g L M:=by obtain⟨t,rfl⟩:=S.Ch;exact I.cu
def zeZ(ha:h[a]?=Qa (.ξ [R.e R.Ι]))(hn:n<=10000):oZ .lv (.ο a) (.φ n) h=Qa (.ο h.ε,h++[.ξ ((jV R n).ς R.e)]):=by
 refine W.eq (AU (n:=n) ha (oF (Jt hn (by decide))) (by show 1*_<=_;rw[ZS];exact oF (Jt hn (by decide))) ⟨rfl,?_⟩);rw[Ed,show JU n (R.e R.Ι)=(jV R n).ς R.e from(Xs ..).Μ]
theorem Rg.yk(R:Rg)(g:MH)(hn:n<=10000):oZ .lv (.ο g.ε) (.φ n) (g++[.ξ [R.e R.Ι]])=Qa (.ο (g++[ae.ξ [R.e R.Ι]]).ε,g++[.ξ [R.e R.Ι]]++[.ξ ((jV R n).ς R.e)]):=zeZ ak hn
def zbe{l:ζ R.α}(x:R.α)(hr:h[a]?=Qa (.ξ (l.ς R.e)))(hs:s<l.ε):lT h (.ο a) (.φ s) (R.e x)=Qa (h.ϩ a (.ξ ((l.ϩ s x).ς R.e))):=by rw[zbf hr (by rw[Js];exact hs),map_set']
def zlen:(jV R n).ε=n:=by unfold jV;rw[Zy]
def Vm(hd:2<=d)(I:ao R h L M)(hs:M.Ϥ<M.aa.ε)(q:Q (.ο (h.ε+1)) (h++[.ξ [R.e R.Ι],.ξ (((jV R M.aa.ε).ϩ M.Ϥ M.jp).ς R.e)])):WF P0 d 128 [.ο L.m] h Q:=by
 refine j7 (K:=1) hd (Qa (.ο L.m)::nn 7) u2 rfl λd' h'=>?_;have e2:=zeZ (h:=h++[ae.ξ [R.e R.Ι]]) (R:=R) (n:=M.aa.ε) ak I.bc;rw[(by rw[Ju];rfl:(h++[ae.ξ [R.e R.Ι]]).ε=h.ε+1),JB] at e2;have e3:=zbe (s:=M.Ϥ) M.jp (mU (h:=h) (j:=1) (t:=[.ξ [R.e R.Ι],.ξ ((jV R M.aa.ε).ς R.e)])) (by rw[zlen];exact hs);rw[Hi] at e3;exact jT (.v (lU I)<|.w (R.no)<|.p (pF (h:=h++[.ξ [R.e R.Ι]]) h' I.cu)<|.p (e2)<|.v (W8 (I.cu:ao R (h++([ae.ξ [R.e R.Ι]]++[ae.ξ ((jV R M.aa.ε).ς R.e)])) L M))<|.v (vK (I.cu:ao R (h++([ae.ξ [R.e R.Ι]]++[ae.ξ ((jV R M.aa.ε).ς R.e)])) L M))<|.h (e3)<|.z ((q))) rfl
def Ir(z:T.κ){ep:η θ}(hD:h[D]?=Qa (.Χ ep es))(K:pB T es):mP .jc ((T.v z)) (.ο D) h=Qa (!(jO es ((T.v z))).Ψ):=by
 refine Mu ?_;show ba ((j6 h (.ο D)).Η _) ((lV h (.ο D)).Η λd=>aw (jN d.2 ((T.v z))) (Qa (jO d.2 ((T.v z))).Ψ))=_;rw[p8 hD,nR hD];show aw (jN es ((T.v z))) (Qa (jO es ((T.v z))).Ψ)=_;rw[mX K];rfl
def lW(r:ζ R.α)(s:θ)(x:R.α):ζ R.α:=r.ϩ s (R.Ϯ (r[s]?.bm R.Ι) x)
abbrev Sl(T:ji)(L:Ly)(D:θ)(z:T.κ)(s:θ)(x:R.α):Ρ.Θ:=Qa (.ο L.m)::Qa (.ο D)::Qa ((T.v z))::Qa (.φ s)::Qa (R.e x)::nn 6
def Nt{z:T.κ}{x:R.α}{ep:η θ}{l:ζ R.α}(hd:3<=d)(I:ao R g L M)(hD:g[D]?=Qa (.Χ ep es))(K:pB T es)(hk:jO es ((T.v z))=Qa (.ο a))(hr:g[a]?=Qa (.ξ (l.ς R.e)))(hs:s<l.ε)(hV:∀y∈l,R.D p k y)(hx:R.D p k x)(hl:4*p+k<=3800)
  (q:F .nx (Sl T L D z s x) (g.ϩ a (.ξ ((lW l s x).ς R.e)))):bz (ah P0 d) (pK.bn 1) (Sl T L D z s x) g F:=by
 exact jT (.v (lU I)<|.v (sd hD (mX K) hk)<|.v (sl hr (rX (VC hs)))<|.q (R.pl hd (hV _ (Na hs)) hx hl)<|.v (sd hD (mX K) hk)<|.h (zbe (R.Ϯ (at' l s) x) hr hs)<|.z ((q))) rfl
section
variable{D c s p k:Nat}{z:T.κ}{Ad:T.κ->Option Nat}{V:T.κ->List R.α}{x:R.α}{ep:Option Nat}{es:List (ab×ab)}
def Sj{l:ζ R.α}(hd:4<=d)(I:ao R g L M)(hD:g[D]?=Qa (.Χ ep es))(K:pB T es)(hk:jO es ((T.v z))=Qa (.ο a))(hr:g[a]?=Qa (.ξ (l.ς R.e)))(hs:s<l.ε)(hV:∀y∈l,R.D p k y)(hx:R.D p k x)(hl:4*p+k<=3800)
  (q:Q .Δ (g.ϩ a (.ξ ((lW l s x).ς R.e)))):WF P0 d 126 [.ο L.m,.ο D,(T.v z),.φ s,R.e x] g Q:=by
 exact j7 (K:=3) hd (Sl T L D z s x) pK rfl λd' h'=>Su (jT (.b (Ir z hD K)<|.f ((show (!(jO es ((T.v z))).Ψ)=Qb by rw[hk];rfl))<|.z (mY (Nt h' I hD K hk hr hs hV hx hl (F:=Ρ.Fin Q) q))) rfl)
abbrev W9(R:Rg)(g:MH)(n D:θ)(ep:η θ)(es:ζ (ab×ab))(z:T.κ):MH:=qaW (g++[ae.ξ [R.e R.Ι]]++[ae.ξ ((jV R n).ς R.e)]) D (ae.Χ (bif (jO es ((T.v z))).Ψ then ep else ep.ς (· +1)) (mK es ((T.v z)) (.ο (g++[ae.ξ [R.e R.Ι]]).ε)))
def Nr(hd:4<=d)(I:ao R g L M)(hD:g[D]?=Qa (.Χ ep es))(K:pB T es)(hl':es.ε<bc)(hk:jO es ((T.v z))=Qc)(I3:ao R (W9 R g M.aa.ε D ep es z) L M)(hD':(W9 R g M.aa.ε D ep es z)[D]?=Qa (.Χ ep' es'))(K':pB T es')(hk':jO es' ((T.v z))=Qa (.ο (g++[ae.ξ [R.e R.Ι]]).ε))
  (hr:(W9 R g M.aa.ε D ep es z)[(g++[ae.ξ [R.e R.Ι]]).ε]?=Qa (.ξ ((jV R M.aa.ε).ς R.e))) (hs:s<M.aa.ε) (hx:R.D p k x) (hl:4*p+k<=3800)
  (q:Q .Δ ((W9 R g M.aa.ε D ep es z).ϩ (g++[ae.ξ [R.e R.Ι]]).ε (.ξ ((lW (jV R M.aa.ε) s x).ς R.e)))):WF P0 d 126 [.ο L.m,.ο D,(T.v z),.φ s,R.e x] g Q:=by
 exact j7 (K:=3) hd (Sl T L D z s x) pK rfl λd' h'=>Su (jT (.b (Ir z hD K)<|.t ((show (!(jO es ((T.v z))).Ψ)=Qe by rw[hk];rfl))<|.v (lU I)<|.w (R.no)<|.p (pF (Jm (by decide) h') (I.cu:ao R (g++[ae.ξ [R.e R.Ι]]) L M))<|.p (R.yk g I.bc)<|.h (L3 (v:=.ο (g++[ae.ξ [R.e R.Ι]]).ε) (jA (t:=[ae.ξ ((jV R M.aa.ε).ς R.e)]) (jA (t:=[ae.ξ [R.e R.Ι]]) hD)) (mX (k:=z) K) hl')<|.z (mY (Nt h' I3 hD' K' hk' hr (by rw[zlen];exact hs) (λy hy=>by rw[Zc hy];exact R.ag (JF _) (JF _) R.bx:∀y∈jV R M.aa.ε,R.D p k y) hx hl (F:=Ρ.Fin Q) q))) (by kernel_rfl))
theorem De{l:ζ R.α}:(lW l s x).ε=l.ε:=J0
def RW.fresh(S:RW T R h g D M.aa.ε c Ad V)(hA:Ad z=Qc)(hD:g[D]?=Qa (.Χ ep es)):RW T R h (W9 R g M.aa.ε D ep es z) D M.aa.ε (c+1) (bj Ad z (Qa (g++[ae.ξ [R.e R.Ι]]).ε)) V:=by
 have lg:h.ε<=(g++[ae.ξ [R.e R.Ι]]).ε:=by obtain⟨t0,rfl⟩:=S.Ch;rw[Ju,Ju];exact Jm (Jq _ _) (Jq _ _)
 have S3:=(S.cu.cu:RW T R h (g++[ae.ξ [R.e R.Ι]]++[ae.ξ ((jV R M.aa.ε).ς R.e)]) D M.aa.ε c Ad V).put (k:=z) (x:=jV R M.aa.ε) (jA (jA hD)) ak lg (λk' e=>υ (jS (S.LT k' _ e)) (by rw[Ju];exact Zs.Ϩ (Jq _ _))) zlen (bif (jO es ((T.v z))).Ψ then ep else ep.ς (· +1)) (S.ep hD _);have eV:bj V z (jV R M.aa.ε)=V:=by
  funext a
  by_cases e:a=z
  ·refine eqB e ?_;rw[jE];exact(S.nj _ hA).Μ
  ·exact jF e
 rw[eV] at S3;exact S3
def RW.TF(S:RW T R h g D M.aa.ε c Ad V):RW T R h g D M.aa.ε (c+1) Ad V:=by
 exact S.dd.ι λep zq8=>zq8.ι λes zq9=>⟨S.Ch,S.nt,⟨ep,es,zq9.1,zq9.2.1,J4 zq9.2.2.1,zq9.2.2.2⟩,S.dL,S.nu,S.LT,S.nj,S.am,S.sm⟩
end
def tx(D:θ)(g g':MH)(Ad Ad':T.κ->η θ):Prop:=∀a (o:ae),a≠D->(∀k,Ad k≠Qa a)->g[a]?=Qa o->g'[a]?=Qa o/\∀k,Ad' k≠Qa a
def Nq{z:T.κ}{Ad:T.κ->η θ}{V:T.κ->ζ R.α}{x:R.α}(hd:4<=d)(I:ao R h L M)(S:RW T R h g D N c Ad V)(hN:N=M.aa.ε)(hc:c<100000)(hs:s<N)(hV:∀y∈V z,R.D p k y)(hx:R.D p k x)(hl:4*p+k<=3800)
  (q:∀g' Ad',RW T R h g' D N (c+1) Ad' (bj V z (lW (V z) s x))->(∀z' a',Ad z'=Qa a'->Ad' z'=Qa a')->(∀z' a',Ad' z'=Qa a'->z'=z\/Ad z'=Qa a')->tx D g g' Ad Ad'->Q .Δ g'):WF P0 d 126 [.ο L.m,.ο D,(T.v z),.φ s,R.e x] g Q:=by
 subst hN;refine FD (Ad z) (λhA=>?_) λa hA=>?_
 ·refine S.dd.ι λep zq4=>zq4.ι λes zq5=>?_
  have S3:=S.fresh hA zq5.1;refine S3.dd.ι λep' zq2=>zq2.ι λes' zq3=>?_;have hr:=S3.LT z _ jE;have e:=S.nj z hA;have S4:=S3.qm (k:=z) (x:=lW (V z) s x) jE (De.ν (S.am z));rw[e] at hr S4 q;exact Nr hd (S.mx I) zq5.1 zq5.2.1 (Jt zq5.2.2.1 (Zp hc (by decide))) (by rw[zq5.2.2.2,hA];rfl) (S3.mx I) zq3.1 zq3.2.1 (by rw[zq3.2.2.2,jE];rfl) hr hs hx hl (q _ _ S4 (λz' a' e=>by rw[jF λq=>by rw[q,hA] at e;exact nomatch e];exact e) (λz' a' e=>by
   by_cases q:z'=z
   ·exact .nb q
   ·rw[jF q] at e;exact .u8 e) λb vs h0 h1 h2=>by
    have lb:=jS h2;have n1:¬(g++[ae.ξ [R.e R.Ι]]).ε=b:=λe=>by
     rw[<-e,Ju] at lb;exact Zs.Ϩ (Jq _ _) lb
    refine⟨jP n1 (jP (λe=>h0 e.Μ) (jA (jA h2))),λk e=>?_⟩;by_cases q:k=z
    ·rw[q,jE] at e;exact n1 (Qa.dL e)
    ·rw[jF q] at e;exact h1 k e)
 ·exact S.dd.ι λep zq6=>zq6.ι λes zq7=>Sj hd (S.mx I) zq7.1 zq7.2.1 (by rw[zq7.2.2.2,hA];rfl) (S.LT z a hA) (by rw[S.am];exact hs) hV hx hl (q _ Ad (S.TF.qm hA (De.ν (S.am z))) (λ_ _ e=>e) (λ_ _ e=>.u8 e) λ_ _ _ h1 h2=>⟨jP (λe=>h1 z (hA.ν (χ Qa e))) h2,h1⟩)
def Up(r e:ζ R.α):R.α:=(r.zip e).foldl (λo p=>R.Ϯ o (R.lv p.1 p.2)) R.Ι
def RK(hd:4<=d)(I:ao R h L M)(q:Q (R.e R.Ι) h):WF P0 d 127 [.ο L.m,.Δ] h Q:=by
 exact j7 (K:=3) hd (Qa (.ο L.m)::Qa .Δ::nn 9) pV rfl λd' h'=>jT (.v (lU I)<|.w (R.no)<|.c2<|.q (R.nd h' R.bx (by decide))<|.z (q)) (by kernel_rfl)
abbrev zcH(R:Rg)(L:Ly)(a:θ)(o:R.α)(z:η ab):Ρ.Θ:=Qa (.ο L.m)::Qa (.ο a)::Qa (.ai (112+R.i))::Qa (R.e o)::z::nn 6
abbrev zfJ:ζ Sm:=[.fm (.nm 3) (.az (.Λ 2) Hv [.Λ 3,.az (.Λ 2) WR [.wr (.Λ 1) (.Λ 4),.wr (.aq (.Λ 0) lO) (.Λ 4)]])]
def F7{r e:ζ R.α}(h1:i<r.ε)(h2:i<e.ε):Up (r.ϣ (i+1)) (e.ϣ (i+1))=R.Ϯ (Up (r.ϣ i) (e.ϣ i)) (R.lv (at' r i) (at' e i)):=by
 delta Up;simp only[Ku,Ku,VC h1,VC h2];rw[ζ.zip_append (by rw[ZC,ZC,ZD (JL h1),ZD (JL h2)]),YS];rfl
def MM{r:ζ R.α}(hd:3<=d)(I:ao R h L M)(ha:h[a]?=Qa (.ξ (r.ς R.e)))(hr:r.ε=M.aa.ε)(h1:∀x∈r,R.D p k x)(h2:∀x∈M.aj,R.D p' k' x)(hl:4*(p+p')+(k+k'+M.aa.ε)<=3800):∃z,exec (ah P0 d) (.fo [4] Qb (.ϧ (.f8 (.ty WU)) [.az (.Λ 0) sP []]) zfJ) (zcH R L a R.Ι Qc) h=Qa ((.nx,zcH R L a (Up r M.aj) z),h)/\R.D (p+p') (k+k'+M.aa.ε) (Up r M.aj):=by
 obtain⟨⟨o,z⟩,P,e⟩:=lm (c:=ah P0 d) (x:=4) (n:=M.aa.ε) (e:=.ϧ (.f8 (.ty WU)) [.az (.Λ 0) sP []]) (b:=zfJ) (σ:=R.α×η ab) (λs=>zcH R L a s.1 s.2) (λ_=>h) (λi s=>s.1=Up (r.ϣ i) (M.aj.ϣ i)/\R.D (p+p') (k+k'+i) s.1) (R.Ι,Qc) (Jm I.bc (by decide)) rfl
  (by exact j2 (.p (pF (Jm (by decide) hd) I)<|.c<|.z (cg (.gb M.aa.ε) h)) (by kernel_rfl)) ⟨rfl,R.ag (JF _) (JF _) R.bx⟩ λi s X _ hi P T=>by
   have hi1:i<r.ε:=hr.Μ▸hi;have hi2:i<M.aj.ε:=by rw[I.du];exact hi
   have dm:=R.ag (Jv _) (Jq (k+k') i) (R.dp (h1 _ (Na hi1)) (h2 _ (Na hi2)));exact jT (.v (sl ha (rX (VC hi1)))<|.v (xF I)<|.v (sl I.aj (rX (VC hi2)))<|.q (R.ti hd (h1 _ (Na hi1)) (h2 _ (Na hi2)) (Jm (Jp (Jq _ _) _) hl))<|.q (R.pl hd P.2 dm (Jm (Jp (Jp (JL hi) _) _) hl))<|.z (T.nx (R.Ϯ s.1 (R.lv (at' r i) (at' M.aj i)),Qa (.φ i)) ⟨by rw[F7 hi1 hi2,P.1],R.fz P.2 dm⟩)) rfl
 obtain⟨q,D⟩:o=Up (r.ϣ M.aa.ε) (M.aj.ϣ M.aa.ε)/\R.D (p+p') (k+k'+M.aa.ε) o:=P;subst q;rw[show r.ϣ M.aa.ε=r by rw[<-hr,JW],show M.aj.ϣ M.aa.ε=M.aj by rw[<-I.du,JW]] at D e;exact⟨z,e,D⟩
def vT{r:ζ R.α}(hd:4<=d)(I:ao R h L M)(ha:h[a]?=Qa (.ξ (r.ς R.e)))(hr:r.ε=M.aa.ε)(h1:∀x∈r,R.D p k x)(h2:∀x∈M.aj,R.D p' k' x)(hl:4*(p+p')+(k+k'+M.aa.ε)<=3800)(q:Q (R.e (Up r M.aj)) h):WF P0 d 127 [.ο L.m,.ο a] h Q:=by
 exact j7 (K:=3) hd (Qa (.ο L.m)::Qa (.ο a)::nn 9) pV rfl λd' h'=>(MM h' I ha hr h1 h2 hl).ι λz zq1=>jT (.v (lU I)<|.w (R.no)<|.c2<|.s (zq1.1)<|.q (R.nd h' zq1.2 hl)<|.z (q)) rfl
end
section
def Rg.ui(a:R.α):R.Ϯ a R.Ι=a:=by rw[R.sn];exact R.Ϛ a
def Rg.xz(a:R.α):R.lv a R.Ι=R.Ι:=by rw[R.IN];exact R.v4 a
def Rg.add_mul(a b c:R.α):R.lv (R.Ϯ a b) c=R.Ϯ (R.lv a c) (R.lv b c):=by rw[R.IN,R.No,R.IN c a,R.IN c b]
def Rg.swap(a b c:R.α):R.Ϯ a (R.Ϯ b c)=R.Ϯ b (R.Ϯ a c):=by rw[<-R.Ϧ,R.sn a b,R.Ϧ]
def pO(l:ζ R.α):R.α:=l.foldr R.Ϯ R.Ι
theorem jQ{a:R.α}{l:ζ R.α}:pO (a::l)=R.Ϯ a (pO l):=rfl
theorem lS{F G:β->R.α}{l:ζ β}(h:∀x∈l,F x=G x):pO (l.ς F)=pO (l.ς G):=χ pO (ZV h)
def AZ{F G:β->R.α}{y:R.α}{c:β}:∀{l:ζ β},l.ϥ->c∈l->(∀x∈l,x≠c->F x=G x)->F c=R.Ϯ y (G c)->pO (l.ς F)=R.Ϯ y (pO (l.ς G)):=by
 intro l
 induction l with
 |ϟ=>exact λ_ h=>υ h JE
 |Κ x l ih=>
  intro nd hc he hy;have nd:=JK.mp nd;simp only[JY,JY,jQ,jQ];rcases JO.mp hc with rfl|hc
  ·simp only[hy,lS λz hz=>he z (.lw _ hz) λe=>nd.1 (e▸hz),R.Ϧ]
  ·simp only[ih nd.2 hc (λz hz=>he z (.lw _ hz)) hy,he x (.mo _) λe=>nd.1 (e▸hc),R.swap]
def jM:ζ R.α->(θ->R.α)->θ->R.α
 | [],_,_=>R.Ι
 |x::r,b,o=>R.Ϯ (R.lv x (b o)) (jM r b (o+1))
def kH{b:θ->R.α}:∀{o:θ},jM (jV R n) b o=R.Ι:=by
 delta jV
 induction n with
 |zero=>intro o;rfl
 |succ n ih=>
  intro o;show R.Ϯ (R.lv R.Ι (b o)) (jM (JU n R.Ι) b (o+1))=_;rw[ih,R.v4,R.Ϛ]
def Ga{b:θ->R.α}{x:R.α}:∀{r:ζ R.α}{s o:θ},s<r.ε->jM (lW r s x) b o=R.Ϯ (R.lv x (b (o+s))) (jM r b o):=by
 intro r
 induction r with
 |ϟ=>exact λh=>υ h (Zb _)
 |Κ y r ih=>
  intro s o hs;cases s with
  |zero=>
   show R.Ϯ (R.lv (R.Ϯ y x) (b o)) (jM r b (o+1))=R.Ϯ (R.lv x (b o)) (R.Ϯ (R.lv y (b o)) (jM r b (o+1)));rw[R.add_mul,R.Ϧ,R.swap]
  |succ s=>
   have:=ih (s:=s) (o:=o+1) (Ky hs)
   show R.Ϯ (R.lv y (b o)) (jM (lW r s x) b (o+1))=R.Ϯ (R.lv x (b (o+(s+1)))) (R.Ϯ (R.lv y (b o)) (jM r b (o+1)));rw[this,R.swap,show o+1+s=o+(s+1) by lia]
def yS{r:ζ R.α}{b:θ->R.α}(hs:s<r.ε):jM (r.bn s) b s=R.Ϯ (R.lv r[s] (b s)) (jM (r.bn (s+1)) b (s+1)):=by
 rw[Kq hs];rfl
def F1{l:ζ (R.α×R.α)}{a b:R.α}:l.foldl (λo p=>R.Ϯ o (R.lv p.1 p.2)) (R.Ϯ a b)=R.Ϯ a (l.foldl (λo p=>R.Ϯ o (R.lv p.1 p.2)) b):=by
 induction l generalizing b with
 |ϟ=>rfl
 |Κ p l ih=>rw(occs:=.Db) [Yh,Yh,R.Ϧ,ih]
def Le{r e:ζ R.α}{o:θ}{b:θ->R.α}(hl:r.ε=e.ε)(hb:∀(s:θ) x,e[s]?=Qa x->b (o+s)=x):Up r e=jM r b o:=by
 delta Up
 induction r generalizing e o with
 |ϟ=>rfl
 |Κ x r ih=>
  cases e with
  |ϟ=>exact θ.Tz hl
  |Κ y e=>
   simp only[Yg,Yh];show (r.zip e).foldl _ (R.Ϯ R.Ι (R.lv x y))=R.Ϯ (R.lv x (b o)) (jM r b (o+1));simp only[R.sn R.Ι,F1,ih (o:=o+1) (ZX.dL hl) λs z hz=>by rw[XX];exact hb (s+1) z hz,show b o=y from hb 0 y rfl]
def cells(n m:θ):ζ (θ×θ):=(Zk (n+1)).flatMap λi=>(Zk (m+1)).ς λj=>(i,j)
def tY:(i,j)∈cells n m ↔ i<=n/\j<=m:=by
 delta cells;simp only[ζ.mem_flatMap,KG,JM,Xr.injEq]
 constructor
 ·rintro ⟨a,ha,b,hb,rfl,rfl⟩;exact⟨J7 ha,J7 hb⟩
 ·rintro ⟨h1,h2⟩;exact⟨i,JV h1,j,JV h2,rfl,rfl⟩
def Ht:(cells n m).ϥ:=by
 delta cells;refine ζ.pairwise_flatMap.Ϩ ⟨λi _=>?_,ζ.Pairwise.imp ?_ (qaf (n:=n+1))⟩
 ·exact ζ.pairwise_map.Ϩ (ζ.Pairwise.imp (λhab e=>hab (Xr.dL e).2) (qaf (n:=m+1)))
 ·intro a b hab x hx y hy e
  obtain⟨j,_,rfl⟩:=JM.mp hx;obtain⟨j',_,rfl⟩:=JM.mp hy;exact hab (Xr.dL e).1
def done(i j:θ)(c:θ×θ):Prop:=c.1<i\/(c.1=i/\c.2<j)
section
variable{T:ji}{cs:List T.κ}{dn dn':T.κ->Prop}{B:T.κ->Nat->R.α}{V:T.κ->List R.α}
def nL(cs:ζ T.κ)(dn:T.κ->Prop)(B:T.κ->θ->R.α)(V:T.κ->ζ R.α):R.α:=pO (cs.ς λc=> @ite _ (dn c) (Classical.propDecidable _) R.Ι (jM (V c) (B c) 0))
def UP(e:∀c∈cs,dn c ↔ dn' c):nL cs dn B V=nL cs dn' B V:=by
 refine lS λc hc=>?_;by_cases h:dn c
 ·rw[ρ h,ρ ((e c hc).mp h)]
 ·rw[π h,π λq=>h ((e c hc).Ϩ q)]
def UO{k:T.κ}(nd:cs.ϥ)(hk:k∈cs)(h0:¬dn k)(h1:∀c,dn' c ↔ dn c\/c=k):nL cs dn B V=R.Ϯ (jM (V k) (B k) 0) (nL cs dn' B V):=by
 refine AZ (c:=k) nd hk (λc _ hc=>?_) ?_
 ·by_cases h:dn c
  ·rw[ρ h,ρ ((h1 c).Ϩ (.nb h))]
  ·rw[π h,π λq=>((h1 c).mp q).ι h hc]
 ·rw[π h0,ρ ((h1 k).Ϩ (.u8 rfl)),R.ui]
def p5{k:T.κ}{x:R.α}(nd:cs.ϥ)(hk:k∈cs)(hn:¬dn k)(hs:s<(V k).ε):nL cs dn B (bj V k (lW (V k) s x))=R.Ϯ (R.lv x (B k s)) (nL cs dn B V):=by
 refine AZ (c:=k) nd hk (λc _ hc=>?_) ?_
 ·by_cases h:dn c
  ·rw[ρ h,ρ h]
  ·rw[π h,π h,jF hc]
 ·rw[π hn,π hn,jE,Ga hs,ZK]
def UQ{k:T.κ}{r:ζ R.α}(hn:dn k):nL cs dn B (bj V k r)=nL cs dn B V:=by
 refine lS λc _=>?_;by_cases h:dn c
 ·rw[ρ h,ρ h]
 ·rw[π h,π h,jF λq:c=k=>h (by rw[q];exact hn)]
def LV(l:ζ β):pO (l.ς λ_=>R.Ι)=R.Ι:=by
 induction l with
 |ϟ=>rfl
 |Κ x l ih=>rw[JY,jQ,ih,R.Ϛ]
def oO(h:∀c∈cs,¬dn c->jM (V c) (B c) 0=R.Ι):nL cs dn B V=R.Ι:=by
 refine(lS λc hc=>?_).ν (LV cs);by_cases hd:dn c
 ·exact(ρ hd)
 ·rw[π hd,h c hc hd]
end
def nh(n m:θ)(B:θ->θ->θ->R.α)(i j:θ)(V:θ×θ->ζ R.α):R.α:=nL (T:=kX) (cells n m) (done i j) (λc=>B c.1 c.2) V
variable{n m:Nat}{B:Nat->Nat->Nat->R.α}{V:Nat×Nat->List R.α}
theorem C3(hi:i<=n)(hj:j<=m):nh n m B i j V=R.Ϯ (jM (V (i,j)) (B i j) 0) (nh n m B i (j+1) V):=
 UO (T:=kX) (k:=(i,j)) (B:=λc=>B c.1 c.2) Ht (tY.Ϩ ⟨hi,hj⟩) (by unfold done;simp) λc=>by
  delta done
  constructor
  ·rintro (h|h)
   ·exact .nb (.nb h)
   ·exact(KZ (J7 h.2)).ι (λe=>.nb (.u8 ⟨h.1,e⟩)) λe=>.u8 (qbg h.1 e)
  ·rintro ((h|h)|rfl)
   ·exact .nb h
   ·exact .u8 ⟨h.1,Zu h.2⟩
   ·exact .u8 ⟨rfl,JT _⟩
def GK:nh n m B i (m+1) V=nh n m B (i+1) 0 V:=by
 refine UP (T:=kX) λc hc=>?_
 have:=tY.mp hc
 exact⟨λq=>.nb (q.ι Zu λq=>JV (JC q.1)),λq=>q.ι (λq=>(KZ (J7 q)).imp id λe=>⟨e,JV this.2⟩) λq=>υ q.2 (Zb _)⟩
theorem Ho{x:R.α}(ha:a<=n)(hb:b<=m)(hn:¬done i j (a,b))(hs:s<(V (a,b)).ε):nh n m B i j (bj (T:=kX) V (a,b) (lW (V (a,b)) s x))=R.Ϯ (R.lv x (B a b s)) (nh n m B i j V):=
 p5 (T:=kX) (k:=(a,b)) (B:=λc=>B c.1 c.2) Ht (tY.Ϩ ⟨ha,hb⟩) hn hs
theorem C4{r:ζ R.α}(hn:done i j (a,b)):nh n m B i j (bj (T:=kX) V (a,b) r)=nh n m B i j V:=UQ (T:=kX) (k:=(a,b)) hn
theorem C0(h:∀a b,V (a,b)=jV R N):nh n m B i j V=R.Ι:=oO (T:=kX) λc _ _=>by rw[h,kH]
theorem Eg:nh n m B (n+1) 0 V=R.Ι:=oO (T:=kX) λc hc hd=>υ (.nb (JV (tY.mp hc).1)) hd
end
section
variable{h0:MH}
def gx(u l:ζ θ)(i j:θ)(a:Ar R.α):Ε:=!a.fq && (kc u i a.up && kc l j a.lo)
def VF(B:θ->θ->θ->R.α)(u l:ζ θ)(i j:θ)(xs:ζ (Ar R.α)):R.α:=pO (xs.ς λa=>bif gx u l i j a then R.lv a.w (B (i+a.up.ε) (j+a.lo.ε) a.t) else R.Ι)
def xT(M:Mc R.α)(B:θ->θ->θ->R.α)(u l:ζ θ)(i j s:θ):R.α:=R.Ϯ (if i=u.ε/\j=l.ε then eh M s else R.Ι) (VF B u l i j (bp M s))
theorem G8{s:ζ θ}(hs:dh s)(h:kc u i s=Qe):i<=u.ε->i+s.ε<=u.ε/\s.ε<=1:=λhi=>by
 rcases hs with rfl| ⟨c,rfl,_⟩
 ·exact⟨by simpa using hi,by decide⟩
 ·refine⟨?_,Jv _⟩
  by_cases he:i=u.ε
  ·subst he
   delta kc at h;rw[ZD (Jv _),Yv (Ze _)] at h;delta km at h;rw[JW,Z3] at h;exact JJ h
  ·exact J9 (ZI hi he)
def xO{a:Ar R.α}(h:a.fq=Qb):0<a.up.ε+a.lo.ε:=by
 delta Ar.fq at h;obtain⟨up,lo,w,t⟩:=a;cases up with
 |Κ _ _=>show 0<_+1+_;exact qa1 _ (ZU _)
 |ϟ=>
  cases lo with
  |Κ _ _=>show 0<_+(_+1);exact θ.lt_add_left _ (ZU _)
  |ϟ=>exact JJ h
def Bb(R:Rg)(i j c p k:θ)(V:θ×θ->ζ R.α):Prop:=∀a b,¬done i j (a,b)->∀x∈V (a,b),R.D (p*(a+b+1)) (k*(a+b+1)+c) x
theorem W2{r:ζ R.α}{x y:R.α}(hy:y∈lW r s x):y∈r\/y=R.Ϯ (r[s]?.bm R.Ι) x:=Z6 hy
def Bk{B:θ->θ->θ->R.α}{l:ζ θ}{q:θ}{a:Ar R.α}(ha:xs[q]?=Qa a):VF B u l i j (xs.bn q)=R.Ϯ (bif gx u l i j a then R.lv a.w (B (i+a.up.ε) (j+a.lo.ε) a.t) else R.Ι) (VF B u l i j (xs.bn (q+1))):=by
 refine(Jx.mp ha).ι λhq zq6=>?_;refine eqE zq6 ?_;simp only[Kq hq];rfl
abbrev CS(R:Rg):=MH×(θ×θ->η θ)×(θ×θ->ζ R.α)×θ×η ab×η ab×η ab×η ab×η ab×η ab
section
variable{R:Rg}(ψ:CS R)
abbrev CS.g:=ψ.1
abbrev CS.Ad:=ψ.2.1
abbrev CS.V:=ψ.2.2.1
abbrev CS.c:=ψ.2.2.2.1
abbrev CS.a:=ψ.2.2.2.2.1
abbrev CS.b:=ψ.2.2.2.2.2.1
abbrev CS.d:=ψ.2.2.2.2.2.2.1
abbrev CS.e:=ψ.2.2.2.2.2.2.2.1
abbrev CS.f:=ψ.2.2.2.2.2.2.2.2.1
abbrev CS.k:=ψ.2.2.2.2.2.2.2.2.2
end
abbrev WX(R:Rg):=MH×Ly×Mc R.α×ζ θ×ζ θ×θ×ab×θ×θ×θ×θ×θ×θ×(θ->θ->θ->R.α)×R.α
section
variable{R:Rg}(ψ:WX R)
abbrev WX.h:=ψ.1
abbrev WX.L:=ψ.2.1
abbrev WX.M:=ψ.2.2.1
abbrev WX.u:=ψ.2.2.2.1
abbrev WX.l:=ψ.2.2.2.2.1
abbrev WX.D:=ψ.2.2.2.2.2.1
abbrev WX.ov:=ψ.2.2.2.2.2.2.1
abbrev WX.p:=ψ.2.2.2.2.2.2.2.1
abbrev WX.k:=ψ.2.2.2.2.2.2.2.2.1
abbrev WX.p1:=ψ.2.2.2.2.2.2.2.2.2.1
abbrev WX.k1:=ψ.2.2.2.2.2.2.2.2.2.2.1
abbrev WX.pS:=ψ.2.2.2.2.2.2.2.2.2.2.2.1
abbrev WX.kS:=ψ.2.2.2.2.2.2.2.2.2.2.2.2.1
abbrev WX.B:=ψ.2.2.2.2.2.2.2.2.2.2.2.2.2.1
abbrev WX.W:=ψ.2.2.2.2.2.2.2.2.2.2.2.2.2.2
end
def my(X:WX R):Prop:=ao R X.h X.L X.M/\kI X.M X.p1 X.k1/\X.p1+X.pS<=X.p/\X.k1+X.kS<=X.k/\1+(X.u.ε+1)*(X.l.ε+1)*(X.M.ax+1)<100000/\4*(X.p*(X.u.ε+X.l.ε+2))+(X.k*(X.u.ε+X.l.ε+2)+(1+(X.u.ε+1)*(X.l.ε+1)*(X.M.ax+1)+X.M.aa.ε))<=3800
section
variable{X:WX R}(ψ:my X)
def my.I:=@ψ.1
def my.G:=@ψ.2.1
def my.pp:=@ψ.2.2.1
def my.kk:=@ψ.2.2.2.1
def my.cl:=@ψ.2.2.2.2.1
def my.bd:=@ψ.2.2.2.2.2
end
def gp(X:WX R)(a b d e f k:η ab):Ρ.Θ:=Qa (.ο X.L.m)::Qa (.Υ X.u)::Qa (.Υ X.l)::Qa (.ai (112+R.i))::Qa X.ov::Qa (.ο X.D)::a::b::d::e::f::k::nn 6
abbrev vN(n:θ):η ab:=Qa (.φ n)
abbrev vR(n:θ):η ab:=Qa (.ο n)
def xY(X:WX R)(i j aR c0:θ)(row:ζ R.α)(F:R.α):Prop:=my X/\i<=X.u.ε/\j<=X.l.ε/\c0+X.M.ax<=1+(X.u.ε+1)*(X.l.ε+1)*(X.M.ax+1)/\row.ε=X.M.aa.ε/\∀x∈row,R.D (X.p*(i+j+1)+X.pS) (X.k*(i+j+1)+X.kS+c0) x
section
variable{X:WX R}{i j aR c0:Nat}{row:List R.α}{F:R.α}(ψ:xY X i j aR c0 row F)
def xY.O:=@ψ.1
def xY.hi:=@ψ.2.1
def xY.hj:=@ψ.2.2.1
def xY.cc:=@ψ.2.2.2.1
def xY.am:=@ψ.2.2.2.2.1
def xY.dg:=@ψ.2.2.2.2.2
end
def CP(X:WX R)(i j aR c0:θ)(row:ζ R.α)(n:θ)(e:R.α)(s:CS R):Prop:=RW kX R X.h s.g X.D X.M.aa.ε s.c s.Ad s.V/\c0<=s.c/\s.c<=c0+n/\Bb R i (j+1) s.c X.p X.k s.V/\s.V (i,j)=row/\s.Ad (i,j)=Qa aR/\R.Ϯ (nh X.u.ε X.l.ε X.B i (j+1) s.V) e=X.W
section
variable{X:WX R}{i j aR c0:Nat}{row:List R.α}{n:Nat}{e:R.α}{s:CS R}(ψ:CP X i j aR c0 row n e s)
def CP.TM:=@ψ.1
def CP.lo:=@ψ.2.1
def CP.hi:=@ψ.2.2.1
def CP.dg:=@ψ.2.2.2.1
def CP.vr:=@ψ.2.2.2.2.1
def CP.ad:=@ψ.2.2.2.2.2.1
def CP.w:=@ψ.2.2.2.2.2.2
end
variable{X:WX R}{i j aR c0:Nat}{row:List R.α}{F:R.α}{Rr R':Fl->Internal.Frame->MH->Prop}
def RW.im{Ad:θ×θ->η θ}{V:θ×θ->ζ R.α}(S:RW kX R h g D N c Ad V)(I:ao R h L M):ao R g L M:=by obtain⟨t,rfl⟩:=S.Ch;exact I.cu
def RW.up{Ad:θ×θ->η θ}{V:θ×θ->ζ R.α}(S:RW kX R h g D N c Ad V)(e:h[a]?=Qa o):g[a]?=Qa o:=by obtain⟨t,rfl⟩:=S.Ch;exact jA e
theorem oP(h:a<=b):p*a<=p*b:=JD _ h
def zj0(X:WX R)(y c0 c x:θ):Prop:=X.p*(y+1)+X.pS+X.p1<=X.p*(x+1)/\X.k*(y+1)+X.kS+c0+X.k1<=X.k*(x+1)+c/\4*(X.p*(x+1))+(X.k*(x+1)+c)<=3800/\4*(X.p*(y+1)+X.pS+X.p1)+(X.k*(y+1)+X.kS+c0+X.k1)<=3800
section
variable{X:WX R}{y c0 c x:Nat}(ψ:zj0 X y c0 c x)
def zj0.p1:=@ψ.1
def zj0.k1:=@ψ.2.1
def zj0.b:=@ψ.2.2.1
def zj0.t:=@ψ.2.2.2
end
theorem cQ(a b c d:θ):a+b+c+d=a+(d+b)+c:=(ZG _ _ _).ν (χ (· +c) ((J6 _ _ _).ν (χ (a+ ·) (Kf _ _))))
def Ov(O:my X){y:θ}(h1:x<=X.u.ε+X.l.ε)(hx:y<x)(h0:c0<=c)(hc:c<=1+(X.u.ε+1)*(X.l.ε+1)*(X.M.ax+1)):zj0 X y c0 c x:=by
 have e:∀{p:θ},p*(y+1)+p<=p*(x+1):=λ{p} =>by rw[<-Kv];exact oP (Zf hx)
 have f:∀{p:θ},p*(x+1)<=p*(X.u.ε+X.l.ε+2):=λ{p} =>oP (Zf (J4 h1));have p1:X.p*(y+1)+X.pS+X.p1<=X.p*(x+1):=Jm (by rw[J6,Kf X.pS];exact Jp O.pp _) e;have k1:X.k*(y+1)+X.kS+c0+X.k1<=X.k*(x+1)+c:=by
  rw[cQ];exact JH (Jm (Jp O.kk _) e) h0
 have b:4*(X.p*(x+1))+(X.k*(x+1)+c)<=3800:=Jm (JH (oP f) (JH f (Jm hc (Jq _ _)))) O.bd;exact⟨p1,k1,b,Jm (JH (oP p1) k1) b⟩
abbrev Si:ζ Sm:=[.ite (.mh Qe [.az (.Λ 10) 7598521885536580729 [],.not (.ϧ (.f8 (.ai 129)) [.Λ 1,.Λ 6,.aq (.Λ 10) 504397587826]),.not (.ϧ (.f8 (.ai 129)) [.Λ 2,.Λ 7,.aq (.Λ 10) 465726563698])]) [.cont] [],.fm (.nm 11) (.ay [.ew .Ϯ (.Λ 6) (.ϧ (.f8 (.bi 7103854)) [.aq (.Λ 10) 504397587826]),.ew .Ϯ (.Λ 7) (.ϧ (.f8 (.bi 7103854)) [.aq (.Λ 10) 465726563698])]),.expr (.ϧ (.f8 (.ai 126)) [.Λ 0,.Λ 5,.Λ 11,.aq (.Λ 10) 127961880028532,.az (.Λ 3) qr [.wr (.Λ 8) (.Λ 9),.aq (.Λ 10) 131277443786868]])]
def CP.put{e e' x:R.α}{s:CS R}{t:θ}(C:xY X i j aR c0 row F)(P:CP X i j aR c0 row n e s)(ha:a<=X.u.ε)(hb:b<=X.l.ε)(ht:t<X.M.aa.ε)(hn:¬done i (j+1) (a,b))(hD:R.D (X.p*(a+b+1)) (X.k*(a+b+1)+s.c) x)
  (S':RW kX R X.h g' X.D X.M.aa.ε (s.c+1) Ad' (bj (T:=kX) s.V (a,b) (lW (s.V (a,b)) t x))) (hk:∀z' a',s.Ad z'=Qa a'->Ad' z'=Qa a') (he:e=R.Ϯ (R.lv x (X.B a b t)) e') (z y:η ab):CP X i j aR c0 row (n+1) e' ⟨g',Ad',bj (T:=kX) s.V (a,b) (lW (s.V (a,b)) t x),s.c+1,Qc,Qc,Qc,Qc,z,y⟩:=by
 have hl:t<(s.V (a,b)).ε:=by rw[P.TM.am];exact ht
 refine⟨S',J4 P.lo,Zf P.hi,λa' b' hn' y hy=>?_,?_,hk _ _ P.ad,?_⟩
 ·have hy:y∈bj (T:=kX) s.V (a,b) (lW (s.V (a,b)) t x) (a',b'):=hy
  show R.D (X.p*(a'+b'+1)) (X.k*(a'+b'+1)+(s.c+1)) y;by_cases q:(a',b')=(a,b)
  ·cases q
   rw[jE] at hy;rcases W2 hy with hy|rfl
   ·exact R.ag (Jv _) (Ze _) (P.dg _ _ hn' y hy)
   ·rw[Jo hl]
    exact R.fz (P.dg _ _ hn' _ (Zg hl)) hD
  ·rw[jF q] at hy
   exact R.ag (Jv _) (Ze _) (P.dg a' b' hn' y hy)
 ·show bj (T:=kX) s.V (a,b) (lW (s.V (a,b)) t x) (i,j)=row
  rw[jF λq:(i,j)=(a,b)=>hn (by refine eqE q ?_;exact .u8 ⟨rfl,JT _⟩)];exact P.vr
 ·rw[Ho ha hb hn hl,<-P.w,he,<-R.Ϧ,R.sn (R.lv _ _)]
theorem ME(hd:1<=d)(u:ζ θ)(i:θ)(s:ζ θ)(h:MH):jJ (ah P0 d) (.ai 129) [.Υ u,.φ i,.Υ s] h=Qa (.ϝ (kc u i s),h):=fn rfl (RF hd ⟨rfl,rfl⟩)
def zc8{Ad:θ×θ->η θ}{V:θ×θ->ζ R.α}{x:R.α}(hd:4<=d)(I:ao R h L M)(S:RW kX R h g D N c Ad V)(hN:N=M.aa.ε)(hc:c<100000)(hs:s<N)(hV:∀y∈V (i,j),R.D p k y)(hx:R.D p k x)(hl:4*p+k<=3800):
  ∃g' Ad',jJ (ah P0 d) (.ai 126) [.ο L.m,.ο D,GZ i j,.φ s,R.e x] g=Qa (.Δ,g')/\RW kX R h g' D N (c+1) Ad' (bj (T:=kX) V (i,j) (lW (V (i,j)) s x))/\∀z' a',Ad z'=Qa a'->Ad' z'=Qa a':=by
 refine(W.xL (l5 (P:=P0) rfl (Nq (Q:=λv g'=>v=.Δ/\∃Ad',RW kX R h g' D N (c+1) Ad' (bj (T:=kX) V (i,j) (lW (V (i,j)) s x))/\∀z' a',Ad z'=Qa a'->Ad' z'=Qa a') hd I S hN hc hs hV hx hl λg' Ad' S' hk _ _=>⟨rfl,Ad',S',hk⟩))).ι λv zq3=>zq3.ι λg' zq4=>?_;refine eqE zq4.2.1 ?_;exact zq4.2.2.ι λAd' zq5=>⟨g',Ad',zq4.1,zq5⟩
def N8{E y T e0 e1:R.α}{a:Ar R.α}{st:CS R}{z:η ab}(hd:5<=d)(C:xY X i j aR c0 row F)(hs:row[s]?=Qa y)(hn:n<X.M.ax)(hB:X.h[b]?=Qa (lP R a))(gt:a.t<X.M.aa.ε)(g2:dh a.up)(g3:dh a.lo)(g4:R.D X.p1 X.k1 a.w)
  (P:CP X i j aR c0 row n e0 st) (h0:e0=R.Ϯ (R.lv y (R.Ϯ (bif gx X.u X.l i j a then R.lv a.w (X.B (i+a.up.ε) (j+a.lo.ε) a.t) else R.Ι) T)) E) (h1:e1=R.Ϯ (R.lv y T) E)
  (q1:∀s',CP X i j aR c0 row (n+1) e1 s'->R' .nx (gp X (vN i) (vN j) (vR aR) (vN s) s'.f s'.k) s'.g) (q2:∀s',CP X i j aR c0 row (n+1) e1 s'->R' .ct (gp X (vN i) (vN j) (vR aR) (vN s) s'.f s'.k) s'.g):
  bz (ah P0 d) Si (gp X (vN i) (vN j) (vR aR) (vN s) (vR b) z) st.g R':=by
 have S:=P.TM;have hB:=S.up hB;have d1:1<=d:=Jm (by decide) hd;have fw:gx X.u X.l i j a=Qb->R' .ct (gp X (vN i) (vN j) (vR aR) (vN s) (vR b) z) st.g:=λhh=>by
  rw[hh,ϯ,R.Ϛ,<-h1] at h0;exact q2 ⟨st.1,st.2.1,st.2.2.1,st.2.2.2.1,st.2.2.2.2.1,st.2.2.2.2.2.1,st.2.2.2.2.2.2.1,st.2.2.2.2.2.2.2.1,vR b,z⟩ ⟨S,P.lo,J4 P.hi,P.dg,P.vr,P.ad,h0▸P.w⟩
 refine rY a.fq (λhe=>?_) λhe=>?_
 ·exact jT (.p (xG d1 hB)<|.t (he)<|.t (he)<|.z (fw (by unfold gx;rw[he];rfl))) rfl
 ·refine rY (kc X.u i a.up) (λhu=>?_) λhu=>?_
  ·refine rY (kc X.l j a.lo) (λhlo=>?_) λhlo=>?_
   ·have hh:gx X.u X.l i j a=true:=by unfold gx;rw[he,hu,hlo];rfl
    rw[hh,na,R.No,R.Ϧ,<-h1,<-R.w9] at h0;have f1:=(G8 g2 hu C.hi).1;have f3:=(G8 g3 hlo C.hj).1;have nds:¬done i (j+1) (i+a.up.ε,j+a.lo.ε):=λq=>q.ι (Zv (Jq _ _)) λq=>J3 0 (YK (xO he) (congr (χ _ (Xn (q.1:i+a.up.ε=i+0))) (qaj (J7 (XA q.2)))));have hc:st.c<c0+X.M.ax:=Jt P.hi (Zw hn _);have T1:=Ov C.O (y:=i+j) (c0:=c0) (c:=st.c) (x:=i+a.up.ε+(j+a.lo.ε)) (JH f1 f3) (YK (ZM (xO he)) (Yr i j a.up.ε a.lo.ε)) P.lo (Jm (JL hc) C.cc);have hxd:=C.dg y (Jr hs);have hRa:=S.LT (i,j) aR P.ad;rw[P.vr] at hRa;refine(zc8 (d:=d) (i:=i+a.up.ε) (j:=j+a.lo.ε) (s:=a.t) (x:=R.lv y a.w) (Jm (by decide) hd) C.O.I S rfl (Jw hc (Jm C.cc (JL C.O.cl))) gt (P.dg _ _ nds) (R.ag T1.p1 T1.k1 (R.dp hxd g4)) T1.b).ι λg' zq1=>zq1.ι λAd' zq2=>?_;exact jT (.p (xG d1 hB)<|.f (he)<|.v (oh hB)<|.q (ME d1 X.u i a.up)<|.c<|.f (nT hu)<|.v (oi hB)<|.q (ME d1 X.l j a.lo)<|.c<|.f (nT hlo)<|.v (oh hB)<|.c2<|.v (oi hB)<|.c2<|.v (ry hB)<|.v (sl hRa (rX hs))<|.v (ur hB)<|.q (R.ti (Jm (by decide) hd) hxd g4 T1.t)<|.p (zq2.1)<|.z (q1 _ (P.put C f1 f3 gt nds (R.ag T1.p1 T1.k1 (R.dp hxd g4)) zq2.2.1 zq2.2.2 h0 (vR b) (Qa (GZ (i+a.up.ε) (j+a.lo.ε)))))) (by kernel_rfl)
   ·exact jT (.p (xG d1 hB)<|.f (he)<|.v (oh hB)<|.q (ME d1 X.u i a.up)<|.c<|.f (nT hu)<|.v (oi hB)<|.q (ME d1 X.l j a.lo)<|.c<|.t (nF hlo)<|.z (fw (by unfold gx;rw[hlo,YT,YT]))) rfl
  ·exact jT (.p (xG d1 hB)<|.f (he)<|.v (oh hB)<|.q (ME d1 X.u i a.up)<|.c<|.t (nF hu)<|.t (nF hu)<|.z (fw (by unfold gx;rw[hu,qbh,YT]))) rfl
end
section
variable{h0:MH}{X:WX R}{row:List R.α}{F:R.α}
def Hr(M:Mc R.α):Prop:=(M.aa.any λr=>r.any Ar.fq)=Qb
def rB{r:ζ R.α}{b b':θ->R.α}{o:θ}(h:∀s,o<=s->s<o+r.ε->b s=b' s):jM r b o=jM r b' o:=by
 induction r generalizing o with
 |ϟ=>rfl
 |Κ x r ih=>
  show R.Ϯ (R.lv x (b o)) (jM r b (o+1))=R.Ϯ (R.lv x (b' o)) (jM r b' (o+1));rw[h o (Jv _) (by rw[ZA];exact ZM (ZU _)),ih λs h1 h2=>h s (JL (KA h1)) (by rw[ZA];lia)]
def Da{r:ζ R.α}{b b':θ->R.α}{o:θ}:jM r (λs=>R.Ϯ (b s) (b' s)) o=R.Ϯ (jM r b o) (jM r b' o):=by
 induction r generalizing o with
 |ϟ=>exact(R.Ϛ _).Μ
 |Κ x r ih=>
  show R.Ϯ (R.lv x (R.Ϯ (b o) (b' o))) (jM r _ (o+1))=R.Ϯ (R.Ϯ (R.lv x (b o)) (jM r b (o+1))) (R.Ϯ (R.lv x (b' o)) (jM r b' (o+1)));simp only[ih,R.No,R.Ϧ,R.Ϧ]
  congr 1
  rw[R.swap]
def uB{r:ζ R.α}{o:θ}:jM r (λ_=>R.Ι) o=R.Ι:=by
 induction r generalizing o with
 |ϟ=>rfl
 |Κ x r ih=>
  show R.Ϯ (R.lv x R.Ι) (jM r _ (o+1))=_;rw[ih,R.xz,R.Ϛ]
abbrev wz:ζ Sm:=[.ite (.ft .eq (.wr (.Λ 8) (.Λ 9)) (.aq (.Λ 3) lr)) [.cont] [],.fo [10] Qb (.wr (.aq (.Λ 0) 1634886515) (.Λ 9)) Si]
abbrev Bw(X:WX R)(i j:θ):θ->R.α:=λs=>VF X.B X.u X.l i j (bp X.M s)
def zdK{n0 r:θ}{y E e0:R.α}{st:CS R}(hd:5<=d)(C:xY X i j aR c0 row F)(hs:row[s]?=Qa y)(hm:xs∈X.M.aa)(hr:(X.L.au.ς ab.ο)[s]?=Qa (.ο r))(H:Bx R X.h r as xs)(hn:n0+xs.ε<=X.M.ax)(P:CP X i j aR c0 row n0 e0 st)(h0:e0=R.Ϯ (R.lv y (VF X.B X.u X.l i j xs)) E):
  ∃s',CP X i j aR c0 row (n0+xs.ε) E s'/\exec (ah P0 d) (.fo [10] Qb (.wr (.aq (.Λ 0) jY) (.Λ 9)) Si) (gp X (vN i) (vN j) (vR aR) (vN s) st.f st.k) st.g=Qa ((.nx,gp X (vN i) (vN j) (vR aR) (vN s) s'.f s'.k),s'.g):=by
 subst h0;obtain⟨s',P',e⟩:=pb (c:=ah P0 d) (tg:=[10]) (many:=Qb) (a:=r) (e:=.wr (.aq (.Λ 0) jY) (.Λ 9)) (b:=Si) (vs:=as.ς .ο) (λs':CS R=>gp X (vN i) (vN j) (vR aR) (vN s) s'.f s'.k) CS.g (λq=>CP X i j aR c0 row (n0+q) (R.Ϯ (R.lv y (VF X.B X.u X.l i j (xs.bn q))) E)) st
  (H.n▸Jm (Jm (Jz _ _) hn) (Jm C.O.G.c (by decide))) rfl (λq s' P=>P.TM.up H.l) (by exact j2 (.v (mW (P.TM.mx C.O.I))<|.v (sl (P.TM.mx C.O.I).aa hr)<|.z (cg (.ο r) st.g)) (by kernel_rfl)) P (λq v s' R1 _ hv P1 T1=>by
   refine xEEAA (H.a q v hv) λb x cw hx hb=>?_;refine eqB cw ?_;have ga:=C.O.G.fy _ hm x (Jr hx);exact kP (N8 hd C hs (n:=n0+q) (Jw (Zw (jI hx) _) hn) hb ga.1 ga.2.1 ga.2.2.1 ga.2.2.2.1 P1 (by rw[Bk hx]) rfl T1.nx T1.ct))
 rw[H.n,Z3,show VF X.B X.u X.l i j []=R.Ι from rfl,R.xz,R.Ϛ] at P';exact⟨s',P',e⟩
def zaE{n0 n1:θ}{e0 e1:R.α}{st:CS R}(hd:5<=d)(C:xY X i j aR c0 row F)(hs:s<X.M.aa.ε)(P:CP X i j aR c0 row n0 e0 st)(hn:n1=n0+(bp X.M s).ε)(hc:n1<=X.M.ax)(h0:e0=R.Ϯ (R.lv (at' row s) (Bw X i j s)) e1)
  (q1:∀s',CP X i j aR c0 row n1 e1 s'->R' .nx (gp X (vN i) (vN j) (vR aR) s'.e s'.f s'.k) s'.g) (q2:∀s',CP X i j aR c0 row n1 e1 s'->R' .ct (gp X (vN i) (vN j) (vR aR) s'.e s'.f s'.k) s'.g):
  bz (ah P0 d) wz (gp X (vN i) (vN j) (vR aR) (vN s) st.f st.k) st.g R':=by
 have hsr:=VC (l:=row) (s:=s) (by rw[C.am];exact hs);have hRa:=P.TM.LT (i,j) aR P.ad;rw[P.vr] at hRa;cases R.gi (at' row s) R.Ι with
 |isTrue hz=>
  rw[hz,R.v4,R.Ϛ] at h0;have P':CP X i j aR c0 row n1 e1 ⟨st.1,st.2.1,st.2.2.1,st.2.2.2.1,st.2.2.2.2.1,st.2.2.2.2.2.1,st.2.2.2.2.2.2.1,vN s,st.2.2.2.2.2.2.2.2⟩:=⟨P.TM,P.lo,hn▸Jm P.hi (Jp (Jq _ _) _),P.dg,P.vr,P.ad,h0▸P.w⟩;exact jT (.v (sl hRa (rX hsr))<|.w (R.no)<|.k (R.qe (at' row s) R.Ι)<|.t (R.yes hz)<|.z (q2 _ P')) rfl
 |isFalse hz=>
  refine(C.O.I.ng hs).ι λr zq3=>zq3.ι λas zq4=>?_;refine xEA (zdK hd C hsr zq4.2.2 zq4.1 zq4.2.1 (hn▸hc) P h0) λs' P' e=>?_;have N:CP X i j aR c0 row n1 e1 ⟨s'.1,s'.2.1,s'.2.2.1,s'.2.2.2.1,s'.2.2.2.2.1,s'.2.2.2.2.2.1,s'.2.2.2.2.2.2.1,vN s,s'.2.2.2.2.2.2.2.2⟩:=by refine eqB hn ?_;exact⟨P'.TM,P'.lo,P'.hi,P'.dg,P'.vr,P'.ad,P'.w⟩
  exact jT (.v (sl hRa (rX hsr))<|.w (R.no)<|.k (R.qe (at' row s) R.Ι)<|.f (R.not hz)<|.s (e)<|.z (q1 _ N)) rfl
def Ld{r:ζ R.α}{b:θ->R.α}(hs:s<r.ε):jM (r.bn s) b s=R.Ϯ (R.lv (at' r s) (b s)) (jM (r.bn (s+1)) b (s+1)):=by
 rw[yS hs];unfold at';rw[Jo hs];rfl
def zdB{st:CS R}{e0:R.α}(hd:5<=d)(C:xY X i j aR c0 row F)(P:CP X i j aR c0 row 0 e0 st)(h0:e0=R.Ϯ (jM row (Bw X i j) 0) F):
  ∃s',CP X i j aR c0 row X.M.ax F s'/\exec (ah P0 d) (.fo [9] Qb (.ϧ (.f8 (.ty 491260897125)) [.az (.Λ 0) 1936292453 []]) wz) (gp X (vN i) (vN j) (vR aR) st.e st.f st.k) st.g=Qa ((.nx,gp X (vN i) (vN j) (vR aR) s'.e s'.f s'.k),s'.g):=by
 subst h0;have I:=P.TM.mx C.O.I;obtain⟨s',P',e⟩:=lm (c:=ah P0 d) (x:=9) (n:=X.M.aa.ε) (e:=.ϧ (.f8 (.ty 491260897125)) [.az (.Λ 0) 1936292453 []]) (b:=wz) (λs':CS R=>gp X (vN i) (vN j) (vR aR) s'.e s'.f s'.k) CS.g (λs=>CP X i j aR c0 row (mC X.M s) (R.Ϯ (jM (row.bn s) (Bw X i j) s) F)) st
  (Jm I.bc (by decide)) rfl (by exact j2 (.p (pF (Jm (by decide) hd) I)<|.c<|.z (cg (.gb X.M.aa.ε) st.g)) (by kernel_rfl)) P (λs s' R1 _ hs P1 T1=>zaE hd C hs P1 (qD hs) (tD C.O.I _) (by rw[Ld (by rw[C.am];exact hs),R.Ϧ]) T1.nx T1.ct)
 have e1:mC X.M X.M.aa.ε=X.M.ax:=by unfold mC;rw[JW,I.ct]
 have e2:row.bn X.M.aa.ε=[]:=by rw[<-C.am,Z3]
 rw[e1,e2,show jM [] (Bw X i j) X.M.aa.ε=R.Ι from rfl,R.Ϛ] at P';exact⟨s',P',e⟩
theorem zgf{st:CS R}(hd:5<=d)(C:xY X i j aR c0 row F)(P:CP X i j aR c0 row 0 (R.Ϯ (jM row (Bw X i j) 0) F) st)
  (q:∀s',CP X i j aR c0 row X.M.ax F s'->R' .nx (gp X (vN i) (vN j) (vR aR) s'.e s'.f s'.k) s'.g):
  WS (ah P0 d) (.fo [9] Qb (.ϧ (.f8 (.ty 491260897125)) [.az (.Λ 0) 1936292453 []]) wz) (gp X (vN i) (vN j) (vR aR) st.e st.f st.k) st.g R':=let ⟨s',P',e⟩:=zdB hd C P rfl;W.of e (q s' P')
end
section
variable{h0:MH}{X:WX R}{row:List R.α}{F:R.α}
def Ls(X:WX R):Prop:=(X.ov=.Δ\/∃a,X.ov=.ο a)/\(X.ov=.Δ->∀i j s,i<=X.u.ε->j<=X.l.ε->s<X.M.aa.ε->X.B i j s=xT X.M X.B X.u X.l i j s)/\∀aT,X.ov=.ο aT->∀{d P K aR:θ}{g:MH}{row:ζ R.α}{Q:ab->MH->Prop},5<=d->(∃t,g=X.h++t)->g[aR]?=Qa (.ξ (row.ς R.e))->row.ε=X.M.aa.ε->(∀x∈row,R.D P K x)->4*(P+X.pS)+(K+X.kS)<=3800->(∀t a row',g.ε<=a->(g++t)[a]?=Qa (.ξ (row'.ς R.e))->row'.ε=X.M.aa.ε->(∀x∈row',R.D (P+X.pS) (K+X.kS) x)->(∀i j,i<=X.u.ε->j<=X.l.ε->jM row (X.B i j) 0=jM row' (xT X.M X.B X.u X.l i j) 0)->Q (.ο a) (g++t))->WF P0 d 132 [.ai (112+R.i),.ο aR,.ο aT] g Q
section
variable{X:WX R}(ψ:Ls X)
def Ls.r:=@ψ.1
def Ls.no:=@ψ.2.1
def Ls.so:=@ψ.2.2
end
abbrev VD(X:WX R)(i j:θ):θ->R.α:=λs=>if i=X.u.ε/\j=X.l.ε then eh X.M s else R.Ι
def PS(X:WX R)(i j:θ)(s:CS R):Prop:=RW kX R X.h s.g X.D X.M.aa.ε s.c s.Ad s.V/\s.c<=1+(i*(X.l.ε+1)+j)*(X.M.ax+1)/\Bb R i j s.c X.p X.k s.V/\(i<X.u.ε\/(i=X.u.ε/\j<=X.l.ε)->nh X.u.ε X.l.ε X.B i j s.V=X.W)/\((i=X.u.ε/\j=X.l.ε+1)\/i=X.u.ε+1->jM (s.V (X.u.ε,X.l.ε)) (eh X.M) 0=X.W/\∀x∈s.V (X.u.ε,X.l.ε),R.D (X.p*(X.u.ε+X.l.ε+1)+X.pS) (X.k*(X.u.ε+X.l.ε+1)+X.kS+s.c) x)
section
variable{X:WX R}{i j:Nat}{s:CS R}(ψ:PS X i j s)
def PS.TM:=@ψ.1
def PS.hc:=@ψ.2.1
def PS.dg:=@ψ.2.2.1
def PS.w:=@ψ.2.2.2.1
def PS.fe:=@ψ.2.2.2.2
end
theorem zcP{Y B:θ}(h:c<=1+Y+1)(h2:Y+(n+1)<=B):c+n<=1+B:=
 Jm (JN h n) (Jm (JC ((J6 (1+Y) 1 n).ν ((J6 1 Y _).ν (χ (λz=>1+(Y+z)) (Kf 1 n))))) (Jp h2 1))
def Lh(O:my X)(h1:i<=X.u.ε)(h2:j<=X.l.ε):(i*(X.l.ε+1)+j)*(X.M.ax+1)+(X.M.ax+1)<=(X.u.ε+1)*(X.l.ε+1)*(X.M.ax+1):=by
 have h3:(i*(X.l.ε+1)+j)+1<=(X.u.ε+1)*(X.l.ε+1):=by
  rw[KH X.u.ε];exact(JH (J8 _ h1:i*(X.l.ε+1)<=X.u.ε*(X.l.ε+1)) (Jm (Zf h2) (JC (ZS _).Μ)):i*(X.l.ε+1)+(j+1)<=_)
 have h5:=J8 (X.M.ax+1) h3;rwa [KH _ 1,ZS] at h5
def CP.Ϭ{s:CS R}(C:xY X i j aR c0 row (jM row (VD X i j) 0))(P:CP X i j aR c0 row X.M.ax (jM row (VD X i j) 0) s)(h0:c0<=1+(i*(X.l.ε+1)+j)*(X.M.ax+1)+1):PS X i (j+1) s:=by
 have hi:=P.hi;refine⟨P.TM,by rw[show i*(X.l.ε+1)+(j+1)=(i*(X.l.ε+1)+j)+1 from rfl,KH _ 1,ZS];exact Jm P.hi (zcP h0 (Jv _)),P.dg,λhlt=>?_,λhf=>?_⟩
 ·have:¬(i=X.u.ε/\j=X.l.ε):=λe=>hlt.ι (λh=>Ke h e.1) λh=>Ke h.2 e.2
  have hw:=P.w;rw[show VD X i j=λ_=>R.Ι from funext λ_=>π this,uB,R.ui] at hw;exact hw
 ·have hh:i=X.u.ε/\j=X.l.ε:=hf.ι (λh=>⟨h.1,ZX.dL h.2⟩) λh=>υ (h▸C.hi) (Ys _)
  have hw:=P.w;rw[show VD X i j=eh X.M from funext λ_=>ρ hh] at hw;obtain rfl:=hh.1;obtain rfl:=hh.2;rw[GK,Eg,R.Ϛ] at hw;rw[P.vr];exact⟨hw,λx hx=>R.ag (Jv _) (Jp P.lo _) (C.dg x hx)⟩
abbrev Gc:ζ Sm:=[.fm (.nm 8) (.az (.Λ 5) 6776180 [.ay [.Λ 6,.Λ 7]]),.ite (.ft .is (.Λ 8) (.f8 .Δ)) [.cont] [],.ite (.ft .gh (.Λ 4) (.f8 .Δ)) [.fm (.nm 8) (.ϧ (.f8 (.ai 132)) [.Λ 3,.Λ 8,.Λ 4]),.fm (.sb (.Λ 5) (.ay [.Λ 6,.Λ 7])) (.Λ 8)] [],.fo [9] Qb (.ϧ (.f8 (.ty 491260897125)) [.az (.Λ 0) 1936292453 []]) wz]
def Bj{V:ζ R.α}:jM V (xT X.M X.B X.u X.l i j) 0=R.Ϯ (jM V (Bw X i j) 0) (jM V (VD X i j) 0):=by
 rw[R.sn,<-Da];rfl
def MC(z:Cx){Ad:θ×θ->η θ}{V:θ×θ->ζ R.α}(S:RW kX R h g D N c Ad V)(i j:θ){v:ab}(hv:((Ad (i,j)).ς ab.ο).bm .Δ=v):j1 z (.ο D) jz [GZ i j] g g=Qa (v,g):=by
 exact S.dd.ι λep zq13=>zq13.ι λes zq14=>W.eq (NW zq14.1 zq14.1 (mX (T:=kX) (k:=(i,j)) zq14.2.1) ⟨(χ (λo=>o.bm .Δ) (zq14.2.2.2 (i,j))).ν hv,rfl⟩)
theorem Lf{V:θ×θ->ζ R.α}(hc:c<=c')(h:Bb R i j c p k V):Bb R i (j+1) c' p k V:=λa b hn x hx=>R.ag (Jv _) (Jp hc _) (h a b (λq=>hn (q.ι .nb λq=>.u8 ⟨q.1,Zu q.2⟩)) x hx)
abbrev zfQ:Sm:=.fo [9] Qb (.ϧ (.f8 (.ty 491260897125)) [.az (.Λ 0) 1936292453 []]) wz
def CQ:1+(i*(X.l.ε+1)+(j+1))*(X.M.ax+1)=1+(i*(X.l.ε+1)+j)*(X.M.ax+1)+(X.M.ax+1):=by
 rw(occs:=.Db) [show i*(X.l.ε+1)+(j+1)=(i*(X.l.ε+1)+j)+1 from rfl,KH _ 1,ZS,J6]
def EH{st:CS R}(hd:5<=d)(O:my X)(hi:i<=X.u.ε)(hj:j<=X.l.ε)(S:RW kX R X.h st.g X.D X.M.aa.ε st.c st.Ad st.V)(hA:st.Ad (i,j)=Qa a)(dg:Bb R i (j+1) st.c X.p X.k st.V)(hD:∀x∈st.V (i,j),R.D (X.p*(i+j+1)+X.pS) (X.k*(i+j+1)+X.kS+st.c) x)
  (hc:st.c<=1+(i*(X.l.ε+1)+j)*(X.M.ax+1)+1) (hw:R.Ϯ (nh X.u.ε X.l.ε X.B i (j+1) st.V) (jM (st.V (i,j)) (xT X.M X.B X.u X.l i j) 0)=X.W):
  ∃s',PS X i (j+1) s'/\exec (ah P0 d) zfQ (gp X (vN i) (vN j) (vR a) st.e st.f st.k) st.g=Qa ((.nx,gp X (vN i) (vN j) (vR a) s'.e s'.f s'.k),s'.g):=by
 rw[Bj] at hw;exact(zdB hd (⟨O,hi,hj,zcP hc (Lh O hi hj),S.am (i,j),hD⟩:xY X i j a st.c (st.V (i,j)) (jM (st.V (i,j)) (VD X i j) 0)) ⟨S,Jv _,Jv _,dg,rfl,hA,hw⟩ rfl).ι λs' zq12=>⟨s',zq12.1.Ϭ (⟨O,hi,hj,zcP hc (Lh O hi hj),S.am (i,j),hD⟩:xY X i j a st.c (st.V (i,j)) (jM (st.V (i,j)) (VD X i j) 0)) hc,zq12.2⟩
def gY(e:X.ov=.Δ)(h:MH):mP .gh X.ov .Δ h=Qa false:=by rw[e];rfl
def gX(e:X.ov=.ο a)(h:MH):mP .gh X.ov .Δ h=Qa true:=by rw[e];rfl
def Nz(X:WX R)(g t:MH)(a P K:θ)(row row':ζ R.α):Prop:=g.ε<=a/\(g++t)[a]?=Qa (.ξ (row'.ς R.e))/\row'.ε=X.M.aa.ε/\(∀x∈row',R.D (P+X.pS) (K+X.kS) x)/\∀i j,i<=X.u.ε->j<=X.l.ε->jM row (X.B i j) 0=jM row' (xT X.M X.B X.u X.l i j) 0
section
variable{X:WX R}{g t:MH}{a P K:Nat}{row row':List R.α}(ψ:Nz X g t a P K row row')
def Nz.ge:=@ψ.1
def Nz.Hd:=@ψ.2.1
def Nz.am:=@ψ.2.2.1
def Nz.dg:=@ψ.2.2.2.1
def Nz.w:=@ψ.2.2.2.2
end
def Ls.ex(V:Ls X){P:θ}{row:ζ R.α}(hov:X.ov=.ο aT)(hd:5<=d)(hp:∃t,g=X.h++t)(hr:g[aR]?=Qa (.ξ (row.ς R.e)))(hl:row.ε=X.M.aa.ε)(hD:∀x∈row,R.D P K x)(hb:4*(P+X.pS)+(K+X.kS)<=3800):
  ∃t a row',jJ (ah P0 d) (.ai 132) [.ai (112+R.i),.ο aR,X.ov] g=Qa (.ο a,g++t)/\Nz X g t a P K row row':=by
 obtain⟨v,g',e,t,a,row',rfl,rfl,N⟩:=W.xL (l5 (P:=P0) (d:=d) rfl (V.so aT hov hd hp hr hl hD hb (Q:=λv g'=>∃t a row',v=.ο a/\g'=g++t/\Nz X g t a P K row row') λt a row' h1 h2 h3 h4 h5=>⟨t,a,row',rfl,rfl,h1,h2,h3,h4,h5⟩));exact⟨t,a,row',by rw[hov];exact e,N⟩
abbrev gW(st:CS R)(g:MH)(i j a:θ)(row:ζ R.α):CS R:=⟨g,bj (T:=kX) st.Ad (i,j) (Qa a),bj (T:=kX) st.V (i,j) row,st.c+1,st.a,st.b,st.d,st.e,st.f,st.k⟩
def RV(O:my X)(hi:i<=X.u.ε)(hj:j<=X.l.ε)(hc:c<=1+(i*(X.l.ε+1)+j)*(X.M.ax+1)):4*(X.p*(i+j+1)+X.pS)+(X.k*(i+j+1)+c+X.kS)<=3800:=by
 have e3:=oP (p:=X.p) (show i+j+1+1<=X.u.ε+X.l.ε+2 by exact J9 (Yq (JH hi hj) (JT _)));have e4:=oP (p:=X.k) (show i+j+1+1<=X.u.ε+X.l.ε+2 by exact J9 (Yq (JH hi hj) (JT _)));rw[Kv] at e3 e4;exact Jm (JH (JD 4 (Jm (Jp (Jm (Jz _ _) O.pp) _) e3)) (Jm (JC (ZG _ _ _)) (JH (Jm (Jp (Jm (Jz _ _) O.kk) _) e4) (Jm hc (Jm (Jp (Jm (Jq _ _) (Lh O hi hj)) 1) (Jq _ _)))))) O.bd
section
variable{st:CS R}(hd:6<=d)(O:my X)(hi:i<=X.u.length)(hj:j<=X.l.length)(P:PS X i j st)
include hd O hi hj P
def PS.hw:R.Ϯ (jM (st.V (i,j)) (X.B i j) 0) (nh X.u.ε X.l.ε X.B i (j+1) st.V)=X.W:=by
 have hp:=P.w ((KZ hi).imp id λh=>⟨h,hj⟩);rwa [C3 hi hj] at hp
theorem PS.cH:∀x∈st.V (i,j),R.D (X.p*(i+j+1)) (X.k*(i+j+1)+st.c) x:=P.dg i j (by unfold done;simp)
def N5(hA:st.Ad (i,j)=Qc)(q2:∀s',PS X i (j+1) s'->R' .ct (gp X (vN i) s'.b s'.d s'.e s'.f s'.k) s'.g):bz (ah P0 d) Gc (gp X (vN i) (vN j) st.d st.e st.f st.k) st.g R':=by
 have hp:=PS.hw hd O hi hj P;have hz:=P.TM.nj (i,j) hA;rw[hz,kH,R.Ϛ] at hp;have N:PS X i (j+1) ⟨st.1,st.2.1,st.2.2.1,st.2.2.2.1,st.2.2.2.2.1,vN j,Qa .Δ,st.2.2.2.2.2.2.2⟩:=by
  refine⟨P.TM,by rw[CQ];exact Jm P.hc (Jq _ _),Lf (Jv _) P.dg,λ_=>hp,λhf=>?_⟩;have hh:i=X.u.ε/\j=X.l.ε:=hf.ι (λh=>⟨h.1,ZX.dL h.2⟩) λh=>υ (h▸hi) (Ys _);obtain rfl:=hh.1;obtain rfl:=hh.2;rw[GK,Eg] at hp;exact⟨by show jM (st.V _) _ _=_;rw[hz,kH];exact hp,λx hx=>R.ag (Jq _ _) (JN (Jq _ _) _) (PS.cH hd O hi hj P x hx)⟩
 exact jT (.p (MC (ah P0 d) P.TM i j (v:=.Δ) (by rw[hA];rfl))<|.c2<|.z (q2 _ N)) rfl
def N4(V:Ls X)(hA:st.Ad (i,j)=Qa a)(hov:X.ov=.Δ)(q1:∀s',PS X i (j+1) s'->R' .nx (gp X (vN i) s'.b s'.d s'.e s'.f s'.k) s'.g):bz (ah P0 d) Gc (gp X (vN i) (vN j) st.d st.e st.f st.k) st.g R':=by
 have hp:=PS.hw hd O hi hj P;rw[rB λs _ h2=>V.no hov i j s hi hj (by rw[P.TM.am,ZK] at h2;exact h2),R.sn] at hp;refine(EH (Jm (by decide) hd) O hi hj P.TM hA (Lf (Jv _) P.dg) (λx hx=>R.ag (Jq _ _) (JN (Jq _ _) _) (PS.cH hd O hi hj P x hx)) (J4 P.hc) hp).ι λs' zq6=>?_;have N:PS X i (j+1) ⟨s'.1,s'.2.1,s'.2.2.1,s'.2.2.2.1,s'.2.2.2.2.1,vN j,vR a,s'.2.2.2.2.2.2.2⟩:=⟨zq6.1.TM,zq6.1.hc,zq6.1.dg,zq6.1.w,zq6.1.fe⟩;exact jT (.p (MC (ah P0 d) P.TM i j (v:=.ο a) (by rw[hA];rfl))<|.c2<|.k (gY hov)<|.c<|.s (zq6.2)<|.z (q1 _ N)) rfl
def N3(V:Ls X)(hA:st.Ad (i,j)=Qa a)(hov:X.ov=.ο aT)(q1:∀s',PS X i (j+1) s'->R' .nx (gp X (vN i) s'.b s'.d s'.e s'.f s'.k) s'.g):bz (ah P0 d) Gc (gp X (vN i) (vN j) st.d st.e st.f st.k) st.g R':=by
 have hp:=PS.hw hd O hi hj P;have S:=P.TM;refine(V.ex hov (Jm (by decide) hd) S.Ch (S.LT (i,j) a hA) (S.am (i,j)) (PS.cH hd O hi hj P) (RV O hi hj P.hc)).ι λt zq3=>zq3.ι λb zq4=>zq4.ι λrow' zq5=>?_;refine S.dd.ι λep zq1=>zq1.ι λes zq2=>?_;rw[zq5.2.w i j hi hj,<-C4 (r:=row') (a:=i) (b:=j) (i:=i) (j:=j+1) (V:=st.V) (by unfold done;simp),R.sn] at hp;obtain⟨s',P',e⟩:=EH (st:=gW st _ i j b row') (Jm (by decide) hd) O hi hj ((S.cu:RW kX R X.h (st.g++t) X.D X.M.aa.ε st.c st.Ad st.V).put (k:=(i,j)) (jA zq2.1) zq5.2.Hd (Jm (by obtain⟨t0,hg⟩:=S.Ch;rw[hg,Ju];exact Jq _ _) zq5.2.ge) (λz' e=>υ (jS (S.LT z' _ e)) (Zs.Ϩ zq5.2.ge)) zq5.2.am (bif (jO es (GZ i j)).Ψ then ep else ep.ς (· +1)) (S.ep zq2.1 _)) (show bj (T:=kX) st.Ad (i,j) (Qa b) (i,j)=Qa b from jE) (λa' b' hn x hx=>by
   have hx:x∈bj (T:=kX) st.V (i,j) row' (a',b'):=hx;rw[jF (λq=>hn (by refine eqB q ?_;exact .u8 ⟨rfl,JT _⟩):¬(a',b')=(i,j))] at hx;exact Lf (Ze _) P.dg a' b' hn x hx) (λx hx=>by
   have hx:x∈bj (T:=kX) st.V (i,j) row' (i,j):=hx;rw[jE] at hx;exact R.ag (Jv _) (by show _<=_+(st.c+1);exact Jm (JC (ZG _ _ _)) (JH (Jv _) (Jq _ _))) (zq5.2.dg x hx)) (Zf P.hc) (by show R.Ϯ _ (jM (bj (T:=kX) st.V (i,j) row' (i,j)) _ 0)=_;rw[jE];exact hp)
 have N':PS X i (j+1) ⟨s'.1,s'.2.1,s'.2.2.1,s'.2.2.2.1,s'.2.2.2.2.1,vN j,vR b,s'.2.2.2.2.2.2.2⟩:=⟨P'.TM,P'.hc,P'.dg,P'.w,P'.fe⟩;exact jT (.p (MC (ah P0 d) P.TM i j (v:=.ο a) (by rw[hA];rfl))<|.c2<|.k (gX hov)<|.c<|.p (zq5.1)<|.h (L3 (v:=.ο b) (jA (t:=t) zq2.1) (mX (T:=kX) (k:=(i,j)) zq2.2.1) (Jt zq2.2.2.1 (Jt P.hc (Jt (Jp (Jm (Jq _ _) (Lh O hi hj)) 1) (Zp O.cl (by decide)))):es.ε<bc))<|.s (e)<|.z (q1 _ N')) (by kernel_rfl)
end
def BW{st:CS R}(hd:6<=d)(O:my X)(V:Ls X)(hi:i<=X.u.ε)(hj:j<=X.l.ε)(P:PS X i j st)
  (q1:∀s',PS X i (j+1) s'->R' .nx (gp X (vN i) s'.b s'.d s'.e s'.f s'.k) s'.g) (q2:∀s',PS X i (j+1) s'->R' .ct (gp X (vN i) s'.b s'.d s'.e s'.f s'.k) s'.g):
  bz (ah P0 d) Gc (gp X (vN i) (vN j) st.d st.e st.f st.k) st.g R':=by
 refine FD (st.Ad (i,j)) (λhA=>?_) λa hA=>?_
 ·exact N5 hd O hi hj P hA q2
 ·exact V.r.ι (λhov=>N4 hd O hi hj P V hA hov q1) λ⟨_,hov⟩=>N3 hd O hi hj P V hA hov q1
end
section
variable{h0:MH}{X:WX R}{row:List R.α}{F:R.α}
def pP(M:Mc R.α):ζ R.α:=(jV R M.aa.ε).ϩ M.Ϥ M.jp
def sT(T:ji)(k0:T.κ)(h:MH)(M:Mc R.α):MH:=h++([.ξ [R.e R.Ι],.ξ ((pP M).ς R.e)]++[.Χ (Qa 1) [(T.v k0,ab.ο (h.ε+1))]])
abbrev U3(h:MH)(M:Mc R.α):MH:=sT kX (0,0) h M
def DN{T:ji}{k0:T.κ}(hN:N=M.aa.ε):RW T R h (sT T k0 h M) (h.ε+2) N 1 (bj (λ_=>Qc) k0 (Qa (h.ε+1))) (bj (λ_=>jV R N) k0 (pP M)):=by
 subst hN;delta sT;refine⟨⟨_,rfl⟩,Jq _ _,⟨_,_,mU,?_,Jv _,λk=>?_⟩,λk k' a h1 h2=>?_,λk a h1=>?_,λk a h1=>?_,λk h1=>?_,λk=>?_,⟨_,_,mU,ζ.Pairwise.Κ (λ_ h=>υ h JE) .ϟ⟩⟩
 ·intro p hp;rw[JI.mp hp];exact⟨k0,rfl⟩
 ·rw[lL,T.eq]
  by_cases e:k=k0
  ·subst e;rw[jE,Ζ rfl];rfl
  ·rw[jF e,Γ λq=>e q.Μ];rfl
 ·by_cases e1:k=k0
  ·by_cases e2:k'=k0
   ·exact e1.ν e2.Μ
   ·rw[jF e2] at h2;exact af h2
  ·rw[jF e1] at h1;exact af h1
 ·by_cases e1:k=k0
  ·subst e1;rw[jE] at h1;refine lN h1 ?_;exact Jq _ _
  ·rw[jF e1] at h1;exact nomatch h1
 ·by_cases e1:k=k0
  ·subst e1;rw[jE] at h1 ⊢;refine lN h1 ?_;exact mU
  ·rw[jF e1] at h1;exact nomatch h1
 ·by_cases e1:k=k0
  ·subst e1;rw[jE] at h1;exact nomatch h1
  ·exact jF e1
 ·by_cases e1:k=k0
  ·subst e1;rw[jE];unfold pP;rw[J0];unfold jV;rw[Zy]
  ·rw[jF e1];unfold jV;rw[Zy]
theorem Cp(hN:N=M.aa.ε):RW kX R h (U3 h M) (h.ε+2) N 1 (bj (T:=kX) (λ_=>Qc) (0,0) (Qa (h.ε+1))) (bj (T:=kX) (λ_=>jV R N) (0,0) (pP M)):=DN hN
theorem Cq(G:kI M p1 k1)(hp:p1<=p)(hk:k1<=k):Bb R 0 0 1 p k (bj (T:=kX) (λ_=>jV R M.aa.ε) (0,0) (pP M)):=λa b _ x hx=>by
 by_cases e1:(a,b)=(0,0)
 ·cases e1
  rw[jE] at hx;rcases Z6 hx with hx|rfl
  ·exact(Zc hx)▸(R.ag (JF _) (JF _) R.bx)
  ·exact R.ag (Jm hp (JC (Xh p).Μ)) (J4 (Jm hk (JC (Xh k).Μ))) G.fst
 ·rw[jF e1] at hx
  simp only[Zc hx];exact(R.ag (JF _) (JF _) R.bx)
def Fb{B:θ->θ->θ->R.α}(hs:M.Ϥ<M.aa.ε):nh n m B 0 0 (bj (T:=kX) (λ_=>jV R M.aa.ε) (0,0) (pP M))=R.lv M.jp (B 0 0 M.Ϥ):=by
 have e:pP M=lW (jV R M.aa.ε) M.Ϥ M.jp:=by
  delta pP lW jV;rw[Kg,ρ hs];show _=qaW _ _ (R.Ϯ R.Ι M.jp);rw[R.Ϛ]
 have zl:(jV R M.aa.ε).ε=M.aa.ε:=Zy ..;rw[e,Ho (V:=λ_=>jV R M.aa.ε) (JF _) (JF _) (by unfold done;simp) (by rw[zl];exact hs),C0 (λ_ _=>rfl),R.ui]
abbrev zbp:Sm:=.fo [7] Qb (.ϧ (.f8 (.ty 491260897125)) [.ew .Ϯ (.ϧ (.f8 (.bi 7103854)) [.Λ 2]) (.f8 (.φ 1))]) Gc
theorem wM(n:θ)(g:MH):ab.gb ((n:Τ)+1)=.gb (n+1:θ)/\g=g:=⟨rfl,rfl⟩
def Eu(h:1+(a+1)*(b+1)*(c+1)<n):a+1<n/\b+1<n:=by
 exact⟨Jt (Jm (Z2 (a+1) (ZU b)) (Z2 ((a+1)*(b+1)) (ZU c))) (Jt (Jz _ _) h:(a+1)*(b+1)*(c+1)<n),Jt (Jm (qak (b+1) (ZU a)) (Z2 ((a+1)*(b+1)) (ZU c))) (Jt (Jz _ _) h:(a+1)*(b+1)*(c+1)<n)⟩
def PS.bS{s:CS R}(P:PS X i (X.l.ε+1) s):PS X (i+1) 0 ⟨s.1,s.2.1,s.2.2.1,s.2.2.2.1,vN i,s.2.2.2.2.2⟩:=by
 refine⟨P.TM,by rw(occs:=.Db) [θ.ui,KH i 1,ZS];exact P.hc,λa b hn=>P.dg a b λq=>hn ?_,λhlt=>?_,λhf=>P.fe (.nb ⟨by lia,rfl⟩)⟩
 ·exact .nb (q.ι Zu λq=>JV (JC q.1))
 ·exact(GK).Μ.ν (P.w (.nb (hlt.ι qaS λh=>JC h.1)))
theorem zgE{st:CS R}(hd:6<=d)(O:my X)(V:Ls X)(hi:i<=X.u.ε)(P:PS X i 0 st):∃s',PS X (i+1) 0 s'/\exec (ah P0 d) zbp (gp X (vN i) st.b st.d st.e st.f st.k) st.g=Qa ((.nx,gp X s'.a s'.b s'.d s'.e s'.f s'.k),s'.g):=
 (lm (c:=ah P0 d) (x:=7) (n:=X.l.ε+1) (e:=.ϧ (.f8 (.ty 491260897125)) [.ew .Ϯ (.ϧ (.f8 (.bi 7103854)) [.Λ 2]) (.f8 (.φ 1))]) (b:=Gc) (λs':CS R=>gp X (vN i) s'.b s'.d s'.e s'.f s'.k) CS.g (λj=>PS X i j) st (JL (Eu O.cl).2) rfl (by exact j2 (.c3<|.z (wM X.l.ε st.g)) rfl) P λj s' R1 _ hj P1 T1=>BW hd O V hi (J7 hj) P1 T1.nx T1.ct).ι λs' q=>⟨⟨s'.1,s'.2.1,s'.2.2.1,s'.2.2.2.1,vN i,s'.2.2.2.2.2⟩,q.1.bS,q.2⟩
abbrev bE(X:WX R):CS R:=⟨U3 X.h X.M,bj (T:=kX) (λ_=>Qc) (0,0) (Qa (X.h.ε+1)),bj (T:=kX) (λ_=>jV R X.M.aa.ε) (0,0) (pP X.M),1,Qc,Qc,Qc,Qc,Qc,Qc⟩
def zcJ{b:θ->R.α}(hb:∀s,R.D p' k' (b s)):∀{r:ζ R.α}{o:θ},(∀x∈r,R.D p k x)->R.D (p+p') (k+k'+r.ε) (jM r b o):=by
 intro r
 induction r with
 |ϟ=>exact λ_=>R.ag (JF _) (JF _) R.bx
 |Κ x r ih=>exact λh=>R.fz (R.ag (Jv _) (Jq _ _) (R.dp (h x (.mo _)) (hb _))) (ih λy hy=>h y (.lw _ hy))
def kI.cD(G:kI M p k)(s:θ):R.D p k (eh M s):=by
 delta eh;refine FD (M.aj[s]?) (λe=>?_) λx e=>?_
 ·rw[e]
  exact R.ag (JF _) (JF _) R.bx
 ·rw[e]
  exact G.ed x (Jr e)
abbrev zjN:Sm:=.fo [6] Qb (.ϧ (.f8 (.ty 491260897125)) [.ew .Ϯ (.ϧ (.f8 (.bi 7103854)) [.Λ 1]) (.f8 (.φ 1))]) [zbp]
theorem zgK(hd:6<=d)(O:my X)(V:Ls X)(P:PS X 0 0 (bE X)):∃s',PS X (X.u.ε+1) 0 s'/\exec (ah P0 d) zjN (gp X Qc Qc Qc Qc Qc Qc) (U3 X.h X.M)=Qa ((.nx,gp X s'.a s'.b s'.d s'.e s'.f s'.k),s'.g):=
 lm (c:=ah P0 d) (x:=6) (n:=X.u.ε+1) (e:=.ϧ (.f8 (.ty 491260897125)) [.ew .Ϯ (.ϧ (.f8 (.bi 7103854)) [.Λ 1]) (.f8 (.φ 1))]) (b:=[zbp]) (λs':CS R=>gp X s'.a s'.b s'.d s'.e s'.f s'.k) CS.g (λi=>PS X i 0) (bE X) (JL (Eu O.cl).1) rfl (by exact j2 (.c3<|.z (wM X.u.ε (U3 X.h X.M))) rfl) P λi s' R1 _ hi P1 T1=>by
  exact(zgE hd O V (J7 hi) P1).ι λs2 zq5=>jT (.s (zq5.2)<|.z (T1.nx s2 zq5.1)) rfl
abbrev zfT(X:WX R):θ:=X.k*(X.u.ε+X.l.ε+2)+(1+(X.u.ε+1)*(X.l.ε+1)*(X.M.ax+1)+X.M.aa.ε)
def yO{C:θ}(h1:p1+pS<=p)(h2:k1+kS<=k)(h3:c<=C)(h4:4*(p*(n+2))+(k*(n+2)+(C+N))<=3800):
  p*(n+1)+pS+p1<=p*(n+2)/\k*(n+1)+kS+c+k1+N<=k*(n+2)+(C+N)/\4*(p*(n+1)+pS+p1)+(k*(n+1)+kS+c+k1+N)<=3800:=by
 rw[(Kv .. :p*(n+2)=p*(n+1)+p),(Kv .. :k*(n+2)=k*(n+1)+k)] at h4 ⊢;have A1:=Jm (JC (J6 (p*(n+1)) pS p1)) (Jp (Jm (JC (Kf _ _)) h1) _);have A2:=Jm (JN (Jm (JC (cQ (k*(n+1)) kS c k1)) (JH (Jp h2 _) h3)) N) (JC (J6 _ _ _));exact⟨A1,A2,Jm (JH (JD 4 A1) A2) h4⟩
def zgI{s:CS R}(hd:4<=d)(O:my X)(P:PS X (X.u.ε+1) 0 s):∃v,j1 (ah P0 d) (.ο X.D) jz [GZ X.u.ε X.l.ε] s.g s.g=Qa (v,s.g)/\jJ (ah P0 d) (.ai 127) [.ο X.L.m,v] s.g=Qa (R.e X.W,s.g)/\R.D (X.p*(X.u.ε+X.l.ε+2)) (zfT X) X.W:=by
 have S:=P.TM;obtain⟨hw,hdg⟩:=P.fe (.u8 rfl);refine FD (s.Ad (X.u.ε,X.l.ε)) (λhA=>?_) λa hA=>?_
 ·rw[S.nj _ hA,kH] at hw
  exact⟨.Δ,MC _ S _ _ (by rw[hA];rfl),hw▸fn rfl (RK hd (S.mx O.I) ⟨rfl,rfl⟩),hw▸R.ag (JF _) (JF _) R.bx⟩
 ·have hDv:=zcJ (o:=0) (b:=eh X.M) (λs=>O.G.cD s) hdg
  rw[hw,S.am] at hDv;refine⟨.ο a,MC _ S _ _ (by rw[hA];rfl),?_,R.ag (yO O.pp O.kk P.hc O.bd).1 (yO O.pp O.kk P.hc O.bd).2.1 hDv⟩
  have:=fn (P:=P0) rfl (vT (Q:=λv g=>v=_/\g=_) hd (S.mx O.I) (S.LT _ _ hA) (S.am _) hdg O.G.ed (yO O.pp O.kk P.hc O.bd).2.2 ⟨rfl,rfl⟩)
  rw[Le (o:=0) (b:=eh X.M) ((S.am _).ν O.I.du.Μ) λs x hx=>by unfold eh;rw[ZK,hx];rfl,hw] at this;exact this
def zc7(eD:X.D=X.h.ε+2):lX (X.h++[ae.ξ [R.e R.Ι],.ξ (((jV R X.M.aa.ε).ϩ X.M.Ϥ X.M.jp).ς R.e)]) (.Χ (Qa 1) [(GZ 0 0,.ο (X.h.ε+1))])=Qa (.ο X.D,U3 X.h X.M):=by
 delta lX U3 sT pP;simp only[JB,eD,Ju];rfl
theorem gT(O:my X)(eD:X.D=X.h.ε+2)(eW:X.W=R.lv X.M.jp (X.B 0 0 X.M.Ϥ))(hk:X.k1<=X.k)(hp:X.p1<=X.p):PS X 0 0 (bE X):=
 ⟨by rw[eD];exact Cp rfl,Jq _ _,Cq O.G hp hk,λ_=>by rw[eW];exact Fb O.G.st,λe=>e.ι (λe=>θ.Tz e.2) λe=>θ.Tz e⟩
def LI(hd:7<=d)(O:my X)(V:Ls X)(eg:g=X.h)(eD:X.D=X.h.ε+2)(eW:X.W=R.lv X.M.jp (X.B 0 0 X.M.Ϥ))(hk:X.k1<=X.k)(hp:X.p1<=X.p)
  (q:∀t,R.D (X.p*(X.u.ε+X.l.ε+2)) (zfT X) (R.lv X.M.jp (X.B 0 0 X.M.Ϥ))->Q (R.e (R.lv X.M.jp (X.B 0 0 X.M.Ϥ))) (X.h++t)):bz (ah P0 d) (lM.bn 5) (Qa (.ο X.L.m)::Qa (.Υ X.u)::Qa (.Υ X.l)::Qa (.ai (112+R.i))::Qa X.ov::nn 13) g (Ρ.Fin Q):=by
 subst eg;refine xEA (zgK (Jm (by decide) hd) O V (gT O eD eW hk hp)) λs P e=>?_;refine(zgI (d:=d) (Jm (by decide) hd) O P).ι λv zq2=>?_;have e1:=zq2.1;have e2:=zq2.2.1;refine P.TM.Ch.ι λt zq1=>?_;rw[zq1,eW] at e2;rw[zq1] at e e1;exact jT (.p ((fn (P:=P0) (d:=d) (h:=X.h) rfl (Vm (Q:=λv g=>v=_/\g=_) (Jm (by decide) hd) O.I O.G.st ⟨rfl,rfl⟩)))<|.p (zc7 eD)<|.s (e)<|.c2<|.p (e1)<|.p (e2)<|.z (q t (eW▸zq2.2.2))) (by kernel_rfl)
end
section
variable{h0:MH}
def qB(u l:ζ θ)(i j:θ)(a:Ar R.α):Ε:=kc u i a.up && kc l j a.lo
def mH(B:θ->θ->θ->R.α)(u l:ζ θ)(i j:θ)(xs:ζ (Ar R.α)):R.α:=pO (xs.ς λa=>bif qB u l i j a then R.lv a.w (B (i+a.up.ε) (j+a.lo.ε) a.t) else R.Ι)
def HV(b:θ->R.α)(xs:ζ (Ar R.α)):R.α:=pO (xs.ς λa=>bif a.fq then R.lv a.w (b a.t) else R.Ι)
def R5(M:Mc R.α)(B:θ->θ->θ->R.α)(u l:ζ θ)(i j s:θ):R.α:=R.Ϯ (if i=u.ε/\j=l.ε then eh M s else R.Ι) (mH B u l i j (bp M s))
def BH(M:Mc R.α)(u l:ζ θ):θ->θ->θ->θ->R.α
 |0,_,_,_=>R.Ι
 |f+1,i,j,s=>R5 M (BH M u l f) u l i j s
def nf(M:Mc R.α):Prop:=∀(s:θ) ys,M.aa[s]?=Qa ys->∀a∈ys,a.fq=Qe->s<a.t
def pH{a:Ar R.α}(h:a.fq=Qe):a.up=[]/\a.lo=[]:=by
 delta Ar.fq at h;obtain⟨up,lo,w,t⟩:=a;cases up with
 |Κ _ _=>exact JJ h
 |ϟ=>
  cases lo with
  |Κ _ _=>exact JJ h
  |ϟ=>exact⟨rfl,rfl⟩
def AC{B:θ->θ->θ->R.α}{l:ζ θ}:mH B u l i j xs=R.Ϯ (VF B u l i j xs) (HV (B i j) xs):=by
 induction xs with
 |ϟ=>exact(R.Ϛ _).Μ
 |Κ a xs ih=>
  unfold mH VF HV at ih ⊢;simp only[JY,JY,JY,jQ,jQ,jQ,ih];refine rY a.fq (λhe=>?_) λhe=>?_
  ·rw[he]
   simp only[(by unfold gx;rw[he];rfl:gx u l i j a=Qb),(by unfold qB;rw[(pH he).1,(pH he).2];rfl:qB u l i j a=Qe),(pH he).1,(pH he).2,na,na,ϯ,R.Ϛ,R.swap];rfl
  ·rw[he]
   simp only[(by unfold gx qB;rw[he];rfl:gx u l i j a=qB u l i j a),ϯ,R.Ϛ,R.Ϧ]
def vX{B:θ->θ->θ->R.α}{l:ζ θ}:R5 M B u l i j s=R.Ϯ (xT M B u l i j s) (HV (B i j) (bp M s)):=by
 delta R5 xT;simp only[AC,R.Ϧ]
def U7{b:θ->R.α}(h:∀a∈xs,a.fq=Qb):HV b xs=R.Ι:=by
 delta HV
 induction xs with
 |ϟ=>rfl
 |Κ a xs ih=>rw[JY,jQ,h a (.mo _),ih λa ha=>h a (.lw _ ha)];exact R.Ϛ _
def VE{B B':θ->θ->θ->R.α}{l:ζ θ}(h:∀a∈xs,qB u l i j a=Qe->B (i+a.up.ε) (j+a.lo.ε) a.t=B' (i+a.up.ε) (j+a.lo.ε) a.t):mH B u l i j xs=mH B' u l i j xs:=by
 refine lS λa ha=>?_;cases hh:qB u l i j a with
 |true=>rw[na,na,h a ha hh]
 |false=>rfl
theorem rE{B:θ->θ->θ->R.α}{l:ζ θ}{a:Ar R.α}:mH B u l i j (a::xs)=R.Ϯ (bif qB u l i j a then R.lv a.w (B (i+a.up.ε) (j+a.lo.ε) a.t) else R.Ι) (mH B u l i j xs):=rfl
def oE{a:Ar R.α}(h:a∈bp M s):∃ys,M.aa[s]?=Qa ys/\ys∈M.aa/\a∈ys:=by
 delta bp at h;cases hs:M.aa[s]? with
 |none=>rw[hs] at h;exact υ h JE
 |some ys=>rw[hs] at h;exact⟨ys,rfl,Jr hs,h⟩
def VL(M:Mc R.α):Prop:=(∀ys∈M.aa,∀a∈ys,dh a.up/\dh a.lo)/\(∀ys∈M.aa,∀a∈ys,a.t<M.aa.ε)/\nf M
section
variable{M:Mc R.α}(ψ:VL M)
def VL.l:=@ψ.1
def VL.t:=@ψ.2.1
def VL.e:=@ψ.2.2
end
def zH(M:Mc R.α)(u l:ζ θ)(i j s:θ):θ:=((u.ε-i)+(l.ε-j))*(M.aa.ε+1)+(M.aa.ε-s)
theorem On{A B y:θ}(f1:i+x<=A)(f2:j+y<=B)(h:0<x+y):(A-(i+x))+(B-(j+y))+1<=(A-i)+(B-j):=Jm (Jp h _) (JC ((Yr _ _ _ _).ν (congr (χ _ (qbi .. ▸YL (qaq f1))) (qbi .. ▸YL (qaq f2)))))
def z7{l:ζ θ}{a:Ar R.α}(H:VL M)(hi:i<=u.ε)(hj:j<=l.ε)(ha:a∈bp M s)(hh:qB u l i j a=Qe):i+a.up.ε<=u.ε/\j+a.lo.ε<=l.ε/\zH M u l (i+a.up.ε) (j+a.lo.ε) a.t<zH M u l i j s:=by
 refine(oE ha).ι λys zq8=>?_;have zq7:=H.l ys zq8.2.1 a zq8.2.2;have f1:=(G8 zq7.1 (Jn.mp hh).1 hi).1;have f2:=(G8 zq7.2 (Jn.mp hh).2 hj).1;refine⟨f1,f2,?_⟩;delta zH;refine rY a.fq (λhe=>?_) λhe=>?_
 ·have:=H.e s ys zq8.1 a zq8.2.2 he
  rw[(pH he).1,(pH he).2];exact Zw (θ.sub_lt_sub_left (jI zq8.1) this) _
 ·have h6:((u.ε-(i+a.up.ε))+(l.ε-(j+a.lo.ε))+1)*(M.aa.ε+1)<=((u.ε-i)+(l.ε-j))*(M.aa.ε+1):=J8 _ (On f1 f2 (xO he))
  rw[KH,ZS] at h6;exact Jw (Zw (JV (qag _ _)) _) (Jm h6 (Jq _ _))
def Lw{l:ζ θ}(H:VL M):∀{f f' i j s:θ},i<=u.ε->j<=l.ε->zH M u l i j s<f->zH M u l i j s<f'->BH M u l f i j s=BH M u l f' i j s:=by
 intro f
 induction f with
 |zero=>exact λ_ _ h=>υ h (Zb _)
 |succ f ih=>
  intro f' i j s hi hj h1 h2;cases f' with
  |zero=>exact υ h2 (Zb _)
  |succ f'=>
   show R.Ϯ _ (mH (BH M u l f) u l i j (bp M s))=R.Ϯ _ (mH (BH M u l f') u l i j (bp M s))
   congr 1
   refine VE λa ha hh=>?_;have zq5:=z7 H hi hj ha hh;exact ih zq5.1 zq5.2.1 (Jw zq5.2.2 (J7 h1)) (Jw zq5.2.2 (J7 h2))
def Bv(M:Mc R.α)(u l:ζ θ)(i j s:θ):R.α:=BH M u l (zH M u l i j s+1) i j s
def NG{l:ζ θ}(H:VL M)(hi:i<=u.ε)(hj:j<=l.ε):Bv M u l i j s=R5 M (Bv M u l) u l i j s:=by
 show R.Ϯ _ (mH (BH M u l (zH M u l i j s)) u l i j (bp M s))=R.Ϯ _ (mH (Bv M u l) u l i j (bp M s))
 congr 1
 refine VE λa ha hh=>?_;exact Lw H (z7 H hi hj ha hh).1 (z7 H hi hj ha hh).2.1 (z7 H hi hj ha hh).2.2 (JT _)
section
variable{ks:List Nat}{mb1 mb2:List Bool}{bh:List (List Nat)}(TB:Lo M ks mb1 mb2 bh)(hE:M.aj.length=M.aa.length)
include TB hE
theorem MT{a:Ar R.α}(hk:mb2[k]?≠Qa Qe)(ha:a∈bp M k)(ht:a.t<M.aa.ε):mb2[a.t]?≠Qa true:=λq=>hk (by
 refine(oE ha).ι λys zq3=>?_;have hx:=Jo (l:=bh) (i:=a.t) (by rw[TB.b2.am];exact ht);refine TB.c2 _ _ q hx k ((TB.b2.mem _ _ hx k).Ϩ ⟨ys,zq3.1,.nb ⟨jI zq3.1,a,zq3.2.2,rfl⟩⟩))
def MU(hk:mb2[k]?≠Qa Qe):eh M k=R.Ι:=by
 by_cases hkn:k<M.aa.ε
 ·cases he:xN M k with
  |true=>exact υ (TB.m2.jp k (ZO.Ϩ ⟨KG.Ϩ hkn,he⟩)) hk
  |false=>
   delta xN at he;exact dT (Ε.not_inj (y:=Qe) he)
 ·delta eh
  rw[ZR (Jm (JC hE) (Zr hkn))];rfl
def Gb{l:ζ θ}(ht:∀ys∈M.aa,∀a∈ys,a.t<M.aa.ε):∀{f i j k:θ},mb2[k]?≠Qa Qe->BH M u l f i j k=R.Ι:=by
 intro f
 induction f with
 |zero=>exact λ_=>rfl
 |succ f ih=>
  intro i j k hk;show R.Ϯ (if i=u.ε/\j=l.ε then eh M k else R.Ι) (mH (BH M u l f) u l i j (bp M k))=_;have e1:(if i=u.ε/\j=l.ε then eh M k else R.Ι)=R.Ι:=by rw[MU TB hE hk];split<;>rfl
  simp only[e1,R.Ϛ]
  have:∀xs:ζ (Ar R.α),(∀a∈xs,a∈bp M k)->mH (BH M u l f) u l i j xs=R.Ι:=λxs=>by
   induction xs with
   |ϟ=>exact λ_=>rfl
   |Κ a xs ihx=>
    intro h;refine(oE (h a (.mo _))).ι λys zq2=>?_;simp only[rE,ihx λb hb=>h b (.lw _ hb),ih (MT TB hE hk (h a (.mo _)) (ht ys zq2.2.1 a zq2.2.2)),R.xz];cases qB u l i j a<;>exact R.Ϛ _
  exact this _ λ_ h=>h
def E3{l:ζ θ}{T:Mc R.α}(nk:ks.ϥ)(ht:∀ys∈M.aa,∀a∈ys,a.t<M.aa.ε)(ha:T.aa=ks.ς λk=>oQ ks (bp M k))(he:T.aj=ks.ς (eh M)):∀{f i j k:θ},k∈ks->BH T u l f i j (ks.x9 k)=BH M u l f i j k:=by
 intro f
 induction f with
 |zero=>exact λ_=>rfl
 |succ f ih=>
  intro i j k hk;have hix:=Z9.Ϩ hk;have e1:eh T (ks.x9 k)=eh M k:=by
   delta eh;simp only[he,JA,Jo hix,(Xw hix)];rfl
  have e2:bp T (ks.x9 k)=oQ ks (bp M k):=by
   delta bp;simp only[ha,JA,Jo hix,(Xw hix)];rfl
  show R.Ϯ (if i=u.ε/\j=l.ε then eh T (ks.x9 k) else R.Ι) (mH (BH T u l f) u l i j (bp T (ks.x9 k)))=R.Ϯ _ (mH (BH M u l f) u l i j (bp M k));simp only[e1,e2]
  congr 1
  rw[TB.ks] at hk;have hp:=Jn.mp (z0 hk).2;have m1k:mb1[k]?=Qa true:=by
   cases hm:mb1[k]? with
   |none=>rw[hm] at hp;exact JJ hp.1
   |some b=>rw[hm] at hp;exact χ Qa hp.1
  have:∀xs:ζ (Ar R.α),(∀a∈xs,a∈bp M k)->mH (BH T u l f) u l i j (oQ ks xs)=mH (BH M u l f) u l i j xs:=λxs=>by
   induction xs with
   |ϟ=>exact λ_=>rfl
   |Κ a xs ihx=>
    intro h;have ihx:=ihx λb hb=>h b (.lw _ hb);refine(oE (h a (.mo _))).ι λys zq1=>?_;unfold oQ at ihx ⊢;simp only[KR];by_cases hin:a.t∈ks
    ·rw[ρ hin]
     simp only[rE,rE,ihx];show R.Ϯ (bif qB u l i j a then R.lv a.w (BH T u l f (i+a.up.ε) (j+a.lo.ε) (ks.x9 a.t)) else R.Ι) _=_;rw[ih hin]
    ·simp only[π hin]
     have hd2:mb2[a.t]?≠Qa true:=λq=>hin (by
      rw[TB.ks];exact ZO.Ϩ ⟨KG.Ϩ (ht ys zq1.2.1 a zq1.2.2),by rw[(TB.c1 k (ys.ς Ar.t) m1k (by unfold xd;rw[JA,zq1.1];rfl) a.t (JM.Ϩ ⟨a,zq1.2.2,rfl⟩):mb1[a.t]?=Qa Qe),q];rfl⟩)
     rw[rE,Gb TB hE ht hd2,R.xz];have e0:(bif qB u l i j a then R.Ι else R.Ι)=R.Ι:=by cases qB u l i j a<;>rfl
     rw[e0,R.Ϛ];exact ihx
  exact this _ λ_ h=>h
end
end
section
variable{h0:MH}
def DK{l:ζ θ}{p:θ->Ε}{f:θ->θ}:((l.Ϡ p).ς f).sum<=(l.ς f).sum:=by
 induction l with
 |ϟ=>exact Jv _
 |Κ x l ih=>
  simp only[ζ.filter_cons,JY,YG];cases p x
  ·exact Yj ih
  ·show (((x::l.Ϡ p)).ς f).sum<=_
   simp only[JY,YG];exact Jp ih _
def AF:M.aa=(Zk M.aa.ε).ς (bp M):=by
 refine tZ (by rw[Js,Zm]) λi y hy=>?_;rw[JA,ZW (jI hy)];show Qa (M.aa[i]?.bm [])=_;rw[hy];rfl
theorem E5:(oQ ks xs).ε<=xs.ε:=XY ..
def UJ{a:Ar R.α}(h:a∈oQ ks xs):∃b∈xs,b.t∈ks/\a= ⟨b.1,b.2.1,b.2.2.1,ks.x9 b.t⟩:=by
 refine(ζ.mem_filterMap.mp h).ι λb zq16=>?_;have e:=zq16.2;by_cases hk:b.t∈ks
 ·rw[ρ hk] at e;exact⟨b,zq16.1,hk,(Qa.dL e).Μ⟩
 ·rw[π hk] at e;exact af e
def zbc{l:ζ θ}{f g:θ->θ}(h:∀x,f x<=g x):(l.ς f).sum<=(l.ς g).sum:=by
 induction l with
 |ϟ=>exact Jv _
 |Κ x l ih=>rw[JY,JY,YG,YG];have:=h x;exact JH this ih
theorem kI.dh(G:kI M p k)(H:nf M):VL M:=⟨λys hy a ha=>⟨(G.fy ys hy a ha).2.1,(G.fy ys hy a ha).2.2.1⟩,λys hy a ha=>(G.fy ys hy a ha).1,H⟩
def D4{p:θ->Ε}(ha:(nM p n)[i]?=Qa a)(hb:(nM p n)[j]?=Qa b)(h:a<b):i<j:=by
 obtain⟨h1,rfl⟩:=Jx.mp ha;obtain⟨h2,rfl⟩:=Jx.mp hb;refine qaZ λhle=>?_;rcases KZ hle with hl|he
 ·exact θ.lt_asymm h (ζ.pairwise_iff_getElem.mp (ζ.Pairwise.Ϡ _ ζ.pairwise_lt_range:(nM p n).Pairwise (· < ·)) _ _ h2 h1 hl)
 ·subst he;exact J3 _ h
def zf2(M T:Mc R.α)(p k:θ):Prop:=kI T p k/\T.ax<=M.ax/\T.aa.ε<=M.aa.ε/\(nf M->nf T)
section
variable{M T:Mc R.α}{p k:Nat}(ψ:zf2 M T p k)
def zf2.g:=@ψ.1
def zf2.ax:=@ψ.2.1
def zf2.am:=@ψ.2.2.1
def zf2.up:=@ψ.2.2.2
end
def E4{T:Mc R.α}{L':Ly}(I:ao R h L M)(G:kI M p k)(TB:Lo M ks mb1 mb2 bh)(TR:oK M ks T)(J:ao R g L' T):zf2 M T p k:=by
 have hks:∀x∈ks,x<M.aa.ε:=λx hx=>by rw[TB.ks] at hx;exact(z0 hx).1
 have hkl:ks.ε<=M.aa.ε:=by rw[TB.ks];exact WG
 cases TR with
 |si h1 h2 ha he hs hf=>
  have hal:T.aa.ε=ks.ε:=by rw[ha,Js]
  have hcnt:T.ax<=M.ax:=by
   simp only[<-J.ct,<-I.ct,ha,KU];have e:(M.aa.ς ZP)=(Zk M.aa.ε).ς (λk=>(bp M k).ε):=by
    conv=>lhs;rw[AF (M:=M)]
    exact KU
   rw[e,TB.ks];exact Jm (zbc λx=>E5) DK
  refine⟨⟨by rw[hal,hs];exact Z9.Ϩ h1,λys hy a hay=>?_,hf▸G.fst,λx hx=>?_,G.bd,by have:=G.n;exact Jm (JC hal) (Jm hkl this),Jm hcnt G.c⟩,hcnt,Jm (JC hal) hkl,λH s ys hys a hay hae=>?_⟩
  ·rw[ha] at hy
   refine(JM.mp hy).ι λk' zq13=>?_;obtain rfl:=zq13.2;refine(UJ hay).ι λb zq12=>?_;refine eqB zq12.2.2 ?_;refine(oE zq12.1).ι λzs zq11=>?_;have zq10:=G.fy zs zq11.2.1 b zq11.2.2;exact⟨by rw[hal];exact Z9.Ϩ zq12.2.1,zq10.2.1,zq10.2.2.1,zq10.2.2.2.1,zq10.2.2.2.2⟩
  ·rw[he] at hx
   refine(JM.mp hx).ι λk' zq9=>?_;refine eqE zq9.2 ?_;delta eh;rw[Jo (by rw[I.du];exact(hks k' zq9.1):k'<M.aj.ε)];exact G.ed _ (Zg (by rw[I.du];exact(hks k' zq9.1):k'<M.aj.ε))
  ·rw[ha,JA] at hys
   obtain⟨k',hk',rfl⟩:=ms hys;obtain⟨b,hb,hbt,rfl⟩:=UJ hay;refine(oE hb).ι λzs zq6=>?_;have hlt:=H k' zs zq6.1 b zq6.2.2 hae;have hge:ks[ks.x9 b.t]?=Qa b.t:=by rw[Jo (Z9.Ϩ hbt),Xw (Z9.Ϩ hbt)]
   rw[TB.ks] at hk' hge;show s<ks.x9 b.t;rw[TB.ks];exact D4 hk' hge hlt
 |ol h1 ha he hs hf=>
  have hcnt:T.ax=0:=by rw[<-J.ct,ha];rfl
  refine⟨⟨by rw[ha,hs];exact θ.zero_lt_one,λys hy a hay=>?_,hf▸R.ag (JF _) (JF _) R.gr,λx hx=>?_,G.bd,by rw[ha];show 1<=300;decide,Jm (JC hcnt) (JF _)⟩,Jm (JC hcnt) (JF _),by rw[ha];show 1<=_;exact Jm (Jz _ _) (J9 G.st),λ_ s ys hys a hay _=>?_⟩
  ·rw[ha] at hy
   cases JI.mp hy;exact υ hay JE
  ·rw[he] at hx
   cases JI.mp hx;exact R.ag (JF _) (JF _) R.bx
  ·rw[ha] at hys
   cases JI.mp (Jr hys);exact υ hay JE
def LQ{l:ζ θ}{T:Mc R.α}(I:ao R h L M)(G:kI M p k)(TB:Lo M ks mb1 mb2 bh)(TR:oK M ks T)(HM:VL M)(HT:VL T):R.lv T.jp (Bv T u l 0 0 T.Ϥ)=R.lv M.jp (Bv M u l 0 0 M.Ϥ):=by
 have ht:∀ys∈M.aa,∀a∈ys,a.t<M.aa.ε:=λys hy a ha=>(G.fy ys hy a ha).1;have nk:ks.ϥ:=by rw[TB.ks];exact Eh
 cases TR with
 |si h1 h2 ha he hs hf=>
  rw[hs,hf];have eM:Bv M u l 0 0 M.Ϥ=BH M u l (zH M u l 0 0 M.Ϥ+zH T u l 0 0 (ks.x9 M.Ϥ)+1) 0 0 M.Ϥ:=Lw HM (JF _) (JF _) (JT _) (JV (Jq _ _));have eT:Bv T u l 0 0 (ks.x9 M.Ϥ)=BH T u l (zH M u l 0 0 M.Ϥ+zH T u l 0 0 (ks.x9 M.Ϥ)+1) 0 0 (ks.x9 M.Ϥ):=Lw HT (JF _) (JF _) (JT _) (JV (Jz _ _));simp only[eM,eT,(E3 TB I.du nk ht ha he h1:∀{f:θ},BH T u l f 0 0 (ks.x9 M.Ϥ)=BH M u l f 0 0 M.Ϥ)]
 |ol h1 ha he hs hf=>
  have e1:Bv T u l 0 0 T.Ϥ=R.Ι:=by
   delta Bv;show R.Ϯ (if 0=u.ε/\0=l.ε then eh T T.Ϥ else R.Ι) (mH (BH T u l _) u l 0 0 (bp T T.Ϥ))=_;have e2:eh T T.Ϥ=R.Ι:=by unfold eh;rw[he,hs];rfl
   have e3:bp T T.Ϥ=[]:=by unfold bp;rw[ha,hs];rfl
   rw[e2,e3]
   have:(if 0=u.ε/\0=l.ε then R.Ι else R.Ι)=R.Ι:=by split<;>rfl
   simp only[this,R.Ϛ];rfl
  rw[e1,R.xz];rcases h1 with h1|h1
  ·have hd2:mb2[M.Ϥ]?≠Qa true:=λq=>h1 (by
    rw[TB.ks];exact ZO.Ϩ ⟨KG.Ϩ G.st,by rw[TB.m1.jp M.Ϥ (.mo _),q];rfl⟩)
   unfold Bv;rw[Gb TB I.du ht hd2,R.xz]
  ·rw[h1,R.v4]
def yI(hE:Hr M){a:Ar R.α}(h:a∈bp M s):a.fq=false:=by
 refine(oE h).ι λys zq1=>?_
 have:=XH.mp hE ys zq1.2.1
 cases he:a.fq with
 |false=>rfl
 |true=>exact υ (Yu.Ϩ ⟨a,zq1.2.2,he⟩) this
theorem zeL(hE:Hr M):nf M:=λs ys hys a ha he=>by
 have:a∈bp M s:=by unfold bp;rw[hys];exact ha
 rw[yI hE this] at he;exact JJ he
abbrev wX(h:MH)(L:Ly)(M:Mc R.α)(u l:ζ θ)(ov:ab)(p k p1 k1 pS kS:θ):WX R:=⟨h,L,M,u,l,h.ε+2,ov,p,k,p1,k1,pS,kS,Bv M u l,R.lv M.jp (Bv M u l 0 0 M.Ϥ)⟩
end
section
variable{R:Rg}{κ:Type}[DecidableEq κ]
abbrev We(κ:Type)(R:Rg):=ζ (κ×R.α)
def kC:We κ R->κ->R.α
 | [],_=>R.Ι
 |p::t,j=>if p.1=j then p.2 else kC t j
def vI:We κ R->κ->R.α->We κ R
 | [],j,v=>[(j,v)]
 |p::t,j,v=>if p.1=j then(j,v)::t else p::vI t j v
theorem m8{p:κ×R.α}{t:We κ R}{j:κ}:kC (p::t) j=if p.1=j then p.2 else kC t j:=rfl
theorem oM{p:κ×R.α}{t:We κ R}{j:κ}{v:R.α}:vI (p::t) j v=if p.1=j then(j,v)::t else p::vI t j v:=rfl
def jK{κ:Type}(r:We κ R):ζ κ:=r.ς (·.1)
def lZ{κ:Type}(r:We κ R)(b:κ->R.α):R.α:=pO (r.ς λp=>R.lv p.2 (b p.1))
def pZ{r:We κ R}{j:κ}{v:R.α}:∀x,x∈jK (vI r j v) ↔ x∈jK r\/x=j:=by
 induction r with
 |ϟ=>intro x;show x∈ [j] ↔ _;rw[JI];exact⟨.u8,λh=>h.ι (λh=>υ h JE) id⟩
 |Κ p t ih=>
  intro x;simp only[oM];by_cases e:p.1=j
  ·rw[ρ e]
   show x∈j::jK t ↔ x∈p.1::jK t\/x=j;rw[e,JO];exact⟨λh=>.nb h,λh=>h.ι id .nb⟩
  ·rw[π e]
   show x∈p.1::jK (vI t j v) ↔ x∈p.1::jK t\/x=j;refine JO.ν ?_;rw[JO,ih,or_assoc]
def Ea{r:We κ R}{j:κ}{v:R.α}(nd:(jK r).ϥ):(jK (vI r j v)).ϥ:=by
 induction r with
 |ϟ=>exact JK.Ϩ ⟨JE,.ϟ⟩
 |Κ p t ih=>
  have nd:=JK.mp nd;simp only[oM];by_cases e:p.1=j
  ·rw[ρ e];exact JK.Ϩ ⟨e▸nd.1,nd.2⟩
  ·rw[π e]
   exact JK.Ϩ ⟨λq=>((pZ _).mp q).ι nd.1 e,ih nd.2⟩
def Wx{r:We κ R}{j:κ}{v:R.α}{q:κ×R.α}(h:q∈vI r j v):q∈r\/q=(j,v):=by
 induction r with
 |ϟ=>exact .u8 (JI.mp h)
 |Κ p t ih=>
  rw[oM] at h;by_cases e:p.1=j
  ·rw[ρ e] at h
   exact(JO.mp h).ι .u8 λh=>.nb (.lw _ h)
  ·rw[π e] at h
   rcases JO.mp h with rfl|h
   ·exact .nb (.mo _)
   ·exact(ih h).imp (.lw _) id
def wL{r:We κ R}{j:κ}(h:j∈jK r):(j,kC r j)∈r:=by
 induction r with
 |ϟ=>exact υ h JE
 |Κ p t ih=>
  simp only[m8];by_cases e:p.1=j
  ·rw[ρ e,<-e];exact .mo _
  ·rw[π e];exact .lw _ (ih ((JO.mp h).ι (λq=>υ q.Μ e) id))
def tU{r:We κ R}{j:κ}(h:j∉jK r):kC r j=R.Ι:=by
 induction r with
 |ϟ=>rfl
 |Κ p t ih=>
  simp only[m8];rw[π λe=>h (by rw[<-e];exact .mo _),ih λq=>h (.lw _ q)]
def CO{r:We κ R}{j:κ}{w:R.α}{b:κ->R.α}:lZ (vI r j (R.Ϯ (kC r j) w)) b=R.Ϯ (R.lv w (b j)) (lZ r b):=by
 delta lZ
 induction r with
 |ϟ=>show R.Ϯ (R.lv (R.Ϯ R.Ι w) (b j)) R.Ι=R.Ϯ (R.lv w (b j)) R.Ι;rw[R.Ϛ]
 |Κ p t ih=>
  simp only[oM,m8];by_cases e:p.1=j
  ·rw[ρ e,ρ e,JY,JY,jQ,jQ,e,R.add_mul,R.Ϧ,R.swap]
  ·rw[π e,π e,JY,JY,jQ,jQ,ih,R.swap]
def UM{r:We κ R}{b:κ->R.α}{l:ζ κ}(hp:l.TH (jK r))(nd:(jK r).ϥ):pO (l.ς λj=>R.lv (kC r j) (b j))=lZ r b:=by
 have sp:∀{x y:ζ R.α},x.TH y->pO x=pO y:=λ{x y} h=>by
  induction h with
  |ϟ=>rfl
  |Κ a _ ih=>rw[jQ,jQ,ih]
  |swap a b l=>rw[jQ,jQ,jQ,jQ,R.swap]
  |trans _ _ h1 h2=>exact h1.ν h2
 refine(sp (hp.ς _)).ν ?_;delta lZ jK;rw[KU]
 clear hp l
 induction r with
 |ϟ=>rfl
 |Κ p t ih=>
  simp only[JY,JY,jQ,jQ,<-ih (JK.mp nd).2];show R.Ϯ (R.lv (kC (p::t) p.1) (b p.1)) _=_;rw[m8,ρ rfl]
  congr 1
  refine χ pO (ZV λq hq=>?_);show R.lv (kC (p::t) q.1) (b q.1)=R.lv (kC t q.1) (b q.1);rw[m8,π λe=>(JK.mp nd).1 (by rw[show (λx:κ×R.α=>x.1) p=q.1 from e];exact JM.Ϩ ⟨q,hq,rfl⟩)]
theorem qQ{κ:Type}{r:We κ R}{b b':κ->R.α}(h:∀x∈jK r,b x=b' x):lZ r b=lZ r b':=χ pO (ZV λp hp=>by rw[h p.1 (JM.Ϩ ⟨p,hp,rfl⟩)])
abbrev DR(R:Rg):=We θ R
end
section
variable{T:ji}
def nP(T:ji)(r:We T.κ R):ζ (ab×ab):=r.ς λp=>(T.v p.1,R.e p.2)
theorem Ao{r:We T.κ R}:pB T (nP T r):=λ_ hp=>(JM.mp hp).ι λq e=>⟨q.1,by rw[<-e.2]⟩
theorem vU{r:We T.κ R}{j:T.κ}:jN (nP T r) (T.v j)=true:=mX Ao
def yR{r:We T.κ R}{j:T.κ}:jO (nP T r) (T.v j)=if j∈jK r then Qa (R.e (kC r j)) else none:=by
 induction r with
 |ϟ=>rfl
 |Κ p t ih=>
  show jO ((T.v p.1,R.e p.2)::nP T t) _=_;simp only[lL,T.eq,ih];simp only[m8];delta jK;by_cases h:p.1=j
  ·rw[Ζ h,na,ρ (by rw[JY,h];exact .mo _),ρ h]
  ·rw[Γ h,ϯ,π h]
   by_cases h2:j∈t.ς (·.1)
   ·rw[ρ h2,ρ (.lw _ h2)]
   ·rw[π h2]
    exact(π λq=>(JO.mp q).ι (λe=>h e.Μ) h2).Μ
def Ap{r:We T.κ R}{j:T.κ}{v:ab}(h:j∉jK r):((nP T r).ς λp=>bif gc p.1 (T.v j) then(p.1,v) else p)=nP T r:=by
 induction r with
 |ϟ=>rfl
 |Κ p t ih=>
  show (bif gc (T.v p.1) (T.v j) then _ else _)::(nP T t).ς _=_;rw[T.eq,Γ λe=>h (by rw[<-e];exact .mo _),ih λq=>h (.lw _ q)];rfl
def U9{r:We T.κ R}{j:T.κ}{v:R.α}(nd:(jK r).ϥ):mK (nP T r) (T.v j) (R.e v)=nP T (vI r j v):=by
 delta mK;rw[yR];by_cases h:j∈jK r
 ·rw[ρ h,YM,na]
  induction r with
  |ϟ=>exact υ h JE
  |Κ p t ih=>
   show (bif gc (T.v p.1) (T.v j) then _ else _)::(nP T t).ς _=_;rw[T.eq];simp only[oM];by_cases e:p.1=j
   ·rw[Ζ e,na,ρ e,Ap (e▸(JK.mp nd).1)]
    show (T.v p.1,R.e v)::nP T t=(T.v j,R.e v)::nP T t;rw[e]
   ·rw[Γ e,ϯ,π e]
    rw[ih (JK.mp nd).2 ((JO.mp h).ι (λq=>υ q.Μ e) id:j∈jK t)];rfl
 ·rw[π h,YN,ϯ]
  induction r with
  |ϟ=>rfl
  |Κ p t ih=>
   simp only[oM];rw[π (λe=>h (by rw[<-e];exact .mo _):¬p.1=j)];show (T.v p.1,R.e p.2)::(nP T t++[(T.v j,R.e v)])=_;rw[ih (JK.mp nd).2 λq=>h (.lw _ q)];rfl
def zfx(z:Cx){ep:η θ}{r:We T.κ R}(hr:h[a]?=Qa (.Χ ep (nP T r)))(j:T.κ):j1 z (.ο a) jz [T.v j,R.e R.Ι] h h=Qa (R.e (kC r j),h):=by
 refine W.eq (BK hr hr vU ⟨?_,rfl⟩);rw[yR];by_cases h:j∈jK r
 ·rw[ρ h];rfl
 ·rw[π h,tU h];rfl
theorem zeg{j:T.κ}{ep:η θ}{r:We T.κ R}(v:R.α)(hr:h[a]?=Qa (.Χ ep (nP T r)))(nd:(jK r).ϥ)(hl:r.ε<=1000):∃ep',lT h (.ο a) (T.v j) (R.e v)=Qa (h.ϩ a (.Χ ep' (nP T (vI r j v)))):=
 ⟨_,(L3 hr vU (by unfold nP;rw[Js];exact Jt hl (by decide))).ν (by rw[U9 nd])⟩
end
def zfn{a b:ζ θ×ζ θ×θ}:gc (.ay [.Υ a.1,.Υ a.2.1,.φ (a.2.2:θ)]) (.ay [.Υ b.1,.Υ b.2.1,.φ (b.2.2:θ)])=decide (a=b):=by
 show (((⟨a.1.τ⟩:Ξ.be)==⟨b.1.τ⟩) && (((⟨a.2.1.τ⟩:Ξ.be)==⟨b.2.1.τ⟩) && (((a.2.2:Τ)==(b.2.2:Τ)) && Qe)))=_;rw[wI,wI,Yi,show ((a.2.2:Τ)==(b.2.2:Τ))=decide (a.2.2=b.2.2) from by
  by_cases h:a.2.2=b.2.2
  ·rw[h];simp
  ·exact(Γ h)▸Ϟ λe=>h (Yz.dL e),<-Ε.decide_and,<-Ε.decide_and,Ti]
 obtain⟨x,y,z⟩:=a;obtain⟨x',y',z'⟩:=b;simp only[Xr.injEq]
abbrev zkJ:ji:=⟨ζ θ×ζ θ×θ,ch,λp=>.ay [.Υ p.1,.Υ p.2.1,.φ (p.2.2:θ)],λ_ _=>zfn,3,rfl,λ_=>rfl⟩
def zfj:gc (.φ (a:Τ)) (.φ (b:Τ))=decide (a=b):=by
 show ((LO [] (.φ (a:Τ)) (.φ (b:Τ))).bm Qb)=_;have e:LO [] (.φ (a:Τ)) (.φ (b:Τ))=Qa ((a:Τ)==(b:Τ)):=qM (h:=[]);rw[e];show ((a:Τ)==(b:Τ))=_;rw[Z8,Β,Ϫ];exact Τ.ofNat_inj
abbrev Mn:ji:=⟨θ,ch,λa=>.φ (a:Τ),λ_ _=>zfj,1,rfl,λ_=>rfl⟩
section
variable{h0:MH}
def kT(r:DR R):ζ (ab×ab):=r.ς λp=>(ab.φ (p.1:Τ),R.e p.2)
theorem U8{r:DR R}:jN (kT r) (.φ (j:Τ))=true:=vU (T:=Mn)
theorem HY{r:DR R}:jO (kT r) (.φ (j:Τ))=if j∈jK r then Qa (R.e (kC r j)) else none:=yR (T:=Mn)
theorem zfL{r:DR R}{v:R.α}(nd:(jK r).ϥ):mK (kT r) (.φ (j:Τ)) (R.e v)=kT (vI r j v):=U9 (T:=Mn) nd
def nK(r:DR R)(j:θ)(w:R.α):DR R:= @ite _ (w=R.Ι) (R.gi _ _) r (vI r j (R.Ϯ (kC r j) w))
def WD{r:DR R}{b:θ->R.α}:lZ (nK r j w) b=R.Ϯ (R.lv w (b j)) (lZ r b):=by
 delta nK;by_cases h:w=R.Ι
 ·rw[ρ h,h,R.v4,R.Ϛ]
 ·rw[π h,CO]
def rQ(n P K:θ)(r:DR R):Prop:=(jK r).ϥ/\(∀x∈jK r,x<n)/\∀p∈r,R.D P K p.2
section
variable{n P K:Nat}{r:DR R}(ψ:rQ n P K r)
def rQ.nd:=@ψ.1
def rQ.lt:=@ψ.2.1
def rQ.dg:=@ψ.2.2
end
def rQ.xL{P:θ}{r:DR R}(H:rQ n P K r)(j:θ):R.D P K (kC r j):=by
 by_cases h:j∈jK r
 ·exact H.dg _ (wL h)
 ·exact(tU h)▸R.ag (JF _) (JF _) R.bx
def Ee{P:θ}{r:DR R}(H:rQ n P K r)(hj:j<n)(hw:R.D P K w):rQ n P (K+1) (nK r j w):=by
 delta nK;by_cases h:w=R.Ι
 ·rw[ρ h];exact⟨H.nd,H.lt,λp hp=>R.ag (Jv _) (Ze _) (H.dg p hp)⟩
 ·rw[π h]
  refine⟨Ea H.nd,λx hx=>((pZ x).mp hx).ι (H.lt x) λe=>e▸hj,λp hp=>?_⟩;rcases Wx hp with hp|rfl
  ·exact R.ag (Jv _) (Ze _) (H.dg p hp)
  ·exact R.fz (H.xL j) hw
def rQ.am{P:θ}{r:DR R}(H:rQ n P K r):r.ε<=n:=by
 have:=H.nd.length_le_of_subset (l₂:=Zk n) λx hx=>KG.Ϩ (H.lt x hx)
 rwa [Zm,show (jK r).ε=r.ε from Js ..] at this
theorem zah(z:Cx){ep:η θ}{r:DR R}(hr:h[a]?=Qa (.Χ ep (kT r)))(j:θ):j1 z (.ο a) jz [.φ j,R.e R.Ι] h h=Qa (R.e (kC r j),h):=zfx (T:=Mn) z hr j
theorem zhc{ep:η θ}{r:DR R}(v:R.α)(hr:h[a]?=Qa (.Χ ep (kT r)))(nd:(jK r).ϥ)(hl:r.ε<=1000):∃ep',lT h (.ο a) (.φ j) (R.e v)=Qa (h.ϩ a (.Χ ep' (kT (vI r j v)))):=zeg (T:=Mn) v hr nd hl
def GG{P:θ}{ep:η θ}{r:DR R}(hd:4<=d)(hr:h[a]?=Qa (.Χ ep (kT r)))(H:rQ n P K r)(hn:n<=1000)(hw:R.D P K w)(hl:4*P+K<=3800):∃ep',jJ (ah P0 d) (.ai 104) [.ai (112+R.i),.ο a,.φ (j:Τ),R.e w] h=Qa (.Δ,h.ϩ a (.Χ ep' (kT (nK r j w)))):=by
 obtain⟨ep',e⟩:∃ep',WF P0 d 104 [.ai (112+R.i),.ο a,.φ (j:Τ),R.e w] h λv g=>v=.Δ/\g=h.ϩ a (.Χ ep' (kT (nK r j w))):=by
  cases hq:R.gi w R.Ι with
  |isTrue q=>
   have e:h.ϩ a (.Χ ep (kT (nK r j w)))=h:=by
    refine(Jx.mp hr).ι λhl zq2=>?_;delta nK;rw[ρ q,<-zq2,K4]
   refine⟨ep,j7 (K:=3) hd (Qa (.ai (112+R.i))::Qa (.ο a)::Qa (.φ (j:Τ))::Qa (R.e w)::nn 6) rD rfl λd' h'=>?_⟩;rw[e];have hf:(!@decide (w=R.Ι) (R.gi _ _))=false:=by rw[R.yes q];rfl
   exact jT (.w (R.no)<|.b ((Ρ.cq (R.fh h w R.Ι)))<|.f (hf)<|.z (cg .Δ h)) rfl
  |isFalse q=>
   obtain⟨ep',e⟩:=zhc (j:=j) (R.Ϯ (kC r j) w) hr H.nd (Jm H.am hn);refine⟨ep',j7 (K:=3) hd (Qa (.ai (112+R.i))::Qa (.ο a)::Qa (.φ (j:Τ))::Qa (R.e w)::nn 6) rD rfl λd' h'=>?_⟩;rw[(by unfold nK;rw[π q]:nK r j w=vI r j (R.Ϯ (kC r j) w))];exact jT (.w (R.no)<|.b ((Ρ.cq (R.fh h w R.Ι)))<|.t ((by rw[R.not q];rfl:(!@decide (w=R.Ι) (R.gi _ _))=Qe))<|.w (R.no)<|.p (zah (ah P0 d') hr j)<|.q (R.pl h' (H.xL j) hw hl)<|.h (e)<|.z (cg .Δ (h.ϩ a (.Χ ep' (kT (vI r j (R.Ϯ (kC r j) w))))))) rfl
 exact⟨ep',fn rfl e⟩
end
variable{b':Nat->R.α}
def OZ{r:DR R}{b:θ->R.α}{x:R.α}(nd:(jK r).ϥ)(hk:k∈jK r)(h:∀j,j≠k->b j=b' j)(e:b k=R.Ϯ (b' k) x):lZ r b=R.Ϯ (R.lv (kC r k) x) (lZ r b'):=by
 induction r with
 |ϟ=>exact υ hk JE
 |Κ p t ih=>
  show R.Ϯ (R.lv p.2 (b p.1)) (lZ t b)=R.Ϯ _ (R.Ϯ (R.lv p.2 (b' p.1)) (lZ t b'));simp only[m8];by_cases hp:p.1=k
  ·rw[ρ hp,qQ (b:=b) (b':=b') λy hy=>h y λq=>(JK.mp nd).1 (by rw[show (λx:θ×R.α=>x.1) p=k from hp,<-q];exact hy),hp,e,R.No,R.sn (R.lv p.2 (b' k)),R.Ϧ]
  ·rw[π hp,ih (JK.mp nd).2 ((JO.mp hk).ι (λq=>υ q.Μ hp) id),h _ hp,R.swap]
def F6(ov:DR R)(f:R.α)(l:ζ θ)(t:DR R):DR R:=l.foldl (λt j=>nK t j (R.lv f (kC ov j))) t
variable{ov:DR R}
def MR{f:R.α}{b:θ->R.α}:∀{l:ζ θ}{t:DR R},lZ (F6 ov f l t) b=R.Ϯ (R.lv f (pO (l.ς λj=>R.lv (kC ov j) (b j)))) (lZ t b):=by
 intro l
 induction l with
 |ϟ=>intro t;show lZ t b=R.Ϯ (R.lv f R.Ι) (lZ t b);rw[R.xz,R.Ϛ]
 |Κ j l ih=>
  intro t;show lZ (F6 ov f l (nK t j (R.lv f (kC ov j)))) b=_;simp only[ih,WD,JY,jQ,R.No,R.w9,R.Ϧ,R.swap]
def SR(n p K i k:θ)(t:DR R):Prop:=(jK t).ϥ/\(∀x∈jK t,i<x/\x<n)/\∀q∈t,R.D (p*(q.1-i)) (K*(q.1-i)+k) q.2
section
variable{n p K i k:Nat}{t:DR R}(ψ:SR n p K i k t)
def SR.nd:=@ψ.1
def SR.lt:=@ψ.2.1
def SR.dg:=@ψ.2.2
end
theorem SR.Ν{t:DR R}(H:SR n p K i k t)(h:k<=k'):SR n p K i k' t:=⟨H.nd,H.lt,λq hq=>R.ag (Jv _) (Jp h _) (H.dg q hq)⟩
theorem SR.xL{t:DR R}(H:SR n p K i k t)(h:j∈jK t):R.D (p*(j-i)) (K*(j-i)+k) (kC t j):=H.dg _ (wL h)
def uw(n p K i k:θ)(l:ζ θ)(t:DR R):Prop:=(jK t).ϥ/\(∀x∈jK t,i<x/\x<n)/\(∀q∈t,R.D (p*(q.1-i)) (K*(q.1-i)+(k+1)) q.2)/\∀q∈t,q.1∈l->R.D (p*(q.1-i)) (K*(q.1-i)+k) q.2
section
variable{n p K i k:Nat}{l:List Nat}{t:DR R}(ψ:uw n p K i k l t)
def uw.nd:=@ψ.1
def uw.lt:=@ψ.2.1
def uw.dg:=@ψ.2.2.1
def uw.dl:=@ψ.2.2.2
end
theorem SR.l{t:DR R}(H:SR n p K i k t)(l:ζ θ):uw n p K i k l t:=⟨H.nd,H.lt,(H.Ν (Ze k)).dg,λq hq _=>H.dg q hq⟩
def uw.Ϯ{l:ζ θ}{t:DR R}(H:uw n p K i k (j::l) t)(hj:j∉l)(h1:i<j)(h2:j<n)(hw:R.D (p*(j-i)) (K*(j-i)+k) w):uw n p K i k l (nK t j w):=by
 delta nK;by_cases h:w=R.Ι
 ·rw[ρ h];exact⟨H.nd,H.lt,H.dg,λq hq hl=>H.dl q hq (.lw _ hl)⟩
 ·rw[π h]
  refine⟨Ea H.nd,λx hx=>((pZ x).mp hx).ι (H.lt x) λe=>e▸ ⟨h1,h2⟩,λq hq=>?_,λq hq hl=>?_⟩
  ·rcases Wx hq with hq|rfl
   ·exact H.dg q hq
   ·refine R.fz (k:=K*(j-i)+k) ?_ hw
    by_cases hj:j∈jK t
    ·exact H.dl _ (wL hj) (.mo _)
    ·simp only[tU hj];exact R.ag (JF _) (JF _) R.bx
  ·rcases Wx hq with hq|rfl
   ·exact H.dl q hq (.lw _ hl)
   ·exact υ hl hj
def ER(n p K0 k:θ)(ov:DR R):Prop:=(jK ov).ϥ/\(∀x∈jK ov,k<x/\x<n)/\∀q∈ov,R.D p K0 q.2
section
variable{n p K0 k:Nat}{ov:DR R}(ψ:ER n p K0 k ov)
def ER.nd:=@ψ.1
def ER.lt:=@ψ.2.1
def ER.dg:=@ψ.2.2
end
def UW{n:θ}{f:R.α}(hf:R.D (p*(k-i)) (K*(k-i)+m) f)(hw:R.D p K0 w)(hi:i<k)(hj:k<j)(hK:K0<=K):R.D (p*(j-i)) (K*(j-i)+m) (R.lv f w):=by
 have e2:K*(k-i)+K<=K*(j-i):=by rw[<-Kv];exact JD _ (qaz (JL hi) hj)
 exact R.ag (by rw[<-Kv];exact JD _ (qaz (JL hi) hj):p*(k-i)+p<=p*(j-i)) (Jm (JC (ZG _ _ _)) (JN (Jm (Jp hK _) e2) _)) (R.dp hf hw)
def bk(N B:θ->R.α)(k:θ):θ->R.α:=λj=>if j<k then N j else B j
def Co{t:DR R}{N B:θ->R.α}{l:ζ θ}(H:SR n p K i m t)(E:ER n p K0 k ov)(hl:l.TH (jK ov))(hB:B k=R.Ϯ (N k) (lZ ov B))(hk:k∈jK t):lZ (F6 ov (kC t k) l t) (bk N B (k+1))=lZ t (bk N B k):=by
 rw[MR,UM hl E.nd,OZ (b:=bk N B k) (b':=bk N B (k+1)) (k:=k) (x:=lZ ov B) H.nd hk]
 ·congr 2
  exact qQ λx hx=>π (by have:=(E.lt x hx).1;exact Zv (J9 this))
 ·intro j hj
  delta bk;by_cases h:j<k
  ·rw[ρ h,ρ (Zu h)]
  ·rw[π h,π (Zv (J9 (ZI (Zr h) (Ki hj))))]
 ·delta bk
  rw[π (J3 _),ρ (JT _),hB]
theorem Cm{t:DR R}{N B:θ->R.α}(H:SR n p K i m t)(hk:k∉jK t):lZ t (bk N B (k+1))=lZ t (bk N B k):=qQ λx hx=>by
 have:x≠k:=λe=>hk (e▸hx)
 delta bk;by_cases h:x<k
 ·rw[ρ h,ρ (Zu h)]
 ·rw[π h,π (Zv (J9 (ZI (Zr h) (Ki this))))]
def l6(xs:ζ (Ar R.α)):DR R:=xs.foldl (λr a=>bif a.fq then nK r a.t a.w else r) []
def yZ{a:Ar R.α}:l6 (xs++[a])=bif a.fq then nK (l6 xs) a.t a.w else l6 xs:=by unfold l6;rw[YS];rfl
def DJ{b:θ->R.α}:lZ (l6 xs) b=HV b xs:=by
 have go:∀(xs:ζ (Ar R.α))(r:DR R),lZ (xs.foldl (λr a=>bif a.fq then nK r a.t a.w else r) r) b=R.Ϯ (lZ r b) (HV b xs):=by
  intro xs
  induction xs with
  |ϟ=>intro r;exact(R.ui _).Μ
  |Κ a xs ih=>
   intro r;simp only[Yh,ih];show _=R.Ϯ (lZ r b) (R.Ϯ (bif a.fq then R.lv a.w (b a.t) else R.Ι) (HV b xs));cases a.fq with
   |true=>rw[na,na,WD,R.Ϧ,R.swap]
   |false=>rw[ϯ,ϯ,R.Ϛ]
 exact(go xs []).ν (R.Ϛ _)
def UK:∀{xs:ζ (Ar R.α)},(∀a∈xs,a.t<n/\R.D p k a.w/\(a.fq=Qe->s<a.t))->rQ n p (k+xs.ε) (l6 xs)/\∀x∈jK (l6 xs),s<x:=by
 intro xs;rw[<-ζ.reverse_reverse xs]
 generalize xs.Ts=ys
 induction ys with
 |ϟ=>exact λ_=>⟨⟨.ϟ,λx h=>υ h JE,λq h=>υ h JE⟩,λx h=>υ h JE⟩
 |Κ a ys ih=>
  intro h;rw[KJ] at h ⊢;refine xA (ih λb hb=>h b (ZQ _ hb)) λh1 h2=>?_;have zq1:=h a (JQ _ (.mo _));rw[yZ,Ju,YV,<-J6];refine rY a.fq (λhe=>?_) λhe=>?_
  ·rw[he]
   simp only[na];refine⟨Ee h1 zq1.1 (R.ag (Jv _) (Jq _ _) zq1.2.1),λx hx=>?_⟩;unfold nK at hx;by_cases hw:a.w=R.Ι
   ·rw[ρ hw] at hx;exact h2 x hx
   ·rw[π hw] at hx
    exact((pZ x).mp hx).ι (h2 x) λe=>e▸zq1.2.2 he
  ·rw[he]
   exact⟨⟨h1.nd,h1.lt,λq hq=>R.ag (Jv _) (Ze _) (h1.dg q hq)⟩,h2⟩
section
variable{h0:MH}
def gg(h g:MH)(T:ζ (DR R)):Prop:=(∃t,g=h++t)/\g[h.ε]?=Qa (.ξ ((J5 (h.ε+1) T.ε).ς .ο))/\∀(i:θ)(t:DR R),T[i]?=Qa t->∃ep,g[h.ε+(i+1)]?=Qa (.Χ ep (kT t))
section
variable{h g:MH}{T:List (DR R)}(ψ:gg h g T)
def gg.Ch:=@ψ.1
def gg.Hd:=@ψ.2.1
def gg.LT:=@ψ.2.2
end
structure yY(g:MH)(aT:θ)(T:ζ (DR R)):Prop where
 x:∃rs:ζ θ,g[aT]?=Qa (.ξ (rs.ς .ο))/\rs.ε=T.ε/\∀(i r:θ)(t:DR R),rs[i]?=Qa r->T[i]?=Qa t->∃ep,g[r]?=Qa (.Χ ep (kT t))
variable{g:MH}{aT:Nat}{T:List (DR R)}
def DY(hi:i<n):(J5 (a+1) n)[i]?=Qa (a+(i+1)):=by
 refine(qax hi).ν ?_
 congr 1;lia
theorem gg.r(H:gg h g T):yY g h.ε T:=⟨_,H.Hd,by rw[KY],λi r t hr ht=>by
 rw[DY (jI ht)] at hr;refine lN hr ?_;exact H.LT i t ht⟩
def yY.cu{t:MH}(H:yY g aT T):yY (g++t) aT T:=by
 exact H.x.ι λrs zq7=>⟨rs,jA zq7.1,zq7.2.1,λi r t a b=>(zq7.2.2 i r t a b).ι λep e=>⟨ep,jA e⟩⟩
def gg.cu{t:MH}(H:gg h g T):gg h (g++t) T:=by
 refine H.Ch.ι λt0 zq6=>?_;obtain rfl:=zq6;exact⟨⟨_,JB ..⟩,jA H.Hd,λi t a=>(H.LT i t a).ι λep e=>⟨ep,jA e⟩⟩
def yY.at{t:DR R}(H:yY g aT T)(ht:T[i]?=Qa t):∃r ep,(∀{Q:ab->MH->Prop},Q (.ο r) g->WI (.ο aT) (.φ (i:Τ)) g Q)/\g[r]?=Qa (.Χ ep (kT t)):=by
 refine H.x.ι λrs zq5=>?_;have hi:i<rs.ε:=by rw[zq5.2.1];exact jI ht
 obtain⟨ep,e⟩:=zq5.2.2 i _ t (Jo hi) ht;exact⟨_,ep,λq=>Gv (i:=i) zq5.1 (qT (Jo hi)) q,e⟩
theorem gg.wi(H:gg h g T)(hi:i<T.ε)(q:Q (.ο (h.ε+(i+1))) g):WI (.ο h.ε) (.φ (i:Τ)) g Q:=Gv (i:=i) H.Hd (qT (DY hi)) q
def gg.ϩ{t':DR R}{ep:η θ}(H:gg h g T)(hi:i<T.ε):gg h (g.ϩ (h.ε+(i+1)) (.Χ ep (kT t'))) (T.ϩ i t'):=by
 refine(H.LT i _ (Jo hi)).ι λep0 zq3=>?_;refine H.Ch.ι λt0 zq2=>?_;obtain rfl:=zq2;refine⟨⟨_,sG (Jq _ _)⟩,by rw[J0];exact jP (Kj (ZM (ZU _))) H.Hd,λj u hu=>?_⟩;by_cases e:i=j
 ·subst e
  rw[JX hi] at hu;refine lN hu ?_;exact⟨ep,j8 zq3⟩
 ·rw[JZ e] at hu
  obtain⟨ep1,e1⟩:=H.LT j u hu;exact⟨ep1,jP (by lia) e1⟩
def AY{Tf:θ->DR R}{ep:θ->η θ}:gg h (h++.ξ ((J5 (h.ε+1) n).ς .ο)::(Zk n).ς λi=>.Χ (ep i) (kT (Tf i))) ((Zk n).ς Tf):=by
 refine⟨⟨_,rfl⟩,by rw[Js,Zm];exact ak,λi t ht=>⟨ep i,?_⟩⟩;have hk:i<n:=by have:=jI ht;rwa [Js,Zm] at this
 rw[JA,ZW hk] at ht;refine lN ht ?_;rw[mU];show ((Zk n).ς _)[i]?=_;rw[JA,ZW hk];rfl
def vH(M:Mc R.α)(i j s:θ):ζ (Ar R.α):=if s<i then bp M s else if s=i then(bp M s).ϣ j else[]
def nH(M:Mc R.α)(i j:θ):ζ (DR R):=(Zk M.aa.ε).ς λs=>l6 (vH M i j s)
def Gy(hs:s<M.aa.ε):(nH M i j)[s]?=Qa (l6 (vH M i j s)):=by
 delta nH;simp only[JA,ZW hs];rfl
def E6{a:Ar R.α}(hi:i<M.aa.ε)(ha:(bp M i)[j]?=Qa a):nH M i (j+1)=(nH M i j).ϩ i (bif a.fq then nK (l6 ((bp M i).ϣ j)) a.t a.w else l6 ((bp M i).ϣ j)):=by
 refine tZ (by unfold nH;rw[Js,J0,Js]) λs y hy=>?_;have hs:s<M.aa.ε:=by have:=jI hy;unfold nH at this;rwa [Js,Zm] at this
 rw[Gy hs] at hy;refine lN hy ?_;by_cases e:i=s
 ·subst e
  rw[JX (by unfold nH;rw[Js,Zm];exact hs)];delta vH;rw[π (J3 _),ρ rfl,Ku,ha];show _=Qa (l6 (_++[a]));rw[yZ]
 ·refine(JZ e).ν ?_
  rw[Gy hs];delta vH;by_cases h1:s<i
  ·rw[ρ h1,ρ h1]
  ·rw[π h1,π h1,π (Ki e),π (Ki e)]
def E7:nH M i (bp M i).ε=nH M (i+1) 0:=by
 delta nH;refine ZV λs _=>χ l6 ?_;delta vH;by_cases h1:s<i
 ·rw[ρ h1,ρ (Zu h1)]
 ·rw[π h1]
  by_cases h2:s=i
  ·refine eqE h2 ?_
   rw[ρ rfl,ρ (JT _),JW]
  ·rw[π h2,π (Zv (J9 (ZI (Zr h1) (Ki h2))))]
   by_cases h3:s=i+1
   ·rw[ρ h3];rfl
   ·rw[π h3]
end
section
variable{h0:MH}
abbrev uv:=MH×η ab×η ab
section
variable(ψ:uv)
abbrev uv.g:=ψ.1
abbrev uv.a:=ψ.2.1
abbrev uv.b:=ψ.2.2
end
def wy(L:Ly)(n0:θ)(a b:η ab):Ρ.Θ:=Qa (.ο L.m)::Qa (.ϝ Qe)::Qa (.ο n0)::a::b::nn 6
abbrev Ol:ζ Sm:=[.ite (.mh Qe [.az (.Λ 4) 7598521885536580729 [],.not (.Λ 1)]) [.expr (.ϧ (.f8 (.ai 104)) [.aq (.Λ 0) 1919512167,.wr (.Λ 2) (.Λ 3),.aq (.Λ 4) 127961880028532,.aq (.Λ 4) 131277443786868])] []]
abbrev zg1:ζ Sm:=[.fo [4] Qb (.wr (.aq (.Λ 0) 1634886515) (.Λ 3)) Ol]
def LU:(nH M i j).ε=M.aa.ε:=by unfold nH;rw[Js,Zm]
def gg.im{T:ζ (DR R)}(H:gg h g T)(I:ao R h L M):ao R g L M:=by obtain⟨t,rfl⟩:=H.Ch;exact I.cu
def gg.up{T:ζ (DR R)}(H:gg h g T)(e:h[a]?=Qa o):g[a]?=Qa o:=by obtain⟨t,rfl⟩:=H.Ch;exact jA e
def zda(h:M.aa[i]?=Qa xs):bp M i=xs:=by unfold bp;rw[h];rfl
def yB:vH M i j i=(bp M i).ϣ j:=by unfold vH;rw[π (J3 _),ρ rfl]
theorem gg.su{T:ζ (DR R)}(H:gg h g T)(hi:i<T.ε):kJ g (.ο h.ε) (.φ (i:Τ))=Qa (.ο (h.ε+(i+1))):=sl (i:=i) H.Hd (qT (DY hi))
def Oj{a:Ar R.α}{s:uv}(hd:5<=d)(I:ao R h L M)(G:kI M p k)(U:nf M)(hl:4*p+(k+300)<=3800)(hi:i<M.aa.ε)(ha:(bp M i)[j]?=Qa a)(hb:h[b]?=Qa (lP R a))(T:gg h s.g (nH M i j))
  (q:∀s':uv,gg h s'.g (nH M i (j+1))->R' .nx (wy L h.ε (vN i) s'.b) s'.g):bz (ah P0 d) Ol (wy L h.ε (vN i) (vR b)) s.g R':=by
 have ts:=E6 (M:=M) (j:=j) hi ha;have hB:=T.up hb;have hie:M.aa[i]?=Qa (bp M i):=by unfold bp;rw[Jo hi];rfl
 have hm:=Jr hie;have e0:=Gy (M:=M) (i:=i) (j:=j) hi;rw[yB] at e0;refine rY a.fq (λhe=>?_) λhe=>?_
 ·rw[he,na] at ts
  refine(T.LT i _ e0).ι λep hr=>?_;have ok:=(UK (R:=R) (n:=M.aa.ε) (p:=p) (k:=k) (s:=i) (xs:=(bp M i).ϣ j) λc hc=>by
   exact⟨(G.fy _ hm c (Z4 hc)).1,(G.fy _ hm c (Z4 hc)).2.2.2.1,λhe=>U i _ hie c (Z4 hc) he⟩).1
  refine(GG (d:=d) (j:=a.t) (w:=a.w) (Jm (by decide) hd) hr ok (Jm G.n (by decide)) (R.ag (Jv _) (Jq _ _) (G.fy _ hm a (Jr ha)).2.2.2.1) (Jm (Jp (Jp (Jm (by rw[ZC];exact YX _ _) (Jm (I.cr _ hm) G.c):((bp M i).ϣ j).ε<=300) k) _) hl)).ι λep' e=>?_;have N:=T.ϩ (t':=nK (l6 ((bp M i).ϣ j)) a.t a.w) (ep:=ep') (by rw[LU];exact hi);rw[<-ts] at N;exact jT (.p (xG (Jm (by decide) hd:1<=d) hB)<|.t (he)<|.t (he)<|.v (lU (T.im I))<|.v (T.su (by rw[LU];exact hi))<|.v (ry hB)<|.v (ur hB)<|.p (e)<|.z (q ⟨_,Qc,vR b⟩ N)) (by kernel_rfl)
 ·rw[he,ϯ] at ts
  have N:gg h s.g (nH M i (j+1)):=by
   simp only[ts,<-Jx.mp e0|>.2,K4];exact T
  exact jT (.p (xG (Jm (by decide) hd:1<=d) hB)<|.f (he)<|.c2<|.z (q ⟨s.g,Qc,vR b⟩ N)) (by kernel_rfl)
def Od{s:uv}(hd:5<=d)(I:ao R h L M)(G:kI M p k)(U:nf M)(hl:4*p+(k+300)<=3800)(hi:i<M.aa.ε)(T:gg h s.g (nH M i 0)):
  ∃s':uv,gg h s'.g (nH M (i+1) 0)/\exec (ah P0 d) (.fo [4] Qb (.wr (.aq (.Λ 0) 1634886515) (.Λ 3)) Ol) (wy L h.ε (vN i) s.b) s.g=Qa ((.nx,wy L h.ε (vN i) s'.b),s'.g):=by
 refine(I.ng hi).ι λr zq3=>zq3.ι λas zq4=>?_;refine(pb (c:=ah P0 d) (tg:=[4]) (many:=Qb) (a:=r) (e:=.wr (.aq (.Λ 0) 1634886515) (.Λ 3)) (b:=Ol) (vs:=as.ς .ο) (λs':uv=>wy L h.ε (vN i) s'.b) uv.g (λj s'=>gg h s'.g (nH M i j)) s (zq4.2.1.le I zq4.2.2) rfl (λj s' T2=>T2.up zq4.2.1.l) (by exact j2 (.v (mW (T.im I))<|.v (sl (T.im I).aa zq4.1)<|.z (cg (.ο r) s.g)) rfl) T λj v s' R2 _ hv T2 C2=>?_).ι λs' e=>⟨s',by rw[<-E7];exact zq4.2.1.n▸e.1,e.2⟩;refine(zq4.2.1.a j v hv).ι λb zq1=>zq1.ι λx zq2=>?_;refine eqB zq2.1 ?_;exact kP (Oj hd I G U hl hi zq2.2.1 zq2.2.2 T2 C2.nx)
abbrev zi(h:MH)(n:θ):MH:=h++.ξ ((J5 (h.ε+1) n).ς .ο)::(Zk n).ς λ_=>.Χ (Qa 0) []
def zdT:gg h (zi h M.aa.ε) (nH M 0 0):=by
 have e:nH M 0 0=(Zk M.aa.ε).ς λ_=>([]:DR R):=by
  delta nH;refine ZV λs _=>?_;delta vH;rw[π (Zb _)];by_cases h:s=0
  ·rw[ρ h];rfl
  ·rw[π h];rfl
 simp only[e];exact AY (ep:=λ_=>Qa 0) (Tf:=λ_=>([]:DR R))
def Oh(I:ao R h L M):eval (ah P0 d) (.comp (.Χ []) [5] Qb (.aq (.Λ 0) jY) []) (Qa (.ο L.m)::Qa (.ϝ Qe)::nn 9) h=Qa (.ο h.ε,zi h M.aa.ε):=by
 have hl:(L.au.ς ab.ο).ε=M.aa.ε:=by rw[Js,I.am]
 refine W.eq (Wl (a:=L.aA) (vs:=L.au.ς .ο) (λi=>.Χ (Qa 0) []) (by rw[hl];exact Jt I.bc (show 10000<200000 by decide)) (by rw[hl];exact Jm I.bc (by decide)) (W.of (a:=.ο L.aA) (W.eq (by exact j2 (.v (mW I)<|.z (cg (.ο L.aA) h)) (by kernel_rfl):WE (ah P0 d) (Qa (.ο L.m)::Qa (.ϝ Qe)::nn 9) (.aq (.Λ 0) jY) h λv g=>v=.ο L.aA/\g=h)) ⟨rfl,I.aa,λi v t _=>?_,by rw[hl];exact⟨rfl,rfl⟩⟩));exact j2 (.c<|.z (cg (.ο (h++t).ε) ((h++t)++[.Χ (Qa 0) []]))) rfl
def Ce(hd:6<=d)(I:ao R h L M)(G:kI M p k)(U:nf M)(hl:4*p+(k+300)<=3800)(q:∀t,gg h (h++t) (nH M M.aa.ε 0)->Q (.ο h.ε) (h++t)):WF P0 d 108 [.ο L.m,.ϝ Qe] h Q:=by
 refine j7 (K:=5) hd (Qa (.ο L.m)::Qa (.ϝ Qe)::nn 9) tE rfl λd' h'=>?_;have d1:1<=d':=Jm (by decide) h';refine(lm (c:=ah P0 d') (x:=3) (n:=M.aa.ε) (e:=.ϧ (.f8 (.ty 491260897125)) [.az (.Λ 0) sP []]) (b:=zg1) (λs:uv=>wy L h.ε s.a s.b) uv.g (λi s=>gg h s.g (nH M i 0)) ⟨zi h M.aa.ε,Qc,Qc⟩ (Ah I) rfl (by exact j2 (.p (pF d1 ((zdT (h:=h) (M:=M)).im I))<|.c<|.z (cg (.gb M.aa.ε) (zi h M.aa.ε))) rfl) (zdT (h:=h) (M:=M)) λi s R1 _ hi T1 C1=>(Od (d:=d') h' I G U hl hi T1).ι λs' e=>by exact jT (.s (e.2)<|.z (C1.nx ⟨s'.g,vN i,s'.b⟩ e.1)) rfl).ι λs e=>e.1.Ch.ι λt ht=>?_;have e2:=e.2;rw[ht] at e2;exact jT (.p (pF d1 I)<|.c<|.f ((Γ (by have:=G.n;lia):decide ((M.aa.ε:Τ)>2000)=Qb))<|.p (Oh (d:=d') I)<|.s (e2)<|.z (q t (ht▸e.1:gg h (h++t) (nH M M.aa.ε 0)))) rfl
end
def WJ{f:α->β}{m n:ζ β}(h:m.TH n):∀l:ζ α,n=l.ς f->∃l':ζ α,l'.TH l/\m=l'.ς f:=by
 induction h with
 |ϟ=>intro l e;exact⟨l,.TD l,e⟩
 |Κ x _ ih=>
  intro l e;cases l with
  |ϟ=>cases e
  |Κ a l=>
   obtain⟨rfl,e2⟩:=KD.dL e;obtain⟨l',p,rfl⟩:=ih l e2;exact⟨a::l',p.Κ a,rfl⟩
 |swap x y r=>
  intro l e;cases l with
  |ϟ=>cases e
  |Κ a l=>
   cases l with
   |ϟ=>cases e
   |Κ b l=>
    obtain⟨rfl,e2⟩:=KD.dL e;obtain⟨rfl,rfl⟩:=KD.dL e2;exact⟨b::a::l,.swap a b l,rfl⟩
 |trans _ _ ih1 ih2=>
  intro l e;obtain⟨l1,p1,e1⟩:=ih2 l e;obtain⟨l2,p2,e2⟩:=ih1 l1 e1;exact⟨l2,p2.ν p1,e2⟩
def yE(f:α->ab)(l:ζ α):ζ α:=Classical.choose (WJ (tS (l.ς f)) l rfl)
theorem tT{f:α->ab}(l:ζ α):(yE f l).TH l:=(Classical.TA (WJ (tS (l.ς f)) l rfl)).1
def RA(z:Cx){f:α->ab}{x:ab}{l:ζ α}(hx:w7 h x=Qa (l.ς f))(hl:l.ε<=60)(ok:(∃b,∀a,nB (f a)=Qe/\(f a).Tv.Ψ=b)\/∃k0,∀a,kG (f a)=3/\OP (f a)=Qe::k0):jJ z (.bi wR) [x] h=Qa (.ο h.ε,h++[.ξ ((yE f l).ς f)]):=by
 refine W.eq (Ss (v:=.ο h.ε) (h':=h++[.ξ ((yE f l).ς f)]) ?_ ⟨rfl,rfl⟩);show (w7 h x).Η _=_;rw[hx];have hk:okV (l.ς f)=true:=by
  refine Jn.Ϩ ⟨K3 (by rw[Js];exact hl),?_⟩;cases l with
  |ϟ=>rfl
  |Κ x l=>
   refine K8.Ϩ (ok.imp (λq=>?_) λq=>?_)
   ·obtain⟨b,q⟩:=q
    refine Zn.Ϩ λv hv=>?_;obtain⟨a,_,rfl⟩:=JM.mp hv;show (nB (f a) && (f a).Tv.Ψ==(f x).Tv.Ψ)=Qe;simp only[(q a).1,(q a).2,(q x).2,ϫ];rfl
   ·obtain⟨k0,q⟩:=q
    refine Zn.Ϩ λv hv=>?_;obtain⟨a,_,rfl⟩:=JM.mp hv;show (kG (f a)==3 && decide (OP (f a)=Qe::(OP (f x)).lw))=Qe;simp only[(q a).1,(q a).2,(q x).2];exact Jn.Ϩ ⟨rfl,Ζ rfl⟩
 show aw (okV (l.ς f)) _=_;rw[hk];show Qa (_,h++[.ξ (zF (l.ς f))])=_;rw[show zF (l.ς f)=(yE f l).ς f from(Classical.TA (WJ (tS (l.ς f)) l rfl)).2]
def kvL(ha:h[a]?=Qa (.ξ vs)):w7 h (.ο a)=Qa vs:=by
 delta w7;rw[Dc ha,l8 ha];rfl
def kvD{ep:η θ}(ha:h[a]?=Qa (.Χ ep es)):w7 h (.ο a)=Qa (es.ς (·.1)):=by
 delta w7;rw[nR ha];rfl
section
variable{c:Cx}{h0:MH}
theorem RN{r:DR R}:((kT r).Db λp=>kG p.1==1)=true:=Zn.Ϩ λp hp=>by
 refine(JM.mp hp).ι λx zq2=>?_;refine eqE zq2.2 ?_;rfl
def NM{ep:η θ}{r:DR R}(ha:h[a]?=Qa (.Χ ep (kT r)))(q:Q (.ο h.ε) (h++[.Χ Qc (kT r)])):WV c (.ty Ep) [.ο a] h Q:=by
 refine BF (v:=.ο h.ε) (h':=h++[.Χ Qc (kT r)]) ?_ q;show ba ((lV h (.ο a)).Η λd=>aw (d.2.Db λp=>kG p.1==1) (lX h (.Χ Qc d.2))) _=_;rw[nR ha];show ba (aw ((kT r).Db λp=>kG p.1==1) (lX h (.Χ Qc (kT r)))) _=_;rw[RN];rfl
abbrev iV(n:θ):ab:=.φ (n:Τ)
def kF(r:DR R):ζ θ:=yE iV (jK r)
theorem mJ{r:DR R}:(kF r).TH (jK r):=tT _
theorem yG{r:DR R}:(jK r).ε=r.ε:=Js ..
theorem cA(z:Cx){ep:η θ}{r:DR R}(ha:h[a]?=Qa (.Χ ep (kT r))):jJ z (.ty Ep) [.ο a] h=Qa (.ο h.ε,h++[.Χ Qc (kT r)]):=W.eq (NM ha ⟨rfl,rfl⟩)
theorem eE(z:Cx){ep:η θ}{r:DR R}(ha:h[a]?=Qa (.Χ ep (kT r)))(h2:r.ε<=60):jJ z (.bi wR) [.ο a] h=Qa (.ο h.ε,h++[.ξ ((kF r).ς λn:θ=>ab.φ (n:Τ))]):=
 RA z (f:=iV) ((kvD ha).ν (by delta kT jK;rw[KU,KU];rfl)) (Jm (JC yG) h2) (.nb ⟨Qb,λ_=>⟨rfl,rfl⟩⟩)
def d9(k:θ){ep:η θ}{r:DR R}(ha:h[a]?=Qa (.Χ ep (kT r))):mP .ma (.φ k) (.ο a) h=Qa (decide (k∈jK r)):=by
 show ba ((j6 h (.ο a)).Η _) ((lV h (.ο a)).Η λd=>aw (jN d.2 (.φ k)) (Qa (jO d.2 (.φ k)).Ψ))=_;rw[p8 ha,nR ha];show aw (jN (kT r) (.φ k)) (Qa (jO (kT r) (.φ k)).Ψ)=_;rw[U8,HY];by_cases hk:k∈jK r
 ·rw[ρ hk,Ζ hk];rfl
 ·rw[π hk,Γ hk];rfl
theorem sR{ep:η θ}{r:DR R}(ha:h[a]?=Qa (.Χ ep (kT r)))(hk:k∈jK r):kJ h (.ο a) (.φ k)=Qa (R.e (kC r k)):=sd ha U8 (by rw[HY,ρ hk])
theorem zag(z:Cx){ep:η θ}{r:DR R}(ha:h[a]?=Qa (.Χ ep (kT r))):jJ z (.bi uK) [.ο a] h=Qa (.φ r.ε,h):=W.eq (AN ha ⟨by unfold kT;rw[Js],rfl⟩)
end
section
variable{h0:MH}
structure SX(R:Rg) where
 h:MH
 aT:θ
 n:θ
 p:θ
 K:θ
 Tf:θ->DR R
def lq(X:SX R):Prop:=(∀k,k<X.n->ER X.n X.p X.K k (X.Tf k))/\X.n<=60/\4*(X.p*X.n)+(X.K*X.n+X.n+1)<=3800
section
variable{X:SX R}(ψ:lq X)
def lq.er:=@ψ.1
def lq.n:=@ψ.2.1
def lq.bd:=@ψ.2.2
end
variable{X:SX R}
def mL(X:SX R)(i k:θ)(t:DR R):Prop:=SR X.n X.p X.K i k t/\(∀N B:θ->R.α,(∀s,s<X.n->B s=R.Ϯ (N s) (lZ (X.Tf s) B))->lZ t (bk N B k)=lZ (X.Tf i) B)/\(k<=i->t=X.Tf i)
section
variable{X:SX R}{i k:Nat}{t:DR R}(ψ:mL X i k t)
def mL.sr:=@ψ.1
def mL.ev:=@ψ.2.1
def mL.un:=@ψ.2.2
end
def mL.Ι(O:lq X)(hi:i<X.n):mL X i 0 (X.Tf i):=by
 have E:=O.er i hi;refine⟨⟨E.nd,E.lt,λq hq=>?_⟩,λN B _=>rfl,λ_=>rfl⟩;have h1:i<q.1:=(E.lt _ (JM.Ϩ ⟨q,hq,rfl⟩)).1;exact R.ag (Z2 _ (qaX h1)) (Z2 _ (qaX h1)) (E.dg q hq)
theorem mL.rn{t:DR R}(H:mL X i k t)(hk:k∉jK t):mL X i (k+1) t:=
 ⟨H.sr.Ν (Ze _),λN B e=>(Cm H.sr hk).ν (H.ev N B e),λh=>H.un (JL (KA h))⟩
def mL.step{t t':DR R}{l:ζ θ}(O:lq X)(H:mL X i k t)(hk:k∈jK t)(hl:l.TH (jK (X.Tf k)))(e:t'=F6 (X.Tf k) (kC t k) l t)(D:uw X.n X.p X.K i k [] t'):mL X i (k+1) t':=by
 have hkn:=H.sr.lt k hk;exact⟨⟨D.nd,D.lt,D.dg⟩,λN B q=>by rw[e,Co H.sr (O.er k hkn.2) hl (q k hkn.2) hk];exact H.ev N B q,λh=>υ hkn.1 (Zv (JL (KA h)))⟩
abbrev jy(R:Rg):=MH×ζ (DR R)×η ab×η ab×η ab×η ab×η ab×η ab
section
variable{R:Rg}(ψ:jy R)
abbrev jy.g:=ψ.1
abbrev jy.T:=ψ.2.1
abbrev jy.a:=ψ.2.2.1
abbrev jy.b:=ψ.2.2.2.1
abbrev jy.c:=ψ.2.2.2.2.1
abbrev jy.d:=ψ.2.2.2.2.2.1
abbrev jy.e:=ψ.2.2.2.2.2.2.1
abbrev jy.f:=ψ.2.2.2.2.2.2.2
end
def je(X:SX R)(a b c d e f:η ab):Ρ.Θ:=Qa (.ai (112+R.i))::Qa (.ο X.aT)::Qa (.ο X.h.ε)::a::b::c::d::e::f::nn 6
def UB(X:SX R)(g:MH)(a:θ)(o:ae):Prop:=X.h.ε+X.n<a/\g[a]?=Qa o
section
variable{X:SX R}{g:MH}{a:Nat}{o:ae}(ψ:UB X g a o)
def UB.ge:=@ψ.1
def UB.Hd:=@ψ.2
end
theorem UB.ϩ(B:UB X g a o)(hi:i<X.n):UB X (g.ϩ (X.h.ε+(i+1)) o') a o:=⟨B.ge,jP (by have:=B.ge;exact Ke (Jt (JH (Jv _) (J9 hi)) this)) B.Hd⟩
theorem UB.cu{t:MH}(B:UB X g a o):UB X (g++t) a o:=⟨B.ge,jA B.Hd⟩
abbrev JS(R:Rg):=MH×DR R×η ab
section
variable{R:Rg}(ψ:JS R)
abbrev JS.g:=ψ.1
abbrev JS.t:=ψ.2.1
abbrev JS.b:=ψ.2.2
end
def JP(X:SX R)(T:ζ (DR R))(i k aO aS:θ)(t0:DR R)(j:θ)(s:JS R):Prop:=gg X.h s.g (T.ϩ i s.t)/\s.t=F6 (X.Tf k) (kC t0 k) ((kF (X.Tf k)).ϣ j) t0/\uw X.n X.p X.K i k ((kF (X.Tf k)).bn j) s.t/\UB X s.g aO (.Χ Qc (kT (X.Tf k)))/\UB X s.g aS (.ξ ((kF (X.Tf k)).ς λn:θ=>.φ (n:Τ)))
section
variable{X:SX R}{T:List (DR R)}{i k aO aS:Nat}{t0:DR R}{j:Nat}{s:JS R}(ψ:JP X T i k aO aS t0 j s)
def JP.T:=@ψ.1
def JP.e:=@ψ.2.1
def JP.D:=@ψ.2.2.1
def JP.o:=@ψ.2.2.2.1
def JP.l:=@ψ.2.2.2.2
end
theorem Hg{r:DR R}(h:(jK r).ϥ):(kF r).ϥ:=mJ.nodup_iff.Ϩ h
def pI{l:ζ α}{x:α}(h:l[j]?=Qa x):l.bn j=x::l.bn (j+1):=by
 refine(Jx.mp h).ι λh1 zq1=>?_;refine eqE zq1 ?_;exact Kq h1
def wG{l:ζ α}{x:α}(h:l[j]?=Qa x):l.ϣ (j+1)=l.ϣ j++[x]:=by
 simp only[Ku,h];rfl
theorem uw.ok{P:θ}{l:ζ θ}{t:DR R}(H:uw n p K i k l t)(h1:p*n<=P)(h2:K*n+(k+1)<=K'):rQ n P K' t:=⟨H.nd,λx hx=>(H.lt x hx).2,λq hq=>by
 exact R.ag (Jm (JD _ (by have:q.1<n:=((H.lt _ (JM.Ϩ ⟨q,hq,rfl⟩)).2);exact JL (Kl this):q.1-i<=n)) h1) (Jm (JN (JD _ (by have:q.1<n:=((H.lt _ (JM.Ϩ ⟨q,hq,rfl⟩)).2);exact JL (Kl this):q.1-i<=n)) _) h2) (H.dg q hq)⟩
abbrev jB:ζ Sm:=[.expr (.ϧ (.f8 (.ai 104)) [.Λ 0,.wr (.Λ 2) (.Λ 6),.Λ 8,.az (.Λ 0) qr [.Λ 7,.wr (.Λ 4) (.Λ 8)]])]
def zed(hi:i<k)(hk:k<x)(hx:x<n)(bd:4*(p*n)+(K*n+n+1)<=3800):p*(x-i)<=p*n/\K*(x-i)+k<=K*n+(k+1)/\4*(p*(k-i)+p)+(K*(k-i)+k+K)<=3800/\4*(p*n)+(K*n+(k+1))<=3800:=by
 have e3:p*(k-i)+p<=p*n:=by rw[<-Kv];exact JD _ (J9 (Kl (Zp hk hx)))
 have e4:K*(k-i)+K<=K*n:=by rw[<-Kv];exact JD _ (J9 (Kl (Zp hk hx)))
 exact⟨JD _ (JL (Kl hx)),JH (JD _ (JL (Kl hx)):K*(x-i)<=K*n) (Jq _ _),Jm (JH (JD 4 e3) (Jm (JC (ZG _ _ _)) (J4 (JH e4 (JL (Zp hk hx)))))) bd,Jm (Jp (Jp (J4 (Zp hk hx)) _) _) bd⟩
def zec{T:ζ (DR R)}{t0:DR R}{s:JS R}(hd:5<=d)(O:lq X)(hT:T.ε=X.n)(H:SR X.n X.p X.K i k t0)(hi:i<k)(hk:k∈jK t0)(hx:(kF (X.Tf k))[j]?=Qa x)(P:JP X T i k aO aS t0 j s)
  (q:∀s',JP X T i k aO aS t0 (j+1) s'->R' .nx (je X (vN k) (vR aO) (Qa (R.e R.da)) (vN i) (Qa (R.e (kC t0 k))) s'.b) s'.g):
  bz (ah P0 d) jB (je X (vN k) (vR aO) (Qa (R.e R.da)) (vN i) (Qa (R.e (kC t0 k))) (vN x)) s.g R':=by
 have E:=O.er k (H.lt k hk).2;have hxk:x∈jK (X.Tf k):=mJ.re.mp (Jr hx);have um:=E.lt x hxk;have hin:i<X.n:=Zp hi (H.lt k hk).2;have D:=P.D;rw[pI hx] at D;have nd:=Hg E.nd;rw[<-Kc j (kF (X.Tf k)),pI hx] at nd;have hil:i<(T.ϩ i s.t).ε:=by rw[J0,hT];exact hin
 have hf:=H.xL hk;have hw:R.D X.p X.K (kC (X.Tf k) x):=E.dg _ (wL hxk);have B:=zed (p:=X.p) (K:=X.K) hi um.1 um.2 O.bd;refine(P.T.LT i s.t (JX (by rw[hT];exact hin))).ι λep hr=>?_;refine(GG (d:=d) (j:=x) (w:=R.lv (kC t0 k) (kC (X.Tf k) x)) (n:=X.n) (P:=X.p*X.n) (K:=X.K*X.n+(k+1)) (Jm (by decide) hd) hr (D.ok (Jv _) (Jv _)) (Jm O.n (by decide)) (R.ag B.1 B.2.1 (UW (n:=0) (j:=x) hf hw hi um.1 (Jv _))) B.2.2.2).ι λep' e=>?_;have T':=P.T.ϩ (t':=nK s.t x (R.lv (kC t0 k) (kC (X.Tf k) x))) (ep:=ep') hil;rw[qaV] at T';have N:JP X T i k aO aS t0 (j+1) ⟨_,nK s.t x (R.lv (kC t0 k) (kC (X.Tf k) x)),vN x⟩:=⟨T',by
  show nK s.t x _=_;rw[wG hx];delta F6;rw[YS,P.e];rfl,D.Ϯ ((JK.mp (Kr.mp nd).2.1).1) (Zp hi um.1) um.2 (UW (n:=0) (j:=x) hf hw hi um.1 (Jv _)),P.o.ϩ hin,P.l.ϩ hin⟩
 exact jT (.v ((P.T.su hil:kJ s.g (.ο X.h.ε) (.φ (i:Τ))=Qa (.ο (X.h.ε+(i+1)))))<|.v (sR P.o.Hd hxk)<|.q (R.ti (Jm (by decide) hd) hf hw B.2.2.1)<|.p (e)<|.z (q _ N)) (by kernel_rfl)
end
section
variable{h0:MH}{X:SX R}
def KP(X:SX R)(k i:θ)(s:jy R):Prop:=gg X.h s.g s.T/\s.T.ε=X.n/\∀r t,s.T[r]?=Qa t->mL X r (if r<i then k+1 else k) t
section
variable{X:SX R}{k i:Nat}{s:jy R}(ψ:KP X k i s)
def KP.T:=@ψ.1
def KP.am:=@ψ.2.1
def KP.LT:=@ψ.2.2
end
def IP(X:SX R)(k aO i:θ)(s:jy R):Prop:=KP X k i s/\UB X s.g aO (.Χ Qc (kT (X.Tf k)))
section
variable{X:SX R}{k aO i:Nat}{s:jy R}(ψ:IP X k aO i s)
def IP.K:=@ψ.1
def IP.o:=@ψ.2
end
theorem KP.Ϭ{s s':jy R}(K:KP X k X.n s)(e1:s'.g=s.g)(e2:s'.T=s.T):KP X (k+1) 0 s':=⟨by rw[e1,e2];exact K.T,by rw[e2];exact K.am,λr t h=>by
 rw[e2] at h
 have:=K.LT r t h
 rw[ρ (by rw[<-K.am];exact jI h)] at this;rwa [π (Zb _)]⟩
theorem KP.xx{s s':jy R}{t':DR R}(K:KP X k i s)(hT:gg X.h s'.g s'.T)(e:s'.T=s.T.ϩ i t')(hi:i<X.n)(ht:mL X i (k+1) t'):KP X k (i+1) s':=⟨hT,by rw[e,J0];exact K.am,λr t h=>by
 rw[e] at h;by_cases hr:i=r
 ·subst hr
  rw[JX (by rw[K.am];exact hi)] at h;refine lN h ?_;rw[ρ (JT _)];exact ht
 ·rw[JZ hr] at h
  have:=K.LT r t h
  by_cases h1:r<i
  ·rw[ρ h1] at this;rwa [ρ (Zu h1)]
  ·rw[π h1] at this;rwa [π (Zv (J9 (ZI (Zr h1) hr)))]⟩
def Hh{l:ζ α}{x:α}(h:l[i]?=Qa x):l.ϩ i x=l:=by
 refine(Jx.mp h).ι λh1 zq2=>?_;refine eqE zq2 ?_;exact K4 h1
abbrev iB:ζ Sm:=[.ite (.ft .ma (.Λ 3) (.wr (.Λ 2) (.Λ 6))) [.fm (.nm 7) (.az (.Λ 0) qr [.wr (.wr (.Λ 2) (.Λ 6)) (.Λ 3),.Λ 5]),.fo [8] Qb (.ϧ (.f8 (.bi 126922498794852)) [.Λ 4]) jB] []]
def zfo{s:jy R}{t0:DR R}(hd:5<=d)(O:lq X)(hk:k<X.n)(hi:i<X.n)(hne:X.Tf k≠[])(P:IP X k aO i s)(hie:s.T[i]?=Qa t0)(I:mL X i k t0)(hin:k∈jK t0):
  ∃s',IP X k aO (i+1) s'/\s'.e=Qa (R.e (kC t0 k))/\exec (ah P0 d) (.fo [8] Qb (.ϧ (.f8 (.bi 126922498794852)) [.Λ 4]) jB) (je X (vN k) (vR aO) (Qa (R.e R.da)) (vN i) (Qa (R.e (kC t0 k))) s.f) s.g=Qa ((.nx,je X (vN k) (vR aO) (Qa (R.e R.da)) (vN i) (Qa (R.e (kC t0 k))) s'.f),s'.g):=by
 have hlen:(X.Tf k).ε<=60:=Jm (show rQ X.n X.p X.K (X.Tf k) from⟨(O.er k hk).nd,λx hx=>((O.er k hk).lt x hx).2,(O.er k hk).dg⟩).am O.n;have w:WS (ah P0 d) (.fo [8] Qb (.ϧ (.f8 (.bi 126922498794852)) [.Λ 4]) jB) (je X (vN k) (vR aO) (Qa (R.e R.da)) (vN i) (Qa (R.e (kC t0 k))) s.f) s.g λfl f g=>∃s':JS R,JP X s.T i k aO s.g.ε t0 (kF (X.Tf k)).ε s'/\fl=.nx/\f=je X (vN k) (vR aO) (Qa (R.e R.da)) (vN i) (Qa (R.e (kC t0 k))) s'.b/\g=s'.g:=by
  have e0:WE (ah P0 d) (je X (vN k) (vR aO) (Qa (R.e R.da)) (vN i) (Qa (R.e (kC t0 k))) s.f) (.ϧ (.f8 (.bi 126922498794852)) [.Λ 4]) s.g λv g=>v=.ο s.g.ε/\g=s.g++[.ξ ((kF (X.Tf k)).ς λn:θ=>.φ (n:Τ))]:=by exact j2 (.p (eE (ah P0 d) P.o.Hd hlen)<|.z (cg (.ο s.g.ε) (s.g++[.ξ ((kF (X.Tf k)).ς λn:θ=>.φ (n:Τ))]))) rfl
  refine v9 (a:=s.g.ε) (vs:=(kF (X.Tf k)).ς λn:θ=>.φ (n:Τ)) (λs':JS R=>je X (vN k) (vR aO) (Qa (R.e R.da)) (vN i) (Qa (R.e (kC t0 k))) s'.b) JS.g (JP X s.T i k aO s.g.ε t0) (by rw[(Js .. :((kF (X.Tf k)).ς λn:θ=>ab.φ (n:Τ)).ε=(kF (X.Tf k)).ε)];exact Jt (by rw[mJ.IO,yG];exact hlen:(kF (X.Tf k)).ε<=60) (show 60<200000 by decide)) ⟨s.g++[.ξ ((kF (X.Tf k)).ς λn:θ=>.φ (n:Τ))],t0,s.f⟩ (λj s' P'=>P'.l.Hd) (e0.Ν λv g q=>⟨q.1,rfl,q.2,⟨by rw[Hh hie];exact P.K.T.cu,rfl,I.sr.l _,P.o.cu,⟨Zp P.o.ge (jS P.o.Hd),ak⟩⟩⟩) (λj v s' R2 hv P2 C2=>?_) λs' P'=>⟨s',(Js .. :((kF (X.Tf k)).ς λn:θ=>ab.φ (n:Τ)).ε=(kF (X.Tf k)).ε)▸P',rfl,rfl,rfl⟩;rw[JA] at hv;refine(Za.mp hv).ι λx zq1=>?_;refine eqE zq1.2 ?_;exact kP (zec hd O P.K.am I.sr (I.sr.lt k hin).1 hin zq1.1 P2 C2.nx)
 obtain⟨⟨fl,f⟩,g,e,s',P',q1,q2,q3⟩:=W.xL w;refine eqE q1 ?_;subst q2;subst q3;have D:=P'.D;have e1:=P'.e;rw[Z3] at D;rw[JW] at e1;exact⟨⟨s'.g,s.T.ϩ i s'.t,Qc,Qc,Qc,Qc,Qa (R.e (kC t0 k)),s'.b⟩,⟨P.K.xx P'.T rfl hi (I.step O hin mJ e1 D),P'.o⟩,rfl,e⟩
def zef(hk:k<n)(bd:4*(p*n)+(K*n+n+1)<=3800):4*(p*(k-i)+0)+(K*(k-i)+k+0)<=3800:=by
 exact Jm (JH (JD 4 (JD _ (JL (Kl hk)):p*(k-i)<=p*n)) (J4 (JH (JD _ (JL (Kl hk)):K*(k-i)<=K*n) (JL hk)):K*(k-i)+k<=K*n+n+1)) bd
def zee{s:jy R}(hd:5<=d)(O:lq X)(hk:k<X.n)(hi:i<X.n)(hne:X.Tf k≠[])(P:IP X k aO i s)
  (q:∀s',IP X k aO (i+1) s'->R' .nx (je X (vN k) (vR aO) (Qa (R.e R.da)) (vN i) s'.e s'.f) s'.g):
  bz (ah P0 d) iB (je X (vN k) (vR aO) (Qa (R.e R.da)) (vN i) s.e s.f) s.g R':=by
 have hil:i<s.T.ε:=by rw[P.K.am];exact hi
 have hie:=Jo hil;have I:=P.K.LT i _ hie;rw[π (J3 _)] at I;refine(P.K.T.LT i _ hie).ι λep hr=>?_;cases (ch:At (k∈jK s.T[i])) with
 |isTrue hin=>
  refine(zfo (d:=d) hd O hk hi hne P hie I hin).ι λs' e=>?_;have e1:=R.ti (d:=d) (Jm (by decide) hd) (I.sr.xL hin) R.gr (zef hk O.bd);rw[R.IN,R.one_mul] at e1;exact jT (.v ((P.K.T.su hil))<|.b (d9 k hr)<|.t (Ζ hin)<|.v ((P.K.T.su hil))<|.v (sR hr hin)<|.q (e1)<|.s (e.2.2)<|.z ((show R' .nx (je X (vN k) (vR aO) (Qa (R.e R.da)) (vN i) (Qa (R.e (kC s.T[i] k))) s'.f) s'.g from e.2.1▸q s' e.1))) rfl
 |isFalse hin=>exact jT (.v ((P.K.T.su hil))<|.b (d9 k hr)<|.f (Γ hin)<|.z (q s ⟨P.K.xx (t':=s.T[i]) P.K.T (Hh hie).Μ hi (I.rn hin),P.o⟩)) rfl
end
section
variable{h0:MH}{X:SX R}
def gg.lt{T:ζ (DR R)}(H:gg h g T):h.ε+T.ε<g.ε:=by
 cases e:T.ε with
 |zero=>have:=jS H.Hd;exact KA (J9 this)
 |succ n=>
  refine(H.LT n _ (Jo (KA (JC (XE e))))).ι λep zq1=>?_
  have:=jS zq1;exact this
def gg.ln(z:Cx){T:ζ (DR R)}(H:gg h g T)(hn:T.ε=n):jJ z (.bi uK) [.ο h.ε] g=Qa (.φ n,g):=by rw[FU H.Hd,Js,KY,hn]
theorem KP.fw{s s':jy R}(O:lq X)(K:KP X k 0 s)(e:X.Tf k=[])(e1:gg X.h s'.g s'.T)(e2:s'.T=s.T):KP X (k+1) 0 s':=⟨e1,by rw[e2];exact K.am,λr t h=>by
 rw[e2] at h;have I:=K.LT r t h;rw[π (Zb _)] at I ⊢;by_cases hk:k∈jK t
 ·refine I.step (l:=[]) O hk (by rw[e];exact .ϟ) (by rw[e];rfl) ⟨I.sr.nd,I.sr.lt,(I.sr.Ν (Ze k)).dg,λq _ hq=>υ hq JE⟩
 ·exact I.rn hk⟩
abbrev kB:ζ Sm:=[.fm (.nm 4) (.ϧ (.f8 (.ty 1684628340)) [.wr (.Λ 2) (.Λ 3)]),.ite (.ft .eq (.ϧ (.f8 (.bi 7103854)) [.Λ 4]) (.f8 (.φ 0))) [.cont] [],.fm (.nm 5) (.az (.Λ 0) xe [.az (.Λ 4) 6776180 [.Λ 3,.aq (.Λ 0) lr]]),.fo [6] Qb (.ϧ (.f8 (.ty 491260897125)) [.ϧ (.f8 (.bi 7103854)) [.Λ 2]]) iB]
abbrev xc:Ex:=.ϧ (.f8 (.ty 491260897125)) [.ϧ (.f8 (.bi 7103854)) [.Λ 2]]
theorem zfr{s:jy R}(hd:5<=d)(O:lq X)(hk:k<X.n)(hne:X.Tf k≠[])(P:IP X k aO 0 s):∃s',KP X (k+1) 0 s'/\exec (ah P0 d) (.fo [6] Qb xc iB) (je X (vN k) (vR aO) (Qa (R.e R.da)) s.d s.e s.f) s.g=Qa ((.nx,je X (vN k) (vR aO) (Qa (R.e R.da)) s'.d s'.e s'.f),s'.g):=
 (lm (c:=ah P0 d) (x:=6) (n:=X.n) (e:=xc) (b:=iB) (λs':jy R=>je X (vN k) (vR aO) (Qa (R.e R.da)) s'.d s'.e s'.f) jy.g (IP X k aO) s (Jm O.n (by decide)) rfl (by exact j2 (.p (P.K.T.ln (ah P0 d) P.K.am)<|.c<|.z (cg (.gb X.n) s.g)) (by kernel_rfl)) P λi s' R1 _ hi P1 C1=>zee hd O hk hi hne P1 λs2 P2=>C1.nx ⟨s2.1,s2.2.1,s2.2.2.1,s2.2.2.2.1,s2.2.2.2.2.1,vN i,s2.2.2.2.2.2.2⟩ ⟨⟨P2.K.T,P2.K.am,P2.K.LT⟩,P2.o⟩).ι λs' e=>⟨s',e.1.K.Ϭ rfl rfl,e.2⟩
theorem Rg.st(R:Rg)(hd:3<=d)(h:MH):j1 (ah P0 d) (.ai (112+R.i)) SU [R.e R.Ι] h h=Qa (R.e R.da,h):=W.eq (R.gj hd ⟨rfl,rfl⟩)
def zeb{s:jy R}(hd:6<=d)(O:lq X)(hk:k<X.n)(K:KP X k 0 s)
  (q1:∀s',KP X (k+1) 0 s'->R' .nx (je X (vN k) s'.b s'.c s'.d s'.e s'.f) s'.g) (q2:∀s',KP X (k+1) 0 s'->R' .ct (je X (vN k) s'.b s'.c s'.d s'.e s'.f) s'.g):
  bz (ah P0 d) kB (je X (vN k) s.b s.c s.d s.e s.f) s.g R':=by
 have hkl:k<s.T.ε:=by rw[K.am];exact hk
 have I:=K.LT k _ (Jo hkl);rw[π (Zb _)] at I;refine(K.T.LT k _ (Jo hkl)).ι λep hr=>?_;rw[I.un (Jv _)] at hr;have hlt:=K.T.lt;rw[K.am] at hlt;have o1:UB X (s.g++[.Χ Qc (kT (X.Tf k))]) s.g.ε (.Χ Qc (kT (X.Tf k))):=⟨hlt,ak⟩;cases (ch:At ((X.Tf k).ε=0)) with
 |isTrue hz=>
  have hb:(((X.Tf k).ε:Τ)==0)=true:=by rw[hz];rfl
  exact jT (.v ((K.T.su hkl:kJ s.g (.ο X.h.ε) (.φ (k:Τ))=Qa (.ο (X.h.ε+(k+1)))))<|.p (cA (ah P0 d) hr)<|.p (zag (ah P0 d) o1.Hd)<|.k (tc (X.Tf k).ε 0)<|.t (hb)<|.z (q2 ⟨s.g++[.Χ Qc (kT (X.Tf k))],s.2.1,s.2.2.1,vR s.g.ε,s.2.2.2.2⟩ (K.fw O (ζ.Tr hz) K.T.cu rfl))) rfl
 |isFalse hz=>
  refine(zfr (d:=d) (s:=⟨s.g++[.Χ Qc (kT (X.Tf k))],s.2⟩) (Jm (by decide) hd) O hk (λe=>hz (by rw[e];rfl)) ⟨⟨K.T.cu,K.am,K.LT⟩,o1⟩).ι λs' e=>?_;have eg:=zah (ah P0 d) o1.Hd k;rw[tU λq=>υ ((O.er k hk).lt k q).1 (J3 _)] at eg;exact jT (.v ((K.T.su hkl:kJ s.g (.ο X.h.ε) (.φ (k:Τ))=Qa (.ο (X.h.ε+(k+1)))))<|.p (cA (ah P0 d) hr)<|.p (zag (ah P0 d) o1.Hd)<|.k (tc (X.Tf k).ε 0)<|.f ((Ϟ λe=>hz (KL.mp e):(((X.Tf k).ε:Τ)==0)=Qb))<|.w (R.no)<|.p (eg)<|.q (R.st (d:=d) (Jm (by decide) hd))<|.s (e.2)<|.z (q1 ⟨s'.1,s'.2.1,s'.2.2.1,vR s.g.ε,Qa (R.e R.da),s'.2.2.2.2.2⟩ ⟨e.1.T,e.1.am,e.1.LT⟩)) (by kernel_rfl)
end
section
variable{h0:MH}{X:SX R}
def Sr(X:SX R)(i:θ)(t:DR R):Prop:=rQ X.n (X.p*X.n) (X.K*X.n+X.n+1) t/\(∀N B:θ->R.α,(∀s,s<X.n->B s=R.Ϯ (N s) (lZ (X.Tf s) B))->lZ t N=B i)/\i∈jK t
section
variable{X:SX R}{i:Nat}{t:DR R}(ψ:Sr X i t)
def Sr.ok:=@ψ.1
def Sr.ev:=@ψ.2.1
def Sr.me:=@ψ.2.2
end
theorem SR.ok{P:θ}{t:DR R}(H:SR n p K i k t)(h1:p*n<=P)(h2:K*n+k<=K'):rQ n P K' t:=⟨H.nd,λx hx=>(H.lt x hx).2,λq hq=>by
 have hx:q.1<n:=(H.lt _ (JM.Ϩ ⟨q,hq,rfl⟩)).2;exact R.ag (Jm (JD _ (JL (Kl hx):q.1-i<=n)) h1) (Jm (JN (JD _ (JL (Kl hx):q.1-i<=n)) _) h2) (H.dg q hq)⟩
def mL.done{t:DR R}(ne:R.da≠R.Ι)(hi:i<X.n)(I:mL X i X.n t):Sr X i (nK t i R.da):=by
 refine⟨Ee (I.sr.ok (Jv _) (Jv _)) hi (R.ag (JF _) (JF _) R.gr),λN B e=>?_,?_⟩
 ·rw[WD,R.one_mul,e i hi]
  congr 1
  rw[<-I.ev N B e];exact qQ λx hx=>(ρ (I.sr.lt x hx).2).Μ
 ·delta nK
  rw[π ne];exact(pZ i).Ϩ (.u8 rfl)
def FP(X:SX R)(i:θ)(s:jy R):Prop:=gg X.h s.g s.T/\s.T.ε=X.n/\∀r t,s.T[r]?=Qa t->(i<=r->mL X r X.n t)/\(r<i->Sr X r t)
section
variable{X:SX R}{i:Nat}{s:jy R}(ψ:FP X i s)
def FP.T:=@ψ.1
def FP.am:=@ψ.2.1
def FP.LT:=@ψ.2.2
end
def EV(X:SX R)(g:MH)(T:ζ (DR R)):Prop:=gg X.h g T/\T.ε=X.n/\∀r t,T[r]?=Qa t->Sr X r t
section
variable{X:SX R}{g:MH}{T:List (DR R)}(ψ:EV X g T)
def EV.tb:=@ψ.1
def EV.am:=@ψ.2.1
def EV.LT:=@ψ.2.2
end
theorem Rg.bO(R:Rg)(h:MH):getAttr P0 h (.ai (112+R.i)) FH=Qa (R.e R.da):=Wo.eq (R.yb (Q:=λv _=>v=_) rfl)
theorem zd9(bd:4*(p*n)+(K*n+n+1)<=3800):4*(p*n)+(K*n+n)<=3800:=Jm (JH (Jv _) (Jq _ _)) bd
abbrev bI:ζ Sm:=[.expr (.ϧ (.f8 (.ai 104)) [.Λ 0,.wr (.Λ 2) (.Λ 3),.Λ 3,.aq (.Λ 0) FH])]
def zeh{s:jy R}(hd:5<=d)(O:lq X)(ne:R.da≠R.Ι)(hk:k<X.n)(P:FP X k s)(q:∀s',FP X (k+1) s'->R' .nx (je X s'.a s'.b s'.c s'.d s'.e s'.f) s'.g):bz (ah P0 d) bI (je X (vN k) s.b s.c s.d s.e s.f) s.g R':=by
 have hkl:k<s.T.ε:=by rw[P.am];exact hk
 have hke:=Jo hkl;refine(P.T.LT k _ hke).ι λep hr=>?_;refine(GG (d:=d) (j:=k) (n:=X.n) (P:=X.p*X.n) (K:=X.K*X.n+X.n) (w:=R.da) (Jm (by decide) hd) hr (((P.LT k _ hke).1 (Jv _)).sr.ok (Jv _) (Jv _)) (Jm O.n (by decide)) (R.ag (JF _) (JF _) R.gr) (zd9 O.bd)).ι λep' e=>?_;have N:FP X (k+1) ⟨_,s.T.ϩ k (nK s.T[k] k R.da),vN k,s.b,s.c,s.d,s.e,s.f⟩:=⟨P.T.ϩ hkl (ep:=ep'),by rw[J0];exact P.am,λr t ht=>by
  by_cases e:k=r
  ·subst e
   rw[JX hkl] at ht;refine lN ht ?_;exact⟨λh=>υ h (Ys _),λ_=>((P.LT k _ hke).1 (Jv _)).done ne hk⟩
  ·rw[JZ e] at ht
   have:=P.LT r t ht
   exact⟨λh=>this.1 (XJ h),λh=>this.2 (ZI (J7 h) (Ki e))⟩⟩
 exact jT (.v ((P.T.su hkl:kJ s.g (.ο X.h.ε) (.φ (k:Τ))=Qa (.ο (X.h.ε+(k+1)))))<|.w (R.bO)<|.p (e)<|.z (q _ N)) rfl
abbrev Cr(X:SX R):MH:=X.h++.ξ ((J5 (X.h.ε+1) X.n).ς .ο)::(Zk X.n).ς λi=>ae.Χ Qc (kT (X.Tf i))
def Ox(O:lq X)(T0:yY X.h X.aT ((Zk X.n).ς X.Tf)):eval (ah P0 d) (.comp (.ϧ (.f8 (.ty 1684628340)) [.Λ 9]) [9] Qb (.Λ 1) []) (Qa (.ai (112+R.i))::Qa (.ο X.aT)::nn 13) X.h=Qa (.ο X.h.ε,Cr X):=by
 refine T0.x.ι λrs zq7=>?_;have a2:=zq7.2.1;rw[Js,Zm] at a2;have hl:(rs.ς ab.ο).ε=X.n:=by rw[Js,a2]
 refine W.eq (Wl (a:=X.aT) (vs:=rs.ς .ο) (λi=>.Χ Qc (kT (X.Tf i))) (by rw[hl];exact Jt O.n (show 60<200000 by decide)) (by rw[hl];exact Jm O.n (by decide)) (qL rfl ⟨rfl,zq7.1,λi v t hv=>?_,by rw[hl];exact⟨rfl,rfl⟩⟩));refine(pD hv).ι λr zq6=>?_;refine eqB zq6.2 ?_;have hi:i<X.n:=by rw[<-a2];exact jI zq6.1
 refine(zq7.2.2 i r (X.Tf i) zq6.1 (by rw[JA,ZW hi];rfl)).ι λep zq5=>?_;exact j2 (.p (cA (ah P0 d) (jA (t:=t) zq5))<|.z (cg (.ο (X.h++t).ε) (X.h++t++[.Χ Qc (kT (X.Tf i))]))) rfl
def c6(O:lq X):KP X 0 0 ⟨Cr X,(Zk X.n).ς X.Tf,Qc,Qc,Qc,Qc,Qc,Qc⟩:=by
 have ln:((Zk X.n).ς X.Tf).ε=X.n:=by rw[Js,Zm]
 refine⟨AY (ep:=λ_=>Qc),ln,λr t ht=>?_⟩;rw[π (Zb _)];have hr:r<X.n:=by rw[<-ln];exact jI ht
 rw[JA,ZW hr] at ht;refine lN ht ?_;exact mL.Ι O hr
theorem zfi(hd:6<=d)(O:lq X):∃s:jy R,KP X X.n 0 s/\exec (ah P0 d) (.fo [3] Qb xc kB) (je X Qc Qc Qc Qc Qc Qc) (Cr X)=Qa ((.nx,je X s.a s.b s.c s.d s.e s.f),s.g):=
 lm (c:=ah P0 d) (x:=3) (n:=X.n) (e:=xc) (b:=kB) (λs:jy R=>je X s.a s.b s.c s.d s.e s.f) jy.g (λk s=>KP X k 0 s) ⟨Cr X,(Zk X.n).ς X.Tf,Qc,Qc,Qc,Qc,Qc,Qc⟩ (Jm O.n (by decide)) rfl (by exact j2 (.p ((c6 O).T.ln (ah P0 d) (c6 O).am)<|.c<|.z (cg (.gb X.n) (Cr X))) (by kernel_rfl)) (c6 O) λk s R1 _ hk P1 C1=>zeb hd O hk P1 (λs' P'=>C1.nx ⟨s'.1,s'.2.1,vN k,s'.2.2.2⟩ ⟨P'.T,P'.am,P'.LT⟩) λs' P'=>C1.ct ⟨s'.1,s'.2.1,vN k,s'.2.2.2⟩ ⟨P'.T,P'.am,P'.LT⟩
theorem zfF{s:jy R}(hd:6<=d)(O:lq X)(ne:R.da≠R.Ι)(K:KP X X.n 0 s):∃s':jy R,FP X X.n s'/\exec (ah P0 d) (.fo [3] Qb xc bI) (je X s.a s.b s.c s.d s.e s.f) s.g=Qa ((.nx,je X s'.a s'.b s'.c s'.d s'.e s'.f),s'.g):=
 lm (c:=ah P0 d) (x:=3) (n:=X.n) (e:=xc) (b:=bI) (λs:jy R=>je X s.a s.b s.c s.d s.e s.f) jy.g (λk s=>FP X k s) s (Jm O.n (by decide)) rfl (by exact j2 (.p (K.T.ln (ah P0 d) K.am)<|.c<|.z (cg (.gb X.n) s.g)) (by kernel_rfl)) ⟨K.T,K.am,λr t ht=>⟨λ_=>by
  have:=K.LT r t ht
  rwa [π (Zb _)] at this,λh=>υ h (Zb _)⟩⟩ λk s R1 _ hk P1 C1=>zeh (Jm (by decide) hd) O ne hk P1 C1.nx
def Ow(hd:7<=d)(O:lq X)(ne:R.da≠R.Ι)(T0:yY X.h X.aT ((Zk X.n).ς X.Tf)):∃t,jJ (ah P0 d) (.ai 107) [.ai (112+R.i),.ο X.aT] X.h=Qa (.ο X.h.ε,X.h++t)/\∃T,EV X (X.h++t) T:=by
 have w:WF P0 d 107 [.ai (112+R.i),.ο X.aT] X.h λv g=>v=.ο X.h.ε/\∃s:jy R,g=s.g/\FP X X.n s:=by
  exact j7 (K:=6) hd (Qa (.ai (112+R.i))::Qa (.ο X.aT)::nn 13) uY rfl λd' h'=>(zfi (d:=d') h' O).ι λs a=>(zfF (d:=d') h' O ne a.1).ι λs' b=>jT (.p (Ox (d:=d') O T0)<|.s (a.2)<|.s (b.2)<|.z ((show ab.ο X.h.ε=.ο X.h.ε/\∃s2:jy R,s'.g=s2.g/\FP X X.n s2 from⟨rfl,s',rfl,b.1⟩))) rfl
 obtain⟨v,g,e,rfl,s,rfl,P⟩:=W.xL (l5 (P:=P0) rfl w);obtain⟨t,ht⟩:=P.T.Ch;rw[ht] at e;exact⟨t,e,s.T,ht▸P.T,P.am,λr t ht=>(P.LT r t ht).2 (by rw[<-P.am];exact jI ht)⟩
end
section
variable{h0:MH}{X:SX R}
def NB(X:SX R)(N B:θ->R.α):Prop:=∀s,s<X.n->B s=R.Ϯ (N s) (lZ (X.Tf s) B)
abbrev RS(R:Rg):=MH×ζ R.α×η ab×η ab
section
variable{R:Rg}(ψ:RS R)
abbrev RS.g:=ψ.1
abbrev RS.V:=ψ.2.1
abbrev RS.b:=ψ.2.2.1
abbrev RS.c:=ψ.2.2.2
end
def RX(X:SX R)(h:MH)(aR aS:θ)(T:ζ (DR R))(row:ζ R.α)(P K:θ):Prop:=lq X/\h[aR]?=Qa (.ξ (row.ς R.e))/\row.ε=X.n/\(∀x∈row,R.D P K x)/\yY h aS T/\T.ε=X.n/\(∀r t,T[r]?=Qa t->Sr X r t)/\4*(P+X.p*X.n)+(K+(X.K*X.n+X.n+1)+X.n)<=3800
section
variable{X:SX R}{h:MH}{aR aS:Nat}{T:List (DR R)}{row:List R.α}{P K:Nat}(ψ:RX X h aR aS T row P K)
def RX.O:=@ψ.1
def RX.rR:=@ψ.2.1
def RX.am:=@ψ.2.2.1
def RX.dg:=@ψ.2.2.2.1
def RX.tb:=@ψ.2.2.2.2.1
def RX.tl:=@ψ.2.2.2.2.2.1
def RX.tr:=@ψ.2.2.2.2.2.2.1
def RX.bd:=@ψ.2.2.2.2.2.2.2
end
def RP(X:SX R)(h:MH)(row:ζ R.α)(P K i:θ)(s:RS R):Prop:=(∃t,s.g=h++t)/\s.g[h.ε+1]?=Qa (.ξ (s.V.ς R.e))/\s.V.ε=X.n/\(∀N B,NB X N B->R.Ϯ (jM s.V N 0) (jM (row.bn i) B i)=jM row B 0)/\∀x∈s.V,R.D (P+X.p*X.n) (K+(X.K*X.n+X.n+1)+i) x
section
variable{X:SX R}{h:MH}{row:List R.α}{P K i:Nat}{s:RS R}(ψ:RP X h row P K i s)
def RP.Ch:=@ψ.1
def RP.Hd:=@ψ.2.1
def RP.am:=@ψ.2.2.1
def RP.ev:=@ψ.2.2.2.1
def RP.dg:=@ψ.2.2.2.2
end
def RJ(X:SX R)(h:MH)(row:ζ R.α)(P K i aL:θ)(y:R.α)(t:DR R)(j:θ)(s:RS R):Prop:=(∃t,s.g=h++t)/\s.g[h.ε+1]?=Qa (.ξ (s.V.ς R.e))/\s.V.ε=X.n/\(∀N B,NB X N B->R.Ϯ (jM s.V N 0) (R.Ϯ (R.lv y (pO (((kF t).bn j).ς λx=>R.lv (kC t x) (N x)))) (jM (row.bn (i+1)) B (i+1)))=jM row B 0)/\(∀x∈s.V,R.D (P+X.p*X.n) (K+(X.K*X.n+X.n+1)+(i+1)) x)/\(∀(m:θ) x,s.V[m]?=Qa x->m∈(kF t).bn j->R.D (P+X.p*X.n) (K+(X.K*X.n+X.n+1)+i) x)/\h.ε+1<aL/\s.g[aL]?=Qa (.ξ ((kF t).ς λn:θ=>.φ (n:Τ)))
section
variable{X:SX R}{h:MH}{row:List R.α}{P K i aL:Nat}{y:R.α}{t:DR R}{j:Nat}{s:RS R}(ψ:RJ X h row P K i aL y t j s)
def RJ.Ch:=@ψ.1
def RJ.Hd:=@ψ.2.1
def RJ.am:=@ψ.2.2.1
def RJ.ev:=@ψ.2.2.2.1
def RJ.dg:=@ψ.2.2.2.2.1
def RJ.dl:=@ψ.2.2.2.2.2.1
def RJ.ge:=@ψ.2.2.2.2.2.2.1
def RJ.l:=@ψ.2.2.2.2.2.2.2
end
def qo(R:Rg)(h:MH)(aR aS:θ)(b c:η ab):Ρ.Θ:=Qa (.ai (112+R.i))::Qa (.ο aR)::Qa (.ο aS)::Qa (.ο (h.ε+1))::b::c::nn 6
abbrev zm:ζ Sm:=[.fm (.sb (.Λ 3) (.Λ 5)) (.az (.Λ 0) xf [.wr (.Λ 3) (.Λ 5),.az (.Λ 0) qr [.wr (.Λ 1) (.Λ 4),.wr (.wr (.Λ 2) (.Λ 4)) (.Λ 5)]])]
variable{aR aS:Nat}{T:List (DR R)}{row:List R.α}{P K:Nat}
def yY.su{T:ζ (DR R)}{t:DR R}(H:yY g aT T)(ht:T[i]?=Qa t):∃r ep,kJ g (.ο aT) (.φ (i:Τ))=Qa (.ο r)/\g[r]?=Qa (.Χ ep (kT t)):=by
 refine H.x.ι λrs zq3=>?_;have hi:i<rs.ε:=by rw[zq3.2.1];exact jI ht
 obtain⟨ep,e⟩:=zq3.2.2 i _ t (Jo hi) ht;exact⟨_,ep,sl (i:=i) zq3.1 (qT (Jo hi)),e⟩
theorem zei{P:θ}(hi:i<n)(bd:4*(P+p*n)+(K+(K'*n+n+1)+n)<=3800):4*(P+p*n)+(K+(K'*n+n+1))<=3800/\4*(P+p*n)+(K+(K'*n+n+1)+i)<=3800:=⟨Jm (JH (Jv _) (Jq _ _)) bd,JL (Jw (Zw (Zw hi _) _) bd)⟩
def RJ.put{y v:R.α}{t:DR R}{s:RS R}(I:RJ X h row P K i aL y t j s)(hx:(kF t)[j]?=Qa x)(hxd:x∉ (kF t).bn (j+1))(hVe:s.V[x]?=Qa v)(hv:R.D (P+X.p*X.n) (K+(X.K*X.n+X.n+1)+i) v)(hm:R.D (P+X.p*X.n) (K+(X.K*X.n+X.n+1)) (R.lv y (kC t x))):
  RJ X h row P K i aL y t (j+1) ⟨s.g.ϩ (h.ε+1) (.ξ ((s.V.ϩ x (R.Ϯ v (R.lv y (kC t x)))).ς R.e)),s.V.ϩ x (R.Ϯ v (R.lv y (kC t x))),Qc,vN x⟩:=by
 refine I.Ch.ι λtl zq1=>?_;refine⟨⟨_,by show s.g.ϩ _ _=_;rw[zq1];exact sG (Ze _)⟩,j8 I.Hd,by show (s.V.ϩ _ _).ε=_;rw[J0];exact I.am,λN B e=>?_,λz hz=>?_,λm z hz hm=>?_,I.ge,jP (λe=>υ (e▸I.ge) (J3 _)) I.l⟩
 ·simp only[<-I.ev N B e,<-(by unfold lW;rw[hVe];rfl:lW s.V x (R.lv y (kC t x))=s.V.ϩ x (R.Ϯ v (R.lv y (kC t x)))),Ga (jI hVe),pI hx,JY,jQ,R.No,ZK,<-R.w9,R.Ϧ,R.Ϧ,R.swap]
 ·exact(Z6 hz).ι (I.dg z) λe=>e▸(R.fz hv (R.ag (Jv _) (Jq _ _) hm):R.D (P+X.p*X.n) (K+(X.K*X.n+X.n+1)+(i+1)) (R.Ϯ v (R.lv y (kC t x))))
 ·rw[JZ (λe=>hxd (e▸hm):x≠m)] at hz
  exact I.dl m z hz (by rw[pI hx];exact .lw _ hm)
def zbm{y:R.α}{t:DR R}{s:RS R}(hd:4<=d)(C:RX X h aR aS T row P K)(hy:row[i]?=Qa y)(ht:T[i]?=Qa t)(hx:(kF t)[j]?=Qa x)(I:RJ X h row P K i aL y t j s)
  (q:∀s',RJ X h row P K i aL y t (j+1) s'->R' .nx (qo R h aR aS (vN i) s'.c) s'.g):bz (ah P0 d) zm (qo R h aR aS (vN i) (vN x)) s.g R':=by
 have D:=C.tr i t ht;have hxk:x∈jK t:=mJ.re.mp (Jr hx);have hVe:=VC (l:=s.V) (s:=x) (by rw[I.am];exact D.ok.lt x hxk);have nd:=Hg D.ok.nd;rw[<-Kc j (kF t),pI hx] at nd;have hDy:=C.dg y (Jr hy);have B:=zei (by rw[<-C.am];exact jI hy:i<X.n) C.bd;have d3:3<=d:=Jm (by decide) hd;exact I.Ch.ι λtl eg=>(yY.su (g:=s.g) (eg▸C.tb.cu) ht).ι λr w=>w.ι λep w=>jT (.v (sl I.Hd (rX hVe))<|.v (sl (eg▸jA C.rR:s.g[aR]?=Qa (.ξ (row.ς R.e))) (rX hy))<|.v (w.1)<|.v (sR w.2 hxk)<|.q (R.ti d3 hDy (D.ok.xL x) B.1)<|.q (R.pl d3 (I.dl x _ hVe (by rw[pI hx];exact .mo _)) (R.ag (Jv _) (Jq _ _) (R.dp hDy (D.ok.xL x))) B.2)<|.h ((zbe (R.Ϯ (at' s.V x) (R.lv y (kC t x))) I.Hd (jI hVe)))<|.z (q _ (I.put hx ((JK.mp (Kr.mp nd).2.1).1) hVe (I.dl x _ hVe (by rw[pI hx];exact .mo _)) (R.dp hDy (D.ok.xL x))))) rfl
end
variable{T:List (DR R)}
section
variable{h0:MH}{X:SX R}{row:List R.α}{P:Nat}
abbrev dG:ζ Sm:=[.ite (.ft .ne (.wr (.Λ 1) (.Λ 4)) (.aq (.Λ 0) lr)) [.fo [5] Qb (.ϧ (.f8 (.bi 126922498794852)) [.wr (.Λ 2) (.Λ 4)]) zm] []]
def RP.Ϭ{s s':RS R}(I:RP X h row P K i s)(e1:s'.g=s.g)(e2:s'.V=s.V)(hi:row[i]?=Qa R.Ι):RP X h row P K (i+1) s':=by
 refine(Jx.mp hi).ι λh1 zq3=>?_;refine⟨by rw[e1];exact I.Ch,by rw[e1,e2];exact I.Hd,by rw[e2];exact I.am,λN B e=>?_,λx hx=>R.ag (Jv _) (Ze _) (I.dg x (e2▸hx))⟩;simp only[e2,<-I.ev N B e,yS h1,zq3,R.v4,R.Ϛ]
def zbo{y:R.α}{t:DR R}{s:RS R}(hd:4<=d)(C:RX X h aR aS T row P K)(hy:row[i]?=Qa y)(ht:T[i]?=Qa t)(I:RP X h row P K i s):∃s':RS R,RP X h row P K (i+1) s'/\exec (ah P0 d) (.fo [5] Qb (.ϧ (.f8 (.bi 126922498794852)) [.wr (.Λ 2) (.Λ 4)]) zm) (qo R h aR aS (vN i) s.c) s.g=Qa ((.nx,qo R h aR aS (vN i) s'.c),s'.g):=by
 have D:=C.tr i t ht;refine I.Ch.ι λtl eg=>(yY.su (g:=s.g) (eg▸C.tb.cu) ht).ι λr w=>w.ι λep w=>?_;have hlen:=Jm D.ok.am C.O.n;have hvl:((kF t).ς λn:θ=>ab.φ (n:Τ)).ε=(kF t).ε:=Js ..;have W1:WS (ah P0 d) (.fo [5] Qb (.ϧ (.f8 (.bi 126922498794852)) [.wr (.Λ 2) (.Λ 4)]) zm) (qo R h aR aS (vN i) s.c) s.g λfl f g=>∃s':RS R,RJ X h row P K i s.g.ε y t (kF t).ε s'/\fl=.nx/\f=qo R h aR aS (vN i) s'.c/\g=s'.g:=by
  refine v9 (a:=s.g.ε) (vs:=(kF t).ς λn:θ=>.φ (n:Τ)) (λs':RS R=>qo R h aR aS (vN i) s'.c) RS.g (RJ X h row P K i s.g.ε y t) (by rw[hvl];exact Jt (by rw[mJ.IO,yG];exact hlen:(kF t).ε<=60) (show 60<200000 by decide)) ⟨s.g++[.ξ ((kF t).ς λn:θ=>.φ (n:Τ))],s.V,Qc,s.c⟩ (λj s' P'=>P'.l) ((by exact j2 (.v (w.1)<|.p (eE (ah P0 d) w.2 hlen)<|.z (cg (.ο s.g.ε) (s.g++[.ξ ((kF t).ς λn:θ=>.φ (n:Τ))]))) rfl:WE (ah P0 d) (qo R h aR aS (vN i) s.c) (.ϧ (.f8 (.bi 126922498794852)) [.wr (.Λ 2) (.Λ 4)]) s.g λv g=>v=.ο s.g.ε/\g=s.g++[.ξ ((kF t).ς λn:θ=>.φ (n:Τ))]).Ν λv g q=>⟨q.1,rfl,q.2,⟨tl++[.ξ ((kF t).ς λn:θ=>.φ (n:Τ))],by show s.g++_=_;rw[eg,JB]⟩,jA I.Hd,I.am,λN B e=>?_,λx hx=>R.ag (Jv _) (Ze _) (I.dg x hx),λm x hx _=>I.dg x (Jr hx),(jS I.Hd),ak⟩) (λj v s' R2 hv P2 C2=>?_) λs' P'=>⟨s',hvl▸P',rfl,rfl,rfl⟩
  ·obtain⟨h1,h2⟩:=Jx.mp hy
   simp only[<-I.ev N B e,yS h1,h2,ζ.drop_zero,UM mJ D.ok.nd,D.ev N B e]
  ·rw[JA] at hv
   refine(Za.mp hv).ι λx zq1=>?_;refine eqE zq1.2 ?_;exact kP (zbm hd C hy ht zq1.1 P2 C2.nx)
 obtain⟨⟨fl,f⟩,g,e,s',P2,q1,q2,q3⟩:=W.xL W1;refine eqE q1 ?_;subst q2;subst q3;refine⟨s',⟨P2.Ch,P2.Hd,P2.am,λN B hNB=>?_,P2.dg⟩,e⟩;rw[<-P2.ev N B hNB,Z3];show _=R.Ϯ _ (R.Ϯ (R.lv y R.Ι) _);rw[R.xz,R.Ϛ]
def zbn{s:RS R}(hd:4<=d)(C:RX X h aR aS T row P K)(hi:i<X.n)(I:RP X h row P K i s)
  (q:∀s',RP X h row P K (i+1) s'->R' .nx (qo R h aR aS (vN i) s'.c) s'.g):bz (ah P0 d) dG (qo R h aR aS (vN i) s.c) s.g R':=by
 have hy:=VC (l:=row) (s:=i) (by rw[C.am];exact hi);have rR:s.g[aR]?=Qa (.ξ (row.ς R.e)):=I.Ch.ι λtl eg=>eg▸jA C.rR;cases hq:R.gi (at' row i) R.Ι with
 |isTrue hz=>
  have hf:(!@decide (at' row i=R.Ι) (R.gi _ _))=false:=by rw[R.yes hz];rfl
  exact jT (.v (sl rR (rX hy))<|.w (R.no)<|.k (R.qn (at' row i) R.Ι)<|.f (hf)<|.z (q s (I.Ϭ rfl rfl (hy.ν (χ Qa hz))))) rfl
 |isFalse hz=>
  have hf:(!@decide (at' row i=R.Ι) (R.gi _ _))=true:=by rw[R.not hz];rfl
  refine(zbo (d:=d) hd C hy (Jo (l:=T) (i:=i) (by rw[C.tl];exact hi)) I).ι λs' e=>?_;exact jT (.v (sl rR (rX hy))<|.w (R.no)<|.k (R.qn (at' row i) R.Ι)<|.t (hf)<|.s (e.2)<|.z (q s' e.1)) rfl
abbrev xb(R:Rg)(h:MH)(n:θ):MH:=h++[.ξ [R.e R.Ι]]++[.ξ ((jV R n).ς R.e)]
def wK(hd:5<=d)(C:RX X h aR aS T row P K)
  (q:∀t V,(h++t)[h.ε+1]?=Qa (.ξ (V.ς R.e))->V.ε=X.n->(∀x∈V,R.D (P+X.p*X.n) (K+(X.K*X.n+X.n+1)+X.n) x)->(∀N B,NB X N B->jM V N 0=jM row B 0)->Q (.ο (h.ε+1)) (h++t)):WF P0 d 132 [.ai (112+R.i),.ο aR,.ο aS] h Q:=by
 refine j7 (K:=4) hd (Qa (.ai (112+R.i))::Qa (.ο aR)::Qa (.ο aS)::nn 9) o6 rfl λd' h'=>?_;have e1:(h++[ae.ξ [R.e R.Ι]]).ε=h.ε+1:=by rw[Ju];rfl
 have em:=R.yk h (n:=X.n) (Jm C.O.n (by decide));rw[e1] at em;have ln:(row.ς R.e).ε=X.n:=by rw[Js,C.am]
 have len1:jJ (ah P0 d') (.bi uK) [.ο aR] (h++[.ξ [R.e R.Ι]])=Qa (.φ X.n,h++[.ξ [R.e R.Ι]]):=by rw[FU (jA C.rR),ln]
 refine(lm (c:=ah P0 d') (x:=4) (n:=X.n) (e:=.ϧ (.f8 (.ty 491260897125)) [.ϧ (.f8 (.bi 7103854)) [.Λ 1]]) (b:=dG) (λs:RS R=>qo R h aR aS s.b s.c) RS.g (RP X h row P K) ⟨xb R h X.n,jV R X.n,Qc,Qc⟩ (Jm C.O.n (by decide)) rfl (by exact j2 (.p ((by rw[FU (jA (jA C.rR):(xb R h X.n)[aR]?=Qa (.ξ (row.ς R.e))),ln]:jJ (ah P0 d') (.bi uK) [.ο aR] (xb R h X.n)=Qa (.φ X.n,xb R h X.n)))<|.c<|.z (cg (.gb X.n) (xb R h X.n))) (by kernel_rfl)) (⟨⟨_,JB ..⟩,by rw[<-e1];exact ak,zlen,λN B _=>by rw[kH,R.Ϛ];rfl,λx hx=>by rw[Zc hx];exact R.ag (JF _) (JF _) R.bx⟩:RP X h row P K 0 ⟨xb R h X.n,jV R X.n,Qc,Qc⟩) λi s R1 _ hi P1 C1=>zbn h' C hi P1 λs' P'=>C1.nx ⟨s'.1,s'.2.1,vN i,s'.2.2.2⟩ ⟨P'.Ch,P'.Hd,P'.am,P'.ev,P'.dg⟩).ι λs e=>e.1.Ch.ι λt ht=>?_;have e2:=e.2;rw[ht] at e2;have ev:=e.1.ev;rw[<-C.am,Z3] at ev;exact jT (.w (R.no)<|.p (len1)<|.p (em)<|.s (e2)<|.z (q t s.V (ht▸e.1.Hd) e.1.am e.1.dg λN B hN=>(R.ui _).Μ.ν (ev N B hN))) rfl
end
section
variable{h0:MH}
abbrev sX(g:MH)(aT:θ)(M:Mc R.α)(p K:θ):SX R:=⟨g,aT,M.aa.ε,p,K,λs=>l6 (bp M s)⟩
theorem Cd:nH M M.aa.ε 0=(Zk M.aa.ε).ς λs=>l6 (bp M s):=ZV λs hs=>by
 delta vH;rw[ρ (KG.mp hs)]
def CM(I:ao R h L M)(G:kI M p k)(U:nf M)(hn:M.aa.ε<=60)(hK:k+M.ax<=K)(bd:4*(p*M.aa.ε)+(K*M.aa.ε+M.aa.ε+1)<=3800):lq (sX g aT M p K):=by
 refine⟨λs hs=>?_,hn,bd⟩;have hx:=zda (Jo hs);obtain⟨ok,up⟩:=UK (R:=R) (n:=M.aa.ε) (p:=p) (k:=k) (s:=s) (xs:=M.aa[s]) λc hc=>by
  exact⟨(G.fy _ (Zg hs) c hc).1,(G.fy _ (Zg hs) c hc).2.2.2.1,λq=>U s _ (Jo hs) c hc q⟩
 simp only[hx]
 have:=I.cr _ (Zg hs)
 exact⟨ok.nd,λx hx=>⟨up x hx,ok.lt x hx⟩,λq hq=>R.ag (Jv _) (by show _<=K;exact Jm (Jp this _) hK) (ok.dg q hq)⟩
theorem zfw(hd:2<=d)(I:ao R h L M):j1 (ah P0 d) (.ο L.m) 1925483444799026525305 [] h h=Qa (.ϝ (M.aa.any λr=>r.any Ar.fq),h):=me (kY I.fb rfl rfl) (Ry hd I ⟨rfl,rfl⟩)
inductive zf(M:Mc R.α)(p K:θ)(h:MH)(v:ab)(g:MH):Prop
 |no(e:Hr M)(hv:v=.Δ)(hg:g=h):zf M p K h v g
 |so(t1 t2:MH)(T:ζ (DR R))(S:EV (sX (h++t1) h.ε M p K) (h++t1++t2) T)(hv:v=.ο (h++t1).ε)(hg:g=h++t1++t2):zf M p K h v g
theorem zfH(hd:8<=d)(I:ao R h L M)(hE:Hr M):jJ (ah P0 d) (.ai 131) [.ο L.m] h=Qa (.Δ,h):=
 W.eq (l5 (P:=P0) rfl (j7 (K:=7) hd (Qa (.ο L.m)::nn 6) l7 rfl λd' h'=>jT (.p (zfw (Jm (by decide) h':2<=d') I)<|.c<|.t (nF hE)<|.z (cg .Δ h)) (by kernel_rfl)))
def ML(hd:8<=d)(I:ao R h L M)(G:kI M p k)(U:nf M)(ne:R.da≠R.Ι)(hn:M.aa.ε<=60)(hK:k+M.ax<=K)(bd:4*(p*M.aa.ε)+(K*M.aa.ε+M.aa.ε+1)<=3800)(bd2:4*p+(k+300)<=3800):
  ∃v g,jJ (ah P0 d) (.ai 131) [.ο L.m] h=Qa (v,g)/\zf M p K h v g:=by
 refine rY (M.aa.any λr=>r.any Ar.fq) (λhE=>?_) λhE=>⟨_,_,zfH hd I hE,.no hE rfl rfl⟩;have w:WF P0 d 131 [.ο L.m] h (zf M p K h):=by
  refine j7 (K:=7) hd (Qa (.ο L.m)::nn 6) l7 rfl λd' h'=>?_;refine xEEAA (W.xL (l5 (P:=P0) (d:=d') rfl (Ce (Q:=λv g=>v=.ο h.ε/\∃t,g=h++t/\gg h (h++t) (nH M M.aa.ε 0)) (Jm (by decide) h') I G U bd2 λt T=>⟨rfl,t,rfl,T⟩))) λv g e cw iq=>?_;refine xEA iq λt qi T=>?_;subst cw;subst qi;exact(Ow (d:=d') (X:=sX (h++t) h.ε M p K) h' (CM I G U hn hK bd) ne (Cd▸T.r)).ι λt2 a=>a.2.ι λT2 S=>jT (.p (zfw (Jm (by decide) h':2<=d') I)<|.c<|.f (nT hE)<|.v (lU I)<|.p (e)<|.p (a.1)<|.z ((show zf M p K h (.ο (h++t).ε) (h++t++t2) from .so t t2 T2 S rfl rfl))) (by kernel_rfl)
 exact(W.xL (l5 (P:=P0) rfl w)).ι λv zq1=>zq1.ι λg zq2=>⟨v,g,zq2.1,zq2.2⟩
end
section
variable{h0:MH}
theorem zax{l:ζ θ}(H:VL M)(hi:i<=u.ε)(hj:j<=l.ε):NB (sX g aT M p K) (xT M (Bv M u l) u l i j) (Bv M u l i j):=λs hs=>by
 simp only[NG H hi hj,vX,DJ]
def zey{L':Ly}{T:Mc R.α}{l:ζ θ}{S:ζ (DR R)}(H:VL T)(O:lq (sX g aT T p K))(Z:EV (sX g aT T p K) g0 S)(h1:p*T.aa.ε<=pS)(h2:K*T.aa.ε+T.aa.ε+1+T.aa.ε<=kS):
  Ls (wX g0 L' T u l (.ο g.ε) pW kW p k pS kS):=by
 refine⟨.u8 ⟨_,rfl⟩,(λe=>nomatch e),λaT' e {d P K' aR g1 row Q} hd hg hR hl hD hb q=>?_⟩;have e:g.ε=aT':=by
  injection (e:ab.ο g.ε=.ο aT')
 refine eqE e ?_;obtain⟨t,rfl⟩:=hg;refine wK (X:=sX g aT T p K) (T:=S) (P:=P) (K:=K') hd ⟨O,hR,hl,hD,Z.tb.r.cu,Z.am,Z.LT,?_⟩ λt2 V a1 a2 a3 a4=>?_
 ·exact Jm (JH (JD 4 (Jp h1 P)) (Jm (JC (J6 _ _ _)) (Jp h2 K'))) hb
 ·refine q t2 _ V (Ze _) a1 a2 (λx hx=>R.ag (Jp h1 P) ?_ (a3 x hx)) λi j hi hj=>(a4 _ _ (zax H hi hj)).Μ
  exact Jm (JC (J6 _ _ _)) (JH (Jv _) h2)
def b8(hd:4<=d)(hu:∀c∈u,zI c=Qe)(lu:u.ε<=200)(h:MH):∃v,jJ (ah P0 d) (.ai 130) [.Υ u] h=Qa (v,h):=by
 obtain⟨v,g,e,rfl⟩:=W.xL (l5 (P:=P0) (d:=d) rfl (zbQ (Q:=λ_ g=>g=h) (hd) hu lu rfl));exact⟨v,e⟩
def eY(M:Mc R.α)(h t:MH)(L':Ly)(T:Mc R.α)(p k:θ):Prop:=ao R (h++t) L' T/\kI T p k/\nf T/\T.aa.ε<=M.aa.ε/\T.ax<=M.ax/\(∀u l,R.lv T.jp (Bv T u l 0 0 T.Ϥ)=R.lv M.jp (Bv M u l 0 0 M.Ϥ))/\∃ks,oK M ks T
section
variable{M:Mc R.α}{h t:MH}{L':Ly}{T:Mc R.α}{p k:Nat}(ψ:eY M h t L' T p k)
def eY.J:=@ψ.1
def eY.G:=@ψ.2.1
def eY.U:=@ψ.2.2.1
def eY.n:=@ψ.2.2.2.1
def eY.c:=@ψ.2.2.2.2.1
def eY.w:=@ψ.2.2.2.2.2.1
def eY.tr:=@ψ.2.2.2.2.2.2
end
def B9(hd:6<=d)(I:ao R h L M)(G:kI M p k)(U:nf M):∃t L' T,jJ (ah P0 d) (.ai 133) [.ο L.m] h=Qa (.ο L'.m,h++t)/\eY M h t L' T p k:=by
 obtain⟨v,g,e,t,L',T,rfl,rfl,q⟩:=W.xL (l5 (P:=P0) rfl (Of (Q:=λv g=>∃t L' T,v=.ο L'.m/\g=h++t/\eY M h t L' T p k) hd I G λt L' T ks mb1 mb2 bh J ho TB TR=>by
  have TG:=E4 I G TB TR J;exact⟨t,L',T,rfl,rfl,J,TG.g,TG.up U,TG.am,TG.ax,λu l=>LQ I G TB TR (G.dh U) (TG.g.dh (TG.up U)),ks,TR⟩))
 exact⟨t,L',T,e,q⟩
def zdG{y B:θ}(hn:n'<=n)(hc:c'<=c)(n60:n<=60)(cl:1+(x+1)*(y+1)*(c+1)<B)
  (bd:4*((p+p*n)*(x+y+2))+((k+((k+c)*n+n+1+n))*(x+y+2)+(1+(x+1)*(y+1)*(c+1)+n))<=3800):
  p*n'<=p*n/\(k+c)*n'+n'+1+n'<=(k+c)*n+n+1+n/\4*(p*n')+((k+c)*n'+n'+1)<=3800/\1+(x+1)*(y+1)*(c'+1)<B/\4*((p+p*n)*(x+y+2))+((k+((k+c)*n+n+1+n))*(x+y+2)+(1+(x+1)*(y+1)*(c'+1)+n'))<=3800/\1+(x+1)*(y+1)*(c'+1)+n'<=1+(x+1)*(y+1)*(c+1)+n:=by
 have h0:=JD ((x+1)*(y+1)) (Zf hc);have h4:(k+c)*n'+n'+1+n'<=(k+c)*n+n+1+n:=JH (JN (JH (JD (k+c) hn) hn) 1) hn;exact⟨(JD p hn),h4,Jm (JH (JD 4 (Jm (Jm (JD p hn) (Jz _ _)) (Z2 (p+p*n) (ZU (x+y+1))):p*n'<=(p+p*n)*(x+y+2))) (Jm (Jm (Jm (Jm (Jq _ n') h4) (Jz _ _)) (Z2 (k+((k+c)*n+n+1+n)) (ZU (x+y+1))):(k+c)*n'+n'+1<=(k+((k+c)*n+n+1+n))*(x+y+2)) (Jq _ _))) bd,Jt (Jp h0 1) cl,Jm (Jp (Jp (JH (Jp h0 1) hn:1+(x+1)*(y+1)*(c'+1)+n'<=1+(x+1)*(y+1)*(c+1)+n) _) _) bd,(JH (Jp h0 1) hn:1+(x+1)*(y+1)*(c'+1)+n'<=1+(x+1)*(y+1)*(c+1)+n)⟩
theorem my.of{T:Mc R.α}{L':Ly}{l:ζ θ}{ov:ab}(J:ao R g L' T)(G:kI T p k)(cl:1+(u.ε+1)*(l.ε+1)*(T.ax+1)<100000)(bd:4*((p+pS)*(u.ε+l.ε+2))+((k+kS)*(u.ε+l.ε+2)+(1+(u.ε+1)*(l.ε+1)*(T.ax+1)+T.aa.ε))<=3800):my (wX g L' T u l ov (p+pS) (k+kS) p k pS kS):=⟨J,G,Jv _,Jv _,cl,bd⟩
def DE{l:ζ θ}(hd:10<=d)(I:ao R h L M)(G:kI M p k)(U:nf M)(ne:R.da≠R.Ι)(hn:M.aa.ε<=60)(hu:∀c∈u,zI c=Qe)(hl:∀c∈l,zI c=Qe)(lu:u.ε<=200)(ll:l.ε<=200)
  (cl:1+(u.ε+1)*(l.ε+1)*(M.ax+1)<100000) (bd2:4*p+(k+300)<=3800)
  (hbd:4*((p+p*M.aa.ε)*(u.ε+l.ε+2))+((k+((k+M.ax)*M.aa.ε+M.aa.ε+1+M.aa.ε))*(u.ε+l.ε+2)+(1+(u.ε+1)*(l.ε+1)*(M.ax+1)+M.aa.ε))<=3800)
  (q:∀t,R.D ((p+p*M.aa.ε)*(u.ε+l.ε+2)) ((k+((k+M.ax)*M.aa.ε+M.aa.ε+1+M.aa.ε))*(u.ε+l.ε+2)+(1+(u.ε+1)*(l.ε+1)*(M.ax+1)+M.aa.ε)) (R.lv M.jp (Bv M u l 0 0 M.Ϥ))->Q (R.e (R.lv M.jp (Bv M u l 0 0 M.Ϥ))) (h++t)):WF P0 d 106 [.ο L.m,.Υ u,.Υ l] h Q:=by
 refine j7 (K:=9) hd (Qa (.ο L.m)::Qa (.Υ u)::Qa (.Υ l)::nn 15) lM rfl λd' h'=>?_;refine(b8 (d:=d') (Jm (by decide) h':4<=d') hu lu h).ι λv1 a=>(b8 (d:=d') (Jm (by decide) h':4<=d') hl ll h).ι λv2 b=>?_;refine(B9 (d:=d') (Jm (by decide) h') I G U).ι λt c=>c.ι λL' c=>c.ι λT c=>?_;have Z:=c.2;have B:=zdG Z.n Z.c hn cl hbd;refine(ML (d:=d') (K:=k+M.ax) (Jm (by decide) h') Z.J Z.G Z.U ne (Jm Z.n hn) (Jp Z.c k) B.2.2.1 bd2).ι λov e=>e.ι λg e=>?_;refine mR (a:=lM.ϣ 5) (b:=lM.bn 5) ?_;have fe:∀(g:MH)(t2:MH),g++t2=h++(g.bn h.ε++t2)->R.D ((p+p*M.aa.ε)*(u.ε+l.ε+2)) ((k+((k+M.ax)*M.aa.ε+M.aa.ε+1+M.aa.ε))*(u.ε+l.ε+2)+(1+(u.ε+1)*(l.ε+1)*(T.ax+1)+T.aa.ε)) (R.lv T.jp (Bv T u l 0 0 T.Ϥ))->Q (R.e (R.lv T.jp (Bv T u l 0 0 T.Ϥ))) (g++t2):=λg t2 hg hD=>by
  rw[Z.w] at hD ⊢;simp only[hg];exact q _ (R.ag (Jv _) (Jp B.2.2.2.2.2 _) hD)
 have dr:∀s t2:MH,(h++s)++t2=h++((h++s).bn h.ε++t2):=λs t2=>by rw[ζ.drop_left,JB]
 have tail:bz (ah P0 d') (lM.bn 5) (Qa (.ο L'.m)::Qa (.Υ u)::Qa (.Υ l)::Qa (.ai (112+R.i))::Qa ov::nn 13) g (Ρ.Fin Q):=by
  cases e.2 with
  |no hE hv hg=>
   rw[hv,hg];exact LI (X:=wX (h++t) L' T u l .Δ (p+p*M.aa.ε) (k+((k+M.ax)*M.aa.ε+M.aa.ε+1+M.aa.ε)) p k _ _) (Jm (by decide) h') (my.of Z.J Z.G B.2.2.2.1 B.2.2.2.2.1) ⟨.nb rfl,λ_ i j s hi hj _=>by
    show Bv T u l i j s=_;rw[NG (Z.G.dh Z.U) hi hj,vX,U7 λa ha=>yI hE ha,R.ui],λaT e=>nomatch e⟩ rfl rfl rfl (Jq _ _) (Jq _ _) λt2=>fe (h++t) t2 (dr t t2)
  |so t1 t2 S SS hv hg=>
   rw[hv,hg];exact LI (X:=wX (h++t++t1++t2) L' T u l (.ο (h++t++t1).ε) (p+p*M.aa.ε) (k+((k+M.ax)*M.aa.ε+M.aa.ε+1+M.aa.ε)) p k _ _) (Jm (by decide) h') (my.of Z.J.cu.cu Z.G B.2.2.2.1 B.2.2.2.2.1) (zey (Z.G.dh Z.U) (CM Z.J Z.G Z.U (Jm Z.n hn) (Jp Z.c k) B.2.2.1) SS B.1 B.2.1) rfl rfl rfl (Jq _ _) (Jq _ _) λt3=>fe (h++t++t1++t2) t3 (by rw[JB h,JB h];exact dr _ t3)
 exact jT (.p (a)<|.p (b)<|.v (lU I)<|.p (c.1)<|.p (e.1)<|.z (mY tail)) rfl
end
def eB(b:Ε):ab:=.φ (bif b then 1 else 0)
def zdf:Rg where
 i:=0
 hi:=by decide
 α:=Ε
 gi:=ch
 e:=eB
 zero:=Qb
 da:=Qe
 add:=or
 mul:=and
 D:=λ_ _ _=>True
 sn:=Ε.or_comm
 Ϧ:=Ε.or_assoc
 Ϛ:=qaa
 IN:=Ε.and_comm
 w9:=Ε.and_assoc
 one_mul:=qaH
 v4:=qbh
 No:=Ε.and_or_distrib_left
 qc:=rfl
 ro:=rfl
 vw:=λ_=>rfl
 fh:=λh a b=>qM.ν (χ Qa (by cases a<;>cases b<;>rfl))
 ag:=λ_ _ _=>trivial
 bx:=trivial
 gr:=trivial
 fz:=λ_ _=>trivial
 dp:=λ_ _=>trivial
 gk:=λ{p k a b} _ _ _=>by cases a<;>cases b<;>rfl
 fv:=λ{p q k l a b} _ _ _=>by cases a<;>cases b<;>rfl
 gm:=λ{p k a d h0 h Q} hd _ _ q=>jX (f:=142) (self:=[.ai 112]) rfl (by
  cases a
  ·exact kN (K:=0) (Jm (Jz _ _) hd) (λ_=>rfl) q
  ·exact kN (K:=0) (Jm (Jz _ _) hd) (λ_=>rfl) q)
 gj:=λ{d h0 h Q} hd q=>jX (f:=145) (self:=[.ai 112]) rfl (kN (K:=0) (Jm (Jz _ _) hd) (λ_=>rfl) q)
def eO(x:η θ):ab:=JG (motive:=λ_=>ab) x .Δ λn=>.φ n
def zjt(x y:η θ):η θ:=JG (motive:=λ_=>η θ) x y λn=>JG (motive:=λ_=>η θ) y x λm=>Qa (if m<n then m else n)
theorem mn(n m:θ):(if m<n then m else n)=min n m:=if h:m<n then(ρ h).ν (Yv (JL h)).Μ else(π h).ν (ZD (Zr h)).Μ
def gV(x y:η θ):η θ:=x.Η λn=>y.ς λm=>n+m
def I8{s:ab}(hd:1<=d)(hn:n<wB)(q:Q (.φ n) h):WF P0 d 147 [s,.φ n] h Q:=by
 exact j7 (K:=0) hd (Qa s::Qa (.φ n)::nn 6) u4 rfl λd' h'=>jT (.c4<|.c4<|.f (wY hn)<|.z (q)) rfl
def Lq:Rg where
 i:=1
 hi:=by decide
 α:=η θ
 gi:=ch
 e:=eO
 zero:=Qc
 da:=Qa 0
 add:=zjt
 mul:=gV
 D:=λp _ x=>∀n,x=Qa n->n<=3*p
 sn:=λa b=>by
  cases a with
  |none=>cases b<;>rfl
  |some n=>cases b with
   |none=>rfl
   |some m=>exact χ Qa ((mn n m).ν ((θ.min_comm n m).ν (mn m n).Μ))
 Ϧ:=λa b c=>by
  cases a with
  |none=>rfl
  |some n=>cases b with
   |none=>rfl
   |some m=>cases c with
    |none=>rfl
    |some k=>exact χ Qa (by rw[mn,mn,mn,mn,θ.min_assoc])
 Ϛ:=λa=>rfl
 IN:=λa b=>by
  cases a with
  |none=>cases b<;>rfl
  |some n=>cases b with
   |none=>rfl
   |some m=>exact χ Qa (Kf n m)
 w9:=λa b c=>by
  cases a with
  |none=>rfl
  |some n=>cases b with
   |none=>rfl
   |some m=>cases c with
    |none=>rfl
    |some k=>exact χ Qa (J6 n m k)
 one_mul:=λa=>by
  cases a with
  |none=>rfl
  |some n=>exact χ Qa (ZK n)
 v4:=λa=>rfl
 No:=λa b c=>by
  cases a with
  |none=>rfl
  |some n=>cases b with
   |none=>cases c<;>rfl
   |some m=>cases c with
    |none=>rfl
    |some k=>exact χ Qa (by rw[mn,mn,θ.add_min_add_left])
 qc:=rfl
 ro:=rfl
 vw:=λa=>by cases a<;>rfl
 fh:=λh a b=>by
  cases a with
  |none=>cases b<;>rfl
  |some n=>cases b with
   |none=>rfl
   |some m=>exact qM.ν (χ Qa (by rw[Z8,Β,Ϫ,Qa.injEq];exact Τ.ofNat_inj))
 ag:=λhp _ ha n e=>Jm (ha n e) (JD 3 hp)
 bx:=λn e=>nomatch e
 gr:=λn e=>by cases e;exact Jv _
 fz:=λ{p k a b} ha hb n e=>by
  cases a with
  |none=>exact hb n e
  |some x=>cases b with
   |none=>exact ha n e
   |some y=>
    exact(Qa.dL e:(if y<x then y else x)=n)▸mn x y▸Jm (KN x y) (ha x rfl)
 dp:=λ{p q k l a b} ha hb n e=>by
  cases a with
  |none=>exact nomatch e
  |some x=>cases b with
   |none=>exact nomatch e
   |some y=>
    exact(Qa.dL e:x+y=n)▸Jm (JH (ha x rfl) (hb y rfl)) (JC (qa4 3 p q).Μ)
 gk:=λ{p k a b} _ _ _=>by
  cases a with
  |none=>cases b<;>rfl
  |some x=>cases b with
   |none=>rfl
   |some y=>
    show Qa (ab.φ _)=Qa (ab.φ _)
    congr 2
    by_cases hxy:y<x
    ·rw[ρ hxy,ρ (ZF.Ϩ hxy)]
    ·rw[π hxy,π λq=>hxy (ZF.mp q)]
 fv:=λ{p q k l a b} _ _ _=>by
  cases a with
  |none=>cases b<;>rfl
  |some x=>cases b with
   |none=>rfl
   |some y=>rfl
 gm:=λ{p k a d h0 h Q} hd ha hl q=>jX (f:=147) (self:=[.ai 113]) rfl (by
  cases a with
  |none=>exact kN (K:=0) (Jm (Jz _ _) hd) (λ_=>rfl) q
  |some n=>exact I8 (Jm (Jz _ _) hd) (by
    exact Jt (Jm (ha n rfl) (Jm (J8 p (by decide:3<=4)) (Jm (Jq _ k) hl)):n<=3800) (by decide+kernel:3800<2 ^ 3900)) q)
 gj:=λ{d h0 h Q} hd q=>jX (f:=150) (self:=[.ai 113]) rfl (kN (K:=0) (Jm (Jz _ _) hd) (λ_=>rfl) q)
abbrev QN:Type:= {q:Rat // 0<=q}
def eQ(q:QN):ab:=.ay [.φ q.1.num,.φ q.1.py]
def nQ(q:QN):θ:=q.1.num.Mi
theorem uX(q:QN):((nQ q:θ):Τ)=q.1.num:=Xo (Rat.num_nonneg.Ϩ q.2)
def tB(q:QN):eQ q=.ay [.φ (nQ q:θ),.φ q.1.py]:=by unfold eQ;rw[uX]
def DQ(p k:θ)(q:QN):Prop:=q.1.py ∣ 12 ^ p/\nQ q<=2 ^ k*q.1.py
section
variable{p k:Nat}{q:QN}(ψ:DQ p k q)
def DQ.d:=@ψ.1
def DQ.n:=@ψ.2
end
theorem MS(h:d ∣ 12 ^ p):d<=2 ^ (4*p):=Jm (θ.le_of_dvd (qbr (by decide)) h) (by rw[θ.pow_mul];exact θ.pow_le_pow_left (by decide) p)
def DQ.bd{q:QN}(H:DQ p k q)(hl:4*p+k<=3800):nQ q<wB/\q.1.py<wB:=by
 refine⟨HH (k:=4*p+k) hl (Jm H.n ?_),HH (k:=4*p) (Jm (Jq _ _) hl) (MS H.d)⟩;simp only[Kf,XU];exact JD _ (MS H.d)
def fr?_of{n m:θ}(hn:n<wB)(hm:m<wB)(h0:0<m):fr? (.ay [.φ n,.φ m])=Qa (n,m):=by
 show (nat? (.φ n)).Η (λa=>(nat? (.φ m)).Η λb=>aw (Zx 1 b) (Qa (a,b)))=_;rw[nat?_of hn,nat?_of hm];show aw (Zx 1 m) _=_;rw[K3 h0];rfl
def uu{q:QN}(H:DQ p k q)(hl:4*p+k<=3800):fr? (eQ q)=Qa (nQ q,q.1.py):=by
 rw[tB];exact fr?_of (H.bd hl).1 (H.bd hl).2 q.1.den_pos
def z2(hm:m≠0):(Rat.normalize (n:Τ) m hm).num=((n / Ks n m:θ):Τ)/\(Rat.normalize (n:Τ) m hm).py=m / Ks n m:=by
 rw[Rat.normalize_eq];exact⟨by show (n:Τ) / ((Ks n m:θ):Τ)=_;rw[Τ.natCast_ediv],rfl⟩
def tM(a b:QN):QN:=⟨a.1+b.1,Rat.add_nonneg a.2 b.2⟩
def nO(a b:QN):QN:=⟨a.1*b.1,Rat.mul_nonneg a.2 b.2⟩
def Wc(a b:QN):nQ (tM a b)=(nQ a*b.1.py+nQ b*a.1.py) / Ks (nQ a*b.1.py+nQ b*a.1.py) (a.1.py*b.1.py)/\(tM a b).1.py=a.1.py*b.1.py / Ks (nQ a*b.1.py+nQ b*a.1.py) (a.1.py*b.1.py):=by
 have h0:a.1.py*b.1.py≠0:=qa8 a.1.den_nz b.1.den_nz;have e:(tM a b).1=Rat.normalize ((nQ a*b.1.py+nQ b*a.1.py:θ):Τ) (a.1.py*b.1.py) h0:=by
  show a.1+b.1=_;rw[Rat.add_def]
  congr 1
  simp only[qa6,K5,K5,uX,uX]
 exact⟨by unfold nQ;rw[e,(z2 (n:=nQ a*b.1.py+nQ b*a.1.py) h0).1];rfl,by rw[e,(z2 (n:=nQ a*b.1.py+nQ b*a.1.py) h0).2]⟩
def z5(a b:QN):nQ (nO a b)=(nQ a*nQ b) / Ks (nQ a*nQ b) (a.1.py*b.1.py)/\(nO a b).1.py=a.1.py*b.1.py / Ks (nQ a*nQ b) (a.1.py*b.1.py):=by
 have h0:a.1.py*b.1.py≠0:=qa8 a.1.den_nz b.1.den_nz;have e:(nO a b).1=Rat.normalize ((nQ a*nQ b:θ):Τ) (a.1.py*b.1.py) h0:=by
  show a.1*b.1=_;rw[Rat.mul_def]
  congr 1
  simp only[K5,uX,uX]
 exact⟨by unfold nQ;rw[e,(z2 (n:=nQ a*nQ b) h0).1];rfl,by rw[e,(z2 (n:=nQ a*nQ b) h0).2]⟩
def zc9(a b:QN):eQ (tM a b)=zp (nQ a) a.1.py (nQ b) b.1.py:=by
 simp only[tB,(Wc a b).1,(Wc a b).2];rfl
def IL(a b:QN):eQ (nO a b)=wx (nQ a) a.1.py (nQ b) b.1.py:=by
 rw[tB,(z5 a b).1,(z5 a b).2];rfl
def IE(q:QN):Ks (nQ q) q.1.py=1:=by
 exact((Τ.natAbs_natCast _).Μ.ν (χ Τ.natAbs (uX q)):nQ q=q.1.num.natAbs)▸q.1.reduced
def zaj(hd:0<d):n / Ks n d*d=n*(d / Ks n d):=by
 refine Zt (θ.gcd_dvd_left n d) λx zq6=>?_;refine xE (θ.gcd_dvd_right n d) λy hy=>?_;rw[(Xx (YF _ hd:0<Ks n d) zq6:n / Ks n d=x),(Xx (YF _ hd:0<Ks n d) hy:d / Ks n d=y)]
 calc x*d=x*(Ks n d*y):=by rw[<-hy]
  _=(Ks n d*x)*y:=by rw[<-qaJ,Xp x]
  _=n*y:=by rw[<-zq6]
def Nu(a b:QN):nQ (tM a b)*(a.1.py*b.1.py)=(nQ a*b.1.py+nQ b*a.1.py)*(tM a b).1.py:=by
 simp only[(Wc a b).1,(Wc a b).2];exact zaj (Xe a.1.den_pos b.1.den_pos)
def IJ(a b:QN):nQ (nO a b)*(a.1.py*b.1.py)=(nQ a*nQ b)*(nO a b).1.py:=by
 simp only[(z5 a b).1,(z5 a b).2];exact zaj (Xe a.1.den_pos b.1.den_pos)
def ED{q:QN}{M:θ}(h:nQ q*M=x*q.1.py):q.1.py ∣ M:=by
 exact(by rw[θ.Coprime,θ.gcd_comm];exact IE q:θ.Coprime q.1.py (nQ q)).dvd_of_dvd_mul_left ⟨x,by rw[h,Xp]⟩
def Nv{a b:QN}{M:θ}(hM:0<M)(ha:a.1.py ∣ M)(hb:b.1.py ∣ M):(tM a b).1.py ∣ M:=by
 obtain⟨x,hx⟩:=ha;obtain⟨y,hy⟩:=hb;refine ED (x:=nQ a*x+nQ b*y) (θ.eq_of_mul_eq_mul_right hM ?_);have e:=Nu a b
 generalize nQ (tM a b)=n at*
 generalize (tM a b).1.py=c at*
 generalize a.1.py=d at*
 generalize b.1.py=f at*
 generalize nQ a=u at*
 generalize nQ b=v at*
 calc n*M*M=n*(d*x)*(f*y):=by rw[<-hx,<-hy]
  _=(n*(d*f))*(x*y):=by ac_rfl
  _=((u*f+v*d)*c)*(x*y):=by rw[e]
  _=(u*x*(f*y)+v*y*(d*x))*c:=by simp only[KH];congr 1<;>ac_rfl
  _=(u*x*M+v*y*M)*c:=by rw[<-hx,<-hy]
  _=(u*x+v*y)*c*M:=by simp only[KH];congr 1<;>ac_rfl
def Hz{a b:QN}{M:θ}(ha:a.1.py ∣ M)(hb:b.1.py ∣ N):(nO a b).1.py ∣ M*N:=by
 obtain⟨x,hx⟩:=ha;obtain⟨y,hy⟩:=hb;refine ED (x:=nQ a*nQ b*(x*y)) ?_;have e:=IJ a b
 generalize nQ (nO a b)=n at*
 generalize (nO a b).1.py=c at*
 simp only[hx,hy]
 calc n*(a.1.py*x*(b.1.py*y))=(n*(a.1.py*b.1.py))*(x*y):=by ac_rfl
  _=(nQ a*nQ b*c)*(x*y):=by rw[e]
  _=nQ a*nQ b*(x*y)*c:=by ac_rfl
def Sk{a b:QN}(ha:nQ a<=k*a.1.py)(hb:nQ b<=k*b.1.py):nQ (tM a b)<=k*2*(tM a b).1.py:=by
 refine Xy ?_ (Xe a.1.den_pos b.1.den_pos);rw[(Nu a b)];have h3:nQ a*b.1.py+nQ b*a.1.py<=k*2*(a.1.py*b.1.py):=by
  have e1:k*2*(a.1.py*b.1.py)=k*a.1.py*b.1.py+k*b.1.py*a.1.py:=by
   rw[qaJ k 2,KV,qa4];congr 1<;>ac_rfl
  rw[e1];exact JH (J8 b.1.py ha) (J8 a.1.py hb)
 rw[show k*2*(tM a b).1.py*(a.1.py*b.1.py)=k*2*(a.1.py*b.1.py)*(tM a b).1.py by ac_rfl];exact(J8 (tM a b).1.py h3)
def Er{a b:QN}{l:θ}(ha:nQ a<=k*a.1.py)(hb:nQ b<=l*b.1.py):nQ (nO a b)<=k*l*(nO a b).1.py:=by
 refine Xy ?_ (Xe a.1.den_pos b.1.den_pos);rw[(IJ a b)];rw[show k*l*(nO a b).1.py*(a.1.py*b.1.py)=k*a.1.py*(l*b.1.py)*(nO a b).1.py by ac_rfl];exact(J8 (nO a b).1.py (qbf ha hb))
theorem zj3{a b:QN}(h1:nQ a=nQ b)(h2:a.1.py=b.1.py):a=b:=Ok.Tb (Rat.Tb (by rw[<-uX,<-uX,h1]) h2)
theorem IM(a b c:QN):nO a (tM b c)=tM (nO a b) (nO a c):=Ok.Tb (Rat.No ..)
def sI(a b:QN):QN:=if a.1<b.1 then b else a
theorem maxQ_l{a b:QN}(h:a.1<b.1):sI a b=b:=ρ h
theorem oT{a b:QN}(h:b.1<=a.1):sI a b=a:=π (Rat.not_lt.Ϩ h)
def Tt{a b:QN}(h:a.1<=b.1):sI a b=b:=by
 delta sI;by_cases q:a.1<b.1
 ·exact ρ q
 ·exact(π q).ν (Ok.Tb (Rat.le_antisymm h (Rat.not_lt.mp q)))
def FR(a b:QN):sI a b=sI b a:=by
 rcases Rat.le_total (a:=a.1) (b:=b.1) with h|h
 ·rw[Tt h,oT h]
 ·rw[oT h,Tt h]
def Ac(a b c:QN):sI (sI a b) c=sI a (sI b c):=by
 rcases Rat.le_total (a:=a.1) (b:=b.1) with h|h<;>rcases Rat.le_total (a:=b.1) (b:=c.1) with h2|h2
 ·rw[Tt h,Tt h2,Tt (Rat.le_trans h h2)]
 ·rw[Tt h,oT h2,Tt h]
 ·rw[oT h,Tt h2]
 ·rw[oT h,oT h2,oT h,oT (Rat.le_trans h2 h)]
def IK(a b c:QN):nO a (sI b c)=sI (nO a b) (nO a c):=by
 rcases Rat.le_total (a:=b.1) (b:=c.1) with h|h
 ·rw[Tt h,Tt (a:=nO a b) (b:=nO a c) (Rat.mul_le_mul_of_nonneg_left h a.2)]
 ·rw[oT h,oT (a:=nO a b) (b:=nO a c) (Rat.mul_le_mul_of_nonneg_left h a.2)]
def zch(a b:QN):eQ (sI a b)=ya (nQ a) a.1.py (nQ b) b.1.py:=by
 delta ya;have e:a.1<b.1 ↔ nQ a*b.1.py<nQ b*a.1.py:=by
  rw[Rat.lt_iff,<-uX,<-uX]
  constructor
  ·intro h;exact ZF.mp (by rw[K5,K5];exact h)
  ·intro h;have:=ZF.Ϩ h;rw[K5,K5] at this;exact this
 delta sI;by_cases h:a.1<b.1
 ·rw[ρ h,ρ (e.mp h),tB]
 ·rw[π h,π λq=>h (e.Ϩ q),tB]
def Rb(a b:QN):sI a b=a\/sI a b=b:=by
 rcases Rat.le_total (a:=a.1) (b:=b.1) with h|h
 ·exact .u8 (Tt h)
 ·exact .nb (oT h)
def Rp{a b c e:Τ}:kr h (.ay [.φ a,.φ b]) (.ay [.φ c,.φ e])=Qa (a==c && b==e):=by
 show Qa (a==c && (b==e && Qe))=_;rw[Yi]
theorem zdL:wB<gB:=qav (by decide) (by decide)
def Sz{a b:QN}:kr h (eQ a) (eQ b)=Qa (@decide (a=b) (ch)):=by
 delta eQ;refine Rp.ν ?_
 congr 1
 by_cases q:a=b
 ·subst q;simp
 ·rw[Γ q,qao]
  by_cases h1:a.1.num=b.1.num
  ·exact .u8 (Ϟ λh2=>q (Ok.Tb (Rat.Tb h1 (Τ.ofNat_inj.mp h2))))
  ·exact .nb (Ϟ h1)
def Hn{q:QN}{s:ab}(hd:2<=d)(h1:nQ q<wB)(h2:q.1.py<wB)(qq:Q (eQ q) h):WF P0 d 157 [s,eQ q] h Q:=by
 have hp:=q.1.den_pos;rw[tB] at qq ⊢;exact j7 (K:=1) hd (Qa s::Qa (.ay [.φ (nQ q),.φ q.1.py])::nn 6) tL rfl λd' h'=>jT (.c4<|.c4<|.c4<|.c4<|.c3<|.f (Γ (p:=(q.1.py:Τ)<1) (by lia))<|.c2<|.f (wY h1)<|.c2<|.f (wY h2)<|.c2<|.q ((λh=>(zfy h' (Zp h1 zdL) h).ν (by rw[(IE q)];rfl):∀h,jJ (ah P0 d') (.ai 109) [.φ q.1.py,.φ (nQ q)] h=Qa (.φ 1,h)))<|.c2<|.z (qq)) rfl
theorem bL:(0:Rat)<=1:=rfl
def Lr:Rg where
 i:=3
 hi:=by decide
 α:=QN
 gi:=ch
 e:=eQ
 zero:=⟨0,Rat.le_refl⟩
 da:=⟨1,bL⟩
 add:=tM
 mul:=nO
 D:=DQ
 sn:=λa b=>Ok.Tb (Rat.sn ..)
 Ϧ:=λa b c=>Ok.Tb (Rat.Ϧ ..)
 Ϛ:=λa=>Ok.Tb (Rat.Ϛ ..)
 IN:=λa b=>Ok.Tb (Rat.IN ..)
 w9:=λa b c=>Ok.Tb (Rat.w9 ..)
 one_mul:=λa=>Ok.Tb (Rat.one_mul ..)
 v4:=λa=>Ok.Tb (Rat.v4 ..)
 No:=IM
 qc:=rfl
 ro:=rfl
 vw:=λa=>rfl
 fh:=λh a b=>Sz
 ag:=λ{p q k l a} hp hk ha=>⟨qbl ha.d (qa9 12 hp),Jm ha.n (J8 _ (qaw (by decide) hk))⟩
 bx:=⟨qaA _,JF _⟩
 gr:=⟨qaA _,by show 1<=_;decide⟩
 fz:=λ{p k a b} ha hb=>⟨Nv (qbr (by decide)) ha.d hb.d,by rw[qbn];exact Sk ha.n hb.n⟩
 dp:=λ{p q k l a b} ha hb=>⟨by rw[XU];exact Hz ha.d hb.d,by rw[XU];exact Er ha.n hb.n⟩
 gk:=λ{p k a b} ha hb hl=>by
  show ni zp (eQ a) (eQ b)=_;unfold ni;rw[uu ha hl,uu hb hl,zc9];rfl
 fv:=λ{p q k l a b} ha hb hl=>by
  show ni wx (eQ a) (eQ b)=_;unfold ni;rw[uu ha (by lia),uu hb (by lia),IL];rfl
 gm:=λ{p k a d h0 h Q} hd ha hl q=>jX (f:=157) (self:=[.ai 115]) rfl (Hn (JL (KA hd)) (ha.bd hl).1 (ha.bd hl).2 q)
 gj:=λ{d h0 h Q} hd q=>jX (f:=160) (self:=[.ai 115]) rfl (kN (K:=2) hd (λ_=>by kernel_rfl) q)
def DL(p k:θ)(q:QN):Prop:=q.1.py ∣ 12 ^ p/\nQ q<=q.1.py
section
variable{p k:Nat}{q:QN}(ψ:DL p k q)
def DL.d:=@ψ.1
def DL.n:=@ψ.2
end
theorem DL.q{q:QN}(H:DL p k q):DQ p 0 q:=⟨H.d,by rw[θ.pow_zero,ZS];exact H.n⟩
def FT{q:QN}{s:ab}(hd:3<=d)(h1:nQ q<wB)(h2:q.1.py<wB)(h3:nQ q<=q.1.py)(qq:Q (eQ q) h):WF P0 d 161 [s,eQ q] h Q:=by
 rw[tB] at qq ⊢;exact j7 (K:=2) hd (Qa s::Qa (.ay [.φ (nQ q),.φ q.1.py])::nn 6) tI rfl λd' h'=>jT (.q ((λh=>by rw[<-tB];exact me (f:=157) (self:=[]) rfl (Hn h' h1 h2 (cg _ _)):∀h,j1 (ah P0 d') (.ai 111) IF [s,.ay [.φ (nQ q),.φ q.1.py]] h h=Qa (.ay [.φ (nQ q),.φ q.1.py],h)))<|.c3<|.f (Γ (p:=(q.1.py:Τ)<nQ q) (by lia))<|.z (qq)) rfl
def Lp:Rg where
 i:=4
 hi:=by decide
 α:=QN
 gi:=ch
 e:=eQ
 zero:=⟨0,Rat.le_refl⟩
 da:=⟨1,bL⟩
 add:=sI
 mul:=nO
 D:=DL
 sn:=FR
 Ϧ:=Ac
 Ϛ:=λa=>Tt a.2
 IN:=λa b=>Ok.Tb (Rat.IN ..)
 w9:=λa b c=>Ok.Tb (Rat.w9 ..)
 one_mul:=λa=>Ok.Tb (Rat.one_mul ..)
 v4:=λa=>Ok.Tb (Rat.v4 ..)
 No:=IK
 qc:=rfl
 ro:=rfl
 vw:=λa=>rfl
 fh:=λh a b=>Sz
 ag:=λ{p q k l a} hp hk ha=>⟨qbl ha.d (qa9 12 hp),ha.n⟩
 bx:=⟨qaA _,JF _⟩
 gr:=⟨qaA _,Jv 1⟩
 fz:=λ{p k a b} ha hb=>by
  rcases Rb a b with e|e
  ·rw[e];exact⟨ha.d,ha.n⟩
  ·rw[e];exact⟨hb.d,hb.n⟩
 dp:=λ{p q k l a b} ha hb=>⟨by rw[XU];exact Hz ha.d hb.d,by
  have:=Er (k:=1) (l:=1) (by rw[ZS];exact ha.n) (by rw[ZS];exact hb.n)
  simpa using this⟩
 gk:=λ{p k a b} ha hb hl=>by
  show ni ya (eQ a) (eQ b)=_;unfold ni;rw[uu ha.q (JN (Jm (Jq _ _) hl) _),uu hb.q (JN (Jm (Jq _ _) hl) _),zch];rfl
 fv:=λ{p q k l a b} ha hb hl=>by
  show ni wx (eQ a) (eQ b)=_;unfold ni;rw[uu ha.q (by lia),uu hb.q (by lia),IL];rfl
 gm:=λ{p k a d h0 h Q} hd ha hl q=>jX (f:=161) (self:=[.ai 116]) rfl (FT hd (ha.q.bd (JN (Jm (Jq _ _) hl) _)).1 (ha.q.bd (JN (Jm (Jq _ _) hl) _)).2 ha.n q)
 gj:=λ{d h0 h Q} hd q=>jX (f:=163) (self:=[.ai 116]) rfl (kN (K:=0) (Jm (Jz _ _) hd) (λ_=>rfl) q)
section
variable{h0:MH}
def Mk(R:Rg)(h g:MH)(m:θ)(M:Mc R.α)(X:ζ (θ×ae)):Prop:=(∃L:Ly,L.m=m/\ao R g L M/\(∀a∈ff L,h.ε<=a)/\∀p∈X,g[p.1]?=Qa p.2/\p.1∉ff L)/\∃t,g=h++t
section
variable{R:Rg}{h g:MH}{m:Nat}{M:Mc R.α}{X:List (Nat×ae)}(ψ:Mk R h g m M X)
def Mk.x:=@ψ.1
def Mk.Ch:=@ψ.2
end
def Mk.ob(H:Mk R h g m M X)(hp:(a,o)∈X):g[a]?=Qa o:=by
 exact H.x.ι λL zq12=>(zq12.2.2.2 _ hp).1
def Mk.up(H:Mk R h g m M X)(e:h[a]?=Qa o):g[a]?=Qa o:=by
 refine H.Ch.ι λt zq11=>?_;refine eqB zq11 ?_;exact jA e
def Mk.to{L':Ly}{M':Mc R.α}{S:ζ θ}(H:Mk R h g m M X)(e1:L.m=m)(ho:∀a∈ff L,h.ε<=a)(hx:∀p∈X,g[p.1]?=Qa p.2/\p.1∉ff L)(I':ao R g' L' M')(em:L'.m=L.m)(K:lR g g' S)(hS:∀a∈S,a∈ff L)(hL:∀a∈ff L',a∈ff L\/g.ε<=a):Mk R h g' m M' X:=by
 refine H.Ch.ι λt zq10=>?_;obtain rfl:=zq10;refine⟨⟨L',by rw[em,e1],I',λa ha=>(hL a ha).ι (ho a) λq=>Jm (by rw[Ju];exact Jq _ _) q,λp hp=>?_⟩,K.Ch λa ha=>ho a (hS a ha)⟩;refine xA (hx p hp) λh1 h2=>?_;exact⟨K.Hd _ _ (λq=>h2 (hS _ q)) h1,λq=>(hL _ q).ι h2 λq=>υ (jS h1) (Zv q)⟩
def Mk.TF(H:Mk R h g m M X){t:MH}:Mk R h (g++t) m M X:=by
 exact H.x.ι λL zq8=>H.to zq8.1 zq8.2.2.1 zq8.2.2.2 zq8.2.1.cu rfl (lR.cu (S:=[])) (λa ha=>υ ha JE) λa ha=>.nb ha
def ao.qp(I:ao R g L M)(ha:a∈ff L):a<g.ε:=by
 rcases JO.mp ha with rfl|ha
 ·exact jS I.fb
 rcases JO.mp ha with rfl|ha
 ·exact jS I.aa
 rcases JO.mp ha with rfl|ha
 ·exact jS I.aj
 ·exact I.sf ha
def Mk.fb(H:Mk R h g m M X){t:ae}:Mk R h (g++[t]) m M ((g.ε,t)::X):=by
 refine((H.TF (t:=[t])).x).ι λL zq7=>?_;refine H.x.ι λL0 zq6=>?_;refine⟨⟨L0,zq6.1,zq6.2.1.cu,zq6.2.2.1,λp hp=>?_⟩,(H.to (L:=L0) zq6.1 zq6.2.2.1 zq6.2.2.2 (zq6.2.1.cu (t:=[t])) rfl (lR.cu (S:=[])) (λa ha=>υ ha JE) λa ha=>.nb ha).Ch⟩;rcases JO.mp hp with rfl|hp
 ·exact⟨ak,λq=>υ (zq6.2.1.qp q) (J3 _)⟩
 ·exact⟨jA (zq6.2.2.2 p hp).1,(zq6.2.2.2 p hp).2⟩
theorem wex{o:η (α×MH)}{v:α}{P:MH->Prop}(h:W o λx g=>x=v/\P g):∃g,o=Qa (v,g)/\P g:=(W.xL h).ι λx a=>a.ι λg b=>⟨g,b.2.1▸b.1,b.2.2⟩
theorem IT(R:Rg)(h:MH)(hd:1<=d):∃g,jJ (ah P0 d) (.ai 121) [.ai (112+R.i)] h=Qa (.ο h.ε,g)/\Mk R h g h.ε M0 []:=
 (Iv R hd h).ι λt e=>⟨_,e.1,⟨_,rfl,e.2,λa ha=>by
  simp only[ff,JO,JE,or_false] at ha;rcases ha with rfl|rfl|rfl<;>lia,λp hp=>υ hp JE⟩,t,rfl⟩
def HD(hd:2<=d)(H:Mk R h g m M X)(hl:M.aa.ε<10000)(q:∀g',Mk R h g' m M.TF X->Q (.φ M.aa.ε) g'):WM (ah P0 d) (.ο m) 495873782885 [] g g Q:=by
 refine H.x.ι λL zq5=>?_;obtain rfl:=zq5.1;refine jX (kY zq5.2.1.fb rfl rfl) (LY hd zq5.2.1 hl λg' I' K=>q g' (H.to rfl zq5.2.2.1 zq5.2.2.2 I' rfl K (λa ha=>?_) λa ha=>?_))
 ·simp only[JO,JE,or_false] at ha
  rcases ha with rfl|rfl
  ·exact .lw _ (.mo _)
  ·exact .lw _ (.lw _ (.mo _))
 ·rcases WN a ha with ha|rfl
  ·exact .nb ha
  ·exact .u8 (Jv _)
def IU{a:Ar R.α}(hd:4<=d)(H:Mk R h g m M X)(hs:s<M.aa.ε)(ht:a.t<M.aa.ε)(lu:dh a.up)(ll:dh a.lo)(hw:R.D p k a.w)(hl:4*p+k<=3800)(hc:M.ax<100000)
  (q:∀g' M',Mk R h g' m M' X->(a.w=R.Ι->M'=M)->(a.w≠R.Ι->M'=M.fy s a)->Q .Δ g'):WM (ah P0 d) (.ο m) 6386275 [.φ s,.Υ a.up,.Υ a.lo,R.e a.w,.φ a.t] g g Q:=by
 refine H.x.ι λL zq4=>?_;obtain rfl:=zq4.1;exact jX (kY zq4.2.1.fb rfl rfl) (Nl hd zq4.2.1 hs ht lu ll hw hl hc λg' M' I' K h1 h2=>q g' M' (H.to rfl zq4.2.2.1 zq4.2.2.2 I' rfl K (λa ha=>ha) λa ha=>.nb ha) h1 h2)
def zcd(hd:4<=d)(H:Mk R h g m M X)(hs:s<M.aa.ε)(hw:R.D p k w)(hl:4*p+k<=3800):∃g',j1 (ah P0 d) (.ο m) 6647396 [.φ s,R.e w] g g=Qa (.Δ,g')/\Mk R h g' m {M with aj:=M.aj.ϩ s w} X:=by
 refine xEAA H.x λL cw I iq=>?_;refine xA iq λho hx=>?_;subst cw;exact wex (jX (kY I.fb rfl rfl) (zcG hd I hs hw hl λg' I' K=>⟨rfl,H.to rfl ho hx I' rfl K (λa ha=>ha) λa ha=>.nb ha⟩))
def P9(hd:4<=d)(H:Mk R h g m M X)(hs:s<M.aa.ε):∃g',j1 (ah P0 d) (.ο m) 6647396 [.φ s] g g=Qa (.Δ,g')/\Mk R h g' m {M with aj:=M.aj.ϩ s R.da} X:=by
 refine H.x.ι λL zq2=>?_;obtain rfl:=zq2.1;exact wex (jX (kY zq2.2.1.fb rfl rfl) (RM hd zq2.2.1 hs λg' I' K=>⟨rfl,H.to rfl zq2.2.2.1 zq2.2.2.2 I' rfl K (λa ha=>ha) λa ha=>.nb ha⟩))
def HF(hd:4<=d)(H:Mk R h g m M X)(hs:s<M.aa.ε)(hw:R.D p k w)(hl:4*p+k<=3800):∃g',j1 (ah P0 d) (.ο m) 422608071022 [.φ s,R.e w] g g=Qa (.Δ,g')/\Mk R h g' m {M with start:=s,first:=w} X:=by
 refine xEAA H.x λL cw I iq=>?_;refine xA iq λho hx=>?_;subst cw;exact wex (jX (kY I.fb rfl rfl) (Di hd I hs hw hl λg' I' K=>⟨rfl,H.to rfl ho hx I' rfl K (λa ha=>ha) λa ha=>.nb ha⟩))
end
section
variable{h0:MH}
def ao.bH(I:ao R g L M)(ha:g[a]?=Qa (.ξ vs))(hn:a∉ff L):ao R (g.ϩ a o) L M:=by
 have k:∀{b:θ}{o':ae},b∈ff L->g[b]?=Qa o'->(g.ϩ a o)[b]?=Qa o':=λ{b o'} hb e=>jP (λq=>hn (q▸hb)) e;refine⟨k (.mo _) I.fb,k (.lw _ (.mo _)) I.aa,k (.lw _ (.lw _ (.mo _))) I.aj,I.am,I.du,λi r xs hr hx=>?_,I.nd,I.bc,I.ct,I.cl,I.ds.to λr hr _ e=>k (.lw _ (.lw _ (.lw _ hr))) e⟩;refine Zt (I.au i r xs hr hx) λas zq13=>?_;refine⟨as,k (.lw _ (.lw _ (.lw _ (Jr hr)))) zq13.1,zq13.2.1,λj b x e1 e2=>?_⟩;have hb:=zq13.2.2 j b x e1 e2;exact jP (λq=>by subst q;rw[ha] at hb;cases hb) hb
def Mk.bG(H:Mk R h g m M ((a,.ξ vs)::X))(hX:∀p∈X,a≠p.1)(ha:h.ε<=a):Mk R h (g.ϩ a o) m M ((a,o)::X):=by
 refine H.x.ι λL zq12=>?_;have hx:=zq12.2.2.2;obtain⟨h1,h2⟩:=hx _ (.mo _);refine H.Ch.ι λt zq10=>?_;obtain rfl:=zq10;refine⟨⟨L,zq12.1,zq12.2.1.bH h1 h2,zq12.2.2.1,λp hp=>?_⟩,⟨_,sG ha⟩⟩;rcases JO.mp hp with rfl|hp
 ·exact⟨j8 h1,h2⟩
 ·exact⟨jP (hX p hp) (hx p (.lw _ hp)).1,(hx p (.lw _ hp)).2⟩
theorem Mk.lt(H:Mk R h g m M X):∀p∈X,g.ε≠p.1:=λp hp=>by
 refine H.x.ι λL zq9=>?_
 have:=jS (zq9.2.2.2 p hp).1
 exact Kj this
def Mk.bn{p:θ×ae}(H:Mk R h g m M (p::X)):Mk R h g m M X:=by
 exact H.x.ι λL zq8=>⟨⟨L,zq8.1,zq8.2.1,zq8.2.2.1,λq hq=>zq8.2.2.2 q (.lw _ hq)⟩,H.Ch⟩
def Mk.le(H:Mk R h g m M X):h.ε<=g.ε:=by
 refine H.Ch.ι λt zq7=>?_;refine eqB zq7 ?_;simp only[Ju];exact Jq _ _
def lC(M:Mc R.α):θ->Mc R.α
 |0=>M
 |n+1=>(lC M n).TF
def UX:(lC M n).aa.ε=M.aa.ε+n:=by
 induction n with
 |zero=>rfl
 |succ n ih=>show (_++[[]]).ε=_;rw[Ju,ih];rfl
def Ra(hd:2<=d)(H:Mk R h g m M X)(hl:M.aa.ε+n<10000):∃v g',eval (ah P0 d) (.comp (.az (.Λ 0) 495873782885 []) [2] Qb (.ϧ (.f8 (.ty 491260897125)) [.Λ 1]) []) (Qa (.ο m)::Qa (.φ n)::nn 6) g=Qa (v,g')/\Mk R h g' m (lC M n) X:=by
 refine W.xL (o:=eval (ah P0 d) _ _ g) (Q:=λ_ g'=>Mk R h g' m (lC M n) X) (tR ?_);have I0:∃k,∃xs:ζ ab,nA g (.gb n)=Qa k/\xs.ε<(ah P0 d).cv/\∃I:θ->MH->Prop,I 0 (g++[.ξ []])/\(∀i h,I i h->lI h i k=Qa xs[i]?)/\
   (∀i x,xs[i]?=Qa x->∀hh,I i hh->Wo (mQ (Qa (.ο m)::Qa (.φ n)::nn 6) [2] Qb x) λfr1=>tm (ah P0 d) fr1 [] hh λb h2=>Br b (WE (ah P0 d) fr1 (.az (.Λ 0) 495873782885 []) h2 λx h3=>∃vs,h3[g.ε]?=Qa (.ξ vs)/\vs.ε<bc/\I (i+1) (h3.ϩ g.ε (.ξ (vs++[x])))) (I (i+1) h2))/\
   ∀hh,I xs.ε hh->Mk R h hh m (lC M n) X:=by
  refine⟨.rg n,GI n,Ak (oF (Jw (JV (Jz _ _)) (Jm (J9 hl) (Jz _ _)))),by rw[nI];show _<200000;exact Jw (JV (Jz _ _)) (Jm (J9 hl) (Jz _ _)),λi hh=>i<=n/\∃vs,vs.ε=i/\Mk R h hh m (lC M i) ((g.ε,.ξ vs)::X),⟨JF _,[],rfl,(H.fb (t:=.ξ []))⟩,λi hh q=>D7 q.1,λi v hv hh q=>?_,λhh q=>?_⟩
  ·obtain⟨hi,rfl⟩:=GH hv
   refine q.2.ι λvs zq5=>?_;refine kP (tP (Ax ?_))
   have:∃v g',j1 (ah P0 d) (.ο m) 495873782885 [] hh hh=Qa (v,g')/\Mk R h g' m (lC M (i+1)) ((g.ε,.ξ vs)::X):=W.xL (HD hd zq5.2 (by rw[UX];exact Jw (Zw hi _) (JL hl)) λg' H2=>H2)
   exact this.ι λv zq3=>zq3.ι λg' zq4=>j2 (.p (zq4.1)<|.z ((⟨vs,zq4.2.ob (.mo _),by rw[zq5.1];exact Jw hi (oF (Jw (JV (Jz _ _)) (Jm (J9 hl) (Jz _ _)))),hi,_,by rw[Ju,zq5.1];rfl,zq4.2.bG H.lt H.le⟩:∃us,g'[g.ε]?=Qa (.ξ us)/\us.ε<bc/\i+1<=n/\∃ws,ws.ε=i+1/\Mk R h (g'.ϩ g.ε (.ξ (us++[v]))) m (lC M (i+1)) ((g.ε,.ξ ws)::X)))) rfl
  ·rw[nI] at q
   exact q.2.ι λvs zq2=>zq2.2.bn
 exact j2 (.c<|.z (I0)) rfl
def FQ(hd:3<=d)(H:Mk R h g m M X)(hl:M.aa.ε+n<10000):∃v g',j1 (ah P0 d) (.ο m) 126943688418675 [.φ n] g g=Qa (v,g')/\Mk R h g' m (lC M n) X:=by
 refine H.x.ι λL zq1=>?_;refine W.xL (Q:=λ_ g'=>Mk R h g' m (lC M n) X) (jX (zq1.1▸kY zq1.2.1.fb rfl rfl:mV P0 g (.ο m) 126943688418675=Qa (169,[.ο m])) (j7 (K:=2) hd (Qa (.ο m)::Qa (.φ n)::nn 6) pN rfl λd' h'=>?_));have e1:=zaf (n:=n) (d:=d') (JL (KA h')) zq1.2.1 (Jm (JL hl) (Jz _ _));rw[zq1.1] at e1;exact(Ra h' H hl).ι λv a=>a.ι λg' b=>jT (.p (e1)<|.p (b.1)<|.z b.2) rfl
end
section
variable{h0:MH}
def jW(i:θ):ζ θ:=F4 [121,101,115] [108,101,97,115,116] [99,111,117,110,116] [99,104,97,110,99,101] [108,105,107,101,108,121] i
abbrev IG:θ:=1851878757
theorem zeM(hi:i<5)(q:Q (.Υ (jW i)) h):WA P0 (.ai (112+i)) IG h Q:=
 DG (oY (C:=λi=>((P0.ck (112+i)).Η λc=>u6 P0 c IG)=Qa (.Υ (jW i))) i hi rfl rfl rfl rfl rfl) q
def zej(hi:i<5)(hd:1<=d)(q:Q (.ai (112+i)) h):WF P0 d 105 [.Υ (jW i)] h Q:=by
 revert q
 refine oY (C:=λi=>Q (.ai (112+i)) h->WF P0 d 105 [.Υ (jW i)] h Q) i hi ?_ ?_ ?_ ?_ ?_<;>intro q
 ·exact kN (K:=0) hd (λ_=>by kernel_rfl) q
 ·exact kN (K:=0) hd (λ_=>by kernel_rfl) q
 ·exact kN (K:=0) hd (λ_=>by kernel_rfl) q
 ·exact kN (K:=0) hd (λ_=>by kernel_rfl) q
 ·exact kN (K:=0) hd (λ_=>by kernel_rfl) q
def ml(i:θ):ζ ab:=F4 [.φ 1,.φ 1,.φ 1] [.φ 0,.φ 1,.φ 3] [.φ 1,.φ 1,.φ 2] [.ay [.φ 1,.φ 4],.ay [.φ 1,.φ 3],.ay [.φ 1,.φ 2]] [.ay [.φ 1,.φ 2],.ay [.φ 1,.φ 3],.ay [.φ 1,.φ 1]] i
def kg(h:MH):θ->MH
 |0=>h
 |n+1=>kg h n++[ae.ξ (ml n)]
def wt(h:MH):ζ (ab×ab):=[(.Υ (jW 0),.ο (kg h 0).ε),(.Υ (jW 1),.ο (kg h 1).ε),(.Υ (jW 2),.ο (kg h 2).ε),(.Υ (jW 3),.ο (kg h 3).ε),(.Υ (jW 4),.ο (kg h 4).ε)]
def Rc(h:MH)(n:θ):(kg h n).ε=h.ε+n:=by
 induction n with
 |zero=>rfl
 |succ n ih=>exact yL.ν (χ (· +1) ih)
def ze9(h:MH)(x:ae):kg h 5++[x]=h++[.ξ (ml 0),.ξ (ml 1),.ξ (ml 2),.ξ (ml 3),.ξ (ml 4),x]:=by unfold kg kg kg kg kg kg;simp only[JB,Yx,qa7]
def zfa(hi:i<5)(hd:1<=d)(q:∀t a,h.ε<=a->(h++t)[a]?=Qa (.ξ (ml i))->Q (.ο a) (h++t)):WF P0 d 138 [.Υ (jW i)] h Q:=by
 refine j7 (K:=0) hd (Qa (.Υ (jW i))::nn 6) oB rfl λd' h'=>?_;have e2:Q (.ο (kg h i).ε) (kg h 5++[.Χ (Qa 5) (wt h)]):=by
  rw[ze9,Rc];exact q _ _ (Jq _ _) (mU.ν (oY (C:=λi=>([ae.ξ (ml 0),.ξ (ml 1),.ξ (ml 2),.ξ (ml 3),.ξ (ml 4),.Χ (Qa 5) (wt h)]:MH)[i]?=Qa (.ξ (ml i))) i hi rfl rfl rfl rfl rfl))
 exact jT (.c<|.v ((sd (ep:=Qa 5) (es:=wt h) ak (oY (C:=λi=>jN (wt h) (.Υ (jW i))=Qe) i hi rfl rfl rfl rfl rfl) (oY (C:=λi=>jO (wt h) (.Υ (jW i))=Qa (.ο (kg h i).ε)) i hi rfl rfl rfl rfl rfl):kJ (kg h 5++[.Χ (Qa 5) (wt h)]) (.ο (kg h 5).ε) (.Υ (jW i))=Qa (.ο (kg h i).ε)))<|.z (e2)) rfl
end
def cell(ns:ζ Τ)(k:θ):Τ:=ns[k]?.bm 0
theorem zff(z:Cx)(ns:ζ Τ)(h:MH):jJ z (.bi 7103854) [.fl (ns.ς .φ)] h=Qa (.φ ns.ε,h):=W.eq (Gs (n:=ns.ε) (by show Qa _=_;rw[Js]) (cg _ _))
def RU(hd:1<=d){i:Τ}(hi:i=k)(q:Q (.φ (cell ns k)) h):WF P0 d 137 [.fl (ns.ς .φ),.φ i] h Q:=by
 subst hi;refine j7 (K:=0) hd (Qa (.fl (ns.ς .φ))::Qa (.φ k)::nn 6) qE rfl λd' h'=>?_;by_cases hk:k<ns.ε
 ·have e:cell ns k=ns[k]:=by unfold cell;rw[Jo hk];rfl
  exact jT (.q (zff (ah P0 d') ns)<|.c<|.t (Ζ (ZF.Ϩ hk))<|.v ((Wo.eq (zdF (Q:=λa _=>a=.φ (cell ns k)) (v:=.φ (cell ns k)) (by rw[JA,Jo hk,e];rfl) rfl):kJ h (.fl (ns.ς .φ)) (.φ k)=Qa (.φ (cell ns k))))<|.z (q)) rfl
 ·have e:cell ns k=0:=by
   delta cell;rw[ZR (Zr hk)];rfl
  rw[e] at q;exact jT (.q (zff (ah P0 d') ns)<|.c<|.f (Γ (λh=>hk (ZF.mp h)))<|.z (q)) rfl
def pQ(x:Τ)(hm:0<m):∃n:θ,n<m/\Xc x m=n:=by
 have g1:=Τ.fmod_nonneg_of_pos x (Τ.natCast_pos.Ϩ hm);exact⟨(Xc x m).Mi,(Τ.toNat_lt g1).Ϩ (Τ.fmod_lt_of_pos x (Τ.natCast_pos.Ϩ hm)),(Xo g1).Μ⟩
section
variable{h0:MH}
def RL(R:Rg)(ws:ζ R.α):Prop:=R.da≠R.Ι/\ws.ε=3/\(∀w∈ws,R.D 1 1 w/\w≠R.Ι)/\ml R.i=ws.ς R.e
section
variable{R:Rg}{ws:List R.α}(ψ:RL R ws)
def RL.ne:=@ψ.1
def RL.am:=@ψ.2.1
def RL.dg:=@ψ.2.2.1
def RL.e:=@ψ.2.2.2
end
def jm:ζ (ζ θ):=[[97],[98],[]]
def rk(us:ζ (ζ θ))(n k:θ)(M:Mc R.α):Prop:=M.aa.ε=n/\(∀e∈M.aj,R.D 1 1 e)/\(∀(s:θ)(ys:ζ (Ar R.α)),M.aa[s]?=Qa ys->∀a∈ys,a.t<n/\dh a.up/\dh a.lo/\R.D 1 1 a.w/\a.w≠R.Ι/\(a.fq=Qe->s<a.t)/\a.up∈us/\a.lo∈jm)/\M.ax<=k
section
variable{us:List (List Nat)}{n k:Nat}{M:Mc R.α}(ψ:rk us n k M)
def rk.am:=@ψ.1
def rk.aj:=@ψ.2.1
def rk.fy:=@ψ.2.2.1
def rk.ct:=@ψ.2.2.2
end
def rk.put{a:Ar R.α}(P:rk us n k M)(hs:s<n)(ha:a.t<n/\dh a.up/\dh a.lo/\R.D 1 1 a.w/\a.w≠R.Ι/\(a.fq=Qe->s<a.t)/\a.up∈us/\a.lo∈jm):rk us n (k+1) (M.fy s a):=by
 have hsl:s<M.aa.ε:=by rw[P.am];exact hs
 refine⟨by show (qaW _ _ _).ε=_;rw[J0];exact P.am,P.aj,λs' ys hy x hx=>?_,Zf P.ct⟩;have hy:(M.aa.ϩ s (M.aa[s]?.bm []++[a]))[s']?=Qa ys:=hy;by_cases e:s=s'
 ·subst e
  rw[JX hsl] at hy;obtain rfl:=Qa.dL hy;rcases Zd.mp hx with hx|hx
  ·rw[Jo hsl] at hx
   exact P.fy s _ (Jo hsl) x hx
  ·cases JI.mp hx;exact ha
 ·rw[JZ e] at hy
  exact P.fy s' ys hy x hx
abbrev tw(R:Rg):=MH×Mc R.α×η ab×η ab×η ab×η ab×η ab×η ab
section
variable{R:Rg}(ψ:tw R)
abbrev tw.g:=ψ.1
abbrev tw.M:=ψ.2.1
abbrev tw.a:=ψ.2.2.1
abbrev tw.b:=ψ.2.2.2.1
abbrev tw.c:=ψ.2.2.2.2.1
abbrev tw.d:=ψ.2.2.2.2.2.1
abbrev tw.e:=ψ.2.2.2.2.2.2.1
abbrev tw.f:=ψ.2.2.2.2.2.2.2
end
abbrev xo(R:Rg):=MH×ζ Τ×θ×θ×ζ (ζ θ)×ζ R.α×θ×θ
section
variable{R:Rg}(ψ:xo R)
abbrev xo.h:=ψ.1
abbrev xo.ns:=ψ.2.1
abbrev xo.o:=ψ.2.2.1
abbrev xo.aU:=ψ.2.2.2.1
abbrev xo.us:=ψ.2.2.2.2.1
abbrev xo.ws:=ψ.2.2.2.2.2.1
abbrev xo.n:=ψ.2.2.2.2.2.2.1
abbrev xo.aW:=ψ.2.2.2.2.2.2.2
end
def c5(X:xo R):Prop:=RL R X.ws/\X.h[X.aU]?=Qa (.ξ (X.us.ς .Υ))/\X.us≠[]/\(∀u∈X.us,dh u)/\0<X.n/\X.n<=4
section
variable{X:xo R}(ψ:c5 X)
def c5.Z:=@ψ.1
def c5.hU:=@ψ.2.1
def c5.hu:=@ψ.2.2.1
def c5.yp:=@ψ.2.2.2.1
def c5.hn:=@ψ.2.2.2.2.1
def c5.wa:=@ψ.2.2.2.2.2
end
def rx(X:xo R)(a b c d e f:η ab):Ρ.Θ:=Qa (.fl (X.ns.ς .φ))::Qa (.φ X.o)::Qa (.ai (112+R.i))::Qa (.ο X.aU)::Qa (.ϝ Qb)::Qa (.ο X.h.ε)::Qa (.φ X.n)::Qa (.ο X.aW)::a::b::c::d::e::f::nn 6
def px(X:xo R)(k:θ)(s:tw R):Prop:=Mk R X.h s.g X.h.ε s.M [(X.aW,.ξ (X.ws.ς R.e))]/\rk X.us X.n k s.M
section
variable{X:xo R}{k:Nat}{s:tw R}(ψ:px X k s)
def px.H:=@ψ.1
def px.P:=@ψ.2
end
abbrev aB:ζ Sm:=[(Sm.fm (T1.nm 9) (Ex.ϧ (Ex.f8 (ab.ai 137)) [(Ex.Λ 0),(Ex.ew ij.Ϯ (Ex.ew ij.Ϯ (Ex.Λ 1) (Ex.f8 (ab.φ 2))) (Ex.Λ 8))])),(Sm.fm (T1.nm 10) (Ex.ew ij.mod (Ex.Λ 9) (Ex.Λ 6))),(Sm.fm (T1.nm 11) (Ex.ew ij.mod (Ex.ew ij.fdiv (Ex.Λ 9) (Ex.f8 (ab.φ 4))) (Ex.Λ 6))),(Sm.fm (T1.nm 12) (Ex.wr (Ex.Λ 3) (Ex.ew ij.mod (Ex.ew ij.fdiv (Ex.Λ 9) (Ex.f8 (ab.φ 16))) (Ex.ϧ (Ex.f8 (ab.bi 7103854)) [(Ex.Λ 3)])))),(Sm.fm (T1.nm 13) (Ex.wr (Ex.ξ [(Ex.f8 (ab.Υ [97])),(Ex.f8 (ab.Υ [98])),(Ex.f8 (ab.Υ []))]) (Ex.ew ij.mod (Ex.ew ij.fdiv (Ex.Λ 9) (Ex.f8 (ab.φ 48))) (Ex.f8 (ab.φ 3))))),(Sm.fm (T1.nm 11) (Ex.ϧ (Ex.f8 (ab.bi 7168376)) [(Ex.Λ 11),(Ex.ew ij.lv (Ex.ew ij.Ϯ (Ex.Λ 10) (Ex.f8 (ab.φ 1))) (Ex.mh Qe [(Ex.ft ub.eq (Ex.ew ij.Ϯ (Ex.Λ 12) (Ex.Λ 13)) (Ex.f8 (ab.Υ []))),(Ex.Λ 4)]))])),(Sm.ite (Ex.ft ub.lt (Ex.Λ 11) (Ex.Λ 6)) [(Sm.expr (Ex.az (Ex.Λ 5) 6386275 [(Ex.Λ 10),(Ex.Λ 12),(Ex.Λ 13),(Ex.wr (Ex.Λ 7) (Ex.ew ij.mod (Ex.ew ij.fdiv (Ex.Λ 9) (Ex.f8 (ab.φ 144))) (Ex.f8 (ab.φ 3)))),(Ex.Λ 11)]))] [])]
def iG{u:θ}(h:u<3):∃lo,([ab.Υ [97],.Υ [98],.Υ []]:ζ ab)[u]?=Qa (.Υ lo)/\dh lo/\lo∈jm:=by
 rcases u with _|_|_|u
 ·exact⟨[97],rfl,.u8 ⟨97,rfl,by decide+kernel⟩,.mo _⟩
 ·exact⟨[98],rfl,.u8 ⟨98,rfl,by decide+kernel⟩,.lw _ (.mo _)⟩
 ·exact⟨[],rfl,.nb rfl,.lw _ (.lw _ (.mo _))⟩
 ·exact υ h (Zs.Ϩ (Jz _ _))
abbrev b5:ζ Sm:=[(Sm.ite (Ex.ft ub.lt (Ex.Λ 11) (Ex.Λ 6)) [(Sm.expr (Ex.az (Ex.Λ 5) 6386275 [(Ex.Λ 10),(Ex.Λ 12),(Ex.Λ 13),(Ex.wr (Ex.Λ 7) (Ex.ew ij.mod (Ex.ew ij.fdiv (Ex.Λ 9) (Ex.f8 (ab.φ 144))) (Ex.f8 (ab.φ 3)))),(Ex.Λ 11)]))] [])]
theorem sU(hd:1<=d)(ns:ζ Τ)(k:θ)(h:MH):jJ (ah P0 d) (.ai 137) [.fl (ns.ς .φ),.φ k] h=Qa (.φ (cell ns k),h):=fn rfl (RU (d:=d) (k:=k) hd rfl ⟨rfl,rfl⟩)
theorem eP{a b:ζ θ}(ha:a.ε<=1)(hb:b.ε<=1)(h:MH):oZ .Ϯ (.Υ a) (.Υ b) h=Qa (.Υ (a++b),h):=W.eq (N7 (Jm (JH ha hb) (by decide)) ⟨rfl,rfl⟩)
theorem Rl{l:ζ θ}(h:dh l):l.ε<=1:=h.ι (λe=>e▸JF _) λ⟨_,e,_⟩=>e▸Jv _
theorem zfv{a b:Τ}{r:θ}(e:(if b>a then b else a)=(r:Τ))(z:Cx)(h:MH):jJ z (.bi Pp) [.φ a,.φ b] h=Qa (.φ r,h):=W.eq (zaC ⟨by rw[e],rfl⟩)
def zjx{t:θ}{b:Ε}(hb:b=Qe):(if ((s:Τ)+1)*(if b=Qe then 1 else 0)>(t:Τ) then((s:Τ)+1)*(if b=Qe then 1 else 0) else(t:Τ))=((max t (s+1):θ):Τ):=by
 rw[ρ hb,Τ.mul_one]
 split<;>lia
def zjy{t:θ}:(if ((s:Τ)+1)*(if Qb=Qe then 1 else 0)>(t:Τ) then((s:Τ)+1)*(if Qb=Qe then 1 else 0) else(t:Τ))=(t:Τ):=by
 rw[π Zq,Τ.xz]
 split<;>lia
section
variable{X:xo R}(C:c5 X)
include C
theorem zaU(H:Mk R X.h g X.h.ε M [(X.aW,.ξ (X.ws.ς R.e))])(x:Τ):∃i:θ,Xc x 3=i/\∃w,kJ g (.ο X.aW) (.φ i)=Qa (R.e w)/\R.D 1 1 w/\w≠R.Ι:=
 (pQ x (show 0<3 by decide)).ι λi q=>by
  have hi:i<X.ws.ε:=by rw[C.Z.am];exact q.1
  exact⟨i,q.2,X.ws[i],sl (H.ob (.mo _)) (by rw[JA,Jo hi];rfl),C.Z.dg _ (Zg hi)⟩
def zck{T:θ}{x:Τ}{up lo:ζ θ}{s:tw R}(hd:5<=d)(hu:up∈X.us)(l1:dh up)(l2:dh lo/\lo∈jm)(hs:sc<X.n)(hk:k<8)(hT:(up++lo== [])=Qe->sc<T)
  (I:px X k s) (q:∀s',px X (k+1) s'->R' .nx (rx X (vN k) (Qa (.φ x)) (vN sc) (vN T) (Qa (.Υ up)) (Qa (.Υ lo))) s'.g):
  bz (ah P0 d) b5 (rx X (vN k) (Qa (.φ x)) (vN sc) (vN T) (Qa (.Υ up)) (Qa (.Υ lo))) s.g R':=by
 cases (ch:At ((T:Τ)<(X.n:Τ))) with
 |isTrue hlt=>
  refine(zaU C I.H (qar x 144)).ι λwi a=>a.2.ι λw b=>?_;refine xEEAA (W.xL (IU (d:=d) (Q:=λv g=>v=.Δ/\∃M',px X (k+1) ⟨g,M',Qc,Qc,Qc,Qc,Qc,Qc⟩) (s:=sc) (a:=⟨up,lo,w,T⟩) (Jm (by decide) hd) I.H (by rw[I.P.am];exact hs) (by rw[I.P.am];exact(ZF.mp hlt:T<X.n)) l1 l2.1 b.2.1 (by decide) (Jt I.P.ct (Zp hk (by decide))) λg' M' H' _ e=>⟨rfl,M',H',e b.2.2▸I.P.put hs ⟨(ZF.mp hlt:T<X.n),l1,l2.1,b.2.1,b.2.2,λhe=>hT (by rw[show up=[] from(pH he).1,show lo=[] from(pH he).2];rfl),hu,l2.2⟩⟩)) λv g e cw iq=>?_;refine xE iq λM' q'=>?_;refine eqE cw ?_;exact jT (.c<|.t (Ζ hlt)<|.c<|.q (qZ a.1 (by decide))<|.v (b.1)<|.p (e)<|.z (q _ q')) (by kernel_rfl)
 |isFalse hlt=>exact jT (.c<|.f (Γ hlt)<|.z (q s ⟨I.H,I.P.am,I.P.aj,I.P.fy,J4 I.P.ct⟩)) rfl
theorem SM(x:Τ):∃i:θ,i<X.n/\Xc x X.n=i:=pQ x C.hn
theorem Po:(X.n:Τ)≠0:=λe=>υ (KL.mp e▸C.hn) (J3 _)
theorem zdN(x:Τ):∃i:θ,Xc x X.us.ε=i/\∃up,(X.us.ς ab.Υ)[i]?=Qa (.Υ up)/\up∈X.us:=
 (pQ x (qaG.Ϩ C.hu)).ι λi q=>⟨i,q.2,X.us[i]'q.1,by rw[JA,Jo q.1];rfl,Zg q.1⟩
theorem SB:(X.us.ε:Τ)≠0:=λe=>υ (KL.mp e▸qaG.Ϩ C.hu) (J3 _)
def eC{z:Cx}(e:g[X.aU]?=Qa (.ξ (X.us.ς .Υ))):jJ z (.bi uK) [.ο X.aU] g=Qa (.φ X.us.ε,g):=by rw[FU e,Js]
abbrev l3:ae:=.ξ [.Υ [97],.Υ [98],.Υ []]
def zcl{s:tw R}(hd:5<=d)(hk:k<8)(I:px X k s)(q:∀s',px X (k+1) s'->R' .nx (rx X (vN k) s'.b s'.c s'.d s'.e s'.f) s'.g):
  bz (ah P0 d) aB (rx X (vN k) s.b s.c s.d s.e s.f) s.g R':=by
 refine(SM C (cell X.ns (X.o+2+k))).ι λsc a=>(SM C (qar (cell X.ns (X.o+2+k)) 4)).ι λtg b=>(zdN C (qar (cell X.ns (X.o+2+k)) 16)).ι λui c=>c.2.ι λup cc=>(pQ (qar (cell X.ns (X.o+2+k)) 48) (show 0<3 by decide)).ι λli e=>(iG e.1).ι λlo f=>?_;have I1:px X k ⟨s.g++[l3],s.2⟩:=⟨I.H.TF,I.P⟩;have g3:kJ (s.g++[l3]) (.ο s.g.ε) (.φ li)=Qa (.Υ lo):=sl ak f.1;have tail:∀T:θ,((up++lo== [])=Qe->sc<T)->bz (ah P0 d) b5 (rx X (vN k) (Qa (.φ (cell X.ns (X.o+2+k)))) (vN sc) (vN T) (Qa (.Υ up)) (Qa (.Υ lo))) (s.g++[l3]) R':=λT hT=>by
  have:=zck (R':=R') (x:=cell X.ns (X.o+2+k)) C (s:=⟨s.g++[l3],s.2⟩) (T:=T) hd cc.2 (C.yp up cc.2) f.2 a.1 hk hT I1
  exact this λs' I'=>q ⟨s'.1,s'.2.1,s'.2.2.1,Qa (.φ (cell X.ns (X.o+2+k))),vN sc,vN T,Qa (.Υ up),Qa (.Υ lo)⟩ ⟨I'.H,I'.P⟩
 refine mR (a:=aB.ϣ 6) (b:=b5) ?_;refine rY (up++lo== []) (λhe=>?_) λhe=>?_
 ·exact jT (.c2<|.q (sU (Jm (by decide) hd:1<=d) X.ns (X.o+2+k))<|.q (qZ a.2 (Po C))<|.c<|.q (qZ b.2 (Po C))<|.c<|.p (eC C (z:=ah P0 d) (I.H.up C.hU))<|.q (qZ c.1 (SB C))<|.v (sl (I.H.up C.hU) cc.1)<|.at ((s.g++[l3]))<|.c<|.q (qZ e.2 (by decide))<|.v (g3)<|.c<|.q (eP (Rl (C.yp up cc.2)) (Rl f.2.1))<|.k (rd (up++lo) [])<|.t (he)<|.c<|.q (zfv (zjx (s:=sc) (t:=tg) he) (ah P0 d))<|.z (mY (tail (max tg (sc+1)) λ_=>Jw (JT _) (θ.le_max_right _ _)))) (by kernel_rfl)
 ·exact jT (.c2<|.q (sU (Jm (by decide) hd:1<=d) X.ns (X.o+2+k))<|.q (qZ a.2 (Po C))<|.c<|.q (qZ b.2 (Po C))<|.c<|.p (eC C (z:=ah P0 d) (I.H.up C.hU))<|.q (qZ c.1 (SB C))<|.v (sl (I.H.up C.hU) cc.1)<|.at ((s.g++[l3]))<|.c<|.q (qZ e.2 (by decide))<|.v (g3)<|.c<|.q (eP (Rl (C.yp up cc.2)) (Rl f.2.1))<|.k (rd (up++lo) [])<|.f (he)<|.c<|.q (zfv (zjy (s:=sc) (t:=tg)) (ah P0 d))<|.z (mY (tail tg λe=>υ (e.Μ.ν he) JJ))) (by kernel_rfl)
end
end
section
variable{h0:MH}
def Mk.cL{t:MH}(H:Mk R h g m M X)(ha:g.ε<=a)(e:(g++t)[a]?=Qa o):Mk R h (g++t) m M ((a,o)::X):=by
 refine H.x.ι λL0 zq20=>?_;refine⟨⟨L0,zq20.1,zq20.2.1.cu,zq20.2.2.1,λp hp=>?_⟩,H.TF.Ch⟩;rcases JO.mp hp with rfl|hp
 ·exact⟨e,λq=>υ (zq20.2.1.qp q) (by show ¬a<_;exact Zv ha)⟩
 ·exact⟨jA (zq20.2.2.2 p hp).1,(zq20.2.2.2 p hp).2⟩
def rG(us:ζ (ζ θ))(M:Mc R.α):Prop:=kI M 1 1/\nf M/\M.aa.ε<=4/\M.ax<=7/\∀ys∈M.aa,∀a∈ys,a.up∈us/\a.lo∈jm
section
variable{us:List (List Nat)}{M:Mc R.α}(ψ:rG us M)
def rG.g:=@ψ.1
def rG.up:=@ψ.2.1
def rG.n:=@ψ.2.2.1
def rG.c:=@ψ.2.2.2.1
def rG.us:=@ψ.2.2.2.2
end
def IQ:rk us n 0 (lC (M0 (R:=R)) n):=by
 have e:(lC (M0 (R:=R)) n).aa=JU n []/\(lC (M0 (R:=R)) n).aj=JU n R.Ι/\(lC (M0 (R:=R)) n).ax=0:=by
  induction n with
  |zero=>exact⟨rfl,rfl,rfl⟩
  |succ n ih=>
   refine⟨?_,?_,ih.2.2⟩
   ·show _++[[]]=_;rw[ih.1,<-Kw]
   ·show _++[R.Ι]=_;rw[ih.2.1,<-Kw]
 refine⟨by rw[e.1,Zy],λx hx=>?_,λs ys hy a ha=>?_,by rw[e.2.2];exact Jv _⟩
 ·rw[e.2.1] at hx
  rw[Zc hx];exact R.ag (JF _) (JF _) R.bx
 ·rw[e.1] at hy
  rw[Zc (Jr hy)] at ha;exact υ ha JE
theorem rk.end'(P:rk us n k M)(hw:R.D 1 1 w):rk us n k {M with aj:=M.aj.ϩ s w}:=⟨P.am,λe he=>(Z6 he).ι (P.aj e) λq=>q▸hw,P.fy,P.ct⟩
def rk.ok(P:rk us n k M)(hn:0<n)(wa:n<=4)(hk:k<=7)(hw:R.D 1 1 w):rG us {M with start:=0,first:=w}:=by
 have at':∀ys∈M.aa,∃s,M.aa[s]?=Qa ys:=λys hy=>qap.mp hy;refine⟨⟨by show 0<M.aa.ε;rw[P.am];exact hn,λys hy a ha=>?_,hw,P.aj,by decide,by show M.aa.ε<=300;rw[P.am];exact Jm wa (Jz _ _),by show M.ax<=300;exact Jm (Jm P.ct hk) (Jz _ _)⟩,λs ys hy a ha he=>(P.fy s ys hy a ha).2.2.2.2.2.1 he,by show M.aa.ε<=4;rw[P.am];exact wa,by show M.ax<=7;exact Jm P.ct hk,λys hy a ha=>?_⟩
 ·obtain⟨s,hs⟩:=at' ys hy
  have zq18:=P.fy s ys hs a ha;exact⟨by show a.t<M.aa.ε;rw[P.am];exact zq18.1,zq18.2.1,zq18.2.2.1,zq18.2.2.2.1,zq18.2.2.2.2.1⟩
 ·obtain⟨s,hs⟩:=at' ys hy
  exact(P.fy s ys hs a ha).2.2.2.2.2.2
abbrev d6:ζ Sm:=[(Sm.expr (Ex.az (Ex.Λ 5) 422608071022 [(Ex.f8 (ab.φ 0)),(Ex.wr (Ex.Λ 7) (Ex.ew ij.mod (Ex.ϧ (Ex.f8 (ab.ai 137)) [(Ex.Λ 0),(Ex.ew ij.Ϯ (Ex.Λ 1) (Ex.f8 (ab.φ 10)))]) (Ex.f8 (ab.φ 3))))])),(Sm.ret (Ex.Λ 5))]
theorem iJ(R:Rg)(h:MH):getAttr P0 h (.ai (112+R.i)) IG=Qa (.Υ (jW R.i)):=Wo.eq (zeM (Q:=λv _=>v=_) R.hi rfl)
def zfb(R:Rg)(hd:1<=d):∃t,∃a:θ,jJ (ah P0 d) (.ai 138) [.Υ (jW R.i)] h=Qa (.ο a,h++t)/\h.ε<=a/\(h++t)[a]?=Qa (.ξ (ml R.i)):=by
 refine xEEA (W.xL (l5 (P:=P0) (d:=d) rfl (zfa (h:=h) (Q:=λv g=>∃t a,v=.ο a/\g=h++t/\h.ε<=a/\(h++t)[a]?=Qa (.ξ (ml R.i))) R.hi hd λt a h1 h2=>⟨t,a,rfl,rfl,h1,h2⟩))) λv g e cw=>?_;refine xEEAA cw λt a iq qi q=>?_;subst iq;subst qi;exact⟨t,a,e,q⟩
def zcm{ws:ζ R.α}(hd:4<=d)(Z:RL R ws)(hn:n<=4):∃g0:MH,jJ (ah P0 d) (.ai 121) [.ai (112+R.i)] h=Qa (.ο h.ε,g0)/\∃v,∃g1:MH,j1 (ah P0 d) (.ο h.ε) 126943688418675 [.φ n] g0 g0=Qa (v,g1)/\∃aW:θ,∃s:tw R,jJ (ah P0 d) (.ai 138) [.Υ (jW R.i)] g1=Qa (.ο aW,s.g)/\Mk R h s.g h.ε s.M [(aW,.ξ (ws.ς R.e))]/\rk us n 0 s.M:=by
 refine(IT R h (d:=d) (Jm (by decide) hd)).ι λg0 a=>?_;refine(FQ (n:=n) (d:=d) (Jm (by decide) hd) a.2 (by show 0+n<10000;exact Jt (by rw[ZK];exact hn) (by decide))).ι λv b=>b.ι λg1 b=>?_;refine(zfb (h:=g1) R (d:=d) (Jm (by decide) hd)).ι λt zq7=>zq7.ι λaW zq8=>?_;exact⟨g0,a.1,v,g1,b.1,aW,⟨g1++t,_,Qc,Qc,Qc,Qc,Qc,Qc⟩,zq8.1,b.2.cL zq8.2.1 (Z.e▸zq8.2.2),IQ⟩
section
variable{X:xo R}(C:c5 X)
include C
def I9{s:tw R}{a b c e f o:η ab}(hd:5<=d)(hk:k<=7)(I:px X k s)(q:∀g M,Mk R X.h g X.h.ε M []->rG X.us M->Q (.ο X.h.ε) g):bz (ah P0 d) d6 (rx X a b c e f o) s.g (Ρ.Fin Q):=by
 refine(zaU C I.H (cell X.ns (X.o+10))).ι λi u=>u.2.ι λw v=>?_;refine(HF (d:=d) (s:=0) (Jm (by decide) hd) I.H (by rw[I.P.am];exact C.hn) v.2.1 (by decide)).ι λg5 a=>?_;exact jT (.c<|.q (sU (d:=d) (Jm (by decide) hd) X.ns (X.o+10))<|.q (qZ u.1 (by decide))<|.v (v.1)<|.p a.1<|.z (q g5 _ a.2.bn (I.P.ok C.hn C.wa hk v.2.1))) (by kernel_rfl)
abbrev iH:ζ Sm:=(j5.bn 5).ϣ 2
def zco{s:tw R}(hd:5<=d)(hk:k<=7)(I:px X k s)(q:∀g M,Mk R X.h g X.h.ε M []->rG X.us M->Q (.ο X.h.ε) g):bz (ah P0 d) (j5.bn 5) (rx X s.a s.b s.c s.d s.e s.f) s.g (Ρ.Fin Q):=by
 have d1:1<=d:=Jm (by decide) hd;refine(zaU C I.H (cell X.ns (X.o+9))).ι λi u=>u.2.ι λw v=>(pQ (cell X.ns (X.o+9)) (show 0<2 by decide)).ι λr y=>?_;refine xEA (zcd (d:=d) (s:=X.n-1) (Jm (by decide) hd) I.H (by rw[I.P.am];exact qaN C.hn qbs) v.2.1 (by decide)) λg4 e4 H4=>?_;have I4:px X k ⟨g4,{s.M with aj:=s.M.aj.ϩ (X.n-1) w} ,s.2.2⟩:=⟨H4,I.P.end' v.2.1⟩;have eN:oZ .wr (.φ X.n) (.φ 1) s.g=Qa (.φ (X.n-1:θ),s.g):=by
  show Qa (ab.φ ((X.n:Τ) -1),s.g)=_;rw[show (X.n:Τ) -1=((X.n-1:θ):Τ) from(Τ.ofNat_sub C.hn).Μ]
 refine mR (a:=iH) (b:=d6) ?_;cases (ch:At ((r:Τ)=1)) with
 |isFalse hr=>exact jT (.p (eN)<|.c<|.q (sU d1 X.ns (X.o+9))<|.q (qZ u.1 (by decide))<|.v (v.1)<|.p (e4)<|.c<|.q (sU d1 X.ns (X.o+9))<|.q (qZ y.2 (by decide))<|.k (tc r 1)<|.f (Ϟ hr)<|.z (mY (I9 C (a:=s.a) (b:=s.b) (c:=s.c) (e:=s.d) (f:=s.e) (o:=s.f) hd hk I4 q))) (by kernel_rfl)
 |isTrue hr=>
  refine xEA (P9 (d:=d) (s:=0) (Jm (by decide) hd) I4.H (by show 0<s.M.aa.ε;rw[I.P.am];exact C.hn)) λg5 e5 H5=>?_;have I5:px X k ⟨g5,{s.M with aj:=(s.M.aj.ϩ (X.n-1) w).ϩ 0 R.da} ,s.2.2⟩:=⟨H5,(I.P.end' (s:=X.n-1) v.2.1).end' (s:=0) (R.ag (JF _) (JF _) R.gr)⟩;exact jT (.p (eN)<|.c<|.q (sU d1 X.ns (X.o+9))<|.q (qZ u.1 (by decide))<|.v (v.1)<|.p (e4)<|.c<|.q (sU d1 X.ns (X.o+9))<|.q (qZ y.2 (by decide))<|.k (tc r 1)<|.t (Β.Ϩ hr)<|.p e5<|.z (mY (I9 C (a:=s.a) (b:=s.b) (c:=s.c) (e:=s.d) (f:=s.e) (o:=s.f) hd hk I5 q))) (by kernel_rfl)
abbrev d7:Ex:=.ϧ (.f8 (.ty 491260897125)) [.ew .Ϯ (.f8 (.φ 2)) (.ew .mod (.ϧ (.f8 (.ai 137)) [.Λ 0,.ew .Ϯ (.Λ 1) (.f8 (.φ 1))]) (.f8 (.φ 6)))]
def zcn{s:tw R}(hd:5<=d)(I:px X 0 s):∃k s',k<=7/\px X k s'/\exec (ah P0 d) (.fo [8] Qb d7 aB) (rx X s.a s.b s.c s.d s.e s.f) s.g=Qa ((.nx,rx X s'.a s'.b s'.c s'.d s'.e s'.f),s'.g):=by
 refine(pQ (cell X.ns (X.o+1)) (show 0<6 by decide)).ι λk0 y=>?_;have hk:2+k0<=7:=Jp (J7 y.1) 2;refine(lm (c:=ah P0 d) (x:=8) (n:=2+k0) (e:=d7) (b:=aB) (λs:tw R=>rx X s.a s.b s.c s.d s.e s.f) tw.g (λk s=>px X k s) s (Jm hk (by decide)) rfl (by exact j2 (.c<|.q (sU (d:=d) (Jm (by decide) hd) X.ns (X.o+1))<|.q (qZ y.2 (by decide))<|.c2<|.z (cg (.gb (2+k0:θ)) s.g)) (by kernel_rfl)) I λk s R1 _ hk' I1 C1=>zcl C hd (Jw hk' (Jm hk (by decide))) I1 λs' I'=>C1.nx ⟨s'.1,s'.2.1,vN k,s'.2.2.2⟩ ⟨I'.H,I'.P⟩).ι λs' q=>⟨2+k0,s',hk,q⟩
end
def zfd{at':θ}{ws:ζ R.α}(hd:6<=d)(Z:RL R ws)(hU:h[aU]?=Qa (.ξ (us.ς .Υ)))(hu:us≠[])(yp:∀u∈us,dh u)
  (q:∀g M,Mk R h g h.ε M []->rG us M->Q (.ο h.ε) g):WF P0 d 139 [.fl (ns.ς .φ),.φ at',.ai (112+R.i),.ο aU,.ϝ Qb] h Q:=by
 refine j7 (K:=5) hd (Qa (.fl (ns.ς .φ))::Qa (.φ at')::Qa (.ai (112+R.i))::Qa (.ο aU)::Qa (.ϝ Qb)::nn 15) j5 rfl λd' h'=>?_;refine(pQ (cell ns at') (show 0<4 by decide)).ι λn0 y=>?_;have wa:1+n0<=4:=Jp (J7 y.1) 1;refine(zcm (d:=d') (h:=h) (us:=us) (Jm (by decide) h') Z wa).ι λg0 a=>a.2.ι λv b=>b.ι λg1 c=>c.2.ι λaW e=>e.ι λs f=>?_;have C:c5 (⟨h,ns,at',aU,us,ws,1+n0,aW⟩:xo R):=⟨Z,hU,hu,yp,Jw qbs (Jq _ _),wa⟩;exact(zcn C (d:=d') (s:=⟨s.1,s.2.1,Qc,Qc,Qc,Qc,Qc,Qc⟩) h' ⟨f.2.1,f.2.2⟩).ι λk z=>z.ι λs' w=>mR (a:=j5.ϣ 5) (b:=j5.bn 5) (jT (.p (a.1)<|.q (sU (d:=d') (Jm (by decide) h') ns at')<|.q (qZ y.2 (by decide))<|.c<|.p (c.1)<|.w (iJ R)<|.p (f.1)<|.s (w.2.2)<|.z (mY (zco C h' w.1 w.2.1 q))) (by kernel_rfl))
end
variable{M1:Mc R.α}{L1:Ly}
section
variable{h0:MH}
def shA(k:θ)(a:Ar R.α):Ar R.α:= ⟨a.1,a.2.1,a.2.2.1,a.t+k⟩
def Ma(N c:θ)(A:θ->ζ (Ar R.α))(es:ζ R.α)(M:Mc R.α):Prop:=M.aa.ε=N/\(∀s,s<N->bp M s=A s)/\M.ax<=c/\M.aj=es/\M.Ϥ=0/\M.jp=R.da
section
variable{N c:Nat}{A:Nat->List (Ar R.α)}{es:List R.α}{M:Mc R.α}(ψ:Ma N c A es M)
def Ma.am:=@ψ.1
def Ma.Hd:=@ψ.2.1
def Ma.ct:=@ψ.2.2.1
def Ma.es:=@ψ.2.2.2.1
def Ma.st:=@ψ.2.2.2.2.1
def Ma.fi:=@ψ.2.2.2.2.2
end
def AG(A:θ->ζ (Ar R.α))(s:θ)(a:Ar R.α):θ->ζ (Ar R.α):=λs'=>if s=s' then A s++ @ite _ (a.w=R.Ι) (R.gi _ _) [] [a] else A s'
def Ma.put{A:θ->ζ (Ar R.α)}{es:ζ R.α}{a:Ar R.α}{M':Mc R.α}(H:Ma N c A es M)(hs:s<N)(h1:a.w=R.Ι->M'=M)(h2:a.w≠R.Ι->M'=M.fy s a):Ma N (c+1) (AG A s a) es M':=by
 by_cases hz:a.w=R.Ι
 ·rw[h1 hz]
  refine⟨H.am,λs' hs'=>?_,J4 H.ct,H.es,H.st,H.fi⟩;delta AG;by_cases e:s=s'
  ·refine eqE e ?_
   rw[ρ rfl,ρ hz,Zi];exact H.Hd s hs
  ·rw[π e];exact H.Hd s' hs'
 ·rw[h2 hz]
  refine⟨by show (qaW _ _ _).ε=_;rw[J0];exact H.am,λs' hs'=>?_,Zf H.ct,H.es,H.st,H.fi⟩;delta AG;show (M.aa.ϩ s (M.aa[s]?.bm []++[a]))[s']?.bm []=_;by_cases e:s=s'
  ·refine eqE e ?_
   rw[JX (by rw[H.am];exact hs:s<M.aa.ε),ρ rfl,π hz,<-H.Hd s hs];rfl
  ·rw[JZ e,π e];exact H.Hd s' hs'
def oJ(A:θ->ζ (Ar R.α))(M1:Mc R.α)(k i j:θ):θ->ζ (Ar R.α):=λs=>A s++if k<=s then(vH M1 i j (s-k)).ς (shA k) else[]
theorem Bp{A:θ->ζ (Ar R.α)}:oJ A M1 k 0 0=A:=funext λs=>by
 delta oJ;have e:vH M1 0 0 (s-k)=[]:=by
  delta vH;rw[π (Zb _)];by_cases h:s-k=0
  ·exact(ρ h)
  ·exact(π h)
 rw[e];by_cases h:k<=s
 ·rw[ρ h];exact Zi _
 ·rw[π h];exact Zi _
theorem Bu{A:θ->ζ (Ar R.α)}:oJ A M1 k i (bp M1 i).ε=oJ A M1 k (i+1) 0:=funext λs=>by
 delta oJ
 congr 2
 congr 1
 delta vH;by_cases h1:s-k<i
 ·rw[ρ h1,ρ (Zu h1)]
 ·rw[π h1]
  by_cases h2:s-k=i
  ·rw[ρ h2,ρ (JV (JC h2)),h2,JW]
  ·rw[π h2,π (Zv (J9 (ZI (Zr h1) (Ki h2))))]
   by_cases h3:s-k=i+1
   ·rw[ρ h3];rfl
   ·rw[π h3]
theorem Bq{A:θ->ζ (Ar R.α)}{a:Ar R.α}(ha:(bp M1 i)[j]?=Qa a)(hz:a.w≠R.Ι):oJ A M1 k i (j+1)=AG (oJ A M1 k i j) (i+k) (shA k a):=funext λs=>by
 have hz':¬(shA k a).w=R.Ι:=hz;delta AG;by_cases e:i+k=s
 ·subst e
  rw[ρ rfl,π hz'];delta oJ;simp only[ρ (Jz _ _),ρ (Jz _ _),θ.add_sub_cancel,yB,yB,wG ha,JR,JB];rfl
 ·rw[π e]
  delta oJ;by_cases hk:k<=s
  ·rw[ρ hk,ρ hk]
   congr 2
   delta vH;by_cases h1:s-k<i
   ·rw[ρ h1,ρ h1]
   ·rw[π h1,π h1,π (by lia),π (by lia)]
  ·rw[π hk,π hk]
structure UC(R:Rg) where
 g:MH
 M:Mc R.α
 a:η ab:=Qc
 b:η ab:=Qc
def UD(R:Rg)(h:MH)(m:θ)(X:ζ (θ×ae))(N c:θ)(A:θ->ζ (Ar R.α))(es:ζ R.α)(s:UC R):Prop:=Mk R h s.g m s.M X/\Ma N c A es s.M
section
variable{R:Rg}{h:MH}{m:Nat}{X:List (Nat×ae)}{N c:Nat}{A:Nat->List (Ar R.α)}{es:List R.α}{s:UC R}(ψ:UD R h m X N c A es s)
def UD.H:=@ψ.1
def UD.P:=@ψ.2
end
def atF(m m1 k:θ)(a b:η ab):Ρ.Θ:=Qa (.ο m)::Qa (.ο m1)::Qa (.φ k)::a::b::nn 6
abbrev atA:ζ Sm:=[.expr (.az (.Λ 0) 6386275 [.ew .Ϯ (.Λ 3) (.Λ 2),.aq (.Λ 4) 504397587826,.aq (.Λ 4) 465726563698,.aq (.Λ 4) 131277443786868,.ew .Ϯ (.aq (.Λ 4) 127961880028532) (.Λ 2)])]
def mkA{q0:θ}{A:θ->ζ (Ar R.α)}{es:ζ R.α}{a:Ar R.α}{s0:UC R}(hd:4<=d)(S:UD R h m X N c A es s0)(hs:s<N)(ht:a.t<N)(lu:dh a.up)(ll:dh a.lo)(hw:R.D p q0 a.w)(hl:4*p+q0<=3800)(hc:c<100000):
  ∃s':UC R,j1 (ah P0 d) (.ο m) Mm [.φ s,.Υ a.up,.Υ a.lo,R.e a.w,.φ a.t] s0.g s0.g=Qa (.Δ,s'.g)/\UD R h m X N (c+1) (AG A s a) es s':=by
 refine(W.xL (IU (Q:=λv g=>v=.Δ/\∃M',UD R h m X N (c+1) (AG A s a) es ⟨g,M',Qc,Qc⟩) hd S.H (by rw[S.P.am];exact hs) (by rw[S.P.am];exact ht) lu ll hw hl (Jt S.P.ct hc) λg' M' H' h1 h2=>⟨rfl,M',H',S.P.put hs h1 h2⟩)).ι λv zq1=>zq1.ι λg zq2=>?_;refine eqE zq2.2.1 ?_;refine zq2.2.2.ι λM' zq3=>?_;exact⟨_,zq2.1,zq3⟩
def Mk.im(H:Mk R h g m M X)(I:ao R h L M1):ao R g L M1:=by obtain⟨t,rfl⟩:=H.Ch;exact I.cu
def zcV{q0:θ}{A:θ->ζ (Ar R.α)}{es:ζ R.α}{a:Ar R.α}{s:UC R}(hd:5<=d)(hb:h[b]?=Qa (lP R a))(ga:a.t+k<N/\dh a.up/\dh a.lo/\R.D p q0 a.w/\a.w≠R.Ι)(hl:4*p+q0<=3800)(hi:i+k<N)(hc:c<100000)(ha:(bp M1 i)[j]?=Qa a)(S:UD R h m X N c (oJ A M1 k i j) es s)
  (q:∀s',UD R h m X N (c+1) (oJ A M1 k i (j+1)) es s'->R' .nx (atF m L1.m k (vN i) s'.b) s'.g):bz (ah P0 d) atA (atF m L1.m k (vN i) (vR b)) s.g R':=by
 have hB:=S.H.up hb;refine(mkA (d:=d) (a:=shA k a) (Jm (by decide) hd) S hi ga.1 ga.2.1 ga.2.2.1 ga.2.2.2.1 hl hc).ι λs' e=>?_;have N:UD R h m X N (c+1) (oJ A M1 k i (j+1)) es {s' with b:=vR b}:=by rw[Bq ha ga.2.2.2.2];exact⟨e.2.H,e.2.P⟩
 exact jT (.c<|.v (oh hB)<|.v (oi hB)<|.v (ur hB)<|.v (ry hB)<|.c<|.p (e.1)<|.z (q _ N)) (by kernel_rfl)
end
section
variable{h0:MH}
def zcW{q0:θ}{A:θ->ζ (Ar R.α)}{es:ζ R.α}{s:UC R}(hd:5<=d)(I:ao R h L1 M1)(G:kI M1 p q0)(hi:i<M1.aa.ε)(hN:M1.aa.ε+k<=N)(hc:c+(bp M1 i).ε<100000)(S:UD R h m X N c (oJ A M1 k i 0) es s):
  ∃s',UD R h m X N (c+(bp M1 i).ε) (oJ A M1 k (i+1) 0) es s'/\exec (ah P0 d) (.fo [4] Qb (.wr (.aq (.Λ 1) jY) (.Λ 3)) atA) (atF m L1.m k (vN i) s.b) s.g=Qa ((.nx,atF m L1.m k (vN i) s'.b),s'.g):=by
 refine(I.ng hi).ι λr zq12=>zq12.ι λas zq13=>?_;refine(pb (c:=ah P0 d) (tg:=[4]) (many:=Qb) (a:=r) (e:=.wr (.aq (.Λ 1) jY) (.Λ 3)) (b:=atA) (vs:=as.ς .ο) (λs':UC R=>atF m L1.m k (vN i) s'.b) UC.g (λj s'=>UD R h m X N (c+j) (oJ A M1 k i j) es s') s (zq13.2.1.le I zq13.2.2) rfl (λj s' S2=>S2.H.up zq13.2.1.l) (by exact j2 (.v (mW (S.H.im I))<|.v (sl (S.H.im I).aa zq13.1)<|.z (cg (.ο r) s.g)) (by kernel_rfl)) S λj v s' R1 _ hv S2 C2=>?_).ι λs' e=>⟨s',by rw[<-Bu];exact zq13.2.1.n▸e.1,e.2⟩;refine(zq13.2.1.a j v hv).ι λb zq10=>zq10.ι λx zq11=>?_;refine eqB zq11.1 ?_;exact kP (zcV hd zq11.2.2 ⟨Jw (Xd (G.fy _ zq13.2.2 x (Jr zq11.2.1)).1 k) hN,(G.fy _ zq13.2.2 x (Jr zq11.2.1)).2⟩ G.bd (Jw (Xd hi k) hN) (Jt (Jp (JL (jI zq11.2.1)) c) hc) zq11.2.1 S2 C2.nx)
def Bo{q0:θ}{A:θ->ζ (Ar R.α)}{es:ζ R.α}{s:UC R}(hd:6<=d)(I:ao R h L1 M1)(G:kI M1 p q0)(S:UD R h m X N c A es s)(hN:M1.aa.ε+k<=N)(hc:c+M1.ax<100000):
  ∃s':UC R,jJ (ah P0 d) (.ai 122) [.ο m,.ο L1.m,.φ k] s.g=Qa (.Δ,s'.g)/\UD R h m X N (c+M1.ax) (oJ A M1 k M1.aa.ε 0) es s':=by
 have w:WF P0 d 122 [.ο m,.ο L1.m,.φ k] s.g λv g=>v=.Δ/\∃s':UC R,g=s'.g/\UD R h m X N (c+M1.ax) (oJ A M1 k M1.aa.ε 0) es s':=by
  refine j7 (K:=5) hd (Qa (.ο m)::Qa (.ο L1.m)::Qa (.φ k)::nn 8) pM (by kernel_rfl) λd' h'=>?_;refine(lm (c:=ah P0 d') (x:=3) (n:=M1.aa.ε) (e:=.ϧ (.f8 (.ty 491260897125)) [.az (.Λ 1) sP []]) (b:=[.fo [4] Qb (.wr (.aq (.Λ 1) jY) (.Λ 3)) atA]) (λs:UC R=>atF m L1.m k s.a s.b) UC.g (λi s=>UD R h m X N (c+mC M1 i) (oJ A M1 k i 0) es s) ⟨s.g,s.M,Qc,Qc⟩ (Ah I) rfl (by exact j2 (.p (pF (Jm (by decide) h') (S.H.im I))<|.c<|.z (cg (.gb M1.aa.ε) s.g)) (by kernel_rfl)) (by rw[Bp];exact⟨S.H,S.P⟩) λi s R1 _ hi S1 C1=>?_).ι λs' e=>?_
  ·refine(zcW (d:=d') h' I G hi hN (Jt (by rw[J6,<-(qD (M:=M1) hi)];exact Jp (tD I _) c) hc) S1).ι λs' e=>?_
   have N':UD R h m X N (c+mC M1 (i+1)) (oJ A M1 k (i+1) 0) es {s' with a:=vN i}:=by rw[(qD (M:=M1) hi),<-J6];exact⟨e.1.H,e.1.P⟩
   exact jT (.s (e.2)<|.z (C1.nx _ N')) (by kernel_rfl)
  ·exact jT (.s (e.2)<|.z ((show ab.Δ=.Δ/\∃s2:UC R,s'.g=s2.g/\UD R h m X N (c+M1.ax) (oJ A M1 k M1.aa.ε 0) es s2 from⟨rfl,s',rfl,((by unfold mC;rw[JW,I.ct]:mC M1 M1.aa.ε=M1.ax)▸e.1:UD R h m X N (c+M1.ax) (oJ A M1 k M1.aa.ε 0) es s')⟩))) (by kernel_rfl)
 refine(W.xL (l5 (P:=P0) rfl w)).ι λv zq7=>zq7.ι λg zq8=>?_;refine eqE zq8.2.1 ?_;refine zq8.2.2.ι λs' zq9=>?_;obtain rfl:=zq9.1;exact⟨s',zq8.1,zq9.2⟩
def IR:Ma n 0 (λ_=>[]) (JU n R.Ι) (lC (M0 (R:=R)) n):=by
 have e:(lC (M0 (R:=R)) n).aa=JU n []/\(lC (M0 (R:=R)) n).aj=JU n R.Ι/\(lC (M0 (R:=R)) n).ax=0/\(lC (M0 (R:=R)) n).Ϥ=0/\(lC (M0 (R:=R)) n).jp=R.da:=by
  induction n with
  |zero=>exact⟨rfl,rfl,rfl,rfl,rfl⟩
  |succ n ih=>
   refine⟨?_,?_,ih.2.2.1,ih.2.2.2.1,ih.2.2.2.2⟩
   ·show _++[[]]=_;rw[ih.1,<-Kw]
   ·show _++[R.Ι]=_;rw[ih.2.1,<-Kw]
 refine⟨by rw[e.1,Zy],λs hs=>?_,JC e.2.2.1,e.2.1,e.2.2.2.1,e.2.2.2.2⟩;delta bp;rw[e.1,Kg,ρ hs];rfl
end
variable{M2:Mc R.α}{L2 LB:Ly}
section
variable{h0:MH}{B:Mc R.α}{l:List Nat}
def zi8:∀n,n<5->∀c,c<8->∀x,x<3->∀y,y<3->1+(x+1)*(y+1)*(c+1)<100000/\(1+1*n)*(x+y+2)<=30/\(1+((1+c)*n+n+1+n))*(x+y+2)+(1+(x+1)*(y+1)*(c+1)+n)<=329:=by decide+kernel
def kf(M:Mc R.α)(u l:ζ θ):R.α:=R.lv M.jp (Bv M u l 0 0 M.Ϥ)
def pg(u:ζ θ):Prop:=u.ε<=2/\∀c∈u,zI c=Qe
section
variable{u:List Nat}(ψ:pg u)
def pg.n:=@ψ.1
def pg.c:=@ψ.2
end
theorem pg.ϣ(w:pg u)(i:θ):pg (u.ϣ i):=⟨Jm (ζ.Tu _ _) w.n,λc hc=>w.c c (Z4 hc)⟩
theorem pg.bn(w:pg u)(i:θ):pg (u.bn i):=⟨Jm (by rw[YY];exact qag _ _) w.n,λc hc=>w.c c (qat hc)⟩
def zdA(hd:10<=d)(ne:R.da≠R.Ι)(I:ao R g L M)(G:kI M p k)(U:nf M)(hn:M.aa.ε<=60)(wu:pg u)(wl:pg l)(cl:1+(u.ε+1)*(l.ε+1)*(M.ax+1)<100000)(bd2:4*p+(k+300)<=3800)
  (hbd:4*((p+p*M.aa.ε)*(u.ε+l.ε+2))+((k+((k+M.ax)*M.aa.ε+M.aa.ε+1+M.aa.ε))*(u.ε+l.ε+2)+(1+(u.ε+1)*(l.ε+1)*(M.ax+1)+M.aa.ε))<=3800):
  ∃t,jJ (ah P0 d) (.ai 106) [.ο L.m,.Υ u,.Υ l] g=Qa (R.e (kf M u l),g++t)/\R.D ((p+p*M.aa.ε)*(u.ε+l.ε+2)) ((k+((k+M.ax)*M.aa.ε+M.aa.ε+1+M.aa.ε))*(u.ε+l.ε+2)+(1+(u.ε+1)*(l.ε+1)*(M.ax+1)+M.aa.ε)) (kf M u l):=by
 refine(W.xL (l5 (P:=P0) rfl (DE (Q:=λv g'=>∃t,v=R.e (kf M u l)/\g'=g++t/\R.D _ _ (kf M u l)) hd I G U ne hn wu.c wl.c (Jm wu.n (by decide)) (Jm wl.n (by decide)) cl bd2 hbd λt hD=>⟨t,rfl,rfl,hD⟩))).ι λv zq6=>zq6.ι λg' zq7=>zq7.2.ι λt zq8=>?_;refine eqE zq8.1 ?_;obtain rfl:=zq8.2.1;exact⟨t,zq7.1,zq8.2.2⟩
def zaD(hd:10<=d)(ne:R.da≠R.Ι)(I:ao R g L M)(Z:rG us M)(wu:pg u)(wl:pg l):∃t,jJ (ah P0 d) (.ai 106) [.ο L.m,.Υ u,.Υ l] g=Qa (R.e (kf M u l),g++t)/\R.D 30 329 (kf M u l):=by
 have b:=zi8 M.aa.ε (JV Z.n) M.ax (JV Z.c) u.ε (JV wu.n) l.ε (JV wl.n);exact(zdA hd ne I Z.g Z.up (Jm Z.n (by decide)) wu wl b.1 (by decide) (Jm (JH (JD 4 b.2.1) b.2.2) (by decide))).ι λt q=>⟨t,q.1,R.ag b.2.1 b.2.2 q.2⟩
def wds:ζ (ζ θ):=[[],[97],[98],[97,97],[97,98],[98,97],[98,98]]
def zdJ(hi:i<7):∃w,(wds.ς ab.Υ)[i]?=Qa (.Υ w)/\pg w/\w∈wds:=by
 have:∀w∈wds,w.ε<=2/\∀c∈w,zI c=true:=by decide+kernel
 have:=this _ (Zg hi)
 exact⟨wds[i],by rw[JA,Jo hi];rfl,⟨this.1,this.2⟩,Zg hi⟩
theorem zkc(W:g[a]?=Qa (.ξ (wds.ς .Υ)))(x:Τ):∃i:θ,Xc x 7=i/\∃w,kJ g (.ο a) (.φ i)=Qa (.Υ w)/\pg w/\w∈wds:=
 (pQ x (show 0<7 by decide)).ι λi q=>⟨i,q.2,(zdJ q.1).ι λw a=>⟨w,sl W a.1,a.2⟩⟩
theorem Rk:∀u∈jm,dh u:=λu hu=>by
 delta jm at hu;simp only[JO,JE,or_false] at hu;rcases hu with rfl|rfl|rfl
 ·exact .u8 ⟨97,rfl,by decide+kernel⟩
 ·exact .u8 ⟨98,rfl,by decide+kernel⟩
 ·exact .nb rfl
def zfe{ws:ζ R.α}(hu:us≠[])(hl:∀u∈us,u∈jm)(Z:RL R ws)(ns:ζ Τ)(k:θ):∃M:Mc R.α,rG us M/\∃g',jJ (ah P0 60) (.ai 139) [.fl (ns.ς .φ),.φ k,.ai (112+R.i),.ο g.ε,.ϝ Qb] (g++[.ξ (us.ς .Υ)])=Qa (.ο (g++[ae.ξ (us.ς .Υ)]).ε,g')/\∃L,L.m=(g++[ae.ξ (us.ς .Υ)]).ε/\ao R g' L M/\∃t,g'=g++t:=by
 refine xEEA (W.xL (l5 (P:=P0) (d:=60) (h:=g++[.ξ (us.ς .Υ)]) rfl (zfd (Q:=λv g'=>∃M:Mc R.α,v=.ο (g++[ae.ξ (us.ς .Υ)]).ε/\rG us M/\Mk R (g++[.ξ (us.ς .Υ)]) g' (g++[ae.ξ (us.ς .Υ)]).ε M []) (ns:=ns) (us:=us) (ws:=ws) (at':=k) (by decide) Z ak hu (λu q=>Rk u (hl u q)) λg1 M1 H1 Z1=>⟨M1,rfl,Z1,H1⟩))) λv g' e cw=>?_;refine xEAA cw λM iq Z1 H=>?_;refine eqE iq ?_;refine H.x.ι λL zq2=>?_;refine xE H.Ch λt ht=>?_;exact⟨M,Z1,g',e,L,zq2.1,zq2.2.1,_,by rw[ht,JB]⟩
end
def IZ{a b c w:α}{P:α->Prop}(h:w∈ [a,b,c])(h1:P a)(h2:P b)(h3:P c):P w:=by
 simp only[JO,JE,or_false] at h;rcases h with rfl|rfl|rfl
 ·exact h1
 ·exact h2
 ·exact h3
theorem fY:RL zdf [Qe,Qe,Qe]:=⟨show Qe≠Qb by decide,rfl,λw hw=>IZ (P:=λw=>zdf.D 1 1 w/\w≠zdf.Ι) hw ⟨trivial,show Qe≠Qb by decide⟩ ⟨trivial,show Qe≠Qb by decide⟩ ⟨trivial,show Qe≠Qb by decide⟩,rfl⟩
theorem lD(h:n<=3):Lq.D 1 1 (Qa n)/\(Qa n:η θ)≠none:=⟨λm e=>by refine lN e ?_;exact h,nofun⟩
theorem fX:RL Lq [Qa 0,Qa 1,Qa 3]:=⟨show (Qa 0:η θ)≠Qc from nofun,rfl,λw hw=>IZ (P:=λw=>Lq.D 1 1 w/\w≠Lq.Ι) hw (lD (by decide)) (lD (by decide)) (lD (by decide)),rfl⟩
theorem fW:RL AJ [(1:θ),(1:θ),(2:θ)]:=⟨show (1:θ)≠0 by decide,rfl,λw hw=>IZ (P:=λw=>AJ.D 1 1 w/\w≠AJ.Ι) hw ⟨show 1<=2 ^ 1 by decide,show (1:θ)≠0 by decide⟩ ⟨show 1<=2 ^ 1 by decide,show (1:θ)≠0 by decide⟩ ⟨show 2<=2 ^ 1 by decide,show (2:θ)≠0 by decide⟩,rfl⟩
def sj(n:θ)(h:n≠0):QN:=⟨⟨1,n,h,θ.coprime_one_left n⟩,Rat.num_nonneg.mp (show (0:Τ)<=1 by decide)⟩
def rJ{h:n≠0}(hd:n ∣ 12):DQ 1 1 (sj n h)/\DL 1 1 (sj n h)/\sj n h≠ ⟨0,Rat.le_refl⟩:=by
 refine⟨⟨by rw[qbt];exact hd,by show 1<=2 ^ 1*n;lia⟩,⟨by rw[qbt];exact hd,(Yd h:1<=n)⟩,λe=>?_⟩;have e:(1:Τ)=0:=χ (λq:QN=>q.1.num) e;exact υ e (by decide)
theorem SO:(⟨1,bL⟩:QN)≠ ⟨0,Rat.le_refl⟩:=λe=>by
 exact υ (χ (λq:QN=>q.1.num) e:(1:Τ)=0) (by decide)
theorem fV:RL Lr [sj 4 (by decide),sj 3 (by decide),sj 2 (by decide)]:=⟨SO,rfl,λw hw=>IZ (P:=λw=>Lr.D 1 1 w/\w≠Lr.Ι) hw ⟨(rJ ⟨3,rfl⟩).1,(rJ ⟨3,rfl⟩).2.2⟩ ⟨(rJ ⟨4,rfl⟩).1,(rJ ⟨4,rfl⟩).2.2⟩ ⟨(rJ ⟨6,rfl⟩).1,(rJ ⟨6,rfl⟩).2.2⟩,rfl⟩
theorem fU:RL Lp [sj 2 (by decide),sj 3 (by decide),sj 1 (by decide)]:=⟨SO,rfl,λw hw=>IZ (P:=λw=>Lp.D 1 1 w/\w≠Lp.Ι) hw ⟨(rJ ⟨6,rfl⟩).2.1,(rJ ⟨6,rfl⟩).2.2⟩ ⟨(rJ ⟨4,rfl⟩).2.1,(rJ ⟨4,rfl⟩).2.2⟩ ⟨(rJ ⟨12,rfl⟩).2.1,(rJ ⟨12,rfl⟩).2.2⟩,rfl⟩
abbrev WW:=ζ θ×ζ θ
def pre(k t:WW):Ε:=k.1.Sc t.1 && k.2.Sc t.2
def Bt(M:Mc R.α)(t k:WW)(s:θ):R.α:=bif pre k t then Bv M t.1 t.2 k.1.ε k.2.ε s else R.Ι
def iz(k:WW)(a:Ar R.α):WW:=(k.1++a.up,k.2++a.lo)
def jw(N:θ)(k:WW)(a:Ar R.α):Ε:=!a.fq && decide (max (k.1.ε+a.up.ε) (k.2.ε+a.lo.ε)<=N)
def rT(N:θ)(M:Mc R.α)(t k:WW)(xs:ζ (Ar R.α)):R.α:=pO (xs.ς λa=>bif jw N k a then R.lv a.w (Bt M t (iz k a) a.t) else R.Ι)
def GJ{k s:ζ θ}(h:k.Sc u=Qe)(hs:dh s):(k++s).Sc u=kc u k.ε s:=by
 obtain⟨r,rfl⟩:=ζ.ϡ.mp h;rcases hs with rfl| ⟨c,rfl,_⟩
 ·rw[Zi];exact h
 ·have e:(k++[c]).Sc (k++r)=[c].Sc r:=by
   induction k with
   |ϟ=>rfl
   |Κ x k ih=>
    show (x==x && (k++[c]).Sc (k++r))=_;rw[ϫ,qaH];exact ih (ζ.ϡ.Ϩ (Zh _ _))
  refine e.ν ?_;show _=(Qb||km (k++r) (min k.ε (k++r).ε) (min (k.ε+1) (k++r).ε)== [c]);have e2:km (k++r) (min k.ε (k++r).ε) (min (k.ε+1) (k++r).ε)=r.ϣ 1:=by
   delta km;rw[ZD (by rw[Ju];exact Jq _ _)];cases r with
   |ϟ=>rw[Zi,Yv (Jq _ _),JW,Z3];rfl
   |Κ y r=>rw[ZD (by rw[Ju];exact Jp (Jz _ _) _),ζ.take_append,ζ.drop_append];simp
  rw[e2,qaa];cases r with
  |ϟ=>rfl
  |Κ y r=>
   show (c==y && Qe)=([y]== [c]);rw[Yi,Z8,Β,Β];exact⟨λe=>by rw[e],λe=>(KD.dL e).1.Μ⟩
def D2{k t:WW}(h:pre k t=Qe):k.1.ε<=t.1.ε/\k.2.ε<=t.2.ε:=by
 obtain⟨a,b⟩:=Jn.mp h;exact⟨(ζ.ϡ.mp a).length_le,(ζ.ϡ.mp b).length_le⟩
def CZ{k t:WW}{a:Ar R.α}(h:pre (iz k a) t=Qe):pre k t=true:=by
 obtain⟨x,y⟩:=Jn.mp h;exact Jn.Ϩ ⟨ζ.ϡ.Ϩ ((Zh _ _).ν (ζ.ϡ.mp x)),ζ.ϡ.Ϩ ((Zh _ _).ν (ζ.ϡ.mp y))⟩
def Rz{t k:WW}(h:pre k t=Qb):rT N M t k xs=R.Ι:=by
 refine(lS λa _=>?_).ν (LV xs)
 have:Bt M t (iz k a) a.t=R.Ι:=by
  delta Bt;cases q:pre (iz k a) t with
  |false=>rfl
  |true=>rw[CZ q] at h;cases h
 rw[this,R.xz];cases jw N k a<;>rfl
def My{t k:WW}(h:pre k t=Qe)(h1:t.1.ε<=N)(h2:t.2.ε<=N)(hl:∀a∈xs,dh a.up/\dh a.lo):
  rT N M t k xs=VF (Bv M t.1 t.2) t.1 t.2 k.1.ε k.2.ε xs:=by
 refine lS λa ha=>?_;have hp:pre (iz k a) t=(kc t.1 k.1.ε a.up && kc t.2 k.2.ε a.lo):=by
  refine xA (Jn.mp h) λx y=>?_;delta pre iz;rw[GJ x (hl a ha).1,GJ y (hl a ha).2]
 delta jw gx;cases he:a.fq with
 |true=>rfl
 |false=>
  refine rY (kc t.1 k.1.ε a.up && kc t.2 k.2.ε a.lo) (λhf=>?_) λhf=>?_
  ·rw[hf]
   rw[hf] at hp;rw[show decide (max (k.1.ε+a.up.ε) (k.2.ε+a.lo.ε)<=N)=Qe from Ζ (θ.max_le.Ϩ ⟨Jm (Ju▸(D2 hp).1) h1,Jm (Ju▸(D2 hp).2) h2⟩)];delta Bt;rw[hp];show R.lv a.w (Bv M t.1 t.2 (k.1++a.up).ε (k.2++a.lo).ε a.t)=R.lv a.w _;rw[Ju,Ju]
  ·rw[hf]
   delta Bt;rw[hp,hf];show (bif (!Qb && decide (max (k.1.ε+a.up.ε) (k.2.ε+a.lo.ε)<=N)) then R.lv a.w R.Ι else R.Ι)=R.Ι;rw[R.xz];cases (!Qb && decide (max (k.1.ε+a.up.ε) (k.2.ε+a.lo.ε)<=N))<;>rfl
variable{row':List R.α}
def zdp{t k:WW}{row:ζ R.α}(h1:t.1.ε<=N)(h2:t.2.ε<=N)(hl:∀s,∀a∈bp M s,dh a.up/\dh a.lo)
  (H:∀u l i j,i<=u.ε->j<=l.ε->jM row (Bv M u l i j) 0=jM row' (xT M (Bv M u l) u l i j) 0):
  jM row (Bt M t k) 0=R.Ϯ (jM row' (λs=>rT N M t k (bp M s)) 0) (if k=t then jM row' (eh M) 0 else R.Ι):=by
 refine rY (pre k t) (λhp=>?_) λhp=>?_
 ·have hb:=D2 hp
  simp only[show Bt M t k=Bv M t.1 t.2 k.1.ε k.2.ε from funext λs=>by unfold Bt;rw[hp];rfl,H _ _ _ _ hb.1 hb.2];have hk:k=t ↔ k.1.ε=t.1.ε/\k.2.ε=t.2.ε:=⟨λe=>by rw[e];exact⟨rfl,rfl⟩,λe=>by
   obtain⟨x,y⟩:=Jn.mp hp;exact qbg ((ζ.ϡ.mp x).eq_of_length e.1) ((ζ.ϡ.mp y).eq_of_length e.2)⟩
  rw[show (λs=>rT N M t k (bp M s))=λs=>VF (Bv M t.1 t.2) t.1 t.2 k.1.ε k.2.ε (bp M s) from funext λs=>My hp h1 h2 (hl s)];by_cases e:k=t
  ·rw[ρ e,<-Da]
   refine rB λs _ _=>?_;delta xT;rw[ρ (hk.mp e),R.sn]
  ·rw[π e,R.ui]
   refine rB λs _ _=>?_;delta xT;rw[π λq=>e (hk.Ϩ q),R.Ϛ]
 ·have n:¬k=t:=λe=>by
   rw[e] at hp;exact Zq (hp.Μ.ν (Jn.Ϩ ⟨ζ.ϡ.Ϩ (K9 _),ζ.ϡ.Ϩ (K9 _)⟩))
  simp only[π n,R.ui,show Bt M t k=λ_=>R.Ι from funext λs=>by unfold Bt;rw[hp];rfl,show (λs=>rT N M t k (bp M s))=λ_=>R.Ι from funext λs=>Rz hp,uB,uB]
section
def zcD{s t:ζ θ}(hl:s.ε+t.ε<=1000)(h:MH):oZ .Ϯ (.Υ s) (.Υ t) h=Qa (.Υ (s++t),h):=by
 show ba Qc (ba Qc (aw (Zx (s.ε+t.ε) bc) (Qa (ab.Υ (s++t),h))))=_;rw[K3 (Jm hl (by decide:1000<=bc))];rfl
def b9(z:Cx)(a b:θ)(h:MH):jJ z (.bi 7168376) [.φ a,.φ b] h=Qa (.φ (max a b:θ),h):=by
 show Qa (ab.φ (if (b:Τ)>a then(b:Τ) else a),h)=_;by_cases q:a<b
 ·rw[ρ (ZF.Ϩ q),θ.max_eq_right (JL q)]
 ·rw[π λe=>q (ZF.mp e),θ.max_eq_left (Zs.mp q)]
abbrev QS(R:Rg):=MH×(WW->η θ)×(WW->ζ R.α)×θ×η ab×η ab×η ab×η ab×η ab×η ab
section
variable{R:Rg}(ψ:QS R)
abbrev QS.g:=ψ.1
abbrev QS.Ad:=ψ.2.1
abbrev QS.V:=ψ.2.2.1
abbrev QS.c:=ψ.2.2.2.1
abbrev QS.a:=ψ.2.2.2.2.1
abbrev QS.b:=ψ.2.2.2.2.2.1
abbrev QS.d:=ψ.2.2.2.2.2.2.1
abbrev QS.e:=ψ.2.2.2.2.2.2.2.1
abbrev QS.f:=ψ.2.2.2.2.2.2.2.2.1
abbrev QS.k:=ψ.2.2.2.2.2.2.2.2.2
end
abbrev PX(R:Rg):=MH×Ly×Mc R.α×θ×θ×ab×θ×θ×θ×θ×θ×θ×ζ WW×(WW->R.α)
section
variable{R:Rg}(ψ:PX R)
abbrev PX.h:=ψ.1
abbrev PX.L:=ψ.2.1
abbrev PX.M:=ψ.2.2.1
abbrev PX.N:=ψ.2.2.2.1
abbrev PX.D:=ψ.2.2.2.2.1
abbrev PX.ov:=ψ.2.2.2.2.2.1
abbrev PX.p:=ψ.2.2.2.2.2.2.1
abbrev PX.k:=ψ.2.2.2.2.2.2.2.1
abbrev PX.p1:=ψ.2.2.2.2.2.2.2.2.1
abbrev PX.k1:=ψ.2.2.2.2.2.2.2.2.2.1
abbrev PX.pS:=ψ.2.2.2.2.2.2.2.2.2.2.1
abbrev PX.kS:=ψ.2.2.2.2.2.2.2.2.2.2.2.1
abbrev PX.cs:=ψ.2.2.2.2.2.2.2.2.2.2.2.2.1
abbrev PX.W:=ψ.2.2.2.2.2.2.2.2.2.2.2.2.2
end
abbrev sz(k:WW):θ:=k.1.ε+k.2.ε
abbrev PX.cl(X:PX R):θ:=1+X.cs.ε*(X.M.ax+1)
def ju(X:PX R):Prop:=ao R X.h X.L X.M/\kI X.M X.p1 X.k1/\X.p1+X.pS<=X.p/\X.k1+X.kS<=X.k/\X.cl<20000/\X.N<=200/\4*(X.p*(2*X.N+2))+(X.k*(2*X.N+2)+(X.cl+X.M.aa.ε))<=3800/\X.cs.ϥ/\(∀k∈X.cs,k.1.ε<=X.N/\k.2.ε<=X.N)/\∀k∈X.cs,∀ys∈X.M.aa,∀a∈ys,jw X.N k a=Qe->iz k a∈X.cs
section
variable{X:PX R}(ψ:ju X)
def ju.I:=@ψ.1
def ju.G:=@ψ.2.1
def ju.pp:=@ψ.2.2.1
def ju.kk:=@ψ.2.2.2.1
def ju.cl:=@ψ.2.2.2.2.1
def ju.n:=@ψ.2.2.2.2.2.1
def ju.bd:=@ψ.2.2.2.2.2.2.1
def ju.nd:=@ψ.2.2.2.2.2.2.2.1
def ju.am:=@ψ.2.2.2.2.2.2.2.2.1
def ju.up:=@ψ.2.2.2.2.2.2.2.2.2
end
def Cn{y B:θ}(pp:p1+pS<=p)(kk:k1+kS<=k)(hx:y<x)(h0:c0<=c)(hz:x+1<=Z)(bd:4*(p*Z)+(k*Z+B)<=3800)(hc:c<=B):
  p*(y+1)+pS+p1<=p*(x+1)/\k*(y+1)+kS+c0+k1<=k*(x+1)+c/\4*(p*(x+1))+(k*(x+1)+c)<=3800:=by
 have e:∀{p:θ},p*(y+1)+p<=p*(x+1):=λ{p} =>by rw[<-Kv];exact JD _ (Zf hx)
 refine⟨Jm (by rw[J6,Kf pS];exact Jp pp _) e,?_,?_⟩
 ·rw[cQ]
  exact JH (Jm (Jp kk _) e) h0
 ·exact Jm (JH (JD 4 (JD p hz)) (JH (JD k hz) hc)) bd
def KM(D m:θ)(s' s:QS R):Prop:=(∀k,(∃a,s.Ad k=Qa a)->∃a,s'.Ad k=Qa a)/\tx (T:=jC) D s.g s'.g s.Ad s'.Ad/\∀k,sz k<=m->(∃a,s'.Ad k=Qa a)->∃a,s.Ad k=Qa a
section
variable{D m:Nat}{s' s:QS R}(ψ:KM D m s' s)
def KM.al:=@ψ.1
def KM.kp:=@ψ.2.1
def KM.nw:=@ψ.2.2
end
theorem KM.rfl'{s:QS R}:KM D m s s:=⟨λ_ h=>h,λ_ _ _ h1 h2=>⟨h2,h1⟩,λ_ _ h=>h⟩
theorem KM.ν{s s' s'':QS R}(h:KM D m s' s)(h':KM D m s'' s'):KM D m s'' s:=⟨λk q=>h'.al k (h.al k q),λa vs h0 h1 h2=>let q:=h.kp a vs h0 h1 h2;h'.kp a vs h0 q.2 q.1,λk hk q=>h.nw k hk (h'.nw k hk q)⟩
def Ge(X:PX R)(K:WW)(aR c0:θ)(row:ζ R.α)(dn:WW->Prop):Prop:=ju X/\K∈X.cs/\c0+X.M.ax<=X.cl/\row.ε=X.M.aa.ε/\(∀x∈row,R.D (X.p*(sz K+1)+X.pS) (X.k*(sz K+1)+X.kS+c0) x)/\∀k,dn k->sz k<=sz K
section
variable{X:PX R}{K:WW}{aR c0:Nat}{row:List R.α}{dn:WW->Prop}(ψ:Ge X K aR c0 row dn)
def Ge.O:=@ψ.1
def Ge.hK:=@ψ.2.1
def Ge.cc:=@ψ.2.2.1
def Ge.am:=@ψ.2.2.2.1
def Ge.dg:=@ψ.2.2.2.2.1
def Ge.lo:=@ψ.2.2.2.2.2
end
def PQ(X:PX R)(K:WW)(aR c0:θ)(row:ζ R.α)(dn:WW->Prop)(V0:QS R)(n:θ)(e:WW->R.α)(s:QS R):Prop:=RW jC R X.h s.g X.D X.M.aa.ε s.c s.Ad s.V/\c0<=s.c/\s.c<=c0+n/\(∀k,¬dn k->∀x∈s.V k,R.D (X.p*(sz k+1)) (X.k*(sz k+1)+s.c) x)/\s.V K=row/\s.Ad K=Qa aR/\(∀k a,s.Ad k=Qa a->k∈X.cs)/\(∀t∈X.cs,R.Ϯ (nL (T:=jC) X.cs dn (Bt X.M t) s.V) (e t)=X.W t)/\(∀k,dn k->s.V k=V0.V k)/\KM X.D (sz K) s V0
section
variable{X:PX R}{K:WW}{aR c0:Nat}{row:List R.α}{dn:WW->Prop}{V0:QS R}{n:Nat}{e:WW->R.α}{s:QS R}(ψ:PQ X K aR c0 row dn V0 n e s)
def PQ.TM:=@ψ.1
def PQ.lo:=@ψ.2.1
def PQ.hi:=@ψ.2.2.1
def PQ.dg:=@ψ.2.2.2.1
def PQ.vr:=@ψ.2.2.2.2.1
def PQ.ad:=@ψ.2.2.2.2.2.1
def PQ.ky:=@ψ.2.2.2.2.2.2.1
def PQ.w:=@ψ.2.2.2.2.2.2.2.1
def PQ.fx:=@ψ.2.2.2.2.2.2.2.2.1
def PQ.al:=@ψ.2.2.2.2.2.2.2.2.2
end
variable{X:PX R}{K:WW}{aR c0:Nat}{row:List R.α}{dn:WW->Prop}{V0:QS R}{R':Fl->Internal.Frame->MH->Prop}
def iw(X:PX R)(a b d e f k:η ab):Ρ.Θ:=Qa (.ο X.L.m)::Qa (.φ X.N)::Qa (.ai (112+R.i))::Qa X.ov::Qa (.ο X.D)::a::b::d::e::f::k::nn 7
def PQ.put{e e':WW->R.α}{x:R.α}{s:QS R}{Ad':WW->η θ}{z:WW}{t:θ}(C:Ge X K aR c0 row dn)(P:PQ X K aR c0 row dn V0 n e s)(hz:z∈X.cs)(ht:t<X.M.aa.ε)(hn:sz K<sz z)(hD:R.D (X.p*(sz z+1)) (X.k*(sz z+1)+s.c) x)
  (S':RW jC R X.h g' X.D X.M.aa.ε (s.c+1) Ad' (bj (T:=jC) s.V z (lW (s.V z) t x))) (hk:∀k a,s.Ad k=Qa a->Ad' k=Qa a) (hk2:∀k a,Ad' k=Qa a->k=z\/s.Ad k=Qa a) (hkp:tx (T:=jC) X.D s.g g' s.Ad Ad') (he:∀u∈X.cs,e u=R.Ϯ (R.lv x (Bt X.M u z t)) (e' u)) (y1 y2:η ab) (q:η ab×η ab×η ab×η ab):
  PQ X K aR c0 row dn V0 (n+1) e' ⟨g',Ad',bj (T:=jC) s.V z (lW (s.V z) t x),s.c+1,q.1,q.2.1,q.2.2.1,q.2.2.2,y1,y2⟩:=by
 have hl:t<(s.V z).ε:=by rw[P.TM.am];exact ht
 have hnd:¬dn z:=λq=>Zs.Ϩ (C.lo z q) hn;refine⟨S',J4 P.lo,Zf P.hi,λk hk y hy=>?_,?_,hk _ _ P.ad,λk a h=>(hk2 k a h).ι (λe=>e▸hz) (P.ky k a),λu hu=>?_,λk hk=>?_,P.al.ν ⟨λk h=>h.ι λa q=>⟨a,hk k a q⟩,hkp,λk hm h=>h.ι λa q=>(hk2 k a q).ι (λe=>υ (e▸hm) (Xt.Ϩ hn)) λq=>⟨a,q⟩⟩⟩
 ·have hy:y∈bj (T:=jC) s.V z (lW (s.V z) t x) k:=hy
  show R.D (X.p*(sz k+1)) (X.k*(sz k+1)+(s.c+1)) y;by_cases q:k=z
  ·cases q
   rw[jE] at hy;rcases W2 hy with hy|rfl
   ·exact R.ag (Jv _) (Ze _) (P.dg _ hk y hy)
   ·rw[Jo hl]
    exact R.fz (P.dg _ hk _ (Zg hl)) hD
  ·rw[jF q] at hy
   exact R.ag (Jv _) (Ze _) (P.dg k hk y hy)
 ·show bj (T:=jC) s.V z (lW (s.V z) t x) K=row
  exact(jF (λe=>J3 _ (e▸hn):¬K=z)).ν (P.vr)
 ·rw[p5 (T:=jC) C.O.nd hz hnd hl,<-P.w u hu,he u hu,<-R.Ϧ,R.sn (R.lv _ _)]
 ·show bj (T:=jC) s.V z (lW (s.V z) t x) k=V0.V k
  rw[jF λe=>hnd (by rw[<-e];exact hk)];exact P.fx k hk
def Ln{T:ji}{z:T.κ}{Ad:T.κ->η θ}{V:T.κ->ζ R.α}{x:R.α}(hd:4<=d)(I:ao R h L M)(S:RW T R h g D N c Ad V)(hN:N=M.aa.ε)(hc:c<100000)(hs:s<N)(hV:∀y∈V z,R.D p k y)(hx:R.D p k x)(hl:4*p+k<=3800):
 ∃g' Ad',jJ (ah P0 d) (.ai 126) [.ο L.m,.ο D,T.v z,.φ s,R.e x] g=Qa (.Δ,g')/\RW T R h g' D N (c+1) Ad' (bj V z (lW (V z) s x))/\(∀z' a',Ad z'=Qa a'->Ad' z'=Qa a')/\(∀z' a',Ad' z'=Qa a'->z'=z\/Ad z'=Qa a')/\tx D g g' Ad Ad':=by
 refine(W.xL (l5 (P:=P0) rfl (Nq (T:=T) (Q:=λv g'=>v=.Δ/\∃Ad',RW T R h g' D N (c+1) Ad' (bj V z (lW (V z) s x))/\(∀z' a',Ad z'=Qa a'->Ad' z'=Qa a')/\(∀z' a',Ad' z'=Qa a'->z'=z\/Ad z'=Qa a')/\tx D g g' Ad Ad') hd I S hN hc hs hV hx hl λg' Ad' S' hk hk2 hk3=>⟨rfl,Ad',S',hk,hk2,hk3⟩))).ι λv zq3=>zq3.ι λg' zq4=>?_;refine eqE zq4.2.1 ?_;exact zq4.2.2.ι λAd' zq5=>⟨g',Ad',zq4.1,zq5⟩
abbrev Ej:ζ Sm:=[.fm (.nm 9) (.ay [.ew .Ϯ (.wr (.Λ 6) (.f8 (.φ 0))) (.aq (.Λ 8) 504397587826),.ew .Ϯ (.wr (.Λ 6) (.f8 (.φ 1))) (.aq (.Λ 8) 465726563698)]),.ite (.mh Qb [.not (.az (.Λ 8) 7598521885536580729 []),.ft .le (.ϧ (.f8 (.bi 7168376)) [.ϧ (.f8 (.bi 7103854)) [.wr (.Λ 9) (.f8 (.φ 0))],.ϧ (.f8 (.bi 7103854)) [.wr (.Λ 9) (.f8 (.φ 1))]]) (.Λ 1)]) [.expr (.ϧ (.f8 (.ai 126)) [.Λ 0,.Λ 4,.Λ 9,.aq (.Λ 8) 127961880028532,.az (.Λ 2) qr [.wr (.wr (.Λ 4) (.Λ 6)) (.Λ 7),.aq (.Λ 8) 131277443786868]])] []]
def Ai{s:ζ θ}(h:dh s):s.ε<=1:=by
 rcases h with e| ⟨c,e,_⟩
 ·rw[e];exact JF _
 ·rw[e];exact Jv _
def RW.up'{Ad:WW->η θ}{V:WW->ζ R.α}(S:RW jC R h g D N c Ad V)(e:h[a]?=Qa o):g[a]?=Qa o:=by obtain⟨t,rfl⟩:=S.Ch;exact jA e
def Pb{E T e0 e1':WW->R.α}{y:R.α}{a:Ar R.α}{st:QS R}(hd:5<=d)(C:Ge X K aR c0 row dn)(hs:row[s]?=Qa y)(hn:n<X.M.ax)(hB:X.h[b]?=Qa (lP R a))(gt:a.t<X.M.aa.ε)(g2:dh a.up)(g3:dh a.lo)(g4:R.D X.p1 X.k1 a.w)(g5:jw X.N K a=Qe->iz K a∈X.cs)
  (P:PQ X K aR c0 row dn V0 n e0 st) (h0:∀u∈X.cs,e0 u=R.Ϯ (R.lv y (R.Ϯ (bif jw X.N K a then R.lv a.w (Bt X.M u (iz K a) a.t) else R.Ι) (T u))) (E u)) (h1:∀u,e1' u=R.Ϯ (R.lv y (T u)) (E u))
  (q1:∀s',PQ X K aR c0 row dn V0 (n+1) e1' s'->s'.k=st.k->R' .nx (iw X sv (Qa (jC.v K)) (vN s) s'.e s'.f s'.k) s'.g):
  bz (ah P0 d) Ej (iw X sv (Qa (jC.v K)) (vN s) (vR b) z1 st.k) st.g R':=by
 have S:=P.TM;have hB:st.g[b]?=Qa (lP R a):=by obtain⟨t,e⟩:=S.Ch;rw[e];exact jA hB
 have d1:1<=d:=Jm (by decide) hd;have ad1:=zcD (s:=K.1) (t:=a.up) (Jm (JH (Jm (C.O.am K C.hK).1 C.O.n) (Ai g2)) (by decide));have ad2:=zcD (s:=K.2) (t:=a.lo) (Jm (JH (Jm (C.O.am K C.hK).2 C.O.n) (Ai g3)) (by decide));have fw:jw X.N K a=Qb->∀z,R' .nx (iw X sv (Qa (jC.v K)) (vN s) (vR b) z st.k) st.g:=λhh z=>by
  refine q1 ⟨st.1,st.2.1,st.2.2.1,st.2.2.2.1,st.2.2.2.2.1,st.2.2.2.2.2.1,st.2.2.2.2.2.2.1,vR b,z,st.2.2.2.2.2.2.2.2.2⟩ ⟨S,P.lo,J4 P.hi,P.dg,P.vr,P.ad,P.ky,λt ht=>?_,P.fx,⟨P.al.al,P.al.kp,P.al.nw⟩⟩ rfl;simp only[<-P.w t ht,h0 t ht,h1 t,hh,ϯ,R.Ϛ]
 refine rY a.fq (λhe=>?_) λhe=>?_
 ·exact jT (.c<|.v (oh hB)<|.q ad1<|.c<|.v (oi hB)<|.q ad2<|.p (xG d1 hB)<|.c<|.f (nT he)<|.f (nT he)<|.z (fw (by unfold jw;rw[he];rfl) (Qa (jC.v (iz K a))))) rfl
 ·have hi:jw X.N K a=decide (((max (K.1++a.up).ε (K.2++a.lo).ε:θ):Τ)<=(X.N:Τ)):=by
   delta jw;rw[he,Ju,Ju,Ti.Ϩ Yt];rfl
  refine rY (jw X.N K a) (λhb=>?_) λhb=>?_
  ·rw[hb] at hi
   have hlt:sz K<sz (iz K a):=by
    show K.1.ε+K.2.ε<(K.1++a.up).ε+(K.2++a.lo).ε;rw[Ju,Ju,Yr];exact ZM (xO he)
   have hc:st.c<c0+X.M.ax:=Jt P.hi (Zw hn _);have T1:=Cn (B:=X.cl+X.M.aa.ε) C.O.pp C.O.kk hlt P.lo (Zf (J4 (Jm (JH (C.O.am _ (g5 hb)).1 (C.O.am _ (g5 hb)).2) (JC (KV _).Μ))):sz (iz K a)+1<=2*X.N+2) C.O.bd (Jm (JL hc) (Jm C.cc (Jq _ _)));have hxd:=C.dg y (Jr hs);have hRa:=S.LT K aR P.ad;rw[P.vr] at hRa;refine xEEAAA S.dd λep es hDd hKy _ hdg=>?_;refine(Ln (T:=jC) (d:=d) (z:=iz K a) (s:=a.t) (x:=R.lv y a.w) (Jm (by decide) hd) C.O.I S rfl (Jw hc (Jm C.cc (Jm (JL C.O.cl) (by decide)))) gt (P.dg _ λq=>Zs.Ϩ (C.lo _ q) hlt) (R.ag T1.1 T1.2.1 (R.dp hxd g4)) T1.2.2).ι λg' zq1=>zq1.ι λAd' zq2=>?_;exact jT (.c<|.v (oh hB)<|.q ad1<|.c<|.v (oi hB)<|.q ad2<|.p (xG d1 hB)<|.c<|.t (nF he)<|.c2<|.c2<|.q (b9 (ah P0 d) (K.1++a.up).ε (K.2++a.lo).ε)<|.t hi.Μ<|.c<|
    .v (ry hB)<|.v (sd hDd (mX (T:=jC) hKy) ((hdg K).ν (by rw[P.ad];rfl):jO es (jC.v K)=Qa (.ο aR)))<|.v (sl hRa (rX hs))<|.v (ur hB)<|.q (R.ti (Jm (by decide) hd) hxd g4 (Jm (JH (JD 4 T1.1) T1.2.1) T1.2.2))<|.p (zq2.1)<|.z (q1 _ (P.put C (g5 hb) gt hlt (R.ag T1.1 T1.2.1 (R.dp hxd g4)) zq2.2.1 zq2.2.2.1 zq2.2.2.2.1 zq2.2.2.2.2 (e':=e1') (λu hu=>by rw[h0 u hu,hb,na,h1 u,R.No,R.Ϧ,<-R.w9]) (Qa (jC.v (iz K a))) st.k (Qc,Qc,Qc,vR b)) rfl)) (by kernel_rfl)
  ·rw[hb] at hi
   exact jT (.c<|.v (oh hB)<|.q ad1<|.c<|.v (oi hB)<|.q ad2<|.p (xG d1 hB)<|.c<|.t (nF he)<|.c2<|.c2<|.q (b9 (ah P0 d) (K.1++a.up).ε (K.2++a.lo).ε)<|.f hi.Μ<|.c<|.z (fw hb (Qa (jC.v (iz K a))))) rfl
end
variable{dn:WW->Prop}{V0:QS R}
section
variable{X:PX R}{K:WW}{row:List R.α}
theorem zcC(z:Cx){ep:η θ}(hD:h[D]?=Qa (.Χ ep es)):jJ z (.bi uK) [.ο D] h=Qa (.φ es.ε,h):=W.eq (AN hD ⟨rfl,rfl⟩)
abbrev gS(X:PX R)(K t:WW):θ->R.α:=λs=>rT X.N X.M t K (bp X.M s)
def U4{q:θ}{t:WW}{a:Ar R.α}(ha:xs[q]?=Qa a):rT N M t K (xs.bn q)=R.Ϯ (bif jw N K a then R.lv a.w (Bt M t (iz K a) a.t) else R.Ι) (rT N M t K (xs.bn (q+1))):=by
 obtain⟨hq,e⟩:=Jx.mp ha;simp only[Kq hq,e];rfl
def zew{n0 r:θ}{y:R.α}{E e0:WW->R.α}{st:QS R}(hd:5<=d)(C:Ge X K aR c0 row dn)(hs:row[s]?=Qa y)(hm:xs∈X.M.aa)(hr:(X.L.au.ς ab.ο)[s]?=Qa (.ο r))(H:Bx R X.h r as xs)(hn:n0+xs.ε<=X.M.ax)(P:PQ X K aR c0 row dn V0 n0 e0 st)(h0:∀t,e0 t=R.Ϯ (R.lv y (rT X.N X.M t K xs)) (E t)):
  ∃s',PQ X K aR c0 row dn V0 (n0+xs.ε) E s'/\s'.k=st.k/\exec (ah P0 d) (.fo [8] Qb (.wr (.aq (.Λ 0) jY) (.Λ 7)) Ej) (iw X sv (Qa (jC.v K)) (vN s) st.e st.f st.k) st.g=Qa ((.nx,iw X sv (Qa (jC.v K)) (vN s) s'.e s'.f s'.k),s'.g):=by
 obtain⟨s',P',e⟩:=pb (c:=ah P0 d) (tg:=[8]) (many:=Qb) (a:=r) (e:=.wr (.aq (.Λ 0) jY) (.Λ 7)) (b:=Ej) (vs:=as.ς .ο) (λs':QS R=>iw X sv (Qa (jC.v K)) (vN s) s'.e s'.f s'.k) QS.g (λq s'=>PQ X K aR c0 row dn V0 (n0+q) (λt=>R.Ϯ (R.lv y (rT X.N X.M t K (xs.bn q))) (E t)) s'/\s'.k=st.k) st
  (H.n▸Jm (Jm (Jz _ _) hn) (Jm C.O.G.c (by decide))) rfl (λq s' P=>P.1.TM.up' H.l) (by exact j2 (.v (mW (P.TM.mx C.O.I))<|.v (sl (P.TM.mx C.O.I).aa hr)<|.z (cg (.ο r) st.g)) (by kernel_rfl)) ⟨(⟨P.TM,P.lo,P.hi,P.dg,P.vr,P.ad,P.ky,(λt ht=>by rw[<-P.w t ht,h0 t];rfl),P.fx,⟨P.al.al,P.al.kp,P.al.nw⟩⟩:PQ X K aR c0 row dn V0 (n0+0) (λt=>R.Ϯ (R.lv y (rT X.N X.M t K (xs.bn 0))) (E t)) st),rfl⟩ (λq v s' R1 _ hv P1 T1=>by
   refine xEEAA (H.a q v hv) λb x cw hx hb=>?_;refine eqB cw ?_;have ga:=C.O.G.fy _ hm x (Jr hx);exact kP (Pb hd C hs (n:=n0+q) (Jw (Zw (jI hx) _) hn) hb ga.1 ga.2.1 ga.2.2.1 ga.2.2.2.1 (C.O.up K C.hK _ hm x (Jr hx)) P1.1 (T:=λt=>rT X.N X.M t K (xs.bn (q+1))) (E:=E) (λt _=>by rw[U4 hx]) (λ_=>rfl) λs2 P2 k2=>T1.nx _ ⟨P2,k2.ν P1.2⟩))
 rw[H.n] at P';refine⟨s',⟨P'.1.TM,P'.1.lo,P'.1.hi,P'.1.dg,P'.1.vr,P'.1.ad,P'.1.ky,λt ht=>?_,P'.1.fx,P'.1.al⟩,P'.2,e⟩
 have:=P'.1.w t ht
 rw[Z3,show rT X.N X.M t K []=R.Ι from rfl,R.xz,R.Ϛ] at this;exact this
abbrev CW:ζ Sm:=[.ite (.ft .eq (.wr (.wr (.Λ 4) (.Λ 6)) (.Λ 7)) (.aq (.Λ 2) lr)) [.cont] [],.fo [8] Qb (.wr (.aq (.Λ 0) 1634886515) (.Λ 7)) Ej,.ite (.ft .gt (.ϧ (.f8 (.bi 7103854)) [.Λ 4]) (.f8 (.φ 20000))) [.bK (.f8 (.Υ [116,111,111,32,109,97,110,121,32,119,111,114,100,115]))] []]
def zbs{n0 n1:θ}{e0 e1:WW->R.α}{st:QS R}(hd:5<=d)(C:Ge X K aR c0 row dn)(hs:s<X.M.aa.ε)(P:PQ X K aR c0 row dn V0 n0 e0 st)(hn:n1=n0+(bp X.M s).ε)(hc:n1<=X.M.ax)(h0:∀t,e0 t=R.Ϯ (R.lv (at' row s) (gS X K t s)) (e1 t))
  (q1:∀s',PQ X K aR c0 row dn V0 n1 e1 s'->s'.k=st.k->R' .nx (iw X sv (Qa (jC.v K)) s'.d s'.e s'.f s'.k) s'.g) (q2:∀s',PQ X K aR c0 row dn V0 n1 e1 s'->s'.k=st.k->R' .ct (iw X sv (Qa (jC.v K)) s'.d s'.e s'.f s'.k) s'.g):
  bz (ah P0 d) CW (iw X sv (Qa (jC.v K)) (vN s) st.e st.f st.k) st.g R':=by
 have hsr:=VC (l:=row) (s:=s) (by rw[C.am];exact hs);have hRa:=P.TM.LT K aR P.ad;rw[P.vr] at hRa;refine xEEAAA P.TM.dd λep es hDd hKy _ hdg=>?_;have f1:=sd hDd (mX (T:=jC) hKy) ((hdg K).ν (by rw[P.ad];rfl):jO es (jC.v K)=Qa (.ο aR));cases R.gi (at' row s) R.Ι with
 |isTrue hz=>
  have P':PQ X K aR c0 row dn V0 n1 e1 ⟨st.1,st.2.1,st.2.2.1,st.2.2.2.1,st.2.2.2.2.1,st.2.2.2.2.2.1,vN s,st.2.2.2.2.2.2.2⟩:=⟨P.TM,P.lo,hn▸Jm P.hi (Jp (Jq _ _) _),P.dg,P.vr,P.ad,P.ky,(λt ht=>by
   have:=P.w t ht
   rw[h0 t,hz,R.v4,R.Ϛ] at this;exact this),P.fx,⟨P.al.al,P.al.kp,P.al.nw⟩⟩
  exact jT (.v f1<|.v (sl hRa (rX hsr))<|.w (R.no)<|.k (R.qe (at' row s) R.Ι)<|.t (R.yes hz)<|.z (q2 _ P' rfl)) rfl
 |isFalse hz=>
  refine(C.O.I.ng hs).ι λr zq3=>zq3.ι λas zq4=>?_;refine xEAA (zew (sv:=sv) hd C hsr zq4.2.2 zq4.1 zq4.2.1 (hn▸hc) P h0) λs' P' k' e=>?_;refine xEEAAA P'.TM.dd λep' es' hD' _ hc' _=>?_;have N:PQ X K aR c0 row dn V0 n1 e1 ⟨s'.1,s'.2.1,s'.2.2.1,s'.2.2.2.1,s'.2.2.2.2.1,s'.2.2.2.2.2.1,vN s,s'.2.2.2.2.2.2.2⟩:=by refine eqB hn ?_;exact⟨P'.TM,P'.lo,P'.hi,P'.dg,P'.vr,P'.ad,P'.ky,P'.w,P'.fx,⟨P'.al.al,P'.al.kp,P'.al.nw⟩⟩
  exact jT (.v f1<|.v (sl hRa (rX hsr))<|.w (R.no)<|.k (R.qe (at' row s) R.Ι)<|.f (R.not hz)<|.s (e)<|.p (zcC (ah P0 d) hD')<|.c<|.f (Γ (YI.Ϩ (Yt.Ϩ (Jm hc' (Jm P'.hi (Jm (Jp (hn▸hc) _) (Jm C.cc (JL C.O.cl)))))):¬((20000:Τ)<(es'.ε:Τ))))<|.z (q1 _ N k')) rfl
end
section
variable{X:PX R}{K:WW}{row:List R.α}
def zhh{F e0:WW->R.α}{st:QS R}(hd:5<=d)(C:Ge X K aR c0 row dn)(P:PQ X K aR c0 row dn V0 0 e0 st)(h0:∀t,e0 t=R.Ϯ (jM row (gS X K t) 0) (F t)):
  ∃s',PQ X K aR c0 row dn V0 X.M.ax F s'/\s'.k=st.k/\exec (ah P0 d) (.fo [7] Qb (.ϧ (.f8 (.ty 491260897125)) [.az (.Λ 0) 1936292453 []]) CW) (iw X sv (Qa (jC.v K)) st.d st.e st.f st.k) st.g=Qa ((.nx,iw X sv (Qa (jC.v K)) s'.d s'.e s'.f s'.k),s'.g):=by
 have I:=P.TM.mx C.O.I;obtain⟨s',P',e⟩:=lm (c:=ah P0 d) (x:=7) (n:=X.M.aa.ε) (e:=.ϧ (.f8 (.ty 491260897125)) [.az (.Λ 0) 1936292453 []]) (b:=CW) (λs':QS R=>iw X sv (Qa (jC.v K)) s'.d s'.e s'.f s'.k) QS.g (λs s'=>PQ X K aR c0 row dn V0 (mC X.M s) (λt=>R.Ϯ (jM (row.bn s) (gS X K t) s) (F t)) s'/\s'.k=st.k) st
  (Jm I.bc (by decide)) rfl (by exact j2 (.p (pF (Jm (by decide) hd) I)<|.c<|.z (cg (.gb X.M.aa.ε) st.g)) (by kernel_rfl)) ⟨(⟨P.TM,P.lo,Jm P.hi (Jp (JF _) _),P.dg,P.vr,P.ad,P.ky,(λt ht=>by rw[<-P.w t ht,h0 t];rfl),P.fx,P.al⟩:PQ X K aR c0 row dn V0 (mC X.M 0) (λt=>R.Ϯ (jM (row.bn 0) (gS X K t) 0) (F t)) st),rfl⟩ (λs s' R1 _ hs P1 T1=>zbs hd C hs P1.1 (qD hs) (tD C.O.I _) (λt=>by rw[Ld (by rw[C.am];exact hs),R.Ϧ]) (λs2 P2 k2=>T1.nx _ ⟨P2,k2.ν P1.2⟩) λs2 P2 k2=>T1.ct _ ⟨P2,k2.ν P1.2⟩)
 have e1:mC X.M X.M.aa.ε=X.M.ax:=by unfold mC;rw[JW,I.ct]
 have e2:row.bn X.M.aa.ε=[]:=by rw[<-C.am,Z3]
 rw[e1,e2] at P';refine⟨s',⟨P'.1.TM,P'.1.lo,P'.1.hi,P'.1.dg,P'.1.vr,P'.1.ad,P'.1.ky,λt ht=>?_,P'.1.fx,P'.1.al⟩,P'.2,e⟩
 have:=P'.1.w t ht
 rw[show jM [] (gS X K t) X.M.aa.ε=R.Ι from rfl,R.Ϛ] at this;exact this
end
variable{dn':WW->Prop}
section
variable{X:PX R}{K:WW}
def s7(X:PX R)(dn:WW->Prop)(V:WW->ζ R.α)(t:WW):R.α:= @ite _ (dn t) (Classical.propDecidable _) (jM (V t) (eh X.M) 0) R.Ι
theorem oW{V:WW->ζ R.α}{t:WW}(h:dn t):s7 X dn V t=jM (V t) (eh X.M) 0:=ρ h
theorem oA{V:WW->ζ R.α}{t:WW}(h:¬dn t):s7 X dn V t=R.Ι:=π h
def PT(X:PX R)(dn:WW->Prop)(b:θ)(s:QS R):Prop:=RW jC R X.h s.g X.D X.M.aa.ε s.c s.Ad s.V/\s.c<=1+b*(X.M.ax+1)/\(∀k,¬dn k->∀x∈s.V k,R.D (X.p*(sz k+1)) (X.k*(sz k+1)+s.c) x)/\(∀k,dn k->∀x∈s.V k,R.D (X.p*(sz k+1)+X.pS) (X.k*(sz k+1)+X.kS+s.c) x)/\(∀k a,s.Ad k=Qa a->k∈X.cs)/\(∃k a,s.Ad k=Qa a)/\∀t∈X.cs,R.Ϯ (nL (T:=jC) X.cs dn (Bt X.M t) s.V) (s7 X dn s.V t)=X.W t
section
variable{X:PX R}{dn:WW->Prop}{b:Nat}{s:QS R}(ψ:PT X dn b s)
def PT.TM:=@ψ.1
def PT.hc:=@ψ.2.1
def PT.dg:=@ψ.2.2.1
def PT.de:=@ψ.2.2.2.1
def PT.ky:=@ψ.2.2.2.2.1
def PT.ne:=@ψ.2.2.2.2.2.1
def PT.w:=@ψ.2.2.2.2.2.2
end
theorem Ew(hb:b<n):1+(b+1)*(c+1)<=1+n*(c+1):=Jp (J8 _ hb) 1
def Hp{st:QS R}(hd:5<=d)(O:ju X)(hK:K∈X.cs)(S:RW jC R X.h st.g X.D X.M.aa.ε st.c st.Ad st.V)(hA:st.Ad K=Qa a)(hc:st.c+X.M.ax<=1+(b+1)*(X.M.ax+1))(hb:b<X.cs.ε)(lo:∀k,dn' k->sz k<=sz K)(hKd:dn' K)
  (dg:∀k,¬dn' k->∀x∈st.V k,R.D (X.p*(sz k+1)) (X.k*(sz k+1)+st.c) x) (de:∀k,dn' k->∀x∈st.V k,R.D (X.p*(sz k+1)+X.pS) (X.k*(sz k+1)+X.kS+st.c) x) (ky:∀k a,st.Ad k=Qa a->k∈X.cs)
  (hw:∀t∈X.cs,R.Ϯ (nL (T:=jC) X.cs dn' (Bt X.M t) st.V) (R.Ϯ (jM (st.V K) (gS X K t) 0) (s7 X dn' st.V t))=X.W t):
  ∃s',PT X dn' (b+1) s'/\s'.k=st.k/\KM X.D (sz K) s' st/\exec (ah P0 d) (.fo [7] Qb (.ϧ (.f8 (.ty 491260897125)) [.az (.Λ 0) 1936292453 []]) CW) (iw X sv (Qa (jC.v K)) st.d st.e st.f st.k) st.g=Qa ((.nx,iw X sv (Qa (jC.v K)) s'.d s'.e s'.f s'.k),s'.g):=by
 refine xEAA (zhh (V0:=st) (F:=s7 X dn' st.V) (sv:=sv) hd (⟨O,hK,Jm hc (Ew hb),S.am K,de K hKd,lo⟩:Ge X K a st.c (st.V K) dn') ⟨S,Jv _,Jv _,dg,rfl,hA,ky,hw,λ_ _=>rfl,KM.rfl'⟩ λt=>rfl) λs' P' k' e=>?_;refine⟨s',⟨P'.TM,Jm P'.hi hc,P'.dg,λk hk x hx=>?_,P'.ky,⟨K,a,P'.ad⟩,λt ht=>?_⟩,k',P'.al,e⟩
 ·rw[P'.fx k hk] at hx
  exact R.ag (Jv _) (Jp P'.lo _) (de k hk x hx)
 ·simp only[<-P'.w t ht]
  congr 1
  by_cases q:dn' t
  ·rw[oW q,oW q,P'.fx t q]
  ·rw[oA q,oA q]
def zf5(X:PX R)(g t:MH)(a P K:θ)(row row':ζ R.α):Prop:=g.ε<=a/\(g++t)[a]?=Qa (.ξ (row'.ς R.e))/\row'.ε=X.M.aa.ε/\(∀x∈row',R.D (P+X.pS) (K+X.kS) x)/\∀u l i j,i<=u.ε->j<=l.ε->jM row (Bv X.M u l i j) 0=jM row' (xT X.M (Bv X.M u l) u l i j) 0
section
variable{X:PX R}{g t:MH}{a P K:Nat}{row row':List R.α}(ψ:zf5 X g t a P K row row')
def zf5.ge:=@ψ.1
def zf5.Hd:=@ψ.2.1
def zf5.am:=@ψ.2.2.1
def zf5.dg:=@ψ.2.2.2.1
def zf5.w:=@ψ.2.2.2.2
end
def rj(X:PX R):Prop:=(X.ov=.Δ\/∃a,X.ov=.ο a)/\(X.ov=.Δ->∀row:ζ R.α,row.ε=X.M.aa.ε->∀u l i j,i<=u.ε->j<=l.ε->jM row (Bv X.M u l i j) 0=jM row (xT X.M (Bv X.M u l) u l i j) 0)/\∀aT,X.ov=.ο aT->∀{d P K aR:θ}{g:MH}{row:ζ R.α},5<=d->(∃t,g=X.h++t)->g[aR]?=Qa (.ξ (row.ς R.e))->row.ε=X.M.aa.ε->(∀x∈row,R.D P K x)->4*(P+X.pS)+(K+X.kS)<=3800->∃t a row',jJ (ah P0 d) (.ai 132) [.ai (112+R.i),.ο aR,.ο aT] g=Qa (.ο a,g++t)/\zf5 X g t a P K row row'
section
variable{X:PX R}(ψ:rj X)
def rj.r:=@ψ.1
def rj.no:=@ψ.2.1
def rj.so:=@ψ.2.2
end
def Ey{V:WW->ζ R.α}(O:ju X)(hK:K∈X.cs)(h0:¬dn K)(h1:∀k,dn' k ↔ dn k\/k=K)(hl:∀s,∀a∈bp X.M s,dh a.up/\dh a.lo)
  (H:∀u l i j,i<=u.ε->j<=l.ε->jM (V K) (Bv X.M u l i j) 0=jM row' (xT X.M (Bv X.M u l) u l i j) 0) {t:WW} (ht:t∈X.cs) (hw:R.Ϯ (nL (T:=jC) X.cs dn (Bt X.M t) V) (s7 X dn V t)=X.W t):
  R.Ϯ (nL (T:=jC) X.cs dn' (Bt X.M t) (bj (T:=jC) V K row')) (R.Ϯ (jM row' (gS X K t) 0) (s7 X dn' (bj (T:=jC) V K row') t))=X.W t:=by
 have hKd:dn' K:=(h1 K).Ϩ (.u8 rfl);rw[UQ (T:=jC) hKd,<-hw,UO (T:=jC) O.nd hK h0 h1,(zdp (M:=X.M) (N:=X.N) (t:=t) (k:=K) (row:=V K) (row':=row') (O.am t ht).1 (O.am t ht).2 hl H)];have e:s7 X dn' (bj (T:=jC) V K row') t=R.Ϯ (if K=t then jM row' (eh X.M) 0 else R.Ι) (s7 X dn V t):=by
  by_cases q:K=t
  ·refine eqE q ?_
   rw[ρ rfl,oW hKd,oA h0,R.ui,jE]
  ·rw[π q,R.Ϛ]
   by_cases q':dn t
   ·rw[oW q',oW ((h1 t).Ϩ (.nb q')),jF λe=>q e.Μ]
   ·rw[oA q',oA λh=>((h1 t).mp h).ι q' λe=>q e.Μ]
 rw[e,<-R.Ϧ,R.sn (nL _ _ _ _),<-R.Ϧ];exact χ (λz=>R.Ϯ z (s7 X dn V t)) ((R.Ϧ _ _ _).ν ((χ (R.Ϯ _) (R.sn _ _)).ν (R.Ϧ _ _ _).Μ))
end
section
variable{X:PX R}{K:WW}
def QS.upR(st:QS R)(g:MH)(K:WW)(a:θ)(row:ζ R.α):QS R:=⟨g,bj (T:=jC) st.Ad K (Qa a),bj (T:=jC) st.V K row,st.c+1,st.a,st.b,st.d,st.e,st.f,st.k⟩
def zeA(e:X.ov=.Δ)(h:MH):mP .gh X.ov .Δ h=Qa false:=by rw[e];rfl
def zez(e:X.ov=.ο a)(h:MH):mP .gh X.ov .Δ h=Qa true:=by rw[e];rfl
def Mj(O:ju X)(hK:K∈X.cs)(hc:c<=X.cl):4*(X.p*(sz K+1)+X.pS)+(X.k*(sz K+1)+c+X.kS)<=3800:=by
 have hz:sz K+1+1<=2*X.N+2:=JN (Jm (JH (O.am K hK).1 (O.am K hK).2) (JC (KV _).Μ)) 2;have e3:=JD X.p hz;have e4:=JD X.k hz;rw[Kv] at e3 e4;have h1:X.p*(sz K+1)+X.pS<=X.p*(2*X.N+2):=Jm (Jp (Jm (Jz _ _) O.pp) _) e3;have h2:X.k*(sz K+1)+c+X.kS<=X.k*(2*X.N+2)+(X.cl+X.M.aa.ε):=by
  rw[ZG];exact JH (Jm (Jp (Jm (Jz _ _) O.kk) _) e4) (Jm hc (Jq _ _))
 exact Jm (JH (JD 4 h1) h2) O.bd
theorem z8(O:ju X)(s:θ):∀a∈bp X.M s,dh a.up/\dh a.lo:=λa ha=>by
 refine xEAA (oE ha) λys _ hy h=>?_;exact⟨(O.G.fy ys hy a h).2.1,(O.G.fy ys hy a h).2.2.1⟩
abbrev FX:ζ Sm:=[.ite (.ft .gh (.Λ 3) (.f8 .Δ)) [.fm (.sb (.Λ 4) (.Λ 6)) (.ϧ (.f8 (.ai 132)) [.Λ 2,.wr (.Λ 4) (.Λ 6),.Λ 3])] [],.fo [7] Qb (.ϧ (.f8 (.ty 491260897125)) [.az (.Λ 0) 1936292453 []]) CW]
section
variable{a b:Nat}{st:QS R}{sv:Option ab}(hd:5<=d)(O:ju X)(V:rj X)(hK:K∈X.cs)(h0:¬dn K)(h1:∀k,dn' k ↔ dn k\/k=K)(lo:∀k,dn' k->sz k<=sz K)(hb:b<X.cs.length)(P:PT X dn b st)(hA:st.Ad K=Qa a)
 (q1:∀s',PT X dn' (b+1) s'->s'.k=st.k->KM X.D (sz K) s' st->R' .nx (iw X sv (Qa (jC.v K)) s'.d s'.e s'.f s'.k) s'.g)
include hd O V hK h0 h1 lo hb P hA q1
def zbx(hov:X.ov=.Δ):bz (ah P0 d) FX (iw X sv (Qa (jC.v K)) st.d st.e st.f st.k) st.g R':=by
 have hKd:dn' K:=(h1 K).Ϩ (.u8 rfl);have eV:bj (T:=jC) st.V K (st.V K)=st.V:=funext λk=>by
  by_cases q:k=K
  ·refine eqE q ?_;exact jE
  ·exact jF q
 obtain⟨s',P',k',m',e⟩:=Hp (sv:=sv) hd O hK P.TM hA (b:=b) (dn':=dn') (Jm (JN P.hc _) (by rw(occs:=.Db) [KH b 1,ZS,<-J6];exact Jp (Ze _) _)) hb lo hKd
  (λk hk=>P.dg k λq=>hk ((h1 k).Ϩ (.nb q))) (λk hk x hx=>((h1 k).mp hk).ι (λq=>P.de k q x hx) λq=>by
   subst q;exact R.ag (Jq _ _) (JN (Jq _ _) _) (P.dg k h0 x hx)) P.ky
  (λt ht=>by
   have:=Ey O hK h0 h1 (z8 O) (V.no hov (st.V K) (P.TM.am K)) ht (P.w t ht)
   rw(occs:=.Db) [eV] at this
   exact this)
 exact jT (.k (zeA hov)<|.c<|.s (e)<|.z (q1 _ P' k' m')) rfl
def zbw(hov:X.ov=.ο aT):bz (ah P0 d) FX (iw X sv (Qa (jC.v K)) st.d st.e st.f st.k) st.g R':=by
 have S:=P.TM;have hcl:st.c<=X.cl:=Jm P.hc (Jp (J8 _ (JL hb)) 1);refine xEE (V.so aT hov hd S.Ch (S.LT K a hA) (S.am K) (P.dg K h0) (Mj O hK hcl)) λt a2 cw=>?_;refine xEA cw λrow' ec Nw=>?_;rw[<-hov] at ec;refine xEEAAA S.dd λep es hDd hKy hlen hdg=>?_;have hKe:jO es (jC.v K)=Qa (.ο a):=(hdg K).ν (by rw[hA];rfl);have ge:X.h.ε<=a2:=Jm (by obtain⟨t0,hg⟩:=S.Ch;rw[hg,Ju];exact Jq _ _) Nw.ge;have S2:=(S.cu:RW jC R X.h (st.g++t) X.D X.M.aa.ε st.c st.Ad st.V).put (k:=K) (jA hDd) Nw.Hd ge (λz' e=>υ (jS (S.LT z' _ e)) (Zs.Ϩ Nw.ge)) Nw.am (bif (jO es (jC.v K)).Ψ then ep else ep.ς (· +1)) (S.ep hDd _);obtain⟨s',P',k',m',e⟩:=Hp (sv:=sv) (st:=st.upR _ K a2 row') hd O hK S2 (show bj (T:=jC) st.Ad K (Qa a2) K=Qa a2 from jE) (b:=b) (dn':=dn')
  (by show st.c+1+X.M.ax<=_;rw[KH b 1,ZS,<-J6,J6 st.c,Kf 1];exact JN P.hc _) hb lo ((h1 K).Ϩ (.u8 rfl))
  (λk hk x hx=>by
   have hx:x∈bj (T:=jC) st.V K row' k:=hx;rw[jF λq:k=K=>hk (by rw[q];exact((h1 K).Ϩ (.u8 rfl)))] at hx;exact R.ag (Jv _) (Jp (Ze _) _) (P.dg k (λq=>hk ((h1 k).Ϩ (.nb q))) x hx))
  (λk hk x hx=>by
   have hx:x∈bj (T:=jC) st.V K row' k:=hx;by_cases q:k=K
   ·cases q
    rw[jE] at hx;exact R.ag (Jv _) (by show _<=_+(st.c+1);rw[ZG];exact Jp (Ze _) _) (Nw.dg x hx)
   ·rw[jF q] at hx
    exact R.ag (Jv _) (Jp (Ze _) _) (P.de k (((h1 k).mp hk).resolve_right q) x hx))
  (λk a' h=>by
   have h:bj (T:=jC) st.Ad K (Qa a2) k=Qa a':=h;by_cases q:k=K
   ·rw[q];exact hK
   ·rw[jF q] at h;exact P.ky k a' h)
  (λt ht=>by
   have:=Ey O hK h0 h1 (z8 O) Nw.w ht (P.w t ht)
   show R.Ϯ (nL (T:=jC) X.cs dn' (Bt X.M t) (bj (T:=jC) st.V K row')) (R.Ϯ (jM (bj (T:=jC) st.V K row' K) (gS X K t) 0) (s7 X dn' (bj (T:=jC) st.V K row') t))=X.W t;rw[jE];exact this)
 exact jT (.k (zez hov)<|.c<|.v (sd hDd (mX (T:=jC) hKy) hKe)<|.p (ec)<|.h (L3 (v:=.ο a2) (jA (t:=t) hDd) (mX (T:=jC) (k:=K) hKy) (Jt hlen (Jt hcl (Zp O.cl (by decide))):es.ε<bc))<|.s (e)<|.z (q1 _ P' k' ⟨λk h=>m'.al k (by
  show ∃a,bj (T:=jC) st.Ad K (Qa a2) k=Qa a;by_cases q:k=K
  ·refine eqE q ?_;exact⟨a2,jE⟩
  ·rw[jF q];exact h),λb vs n0 n1 n2=>m'.kp b vs n0 (λk e=>by
  have e:bj (T:=jC) st.Ad K (Qa a2) k=Qa b:=e;by_cases q:k=K
  ·rw[q,jE] at e
   obtain rfl:=Qa.dL e;exact Zs.Ϩ Nw.ge (jS n2)
  ·rw[jF q] at e;exact n1 k e) (jP (λe=>n0 e.Μ) (jA n2)),λk hm h=>by
  by_cases q:k=K
  ·refine eqB q ?_;exact⟨a,hA⟩
  ·exact(m'.nw k hm h).ι λb e=>⟨b,(jF (T:=jC) (f:=st.Ad) (x:=Qa a2) q).Μ.ν e⟩⟩)) rfl
theorem O9:bz (ah P0 d) FX (iw X sv (Qa (jC.v K)) st.d st.e st.f st.k) st.g R':=
 V.r.ι (zbx hd O V hK h0 h1 lo hb P hA q1) λ⟨_,hov⟩=>zbw hd O V hK h0 h1 lo hb P hA q1 hov
end
end
section
variable{c:Cx}{fr:Internal.Frame}
def Ro{e:θ}(hD:h[D]?=Qa (.Χ (Qa e) es)):nA h (.ο D)=Qa (.dk D es.ε e):=by
 show ba Qc (ba (ba ((h[D]?.Η ae.Rs).ς λ_=>It.ls D) ((h[D]?.Η ae.TO).Η λd=>d.1.ς λep=>It.dk D d.2.ε ep)) _)=_;rw[hD];rfl
def Pj{e:θ}(hD:h[D]?=Qa (.Χ (Qa e) es)):lI h i (.dk D es.ε e)=Qa (es.ς (·.1))[i]?:=by
 show (h[D]?.Η ae.TO).Η (λd=>aw (d.1==Qa e && d.2.ε==es.ε) (Qa (d.2[i]?.ς (·.1))))=_;rw[hD];show aw (Qa e==Qa e && es.ε==es.ε) (Qa (es[i]?.ς (·.1)))=_;simp only[ϫ,ϫ,JA];rfl
def wA{e:θ}(p:ab->Ε)(hf:es.ε<c.cv)(hl:es.ε<=bc)(hx:∀v,(fr.ϩ x (Qa v))[x]?=Qa (Qa v))
  (q:WE c fr it h λv h1=>v=.ο D/\h1[D]?=Qa (.Χ (Qa e) es)/\(∀v,v∈es.ς (·.1)->∀acc,tm c (fr.ϩ x (Qa v)) ifs (h1++[.ξ acc]) λb h2=>h2=h1++[.ξ acc]/\b=p v)/\Q (.ο h1.ε) (h1++[.ξ ((es.ς (·.1)).Ϡ p)])):WE c fr (.comp (.Λ x) [x] Qb it ifs) h Q:=by
 refine tR (W.Ν q λv h1 q=>?_);obtain⟨rfl,hD,st,q⟩:=q;refine⟨.dk D es.ε e,es.ς (·.1),Ro hD,by rw[Js];exact hf,λi hh=>hh=h1++[.ξ (((es.ς (·.1)).ϣ i).Ϡ p)],rfl,?_,?_,?_⟩
 ·rintro i hh rfl;exact Pj (jA hD)
 ·rintro i v hv hh rfl
  refine kP (W.Ν (st v (Jr hv) _) λb h2 q=>?_);obtain⟨rfl,rfl⟩:=q;have hi:=jI hv;refine br (λhb=>qL (hx v) ⟨_,ak,?_,?_⟩) (λhb=>?_)
  ·have h1:=ZL p ((es.ς (·.1)).ϣ i)
   rw[ZC] at h1;rw[Js] at hi;exact Jt h1 (Jt (KN _ _) (Jw hi hl))
  ·rw[qP]
   show _=h1++[ae.ξ (((es.ς (·.1)).ϣ (i+1)).Ϡ p)];rw[pG hv,hb];rfl
  ·show _=h1++[ae.ξ (((es.ς (·.1)).ϣ (i+1)).Ϡ p)]
   rw[pG hv,hb,ϯ,Zi]
 ·rintro hh rfl
  exact JW▸q
end
section
variable{T:ji}{Ad:T.κ->Option Nat}{V:T.κ->List R.α}
def Rm:∀{es:ζ (ab×ab)},pB T es->∃ks:ζ T.κ,es.ς (·.1)=ks.ς T.v:=by
 intro es
 induction es with
 |ϟ=>exact λ_=>⟨[],rfl⟩
 |Κ p r ih=>
  intro K;obtain⟨a,e⟩:=K p (.mo _);obtain⟨ks,q⟩:=ih λp hp=>K p (.lw _ hp);exact⟨a::ks,by rw[JY,JY,q,e]⟩
def zdi(g:MH)(D c:θ)(Ad:T.κ->η θ)(e:θ)(es:ζ (ab×ab))(ks:ζ T.κ):Prop:=g[D]?=Qa (.Χ (Qa e) es)/\es.ς (·.1)=ks.ς T.v/\ks.ϥ/\(∀k,k∈ks ↔ ∃a,Ad k=Qa a)/\es.ε<=c
section
variable{g:MH}{D c:Nat}{Ad:T.κ->Option Nat}{e:Nat}{es:List (ab×ab)}{ks:List T.κ}(ψ:zdi g D c Ad e es ks)
def zdi.Hd:=@ψ.1
def zdi.kq:=@ψ.2.1
def zdi.nd:=@ψ.2.2.1
def zdi.mem:=@ψ.2.2.2.1
def zdi.am:=@ψ.2.2.2.2
end
def RW.ny(S:RW T R h g D N c Ad V):∃e es ks,zdi g D c Ad e es ks:=by
 refine xEEA S.sm λe es hD nd=>?_;refine xEEAAA S.dd λep es' h1 K hc hg=>?_;rw[hD] at h1;cases h1;refine xE (Rm K) λks q=>?_;rw[q] at nd;refine⟨e,es,ks,hD,q,nd.of_map _ λa b hab e=>hab (χ T.v e),λk=>?_,hc⟩;have hg:=hg k
 constructor
 ·intro hk
  have:T.v k∈es.ς (·.1):=q▸JM.Ϩ ⟨k,hk,rfl⟩
  refine xEA (JM.mp this) λp hp e1=>?_;cases hA:Ad k with
  |some a=>exact⟨a,rfl⟩
  |none=>
   rw[hA] at hg
   have:=ζ.find?_eq_none.mp (η.map_eq_none_iff.mp hg) p hp
   rw[show p.1=T.v k from e1,T.eq,Ζ rfl] at this;exact υ rfl this
 ·rintro ⟨a,hA⟩
  rw[hA] at hg;refine xEA (Za.mp hg) λp hp _=>?_;have h1:=KQ hp;have h2:p.1∈es.ς (·.1):=JM.Ϩ ⟨p,Ko hp,rfl⟩;rw[q] at h2;refine xEA (JM.mp h2) λb hb e2=>?_;rw[<-e2,T.eq] at h1;exact Ο h1▸hb
abbrev V5(l:ζ WW):ζ WW:=yE jC.v l
theorem lY(l:ζ WW):(V5 l).TH l:=tT l
theorem zfu(z:Cx){x:ab}{l:ζ WW}(hx:w7 g x=Qa (l.ς jC.v))(hl:l.ε<=60):jJ z (.bi wR) [x] g=Qa (.ο g.ε,g++[.ξ ((V5 l).ς jC.v)]):=RA z hx hl (.u8 ⟨[Qe],λ_=>⟨rfl,rfl⟩⟩)
def zY{cs ks:ζ α}(nc:cs.ϥ)(nk:ks.ϥ)(p:α->Ε)(hm:∀k,k∈ks ↔ k∈cs/\p k=Qe):ks.TH (cs.Ϡ p)/\ks.ε<=cs.ε:=by
 have P:ks.TH (cs.Ϡ p):=(ζ.perm_ext_iff_of_nodup nk (nc.Ϡ _)).Ϩ λk=>by rw[hm,ZO]
 exact⟨P,P.IO▸ZL _ _⟩
end
section
variable{X:PX R}{K:WW}
def pz(s:θ)(v:ab):Ε:=decide (((v.tup?.bm []).ς λx=>(x.Tv.bm []).ε).sum=s)
theorem zhg(s:θ)(k:WW):pz s (jC.v k)=decide (sz k=s):=rfl
theorem Fx(s:θ)(ks:ζ WW):(ks.ς jC.v).Ϡ (pz s)=(ks.Ϡ λk=>decide (sz k=s)).ς jC.v:=ζ.filter_map ..
abbrev zcx:Ex:=.comp (.Λ 12) [12] Qb (.Λ 4) [.ft .eq (.ew .Ϯ (.ϧ (.f8 (.bi 7103854)) [.wr (.Λ 12) (.f8 (.φ 0))]) (.ϧ (.f8 (.bi 7103854)) [.wr (.Λ 12) (.f8 (.φ 1))])) (.Λ 5)]
def Rn{e:θ}{ks:ζ WW}{Ad:WW->η θ}{b z f x k:η ab}(H:zdi (T:=jC) g X.D c Ad e es ks)(hc:c<=100000):eval (ah P0 d) zcx (iw X (vN s) b z f x k) g=Qa (.ο g.ε,g++[.ξ ((ks.Ϡ λk=>decide (sz k=s)).ς jC.v)]):=by
 have hl:=Jm H.am hc;refine W.eq (wA (pz s) (Jt hl (by decide:100000<200000)) (Jm hl (by decide)) (λ_=>rfl) (qL rfl ⟨rfl,H.Hd,λv hv acc=>?_,rfl,?_⟩))
 ·rw[H.kq] at hv
  obtain⟨k,_,rfl⟩:=JM.mp hv;refine sC ((show WE (ah P0 d) _ _ (g++[.ξ acc]) (λv h=>v=.ϝ (((k.1.ε:Τ)+(k.2.ε:Τ))==(s:Τ))/\h=g++[.ξ acc]) from j2 (.c4<|.c<|.k (tc ((k.1.ε:Τ)+(k.2.ε:Τ)) s)<|.z (cg (.ϝ (((k.1.ε:Τ)+(k.2.ε:Τ))==(s:Τ))) (g++[.ξ acc]))) rfl).Ν λv h q=>?_);obtain⟨rfl,rfl⟩:=q;have e:(((k.1.ε:Τ)+(k.2.ε:Τ))==(s:Τ))=pz s (jC.v k):=by
   rw[zhg,Z8,Β,Ϫ];exact⟨λh=>Yz.dL h,λh=>by rw[<-h];rfl⟩
  rw[e];exact tQ ⟨λhb=>tP ⟨rfl,hb.Μ⟩,λhb=>⟨rfl,hb.Μ⟩⟩
 ·rw[H.kq,Fx]
end
def RE{c:Cx}{e:Ex}{b:ζ Sm}(F:σ->Ρ.Θ)(G:σ->MH)(P:θ->σ->Prop)(s0:σ)(hn:vs.ε<=100000)(hc:c.cv=200000)
  (hk:∀i s,P i s->(G s)[a]?=Qa (.ξ vs)) (e0:WE c (F s0) e h λv g=>v=.ο a/\g=G s0) (p0:P 0 s0)
  (step:∀i v s R' R,vs[i]?=Qa v->P i s->To F G (P (i+1)) R R'->Wo (mQ (F s) tg many v) λfr1=>bz c b fr1 (G s) R'):∃s,P vs.ε s/\exec c (.fo tg many e b) (F s0) h=Qa ((.nx,F s),G s):=by
 have w:WS c (.fo tg many e b) (F s0) h λfl f g=>∃s,P vs.ε s/\fl=.nx/\f=F s/\g=G s:=
  v9 F G P (by rw[hc];exact Jw (JV hn) (Jz _ _)) s0 hk (e0.Ν λv g q=>⟨q.1,rfl,q.2,p0⟩) (λi v s R' hi hp T=>step i v s R' _ hi hp T) λs hp=>⟨s,hp,rfl,rfl,rfl⟩
 obtain⟨⟨fl,f⟩,g,e,s,hp,q1,q2,q3⟩:=W.xL w;refine eqE q1 ?_;subst q2;subst q3;exact⟨s,hp,e⟩
section
variable{X:PX R}{b':Nat}{st:QS R}
theorem PT.cu{t:MH}(P:PT X dn b st):PT X dn b ⟨st.g++t,st.2⟩:=⟨P.TM.cu,P.hc,P.dg,P.de,P.ky,P.ne,P.w⟩
def PT.fw(P:PT X dn b st)(hb:b<=b')(h1:∀k,dn k->dn' k)(h2:∀k,dn' k->dn k\/st.Ad k=Qc):PT X dn' b' st:=by
 have zr:∀k,st.Ad k=Qc->∀x∈st.V k,x=R.Ι:=λk h x hx=>by
  rw[P.TM.nj k h] at hx;exact Zc hx
 refine⟨P.TM,Jm P.hc (Jp (J8 _ hb) 1),λk hk=>P.dg k λq=>hk (h1 k q),λk hk x hx=>?_,P.ky,P.ne,λt ht=>?_⟩
 ·exact(h2 k hk).ι (λq=>P.de k q x hx) λq=>by rw[zr k q x hx];exact(R.ag (JF _) (JF _) R.bx)
 ·rw[<-P.w t ht]
  have hz:∀k,dn' k->¬dn k->st.V k=jV R X.M.aa.ε:=λk q n=>P.TM.nj k ((h2 k q).resolve_left n);refine congr (χ R.Ϯ (lS λk hk=>?_)) ?_
  ·by_cases q:dn k
   ·rw[ρ q,ρ (h1 k q)]
   ·by_cases q':dn' k
    ·rw[π q,ρ q',hz k q' q,kH]
    ·rw[π q,π q']
  ·by_cases q:dn t
   ·rw[oW q,oW (h1 t q)]
   ·by_cases q':dn' t
    ·rw[oA q,oW q',hz t q' q,kH]
    ·rw[oA q,oA q']
def E2(p q:α->Ε):∀(l:ζ α),(∀x,p x=Qe->q x=Qb)->(l.Ϡ p).ε+(l.Ϡ q).ε=(l.Ϡ λx=>p x||q x).ε:=by
 intro l h
 induction l with
 |ϟ=>rfl
 |Κ x l ih=>
  simp only[ζ.filter_cons,ζ.filter_cons,ζ.filter_cons];cases hp:p x with
  |true=>
   rw[h x hp];show (x::l.Ϡ p).ε+(l.Ϡ q).ε=(x::l.Ϡ λx=>p x||q x).ε;simp only[ZA,ZA,<-ih,ZG]
  |false=>
   cases hq:q x with
   |true=>
    show (l.Ϡ p).ε+(x::l.Ϡ q).ε=(x::l.Ϡ λx=>p x||q x).ε;simp only[ZA,ZA,<-ih];rfl
   |false=>exact ih
def bs(X:PX R)(s:θ):θ:=(X.cs.Ϡ λk=>decide (sz k<s)).ε
def zcQ(p:WW->Ε)(hp:∀k,p k=Qe->sz k=s):bs X s+(X.cs.Ϡ p).ε<=X.cs.ε/\bs X s+(X.cs.Ϡ p).ε<=bs X (s+1):=by
 have e:=E2 (λk=>decide (sz k<s)) p X.cs λk h=>by
  cases q:p k with
  |false=>rfl
  |true=>exact υ (Ο h) (by rw[hp k q];exact J3 _)
 delta bs;rw[e];refine⟨ZL _ _,?_⟩;rw[<-ζ.countP_eq_length_filter,<-ζ.countP_eq_length_filter];refine ζ.countP_mono_left λk _ h=>?_;rcases K8.mp h with h|h
 ·exact Ζ (Zu (Ο h))
 ·exact Ζ (by rw[hp k h];exact JT _)
end
variable{s1:QS R}
section
variable{X:PX R}{st:QS R}{l:List WW}
abbrev pv(s:θ)(k:WW):Prop:=sz k<s
abbrev cG(s:θ)(l:ζ WW)(j:θ)(k:WW):Prop:=sz k<s\/k∈l.ϣ j
def SI(X:PX R)(s:θ)(l:ζ WW)(s1:QS R)(k0:η ab)(j:θ)(st:QS R):Prop:=PT X (cG s l j) (bs X s+j) st/\st.k=k0/\KM X.D s st s1
section
variable{X:PX R}{s:Nat}{l:List WW}{s1:QS R}{k0:Option ab}{j:Nat}{st:QS R}(ψ:SI X s l s1 k0 j st)
def SI.P:=@ψ.1
def SI.k:=@ψ.2.1
def SI.m:=@ψ.2.2
end
theorem PT.uz{y:η ab}(P:PT X dn b st):PT X dn b ⟨st.1,st.2.1,st.2.2.1,st.2.2.2.1,st.2.2.2.2.1,y,st.2.2.2.2.2.2⟩:=⟨P.TM,P.hc,P.dg,P.de,P.ky,P.ne,P.w⟩
theorem PT.vb{y:η ab}(P:PT X dn b st):PT X dn b ⟨st.1,st.2.1,st.2.2.1,st.2.2.2.1,y,st.2.2.2.2.2⟩:=⟨P.TM,P.hc,P.dg,P.de,P.ky,P.ne,P.w⟩
theorem z4{l:ζ α}{K:α}(nd:l.ϥ)(h:l[i]?=Qa K):K∉l.ϣ i:=λq=>by
 rw[((Kc i l).Μ:l=l.ϣ i++l.bn i),pI h] at nd;exact(Kr.mp nd).2.2 K q K (.mo _) rfl
def SL(X:PX R)(s:θ)(l:ζ WW)(s1:QS R):Prop:=l.ϥ/\(∀k,k∈l ↔ sz k=s/\∃a,s1.Ad k=Qa a)/\(∀k∈l,k∈X.cs)/\(bs X s+l.ε<=X.cs.ε/\bs X s+l.ε<=bs X (s+1))
section
variable{X:PX R}{s:Nat}{l:List WW}{s1:QS R}(ψ:SL X s l s1)
def SL.nd:=@ψ.1
def SL.mem:=@ψ.2.1
def SL.cs:=@ψ.2.2.1
def SL.n:=@ψ.2.2.2
end
def ON{v:ab}(hd:5<=d)(O:ju X)(V:rj X)(H:SL X s l s1)(hv:(l.ς jC.v)[i]?=Qa v)(I:SI X s l s1 k0 i st)(T:To (λs':QS R=>iw X (vN s) s'.b s'.d s'.e s'.f s'.k) QS.g (SI X s l s1 k0 (i+1)) R1 R'):
  Wo (mQ (iw X (vN s) st.b st.d st.e st.f st.k) [6] Qb v) λfr1=>bz (ah P0 d) FX fr1 st.g R':=by
 rw[JA] at hv;obtain⟨K,hK,rfl⟩:=Za.mp hv;have hm:=Jr hK;have q:=(H.mem K).mp hm;have hKs:sz K=s:=q.1;refine(I.m.al K q.2).ι λa hA=>?_;refine kP (O9 (dn:=cG s l i) (dn':=cG s l (i+1)) (a:=a) hd O V (H.cs K hm) (λh=>h.ι (λh=>υ hKs (Ke h)) (z4 H.nd hK)) (λk=>?_) (λk h=>?_) (b:=bs X s+i) (Jw (Zw (jI hK) _) H.n.1) I.P hA λs' P' k' m'=>T.nx ⟨s'.1,s'.2.1,s'.2.2.1,s'.2.2.2.1,s'.2.2.2.2.1,Qa (jC.v K),s'.2.2.2.2.2.2⟩ ⟨P'.uz,k'.ν I.k,I.m.ν (hKs▸ ⟨m'.al,m'.kp,m'.nw⟩)⟩)
 ·show sz k<s\/k∈l.ϣ (i+1) ↔ (sz k<s\/k∈l.ϣ i)\/k=K
  rw[wG hK,Zd,JI,or_assoc]
 ·exact h.ι (λh=>hKs▸JL h) λh=>JC (((H.mem k).mp (Z4 h)).1.ν hKs.Μ)
abbrev CI:Sm:=.fo [6] Qb (.ϧ (.f8 (.bi 126922498794852)) [zcx]) FX
def CX(hd:5<=d)(O:ju X)(V:rj X)(C:X.cs.ε<=60)(P:PT X (pv s) (bs X s) st):∃st',PT X (pv (s+1)) (bs X (s+1)) st'/\st'.k=st.k/\exec (ah P0 d) CI (iw X (vN s) st.b st.d st.e st.f st.k) st.g=Qa ((.nx,iw X (vN s) st'.b st'.d st'.e st'.f st'.k),st'.g):=by
 refine xEE P.TM.ny λe es cw=>?_;refine xE cw λks H=>?_;have nk:(ks.Ϡ λk=>decide (sz k=s)).ϥ:=H.nd.Ϡ _;have hm:∀k,k∈ks.Ϡ (λk=>decide (sz k=s)) ↔ sz k=s/\∃a,st.Ad k=Qa a:=λk=>by
  rw[ZO,H.mem,Ϫ,and_comm]
 obtain⟨el,hl⟩:=zY (cs:=X.cs) (ks:=ks.Ϡ λk=>decide (sz k=s)) O.nd nk (λk=>decide (sz k=s) && (st.Ad k).Ψ) λk=>by
  rw[hm,Jn,Ϫ,Zj];exact⟨λh=>⟨h.2.ι λa q=>P.ky k a q,h⟩,λh=>h.2⟩
 have f1:=Rn (d:=d) (X:=X) (s:=s) (b:=st.b) (z:=st.d) (f:=st.e) (x:=st.f) (k:=st.k) H (Jm P.hc (Jm (Jp (J8 _ (ZL _ _)) 1) (Jm (JL O.cl) (by decide))):st.c<=100000)
 generalize ks.Ϡ (λk=>decide (sz k=s))=kl at nk hm el hl f1
 have L:SL X s (V5 kl) st:=by
  refine⟨(lY kl).nodup_iff.Ϩ nk,λk=>?_,λk hk=>?_,((lY kl).IO.ν el.IO)▸zcQ _ λk h=>Ο (Jn.mp h).1⟩
  ·rw[(lY kl).re,hm]
  ·exact((hm k).mp ((lY kl).re.mp hk)).2.ι λa q=>P.ky k a q
 have f2:=zfu (g:=st.g++[.ξ (kl.ς jC.v)]) (ah P0 d) (x:=.ο st.g.ε) (kvL ak) (Jm hl C);have n60:(V5 kl).ε<=60:=(lY kl).IO▸Jm hl C
 generalize V5 kl=l at L f2 n60
 have lt1:st.g.ε<=(st.g++[ae.ξ (kl.ς jC.v)]).ε:=by rw[Ju];exact Jq _ _
 obtain⟨s',I,e⟩:=RE (c:=ah P0 d) (h:=st.g) (tg:=[6]) (many:=Qb) (e:=.ϧ (.f8 (.bi 126922498794852)) [zcx]) (b:=FX) (vs:=l.ς jC.v) (a:=(st.g++[ae.ξ (kl.ς jC.v)]).ε) (λs':QS R=>iw X (vN s) s'.b s'.d s'.e s'.f s'.k) QS.g (SI X s l ⟨st.g++[.ξ (kl.ς jC.v)]++[.ξ (l.ς jC.v)],st.2⟩ st.k) ⟨st.g++[.ξ (kl.ς jC.v)]++[.ξ (l.ς jC.v)],st.2⟩
  (by rw[Js];exact Jm n60 (by decide)) rfl (λi s2 I=>(I.m.kp _ _ (λe=>Zs.Ϩ lt1 (e▸jS H.Hd):(st.g++[ae.ξ (kl.ς jC.v)]).ε≠X.D) (λk e=>Zs.Ϩ lt1 (jS (P.TM.LT k _ e)):∀k,st.Ad k≠Qa (st.g++[ae.ξ (kl.ς jC.v)]).ε) ak).1) (by exact j2 (.p f1<|.p f2<|.z (cg (.ο (st.g++[ae.ξ (kl.ς jC.v)]).ε) (st.g++[.ξ (kl.ς jC.v)]++[.ξ (l.ς jC.v)]))) (by kernel_rfl)) ⟨(P.cu.cu).fw (Jv _) (λk h=>.nb h) λk h=>.nb (h.ι id λh=>υ h JE),rfl,KM.rfl'⟩ λi v s2 R' R1 hv I T=>ON (s1:=⟨st.g++[.ξ (kl.ς jC.v)]++[.ξ (l.ς jC.v)],st.2⟩) hd O V ⟨L.nd,L.mem,L.cs,L.n⟩ hv I T
 rw[Js] at I;refine⟨s',I.P.fw L.n.2 (λk h=>?_) (λk h=>?_),I.k,e⟩
 ·exact h.ι (λh=>Zu h) λh=>by
   show sz k<s+1;rw[((L.mem k).mp (Z4 h)).1];exact JT _
 ·rcases KZ (J7 h) with h|h
  ·exact .nb (.nb h)
  ·by_cases q:k∈l
   ·exact .nb (.u8 (by rw[JW];exact q))
   ·refine .u8 ?_
    cases hA:s'.Ad k with
    |none=>rfl
    |some a=>exact υ ((L.mem k).Ϩ ⟨h,I.m.nw k (JC h) ⟨a,hA⟩⟩) q
end
section
variable{X:PX R}{st:QS R}{l:List WW}
abbrev zbi:Sm:=.fo [5] Qb (.ϧ (.f8 (.ty 491260897125)) [.ew .Ϯ (.ew .lv (.f8 (.φ 2)) (.Λ 1)) (.f8 (.φ 1))]) [CI]
def zbt(hd:5<=d)(O:ju X)(V:rj X)(C:X.cs.ε<=60)(P:PT X (pv 0) (bs X 0) st):∃st',PT X (pv (2*X.N+1)) (bs X (2*X.N+1)) st'/\st'.k=st.k/\exec (ah P0 d) zbi (iw X st.a st.b st.d st.e st.f st.k) st.g=Qa ((.nx,iw X st'.a st'.b st'.d st'.e st'.f st'.k),st'.g):=by
 obtain⟨s',P',e⟩:=lm (c:=ah P0 d) (x:=5) (n:=2*X.N+1) (e:=.ϧ (.f8 (.ty 491260897125)) [.ew .Ϯ (.ew .lv (.f8 (.φ 2)) (.Λ 1)) (.f8 (.φ 1))]) (b:=[CI]) (λs':QS R=>iw X s'.a s'.b s'.d s'.e s'.f s'.k) QS.g (λi s'=>PT X (pv i) (bs X i) s'/\s'.k=st.k) st
  (Jm (Zf (JD 2 O.n)) (by decide)) rfl (by exact j2 (.q (W7 (a:=2) (b:=X.N) (by decide) (Jt O.n (by decide)))<|.c2<|.z (wM (2*X.N) st.g)) (by kernel_rfl)) ⟨P,rfl⟩ λi s' R1 _ hi P1 T1=>by
   refine xEAA (CX hd O V C P1.1) λs2 P2 k2 e=>?_;exact jT (.s e<|.z (T1.nx ⟨s2.1,s2.2.1,s2.2.2.1,s2.2.2.2.1,vN i,s2.2.2.2.2.2⟩ ⟨P2.vb,k2.ν P1.2⟩)) rfl
 exact⟨s',P'.1,P'.2,e⟩
def PT.fe(O:ju X)(P:PT X (pv (2*X.N+1)) b st){t:WW}(ht:t∈X.cs):jM (st.V t) (eh X.M) 0=X.W t:=by
 have hd:∀t∈X.cs,pv (2*X.N+1) t:=λt ht=>JV (Jm (JH (O.am t ht).1 (O.am t ht).2) (JC (KV _).Μ));simp only[<-P.w t ht,oW (hd t ht),oO (T:=jC) λc hc h=>υ (hd c hc) h,R.Ϛ]
def Pa(O:ju X)(P:PT X (pv (2*X.N+1)) b st)(hb:b<=X.cs.ε){t:WW}(ht:t∈X.cs):4*(X.p*(sz t+1)+X.pS+X.p1)+(X.k*(sz t+1)+X.kS+st.c+X.k1+X.M.aa.ε)<=3800:=by
 have hz:sz t+2<=2*X.N+2:=JN (Jm (JH (O.am t ht).1 (O.am t ht).2) (JC (KV _).Μ)) 2;exact(yO (n:=sz t) O.pp O.kk (Jm P.hc (Jp (J8 _ hb) 1):st.c<=X.cl) (Jm (JH (JD 4 (JD _ hz)) (JN (JD _ hz) _)) O.bd)).2.2
def O6(hd:4<=d)(O:ju X)(P:PT X (pv (2*X.N+1)) b st)(hb:b<=X.cs.ε){t:WW}(ht:t∈X.cs)(hA:st.Ad t=Qa a)(hg:∃t,g=st.g++t):jJ (ah P0 d) (.ai 127) [.ο X.L.m,.ο a] g=Qa (R.e (X.W t),g):=by
 obtain⟨t',rfl⟩:=hg;have S:RW jC R X.h (st.g++t') X.D X.M.aa.ε st.c st.Ad st.V:=P.TM.cu
 have:=fn (P:=P0) rfl (vT (Q:=λv g=>v=_/\g=_) hd (S.mx O.I) (S.LT _ _ hA) (S.am _) (P.de t (JV (Jm (JH (O.am t ht).1 (O.am t ht).2) (JC (KV _).Μ)):sz t<2*X.N+1)) O.G.ed (Pa O P hb ht) ⟨rfl,rfl⟩)
 rw[Le (o:=0) (b:=eh X.M) ((S.am _).ν O.I.du.Μ) λs x hx=>by unfold eh;rw[ZK,hx];rfl,P.fe O ht] at this;exact this
end
section
variable{X:PX R}{st:QS R}{l:List WW}
abbrev nz{κ:Type}(W:κ->R.α)(k:κ):Ε:=!@decide (W k=R.Ι) (R.gi _ _)
def uJ(T:ji)(W:T.κ->R.α)(l:ζ T.κ):ζ (ab×ab):=(l.Ϡ (nz W)).ς λk=>(T.v k,R.e (W k))
def pA(T:ji)(W:T.κ->R.α)(cs:ζ T.κ)(es:ζ (ab×ab)):Prop:=∃l,es=uJ T W l/\(l.Ϡ (nz W)).TH (cs.Ϡ (nz W))
def US{T:ji}{l:ζ T.κ}{W:T.κ->R.α}{K:T.κ}(h:l[i]?=Qa K):uJ T W (l.ϣ (i+1))=uJ T W (l.ϣ i)++(bif !@decide (W K=R.Ι) (R.gi _ _) then[(T.v K,R.e (W K))] else[]):=by
 delta uJ;rw[wG h,Xu,JR]
 congr 1
 refine rY (!@decide (W K=R.Ι) (R.gi _ _)) (λhb=>?_) λhb=>?_
 ·rw[hb]
  rw[ζ.filter_cons_of_pos (by exact hb)];rfl
 ·rw[hb]
  rw[ζ.filter_cons_of_neg (p:=nz W) (λe=>Zq (hb.Μ.ν e))];rfl
def UT{T:ji}{l:ζ T.κ}{W:T.κ->R.α}{K:T.κ}(h:K∉l):jO (uJ T W l) (T.v K)=none:=by
 refine η.map_eq_none_iff.Ϩ (ζ.find?_eq_none.Ϩ λp hp q=>?_);obtain⟨k,hk,rfl⟩:=JM.mp hp;rw[T.eq] at q;exact h (Ο q▸(ZO.mp hk).1)
theorem yH{T:ji}{l:ζ T.κ}{W:T.κ->R.α}:pB T (uJ T W l):=λp hp=>by
 obtain⟨k,_,rfl⟩:=JM.mp hp;exact⟨k,rfl⟩
abbrev QO:=θ×(ζ (ab×ab))×η ab×η ab
section
variable(ψ:QO)
abbrev QO.ep:=ψ.1
abbrev QO.es:=ψ.2.1
abbrev QO.b:=ψ.2.2.1
abbrev QO.v:=ψ.2.2.2
end
abbrev GN(st:QS R)(l:ζ WW)(s:QO):MH:=st.g++[.Χ (Qa s.ep) s.es,.ξ (l.ς jC.v)]
abbrev yc(X:PX R)(st:QS R)(s:QO):Ρ.Θ:=Qa (.ο X.L.m)::Qa (.φ X.N)::Qa (.ai (112+R.i))::Qa X.ov::Qa (.ο X.D)::st.a::s.b::st.d::st.e::st.f::vR st.g.ε::s.v::nn 6
abbrev zbE:ζ Sm:=[.fm (.nm 11) (.ϧ (.f8 (.ai 127)) [.Λ 0,.wr (.Λ 4) (.Λ 6)]),.ite (.ft .ne (.Λ 11) (.aq (.Λ 2) lr)) [.fm (.sb (.Λ 10) (.Λ 6)) (.Λ 11)] []]
def Pd{v:ab}{s:QO}(hd:4<=d)(O:ju X)(P:PT X (pv (2*X.N+1)) b st)(hb:b<=X.cs.ε)(nd:l.ϥ)(n60:l.ε<=60)(hm:∀k∈l,∃a,st.Ad k=Qa a)(hv:(l.ς jC.v)[i]?=Qa v)(I:s.es=uJ jC X.W (l.ϣ i))(T:To (yc X st) (GN st l) (λs=>s.es=uJ jC X.W (l.ϣ (i+1))) R1 R'):
  Wo (mQ (yc X st s) [6] Qb v) λfr1=>bz (ah P0 d) zbE fr1 (GN st l s) R':=by
 rw[JA] at hv;refine xEA (Za.mp hv) λK hK cw=>?_;refine eqE cw ?_;refine xE (hm K (Jr hK)) λa hA=>?_;refine xEEAAA P.TM.dd λep es hDd hKy _ hdg=>?_;have f1:=sd (jA (t:=[.Χ (Qa s.ep) s.es,.ξ (l.ς jC.v)]) hDd) (mX (T:=jC) hKy) ((hdg K).ν (by rw[hA];rfl):jO es (jC.v K)=Qa (.ο a));have f2:=O6 (g:=GN st l s) hd O P hb (P.ky K a hA) hA ⟨_,rfl⟩;have st1:=US (T:=jC) (W:=X.W) hK;refine rY (!@decide (X.W K=R.Ι) (R.gi _ _)) (λhq=>?_) λhq=>?_
 ·rw[hq,na] at st1
  have f3:=L3 (h:=GN st l s) (v:=R.e (X.W K)) (a:=st.g.ε) (mU (j:=0)) (I▸mX (T:=jC) (k:=K) (yH (T:=jC))) (I▸by
   show ((((l.ϣ i).Ϡ _).ς _).ε)<bc;rw[Js];exact Jt (Jm (ZL _ _) (Jm (ζ.Tu _ _) n60)) (by decide))
  have e3:(GN st l s).ϩ st.g.ε (.Χ (bif (jO s.es (jC.v K)).Ψ then Qa s.ep else(Qa s.ep).ς (· +1)) (mK s.es (jC.v K) (R.e (X.W K))))=GN st l ⟨s.ep+1,s.es++[(jC.v K,R.e (X.W K))],Qa (jC.v K),Qa (R.e (X.W K))⟩:=by
   delta mK;rw[(I▸UT (T:=jC) (z4 nd hK):jO s.es (jC.v K)=Qc)];exact Hi (j:=0)
  rw[e3] at f3;exact kP (jT (.v f1<|.p f2<|.w (R.no)<|.k (R.qn (X.W K) R.Ι)<|.t hq<|.h f3<|.z (T.nx ⟨s.ep+1,s.es++[(jC.v K,R.e (X.W K))],Qa (jC.v K),Qa (R.e (X.W K))⟩ (by show s.es++_=_;rw[I,st1]))) rfl)
 ·rw[hq,ϯ,Zi] at st1
  exact kP (jT (.v f1<|.p f2<|.w (R.no)<|.k (R.qn (X.W K) R.Ι)<|.f hq<|.z (T.nx ⟨s.1,s.2.1,Qa (jC.v K),Qa (R.e (X.W K))⟩ (I.ν st1.Μ))) rfl)
end
section
variable{X:PX R}{st:QS R}{l:List WW}
abbrev zhj:Sm:=.fo [6] Qb (.ϧ (.f8 (.bi 126922498794852)) [.Λ 4]) zbE
def Im{W:κ->R.α}{cs:ζ κ}{p:κ->Ε}(h:∀k∈cs,p k=Qb->W k=R.Ι):(cs.Ϡ p).Ϡ (nz W)=cs.Ϡ (nz W):=by
 refine ζ.filter_filter.ν ?_;refine ζ.filter_congr λk hk=>?_;cases hp:p k with
 |true=>exact Yi _
 |false=>unfold nz;rw[YT,h k hk hp];exact(χ (!·) (@Ζ _ (R.gi R.Ι R.Ι) rfl)).Μ
def O7(hd:4<=d)(O:ju X)(C:X.cs.ε<=60)(P:PT X (pv (2*X.N+1)) b st)(hb:b<=X.cs.ε):∃s l,pA jC X.W X.cs s.es/\exec (ah P0 d) zhj (yc X st ⟨0,[],st.b,Qc⟩) (st.g++[.Χ (Qa 0) []])=Qa ((.nx,yc X st s),GN st l s):=by
 refine xEE P.TM.ny λe es cw=>?_;refine xE cw λks H=>?_;obtain⟨el,hl⟩:=zY (cs:=X.cs) (ks:=ks) O.nd H.nd (λk=>(st.Ad k).Ψ) λk=>by
  rw[H.mem,Zj];exact⟨λh=>⟨h.ι λa q=>P.ky k a q,h⟩,λh=>h.2⟩
 have f2:=zfu (g:=st.g++[.Χ (Qa 0) []]) (ah P0 d) ((kvD (jA H.Hd)).ν (χ Qa H.kq)) (Jm hl C);have nd:(V5 ks).ϥ:=(lY ks).nodup_iff.Ϩ H.nd;have n60:(V5 ks).ε<=60:=(lY ks).IO▸Jm hl C;have hm:∀k∈V5 ks,∃a,st.Ad k=Qa a:=λk hk=>(H.mem k).mp ((lY ks).re.mp hk);have eo:((V5 ks).Ϡ (nz X.W)).TH (X.cs.Ϡ (nz X.W)):=by
  refine(((lY ks).ν el).Ϡ _).ν (.of_eq (Im λk hk h=>?_));have hA:st.Ad k=none:=by
   cases q:st.Ad k with
   |none=>rfl
   |some a=>rw[q] at h;cases h
  rw[<-P.fe O hk,P.TM.nj k hA,kH]
 generalize V5 ks=l at f2 nd n60 hm eo
 rw[Ju,JB] at f2;obtain⟨s',I,e⟩:=RE (c:=ah P0 d) (h:=st.g++[.Χ (Qa 0) []]) (tg:=[6]) (many:=Qb) (e:=.ϧ (.f8 (.bi 126922498794852)) [.Λ 4]) (b:=zbE) (vs:=l.ς jC.v) (a:=st.g.ε+1) (yc X st) (GN st l) (λi s=>s.es=uJ jC X.W (l.ϣ i)) ⟨0,[],st.b,Qc⟩
  (by rw[Js];exact Jm n60 (by decide)) rfl (λi s2 _=>mU (j:=1)) (by exact j2 (.p f2<|.z (cg (.ο (st.g.ε+1)) (st.g++[.Χ (Qa 0) [],.ξ (l.ς jC.v)]))) (by kernel_rfl)) rfl λi v s2 R' R1 hv I T=>Pd hd O P hb nd n60 hm hv I T
 rw[Js,JW] at I;exact⟨s',l,⟨l,I,eo⟩,e⟩
abbrev fN(X:PX R):QS R:=⟨sT jC ([],[]) X.h X.M,bj (T:=jC) (λ_=>Qc) ([],[]) (Qa (X.h.ε+1)),bj (T:=jC) (λ_=>jV R X.M.aa.ε) ([],[]) (pP X.M),1,Qc,Qc,Qc,Qc,Qc,Qc⟩
def Eb(hs:M.Ϥ<M.aa.ε):pP M=lW (jV R M.aa.ε) M.Ϥ M.jp:=by
 delta pP lW jV;rw[Kg,ρ hs];show _=qaW _ _ (R.Ϯ R.Ι M.jp);rw[R.Ϛ]
def gR(O:ju X)(eD:X.D=X.h.ε+2)(h0:(([],[]):WW)∈X.cs)(eW:∀t∈X.cs,X.W t=R.lv X.M.jp (Bv X.M t.1 t.2 0 0 X.M.Ϥ)):PT X (pv 0) (bs X 0) (fN X):=by
 have z:∀{p k:θ},R.D p k R.Ι:=R.ag (JF _) (JF _) R.bx;refine⟨by rw[eD];exact DN rfl,Jq _ _,λk _ x hx=>?_,λk hk=>υ hk (Zb _),λk a h=>?_,⟨([],[]),X.h.ε+1,(jE (T:=jC):bj (T:=jC) (λ_=>Qc) ([],[]) (Qa (X.h.ε+1)) ([],[])=_)⟩,λt ht=>?_⟩
 ·have hx:x∈bj (T:=jC) (λ_=>jV R X.M.aa.ε) ([],[]) (pP X.M) k:=hx
  by_cases e:k=([],[])
  ·subst e
   rw[jE (T:=jC)] at hx;rcases Z6 hx with hx|rfl
   ·simp only[Zc hx];exact z
   ·exact R.ag (Jm (Jm (Jq _ _) O.pp) (JC (Xh X.p).Μ)) (J4 (Jm (Jm (Jq _ _) O.kk) (JC (Xh X.k).Μ))) O.G.fst
  ·rw[jF e] at hx
   simp only[Zc hx];exact z
 ·have h:bj (T:=jC) (λ_=>Qc) ([],[]) (Qa (X.h.ε+1)) k=Qa a:=h
  by_cases e:k=([],[])
  ·exact e▸h0
  ·rw[jF e] at h;cases h
 ·rw[oA (Zb _),R.ui]
  show nL (T:=jC) X.cs (pv 0) (Bt X.M t) (bj (T:=jC) (λ_=>jV R X.M.aa.ε) ([],[]) (pP X.M))=_;rw[Eb O.G.st];refine(p5 (T:=jC) (V:=λ_=>jV R X.M.aa.ε) O.nd h0 (Zb _) (by rw[(zlen:(jV R X.M.aa.ε).ε=X.M.aa.ε)];exact O.G.st)).ν ?_;rw[oO (T:=jC) λc _ _=>kH,R.ui,eW t ht];rfl
def fA(R:Rg)(h g:MH)(v:ab)(W:WW->R.α)(cs:ζ WW):Prop:=(∃t,g=h++t)/\∃a ep es,v=.ο a/\g[a]?=Qa (.Χ (Qa ep) es)/\pA jC W cs es
section
variable{R:Rg}{h g:MH}{v:ab}{W:WW->R.α}{cs:List WW}(ψ:fA R h g v W cs)
def fA.Ch:=@ψ.1
def fA.v:=@ψ.2
end
def C9(hd:7<=d)(O:ju X)(V:rj X)(C:X.cs.ε<=60)(eg:g=X.h)(eD:X.D=X.h.ε+2)(h0:(([],[]):WW)∈X.cs)(eW:∀t∈X.cs,X.W t=R.lv X.M.jp (Bv X.M t.1 t.2 0 0 X.M.Ϥ))
  (q:∀g' v,fA R X.h g' v X.W X.cs->Q v g'):bz (ah P0 d) (l0.bn 4) (Qa (.ο X.L.m)::Qa (.φ X.N)::Qa (.ai (112+R.i))::Qa X.ov::nn 14) g (Ρ.Fin Q):=by
 subst eg;refine xEAA (zbt (Jm (by decide) hd) O V C (gR O eD h0 eW)) λs P k e=>?_;refine xEEA (O7 (d:=d) (Jm (by decide) hd) O C P (ZL _ _)) λs2 l I e2=>?_;have f2:lX (X.h++[ae.ξ [R.e R.Ι],.ξ (((jV R X.M.aa.ε).ϩ X.M.Ϥ X.M.jp).ς R.e)]) (.Χ (Qa 1) [(jC.v ([],[]),.ο (X.h.ε+1))])=Qa (.ο X.D,sT jC ([],[]) X.h X.M):=by
  delta lX sT pP;rw[JB,eD,Ju];rfl
 rw[(k:s.k=Qc)] at e;exact jT (.p (fn (P:=P0) (d:=d) (h:=X.h) rfl (Vm (Q:=λv g=>v=_/\g=_) (Jm (by decide) hd) O.I O.G.st ⟨rfl,rfl⟩))<|.p f2<|.s e<|.c<|.s e2<|.z (q _ _ ⟨P.TM.Ch.ι λt h=>⟨t++[.Χ (Qa s2.ep) s2.es,.ξ (l.ς jC.v)],by rw[<-JB,<-h]⟩,⟨s.g.ε,s2.ep,s2.es,rfl,mU (h:=s.g) (j:=0) (t:=[.Χ (Qa s2.ep) s2.es,.ξ (l.ς jC.v)]),I⟩⟩:Q (.ο s.g.ε) (GN s l s2))) (by kernel_rfl)
end
section
variable{T:Mc R.α}
abbrev pX(g:MH)(L:Ly)(T:Mc R.α)(N:θ)(ov:ab)(p k p1 k1 pS kS:θ)(cs:ζ WW)(W:WW->R.α):PX R:=⟨g,L,T,N,g.ε+2,ov,p,k,p1,k1,pS,kS,cs,W⟩
def zbC{L':Ly}{S:ζ (DR R)}{cs:ζ WW}{W:WW->R.α}(H:VL T)(O:lq (sX g aT T p K))(Z:EV (sX g aT T p K) g0 S)(h1:p*T.aa.ε<=pS)(h2:K*T.aa.ε+T.aa.ε+1+T.aa.ε<=kS):
  rj (pX g0 L' T N (.ο g.ε) pW kW p1 k1 pS kS cs W):=by
 refine⟨.u8 ⟨_,rfl⟩,(λe=>nomatch e),λaT' e {d P K' aR g1 row} hd hg hR hl hD hb=>?_⟩;have e:g.ε=aT':=by
  injection (e:ab.ο g.ε=.ο aT')
 refine eqE e ?_;obtain⟨t,rfl⟩:=hg;obtain⟨v,g',e,t2,a,row',rfl,rfl,q⟩:=Ρ.W.xL (l5 (P:=P0) (d:=d) rfl (wK (X:=sX g aT T p K) (T:=S) (P:=P) (K:=K') (Q:=λv g'=>∃t2 a row',v=.ο a/\g'=g0++t++t2/\zf5 (pX g0 L' T N (.ο g.ε) pW kW p1 k1 pS kS cs W) (g0++t) t2 a P K' row row') hd ⟨O,hR,hl,hD,Z.tb.r.cu,Z.am,Z.LT,by
  exact Jm (JH (JD 4 (Jp h1 P)) (Jm (JC (J6 _ _ _)) (Jp h2 K'))) hb⟩ λt2 V a1 a2 a3 a4=>⟨t2,_,V,rfl,rfl,Ze _,a1,a2,λx hx=>R.ag (Jp h1 P) (by
   exact Jm (JC (J6 _ _ _)) (JH (Jv _) h2)) (a3 x hx),λu l i j hi hj=>(a4 _ _ (zax H hi hj)).Μ⟩))
 exact⟨t2,a,row',e,q⟩
theorem zbD{L':Ly}{cs:ζ WW}{W:WW->R.α}(H:VL T)(hE:Hr T):rj (pX g0 L' T N .Δ pW kW p1 k1 pS kS cs W):=
 ⟨.nb rfl,λ_ row _ u l i j hi hj=>rB λs _ _=>by
  rw[NG H hi hj,vX,U7 λa ha=>yI hE ha,R.ui],λaT e=>nomatch e⟩
end
def ej:ζ (ζ θ):=[[],[97],[97,97],[97,98],[98],[98,97],[98,98]]
def lc:ζ WW:=ej.flatMap λu=>ej.ς λl=>(u,l)
def oX:lc.ε=49/\lc.ϥ/\(∀k∈lc,k.1.ε<=2/\k.2.ε<=2)/\(([],[]):WW)∈lc:=by decide+kernel
def zcM:∀k∈lc,∀u∈jm,∀l∈jm,max (k.1.ε+u.ε) (k.2.ε+l.ε)<=2->(k.1++u,k.2++l)∈lc:=by decide+kernel
def i5(us:ζ (ζ θ))(M:Mc R.α)(h t:MH)(L':Ly)(T:Mc R.α):Prop:=ao R (h++t) L' T/\rG us T/\∀u l,kf T u l=kf M u l
section
variable{us:List (List Nat)}{M:Mc R.α}{h t:MH}{L':Ly}{T:Mc R.α}(ψ:i5 us M h t L' T)
def i5.J:=@ψ.1
def i5.Z:=@ψ.2.1
def i5.w:=@ψ.2.2
end
def zdR{T:Mc R.α}(Z:rG us M)(TR:oK M ks T):∀ys∈T.aa,∀a∈ys,a.up∈us/\a.lo∈jm:=by
 intro ys hy a ha;cases TR with
 |si h1 h2 ea he hs hf=>
  rw[ea] at hy;refine xEA (JM.mp hy) λk _ cw=>?_;subst cw;refine xEA (ζ.mem_filterMap.mp ha) λb hb e=>?_;refine xEAA (oE hb) λzs _ hz hb=>?_
  have:=Z.us zs hz b hb
  by_cases q:b.t∈ks
  ·rw[ρ q] at e;refine lN e ?_;exact this
  ·rw[π q] at e;cases e
 |ol h1 ea he hs hf=>
  rw[ea] at hy;rw[JI.mp hy] at ha;exact υ ha JE
theorem zaY(hd:6<=d)(I:ao R h L M)(Z:rG us M):∃t L' T,jJ (ah P0 d) (.ai 133) [.ο L.m] h=Qa (.ο L'.m,h++t)/\i5 us M h t L' T:=
 (B9 hd I Z.g Z.up).ι λt c=>c.ι λL' c=>c.ι λT c=>⟨t,L',T,c.1,c.2.J,⟨c.2.G,c.2.U,Jm c.2.n Z.n,Jm c.2.c Z.c,c.2.tr.ι λ_ q=>zdR Z q⟩,c.2.w⟩
def zi7:∀n,n<5->∀c,c<8->1+c<=8/\1*n<=4/\8*n+n+1+n<=41/\4*(1*n)+(8*n+n+1)<=3800/\1+49*(c+1)<20000/\4*(5*(2*2+2))+(42*(2*2+2)+(1+49*(c+1)+n))<=3800:=by decide+kernel
variable{L':Ly}
def zhi{T:Mc R.α}{ov:ab}{W:WW->R.α}(J:ao R g L' T)(G:kI T p1 k1)(hu:∀ys∈T.aa,∀a∈ys,a.up∈jm/\a.lo∈jm)(pp:p1+pS<=p)(kk:k1+kS<=k)(b:1+49*(T.ax+1)<20000/\4*(p*(2*2+2))+(k*(2*2+2)+(1+49*(T.ax+1)+T.aa.ε))<=3800):ju (pX g L' T 2 ov p k p1 k1 pS kS lc W):=by
 refine⟨J,G,pp,kk,?_,(by decide:2<=200),?_,oX.2.1,oX.2.2.1,λk hk ys hy a ha hb=>?_⟩
 ·show 1+lc.ε*(T.ax+1)<20000
  rw[oX.1];exact b.1
 ·show 4*(p*(2*2+2))+(k*(2*2+2)+(1+lc.ε*(T.ax+1)+T.aa.ε))<=3800
  rw[oX.1];exact b.2
 ·exact zcM k hk _ (hu ys hy a ha).1 _ (hu ys hy a ha).2 (Ο (Jn.mp hb).2)
theorem Mf(Z:rG us M):VL M:=Z.g.dh Z.up
abbrev Wt(M:Mc R.α)(k:WW):R.α:=kf M k.1 k.2
def vZ(M:Mc R.α)(h g:MH)(a:θ):Prop:=(∃t,g=h++t)/\∃ep es,g[a]?=Qa (.Χ (Qa ep) es)/\pA jC (Wt M) lc es
section
variable{M:Mc R.α}{h g:MH}{a:Nat}(ψ:vZ M h g a)
def vZ.Ch:=@ψ.1
def vZ.Hd:=@ψ.2
end
theorem vZ.of{h0:MH}{v:ab}(p:∃t,h=h0++t)(P:fA R h g v (Wt M) lc):∃a,v=.ο a/\vZ M h0 g a:=P.v.ι λa e=>e.ι λep e=>e.ι λes q=>⟨a,q.1,p.ι λt e=>P.Ch.ι λs f=>⟨t++s,by rw[f,e,JB]⟩,ep,es,q.2⟩
def zjM:lc.ε<=60:=by rw[oX.1];decide
def PrS(d:θ)(M:Mc R.α)(L:Ly)(h t:MH)(X:PX R):Prop:=jJ (ah P0 d) (.ai 133) [.ο L.m] h=Qa (.ο X.L.m,h++t)/\jJ (ah P0 d) (.ai 131) [.ο X.L.m] (h++t)=Qa (X.ov,X.h)/\(∃t,X.h=h++t)/\ju X/\rj X/\X.N=2/\X.D=X.h.ε+2/\X.cs=lc/\X.W=Wt M/\∀t∈X.cs,X.W t=R.lv X.M.jp (Bv X.M t.1 t.2 0 0 X.M.Ϥ)
section
variable{d:Nat}{M:Mc R.α}{L:Ly}{h t:MH}{X:PX R}(ψ:PrS d M L h t X)
def PrS.e1:=@ψ.1
def PrS.e2:=@ψ.2.1
def PrS.Ch:=@ψ.2.2.1
def PrS.O:=@ψ.2.2.2.1
def PrS.V:=@ψ.2.2.2.2.1
def PrS.N:=@ψ.2.2.2.2.2.1
def PrS.D:=@ψ.2.2.2.2.2.2.1
def PrS.cs:=@ψ.2.2.2.2.2.2.2.1
def PrS.W:=@ψ.2.2.2.2.2.2.2.2.1
def PrS.eW:=@ψ.2.2.2.2.2.2.2.2.2
end
def Ib(hd:10<=d)(I:ao R h L M)(H:∀d,9<=d->∃t X,PrS d M L h t X):∃a g,jJ (ah P0 d) (.ai 141) [.ο L.m,.φ 2] h=Qa (.ο a,g)/\vZ M h g a:=by
 have w:WF P0 d 141 [.ο L.m,.φ 2] h λv g=>∃a,v=.ο a/\vZ M h g a:=by
  refine j7 (K:=9) hd (Qa (.ο L.m)::Qa (.φ 2)::nn 16) l0 rfl λd' h'=>?_;refine(H d' h').ι λt S=>S.ι λX S=>?_;have tail:bz (ah P0 d') (l0.bn 4) (Qa (.ο X.L.m)::Qa (.φ X.N)::Qa (.ai (112+R.i))::Qa X.ov::nn 14) X.h (Ρ.Fin λv g=>∃a,v=.ο a/\vZ M h g a):=
   C9 (Jm (by decide) h') S.O S.V (by rw[S.cs];exact zjM) rfl S.D (by rw[S.cs];exact oX.2.2.2) S.eW λg' v P=>vZ.of S.Ch (by rw[S.W,S.cs] at P;exact P)
  rw[S.N] at tail;exact mR (a:=l0.ϣ 4) (b:=l0.bn 4) (jT (.p (fn (P:=P0) (d:=d') (h:=h) rfl (GR (a:=2) (b:=0) (c:=200) (x:=.Υ [108,101,110,103,116,104]) (Jm (by decide) h') (by decide) (by decide) (cg _ _)))<|.v (lU I)<|.p S.e1<|.p S.e2<|.z (mY tail)) (by kernel_rfl))
 refine xEEA (W.xL (l5 (P:=P0) rfl w)) λv g e cw=>?_;refine xEA cw λa iq P=>?_;subst iq;exact⟨a,g,e,P⟩
def CY(h':9<=d)(ne:R.da≠R.Ι)(hu:∀u∈us,u∈jm)(I:ao R h L M)(Z:rG us M):∃t X,PrS d M L h t X:=by
 refine(zaY (d:=d) (Jm (by decide) h') I Z).ι λt c=>c.ι λL' c=>c.ι λT c=>?_;have C:=c.2;have B:=zi7 T.aa.ε (JV C.Z.n) T.ax (JV C.Z.c);refine(ML (d:=d) (K:=8) (p:=1) (k:=1) (Jm (by decide) h') C.J C.Z.g C.Z.up ne (Jm C.Z.n (by decide)) B.1 B.2.2.2.1 (by decide)).ι λov e=>e.ι λg e=>?_;have O:∀{g:MH},ao R g L' T->ju (pX g L' T 2 ov 5 42 1 1 4 41 lc (Wt M)):=λJ=>zhi J C.Z.g (λys hy a ha=>⟨hu _ (C.Z.us ys hy a ha).1,(C.Z.us ys hy a ha).2⟩) (by decide) (by decide) B.2.2.2.2;cases e.2 with
 |no hE hv hg=>
  subst hv;subst hg;exact⟨t,_,c.1,e.1,⟨t,rfl⟩,O C.J,zbD (Mf C.Z) hE,rfl,rfl,rfl,rfl,(λk _=>(C.w k.1 k.2).Μ)⟩
 |so t1 t2 S SS hv hg=>
  subst hv;subst hg;exact⟨t,_,c.1,e.1,⟨t++t1++t2,by simp only[JB]⟩,O C.J.cu.cu,zbC (Mf C.Z) (CM C.J C.Z.g C.Z.up (Jm C.Z.n (by decide)) B.1 B.2.2.2.1) SS B.2.1 B.2.2.1,rfl,rfl,rfl,rfl,(λk _=>(C.w k.1 k.2).Μ)⟩
theorem Ic(hd:10<=d)(ne:R.da≠R.Ι)(hu:∀u∈us,u∈jm)(I:ao R h L M)(Z:rG us M):∃a g,jJ (ah P0 d) (.ai 141) [.ο L.m,.φ 2] h=Qa (.ο a,g)/\vZ M h g a:=Ib hd I λd h'=>CY h' ne hu I Z
section
variable{h0:MH}
abbrev Ml:θ:=1668247673
theorem iF(hd:2<=d)(H:Mk R h g m (lC M0 n) X)(hn:n<10000):∃v g',j1 (ah P0 d) (.ο m) pE [] g g=Qa (v,g')/\Mk R h g' m (lC M0 (n+1)) X:=
 W.xL (o:=j1 (ah P0 d) (.ο m) pE [] g g) (Q:=λ_ g'=>Mk R h g' m (lC M0 (n+1)) X) (HD hd H (by rw[UX];show 0+n<_;rw[ZK];exact hn) λg' H'=>H')
abbrev cpF(L:Ly)(h:MH)(a:η ab):Ρ.Θ:=Qa (.ο L.m)::Qa (.ο h.ε)::a::nn 6
theorem zfO(hd:3<=d)(I:ao R h L M)(H:Mk R h g h.ε (M0 (R:=R)) []):∃s:UC R,Mk R h s.g h.ε (lC (M0 (R:=R)) M.aa.ε) []/\exec (ah P0 d) (.fo [2] Qb (.ϧ (.f8 (.ty 491260897125)) [.ϧ (.f8 (.bi 7103854)) [.aq (.Λ 0) jY]]) [.expr (.az (.Λ 1) pE [])]) (cpF L h Qc) g=Qa ((.nx,cpF L h s.a),s.g):=
 lm (c:=ah P0 d) (x:=2) (n:=M.aa.ε) (e:=.ϧ (.f8 (.ty 491260897125)) [.ϧ (.f8 (.bi 7103854)) [.aq (.Λ 0) jY]]) (b:=[.expr (.az (.Λ 1) pE [])]) (λs:UC R=>cpF L h s.a) UC.g (λk s=>Mk R h s.g h.ε (lC (M0 (R:=R)) k) []) ⟨g,M0,Qc,Qc⟩ (Ah I) rfl (by exact j2 (.v (mW (H.im I))<|.p (F0 (H.im I) d)<|.c<|.z (cg (.gb M.aa.ε) g)) (by kernel_rfl)) H λk s R1 _ hk S C=>
  (iF (d:=d) (Jm (by decide) hd) S (Jw hk I.bc)).ι λv a=>a.ι λg' b=>by exact jT (.p (b.1)<|.z (C.nx ⟨g',M0,vN k,Qc⟩ b.2)) (by kernel_rfl)
def P8(H:Mk R h g m M X)(hs:s<M.aa.ε):∃aE g',getAttr P0 g (.ο m) lO=Qa (.ο aE)/\lT g (.ο aE) (.φ s) (R.e w)=Qa g'/\Mk R h g' m {M with aj:=M.aj.ϩ s w} X:=by
 obtain⟨L,rfl,I,ho,hx⟩:=H.x;obtain⟨g',e,I',K⟩:=zZ w I hs;exact⟨L.aE,g',xF I,e,H.to rfl ho hx I' rfl K (λa ha=>ha) λa ha=>.nb ha⟩
theorem Ma.vd{A:θ->ζ (Ar R.α)}{es:ζ R.α}(H:Ma N c A es M):Ma N c A (es.ϩ s w) {M with aj:=M.aj.ϩ s w}:=⟨H.am,H.Hd,H.ct,by show M.aj.ϩ s w=_;rw[H.es],H.st,H.fi⟩
def eD{q0:θ}(G:kI M p q0)(hk:k<M.aj.ε):R.D p q0 (eh M k)/\(M.aj.ς R.e)[k]?=Qa (R.e (eh M k)):=by
 have e:eh M k=M.aj[k]:=by unfold eh;rw[Jo hk];rfl
 rw[e];exact⟨G.ed _ (Zg hk),by rw[JA,Jo hk];rfl⟩
def BD(M:Mc R.α)(n k:θ):ζ R.α:=(Zk n).ς λi=>if i<k then eh M i else R.Ι
def G9:(BD M n k)[i]?=if i<n then Qa (if i<k then eh M i else R.Ι) else none:=by
 delta BD;rw[JA];by_cases h:i<n
 ·rw[ZW h,ρ h];rfl
 ·rw[ZR (by rw[Zm];exact Zr h),π h];rfl
def RH(hk:k<n):(BD M n k).ϩ k (eh M k)=BD M n (k+1):=by
 refine Yo λi=>?_;rw[G9];by_cases e:k=i
 ·subst e
  rw[JX (by unfold BD;rw[Js,Zm];exact hk),ρ hk,ρ (JT _)]
 ·rw[JZ e,G9]
  congr 2
  by_cases h:i<k
  ·rw[ρ h,ρ (Zu h)]
  ·rw[π h,π (Zv (J9 (ZI (Zr h) e)))]
def MK:JU n R.Ι=BD M n 0:=by
 refine Yo λi=>?_;simp only[G9,Kg];rfl
def RI(I:ao R h L M):BD M M.aa.ε M.aa.ε=M.aj:=by
 refine Yo λi=>?_;rw[G9,<-I.du];by_cases h:i<M.aj.ε
 ·rw[ρ h,ρ h];unfold eh;rw[Jo h];rfl
 ·rw[π h,ZR (Zr h)]
theorem zfN{q0:θ}{A:θ->ζ (Ar R.α)}{s:UC R}(hd:3<=d)(I:ao R h L M)(G:kI M p q0)(hn:n=M.aa.ε)(S:UD R h h.ε [] n c A (BD M n 0) s):∃s',UD R h h.ε [] n c A (BD M n n) s'/\exec (ah P0 d) (.fo [2] Qb (.ϧ (.f8 (.ty 491260897125)) [.ϧ (.f8 (.bi 7103854)) [.aq (.Λ 0) lO]]) [.fm (.sb (.aq (.Λ 1) lO) (.Λ 2)) (.wr (.aq (.Λ 0) lO) (.Λ 2))]) (cpF L h s.a) s.g=Qa ((.nx,cpF L h s'.a),s'.g):=
 lm (c:=ah P0 d) (x:=2) (n:=n) (e:=.ϧ (.f8 (.ty 491260897125)) [.ϧ (.f8 (.bi 7103854)) [.aq (.Λ 0) lO]]) (b:=[.fm (.sb (.aq (.Λ 1) lO) (.Λ 2)) (.wr (.aq (.Λ 0) lO) (.Λ 2))]) (λs:UC R=>cpF L h s.a) UC.g (λk s=>UD R h h.ε [] n c A (BD M n k) s) s (hn▸Ah I) rfl (by
  have e:((M.aj.ς R.e).ε:Τ)=n:=by rw[Js,I.du,hn]
  exact j2 (.v (xF (S.H.im I))<|.p (FU (z:=ah P0 d) (S.H.im I).aj)<|.c<|.z ((show ab.gb ((M.aj.ς R.e).ε:Τ)=.gb n/\s.g=s.g from⟨χ ab.gb e,rfl⟩))) (by kernel_rfl)) S λk s R1 _ hk S C=>by
  obtain⟨_,e1⟩:=eD G (k:=k) (I.du▸(hn▸hk:k<M.aa.ε));refine(P8 (s:=k) (w:=eh M k) S.H (by rw[S.P.am];exact hk)).ι λaE a=>a.ι λg' b=>?_;have N:UD R h h.ε [] n c A (BD M n (k+1)) ⟨g',{s.M with aj:=s.M.aj.ϩ k (eh M k)},vN k,Qc⟩:=⟨b.2.2,RH hk▸S.P.vd⟩;exact jT (.v (xF (S.H.im I))<|.v (sl (S.H.im I).aj e1)<|.v (b.1)<|.h (b.2.1)<|.z (C.nx _ N)) (by kernel_rfl)
def Bs(I:ao R h L M)(hs:s<M.aa.ε):oJ (λ_=>[]) M 0 M.aa.ε 0 s=bp M s:=by
 delta oJ vH;rw[ρ (JF _),qbm,ρ hs];exact(ZV λa _=>rfl).ν (ζ.map_id _)
def Nj{A B:ζ (ζ (Ar R.α))}(hl:A.ε=B.ε)(h:∀s,s<A.ε->A[s]?.bm []=B[s]?.bm []):A=B:=by
 refine ζ.ext_getElem hl λi h1 h2=>?_
 have:=h i h1
 rwa [Jo h1,Jo h2] at this
def RR{q0:θ}(hd:8<=d)(I:ao R h L M)(G:kI M p q0):∃g,j1 (ah P0 d) (.ο L.m) Ml [] h h=Qa (.ο h.ε,g)/\Mk R h g h.ε M []:=by
 have w:WF P0 d 176 [.ο L.m] h λv g=>v=.ο h.ε/\Mk R h g h.ε M []:=by
  refine j7 (K:=7) hd (Qa (.ο L.m)::nn 8) rN (by kernel_rfl) λd' h'=>?_;have hn:=Jt (JF _) G.st;have hc:0+M.ax<100000:=by rw[ZK];exact Jt G.c (by decide)
  obtain⟨g0,e0,H0⟩:=IT (d:=d') R h (Jm (by decide) h');refine(zfO (d:=d') (Jm (by decide) h') I H0).ι λs1 a=>?_;refine(Bo (d:=d') (k:=0) (s:=(⟨s1.g,lC M0 M.aa.ε,Qc,Qc⟩:UC R)) (Jm (by decide) h') I G ⟨a.1,IR⟩ (Jv _) hc).ι λs2 b=>?_;have S2:UD R h h.ε [] M.aa.ε (0+M.ax) (oJ (λ_=>[]) M 0 M.aa.ε 0) (BD M M.aa.ε 0) (⟨s2.g,s2.M,s1.a,s2.b⟩:UC R):=by rw[<-MK];exact⟨b.2.H,b.2.P⟩
  refine(zfN (d:=d') (Jm (by decide) h') I G rfl S2).ι λs3 c=>?_;obtain⟨g4,e4,H4⟩:=HF (d:=d') (s:=M.Ϥ) (w:=M.jp) (Jm (by decide) h') c.1.H (by rw[c.1.P.am];exact G.st) G.fst G.bd;have ea:s3.M.aa=M.aa:=Nj c.1.P.am λs hs=>(c.1.P.Hd s (c.1.P.am▸hs)).ν (Bs I (c.1.P.am▸hs));have ec:s3.M.ax=M.ax:=c.1.H.x.ι λL' q=>q.2.1.ct.Μ.ν (ea▸I.ct);have em:({s3.M with start:=M.Ϥ,first:=M.jp}:Mc R.α)=M:=by
   have ee:=c.1.P.es.ν (RI I);cases M;cases s3 with|mk g M3 a b=>cases M3;cases ea;cases ec;cases ee;rfl
  have Jb:ao R s2.g L M:=b.2.H.im I;rw[em] at H4;exact jT (.v (lU I)<|.p (e0)<|.s (a.2)<|.p (b.1)<|.s (c.2)<|.v (mW (c.1.H.im I))<|.p (F0 (c.1.H.im I) d')<|.c<|.t (Ζ (p:=(0:Τ)<M.aa.ε) (ZF.Ϩ hn))<|.v (vK (c.1.H.im I))<|.v (W8 (c.1.H.im I))<|.p (e4)<|.z ((show ab.ο h.ε=.ο h.ε/\Mk R h g4 h.ε M [] from⟨rfl,H4⟩))) (by kernel_rfl)
 obtain⟨v,g,e,rfl,H⟩:=W.xL (jX (P:=P0) (kY (n:=Ml) I.fb rfl rfl) w);exact⟨g,e,H⟩
end
section
variable{h0:MH}
def rI{α:Type}(f:α->α)(k:θ)(l:ζ α):ζ α:=(l.ϣ k).ς f++l.bn k
theorem Ae{f:α->α}{l:ζ α}:rI f 0 l=l:=rfl
def UY{f:α->α}{l:ζ α}:rI f l.ε l=l.ς f:=by
 delta rI;simp only[JW,Z3,Zi]
def zds{f:α->α}{l:ζ α}:(rI f k l).ε=l.ε:=by
 delta rI;rw[Ju,Js,<-Ju,Kc]
def yK{f:α->α}{l:ζ α}{a:α}(h:l[k]?=Qa a):(rI f k l)[k]?=Qa a/\(rI f k l).ϩ k (f a)=rI f (k+1) l:=by
 obtain⟨hk,rfl⟩:=Jx.mp h;have e:((l.ϣ k).ς f).ε=k:=by rw[Js,ZC,ZD (JL hk)]
 delta rI;refine⟨?_,?_⟩
 ·simp only[Z0 (JC e),e,Yy,ζ.getElem?_drop];exact h
 ·simp only[Yn _ _ (JC e),e,Yy,Kq hk,ζ.set_cons_zero,Kz hk,JR,JB];rfl
def ph.at{r:θ}(q:au.ς (λr=>h[r]?)=ads.ς λas=>Qa (.ξ (as.ς .ο)))(hr:au[k]?=Qa r)(ha:h[r]?=Qa (.ξ (as.ς .ο))):ads[k]?=Qa as:=by
 have e:(au.ς λr=>h[r]?)[k]?=ads[k]?.ς λas=>Qa (.ξ (as.ς .ο)):=by rw[q];exact JA ..
 rw[JA,hr,Xm,ha] at e;obtain⟨as',e1,e2⟩:=Za.mp e.Μ;refine e1.ν ?_;exact χ Qa (Pi e2)
def ph.ne{r:θ}(D:ph h au m)(hr:au[k]?=Qa r)(ha:h[r]?=Qa (.ξ (as.ς .ο)))(hj:as[j]?=Qa a)(hr':au[k']?=Qa r')(ha':h[r']?=Qa (.ξ (as'.ς .ο)))(hj':as'[j']?=Qa a):k=k'/\j=j':=by
 obtain⟨ads,n,_,q⟩:=D;have e1:=ph.at q hr ha;have e2:=ph.at q hr' ha';have n:=ζ.pairwise_flatten.mp n;obtain⟨l1,f1⟩:=Jx.mp e1;obtain⟨l2,f2⟩:=Jx.mp e2;have no:∀{i i':θ}(li:i<ads.ε)(li':i'<ads.ε),i<i'->a∈ads[i]->a∈ads[i']->False:=λli li' hlt m1 m2=>ζ.pairwise_iff_getElem.mp n.2 _ _ li li' hlt a m1 a m2 rfl;have m1:=f1▸Jr hj;have m2:=f2▸Jr hj';rcases θ.lt_trichotomy k k' with hk|rfl|hk
 ·exact(no l1 l2 hk m1 m2).ι
 ·rw[e1] at e2
  obtain rfl:=Qa.dL e2;obtain⟨l3,f3⟩:=Jx.mp hj;obtain⟨l4,f4⟩:=Jx.mp hj';exact⟨rfl,(YA (n.1 _ (f1▸Zg l1))).mp (f3.ν f4.Μ)⟩
 ·exact(no l2 l1 hk m2 m1).ι
def ph.nu{r:θ}(D:ph h au m)(hr:au[k]?=Qa r)(ha:h[r]?=Qa (.ξ (as.ς .ο)))(hj:as[j]?=Qa a):m<a:=by
 obtain⟨ads,_,b,q⟩:=D;exact b a (Ya.Ϩ ⟨as,Jr (ph.at q hr ha),Jr hj⟩)
def ao.setArc{r:θ}{a:Ar R.α}(a':Ar R.α)(I:ao R g L M)(W:Dq R g L M i r as xs)(hb:as[j]?=Qa b)(hx:xs[j]?=Qa a):ao R (g.ϩ b (lP R a')) L {M with aa:=M.aa.ϩ i (xs.ϩ j a')}:=by
 have o:=W.o j b a hb hx;have nl:∀{c:θ}{vs:ζ ab},g[c]?=Qa (.ξ vs)->(g.ϩ b (lP R a'))[c]?=Qa (.ξ vs):=λe=>jP (cq o e nofun) e;refine⟨jP (cq o I.fb ET) I.fb,nl I.aa,nl I.aj,I.am.ν (J0 ..).Μ,I.du.ν (J0 ..).Μ,λk r' ys hr hy=>?_,I.nd,Jm (JC (J0 ..)) I.bc,?_,I.cl,I.ds.to λ_ _ _ e=>nl e⟩
 ·by_cases hk:i=k
  ·subst hk
   rw[JX (jI W.x)] at hy;refine lN hy ?_;cases W.i.Μ.ν hr;refine⟨as,nl W.a,W.l.ν (J0 ..).Μ,λj' b' x h1 h2=>?_⟩;by_cases hj:j=j'
   ·subst hj
    rw[JX (jI hx)] at h2;refine lN h2 ?_;cases hb.Μ.ν h1;exact j8 o
   ·rw[JZ hj] at h2
    exact jP (λq=>by subst q;exact hj (I.ds.ne W.i W.a hb W.i W.a h1).2) (W.o j' b' x h1 h2)
  ·rw[JZ hk] at hy
   obtain⟨as',h1,h2,h3⟩:=I.au k r' ys hr hy;exact⟨as',nl h1,h2,λj' b' x e1 e2=>jP (λq=>by subst q;exact hk (I.ds.ne W.i W.a hb hr h1 e1).1) (h3 j' b' x e1 e2)⟩
 ·simp only[ζ.map_set,J0,<-I.ct]
  refine(Jx.mp W.x).ι λl e=>?_;rw[<-e,<-ζ.getElem_map ZP (l:=M.aa) (i:=i) (h:=by rw[Js];exact l),K4]
abbrev NJ:=MH×η ab×η ab
section
variable(ψ:NJ)
abbrev NJ.g:=ψ.1
abbrev NJ.a:=ψ.2.1
abbrev NJ.b:=ψ.2.2
end
abbrev MuX(R:Rg):=MH×Ly×Mc R.α×(Ar R.α->Ar R.α)×(η ab->η ab->Ρ.Θ)×θ×θ×Ex×ζ Sm×θ
section
variable{R:Rg}(ψ:MuX R)
abbrev MuX.h:=ψ.1
abbrev MuX.L:=ψ.2.1
abbrev MuX.M:=ψ.2.2.1
abbrev MuX.f:=ψ.2.2.2.1
abbrev MuX.F:=ψ.2.2.2.2.1
abbrev MuX.x:=ψ.2.2.2.2.2.1
abbrev MuX.y:=ψ.2.2.2.2.2.2.1
abbrev MuX.e:=ψ.2.2.2.2.2.2.2.1
abbrev MuX.b:=ψ.2.2.2.2.2.2.2.2.1
abbrev MuX.d:=ψ.2.2.2.2.2.2.2.2.2
end
def NA(X:MuX R):Prop:=(∀a b v,mQ (X.F a b) [X.x] Qb v=Qa (X.F (Qa v) b))/\(∀a b v,mQ (X.F a b) [X.y] Qb v=Qa (X.F a (Qa v)))/\(∀a b g,getAttr P0 g (.ο X.L.m) jY=Qa (.ο X.L.aA)->WE (ah P0 X.d) (X.F a b) X.e g λv g'=>v=.ο X.L.aA/\g'=g)/\(∀r b g,WE (ah P0 X.d) (X.F (Qa (.ο r)) b) (.Λ X.x) g λv g'=>v=.ο r/\g'=g)/\(∀r p (a:Ar R.α) g R',g[p]?=Qa (lP R a)->R' .nx (X.F (Qa (.ο r)) (Qa (.ο p))) (g.ϩ p (lP R (X.f a)))->bz (ah P0 X.d) X.b (X.F (Qa (.ο r)) (Qa (.ο p))) g R')/\X.h.ε<=X.L.m
section
variable{X:MuX R}(ψ:NA X)
def NA.s1:=@ψ.1
def NA.s2:=@ψ.2.1
def NA.e:=@ψ.2.2.1
def NA.v:=@ψ.2.2.2.1
def NA.st:=@ψ.2.2.2.2.1
def NA.lo:=@ψ.2.2.2.2.2
end
def MuP(X:MuX R)(A:ζ (ζ (Ar R.α)))(s:NJ):Prop:=ao R s.g X.L {X.M with aa:=A}/\∃t,s.g=X.h++t
section
variable{X:MuX R}{A:List (List (Ar R.α))}{s:NJ}(ψ:MuP X A s)
def MuP.I:=@ψ.1
def MuP.Ch:=@ψ.2
end
def MuR(X:MuX R)(A:ζ (ζ (Ar R.α)))(r:θ)(as:ζ θ)(s:NJ):Prop:=MuP X A s/\s.g[r]?=Qa (.ξ (as.ς .ο))
section
variable{X:MuX R}{A:List (List (Ar R.α))}{r:Nat}{as:List Nat}{s:NJ}(ψ:MuR X A r as s)
def MuR.P:=@ψ.1
def MuR.l:=@ψ.2
end
variable{X:MuX R}
def PY{A:ζ (ζ (Ar R.α))}{r:θ}{a:Ar R.α}{s:NJ}(O:NA X)(P:MuR X A r as s)(hi:A[i]?=Qa xs)(hr:X.L.au[i]?=Qa r)(hb:as[j]?=Qa b)(hx:xs[j]?=Qa a)(z y:η ab):s.g[b]?=Qa (lP R a)/\MuR X (A.ϩ i (xs.ϩ j (X.f a))) r as ⟨s.g.ϩ b (lP R (X.f a)),z,y⟩:=by
 obtain⟨as',h1,h2,h3⟩:=P.P.I.au i r xs hr hi;rw[P.l] at h1;cases Pi h1;have W:Dq R s.g X.L {X.M with aa:=A} i r as xs:=⟨hr,hi,P.l,h2,h3⟩;refine⟨(W.o j b a hb hx),⟨P.P.I.setArc (X.f a) W hb hx,?_⟩,jP (cq (W.o j b a hb hx) P.l nofun) P.l⟩;obtain⟨t,e⟩:=P.P.Ch;exact⟨_,by show s.g.ϩ b _=_;rw[e];exact sG (Jm O.lo (JL (P.P.I.ds.nu hr P.l hb)))⟩
def zcc{r:θ}{A:ζ (ζ (Ar R.α))}{s:NJ}(O:NA X)(hi:A[i]?=Qa xs)(hr:X.L.au[i]?=Qa r)(hl:xs.ε<=100000)(P:MuR X A r as s):∃s',MuR X (A.ϩ i (xs.ς X.f)) r as s'/\exec (ah P0 X.d) (.fo [X.y] Qb (.Λ X.x) X.b) (X.F (Qa (.ο r)) s.b) s.g=Qa ((.nx,X.F (Qa (.ο r)) s'.b),s'.g):=by
 obtain⟨as',h1,h2,_⟩:=P.P.I.au i r xs hr hi;rw[P.l] at h1;cases Pi h1;have e0:A.ϩ i (rI X.f 0 xs)=A:=by rw[Ae,<-(Jx.mp hi).2,K4]
 have q:=pb (c:=ah P0 X.d) (tg:=[X.y]) (many:=Qb) (a:=r) (e:=.Λ X.x) (b:=X.b) (vs:=as.ς .ο) (λs:NJ=>X.F (Qa (.ο r)) s.b) NJ.g (λj s=>MuR X (A.ϩ i (rI X.f j xs)) r as s) s (by rw[Js,h2];exact hl) rfl (λj s P=>P.l) (O.v r s.b s.g) (by rw[e0];exact P) λj v s R1 _ hv P1 C=>by
  obtain⟨b,hb,rfl⟩:=pD hv;obtain⟨a,ha⟩:∃a,xs[j]?=Qa a:=⟨_,Jo (by rw[<-h2];exact jI hb)⟩;have S:=PY (i:=i) O P1 (JX (jI hi)) hr hb (yK (f:=X.f) ha).1 Qc (Qa (.ο b));rw[(yK (f:=X.f) ha).2,qaV] at S;exact Wo.of (O.s2 _ _ _) (O.st r b a s.g _ S.1 (C.nx _ S.2))
 rw[Js,h2,UY] at q;exact q
def ze0{s:NJ}(O:NA X)(P:MuP X X.M.aa s):∃s',MuP X (X.M.aa.ς λxs=>xs.ς X.f) s'/\exec (ah P0 X.d) (.fo [X.x] Qb X.e [.fo [X.y] Qb (.Λ X.x) X.b]) (X.F s.a s.b) s.g=Qa ((.nx,X.F s'.a s'.b),s'.g):=by
 have hl:X.L.au.ε=X.M.aa.ε:=P.I.am;have q:=pb (c:=ah P0 X.d) (tg:=[X.x]) (many:=Qb) (a:=X.L.aA) (e:=X.e) (b:=[.fo [X.y] Qb (.Λ X.x) X.b]) (vs:=X.L.au.ς .ο) (λs:NJ=>X.F s.a s.b) NJ.g (λi s=>MuP X (rI (λxs=>xs.ς X.f) i X.M.aa) s) s (by rw[Js,hl];exact Jm P.I.bc (by decide)) rfl (λj s P=>P.I.aa) (O.e _ _ _ (mW P.I)) P λi v s R1 _ hv P1 C=>by
  obtain⟨r,hr,rfl⟩:=pD hv;have hi:i<X.M.aa.ε:=by rw[<-hl];exact jI hr
  have T:=yK (f:=λxs:ζ (Ar R.α)=>xs.ς X.f) (Jo hi);obtain⟨as,h1,h2,_⟩:=P1.I.au i r _ hr T.1;refine Wo.of (O.s1 _ _ _) ?_;refine(zcc (s:=⟨s.1,Qa (.ο r),s.2.2⟩) O T.1 hr (Jm (P1.I.cr _ (Jr T.1)) P1.I.cl) ⟨⟨P1.I,P1.Ch⟩,h1⟩).ι λs' e=>?_;rw[T.2] at e;exact jT (.s (e.2)<|.z (C.nx ⟨s'.1,Qa (.ο r),s'.2.2⟩ ⟨e.1.P.I,e.1.P.Ch⟩)) (by kernel_rfl)
 rw[Js,hl,UY] at q;exact q
end
section
variable{h0:MH}
def Mc.mapA(f:Ar R.α->Ar R.α)(M:Mc R.α):Mc R.α:= {M with aa:=M.aa.ς λxs=>xs.ς f}
def swA(a:Ar R.α):Ar R.α:= ⟨a.lo,a.up,a.2.2⟩
theorem ze1{X:MuX R}(O:NA X)(H:Mk R X.h g X.h.ε X.M [])(e:X.L.m=X.h.ε)(I:ao R g X.L X.M)(ho:∀a∈ff X.L,X.h.ε<=a):∃s':NJ,Mk R X.h s'.g X.h.ε (X.M.mapA X.f) []/\exec (ah P0 X.d) (.fo [X.x] Qb X.e [.fo [X.y] Qb (.Λ X.x) X.b]) (X.F Qc Qc) g=Qa ((.nx,X.F s'.a s'.b),s'.g):=
 (ze0 O (s:=⟨g,Qc,Qc⟩) ⟨I,H.Ch⟩).ι λs' q=>⟨s',⟨⟨X.L,e,q.1.I,ho,λp hp=>υ hp JE⟩,q.1.Ch⟩,q.2⟩
abbrev ipB:ζ Sm:=[.jo [.at (.Λ 5) mS,.at (.Λ 5) oG] (.ay [.aq (.Λ 5) oG,.aq (.Λ 5) mS])]
abbrev ipX(h:MH)(L L':Ly)(M:Mc R.α)(w:ζ θ)(d:θ):MuX R:=⟨h,L',M,swA,λa b=>Qa (.ο L.m)::Qa (.Υ w)::Qa (.φ 2)::Qa (.ο h.ε)::a::b::nn 6,4,5,.aq (.Λ 3) jY,ipB,d⟩
theorem zfp{w:ζ θ}(e:L'.m=h.ε):NA (ipX h L L' M w d):=⟨λ_ _ _=>rfl,λ_ _ _=>rfl,λa b g e1=>by
  rw[e] at e1;exact j2 (.v (e1)<|.z (cg (.ο L'.aA) g)) (by kernel_rfl),λr b g=>by
  exact j2 (.z (cg (.ο r) g)) (by kernel_rfl),λr p a g R' hb q=>by
  have e1:setAttr P0 g (.ο p) mS (.Υ a.lo)=Qa (g.ϩ p (lP R ⟨a.lo,a.2⟩)):=DO hb rfl (by decide:4<400);have e2:setAttr P0 (g.ϩ p (lP R ⟨a.lo,a.2⟩)) (.ο p) oG (.Υ a.up)=Qa (g.ϩ p (lP R (swA a))):=zX hb rfl (by decide:4<400) rfl;exact jT (.v (oi hb)<|.v (oh hb)<|.c<|.h (e1)<|.h (e2)<|.z (q)) (by kernel_rfl),JC e.Μ⟩
end
section
variable{l:List Nat}
def zdZ:bp (M.mapA swA) s=(bp M s).ς swA:=by
 show (M.aa.ς _)[s]?.bm []=_;delta bp;rw[JA];cases M.aa[s]?<;>rfl
def zdY:∀{f i j s:θ},BH (M.mapA swA) l u f j i s=BH M u l f i j s:=by
 intro f
 induction f with
 |zero=>exact rfl
 |succ f ih=>
  intro i j s;show R.Ϯ (if j=l.ε/\i=u.ε then eh M s else R.Ι) (mH (BH (M.mapA swA) l u f) l u j i (bp (M.mapA swA) s))=R.Ϯ (if i=u.ε/\j=l.ε then eh M s else R.Ι) (mH (BH M u l f) u l i j (bp M s));rw[zdZ,ite_congr (propext and_comm:(j=l.ε/\i=u.ε)=(i=u.ε/\j=l.ε)) (λ_=>rfl) λ_=>rfl]
  congr 1
  delta mH;simp only[KU];refine lS λa _=>?_;show (bif kc l j a.lo && kc u i a.up then R.lv a.w (BH (M.mapA swA) l u f (j+a.lo.ε) (i+a.up.ε) a.t) else R.Ι)=(bif kc u i a.up && kc l j a.lo then R.lv a.w (BH M u l f (i+a.up.ε) (j+a.lo.ε) a.t) else R.Ι);rw[Ε.and_comm,ih]
def za9(u l:ζ θ):kf (M.mapA swA) l u=kf M u l:=by
 delta kf Bv;rw[zdY];delta zH;rw[Kf (l.ε-0)];show R.lv M.jp (BH M u l (((u.ε-0)+(l.ε-0))*((M.aa.ς _).ε+1)+((M.aa.ς _).ε-M.Ϥ)+1) 0 0 M.Ϥ)=_;rw[Js]
theorem HG{f:Ar R.α->Ar R.α}{P:Ar R.α->Prop}(h:∀ys∈M.aa,∀a∈ys,P (f a)):∀ys∈(M.mapA f).aa,∀a∈ys,P a:=λys hy a ha=>by
 refine(JM.mp hy).ι λxs q=>?_;refine(JM.mp (q.2.Μ▸ha:a∈YR _ xs)).ι λb p=>?_;exact p.2▸h xs q.1 b p.1
theorem wW{f:Ar R.α->Ar R.α}:(M.mapA f).aa.ε=M.aa.ε:=Js ..
theorem zba(a:Ar R.α):(swA a).fq=a.fq:=Ε.and_comm _ _
theorem rG.sw(hu:∀u∈us,u∈jm)(Z:rG us M):rG jm (M.mapA swA):=
 ⟨⟨by rw[wW];exact Z.g.st,by
  rw[wW];exact HG (P:=λa=>a.t<M.aa.ε/\dh a.up/\dh a.lo/\R.D 1 1 a.w/\a.w≠R.Ι) λys hy a ha=>(Z.g.fy ys hy a ha).imp id λq=>⟨q.2.1,q.1,q.2.2⟩,Z.g.fst,Z.g.ed,Z.g.bd,by rw[wW];exact Z.g.n,Z.g.c⟩,
 λs ys hy a ha he=>by
  have hy:(M.aa.ς _)[s]?=Qa ys:=hy;rw[JA] at hy;refine(Za.mp hy).ι λxs q=>?_;refine(JM.mp (q.2.Μ▸ha:a∈YR _ xs)).ι λb p=>?_;rw[<-p.2] at he ⊢;exact Z.up s xs q.1 b p.1 ((zba b).Μ.ν he),by rw[wW];exact Z.n,Z.c,HG (P:=λa=>a.up∈jm/\a.lo∈jm) λys hy a ha=>⟨(Z.us ys hy a ha).2,hu _ (Z.us ys hy a ha).1⟩⟩
end
section
def zfm{a b:ζ θ}:gc (.Υ a) (.Υ b)=decide (a=b):=by
 show ((⟨a.τ⟩:Ξ.be)==⟨b.τ⟩)=_;exact wI
abbrev jU:ji:=⟨ζ θ,ch,λw=>.Υ w,λ_ _=>zfm,1,rfl,λ_=>rfl⟩
variable{R:Rg}{h g g':MH}{N D E c:Nat}{A1 A2 A':List Nat->Option Nat}{V1 V2 V':List Nat->List R.α}
def zS(D:θ)(A:ζ θ->η θ)(x:θ):Prop:=x=D\/∃k,A k=Qa x
theorem tx.ff(H:tx (T:=jU) D g g' A1 A')(n:¬zS D A1 x)(e:g[x]?=Qa o):g'[x]?=Qa o/\¬zS D A' x:=
 let q:=H x o (λe=>n (.nb e)) (λk e=>n (.u8 ⟨k,e⟩)) e
 ⟨q.1,λw=>w.ι (λe=>n (.nb e)) λw=>w.ι λk e=>q.2 k e⟩
theorem RW.fb(S:RW jU R h g D N c A1 V1)(w:zS D A1 x):∃o,g[x]?=Qa o:=w.ι (λe=>by subst e;exact S.dd.ι λep q=>q.ι λes q=>⟨_,q.1⟩) λw=>w.ι λk e=>⟨_,S.LT k x e⟩
theorem RW.keep(S:RW jU R h g D N c A1 V1)(pre:∃t,g'=h++t)(H:∀x o,zS D A1 x->g[x]?=Qa o->g'[x]?=Qa o):RW jU R h g' D N c A1 V1:=
 ⟨pre,S.nt,S.dd.ι λep q=>q.ι λes q=>⟨ep,es,H D _ (.nb rfl) q.1,q.2⟩,S.dL,S.nu,λk a e=>H a _ (.u8 ⟨k,e⟩) (S.LT k a e),S.nj,S.am,S.sm.ι λep q=>q.ι λes q=>⟨ep,es,H D _ (.nb rfl) q.1,q.2⟩⟩
theorem RW.ve(S:RW jU R h g D N c A1 V1):RW jU R h g D N (c+1) A1 V1:=S.dd.ι λep q=>q.ι λes q=>⟨S.Ch,S.nt,⟨ep,es,q.1,q.2.1,J4 q.2.2.1,q.2.2.2⟩,S.dL,S.nu,S.LT,S.nj,S.am,S.sm⟩
def R2(R:Rg)(h g:MH)(D E N c:θ)(A1:ζ θ->η θ)(V1:ζ θ->ζ R.α)(A2:ζ θ->η θ)(V2:ζ θ->ζ R.α):Prop:=RW jU R h g D N c A1 V1/\RW jU R h g E N c A2 V2/\∀x,zS D A1 x->¬zS E A2 x
section
variable{R:Rg}{h g:MH}{D E N c:Nat}{A1:List Nat->Option Nat}{V1:List Nat->List R.α}{A2:List Nat->Option Nat}{V2:List Nat->List R.α}(ψ:R2 R h g D E N c A1 V1 A2 V2)
def R2.a:=@ψ.1
def R2.b:=@ψ.2.1
def R2.dj:=@ψ.2.2
end
theorem R2.swap(S:R2 R h g D E N c A1 V1 A2 V2):R2 R h g E D N c A2 V2 A1 V1:=⟨S.b,S.a,λx w q=>S.dj x q w⟩
theorem R2.cu{t:MH}(S:R2 R h g D E N c A1 V1 A2 V2):R2 R h (g++t) D E N c A1 V1 A2 V2:=⟨S.a.cu,S.b.cu,S.dj⟩
theorem R2.put(S:R2 R h g D E N c A1 V1 A2 V2)(S':RW jU R h g' D N (c+1) A' V')(H:∀x o,¬zS D A1 x->g[x]?=Qa o->g'[x]?=Qa o/\¬zS D A' x):R2 R h g' D E N (c+1) A' V' A2 V2:=
 ⟨S',(S.b.keep S'.Ch λx o w e=>(H x o (λq=>S.dj x q w) e).1).ve,λx w q=>(S.b.fb q).ι λo e=>(H x o (λw=>S.dj x w q) e).2 w⟩
end
section
abbrev OX(R:Rg):=PX R×ζ θ×θ×θ×θ
section
variable{R:Rg}(ψ:OX R)
abbrev OX.X:=ψ.1
abbrev OX.u:=ψ.2.1
abbrev OX.i:=ψ.2.2.1
abbrev OX.D:=ψ.2.2.2.1
abbrev OX.E:=ψ.2.2.2.2
end
abbrev OX.v(Y:OX R):ζ θ:=Y.u.ϣ Y.i
def OX.lt(Y:OX R):ζ θ:=km Y.u (min Y.i Y.u.ε) (min (Y.i+1) Y.u.ε)
def OX.z(Y:OX R):ζ θ:=Y.v++bif Y.lt== [] then[0] else Y.lt
def Gf(Y:OX R):Prop:=ju Y.X/\rj Y.X/\Y.i<=Y.u.ε/\Y.u.ε<=Y.X.N/\(∀w∈ej,∀j,(Y.u.ϣ j,w)∈Y.X.cs)/\(∀k∈Y.X.cs,k.2∈ej)/\2*Y.X.cl<=20000/\Y.X.N=2/\36<=Y.X.cs.ε
section
variable{Y:OX R}(ψ:Gf Y)
def Gf.O:=@ψ.1
def Gf.V:=@ψ.2.1
def Gf.hi:=@ψ.2.2.1
def Gf.hu:=@ψ.2.2.2.1
def Gf.sw:=@ψ.2.2.2.2.1
def Gf.ws:=@ψ.2.2.2.2.2.1
def Gf.cl2:=@ψ.2.2.2.2.2.2.1
def Gf.n2:=@ψ.2.2.2.2.2.2.2.1
def Gf.c36:=@ψ.2.2.2.2.2.2.2.2
end
theorem OX.vz(Y:OX R):Y.v≠Y.z:=λe=>by
 have e:Y.v.ε=(Y.v++bif Y.lt== [] then[0] else Y.lt).ε:=χ ZP e;rw[Ju] at e;have h:(bif Y.lt== [] then[0] else Y.lt).ε=0:=Xn (e.Μ.ν (θ.ui _).Μ);have h:=ζ.Tr h;refine rY (Y.lt== []) (λq=>?_) λq=>?_
 ·rw[q] at h;cases h
 ·rw[q] at h
  have h:Y.lt=[]:=h;rw[h] at q;cases q
def zE(v:ζ θ)(A':ζ θ->η θ)(Ad:WW->η θ):WW->η θ:=λk=>if k.1=v then A' k.2 else Ad k
section
variable{v v' z:List Nat}{A':List Nat->Option Nat}{Ad:WW->Option Nat}{V:WW->List R.α}{x:List R.α}
theorem zW:(λw=>zE v A' Ad (v,w))=A':=funext λw=>ρ rfl
theorem zV(h:v'≠v):(λw=>zE v A' Ad (v',w))=λw=>Ad (v',w):=funext λw=>π h
theorem Gw{V:WW->β}{x:β}:(λw=>bj (T:=jC) V (v,z) x (v,w))=bj (T:=jU) (λw=>V (v,w)) z x:=funext λw=>by
 by_cases q:w=z
 ·rw[q];exact(jE (T:=jC)).ν (jE (T:=jU)).Μ
 ·exact(jF (T:=jC) λe=>q (Xr.dL e).2).ν (jF (T:=jU) (f:=λw=>V (v,w)) q).Μ
theorem Oa(h:v'≠v):(λw=>bj (T:=jC) V (v,z) x (v',w))=λw=>V (v',w):=funext λw=>jF (T:=jC) λe=>h (Xr.dL e).1
def D1{E:θ}(n:v'≠v)(S:R2 R h g D E N c (λw=>Ad (v,w)) (λw=>V (v,w)) (λw=>Ad (v',w)) λw=>V (v',w))(S':RW jU R h g' D N (c+1) A' (bj (T:=jU) (λw=>V (v,w)) z x))(H:∀x o,¬zS D (λw=>Ad (v,w)) x->g[x]?=Qa o->g'[x]?=Qa o/\¬zS D A' x):R2 R h g' D E N (c+1) (λw=>zE v A' Ad (v,w)) (λw=>bj (T:=jC) V (v,z) x (v,w)) (λw=>zE v A' Ad (v',w)) λw=>bj (T:=jC) V (v,z) x (v',w):=by
 rw[zW,Gw,zV n,Oa n];exact S.put S' H
end
abbrev St(Y:OX R)(s:QS R):Prop:=R2 R Y.X.h s.g Y.D Y.E Y.X.M.aa.ε s.c (λw=>s.Ad (Y.v,w)) (λw=>s.V (Y.v,w)) (λw=>s.Ad (Y.z,w)) λw=>s.V (Y.z,w)
def KO(Y:OX R)(m:θ)(s' s:QS R):Prop:=(∀w,(∃a,s.Ad (Y.v,w)=Qa a)->∃a,s'.Ad (Y.v,w)=Qa a)/\(∀x o,¬zS Y.D (λw=>s.Ad (Y.v,w)) x->¬zS Y.E (λw=>s.Ad (Y.z,w)) x->s.g[x]?=Qa o->s'.g[x]?=Qa o/\¬zS Y.D (λw=>s'.Ad (Y.v,w)) x/\¬zS Y.E (λw=>s'.Ad (Y.z,w)) x)/\∀w,w.ε<=m->(∃a,s'.Ad (Y.v,w)=Qa a)->∃a,s.Ad (Y.v,w)=Qa a
section
variable{Y:OX R}{m:Nat}{s' s:QS R}(ψ:KO Y m s' s)
def KO.al:=@ψ.1
def KO.kp:=@ψ.2.1
def KO.nw:=@ψ.2.2
end
theorem KO.rfl'{Y:OX R}{s:QS R}:KO Y m s s:=⟨λ_ h=>h,λ_ _ h1 h2 h3=>⟨h3,h1,h2⟩,λ_ _ h=>h⟩
theorem KO.ν{Y:OX R}{s s' s'':QS R}(h:KO Y m s' s)(h':KO Y m s'' s'):KO Y m s'' s:=⟨λk q=>h'.al k (h.al k q),λx o h1 h2 h3=>let q:=h.kp x o h1 h2 h3;h'.kp x o q.2.1 q.2.2 q.1,λk hk q=>h.nw k hk (h'.nw k hk q)⟩
def xZ(Y:OX R)(K:ζ θ)(aR c0:θ)(row:ζ R.α)(dn:WW->Prop):Prop:=Gf Y/\(Y.v,K)∈Y.X.cs/\c0+Y.X.M.ax<=Y.X.cl/\row.ε=Y.X.M.aa.ε/\(∀x∈row,R.D (Y.X.p*(sz (Y.v,K)+1)+Y.X.pS) (Y.X.k*(sz (Y.v,K)+1)+Y.X.kS+c0) x)/\(∀w,dn (Y.v,w)->w.ε<=K.ε)/\∀w,¬dn (Y.z,w)
section
variable{Y:OX R}{K:List Nat}{aR c0:Nat}{row:List R.α}{dn:WW->Prop}(ψ:xZ Y K aR c0 row dn)
def xZ.O:=@ψ.1
def xZ.hK:=@ψ.2.1
def xZ.cc:=@ψ.2.2.1
def xZ.am:=@ψ.2.2.2.1
def xZ.dg:=@ψ.2.2.2.2.1
def xZ.l1:=@ψ.2.2.2.2.2.1
def xZ.l2:=@ψ.2.2.2.2.2.2
end
def OQ(Y:OX R)(K:ζ θ)(aR c0:θ)(row:ζ R.α)(dn:WW->Prop)(V0:QS R)(n:θ)(e:ζ θ->R.α)(s:QS R):Prop:=St Y s/\c0<=s.c/\s.c<=c0+n/\(∀k,¬dn k->∀x∈s.V k,R.D (Y.X.p*(sz k+1)) (Y.X.k*(sz k+1)+s.c) x)/\s.V (Y.v,K)=row/\s.Ad (Y.v,K)=Qa aR/\(∀k a,s.Ad k=Qa a->k.2∈ej)/\(∀t∈ej,R.Ϯ (nL (T:=jC) Y.X.cs dn (Bt Y.X.M (Y.u,t)) s.V) (e t)=Y.X.W (Y.u,t))/\(∀k,dn k->s.V k=V0.V k)/\KO Y K.ε s V0/\∀k:WW,k.1≠Y.v->k.1≠Y.z->s.V k=jV R Y.X.M.aa.ε
section
variable{Y:OX R}{K:List Nat}{aR c0:Nat}{row:List R.α}{dn:WW->Prop}{V0:QS R}{n:Nat}{e:List Nat->R.α}{s:QS R}(ψ:OQ Y K aR c0 row dn V0 n e s)
def OQ.r:=@ψ.1
def OQ.lo:=@ψ.2.1
def OQ.hi:=@ψ.2.2.1
def OQ.dg:=@ψ.2.2.2.1
def OQ.vr:=@ψ.2.2.2.2.1
def OQ.ad:=@ψ.2.2.2.2.2.1
def OQ.ky:=@ψ.2.2.2.2.2.2.1
def OQ.w:=@ψ.2.2.2.2.2.2.2.1
def OQ.fx:=@ψ.2.2.2.2.2.2.2.2.1
def OQ.al:=@ψ.2.2.2.2.2.2.2.2.2.1
def OQ.ot:=@ψ.2.2.2.2.2.2.2.2.2.2
end
variable{Y:OX R}{K:List Nat}{aR c0:Nat}{row:List R.α}{dn:WW->Prop}{V0:QS R}{R':Fl->Internal.Frame->MH->Prop}
def OQ.put{e e':ζ θ->R.α}{x:R.α}{s:QS R}{v z:ζ θ}{t:θ}(C:xZ Y K aR c0 row dn)(P:OQ Y K aR c0 row dn V0 n e s)(hz:(v,z)∈Y.X.cs)(ht:t<Y.X.M.aa.ε)(hnd:¬dn (v,z))(hv:(v=Y.v/\K.ε<z.ε)\/v=Y.z)(hD:R.D (Y.X.p*(sz (v,z)+1)) (Y.X.k*(sz (v,z)+1)+s.c) x)
  (q:η ab×η ab×η ab×η ab×η ab×η ab) (S':St Y ⟨g',zE v A' s.Ad,bj (T:=jC) s.V (v,z) (lW (s.V (v,z)) t x),s.c+1,q.1,q.2.1,q.2.2.1,q.2.2.2.1,q.2.2.2.2.1,q.2.2.2.2.2⟩) (hk:∀w a,s.Ad (v,w)=Qa a->A' w=Qa a) (hk2:∀w a,A' w=Qa a->w=z\/s.Ad (v,w)=Qa a)
  (hl:(s.V (v,z)).ε=Y.X.M.aa.ε)
  (kp:∀x o,¬zS Y.D (λw=>s.Ad (Y.v,w)) x->¬zS Y.E (λw=>s.Ad (Y.z,w)) x->s.g[x]?=Qa o->g'[x]?=Qa o/\¬zS Y.D (λw=>zE v A' s.Ad (Y.v,w)) x/\¬zS Y.E (λw=>zE v A' s.Ad (Y.z,w)) x)
  (he:∀u∈ej,e u=R.Ϯ (R.lv x (Bt Y.X.M (Y.u,u) (v,z) t)) (e' u)):
  OQ Y K aR c0 row dn V0 (n+1) e' ⟨g',zE v A' s.Ad,bj (T:=jC) s.V (v,z) (lW (s.V (v,z)) t x),s.c+1,q.1,q.2.1,q.2.2.1,q.2.2.2.1,q.2.2.2.2.1,q.2.2.2.2.2⟩:=by
 have hl:t<(s.V (v,z)).ε:=hl.Μ▸ht;have hne:¬(Y.v,K)=(v,z):=λe=>hv.ι (λq=>J3 _ ((Xr.dL e).2▸q.2)) λq=>Y.vz ((Xr.dL e).1.ν q);refine⟨S',J4 P.lo,Zf P.hi,λk hk y hy=>?_,(jF (T:=jC) hne).ν P.vr,?_,λk a h=>?_,λu hu=>?_,λk hk=>?_,P.al.ν ⟨λw h=>?_,kp,λw hm h=>?_⟩,λk h1 h2=>?_⟩
 ·have hy:y∈bj (T:=jC) s.V (v,z) (lW (s.V (v,z)) t x) k:=hy
  show R.D (Y.X.p*(sz k+1)) (Y.X.k*(sz k+1)+(s.c+1)) y;by_cases q:k=(v,z)
  ·cases q
   rw[jE (T:=jC)] at hy;rcases W2 hy with hy|rfl
   ·exact R.ag (Jv _) (Ze _) (P.dg _ hk y hy)
   ·rw[Jo hl]
    exact R.fz (P.dg _ hk _ (Zg hl)) hD
  ·rw[jF (T:=jC) q] at hy
   exact R.ag (Jv _) (Ze _) (P.dg k hk y hy)
 ·show (if Y.v=v then A' K else s.Ad (Y.v,K))=Qa aR
  by_cases q:Y.v=v
  ·rw[ρ q];exact hk _ _ (q▸P.ad)
  ·rw[π q];exact P.ad
 ·have h:(if k.1=v then A' k.2 else s.Ad k)=Qa a:=h
  by_cases q:k.1=v
  ·rw[ρ q] at h
   exact(hk2 _ _ h).ι (λe=>by rw[e];exact C.O.ws _ hz) λe=>P.ky (v,k.2) a e
  ·rw[π q] at h;exact P.ky k a h
 ·rw[p5 (T:=jC) C.O.O.nd hz hnd hl,<-P.w u hu,he u hu,<-R.Ϧ,R.sn (R.lv _ _)]
 ·show bj (T:=jC) s.V (v,z) (lW (s.V (v,z)) t x) k=V0.V k
  rw[jF (T:=jC) λe=>hnd (by rw[<-e];exact hk)];exact P.fx k hk
 ·show ∃a,(if Y.v=v then A' w else s.Ad (Y.v,w))=Qa a
  by_cases q:Y.v=v
  ·rw[ρ q];exact h.ι λa h=>⟨a,hk _ _ (q▸h)⟩
  ·rw[π q];exact h
 ·have h:∃a,(if Y.v=v then A' w else s.Ad (Y.v,w))=Qa a:=h
  by_cases q:Y.v=v
  ·rw[ρ q] at h
   exact h.ι λa h=>(hk2 _ _ h).ι (λe=>hv.ι (λq=>υ (e▸hm) (Xt.Ϩ q.2)) λq'=>υ (q.ν q') Y.vz) λe=>⟨a,by rw[q];exact e⟩
  ·rw[π q] at h;exact h
 ·show bj (T:=jC) s.V (v,z) (lW (s.V (v,z)) t x) k=_
  rw[jF (T:=jC) λe=>hv.ι (λq=>h1 (by rw[e];exact q.1)) λq=>h2 (by rw[e];exact q)];exact P.ot k h1 h2
end
variable{Y:OX R}
section
variable{K:List Nat}{row:List R.α}
def OX.lt_eq(hi:Y.i<=Y.u.ε):Y.lt=(Y.u.ϣ (Y.i+1)).bn Y.i:=by
 delta OX.lt km;rw[ZD hi];rcases θ.lt_or_ge Y.i Y.u.ε with q|q
 ·rw[ZD q]
 ·rw[Yv (J4 q),ζ.take_of_length_le (Jv _),ζ.take_of_length_le (J4 q)]
theorem OX.lt_nil(h:Y.u.ε<=Y.i)(hi:Y.i<=Y.u.ε):Y.lt=[]:=(OX.lt_eq hi).ν (ζ.drop_of_length_le (by rw[ZC];exact Jm (YX _ _) h))
def OX.z_next(hl:Y.i<Y.u.ε):Y.z=Y.u.ϣ (Y.i+1):=by
 have e:=OX.lt_eq (Y:=Y) (JL hl);have h:¬Y.lt=[]:=λq=>by
  have q:=χ ZP (e.Μ.ν q);rw[YY,ZC,ZD hl] at q;have q:Y.i+1-Y.i=0:=q;rw[YP] at q;cases q
 delta OX.z;rw[Ϟ h,ϯ,e];refine Eq.ν ?_ (Kc Y.i (Y.u.ϣ (Y.i+1)));rw[ζ.take_take,ZD (Ze _)]
theorem OX.lt_at(hi:Y.i<=Y.u.ε)(h:¬Y.lt=[]):Y.z=Y.u.ϣ (Y.i+1):=
 (θ.lt_or_ge Y.i Y.u.ε).ι OX.z_next λq=>υ (OX.lt_nil q hi) h
def zf9{t w up:ζ θ}(hi:Y.i<=Y.u.ε)(hl:dh up)(h1:(up== [])=Qb)(h2:(up==Y.lt)=Qb):Bt Y.X.M (Y.u,t) (Y.v++up,w) s=R.Ι:=by
 have e:(Y.v++up).Sc Y.u=false:=by
  refine(GJ (ζ.ϡ.Ϩ (ζ.take_prefix _ _)) hl).ν ?_;rw[ZC,ZD hi];delta kc;rw[h1,qaa];refine Ϟ λe=>?_;rw[show up=Y.lt from e.Μ,ϫ] at h2;cases h2
 delta Bt pre;rw[e];rfl
def BB(Y:OX R)(K:ζ θ)(aR:θ)(b d e:η ab):Ρ.Θ:=Qa (.ο Y.X.L.m)::Qa (.ο Y.D)::Qa (.ο Y.E)::Qa (.Υ K)::Qa (.Υ Y.lt)::Qa (.φ Y.X.N)::Qa (.ai (112+R.i))::Qa (.ο aR)::b::d::e::nn 6
abbrev El:ζ Sm:=[.ite (.mh Qe [.az (.Λ 9) 7598521885536580729 [],.ft .gt (.ew .Ϯ (.ϧ (.f8 (.bi 7103854)) [.Λ 3]) (.ϧ (.f8 (.bi 7103854)) [.aq (.Λ 9) 465726563698])) (.Λ 5)]) [.cont] [],.fm (.nm 10) (.az (.Λ 6) qr [.wr (.Λ 7) (.Λ 8),.aq (.Λ 9) 131277443786868]),.ite (.ft .eq (.aq (.Λ 9) 504397587826) (.f8 (.Υ []))) [.expr (.ϧ (.f8 (.ai 126)) [.Λ 0,.Λ 1,.ew .Ϯ (.Λ 3) (.aq (.Λ 9) 465726563698),.aq (.Λ 9) 127961880028532,.Λ 10])] [.ite (.ft .eq (.aq (.Λ 9) 504397587826) (.Λ 4)) [.expr (.ϧ (.f8 (.ai 126)) [.Λ 0,.Λ 2,.ew .Ϯ (.Λ 3) (.aq (.Λ 9) 465726563698),.aq (.Λ 9) 127961880028532,.Λ 10])] []]]
def xZ.t(C:xZ Y K aR c0 row dn):sz (Y.v,K)=Y.i+K.ε:=by show (Y.u.ϣ Y.i).ε+_=_;rw[ZC,ZD C.O.hi]
def Ph{E T e0 e1':ζ θ->R.α}{y:R.α}{a:Ar R.α}{st:QS R}(hd:5<=d)(C:xZ Y K aR c0 row dn)(hs:row[s]?=Qa y)(hn:n<Y.X.M.ax)(hB:Y.X.h[b]?=Qa (lP R a))(gt:a.t<Y.X.M.aa.ε)(g2:dh a.up)(g3:dh a.lo)(g4:R.D Y.X.p1 Y.X.k1 a.w)
  (g5:jw Y.X.N (Y.v,K) a=Qe->iz (Y.v,K) a∈Y.X.cs)
  (P:OQ Y K aR c0 row dn V0 n e0 st) (h0:∀u∈ej,e0 u=R.Ϯ (R.lv y (R.Ϯ (bif jw Y.X.N (Y.v,K) a then R.lv a.w (Bt Y.X.M (Y.u,u) (iz (Y.v,K) a) a.t) else R.Ι) (T u))) (E u)) (h1:∀u,e1' u=R.Ϯ (R.lv y (T u)) (E u))
  (q1:∀s',OQ Y K aR c0 row dn V0 (n+1) e1' s'->R' .nx (BB Y K aR (vN s) s'.e s'.f) s'.g) (q2:∀s',OQ Y K aR c0 row dn V0 (n+1) e1' s'->R' .ct (BB Y K aR (vN s) s'.e s'.f) s'.g):
  bz (ah P0 d) El (BB Y K aR (vN s) (vR b) st.f) st.g R':=by
 have S:=P.r;have hB:st.g[b]?=Qa (lP R a):=S.a.Ch.ι λt e=>by rw[e];exact jA hB
 have d1:1<=d:=Jm (by decide) hd;have hK2:=C.O.O.am _ C.hK;have ad2:=zcD (s:=K) (t:=a.lo) (Jm (JH (Jm hK2.2 C.O.O.n) (Ai g3)) (by decide));have hxd:=C.dg y (Jr hs);have hc:st.c<c0+Y.X.M.ax:=Jt P.hi (Zw hn _);have hz2:sz (Y.v,K)+2<=2*Y.X.N+2:=JN (Jm (JH hK2.1 hK2.2) (JC (KV _).Μ)) 2;have bt:=(yO (n:=sz (Y.v,K)) C.O.O.pp C.O.O.kk (Jm (Jq _ _) C.cc:c0<=Y.X.cl) (Jm (JH (JD 4 (JD _ hz2)) (JN (JD _ hz2) _)) C.O.O.bd)).2.2;have hRa:=S.a.LT K aR P.ad;rw[P.vr] at hRa;have fw:(∀u,(bif jw Y.X.N (Y.v,K) a then R.lv a.w (Bt Y.X.M (Y.u,u) (iz (Y.v,K) a) a.t) else R.Ι)=R.Ι)->∀z,OQ Y K aR c0 row dn V0 (n+1) e1' ⟨st.1,st.2.1,st.2.2.1,st.2.2.2.1,st.2.2.2.2.1,st.2.2.2.2.2.1,st.2.2.2.2.2.2.1,vR b,z,st.2.2.2.2.2.2.2.2.2⟩:=λhh z=>
  ⟨S,P.lo,J4 P.hi,P.dg,P.vr,P.ad,P.ky,λt ht=>by
   have:=P.w t ht
   rw[h0 t ht,hh,R.Ϛ,<-h1 t] at this;exact this,P.fx,⟨P.al.al,P.al.kp,P.al.nw⟩,P.ot⟩
 refine rY a.fq (λhe=>?_) λhe=>?_
 ·exact jT (.p (xG d1 hB)<|.t (he)<|.t (he)<|.z (q2 _ (fw (λu=>by unfold jw;rw[he];rfl) st.f))) (by kernel_rfl)
 ·refine rY (decide ((Y.X.N:Τ)<(K.ε:Τ)+(a.lo.ε:Τ))) (λhN=>?_) λhN=>?_
  ·have hb:jw Y.X.N (Y.v,K) a=false:=by
    delta jw;rw[Γ λe=>Zs.Ϩ (Jm (θ.le_max_right _ _) e) (ZF.mp (Ο hN)),YT]
   exact jT (.p (xG d1 hB)<|.f (he)<|.c<|.v (oi hB)<|.c3<|.t (hN)<|.z (q2 _ (fw (λu=>by rw[hb];rfl) st.f))) (by kernel_rfl)
  ·have hKN:K.ε+a.lo.ε<=Y.X.N:=Zs.mp λe=>(Tw hN) (ZF.Ϩ e)
   have ib:Y.v.ε+a.up.ε<=Y.X.N->jw Y.X.N (Y.v,K) a=true:=λq=>by
    delta jw;rw[he,Ζ (θ.max_le.Ϩ ⟨q,hKN⟩)];rfl
   have hlt:sz (Y.v,K)<sz (iz (Y.v,K) a):=by
    show Y.v.ε+K.ε<(Y.v++a.up).ε+(K++a.lo).ε;rw[Ju,Ju,Yr];exact ZM (xO he)
   have T1:=λhz:iz (Y.v,K) a∈Y.X.cs=>Cn (B:=Y.X.cl+Y.X.M.aa.ε) C.O.O.pp C.O.O.kk hlt P.lo (Zf (J4 (Jm (JH (C.O.O.am _ hz).1 (C.O.O.am _ hz).2) (JC (KV _).Μ))):sz (iz (Y.v,K) a)+1<=2*Y.X.N+2) C.O.O.bd (Jm (JL hc) (Jm C.cc (Jq _ _)));have f1:=λg=>R.ti (p:=Y.X.p*(sz (Y.v,K)+1)+Y.X.pS) (k:=Y.X.k*(sz (Y.v,K)+1)+Y.X.kS+c0) (Jm (by decide) hd:3<=d) hxd g4 (Jm (Jp (Jq _ _) _) bt) g;have cB:st.c<100000:=Jw hc (Jm C.cc (Jm (JL C.O.O.cl) (by decide)));have hw:∀(v:ζ θ),iz (Y.v,K) a=(v,K++a.lo)->jw Y.X.N (Y.v,K) a=Qe->∀u∈ej,e0 u=R.Ϯ (R.lv (R.lv y a.w) (Bt Y.X.M (Y.u,u) (v,K++a.lo) a.t)) (e1' u):=λv ez hb u hu=>by rw[h0 u hu,hb,na,h1 u,R.No,R.Ϧ,<-R.w9,ez]
   refine rY (a.up== []) (λhu=>?_) λhu=>?_
   ·have eu:=eq_of_beq hu
    have ez:iz (Y.v,K) a=(Y.v,K++a.lo):=by unfold iz;rw[eu];exact χ (λx=>(x,K++a.lo)) (Zi _)
    have hb:=ib (by rw[eu];exact Jm (ζ.Tu _ _) C.O.hu);have hz:=g5 hb;have T1:=T1 hz;rw[ez] at T1 hz hlt;have lK:K.ε<(K++a.lo).ε:=XA hlt;have hnd:¬dn (Y.v,K++a.lo):=λq=>Zs.Ϩ (C.l1 _ q) lK;obtain⟨g',A',e1,S',hk,hk2,kp⟩:=Ln (T:=jU) (d:=d) (z:=K++a.lo) (s:=a.t) (x:=R.lv y a.w) (Jm (by decide) hd) C.O.O.I S.a rfl cB gt (P.dg _ hnd) (R.ag T1.1 T1.2.1 (R.dp hxd g4)) T1.2.2;have H:∀x o,¬zS Y.D (λw=>st.Ad (Y.v,w)) x->st.g[x]?=Qa o->g'[x]?=Qa o/\¬zS Y.D A' x:=λx o n e=>tx.ff kp n e;have Z:=P.put (e':=e1') (z:=K++a.lo) (t:=a.t) (x:=R.lv y a.w) C hz gt hnd (.nb ⟨rfl,lK⟩) (R.ag T1.1 T1.2.1 (R.dp hxd g4)) (st.a,st.b,st.d,vR b,Qa (R.e (R.lv y a.w)),st.k) (D1 Y.vz.Μ S S' H) hk hk2 (S.a.am _) (λx o n1 n2 e=>⟨(H x o n1 e).1,by rw[zW];exact(H x o n1 e).2,by rw[zV Y.vz.Μ];exact n2⟩) (hw _ ez hb);exact jT (.p (xG d1 hB)<|.f (he)<|.c<|.v (oi hB)<|.c3<|.f (hN)<|.v (sl hRa (rX hs))<|.v (ur hB)<|.q (f1)<|.v (oh hB)<|.k (rd a.up [])<|.t (hu)<|.v (oi hB)<|.q (ad2)<|.v (ry hB)<|.p (e1)<|.z (q1 _ Z)) (by kernel_rfl)
   ·refine rY (a.up==Y.lt) (λhl=>?_) λhl=>?_
    ·have eu:=eq_of_beq hl
     have hn0:¬Y.lt=[]:=λe=>by rw[eu,e] at hu;cases hu
     have hz1:=OX.lt_at C.O.hi hn0;have ez:iz (Y.v,K) a=(Y.z,K++a.lo):=by
      unfold iz;rw[eu];delta OX.z;rw[Ϟ hn0];rfl
     have hb:=ib (by rw[<-Ju,show Y.v++a.up=Y.z from χ Prod.fst ez,hz1];exact Jm (ζ.Tu _ _) C.O.hu);have hz:=g5 hb;have T1:=T1 hz;rw[ez] at T1 hz;obtain⟨g',A',e1,S',hk,hk2,kp⟩:=Ln (T:=jU) (d:=d) (z:=K++a.lo) (s:=a.t) (x:=R.lv y a.w) (Jm (by decide) hd) C.O.O.I S.b rfl cB gt (P.dg _ (C.l2 _)) (R.ag T1.1 T1.2.1 (R.dp hxd g4)) T1.2.2;have H:∀x o,¬zS Y.E (λw=>st.Ad (Y.z,w)) x->st.g[x]?=Qa o->g'[x]?=Qa o/\¬zS Y.E A' x:=λx o n e=>tx.ff kp n e;have Z:=P.put (e':=e1') (z:=K++a.lo) (t:=a.t) (x:=R.lv y a.w) C hz gt (C.l2 _) (.u8 rfl) (R.ag T1.1 T1.2.1 (R.dp hxd g4)) (st.a,st.b,st.d,vR b,Qa (R.e (R.lv y a.w)),st.k) (D1 Y.vz S.swap S' H).swap hk hk2 (S.b.am _) (λx o n1 n2 e=>⟨(H x o n2 e).1,by rw[zV Y.vz];exact n1,by rw[zW];exact(H x o n2 e).2⟩) (hw _ ez hb);exact jT (.p (xG d1 hB)<|.f (he)<|.c<|.v (oi hB)<|.c3<|.f (hN)<|.v (sl hRa (rX hs))<|.v (ur hB)<|.q (f1)<|.v (oh hB)<|.k (rd a.up [])<|.f (hu)<|.v (oh hB)<|.k (rd a.up Y.lt)<|.t (hl)<|.v (oi hB)<|.q (ad2)<|.v (ry hB)<|.p (e1)<|.z (q1 _ Z)) (by kernel_rfl)
    ·have sk:=fw (λu=>by
      show (bif _ then R.lv a.w (Bt Y.X.M (Y.u,u) (Y.v++a.up,K++a.lo) a.t) else R.Ι)=_;rw[zf9 C.O.hi g2 hu hl,R.xz];cases jw Y.X.N (Y.v,K) a<;>rfl) (Qa (R.e (R.lv y a.w)))
     exact jT (.p (xG d1 hB)<|.f (he)<|.c<|.v (oi hB)<|.c3<|.f (hN)<|.v (sl hRa (rX hs))<|.v (ur hB)<|.q (f1)<|.v (oh hB)<|.k (rd a.up [])<|.f (hu)<|.v (oh hB)<|.k (rd a.up Y.lt)<|.f (hl)<|.z (q1 _ sk)) (by kernel_rfl)
end
section
variable{K:List Nat}{row:List R.α}
abbrev oS(Y:OX R)(K t:ζ θ):θ->R.α:=λs=>rT Y.X.N Y.X.M (Y.u,t) (Y.v,K) (bp Y.X.M s)
def OQ.wr{e e':ζ θ->R.α}{s s':QS R}(P:OQ Y K aR c0 row dn V0 n e s)(hn:n<=n')(he:∀t∈ej,e t=e' t)(h:s'= ⟨s.1,s.2.1,s.2.2.1,s.2.2.2.1,s'.a,s'.b,s'.d,s'.e,s'.f,s'.k⟩):OQ Y K aR c0 row dn V0 n' e' s':=by
 rw[h];exact⟨P.r,P.lo,Jm P.hi (Jp hn _),P.dg,P.vr,P.ad,P.ky,λt ht=>by rw[<-P.w t ht,he t ht],P.fx,⟨P.al.al,P.al.kp,P.al.nw⟩,P.ot⟩
def zeD{n0 r:θ}{y:R.α}{E e0:ζ θ->R.α}{st:QS R}(hd:5<=d)(C:xZ Y K aR c0 row dn)(hs:row[s]?=Qa y)(hm:xs∈Y.X.M.aa)(hr:(Y.X.L.au.ς ab.ο)[s]?=Qa (.ο r))(H:Bx R Y.X.h r as xs)(hn:n0+xs.ε<=Y.X.M.ax)(P:OQ Y K aR c0 row dn V0 n0 e0 st)(h0:∀t,e0 t=R.Ϯ (R.lv y (rT Y.X.N Y.X.M (Y.u,t) (Y.v,K) xs)) (E t)):
  ∃s',OQ Y K aR c0 row dn V0 (n0+xs.ε) E s'/\exec (ah P0 d) (.fo [9] Qb (.wr (.aq (.Λ 0) jY) (.Λ 8)) El) (BB Y K aR (vN s) st.e st.f) st.g=Qa ((.nx,BB Y K aR (vN s) s'.e s'.f),s'.g):=by
 obtain⟨s',P',e⟩:=pb (c:=ah P0 d) (tg:=[9]) (many:=Qb) (a:=r) (e:=.wr (.aq (.Λ 0) jY) (.Λ 8)) (b:=El) (vs:=as.ς .ο) (λs':QS R=>BB Y K aR (vN s) s'.e s'.f) QS.g (λq s'=>OQ Y K aR c0 row dn V0 (n0+q) (λt=>R.Ϯ (R.lv y (rT Y.X.N Y.X.M (Y.u,t) (Y.v,K) (xs.bn q))) (E t)) s') st
  (H.n▸Jm (Jm (Jz _ _) hn) (Jm C.O.O.G.c (by decide))) rfl (λq s' P=>P.r.a.Ch.ι λt e=>by rw[e];exact jA H.l) (by have I:=P.r.a.mx C.O.O.I;exact j2 (.v (mW I)<|.v (sl I.aa hr)<|.z (cg (.ο r) st.g)) (by kernel_rfl)) (P.wr (Jv _) (λt ht=>h0 t) rfl) λq v s' R1 _ hv P1 T1=>by
   refine xEEAA (H.a q v hv) λb x cw hx hb=>?_;refine eqB cw ?_;have ga:=C.O.O.G.fy _ hm x (Jr hx);exact kP (Ph hd C hs (n:=n0+q) (Jw (Zw (jI hx) _) hn) hb ga.1 ga.2.1 ga.2.2.1 ga.2.2.2.1 (C.O.O.up _ C.hK _ hm x (Jr hx)) P1 (T:=λt=>rT Y.X.N Y.X.M (Y.u,t) (Y.v,K) (xs.bn (q+1))) (E:=E) (λt _=>by rw[U4 hx]) (λ_=>rfl) (λs2 P2=>T1.nx s2 P2) λs2 P2=>T1.ct s2 P2)
 rw[H.n] at P';exact⟨s',P'.wr (Jv _) (λt ht=>by rw[Z3,show rT Y.X.N Y.X.M (Y.u,t) (Y.v,K) []=R.Ι from rfl,R.xz,R.Ϛ]) rfl,e⟩
abbrev zbG:ζ Sm:=[.ite (.ft .eq (.wr (.Λ 7) (.Λ 8)) (.aq (.Λ 6) lr)) [.cont] [],.fo [9] Qb (.wr (.aq (.Λ 0) 1634886515) (.Λ 8)) El]
def zbF{n0 n1:θ}{e0 e1:ζ θ->R.α}{st:QS R}(hd:5<=d)(C:xZ Y K aR c0 row dn)(hs:s<Y.X.M.aa.ε)(P:OQ Y K aR c0 row dn V0 n0 e0 st)(hn:n1=n0+(bp Y.X.M s).ε)(hc:n1<=Y.X.M.ax)(h0:∀t,e0 t=R.Ϯ (R.lv (at' row s) (oS Y K t s)) (e1 t))
  (q1:∀s',OQ Y K aR c0 row dn V0 n1 e1 s'->R' .nx (BB Y K aR s'.d s'.e s'.f) s'.g) (q2:∀s',OQ Y K aR c0 row dn V0 n1 e1 s'->R' .ct (BB Y K aR s'.d s'.e s'.f) s'.g):
  bz (ah P0 d) zbG (BB Y K aR (vN s) st.e st.f) st.g R':=by
 have hsr:=VC (l:=row) (s:=s) (by rw[C.am];exact hs);have hRa:=P.r.a.LT K aR P.ad;rw[P.vr] at hRa;cases R.gi (at' row s) R.Ι with
 |isTrue hz=>
  have P':OQ Y K aR c0 row dn V0 n1 e1 ⟨st.1,st.2.1,st.2.2.1,st.2.2.2.1,st.2.2.2.2.1,st.2.2.2.2.2.1,vN s,st.2.2.2.2.2.2.2⟩:=P.wr (hn▸Jq _ _) (λt ht=>by rw[h0 t,hz,R.v4,R.Ϛ]) rfl;exact jT (.v (sl hRa (rX hsr))<|.w (R.no)<|.k (R.qe (at' row s) R.Ι)<|.t (R.yes hz)<|.z (q2 _ P')) (by kernel_rfl)
 |isFalse hz=>
  refine(C.O.O.I.ng hs).ι λr zq3=>zq3.ι λas zq4=>?_;refine xEA (zeD hd C hsr zq4.2.2 zq4.1 zq4.2.1 (hn▸hc) P h0) λs' P' e=>?_;have N:OQ Y K aR c0 row dn V0 n1 e1 ⟨s'.1,s'.2.1,s'.2.2.1,s'.2.2.2.1,s'.2.2.2.2.1,s'.2.2.2.2.2.1,vN s,s'.2.2.2.2.2.2.2⟩:=P'.wr (JC hn.Μ) (λ_ _=>rfl) rfl;exact jT (.v (sl hRa (rX hsr))<|.w (R.no)<|.k (R.qe (at' row s) R.Ι)<|.f (R.not hz)<|.s (e)<|.z (q1 _ N)) (by kernel_rfl)
def zhk{F e0:ζ θ->R.α}{st:QS R}(hd:5<=d)(C:xZ Y K aR c0 row dn)(P:OQ Y K aR c0 row dn V0 0 e0 st)(h0:∀t,e0 t=R.Ϯ (jM row (oS Y K t) 0) (F t)):
  ∃s',OQ Y K aR c0 row dn V0 Y.X.M.ax F s'/\exec (ah P0 d) (.fo [8] Qb (.ϧ (.f8 (.ty 491260897125)) [.az (.Λ 0) 1936292453 []]) zbG) (BB Y K aR st.d st.e st.f) st.g=Qa ((.nx,BB Y K aR s'.d s'.e s'.f),s'.g):=by
 have I:=P.r.a.mx C.O.O.I;obtain⟨s',P',e⟩:=lm (c:=ah P0 d) (x:=8) (n:=Y.X.M.aa.ε) (e:=.ϧ (.f8 (.ty 491260897125)) [.az (.Λ 0) 1936292453 []]) (b:=zbG) (λs':QS R=>BB Y K aR s'.d s'.e s'.f) QS.g (λs s'=>OQ Y K aR c0 row dn V0 (mC Y.X.M s) (λt=>R.Ϯ (jM (row.bn s) (oS Y K t) s) (F t)) s') st
  (Jm I.bc (by decide)) rfl (by exact j2 (.p (pF (Jm (by decide) hd) I)<|.c<|.z (cg (.gb Y.X.M.aa.ε) st.g)) (by kernel_rfl)) (P.wr (JF _) (λt _=>h0 t) rfl) λs s' R1 _ hs P1 T1=>zbF hd C hs P1 (qD hs) (tD C.O.O.I _) (λt=>by rw[Ld (by rw[C.am];exact hs),R.Ϧ]) (λs2 P2=>T1.nx s2 P2) λs2 P2=>T1.ct s2 P2
 have e1:mC Y.X.M Y.X.M.aa.ε=Y.X.M.ax:=by unfold mC;rw[JW,I.ct]
 have e2:row.bn Y.X.M.aa.ε=[]:=by rw[<-C.am,Z3]
 rw[e1,e2] at P';exact⟨s',P'.wr (Jv _) (λt ht=>by rw[show jM [] (oS Y K t) Y.X.M.aa.ε=R.Ι from rfl,R.Ϛ]) rfl,e⟩
def Fg{F e0:ζ θ->R.α}{st:QS R}(hd:6<=d)(C:xZ Y K aR c0 row dn)(P:OQ Y K aR c0 row dn V0 0 e0 st)(h0:∀t,e0 t=R.Ϯ (jM row (oS Y K t) 0) (F t)):
  ∃s',OQ Y K aR c0 row dn V0 Y.X.M.ax F s'/\jJ (ah P0 d) (.ai 135) [.ο Y.X.L.m,.ο Y.D,.ο Y.E,.Υ K,.Υ Y.lt,.φ Y.X.N] st.g=Qa (.Δ,s'.g):=by
 have w:WF P0 d 135 [.ο Y.X.L.m,.ο Y.D,.ο Y.E,.Υ K,.Υ Y.lt,.φ Y.X.N] st.g λv g=>v=.Δ/\∃s',OQ Y K aR c0 row dn V0 Y.X.M.ax F s'/\g=s'.g:=by
  refine j7 (K:=5) hd (Qa (.ο Y.X.L.m)::Qa (.ο Y.D)::Qa (.ο Y.E)::Qa (.Υ K)::Qa (.Υ Y.lt)::Qa (.φ Y.X.N)::nn 11) tF rfl λd' h'=>?_;refine xEA (zhk (st:=⟨st.1,st.2.1,st.2.2.1,st.2.2.2.1,st.2.2.2.2.1,st.2.2.2.2.2.1,Qc,Qc,Qc,st.2.2.2.2.2.2.2.2.2⟩) h' C (P.wr (Jv _) (λ_ _=>rfl) rfl) h0) λs' P' e=>?_;refine xEEAAA P.r.a.dd λep es hDd hKy _ hdg=>?_;refine xEEAAA P'.r.a.dd λep1 es1 h1 _ c1 _=>?_;refine xEEAAA P'.r.b.dd λep2 es2 h2 _ c2 _=>?_;have f1:=sd hDd (mX (T:=jU) hKy) ((hdg K).ν (by rw[P.ad];rfl):jO es (jU.v K)=Qa (.ο aR));have hs:((20000:Τ)<(es1.ε:Τ)+(es2.ε:Τ))->False:=λq=>by
   have q:20000<es1.ε+es2.ε:=ZF.mp q;have b:=Jm P'.hi C.cc;have c:=C.O.cl2;exact J3 _ (Jw q (Jm (JH (Jm c1 b) (Jm c2 b)) (Jm (JC (KV _).Μ) c)))
  exact jT (.v (lU (P.r.a.mx C.O.O.I))<|.v (f1)<|.s (e)<|.p (zcC (ah P0 d') h1)<|.p (zcC (ah P0 d') h2)<|.c2<|.f (Γ hs)<|.z ((⟨rfl,s',P',rfl⟩:(ab.Δ=.Δ/\∃s'',OQ Y K aR c0 row dn V0 Y.X.M.ax F s''/\s'.g=s''.g)))) (by kernel_rfl)
 obtain⟨v,g,e,rfl,s',P',rfl⟩:=W.xL (l5 (P:=P0) rfl w);exact⟨s',P',e⟩
end
section
variable{K:List Nat}
def OT(Y:OX R)(dn:WW->Prop)(b:θ)(s:QS R):Prop:=St Y s/\s.c<=1+b*(Y.X.M.ax+1)/\(∀k,¬dn k->∀x∈s.V k,R.D (Y.X.p*(sz k+1)) (Y.X.k*(sz k+1)+s.c) x)/\(∀k,dn k->∀x∈s.V k,R.D (Y.X.p*(sz k+1)+Y.X.pS) (Y.X.k*(sz k+1)+Y.X.kS+s.c) x)/\(∀k a,s.Ad k=Qa a->k.2∈ej)/\(∀t∈ej,R.Ϯ (nL (T:=jC) Y.X.cs dn (Bt Y.X.M (Y.u,t)) s.V) (s7 Y.X dn s.V (Y.u,t))=Y.X.W (Y.u,t))/\∀k:WW,k.1≠Y.v->k.1≠Y.z->s.V k=jV R Y.X.M.aa.ε
section
variable{Y:OX R}{dn:WW->Prop}{b:Nat}{s:QS R}(ψ:OT Y dn b s)
def OT.r:=@ψ.1
def OT.hc:=@ψ.2.1
def OT.dg:=@ψ.2.2.1
def OT.de:=@ψ.2.2.2.1
def OT.ky:=@ψ.2.2.2.2.1
def OT.w:=@ψ.2.2.2.2.2.1
def OT.ot:=@ψ.2.2.2.2.2.2
end
def Hq{st:QS R}(hd:6<=d)(O:Gf Y)(hK:K∈ej)(S:St Y st)(hA:st.Ad (Y.v,K)=Qa a)(hc:st.c+Y.X.M.ax<=1+(b+1)*(Y.X.M.ax+1))(hb:b<Y.X.cs.ε)(l1:∀w,dn' (Y.v,w)->w.ε<=K.ε)(l2:∀w,¬dn' (Y.z,w))(hKd:dn' (Y.v,K))
  (dg:∀k,¬dn' k->∀x∈st.V k,R.D (Y.X.p*(sz k+1)) (Y.X.k*(sz k+1)+st.c) x) (de:∀k,dn' k->∀x∈st.V k,R.D (Y.X.p*(sz k+1)+Y.X.pS) (Y.X.k*(sz k+1)+Y.X.kS+st.c) x) (ky:∀k a,st.Ad k=Qa a->k.2∈ej)
  (hw:∀t∈ej,R.Ϯ (nL (T:=jC) Y.X.cs dn' (Bt Y.X.M (Y.u,t)) st.V) (R.Ϯ (jM (st.V (Y.v,K)) (oS Y K t) 0) (s7 Y.X dn' st.V (Y.u,t)))=Y.X.W (Y.u,t)) (ot:∀k:WW,k.1≠Y.v->k.1≠Y.z->st.V k=jV R Y.X.M.aa.ε):
  ∃s',OT Y dn' (b+1) s'/\KO Y K.ε s' st/\jJ (ah P0 d) (.ai 135) [.ο Y.X.L.m,.ο Y.D,.ο Y.E,.Υ K,.Υ Y.lt,.φ Y.X.N] st.g=Qa (.Δ,s'.g):=by
 refine xEA (Fg (V0:=st) (F:=λt=>s7 Y.X dn' st.V (Y.u,t)) hd (⟨O,O.sw K hK Y.i,Jm hc (Ew hb),S.a.am K,de _ hKd,l1,l2⟩:xZ Y K a st.c (st.V (Y.v,K)) dn') ⟨S,Jv _,Jv _,dg,rfl,hA,ky,hw,λ_ _=>rfl,KO.rfl',ot⟩ λt=>rfl) λs' P' e=>?_;refine⟨s',⟨P'.r,Jm P'.hi hc,P'.dg,λk hk x hx=>?_,P'.ky,λt ht=>?_,P'.ot⟩,P'.al,e⟩
 ·rw[P'.fx k hk] at hx
  exact R.ag (Jv _) (Jp P'.lo _) (de k hk x hx)
 ·refine Eq.ν ?_ (P'.w t ht)
  congr 1
  by_cases q:dn' (Y.u,t)
  ·rw[oW q,oW q,P'.fx _ q]
  ·rw[oA q,oA q]
def Lx(Y:OX R)(a b:η ab):Ρ.Θ:=Qa (.ο Y.X.L.m)::Qa (.Υ Y.u)::Qa (.φ Y.X.N)::Qa (.ai (112+R.i))::Qa Y.X.ov::Qa (.ο Y.D)::vN Y.i::Qa (.ο Y.E)::a::b::nn 8
abbrev UU:ζ Sm:=[.ite (.ft .gh (.Λ 4) (.f8 .Δ)) [.fm (.sb (.Λ 5) (.Λ 9)) (.ϧ (.f8 (.ai 132)) [.Λ 3,.wr (.Λ 5) (.Λ 9),.Λ 4])] [],.expr (.ϧ (.f8 (.ai 135)) [.Λ 0,.Λ 5,.Λ 7,.Λ 9,.slice (.Λ 1) 3 [.Λ 6,.ew .Ϯ (.Λ 6) (.f8 (.φ 1))],.Λ 2])]
section
variable{a b:Nat}{st:QS R}{sv:Option ab}(hd:6<=d)(O:Gf Y)(hK:K∈ej)(h0:¬dn (Y.v,K))(h1:∀k,dn' k ↔ dn k\/k=(Y.v,K))(l1:∀w,dn' (Y.v,w)->w.length<=K.length)(l2:∀w,¬dn' (Y.z,w))(hb:b<Y.X.cs.length)(P:OT Y dn b st)(hA:st.Ad (Y.v,K)=Qa a)
 (q1:∀s',OT Y dn' (b+1) s'->KO Y K.length s' st->R' .nx (Lx Y sv (Qa (.str K))) s'.g)
include hd O hK h0 h1 l1 l2 hb P hA q1
def zbL(hov:Y.X.ov=.Δ):bz (ah P0 d) UU (Lx Y sv (Qa (.Υ K))) st.g R':=by
 have hKd:dn' (Y.v,K):=(h1 _).Ϩ (.u8 rfl);have eV:bj (T:=jC) st.V (Y.v,K) (st.V (Y.v,K))=st.V:=funext λk=>by
  by_cases q:k=(Y.v,K)
  ·refine eqE q ?_;exact jE (T:=jC)
  ·exact jF (T:=jC) q
 obtain⟨s',P',m',e⟩:=Hq hd O hK P.r hA (b:=b) (dn':=dn') (Jm (JN P.hc _) (by rw(occs:=.Db) [KH b 1,ZS,<-J6];exact Jp (Ze _) _)) hb l1 l2 hKd
  (λk hk=>P.dg k λq=>hk ((h1 k).Ϩ (.nb q))) (λk hk x hx=>((h1 k).mp hk).ι (λq=>P.de k q x hx) λq=>by
   subst q;exact R.ag (Jq _ _) (JN (Jq _ _) _) (P.dg _ h0 x hx)) P.ky
  (λt ht=>by
   have:=Ey O.O (O.sw K hK Y.i) h0 h1 (z8 O.O) (O.V.no hov (st.V (Y.v,K)) (P.r.a.am K)) (t:=(Y.u,t)) (by have:=O.sw t ht Y.u.ε;rw(occs:=.Db) [JW] at this;exact this) (P.w t ht)
   rw(occs:=.Db) [eV] at this
   exact this) P.ot
 exact jT (.k (zeA hov)<|.c2<|.q (bF Y.u Y.i (Y.i+1))<|.p (e)<|.z (q1 _ P' m')) (by kernel_rfl)
def zbK(hov:Y.X.ov=.ο aT):bz (ah P0 d) UU (Lx Y sv (Qa (.Υ K))) st.g R':=by
 have S:=P.r;have hcl:st.c<=Y.X.cl:=Jm P.hc (Jp (J8 _ (JL hb)) 1);refine xEE (O.V.so aT hov (Jm (by decide) hd) S.a.Ch (S.a.LT K a hA) (S.a.am K) (P.dg (Y.v,K) h0) (Mj O.O (O.sw K hK Y.i) hcl)) λt a2 cw=>?_;refine xEA cw λrow' ec Nw=>?_;rw[<-hov] at ec;refine xEEAAA S.a.dd λep es hDd hKy hlen hdg=>?_;have hKe:jO es (jU.v K)=Qa (.ο a):=(hdg K).ν (by rw[hA];rfl);have ge:Y.X.h.ε<=a2:=Jm (by obtain⟨t0,hg⟩:=S.a.Ch;rw[hg,Ju];exact Jq _ _) Nw.ge;have S2:=(S.a.cu:RW jU R Y.X.h (st.g++t) Y.D Y.X.M.aa.ε st.c (λw=>st.Ad (Y.v,w)) (λw=>st.V (Y.v,w))).put (k:=K) (jA hDd) Nw.Hd ge (λz' e=>υ (jS (S.a.LT z' _ e)) (Zs.Ϩ Nw.ge)) Nw.am (bif (jO es (jU.v K)).Ψ then ep else ep.ς (· +1)) (S.a.ep hDd _);have nx:∀{x:θ}{o:ae},st.g[x]?=Qa o->x≠a2:=λe q=>Zs.Ϩ Nw.ge (q▸jS e);have H:∀x o,¬zS Y.D (λw=>st.Ad (Y.v,w)) x->st.g[x]?=Qa o->((st.g++t).ϩ Y.D (.Χ (bif (jO es (jU.v K)).Ψ then ep else ep.ς (· +1)) (mK es (jU.v K) (.ο a2))))[x]?=Qa o/\¬zS Y.D (bj (T:=jU) (λw=>st.Ad (Y.v,w)) K (Qa a2)) x:=λx o n e=>⟨jP (λq=>n (.nb q.Μ)) (jA e),λw=>w.ι (λq=>n (.nb q)) λw=>w.ι λk q=>by
  by_cases qk:k=K
  ·rw[qk,jE] at q;exact nx e (Qa.dL q).Μ
  ·rw[jF qk] at q;exact n (.u8 ⟨k,q⟩)⟩
 have S3:=D1 (z:=K) (x:=row') Y.vz.Μ S S2 H;have ad:∀w,zE Y.v (bj (T:=jU) (λw=>st.Ad (Y.v,w)) K (Qa a2)) st.Ad (Y.v,w)=bj (T:=jU) (λw=>st.Ad (Y.v,w)) K (Qa a2) w:=λw=>ρ rfl;have K0:KO Y K.ε (⟨_,zE Y.v (bj (T:=jU) (λw=>st.Ad (Y.v,w)) K (Qa a2)) st.Ad,bj (T:=jC) st.V (Y.v,K) row',st.c+1,Qc,Qc,Qc,Qc,Qc,Qc⟩:QS R) st:=⟨λw h=>by
  show ∃x,zE Y.v (bj (T:=jU) (λw=>st.Ad (Y.v,w)) K (Qa a2)) st.Ad (Y.v,w)=Qa x;rw[ad];by_cases q:w=K
  ·refine eqE q ?_;exact⟨a2,jE⟩
  ·rw[jF q];exact h,λx o n1 n2 e=>⟨(H x o n1 e).1,by rw[zW];exact(H x o n1 e).2,by rw[zV Y.vz.Μ];exact n2⟩,λw _ h=>by
  by_cases q:w=K
  ·refine eqB q ?_;exact⟨a,hA⟩
  ·exact h.ι λx e=>⟨x,((ad w).ν (jF (T:=jU) (f:=λw=>st.Ad (Y.v,w)) q)).Μ.ν e⟩⟩
 obtain⟨s',P',m',e⟩:=Hq (st:=⟨_,zE Y.v (bj (T:=jU) (λw=>st.Ad (Y.v,w)) K (Qa a2)) st.Ad,bj (T:=jC) st.V (Y.v,K) row',st.c+1,Qc,Qc,Qc,Qc,Qc,Qc⟩) hd O hK S3 ((ad K).ν jE) (b:=b) (dn':=dn')
  (by show st.c+1+Y.X.M.ax<=_;rw[KH b 1,ZS,<-J6,J6 st.c,Kf 1];exact JN P.hc _) hb l1 l2 ((h1 _).Ϩ (.u8 rfl))
  (λk hk x hx=>by
   have hx:x∈bj (T:=jC) st.V (Y.v,K) row' k:=hx;rw[jF (T:=jC) λq:k=(Y.v,K)=>hk (by rw[q];exact((h1 _).Ϩ (.u8 rfl)))] at hx;exact R.ag (Jv _) (Jp (Ze _) _) (P.dg k (λq=>hk ((h1 k).Ϩ (.nb q))) x hx))
  (λk hk x hx=>by
   have hx:x∈bj (T:=jC) st.V (Y.v,K) row' k:=hx;by_cases q:k=(Y.v,K)
   ·cases q
    rw[jE (T:=jC)] at hx;exact R.ag (Jv _) (by show _<=_+(st.c+1);rw[ZG];exact Jp (Ze _) _) (Nw.dg x hx)
   ·rw[jF (T:=jC) q] at hx
    exact R.ag (Jv _) (Jp (Ze _) _) (P.de k (((h1 k).mp hk).resolve_right q) x hx))
  (λk a' h=>by
   have h:(if k.1=Y.v then bj (T:=jU) (λw=>st.Ad (Y.v,w)) K (Qa a2) k.2 else st.Ad k)=Qa a':=h;by_cases q:k.1=Y.v
   ·rw[ρ q] at h
    by_cases q2:k.2=K
    ·rw[q2];exact hK
    ·rw[jF q2] at h;exact P.ky (Y.v,k.2) _ h
   ·rw[π q] at h;exact P.ky k a' h)
  (λt ht=>by
   have:=Ey O.O (O.sw K hK Y.i) h0 h1 (z8 O.O) Nw.w (t:=(Y.u,t)) (by have:=O.sw t ht Y.u.ε;rw[JW] at this;exact this) (P.w t ht)
   show R.Ϯ (nL (T:=jC) Y.X.cs dn' (Bt Y.X.M (Y.u,t)) (bj (T:=jC) st.V (Y.v,K) row')) (R.Ϯ (jM (bj (T:=jC) st.V (Y.v,K) row' (Y.v,K)) (oS Y K t) 0) (s7 Y.X dn' (bj (T:=jC) st.V (Y.v,K) row') (Y.u,t)))=Y.X.W (Y.u,t);rw[jE (T:=jC)];exact this)
  λk q1 q2=>(jF (T:=jC) (λe=>q1 (by rw[e]))).ν (P.ot k q1 q2)
 exact jT (.k (zez hov)<|.c<|.v (sd hDd (mX (T:=jU) hKy) hKe)<|.p (ec)<|.h ((L3 (v:=.ο a2) (jA (t:=t) hDd) (mX (T:=jU) (k:=K) hKy) (Jt hlen (Jt hcl (Zp O.O.cl (by decide))):es.ε<bc)))<|.c<|.q (bF Y.u Y.i (Y.i+1))<|.p (e)<|.z (q1 _ P' (K0.ν m'))) (by kernel_rfl)
theorem Pf:bz (ah P0 d) UU (Lx Y sv (Qa (.Υ K))) st.g R':=
 O.V.r.ι (zbL hd O hK h0 h1 l1 l2 hb P hA q1) λ⟨_,hov⟩=>zbK hd O hK h0 h1 l1 l2 hb P hA q1 hov
end
end
section
variable{b':Nat}{st:QS R}{l:List (List Nat)}
abbrev zbO:Ex:=.comp (.Λ 12) [12] Qb (.Λ 5) [.ft .eq (.ϧ (.f8 (.bi 7103854)) [.Λ 12]) (.Λ 8)]
def oz(s:θ)(v:ab):Ε:=decide ((v.Tv.bm []).ε=s)
def Pg{e:θ}{ks:ζ (ζ θ)}{Ad:ζ θ->η θ}{z:η ab}(H:zdi (T:=jU) g Y.D c Ad e es ks)(hc:c<=100000):eval (ah P0 d) zbO (Lx Y (vN s) z) g=Qa (.ο g.ε,g++[.ξ ((ks.Ϡ λk=>decide (k.ε=s)).ς ab.Υ)]):=by
 have hl:=Jm H.am hc;have ef:(ks.ς jU.v).Ϡ (oz s)=(ks.Ϡ λk=>decide (k.ε=s)).ς ab.Υ:=ζ.filter_map ..;refine W.eq (wA (oz s) (Jt hl (by decide:100000<200000)) (Jm hl (by decide)) (λ_=>rfl) (qL rfl ⟨rfl,H.Hd,λv hv acc=>?_,rfl,?_⟩))
 ·rw[H.kq] at hv
  obtain⟨k,_,rfl⟩:=JM.mp hv;refine sC ((show WE (ah P0 d) _ _ (g++[.ξ acc]) (λv h=>v=.ϝ ((k.ε:Τ)==(s:Τ))/\h=g++[.ξ acc]) from by exact j2 (.c<|.k (tc (k.ε:Τ) s)<|.z (cg (.ϝ ((k.ε:Τ)==(s:Τ))) (g++[.ξ acc]))) (by kernel_rfl)).Ν λv h q=>?_);obtain⟨rfl,rfl⟩:=q;have e:((k.ε:Τ)==(s:Τ))=oz s (jU.v k):=by
   show _=decide (k.ε=s);rw[Z8,Β,Ϫ];exact⟨λh=>Yz.dL h,λh=>by rw[<-h]⟩
  rw[e];exact tQ ⟨λhb=>tP ⟨rfl,hb.Μ⟩,λhb=>⟨rfl,hb.Μ⟩⟩
 ·rw[H.kq,ef]
theorem OT.cu{t:MH}(P:OT Y dn b st):OT Y dn b ⟨st.g++t,st.2⟩:=⟨P.r.cu,P.hc,P.dg,P.de,P.ky,P.w,P.ot⟩
theorem OT.uz{y:η ab}(P:OT Y dn b st):OT Y dn b ⟨st.1,st.2.1,st.2.2.1,st.2.2.2.1,st.2.2.2.2.1,y,st.2.2.2.2.2.2⟩:=⟨P.r,P.hc,P.dg,P.de,P.ky,P.w,P.ot⟩
theorem OT.vb{y:η ab}(P:OT Y dn b st):OT Y dn b ⟨st.1,st.2.1,st.2.2.1,st.2.2.2.1,y,st.2.2.2.2.2⟩:=⟨P.r,P.hc,P.dg,P.de,P.ky,P.w,P.ot⟩
def OT.fw(P:OT Y dn b st)(hb:b<=b')(h1:∀k,dn k->dn' k)(h2:∀k,dn' k->dn k\/st.V k=jV R Y.X.M.aa.ε):OT Y dn' b' st:=by
 refine⟨P.r,Jm P.hc (Jp (J8 _ hb) 1),λk hk=>P.dg k λq=>hk (h1 k q),λk hk x hx=>?_,P.ky,λt ht=>?_,P.ot⟩
 ·refine(h2 k hk).ι (λq=>P.de k q x hx) λq=>?_
  rw[q] at hx;rw[Zc hx];exact R.ag (JF _) (JF _) R.bx
 ·rw[<-P.w t ht]
  have hz:∀k,dn' k->¬dn k->st.V k=jV R Y.X.M.aa.ε:=λk q n=>(h2 k q).resolve_left n;refine congr (χ R.Ϯ (lS λk hk=>?_)) ?_
  ·by_cases q:dn k
   ·rw[ρ q,ρ (h1 k q)]
   ·by_cases q':dn' k
    ·rw[π q,ρ q',hz k q' q,kH]
    ·rw[π q,π q']
  ·by_cases q:dn (Y.u,t)
   ·rw[oW q,oW (h1 _ q)]
   ·by_cases q':dn' (Y.u,t)
    ·rw[oA q,oW q',hz _ q' q,kH]
    ·rw[oA q,oA q']
abbrev Lz(Y:OX R)(s:θ)(k:WW):Prop:=k.1.ε<Y.i\/(k.1=Y.v/\k.2.ε<s)
abbrev dno(Y:OX R)(s:θ)(l:ζ (ζ θ))(j:θ)(k:WW):Prop:=k.1.ε<Y.i\/(k.1=Y.v/\(k.2.ε<s\/k.2∈l.ϣ j))
def OSI(Y:OX R)(s:θ)(l:ζ (ζ θ))(s1:QS R)(j:θ)(st:QS R):Prop:=OT Y (dno Y s l j) (12*Y.i+4*s+j) st/\KO Y s st s1
section
variable{Y:OX R}{s:Nat}{l:List (List Nat)}{s1:QS R}{j:Nat}{st:QS R}(ψ:OSI Y s l s1 j st)
def OSI.P:=@ψ.1
def OSI.m:=@ψ.2
end
def OSL(Y:OX R)(s:θ)(l:ζ (ζ θ))(s1:QS R):Prop:=l.ϥ/\(∀k,k∈l ↔ k.ε=s/\∃a,s1.Ad (Y.v,k)=Qa a)/\(∀k∈l,k∈ej)/\l.ε<=4
section
variable{Y:OX R}{s:Nat}{l:List (List Nat)}{s1:QS R}(ψ:OSL Y s l s1)
def OSL.nd:=@ψ.1
def OSL.mem:=@ψ.2.1
def OSL.sw:=@ψ.2.2.1
def OSL.n:=@ψ.2.2.2
end
def Gf.zl(O:Gf Y):Y.v.ε=Y.i/\Y.i<Y.z.ε:=by
 have h:Y.v.ε=Y.i:=by rw[ZC,ZD O.hi]
 refine⟨h,?_⟩;delta OX.z;rw[Ju,h];refine ZM ?_;refine rY (Y.lt== []) (λq=>by rw[q];exact θ.zero_lt_one) λq=>?_;rw[q];refine Yd λe=>?_;rw[show Y.lt=[] from ζ.Tr e] at q;cases q
def SP(O:Gf Y)(hs:s<3)(hj:j<4):12*Y.i+4*s+j<Y.X.cs.ε:=by
 have h1:=O.c36;have h2:=Jm O.hi O.hu;rw[O.n2] at h2;lia
def Ig{v:ab}(hd:6<=d)(O:Gf Y)(hs:s<3)(H:OSL Y s l s1)(hv:(l.ς ab.Υ)[i]?=Qa v)(I:OSI Y s l s1 i st)(T:To (λs':QS R=>Lx Y (vN s) s'.b) QS.g (OSI Y s l s1 (i+1)) R1 R'):
  Wo (mQ (Lx Y (vN s) st.b) [9] Qb v) λfr1=>bz (ah P0 d) UU fr1 st.g R':=by
 rw[JA] at hv;obtain⟨K,hK,rfl⟩:=Za.mp hv;have hm:=Jr hK;have q:=(H.mem K).mp hm;have hKs:K.ε=s:=q.1;have zl:=O.zl;refine(I.m.al K q.2).ι λa hA=>?_;refine kP (Pf (dn:=dno Y s l i) (dn':=dno Y s l (i+1)) (a:=a) hd O (H.sw K hm) (λh=>h.ι (λh=>J3 _ (zl.1▸h)) λh=>h.2.ι (λh=>υ hKs (Ke h)) (z4 H.nd hK)) (λk=>?_) (λw h=>?_) (λw h=>?_) (b:=12*Y.i+4*s+i) (SP O hs (Jw (jI hK) H.n)) I.P hA λs' P' m'=>T.nx ⟨s'.1,s'.2.1,s'.2.2.1,s'.2.2.2.1,s'.2.2.2.2.1,Qa (.Υ K),s'.2.2.2.2.2.2⟩ ⟨P'.uz,I.m.ν (hKs▸ ⟨m'.al,m'.kp,m'.nw⟩)⟩)
 ·show k.1.ε<Y.i\/(k.1=Y.v/\(k.2.ε<s\/k.2∈l.ϣ (i+1))) ↔ (k.1.ε<Y.i\/(k.1=Y.v/\(k.2.ε<s\/k.2∈l.ϣ i)))\/k=(Y.v,K)
  rw[wG hK,Zd,JI,or_assoc];refine or_congr_right ⟨λh=>h.2.ι (λq=>.nb ⟨h.1,.nb q⟩) λq=>q.ι (λq=>.nb ⟨h.1,.u8 q⟩) λq=>.u8 (qbg h.1 q),λh=>h.ι (λh=>⟨h.1,h.2.imp id .nb⟩) λe=>by rw[e];exact⟨rfl,.u8 (.u8 rfl)⟩⟩
 ·exact h.ι (λh=>υ (zl.1▸h) (J3 _)) λh=>h.2.ι (λh=>hKs▸JL h) λh=>JC (((H.mem w).mp (Z4 h)).1.ν hKs.Μ)
 ·exact h.ι (λh=>θ.lt_asymm zl.2 h) λh=>Y.vz h.1.Μ
abbrev D5:Sm:=.fo [9] Qb (.ϧ (.f8 (.bi 126922498794852)) [zbO]) UU
def sw4:ej.ϥ/\(∀w∈ej,w.ε<3)/\∀s,s<3->(ej.Ϡ λw=>decide (w.ε=s)).ε<=4:=by decide+kernel
def Ih(hd:6<=d)(O:Gf Y)(hs:s<3)(P:OT Y (Lz Y s) (12*Y.i+4*s) st):∃st',OT Y (Lz Y (s+1)) (12*Y.i+4*(s+1)) st'/\exec (ah P0 d) D5 (Lx Y (vN s) st.b) st.g=Qa ((.nx,Lx Y (vN s) st'.b),st'.g):=by
 refine xEE P.r.a.ny λe es cw=>?_;refine xE cw λks H=>?_;have nk:(ks.Ϡ λk=>decide (k.ε=s)).ϥ:=H.nd.Ϡ _;have hm:∀k,k∈ks.Ϡ (λk=>decide (k.ε=s)) ↔ k.ε=s/\∃a,st.Ad (Y.v,k)=Qa a:=λk=>by
  rw[ZO,H.mem,Ϫ,and_comm]
 obtain⟨el,hl⟩:=zY (cs:=ej.Ϡ λw=>decide (w.ε=s)) (ks:=ks.Ϡ λk=>decide (k.ε=s)) (sw4.1.Ϡ _) nk (λk=>(st.Ad (Y.v,k)).Ψ) λk=>by
  rw[hm,ZO,Ϫ,Zj];exact⟨λh=>⟨⟨h.2.ι λa q=>P.ky _ a q,h.1⟩,h.2⟩,λh=>⟨h.1.2,h.2⟩⟩
 have f1:=Pg (d:=d) (Y:=Y) (s:=s) (z:=st.b) H (Jm P.hc (Jm (Jp (J8 _ (JL (SP O hs (j:=0) (by decide)))) 1) (Jm (JL O.O.cl) (by decide))):st.c<=100000)
 generalize ks.Ϡ (λk=>decide (k.ε=s))=kl at nk hm el hl f1
 have hl:kl.ε<=4:=Jm hl (sw4.2.2 s hs);have pm:=tT (f:=ab.Υ) kl;have L:OSL Y s (yE ab.Υ kl) st:=by
  refine⟨pm.nodup_iff.Ϩ nk,λk=>?_,λk hk=>?_,pm.IO▸hl⟩
  ·rw[pm.re,hm]
  ·exact((hm k).mp (pm.re.mp hk)).2.ι λa q=>P.ky _ a q
 have f2:=RA (h:=st.g++[.ξ (kl.ς ab.Υ)]) (ah P0 d) (f:=ab.Υ) (x:=.ο st.g.ε) (kvL ak) (Jm hl (by decide)) (.nb ⟨Qe,λ_=>⟨rfl,rfl⟩⟩)
 generalize yE ab.Υ kl=l at L f2
 have lt1:st.g.ε<=(st.g++[ae.ξ (kl.ς ab.Υ)]).ε:=by rw[Ju];exact Jq _ _
 have no1:∀{D:θ}{A:ζ θ->η θ}{V:ζ θ->ζ R.α},RW jU R Y.X.h st.g D Y.X.M.aa.ε st.c A V->¬zS D A (st.g++[ae.ξ (kl.ς ab.Υ)]).ε:=λS w=>(S.fb w).ι λo e=>Zs.Ϩ lt1 (jS e);obtain⟨s',I,e⟩:=RE (c:=ah P0 d) (h:=st.g) (tg:=[9]) (many:=Qb) (e:=.ϧ (.f8 (.bi 126922498794852)) [zbO]) (b:=UU) (vs:=l.ς ab.Υ) (a:=(st.g++[ae.ξ (kl.ς ab.Υ)]).ε) (λs':QS R=>Lx Y (vN s) s'.b) QS.g (OSI Y s l ⟨st.g++[.ξ (kl.ς ab.Υ)]++[.ξ (l.ς ab.Υ)],st.2⟩) ⟨st.g++[.ξ (kl.ς ab.Υ)]++[.ξ (l.ς ab.Υ)],st.2⟩
  (by rw[Js];exact Jm L.n (by decide)) rfl (λi s2 I=>(I.m.kp _ _ (no1 P.r.a) (no1 P.r.b) ak).1) (by exact j2 (.p (f1)<|.p (f2)<|.z (cg (.ο (st.g++[ae.ξ (kl.ς ab.Υ)]).ε) (st.g++[.ξ (kl.ς ab.Υ)]++[.ξ (l.ς ab.Υ)]))) (by kernel_rfl)) ⟨(P.cu.cu).fw (Jv _) (λk h=>h.imp id λh=>⟨h.1,.nb h.2⟩) λk h=>.nb (h.imp id λh=>⟨h.1,h.2.ι id λh=>υ h JE⟩),KO.rfl'⟩ λi v s2 R' R1 hv I T=>Ig (s1:=⟨st.g++[.ξ (kl.ς ab.Υ)]++[.ξ (l.ς ab.Υ)],st.2⟩) hd O hs ⟨L.nd,L.mem,L.sw,L.n⟩ hv I T
 rw[Js] at I;refine⟨s',I.P.fw (Jm (Jp L.n _) (JC (J6 _ _ _))) (λk h=>?_) (λk h=>?_),e⟩
 ·exact h.imp id λh=>⟨h.1,h.2.ι (λh=>Zu h) λh=>by rw[((L.mem _).mp (Z4 h)).1];exact JT _⟩
 ·rcases h with h| ⟨h0,h⟩
  ·exact .nb (.nb h)
  ·rcases KZ (J7 h) with h|h
   ·exact .nb (.u8 ⟨h0,.nb h⟩)
   ·by_cases q:k.2∈l
    ·exact .nb (.u8 ⟨h0,.u8 (by rw[JW];exact q)⟩)
    ·refine .u8 ?_
     have hA:s'.Ad (Y.v,k.2)=none:=by
      cases hA:s'.Ad (Y.v,k.2) with
      |none=>rfl
      |some a=>exact υ ((L.mem k.2).Ϩ ⟨h,I.m.nw k.2 (JC h) ⟨a,hA⟩⟩) q
     have:=I.P.r.a.nj k.2 hA
     rw[show k=(Y.v,k.2) from qbg h0 rfl];exact this
abbrev GO:Sm:=.fo [8] Qb (.ϧ (.f8 (.ty 491260897125)) [.ew .Ϯ (.Λ 2) (.f8 (.φ 1))]) [D5]
def zbH(hd:6<=d)(O:Gf Y)(P:OT Y (Lz Y 0) (12*Y.i) st):∃st',OT Y (Lz Y 3) (12*Y.i+12) st'/\exec (ah P0 d) GO (Lx Y st.a st.b) st.g=Qa ((.nx,Lx Y st'.a st'.b),st'.g):=by
 have eN:Lx Y st.a st.b=Qa (.ο Y.X.L.m)::Qa (.Υ Y.u)::Qa (.φ (2:θ))::Qa (.ai (112+R.i))::Qa Y.X.ov::Qa (.ο Y.D)::vN Y.i::Qa (.ο Y.E)::st.a::st.b::nn 8:=by unfold Lx;rw[O.n2]
 obtain⟨s',P',e⟩:=lm (c:=ah P0 d) (x:=8) (n:=3) (e:=.ϧ (.f8 (.ty 491260897125)) [.ew .Ϯ (.Λ 2) (.f8 (.φ 1))]) (b:=[D5]) (λs':QS R=>Lx Y s'.a s'.b) QS.g (λi s'=>OT Y (Lz Y i) (12*Y.i+4*i) s') st
  (by decide) rfl (by rw[eN];exact j2 (.c2<|.z (cg (.gb (3:θ)) st.g)) (by kernel_rfl)) P λi s' R1 _ hi P1 T1=>by
   refine xEA (Ih hd O hi P1) λs2 P2 e=>?_;exact jT (.s e<|.z (T1.nx ⟨s2.1,s2.2.1,s2.2.2.1,s2.2.2.2.1,vN i,s2.2.2.2.2.2⟩ P2.vb)) rfl
 exact⟨s',P',e⟩
end
section
variable{X:PX R}{E:Nat}{st:QS R}
theorem Gf.to(O:Gf ⟨X,u,i,D,E⟩)(h:i'<=u.ε):Gf ⟨X,u,i',D',E'⟩:=⟨O.O,O.V,h,O.hu,O.sw,O.ws,O.cl2,O.n2,O.c36⟩
def ORd(X:PX R)(u:ζ θ)(i D:θ)(s:QS R):Prop:=RW jU R X.h s.g D X.M.aa.ε s.c (λw=>s.Ad (u.ϣ i,w)) (λw=>s.V (u.ϣ i,w))/\s.c<=1+12*i*(X.M.ax+1)/\(∀k:WW,i<=k.1.ε->∀x∈s.V k,R.D (X.p*(sz k+1)) (X.k*(sz k+1)+s.c) x)/\(∀k a,s.Ad k=Qa a->k.2∈ej)/\(∀t∈ej,nL (T:=jC) X.cs (λk=>k.1.ε<i) (Bt X.M (u,t)) s.V=X.W (u,t))/\∀k:WW,k.1≠u.ϣ i->s.V k=jV R X.M.aa.ε/\s.Ad k=Qc
section
variable{X:PX R}{u:List Nat}{i D:Nat}{s:QS R}(ψ:ORd X u i D s)
def ORd.r:=@ψ.1
def ORd.hc:=@ψ.2.1
def ORd.dg:=@ψ.2.2.1
def ORd.ky:=@ψ.2.2.2.1
def ORd.w:=@ψ.2.2.2.2.1
def ORd.ot:=@ψ.2.2.2.2.2
end
def zD{x:R.α}{l:ζ R.α}(e:l=jV R N)(hx:x∈l):R.D p k x:=by
 rw[e] at hx;rw[Zc hx];exact R.ag (JF _) (JF _) R.bx
def zbl(pre:∃t,g=h++t){A:ζ θ->η θ}{V:ζ θ->ζ R.α}(hA:∀k,A k=Qc)(hV:∀k,V k=jV R N):RW jU R h (g++[.Χ (Qa 0) []]) g.ε N c A V:=by
 obtain⟨t,rfl⟩:=pre;exact⟨⟨_,JB ..⟩,by rw[Ju];exact Jq _ _,⟨_,_,ak,λp hp=>υ hp JE,JF _,λk=>by rw[hA];rfl⟩,λk _ a e=>af ((hA k).Μ.ν e),λk a e=>af ((hA k).Μ.ν e),λk a e=>af ((hA k).Μ.ν e),λk _=>hV k,λk=>by rw[hV];exact zlen,⟨_,_,ak,.ϟ⟩⟩
def ORd.go(O:Gf ⟨X,u,i,D,st.g.ε⟩)(P:ORd X u i D st):OT ⟨X,u,i,D,st.g.ε⟩ (Lz ⟨X,u,i,D,st.g.ε⟩ 0) (12*i) ⟨st.g++[.Χ (Qa 0) []],st.2⟩:=by
 have zl:=O.zl;have hz:∀{x:ζ θ}{w:ζ θ},x≠u.ϣ i->st.V (x,w)=jV R X.M.aa.ε/\st.Ad (x,w)=none:=λn=>P.ot _ n;have no:∀k,Lz ⟨X,u,i,D,st.g.ε⟩ 0 k->k.1.ε<i:=λk h=>h.ι id λh=>υ h.2 (Zb _);refine⟨⟨P.r.cu,zbl P.r.Ch (λw=>(hz (OX.vz _).Μ).2) (λw=>(hz (OX.vz _).Μ).1),λx w q=>?_⟩,P.hc,λk hk=>P.dg k (Zs.mp λq=>hk (.nb q)),λk hk x hx=>zD (P.ot k λe=>Ke (no k hk) ((χ ZP e).ν zl.1)).1 hx,P.ky,λt ht=>?_,λk h _=>(P.ot k h).1⟩
 ·refine(P.r.fb w).ι λo e=>q.ι (λq=>J3 _ (q▸jS e)) λq=>q.ι λk q=>af ((hz (OX.vz _).Μ).2.Μ.ν q)
 ·rw[oA (λh=>Zs.Ϩ O.hi (no _ h)),R.ui,<-P.w t ht]
  exact UP (T:=jC) λc _=>⟨no c,.nb⟩
abbrev nxQ(X:PX R)(u:ζ θ)(i:θ)(st:QS R):QS R:= ⟨st.1,λk=>if k.1=u.ϣ (i+1) then st.Ad k else Qc,λk=>if k.1=u.ϣ (i+1) then st.V k else jV R X.M.aa.ε,st.2.2.2⟩
def OT.Ϭ(O:Gf ⟨X,u,i,D,E⟩)(hi:i<u.ε)(P:OT ⟨X,u,i,D,E⟩ (Lz ⟨X,u,i,D,E⟩ 3) (12*i+12) st):ORd X u (i+1) E (nxQ X u i st):=by
 have zl:=O.zl;have ez:OX.z ⟨X,u,i,D,E⟩=u.ϣ (i+1):=OX.z_next hi;have b:=P.r.b;rw[ez] at b;have lz:∀{k:WW},k.1=u.ϣ (i+1)->k.1.ε=i+1:=λe=>by rw[e,ZC,ZD hi]
 have nd:∀k:WW,i+1<=k.1.ε->¬Lz ⟨X,u,i,D,E⟩ 3 k:=λk h q=>q.ι (λq=>J3 _ (Zp q h)) λq=>by
  have:=χ ZP q.1
  rw[zl.1] at this;rw[this] at h;exact J3 _ h
 refine⟨?_,P.hc,λk hk x hx=>?_,λk a h=>?_,λt ht=>?_,λk h=>⟨π h,π h⟩⟩
 ·show RW jU R X.h st.g E X.M.aa.ε st.c (λw=>if u.ϣ (i+1)=u.ϣ (i+1) then st.Ad (u.ϣ (i+1),w) else Qc) (λw=>if u.ϣ (i+1)=u.ϣ (i+1) then st.V (u.ϣ (i+1),w) else jV R X.M.aa.ε)
  simp only[ρ rfl];exact b
 ·have hx:x∈if k.1=u.ϣ (i+1) then st.V k else jV R X.M.aa.ε:=hx
  by_cases q:k.1=u.ϣ (i+1)
  ·rw[ρ q] at hx;exact P.dg k (nd k hk) x hx
  ·rw[π q] at hx;exact zD rfl hx
 ·have h:(if k.1=u.ϣ (i+1) then st.Ad k else Qc)=Qa a:=h
  by_cases q:k.1=u.ϣ (i+1)
  ·rw[ρ q] at h;exact P.ky k a h
  ·rw[π q] at h;cases h
 ·have w:=P.w t ht
  have w:R.Ϯ (nL (T:=jC) X.cs (Lz ⟨X,u,i,D,E⟩ 3) (Bt X.M (u,t)) st.V) (s7 X (Lz ⟨X,u,i,D,E⟩ 3) st.V (u,t))=X.W (u,t):=w;rw[oA (nd (u,t) hi),R.ui] at w;rw[<-w];refine lS λk hk=>?_;have k3:=sw4.2.1 _ (O.ws k hk);by_cases q:k.1.ε<i+1
  ·rw[ρ q]
   by_cases q':Lz ⟨X,u,i,D,E⟩ 3 k
   ·rw[ρ q']
   ·rw[π q',P.ot k (λe=>q' (.u8 ⟨e,k3⟩)) (λe=>Zs.Ϩ zl.2 (e▸q)),kH]
  ·rw[π q,π (nd k (Zs.mp q))]
   show jM (if k.1=u.ϣ (i+1) then st.V k else jV R X.M.aa.ε) _ 0=_;by_cases q':k.1=u.ϣ (i+1)
   ·rw[ρ q']
   ·rw[π q',P.ot k (λe=>q (by rw[e,zl.1];exact JT _)) (λe=>q' (e.ν ez))]
def OT.fe(O:Gf ⟨X,u,u.ε,D,E⟩)(P:OT ⟨X,u,u.ε,D,E⟩ (Lz ⟨X,u,u.ε,D,E⟩ 3) b st){t:ζ θ}(ht:t∈ej):jM (st.V (u,t)) (eh X.M) 0=X.W (u,t):=by
 have w:=P.w t ht;have w:R.Ϯ (nL (T:=jC) X.cs (Lz ⟨X,u,u.ε,D,E⟩ 3) (Bt X.M (u,t)) st.V) (s7 X (Lz ⟨X,u,u.ε,D,E⟩ 3) st.V (u,t))=X.W (u,t):=w;have ev:u=OX.v ⟨X,u,u.ε,D,E⟩:=JW.Μ;rw[oW (.u8 ⟨ev,sw4.2.1 t ht⟩),oO (T:=jC) λc hc h=>?_,R.Ϛ] at w
 ·exact w
 ·have:Bt X.M (u,t) c=λ_=>R.Ι:=funext λs=>by
   have n:c.1.Sc u=false:=by
    refine Ε.eq_false_iff.Ϩ λq=>?_;have q:=ζ.ϡ.mp q;have e:=q.eq_of_length (KC q.length_le (Zs.mp λq=>h (.nb q)));exact h (.u8 ⟨e.ν ev,sw4.2.1 _ (O.ws c hc)⟩)
   delta Bt pre;rw[n];rfl
  rw[this,uB]
abbrev RSt(R:Rg):=θ×η ab×η ab×QS R
section
variable{R:Rg}(ψ:RSt R)
abbrev RSt.D:=ψ.1
abbrev RSt.a:=ψ.2.1
abbrev RSt.b:=ψ.2.2.1
abbrev RSt.q:=ψ.2.2.2
end
abbrev rFr(X:PX R)(u:ζ θ)(s:RSt R):Ρ.Θ:=Qa (.ο X.L.m)::Qa (.Υ u)::Qa (.φ X.N)::Qa (.ai (112+R.i))::Qa X.ov::Qa (.ο s.D)::s.a::s.b::s.q.a::s.q.b::nn 8
abbrev yF:ζ Sm:=[.fm (.nm 7) (.Χ []),GO,.ite (.ft .eq (.Λ 6) (.ϧ (.f8 (.bi 7103854)) [.Λ 1])) [.brk] [],.fm (.nm 5) (.Λ 7)]
abbrev rr(X:PX R)(u:ζ θ)(i D E:θ)(a b:η ab):Ρ.Θ:=Qa (.ο X.L.m)::Qa (.Υ u)::Qa (.φ X.N)::Qa (.ai (112+R.i))::Qa X.ov::Qa (.ο D)::vN i::Qa (.ο E)::a::b::nn 8
def CR{E:θ}{a b a0:η ab}(e:exec (ah P0 d) GO (rr X u i D E a0 b0) g=Qa ((.nx,rr X u i D E a b),g2))(T1:i=u.ε->R' .bk (rr X u i D E a b) g2)(T2:i≠u.ε->R' .nx (rr X u i E E a b) g2):bz (ah P0 d) (yF.bn 1) (rr X u i D E a0 b0) g R':=by
 refine rY ((i:Τ)==(u.ε:Τ)) (λq=>?_) λq=>?_
 ·exact jT (.s (e)<|.c<|.k (tc (i:Τ) (u.ε:Τ))<|.t (q)<|.z (T1 (Yz.dL (eq_of_beq q)))) (by kernel_rfl)
 ·exact jT (.s (e)<|.c<|.k (tc (i:Τ) (u.ε:Τ))<|.f (q)<|.z (T2 (λe=>by rw[e,ϫ] at q;cases q))) (by kernel_rfl)
def Pe{s0:RSt R}(hd:6<=d)(O:Gf ⟨X,u,0,s0.D,0⟩)(P:ORd X u 0 s0.D s0.q):∃D E st,OT ⟨X,u,u.ε,D,E⟩ (Lz ⟨X,u,u.ε,D,E⟩ 3) (12*u.ε+12) st/\exec (ah P0 d) (.fo [6] Qb (.ϧ (.f8 (.ty 491260897125)) [.ew .Ϯ (.ϧ (.f8 (.bi 7103854)) [.Λ 1]) (.f8 (.φ 1))]) yF) (rFr X u s0) s0.q.g=Qa ((.nx,Lx ⟨X,u,u.ε,D,E⟩ st.a st.b),st.g):=by
 have hu:u.ε<=2:=by have:=O.hu;rw[O.n2] at this;exact this
 have w:WS (ah P0 d) (.fo [6] Qb (.ϧ (.f8 (.ty 491260897125)) [.ew .Ϯ (.ϧ (.f8 (.bi 7103854)) [.Λ 1]) (.f8 (.φ 1))]) yF) (rFr X u s0) s0.q.g λfl f g=>fl=.nx/\∃D E st,OT ⟨X,u,u.ε,D,E⟩ (Lz ⟨X,u,u.ε,D,E⟩ 3) (12*u.ε+12) st/\f=Lx ⟨X,u,u.ε,D,E⟩ st.a st.b/\g=st.g:=by
  refine LG (n:=u.ε+1) (rFr X u) (λs=>s.q.g) (λi s=>i<=u.ε/\ORd X u i s.D s.q) (Jt (Zf hu) (by decide:3<200000)) (Jm (Zf hu) (by decide)) s0 ?_ (λi s R' hi P1 T=>?_) λs h=>υ h.1 (Ys _)
  ·exact(show WE (ah P0 d) _ _ s0.q.g λv g=>v=.gb (u.ε+1:θ)/\g=s0.q.g from by exact j2 (.c3<|.z (wM u.ε s0.q.g)) (by kernel_rfl)).Ν λv g q=>⟨q.1,rfl,q.2,JF _,P⟩
  ·obtain⟨hi,P1⟩:=P1
   have O1:Gf ⟨X,u,i,s.D,s.q.g.ε⟩:=O.to hi;obtain⟨s2,P2,e⟩:=zbH hd O1 (P1.go O1);have tail:bz (ah P0 d) (yF.bn 1) (rr X u i s.D s.q.g.ε s.q.a s.q.b) (s.q.g++[.Χ (Qa 0) []]) R':=CR e (λei=>by
    subst ei;exact T.bk (Lx ⟨X,u,u.ε,s.D,s.q.g.ε⟩ s2.a s2.b) s2.g ⟨rfl,s.D,s.q.g.ε,s2,P2,rfl,rfl⟩) λn=>T.nx ⟨s.q.g.ε,vN i,Qa (.ο s.q.g.ε),nxQ X u i s2⟩ ⟨ZI hi n,P2.Ϭ O1 (ZI hi n)⟩
   refine mR (a:=yF.ϣ 1) (b:=yF.bn 1) ?_;exact jT (.c<|.z (mY tail)) (by kernel_rfl)
 obtain⟨⟨fl,f⟩,g,e,rfl,D,E,st,P',rfl,rfl⟩:=W.xL w;exact⟨D,E,st,P',e⟩
end
section
variable{st:QS R}{l:List (List Nat)}
abbrev QU:=θ×(ζ (ab×ab))×η ab×η ab
section
variable(ψ:QU)
abbrev QU.ep:=ψ.1
abbrev QU.es:=ψ.2.1
abbrev QU.b:=ψ.2.2.1
abbrev QU.v:=ψ.2.2.2
end
abbrev Oc(st:QS R)(l:ζ (ζ θ))(s:QU):MH:=st.g++[.Χ (Qa s.ep) s.es,.ξ (l.ς ab.Υ)]
abbrev uoF(Y:OX R)(st:QS R)(s:QU):Ρ.Θ:=Qa (.ο Y.X.L.m)::Qa (.Υ Y.u)::Qa (.φ Y.X.N)::Qa (.ai (112+R.i))::Qa Y.X.ov::Qa (.ο Y.D)::vN Y.i::Qa (.ο Y.E)::st.a::s.b::vR st.g.ε::s.v::nn 6
abbrev uoB:ζ Sm:=[.fm (.nm 11) (.ϧ (.f8 (.ai 127)) [.Λ 0,.wr (.Λ 5) (.Λ 9)]),.ite (.ft .ne (.Λ 11) (.aq (.Λ 3) lr)) [.fm (.sb (.Λ 10) (.Λ 9)) (.Λ 11)] []]
abbrev Yw(Y:OX R)(w:ζ θ):R.α:=Y.X.W (Y.u,w)
def Ny(Y:OX R)(b:θ)(st:QS R):Prop:=Gf Y/\OT Y (Lz Y 3) b st/\Y.i=Y.u.ε/\b<=Y.X.cs.ε/\∀t∈ej,jM (st.V (Y.v,t)) (eh Y.X.M) 0=Yw Y t
section
variable{Y:OX R}{b:Nat}{st:QS R}(ψ:Ny Y b st)
def Ny.O:=@ψ.1
def Ny.P:=@ψ.2.1
def Ny.ei:=@ψ.2.2.1
def Ny.hb:=@ψ.2.2.2.1
def Ny.f:=@ψ.2.2.2.2
end
def Ny.Op(hd:4<=d)(F:Ny Y b st){t:ζ θ}(ht:t∈ej)(hA:st.Ad (Y.v,t)=Qa a)(hg:∃t,g=st.g++t):jJ (ah P0 d) (.ai 127) [.ο Y.X.L.m,.ο a] g=Qa (R.e (Yw Y t),g):=by
 obtain⟨t',rfl⟩:=hg;have S:RW jU R Y.X.h (st.g++t') Y.D Y.X.M.aa.ε st.c (λw=>st.Ad (Y.v,w)) (λw=>st.V (Y.v,w)):=F.P.r.a.cu;have hz:sz (Y.v,t)+2<=2*Y.X.N+2:=JN (Jm (JH (F.O.O.am _ (F.O.sw t ht Y.i)).1 (F.O.O.am _ (F.O.sw t ht Y.i)).2) (JC (KV _).Μ)) 2;have bd:=(yO (n:=sz (Y.v,t)) F.O.O.pp F.O.O.kk (Jm F.P.hc (Jp (J8 _ F.hb) 1):st.c<=Y.X.cl) (Jm (JH (JD 4 (JD _ hz)) (JN (JD _ hz) _)) F.O.O.bd)).2.2
 have:=fn (P:=P0) rfl (vT (Q:=λv g=>v=_/\g=_) hd (S.mx F.O.O.I) (S.LT t a hA) (S.am t) (F.P.de (Y.v,t) (.u8 ⟨rfl,sw4.2.1 t ht⟩)) F.O.O.G.ed bd ⟨rfl,rfl⟩)
 rw[Le (o:=0) (b:=eh Y.X.M) ((S.am t).ν F.O.O.I.du.Μ) λs x hx=>by unfold eh;rw[ZK,hx];rfl,F.f t ht] at this;exact this
def zaX{v:ab}{s:QU}(hd:4<=d)(F:Ny Y b st)(nd:l.ϥ)(n60:l.ε<=60)(hm:∀k∈l,k∈ej/\∃a,st.Ad (Y.v,k)=Qa a)(hv:(l.ς ab.Υ)[i]?=Qa v)(I:s.es=uJ jU (Yw Y) (l.ϣ i))(T:To (uoF Y st) (Oc st l) (λs=>s.es=uJ jU (Yw Y) (l.ϣ (i+1))) R1 R'):
  Wo (mQ (uoF Y st s) [9] Qb v) λfr1=>bz (ah P0 d) uoB fr1 (Oc st l s) R':=by
 rw[JA] at hv;refine xEA (Za.mp hv) λK hK cw=>?_;refine eqE cw ?_;have hm:=hm K (Jr hK);refine xE hm.2 λa hA=>?_;refine xEEAAA F.P.r.a.dd λep es hDd hKy _ hdg=>?_;have f1:=sd (jA (t:=[.Χ (Qa s.ep) s.es,.ξ (l.ς ab.Υ)]) hDd) (mX (T:=jU) hKy) ((hdg K).ν (by rw[hA];rfl):jO es (jU.v K)=Qa (.ο a));have f2:=F.Op (g:=Oc st l s) hd hm.1 hA ⟨_,rfl⟩;have st1:=US (T:=jU) (W:=Yw Y) hK;refine rY (!@decide (Yw Y K=R.Ι) (R.gi _ _)) (λhq=>?_) λhq=>?_
 ·rw[hq,na] at st1
  have f3:=L3 (h:=Oc st l s) (v:=R.e (Yw Y K)) (a:=st.g.ε) (mU (j:=0)) (I▸mX (T:=jU) (k:=K) (yH (T:=jU))) (I▸by
   show ((((l.ϣ i).Ϡ _).ς _).ε)<bc;rw[Js];exact Jt (Jm (ZL _ _) (Jm (ζ.Tu _ _) n60)) (by decide))
  have e3:(Oc st l s).ϩ st.g.ε (.Χ (bif (jO s.es (jU.v K)).Ψ then Qa s.ep else(Qa s.ep).ς (· +1)) (mK s.es (jU.v K) (R.e (Yw Y K))))=Oc st l ⟨s.ep+1,s.es++[(jU.v K,R.e (Yw Y K))],Qa (jU.v K),Qa (R.e (Yw Y K))⟩:=by
   delta mK;rw[(I▸UT (T:=jU) (z4 nd hK):jO s.es (jU.v K)=Qc)];exact Hi (j:=0)
  rw[e3] at f3;refine kP ?_;exact jT (.v (f1)<|.p (f2)<|.w (R.no)<|.k (R.qn (Yw Y K) R.Ι)<|.t (hq)<|.h (f3)<|.z (T.nx ⟨s.ep+1,s.es++[(jU.v K,R.e (Yw Y K))],Qa (jU.v K),Qa (R.e (Yw Y K))⟩ (by show s.es++_=_;rw[I,st1]))) (by kernel_rfl)
 ·rw[hq,ϯ,Zi] at st1
  refine kP ?_;exact jT (.v (f1)<|.p (f2)<|.w (R.no)<|.k (R.qn (Yw Y K) R.Ι)<|.f (hq)<|.z (T.nx ⟨s.1,s.2.1,Qa (jU.v K),Qa (R.e (Yw Y K))⟩ (I.ν st1.Μ))) (by kernel_rfl)
abbrev uoL:Sm:=.fo [9] Qb (.ϧ (.f8 (.bi 126922498794852)) [.Λ 5]) uoB
def Ob(hd:4<=d)(F:Ny Y b st):∃s l,pA jU (Yw Y) ej s.es/\exec (ah P0 d) uoL (uoF Y st ⟨0,[],st.b,Qc⟩) (st.g++[.Χ (Qa 0) []])=Qa ((.nx,uoF Y st s),Oc st l s):=by
 refine xEE F.P.r.a.ny λe es cw=>?_;refine xE cw λks H=>?_;obtain⟨el,hl⟩:=zY (cs:=ej) (ks:=ks) sw4.1 H.nd (λk=>(st.Ad (Y.v,k)).Ψ) λk=>by
  rw[H.mem,Zj];exact⟨λh=>⟨h.ι λa q=>F.P.ky _ a q,h⟩,λh=>h.2⟩
 have hl:ks.ε<=60:=Jm hl (by decide);have pm:=tT (f:=ab.Υ) ks;have f2:=RA (h:=st.g++[.Χ (Qa 0) []]) (ah P0 d) (f:=ab.Υ) ((kvD (jA H.Hd)).ν (χ Qa H.kq)) hl (.nb ⟨Qe,λ_=>⟨rfl,rfl⟩⟩);have nd:(yE ab.Υ ks).ϥ:=pm.nodup_iff.Ϩ H.nd;have n60:(yE ab.Υ ks).ε<=60:=pm.IO▸hl;have hm:∀k∈yE ab.Υ ks,k∈ej/\∃a,st.Ad (Y.v,k)=Qa a:=λk hk=>((H.mem k).mp (pm.re.mp hk)).ι λa q=>⟨F.P.ky _ a q,a,q⟩;have eo:((yE ab.Υ ks).Ϡ (nz (Yw Y))).TH (ej.Ϡ (nz (Yw Y))):=by
  refine((pm.ν el).Ϡ _).ν (.of_eq (Im λk hk h=>?_));have hA:st.Ad (Y.v,k)=none:=by
   cases q:st.Ad (Y.v,k) with
   |none=>rfl
   |some a=>rw[q] at h;cases h
  have:=F.P.r.a.nj k hA
  rw[<-F.f k hk,show st.V (Y.v,k)=jV R Y.X.M.aa.ε from this,kH]
 generalize yE ab.Υ ks=l at f2 nd n60 hm eo
 rw[Ju,JB] at f2;obtain⟨s',I,e⟩:=RE (c:=ah P0 d) (h:=st.g++[.Χ (Qa 0) []]) (tg:=[9]) (many:=Qb) (e:=.ϧ (.f8 (.bi 126922498794852)) [.Λ 5]) (b:=uoB) (vs:=l.ς ab.Υ) (a:=st.g.ε+1) (uoF Y st) (Oc st l) (λi s=>s.es=uJ jU (Yw Y) (l.ϣ i)) ⟨0,[],st.b,Qc⟩
  (by rw[Js];exact Jm n60 (by decide)) rfl (λi s2 _=>mU (j:=1)) (by exact j2 (.p (f2)<|.z (cg (.ο (st.g.ε+1)) (st.g++[.Χ (Qa 0) [],.ξ (l.ς ab.Υ)]))) (by kernel_rfl)) rfl λi v s2 R' R1 hv I T=>zaX hd F nd n60 hm hv I T
 rw[Js,JW] at I;exact⟨s',l,⟨l,I,eo⟩,e⟩
end
section
variable{w:List Nat}{X:PX R}
def sE:(∀w∈ej,w.ε<=2/\w.ϣ 1∈ej/\∀c∈w,zI c=Qe)/\([]:ζ θ)∈ej:=by decide+kernel
def Cf(hw:w∈ej)(j:θ):w.ϣ j∈ej:=by
 match j with
 |0=>exact sE.2
 |1=>exact(sE.1 w hw).2.1
 |j+2=>rw[ζ.take_of_length_le (Jm (sE.1 w hw).1 (Jz _ _))];exact hw
def z6{k:WW}:k∈lc ↔ k.1∈ej/\k.2∈ej:=by
 delta lc;rw[ζ.mem_flatMap];exact⟨λq=>q.ι λu q=>(JM.mp q.2).ι λl p=>by rw[<-p.2];exact⟨q.1,p.1⟩,λq=>⟨k.1,q.1,JM.Ϩ ⟨k.2,q.2,rfl⟩⟩⟩
def ook(O:ju X)(V:rj X)(N:X.N=2)(cs:X.cs=lc)(hw:w∈ej)(D E:θ):Gf ⟨X,w,0,D,E⟩:=by
 refine⟨O,V,JF _,by rw[show X.N=2 from N];exact(sE.1 w hw).1,λx hx j=>?_,λk hk=>?_,?_,N,?_⟩
 ·show (w.ϣ j,x)∈X.cs
  rw[cs,z6];exact⟨Cf hw j,hx⟩
 ·have hk:k∈X.cs:=hk
  rw[cs,z6] at hk;exact hk.2
 ·have b:X.cl<=3800:=Jm (Jm (Jq _ _) (Jm (Jz _ _) (Jz _ _))) O.bd
  exact Jm (JD 2 b) (by decide)
 ·show 36<=X.cs.ε
  rw[cs,oX.1];decide
abbrev sto(X:PX R):QS R:=⟨sT jU [] X.h X.M,bj (T:=jC) (λ_=>Qc) ([],[]) (Qa (X.h.ε+1)),bj (T:=jC) (λ_=>jV R X.M.aa.ε) ([],[]) (pP X.M),1,Qc,Qc,Qc,Qc,Qc,Qc⟩
def zhl(O:ju X)(h0:(([],[]):WW)∈X.cs)(eW:∀t∈ej,X.W (w,t)=R.lv X.M.jp (Bv X.M w t 0 0 X.M.Ϥ)):ORd X w 0 (X.h.ε+2) (sto X):=by
 refine⟨?_,Jq _ _,λk _ x hx=>?_,λk a h=>?_,λt ht=>?_,λk hk=>⟨jF (T:=jC) (f:=λ_=>jV R X.M.aa.ε) λe=>hk (χ Prod.fst e),jF (T:=jC) (f:=λ_=>Qc) λe=>hk (χ Prod.fst e)⟩⟩
 ·show RW jU R X.h (sT jU [] X.h X.M) (X.h.ε+2) X.M.aa.ε 1 (λw=>bj (T:=jC) (λ_=>Qc) ([],[]) (Qa (X.h.ε+1)) ([],w)) λw=>bj (T:=jC) (λ_=>jV R X.M.aa.ε) ([],[]) (pP X.M) ([],w)
  rw[Gw,Gw];exact DN rfl
 ·have hx:x∈bj (T:=jC) (λ_=>jV R X.M.aa.ε) ([],[]) (pP X.M) k:=hx
  by_cases e:k=([],[])
  ·subst e
   rw[jE (T:=jC)] at hx;rcases Z6 hx with hx|rfl
   ·exact zD rfl hx
   ·exact R.ag (Jm (Jm (Jq _ _) O.pp) (JC (Xh X.p).Μ)) (J4 (Jm (Jm (Jq _ _) O.kk) (JC (Xh X.k).Μ))) O.G.fst
  ·rw[jF (T:=jC) e] at hx
   exact zD rfl hx
 ·have h:bj (T:=jC) (λ_=>Qc) ([],[]) (Qa (X.h.ε+1)) k=Qa a:=h
  by_cases e:k=([],[])
  ·rw[e];exact sE.2
  ·rw[jF (T:=jC) e] at h;cases h
 ·show nL (T:=jC) X.cs (λk=>k.1.ε<0) (Bt X.M (w,t)) (bj (T:=jC) (λ_=>jV R X.M.aa.ε) ([],[]) (pP X.M))=_
  rw[Eb O.G.st];refine(p5 (T:=jC) (V:=λ_=>jV R X.M.aa.ε) O.nd h0 (Zb _) (by rw[(zlen:(jV R X.M.aa.ε).ε=X.M.aa.ε)];exact O.G.st)).ν ?_;rw[oO (T:=jC) λc _ _=>kH,R.ui,eW t ht];rfl
def By(M:Mc R.α)(w:ζ θ)(h g:MH)(a:θ):Prop:=(∃t,g=h++t)/\∃ep es,g[a]?=Qa (.Χ (Qa ep) es)/\pA jU (kf M w) ej es
section
variable{M:Mc R.α}{w:List Nat}{h g:MH}{a:Nat}(ψ:By M w h g a)
def By.Ch:=@ψ.1
def By.Hd:=@ψ.2
end
def Ik(hd:7<=d)(O:ju X)(V:rj X)(N:X.N=2)(cs:X.cs=lc)(hw:w∈ej)(eg:g=X.h)(eW:∀t∈ej,X.W (w,t)=R.lv X.M.jp (Bv X.M w t 0 0 X.M.Ϥ))
  (q:∀g' a ep es,(∃t,g'=X.h++t)->g'[a]?=Qa (.Χ (Qa ep) es)->pA jU (λt=>X.W (w,t)) ej es->Q (.ο a) g'):bz (ah P0 d) (lB.bn 5) (Qa (.ο X.L.m)::Qa (.Υ w)::Qa (.φ X.N)::Qa (.ai (112+R.i))::Qa X.ov::nn 13) g (Ρ.Fin Q):=by
 subst eg;have O0:=ook O V N cs hw (X.h.ε+2) 0;obtain⟨D,E,st,P,e⟩:=Pe (s0:=⟨X.h.ε+2,Qc,Qc,sto X⟩) (d:=d) (Jm (by decide) hd) O0 (zhl O (by rw[cs];exact oX.2.2.2) eW);have O1:Gf ⟨X,w,w.ε,D,E⟩:=O0.to (Jv _);have F:Ny ⟨X,w,w.ε,D,E⟩ (12*w.ε+12) st:=⟨O1,P,rfl,by show _<=X.cs.ε;rw[cs,oX.1];exact Jm (JN (JD 12 (sE.1 w hw).1) 12) (by decide),λt ht=>by have:=P.fe O1 ht;rw[show OX.v ⟨X,w,w.ε,D,E⟩=w from JW];exact this⟩;refine xEEA (Ob (d:=d) (Jm (by decide) hd) F) λs2 l I e2=>?_;have f2:lX (X.h++[ae.ξ [R.e R.Ι],.ξ (((jV R X.M.aa.ε).ϩ X.M.Ϥ X.M.jp).ς R.e)]) (.Χ (Qa 1) [(jU.v [],.ο (X.h.ε+1))])=Qa (.ο (X.h.ε+2),sT jU [] X.h X.M):=by
  delta lX sT pP;rw[JB,Ju];rfl
 exact jT (.p (fn (P:=P0) (d:=d) (h:=X.h) rfl (Vm (Q:=λv g=>v=_/\g=_) (Jm (by decide) hd) O.I O.G.st ⟨rfl,rfl⟩))<|.p (f2)<|.s (e)<|.c<|.s (e2)<|.z ((q _ _ s2.ep s2.es (P.r.a.Ch.ι λt h=>⟨t++[.Χ (Qa s2.ep) s2.es,.ξ (l.ς ab.Υ)],by rw[<-JB,<-h]⟩) (mU (h:=st.g) (j:=0) (t:=[.Χ (Qa s2.ep) s2.es,.ξ (l.ς ab.Υ)])) I:Q (.ο st.g.ε) (Oc st l s2)))) (by kernel_rfl)
def WO(hd:10<=d)(ne:R.da≠R.Ι)(hu:∀u∈us,u∈jm)(I:ao R h L M)(Z:rG us M)(hw:w∈ej):∃a g,jJ (ah P0 d) (.ai 136) [.ο L.m,.Υ w,.φ 2] h=Qa (.ο a,g)/\By M w h g a:=by
 have wf:WF P0 d 136 [.ο L.m,.Υ w,.φ 2] h λv g=>∃a,v=.ο a/\By M w h g a:=by
  refine j7 (K:=9) hd (Qa (.ο L.m)::Qa (.Υ w)::Qa (.φ 2)::nn 15) lB rfl λd' h'=>?_;obtain⟨t,X,S⟩:=CY (d:=d') h' ne hu I Z;obtain⟨v,e0⟩:=b8 (d:=d') (Jm (by decide) h') (sE.1 w hw).2.2 (Jm (sE.1 w hw).1 (by decide)) h;have tail:bz (ah P0 d') (lB.bn 5) (Qa (.ο X.L.m)::Qa (.Υ w)::Qa (.φ X.N)::Qa (.ai (112+R.i))::Qa X.ov::nn 13) X.h (Ρ.Fin λv g=>∃a,v=.ο a/\By M w h g a):=
   Ik (Jm (by decide) h') S.O S.V S.N S.cs hw rfl (λt ht=>S.eW (w,t) (by rw[S.cs,z6];exact⟨hw,ht⟩)) λg' a ep es p1 p2 p3=>⟨a,rfl,S.Ch.ι λt e=>p1.ι λs f=>⟨t++s,by rw[f,e,JB]⟩,ep,es,p2,by rw[S.W] at p3;exact p3⟩
  rw[S.N] at tail;refine mR (a:=lB.ϣ 5) (b:=lB.bn 5) ?_;exact jT (.p (e0)<|.p (fn (P:=P0) (d:=d') (h:=h) rfl (GR (a:=2) (b:=0) (c:=200) (x:=.Υ [108,101,110,103,116,104]) (Jm (by decide) h') (by decide) (by decide) (cg _ _)))<|.v (lU I)<|.p (S.e1)<|.p (S.e2)<|.z (mY tail)) (by kernel_rfl)
 obtain⟨v,g,e,a,rfl,q⟩:=W.xL (l5 (P:=P0) rfl wf);exact⟨a,g,e,q⟩
end
section
variable{w:List Nat}
def FY(hd:11<=d)(ne:R.da≠R.Ι)(hu:∀u∈us,u∈jm)(I:ao R h L M)(Z:rG us M)(hw:w∈ej):∃a g,jJ (ah P0 d) (.ai 140) [.ο L.m,.Υ w,.φ 2] h=Qa (.ο a,g)/\By (M.mapA swA) w h g a:=by
 have wf:WF P0 d 140 [.ο L.m,.Υ w,.φ 2] h λv g=>∃a,v=.ο a/\By (M.mapA swA) w h g a:=by
  refine j7 (K:=10) hd (Qa (.ο L.m)::Qa (.Υ w)::Qa (.φ 2)::nn 9) uZ (by kernel_rfl) λd' h'=>?_;refine(RR (d:=d') (Jm (by decide) h') I Z.g).ι λg1 a=>?_;refine a.2.x.ι λL' b=>?_;refine(ze1 (zfp (L:=L) (w:=w) (d:=d') b.1) a.2 b.1 b.2.1 b.2.2.1).ι λs' c=>?_;refine c.1.x.ι λL2 b2=>?_;obtain⟨o,g2,e,q⟩:=WO (d:=d') (us:=jm) (w:=w) h' ne (λ_ h=>h) b2.2.1 (Z.sw hu) hw;rw[b2.1] at e;exact jT (.p (a.1)<|.s (c.2)<|.p (e)<|.z ((⟨o,rfl,c.1.Ch.ι λt e1=>q.Ch.ι λs e2=>⟨t++s,by rw[e2,e1,JB]⟩,q.Hd⟩:∃a,ab.ο o=.ο a/\By (M.mapA swA) w h g2 a))) (by kernel_rfl)
 obtain⟨v,g,e,a,rfl,q⟩:=W.xL (l5 (P:=P0) rfl wf);exact⟨a,g,e,q⟩
section
variable{T:ji}{V:T.κ->R.α}{l cs:List T.κ}
def Pc{K:T.κ}(hK:nz V K=Qe->K∈l):jO (uJ T V l) (T.v K)=bif nz V K then Qa (R.e (V K)) else none:=by
 have e:jO (uJ T V l) (T.v K)=((l.Ϡ (nz V)).find? ((λp:ab×ab=>gc p.1 (T.v K)) ∘ λk=>(T.v k,R.e (V k)))).ς ((λp:ab×ab=>p.2) ∘ λk=>(T.v k,R.e (V k))):=by
  delta uJ jO;rw[ζ.find?_map,η.map_map]
 refine e.ν ?_;cases hf:(l.Ϡ (nz V)).find? ((λp:ab×ab=>gc p.1 (T.v K)) ∘ λk=>(T.v k,R.e (V k))) with
 |some k=>
  have h1:=KQ hf;have h1:gc (T.v k) (T.v K)=true:=h1;rw[T.eq] at h1;refine eqE (Ο h1) ?_;rw[(ZO.mp (Ko hf)).2];rfl
 |none=>
  cases hn:nz V K with
  |false=>rfl
  |true=>
   exact υ ((T.eq K K).ν (Ζ rfl)) (ζ.find?_eq_none.mp hf K (ZO.Ϩ ⟨hK hn,hn⟩))
def W6(z:Cx){ep:η θ}{K:T.κ}(hx:g[x]?=Qa (.Χ ep es))(O:pA T V cs es)(hK:K∈cs):j1 z (.ο x) jz [T.v K,R.e R.Ι] g g=Qa (R.e (V K),g):=by
 obtain⟨l,rfl,p⟩:=O;refine W.eq (BK hx hx (k:=T.v K) (e:=R.e R.Ι) (mX (T:=T) (k:=K) (yH (T:=T))) ⟨?_,rfl⟩);rw[Pc λh=>(ZO.mp (p.re.Ϩ (ZO.Ϩ ⟨hK,h⟩))).1];cases hn:nz V K with
 |true=>rfl
 |false=>
  have:V K=R.Ι:=Ο (inst:=R.gi _ _) ((Ε.not_eq_false' ..).mp hn)
  rw[this];rfl
def Ek(O:pA T V cs es):es.ε<=cs.ε/\∀v∈es.ς (·.1),∃k∈cs,v=T.v k:=by
 obtain⟨l,rfl,p⟩:=O;delta uJ;refine⟨by rw[Js,p.IO];exact ZL _ _,λv hv=>?_⟩;rw[KU] at hv;refine(JM.mp hv).ι λk q=>⟨k,(ZO.mp (p.re.mp q.1)).1,q.2.Μ⟩
end
end
abbrev fT:ab->MH->Prop:=λv _=>v=.ϝ Qe
def wd7:ζ (ζ θ):=[[],[97],[98],[97,97],[97,98],[98,97],[98,98]]
def BU:(∀w∈wd7,w∈ej/\w.ε<=2/\∀c∈w,zI c=Qe)/\∀w∈ej,w∈wd7:=by decide+kernel
def BV{v:ab}(h:(wd7.ς ab.Υ)[i]?=Qa v):∃w,v=.Υ w/\w∈ej/\pg w:=by
 rw[JA] at h;obtain⟨w,hw,rfl⟩:=Za.mp h;have hm:=BU.1 w (Jr hw);exact⟨w,rfl,hm.1,hm.2.1,hm.2.2⟩
def in7{w:ζ θ}(hg:g[a]?=Qa (.ξ (wd7.ς .Υ)))(hw:w∈wd7):Ua g (.Υ w) (.ο a)=Qa true:=by
 show ba ((j6 g (.ο a)).Η λvs=>xX g (.Υ w) vs) _=_;rw[l8 hg];have e:((wd7.ς ab.Υ).mapM (ku g 7))=Qa (wd7.ς λw=>Ξ.Tn.Υ ⟨w.τ⟩):=rfl;show ba (xX g (.Υ w) (wd7.ς ab.Υ)) _=_;delta xX;rw[e];show ba (Qa ((wd7.ς λw=>Ξ.Tn.Υ ⟨w.τ⟩).any λy=>KF y (.Υ ⟨w.τ⟩))) _=_;rw[show ((wd7.ς λw=>Ξ.Tn.Υ ⟨w.τ⟩).any λy=>KF y (.Υ ⟨w.τ⟩))=Qe from Yu.Ϩ ⟨_,JM.Ϩ ⟨w,hw,rfl⟩,by show ((⟨w.τ⟩:Ξ.be)==⟨w.τ⟩)=Qe;exact ϫ _⟩];rfl
def SA{y:θ}(hx:g[x]?=Qa (.ξ []))(hy:g[y]?=Qa (.ξ [])):kr g (.ο x) (.ο y)=Qa true:=by
 have e:∀{x:θ},g[x]?=Qa (.ξ [])->ku g 8 (.ο x)=Qa (.ξ []):=λ{x} h=>by
  show (j6 g (.ο x)).Η (λvs=>(vs.mapM (ku g 7)).ς Ξ.Tn.ξ)=_;rw[l8 h];rfl
 show ba ((lV g (.ο x)).Η _) ((ku g 8 (.ο x)).Η λp=>(ku g 8 (.ο y)).ς λq=>KF p q)=_;rw[Dc hx,e hx,e hy];rfl
theorem Ef{t:MH}(pre:∃t,g=g0++t):∃t',g++t=g0++t':=pre.ι λt' e=>⟨t'++t,by rw[e,JB]⟩
abbrev XL(R:Rg):=MH×ζ Τ×Mc R.α×Ly×θ×θ×θ×θ×ζ θ
section
variable{R:Rg}(ψ:XL R)
abbrev XL.g0:=ψ.1
abbrev XL.ns:=ψ.2.1
abbrev XL.M:=ψ.2.2.1
abbrev XL.L:=ψ.2.2.2.1
abbrev XL.aW:=ψ.2.2.2.2.1
abbrev XL.aF:=ψ.2.2.2.2.2.1
abbrev XL.aD:=ψ.2.2.2.2.2.2.1
abbrev XL.aU:=ψ.2.2.2.2.2.2.2.1
abbrev XL.u:=ψ.2.2.2.2.2.2.2.2
end
abbrev vF(X:XL R)(b:η ab):Ρ.Θ:=Qa (.fl (X.ns.ς .φ))::Qa (.ai (112+R.i))::Qa (.ο X.L.m)::Qa (.ο X.aW)::Qa (.ο X.aF)::Qa (.Υ X.u)::Qa (.ο X.aD)::Qa (.ο X.aU)::b::nn 6
def OL(us:ζ (ζ θ))(X:XL R):Prop:=R.da≠R.Ι/\ao R X.g0 X.L X.M/\rG us X.M/\pg X.u/\X.u∈ej/\X.g0[X.aW]?=Qa (.ξ (wd7.ς .Υ))/\(∃ep es,X.g0[X.aF]?=Qa (.Χ (Qa ep) es)/\pA jC (Wt X.M) lc es)/\(∃ep es,X.g0[X.aD]?=Qa (.Χ (Qa ep) es)/\pA jU (kf X.M X.u) ej es)/\∃ep es,X.g0[X.aU]?=Qa (.Χ (Qa ep) es)/\pA jU (kf (X.M.mapA swA) X.u) ej es
section
variable{us:List (List Nat)}{X:XL R}(ψ:OL us X)
def OL.ne:=@ψ.1
def OL.I:=@ψ.2.1
def OL.Z:=@ψ.2.2.1
def OL.wu:=@ψ.2.2.2.1
def OL.hu:=@ψ.2.2.2.2.1
def OL.w:=@ψ.2.2.2.2.2.1
def OL.f:=@ψ.2.2.2.2.2.2.1
def OL.d:=@ψ.2.2.2.2.2.2.2.1
def OL.p:=@ψ.2.2.2.2.2.2.2.2
end
abbrev cU:=MH×η ab
section
variable(ψ:cU)
abbrev cU.g:=ψ.1
abbrev cU.b:=ψ.2
end
abbrev w7B:ζ Sm:=[.ite (.ft .ne (.ϧ (.f8 (.ai 106)) [.Λ 2,.Λ 5,.Λ 8]) (.az (.Λ 4) 6776180 [.ay [.Λ 5,.Λ 8],.aq (.Λ 1) lr])) [.ret (.f8 (.ϝ Qb))] [],.ite (.ft .ne (.az (.Λ 6) 6776180 [.Λ 8,.aq (.Λ 1) lr]) (.az (.Λ 4) 6776180 [.ay [.Λ 5,.Λ 8],.aq (.Λ 1) lr])) [.ret (.f8 (.ϝ Qb))] [],.ite (.ft .ne (.az (.Λ 7) 6776180 [.Λ 8,.aq (.Λ 1) lr]) (.az (.Λ 4) 6776180 [.ay [.Λ 8,.Λ 5],.aq (.Λ 1) lr])) [.ret (.f8 (.ϝ Qb))] []]
def eqF{a b:R.α}(e:a=b):(!@decide (a=b) (R.gi a b))=false:=by rw[R.yes e];rfl
theorem N9{X:XL R}(O:OL us X):∃s:cU,(∃t,s.g=X.g0++t)/\exec (ah P0 60) (.fo [8] Qb (.Λ 3) w7B) (vF X Qc) X.g0=Qa ((.nx,vF X s.b),s.g):=
 pb (c:=ah P0 60) (tg:=[8]) (many:=Qb) (a:=X.aW) (e:=.Λ 3) (b:=w7B) (vs:=wd7.ς .Υ) (λs:cU=>vF X s.b) cU.g (λ_ s=>∃t,s.g=X.g0++t) ⟨X.g0,Qc⟩ (by decide) rfl (λi s P=>P.ι λt e=>e▸jA O.w) (qL rfl (cg (.ο X.aW) X.g0)) ⟨[],(Zi _).Μ⟩ λi v s R' R1 hvi P T=>by
  obtain⟨w,rfl,hw,ww⟩:=BV hvi;obtain⟨t,es⟩:=P;obtain⟨t1,f1,_⟩:=zaD (d:=60) (g:=s.g) (by decide) O.ne (es▸O.I.cu) O.Z O.wu ww;have up:∀{a:θ}{o:ae},X.g0[a]?=Qa o->(s.g++t1)[a]?=Qa o:=λe=>jA (es▸jA e);obtain⟨ep1,es1,h1,O1⟩:=O.f;obtain⟨ep2,es2,h2,O2⟩:=O.d;obtain⟨ep3,es3,h3,O3⟩:=O.p;have k1:∀{x y:ζ θ},x∈ej->y∈ej->j1 (ah P0 60) (.ο X.aF) jz [.ay [.Υ x,.Υ y],R.e R.Ι] (s.g++t1) (s.g++t1)=Qa (R.e (Wt X.M (x,y)),s.g++t1):=λ{x y} hx hy=>W6 (T:=jC) (ah P0 60) (K:=(x,y)) (up h1) O1 (z6.Ϩ ⟨hx,hy⟩);have k2:=W6 (T:=jU) (ah P0 60) (K:=w) (up h2) O2 hw;have k3:=W6 (T:=jU) (ah P0 60) (K:=w) (up h3) O3 hw;have z3:=eqF (za9 (M:=X.M) w X.u);refine kP ?_;exact jT (.p (f1)<|.w (R.no)<|.p (k1 O.hu hw)<|.k (R.qn (kf X.M X.u w) (Wt X.M (X.u,w)))<|.f (eqF (a:=kf X.M X.u w) rfl)<|.w (R.no)<|.p (k2)<|.w (R.no)<|.p (k1 O.hu hw)<|.k (R.qn (kf X.M X.u w) (Wt X.M (X.u,w)))<|.f (eqF (a:=kf X.M X.u w) rfl)<|.w (R.no)<|.p (k3)<|.w (R.no)<|.p (k1 hw O.hu)<|.k (R.qn (kf (X.M.mapA swA) X.u w) (Wt X.M (w,X.u)))<|.f (z3)<|.z (T.nx ⟨s.g++t1,Qa (.Υ w)⟩ ⟨t++t1,by rw[es,JB]⟩)) (by kernel_rfl)
abbrev dC:Ex:=.comp (.Λ 9) [9] Qb (.Λ 6) [.ft .jc (.Λ 9) (.Λ 3)]
abbrev fC:Ex:=.comp (.Λ 9) [9] Qb (.Λ 4) [.ft .gt (.ϧ (.f8 (.bi 7168376)) [.ϧ (.f8 (.bi 7103854)) [.wr (.Λ 9) (.f8 (.φ 0))],.ϧ (.f8 (.bi 7103854)) [.wr (.Λ 9) (.f8 (.φ 1))]]) (.f8 (.φ 2))]
def zfM{X:XL R}(O:OL us X){b:η ab}(pre:∃t,g=X.g0++t):eval (ah P0 60) dC (vF X b) g=Qa (.ο g.ε,g++[.ξ []]):=by
 obtain⟨t,rfl⟩:=pre;obtain⟨ep,es,h,O2⟩:=O.d;have K:=Ek O2;refine W.eq (wA (λ_=>Qb) (Jt K.1 (by decide:7<200000)) (Jm K.1 (by decide)) (λ_=>rfl) (qL rfl ⟨rfl,jA h,λv hv acc=>?_,rfl,?_⟩))
 ·obtain⟨k,hk,rfl⟩:=K.2 v hv
  refine sC ((show WE (ah P0 60) _ _ (X.g0++t++[.ξ acc]) (λv h=>v=.ϝ Qb/\h=X.g0++t++[.ξ acc]) from by exact j2 (.b ((Mu (in7 (jA (jA O.w)) (BU.2 k hk)):mP .jc (.Υ k) (.ο X.aW) (X.g0++t++[.ξ acc])=Qa (!Qe)))<|.z (cg (.ϝ Qb) (X.g0++t++[.ξ acc]))) (by kernel_rfl)).Ν λv h q=>?_);obtain⟨rfl,rfl⟩:=q;exact tQ ⟨λhb=>υ hb Zq,λhb=>⟨rfl,rfl⟩⟩
 ·rw[ζ.filter_eq_nil_iff.Ϩ λ_ _=>Zq]
def zfG{X:XL R}(O:OL us X){b:η ab}(pre:∃t,g=X.g0++t):eval (ah P0 60) fC (vF X b) g=Qa (.ο g.ε,g++[.ξ []]):=by
 obtain⟨t,rfl⟩:=pre;obtain⟨ep,es,h,O2⟩:=O.f;have K:=Ek O2;have nq:es.ε<=49:=Jm K.1 (JC oX.1);refine W.eq (wA (λ_=>Qb) (Jt nq (by decide:49<200000)) (Jm nq (by decide)) (λ_=>rfl) (qL rfl ⟨rfl,jA h,λv hv acc=>?_,rfl,?_⟩))
 ·obtain⟨k,hk,rfl⟩:=K.2 v hv
  have hl:=oX.2.2.1 k hk;have hn:¬((2:Τ)<(max k.1.ε k.2.ε:θ)):=YI.Ϩ (Yt.Ϩ (θ.max_le.Ϩ hl));refine sC ((show WE (ah P0 60) _ _ (X.g0++t++[.ξ acc]) (λv h=>v=.ϝ (decide ((2:Τ)<(max k.1.ε k.2.ε:θ)))/\h=X.g0++t++[.ξ acc]) from by exact j2 (.c4<|.q (b9 (ah P0 60) k.1.ε k.2.ε)<|.c<|.z (cg (.ϝ (decide ((2:Τ)<(max k.1.ε k.2.ε:θ)))) (X.g0++t++[.ξ acc]))) (by kernel_rfl)).Ν λv h q=>?_);obtain⟨rfl,rfl⟩:=q;rw[Γ hn];exact tQ ⟨λhb=>υ hb Zq,λhb=>⟨rfl,rfl⟩⟩
 ·rw[ζ.filter_eq_nil_iff.Ϩ λ_ _=>Zq]
def v7{X:XL R}(O:OL us X):bz (ah P0 60) (kU.bn 7) (vF X Qc) X.g0 (Ρ.Fin fT):=by
 obtain⟨s,p1,f1⟩:=N9 O;have f2:=zfM (b:=s.b) O p1;have f3:mP .ne (.ο s.g.ε) (.ο (s.g++[ae.ξ []]).ε) (s.g++[.ξ []]++[.ξ []])=Qa (!Qe):=Ρ.cq (SA (jA ak) ak);have f4:=zfG (b:=s.b) (g:=s.g++[.ξ []]++[.ξ []]) O (Ef (Ef p1));have f5:mP .eq (.ο (s.g++[ae.ξ []]++[ae.ξ []]).ε) (.ο (s.g++[ae.ξ []]++[ae.ξ []]++[ae.ξ []]).ε) (s.g++[.ξ []]++[.ξ []]++[.ξ []]++[.ξ []])=Qa true:=SA (jA ak) ak;exact jT (.s (f1)<|.p (f2)<|.b (f3)<|.c<|.p (f4)<|.b (f5)<|.z ((rfl:Ρ.Fin fT (.rt (.ϝ Qe)) (vF X s.b) (s.g++[.ξ []]++[.ξ []]++[.ξ []]++[.ξ []])))) (by kernel_rfl)
abbrev zh:ζ (ζ θ):=[[97],[],[98]]
variable{ws:List R.α}
def HI(Z:RL R ws)(ns:ζ Τ)(h:MH):bz (ah P0 60) (kU.bn 1) (Qa (.fl (ns.ς .φ))::Qa (.ai (112+R.i))::nn 13) h (Ρ.Fin fT):=by
 have hu:∀u∈zh,u∈jm:=by decide
 refine(zfe (g:=h) (us:=zh) (by decide) hu Z ns 1).ι λM a=>a.2.ι λg1 b=>b.2.ι λL c=>?_;have e1:=b.1;rw[<-c.1] at e1;obtain⟨n,hn,en⟩:=pQ (cell ns 25) (show 0<7 by decide);obtain⟨u,hv,hu7,wu⟩:=BV (Jo (l:=wd7.ς ab.Υ) (i:=n) hn);have I1:ao R (g1++[.ξ (wd7.ς .Υ)]) L M:=c.2.1.cu;obtain⟨aF,g2,f2,P2⟩:=Ic (d:=60) (by decide) Z.ne hu I1 a.1;have up2:∀{x:θ}{o:ae},(g1++[ae.ξ (wd7.ς .Υ)])[x]?=Qa o->g2[x]?=Qa o:=λe=>P2.Ch.ι λt q=>q▸jA e;have I2:ao R g2 L M:=P2.Ch.ι λt q=>q▸I1.cu;have f3:kJ g2 (.ο g1.ε) (.φ n)=Qa (.Υ u):=sl (up2 ak) ((Jo hn).ν (χ Qa hv));obtain⟨aD,g3,f4,P3⟩:=WO (d:=60) (by decide) Z.ne hu I2 a.1 hu7;have I3:ao R g3 L M:=P3.Ch.ι λt q=>q▸I2.cu;obtain⟨aU,g4,f5,P4⟩:=FY (d:=60) (by decide) Z.ne hu I3 a.1 hu7;have up3:∀{x:θ}{o:ae},g2[x]?=Qa o->g3[x]?=Qa o:=λe=>P3.Ch.ι λt q=>q▸jA e;have up4:∀{x:θ}{o:ae},g3[x]?=Qa o->g4[x]?=Qa o:=λe=>P4.Ch.ι λt q=>q▸jA e;have O:OL zh (⟨g4,ns,M,L,g1.ε,aF,aD,aU,u⟩:XL R):=⟨Z.ne,P4.Ch.ι λt q=>q▸I3.cu,a.1,wu,hu7,up4 (up3 (up2 ak)),P2.Hd.ι λep q=>q.ι λes q=>⟨ep,es,up4 (up3 q.1),q.2⟩,P3.Hd.ι λep q=>q.ι λes q=>⟨ep,es,up4 q.1,q.2⟩,P4.Hd⟩;refine mR (a:=(kU.bn 1).ϣ 6) (b:=kU.bn 7) ?_;exact jT (.at ((h++[.ξ (zh.ς .Υ)]))<|.p (e1)<|.at ((g1++[.ξ (wd7.ς .Υ)]))<|.p (f2)<|.q (sU (d:=60) (by decide) ns 25)<|.q (qZ en (by decide))<|.v (f3)<|.p (f4)<|.p (f5)<|.z (mY (v7 O))) (by kernel_rfl)
def zcu(ns:ζ Τ):WF P0 61 178 [.fl (ns.ς .φ)] [] λv _=>v=.ϝ true:=by
 refine AQ (d:=60) (fn:=vP) rfl rfl ?_;show bz (ah P0 60) kU (Qa (.fl (ns.ς .φ))::nn 14) _ _;obtain⟨i,hi,ei⟩:=pQ (cell ns 0) (show 0<5 by decide);have tail:∀h,bz (ah P0 60) (kU.bn 1) (Qa (.fl (ns.ς .φ))::Qa (.ai (112+i))::nn 13) h (Ρ.Fin λv _=>v=.ϝ Qe):=
  oY (C:=λi=>∀h,bz (ah P0 60) (kU.bn 1) (Qa (.fl (ns.ς .φ))::Qa (.ai (112+i))::nn 13) h (Ρ.Fin λv _=>v=.ϝ Qe)) i hi (HI fY ns) (HI fX ns) (HI fW ns) (HI fV ns) (HI fU ns)
 refine mR (a:=kU.ϣ 1) (b:=kU.bn 1) ?_;exact jT (.at ([.ξ [.Υ (jW 0),.Υ (jW 1),.Υ (jW 2),.Υ (jW 3),.Υ (jW 4)]])<|.q (sU (d:=60) (by decide) ns 0)<|.q (qZ ei (by decide))<|.v ((sl (i:=i) rfl (oY (C:=λi=>([.Υ (jW 0),.Υ (jW 1),.Υ (jW 2),.Υ (jW 3),.Υ (jW 4)]:ζ ab)[i]?=Qa (.Υ (jW i))) i hi rfl rfl rfl rfl rfl):kJ [.ξ [.Υ (jW 0),.Υ (jW 1),.Υ (jW 2),.Υ (jW 3),.Υ (jW 4)]] (.ο 0) (.φ i)=Qa (.Υ (jW i))))<|.p ((fn (P:=P0) (d:=60) (h:=[.ξ [.Υ (jW 0),.Υ (jW 1),.Υ (jW 2),.Υ (jW 3),.Υ (jW 4)]]) rfl (zej (Q:=λv g=>v=.ai (112+i)/\g=_) hi (by decide) ⟨rfl,rfl⟩)))<|.z (mY (tail [.ξ [.Υ (jW 0),.Υ (jW 1),.Υ (jW 2),.Υ (jW 3),.Υ (jW 4)]]))) (by kernel_rfl)
def OR(ns:ζ Τ):∃H',mD P0 200000 61 178 [ab.fl (ns.ς ab.φ)] []=Qa (ab.ϝ Qe,H'):=by
 obtain⟨v,h,e,rfl⟩:=W.xL (zcu ns);exact⟨h,e⟩
def Mq{C:bf}{w:Wd}{vs:ζ μ}(h:Jk vs ns):jD C w (ns.ς ab.φ) vs:=by
 induction h with
 |ϟ=>exact .ϟ
 |Κ n t _ ih=>exact .Κ ⟨t,rfl⟩ ih
def sx{p:Qy}{w:Qn}{mb:Ξ.be->η μ}{a:Qj}{vs:ζ μ}{R:WRecords}{as:ζ Qj}(KX:Frag.In (KK w.Φ) s₁.Ω)(ZN:s₀.Ω.wv.pc=nat_lit 782)
  (T:Top p loose mean mg mb s₁.Ω) (hmg:mg (qaQ "law")=Qa (.ο fa)) (L:Laid R w s₀ s₁ [ofPy (YO (YR Xb ns))] [.ο a] as) (hL:s₁.Ω.IsList a vs.τ) (hI:Jk vs ns) (hlen: ¬((63:Τ)<(ns.ε:Τ))) (hg:s₁.gens= #[]):
  Qi (model pw w) callerA (call (.ο fa) [.ο a]) (λv s'=>Je Ξ.Ty.TK.LT.claim (classAt s₀.Ω) (ExcName.means s₀.Ω) [ofPy (YO (YR Xb ns))] s₁ (.ok (.ret v)) s')
   (λe s'=>Je Ξ.Ty.TK.LT.claim (classAt s₀.Ω) (ExcName.means s₀.Ω) [ofPy (YO (YR Xb ns))] s₁ (.error e) s') s₁:=by
 obtain⟨hat,hsz⟩:=script_at L;rw[ZN] at hat hsz;subst hat;obtain⟨so,h1,h2,n,h3⟩:=hL;have e:=mg_of KX T.g (zcv w);have e':mg (qaQ "law")=Qa (.ο S8):=e;rw[hmg] at e';cases e';have X:(gf w so).K.In s₁.Ω:=by
  intro b o hb;have hb':qa3 b ((wJ,so)::KK w.Φ)=Qa o:=hb;rw[ZE] at hb'
  split at hb'
  ·rename_i q
   rw[Β] at q;cases hb';subst q;exact h1
  ·exact KX b o hb'
 have hv:jG (gf w so) ⟨[],[]⟩ (ab.fl (ns.ς ab.φ)) (.ο wJ):=by
  refine⟨wJ,so,n,vs,rfl,⟨?_,h2,h3⟩,Mq hI,?_⟩
  ·show qa3 wJ ((wJ,so)::KK w.Φ)=Qa so
   rw[ZE,ϫ]
  ·rw[Js]
   have:bc=1000000:=rfl
   omega
 obtain⟨H',hr⟩:=OR ns;refine Md (C:=gf w so) (fM w so) X T (by rw[hsz];decide) (f:=zfg) (fa:=S8) (by kernel_rfl) (λfn h=>by
  have e:P0.jn 178=Qa fn:=h;rw[show P0.jn 178=Qa vP from by kernel_rfl] at e;cases e;rfl) hv hr λw' v s' r hk hgs hos=>?_
 have r:v=.ϝ true:=r;subst r;exact GoodW.toG ⟨.nb ⟨.ϝ Qe,.ϝ Qe,[],rfl,λ_=>rfl,.ϝ Qe,by first|kernel_rfl|wrow_post,unshared_nil⟩,hk,hos,hgs.ν hg⟩
end Tactic
end
open PySem PySem.W PySem.W.X PySem.Calls PyProof.Rows
set_option maxHeartbeats 0 in
theorem PySem.Challenge.cw_ui0508_16_holds : PySem.Challenge.rw_ui0508_16.Holds := by
 w_on
 refine holds_law (by
  rw[PySem.W.Fast.te9446332074065402090]
  kernel_rfl) fun said=>?_
 refine holds_openX Tactic.ym (XP:=XL (Tactic.zo Tactic.pw) []) (fun s e=>xl_of s (Bool.and_eq_true_iff.mp e).1) XL.keeps (by rfl) (by rfl) (by rfl) (fun s e=>recFacts_of (Bool.and_eq_true_iff.mp e).2) (by rfl) (by assumption) (by decide+kernel) ⟨rfl,rfl,rfl,rfl,rfl,by decide+kernel⟩ ?hw ?hc
 case hw=>w_witness2
 clear said
 intro w s₀ s₁ mg mb G y fa o pm cd doc dV kV ho hd hcd hD hmg hg args vals as L hpre hlay hrd hwl hlo;have hf:=Tactic.wc y L.keeps
 clear y
 obtain⟨KX,ZN,ZT⟩:=hf;refine Ground.open G ?_;intro T B D TE TW
 wrow_args hpre hlay hrd hwl hlo
 exact Tactic.sx KX ZN T hmg L (by assumption) (by assumption) (by assumption) hg
