/- What the functions come to, in plain numbers, texts and lists; last the law itself. No condition but those that each states. -/
import Derived.Test.YtilcgpcemjeaeaaGreatPExactRunLifeb
set_option linter.unusedVariables false
set_option linter.unusedSimpArgs false
set_option maxRecDepth 100000
open Array renaming toList_extract->ix,toList_append->vE,length_toList->dW
open BitVec renaming toNat->g9,xor->oV,ofInt->dm,and->CM
open Bool renaming false->ak,true->ai,or_eq_true->dM,and_eq_true->aK,or_eq_false_iff->iF,and_self->aJ,not_eq_true'->du,true_and->bm,not_false->bS,not_true->aX,and_assoc->nK,and_true->j4,not_eq_false'->mF,false_or->od,true_or->BD,false_eq_true->dt,cond_eq_ite->ca,false_and->lu
open ByteArray renaming toList->aA,data_extract->gn,data_append->ml,size_extract->yX,size_append->dH,empty_append->lI,append_assoc->Eo,empty->I7,append_empty->qp,size->b8
open Classical renaming byContradiction->BF
open Go.ByteArray renaming toList_eq->kj
open Go.IntKind renaming i64->ao,wrap->bE,u32->eI,u8->ba
open Go.Op renaming bytesLess->b9
open Int renaming neg->Lt,toNat->bc,tmod->cT,tdiv->c7,tmod_eq_emod_of_nonneg->jD,tdiv_eq_ediv_of_nonneg->g7,pow_succ->uR,toNat_natCast->eT,natCast_zero->Xt,tmod_nonneg->Yb,tdiv_nonneg->Ya,le_trans->Bk,tdiv_le_self->Xu
open List renaming length_singleton->bC,length->bK,set->aL,length_map->bR,length_filter_le->eV,nil_append->gG,length_append->cf,map_congr_left->wU,mem_filter->dE,append_assoc->bU,pairwise_append->uS,filter_sublist->jM,singleton_append->uT,pairwise_cons->qu,mem_append->bf,mem_singleton->aZ,filter_cons_of_pos->dA,filter_cons_of_neg->cE,length_cons->dh,beq->cW,take_succ_eq_append_getElem->bQ,filter_append->ij,all_eq_true->bA,getElem_mem->bu,mem_or_eq_of_mem_set->jE,take_set_of_le->wV,drop_set_of_lt->wS,drop_eq_nil_of_le->gW,append_nil->cu,take_length->dv,filter_eq_self->eJ,getElem_of_mem->c_,take->gY,drop->m9,drop_zero->eN,take_append_of_le_length->oZ,take_of_length_le->fX,getElem_take->nk,pairwise_map->kA,mem_map->cw,filter_map->oY,map_map->kl,map_append->cQ,filter_congr->jo,range->ch,getD->gg,pairwise_iff_getElem->dz,length_set->cO,length_drop->iC,drop_eq_getElem_cons->di,cons_append->sZ,extract_eq_take_drop->g8,drop_drop->vM,take_append_drop->vO,length_take->eE,drop_append_of_le_length->Cb,drop_of_length_le->Jp,filter_filter->pG,takeWhile_map->P_,dropWhile_map->P9,find?_eq_none->Yc,find?_eq_some_iff_getElem->BH,find?_some->G3,takeWhile_cons_of_pos->qd,takeWhile_cons_of_neg->qc,foldl_cons->EI,length_nil->jN,drop_length->cD,foldl_nil->Yd,mem_of_find?_eq_some->I9,length_pos_iff->NV,getD_eq_getElem?_getD->d_,getElem?_eq_getElem->dK,ext_getElem->jO,getElem_set_self->kD,set_getElem_self->fy,set_set->pI,nodup_iff_pairwise_ne->pH,mem_cons_self->dL,mem_append_left->bW,length_tail->BI,mem_append_right->bO,findIdx?_eq_none_iff->FE,findIdx?_eq_some_iff_getElem->yY,pairwise_singleton->I_,find?_cons_of_neg->Lu,foldl_append->zN,mem_range->kV,nodup_append->eB,nodup_cons->kE,mem_cons->cB,getElem_set->Ts,sum_append->mD,take_zero->Jq
open List.Pairwise renaming filter->Ca,nil->gZ
open List.cons renaming inj->ki
open Nat renaming lt_irrefl->bg,le_refl->cJ,zero_le->bk,sub_zero->oN,zero_add->bT,le_trans->dc,le_succ->jr,sub_self->vP,le_succ_of_le->m_,add_sub_cancel->Ru,lt_or_ge->qQ
open Option renaming some->ah,none->aj,map_some->jc
open Option.some renaming inj->aF
open Prod.mk renaming inj->bV
open UInt8 renaming lt_iff_toNat_lt->sQ,ofNat->aP,toNat_ofNat'->Od
open _root_ renaming List->az,UInt8->Jd,decide_eq_true_eq->bj,absurd->cS,decide_eq_false_iff_not->fg,ByteArray->aq,Int->aw,Bool->aY,Nat->aC,decide_true->aM,cond_true->au,cond_false->ax,decide_false->a_,Option->ay,decide_eq_false->aG,decide_eq_true->aE,if_pos->bB,if_neg->bH,congrArg->lH,decide_eq_decide->cg,of_decide_eq_true->cF,eq_comm->JY,of_decide_eq_false->oK,bne_self_eq_false->da
namespace Go.FG
open Lib (zK HS all_congr jS o_ C9 fT rK eU fE xJ fF gi mO n6 Dq OB xQ jU nF uB ck DP lS iq rc0 rc1 rc2 rc3 rc4 rc5 rc6 fc KJ XR XS ed dr dQ RJ Lc gL XT eD pL kO lT Ea tW oU yQ GI oa Ei yR qM qN tZ nJ bZ Ro wd0 wd1 wd2 pF r_ sa sb I1 GM wf2 Bh RM RN)
variable {R:Type}
namespace lG
theorem oP:∀x:az Jd,b9 x x=ak
 |[]=>rfl
 |a::x=>by
  have h:¬a<a:=by rw[sQ];omega
  simp[b9,oP x,h]
theorem pb:∀x y z:az Jd,b9 x y=ai->b9 y z=ai->b9 x z=ai
 |_,[],_,h,_=>by cases ‹az Jd›<;>simp[b9]at h
 |_,_::_,[],_,h=>by simp[b9]at h
 |[],_::_,_::_,_,_=>by simp[b9]
 |a::x,b::y,c::z,h1,h2=>by
  simp only[b9,dM,aK,bj,beq_iff_eq]at h1 h2⊢;simp only[sQ]at h1 h2⊢;rcases h1 with h1|⟨rfl,h1⟩
  ·rcases h2 with h2|⟨rfl,h2⟩
   ·left;omega
   ·left;exact h1
  ·rcases h2 with h2|⟨rfl,h2⟩
   ·left;exact h2
   ·right;exact⟨rfl,pb x y z h1 h2⟩
theorem TN:∀x y:az Jd,b9 x y=ak->x≠y->b9 y x=ai
 |[],[],_,h=>cS rfl h
 |[],_::_,h,_=>by simp[b9]at h
 |_::_,[],_,_=>by simp[b9]
 |a::x,b::y,h,hn=>by
  simp only[b9,iF,Bool.and_eq_false_iff,fg,beq_eq_false_iff_ne]at h;simp only[b9,dM,aK,bj,beq_iff_eq];obtain⟨h1,h2⟩:=h;by_cases he:a=b
  ·subst he;right;refine⟨rfl,TN x y ?_ (λe=>hn (by rw[e]))⟩
   rcases h2 with h2|h2
   ·exact cS rfl h2
   ·exact h2
  ·left;rw[sQ]at h1⊢;have:a.toNat≠b.toNat:=λe=>he (UInt8.toNat_inj.1 e);omega
def key(y:az CV):az Jd:=aA (bz (y.getD 0 (.b ak)))
def lt(y z:az CV):Prop:=b9 (key y) (key z)=ai
def cr(y:az CV):az CV:=[CV.s (bz (y.getD 0 (.b ak))),CV.i ao (bF (y.getD 1 (.b ak))),CV.i ao (bF (y.getD 2 (.b ak))),CV.s (bz (y.getD 3 (.b ak)))]
def nw(k:aq)(s l:aw)(b:aq):az CV:=[CV.s k,CV.i ao s,CV.i ao l,CV.s b]
def pl(k:aq)(y:az CV):aY:=b9 (key y) (aA k)
def pg(k:aq)(y:az CV):aY:= !(b9 (key y) (aA k)||List.beq (key y) (aA k))
def val(r:aQ)(k:aq)(s l:aw)(b:aq):aQ:=(r.filter (pl k)).map cr++[nw k s l b]++(r.filter (pg k)).map cr
theorem ok(r:aQ)(k:aq)(s l:aw)(b0:aq)(hl:r.length<=1048576):c r k s l b0=ai/\v r k s l b0=val r k s l b0:=by
 refine out r k s l b0 ?_;unfold vo;have hw:∀i,i<r.length->br ((i:aw)+1)=((i+1:aC):aw):=λi h=>Lib.c5 h (by omega)
 have ayF:=λ(akS:aQ) (ha:akS.length<=2000000)=>xQ (pg k) cr r 2000000
  (λm (i:aC) (acc:aQ)=>l9 Lib.cy (λ(_:aQ) (_:aw) (_:aq) (_ _:aw) (_:aq) (Jj:aQ)=>ah Jj) m r (i:aw) k s l b0 acc) (λacc=>ah acc)
  (λm i acc h h2 hp=>by
   have mB:(!(b9 (aA (bz (ar r i 0))) (aA k)||List.beq (aA (bz (ar r i 0))) (aA k)))=true:=by rw[Lib.cG h];exact hp
   simp only[l9,r9,Lib.de,h,aM,Lib.cz,aJ,au,Lib.dU,mB,hw i h,Lib.iU,bC,Lib.cm (n:=acc.length+1) (b:=48) (by omega) (by omega)];have e:[CV.s (bz (ar r i 0)),CV.i ao (bF (ar r i 1)),CV.i ao (bF (ar r i (1+1))),CV.s (bz (ar r i (1+1+1)))]=cr r[i]:=by rw[Lib.cG h,Lib.cG h,Lib.cG h,Lib.cG h];rfl
   rw[e])
  (λm i acc h h2 hp=>by
   have mB:(!(b9 (aA (bz (ar r i 0))) (aA k)||List.beq (aA (bz (ar r i 0))) (aA k)))=false:=by rw[Lib.cG h];exact hp
   simp only[l9,r9,Lib.de,h,aM,Lib.cz,aJ,au,Lib.dU,mB,ax,hw i h])
  (λm acc=>by simp only[l9,r9,Lib.de,bg,a_,ax]) Lib.cy akS ha (ck (by omega))
 have gP:=xQ (pl k) cr r 0
  (λm (i:aC) (acc:aQ)=>l3 Lib.cy (λ(y7:aQ) (_:aw) (y9:aq) (Lf wJ:aw) (Nn:aq) (I4:aQ)=>bif(cC (bK I4+bK (aL (aN [Ck.s,Ck.i ao,Ck.i ao,Ck.s] 1) 0 [CV.s y9,CV.i ao Lf,CV.i ao wJ,CV.s Nn])) 48)then(l9 Lib.cy (λ(_:aQ) (_:aw) (_:aq) (_ _:aw) (_:aq) (Jj:aQ)=>ah Jj) Lib.cy y7 0 y9 Lf wJ Nn (I4++aL (aN [Ck.s,Ck.i ao,Ck.i ao,Ck.s] 1) 0 [CV.s y9,CV.i ao Lf,CV.i ao wJ,CV.s Nn]))else(aj)) m r (i:aw) k s l b0 acc)
  (λacc=>bif(cC (bK acc+1) 48)then(l9 Lib.cy (λ(_:aQ) (_:aw) (_:aq) (_ _:aw) (_:aq) (Jj:aQ)=>ah Jj) Lib.cy r 0 k s l b0 (acc++[nw k s l b0]))else aj)
  (λm i acc h h2 hp=>by
   have mB:b9 (aA (bz (ar r i 0))) (aA k)=true:=by rw[Lib.cG h];exact hp
   simp only[l3,r3,Lib.de,h,aM,Lib.cz,aJ,au,Lib.dU,mB,hw i h,Lib.iU,bC,Lib.cm (n:=acc.length+1) (b:=48) (by omega) (by omega)];have e:[CV.s (bz (ar r i 0)),CV.i ao (bF (ar r i 1)),CV.i ao (bF (ar r i (1+1))),CV.s (bz (ar r i (1+1+1)))]=cr r[i]:=by rw[Lib.cG h,Lib.cG h,Lib.cG h,Lib.cG h];rfl
   rw[e])
  (λm i acc h h2 hp=>by
   have mB:b9 (aA (bz (ar r i 0))) (aA k)=false:=by rw[Lib.cG h];exact hp
   simp only[l3,r3,Lib.de,h,aM,Lib.cz,aJ,au,Lib.dU,mB,ax,hw i h])
  (λm acc=>by simp only[l3,r3,Lib.de,bg,a_,ax];rfl) Lib.cy [] (cJ _) (ck (by omega))
 unfold b;refine gP.trans ?_;have hf:((r.filter (pl k)).map cr).length<=r.length:=by rw[bR];exact eV _ _
 rw[gG,Lib.cm (by omega) (by omega),au];exact ayF _ (by rw[cf,bC];omega)
def Or(r:aQ):Prop:=r.Pairwise lt/\∀y∈r,cr y=y
theorem Iu{r:aQ}(h:∀y∈r,cr y=y)(q:az CV->aY):(r.filter q).map cr=r.filter q:=by have:=wU (l:=r.filter q) (f:=cr) (g:=λz=>z) (λy hy=>h y (dE.1 hy).1);rw[this];exact List.map_id _
theorem xX{r:aQ}(h:Or r)(k:aq)(s l:aw)(b:aq):Or (val r k s l b)/\(val r k s l b).length<=r.length+1:=by
 unfold val;rw[Iu h.2,Iu h.2];have hg:∀y,pg k y=ai->b9 (aA k) (key y)=true:=by intro y hy;unfold pg at hy;simp only[du,iF]at hy;refine TN _ _ hy.1 (λe=> ?_);have:=hy.2;rw[e,Lib.qA]at this;cases this
 refine⟨⟨?_, ?_⟩, ?_⟩
 ·rw[bU,uS];refine⟨h.1.sublist jM, ?_, ?_⟩
  ·rw[uT,qu];exact⟨λy hy=>hg y (dE.1 hy).2,h.1.sublist jM⟩
  ·intro y hy z hz;have h1:b9 (key y) (aA k)=true:=(dE.1 hy).2;rcases bf.1 hz with q|q
   ·rw[aZ.1 q];exact h1
   ·exact pb _ _ _ h1 (hg z (dE.1 q).2)
 ·intro y hy;rcases bf.1 hy with q|q
  ·rcases bf.1 q with q|q
   ·exact h.2 y (dE.1 q).1
   ·rw[aZ.1 q];rfl
  ·exact h.2 y (dE.1 q).1
 ·have hlen:∀r:aQ,(r.filter (pl k)).length+(r.filter (pg k)).length<=r.length:=by
   intro r;induction r with
   |nil=>exact cJ _
   |cons y r ih=>
    have hx:pl k y=ai->pg k y=false:=by intro h;unfold pl at h;unfold pg;rw[h];rfl
    cases h1:pl k y with
    |true=>rw[dA h1,cE (by rw[hx h1];simp)];simp only[dh];omega
    |false=>
     rw[cE (by simp[h1])];cases h2:pg k y with
     |true=>rw[dA h2];simp only[dh];omega
     |false=>rw[cE (by simp[h2])];simp only[dh];omega
  have:=hlen r;simp only[cf,bC];omega
end lG

namespace na
def p(s:aQ)(k:aq)(i:aC):aY:=cW (aA (bz (ar s i 0))) (aA k)
theorem ok(d:aQ)(n:aq)(hl:d.length<=4294967296):c d n=ai/\v d n=Lib.fi (p d n) d.length 0:=by
 refine out d n ?_;unfold vo b;refine n6 (p d n) d.length (λm (i:aC)=>l2 Lib.cy (λ(_:aQ) (_:aq) (y7 _ _:aw)=>ah y7) (λ(_:aQ) (_:aq) (_ _ _:aw)=>ah (-1)) m d n 0 (d.length:aw) (i:aw)) ah (λm i hi hp=> ?_) (λm i hi hp=> ?_) (λm=> ?_) Lib.cy (ck (by omega))
 ·unfold p at hp;simp only[l2,r2,Lib.de,Lib.cz,Lib.dU,hi,aM,aJ,au,BV.v,hp]
 ·unfold p at hp;simp only[l2,r2,Lib.de,Lib.cz,Lib.dU,hi,aM,aJ,au,BV.v,hp,ax,Lib.c5 hi (by omega:d.length<=9223372036854775807)]
 ·simp only[l2,r2,Lib.de,bg,a_,ax]
end na

namespace o8
def cn(y:az CV):aY:=match y with|[.s _, .i .i64 _, .i .i64 _, .s _]=>ai|_=>ak
def cr(y:az CV):az CV:=[CV.s (bz (y.getD 0 (.b ak))),CV.i ao (bF (y.getD 1 (.b ak))),CV.i ao (bF (y.getD 2 (.b ak))),CV.s (bz (y.getD 3 (.b ak)))]
theorem tp{y:az CV}(h:cn y=ai):cr y=y:=by
 unfold cn at h;split at h
 ·rfl
 ·cases h
theorem mg{y:az CV}(h:cn y=ai):y.length=4:=by rw[<-tp h];rfl
def keep(d:aq)(y:az CV):aY:= !List.beq (aA (bz (y.getD 0 (.b ak)))) (aA d)
theorem ik(d:aq){s:aQ}{i:aC}(h:i<s.length):(s.take (i+1)).filter (keep d)=(s.take i).filter (keep d)++(bif keep d s[i]then [s[i]]else []):=by rw[bQ h,ij];cases hk:keep d s[i]<;>simp[hk]
theorem run(N:aC)(s0:aQ)(d:aq)(hc:s0.all cn=ai)(hn:s0.length<=9223372036854775807)(K:aq->aw->aw->aQ->ay R)(kr:aQ->ay R)
  (hK:∀(j:aC) x,x.length=s0.length->j<=s0.length->K d j s0.length x=kr (x.take j)) (m j i:aC) (x:aQ)
  (hi:j<i/\i<=s0.length/\x.length=s0.length/\(∀y∈x,y.length=4)/\x.take j=(s0.take i).filter (keep d)/\x.drop i=s0.drop i) (hm:s0.length-i<m):
  l5 N K m d j i x=kr (s0.filter (keep d)):=by
 have Ml:∀y∈s0,cn y=true:=bA.1 hc
 refine Lib.dB (λm (s:aC×aC×aQ)=>l5 N K m d s.1 s.2.1 s.2.2) (λs=>s0.length-s.2.1)
  (λs=>s.1<s.2.1/\s.2.1<=s0.length/\s.2.2.length=s0.length/\(∀y∈s.2.2,y.length=4)/\s.2.2.take s.1=(s0.take s.2.1).filter (keep d)/\s.2.2.drop s.2.1=s0.drop s.2.1)
  (λ_=>kr (s0.filter (keep d))) (λm s hs=> ?_) m (j,i,x) hi hm
 obtain⟨j,i,x⟩:=s;obtain⟨h1,h2,h3,h4,h5,h6⟩:=hs;simp only at h1 h2 h3 h4 h5 h6⊢;by_cases fP:i<s0.length
 ·right;have oq:i<x.length:=by omega
  have Ii:j<x.length:=by omega
  have hx:x[i]=s0[i]:=by have e1:=Lib.dG oq;have e2:=Lib.dG fP;rw[h6,e2]at e1;exact(ki e1).1.symm
  have hd:x.drop (i+1)=s0.drop (i+1):=by have e1:=Lib.dG oq;have e2:=Lib.dG fP;rw[h6,e2]at e1;exact(ki e1).2.symm
  have Mn:=Ml _ (bu fP);have hf:=ik d fP;cases hk:keep d s0[i]with
  |true=>
   refine⟨(j+1,i+1,x.set j s0[i]), ?_,by simp only;omega,trivial, ?_⟩
   ·rw[hk,au,<-h5]at hf;refine⟨by simp only;omega,by simp only;omega,by simpa using h3, ?_, ?_, ?_⟩
    ·intro y hy;rcases jE hy with h|h
     ·exact h4 y h
     ·rw[h];exact mg Mn
    ·rw[hf];rw[bQ (by simpa using Ii)];simp[wV]
    ·simp only;rw[wS (by omega)];exact hd
   ·have e:BV.v (bz (ar x i 0)) (bF (ar x i 1)) (bF (ar x i (1+1))) (bz (ar x i (1+1+1))) d=false:=by
     have:(!BV.v (bz (ar x i 0)) (bF (ar x i 1)) (bF (ar x i (1+1))) (bz (ar x i (1+1+1))) d)=true:=by rw[Lib.cG oq,hx];exact hk
     simpa using this
    have es:cK x j 0 [CV.s (bz (ar x i 0)),CV.i ao (bF (ar x i 1)),CV.i ao (bF (ar x i (1+1))),CV.s (bz (ar x i (1+1+1)))]=x.set j s0[i]:=by
     have hl:=h4 _ (bu Ii);rw[Lib.CG Ii,Lib.cG oq,Lib.cG oq,Lib.cG oq,Lib.cG oq,hx];have:dS x[j] 0 (cr s0[i])=s0[i]:=by rw[tp Mn];unfold dS;have:=mg Mn;simp[hl,this,gW]
     unfold cr at this;rw[this]
    have b1:(j:aw)<(x.length:aw):=by omega
    simp only[l5,r5,Lib.de,Lib.cz,Lib.dU,oq,Ii,aM,bm,au,e,bS,es,Lib.c5 fP hn,Lib.c5 (show j<s0.length by omega) hn]
  |false=>
   refine⟨(j,i+1,x), ?_,by simp only;omega,trivial, ?_⟩
   ·rw[hk,ax,cu,<-h5]at hf;exact⟨by simp only;omega,by simp only;omega,h3,h4,hf.symm,hd⟩
   ·have e:BV.v (bz (ar x i 0)) (bF (ar x i 1)) (bF (ar x i (1+1))) (bz (ar x i (1+1+1))) d=true:=by
     have:(!BV.v (bz (ar x i 0)) (bF (ar x i 1)) (bF (ar x i (1+1))) (bz (ar x i (1+1+1))) d)=false:=by rw[Lib.cG oq,hx];exact hk
     simpa using this
    simp only[l5,r5,Lib.de,Lib.cz,Lib.dU,oq,aM,bm,au,e,aX,ax,Lib.c5 fP hn]
 ·left;have:i=s0.length:=by omega
  subst this;rw[dv]at h5;have e:=hK j x h3 (by omega);rw[h5]at e;have oq:¬s0.length<x.length:=by omega
  simp only[l5,r5,Lib.de,oq,a_,ax,e]
theorem ok(s0:aQ)(iS:aq)(hc:s0.all cn=ai)(hn:s0.length<=4294967296):c s0 iS=ai/\v s0 iS=s0.filter (keep iS):=by
 refine out s0 iS ?_;have hv:=na.ok s0 iS hn;unfold vo b;rw[hv.1,hv.2,au];rcases Lib.ph (na.p s0 iS) s0.length 0 with ⟨h,nS⟩|⟨k,_,zA,hk,Mr,Mk⟩
 ·rw[h];have:s0.filter (keep iS)=s0:=by rw[eJ];intro y hy;obtain⟨i,hi,rfl⟩:=c_ hy;have:=nS i (bk _) (by omega);unfold na.p at this;rw[Lib.cG hi]at this;unfold keep;rw[this];rfl
  rw[this];rfl
 ·rw[hk];have Fb:k<s0.length:=by omega
  have iy:decide ((k:aw)=Lt 1)=false:=aG (by show¬(k:aw)= -1;omega);rw[iy,ax,Lib.c5 Fb (by omega)];have Ml:∀y∈s0,cn y=true:=bA.1 hc;refine run _ s0 iS hc (by omega) _ ah (λj x hx hj=> ?_) _ k (k+1) s0 ⟨by omega,by omega,rfl,λy hy=>mg (Ml y hy), ?_,rfl⟩ (ck (by omega))
  ·have b1:iA (j:aw) (s0.length:aw) (s0.length:aw)=true:=by simp[iA];omega
   have e:gY j x++aN [Ck.s,Ck.i ao,Ck.i ao,Ck.s] (s0.length-j)++m9 s0.length x=gY j x++aN [Ck.s,Ck.i ao,Ck.i ao,Ck.s] (s0.length-j):=by rw[gW (by omega),cu]
   have hl:(gY j x).length=j:=by simp;omega
   simp only[hx,Lib.dU,b1,au,e];rw[Lib.qC (by simp[iA];omega)];unfold e8;rw[show bc 0=0 from rfl,eN,oN,oZ (by omega),fX (by omega)]
  ·rw[ik iS Fb];have e1:keep iS s0[k]=false:=by unfold na.p at Mr;rw[Lib.cG Fb]at Mr;unfold keep;rw[Mr];rfl
   have e2:(s0.take k).filter (keep iS)=s0.take k:=by
    rw[eJ];intro y hy;obtain⟨i,hi,rfl⟩:=c_ hy;have XL:i<k:=by simp at hi;omega
    have:=Mk i (bk _) XL;unfold na.p at this;rw[Lib.cG (by omega)]at this;rw[nk];unfold keep;rw[this];rfl
   rw[e1,e2,ax,cu]
end o8

namespace gm
open Lib (re En)
def fm(x y:aq):aY:=b9 (aA x) (aA y)
def So(en:az En):Prop:=en.Pairwise λx y=>fm x.k y.k=ai
def fY(en:az En)(k:aq):az En:=en.filter λx=> !decide (x.k=k)
def m7(en:az En)(e:En):az En:=en.filter (λx=>fm x.k e.k)++[e]++en.filter (λx=> !(fm x.k e.k||decide (x.k=e.k)))
theorem So.drop{en:az En}(h:So en)(k:aq):So (fY en k):=Ca _ h
theorem xI(en:az En)(k:aq):(fY en k).length<=en.length:=eV ..
theorem drop_nil{en:az En}(h:∀e∈en,1<=e.k.size):fY en ⟨#[]⟩=en:=by unfold fY;rw[eJ];intro e he;have:=h e he;simp only[du,fg];intro e2;rw[e2]at this;exact cS this (by decide)
theorem DT{en:az En}(h:So en):lG.Or (re en):=by
 constructor
 ·unfold Lib.re;rw[kA];exact h
 ·intro y hy;unfold Lib.re at hy;obtain⟨z,_,rfl⟩:=cw.1 hy;rfl
theorem tN(en:az En)(e:En):lG.val (re en) e.k e.st e.li e.bo=re (m7 en e):=by
 unfold lG.val m7 Lib.re;rw[oY,oY,kl,kl,cQ,cQ];have e1:(lG.pl e.k∘En.row)=λx:En=>fm x.k e.k:=rfl;have e2:(lG.pg e.k∘En.row)=λx:En=> !(fm x.k e.k||decide (x.k=e.k)):=by funext x;show(!(b9 (aA x.k) (aA e.k)||List.beq (aA x.k) (aA e.k)))=_;rw[Lib.fw];rfl
 rw[e1,e2];rfl
theorem H4(en:az En)(k:aq):(re en).filter (o8.keep k)=re (fY en k):=by unfold Lib.re fY;rw[oY];congr 1;apply jo;intro x _;show(!List.beq (aA x.k) (aA k))=_;rw[Lib.fw]
theorem TX(en:az En):(re en).all o8.cn=true:=by rw[bA];intro y hy;unfold Lib.re at hy;obtain⟨z,_,rfl⟩:=cw.1 hy;rfl
theorem rU(en:az En)(e:En)(h:So en):(m7 en e).length<=en.length+1:=by have:=(lG.xX (DT h) e.k e.st e.li e.bo).2;rw[tN,dr,dr]at this;exact this
end gm

namespace gQ
def el(r:aQ)(i:aC):aY:=decide (1<=((bz (ar r i 0)).size:aw)/\((bz (ar r i 0)).size:aw)<=8)&&(!decide (((bz (ar r i 1)).size:aw)>20000)&&(decide (0<=bF (ar r i 2)/\bF (ar r i 2)<=((bz (ar r i 1)).size:aw))&&(i==0||Go.Op.bytesLess (aA (bz (ar r (i-1) 0))) (aA (bz (ar r i 0))))))
def val(r:aQ):aY:=decide (r.length<=30)&&(ch r.length).all (el r)
theorem mT(n a b:aw):kq.v n a b=decide (a<=n/\n<=b):=by unfold kq.v;by_cases h:a<=n<;>by_cases h2:n<=b<;>simp[h,h2]
theorem Ek{i:aC}(h:0<i)(hn:i<=9223372036854775807):br ((i:aw)-1)=((i-1:aC):aw):=by rw[bZ (by omega) (by omega)];omega
theorem ok(r:aQ)(hl:r.length<=4294967296):c r=ai/\v r=val r:=by
 refine out r ?_;unfold vo b val;by_cases h30:(r.length:aw)>30
 ·rw[aE h30,au,aG (show¬r.length<=30 by omega)];rfl
 rw[aG h30,ax,aE (show r.length<=30 by omega),bm]
 have key:=jS (el r) r.length (λm (i:aC)=>l4 Lib.cy (λ(y3:aY) (_:aw) (_:aQ)=>ah y3) (λ(_:aY) (_:aw) (_:aQ)=>ah ai) m ak (i:aw) r) (ah ak) (ah ai)
  (λm i hi hp=>by
   unfold el at hp;simp only[aK]at hp;obtain⟨h1,h2,h3,h4⟩:=hp;have h3:decide (0<=bF (ar r i (1+1))/\bF (ar r i (1+1))<=((bz (ar r i 1)).size:aw))=true:=h3;have h2:decide (((bz (ar r i 1)).size:aw)>20000)=false:=by simpa using h2
   by_cases hz:0<i
   ·have e0:decide ((i:aw)>0)=true:=aE (by omega);have mB:i-1<r.length:=by omega
    have h5:b9 (aA (bz (ar r (i-1) 0))) (aA (bz (ar r i 0)))=true:=by
     rcases dM _ _▸h4 with q|q
     ·have:i=0:=by simpa using q
      omega
     ·exact q
    simp only[l4,r4,Lib.de,hi,mB,aM,Lib.cz,aJ,au,ax,Lib.dU,qe.v,mT,h1,h2,h3,h5,e0,Ek hz (by omega),aX,Lib.c5 hi (by omega:r.length<=9223372036854775807)]
   ·have e0:decide ((i:aw)>0)=false:=aG (by omega);simp only[l4,r4,Lib.de,hi,aM,Lib.cz,aJ,au,ax,Lib.dU,qe.v,mT,h1,h2,h3,e0,aX,Lib.c5 hi (by omega:r.length<=9223372036854775807)])
  (λm i hi hp=>by
   unfold el at hp;cases h1:decide (1<=((bz (ar r i 0)).size:aw)/\((bz (ar r i 0)).size:aw)<=8)with
   |false=>simp only[l4,r4,Lib.de,hi,aM,Lib.cz,aJ,au,ax,Lib.dU,qe.v,mT,h1,bS]
   |true=>
   cases h2:decide (((bz (ar r i 1)).size:aw)>20000)with
   |true=>simp only[l4,r4,Lib.de,hi,aM,Lib.cz,aJ,au,ax,Lib.dU,qe.v,mT,h1,h2,aX]
   |false=>
   cases h3:decide (0<=bF (ar r i (1+1))/\bF (ar r i (1+1))<=((bz (ar r i 1)).size:aw))with
   |false=>simp only[l4,r4,Lib.de,hi,aM,Lib.cz,aJ,au,ax,Lib.dU,qe.v,mT,h1,h2,h3,aX,bS]
   |true=>
   rw[h1,h2,show decide (0<=bF (ar r i 2)/\bF (ar r i 2)<=((bz (ar r i 1)).size:aw))=ai from h3,bS,bm,bm,bm]at hp;rw[iF]at hp;obtain⟨h4,h5⟩:=hp;have hz:0<i:=by
    have:¬i=0:=by simpa using h4
    omega
   have e0:decide ((i:aw)>0)=true:=aE (by omega);have mB:i-1<r.length:=by omega
   simp only[l4,r4,Lib.de,hi,mB,aM,Lib.cz,aJ,au,ax,Lib.dU,qe.v,mT,h1,h2,h3,h5,e0,Ek hz (by omega),aX,bS])
  (λm=>by simp only[l4,r4,Lib.de,bg,a_,ax]) Lib.cy (ck (by omega))
 refine key.trans ?_;cases (ch r.length).all (el r)<;>rfl
end gQ

namespace nc
def p(s:aQ)(k:aq)(i:aC):aY:=cW (aA (bz (ar s i 0))) (aA k)
theorem ok(d:aQ)(n:aq)(hl:d.length<=4294967296):c d n=ai/\v d n=Lib.fi (p d n) d.length 0:=by
 refine out d n ?_;unfold vo b;refine n6 (p d n) d.length (λm (i:aC)=>l2 Lib.cy (λ(_:aQ) (_:aq) (y7 _ _:aw)=>ah y7) (λ(_:aQ) (_:aq) (_ _ _:aw)=>ah (-1)) m d n 0 (d.length:aw) (i:aw)) ah (λm i hi hp=> ?_) (λm i hi hp=> ?_) (λm=> ?_) Lib.cy (ck (by omega))
 ·unfold p at hp;simp only[l2,r2,Lib.de,Lib.cz,Lib.dU,hi,aM,aJ,au,B0.v,hp]
 ·unfold p at hp;simp only[l2,r2,Lib.de,Lib.cz,Lib.dU,hi,aM,aJ,au,B0.v,hp,ax,Lib.c5 hi (by omega:d.length<=9223372036854775807)]
 ·simp only[l2,r2,Lib.de,bg,a_,ax]
end nc

namespace xD
def cn(y:az CV):aY:=match y with|[.s _, .s _, .i .i64 _]=>ai|_=>ak
def cr(y:az CV):az CV:=[CV.s (bz (y.getD 0 (.b ak))),CV.s (bz (y.getD 1 (.b ak))),CV.i ao (bF (y.getD 2 (.b ak)))]
theorem tp{y:az CV}(h:cn y=ai):cr y=y:=by
 unfold cn at h;split at h
 ·rfl
 ·cases h
theorem mg{y:az CV}(h:cn y=ai):y.length=3:=by rw[<-tp h];rfl
def keep(d:aq)(y:az CV):aY:= !List.beq (aA (bz (y.getD 0 (.b ak)))) (aA d)
theorem ik(d:aq){s:aQ}{i:aC}(h:i<s.length):(s.take (i+1)).filter (keep d)=(s.take i).filter (keep d)++(bif keep d s[i]then [s[i]]else []):=by rw[bQ h,ij];cases hk:keep d s[i]<;>simp[hk]
theorem run(N:aC)(s0:aQ)(d:aq)(hc:s0.all cn=ai)(hn:s0.length<=9223372036854775807)(K:aq->aw->aw->aQ->ay R)(kr:aQ->ay R)
  (hK:∀(j:aC) x,x.length=s0.length->j<=s0.length->K d j s0.length x=kr (x.take j)) (m j i:aC) (x:aQ)
  (hi:j<i/\i<=s0.length/\x.length=s0.length/\(∀y∈x,y.length=3)/\x.take j=(s0.take i).filter (keep d)/\x.drop i=s0.drop i) (hm:s0.length-i<m):
  l5 N K m d j i x=kr (s0.filter (keep d)):=by
 have Ml:∀y∈s0,cn y=true:=bA.1 hc
 refine Lib.dB (λm (s:aC×aC×aQ)=>l5 N K m d s.1 s.2.1 s.2.2) (λs=>s0.length-s.2.1)
  (λs=>s.1<s.2.1/\s.2.1<=s0.length/\s.2.2.length=s0.length/\(∀y∈s.2.2,y.length=3)/\s.2.2.take s.1=(s0.take s.2.1).filter (keep d)/\s.2.2.drop s.2.1=s0.drop s.2.1)
  (λ_=>kr (s0.filter (keep d))) (λm s hs=> ?_) m (j,i,x) hi hm
 obtain⟨j,i,x⟩:=s;obtain⟨h1,h2,h3,h4,h5,h6⟩:=hs;simp only at h1 h2 h3 h4 h5 h6⊢;by_cases fP:i<s0.length
 ·right;have oq:i<x.length:=by omega
  have Ii:j<x.length:=by omega
  have hx:x[i]=s0[i]:=by have e1:=Lib.dG oq;have e2:=Lib.dG fP;rw[h6,e2]at e1;exact(ki e1).1.symm
  have hd:x.drop (i+1)=s0.drop (i+1):=by have e1:=Lib.dG oq;have e2:=Lib.dG fP;rw[h6,e2]at e1;exact(ki e1).2.symm
  have Mn:=Ml _ (bu fP);have hf:=ik d fP;cases hk:keep d s0[i]with
  |true=>
   refine⟨(j+1,i+1,x.set j s0[i]), ?_,by simp only;omega,trivial, ?_⟩
   ·rw[hk,au,<-h5]at hf;refine⟨by simp only;omega,by simp only;omega,by simpa using h3, ?_, ?_, ?_⟩
    ·intro y hy;rcases jE hy with h|h
     ·exact h4 y h
     ·rw[h];exact mg Mn
    ·rw[hf];rw[bQ (by simpa using Ii)];simp[wV]
    ·simp only;rw[wS (by omega)];exact hd
   ·have e:B0.v (bz (ar x i 0)) (bz (ar x i 1)) (bF (ar x i (1+1))) d=false:=by
     have:(!B0.v (bz (ar x i 0)) (bz (ar x i 1)) (bF (ar x i (1+1))) d)=true:=by rw[Lib.cG oq,hx];exact hk
     simpa using this
    have es:cK x j 0 [CV.s (bz (ar x i 0)),CV.s (bz (ar x i 1)),CV.i ao (bF (ar x i (1+1)))]=x.set j s0[i]:=by
     have hl:=h4 _ (bu Ii);rw[Lib.CG Ii,Lib.cG oq,Lib.cG oq,Lib.cG oq,hx];have:dS x[j] 0 (cr s0[i])=s0[i]:=by rw[tp Mn];unfold dS;have:=mg Mn;simp[hl,this,gW]
     unfold cr at this;rw[this]
    have b1:(j:aw)<(x.length:aw):=by omega
    simp only[l5,r5,Lib.de,Lib.cz,Lib.dU,oq,Ii,aM,bm,au,e,bS,es,Lib.c5 fP hn,Lib.c5 (show j<s0.length by omega) hn]
  |false=>
   refine⟨(j,i+1,x), ?_,by simp only;omega,trivial, ?_⟩
   ·rw[hk,ax,cu,<-h5]at hf;exact⟨by simp only;omega,by simp only;omega,h3,h4,hf.symm,hd⟩
   ·have e:B0.v (bz (ar x i 0)) (bz (ar x i 1)) (bF (ar x i (1+1))) d=true:=by
     have:(!B0.v (bz (ar x i 0)) (bz (ar x i 1)) (bF (ar x i (1+1))) d)=false:=by rw[Lib.cG oq,hx];exact hk
     simpa using this
    simp only[l5,r5,Lib.de,Lib.cz,Lib.dU,oq,aM,bm,au,e,aX,ax,Lib.c5 fP hn]
 ·left;have:i=s0.length:=by omega
  subst this;rw[dv]at h5;have e:=hK j x h3 (by omega);rw[h5]at e;have oq:¬s0.length<x.length:=by omega
  simp only[l5,r5,Lib.de,oq,a_,ax,e]
theorem ok(s0:aQ)(iS:aq)(hc:s0.all cn=ai)(hn:s0.length<=4294967296):c s0 iS=ai/\v s0 iS=s0.filter (keep iS):=by
 refine out s0 iS ?_;have hv:=nc.ok s0 iS hn;unfold vo b;rw[hv.1,hv.2,au];rcases Lib.ph (nc.p s0 iS) s0.length 0 with ⟨h,nS⟩|⟨k,_,zA,hk,Mr,Mk⟩
 ·rw[h];have:s0.filter (keep iS)=s0:=by rw[eJ];intro y hy;obtain⟨i,hi,rfl⟩:=c_ hy;have:=nS i (bk _) (by omega);unfold nc.p at this;rw[Lib.cG hi]at this;unfold keep;rw[this];rfl
  rw[this];rfl
 ·rw[hk];have Fb:k<s0.length:=by omega
  have iy:decide ((k:aw)=Lt 1)=false:=aG (by show¬(k:aw)= -1;omega);rw[iy,ax,Lib.c5 Fb (by omega)];have Ml:∀y∈s0,cn y=true:=bA.1 hc;refine run _ s0 iS hc (by omega) _ ah (λj x hx hj=> ?_) _ k (k+1) s0 ⟨by omega,by omega,rfl,λy hy=>mg (Ml y hy), ?_,rfl⟩ (ck (by omega))
  ·have b1:iA (j:aw) (s0.length:aw) (s0.length:aw)=true:=by simp[iA];omega
   have e:gY j x++aN [Ck.s,Ck.s,Ck.i ao] (s0.length-j)++m9 s0.length x=gY j x++aN [Ck.s,Ck.s,Ck.i ao] (s0.length-j):=by rw[gW (by omega),cu]
   have hl:(gY j x).length=j:=by simp;omega
   simp only[hx,Lib.dU,b1,au,e];rw[Lib.qC (by simp[iA];omega)];unfold e8;rw[show bc 0=0 from rfl,eN,oN,oZ (by omega),fX (by omega)]
  ·rw[ik iS Fb];have e1:keep iS s0[k]=false:=by unfold nc.p at Mr;rw[Lib.cG Fb]at Mr;unfold keep;rw[Mr];rfl
   have e2:(s0.take k).filter (keep iS)=s0.take k:=by
    rw[eJ];intro y hy;obtain⟨i,hi,rfl⟩:=c_ hy;have XL:i<k:=by simp at hi;omega
    have:=Mk i (bk _) XL;unfold nc.p at this;rw[Lib.cG (by omega)]at this;rw[nk];unfold keep;rw[this];rfl
   rw[e1,e2,ax,cu]
end xD

namespace dF
open Lib (rd el Fi)
def Xx(l:az Fi):Prop:=l.Pairwise λx y=>gm.fm x.n y.n=ai
def without(l:az Fi)(n:aq):az Fi:=l.filter λx=> !decide (x.n=n)
def put(l:az Fi)(f:Fi):az Fi:=l.filter (λx=>gm.fm x.n f.n)++[f]++l.filter (λx=> !(gm.fm x.n f.n||decide (x.n=f.n)))
def nC(f:Fi):aY:=decide (1<=(f.n.size:aw)/\(f.n.size:aw)<=8)&&(!decide ((f.t.size:aw)>20000)&&decide (0<=f.kp/\f.kp<=(f.t.size:aw)))
def sL(l:az Fi):aY:=gQ.val (rd l)
theorem irrefl(x:aq):gm.fm x x=false:=lG.oP _
theorem jX{l:az Fi}:sL l=ai↔l.length<=30/\(∀f∈l,nC f=ai)/\Xx l:=by
 unfold sL gQ.val;rw[aK,bj,bA,ed];have e:∀i (h:i<l.length),gQ.el (rd l) i=(nC l[i]&&(i==0||gm.fm (l.getD (i-1) default).n l[i].n)):=λi h=>by
  unfold gQ.el nC gm.fm;rw[KJ h,XR h,show ar (rd l) i 2=CV.i ao l[i].kp from XS h,KJ (show i-1<l.length by omega)];have h5:l.getD (i-1) default=l[i-1]:=by simp[gg,show i-1<l.length by omega]
  rw[h5];simp only[bz,bF,nK];rfl
 constructor
 ·rintro ⟨h1,h2⟩;have h3:∀i (h:i<l.length),nC l[i]=ai/\(i=0\/gm.fm (l.getD (i-1) default).n l[i].n=ai):=λi h=>by have:=h2 i (by simpa using h);rw[e i h,aK,dM]at this;exact⟨this.1,this.2.imp (λq=>by simpa using q) id⟩
  refine⟨h1,λf hf=> ?_, ?_⟩
  ·obtain⟨i,hi,rfl⟩:=c_ hf;exact(h3 i hi).1
  ·have adj:∀d i (hi:i+d+1<l.length),gm.fm l[i].n l[i+d+1].n=true:=by
    intro d;induction d with
    |zero=>
     intro i hi;rcases(h3 (i+1) (by omega)).2 with q|q
     ·omega
     ·simpa [gg,show i<l.length by omega]using q
    |succ d ih=>
     intro i hi;have a:=ih i (by omega);rcases(h3 (i+d+1+1) (by omega)).2 with q|q
     ·omega
     ·have q:gm.fm l[i+d+1].n l[i+d+1+1].n=true:=by simpa [gg,show i+d+1<l.length by omega]using q
      exact lG.pb _ _ _ a q
   unfold Xx;rw[dz];intro i j hi hj QF;have:=adj (j-i-1) i (by omega);simpa only[show i+(j-i-1)+1=j by omega]using this
 ·rintro ⟨h1,h2,h3⟩;refine⟨h1,λi hi=> ?_⟩
  have hi:i<l.length:=by simpa using hi
  rw[e i hi,h2 _ (bu hi),bm,dM];by_cases hz:i=0
  ·left;simpa using hz
  ·right;have:=dz.1 h3 (i-1) i (by omega) hi (by omega);simpa [gg,show i-1<l.length by omega]using this
theorem akZ(l:az Fi):(rd l).all xD.cn=true:=by rw[bA];intro y hy;unfold Lib.rd at hy;obtain⟨z,_,rfl⟩:=cw.1 hy;rfl
theorem apo(l:az Fi)(n:aq):(rd l).filter (xD.keep n)=rd (without l n):=by unfold Lib.rd without;rw[oY];congr 1;apply jo;intro x _;show(!List.beq (aA x.n) (aA n))=_;rw[Lib.fw]
theorem Nl(l:az Fi)(n:aq):(without l n).length<=l.length:=eV ..
theorem af0{l:az Fi}(h:Xx l)(n:aq):Xx (without l n):=Ca _ h
theorem rU{l:az Fi}(f:Fi):(put l f).length<=l.length+1:=by
 unfold put;have:∀r:az Fi,(r.filter λx=>gm.fm x.n f.n).length+(r.filter λx=> !(gm.fm x.n f.n||decide (x.n=f.n))).length<=r.length:=by
  intro r;induction r with
  |nil=>exact cJ _
  |cons y r ih=>
   cases h1:gm.fm y.n f.n with
   |true=>rw[dA (by simpa using h1),cE (by simp[h1])];simp only[dh];omega
   |false=>
    rw[cE (by simp[h1])];by_cases h2:y.n=f.n
    ·rw[cE (by simp[h2])];simp only[dh];omega
    ·rw[dA (by simp[h1,h2])];simp only[dh];omega
 have:=this l;simp only[cf,bC];omega
theorem pZ{l:az Fi}{x f:Fi}:x∈put l f↔x=f\/(x∈l/\x.n≠f.n):=by
 unfold put;simp only[bf,dE,aZ,du,iF,fg];constructor
 ·rintro ((⟨h1,h2⟩|rfl)|⟨h1,h2⟩)
  ·refine .inr ⟨h1,λe2=> ?_⟩;rw[e2,irrefl]at h2;cases h2
  ·exact .inl rfl
  ·exact .inr ⟨h1,h2.2⟩
 ·rintro (rfl|⟨h1,h2⟩)
  ·exact .inl (.inr rfl)
  ·cases hl:gm.fm x.n f.n with
   |true=>exact .inl (.inl ⟨h1,rfl⟩)
   |false=>exact .inr ⟨h1,rfl,h2⟩
def Ix(l:az Fi)(k:aw)(n t o:aq):ay (az Fi):=
 match l.find? λx=>decide (x.n=n)with
 |some f=>
  if k=1 then ah (put l ⟨f.n,f.t++t,f.kp⟩)
  else if k=2 then ah (put l ⟨f.n,f.t,f.t.size⟩)
  else if k=3 then(if f.kp≠f.t.size\/o=n then aj else ah (put (without l n) ⟨o,f.t,f.kp⟩))
  else ah (without l n)
 |none=>if k=1 then ah (put l ⟨n,t,0⟩)else aj
def j8(k:aw)(t o:aq):aY:=decide (1<=k/\k<=4)&&((decide (t=⟨#[]⟩)||decide (k=1))&&(decide (o=⟨#[]⟩)||decide (k=3)))
def act(l:az Fi)(k:aw)(n t o:aq):ay (az Fi):=
 bif sL l&&j8 k t o then(match Ix l k n t o with|some d=>bif sL d then ah d else aj|none=>aj)else aj
structure Ac where
 k:aw
 n:aq
 t:aq
 o:aq
 deriving DecidableEq
instance:Inhabited Ac:=⟨⟨0,⟨#[]⟩,⟨#[]⟩,⟨#[]⟩⟩⟩
def Ac.row(e:Ac):az CV:=[CV.i ao e.k,CV.s e.n,CV.s e.t,CV.s e.o]
def ra(l:az Ac):aQ:=l.map Ac.row
theorem rV(l):(ra l).length=l.length:=by unfold ra;simp
theorem wa0{l:az Ac}{i:aC}(h:i<l.length):ar (ra l) i 0=CV.i ao (el l i).k:=gi _ l i 0 h
theorem wa1{l:az Ac}{i:aC}(h:i<l.length):ar (ra l) i 1=CV.s (el l i).n:=gi _ l i 1 h
theorem wa2{l:az Ac}{i:aC}(h:i<l.length):ar (ra l) i (1+1)=CV.s (el l i).t:=gi _ l i 2 h
theorem wa3{l:az Ac}{i:aC}(h:i<l.length):ar (ra l) i (1+1+1)=CV.s (el l i).o:=gi _ l i 3 h
def j9:az Fi->aC->az Ac->az Fi×aC
 |l,i,[]=>(l,i)
 |l,i,a::r=>match act l a.k a.n a.t a.o with|some d=>j9 d (i+1) r|none=>(l,i)
theorem Cm{l d:az Fi}{k:aw}{n t o:aq}(h:act l k n t o=ah d):sL d=ai/\d.length<=30:=by
 unfold act at h;cases hb:sL l&&j8 k t o with
 |false=>rw[hb]at h;cases h
 |true=>
  rw[hb,au]at h;split at h
  ·rename_i e _;cases ho:sL e with
   |false=>rw[ho]at h;cases h
   |true=>rw[ho]at h;obtain rfl:=aF h;exact⟨ho,(jX.1 ho).1⟩
  ·cases h
end dF

namespace o6
theorem size(x:aw):(v x).size=4:=by unfold v;rw[Lib.ie];simp only[cO,Lib.oI]
end o6

namespace jP
def rd(x:aw):aw:=bif decide (cT x 2=1)then(bE eI (↑(g9 (oV (dm 32 (bE eI (c7 x 2))) (dm 32 3558460437))):aw))else(bE eI (c7 x 2))
def nH:aC->aw->aw|0,x=>x|n+1,x=>nH n (rd x)
theorem in6(N:aC)(K:aw->aq->aw->aw->ay R)(a:aq)(b:aw):∀(d n i:aC) (x:aw),d+i=8->d<n->l6 N K n x a b (i:aw)=K (nH d x) a b 8:=by
 intro d;induction d with
 |zero=>
  intro n i x h1 h2;obtain⟨n,rfl⟩:∃m,n=m+1:=⟨n-1,by omega⟩
  have:i=8:=by omega
  subst this;rfl
 |succ d ih=>
  intro n i x h1 h2;obtain⟨n,rfl⟩:∃m,n=m+1:=⟨n-1,by omega⟩
  have iV:br ((i:aw)+1)=((i+1:aC):aw):=bZ (by omega) (by omega);rw[nH,<-ih n (i+1) (rd x) (by omega) (by omega)];simp only[l6,r6,aE (show(i:aw)<8 by omega),au,iV,rd];cases decide (cT x 2=1)<;>rfl
def su(t:aq):aC->aC->aw->aw
 |0,_,s=>s
 |d+1,i,s=>su t d (i+1) (nH 8 (bE eI (↑(g9 (oV (dm 32 s) (dm 32 (bE eI (↑(gU t i):aw))))):aw)))
theorem run(s:aw)(t:aq)(ht:t.size<=4611686018427387904):vo s t=ah (su t t.size 0 s):=by
 unfold vo b;have key:∀(d n i:aC) (s:aw),d+i=t.size->d<n->l2 Lib.cy (λ(wJ:aw) (_:aq) (_:aw)=>ah wJ) n s t (i:aw)=ah (su t d i s):=by
  intro d;induction d with
  |zero=>
   intro n i s h1 h2;obtain⟨n,rfl⟩:∃m,n=m+1:=⟨n-1,by omega⟩
   simp only[l2,r2,Lib.de,aG (show¬i<t.size by omega),ax];rfl
  |succ d ih=>
   intro n i s h1 h2;obtain⟨n,rfl⟩:∃m,n=m+1:=⟨n-1,by omega⟩
   have iV:br ((i:aw)+1)=((i+1:aC):aw):=bZ (by omega) (by omega);simp only[l2,r2,Lib.de,aE (show i<t.size by omega),Lib.cz,aJ,au,Lib.dU];have e:=in6 (R:=aw) Lib.cy (λy7 y8 y9 _=>l2 Lib.cy (λwJ _ _=>ah wJ) n y7 y8 (br (y9+1))) t (i:aw) 8 Lib.cy 0 (bE eI (↑(g9 (oV (dm 32 s) (dm 32 (bE eI (↑(gU t i):aw))))):aw)) rfl (by unfold Lib.cy;omega);refine e.trans ?_;rw[iV,ih n (i+1) _ (by omega) (by omega)];rfl
 exact key t.size Lib.cy 0 s (by omega) (ck (by omega))
theorem ok(s:aw)(t:aq)(ht:t.size<=4611686018427387904):c s t=ai/\v s t=su t t.size 0 s:=out s t (run s t ht)
end jP

namespace vW
theorem ok(t:aq)(ht:t.size<=4611686018427387904):c t=ai/\v t=jP.su t t.size 0 4294967295:=by have h:=jP.ok 4294967295 t ht;refine out t ?_;unfold vo b;rw[h.1,h.2];rfl
end vW

namespace fI
def fr(t:aq):aq:=bytesOf (Lib.vb t.size)++o6.v (jP.su t t.size 0 4294967295)++t
def val(t:aq):aq×aY:=if 1<=t.size/\t.size<=9000 then(fr t,ai)else(⟨#[]⟩,ak)
theorem eO(n a b:aw):kq.v n a b=decide (a<=n/\n<=b):=by unfold kq.v;by_cases h:a<=n<;>by_cases h2:n<=b<;>simp[h,h2]
theorem YG{t:aq}(h:t.size<=9000):(fr t).size<=t.size+68:=by unfold fr;have:=Lib.jL (x:=(t.size:aw)) (by omega);rw[Lib.jK,Lib.jK,o6.size];omega
theorem ok(t:aq):c t=ai/\v t=val t:=by
 refine out t ?_;unfold vo b val;rw[eO];by_cases h:1<=t.size/\t.size<=9000
 ·have hs:=vW.ok t (by omega);have hc:km.c (t.size:aw)=true:=aE (show(t.size:aw)<=9223372036854775807 by omega);have z1:(km.v (t.size:aw)).size<=64:=Lib.jL (x:=(t.size:aw)) (by omega);rw[aE (show(1:aw)<=(t.size:aw)/\(t.size:aw)<=9000 by omega),bB h,hs.1,hs.2];simp(disch:=omega) only[aX,ax,au,hc,Lib.jK,o6.size,Lib.LZ];rfl
 ·rw[aG (show¬((1:aw)<=(t.size:aw)/\(t.size:aw)<=9000)by omega),bH h];rfl
end fI

namespace rG
theorem head{t:aq}{p:aC}{b:Jd}{r:az Jd}(h:t.data.toList.drop p=b::r):p<t.size/\gU t p=b.toNat/\t.data.toList.drop (p+1)=r:=by
 have hl:=lH bK h;rw[iC,dh]at hl;have hs:t.data.toList.length=t.size:=rfl;have hp:p<t.data.toList.length:=by omega
 have hd:=di hp;rw[hd]at h;injection h with h1 h2;refine⟨by omega, ?_,h2⟩
 unfold gU;have mB:p<t.data.size:=hp;rw[show t.data.getD p 0=t.data[p]by unfold Array.getD;rw[dif_pos mB];rfl];rw[<-h1];rfl
theorem Df(x:aw)(r:aQ):(bytesOf ([CV.i ba x]::r)).data.toList=aP x.toNat::(bytesOf r).data.toList:=rfl
theorem Wl(t:aq)(a:aC)(rest:az Jd):∀(f j:aC) (n y:aw),0<=y->0<=n->n+y*128^j<=1000000000->y<=1000000000->(j>0->0<y)->t.data.toList.drop (a+j)=(bytesOf (Lib.vb y)).data.toList++rest->(Lib.vb y).length<=f->
  Lib.rv t a f j n=(n+y*128^j,((a+j+(Lib.vb y).length:aC):aw),ai)/\t.data.toList.drop (a+j+(Lib.vb y).length)=rest
 |0,j,n,y,h0,hn,hb,hy,hj,hd,hf=>by
  by_cases hc:y>127
  ·rw[Lib.wH hc]at hf;simp at hf
  ·rw[Lib.mW hc]at hf;simp at hf
 |f+1,j,n,y,h0,hn,hb,hy,hj,hd,hf=>by
  by_cases hc:y>127
  ·have e1:cT y 128=y%128:=jD (by omega);have e2:c7 y 128=y/128:=g7 (by omega);have e3:br (y%128+128)=y%128+128:=bZ (by omega) (by omega);have e4:bE ba (y%128+128)=y%128+128:=by show(y%128+128)%256=_;omega
   have e5:br (y/128)=y/128:=bZ (by omega) (by omega);have ev:Lib.vb y=[CV.i ba (y%128+128)]::Lib.vb (y/128):=by rw[Lib.wH hc,e1,e2,e3,e4,e5]
   rw[ev,Df,sZ]at hd;obtain⟨q1,q2,q3⟩:=head hd;have q4:(gU t (a+j):aw)=y%128+128:=by rw[q2,Od];omega
   rw[ev,dh]at hf;have hP:y*128^j=y%128*128^j+y/128*128^(j+1):=by
    have hyd:y=y%128+128*(y/128):=by omega
    rw[uR];generalize (128:aw)^j=P;conv=>lhs;rw[hyd]
    rw[Int.add_mul,Int.mul_comm P 128,<-Int.mul_assoc,Int.mul_comm (y/128) 128]
   have hpp:(0:aw)<=y%128*128^j:=Int.mul_nonneg (by omega) (Int.le_of_lt (Int.pow_pos (by omega)));obtain⟨i1,i2⟩:=Wl t a rest f (j+1) (n+y%128*128^j) (y/128) (by omega) (by omega) (by omega) (by omega) (by omega) (by rw[show a+(j+1)=a+j+1 by omega];exact q3) (by omega);refine⟨?_, ?_⟩
   ·unfold Lib.rv;rw[bB q1,q4,bB (by omega),show(y%128+128)%128=y%128 by omega,i1,hP,ev,dh];refine Prod.ext ?_ (Prod.ext ?_ rfl)
    ·dsimp only;omega
    ·dsimp only;omega
   ·rw[ev,dh,show a+j+((Lib.vb (y/128)).length+1)=a+(j+1)+(Lib.vb (y/128)).length by omega];exact i2
  ·have e4:bE ba y=y:=by show y%256=_;omega
   have ev:Lib.vb y=[[CV.i ba y]]:=by rw[Lib.mW hc,e4]
   rw[ev,Df,sZ]at hd;obtain⟨q1,q2,q3⟩:=head hd;have q4:(gU t (a+j):aw)=y:=by rw[q2,Od];omega
   refine⟨?_,by rw[ev];exact q3⟩
   unfold Lib.rv;rw[bB q1,q4,bH hc,show y%128=y by omega,bH (by omega),ev];rfl
theorem vb5{y:aw}(h:y<=1000000000):(Lib.vb y).length<=5:=by
 have e:(128:aw)^(4+1)=34359738368:=by decide
 exact Lib.CL 4 y (by rw[e];omega)
theorem mr(t:aq)(p:aC)(y:aw)(rest:az Jd)(h0:0<=y)(h1:y<=1000000000)(hd:t.data.toList.drop p=(bytesOf (Lib.vb y)).data.toList++rest):Lib.eG t p=(y,((p+(Lib.vb y).length:aC):aw),ai)/\t.data.toList.drop (p+(Lib.vb y).length)=rest:=by
 have hl:=lH bK hd;have iy:0<(Lib.vb y).length:=by
  by_cases hc:y>127
  ·rw[Lib.wH hc];simp
  ·rw[Lib.mW hc];simp
 have hb:(bytesOf (Lib.vb y)).data.toList.length=(Lib.vb y).length:=Lib.ie _;rw[iC,cf,hb]at hl;have hs:t.data.toList.length=t.size:=rfl;obtain⟨i1,i2⟩:=Wl t p rest 5 0 0 y h0 (by omega) (by simp;omega) h1 (by omega) (by simpa using hd) (vb5 h1);refine⟨?_,by simpa using i2⟩
 unfold Lib.eG;rw[bB (by omega),show((p:aC):aw).toNat=p from rfl,i1];simp
theorem L6(t k:aq)(p:aC)(rest:az Jd)(hd:t.data.toList.drop p=k.data.toList++rest):t.extract p (p+k.size)=k:=by apply Lib.td;simp only[gn,ix,g8];rw[hd,show p+k.size-p=k.data.toList.length by show p+k.size-p=k.size;omega,List.take_left]
theorem enc(k:aq)(s l:aw)(b:aq)(h:nq.v k s l b=ai):v (jF.sN k s l b)=(k,s,l,b,ai):=by
 obtain⟨⟨k1,k2⟩,⟨s1,s2⟩,⟨l1,l2⟩,b1⟩:=nq.KL h;generalize ht:jF.sN k s l b=t;have hT:t.data.toList=(bytesOf (Lib.vb k.size)).data.toList++(k.data.toList++((bytesOf (Lib.vb s)).data.toList++((bytesOf (Lib.vb l)).data.toList++b.data.toList))):=by rw[<-ht];unfold jF.sN;simp only[ml,vE,bU]
 have hs:t.data.toList.length=t.size:=rfl;have hk:k.data.toList.length=k.size:=rfl;obtain⟨a1,a2⟩:=mr t 0 (k.size:aw) _ (by omega) (by omega) (by rw[eN];exact hT);rw[bT]at a1 a2;generalize (Lib.vb (k.size:aw)).length=n1 at a1 a2;have ayH:=lH bK a2;simp only[iC,cf,hk,hs]at ayH;have ek:=L6 t k n1 _ a2;have a3:t.data.toList.drop (n1+k.size)=(bytesOf (Lib.vb s)).data.toList++((bytesOf (Lib.vb l)).data.toList++b.data.toList):=by rw[<-vM,a2];exact List.drop_left' (by rw[hk])
 obtain⟨b1',b2⟩:=mr t (n1+k.size) s _ (by omega) (by omega) a3;obtain⟨c1,c2⟩:=mr t (n1+k.size+(Lib.vb s).length) l _ (by omega) (by omega) b2;have hr:Lib.g6 t 0=(k,((n1+k.size:aC):aw),ai):=by unfold Lib.g6;rw[show(0:aw)=((0:aC):aw)from rfl,a1];dsimp only;rw[bB (by omega)];rw[show((n1:aC):aw).toNat=n1 from rfl,show((n1:aw)+(k.size:aw)).toNat=n1+k.size by omega,ek];rfl
 have eb:t.extract (n1+k.size+(Lib.vb s).length+(Lib.vb l).length) t.size=b:=by
  have Ms:=lH bK c2;rw[iC,hs]at Ms;have hbs:b.data.toList.length=b.size:=rfl;by_cases hz:b.size=0
  ·apply Lib.td;simp only[gn,ix,g8];rw[c2];exact fX (by omega)
  ·apply Lib.td;simp only[gn,ix,g8];rw[c2];exact fX (by omega)
 unfold v;rw[hr];dsimp only;rw[b1'];dsimp only;rw[c1];dsimp only;rw[show((n1+k.size+(Lib.vb s).length+(Lib.vb l).length:aC):aw).toNat=n1+k.size+(Lib.vb s).length+(Lib.vb l).length from rfl,eb,bB h]
end rG

namespace xC
theorem in6(N:aC)(K:aw->aq->aw->aw->ay R)(a:aq)(b:aw):∀(d n i:aC) (x:aw),d+i=8->d<n->l6 N K n x a b (i:aw)=K (jP.nH d x) a b 8:=by
 intro d;induction d with
 |zero=>
  intro n i x h1 h2;obtain⟨n,rfl⟩:∃m,n=m+1:=⟨n-1,by omega⟩
  have:i=8:=by omega
  subst this;rfl
 |succ d ih=>
  intro n i x h1 h2;obtain⟨n,rfl⟩:∃m,n=m+1:=⟨n-1,by omega⟩
  have iV:br ((i:aw)+1)=((i+1:aC):aw):=bZ (by omega) (by omega);rw[jP.nH,<-ih n (i+1) (jP.rd x) (by omega) (by omega)];simp only[l6,r6,aE (show(i:aw)<8 by omega),au,iV,jP.rd];cases decide (cT x 2=1)<;>rfl
theorem run(s:aw)(t:aq)(ht:t.size<=4611686018427387904):vo s t=ah (jP.su t t.size 0 s):=by
 unfold vo b;have key:∀(d n i:aC) (s:aw),d+i=t.size->d<n->l2 Lib.cy (λ(wJ:aw) (_:aq) (_:aw)=>ah wJ) n s t (i:aw)=ah (jP.su t d i s):=by
  intro d;induction d with
  |zero=>
   intro n i s h1 h2;obtain⟨n,rfl⟩:∃m,n=m+1:=⟨n-1,by omega⟩
   simp only[l2,r2,Lib.de,aG (show¬i<t.size by omega),ax];rfl
  |succ d ih=>
   intro n i s h1 h2;obtain⟨n,rfl⟩:∃m,n=m+1:=⟨n-1,by omega⟩
   have iV:br ((i:aw)+1)=((i+1:aC):aw):=bZ (by omega) (by omega);simp only[l2,r2,Lib.de,aE (show i<t.size by omega),Lib.cz,aJ,au,Lib.dU];have e:=in6 (R:=aw) Lib.cy (λy7 y8 y9 _=>l2 Lib.cy (λwJ _ _=>ah wJ) n y7 y8 (br (y9+1))) t (i:aw) 8 Lib.cy 0 (bE eI (↑(g9 (oV (dm 32 s) (dm 32 (bE eI (↑(gU t i):aw))))):aw)) rfl (by unfold Lib.cy;omega);refine e.trans ?_;rw[iV,ih n (i+1) _ (by omega) (by omega)];rfl
 exact key t.size Lib.cy 0 s (by omega) (ck (by omega))
theorem ok(s:aw)(t:aq)(ht:t.size<=4611686018427387904):c s t=ai/\v s t=jP.su t t.size 0 s:=out s t (run s t ht)
end xC

namespace u9
theorem ok(t:aq)(ht:t.size<=4611686018427387904):c t=ai/\v t=jP.su t t.size 0 4294967295:=by have h:=xC.ok 4294967295 t ht;refine out t ?_;unfold vo b;rw[h.1,h.2];rfl
end u9

namespace u0
theorem ok(t:aq)(ht:t.size<=4611686018427387904):c t=ai/\v t=o6.v (jP.su t t.size 0 4294967295):=by have h:=u9.ok t ht;refine out t ?_;unfold vo b;rw[h.1,h.2];rfl
end u0

namespace Jb
theorem cut(a s s' b:aq):cW (aA (a++s++b)) (aA (a++s'++b))=cW (aA s) (aA s'):=by
 rw[Lib.fw,Lib.fw,cg];constructor
 ·intro h;have h2:=lH (λx:aq=>x.data.toList) h;simp only[ml,vE,bU]at h2;have h3:=List.append_cancel_right (List.append_cancel_left h2);exact Lib.td h3
 ·intro h;rw[h]
theorem my(n a b:aw):lj.v n a b=decide (a<=n/\n<=b):=fI.eO n a b
theorem both(t:aq)(ht:t.size<=20000):∀(d:aC) (gT:aC) (acc:aQ) (n m:aC) (z:aw),t.size-gT<=d->gT<=t.size->acc.length<=gT->d<n->d<m->
  ∃R:aQ×aw,U122.l3 Lib.cy (λ(_:aq) (y4:aw) (y5:aQ)=>ah (y5,y4)) n t (gT:aw) acc=ah R/\l5 Lib.cy (λ(_:aq) (y5 _:aw) (y7:aQ)=>ah (y7,y5)) (λ(_:aq) (_ Lf:aw) (wJ:aQ)=>ah (wJ,Lf)) m t z (gT:aw) acc=ah R/\R.1.length<=20000:=by
 intro d;induction d with
 |zero=>
  intro gT acc n m z h1 h2 h3 h4 h5;obtain⟨n,rfl⟩:∃n',n=n'+1:=⟨n-1,by omega⟩
  obtain⟨m,rfl⟩:∃m',m=m'+1:=⟨m-1,by omega⟩
  have jb:decide ((gT:aw)<(t.size:aw))=false:=aG (by omega);have hr:(Lib.eG t (gT:aw)).2.2=false:=by
   cases h:Lib.eG t (gT:aw)with
   |mk a r=>
    obtain⟨x,o⟩:=r;cases o with
    |false=>rfl
    |true=>have:=Lib.jY h;omega
  have e1:∀a b,gq.v a b=Lib.eG a b:=λ_ _=>rfl;refine⟨(acc,(gT:aw)), ?_, ?_,by dsimp only;omega⟩
  ·simp only[U122.l3,U122.r3,e1,hr,aE (show(t.size:aw)<=20000 by omega),au,bS]
  ·simp only[l5,r5,jb,ax]
 |succ d ih=>
  intro gT acc n m z h1 h2 h3 h4 h5;obtain⟨n,rfl⟩:∃n',n=n'+1:=⟨n-1,by omega⟩
  obtain⟨m,rfl⟩:∃m',m=m'+1:=⟨m-1,by omega⟩
  have e1:∀a b,gq.v a b=Lib.eG a b:=λ_ _=>rfl;have e2:∀a b,fQ.v a b=Lib.eG a b:=λ_ _=>rfl;have fZ:decide ((t.size:aw)<=20000)=true:=aE (by omega);cases hr:Lib.eG t (gT:aw)with
  |mk N r=>
   obtain⟨nx,o⟩:=r;cases o with
   |false=>
    refine⟨(acc,(gT:aw)), ?_, ?_,by dsimp only;omega⟩
    ·simp only[U122.l3,U122.r3,e1,hr,fZ,au,bS]
    ·by_cases jb:(gT:aw)<(t.size:aw)
     ·simp only[l5,r5,e2,hr,aE jb,au,bS]
     ·simp only[l5,r5,aG jb,ax]
   |true=>
    obtain⟨q1,q2,q3,q4,q5,q6⟩:=Lib.jY hr;have jb:decide ((gT:aw)<(t.size:aw))=true:=aE (by omega);have w1:br (N+4)=N+4:=bZ (by omega) (by omega);have w2:br ((t.size:aw)-nx)=(t.size:aw)-nx:=bZ (by omega) (by omega);have w3:br ((t.size:aw)-nx-4)=(t.size:aw)-nx-4:=bZ (by omega) (by omega);have w4:br (nx+4)=nx+4:=bZ (by omega) (by omega);have w5:br (nx+4+N)=nx+4+N:=bZ (by omega) (by omega);by_cases tA:N+4>(t.size:aw)-nx
    ·have Ew:N>(t.size:aw)-nx-4:=by omega
     refine⟨(acc,(gT:aw)), ?_, ?_,by dsimp only;omega⟩
     ·cases YZ:decide (1<=N/\N<=9000)with
      |false=>simp only[U122.l3,U122.r3,e1,hr,fZ,my,YZ,au,ax,aX,bS]
      |true=>simp only[U122.l3,U122.r3,e1,hr,fZ,my,YZ,w1,w2,aE tA,au,ax,aX]
     ·simp only[l5,r5,e2,hr,jb,w2,w3,aE Ew,au,ax,aX]
    ·have Ew:¬N>(t.size:aw)-nx-4:=by omega
     have i1:iA (nx+4) (nx+4+N) (t.size:aw)=true:=by simp[iA];omega
     have i2:iA nx (nx+4) (t.size:aw)=true:=by simp[iA];omega
     have i3:iA (gT:aw) (nx+4+N) (t.size:aw)=true:=by simp[iA];omega
     have hts:(t.extract (nx+4).toNat (nx+4+N).toNat).size=N.toNat:=by rw[yX];omega
     generalize XN:t.extract (nx+4).toNat (nx+4+N).toNat=tx at hts;have f1:=fI.ok tx;have f2:=u0.ok tx (by omega);by_cases YZ:1<=N/\N<=9000
     ·have XK:fI.val tx=(fI.fr tx,ai):=by unfold fI.val;rw[bB (by omega)]
      have avI:((tx.size:aC):aw)=N:=by omega
      have Ey:fI.fr tx=t.extract gT nx.toNat++o6.v (jP.su tx tx.size 0 4294967295)++tx:=by unfold fI.fr;rw[avI,q6];rfl
      have hwh:t.extract gT (nx+4+N).toNat=t.extract gT nx.toNat++t.extract nx.toNat (nx+4).toNat++tx:=by rw[<-XN,Lib.xN t (by omega) (by omega),Lib.xN t (by omega) (by omega)]
      have YN:cW (aA (fI.fr tx)) (aA (t.extract gT (nx+4+N).toNat))=cW (aA (o6.v (jP.su tx tx.size 0 4294967295))) (aA (t.extract nx.toNat (nx+4).toNat)):=by rw[Ey,hwh];exact cut _ _ _ _
      have Kk:cC (acc.length+1) 16=true:=Lib.cm (by omega) (by omega);cases hs:cW (aA (o6.v (jP.su tx tx.size 0 4294967295))) (aA (t.extract nx.toNat (nx+4).toNat))with
      |false=>
       rw[hs]at YN;refine⟨(acc,(gT:aw)), ?_, ?_,by dsimp only;omega⟩
       ·simp only[U122.l3,U122.r3,e1,hr,fZ,my,aE YZ,w1,w2,w4,w5,aG tA,i1,i2,XN,f2.1,f2.2,hs,au,ax,aX,bS]
       ·simp only[l5,r5,e2,hr,jb,w2,w3,w4,w5,aG Ew,i1,i3,XN,f1.1,f1.2,XK,eT,YN,au,ax,aX,bS]
      |true=>
       rw[hs]at YN;obtain⟨a2,ha2⟩:∃a2:aC,nx+4+N=(a2:aw):=⟨(nx+4+N).toNat,by omega⟩
       obtain⟨R,g1,g2,g3⟩:=ih a2 (acc++[[CV.s tx]]) n m z (by omega) (by omega) (by rw[cf,bC];omega) (by omega) (by omega);refine⟨R, ?_, ?_,g3⟩
       ·simp only[U122.l3,U122.r3,e1,hr,fZ,my,aE YZ,w1,w2,w4,w5,aG tA,i1,i2,XN,f2.1,f2.2,hs,Lib.iU,bC,Kk,au,ax,aX];rw[ha2];exact g1
       ·simp only[l5,r5,e2,hr,jb,w2,w3,w4,w5,aG Ew,i1,i3,XN,f1.1,f1.2,XK,eT,YN,Lib.iU,bC,Kk,au,ax,aX];rw[ha2];exact g2
     ·have XK:fI.val tx=(⟨#[]⟩,ak):=by unfold fI.val;rw[bH (by omega)]
      refine⟨(acc,(gT:aw)), ?_, ?_,by dsimp only;omega⟩
      ·simp only[U122.l3,U122.r3,e1,hr,fZ,my,aG YZ,au,ax,aX,bS]
      ·simp only[l5,r5,e2,hr,jb,w2,w3,w4,w5,aG Ew,i1,XN,f1.1,f1.2,XK,au,ax,aX,bS]
theorem same(t:aq):∃R:aQ×aw,(c t=ai/\v t=R)/\(U122.c t=ai/\U122.v t=R)/\R.1.length<=20000:=by
 by_cases ht:t.size<=20000
 ·obtain⟨R,g1,g2,g3⟩:=both t ht t.size 0 [] Lib.cy Lib.cy 0 (by omega) (bk _) (cJ _) (ck (by omega)) (ck (by omega));refine⟨R,out t ?_,U122.out t ?_,g3⟩
  ·unfold vo b;rw[aG (show¬(t.size:aw)>20000 by omega),ax];exact g2
  ·unfold U122.vo U122.b;exact g1
 ·refine⟨([],0),out t ?_,U122.out t ?_,bk _⟩
  ·unfold vo b;rw[aE (show(t.size:aw)>20000 by omega)];rfl
  ·unfold U122.vo U122.b;have hb:Lib.cy=18446744073709551615+1:=rfl;have:∀n,U122.l3 Lib.cy (λ(_:aq) (y4:aw) (y5:aQ)=>ah (y5,y4)) (n+1) t 0 (aN [Ck.s] 0)=ah ([],0):=by intro n;simp only[U122.l3,U122.r3,aG (show¬(t.size:aw)<=20000 by omega),ax];rfl
   exact this 18446744073709551615
end Jb

namespace XX
def fs:az aq->aq
 |[]=>⟨#[]⟩|x::r=>fI.fr x++fs r
theorem toL(a b:aq):(a++b).data.toList=a.data.toList++b.data.toList:=by simp[ml]
theorem Ia(x:aq):(fI.fr x).data.toList=(bytesOf (Lib.vb x.size)).data.toList++((o6.v (jP.su x x.size 0 4294967295)).data.toList++x.data.toList):=by unfold fI.fr;rw[toL,toL,bU]
theorem Ld(x:aq):x.data.toList.length=x.size:=dW
def Stop(z:aq):Prop:=z=⟨#[]⟩\/∃(x:aq) (w:az Jd),x.size<=9000/\(fI.fr x).data.toList=z.data.toList++w/\w≠[]
theorem oS(n:aw):(o6.v n).size=4:=rfl
theorem vbl(n:aw):(bytesOf (Lib.vb n)).data.toList.length=(Lib.vb n).length:=by rw[Ld,Lib.ie]
theorem stop{t z:aq}{p:aC}(hz:Stop z)(hp:p<=t.size)(hd:t.data.toList.drop p=z.data.toList){N nx:aw}(h:Lib.eG t p=(N,nx,ai)):N+4>(t.size:aw)-nx:=by
 obtain⟨q1,q2,q3,q4,q5,q6⟩:=Lib.jY h;have hl:t.size-p=z.size:=by have:=lH bK hd;rw[iC,Ld,Ld]at this;exact this
 rcases hz with rfl|⟨x,w,hx,hF,hw⟩
 ·have:(⟨#[]⟩:aq).size=0:=rfl;omega
 ·-- the file's next bytes are the number's
  have e1:(t.extract p nx.toNat).data.toList=z.data.toList.take (nx.toNat-p):=by rw[<-hd];simp[gn,ix,List.extract]
  rw[eT]at q6;have My:nx.toNat-p<=z.data.toList.length:=by rw[Ld];omega
  have e2:(fI.fr x).data.toList.drop 0=(bytesOf (Lib.vb N)).data.toList++(z.data.toList.drop (nx.toNat-p)++w):=by rw[eN,hF,q6,e1,<-bU,vO]
  have e3:(fI.fr x).data.toList.drop 0=(bytesOf (Lib.vb x.size)).data.toList++((o6.v (jP.su x x.size 0 4294967295)).data.toList++x.data.toList):=by rw[eN,Ia]
  have r1:=(rG.mr _ 0 N _ q4 q5 e2).1;have r2:=(rG.mr _ 0 (x.size:aw) _ (by omega) (by omega) e3).1;rw[r1]at r2;obtain⟨hN,hq⟩:=bV r2;have hlen:(Lib.vb N).length=nx.toNat-p:=by have:=lH bK (lH (λy:aq=>y.data.toList) q6);simp only[vbl,e1,eE]at this;omega
  have hFl:=lH bK hF;rw[Ia,cf,cf,cf,vbl,Ld,Ld,Ld,oS]at hFl;have hw1:1<=w.length:=by cases w with|nil=>exact cS rfl hw|cons=>simp
  subst hN;omega
theorem go(t:aq)(ht:t.size<=20000)(z:aq)(hz:Stop z):∀(es:az aq),(∀x∈es,1<=x.size/\x.size<=9000)->∀(p n:aC) (acc:aQ),p<=t.size->acc.length<=p->t.data.toList.drop p=(fs es++z).data.toList->t.size-p<n->
  U122.l3 Lib.cy (λ(_:aq) (y4:aw) (y5:aQ)=>ah (y5,y4)) n t (p:aw) acc=ah (acc++Lib.rs es,((p+(fs es).size:aC):aw)):=by
 have e0:∀a b,gq.v a b=Lib.eG a b:=λ_ _=>rfl;have fZ:decide ((t.size:aw)<=20000)=true:=aE (by omega);intro es;induction es with
 |nil=>
  intro hes p n acc hp ha hd hn;obtain⟨n,rfl⟩:∃n',n=n'+1:=⟨n-1,by omega⟩
  have hd:t.data.toList.drop p=z.data.toList:=by rw[hd];unfold fs;rw[toL];rfl
  have e1:acc++Lib.rs []=acc:=cu _;have e2:((p+(fs []).size:aC):aw)=(p:aw):=rfl;rw[e1,e2];cases hr:Lib.eG t (p:aw)with
  |mk N r=>
   obtain⟨nx,o⟩:=r;cases o with
   |false=>simp only[U122.l3,U122.r3,e0,hr,fZ,au,bS]
   |true=>
    have hs:=stop hz hp hd hr;obtain⟨q1,q2,q3,q4,q5,q6⟩:=Lib.jY hr;have w1:br (N+4)=N+4:=bZ (by omega) (by omega);have w2:br ((t.size:aw)-nx)=(t.size:aw)-nx:=bZ (by omega) (by omega);cases YZ:decide (1<=N/\N<=9000)with
    |false=>simp only[U122.l3,U122.r3,e0,hr,fZ,Jb.my,YZ,au,ax,aX,bS]
    |true=>simp only[U122.l3,U122.r3,e0,hr,fZ,Jb.my,YZ,w1,w2,aE hs,au,ax,aX]
 |cons x es ih=>
  intro hes p n acc hp ha hd hn;obtain⟨n,rfl⟩:∃n',n=n'+1:=⟨n-1,by omega⟩
  have hx:=hes x (by simp);have hd1:t.data.toList.drop p=(bytesOf (Lib.vb x.size)).data.toList++((o6.v (jP.su x x.size 0 4294967295)).data.toList++(x.data.toList++(fs es++z).data.toList)):=by rw[hd,show fs (x::es)=fI.fr x++fs es from rfl,toL,toL,Ia,toL];simp only[bU]
  obtain⟨hr,hd2⟩:=rG.mr t p (x.size:aw) _ (by omega) (by omega) hd1;have QE:(fI.fr x).size=(Lib.vb x.size).length+4+x.size:=by rw[<-Ld,Ia,cf,cf,vbl,Ld,Ld,oS];omega
  have hlen:=lH bK hd;rw[iC,Ld,Ld]at hlen;have nS:(fs (x::es)++z).size=(fI.fr x).size+(fs es).size+z.size:=by rw[show fs (x::es)=fI.fr x++fs es from rfl,dH,dH]
  rw[nS,QE]at hlen;generalize hm:(Lib.vb (x.size:aw)).length=m at*
  have x4:t.extract (p+m) (p+m+4)=o6.v (jP.su x x.size 0 4294967295):=by have:=rG.L6 t _ (p+m) _ hd2;rwa[oS]at this
  have hd3:t.data.toList.drop (p+m+4)=x.data.toList++(fs es++z).data.toList:=by rw[<-vM,hd2,Cb (by rw[Ld,oS];omega),Jp (by rw[Ld,oS];omega),gG]
  have x5:t.extract (p+m+4) (p+m+4+x.size)=x:=rG.L6 t x (p+m+4) _ hd3;have hd4:t.data.toList.drop (p+m+4+x.size)=(fs es++z).data.toList:=by rw[<-vM,hd3,Cb (by rw[Ld];omega),Jp (by rw[Ld];omega),gG]
  have i:=ih (λy hy=>hes y (by simp[hy])) (p+m+4+x.size) n (acc++[[CV.s x]]) (by omega) (by simp;omega) hd4 (by omega);have w1:br ((x.size:aw)+4)=(x.size:aw)+4:=bZ (by omega) (by omega);have w2:br ((t.size:aw)-((p+m:aC):aw))=(t.size:aw)-((p+m:aC):aw):=bZ (by omega) (by omega);have w4:br (((p+m:aC):aw)+4)=((p+m+4:aC):aw):=by rw[bZ (by omega) (by omega)];omega
  have w5:br (((p+m+4:aC):aw)+(x.size:aw))=((p+m+4+x.size:aC):aw):=by rw[bZ (by omega) (by omega)];omega
  have b1:¬(x.size:aw)+4>(t.size:aw)-((p+m:aC):aw):=by omega
  have i1:iA ((p+m+4:aC):aw) ((p+m+4+x.size:aC):aw) (t.size:aw)=true:=by simp[iA];omega
  have i2:iA ((p+m:aC):aw) ((p+m+4:aC):aw) (t.size:aw)=true:=by simp[iA];omega
  have f2:=u0.ok x (by omega);have Kk:cC (acc.length+1) 16=true:=Lib.cm (by omega) (by omega);simp only[U122.l3,U122.r3,e0,hr,fZ,Jb.my,aE (show 1<=(x.size:aw)/\(x.size:aw)<=9000 by omega),w1,w2,w4,w5,aG b1,i1,i2,eT,x4,x5,f2.1,f2.2,Lib.qA,Lib.iU,bC,Kk,au,ax,aX];rw[i];have e3:acc++[[CV.s x]]++Lib.rs es=acc++Lib.rs (x::es):=by unfold Lib.rs;simp
  have e4:p+m+4+x.size+(fs es).size=p+(fs (x::es)).size:=by
   have:(fs (x::es)).size=(fI.fr x).size+(fs es).size:=by rw[show fs (x::es)=fI.fr x++fs es from rfl,dH]
   omega
  rw[e3,e4]
theorem ok(es:az aq)(hes:∀x∈es,1<=x.size/\x.size<=9000)(z:aq)(hz:Stop z)(ht:(fs es++z).size<=20000):
  (U122.c (fs es++z)=ai/\U122.v (fs es++z)=(Lib.rs es,((fs es).size:aw)))/\(Jb.c (fs es++z)=ai/\Jb.v (fs es++z)=(Lib.rs es,((fs es).size:aw))):=by
 have h1:=U122.out (fs es++z) (x:=(Lib.rs es,((fs es).size:aw))) (by unfold U122.vo U122.b;have:=go (fs es++z) ht z hz es hes 0 Lib.cy [] (bk _) (bk _) (by rw[eN]) (ck (by omega));rw[bT,gG]at this;exact this);obtain⟨R,s1,s2,_⟩:=Jb.same (fs es++z);refine⟨h1,s1.1, ?_⟩
 rw[s1.2,<-s2.2,h1.2]
end XX

namespace C4
theorem wi(n a b:aw):lj.v n a b=decide (a<=n/\n<=b):=fI.eO n a b
theorem ok(t:aq):c t=ai/\v t=fI.val t:=by
 refine out t ?_;unfold vo b fI.val;rw[wi];by_cases h:1<=t.size/\t.size<=9000
 ·have hs:=u0.ok t (by omega);have z1:(bytesOf (Lib.vb (t.size:aw))).size<=64:=Lib.jL (x:=(t.size:aw)) (by omega);have e2:nO.v (t.size:aw)=(bytesOf (Lib.vb t.size),ai):=by unfold nO.v;rw[bB (by omega)]
  rw[aE (show(1:aw)<=(t.size:aw)/\(t.size:aw)<=9000 by omega),bB h,hs.1,hs.2,e2];simp(disch:=omega) only[aX,ax,au,Lib.jK,o6.size,Lib.LZ];rfl
 ·rw[aG (show¬((1:aw)<=(t.size:aw)/\(t.size:aw)<=9000)by omega),bH h];rfl
end C4

namespace mM
theorem tY{k b:aq}{s l:aw}(h:nq.v k s l b=ai):(jF.sN k s l b).size<=1000:=by have hr:=nq.KL h;have z1:(bytesOf (Lib.vb (k.size:aw))).size<=64:=Lib.jL (x:=(k.size:aw)) (by omega);have z2:(bytesOf (Lib.vb s)).size<=64:=Lib.jL (x:=s) (by omega);have z3:(bytesOf (Lib.vb l)).size<=64:=Lib.jL (x:=l) (by omega);unfold jF.sN;simp only[Lib.jK];omega
theorem CJ{k b:aq}{s l:aw}(h:nq.v k s l b=ai):1<=(jF.sN k s l b).size:=by have hr:=nq.KL h;unfold jF.sN;simp only[Lib.jK];omega
def val(k:aq)(s l:aw)(b:aq):aq×aY:=if nq.v k s l b=ai then(fI.fr (jF.sN k s l b),ai)else(⟨#[]⟩,ak)
theorem ok(k:aq)(s l:aw)(b0:aq):c k s l b0=ai/\v k s l b0=val k s l b0:=by
 refine out k s l b0 ?_;have hf:=C4.ok (EY.v k s l b0).1;unfold vo b val;rw[hf.1,hf.2];unfold EY.v jF.v fI.val;by_cases h:nq.v k s l b0=ai
 ·have h1:=tY h;have h2:=CJ h;rw[bB h,bB h,bB (by dsimp only;omega)];rfl
 ·rw[bH h,bH h];rfl
end mM

namespace jt
def p(d:aQ)(n:aq)(i:aC):aY:=cW (aA (bz (ar d i 0))) (aA n)
theorem ok(d:aQ)(n:aq)(hl:d.length<=4294967296):c d n=ai/\v d n=Lib.fi (p d n) d.length 0:=by
 refine out d n ?_;unfold vo b;refine n6 (p d n) d.length (λm (i:aC)=>l2 Lib.cy (λ(_:aq) (y5 _:aw) (_:aQ)=>ah y5) (λ(_:aq) (_ _:aw) (_:aQ)=>ah (-1)) m n 0 (i:aw) d) ah (λm i hi hp=> ?_) (λm i hi hp=> ?_) (λm=> ?_) Lib.cy (ck (by omega))
 ·unfold p at hp;simp only[l2,r2,Lib.de,Lib.cz,Lib.dU,hi,aM,aJ,au,hp]
 ·unfold p at hp;simp only[l2,r2,Lib.de,Lib.cz,Lib.dU,hi,aM,aJ,au,hp,ax,Lib.c5 hi (by omega:d.length<=9223372036854775807)]
 ·simp only[l2,r2,Lib.de,bg,a_,ax]
end jt

namespace v8
def val(d:aQ)(n:aq):aq×aY:=if Lib.fi (jt.p d n) d.length 0<0 then(⟨#[]⟩,ak)else(bz (ar d (Lib.fi (jt.p d n) d.length 0).toNat 1),ai)
theorem KL(d:aQ)(n:aq)(h:¬Lib.fi (jt.p d n) d.length 0<0):0<=Lib.fi (jt.p d n) d.length 0/\Lib.fi (jt.p d n) d.length 0<(d.length:aw):=by
 rcases Lib.ph (jt.p d n) d.length 0 with ⟨h1,_⟩|⟨k,h1,h2,h3,_,_⟩
 ·rw[h1]at h;omega
 ·rw[h3];omega
theorem ok(d:aQ)(n:aq)(hl:d.length<=4294967296):c d n=ai/\v d n=val d n:=by
 refine out d n ?_;have h:=jt.ok d n hl;unfold vo b val;rw[h.1,h.2,au];by_cases hn:Lib.fi (jt.p d n) d.length 0<0
 ·rw[aE hn,bB hn];rfl
 ·have hr:=KL d n hn;rw[aG hn,bH hn,ax,aE hr.1,aE hr.2];rfl
end v8

namespace ia
theorem ok(r:aQ)(hl:r.length<=4294967296):c r=ai/\v r=gQ.val r:=by
 refine out r ?_;unfold vo b gQ.val;have fP:∀a b c,lj.v a b c=kq.v a b c:=λ_ _ _=>rfl
 have key:=jS (gQ.el r) r.length (λm (i:aC)=>l2 Lib.cy (λ(y5:aY) (_:aQ) (_ _:aw) (_:aQ)=>ah y5) (λ(_:aY) (_:aQ) (_ _:aw) (XU:aQ)=>ah (decide ((XU.length:aw)<=30))) m ak r (r.length:aw) (i:aw) r) (ah ak) (ah (decide ((r.length:aw)<=30)))
  (λm i hi hp=>by
   unfold gQ.el at hp;simp only[aK]at hp;obtain⟨h1,h2,h3,h4⟩:=hp;have h3:decide (0<=bF (ar r i (1+1))/\bF (ar r i (1+1))<=((bz (ar r i 1)).size:aw))=true:=h3;have h2:decide (((bz (ar r i 1)).size:aw)>20000)=false:=by simpa using h2
   by_cases hz:0<i
   ·have e0:decide ((i:aw)>0)=true:=aE (by omega);have mB:i-1<r.length:=by omega
    have h5:b9 (aA (bz (ar r (i-1) 0))) (aA (bz (ar r i 0)))=true:=by
     rcases dM _ _▸h4 with q|q
     ·have:i=0:=by simpa using q
      omega
     ·exact q
    simp only[l2,r2,Lib.de,hi,mB,aM,Lib.cz,aJ,au,ax,Lib.dU,fP,gQ.mT,h1,h2,h3,h5,e0,gQ.Ek hz (by omega),aX,Lib.c5 hi (by omega:r.length<=9223372036854775807)]
   ·have e0:decide ((i:aw)>0)=false:=aG (by omega);simp only[l2,r2,Lib.de,hi,aM,Lib.cz,aJ,au,ax,Lib.dU,fP,gQ.mT,h1,h2,h3,e0,aX,Lib.c5 hi (by omega:r.length<=9223372036854775807)])
  (λm i hi hp=>by
   unfold gQ.el at hp;cases h1:decide (1<=((bz (ar r i 0)).size:aw)/\((bz (ar r i 0)).size:aw)<=8)with
   |false=>simp only[l2,r2,Lib.de,hi,aM,Lib.cz,aJ,au,ax,Lib.dU,fP,gQ.mT,h1,bS]
   |true=>
   cases h2:decide (((bz (ar r i 1)).size:aw)>20000)with
   |true=>simp only[l2,r2,Lib.de,hi,aM,Lib.cz,aJ,au,ax,Lib.dU,fP,gQ.mT,h1,h2,aX]
   |false=>
   cases h3:decide (0<=bF (ar r i (1+1))/\bF (ar r i (1+1))<=((bz (ar r i 1)).size:aw))with
   |false=>simp only[l2,r2,Lib.de,hi,aM,Lib.cz,aJ,au,ax,Lib.dU,fP,gQ.mT,h1,h2,h3,aX,bS]
   |true=>
   rw[h1,h2,show decide (0<=bF (ar r i 2)/\bF (ar r i 2)<=((bz (ar r i 1)).size:aw))=ai from h3,bS,bm,bm,bm]at hp;rw[iF]at hp;obtain⟨h4,h5⟩:=hp;have hz:0<i:=by
    have:¬i=0:=by simpa using h4
    omega
   have e0:decide ((i:aw)>0)=true:=aE (by omega);have mB:i-1<r.length:=by omega
   simp only[l2,r2,Lib.de,hi,mB,aM,Lib.cz,aJ,au,ax,Lib.dU,fP,gQ.mT,h1,h2,h3,h5,e0,gQ.Ek hz (by omega),aX,bS])
  (λm=>by simp only[l2,r2,Lib.de,bg,a_,ax]) Lib.cy (ck (by omega))
 refine key.trans ?_;rw[show decide ((r.length:aw)<=30)=decide (r.length<=30)from by rw[cg];omega];cases (ch r.length).all (gQ.el r)<;>cases decide (r.length<=30)<;>rfl
end ia

namespace sj
theorem ok(d:aQ)(n:aq)(hl:d.length<=4294967296):c d n=ai/\v d n=Lib.fi (jt.p d n) d.length 0:=by
 refine out d n ?_;unfold vo b;refine n6 (jt.p d n) d.length (λm (i:aC)=>l2 Lib.cy (λ(_:aQ) (_:aq) (y7 _ _:aw)=>ah y7) (λ(_:aQ) (_:aq) (_ _ _:aw)=>ah (-1)) m d n 0 (d.length:aw) (i:aw)) ah (λm i hi hp=> ?_) (λm i hi hp=> ?_) (λm=> ?_) Lib.cy (ck (by omega))
 ·unfold jt.p at hp;simp only[l2,r2,Lib.de,Lib.cz,Lib.dU,hi,aM,aJ,au,LH.v,hp]
 ·unfold jt.p at hp;simp only[l2,r2,Lib.de,Lib.cz,Lib.dU,hi,aM,aJ,au,LH.v,hp,ax,Lib.c5 hi (by omega:d.length<=9223372036854775807)]
 ·simp only[l2,r2,Lib.de,bg,a_,ax]
end sj

namespace eF
theorem ok(d:aQ)(n:aq)(hl:d.length<=4294967296):c d n=ai/\v d n=Lib.fi (jt.p d n) d.length 0:=by have h:=sj.ok d n hl;exact out d n (by unfold vo b;rw[h.1,h.2,au])
end eF

namespace s9
theorem ok(d:aQ)(h:d.length<=1000000000):c d=ai/\v d=d:=by refine out d ?_;unfold vo b;rw[Lib.oI,Lib.cm (by omega) (by omega)];rfl
end s9

namespace iR
open Lib (rd Fi)
open dF (without)
theorem ok(l:az Fi)(n:aq)(hl:l.length<=1000000):c (rd l) n=ai/\v (rd l) n=rd (without l n):=by have h1:=s9.ok (rd l) (by rw[ed];omega);have h2:=xD.ok (rd l) n (dF.akZ l) (by rw[ed];omega);exact out _ _ (by unfold vo b;rw[h1.1,h1.2,h2.1,h2.2,dF.apo];rfl)
end iR

namespace gO
open Lib (rd Fi)
open dF (without put Xx)
def nw(n t:aq)(k:aw):az CV:=[CV.s n,CV.s t,CV.i ao k]
def pn(n:aq)(y:az CV):aY:=b9 (aA (bz (y.getD 0 (.b ak)))) (aA n)
theorem ok(l:az Fi)(n t:aq)(k:aw)(hs:Xx l)(hl:l.length<=1000000):c (rd l) n t k=ai/\v (rd l) n t k=rd (put l ⟨n,t,k⟩):=by
 refine out _ _ _ _ ?_;have hd:=iR.ok l n hl;unfold vo b;rw[hd.1,hd.2,au];have Gk:=dF.Nl l n;have e1:(without l n).filter (λx=>gm.fm x.n n)=l.filter λx=>gm.fm x.n n:=by
  unfold without;rw[pG];apply jo;intro y _;by_cases h:y.n=n
  ·rw[h,dF.irrefl];rfl
  ·rw[aG h];simp
 have e2:(without l n).filter (λx=> !gm.fm x.n n)=l.filter λx=> !(gm.fm x.n n||decide (x.n=n)):=by unfold without;rw[pG];apply jo;intro y _;cases gm.fm y.n n<;>cases decide (y.n=n)<;>rfl
 have htw:=Lib.Be (λx:Fi=>gm.fm x.n n) (λx=> !gm.fm x.n n) (without l n) (λ_ _=>rfl) ((dF.af0 hs n).imp λ{y z} hyz hz=>lG.pb _ _ _ hyz hz);rw[e1,e2]at htw;generalize without l n=o at Gk htw
 have:=tW (pn n) (rd o) (λm (i:aC)=>l3 Lib.cy (λ(y5:aw) (y6 y7:aq) (y8:aw) (y9:aQ)=>bif(decide (0<=y5)&&decide (y5<=(↑(bK y9):aw))&&cC (bK y9+bK (aL (aN [Ck.s,Ck.s,Ck.i ao] 1) 0 [CV.s y6,CV.s y7,CV.i ao y8])) 40)then(ah (Pu.tD y9 (bc y5) (aL (aN [Ck.s,Ck.s,Ck.i ao] 1) 0 [CV.s y6,CV.s y7,CV.i ao y8])))else(aj)) m (i:aw) n t k (rd o))
  (λa=>bif decide ((a:aw)<=((rd o).length:aw))then ah (Pu.tD (rd o) a [nw n t k])else aj)
  (λm i h hp=>by
   have mB:b9 (aA (bz (ar (rd o) i 0))) (aA n)=true:=by rw[Lib.cG h];exact hp
   simp only[l3,r3,Lib.de,h,aM,Lib.cz,aJ,au,Lib.dU,mB,Lib.c5 h (by rw[ed];omega:(rd o).length<=9223372036854775807)])
  (λm i h hp=>by
   have mB:b9 (aA (bz (ar (rd o) i 0))) (aA n)=false:=by rw[Lib.cG h];exact hp
   simp only[l3,r3,Lib.de,h,aM,Lib.cz,aJ,bm,j4,au,ax,Lib.dU,mB,Lib.iU,bC,Lib.cm (n:=(rd o).length+1) (b:=40) (by rw[ed];omega) (by rw[ed];omega)];rfl)
  (λm=>by simp only[l3,r3,Lib.de,bg,a_,aM,Lib.cz,aJ,bm,j4,au,ax,Lib.dU,Lib.iU,bC,Lib.cm (n:=(rd o).length+1) (b:=40) (by rw[ed];omega) (by rw[ed];omega)];rfl) Lib.cy (ck (by rw[ed];omega))
 refine this.trans ?_;have hle:=GI (pn n) (rd o);rw[aE (by omega),au];unfold Pu.tD;rw[yQ,xJ];have e3:pn n∘Fi.row=λx:Fi=>gm.fm x.n n:=rfl;unfold Lib.rd;rw[P_,P9,e3,htw.1,htw.2];unfold put;rw[cQ,cQ];rfl
end gO

namespace rE
open Lib (rd el Fi)
open dF (without put Xx sL act Ix jX)
def res(o:ay (az Fi)):aQ×aY:=match o with|some d=>(rd d,ai)|none=>([],ak)
theorem find(l:az Fi)(n:aq):(Lib.fi (jt.p (rd l) n) l.length 0= -1/\l.find? (λx=>decide (x.n=n))=aj)\/∃i,i<l.length/\Lib.fi (jt.p (rd l) n) l.length 0=(i:aw)/\l.find? (λx=>decide (x.n=n))=ah (el l i):=by
 have hq:∀i (hi:i<l.length),jt.p (rd l) n i=decide (l[i].n=n):=λi hi=>by unfold jt.p;rw[KJ hi];exact Lib.fw
 rcases Lib.ph (jt.p (rd l) n) l.length 0 with ⟨e,ha⟩|⟨k,_,hk,e,hp,hb⟩
 ·refine .inl ⟨e,Yc.2 λx hx=> ?_⟩;obtain⟨i,hi,rfl⟩:=c_ hx;rw[<-hq i hi,ha i (by omega) (by omega)];simp
 ·have vq:k<l.length:=by omega
  refine .inr ⟨k,vq,e, ?_⟩;rw[BH];exact⟨by rw[fF vq,<-hq k vq];exact hp,k,vq,(fF vq).symm,λj hj=>by rw[<-hq j (by omega),hb j (by omega) hj];rfl⟩
theorem okc(d:az Fi)(h:d.length<=1000000):ia.c (rd d)=ai/\ia.v (rd d)=sL d:=ia.ok (rd d) (by rw[ed];omega)
theorem TD(k:aw)(n t o:aq):LI.v k n t o=dF.j8 k t o:=by
 unfold LI.v dF.j8 lj.v;rw[Lib.fw,Lib.fw];by_cases h1:1<=k
 ·by_cases h2:k<=4
  ·rw[aE h1,aE h2,aE (⟨h1,h2⟩:1<=k/\k<=4)];cases decide (t=⟨#[]⟩)<;>cases decide (o=⟨#[]⟩)<;>cases decide (k=1)<;>cases decide (k=3)<;>rfl
  ·rw[aE h1,aG h2,aG (show¬(1<=k/\k<=4)by omega)];rfl
 ·rw[aG h1,aG (show¬(1<=k/\k<=4)by omega)];rfl
theorem ok(l:az Fi)(k:aw)(n t o:aq)(hl:l.length<=1000)(ht:t.size<=2305843009213693952):c (rd l) k n t o=ai/\v (rd l) k n t o=res (act l k n t o):=by
 refine out _ _ _ _ _ ?_;unfold vo b;have h1:=eF.ok (rd l) n (by rw[ed];omega);have h2:=okc l (by omega);rw[h1.1,h1.2,h2.1,h2.2,TD,au,au,ed];unfold act;cases hk:sL l with
 |false=>rfl
 |true=>
 rw[aX,ax,bm];obtain⟨q1,q2,q3⟩:=jX.1 hk;cases ha:dF.j8 k t o with
 |false=>rfl
 |true=>
 rw[aX,ax,au];have hk4:1<=k/\k<=4:=by unfold dF.j8 at ha;rw[aK]at ha;exact cF ha.1
 have wp:=λ(m:az Fi) (hm:Xx m) (oT:m.length<=1000) (n t:aq) (k:aw)=>gO.ok m n t k hm (by omega);have wo:=iR.ok l n (by omega);have wol:=dF.Nl l n;have pl:=λ(m:az Fi) (f:Fi) (hm:m.length<=1000)=>okc (put m f) (dc (dF.rU f) (by omega));have fin:∀d:az Fi,(bif !sL d then ah (([]:aQ),ak)else ah (rd d,ai))=ah (res (bif sL d then ah d else aj)):=λd=>by cases sL d<;>rfl
 unfold Ix;rcases find l n with ⟨e1,e2⟩|⟨i,hi,e1,e2⟩
 ·rw[e1,e2];by_cases k1:k=1
  ·subst k1;have p:=wp l q3 hl n (⟨#[]⟩++t) 0;have d:=pl l ⟨n,⟨#[]⟩++t,0⟩ hl;have et:(⟨#[]⟩:aq)++t=t:=lI;rw[show decide ((-1:aw)<0)=ai from rfl,show decide ((-1:aw)≥0)=ak from rfl,show((1:aw) !=1)=ak from rfl,au,ax,ax,aE (show(1:aw)=1 from rfl),au,aE (show(⟨#[]⟩:aq).size+t.size<=4611686018427387904 from by rw[show(⟨#[]⟩:aq).size=0 from rfl];omega),au,p.1,p.2,au,d.1,d.2,au,fin,et];rfl
  ·rw[show decide ((-1:aw)<0)=ai from rfl,au,show(k !=1)=ai from bne_iff_ne.2 k1,au,bH k1];rfl
 ·have hf:(el l i).n=n:=by have:=G3 e2;exact cF this
  have xS:((el l i).t.size:aw)<=20000:=by have:=q2 _ (mO hi);unfold dF.nC at this;simp only[aK,bj,du,fg]at this;omega
  rw[e1,e2,aG (show¬((i:aC):aw)<0 by omega),aE (show((i:aC):aw)≥0 by omega),ax,au];simp only[Lib.de,hi,aM,Lib.dU,wd0 hi,wd1 hi,wd2 hi,bz,bF,aJ,bm,au];by_cases k1:k=1
  ·subst k1;have p:=wp l q3 hl (el l i).n ((el l i).t++t) (el l i).kp;have d:=pl l ⟨(el l i).n,(el l i).t++t,(el l i).kp⟩ hl;rw[aE (show(1:aw)=1 from rfl),au,aE (show(el l i).t.size+t.size<=4611686018427387904 by omega),au,p.1,p.2,au,d.1,d.2,au,fin];rfl
  rw[aG k1,ax,bH k1];by_cases k2:k=2
  ·subst k2;have p:=wp l q3 hl (el l i).n (el l i).t ((el l i).t.size:aw);have d:=pl l ⟨(el l i).n,(el l i).t,((el l i).t.size:aw)⟩ hl;rw[aE (show(2:aw)=2 from rfl),au,p.1,p.2,au,d.1,d.2,au,fin];rfl
  rw[aG k2,ax,bH k2];by_cases k3:k=3
  ·subst k3;rw[aE (show(3:aw)=3 from rfl),au,bB rfl];by_cases b1:(el l i).kp=((el l i).t.size:aw)
   ·rw[show((el l i).kp !=((el l i).t.size:aw))=ak from by simp[b1],ax,Lib.fw];by_cases b2:o=n
    ·rw[aE b2,au,bB (.inr b2)];rfl
    ·have p:=wp (without l n) (dF.af0 q3 n) (by omega) o (el l i).t (el l i).kp;have d:=pl (without l n) ⟨o,(el l i).t,(el l i).kp⟩ (by omega);rw[aG b2,ax,wo.1,wo.2,au,p.1,p.2,au,d.1,d.2,au,fin,bH (by rintro (h|h);exact h b1;exact b2 h)]
   ·rw[show((el l i).kp !=((el l i).t.size:aw))=ai from bne_iff_ne.2 b1,au,bB (.inl b1)];rfl
  rw[aG k3,ax,bH k3];have d:=okc (without l n) (by omega);rw[wo.1,wo.2,au,d.1,d.2,au,fin]
end rE

namespace w9
theorem ok(l:aQ)(hl:l.length<=4294967296):c l=ai/\v l=l:=by refine out l ?_;unfold vo b;rw[show bK (aN [Ck.s,Ck.i ao,Ck.i ao,Ck.s] 0)+l.length=l.length by simp[aN],Lib.cm (by omega) (by omega)];rfl
end w9

namespace pJ
theorem ok(l:aQ)(k:aq)(hc:l.all o8.cn=ai)(hl:l.length<=4294967296):c l k=ai/\v l k=l.filter (o8.keep k):=by have h1:=w9.ok l hl;have h2:=o8.ok l k hc hl;exact out l k (by unfold vo b;rw[h1.1,h1.2,h2.1,h2.2,au,au])
end pJ

namespace uV
theorem Be(p q:az CV->aY):∀r:aQ,(∀y∈r,q y= !p y)->r.Pairwise (λy z=>p z=ai->p y=ai)->r.takeWhile p=r.filter p/\r.dropWhile p=r.filter q
 |[],_,_=>⟨rfl,rfl⟩
 |y::r,hq,h=>by
  rw[qu]at h;have hy:=hq y (by simp);cases hp:p y with
  |true=>rw[hp]at hy;obtain⟨i1,i2⟩:=Be p q r (λz hz=>hq z (by simp[hz])) h.2;rw[qd hp,dA hp,List.dropWhile_cons_of_pos hp,cE (by rw[hy];simp),i1,i2];exact⟨rfl,rfl⟩
  |false=>
   rw[hp]at hy;have hn:¬p y=true:=by rw[hp];simp
   have ha:∀z∈r,p z=false:=λz hz=>by
    cases Fj:p z with
    |false=>rfl
    |true=>exact cS (h.1 z hz Fj) hn
   rw[qc hn,cE hn,List.dropWhile_cons_of_neg hn,dA (by rw[hy];rfl)];refine⟨?_, ?_⟩
   ·symm;rw[List.filter_eq_nil_iff];intro z hz;rw[ha z hz];simp
   ·congr 1;symm;rw[eJ];intro z hz;rw[hq z (by simp[hz]),ha z hz];rfl
theorem agM{r:aQ}(h:∀y∈r,lG.cr y=y):r.all o8.cn=true:=by rw[bA];intro y hy;rw[<-h y hy];rfl
theorem ok(r:aQ)(k:aq)(s l:aw)(b0:aq)(hO:lG.Or r)(hl:r.length<=1048576):c r k s l b0=ai/\v r k s l b0=lG.val r k s l b0:=by
 refine out r k s l b0 ?_;have hd:=pJ.ok r k (agM hO.2) (by omega);unfold vo b;rw[hd.1,au,hd.2];have QE:(r.filter (o8.keep k)).length<=r.length:=eV _ _;have hke:∀y,o8.keep k y= !List.beq (lG.key y) (aA k):=λ_=>rfl;have htw:=Be (lG.pl k) (lG.pg k) (r.filter (o8.keep k)) (λy hy=>by
  have h2:=(dE.1 hy).2;rw[hke]at h2;have h3:cW (lG.key y) (aA k)=false:=by simpa using h2
  unfold lG.pg lG.pl;rw[h3,Bool.or_false]) ((hO.1.sublist jM).imp (λ{y z} hyz hz=>lG.pb _ _ _ hyz hz))
 have e1:(r.filter (o8.keep k)).filter (lG.pl k)=r.filter (lG.pl k):=by
  rw[pG];apply jo;intro y _;cases h:lG.pl k y with
  |false=>rfl
  |true=>
   rw[hke,bm];cases h2:cW (lG.key y) (aA k)with
   |false=>rfl
   |true=>exfalso;have h3:=Lib.beq_iff.1 h2;unfold lG.pl at h;rw[h3,lG.oP]at h;cases h
 have e2:(r.filter (o8.keep k)).filter (lG.pg k)=r.filter (lG.pg k):=by rw[pG];apply jo;intro y _;rw[hke];unfold lG.pg;cases cW (lG.key y) (aA k)<;>cases b9 (lG.key y) (aA k)<;>rfl
 generalize r.filter (o8.keep k)=o at QE htw e1 e2
 have:=tW (lG.pl k) o (λm (i:aC)=>l3 Lib.cy (λ(y6:aw) (y7:aq) (y8 y9:aw) (Lf:aq) (wJ:aQ)=>bif(decide (0<=y6)&&decide (y6<=(↑(bK wJ):aw))&&cC (bK wJ+bK (aL (aN [Ck.s,Ck.i ao,Ck.i ao,Ck.s] 1) 0 [CV.s y7,CV.i ao y8,CV.i ao y9,CV.s Lf])) 48)then(ah (Pu.tD wJ (bc y6) (aL (aN [Ck.s,Ck.i ao,Ck.i ao,Ck.s] 1) 0 [CV.s y7,CV.i ao y8,CV.i ao y9,CV.s Lf])))else(aj)) m (i:aw) k s l b0 o)
  (λa=>bif decide ((a:aw)<=(o.length:aw))then ah (Pu.tD o a [lG.nw k s l b0])else aj)
  (λm i h hp=>by
   have mB:b9 (aA (bz (ar o i 0))) (aA k)=true:=by rw[Lib.cG h];exact hp
   simp only[l3,r3,Lib.de,h,aM,Lib.cz,aJ,au,Lib.dU,mB,Lib.c5 h (by omega:o.length<=9223372036854775807)])
  (λm i h hp=>by
   have mB:b9 (aA (bz (ar o i 0))) (aA k)=false:=by rw[Lib.cG h];exact hp
   simp only[l3,r3,Lib.de,h,aM,Lib.cz,aJ,bm,j4,au,ax,Lib.dU,mB,Lib.iU,bC,Lib.cm (n:=o.length+1) (b:=48) (by omega) (by omega)];rfl)
  (λm=>by simp only[l3,r3,Lib.de,bg,a_,aM,Lib.cz,aJ,bm,j4,au,ax,Lib.dU,Lib.iU,bC,Lib.cm (n:=o.length+1) (b:=48) (by omega) (by omega)];rfl) Lib.cy (ck (by omega))
 refine this.trans ?_;have hle:=GI (lG.pl k) o;rw[aE (by omega),au];unfold Pu.tD lG.val;rw[yQ,xJ,htw.1,htw.2,e1,e2,lG.Iu hO.2,lG.Iu hO.2]
end uV

namespace uU
theorem ok(d:aQ)(n:aq)(hl:d.length<=4294967296):c d n=ai/\v d n=v8.val d n:=by
 refine out d n ?_;have h:=eF.ok d n hl;unfold vo b v8.val;rw[h.1,h.2,au];by_cases hn:Lib.fi (jt.p d n) d.length 0<0
 ·rw[aE hn,bB hn];rfl
 ·have hr:=v8.KL d n hn;rw[aG hn,bH hn,ax,aE hr.1,aE hr.2];rfl
end uU

namespace Ja
def nm:aq:={data:= #[aP 107,aP 101,aP 112,aP 116]}
theorem both(rec:aQ)(hr:rec.length<=20000):∀(d i:aC) (o:aQ) (n m:aC),rec.length-i<=d->i<=rec.length->lG.Or o->o.length<=i->d<n->d<m->
  ∃L:aQ,U61.l7 Lib.cy (λ(_ _:aw) (y6:aQ) (_:aQ)=>ah y6) n (rec.length:aw) (i:aw) o rec=ah L/\l7 Lib.cy (λ(_:aw) (y4 _:aQ)=>ah y4) m (i:aw) o rec=ah L/\lG.Or L/\L.length<=20000:=by
 have e1:∀t,vR.v t=rG.v t:=λ_=>rfl;intro d;induction d with
 |zero=>
  intro i o n m h1 h2 hO h3 h4 h5;obtain⟨n,rfl⟩:∃n',n=n'+1:=⟨n-1,by omega⟩
  obtain⟨m,rfl⟩:∃m',m=m'+1:=⟨m-1,by omega⟩
  have jb:decide ((i:aw)<(rec.length:aw))=false:=aG (by omega);exact⟨o,by simp only[U61.l7,U61.r7,jb,ax],by simp only[l7,r7,jb,ax],hO,by omega⟩
 |succ d ih=>
  intro i o n m h1 h2 hO h3 h4 h5;obtain⟨n,rfl⟩:∃n',n=n'+1:=⟨n-1,by omega⟩
  obtain⟨m,rfl⟩:∃m',m=m'+1:=⟨m-1,by omega⟩
  by_cases hi:i<rec.length
  ·have hw:br ((i:aw)+1)=((i+1:aC):aw):=bZ (by omega) (by omega);cases cj:(rG.v (bz (ar rec i 0))).2.2.2.2 with
   |false=>
    obtain⟨L,g1,g2,g3,g4⟩:=ih (i+1) o n m (by omega) hi hO (by omega) (by omega) (by omega);refine⟨L, ?_, ?_,g3,g4⟩
    ·simp only[U61.l7,U61.r7,Lib.de,hi,aM,Lib.cz,aJ,au,Lib.dU,e1,cj,ax,hw];exact g1
    ·simp only[l7,r7,Lib.de,hi,aM,Lib.cz,aJ,au,Lib.dU,cj,ax,hw];exact g2
   |true=>
    have p1:=lG.ok o (rG.v (bz (ar rec i 0))).1 (rG.v (bz (ar rec i 0))).2.1 (rG.v (bz (ar rec i 0))).2.2.1 (rG.v (bz (ar rec i 0))).2.2.2.1 (by omega);have p2:=uV.ok o (rG.v (bz (ar rec i 0))).1 (rG.v (bz (ar rec i 0))).2.1 (rG.v (bz (ar rec i 0))).2.2.1 (rG.v (bz (ar rec i 0))).2.2.2.1 hO (by omega);have p3:=lG.xX hO (rG.v (bz (ar rec i 0))).1 (rG.v (bz (ar rec i 0))).2.1 (rG.v (bz (ar rec i 0))).2.2.1 (rG.v (bz (ar rec i 0))).2.2.2.1;obtain⟨L,g1,g2,g3,g4⟩:=ih (i+1) _ n m (by omega) hi p3.1 (by omega) (by omega) (by omega);refine⟨L, ?_, ?_,g3,g4⟩
    ·simp only[U61.l7,U61.r7,Lib.de,hi,aM,Lib.cz,aJ,au,Lib.dU,e1,cj,p2.1,p2.2,hw];exact g1
    ·simp only[l7,r7,Lib.de,hi,aM,Lib.cz,aJ,au,Lib.dU,cj,p1.1,p1.2,hw];exact g2
  ·have jb:decide ((i:aw)<(rec.length:aw))=false:=aG (by omega);exact⟨o,by simp only[U61.l7,U61.r7,jb,ax],by simp only[l7,r7,jb,ax],hO,by omega⟩
theorem same(d:aQ)(hd:d.length<=1048576):∃L:aQ,(c d=ai/\v d=L)/\(U61.c d=ai/\U61.v d=L)/\(∀y∈L,y.length=4)/\L.length<=20000:=by
 have k1:=gQ.ok d (by omega);have k2:=ia.ok d (by omega);cases hv:gQ.val d with
 |false=>
  refine⟨[],out d ?_,U61.out d ?_,λy hy=>(by cases hy),bk _⟩
  ·unfold vo b;rw[k1.1,k1.2,hv];rfl
  ·unfold U61.vo U61.b;rw[k2.1,k2.2,hv];rfl
 |true=>
  have k3:=v8.ok d nm (by omega);have k4:=uU.ok d nm (by omega);obtain⟨R,u1,u2,u3⟩:=Jb.same (v8.val d nm).1;obtain⟨L,g1,g2,g3,g4⟩:=both R.1 u3 R.1.length 0 [] Lib.cy Lib.cy (by omega) (bk _) ⟨gZ,λy hy=>(by cases hy)⟩ (bk _) (ck (by omega)) (ck (by omega));refine⟨L,out d ?_,U61.out d ?_,λy hy=>(by rw[<-g3.2 y hy];rfl),g4⟩
  ·unfold nm at k3 u1;unfold vo b;rw[k1.1,k1.2,hv,au,aX,ax,k3.1,au,k3.2,u1.1,au,u1.2];exact g2
  ·unfold nm at k4 u2;unfold U61.vo U61.b;rw[k2.1,k2.2,hv,au,aX,ax,k4.1,au,k4.2,u2.1,au,u2.2];exact g1
end Ja

namespace uY
def kept:aq:={data:= #[aP 107,aP 101,aP 112,aP 116]}
def j9(f:aq):aQ:=[[CV.i ao 1,CV.s kept,CV.s f,CV.s {data:= #[]}],[CV.i ao 2,CV.s kept,CV.s {data:= #[]},CV.s {data:= #[]}]]
def val(k:aq)(s l:aw)(b:aq):aQ×aY:=if nq.v k s l b=ai then(j9 (fI.fr (jF.sN k s l b)),ai)else([],ak)
theorem ok(k:aq)(s l:aw)(b0:aq):c k s l b0=ai/\v k s l b0=val k s l b0:=by
 refine out k s l b0 ?_;have hf:=mM.ok k s l b0;unfold vo b val;rw[hf.1,hf.2];unfold mM.val;by_cases h:nq.v k s l b0=ai
 ·rw[bB h,bB h];rfl
 ·rw[bH h,bH h];rfl
end uY

namespace iX
open Lib (rd re rs el Fi En)
open dF (sL jX act j9 Ix put without ra Ac nC)
open gm (So m7 fm)
open XX (fs Stop)
abbrev qT:aq:={data:= #[aP 107,aP 101,aP 112,aP 116]}
def sN(e:En):aq:=jF.sN e.k e.st e.li e.bo
def Ga(e:En):aY:=nq.v e.k e.st e.li e.bo
def Jg(e:En):aq:=fI.fr (sN e)
def tx(es:az En):aq:=fs (es.map sN)
def kp(es:az En):az En:=es.foldl m7 []
theorem agZ(a b:az aq):fs (a++b)=fs a++fs b:=by
 induction a with
 |nil=>exact lI.symm
 |cons x a ih=>rw[sZ];show fI.fr x++fs (a++b)=fI.fr x++fs a++fs b;rw[ih,Eo]
theorem abe(es:az En)(e:En):tx (es++[e])=tx es++Jg e:=by unfold tx;rw[cQ,agZ];show fs (es.map sN)++(fI.fr (sN e)++⟨#[]⟩)=_;rw[show(⟨#[]⟩:aq)=I7 from rfl,qp];rfl
theorem abf{e:En}(h:Ga e=ai):1<=(sN e).size/\(sN e).size<=1000:=⟨mM.CJ h,mM.tY h⟩
theorem Bb{en:az En}(h:So en)(e:En):So (m7 en e):=by have:=(lG.xX (gm.DT h) e.k e.st e.li e.bo).1.1;rw[gm.tN]at this;unfold Lib.re at this;rw[kA]at this;exact this
theorem pZ{en:az En}{x e:En}:x∈m7 en e↔x=e\/(x∈en/\x.k≠e.k):=by
 unfold m7;simp only[bf,dE,aZ,du,iF,fg];constructor
 ·rintro ((⟨h1,h2⟩|rfl)|⟨h1,h2⟩)
  ·refine .inr ⟨h1,λe2=> ?_⟩;rw[e2]at h2;unfold fm at h2;rw[lG.oP]at h2;cases h2
  ·exact .inl rfl
  ·exact .inr ⟨h1,h2.2⟩
 ·rintro (rfl|⟨h1,h2⟩)
  ·exact .inl (.inr rfl)
  ·cases hl:fm x.k e.k with
   |true=>exact .inl (.inl ⟨h1,rfl⟩)
   |false=>exact .inr ⟨h1,rfl,h2⟩
theorem ahF{es:az En}{x:En}(h:x∈kp es):x∈es:=by
 have:∀(es o:az En),x∈es.foldl m7 o->x∈o\/x∈es:=by
  intro es;induction es with
  |nil=>intro o h;exact .inl h
  |cons e es ih=>
   intro o h;rcases ih _ h with h|h
   ·rcases pZ.1 h with rfl|h
    ·exact .inr (by simp)
    ·exact .inl h.1
   ·exact .inr (by simp[h])
 rcases this es [] h with h|h
 ·cases h
 ·exact h
theorem MD(es:az En):(kp es).length<=es.length:=by
 have:∀(es o:az En),So o->(es.foldl m7 o).length<=o.length+es.length:=by
  intro es;induction es with
  |nil=>intro o h;exact cJ _
  |cons e es ih=>intro o h;have:=ih _ (Bb h e);have:=gm.rU o e h;simp only[EI,dh];omega
 have:=this es [] gZ;rw[jN,bT]at this;exact this
theorem fileAt(d:az Fi)(n:aq):v8.val (rd d) n=match d.find? (λx=>decide (x.n=n))with|some f=>(f.t,ai)|none=>(⟨#[]⟩,ak):=by
 unfold v8.val;rw[ed];rcases rE.find d n with ⟨e1,e2⟩|⟨i,hi,e1,e2⟩
 ·rw[e1,e2];rfl
 ·rw[e1,e2,bH (by omega),eT,wd1 hi];rfl
theorem azv(es:az En)(he:∀e∈es,Ga e=ai)(hl:es.length<=20000):∀(d i n:aC) (o:az En),es.length-i<=d->i<=es.length->So o->o.length<=i->d<n->
  U61.l7 Lib.cy (λ(_ _:aw) (y6:aQ) (_:aQ)=>ah y6) n (es.length:aw) (i:aw) (re o) (rs (es.map sN))=ah (re ((es.drop i).foldl m7 o)):=by
 have e1:∀t,vR.v t=rG.v t:=λ_=>rfl;intro d;induction d with
 |zero=>
  intro i n o h1 h2 hO h3 h5;obtain⟨n,rfl⟩:∃n',n=n'+1:=⟨n-1,by omega⟩
  have:i=es.length:=by omega
  subst this;simp only[U61.l7,U61.r7,Lib.de,bg,a_,ax,cD,Yd]
 |succ d ih=>
  intro i n o h1 h2 hO h3 h5;obtain⟨n,rfl⟩:∃n',n=n'+1:=⟨n-1,by omega⟩
  by_cases hi:i<es.length
  ·have E_:i<(es.map sN).length:=by simpa using hi
   have hk:=he _ (bu hi);have hr:rG.v (sN es[i])=(es[i].k,es[i].st,es[i].li,es[i].bo,ai):=rG.enc _ _ _ _ hk;have hp:=uV.ok (re o) es[i].k es[i].st es[i].li es[i].bo (gm.DT hO) (by rw[dr];omega);rw[gm.tN o es[i]]at hp;have hg:(es.map sN)[i]=sN es[i]:=by simp
   simp only[U61.l7,U61.r7,Lib.de,hi,eD,bR,aM,Lib.cz,aJ,au,Lib.dU,XT E_,hg,bz,e1,hr,hp.1,hp.2,Lib.c5 hi (by omega:es.length<=9223372036854775807)];rw[di hi,EI];exact ih (i+1) n _ (by omega) hi (Bb hO _) (by have:=gm.rU o es[i] hO;omega) (by omega)
  ·have:i=es.length:=by omega
   subst this;simp only[U61.l7,U61.r7,Lib.de,bg,a_,ax,cD,Yd]
theorem fk(d:az Fi)(es:az En)(z:aq)(hd:sL d=ai)(hf:(v8.val (rd d) qT).1=tx es++z)(he:∀e∈es,Ga e=ai)(hz:Stop z):
  (U61.c (rd d)=ai/\U61.v (rd d)=re (kp es))/\(Ja.c (rd d)=ai/\Ja.v (rd d)=re (kp es)):=by
 obtain⟨q1,q2,q3⟩:=jX.1 hd;have hs:(tx es++z).size<=20000:=by
  rw[<-hf,fileAt];cases h:d.find? (λx=>decide (x.n=qT))with
  |none=>exact bk _
  |some f=>have:=q2 f (I9 h);unfold nC at this;simp only[aK,bj,du,fg]at this;show f.t.size<=20000;omega
 have hl:es.length<=20000:=by
  have:∀es:az En,es.length<=(tx es).size:=by
   intro es;induction es with
   |nil=>exact cJ _
   |cons e es ih=>
    have:(tx (e::es)).size=(Jg e).size+(tx es).size:=dH;have h2:4<=(Jg e).size:=by unfold Jg fI.fr;rw[dH,dH,XX.oS];omega
    rw[this,dh];omega
  have h2:=this es;rw[dH]at hs;omega
 have u:=XX.ok (es.map sN) (λx hx=>by obtain⟨e,h,rfl⟩:=cw.1 hx;have:=abf (he e h);omega) z hz hs;have k2:=rE.okc d (by omega);have k4:=uU.ok (rd d) qT (by rw[ed];omega);have h1:=U61.out (rd d) (x:=re (kp es)) (by unfold U61.vo U61.b;rw[k2.1,k2.2,hd,au,aX,ax,k4.1,au,k4.2,hf];have hu:=u.1;rw[show fs (es.map sN)=tx es from rfl]at hu;rw[hu.1,au,hu.2];dsimp only;rw[eD,bR];have:=azv es he hl es.length 0 Lib.cy [] (by omega) (bk _) gZ (bk _) (ck (by omega));rw[eN]at this;exact this);obtain⟨L,s1,s2,_⟩:=Ja.same (rd d) (by rw[ed];omega);refine⟨h1,s1.1, ?_⟩
 rw[s1.2,<-s2.2,h1.2]
def base:ay aq->az Fi
 |none=>[]|some t=>[⟨qT,t,t.size⟩]
def bt:ay aq->aq|none=>⟨#[]⟩|some t=>t
def sr(f:aq):az Ac:=[⟨1,qT,f,⟨#[]⟩⟩,⟨2,qT,⟨#[]⟩,⟨#[]⟩⟩]
theorem ok1(f:Fi):sL [f]=nC f:=by
 cases h:nC f with
 |true=>exact jX.2 ⟨by simp,λg hg=>by rw[aZ.1 hg];exact h,by unfold dF.Xx;simp⟩
 |false=>
  cases h2:sL [f]with
  |false=>rfl
  |true=>have:=(jX.1 h2).2.1 f (by simp);rw[h]at this;cases this
theorem agY(t:aq)(k:aw)(h1:t.size<=20000)(h2:0<=k/\k<=(t.size:aw)):nC ⟨qT,t,k⟩=true:=by unfold nC;have:((qT.size:aC):aw)=4:=rfl;rw[this,aE (by omega),aE h2,aG (by dsimp only;omega)];rfl
theorem uo{o:ay aq}(h:(bt o).size<=20000):sL (base o)=true:=by
 cases o with
 |none=>exact jX.2 ⟨bk _,⟨λf hf=>(by cases hf),gZ⟩⟩
 |some t=>exact(ok1 _).trans (agY t _ h ⟨by omega,by omega⟩)
theorem yB{g f:Fi}(h:g.n=f.n):put [g] f=[f]:=by unfold put;rw[cE (by rw[h,dF.irrefl];simp),cE (by simp[h])];rfl
theorem agu{o:ay aq}{f:aq}(h:(bt o).size+f.size<=20000):act (base o) 1 qT f ⟨#[]⟩=ah [⟨qT,bt o++f,(bt o).size⟩]:=by
 unfold act;rw[uo (by omega),show dF.j8 1 f ⟨#[]⟩=ai from by unfold dF.j8;simp,aJ,au];have hs:(bt o++f).size<=20000:=by rw[dH];omega
 have hn:Ix (base o) 1 qT f ⟨#[]⟩=ah [⟨qT,bt o++f,(bt o).size⟩]:=by
  cases o with
  |none=>unfold Ix;show(if(1:aw)=1 then ah (put [] ⟨qT,f,0⟩)else aj)=_;rw[bB rfl];show ah [(⟨qT,f,0⟩:Fi)]=ah [⟨qT,(⟨#[]⟩:aq)++f,((⟨#[]⟩:aq).size:aw)⟩];rw[show(⟨#[]⟩:aq)++f=f from lI];rfl
  |some t=>unfold Ix;rw[show(base (ah t)).find? (λx=>decide (x.n=qT))=ah ⟨qT,t,t.size⟩from by unfold base;simp];dsimp only;rw[bB rfl];exact lH ah (yB rfl)
 rw[hn];dsimp only;rw[ok1,agY _ _ hs ⟨by omega,by rw[dH];omega⟩];rfl
theorem Zc{t:aq}{k:aw}(h:t.size<=20000)(hk:0<=k/\k<=(t.size:aw)):act [⟨qT,t,k⟩] 2 qT ⟨#[]⟩ ⟨#[]⟩=ah (base (ah t)):=by
 unfold act;rw[ok1,agY _ _ h hk,show dF.j8 2 ⟨#[]⟩ ⟨#[]⟩=ai from by unfold dF.j8;simp,aJ,au];have hn:Ix [⟨qT,t,k⟩] 2 qT ⟨#[]⟩ ⟨#[]⟩=ah (base (ah t)):=by unfold Ix;rw[show([⟨qT,t,k⟩]:az Fi).find? (λx=>decide (x.n=qT))=ah ⟨qT,t,k⟩from by simp];dsimp only;rw[bH (by omega),bB rfl];exact lH ah (yB rfl)
 rw[hn];dsimp only;rw[uo (o:=ah t) h];rfl
theorem UQ{o:ay aq}{f:aq}(h:(bt o).size+f.size<=20000):j9 (base o) 0 (sr f)=(base (ah (bt o++f)),2):=by have hs:(bt o++f).size=(bt o).size+f.size:=dH;unfold sr j9;dsimp only;rw[agu h];dsimp only;unfold j9;dsimp only;rw[Zc (by omega) ⟨by omega,by omega⟩];rfl
theorem Qg(o:ay aq):(v8.val (rd (base o)) qT).1=bt o:=by
 rw[fileAt];cases o with
 |none=>rfl
 |some t=>rw[show(base (ah t)).find? (λx=>decide (x.n=qT))=ah ⟨qT,t,t.size⟩from by unfold base;simp];rfl
def kd(es:az En):az Fi:=base (match es with|[]=>aj|_=>ah (tx es))
theorem ayE(es:az En):∃o,kd es=base o/\bt o=tx es:=by
 cases es with
 |nil=>exact⟨aj,rfl,rfl⟩
 |cons e es=>exact⟨ah (tx (e::es)),rfl,rfl⟩
end iX

namespace fu
def has(l:az aq)(k:aq):aY:=l.any λx=>decide (x=k)
def without(l:az aq)(k:aq):az aq:=l.filter λx=> !decide (x=k)
theorem gK{l:az aq}{k:aq}:has l k=ai↔k∈l:=by unfold has;simp
theorem lE{l:az aq}{k:aq}:has l k=ak↔k∉l:=by rw[<-gK];cases has l k<;>simp
theorem wI{l:az aq}{k:aq}(h:has l k=ak):without l k=l:=by unfold without;rw[eJ];intro x hx;have:=lE.1 h;simp;intro e;subst e;exact this hx
theorem iu{l:az aq}{k:aq}:(without l k).length<=l.length:=eV ..
theorem pz{l:az aq}{k:aq}(h:has l k=ai):(without l k).length<l.length:=by unfold without;refine List.length_filter_lt_length_iff_exists.2 ⟨k,gK.1 h,by simp⟩
theorem ok(l:az aq)(k:aq)(hl:l.length<=4294967296):c (Lib.rs l) k=ai/\v (Lib.rs l) k=has l k:=by
 refine out _ _ ?_;unfold vo b
 have:=C9 l (λx=>decide (x=k)) (λm (i:aC)=>l2 Lib.cy (λ(_:aQ) (_:aq) (y6:aY) (_:aw)=>ah y6) (λ(_:aQ) (_:aq) (_:aY) (_:aw)=>ah ak) m (Lib.rs l) k ak (i:aw)) (ah ai) (ah ak)
  (λm i h hp=>by simp only[l2,r2,eD,Lib.de,h,aM,Lib.cz,aJ,au,Lib.dU,XT h,bz,Lib.fw,hp])
  (λm i h hp=>by simp only[l2,r2,eD,Lib.de,h,aM,Lib.cz,aJ,au,Lib.dU,XT h,bz,Lib.fw,hp,ax,Lib.c5 h (by omega:l.length<=9223372036854775807)])
  (λm=>by simp only[l2,r2,eD,Lib.de,bg,a_,ax]) Lib.cy (ck (by omega))
 refine this.trans ?_;unfold has;cases l.any λx=>decide (x=k)<;>rfl
end fu

namespace v7
theorem ok(l:aQ)(hl:l.length<=4294967296):c l=ai/\v l=l:=by refine out l ?_;unfold vo b;rw[show bK (aN [Ck.i ao] 0)+l.length=l.length by simp[aN],Lib.cm (by omega) (by omega)];rfl
end v7

namespace jj
open Lib (rr)
def oF(s:az (az aw)):Prop:=s.length<=1048576/\∀q∈s,q.length<=1048576
theorem run(N:aC)(K0:aQ->aw->aw->aw->aw->ay R)(K1:aQ->aw->aw->aw->aw->aQ->ay R)(s:az (az aw))(z a:aw)(hf:oF s)(m:aC)(hm:s.length+1<m)(kr:aQ->ay R)
  (h0:s=[]->K0 (rr s) 0 0 z a=kr []) (h1:K1 (rr s) s.length s.length z a (rr s)=kr (rr s)):l3 N K0 K1 m (rr s) (s.length:aw) 0 z a=kr (rr s):=by
 obtain⟨m,rfl⟩:∃m',m=m'+1:=⟨m-1,by omega⟩
 have hci:∀i (h:i<s.length),v7.c (Lib.ri s[i])=ai/\v7.v (Lib.ri s[i])=Lib.ri s[i]:=λi h=>v7.ok _ (by rw[Lib.f_];have:=hf.2 _ (bu h);omega);by_cases hs:s=[]
 ·subst hs;simp only[l3,r3,jN,Xt,Int.lt_irrefl,a_,ax];exact h0 rfl
 ·have hp:0<s.length:=NV.2 hs;have key:=jU (R:=R) s.length (λm i (x:aQ)=>sK N K0 K1 m (rr s) (s.length:aw) (i:aw) z a x) (λi=>rr (s.take i)) (kr (rr s)) (λm i h=>by
   have hl:=hf.1;simp only[sK,AY,Lib.de,h,aM,au,Lib.cz,bm,gL,Lib.dU,Lc h,gD,(hci i h).1,(hci i h).2,pL,bC];rw[Lib.cm (by rw[eE];omega) (by rw[eE];omega),au,Lib.c5 h (by omega)];have:=oU (λq=>[CV.l 3 (Lib.ri q)]) s i h;unfold rr;rw[<-this]) (λm=>by
   simp only[sK,AY,Lib.de,bg,a_,ax,dv];exact h1) m 1 hp (by omega)
  simp only[l3,r3,aE (show(0:aw)<(s.length:aw)by omega),au,aJ,gL,show decide ((0:aw)<=0)=ai from rfl];have e:=hci 0 hp;have e0:=Lc (l:=s) hp;simp only[show bc 0=0 from rfl,e0,gD,e.1,e.2,au,pL,gG];rw[show br (0+1)=((1:aC):aw)from rfl];refine Eq.trans ?_ key;have:=oU (λq=>[CV.l 3 (Lib.ri q)]) s 0 hp;unfold rr;rw[show(0+1)=1 from rfl]at this;rw[<-this];rfl
theorem ok(s:az (az aw))(a:aw)(hf:oF s):c (rr s) a=ai/\v (rr s) a=(rr s,a):=by refine out _ _ ?_;unfold vo b;rw[gL];exact run Lib.cy (λ_ _ _ _ y=>ah ([],y)) (λ_ _ _ _ wK Lh=>ah (Lh,wK)) s 0 a hf Lib.cy (ck (by have:=hf.1;omega)) (λx=>ah (x,a)) (λ_=>rfl) rfl
end jj

namespace fK
open Lib (rr)
def O3(n:aw):aY:=decide (0<=n/\n<=15)
def sA(q:az aw):aY:=decide (q.length=16)&&q.all O3
def n_(s:az (az aw))(a:aw):aY:=decide (s.length=3)&&(decide (0<=a/\a<=63)&&s.all sA)
theorem eO(n a b:aw):kq.v n a b=decide (a<=n/\n<=b):=by
 unfold kq.v;by_cases h1:a<=n
 ·rw[aE (show n≥a from h1),au];by_cases h2:n<=b<;>simp[h1,h2]
 ·rw[aG (show¬n≥a from h1),ax];simp[h1]
theorem ok(s:az (az aw))(a:aw)(hf:jj.oF s):c (rr s) a=ai/\v (rr s) a=n_ s a:=by
 refine out _ _ ?_;unfold vo b n_;rw[gL];by_cases h3:¬s.length=3
 ·rw[show((s.length:aw) !=3)=ai by simp;omega,aG h3];rfl
 have h3:s.length=3:=Decidable.not_not.1 h3;rw[show((s.length:aw) !=3)=ak by simp;omega,aE h3,ax,eO];cases h4:decide (0<=a/\a<=63)with
 |false=>rfl
 |true=>
  rw[aX,ax,bm,bm];have inner:∀i (h:i<s.length) (K0 K1:aY->aw->aw->aQ->aw->ay aY) (kf kt:ay aY) (h0:∀j:aw,K0 ak i j (rr s) a=kf) (h1:∀j:aw,K1 ak i j (rr s) a=kt),l9 Lib.cy K0 K1 Lib.cy ak (i:aw) 0 (rr s) a=bif(s[i]).all O3 then kt else kf:=λi h K0 K1 kf kt h0 h1=>
   o_ (s[i]) O3 (λm (j:aC)=>l9 Lib.cy K0 K1 m ak (i:aw) (j:aw) (rr s) a) kf kt
    (λm j hj hp=>by have hl:=hf.2 _ (bu h);unfold O3 at hp;simp only[l9,r9,gL,Lib.de,h,aM,Lib.cz,aJ,au,Lib.dU,Lc h,gD,Lib.f_,hj,RJ hj,bF,eO,hp,aX,ax,Lib.c5 hj (by omega:s[i].length<=9223372036854775807)])
    (λm j hj hp=>by unfold O3 at hp;simp only[l9,r9,gL,Lib.de,h,aM,Lib.cz,aJ,au,Lib.dU,Lc h,gD,Lib.f_,hj,RJ hj,bF,eO,hp,bS,h0])
    (λm=>by simp only[l9,r9,gL,Lib.de,h,aM,Lib.cz,aJ,au,Lib.dU,Lc h,gD,Lib.f_,bg,a_,ax,h1]) Lib.cy (ck (by have:=hf.2 _ (bu h);omega))
  have key:=o_ s sA (λm (i:aC)=>l4 Lib.cy (λ(Fu:aY) (_:aw) (_:aQ) (_:aw)=>ah Fu) (λ(_:aY) (_:aw) (_:aQ) (_:aw)=>ah ai) m ak (i:aw) (rr s) a) (ah ak) (ah ai)
   (λm i h hp=>by unfold sA at hp;rw[aK]at hp;have hl:=cF hp.1;simp only[l4,r4,gL,Lib.de,h,aM,Lib.cz,aJ,au,Lib.dU,Lc h,gD,Lib.f_,hl,show(((16:aC):aw) !=16)=ak from rfl,ax];rw[inner i h _ _ _ _ (λ_=>rfl) (λ_=>rfl),hp.2,au,Lib.c5 h (by omega)])
   (λm i h hp=>by
    unfold sA at hp;by_cases hl:s[i].length=16
    ·rw[aE hl,bm]at hp;simp only[l4,r4,gL,Lib.de,h,aM,Lib.cz,aJ,au,Lib.dU,Lc h,gD,Lib.f_,hl,show(((16:aC):aw) !=16)=ak from rfl,ax];rw[inner i h _ _ _ _ (λ_=>rfl) (λ_=>rfl),hp,ax]
    ·simp only[l4,r4,gL,Lib.de,h,aM,Lib.cz,aJ,au,Lib.dU,Lc h,gD,Lib.f_,show((s[i].length:aw) !=16)=ai by simp;omega])
   (λm=>by simp only[l4,r4,gL,Lib.de,bg,a_,ax]) Lib.cy (ck (by omega))
  refine key.trans ?_;cases s.all sA<;>rfl
end fK

namespace jR
open Lib (rr rs)
open fu (has without gK lE)
def eZ(k:aq):aY:=decide (1<=(k.size:aw)/\(k.size:aw)<=30)
def MB(l:az aq)(i:aC):aY:=eZ (l.getD i ⟨#[]⟩)&& !has (l.take i) (l.getD i ⟨#[]⟩)
def nv(l:az aq):aY:=(ch l.length).all (MB l)
def sS(w m:az aq)(s:az (az aw))(a:aw):aY:=nv (w++m)&&(decide (w.length<=2)&&(decide (m.length<=4)&&fK.n_ s a))
theorem iO(k:aq):s5.v k=eZ k:=fK.eO _ _ _
theorem yS(l:az aq)(i:aC):e8 (Lib.rs l) (bc 0) i=Lib.rs (l.take i):=by unfold e8 Lib.rs;rw[show bc 0=0 from rfl,eN,oN,List.map_take]
theorem ok(w m:az aq)(s:az (az aw))(a:aw)(hw:w.length<=1048576)(hm:m.length<=1048576)(hf:jj.oF s):c (rs w) (rs m) (rr s) a=ai/\v (rs w) (rs m) (rr s) a=sS w m s a:=by
 refine out _ _ _ _ ?_;have h2:=fK.ok s a hf;unfold vo b;have r1:cC (bK (aN [Ck.s] 0)+bK (rs w)) 16=true:=Lib.cm (by simp[aN,eD];omega) (by simp[aN,eD];omega);have r2:cC (bK (aN [Ck.s] 0++rs w)+bK (rs m)) 16=true:=Lib.cm (by simp[aN,eD];omega) (by simp[aN,eD];omega);have e:aN [Ck.s] 0++rs w++rs m=rs (w++m):=by rw[show aN [Ck.s] 0++rs w=rs w from rfl];unfold Lib.rs;rw[cQ]
 rw[r1,r2,au,au,e];have hl:(w++m).length<=2097152:=by rw[cf];omega
 have fP:∀i,i<(w++m).length->fu.c (rs ((w++m).take i)) ((w++m).getD i ⟨#[]⟩)=ai/\fu.v (rs ((w++m).take i)) ((w++m).getD i ⟨#[]⟩)=has ((w++m).take i) ((w++m).getD i ⟨#[]⟩):=λi hi=>fu.ok _ _ (by rw[eE];omega);have hk:∀i (hi:i<(w++m).length),bz (ar (rs (w++m)) i 0)=(w++m).getD i ⟨#[]⟩:=λi hi=>by rw[XT hi,show(w++m).getD i ⟨#[]⟩=(w++m)[i]by rw[d_,dK hi];rfl];rfl
 generalize hL:w++m=L at hl fP hk
 have key:=jS (MB L) L.length (λn (i:aC)=>l3 Lib.cy (λ(y7:aY) (_:aw) (_ _ _:aQ) (_:aw) (_:aQ)=>ah y7) (λ(_:aY) (_:aw) (RO EC GN:aQ) (Fu:aw) (_:aQ)=>bif(decide ((↑(bK RO):aw)<=2))then(bif(decide ((↑(bK EC):aw)<=4))then(bif(fK.c GN Fu)then(ah (fK.v GN Fu))else(aj))else(ah ak))else(ah ak)) n ak (i:aw) (rs w) (rs m) (rr s) a (rs L)) (ah ak) (ah (decide (w.length<=2)&&(decide (m.length<=4)&&fK.n_ s a)))
  (λn i hi hp=>by
   unfold MB at hp;rw[aK,du]at hp;have b1:iA 0 (i:aw) (L.length:aw)=true:=by simp[iA];omega
   simp only[l3,r3,eD,Lib.de,hi,aM,Lib.cz,aJ,au,Lib.dU,hk i hi,iO,hp.1,aX,ax,b1,yS,(fP i hi).1,(fP i hi).2,hp.2,Lib.c5 hi (by omega:L.length<=9223372036854775807)])
  (λn i hi hp=>by
   have b1:iA 0 (i:aw) (L.length:aw)=true:=by simp[iA];omega
   unfold MB at hp;cases h1:eZ (L.getD i ⟨#[]⟩)with
   |false=>simp only[l3,r3,eD,Lib.de,hi,aM,Lib.cz,aJ,au,Lib.dU,hk i hi,iO,h1,bS]
   |true=>rw[h1,bm,mF]at hp;simp only[l3,r3,eD,Lib.de,hi,aM,Lib.cz,aJ,au,Lib.dU,hk i hi,iO,h1,aX,ax,b1,yS,(fP i hi).1,(fP i hi).2,hp])
  (λn=>by simp only[l3,r3,eD,Lib.de,bg,a_,ax,h2.1,h2.2,au];rw[show decide ((w.length:aw)<=2)=decide (w.length<=2)by rw[cg];omega,show decide ((m.length:aw)<=4)=decide (m.length<=4)by rw[cg];omega];cases decide (w.length<=2)<;>cases decide (m.length<=4)<;>rfl) Lib.cy (ck (by omega))
 refine key.trans ?_;unfold sS nv;rw[hL];cases (ch L.length).all (MB L)<;>rfl
end jR

namespace s7
open Lib (rr rs)
open fu (has)
theorem ok(w m:az aq)(s:aQ)(a:aw)(k:aq)(hw:w.length<=1048576)(hm:m.length<=1048576):c (rs w) (rs m) s a k=ai/\v (rs w) (rs m) s a k=(has w k||has m k):=by have h1:=fu.ok w k (by omega);have h2:=fu.ok m k (by omega);exact out _ _ _ _ _ (by unfold vo b;rw[h1.1,h1.2,h2.1,h2.2,au,au];cases has w k<;>rfl)
end s7

namespace nM
open Lib (rr rs re el pF r_ sa sb En)
open fu (has)
open jR (sS)
def ve(e:En):aY:=nq.v e.k e.st e.li e.bo
def Jf(en:az En)(w m:az aq)(i:aC):aY:=
 ve (el en i)&&((decide (i=0)||Go.Op.bytesLess (aA (el en (i-1)).k) (aA (el en i).k))&&(has w (el en i).k||has m (el en i).k))
def Ov(en:az En)(w m:az aq)(s:az (az aw))(a:aw):aY:=(ch en.length).all (Jf en w m)&&(sS w m s a&&decide (w.length+m.length=en.length))
theorem ok(i0:aw)(en:az En)(w m:az aq)(s:az (az aw))(a:aw)(r6 r7:aQ)(i8:aw)(he:en.length<=1048576)(hw:w.length<=1048576)(hm:m.length<=1048576)(hf:jj.oF s):
  c i0 (re en) (rs w) (rs m) (rr s) a r6 r7 i8=ai/\v i0 (re en) (rs w) (rs m) (rr s) a r6 r7 i8=Ov en w m s a:=by
 refine out _ _ _ _ _ _ _ _ _ ?_;have h1:=jR.ok w m s a hw hm hf;have h2:=λk=>s7.ok w m (rr s) a k hw hm;unfold vo b
 have key:=jS (Jf en w m) en.length (λn (i:aC)=>l2 Lib.cy (λ(wJ:aY) (_ _:aw) (_ _ _ _:aQ) (_:aw) (_ _:aQ) (_:aw)=>ah wJ) (λ(_:aY) (_ _:aw) (RP RQ Jj RR:aQ) (RS:aw) (_ _:aQ) (_:aw)=>bif(jR.c RQ Jj RR RS)then(bif(jR.v RQ Jj RR RS)then(ah (decide ((↑(bK RP):aw)=br ((↑(bK RQ):aw)+(↑(bK Jj):aw)))))else(ah ak))else(aj)) n ak (i:aw) i0 (re en) (rs w) (rs m) (rr s) a r6 r7 i8) (ah ak) (ah (sS w m s a&&decide (w.length+m.length=en.length)))
  (λn i hi hp=>by
   unfold Jf ve at hp;rw[aK,aK]at hp;obtain⟨p1,p2,p3⟩:=hp;by_cases hz:i=0
   ·subst hz;simp only[l2,r2,dr,Lib.de,hi,aM,Lib.cz,aJ,au,Lib.dU,pF hi,r_ hi,sa hi,sb hi,bz,bF,p1,aX,ax,aG (show¬(((0:aC):aw)>0)by omega),(h2 _).1,(h2 _).2,p3,Lib.c5 hi (by omega:en.length<=9223372036854775807)]
   ·rw[aG hz,od]at p2;have iV:i-1<en.length:=by omega
    simp only[l2,r2,dr,Lib.de,hi,aM,Lib.cz,aJ,au,Lib.dU,pF hi,r_ hi,sa hi,sb hi,bz,bF,p1,aX,ax,aE (show(i:aw)>0 by omega),lS (show 0<i by omega) (by omega),iV,pF iV,p2,(h2 _).1,(h2 _).2,p3,Lib.c5 hi (by omega:en.length<=9223372036854775807)])
  (λn i hi hp=>by
   unfold Jf ve at hp;cases p1:nq.v (el en i).k (el en i).st (el en i).li (el en i).bo with
   |false=>simp only[l2,r2,dr,Lib.de,hi,aM,Lib.cz,aJ,au,Lib.dU,pF hi,r_ hi,sa hi,sb hi,bz,bF,p1,bS]
   |true=>
    rw[p1,bm]at hp;by_cases hz:i=0
    ·subst hz;rw[aE rfl,BD,bm]at hp;simp only[l2,r2,dr,Lib.de,hi,aM,Lib.cz,aJ,au,Lib.dU,pF hi,r_ hi,sa hi,sb hi,bz,bF,p1,aX,bS,ax,aG (show¬(((0:aC):aw)>0)by omega),(h2 _).1,(h2 _).2,hp]
    ·rw[aG hz,od]at hp;have iV:i-1<en.length:=by omega
     cases p2:b9 (aA (el en (i-1)).k) (aA (el en i).k)with
     |false=>simp only[l2,r2,dr,Lib.de,hi,aM,Lib.cz,aJ,au,Lib.dU,pF hi,r_ hi,sa hi,sb hi,bz,bF,p1,aX,bS,ax,aE (show(i:aw)>0 by omega),lS (show 0<i by omega) (by omega),iV,pF iV,p2]
     |true=>rw[p2,bm]at hp;simp only[l2,r2,dr,Lib.de,hi,aM,Lib.cz,aJ,au,Lib.dU,pF hi,r_ hi,sa hi,sb hi,bz,bF,p1,aX,bS,ax,aE (show(i:aw)>0 by omega),lS (show 0<i by omega) (by omega),iV,pF iV,p2,(h2 _).1,(h2 _).2,hp])
  (λn=>by simp only[l2,r2,dr,Lib.de,bg,a_,ax,h1.1,h1.2,au,eD];rw[bZ (x:=(w.length:aw)+(m.length:aw)) (by omega) (by omega),show decide ((en.length:aw)=(w.length:aw)+(m.length:aw))=decide (w.length+m.length=en.length)by rw[cg];omega];cases sS w m s a<;>rfl) Lib.cy (ck (by omega))
 refine key.trans ?_;unfold Ov;cases (ch en.length).all (Jf en w m)<;>rfl
end nM

namespace nN
open Lib (rf el I1 GM wf2 Bh RM RN Fe)
open jR (eZ)
def nC(now:aw)(f:Fe):aY:=eZ f.k&&(decide ((f.t.size:aw)<=400)&&(decide (1<=f.sta/\f.sta<=3)&&(decide (0<=f.li/\f.li<=999999)&&decide (0<=f.st/\f.st<=now))))
def mw(f g:Fe):aY:=decide (f.sta=1)&&(decide (g.sta=1)&&decide (f.k=g.k))
def apart(fe:az Fe)(i:aC):aY:=(ch i).all λj=> !mw (el fe i) (el fe j)
theorem eO(n a b:aw):kq.v n a b=decide (a<=n/\n<=b):=fK.eO n a b
theorem ok(i0:aw)(r1 r2 r3 r4:aQ)(i5:aw)(fe:az Fe)(r7:aQ)(i8:aw)(i:aC)(hi:i<fe.length)(hf:fe.length<=1048576):
  c i0 r1 r2 r3 r4 i5 (rf fe) r7 i8 (i:aw)=ai/\v i0 r1 r2 r3 r4 i5 (rf fe) r7 i8 (i:aw)=(nC i0 (el fe i)&&apart fe i):=by
 refine out _ _ _ _ _ _ _ _ _ _ ?_;unfold vo b
 have key:=jS (λj=> !mw (el fe i) (el fe j)) i (λn (j:aC)=>l5 Lib.cy (λ(_:aw) (GN:aY) (_ _:aw) (_ _ _ _:aQ) (_:aw) (_ _:aQ) (_:aw) (_ _:aq) (_ _ _:aw)=>ah GN) (λ(_:aw) (_:aY) (_ _:aw) (_ _ _ _:aQ) (_:aw) (_ _:aQ) (_:aw) (_ _:aq) (_ _ _:aw)=>ah ai) n (i:aw) ak (j:aw) i0 r1 r2 r3 r4 i5 (rf fe) r7 i8 (el fe i).k (el fe i).t (el fe i).sta (el fe i).li (el fe i).st) (ah ak) (ah ai)
  (λn j hj hp=>by
   have kg:j<fe.length:=by omega
   rw[du]at hp;unfold mw at hp;have e:decide ((el fe j).k=(el fe i).k)=decide ((el fe i).k=(el fe j).k):=by rw[cg];exact JY
   simp only[l5,r5,Lib.de,hj,aM,Lib.cz,aJ,au,Lib.dU,dQ,kg,I1 kg,Bh kg,bz,bF,Lib.fw,e,Lib.c5 hj (by omega:i<=9223372036854775807)];revert hp;cases decide ((el fe i).k=(el fe j).k)<;>cases decide ((el fe j).sta=1)<;>cases decide ((el fe i).sta=1)<;>intro hp<;>first|rfl|cases hp)
  (λn j hj hp=>by
   have kg:j<fe.length:=by omega
   rw[mF]at hp;unfold mw at hp;rw[aK,aK]at hp;have e:decide ((el fe j).k=(el fe i).k)=decide ((el fe i).k=(el fe j).k):=by rw[cg];exact JY
   simp only[l5,r5,Lib.de,hj,aM,Lib.cz,aJ,au,Lib.dU,dQ,kg,I1 kg,Bh kg,bz,bF,Lib.fw,e,hp.1,hp.2.1,hp.2.2])
  (λn=>by simp only[l5,r5,Lib.de,bg,a_,ax]) Lib.cy (ck (by omega))
 simp only[dQ,Lib.de,hi,aM,Lib.cz,aJ,au,Lib.dU,I1 hi,GM hi,wf2 hi,RM hi,RN hi,bz,bF,eO,jR.iO];rw[show l5 Lib.cy _ _ Lib.cy (i:aw) ak 0 i0 r1 r2 r3 r4 i5 (rf fe) r7 i8 (el fe i).k (el fe i).t (el fe i).sta (el fe i).li (el fe i).st=_ from key];unfold nC apart;rw[show decide (((el fe i).t.size:aw)>400)= !decide (((el fe i).t.size:aw)<=400)by rw[<-decide_not,cg];omega];cases eZ (el fe i).k<;>cases decide (((el fe i).t.size:aw)<=400)<;>cases decide (1<=(el fe i).sta/\(el fe i).sta<=3)<;>cases decide (0<=(el fe i).li/\(el fe i).li<=999999)<;>cases decide (0<=(el fe i).st/\(el fe i).st<=i0)<;>cases (ch i).all (λj=> !mw (el fe i) (el fe j))<;>rfl
end nN

namespace qR
open Lib (rr rs re rf rc el En Fe Cl Px Ro wc1 wc2 wc3 wc4 wc5 wc6)
open jR (eZ)
open nM (Ov)
open nN (nC apart eO)
def Je(now:aw)(nf:aC)(cl:az Cl)(i:aC):aY:=
 decide (1<=(el cl i).id/\(el cl i).id<=9)&&((decide (i=0)||decide ((el cl (i-1)).id<(el cl i).id))&&(eZ (el cl i).k&&(decide (1<=(el cl i).sta/\(el cl i).sta<=3)&&(decide (0<=(el cl i).fe/\(el cl i).fe<=(nf:aw))&&(decide (((el cl i).got.size:aw)<=400)&&(decide (0<=(el cl i).fr/\(el cl i).fr<=now)&&decide (0<=(el cl i).age)))))))
def jv(p:Px):aY:=
 decide (1<=p.now/\p.now<=1000000000)&&(Ov p.en p.w p.m p.s p.a&&(decide (p.fe.length<=20)&&(decide (p.cl.length<=6)&&(decide (0<=p.hits/\p.hits<=1000000000)&&((ch p.fe.length).all (λi=>nC p.now (el p.fe i)&&apart p.fe i)&&(ch p.cl.length).all (Je p.now p.fe.length p.cl))))))
theorem step(N:aC)(g k0 k1:aY->aw->aw->aQ->aQ->aQ->aQ->aw->aQ->aQ->aw->ay R)(i0:aw)(q1 q2 q3 q4:aQ)(i5:aw)(fe:az Fe)(cl:az Cl)(i8:aw)(i:aC)(hi:i<cl.length)(hl:cl.length<=1048576):
  r9 N g k0 k1 ak (i:aw) i0 q1 q2 q3 q4 i5 (rf fe) (rc cl) i8=bif Je i0 fe.length cl i then g ak ((i+1:aC):aw) i0 q1 q2 q3 q4 i5 (rf fe) (rc cl) i8 else k0 ak (i:aw) i0 q1 q2 q3 q4 i5 (rf fe) (rc cl) i8:=by
 unfold Je;have e1:decide (((el cl i).got.size:aw)>400)= !decide (((el cl i).got.size:aw)<=400):=by rw[<-decide_not,cg];omega
 have e2:decide ((el cl i).age<0)= !decide (0<=(el cl i).age):=by rw[<-decide_not,cg];omega
 by_cases hz:i=0
 ·subst hz;simp only[r9,fc,dQ,Lib.de,hi,aM,Lib.cz,aJ,au,Lib.dU,Ro hi,wc1 hi,wc2 hi,wc3 hi,wc4 hi,wc5 hi,wc6 hi,bz,bF,eO,jR.iO,aG (show¬(((0:aC):aw)>0)by omega),ax,e1,e2,Lib.c5 hi (by omega:cl.length<=9223372036854775807),BD,bm];cases decide (1<=(el cl 0).id/\(el cl 0).id<=9)<;>cases eZ (el cl 0).k<;>cases decide (1<=(el cl 0).sta/\(el cl 0).sta<=3)<;>cases decide (0<=(el cl 0).fe/\(el cl 0).fe<=(fe.length:aw))<;>cases decide (((el cl 0).got.size:aw)<=400)<;>cases decide (0<=(el cl 0).fr/\(el cl 0).fr<=i0)<;>cases decide (0<=(el cl 0).age)<;>rfl
 ·have iV:i-1<cl.length:=by omega
  have e3:decide ((el cl (i-1)).id≥(el cl i).id)= !decide ((el cl (i-1)).id<(el cl i).id):=by rw[<-decide_not,cg];omega
  simp only[r9,fc,dQ,Lib.de,hi,aM,Lib.cz,aJ,au,Lib.dU,Ro hi,wc1 hi,wc2 hi,wc3 hi,wc4 hi,wc5 hi,wc6 hi,bz,bF,eO,jR.iO,aE (show(i:aw)>0 by omega),lS (show 0<i by omega) (by omega),iV,Ro iV,ax,e1,e2,e3,Lib.c5 hi (by omega:cl.length<=9223372036854775807),aG hz,od];cases decide (1<=(el cl i).id/\(el cl i).id<=9)<;>cases decide ((el cl (i-1)).id<(el cl i).id)<;>cases eZ (el cl i).k<;>cases decide (1<=(el cl i).sta/\(el cl i).sta<=3)<;>cases decide (0<=(el cl i).fe/\(el cl i).fe<=(fe.length:aw))<;>cases decide (((el cl i).got.size:aw)<=400)<;>cases decide (0<=(el cl i).fr/\(el cl i).fr<=i0)<;>cases decide (0<=(el cl i).age)<;>rfl
theorem ok(p:Px)(hp:p.Fit 1048576):c p.now (re p.en) (rs p.w) (rs p.m) (rr p.s) p.a (rf p.fe) (rc p.cl) p.hits=ai/\v p.now (re p.en) (rs p.w) (rs p.m) (rr p.s) p.a (rf p.fe) (rc p.cl) p.hits=jv p:=by
 refine out _ _ _ _ _ _ _ _ _ ?_;have h1:=nM.ok p.now p.en p.w p.m p.s p.a (rf p.fe) (rc p.cl) p.hits hp.en hp.w hp.m ⟨hp.s.1,hp.s.2.1⟩;have OM:=hp.fe;have pD:=hp.cl;unfold vo b;have h2:=λi hi=>nN.ok p.now (re p.en) (rs p.w) (rs p.m) (rr p.s) p.a p.fe (rc p.cl) p.hits i hi OM
 have kc:=λ(n:aC) (hn:p.cl.length<n)=>jS (Je p.now p.fe.length p.cl) p.cl.length (λn (i:aC)=>l9 Lib.cy (λ(Xj:aY) (_ _:aw) (_ _ _ _:aQ) (_:aw) (_ _:aQ) (_:aw)=>ah Xj) (λ(_:aY) (_ _:aw) (_ _ _ _:aQ) (_:aw) (_ _:aQ) (_:aw)=>ah ai) n ak (i:aw) p.now (re p.en) (rs p.w) (rs p.m) (rr p.s) p.a (rf p.fe) (rc p.cl) p.hits) (ah ak) (ah ai)
  (λn i hi hq=>by simp only[l9];rw[step _ _ _ _ _ _ _ _ _ _ _ _ _ i hi pD,hq];rfl)
  (λn i hi hq=>by simp only[l9];rw[step _ _ _ _ _ _ _ _ _ _ _ _ _ i hi pD,hq];rfl)
  (λn=>by simp only[l9,r9,fc,Lib.de,bg,a_,ax]) n hn
 have kf:=jS (λi=>nC p.now (el p.fe i)&&apart p.fe i) p.fe.length (λn (i:aC)=>l4 Lib.cy (λ(wJ:aY) (_ _:aw) (_ _ _ _:aQ) (_:aw) (_ _:aQ) (_:aw)=>ah wJ) (λ(Li:aY) (_ XW:aw) (RP RQ Jj RR:aQ) (RS:aw) (RT RU:aQ) (Rq:aw)=>l9 Lib.cy (λ(Xj:aY) (_ _:aw) (_ _ _ _:aQ) (_:aw) (_ _:aQ) (_:aw)=>ah Xj) (λ(_:aY) (_ _:aw) (_ _ _ _:aQ) (_:aw) (_ _:aQ) (_:aw)=>ah ai) Lib.cy Li 0 XW RP RQ Jj RR RS RT RU Rq) n ak (i:aw) p.now (re p.en) (rs p.w) (rs p.m) (rr p.s) p.a (rf p.fe) (rc p.cl) p.hits) (ah ak) (ah ((ch p.cl.length).all (Je p.now p.fe.length p.cl)))
  (λn i hi hq=>by simp only[l4,r4,dQ,Lib.de,hi,aM,au,(h2 i hi).1,(h2 i hi).2,hq,aX,ax,Lib.c5 hi (by omega:p.fe.length<=9223372036854775807)])
  (λn i hi hq=>by simp only[l4,r4,dQ,Lib.de,hi,aM,au,(h2 i hi).1,(h2 i hi).2,hq,bS])
  (λn=>by simp only[l4,r4,dQ,Lib.de,bg,a_,ax];refine(kc Lib.cy (ck (by omega))).trans ?_;cases (ch p.cl.length).all (Je p.now p.fe.length p.cl)<;>rfl) Lib.cy (ck (by omega))
 rw[eO,eO,h1.1,h1.2,au,dQ,fc];rw[show l4 Lib.cy _ _ Lib.cy ak 0 p.now (re p.en) (rs p.w) (rs p.m) (rr p.s) p.a (rf p.fe) (rc p.cl) p.hits=_ from kf];unfold jv;rw[show decide ((p.fe.length:aw)>20)= !decide (p.fe.length<=20)by rw[<-decide_not,cg];omega,show decide ((p.cl.length:aw)>6)= !decide (p.cl.length<=6)by rw[<-decide_not,cg];omega];cases decide (1<=p.now/\p.now<=1000000000)<;>cases Ov p.en p.w p.m p.s p.a<;>cases decide (p.fe.length<=20)<;>cases decide (p.cl.length<=6)<;>cases decide (0<=p.hits/\p.hits<=1000000000)<;>cases (ch p.fe.length).all (λi=>nC p.now (el p.fe i)&&apart p.fe i)<;>cases (ch p.cl.length).all (Je p.now p.fe.length p.cl)<;>rfl
end qR

namespace vD
open Lib (Px Cl Fe En el)
def ec(f:aC)(st:aw)(t:aq)(c:Cl):Cl:=bif decide (c.fe=(f:aw)+1)&&decide (c.sta=1)then{c with sta:=st,got:=t}else c
def oi(cl:az Cl)(f:aC)(st:aw)(t:aq):az Cl:=cl.map (ec f st t)
theorem la{α:Type}(l:az α)(g:α->α):l.mapIdx (λ_ c=>g c)=l.map g:=by apply jO<;>simp
end vD

namespace ig
open Lib (Px Cl Fe En el)
open qR (jv)
open vD (oi)
def vB(p:Px)(f:aw):aY:=jv p&&(decide (0<=f/\f<=(p.fe.length:aw)-1)&&decide ((el p.fe f.toNat).sta=1))
def told(p:Px)(f:aC)(g:Fe)(st:aw):Px:={p with fe:=p.fe.set f g,cl:=oi p.cl f st g.t}
theorem jx{p:Px}{f:aw}(h:vB p f=ai):∃n:aC,f=(n:aw)/\n<p.fe.length/\jv p=ai/\(el p.fe n).sta=1:=by unfold vB at h;simp only[aK,bj]at h;obtain⟨h1,h2,h3⟩:=h;exact⟨f.toNat,by omega,by omega,h1,h3⟩
theorem nU{p:Px}{n f:aC}{g:Fe}{st:aw}(h:p.Fit n):(told p f g st).Fit n:=by
 refine⟨h.en,h.w,h.m,h.s, ?_, ?_⟩
 ·show(p.fe.set f g).length<=n;rw[cO];exact h.fe
 ·show(oi p.cl f st g.t).length<=n;unfold vD.oi;rw[bR];exact h.cl
def F7(p:Px)(f:aw):Px×aY:=bif vB p f then(told p f.toNat {el p.fe f.toNat with sta:=3} 3,ai)else(p,ak)
def Gz(p:Px)(f:aw)(t:aq):Px×aY:=
 bif vB p f&&(decide (1<=t.size/\t.size<=40)&&decide ((el p.fe f.toNat).t.size+t.size<=400))then(told p f.toNat {el p.fe f.toNat with t:=(el p.fe f.toNat).t++t} 1,ai)else(p,ak)
theorem jT{l:az Fe}{n:aC}{g:Fe}(h:n<l.length):el (l.set n g) n=g:=by rw[fF (by rw[cO];exact h),kD]
theorem yN(l:az Fe)(n j:aC)(ys:az CV)(g:Fe)(h:n<l.length)(hs:dS (Fe.row (el l n)) j ys=Fe.row g):cK (Lib.rf l) n j ys=Lib.rf (l.set n g):=by rw[fF h]at hs;exact kO Fe.row l n j ys g h hs
theorem acf{p:Px}(h:jv p=ai)(i:aC)(hi:i<p.fe.length):nN.nC p.now (el p.fe i)=true:=by unfold qR.jv at h;simp only[aK,bj]at h;obtain⟨_,_,_,_,_,h6,_⟩:=h;rw[bA]at h6;have:=h6 i (by simpa using hi);rw[aK]at this;exact this.1
end ig

namespace gu
theorem apq(x:aw):0<=bE eI x/\bE eI x<4294967296:=by have e:bE eI x=x%4294967296:=rfl;rw[e];omega
theorem aiu(x:aw):0<=jP.rd x/\jP.rd x<4294967296:=by unfold jP.rd;cases decide (cT x 2=1)<;>exact apq _
theorem Pg:∀(n:aC) (x:aw),0<=x/\x<4294967296->0<=jP.nH n x/\jP.nH n x<4294967296
 |0,_,h=>h
 |n+1,x,_=>Pg n _ (aiu x)
theorem W6(t:aq):∀(d i:aC) (s:aw),0<=s/\s<4294967296->0<=jP.su t d i s/\jP.su t d i s<4294967296
 |0,_,_,h=>h
 |d+1,i,s,h=>W6 t d (i+1) _ (Pg 8 _ (apq _))
def keyed(i:aC)(key:aq):aq:=key++bytesOf [[CV.i ba (i:aw)]]
def sm(i:aC)(key:aq):aw:=jP.su (keyed i key) (keyed i key).size 0 4294967295
def pl(i:aC)(key:aq):aC:=(cT (sm i key) 16).toNat
theorem M5(i:aC)(key:aq):0<=sm i key/\sm i key<4294967296:=W6 _ _ _ _ (by omega)
theorem pl_int(i:aC)(key:aq):cT (sm i key) 16=(pl i key:aw):=by have:=M5 i key;have h:0<=cT (sm i key) 16:=Yb _ this.1;unfold pl;omega
theorem D0(i:aC)(key:aq):pl i key<16:=by have:=M5 i key;have h:=Int.tmod_lt_of_pos (sm i key) (show(0:aw)<16 by omega);have h2:0<=cT (sm i key) 16:=Yb _ this.1;unfold pl;omega
theorem Eb(i:aC)(key:aq):(keyed i key).size=key.size+1:=by unfold keyed;rw[dH,Ea]
theorem ok(i:aC)(key:aq)(hi:i<3)(hk:key.size<=140737488355328):c (i:aw) key=ai/\v (i:aw) key=(pl i key:aw):=by
 refine out _ _ ?_;unfold vo b;have e:(key++bytesOf (aL (aN [Ck.i ba] 1) 0 [CV.i ba (bE ba (i:aw))]))=keyed i key:=by
  unfold keyed;match i,hi with
  |0,_=>rfl
  |1,_=>rfl
  |2,_=>rfl
 have hs:=Eb i key;have h:=vW.ok (keyed i key) (by omega);have e2:b8 key+b8 (bytesOf (aL (aN [Ck.i ba] 1) 0 [CV.i ba (bE ba (i:aw))]))=key.size+1:=by rw[pL,Ea]
 rw[e2,e,aE (by omega),au,h.1,h.2,au];have hp:=pl_int i key;have hl:=D0 i key;unfold sm at hp;rw[hp,bZ (by omega) (by omega)]
end gu

namespace nY
open Lib (rr)
theorem run(N:aC)(K0:aw->aQ->aw->aw->aw->ay R)(K1:aw->aQ->aw->aw->aw->aQ->ay R)(s:az (az aw))(z y a:aw)(hf:jj.oF s)(m:aC)(hm:s.length+1<m)(kr:aQ->ay R)
  (h0:s=[]->K0 0 (rr s) z y a=kr []) (h1:K1 s.length (rr s) z y a (rr s)=kr (rr s)):l3 N K0 K1 m 0 (rr s) z y a=kr (rr s):=by
 obtain⟨m,rfl⟩:∃m',m=m'+1:=⟨m-1,by omega⟩
 have hz:∀q:aQ,aN [Ck.i ao] 0++q=q:=λq=>rfl;have hci:∀i (h:i<s.length),cC (bK (aN [Ck.i ao] 0)+bK (Lib.ri s[i])) 8=true:=λi h=>by have:=hf.2 _ (bu h);exact Lib.cm (by rw[Lib.f_];simp[aN];omega) (by rw[Lib.f_];simp[aN];omega)
 by_cases hs:s=[]
 ·subst hs;simp only[l3,r3,gL,jN,Xt,Int.lt_irrefl,a_,ax];exact h0 rfl
 ·have hp:0<s.length:=NV.2 hs;have key:=jU (R:=R) s.length (λm i (x:aQ)=>sK N K0 K1 m (i:aw) (rr s) z y a x) (λi=>rr (s.take i)) (kr (rr s)) (λm i h=>by
   have hl:=hf.1;simp only[sK,AY,gL,Lib.de,h,aM,au,Lib.cz,bm,Lib.dU,Lc h,gD,hci i h,hz,pL,bC];rw[Lib.cm (by rw[eE];omega) (by rw[eE];omega),au,Lib.c5 h (by omega)];have:=oU (λq=>[CV.l 3 (Lib.ri q)]) s i h;unfold rr;rw[<-this]) (λm=>by
   simp only[sK,AY,gL,Lib.de,bg,a_,ax,dv];exact h1) m 1 hp (by omega)
  have e:=hci 0 hp;have e0:=Lc (l:=s) hp;simp only[l3,r3,aE (show(0:aw)<(s.length:aw)by omega),au,aJ,gL,show decide ((0:aw)<=0)=ai from rfl,show bc 0=0 from rfl,e0,gD,e,hz,au,pL,gG];rw[show br (0+1)=((1:aC):aw)from rfl];refine Eq.trans ?_ key;have:=oU (λq=>[CV.l 3 (Lib.ri q)]) s 0 hp;unfold rr;rw[show(0+1)=1 from rfl]at this;rw[<-this];rfl
theorem ok(s:az (az aw))(a:aw)(hf:jj.oF s):c (rr s) a=ai/\v (rr s) a=(rr s,a):=by refine out _ _ ?_;unfold vo b;exact run Lib.cy (λ_ _ _ _ y=>ah ([],y)) (λ_ _ _ _ wK Lh=>ah (Lh,wK)) s a 0 a hf Lib.cy (ck (by have:=hf.1;omega)) (λx=>ah (x,a)) (λ_=>rfl) rfl
end nY

namespace dq
open Lib (rr ri)
def bq(p:aC)(q:az aw):az aw:=q.set p (bif decide (q.getD p 0<15)then q.getD p 0+1 else q.getD p 0)
def E4(s:az (az aw))(key:aq):az (az aw):=s.mapIdx λi q=>bq (gu.pl i key) q
def half(s:az (az aw)):az (az aw):=s.map λq=>q.map λn=>c7 n 2
def val(s:az (az aw))(a:aw)(key:aq):az (az aw)×aw:=
 bif fK.n_ s a then(bif decide (a+1=64)then(half (E4 s key),0)else(E4 s key,a+1))else(s,a)
def fR(q:az aw):az CV:=[CV.l 3 (ri q)]
theorem Rk(q:az aw)(p:aC)(x:aw)(h:p<q.length):cK (ri q) p 0 [CV.i ao x]=ri (q.set p x):=kO (λn=>[CV.i ao n]) q p 0 _ x h rfl
theorem Rl(L:az (az aw))(i:aC)(q:az aw)(h:i<L.length):cK (L.map fR) i 0 [CV.l 3 (ri q)]=(L.set i q).map fR:=kO fR L i 0 _ q h rfl
theorem Dg(L:az (az aw))(i:aC)(h:i<L.length):ar (L.map fR) i 0=CV.l 3 (ri L[i]):=fE fR L i 0 h
theorem uF{s:az (az aw)}{a:aw}(h:fK.n_ s a=ai):s.length=3/\(0<=a/\a<=63)/\∀q∈s,q.length=16/\∀n∈q,0<=n/\n<=15:=by
 unfold fK.n_ at h;rw[aK,aK]at h;refine⟨cF h.1,cF h.2.1,λq hq=> ?_⟩
 have:=bA.1 h.2.2 q hq;unfold fK.sA at this;rw[aK]at this;refine⟨cF this.1,λn hn=> ?_⟩
 have:=bA.1 this.2 n hn;unfold fK.O3 at this;exact cF this
theorem nD{q:az aw}{p:aC}(h:p<q.length):q.getD p 0=q[p]:=by simp[gg,h]
theorem aiy(K:aq->aw->aw->aw->aQ->ay R)(s:az (az aw))(key:aq)(y a:aw)(hs:s.length=3)(hq:∀q∈s,q.length=16/\∀n∈q,0<=n/\n<=15)(hk:key.size<=140737488355328):
  l5 Lib.cy K Lib.cy key 0 y a (rr s)=K key 3 y a (rr (E4 s key)):=by
 refine(nJ fR s (λi q=>bq (gu.pl i key) q) (λm (i:aC) x=>l5 Lib.cy K m key (i:aw) y a x) (λx=>K key 3 y a x) (λm i L h h2 hL wv=> ?_) (λm L hL=> ?_) Lib.cy (ck (by omega)))
 ·have hp:=gu.ok i key (by omega) hk;have sR:=gu.D0 i key;obtain⟨K_,hn⟩:=hq _ (bu h);have e0:ar (L.map fR) i 0=CV.l 3 (ri s[i]):=by rw[Dg L i h2,wv]
  have hb:gu.pl i key<s[i].length:=by omega
  have hx:=hn _ (bu hb);simp only[l5,r5,bR,Lib.de,h2,aM,au,hp.1,hp.2,Lib.cz,aJ,Lib.dU,e0,gD,Lib.f_,K_,sR,RJ hb,bF];unfold bq;rw[nD hb];cases hd:decide (s[i][gu.pl i key]<15)with
  |true=>have:=cF hd;rw[au,au,bZ (x:=s[i][gu.pl i key]+1) (by omega) (by omega),Rk _ _ _ hb,Rl _ _ _ h2,Lib.c5 h2 (by omega)]
  |false=>rw[ax,ax,Lib.c5 h2 (by omega),fy,<-wv,fy]
 ·simp only[l5,r5,bR,Lib.de,hL,bg,a_,ax,hs];rfl
theorem tf{s:az (az aw)}{key:aq}(hs:s.length=3)(hq:∀q∈s,q.length=16/\∀n∈q,0<=n/\n<=15):(E4 s key).length=3/\∀q∈E4 s key,q.length=16/\∀n∈q,0<=n/\n<=15:=by
 unfold E4;refine⟨by simp[hs],λq hm=> ?_⟩
 obtain⟨i,hi,rfl⟩:=List.mem_mapIdx.1 hm;obtain⟨K_,hn⟩:=hq _ (bu hi);unfold bq;have hb:gu.pl i key<s[i].length:=by have:=gu.D0 i key;omega
 refine⟨by rw[cO];exact K_,λn h=> ?_⟩
 rcases jE h with h|h
 ·exact hn n h
 ·rw[nD hb]at h;have hx:=hn _ (bu hb);rw[h];cases hd:decide (s[i][gu.pl i key]<15)with
  |true=>have:=cF hd;rw[au];omega
  |false=>rw[ax];exact hx
theorem aoy(K:aw->aw->aw->aw->aQ->ay R)(L:az (az aw))(i:aC)(h:i<L.length)(y a:aw)(hl:L.length<=1048576)(hq:L[i].length=16)(hn:∀n∈L[i],0<=n/\n<=15):
  l17 Lib.cy K Lib.cy (i:aw) 0 y a (L.map fR)=K i 16 y a ((L.set i (L[i].map λn=>c7 n 2)).map fR):=by
 have hmi:L[i].mapIdx (λ_ n=>c7 n 2)=L[i].map λn=>c7 n 2:=by apply jO<;>simp
 have key:=jU (L[i].length) (λm (k:aC) x=>l17 Lib.cy K m (i:aw) (k:aw) y a x) (λk=>(L.set i (oa L[i] (λ_ n=>c7 n 2) k)).map fR) (K i 16 y a ((L.set i (L[i].map λn=>c7 n 2)).map fR)) (λm k hk=> ?_) (λm=> ?_) Lib.cy 0 (bk _) (ck (by omega))
 ·rw[Ei,fy]at key;exact key
 ·have hu:=qN L[i] (λ_ n=>c7 n 2) k (by omega);generalize hU:oa L[i] (λ_ n=>c7 n 2) k=U at hu;have hku:k<U.length:=by omega
  have gk:U[k]=L[i][k]:=by subst hU;exact yR _ _ _ hk _
  have ahp:U.set k (c7 L[i][k] 2)=oa L[i] (λ_ n=>c7 n 2) (k+1):=by subst hU;exact tZ L[i] (λ_ n=>c7 n 2) k hk
  have h2:i<(L.set i U).length:=by simpa using h
  have e0:ar ((L.set i U).map fR) i 0=CV.l 3 (ri U):=by rw[Dg _ _ h2,kD]
  have hx:=hn _ (bu hk);have ht:0<=c7 L[i][k] 2:=Ya hx.1 (by omega);have Im:c7 L[i][k] 2<=15:=Bk (Xu _ hx.1) hx.2;simp only[l17,r17,bR,cO,Lib.de,h,hku,aM,au,Lib.cz,aJ,Lib.dU,e0,gD,Lib.f_,RJ hku,bF,gk];rw[bZ (x:=c7 L[i][k] 2) (by omega) (by omega),Rk _ _ _ hku,Rl _ _ _ h2,ahp,pI,Lib.c5 hk (by omega)]
 ·have e0:ar ((L.set i (oa L[i] (λ_ n=>c7 n 2) L[i].length)).map fR) i 0=CV.l 3 (ri (L[i].map λn=>c7 n 2)):=by rw[Dg _ _ (by simpa using h),kD,qM,hmi]
  simp only[l17,r17,bR,cO,Lib.de,h,aM,au,Lib.cz,aJ,Lib.dU,e0,gD,Lib.f_,bg,a_,ax];rw[qM,hmi,hq];rfl
theorem aow(K:aw->aw->aw->aQ->ay R)(s:az (az aw))(y a:aw)(hs:s.length=3)(hq:∀q∈s,q.length=16/\∀n∈q,0<=n/\n<=15):
  l14 Lib.cy K Lib.cy 0 y a (rr s)=K 3 y a (rr (half s)):=by
 have hmi:s.mapIdx (λ_ q=>q.map λn=>c7 n 2)=half s:=by unfold half;apply jO<;>simp
 rw[<-hmi];refine(nJ fR s (λ_ q=>q.map λn=>c7 n 2) (λm (i:aC) x=>l14 Lib.cy K m (i:aw) y a x) (λx=>K 3 y a x) (λm i L h h2 hL wv=> ?_) (λm L hL=> ?_) Lib.cy (ck (by omega)))
 ·obtain⟨K_,hn⟩:=hq _ (bu h);simp only[l14,r14,bR,Lib.de,h2,aM,au];rw[aoy _ L i h2 y a (by omega) (by rw[wv];exact K_) (by rw[wv];exact hn),Lib.c5 h2 (by omega),wv]
 ·simp only[l14,r14,bR,Lib.de,hL,bg,a_,ax,hs];rfl
theorem ok(s:az (az aw))(a:aw)(key:aq)(hf:jj.oF s)(hk:key.size<=140737488355328):c (rr s) a key=ai/\v (rr s) a key=(rr (val s a key).1,(val s a key).2):=by
 refine out _ _ _ ?_;have h1:=nY.ok s a hf;have h2:=fK.ok s a hf;unfold vo b val;rw[h1.1,h1.2,h2.1,h2.2,au,au];cases cj:fK.n_ s a with
 |false=>rfl
 |true=>
  obtain⟨hs,ha,hq⟩:=uF cj;obtain⟨b1,b2⟩:=tf (key:=key) hs hq;rw[aX,ax,au,aiy _ s key _ _ hs hq hk,bZ (x:=a+1) (by omega) (by omega)];cases hd:decide (a+1=64)with
  |false=>rfl
  |true=>rw[au,au,aow _ _ _ _ b1 b2]
end dq

namespace mz
open Lib (rr ri)
def gs(key:aq):aC->az (az aw)->aw->aw
 |_,[],x=>x
 |i,q::r,x=>gs key (i+1) r (bif decide (q.getD (gu.pl i key) 0<x)then q.getD (gu.pl i key) 0 else x)
def val(s:az (az aw))(a:aw)(key:aq):aw:=bif fK.n_ s a then gs key 0 s 15 else 0
theorem Ig(key:aq)(s:az (az aw))(i:aC)(h:i<s.length)(x:aw):gs key i (s.drop i) x=gs key (i+1) (s.drop (i+1)) (bif decide (s[i].getD (gu.pl i key) 0<x)then s[i].getD (gu.pl i key) 0 else x):=by rw[di h];rfl
theorem ok(s:az (az aw))(a:aw)(key:aq)(hf:jj.oF s)(hk:key.size<=140737488355328):c (rr s) a key=ai/\v (rr s) a key=val s a key:=by
 refine out _ _ _ ?_;have h2:=fK.ok s a hf;unfold vo b val;rw[h2.1,h2.2,au];cases cj:fK.n_ s a with
 |false=>rfl
 |true=>
  obtain⟨hs,ha,hq⟩:=dq.uF cj;rw[aX,ax,au];have:=Lib.dB (λm (t:aC×aw)=>l5 Lib.cy (λ(_:aq) (y6 _:aw) (_:aQ) (_:aw)=>ah y6) m key t.2 (t.1:aw) (rr s) a) (λt=>s.length-t.1) (λt=>t.1<=s.length) (λt=>ah (gs key t.1 (s.drop t.1) t.2)) (λm t ht=>by
   obtain⟨i,x⟩:=t;dsimp only at ht⊢;by_cases h:i<s.length
   ·right;have hp:=gu.ok i key (by omega) hk;have sR:=gu.D0 i key;obtain⟨K_,hn⟩:=hq _ (bu h);have hb:gu.pl i key<s[i].length:=by omega
    refine⟨(i+1,bif decide (s[i].getD (gu.pl i key) 0<x)then s[i].getD (gu.pl i key) 0 else x),by dsimp only;omega,by dsimp only;omega,by rw[<-Ig key s i h x], ?_⟩
    simp only[l5,r5,gL,Lib.de,h,aM,au,hp.1,hp.2,Lib.cz,aJ,Lib.dU,Lc h,gD,Lib.f_,K_,sR,RJ hb,bF,Lib.c5 h (by omega:s.length<=9223372036854775807)];rw[dq.nD hb];cases decide (s[i][gu.pl i key]<x)<;>rfl
   ·left;have:i=s.length:=by omega
    subst this;simp only[l5,r5,gL,Lib.de,bg,a_,ax,cD,gs]) Lib.cy (0,15) (bk _) (ck (by dsimp only;omega))
  simpa using this
end mz

namespace gh
open Lib (rr rs)
theorem ok(w m:az aq)(s:az (az aw))(a:aw)(hw:w.length<=1048576)(hm:m.length<=1048576)(hf:jj.oF s):c (rs w) (rs m) (rr s) a=ai/\v (rs w) (rs m) (rr s) a=(rs w,rs m,rr s,a):=by have h3:=nY.ok s a hf;have r1:cC (bK (aN [Ck.s] 0)+bK (rs w)) 16=true:=Lib.cm (by simp[aN,eD];omega) (by simp[aN,eD];omega);have r2:cC (bK (aN [Ck.s] 0)+bK (rs m)) 16=true:=Lib.cm (by simp[aN,eD];omega) (by simp[aN,eD];omega);exact out _ _ _ _ (by unfold vo b;rw[r1,r2,h3.1,h3.2,au,au,au];rfl)
end gh

namespace o9
theorem ok(l:az aq)(k:aq)(hl:l.length<=1048576):c (Lib.rs l) k=ai/\v (Lib.rs l) k=Lib.rs (fu.without l k):=by
 refine out _ _ ?_;unfold vo b;have key:=jU l.length (λm (i:aC) (x:aQ)=>l3 Lib.cy (λ(_:aQ) (_:aq) (_:aw) (y7:aQ)=>ah y7) m (Lib.rs l) k (i:aw) x) (λi=>Lib.rs (fu.without (l.take i) k)) (ah (Lib.rs (fu.without l k))) (λm i h=>by
  have hlen:=fu.iu (l:=l.take i) (k:=k);rw[eE]at hlen;simp only[l3,r3,eD,Lib.de,h,aM,Lib.cz,aJ,au,Lib.dU,XT h,bz,Lib.fw,pL,bC,Lib.c5 h (by omega:l.length<=9223372036854775807)];rw[Lib.cm (by omega) (by omega),au];have e:fu.without (l.take (i+1)) k=fu.without (l.take i) k++(bif !decide (l[i]=k)then [l[i]]else []):=by unfold fu.without;rw[bQ h,ij];cases hd:decide (l[i]=k)<;>simp[hd]
  rw[e];cases hd:decide (l[i]=k)with
  |true=>rw[aX,ax,ax,cu]
  |false=>rw[bS,au,au];unfold Lib.rs;rw[cQ];rfl) (λm=>by
  simp only[l3,r3,eD,Lib.de,bg,a_,ax,dv]) Lib.cy 0 (bk _) (ck (by omega))
 exact key
end o9

namespace e6
open Lib (rr rs)
open fu (has without gK lE wI iu pz)
open jR (eZ MB nv sS iO)
def val(w m:az aq)(s:az (az aw))(a:aw)(key:aq):az aq×az aq×az (az aw)×aw×aq:=
 bif sS w m s a&&eZ key then
  bif has w key then(without w key++[key],m,(dq.val s a key).1,(dq.val s a key).2,⟨#[]⟩)
  else bif has m key then(w,without m key++[key],(dq.val s a key).1,(dq.val s a key).2,⟨#[]⟩)
  else bif decide ((w++[key]).length<=2)then(w++[key],m,(dq.val s a key).1,(dq.val s a key).2,⟨#[]⟩)
  else bif decide (m.length<4)then((w++[key]).tail,m++[(w++[key]).getD 0 ⟨#[]⟩],(dq.val s a key).1,(dq.val s a key).2,⟨#[]⟩)
  else bif decide (mz.val (dq.val s a key).1 (dq.val s a key).2 ((w++[key]).getD 0 ⟨#[]⟩)>mz.val (dq.val s a key).1 (dq.val s a key).2 (m.getD 0 ⟨#[]⟩))then
   ((w++[key]).tail,m.tail++[(w++[key]).getD 0 ⟨#[]⟩],(dq.val s a key).1,(dq.val s a key).2,m.getD 0 ⟨#[]⟩)
  else((w++[key]).tail,m,(dq.val s a key).1,(dq.val s a key).2,(w++[key]).getD 0 ⟨#[]⟩)
 else(w,m,s,a,⟨#[]⟩)
theorem Ec(l:az aq)(k:aq):rs l++[[CV.s k]]=rs (l++[k]):=by unfold Lib.rs;rw[cQ];rfl
theorem zer(l:az aq):aN [Ck.s] 0++rs l=rs l:=rfl
theorem Ug(l:az aq):bz (ar (rs l) (bc 0) 0)=l.getD 0 ⟨#[]⟩:=by cases l<;>rfl
theorem W8(l:az aq):e8 (rs l) (bc 1) (bc (l.length:aw))=rs l.tail:=by unfold e8 Lib.rs;rw[show bc 1=1 from rfl,Lib.dU,List.drop_one,<-List.map_tail,fX (by simp)]
theorem ny{l:az aq}(h:nv l=ai){k:aq}(hk:k∈l):eZ k=true:=by
 unfold nv at h;rw[bA]at h;obtain⟨i,hi,rfl⟩:=c_ hk;have:=h i (by simpa using hi);unfold MB at this;rw[aK]at this;have e:l.getD i ⟨#[]⟩=l[i]:=by simp[gg,hi]
 rw[e]at this;exact this.1
theorem wB{l:az aq}:nv l=ai↔(∀k∈l,eZ k=ai)/\l.Nodup:=by
 constructor
 ·intro h;refine⟨λk hk=>ny h hk, ?_⟩
  rw[pH,dz];intro i j hi hj QF he;unfold nv at h;rw[bA]at h;have h2:=h j (by simpa using hj);unfold MB at h2;have e:l.getD j ⟨#[]⟩=l[j]:=by simp[gg,hj]
  rw[e,aK,du,lE]at h2;refine h2.2 ?_;rw[<-he];have:(l.take j)[i]'(by rw[eE];omega)=l[i]:=nk ..;rw[<-this];exact bu _
 ·intro h;unfold nv;rw[bA];intro j hj;have hj:j<l.length:=by simpa using hj
  unfold MB;have e:l.getD j ⟨#[]⟩=l[j]:=by simp[gg,hj]
  rw[e,aK,du,lE];refine⟨h.1 _ (bu hj),λhm=> ?_⟩
  obtain⟨i,hi,he⟩:=c_ hm;rw[eE]at hi;rw[nk]at he;have h2:=h.2;rw[pH,dz]at h2;exact h2 i j (by omega) hj (by omega) he
theorem kH{k:aq}(h:eZ k=ai):1<=k.size/\k.size<=30:=by unfold eZ at h;have:=cF h;omega
theorem M1{s:az (az aw)}{a:aw}{key:aq}(h:jj.oF s):jj.oF (dq.val s a key).1:=by
 unfold dq.val;cases cj:fK.n_ s a with
 |false=>exact h
 |true=>
  obtain⟨hs,_,hq⟩:=dq.uF cj;obtain⟨b1,b2⟩:=dq.tf (key:=key) hs hq;rw[au];cases decide (a+1=64)with
  |false=>exact⟨by rw[ax];dsimp only;omega,λq h=>by have:=(b2 q h).1;omega⟩
  |true=>
   rw[au];dsimp only;unfold dq.half;refine⟨by rw[bR];omega,λq h=> ?_⟩
   obtain⟨q',hq',rfl⟩:=cw.1 h;rw[bR];have:=(b2 q' hq').1;omega
theorem tw{l:az aq}(h:0<l.length):l.getD 0 ⟨#[]⟩∈l:=by
 cases l with
 |nil=>simp at h
 |cons x r=>exact dL ..
theorem DX{w m:az aq}{s:az (az aw)}{a:aw}(h:sS w m s a=ai):nv (w++m)=ai/\w.length<=2/\m.length<=4/\fK.n_ s a=true:=by unfold sS at h;simp only[aK,bj]at h;exact⟨h.1,h.2.1,h.2.2.1,h.2.2.2⟩
theorem ok(w m:az aq)(s:az (az aw))(a:aw)(key:aq)(hw:w.length<=1048576)(hm:m.length<=1048576)(hf:jj.oF s)(hk:key.size<=140737488355328):
  c (rs w) (rs m) (rr s) a key=ai/\v (rs w) (rs m) (rr s) a key=(rs (val w m s a key).1,rs (val w m s a key).2.1,rr (val w m s a key).2.2.1,(val w m s a key).2.2.2.1,(val w m s a key).2.2.2.2):=by
 refine out _ _ _ _ _ ?_;have h1:=gh.ok w m s a hw hm hf;have h2:=jR.ok w m s a hw hm hf;have h3:=dq.ok s a key hf hk;have h4:=fu.ok w key (by omega);have h5:=fu.ok m key (by omega);have h6:=o9.ok w key hw;have h7:=o9.ok m key hm;have sf:=M1 (a:=a) (key:=key) hf;unfold vo b;simp only[Lib.lt,h1.1,h1.2,h2.1,h2.2,au];unfold val;cases hp:sS w m s a with
 |false=>rfl
 |true=>
  obtain⟨p1,p2,p3,p4⟩:=DX hp;rw[iO,bm];cases zA:eZ key with
  |false=>rfl
  |true=>
   have B6:=kH zA;have l6:=iu (l:=w) (k:=key);have l7:=iu (l:=m) (k:=key);simp only[aX,ax,au,h3.1,h3.2,h4.1,h4.2,h5.1,h5.2,h6.1,h6.2,h7.1,h7.2,Ec,zer,eD,pL,bC];rw[Lib.cm (n:=(without w key).length+1) (by omega) (by omega),Lib.cm (n:=(without m key).length+1) (by omega) (by omega),Lib.cm (n:=w.length+1) (by omega) (by omega)];simp only[au];cases hA:has w key with
   |true=>rfl
   |false=>
    cases hB:has m key with
    |true=>rfl
    |false=>
     simp only[ax];rw[show decide (((w++[key]).length:aw)<=2)=decide ((w++[key]).length<=2)by rw[cg];omega];cases hC:decide ((w++[key]).length<=2)with
     |true=>rfl
     |false=>
      have hlw:(w++[key]).length=3:=by have:=oK hC;rw[cf,bC]at this⊢;omega
      have hfm:(w++[key]).getD 0 ⟨#[]⟩∈w++[key]:=tw (by omega);have Mo:((w++[key]).getD 0 ⟨#[]⟩).size<=30:=by
       rcases bf.1 hfm with h|h
       ·exact(kH (ny p1 (bW _ h))).2
       ·rw[aZ]at h;rw[h];exact B6.2
      have g1:=mz.ok (dq.val s a key).1 (dq.val s a key).2 ((w++[key]).getD 0 ⟨#[]⟩) sf (by omega);have i1:iA 1 ((w++[key]).length:aw) ((w++[key]).length:aw)=true:=by rw[hlw];rfl
      have ht:(w++[key]).tail.length=2:=by rw[BI];omega
      have rz:cC (bK (aN [Ck.s] 0)+(w++[key]).tail.length) 16=true:=Lib.cm (by rw[ht];decide) (by rw[ht];decide);simp only[ax,aE (show(0:aw)<((w++[key]).length:aw)by omega),i1,au,Ug,W8,rz,zer,Ec,eD,Lib.cm (n:=m.length+1) (b:=16) (by omega) (by omega),g1.1,g1.2];rw[show decide ((m.length:aw)<4)=decide (m.length<4)by rw[cg];omega];cases hD:decide (m.length<4)with
      |true=>rfl
      |false=>
       have hm4:m.length=4:=by have:=oK hD;omega
       have hmm:m.getD 0 ⟨#[]⟩∈m:=tw (by omega);have hms:=(kH (ny p1 (bO _ hmm))).2;have g2:=mz.ok (dq.val s a key).1 (dq.val s a key).2 (m.getD 0 ⟨#[]⟩) sf (by omega);have i2:iA 1 (m.length:aw) (m.length:aw)=true:=by simp[iA];omega
       have Im:m.tail.length=3:=by rw[BI];omega
       have rz2:cC (bK (aN [Ck.s] 0)+m.tail.length) 16=true:=Lib.cm (by rw[Im];decide) (by rw[Im];decide);simp only[ax,aE (show(0:aw)<(m.length:aw)by omega),i2,au,rz2,Ec,Lib.cm (n:=m.tail.length+1) (b:=16) (by omega) (by omega),g2.1,g2.2];cases decide (mz.val (dq.val s a key).1 (dq.val s a key).2 ((w++[key]).getD 0 ⟨#[]⟩)>mz.val (dq.val s a key).1 (dq.val s a key).2 (m.getD 0 ⟨#[]⟩))<;>rfl
def lens(s:az (az aw)):az aC:=s.map bK
theorem Gr(s:az (az aw))(key:aq):lens (dq.E4 s key)=lens s:=by
 unfold lens dq.E4;apply jO
 ·simp
 ·intro i h1 h2;simp[dq.bq]
theorem QS(s:az (az aw)):lens (dq.half s)=lens s:=by unfold lens dq.half;rw[kl];apply wU;intro q _;simp
theorem Ze(s:az (az aw))(a:aw)(key:aq):lens (dq.val s a key).1=lens s:=by
 unfold dq.val;cases fK.n_ s a with
 |false=>rfl
 |true=>
  cases decide (a+1=64)with
  |false=>exact Gr s key
  |true=>exact(QS _).trans (Gr s key)
theorem Nh(w m:az aq)(s:az (az aw))(a:aw)(key:aq):(val w m s a key).1.length<=w.length+1/\(val w m s a key).2.1.length<=m.length+1/\lens (val w m s a key).2.2.1=lens s:=by
 have hw:=iu (l:=w) (k:=key);have hm:=iu (l:=m) (k:=key);have hs:=Ze s a key;unfold val;cases sS w m s a&&eZ key with
 |false=>exact⟨by rw[ax];exact jr _,by rw[ax];exact jr _,rfl⟩
 |true=>
  rw[au];cases has w key with
  |true=>refine⟨?_, ?_,hs⟩<;>(simp only[au];simp;try omega)
  |false=>
   cases has m key with
   |true=>refine⟨?_, ?_,hs⟩<;>(simp only[au,ax];simp;try omega)
   |false=>
    cases decide ((w++[key]).length<=2)with
    |true=>refine⟨?_, ?_,hs⟩<;>(simp only[au,ax];simp;try omega)
    |false=>
     cases decide (m.length<4)with
     |true=>refine⟨?_, ?_,hs⟩<;>(simp only[au,ax];simp;try omega)
     |false=>
      cases decide (mz.val (dq.val s a key).1 (dq.val s a key).2 ((w++[key]).getD 0 ⟨#[]⟩)>mz.val (dq.val s a key).1 (dq.val s a key).2 (m.getD 0 ⟨#[]⟩))with
      |true=>refine⟨?_, ?_,hs⟩<;>(simp only[au,ax];simp;try omega)
      |false=>refine⟨?_, ?_,hs⟩<;>(simp only[au,ax];simp;try omega)
end e6

namespace lV
open Lib (rr rs re rf rc Px En el)
open fu (has)
open gm (fm So fY m7 xI drop_nil DT tN H4 TX rU)
def EB(p:Px)(e:En):Px:=
 {p with
  w:=(e6.val p.w p.m p.s p.a e.k).1
  m:=(e6.val p.w p.m p.s p.a e.k).2.1
  s:=(e6.val p.w p.m p.s p.a e.k).2.2.1
  a:=(e6.val p.w p.m p.s p.a e.k).2.2.2.1
  en:=bif has (e6.val p.w p.m p.s p.a e.k).1 e.k||has (e6.val p.w p.m p.s p.a e.k).2.1 e.k then m7 (fY p.en (e6.val p.w p.m p.s p.a e.k).2.2.2.2) e else fY p.en (e6.val p.w p.m p.s p.a e.k).2.2.2.2}
theorem aoD{en:az En}{w m:az aq}(h:(ch en.length).all (nM.Jf en w m)=ai):So en/\∀e∈en,1<=e.k.size:=by
 rw[bA]at h;have h1:∀i (hi:i<en.length),nM.Jf en w m i=true:=λi hi=>h i (by simpa using hi);constructor
 ·have adj:∀d i (hi:i+d+1<en.length),fm (el en i).k (el en (i+d+1)).k=true:=by
   intro d;induction d with
   |zero=>
    intro i hi;have:=h1 (i+1) (by omega);unfold nM.Jf at this;rw[aK,aK,dM]at this;rcases this.2.1 with h|h
    ·have:=cF h;omega
    ·exact h
   |succ d ih=>
    intro i hi;have a:=ih i (by omega);have:=h1 (i+d+1+1) (by omega);unfold nM.Jf at this;rw[aK,aK,dM]at this;rcases this.2.1 with h|h
    ·have:=cF h;omega
    ·exact lG.pb _ _ _ a h
  unfold So;rw[dz];intro i j hi hj QF;have:=adj (j-i-1) i (by omega);rw[show i+(j-i-1)+1=j by omega,fF hi,fF hj]at this;exact this
 ·intro e he;obtain⟨i,hi,rfl⟩:=c_ he;have:=h1 i hi;unfold nM.Jf nM.ve at this;rw[aK,fF hi]at this;exact(nq.KL this.1).1.1
theorem IH{p:Px}(h:qR.jv p=ai):So p.en/\(∀e∈p.en,1<=e.k.size)/\p.en.length<=6/\p.w.length<=2/\p.m.length<=4/\p.fe.length<=20/\p.cl.length<=6/\(1<=p.now/\p.now<=1000000000)/\(0<=p.hits/\p.hits<=1000000000)/\jR.sS p.w p.m p.s p.a=ai/\(∀i,i<p.fe.length->nN.nC p.now (el p.fe i)=ai):=by
 unfold qR.jv at h;simp only[aK,bj]at h;obtain⟨h1,h2,h3,h4,h5,h6,h7⟩:=h;unfold nM.Ov at h2;simp only[aK,bj]at h2;obtain⟨g1,g2,g3⟩:=h2;obtain⟨s1,s2⟩:=aoD g1;obtain⟨_,q2,q3,_⟩:=e6.DX g2;refine⟨s1,s2,by omega,q2,q3,h3,h4,h1,h5,g2,λi hi=> ?_⟩
 rw[bA]at h6;have:=h6 i (by simpa using hi);rw[aK]at this;exact this.1
theorem jJ{p:Px}(h:qR.jv p=ai):p.Fit 48:=by
 obtain⟨_,_,a1,a2,a3,a4,a5,_,_,hp,_⟩:=IH h;obtain⟨_,_,_,hs⟩:=e6.DX hp;unfold fK.n_ at hs;simp only[aK,bj,bA]at hs;obtain⟨s1,_,s3⟩:=hs;have s4:∀q∈p.s,q.length=16:=λq hq=>by have:=s3 q hq;unfold fK.sA at this;rw[aK,bj]at this;exact this.1
 refine⟨by omega,by omega,by omega,⟨by omega,λq hq=>by rw[s4 q hq];omega, ?_⟩,by omega,by omega⟩
 have:p.s.map bK=List.replicate 3 16:=by
  rw[List.eq_replicate_iff];refine⟨by rw[bR,s1],λx hx=> ?_⟩
  obtain⟨q,hq,rfl⟩:=cw.1 hx;exact s4 q hq
 rw[this];decide
end lV

namespace vh
open Lib (Px Cl Fe En el)
open ig (vB told)
def lD(f:Fe):En:=⟨f.k,f.st,f.li,f.t⟩
def cls(p:Px)(f:aw)(life:aw):Px×aY:=
 bif vB p f&&decide (0<=life/\life<=999999)then
  (bif decide (life>0)then lV.EB (told p f.toNat {el p.fe f.toNat with sta:=2,li:=life,st:=p.now} 2) (lD {el p.fe f.toNat with sta:=2,li:=life,st:=p.now})
   else told p f.toNat {el p.fe f.toNat with sta:=2,li:=life,st:=p.now} 2,ai)
 else(p,ak)
theorem JR{p:Px}{f life:aw}:(cls p f life).1.now=p.now/\(cls p f life).1.hits=p.hits:=by
 unfold cls;cases vB p f&&decide (0<=life/\life<=999999)with
 |false=>exact⟨rfl,rfl⟩
 |true=>cases decide (life>0)<;>exact⟨rfl,rfl⟩
end vh

namespace je
open Lib (Px Cl Fe En el rc rf re)
open fu (has without)
open jR (eZ)
open qR (jv)
open gm (So fY)
def tv(e:En)(now:aw):aY:=HR.v e.k e.st e.li e.bo now
def jn(l:az Cl)(c:Cl):az Cl:=l.filter (λx=>decide (x.id<c.id))++[c]++l.filter (λx=>decide (x.id>c.id))
def mn(l:az Cl)(id:aw):aY:=l.any λx=>decide (x.id=id)
def L5(l:az En)(key:aq):ay En:=l.find? λe=>decide (e.k=key)
def Ji(key:aq)(f:Fe):aY:=decide (f.k=key)&&decide (f.sta=1)
def RI(l:az Fe)(key:aq):ay aC:=l.findIdx? (Ji key)
def vf(key:aq):Fe:=⟨key,⟨#[]⟩,1,0,0⟩
def put(p:Px)(id:aw)(key:aq)(h:aY)(fe:az Fe)(i:aC):Px:=
 {p with en:=bif h then fY p.en key else p.en,w:=bif h then without p.w key else p.w,m:=bif h then without p.m key else p.m,s:=(dq.val p.s p.a key).1,a:=(dq.val p.s p.a key).2,fe:=fe,cl:=jn p.cl ⟨id,key,(i:aw)+1,0,1,(el fe i).t,0⟩}
def wC(p:Px)(id:aw)(key:aq)(h:aY):Px×aw:=
 match RI p.fe key with
 |some i=>(put p id key h p.fe i,0)
 |none=>bif decide (p.fe.length<20)then(put p id key h (p.fe++[vf key]) p.fe.length,0)else(p,2)
def hit(p:Px)(id:aw)(key:aq)(e:En):Px:=
 {p with w:=(e6.val p.w p.m p.s p.a key).1,m:=(e6.val p.w p.m p.s p.a key).2.1,s:=(e6.val p.w p.m p.s p.a key).2.2.1,a:=(e6.val p.w p.m p.s p.a key).2.2.2.1,cl:=jn p.cl ⟨id,key,0,e.st,2,e.bo,p.now-e.st⟩,hits:=bif decide (p.hits<1000000000)then p.hits+1 else p.hits}
def ask(p:Px)(id:aw)(key:aq):Px×aw:=
 bif jv p&&(decide (1<=id/\id<=9)&&(eZ key&&(!mn p.cl id&&decide (p.cl.length<6))))then
  match L5 p.en key with
  |some e=>bif tv e p.now then(hit p id key e,0)else wC p id key ai
  |none=>wC p id key ak
 else(p,1)
theorem L_{α:Type}(l:az α)(q:α->aY)(p:aC->aY)(h:∀i (hi:i<l.length),p i=q l[i]):decide (Lib.fi p l.length 0≥0)=l.any q:=by
 rcases Lib.ph p l.length 0 with ⟨e,ha⟩|⟨k,_,hk,e,hp,_⟩
 ·rw[e,aG (by omega)];symm;rw[List.any_eq_false];intro x hx;obtain⟨i,hi,rfl⟩:=c_ hx;rw[<-h i hi,ha i (by omega) (by omega)];simp
 ·rw[e,aE (by omega)];symm;rw[List.any_eq_true];exact⟨_,bu (by omega:k<l.length),by rw[<-h k (by omega)];exact hp⟩
theorem Cv{α:Type}[Inhabited α](l:az α)(q:α->aY)(p:aC->aY)(h:∀i (hi:i<l.length),p i=q l[i]):
  (Lib.fi p l.length 0= -1/\l.find? q=aj/\l.findIdx? q=aj)\/∃i,i<l.length/\Lib.fi p l.length 0=(i:aw)/\l.find? q=ah (el l i)/\l.findIdx? q=ah i:=by
 rcases Lib.ph p l.length 0 with ⟨e,ha⟩|⟨k,_,hk,e,hp,hb⟩
 ·have hn:∀x∈l,q x=false:=λx hx=>by obtain⟨i,hi,rfl⟩:=c_ hx;rw[<-h i hi,ha i (by omega) (by omega)]
  refine .inl ⟨e,Yc.2 λx hx=>by rw[hn x hx];simp,FE.2 hn⟩
 ·have vq:k<l.length:=by omega
  have f:l.findIdx? q=ah k:=yY.2 ⟨vq,by rw[<-h k vq];exact hp,λj hj=>by rw[<-h j (by omega),hb j (by omega) hj];simp⟩;refine .inr ⟨k,vq,e, ?_,f⟩;rw[BH];exact⟨by rw[fF vq,<-h k vq];exact hp,k,vq,(fF vq).symm,λj hj=>by rw[<-h j (by omega),hb j (by omega) hj];rfl⟩
def lid(id:aw)(y:az CV):aY:=decide (bF (y.getD 0 (.b ak))<id)
theorem UO{l:az Cl}{c:Cl}(cs:l.Pairwise λa b=>a.id<b.id)(hn:mn l c.id=ak):
  (rc l).take ((rc l).takeWhile (lid c.id)).length++[Cl.row c]++(rc l).drop ((rc l).takeWhile (lid c.id)).length=rc (jn l c):=by
 rw[yQ,xJ];have iy:∀y∈l,y.id≠c.id:=λy hy e=>by unfold mn at hn;rw[List.any_eq_false]at hn;exact hn y hy (aE e)
 obtain⟨t1,t2⟩:=Lib.Be (λx:Cl=>decide (x.id<c.id)) (λx=>decide (x.id>c.id)) l (λy hy=>by
  have:=iy y hy;by_cases h:y.id<c.id
  ·rw[aE h,aG (by omega)];rfl
  ·rw[aG h,aE (by omega)];rfl) (cs.imp λ{a b} hab h=>aE (by have:=cF h;omega))
 unfold Lib.rc;rw[P_,P9];have e:lid c.id∘Cl.row=λx:Cl=>decide (x.id<c.id):=rfl;rw[e,t1,t2];unfold jn;rw[cQ,cQ];rfl
end je

namespace wZ
open Lib (rd el Fi)
open dF (sL jX)
def kN(left:aQ)(i:aC)(f:Fi):aw:=bif decide (i<left.length)then il ai f.kp (il ak (bF (ar left i 0)) (f.t.size:aw))else f.kp
def Qo(left:aQ)(i:aC)(f:Fi):Fi:=⟨f.n,f.t.extract 0 (kN left i f).toNat,kN left i f⟩
def MF(d:az Fi)(left:aQ):ay (az Fi):=bif sL d then ah (d.mapIdx (Qo left))else aj
theorem MA(left:aQ)(i:aC){f:Fi}(h:0<=f.kp/\f.kp<=(f.t.size:aw)):f.kp<=kN left i f/\kN left i f<=(f.t.size:aw):=by
 unfold kN il;cases decide (i<left.length)with
 |false=>rw[ax];omega
 |true=>simp only[au,ax];split<;>split<;>omega
theorem ok(d:az Fi)(left:aQ)(hd:d.length<=1000):c (rd d) left=ai/\v (rd d) left=rE.res (MF d left):=by
 refine out _ _ ?_;unfold vo b MF;have h1:=rE.okc d (by omega);have h2:=s9.ok (rd d) (by rw[ed];omega);rw[h1.1,h1.2,au];cases hk:sL d with
 |false=>rfl
 |true=>
 rw[aX,ax,h2.1,h2.2,au,au,ed];obtain⟨q1,q2,q3⟩:=jX.1 hk;have rn:∀f∈d,0<=f.kp/\f.kp<=(f.t.size:aw):=λf hf=>by have:=q2 f hf;unfold dF.nC at this;simp only[aK,bj,du,fg]at this;exact this.2.2
 refine nJ Fi.row d (Qo left) (λm (i:aC) (x:aQ)=>l5 Lib.cy (λ(_ _:aQ) (_ _:aw) (y9:aQ)=>ah (y9,ai)) m left (rd d) (d.length:aw) (i:aw) x) (λx=>ah (x,ai)) (λm i L h h2 hl he=> ?_) (λm L hl=> ?_) Lib.cy (ck (by omega))
 ·have hr:=MA left i (rn _ (bu h));have h0:=(rn _ (bu h)).1;have hLl:(L.map Fi.row).length=L.length:=bR ..;have hs:∀n:aw,n=kN left i d[i]->cK (L.map Fi.row) i 0 [CV.s d[i].n,CV.s (d[i].t.extract (bc 0) n.toNat),CV.i ao n]=(L.set i (Qo left i d[i])).map Fi.row:=λn hn=>by subst hn;exact kO Fi.row L i 0 _ (Qo left i d[i]) h2 (by rw[he];rfl)
  have ci:∀k n,bF (CV.i k n)=n:=λ_ _=>rfl;have cs:∀x,bz (CV.s x)=x:=λ_=>rfl;by_cases hi:i<left.length
  ·have e:kN left i d[i]=il ai d[i].kp (il ak (bF (ar left i 0)) (d[i].t.size:aw)):=by unfold kN;rw[aE hi];rfl
   have ib:iA 0 (il ai d[i].kp (il ak (bF (ar left i 0)) (d[i].t.size:aw))) (d[i].t.size:aw)=true:=by rw[<-e];simp[iA];omega
   simp only[l5,r5,Lib.de,h,hi,h2,hLl,ed,aM,Lib.cz,aJ,au,Lib.dU,KJ h,XR h,XS h,cs,ci,ib,hs _ e.symm,Lib.c5 h (by omega:d.length<=9223372036854775807)]
  ·have e:kN left i d[i]=d[i].kp:=by unfold kN;rw[aG hi];rfl
   have ib:iA 0 d[i].kp (d[i].t.size:aw)=true:=by have:=rn _ (bu h);simp[iA];omega
   simp only[l5,r5,Lib.de,h,hi,h2,hLl,ed,aM,a_,Lib.cz,aJ,au,ax,Lib.dU,KJ h,XR h,XS h,cs,ci,ib,hs _ e.symm,Lib.c5 h (by omega:d.length<=9223372036854775807)]
 ·simp only[l5,r5,Lib.de,bg,a_,ax]
end wZ

namespace jG
def eo(l:aQ)(i:aC):aY:=nq.v (bz (ar l i 0)) (bF (ar l i 1)) (bF (ar l i 2)) (bz (ar l i 3))
def tx(l:aQ)(i:aC):aq:=jF.sN (bz (ar l i 0)) (bF (ar l i 1)) (bF (ar l i 2)) (bz (ar l i 3))
def fs(l:aQ):aC->aC->aq->ay aq
 |0,_,acc=>ah acc
 |d+1,i,acc=>if eo l i=ai then fs l d (i+1) (acc++fI.fr (tx l i))else aj
theorem Ic(l:aQ)(d i:aC)(acc:aq):fs l (d+1) i acc=if eo l i=ai then fs l d (i+1) (acc++fI.fr (tx l i))else none:=rfl
def fin(o:ay aq)(kf:ay R)(kt:aq->ay R):ay R:=match o with|some x=>kt x|none=>kf
theorem Ol(l:aQ)(hl:l.length<=1048576)(F:aC->aC->aq->ay R)(kf:ay R)(kt:aq->ay R)
  (hT:∀m i acc,i<l.length->acc.size<=2000*i->(fI.fr (tx l i)).size<=2000->eo l i=ai->F (m+1) i acc=F m (i+1) (acc++fI.fr (tx l i)))
  (hF:∀m i acc,i<l.length->eo l i=ak->F (m+1) i acc=kf) (hE:∀m acc,F (m+1) l.length acc=kt acc):F Lib.cy 0 ⟨#[]⟩=fin (fs l l.length 0 ⟨#[]⟩) kf kt:=by
 have:=Lib.dB (λn (z:aC×aq)=>F n z.1 z.2) (λz=>l.length-z.1) (λz=>z.1<=l.length/\z.2.size<=2000*z.1) (λz=>fin (fs l (l.length-z.1) z.1 z.2) kf kt) (λm z hz=>by
  obtain⟨i,acc⟩:=z;obtain⟨h1,h2⟩:=hz;dsimp only at h1 h2⊢;by_cases h:i<l.length
  ·have e:l.length-i=(l.length-(i+1))+1:=by omega
   cases ho:eo l i with
   |true=>
    right;have hs:=mM.tY ho;have hf:(fI.fr (tx l i)).size<=2000:=by have:=fI.YG (t:=tx l i) (by unfold tx;omega);unfold tx at this⊢;omega
    exact⟨(i+1,acc++fI.fr (tx l i)),⟨h,by dsimp only;rw[Lib.jK];omega⟩,by dsimp only;omega,by dsimp only;rw[e,Ic,bB ho],hT m i acc h h2 hf ho⟩
   |false=>left;rw[hF m i acc h ho,e,Ic,bH (by simp[ho])];rfl
  ·left;have:i=l.length:=by omega
   subst this;rw[hE,vP];rfl) Lib.cy (0,⟨#[]⟩) ⟨bk _,bk _⟩ (ck (by dsimp only;omega))
 simpa using this
def nm:aq:={data:= #[aP 110,aP 101,aP 119]}
def j9(has:aY)(x:aq):aQ:=(if has=ai then [[CV.i ao 4,CV.s nm,CV.s {data:= #[]},CV.s {data:= #[]}]]else [])++[[CV.i ao 1,CV.s nm,CV.s x,CV.s {data:= #[]}],[CV.i ao 2,CV.s nm,CV.s {data:= #[]},CV.s {data:= #[]}],[CV.i ao 3,CV.s nm,CV.s {data:= #[]},CV.s {data:= #[aP 107,aP 101,aP 112,aP 116]}]]
def val(d l:aQ):aQ×aY:=bif gQ.val d then(match fs l l.length 0 ⟨#[]⟩with|some x=>(j9 (v8.val d nm).2 x,ai)|none=>([],ak))else([],ak)
theorem ok(d l:aQ)(hd:d.length<=1048576)(hl:l.length<=1048576):c d l=ai/\v d l=val d l:=by
 refine out d l ?_;have k1:=gQ.ok d (by omega);have k2:=v8.ok d {data:= #[aP 110,aP 101,aP 119]} (by omega);have e2:v8.val d {data:= #[aP 110,aP 101,aP 119]}=v8.val d nm:=rfl;unfold vo b val;rw[k1.1,k1.2,au];cases gQ.val d with
 |false=>rfl
 |true=>
  rw[aX,ax,au,k2.1,au,k2.2,e2];have tr:∀(K0:aQ->aY->aq->aw->aQ->aQ->ay (aQ×aY)) (K1:aQ->aY->aq->aw->aQ->ay (aQ×aY)) (base:aQ) (kt:aq->ay (aQ×aY)) (h0:∀x i,K0 l ak x i [] base=ah ([],ak)) (h1:∀x i,K1 l ak x i base=kt x),l9 Lib.cy K0 K1 Lib.cy l ak ⟨#[]⟩ 0 base=fin (fs l l.length 0 ⟨#[]⟩) (ah ([],ak)) kt:=by
   intro K0 K1 base kt h0 h1;refine Ol l hl (λm i acc=>l9 Lib.cy K0 K1 m l ak acc (i:aw) base) _ kt (λm i acc hi ha hf ho=> ?_) (λm i acc hi ho=> ?_) (λm acc=> ?_)
   ·have iV:br ((i:aw)+1)=((i+1:aC):aw):=bZ (by omega) (by omega);have t1:jF.v (bz (ar l i 0)) (bF (ar l i 1)) (bF (ar l i (1+1))) (bz (ar l i (1+1+1)))=(tx l i,ai):=by unfold jF.v;exact bB ho
    have f1:=fI.ok (tx l i);have f2:fI.val (tx l i)=(fI.fr (tx l i),ai):=by unfold fI.val;have q1:=mM.CJ ho;have q2:=mM.tY ho;rw[bB ⟨q1,dc q2 (by omega)⟩]
    simp only[l9,r9,Lib.de,Lib.cz,Lib.dU,hi,aM,aJ,au,ax,t1,f1.1,f1.2,f2,aX,aE (show acc.size+(fI.fr (tx l i)).size<=4611686018427387904 by omega),iV]
   ·have t1:jF.v (bz (ar l i 0)) (bF (ar l i 1)) (bF (ar l i (1+1))) (bz (ar l i (1+1+1)))=(⟨#[]⟩,ak):=by unfold jF.v;rw[bH (by intro h;have h':eo l i=true:=h;rw[ho]at h';cases h')]
    have f1:=fI.ok ⟨#[]⟩;simp only[l9,r9,Lib.de,Lib.cz,Lib.dU,hi,aM,aJ,au,t1,f1.1,bS];exact h0 acc i
   ·simp only[l9,r9,Lib.de,bg,a_,ax];exact h1 acc _
  cases hh:(v8.val d nm).2 with
  |true=>rw[au];refine(tr _ _ _ (λx=>ah (j9 ai x,ai)) (λ_ _=>rfl) (λ_ _=>rfl)).trans ?_;cases fs l l.length 0 ⟨#[]⟩<;>rfl
  |false=>rw[ax];refine(tr _ _ _ (λx=>ah (j9 ak x,ai)) (λ_ _=>rfl) (λ_ _=>rfl)).trans ?_;cases fs l l.length 0 ⟨#[]⟩<;>rfl
end jG

namespace pN
open Lib (re rd el En Fi)
open iX (kd kp Ga tx Jg base bt qT ayE)
open dF (j9 act sL nC put without Ix ra Ac)
open gm (So m7 fm)
open wZ (MF Qo kN MA)
abbrev qU:aq:={data:= #[aP 110,aP 101,aP 119]}
def tc(x:aq):az Ac:=[⟨1,qU,x,⟨#[]⟩⟩,⟨2,qU,⟨#[]⟩,⟨#[]⟩⟩,⟨3,qU,⟨#[]⟩,qT⟩]
theorem T1(T:aq):T.extract 0 T.size=T:=Lib.H5 T
theorem QU{d:az Fi}(h:sL d=ai)(hk:∀f∈d,f.kp=(f.t.size:aw))(left:aQ):MF d left=ah d:=by
 unfold MF;rw[h,au];congr 1;apply jO (by simp);intro i h1 h2;rw[List.getElem_mapIdx];have hf:=hk _ (bu h2);have hr:=MA left i (f:=d[i]) ⟨by omega,by omega⟩;have e:kN left i d[i]=(d[i].t.size:aw):=by omega
 unfold Qo;rw[e,eT,T1];cases hd:d[i];rw[hd]at hf;dsimp only at hf⊢;rw[hf]
theorem Qh(o:ay aq):∀f∈base o,f.kp=(f.t.size:aw):=λf hf=>by
 cases o with
 |none=>cases hf
 |some t=>rw[aZ.1 hf]
theorem less:fm qT qU=true:=by unfold fm;rw[kj,kj];rfl
theorem au5(t:aq)(k:aw)(h1:t.size<=20000)(h2:0<=k/\k<=(t.size:aw)):nC ⟨qU,t,k⟩=true:=by unfold nC;have:((qU.size:aC):aw)=3:=rfl;rw[this,aE (by omega),aE h2,aG (by dsimp only;omega)];rfl
theorem I0{o:ay aq}{x:aq}{k:aw}(h:(bt o).size<=20000)(hx:x.size<=20000)(hk:0<=k/\k<=(x.size:aw)):sL (base o++[⟨qU,x,k⟩])=true:=by
 refine dF.jX.2 ⟨?_,λf hf=> ?_, ?_⟩
 ·cases o<;>simp[base]
 ·rcases bf.1 hf with hf|hf
  ·exact(dF.jX.1 (iX.uo h)).2.1 f hf
  ·rw[aZ.1 hf];exact au5 x k hx hk
 ·cases o with
  |none=>exact I_ ..
  |some t=>exact qu.2 ⟨λy hy=>by rw[aZ.1 hy];exact less,I_ ..⟩
theorem nKN:qT≠qU:=by decide
theorem T5(o:ay aq)(x:aq)(k:aw):(base o++[(⟨qU,x,k⟩:Fi)]).find? (λy=>decide (y.n=qU))=ah ⟨qU,x,k⟩:=by
 cases o with
 |none=>rfl
 |some t=>rw[show base (ah t)++[(⟨qU,x,k⟩:Fi)]=[⟨qT,t,t.size⟩,⟨qU,x,k⟩]from rfl,Lu (by simp[nKN]),List.find?_cons_of_pos (by simp)]
theorem amn(o:ay aq):(base o).find? (λy=>decide (y.n=qU))=none:=by
 cases o with
 |none=>rfl
 |some t=>rw[show base (ah t)=[⟨qT,t,t.size⟩]from rfl,Lu (by simp[nKN]),List.find?_nil]
theorem aoo(o:ay aq)(x:aq)(k:aw):put (base o) ⟨qU,x,k⟩=base o++[⟨qU,x,k⟩]:=by
 cases o with
 |none=>rfl
 |some t=>unfold put;rw[show base (ah t)=[⟨qT,t,t.size⟩]from rfl,dA (by simpa using less),cE (by simp[less])];rfl
theorem air(o:ay aq)(x y:aq)(k m:aw):put (base o++[⟨qU,y,m⟩]) ⟨qU,x,k⟩=base o++[⟨qU,x,k⟩]:=by
 cases o with
 |none=>exact iX.yB rfl
 |some t=>unfold put;rw[show base (ah t)++[(⟨qU,y,m⟩:Fi)]=[⟨qT,t,t.size⟩,⟨qU,y,m⟩]from rfl,dA (by simpa using less),cE (by rw[dF.irrefl];simp),cE (by simp[less]),cE (by simp)];rfl
theorem mov(o:ay aq)(x:aq)(k:aw):put (without (base o++[⟨qU,x,k⟩]) qU) ⟨qT,x,k⟩=[⟨qT,x,k⟩]:=by
 have:without (base o++[⟨qU,x,k⟩]) qU=base o:=by
  unfold without;rw[ij,cE (by simp),List.filter_nil,cu,eJ];intro f hf;cases o with
  |none=>cases hf
  |some t=>rw[aZ.1 hf];simp[nKN]
 rw[this];cases o with
 |none=>rfl
 |some t=>exact iX.yB rfl
theorem a1{o:ay aq}{x:aq}(h:(bt o).size<=20000)(hx:x.size<=20000):act (base o) 1 qU x ⟨#[]⟩=ah (base o++[⟨qU,x,0⟩]):=by
 unfold act;rw[iX.uo h,show dF.j8 1 x ⟨#[]⟩=ai from by unfold dF.j8;simp,aJ,au];have hn:Ix (base o) 1 qU x ⟨#[]⟩=ah (base o++[⟨qU,x,0⟩]):=by unfold Ix;rw[amn];dsimp only;rw[bB rfl,aoo]
 rw[hn];dsimp only;rw[I0 h hx ⟨by omega,by omega⟩];rfl
theorem a2{o:ay aq}{x:aq}(h:(bt o).size<=20000)(hx:x.size<=20000):act (base o++[⟨qU,x,0⟩]) 2 qU ⟨#[]⟩ ⟨#[]⟩=ah (base o++[⟨qU,x,x.size⟩]):=by
 unfold act;rw[I0 h hx ⟨by omega,by omega⟩,show dF.j8 2 ⟨#[]⟩ ⟨#[]⟩=ai from by unfold dF.j8;simp,aJ,au];have hn:Ix (base o++[⟨qU,x,0⟩]) 2 qU ⟨#[]⟩ ⟨#[]⟩=ah (base o++[⟨qU,x,x.size⟩]):=by unfold Ix;rw[T5];dsimp only;rw[bH (by omega),bB rfl,air]
 rw[hn];dsimp only;rw[I0 h hx ⟨by omega,by omega⟩];rfl
theorem a3{o:ay aq}{x:aq}(h:(bt o).size<=20000)(hx:x.size<=20000):act (base o++[⟨qU,x,x.size⟩]) 3 qU ⟨#[]⟩ qT=ah (base (ah x)):=by
 unfold act;rw[I0 h hx ⟨by omega,by omega⟩,show dF.j8 3 ⟨#[]⟩ qT=ai from by unfold dF.j8;simp,aJ,au];have hn:Ix (base o++[⟨qU,x,x.size⟩]) 3 qU ⟨#[]⟩ qT=ah (base (ah x)):=by unfold Ix;rw[T5];dsimp only;rw[bH (by omega),bH (by omega),bB rfl,bH (by rintro (h|h);exact h rfl;exact nKN h),mov];rfl
 rw[hn];dsimp only;rw[iX.uo (o:=ah x) hx];rfl
theorem auV{o:ay aq}{x:aq}(h:(bt o).size<=20000)(hx:x.size<=20000):j9 (base o) 0 (tc x)=(base (ah x),3):=by unfold tc j9;dsimp only;rw[a1 h hx];dsimp only;unfold j9;dsimp only;rw[a2 h hx];dsimp only;unfold j9;dsimp only;rw[a3 h hx];rfl
theorem ag0(l:az En)(Dx:∀x∈l,Ga x=ai):∀(d i:aC) (acc:aq),d+i=l.length->jG.fs (re l) d i acc=ah (acc++tx (l.drop i)):=by
 intro d;induction d with
 |zero=>
  intro i acc h;have:i=l.length:=by omega
  subst this;rw[cD];exact lH ah (qp).symm
 |succ d ih=>
  intro i acc h;have hi:i<l.length:=by omega
  have h0:jG.eo (re l) i=true:=by unfold jG.eo;rw[pF hi,r_ hi,show ar (re l) i 2=CV.i ao (el l i).li from sa hi,show ar (re l) i 3=CV.s (el l i).bo from sb hi];exact Dx _ (mO hi)
  have h1:jG.tx (re l) i=iX.sN l[i]:=by unfold jG.tx;rw[pF hi,r_ hi,show ar (re l) i 2=CV.i ao (el l i).li from sa hi,show ar (re l) i 3=CV.s (el l i).bo from sb hi,fF hi];rfl
  rw[jG.Ic,bB h0,h1,ih (i+1) _ (by omega),di hi,Eo];rfl
end pN

namespace kB
open Lib (En Fi Px Cl Fe el re rd rf rc rs rr)
open gm (So m7)
open dF (sL j9 Ac ra)
open iX (sN Ga Jg tx kp base bt sr)
open pN (tc)
open wZ (MF)
def dk(o:ay (az En)):az Fi:=base (o.map tx)
def es(o:ay (az En)):az En:=o.getD []
theorem JG(o:ay (az En)):bt (o.map tx)=tx (es o):=by cases o<;>rfl
theorem AB(o:ay (az En)):(dk o).length<=1:=by cases o<;>simp[dk,base]
theorem JV{o:ay (az En)}(h:(tx (es o)).size<=20000):sL (dk o)=true:=iX.uo (by rw[JG];exact h)
theorem Ys{o:ay (az En)}(h:(tx (es o)).size<=20000)(left:aQ):MF (dk o) left=ah (dk o):=pN.QU (JV h) (pN.Qh _) left
theorem acd{o:ay (az En)}(h:(tx (es o)).size<=20000)(he:∀e∈es o,Ga e=ai):(U61.c (rd (dk o))=ai/\U61.v (rd (dk o))=re (kp (es o)))/\(Ja.c (rd (dk o))=ai/\Ja.v (rd (dk o))=re (kp (es o))):=by refine iX.fk (dk o) (es o) ⟨#[]⟩ (JV h) ?_ he (.inl rfl);unfold dk;rw[iX.Qg,JG];exact(qp).symm
theorem Ot{o:ay (az En)}{e:En}(h:(tx (es o)).size+(Jg e).size<=20000):j9 (dk o) 0 (sr (Jg e))=(dk (ah (es o++[e])),2):=by unfold dk;rw[iX.UQ (by rw[JG];exact h),JG,jc,iX.abe]
theorem Oq{o:ay (az En)}{l:az En}(h:(tx (es o)).size<=20000)(hl:(tx l).size<=20000):j9 (dk o) 0 (tc (tx l))=(dk (ah l),3):=pN.auV (by rw[JG];exact h) hl
theorem acb{o:ay (az En)}{l:az En}(hs:(tx (es o)).size<=20000)(Dx:∀x∈l,Ga x=ai):jG.val (rd (dk o)) (re l)=(ra (tc (tx l)),ai):=by
 unfold jG.val;rw[show gQ.val (rd (dk o))=ai from JV hs,au,dr,pN.ag0 l Dx l.length 0 ⟨#[]⟩ (by omega),eN];have AL:(v8.val (rd (dk o)) jG.nm).2=false:=by unfold dk;rw[iX.fileAt,show jG.nm=pN.qU from rfl,pN.amn]
 dsimp only;rw[AL,show(⟨#[]⟩:aq)++tx l=tx l from lI];rfl
end kB

namespace gA
open Lib (rr rs re rf rc Px En el)
open gm (So fY m7 fm)
open lV (EB)
def K5:az aw:=[0,0,0,0,0,0,0,0,0,0,0,0,0,0,0,0]
def p0(now:aw):Px:=⟨now,[],[],[],[K5,K5,K5],0,[],[],0⟩
def tv(e:En)(now:aw):aY:=HR.v e.k e.st e.li e.bo now
def one(now:aw)(p:Px)(e:En):Px:=bif tv e now then EB p e else p
def sU(now:aw)(l:az En):Px:=l.foldl (one now) (p0 now)
structure Inv (now:aw) (i:aC) (p:Px):Prop where
 so:So p.en
 ks:∀e∈p.en,1<=e.k.size
 en:p.en.length<=i
 w:p.w.length<=i
 m:p.m.length<=i
 s:e6.lens p.s=[16,16,16]
 fe:p.fe=[]
 cl:p.cl=[]
 now:p.now=now
 hits:p.hits=0
theorem av7(now:aw):Inv now 0 (p0 now):=⟨gZ,λe h=>(nomatch h),cJ _,cJ _,cJ _,rfl,rfl,rfl,rfl,rfl⟩
theorem UX{s:az (az aw)}(h:e6.lens s=[16,16,16]):s.length=3/\(∀q∈s,q.length=16)/\(s.map bK).sum=48:=by
 refine⟨?_,λq hq=> ?_, ?_⟩
 ·have:=lH bK h;unfold e6.lens at this;simpa using this
 ·have:q.length∈e6.lens s:=cw.2 ⟨q,hq,rfl⟩;rw[h]at this;simpa using this
 ·rw[show s.map bK=[16,16,16]from h];rfl
theorem Inv.fit{now:aw}{i:aC}{p:Px}(h:Inv now i p){n:aC}(hn:i<=n)(h48:48<=n):p.Fit n:=by
 obtain⟨a,b,c⟩:=UX h.s;have hq:∀q∈p.s,q.length<=n:=λq hq=>by have:=b q hq;omega
 exact⟨dc h.en hn,dc h.w hn,dc h.m hn,⟨by omega,hq,by omega⟩,by rw[h.fe];exact bk _,by rw[h.cl];exact bk _⟩
theorem Inv.up{now:aw}{i:aC}{p:Px}(h:Inv now i p):Inv now (i+1) p:=⟨h.so,h.ks,m_ h.en,m_ h.w,m_ h.m,h.s,h.fe,h.cl,h.now,h.hits⟩
theorem Bb{en:az En}(h:So en)(e:En):So (m7 en e):=by have:=(lG.xX (gm.DT h) e.k e.st e.li e.bo).1.1;rw[gm.tN]at this;unfold Lib.re at this;rw[kA]at this;exact this
theorem Inv.store{now:aw}{i:aC}{p:Px}(h:Inv now i p)(e:En)(he:1<=e.k.size):Inv now (i+1) (EB p e):=by
 obtain⟨b1,b2,b3⟩:=e6.Nh p.w p.m p.s p.a e.k;have hw:=h.w;have hm:=h.m;have hn:=h.en;refine⟨?_, ?_, ?_,dc b1 (by omega),dc b2 (by omega),b3.trans h.s,h.fe,h.cl,h.now,h.hits⟩
 ·show So (bif _ then m7 (fY p.en _) e else fY p.en _);cases fu.has (e6.val p.w p.m p.s p.a e.k).1 e.k||fu.has (e6.val p.w p.m p.s p.a e.k).2.1 e.k with
  |true=>exact Bb (h.so.drop _) e
  |false=>exact h.so.drop _
 ·show∀x∈(bif _ then m7 (fY p.en _) e else fY p.en _),1<=x.k.size;have hd:∀x∈fY p.en (e6.val p.w p.m p.s p.a e.k).2.2.2.2,1<=x.k.size:=λx hx=>h.ks x (dE.1 hx).1;cases fu.has (e6.val p.w p.m p.s p.a e.k).1 e.k||fu.has (e6.val p.w p.m p.s p.a e.k).2.1 e.k with
  |true=>
   intro x hx;rw[au]at hx;unfold m7 at hx;rcases bf.1 hx with hx|hx
   ·rcases bf.1 hx with hx|hx
    ·exact hd x (dE.1 hx).1
    ·rw[aZ]at hx;rw[hx];exact he
   ·exact hd x (dE.1 hx).1
  |false=>exact hd
 ·show(bif _ then m7 (fY p.en _) e else fY p.en _).length<=i+1;have d:=gm.xI p.en (e6.val p.w p.m p.s p.a e.k).2.2.2.2;have q:=gm.rU (fY p.en (e6.val p.w p.m p.s p.a e.k).2.2.2.2) e (h.so.drop _);cases fu.has (e6.val p.w p.m p.s p.a e.k).1 e.k||fu.has (e6.val p.w p.m p.s p.a e.k).2.1 e.k with
  |true=>rw[au];omega
  |false=>rw[ax];omega
theorem AH{e:En}{now:aw}(h:tv e now=ai):nq.v e.k e.st e.li e.bo=true:=by
 unfold tv HR.v at h;cases hq:nq.v e.k e.st e.li e.bo with
 |true=>rfl
 |false=>rw[show wX.v e.k e.st e.li e.bo=ak from hq]at h;cases h
theorem wA(now:aw)(l:az En):∀i,i<=l.length->Inv now i (sU now (l.take i)):=by
 intro i;induction i with
 |zero=>intro _;exact av7 now
 |succ i ih=>
  intro hi;have h:=ih (by omega);have e:sU now (l.take (i+1))=one now (sU now (l.take i)) l[i]:=by unfold sU;rw[bQ (by omega),zN];rfl
  rw[e];unfold one;cases hf:tv l[i] now with
  |true=>exact h.store _ (nq.KL (AH hf)).1.1
  |false=>exact h.up
theorem yH(now:aw)(l:az En)(i:aC)(h:i<l.length):sU now (l.take (i+1))=one now (sU now (l.take i)) (el l i):=by unfold sU;rw[bQ h,zN,fF h];rfl
end gA

namespace fJ
open Lib (rr rs re rf rc Px)
theorem ok(p:Px)(hp:p.Fit 1048576):c p.now (re p.en) (rs p.w) (rs p.m) (rr p.s) p.a (rf p.fe) (rc p.cl) p.hits=ai/\v p.now (re p.en) (rs p.w) (rs p.m) (rr p.s) p.a (rf p.fe) (rc p.cl) p.hits=(p.now,re p.en,rs p.w,rs p.m,rr p.s,p.a,rf p.fe,rc p.cl,p.hits):=by have he:=hp.en;have hf:=hp.fe;have hc:=hp.cl;have h2:=gh.ok p.w p.m p.s p.a hp.w hp.m ⟨hp.s.1,hp.s.2.1⟩;exact out _ _ _ _ _ _ _ _ _ (by unfold vo b;rw[h2.1,h2.2,au,Lib.cm (b:=48) (by simp[aN,dr];omega) (by simp[aN,dr];omega),Lib.cm (b:=56) (by simp[aN,dQ];omega) (by simp[aN,dQ];omega),Lib.cm (b:=72) (by simp[aN,fc];omega) (by simp[aN,fc];omega)];rfl)
end fJ

namespace sF
open Lib (rr rs re rf rc Px)
def later(now n:aw):aw:=bif decide (now>1000000000-n%1000)then 1000000000 else br (now+n%1000)
def val(p:Px)(n:aw):Px:={p with now:=later p.now n}
theorem tm(n:aw):(0<=cT n 1000->cT n 1000=n%1000)/\(cT n 1000<0->cT n 1000+1000=n%1000):=by
 rw[Int.tmod_eq_emod];by_cases h:0<=n\/(1000:aw)∣n
 ·rw[bB h];constructor<;>omega
 ·rw[bH h];have hd:¬(1000:aw)∣n:=λx=>h (.inr x);have:n%1000≠0:=λe=>hd (Int.dvd_of_emod_eq_zero e);constructor<;>simp<;>omega
theorem ok(p:Px)(n:aw)(hp:p.Fit 1048576):c p.now (re p.en) (rs p.w) (rs p.m) (rr p.s) p.a (rf p.fe) (rc p.cl) p.hits n=ai/\v p.now (re p.en) (rs p.w) (rs p.m) (rr p.s) p.a (rf p.fe) (rc p.cl) p.hits n=((val p n).now,re p.en,rs p.w,rs p.m,rr p.s,p.a,rf p.fe,rc p.cl,p.hits):=by
 have h:=fJ.ok p hp;refine out _ _ _ _ _ _ _ _ _ _ ?_;have t:=tm n;unfold vo b val later;simp only[Lib.lt,h.1,h.2,au];by_cases hn:cT n 1000<0
 ·have e:=t.2 hn;rw[aE hn,au,e,bZ (x:=n%1000) (by omega) (by omega),bZ (x:=1000000000-n%1000) (by omega) (by omega)];cases decide (p.now>1000000000-n%1000)<;>rfl
 ·have e:=t.1 (by omega);rw[aG hn,ax,e,bZ (x:=1000000000-n%1000) (by omega) (by omega)];cases decide (p.now>1000000000-n%1000)<;>rfl
end sF

namespace uZ
open Lib (rr rs re rf rc Px Cl el Ro wc1 wc2 wc3 wc4 wc5 wc6)
def val(p:Px)(id:aw):Px:={p with cl:=p.cl.filter λc=> !decide (c.id=id)}
theorem ok(p:Px)(id:aw)(hp:p.Fit 1048576):c p.now (re p.en) (rs p.w) (rs p.m) (rr p.s) p.a (rf p.fe) (rc p.cl) p.hits id=ai/\v p.now (re p.en) (rs p.w) (rs p.m) (rr p.s) p.a (rf p.fe) (rc p.cl) p.hits id=(p.now,re p.en,rs p.w,rs p.m,rr p.s,p.a,rf p.fe,rc (val p id).cl,p.hits):=by
 have h:=fJ.ok p hp;have hc:=hp.cl;refine out _ _ _ _ _ _ _ _ _ _ ?_;unfold vo b;simp only[Lib.lt,h.1,h.2,au];have key:=jU p.cl.length (λn (i:aC) (x:aQ)=>l4 Lib.cy (λ(_ _ _:aw) (_ _ _ _:aQ) (_:aw) (_ _:aQ) (_ _ _ _ y37 y38 y39:aw) (y40 y41 y42 y43 Xj y45:aQ)=>ah (y37,y40,y41,y42,y43,y38,Xj,y45,y39)) n id (i:aw) p.now (re p.en) (rs p.w) (rs p.m) (rr p.s) p.a (rf p.fe) (rc p.cl) p.hits 0 0 0 p.now p.a p.hits (re p.en) (rs p.w) (rs p.m) (rr p.s) (rf p.fe) x) (λi=>rc ((p.cl.take i).filter λc=> !decide (c.id=id))) (ah (p.now,re p.en,rs p.w,rs p.m,rr p.s,p.a,rf p.fe,rc (val p id).cl,p.hits)) (λn i hi=>by
  have hlen:((p.cl.take i).filter λc=> !decide (c.id=id)).length<=i:=by refine dc (eV ..) ?_;rw[eE];omega
  have e:(p.cl.take (i+1)).filter (λc=> !decide (c.id=id))=(p.cl.take i).filter (λc=> !decide (c.id=id))++(bif !decide ((el p.cl i).id=id)then [el p.cl i]else []):=by rw[bQ hi,ij,fF hi];cases hd:decide (p.cl[i].id=id)<;>simp[hd]
  rw[e];simp only[l4,r4,fc,Lib.de,hi,aM,Lib.cz,aJ,au,Lib.dU,Ro hi,wc1 hi,wc2 hi,wc3 hi,wc4 hi,wc5 hi,wc6 hi,bz,bF,pL,bC,Lib.c5 hi (by omega:p.cl.length<=9223372036854775807)];rw[Lib.cm (by omega) (by omega),au,show((el p.cl i).id !=id)= !decide ((el p.cl i).id=id)from rfl];cases decide ((el p.cl i).id=id)with
  |true=>rw[aX,ax,ax,cu]
  |false=>rw[bS,au,au];unfold Lib.rc;rw[cQ];rfl) (λn=>by
  simp only[l4,r4,fc,Lib.de,bg,a_,ax,dv];rfl) Lib.cy 0 (bk _) (ck (by omega))
 exact key
end uZ

namespace jm
open Lib (En Fi Px Cl Fe el)
open iX (kp Ga)
open vh (cls lD)
open ig (F7 Gz)
open je (mn)
open kB (dk es)
structure Wo where
 p:Px
 o:ay (az En)
 cd:az aw
 bd:az En
structure Ev where
 k:aw
 id:aw
 t:aq
 n:aw
 l:aQ
def flag(b:aY):aw:=bif b then 0 else 1
def mR(w:Wo):az En:=(kp (es w.o)).filter λe=>gA.tv e w.p.now
def closed(w:Wo)(id life:aw):Wo×aw:=
 let q:=cls w.p id life
 (bif q.2&&decide (life>0)then{w with p:=q.1,o:=ah (es w.o++[lD (el q.1.fe id.toNat)]),bd:=w.bd++[lD (el q.1.fe id.toNat)]}else{w with p:=q.1},flag q.2)
def Dp(w:Wo):Wo:={w with p:=gA.sU w.p.now (mR w),o:=ah (mR w)}
def act(w:Wo)(e:Ev):Wo×aw:=
 bif decide (e.k=1)then({w with p:=(je.ask w.p e.id e.t).1},(je.ask w.p e.id e.t).2)
 else bif decide (e.k=2)then({w with p:=(Gz w.p e.id e.t).1},flag (Gz w.p e.id e.t).2)
 else bif decide (e.k=3)then closed w e.id (e.n%1000000)
 else bif decide (e.k=4)then({w with p:=(F7 w.p e.id).1},flag (F7 w.p e.id).2)
 else bif decide (e.k=5)then({w with p:=sF.val w.p e.n},0)
 else bif decide (e.k=6)then({w with p:=uZ.val w.p e.id},flag (mn w.p.cl e.id))
 else(Dp w,0)
def step(w:Wo)(e:Ev):Wo:={(act w e).1 with cd:=w.cd++[(act w e).2]}
def kZ(e:Ev):aY:=decide (1<=e.k/\e.k<=7)&&(decide (0<=e.id/\e.id<=30)&&(decide (e.t.size<=60)&&(decide (0<=e.n)&&decide (e.l.length<=4))))
end jm

namespace GO
open Lib (Px Cl Fe En el)
open fu (has gK)
open jR (eZ sS)
open nM (ve Jf Ov)
open nN (nC mw apart)
open qR (Je jv)
open gm (So fm)
def LQ(now:aw)(nf:aC)(c:Cl):aY:=
 decide (1<=c.id/\c.id<=9)&&(eZ c.k&&(decide (1<=c.sta/\c.sta<=3)&&(decide (0<=c.fe/\c.fe<=(nf:aw))&&(decide ((c.got.size:aw)<=400)&&(decide (0<=c.fr/\c.fr<=now)&&decide (0<=c.age))))))
structure iZ (p:Px):Prop where
 now:1<=p.now/\p.now<=1000000000
 en:∀e∈p.en,ve e=ai
 so:So p.en
 ek:∀e∈p.en,e.k∈p.w\/e.k∈p.m
 pol:sS p.w p.m p.s p.a=ai
 len:p.w.length+p.m.length=p.en.length
 fl:p.fe.length<=20
 fe:∀f∈p.fe,nC p.now f=ai
 ap:p.fe.Pairwise λf g=>mw g f=ak
 cll:p.cl.length<=6
 cl:∀c∈p.cl,LQ p.now p.fe.length c=ai
 cs:p.cl.Pairwise λc d=>c.id<d.id
 hits:0<=p.hits/\p.hits<=1000000000
theorem V1{α:Type}(R:α->α->Prop)(tr:∀x y z,R x y->R y z->R x z)(l:az α)(h:∀i (hi:i+1<l.length),R (l[i]) (l[i+1])):l.Pairwise R:=by
 rw[dz];have adj:∀d i (hi:i+d+1<l.length),R (l[i]) (l[i+d+1]):=by
  intro d;induction d with
  |zero=>intro i hi;exact h i hi
  |succ d ih=>intro i hi;exact tr _ _ _ (ih i (by omega)) (h (i+d+1) (by omega))
 intro i j hi hj QF;have:=adj (j-i-1) i (by omega);simp only[show i+(j-i-1)+1=j by omega]at this;exact this
theorem ME(x y z:aq)(a:fm x y=ai)(b:fm y z=ai):fm x z=true:=lG.pb _ _ _ a b
theorem aoh{p:Px}(h:jv p=ai):iZ p:=by
 obtain⟨h1,h2,h3,h4,h5,h6,h7⟩:_/\_/\_/\_/\_/\_/\_:=by unfold jv at h;simpa only[aK,bj,bA,kV]using h
 obtain⟨g1,g2,g3⟩:_/\_/\_:=by unfold Ov at h2;simpa only[aK,bj,bA,kV]using h2
 have e1:∀i (hi:i<p.en.length),ve p.en[i]=ai/\(0<i->fm (el p.en (i-1)).k p.en[i].k=ai)/\(p.en[i].k∈p.w\/p.en[i].k∈p.m):=λi hi=>by have:=g1 i hi;unfold Jf at this;simp only[aK,dM,bj,fF hi,gK]at this;exact⟨this.1,λh0=>this.2.1.resolve_left (by omega),this.2.2⟩
 have c1:∀i (hi:i<p.cl.length),LQ p.now p.fe.length p.cl[i]=ai/\(0<i->(el p.cl (i-1)).id<p.cl[i].id):=λi hi=>by have:=h7 i hi;unfold Je at this;unfold LQ;simp only[aK,dM,bj,fF hi]at this⊢;exact⟨⟨this.1,this.2.2⟩,λh0=>this.2.1.resolve_left (by omega)⟩
 have f1:∀i (hi:i<p.fe.length),nC p.now p.fe[i]=ai/\∀j (hj:j<i),mw p.fe[i] (p.fe[j]'(by omega))=false:=λi hi=>by
  have:=h6 i hi;unfold apart at this;simp only[bA,kV,fF hi]at this;refine⟨this.1,λj hj=> ?_⟩
  have h:=this.2 j hj;rw[fF (show j<p.fe.length by omega)]at h;simpa using h
 refine⟨h1,λe he=> ?_, ?_,λe he=> ?_,g2,g3,h3,λf hf=> ?_, ?_,h4,λc hc=> ?_, ?_,h5⟩
 ·obtain⟨i,hi,rfl⟩:=c_ he;exact(e1 i hi).1
 ·refine V1 (λx y:En=>fm x.k y.k=ai) (λx y z a b=>ME _ _ _ a b) p.en λi hi=> ?_;have:=(e1 (i+1) hi).2.1 (by omega);rw[Ru,fF (show i<p.en.length by omega)]at this;exact this
 ·obtain⟨i,hi,rfl⟩:=c_ he;exact(e1 i hi).2.2
 ·obtain⟨i,hi,rfl⟩:=c_ hf;exact(f1 i hi).1
 ·rw[dz];intro i j hi hj QF;exact(f1 j hj).2 i QF
 ·obtain⟨i,hi,rfl⟩:=c_ hc;exact(c1 i hi).1
 ·refine V1 (λc d:Cl=>c.id<d.id) (λx y z a b=>Int.lt_trans a b) p.cl λi hi=> ?_;have:=(c1 (i+1) hi).2 (by omega);rw[Ru,fF (show i<p.cl.length by omega)]at this;exact this
theorem amp{p:Px}(h:iZ p):jv p=true:=by
 unfold jv Ov;simp only[aK,bj,bA,kV];refine⟨h.now,⟨λi hi=> ?_,h.pol,h.len⟩,h.fl,h.cll,h.hits,λi hi=>⟨?_, ?_⟩,λi hi=> ?_⟩
 ·unfold Jf;simp only[aK,dM,bj,fF hi,gK];refine⟨h.en _ (bu hi), ?_,h.ek _ (bu hi)⟩
  by_cases h0:i=0
  ·exact .inl h0
  ·right;rw[fF (show i-1<p.en.length by omega)];exact dz.1 h.so (i-1) i (by omega) hi (by omega)
 ·rw[fF hi];exact h.fe _ (bu hi)
 ·unfold apart;simp only[bA,kV];intro j hj;rw[fF hi,fF (show j<p.fe.length by omega),dz.1 h.ap j i (by omega) hi hj];rfl
 ·have hc:=h.cl _ (bu hi);unfold LQ at hc;unfold Je;simp only[aK,dM,bj,fF hi]at hc⊢;refine⟨hc.1, ?_,hc.2⟩
  by_cases h0:i=0
  ·exact .inl h0
  ·right;rw[fF (show i-1<p.cl.length by omega)];exact dz.1 h.cs (i-1) i (by omega) hi (by omega)
theorem rR{p:Px}:jv p=ai↔iZ p:=⟨aoh,amp⟩
end GO

namespace fU
open Lib (rr rs re rf rc rd Px En el pF r_ sa sb)
open jm (Wo Ev)
open kB (dk es)
def ri(l:az aw):aQ:=l.map λn=>[CV.i ao n]
theorem f_(l:az aw):(ri l).length=l.length:=by unfold ri;simp
def vm(w:Wo):aw×aQ×aQ×aQ×aQ×aw×aQ×aQ×aw×aQ×aQ×aQ:=(w.p.now,re w.p.en,rs w.p.w,rs w.p.m,rr w.p.s,w.p.a,rf w.p.fe,rc w.p.cl,w.p.hits,rd (dk w.o),ri w.cd,re w.bd)
theorem tU(l:az En)(e:En):re l++aL (aN [Ck.s,Ck.i ao,Ck.i ao,Ck.s] 1) 0 [CV.s e.k,CV.i ao e.st,CV.i ao e.li,CV.s e.bo]=re (l++[e]):=by unfold Lib.re;rw[cQ];rfl
theorem aed(l:az aw)(n:aw):ri l++aL (aN [Ck.i ao] 1) 0 [CV.i ao n]=ri (l++[n]):=by unfold ri;rw[cQ];rfl
theorem azH(l:az En):aN [Ck.s,Ck.i ao,Ck.i ao,Ck.s] 0++re l=re l:=rfl
theorem azI(l:az aw):aN [Ck.i ao] 0++ri l=ri l:=rfl
theorem uG(ks:az Ck)(y:az CV):(aL (aN ks 1) 0 y).length=1:=rfl
theorem jJ{p:Px}(h:GO.iZ p):p.Fit 1048576:=(lV.jJ (GO.rR.2 h)).le (by omega)
theorem lt_eq{α β:Type}(x:α)(f:α->β):Lib.lt x f=f x:=by have h:∀y,y=Lib.lt x f->y=f x:=λy hy=>hy.trans (Eq.refl _);exact h _ (Eq.refl _)
end fU

namespace Jk
open fu (has without gK lE)
open jR (eZ nv sS)
open fK (n_ O3 sA)
theorem jy{w m:az aq}{s:az (az aw)}{a:aw}:sS w m s a=ai↔((∀k∈w++m,eZ k=ai)/\(w++m).Nodup)/\w.length<=2/\m.length<=4/\n_ s a=true:=by unfold sS;rw[aK,aK,aK,bj,bj,e6.wB]
theorem IQ{s:az (az aw)}{a:aw}:n_ s a=ai↔s.length=3/\(0<=a/\a<=63)/\∀q∈s,q.length=16/\∀n∈q,0<=n/\n<=15:=by unfold n_ sA O3;simp only[aK,bj,bA]
theorem M3{s:az (az aw)}{a:aw}(key:aq)(h:n_ s a=ai):n_ (dq.val s a key).1 (dq.val s a key).2=true:=by
 unfold dq.val;rw[h,au];obtain⟨h1,h2,h3⟩:=IQ.1 h;obtain⟨b1,b2⟩:=dq.tf (key:=key) h1 h3;by_cases ha:a+1=64
 ·rw[aE ha,au,IQ];unfold dq.half;refine⟨by rw[bR];exact b1,by omega,λq hq=> ?_⟩
  obtain⟨r,hr,rfl⟩:=cw.1 hq;refine⟨by rw[bR];exact(b2 r hr).1,λn hn=> ?_⟩
  obtain⟨k,hk,rfl⟩:=cw.1 hn;have:=(b2 r hr).2 k hk;rw[g7 this.1];omega
 ·rw[aG ha,ax,IQ];exact⟨b1,by omega,b2⟩
theorem Iw{k:aq}(h:eZ k=ai):k≠⟨#[]⟩:=by intro e;rw[e]at h;exact cS h (by decide)
theorem tX{w m:az aq}{s:az (az aw)}{a:aw}{key:aq}(h:sS w m s a=ai)(hk:eZ key=ai):
  sS (e6.val w m s a key).1 (e6.val w m s a key).2.1 (e6.val w m s a key).2.2.1 (e6.val w m s a key).2.2.2.1=ai
  /\∀x,x∈(e6.val w m s a key).1\/x∈(e6.val w m s a key).2.1↔(x∈w\/x∈m\/x=key)/\x≠(e6.val w m s a key).2.2.2.2:=by
 obtain⟨⟨k1,nd⟩,l1,l2,hs⟩:=jy.1 h;have OP:=M3 key hs;have kn:=Iw hk;have wn:∀x,x∈w\/x∈m->x≠⟨#[]⟩:=λx hx=>Iw (k1 x (bf.2 hx));unfold e6.val;rw[h,hk,aJ,au];generalize dq.val s a key=V at OP;obtain⟨S,A⟩:=V;dsimp only at OP⊢;rw[eB]at nd;obtain⟨n1,n2,n3⟩:=nd;have hwo:∀l:az aq,l.Nodup->(without l key).Nodup/\(∀x,x∈without l key↔x∈l/\x≠key):=λl hl=>by unfold without;exact⟨hl.sublist jM,λx=>by simp⟩
 cases h1:has w key with
 |true=>
  have hm:=gK.1 h1;obtain⟨o1,o2⟩:=hwo w n1;have o3:=fu.pz h1;dsimp only[au];refine⟨jy.2 ⟨⟨λk hx=> ?_, ?_⟩,by simp;omega,l2,OP⟩,λx=> ?_⟩
  ·simp only[bf,aZ,o2]at hx;rcases hx with (hx|rfl)|hx
   ·exact k1 _ (bf.2 (.inl hx.1))
   ·exact hk
   ·exact k1 _ (bf.2 (.inr hx))
  ·simp only[eB,bf,aZ,o2];grind
  ·simp only[bf,aZ,o2];grind
 |false=>
  rw[ax];have hw:=lE.1 h1;cases h2:has m key with
  |true=>
   have hm:=gK.1 h2;obtain⟨o1,o2⟩:=hwo m n2;have o3:=fu.pz h2;dsimp only[au];refine⟨jy.2 ⟨⟨λk hx=> ?_, ?_⟩,l1,by simp;omega,OP⟩,λx=> ?_⟩
   ·simp only[bf,aZ,o2]at hx;rcases hx with hx|hx|rfl
    ·exact k1 _ (bf.2 (.inl hx))
    ·exact k1 _ (bf.2 (.inr hx.1))
    ·exact hk
   ·simp only[eB,bf,aZ,o2];grind
   ·simp only[bf,aZ,o2];grind
  |false=>
   rw[ax];have hmn:=lE.1 h2;have nS:∀x,x∈w++[key]\/x∈m↔x∈w\/x∈m\/x=key:=λx=>by simp only[bf,aZ];grind
   have Ui:∀x,x∈w++[key]\/x∈m->eZ x=true:=λx hx=>by
    rcases(nS x).1 hx with hx|hx|rfl
    ·exact k1 _ (bf.2 (.inl hx))
    ·exact k1 _ (bf.2 (.inr hx))
    ·exact hk
   have Kh:(w++[key]).Nodup/\∀x∈w++[key],x∉m:=by simp only[eB,bf,aZ];grind
   have hlen:(w++[key]).length=w.length+1:=by simp
   generalize w++[key]=W at nS Ui Kh hlen;obtain⟨d1,d2⟩:=Kh;by_cases h3:W.length<=2
   ·rw[aE h3,au];refine⟨jy.2 ⟨⟨λk hx=>Ui k (bf.1 hx), ?_⟩,h3,l2,OP⟩,λx=> ?_⟩
    ·simp only[eB];grind
    ·dsimp only;rw[nS];grind
   ·rw[aG h3,ax];cases W with
    |nil=>simp at hlen
    |cons x0 t=>
     rw[kE]at d1;rw[dh]at hlen;have hg:(x0::t).getD 0 ⟨#[]⟩=x0:=rfl;have ht:(x0::t).tail=t:=rfl;rw[hg,ht];by_cases h4:m.length<4
     ·rw[aE h4,au];refine⟨jy.2 ⟨⟨λk hx=>Ui k ?_, ?_⟩,by dsimp only;omega,by simp;omega,OP⟩,λx=> ?_⟩
      ·simp only[bf,aZ,cB]at hx⊢;grind
      ·simp only[eB,bf,aZ,cB]at d2⊢;grind
      ·dsimp only;rw[<-nS];simp only[bf,aZ,cB];grind
     ·rw[aG h4,ax];cases m with
      |nil=>simp at h4
      |cons y0 u=>
       rw[kE]at n2;rw[dh]at l2 h4;have hg2:(y0::u).getD 0 ⟨#[]⟩=y0:=rfl;have Im:(y0::u).tail=u:=rfl;rw[hg2,Im];cases decide (mz.val S A x0>mz.val S A y0)with
       |true=>
        rw[au];refine⟨jy.2 ⟨⟨λk hx=>Ui k ?_, ?_⟩,by dsimp only;omega,by simp;omega,OP⟩,λx=> ?_⟩
        ·simp only[bf,aZ,cB]at hx⊢;grind
        ·simp only[eB,bf,aZ,cB]at d2⊢;grind
        ·dsimp only;rw[<-nS];simp only[bf,aZ,cB]at d2⊢;grind
       |false=>
        rw[ax];refine⟨jy.2 ⟨⟨λk hx=>Ui k ?_, ?_⟩,by dsimp only;omega,by simp;omega,OP⟩,λx=> ?_⟩
        ·simp only[bf,cB]at hx⊢;grind
        ·simp only[eB,kE,cB]at d2⊢;grind
        ·dsimp only;rw[<-nS];simp only[cB]at d2⊢;grind
end Jk

namespace Nq
open Lib (Px Cl Fe En el)
open fu (has without gK lE)
open jR (eZ sS)
open nM (ve)
open nN (nC mw)
open qR (jv)
open gm (So fm fY m7)
open lV (EB)
open GO (iZ LQ rR)
open Jk (jy tX)
open ig (vB told F7 Gz jx)
theorem ab9{p:Px}(h:iZ p){n:aw}(h1:p.now<=n)(h2:n<=1000000000):iZ {p with now:=n}:=by
 have:=h.now;refine⟨⟨by dsimp only;omega,h2⟩,h.en,h.so,h.ek,h.pol,h.len,h.fl,λf hf=> ?_,h.ap,h.cll,λc hc=> ?_,h.cs,h.hits⟩
 ·have:=h.fe f hf;unfold nC at this⊢;simp only[aK,bj]at this⊢;exact⟨this.1,this.2.1,this.2.2.1,this.2.2.2.1,this.2.2.2.2.1,Bk this.2.2.2.2.2 h1⟩
 ·have:=h.cl c hc;unfold LQ at this⊢;simp only[aK,bj]at this⊢;exact⟨this.1,this.2.1,this.2.2.1,this.2.2.2.1,this.2.2.2.2.1,⟨this.2.2.2.2.2.1.1,Bk this.2.2.2.2.2.1.2 h1⟩,this.2.2.2.2.2.2⟩
theorem CI{p:Px}{n:aC}{g:Fe}{st:aw}(h:iZ p)(hn:n<p.fe.length)(hk:g.k=(el p.fe n).k)(hg:nC p.now g=ai)(hs:g.sta=1->(el p.fe n).sta=1)(h1:1<=st/\st<=3):iZ (told p n g st):=by
 rw[fF hn]at hk hs;refine⟨h.now,h.en,h.so,h.ek,h.pol,h.len, ?_,λf hf=> ?_, ?_, ?_,λc hc=> ?_, ?_,h.hits⟩
 ·show(p.fe.set n g).length<=20;rw[cO];exact h.fl
 ·rcases jE hf with q|rfl
  ·exact h.fe f q
  ·exact hg
 ·show(p.fe.set n g).Pairwise _;rw[dz];intro i j hi hj QF;rw[cO]at hi hj;have:=dz.1 h.ap i j hi hj QF;rw[Ts,Ts];unfold mw at this⊢;by_cases e1:n=i
  ·by_cases e2:n=j
   ·omega
   ·subst e1;simp only[if_true,e2,if_false];rw[hk];by_cases e3:g.sta=1
    ·rw[hs e3]at this;rw[e3];exact this
    ·rw[aG e3];simp
  ·by_cases e2:n=j
   ·subst e2;simp only[e1,if_true,if_false];rw[hk];by_cases e3:g.sta=1
    ·rw[hs e3]at this;rw[e3];exact this
    ·rw[aG e3];simp
   ·simp only[e1,e2,if_false];exact this
 ·show(vD.oi p.cl n st g.t).length<=6;unfold vD.oi;rw[bR];exact h.cll
 ·have Ka:c∈vD.oi p.cl n st g.t:=hc;unfold vD.oi at Ka;obtain⟨d,hd,rfl⟩:=cw.1 Ka;have h2:=h.cl d hd;show LQ p.now (p.fe.set n g).length _=ai;rw[cO];unfold vD.ec;cases decide (d.fe=(n:aw)+1)&&decide (d.sta=1)with
  |false=>exact h2
  |true=>rw[au];unfold LQ at h2⊢;unfold nC at hg;simp only[aK,bj]at h2 hg⊢;exact⟨h2.1,h2.2.1,h1,h2.2.2.2.1,hg.2.1,h2.2.2.2.2.2⟩
 ·show(vD.oi p.cl n st g.t).Pairwise _;unfold vD.oi;rw[kA];refine h.cs.imp λ{a b} hab=> ?_;have e:∀d:Cl,(vD.ec n st g.t d).id=d.id:=λd=>by unfold vD.ec;cases decide (d.fe=(n:aw)+1)&&decide (d.sta=1)<;>rfl
  rw[e,e];exact hab
theorem Oy{p:Px}(h:iZ p){n:aC}(hn:n<p.fe.length):eZ (el p.fe n).k=ai/\((el p.fe n).t.size:aw)<=400/\(1<=(el p.fe n).sta/\(el p.fe n).sta<=3)/\(0<=(el p.fe n).li/\(el p.fe n).li<=999999)/\0<=(el p.fe n).st/\(el p.fe n).st<=p.now:=by have:=h.fe _ (mO hn);unfold nC at this;simpa only[aK,bj]using this
theorem TP{p:Px}(f:aw)(h:iZ p):iZ (F7 p f).1:=by
 unfold F7;cases ho:vB p f with
 |false=>exact h
 |true=>obtain⟨n,rfl,hn,_,h1⟩:=jx ho;obtain⟨g1,g2,g3,g4,g5⟩:=Oy h hn;refine CI h hn rfl ?_ (λe=>cS e (by dsimp only;omega)) (by omega);unfold nC;simp only[aK,bj];exact⟨g1,g2,by omega,g4,g5⟩
theorem V0{p:Px}(f:aw)(t:aq)(h:iZ p):iZ (Gz p f t).1:=by
 unfold Gz;cases ho:vB p f&&(decide (1<=t.size/\t.size<=40)&&decide ((el p.fe f.toNat).t.size+t.size<=400))with
 |false=>exact h
 |true=>
  simp only[aK,bj]at ho;obtain⟨n,rfl,hn,_,h1⟩:=jx ho.1;obtain⟨g1,g2,g3,g4,g5⟩:=Oy h hn;rw[eT]at ho;refine CI h hn rfl ?_ (λ_=>h1) (by omega);unfold nC;simp only[aK,bj];refine⟨g1, ?_,g3,g4,g5⟩
  show((((el p.fe n).t++t).size:aC):aw)<=400;rw[dH];omega
def Qa(en:az En)(w m:az aq):Prop:=∀k,k∈w\/k∈m↔∃e∈en,e.k=k
theorem KW{en:az En}(h:So en):(en.map λe=>e.k).Nodup:=by rw[pH,kA];refine h.imp λ{a b} hab e=> ?_;rw[e]at hab;unfold fm at hab;rw[lG.oP]at hab;cases hab
theorem CF{p:Px}(h:iZ p):Qa p.en p.w p.m:=by
 obtain⟨⟨_,nd⟩,_⟩:=jy.1 h.pol;have ne:=KW h.so;have sub:(p.en.map λe=>e.k)⊆p.w++p.m:=λx hx=>by obtain⟨e,he,rfl⟩:=cw.1 hx;exact bf.2 (h.ek e he)
 intro k;constructor
 ·intro hk;have hk:k∈p.w++p.m:=bf.2 hk;refine BF λhn=> ?_;have nn:(k::p.en.map λe=>e.k).Nodup:=kE.2 ⟨λhx=>hn (by obtain⟨e,he,q⟩:=cw.1 hx;exact⟨e,he,q⟩),ne⟩;have:=nn.length_le_of_subset (l₂:=p.w++p.m) (λx hx=>by
   rcases cB.1 hx with rfl|hx
   ·exact hk
   ·exact sub hx)
  have hl:=h.len;simp only[dh,bR,cf]at this;omega
 ·rintro ⟨e,he,rfl⟩;exact h.ek e he
theorem of_same{en:az En}{w m:az aq}{s:az (az aw)}{a:aw}(h:Qa en w m)(so:So en)(hp:sS w m s a=ai):(∀e∈en,e.k∈w\/e.k∈m)/\w.length+m.length=en.length:=by
 obtain⟨⟨_,nd⟩,_⟩:=jy.1 hp;refine⟨λe he=>(h _).2 ⟨e,he,rfl⟩, ?_⟩
 have:=((List.perm_ext_iff_of_nodup nd (KW so)).2 λx=>by rw[bf,h x,cw]).length_eq;rw[cf,bR]at this;exact this
theorem mN{en:az En}{k:aq}{e:En}:e∈fY en k↔e∈en/\e.k≠k:=by unfold fY;simp
theorem pZ{en:az En}{x e:En}:x∈m7 en e↔x=e\/(x∈en/\x.k≠e.k):=by
 unfold m7;simp only[bf,dE,aZ,du,iF,fg];constructor
 ·rintro ((⟨h1,h2⟩|rfl)|⟨h1,h2⟩)
  ·refine .inr ⟨h1,λe2=> ?_⟩;rw[e2]at h2;unfold fm at h2;rw[lG.oP]at h2;cases h2
  ·exact .inl rfl
  ·exact .inr ⟨h1,h2.2⟩
 ·rintro (rfl|⟨h1,h2⟩)
  ·exact .inl (.inr rfl)
  ·cases hl:fm x.k e.k with
   |true=>exact .inl (.inl ⟨h1,rfl⟩)
   |false=>exact .inr ⟨h1,rfl,h2⟩
theorem Bb{en:az En}(h:So en)(e:En):So (m7 en e):=by have:=(lG.xX (gm.DT h) e.k e.st e.li e.bo).1.1;rw[gm.tN]at this;unfold Lib.re at this;rw[kA]at this;exact this
theorem Nd{p:Px}{e:En}(h:iZ p)(he:ve e=ai):iZ (EB p e):=by
 have hk:eZ e.k=true:=by have:=(nq.KL he).1;unfold eZ;exact aE (by omega)
 obtain⟨t1,t2⟩:=tX h.pol hk;have sm:=CF h;unfold EB;generalize e6.val p.w p.m p.s p.a e.k=V at t1 t2;obtain⟨W,M,S,A,G⟩:=V;dsimp only at t1 t2⊢;have key:∀en',So en'->(∀x∈en',ve x=ai)->Qa en' W M->iZ ⟨p.now,en',W,M,S,A,p.fe,p.cl,p.hits⟩:=λen' o1 o2 o3=>by obtain⟨q1,q2⟩:=of_same o3 o1 t1;exact⟨h.now,o2,o1,q1,t1,q2,h.fl,h.fe,h.ap,h.cll,h.cl,h.cs,h.hits⟩
 have d1:So (fY p.en G):=h.so.drop G;have d2:∀x∈fY p.en G,ve x=true:=λx hx=>h.en x (mN.1 hx).1;cases hh:has W e.k||has M e.k with
 |true=>
  rw[au];have fP:e.k∈W\/e.k∈M:=by rwa[dM,gK,gK]at hh
  refine key _ (Bb d1 e) (λx hx=> ?_) λk=> ?_
  ·rcases pZ.1 hx with rfl|q
   ·exact he
   ·exact d2 x q.1
  ·rw[t2 k];have hg:=((t2 e.k).1 fP).2;constructor
   ·rintro ⟨q,hn⟩;by_cases e1:k=e.k
    ·exact⟨e,pZ.2 (.inl rfl),e1.symm⟩
    ·have q2:k∈p.w\/k∈p.m:=q.elim .inl λq=>q.elim .inr λq=>cS q e1;obtain⟨x,hx,rfl⟩:=(sm k).1 q2;exact⟨x,pZ.2 (.inr ⟨mN.2 ⟨hx,hn⟩,e1⟩),rfl⟩
   ·rintro ⟨x,hx,rfl⟩;rcases pZ.1 hx with rfl|q
    ·exact⟨.inr (.inr rfl),hg⟩
    ·obtain⟨q1,q2⟩:=mN.1 q.1;exact⟨((sm x.k).2 ⟨x,q1,rfl⟩).elim .inl λz=> .inr (.inl z),q2⟩
 |false=>
  rw[ax];have fP:¬(e.k∈W\/e.k∈M):=by rw[<-gK,<-gK,<-dM,hh];simp
  have hg:e.k=G:=BF λhn=>fP ((t2 e.k).2 ⟨.inr (.inr rfl),hn⟩);refine key _ d1 d2 λk=> ?_;rw[t2 k];constructor
  ·rintro ⟨q,hn⟩;have q2:k∈p.w\/k∈p.m:=q.elim .inl λq=>q.elim .inr λq=>cS (q.trans hg) hn;obtain⟨x,hx,rfl⟩:=(sm k).1 q2;exact⟨x,mN.2 ⟨hx,hn⟩,rfl⟩
  ·rintro ⟨x,hx,rfl⟩;obtain⟨q1,q2⟩:=mN.1 hx;exact⟨((sm x.k).2 ⟨x,q1,rfl⟩).elim .inl λz=> .inr (.inl z),q2⟩
end Nq

namespace HM
theorem eq(k:aq)(s l:aw)(b:aq)(n:aw):HR.v k s l b n=HM.v k s l b n:=by
 have e:wX.v k s l b=nq.v k s l b:=rfl;unfold HR.v HM.v;rw[e];cases h:nq.v k s l b with
 |false=>rfl
 |true=>
  have hs:(0<=s/\s<=1000000000)/\1<=l/\l<=999999:=by unfold nq.v at h;cases h1:s5.v k<;>rw[h1]at h<;>simp only[au,ax,dt]at h;cases h2:kq.v s 0 1000000000<;>rw[h2]at h<;>simp only[au,ax,dt]at h;cases h3:kq.v l 1 999999<;>rw[h3]at h<;>simp only[au,ax,dt]at h;simp[kq.v]at h2 h3;omega
  simp only[au,TB.v,lj.v,kq.v,ca,bj];by_cases h1:0<=n/\n<=1000000000
  ·rw[ir (x:=n-s) (by omega) (by omega),ir (x:=s+l) (by omega) (by omega),ir (x:=s+l-1) (by omega) (by omega)];by_cases h2:s<=n<;>by_cases h3:n-s<l<;>simp[h1,h2,h3]<;>omega
  ·by_cases h2:s<=n<;>by_cases h3:0<=n<;>by_cases h4:n<=1000000000<;>simp[h2,h3,h4]<;>omega
end HM

namespace Lj
open Lib (Px Cl Fe En el)
open fu (has without gK lE)
open jR (eZ sS)
open nM (ve)
open nN (nC mw)
open qR (jv)
open gm (So fm fY m7)
open GO (iZ LQ rR)
open Jk (jy tX M3 Iw)
open Nq (Qa CF of_same mN)
open je (hit wC put L5 RI Ji mn jn vf tv)
theorem abd(l:az Cl)(n:aw):(l.filter λx=>decide (x.id<n)).length+(l.filter λx=>decide (x.id>n)).length<=l.length:=by
 induction l with
 |nil=>exact cJ _
 |cons y l ih=>
  simp only[List.filter_cons];by_cases h1:y.id<n
  ·rw[aE h1,aG (show¬y.id>n by omega)];simp only[if_true,dt,if_false,dh];omega
  ·rw[aG h1];by_cases h2:y.id>n
   ·rw[aE h2];simp only[if_true,dt,if_false,dh];omega
   ·rw[aG h2];simp only[dt,if_false,dh];omega
theorem adv{l:az Cl}{c:Cl}(cs:l.Pairwise λa b=>a.id<b.id):(jn l c).length<=l.length+1/\((jn l c).Pairwise λa b=>a.id<b.id)/\∀x∈jn l c,x=c\/x∈l:=by
 unfold jn;refine⟨?_, ?_,λx hx=> ?_⟩
 ·have:=abd l c.id;simp only[cf,dh,jN];omega
 ·rw[bU,uS];refine⟨cs.filter _, ?_,λa ha b hb=> ?_⟩
  ·rw[uT,qu];exact⟨λb hb=>cF (dE.1 hb).2,cs.filter _⟩
  ·have ha:=cF (dE.1 ha).2;rcases bf.1 hb with hb|hb
   ·rw[aZ]at hb;rw[hb];exact ha
   ·have hb:=cF (dE.1 hb).2;omega
 ·rcases bf.1 hx with hx|hx
  ·rcases bf.1 hx with hx|hx
   ·exact .inr (dE.1 hx).1
   ·exact .inl (aZ.1 hx)
  ·exact .inr (dE.1 hx).1
theorem abc{w m:az aq}{s:az (az aw)}{a:aw}{key:aq}(h:key∈w\/key∈m):(e6.val w m s a key).2.2.2.2=⟨#[]⟩:=by
 unfold e6.val;cases sS w m s a&&eZ key with
 |false=>rfl
 |true=>
  rw[au];cases h1:has w key with
  |true=>rfl
  |false=>have h2:has m key=true:=gK.2 (h.resolve_left (lE.1 h1));rw[h2];rfl
theorem Xa{w m:az aq}{s:az (az aw)}{a:aw}{key:aq}(h:sS w m s a=ai)(hk:eZ key=ai):(has (e6.val w m s a key).1 key||has (e6.val w m s a key).2.1 key)=true:=by
 obtain⟨⟨k1,nd⟩,l1,l2,hs⟩:=jy.1 h;rw[dM,gK,gK];refine((tX h hk).2 key).2 ⟨.inr (.inr rfl), ?_⟩;have kn:=Iw hk;unfold e6.val;rw[h,hk,aJ,au];cases h1:has w key with
 |true=>exact kn
 |false=>
  rw[ax];have hw:=lE.1 h1;cases h2:has m key with
  |true=>exact kn
  |false=>
   rw[ax];have hm:=lE.1 h2;by_cases h3:(w++[key]).length<=2
   ·rw[aE h3];exact kn
   ·rw[aG h3,ax];have iy:(w++[key]).getD 0 ⟨#[]⟩≠key:=by
     cases w with
     |nil=>simp at h3
     |cons x w=>intro e;exact hw (by rw[<-e];simp)
    by_cases h4:m.length<4
    ·rw[aE h4];exact kn
    ·rw[aG h4,ax];cases decide (mz.val (dq.val s a key).1 (dq.val s a key).2 ((w++[key]).getD 0 ⟨#[]⟩)>mz.val (dq.val s a key).1 (dq.val s a key).2 (m.getD 0 ⟨#[]⟩))with
     |true=>
      intro e;cases m with
      |nil=>simp at h4
      |cons x m=>exact hm (by rw[e];simp)
     |false=>exact λe=>iy e.symm
theorem ahd{p:Px}{id:aw}{key:aq}{e:En}(h:iZ p)(Mp:1<=id/\id<=9)(hk:eZ key=ai)(hl:p.cl.length<6)(he:e∈p.en)(hek:e.k=key)(Mv:e.st<=p.now):iZ (hit p id key e):=by
 have fP:key∈p.w\/key∈p.m:=by rw[<-hek];exact h.ek e he
 obtain⟨t1,t2⟩:=tX h.pol hk;have tg:=abc (s:=p.s) (a:=p.a) fP;have sm:=CF h;have hr:=nq.KL (h.en e he);obtain⟨j1,j2,j3⟩:=adv (c:=⟨id,key,0,e.st,2,e.bo,p.now-e.st⟩) h.cs;unfold hit;generalize e6.val p.w p.m p.s p.a key=V at t1 t2 tg;obtain⟨W,M,S,A,G⟩:=V;dsimp only at t1 t2 tg⊢;subst tg;have sm2:Qa p.en W M:=λk=>by
  rw[t2 k];refine Iff.trans ?_ (sm k);constructor
  ·rintro ⟨q|q|rfl,_⟩
   ·exact .inl q
   ·exact .inr q
   ·exact fP
  ·intro q;refine⟨q.elim .inl λq=> .inr (.inl q), ?_⟩
   obtain⟨x,hx,rfl⟩:=(sm k).1 q;have:=(nq.KL (h.en x hx)).1;intro e;rw[e]at this;exact cS this.1 (by decide)
 obtain⟨q1,q2⟩:=of_same sm2 h.so t1;refine⟨h.now,h.en,h.so,q1,t1,q2,h.fl,h.fe,h.ap,by dsimp only;omega,λc hc=> ?_,j2, ?_⟩
 ·rcases j3 c hc with rfl|hc
  ·unfold LQ;simp only[aK,bj];exact⟨Mp,hk,by omega,⟨by omega,by omega⟩,by omega,⟨by omega,Mv⟩,by omega⟩
  ·exact h.cl c hc
 ·have:=h.hits;dsimp only;by_cases hh:p.hits<1000000000
  ·rw[aE hh,au];omega
  ·rw[aG hh,ax];exact this
theorem I2{l:az aq}{k x:aq}:x∈without l k↔x∈l/\x≠k:=by unfold without;simp
theorem IG{p:Px}{id:aw}{key:aq}{h:aY}{fe:az Fe}{i:aC}(ho:iZ p)(Mp:1<=id/\id<=9)(hk:eZ key=ai)(hl:p.cl.length<6)(hn:p.fe.length<=fe.length)(YI:fe.length<=20)(hf:∀f∈fe,nC p.now f=ai)(hap:fe.Pairwise λf g=>mw g f=ak)(hi:i<fe.length)(hp:h=ak->True):iZ (put p id key h fe i):=by
 obtain⟨⟨k1,nd⟩,l1,l2,hs⟩:=jy.1 ho.pol;have OP:=M3 key hs;have sm:=CF ho;obtain⟨j1,j2,j3⟩:=adv (c:=⟨id,key,(i:aw)+1,0,1,(el fe i).t,0⟩) ho.cs;have hfi:=hf _ (mO hi);have pD:∀c∈jn p.cl ⟨id,key,(i:aw)+1,0,1,(el fe i).t,0⟩,LQ p.now fe.length c=true:=λc hc=>by
  rcases j3 c hc with rfl|hc
  ·unfold nC at hfi;unfold LQ;simp only[aK,bj]at hfi⊢;have:=ho.now;exact⟨Mp,hk,by omega,⟨by omega,by omega⟩,hfi.2.1,⟨by omega,by omega⟩,by omega⟩
  ·have:=ho.cl c hc;unfold LQ at this⊢;simp only[aK,bj]at this⊢;exact⟨this.1,this.2.1,this.2.2.1,⟨this.2.2.2.1.1,by omega⟩,this.2.2.2.2⟩
 unfold put;cases h with
 |false=>have YT:sS p.w p.m (dq.val p.s p.a key).1 (dq.val p.s p.a key).2=true:=jy.2 ⟨⟨k1,nd⟩,l1,l2,OP⟩;exact⟨ho.now,ho.en,ho.so,ho.ek,YT,ho.len,YI,hf,hap,by dsimp only;omega,pD,j2,ho.hits⟩
 |true=>
  have YT:sS (without p.w key) (without p.m key) (dq.val p.s p.a key).1 (dq.val p.s p.a key).2=true:=by
   refine jy.2 ⟨⟨λk hx=> ?_, ?_⟩,dc fu.iu l1,dc fu.iu l2,OP⟩
   ·rcases bf.1 hx with q|q
    ·exact k1 k (bf.2 (.inl (I2.1 q).1))
    ·exact k1 k (bf.2 (.inr (I2.1 q).1))
   ·have:without p.w key++without p.m key=(p.w++p.m).filter λx=> !decide (x=key):=by unfold without;rw[ij]
    rw[this];exact nd.sublist jM
  have sm2:Qa (fY p.en key) (without p.w key) (without p.m key):=λk=>by
   rw[I2,I2];constructor
   ·intro q;have iy:k≠key:=q.elim (·.2) (·.2);obtain⟨x,hx,rfl⟩:=(sm k).1 (q.elim (λq=> .inl q.1) (λq=> .inr q.1));exact⟨x,mN.2 ⟨hx,iy⟩,rfl⟩
   ·rintro ⟨x,hx,rfl⟩;obtain⟨hx,iy⟩:=mN.1 hx;exact((sm x.k).2 ⟨x,hx,rfl⟩).elim (λq=> .inl ⟨q,iy⟩) (λq=> .inr ⟨q,iy⟩)
  have so:=ho.so.drop key;obtain⟨q1,q2⟩:=of_same sm2 so YT;exact⟨ho.now,λe he=>ho.en e (mN.1 he).1,so,q1,YT,q2,YI,hf,hap,by dsimp only;omega,pD,j2,ho.hits⟩
theorem O2{p:Px}{id:aw}{key:aq}{h:aY}(ho:iZ p)(Mp:1<=id/\id<=9)(hk:eZ key=ai)(hl:p.cl.length<6):iZ (wC p id key h).1:=by
 unfold wC;cases hop:RI p.fe key with
 |some i=>have hi:i<p.fe.length:=(yY.1 hop).1;exact IG ho Mp hk hl (cJ _) ho.fl ho.fe ho.ap hi (λ_=>trivial)
 |none=>
  dsimp only;by_cases YI:p.fe.length<20
  ·rw[aE YI,au];have AL:∀f∈p.fe,Ji key f=false:=λf hf=>by have:=FE.1 hop f hf;simpa using this
   have avK:=ho.now;refine IG ho Mp hk hl (by simp) (by simp;omega) (λf hf=> ?_) ?_ (by simp) (λ_=>trivial)
   ·rcases bf.1 hf with q|q
    ·exact ho.fe f q
    ·rw[aZ]at q;subst q;unfold nC vf;simp only[aK,bj];exact⟨hk,by show((0:aC):aw)<=400;omega,by omega,by omega,by omega,by omega⟩
   ·rw[uS];refine⟨ho.ap,by simp,λa ha b hb=> ?_⟩
    rw[aZ]at hb;subst hb;have:=AL a ha;unfold Ji at this;unfold mw vf;dsimp only;revert this;rw[show decide (key=a.k)=decide (a.k=key)from by rw[cg];exact JY];cases decide (a.k=key)<;>cases decide (a.sta=1)<;>simp
  ·rw[aG YI];exact ho
theorem agC{p:Px}(id:aw)(key:aq)(h:iZ p):iZ (je.ask p id key).1:=by
 unfold je.ask;cases hg:jv p&&(decide (1<=id/\id<=9)&&(eZ key&&(!mn p.cl id&&decide (p.cl.length<6))))with
 |false=>exact h
 |true=>
  simp only[aK,bj]at hg;obtain⟨_,Mp,hk,_,hl⟩:=hg;rw[au];cases he:L5 p.en key with
  |none=>exact O2 h Mp hk hl
  |some e=>
   dsimp only;cases hf:tv e p.now with
   |false=>exact O2 h Mp hk hl
   |true=>
    unfold L5 at he;have h1:=I9 he;have h2:=G3 he;refine ahd h Mp hk hl h1 (cF h2) ?_;unfold tv at hf;rw[HM.eq]at hf;unfold HM.v at hf;rw[show nq.v e.k e.st e.li e.bo=ai from h.en e h1,au,show kq.v p.now e.st 1000000000=decide (e.st<=p.now/\p.now<=1000000000)from fK.eO _ _ _]at hf;cases hd:decide (e.st<=p.now/\p.now<=1000000000)with
    |true=>exact(cF hd).1
    |false=>rw[hd]at hf;cases hf
end Lj

namespace Lk
open Lib (Px Cl Fe En el)
open GO (iZ LQ rR)
open Nq (ab9)
theorem Gq{now n:aw}(h:1<=now/\now<=1000000000):now<=sF.later now n/\sF.later now n<=1000000000:=by
 unfold sF.later;have:=Int.emod_nonneg n (show(1000:aw)≠0 by omega);have:=Int.emod_lt_of_pos n (show(0:aw)<1000 by omega);by_cases hc:now>1000000000-n%1000
 ·rw[aE hc,au];omega
 ·rw[aG hc,ax,bZ (by omega) (by omega)];omega
theorem aaK{p:Px}(n:aw)(h:iZ p):iZ (sF.val p n):=ab9 h (Gq h.now).1 (Gq h.now).2
theorem UW{p:Px}(id:aw)(h:iZ p):iZ (uZ.val p id):=
 ⟨h.now,h.en,h.so,h.ek,h.pol,h.len,h.fl,h.fe,h.ap,dc (eV _ _) h.cll,λc hc=>h.cl c (dE.1 hc).1,h.cs.sublist jM,h.hits⟩
end Lk

namespace iI
open Lib (Px Cl Fe En el)
open fu (has gK)
open jR (eZ sS)
open nM (ve)
open nN (nC mw)
open qR (jv)
open GO (iZ LQ rR)
open ig (vB told F7 Gz jx)
open vh (cls lD)
open lV (EB)
open iX (Ga Jg tx kp sN)
open kB (dk es)
open jm (Wo Ev closed Dp mR kZ flag)
open Nq (CI Oy TP V0 Nd)
def on(l:az Fe):aC:=l.countP λf=>decide (f.sta=1)
theorem vb5{x:aw}(h:x<=1000000000):(bytesOf (Lib.vb x)).size<=5:=by
 rw[Lib.ie]
 exact Lib.CL 4 x (by have:(128:aw)^5=34359738368:=by decide
                      omega)
theorem Mf{e:En}(h:Ga e=ai):(Jg e).size<=460:=by
 have hr:=nq.KL h;have z1:=vb5 (x:=(e.k.size:aw)) (by omega);have z2:=vb5 (x:=e.st) (by omega);have z3:=vb5 (x:=e.li) (by omega);have ht:(sN e).size<=445:=by unfold sN jF.sN;simp only[Lib.jK];omega
 have z4:=vb5 (x:=((sN e).size:aw)) (by omega);unfold Jg fI.fr;rw[Lib.jK,Lib.jK,o6.size];omega
theorem Xb(l:az En)(h:∀e∈l,Ga e=ai):(tx l).size<=460*l.length:=by
 induction l with
 |nil=>exact cJ _
 |cons e l ih=>have h1:=Mf (h e (by simp));have h2:=ih λx hx=>h x (by simp[hx]);have:(tx (e::l)).size=(Jg e).size+(tx l).size:=dH;rw[this,dh];omega
structure v9 (i:aC) (w:Wo):Prop where
 px:iZ w.p
 eo:∀e∈es w.o,Ga e=ai
 ct:2*(es w.o).length+on w.p.fe<=i
 cd:w.cd.length=i
 bd:w.bd.length<=i
 bo:∀e∈w.bd,Ga e=ai
theorem v9.len{i:aC}{w:Wo}(h:v9 i w)(hi:i<=71):(es w.o).length<=35:=by have:=h.ct;omega
theorem v9.tx{i:aC}{w:Wo}(h:v9 i w)(hi:i<=71):(tx (es w.o)).size<=16100:=by have:=Xb _ h.eo;have:=h.len hi;omega
theorem MM{l:az Fe}{n:aC}{g:Fe}(hn:n<l.length):on (l.set n g)+(if(el l n).sta=1 then 1 else 0)=on l+(if g.sta=1 then 1 else 0):=by
 unfold on;rw[List.countP_set hn,fF hn];have hle:l[n].sta=1->1<=l.countP λf=>decide (f.sta=1):=λh=>List.countP_pos_iff.2 ⟨_,bu hn,aE h⟩;generalize l.countP (λf=>decide (f.sta=1))=m at hle;by_cases h1:l[n].sta=1
 ·have:=hle h1;by_cases h2:g.sta=1
  ·rw[bB h1,bB h2,bB (aE h1),bB (aE h2)];omega
  ·rw[bB h1,bH h2,bB (aE h1),bH (by rw[aG h2];simp)];omega
 ·by_cases h2:g.sta=1
  ·rw[bH h1,bB h2,bH (by rw[aG h1];simp),bB (aE h2)];omega
  ·rw[bH h1,bH h2,bH (by rw[aG h1];simp),bH (by rw[aG h2];simp)];omega
theorem Wh{now:aw}(hn:1<=now/\now<=1000000000)(l:az En):iZ (gA.sU now l):=by
 have key:∀(l:az En) (p:Px),iZ p->iZ (l.foldl (gA.one now) p):=by
  intro l;induction l with
  |nil=>intro p h;exact h
  |cons e l ih=>
   intro p h;rw[EI];refine ih _ ?_;unfold gA.one;cases hf:gA.tv e now with
   |true=>exact Nd h (gA.AH hf)
   |false=>exact h
 refine key l _ ⟨hn,λe h=>(by cases h),gZ,λe h=>(by cases h), ?_,rfl,bk _,λf h=>(by cases h),gZ,bk _,λc h=>(by cases h),gZ,by show(0:aw)<=0/\(0:aw)<=1000000000;omega⟩;refine Jk.jy.2 ⟨⟨λk h=>(by cases h),List.nodup_nil⟩,bk _,bk _,Jk.IQ.2 ⟨rfl,by show(0:aw)<=0/\(0:aw)<=63;omega,λq hq=> ?_⟩⟩;have:q=gA.K5:=by change q∈[gA.K5,gA.K5,gA.K5]at hq;simp at hq;exact hq
 subst this;refine⟨rfl,λn hn=> ?_⟩
 unfold gA.K5 at hn;simp at hn;omega
theorem LX{p:Px}{f life:aw}(h:iZ p)(hl:0<=life/\life<=999999):
  iZ (cls p f life).1/\(((cls p f life).2=ak/\(cls p f life).1=p)\/((cls p f life).2=ai/\∃n:aC,f=(n:aw)/\n<p.fe.length/\(cls p f life).1.fe=p.fe.set n {el p.fe n with sta:=2,li:=life,st:=p.now}/\(el p.fe n).sta=1/\
   (life>0->Ga (lD {el p.fe n with sta:=2,li:=life,st:=p.now})=ai/\(has (cls p f life).1.w (el p.fe n).k||has (cls p f life).1.m (el p.fe n).k)=ai))):=by
 unfold cls;cases ho:vB p f&&decide (0<=life/\life<=999999)with
 |false=>exact⟨h, .inl ⟨rfl,rfl⟩⟩
 |true=>
  rw[aK]at ho;obtain⟨n,rfl,hn,_,h1⟩:=jx ho.1;obtain⟨g1,g2,g3,g4,g5⟩:=Oy h hn;have avK:=h.now;rw[au,eT];have ht:iZ (told p n {el p.fe n with sta:=2,li:=life,st:=p.now} 2):=by refine CI h hn rfl ?_ (λe=>cS e (by dsimp only;omega)) (by omega);unfold nC;simp only[aK,bj];exact⟨g1,g2,by omega,hl,by omega,by omega⟩
  have he:life>0->Ga (lD {el p.fe n with sta:=2,li:=life,st:=p.now})=true:=λXM=>by unfold Ga lD nq.v;dsimp only;rw[jR.iO,g1,au,show kq.v p.now 0 1000000000=decide (0<=p.now/\p.now<=1000000000)from fK.eO _ _ _,aE (show 0<=p.now/\p.now<=1000000000 by omega),au,show kq.v life 1 999999=decide (1<=life/\life<=999999)from fK.eO _ _ _,aE (show 1<=life/\life<=999999 by omega),au];exact aE g2
  by_cases XM:life>0
  ·rw[aE XM,au];have fP:=Lj.Xa (key:=(el p.fe n).k) ht.pol g1;exact⟨Nd ht (he XM), .inr ⟨rfl,n,rfl,hn,rfl,h1,λ_=>⟨he XM,fP⟩⟩⟩
  ·rw[aG XM,ax];exact⟨ht, .inr ⟨rfl,n,rfl,hn,rfl,h1,λh=>cS h XM⟩⟩
theorem agD(p:Px)(id:aw)(key:aq):on (je.ask p id key).1.fe<=on p.fe+1:=by
 have hm:∀h,on (je.wC p id key h).1.fe<=on p.fe+1:=λh=>by
  unfold je.wC;cases je.RI p.fe key with
  |some i=>exact jr _
  |none=>
   dsimp only;cases decide (p.fe.length<20)with
   |true=>show on (p.fe++[je.vf key])<=_;unfold on;rw[List.countP_append];exact cJ _
   |false=>exact jr _
 unfold je.ask;cases jv p&&(decide (1<=id/\id<=9)&&(eZ key&&(!je.mn p.cl id&&decide (p.cl.length<6))))with
 |false=>exact jr _
 |true=>
  rw[au];cases je.L5 p.en key with
  |none=>exact hm _
  |some e=>
   dsimp only;cases je.tv e p.now with
   |false=>exact hm _
   |true=>exact jr _
theorem Du(w:Wo):(mR w).length<=(es w.o).length:=dc (eV ..) (iX.MD _)
theorem Ib{w:Wo}(h:∀e∈es w.o,Ga e=ai):∀e∈mR w,Ga e=true:=λe he=>h e (iX.ahF (dE.1 he).1)
theorem CH{i:aC}{w:Wo}{e:Ev}(h:v9 i w)(he:kZ e=ai):v9 (i+1) (jm.step w e):=by
 unfold kZ at he;simp only[aK,bj]at he;obtain⟨hk,Mp,ht,hn,hl⟩:=he;have hct:=h.ct;have hbd:=h.bd;have cdl:∀n:aw,(w.cd++[n]).length=i+1:=λn=>by rw[cf,h.cd];rfl
 have px':∀(p:Px) (n:aw),iZ p->on p.fe<=on w.p.fe+1->v9 (i+1) {{w with p:=p}with cd:=w.cd++[n]}:=λp n hp ho=>⟨hp,h.eo,by dsimp only;omega,cdl n,m_ h.bd,h.bo⟩
 unfold jm.step jm.act;by_cases k1:e.k=1
 ·rw[aE k1,au];exact px' _ _ (Lj.agC _ _ h.px) (agD ..)
 rw[aG k1,ax];by_cases k2:e.k=2
 ·rw[aE k2,au];refine px' _ _ (V0 _ _ h.px) ?_;unfold Gz;cases ho:vB w.p e.id&&(decide (1<=e.t.size/\e.t.size<=40)&&decide ((el w.p.fe e.id.toNat).t.size+e.t.size<=400))with
  |false=>exact jr _
  |true=>
   rw[aK]at ho;obtain⟨n,en,hn,_,h1⟩:=jx ho.1;rw[en,eT];have q:∀g:Fe,g.sta=(el w.p.fe n).sta->on (w.p.fe.set n g)<=on w.p.fe+1:=λg hg=>by have:=MM (g:=g) hn;rw[hg]at this;omega
   exact q _ rfl
 rw[aG k2,ax];by_cases k3:e.k=3
 ·rw[aE k3,au];have hlr:0<=e.n%1000000/\e.n%1000000<=999999:=by omega
  obtain⟨q1,q2⟩:=LX (f:=e.id) h.px hlr;unfold closed;dsimp only;rcases q2 with ⟨r1,r2⟩|⟨r1,n,rn,hn,rf,rs,rl⟩
  ·rw[r1,lu,ax];exact px' _ _ q1 (by rw[r2];exact jr _)
  ·have:=MM (g:={el w.p.fe n with sta:=2,li:=e.n%1000000,st:=w.p.now}) hn;rw[bB rs,bH (show¬(2:aw)=1 by omega)]at this;have ho:on (cls w.p e.id (e.n%1000000)).1.fe+1=on w.p.fe:=by rw[rf];exact this
   rw[r1,bm];by_cases XM:e.n%1000000>0
   ·rw[aE XM,au];obtain⟨s1,s2⟩:=rl XM;have hx:Ga (lD (el (cls w.p e.id (e.n%1000000)).1.fe e.id.toNat))=true:=by rw[rn,eT,<-rn,rf,ig.jT hn];exact s1
    refine⟨q1,λy hy=> ?_, ?_,cdl _, ?_,λy hy=> ?_⟩
    ·rcases bf.1 hy with hy|hy
     ·exact h.eo y hy
     ·rw[aZ]at hy;rw[hy];exact hx
    ·show 2*(es w.o++[_]).length+on (cls w.p e.id (e.n%1000000)).1.fe<=i+1;rw[cf,bC];omega
    ·show(w.bd++[_]).length<=i+1;rw[cf,bC];omega
    ·rcases bf.1 hy with hy|hy
     ·exact h.bo y hy
     ·rw[aZ]at hy;rw[hy];exact hx
   ·rw[aG XM,ax];exact px' _ _ q1 (by omega)
 rw[aG k3,ax];by_cases k4:e.k=4
 ·rw[aE k4,au];refine px' _ _ (TP _ h.px) ?_;unfold F7;cases ho:vB w.p e.id with
  |false=>exact jr _
  |true=>
   obtain⟨n,en,hn,_,h1⟩:=jx ho;rw[en,eT];have q:∀g:Fe,g.sta=3->on (w.p.fe.set n g)<=on w.p.fe+1:=λg hg=>by have:=MM (g:=g) hn;rw[bB h1,bH (show¬g.sta=1 by omega)]at this;omega
   exact q _ rfl
 rw[aG k4,ax];by_cases k5:e.k=5
 ·rw[aE k5,au];exact px' _ _ (Lk.aaK _ h.px) (jr _)
 rw[aG k5,ax];by_cases k6:e.k=6
 ·rw[aE k6,au];exact px' _ _ (Lk.UW _ h.px) (jr _)
 rw[aG k6,ax];have QE:=Du w;have hinv:=gA.wA w.p.now (mR w) (mR w).length (cJ _);rw[dv]at hinv;refine⟨Wh h.px.now _,Ib h.eo, ?_,cdl _,m_ h.bd,h.bo⟩
 show 2*(mR w).length+on (gA.sU w.p.now (mR w)).fe<=i+1;rw[hinv.fe];show 2*(mR w).length+0<=i+1;omega
end iI

namespace sB
open Lib (rr rs re rf rc rd Px En el)
open jm (Wo Ev kZ)
open kB (dk es)
open iI (v9)
open fU (ri vm)
instance:Inhabited Ev:=⟨⟨0,0,⟨#[]⟩,0,[]⟩⟩
def Evr(e:Ev):az CV:=[CV.i ao e.k,CV.i ao e.id,CV.s e.t,CV.i ao e.n,CV.l 3 e.l]
def rv(l:az Ev):aQ:=l.map Evr
theorem lF(l):(rv l).length=l.length:=by unfold rv;simp
theorem wv0{l:az Ev}{i:aC}(h:i<l.length):ar (rv l) i 0=CV.i ao (el l i).k:=gi _ l i 0 h
theorem wv1{l:az Ev}{i:aC}(h:i<l.length):ar (rv l) i 1=CV.i ao (el l i).id:=gi _ l i 1 h
theorem wv2{l:az Ev}{i:aC}(h:i<l.length):ar (rv l) i (1+1)=CV.s (el l i).t:=gi _ l i 2 h
theorem wv3{l:az Ev}{i:aC}(h:i<l.length):ar (rv l) i (1+1+1)=CV.i ao (el l i).n:=gi _ l i 3 h
theorem wv4{l:az Ev}{i:aC}(h:i<l.length):ar (rv l) i (1+1+1+1)=CV.l 3 (el l i).l:=gi _ l i 4 h
theorem Iy(e:Ev):U31.v e.k e.id e.t e.n e.l=kZ e:=by unfold U31.v kZ;rw[show lj.v e.k 1 7=decide (1<=e.k/\e.k<=7)from fK.eO _ _ _,show lj.v e.id 0 30=decide (0<=e.id/\e.id<=30)from fK.eO _ _ _,show decide (((e.t.size:aC):aw)<=60)=decide (e.t.size<=60)from by rw[cg];omega,show decide (e.n≥0)=decide (0<=e.n)from rfl,show decide (((e.l.length:aC):aw)<=4)=decide (e.l.length<=4)from by rw[cg];omega];cases decide (1<=e.k/\e.k<=7)<;>cases decide (0<=e.id/\e.id<=30)<;>cases decide (e.t.size<=60)<;>cases decide (0<=e.n)<;>rfl
theorem aaD(e:Ev):U56.v e.k e.id e.t e.n e.l=kZ e:=Iy e
def w0:Wo:=⟨gA.p0 1,aj,[],[]⟩
def run(l:az Ev):Wo:=l.foldl jm.step w0
theorem tT(l:az Ev)(i:aC)(h:i<l.length):run (l.take (i+1))=jm.step (run (l.take i)) (el l i):=by unfold run;rw[bQ h,zN,fF h];rfl
theorem apn:v9 0 w0:=by refine⟨iI.Wh (now:=1) (by omega) [],λe h=>(by cases h),cJ _,rfl,cJ _,λe h=>(by cases h)⟩
theorem D6{l:az Ev}(h:∀e∈l,kZ e=ai):∀i,i<=l.length->v9 i (run (l.take i)):=by
 intro i;induction i with
 |zero=>intro _;exact apn
 |succ i ih=>intro hi;rw[tT l i hi];exact iI.CH (ih (by omega)) (h _ (mO hi))
theorem IL{l:az Ev}(h:∀e∈l,kZ e=ai):v9 l.length (run l):=by have:=D6 h l.length (cJ _);rwa[dv]at this
def W13(w:Wo)(b:aY):aw×aQ×aQ×aQ×aQ×aw×aQ×aQ×aw×aQ×aQ×aQ×aY:=(w.p.now,re w.p.en,rs w.p.w,rs w.p.m,rr w.p.s,w.p.a,rf w.p.fe,rc w.p.cl,w.p.hits,rd (dk w.o),ri w.cd,re w.bd,b)
def B3(l:az Ev):aY:=decide (l.length<=70)&&(ch l.length).all λi=>kZ (el l i)
def life(l:az Ev):aw×aQ×aQ×aQ×aQ×aw×aQ×aQ×aw×aQ×aQ×aQ×aY:=bif B3 l then W13 (run l) ai else(0,[],[],[],[],0,[],[],0,[],[],[],ak)
theorem qF{l:az Ev}:B3 l=ai↔l.length<=70/\∀e∈l,kZ e=true:=by unfold B3;rw[aK,bj,bA];refine and_congr Iff.rfl ⟨λh e he=> ?_,λh i hi=>h _ (mO (kV.1 hi))⟩;obtain⟨i,hi,rfl⟩:=c_ he;have:=h i (kV.2 hi);rwa[fF hi]at this
end sB

namespace TA
theorem bd{x0 x1:aw}{x2:aq}{x3:aw}{q:aQ}{L:aw}(h2:CD x2)(z:ng q)(h0:0<=L)(h1:L<=1048576):v x0 x1 x2 x3 q L<=1048576/\(¬v x0 x1 x2 x3 q L<0->q.length<=1048576/\v x0 x1 x2 x3 q L+(q.length:aw)<=L):=by
 have hz:x2.size<=4611686018427387904:=h2;unfold v;rw[bZ (x:=L-(x2.size:aw)) (by omega) (by omega)];by_cases c0:L-(x2.size:aw)<0
 ·rw[aE c0,au];exact⟨by omega,λh=>cS (by omega) h⟩
 ·rw[aG c0,ax];cases hd:decide (BM.v q (L-(x2.size:aw))<0)with
  |true=>rw[au];exact⟨by omega,λh=>cS (by omega) h⟩
  |false=>rw[ax];obtain⟨e1,e2⟩:=BM.fits (by omega) (by omega) z hd;rw[e2];exact⟨by omega,λ_=>⟨e1,by omega⟩⟩
end TA

namespace Jv
def tot(a:aQ):aC:=(a.map λy=>(gD (y.getD 4 (.b ak))).length).sum
def mU(a:aQ):Prop:=(∀j,j<a.length->(gD (ar a j 4)).length<=1048576)/\tot a<=1048576
theorem W_(a:aQ)(i:aC)(h:i<a.length):tot (a.take (i+1))=tot (a.take i)+(gD (ar a i 4)).length:=by unfold tot;rw[bQ h,cQ,mD,Lib.cG h];simp
theorem run(a:aQ)(L:aw)(h0:0<=L)(h1:L<=1048576)(ha:ng a):∃x,vo a L=ah x/\x<=1048576/\(0<=x->a.length<=1048576/\mU a):=by
 have hl:=ha.1;unfold vo b;rw[bZ (x:=L-(a.length:aw)) (by omega) (by omega)];by_cases hc:L-(a.length:aw)<0
 ·rw[aE hc];exact⟨-1,rfl,by omega,λh=>by omega⟩
 ·rw[aG hc,ax];have key:=uB (λn (s:aC×aw)=>l5 Lib.cy (λ(_:aQ) (_ y6 _:aw)=>ah y6) (λ(_:aQ) (y9 _ _:aw)=>ah y9) n a s.2 0 (s.1:aw)) (λs=>a.length-s.1) (λs=>s.1<=a.length/\0<=s.2/\s.2<=1048576/\(∀j,j<s.1->(gD (ar a j 4)).length<=1048576)/\s.2+(tot (a.take s.1):aw)<=1048576) (λx=>x<=1048576/\(0<=x->mU a)) (λn s hs=>by
   obtain⟨i,L⟩:=s;obtain⟨hi,hL0,hL1,fP,hto⟩:=hs;dsimp only at hi hL0 hL1 fP hto⊢;by_cases h:i<a.length
   ·have iV:br ((i:aw)+1)=((i+1:aC):aw):=bZ (by omega) (by omega);have hw:=TA.bd (x0:=bF (ar a i 0)) (x1:=bF (ar a i 1)) (x3:=bF (ar a i (1+1+1))) (DP ha i (1+1)) (zK ha i (1+1+1+1)) hL0 hL1;generalize hv:TA.v (bF (ar a i 0)) (bF (ar a i 1)) (bz (ar a i (1+1))) (bF (ar a i (1+1+1))) (gD (ar a i (1+1+1+1))) L=vv at hw;by_cases hn:vv<0
    ·exact .inl ⟨-1,by simp only[l5,r5,Lib.de,h,aM,Lib.cz,aJ,au,Lib.dU,hv,hn],by omega,λh=>by omega⟩
    ·exact .inr ⟨(i+1,vv),⟨h,by omega,hw.1,λj hj=>by
      by_cases Mq:j=i
      ·subst Mq;exact(hw.2 hn).1
      ·exact fP j (by dsimp only at hj;omega),by
      have e:vv+((gD (ar a i 4)).length:aw)<=L:=(hw.2 hn).2;have e2:=W_ a i h;dsimp only;rw[e2];omega⟩,by dsimp only;omega,by simp only[l5,r5,Lib.de,h,aM,a_,Lib.cz,aJ,au,ax,Lib.dU,hv,hn,iV]⟩
   ·exact .inl ⟨L,by simp only[l5,r5,Lib.de,h,a_,ax],hL1,λ_=>⟨λj hj=>fP j (by omega),by
     have e:i=a.length:=by omega
     rw[e,dv]at hto;omega⟩⟩) Lib.cy (0,L-(a.length:aw)) ⟨bk _,by dsimp only;omega,by dsimp only;omega,λj hj=>cS hj (Nat.not_lt_zero j),by dsimp only;rw[Jq];show L-(a.length:aw)+((0:aC):aw)<=_;omega⟩ (ck (by omega))
  obtain⟨x,hx,hb,Ew⟩:=key;exact⟨x,hx,hb,λh=>⟨by omega,Ew h⟩⟩
theorem ok(a:aQ)(L:aw)(h0:0<=L)(h1:L<=1048576)(ha:ng a):c a L=ai/\v a L<=1048576/\(0<=v a L->a.length<=1048576/\mU a):=by obtain⟨x,h,h2,h3⟩:=run a L h0 h1 ha;obtain⟨e1,e2⟩:=out a L h;rw[e2];exact⟨e1,h2,h3⟩
end Jv

namespace LF
def eo(y:az CV):jm.Ev:=⟨bF (y.getD 0 (.b ak)),bF (y.getD 1 (.b ak)),bz (y.getD 2 (.b ak)),bF (y.getD 3 (.b ak)),s6.v (gD (y.getD 4 (.b ak)))⟩
def tl(a0:aQ):aQ:=sB.rv (a0.map eo)
theorem IY(a0:aQ):(tl a0).length=a0.length:=by unfold tl;rw[sB.lF];simp
theorem apk(a0:aQ):∀y∈tl a0,y.length=5:=by intro y hy;unfold tl sB.rv at hy;obtain⟨z,_,rfl⟩:=cw.1 hy;rfl
theorem run(a0:aQ)(hl:a0.length<=1048576)(fP:Jv.mU a0):vo a0=ah (tl a0):=by
 unfold vo b;rw[show decide ((a0.length:aw)=(a0.length:aw))=ai by simp,Lib.dU,Lib.cm (by omega) (by omega),aJ,au];have mono:=Lib.dB (λm (s:aC)=>l3 Lib.cy (λ(_:aQ) (_:aw) (y:aQ)=>ah y) m a0 (s:aw) ((tl a0).take s++aN [Ck.i ao,Ck.i ao,Ck.s,Ck.i ao,Ck.l 3] (a0.length-s))) (λi=>a0.length-i) (λi=>i<=a0.length) (λ_=>ah (tl a0)) (λm i hi=>by
  by_cases h:i<a0.length
  ·right;refine⟨i+1,h,by omega,rfl, ?_⟩
   have jb:i<(tl a0).length:=by rw[IY];exact h
   have e:=Lib.GH (ks:=[Ck.i ao,Ck.i ao,Ck.s,Ck.i ao,Ck.l 3]) (IY a0) h (dK jb) (apk a0 _ (bu jb));have eg:(tl a0)[i]=[CV.i ao (bF (ar a0 i 0)),CV.i ao (bF (ar a0 i 1)),CV.s (bz (ar a0 i (1+1))),CV.i ao (bF (ar a0 i (1+1+1))),CV.l 3 (s6.v (gD (ar a0 i (1+1+1+1))))]:=by simp[tl,sB.rv,sB.Evr,eo,ar,gg,h]
   rw[eg]at e;have hx:((tl a0).take i++aN [Ck.i ao,Ck.i ao,Ck.s,Ck.i ao,Ck.l 3] (a0.length-i)).length=a0.length:=by rw[cf,eE,IY,Lib.oI];omega
   have iV:br ((i:aw)+1)=((i+1:aC):aw):=bZ (by omega) (by omega);have hc:U65.c (bF (ar a0 i 0)) (bF (ar a0 i 1)) (bz (ar a0 i (1+1))) (bF (ar a0 i (1+1+1))) (gD (ar a0 i (1+1+1+1)))=true:=aE (fP.1 i h);show l3 Lib.cy _ (m+1) a0 (i:aw) _=l3 Lib.cy _ m a0 ((i+1:aC):aw) _;rw[<-e];simp only[l3,r3,hx,hc,Lib.de,Lib.cz,Lib.dU,h,aM,aJ,au,iV]
  ·left;have:i=a0.length:=by omega
   subst this;rw[vP,fX (by rw[IY];exact cJ _),show aN [Ck.i ao,Ck.i ao,Ck.s,Ck.i ao,Ck.l 3] 0=[]from rfl,cu];simp only[l3,r3,Lib.de,bg,a_,ax]) Lib.cy 0 (bk _) (ck (by omega))
 simpa using mono
theorem ok(a0:aQ)(hl:a0.length<=1048576)(fP:Jv.mU a0):c a0=ai/\v a0=tl a0:=out a0 (run a0 hl fP)
theorem abs(a0:aQ)(hl:a0.length<=1048576)(fP:Jv.mU a0):∃l:az jm.Ev,l.length<=1048576/\(∀e∈l,∀y∈e.l,y.length=1)/\(l.map λe=>e.l.length).sum<=1048576/\c a0=ai/\v a0=sB.rv l:=by
 refine⟨a0.map eo,by simpa using hl,λe he y hy=> ?_, ?_,ok a0 hl fP⟩
 ·obtain⟨z,_,rfl⟩:=cw.1 he;unfold eo s6.v at hy;obtain⟨u,_,rfl⟩:=cw.1 hy;rfl
 ·rw[kl];refine dc (Nat.le_of_eq ?_) fP.2;unfold Jv.tot;congr 1;apply wU;intro y _;show(s6.v _).length=_;unfold s6.v;simp
end LF

namespace s_
theorem ok(l:aQ)(hl:l.length<=4294967296):c l=ai/\v l=l:=by refine out l ?_;unfold vo b;rw[show bK (aN [Ck.s] 0)+l.length=l.length by simp[aN],Lib.cm (by omega) (by omega)];rfl
end s_

namespace jq
open Lib (rr rs)
theorem ok(w m:az aq)(s:az (az aw))(a:aw)(hw:w.length<=1048576)(hm:m.length<=1048576)(hf:jj.oF s):c (rs w) (rs m) (rr s) a=ai/\v (rs w) (rs m) (rr s) a=(rs w,rs m,rr s,a):=by have h1:=s_.ok (rs w) (by rw[eD];omega);have h2:=s_.ok (rs m) (by rw[eD];omega);have h3:=jj.ok s a hf;exact out _ _ _ _ (by unfold vo b;rw[h1.1,h1.2,h2.1,h2.2,h3.1,h3.2,au,au,au])
end jq

namespace iM
open Lib (rr rs re rf rc Px)
theorem ok(p:Px)(hp:p.Fit 1048576):c p.now (re p.en) (rs p.w) (rs p.m) (rr p.s) p.a (rf p.fe) (rc p.cl) p.hits=ai/\v p.now (re p.en) (rs p.w) (rs p.m) (rr p.s) p.a (rf p.fe) (rc p.cl) p.hits=(p.now,re p.en,rs p.w,rs p.m,rr p.s,p.a,rf p.fe,rc p.cl,p.hits):=by have he:=hp.en;have hf:=hp.fe;have hc:=hp.cl;have h1:=w9.ok (re p.en) (by rw[dr];omega);have h2:=jq.ok p.w p.m p.s p.a hp.w hp.m ⟨hp.s.1,hp.s.2.1⟩;exact out _ _ _ _ _ _ _ _ _ (by unfold vo b;rw[h1.1,h1.2,h2.1,h2.2,au,au,Lib.cm (by simp[aN,dQ];omega) (by simp[aN,dQ];omega),Lib.cm (by simp[aN,fc];omega) (by simp[aN,fc];omega)];rfl)
end iM

namespace pK
open Lib (rr)
theorem eO(n a b:aw):lj.v n a b=decide (a<=n/\n<=b):=fK.eO n a b
theorem ok(s:az (az aw))(a:aw)(hf:jj.oF s):c (rr s) a=ai/\v (rr s) a=fK.n_ s a:=by
 refine out _ _ ?_;unfold vo b;have hl:=hf.1;rw[gL]
 have inner:∀i (h:i<s.length) (K0 K1:aY->aQ->aQ->aw->aw->aQ->aw->aw->aQ->aw->ay aY) (kf kt:ay aY) (x:aw)
   (h0:∀j:aw,K0 ak (Lib.ri s[i]) (rr s) s.length i (Lib.ri s[i]) x j (rr s) a=kf) (h1:∀j:aw,K1 ak (Lib.ri s[i]) (rr s) s.length i (Lib.ri s[i]) x j (rr s) a=kt),x=(s[i].length:aw)->l5 Lib.cy K0 K1 Lib.cy ak (Lib.ri s[i]) (rr s) s.length (i:aw) (Lib.ri s[i]) x 0 (rr s) a=bif(s[i]).all fK.O3 then kt else kf:=λi h K0 K1 kf kt x h0 h1 hx=>by
  subst hx
  exact o_ (s[i]) fK.O3 (λm (j:aC)=>l5 Lib.cy K0 K1 m ak (Lib.ri s[i]) (rr s) s.length (i:aw) (Lib.ri s[i]) s[i].length (j:aw) (rr s) a) kf kt
   (λm j hj hp=>by have hl:=hf.2 _ (bu h);unfold fK.O3 at hp;simp only[l5,r5,Lib.de,hj,aM,Lib.cz,aJ,au,Lib.dU,Lib.f_,RJ hj,bF,eO,hp,aX,ax,Lib.c5 hj (by omega:s[i].length<=9223372036854775807)])
   (λm j hj hp=>by unfold fK.O3 at hp;simp only[l5,r5,Lib.de,hj,aM,Lib.cz,aJ,au,Lib.dU,Lib.f_,RJ hj,bF,eO,hp,bS,h0])
   (λm=>by simp only[l5,r5,Lib.de,bg,a_,ax,h1]) Lib.cy (ck (by have:=hf.2 _ (bu h);omega))
 have ro:∀q:az aw,fK.sA q=(q.all fK.O3&&decide (q.length=16)):=λq=>Bool.and_comm ..
 have key:=o_ s fK.sA (λm (i:aC)=>l2 Lib.cy (λ(y36:aY) (_:aQ) (_ _:aw) (_:aQ) (_:aw)=>ah y36) (λ(_:aY) (_:aQ) (_ _:aw) (y46:aQ) (y47:aw)=>bif(decide ((↑(bK y46):aw)=3))then(ah (lj.v y47 0 63))else(ah ak)) m ak (rr s) s.length (i:aw) (rr s) a) (ah ak) (ah (decide (s.length=3)&&decide (0<=a/\a<=63)))
  (λm i h hp=>by rw[ro,aK]at hp;have K_:=cF hp.2;simp only[l2,r2,gL,Lib.de,h,aM,Lib.cz,aJ,au,Lib.dU,Lc h,gD,Lib.f_];rw[inner i h _ _ (ah ak) _ _ (λ_=>rfl) (λ_=>rfl) rfl,hp.1,au,Lib.f_,K_,show(((16:aC):aw) !=16)=ak from rfl,ax,Lib.c5 h (by omega)])
  (λm i h hp=>by
   rw[ro]at hp;simp only[l2,r2,gL,Lib.de,h,aM,Lib.cz,aJ,au,Lib.dU,Lc h,gD,Lib.f_];rw[inner i h _ _ (ah ak) _ _ (λ_=>rfl) (λ_=>rfl) rfl];cases ha:(s[i]).all fK.O3 with
   |false=>rfl
   |true=>rw[ha,bm]at hp;have:=oK hp;rw[au,Lib.f_,show((s[i].length:aw) !=16)=ai by simp;omega,au])
  (λm=>by simp only[l2,r2,gL,Lib.de,bg,a_,ax,eO];rw[show decide ((s.length:aw)=3)=decide (s.length=3)by rw[cg];omega];cases decide (s.length=3)<;>rfl) Lib.cy (ck (by omega))
 refine key.trans ?_;unfold fK.n_;cases s.all fK.sA<;>cases decide (s.length=3)<;>cases decide (0<=a/\a<=63)<;>rfl
end pK

namespace EX
theorem ok(n:aw)(h0:0<=n)(h1:n<=4294967296):c n=ai/\v n=[]:=by
 refine out n ?_;unfold vo b;have e:br (n-br (0-0))=n:=by rw[show br (0-0)=0 from rfl,Int.sub_zero,bZ (by omega) (by omega)]
 rw[e,aG (show¬n<0 by omega),ax];by_cases hn:n>0
 ·rw[aE hn,au,aE h0,aE (show n<=9223372036854775807 by omega),Lib.cm (by simp;omega) (by simp;omega)];simp[e8]
 ·rw[aG hn,ax]
end EX

namespace w8
theorem ok(p q:aQ)(hp:p.length<=1048576)(hq:q.length<=1048576):c [[CV.l 9 p],[CV.l 9 q]]=ai/\v [[CV.l 9 p],[CV.l 9 q]]=p++q:=by
 refine out _ ?_;have w1:br (0+(p.length:aw))=(p.length:aw):=by rw[Int.zero_add];exact bZ (by omega) (by omega)
 have w2:br ((p.length:aw)+(q.length:aw))=(p.length:aw)+(q.length:aw):=bZ (by omega) (by omega);have hg:=EX.ok ((p.length:aw)+(q.length:aw)) (by omega) (by omega);have d1:decide ((p.length:aw)<0)=false:=aG (by omega);have d2:decide ((p.length:aw)+(q.length:aw)<0)=false:=aG (by omega);have g1:cC (0+p.length) 16=true:=Lib.cm (by omega) (by omega);have g2:cC (p.length+q.length) 16=true:=Lib.cm (by omega) (by omega);have c0:gD (ar [[CV.l 9 p],[CV.l 9 q]] 0 0)=p:=rfl;have c1:gD (ar [[CV.l 9 p],[CV.l 9 q]] 1 0)=q:=rfl;unfold vo b;obtain⟨n,hn⟩:∃n,Lib.cy=n+3:=⟨18446744073709551613,rfl⟩
 generalize Lib.cy=B at hn⊢;subst hn;have k3:∀(R:Type) (K:aQ->aw->aQ->aw->aw->ay R) (S:aQ),S=[[CV.l 9 p],[CV.l 9 q]]->l3 (n+3) K (n+3) S 0 S 2 0=K S ((p.length:aw)+(q.length:aw)) S 2 2:=by intro R K S hS;subst hS;simp only[l3,r3,dh,jN,show bc 0=0 from rfl,c0,w1,d1,show br (0+1)=1 from rfl,show bc 1=1 from rfl,c1,w2,d2,show br (1+1)=2 from rfl,ax,show decide ((0:aw)<2)=ai from rfl,show decide ((1:aw)<2)=ai from rfl,show decide ((2:aw)<2)=ak from rfl,show decide ((0:aw)<=0)=ai from rfl,show decide ((0:aw)<=1)=ai from rfl,show((0+1+1:aC):aw)=2 from rfl,aJ,au]
 have k11:∀(R:Type) (K:aQ->aw->aw->aQ->ay R) (S:aQ),S=[[CV.l 9 p],[CV.l 9 q]]->QP (n+3) K (n+3) S 2 0 []=K S 2 2 (p++q):=by intro R K S hS;subst hS;simp only[QP,tO,dh,jN,show bc 0=0 from rfl,c0,g1,show br (0+1)=1 from rfl,show bc 1=1 from rfl,c1,gG,g2,show br (1+1)=2 from rfl,ax,show decide ((0:aw)<2)=ai from rfl,show decide ((1:aw)<2)=ai from rfl,show decide ((2:aw)<2)=ak from rfl,show decide ((0:aw)<=0)=ai from rfl,show decide ((0:aw)<=1)=ai from rfl,show((0+1+1:aC):aw)=2 from rfl,aJ,au]
 show l3 (n+3) _ (n+3) _ 0 _ 2 0=_;rw[k3 _ _ _ rfl,hg.1,hg.2,au];exact k11 _ _ _ rfl
end w8

namespace qw
theorem ok(w m:az aq)(s:aQ)(a:aw)(hw:w.length<=1048576)(hm:m.length<=1048576):c (Lib.rs w) (Lib.rs m) s a=ai/\v (Lib.rs w) (Lib.rs m) s a=Lib.rs (w++m):=by
 have h:=w8.ok (Lib.rs w) (Lib.rs m) (by rw[eD];exact hw) (by rw[eD];exact hm);have e:aL (aL (aN [Ck.l 9] 2) 0 [CV.l 9 (Lib.rs w)]) 1 [CV.l 9 (Lib.rs m)]=[[CV.l 9 (Lib.rs w)],[CV.l 9 (Lib.rs m)]]:=rfl;have e2:Lib.rs w++Lib.rs m=Lib.rs (w++m):=by unfold Lib.rs;rw[cQ]
 exact out _ _ _ _ (by unfold vo b;rw[e,h.1,h.2,au,e2])
end qw

namespace BX
theorem ok(l:az aq)(k:aq)(hl:l.length<=4294967296):c (Lib.rs l) k=ai/\decide (v (Lib.rs l) k≥0)=fu.has l k:=by
 have h:=out (Lib.rs l) k (x:=Lib.fi (λi=>decide ((l.getD i ⟨#[]⟩)=k)) l.length 0) (by
  unfold vo b;rw[eD];refine n6 (λi=>decide ((l.getD i ⟨#[]⟩)=k)) l.length (λm (i:aC)=>l2 Lib.cy (λ(_:aQ) (_:aq) (y7 _ _:aw)=>ah y7) (λ(_:aQ) (_:aq) (_ _ _:aw)=>ah (-1)) m (Lib.rs l) k 0 (l.length:aw) (i:aw)) ah (λm i hi hp=> ?_) (λm i hi hp=> ?_) (λm=> ?_) Lib.cy (ck (by omega))
  ·have hg:l.getD i ⟨#[]⟩=l[i]:=by simp[gg,hi]
   rw[hg]at hp;have mB:decide (k=l[i])=true:=by rw[<-hp,cg];exact JY
   simp only[l2,r2,eD,Lib.de,hi,aM,Lib.cz,aJ,au,Lib.dU,XT hi,bz,Lib.fw,mB]
  ·have hg:l.getD i ⟨#[]⟩=l[i]:=by simp[gg,hi]
   rw[hg]at hp;have mB:decide (k=l[i])=false:=by rw[<-hp,cg];exact JY
   simp only[l2,r2,eD,Lib.de,hi,aM,Lib.cz,aJ,au,Lib.dU,XT hi,bz,Lib.fw,mB,ax,Lib.c5 hi (by omega:l.length<=9223372036854775807)]
  ·simp only[l2,r2,Lib.de,bg,a_,ax])
 refine⟨h.1, ?_⟩
 rw[h.2];exact Lib.L_ l (λx=>decide (x=k)) _ (λi hi=>by simp[gg,hi])
end BX

namespace sG
theorem ok(l:az aq)(k:aq)(hl:l.length<=4294967296):c (Lib.rs l) k=ai/\v (Lib.rs l) k=fu.has l k:=by have h:=BX.ok l k hl;exact out _ _ (by unfold vo b;rw[h.1,h.2,au])
end sG

namespace o4
open Lib (rr rs)
open fu (has without gK lE)
open jR (eZ MB nv sS yS)
theorem iO(k:aq):Ay.v k=eZ k:=fK.eO _ _ _
theorem ok(w m:az aq)(s:az (az aw))(a:aw)(hw:w.length<=1048576)(hm:m.length<=1048576)(hf:jj.oF s):c (rs w) (rs m) (rr s) a=ai/\v (rs w) (rs m) (rr s) a=sS w m s a:=by
 refine out _ _ _ _ ?_;have h2:=pK.ok s a hf;have h3:=qw.ok w m (rr s) a hw hm;unfold vo b;rw[h3.1,h3.2,au,eD];have hl:(w++m).length<=2097152:=by rw[cf];omega
 have fP:∀i,i<(w++m).length->sG.c (rs ((w++m).take i)) ((w++m).getD i ⟨#[]⟩)=ai/\sG.v (rs ((w++m).take i)) ((w++m).getD i ⟨#[]⟩)=has ((w++m).take i) ((w++m).getD i ⟨#[]⟩):=λi hi=>sG.ok _ _ (by rw[eE];omega);have hk:∀i (hi:i<(w++m).length),bz (ar (rs (w++m)) i 0)=(w++m).getD i ⟨#[]⟩:=λi hi=>by rw[XT hi,show(w++m).getD i ⟨#[]⟩=(w++m)[i]by rw[d_,dK hi];rfl];rfl
 generalize hL:w++m=L at hl fP hk
 have key:=jS (MB L) L.length (λn (i:aC)=>l3 Lib.cy (λ(y8:aY) (_ _:aw) (_ _ _:aQ) (_:aw) (_:aQ)=>ah y8) (λ(_:aY) (_ _:aw) (Fu wK Lh:aQ) (Li:aw) (_:aQ)=>bif(decide ((↑(bK Fu):aw)<=2))then(bif(decide ((↑(bK wK):aw)<=4))then(bif(pK.c Lh Li)then(ah (pK.v Lh Li))else(aj))else(ah ak))else(ah ak)) n ak (L.length:aw) (i:aw) (rs w) (rs m) (rr s) a (rs L)) (ah ak) (ah (decide (w.length<=2)&&(decide (m.length<=4)&&fK.n_ s a)))
  (λn i hi hp=>by
   unfold MB at hp;rw[aK,du]at hp;have b1:iA 0 (i:aw) (L.length:aw)=true:=by simp[iA];omega
   simp only[l3,r3,eD,Lib.de,hi,aM,Lib.cz,aJ,au,Lib.dU,hk i hi,iO,hp.1,aX,ax,b1,yS,(fP i hi).1,(fP i hi).2,hp.2,Lib.c5 hi (by omega:L.length<=9223372036854775807)])
  (λn i hi hp=>by
   have b1:iA 0 (i:aw) (L.length:aw)=true:=by simp[iA];omega
   unfold MB at hp;cases h1:eZ (L.getD i ⟨#[]⟩)with
   |false=>simp only[l3,r3,eD,Lib.de,hi,aM,Lib.cz,aJ,au,Lib.dU,hk i hi,iO,h1,bS]
   |true=>rw[h1,bm,mF]at hp;simp only[l3,r3,eD,Lib.de,hi,aM,Lib.cz,aJ,au,Lib.dU,hk i hi,iO,h1,aX,ax,b1,yS,(fP i hi).1,(fP i hi).2,hp])
  (λn=>by simp only[l3,r3,eD,Lib.de,bg,a_,ax,h2.1,h2.2,au];rw[show decide ((w.length:aw)<=2)=decide (w.length<=2)by rw[cg];omega,show decide ((m.length:aw)<=4)=decide (m.length<=4)by rw[cg];omega];cases decide (w.length<=2)<;>cases decide (m.length<=4)<;>rfl) Lib.cy (ck (by omega))
 refine key.trans ?_;unfold sS nv;rw[hL];cases (ch L.length).all (MB L)<;>rfl
end o4

namespace sE
open Lib (rr rs)
open fu (has)
theorem YL(w m:az aq)(k:aq):has (w++m) k=(has w k||has m k):=by unfold has;rw[List.any_append]
theorem ok(w m:az aq)(s:aQ)(a:aw)(k:aq)(hw:w.length<=1048576)(hm:m.length<=1048576):c (rs w) (rs m) s a k=ai/\v (rs w) (rs m) s a k=(has w k||has m k):=by have h1:=qw.ok w m s a hw hm;have h2:=sG.ok (w++m) k (by rw[cf];omega);exact out _ _ _ _ _ (by unfold vo b;rw[h1.1,h1.2,h2.1,h2.2,au,au,YL])
end sE

namespace RA
open Lib (rr rs re el pF r_ sa sb En)
open fu (has)
open jR (sS)
open nM (Jf Ov ve)
theorem F_(k:aq)(s l:aw)(b:aq):wX.v k s l b=nq.v k s l b:=rfl
theorem ok(i0:aw)(en:az En)(w m:az aq)(s:az (az aw))(a:aw)(r6 r7:aQ)(i8:aw)(he:en.length<=1048576)(hw:w.length<=1048576)(hm:m.length<=1048576)(hf:jj.oF s):
  c i0 (re en) (rs w) (rs m) (rr s) a r6 r7 i8=ai/\v i0 (re en) (rs w) (rs m) (rr s) a r6 r7 i8=Ov en w m s a:=by
 refine out _ _ _ _ _ _ _ _ _ ?_;have h1:=o4.ok w m s a hw hm hf;have h2:=λk=>sE.ok w m (rr s) a k hw hm;have h3:=qw.ok w m (rr s) a hw hm;unfold vo b;rw[dr]
 have key:=jS (Jf en w m) en.length (λn (i:aC)=>l2 Lib.cy (λ(I4:aY) (_:aQ) (_ _ _:aw) (_ _ _ _:aQ) (_:aw) (_ _:aQ) (_:aw)=>ah I4) (λ(_:aY) (_:aQ) (_ _ _:aw) (RU Rq Xi y34:aQ) (y35:aw) (_ _:aQ) (_:aw)=>bif(o4.c Rq Xi y34 y35)then(bif(o4.v Rq Xi y34 y35)then(bif(qw.c Rq Xi y34 y35)then(ah (decide ((↑(bK (qw.v Rq Xi y34 y35)):aw)=(↑(bK RU):aw))))else(aj))else(ah ak))else(aj)) n ak (re en) (en.length:aw) (i:aw) i0 (re en) (rs w) (rs m) (rr s) a r6 r7 i8) (ah ak) (ah (sS w m s a&&decide (w.length+m.length=en.length)))
  (λn i hi hp=>by
   unfold Jf ve at hp;rw[aK,aK]at hp;obtain⟨p1,p2,p3⟩:=hp;by_cases hz:i=0
   ·subst hz;simp only[l2,r2,dr,Lib.de,hi,aM,Lib.cz,aJ,au,Lib.dU,pF hi,r_ hi,sa hi,sb hi,bz,bF,F_,p1,aX,ax,aG (show¬(((0:aC):aw)>0)by omega),(h2 _).1,(h2 _).2,p3,Lib.c5 hi (by omega:en.length<=9223372036854775807)]
   ·rw[aG hz,od]at p2;have iV:i-1<en.length:=by omega
    simp only[l2,r2,dr,Lib.de,hi,aM,Lib.cz,aJ,au,Lib.dU,pF hi,r_ hi,sa hi,sb hi,bz,bF,F_,p1,aX,ax,aE (show(i:aw)>0 by omega),lS (show 0<i by omega) (by omega),iV,pF iV,p2,(h2 _).1,(h2 _).2,p3,Lib.c5 hi (by omega:en.length<=9223372036854775807)])
  (λn i hi hp=>by
   unfold Jf ve at hp;cases p1:nq.v (el en i).k (el en i).st (el en i).li (el en i).bo with
   |false=>simp only[l2,r2,dr,Lib.de,hi,aM,Lib.cz,aJ,au,Lib.dU,pF hi,r_ hi,sa hi,sb hi,bz,bF,F_,p1,bS]
   |true=>
    rw[p1,bm]at hp;by_cases hz:i=0
    ·subst hz;rw[aE rfl,BD,bm]at hp;simp only[l2,r2,dr,Lib.de,hi,aM,Lib.cz,aJ,au,Lib.dU,pF hi,r_ hi,sa hi,sb hi,bz,bF,F_,p1,aX,bS,ax,aG (show¬(((0:aC):aw)>0)by omega),(h2 _).1,(h2 _).2,hp]
    ·rw[aG hz,od]at hp;have iV:i-1<en.length:=by omega
     cases p2:b9 (aA (el en (i-1)).k) (aA (el en i).k)with
     |false=>simp only[l2,r2,dr,Lib.de,hi,aM,Lib.cz,aJ,au,Lib.dU,pF hi,r_ hi,sa hi,sb hi,bz,bF,F_,p1,aX,bS,ax,aE (show(i:aw)>0 by omega),lS (show 0<i by omega) (by omega),iV,pF iV,p2]
     |true=>rw[p2,bm]at hp;simp only[l2,r2,dr,Lib.de,hi,aM,Lib.cz,aJ,au,Lib.dU,pF hi,r_ hi,sa hi,sb hi,bz,bF,F_,p1,aX,bS,ax,aE (show(i:aw)>0 by omega),lS (show 0<i by omega) (by omega),iV,pF iV,p2,(h2 _).1,(h2 _).2,hp])
  (λn=>by simp only[l2,r2,Lib.de,bg,a_,ax,h1.1,h1.2,h3.1,h3.2,au,eD,dr,cf];rw[show decide (((w.length+m.length:aC):aw)=(en.length:aw))=decide (w.length+m.length=en.length)by rw[cg];omega];cases sS w m s a<;>rfl) Lib.cy (ck (by omega))
 refine key.trans ?_;unfold Ov;cases (ch en.length).all (Jf en w m)<;>rfl
end RA

namespace fW
def op(r:aQ)(i:aC):aY:=decide (bF (ar r i 2)=1)
def g(r:aQ)(i j:aC):aY:= !(op r i&&(op r j&&cW (aA (bz (ar r i 0))) (aA (bz (ar r j 0)))))
def val(r:aQ):aY:=(ch r.length).all λi=>(ch i).all (g r i)
end fW

namespace qx
def p(s0:aQ)(gP:aq)(i:aC):aY:=Ju.v (bz (ar s0 i 0)) (bz (ar s0 i 1)) (bF (ar s0 i (1+1))) (bF (ar s0 i (1+1+1))) (bF (ar s0 i (1+1+1+1))) gP
theorem ok(s0:aQ)(gP:aq)(hl:s0.length<=4294967296):c s0 gP=ai/\v s0 gP=Lib.fi (p s0 gP) s0.length 0:=by
 refine out s0 gP ?_;unfold vo b;refine n6 (p s0 gP) s0.length (λm (i:aC)=>l2 Lib.cy (λ(_:aQ) (_:aq) (y7 _ _:aw)=>ah y7) (λ(_:aQ) (_:aq) (_ _ _:aw)=>ah (-1)) m s0 gP 0 (s0.length:aw) (i:aw)) ah (λm i hi hp=> ?_) (λm i hi hp=> ?_) (λm=> ?_) Lib.cy (ck (by omega))
 ·unfold p at hp;simp only[l2,r2,Lib.de,Lib.cz,Lib.dU,hi,aM,aJ,au,hp]
 ·unfold p at hp;simp only[l2,r2,Lib.de,Lib.cz,Lib.dU,hi,aM,aJ,au,hp,ax,Lib.c5 hi (by omega:s0.length<=9223372036854775807)]
 ·simp only[l2,r2,Lib.de,bg,a_,ax]
end qx

namespace LN
theorem ok(i0:aw)(r1 r2 r3 r4:aQ)(i5:aw)(r6 r7:aQ)(i8:aw)(key:aq)(hl:r6.length<=4294967296):c i0 r1 r2 r3 r4 i5 r6 r7 i8 key=ai/\v i0 r1 r2 r3 r4 i5 r6 r7 i8 key=Lib.fi (qx.p r6 key) r6.length 0:=by have h:=qx.ok r6 key hl;exact out _ _ _ _ _ _ _ _ _ _ (by unfold vo b;rw[h.1,h.2,au])
end LN

namespace Oc
def q(r:aQ)(i:aC):aY:= !(fW.op r i&&(Lib.fi (qx.p r (bz (ar r i 0))) r.length 0 !=(i:aw)))
theorem same(r:aQ)(i:aC)(hi:i<r.length):q r i=(ch i).all (fW.g r i):=by
 unfold q;cases ho:fW.op r i with
 |false=>symm;rw[lu,bS,bA];intro j _;unfold fW.g;rw[ho];rfl
 |true=>
  rw[bm];have hp:∀j,qx.p r (bz (ar r i 0)) j= !fW.g r i j:=by intro j;unfold qx.p Ju.v fW.g;rw[ho,bm,Bool.not_not,Lib.fw,Lib.fw];unfold fW.op;rw[show decide (bz (ar r j 0)=bz (ar r i 0))=decide (bz (ar r i 0)=bz (ar r j 0))from by rw[cg];exact JY];cases decide (bz (ar r i 0)=bz (ar r j 0))<;>simp
  have hpi:qx.p r (bz (ar r i 0)) i=true:=by rw[hp];unfold fW.g;rw[ho,Lib.fw];simp
  rcases Lib.ph (qx.p r (bz (ar r i 0))) r.length 0 with ⟨_,h2⟩|⟨k,h1,h2,h3,h4,h5⟩
  ·have:=h2 i (bk _) (by omega);rw[hpi]at this;cases this
  ·rw[h3];by_cases hk:k=i
   ·subst hk;rw[da,bS];symm;rw[bA];intro j hj;have:=h5 j (bk _) (by simpa using hj);rw[hp]at this;simpa using this
   ·have jb:k<i:=by
     rcases qQ k i with h|h
     ·exact h
     ·have:=h5 i (bk _) (by omega);rw[hpi]at this;cases this
    rw[show((k:aw) !=(i:aw))=ai from by simp;omega,aX];symm;rw[List.all_eq_false];refine⟨k,by simpa using jb, ?_⟩
    rw[hp]at h4;simpa using h4
theorem ok(i0:aw)(p1 p2 p3 p4:aQ)(i5:aw)(p6 p7:aQ)(i8:aw)(hl:p6.length<=4294967296):c i0 p1 p2 p3 p4 i5 p6 p7 i8=ai/\v i0 p1 p2 p3 p4 i5 p6 p7 i8=fW.val p6:=by
 refine out _ _ _ _ _ _ _ _ _ ?_;unfold vo b;have hw:∀i,i<p6.length->br ((i:aw)+1)=((i+1:aC):aw):=λi h=>Lib.c5 h (by omega);have ho:=λkey=>LN.ok i0 p1 p2 p3 p4 i5 p6 p7 i8 key hl
 have key:=jS (q p6) p6.length (λm (i:aC)=>l2 Lib.cy (λ(I4:aY) (_:aQ) (_ _ _:aw) (_ _ _ _:aQ) (_:aw) (_ _:aQ) (_:aw)=>ah I4) (λ(_:aY) (_:aQ) (_ _ _:aw) (_ _ _ _:aQ) (_:aw) (_ _:aQ) (_:aw)=>ah ai) m ak p6 (p6.length:aw) (i:aw) i0 p1 p2 p3 p4 i5 p6 p7 i8) (ah ak) (ah ai)
  (λm i hi hp=>by
   unfold q fW.op at hp;cases e1:decide (bF (ar p6 i (1+1))=1)with
   |false=>simp only[l2,r2,Lib.de,hi,aM,Lib.cz,aJ,au,Lib.dU,e1,ax,hw i hi]
   |true=>rw[show decide (bF (ar p6 i 2)=1)=ai from e1,bm,du]at hp;simp only[l2,r2,Lib.de,hi,aM,Lib.cz,aJ,au,Lib.dU,e1,(ho _).1,(ho _).2,hp,ax,hw i hi])
  (λm i hi hp=>by unfold q fW.op at hp;rw[mF,aK]at hp;obtain⟨e1,e2⟩:=hp;have e1:decide (bF (ar p6 i (1+1))=1)=true:=e1;simp only[l2,r2,Lib.de,hi,aM,Lib.cz,aJ,au,Lib.dU,e1,(ho _).1,(ho _).2,e2])
  (λm=>by simp only[l2,r2,Lib.de,bg,a_,ax]) Lib.cy (ck (by omega))
 refine key.trans ?_;rw[all_congr (λi hi=>same p6 i hi)];unfold fW.val;cases (ch p6.length).all λi=>(ch i).all (fW.g p6 i)<;>rfl
end Oc

namespace Qd
open Lib (rf el Fe I1 GM wf2 Bh RM RN)
open nN (nC apart mw)
theorem eO(n a b:aw):lj.v n a b=decide (a<=n/\n<=b):=fK.eO n a b
theorem one(fe:az Fe):fW.val (rf fe)=(ch fe.length).all (apart fe):=by
 unfold fW.val;rw[dQ];refine all_congr (λi hi=> ?_);unfold apart;refine all_congr (λj hj=> ?_);have kg:j<fe.length:=by omega
 unfold fW.g fW.op mw;rw[I1 hi,I1 kg,Bh hi,Bh kg];simp only[bz,bF,Lib.fw];rfl
theorem ok(i0:aw)(u1 u2 u3 u4:aQ)(i5:aw)(fe:az Fe)(u7:aQ)(i8:aw)(hf:fe.length<=1048576):
  c i0 u1 u2 u3 u4 i5 (rf fe) u7 i8=ai/\v i0 u1 u2 u3 u4 i5 (rf fe) u7 i8=((ch fe.length).all (λi=>nC i0 (el fe i))&&(decide (fe.length<=20)&&(ch fe.length).all (apart fe))):=by
 refine out _ _ _ _ _ _ _ _ _ ?_;have h1:=Oc.ok i0 u1 u2 u3 u4 i5 (rf fe) u7 i8 (by rw[dQ];omega);rw[one]at h1;unfold vo b;rw[dQ]
 have key:=jS (λi=>nC i0 (el fe i)) fe.length (λn (i:aC)=>l2 Lib.cy (λ(I4:aY) (_:aQ) (_ _ _:aw) (_ _ _ _:aQ) (_:aw) (_ _:aQ) (_:aw)=>ah I4) (λ(_:aY) (_:aQ) (_ _ RT:aw) (RU Rq Xi y34:aQ) (y35:aw) (y36 y37:aQ) (y38:aw)=>bif(decide ((↑(bK y36):aw)<=20))then(bif(Oc.c RT RU Rq Xi y34 y35 y36 y37 y38)then(ah (Oc.v RT RU Rq Xi y34 y35 y36 y37 y38))else(aj))else(ah ak)) n ak (rf fe) (fe.length:aw) (i:aw) i0 u1 u2 u3 u4 i5 (rf fe) u7 i8) (ah ak) (ah (decide (fe.length<=20)&&(ch fe.length).all (apart fe)))
  (λn i hi hq=>by
   unfold nC at hq;simp only[aK]at hq;obtain⟨q1,q2,q3,q4,q5⟩:=hq;have e1:decide (((el fe i).t.size:aw)>400)= !decide (((el fe i).t.size:aw)<=400):=by rw[<-decide_not,cg];omega
   simp only[l2,r2,dQ,Lib.de,hi,aM,Lib.cz,aJ,au,Lib.dU,I1 hi,GM hi,wf2 hi,RM hi,RN hi,bz,bF,eO,o4.iO,e1,q1,q2,q3,q4,q5,aX,ax,Lib.c5 hi (by omega:fe.length<=9223372036854775807)])
  (λn i hi hq=>by
   unfold nC at hq;have e1:decide (((el fe i).t.size:aw)>400)= !decide (((el fe i).t.size:aw)<=400):=by rw[<-decide_not,cg];omega
   simp only[l2,r2,dQ,Lib.de,hi,aM,Lib.cz,aJ,au,Lib.dU,I1 hi,GM hi,wf2 hi,RM hi,RN hi,bz,bF,eO,o4.iO,e1];revert hq;cases jR.eZ (el fe i).k<;>cases decide (((el fe i).t.size:aw)<=400)<;>cases decide (1<=(el fe i).sta/\(el fe i).sta<=3)<;>cases decide (0<=(el fe i).li/\(el fe i).li<=999999)<;>cases decide (0<=(el fe i).st/\(el fe i).st<=i0)<;>intro hq<;>first|rfl|cases hq)
  (λn=>by simp only[l2,r2,Lib.de,bg,a_,ax,dQ,h1.1,h1.2,au];rw[show decide ((fe.length:aw)<=20)=decide (fe.length<=20)by rw[cg];omega];cases decide (fe.length<=20)<;>rfl) Lib.cy (ck (by omega))
 refine key.trans ?_;cases (ch fe.length).all (λi=>nC i0 (el fe i))<;>rfl
end Qd

namespace RB
open Lib (rf rc el Fe Cl Ro wc1 wc2 wc3 wc4 wc5 wc6)
open jR (eZ)
open qR (Je)
open Qd (eO)
theorem step(N:aC)(g k0 k1:aY->aQ->aw->aw->aw->aQ->aQ->aQ->aQ->aw->aQ->aQ->aw->ay R)(i0:aw)(q1 q2 q3 q4:aQ)(i5:aw)(fe:az Fe)(cl:az Cl)(i8:aw)(i:aC)(hi:i<cl.length)(hl:cl.length<=1048576):
  r2 N g k0 k1 ak (rc cl) cl.length (i:aw) i0 q1 q2 q3 q4 i5 (rf fe) (rc cl) i8=bif Je i0 fe.length cl i then g ak (rc cl) cl.length ((i+1:aC):aw) i0 q1 q2 q3 q4 i5 (rf fe) (rc cl) i8 else k0 ak (rc cl) cl.length (i:aw) i0 q1 q2 q3 q4 i5 (rf fe) (rc cl) i8:=by
 unfold Je;have e1:decide (((el cl i).got.size:aw)>400)= !decide (((el cl i).got.size:aw)<=400):=by rw[<-decide_not,cg];omega
 have e2:decide ((el cl i).age<0)= !decide (0<=(el cl i).age):=by rw[<-decide_not,cg];omega
 by_cases hz:i=0
 ·subst hz;simp only[r2,fc,dQ,Lib.de,hi,aM,Lib.cz,aJ,au,Lib.dU,Ro hi,wc1 hi,wc2 hi,wc3 hi,wc4 hi,wc5 hi,wc6 hi,bz,bF,eO,o4.iO,aG (show¬(((0:aC):aw)>0)by omega),ax,e1,e2,Lib.c5 hi (by omega:cl.length<=9223372036854775807),BD,bm];cases decide (1<=(el cl 0).id/\(el cl 0).id<=9)<;>cases eZ (el cl 0).k<;>cases decide (1<=(el cl 0).sta/\(el cl 0).sta<=3)<;>cases decide (0<=(el cl 0).fe/\(el cl 0).fe<=(fe.length:aw))<;>cases decide (((el cl 0).got.size:aw)<=400)<;>cases decide (0<=(el cl 0).fr/\(el cl 0).fr<=i0)<;>cases decide (0<=(el cl 0).age)<;>rfl
 ·have iV:i-1<cl.length:=by omega
  have e3:decide ((el cl (i-1)).id≥(el cl i).id)= !decide ((el cl (i-1)).id<(el cl i).id):=by rw[<-decide_not,cg];omega
  simp only[r2,fc,dQ,Lib.de,hi,aM,Lib.cz,aJ,au,Lib.dU,Ro hi,wc1 hi,wc2 hi,wc3 hi,wc4 hi,wc5 hi,wc6 hi,bz,bF,eO,o4.iO,aE (show(i:aw)>0 by omega),lS (show 0<i by omega) (by omega),iV,Ro iV,ax,e1,e2,e3,Lib.c5 hi (by omega:cl.length<=9223372036854775807),aG hz,od];cases decide (1<=(el cl i).id/\(el cl i).id<=9)<;>cases decide ((el cl (i-1)).id<(el cl i).id)<;>cases eZ (el cl i).k<;>cases decide (1<=(el cl i).sta/\(el cl i).sta<=3)<;>cases decide (0<=(el cl i).fe/\(el cl i).fe<=(fe.length:aw))<;>cases decide (((el cl i).got.size:aw)<=400)<;>cases decide (0<=(el cl i).fr/\(el cl i).fr<=i0)<;>cases decide (0<=(el cl i).age)<;>rfl
theorem ok(i0:aw)(q1 q2 q3 q4:aQ)(i5:aw)(fe:az Fe)(cl:az Cl)(i8:aw)(hl:cl.length<=1048576):
  c i0 q1 q2 q3 q4 i5 (rf fe) (rc cl) i8=ai/\v i0 q1 q2 q3 q4 i5 (rf fe) (rc cl) i8=((ch cl.length).all (Je i0 fe.length cl)&&decide (cl.length<=6)):=by
 refine out _ _ _ _ _ _ _ _ _ ?_;unfold vo b;rw[fc]
 have key:=jS (Je i0 fe.length cl) cl.length (λn (i:aC)=>l2 Lib.cy (λ(I4:aY) (_:aQ) (_ _ _:aw) (_ _ _ _:aQ) (_:aw) (_ _:aQ) (_:aw)=>ah I4) (λ(_:aY) (_:aQ) (_ _ _:aw) (_ _ _ _:aQ) (_:aw) (_ y37:aQ) (_:aw)=>ah (decide ((↑(bK y37):aw)<=6))) n ak (rc cl) (cl.length:aw) (i:aw) i0 q1 q2 q3 q4 i5 (rf fe) (rc cl) i8) (ah ak) (ah (decide (cl.length<=6)))
  (λn i hi hq=>by simp only[l2];rw[step _ _ _ _ _ _ _ _ _ _ _ _ _ i hi hl,hq];rfl)
  (λn i hi hq=>by simp only[l2];rw[step _ _ _ _ _ _ _ _ _ _ _ _ _ i hi hl,hq];rfl)
  (λn=>by simp only[l2,r2,Lib.de,bg,a_,ax,fc];rw[show decide ((cl.length:aw)<=6)=decide (cl.length<=6)by rw[cg];omega]) Lib.cy (ck (by omega))
 refine key.trans ?_;cases (ch cl.length).all (Je i0 fe.length cl)<;>rfl
end RB

namespace Qb
open Lib (rr rs re rf rc el En Fe Cl Px)
open nM (Ov)
open nN (nC apart)
open qR (Je jv)
theorem ok(p:Px)(hp:p.Fit 1048576):c p.now (re p.en) (rs p.w) (rs p.m) (rr p.s) p.a (rf p.fe) (rc p.cl) p.hits=ai/\v p.now (re p.en) (rs p.w) (rs p.m) (rr p.s) p.a (rf p.fe) (rc p.cl) p.hits=jv p:=by refine out _ _ _ _ _ _ _ _ _ ?_;have h1:=RA.ok p.now p.en p.w p.m p.s p.a (rf p.fe) (rc p.cl) p.hits hp.en hp.w hp.m ⟨hp.s.1,hp.s.2.1⟩;have h2:=Qd.ok p.now (re p.en) (rs p.w) (rs p.m) (rr p.s) p.a p.fe (rc p.cl) p.hits hp.fe;have h3:=RB.ok p.now (re p.en) (rs p.w) (rs p.m) (rr p.s) p.a p.fe p.cl p.hits hp.cl;unfold vo b jv;have e1:∀n a b,lj.v n a b=decide (a<=n/\n<=b):=λn a b=>fK.eO n a b;have e2:TB.v p.hits=decide (0<=p.hits/\p.hits<=1000000000):=e1 p.hits 0 1000000000;rw[e1,e2,h1.1,h1.2,h2.1,h2.2,h3.1,h3.2,HS];cases decide (1<=p.now/\p.now<=1000000000)<;>cases Ov p.en p.w p.m p.s p.a<;>cases decide (p.fe.length<=20)<;>cases decide (p.cl.length<=6)<;>cases decide (0<=p.hits/\p.hits<=1000000000)<;>cases (ch p.fe.length).all (λi=>nC p.now (el p.fe i))<;>cases (ch p.fe.length).all (apart p.fe)<;>cases (ch p.cl.length).all (Je p.now p.fe.length p.cl)<;>rfl
end Qb

namespace qy
def p(s:aQ)(k:aw)(i:aC):aY:=decide (bF (ar s i 0)=k)
theorem ok(d:aQ)(n:aw)(hl:d.length<=4294967296):c d n=ai/\v d n=Lib.fi (p d n) d.length 0:=by
 refine out d n ?_;unfold vo b;refine n6 (p d n) d.length (λm (i:aC)=>l2 Lib.cy (λ(_:aQ) (_:aw) (y7 _ _:aw)=>ah y7) (λ(_:aQ) (_:aw) (_ _ _:aw)=>ah (-1)) m d n 0 (d.length:aw) (i:aw)) ah (λm i hi hp=> ?_) (λm i hi hp=> ?_) (λm=> ?_) Lib.cy (ck (by omega))
 ·unfold p at hp;simp only[l2,r2,Lib.de,Lib.cz,Lib.dU,hi,aM,aJ,au,LA.v,hp]
 ·unfold p at hp;simp only[l2,r2,Lib.de,Lib.cz,Lib.dU,hi,aM,aJ,au,LA.v,hp,ax,Lib.c5 hi (by omega:d.length<=9223372036854775807)]
 ·simp only[l2,r2,Lib.de,bg,a_,ax]
end qy

namespace Av
open Lib (rc el Cl)
open je (mn)
theorem ok(i0:aw)(r1 r2 r3 r4:aQ)(i5:aw)(r6:aQ)(cl:az Cl)(i8 id:aw)(hl:cl.length<=1048576):c i0 r1 r2 r3 r4 i5 r6 (rc cl) i8 id=ai/\decide (v i0 r1 r2 r3 r4 i5 r6 (rc cl) i8 id≥0)=mn cl id:=by
 have h:=qy.ok (rc cl) id (by rw[fc];omega);have o:=out i0 r1 r2 r3 r4 i5 r6 (rc cl) i8 id (by unfold vo b;rw[h.1,h.2,au]);refine⟨o.1, ?_⟩
 rw[o.2,fc];exact je.L_ cl (λx=>decide (x.id=id)) _ λi hi=>by unfold qy.p;rw[Ro hi,fF hi];rfl
end Av

namespace pT
def p(s:aQ)(k:aq)(i:aC):aY:=cW (aA (bz (ar s i 0))) (aA k)
theorem ok(d:aQ)(n:aq)(hl:d.length<=4294967296):c d n=ai/\v d n=Lib.fi (p d n) d.length 0:=by
 refine out d n ?_;unfold vo b;refine n6 (p d n) d.length (λm (i:aC)=>l2 Lib.cy (λ(_:aQ) (_:aq) (y7 _ _:aw)=>ah y7) (λ(_:aQ) (_:aq) (_ _ _:aw)=>ah (-1)) m d n 0 (d.length:aw) (i:aw)) ah (λm i hi hp=> ?_) (λm i hi hp=> ?_) (λm=> ?_) Lib.cy (ck (by omega))
 ·unfold p at hp;simp only[l2,r2,Lib.de,Lib.cz,Lib.dU,hi,aM,aJ,au,Ly.v,hp]
 ·unfold p at hp;simp only[l2,r2,Lib.de,Lib.cz,Lib.dU,hi,aM,aJ,au,Ly.v,hp,ax,Lib.c5 hi (by omega:d.length<=9223372036854775807)]
 ·simp only[l2,r2,Lib.de,bg,a_,ax]
end pT

namespace qz
theorem ok(i:aC)(key:aq)(hi:i<3)(hk:key.size<=140737488355328):c (i:aw) key=ai/\v (i:aw) key=(gu.pl i key:aw):=by
 refine out _ _ ?_;unfold vo b;have e:(key++bytesOf (aL (aN [Ck.i ba] 1) 0 [CV.i ba (bE ba (br (↑(g9 (CM (dm 64 (i:aw)) (dm 64 255))):aw)))]))=gu.keyed i key:=by
  unfold gu.keyed;match i,hi with
  |0,_=>rfl
  |1,_=>rfl
  |2,_=>rfl
 have hs:=gu.Eb i key;have h:=u9.ok (gu.keyed i key) (by omega);have e2:b8 key+b8 (bytesOf (aL (aN [Ck.i ba] 1) 0 [CV.i ba (bE ba (br (↑(g9 (CM (dm 64 (i:aw)) (dm 64 255))):aw)))]))=key.size+1:=by rw[pL,Ea]
 rw[e2,e,aE (by omega),au,h.1,h.2,au];have hp:=gu.pl_int i key;have hl:=gu.D0 i key;have hr:=gu.M5 i key;unfold gu.sm at hp hr;rw[bZ (by omega) (by omega),hp]
end qz

namespace iG
open Lib (rr ri)
open dq (fR bq E4 half Dg Rk Rl nD uF tf)
theorem aiy(K:aq->aw->aw->aw->aw->aQ->ay R)(s:az (az aw))(key:aq)(y a:aw)(hs:s.length=3)(hq:∀q∈s,q.length=16/\∀n∈q,0<=n/\n<=15)(hk:key.size<=140737488355328):
  l5 Lib.cy K Lib.cy key 3 0 y a (rr s)=K key 3 3 y a (rr (E4 s key)):=by
 refine(nJ fR s (λi q=>bq (gu.pl i key) q) (λm (i:aC) x=>l5 Lib.cy K m key 3 (i:aw) y a x) (λx=>K key 3 3 y a x) (λm i L h h2 hL wv=> ?_) (λm L hL=> ?_) Lib.cy (ck (by omega)))
 ·have hp:=qz.ok i key (by omega) hk;have sR:=gu.D0 i key;obtain⟨K_,hn⟩:=hq _ (bu h);have e0:ar (L.map fR) i 0=CV.l 3 (ri s[i]):=by rw[Dg L i h2,wv]
  have hb:gu.pl i key<s[i].length:=by omega
  have hx:=hn _ (bu hb);have e3:decide ((i:aw)<3)=true:=aE (by omega);simp only[l5,r5,bR,Lib.de,h2,e3,aM,au,hp.1,hp.2,Lib.cz,aJ,Lib.dU,e0,gD,Lib.f_,K_,sR,RJ hb,bF];unfold bq il;rw[nD hb,ax,bZ (x:=s[i][gu.pl i key]+1) (by omega) (by omega)];by_cases hd:s[i][gu.pl i key]<15
  ·rw[bH (by omega),aE hd,au,Rk _ _ _ hb,Rl _ _ _ h2,Lib.c5 h2 (by omega)]
  ·have e15:s[i][gu.pl i key]=15:=by omega
   rw[bB (by omega),aG hd,ax,e15,Rk _ _ _ hb,Rl _ _ _ h2,Lib.c5 h2 (by omega)]
 ·have e3:decide ((s.length:aw)<3)=false:=aG (by omega);simp only[l5,r5,e3,ax,hs];rfl
theorem aoz(K:aC->aw->aw->aw->aw->aw->aw->aQ->ay R)(L:az (az aw))(i:aC)(h:i<L.length)(u w y a:aw)(hl:L.length<=1048576)(hq:L[i].length=16)(hn:∀n∈L[i],0<=n/\n<=15):
  l18 Lib.cy K Lib.cy i u w 16 0 y a (L.map fR)=K i u w 16 16 y a ((L.set i (L[i].map λn=>c7 n 2)).map fR):=by
 have hmi:L[i].mapIdx (λ_ n=>c7 n 2)=L[i].map λn=>c7 n 2:=by apply jO<;>simp
 have key:=jU (L[i].length) (λm (k:aC) x=>l18 Lib.cy K m i u w 16 (k:aw) y a x) (λk=>(L.set i (oa L[i] (λ_ n=>c7 n 2) k)).map fR) (K i u w 16 16 y a ((L.set i (L[i].map λn=>c7 n 2)).map fR)) (λm k hk=> ?_) (λm=> ?_) Lib.cy 0 (bk _) (ck (by omega))
 ·rw[Ei,fy]at key;exact key
 ·have hu:=qN L[i] (λ_ n=>c7 n 2) k (by omega);generalize hU:oa L[i] (λ_ n=>c7 n 2) k=U at hu;have hku:k<U.length:=by omega
  have gk:U[k]=L[i][k]:=by subst hU;exact yR _ _ _ hk _
  have ahp:U.set k (c7 L[i][k] 2)=oa L[i] (λ_ n=>c7 n 2) (k+1):=by subst hU;exact tZ L[i] (λ_ n=>c7 n 2) k hk
  have h2:i<(L.set i U).length:=by simpa using h
  have e0:ar ((L.set i U).map fR) i 0=CV.l 3 (ri U):=by rw[Dg _ _ h2,kD]
  have hx:=hn _ (bu hk);have ht:0<=c7 L[i][k] 2:=Ya hx.1 (by omega);have Im:c7 L[i][k] 2<=15:=Bk (Xu _ hx.1) hx.2;have e3:decide ((k:aw)<16)=true:=aE (by omega);simp only[l18,r18,bR,cO,Lib.de,h,hku,e3,aM,au,Lib.cz,aJ,Lib.dU,e0,gD,Lib.f_,RJ hku,bF,gk];rw[bZ (x:=c7 L[i][k] 2) (by omega) (by omega),Rk _ _ _ hku,Rl _ _ _ h2,ahp,pI,Lib.c5 hk (by omega)]
 ·have e3:decide ((L[i].length:aw)<16)=false:=aG (by omega);simp only[l18,r18,e3,ax];rw[qM,hmi,hq];rfl
theorem aox(K:aw->aw->aw->aw->aQ->ay R)(s:az (az aw))(y a:aw)(hs:s.length=3)(hq:∀q∈s,q.length=16/\∀n∈q,0<=n/\n<=15):
  l15 Lib.cy K Lib.cy 3 0 y a (rr s)=K 3 3 y a (rr (half s)):=by
 have hmi:s.mapIdx (λ_ q=>q.map λn=>c7 n 2)=half s:=by unfold half;apply jO<;>simp
 rw[<-hmi];refine(nJ fR s (λ_ q=>q.map λn=>c7 n 2) (λm (i:aC) x=>l15 Lib.cy K m 3 (i:aw) y a x) (λx=>K 3 3 y a x) (λm i L h h2 hL wv=> ?_) (λm L hL=> ?_) Lib.cy (ck (by omega)))
 ·obtain⟨K_,hn⟩:=hq _ (bu h);have e3:decide ((i:aw)<3)=true:=aE (by omega);have e0:ar (L.map fR) i 0=CV.l 3 (ri s[i]):=by rw[Dg L i h2,wv]
  simp only[l15,r15,bR,Lib.de,h2,e3,aM,au,Lib.cz,aJ,Lib.dU,e0,gD,Lib.f_,K_];rw[show((16:aC):aw)=16 from rfl,aoz _ L i h2 3 i y a (by omega) (by rw[wv];exact K_) (by rw[wv];exact hn),Lib.c5 h2 (by omega),wv]
 ·have e3:decide ((s.length:aw)<3)=false:=aG (by omega);simp only[l15,r15,e3,ax,hs];rfl
theorem ok(s:az (az aw))(a:aw)(key:aq)(hf:jj.oF s)(hk:key.size<=140737488355328):c (rr s) a key=ai/\v (rr s) a key=(rr (dq.val s a key).1,(dq.val s a key).2):=by
 refine out _ _ _ ?_;have h1:=jj.ok s a hf;have h2:=pK.ok s a hf;unfold vo b dq.val;rw[h1.1,h1.2,h2.1,h2.2,au,au];cases cj:fK.n_ s a with
 |false=>rfl
 |true=>
  obtain⟨hs,ha,hq⟩:=uF cj;obtain⟨b1,b2⟩:=tf (key:=key) hs hq;rw[aX,ax,au,gL,hs,show((3:aC):aw)=3 from rfl,aiy _ s key _ _ hs hq hk,bZ (x:=a+1) (by omega) (by omega)];by_cases hd:a+1=64
  ·rw[aG (show¬a+1<64 by omega),aE hd,au,ax,gL,b1,show((3:aC):aw)=3 from rfl,aox _ _ _ _ b1 b2]
  ·rw[aE (show a+1<64 by omega),aG hd];rfl
end iG

namespace sI
def p(s:aQ)(k:aq)(i:aC):aY:=cW (aA (bz (ar s i 0))) (aA k)
theorem ok(d:aQ)(n:aq)(hl:d.length<=4294967296):c d n=ai/\v d n=Lib.fi (p d n) d.length 0:=by
 refine out d n ?_;unfold vo b;refine n6 (p d n) d.length (λm (i:aC)=>l2 Lib.cy (λ(_:aQ) (_:aq) (y7 _ _:aw)=>ah y7) (λ(_:aQ) (_:aq) (_ _ _:aw)=>ah (-1)) m d n 0 (d.length:aw) (i:aw)) ah (λm i hi hp=> ?_) (λm i hi hp=> ?_) (λm=> ?_) Lib.cy (ck (by omega))
 ·unfold p at hp;simp only[l2,r2,Lib.de,Lib.cz,Lib.dU,hi,aM,aJ,au,BZ.v,hp]
 ·unfold p at hp;simp only[l2,r2,Lib.de,Lib.cz,Lib.dU,hi,aM,aJ,au,BZ.v,hp,ax,Lib.c5 hi (by omega:d.length<=9223372036854775807)]
 ·simp only[l2,r2,Lib.de,bg,a_,ax]
end sI

namespace xB
def cn(y:az CV):aY:=match y with|[.s _]=>ai|_=>ak
def cr(y:az CV):az CV:=[CV.s (bz (y.getD 0 (.b ak)))]
theorem tp{y:az CV}(h:cn y=ai):cr y=y:=by
 unfold cn at h;split at h
 ·rfl
 ·cases h
theorem mg{y:az CV}(h:cn y=ai):y.length=1:=by rw[<-tp h];rfl
def keep(d:aq)(y:az CV):aY:= !List.beq (aA (bz (y.getD 0 (.b ak)))) (aA d)
theorem ik(d:aq){s:aQ}{i:aC}(h:i<s.length):(s.take (i+1)).filter (keep d)=(s.take i).filter (keep d)++(bif keep d s[i]then [s[i]]else []):=by rw[bQ h,ij];cases hk:keep d s[i]<;>simp[hk]
theorem run(N:aC)(s0:aQ)(d:aq)(hc:s0.all cn=ai)(hn:s0.length<=9223372036854775807)(K:aq->aw->aw->aQ->ay R)(kr:aQ->ay R)
  (hK:∀(j:aC) x,x.length=s0.length->j<=s0.length->K d j s0.length x=kr (x.take j)) (m j i:aC) (x:aQ)
  (hi:j<i/\i<=s0.length/\x.length=s0.length/\(∀y∈x,y.length=1)/\x.take j=(s0.take i).filter (keep d)/\x.drop i=s0.drop i) (hm:s0.length-i<m):
  l5 N K m d j i x=kr (s0.filter (keep d)):=by
 have Ml:∀y∈s0,cn y=true:=bA.1 hc
 refine Lib.dB (λm (s:aC×aC×aQ)=>l5 N K m d s.1 s.2.1 s.2.2) (λs=>s0.length-s.2.1)
  (λs=>s.1<s.2.1/\s.2.1<=s0.length/\s.2.2.length=s0.length/\(∀y∈s.2.2,y.length=1)/\s.2.2.take s.1=(s0.take s.2.1).filter (keep d)/\s.2.2.drop s.2.1=s0.drop s.2.1)
  (λ_=>kr (s0.filter (keep d))) (λm s hs=> ?_) m (j,i,x) hi hm
 obtain⟨j,i,x⟩:=s;obtain⟨h1,h2,h3,h4,h5,h6⟩:=hs;simp only at h1 h2 h3 h4 h5 h6⊢;by_cases fP:i<s0.length
 ·right;have oq:i<x.length:=by omega
  have Ii:j<x.length:=by omega
  have hx:x[i]=s0[i]:=by have e1:=Lib.dG oq;have e2:=Lib.dG fP;rw[h6,e2]at e1;exact(ki e1).1.symm
  have hd:x.drop (i+1)=s0.drop (i+1):=by have e1:=Lib.dG oq;have e2:=Lib.dG fP;rw[h6,e2]at e1;exact(ki e1).2.symm
  have Mn:=Ml _ (bu fP);have hf:=ik d fP;cases hk:keep d s0[i]with
  |true=>
   refine⟨(j+1,i+1,x.set j s0[i]), ?_,by simp only;omega,trivial, ?_⟩
   ·rw[hk,au,<-h5]at hf;refine⟨by simp only;omega,by simp only;omega,by simpa using h3, ?_, ?_, ?_⟩
    ·intro y hy;rcases jE hy with h|h
     ·exact h4 y h
     ·rw[h];exact mg Mn
    ·rw[hf];rw[bQ (by simpa using Ii)];simp[wV]
    ·simp only;rw[wS (by omega)];exact hd
   ·have e:BZ.v (bz (ar x i 0)) d=false:=by
     have:(!BZ.v (bz (ar x i 0)) d)=true:=by rw[Lib.cG oq,hx];exact hk
     simpa using this
    have es:cK x j 0 [CV.s (bz (ar x i 0))]=x.set j s0[i]:=by
     have hl:=h4 _ (bu Ii);rw[Lib.CG Ii,Lib.cG oq,hx];have:dS x[j] 0 (cr s0[i])=s0[i]:=by rw[tp Mn];unfold dS;have:=mg Mn;simp[hl,this,gW]
     unfold cr at this;rw[this]
    have b1:(j:aw)<(x.length:aw):=by omega
    simp only[l5,r5,Lib.de,Lib.cz,Lib.dU,oq,Ii,aM,bm,au,e,bS,es,Lib.c5 fP hn,Lib.c5 (show j<s0.length by omega) hn]
  |false=>
   refine⟨(j,i+1,x), ?_,by simp only;omega,trivial, ?_⟩
   ·rw[hk,ax,cu,<-h5]at hf;exact⟨by simp only;omega,by simp only;omega,h3,h4,hf.symm,hd⟩
   ·have e:BZ.v (bz (ar x i 0)) d=true:=by
     have:(!BZ.v (bz (ar x i 0)) d)=false:=by rw[Lib.cG oq,hx];exact hk
     simpa using this
    simp only[l5,r5,Lib.de,Lib.cz,Lib.dU,oq,aM,bm,au,e,aX,ax,Lib.c5 fP hn]
 ·left;have:i=s0.length:=by omega
  subst this;rw[dv]at h5;have e:=hK j x h3 (by omega);rw[h5]at e;have oq:¬s0.length<x.length:=by omega
  simp only[l5,r5,Lib.de,oq,a_,ax,e]
theorem ok(s0:aQ)(iS:aq)(hc:s0.all cn=ai)(hn:s0.length<=4294967296):c s0 iS=ai/\v s0 iS=s0.filter (keep iS):=by
 refine out s0 iS ?_;have hv:=sI.ok s0 iS hn;unfold vo b;rw[hv.1,hv.2,au];rcases Lib.ph (sI.p s0 iS) s0.length 0 with ⟨h,nS⟩|⟨k,_,zA,hk,Mr,Mk⟩
 ·rw[h];have:s0.filter (keep iS)=s0:=by rw[eJ];intro y hy;obtain⟨i,hi,rfl⟩:=c_ hy;have:=nS i (bk _) (by omega);unfold sI.p at this;rw[Lib.cG hi]at this;unfold keep;rw[this];rfl
  rw[this];rfl
 ·rw[hk];have Fb:k<s0.length:=by omega
  have iy:decide ((k:aw)=Lt 1)=false:=aG (by show¬(k:aw)= -1;omega);rw[iy,ax,Lib.c5 Fb (by omega)];have Ml:∀y∈s0,cn y=true:=bA.1 hc;refine run _ s0 iS hc (by omega) _ ah (λj x hx hj=> ?_) _ k (k+1) s0 ⟨by omega,by omega,rfl,λy hy=>mg (Ml y hy), ?_,rfl⟩ (ck (by omega))
  ·have b1:iA (j:aw) (s0.length:aw) (s0.length:aw)=true:=by simp[iA];omega
   have e:gY j x++aN [Ck.s] (s0.length-j)++m9 s0.length x=gY j x++aN [Ck.s] (s0.length-j):=by rw[gW (by omega),cu]
   have hl:(gY j x).length=j:=by simp;omega
   simp only[hx,Lib.dU,b1,au,e];rw[Lib.qC (by simp[iA];omega)];unfold e8;rw[show bc 0=0 from rfl,eN,oN,oZ (by omega),fX (by omega)]
  ·rw[ik iS Fb];have e1:keep iS s0[k]=false:=by unfold sI.p at Mr;rw[Lib.cG Fb]at Mr;unfold keep;rw[Mr];rfl
   have e2:(s0.take k).filter (keep iS)=s0.take k:=by
    rw[eJ];intro y hy;obtain⟨i,hi,rfl⟩:=c_ hy;have XL:i<k:=by simp at hi;omega
    have:=Mk i (bk _) XL;unfold sI.p at this;rw[Lib.cG (by omega)]at this;rw[nk];unfold keep;rw[this];rfl
   rw[e1,e2,ax,cu]
end xB

namespace j7
theorem ak0(l:az aq):(Lib.rs l).all xB.cn=true:=by rw[bA];intro y hy;unfold Lib.rs at hy;obtain⟨z,_,rfl⟩:=cw.1 hy;rfl
theorem agV(l:az aq)(k:aq):(Lib.rs l).filter (xB.keep k)=Lib.rs (fu.without l k):=by unfold Lib.rs fu.without;rw[oY];congr 1;apply jo;intro x _;show(!List.beq (aA x) (aA k))=_;rw[Lib.fw]
theorem ok(l:az aq)(k:aq)(hl:l.length<=1048576):c (Lib.rs l) k=ai/\v (Lib.rs l) k=Lib.rs (fu.without l k):=by have h1:=s_.ok (Lib.rs l) (by rw[eD];omega);have h2:=xB.ok (Lib.rs l) k (ak0 l) (by rw[eD];omega);rw[agV]at h2;exact out _ _ (by unfold vo b;rw[h1.1,h1.2,h2.1,h2.2,au,au])
end j7

namespace v5
open Lib (rr ri)
open mz (gs Ig)
theorem ok(s:az (az aw))(a:aw)(key:aq)(hf:jj.oF s)(hk:key.size<=140737488355328):c (rr s) a key=ai/\v (rr s) a key=mz.val s a key:=by
 refine out _ _ _ ?_;have h2:=pK.ok s a hf;unfold vo b mz.val;rw[h2.1,h2.2,au];cases cj:fK.n_ s a with
 |false=>rfl
 |true=>
  obtain⟨hs,ha,hq⟩:=dq.uF cj;rw[aX,ax,au,gL];have:=Lib.dB (λm (t:aC×aw)=>l5 Lib.cy (λ(_:aq) (y6:aw) (_:aQ) (_ _:aw)=>ah y6) m key t.2 (rr s) s.length (t.1:aw)) (λt=>s.length-t.1) (λt=>t.1<=s.length) (λt=>ah (gs key t.1 (s.drop t.1) t.2)) (λm t ht=>by
   obtain⟨i,x⟩:=t;dsimp only at ht⊢;by_cases h:i<s.length
   ·right;have hp:=qz.ok i key (by omega) hk;have sR:=gu.D0 i key;obtain⟨K_,hn⟩:=hq _ (bu h);have hb:gu.pl i key<s[i].length:=by omega
    refine⟨(i+1,bif decide (s[i].getD (gu.pl i key) 0<x)then s[i].getD (gu.pl i key) 0 else x),by dsimp only;omega,by dsimp only;omega,by rw[<-Ig key s i h x], ?_⟩
    simp only[l5,r5,gL,Lib.de,h,aM,au,hp.1,hp.2,Lib.cz,aJ,Lib.dU,Lc h,gD,Lib.f_,K_,sR,RJ hb,bF,Lib.c5 h (by omega:s.length<=9223372036854775807)];rw[dq.nD hb];unfold il;rw[ax];by_cases hd:s[i][gu.pl i key]<x
    ·rw[bB hd,aE hd,au]
    ·rw[bH hd,aG hd,ax]
   ·left;have:i=s.length:=by omega
    subst this;simp only[l5,r5,gL,Lib.de,bg,a_,ax,cD,gs]) Lib.cy (0,15) (bk _) (ck (by dsimp only;omega))
  simpa using this
end v5

namespace Az
open Lib (rr rs)
open fu (has without gK lE wI iu pz)
open jR (eZ MB nv sS)
open e6 (Ec zer Ug W8 ny wB kH M1 tw DX)
theorem ok(w m:az aq)(s:az (az aw))(a:aw)(key:aq)(hw:w.length<=1048576)(hm:m.length<=1048576)(hf:jj.oF s)(hk:key.size<=140737488355328):
  c (rs w) (rs m) (rr s) a key=ai/\v (rs w) (rs m) (rr s) a key=(rs (e6.val w m s a key).1,rs (e6.val w m s a key).2.1,rr (e6.val w m s a key).2.2.1,(e6.val w m s a key).2.2.2.1,(e6.val w m s a key).2.2.2.2):=by
 refine out _ _ _ _ _ ?_;have h1:=jq.ok w m s a hw hm hf;have h2:=o4.ok w m s a hw hm hf;have h3:=iG.ok s a key hf hk;have h5:=sG.ok m key (by omega);have h6:=j7.ok w key hw;have h7:=j7.ok m key hm;have sf:=M1 (a:=a) (key:=key) hf;unfold vo b;simp only[Lib.lt,h1.1,h1.2,h2.1,h2.2,au];unfold e6.val;cases hp:sS w m s a with
 |false=>rfl
 |true=>
  obtain⟨p1,p2,p3,p4⟩:=DX hp;rw[o4.iO,bm];cases zA:eZ key with
  |false=>rfl
  |true=>
   have B6:=kH zA;have l6:=iu (l:=w) (k:=key);have l7:=iu (l:=m) (k:=key);simp only[aX,ax,au,h3.1,h3.2,h5.1,h5.2,h6.1,h6.2,h7.1,h7.2,Ec,zer,eD,pL,bC];rw[Lib.cm (n:=(without w key).length+1) (by omega) (by omega),Lib.cm (n:=(without m key).length+1) (by omega) (by omega)];simp only[au];cases hA:has w key with
   |true=>
    have hB:has m key=false:=by rw[lE];intro YP;have:=(wB.1 p1).2;rw[eB]at this;exact this.2.2 key (gK.1 hA) key YP rfl
    have jb:=pz hA;rw[hB,ax,au,aE (show((without w key++[key]).length:aw)<=2 by rw[cf,bC];omega)];rfl
   |false=>
    rw[wI hA];cases hB:has m key with
    |true=>rfl
    |false=>
     simp only[ax];rw[show decide (((w++[key]).length:aw)<=2)=decide ((w++[key]).length<=2)by rw[cg];omega];cases hC:decide ((w++[key]).length<=2)with
     |true=>rfl
     |false=>
      have hlw:(w++[key]).length=3:=by have:=oK hC;rw[cf,bC]at this⊢;omega
      have hfm:(w++[key]).getD 0 ⟨#[]⟩∈w++[key]:=tw (by omega);have Mo:((w++[key]).getD 0 ⟨#[]⟩).size<=30:=by
       rcases bf.1 hfm with h|h
       ·exact(kH (ny p1 (bW _ h))).2
       ·rw[aZ]at h;rw[h];exact B6.2
      have g1:=v5.ok (dq.val s a key).1 (dq.val s a key).2 ((w++[key]).getD 0 ⟨#[]⟩) sf (by omega);have i1:iA 1 ((w++[key]).length:aw) ((w++[key]).length:aw)=true:=by rw[hlw];rfl
      simp only[ax,aE (show(0:aw)<((w++[key]).length:aw)by omega),i1,au,Ug,W8,zer,Ec,eD,Lib.cm (n:=m.length+1) (b:=16) (by omega) (by omega),g1.1,g1.2];rw[show decide ((m.length:aw)<4)=decide (m.length<4)by rw[cg];omega];cases hD:decide (m.length<4)with
      |true=>rfl
      |false=>
       have hm4:m.length=4:=by have:=oK hD;omega
       have hmm:m.getD 0 ⟨#[]⟩∈m:=tw (by omega);have hms:=(kH (ny p1 (bO _ hmm))).2;have g2:=v5.ok (dq.val s a key).1 (dq.val s a key).2 (m.getD 0 ⟨#[]⟩) sf (by omega);have i2:iA 1 (m.length:aw) (m.length:aw)=true:=by simp[iA];omega
       have Im:m.tail.length=3:=by rw[BI];omega
       simp only[ax,aE (show(0:aw)<(m.length:aw)by omega),i2,au,Ec,Lib.cm (n:=m.tail.length+1) (b:=16) (by omega) (by omega),g2.1,g2.2];cases decide (mz.val (dq.val s a key).1 (dq.val s a key).2 ((w++[key]).getD 0 ⟨#[]⟩)>mz.val (dq.val s a key).1 (dq.val s a key).2 (m.getD 0 ⟨#[]⟩))<;>rfl
end Az

namespace uW
open Lib (rr rs)
open fu (without)
theorem ok(w m:az aq)(s:az (az aw))(a:aw)(key:aq)(hw:w.length<=1048576)(hm:m.length<=1048576)(hf:jj.oF s):c (rs w) (rs m) (rr s) a key=ai/\v (rs w) (rs m) (rr s) a key=(rs (without w key),rs (without m key),rr s,a):=by have h1:=jq.ok w m s a hw hm hf;have h2:=j7.ok w key hw;have h3:=j7.ok m key hm;exact out _ _ _ _ _ (by unfold vo b;rw[h1.1,h1.2,h2.1,h2.2,h3.1,h3.2];rfl)
end uW

namespace ji
open Lib (rc Cl)
open je (mn jn lid UO)
theorem ok(i0:aw)(q1 q2 q3 q4:aQ)(i5:aw)(q6:aQ)(cl:az Cl)(i8:aw)(x:Cl)(cs:cl.Pairwise λa b=>a.id<b.id)(hn:mn cl x.id=ak)(hl:cl.length<=1048576):
  c i0 q1 q2 q3 q4 i5 q6 (rc cl) i8 x.id x.k x.fe x.fr x.sta x.got x.age=ai/\v i0 q1 q2 q3 q4 i5 q6 (rc cl) i8 x.id x.k x.fe x.fr x.sta x.got x.age=(i0,q1,q2,q3,q4,i5,q6,rc (jn cl x),i8):=by
 refine out _ _ _ _ _ _ _ _ _ _ _ _ _ _ _ _ ?_;unfold vo b;have hrl:=fc cl
 have:=tW (lid x.id) (rc cl) (λm (i:aC)=>l2 Lib.cy (λEC GN Fu wK Lh Li Xh XW RP RQ Jj RR RS RT RU Rq Xi=>bif(decide (0<=EC)&&decide (EC<=(↑(bK Xi):aw))&&cC (bK Xi+bK (aL (aN [Ck.i ao,Ck.s,Ck.i ao,Ck.i ao,Ck.i ao,Ck.s,Ck.i ao] 1) 0 [CV.i ao Lh,CV.s Li,CV.i ao Xh,CV.i ao XW,CV.i ao RP,CV.s RQ,CV.i ao Jj])) 72)then(ah (GN,RR,RS,RT,RU,Fu,Rq,(Pu.tD Xi (bc EC) (aL (aN [Ck.i ao,Ck.s,Ck.i ao,Ck.i ao,Ck.i ao,Ck.s,Ck.i ao] 1) 0 [CV.i ao Lh,CV.s Li,CV.i ao Xh,CV.i ao XW,CV.i ao RP,CV.s RQ,CV.i ao Jj])),wK))else(aj)) m (i:aw) i0 i5 i8 x.id x.k x.fe x.fr x.sta x.got x.age q1 q2 q3 q4 q6 (rc cl))
  (λa=>bif decide ((a:aw)<=((rc cl).length:aw))then ah (i0,q1,q2,q3,q4,i5,q6,Pu.tD (rc cl) a [Cl.row x],i8)else aj)
  (λm i h hp=>by
   have mB:decide (bF (ar (rc cl) i 0)<x.id)=true:=by rw[Lib.cG h];exact hp
   simp only[l2,r2,Lib.de,h,aM,Lib.cz,aJ,au,Lib.dU,mB,Lib.c5 h (by omega:(rc cl).length<=9223372036854775807)])
  (λm i h hp=>by
   have mB:decide (bF (ar (rc cl) i 0)<x.id)=false:=by rw[Lib.cG h];exact hp
   simp only[l2,r2,Lib.de,h,aM,Lib.cz,aJ,bm,j4,au,ax,Lib.dU,mB,Lib.iU,bC,Lib.cm (n:=(rc cl).length+1) (b:=72) (by omega) (by omega)];rfl)
  (λm=>by simp only[l2,r2,Lib.de,bg,a_,aM,Lib.cz,aJ,bm,j4,au,ax,Lib.dU,Lib.iU,bC,Lib.cm (n:=(rc cl).length+1) (b:=72) (by omega) (by omega)];rfl) Lib.cy (ck (by omega))
 refine this.trans ?_;have hle:=GI (lid x.id) (rc cl);rw[aE (by omega),au];unfold Pu.tD;rw[UO cs hn]
end ji

end Go.FG
