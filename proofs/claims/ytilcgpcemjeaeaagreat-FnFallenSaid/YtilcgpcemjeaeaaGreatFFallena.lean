/- What the functions come to, in plain numbers, texts and lists; last the law itself. No condition but those that each states. -/
import Derived.Test.YtilcgpcemjeaeaaGreatPFallenb
set_option linter.unusedVariables false
set_option linter.unusedSimpArgs false
set_option maxRecDepth 100000
open Array renaming toList_extract->iy,toList_append->vC,length_toList->dS
open BitVec renaming toNat->dW,xor->mh,ofInt->cf,and->jt
open Bool renaming false->ak,true->ai,or_eq_true->dM,and_eq_true->aL,or_eq_false_iff->iJ,and_self->aM,not_eq_true'->dt,true_and->bc,not_false->bR,not_true->a_,and_assoc->nO,and_true->js,not_eq_false'->nc,false_or->ou,true_or->Ax,false_eq_true->dy,cond_eq_ite->cM,false_and->lE
open ByteArray renaming toList->aC,data_extract->gj,data_append->mA,size_extract->yD,size_append->dK,empty_append->lO,append_assoc->Dm,empty->HM,append_empty->qz,size->cq
open Classical renaming byContradiction->Ay
open Go.ByteArray renaming toList_eq->kD
open Go.IntKind renaming i64->ao,wrap->bE,u32->eI,u8->bh
open Go.Op renaming bytesLess->b7
open Int renaming neg->Kn,toNat->aW,tmod->cz,tdiv->cR,tmod_eq_emod_of_nonneg->iq,tdiv_eq_ediv_of_nonneg->ic,pow_succ->uU,toNat_natCast->dH,natCast_zero->Wf,lt_irrefl->Km,tmod_nonneg->W3,le_trans->BQ,emod_nonneg->W1,emod_lt_of_pos->Qn
open List renaming length_singleton->bA,length->bT,set->aD,length_map->bU,length_filter_le->eC,nil_append->gD,length_append->bP,map_congr_left->Qp,mem_filter->c_,append_assoc->cB,pairwise_append->n7,filter_sublist->jQ,singleton_append->uV,pairwise_cons->qD,mem_append->ba,mem_singleton->aZ,filter_cons_of_pos->dD,filter_cons_of_neg->cD,length_cons->dc,beq->bZ,take_succ_eq_append_getElem->cw,filter_append->gz,all_eq_true->bu,getElem_mem->bC,mem_or_eq_of_mem_set->jK,take_set_of_le->wH,drop_set_of_lt->wG,drop_eq_nil_of_le->gU,append_nil->dp,take_length->dE,filter_eq_self->eK,getElem_of_mem->c7,take->g9,drop->nk,drop_zero->fa,take_append_of_le_length->o8,take_of_length_le->je,getElem_take->ny,pairwise_map->jy,mem_map->cX,filter_map->o7,map_map->mn,map_append->dj,filter_congr->kT,range->b9,getD->jR,pairwise_iff_getElem->dC,length_set->cE,length_drop->iE,drop_eq_getElem_cons->dF,cons_append->BT,extract_eq_take_drop->ie,drop_drop->vL,length_take->eD,drop_append_of_le_length->A7,drop_of_length_le->H7,filter_filter->pJ,takeWhile_map->OM,dropWhile_map->OK,find?_eq_none->W4,find?_eq_some_iff_getElem->AD,find?_some->vl,takeWhile_cons_of_pos->qi,takeWhile_cons_of_neg->qh,foldl_append->kU,foldl_cons->DD,length_nil->jS,drop_length->dm,foldl_nil->W5,mem_of_find?_eq_some->qC,length_pos_iff->MG,getD_eq_getElem?_getD->cT,getElem?_eq_getElem->eW,ext_getElem->lQ,getElem_set_self->kI,set_getElem_self->fB,set_set->pK,nodup_iff_pairwise_ne->lJ,mem_cons_self->dr,mem_append_left->bM,length_tail->W6,mem_append_right->bN,any_eq_true->FR,findIdx?_eq_none_iff->Es,findIdx?_eq_some_iff_getElem->mS,pairwise_singleton->HO,find?_cons_of_neg->Ko,mem_range->gV,nodup_append->eQ,nodup_cons->la,mem_cons->cC,getElem_set->RZ,reverse_reverse->vO,reverse_cons->yS,not_mem_nil->gG,getElem?_append_left->dI,getElem?_append_right->db
open List.Pairwise renaming filter->oD,nil->gd
open List.cons renaming inj->kC
open Nat renaming lt_irrefl->bm,le_refl->cG,zero_le->bI,sub_zero->si,zero_add->bV,le_trans->di,le_succ->jv,le_succ_of_le->np,add_sub_cancel->Qq,lt_or_ge->qX
open Option renaming some->ah,none->aj,map_some->jf
open Option.some renaming inj->aJ
open Prod.mk renaming inj->bW
open UInt8 renaming lt_iff_toNat_lt->sU,ofNat->ay,toNat_ofNat'->M0
open _root_ renaming List->aA,UInt8->HS,decide_eq_true_eq->bf,absurd->cK,decide_eq_false_iff_not->fw,ByteArray->aq,Int->aw,Bool->aX,Nat->aF,decide_true->aN,cond_true->au,cond_false->ax,decide_false->bj,Option->az,decide_eq_false->aK,decide_eq_true->aE,if_pos->bz,if_neg->bH,congrArg->lN,decide_eq_decide->ch,of_decide_eq_true->cu,eq_comm->IK,of_decide_eq_false->lX
namespace Go.FG
open Lib (GH all_congr iC pf B2 jV v8 eZ w7 eN fW kq mW Cn Nl xD mb uF cJ lY rc0 rc1 rc2 rc3 rc4 rc5 rc6 fg JI WA WB eB re0 re1 re2 re3 de dN QG J9 gX WC e6 pO kS C8 tY oY yv Fv oq Dg yw qT qU ua nN dg Kb wd0 wd1 wd2 oA qw qx qy Dj Dw Qi zW QI QJ)
variable {R:Type}
namespace lM
theorem oV:∀x:aA HS,b7 x x=ak
 |[]=>rfl
 |a::x=>by
  have h:¬a<a:=by rw[sU];omega
  simp[b7,oV x,h]
theorem ph:∀x y z:aA HS,b7 x y=ai->b7 y z=ai->b7 x z=ai
 |_,[],_,h,_=>by cases ‹aA HS›<;>simp[b7]at h
 |_,_::_,[],_,h=>by simp[b7]at h
 |[],_::_,_::_,_,_=>by simp[b7]
 |a::x,b::y,c::z,h1,h2=>by
  simp only[b7,dM,aL,bf,beq_iff_eq]at h1 h2⊢;simp only[sU]at h1 h2⊢;rcases h1 with h1|⟨rfl,h1⟩
  ·rcases h2 with h2|⟨rfl,h2⟩
   ·left;omega
   ·left;exact h1
  ·rcases h2 with h2|⟨rfl,h2⟩
   ·left;exact h2
   ·right;exact⟨rfl,ph x y z h1 h2⟩
theorem Si:∀x y:aA HS,b7 x y=ak->x≠y->b7 y x=ai
 |[],[],_,h=>cK rfl h
 |[],_::_,h,_=>by simp[b7]at h
 |_::_,[],_,_=>by simp[b7]
 |a::x,b::y,h,hn=>by
  simp only[b7,iJ,Bool.and_eq_false_iff,fw,beq_eq_false_iff_ne]at h;simp only[b7,dM,aL,bf,beq_iff_eq];obtain⟨h1,h2⟩:=h;by_cases he:a=b
  ·subst he;right;refine⟨rfl,Si x y ?_ (λe=>hn (by rw[e]))⟩
   rcases h2 with h2|h2
   ·exact cK rfl h2
   ·exact h2
  ·left;rw[sU]at h1⊢;have:a.toNat≠b.toNat:=λe=>he (UInt8.toNat_inj.1 e);omega
def key(y:aA CV):aA HS:=aC (bw (y.getD 0 (.b ak)))
def lt(y z:aA CV):Prop:=b7 (key y) (key z)=ai
def cr(y:aA CV):aA CV:=[CV.s (bw (y.getD 0 (.b ak))),CV.i ao (bF (y.getD 1 (.b ak))),CV.i ao (bF (y.getD 2 (.b ak))),CV.s (bw (y.getD 3 (.b ak)))]
def nw(k:aq)(s l:aw)(b:aq):aA CV:=[CV.s k,CV.i ao s,CV.i ao l,CV.s b]
def pl(k:aq)(y:aA CV):aX:=b7 (key y) (aC k)
def pg(k:aq)(y:aA CV):aX:= !(b7 (key y) (aC k)||List.beq (key y) (aC k))
def val(r:aQ)(k:aq)(s l:aw)(b:aq):aQ:=(r.filter (pl k)).map cr++[nw k s l b]++(r.filter (pg k)).map cr
theorem ok(r:aQ)(k:aq)(s l:aw)(b0:aq)(hl:r.length<=1048576):c r k s l b0=ai/\v r k s l b0=val r k s l b0:=by
 refine out r k s l b0 ?_;unfold vo;have hw:∀i,i<r.length->bJ ((i:aw)+1)=((i+1:aF):aw):=λi h=>Lib.c5 h (by omega)
 have auO:=λ(aiz:aQ) (ha:aiz.length<=2000000)=>xD (pg k) cr r 2000000
  (λm (i:aF) (acc:aQ)=>l9 Lib.cW (λ(_:aQ) (_:aw) (_:aq) (_ _:aw) (_:aq) (H0:aQ)=>ah H0) m r (i:aw) k s l b0 acc) (λacc=>ah acc)
  (λm i acc h h2 hp=>by
   have mJ:(!(b7 (aC (bw (ar r i 0))) (aC k)||List.beq (aC (bw (ar r i 0))) (aC k)))=true:=by rw[Lib.cL h];exact hp
   simp only[l9,r9,Lib.dn,h,aN,Lib.cF,aM,au,Lib.dY,mJ,hw i h,Lib.iM,bA,Lib.cj (n:=acc.length+1) (b:=48) (by omega) (by omega)];have e:[CV.s (bw (ar r i 0)),CV.i ao (bF (ar r i 1)),CV.i ao (bF (ar r i (1+1))),CV.s (bw (ar r i (1+1+1)))]=cr r[i]:=by rw[Lib.cL h,Lib.cL h,Lib.cL h,Lib.cL h];rfl
   rw[e])
  (λm i acc h h2 hp=>by
   have mJ:(!(b7 (aC (bw (ar r i 0))) (aC k)||List.beq (aC (bw (ar r i 0))) (aC k)))=false:=by rw[Lib.cL h];exact hp
   simp only[l9,r9,Lib.dn,h,aN,Lib.cF,aM,au,Lib.dY,mJ,ax,hw i h])
  (λm acc=>by simp only[l9,r9,Lib.dn,bm,bj,ax]) Lib.cW aiz ha (cJ (by omega))
 have gO:=xD (pl k) cr r 0
  (λm (i:aF) (acc:aQ)=>l3 Lib.cW (λ(y7:aQ) (_:aw) (y9:aq) (Kc wx:aw) (Md:aq) (HJ:aQ)=>bif(cy (bT HJ+bT (aD (aP [Ck.s,Ck.i ao,Ck.i ao,Ck.s] 1) 0 [CV.s y9,CV.i ao Kc,CV.i ao wx,CV.s Md])) 48)then(l9 Lib.cW (λ(_:aQ) (_:aw) (_:aq) (_ _:aw) (_:aq) (H0:aQ)=>ah H0) Lib.cW y7 0 y9 Kc wx Md (HJ++aD (aP [Ck.s,Ck.i ao,Ck.i ao,Ck.s] 1) 0 [CV.s y9,CV.i ao Kc,CV.i ao wx,CV.s Md]))else(aj)) m r (i:aw) k s l b0 acc)
  (λacc=>bif(cy (bT acc+1) 48)then(l9 Lib.cW (λ(_:aQ) (_:aw) (_:aq) (_ _:aw) (_:aq) (H0:aQ)=>ah H0) Lib.cW r 0 k s l b0 (acc++[nw k s l b0]))else aj)
  (λm i acc h h2 hp=>by
   have mJ:b7 (aC (bw (ar r i 0))) (aC k)=true:=by rw[Lib.cL h];exact hp
   simp only[l3,r3,Lib.dn,h,aN,Lib.cF,aM,au,Lib.dY,mJ,hw i h,Lib.iM,bA,Lib.cj (n:=acc.length+1) (b:=48) (by omega) (by omega)];have e:[CV.s (bw (ar r i 0)),CV.i ao (bF (ar r i 1)),CV.i ao (bF (ar r i (1+1))),CV.s (bw (ar r i (1+1+1)))]=cr r[i]:=by rw[Lib.cL h,Lib.cL h,Lib.cL h,Lib.cL h];rfl
   rw[e])
  (λm i acc h h2 hp=>by
   have mJ:b7 (aC (bw (ar r i 0))) (aC k)=false:=by rw[Lib.cL h];exact hp
   simp only[l3,r3,Lib.dn,h,aN,Lib.cF,aM,au,Lib.dY,mJ,ax,hw i h])
  (λm acc=>by simp only[l3,r3,Lib.dn,bm,bj,ax];rfl) Lib.cW [] (cG _) (cJ (by omega))
 unfold b;refine gO.trans ?_;have hf:((r.filter (pl k)).map cr).length<=r.length:=by rw[bU];exact eC _ _
 rw[gD,Lib.cj (by omega) (by omega),au];exact auO _ (by rw[bP,bA];omega)
def Or(r:aQ):Prop:=r.Pairwise lt/\∀y∈r,cr y=y
theorem Hh{r:aQ}(h:∀y∈r,cr y=y)(q:aA CV->aX):(r.filter q).map cr=r.filter q:=by have:=Qp (l:=r.filter q) (f:=cr) (g:=λz=>z) (λy hy=>h y (c_.1 hy).1);rw[this];exact List.map_id _
theorem xL{r:aQ}(h:Or r)(k:aq)(s l:aw)(b:aq):Or (val r k s l b)/\(val r k s l b).length<=r.length+1:=by
 unfold val;rw[Hh h.2,Hh h.2];have hg:∀y,pg k y=ai->b7 (aC k) (key y)=true:=by intro y hy;unfold pg at hy;simp only[dt,iJ]at hy;refine Si _ _ hy.1 (λe=> ?_);have:=hy.2;rw[e,Lib.qJ]at this;cases this
 refine⟨⟨?_, ?_⟩, ?_⟩
 ·rw[cB,n7];refine⟨h.1.sublist jQ, ?_, ?_⟩
  ·rw[uV,qD];exact⟨λy hy=>hg y (c_.1 hy).2,h.1.sublist jQ⟩
  ·intro y hy z hz;have h1:b7 (key y) (aC k)=true:=(c_.1 hy).2;rcases ba.1 hz with q|q
   ·rw[aZ.1 q];exact h1
   ·exact ph _ _ _ h1 (hg z (c_.1 q).2)
 ·intro y hy;rcases ba.1 hy with q|q
  ·rcases ba.1 q with q|q
   ·exact h.2 y (c_.1 q).1
   ·rw[aZ.1 q];rfl
  ·exact h.2 y (c_.1 q).1
 ·have hlen:∀r:aQ,(r.filter (pl k)).length+(r.filter (pg k)).length<=r.length:=by
   intro r;induction r with
   |nil=>exact cG _
   |cons y r ih=>
    have hx:pl k y=ai->pg k y=false:=by intro h;unfold pl at h;unfold pg;rw[h];rfl
    cases h1:pl k y with
    |true=>rw[dD h1,cD (by rw[hx h1];simp)];simp only[dc];omega
    |false=>
     rw[cD (by simp[h1])];cases h2:pg k y with
     |true=>rw[dD h2];simp only[dc];omega
     |false=>rw[cD (by simp[h2])];simp only[dc];omega
  have:=hlen r;simp only[bP,bA];omega
end lM

namespace nq
def p(s:aQ)(k:aq)(i:aF):aX:=bZ (aC (bw (ar s i 0))) (aC k)
theorem ok(d:aQ)(n:aq)(hl:d.length<=4294967296):c d n=ai/\v d n=Lib.fi (p d n) d.length 0:=by
 refine out d n ?_;unfold vo b;refine mW (p d n) d.length (λm (i:aF)=>l2 Lib.cW (λ(_:aQ) (_:aq) (y7 _ _:aw)=>ah y7) (λ(_:aQ) (_:aq) (_ _ _:aw)=>ah (-1)) m d n 0 (d.length:aw) (i:aw)) ah (λm i hi hp=> ?_) (λm i hi hp=> ?_) (λm=> ?_) Lib.cW (cJ (by omega))
 ·unfold p at hp;simp only[l2,r2,Lib.dn,Lib.cF,Lib.dY,hi,aN,aM,au,AQ.v,hp]
 ·unfold p at hp;simp only[l2,r2,Lib.dn,Lib.cF,Lib.dY,hi,aN,aM,au,AQ.v,hp,ax,Lib.c5 hi (by omega:d.length<=9223372036854775807)]
 ·simp only[l2,r2,Lib.dn,bm,bj,ax]
end nq

namespace pc
def cn(y:aA CV):aX:=match y with|[.s _, .i .i64 _, .i .i64 _, .s _]=>ai|_=>ak
def cr(y:aA CV):aA CV:=[CV.s (bw (y.getD 0 (.b ak))),CV.i ao (bF (y.getD 1 (.b ak))),CV.i ao (bF (y.getD 2 (.b ak))),CV.s (bw (y.getD 3 (.b ak)))]
theorem tw{y:aA CV}(h:cn y=ai):cr y=y:=by
 unfold cn at h;split at h
 ·rfl
 ·cases h
theorem mr{y:aA CV}(h:cn y=ai):y.length=4:=by rw[<-tw h];rfl
def keep(d:aq)(y:aA CV):aX:= !List.beq (aC (bw (y.getD 0 (.b ak)))) (aC d)
theorem ir(d:aq){s:aQ}{i:aF}(h:i<s.length):(s.take (i+1)).filter (keep d)=(s.take i).filter (keep d)++(bif keep d s[i]then [s[i]]else []):=by rw[cw h,gz];cases hk:keep d s[i]<;>simp[hk]
theorem run(N:aF)(s0:aQ)(d:aq)(hc:s0.all cn=ai)(hn:s0.length<=9223372036854775807)(K:aq->aw->aw->aQ->az R)(kr:aQ->az R)
  (hK:∀(j:aF) x,x.length=s0.length->j<=s0.length->K d j s0.length x=kr (x.take j)) (m j i:aF) (x:aQ)
  (hi:j<i/\i<=s0.length/\x.length=s0.length/\(∀y∈x,y.length=4)/\x.take j=(s0.take i).filter (keep d)/\x.drop i=s0.drop i) (hm:s0.length-i<m):
  l5 N K m d j i x=kr (s0.filter (keep d)):=by
 have K4:∀y∈s0,cn y=true:=bu.1 hc
 refine Lib.g8 (λm (s:aF×aF×aQ)=>l5 N K m d s.1 s.2.1 s.2.2) (λs=>s0.length-s.2.1)
  (λs=>s.1<s.2.1/\s.2.1<=s0.length/\s.2.2.length=s0.length/\(∀y∈s.2.2,y.length=4)/\s.2.2.take s.1=(s0.take s.2.1).filter (keep d)/\s.2.2.drop s.2.1=s0.drop s.2.1)
  (λ_=>kr (s0.filter (keep d))) (λm s hs=> ?_) m (j,i,x) hi hm
 obtain⟨j,i,x⟩:=s;obtain⟨h1,h2,h3,h4,h5,h6⟩:=hs;simp only at h1 h2 h3 h4 h5 h6⊢;by_cases gh:i<s0.length
 ·right;have oz:i<x.length:=by omega
  have G5:j<x.length:=by omega
  have hx:x[i]=s0[i]:=by have e1:=Lib.eL oz;have e2:=Lib.eL gh;rw[h6,e2]at e1;exact(kC e1).1.symm
  have hd:x.drop (i+1)=s0.drop (i+1):=by have e1:=Lib.eL oz;have e2:=Lib.eL gh;rw[h6,e2]at e1;exact(kC e1).2.symm
  have K6:=K4 _ (bC gh);have hf:=ir d gh;cases hk:keep d s0[i]with
  |true=>
   refine⟨(j+1,i+1,x.set j s0[i]), ?_,by simp only;omega,trivial, ?_⟩
   ·rw[hk,au,<-h5]at hf;refine⟨by simp only;omega,by simp only;omega,by simpa using h3, ?_, ?_, ?_⟩
    ·intro y hy;rcases jK hy with h|h
     ·exact h4 y h
     ·rw[h];exact mr K6
    ·rw[hf];rw[cw (by simpa using G5)];simp[wH]
    ·simp only;rw[wG (by omega)];exact hd
   ·have e:AQ.v (bw (ar x i 0)) (bF (ar x i 1)) (bF (ar x i (1+1))) (bw (ar x i (1+1+1))) d=false:=by
     have:(!AQ.v (bw (ar x i 0)) (bF (ar x i 1)) (bF (ar x i (1+1))) (bw (ar x i (1+1+1))) d)=true:=by rw[Lib.cL oz,hx];exact hk
     simpa using this
    have es:eJ x j 0 [CV.s (bw (ar x i 0)),CV.i ao (bF (ar x i 1)),CV.i ao (bF (ar x i (1+1))),CV.s (bw (ar x i (1+1+1)))]=x.set j s0[i]:=by
     have hl:=h4 _ (bC G5);rw[Lib.BB G5,Lib.cL oz,Lib.cL oz,Lib.cL oz,Lib.cL oz,hx];have:iH x[j] 0 (cr s0[i])=s0[i]:=by rw[tw K6];unfold iH;have:=mr K6;simp[hl,this,gU]
     unfold cr at this;rw[this]
    have b1:(j:aw)<(x.length:aw):=by omega
    simp only[l5,r5,Lib.dn,Lib.cF,Lib.dY,oz,G5,aN,bc,au,e,bR,es,Lib.c5 gh hn,Lib.c5 (show j<s0.length by omega) hn]
  |false=>
   refine⟨(j,i+1,x), ?_,by simp only;omega,trivial, ?_⟩
   ·rw[hk,ax,dp,<-h5]at hf;exact⟨by simp only;omega,by simp only;omega,h3,h4,hf.symm,hd⟩
   ·have e:AQ.v (bw (ar x i 0)) (bF (ar x i 1)) (bF (ar x i (1+1))) (bw (ar x i (1+1+1))) d=true:=by
     have:(!AQ.v (bw (ar x i 0)) (bF (ar x i 1)) (bF (ar x i (1+1))) (bw (ar x i (1+1+1))) d)=false:=by rw[Lib.cL oz,hx];exact hk
     simpa using this
    simp only[l5,r5,Lib.dn,Lib.cF,Lib.dY,oz,aN,bc,au,e,a_,ax,Lib.c5 gh hn]
 ·left;have:i=s0.length:=by omega
  subst this;rw[dE]at h5;have e:=hK j x h3 (by omega);rw[h5]at e;have oz:¬s0.length<x.length:=by omega
  simp only[l5,r5,Lib.dn,oz,bj,ax,e]
theorem ok(s0:aQ)(iZ:aq)(hc:s0.all cn=ai)(hn:s0.length<=4294967296):c s0 iZ=ai/\v s0 iZ=s0.filter (keep iZ):=by
 refine out s0 iZ ?_;have hv:=nq.ok s0 iZ hn;unfold vo b;rw[hv.1,hv.2,au];rcases Lib.pr (nq.p s0 iZ) s0.length 0 with ⟨h,nW⟩|⟨k,_,Aj,hk,K9,K3⟩
 ·rw[h];have:s0.filter (keep iZ)=s0:=by rw[eK];intro y hy;obtain⟨i,hi,rfl⟩:=c7 hy;have:=nW i (bI _) (by omega);unfold nq.p at this;rw[Lib.cL hi]at this;unfold keep;rw[this];rfl
  rw[this];rfl
 ·rw[hk];have D0:k<s0.length:=by omega
  have iA:decide ((k:aw)=Kn 1)=false:=aK (by show¬(k:aw)= -1;omega);rw[iA,ax,Lib.c5 D0 (by omega)];have K4:∀y∈s0,cn y=true:=bu.1 hc;refine run _ s0 iZ hc (by omega) _ ah (λj x hx hj=> ?_) _ k (k+1) s0 ⟨by omega,by omega,rfl,λy hy=>mr (K4 y hy), ?_,rfl⟩ (cJ (by omega))
  ·have b1:g7 (j:aw) (s0.length:aw) (s0.length:aw)=true:=by simp[g7];omega
   have e:g9 j x++aP [Ck.s,Ck.i ao,Ck.i ao,Ck.s] (s0.length-j)++nk s0.length x=g9 j x++aP [Ck.s,Ck.i ao,Ck.i ao,Ck.s] (s0.length-j):=by rw[gU (by omega),dp]
   have hl:(g9 j x).length=j:=by simp;omega
   simp only[hx,Lib.dY,b1,au,e];rw[Lib.tp (by simp[g7];omega)];unfold eA;rw[show aW 0=0 from rfl,fa,si,o8 (by omega),je (by omega)]
  ·rw[ir iZ D0];have e1:keep iZ s0[k]=false:=by unfold nq.p at K9;rw[Lib.cL D0]at K9;unfold keep;rw[K9];rfl
   have e2:(s0.take k).filter (keep iZ)=s0.take k:=by
    rw[eK];intro y hy;obtain⟨i,hi,rfl⟩:=c7 hy;have Wu:i<k:=by simp at hi;omega
    have:=K3 i (bI _) Wu;unfold nq.p at this;rw[Lib.cL (by omega)]at this;rw[ny];unfold keep;rw[this];rfl
   rw[e1,e2,ax,dp]
end pc

namespace fZ
open Lib (re En)
def fA(x y:aq):aX:=b7 (aC x) (aC y)
def So(en:aA En):Prop:=en.Pairwise λx y=>fA x.k y.k=ai
def fT(en:aA En)(k:aq):aA En:=en.filter λx=> !decide (x.k=k)
def my(en:aA En)(e:En):aA En:=en.filter (λx=>fA x.k e.k)++[e]++en.filter (λx=> !(fA x.k e.k||decide (x.k=e.k)))
theorem So.drop{en:aA En}(h:So en)(k:aq):So (fT en k):=oD _ h
theorem wZ(en:aA En)(k:aq):(fT en k).length<=en.length:=eC ..
theorem drop_nil{en:aA En}(h:∀e∈en,1<=e.k.size):fT en ⟨#[]⟩=en:=by unfold fT;rw[eK];intro e he;have:=h e he;simp only[dt,fw];intro e2;rw[e2]at this;exact cK this (by decide)
theorem CO{en:aA En}(h:So en):lM.Or (re en):=by
 constructor
 ·unfold Lib.re;rw[jy];exact h
 ·intro y hy;unfold Lib.re at hy;obtain⟨z,_,rfl⟩:=cX.1 hy;rfl
theorem tT(en:aA En)(e:En):lM.val (re en) e.k e.st e.li e.bo=re (my en e):=by
 unfold lM.val my Lib.re;rw[o7,o7,mn,mn,dj,dj];have e1:(lM.pl e.k∘En.row)=λx:En=>fA x.k e.k:=rfl;have e2:(lM.pg e.k∘En.row)=λx:En=> !(fA x.k e.k||decide (x.k=e.k)):=by funext x;show(!(b7 (aC x.k) (aC e.k)||List.beq (aC x.k) (aC e.k)))=_;rw[Lib.fu];rfl
 rw[e1,e2];rfl
theorem GR(en:aA En)(k:aq):(re en).filter (pc.keep k)=re (fT en k):=by unfold Lib.re fT;rw[o7];congr 1;apply kT;intro x _;show(!List.beq (aC x.k) (aC k))=_;rw[Lib.fu]
theorem Ss(en:aA En):(re en).all pc.cn=true:=by rw[bu];intro y hy;unfold Lib.re at hy;obtain⟨z,_,rfl⟩:=cX.1 hy;rfl
theorem rY(en:aA En)(e:En)(h:So en):(my en e).length<=en.length+1:=by have:=(lM.xL (CO h) e.k e.st e.li e.bo).2;rw[tT,de,de]at this;exact this
end fZ

namespace gE
def el(r:aQ)(i:aF):aX:=decide (1<=((bw (ar r i 0)).size:aw)/\((bw (ar r i 0)).size:aw)<=8)&&(!decide (((bw (ar r i 1)).size:aw)>20000)&&(decide (0<=bF (ar r i 2)/\bF (ar r i 2)<=((bw (ar r i 1)).size:aw))&&(i==0||Go.Op.bytesLess (aC (bw (ar r (i-1) 0))) (aC (bw (ar r i 0))))))
def val(r:aQ):aX:=decide (r.length<=30)&&(b9 r.length).all (el r)
theorem mZ(n a b:aw):kl.v n a b=decide (a<=n/\n<=b):=by unfold kl.v;by_cases h:a<=n<;>by_cases h2:n<=b<;>simp[h,h2]
theorem Di{i:aF}(h:0<i)(hn:i<=9223372036854775807):bJ ((i:aw)-1)=((i-1:aF):aw):=by rw[dg (by omega) (by omega)];omega
theorem ok(r:aQ)(hl:r.length<=4294967296):c r=ai/\v r=val r:=by
 refine out r ?_;unfold vo b val;by_cases h30:(r.length:aw)>30
 ·rw[aE h30,au,aK (show¬r.length<=30 by omega)];rfl
 rw[aK h30,ax,aE (show r.length<=30 by omega),bc]
 have key:=iC (el r) r.length (λm (i:aF)=>l4 Lib.cW (λ(y3:aX) (_:aw) (_:aQ)=>ah y3) (λ(_:aX) (_:aw) (_:aQ)=>ah ai) m ak (i:aw) r) (ah ak) (ah ai)
  (λm i hi hp=>by
   unfold el at hp;simp only[aL]at hp;obtain⟨h1,h2,h3,h4⟩:=hp;have h3:decide (0<=bF (ar r i (1+1))/\bF (ar r i (1+1))<=((bw (ar r i 1)).size:aw))=true:=h3;have h2:decide (((bw (ar r i 1)).size:aw)>20000)=false:=by simpa using h2
   by_cases hz:0<i
   ·have e0:decide ((i:aw)>0)=true:=aE (by omega);have mJ:i-1<r.length:=by omega
    have h5:b7 (aC (bw (ar r (i-1) 0))) (aC (bw (ar r i 0)))=true:=by
     rcases dM _ _▸h4 with q|q
     ·have:i=0:=by simpa using q
      omega
     ·exact q
    simp only[l4,r4,Lib.dn,hi,mJ,aN,Lib.cF,aM,au,ax,Lib.dY,qj.v,mZ,h1,h2,h3,h5,e0,Di hz (by omega),a_,Lib.c5 hi (by omega:r.length<=9223372036854775807)]
   ·have e0:decide ((i:aw)>0)=false:=aK (by omega);simp only[l4,r4,Lib.dn,hi,aN,Lib.cF,aM,au,ax,Lib.dY,qj.v,mZ,h1,h2,h3,e0,a_,Lib.c5 hi (by omega:r.length<=9223372036854775807)])
  (λm i hi hp=>by
   unfold el at hp;cases h1:decide (1<=((bw (ar r i 0)).size:aw)/\((bw (ar r i 0)).size:aw)<=8)with
   |false=>simp only[l4,r4,Lib.dn,hi,aN,Lib.cF,aM,au,ax,Lib.dY,qj.v,mZ,h1,bR]
   |true=>
   cases h2:decide (((bw (ar r i 1)).size:aw)>20000)with
   |true=>simp only[l4,r4,Lib.dn,hi,aN,Lib.cF,aM,au,ax,Lib.dY,qj.v,mZ,h1,h2,a_]
   |false=>
   cases h3:decide (0<=bF (ar r i (1+1))/\bF (ar r i (1+1))<=((bw (ar r i 1)).size:aw))with
   |false=>simp only[l4,r4,Lib.dn,hi,aN,Lib.cF,aM,au,ax,Lib.dY,qj.v,mZ,h1,h2,h3,a_,bR]
   |true=>
   rw[h1,h2,show decide (0<=bF (ar r i 2)/\bF (ar r i 2)<=((bw (ar r i 1)).size:aw))=ai from h3,bR,bc,bc,bc]at hp;rw[iJ]at hp;obtain⟨h4,h5⟩:=hp;have hz:0<i:=by
    have:¬i=0:=by simpa using h4
    omega
   have e0:decide ((i:aw)>0)=true:=aE (by omega);have mJ:i-1<r.length:=by omega
   simp only[l4,r4,Lib.dn,hi,mJ,aN,Lib.cF,aM,au,ax,Lib.dY,qj.v,mZ,h1,h2,h3,h5,e0,Di hz (by omega),a_,bR])
  (λm=>by simp only[l4,r4,Lib.dn,bm,bj,ax]) Lib.cW (cJ (by omega))
 refine key.trans ?_;cases (b9 r.length).all (el r)<;>rfl
end gE

namespace nt
def p(s:aQ)(k:aq)(i:aF):aX:=bZ (aC (bw (ar s i 0))) (aC k)
theorem ok(d:aQ)(n:aq)(hl:d.length<=4294967296):c d n=ai/\v d n=Lib.fi (p d n) d.length 0:=by
 refine out d n ?_;unfold vo b;refine mW (p d n) d.length (λm (i:aF)=>l2 Lib.cW (λ(_:aQ) (_:aq) (y7 _ _:aw)=>ah y7) (λ(_:aQ) (_:aq) (_ _ _:aw)=>ah (-1)) m d n 0 (d.length:aw) (i:aw)) ah (λm i hi hp=> ?_) (λm i hi hp=> ?_) (λm=> ?_) Lib.cW (cJ (by omega))
 ·unfold p at hp;simp only[l2,r2,Lib.dn,Lib.cF,Lib.dY,hi,aN,aM,au,AW.v,hp]
 ·unfold p at hp;simp only[l2,r2,Lib.dn,Lib.cF,Lib.dY,hi,aN,aM,au,AW.v,hp,ax,Lib.c5 hi (by omega:d.length<=9223372036854775807)]
 ·simp only[l2,r2,Lib.dn,bm,bj,ax]
end nt

namespace wU
def cn(y:aA CV):aX:=match y with|[.s _, .s _, .i .i64 _]=>ai|_=>ak
def cr(y:aA CV):aA CV:=[CV.s (bw (y.getD 0 (.b ak))),CV.s (bw (y.getD 1 (.b ak))),CV.i ao (bF (y.getD 2 (.b ak)))]
theorem tw{y:aA CV}(h:cn y=ai):cr y=y:=by
 unfold cn at h;split at h
 ·rfl
 ·cases h
theorem mr{y:aA CV}(h:cn y=ai):y.length=3:=by rw[<-tw h];rfl
def keep(d:aq)(y:aA CV):aX:= !List.beq (aC (bw (y.getD 0 (.b ak)))) (aC d)
theorem ir(d:aq){s:aQ}{i:aF}(h:i<s.length):(s.take (i+1)).filter (keep d)=(s.take i).filter (keep d)++(bif keep d s[i]then [s[i]]else []):=by rw[cw h,gz];cases hk:keep d s[i]<;>simp[hk]
theorem run(N:aF)(s0:aQ)(d:aq)(hc:s0.all cn=ai)(hn:s0.length<=9223372036854775807)(K:aq->aw->aw->aQ->az R)(kr:aQ->az R)
  (hK:∀(j:aF) x,x.length=s0.length->j<=s0.length->K d j s0.length x=kr (x.take j)) (m j i:aF) (x:aQ)
  (hi:j<i/\i<=s0.length/\x.length=s0.length/\(∀y∈x,y.length=3)/\x.take j=(s0.take i).filter (keep d)/\x.drop i=s0.drop i) (hm:s0.length-i<m):
  l5 N K m d j i x=kr (s0.filter (keep d)):=by
 have K4:∀y∈s0,cn y=true:=bu.1 hc
 refine Lib.g8 (λm (s:aF×aF×aQ)=>l5 N K m d s.1 s.2.1 s.2.2) (λs=>s0.length-s.2.1)
  (λs=>s.1<s.2.1/\s.2.1<=s0.length/\s.2.2.length=s0.length/\(∀y∈s.2.2,y.length=3)/\s.2.2.take s.1=(s0.take s.2.1).filter (keep d)/\s.2.2.drop s.2.1=s0.drop s.2.1)
  (λ_=>kr (s0.filter (keep d))) (λm s hs=> ?_) m (j,i,x) hi hm
 obtain⟨j,i,x⟩:=s;obtain⟨h1,h2,h3,h4,h5,h6⟩:=hs;simp only at h1 h2 h3 h4 h5 h6⊢;by_cases gh:i<s0.length
 ·right;have oz:i<x.length:=by omega
  have G5:j<x.length:=by omega
  have hx:x[i]=s0[i]:=by have e1:=Lib.eL oz;have e2:=Lib.eL gh;rw[h6,e2]at e1;exact(kC e1).1.symm
  have hd:x.drop (i+1)=s0.drop (i+1):=by have e1:=Lib.eL oz;have e2:=Lib.eL gh;rw[h6,e2]at e1;exact(kC e1).2.symm
  have K6:=K4 _ (bC gh);have hf:=ir d gh;cases hk:keep d s0[i]with
  |true=>
   refine⟨(j+1,i+1,x.set j s0[i]), ?_,by simp only;omega,trivial, ?_⟩
   ·rw[hk,au,<-h5]at hf;refine⟨by simp only;omega,by simp only;omega,by simpa using h3, ?_, ?_, ?_⟩
    ·intro y hy;rcases jK hy with h|h
     ·exact h4 y h
     ·rw[h];exact mr K6
    ·rw[hf];rw[cw (by simpa using G5)];simp[wH]
    ·simp only;rw[wG (by omega)];exact hd
   ·have e:AW.v (bw (ar x i 0)) (bw (ar x i 1)) (bF (ar x i (1+1))) d=false:=by
     have:(!AW.v (bw (ar x i 0)) (bw (ar x i 1)) (bF (ar x i (1+1))) d)=true:=by rw[Lib.cL oz,hx];exact hk
     simpa using this
    have es:eJ x j 0 [CV.s (bw (ar x i 0)),CV.s (bw (ar x i 1)),CV.i ao (bF (ar x i (1+1)))]=x.set j s0[i]:=by
     have hl:=h4 _ (bC G5);rw[Lib.BB G5,Lib.cL oz,Lib.cL oz,Lib.cL oz,hx];have:iH x[j] 0 (cr s0[i])=s0[i]:=by rw[tw K6];unfold iH;have:=mr K6;simp[hl,this,gU]
     unfold cr at this;rw[this]
    have b1:(j:aw)<(x.length:aw):=by omega
    simp only[l5,r5,Lib.dn,Lib.cF,Lib.dY,oz,G5,aN,bc,au,e,bR,es,Lib.c5 gh hn,Lib.c5 (show j<s0.length by omega) hn]
  |false=>
   refine⟨(j,i+1,x), ?_,by simp only;omega,trivial, ?_⟩
   ·rw[hk,ax,dp,<-h5]at hf;exact⟨by simp only;omega,by simp only;omega,h3,h4,hf.symm,hd⟩
   ·have e:AW.v (bw (ar x i 0)) (bw (ar x i 1)) (bF (ar x i (1+1))) d=true:=by
     have:(!AW.v (bw (ar x i 0)) (bw (ar x i 1)) (bF (ar x i (1+1))) d)=false:=by rw[Lib.cL oz,hx];exact hk
     simpa using this
    simp only[l5,r5,Lib.dn,Lib.cF,Lib.dY,oz,aN,bc,au,e,a_,ax,Lib.c5 gh hn]
 ·left;have:i=s0.length:=by omega
  subst this;rw[dE]at h5;have e:=hK j x h3 (by omega);rw[h5]at e;have oz:¬s0.length<x.length:=by omega
  simp only[l5,r5,Lib.dn,oz,bj,ax,e]
theorem ok(s0:aQ)(iZ:aq)(hc:s0.all cn=ai)(hn:s0.length<=4294967296):c s0 iZ=ai/\v s0 iZ=s0.filter (keep iZ):=by
 refine out s0 iZ ?_;have hv:=nt.ok s0 iZ hn;unfold vo b;rw[hv.1,hv.2,au];rcases Lib.pr (nt.p s0 iZ) s0.length 0 with ⟨h,nW⟩|⟨k,_,Aj,hk,K9,K3⟩
 ·rw[h];have:s0.filter (keep iZ)=s0:=by rw[eK];intro y hy;obtain⟨i,hi,rfl⟩:=c7 hy;have:=nW i (bI _) (by omega);unfold nt.p at this;rw[Lib.cL hi]at this;unfold keep;rw[this];rfl
  rw[this];rfl
 ·rw[hk];have D0:k<s0.length:=by omega
  have iA:decide ((k:aw)=Kn 1)=false:=aK (by show¬(k:aw)= -1;omega);rw[iA,ax,Lib.c5 D0 (by omega)];have K4:∀y∈s0,cn y=true:=bu.1 hc;refine run _ s0 iZ hc (by omega) _ ah (λj x hx hj=> ?_) _ k (k+1) s0 ⟨by omega,by omega,rfl,λy hy=>mr (K4 y hy), ?_,rfl⟩ (cJ (by omega))
  ·have b1:g7 (j:aw) (s0.length:aw) (s0.length:aw)=true:=by simp[g7];omega
   have e:g9 j x++aP [Ck.s,Ck.s,Ck.i ao] (s0.length-j)++nk s0.length x=g9 j x++aP [Ck.s,Ck.s,Ck.i ao] (s0.length-j):=by rw[gU (by omega),dp]
   have hl:(g9 j x).length=j:=by simp;omega
   simp only[hx,Lib.dY,b1,au,e];rw[Lib.tp (by simp[g7];omega)];unfold eA;rw[show aW 0=0 from rfl,fa,si,o8 (by omega),je (by omega)]
  ·rw[ir iZ D0];have e1:keep iZ s0[k]=false:=by unfold nt.p at K9;rw[Lib.cL D0]at K9;unfold keep;rw[K9];rfl
   have e2:(s0.take k).filter (keep iZ)=s0.take k:=by
    rw[eK];intro y hy;obtain⟨i,hi,rfl⟩:=c7 hy;have Wu:i<k:=by simp at hi;omega
    have:=K3 i (bI _) Wu;unfold nt.p at this;rw[Lib.cL (by omega)]at this;rw[ny];unfold keep;rw[this];rfl
   rw[e1,e2,ax,dp]
end wU

namespace dJ
open Lib (rd el Fi)
def Wj(l:aA Fi):Prop:=l.Pairwise λx y=>fZ.fA x.n y.n=ai
def without(l:aA Fi)(n:aq):aA Fi:=l.filter λx=> !decide (x.n=n)
def put(l:aA Fi)(f:Fi):aA Fi:=l.filter (λx=>fZ.fA x.n f.n)++[f]++l.filter (λx=> !(fZ.fA x.n f.n||decide (x.n=f.n)))
def nJ(f:Fi):aX:=decide (1<=(f.n.size:aw)/\(f.n.size:aw)<=8)&&(!decide ((f.t.size:aw)>20000)&&decide (0<=f.kp/\f.kp<=(f.t.size:aw)))
def sN(l:aA Fi):aX:=gE.val (rd l)
theorem irrefl(x:aq):fZ.fA x x=false:=lM.oV _
theorem j4{l:aA Fi}:sN l=ai↔l.length<=30/\(∀f∈l,nJ f=ai)/\Wj l:=by
 unfold sN gE.val;rw[aL,bf,bu,eB];have e:∀i (h:i<l.length),gE.el (rd l) i=(nJ l[i]&&(i==0||fZ.fA (l.getD (i-1) default).n l[i].n)):=λi h=>by
  unfold gE.el nJ fZ.fA;rw[JI h,WA h,show ar (rd l) i 2=CV.i ao l[i].kp from WB h,JI (show i-1<l.length by omega)];have h5:l.getD (i-1) default=l[i-1]:=by simp[jR,show i-1<l.length by omega]
  rw[h5];simp only[bw,bF,nO];rfl
 constructor
 ·rintro ⟨h1,h2⟩;have h3:∀i (h:i<l.length),nJ l[i]=ai/\(i=0\/fZ.fA (l.getD (i-1) default).n l[i].n=ai):=λi h=>by have:=h2 i (by simpa using h);rw[e i h,aL,dM]at this;exact⟨this.1,this.2.imp (λq=>by simpa using q) id⟩
  refine⟨h1,λf hf=> ?_, ?_⟩
  ·obtain⟨i,hi,rfl⟩:=c7 hf;exact(h3 i hi).1
  ·have adj:∀d i (hi:i+d+1<l.length),fZ.fA l[i].n l[i+d+1].n=true:=by
    intro d;induction d with
    |zero=>
     intro i hi;rcases(h3 (i+1) (by omega)).2 with q|q
     ·omega
     ·simpa [jR,show i<l.length by omega]using q
    |succ d ih=>
     intro i hi;have a:=ih i (by omega);rcases(h3 (i+d+1+1) (by omega)).2 with q|q
     ·omega
     ·have q:fZ.fA l[i+d+1].n l[i+d+1+1].n=true:=by simpa [jR,show i+d+1<l.length by omega]using q
      exact lM.ph _ _ _ a q
   unfold Wj;rw[dC];intro i j hi hj Pp;have:=adj (j-i-1) i (by omega);simpa only[show i+(j-i-1)+1=j by omega]using this
 ·rintro ⟨h1,h2,h3⟩;refine⟨h1,λi hi=> ?_⟩
  have hi:i<l.length:=by simpa using hi
  rw[e i hi,h2 _ (bC hi),bc,dM];by_cases hz:i=0
  ·left;simpa using hz
  ·right;have:=dC.1 h3 (i-1) i (by omega) hi (by omega);simpa [jR,show i-1<l.length by omega]using this
theorem aiD(l:aA Fi):(rd l).all wU.cn=true:=by rw[bu];intro y hy;unfold Lib.rd at hy;obtain⟨z,_,rfl⟩:=cX.1 hy;rfl
theorem amr(l:aA Fi)(n:aq):(rd l).filter (wU.keep n)=rd (without l n):=by unfold Lib.rd without;rw[o7];congr 1;apply kT;intro x _;show(!List.beq (aC x.n) (aC n))=_;rw[Lib.fu]
theorem Mb(l:aA Fi)(n:aq):(without l n).length<=l.length:=eC ..
theorem ad8{l:aA Fi}(h:Wj l)(n:aq):Wj (without l n):=oD _ h
theorem rY{l:aA Fi}(f:Fi):(put l f).length<=l.length+1:=by
 unfold put;have:∀r:aA Fi,(r.filter λx=>fZ.fA x.n f.n).length+(r.filter λx=> !(fZ.fA x.n f.n||decide (x.n=f.n))).length<=r.length:=by
  intro r;induction r with
  |nil=>exact cG _
  |cons y r ih=>
   cases h1:fZ.fA y.n f.n with
   |true=>rw[dD (by simpa using h1),cD (by simp[h1])];simp only[dc];omega
   |false=>
    rw[cD (by simp[h1])];by_cases h2:y.n=f.n
    ·rw[cD (by simp[h2])];simp only[dc];omega
    ·rw[dD (by simp[h1,h2])];simp only[dc];omega
 have:=this l;simp only[bP,bA];omega
theorem j5{l:aA Fi}{x f:Fi}:x∈put l f↔x=f\/(x∈l/\x.n≠f.n):=by
 unfold put;simp only[ba,c_,aZ,dt,iJ,fw];constructor
 ·rintro ((⟨h1,h2⟩|rfl)|⟨h1,h2⟩)
  ·refine .inr ⟨h1,λe2=> ?_⟩;rw[e2,irrefl]at h2;cases h2
  ·exact .inl rfl
  ·exact .inr ⟨h1,h2.2⟩
 ·rintro (rfl|⟨h1,h2⟩)
  ·exact .inl (.inr rfl)
  ·cases hl:fZ.fA x.n f.n with
   |true=>exact .inl (.inl ⟨h1,rfl⟩)
   |false=>exact .inr ⟨h1,rfl,h2⟩
def Hk(l:aA Fi)(k:aw)(n t o:aq):az (aA Fi):=
 match l.find? λx=>decide (x.n=n)with
 |some f=>
  if k=1 then ah (put l ⟨f.n,f.t++t,f.kp⟩)
  else if k=2 then ah (put l ⟨f.n,f.t,f.t.size⟩)
  else if k=3 then(if f.kp≠f.t.size\/o=n then aj else ah (put (without l n) ⟨o,f.t,f.kp⟩))
  else ah (without l n)
 |none=>if k=1 then ah (put l ⟨n,t,0⟩)else aj
def kg(k:aw)(t o:aq):aX:=decide (1<=k/\k<=4)&&((decide (t=⟨#[]⟩)||decide (k=1))&&(decide (o=⟨#[]⟩)||decide (k=3)))
def act(l:aA Fi)(k:aw)(n t o:aq):az (aA Fi):=
 bif sN l&&kg k t o then(match Hk l k n t o with|some d=>bif sN d then ah d else aj|none=>aj)else aj
structure Ac where
 k:aw
 n:aq
 t:aq
 o:aq
 deriving DecidableEq
instance:Inhabited Ac:=⟨⟨0,⟨#[]⟩,⟨#[]⟩,⟨#[]⟩⟩⟩
def Ac.row(e:Ac):aA CV:=[CV.i ao e.k,CV.s e.n,CV.s e.t,CV.s e.o]
def ra(l:aA Ac):aQ:=l.map Ac.row
theorem rZ(l):(ra l).length=l.length:=by unfold ra;simp
theorem wa0{l:aA Ac}{i:aF}(h:i<l.length):ar (ra l) i 0=CV.i ao (el l i).k:=fW _ l i 0 h
theorem wa1{l:aA Ac}{i:aF}(h:i<l.length):ar (ra l) i 1=CV.s (el l i).n:=fW _ l i 1 h
theorem wa2{l:aA Ac}{i:aF}(h:i<l.length):ar (ra l) i (1+1)=CV.s (el l i).t:=fW _ l i 2 h
theorem wa3{l:aA Ac}{i:aF}(h:i<l.length):ar (ra l) i (1+1+1)=CV.s (el l i).o:=fW _ l i 3 h
def kh:aA Fi->aF->aA Ac->aA Fi×aF
 |l,i,[]=>(l,i)
 |l,i,a::r=>match act l a.k a.n a.t a.o with|some d=>kh d (i+1) r|none=>(l,i)
theorem Bg{l d:aA Fi}{k:aw}{n t o:aq}(h:act l k n t o=ah d):sN d=ai/\d.length<=30:=by
 unfold act at h;cases hb:sN l&&kg k t o with
 |false=>rw[hb]at h;cases h
 |true=>
  rw[hb,au]at h;split at h
  ·rename_i e _;cases ho:sN e with
   |false=>rw[ho]at h;cases h
   |true=>rw[ho]at h;obtain rfl:=aJ h;exact⟨ho,(j4.1 ho).1⟩
  ·cases h
end dJ

namespace pb
theorem size(x:aw):(v x).size=4:=by unfold v;rw[Lib.iU];simp only[cE,Lib.rR]
end pb

namespace jU
def rd(x:aw):aw:=bif decide (cz x 2=1)then(bE eI (↑(dW (mh (cf 32 (bE eI (cR x 2))) (cf 32 3558460437))):aw))else(bE eI (cR x 2))
def nL:aF->aw->aw|0,x=>x|n+1,x=>nL n (rd x)
theorem in6(N:aF)(K:aw->aq->aw->aw->az R)(a:aq)(b:aw):∀(d n i:aF) (x:aw),d+i=8->d<n->l6 N K n x a b (i:aw)=K (nL d x) a b 8:=by
 intro d;induction d with
 |zero=>
  intro n i x h1 h2;obtain⟨n,rfl⟩:∃m,n=m+1:=⟨n-1,by omega⟩
  have:i=8:=by omega
  subst this;rfl
 |succ d ih=>
  intro n i x h1 h2;obtain⟨n,rfl⟩:∃m,n=m+1:=⟨n-1,by omega⟩
  have me:bJ ((i:aw)+1)=((i+1:aF):aw):=dg (by omega) (by omega);rw[nL,<-ih n (i+1) (rd x) (by omega) (by omega)];simp only[l6,r6,aE (show(i:aw)<8 by omega),au,me,rd];cases decide (cz x 2=1)<;>rfl
def su(t:aq):aF->aF->aw->aw
 |0,_,s=>s
 |d+1,i,s=>su t d (i+1) (nL 8 (bE eI (↑(dW (mh (cf 32 s) (cf 32 (bE eI (↑(gQ t i):aw))))):aw)))
theorem run(s:aw)(t:aq)(ht:t.size<=4611686018427387904):vo s t=ah (su t t.size 0 s):=by
 unfold vo b;have key:∀(d n i:aF) (s:aw),d+i=t.size->d<n->l2 Lib.cW (λ(wx:aw) (_:aq) (_:aw)=>ah wx) n s t (i:aw)=ah (su t d i s):=by
  intro d;induction d with
  |zero=>
   intro n i s h1 h2;obtain⟨n,rfl⟩:∃m,n=m+1:=⟨n-1,by omega⟩
   simp only[l2,r2,Lib.dn,aK (show¬i<t.size by omega),ax];rfl
  |succ d ih=>
   intro n i s h1 h2;obtain⟨n,rfl⟩:∃m,n=m+1:=⟨n-1,by omega⟩
   have me:bJ ((i:aw)+1)=((i+1:aF):aw):=dg (by omega) (by omega);simp only[l2,r2,Lib.dn,aE (show i<t.size by omega),Lib.cF,aM,au,Lib.dY];have e:=in6 (R:=aw) Lib.cW (λy7 y8 y9 _=>l2 Lib.cW (λwx _ _=>ah wx) n y7 y8 (bJ (y9+1))) t (i:aw) 8 Lib.cW 0 (bE eI (↑(dW (mh (cf 32 s) (cf 32 (bE eI (↑(gQ t i):aw))))):aw)) rfl (by unfold Lib.cW;omega);refine e.trans ?_;rw[me,ih n (i+1) _ (by omega) (by omega)];rfl
 exact key t.size Lib.cW 0 s (by omega) (cJ (by omega))
theorem ok(s:aw)(t:aq)(ht:t.size<=4611686018427387904):c s t=ai/\v s t=su t t.size 0 s:=out s t (run s t ht)
end jU

namespace vU
theorem ok(t:aq)(ht:t.size<=4611686018427387904):c t=ai/\v t=jU.su t t.size 0 4294967295:=by have h:=jU.ok 4294967295 t ht;refine out t ?_;unfold vo b;rw[h.1,h.2];rfl
end vU

namespace fK
def fr(t:aq):aq:=bytesOf (Lib.vb t.size)++pb.v (jU.su t t.size 0 4294967295)++t
def val(t:aq):aq×aX:=if 1<=t.size/\t.size<=9000 then(fr t,ai)else(⟨#[]⟩,ak)
theorem eO(n a b:aw):kl.v n a b=decide (a<=n/\n<=b):=by unfold kl.v;by_cases h:a<=n<;>by_cases h2:n<=b<;>simp[h,h2]
theorem XD{t:aq}(h:t.size<=9000):(fr t).size<=t.size+68:=by unfold fr;have:=Lib.jP (x:=(t.size:aw)) (by omega);rw[Lib.ki,Lib.ki,pb.size];omega
theorem ok(t:aq):c t=ai/\v t=val t:=by
 refine out t ?_;unfold vo b val;rw[eO];by_cases h:1<=t.size/\t.size<=9000
 ·have hs:=vU.ok t (by omega);have hc:kE.c (t.size:aw)=true:=aE (show(t.size:aw)<=9223372036854775807 by omega);have z1:(kE.v (t.size:aw)).size<=64:=Lib.jP (x:=(t.size:aw)) (by omega);rw[aE (show(1:aw)<=(t.size:aw)/\(t.size:aw)<=9000 by omega),bz h,hs.1,hs.2];simp(disch:=omega) only[a_,ax,au,hc,Lib.ki,pb.size,Lib.Sw];rfl
 ·rw[aK (show¬((1:aw)<=(t.size:aw)/\(t.size:aw)<=9000)by omega),bH h];rfl
end fK

namespace rJ
theorem head{t:aq}{p:aF}{b:HS}{r:aA HS}(h:t.data.toList.drop p=b::r):p<t.size/\gQ t p=b.toNat/\t.data.toList.drop (p+1)=r:=by
 have hl:=lN bT h;rw[iE,dc]at hl;have hs:t.data.toList.length=t.size:=rfl;have hp:p<t.data.toList.length:=by omega
 have hd:=dF hp;rw[hd]at h;injection h with h1 h2;refine⟨by omega, ?_,h2⟩
 unfold gQ;have mJ:p<t.data.size:=hp;rw[show t.data.getD p 0=t.data[p]by unfold Array.getD;rw[dif_pos mJ];rfl];rw[<-h1];rfl
theorem B_(x:aw)(r:aQ):(bytesOf ([CV.i bh x]::r)).data.toList=ay x.toNat::(bytesOf r).data.toList:=rfl
theorem U4(t:aq)(a:aF)(rest:aA HS):∀(f j:aF) (n y:aw),0<=y->0<=n->n+y*128^j<=1000000000->y<=1000000000->(j>0->0<y)->t.data.toList.drop (a+j)=(bytesOf (Lib.vb y)).data.toList++rest->(Lib.vb y).length<=f->
  Lib.rv t a f j n=(n+y*128^j,((a+j+(Lib.vb y).length:aF):aw),ai)/\t.data.toList.drop (a+j+(Lib.vb y).length)=rest
 |0,j,n,y,h0,hn,hb,hy,hj,hd,hf=>by
  by_cases hc:y>127
  ·rw[Lib.wu hc]at hf;simp at hf
  ·rw[Lib.m9 hc]at hf;simp at hf
 |f+1,j,n,y,h0,hn,hb,hy,hj,hd,hf=>by
  by_cases hc:y>127
  ·have e1:cz y 128=y%128:=iq (by omega);have e2:cR y 128=y/128:=ic (by omega);have e3:bJ (y%128+128)=y%128+128:=dg (by omega) (by omega);have e4:bE bh (y%128+128)=y%128+128:=by show(y%128+128)%256=_;omega
   have e5:bJ (y/128)=y/128:=dg (by omega) (by omega);have ev:Lib.vb y=[CV.i bh (y%128+128)]::Lib.vb (y/128):=by rw[Lib.wu hc,e1,e2,e3,e4,e5]
   rw[ev,B_,BT]at hd;obtain⟨q1,q2,q3⟩:=head hd;have q4:(gQ t (a+j):aw)=y%128+128:=by rw[q2,M0];omega
   rw[ev,dc]at hf;have hP:y*128^j=y%128*128^j+y/128*128^(j+1):=by
    have hyd:y=y%128+128*(y/128):=by omega
    rw[uU];generalize (128:aw)^j=P;conv=>lhs;rw[hyd]
    rw[Int.add_mul,Int.mul_comm P 128,<-Int.mul_assoc,Int.mul_comm (y/128) 128]
   have hpp:(0:aw)<=y%128*128^j:=Int.mul_nonneg (by omega) (Int.le_of_lt (Int.pow_pos (by omega)));obtain⟨i1,i2⟩:=U4 t a rest f (j+1) (n+y%128*128^j) (y/128) (by omega) (by omega) (by omega) (by omega) (by omega) (by rw[show a+(j+1)=a+j+1 by omega];exact q3) (by omega);refine⟨?_, ?_⟩
   ·unfold Lib.rv;rw[bz q1,q4,bz (by omega),show(y%128+128)%128=y%128 by omega,i1,hP,ev,dc];refine Prod.ext ?_ (Prod.ext ?_ rfl)
    ·dsimp only;omega
    ·dsimp only;omega
   ·rw[ev,dc,show a+j+((Lib.vb (y/128)).length+1)=a+(j+1)+(Lib.vb (y/128)).length by omega];exact i2
  ·have e4:bE bh y=y:=by show y%256=_;omega
   have ev:Lib.vb y=[[CV.i bh y]]:=by rw[Lib.m9 hc,e4]
   rw[ev,B_,BT]at hd;obtain⟨q1,q2,q3⟩:=head hd;have q4:(gQ t (a+j):aw)=y:=by rw[q2,M0];omega
   refine⟨?_,by rw[ev];exact q3⟩
   unfold Lib.rv;rw[bz q1,q4,bH hc,show y%128=y by omega,bH (by omega),ev];rfl
theorem vb5{y:aw}(h:y<=1000000000):(Lib.vb y).length<=5:=by
 have e:(128:aw)^(4+1)=34359738368:=by decide
 exact Lib.BH 4 y (by rw[e];omega)
theorem mE(t:aq)(p:aF)(y:aw)(rest:aA HS)(h0:0<=y)(h1:y<=1000000000)(hd:t.data.toList.drop p=(bytesOf (Lib.vb y)).data.toList++rest):Lib.eF t p=(y,((p+(Lib.vb y).length:aF):aw),ai)/\t.data.toList.drop (p+(Lib.vb y).length)=rest:=by
 have hl:=lN bT hd;have iA:0<(Lib.vb y).length:=by
  by_cases hc:y>127
  ·rw[Lib.wu hc];simp
  ·rw[Lib.m9 hc];simp
 have hb:(bytesOf (Lib.vb y)).data.toList.length=(Lib.vb y).length:=Lib.iU _;rw[iE,bP,hb]at hl;have hs:t.data.toList.length=t.size:=rfl;obtain⟨i1,i2⟩:=U4 t p rest 5 0 0 y h0 (by omega) (by simp;omega) h1 (by omega) (by simpa using hd) (vb5 h1);refine⟨?_,by simpa using i2⟩
 unfold Lib.eF;rw[bz (by omega),show((p:aF):aw).toNat=p from rfl,i1];simp
theorem KN(t k:aq)(p:aF)(rest:aA HS)(hd:t.data.toList.drop p=k.data.toList++rest):t.extract p (p+k.size)=k:=by apply Lib.tn;simp only[gj,iy,ie];rw[hd,show p+k.size-p=k.data.toList.length by show p+k.size-p=k.size;omega,List.take_left]
theorem enc(k:aq)(s l:aw)(b:aq)(h:nb.v k s l b=ai):v (jL.sR k s l b)=(k,s,l,b,ai):=by
 obtain⟨⟨k1,k2⟩,⟨s1,s2⟩,⟨l1,l2⟩,b1⟩:=nb.Ea h;generalize ht:jL.sR k s l b=t;have hT:t.data.toList=(bytesOf (Lib.vb k.size)).data.toList++(k.data.toList++((bytesOf (Lib.vb s)).data.toList++((bytesOf (Lib.vb l)).data.toList++b.data.toList))):=by rw[<-ht];unfold jL.sR;simp only[mA,vC,cB]
 have hs:t.data.toList.length=t.size:=rfl;have hk:k.data.toList.length=k.size:=rfl;obtain⟨a1,a2⟩:=mE t 0 (k.size:aw) _ (by omega) (by omega) (by rw[fa];exact hT);rw[bV]at a1 a2;generalize (Lib.vb (k.size:aw)).length=n1 at a1 a2;have auQ:=lN bT a2;simp only[iE,bP,hk,hs]at auQ;have ek:=KN t k n1 _ a2;have a3:t.data.toList.drop (n1+k.size)=(bytesOf (Lib.vb s)).data.toList++((bytesOf (Lib.vb l)).data.toList++b.data.toList):=by rw[<-vL,a2];exact List.drop_left' (by rw[hk])
 obtain⟨b1',b2⟩:=mE t (n1+k.size) s _ (by omega) (by omega) a3;obtain⟨c1,c2⟩:=mE t (n1+k.size+(Lib.vb s).length) l _ (by omega) (by omega) b2;have hr:Lib.ia t 0=(k,((n1+k.size:aF):aw),ai):=by unfold Lib.ia;rw[show(0:aw)=((0:aF):aw)from rfl,a1];dsimp only;rw[bz (by omega)];rw[show((n1:aF):aw).toNat=n1 from rfl,show((n1:aw)+(k.size:aw)).toNat=n1+k.size by omega,ek];rfl
 have eb:t.extract (n1+k.size+(Lib.vb s).length+(Lib.vb l).length) t.size=b:=by
  have E4:=lN bT c2;rw[iE,hs]at E4;have hbs:b.data.toList.length=b.size:=rfl;by_cases hz:b.size=0
  ·apply Lib.tn;simp only[gj,iy,ie];rw[c2];exact je (by omega)
  ·apply Lib.tn;simp only[gj,iy,ie];rw[c2];exact je (by omega)
 unfold v;rw[hr];dsimp only;rw[b1'];dsimp only;rw[c1];dsimp only;rw[show((n1+k.size+(Lib.vb s).length+(Lib.vb l).length:aF):aw).toNat=n1+k.size+(Lib.vb s).length+(Lib.vb l).length from rfl,eb,bz h]
end rJ

namespace wT
theorem in6(N:aF)(K:aw->aq->aw->aw->az R)(a:aq)(b:aw):∀(d n i:aF) (x:aw),d+i=8->d<n->l6 N K n x a b (i:aw)=K (jU.nL d x) a b 8:=by
 intro d;induction d with
 |zero=>
  intro n i x h1 h2;obtain⟨n,rfl⟩:∃m,n=m+1:=⟨n-1,by omega⟩
  have:i=8:=by omega
  subst this;rfl
 |succ d ih=>
  intro n i x h1 h2;obtain⟨n,rfl⟩:∃m,n=m+1:=⟨n-1,by omega⟩
  have me:bJ ((i:aw)+1)=((i+1:aF):aw):=dg (by omega) (by omega);rw[jU.nL,<-ih n (i+1) (jU.rd x) (by omega) (by omega)];simp only[l6,r6,aE (show(i:aw)<8 by omega),au,me,jU.rd];cases decide (cz x 2=1)<;>rfl
theorem run(s:aw)(t:aq)(ht:t.size<=4611686018427387904):vo s t=ah (jU.su t t.size 0 s):=by
 unfold vo b;have key:∀(d n i:aF) (s:aw),d+i=t.size->d<n->l2 Lib.cW (λ(wx:aw) (_:aq) (_:aw)=>ah wx) n s t (i:aw)=ah (jU.su t d i s):=by
  intro d;induction d with
  |zero=>
   intro n i s h1 h2;obtain⟨n,rfl⟩:∃m,n=m+1:=⟨n-1,by omega⟩
   simp only[l2,r2,Lib.dn,aK (show¬i<t.size by omega),ax];rfl
  |succ d ih=>
   intro n i s h1 h2;obtain⟨n,rfl⟩:∃m,n=m+1:=⟨n-1,by omega⟩
   have me:bJ ((i:aw)+1)=((i+1:aF):aw):=dg (by omega) (by omega);simp only[l2,r2,Lib.dn,aE (show i<t.size by omega),Lib.cF,aM,au,Lib.dY];have e:=in6 (R:=aw) Lib.cW (λy7 y8 y9 _=>l2 Lib.cW (λwx _ _=>ah wx) n y7 y8 (bJ (y9+1))) t (i:aw) 8 Lib.cW 0 (bE eI (↑(dW (mh (cf 32 s) (cf 32 (bE eI (↑(gQ t i):aw))))):aw)) rfl (by unfold Lib.cW;omega);refine e.trans ?_;rw[me,ih n (i+1) _ (by omega) (by omega)];rfl
 exact key t.size Lib.cW 0 s (by omega) (cJ (by omega))
theorem ok(s:aw)(t:aq)(ht:t.size<=4611686018427387904):c s t=ai/\v s t=jU.su t t.size 0 s:=out s t (run s t ht)
end wT

namespace ve
theorem ok(t:aq)(ht:t.size<=4611686018427387904):c t=ai/\v t=jU.su t t.size 0 4294967295:=by have h:=wT.ok 4294967295 t ht;refine out t ?_;unfold vo b;rw[h.1,h.2];rfl
end ve

namespace u_
theorem ok(t:aq)(ht:t.size<=4611686018427387904):c t=ai/\v t=pb.v (jU.su t t.size 0 4294967295):=by have h:=ve.ok t ht;refine out t ?_;unfold vo b;rw[h.1,h.2];rfl
end u_

namespace HQ
theorem cut(a s s' b:aq):bZ (aC (a++s++b)) (aC (a++s'++b))=bZ (aC s) (aC s'):=by
 rw[Lib.fu,Lib.fu,ch];constructor
 ·intro h;have h2:=lN (λx:aq=>x.data.toList) h;simp only[mA,vC,cB]at h2;have h3:=List.append_cancel_right (List.append_cancel_left h2);exact Lib.tn h3
 ·intro h;rw[h]
theorem mG(n a b:aw):lz.v n a b=decide (a<=n/\n<=b):=fK.eO n a b
theorem both(t:aq)(ht:t.size<=20000):∀(d:aF) (gP:aF) (acc:aQ) (n m:aF) (z:aw),t.size-gP<=d->gP<=t.size->acc.length<=gP->d<n->d<m->
  ∃R:aQ×aw,U122.l3 Lib.cW (λ(_:aq) (y4:aw) (y5:aQ)=>ah (y5,y4)) n t (gP:aw) acc=ah R/\l5 Lib.cW (λ(_:aq) (y5 _:aw) (y7:aQ)=>ah (y7,y5)) (λ(_:aq) (_ Kc:aw) (wx:aQ)=>ah (wx,Kc)) m t z (gP:aw) acc=ah R/\R.1.length<=20000:=by
 intro d;induction d with
 |zero=>
  intro gP acc n m z h1 h2 h3 h4 h5;obtain⟨n,rfl⟩:∃n',n=n'+1:=⟨n-1,by omega⟩
  obtain⟨m,rfl⟩:∃m',m=m'+1:=⟨m-1,by omega⟩
  have jB:decide ((gP:aw)<(t.size:aw))=false:=aK (by omega);have hr:(Lib.eF t (gP:aw)).2.2=false:=by
   cases h:Lib.eF t (gP:aw)with
   |mk a r=>
    obtain⟨x,o⟩:=r;cases o with
    |false=>rfl
    |true=>have:=Lib.j6 h;omega
  have e1:∀a b,gm.v a b=Lib.eF a b:=λ_ _=>rfl;refine⟨(acc,(gP:aw)), ?_, ?_,by dsimp only;omega⟩
  ·simp only[U122.l3,U122.r3,e1,hr,aE (show(t.size:aw)<=20000 by omega),au,bR]
  ·simp only[l5,r5,jB,ax]
 |succ d ih=>
  intro gP acc n m z h1 h2 h3 h4 h5;obtain⟨n,rfl⟩:∃n',n=n'+1:=⟨n-1,by omega⟩
  obtain⟨m,rfl⟩:∃m',m=m'+1:=⟨m-1,by omega⟩
  have e1:∀a b,gm.v a b=Lib.eF a b:=λ_ _=>rfl;have e2:∀a b,fP.v a b=Lib.eF a b:=λ_ _=>rfl;have gi:decide ((t.size:aw)<=20000)=true:=aE (by omega);cases hr:Lib.eF t (gP:aw)with
  |mk N r=>
   obtain⟨nx,o⟩:=r;cases o with
   |false=>
    refine⟨(acc,(gP:aw)), ?_, ?_,by dsimp only;omega⟩
    ·simp only[U122.l3,U122.r3,e1,hr,gi,au,bR]
    ·by_cases jB:(gP:aw)<(t.size:aw)
     ·simp only[l5,r5,e2,hr,aE jB,au,bR]
     ·simp only[l5,r5,aK jB,ax]
   |true=>
    obtain⟨q1,q2,q3,q4,q5,q6⟩:=Lib.j6 hr;have jB:decide ((gP:aw)<(t.size:aw))=true:=aE (by omega);have w1:bJ (N+4)=N+4:=dg (by omega) (by omega);have w2:bJ ((t.size:aw)-nx)=(t.size:aw)-nx:=dg (by omega) (by omega);have w3:bJ ((t.size:aw)-nx-4)=(t.size:aw)-nx-4:=dg (by omega) (by omega);have w4:bJ (nx+4)=nx+4:=dg (by omega) (by omega);have w5:bJ (nx+4+N)=nx+4+N:=dg (by omega) (by omega);by_cases tF:N+4>(t.size:aw)-nx
    ·have E2:N>(t.size:aw)-nx-4:=by omega
     refine⟨(acc,(gP:aw)), ?_, ?_,by dsimp only;omega⟩
     ·cases XZ:decide (1<=N/\N<=9000)with
      |false=>simp only[U122.l3,U122.r3,e1,hr,gi,mG,XZ,au,ax,a_,bR]
      |true=>simp only[U122.l3,U122.r3,e1,hr,gi,mG,XZ,w1,w2,aE tF,au,ax,a_]
     ·simp only[l5,r5,e2,hr,jB,w2,w3,aE E2,au,ax,a_]
    ·have E2:¬N>(t.size:aw)-nx-4:=by omega
     have i1:g7 (nx+4) (nx+4+N) (t.size:aw)=true:=by simp[g7];omega
     have i2:g7 nx (nx+4) (t.size:aw)=true:=by simp[g7];omega
     have i3:g7 (gP:aw) (nx+4+N) (t.size:aw)=true:=by simp[g7];omega
     have hts:(t.extract (nx+4).toNat (nx+4+N).toNat).size=N.toNat:=by rw[yD];omega
     generalize Wv:t.extract (nx+4).toNat (nx+4+N).toNat=tx at hts;have f1:=fK.ok tx;have f2:=u_.ok tx (by omega);by_cases XZ:1<=N/\N<=9000
     ·have Wt:fK.val tx=(fK.fr tx,ai):=by unfold fK.val;rw[bz (by omega)]
      have ar9:((tx.size:aF):aw)=N:=by omega
      have Ai:fK.fr tx=t.extract gP nx.toNat++pb.v (jU.su tx tx.size 0 4294967295)++tx:=by unfold fK.fr;rw[ar9,q6];rfl
      have hwh:t.extract gP (nx+4+N).toNat=t.extract gP nx.toNat++t.extract nx.toNat (nx+4).toNat++tx:=by rw[<-Wv,Lib.xA t (by omega) (by omega),Lib.xA t (by omega) (by omega)]
      have XL:bZ (aC (fK.fr tx)) (aC (t.extract gP (nx+4+N).toNat))=bZ (aC (pb.v (jU.su tx tx.size 0 4294967295))) (aC (t.extract nx.toNat (nx+4).toNat)):=by rw[Ai,hwh];exact cut _ _ _ _
      have Jh:cy (acc.length+1) 16=true:=Lib.cj (by omega) (by omega);cases hs:bZ (aC (pb.v (jU.su tx tx.size 0 4294967295))) (aC (t.extract nx.toNat (nx+4).toNat))with
      |false=>
       rw[hs]at XL;refine⟨(acc,(gP:aw)), ?_, ?_,by dsimp only;omega⟩
       ·simp only[U122.l3,U122.r3,e1,hr,gi,mG,aE XZ,w1,w2,w4,w5,aK tF,i1,i2,Wv,f2.1,f2.2,hs,au,ax,a_,bR]
       ·simp only[l5,r5,e2,hr,jB,w2,w3,w4,w5,aK E2,i1,i3,Wv,f1.1,f1.2,Wt,dH,XL,au,ax,a_,bR]
      |true=>
       rw[hs]at XL;obtain⟨a2,ha2⟩:∃a2:aF,nx+4+N=(a2:aw):=⟨(nx+4+N).toNat,by omega⟩
       obtain⟨R,g1,g2,g3⟩:=ih a2 (acc++[[CV.s tx]]) n m z (by omega) (by omega) (by rw[bP,bA];omega) (by omega) (by omega);refine⟨R, ?_, ?_,g3⟩
       ·simp only[U122.l3,U122.r3,e1,hr,gi,mG,aE XZ,w1,w2,w4,w5,aK tF,i1,i2,Wv,f2.1,f2.2,hs,Lib.iM,bA,Jh,au,ax,a_];rw[ha2];exact g1
       ·simp only[l5,r5,e2,hr,jB,w2,w3,w4,w5,aK E2,i1,i3,Wv,f1.1,f1.2,Wt,dH,XL,Lib.iM,bA,Jh,au,ax,a_];rw[ha2];exact g2
     ·have Wt:fK.val tx=(⟨#[]⟩,ak):=by unfold fK.val;rw[bH (by omega)]
      refine⟨(acc,(gP:aw)), ?_, ?_,by dsimp only;omega⟩
      ·simp only[U122.l3,U122.r3,e1,hr,gi,mG,aK XZ,au,ax,a_,bR]
      ·simp only[l5,r5,e2,hr,jB,w2,w3,w4,w5,aK E2,i1,Wv,f1.1,f1.2,Wt,au,ax,a_,bR]
theorem same(t:aq):∃R:aQ×aw,(c t=ai/\v t=R)/\(U122.c t=ai/\U122.v t=R)/\R.1.length<=20000:=by
 by_cases ht:t.size<=20000
 ·obtain⟨R,g1,g2,g3⟩:=both t ht t.size 0 [] Lib.cW Lib.cW 0 (by omega) (bI _) (cG _) (cJ (by omega)) (cJ (by omega));refine⟨R,out t ?_,U122.out t ?_,g3⟩
  ·unfold vo b;rw[aK (show¬(t.size:aw)>20000 by omega),ax];exact g2
  ·unfold U122.vo U122.b;exact g1
 ·refine⟨([],0),out t ?_,U122.out t ?_,bI _⟩
  ·unfold vo b;rw[aE (show(t.size:aw)>20000 by omega)];rfl
  ·unfold U122.vo U122.b;have hb:Lib.cW=18446744073709551615+1:=rfl;have:∀n,U122.l3 Lib.cW (λ(_:aq) (y4:aw) (y5:aQ)=>ah (y5,y4)) (n+1) t 0 (aP [Ck.s] 0)=ah ([],0):=by intro n;simp only[U122.l3,U122.r3,aK (show¬(t.size:aw)<=20000 by omega),ax];rfl
   exact this 18446744073709551615
end HQ

namespace WM
def fs:aA aq->aq
 |[]=>⟨#[]⟩|x::r=>fK.fr x++fs r
theorem toL(a b:aq):(a++b).data.toList=a.data.toList++b.data.toList:=by simp[mA]
theorem GZ(x:aq):(fK.fr x).data.toList=(bytesOf (Lib.vb x.size)).data.toList++((pb.v (jU.su x x.size 0 4294967295)).data.toList++x.data.toList):=by unfold fK.fr;rw[toL,toL,cB]
theorem J_(x:aq):x.data.toList.length=x.size:=dS
def Stop(z:aq):Prop:=z=⟨#[]⟩\/∃(x:aq) (w:aA HS),x.size<=9000/\(fK.fr x).data.toList=z.data.toList++w/\w≠[]
theorem oX(n:aw):(pb.v n).size=4:=rfl
theorem vbl(n:aw):(bytesOf (Lib.vb n)).data.toList.length=(Lib.vb n).length:=by rw[J_,Lib.iU]
theorem stop{t z:aq}{p:aF}(hz:Stop z)(hp:p<=t.size)(hd:t.data.toList.drop p=z.data.toList){N nx:aw}(h:Lib.eF t p=(N,nx,ai)):N+4>(t.size:aw)-nx:=by
 obtain⟨q1,q2,q3,q4,q5,q6⟩:=Lib.j6 h;have hl:t.size-p=z.size:=by have:=lN bT hd;rw[iE,J_,J_]at this;exact this
 rcases hz with rfl|⟨x,w,hx,hF,hw⟩
 ·have:(⟨#[]⟩:aq).size=0:=rfl;omega
 ·-- the file's next bytes are the number's
  have e1:(t.extract p nx.toNat).data.toList=z.data.toList.take (nx.toNat-p):=by rw[<-hd];simp[gj,iy,List.extract]
  rw[dH]at q6;have Le:nx.toNat-p<=z.data.toList.length:=by rw[J_];omega
  have e2:(fK.fr x).data.toList.drop 0=(bytesOf (Lib.vb N)).data.toList++(z.data.toList.drop (nx.toNat-p)++w):=by rw[fa,hF,q6,e1,<-cB,List.take_append_drop]
  have e3:(fK.fr x).data.toList.drop 0=(bytesOf (Lib.vb x.size)).data.toList++((pb.v (jU.su x x.size 0 4294967295)).data.toList++x.data.toList):=by rw[fa,GZ]
  have r1:=(rJ.mE _ 0 N _ q4 q5 e2).1;have r2:=(rJ.mE _ 0 (x.size:aw) _ (by omega) (by omega) e3).1;rw[r1]at r2;obtain⟨hN,hq⟩:=bW r2;have hlen:(Lib.vb N).length=nx.toNat-p:=by have:=lN bT (lN (λy:aq=>y.data.toList) q6);simp only[vbl,e1,eD]at this;omega
  have hFl:=lN bT hF;rw[GZ,bP,bP,bP,vbl,J_,J_,J_,oX]at hFl;have hw1:1<=w.length:=by cases w with|nil=>exact cK rfl hw|cons=>simp
  subst hN;omega
theorem go(t:aq)(ht:t.size<=20000)(z:aq)(hz:Stop z):∀(es:aA aq),(∀x∈es,1<=x.size/\x.size<=9000)->∀(p n:aF) (acc:aQ),p<=t.size->acc.length<=p->t.data.toList.drop p=(fs es++z).data.toList->t.size-p<n->
  U122.l3 Lib.cW (λ(_:aq) (y4:aw) (y5:aQ)=>ah (y5,y4)) n t (p:aw) acc=ah (acc++Lib.rs es,((p+(fs es).size:aF):aw)):=by
 have e0:∀a b,gm.v a b=Lib.eF a b:=λ_ _=>rfl;have gi:decide ((t.size:aw)<=20000)=true:=aE (by omega);intro es;induction es with
 |nil=>
  intro hes p n acc hp ha hd hn;obtain⟨n,rfl⟩:∃n',n=n'+1:=⟨n-1,by omega⟩
  have hd:t.data.toList.drop p=z.data.toList:=by rw[hd];unfold fs;rw[toL];rfl
  have e1:acc++Lib.rs []=acc:=dp _;have e2:((p+(fs []).size:aF):aw)=(p:aw):=rfl;rw[e1,e2];cases hr:Lib.eF t (p:aw)with
  |mk N r=>
   obtain⟨nx,o⟩:=r;cases o with
   |false=>simp only[U122.l3,U122.r3,e0,hr,gi,au,bR]
   |true=>
    have hs:=stop hz hp hd hr;obtain⟨q1,q2,q3,q4,q5,q6⟩:=Lib.j6 hr;have w1:bJ (N+4)=N+4:=dg (by omega) (by omega);have w2:bJ ((t.size:aw)-nx)=(t.size:aw)-nx:=dg (by omega) (by omega);cases XZ:decide (1<=N/\N<=9000)with
    |false=>simp only[U122.l3,U122.r3,e0,hr,gi,HQ.mG,XZ,au,ax,a_,bR]
    |true=>simp only[U122.l3,U122.r3,e0,hr,gi,HQ.mG,XZ,w1,w2,aE hs,au,ax,a_]
 |cons x es ih=>
  intro hes p n acc hp ha hd hn;obtain⟨n,rfl⟩:∃n',n=n'+1:=⟨n-1,by omega⟩
  have hx:=hes x (by simp);have hd1:t.data.toList.drop p=(bytesOf (Lib.vb x.size)).data.toList++((pb.v (jU.su x x.size 0 4294967295)).data.toList++(x.data.toList++(fs es++z).data.toList)):=by rw[hd,show fs (x::es)=fK.fr x++fs es from rfl,toL,toL,GZ,toL];simp only[cB]
  obtain⟨hr,hd2⟩:=rJ.mE t p (x.size:aw) _ (by omega) (by omega) hd1;have Po:(fK.fr x).size=(Lib.vb x.size).length+4+x.size:=by rw[<-J_,GZ,bP,bP,vbl,J_,J_,oX];omega
  have hlen:=lN bT hd;rw[iE,J_,J_]at hlen;have nW:(fs (x::es)++z).size=(fK.fr x).size+(fs es).size+z.size:=by rw[show fs (x::es)=fK.fr x++fs es from rfl,dK,dK]
  rw[nW,Po]at hlen;generalize hm:(Lib.vb (x.size:aw)).length=m at*
  have x4:t.extract (p+m) (p+m+4)=pb.v (jU.su x x.size 0 4294967295):=by have:=rJ.KN t _ (p+m) _ hd2;rwa[oX]at this
  have hd3:t.data.toList.drop (p+m+4)=x.data.toList++(fs es++z).data.toList:=by rw[<-vL,hd2,A7 (by rw[J_,oX];omega),H7 (by rw[J_,oX];omega),gD]
  have x5:t.extract (p+m+4) (p+m+4+x.size)=x:=rJ.KN t x (p+m+4) _ hd3;have hd4:t.data.toList.drop (p+m+4+x.size)=(fs es++z).data.toList:=by rw[<-vL,hd3,A7 (by rw[J_];omega),H7 (by rw[J_];omega),gD]
  have i:=ih (λy hy=>hes y (by simp[hy])) (p+m+4+x.size) n (acc++[[CV.s x]]) (by omega) (by simp;omega) hd4 (by omega);have w1:bJ ((x.size:aw)+4)=(x.size:aw)+4:=dg (by omega) (by omega);have w2:bJ ((t.size:aw)-((p+m:aF):aw))=(t.size:aw)-((p+m:aF):aw):=dg (by omega) (by omega);have w4:bJ (((p+m:aF):aw)+4)=((p+m+4:aF):aw):=by rw[dg (by omega) (by omega)];omega
  have w5:bJ (((p+m+4:aF):aw)+(x.size:aw))=((p+m+4+x.size:aF):aw):=by rw[dg (by omega) (by omega)];omega
  have b1:¬(x.size:aw)+4>(t.size:aw)-((p+m:aF):aw):=by omega
  have i1:g7 ((p+m+4:aF):aw) ((p+m+4+x.size:aF):aw) (t.size:aw)=true:=by simp[g7];omega
  have i2:g7 ((p+m:aF):aw) ((p+m+4:aF):aw) (t.size:aw)=true:=by simp[g7];omega
  have f2:=u_.ok x (by omega);have Jh:cy (acc.length+1) 16=true:=Lib.cj (by omega) (by omega);simp only[U122.l3,U122.r3,e0,hr,gi,HQ.mG,aE (show 1<=(x.size:aw)/\(x.size:aw)<=9000 by omega),w1,w2,w4,w5,aK b1,i1,i2,dH,x4,x5,f2.1,f2.2,Lib.qJ,Lib.iM,bA,Jh,au,ax,a_];rw[i];have e3:acc++[[CV.s x]]++Lib.rs es=acc++Lib.rs (x::es):=by unfold Lib.rs;simp
  have e4:p+m+4+x.size+(fs es).size=p+(fs (x::es)).size:=by
   have:(fs (x::es)).size=(fK.fr x).size+(fs es).size:=by rw[show fs (x::es)=fK.fr x++fs es from rfl,dK]
   omega
  rw[e3,e4]
theorem ok(es:aA aq)(hes:∀x∈es,1<=x.size/\x.size<=9000)(z:aq)(hz:Stop z)(ht:(fs es++z).size<=20000):
  (U122.c (fs es++z)=ai/\U122.v (fs es++z)=(Lib.rs es,((fs es).size:aw)))/\(HQ.c (fs es++z)=ai/\HQ.v (fs es++z)=(Lib.rs es,((fs es).size:aw))):=by
 have h1:=U122.out (fs es++z) (x:=(Lib.rs es,((fs es).size:aw))) (by unfold U122.vo U122.b;have:=go (fs es++z) ht z hz es hes 0 Lib.cW [] (bI _) (bI _) (by rw[fa]) (cJ (by omega));rw[bV,gD]at this;exact this);obtain⟨R,s1,s2,_⟩:=HQ.same (fs es++z);refine⟨h1,s1.1, ?_⟩
 rw[s1.2,<-s2.2,h1.2]
end WM

namespace BX
theorem wi(n a b:aw):lz.v n a b=decide (a<=n/\n<=b):=fK.eO n a b
theorem ok(t:aq):c t=ai/\v t=fK.val t:=by
 refine out t ?_;unfold vo b fK.val;rw[wi];by_cases h:1<=t.size/\t.size<=9000
 ·have hs:=u_.ok t (by omega);have z1:(bytesOf (Lib.vb (t.size:aw))).size<=64:=Lib.jP (x:=(t.size:aw)) (by omega);have e2:nR.v (t.size:aw)=(bytesOf (Lib.vb t.size),ai):=by unfold nR.v;rw[bz (by omega)]
  rw[aE (show(1:aw)<=(t.size:aw)/\(t.size:aw)<=9000 by omega),bz h,hs.1,hs.2,e2];simp(disch:=omega) only[a_,ax,au,Lib.ki,pb.size,Lib.Sw];rfl
 ·rw[aK (show¬((1:aw)<=(t.size:aw)/\(t.size:aw)<=9000)by omega),bH h];rfl
end BX

namespace mU
theorem t_{k b:aq}{s l:aw}(h:nb.v k s l b=ai):(jL.sR k s l b).size<=1000:=by have hr:=nb.Ea h;have z1:(bytesOf (Lib.vb (k.size:aw))).size<=64:=Lib.jP (x:=(k.size:aw)) (by omega);have z2:(bytesOf (Lib.vb s)).size<=64:=Lib.jP (x:=s) (by omega);have z3:(bytesOf (Lib.vb l)).size<=64:=Lib.jP (x:=l) (by omega);unfold jL.sR;simp only[Lib.ki];omega
theorem BF{k b:aq}{s l:aw}(h:nb.v k s l b=ai):1<=(jL.sR k s l b).size:=by have hr:=nb.Ea h;unfold jL.sR;simp only[Lib.ki];omega
def val(k:aq)(s l:aw)(b:aq):aq×aX:=if nb.v k s l b=ai then(fK.fr (jL.sR k s l b),ai)else(⟨#[]⟩,ak)
theorem ok(k:aq)(s l:aw)(b0:aq):c k s l b0=ai/\v k s l b0=val k s l b0:=by
 refine out k s l b0 ?_;have hf:=BX.ok (DS.v k s l b0).1;unfold vo b val;rw[hf.1,hf.2];unfold DS.v jL.v fK.val;by_cases h:nb.v k s l b0=ai
 ·have h1:=t_ h;have h2:=BF h;rw[bz h,bz h,bz (by dsimp only;omega)];rfl
 ·rw[bH h,bH h];rfl
end mU

namespace jz
def p(d:aQ)(n:aq)(i:aF):aX:=bZ (aC (bw (ar d i 0))) (aC n)
theorem ok(d:aQ)(n:aq)(hl:d.length<=4294967296):c d n=ai/\v d n=Lib.fi (p d n) d.length 0:=by
 refine out d n ?_;unfold vo b;refine mW (p d n) d.length (λm (i:aF)=>l2 Lib.cW (λ(_:aq) (y5 _:aw) (_:aQ)=>ah y5) (λ(_:aq) (_ _:aw) (_:aQ)=>ah (-1)) m n 0 (i:aw) d) ah (λm i hi hp=> ?_) (λm i hi hp=> ?_) (λm=> ?_) Lib.cW (cJ (by omega))
 ·unfold p at hp;simp only[l2,r2,Lib.dn,Lib.cF,Lib.dY,hi,aN,aM,au,hp]
 ·unfold p at hp;simp only[l2,r2,Lib.dn,Lib.cF,Lib.dY,hi,aN,aM,au,hp,ax,Lib.c5 hi (by omega:d.length<=9223372036854775807)]
 ·simp only[l2,r2,Lib.dn,bm,bj,ax]
end jz

namespace vZ
def val(d:aQ)(n:aq):aq×aX:=if Lib.fi (jz.p d n) d.length 0<0 then(⟨#[]⟩,ak)else(bw (ar d (Lib.fi (jz.p d n) d.length 0).toNat 1),ai)
theorem Ea(d:aQ)(n:aq)(h:¬Lib.fi (jz.p d n) d.length 0<0):0<=Lib.fi (jz.p d n) d.length 0/\Lib.fi (jz.p d n) d.length 0<(d.length:aw):=by
 rcases Lib.pr (jz.p d n) d.length 0 with ⟨h1,_⟩|⟨k,h1,h2,h3,_,_⟩
 ·rw[h1]at h;omega
 ·rw[h3];omega
theorem ok(d:aQ)(n:aq)(hl:d.length<=4294967296):c d n=ai/\v d n=val d n:=by
 refine out d n ?_;have h:=jz.ok d n hl;unfold vo b val;rw[h.1,h.2,au];by_cases hn:Lib.fi (jz.p d n) d.length 0<0
 ·rw[aE hn,bz hn];rfl
 ·have hr:=Ea d n hn;rw[aK hn,bH hn,ax,aE hr.1,aE hr.2];rfl
end vZ

namespace ik
theorem ok(r:aQ)(hl:r.length<=4294967296):c r=ai/\v r=gE.val r:=by
 refine out r ?_;unfold vo b gE.val;have gh:∀a b c,lz.v a b c=kl.v a b c:=λ_ _ _=>rfl
 have key:=iC (gE.el r) r.length (λm (i:aF)=>l2 Lib.cW (λ(y5:aX) (_:aQ) (_ _:aw) (_:aQ)=>ah y5) (λ(_:aX) (_:aQ) (_ _:aw) (Oz:aQ)=>ah (decide ((Oz.length:aw)<=30))) m ak r (r.length:aw) (i:aw) r) (ah ak) (ah (decide ((r.length:aw)<=30)))
  (λm i hi hp=>by
   unfold gE.el at hp;simp only[aL]at hp;obtain⟨h1,h2,h3,h4⟩:=hp;have h3:decide (0<=bF (ar r i (1+1))/\bF (ar r i (1+1))<=((bw (ar r i 1)).size:aw))=true:=h3;have h2:decide (((bw (ar r i 1)).size:aw)>20000)=false:=by simpa using h2
   by_cases hz:0<i
   ·have e0:decide ((i:aw)>0)=true:=aE (by omega);have mJ:i-1<r.length:=by omega
    have h5:b7 (aC (bw (ar r (i-1) 0))) (aC (bw (ar r i 0)))=true:=by
     rcases dM _ _▸h4 with q|q
     ·have:i=0:=by simpa using q
      omega
     ·exact q
    simp only[l2,r2,Lib.dn,hi,mJ,aN,Lib.cF,aM,au,ax,Lib.dY,gh,gE.mZ,h1,h2,h3,h5,e0,gE.Di hz (by omega),a_,Lib.c5 hi (by omega:r.length<=9223372036854775807)]
   ·have e0:decide ((i:aw)>0)=false:=aK (by omega);simp only[l2,r2,Lib.dn,hi,aN,Lib.cF,aM,au,ax,Lib.dY,gh,gE.mZ,h1,h2,h3,e0,a_,Lib.c5 hi (by omega:r.length<=9223372036854775807)])
  (λm i hi hp=>by
   unfold gE.el at hp;cases h1:decide (1<=((bw (ar r i 0)).size:aw)/\((bw (ar r i 0)).size:aw)<=8)with
   |false=>simp only[l2,r2,Lib.dn,hi,aN,Lib.cF,aM,au,ax,Lib.dY,gh,gE.mZ,h1,bR]
   |true=>
   cases h2:decide (((bw (ar r i 1)).size:aw)>20000)with
   |true=>simp only[l2,r2,Lib.dn,hi,aN,Lib.cF,aM,au,ax,Lib.dY,gh,gE.mZ,h1,h2,a_]
   |false=>
   cases h3:decide (0<=bF (ar r i (1+1))/\bF (ar r i (1+1))<=((bw (ar r i 1)).size:aw))with
   |false=>simp only[l2,r2,Lib.dn,hi,aN,Lib.cF,aM,au,ax,Lib.dY,gh,gE.mZ,h1,h2,h3,a_,bR]
   |true=>
   rw[h1,h2,show decide (0<=bF (ar r i 2)/\bF (ar r i 2)<=((bw (ar r i 1)).size:aw))=ai from h3,bR,bc,bc,bc]at hp;rw[iJ]at hp;obtain⟨h4,h5⟩:=hp;have hz:0<i:=by
    have:¬i=0:=by simpa using h4
    omega
   have e0:decide ((i:aw)>0)=true:=aE (by omega);have mJ:i-1<r.length:=by omega
   simp only[l2,r2,Lib.dn,hi,mJ,aN,Lib.cF,aM,au,ax,Lib.dY,gh,gE.mZ,h1,h2,h3,h5,e0,gE.Di hz (by omega),a_,bR])
  (λm=>by simp only[l2,r2,Lib.dn,bm,bj,ax]) Lib.cW (cJ (by omega))
 refine key.trans ?_;rw[show decide ((r.length:aw)<=30)=decide (r.length<=30)from by rw[ch];omega];cases (b9 r.length).all (gE.el r)<;>cases decide (r.length<=30)<;>rfl
end ik

namespace sj
theorem ok(d:aQ)(n:aq)(hl:d.length<=4294967296):c d n=ai/\v d n=Lib.fi (jz.p d n) d.length 0:=by
 refine out d n ?_;unfold vo b;refine mW (jz.p d n) d.length (λm (i:aF)=>l2 Lib.cW (λ(_:aQ) (_:aq) (y7 _ _:aw)=>ah y7) (λ(_:aQ) (_:aq) (_ _ _:aw)=>ah (-1)) m d n 0 (d.length:aw) (i:aw)) ah (λm i hi hp=> ?_) (λm i hi hp=> ?_) (λm=> ?_) Lib.cW (cJ (by omega))
 ·unfold jz.p at hp;simp only[l2,r2,Lib.dn,Lib.cF,Lib.dY,hi,aN,aM,au,Ku.v,hp]
 ·unfold jz.p at hp;simp only[l2,r2,Lib.dn,Lib.cF,Lib.dY,hi,aN,aM,au,Ku.v,hp,ax,Lib.c5 hi (by omega:d.length<=9223372036854775807)]
 ·simp only[l2,r2,Lib.dn,bm,bj,ax]
end sj

namespace eE
theorem ok(d:aQ)(n:aq)(hl:d.length<=4294967296):c d n=ai/\v d n=Lib.fi (jz.p d n) d.length 0:=by have h:=sj.ok d n hl;exact out d n (by unfold vo b;rw[h.1,h.2,au])
end eE

namespace td
theorem ok(d:aQ)(h:d.length<=1000000000):c d=ai/\v d=d:=by refine out d ?_;unfold vo b;rw[Lib.rR,Lib.cj (by omega) (by omega)];rfl
end td

namespace iY
open Lib (rd Fi)
open dJ (without)
theorem ok(l:aA Fi)(n:aq)(hl:l.length<=1000000):c (rd l) n=ai/\v (rd l) n=rd (without l n):=by have h1:=td.ok (rd l) (by rw[eB];omega);have h2:=wU.ok (rd l) n (dJ.aiD l) (by rw[eB];omega);exact out _ _ (by unfold vo b;rw[h1.1,h1.2,h2.1,h2.2,dJ.amr];rfl)
end iY

namespace gM
open Lib (rd Fi)
open dJ (without put Wj)
def nw(n t:aq)(k:aw):aA CV:=[CV.s n,CV.s t,CV.i ao k]
def pn(n:aq)(y:aA CV):aX:=b7 (aC (bw (y.getD 0 (.b ak)))) (aC n)
theorem ok(l:aA Fi)(n t:aq)(k:aw)(hs:Wj l)(hl:l.length<=1000000):c (rd l) n t k=ai/\v (rd l) n t k=rd (put l ⟨n,t,k⟩):=by
 refine out _ _ _ _ ?_;have hd:=iY.ok l n hl;unfold vo b;rw[hd.1,hd.2,au];have E5:=dJ.Mb l n;have e1:(without l n).filter (λx=>fZ.fA x.n n)=l.filter λx=>fZ.fA x.n n:=by
  unfold without;rw[pJ];apply kT;intro y _;by_cases h:y.n=n
  ·rw[h,dJ.irrefl];rfl
  ·rw[aK h];simp
 have e2:(without l n).filter (λx=> !fZ.fA x.n n)=l.filter λx=> !(fZ.fA x.n n||decide (x.n=n)):=by unfold without;rw[pJ];apply kT;intro y _;cases fZ.fA y.n n<;>cases decide (y.n=n)<;>rfl
 have htw:=Lib.zT (λx:Fi=>fZ.fA x.n n) (λx=> !fZ.fA x.n n) (without l n) (λ_ _=>rfl) ((dJ.ad8 hs n).imp λ{y z} hyz hz=>lM.ph _ _ _ hyz hz);rw[e1,e2]at htw;generalize without l n=o at E5 htw
 have:=tY (pn n) (rd o) (λm (i:aF)=>l3 Lib.cW (λ(y5:aw) (y6 y7:aq) (y8:aw) (y9:aQ)=>bif(decide (0<=y5)&&decide (y5<=(↑(bT y9):aw))&&cy (bT y9+bT (aD (aP [Ck.s,Ck.s,Ck.i ao] 1) 0 [CV.s y6,CV.s y7,CV.i ao y8])) 40)then(ah (Pu.tI y9 (aW y5) (aD (aP [Ck.s,Ck.s,Ck.i ao] 1) 0 [CV.s y6,CV.s y7,CV.i ao y8])))else(aj)) m (i:aw) n t k (rd o))
  (λa=>bif decide ((a:aw)<=((rd o).length:aw))then ah (Pu.tI (rd o) a [nw n t k])else aj)
  (λm i h hp=>by
   have mJ:b7 (aC (bw (ar (rd o) i 0))) (aC n)=true:=by rw[Lib.cL h];exact hp
   simp only[l3,r3,Lib.dn,h,aN,Lib.cF,aM,au,Lib.dY,mJ,Lib.c5 h (by rw[eB];omega:(rd o).length<=9223372036854775807)])
  (λm i h hp=>by
   have mJ:b7 (aC (bw (ar (rd o) i 0))) (aC n)=false:=by rw[Lib.cL h];exact hp
   simp only[l3,r3,Lib.dn,h,aN,Lib.cF,aM,bc,js,au,ax,Lib.dY,mJ,Lib.iM,bA,Lib.cj (n:=(rd o).length+1) (b:=40) (by rw[eB];omega) (by rw[eB];omega)];rfl)
  (λm=>by simp only[l3,r3,Lib.dn,bm,bj,aN,Lib.cF,aM,bc,js,au,ax,Lib.dY,Lib.iM,bA,Lib.cj (n:=(rd o).length+1) (b:=40) (by rw[eB];omega) (by rw[eB];omega)];rfl) Lib.cW (cJ (by rw[eB];omega))
 refine this.trans ?_;have hle:=Fv (pn n) (rd o);rw[aE (by omega),au];unfold Pu.tI;rw[yv,w7];have e3:pn n∘Fi.row=λx:Fi=>fZ.fA x.n n:=rfl;unfold Lib.rd;rw[OM,OK,e3,htw.1,htw.2];unfold put;rw[dj,dj];rfl
end gM

namespace rI
open Lib (rd el Fi)
open dJ (without put Wj sN act Hk j4)
def res(o:az (aA Fi)):aQ×aX:=match o with|some d=>(rd d,ai)|none=>([],ak)
theorem find(l:aA Fi)(n:aq):(Lib.fi (jz.p (rd l) n) l.length 0= -1/\l.find? (λx=>decide (x.n=n))=aj)\/∃i,i<l.length/\Lib.fi (jz.p (rd l) n) l.length 0=(i:aw)/\l.find? (λx=>decide (x.n=n))=ah (el l i):=by
 have hq:∀i (hi:i<l.length),jz.p (rd l) n i=decide (l[i].n=n):=λi hi=>by unfold jz.p;rw[JI hi];exact Lib.fu
 rcases Lib.pr (jz.p (rd l) n) l.length 0 with ⟨e,ha⟩|⟨k,_,hk,e,hp,hb⟩
 ·refine .inl ⟨e,W4.2 λx hx=> ?_⟩;obtain⟨i,hi,rfl⟩:=c7 hx;rw[<-hq i hi,ha i (by omega) (by omega)];simp
 ·have vt:k<l.length:=by omega
  refine .inr ⟨k,vt,e, ?_⟩;rw[AD];exact⟨by rw[eN vt,<-hq k vt];exact hp,k,vt,(eN vt).symm,λj hj=>by rw[<-hq j (by omega),hb j (by omega) hj];rfl⟩
theorem Zm(d:aA Fi)(h:d.length<=1000000):ik.c (rd d)=ai/\ik.v (rd d)=sN d:=ik.ok (rd d) (by rw[eB];omega)
theorem R8(k:aw)(n t o:aq):Kv.v k n t o=dJ.kg k t o:=by
 unfold Kv.v dJ.kg lz.v;rw[Lib.fu,Lib.fu];by_cases h1:1<=k
 ·by_cases h2:k<=4
  ·rw[aE h1,aE h2,aE (⟨h1,h2⟩:1<=k/\k<=4)];cases decide (t=⟨#[]⟩)<;>cases decide (o=⟨#[]⟩)<;>cases decide (k=1)<;>cases decide (k=3)<;>rfl
  ·rw[aE h1,aK h2,aK (show¬(1<=k/\k<=4)by omega)];rfl
 ·rw[aK h1,aK (show¬(1<=k/\k<=4)by omega)];rfl
theorem ok(l:aA Fi)(k:aw)(n t o:aq)(hl:l.length<=1000)(ht:t.size<=2305843009213693952):c (rd l) k n t o=ai/\v (rd l) k n t o=res (act l k n t o):=by
 refine out _ _ _ _ _ ?_;unfold vo b;have h1:=eE.ok (rd l) n (by rw[eB];omega);have h2:=Zm l (by omega);rw[h1.1,h1.2,h2.1,h2.2,R8,au,au,eB];unfold act;cases hk:sN l with
 |false=>rfl
 |true=>
 rw[a_,ax,bc];obtain⟨q1,q2,q3⟩:=j4.1 hk;cases ha:dJ.kg k t o with
 |false=>rfl
 |true=>
 rw[a_,ax,au];have hk4:1<=k/\k<=4:=by unfold dJ.kg at ha;rw[aL]at ha;exact cu ha.1
 have wp:=λ(m:aA Fi) (hm:Wj m) (hml:m.length<=1000) (n t:aq) (k:aw)=>gM.ok m n t k hm (by omega);have wo:=iY.ok l n (by omega);have wol:=dJ.Mb l n;have pl:=λ(m:aA Fi) (f:Fi) (hm:m.length<=1000)=>Zm (put m f) (di (dJ.rY f) (by omega));have fin:∀d:aA Fi,(bif !sN d then ah (([]:aQ),ak)else ah (rd d,ai))=ah (res (bif sN d then ah d else aj)):=λd=>by cases sN d<;>rfl
 unfold Hk;rcases find l n with ⟨e1,e2⟩|⟨i,hi,e1,e2⟩
 ·rw[e1,e2];by_cases k1:k=1
  ·subst k1;have p:=wp l q3 hl n (⟨#[]⟩++t) 0;have d:=pl l ⟨n,⟨#[]⟩++t,0⟩ hl;have et:(⟨#[]⟩:aq)++t=t:=lO;rw[show decide ((-1:aw)<0)=ai from rfl,show decide ((-1:aw)≥0)=ak from rfl,show((1:aw) !=1)=ak from rfl,au,ax,ax,aE (show(1:aw)=1 from rfl),au,aE (show(⟨#[]⟩:aq).size+t.size<=4611686018427387904 from by rw[show(⟨#[]⟩:aq).size=0 from rfl];omega),au,p.1,p.2,au,d.1,d.2,au,fin,et];rfl
  ·rw[show decide ((-1:aw)<0)=ai from rfl,au,show(k !=1)=ai from bne_iff_ne.2 k1,au,bH k1];rfl
 ·have hf:(el l i).n=n:=by have:=vl e2;exact cu this
  have xG:((el l i).t.size:aw)<=20000:=by have:=q2 _ (kq hi);unfold dJ.nJ at this;simp only[aL,bf,dt,fw]at this;omega
  rw[e1,e2,aK (show¬((i:aF):aw)<0 by omega),aE (show((i:aF):aw)≥0 by omega),ax,au];simp only[Lib.dn,hi,aN,Lib.dY,wd0 hi,wd1 hi,wd2 hi,bw,bF,aM,bc,au];by_cases k1:k=1
  ·subst k1;have p:=wp l q3 hl (el l i).n ((el l i).t++t) (el l i).kp;have d:=pl l ⟨(el l i).n,(el l i).t++t,(el l i).kp⟩ hl;rw[aE (show(1:aw)=1 from rfl),au,aE (show(el l i).t.size+t.size<=4611686018427387904 by omega),au,p.1,p.2,au,d.1,d.2,au,fin];rfl
  rw[aK k1,ax,bH k1];by_cases k2:k=2
  ·subst k2;have p:=wp l q3 hl (el l i).n (el l i).t ((el l i).t.size:aw);have d:=pl l ⟨(el l i).n,(el l i).t,((el l i).t.size:aw)⟩ hl;rw[aE (show(2:aw)=2 from rfl),au,p.1,p.2,au,d.1,d.2,au,fin];rfl
  rw[aK k2,ax,bH k2];by_cases k3:k=3
  ·subst k3;rw[aE (show(3:aw)=3 from rfl),au,bz rfl];by_cases b1:(el l i).kp=((el l i).t.size:aw)
   ·rw[show((el l i).kp !=((el l i).t.size:aw))=ak from by simp[b1],ax,Lib.fu];by_cases b2:o=n
    ·rw[aE b2,au,bz (.inr b2)];rfl
    ·have p:=wp (without l n) (dJ.ad8 q3 n) (by omega) o (el l i).t (el l i).kp;have d:=pl (without l n) ⟨o,(el l i).t,(el l i).kp⟩ (by omega);rw[aK b2,ax,wo.1,wo.2,au,p.1,p.2,au,d.1,d.2,au,fin,bH (by rintro (h|h);exact h b1;exact b2 h)]
   ·rw[show((el l i).kp !=((el l i).t.size:aw))=ai from bne_iff_ne.2 b1,au,bz (.inl b1)];rfl
  rw[aK k3,ax,bH k3];have d:=Zm (without l n) (by omega);rw[wo.1,wo.2,au,d.1,d.2,au,fin]
end rI

namespace wP
theorem ok(l:aQ)(hl:l.length<=4294967296):c l=ai/\v l=l:=by refine out l ?_;unfold vo b;rw[show bT (aP [Ck.s,Ck.i ao,Ck.i ao,Ck.s] 0)+l.length=l.length by simp[aP],Lib.cj (by omega) (by omega)];rfl
end wP

namespace pM
theorem ok(l:aQ)(k:aq)(hc:l.all pc.cn=ai)(hl:l.length<=4294967296):c l k=ai/\v l k=l.filter (pc.keep k):=by have h1:=wP.ok l hl;have h2:=pc.ok l k hc hl;exact out l k (by unfold vo b;rw[h1.1,h1.2,h2.1,h2.2,au,au])
end pM

namespace uY
theorem zT(p q:aA CV->aX):∀r:aQ,(∀y∈r,q y= !p y)->r.Pairwise (λy z=>p z=ai->p y=ai)->r.takeWhile p=r.filter p/\r.dropWhile p=r.filter q
 |[],_,_=>⟨rfl,rfl⟩
 |y::r,hq,h=>by
  rw[qD]at h;have hy:=hq y (by simp);cases hp:p y with
  |true=>rw[hp]at hy;obtain⟨i1,i2⟩:=zT p q r (λz hz=>hq z (by simp[hz])) h.2;rw[qi hp,dD hp,List.dropWhile_cons_of_pos hp,cD (by rw[hy];simp),i1,i2];exact⟨rfl,rfl⟩
  |false=>
   rw[hp]at hy;have hn:¬p y=true:=by rw[hp];simp
   have ha:∀z∈r,p z=false:=λz hz=>by
    cases D6:p z with
    |false=>rfl
    |true=>exact cK (h.1 z hz D6) hn
   rw[qh hn,cD hn,List.dropWhile_cons_of_neg hn,dD (by rw[hy];rfl)];refine⟨?_, ?_⟩
   ·symm;rw[List.filter_eq_nil_iff];intro z hz;rw[ha z hz];simp
   ·congr 1;symm;rw[eK];intro z hz;rw[hq z (by simp[hz]),ha z hz];rfl
theorem aeP{r:aQ}(h:∀y∈r,lM.cr y=y):r.all pc.cn=true:=by rw[bu];intro y hy;rw[<-h y hy];rfl
theorem ok(r:aQ)(k:aq)(s l:aw)(b0:aq)(hO:lM.Or r)(hl:r.length<=1048576):c r k s l b0=ai/\v r k s l b0=lM.val r k s l b0:=by
 refine out r k s l b0 ?_;have hd:=pM.ok r k (aeP hO.2) (by omega);unfold vo b;rw[hd.1,au,hd.2];have Po:(r.filter (pc.keep k)).length<=r.length:=eC _ _;have hke:∀y,pc.keep k y= !List.beq (lM.key y) (aC k):=λ_=>rfl;have htw:=zT (lM.pl k) (lM.pg k) (r.filter (pc.keep k)) (λy hy=>by
  have h2:=(c_.1 hy).2;rw[hke]at h2;have h3:bZ (lM.key y) (aC k)=false:=by simpa using h2
  unfold lM.pg lM.pl;rw[h3,Bool.or_false]) ((hO.1.sublist jQ).imp (λ{y z} hyz hz=>lM.ph _ _ _ hyz hz))
 have e1:(r.filter (pc.keep k)).filter (lM.pl k)=r.filter (lM.pl k):=by
  rw[pJ];apply kT;intro y _;cases h:lM.pl k y with
  |false=>rfl
  |true=>
   rw[hke,bc];cases h2:bZ (lM.key y) (aC k)with
   |false=>rfl
   |true=>exfalso;have h3:=Lib.beq_iff.1 h2;unfold lM.pl at h;rw[h3,lM.oV]at h;cases h
 have e2:(r.filter (pc.keep k)).filter (lM.pg k)=r.filter (lM.pg k):=by rw[pJ];apply kT;intro y _;rw[hke];unfold lM.pg;cases bZ (lM.key y) (aC k)<;>cases b7 (lM.key y) (aC k)<;>rfl
 generalize r.filter (pc.keep k)=o at Po htw e1 e2
 have:=tY (lM.pl k) o (λm (i:aF)=>l3 Lib.cW (λ(y6:aw) (y7:aq) (y8 y9:aw) (Kc:aq) (wx:aQ)=>bif(decide (0<=y6)&&decide (y6<=(↑(bT wx):aw))&&cy (bT wx+bT (aD (aP [Ck.s,Ck.i ao,Ck.i ao,Ck.s] 1) 0 [CV.s y7,CV.i ao y8,CV.i ao y9,CV.s Kc])) 48)then(ah (Pu.tI wx (aW y6) (aD (aP [Ck.s,Ck.i ao,Ck.i ao,Ck.s] 1) 0 [CV.s y7,CV.i ao y8,CV.i ao y9,CV.s Kc])))else(aj)) m (i:aw) k s l b0 o)
  (λa=>bif decide ((a:aw)<=(o.length:aw))then ah (Pu.tI o a [lM.nw k s l b0])else aj)
  (λm i h hp=>by
   have mJ:b7 (aC (bw (ar o i 0))) (aC k)=true:=by rw[Lib.cL h];exact hp
   simp only[l3,r3,Lib.dn,h,aN,Lib.cF,aM,au,Lib.dY,mJ,Lib.c5 h (by omega:o.length<=9223372036854775807)])
  (λm i h hp=>by
   have mJ:b7 (aC (bw (ar o i 0))) (aC k)=false:=by rw[Lib.cL h];exact hp
   simp only[l3,r3,Lib.dn,h,aN,Lib.cF,aM,bc,js,au,ax,Lib.dY,mJ,Lib.iM,bA,Lib.cj (n:=o.length+1) (b:=48) (by omega) (by omega)];rfl)
  (λm=>by simp only[l3,r3,Lib.dn,bm,bj,aN,Lib.cF,aM,bc,js,au,ax,Lib.dY,Lib.iM,bA,Lib.cj (n:=o.length+1) (b:=48) (by omega) (by omega)];rfl) Lib.cW (cJ (by omega))
 refine this.trans ?_;have hle:=Fv (lM.pl k) o;rw[aE (by omega),au];unfold Pu.tI lM.val;rw[yv,w7,htw.1,htw.2,e1,e2,lM.Hh hO.2,lM.Hh hO.2]
end uY

namespace uX
theorem ok(d:aQ)(n:aq)(hl:d.length<=4294967296):c d n=ai/\v d n=vZ.val d n:=by
 refine out d n ?_;have h:=eE.ok d n hl;unfold vo b vZ.val;rw[h.1,h.2,au];by_cases hn:Lib.fi (jz.p d n) d.length 0<0
 ·rw[aE hn,bz hn];rfl
 ·have hr:=vZ.Ea d n hn;rw[aK hn,bH hn,ax,aE hr.1,aE hr.2];rfl
end uX

namespace yF
def nm:aq:={data:= #[ay 107,ay 101,ay 112,ay 116]}
theorem both(rec:aQ)(hr:rec.length<=20000):∀(d i:aF) (o:aQ) (n m:aF),rec.length-i<=d->i<=rec.length->lM.Or o->o.length<=i->d<n->d<m->
  ∃L:aQ,U61.l7 Lib.cW (λ(_ _:aw) (y6:aQ) (_:aQ)=>ah y6) n (rec.length:aw) (i:aw) o rec=ah L/\l7 Lib.cW (λ(_:aw) (y4 _:aQ)=>ah y4) m (i:aw) o rec=ah L/\lM.Or L/\L.length<=20000:=by
 have e1:∀t,vQ.v t=rJ.v t:=λ_=>rfl;intro d;induction d with
 |zero=>
  intro i o n m h1 h2 hO h3 h4 h5;obtain⟨n,rfl⟩:∃n',n=n'+1:=⟨n-1,by omega⟩
  obtain⟨m,rfl⟩:∃m',m=m'+1:=⟨m-1,by omega⟩
  have jB:decide ((i:aw)<(rec.length:aw))=false:=aK (by omega);exact⟨o,by simp only[U61.l7,U61.r7,jB,ax],by simp only[l7,r7,jB,ax],hO,by omega⟩
 |succ d ih=>
  intro i o n m h1 h2 hO h3 h4 h5;obtain⟨n,rfl⟩:∃n',n=n'+1:=⟨n-1,by omega⟩
  obtain⟨m,rfl⟩:∃m',m=m'+1:=⟨m-1,by omega⟩
  by_cases hi:i<rec.length
  ·have hw:bJ ((i:aw)+1)=((i+1:aF):aw):=dg (by omega) (by omega);cases cg:(rJ.v (bw (ar rec i 0))).2.2.2.2 with
   |false=>
    obtain⟨L,g1,g2,g3,g4⟩:=ih (i+1) o n m (by omega) hi hO (by omega) (by omega) (by omega);refine⟨L, ?_, ?_,g3,g4⟩
    ·simp only[U61.l7,U61.r7,Lib.dn,hi,aN,Lib.cF,aM,au,Lib.dY,e1,cg,ax,hw];exact g1
    ·simp only[l7,r7,Lib.dn,hi,aN,Lib.cF,aM,au,Lib.dY,cg,ax,hw];exact g2
   |true=>
    have p1:=lM.ok o (rJ.v (bw (ar rec i 0))).1 (rJ.v (bw (ar rec i 0))).2.1 (rJ.v (bw (ar rec i 0))).2.2.1 (rJ.v (bw (ar rec i 0))).2.2.2.1 (by omega);have p2:=uY.ok o (rJ.v (bw (ar rec i 0))).1 (rJ.v (bw (ar rec i 0))).2.1 (rJ.v (bw (ar rec i 0))).2.2.1 (rJ.v (bw (ar rec i 0))).2.2.2.1 hO (by omega);have p3:=lM.xL hO (rJ.v (bw (ar rec i 0))).1 (rJ.v (bw (ar rec i 0))).2.1 (rJ.v (bw (ar rec i 0))).2.2.1 (rJ.v (bw (ar rec i 0))).2.2.2.1;obtain⟨L,g1,g2,g3,g4⟩:=ih (i+1) _ n m (by omega) hi p3.1 (by omega) (by omega) (by omega);refine⟨L, ?_, ?_,g3,g4⟩
    ·simp only[U61.l7,U61.r7,Lib.dn,hi,aN,Lib.cF,aM,au,Lib.dY,e1,cg,p2.1,p2.2,hw];exact g1
    ·simp only[l7,r7,Lib.dn,hi,aN,Lib.cF,aM,au,Lib.dY,cg,p1.1,p1.2,hw];exact g2
  ·have jB:decide ((i:aw)<(rec.length:aw))=false:=aK (by omega);exact⟨o,by simp only[U61.l7,U61.r7,jB,ax],by simp only[l7,r7,jB,ax],hO,by omega⟩
theorem same(d:aQ)(hd:d.length<=1048576):∃L:aQ,(c d=ai/\v d=L)/\(U61.c d=ai/\U61.v d=L)/\(∀y∈L,y.length=4)/\L.length<=20000:=by
 have k1:=gE.ok d (by omega);have k2:=ik.ok d (by omega);cases hv:gE.val d with
 |false=>
  refine⟨[],out d ?_,U61.out d ?_,λy hy=>(by cases hy),bI _⟩
  ·unfold vo b;rw[k1.1,k1.2,hv];rfl
  ·unfold U61.vo U61.b;rw[k2.1,k2.2,hv];rfl
 |true=>
  have k3:=vZ.ok d nm (by omega);have k4:=uX.ok d nm (by omega);obtain⟨R,u1,u2,u3⟩:=HQ.same (vZ.val d nm).1;obtain⟨L,g1,g2,g3,g4⟩:=both R.1 u3 R.1.length 0 [] Lib.cW Lib.cW (by omega) (bI _) ⟨gd,λy hy=>(by cases hy)⟩ (bI _) (cJ (by omega)) (cJ (by omega));refine⟨L,out d ?_,U61.out d ?_,λy hy=>(by rw[<-g3.2 y hy];rfl),g4⟩
  ·unfold nm at k3 u1;unfold vo b;rw[k1.1,k1.2,hv,au,a_,ax,k3.1,au,k3.2,u1.1,au,u1.2];exact g2
  ·unfold nm at k4 u2;unfold U61.vo U61.b;rw[k2.1,k2.2,hv,au,a_,ax,k4.1,au,k4.2,u2.1,au,u2.2];exact g1
end yF

namespace u9
def kept:aq:={data:= #[ay 107,ay 101,ay 112,ay 116]}
def kh(f:aq):aQ:=[[CV.i ao 1,CV.s kept,CV.s f,CV.s {data:= #[]}],[CV.i ao 2,CV.s kept,CV.s {data:= #[]},CV.s {data:= #[]}]]
def val(k:aq)(s l:aw)(b:aq):aQ×aX:=if nb.v k s l b=ai then(kh (fK.fr (jL.sR k s l b)),ai)else([],ak)
theorem ok(k:aq)(s l:aw)(b0:aq):c k s l b0=ai/\v k s l b0=val k s l b0:=by
 refine out k s l b0 ?_;have hf:=mU.ok k s l b0;unfold vo b val;rw[hf.1,hf.2];unfold mU.val;by_cases h:nb.v k s l b0=ai
 ·rw[bz h,bz h];rfl
 ·rw[bH h,bH h];rfl
end u9

namespace gT
open Lib (rd re rs el Fi En)
open dJ (sN j4 act kh Hk put without ra Ac nJ)
open fZ (So my fA)
open WM (fs Stop)
abbrev qs:aq:={data:= #[ay 107,ay 101,ay 112,ay 116]}
def sR(e:En):aq:=jL.sR e.k e.st e.li e.bo
def ET(e:En):aX:=nb.v e.k e.st e.li e.bo
def HX(e:En):aq:=fK.fr (sR e)
def tx(es:aA En):aq:=fs (es.map sR)
def kp(es:aA En):aA En:=es.foldl my []
theorem He(es:aA En)(e:En):kp (es++[e])=my (kp es) e:=by unfold kp;rw[kU];rfl
theorem ae2(a b:aA aq):fs (a++b)=fs a++fs b:=by
 induction a with
 |nil=>exact lO.symm
 |cons x a ih=>rw[BT];show fK.fr x++fs (a++b)=fK.fr x++fs a++fs b;rw[ih,Dm]
theorem ZV(es:aA En)(e:En):tx (es++[e])=tx es++HX e:=by unfold tx;rw[dj,ae2];show fs (es.map sR)++(fK.fr (sR e)++⟨#[]⟩)=_;rw[show(⟨#[]⟩:aq)=HM from rfl,qz];rfl
theorem ZW{e:En}(h:ET e=ai):1<=(sR e).size/\(sR e).size<=1000:=⟨mU.BF h,mU.t_ h⟩
theorem wq{en:aA En}(h:So en)(e:En):So (my en e):=by have:=(lM.xL (fZ.CO h) e.k e.st e.li e.bo).1.1;rw[fZ.tT]at this;unfold Lib.re at this;rw[jy]at this;exact this
theorem ZM(es:aA En):∀o,So o->So (es.foldl my o):=by
 induction es with
 |nil=>intro o h;exact h
 |cons e es ih=>intro o h;exact ih _ (wq h e)
theorem ajV(es:aA En):So (kp es):=ZM es [] gd
theorem j5{en:aA En}{x e:En}:x∈my en e↔x=e\/(x∈en/\x.k≠e.k):=by
 unfold my;simp only[ba,c_,aZ,dt,iJ,fw];constructor
 ·rintro ((⟨h1,h2⟩|rfl)|⟨h1,h2⟩)
  ·refine .inr ⟨h1,λe2=> ?_⟩;rw[e2]at h2;unfold fA at h2;rw[lM.oV]at h2;cases h2
  ·exact .inl rfl
  ·exact .inr ⟨h1,h2.2⟩
 ·rintro (rfl|⟨h1,h2⟩)
  ·exact .inl (.inr rfl)
  ·cases hl:fA x.k e.k with
   |true=>exact .inl (.inl ⟨h1,rfl⟩)
   |false=>exact .inr ⟨h1,rfl,h2⟩
theorem Lk{es:aA En}{x:En}(h:x∈kp es):x∈es:=by
 have:∀(es o:aA En),x∈es.foldl my o->x∈o\/x∈es:=by
  intro es;induction es with
  |nil=>intro o h;exact .inl h
  |cons e es ih=>
   intro o h;rcases ih _ h with h|h
   ·rcases j5.1 h with rfl|h
    ·exact .inr (by simp)
    ·exact .inl h.1
   ·exact .inr (by simp[h])
 rcases this es [] h with h|h
 ·cases h
 ·exact h
theorem Hd(es:aA En):(kp es).length<=es.length:=by
 have:∀(es o:aA En),So o->(es.foldl my o).length<=o.length+es.length:=by
  intro es;induction es with
  |nil=>intro o h;exact cG _
  |cons e es ih=>intro o h;have:=ih _ (wq h e);have:=fZ.rY o e h;simp only[DD,dc];omega
 have:=this es [] gd;rw[jS,bV]at this;exact this
theorem fileAt(d:aA Fi)(n:aq):vZ.val (rd d) n=match d.find? (λx=>decide (x.n=n))with|some f=>(f.t,ai)|none=>(⟨#[]⟩,ak):=by
 unfold vZ.val;rw[eB];rcases rI.find d n with ⟨e1,e2⟩|⟨i,hi,e1,e2⟩
 ·rw[e1,e2];rfl
 ·rw[e1,e2,bH (by omega),dH,wd1 hi];rfl
theorem avw(es:aA En)(he:∀e∈es,ET e=ai)(hl:es.length<=20000):∀(d i n:aF) (o:aA En),es.length-i<=d->i<=es.length->So o->o.length<=i->d<n->
  U61.l7 Lib.cW (λ(_ _:aw) (y6:aQ) (_:aQ)=>ah y6) n (es.length:aw) (i:aw) (re o) (rs (es.map sR))=ah (re ((es.drop i).foldl my o)):=by
 have e1:∀t,vQ.v t=rJ.v t:=λ_=>rfl;intro d;induction d with
 |zero=>
  intro i n o h1 h2 hO h3 h5;obtain⟨n,rfl⟩:∃n',n=n'+1:=⟨n-1,by omega⟩
  have:i=es.length:=by omega
  subst this;simp only[U61.l7,U61.r7,Lib.dn,bm,bj,ax,dm,W5]
 |succ d ih=>
  intro i n o h1 h2 hO h3 h5;obtain⟨n,rfl⟩:∃n',n=n'+1:=⟨n-1,by omega⟩
  by_cases hi:i<es.length
  ·have sr:i<(es.map sR).length:=by simpa using hi
   have hk:=he _ (bC hi);have hr:rJ.v (sR es[i])=(es[i].k,es[i].st,es[i].li,es[i].bo,ai):=rJ.enc _ _ _ _ hk;have hp:=uY.ok (re o) es[i].k es[i].st es[i].li es[i].bo (fZ.CO hO) (by rw[de];omega);rw[fZ.tT o es[i]]at hp;have hg:(es.map sR)[i]=sR es[i]:=by simp
   simp only[U61.l7,U61.r7,Lib.dn,hi,e6,bU,aN,Lib.cF,aM,au,Lib.dY,WC sr,hg,bw,e1,hr,hp.1,hp.2,Lib.c5 hi (by omega:es.length<=9223372036854775807)];rw[dF hi,DD];exact ih (i+1) n _ (by omega) hi (wq hO _) (by have:=fZ.rY o es[i] hO;omega) (by omega)
  ·have:i=es.length:=by omega
   subst this;simp only[U61.l7,U61.r7,Lib.dn,bm,bj,ax,dm,W5]
theorem fk(d:aA Fi)(es:aA En)(z:aq)(hd:sN d=ai)(hf:(vZ.val (rd d) qs).1=tx es++z)(he:∀e∈es,ET e=ai)(hz:Stop z):
  (U61.c (rd d)=ai/\U61.v (rd d)=re (kp es))/\(yF.c (rd d)=ai/\yF.v (rd d)=re (kp es)):=by
 obtain⟨q1,q2,q3⟩:=j4.1 hd;have hs:(tx es++z).size<=20000:=by
  rw[<-hf,fileAt];cases h:d.find? (λx=>decide (x.n=qs))with
  |none=>exact bI _
  |some f=>have:=q2 f (qC h);unfold nJ at this;simp only[aL,bf,dt,fw]at this;show f.t.size<=20000;omega
 have hl:es.length<=20000:=by
  have:∀es:aA En,es.length<=(tx es).size:=by
   intro es;induction es with
   |nil=>exact cG _
   |cons e es ih=>
    have:(tx (e::es)).size=(HX e).size+(tx es).size:=dK;have h2:4<=(HX e).size:=by unfold HX fK.fr;rw[dK,dK,WM.oX];omega
    rw[this,dc];omega
  have h2:=this es;rw[dK]at hs;omega
 have u:=WM.ok (es.map sR) (λx hx=>by obtain⟨e,h,rfl⟩:=cX.1 hx;have:=ZW (he e h);omega) z hz hs;have k2:=rI.Zm d (by omega);have k4:=uX.ok (rd d) qs (by rw[eB];omega);have h1:=U61.out (rd d) (x:=re (kp es)) (by unfold U61.vo U61.b;rw[k2.1,k2.2,hd,au,a_,ax,k4.1,au,k4.2,hf];have hu:=u.1;rw[show fs (es.map sR)=tx es from rfl]at hu;rw[hu.1,au,hu.2];dsimp only;rw[e6,bU];have:=avw es he hl es.length 0 Lib.cW [] (by omega) (bI _) gd (bI _) (cJ (by omega));rw[fa]at this;exact this);obtain⟨L,s1,s2,_⟩:=yF.same (rd d) (by rw[eB];omega);refine⟨h1,s1.1, ?_⟩
 rw[s1.2,<-s2.2,h1.2]
def base:az aq->aA Fi
 |none=>[]|some t=>[⟨qs,t,t.size⟩]
def bt:az aq->aq|none=>⟨#[]⟩|some t=>t
def sB(f:aq):aA Ac:=[⟨1,qs,f,⟨#[]⟩⟩,⟨2,qs,⟨#[]⟩,⟨#[]⟩⟩]
theorem ok1(f:Fi):sN [f]=nJ f:=by
 cases h:nJ f with
 |true=>exact j4.2 ⟨by simp,λg hg=>by rw[aZ.1 hg];exact h,by unfold dJ.Wj;simp⟩
 |false=>
  cases h2:sN [f]with
  |false=>rfl
  |true=>have:=(j4.1 h2).2.1 f (by simp);rw[h]at this;cases this
theorem ae1(t:aq)(k:aw)(h1:t.size<=20000)(h2:0<=k/\k<=(t.size:aw)):nJ ⟨qs,t,k⟩=true:=by unfold nJ;have:((qs.size:aF):aw)=4:=rfl;rw[this,aE (by omega),aE h2,aK (by dsimp only;omega)];rfl
theorem uv{o:az aq}(h:(bt o).size<=20000):sN (base o)=true:=by
 cases o with
 |none=>exact j4.2 ⟨bI _,⟨λf hf=>(by cases hf),gd⟩⟩
 |some t=>exact(ok1 _).trans (ae1 t _ h ⟨by omega,by omega⟩)
theorem xQ{g f:Fi}(h:g.n=f.n):put [g] f=[f]:=by unfold put;rw[cD (by rw[h,dJ.irrefl];simp),cD (by simp[h])];rfl
theorem aey{o:az aq}{f:aq}(h:(bt o).size+f.size<=20000):act (base o) 1 qs f ⟨#[]⟩=ah [⟨qs,bt o++f,(bt o).size⟩]:=by
 unfold act;rw[uv (by omega),show dJ.kg 1 f ⟨#[]⟩=ai from by unfold dJ.kg;simp,aM,au];have hs:(bt o++f).size<=20000:=by rw[dK];omega
 have hn:Hk (base o) 1 qs f ⟨#[]⟩=ah [⟨qs,bt o++f,(bt o).size⟩]:=by
  cases o with
  |none=>unfold Hk;show(if(1:aw)=1 then ah (put [] ⟨qs,f,0⟩)else aj)=_;rw[bz rfl];show ah [(⟨qs,f,0⟩:Fi)]=ah [⟨qs,(⟨#[]⟩:aq)++f,((⟨#[]⟩:aq).size:aw)⟩];rw[show(⟨#[]⟩:aq)++f=f from lO];rfl
  |some t=>unfold Hk;rw[show(base (ah t)).find? (λx=>decide (x.n=qs))=ah ⟨qs,t,t.size⟩from by unfold base;simp];dsimp only;rw[bz rfl];exact lN ah (xQ rfl)
 rw[hn];dsimp only;rw[ok1,ae1 _ _ hs ⟨by omega,by rw[dK];omega⟩];rfl
theorem Yc{t:aq}{k:aw}(h:t.size<=20000)(hk:0<=k/\k<=(t.size:aw)):act [⟨qs,t,k⟩] 2 qs ⟨#[]⟩ ⟨#[]⟩=ah (base (ah t)):=by
 unfold act;rw[ok1,ae1 _ _ h hk,show dJ.kg 2 ⟨#[]⟩ ⟨#[]⟩=ai from by unfold dJ.kg;simp,aM,au];have hn:Hk [⟨qs,t,k⟩] 2 qs ⟨#[]⟩ ⟨#[]⟩=ah (base (ah t)):=by unfold Hk;rw[show([⟨qs,t,k⟩]:aA Fi).find? (λx=>decide (x.n=qs))=ah ⟨qs,t,k⟩from by simp];dsimp only;rw[bH (by omega),bz rfl];exact lN ah (xQ rfl)
 rw[hn];dsimp only;rw[uv (o:=ah t) h];rfl
theorem Tw{o:az aq}{f:aq}(h:(bt o).size+f.size<=20000):kh (base o) 0 (sB f)=(base (ah (bt o++f)),2):=by have hs:(bt o++f).size=(bt o).size+f.size:=dK;unfold sB kh;dsimp only;rw[aey h];dsimp only;unfold kh;dsimp only;rw[Yc (by omega) ⟨by omega,by omega⟩];rfl
theorem OS(o:az aq):(vZ.val (rd (base o)) qs).1=bt o:=by
 rw[fileAt];cases o with
 |none=>rfl
 |some t=>rw[show(base (ah t)).find? (λx=>decide (x.n=qs))=ah ⟨qs,t,t.size⟩from by unfold base;simp];rfl
def kd(es:aA En):aA Fi:=base (match es with|[]=>aj|_=>ah (tx es))
theorem auN(es:aA En):∃o,kd es=base o/\bt o=tx es:=by
 cases es with
 |nil=>exact⟨aj,rfl,rfl⟩
 |cons e es=>exact⟨ah (tx (e::es)),rfl,rfl⟩
end gT

namespace fm
def has(l:aA aq)(k:aq):aX:=l.any λx=>decide (x=k)
def without(l:aA aq)(k:aq):aA aq:=l.filter λx=> !decide (x=k)
theorem gK{l:aA aq}{k:aq}:has l k=ai↔k∈l:=by unfold has;simp
theorem lL{l:aA aq}{k:aq}:has l k=ak↔k∉l:=by rw[<-gK];cases has l k<;>simp
theorem wv{l:aA aq}{k:aq}(h:has l k=ak):without l k=l:=by unfold without;rw[eK];intro x hx;have:=lL.1 h;simp;intro e;subst e;exact this hx
theorem iw{l:aA aq}{k:aq}:(without l k).length<=l.length:=eC ..
theorem pE{l:aA aq}{k:aq}(h:has l k=ai):(without l k).length<l.length:=by unfold without;refine List.length_filter_lt_length_iff_exists.2 ⟨k,gK.1 h,by simp⟩
theorem ok(l:aA aq)(k:aq)(hl:l.length<=4294967296):c (Lib.rs l) k=ai/\v (Lib.rs l) k=has l k:=by
 refine out _ _ ?_;unfold vo b
 have:=B2 l (λx=>decide (x=k)) (λm (i:aF)=>l2 Lib.cW (λ(_:aQ) (_:aq) (y6:aX) (_:aw)=>ah y6) (λ(_:aQ) (_:aq) (_:aX) (_:aw)=>ah ak) m (Lib.rs l) k ak (i:aw)) (ah ai) (ah ak)
  (λm i h hp=>by simp only[l2,r2,e6,Lib.dn,h,aN,Lib.cF,aM,au,Lib.dY,WC h,bw,Lib.fu,hp])
  (λm i h hp=>by simp only[l2,r2,e6,Lib.dn,h,aN,Lib.cF,aM,au,Lib.dY,WC h,bw,Lib.fu,hp,ax,Lib.c5 h (by omega:l.length<=9223372036854775807)])
  (λm=>by simp only[l2,r2,e6,Lib.dn,bm,bj,ax]) Lib.cW (cJ (by omega))
 refine this.trans ?_;unfold has;cases l.any λx=>decide (x=k)<;>rfl
end fm

namespace vW
theorem ok(l:aQ)(hl:l.length<=4294967296):c l=ai/\v l=l:=by refine out l ?_;unfold vo b;rw[show bT (aP [Ck.i ao] 0)+l.length=l.length by simp[aP],Lib.cj (by omega) (by omega)];rfl
end vW

namespace jm
open Lib (rr)
def oN(s:aA (aA aw)):Prop:=s.length<=1048576/\∀q∈s,q.length<=1048576
theorem run(N:aF)(K0:aQ->aw->aw->aw->aw->az R)(K1:aQ->aw->aw->aw->aw->aQ->az R)(s:aA (aA aw))(z a:aw)(hf:oN s)(m:aF)(hm:s.length+1<m)(kr:aQ->az R)
  (h0:s=[]->K0 (rr s) 0 0 z a=kr []) (h1:K1 (rr s) s.length s.length z a (rr s)=kr (rr s)):l3 N K0 K1 m (rr s) (s.length:aw) 0 z a=kr (rr s):=by
 obtain⟨m,rfl⟩:∃m',m=m'+1:=⟨m-1,by omega⟩
 have hci:∀i (h:i<s.length),vW.c (Lib.ri s[i])=ai/\vW.v (Lib.ri s[i])=Lib.ri s[i]:=λi h=>vW.ok _ (by rw[Lib.gW];have:=hf.2 _ (bC h);omega);by_cases hs:s=[]
 ·subst hs;simp only[l3,r3,jS,Wf,Km,bj,ax];exact h0 rfl
 ·have hp:0<s.length:=MG.2 hs;have key:=mb (R:=R) s.length (λm i (x:aQ)=>sL N K0 K1 m (rr s) (s.length:aw) (i:aw) z a x) (λi=>rr (s.take i)) (kr (rr s)) (λm i h=>by
   have hl:=hf.1;simp only[sL,zM,Lib.dn,h,aN,au,Lib.cF,bc,gX,Lib.dY,J9 h,jx,(hci i h).1,(hci i h).2,pO,bA];rw[Lib.cj (by rw[eD];omega) (by rw[eD];omega),au,Lib.c5 h (by omega)];have:=oY (λq=>[CV.l 3 (Lib.ri q)]) s i h;unfold rr;rw[<-this]) (λm=>by
   simp only[sL,zM,Lib.dn,bm,bj,ax,dE];exact h1) m 1 hp (by omega)
  simp only[l3,r3,aE (show(0:aw)<(s.length:aw)by omega),au,aM,gX,show decide ((0:aw)<=0)=ai from rfl];have e:=hci 0 hp;have e0:=J9 (l:=s) hp;simp only[show aW 0=0 from rfl,e0,jx,e.1,e.2,au,pO,gD];rw[show bJ (0+1)=((1:aF):aw)from rfl];refine Eq.trans ?_ key;have:=oY (λq=>[CV.l 3 (Lib.ri q)]) s 0 hp;unfold rr;rw[show(0+1)=1 from rfl]at this;rw[<-this];rfl
theorem ok(s:aA (aA aw))(a:aw)(hf:oN s):c (rr s) a=ai/\v (rr s) a=(rr s,a):=by refine out _ _ ?_;unfold vo b;rw[gX];exact run Lib.cW (λ_ _ _ _ y=>ah ([],y)) (λ_ _ _ _ wy Kd=>ah (Kd,wy)) s 0 a hf Lib.cW (cJ (by have:=hf.1;omega)) (λx=>ah (x,a)) (λ_=>rfl) rfl
end jm

namespace fG
open Lib (rr)
def NK(n:aw):aX:=decide (0<=n/\n<=15)
def sD(q:aA aw):aX:=decide (q.length=16)&&q.all NK
def oj(s:aA (aA aw))(a:aw):aX:=decide (s.length=3)&&(decide (0<=a/\a<=63)&&s.all sD)
theorem eO(n a b:aw):kl.v n a b=decide (a<=n/\n<=b):=by
 unfold kl.v;by_cases h1:a<=n
 ·rw[aE (show n≥a from h1),au];by_cases h2:n<=b<;>simp[h1,h2]
 ·rw[aK (show¬n≥a from h1),ax];simp[h1]
theorem ok(s:aA (aA aw))(a:aw)(hf:jm.oN s):c (rr s) a=ai/\v (rr s) a=oj s a:=by
 refine out _ _ ?_;unfold vo b oj;rw[gX];by_cases h3:¬s.length=3
 ·rw[show((s.length:aw) !=3)=ai by simp;omega,aK h3];rfl
 have h3:s.length=3:=Decidable.not_not.1 h3;rw[show((s.length:aw) !=3)=ak by simp;omega,aE h3,ax,eO];cases h4:decide (0<=a/\a<=63)with
 |false=>rfl
 |true=>
  rw[a_,ax,bc,bc];have inner:∀i (h:i<s.length) (K0 K1:aX->aw->aw->aQ->aw->az aX) (kf kt:az aX) (h0:∀j:aw,K0 ak i j (rr s) a=kf) (h1:∀j:aw,K1 ak i j (rr s) a=kt),l9 Lib.cW K0 K1 Lib.cW ak (i:aw) 0 (rr s) a=bif(s[i]).all NK then kt else kf:=λi h K0 K1 kf kt h0 h1=>
   pf (s[i]) NK (λm (j:aF)=>l9 Lib.cW K0 K1 m ak (i:aw) (j:aw) (rr s) a) kf kt
    (λm j hj hp=>by have hl:=hf.2 _ (bC h);unfold NK at hp;simp only[l9,r9,gX,Lib.dn,h,aN,Lib.cF,aM,au,Lib.dY,J9 h,jx,Lib.gW,hj,QG hj,bF,eO,hp,a_,ax,Lib.c5 hj (by omega:s[i].length<=9223372036854775807)])
    (λm j hj hp=>by unfold NK at hp;simp only[l9,r9,gX,Lib.dn,h,aN,Lib.cF,aM,au,Lib.dY,J9 h,jx,Lib.gW,hj,QG hj,bF,eO,hp,bR,h0])
    (λm=>by simp only[l9,r9,gX,Lib.dn,h,aN,Lib.cF,aM,au,Lib.dY,J9 h,jx,Lib.gW,bm,bj,ax,h1]) Lib.cW (cJ (by have:=hf.2 _ (bC h);omega))
  have key:=pf s sD (λm (i:aF)=>l4 Lib.cW (λ(Eg:aX) (_:aw) (_:aQ) (_:aw)=>ah Eg) (λ(_:aX) (_:aw) (_:aQ) (_:aw)=>ah ai) m ak (i:aw) (rr s) a) (ah ak) (ah ai)
   (λm i h hp=>by unfold sD at hp;rw[aL]at hp;have hl:=cu hp.1;simp only[l4,r4,gX,Lib.dn,h,aN,Lib.cF,aM,au,Lib.dY,J9 h,jx,Lib.gW,hl,show(((16:aF):aw) !=16)=ak from rfl,ax];rw[inner i h _ _ _ _ (λ_=>rfl) (λ_=>rfl),hp.2,au,Lib.c5 h (by omega)])
   (λm i h hp=>by
    unfold sD at hp;by_cases hl:s[i].length=16
    ·rw[aE hl,bc]at hp;simp only[l4,r4,gX,Lib.dn,h,aN,Lib.cF,aM,au,Lib.dY,J9 h,jx,Lib.gW,hl,show(((16:aF):aw) !=16)=ak from rfl,ax];rw[inner i h _ _ _ _ (λ_=>rfl) (λ_=>rfl),hp,ax]
    ·simp only[l4,r4,gX,Lib.dn,h,aN,Lib.cF,aM,au,Lib.dY,J9 h,jx,Lib.gW,show((s[i].length:aw) !=16)=ai by simp;omega])
   (λm=>by simp only[l4,r4,gX,Lib.dn,bm,bj,ax]) Lib.cW (cJ (by omega))
  refine key.trans ?_;cases s.all sD<;>rfl
end fG

namespace jA
open Lib (rr rs)
open fm (has without gK lL)
def eS(k:aq):aX:=decide (1<=(k.size:aw)/\(k.size:aw)<=30)
def Li(l:aA aq)(i:aF):aX:=eS (l.getD i ⟨#[]⟩)&& !has (l.take i) (l.getD i ⟨#[]⟩)
def nE(l:aA aq):aX:=(b9 l.length).all (Li l)
def sO(w m:aA aq)(s:aA (aA aw))(a:aw):aX:=nE (w++m)&&(decide (w.length<=2)&&(decide (m.length<=4)&&fG.oj s a))
theorem iS(k:aq):s8.v k=eS k:=fG.eO _ _ _
theorem yx(l:aA aq)(i:aF):eA (Lib.rs l) (aW 0) i=Lib.rs (l.take i):=by unfold eA Lib.rs;rw[show aW 0=0 from rfl,fa,si,List.map_take]
theorem ok(w m:aA aq)(s:aA (aA aw))(a:aw)(hw:w.length<=1048576)(hm:m.length<=1048576)(hf:jm.oN s):c (rs w) (rs m) (rr s) a=ai/\v (rs w) (rs m) (rr s) a=sO w m s a:=by
 refine out _ _ _ _ ?_;have h2:=fG.ok s a hf;unfold vo b;have r1:cy (bT (aP [Ck.s] 0)+bT (rs w)) 16=true:=Lib.cj (by simp[aP,e6];omega) (by simp[aP,e6];omega);have r2:cy (bT (aP [Ck.s] 0++rs w)+bT (rs m)) 16=true:=Lib.cj (by simp[aP,e6];omega) (by simp[aP,e6];omega);have e:aP [Ck.s] 0++rs w++rs m=rs (w++m):=by rw[show aP [Ck.s] 0++rs w=rs w from rfl];unfold Lib.rs;rw[dj]
 rw[r1,r2,au,au,e];have hl:(w++m).length<=2097152:=by rw[bP];omega
 have gh:∀i,i<(w++m).length->fm.c (rs ((w++m).take i)) ((w++m).getD i ⟨#[]⟩)=ai/\fm.v (rs ((w++m).take i)) ((w++m).getD i ⟨#[]⟩)=has ((w++m).take i) ((w++m).getD i ⟨#[]⟩):=λi hi=>fm.ok _ _ (by rw[eD];omega);have hk:∀i (hi:i<(w++m).length),bw (ar (rs (w++m)) i 0)=(w++m).getD i ⟨#[]⟩:=λi hi=>by rw[WC hi,show(w++m).getD i ⟨#[]⟩=(w++m)[i]by rw[cT,eW hi];rfl];rfl
 generalize hL:w++m=L at hl gh hk
 have key:=iC (Li L) L.length (λn (i:aF)=>l3 Lib.cW (λ(y7:aX) (_:aw) (_ _ _:aQ) (_:aw) (_:aQ)=>ah y7) (λ(_:aX) (_:aw) (QK Dx FA:aQ) (Eg:aw) (_:aQ)=>bif(decide ((↑(bT QK):aw)<=2))then(bif(decide ((↑(bT Dx):aw)<=4))then(bif(fG.c FA Eg)then(ah (fG.v FA Eg))else(aj))else(ah ak))else(ah ak)) n ak (i:aw) (rs w) (rs m) (rr s) a (rs L)) (ah ak) (ah (decide (w.length<=2)&&(decide (m.length<=4)&&fG.oj s a)))
  (λn i hi hp=>by
   unfold Li at hp;rw[aL,dt]at hp;have b1:g7 0 (i:aw) (L.length:aw)=true:=by simp[g7];omega
   simp only[l3,r3,e6,Lib.dn,hi,aN,Lib.cF,aM,au,Lib.dY,hk i hi,iS,hp.1,a_,ax,b1,yx,(gh i hi).1,(gh i hi).2,hp.2,Lib.c5 hi (by omega:L.length<=9223372036854775807)])
  (λn i hi hp=>by
   have b1:g7 0 (i:aw) (L.length:aw)=true:=by simp[g7];omega
   unfold Li at hp;cases h1:eS (L.getD i ⟨#[]⟩)with
   |false=>simp only[l3,r3,e6,Lib.dn,hi,aN,Lib.cF,aM,au,Lib.dY,hk i hi,iS,h1,bR]
   |true=>rw[h1,bc,nc]at hp;simp only[l3,r3,e6,Lib.dn,hi,aN,Lib.cF,aM,au,Lib.dY,hk i hi,iS,h1,a_,ax,b1,yx,(gh i hi).1,(gh i hi).2,hp])
  (λn=>by simp only[l3,r3,e6,Lib.dn,bm,bj,ax,h2.1,h2.2,au];rw[show decide ((w.length:aw)<=2)=decide (w.length<=2)by rw[ch];omega,show decide ((m.length:aw)<=4)=decide (m.length<=4)by rw[ch];omega];cases decide (w.length<=2)<;>cases decide (m.length<=4)<;>rfl) Lib.cW (cJ (by omega))
 refine key.trans ?_;unfold sO nE;rw[hL];cases (b9 L.length).all (Li L)<;>rfl
end jA

namespace s9
open Lib (rr rs)
open fm (has)
theorem ok(w m:aA aq)(s:aQ)(a:aw)(k:aq)(hw:w.length<=1048576)(hm:m.length<=1048576):c (rs w) (rs m) s a k=ai/\v (rs w) (rs m) s a k=(has w k||has m k):=by have h1:=fm.ok w k (by omega);have h2:=fm.ok m k (by omega);exact out _ _ _ _ _ (by unfold vo b;rw[h1.1,h1.2,h2.1,h2.2,au,au];cases has w k<;>rfl)
end s9

namespace nQ
open Lib (rr rs re el oA qw qx qy En)
open fm (has)
open jA (sO)
def vh(e:En):aX:=nb.v e.k e.st e.li e.bo
def HV(en:aA En)(w m:aA aq)(i:aF):aX:=
 vh (el en i)&&((decide (i=0)||Go.Op.bytesLess (aC (el en (i-1)).k) (aC (el en i).k))&&(has w (el en i).k||has m (el en i).k))
def Nd(en:aA En)(w m:aA aq)(s:aA (aA aw))(a:aw):aX:=(b9 en.length).all (HV en w m)&&(sO w m s a&&decide (w.length+m.length=en.length))
theorem ok(i0:aw)(en:aA En)(w m:aA aq)(s:aA (aA aw))(a:aw)(r6 r7:aQ)(i8:aw)(he:en.length<=1048576)(hw:w.length<=1048576)(hm:m.length<=1048576)(hf:jm.oN s):
  c i0 (re en) (rs w) (rs m) (rr s) a r6 r7 i8=ai/\v i0 (re en) (rs w) (rs m) (rr s) a r6 r7 i8=Nd en w m s a:=by
 refine out _ _ _ _ _ _ _ _ _ ?_;have h1:=jA.ok w m s a hw hm hf;have h2:=λk=>s9.ok w m (rr s) a k hw hm;unfold vo b
 have key:=iC (HV en w m) en.length (λn (i:aF)=>l2 Lib.cW (λ(wx:aX) (_ _:aw) (_ _ _ _:aQ) (_:aw) (_ _:aQ) (_:aw)=>ah wx) (λ(_:aX) (_ _:aw) (QL QM H0 QN:aQ) (QO:aw) (_ _:aQ) (_:aw)=>bif(jA.c QM H0 QN QO)then(bif(jA.v QM H0 QN QO)then(ah (decide ((↑(bT QL):aw)=bJ ((↑(bT QM):aw)+(↑(bT H0):aw)))))else(ah ak))else(aj)) n ak (i:aw) i0 (re en) (rs w) (rs m) (rr s) a r6 r7 i8) (ah ak) (ah (sO w m s a&&decide (w.length+m.length=en.length)))
  (λn i hi hp=>by
   unfold HV vh at hp;rw[aL,aL]at hp;obtain⟨p1,p2,p3⟩:=hp;by_cases hz:i=0
   ·subst hz;simp only[l2,r2,de,Lib.dn,hi,aN,Lib.cF,aM,au,Lib.dY,oA hi,qw hi,qx hi,qy hi,bw,bF,p1,a_,ax,aK (show¬(((0:aF):aw)>0)by omega),(h2 _).1,(h2 _).2,p3,Lib.c5 hi (by omega:en.length<=9223372036854775807)]
   ·rw[aK hz,ou]at p2;have me:i-1<en.length:=by omega
    simp only[l2,r2,de,Lib.dn,hi,aN,Lib.cF,aM,au,Lib.dY,oA hi,qw hi,qx hi,qy hi,bw,bF,p1,a_,ax,aE (show(i:aw)>0 by omega),lY (show 0<i by omega) (by omega),me,oA me,p2,(h2 _).1,(h2 _).2,p3,Lib.c5 hi (by omega:en.length<=9223372036854775807)])
  (λn i hi hp=>by
   unfold HV vh at hp;cases p1:nb.v (el en i).k (el en i).st (el en i).li (el en i).bo with
   |false=>simp only[l2,r2,de,Lib.dn,hi,aN,Lib.cF,aM,au,Lib.dY,oA hi,qw hi,qx hi,qy hi,bw,bF,p1,bR]
   |true=>
    rw[p1,bc]at hp;by_cases hz:i=0
    ·subst hz;rw[aE rfl,Ax,bc]at hp;simp only[l2,r2,de,Lib.dn,hi,aN,Lib.cF,aM,au,Lib.dY,oA hi,qw hi,qx hi,qy hi,bw,bF,p1,a_,bR,ax,aK (show¬(((0:aF):aw)>0)by omega),(h2 _).1,(h2 _).2,hp]
    ·rw[aK hz,ou]at hp;have me:i-1<en.length:=by omega
     cases p2:b7 (aC (el en (i-1)).k) (aC (el en i).k)with
     |false=>simp only[l2,r2,de,Lib.dn,hi,aN,Lib.cF,aM,au,Lib.dY,oA hi,qw hi,qx hi,qy hi,bw,bF,p1,a_,bR,ax,aE (show(i:aw)>0 by omega),lY (show 0<i by omega) (by omega),me,oA me,p2]
     |true=>rw[p2,bc]at hp;simp only[l2,r2,de,Lib.dn,hi,aN,Lib.cF,aM,au,Lib.dY,oA hi,qw hi,qx hi,qy hi,bw,bF,p1,a_,bR,ax,aE (show(i:aw)>0 by omega),lY (show 0<i by omega) (by omega),me,oA me,p2,(h2 _).1,(h2 _).2,hp])
  (λn=>by simp only[l2,r2,de,Lib.dn,bm,bj,ax,h1.1,h1.2,au,e6];rw[dg (x:=(w.length:aw)+(m.length:aw)) (by omega) (by omega),show decide ((en.length:aw)=(w.length:aw)+(m.length:aw))=decide (w.length+m.length=en.length)by rw[ch];omega];cases sO w m s a<;>rfl) Lib.cW (cJ (by omega))
 refine key.trans ?_;unfold Nd;cases (b9 en.length).all (HV en w m)<;>rfl
end nQ

namespace ng
open Lib (rf el Dj Dw Qi zW QI QJ Fe)
open jA (eS)
def nJ(now:aw)(f:Fe):aX:=eS f.k&&(decide ((f.t.size:aw)<=400)&&(decide (1<=f.sta/\f.sta<=3)&&(decide (0<=f.li/\f.li<=999999)&&decide (0<=f.st/\f.st<=now))))
def lD(f g:Fe):aX:=decide (f.sta=1)&&(decide (g.sta=1)&&decide (f.k=g.k))
def apart(fe:aA Fe)(i:aF):aX:=(b9 i).all λj=> !lD (el fe i) (el fe j)
theorem eO(n a b:aw):kl.v n a b=decide (a<=n/\n<=b):=fG.eO n a b
theorem ok(i0:aw)(r1 r2 r3 r4:aQ)(i5:aw)(fe:aA Fe)(r7:aQ)(i8:aw)(i:aF)(hi:i<fe.length)(hf:fe.length<=1048576):
  c i0 r1 r2 r3 r4 i5 (rf fe) r7 i8 (i:aw)=ai/\v i0 r1 r2 r3 r4 i5 (rf fe) r7 i8 (i:aw)=(nJ i0 (el fe i)&&apart fe i):=by
 refine out _ _ _ _ _ _ _ _ _ _ ?_;unfold vo b
 have key:=iC (λj=> !lD (el fe i) (el fe j)) i (λn (j:aF)=>l5 Lib.cW (λ(_:aw) (FA:aX) (_ _:aw) (_ _ _ _:aQ) (_:aw) (_ _:aQ) (_:aw) (_ _:aq) (_ _ _:aw)=>ah FA) (λ(_:aw) (_:aX) (_ _:aw) (_ _ _ _:aQ) (_:aw) (_ _:aQ) (_:aw) (_ _:aq) (_ _ _:aw)=>ah ai) n (i:aw) ak (j:aw) i0 r1 r2 r3 r4 i5 (rf fe) r7 i8 (el fe i).k (el fe i).t (el fe i).sta (el fe i).li (el fe i).st) (ah ak) (ah ai)
  (λn j hj hp=>by
   have j7:j<fe.length:=by omega
   rw[dt]at hp;unfold lD at hp;have e:decide ((el fe j).k=(el fe i).k)=decide ((el fe i).k=(el fe j).k):=by rw[ch];exact IK
   simp only[l5,r5,Lib.dn,hj,aN,Lib.cF,aM,au,Lib.dY,dN,j7,Dj j7,zW j7,bw,bF,Lib.fu,e,Lib.c5 hj (by omega:i<=9223372036854775807)];revert hp;cases decide ((el fe i).k=(el fe j).k)<;>cases decide ((el fe j).sta=1)<;>cases decide ((el fe i).sta=1)<;>intro hp<;>first|rfl|cases hp)
  (λn j hj hp=>by
   have j7:j<fe.length:=by omega
   rw[nc]at hp;unfold lD at hp;rw[aL,aL]at hp;have e:decide ((el fe j).k=(el fe i).k)=decide ((el fe i).k=(el fe j).k):=by rw[ch];exact IK
   simp only[l5,r5,Lib.dn,hj,aN,Lib.cF,aM,au,Lib.dY,dN,j7,Dj j7,zW j7,bw,bF,Lib.fu,e,hp.1,hp.2.1,hp.2.2])
  (λn=>by simp only[l5,r5,Lib.dn,bm,bj,ax]) Lib.cW (cJ (by omega))
 simp only[dN,Lib.dn,hi,aN,Lib.cF,aM,au,Lib.dY,Dj hi,Dw hi,Qi hi,QI hi,QJ hi,bw,bF,eO,jA.iS];rw[show l5 Lib.cW _ _ Lib.cW (i:aw) ak 0 i0 r1 r2 r3 r4 i5 (rf fe) r7 i8 (el fe i).k (el fe i).t (el fe i).sta (el fe i).li (el fe i).st=_ from key];unfold nJ apart;rw[show decide (((el fe i).t.size:aw)>400)= !decide (((el fe i).t.size:aw)<=400)by rw[<-decide_not,ch];omega];cases eS (el fe i).k<;>cases decide (((el fe i).t.size:aw)<=400)<;>cases decide (1<=(el fe i).sta/\(el fe i).sta<=3)<;>cases decide (0<=(el fe i).li/\(el fe i).li<=999999)<;>cases decide (0<=(el fe i).st/\(el fe i).st<=i0)<;>cases (b9 i).all (λj=> !lD (el fe i) (el fe j))<;>rfl
end ng

namespace pe
open Lib (rr rs re rf rc el En Fe Cl Px Kb VV VW VX VY VZ V0)
open jA (eS)
open nQ (Nd)
open ng (nJ apart eO)
def HU(now:aw)(nf:aF)(cl:aA Cl)(i:aF):aX:=
 decide (1<=(el cl i).id/\(el cl i).id<=9)&&((decide (i=0)||decide ((el cl (i-1)).id<(el cl i).id))&&(eS (el cl i).k&&(decide (1<=(el cl i).sta/\(el cl i).sta<=3)&&(decide (0<=(el cl i).fe/\(el cl i).fe<=(nf:aw))&&(decide (((el cl i).mM.size:aw)<=400)&&(decide (0<=(el cl i).fr/\(el cl i).fr<=now)&&decide (0<=(el cl i).age)))))))
def jb(p:Px):aX:=
 decide (1<=p.now/\p.now<=1000000000)&&(Nd p.en p.w p.m p.s p.a&&(decide (p.fe.length<=20)&&(decide (p.cl.length<=6)&&(decide (0<=p.hits/\p.hits<=1000000000)&&((b9 p.fe.length).all (λi=>nJ p.now (el p.fe i)&&apart p.fe i)&&(b9 p.cl.length).all (HU p.now p.fe.length p.cl))))))
theorem step(N:aF)(g k0 k1:aX->aw->aw->aQ->aQ->aQ->aQ->aw->aQ->aQ->aw->az R)(i0:aw)(q1 q2 q3 q4:aQ)(i5:aw)(fe:aA Fe)(cl:aA Cl)(i8:aw)(i:aF)(hi:i<cl.length)(hl:cl.length<=1048576):
  r9 N g k0 k1 ak (i:aw) i0 q1 q2 q3 q4 i5 (rf fe) (rc cl) i8=bif HU i0 fe.length cl i then g ak ((i+1:aF):aw) i0 q1 q2 q3 q4 i5 (rf fe) (rc cl) i8 else k0 ak (i:aw) i0 q1 q2 q3 q4 i5 (rf fe) (rc cl) i8:=by
 unfold HU;have e1:decide (((el cl i).mM.size:aw)>400)= !decide (((el cl i).mM.size:aw)<=400):=by rw[<-decide_not,ch];omega
 have e2:decide ((el cl i).age<0)= !decide (0<=(el cl i).age):=by rw[<-decide_not,ch];omega
 by_cases hz:i=0
 ·subst hz;simp only[r9,fg,dN,Lib.dn,hi,aN,Lib.cF,aM,au,Lib.dY,Kb hi,VV hi,VW hi,VX hi,VY hi,VZ hi,V0 hi,bw,bF,eO,jA.iS,aK (show¬(((0:aF):aw)>0)by omega),ax,e1,e2,Lib.c5 hi (by omega:cl.length<=9223372036854775807),Ax,bc];cases decide (1<=(el cl 0).id/\(el cl 0).id<=9)<;>cases eS (el cl 0).k<;>cases decide (1<=(el cl 0).sta/\(el cl 0).sta<=3)<;>cases decide (0<=(el cl 0).fe/\(el cl 0).fe<=(fe.length:aw))<;>cases decide (((el cl 0).mM.size:aw)<=400)<;>cases decide (0<=(el cl 0).fr/\(el cl 0).fr<=i0)<;>cases decide (0<=(el cl 0).age)<;>rfl
 ·have me:i-1<cl.length:=by omega
  have e3:decide ((el cl (i-1)).id≥(el cl i).id)= !decide ((el cl (i-1)).id<(el cl i).id):=by rw[<-decide_not,ch];omega
  simp only[r9,fg,dN,Lib.dn,hi,aN,Lib.cF,aM,au,Lib.dY,Kb hi,VV hi,VW hi,VX hi,VY hi,VZ hi,V0 hi,bw,bF,eO,jA.iS,aE (show(i:aw)>0 by omega),lY (show 0<i by omega) (by omega),me,Kb me,ax,e1,e2,e3,Lib.c5 hi (by omega:cl.length<=9223372036854775807),aK hz,ou];cases decide (1<=(el cl i).id/\(el cl i).id<=9)<;>cases decide ((el cl (i-1)).id<(el cl i).id)<;>cases eS (el cl i).k<;>cases decide (1<=(el cl i).sta/\(el cl i).sta<=3)<;>cases decide (0<=(el cl i).fe/\(el cl i).fe<=(fe.length:aw))<;>cases decide (((el cl i).mM.size:aw)<=400)<;>cases decide (0<=(el cl i).fr/\(el cl i).fr<=i0)<;>cases decide (0<=(el cl i).age)<;>rfl
theorem ok(p:Px)(hp:p.Fit 1048576):c p.now (re p.en) (rs p.w) (rs p.m) (rr p.s) p.a (rf p.fe) (rc p.cl) p.hits=ai/\v p.now (re p.en) (rs p.w) (rs p.m) (rr p.s) p.a (rf p.fe) (rc p.cl) p.hits=jb p:=by
 refine out _ _ _ _ _ _ _ _ _ ?_;have h1:=nQ.ok p.now p.en p.w p.m p.s p.a (rf p.fe) (rc p.cl) p.hits hp.en hp.w hp.m ⟨hp.s.1,hp.s.2.1⟩;have HZ:=hp.fe;have oc:=hp.cl;unfold vo b;have h2:=λi hi=>ng.ok p.now (re p.en) (rs p.w) (rs p.m) (rr p.s) p.a p.fe (rc p.cl) p.hits i hi HZ
 have kc:=λ(n:aF) (hn:p.cl.length<n)=>iC (HU p.now p.fe.length p.cl) p.cl.length (λn (i:aF)=>l9 Lib.cW (λ(V6:aX) (_ _:aw) (_ _ _ _:aQ) (_:aw) (_ _:aQ) (_:aw)=>ah V6) (λ(_:aX) (_ _:aw) (_ _ _ _:aQ) (_:aw) (_ _:aQ) (_:aw)=>ah ai) n ak (i:aw) p.now (re p.en) (rs p.w) (rs p.m) (rr p.s) p.a (rf p.fe) (rc p.cl) p.hits) (ah ak) (ah ai)
  (λn i hi hq=>by simp only[l9];rw[step _ _ _ _ _ _ _ _ _ _ _ _ _ i hi oc,hq];rfl)
  (λn i hi hq=>by simp only[l9];rw[step _ _ _ _ _ _ _ _ _ _ _ _ _ i hi oc,hq];rfl)
  (λn=>by simp only[l9,r9,fg,Lib.dn,bm,bj,ax]) n hn
 have kf:=iC (λi=>nJ p.now (el p.fe i)&&apart p.fe i) p.fe.length (λn (i:aF)=>l4 Lib.cW (λ(wx:aX) (_ _:aw) (_ _ _ _:aQ) (_:aw) (_ _:aQ) (_:aw)=>ah wx) (λ(Ke:aX) (_ WK:aw) (QL QM H0 QN:aQ) (QO:aw) (QP QQ:aQ) (Qk:aw)=>l9 Lib.cW (λ(V6:aX) (_ _:aw) (_ _ _ _:aQ) (_:aw) (_ _:aQ) (_:aw)=>ah V6) (λ(_:aX) (_ _:aw) (_ _ _ _:aQ) (_:aw) (_ _:aQ) (_:aw)=>ah ai) Lib.cW Ke 0 WK QL QM H0 QN QO QP QQ Qk) n ak (i:aw) p.now (re p.en) (rs p.w) (rs p.m) (rr p.s) p.a (rf p.fe) (rc p.cl) p.hits) (ah ak) (ah ((b9 p.cl.length).all (HU p.now p.fe.length p.cl)))
  (λn i hi hq=>by simp only[l4,r4,dN,Lib.dn,hi,aN,au,(h2 i hi).1,(h2 i hi).2,hq,a_,ax,Lib.c5 hi (by omega:p.fe.length<=9223372036854775807)])
  (λn i hi hq=>by simp only[l4,r4,dN,Lib.dn,hi,aN,au,(h2 i hi).1,(h2 i hi).2,hq,bR])
  (λn=>by simp only[l4,r4,dN,Lib.dn,bm,bj,ax];refine(kc Lib.cW (cJ (by omega))).trans ?_;cases (b9 p.cl.length).all (HU p.now p.fe.length p.cl)<;>rfl) Lib.cW (cJ (by omega))
 rw[eO,eO,h1.1,h1.2,au,dN,fg];rw[show l4 Lib.cW _ _ Lib.cW ak 0 p.now (re p.en) (rs p.w) (rs p.m) (rr p.s) p.a (rf p.fe) (rc p.cl) p.hits=_ from kf];unfold jb;rw[show decide ((p.fe.length:aw)>20)= !decide (p.fe.length<=20)by rw[<-decide_not,ch];omega,show decide ((p.cl.length:aw)>6)= !decide (p.cl.length<=6)by rw[<-decide_not,ch];omega];cases decide (1<=p.now/\p.now<=1000000000)<;>cases Nd p.en p.w p.m p.s p.a<;>cases decide (p.fe.length<=20)<;>cases decide (p.cl.length<=6)<;>cases decide (0<=p.hits/\p.hits<=1000000000)<;>cases (b9 p.fe.length).all (λi=>nJ p.now (el p.fe i)&&apart p.fe i)<;>cases (b9 p.cl.length).all (HU p.now p.fe.length p.cl)<;>rfl
end pe

namespace uQ
open Lib (Px Cl Fe En el)
def ec(f:aF)(st:aw)(t:aq)(c:Cl):Cl:=bif decide (c.fe=(f:aw)+1)&&decide (c.sta=1)then{c with sta:=st,mM:=t}else c
def nU(cl:aA Cl)(f:aF)(st:aw)(t:aq):aA Cl:=cl.map (ec f st t)
theorem lr{α:Type}(l:aA α)(g:α->α):l.mapIdx (λ_ c=>g c)=l.map g:=by apply lQ<;>simp
end uQ

namespace gu
open Lib (Px Cl Fe En el)
open pe (jb)
open uQ (nU)
def sW(p:Px)(f:aw):aX:=jb p&&(decide (0<=f/\f<=(p.fe.length:aw)-1)&&decide ((el p.fe f.toNat).sta=1))
def told(p:Px)(f:aF)(g:Fe)(st:aw):Px:={p with fe:=p.fe.set f g,cl:=nU p.cl f st g.t}
theorem iT{p:Px}{f:aw}(h:sW p f=ai):∃n:aF,f=(n:aw)/\n<p.fe.length/\jb p=ai/\(el p.fe n).sta=1:=by unfold sW at h;simp only[aL,bf]at h;obtain⟨h1,h2,h3⟩:=h;exact⟨f.toNat,by omega,by omega,h1,h3⟩
theorem nY{p:Px}{n f:aF}{g:Fe}{st:aw}(h:p.Fit n):(told p f g st).Fit n:=by
 refine⟨h.en,h.w,h.m,h.s, ?_, ?_⟩
 ·show(p.fe.set f g).length<=n;rw[cE];exact h.fe
 ·show(nU p.cl f st g.t).length<=n;unfold uQ.nU;rw[bU];exact h.cl
def B9(p:Px)(f:aw):Px×aX:=bif sW p f then(told p f.toNat {el p.fe f.toNat with sta:=3} 3,ai)else(p,ak)
def CY(p:Px)(f:aw)(t:aq):Px×aX:=
 bif sW p f&&(decide (1<=t.size/\t.size<=40)&&decide ((el p.fe f.toNat).t.size+t.size<=400))then(told p f.toNat {el p.fe f.toNat with t:=(el p.fe f.toNat).t++t} 1,ai)else(p,ak)
theorem iR{l:aA Fe}{n:aF}{g:Fe}(h:n<l.length):el (l.set n g) n=g:=by rw[eN (by rw[cE];exact h),kI]
theorem yp(l:aA Fe)(n j:aF)(ys:aA CV)(g:Fe)(h:n<l.length)(hs:iH (Fe.row (el l n)) j ys=Fe.row g):eJ (Lib.rf l) n j ys=Lib.rf (l.set n g):=by rw[eN h]at hs;exact kS Fe.row l n j ys g h hs
theorem Ni{p:Px}(h:jb p=ai)(i:aF)(hi:i<p.fe.length):ng.nJ p.now (el p.fe i)=true:=by unfold pe.jb at h;simp only[aL,bf]at h;obtain⟨_,_,_,_,_,h6,_⟩:=h;rw[bu]at h6;have:=h6 i (by simpa using hi);rw[aL]at this;exact this.1
end gu

namespace gn
theorem ams(x:aw):0<=bE eI x/\bE eI x<4294967296:=by have e:bE eI x=x%4294967296:=rfl;rw[e];omega
theorem agu(x:aw):0<=jU.rd x/\jU.rd x<4294967296:=by unfold jU.rd;cases decide (cz x 2=1)<;>exact ams _
theorem NZ:∀(n:aF) (x:aw),0<=x/\x<4294967296->0<=jU.nL n x/\jU.nL n x<4294967296
 |0,_,h=>h
 |n+1,x,_=>NZ n _ (agu x)
theorem VO(t:aq):∀(d i:aF) (s:aw),0<=s/\s<4294967296->0<=jU.su t d i s/\jU.su t d i s<4294967296
 |0,_,_,h=>h
 |d+1,i,s,h=>VO t d (i+1) _ (NZ 8 _ (ams _))
def keyed(i:aF)(key:aq):aq:=key++bytesOf [[CV.i bh (i:aw)]]
def sm(i:aF)(key:aq):aw:=jU.su (keyed i key) (keyed i key).size 0 4294967295
def pl(i:aF)(key:aq):aF:=(cz (sm i key) 16).toNat
theorem LS(i:aF)(key:aq):0<=sm i key/\sm i key<4294967296:=VO _ _ _ _ (by omega)
theorem pl_int(i:aF)(key:aq):cz (sm i key) 16=(pl i key:aw):=by have:=LS i key;have h:0<=cz (sm i key) 16:=W3 _ this.1;unfold pl;omega
theorem CW(i:aF)(key:aq):pl i key<16:=by have:=LS i key;have h:=Int.tmod_lt_of_pos (sm i key) (show(0:aw)<16 by omega);have h2:0<=cz (sm i key) 16:=W3 _ this.1;unfold pl;omega
theorem C9(i:aF)(key:aq):(keyed i key).size=key.size+1:=by unfold keyed;rw[dK,C8]
theorem ok(i:aF)(key:aq)(hi:i<3)(hk:key.size<=140737488355328):c (i:aw) key=ai/\v (i:aw) key=(pl i key:aw):=by
 refine out _ _ ?_;unfold vo b;have e:(key++bytesOf (aD (aP [Ck.i bh] 1) 0 [CV.i bh (bE bh (i:aw))]))=keyed i key:=by
  unfold keyed;match i,hi with
  |0,_=>rfl
  |1,_=>rfl
  |2,_=>rfl
 have hs:=C9 i key;have h:=vU.ok (keyed i key) (by omega);have e2:cq key+cq (bytesOf (aD (aP [Ck.i bh] 1) 0 [CV.i bh (bE bh (i:aw))]))=key.size+1:=by rw[pO,C8]
 rw[e2,e,aE (by omega),au,h.1,h.2,au];have hp:=pl_int i key;have hl:=CW i key;unfold sm at hp;rw[hp,dg (by omega) (by omega)]
end gn

namespace n8
open Lib (rr)
theorem run(N:aF)(K0:aw->aQ->aw->aw->aw->az R)(K1:aw->aQ->aw->aw->aw->aQ->az R)(s:aA (aA aw))(z y a:aw)(hf:jm.oN s)(m:aF)(hm:s.length+1<m)(kr:aQ->az R)
  (h0:s=[]->K0 0 (rr s) z y a=kr []) (h1:K1 s.length (rr s) z y a (rr s)=kr (rr s)):l3 N K0 K1 m 0 (rr s) z y a=kr (rr s):=by
 obtain⟨m,rfl⟩:∃m',m=m'+1:=⟨m-1,by omega⟩
 have hz:∀q:aQ,aP [Ck.i ao] 0++q=q:=λq=>rfl;have hci:∀i (h:i<s.length),cy (bT (aP [Ck.i ao] 0)+bT (Lib.ri s[i])) 8=true:=λi h=>by have:=hf.2 _ (bC h);exact Lib.cj (by rw[Lib.gW];simp[aP];omega) (by rw[Lib.gW];simp[aP];omega)
 by_cases hs:s=[]
 ·subst hs;simp only[l3,r3,gX,jS,Wf,Km,bj,ax];exact h0 rfl
 ·have hp:0<s.length:=MG.2 hs;have key:=mb (R:=R) s.length (λm i (x:aQ)=>sL N K0 K1 m (i:aw) (rr s) z y a x) (λi=>rr (s.take i)) (kr (rr s)) (λm i h=>by
   have hl:=hf.1;simp only[sL,zM,gX,Lib.dn,h,aN,au,Lib.cF,bc,Lib.dY,J9 h,jx,hci i h,hz,pO,bA];rw[Lib.cj (by rw[eD];omega) (by rw[eD];omega),au,Lib.c5 h (by omega)];have:=oY (λq=>[CV.l 3 (Lib.ri q)]) s i h;unfold rr;rw[<-this]) (λm=>by
   simp only[sL,zM,gX,Lib.dn,bm,bj,ax,dE];exact h1) m 1 hp (by omega)
  have e:=hci 0 hp;have e0:=J9 (l:=s) hp;simp only[l3,r3,aE (show(0:aw)<(s.length:aw)by omega),au,aM,gX,show decide ((0:aw)<=0)=ai from rfl,show aW 0=0 from rfl,e0,jx,e,hz,au,pO,gD];rw[show bJ (0+1)=((1:aF):aw)from rfl];refine Eq.trans ?_ key;have:=oY (λq=>[CV.l 3 (Lib.ri q)]) s 0 hp;unfold rr;rw[show(0+1)=1 from rfl]at this;rw[<-this];rfl
theorem ok(s:aA (aA aw))(a:aw)(hf:jm.oN s):c (rr s) a=ai/\v (rr s) a=(rr s,a):=by refine out _ _ ?_;unfold vo b;exact run Lib.cW (λ_ _ _ _ y=>ah ([],y)) (λ_ _ _ _ wy Kd=>ah (Kd,wy)) s a 0 a hf Lib.cW (cJ (by have:=hf.1;omega)) (λx=>ah (x,a)) (λ_=>rfl) rfl
end n8

namespace dx
open Lib (rr ri)
def bq(p:aF)(q:aA aw):aA aw:=q.set p (bif decide (q.getD p 0<15)then q.getD p 0+1 else q.getD p 0)
def DU(s:aA (aA aw))(key:aq):aA (aA aw):=s.mapIdx λi q=>bq (gn.pl i key) q
def half(s:aA (aA aw)):aA (aA aw):=s.map λq=>q.map λn=>cR n 2
def val(s:aA (aA aw))(a:aw)(key:aq):aA (aA aw)×aw:=
 bif fG.oj s a then(bif decide (a+1=64)then(half (DU s key),0)else(DU s key,a+1))else(s,a)
def fR(q:aA aw):aA CV:=[CV.l 3 (ri q)]
theorem Qd(q:aA aw)(p:aF)(x:aw)(h:p<q.length):eJ (ri q) p 0 [CV.i ao x]=ri (q.set p x):=kS (λn=>[CV.i ao n]) q p 0 _ x h rfl
theorem Qe(L:aA (aA aw))(i:aF)(q:aA aw)(h:i<L.length):eJ (L.map fR) i 0 [CV.l 3 (ri q)]=(L.set i q).map fR:=kS fR L i 0 _ q h rfl
theorem Ca(L:aA (aA aw))(i:aF)(h:i<L.length):ar (L.map fR) i 0=CV.l 3 (ri L[i]):=eZ fR L i 0 h
theorem uJ{s:aA (aA aw)}{a:aw}(h:fG.oj s a=ai):s.length=3/\(0<=a/\a<=63)/\∀q∈s,q.length=16/\∀n∈q,0<=n/\n<=15:=by
 unfold fG.oj at h;rw[aL,aL]at h;refine⟨cu h.1,cu h.2.1,λq hq=> ?_⟩
 have:=bu.1 h.2.2 q hq;unfold fG.sD at this;rw[aL]at this;refine⟨cu this.1,λn hn=> ?_⟩
 have:=bu.1 this.2 n hn;unfold fG.NK at this;exact cu this
theorem oO{q:aA aw}{p:aF}(h:p<q.length):q.getD p 0=q[p]:=by simp[jR,h]
theorem agy(K:aq->aw->aw->aw->aQ->az R)(s:aA (aA aw))(key:aq)(y a:aw)(hs:s.length=3)(hq:∀q∈s,q.length=16/\∀n∈q,0<=n/\n<=15)(hk:key.size<=140737488355328):
  l5 Lib.cW K Lib.cW key 0 y a (rr s)=K key 3 y a (rr (DU s key)):=by
 refine(nN fR s (λi q=>bq (gn.pl i key) q) (λm (i:aF) x=>l5 Lib.cW K m key (i:aw) y a x) (λx=>K key 3 y a x) (λm i L h h2 hL wa=> ?_) (λm L hL=> ?_) Lib.cW (cJ (by omega)))
 ·have hp:=gn.ok i key (by omega) hk;have sV:=gn.CW i key;obtain⟨J6,hn⟩:=hq _ (bC h);have e0:ar (L.map fR) i 0=CV.l 3 (ri s[i]):=by rw[Ca L i h2,wa]
  have hb:gn.pl i key<s[i].length:=by omega
  have hx:=hn _ (bC hb);simp only[l5,r5,bU,Lib.dn,h2,aN,au,hp.1,hp.2,Lib.cF,aM,Lib.dY,e0,jx,Lib.gW,J6,sV,QG hb,bF];unfold bq;rw[oO hb];cases hd:decide (s[i][gn.pl i key]<15)with
  |true=>have:=cu hd;rw[au,au,dg (x:=s[i][gn.pl i key]+1) (by omega) (by omega),Qd _ _ _ hb,Qe _ _ _ h2,Lib.c5 h2 (by omega)]
  |false=>rw[ax,ax,Lib.c5 h2 (by omega),fB,<-wa,fB]
 ·simp only[l5,r5,bU,Lib.dn,hL,bm,bj,ax,hs];rfl
theorem tq{s:aA (aA aw)}{key:aq}(hs:s.length=3)(hq:∀q∈s,q.length=16/\∀n∈q,0<=n/\n<=15):(DU s key).length=3/\∀q∈DU s key,q.length=16/\∀n∈q,0<=n/\n<=15:=by
 unfold DU;refine⟨by simp[hs],λq hm=> ?_⟩
 obtain⟨i,hi,rfl⟩:=List.mem_mapIdx.1 hm;obtain⟨J6,hn⟩:=hq _ (bC hi);unfold bq;have hb:gn.pl i key<s[i].length:=by have:=gn.CW i key;omega
 refine⟨by rw[cE];exact J6,λn h=> ?_⟩
 rcases jK h with h|h
 ·exact hn n h
 ·rw[oO hb]at h;have hx:=hn _ (bC hb);rw[h];cases hd:decide (s[i][gn.pl i key]<15)with
  |true=>have:=cu hd;rw[au];omega
  |false=>rw[ax];exact hx
theorem alP(K:aw->aw->aw->aw->aQ->az R)(L:aA (aA aw))(i:aF)(h:i<L.length)(y a:aw)(hl:L.length<=1048576)(hq:L[i].length=16)(hn:∀n∈L[i],0<=n/\n<=15):
  l17 Lib.cW K Lib.cW (i:aw) 0 y a (L.map fR)=K i 16 y a ((L.set i (L[i].map λn=>cR n 2)).map fR):=by
 have hmi:L[i].mapIdx (λ_ n=>cR n 2)=L[i].map λn=>cR n 2:=by apply lQ<;>simp
 have key:=mb (L[i].length) (λm (k:aF) x=>l17 Lib.cW K m (i:aw) (k:aw) y a x) (λk=>(L.set i (oq L[i] (λ_ n=>cR n 2) k)).map fR) (K i 16 y a ((L.set i (L[i].map λn=>cR n 2)).map fR)) (λm k hk=> ?_) (λm=> ?_) Lib.cW 0 (bI _) (cJ (by omega))
 ·rw[Dg,fB]at key;exact key
 ·have hu:=qU L[i] (λ_ n=>cR n 2) k (by omega);generalize hU:oq L[i] (λ_ n=>cR n 2) k=U at hu;have hku:k<U.length:=by omega
  have gg:U[k]=L[i][k]:=by subst hU;exact yw _ _ _ hk _
  have afq:U.set k (cR L[i][k] 2)=oq L[i] (λ_ n=>cR n 2) (k+1):=by subst hU;exact ua L[i] (λ_ n=>cR n 2) k hk
  have h2:i<(L.set i U).length:=by simpa using h
  have e0:ar ((L.set i U).map fR) i 0=CV.l 3 (ri U):=by rw[Ca _ _ h2,kI]
  have hx:=hn _ (bC hk);have ht:0<=cR L[i][k] 2:=Int.tdiv_nonneg hx.1 (by omega);have G9:cR L[i][k] 2<=15:=BQ (Int.tdiv_le_self _ hx.1) hx.2;simp only[l17,r17,bU,cE,Lib.dn,h,hku,aN,au,Lib.cF,aM,Lib.dY,e0,jx,Lib.gW,QG hku,bF,gg];rw[dg (x:=cR L[i][k] 2) (by omega) (by omega),Qd _ _ _ hku,Qe _ _ _ h2,afq,pK,Lib.c5 hk (by omega)]
 ·have e0:ar ((L.set i (oq L[i] (λ_ n=>cR n 2) L[i].length)).map fR) i 0=CV.l 3 (ri (L[i].map λn=>cR n 2)):=by rw[Ca _ _ (by simpa using h),kI,qT,hmi]
  simp only[l17,r17,bU,cE,Lib.dn,h,aN,au,Lib.cF,aM,Lib.dY,e0,jx,Lib.gW,bm,bj,ax];rw[qT,hmi,hq];rfl
theorem alN(K:aw->aw->aw->aQ->az R)(s:aA (aA aw))(y a:aw)(hs:s.length=3)(hq:∀q∈s,q.length=16/\∀n∈q,0<=n/\n<=15):
  l14 Lib.cW K Lib.cW 0 y a (rr s)=K 3 y a (rr (half s)):=by
 have hmi:s.mapIdx (λ_ q=>q.map λn=>cR n 2)=half s:=by unfold half;apply lQ<;>simp
 rw[<-hmi];refine(nN fR s (λ_ q=>q.map λn=>cR n 2) (λm (i:aF) x=>l14 Lib.cW K m (i:aw) y a x) (λx=>K 3 y a x) (λm i L h h2 hL wa=> ?_) (λm L hL=> ?_) Lib.cW (cJ (by omega)))
 ·obtain⟨J6,hn⟩:=hq _ (bC h);simp only[l14,r14,bU,Lib.dn,h2,aN,au];rw[alP _ L i h2 y a (by omega) (by rw[wa];exact J6) (by rw[wa];exact hn),Lib.c5 h2 (by omega),wa]
 ·simp only[l14,r14,bU,Lib.dn,hL,bm,bj,ax,hs];rfl
theorem ok(s:aA (aA aw))(a:aw)(key:aq)(hf:jm.oN s)(hk:key.size<=140737488355328):c (rr s) a key=ai/\v (rr s) a key=(rr (val s a key).1,(val s a key).2):=by
 refine out _ _ _ ?_;have h1:=n8.ok s a hf;have h2:=fG.ok s a hf;unfold vo b val;rw[h1.1,h1.2,h2.1,h2.2,au,au];cases cg:fG.oj s a with
 |false=>rfl
 |true=>
  obtain⟨hs,ha,hq⟩:=uJ cg;obtain⟨b1,b2⟩:=tq (key:=key) hs hq;rw[a_,ax,au,agy _ s key _ _ hs hq hk,dg (x:=a+1) (by omega) (by omega)];cases hd:decide (a+1=64)with
  |false=>rfl
  |true=>rw[au,au,alN _ _ _ _ b1 b2]
end dx

namespace mH
open Lib (rr ri)
def gs(key:aq):aF->aA (aA aw)->aw->aw
 |_,[],x=>x
 |i,q::r,x=>gs key (i+1) r (bif decide (q.getD (gn.pl i key) 0<x)then q.getD (gn.pl i key) 0 else x)
def val(s:aA (aA aw))(a:aw)(key:aq):aw:=bif fG.oj s a then gs key 0 s 15 else 0
theorem G3(key:aq)(s:aA (aA aw))(i:aF)(h:i<s.length)(x:aw):gs key i (s.drop i) x=gs key (i+1) (s.drop (i+1)) (bif decide (s[i].getD (gn.pl i key) 0<x)then s[i].getD (gn.pl i key) 0 else x):=by rw[dF h];rfl
theorem ok(s:aA (aA aw))(a:aw)(key:aq)(hf:jm.oN s)(hk:key.size<=140737488355328):c (rr s) a key=ai/\v (rr s) a key=val s a key:=by
 refine out _ _ _ ?_;have h2:=fG.ok s a hf;unfold vo b val;rw[h2.1,h2.2,au];cases cg:fG.oj s a with
 |false=>rfl
 |true=>
  obtain⟨hs,ha,hq⟩:=dx.uJ cg;rw[a_,ax,au];have:=Lib.g8 (λm (t:aF×aw)=>l5 Lib.cW (λ(_:aq) (y6 _:aw) (_:aQ) (_:aw)=>ah y6) m key t.2 (t.1:aw) (rr s) a) (λt=>s.length-t.1) (λt=>t.1<=s.length) (λt=>ah (gs key t.1 (s.drop t.1) t.2)) (λm t ht=>by
   obtain⟨i,x⟩:=t;dsimp only at ht⊢;by_cases h:i<s.length
   ·right;have hp:=gn.ok i key (by omega) hk;have sV:=gn.CW i key;obtain⟨J6,hn⟩:=hq _ (bC h);have hb:gn.pl i key<s[i].length:=by omega
    refine⟨(i+1,bif decide (s[i].getD (gn.pl i key) 0<x)then s[i].getD (gn.pl i key) 0 else x),by dsimp only;omega,by dsimp only;omega,by rw[<-G3 key s i h x], ?_⟩
    simp only[l5,r5,gX,Lib.dn,h,aN,au,hp.1,hp.2,Lib.cF,aM,Lib.dY,J9 h,jx,Lib.gW,J6,sV,QG hb,bF,Lib.c5 h (by omega:s.length<=9223372036854775807)];rw[dx.oO hb];cases decide (s[i][gn.pl i key]<x)<;>rfl
   ·left;have:i=s.length:=by omega
    subst this;simp only[l5,r5,gX,Lib.dn,bm,bj,ax,dm,gs]) Lib.cW (0,15) (bI _) (cJ (by dsimp only;omega))
  simpa using this
end mH

namespace gb
open Lib (rr rs)
theorem ok(w m:aA aq)(s:aA (aA aw))(a:aw)(hw:w.length<=1048576)(hm:m.length<=1048576)(hf:jm.oN s):c (rs w) (rs m) (rr s) a=ai/\v (rs w) (rs m) (rr s) a=(rs w,rs m,rr s,a):=by have h3:=n8.ok s a hf;have r1:cy (bT (aP [Ck.s] 0)+bT (rs w)) 16=true:=Lib.cj (by simp[aP,e6];omega) (by simp[aP,e6];omega);have r2:cy (bT (aP [Ck.s] 0)+bT (rs m)) 16=true:=Lib.cj (by simp[aP,e6];omega) (by simp[aP,e6];omega);exact out _ _ _ _ (by unfold vo b;rw[r1,r2,h3.1,h3.2,au,au,au];rfl)
end gb

namespace pd
theorem ok(l:aA aq)(k:aq)(hl:l.length<=1048576):c (Lib.rs l) k=ai/\v (Lib.rs l) k=Lib.rs (fm.without l k):=by
 refine out _ _ ?_;unfold vo b;have key:=mb l.length (λm (i:aF) (x:aQ)=>l3 Lib.cW (λ(_:aQ) (_:aq) (_:aw) (y7:aQ)=>ah y7) m (Lib.rs l) k (i:aw) x) (λi=>Lib.rs (fm.without (l.take i) k)) (ah (Lib.rs (fm.without l k))) (λm i h=>by
  have hlen:=fm.iw (l:=l.take i) (k:=k);rw[eD]at hlen;simp only[l3,r3,e6,Lib.dn,h,aN,Lib.cF,aM,au,Lib.dY,WC h,bw,Lib.fu,pO,bA,Lib.c5 h (by omega:l.length<=9223372036854775807)];rw[Lib.cj (by omega) (by omega),au];have e:fm.without (l.take (i+1)) k=fm.without (l.take i) k++(bif !decide (l[i]=k)then [l[i]]else []):=by unfold fm.without;rw[cw h,gz];cases hd:decide (l[i]=k)<;>simp[hd]
  rw[e];cases hd:decide (l[i]=k)with
  |true=>rw[a_,ax,ax,dp]
  |false=>rw[bR,au,au];unfold Lib.rs;rw[dj];rfl) (λm=>by
  simp only[l3,r3,e6,Lib.dn,bm,bj,ax,dE]) Lib.cW 0 (bI _) (cJ (by omega))
 exact key
end pd

namespace e8
open Lib (rr rs)
open fm (has without gK lL wv iw pE)
open jA (eS Li nE sO iS)
def val(w m:aA aq)(s:aA (aA aw))(a:aw)(key:aq):aA aq×aA aq×aA (aA aw)×aw×aq:=
 bif sO w m s a&&eS key then
  bif has w key then(without w key++[key],m,(dx.val s a key).1,(dx.val s a key).2,⟨#[]⟩)
  else bif has m key then(w,without m key++[key],(dx.val s a key).1,(dx.val s a key).2,⟨#[]⟩)
  else bif decide ((w++[key]).length<=2)then(w++[key],m,(dx.val s a key).1,(dx.val s a key).2,⟨#[]⟩)
  else bif decide (m.length<4)then((w++[key]).tail,m++[(w++[key]).getD 0 ⟨#[]⟩],(dx.val s a key).1,(dx.val s a key).2,⟨#[]⟩)
  else bif decide (mH.val (dx.val s a key).1 (dx.val s a key).2 ((w++[key]).getD 0 ⟨#[]⟩)>mH.val (dx.val s a key).1 (dx.val s a key).2 (m.getD 0 ⟨#[]⟩))then
   ((w++[key]).tail,m.tail++[(w++[key]).getD 0 ⟨#[]⟩],(dx.val s a key).1,(dx.val s a key).2,m.getD 0 ⟨#[]⟩)
  else((w++[key]).tail,m,(dx.val s a key).1,(dx.val s a key).2,(w++[key]).getD 0 ⟨#[]⟩)
 else(w,m,s,a,⟨#[]⟩)
theorem C_(l:aA aq)(k:aq):rs l++[[CV.s k]]=rs (l++[k]):=by unfold Lib.rs;rw[dj];rfl
theorem zer(l:aA aq):aP [Ck.s] 0++rs l=rs l:=rfl
theorem SR(l:aA aq):bw (ar (rs l) (aW 0) 0)=l.getD 0 ⟨#[]⟩:=by cases l<;>rfl
theorem VQ(l:aA aq):eA (rs l) (aW 1) (aW (l.length:aw))=rs l.tail:=by unfold eA Lib.rs;rw[show aW 1=1 from rfl,Lib.dY,List.drop_one,<-List.map_tail,je (by simp)]
theorem nF{l:aA aq}(h:nE l=ai){k:aq}(hk:k∈l):eS k=true:=by
 unfold nE at h;rw[bu]at h;obtain⟨i,hi,rfl⟩:=c7 hk;have:=h i (by simpa using hi);unfold Li at this;rw[aL]at this;have e:l.getD i ⟨#[]⟩=l[i]:=by simp[jR,hi]
 rw[e]at this;exact this.1
theorem wg{l:aA aq}:nE l=ai↔(∀k∈l,eS k=ai)/\l.Nodup:=by
 constructor
 ·intro h;refine⟨λk hk=>nF h hk, ?_⟩
  rw[lJ,dC];intro i j hi hj Pp he;unfold nE at h;rw[bu]at h;have h2:=h j (by simpa using hj);unfold Li at h2;have e:l.getD j ⟨#[]⟩=l[j]:=by simp[jR,hj]
  rw[e,aL,dt,lL]at h2;refine h2.2 ?_;rw[<-he];have:(l.take j)[i]'(by rw[eD];omega)=l[i]:=ny ..;rw[<-this];exact bC _
 ·intro h;unfold nE;rw[bu];intro j hj;have hj:j<l.length:=by simpa using hj
  unfold Li;have e:l.getD j ⟨#[]⟩=l[j]:=by simp[jR,hj]
  rw[e,aL,dt,lL];refine⟨h.1 _ (bC hj),λhm=> ?_⟩
  obtain⟨i,hi,he⟩:=c7 hm;rw[eD]at hi;rw[ny]at he;have h2:=h.2;rw[lJ,dC]at h2;exact h2 i j (by omega) hj (by omega) he
theorem kL{k:aq}(h:eS k=ai):1<=k.size/\k.size<=30:=by unfold eS at h;have:=cu h;omega
theorem LP{s:aA (aA aw)}{a:aw}{key:aq}(h:jm.oN s):jm.oN (dx.val s a key).1:=by
 unfold dx.val;cases cg:fG.oj s a with
 |false=>exact h
 |true=>
  obtain⟨hs,_,hq⟩:=dx.uJ cg;obtain⟨b1,b2⟩:=dx.tq (key:=key) hs hq;rw[au];cases decide (a+1=64)with
  |false=>exact⟨by rw[ax];dsimp only;omega,λq h=>by have:=(b2 q h).1;omega⟩
  |true=>
   rw[au];dsimp only;unfold dx.half;refine⟨by rw[bU];omega,λq h=> ?_⟩
   obtain⟨q',hq',rfl⟩:=cX.1 h;rw[bU];have:=(b2 q' hq').1;omega
theorem tD{l:aA aq}(h:0<l.length):l.getD 0 ⟨#[]⟩∈l:=by
 cases l with
 |nil=>simp at h
 |cons x r=>exact dr ..
theorem CS{w m:aA aq}{s:aA (aA aw)}{a:aw}(h:sO w m s a=ai):nE (w++m)=ai/\w.length<=2/\m.length<=4/\fG.oj s a=true:=by unfold sO at h;simp only[aL,bf]at h;exact⟨h.1,h.2.1,h.2.2.1,h.2.2.2⟩
theorem ok(w m:aA aq)(s:aA (aA aw))(a:aw)(key:aq)(hw:w.length<=1048576)(hm:m.length<=1048576)(hf:jm.oN s)(hk:key.size<=140737488355328):
  c (rs w) (rs m) (rr s) a key=ai/\v (rs w) (rs m) (rr s) a key=(rs (val w m s a key).1,rs (val w m s a key).2.1,rr (val w m s a key).2.2.1,(val w m s a key).2.2.2.1,(val w m s a key).2.2.2.2):=by
 refine out _ _ _ _ _ ?_;have h1:=gb.ok w m s a hw hm hf;have h2:=jA.ok w m s a hw hm hf;have h3:=dx.ok s a key hf hk;have h4:=fm.ok w key (by omega);have h5:=fm.ok m key (by omega);have h6:=pd.ok w key hw;have h7:=pd.ok m key hm;have sf:=LP (a:=a) (key:=key) hf;unfold vo b;simp only[Lib.lt,h1.1,h1.2,h2.1,h2.2,au];unfold val;cases hp:sO w m s a with
 |false=>rfl
 |true=>
  obtain⟨p1,p2,p3,p4⟩:=CS hp;rw[iS,bc];cases Aj:eS key with
  |false=>rfl
  |true=>
   have A1:=kL Aj;have l6:=iw (l:=w) (k:=key);have l7:=iw (l:=m) (k:=key);simp only[a_,ax,au,h3.1,h3.2,h4.1,h4.2,h5.1,h5.2,h6.1,h6.2,h7.1,h7.2,C_,zer,e6,pO,bA];rw[Lib.cj (n:=(without w key).length+1) (by omega) (by omega),Lib.cj (n:=(without m key).length+1) (by omega) (by omega),Lib.cj (n:=w.length+1) (by omega) (by omega)];simp only[au];cases hA:has w key with
   |true=>rfl
   |false=>
    cases hB:has m key with
    |true=>rfl
    |false=>
     simp only[ax];rw[show decide (((w++[key]).length:aw)<=2)=decide ((w++[key]).length<=2)by rw[ch];omega];cases hC:decide ((w++[key]).length<=2)with
     |true=>rfl
     |false=>
      have hlw:(w++[key]).length=3:=by have:=lX hC;rw[bP,bA]at this⊢;omega
      have hfm:(w++[key]).getD 0 ⟨#[]⟩∈w++[key]:=tD (by omega);have K7:((w++[key]).getD 0 ⟨#[]⟩).size<=30:=by
       rcases ba.1 hfm with h|h
       ·exact(kL (nF p1 (bM _ h))).2
       ·rw[aZ]at h;rw[h];exact A1.2
      have g1:=mH.ok (dx.val s a key).1 (dx.val s a key).2 ((w++[key]).getD 0 ⟨#[]⟩) sf (by omega);have i1:g7 1 ((w++[key]).length:aw) ((w++[key]).length:aw)=true:=by rw[hlw];rfl
      have ht:(w++[key]).tail.length=2:=by rw[W6];omega
      have rz:cy (bT (aP [Ck.s] 0)+(w++[key]).tail.length) 16=true:=Lib.cj (by rw[ht];decide) (by rw[ht];decide);simp only[ax,aE (show(0:aw)<((w++[key]).length:aw)by omega),i1,au,SR,VQ,rz,zer,C_,e6,Lib.cj (n:=m.length+1) (b:=16) (by omega) (by omega),g1.1,g1.2];rw[show decide ((m.length:aw)<4)=decide (m.length<4)by rw[ch];omega];cases hD:decide (m.length<4)with
      |true=>rfl
      |false=>
       have hm4:m.length=4:=by have:=lX hD;omega
       have hmm:m.getD 0 ⟨#[]⟩∈m:=tD (by omega);have hms:=(kL (nF p1 (bN _ hmm))).2;have g2:=mH.ok (dx.val s a key).1 (dx.val s a key).2 (m.getD 0 ⟨#[]⟩) sf (by omega);have i2:g7 1 (m.length:aw) (m.length:aw)=true:=by simp[g7];omega
       have G9:m.tail.length=3:=by rw[W6];omega
       have rz2:cy (bT (aP [Ck.s] 0)+m.tail.length) 16=true:=Lib.cj (by rw[G9];decide) (by rw[G9];decide);simp only[ax,aE (show(0:aw)<(m.length:aw)by omega),i2,au,rz2,C_,Lib.cj (n:=m.tail.length+1) (b:=16) (by omega) (by omega),g2.1,g2.2];cases decide (mH.val (dx.val s a key).1 (dx.val s a key).2 ((w++[key]).getD 0 ⟨#[]⟩)>mH.val (dx.val s a key).1 (dx.val s a key).2 (m.getD 0 ⟨#[]⟩))<;>rfl
def lens(s:aA (aA aw)):aA aF:=s.map bT
theorem Fb(s:aA (aA aw))(key:aq):lens (dx.DU s key)=lens s:=by
 unfold lens dx.DU;apply lQ
 ·simp
 ·intro i h1 h2;simp[dx.bq]
theorem PH(s:aA (aA aw)):lens (dx.half s)=lens s:=by unfold lens dx.half;rw[mn];apply Qp;intro q _;simp
theorem Ye(s:aA (aA aw))(a:aw)(key:aq):lens (dx.val s a key).1=lens s:=by
 unfold dx.val;cases fG.oj s a with
 |false=>rfl
 |true=>
  cases decide (a+1=64)with
  |false=>exact Fb s key
  |true=>exact(PH _).trans (Fb s key)
theorem L8(w m:aA aq)(s:aA (aA aw))(a:aw)(key:aq):(val w m s a key).1.length<=w.length+1/\(val w m s a key).2.1.length<=m.length+1/\lens (val w m s a key).2.2.1=lens s:=by
 have hw:=iw (l:=w) (k:=key);have hm:=iw (l:=m) (k:=key);have hs:=Ye s a key;unfold val;cases sO w m s a&&eS key with
 |false=>exact⟨by rw[ax];exact jv _,by rw[ax];exact jv _,rfl⟩
 |true=>
  rw[au];cases has w key with
  |true=>refine⟨?_, ?_,hs⟩<;>(simp only[au];simp;try omega)
  |false=>
   cases has m key with
   |true=>refine⟨?_, ?_,hs⟩<;>(simp only[au,ax];simp;try omega)
   |false=>
    cases decide ((w++[key]).length<=2)with
    |true=>refine⟨?_, ?_,hs⟩<;>(simp only[au,ax];simp;try omega)
    |false=>
     cases decide (m.length<4)with
     |true=>refine⟨?_, ?_,hs⟩<;>(simp only[au,ax];simp;try omega)
     |false=>
      cases decide (mH.val (dx.val s a key).1 (dx.val s a key).2 ((w++[key]).getD 0 ⟨#[]⟩)>mH.val (dx.val s a key).1 (dx.val s a key).2 (m.getD 0 ⟨#[]⟩))with
      |true=>refine⟨?_, ?_,hs⟩<;>(simp only[au,ax];simp;try omega)
      |false=>refine⟨?_, ?_,hs⟩<;>(simp only[au,ax];simp;try omega)
end e8

namespace kB
open Lib (rr rs re rf rc Px En el)
open fm (has)
open fZ (fA So fT my wZ drop_nil CO tT GR Ss rY)
def yu(p:Px)(e:En):Px:=
 {p with
  w:=(e8.val p.w p.m p.s p.a e.k).1
  m:=(e8.val p.w p.m p.s p.a e.k).2.1
  s:=(e8.val p.w p.m p.s p.a e.k).2.2.1
  a:=(e8.val p.w p.m p.s p.a e.k).2.2.2.1
  en:=bif has (e8.val p.w p.m p.s p.a e.k).1 e.k||has (e8.val p.w p.m p.s p.a e.k).2.1 e.k then my (fT p.en (e8.val p.w p.m p.s p.a e.k).2.2.2.2) e else fT p.en (e8.val p.w p.m p.s p.a e.k).2.2.2.2}
theorem alS{en:aA En}{w m:aA aq}(h:(b9 en.length).all (nQ.HV en w m)=ai):So en/\∀e∈en,1<=e.k.size:=by
 rw[bu]at h;have h1:∀i (hi:i<en.length),nQ.HV en w m i=true:=λi hi=>h i (by simpa using hi);constructor
 ·have adj:∀d i (hi:i+d+1<en.length),fA (el en i).k (el en (i+d+1)).k=true:=by
   intro d;induction d with
   |zero=>
    intro i hi;have:=h1 (i+1) (by omega);unfold nQ.HV at this;rw[aL,aL,dM]at this;rcases this.2.1 with h|h
    ·have:=cu h;omega
    ·exact h
   |succ d ih=>
    intro i hi;have a:=ih i (by omega);have:=h1 (i+d+1+1) (by omega);unfold nQ.HV at this;rw[aL,aL,dM]at this;rcases this.2.1 with h|h
    ·have:=cu h;omega
    ·exact lM.ph _ _ _ a h
  unfold So;rw[dC];intro i j hi hj Pp;have:=adj (j-i-1) i (by omega);rw[show i+(j-i-1)+1=j by omega,eN hi,eN hj]at this;exact this
 ·intro e he;obtain⟨i,hi,rfl⟩:=c7 he;have:=h1 i hi;unfold nQ.HV nQ.vh at this;rw[aL,eN hi]at this;exact(nb.Ea this.1).1.1
theorem Bz{p:Px}(h:pe.jb p=ai):So p.en/\(∀e∈p.en,1<=e.k.size)/\p.en.length<=6/\p.w.length<=2/\p.m.length<=4/\p.fe.length<=20/\p.cl.length<=6/\(1<=p.now/\p.now<=1000000000)/\(0<=p.hits/\p.hits<=1000000000)/\jA.sO p.w p.m p.s p.a=ai/\(∀i,i<p.fe.length->ng.nJ p.now (el p.fe i)=ai):=by
 unfold pe.jb at h;simp only[aL,bf]at h;obtain⟨h1,h2,h3,h4,h5,h6,h7⟩:=h;unfold nQ.Nd at h2;simp only[aL,bf]at h2;obtain⟨g1,g2,g3⟩:=h2;obtain⟨s1,s2⟩:=alS g1;obtain⟨_,q2,q3,_⟩:=e8.CS g2;refine⟨s1,s2,by omega,q2,q3,h3,h4,h1,h5,g2,λi hi=> ?_⟩
 rw[bu]at h6;have:=h6 i (by simpa using hi);rw[aL]at this;exact this.1
theorem kA{p:Px}(h:pe.jb p=ai):p.Fit 48:=by
 obtain⟨_,_,a1,a2,a3,a4,a5,_,_,hp,_⟩:=Bz h;obtain⟨_,_,_,hs⟩:=e8.CS hp;unfold fG.oj at hs;simp only[aL,bf,bu]at hs;obtain⟨s1,_,s3⟩:=hs;have s4:∀q∈p.s,q.length=16:=λq hq=>by have:=s3 q hq;unfold fG.sD at this;rw[aL,bf]at this;exact this.1
 refine⟨by omega,by omega,by omega,⟨by omega,λq hq=>by rw[s4 q hq];omega, ?_⟩,by omega,by omega⟩
 have:p.s.map bT=List.replicate 3 16:=by
  rw[List.eq_replicate_iff];refine⟨by rw[bU,s1],λx hx=> ?_⟩
  obtain⟨q,hq,rfl⟩:=cX.1 hx;exact s4 q hq
 rw[this];decide
end kB

namespace sZ
open Lib (Px Cl Fe En el)
open gu (sW told)
def kF(f:Fe):En:=⟨f.k,f.st,f.li,f.t⟩
def cls(p:Px)(f:aw)(life:aw):Px×aX:=
 bif sW p f&&decide (0<=life/\life<=999999)then
  (bif decide (life>0)then kB.yu (told p f.toNat {el p.fe f.toNat with sta:=2,li:=life,st:=p.now} 2) (kF {el p.fe f.toNat with sta:=2,li:=life,st:=p.now})
   else told p f.toNat {el p.fe f.toNat with sta:=2,li:=life,st:=p.now} 2,ai)
 else(p,ak)
theorem IC{p:Px}{f life:aw}:(cls p f life).1.now=p.now/\(cls p f life).1.hits=p.hits:=by
 unfold cls;cases sW p f&&decide (0<=life/\life<=999999)with
 |false=>exact⟨rfl,rfl⟩
 |true=>cases decide (life>0)<;>exact⟨rfl,rfl⟩
end sZ

namespace il
open Lib (Px Cl Fe En el rc rf re)
open fm (has without)
open jA (eS)
open pe (jb)
open fZ (So fT)
def mL(e:En)(now:aw):aX:=GG.v e.k e.st e.li e.bo now
def jn(l:aA Cl)(c:Cl):aA Cl:=l.filter (λx=>decide (x.id<c.id))++[c]++l.filter (λx=>decide (x.id>c.id))
def lA(l:aA Cl)(id:aw):aX:=l.any λx=>decide (x.id=id)
def HW(l:aA En)(key:aq):az En:=l.find? λe=>decide (e.k=key)
def Fl(key:aq)(f:Fe):aX:=decide (f.k=key)&&decide (f.sta=1)
def NW(l:aA Fe)(key:aq):az aF:=l.findIdx? (Fl key)
def rT(key:aq):Fe:=⟨key,⟨#[]⟩,1,0,0⟩
def put(p:Px)(id:aw)(key:aq)(h:aX)(fe:aA Fe)(i:aF):Px:=
 {p with en:=bif h then fT p.en key else p.en,w:=bif h then without p.w key else p.w,m:=bif h then without p.m key else p.m,s:=(dx.val p.s p.a key).1,a:=(dx.val p.s p.a key).2,fe:=fe,cl:=jn p.cl ⟨id,key,(i:aw)+1,0,1,(el fe i).t,0⟩}
def sM(p:Px)(id:aw)(key:aq)(h:aX):Px×aw:=
 match NW p.fe key with
 |some i=>(put p id key h p.fe i,0)
 |none=>bif decide (p.fe.length<20)then(put p id key h (p.fe++[rT key]) p.fe.length,0)else(p,2)
def hit(p:Px)(id:aw)(key:aq)(e:En):Px:=
 {p with w:=(e8.val p.w p.m p.s p.a key).1,m:=(e8.val p.w p.m p.s p.a key).2.1,s:=(e8.val p.w p.m p.s p.a key).2.2.1,a:=(e8.val p.w p.m p.s p.a key).2.2.2.1,cl:=jn p.cl ⟨id,key,0,e.st,2,e.bo,p.now-e.st⟩,hits:=bif decide (p.hits<1000000000)then p.hits+1 else p.hits}
def ask(p:Px)(id:aw)(key:aq):Px×aw:=
 bif jb p&&(decide (1<=id/\id<=9)&&(eS key&&(!lA p.cl id&&decide (p.cl.length<6))))then
  match HW p.en key with
  |some e=>bif mL e p.now then(hit p id key e,0)else sM p id key ai
  |none=>sM p id key ak
 else(p,1)
theorem Cm{α:Type}(l:aA α)(q:α->aX)(p:aF->aX)(h:∀i (hi:i<l.length),p i=q l[i]):decide (Lib.fi p l.length 0≥0)=l.any q:=by
 rcases Lib.pr p l.length 0 with ⟨e,ha⟩|⟨k,_,hk,e,hp,_⟩
 ·rw[e,aK (by omega)];symm;rw[List.any_eq_false];intro x hx;obtain⟨i,hi,rfl⟩:=c7 hx;rw[<-h i hi,ha i (by omega) (by omega)];simp
 ·rw[e,aE (by omega)];symm;rw[FR];exact⟨_,bC (by omega:k<l.length),by rw[<-h k (by omega)];exact hp⟩
theorem Bp{α:Type}[Inhabited α](l:aA α)(q:α->aX)(p:aF->aX)(h:∀i (hi:i<l.length),p i=q l[i]):
  (Lib.fi p l.length 0= -1/\l.find? q=aj/\l.findIdx? q=aj)\/∃i,i<l.length/\Lib.fi p l.length 0=(i:aw)/\l.find? q=ah (el l i)/\l.findIdx? q=ah i:=by
 rcases Lib.pr p l.length 0 with ⟨e,ha⟩|⟨k,_,hk,e,hp,hb⟩
 ·have hn:∀x∈l,q x=false:=λx hx=>by obtain⟨i,hi,rfl⟩:=c7 hx;rw[<-h i hi,ha i (by omega) (by omega)]
  refine .inl ⟨e,W4.2 λx hx=>by rw[hn x hx];simp,Es.2 hn⟩
 ·have vt:k<l.length:=by omega
  have f:l.findIdx? q=ah k:=mS.2 ⟨vt,by rw[<-h k vt];exact hp,λj hj=>by rw[<-h j (by omega),hb j (by omega) hj];simp⟩;refine .inr ⟨k,vt,e, ?_,f⟩;rw[AD];exact⟨by rw[eN vt,<-h k vt];exact hp,k,vt,(eN vt).symm,λj hj=>by rw[<-h j (by omega),hb j (by omega) hj];rfl⟩
def lid(id:aw)(y:aA CV):aX:=decide (bF (y.getD 0 (.b ak))<id)
theorem Ts{l:aA Cl}{c:Cl}(cs:l.Pairwise λa b=>a.id<b.id)(hn:lA l c.id=ak):
  (rc l).take ((rc l).takeWhile (lid c.id)).length++[Cl.row c]++(rc l).drop ((rc l).takeWhile (lid c.id)).length=rc (jn l c):=by
 rw[yv,w7];have iA:∀y∈l,y.id≠c.id:=λy hy e=>by unfold lA at hn;rw[List.any_eq_false]at hn;exact hn y hy (aE e)
 obtain⟨t1,t2⟩:=Lib.zT (λx:Cl=>decide (x.id<c.id)) (λx=>decide (x.id>c.id)) l (λy hy=>by
  have:=iA y hy;by_cases h:y.id<c.id
  ·rw[aE h,aK (by omega)];rfl
  ·rw[aK h,aE (by omega)];rfl) (cs.imp λ{a b} XH h=>aE (by have:=cu h;omega))
 unfold Lib.rc;rw[OM,OK];have e:lid c.id∘Cl.row=λx:Cl=>decide (x.id<c.id):=rfl;rw[e,t1,t2];unfold jn;rw[dj,dj];rfl
end il

namespace wL
open Lib (rd el Fi)
open dJ (sN j4)
def kN(left:aQ)(i:aF)(f:Fi):aw:=bif decide (i<left.length)then iu ai f.kp (iu ak (bF (ar left i 0)) (f.t.size:aw))else f.kp
def O2(left:aQ)(i:aF)(f:Fi):Fi:=⟨f.n,f.t.extract 0 (kN left i f).toNat,kN left i f⟩
def Lm(d:aA Fi)(left:aQ):az (aA Fi):=bif sN d then ah (d.mapIdx (O2 left))else aj
theorem Lh(left:aQ)(i:aF){f:Fi}(h:0<=f.kp/\f.kp<=(f.t.size:aw)):f.kp<=kN left i f/\kN left i f<=(f.t.size:aw):=by
 unfold kN iu;cases decide (i<left.length)with
 |false=>rw[ax];omega
 |true=>simp only[au,ax];split<;>split<;>omega
theorem ok(d:aA Fi)(left:aQ)(hd:d.length<=1000):c (rd d) left=ai/\v (rd d) left=rI.res (Lm d left):=by
 refine out _ _ ?_;unfold vo b Lm;have h1:=rI.Zm d (by omega);have h2:=td.ok (rd d) (by rw[eB];omega);rw[h1.1,h1.2,au];cases hk:sN d with
 |false=>rfl
 |true=>
 rw[a_,ax,h2.1,h2.2,au,au,eB];obtain⟨q1,q2,q3⟩:=j4.1 hk;have rn:∀f∈d,0<=f.kp/\f.kp<=(f.t.size:aw):=λf hf=>by have:=q2 f hf;unfold dJ.nJ at this;simp only[aL,bf,dt,fw]at this;exact this.2.2
 refine nN Fi.row d (O2 left) (λm (i:aF) (x:aQ)=>l5 Lib.cW (λ(_ _:aQ) (_ _:aw) (y9:aQ)=>ah (y9,ai)) m left (rd d) (d.length:aw) (i:aw) x) (λx=>ah (x,ai)) (λm i L h h2 hl he=> ?_) (λm L hl=> ?_) Lib.cW (cJ (by omega))
 ·have hr:=Lh left i (rn _ (bC h));have h0:=(rn _ (bC h)).1;have hLl:(L.map Fi.row).length=L.length:=bU ..;have hs:∀n:aw,n=kN left i d[i]->eJ (L.map Fi.row) i 0 [CV.s d[i].n,CV.s (d[i].t.extract (aW 0) n.toNat),CV.i ao n]=(L.set i (O2 left i d[i])).map Fi.row:=λn hn=>by subst hn;exact kS Fi.row L i 0 _ (O2 left i d[i]) h2 (by rw[he];rfl)
  have ci:∀k n,bF (CV.i k n)=n:=λ_ _=>rfl;have cs:∀x,bw (CV.s x)=x:=λ_=>rfl;by_cases hi:i<left.length
  ·have e:kN left i d[i]=iu ai d[i].kp (iu ak (bF (ar left i 0)) (d[i].t.size:aw)):=by unfold kN;rw[aE hi];rfl
   have ib:g7 0 (iu ai d[i].kp (iu ak (bF (ar left i 0)) (d[i].t.size:aw))) (d[i].t.size:aw)=true:=by rw[<-e];simp[g7];omega
   simp only[l5,r5,Lib.dn,h,hi,h2,hLl,eB,aN,Lib.cF,aM,au,Lib.dY,JI h,WA h,WB h,cs,ci,ib,hs _ e.symm,Lib.c5 h (by omega:d.length<=9223372036854775807)]
  ·have e:kN left i d[i]=d[i].kp:=by unfold kN;rw[aK hi];rfl
   have ib:g7 0 d[i].kp (d[i].t.size:aw)=true:=by have:=rn _ (bC h);simp[g7];omega
   simp only[l5,r5,Lib.dn,h,hi,h2,hLl,eB,aN,bj,Lib.cF,aM,au,ax,Lib.dY,JI h,WA h,WB h,cs,ci,ib,hs _ e.symm,Lib.c5 h (by omega:d.length<=9223372036854775807)]
 ·simp only[l5,r5,Lib.dn,bm,bj,ax]
end wL

namespace jM
def eo(l:aQ)(i:aF):aX:=nb.v (bw (ar l i 0)) (bF (ar l i 1)) (bF (ar l i 2)) (bw (ar l i 3))
def tx(l:aQ)(i:aF):aq:=jL.sR (bw (ar l i 0)) (bF (ar l i 1)) (bF (ar l i 2)) (bw (ar l i 3))
def fs(l:aQ):aF->aF->aq->az aq
 |0,_,acc=>ah acc
 |d+1,i,acc=>if eo l i=ai then fs l d (i+1) (acc++fK.fr (tx l i))else aj
theorem G1(l:aQ)(d i:aF)(acc:aq):fs l (d+1) i acc=if eo l i=ai then fs l d (i+1) (acc++fK.fr (tx l i))else none:=rfl
def fin(o:az aq)(kf:az R)(kt:aq->az R):az R:=match o with|some x=>kt x|none=>kf
theorem M8(l:aQ)(hl:l.length<=1048576)(F:aF->aF->aq->az R)(kf:az R)(kt:aq->az R)
  (hT:∀m i acc,i<l.length->acc.size<=2000*i->(fK.fr (tx l i)).size<=2000->eo l i=ai->F (m+1) i acc=F m (i+1) (acc++fK.fr (tx l i)))
  (hF:∀m i acc,i<l.length->eo l i=ak->F (m+1) i acc=kf) (hE:∀m acc,F (m+1) l.length acc=kt acc):F Lib.cW 0 ⟨#[]⟩=fin (fs l l.length 0 ⟨#[]⟩) kf kt:=by
 have:=Lib.g8 (λn (z:aF×aq)=>F n z.1 z.2) (λz=>l.length-z.1) (λz=>z.1<=l.length/\z.2.size<=2000*z.1) (λz=>fin (fs l (l.length-z.1) z.1 z.2) kf kt) (λm z hz=>by
  obtain⟨i,acc⟩:=z;obtain⟨h1,h2⟩:=hz;dsimp only at h1 h2⊢;by_cases h:i<l.length
  ·have e:l.length-i=(l.length-(i+1))+1:=by omega
   cases ho:eo l i with
   |true=>
    right;have hs:=mU.t_ ho;have hf:(fK.fr (tx l i)).size<=2000:=by have:=fK.XD (t:=tx l i) (by unfold tx;omega);unfold tx at this⊢;omega
    exact⟨(i+1,acc++fK.fr (tx l i)),⟨h,by dsimp only;rw[Lib.ki];omega⟩,by dsimp only;omega,by dsimp only;rw[e,G1,bz ho],hT m i acc h h2 hf ho⟩
   |false=>left;rw[hF m i acc h ho,e,G1,bH (by simp[ho])];rfl
  ·left;have:i=l.length:=by omega
   subst this;rw[hE,Nat.sub_self];rfl) Lib.cW (0,⟨#[]⟩) ⟨bI _,bI _⟩ (cJ (by dsimp only;omega))
 simpa using this
def nm:aq:={data:= #[ay 110,ay 101,ay 119]}
def kh(has:aX)(x:aq):aQ:=(if has=ai then [[CV.i ao 4,CV.s nm,CV.s {data:= #[]},CV.s {data:= #[]}]]else [])++[[CV.i ao 1,CV.s nm,CV.s x,CV.s {data:= #[]}],[CV.i ao 2,CV.s nm,CV.s {data:= #[]},CV.s {data:= #[]}],[CV.i ao 3,CV.s nm,CV.s {data:= #[]},CV.s {data:= #[ay 107,ay 101,ay 112,ay 116]}]]
def val(d l:aQ):aQ×aX:=bif gE.val d then(match fs l l.length 0 ⟨#[]⟩with|some x=>(kh (vZ.val d nm).2 x,ai)|none=>([],ak))else([],ak)
theorem ok(d l:aQ)(hd:d.length<=1048576)(hl:l.length<=1048576):c d l=ai/\v d l=val d l:=by
 refine out d l ?_;have k1:=gE.ok d (by omega);have k2:=vZ.ok d {data:= #[ay 110,ay 101,ay 119]} (by omega);have e2:vZ.val d {data:= #[ay 110,ay 101,ay 119]}=vZ.val d nm:=rfl;unfold vo b val;rw[k1.1,k1.2,au];cases gE.val d with
 |false=>rfl
 |true=>
  rw[a_,ax,au,k2.1,au,k2.2,e2];have tr:∀(K0:aQ->aX->aq->aw->aQ->aQ->az (aQ×aX)) (K1:aQ->aX->aq->aw->aQ->az (aQ×aX)) (base:aQ) (kt:aq->az (aQ×aX)) (h0:∀x i,K0 l ak x i [] base=ah ([],ak)) (h1:∀x i,K1 l ak x i base=kt x),l9 Lib.cW K0 K1 Lib.cW l ak ⟨#[]⟩ 0 base=fin (fs l l.length 0 ⟨#[]⟩) (ah ([],ak)) kt:=by
   intro K0 K1 base kt h0 h1;refine M8 l hl (λm i acc=>l9 Lib.cW K0 K1 m l ak acc (i:aw) base) _ kt (λm i acc hi ha hf ho=> ?_) (λm i acc hi ho=> ?_) (λm acc=> ?_)
   ·have me:bJ ((i:aw)+1)=((i+1:aF):aw):=dg (by omega) (by omega);have t1:jL.v (bw (ar l i 0)) (bF (ar l i 1)) (bF (ar l i (1+1))) (bw (ar l i (1+1+1)))=(tx l i,ai):=by unfold jL.v;exact bz ho
    have f1:=fK.ok (tx l i);have f2:fK.val (tx l i)=(fK.fr (tx l i),ai):=by unfold fK.val;have q1:=mU.BF ho;have q2:=mU.t_ ho;rw[bz ⟨q1,di q2 (by omega)⟩]
    simp only[l9,r9,Lib.dn,Lib.cF,Lib.dY,hi,aN,aM,au,ax,t1,f1.1,f1.2,f2,a_,aE (show acc.size+(fK.fr (tx l i)).size<=4611686018427387904 by omega),me]
   ·have t1:jL.v (bw (ar l i 0)) (bF (ar l i 1)) (bF (ar l i (1+1))) (bw (ar l i (1+1+1)))=(⟨#[]⟩,ak):=by unfold jL.v;rw[bH (by intro h;have h':eo l i=true:=h;rw[ho]at h';cases h')]
    have f1:=fK.ok ⟨#[]⟩;simp only[l9,r9,Lib.dn,Lib.cF,Lib.dY,hi,aN,aM,au,t1,f1.1,bR];exact h0 acc i
   ·simp only[l9,r9,Lib.dn,bm,bj,ax];exact h1 acc _
  cases hh:(vZ.val d nm).2 with
  |true=>rw[au];refine(tr _ _ _ (λx=>ah (kh ai x,ai)) (λ_ _=>rfl) (λ_ _=>rfl)).trans ?_;cases fs l l.length 0 ⟨#[]⟩<;>rfl
  |false=>rw[ax];refine(tr _ _ _ (λx=>ah (kh ak x,ai)) (λ_ _=>rfl) (λ_ _=>rfl)).trans ?_;cases fs l l.length 0 ⟨#[]⟩<;>rfl
end jM

namespace pQ
open Lib (re rd el En Fi)
open gT (kd kp ET tx HX base bt qs auN)
open dJ (kh act sN nJ put without Hk ra Ac)
open fZ (So my fA)
open wL (Lm O2 kN Lh)
abbrev qY:aq:={data:= #[ay 110,ay 101,ay 119]}
def tl(x:aq):aA Ac:=[⟨1,qY,x,⟨#[]⟩⟩,⟨2,qY,⟨#[]⟩,⟨#[]⟩⟩,⟨3,qY,⟨#[]⟩,qs⟩]
theorem Sz(T:aq):T.extract 0 T.size=T:=Lib.GS T
theorem PI{d:aA Fi}(h:sN d=ai)(hk:∀f∈d,f.kp=(f.t.size:aw))(left:aQ):Lm d left=ah d:=by
 unfold Lm;rw[h,au];congr 1;apply lQ (by simp);intro i h1 h2;rw[List.getElem_mapIdx];have hf:=hk _ (bC h2);have hr:=Lh left i (f:=d[i]) ⟨by omega,by omega⟩;have e:kN left i d[i]=(d[i].t.size:aw):=by omega
 unfold O2;rw[e,dH,Sz];cases hd:d[i];rw[hd]at hf;dsimp only at hf⊢;rw[hf]
theorem OT(o:az aq):∀f∈base o,f.kp=(f.t.size:aw):=λf hf=>by
 cases o with
 |none=>cases hf
 |some t=>rw[aZ.1 hf]
theorem less:fA qs qY=true:=by unfold fA;rw[kD,kD];rfl
theorem art(t:aq)(k:aw)(h1:t.size<=20000)(h2:0<=k/\k<=(t.size:aw)):nJ ⟨qY,t,k⟩=true:=by unfold nJ;have:((qY.size:aF):aw)=3:=rfl;rw[this,aE (by omega),aE h2,aK (by dsimp only;omega)];rfl
theorem HF{o:az aq}{x:aq}{k:aw}(h:(bt o).size<=20000)(hx:x.size<=20000)(hk:0<=k/\k<=(x.size:aw)):sN (base o++[⟨qY,x,k⟩])=true:=by
 refine dJ.j4.2 ⟨?_,λf hf=> ?_, ?_⟩
 ·cases o<;>simp[base]
 ·rcases ba.1 hf with hf|hf
  ·exact(dJ.j4.1 (gT.uv h)).2.1 f hf
  ·rw[aZ.1 hf];exact art x k hx hk
 ·cases o with
  |none=>exact HO ..
  |some t=>exact qD.2 ⟨λy hy=>by rw[aZ.1 hy];exact less,HO ..⟩
theorem nKN:qs≠qY:=by decide
theorem SD(o:az aq)(x:aq)(k:aw):(base o++[(⟨qY,x,k⟩:Fi)]).find? (λy=>decide (y.n=qY))=ah ⟨qY,x,k⟩:=by
 cases o with
 |none=>rfl
 |some t=>rw[show base (ah t)++[(⟨qY,x,k⟩:Fi)]=[⟨qs,t,t.size⟩,⟨qY,x,k⟩]from rfl,Ko (by simp[nKN]),List.find?_cons_of_pos (by simp)]
theorem aj3(o:az aq):(base o).find? (λy=>decide (y.n=qY))=none:=by
 cases o with
 |none=>rfl
 |some t=>rw[show base (ah t)=[⟨qs,t,t.size⟩]from rfl,Ko (by simp[nKN]),List.find?_nil]
theorem alH(o:az aq)(x:aq)(k:aw):put (base o) ⟨qY,x,k⟩=base o++[⟨qY,x,k⟩]:=by
 cases o with
 |none=>rfl
 |some t=>unfold put;rw[show base (ah t)=[⟨qs,t,t.size⟩]from rfl,dD (by simpa using less),cD (by simp[less])];rfl
theorem agq(o:az aq)(x y:aq)(k m:aw):put (base o++[⟨qY,y,m⟩]) ⟨qY,x,k⟩=base o++[⟨qY,x,k⟩]:=by
 cases o with
 |none=>exact gT.xQ rfl
 |some t=>unfold put;rw[show base (ah t)++[(⟨qY,y,m⟩:Fi)]=[⟨qs,t,t.size⟩,⟨qY,y,m⟩]from rfl,dD (by simpa using less),cD (by rw[dJ.irrefl];simp),cD (by simp[less]),cD (by simp)];rfl
theorem mov(o:az aq)(x:aq)(k:aw):put (without (base o++[⟨qY,x,k⟩]) qY) ⟨qs,x,k⟩=[⟨qs,x,k⟩]:=by
 have:without (base o++[⟨qY,x,k⟩]) qY=base o:=by
  unfold without;rw[gz,cD (by simp),List.filter_nil,dp,eK];intro f hf;cases o with
  |none=>cases hf
  |some t=>rw[aZ.1 hf];simp[nKN]
 rw[this];cases o with
 |none=>rfl
 |some t=>exact gT.xQ rfl
theorem a1{o:az aq}{x:aq}(h:(bt o).size<=20000)(hx:x.size<=20000):act (base o) 1 qY x ⟨#[]⟩=ah (base o++[⟨qY,x,0⟩]):=by
 unfold act;rw[gT.uv h,show dJ.kg 1 x ⟨#[]⟩=ai from by unfold dJ.kg;simp,aM,au];have hn:Hk (base o) 1 qY x ⟨#[]⟩=ah (base o++[⟨qY,x,0⟩]):=by unfold Hk;rw[aj3];dsimp only;rw[bz rfl,alH]
 rw[hn];dsimp only;rw[HF h hx ⟨by omega,by omega⟩];rfl
theorem a2{o:az aq}{x:aq}(h:(bt o).size<=20000)(hx:x.size<=20000):act (base o++[⟨qY,x,0⟩]) 2 qY ⟨#[]⟩ ⟨#[]⟩=ah (base o++[⟨qY,x,x.size⟩]):=by
 unfold act;rw[HF h hx ⟨by omega,by omega⟩,show dJ.kg 2 ⟨#[]⟩ ⟨#[]⟩=ai from by unfold dJ.kg;simp,aM,au];have hn:Hk (base o++[⟨qY,x,0⟩]) 2 qY ⟨#[]⟩ ⟨#[]⟩=ah (base o++[⟨qY,x,x.size⟩]):=by unfold Hk;rw[SD];dsimp only;rw[bH (by omega),bz rfl,agq]
 rw[hn];dsimp only;rw[HF h hx ⟨by omega,by omega⟩];rfl
theorem a3{o:az aq}{x:aq}(h:(bt o).size<=20000)(hx:x.size<=20000):act (base o++[⟨qY,x,x.size⟩]) 3 qY ⟨#[]⟩ qs=ah (base (ah x)):=by
 unfold act;rw[HF h hx ⟨by omega,by omega⟩,show dJ.kg 3 ⟨#[]⟩ qs=ai from by unfold dJ.kg;simp,aM,au];have hn:Hk (base o++[⟨qY,x,x.size⟩]) 3 qY ⟨#[]⟩ qs=ah (base (ah x)):=by unfold Hk;rw[SD];dsimp only;rw[bH (by omega),bH (by omega),bz rfl,bH (by rintro (h|h);exact h rfl;exact nKN h),mov];rfl
 rw[hn];dsimp only;rw[gT.uv (o:=ah x) hx];rfl
theorem ari{o:az aq}{x:aq}(h:(bt o).size<=20000)(hx:x.size<=20000):kh (base o) 0 (tl x)=(base (ah x),3):=by unfold tl kh;dsimp only;rw[a1 h hx];dsimp only;unfold kh;dsimp only;rw[a2 h hx];dsimp only;unfold kh;dsimp only;rw[a3 h hx];rfl
theorem ae3(l:aA En)(Nu:∀x∈l,ET x=ai):∀(d i:aF) (acc:aq),d+i=l.length->jM.fs (re l) d i acc=ah (acc++tx (l.drop i)):=by
 intro d;induction d with
 |zero=>
  intro i acc h;have:i=l.length:=by omega
  subst this;rw[dm];exact lN ah (qz).symm
 |succ d ih=>
  intro i acc h;have hi:i<l.length:=by omega
  have h0:jM.eo (re l) i=true:=by unfold jM.eo;rw[oA hi,qw hi,show ar (re l) i 2=CV.i ao (el l i).li from qx hi,show ar (re l) i 3=CV.s (el l i).bo from qy hi];exact Nu _ (kq hi)
  have h1:jM.tx (re l) i=gT.sR l[i]:=by unfold jM.tx;rw[oA hi,qw hi,show ar (re l) i 2=CV.i ao (el l i).li from qx hi,show ar (re l) i 3=CV.s (el l i).bo from qy hi,eN hi];rfl
  rw[jM.G1,bz h0,h1,ih (i+1) _ (by omega),dF hi,Dm];rfl
end pQ

namespace jT
open Lib (En Fi Px Cl Fe el re rd rf rc rs rr)
open fZ (So my)
open dJ (sN kh Ac ra)
open gT (sR ET HX tx kp base bt sB)
open pQ (tl)
open wL (Lm)
def dk(o:az (aA En)):aA Fi:=base (o.map tx)
def es(o:az (aA En)):aA En:=o.getD []
theorem Ip(o:az (aA En)):bt (o.map tx)=tx (es o):=by cases o<;>rfl
theorem Cd(o:az (aA En)):(dk o).length<=1:=by cases o<;>simp[dk,base]
theorem ER{o:az (aA En)}(h:(tx (es o)).size<=20000):sN (dk o)=true:=gT.uv (by rw[Ip];exact h)
theorem Xn{o:az (aA En)}(h:(tx (es o)).size<=20000)(left:aQ):Lm (dk o) left=ah (dk o):=pQ.PI (ER h) (pQ.OT _) left
theorem Su{o:az (aA En)}(h:(tx (es o)).size<=20000)(he:∀e∈es o,ET e=ai):(U61.c (rd (dk o))=ai/\U61.v (rd (dk o))=re (kp (es o)))/\(yF.c (rd (dk o))=ai/\yF.v (rd (dk o))=re (kp (es o))):=by refine gT.fk (dk o) (es o) ⟨#[]⟩ (ER h) ?_ he (.inl rfl);unfold dk;rw[gT.OS,Ip];exact(qz).symm
theorem Nb{o:az (aA En)}{e:En}(h:(tx (es o)).size+(HX e).size<=20000):kh (dk o) 0 (sB (HX e))=(dk (ah (es o++[e])),2):=by unfold dk;rw[gT.Tw (by rw[Ip];exact h),Ip,jf,gT.ZV]
theorem Na{o:az (aA En)}{l:aA En}(h:(tx (es o)).size<=20000)(hl:(tx l).size<=20000):kh (dk o) 0 (tl (tx l))=(dk (ah l),3):=pQ.ari (by rw[Ip];exact h) hl
theorem aa0{o:az (aA En)}{l:aA En}(hs:(tx (es o)).size<=20000)(Nu:∀x∈l,ET x=ai):jM.val (rd (dk o)) (re l)=(ra (tl (tx l)),ai):=by
 unfold jM.val;rw[show gE.val (rd (dk o))=ai from ER hs,au,de,pQ.ae3 l Nu l.length 0 ⟨#[]⟩ (by omega),fa];have zA:(vZ.val (rd (dk o)) jM.nm).2=false:=by unfold dk;rw[gT.fileAt,show jM.nm=pQ.qY from rfl,pQ.aj3]
 dsimp only;rw[zA,show(⟨#[]⟩:aq)++tx l=tx l from lO];rfl
end jT

namespace d_
open Lib (rr rs re rf rc Px En el)
open fZ (So fT my fA)
open kB (yu)
def J0:aA aw:=[0,0,0,0,0,0,0,0,0,0,0,0,0,0,0,0]
def p0(now:aw):Px:=⟨now,[],[],[],[J0,J0,J0],0,[],[],0⟩
def mL(e:En)(now:aw):aX:=GG.v e.k e.st e.li e.bo now
def one(now:aw)(p:Px)(e:En):Px:=bif mL e now then yu p e else p
def qa(now:aw)(l:aA En):Px:=l.foldl (one now) (p0 now)
structure Inv (now:aw) (i:aF) (p:Px):Prop where
 so:So p.en
 ks:∀e∈p.en,1<=e.k.size
 en:p.en.length<=i
 w:p.w.length<=i
 m:p.m.length<=i
 s:e8.lens p.s=[16,16,16]
 fe:p.fe=[]
 cl:p.cl=[]
 now:p.now=now
 hits:p.hits=0
theorem asx(now:aw):Inv now 0 (p0 now):=⟨gd,λe h=>(nomatch h),cG _,cG _,cG _,rfl,rfl,rfl,rfl,rfl⟩
theorem TC{s:aA (aA aw)}(h:e8.lens s=[16,16,16]):s.length=3/\(∀q∈s,q.length=16)/\(s.map bT).sum=48:=by
 refine⟨?_,λq hq=> ?_, ?_⟩
 ·have:=lN bT h;unfold e8.lens at this;simpa using this
 ·have:q.length∈e8.lens s:=cX.2 ⟨q,hq,rfl⟩;rw[h]at this;simpa using this
 ·rw[show s.map bT=[16,16,16]from h];rfl
theorem Inv.fit{now:aw}{i:aF}{p:Px}(h:Inv now i p){n:aF}(hn:i<=n)(h48:48<=n):p.Fit n:=by
 obtain⟨a,b,c⟩:=TC h.s;have hq:∀q∈p.s,q.length<=n:=λq hq=>by have:=b q hq;omega
 exact⟨di h.en hn,di h.w hn,di h.m hn,⟨by omega,hq,by omega⟩,by rw[h.fe];exact bI _,by rw[h.cl];exact bI _⟩
theorem Inv.up{now:aw}{i:aF}{p:Px}(h:Inv now i p):Inv now (i+1) p:=⟨h.so,h.ks,np h.en,np h.w,np h.m,h.s,h.fe,h.cl,h.now,h.hits⟩
theorem wq{en:aA En}(h:So en)(e:En):So (my en e):=by have:=(lM.xL (fZ.CO h) e.k e.st e.li e.bo).1.1;rw[fZ.tT]at this;unfold Lib.re at this;rw[jy]at this;exact this
theorem Inv.store{now:aw}{i:aF}{p:Px}(h:Inv now i p)(e:En)(he:1<=e.k.size):Inv now (i+1) (yu p e):=by
 obtain⟨b1,b2,b3⟩:=e8.L8 p.w p.m p.s p.a e.k;have hw:=h.w;have hm:=h.m;have hn:=h.en;refine⟨?_, ?_, ?_,di b1 (by omega),di b2 (by omega),b3.trans h.s,h.fe,h.cl,h.now,h.hits⟩
 ·show So (bif _ then my (fT p.en _) e else fT p.en _);cases fm.has (e8.val p.w p.m p.s p.a e.k).1 e.k||fm.has (e8.val p.w p.m p.s p.a e.k).2.1 e.k with
  |true=>exact wq (h.so.drop _) e
  |false=>exact h.so.drop _
 ·show∀x∈(bif _ then my (fT p.en _) e else fT p.en _),1<=x.k.size;have hd:∀x∈fT p.en (e8.val p.w p.m p.s p.a e.k).2.2.2.2,1<=x.k.size:=λx hx=>h.ks x (c_.1 hx).1;cases fm.has (e8.val p.w p.m p.s p.a e.k).1 e.k||fm.has (e8.val p.w p.m p.s p.a e.k).2.1 e.k with
  |true=>
   intro x hx;rw[au]at hx;unfold my at hx;rcases ba.1 hx with hx|hx
   ·rcases ba.1 hx with hx|hx
    ·exact hd x (c_.1 hx).1
    ·rw[aZ]at hx;rw[hx];exact he
   ·exact hd x (c_.1 hx).1
  |false=>exact hd
 ·show(bif _ then my (fT p.en _) e else fT p.en _).length<=i+1;have d:=fZ.wZ p.en (e8.val p.w p.m p.s p.a e.k).2.2.2.2;have q:=fZ.rY (fT p.en (e8.val p.w p.m p.s p.a e.k).2.2.2.2) e (h.so.drop _);cases fm.has (e8.val p.w p.m p.s p.a e.k).1 e.k||fm.has (e8.val p.w p.m p.s p.a e.k).2.1 e.k with
  |true=>rw[au];omega
  |false=>rw[ax];omega
theorem zx{e:En}{now:aw}(h:mL e now=ai):nb.v e.k e.st e.li e.bo=true:=by
 unfold mL GG.v at h;cases hq:nb.v e.k e.st e.li e.bo with
 |true=>rfl
 |false=>rw[show wJ.v e.k e.st e.li e.bo=ak from hq]at h;cases h
theorem rP(now:aw)(l:aA En):∀i,i<=l.length->Inv now i (qa now (l.take i)):=by
 intro i;induction i with
 |zero=>intro _;exact asx now
 |succ i ih=>
  intro hi;have h:=ih (by omega);have e:qa now (l.take (i+1))=one now (qa now (l.take i)) l[i]:=by unfold qa;rw[cw (by omega),kU];rfl
  rw[e];unfold one;cases hf:mL l[i] now with
  |true=>exact h.store _ (nb.Ea (zx hf)).1.1
  |false=>exact h.up
theorem xW(now:aw)(l:aA En)(i:aF)(h:i<l.length):qa now (l.take (i+1))=one now (qa now (l.take i)) (el l i):=by unfold qa;rw[cw h,kU,eN h];rfl
end d_

namespace fQ
open Lib (rr rs re rf rc Px)
theorem ok(p:Px)(hp:p.Fit 1048576):c p.now (re p.en) (rs p.w) (rs p.m) (rr p.s) p.a (rf p.fe) (rc p.cl) p.hits=ai/\v p.now (re p.en) (rs p.w) (rs p.m) (rr p.s) p.a (rf p.fe) (rc p.cl) p.hits=(p.now,re p.en,rs p.w,rs p.m,rr p.s,p.a,rf p.fe,rc p.cl,p.hits):=by have he:=hp.en;have hf:=hp.fe;have hc:=hp.cl;have h2:=gb.ok p.w p.m p.s p.a hp.w hp.m ⟨hp.s.1,hp.s.2.1⟩;exact out _ _ _ _ _ _ _ _ _ (by unfold vo b;rw[h2.1,h2.2,au,Lib.cj (b:=48) (by simp[aP,de];omega) (by simp[aP,de];omega),Lib.cj (b:=56) (by simp[aP,dN];omega) (by simp[aP,dN];omega),Lib.cj (b:=72) (by simp[aP,fg];omega) (by simp[aP,fg];omega)];rfl)
end fQ

namespace qH
open Lib (rr rs re rf rc Px)
def later(now n:aw):aw:=bif decide (now>1000000000-n%1000)then 1000000000 else bJ (now+n%1000)
def val(p:Px)(n:aw):Px:={p with now:=later p.now n}
theorem tm(n:aw):(0<=cz n 1000->cz n 1000=n%1000)/\(cz n 1000<0->cz n 1000+1000=n%1000):=by
 rw[Int.tmod_eq_emod];by_cases h:0<=n\/(1000:aw)∣n
 ·rw[bz h];constructor<;>omega
 ·rw[bH h];have hd:¬(1000:aw)∣n:=λx=>h (.inr x);have:n%1000≠0:=λe=>hd (Int.dvd_of_emod_eq_zero e);constructor<;>simp<;>omega
theorem ok(p:Px)(n:aw)(hp:p.Fit 1048576):c p.now (re p.en) (rs p.w) (rs p.m) (rr p.s) p.a (rf p.fe) (rc p.cl) p.hits n=ai/\v p.now (re p.en) (rs p.w) (rs p.m) (rr p.s) p.a (rf p.fe) (rc p.cl) p.hits n=((val p n).now,re p.en,rs p.w,rs p.m,rr p.s,p.a,rf p.fe,rc p.cl,p.hits):=by
 have h:=fQ.ok p hp;refine out _ _ _ _ _ _ _ _ _ _ ?_;have t:=tm n;unfold vo b val later;simp only[Lib.lt,h.1,h.2,au];by_cases hn:cz n 1000<0
 ·have e:=t.2 hn;rw[aE hn,au,e,dg (x:=n%1000) (by omega) (by omega),dg (x:=1000000000-n%1000) (by omega) (by omega)];cases decide (p.now>1000000000-n%1000)<;>rfl
 ·have e:=t.1 (by omega);rw[aK hn,ax,e,dg (x:=1000000000-n%1000) (by omega) (by omega)];cases decide (p.now>1000000000-n%1000)<;>rfl
end qH

namespace s_
open Lib (rr rs re rf rc Px Cl el Kb VV VW VX VY VZ V0)
def val(p:Px)(id:aw):Px:={p with cl:=p.cl.filter λc=> !decide (c.id=id)}
theorem ok(p:Px)(id:aw)(hp:p.Fit 1048576):c p.now (re p.en) (rs p.w) (rs p.m) (rr p.s) p.a (rf p.fe) (rc p.cl) p.hits id=ai/\v p.now (re p.en) (rs p.w) (rs p.m) (rr p.s) p.a (rf p.fe) (rc p.cl) p.hits id=(p.now,re p.en,rs p.w,rs p.m,rr p.s,p.a,rf p.fe,rc (val p id).cl,p.hits):=by
 have h:=fQ.ok p hp;have hc:=hp.cl;refine out _ _ _ _ _ _ _ _ _ _ ?_;unfold vo b;simp only[Lib.lt,h.1,h.2,au];have key:=mb p.cl.length (λn (i:aF) (x:aQ)=>l4 Lib.cW (λ(_ _ _:aw) (_ _ _ _:aQ) (_:aw) (_ _:aQ) (_ _ _ _ y37 y38 y39:aw) (y40 y41 y42 y43 V6 y45:aQ)=>ah (y37,y40,y41,y42,y43,y38,V6,y45,y39)) n id (i:aw) p.now (re p.en) (rs p.w) (rs p.m) (rr p.s) p.a (rf p.fe) (rc p.cl) p.hits 0 0 0 p.now p.a p.hits (re p.en) (rs p.w) (rs p.m) (rr p.s) (rf p.fe) x) (λi=>rc ((p.cl.take i).filter λc=> !decide (c.id=id))) (ah (p.now,re p.en,rs p.w,rs p.m,rr p.s,p.a,rf p.fe,rc (val p id).cl,p.hits)) (λn i hi=>by
  have hlen:((p.cl.take i).filter λc=> !decide (c.id=id)).length<=i:=by refine di (eC ..) ?_;rw[eD];omega
  have e:(p.cl.take (i+1)).filter (λc=> !decide (c.id=id))=(p.cl.take i).filter (λc=> !decide (c.id=id))++(bif !decide ((el p.cl i).id=id)then [el p.cl i]else []):=by rw[cw hi,gz,eN hi];cases hd:decide (p.cl[i].id=id)<;>simp[hd]
  rw[e];simp only[l4,r4,fg,Lib.dn,hi,aN,Lib.cF,aM,au,Lib.dY,Kb hi,VV hi,VW hi,VX hi,VY hi,VZ hi,V0 hi,bw,bF,pO,bA,Lib.c5 hi (by omega:p.cl.length<=9223372036854775807)];rw[Lib.cj (by omega) (by omega),au,show((el p.cl i).id !=id)= !decide ((el p.cl i).id=id)from rfl];cases decide ((el p.cl i).id=id)with
  |true=>rw[a_,ax,ax,dp]
  |false=>rw[bR,au,au];unfold Lib.rc;rw[dj];rfl) (λn=>by
  simp only[l4,r4,fg,Lib.dn,bm,bj,ax,dE];rfl) Lib.cW 0 (bI _) (cJ (by omega))
 exact key
end s_

namespace gF
open Lib (En Fi Px Cl Fe el)
open gT (kp ET)
open sZ (cls kF)
open gu (B9 CY)
open il (lA)
open jT (dk es)
structure Wo where
 p:Px
 o:az (aA En)
 cd:aA aw
 bd:aA En
structure Ev where
 k:aw
 id:aw
 t:aq
 n:aw
 l:aQ
def flag(b:aX):aw:=bif b then 0 else 1
def jq(w:Wo):aA En:=(kp (es w.o)).filter λe=>d_.mL e w.p.now
def closed(w:Wo)(id life:aw):Wo×aw:=
 let q:=cls w.p id life
 (bif q.2&&decide (life>0)then{w with p:=q.1,o:=ah (es w.o++[kF (el q.1.fe id.toNat)]),bd:=w.bd++[kF (el q.1.fe id.toNat)]}else{w with p:=q.1},flag q.2)
def tB(w:Wo):Wo:={w with p:=d_.qa w.p.now (jq w),o:=ah (jq w)}
def act(w:Wo)(e:Ev):Wo×aw:=
 bif decide (e.k=1)then({w with p:=(il.ask w.p e.id e.t).1},(il.ask w.p e.id e.t).2)
 else bif decide (e.k=2)then({w with p:=(CY w.p e.id e.t).1},flag (CY w.p e.id e.t).2)
 else bif decide (e.k=3)then closed w e.id (e.n%1000000)
 else bif decide (e.k=4)then({w with p:=(B9 w.p e.id).1},flag (B9 w.p e.id).2)
 else bif decide (e.k=5)then({w with p:=qH.val w.p e.n},0)
 else bif decide (e.k=6)then({w with p:=s_.val w.p e.id},flag (lA w.p.cl e.id))
 else(tB w,0)
def step(w:Wo)(e:Ev):Wo:={(act w e).1 with cd:=w.cd++[(act w e).2]}
def iz(e:Ev):aX:=decide (1<=e.k/\e.k<=7)&&(decide (0<=e.id/\e.id<=30)&&(decide (e.t.size<=60)&&(decide (0<=e.n)&&decide (e.l.length<=4))))
end gF

namespace qZ
open Lib (Px Cl Fe En el)
open fm (has gK)
open jA (eS sO)
open nQ (vh HV Nd)
open ng (nJ lD apart)
open pe (HU jb)
open fZ (So fA)
def Iw(now:aw)(nf:aF)(c:Cl):aX:=
 decide (1<=c.id/\c.id<=9)&&(eS c.k&&(decide (1<=c.sta/\c.sta<=3)&&(decide (0<=c.fe/\c.fe<=(nf:aw))&&(decide ((c.mM.size:aw)<=400)&&(decide (0<=c.fr/\c.fr<=now)&&decide (0<=c.age))))))
structure g6 (p:Px):Prop where
 now:1<=p.now/\p.now<=1000000000
 en:∀e∈p.en,vh e=ai
 so:So p.en
 ek:∀e∈p.en,e.k∈p.w\/e.k∈p.m
 pol:sO p.w p.m p.s p.a=ai
 len:p.w.length+p.m.length=p.en.length
 fl:p.fe.length<=20
 fe:∀f∈p.fe,nJ p.now f=ai
 ap:p.fe.Pairwise λf g=>lD g f=ak
 cll:p.cl.length<=6
 cl:∀c∈p.cl,Iw p.now p.fe.length c=ai
 cs:p.cl.Pairwise λc d=>c.id<d.id
 hits:0<=p.hits/\p.hits<=1000000000
theorem UK{α:Type}(R:α->α->Prop)(tr:∀x y z,R x y->R y z->R x z)(l:aA α)(h:∀i (hi:i+1<l.length),R (l[i]) (l[i+1])):l.Pairwise R:=by
 rw[dC];have adj:∀d i (hi:i+d+1<l.length),R (l[i]) (l[i+d+1]):=by
  intro d;induction d with
  |zero=>intro i hi;exact h i hi
  |succ d ih=>intro i hi;exact tr _ _ _ (ih i (by omega)) (h (i+d+1) (by omega))
 intro i j hi hj Pp;have:=adj (j-i-1) i (by omega);simp only[show i+(j-i-1)+1=j by omega]at this;exact this
theorem Ll(x y z:aq)(a:fA x y=ai)(b:fA y z=ai):fA x z=true:=lM.ph _ _ _ a b
theorem alz{p:Px}(h:jb p=ai):g6 p:=by
 obtain⟨h1,h2,h3,h4,h5,h6,h7⟩:_/\_/\_/\_/\_/\_/\_:=by unfold jb at h;simpa only[aL,bf,bu,gV]using h
 obtain⟨g1,g2,g3⟩:_/\_/\_:=by unfold Nd at h2;simpa only[aL,bf,bu,gV]using h2
 have e1:∀i (hi:i<p.en.length),vh p.en[i]=ai/\(0<i->fA (el p.en (i-1)).k p.en[i].k=ai)/\(p.en[i].k∈p.w\/p.en[i].k∈p.m):=λi hi=>by have:=g1 i hi;unfold HV at this;simp only[aL,dM,bf,eN hi,gK]at this;exact⟨this.1,λh0=>this.2.1.resolve_left (by omega),this.2.2⟩
 have c1:∀i (hi:i<p.cl.length),Iw p.now p.fe.length p.cl[i]=ai/\(0<i->(el p.cl (i-1)).id<p.cl[i].id):=λi hi=>by have:=h7 i hi;unfold HU at this;unfold Iw;simp only[aL,dM,bf,eN hi]at this⊢;exact⟨⟨this.1,this.2.2⟩,λh0=>this.2.1.resolve_left (by omega)⟩
 have f1:∀i (hi:i<p.fe.length),nJ p.now p.fe[i]=ai/\∀j (hj:j<i),lD p.fe[i] (p.fe[j]'(by omega))=false:=λi hi=>by
  have:=h6 i hi;unfold apart at this;simp only[bu,gV,eN hi]at this;refine⟨this.1,λj hj=> ?_⟩
  have h:=this.2 j hj;rw[eN (show j<p.fe.length by omega)]at h;simpa using h
 refine⟨h1,λe he=> ?_, ?_,λe he=> ?_,g2,g3,h3,λf hf=> ?_, ?_,h4,λc hc=> ?_, ?_,h5⟩
 ·obtain⟨i,hi,rfl⟩:=c7 he;exact(e1 i hi).1
 ·refine UK (λx y:En=>fA x.k y.k=ai) (λx y z a b=>Ll _ _ _ a b) p.en λi hi=> ?_;have:=(e1 (i+1) hi).2.1 (by omega);rw[Qq,eN (show i<p.en.length by omega)]at this;exact this
 ·obtain⟨i,hi,rfl⟩:=c7 he;exact(e1 i hi).2.2
 ·obtain⟨i,hi,rfl⟩:=c7 hf;exact(f1 i hi).1
 ·rw[dC];intro i j hi hj Pp;exact(f1 j hj).2 i Pp
 ·obtain⟨i,hi,rfl⟩:=c7 hc;exact(c1 i hi).1
 ·refine UK (λc d:Cl=>c.id<d.id) (λx y z a b=>Int.lt_trans a b) p.cl λi hi=> ?_;have:=(c1 (i+1) hi).2 (by omega);rw[Qq,eN (show i<p.cl.length by omega)]at this;exact this
theorem aj5{p:Px}(h:g6 p):jb p=true:=by
 unfold jb Nd;simp only[aL,bf,bu,gV];refine⟨h.now,⟨λi hi=> ?_,h.pol,h.len⟩,h.fl,h.cll,h.hits,λi hi=>⟨?_, ?_⟩,λi hi=> ?_⟩
 ·unfold HV;simp only[aL,dM,bf,eN hi,gK];refine⟨h.en _ (bC hi), ?_,h.ek _ (bC hi)⟩
  by_cases h0:i=0
  ·exact .inl h0
  ·right;rw[eN (show i-1<p.en.length by omega)];exact dC.1 h.so (i-1) i (by omega) hi (by omega)
 ·rw[eN hi];exact h.fe _ (bC hi)
 ·unfold apart;simp only[bu,gV];intro j hj;rw[eN hi,eN (show j<p.fe.length by omega),dC.1 h.ap j i (by omega) hi hj];rfl
 ·have hc:=h.cl _ (bC hi);unfold Iw at hc;unfold HU;simp only[aL,dM,bf,eN hi]at hc⊢;refine⟨hc.1, ?_,hc.2⟩
  by_cases h0:i=0
  ·exact .inl h0
  ·right;rw[eN (show i-1<p.cl.length by omega)];exact dC.1 h.cs (i-1) i (by omega) hi (by omega)
theorem od{p:Px}:jb p=ai↔g6 p:=⟨alz,aj5⟩
end qZ

namespace H2
open fm (has without gK lL)
open jA (eS nE sO)
open fG (oj NK sD)
theorem jE{w m:aA aq}{s:aA (aA aw)}{a:aw}:sO w m s a=ai↔((∀k∈w++m,eS k=ai)/\(w++m).Nodup)/\w.length<=2/\m.length<=4/\oj s a=true:=by unfold sO;rw[aL,aL,aL,bf,bf,e8.wg]
theorem HA{s:aA (aA aw)}{a:aw}:oj s a=ai↔s.length=3/\(0<=a/\a<=63)/\∀q∈s,q.length=16/\∀n∈q,0<=n/\n<=15:=by unfold oj sD NK;simp only[aL,bf,bu]
theorem LQ{s:aA (aA aw)}{a:aw}(key:aq)(h:oj s a=ai):oj (dx.val s a key).1 (dx.val s a key).2=true:=by
 unfold dx.val;rw[h,au];obtain⟨h1,h2,h3⟩:=HA.1 h;obtain⟨b1,b2⟩:=dx.tq (key:=key) h1 h3;by_cases ha:a+1=64
 ·rw[aE ha,au,HA];unfold dx.half;refine⟨by rw[bU];exact b1,by omega,λq hq=> ?_⟩
  obtain⟨r,hr,rfl⟩:=cX.1 hq;refine⟨by rw[bU];exact(b2 r hr).1,λn hn=> ?_⟩
  obtain⟨k,hk,rfl⟩:=cX.1 hn;have:=(b2 r hr).2 k hk;rw[ic this.1];omega
 ·rw[aK ha,ax,HA];exact⟨b1,by omega,b2⟩
theorem Hj{k:aq}(h:eS k=ai):k≠⟨#[]⟩:=by intro e;rw[e]at h;exact cK h (by decide)
theorem tZ{w m:aA aq}{s:aA (aA aw)}{a:aw}{key:aq}(h:sO w m s a=ai)(hk:eS key=ai):
  sO (e8.val w m s a key).1 (e8.val w m s a key).2.1 (e8.val w m s a key).2.2.1 (e8.val w m s a key).2.2.2.1=ai
  /\∀x,x∈(e8.val w m s a key).1\/x∈(e8.val w m s a key).2.1↔(x∈w\/x∈m\/x=key)/\x≠(e8.val w m s a key).2.2.2.2:=by
 obtain⟨⟨k1,nd⟩,l1,l2,hs⟩:=jE.1 h;have Nx:=LQ key hs;have kn:=Hj hk;have wn:∀x,x∈w\/x∈m->x≠⟨#[]⟩:=λx hx=>Hj (k1 x (ba.2 hx));unfold e8.val;rw[h,hk,aM,au];generalize dx.val s a key=V at Nx;obtain⟨S,A⟩:=V;dsimp only at Nx⊢;rw[eQ]at nd;obtain⟨n1,n2,n3⟩:=nd;have hwo:∀l:aA aq,l.Nodup->(without l key).Nodup/\(∀x,x∈without l key↔x∈l/\x≠key):=λl hl=>by unfold without;exact⟨hl.sublist jQ,λx=>by simp⟩
 cases h1:has w key with
 |true=>
  have hm:=gK.1 h1;obtain⟨o1,o2⟩:=hwo w n1;have o3:=fm.pE h1;dsimp only[au];refine⟨jE.2 ⟨⟨λk hx=> ?_, ?_⟩,by simp;omega,l2,Nx⟩,λx=> ?_⟩
  ·simp only[ba,aZ,o2]at hx;rcases hx with (hx|rfl)|hx
   ·exact k1 _ (ba.2 (.inl hx.1))
   ·exact hk
   ·exact k1 _ (ba.2 (.inr hx))
  ·simp only[eQ,ba,aZ,o2];grind
  ·simp only[ba,aZ,o2];grind
 |false=>
  rw[ax];have hw:=lL.1 h1;cases h2:has m key with
  |true=>
   have hm:=gK.1 h2;obtain⟨o1,o2⟩:=hwo m n2;have o3:=fm.pE h2;dsimp only[au];refine⟨jE.2 ⟨⟨λk hx=> ?_, ?_⟩,l1,by simp;omega,Nx⟩,λx=> ?_⟩
   ·simp only[ba,aZ,o2]at hx;rcases hx with hx|hx|rfl
    ·exact k1 _ (ba.2 (.inl hx))
    ·exact k1 _ (ba.2 (.inr hx.1))
    ·exact hk
   ·simp only[eQ,ba,aZ,o2];grind
   ·simp only[ba,aZ,o2];grind
  |false=>
   rw[ax];have hmn:=lL.1 h2;have nW:∀x,x∈w++[key]\/x∈m↔x∈w\/x∈m\/x=key:=λx=>by simp only[ba,aZ];grind
   have SU:∀x,x∈w++[key]\/x∈m->eS x=true:=λx hx=>by
    rcases(nW x).1 hx with hx|hx|rfl
    ·exact k1 _ (ba.2 (.inl hx))
    ·exact k1 _ (ba.2 (.inr hx))
    ·exact hk
   have Je:(w++[key]).Nodup/\∀x∈w++[key],x∉m:=by simp only[eQ,ba,aZ];grind
   have hlen:(w++[key]).length=w.length+1:=by simp
   generalize w++[key]=W at nW SU Je hlen;obtain⟨d1,d2⟩:=Je;by_cases h3:W.length<=2
   ·rw[aE h3,au];refine⟨jE.2 ⟨⟨λk hx=>SU k (ba.1 hx), ?_⟩,h3,l2,Nx⟩,λx=> ?_⟩
    ·simp only[eQ];grind
    ·dsimp only;rw[nW];grind
   ·rw[aK h3,ax];cases W with
    |nil=>simp at hlen
    |cons x0 t=>
     rw[la]at d1;rw[dc]at hlen;have hg:(x0::t).getD 0 ⟨#[]⟩=x0:=rfl;have ht:(x0::t).tail=t:=rfl;rw[hg,ht];by_cases h4:m.length<4
     ·rw[aE h4,au];refine⟨jE.2 ⟨⟨λk hx=>SU k ?_, ?_⟩,by dsimp only;omega,by simp;omega,Nx⟩,λx=> ?_⟩
      ·simp only[ba,aZ,cC]at hx⊢;grind
      ·simp only[eQ,ba,aZ,cC]at d2⊢;grind
      ·dsimp only;rw[<-nW];simp only[ba,aZ,cC];grind
     ·rw[aK h4,ax];cases m with
      |nil=>simp at h4
      |cons y0 u=>
       rw[la]at n2;rw[dc]at l2 h4;have hg2:(y0::u).getD 0 ⟨#[]⟩=y0:=rfl;have G9:(y0::u).tail=u:=rfl;rw[hg2,G9];cases decide (mH.val S A x0>mH.val S A y0)with
       |true=>
        rw[au];refine⟨jE.2 ⟨⟨λk hx=>SU k ?_, ?_⟩,by dsimp only;omega,by simp;omega,Nx⟩,λx=> ?_⟩
        ·simp only[ba,aZ,cC]at hx⊢;grind
        ·simp only[eQ,ba,aZ,cC]at d2⊢;grind
        ·dsimp only;rw[<-nW];simp only[ba,aZ,cC]at d2⊢;grind
       |false=>
        rw[ax];refine⟨jE.2 ⟨⟨λk hx=>SU k ?_, ?_⟩,by dsimp only;omega,by simp;omega,Nx⟩,λx=> ?_⟩
        ·simp only[ba,cC]at hx⊢;grind
        ·simp only[eQ,la,cC]at d2⊢;grind
        ·dsimp only;rw[<-nW];simp only[cC]at d2⊢;grind
end H2

namespace zZ
open Lib (Px Cl Fe En el)
open fm (has without gK lL)
open jA (eS sO)
open nQ (vh)
open ng (nJ lD)
open pe (jb)
open fZ (So fA fT my)
open kB (yu)
open qZ (g6 Iw od)
open H2 (jE tZ)
open gu (sW told B9 CY iT)
theorem aaX{p:Px}(h:g6 p){n:aw}(h1:p.now<=n)(h2:n<=1000000000):g6 {p with now:=n}:=by
 have:=h.now;refine⟨⟨by dsimp only;omega,h2⟩,h.en,h.so,h.ek,h.pol,h.len,h.fl,λf hf=> ?_,h.ap,h.cll,λc hc=> ?_,h.cs,h.hits⟩
 ·have:=h.fe f hf;unfold nJ at this⊢;simp only[aL,bf]at this⊢;exact⟨this.1,this.2.1,this.2.2.1,this.2.2.2.1,this.2.2.2.2.1,BQ this.2.2.2.2.2 h1⟩
 ·have:=h.cl c hc;unfold Iw at this⊢;simp only[aL,bf]at this⊢;exact⟨this.1,this.2.1,this.2.2.1,this.2.2.2.1,this.2.2.2.2.1,⟨this.2.2.2.2.2.1.1,BQ this.2.2.2.2.2.1.2 h1⟩,this.2.2.2.2.2.2⟩
theorem BD{p:Px}{n:aF}{g:Fe}{st:aw}(h:g6 p)(hn:n<p.fe.length)(hk:g.k=(el p.fe n).k)(hg:nJ p.now g=ai)(hs:g.sta=1->(el p.fe n).sta=1)(h1:1<=st/\st<=3):g6 (told p n g st):=by
 rw[eN hn]at hk hs;refine⟨h.now,h.en,h.so,h.ek,h.pol,h.len, ?_,λf hf=> ?_, ?_, ?_,λc hc=> ?_, ?_,h.hits⟩
 ·show(p.fe.set n g).length<=20;rw[cE];exact h.fl
 ·rcases jK hf with q|rfl
  ·exact h.fe f q
  ·exact hg
 ·show(p.fe.set n g).Pairwise _;rw[dC];intro i j hi hj Pp;rw[cE]at hi hj;have:=dC.1 h.ap i j hi hj Pp;rw[RZ,RZ];unfold lD at this⊢;by_cases e1:n=i
  ·by_cases e2:n=j
   ·omega
   ·subst e1;simp only[if_true,e2,if_false];rw[hk];by_cases e3:g.sta=1
    ·rw[hs e3]at this;rw[e3];exact this
    ·rw[aK e3];simp
  ·by_cases e2:n=j
   ·subst e2;simp only[e1,if_true,if_false];rw[hk];by_cases e3:g.sta=1
    ·rw[hs e3]at this;rw[e3];exact this
    ·rw[aK e3];simp
   ·simp only[e1,e2,if_false];exact this
 ·show(uQ.nU p.cl n st g.t).length<=6;unfold uQ.nU;rw[bU];exact h.cll
 ·have I7:c∈uQ.nU p.cl n st g.t:=hc;unfold uQ.nU at I7;obtain⟨d,hd,rfl⟩:=cX.1 I7;have h2:=h.cl d hd;show Iw p.now (p.fe.set n g).length _=ai;rw[cE];unfold uQ.ec;cases decide (d.fe=(n:aw)+1)&&decide (d.sta=1)with
  |false=>exact h2
  |true=>rw[au];unfold Iw at h2⊢;unfold nJ at hg;simp only[aL,bf]at h2 hg⊢;exact⟨h2.1,h2.2.1,h1,h2.2.2.2.1,hg.2.1,h2.2.2.2.2.2⟩
 ·show(uQ.nU p.cl n st g.t).Pairwise _;unfold uQ.nU;rw[jy];refine h.cs.imp λ{a b} XH=> ?_;have e:∀d:Cl,(uQ.ec n st g.t d).id=d.id:=λd=>by unfold uQ.ec;cases decide (d.fe=(n:aw)+1)&&decide (d.sta=1)<;>rfl
  rw[e,e];exact XH
theorem IQ{p:Px}(h:g6 p){n:aF}(hn:n<p.fe.length):eS (el p.fe n).k=ai/\((el p.fe n).t.size:aw)<=400/\(1<=(el p.fe n).sta/\(el p.fe n).sta<=3)/\(0<=(el p.fe n).li/\(el p.fe n).li<=999999)/\0<=(el p.fe n).st/\(el p.fe n).st<=p.now:=by have:=h.fe _ (kq hn);unfold nJ at this;simpa only[aL,bf]using this
theorem Sj{p:Px}(f:aw)(h:g6 p):g6 (B9 p f).1:=by
 unfold B9;cases ho:sW p f with
 |false=>exact h
 |true=>obtain⟨n,rfl,hn,_,h1⟩:=iT ho;obtain⟨g1,g2,g3,g4,g5⟩:=IQ h hn;refine BD h hn rfl ?_ (λe=>cK e (by dsimp only;omega)) (by omega);unfold nJ;simp only[aL,bf];exact⟨g1,g2,by omega,g4,g5⟩
theorem UJ{p:Px}(f:aw)(t:aq)(h:g6 p):g6 (CY p f t).1:=by
 unfold CY;cases ho:sW p f&&(decide (1<=t.size/\t.size<=40)&&decide ((el p.fe f.toNat).t.size+t.size<=400))with
 |false=>exact h
 |true=>
  simp only[aL,bf]at ho;obtain⟨n,rfl,hn,_,h1⟩:=iT ho.1;obtain⟨g1,g2,g3,g4,g5⟩:=IQ h hn;rw[dH]at ho;refine BD h hn rfl ?_ (λ_=>h1) (by omega);unfold nJ;simp only[aL,bf];refine⟨g1, ?_,g3,g4,g5⟩
  show((((el p.fe n).t++t).size:aF):aw)<=400;rw[dK];omega
def ON(en:aA En)(w m:aA aq):Prop:=∀k,k∈w\/k∈m↔∃e∈en,e.k=k
theorem yt{en:aA En}(h:So en):(en.map λe=>e.k).Nodup:=by rw[lJ,jy];refine h.imp λ{a b} XH e=> ?_;rw[e]at XH;unfold fA at XH;rw[lM.oV]at XH;cases XH
theorem BA{p:Px}(h:g6 p):ON p.en p.w p.m:=by
 obtain⟨⟨_,nd⟩,_⟩:=jE.1 h.pol;have ne:=yt h.so;have sub:(p.en.map λe=>e.k)⊆p.w++p.m:=λx hx=>by obtain⟨e,he,rfl⟩:=cX.1 hx;exact ba.2 (h.ek e he)
 intro k;constructor
 ·intro hk;have hk:k∈p.w++p.m:=ba.2 hk;refine Ay λhn=> ?_;have nn:(k::p.en.map λe=>e.k).Nodup:=la.2 ⟨λhx=>hn (by obtain⟨e,he,q⟩:=cX.1 hx;exact⟨e,he,q⟩),ne⟩;have:=nn.length_le_of_subset (l₂:=p.w++p.m) (λx hx=>by
   rcases cC.1 hx with rfl|hx
   ·exact hk
   ·exact sub hx)
  have hl:=h.len;simp only[dc,bU,bP]at this;omega
 ·rintro ⟨e,he,rfl⟩;exact h.ek e he
theorem of_same{en:aA En}{w m:aA aq}{s:aA (aA aw)}{a:aw}(h:ON en w m)(so:So en)(hp:sO w m s a=ai):(∀e∈en,e.k∈w\/e.k∈m)/\w.length+m.length=en.length:=by
 obtain⟨⟨_,nd⟩,_⟩:=jE.1 hp;refine⟨λe he=>(h _).2 ⟨e,he,rfl⟩, ?_⟩
 have:=((List.perm_ext_iff_of_nodup nd (yt so)).2 λx=>by rw[ba,h x,cX]).length_eq;rw[bP,bU]at this;exact this
theorem jo{en:aA En}{k:aq}{e:En}:e∈fT en k↔e∈en/\e.k≠k:=by unfold fT;simp
theorem j5{en:aA En}{x e:En}:x∈my en e↔x=e\/(x∈en/\x.k≠e.k):=by
 unfold my;simp only[ba,c_,aZ,dt,iJ,fw];constructor
 ·rintro ((⟨h1,h2⟩|rfl)|⟨h1,h2⟩)
  ·refine .inr ⟨h1,λe2=> ?_⟩;rw[e2]at h2;unfold fA at h2;rw[lM.oV]at h2;cases h2
  ·exact .inl rfl
  ·exact .inr ⟨h1,h2.2⟩
 ·rintro (rfl|⟨h1,h2⟩)
  ·exact .inl (.inr rfl)
  ·cases hl:fA x.k e.k with
   |true=>exact .inl (.inl ⟨h1,rfl⟩)
   |false=>exact .inr ⟨h1,rfl,h2⟩
theorem wq{en:aA En}(h:So en)(e:En):So (my en e):=by have:=(lM.xL (fZ.CO h) e.k e.st e.li e.bo).1.1;rw[fZ.tT]at this;unfold Lib.re at this;rw[jy]at this;exact this
theorem L5{p:Px}{e:En}(h:g6 p)(he:vh e=ai):g6 (yu p e):=by
 have hk:eS e.k=true:=by have:=(nb.Ea he).1;unfold eS;exact aE (by omega)
 obtain⟨t1,t2⟩:=tZ h.pol hk;have sm:=BA h;unfold yu;generalize e8.val p.w p.m p.s p.a e.k=V at t1 t2;obtain⟨W,M,S,A,G⟩:=V;dsimp only at t1 t2⊢;have key:∀en',So en'->(∀x∈en',vh x=ai)->ON en' W M->g6 ⟨p.now,en',W,M,S,A,p.fe,p.cl,p.hits⟩:=λen' o1 o2 o3=>by obtain⟨q1,q2⟩:=of_same o3 o1 t1;exact⟨h.now,o2,o1,q1,t1,q2,h.fl,h.fe,h.ap,h.cll,h.cl,h.cs,h.hits⟩
 have d1:So (fT p.en G):=h.so.drop G;have d2:∀x∈fT p.en G,vh x=true:=λx hx=>h.en x (jo.1 hx).1;cases hh:has W e.k||has M e.k with
 |true=>
  rw[au];have gh:e.k∈W\/e.k∈M:=by rwa[dM,gK,gK]at hh
  refine key _ (wq d1 e) (λx hx=> ?_) λk=> ?_
  ·rcases j5.1 hx with rfl|q
   ·exact he
   ·exact d2 x q.1
  ·rw[t2 k];have hg:=((t2 e.k).1 gh).2;constructor
   ·rintro ⟨q,hn⟩;by_cases e1:k=e.k
    ·exact⟨e,j5.2 (.inl rfl),e1.symm⟩
    ·have q2:k∈p.w\/k∈p.m:=q.elim .inl λq=>q.elim .inr λq=>cK q e1;obtain⟨x,hx,rfl⟩:=(sm k).1 q2;exact⟨x,j5.2 (.inr ⟨jo.2 ⟨hx,hn⟩,e1⟩),rfl⟩
   ·rintro ⟨x,hx,rfl⟩;rcases j5.1 hx with rfl|q
    ·exact⟨.inr (.inr rfl),hg⟩
    ·obtain⟨q1,q2⟩:=jo.1 q.1;exact⟨((sm x.k).2 ⟨x,q1,rfl⟩).elim .inl λz=> .inr (.inl z),q2⟩
 |false=>
  rw[ax];have gh:¬(e.k∈W\/e.k∈M):=by rw[<-gK,<-gK,<-dM,hh];simp
  have hg:e.k=G:=Ay λhn=>gh ((t2 e.k).2 ⟨.inr (.inr rfl),hn⟩);refine key _ d1 d2 λk=> ?_;rw[t2 k];constructor
  ·rintro ⟨q,hn⟩;have q2:k∈p.w\/k∈p.m:=q.elim .inl λq=>q.elim .inr λq=>cK (q.trans hg) hn;obtain⟨x,hx,rfl⟩:=(sm k).1 q2;exact⟨x,jo.2 ⟨hx,hn⟩,rfl⟩
  ·rintro ⟨x,hx,rfl⟩;obtain⟨q1,q2⟩:=jo.1 hx;exact⟨((sm x.k).2 ⟨x,q1,rfl⟩).elim .inl λz=> .inr (.inl z),q2⟩
end zZ

namespace vR
theorem eq(k:aq)(s l:aw)(b:aq)(n:aw):GG.v k s l b n=vR.v k s l b n:=by
 have e:wJ.v k s l b=nb.v k s l b:=rfl;unfold GG.v vR.v;rw[e];cases h:nb.v k s l b with
 |false=>rfl
 |true=>
  have hs:(0<=s/\s<=1000000000)/\1<=l/\l<=999999:=by unfold nb.v at h;cases h1:s8.v k<;>rw[h1]at h<;>simp only[au,ax,dy]at h;cases h2:kl.v s 0 1000000000<;>rw[h2]at h<;>simp only[au,ax,dy]at h;cases h3:kl.v l 1 999999<;>rw[h3]at h<;>simp only[au,ax,dy]at h;simp[kl.v]at h2 h3;omega
  simp only[au,R6.v,lz.v,kl.v,cM,bf];by_cases h1:0<=n/\n<=1000000000
  ·rw[iI (x:=n-s) (by omega) (by omega),iI (x:=s+l) (by omega) (by omega),iI (x:=s+l-1) (by omega) (by omega)];by_cases h2:s<=n<;>by_cases h3:n-s<l<;>simp[h1,h2,h3]<;>omega
  ·by_cases h2:s<=n<;>by_cases h3:0<=n<;>by_cases h4:n<=1000000000<;>simp[h2,h3,h4]<;>omega
end vR

namespace FC
open Lib (Px Cl Fe En el)
open fm (has without gK lL)
open jA (eS sO)
open nQ (vh)
open ng (nJ lD)
open pe (jb)
open fZ (So fA fT my)
open qZ (g6 Iw od)
open H2 (jE tZ LQ Hj)
open zZ (ON BA of_same jo)
open il (hit sM put HW NW Fl lA jn rT mL)
theorem ZU(l:aA Cl)(n:aw):(l.filter λx=>decide (x.id<n)).length+(l.filter λx=>decide (x.id>n)).length<=l.length:=by
 induction l with
 |nil=>exact cG _
 |cons y l ih=>
  simp only[List.filter_cons];by_cases h1:y.id<n
  ·rw[aE h1,aK (show¬y.id>n by omega)];simp only[if_true,dy,if_false,dc];omega
  ·rw[aK h1];by_cases h2:y.id>n
   ·rw[aE h2];simp only[if_true,dy,if_false,dc];omega
   ·rw[aK h2];simp only[dy,if_false,dc];omega
theorem abZ{l:aA Cl}{c:Cl}(cs:l.Pairwise λa b=>a.id<b.id):(jn l c).length<=l.length+1/\((jn l c).Pairwise λa b=>a.id<b.id)/\∀x∈jn l c,x=c\/x∈l:=by
 unfold jn;refine⟨?_, ?_,λx hx=> ?_⟩
 ·have:=ZU l c.id;simp only[bP,dc,jS];omega
 ·rw[cB,n7];refine⟨cs.filter _, ?_,λa ha b hb=> ?_⟩
  ·rw[uV,qD];exact⟨λb hb=>cu (c_.1 hb).2,cs.filter _⟩
  ·have ha:=cu (c_.1 ha).2;rcases ba.1 hb with hb|hb
   ·rw[aZ]at hb;rw[hb];exact ha
   ·have hb:=cu (c_.1 hb).2;omega
 ·rcases ba.1 hx with hx|hx
  ·rcases ba.1 hx with hx|hx
   ·exact .inr (c_.1 hx).1
   ·exact .inl (aZ.1 hx)
  ·exact .inr (c_.1 hx).1
theorem ZT{w m:aA aq}{s:aA (aA aw)}{a:aw}{key:aq}(h:key∈w\/key∈m):(e8.val w m s a key).2.2.2.2=⟨#[]⟩:=by
 unfold e8.val;cases sO w m s a&&eS key with
 |false=>rfl
 |true=>
  rw[au];cases h1:has w key with
  |true=>rfl
  |false=>have h2:has m key=true:=gK.2 (h.resolve_left (lL.1 h1));rw[h2];rfl
theorem JW{w m:aA aq}{s:aA (aA aw)}{a:aw}{key:aq}(h:sO w m s a=ai)(hk:eS key=ai):(has (e8.val w m s a key).1 key||has (e8.val w m s a key).2.1 key)=true:=by
 obtain⟨⟨k1,nd⟩,l1,l2,hs⟩:=jE.1 h;rw[dM,gK,gK];refine((tZ h hk).2 key).2 ⟨.inr (.inr rfl), ?_⟩;have kn:=Hj hk;unfold e8.val;rw[h,hk,aM,au];cases h1:has w key with
 |true=>exact kn
 |false=>
  rw[ax];have hw:=lL.1 h1;cases h2:has m key with
  |true=>exact kn
  |false=>
   rw[ax];have hm:=lL.1 h2;by_cases h3:(w++[key]).length<=2
   ·rw[aE h3];exact kn
   ·rw[aK h3,ax];have iA:(w++[key]).getD 0 ⟨#[]⟩≠key:=by
     cases w with
     |nil=>simp at h3
     |cons x w=>intro e;exact hw (by rw[<-e];simp)
    by_cases h4:m.length<4
    ·rw[aE h4];exact kn
    ·rw[aK h4,ax];cases decide (mH.val (dx.val s a key).1 (dx.val s a key).2 ((w++[key]).getD 0 ⟨#[]⟩)>mH.val (dx.val s a key).1 (dx.val s a key).2 (m.getD 0 ⟨#[]⟩))with
     |true=>
      intro e;cases m with
      |nil=>simp at h4
      |cons x m=>exact hm (by rw[e];simp)
     |false=>exact λe=>iA e.symm
theorem afe{p:Px}{id:aw}{key:aq}{e:En}(h:g6 p)(I_:1<=id/\id<=9)(hk:eS key=ai)(hl:p.cl.length<6)(he:e∈p.en)(hek:e.k=key)(Lb:e.st<=p.now):g6 (hit p id key e):=by
 have gh:key∈p.w\/key∈p.m:=by rw[<-hek];exact h.ek e he
 obtain⟨t1,t2⟩:=tZ h.pol hk;have tg:=ZT (s:=p.s) (a:=p.a) gh;have sm:=BA h;have hr:=nb.Ea (h.en e he);obtain⟨j1,j2,j3⟩:=abZ (c:=⟨id,key,0,e.st,2,e.bo,p.now-e.st⟩) h.cs;unfold hit;generalize e8.val p.w p.m p.s p.a key=V at t1 t2 tg;obtain⟨W,M,S,A,G⟩:=V;dsimp only at t1 t2 tg⊢;subst tg;have sm2:ON p.en W M:=λk=>by
  rw[t2 k];refine Iff.trans ?_ (sm k);constructor
  ·rintro ⟨q|q|rfl,_⟩
   ·exact .inl q
   ·exact .inr q
   ·exact gh
  ·intro q;refine⟨q.elim .inl λq=> .inr (.inl q), ?_⟩
   obtain⟨x,hx,rfl⟩:=(sm k).1 q;have:=(nb.Ea (h.en x hx)).1;intro e;rw[e]at this;exact cK this.1 (by decide)
 obtain⟨q1,q2⟩:=of_same sm2 h.so t1;refine⟨h.now,h.en,h.so,q1,t1,q2,h.fl,h.fe,h.ap,by dsimp only;omega,λc hc=> ?_,j2, ?_⟩
 ·rcases j3 c hc with rfl|hc
  ·unfold Iw;simp only[aL,bf];exact⟨I_,hk,by omega,⟨by omega,by omega⟩,by omega,⟨by omega,Lb⟩,by omega⟩
  ·exact h.cl c hc
 ·have:=h.hits;dsimp only;by_cases hh:p.hits<1000000000
  ·rw[aE hh,au];omega
  ·rw[aK hh,ax];exact this
theorem HG{l:aA aq}{k x:aq}:x∈without l k↔x∈l/\x≠k:=by unfold without;simp
theorem Hs{p:Px}{id:aw}{key:aq}{h:aX}{fe:aA Fe}{i:aF}(ho:g6 p)(I_:1<=id/\id<=9)(hk:eS key=ai)(hl:p.cl.length<6)(hn:p.fe.length<=fe.length)(Qy:fe.length<=20)(hf:∀f∈fe,nJ p.now f=ai)(hap:fe.Pairwise λf g=>lD g f=ak)(hi:i<fe.length)(hp:h=ak->True):g6 (put p id key h fe i):=by
 obtain⟨⟨k1,nd⟩,l1,l2,hs⟩:=jE.1 ho.pol;have Nx:=LQ key hs;have sm:=BA ho;obtain⟨j1,j2,j3⟩:=abZ (c:=⟨id,key,(i:aw)+1,0,1,(el fe i).t,0⟩) ho.cs;have hfi:=hf _ (kq hi);have oc:∀c∈jn p.cl ⟨id,key,(i:aw)+1,0,1,(el fe i).t,0⟩,Iw p.now fe.length c=true:=λc hc=>by
  rcases j3 c hc with rfl|hc
  ·unfold nJ at hfi;unfold Iw;simp only[aL,bf]at hfi⊢;have:=ho.now;exact⟨I_,hk,by omega,⟨by omega,by omega⟩,hfi.2.1,⟨by omega,by omega⟩,by omega⟩
  ·have:=ho.cl c hc;unfold Iw at this⊢;simp only[aL,bf]at this⊢;exact⟨this.1,this.2.1,this.2.2.1,⟨this.2.2.2.1.1,by omega⟩,this.2.2.2.2⟩
 unfold put;cases h with
 |false=>have XT:sO p.w p.m (dx.val p.s p.a key).1 (dx.val p.s p.a key).2=true:=jE.2 ⟨⟨k1,nd⟩,l1,l2,Nx⟩;exact⟨ho.now,ho.en,ho.so,ho.ek,XT,ho.len,Qy,hf,hap,by dsimp only;omega,oc,j2,ho.hits⟩
 |true=>
  have XT:sO (without p.w key) (without p.m key) (dx.val p.s p.a key).1 (dx.val p.s p.a key).2=true:=by
   refine jE.2 ⟨⟨λk hx=> ?_, ?_⟩,di fm.iw l1,di fm.iw l2,Nx⟩
   ·rcases ba.1 hx with q|q
    ·exact k1 k (ba.2 (.inl (HG.1 q).1))
    ·exact k1 k (ba.2 (.inr (HG.1 q).1))
   ·have:without p.w key++without p.m key=(p.w++p.m).filter λx=> !decide (x=key):=by unfold without;rw[gz]
    rw[this];exact nd.sublist jQ
  have sm2:ON (fT p.en key) (without p.w key) (without p.m key):=λk=>by
   rw[HG,HG];constructor
   ·intro q;have iA:k≠key:=q.elim (·.2) (·.2);obtain⟨x,hx,rfl⟩:=(sm k).1 (q.elim (λq=> .inl q.1) (λq=> .inr q.1));exact⟨x,jo.2 ⟨hx,iA⟩,rfl⟩
   ·rintro ⟨x,hx,rfl⟩;obtain⟨hx,iA⟩:=jo.1 hx;exact((sm x.k).2 ⟨x,hx,rfl⟩).elim (λq=> .inl ⟨q,iA⟩) (λq=> .inr ⟨q,iA⟩)
  have so:=ho.so.drop key;obtain⟨q1,q2⟩:=of_same sm2 so XT;exact⟨ho.now,λe he=>ho.en e (jo.1 he).1,so,q1,XT,q2,Qy,hf,hap,by dsimp only;omega,oc,j2,ho.hits⟩
theorem NJ{p:Px}{id:aw}{key:aq}{h:aX}(ho:g6 p)(I_:1<=id/\id<=9)(hk:eS key=ai)(hl:p.cl.length<6):g6 (sM p id key h).1:=by
 unfold sM;cases XQ:NW p.fe key with
 |some i=>have hi:i<p.fe.length:=(mS.1 XQ).1;exact Hs ho I_ hk hl (cG _) ho.fl ho.fe ho.ap hi (λ_=>trivial)
 |none=>
  dsimp only;by_cases Qy:p.fe.length<20
  ·rw[aE Qy,au];have zA:∀f∈p.fe,Fl key f=false:=λf hf=>by have:=Es.1 XQ f hf;simpa using this
   have XP:=ho.now;refine Hs ho I_ hk hl (by simp) (by simp;omega) (λf hf=> ?_) ?_ (by simp) (λ_=>trivial)
   ·rcases ba.1 hf with q|q
    ·exact ho.fe f q
    ·rw[aZ]at q;subst q;unfold nJ rT;simp only[aL,bf];exact⟨hk,by show((0:aF):aw)<=400;omega,by omega,by omega,by omega,by omega⟩
   ·rw[n7];refine⟨ho.ap,by simp,λa ha b hb=> ?_⟩
    rw[aZ]at hb;subst hb;have:=zA a ha;unfold Fl at this;unfold lD rT;dsimp only;revert this;rw[show decide (key=a.k)=decide (a.k=key)from by rw[ch];exact IK];cases decide (a.k=key)<;>cases decide (a.sta=1)<;>simp
  ·rw[aK Qy];exact ho
theorem aeG{p:Px}(id:aw)(key:aq)(h:g6 p):g6 (il.ask p id key).1:=by
 unfold il.ask;cases hg:jb p&&(decide (1<=id/\id<=9)&&(eS key&&(!lA p.cl id&&decide (p.cl.length<6))))with
 |false=>exact h
 |true=>
  simp only[aL,bf]at hg;obtain⟨_,I_,hk,_,hl⟩:=hg;rw[au];cases he:HW p.en key with
  |none=>exact NJ h I_ hk hl
  |some e=>
   dsimp only;cases hf:mL e p.now with
   |false=>exact NJ h I_ hk hl
   |true=>
    unfold HW at he;have h1:=qC he;have h2:=vl he;refine afe h I_ hk hl h1 (cu h2) ?_;unfold mL at hf;rw[vR.eq]at hf;unfold vR.v at hf;rw[show nb.v e.k e.st e.li e.bo=ai from h.en e h1,au,show kl.v p.now e.st 1000000000=decide (e.st<=p.now/\p.now<=1000000000)from fG.eO _ _ _]at hf;cases hd:decide (e.st<=p.now/\p.now<=1000000000)with
    |true=>exact(cu hd).1
    |false=>rw[hd]at hf;cases hf
end FC

namespace FD
open Lib (Px Cl Fe En el)
open qZ (g6 Iw od)
open zZ (aaX)
theorem zG{now n:aw}(h:1<=now/\now<=1000000000):now<=qH.later now n/\qH.later now n<=1000000000:=by
 unfold qH.later;have:=W1 n (show(1000:aw)≠0 by omega);have:=Qn n (show(0:aw)<1000 by omega);by_cases hc:now>1000000000-n%1000
 ·rw[aE hc,au];omega
 ·rw[aK hc,ax,dg (by omega) (by omega)];omega
theorem Zs{p:Px}(n:aw)(h:g6 p):g6 (qH.val p n):=aaX h (zG h.now).1 (zG h.now).2
theorem TA{p:Px}(id:aw)(h:g6 p):g6 (s_.val p id):=
 ⟨h.now,h.en,h.so,h.ek,h.pol,h.len,h.fl,h.fe,h.ap,di (eC _ _) h.cll,λc hc=>h.cl c (c_.1 hc).1,h.cs.sublist jQ,h.hits⟩
end FD

namespace g_
open Lib (Px Cl Fe En el)
open fm (has gK)
open jA (eS sO)
open nQ (vh)
open ng (nJ lD)
open pe (jb)
open qZ (g6 Iw od)
open gu (sW told B9 CY iT)
open sZ (cls kF)
open kB (yu)
open gT (ET HX tx kp sR)
open jT (dk es)
open gF (Wo Ev closed tB jq iz flag)
open zZ (BD IQ Sj UJ L5)
def on(l:aA Fe):aF:=l.countP λf=>decide (f.sta=1)
theorem vb5{x:aw}(h:x<=1000000000):(bytesOf (Lib.vb x)).size<=5:=by
 rw[Lib.iU]
 exact Lib.BH 4 x (by have:(128:aw)^5=34359738368:=by decide
                      omega)
theorem KW{e:En}(h:ET e=ai):(HX e).size<=460:=by
 have hr:=nb.Ea h;have z1:=vb5 (x:=(e.k.size:aw)) (by omega);have z2:=vb5 (x:=e.st) (by omega);have z3:=vb5 (x:=e.li) (by omega);have ht:(sR e).size<=445:=by unfold sR jL.sR;simp only[Lib.ki];omega
 have z4:=vb5 (x:=((sR e).size:aw)) (by omega);unfold HX fK.fr;rw[Lib.ki,Lib.ki,pb.size];omega
theorem VS(l:aA En)(h:∀e∈l,ET e=ai):(tx l).size<=460*l.length:=by
 induction l with
 |nil=>exact cG _
 |cons e l ih=>have h1:=KW (h e (by simp));have h2:=ih λx hx=>h x (by simp[hx]);have:(tx (e::l)).size=(HX e).size+(tx l).size:=dK;rw[this,dc];omega
structure th (i:aF) (w:Wo):Prop where
 px:g6 w.p
 eo:∀e∈es w.o,ET e=ai
 ct:2*(es w.o).length+on w.p.fe<=i
 cd:w.cd.length=i
 bd:w.bd.length<=i
 bo:∀e∈w.bd,ET e=ai
theorem th.len{i:aF}{w:Wo}(h:th i w)(hi:i<=71):(es w.o).length<=35:=by have:=h.ct;omega
theorem th.tx{i:aF}{w:Wo}(h:th i w)(hi:i<=71):(tx (es w.o)).size<=16100:=by have:=VS _ h.eo;have:=h.len hi;omega
theorem Lv{l:aA Fe}{n:aF}{g:Fe}(hn:n<l.length):on (l.set n g)+(if(el l n).sta=1 then 1 else 0)=on l+(if g.sta=1 then 1 else 0):=by
 unfold on;rw[List.countP_set hn,eN hn];have hle:l[n].sta=1->1<=l.countP λf=>decide (f.sta=1):=λh=>List.countP_pos_iff.2 ⟨_,bC hn,aE h⟩;generalize l.countP (λf=>decide (f.sta=1))=m at hle;by_cases h1:l[n].sta=1
 ·have:=hle h1;by_cases h2:g.sta=1
  ·rw[bz h1,bz h2,bz (aE h1),bz (aE h2)];omega
  ·rw[bz h1,bH h2,bz (aE h1),bH (by rw[aK h2];simp)];omega
 ·by_cases h2:g.sta=1
  ·rw[bH h1,bz h2,bH (by rw[aK h1];simp),bz (aE h2)];omega
  ·rw[bH h1,bH h2,bH (by rw[aK h1];simp),bH (by rw[aK h2];simp)];omega
theorem LJ{now:aw}(hn:1<=now/\now<=1000000000)(l:aA En):g6 (d_.qa now l):=by
 have key:∀(l:aA En) (p:Px),g6 p->g6 (l.foldl (d_.one now) p):=by
  intro l;induction l with
  |nil=>intro p h;exact h
  |cons e l ih=>
   intro p h;rw[DD];refine ih _ ?_;unfold d_.one;cases hf:d_.mL e now with
   |true=>exact L5 h (d_.zx hf)
   |false=>exact h
 refine key l _ ⟨hn,λe h=>(by cases h),gd,λe h=>(by cases h), ?_,rfl,bI _,λf h=>(by cases h),gd,bI _,λc h=>(by cases h),gd,by show(0:aw)<=0/\(0:aw)<=1000000000;omega⟩;refine H2.jE.2 ⟨⟨λk h=>(by cases h),List.nodup_nil⟩,bI _,bI _,H2.HA.2 ⟨rfl,by show(0:aw)<=0/\(0:aw)<=63;omega,λq hq=> ?_⟩⟩;have:q=d_.J0:=by change q∈[d_.J0,d_.J0,d_.J0]at hq;simp at hq;exact hq
 subst this;refine⟨rfl,λn hn=> ?_⟩
 unfold d_.J0 at hn;simp at hn;omega
theorem KI{p:Px}{f life:aw}(h:g6 p)(hl:0<=life/\life<=999999):
  g6 (cls p f life).1/\(((cls p f life).2=ak/\(cls p f life).1=p)\/((cls p f life).2=ai/\∃n:aF,f=(n:aw)/\n<p.fe.length/\(cls p f life).1.fe=p.fe.set n {el p.fe n with sta:=2,li:=life,st:=p.now}/\(el p.fe n).sta=1/\
   (life>0->ET (kF {el p.fe n with sta:=2,li:=life,st:=p.now})=ai/\(has (cls p f life).1.w (el p.fe n).k||has (cls p f life).1.m (el p.fe n).k)=ai))):=by
 unfold cls;cases ho:sW p f&&decide (0<=life/\life<=999999)with
 |false=>exact⟨h, .inl ⟨rfl,rfl⟩⟩
 |true=>
  rw[aL]at ho;obtain⟨n,rfl,hn,_,h1⟩:=iT ho.1;obtain⟨g1,g2,g3,g4,g5⟩:=IQ h hn;have XP:=h.now;rw[au,dH];have ht:g6 (told p n {el p.fe n with sta:=2,li:=life,st:=p.now} 2):=by refine BD h hn rfl ?_ (λe=>cK e (by dsimp only;omega)) (by omega);unfold nJ;simp only[aL,bf];exact⟨g1,g2,by omega,hl,by omega,by omega⟩
  have he:life>0->ET (kF {el p.fe n with sta:=2,li:=life,st:=p.now})=true:=λPs=>by unfold ET kF nb.v;dsimp only;rw[jA.iS,g1,au,show kl.v p.now 0 1000000000=decide (0<=p.now/\p.now<=1000000000)from fG.eO _ _ _,aE (show 0<=p.now/\p.now<=1000000000 by omega),au,show kl.v life 1 999999=decide (1<=life/\life<=999999)from fG.eO _ _ _,aE (show 1<=life/\life<=999999 by omega),au];exact aE g2
  by_cases Ps:life>0
  ·rw[aE Ps,au];have gh:=FC.JW (key:=(el p.fe n).k) ht.pol g1;exact⟨L5 ht (he Ps), .inr ⟨rfl,n,rfl,hn,rfl,h1,λ_=>⟨he Ps,gh⟩⟩⟩
  ·rw[aK Ps,ax];exact⟨ht, .inr ⟨rfl,n,rfl,hn,rfl,h1,λh=>cK h Ps⟩⟩
theorem aeH(p:Px)(id:aw)(key:aq):on (il.ask p id key).1.fe<=on p.fe+1:=by
 have hm:∀h,on (il.sM p id key h).1.fe<=on p.fe+1:=λh=>by
  unfold il.sM;cases il.NW p.fe key with
  |some i=>exact jv _
  |none=>
   dsimp only;cases decide (p.fe.length<20)with
   |true=>show on (p.fe++[il.rT key])<=_;unfold on;rw[List.countP_append];exact cG _
   |false=>exact jv _
 unfold il.ask;cases jb p&&(decide (1<=id/\id<=9)&&(eS key&&(!il.lA p.cl id&&decide (p.cl.length<6))))with
 |false=>exact jv _
 |true=>
  rw[au];cases il.HW p.en key with
  |none=>exact hm _
  |some e=>
   dsimp only;cases il.mL e p.now with
   |false=>exact hm _
   |true=>exact jv _
theorem Cr(w:Wo):(jq w).length<=(es w.o).length:=di (eC ..) (gT.Hd _)
theorem G0{w:Wo}(h:∀e∈es w.o,ET e=ai):∀e∈jq w,ET e=true:=λe he=>h e (gT.Lk (c_.1 he).1)
theorem BC{i:aF}{w:Wo}{e:Ev}(h:th i w)(he:iz e=ai):th (i+1) (gF.step w e):=by
 unfold iz at he;simp only[aL,bf]at he;obtain⟨hk,I_,ht,hn,hl⟩:=he;have hct:=h.ct;have XJ:=h.bd;have cdl:∀n:aw,(w.cd++[n]).length=i+1:=λn=>by rw[bP,h.cd];rfl
 have px':∀(p:Px) (n:aw),g6 p->on p.fe<=on w.p.fe+1->th (i+1) {{w with p:=p}with cd:=w.cd++[n]}:=λp n hp ho=>⟨hp,h.eo,by dsimp only;omega,cdl n,np h.bd,h.bo⟩
 unfold gF.step gF.act;by_cases k1:e.k=1
 ·rw[aE k1,au];exact px' _ _ (FC.aeG _ _ h.px) (aeH ..)
 rw[aK k1,ax];by_cases k2:e.k=2
 ·rw[aE k2,au];refine px' _ _ (UJ _ _ h.px) ?_;unfold CY;cases ho:sW w.p e.id&&(decide (1<=e.t.size/\e.t.size<=40)&&decide ((el w.p.fe e.id.toNat).t.size+e.t.size<=400))with
  |false=>exact jv _
  |true=>
   rw[aL]at ho;obtain⟨n,en,hn,_,h1⟩:=iT ho.1;rw[en,dH];have q:∀g:Fe,g.sta=(el w.p.fe n).sta->on (w.p.fe.set n g)<=on w.p.fe+1:=λg hg=>by have:=Lv (g:=g) hn;rw[hg]at this;omega
   exact q _ rfl
 rw[aK k2,ax];by_cases k3:e.k=3
 ·rw[aE k3,au];have hlr:0<=e.n%1000000/\e.n%1000000<=999999:=by omega
  obtain⟨q1,q2⟩:=KI (f:=e.id) h.px hlr;unfold closed;dsimp only;rcases q2 with ⟨r1,r2⟩|⟨r1,n,rn,hn,rf,rs,rl⟩
  ·rw[r1,lE,ax];exact px' _ _ q1 (by rw[r2];exact jv _)
  ·have:=Lv (g:={el w.p.fe n with sta:=2,li:=e.n%1000000,st:=w.p.now}) hn;rw[bz rs,bH (show¬(2:aw)=1 by omega)]at this;have ho:on (cls w.p e.id (e.n%1000000)).1.fe+1=on w.p.fe:=by rw[rf];exact this
   rw[r1,bc];by_cases Ps:e.n%1000000>0
   ·rw[aE Ps,au];obtain⟨s1,s2⟩:=rl Ps;have hx:ET (kF (el (cls w.p e.id (e.n%1000000)).1.fe e.id.toNat))=true:=by rw[rn,dH,<-rn,rf,gu.iR hn];exact s1
    refine⟨q1,λy hy=> ?_, ?_,cdl _, ?_,λy hy=> ?_⟩
    ·rcases ba.1 hy with hy|hy
     ·exact h.eo y hy
     ·rw[aZ]at hy;rw[hy];exact hx
    ·show 2*(es w.o++[_]).length+on (cls w.p e.id (e.n%1000000)).1.fe<=i+1;rw[bP,bA];omega
    ·show(w.bd++[_]).length<=i+1;rw[bP,bA];omega
    ·rcases ba.1 hy with hy|hy
     ·exact h.bo y hy
     ·rw[aZ]at hy;rw[hy];exact hx
   ·rw[aK Ps,ax];exact px' _ _ q1 (by omega)
 rw[aK k3,ax];by_cases k4:e.k=4
 ·rw[aE k4,au];refine px' _ _ (Sj _ h.px) ?_;unfold B9;cases ho:sW w.p e.id with
  |false=>exact jv _
  |true=>
   obtain⟨n,en,hn,_,h1⟩:=iT ho;rw[en,dH];have q:∀g:Fe,g.sta=3->on (w.p.fe.set n g)<=on w.p.fe+1:=λg hg=>by have:=Lv (g:=g) hn;rw[bz h1,bH (show¬g.sta=1 by omega)]at this;omega
   exact q _ rfl
 rw[aK k4,ax];by_cases k5:e.k=5
 ·rw[aE k5,au];exact px' _ _ (FD.Zs _ h.px) (jv _)
 rw[aK k5,ax];by_cases k6:e.k=6
 ·rw[aE k6,au];exact px' _ _ (FD.TA _ h.px) (jv _)
 rw[aK k6,ax];have Po:=Cr w;have hinv:=d_.rP w.p.now (jq w) (jq w).length (cG _);rw[dE]at hinv;refine⟨LJ h.px.now _,G0 h.eo, ?_,cdl _,np h.bd,h.bo⟩
 show 2*(jq w).length+on (d_.qa w.p.now (jq w)).fe<=i+1;rw[hinv.fe];show 2*(jq w).length+0<=i+1;omega
end g_

namespace fV
open Lib (rr rs re rf rc rd Px En el oA qw qx qy)
open gF (Wo Ev)
open jT (dk es)
def ri(l:aA aw):aQ:=l.map λn=>[CV.i ao n]
theorem gW(l:aA aw):(ri l).length=l.length:=by unfold ri;simp
def v5(w:Wo):aw×aQ×aQ×aQ×aQ×aw×aQ×aQ×aw×aQ×aQ×aQ:=(w.p.now,re w.p.en,rs w.p.w,rs w.p.m,rr w.p.s,w.p.a,rf w.p.fe,rc w.p.cl,w.p.hits,rd (dk w.o),ri w.cd,re w.bd)
theorem tX(l:aA En)(e:En):re l++aD (aP [Ck.s,Ck.i ao,Ck.i ao,Ck.s] 1) 0 [CV.s e.k,CV.i ao e.st,CV.i ao e.li,CV.s e.bo]=re (l++[e]):=by unfold Lib.re;rw[dj];rfl
theorem acM(l:aA aw)(n:aw):ri l++aD (aP [Ck.i ao] 1) 0 [CV.i ao n]=ri (l++[n]):=by unfold ri;rw[dj];rfl
theorem avM(l:aA En):aP [Ck.s,Ck.i ao,Ck.i ao,Ck.s] 0++re l=re l:=rfl
theorem avN(l:aA aw):aP [Ck.i ao] 0++ri l=ri l:=rfl
theorem m8(ks:aA Ck)(y:aA CV):(aD (aP ks 1) 0 y).length=1:=rfl
theorem kA{p:Px}(h:qZ.g6 p):p.Fit 1048576:=(kB.kA (qZ.od.2 h)).le (by omega)
theorem lt_eq{α β:Type}(x:α)(f:α->β):Lib.lt x f=f x:=by have h:∀y,y=Lib.lt x f->y=f x:=λy hy=>hy.trans (Eq.refl _);exact h _ (Eq.refl _)
end fV

namespace qc
open Lib (rr rs re rf rc rd Px En el)
open gF (Wo Ev iz)
open jT (dk es)
open g_ (th)
open fV (ri v5)
instance:Inhabited Ev:=⟨⟨0,0,⟨#[]⟩,0,[]⟩⟩
def Evr(e:Ev):aA CV:=[CV.i ao e.k,CV.i ao e.id,CV.s e.t,CV.i ao e.n,CV.l 3 e.l]
def rv(l:aA Ev):aQ:=l.map Evr
theorem tW(l):(rv l).length=l.length:=by unfold rv;simp
theorem wv0{l:aA Ev}{i:aF}(h:i<l.length):ar (rv l) i 0=CV.i ao (el l i).k:=fW _ l i 0 h
theorem wv1{l:aA Ev}{i:aF}(h:i<l.length):ar (rv l) i 1=CV.i ao (el l i).id:=fW _ l i 1 h
theorem wv2{l:aA Ev}{i:aF}(h:i<l.length):ar (rv l) i (1+1)=CV.s (el l i).t:=fW _ l i 2 h
theorem wv3{l:aA Ev}{i:aF}(h:i<l.length):ar (rv l) i (1+1+1)=CV.i ao (el l i).n:=fW _ l i 3 h
theorem wv4{l:aA Ev}{i:aF}(h:i<l.length):ar (rv l) i (1+1+1+1)=CV.l 3 (el l i).l:=fW _ l i 4 h
theorem NU(e:Ev):U31.v e.k e.id e.t e.n e.l=iz e:=by unfold U31.v iz;rw[show lz.v e.k 1 7=decide (1<=e.k/\e.k<=7)from fG.eO _ _ _,show lz.v e.id 0 30=decide (0<=e.id/\e.id<=30)from fG.eO _ _ _,show decide (((e.t.size:aF):aw)<=60)=decide (e.t.size<=60)from by rw[ch];omega,show decide (e.n≥0)=decide (0<=e.n)from rfl,show decide (((e.l.length:aF):aw)<=4)=decide (e.l.length<=4)from by rw[ch];omega];cases decide (1<=e.k/\e.k<=7)<;>cases decide (0<=e.id/\e.id<=30)<;>cases decide (e.t.size<=60)<;>cases decide (0<=e.n)<;>rfl
def w0:Wo:=⟨d_.p0 1,aj,[],[]⟩
def run(l:aA Ev):Wo:=l.foldl gF.step w0
theorem C7(l:aA Ev)(i:aF)(h:i<l.length):run (l.take (i+1))=gF.step (run (l.take i)) (el l i):=by unfold run;rw[cw h,kU,eN h];rfl
theorem amq:th 0 w0:=by refine⟨g_.LJ (now:=1) (by omega) [],λe h=>(by cases h),cG _,rfl,cG _,λe h=>(by cases h)⟩
theorem LK{l:aA Ev}(h:∀e∈l,iz e=ai):∀i,i<=l.length->th i (run (l.take i)):=by
 intro i;induction i with
 |zero=>intro _;exact amq
 |succ i ih=>intro hi;rw[C7 l i hi];exact g_.BC (ih (by omega)) (h _ (kq hi))
theorem LL{l:aA Ev}(h:∀e∈l,iz e=ai):th l.length (run l):=by have:=LK h l.length (cG _);rwa[dE]at this
def W13(w:Wo)(b:aX):aw×aQ×aQ×aQ×aQ×aw×aQ×aQ×aw×aQ×aQ×aQ×aX:=(w.p.now,re w.p.en,rs w.p.w,rs w.p.m,rr w.p.s,w.p.a,rf w.p.fe,rc w.p.cl,w.p.hits,rd (dk w.o),ri w.cd,re w.bd,b)
def I5(l:aA Ev):aX:=decide (l.length<=70)&&(b9 l.length).all λi=>iz (el l i)
def life(l:aA Ev):aw×aQ×aQ×aQ×aQ×aw×aQ×aQ×aw×aQ×aQ×aQ×aX:=bif I5 l then W13 (run l) ai else(0,[],[],[],[],0,[],[],0,[],[],[],ak)
theorem Ct{l:aA Ev}:I5 l=ai↔l.length<=70/\∀e∈l,iz e=true:=by unfold I5;rw[aL,bf,bu];refine and_congr Iff.rfl ⟨λh e he=> ?_,λh i hi=>h _ (kq (gV.1 hi))⟩;obtain⟨i,hi,rfl⟩:=c7 he;have:=h i (gV.2 hi);rwa[eN hi]at this
end qc

namespace du
def I(q:aQ)(a:aw):Prop:=0<=a/\a<=(q.length:aw)/\q.length<=1048576
theorem Ea(x:BitVec 64):0<=bJ ((dW (jt x (cf 64 255)):aF):aw)/\bJ ((dW (jt x (cf 64 255)):aF):aw)<=255:=by
 have h:dW (jt x (cf 64 255))<=255:=by have e:dW (jt x (cf 64 255))=x.toNat&&&255:=BitVec.toNat_and x (cf 64 255);rw[e];exact Nat.and_le_right
 rw[dg (by omega) (by omega)];omega
theorem ok(q:aQ)(a s:aw)(hI:I q a):∃n a' s',c q a s=ai/\v q a s=(n,q,a',s')/\I q a'/\0<=n/\n<=255:=by
 obtain⟨h0,h1,h2⟩:=hI;by_cases h:a<(q.length:aw)
 ·have hw:bJ (a+1)=a+1:=dg (by omega) (by omega);have hvo:∃n s',vo q a s=ah (n,q,a+1,s')/\0<=n/\n<=255:=by unfold vo b;rw[aE h,aE h0,au,aM,au,hw];exact⟨_,_,rfl,Ea _⟩
  obtain⟨n,s',hv,hr⟩:=hvo;obtain⟨e1,e2⟩:=out q a s hv;exact⟨n,a+1,s',e1,e2,⟨by omega,by omega,h2⟩,hr⟩
 ·have hvo:∃n s',vo q a s=ah (n,q,a,s')/\0<=n/\n<=255:=by unfold vo b;rw[aK h,ax];exact⟨_,_,rfl,Ea _⟩
  obtain⟨n,s',hv,hr⟩:=hvo;obtain⟨e1,e2⟩:=out q a s hv;exact⟨n,a,s',e1,e2,⟨h0,h1,h2⟩,hr⟩
end du

namespace nA
theorem ok(q:aQ)(a s k:aw)(hI:du.I q a):∃n a' s',c q a s k=ai/\v q a s k=(n,q,a',s')/\du.I q a'/\0<=n/\(0<k->n<k):=by
 by_cases hk:k<=0
 ·obtain⟨e1,e2⟩:=out q a s k (x:=(0,q,a,s)) (by unfold vo b;rw[aE hk,au]);exact⟨0,a,s,e1,e2,hI,by omega,λh=>by omega⟩
 ·have hm:∀x:aw,0<=x->0<=cz x k/\cz x k<k:=λx hx=>by rw[iq hx];exact⟨W1 _ (by omega),Qn _ (by omega)⟩
  have hk0:¬k=0:=by omega
  obtain⟨n1,a1,s1,c1,v1,I1,g1,u1⟩:=du.ok q a s hI;by_cases h2:k<=256
  ·obtain⟨e1,e2⟩:=out q a s k (x:=(cz n1 k,q,a1,s1)) (by unfold vo b;simp only[hk,h2,hk0,c1,v1,aN,bj,au,ax,bR]);exact⟨_,a1,s1,e1,e2,I1,(hm n1 g1).1,λ_=>(hm n1 g1).2⟩
  ·obtain⟨n2,a2,s2,c2,v2,I2,g2,u2⟩:=du.ok q a1 s1 I1;obtain⟨n3,a3,s3,c3,v3,I3,g3,u3⟩:=du.ok q a2 s2 I2;obtain⟨n4,a4,s4,c4,v4,I4,g4,u4⟩:=du.ok q a3 s3 I3;have w1:bJ (n1*16777216)=n1*16777216:=dg (by omega) (by omega);have w2:bJ (n2*65536)=n2*65536:=dg (by omega) (by omega);have w3:bJ (n3*256)=n3*256:=dg (by omega) (by omega);have w4:bJ (n1*16777216+n2*65536)=n1*16777216+n2*65536:=dg (by omega) (by omega);have w5:bJ (n1*16777216+n2*65536+n3*256)=n1*16777216+n2*65536+n3*256:=dg (by omega) (by omega);have w6:bJ (n1*16777216+n2*65536+n3*256+n4)=n1*16777216+n2*65536+n3*256+n4:=dg (by omega) (by omega);obtain⟨e1,e2⟩:=out q a s k (x:=(cz (n1*16777216+n2*65536+n3*256+n4) k,q,a4,s4)) (by unfold vo b;simp only[hk,h2,hk0,c1,v1,c2,v2,c3,v3,c4,v4,w1,w2,w3,w4,w5,w6,aN,bj,au,ax,bR]);have:=hm (n1*16777216+n2*65536+n3*256+n4) (by omega);exact⟨_,a4,s4,e1,e2,I4,this.1,λ_=>this.2⟩
end nA

namespace HR
theorem ok(q:aQ)(a s k:aw)(hI:du.I q a):∃x a' s',c q a s k=ai/\v q a s k=(x,q,a',s')/\du.I q a':=by obtain⟨n1,a1,s1,c1,v1,I1,g1,u1⟩:=nA.ok q a s k hI;obtain⟨e1,e2⟩:=out q a s k (x:=(decide (n1=0),q,a1,s1)) (by unfold vo b;simp only[c1,v1,au]);exact⟨_,a1,s1,e1,e2,I1⟩
end HR

namespace z_
theorem ok(q:aQ)(a s:aw)(l:aQ)(hI:du.I q a)(hl:0<l.length):∃i a' s',c q a s l=ai/\v q a s l=(bF (ar l i 0),q,a',s',l)/\du.I q a'/\i<l.length:=by obtain⟨n1,a1,s1,c1,v1,I1,g1,u1⟩:=nA.ok q a s (l.length:aw) hI;have hu:=u1 (by omega);obtain⟨e1,e2⟩:=out q a s l (x:=(bF (ar l n1.toNat 0),q,a1,s1,l)) (by unfold vo b;simp only[c1,v1,g1,hu,aN,aM,au]);exact⟨n1.toNat,a1,s1,e1,e2,I1,by omega⟩
end z_

namespace pL
theorem ok(q:aQ)(a s:aw)(l:aQ)(hI:du.I q a)(hl:0<l.length):∃i a' s',c q a s l=ai/\v q a s l=(bw (ar l i 0),q,a',s',l)/\du.I q a'/\i<l.length:=by obtain⟨n1,a1,s1,c1,v1,I1,g1,u1⟩:=nA.ok q a s (l.length:aw) hI;have hu:=u1 (by omega);obtain⟨e1,e2⟩:=out q a s l (x:=(bw (ar l n1.toNat 0),q,a1,s1,l)) (by unfold vo b;simp only[c1,v1,g1,hu,aN,aM,au]);exact⟨n1.toNat,a1,s1,e1,e2,I1,by omega⟩
end pL

namespace uZ
theorem ok(q:aQ)(a s:aw)(hI:du.I q a):∃k a' s',c q a s=ai/\v q a s=(k,q,a',s')/\du.I q a'/\k.size=2:=by
 obtain⟨i,a1,s1,c1,v1,I1,g1⟩:=pL.ok q a s (aD (aD (aD (aD (aD (aD (aD (aD (aP [Ck.s] 8) 0 [CV.s {data:= #[ay 47,ay 97]}]) 1 [CV.s {data:= #[ay 47,ay 98]}]) 2 [CV.s {data:= #[ay 47,ay 99]}]) 3 [CV.s {data:= #[ay 47,ay 100]}]) 4 [CV.s {data:= #[ay 47,ay 101]}]) 5 [CV.s {data:= #[ay 47,ay 102]}]) 6 [CV.s {data:= #[ay 47,ay 103]}]) 7 [CV.s {data:= #[ay 47,ay 104]}]) hI (by simp[aP]);obtain⟨e1,e2⟩:=out q a s (x:=(_,q,a1,s1)) (by unfold vo b;simp only[c1,v1,au];rfl);refine⟨_,a1,s1,e1,e2,I1, ?_⟩
 have g2:i<8:=by simpa [aP]using g1
 match i,g2 with
 |0,_=>rfl
 |1,_=>rfl
 |2,_=>rfl
 |3,_=>rfl
 |4,_=>rfl
 |5,_=>rfl
 |6,_=>rfl
 |7,_=>rfl
end uZ

namespace A_Post
open du (I)
def ji{α:Type}(o:az α)(P:α->Prop):Prop:=∃x,o=ah x/\P x
theorem ret{α:Type}{x:α}{P:α->Prop}(h:P x):ji (ah x) P:=⟨x,rfl,h⟩
theorem br{α:Type}{b:aX}{A B:az α}{P:α->Prop}(h1:b=ai->ji A P)(h2:b=ak->ji B P):ji (bif b then A else B) P:=by
 cases b
 ·exact h2 rfl
 ·exact h1 rfl
theorem ck{α:Type}{b:aX}{A B:az α}{P:α->Prop}(h:b=ai)(h1:ji A P):ji (bif b then A else B) P:=by subst h;exact h1
theorem cn{α:Type}{b:aX}{A B:az α}{P:α->Prop}(h:b=ak)(h1:ji B P):ji (bif b then A else B) P:=by subst h;exact h1
theorem eq{α:Type}{o o':az α}{P:α->Prop}(e:o=o')(h:ji o' P):ji o P:=by rw[e];exact h
theorem call{α β:Type}{b:aX}{w u:β}{X:β->az α}{P:α->Prop}(h:b=ai)(e:w=u)(hx:ji (X u) P):ji (bif b then Lib.lt w X else aj) P:=by subst h;rw[au,fV.lt_eq,e];exact hx
theorem below{α:Type}{q:aQ}{a s k:aw}{X:aw×aQ×aw×aw->az α}{P:α->Prop}(hI:I q a)(hx:∀n a' s',I q a'->0<=n->(0<k->n<k)->ji (X (n,q,a',s')) P):ji (bif nA.c q a s k then Lib.lt (nA.v q a s k) X else aj) P:=by obtain⟨n,a',s',h1,h2,h3,h4,h5⟩:=nA.ok q a s k hI;exact call h1 h2 (hx n a' s' h3 h4 h5)
theorem once{α:Type}{q:aQ}{a s k:aw}{X:aX×aQ×aw×aw->az α}{P:α->Prop}(hI:I q a)(hx:∀n a' s',I q a'->ji (X (n,q,a',s')) P):ji (bif HR.c q a s k then Lib.lt (HR.v q a s k) X else aj) P:=by obtain⟨n,a',s',h1,h2,h3⟩:=HR.ok q a s k hI;exact call h1 h2 (hx n a' s' h3)
theorem acI{α:Type}{q:aQ}{a s:aw}{l:aQ}{X:aw×aQ×aw×aw×aQ->az α}{P:α->Prop}(R:aw->Prop)(hR:0<l.length/\∀i,i<l.length->R (bF (ar l i 0)))(hI:I q a)(hx:∀n a' s',I q a'->R n->ji (X (n,q,a',s',l)) P):ji (bif z_.c q a s l then Lib.lt (z_.v q a s l) X else aj) P:=by obtain⟨n,a',s',h1,h2,h3,h4⟩:=z_.ok q a s l hI hR.1;exact call h1 h2 (hx _ a' s' h3 (hR.2 n h4))
theorem alE{α:Type}{q:aQ}{a s:aw}{l:aQ}{X:aq×aQ×aw×aw×aQ->az α}{P:α->Prop}(R:aq->Prop)(hR:0<l.length/\∀i,i<l.length->R (bw (ar l i 0)))(hI:I q a)(hx:∀n a' s',I q a'->R n->ji (X (n,q,a',s',l)) P):ji (bif pL.c q a s l then Lib.lt (pL.v q a s l) X else aj) P:=by obtain⟨n,a',s',h1,h2,h3,h4⟩:=pL.ok q a s l hI hR.1;exact call h1 h2 (hx _ a' s' h3 (hR.2 n h4))
theorem key{α:Type}{q:aQ}{a s:aw}{X:aq×aQ×aw×aw->az α}{P:α->Prop}(hI:I q a)(hx:∀n a' s',I q a'->n.size=2->ji (X (n,q,a',s')) P):ji (bif uZ.c q a s then Lib.lt (uZ.v q a s) X else aj) P:=by obtain⟨n,a',s',h1,h2,h3,h4⟩:=uZ.ok q a s hI;exact call h1 h2 (hx n a' s' h3 h4)
theorem idx{n:aw}{m:aF}(h0:0<=n)(h1:0<(m:aw)->n<(m:aw))(hm:decide ((m:aw)>0)=ai):(decide (0<=n)&&decide (n<(m:aw)))=true:=by have:=h1 (cu hm);rw[aE h0,aE this,aM]
end A_Post

namespace Eh
open Lib (Px Cl Fe En el)
open gT (kp He Lk)
open fZ (my fT)
open zZ (jo j5)
open sZ (cls kF)
open gu (B9 CY sW told iR)
open uQ (nU ec)
open il (hit sM put HW NW Fl lA jn rT)
open d_ (mL qa one p0)
open kB (yu)
open gF (Wo Ev closed tB jq iz flag)
open jT (es)
open qZ (g6)
open g_ (th)
theorem xF{e:En}{now:aw}(hn:1<=now/\now<=1000000000):mL e now=ai↔nb.v e.k e.st e.li e.bo=ai/\e.st<=now/\now-e.st<e.li:=by
 unfold mL;rw[vR.eq];unfold vR.v;rw[show kl.v now e.st 1000000000=decide (e.st<=now/\now<=1000000000)from fG.eO _ _ _];cases h:nb.v e.k e.st e.li e.bo with
 |false=>simp
 |true=>
  have hr:=nb.Ea h;rw[au,dg (x:=now-e.st) (by omega) (by omega)];by_cases h2:e.st<=now
  ·rw[aE (⟨h2,hn.2⟩:e.st<=now/\now<=1000000000),au];simp[h2]
  ·rw[aK (λq:e.st<=now/\now<=1000000000=>h2 q.1),ax];simp[h2]
theorem Hc:∀(l:aA En),(l.Pairwise λa b=>a.k≠b.k)->∀x∈l,x∈kp l:=by
 intro l;rw[<-vO l];generalize l.reverse=r;induction r with
 |nil=>intro _ x hx;cases hx
 |cons e r ih=>
  intro h x hx;rw[yS]at h hx⊢;rw[He];rw[n7]at h;obtain⟨h1,_,h3⟩:=h;rcases ba.1 hx with hx|hx
  ·exact j5.2 (.inr ⟨ih h1 x hx,h3 x hx e dr⟩)
  ·rw[aZ.1 hx];exact j5.2 (.inl rfl)
theorem uB(w:Wo):(jq w).Pairwise λa b=>a.k≠b.k:=by have h:=zZ.yt (gT.ajV (es w.o));rw[lJ,jy]at h;exact oD _ h
def Gp(fe:aA Fe)(bd:aA En)(c:Cl):Prop:=
 (c.fe=0/\c.sta=2/\∃e∈bd,e.k=c.k/\e.st=c.fr/\e.bo=c.mM/\e.li>c.age)\/
 ∃n:aF,c.fe=(n:aw)+1/\n<fe.length/\(el fe n).k=c.k/\c.mM=(el fe n).t/\(el fe n).sta=c.sta/\(1<=c.sta/\c.sta<=3)
structure uW (w:Wo):Prop where
 st:∀e∈w.p.en,e.st<=w.p.now
 bd:∀e∈w.p.en,e∈w.bd
 ob:∀e∈es w.o,e∈w.bd
 fr:∀e∈w.p.en,mL e w.p.now=ai->e∈kp (es w.o)
 cl:∀c∈w.p.cl,Gp w.p.fe w.bd c
theorem Gp.bd{fe:aA Fe}{b b':aA En}{c:Cl}(h:Gp fe b c)(hb:∀e∈b,e∈b'):Gp fe b' c:=by
 rcases h with ⟨h1,h2,e,he,h3⟩|h
 ·exact .inl ⟨h1,h2,e,hb e he,h3⟩
 ·exact .inr h
theorem Gp.app{fe:aA Fe}{b:aA En}{c:Cl}(h:Gp fe b c)(g:Fe):Gp (fe++[g]) b c:=by
 rcases h with h|⟨n,h1,h2,h3,h4,h5,h6⟩
 ·exact .inl h
 ·have e:el (fe++[g]) n=el fe n:=by rw[eN (by rw[bP];omega),eN h2,List.getElem_append_left h2]
  exact .inr ⟨n,h1,by rw[bP];omega,by rw[e];exact h3,by rw[e];exact h4,by rw[e];exact h5,h6⟩
theorem zY{p:Px}{b:aA En}{n:aF}{g:Fe}{st:aw}(hn:n<p.fe.length)(ho:(el p.fe n).sta=1)(hk:g.k=(el p.fe n).k)(hg:g.sta=st)(h1:1<=st/\st<=3)(h:∀c∈p.cl,Gp p.fe b c):∀c∈(told p n g st).cl,Gp (told p n g st).fe b c:=by
 intro c hc;obtain⟨x,hx,rfl⟩:=cX.1 (show c∈p.cl.map (ec n st g.t)from hc);have QD:=h x hx;show Gp (p.fe.set n g) b (ec n st g.t x);rcases QD with h0|⟨m,m1,m2,m3,m4,m5,m6⟩
 ·have e:ec n st g.t x=x:=by unfold ec;rw[aK (show¬x.fe=(n:aw)+1 by have:=h0.1;omega)];rfl
  rw[e];exact .inl h0
 ·by_cases hm:m=n
  ·subst hm;have e:ec m st g.t x={x with sta:=st,mM:=g.t}:=by unfold ec;rw[aE m1,aE (show x.sta=1 by rw[<-m5];exact ho)];rfl
   rw[e];refine .inr ⟨m,m1,by rw[cE];exact m2, ?_, ?_, ?_,h1⟩
   ·rw[iR m2,hk];exact m3
   ·rw[iR m2]
   ·rw[iR m2];exact hg
  ·have e:ec n st g.t x=x:=by unfold ec;rw[aK (show¬x.fe=(n:aw)+1 by omega)];rfl
   have e2:el (p.fe.set n g) m=el p.fe m:=by rw[eN (by rw[cE];exact m2),eN m2,List.getElem_set_ne (by omega)]
   rw[e];exact .inr ⟨m,m1,by rw[cE];exact m2,by rw[e2];exact m3,by rw[e2];exact m4,by rw[e2];exact m5,m6⟩
theorem ZS{p:Px}{e x:En}(h:x∈(yu p e).en):x=e\/x∈p.en:=by
 unfold yu at h;dsimp only at h;cases hb:fm.has (e8.val p.w p.m p.s p.a e.k).1 e.k||fm.has (e8.val p.w p.m p.s p.a e.k).2.1 e.k with
 |true=>
  rw[hb,au]at h;rcases j5.1 h with h|h
  ·exact .inl h
  ·exact .inr (jo.1 h.1).1
 |false=>rw[hb,ax]at h;exact .inr (jo.1 h).1
theorem VM{p:Px}{e x:En}(hp:jA.sO p.w p.m p.s p.a=ai)(hk:jA.eS e.k=ai)(h:x∈(yu p e).en):x=e\/(x∈p.en/\x.k≠e.k):=by
 have hb:=FC.JW (key:=e.k) hp hk;unfold yu at h;dsimp only at h;rw[hb,au]at h;rcases j5.1 h with h|h
 ·exact .inl h
 ·exact .inr ⟨(jo.1 h.1).1,h.2⟩
theorem Tt{l:aA Cl}{c x:Cl}(h:x∈jn l c):x=c\/x∈l:=by
 unfold jn at h;rcases ba.1 h with h|h
 ·rcases ba.1 h with h|h
  ·exact .inr (c_.1 h).1
  ·exact .inl (aZ.1 h)
 ·exact .inr (c_.1 h).1
theorem zL{w:Wo}{p:Px}(h:uW w)(hn:p.now=w.p.now)(he:∀x∈p.en,x∈w.p.en)(hc:∀c∈p.cl,Gp p.fe w.bd c):uW {w with p:=p}:=
 ⟨λx hx=>by show x.st<=p.now;rw[hn];exact h.st x (he x hx),λx hx=>h.bd x (he x hx),h.ob,λx hx hf=>h.fr x (he x hx) (by rw[<-hn];exact hf),hc⟩
theorem NY{w:Wo}{id:aw}{key:aq}{b:aX}{fe:aA Fe}{i:aF}(h:uW w)(HZ:∀c,Gp w.p.fe w.bd c->Gp fe w.bd c)(hi:i<fe.length)(hk:(el fe i).k=key)(hs:(el fe i).sta=1):uW {w with p:=put w.p id key b fe i}:=by
 refine zL h rfl (λx hx=> ?_) (λc hc=> ?_)
 ·unfold put at hx;cases b with
  |true=>exact(jo.1 hx).1
  |false=>exact hx
 ·rcases Tt hc with rfl|hc
  ·exact .inr ⟨i,rfl,hi,hk,rfl,hs,by dsimp only;omega⟩
  ·exact HZ c (h.cl c hc)
theorem Jv{w:Wo}{id:aw}{key:aq}{b:aX}(h:uW w):uW {w with p:=(sM w.p id key b).1}:=by
 unfold sM;cases XQ:NW w.p.fe key with
 |some i=>obtain⟨hi,hq,_⟩:=mS.1 XQ;unfold Fl at hq;rw[aL,bf,bf]at hq;exact NY h (λ_ q=>q) hi (by rw[eN hi];exact hq.1) (by rw[eN hi];exact hq.2)
 |none=>
  dsimp only;by_cases Qy:w.p.fe.length<20
  ·rw[aE Qy,au];have e:el (w.p.fe++[rT key]) w.p.fe.length=rT key:=by rw[eN (by rw[bP];show w.p.fe.length<w.p.fe.length+1;omega),List.getElem_append_right (cG _)];simp
   exact NY h (λc q=>q.app _) (by rw[bP];show w.p.fe.length<w.p.fe.length+1;omega) (by rw[e];rfl) (by rw[e];rfl)
  ·rw[aK Qy];exact h
theorem Xf{w:Wo}(id:aw)(key:aq)(ho:g6 w.p)(h:uW w):uW {w with p:=(il.ask w.p id key).1}:=by
 unfold il.ask;cases hg:pe.jb w.p&&(decide (1<=id/\id<=9)&&(jA.eS key&&(!lA w.p.cl id&&decide (w.p.cl.length<6))))with
 |false=>exact h
 |true=>
  rw[au];cases he:HW w.p.en key with
  |none=>exact Jv h
  |some e=>
   dsimp only;cases hf:il.mL e w.p.now with
   |false=>exact Jv h
   |true=>
    unfold HW at he;have h1:=qC he;have h2:e.k=key:=by have:=vl he;exact cu this
    obtain⟨f1,f2,f3⟩:=(xF ho.now).1 (show mL e w.p.now=ai from hf);refine zL h rfl (λx hx=>hx) (λc hc=> ?_);rcases Tt hc with rfl|hc
    ·exact .inl ⟨rfl,rfl,e,h.bd e h1,h2,rfl,rfl,by dsimp only;omega⟩
    ·exact h.cl c hc
theorem Zt{w:Wo}(f:aw)(t:aq)(h:uW w):uW {w with p:=(CY w.p f t).1}:=by
 unfold CY;cases ho:sW w.p f&&(decide (1<=t.size/\t.size<=40)&&decide ((el w.p.fe f.toNat).t.size+t.size<=400))with
 |false=>exact h
 |true=>rw[aL]at ho;obtain⟨n,rfl,hn,_,h1⟩:=gu.iT ho.1;rw[au,dH];exact zL h rfl (λx hx=>hx) (zY hn h1 rfl h1 (by omega) h.cl)
theorem Xj{w:Wo}(f:aw)(h:uW w):uW {w with p:=(B9 w.p f).1}:=by
 unfold B9;cases ho:sW w.p f with
 |false=>exact h
 |true=>obtain⟨n,rfl,hn,_,h1⟩:=gu.iT ho;rw[au,dH];exact zL h rfl (λx hx=>hx) (zY hn h1 rfl rfl (by omega) h.cl)
theorem KH{w:Wo}(f life:aw)(ho:g6 w.p)(hl:0<=life/\life<=999999)(h:uW w):uW (closed w f life).1:=by
 unfold closed;dsimp only;unfold cls;cases XQ:sW w.p f&&decide (0<=life/\life<=999999)with
 |false=>exact h
 |true=>
  rw[aL]at XQ;obtain⟨n,rfl,hn,_,h1⟩:=gu.iT XQ.1;obtain⟨g1,g2,g3,g4,g5⟩:=zZ.IQ ho hn;rw[au,dH];have ht:∀c∈(told w.p n {el w.p.fe n with sta:=2,li:=life,st:=w.p.now} 2).cl,Gp (told w.p n {el w.p.fe n with sta:=2,li:=life,st:=w.p.now} 2).fe w.bd c:=zY hn h1 rfl rfl (by omega) h.cl;by_cases Ps:life>0
  ·rw[aE Ps,au];dsimp only[bc,au];have ee:el (yu (told w.p n {el w.p.fe n with sta:=2,li:=life,st:=w.p.now} 2) (kF {el w.p.fe n with sta:=2,li:=life,st:=w.p.now})).fe n={el w.p.fe n with sta:=2,li:=life,st:=w.p.now}:=iR hn;rw[ee];generalize hE:kF {el w.p.fe n with sta:=2,li:=life,st:=w.p.now}=E;have hEk:E.k=(el w.p.fe n).k:=by rw[<-hE];rfl
   have hEs:E.st=w.p.now:=by rw[<-hE];rfl
   have mem:∀x∈(yu (told w.p n {el w.p.fe n with sta:=2,li:=life,st:=w.p.now} 2) E).en,x=E\/(x∈w.p.en/\x.k≠E.k):=λx hx=>VM (p:=told w.p n {el w.p.fe n with sta:=2,li:=life,st:=w.p.now} 2) ho.pol (by rw[hEk];exact g1) hx;refine⟨λx hx=> ?_,λx hx=> ?_,λx hx=> ?_,λx hx hf=> ?_,λc hc=>(ht c hc).bd λx hx=>bM _ hx⟩
   ·rcases mem x hx with rfl|hx
    ·exact Int.le_of_eq hEs
    ·exact h.st x hx.1
   ·rcases mem x hx with rfl|hx
    ·exact bN _ dr
    ·exact bM _ (h.bd x hx.1)
   ·rcases ba.1 (show x∈es w.o++[E]from hx)with hx|hx
    ·exact bM _ (h.ob x hx)
    ·exact bN _ hx
   ·show x∈kp (es w.o++[E]);rw[He];rcases mem x hx with rfl|hx
    ·exact j5.2 (.inl rfl)
    ·exact j5.2 (.inr ⟨h.fr x hx.1 hf,hx.2⟩)
  ·rw[aK Ps,ax];exact zL h rfl (λx hx=>hx) ht
theorem UG{w:Wo}(n:aw)(ho:g6 w.p)(h:uW w):uW {w with p:=qH.val w.p n}:=by
 obtain⟨l1,l2⟩:=FD.zG (n:=n) ho.now;have XP:=ho.now;refine⟨λx hx=>BQ (h.st x hx) l1,h.bd,h.ob,λx hx hf=>h.fr x hx ?_,h.cl⟩
 obtain⟨f1,f2,f3⟩:=(xF (now:=qH.later w.p.now n) ⟨by omega,l2⟩).1 hf;have:=h.st x hx;exact(xF ho.now).2 ⟨f1,this,by omega⟩
theorem PG{w:Wo}(id:aw)(h:uW w):uW {w with p:=s_.val w.p id}:=
 zL h rfl (λx hx=>hx) (λc hc=>h.cl c (c_.1 hc).1)
theorem xV{now:aw}:∀(l:aA En),∀x∈(qa now l).en,x∈l/\mL x now=true:=by
 intro l;rw[<-vO l];generalize l.reverse=r;induction r with
 |nil=>intro x hx;cases hx
 |cons e r ih=>
  intro x hx;rw[yS]at hx⊢;have e1:qa now (r.reverse++[e])=one now (qa now r.reverse) e:=by unfold qa;rw[kU];rfl
  rw[e1]at hx;unfold one at hx;cases hf:mL e now with
  |false=>rw[hf,ax]at hx;exact⟨bM _ (ih x hx).1,(ih x hx).2⟩
  |true=>
   rw[hf,au]at hx;rcases ZS hx with rfl|hx
   ·exact⟨bN _ dr,hf⟩
   ·exact⟨bM _ (ih x hx).1,(ih x hx).2⟩
theorem SB{w:Wo}(ho:g6 w.p)(h:uW w):uW (tB w):=by
 have V:=d_.rP w.p.now (jq w) (jq w).length (cG _);rw[dE]at V;have hm:∀x∈jq w,x∈es w.o:=λx hx=>Lk (c_.1 hx).1;refine⟨λx hx=> ?_,λx hx=>h.ob x (hm x (xV _ x hx).1),λx hx=>h.ob x (hm x hx),λx hx _=>Hc _ (uB w) x (xV _ x hx).1,λc hc=> ?_⟩
 ·show x.st<=(qa w.p.now (jq w)).now;rw[V.now];exact((xF ho.now).1 (xV _ x hx).2).2.1
 ·have:c∈(qa w.p.now (jq w)).cl:=hc;rw[V.cl]at this;cases this
theorem aeM{w:Wo}{l:aA aw}(h:uW w):uW {w with cd:=l}:=⟨h.st,h.bd,h.ob,h.fr,h.cl⟩
theorem VL{i:aF}{w:Wo}{e:Ev}(hW:th i w)(h:uW w):uW (gF.step w e):=by
 unfold gF.step;refine aeM ?_;unfold gF.act;cases decide (e.k=1)
 ·cases decide (e.k=2)
  ·cases decide (e.k=3)
   ·cases decide (e.k=4)
    ·cases decide (e.k=5)
     ·cases decide (e.k=6)
      ·exact SB hW.px h
      ·exact PG _ h
     ·exact UG _ hW.px h
    ·exact Xj _ h
   ·exact KH _ _ hW.px (by omega) h
  ·exact Zt _ _ h
 ·exact Xf _ _ hW.px h
theorem ZG:∀{l:aA Ev},(∀e∈l,iz e=ai)->uW (qc.run l):=by
 intro l;rw[<-vO l];generalize l.reverse=r;induction r with
 |nil=>intro _;show uW qc.w0;exact⟨λx h=>cK h gG,λx h=>cK h gG,λx h=>cK h gG,λx h=>cK h gG,λx h=>cK h gG⟩
 |cons e r ih=>
  intro h;rw[yS]at h⊢;have e1:qc.run (r.reverse++[e])=gF.step (qc.run r.reverse) e:=by unfold qc.run;rw[kU];rfl
  have h2:∀x∈r.reverse,iz x=true:=λx hx=>h x (bM _ hx);rw[e1];exact VL (qc.LL h2) (ih h2)
end Eh

namespace Kz
open du (I)
open A_Post (ji)
open gF (Ev iz)
def Dr(q e w m s fe cl dk cd bd:aQ)(x:aw×aw×aq×aw×aQ×aQ×aw×aw×aQ×aQ×aQ×aQ×aQ×aQ×aQ×aQ×aQ):Prop:=
 ∃k id t n a' s',x=(k,id,t,n,[],q,a',s',e,w,m,s,fe,cl,dk,cd,bd)/\I q a'/\iz ⟨k,id,t,n,[]⟩=ai/\k<=6
theorem leaf{q e w m s fe cl dk cd bd:aQ}{k id:aw}{t:aq}{n a' s':aw}(hI:I q a')(hk:1<=k/\k<=6)(I_:0<=id/\id<=30)(ht:t.size<=60)(hn:0<=n):ji (ah (k,id,t,n,([]:aQ),q,a',s',e,w,m,s,fe,cl,dk,cd,bd)) (Dr q e w m s fe cl dk cd bd):=by
 refine⟨_,rfl,k,id,t,n,a',s',rfl,hI, ?_,hk.2⟩
 unfold iz;rw[aE (show 1<=k/\k<=7 by omega),aE I_,aE ht,aE hn];rfl
theorem idA{n:aw}(h0:0<=n)(h1:(0:aw)<3->n<3):0<=n/\n<=30:=by omega
theorem idB{n:aw}(h0:0<=n)(h1:(0:aw)<9->n<9):0<=bJ (1+n)/\bJ (1+n)<=30:=by rw[dg (x:=1+n) (by omega) (by omega)];omega
theorem idC{l:aQ}{n:aw}(hl:∀j,j<l.length->0<=bF (ar l j 0)/\bF (ar l j 0)<=30)(h0:0<=n)(h1:0<(l.length:aw)->n<(l.length:aw))(hp:decide ((l.length:aw)>0)=ai):0<=bF (ar l n.toNat 0)/\bF (ar l n.toNat 0)<=30:=by have:=h1 (cu hp);exact hl _ (by omega)
theorem tA{t:aq}(h:t.size=2):t.size<=60:=by omega
theorem opens{P:R->Prop}(N:aF)(K:aw->aw->aw->aw->aQ->aw->aw->aQ->aQ->aQ->aQ->aQ->aQ->aQ->aQ->aQ->aw->aw->aw->aw->aw->aq->aw->aw->aw->aq->aw->aQ->az R)(x1 x2 x3:aw)(x5:aQ)(x6 x7:aw)(x8 x9 WD WE HH WG x14 WH WI:aQ)(ZZ Z0 Z1 Z2 Z3:aw)(Z4:aq)(Z5 Z6 Z7:aw)(Z8:aq)(Z9:aw)(hf:HH.length<=20)
  (hK:∀l:aQ,(∀j,j<l.length->0<=bF (ar l j 0)/\bF (ar l j 0)<=30)->ji (K x1 x2 x3 (HH.length:aw) x5 x6 x7 x8 x9 WD WE HH WG x14 WH WI ZZ Z0 Z1 Z2 Z3 Z4 Z5 Z6 Z7 Z8 Z9 l) P):
  ∀(d i n:aF) (l:aQ),HH.length-i<=d->i<=HH.length->d<n->l.length<=i->(∀j,j<l.length->0<=bF (ar l j 0)/\bF (ar l j 0)<=30)->
   ji (l4 N K n x1 x2 x3 (i:aw) x5 x6 x7 x8 x9 WD WE HH WG x14 WH WI ZZ Z0 Z1 Z2 Z3 Z4 Z5 Z6 Z7 Z8 Z9 l) P:=by
 have fin:∀(n:aF) (l:aQ),(∀j,j<l.length->0<=bF (ar l j 0)/\bF (ar l j 0)<=30)->ji (l4 N K (n+1) x1 x2 x3 (HH.length:aw) x5 x6 x7 x8 x9 WD WE HH WG x14 WH WI ZZ Z0 Z1 Z2 Z3 Z4 Z5 Z6 Z7 Z8 Z9 l) P:=λn l hl=>by refine A_Post.eq ?_ (hK l hl);simp only[l4,r4,Lib.dn,bm,bj,ax]
 intro d;induction d with
 |zero=>
  intro i n l h1 h2 h3 h4 h5;obtain⟨n,rfl⟩:∃k,n=k+1:=⟨n-1,by omega⟩
  have:i=HH.length:=by omega
  subst this;exact fin n l h5
 |succ d ih=>
  intro i n l h1 h2 h3 h4 h5;obtain⟨n,rfl⟩:∃k,n=k+1:=⟨n-1,by omega⟩
  by_cases h:i<HH.length
  ·have me:bJ ((i:aw)+1)=((i+1:aF):aw):=dg (by omega) (by omega);by_cases hs:bF (ar HH i 2)=1
   ·have hr:cy (l.length+(aD (aP [Ck.i ao] 1) 0 [CV.i ao (i:aw)]).length) 8=true:=by rw[fV.m8];exact Lib.cj (by omega) (by omega)
    refine A_Post.eq (o':=l4 N K n x1 x2 x3 ((i+1:aF):aw) x5 x6 x7 x8 x9 WD WE HH WG x14 WH WI ZZ Z0 Z1 Z2 Z3 Z4 Z5 Z6 Z7 Z8 Z9 (l++aD (aP [Ck.i ao] 1) 0 [CV.i ao (i:aw)])) ?_ (ih (i+1) n _ (by omega) h (by omega) (by rw[bP,fV.m8];omega) λj hj=> ?_)
    ·simp only[l4,r4,Lib.dn,h,aN,Lib.cF,aM,au,Lib.dY,hs,hr,me]
    ·rw[bP,fV.m8]at hj;by_cases j7:j<l.length
     ·have:ar (l++aD (aP [Ck.i ao] 1) 0 [CV.i ao (i:aw)]) j 0=ar l j 0:=by unfold ar;rw[cT,cT,dI j7];simp only[cT]
      rw[this];exact h5 j j7
     ·have:ar (l++aD (aP [Ck.i ao] 1) 0 [CV.i ao (i:aw)]) j 0=CV.i ao (i:aw):=by unfold ar;rw[cT,cT,db (by omega),show j-l.length=0 by omega];rfl
      rw[this];show 0<=(i:aw)/\(i:aw)<=30;omega
   ·refine A_Post.eq (o':=l4 N K n x1 x2 x3 ((i+1:aF):aw) x5 x6 x7 x8 x9 WD WE HH WG x14 WH WI ZZ Z0 Z1 Z2 Z3 Z4 Z5 Z6 Z7 Z8 Z9 l) ?_ (ih (i+1) n _ (by omega) h (by omega) (by omega) h5);simp only[l4,r4,Lib.dn,h,aN,Lib.cF,aM,au,ax,Lib.dY,hs,bj,me]
  ·have:i=HH.length:=by omega
   subst this;exact fin n l h5
set_option maxHeartbeats 8000000 in
theorem body(q:aQ)(a s:aw)(now:aw)(en w m sk:aQ)(ag:aw)(fe cl:aQ)(hits:aw)(dk cd bd:aQ)(hI:I q a)(hf:fe.length<=20)(hc:∀j,j<cl.length->0<=bF (ar cl j 0)/\bF (ar cl j 0)<=30):ji (vo q a s now en w m sk ag fe cl hits dk cd bd) (Dr q en w m sk fe cl dk cd bd):=by
 unfold vo;generalize hN:Lib.cW=N;have hN1:20<N:=by rw[<-hN];exact cJ (by omega)
 unfold b;refine A_Post.acI (λn=>1<=n/\n<=6) ⟨by decide,by decide⟩ hI (λkd a1 s1 I1 hk=> ?_);refine opens N _ _ _ _ _ _ _ _ _ _ _ _ _ _ _ _ _ _ _ _ _ _ _ _ _ _ _ hf (λl hl=> ?_) fe.length 0 N _ (by omega) (by omega) (by omega) (bI _) (λj hj=>cK hj (Nat.not_lt_zero j));dsimp only
 repeat' first
  |refine A_Post.below (by assumption) (λn a s hI h0 h1=> ?_)
  |refine A_Post.once (by assumption) (λn a s hI=> ?_)
  |refine A_Post.key (by assumption) (λn a s hI h0=> ?_)
  |refine A_Post.acI (λn=>0<=n) ⟨by decide,by decide⟩ (by assumption) (λn a s hI h0=> ?_)
  |refine A_Post.alE (λt=>t.size<=60) ⟨by decide,by decide⟩ (by assumption) (λn a s hI h0=> ?_)
  |refine A_Post.ck (A_Post.idx (by assumption) (by assumption) (by assumption)) ?_
  |refine leaf (by assumption) (by first|exact hk|decide) (by first|exact idA (by assumption) (by assumption)|exact idB (by assumption) (by assumption)|exact idC hl (by assumption) (by assumption) (by assumption)|exact idC hc (by assumption) (by assumption) (by assumption)|decide) (by first|exact bI _|assumption|exact tA (by assumption)) (by first|exact Int.le_refl 0|assumption)
  |refine A_Post.br (λh=> ?_) (λh=> ?_)
end Kz

namespace tf
theorem ok(l:aQ)(hl:l.length<=4294967296):c l=ai/\v l=l:=by refine out l ?_;unfold vo b;rw[show bT (aP [Ck.s] 0)+l.length=l.length by simp[aP],Lib.cj (by omega) (by omega)];rfl
end tf

namespace ju
open Lib (rr rs)
theorem ok(w m:aA aq)(s:aA (aA aw))(a:aw)(hw:w.length<=1048576)(hm:m.length<=1048576)(hf:jm.oN s):c (rs w) (rs m) (rr s) a=ai/\v (rs w) (rs m) (rr s) a=(rs w,rs m,rr s,a):=by have h1:=tf.ok (rs w) (by rw[e6];omega);have h2:=tf.ok (rs m) (by rw[e6];omega);have h3:=jm.ok s a hf;exact out _ _ _ _ (by unfold vo b;rw[h1.1,h1.2,h2.1,h2.2,h3.1,h3.2,au,au,au])
end ju

namespace iP
open Lib (rr rs re rf rc Px)
theorem ok(p:Px)(hp:p.Fit 1048576):c p.now (re p.en) (rs p.w) (rs p.m) (rr p.s) p.a (rf p.fe) (rc p.cl) p.hits=ai/\v p.now (re p.en) (rs p.w) (rs p.m) (rr p.s) p.a (rf p.fe) (rc p.cl) p.hits=(p.now,re p.en,rs p.w,rs p.m,rr p.s,p.a,rf p.fe,rc p.cl,p.hits):=by have he:=hp.en;have hf:=hp.fe;have hc:=hp.cl;have h1:=wP.ok (re p.en) (by rw[de];omega);have h2:=ju.ok p.w p.m p.s p.a hp.w hp.m ⟨hp.s.1,hp.s.2.1⟩;exact out _ _ _ _ _ _ _ _ _ (by unfold vo b;rw[h1.1,h1.2,h2.1,h2.2,au,au,Lib.cj (by simp[aP,dN];omega) (by simp[aP,dN];omega),Lib.cj (by simp[aP,fg];omega) (by simp[aP,fg];omega)];rfl)
end iP

namespace pN
open Lib (rr)
theorem eO(n a b:aw):lz.v n a b=decide (a<=n/\n<=b):=fG.eO n a b
theorem ok(s:aA (aA aw))(a:aw)(hf:jm.oN s):c (rr s) a=ai/\v (rr s) a=fG.oj s a:=by
 refine out _ _ ?_;unfold vo b;have hl:=hf.1;rw[gX]
 have inner:∀i (h:i<s.length) (K0 K1:aX->aQ->aQ->aw->aw->aQ->aw->aw->aQ->aw->az aX) (kf kt:az aX) (x:aw)
   (h0:∀j:aw,K0 ak (Lib.ri s[i]) (rr s) s.length i (Lib.ri s[i]) x j (rr s) a=kf) (h1:∀j:aw,K1 ak (Lib.ri s[i]) (rr s) s.length i (Lib.ri s[i]) x j (rr s) a=kt),x=(s[i].length:aw)->l5 Lib.cW K0 K1 Lib.cW ak (Lib.ri s[i]) (rr s) s.length (i:aw) (Lib.ri s[i]) x 0 (rr s) a=bif(s[i]).all fG.NK then kt else kf:=λi h K0 K1 kf kt x h0 h1 hx=>by
  subst hx
  exact pf (s[i]) fG.NK (λm (j:aF)=>l5 Lib.cW K0 K1 m ak (Lib.ri s[i]) (rr s) s.length (i:aw) (Lib.ri s[i]) s[i].length (j:aw) (rr s) a) kf kt
   (λm j hj hp=>by have hl:=hf.2 _ (bC h);unfold fG.NK at hp;simp only[l5,r5,Lib.dn,hj,aN,Lib.cF,aM,au,Lib.dY,Lib.gW,QG hj,bF,eO,hp,a_,ax,Lib.c5 hj (by omega:s[i].length<=9223372036854775807)])
   (λm j hj hp=>by unfold fG.NK at hp;simp only[l5,r5,Lib.dn,hj,aN,Lib.cF,aM,au,Lib.dY,Lib.gW,QG hj,bF,eO,hp,bR,h0])
   (λm=>by simp only[l5,r5,Lib.dn,bm,bj,ax,h1]) Lib.cW (cJ (by have:=hf.2 _ (bC h);omega))
 have ro:∀q:aA aw,fG.sD q=(q.all fG.NK&&decide (q.length=16)):=λq=>Bool.and_comm ..
 have key:=pf s fG.sD (λm (i:aF)=>l2 Lib.cW (λ(y36:aX) (_:aQ) (_ _:aw) (_:aQ) (_:aw)=>ah y36) (λ(_:aX) (_:aQ) (_ _:aw) (y46:aQ) (y47:aw)=>bif(decide ((↑(bT y46):aw)=3))then(ah (lz.v y47 0 63))else(ah ak)) m ak (rr s) s.length (i:aw) (rr s) a) (ah ak) (ah (decide (s.length=3)&&decide (0<=a/\a<=63)))
  (λm i h hp=>by rw[ro,aL]at hp;have J6:=cu hp.2;simp only[l2,r2,gX,Lib.dn,h,aN,Lib.cF,aM,au,Lib.dY,J9 h,jx,Lib.gW];rw[inner i h _ _ (ah ak) _ _ (λ_=>rfl) (λ_=>rfl) rfl,hp.1,au,Lib.gW,J6,show(((16:aF):aw) !=16)=ak from rfl,ax,Lib.c5 h (by omega)])
  (λm i h hp=>by
   rw[ro]at hp;simp only[l2,r2,gX,Lib.dn,h,aN,Lib.cF,aM,au,Lib.dY,J9 h,jx,Lib.gW];rw[inner i h _ _ (ah ak) _ _ (λ_=>rfl) (λ_=>rfl) rfl];cases ha:(s[i]).all fG.NK with
   |false=>rfl
   |true=>rw[ha,bc]at hp;have:=lX hp;rw[au,Lib.gW,show((s[i].length:aw) !=16)=ai by simp;omega,au])
  (λm=>by simp only[l2,r2,gX,Lib.dn,bm,bj,ax,eO];rw[show decide ((s.length:aw)=3)=decide (s.length=3)by rw[ch];omega];cases decide (s.length=3)<;>rfl) Lib.cW (cJ (by omega))
 refine key.trans ?_;unfold fG.oj;cases s.all fG.sD<;>cases decide (s.length=3)<;>cases decide (0<=a/\a<=63)<;>rfl
end pN

namespace DR
theorem ok(n:aw)(h0:0<=n)(h1:n<=4294967296):c n=ai/\v n=[]:=by
 refine out n ?_;unfold vo b;have e:bJ (n-bJ (0-0))=n:=by rw[show bJ (0-0)=0 from rfl,Int.sub_zero,dg (by omega) (by omega)]
 rw[e,aK (show¬n<0 by omega),ax];by_cases hn:n>0
 ·rw[aE hn,au,aE h0,aE (show n<=9223372036854775807 by omega),Lib.cj (by simp;omega) (by simp;omega)];simp[eA]
 ·rw[aK hn,ax]
end DR

namespace wO
theorem ok(p q:aQ)(hp:p.length<=1048576)(hq:q.length<=1048576):c [[CV.l 9 p],[CV.l 9 q]]=ai/\v [[CV.l 9 p],[CV.l 9 q]]=p++q:=by
 refine out _ ?_;have w1:bJ (0+(p.length:aw))=(p.length:aw):=by rw[Int.zero_add];exact dg (by omega) (by omega)
 have w2:bJ ((p.length:aw)+(q.length:aw))=(p.length:aw)+(q.length:aw):=dg (by omega) (by omega);have hg:=DR.ok ((p.length:aw)+(q.length:aw)) (by omega) (by omega);have d1:decide ((p.length:aw)<0)=false:=aK (by omega);have d2:decide ((p.length:aw)+(q.length:aw)<0)=false:=aK (by omega);have g1:cy (0+p.length) 16=true:=Lib.cj (by omega) (by omega);have g2:cy (p.length+q.length) 16=true:=Lib.cj (by omega) (by omega);have c0:jx (ar [[CV.l 9 p],[CV.l 9 q]] 0 0)=p:=rfl;have c1:jx (ar [[CV.l 9 p],[CV.l 9 q]] 1 0)=q:=rfl;unfold vo b;obtain⟨n,hn⟩:∃n,Lib.cW=n+3:=⟨18446744073709551613,rfl⟩
 generalize Lib.cW=B at hn⊢;subst hn;have k3:∀(R:Type) (K:aQ->aw->aQ->aw->aw->az R) (S:aQ),S=[[CV.l 9 p],[CV.l 9 q]]->l3 (n+3) K (n+3) S 0 S 2 0=K S ((p.length:aw)+(q.length:aw)) S 2 2:=by intro R K S hS;subst hS;simp only[l3,r3,dc,jS,show aW 0=0 from rfl,c0,w1,d1,show bJ (0+1)=1 from rfl,show aW 1=1 from rfl,c1,w2,d2,show bJ (1+1)=2 from rfl,ax,show decide ((0:aw)<2)=ai from rfl,show decide ((1:aw)<2)=ai from rfl,show decide ((2:aw)<2)=ak from rfl,show decide ((0:aw)<=0)=ai from rfl,show decide ((0:aw)<=1)=ai from rfl,show((0+1+1:aF):aw)=2 from rfl,aM,au]
 have k11:∀(R:Type) (K:aQ->aw->aw->aQ->az R) (S:aQ),S=[[CV.l 9 p],[CV.l 9 q]]->PD (n+3) K (n+3) S 2 0 []=K S 2 2 (p++q):=by intro R K S hS;subst hS;simp only[PD,Ap,dc,jS,show aW 0=0 from rfl,c0,g1,show bJ (0+1)=1 from rfl,show aW 1=1 from rfl,c1,gD,g2,show bJ (1+1)=2 from rfl,ax,show decide ((0:aw)<2)=ai from rfl,show decide ((1:aw)<2)=ai from rfl,show decide ((2:aw)<2)=ak from rfl,show decide ((0:aw)<=0)=ai from rfl,show decide ((0:aw)<=1)=ai from rfl,show((0+1+1:aF):aw)=2 from rfl,aM,au]
 show l3 (n+3) _ (n+3) _ 0 _ 2 0=_;rw[k3 _ _ _ rfl,hg.1,hg.2,au];exact k11 _ _ _ rfl
end wO

namespace qE
theorem ok(w m:aA aq)(s:aQ)(a:aw)(hw:w.length<=1048576)(hm:m.length<=1048576):c (Lib.rs w) (Lib.rs m) s a=ai/\v (Lib.rs w) (Lib.rs m) s a=Lib.rs (w++m):=by
 have h:=wO.ok (Lib.rs w) (Lib.rs m) (by rw[e6];exact hw) (by rw[e6];exact hm);have e:aD (aD (aP [Ck.l 9] 2) 0 [CV.l 9 (Lib.rs w)]) 1 [CV.l 9 (Lib.rs m)]=[[CV.l 9 (Lib.rs w)],[CV.l 9 (Lib.rs m)]]:=rfl;have e2:Lib.rs w++Lib.rs m=Lib.rs (w++m):=by unfold Lib.rs;rw[dj]
 exact out _ _ _ _ (by unfold vo b;rw[e,h.1,h.2,au,e2])
end qE

namespace AR
theorem ok(l:aA aq)(k:aq)(hl:l.length<=4294967296):c (Lib.rs l) k=ai/\decide (v (Lib.rs l) k≥0)=fm.has l k:=by
 have h:=out (Lib.rs l) k (x:=Lib.fi (λi=>decide ((l.getD i ⟨#[]⟩)=k)) l.length 0) (by
  unfold vo b;rw[e6];refine mW (λi=>decide ((l.getD i ⟨#[]⟩)=k)) l.length (λm (i:aF)=>l2 Lib.cW (λ(_:aQ) (_:aq) (y7 _ _:aw)=>ah y7) (λ(_:aQ) (_:aq) (_ _ _:aw)=>ah (-1)) m (Lib.rs l) k 0 (l.length:aw) (i:aw)) ah (λm i hi hp=> ?_) (λm i hi hp=> ?_) (λm=> ?_) Lib.cW (cJ (by omega))
  ·have hg:l.getD i ⟨#[]⟩=l[i]:=by simp[jR,hi]
   rw[hg]at hp;have mJ:decide (k=l[i])=true:=by rw[<-hp,ch];exact IK
   simp only[l2,r2,e6,Lib.dn,hi,aN,Lib.cF,aM,au,Lib.dY,WC hi,bw,Lib.fu,mJ]
  ·have hg:l.getD i ⟨#[]⟩=l[i]:=by simp[jR,hi]
   rw[hg]at hp;have mJ:decide (k=l[i])=false:=by rw[<-hp,ch];exact IK
   simp only[l2,r2,e6,Lib.dn,hi,aN,Lib.cF,aM,au,Lib.dY,WC hi,bw,Lib.fu,mJ,ax,Lib.c5 hi (by omega:l.length<=9223372036854775807)]
  ·simp only[l2,r2,Lib.dn,bm,bj,ax])
 refine⟨h.1, ?_⟩
 rw[h.2];exact Lib.Cm l (λx=>decide (x=k)) _ (λi hi=>by simp[jR,hi])
end AR

namespace sH
theorem ok(l:aA aq)(k:aq)(hl:l.length<=4294967296):c (Lib.rs l) k=ai/\v (Lib.rs l) k=fm.has l k:=by have h:=AR.ok l k hl;exact out _ _ (by unfold vo b;rw[h.1,h.2,au])
end sH

namespace o_
open Lib (rr rs)
open fm (has without gK lL)
open jA (eS Li nE sO yx)
theorem iS(k:aq):zq.v k=eS k:=fG.eO _ _ _
theorem ok(w m:aA aq)(s:aA (aA aw))(a:aw)(hw:w.length<=1048576)(hm:m.length<=1048576)(hf:jm.oN s):c (rs w) (rs m) (rr s) a=ai/\v (rs w) (rs m) (rr s) a=sO w m s a:=by
 refine out _ _ _ _ ?_;have h2:=pN.ok s a hf;have h3:=qE.ok w m (rr s) a hw hm;unfold vo b;rw[h3.1,h3.2,au,e6];have hl:(w++m).length<=2097152:=by rw[bP];omega
 have gh:∀i,i<(w++m).length->sH.c (rs ((w++m).take i)) ((w++m).getD i ⟨#[]⟩)=ai/\sH.v (rs ((w++m).take i)) ((w++m).getD i ⟨#[]⟩)=has ((w++m).take i) ((w++m).getD i ⟨#[]⟩):=λi hi=>sH.ok _ _ (by rw[eD];omega);have hk:∀i (hi:i<(w++m).length),bw (ar (rs (w++m)) i 0)=(w++m).getD i ⟨#[]⟩:=λi hi=>by rw[WC hi,show(w++m).getD i ⟨#[]⟩=(w++m)[i]by rw[cT,eW hi];rfl];rfl
 generalize hL:w++m=L at hl gh hk
 have key:=iC (Li L) L.length (λn (i:aF)=>l3 Lib.cW (λ(y8:aX) (_ _:aw) (_ _ _:aQ) (_:aw) (_:aQ)=>ah y8) (λ(_:aX) (_ _:aw) (Eg wy Kd:aQ) (Ke:aw) (_:aQ)=>bif(decide ((↑(bT Eg):aw)<=2))then(bif(decide ((↑(bT wy):aw)<=4))then(bif(pN.c Kd Ke)then(ah (pN.v Kd Ke))else(aj))else(ah ak))else(ah ak)) n ak (L.length:aw) (i:aw) (rs w) (rs m) (rr s) a (rs L)) (ah ak) (ah (decide (w.length<=2)&&(decide (m.length<=4)&&fG.oj s a)))
  (λn i hi hp=>by
   unfold Li at hp;rw[aL,dt]at hp;have b1:g7 0 (i:aw) (L.length:aw)=true:=by simp[g7];omega
   simp only[l3,r3,e6,Lib.dn,hi,aN,Lib.cF,aM,au,Lib.dY,hk i hi,iS,hp.1,a_,ax,b1,yx,(gh i hi).1,(gh i hi).2,hp.2,Lib.c5 hi (by omega:L.length<=9223372036854775807)])
  (λn i hi hp=>by
   have b1:g7 0 (i:aw) (L.length:aw)=true:=by simp[g7];omega
   unfold Li at hp;cases h1:eS (L.getD i ⟨#[]⟩)with
   |false=>simp only[l3,r3,e6,Lib.dn,hi,aN,Lib.cF,aM,au,Lib.dY,hk i hi,iS,h1,bR]
   |true=>rw[h1,bc,nc]at hp;simp only[l3,r3,e6,Lib.dn,hi,aN,Lib.cF,aM,au,Lib.dY,hk i hi,iS,h1,a_,ax,b1,yx,(gh i hi).1,(gh i hi).2,hp])
  (λn=>by simp only[l3,r3,e6,Lib.dn,bm,bj,ax,h2.1,h2.2,au];rw[show decide ((w.length:aw)<=2)=decide (w.length<=2)by rw[ch];omega,show decide ((m.length:aw)<=4)=decide (m.length<=4)by rw[ch];omega];cases decide (w.length<=2)<;>cases decide (m.length<=4)<;>rfl) Lib.cW (cJ (by omega))
 refine key.trans ?_;unfold sO nE;rw[hL];cases (b9 L.length).all (Li L)<;>rfl
end o_

namespace sG
open Lib (rr rs)
open fm (has)
theorem XI(w m:aA aq)(k:aq):has (w++m) k=(has w k||has m k):=by unfold has;rw[List.any_append]
theorem ok(w m:aA aq)(s:aQ)(a:aw)(k:aq)(hw:w.length<=1048576)(hm:m.length<=1048576):c (rs w) (rs m) s a k=ai/\v (rs w) (rs m) s a k=(has w k||has m k):=by have h1:=qE.ok w m s a hw hm;have h2:=sH.ok (w++m) k (by rw[bP];omega);exact out _ _ _ _ _ (by unfold vo b;rw[h1.1,h1.2,h2.1,h2.2,au,au,XI])
end sG

namespace Qv
open Lib (rr rs re el oA qw qx qy En)
open fm (has)
open jA (sO)
open nQ (HV Nd vh)
theorem ES(k:aq)(s l:aw)(b:aq):wJ.v k s l b=nb.v k s l b:=rfl
theorem ok(i0:aw)(en:aA En)(w m:aA aq)(s:aA (aA aw))(a:aw)(r6 r7:aQ)(i8:aw)(he:en.length<=1048576)(hw:w.length<=1048576)(hm:m.length<=1048576)(hf:jm.oN s):
  c i0 (re en) (rs w) (rs m) (rr s) a r6 r7 i8=ai/\v i0 (re en) (rs w) (rs m) (rr s) a r6 r7 i8=Nd en w m s a:=by
 refine out _ _ _ _ _ _ _ _ _ ?_;have h1:=o_.ok w m s a hw hm hf;have h2:=λk=>sG.ok w m (rr s) a k hw hm;have h3:=qE.ok w m (rr s) a hw hm;unfold vo b;rw[de]
 have key:=iC (HV en w m) en.length (λn (i:aF)=>l2 Lib.cW (λ(HJ:aX) (_:aQ) (_ _ _:aw) (_ _ _ _:aQ) (_:aw) (_ _:aQ) (_:aw)=>ah HJ) (λ(_:aX) (_:aQ) (_ _ _:aw) (QQ Qk V5 y34:aQ) (y35:aw) (_ _:aQ) (_:aw)=>bif(o_.c Qk V5 y34 y35)then(bif(o_.v Qk V5 y34 y35)then(bif(qE.c Qk V5 y34 y35)then(ah (decide ((↑(bT (qE.v Qk V5 y34 y35)):aw)=(↑(bT QQ):aw))))else(aj))else(ah ak))else(aj)) n ak (re en) (en.length:aw) (i:aw) i0 (re en) (rs w) (rs m) (rr s) a r6 r7 i8) (ah ak) (ah (sO w m s a&&decide (w.length+m.length=en.length)))
  (λn i hi hp=>by
   unfold HV vh at hp;rw[aL,aL]at hp;obtain⟨p1,p2,p3⟩:=hp;by_cases hz:i=0
   ·subst hz;simp only[l2,r2,de,Lib.dn,hi,aN,Lib.cF,aM,au,Lib.dY,oA hi,qw hi,qx hi,qy hi,bw,bF,ES,p1,a_,ax,aK (show¬(((0:aF):aw)>0)by omega),(h2 _).1,(h2 _).2,p3,Lib.c5 hi (by omega:en.length<=9223372036854775807)]
   ·rw[aK hz,ou]at p2;have me:i-1<en.length:=by omega
    simp only[l2,r2,de,Lib.dn,hi,aN,Lib.cF,aM,au,Lib.dY,oA hi,qw hi,qx hi,qy hi,bw,bF,ES,p1,a_,ax,aE (show(i:aw)>0 by omega),lY (show 0<i by omega) (by omega),me,oA me,p2,(h2 _).1,(h2 _).2,p3,Lib.c5 hi (by omega:en.length<=9223372036854775807)])
  (λn i hi hp=>by
   unfold HV vh at hp;cases p1:nb.v (el en i).k (el en i).st (el en i).li (el en i).bo with
   |false=>simp only[l2,r2,de,Lib.dn,hi,aN,Lib.cF,aM,au,Lib.dY,oA hi,qw hi,qx hi,qy hi,bw,bF,ES,p1,bR]
   |true=>
    rw[p1,bc]at hp;by_cases hz:i=0
    ·subst hz;rw[aE rfl,Ax,bc]at hp;simp only[l2,r2,de,Lib.dn,hi,aN,Lib.cF,aM,au,Lib.dY,oA hi,qw hi,qx hi,qy hi,bw,bF,ES,p1,a_,bR,ax,aK (show¬(((0:aF):aw)>0)by omega),(h2 _).1,(h2 _).2,hp]
    ·rw[aK hz,ou]at hp;have me:i-1<en.length:=by omega
     cases p2:b7 (aC (el en (i-1)).k) (aC (el en i).k)with
     |false=>simp only[l2,r2,de,Lib.dn,hi,aN,Lib.cF,aM,au,Lib.dY,oA hi,qw hi,qx hi,qy hi,bw,bF,ES,p1,a_,bR,ax,aE (show(i:aw)>0 by omega),lY (show 0<i by omega) (by omega),me,oA me,p2]
     |true=>rw[p2,bc]at hp;simp only[l2,r2,de,Lib.dn,hi,aN,Lib.cF,aM,au,Lib.dY,oA hi,qw hi,qx hi,qy hi,bw,bF,ES,p1,a_,bR,ax,aE (show(i:aw)>0 by omega),lY (show 0<i by omega) (by omega),me,oA me,p2,(h2 _).1,(h2 _).2,hp])
  (λn=>by simp only[l2,r2,Lib.dn,bm,bj,ax,h1.1,h1.2,h3.1,h3.2,au,e6,de,bP];rw[show decide (((w.length+m.length:aF):aw)=(en.length:aw))=decide (w.length+m.length=en.length)by rw[ch];omega];cases sO w m s a<;>rfl) Lib.cW (cJ (by omega))
 refine key.trans ?_;unfold Nd;cases (b9 en.length).all (HV en w m)<;>rfl
end Qv

namespace eg
def op(r:aQ)(i:aF):aX:=decide (bF (ar r i 2)=1)
def g(r:aQ)(i j:aF):aX:= !(op r i&&(op r j&&bZ (aC (bw (ar r i 0))) (aC (bw (ar r j 0)))))
def val(r:aQ):aX:=(b9 r.length).all λi=>(b9 i).all (g r i)
end eg

namespace qF
def p(s0:aQ)(gO:aq)(i:aF):aX:=Ia.v (bw (ar s0 i 0)) (bw (ar s0 i 1)) (bF (ar s0 i (1+1))) (bF (ar s0 i (1+1+1))) (bF (ar s0 i (1+1+1+1))) gO
theorem ok(s0:aQ)(gO:aq)(hl:s0.length<=4294967296):c s0 gO=ai/\v s0 gO=Lib.fi (p s0 gO) s0.length 0:=by
 refine out s0 gO ?_;unfold vo b;refine mW (p s0 gO) s0.length (λm (i:aF)=>l2 Lib.cW (λ(_:aQ) (_:aq) (y7 _ _:aw)=>ah y7) (λ(_:aQ) (_:aq) (_ _ _:aw)=>ah (-1)) m s0 gO 0 (s0.length:aw) (i:aw)) ah (λm i hi hp=> ?_) (λm i hi hp=> ?_) (λm=> ?_) Lib.cW (cJ (by omega))
 ·unfold p at hp;simp only[l2,r2,Lib.dn,Lib.cF,Lib.dY,hi,aN,aM,au,hp]
 ·unfold p at hp;simp only[l2,r2,Lib.dn,Lib.cF,Lib.dY,hi,aN,aM,au,hp,ax,Lib.c5 hi (by omega:s0.length<=9223372036854775807)]
 ·simp only[l2,r2,Lib.dn,bm,bj,ax]
end qF

namespace Ky
theorem ok(i0:aw)(r1 r2 r3 r4:aQ)(i5:aw)(r6 r7:aQ)(i8:aw)(key:aq)(hl:r6.length<=4294967296):c i0 r1 r2 r3 r4 i5 r6 r7 i8 key=ai/\v i0 r1 r2 r3 r4 i5 r6 r7 i8 key=Lib.fi (qF.p r6 key) r6.length 0:=by have h:=qF.ok r6 key hl;exact out _ _ _ _ _ _ _ _ _ _ (by unfold vo b;rw[h.1,h.2,au])
end Ky

namespace MY
def q(r:aQ)(i:aF):aX:= !(eg.op r i&&(Lib.fi (qF.p r (bw (ar r i 0))) r.length 0 !=(i:aw)))
theorem same(r:aQ)(i:aF)(hi:i<r.length):q r i=(b9 i).all (eg.g r i):=by
 unfold q;cases ho:eg.op r i with
 |false=>symm;rw[lE,bR,bu];intro j _;unfold eg.g;rw[ho];rfl
 |true=>
  rw[bc];have hp:∀j,qF.p r (bw (ar r i 0)) j= !eg.g r i j:=by intro j;unfold qF.p Ia.v eg.g;rw[ho,bc,Bool.not_not,Lib.fu,Lib.fu];unfold eg.op;rw[show decide (bw (ar r j 0)=bw (ar r i 0))=decide (bw (ar r i 0)=bw (ar r j 0))from by rw[ch];exact IK];cases decide (bw (ar r i 0)=bw (ar r j 0))<;>simp
  have hpi:qF.p r (bw (ar r i 0)) i=true:=by rw[hp];unfold eg.g;rw[ho,Lib.fu];simp
  rcases Lib.pr (qF.p r (bw (ar r i 0))) r.length 0 with ⟨_,h2⟩|⟨k,h1,h2,h3,h4,h5⟩
  ·have:=h2 i (bI _) (by omega);rw[hpi]at this;cases this
  ·rw[h3];by_cases hk:k=i
   ·subst hk;rw[bne_self_eq_false,bR];symm;rw[bu];intro j hj;have:=h5 j (bI _) (by simpa using hj);rw[hp]at this;simpa using this
   ·have jB:k<i:=by
     rcases qX k i with h|h
     ·exact h
     ·have:=h5 i (bI _) (by omega);rw[hpi]at this;cases this
    rw[show((k:aw) !=(i:aw))=ai from by simp;omega,a_];symm;rw[List.all_eq_false];refine⟨k,by simpa using jB, ?_⟩
    rw[hp]at h4;simpa using h4
theorem ok(i0:aw)(p1 p2 p3 p4:aQ)(i5:aw)(p6 p7:aQ)(i8:aw)(hl:p6.length<=4294967296):c i0 p1 p2 p3 p4 i5 p6 p7 i8=ai/\v i0 p1 p2 p3 p4 i5 p6 p7 i8=eg.val p6:=by
 refine out _ _ _ _ _ _ _ _ _ ?_;unfold vo b;have hw:∀i,i<p6.length->bJ ((i:aw)+1)=((i+1:aF):aw):=λi h=>Lib.c5 h (by omega);have ho:=λkey=>Ky.ok i0 p1 p2 p3 p4 i5 p6 p7 i8 key hl
 have key:=iC (q p6) p6.length (λm (i:aF)=>l2 Lib.cW (λ(HJ:aX) (_:aQ) (_ _ _:aw) (_ _ _ _:aQ) (_:aw) (_ _:aQ) (_:aw)=>ah HJ) (λ(_:aX) (_:aQ) (_ _ _:aw) (_ _ _ _:aQ) (_:aw) (_ _:aQ) (_:aw)=>ah ai) m ak p6 (p6.length:aw) (i:aw) i0 p1 p2 p3 p4 i5 p6 p7 i8) (ah ak) (ah ai)
  (λm i hi hp=>by
   unfold q eg.op at hp;cases e1:decide (bF (ar p6 i (1+1))=1)with
   |false=>simp only[l2,r2,Lib.dn,hi,aN,Lib.cF,aM,au,Lib.dY,e1,ax,hw i hi]
   |true=>rw[show decide (bF (ar p6 i 2)=1)=ai from e1,bc,dt]at hp;simp only[l2,r2,Lib.dn,hi,aN,Lib.cF,aM,au,Lib.dY,e1,(ho _).1,(ho _).2,hp,ax,hw i hi])
  (λm i hi hp=>by unfold q eg.op at hp;rw[nc,aL]at hp;obtain⟨e1,e2⟩:=hp;have e1:decide (bF (ar p6 i (1+1))=1)=true:=e1;simp only[l2,r2,Lib.dn,hi,aN,Lib.cF,aM,au,Lib.dY,e1,(ho _).1,(ho _).2,e2])
  (λm=>by simp only[l2,r2,Lib.dn,bm,bj,ax]) Lib.cW (cJ (by omega))
 refine key.trans ?_;rw[all_congr (λi hi=>same p6 i hi)];unfold eg.val;cases (b9 p6.length).all λi=>(b9 i).all (eg.g p6 i)<;>rfl
end MY

namespace OP
open Lib (rf el Fe Dj Dw Qi zW QI QJ)
open ng (nJ apart lD)
theorem eO(n a b:aw):lz.v n a b=decide (a<=n/\n<=b):=fG.eO n a b
theorem one(fe:aA Fe):eg.val (rf fe)=(b9 fe.length).all (apart fe):=by
 unfold eg.val;rw[dN];refine all_congr (λi hi=> ?_);unfold apart;refine all_congr (λj hj=> ?_);have j7:j<fe.length:=by omega
 unfold eg.g eg.op lD;rw[Dj hi,Dj j7,zW hi,zW j7];simp only[bw,bF,Lib.fu];rfl
theorem ok(i0:aw)(u1 u2 u3 u4:aQ)(i5:aw)(fe:aA Fe)(u7:aQ)(i8:aw)(hf:fe.length<=1048576):
  c i0 u1 u2 u3 u4 i5 (rf fe) u7 i8=ai/\v i0 u1 u2 u3 u4 i5 (rf fe) u7 i8=((b9 fe.length).all (λi=>nJ i0 (el fe i))&&(decide (fe.length<=20)&&(b9 fe.length).all (apart fe))):=by
 refine out _ _ _ _ _ _ _ _ _ ?_;have h1:=MY.ok i0 u1 u2 u3 u4 i5 (rf fe) u7 i8 (by rw[dN];omega);rw[one]at h1;unfold vo b;rw[dN]
 have key:=iC (λi=>nJ i0 (el fe i)) fe.length (λn (i:aF)=>l2 Lib.cW (λ(HJ:aX) (_:aQ) (_ _ _:aw) (_ _ _ _:aQ) (_:aw) (_ _:aQ) (_:aw)=>ah HJ) (λ(_:aX) (_:aQ) (_ _ QP:aw) (QQ Qk V5 y34:aQ) (y35:aw) (y36 y37:aQ) (y38:aw)=>bif(decide ((↑(bT y36):aw)<=20))then(bif(MY.c QP QQ Qk V5 y34 y35 y36 y37 y38)then(ah (MY.v QP QQ Qk V5 y34 y35 y36 y37 y38))else(aj))else(ah ak)) n ak (rf fe) (fe.length:aw) (i:aw) i0 u1 u2 u3 u4 i5 (rf fe) u7 i8) (ah ak) (ah (decide (fe.length<=20)&&(b9 fe.length).all (apart fe)))
  (λn i hi hq=>by
   unfold nJ at hq;simp only[aL]at hq;obtain⟨q1,q2,q3,q4,q5⟩:=hq;have e1:decide (((el fe i).t.size:aw)>400)= !decide (((el fe i).t.size:aw)<=400):=by rw[<-decide_not,ch];omega
   simp only[l2,r2,dN,Lib.dn,hi,aN,Lib.cF,aM,au,Lib.dY,Dj hi,Dw hi,Qi hi,QI hi,QJ hi,bw,bF,eO,o_.iS,e1,q1,q2,q3,q4,q5,a_,ax,Lib.c5 hi (by omega:fe.length<=9223372036854775807)])
  (λn i hi hq=>by
   unfold nJ at hq;have e1:decide (((el fe i).t.size:aw)>400)= !decide (((el fe i).t.size:aw)<=400):=by rw[<-decide_not,ch];omega
   simp only[l2,r2,dN,Lib.dn,hi,aN,Lib.cF,aM,au,Lib.dY,Dj hi,Dw hi,Qi hi,QI hi,QJ hi,bw,bF,eO,o_.iS,e1];revert hq;cases jA.eS (el fe i).k<;>cases decide (((el fe i).t.size:aw)<=400)<;>cases decide (1<=(el fe i).sta/\(el fe i).sta<=3)<;>cases decide (0<=(el fe i).li/\(el fe i).li<=999999)<;>cases decide (0<=(el fe i).st/\(el fe i).st<=i0)<;>intro hq<;>first|rfl|cases hq)
  (λn=>by simp only[l2,r2,Lib.dn,bm,bj,ax,dN,h1.1,h1.2,au];rw[show decide ((fe.length:aw)<=20)=decide (fe.length<=20)by rw[ch];omega];cases decide (fe.length<=20)<;>rfl) Lib.cW (cJ (by omega))
 refine key.trans ?_;cases (b9 fe.length).all (λi=>nJ i0 (el fe i))<;>rfl
end OP

namespace Qw
open Lib (rf rc el Fe Cl Kb VV VW VX VY VZ V0)
open jA (eS)
open pe (HU)
open OP (eO)
theorem step(N:aF)(g k0 k1:aX->aQ->aw->aw->aw->aQ->aQ->aQ->aQ->aw->aQ->aQ->aw->az R)(i0:aw)(q1 q2 q3 q4:aQ)(i5:aw)(fe:aA Fe)(cl:aA Cl)(i8:aw)(i:aF)(hi:i<cl.length)(hl:cl.length<=1048576):
  r2 N g k0 k1 ak (rc cl) cl.length (i:aw) i0 q1 q2 q3 q4 i5 (rf fe) (rc cl) i8=bif HU i0 fe.length cl i then g ak (rc cl) cl.length ((i+1:aF):aw) i0 q1 q2 q3 q4 i5 (rf fe) (rc cl) i8 else k0 ak (rc cl) cl.length (i:aw) i0 q1 q2 q3 q4 i5 (rf fe) (rc cl) i8:=by
 unfold HU;have e1:decide (((el cl i).mM.size:aw)>400)= !decide (((el cl i).mM.size:aw)<=400):=by rw[<-decide_not,ch];omega
 have e2:decide ((el cl i).age<0)= !decide (0<=(el cl i).age):=by rw[<-decide_not,ch];omega
 by_cases hz:i=0
 ·subst hz;simp only[r2,fg,dN,Lib.dn,hi,aN,Lib.cF,aM,au,Lib.dY,Kb hi,VV hi,VW hi,VX hi,VY hi,VZ hi,V0 hi,bw,bF,eO,o_.iS,aK (show¬(((0:aF):aw)>0)by omega),ax,e1,e2,Lib.c5 hi (by omega:cl.length<=9223372036854775807),Ax,bc];cases decide (1<=(el cl 0).id/\(el cl 0).id<=9)<;>cases eS (el cl 0).k<;>cases decide (1<=(el cl 0).sta/\(el cl 0).sta<=3)<;>cases decide (0<=(el cl 0).fe/\(el cl 0).fe<=(fe.length:aw))<;>cases decide (((el cl 0).mM.size:aw)<=400)<;>cases decide (0<=(el cl 0).fr/\(el cl 0).fr<=i0)<;>cases decide (0<=(el cl 0).age)<;>rfl
 ·have me:i-1<cl.length:=by omega
  have e3:decide ((el cl (i-1)).id≥(el cl i).id)= !decide ((el cl (i-1)).id<(el cl i).id):=by rw[<-decide_not,ch];omega
  simp only[r2,fg,dN,Lib.dn,hi,aN,Lib.cF,aM,au,Lib.dY,Kb hi,VV hi,VW hi,VX hi,VY hi,VZ hi,V0 hi,bw,bF,eO,o_.iS,aE (show(i:aw)>0 by omega),lY (show 0<i by omega) (by omega),me,Kb me,ax,e1,e2,e3,Lib.c5 hi (by omega:cl.length<=9223372036854775807),aK hz,ou];cases decide (1<=(el cl i).id/\(el cl i).id<=9)<;>cases decide ((el cl (i-1)).id<(el cl i).id)<;>cases eS (el cl i).k<;>cases decide (1<=(el cl i).sta/\(el cl i).sta<=3)<;>cases decide (0<=(el cl i).fe/\(el cl i).fe<=(fe.length:aw))<;>cases decide (((el cl i).mM.size:aw)<=400)<;>cases decide (0<=(el cl i).fr/\(el cl i).fr<=i0)<;>cases decide (0<=(el cl i).age)<;>rfl
theorem ok(i0:aw)(q1 q2 q3 q4:aQ)(i5:aw)(fe:aA Fe)(cl:aA Cl)(i8:aw)(hl:cl.length<=1048576):
  c i0 q1 q2 q3 q4 i5 (rf fe) (rc cl) i8=ai/\v i0 q1 q2 q3 q4 i5 (rf fe) (rc cl) i8=((b9 cl.length).all (HU i0 fe.length cl)&&decide (cl.length<=6)):=by
 refine out _ _ _ _ _ _ _ _ _ ?_;unfold vo b;rw[fg]
 have key:=iC (HU i0 fe.length cl) cl.length (λn (i:aF)=>l2 Lib.cW (λ(HJ:aX) (_:aQ) (_ _ _:aw) (_ _ _ _:aQ) (_:aw) (_ _:aQ) (_:aw)=>ah HJ) (λ(_:aX) (_:aQ) (_ _ _:aw) (_ _ _ _:aQ) (_:aw) (_ y37:aQ) (_:aw)=>ah (decide ((↑(bT y37):aw)<=6))) n ak (rc cl) (cl.length:aw) (i:aw) i0 q1 q2 q3 q4 i5 (rf fe) (rc cl) i8) (ah ak) (ah (decide (cl.length<=6)))
  (λn i hi hq=>by simp only[l2];rw[step _ _ _ _ _ _ _ _ _ _ _ _ _ i hi hl,hq];rfl)
  (λn i hi hq=>by simp only[l2];rw[step _ _ _ _ _ _ _ _ _ _ _ _ _ i hi hl,hq];rfl)
  (λn=>by simp only[l2,r2,Lib.dn,bm,bj,ax,fg];rw[show decide ((cl.length:aw)<=6)=decide (cl.length<=6)by rw[ch];omega]) Lib.cW (cJ (by omega))
 refine key.trans ?_;cases (b9 cl.length).all (HU i0 fe.length cl)<;>rfl
end Qw

namespace OO
open Lib (rr rs re rf rc el En Fe Cl Px)
open nQ (Nd)
open ng (nJ apart)
open pe (HU jb)
theorem ok(p:Px)(hp:p.Fit 1048576):c p.now (re p.en) (rs p.w) (rs p.m) (rr p.s) p.a (rf p.fe) (rc p.cl) p.hits=ai/\v p.now (re p.en) (rs p.w) (rs p.m) (rr p.s) p.a (rf p.fe) (rc p.cl) p.hits=jb p:=by refine out _ _ _ _ _ _ _ _ _ ?_;have h1:=Qv.ok p.now p.en p.w p.m p.s p.a (rf p.fe) (rc p.cl) p.hits hp.en hp.w hp.m ⟨hp.s.1,hp.s.2.1⟩;have h2:=OP.ok p.now (re p.en) (rs p.w) (rs p.m) (rr p.s) p.a p.fe (rc p.cl) p.hits hp.fe;have h3:=Qw.ok p.now (re p.en) (rs p.w) (rs p.m) (rr p.s) p.a p.fe p.cl p.hits hp.cl;unfold vo b jb;have e1:∀n a b,lz.v n a b=decide (a<=n/\n<=b):=λn a b=>fG.eO n a b;have e2:R6.v p.hits=decide (0<=p.hits/\p.hits<=1000000000):=e1 p.hits 0 1000000000;rw[e1,e2,h1.1,h1.2,h2.1,h2.2,h3.1,h3.2,GH];cases decide (1<=p.now/\p.now<=1000000000)<;>cases Nd p.en p.w p.m p.s p.a<;>cases decide (p.fe.length<=20)<;>cases decide (p.cl.length<=6)<;>cases decide (0<=p.hits/\p.hits<=1000000000)<;>cases (b9 p.fe.length).all (λi=>nJ p.now (el p.fe i))<;>cases (b9 p.fe.length).all (apart p.fe)<;>cases (b9 p.cl.length).all (HU p.now p.fe.length p.cl)<;>rfl
end OO

namespace qG
def p(s:aQ)(k:aw)(i:aF):aX:=decide (bF (ar s i 0)=k)
theorem ok(d:aQ)(n:aw)(hl:d.length<=4294967296):c d n=ai/\v d n=Lib.fi (p d n) d.length 0:=by
 refine out d n ?_;unfold vo b;refine mW (p d n) d.length (λm (i:aF)=>l2 Lib.cW (λ(_:aQ) (_:aw) (y7 _ _:aw)=>ah y7) (λ(_:aQ) (_:aw) (_ _ _:aw)=>ah (-1)) m d n 0 (d.length:aw) (i:aw)) ah (λm i hi hp=> ?_) (λm i hi hp=> ?_) (λm=> ?_) Lib.cW (cJ (by omega))
 ·unfold p at hp;simp only[l2,r2,Lib.dn,Lib.cF,Lib.dY,hi,aN,aM,au,Kr.v,hp]
 ·unfold p at hp;simp only[l2,r2,Lib.dn,Lib.cF,Lib.dY,hi,aN,aM,au,Kr.v,hp,ax,Lib.c5 hi (by omega:d.length<=9223372036854775807)]
 ·simp only[l2,r2,Lib.dn,bm,bj,ax]
end qG

namespace zp
open Lib (rc el Cl)
open il (lA)
theorem ok(i0:aw)(r1 r2 r3 r4:aQ)(i5:aw)(r6:aQ)(cl:aA Cl)(i8 id:aw)(hl:cl.length<=1048576):c i0 r1 r2 r3 r4 i5 r6 (rc cl) i8 id=ai/\decide (v i0 r1 r2 r3 r4 i5 r6 (rc cl) i8 id≥0)=lA cl id:=by
 have h:=qG.ok (rc cl) id (by rw[fg];omega);have o:=out i0 r1 r2 r3 r4 i5 r6 (rc cl) i8 id (by unfold vo b;rw[h.1,h.2,au]);refine⟨o.1, ?_⟩
 rw[o.2,fg];exact il.Cm cl (λx=>decide (x.id=id)) _ λi hi=>by unfold qG.p;rw[Kb hi,eN hi];rfl
end zp

namespace pU
def p(s:aQ)(k:aq)(i:aF):aX:=bZ (aC (bw (ar s i 0))) (aC k)
theorem ok(d:aQ)(n:aq)(hl:d.length<=4294967296):c d n=ai/\v d n=Lib.fi (p d n) d.length 0:=by
 refine out d n ?_;unfold vo b;refine mW (p d n) d.length (λm (i:aF)=>l2 Lib.cW (λ(_:aQ) (_:aq) (y7 _ _:aw)=>ah y7) (λ(_:aQ) (_:aq) (_ _ _:aw)=>ah (-1)) m d n 0 (d.length:aw) (i:aw)) ah (λm i hi hp=> ?_) (λm i hi hp=> ?_) (λm=> ?_) Lib.cW (cJ (by omega))
 ·unfold p at hp;simp only[l2,r2,Lib.dn,Lib.cF,Lib.dY,hi,aN,aM,au,Kq.v,hp]
 ·unfold p at hp;simp only[l2,r2,Lib.dn,Lib.cF,Lib.dY,hi,aN,aM,au,Kq.v,hp,ax,Lib.c5 hi (by omega:d.length<=9223372036854775807)]
 ·simp only[l2,r2,Lib.dn,bm,bj,ax]
end pU

namespace qI
theorem ok(i:aF)(key:aq)(hi:i<3)(hk:key.size<=140737488355328):c (i:aw) key=ai/\v (i:aw) key=(gn.pl i key:aw):=by
 refine out _ _ ?_;unfold vo b;have e:(key++bytesOf (aD (aP [Ck.i bh] 1) 0 [CV.i bh (bE bh (bJ (↑(dW (jt (cf 64 (i:aw)) (cf 64 255))):aw)))]))=gn.keyed i key:=by
  unfold gn.keyed;match i,hi with
  |0,_=>rfl
  |1,_=>rfl
  |2,_=>rfl
 have hs:=gn.C9 i key;have h:=ve.ok (gn.keyed i key) (by omega);have e2:cq key+cq (bytesOf (aD (aP [Ck.i bh] 1) 0 [CV.i bh (bE bh (bJ (↑(dW (jt (cf 64 (i:aw)) (cf 64 255))):aw)))]))=key.size+1:=by rw[pO,C8]
 rw[e2,e,aE (by omega),au,h.1,h.2,au];have hp:=gn.pl_int i key;have hl:=gn.CW i key;have hr:=gn.LS i key;unfold gn.sm at hp hr;rw[dg (by omega) (by omega),hp]
end qI

end Go.FG
