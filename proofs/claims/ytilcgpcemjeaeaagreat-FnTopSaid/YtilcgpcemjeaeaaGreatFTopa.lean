/- What the functions come to, in plain numbers, texts and lists; last the law itself. No condition but those that each states. -/
import Derived.Test.YtilcgpcemjeaeaaGreatPTopb
set_option linter.unusedVariables false
set_option linter.unusedSimpArgs false
set_option maxRecDepth 100000
open Array renaming toList_extract->iy,toList_append->vF,length_toList->dS
open BitVec renaming toNat->dW,xor->mq,ofInt->cf,and->ju
open Bool renaming false->ak,true->ai,or_eq_true->dJ,and_eq_true->aM,or_eq_false_iff->iH,and_self->aL,not_eq_true'->dp,true_and->ba,not_false->bP,not_true->aY,and_assoc->nS,and_true->iL,not_eq_false'->nk,false_or->ov,true_or->AO,false_eq_true->dx,cond_eq_ite->cz,false_and->jf
open ByteArray renaming toList->aC,data_extract->gk,data_append->mH,size_extract->yM,size_append->dH,empty_append->lW,append_assoc->DI,empty->Iv,append_empty->qA,size->eu
open Classical renaming byContradiction->AP
open Eq renaming trans->KP
open Go.ByteArray renaming toList_eq->kD
open Go.IntKind renaming i64->ao,wrap->bH,u32->eB,u8->bj
open Go.Op renaming bytesLess->b9
open Int renaming neg->KV,toNat->aZ,tmod->cF,tdiv->cQ,tmod_eq_emod_of_nonneg->im,tdiv_eq_ediv_of_nonneg->h_,pow_succ->uZ,toNat_natCast->dK,natCast_zero->WL,tmod_nonneg->Xw,tdiv_nonneg->Xv,le_trans->Ca,tdiv_le_self->WM,emod_nonneg->Xt,emod_lt_of_pos->QQ
open List renaming length_singleton->bC,length->bS,set->aD,length_map->bV,length_filter_le->eS,nil_append->gF,length_append->bU,map_congr_left->QS,mem_filter->dm,append_assoc->cy,pairwise_append->vS,filter_sublist->jQ,singleton_append->u5,pairwise_cons->qE,mem_append->bf,mem_singleton->a_,filter_cons_of_pos->dB,filter_cons_of_neg->cC,length_cons->dc,beq->bW,take_succ_eq_append_getElem->cE,filter_append->iq,all_eq_true->bu,getElem_mem->bB,mem_or_eq_of_mem_set->jI,take_set_of_le->wR,drop_set_of_lt->wQ,drop_eq_nil_of_le->gW,append_nil->dj,take_length->dR,filter_eq_self->eD,getElem_of_mem->c8,take->g7,drop->nt,drop_zero->fg,take_append_of_le_length->pb,take_of_length_le->jg,getElem_take->nC,pairwise_map->kY,mem_map->cU,filter_map->o_,map_map->mz,map_append->dh,filter_congr->jv,range->b8,getD->kA,pairwise_iff_getElem->dA,length_set->cD,length_drop->iC,drop_eq_getElem_cons->dC,cons_append->Cd,extract_eq_take_drop->ia,drop_drop->vP,length_take->eL,drop_append_of_le_length->Bo,drop_of_length_le->IQ,filter_filter->pM,takeWhile_map->Pf,dropWhile_map->Pc,find?_eq_none->Xx,find?_eq_some_iff_getElem->AW,find?_some->vn,takeWhile_cons_of_pos->qk,takeWhile_cons_of_neg->qj,foldl_append->kX,foldl_cons->DX,length_nil->jR,drop_length->di,foldl_nil->Xy,mem_of_find?_eq_some->qD,length_pos_iff->Nb,getD_eq_getElem?_getD->cY,getElem?_eq_getElem->eR,ext_getElem->jT,getElem_set_self->kL,set_getElem_self->fj,set_set->pN,nodup_iff_pairwise_ne->qi,mem_cons_self->dv,mem_append_left->bN,length_tail->Xz,mem_append_right->bO,any_eq_true->Gu,findIdx?_eq_none_iff->ER,findIdx?_eq_some_iff_getElem->Am,pairwise_singleton->Ix,find?_cons_of_neg->KW,mem_range->gX,nodup_append->eM,nodup_cons->kM,mem_cons->cB,getElem_set->SI,getElem?_append_left->dF,getElem?_append_right->db
open List.Pairwise renaming filter->vO,nil->gg
open List.cons renaming inj->kC
open Nat renaming lt_irrefl->bk,le_refl->cG,zero_le->bD,sub_zero->sA,zero_add->bX,le_trans->dg,le_succ->jx,le_succ_of_le->nu,add_sub_cancel->QT,lt_or_ge->qY
open Option renaming some->ah,none->aj,map_some->ji
open Option.some renaming inj->aJ
open Prod.mk renaming inj->bY
open UInt8 renaming lt_iff_toNat_lt->s7,ofNat->ay,toNat_ofNat'->Nv
open _root_ renaming List->az,UInt8->IA,decide_eq_true_eq->bh,absurd->cL,decide_eq_false_iff_not->e_,ByteArray->aq,Int->ax,Bool->aU,Nat->aE,decide_true->aN,cond_true->au,cond_false->aw,decide_false->bc,Option->aA,decide_eq_false->aK,decide_eq_true->aG,if_pos->bA,if_neg->bJ,congrArg->lV,decide_eq_decide->ca,of_decide_eq_true->cq,eq_comm->W0,of_decide_eq_false->me,bne_self_eq_false->eU
namespace Go.FG
open Lib (Hc all_congr gJ pj Cn fU fD xH eG fX jY lS CJ NQ xO ml zT cu mf rc0 rc1 rc2 rc3 rc4 rc5 rc6 eI Kf Xa Xb eg de dD Rf Ki gO Xc eJ pR kW Du ue o6 yF F9 ot DD yG qU qV uh nR c_ II wd0 wd1 wd2 oD qx qy qz Bl BX MD Ag Rh Ri)
variable {R:Type}
namespace lU
theorem oZ:∀x:az IA,b9 x x=ak
 |[]=>rfl
 |a::x=>by
  have h:¬a<a:=by rw[s7];omega
  simp[b9,oZ x,h]
theorem pk:∀x y z:az IA,b9 x y=ai->b9 y z=ai->b9 x z=ai
 |_,[],_,h,_=>by cases ‹az IA›<;>simp[b9]at h
 |_,_::_,[],_,h=>by simp[b9]at h
 |[],_::_,_::_,_,_=>by simp[b9]
 |a::x,b::y,c::z,h1,h2=>by
  simp only[b9,dJ,aM,bh,beq_iff_eq]at h1 h2⊢;simp only[s7]at h1 h2⊢;rcases h1 with h1|⟨rfl,h1⟩
  ·rcases h2 with h2|⟨rfl,h2⟩
   ·left;omega
   ·left;exact h1
  ·rcases h2 with h2|⟨rfl,h2⟩
   ·left;exact h2
   ·right;exact⟨rfl,pk x y z h1 h2⟩
theorem S0:∀x y:az IA,b9 x y=ak->x≠y->b9 y x=ai
 |[],[],_,h=>cL rfl h
 |[],_::_,h,_=>by simp[b9]at h
 |_::_,[],_,_=>by simp[b9]
 |a::x,b::y,h,hn=>by
  simp only[b9,iH,Bool.and_eq_false_iff,e_,beq_eq_false_iff_ne]at h;simp only[b9,dJ,aM,bh,beq_iff_eq];obtain⟨h1,h2⟩:=h;by_cases he:a=b
  ·subst he;right;refine⟨rfl,S0 x y ?_ (λe=>hn (by rw[e]))⟩
   rcases h2 with h2|h2
   ·exact cL rfl h2
   ·exact h2
  ·left;rw[s7]at h1⊢;have:a.toNat≠b.toNat:=λe=>he (UInt8.toNat_inj.1 e);omega
def key(y:az CV):az IA:=aC (bz (y.getD 0 (.b ak)))
def lt(y z:az CV):Prop:=b9 (key y) (key z)=ai
def cr(y:az CV):az CV:=[CV.s (bz (y.getD 0 (.b ak))),CV.i ao (bE (y.getD 1 (.b ak))),CV.i ao (bE (y.getD 2 (.b ak))),CV.s (bz (y.getD 3 (.b ak)))]
def nw(k:aq)(s l:ax)(b:aq):az CV:=[CV.s k,CV.i ao s,CV.i ao l,CV.s b]
def pl(k:aq)(y:az CV):aU:=b9 (key y) (aC k)
def pg(k:aq)(y:az CV):aU:= !(b9 (key y) (aC k)||List.beq (key y) (aC k))
def val(r:aQ)(k:aq)(s l:ax)(b:aq):aQ:=(r.filter (pl k)).map cr++[nw k s l b]++(r.filter (pg k)).map cr
theorem ok(r:aQ)(k:aq)(s l:ax)(b0:aq)(hl:r.length<=1048576):c r k s l b0=ai/\v r k s l b0=val r k s l b0:=by
 refine out r k s l b0 ?_;unfold vo;have hw:∀i,i<r.length->bG ((i:ax)+1)=((i+1:aE):ax):=λi h=>Lib.cS h (by omega)
 have aws:=λ(ajC:aQ) (ha:ajC.length<=2000000)=>xO (pg k) cr r 2000000
  (λm (i:aE) (acc:aQ)=>l9 Lib.cJ (λ(_:aQ) (_:ax) (_:aq) (_ _:ax) (_:aq) (IJ:aQ)=>ah IJ) m r (i:ax) k s l b0 acc) (λacc=>ah acc)
  (λm i acc h h2 hp=>by
   have mR:(!(b9 (aC (bz (ar r i 0))) (aC k)||List.beq (aC (bz (ar r i 0))) (aC k)))=true:=by rw[Lib.cK h];exact hp
   simp only[l9,r9,Lib.c6,h,aN,Lib.cm,aL,au,Lib.dN,mR,hw i h,Lib.ja,bC,Lib.ch (n:=acc.length+1) (b:=48) (by omega) (by omega)];have e:[CV.s (bz (ar r i 0)),CV.i ao (bE (ar r i 1)),CV.i ao (bE (ar r i (1+1))),CV.s (bz (ar r i (1+1+1)))]=cr r[i]:=by rw[Lib.cK h,Lib.cK h,Lib.cK h,Lib.cK h];rfl
   rw[e])
  (λm i acc h h2 hp=>by
   have mR:(!(b9 (aC (bz (ar r i 0))) (aC k)||List.beq (aC (bz (ar r i 0))) (aC k)))=false:=by rw[Lib.cK h];exact hp
   simp only[l9,r9,Lib.c6,h,aN,Lib.cm,aL,au,Lib.dN,mR,aw,hw i h])
  (λm acc=>by simp only[l9,r9,Lib.c6,bk,bc,aw]) Lib.cJ ajC ha (cu (by omega))
 have gQ:=xO (pl k) cr r 0
  (λm (i:aE) (acc:aQ)=>l3 Lib.cJ (λ(y7:aQ) (_:ax) (y9:aq) (KK wC:ax) (MH:aq) (Ir:aQ)=>bif(cw (bS Ir+bS (aD (aP [Ck.s,Ck.i ao,Ck.i ao,Ck.s] 1) 0 [CV.s y9,CV.i ao KK,CV.i ao wC,CV.s MH])) 48)then(l9 Lib.cJ (λ(_:aQ) (_:ax) (_:aq) (_ _:ax) (_:aq) (IJ:aQ)=>ah IJ) Lib.cJ y7 0 y9 KK wC MH (Ir++aD (aP [Ck.s,Ck.i ao,Ck.i ao,Ck.s] 1) 0 [CV.s y9,CV.i ao KK,CV.i ao wC,CV.s MH]))else(aj)) m r (i:ax) k s l b0 acc)
  (λacc=>bif(cw (bS acc+1) 48)then(l9 Lib.cJ (λ(_:aQ) (_:ax) (_:aq) (_ _:ax) (_:aq) (IJ:aQ)=>ah IJ) Lib.cJ r 0 k s l b0 (acc++[nw k s l b0]))else aj)
  (λm i acc h h2 hp=>by
   have mR:b9 (aC (bz (ar r i 0))) (aC k)=true:=by rw[Lib.cK h];exact hp
   simp only[l3,r3,Lib.c6,h,aN,Lib.cm,aL,au,Lib.dN,mR,hw i h,Lib.ja,bC,Lib.ch (n:=acc.length+1) (b:=48) (by omega) (by omega)];have e:[CV.s (bz (ar r i 0)),CV.i ao (bE (ar r i 1)),CV.i ao (bE (ar r i (1+1))),CV.s (bz (ar r i (1+1+1)))]=cr r[i]:=by rw[Lib.cK h,Lib.cK h,Lib.cK h,Lib.cK h];rfl
   rw[e])
  (λm i acc h h2 hp=>by
   have mR:b9 (aC (bz (ar r i 0))) (aC k)=false:=by rw[Lib.cK h];exact hp
   simp only[l3,r3,Lib.c6,h,aN,Lib.cm,aL,au,Lib.dN,mR,aw,hw i h])
  (λm acc=>by simp only[l3,r3,Lib.c6,bk,bc,aw];rfl) Lib.cJ [] (cG _) (cu (by omega))
 unfold b;refine gQ.trans ?_;have hf:((r.filter (pl k)).map cr).length<=r.length:=by rw[bV];exact eS _ _
 rw[gF,Lib.ch (by omega) (by omega),au];exact aws _ (by rw[bU,bC];omega)
def Or(r:aQ):Prop:=r.Pairwise lt/\∀y∈r,cr y=y
theorem HU{r:aQ}(h:∀y∈r,cr y=y)(q:az CV->aU):(r.filter q).map cr=r.filter q:=by have:=QS (l:=r.filter q) (f:=cr) (g:=λz=>z) (λy hy=>h y (dm.1 hy).1);rw[this];exact List.map_id _
theorem xW{r:aQ}(h:Or r)(k:aq)(s l:ax)(b:aq):Or (val r k s l b)/\(val r k s l b).length<=r.length+1:=by
 unfold val;rw[HU h.2,HU h.2];have hg:∀y,pg k y=ai->b9 (aC k) (key y)=true:=by intro y hy;unfold pg at hy;simp only[dp,iH]at hy;refine S0 _ _ hy.1 (λe=> ?_);have:=hy.2;rw[e,Lib.qK]at this;cases this
 refine⟨⟨?_, ?_⟩, ?_⟩
 ·rw[cy,vS];refine⟨h.1.sublist jQ, ?_, ?_⟩
  ·rw[u5,qE];exact⟨λy hy=>hg y (dm.1 hy).2,h.1.sublist jQ⟩
  ·intro y hy z hz;have h1:b9 (key y) (aC k)=true:=(dm.1 hy).2;rcases bf.1 hz with q|q
   ·rw[a_.1 q];exact h1
   ·exact pk _ _ _ h1 (hg z (dm.1 q).2)
 ·intro y hy;rcases bf.1 hy with q|q
  ·rcases bf.1 q with q|q
   ·exact h.2 y (dm.1 q).1
   ·rw[a_.1 q];rfl
  ·exact h.2 y (dm.1 q).1
 ·have hlen:∀r:aQ,(r.filter (pl k)).length+(r.filter (pg k)).length<=r.length:=by
   intro r;induction r with
   |nil=>exact cG _
   |cons y r ih=>
    have hx:pl k y=ai->pg k y=false:=by intro h;unfold pl at h;unfold pg;rw[h];rfl
    cases h1:pl k y with
    |true=>rw[dB h1,cC (by rw[hx h1];simp)];simp only[dc];omega
    |false=>
     rw[cC (by simp[h1])];cases h2:pg k y with
     |true=>rw[dB h2];simp only[dc];omega
     |false=>rw[cC (by simp[h2])];simp only[dc];omega
  have:=hlen r;simp only[bU,bC];omega
end lU

namespace nv
def p(s:aQ)(k:aq)(i:aE):aU:=bW (aC (bz (ar s i 0))) (aC k)
theorem ok(d:aQ)(n:aq)(hl:d.length<=4294967296):c d n=ai/\v d n=Lib.fi (p d n) d.length 0:=by
 refine out d n ?_;unfold vo b;refine lS (p d n) d.length (λm (i:aE)=>l2 Lib.cJ (λ(_:aQ) (_:aq) (y7 _ _:ax)=>ah y7) (λ(_:aQ) (_:aq) (_ _ _:ax)=>ah (-1)) m d n 0 (d.length:ax) (i:ax)) ah (λm i hi hp=> ?_) (λm i hi hp=> ?_) (λm=> ?_) Lib.cJ (cu (by omega))
 ·unfold p at hp;simp only[l2,r2,Lib.c6,Lib.cm,Lib.dN,hi,aN,aL,au,Ba.v,hp]
 ·unfold p at hp;simp only[l2,r2,Lib.c6,Lib.cm,Lib.dN,hi,aN,aL,au,Ba.v,hp,aw,Lib.cS hi (by omega:d.length<=9223372036854775807)]
 ·simp only[l2,r2,Lib.c6,bk,bc,aw]
end nv

namespace pf
def cn(y:az CV):aU:=match y with|[.s _, .i .i64 _, .i .i64 _, .s _]=>ai|_=>ak
def cr(y:az CV):az CV:=[CV.s (bz (y.getD 0 (.b ak))),CV.i ao (bE (y.getD 1 (.b ak))),CV.i ao (bE (y.getD 2 (.b ak))),CV.s (bz (y.getD 3 (.b ak)))]
theorem tE{y:az CV}(h:cn y=ai):cr y=y:=by
 unfold cn at h;split at h
 ·rfl
 ·cases h
theorem mB{y:az CV}(h:cn y=ai):y.length=4:=by rw[<-tE h];rfl
def keep(d:aq)(y:az CV):aU:= !List.beq (aC (bz (y.getD 0 (.b ak)))) (aC d)
theorem ir(d:aq){s:aQ}{i:aE}(h:i<s.length):(s.take (i+1)).filter (keep d)=(s.take i).filter (keep d)++(bif keep d s[i]then [s[i]]else []):=by rw[cE h,iq];cases hk:keep d s[i]<;>simp[hk]
theorem run(N:aE)(s0:aQ)(d:aq)(hc:s0.all cn=ai)(hn:s0.length<=9223372036854775807)(K:aq->ax->ax->aQ->aA R)(kr:aQ->aA R)
  (hK:∀(j:aE) x,x.length=s0.length->j<=s0.length->K d j s0.length x=kr (x.take j)) (m j i:aE) (x:aQ)
  (hi:j<i/\i<=s0.length/\x.length=s0.length/\(∀y∈x,y.length=4)/\x.take j=(s0.take i).filter (keep d)/\x.drop i=s0.drop i) (hm:s0.length-i<m):
  l5 N K m d j i x=kr (s0.filter (keep d)):=by
 have LF:∀y∈s0,cn y=true:=bu.1 hc
 refine Lib.fE (λm (s:aE×aE×aQ)=>l5 N K m d s.1 s.2.1 s.2.2) (λs=>s0.length-s.2.1)
  (λs=>s.1<s.2.1/\s.2.1<=s0.length/\s.2.2.length=s0.length/\(∀y∈s.2.2,y.length=4)/\s.2.2.take s.1=(s0.take s.2.1).filter (keep d)/\s.2.2.drop s.2.1=s0.drop s.2.1)
  (λ_=>kr (s0.filter (keep d))) (λm s hs=> ?_) m (j,i,x) hi hm
 obtain⟨j,i,x⟩:=s;obtain⟨h1,h2,h3,h4,h5,h6⟩:=hs;simp only at h1 h2 h3 h4 h5 h6⊢;by_cases gC:i<s0.length
 ·right;have oC:i<x.length:=by omega
  have HF:j<x.length:=by omega
  have hx:x[i]=s0[i]:=by have e1:=Lib.eE oC;have e2:=Lib.eE gC;rw[h6,e2]at e1;exact(kC e1).1.symm
  have hd:x.drop (i+1)=s0.drop (i+1):=by have e1:=Lib.eE oC;have e2:=Lib.eE gC;rw[h6,e2]at e1;exact(kC e1).2.symm
  have LH:=LF _ (bB gC);have hf:=ir d gC;cases hk:keep d s0[i]with
  |true=>
   refine⟨(j+1,i+1,x.set j s0[i]), ?_,by simp only;omega,trivial, ?_⟩
   ·rw[hk,au,<-h5]at hf;refine⟨by simp only;omega,by simp only;omega,by simpa using h3, ?_, ?_, ?_⟩
    ·intro y hy;rcases jI hy with h|h
     ·exact h4 y h
     ·rw[h];exact mB LH
    ·rw[hf];rw[cE (by simpa using HF)];simp[wR]
    ·simp only;rw[wQ (by omega)];exact hd
   ·have e:Ba.v (bz (ar x i 0)) (bE (ar x i 1)) (bE (ar x i (1+1))) (bz (ar x i (1+1+1))) d=false:=by
     have:(!Ba.v (bz (ar x i 0)) (bE (ar x i 1)) (bE (ar x i (1+1))) (bz (ar x i (1+1+1))) d)=true:=by rw[Lib.cK oC,hx];exact hk
     simpa using this
    have es:eC x j 0 [CV.s (bz (ar x i 0)),CV.i ao (bE (ar x i 1)),CV.i ao (bE (ar x i (1+1))),CV.s (bz (ar x i (1+1+1)))]=x.set j s0[i]:=by
     have hl:=h4 _ (bB HF);rw[Lib.BR HF,Lib.cK oC,Lib.cK oC,Lib.cK oC,Lib.cK oC,hx];have:iF x[j] 0 (cr s0[i])=s0[i]:=by rw[tE LH];unfold iF;have:=mB LH;simp[hl,this,gW]
     unfold cr at this;rw[this]
    have b1:(j:ax)<(x.length:ax):=by omega
    simp only[l5,r5,Lib.c6,Lib.cm,Lib.dN,oC,HF,aN,ba,au,e,bP,es,Lib.cS gC hn,Lib.cS (show j<s0.length by omega) hn]
  |false=>
   refine⟨(j,i+1,x), ?_,by simp only;omega,trivial, ?_⟩
   ·rw[hk,aw,dj,<-h5]at hf;exact⟨by simp only;omega,by simp only;omega,h3,h4,hf.symm,hd⟩
   ·have e:Ba.v (bz (ar x i 0)) (bE (ar x i 1)) (bE (ar x i (1+1))) (bz (ar x i (1+1+1))) d=true:=by
     have:(!Ba.v (bz (ar x i 0)) (bE (ar x i 1)) (bE (ar x i (1+1))) (bz (ar x i (1+1+1))) d)=false:=by rw[Lib.cK oC,hx];exact hk
     simpa using this
    simp only[l5,r5,Lib.c6,Lib.cm,Lib.dN,oC,aN,ba,au,e,aY,aw,Lib.cS gC hn]
 ·left;have:i=s0.length:=by omega
  subst this;rw[dR]at h5;have e:=hK j x h3 (by omega);rw[h5]at e;have oC:¬s0.length<x.length:=by omega
  simp only[l5,r5,Lib.c6,oC,bc,aw,e]
theorem ok(s0:aQ)(i9:aq)(hc:s0.all cn=ai)(hn:s0.length<=4294967296):c s0 i9=ai/\v s0 i9=s0.filter (keep i9):=by
 refine out s0 i9 ?_;have hv:=nv.ok s0 i9 hn;unfold vo b;rw[hv.1,hv.2,au];rcases Lib.py (nv.p s0 i9) s0.length 0 with ⟨h,n5⟩|⟨k,_,Az,hk,LJ,LD⟩
 ·rw[h];have:s0.filter (keep i9)=s0:=by rw[eD];intro y hy;obtain⟨i,hi,rfl⟩:=c8 hy;have:=n5 i (bD _) (by omega);unfold nv.p at this;rw[Lib.cK hi]at this;unfold keep;rw[this];rfl
  rw[this];rfl
 ·rw[hk];have Eo:k<s0.length:=by omega
  have iz:decide ((k:ax)=KV 1)=false:=aK (by show¬(k:ax)= -1;omega);rw[iz,aw,Lib.cS Eo (by omega)];have LF:∀y∈s0,cn y=true:=bu.1 hc;refine run _ s0 i9 hc (by omega) _ ah (λj x hx hj=> ?_) _ k (k+1) s0 ⟨by omega,by omega,rfl,λy hy=>mB (LF y hy), ?_,rfl⟩ (cu (by omega))
  ·have b1:ic (j:ax) (s0.length:ax) (s0.length:ax)=true:=by simp[ic];omega
   have e:g7 j x++aP [Ck.s,Ck.i ao,Ck.i ao,Ck.s] (s0.length-j)++nt s0.length x=g7 j x++aP [Ck.s,Ck.i ao,Ck.i ao,Ck.s] (s0.length-j):=by rw[gW (by omega),dj]
   have hl:(g7 j x).length=j:=by simp;omega
   simp only[hx,Lib.dN,b1,au,e];rw[Lib.tz (by simp[ic];omega)];unfold eW;rw[show aZ 0=0 from rfl,fg,sA,pb (by omega),jg (by omega)]
  ·rw[ir i9 Eo];have e1:keep i9 s0[k]=false:=by unfold nv.p at LJ;rw[Lib.cK Eo]at LJ;unfold keep;rw[LJ];rfl
   have e2:(s0.take k).filter (keep i9)=s0.take k:=by
    rw[eD];intro y hy;obtain⟨i,hi,rfl⟩:=c8 hy;have W7:i<k:=by simp at hi;omega
    have:=LD i (bD _) W7;unfold nv.p at this;rw[Lib.cK (by omega)]at this;rw[nC];unfold keep;rw[this];rfl
   rw[e1,e2,aw,dj]
end pf

namespace gd
open Lib (re En)
def fc(x y:aq):aU:=b9 (aC x) (aC y)
def So(en:az En):Prop:=en.Pairwise λx y=>fc x.k y.k=ai
def fV(en:az En)(k:aq):az En:=en.filter λx=> !decide (x.k=k)
def mE(en:az En)(e:En):az En:=en.filter (λx=>fc x.k e.k)++[e]++en.filter (λx=> !(fc x.k e.k||decide (x.k=e.k)))
theorem So.drop{en:az En}(h:So en)(k:aq):So (fV en k):=vO _ h
theorem xG(en:az En)(k:aq):(fV en k).length<=en.length:=eS ..
theorem drop_nil{en:az En}(h:∀e∈en,1<=e.k.size):fV en ⟨#[]⟩=en:=by unfold fV;rw[eD];intro e he;have:=h e he;simp only[dp,e_];intro e2;rw[e2]at this;exact cL this (by decide)
theorem C_{en:az En}(h:So en):lU.Or (re en):=by
 constructor
 ·unfold Lib.re;rw[kY];exact h
 ·intro y hy;unfold Lib.re at hy;obtain⟨z,_,rfl⟩:=cU.1 hy;rfl
theorem t_(en:az En)(e:En):lU.val (re en) e.k e.st e.li e.bo=re (mE en e):=by
 unfold lU.val mE Lib.re;rw[o_,o_,mz,mz,dh,dh];have e1:(lU.pl e.k∘En.row)=λx:En=>fc x.k e.k:=rfl;have e2:(lU.pg e.k∘En.row)=λx:En=> !(fc x.k e.k||decide (x.k=e.k)):=by funext x;show(!(b9 (aC x.k) (aC e.k)||List.beq (aC x.k) (aC e.k)))=_;rw[Lib.eN];rfl
 rw[e1,e2];rfl
theorem Hq(en:az En)(k:aq):(re en).filter (pf.keep k)=re (fV en k):=by unfold Lib.re fV;rw[o_];congr 1;apply jv;intro x _;show(!List.beq (aC x.k) (aC k))=_;rw[Lib.eN]
theorem S_(en:az En):(re en).all pf.cn=true:=by rw[bu];intro y hy;unfold Lib.re at hy;obtain⟨z,_,rfl⟩:=cU.1 hy;rfl
theorem sa(en:az En)(e:En)(h:So en):(mE en e).length<=en.length+1:=by have:=(lU.xW (C_ h) e.k e.st e.li e.bo).2;rw[t_,de,de]at this;exact this
end gd

namespace lG
def el(r:aQ)(i:aE):aU:=decide (1<=((bz (ar r i 0)).size:ax)/\((bz (ar r i 0)).size:ax)<=8)&&(!decide (((bz (ar r i 1)).size:ax)>20000)&&(decide (0<=bE (ar r i 2)/\bE (ar r i 2)<=((bz (ar r i 1)).size:ax))&&(i==0||Go.Op.bytesLess (aC (bz (ar r (i-1) 0))) (aC (bz (ar r i 0))))))
def val(r:aQ):aU:=decide (r.length<=30)&&(b8 r.length).all (el r)
theorem nb(n a b:ax):ki.v n a b=decide (a<=n/\n<=b):=by unfold ki.v;by_cases h:a<=n<;>by_cases h2:n<=b<;>simp[h,h2]
theorem DF{i:aE}(h:0<i)(hn:i<=9223372036854775807):bG ((i:ax)-1)=((i-1:aE):ax):=by rw[c_ (by omega) (by omega)];omega
theorem ok(r:aQ)(hl:r.length<=4294967296):c r=ai/\v r=val r:=by
 refine out r ?_;unfold vo b val;by_cases h30:(r.length:ax)>30
 ·rw[aG h30,au,aK (show¬r.length<=30 by omega)];rfl
 rw[aK h30,aw,aG (show r.length<=30 by omega),ba]
 have key:=gJ (el r) r.length (λm (i:aE)=>l4 Lib.cJ (λ(y3:aU) (_:ax) (_:aQ)=>ah y3) (λ(_:aU) (_:ax) (_:aQ)=>ah ai) m ak (i:ax) r) (ah ak) (ah ai)
  (λm i hi hp=>by
   unfold el at hp;simp only[aM]at hp;obtain⟨h1,h2,h3,h4⟩:=hp;have h3:decide (0<=bE (ar r i (1+1))/\bE (ar r i (1+1))<=((bz (ar r i 1)).size:ax))=true:=h3;have h2:decide (((bz (ar r i 1)).size:ax)>20000)=false:=by simpa using h2
   by_cases hz:0<i
   ·have e0:decide ((i:ax)>0)=true:=aG (by omega);have mR:i-1<r.length:=by omega
    have h5:b9 (aC (bz (ar r (i-1) 0))) (aC (bz (ar r i 0)))=true:=by
     rcases dJ _ _▸h4 with q|q
     ·have:i=0:=by simpa using q
      omega
     ·exact q
    simp only[l4,r4,Lib.c6,hi,mR,aN,Lib.cm,aL,au,aw,Lib.dN,vV.v,nb,h1,h2,h3,h5,e0,DF hz (by omega),aY,Lib.cS hi (by omega:r.length<=9223372036854775807)]
   ·have e0:decide ((i:ax)>0)=false:=aK (by omega);simp only[l4,r4,Lib.c6,hi,aN,Lib.cm,aL,au,aw,Lib.dN,vV.v,nb,h1,h2,h3,e0,aY,Lib.cS hi (by omega:r.length<=9223372036854775807)])
  (λm i hi hp=>by
   unfold el at hp;cases h1:decide (1<=((bz (ar r i 0)).size:ax)/\((bz (ar r i 0)).size:ax)<=8)with
   |false=>simp only[l4,r4,Lib.c6,hi,aN,Lib.cm,aL,au,aw,Lib.dN,vV.v,nb,h1,bP]
   |true=>
   cases h2:decide (((bz (ar r i 1)).size:ax)>20000)with
   |true=>simp only[l4,r4,Lib.c6,hi,aN,Lib.cm,aL,au,aw,Lib.dN,vV.v,nb,h1,h2,aY]
   |false=>
   cases h3:decide (0<=bE (ar r i (1+1))/\bE (ar r i (1+1))<=((bz (ar r i 1)).size:ax))with
   |false=>simp only[l4,r4,Lib.c6,hi,aN,Lib.cm,aL,au,aw,Lib.dN,vV.v,nb,h1,h2,h3,aY,bP]
   |true=>
   rw[h1,h2,show decide (0<=bE (ar r i 2)/\bE (ar r i 2)<=((bz (ar r i 1)).size:ax))=ai from h3,bP,ba,ba,ba]at hp;rw[iH]at hp;obtain⟨h4,h5⟩:=hp;have hz:0<i:=by
    have:¬i=0:=by simpa using h4
    omega
   have e0:decide ((i:ax)>0)=true:=aG (by omega);have mR:i-1<r.length:=by omega
   simp only[l4,r4,Lib.c6,hi,mR,aN,Lib.cm,aL,au,aw,Lib.dN,vV.v,nb,h1,h2,h3,h5,e0,DF hz (by omega),aY,bP])
  (λm=>by simp only[l4,r4,Lib.c6,bk,bc,aw]) Lib.cJ (cu (by omega))
 refine key.trans ?_;cases (b8 r.length).all (el r)<;>rfl
end lG

namespace nz
def p(s:aQ)(k:aq)(i:aE):aU:=bW (aC (bz (ar s i 0))) (aC k)
theorem ok(d:aQ)(n:aq)(hl:d.length<=4294967296):c d n=ai/\v d n=Lib.fi (p d n) d.length 0:=by
 refine out d n ?_;unfold vo b;refine lS (p d n) d.length (λm (i:aE)=>l2 Lib.cJ (λ(_:aQ) (_:aq) (y7 _ _:ax)=>ah y7) (λ(_:aQ) (_:aq) (_ _ _:ax)=>ah (-1)) m d n 0 (d.length:ax) (i:ax)) ah (λm i hi hp=> ?_) (λm i hi hp=> ?_) (λm=> ?_) Lib.cJ (cu (by omega))
 ·unfold p at hp;simp only[l2,r2,Lib.c6,Lib.cm,Lib.dN,hi,aN,aL,au,Bd.v,hp]
 ·unfold p at hp;simp only[l2,r2,Lib.c6,Lib.cm,Lib.dN,hi,aN,aL,au,Bd.v,hp,aw,Lib.cS hi (by omega:d.length<=9223372036854775807)]
 ·simp only[l2,r2,Lib.c6,bk,bc,aw]
end nz

namespace xB
def cn(y:az CV):aU:=match y with|[.s _, .s _, .i .i64 _]=>ai|_=>ak
def cr(y:az CV):az CV:=[CV.s (bz (y.getD 0 (.b ak))),CV.s (bz (y.getD 1 (.b ak))),CV.i ao (bE (y.getD 2 (.b ak)))]
theorem tE{y:az CV}(h:cn y=ai):cr y=y:=by
 unfold cn at h;split at h
 ·rfl
 ·cases h
theorem mB{y:az CV}(h:cn y=ai):y.length=3:=by rw[<-tE h];rfl
def keep(d:aq)(y:az CV):aU:= !List.beq (aC (bz (y.getD 0 (.b ak)))) (aC d)
theorem ir(d:aq){s:aQ}{i:aE}(h:i<s.length):(s.take (i+1)).filter (keep d)=(s.take i).filter (keep d)++(bif keep d s[i]then [s[i]]else []):=by rw[cE h,iq];cases hk:keep d s[i]<;>simp[hk]
theorem run(N:aE)(s0:aQ)(d:aq)(hc:s0.all cn=ai)(hn:s0.length<=9223372036854775807)(K:aq->ax->ax->aQ->aA R)(kr:aQ->aA R)
  (hK:∀(j:aE) x,x.length=s0.length->j<=s0.length->K d j s0.length x=kr (x.take j)) (m j i:aE) (x:aQ)
  (hi:j<i/\i<=s0.length/\x.length=s0.length/\(∀y∈x,y.length=3)/\x.take j=(s0.take i).filter (keep d)/\x.drop i=s0.drop i) (hm:s0.length-i<m):
  l5 N K m d j i x=kr (s0.filter (keep d)):=by
 have LF:∀y∈s0,cn y=true:=bu.1 hc
 refine Lib.fE (λm (s:aE×aE×aQ)=>l5 N K m d s.1 s.2.1 s.2.2) (λs=>s0.length-s.2.1)
  (λs=>s.1<s.2.1/\s.2.1<=s0.length/\s.2.2.length=s0.length/\(∀y∈s.2.2,y.length=3)/\s.2.2.take s.1=(s0.take s.2.1).filter (keep d)/\s.2.2.drop s.2.1=s0.drop s.2.1)
  (λ_=>kr (s0.filter (keep d))) (λm s hs=> ?_) m (j,i,x) hi hm
 obtain⟨j,i,x⟩:=s;obtain⟨h1,h2,h3,h4,h5,h6⟩:=hs;simp only at h1 h2 h3 h4 h5 h6⊢;by_cases gC:i<s0.length
 ·right;have oC:i<x.length:=by omega
  have HF:j<x.length:=by omega
  have hx:x[i]=s0[i]:=by have e1:=Lib.eE oC;have e2:=Lib.eE gC;rw[h6,e2]at e1;exact(kC e1).1.symm
  have hd:x.drop (i+1)=s0.drop (i+1):=by have e1:=Lib.eE oC;have e2:=Lib.eE gC;rw[h6,e2]at e1;exact(kC e1).2.symm
  have LH:=LF _ (bB gC);have hf:=ir d gC;cases hk:keep d s0[i]with
  |true=>
   refine⟨(j+1,i+1,x.set j s0[i]), ?_,by simp only;omega,trivial, ?_⟩
   ·rw[hk,au,<-h5]at hf;refine⟨by simp only;omega,by simp only;omega,by simpa using h3, ?_, ?_, ?_⟩
    ·intro y hy;rcases jI hy with h|h
     ·exact h4 y h
     ·rw[h];exact mB LH
    ·rw[hf];rw[cE (by simpa using HF)];simp[wR]
    ·simp only;rw[wQ (by omega)];exact hd
   ·have e:Bd.v (bz (ar x i 0)) (bz (ar x i 1)) (bE (ar x i (1+1))) d=false:=by
     have:(!Bd.v (bz (ar x i 0)) (bz (ar x i 1)) (bE (ar x i (1+1))) d)=true:=by rw[Lib.cK oC,hx];exact hk
     simpa using this
    have es:eC x j 0 [CV.s (bz (ar x i 0)),CV.s (bz (ar x i 1)),CV.i ao (bE (ar x i (1+1)))]=x.set j s0[i]:=by
     have hl:=h4 _ (bB HF);rw[Lib.BR HF,Lib.cK oC,Lib.cK oC,Lib.cK oC,hx];have:iF x[j] 0 (cr s0[i])=s0[i]:=by rw[tE LH];unfold iF;have:=mB LH;simp[hl,this,gW]
     unfold cr at this;rw[this]
    have b1:(j:ax)<(x.length:ax):=by omega
    simp only[l5,r5,Lib.c6,Lib.cm,Lib.dN,oC,HF,aN,ba,au,e,bP,es,Lib.cS gC hn,Lib.cS (show j<s0.length by omega) hn]
  |false=>
   refine⟨(j,i+1,x), ?_,by simp only;omega,trivial, ?_⟩
   ·rw[hk,aw,dj,<-h5]at hf;exact⟨by simp only;omega,by simp only;omega,h3,h4,hf.symm,hd⟩
   ·have e:Bd.v (bz (ar x i 0)) (bz (ar x i 1)) (bE (ar x i (1+1))) d=true:=by
     have:(!Bd.v (bz (ar x i 0)) (bz (ar x i 1)) (bE (ar x i (1+1))) d)=false:=by rw[Lib.cK oC,hx];exact hk
     simpa using this
    simp only[l5,r5,Lib.c6,Lib.cm,Lib.dN,oC,aN,ba,au,e,aY,aw,Lib.cS gC hn]
 ·left;have:i=s0.length:=by omega
  subst this;rw[dR]at h5;have e:=hK j x h3 (by omega);rw[h5]at e;have oC:¬s0.length<x.length:=by omega
  simp only[l5,r5,Lib.c6,oC,bc,aw,e]
theorem ok(s0:aQ)(i9:aq)(hc:s0.all cn=ai)(hn:s0.length<=4294967296):c s0 i9=ai/\v s0 i9=s0.filter (keep i9):=by
 refine out s0 i9 ?_;have hv:=nz.ok s0 i9 hn;unfold vo b;rw[hv.1,hv.2,au];rcases Lib.py (nz.p s0 i9) s0.length 0 with ⟨h,n5⟩|⟨k,_,Az,hk,LJ,LD⟩
 ·rw[h];have:s0.filter (keep i9)=s0:=by rw[eD];intro y hy;obtain⟨i,hi,rfl⟩:=c8 hy;have:=n5 i (bD _) (by omega);unfold nz.p at this;rw[Lib.cK hi]at this;unfold keep;rw[this];rfl
  rw[this];rfl
 ·rw[hk];have Eo:k<s0.length:=by omega
  have iz:decide ((k:ax)=KV 1)=false:=aK (by show¬(k:ax)= -1;omega);rw[iz,aw,Lib.cS Eo (by omega)];have LF:∀y∈s0,cn y=true:=bu.1 hc;refine run _ s0 i9 hc (by omega) _ ah (λj x hx hj=> ?_) _ k (k+1) s0 ⟨by omega,by omega,rfl,λy hy=>mB (LF y hy), ?_,rfl⟩ (cu (by omega))
  ·have b1:ic (j:ax) (s0.length:ax) (s0.length:ax)=true:=by simp[ic];omega
   have e:g7 j x++aP [Ck.s,Ck.s,Ck.i ao] (s0.length-j)++nt s0.length x=g7 j x++aP [Ck.s,Ck.s,Ck.i ao] (s0.length-j):=by rw[gW (by omega),dj]
   have hl:(g7 j x).length=j:=by simp;omega
   simp only[hx,Lib.dN,b1,au,e];rw[Lib.tz (by simp[ic];omega)];unfold eW;rw[show aZ 0=0 from rfl,fg,sA,pb (by omega),jg (by omega)]
  ·rw[ir i9 Eo];have e1:keep i9 s0[k]=false:=by unfold nz.p at LJ;rw[Lib.cK Eo]at LJ;unfold keep;rw[LJ];rfl
   have e2:(s0.take k).filter (keep i9)=s0.take k:=by
    rw[eD];intro y hy;obtain⟨i,hi,rfl⟩:=c8 hy;have W7:i<k:=by simp at hi;omega
    have:=LD i (bD _) W7;unfold nz.p at this;rw[Lib.cK (by omega)]at this;rw[nC];unfold keep;rw[this];rfl
   rw[e1,e2,aw,dj]
end xB

namespace dG
open Lib (rd el Fi)
def WR(l:az Fi):Prop:=l.Pairwise λx y=>gd.fc x.n y.n=ai
def without(l:az Fi)(n:aq):az Fi:=l.filter λx=> !decide (x.n=n)
def put(l:az Fi)(f:Fi):az Fi:=l.filter (λx=>gd.fc x.n f.n)++[f]++l.filter (λx=> !(gd.fc x.n f.n||decide (x.n=f.n)))
def nM(f:Fi):aU:=decide (1<=(f.n.size:ax)/\(f.n.size:ax)<=8)&&(!decide ((f.t.size:ax)>20000)&&decide (0<=f.kp/\f.kp<=(f.t.size:ax)))
def sU(l:az Fi):aU:=lG.val (rd l)
theorem irrefl(x:aq):gd.fc x x=false:=lU.oZ _
theorem j5{l:az Fi}:sU l=ai↔l.length<=30/\(∀f∈l,nM f=ai)/\WR l:=by
 unfold sU lG.val;rw[aM,bh,bu,eg];have e:∀i (h:i<l.length),lG.el (rd l) i=(nM l[i]&&(i==0||gd.fc (l.getD (i-1) default).n l[i].n)):=λi h=>by
  unfold lG.el nM gd.fc;rw[Kf h,Xa h,show ar (rd l) i 2=CV.i ao l[i].kp from Xb h,Kf (show i-1<l.length by omega)];have h5:l.getD (i-1) default=l[i-1]:=by simp[kA,show i-1<l.length by omega]
  rw[h5];simp only[bz,bE,nS];rfl
 constructor
 ·rintro ⟨h1,h2⟩;have h3:∀i (h:i<l.length),nM l[i]=ai/\(i=0\/gd.fc (l.getD (i-1) default).n l[i].n=ai):=λi h=>by have:=h2 i (by simpa using h);rw[e i h,aM,dJ]at this;exact⟨this.1,this.2.imp (λq=>by simpa using q) id⟩
  refine⟨h1,λf hf=> ?_, ?_⟩
  ·obtain⟨i,hi,rfl⟩:=c8 hf;exact(h3 i hi).1
  ·have adj:∀d i (hi:i+d+1<l.length),gd.fc l[i].n l[i+d+1].n=true:=by
    intro d;induction d with
    |zero=>
     intro i hi;rcases(h3 (i+1) (by omega)).2 with q|q
     ·omega
     ·simpa [kA,show i<l.length by omega]using q
    |succ d ih=>
     intro i hi;have a:=ih i (by omega);rcases(h3 (i+d+1+1) (by omega)).2 with q|q
     ·omega
     ·have q:gd.fc l[i+d+1].n l[i+d+1+1].n=true:=by simpa [kA,show i+d+1<l.length by omega]using q
      exact lU.pk _ _ _ a q
   unfold WR;rw[dA];intro i j hi hj PS;have:=adj (j-i-1) i (by omega);simpa only[show i+(j-i-1)+1=j by omega]using this
 ·rintro ⟨h1,h2,h3⟩;refine⟨h1,λi hi=> ?_⟩
  have hi:i<l.length:=by simpa using hi
  rw[e i hi,h2 _ (bB hi),ba,dJ];by_cases hz:i=0
  ·left;simpa using hz
  ·right;have:=dA.1 h3 (i-1) i (by omega) hi (by omega);simpa [kA,show i-1<l.length by omega]using this
theorem ajG(l:az Fi):(rd l).all xB.cn=true:=by rw[bu];intro y hy;unfold Lib.rd at hy;obtain⟨z,_,rfl⟩:=cU.1 hy;rfl
theorem anN(l:az Fi)(n:aq):(rd l).filter (xB.keep n)=rd (without l n):=by unfold Lib.rd without;rw[o_];congr 1;apply jv;intro x _;show(!List.beq (aC x.n) (aC n))=_;rw[Lib.eN]
theorem ME(l:az Fi)(n:aq):(without l n).length<=l.length:=eS ..
theorem aeK{l:az Fi}(h:WR l)(n:aq):WR (without l n):=vO _ h
theorem sa{l:az Fi}(f:Fi):(put l f).length<=l.length+1:=by
 unfold put;have:∀r:az Fi,(r.filter λx=>gd.fc x.n f.n).length+(r.filter λx=> !(gd.fc x.n f.n||decide (x.n=f.n))).length<=r.length:=by
  intro r;induction r with
  |nil=>exact cG _
  |cons y r ih=>
   cases h1:gd.fc y.n f.n with
   |true=>rw[dB (by simpa using h1),cC (by simp[h1])];simp only[dc];omega
   |false=>
    rw[cC (by simp[h1])];by_cases h2:y.n=f.n
    ·rw[cC (by simp[h2])];simp only[dc];omega
    ·rw[dB (by simp[h1,h2])];simp only[dc];omega
 have:=this l;simp only[bU,bC];omega
theorem j6{l:az Fi}{x f:Fi}:x∈put l f↔x=f\/(x∈l/\x.n≠f.n):=by
 unfold put;simp only[bf,dm,a_,dp,iH,e_];constructor
 ·rintro ((⟨h1,h2⟩|rfl)|⟨h1,h2⟩)
  ·refine .inr ⟨h1,λe2=> ?_⟩;rw[e2,irrefl]at h2;cases h2
  ·exact .inl rfl
  ·exact .inr ⟨h1,h2.2⟩
 ·rintro (rfl|⟨h1,h2⟩)
  ·exact .inl (.inr rfl)
  ·cases hl:gd.fc x.n f.n with
   |true=>exact .inl (.inl ⟨h1,rfl⟩)
   |false=>exact .inr ⟨h1,rfl,h2⟩
def HX(l:az Fi)(k:ax)(n t o:aq):aA (az Fi):=
 match l.find? λx=>decide (x.n=n)with
 |some f=>
  if k=1 then ah (put l ⟨f.n,f.t++t,f.kp⟩)
  else if k=2 then ah (put l ⟨f.n,f.t,f.t.size⟩)
  else if k=3 then(if f.kp≠f.t.size\/o=n then aj else ah (put (without l n) ⟨o,f.t,f.kp⟩))
  else ah (without l n)
 |none=>if k=1 then ah (put l ⟨n,t,0⟩)else aj
def kj(k:ax)(t o:aq):aU:=decide (1<=k/\k<=4)&&((decide (t=⟨#[]⟩)||decide (k=1))&&(decide (o=⟨#[]⟩)||decide (k=3)))
def act(l:az Fi)(k:ax)(n t o:aq):aA (az Fi):=
 bif sU l&&kj k t o then(match HX l k n t o with|some d=>bif sU d then ah d else aj|none=>aj)else aj
structure Ac where
 k:ax
 n:aq
 t:aq
 o:aq
 deriving DecidableEq
instance:Inhabited Ac:=⟨⟨0,⟨#[]⟩,⟨#[]⟩,⟨#[]⟩⟩⟩
def Ac.row(e:Ac):az CV:=[CV.i ao e.k,CV.s e.n,CV.s e.t,CV.s e.o]
def ra(l:az Ac):aQ:=l.map Ac.row
theorem sb(l):(ra l).length=l.length:=by unfold ra;simp
theorem wa0{l:az Ac}{i:aE}(h:i<l.length):ar (ra l) i 0=CV.i ao (el l i).k:=fX _ l i 0 h
theorem wa1{l:az Ac}{i:aE}(h:i<l.length):ar (ra l) i 1=CV.s (el l i).n:=fX _ l i 1 h
theorem wa2{l:az Ac}{i:aE}(h:i<l.length):ar (ra l) i (1+1)=CV.s (el l i).t:=fX _ l i 2 h
theorem wa3{l:az Ac}{i:aE}(h:i<l.length):ar (ra l) i (1+1+1)=CV.s (el l i).o:=fX _ l i 3 h
def kl:az Fi->aE->az Ac->az Fi×aE
 |l,i,[]=>(l,i)
 |l,i,a::r=>match act l a.k a.n a.t a.o with|some d=>kl d (i+1) r|none=>(l,i)
theorem Bw{l d:az Fi}{k:ax}{n t o:aq}(h:act l k n t o=ah d):sU d=ai/\d.length<=30:=by
 unfold act at h;cases hb:sU l&&kj k t o with
 |false=>rw[hb]at h;cases h
 |true=>
  rw[hb,au]at h;split at h
  ·rename_i e _;cases ho:sU e with
   |false=>rw[ho]at h;cases h
   |true=>rw[ho]at h;obtain rfl:=aJ h;exact⟨ho,(j5.1 ho).1⟩
  ·cases h
end dG

namespace pe
theorem size(x:ax):(v x).size=4:=by unfold v;rw[Lib.iS];simp only[cD,Lib.rU]
end pe

namespace jU
def rd(x:ax):ax:=bif decide (cF x 2=1)then(bH eB (↑(dW (mq (cf 32 (bH eB (cQ x 2))) (cf 32 3558460437))):ax))else(bH eB (cQ x 2))
def nP:aE->ax->ax|0,x=>x|n+1,x=>nP n (rd x)
theorem in6(N:aE)(K:ax->aq->ax->ax->aA R)(a:aq)(b:ax):∀(d n i:aE) (x:ax),d+i=8->d<n->l6 N K n x a b (i:ax)=K (nP d x) a b 8:=by
 intro d;induction d with
 |zero=>
  intro n i x h1 h2;obtain⟨n,rfl⟩:∃m,n=m+1:=⟨n-1,by omega⟩
  have:i=8:=by omega
  subst this;rfl
 |succ d ih=>
  intro n i x h1 h2;obtain⟨n,rfl⟩:∃m,n=m+1:=⟨n-1,by omega⟩
  have kI:bG ((i:ax)+1)=((i+1:aE):ax):=c_ (by omega) (by omega);rw[nP,<-ih n (i+1) (rd x) (by omega) (by omega)];simp only[l6,r6,aG (show(i:ax)<8 by omega),au,kI,rd];cases decide (cF x 2=1)<;>rfl
def su(t:aq):aE->aE->ax->ax
 |0,_,s=>s
 |d+1,i,s=>su t d (i+1) (nP 8 (bH eB (↑(dW (mq (cf 32 s) (cf 32 (bH eB (↑(gU t i):ax))))):ax)))
theorem run(s:ax)(t:aq)(ht:t.size<=4611686018427387904):vo s t=ah (su t t.size 0 s):=by
 unfold vo b;have key:∀(d n i:aE) (s:ax),d+i=t.size->d<n->l2 Lib.cJ (λ(wC:ax) (_:aq) (_:ax)=>ah wC) n s t (i:ax)=ah (su t d i s):=by
  intro d;induction d with
  |zero=>
   intro n i s h1 h2;obtain⟨n,rfl⟩:∃m,n=m+1:=⟨n-1,by omega⟩
   simp only[l2,r2,Lib.c6,aK (show¬i<t.size by omega),aw];rfl
  |succ d ih=>
   intro n i s h1 h2;obtain⟨n,rfl⟩:∃m,n=m+1:=⟨n-1,by omega⟩
   have kI:bG ((i:ax)+1)=((i+1:aE):ax):=c_ (by omega) (by omega);simp only[l2,r2,Lib.c6,aG (show i<t.size by omega),Lib.cm,aL,au,Lib.dN];have e:=in6 (R:=ax) Lib.cJ (λy7 y8 y9 _=>l2 Lib.cJ (λwC _ _=>ah wC) n y7 y8 (bG (y9+1))) t (i:ax) 8 Lib.cJ 0 (bH eB (↑(dW (mq (cf 32 s) (cf 32 (bH eB (↑(gU t i):ax))))):ax)) rfl (by unfold Lib.cJ;omega);refine e.trans ?_;rw[kI,ih n (i+1) _ (by omega) (by omega)];rfl
 exact key t.size Lib.cJ 0 s (by omega) (cu (by omega))
theorem ok(s:ax)(t:aq)(ht:t.size<=4611686018427387904):c s t=ai/\v s t=su t t.size 0 s:=out s t (run s t ht)
end jU

namespace v8
theorem ok(t:aq)(ht:t.size<=4611686018427387904):c t=ai/\v t=jU.su t t.size 0 4294967295:=by have h:=jU.ok 4294967295 t ht;refine out t ?_;unfold vo b;rw[h.1,h.2];rfl
end v8

namespace fH
def fr(t:aq):aq:=bytesOf (Lib.vb t.size)++pe.v (jU.su t t.size 0 4294967295)++t
def val(t:aq):aq×aU:=if 1<=t.size/\t.size<=9000 then(fr t,ai)else(⟨#[]⟩,ak)
theorem eH(n a b:ax):ki.v n a b=decide (a<=n/\n<=b):=by unfold ki.v;by_cases h:a<=n<;>by_cases h2:n<=b<;>simp[h,h2]
theorem X8{t:aq}(h:t.size<=9000):(fr t).size<=t.size+68:=by unfold fr;have:=Lib.jP (x:=(t.size:ax)) (by omega);rw[Lib.km,Lib.km,pe.size];omega
theorem ok(t:aq):c t=ai/\v t=val t:=by
 refine out t ?_;unfold vo b val;rw[eH];by_cases h:1<=t.size/\t.size<=9000
 ·have hs:=v8.ok t (by omega);have hc:kF.c (t.size:ax)=true:=aG (show(t.size:ax)<=9223372036854775807 by omega);have z1:(kF.v (t.size:ax)).size<=64:=Lib.jP (x:=(t.size:ax)) (by omega);rw[aG (show(1:ax)<=(t.size:ax)/\(t.size:ax)<=9000 by omega),bA h,hs.1,hs.2];simp(disch:=omega) only[aY,aw,au,hc,Lib.km,pe.size,Lib.Td];rfl
 ·rw[aK (show¬((1:ax)<=(t.size:ax)/\(t.size:ax)<=9000)by omega),bJ h];rfl
end fH

namespace rM
theorem head{t:aq}{p:aE}{b:IA}{r:az IA}(h:t.data.toList.drop p=b::r):p<t.size/\gU t p=b.toNat/\t.data.toList.drop (p+1)=r:=by
 have hl:=lV bS h;rw[iC,dc]at hl;have hs:t.data.toList.length=t.size:=rfl;have hp:p<t.data.toList.length:=by omega
 have hd:=dC hp;rw[hd]at h;injection h with h1 h2;refine⟨by omega, ?_,h2⟩
 unfold gU;have mR:p<t.data.size:=hp;rw[show t.data.getD p 0=t.data[p]by unfold Array.getD;rw[dif_pos mR];rfl];rw[<-h1];rfl
theorem Cv(x:ax)(r:aQ):(bytesOf ([CV.i bj x]::r)).data.toList=ay x.toNat::(bytesOf r).data.toList:=rfl
theorem VC(t:aq)(a:aE)(rest:az IA):∀(f j:aE) (n y:ax),0<=y->0<=n->n+y*128^j<=1000000000->y<=1000000000->(j>0->0<y)->t.data.toList.drop (a+j)=(bytesOf (Lib.vb y)).data.toList++rest->(Lib.vb y).length<=f->
  Lib.rv t a f j n=(n+y*128^j,((a+j+(Lib.vb y).length:aE):ax),ai)/\t.data.toList.drop (a+j+(Lib.vb y).length)=rest
 |0,j,n,y,h0,hn,hb,hy,hj,hd,hf=>by
  by_cases hc:y>127
  ·rw[Lib.wA hc]at hf;simp at hf
  ·rw[Lib.ng hc]at hf;simp at hf
 |f+1,j,n,y,h0,hn,hb,hy,hj,hd,hf=>by
  by_cases hc:y>127
  ·have e1:cF y 128=y%128:=im (by omega);have e2:cQ y 128=y/128:=h_ (by omega);have e3:bG (y%128+128)=y%128+128:=c_ (by omega) (by omega);have e4:bH bj (y%128+128)=y%128+128:=by show(y%128+128)%256=_;omega
   have e5:bG (y/128)=y/128:=c_ (by omega) (by omega);have ev:Lib.vb y=[CV.i bj (y%128+128)]::Lib.vb (y/128):=by rw[Lib.wA hc,e1,e2,e3,e4,e5]
   rw[ev,Cv,Cd]at hd;obtain⟨q1,q2,q3⟩:=head hd;have q4:(gU t (a+j):ax)=y%128+128:=by rw[q2,Nv];omega
   rw[ev,dc]at hf;have hP:y*128^j=y%128*128^j+y/128*128^(j+1):=by
    have hyd:y=y%128+128*(y/128):=by omega
    rw[uZ];generalize (128:ax)^j=P;conv=>lhs;rw[hyd]
    rw[Int.add_mul,Int.mul_comm P 128,<-Int.mul_assoc,Int.mul_comm (y/128) 128]
   have hpp:(0:ax)<=y%128*128^j:=Int.mul_nonneg (by omega) (Int.le_of_lt (Int.pow_pos (by omega)));obtain⟨i1,i2⟩:=VC t a rest f (j+1) (n+y%128*128^j) (y/128) (by omega) (by omega) (by omega) (by omega) (by omega) (by rw[show a+(j+1)=a+j+1 by omega];exact q3) (by omega);refine⟨?_, ?_⟩
   ·unfold Lib.rv;rw[bA q1,q4,bA (by omega),show(y%128+128)%128=y%128 by omega,i1,hP,ev,dc];refine Prod.ext ?_ (Prod.ext ?_ rfl)
    ·dsimp only;omega
    ·dsimp only;omega
   ·rw[ev,dc,show a+j+((Lib.vb (y/128)).length+1)=a+(j+1)+(Lib.vb (y/128)).length by omega];exact i2
  ·have e4:bH bj y=y:=by show y%256=_;omega
   have ev:Lib.vb y=[[CV.i bj y]]:=by rw[Lib.ng hc,e4]
   rw[ev,Cv,Cd]at hd;obtain⟨q1,q2,q3⟩:=head hd;have q4:(gU t (a+j):ax)=y:=by rw[q2,Nv];omega
   refine⟨?_,by rw[ev];exact q3⟩
   unfold Lib.rv;rw[bA q1,q4,bJ hc,show y%128=y by omega,bJ (by omega),ev];rfl
theorem vb5{y:ax}(h:y<=1000000000):(Lib.vb y).length<=5:=by
 have e:(128:ax)^(4+1)=34359738368:=by decide
 exact Lib.BW 4 y (by rw[e];omega)
theorem mL(t:aq)(p:aE)(y:ax)(rest:az IA)(h0:0<=y)(h1:y<=1000000000)(hd:t.data.toList.drop p=(bytesOf (Lib.vb y)).data.toList++rest):Lib.er t p=(y,((p+(Lib.vb y).length:aE):ax),ai)/\t.data.toList.drop (p+(Lib.vb y).length)=rest:=by
 have hl:=lV bS hd;have iz:0<(Lib.vb y).length:=by
  by_cases hc:y>127
  ·rw[Lib.wA hc];simp
  ·rw[Lib.ng hc];simp
 have hb:(bytesOf (Lib.vb y)).data.toList.length=(Lib.vb y).length:=Lib.iS _;rw[iC,bU,hb]at hl;have hs:t.data.toList.length=t.size:=rfl;obtain⟨i1,i2⟩:=VC t p rest 5 0 0 y h0 (by omega) (by simp;omega) h1 (by omega) (by simpa using hd) (vb5 h1);refine⟨?_,by simpa using i2⟩
 unfold Lib.er;rw[bA (by omega),show((p:aE):ax).toNat=p from rfl,i1];simp
theorem Lm(t k:aq)(p:aE)(rest:az IA)(hd:t.data.toList.drop p=k.data.toList++rest):t.extract p (p+k.size)=k:=by apply Lib.tw;simp only[gk,iy,ia];rw[hd,show p+k.size-p=k.data.toList.length by show p+k.size-p=k.size;omega,List.take_left]
theorem enc(k:aq)(s l:ax)(b:aq)(h:m8.v k s l b=ai):v (jK.s5 k s l b)=(k,s,l,b,ai):=by
 obtain⟨⟨k1,k2⟩,⟨s1,s2⟩,⟨l1,l2⟩,b1⟩:=m8.EC h;generalize ht:jK.s5 k s l b=t;have hT:t.data.toList=(bytesOf (Lib.vb k.size)).data.toList++(k.data.toList++((bytesOf (Lib.vb s)).data.toList++((bytesOf (Lib.vb l)).data.toList++b.data.toList))):=by rw[<-ht];unfold jK.s5;simp only[mH,vF,cy]
 have hs:t.data.toList.length=t.size:=rfl;have hk:k.data.toList.length=k.size:=rfl;obtain⟨a1,a2⟩:=mL t 0 (k.size:ax) _ (by omega) (by omega) (by rw[fg];exact hT);rw[bX]at a1 a2;generalize (Lib.vb (k.size:ax)).length=n1 at a1 a2;have awu:=lV bS a2;simp only[iC,bU,hk,hs]at awu;have ek:=Lm t k n1 _ a2;have a3:t.data.toList.drop (n1+k.size)=(bytesOf (Lib.vb s)).data.toList++((bytesOf (Lib.vb l)).data.toList++b.data.toList):=by rw[<-vP,a2];exact List.drop_left' (by rw[hk])
 obtain⟨b1',b2⟩:=mL t (n1+k.size) s _ (by omega) (by omega) a3;obtain⟨c1,c2⟩:=mL t (n1+k.size+(Lib.vb s).length) l _ (by omega) (by omega) b2;have hr:Lib.hZ t 0=(k,((n1+k.size:aE):ax),ai):=by unfold Lib.hZ;rw[show(0:ax)=((0:aE):ax)from rfl,a1];dsimp only;rw[bA (by omega)];rw[show((n1:aE):ax).toNat=n1 from rfl,show((n1:ax)+(k.size:ax)).toNat=n1+k.size by omega,ek];rfl
 have eb:t.extract (n1+k.size+(Lib.vb s).length+(Lib.vb l).length) t.size=b:=by
  have HG:=lV bS c2;rw[iC,hs]at HG;have hbs:b.data.toList.length=b.size:=rfl;by_cases hz:b.size=0
  ·apply Lib.tw;simp only[gk,iy,ia];rw[c2];exact jg (by omega)
  ·apply Lib.tw;simp only[gk,iy,ia];rw[c2];exact jg (by omega)
 unfold v;rw[hr];dsimp only;rw[b1'];dsimp only;rw[c1];dsimp only;rw[show((n1+k.size+(Lib.vb s).length+(Lib.vb l).length:aE):ax).toNat=n1+k.size+(Lib.vb s).length+(Lib.vb l).length from rfl,eb,bA h]
end rM

namespace xA
theorem in6(N:aE)(K:ax->aq->ax->ax->aA R)(a:aq)(b:ax):∀(d n i:aE) (x:ax),d+i=8->d<n->l6 N K n x a b (i:ax)=K (jU.nP d x) a b 8:=by
 intro d;induction d with
 |zero=>
  intro n i x h1 h2;obtain⟨n,rfl⟩:∃m,n=m+1:=⟨n-1,by omega⟩
  have:i=8:=by omega
  subst this;rfl
 |succ d ih=>
  intro n i x h1 h2;obtain⟨n,rfl⟩:∃m,n=m+1:=⟨n-1,by omega⟩
  have kI:bG ((i:ax)+1)=((i+1:aE):ax):=c_ (by omega) (by omega);rw[jU.nP,<-ih n (i+1) (jU.rd x) (by omega) (by omega)];simp only[l6,r6,aG (show(i:ax)<8 by omega),au,kI,jU.rd];cases decide (cF x 2=1)<;>rfl
theorem run(s:ax)(t:aq)(ht:t.size<=4611686018427387904):vo s t=ah (jU.su t t.size 0 s):=by
 unfold vo b;have key:∀(d n i:aE) (s:ax),d+i=t.size->d<n->l2 Lib.cJ (λ(wC:ax) (_:aq) (_:ax)=>ah wC) n s t (i:ax)=ah (jU.su t d i s):=by
  intro d;induction d with
  |zero=>
   intro n i s h1 h2;obtain⟨n,rfl⟩:∃m,n=m+1:=⟨n-1,by omega⟩
   simp only[l2,r2,Lib.c6,aK (show¬i<t.size by omega),aw];rfl
  |succ d ih=>
   intro n i s h1 h2;obtain⟨n,rfl⟩:∃m,n=m+1:=⟨n-1,by omega⟩
   have kI:bG ((i:ax)+1)=((i+1:aE):ax):=c_ (by omega) (by omega);simp only[l2,r2,Lib.c6,aG (show i<t.size by omega),Lib.cm,aL,au,Lib.dN];have e:=in6 (R:=ax) Lib.cJ (λy7 y8 y9 _=>l2 Lib.cJ (λwC _ _=>ah wC) n y7 y8 (bG (y9+1))) t (i:ax) 8 Lib.cJ 0 (bH eB (↑(dW (mq (cf 32 s) (cf 32 (bH eB (↑(gU t i):ax))))):ax)) rfl (by unfold Lib.cJ;omega);refine e.trans ?_;rw[kI,ih n (i+1) _ (by omega) (by omega)];rfl
 exact key t.size Lib.cJ 0 s (by omega) (cu (by omega))
theorem ok(s:ax)(t:aq)(ht:t.size<=4611686018427387904):c s t=ai/\v s t=jU.su t t.size 0 s:=out s t (run s t ht)
end xA

namespace vi
theorem ok(t:aq)(ht:t.size<=4611686018427387904):c t=ai/\v t=jU.su t t.size 0 4294967295:=by have h:=xA.ok 4294967295 t ht;refine out t ?_;unfold vo b;rw[h.1,h.2];rfl
end vi

namespace vf
theorem ok(t:aq)(ht:t.size<=4611686018427387904):c t=ai/\v t=pe.v (jU.su t t.size 0 4294967295):=by have h:=vi.ok t ht;refine out t ?_;unfold vo b;rw[h.1,h.2];rfl
end vf

namespace Iy
theorem cut(a s s' b:aq):bW (aC (a++s++b)) (aC (a++s'++b))=bW (aC s) (aC s'):=by
 rw[Lib.eN,Lib.eN,ca];constructor
 ·intro h;have h2:=lV (λx:aq=>x.data.toList) h;simp only[mH,vF,cy]at h2;have h3:=List.append_cancel_right (List.append_cancel_left h2);exact Lib.tw h3
 ·intro h;rw[h]
theorem mN(n a b:ax):lH.v n a b=decide (a<=n/\n<=b):=fH.eH n a b
theorem both(t:aq)(ht:t.size<=20000):∀(d:aE) (gT:aE) (acc:aQ) (n m:aE) (z:ax),t.size-gT<=d->gT<=t.size->acc.length<=gT->d<n->d<m->
  ∃R:aQ×ax,U122.l3 Lib.cJ (λ(_:aq) (y4:ax) (y5:aQ)=>ah (y5,y4)) n t (gT:ax) acc=ah R/\l5 Lib.cJ (λ(_:aq) (y5 _:ax) (y7:aQ)=>ah (y7,y5)) (λ(_:aq) (_ KK:ax) (wC:aQ)=>ah (wC,KK)) m t z (gT:ax) acc=ah R/\R.1.length<=20000:=by
 intro d;induction d with
 |zero=>
  intro gT acc n m z h1 h2 h3 h4 h5;obtain⟨n,rfl⟩:∃n',n=n'+1:=⟨n-1,by omega⟩
  obtain⟨m,rfl⟩:∃m',m=m'+1:=⟨m-1,by omega⟩
  have jt:decide ((gT:ax)<(t.size:ax))=false:=aK (by omega);have hr:(Lib.er t (gT:ax)).2.2=false:=by
   cases h:Lib.er t (gT:ax)with
   |mk a r=>
    obtain⟨x,o⟩:=r;cases o with
    |false=>rfl
    |true=>have:=Lib.j7 h;omega
  have e1:∀a b,gn.v a b=Lib.er a b:=λ_ _=>rfl;refine⟨(acc,(gT:ax)), ?_, ?_,by dsimp only;omega⟩
  ·simp only[U122.l3,U122.r3,e1,hr,aG (show(t.size:ax)<=20000 by omega),au,bP]
  ·simp only[l5,r5,jt,aw]
 |succ d ih=>
  intro gT acc n m z h1 h2 h3 h4 h5;obtain⟨n,rfl⟩:∃n',n=n'+1:=⟨n-1,by omega⟩
  obtain⟨m,rfl⟩:∃m',m=m'+1:=⟨m-1,by omega⟩
  have e1:∀a b,gn.v a b=Lib.er a b:=λ_ _=>rfl;have e2:∀a b,fS.v a b=Lib.er a b:=λ_ _=>rfl;have gj:decide ((t.size:ax)<=20000)=true:=aG (by omega);cases hr:Lib.er t (gT:ax)with
  |mk N r=>
   obtain⟨nx,o⟩:=r;cases o with
   |false=>
    refine⟨(acc,(gT:ax)), ?_, ?_,by dsimp only;omega⟩
    ·simp only[U122.l3,U122.r3,e1,hr,gj,au,bP]
    ·by_cases jt:(gT:ax)<(t.size:ax)
     ·simp only[l5,r5,e2,hr,aG jt,au,bP]
     ·simp only[l5,r5,aK jt,aw]
   |true=>
    obtain⟨q1,q2,q3,q4,q5,q6⟩:=Lib.j7 hr;have jt:decide ((gT:ax)<(t.size:ax))=true:=aG (by omega);have w1:bG (N+4)=N+4:=c_ (by omega) (by omega);have w2:bG ((t.size:ax)-nx)=(t.size:ax)-nx:=c_ (by omega) (by omega);have w3:bG ((t.size:ax)-nx-4)=(t.size:ax)-nx-4:=c_ (by omega) (by omega);have w4:bG (nx+4)=nx+4:=c_ (by omega) (by omega);have w5:bG (nx+4+N)=nx+4+N:=c_ (by omega) (by omega);by_cases tK:N+4>(t.size:ax)-nx
    ·have FE:N>(t.size:ax)-nx-4:=by omega
     refine⟨(acc,(gT:ax)), ?_, ?_,by dsimp only;omega⟩
     ·cases Yq:decide (1<=N/\N<=9000)with
      |false=>simp only[U122.l3,U122.r3,e1,hr,gj,mN,Yq,au,aw,aY,bP]
      |true=>simp only[U122.l3,U122.r3,e1,hr,gj,mN,Yq,w1,w2,aG tK,au,aw,aY]
     ·simp only[l5,r5,e2,hr,jt,w2,w3,aG FE,au,aw,aY]
    ·have FE:¬N>(t.size:ax)-nx-4:=by omega
     have i1:ic (nx+4) (nx+4+N) (t.size:ax)=true:=by simp[ic];omega
     have i2:ic nx (nx+4) (t.size:ax)=true:=by simp[ic];omega
     have i3:ic (gT:ax) (nx+4+N) (t.size:ax)=true:=by simp[ic];omega
     have hts:(t.extract (nx+4).toNat (nx+4+N).toNat).size=N.toNat:=by rw[yM];omega
     generalize W8:t.extract (nx+4).toNat (nx+4+N).toNat=tx at hts;have f1:=fH.ok tx;have f2:=vf.ok tx (by omega);by_cases Yq:1<=N/\N<=9000
     ·have W6:fH.val tx=(fH.fr tx,ai):=by unfold fH.val;rw[bA (by omega)]
      have atJ:((tx.size:aE):ax)=N:=by omega
      have DO:fH.fr tx=t.extract gT nx.toNat++pe.v (jU.su tx tx.size 0 4294967295)++tx:=by unfold fH.fr;rw[atJ,q6];rfl
      have hwh:t.extract gT (nx+4+N).toNat=t.extract gT nx.toNat++t.extract nx.toNat (nx+4).toNat++tx:=by rw[<-W8,Lib.xL t (by omega) (by omega),Lib.xL t (by omega) (by omega)]
      have Yd:bW (aC (fH.fr tx)) (aC (t.extract gT (nx+4+N).toNat))=bW (aC (pe.v (jU.su tx tx.size 0 4294967295))) (aC (t.extract nx.toNat (nx+4).toNat)):=by rw[DO,hwh];exact cut _ _ _ _
      have JO:cw (acc.length+1) 16=true:=Lib.ch (by omega) (by omega);cases hs:bW (aC (pe.v (jU.su tx tx.size 0 4294967295))) (aC (t.extract nx.toNat (nx+4).toNat))with
      |false=>
       rw[hs]at Yd;refine⟨(acc,(gT:ax)), ?_, ?_,by dsimp only;omega⟩
       ·simp only[U122.l3,U122.r3,e1,hr,gj,mN,aG Yq,w1,w2,w4,w5,aK tK,i1,i2,W8,f2.1,f2.2,hs,au,aw,aY,bP]
       ·simp only[l5,r5,e2,hr,jt,w2,w3,w4,w5,aK FE,i1,i3,W8,f1.1,f1.2,W6,dK,Yd,au,aw,aY,bP]
      |true=>
       rw[hs]at Yd;obtain⟨a2,ha2⟩:∃a2:aE,nx+4+N=(a2:ax):=⟨(nx+4+N).toNat,by omega⟩
       obtain⟨R,g1,g2,g3⟩:=ih a2 (acc++[[CV.s tx]]) n m z (by omega) (by omega) (by rw[bU,bC];omega) (by omega) (by omega);refine⟨R, ?_, ?_,g3⟩
       ·simp only[U122.l3,U122.r3,e1,hr,gj,mN,aG Yq,w1,w2,w4,w5,aK tK,i1,i2,W8,f2.1,f2.2,hs,Lib.ja,bC,JO,au,aw,aY];rw[ha2];exact g1
       ·simp only[l5,r5,e2,hr,jt,w2,w3,w4,w5,aK FE,i1,i3,W8,f1.1,f1.2,W6,dK,Yd,Lib.ja,bC,JO,au,aw,aY];rw[ha2];exact g2
     ·have W6:fH.val tx=(⟨#[]⟩,ak):=by unfold fH.val;rw[bJ (by omega)]
      refine⟨(acc,(gT:ax)), ?_, ?_,by dsimp only;omega⟩
      ·simp only[U122.l3,U122.r3,e1,hr,gj,mN,aK Yq,au,aw,aY,bP]
      ·simp only[l5,r5,e2,hr,jt,w2,w3,w4,w5,aK FE,i1,W8,f1.1,f1.2,W6,au,aw,aY,bP]
theorem same(t:aq):∃R:aQ×ax,(c t=ai/\v t=R)/\(U122.c t=ai/\U122.v t=R)/\R.1.length<=20000:=by
 by_cases ht:t.size<=20000
 ·obtain⟨R,g1,g2,g3⟩:=both t ht t.size 0 [] Lib.cJ Lib.cJ 0 (by omega) (bD _) (cG _) (cu (by omega)) (cu (by omega));refine⟨R,out t ?_,U122.out t ?_,g3⟩
  ·unfold vo b;rw[aK (show¬(t.size:ax)>20000 by omega),aw];exact g2
  ·unfold U122.vo U122.b;exact g1
 ·refine⟨([],0),out t ?_,U122.out t ?_,bD _⟩
  ·unfold vo b;rw[aG (show(t.size:ax)>20000 by omega)];rfl
  ·unfold U122.vo U122.b;have hb:Lib.cJ=18446744073709551615+1:=rfl;have:∀n,U122.l3 Lib.cJ (λ(_:aq) (y4:ax) (y5:aQ)=>ah (y5,y4)) (n+1) t 0 (aP [Ck.s] 0)=ah ([],0):=by intro n;simp only[U122.l3,U122.r3,aK (show¬(t.size:ax)<=20000 by omega),aw];rfl
   exact this 18446744073709551615
end Iy

namespace Xf
def fs:az aq->aq
 |[]=>⟨#[]⟩|x::r=>fH.fr x++fs r
theorem toL(a b:aq):(a++b).data.toList=a.data.toList++b.data.toList:=by simp[mH]
theorem Hy(x:aq):(fH.fr x).data.toList=(bytesOf (Lib.vb x.size)).data.toList++((pe.v (jU.su x x.size 0 4294967295)).data.toList++x.data.toList):=by unfold fH.fr;rw[toL,toL,cy]
theorem KI(x:aq):x.data.toList.length=x.size:=dS
def Stop(z:aq):Prop:=z=⟨#[]⟩\/∃(x:aq) (w:az IA),x.size<=9000/\(fH.fr x).data.toList=z.data.toList++w/\w≠[]
theorem o4(n:ax):(pe.v n).size=4:=rfl
theorem vbl(n:ax):(bytesOf (Lib.vb n)).data.toList.length=(Lib.vb n).length:=by rw[KI,Lib.iS]
theorem stop{t z:aq}{p:aE}(hz:Stop z)(hp:p<=t.size)(hd:t.data.toList.drop p=z.data.toList){N nx:ax}(h:Lib.er t p=(N,nx,ai)):N+4>(t.size:ax)-nx:=by
 obtain⟨q1,q2,q3,q4,q5,q6⟩:=Lib.j7 h;have hl:t.size-p=z.size:=by have:=lV bS hd;rw[iC,KI,KI]at this;exact this
 rcases hz with rfl|⟨x,w,hx,hF,hw⟩
 ·have:(⟨#[]⟩:aq).size=0:=rfl;omega
 ·-- the file's next bytes are the number's
  have e1:(t.extract p nx.toNat).data.toList=z.data.toList.take (nx.toNat-p):=by rw[<-hd];simp[gk,iy,List.extract]
  rw[dK]at q6;have LP:nx.toNat-p<=z.data.toList.length:=by rw[KI];omega
  have e2:(fH.fr x).data.toList.drop 0=(bytesOf (Lib.vb N)).data.toList++(z.data.toList.drop (nx.toNat-p)++w):=by rw[fg,hF,q6,e1,<-cy,List.take_append_drop]
  have e3:(fH.fr x).data.toList.drop 0=(bytesOf (Lib.vb x.size)).data.toList++((pe.v (jU.su x x.size 0 4294967295)).data.toList++x.data.toList):=by rw[fg,Hy]
  have r1:=(rM.mL _ 0 N _ q4 q5 e2).1;have r2:=(rM.mL _ 0 (x.size:ax) _ (by omega) (by omega) e3).1;rw[r1]at r2;obtain⟨hN,hq⟩:=bY r2;have hlen:(Lib.vb N).length=nx.toNat-p:=by have:=lV bS (lV (λy:aq=>y.data.toList) q6);simp only[vbl,e1,eL]at this;omega
  have hFl:=lV bS hF;rw[Hy,bU,bU,bU,vbl,KI,KI,KI,o4]at hFl;have hw1:1<=w.length:=by cases w with|nil=>exact cL rfl hw|cons=>simp
  subst hN;omega
theorem go(t:aq)(ht:t.size<=20000)(z:aq)(hz:Stop z):∀(es:az aq),(∀x∈es,1<=x.size/\x.size<=9000)->∀(p n:aE) (acc:aQ),p<=t.size->acc.length<=p->t.data.toList.drop p=(fs es++z).data.toList->t.size-p<n->
  U122.l3 Lib.cJ (λ(_:aq) (y4:ax) (y5:aQ)=>ah (y5,y4)) n t (p:ax) acc=ah (acc++Lib.rs es,((p+(fs es).size:aE):ax)):=by
 have e0:∀a b,gn.v a b=Lib.er a b:=λ_ _=>rfl;have gj:decide ((t.size:ax)<=20000)=true:=aG (by omega);intro es;induction es with
 |nil=>
  intro hes p n acc hp ha hd hn;obtain⟨n,rfl⟩:∃n',n=n'+1:=⟨n-1,by omega⟩
  have hd:t.data.toList.drop p=z.data.toList:=by rw[hd];unfold fs;rw[toL];rfl
  have e1:acc++Lib.rs []=acc:=dj _;have e2:((p+(fs []).size:aE):ax)=(p:ax):=rfl;rw[e1,e2];cases hr:Lib.er t (p:ax)with
  |mk N r=>
   obtain⟨nx,o⟩:=r;cases o with
   |false=>simp only[U122.l3,U122.r3,e0,hr,gj,au,bP]
   |true=>
    have hs:=stop hz hp hd hr;obtain⟨q1,q2,q3,q4,q5,q6⟩:=Lib.j7 hr;have w1:bG (N+4)=N+4:=c_ (by omega) (by omega);have w2:bG ((t.size:ax)-nx)=(t.size:ax)-nx:=c_ (by omega) (by omega);cases Yq:decide (1<=N/\N<=9000)with
    |false=>simp only[U122.l3,U122.r3,e0,hr,gj,Iy.mN,Yq,au,aw,aY,bP]
    |true=>simp only[U122.l3,U122.r3,e0,hr,gj,Iy.mN,Yq,w1,w2,aG hs,au,aw,aY]
 |cons x es ih=>
  intro hes p n acc hp ha hd hn;obtain⟨n,rfl⟩:∃n',n=n'+1:=⟨n-1,by omega⟩
  have hx:=hes x (by simp);have hd1:t.data.toList.drop p=(bytesOf (Lib.vb x.size)).data.toList++((pe.v (jU.su x x.size 0 4294967295)).data.toList++(x.data.toList++(fs es++z).data.toList)):=by rw[hd,show fs (x::es)=fH.fr x++fs es from rfl,toL,toL,Hy,toL];simp only[cy]
  obtain⟨hr,hd2⟩:=rM.mL t p (x.size:ax) _ (by omega) (by omega) hd1;have PR:(fH.fr x).size=(Lib.vb x.size).length+4+x.size:=by rw[<-KI,Hy,bU,bU,vbl,KI,KI,o4];omega
  have hlen:=lV bS hd;rw[iC,KI,KI]at hlen;have n5:(fs (x::es)++z).size=(fH.fr x).size+(fs es).size+z.size:=by rw[show fs (x::es)=fH.fr x++fs es from rfl,dH,dH]
  rw[n5,PR]at hlen;generalize hm:(Lib.vb (x.size:ax)).length=m at*
  have x4:t.extract (p+m) (p+m+4)=pe.v (jU.su x x.size 0 4294967295):=by have:=rM.Lm t _ (p+m) _ hd2;rwa[o4]at this
  have hd3:t.data.toList.drop (p+m+4)=x.data.toList++(fs es++z).data.toList:=by rw[<-vP,hd2,Bo (by rw[KI,o4];omega),IQ (by rw[KI,o4];omega),gF]
  have x5:t.extract (p+m+4) (p+m+4+x.size)=x:=rM.Lm t x (p+m+4) _ hd3;have hd4:t.data.toList.drop (p+m+4+x.size)=(fs es++z).data.toList:=by rw[<-vP,hd3,Bo (by rw[KI];omega),IQ (by rw[KI];omega),gF]
  have i:=ih (λy hy=>hes y (by simp[hy])) (p+m+4+x.size) n (acc++[[CV.s x]]) (by omega) (by simp;omega) hd4 (by omega);have w1:bG ((x.size:ax)+4)=(x.size:ax)+4:=c_ (by omega) (by omega);have w2:bG ((t.size:ax)-((p+m:aE):ax))=(t.size:ax)-((p+m:aE):ax):=c_ (by omega) (by omega);have w4:bG (((p+m:aE):ax)+4)=((p+m+4:aE):ax):=by rw[c_ (by omega) (by omega)];omega
  have w5:bG (((p+m+4:aE):ax)+(x.size:ax))=((p+m+4+x.size:aE):ax):=by rw[c_ (by omega) (by omega)];omega
  have b1:¬(x.size:ax)+4>(t.size:ax)-((p+m:aE):ax):=by omega
  have i1:ic ((p+m+4:aE):ax) ((p+m+4+x.size:aE):ax) (t.size:ax)=true:=by simp[ic];omega
  have i2:ic ((p+m:aE):ax) ((p+m+4:aE):ax) (t.size:ax)=true:=by simp[ic];omega
  have f2:=vf.ok x (by omega);have JO:cw (acc.length+1) 16=true:=Lib.ch (by omega) (by omega);simp only[U122.l3,U122.r3,e0,hr,gj,Iy.mN,aG (show 1<=(x.size:ax)/\(x.size:ax)<=9000 by omega),w1,w2,w4,w5,aK b1,i1,i2,dK,x4,x5,f2.1,f2.2,Lib.qK,Lib.ja,bC,JO,au,aw,aY];rw[i];have e3:acc++[[CV.s x]]++Lib.rs es=acc++Lib.rs (x::es):=by unfold Lib.rs;simp
  have e4:p+m+4+x.size+(fs es).size=p+(fs (x::es)).size:=by
   have:(fs (x::es)).size=(fH.fr x).size+(fs es).size:=by rw[show fs (x::es)=fH.fr x++fs es from rfl,dH]
   omega
  rw[e3,e4]
theorem ok(es:az aq)(hes:∀x∈es,1<=x.size/\x.size<=9000)(z:aq)(hz:Stop z)(ht:(fs es++z).size<=20000):
  (U122.c (fs es++z)=ai/\U122.v (fs es++z)=(Lib.rs es,((fs es).size:ax)))/\(Iy.c (fs es++z)=ai/\Iy.v (fs es++z)=(Lib.rs es,((fs es).size:ax))):=by
 have h1:=U122.out (fs es++z) (x:=(Lib.rs es,((fs es).size:ax))) (by unfold U122.vo U122.b;have:=go (fs es++z) ht z hz es hes 0 Lib.cJ [] (bD _) (bD _) (by rw[fg]) (cu (by omega));rw[bX,gF]at this;exact this);obtain⟨R,s1,s2,_⟩:=Iy.same (fs es++z);refine⟨h1,s1.1, ?_⟩
 rw[s1.2,<-s2.2,h1.2]
end Xf

namespace Cg
theorem wi(n a b:ax):lH.v n a b=decide (a<=n/\n<=b):=fH.eH n a b
theorem ok(t:aq):c t=ai/\v t=fH.val t:=by
 refine out t ?_;unfold vo b fH.val;rw[wi];by_cases h:1<=t.size/\t.size<=9000
 ·have hs:=vf.ok t (by omega);have z1:(bytesOf (Lib.vb (t.size:ax))).size<=64:=Lib.jP (x:=(t.size:ax)) (by omega);have e2:nV.v (t.size:ax)=(bytesOf (Lib.vb t.size),ai):=by unfold nV.v;rw[bA (by omega)]
  rw[aG (show(1:ax)<=(t.size:ax)/\(t.size:ax)<=9000 by omega),bA h,hs.1,hs.2,e2];simp(disch:=omega) only[aY,aw,au,Lib.km,pe.size,Lib.Td];rfl
 ·rw[aK (show¬((1:ax)<=(t.size:ax)/\(t.size:ax)<=9000)by omega),bJ h];rfl
end Cg

namespace mZ
theorem ug{k b:aq}{s l:ax}(h:m8.v k s l b=ai):(jK.s5 k s l b).size<=1000:=by have hr:=m8.EC h;have z1:(bytesOf (Lib.vb (k.size:ax))).size<=64:=Lib.jP (x:=(k.size:ax)) (by omega);have z2:(bytesOf (Lib.vb s)).size<=64:=Lib.jP (x:=s) (by omega);have z3:(bytesOf (Lib.vb l)).size<=64:=Lib.jP (x:=l) (by omega);unfold jK.s5;simp only[Lib.km];omega
theorem BU{k b:aq}{s l:ax}(h:m8.v k s l b=ai):1<=(jK.s5 k s l b).size:=by have hr:=m8.EC h;unfold jK.s5;simp only[Lib.km];omega
def val(k:aq)(s l:ax)(b:aq):aq×aU:=if m8.v k s l b=ai then(fH.fr (jK.s5 k s l b),ai)else(⟨#[]⟩,ak)
theorem ok(k:aq)(s l:ax)(b0:aq):c k s l b0=ai/\v k s l b0=val k s l b0:=by
 refine out k s l b0 ?_;have hf:=Cg.ok (Ed.v k s l b0).1;unfold vo b val;rw[hf.1,hf.2];unfold Ed.v jK.v fH.val;by_cases h:m8.v k s l b0=ai
 ·have h1:=ug h;have h2:=BU h;rw[bA h,bA h,bA (by dsimp only;omega)];rfl
 ·rw[bJ h,bJ h];rfl
end mZ

namespace kE
def p(d:aQ)(n:aq)(i:aE):aU:=bW (aC (bz (ar d i 0))) (aC n)
theorem ok(d:aQ)(n:aq)(hl:d.length<=4294967296):c d n=ai/\v d n=Lib.fi (p d n) d.length 0:=by
 refine out d n ?_;unfold vo b;refine lS (p d n) d.length (λm (i:aE)=>l2 Lib.cJ (λ(_:aq) (y5 _:ax) (_:aQ)=>ah y5) (λ(_:aq) (_ _:ax) (_:aQ)=>ah (-1)) m n 0 (i:ax) d) ah (λm i hi hp=> ?_) (λm i hi hp=> ?_) (λm=> ?_) Lib.cJ (cu (by omega))
 ·unfold p at hp;simp only[l2,r2,Lib.c6,Lib.cm,Lib.dN,hi,aN,aL,au,hp]
 ·unfold p at hp;simp only[l2,r2,Lib.c6,Lib.cm,Lib.dN,hi,aN,aL,au,hp,aw,Lib.cS hi (by omega:d.length<=9223372036854775807)]
 ·simp only[l2,r2,Lib.c6,bk,bc,aw]
end kE

namespace wb
def val(d:aQ)(n:aq):aq×aU:=if Lib.fi (kE.p d n) d.length 0<0 then(⟨#[]⟩,ak)else(bz (ar d (Lib.fi (kE.p d n) d.length 0).toNat 1),ai)
theorem EC(d:aQ)(n:aq)(h:¬Lib.fi (kE.p d n) d.length 0<0):0<=Lib.fi (kE.p d n) d.length 0/\Lib.fi (kE.p d n) d.length 0<(d.length:ax):=by
 rcases Lib.py (kE.p d n) d.length 0 with ⟨h1,_⟩|⟨k,h1,h2,h3,_,_⟩
 ·rw[h1]at h;omega
 ·rw[h3];omega
theorem ok(d:aQ)(n:aq)(hl:d.length<=4294967296):c d n=ai/\v d n=val d n:=by
 refine out d n ?_;have h:=kE.ok d n hl;unfold vo b val;rw[h.1,h.2,au];by_cases hn:Lib.fi (kE.p d n) d.length 0<0
 ·rw[aG hn,bA hn];rfl
 ·have hr:=EC d n hn;rw[aK hn,bJ hn,aw,aG hr.1,aG hr.2];rfl
end wb

namespace kg
theorem ok(r:aQ)(hl:r.length<=4294967296):c r=ai/\v r=lG.val r:=by
 refine out r ?_;unfold vo b lG.val;have gC:∀a b c,lH.v a b c=ki.v a b c:=λ_ _ _=>rfl
 have key:=gJ (lG.el r) r.length (λm (i:aE)=>l2 Lib.cJ (λ(y5:aU) (_:aQ) (_ _:ax) (_:aQ)=>ah y5) (λ(_:aU) (_:aQ) (_ _:ax) (DR:aQ)=>ah (decide ((DR.length:ax)<=30))) m ak r (r.length:ax) (i:ax) r) (ah ak) (ah (decide ((r.length:ax)<=30)))
  (λm i hi hp=>by
   unfold lG.el at hp;simp only[aM]at hp;obtain⟨h1,h2,h3,h4⟩:=hp;have h3:decide (0<=bE (ar r i (1+1))/\bE (ar r i (1+1))<=((bz (ar r i 1)).size:ax))=true:=h3;have h2:decide (((bz (ar r i 1)).size:ax)>20000)=false:=by simpa using h2
   by_cases hz:0<i
   ·have e0:decide ((i:ax)>0)=true:=aG (by omega);have mR:i-1<r.length:=by omega
    have h5:b9 (aC (bz (ar r (i-1) 0))) (aC (bz (ar r i 0)))=true:=by
     rcases dJ _ _▸h4 with q|q
     ·have:i=0:=by simpa using q
      omega
     ·exact q
    simp only[l2,r2,Lib.c6,hi,mR,aN,Lib.cm,aL,au,aw,Lib.dN,gC,lG.nb,h1,h2,h3,h5,e0,lG.DF hz (by omega),aY,Lib.cS hi (by omega:r.length<=9223372036854775807)]
   ·have e0:decide ((i:ax)>0)=false:=aK (by omega);simp only[l2,r2,Lib.c6,hi,aN,Lib.cm,aL,au,aw,Lib.dN,gC,lG.nb,h1,h2,h3,e0,aY,Lib.cS hi (by omega:r.length<=9223372036854775807)])
  (λm i hi hp=>by
   unfold lG.el at hp;cases h1:decide (1<=((bz (ar r i 0)).size:ax)/\((bz (ar r i 0)).size:ax)<=8)with
   |false=>simp only[l2,r2,Lib.c6,hi,aN,Lib.cm,aL,au,aw,Lib.dN,gC,lG.nb,h1,bP]
   |true=>
   cases h2:decide (((bz (ar r i 1)).size:ax)>20000)with
   |true=>simp only[l2,r2,Lib.c6,hi,aN,Lib.cm,aL,au,aw,Lib.dN,gC,lG.nb,h1,h2,aY]
   |false=>
   cases h3:decide (0<=bE (ar r i (1+1))/\bE (ar r i (1+1))<=((bz (ar r i 1)).size:ax))with
   |false=>simp only[l2,r2,Lib.c6,hi,aN,Lib.cm,aL,au,aw,Lib.dN,gC,lG.nb,h1,h2,h3,aY,bP]
   |true=>
   rw[h1,h2,show decide (0<=bE (ar r i 2)/\bE (ar r i 2)<=((bz (ar r i 1)).size:ax))=ai from h3,bP,ba,ba,ba]at hp;rw[iH]at hp;obtain⟨h4,h5⟩:=hp;have hz:0<i:=by
    have:¬i=0:=by simpa using h4
    omega
   have e0:decide ((i:ax)>0)=true:=aG (by omega);have mR:i-1<r.length:=by omega
   simp only[l2,r2,Lib.c6,hi,mR,aN,Lib.cm,aL,au,aw,Lib.dN,gC,lG.nb,h1,h2,h3,h5,e0,lG.DF hz (by omega),aY,bP])
  (λm=>by simp only[l2,r2,Lib.c6,bk,bc,aw]) Lib.cJ (cu (by omega))
 refine key.trans ?_;rw[show decide ((r.length:ax)<=30)=decide (r.length<=30)from by rw[ca];omega];cases (b8 r.length).all (lG.el r)<;>cases decide (r.length<=30)<;>rfl
end kg

namespace sC
theorem ok(d:aQ)(n:aq)(hl:d.length<=4294967296):c d n=ai/\v d n=Lib.fi (kE.p d n) d.length 0:=by
 refine out d n ?_;unfold vo b;refine lS (kE.p d n) d.length (λm (i:aE)=>l2 Lib.cJ (λ(_:aQ) (_:aq) (y7 _ _:ax)=>ah y7) (λ(_:aQ) (_:aq) (_ _ _:ax)=>ah (-1)) m d n 0 (d.length:ax) (i:ax)) ah (λm i hi hp=> ?_) (λm i hi hp=> ?_) (λm=> ?_) Lib.cJ (cu (by omega))
 ·unfold kE.p at hp;simp only[l2,r2,Lib.c6,Lib.cm,Lib.dN,hi,aN,aL,au,K4.v,hp]
 ·unfold kE.p at hp;simp only[l2,r2,Lib.c6,Lib.cm,Lib.dN,hi,aN,aL,au,K4.v,hp,aw,Lib.cS hi (by omega:d.length<=9223372036854775807)]
 ·simp only[l2,r2,Lib.c6,bk,bc,aw]
end sC

namespace ik
theorem ok(d:aQ)(n:aq)(hl:d.length<=4294967296):c d n=ai/\v d n=Lib.fi (kE.p d n) d.length 0:=by have h:=sC.ok d n hl;exact out d n (by unfold vo b;rw[h.1,h.2,au])
end ik

namespace tq
theorem ok(d:aQ)(h:d.length<=1000000000):c d=ai/\v d=d:=by refine out d ?_;unfold vo b;rw[Lib.rU,Lib.ch (by omega) (by omega)];rfl
end tq

namespace m7
open Lib (rd Fi)
open dG (without)
theorem ok(l:az Fi)(n:aq)(hl:l.length<=1000000):c (rd l) n=ai/\v (rd l) n=rd (without l n):=by have h1:=tq.ok (rd l) (by rw[eg];omega);have h2:=xB.ok (rd l) n (dG.ajG l) (by rw[eg];omega);exact out _ _ (by unfold vo b;rw[h1.1,h1.2,h2.1,h2.2,dG.anN];rfl)
end m7

namespace lr
open Lib (rd Fi)
open dG (without put WR)
def nw(n t:aq)(k:ax):az CV:=[CV.s n,CV.s t,CV.i ao k]
def pn(n:aq)(y:az CV):aU:=b9 (aC (bz (y.getD 0 (.b ak)))) (aC n)
theorem ok(l:az Fi)(n t:aq)(k:ax)(hs:WR l)(hl:l.length<=1000000):c (rd l) n t k=ai/\v (rd l) n t k=rd (put l ⟨n,t,k⟩):=by
 refine out _ _ _ _ ?_;have hd:=m7.ok l n hl;unfold vo b;rw[hd.1,hd.2,au];have FH:=dG.ME l n;have e1:(without l n).filter (λx=>gd.fc x.n n)=l.filter λx=>gd.fc x.n n:=by
  unfold without;rw[pM];apply jv;intro y _;by_cases h:y.n=n
  ·rw[h,dG.irrefl];rfl
  ·rw[aK h];simp
 have e2:(without l n).filter (λx=> !gd.fc x.n n)=l.filter λx=> !(gd.fc x.n n||decide (x.n=n)):=by unfold without;rw[pM];apply jv;intro y _;cases gd.fc y.n n<;>cases decide (y.n=n)<;>rfl
 have htw:=Lib.Ad (λx:Fi=>gd.fc x.n n) (λx=> !gd.fc x.n n) (without l n) (λ_ _=>rfl) ((dG.aeK hs n).imp λ{y z} hyz hz=>lU.pk _ _ _ hyz hz);rw[e1,e2]at htw;generalize without l n=o at FH htw
 have:=ue (pn n) (rd o) (λm (i:aE)=>l3 Lib.cJ (λ(y5:ax) (y6 y7:aq) (y8:ax) (y9:aQ)=>bif(decide (0<=y5)&&decide (y5<=(↑(bS y9):ax))&&cw (bS y9+bS (aD (aP [Ck.s,Ck.s,Ck.i ao] 1) 0 [CV.s y6,CV.s y7,CV.i ao y8])) 40)then(ah (Pu.tN y9 (aZ y5) (aD (aP [Ck.s,Ck.s,Ck.i ao] 1) 0 [CV.s y6,CV.s y7,CV.i ao y8])))else(aj)) m (i:ax) n t k (rd o))
  (λa=>bif decide ((a:ax)<=((rd o).length:ax))then ah (Pu.tN (rd o) a [nw n t k])else aj)
  (λm i h hp=>by
   have mR:b9 (aC (bz (ar (rd o) i 0))) (aC n)=true:=by rw[Lib.cK h];exact hp
   simp only[l3,r3,Lib.c6,h,aN,Lib.cm,aL,au,Lib.dN,mR,Lib.cS h (by rw[eg];omega:(rd o).length<=9223372036854775807)])
  (λm i h hp=>by
   have mR:b9 (aC (bz (ar (rd o) i 0))) (aC n)=false:=by rw[Lib.cK h];exact hp
   simp only[l3,r3,Lib.c6,h,aN,Lib.cm,aL,ba,iL,au,aw,Lib.dN,mR,Lib.ja,bC,Lib.ch (n:=(rd o).length+1) (b:=40) (by rw[eg];omega) (by rw[eg];omega)];rfl)
  (λm=>by simp only[l3,r3,Lib.c6,bk,bc,aN,Lib.cm,aL,ba,iL,au,aw,Lib.dN,Lib.ja,bC,Lib.ch (n:=(rd o).length+1) (b:=40) (by rw[eg];omega) (by rw[eg];omega)];rfl) Lib.cJ (cu (by rw[eg];omega))
 refine this.trans ?_;have hle:=F9 (pn n) (rd o);rw[aG (by omega),au];unfold Pu.tN;rw[yF,xH];have e3:pn n∘Fi.row=λx:Fi=>gd.fc x.n n:=rfl;unfold Lib.rd;rw[Pf,Pc,e3,htw.1,htw.2];unfold put;rw[dh,dh];rfl
end lr

namespace rL
open Lib (rd el Fi)
open dG (without put WR sU act HX j5)
def res(o:aA (az Fi)):aQ×aU:=match o with|some d=>(rd d,ai)|none=>([],ak)
theorem find(l:az Fi)(n:aq):(Lib.fi (kE.p (rd l) n) l.length 0= -1/\l.find? (λx=>decide (x.n=n))=aj)\/∃i,i<l.length/\Lib.fi (kE.p (rd l) n) l.length 0=(i:ax)/\l.find? (λx=>decide (x.n=n))=ah (el l i):=by
 have hq:∀i (hi:i<l.length),kE.p (rd l) n i=decide (l[i].n=n):=λi hi=>by unfold kE.p;rw[Kf hi];exact Lib.eN
 rcases Lib.py (kE.p (rd l) n) l.length 0 with ⟨e,ha⟩|⟨k,_,hk,e,hp,hb⟩
 ·refine .inl ⟨e,Xx.2 λx hx=> ?_⟩;obtain⟨i,hi,rfl⟩:=c8 hx;rw[<-hq i hi,ha i (by omega) (by omega)];simp
 ·have vv:k<l.length:=by omega
  refine .inr ⟨k,vv,e, ?_⟩;rw[AW];exact⟨by rw[eG vv,<-hq k vv];exact hp,k,vv,(eG vv).symm,λj hj=>by rw[<-hq j (by omega),hb j (by omega) hj];rfl⟩
theorem ZW(d:az Fi)(h:d.length<=1000000):kg.c (rd d)=ai/\kg.v (rd d)=sU d:=kg.ok (rd d) (by rw[eg];omega)
theorem SP(k:ax)(n t o:aq):K5.v k n t o=dG.kj k t o:=by
 unfold K5.v dG.kj lH.v;rw[Lib.eN,Lib.eN];by_cases h1:1<=k
 ·by_cases h2:k<=4
  ·rw[aG h1,aG h2,aG (⟨h1,h2⟩:1<=k/\k<=4)];cases decide (t=⟨#[]⟩)<;>cases decide (o=⟨#[]⟩)<;>cases decide (k=1)<;>cases decide (k=3)<;>rfl
  ·rw[aG h1,aK h2,aK (show¬(1<=k/\k<=4)by omega)];rfl
 ·rw[aK h1,aK (show¬(1<=k/\k<=4)by omega)];rfl
theorem ok(l:az Fi)(k:ax)(n t o:aq)(hl:l.length<=1000)(ht:t.size<=2305843009213693952):c (rd l) k n t o=ai/\v (rd l) k n t o=res (act l k n t o):=by
 refine out _ _ _ _ _ ?_;unfold vo b h0;have h1:=ik.ok (rd l) n (by rw[eg];omega);have h2:=ZW l (by omega);rw[h1.1,h1.2,h2.1,h2.2,SP,au,au,eg];unfold act;cases hk:sU l with
 |false=>rfl
 |true=>
 rw[aY,aw,ba];obtain⟨q1,q2,q3⟩:=j5.1 hk;cases ha:dG.kj k t o with
 |false=>rfl
 |true=>
 rw[aY,aw,au];have hk4:1<=k/\k<=4:=by unfold dG.kj at ha;rw[aM]at ha;exact cq ha.1
 have wp:=λ(m:az Fi) (hm:WR m) (hml:m.length<=1000) (n t:aq) (k:ax)=>lr.ok m n t k hm (by omega);have wo:=m7.ok l n (by omega);have wol:=dG.ME l n;have pl:=λ(m:az Fi) (f:Fi) (hm:m.length<=1000)=>ZW (put m f) (dg (dG.sa f) (by omega));have fin:∀d:az Fi,(bif !sU d then ah (([]:aQ),ak)else ah (rd d,ai))=ah (res (bif sU d then ah d else aj)):=λd=>by cases sU d<;>rfl
 unfold HX;rcases find l n with ⟨e1,e2⟩|⟨i,hi,e1,e2⟩
 ·rw[e1,e2];by_cases k1:k=1
  ·subst k1;have p:=wp l q3 hl n (⟨#[]⟩++t) 0;have d:=pl l ⟨n,⟨#[]⟩++t,0⟩ hl;have et:(⟨#[]⟩:aq)++t=t:=lW;rw[show decide ((-1:ax)<0)=ai from rfl,show decide ((-1:ax)≥0)=ak from rfl,show((1:ax) !=1)=ak from rfl,au,aw,aw,aG (show(1:ax)=1 from rfl),au,aG (show(⟨#[]⟩:aq).size+t.size<=4611686018427387904 from by rw[show(⟨#[]⟩:aq).size=0 from rfl];omega),au,p.1,p.2,au,d.1,d.2,au,fin,et];rfl
  ·rw[show decide ((-1:ax)<0)=ai from rfl,au,show(k !=1)=ai from bne_iff_ne.2 k1,au,bJ k1];rfl
 ·have hf:(el l i).n=n:=by have:=vn e2;exact cq this
  have xR:((el l i).t.size:ax)<=20000:=by have:=q2 _ (jY hi);unfold dG.nM at this;simp only[aM,bh,dp,e_]at this;omega
  rw[e1,e2,aK (show¬((i:aE):ax)<0 by omega),aG (show((i:aE):ax)≥0 by omega),aw,au];simp only[Lib.c6,hi,aN,Lib.dN,wd0 hi,wd1 hi,wd2 hi,bz,bE,aL,ba,au];by_cases k1:k=1
  ·subst k1;have p:=wp l q3 hl (el l i).n ((el l i).t++t) (el l i).kp;have d:=pl l ⟨(el l i).n,(el l i).t++t,(el l i).kp⟩ hl;rw[aG (show(1:ax)=1 from rfl),au,aG (show(el l i).t.size+t.size<=4611686018427387904 by omega),au,p.1,p.2,au,d.1,d.2,au,fin];rfl
  rw[aK k1,aw,bJ k1];by_cases k2:k=2
  ·subst k2;have p:=wp l q3 hl (el l i).n (el l i).t ((el l i).t.size:ax);have d:=pl l ⟨(el l i).n,(el l i).t,((el l i).t.size:ax)⟩ hl;rw[aG (show(2:ax)=2 from rfl),au,p.1,p.2,au,d.1,d.2,au,fin];rfl
  rw[aK k2,aw,bJ k2];by_cases k3:k=3
  ·subst k3;rw[aG (show(3:ax)=3 from rfl),au,bA rfl];by_cases b1:(el l i).kp=((el l i).t.size:ax)
   ·rw[show((el l i).kp !=((el l i).t.size:ax))=ak from by simp[b1],aw,Lib.eN];by_cases b2:o=n
    ·rw[aG b2,au,bA (.inr b2)];rfl
    ·have p:=wp (without l n) (dG.aeK q3 n) (by omega) o (el l i).t (el l i).kp;have d:=pl (without l n) ⟨o,(el l i).t,(el l i).kp⟩ (by omega);rw[aK b2,aw,wo.1,wo.2,au,p.1,p.2,au,d.1,d.2,au,fin,bJ (by rintro (h|h);exact h b1;exact b2 h)]
   ·rw[show((el l i).kp !=((el l i).t.size:ax))=ai from bne_iff_ne.2 b1,au,bA (.inl b1)];rfl
  rw[aK k3,aw,bJ k3];have d:=ZW (without l n) (by omega);rw[wo.1,wo.2,au,d.1,d.2,au,fin]
end rL

namespace wZ
theorem ok(l:aQ)(hl:l.length<=4294967296):c l=ai/\v l=l:=by refine out l ?_;unfold vo b;rw[show bS (aP [Ck.s,Ck.i ao,Ck.i ao,Ck.s] 0)+l.length=l.length by simp[aP],Lib.ch (by omega) (by omega)];rfl
end wZ

namespace pP
theorem ok(l:aQ)(k:aq)(hc:l.all pf.cn=ai)(hl:l.length<=4294967296):c l k=ai/\v l k=l.filter (pf.keep k):=by have h1:=wZ.ok l hl;have h2:=pf.ok l k hc hl;exact out l k (by unfold vo b;rw[h1.1,h1.2,h2.1,h2.2,au,au])
end pP

namespace u9
theorem Ad(p q:az CV->aU):∀r:aQ,(∀y∈r,q y= !p y)->r.Pairwise (λy z=>p z=ai->p y=ai)->r.takeWhile p=r.filter p/\r.dropWhile p=r.filter q
 |[],_,_=>⟨rfl,rfl⟩
 |y::r,hq,h=>by
  rw[qE]at h;have hy:=hq y (by simp);cases hp:p y with
  |true=>rw[hp]at hy;obtain⟨i1,i2⟩:=Ad p q r (λz hz=>hq z (by simp[hz])) h.2;rw[qk hp,dB hp,List.dropWhile_cons_of_pos hp,cC (by rw[hy];simp),i1,i2];exact⟨rfl,rfl⟩
  |false=>
   rw[hp]at hy;have hn:¬p y=true:=by rw[hp];simp
   have ha:∀z∈r,p z=false:=λz hz=>by
    cases Eu:p z with
    |false=>rfl
    |true=>exact cL (h.1 z hz Eu) hn
   rw[qj hn,cC hn,List.dropWhile_cons_of_neg hn,dB (by rw[hy];rfl)];refine⟨?_, ?_⟩
   ·symm;rw[List.filter_eq_nil_iff];intro z hz;rw[ha z hz];simp
   ·congr 1;symm;rw[eD];intro z hz;rw[hq z (by simp[hz]),ha z hz];rfl
theorem afp{r:aQ}(h:∀y∈r,lU.cr y=y):r.all pf.cn=true:=by rw[bu];intro y hy;rw[<-h y hy];rfl
theorem ok(r:aQ)(k:aq)(s l:ax)(b0:aq)(hO:lU.Or r)(hl:r.length<=1048576):c r k s l b0=ai/\v r k s l b0=lU.val r k s l b0:=by
 refine out r k s l b0 ?_;have hd:=pP.ok r k (afp hO.2) (by omega);unfold vo b;rw[hd.1,au,hd.2];have PR:(r.filter (pf.keep k)).length<=r.length:=eS _ _;have hke:∀y,pf.keep k y= !List.beq (lU.key y) (aC k):=λ_=>rfl;have htw:=Ad (lU.pl k) (lU.pg k) (r.filter (pf.keep k)) (λy hy=>by
  have h2:=(dm.1 hy).2;rw[hke]at h2;have h3:bW (lU.key y) (aC k)=false:=by simpa using h2
  unfold lU.pg lU.pl;rw[h3,Bool.or_false]) ((hO.1.sublist jQ).imp (λ{y z} hyz hz=>lU.pk _ _ _ hyz hz))
 have e1:(r.filter (pf.keep k)).filter (lU.pl k)=r.filter (lU.pl k):=by
  rw[pM];apply jv;intro y _;cases h:lU.pl k y with
  |false=>rfl
  |true=>
   rw[hke,ba];cases h2:bW (lU.key y) (aC k)with
   |false=>rfl
   |true=>exfalso;have h3:=Lib.beq_iff.1 h2;unfold lU.pl at h;rw[h3,lU.oZ]at h;cases h
 have e2:(r.filter (pf.keep k)).filter (lU.pg k)=r.filter (lU.pg k):=by rw[pM];apply jv;intro y _;rw[hke];unfold lU.pg;cases bW (lU.key y) (aC k)<;>cases b9 (lU.key y) (aC k)<;>rfl
 generalize r.filter (pf.keep k)=o at PR htw e1 e2
 have:=ue (lU.pl k) o (λm (i:aE)=>l3 Lib.cJ (λ(y6:ax) (y7:aq) (y8 y9:ax) (KK:aq) (wC:aQ)=>bif(decide (0<=y6)&&decide (y6<=(↑(bS wC):ax))&&cw (bS wC+bS (aD (aP [Ck.s,Ck.i ao,Ck.i ao,Ck.s] 1) 0 [CV.s y7,CV.i ao y8,CV.i ao y9,CV.s KK])) 48)then(ah (Pu.tN wC (aZ y6) (aD (aP [Ck.s,Ck.i ao,Ck.i ao,Ck.s] 1) 0 [CV.s y7,CV.i ao y8,CV.i ao y9,CV.s KK])))else(aj)) m (i:ax) k s l b0 o)
  (λa=>bif decide ((a:ax)<=(o.length:ax))then ah (Pu.tN o a [lU.nw k s l b0])else aj)
  (λm i h hp=>by
   have mR:b9 (aC (bz (ar o i 0))) (aC k)=true:=by rw[Lib.cK h];exact hp
   simp only[l3,r3,Lib.c6,h,aN,Lib.cm,aL,au,Lib.dN,mR,Lib.cS h (by omega:o.length<=9223372036854775807)])
  (λm i h hp=>by
   have mR:b9 (aC (bz (ar o i 0))) (aC k)=false:=by rw[Lib.cK h];exact hp
   simp only[l3,r3,Lib.c6,h,aN,Lib.cm,aL,ba,iL,au,aw,Lib.dN,mR,Lib.ja,bC,Lib.ch (n:=o.length+1) (b:=48) (by omega) (by omega)];rfl)
  (λm=>by simp only[l3,r3,Lib.c6,bk,bc,aN,Lib.cm,aL,ba,iL,au,aw,Lib.dN,Lib.ja,bC,Lib.ch (n:=o.length+1) (b:=48) (by omega) (by omega)];rfl) Lib.cJ (cu (by omega))
 refine this.trans ?_;have hle:=F9 (lU.pl k) o;rw[aG (by omega),au];unfold Pu.tN lU.val;rw[yF,xH,htw.1,htw.2,e1,e2,lU.HU hO.2,lU.HU hO.2]
end u9

namespace u6
theorem ok(d:aQ)(n:aq)(hl:d.length<=4294967296):c d n=ai/\v d n=wb.val d n:=by
 refine out d n ?_;have h:=ik.ok d n hl;unfold vo b wb.val;rw[h.1,h.2,au];by_cases hn:Lib.fi (kE.p d n) d.length 0<0
 ·rw[aG hn,bA hn];rfl
 ·have hr:=wb.EC d n hn;rw[aK hn,bJ hn,aw,aG hr.1,aG hr.2];rfl
end u6

namespace Bv
def nm:aq:={data:= #[ay 107,ay 101,ay 112,ay 116]}
theorem both(rec:aQ)(hr:rec.length<=20000):∀(d i:aE) (o:aQ) (n m:aE),rec.length-i<=d->i<=rec.length->lU.Or o->o.length<=i->d<n->d<m->
  ∃L:aQ,U61.l7 Lib.cJ (λ(_ _:ax) (y6:aQ) (_:aQ)=>ah y6) n (rec.length:ax) (i:ax) o rec=ah L/\l7 Lib.cJ (λ(_:ax) (y4 _:aQ)=>ah y4) m (i:ax) o rec=ah L/\lU.Or L/\L.length<=20000:=by
 have e1:∀t,vZ.v t=rM.v t:=λ_=>rfl;intro d;induction d with
 |zero=>
  intro i o n m h1 h2 hO h3 h4 h5;obtain⟨n,rfl⟩:∃n',n=n'+1:=⟨n-1,by omega⟩
  obtain⟨m,rfl⟩:∃m',m=m'+1:=⟨m-1,by omega⟩
  have jt:decide ((i:ax)<(rec.length:ax))=false:=aK (by omega);exact⟨o,by simp only[U61.l7,U61.r7,jt,aw],by simp only[l7,r7,jt,aw],hO,by omega⟩
 |succ d ih=>
  intro i o n m h1 h2 hO h3 h4 h5;obtain⟨n,rfl⟩:∃n',n=n'+1:=⟨n-1,by omega⟩
  obtain⟨m,rfl⟩:∃m',m=m'+1:=⟨m-1,by omega⟩
  by_cases hi:i<rec.length
  ·have hw:bG ((i:ax)+1)=((i+1:aE):ax):=c_ (by omega) (by omega);cases cg:(rM.v (bz (ar rec i 0))).2.2.2.2 with
   |false=>
    obtain⟨L,g1,g2,g3,g4⟩:=ih (i+1) o n m (by omega) hi hO (by omega) (by omega) (by omega);refine⟨L, ?_, ?_,g3,g4⟩
    ·simp only[U61.l7,U61.r7,Lib.c6,hi,aN,Lib.cm,aL,au,Lib.dN,e1,cg,aw,hw];exact g1
    ·simp only[l7,r7,Lib.c6,hi,aN,Lib.cm,aL,au,Lib.dN,cg,aw,hw];exact g2
   |true=>
    have p1:=lU.ok o (rM.v (bz (ar rec i 0))).1 (rM.v (bz (ar rec i 0))).2.1 (rM.v (bz (ar rec i 0))).2.2.1 (rM.v (bz (ar rec i 0))).2.2.2.1 (by omega);have p2:=u9.ok o (rM.v (bz (ar rec i 0))).1 (rM.v (bz (ar rec i 0))).2.1 (rM.v (bz (ar rec i 0))).2.2.1 (rM.v (bz (ar rec i 0))).2.2.2.1 hO (by omega);have p3:=lU.xW hO (rM.v (bz (ar rec i 0))).1 (rM.v (bz (ar rec i 0))).2.1 (rM.v (bz (ar rec i 0))).2.2.1 (rM.v (bz (ar rec i 0))).2.2.2.1;obtain⟨L,g1,g2,g3,g4⟩:=ih (i+1) _ n m (by omega) hi p3.1 (by omega) (by omega) (by omega);refine⟨L, ?_, ?_,g3,g4⟩
    ·simp only[U61.l7,U61.r7,Lib.c6,hi,aN,Lib.cm,aL,au,Lib.dN,e1,cg,p2.1,p2.2,hw];exact g1
    ·simp only[l7,r7,Lib.c6,hi,aN,Lib.cm,aL,au,Lib.dN,cg,p1.1,p1.2,hw];exact g2
  ·have jt:decide ((i:ax)<(rec.length:ax))=false:=aK (by omega);exact⟨o,by simp only[U61.l7,U61.r7,jt,aw],by simp only[l7,r7,jt,aw],hO,by omega⟩
theorem same(d:aQ)(hd:d.length<=1048576):∃L:aQ,(c d=ai/\v d=L)/\(U61.c d=ai/\U61.v d=L)/\(∀y∈L,y.length=4)/\L.length<=20000:=by
 have k1:=lG.ok d (by omega);have k2:=kg.ok d (by omega);cases hv:lG.val d with
 |false=>
  refine⟨[],out d ?_,U61.out d ?_,λy hy=>(by cases hy),bD _⟩
  ·unfold vo b;rw[k1.1,k1.2,hv];rfl
  ·unfold U61.vo U61.b;rw[k2.1,k2.2,hv];rfl
 |true=>
  have k3:=wb.ok d nm (by omega);have k4:=u6.ok d nm (by omega);obtain⟨R,u1,u2,u3⟩:=Iy.same (wb.val d nm).1;obtain⟨L,g1,g2,g3,g4⟩:=both R.1 u3 R.1.length 0 [] Lib.cJ Lib.cJ (by omega) (bD _) ⟨gg,λy hy=>(by cases hy)⟩ (bD _) (cu (by omega)) (cu (by omega));refine⟨L,out d ?_,U61.out d ?_,λy hy=>(by rw[<-g3.2 y hy];rfl),g4⟩
  ·unfold nm at k3 u1;unfold vo b;rw[k1.1,k1.2,hv,au,aY,aw,k3.1,au,k3.2,u1.1,au,u1.2];exact g2
  ·unfold nm at k4 u2;unfold U61.vo U61.b;rw[k2.1,k2.2,hv,au,aY,aw,k4.1,au,k4.2,u2.1,au,u2.2];exact g1
end Bv

namespace ve
def kept:aq:={data:= #[ay 107,ay 101,ay 112,ay 116]}
def kl(f:aq):aQ:=[[CV.i ao 1,CV.s kept,CV.s f,CV.s {data:= #[]}],[CV.i ao 2,CV.s kept,CV.s {data:= #[]},CV.s {data:= #[]}]]
def val(k:aq)(s l:ax)(b:aq):aQ×aU:=if m8.v k s l b=ai then(kl (fH.fr (jK.s5 k s l b)),ai)else([],ak)
theorem ok(k:aq)(s l:ax)(b0:aq):c k s l b0=ai/\v k s l b0=val k s l b0:=by
 refine out k s l b0 ?_;have hf:=mZ.ok k s l b0;unfold vo b val;rw[hf.1,hf.2];unfold mZ.val;by_cases h:m8.v k s l b0=ai
 ·rw[bA h,bA h];rfl
 ·rw[bJ h,bJ h];rfl
end ve

namespace iB
open Lib (rd re rs el Fi En)
open dG (sU j5 act kl HX put without ra Ac nM)
open gd (So mE fc)
open Xf (fs Stop)
abbrev qZ:aq:={data:= #[ay 107,ay 101,ay 112,ay 116]}
def s5(e:En):aq:=jK.s5 e.k e.st e.li e.bo
def Ft(e:En):aU:=m8.v e.k e.st e.li e.bo
def IE(e:En):aq:=fH.fr (s5 e)
def tx(es:az En):aq:=fs (es.map s5)
def kp(es:az En):az En:=es.foldl mE []
theorem HQ(es:az En)(e:En):kp (es++[e])=mE (kp es) e:=by unfold kp;rw[kX];rfl
theorem afC(a b:az aq):fs (a++b)=fs a++fs b:=by
 induction a with
 |nil=>exact lW.symm
 |cons x a ih=>rw[Cd];show fH.fr x++fs (a++b)=fH.fr x++fs a++fs b;rw[ih,DI]
theorem aau(es:az En)(e:En):tx (es++[e])=tx es++IE e:=by unfold tx;rw[dh,afC];show fs (es.map s5)++(fH.fr (s5 e)++⟨#[]⟩)=_;rw[show(⟨#[]⟩:aq)=Iv from rfl,qA];rfl
theorem aav{e:En}(h:Ft e=ai):1<=(s5 e).size/\(s5 e).size<=1000:=⟨mZ.BU h,mZ.ug h⟩
theorem wz{en:az En}(h:So en)(e:En):So (mE en e):=by have:=(lU.xW (gd.C_ h) e.k e.st e.li e.bo).1.1;rw[gd.t_]at this;unfold Lib.re at this;rw[kY]at this;exact this
theorem aal(es:az En):∀o,So o->So (es.foldl mE o):=by
 induction es with
 |nil=>intro o h;exact h
 |cons e es ih=>intro o h;exact ih _ (wz h e)
theorem ak0(es:az En):So (kp es):=aal es [] gg
theorem j6{en:az En}{x e:En}:x∈mE en e↔x=e\/(x∈en/\x.k≠e.k):=by
 unfold mE;simp only[bf,dm,a_,dp,iH,e_];constructor
 ·rintro ((⟨h1,h2⟩|rfl)|⟨h1,h2⟩)
  ·refine .inr ⟨h1,λe2=> ?_⟩;rw[e2]at h2;unfold fc at h2;rw[lU.oZ]at h2;cases h2
  ·exact .inl rfl
  ·exact .inr ⟨h1,h2.2⟩
 ·rintro (rfl|⟨h1,h2⟩)
  ·exact .inl (.inr rfl)
  ·cases hl:fc x.k e.k with
   |true=>exact .inl (.inl ⟨h1,rfl⟩)
   |false=>exact .inr ⟨h1,rfl,h2⟩
theorem LV{es:az En}{x:En}(h:x∈kp es):x∈es:=by
 have:∀(es o:az En),x∈es.foldl mE o->x∈o\/x∈es:=by
  intro es;induction es with
  |nil=>intro o h;exact .inl h
  |cons e es ih=>
   intro o h;rcases ih _ h with h|h
   ·rcases j6.1 h with rfl|h
    ·exact .inr (by simp)
    ·exact .inl h.1
   ·exact .inr (by simp[h])
 rcases this es [] h with h|h
 ·cases h
 ·exact h
theorem HO(es:az En):(kp es).length<=es.length:=by
 have:∀(es o:az En),So o->(es.foldl mE o).length<=o.length+es.length:=by
  intro es;induction es with
  |nil=>intro o h;exact cG _
  |cons e es ih=>intro o h;have:=ih _ (wz h e);have:=gd.sa o e h;simp only[DX,dc];omega
 have:=this es [] gg;rw[jR,bX]at this;exact this
theorem fileAt(d:az Fi)(n:aq):wb.val (rd d) n=match d.find? (λx=>decide (x.n=n))with|some f=>(f.t,ai)|none=>(⟨#[]⟩,ak):=by
 unfold wb.val;rw[eg];rcases rL.find d n with ⟨e1,e2⟩|⟨i,hi,e1,e2⟩
 ·rw[e1,e2];rfl
 ·rw[e1,e2,bJ (by omega),dK,wd1 hi];rfl
theorem axf(es:az En)(he:∀e∈es,Ft e=ai)(hl:es.length<=20000):∀(d i n:aE) (o:az En),es.length-i<=d->i<=es.length->So o->o.length<=i->d<n->
  U61.l7 Lib.cJ (λ(_ _:ax) (y6:aQ) (_:aQ)=>ah y6) n (es.length:ax) (i:ax) (re o) (rs (es.map s5))=ah (re ((es.drop i).foldl mE o)):=by
 have e1:∀t,vZ.v t=rM.v t:=λ_=>rfl;intro d;induction d with
 |zero=>
  intro i n o h1 h2 hO h3 h5;obtain⟨n,rfl⟩:∃n',n=n'+1:=⟨n-1,by omega⟩
  have:i=es.length:=by omega
  subst this;simp only[U61.l7,U61.r7,Lib.c6,bk,bc,aw,di,Xy]
 |succ d ih=>
  intro i n o h1 h2 hO h3 h5;obtain⟨n,rfl⟩:∃n',n=n'+1:=⟨n-1,by omega⟩
  by_cases hi:i<es.length
  ·have sE:i<(es.map s5).length:=by simpa using hi
   have hk:=he _ (bB hi);have hr:rM.v (s5 es[i])=(es[i].k,es[i].st,es[i].li,es[i].bo,ai):=rM.enc _ _ _ _ hk;have hp:=u9.ok (re o) es[i].k es[i].st es[i].li es[i].bo (gd.C_ hO) (by rw[de];omega);rw[gd.t_ o es[i]]at hp;have hg:(es.map s5)[i]=s5 es[i]:=by simp
   simp only[U61.l7,U61.r7,Lib.c6,hi,eJ,bV,aN,Lib.cm,aL,au,Lib.dN,Xc sE,hg,bz,e1,hr,hp.1,hp.2,Lib.cS hi (by omega:es.length<=9223372036854775807)];rw[dC hi,DX];exact ih (i+1) n _ (by omega) hi (wz hO _) (by have:=gd.sa o es[i] hO;omega) (by omega)
  ·have:i=es.length:=by omega
   subst this;simp only[U61.l7,U61.r7,Lib.c6,bk,bc,aw,di,Xy]
theorem fk(d:az Fi)(es:az En)(z:aq)(hd:sU d=ai)(hf:(wb.val (rd d) qZ).1=tx es++z)(he:∀e∈es,Ft e=ai)(hz:Stop z):
  (U61.c (rd d)=ai/\U61.v (rd d)=re (kp es))/\(Bv.c (rd d)=ai/\Bv.v (rd d)=re (kp es)):=by
 obtain⟨q1,q2,q3⟩:=j5.1 hd;have hs:(tx es++z).size<=20000:=by
  rw[<-hf,fileAt];cases h:d.find? (λx=>decide (x.n=qZ))with
  |none=>exact bD _
  |some f=>have:=q2 f (qD h);unfold nM at this;simp only[aM,bh,dp,e_]at this;show f.t.size<=20000;omega
 have hl:es.length<=20000:=by
  have:∀es:az En,es.length<=(tx es).size:=by
   intro es;induction es with
   |nil=>exact cG _
   |cons e es ih=>
    have:(tx (e::es)).size=(IE e).size+(tx es).size:=dH;have h2:4<=(IE e).size:=by unfold IE fH.fr;rw[dH,dH,Xf.o4];omega
    rw[this,dc];omega
  have h2:=this es;rw[dH]at hs;omega
 have u:=Xf.ok (es.map s5) (λx hx=>by obtain⟨e,h,rfl⟩:=cU.1 hx;have:=aav (he e h);omega) z hz hs;have k2:=rL.ZW d (by omega);have k4:=u6.ok (rd d) qZ (by rw[eg];omega);have h1:=U61.out (rd d) (x:=re (kp es)) (by unfold U61.vo U61.b;rw[k2.1,k2.2,hd,au,aY,aw,k4.1,au,k4.2,hf];have hu:=u.1;rw[show fs (es.map s5)=tx es from rfl]at hu;rw[hu.1,au,hu.2];dsimp only;rw[eJ,bV];have:=axf es he hl es.length 0 Lib.cJ [] (by omega) (bD _) gg (bD _) (cu (by omega));rw[fg]at this;exact this);obtain⟨L,s1,s2,_⟩:=Bv.same (rd d) (by rw[eg];omega);refine⟨h1,s1.1, ?_⟩
 rw[s1.2,<-s2.2,h1.2]
def base:aA aq->az Fi
 |none=>[]|some t=>[⟨qZ,t,t.size⟩]
def bt:aA aq->aq|none=>⟨#[]⟩|some t=>t
def sG(f:aq):az Ac:=[⟨1,qZ,f,⟨#[]⟩⟩,⟨2,qZ,⟨#[]⟩,⟨#[]⟩⟩]
theorem ok1(f:Fi):sU [f]=nM f:=by
 cases h:nM f with
 |true=>exact j5.2 ⟨by simp,λg hg=>by rw[a_.1 hg];exact h,by unfold dG.WR;simp⟩
 |false=>
  cases h2:sU [f]with
  |false=>rfl
  |true=>have:=(j5.1 h2).2.1 f (by simp);rw[h]at this;cases this
theorem afB(t:aq)(k:ax)(h1:t.size<=20000)(h2:0<=k/\k<=(t.size:ax)):nM ⟨qZ,t,k⟩=true:=by unfold nM;have:((qZ.size:aE):ax)=4:=rfl;rw[this,aG (by omega),aG h2,aK (by dsimp only;omega)];rfl
theorem uD{o:aA aq}(h:(bt o).size<=20000):sU (base o)=true:=by
 cases o with
 |none=>exact j5.2 ⟨bD _,⟨λf hf=>(by cases hf),gg⟩⟩
 |some t=>exact(ok1 _).trans (afB t _ h ⟨by omega,by omega⟩)
theorem yo{g f:Fi}(h:g.n=f.n):put [g] f=[f]:=by unfold put;rw[cC (by rw[h,dG.irrefl];simp),cC (by simp[h])];rfl
theorem ae9{o:aA aq}{f:aq}(h:(bt o).size+f.size<=20000):act (base o) 1 qZ f ⟨#[]⟩=ah [⟨qZ,bt o++f,(bt o).size⟩]:=by
 unfold act;rw[uD (by omega),show dG.kj 1 f ⟨#[]⟩=ai from by unfold dG.kj;simp,aL,au];have hs:(bt o++f).size<=20000:=by rw[dH];omega
 have hn:HX (base o) 1 qZ f ⟨#[]⟩=ah [⟨qZ,bt o++f,(bt o).size⟩]:=by
  cases o with
  |none=>unfold HX;show(if(1:ax)=1 then ah (put [] ⟨qZ,f,0⟩)else aj)=_;rw[bA rfl];show ah [(⟨qZ,f,0⟩:Fi)]=ah [⟨qZ,(⟨#[]⟩:aq)++f,((⟨#[]⟩:aq).size:ax)⟩];rw[show(⟨#[]⟩:aq)++f=f from lW];rfl
  |some t=>unfold HX;rw[show(base (ah t)).find? (λx=>decide (x.n=qZ))=ah ⟨qZ,t,t.size⟩from by unfold base;simp];dsimp only;rw[bA rfl];exact lV ah (yo rfl)
 rw[hn];dsimp only;rw[ok1,afB _ _ hs ⟨by omega,by rw[dH];omega⟩];rfl
theorem YE{t:aq}{k:ax}(h:t.size<=20000)(hk:0<=k/\k<=(t.size:ax)):act [⟨qZ,t,k⟩] 2 qZ ⟨#[]⟩ ⟨#[]⟩=ah (base (ah t)):=by
 unfold act;rw[ok1,afB _ _ h hk,show dG.kj 2 ⟨#[]⟩ ⟨#[]⟩=ai from by unfold dG.kj;simp,aL,au];have hn:HX [⟨qZ,t,k⟩] 2 qZ ⟨#[]⟩ ⟨#[]⟩=ah (base (ah t)):=by unfold HX;rw[show([⟨qZ,t,k⟩]:az Fi).find? (λx=>decide (x.n=qZ))=ah ⟨qZ,t,k⟩from by simp];dsimp only;rw[bJ (by omega),bA rfl];exact lV ah (yo rfl)
 rw[hn];dsimp only;rw[uD (o:=ah t) h];rfl
theorem T_{o:aA aq}{f:aq}(h:(bt o).size+f.size<=20000):kl (base o) 0 (sG f)=(base (ah (bt o++f)),2):=by have hs:(bt o++f).size=(bt o).size+f.size:=dH;unfold sG kl;dsimp only;rw[ae9 h];dsimp only;unfold kl;dsimp only;rw[YE (by omega) ⟨by omega,by omega⟩];rfl
theorem Po(o:aA aq):(wb.val (rd (base o)) qZ).1=bt o:=by
 rw[fileAt];cases o with
 |none=>rfl
 |some t=>rw[show(base (ah t)).find? (λx=>decide (x.n=qZ))=ah ⟨qZ,t,t.size⟩from by unfold base;simp];rfl
def kd(es:az En):az Fi:=base (match es with|[]=>aj|_=>ah (tx es))
theorem awr(es:az En):∃o,kd es=base o/\bt o=tx es:=by
 cases es with
 |nil=>exact⟨aj,rfl,rfl⟩
 |cons e es=>exact⟨ah (tx (e::es)),rfl,rfl⟩
end iB

namespace e9
def has(l:az aq)(k:aq):aU:=l.any λx=>decide (x=k)
def without(l:az aq)(k:aq):az aq:=l.filter λx=> !decide (x=k)
theorem gM{l:az aq}{k:aq}:has l k=ai↔k∈l:=by unfold has;simp
theorem lT{l:az aq}{k:aq}:has l k=ak↔k∉l:=by rw[<-gM];cases has l k<;>simp
theorem wB{l:az aq}{k:aq}(h:has l k=ak):without l k=l:=by unfold without;rw[eD];intro x hx;have:=lT.1 h;simp;intro e;subst e;exact this hx
theorem iw{l:az aq}{k:aq}:(without l k).length<=l.length:=eS ..
theorem pH{l:az aq}{k:aq}(h:has l k=ai):(without l k).length<l.length:=by unfold without;refine List.length_filter_lt_length_iff_exists.2 ⟨k,gM.1 h,by simp⟩
theorem ok(l:az aq)(k:aq)(hl:l.length<=4294967296):c (Lib.rs l) k=ai/\v (Lib.rs l) k=has l k:=by
 refine out _ _ ?_;unfold vo b
 have:=Cn l (λx=>decide (x=k)) (λm (i:aE)=>l2 Lib.cJ (λ(_:aQ) (_:aq) (y6:aU) (_:ax)=>ah y6) (λ(_:aQ) (_:aq) (_:aU) (_:ax)=>ah ak) m (Lib.rs l) k ak (i:ax)) (ah ai) (ah ak)
  (λm i h hp=>by simp only[l2,r2,eJ,Lib.c6,h,aN,Lib.cm,aL,au,Lib.dN,Xc h,bz,Lib.eN,hp])
  (λm i h hp=>by simp only[l2,r2,eJ,Lib.c6,h,aN,Lib.cm,aL,au,Lib.dN,Xc h,bz,Lib.eN,hp,aw,Lib.cS h (by omega:l.length<=9223372036854775807)])
  (λm=>by simp only[l2,r2,eJ,Lib.c6,bk,bc,aw]) Lib.cJ (cu (by omega))
 refine this.trans ?_;unfold has;cases l.any λx=>decide (x=k)<;>rfl
end e9

namespace v_
theorem ok(l:aQ)(hl:l.length<=4294967296):c l=ai/\v l=l:=by refine out l ?_;unfold vo b;rw[show bS (aP [Ck.i ao] 0)+l.length=l.length by simp[aP],Lib.ch (by omega) (by omega)];rfl
end v_

namespace jq
open Lib (rr)
def oQ(s:az (az ax)):Prop:=s.length<=1048576/\∀q∈s,q.length<=1048576
theorem run(N:aE)(K0:aQ->ax->ax->ax->ax->aA R)(K1:aQ->ax->ax->ax->ax->aQ->aA R)(s:az (az ax))(z a:ax)(hf:oQ s)(m:aE)(hm:s.length+1<m)(kr:aQ->aA R)
  (h0:s=[]->K0 (rr s) 0 0 z a=kr []) (h1:K1 (rr s) s.length s.length z a (rr s)=kr (rr s)):l3 N K0 K1 m (rr s) (s.length:ax) 0 z a=kr (rr s):=by
 obtain⟨m,rfl⟩:∃m',m=m'+1:=⟨m-1,by omega⟩
 have hci:∀i (h:i<s.length),v_.c (Lib.ri s[i])=ai/\v_.v (Lib.ri s[i])=Lib.ri s[i]:=λi h=>v_.ok _ (by rw[Lib.gf];have:=hf.2 _ (bB h);omega);by_cases hs:s=[]
 ·subst hs;simp only[l3,r3,jR,WL,Int.lt_irrefl,bc,aw];exact h0 rfl
 ·have hp:0<s.length:=Nb.2 hs;have key:=ml (R:=R) s.length (λm i (x:aQ)=>sR N K0 K1 m (rr s) (s.length:ax) (i:ax) z a x) (λi=>rr (s.take i)) (kr (rr s)) (λm i h=>by
   have hl:=hf.1;simp only[sR,zZ,Lib.c6,h,aN,au,Lib.cm,ba,gO,Lib.dN,Ki h,iX,(hci i h).1,(hci i h).2,pR,bC];rw[Lib.ch (by rw[eL];omega) (by rw[eL];omega),au,Lib.cS h (by omega)];have:=o6 (λq=>[CV.l 3 (Lib.ri q)]) s i h;unfold rr;rw[<-this]) (λm=>by
   simp only[sR,zZ,Lib.c6,bk,bc,aw,dR];exact h1) m 1 hp (by omega)
  simp only[l3,r3,aG (show(0:ax)<(s.length:ax)by omega),au,aL,gO,show decide ((0:ax)<=0)=ai from rfl];have e:=hci 0 hp;have e0:=Ki (l:=s) hp;simp only[show aZ 0=0 from rfl,e0,iX,e.1,e.2,au,pR,gF];rw[show bG (0+1)=((1:aE):ax)from rfl];refine KP ?_ key;have:=o6 (λq=>[CV.l 3 (Lib.ri q)]) s 0 hp;unfold rr;rw[show(0+1)=1 from rfl]at this;rw[<-this];rfl
theorem ok(s:az (az ax))(a:ax)(hf:oQ s):c (rr s) a=ai/\v (rr s) a=(rr s,a):=by refine out _ _ ?_;unfold vo b;rw[gO];exact run Lib.cJ (λ_ _ _ _ y=>ah ([],y)) (λ_ _ _ _ wD KL=>ah (KL,wD)) s 0 a hf Lib.cJ (cu (by have:=hf.1;omega)) (λx=>ah (x,a)) (λ_=>rfl) rfl
end jq

namespace fB
open Lib (rr)
def Ob(n:ax):aU:=decide (0<=n/\n<=15)
def sI(q:az ax):aU:=decide (q.length=16)&&q.all Ob
def oq(s:az (az ax))(a:ax):aU:=decide (s.length=3)&&(decide (0<=a/\a<=63)&&s.all sI)
theorem eH(n a b:ax):ki.v n a b=decide (a<=n/\n<=b):=by
 unfold ki.v;by_cases h1:a<=n
 ·rw[aG (show n≥a from h1),au];by_cases h2:n<=b<;>simp[h1,h2]
 ·rw[aK (show¬n≥a from h1),aw];simp[h1]
theorem ok(s:az (az ax))(a:ax)(hf:jq.oQ s):c (rr s) a=ai/\v (rr s) a=oq s a:=by
 refine out _ _ ?_;unfold vo b oq;rw[gO];by_cases h3:¬s.length=3
 ·rw[show((s.length:ax) !=3)=ai by simp;omega,aK h3];rfl
 have h3:s.length=3:=Decidable.not_not.1 h3;rw[show((s.length:ax) !=3)=ak by simp;omega,aG h3,aw,eH];cases h4:decide (0<=a/\a<=63)with
 |false=>rfl
 |true=>
  rw[aY,aw,ba,ba];have inner:∀i (h:i<s.length) (K0 K1:aU->ax->ax->aQ->ax->aA aU) (kf kt:aA aU) (h0:∀j:ax,K0 ak i j (rr s) a=kf) (h1:∀j:ax,K1 ak i j (rr s) a=kt),l9 Lib.cJ K0 K1 Lib.cJ ak (i:ax) 0 (rr s) a=bif(s[i]).all Ob then kt else kf:=λi h K0 K1 kf kt h0 h1=>
   pj (s[i]) Ob (λm (j:aE)=>l9 Lib.cJ K0 K1 m ak (i:ax) (j:ax) (rr s) a) kf kt
    (λm j hj hp=>by have hl:=hf.2 _ (bB h);unfold Ob at hp;simp only[l9,r9,gO,Lib.c6,h,aN,Lib.cm,aL,au,Lib.dN,Ki h,iX,Lib.gf,hj,Rf hj,bE,eH,hp,aY,aw,Lib.cS hj (by omega:s[i].length<=9223372036854775807)])
    (λm j hj hp=>by unfold Ob at hp;simp only[l9,r9,gO,Lib.c6,h,aN,Lib.cm,aL,au,Lib.dN,Ki h,iX,Lib.gf,hj,Rf hj,bE,eH,hp,bP,h0])
    (λm=>by simp only[l9,r9,gO,Lib.c6,h,aN,Lib.cm,aL,au,Lib.dN,Ki h,iX,Lib.gf,bk,bc,aw,h1]) Lib.cJ (cu (by have:=hf.2 _ (bB h);omega))
  have key:=pj s sI (λm (i:aE)=>l4 Lib.cJ (λ(EI:aU) (_:ax) (_:aQ) (_:ax)=>ah EI) (λ(_:aU) (_:ax) (_:aQ) (_:ax)=>ah ai) m ak (i:ax) (rr s) a) (ah ak) (ah ai)
   (λm i h hp=>by unfold sI at hp;rw[aM]at hp;have hl:=cq hp.1;simp only[l4,r4,gO,Lib.c6,h,aN,Lib.cm,aL,au,Lib.dN,Ki h,iX,Lib.gf,hl,show(((16:aE):ax) !=16)=ak from rfl,aw];rw[inner i h _ _ _ _ (λ_=>rfl) (λ_=>rfl),hp.2,au,Lib.cS h (by omega)])
   (λm i h hp=>by
    unfold sI at hp;by_cases hl:s[i].length=16
    ·rw[aG hl,ba]at hp;simp only[l4,r4,gO,Lib.c6,h,aN,Lib.cm,aL,au,Lib.dN,Ki h,iX,Lib.gf,hl,show(((16:aE):ax) !=16)=ak from rfl,aw];rw[inner i h _ _ _ _ (λ_=>rfl) (λ_=>rfl),hp,aw]
    ·simp only[l4,r4,gO,Lib.c6,h,aN,Lib.cm,aL,au,Lib.dN,Ki h,iX,Lib.gf,show((s[i].length:ax) !=16)=ai by simp;omega])
   (λm=>by simp only[l4,r4,gO,Lib.c6,bk,bc,aw]) Lib.cJ (cu (by omega))
  refine key.trans ?_;cases s.all sI<;>rfl
end fB

namespace jz
open Lib (rr rs)
open e9 (has without gM lT)
def eO(k:aq):aU:=decide (1<=(k.size:ax)/\(k.size:ax)<=30)
def LS(l:az aq)(i:aE):aU:=eO (l.getD i ⟨#[]⟩)&& !has (l.take i) (l.getD i ⟨#[]⟩)
def nH(l:az aq):aU:=(b8 l.length).all (LS l)
def sV(w m:az aq)(s:az (az ax))(a:ax):aU:=nH (w++m)&&(decide (w.length<=2)&&(decide (m.length<=4)&&fB.oq s a))
theorem iQ(k:aq):th.v k=eO k:=fB.eH _ _ _
theorem yH(l:az aq)(i:aE):eW (Lib.rs l) (aZ 0) i=Lib.rs (l.take i):=by unfold eW Lib.rs;rw[show aZ 0=0 from rfl,fg,sA,List.map_take]
theorem ok(w m:az aq)(s:az (az ax))(a:ax)(hw:w.length<=1048576)(hm:m.length<=1048576)(hf:jq.oQ s):c (rs w) (rs m) (rr s) a=ai/\v (rs w) (rs m) (rr s) a=sV w m s a:=by
 refine out _ _ _ _ ?_;have h2:=fB.ok s a hf;unfold vo b;have r1:cw (bS (aP [Ck.s] 0)+bS (rs w)) 16=true:=Lib.ch (by simp[aP,eJ];omega) (by simp[aP,eJ];omega);have r2:cw (bS (aP [Ck.s] 0++rs w)+bS (rs m)) 16=true:=Lib.ch (by simp[aP,eJ];omega) (by simp[aP,eJ];omega);have e:aP [Ck.s] 0++rs w++rs m=rs (w++m):=by rw[show aP [Ck.s] 0++rs w=rs w from rfl];unfold Lib.rs;rw[dh]
 rw[r1,r2,au,au,e];have hl:(w++m).length<=2097152:=by rw[bU];omega
 have gC:∀i,i<(w++m).length->e9.c (rs ((w++m).take i)) ((w++m).getD i ⟨#[]⟩)=ai/\e9.v (rs ((w++m).take i)) ((w++m).getD i ⟨#[]⟩)=has ((w++m).take i) ((w++m).getD i ⟨#[]⟩):=λi hi=>e9.ok _ _ (by rw[eL];omega);have hk:∀i (hi:i<(w++m).length),bz (ar (rs (w++m)) i 0)=(w++m).getD i ⟨#[]⟩:=λi hi=>by rw[Xc hi,show(w++m).getD i ⟨#[]⟩=(w++m)[i]by rw[cY,eR hi];rfl];rfl
 generalize hL:w++m=L at hl gC hk
 have key:=gJ (LS L) L.length (λn (i:aE)=>l3 Lib.cJ (λ(y7:aU) (_:ax) (_ _ _:aQ) (_:ax) (_:aQ)=>ah y7) (λ(_:aU) (_:ax) (Rj DS Gc:aQ) (EI:ax) (_:aQ)=>bif(decide ((↑(bS Rj):ax)<=2))then(bif(decide ((↑(bS DS):ax)<=4))then(bif(fB.c Gc EI)then(ah (fB.v Gc EI))else(aj))else(ah ak))else(ah ak)) n ak (i:ax) (rs w) (rs m) (rr s) a (rs L)) (ah ak) (ah (decide (w.length<=2)&&(decide (m.length<=4)&&fB.oq s a)))
  (λn i hi hp=>by
   unfold LS at hp;rw[aM,dp]at hp;have b1:ic 0 (i:ax) (L.length:ax)=true:=by simp[ic];omega
   simp only[l3,r3,eJ,Lib.c6,hi,aN,Lib.cm,aL,au,Lib.dN,hk i hi,iQ,hp.1,aY,aw,b1,yH,(gC i hi).1,(gC i hi).2,hp.2,Lib.cS hi (by omega:L.length<=9223372036854775807)])
  (λn i hi hp=>by
   have b1:ic 0 (i:ax) (L.length:ax)=true:=by simp[ic];omega
   unfold LS at hp;cases h1:eO (L.getD i ⟨#[]⟩)with
   |false=>simp only[l3,r3,eJ,Lib.c6,hi,aN,Lib.cm,aL,au,Lib.dN,hk i hi,iQ,h1,bP]
   |true=>rw[h1,ba,nk]at hp;simp only[l3,r3,eJ,Lib.c6,hi,aN,Lib.cm,aL,au,Lib.dN,hk i hi,iQ,h1,aY,aw,b1,yH,(gC i hi).1,(gC i hi).2,hp])
  (λn=>by simp only[l3,r3,eJ,Lib.c6,bk,bc,aw,h2.1,h2.2,au];rw[show decide ((w.length:ax)<=2)=decide (w.length<=2)by rw[ca];omega,show decide ((m.length:ax)<=4)=decide (m.length<=4)by rw[ca];omega];cases decide (w.length<=2)<;>cases decide (m.length<=4)<;>rfl) Lib.cJ (cu (by omega))
 refine key.trans ?_;unfold sV nH;rw[hL];cases (b8 L.length).all (LS L)<;>rfl
end jz

namespace tl
open Lib (rr rs)
open e9 (has)
theorem ok(w m:az aq)(s:aQ)(a:ax)(k:aq)(hw:w.length<=1048576)(hm:m.length<=1048576):c (rs w) (rs m) s a k=ai/\v (rs w) (rs m) s a k=(has w k||has m k):=by have h1:=e9.ok w k (by omega);have h2:=e9.ok m k (by omega);exact out _ _ _ _ _ (by unfold vo b;rw[h1.1,h1.2,h2.1,h2.2,au,au];cases has w k<;>rfl)
end tl

namespace nU
open Lib (rr rs re el oD qx qy qz En)
open e9 (has)
open jz (sV)
def vl(e:En):aU:=m8.v e.k e.st e.li e.bo
def IC(en:az En)(w m:az aq)(i:aE):aU:=
 vl (el en i)&&((decide (i=0)||Go.Op.bytesLess (aC (el en (i-1)).k) (aC (el en i).k))&&(has w (el en i).k||has m (el en i).k))
def NJ(en:az En)(w m:az aq)(s:az (az ax))(a:ax):aU:=(b8 en.length).all (IC en w m)&&(sV w m s a&&decide (w.length+m.length=en.length))
theorem ok(i0:ax)(en:az En)(w m:az aq)(s:az (az ax))(a:ax)(r6 r7:aQ)(i8:ax)(he:en.length<=1048576)(hw:w.length<=1048576)(hm:m.length<=1048576)(hf:jq.oQ s):
  c i0 (re en) (rs w) (rs m) (rr s) a r6 r7 i8=ai/\v i0 (re en) (rs w) (rs m) (rr s) a r6 r7 i8=NJ en w m s a:=by
 refine out _ _ _ _ _ _ _ _ _ ?_;have h1:=jz.ok w m s a hw hm hf;have h2:=λk=>tl.ok w m (rr s) a k hw hm;unfold vo b
 have key:=gJ (IC en w m) en.length (λn (i:aE)=>l2 Lib.cJ (λ(wC:aU) (_ _:ax) (_ _ _ _:aQ) (_:ax) (_ _:aQ) (_:ax)=>ah wC) (λ(_:aU) (_ _:ax) (Rk Rl IJ Rm:aQ) (Rn:ax) (_ _:aQ) (_:ax)=>bif(jz.c Rl IJ Rm Rn)then(bif(jz.v Rl IJ Rm Rn)then(ah (decide ((↑(bS Rk):ax)=bG ((↑(bS Rl):ax)+(↑(bS IJ):ax)))))else(ah ak))else(aj)) n ak (i:ax) i0 (re en) (rs w) (rs m) (rr s) a r6 r7 i8) (ah ak) (ah (sV w m s a&&decide (w.length+m.length=en.length)))
  (λn i hi hp=>by
   unfold IC vl at hp;rw[aM,aM]at hp;obtain⟨p1,p2,p3⟩:=hp;by_cases hz:i=0
   ·subst hz;simp only[l2,r2,de,Lib.c6,hi,aN,Lib.cm,aL,au,Lib.dN,oD hi,qx hi,qy hi,qz hi,bz,bE,p1,aY,aw,aK (show¬(((0:aE):ax)>0)by omega),(h2 _).1,(h2 _).2,p3,Lib.cS hi (by omega:en.length<=9223372036854775807)]
   ·rw[aK hz,ov]at p2;have kI:i-1<en.length:=by omega
    simp only[l2,r2,de,Lib.c6,hi,aN,Lib.cm,aL,au,Lib.dN,oD hi,qx hi,qy hi,qz hi,bz,bE,p1,aY,aw,aG (show(i:ax)>0 by omega),mf (show 0<i by omega) (by omega),kI,oD kI,p2,(h2 _).1,(h2 _).2,p3,Lib.cS hi (by omega:en.length<=9223372036854775807)])
  (λn i hi hp=>by
   unfold IC vl at hp;cases p1:m8.v (el en i).k (el en i).st (el en i).li (el en i).bo with
   |false=>simp only[l2,r2,de,Lib.c6,hi,aN,Lib.cm,aL,au,Lib.dN,oD hi,qx hi,qy hi,qz hi,bz,bE,p1,bP]
   |true=>
    rw[p1,ba]at hp;by_cases hz:i=0
    ·subst hz;rw[aG rfl,AO,ba]at hp;simp only[l2,r2,de,Lib.c6,hi,aN,Lib.cm,aL,au,Lib.dN,oD hi,qx hi,qy hi,qz hi,bz,bE,p1,aY,bP,aw,aK (show¬(((0:aE):ax)>0)by omega),(h2 _).1,(h2 _).2,hp]
    ·rw[aK hz,ov]at hp;have kI:i-1<en.length:=by omega
     cases p2:b9 (aC (el en (i-1)).k) (aC (el en i).k)with
     |false=>simp only[l2,r2,de,Lib.c6,hi,aN,Lib.cm,aL,au,Lib.dN,oD hi,qx hi,qy hi,qz hi,bz,bE,p1,aY,bP,aw,aG (show(i:ax)>0 by omega),mf (show 0<i by omega) (by omega),kI,oD kI,p2]
     |true=>rw[p2,ba]at hp;simp only[l2,r2,de,Lib.c6,hi,aN,Lib.cm,aL,au,Lib.dN,oD hi,qx hi,qy hi,qz hi,bz,bE,p1,aY,bP,aw,aG (show(i:ax)>0 by omega),mf (show 0<i by omega) (by omega),kI,oD kI,p2,(h2 _).1,(h2 _).2,hp])
  (λn=>by simp only[l2,r2,de,Lib.c6,bk,bc,aw,h1.1,h1.2,au,eJ];rw[c_ (x:=(w.length:ax)+(m.length:ax)) (by omega) (by omega),show decide ((en.length:ax)=(w.length:ax)+(m.length:ax))=decide (w.length+m.length=en.length)by rw[ca];omega];cases sV w m s a<;>rfl) Lib.cJ (cu (by omega))
 refine key.trans ?_;unfold NJ;cases (b8 en.length).all (IC en w m)<;>rfl
end nU

namespace np
open Lib (rf el Bl BX MD Ag Rh Ri Fe)
open jz (eO)
def nM(now:ax)(f:Fe):aU:=eO f.k&&(decide ((f.t.size:ax)<=400)&&(decide (1<=f.sta/\f.sta<=3)&&(decide (0<=f.li/\f.li<=999999)&&decide (0<=f.st/\f.st<=now))))
def lL(f g:Fe):aU:=decide (f.sta=1)&&(decide (g.sta=1)&&decide (f.k=g.k))
def apart(fe:az Fe)(i:aE):aU:=(b8 i).all λj=> !lL (el fe i) (el fe j)
theorem eH(n a b:ax):ki.v n a b=decide (a<=n/\n<=b):=fB.eH n a b
theorem ok(i0:ax)(r1 r2 r3 r4:aQ)(i5:ax)(fe:az Fe)(r7:aQ)(i8:ax)(i:aE)(hi:i<fe.length)(hf:fe.length<=1048576):
  c i0 r1 r2 r3 r4 i5 (rf fe) r7 i8 (i:ax)=ai/\v i0 r1 r2 r3 r4 i5 (rf fe) r7 i8 (i:ax)=(nM i0 (el fe i)&&apart fe i):=by
 refine out _ _ _ _ _ _ _ _ _ _ ?_;unfold vo b
 have key:=gJ (λj=> !lL (el fe i) (el fe j)) i (λn (j:aE)=>l5 Lib.cJ (λ(_:ax) (Gc:aU) (_ _:ax) (_ _ _ _:aQ) (_:ax) (_ _:aQ) (_:ax) (_ _:aq) (_ _ _:ax)=>ah Gc) (λ(_:ax) (_:aU) (_ _:ax) (_ _ _ _:aQ) (_:ax) (_ _:aQ) (_:ax) (_ _:aq) (_ _ _:ax)=>ah ai) n (i:ax) ak (j:ax) i0 r1 r2 r3 r4 i5 (rf fe) r7 i8 (el fe i).k (el fe i).t (el fe i).sta (el fe i).li (el fe i).st) (ah ak) (ah ai)
  (λn j hj hp=>by
   have j8:j<fe.length:=by omega
   rw[dp]at hp;unfold lL at hp;have e:decide ((el fe j).k=(el fe i).k)=decide ((el fe i).k=(el fe j).k):=by rw[ca];exact W0
   simp only[l5,r5,Lib.c6,hj,aN,Lib.cm,aL,au,Lib.dN,dD,j8,Bl j8,Ag j8,bz,bE,Lib.eN,e,Lib.cS hj (by omega:i<=9223372036854775807)];revert hp;cases decide ((el fe i).k=(el fe j).k)<;>cases decide ((el fe j).sta=1)<;>cases decide ((el fe i).sta=1)<;>intro hp<;>first|rfl|cases hp)
  (λn j hj hp=>by
   have j8:j<fe.length:=by omega
   rw[nk]at hp;unfold lL at hp;rw[aM,aM]at hp;have e:decide ((el fe j).k=(el fe i).k)=decide ((el fe i).k=(el fe j).k):=by rw[ca];exact W0
   simp only[l5,r5,Lib.c6,hj,aN,Lib.cm,aL,au,Lib.dN,dD,j8,Bl j8,Ag j8,bz,bE,Lib.eN,e,hp.1,hp.2.1,hp.2.2])
  (λn=>by simp only[l5,r5,Lib.c6,bk,bc,aw]) Lib.cJ (cu (by omega))
 simp only[dD,Lib.c6,hi,aN,Lib.cm,aL,au,Lib.dN,Bl hi,BX hi,MD hi,Rh hi,Ri hi,bz,bE,eH,jz.iQ];rw[show l5 Lib.cJ _ _ Lib.cJ (i:ax) ak 0 i0 r1 r2 r3 r4 i5 (rf fe) r7 i8 (el fe i).k (el fe i).t (el fe i).sta (el fe i).li (el fe i).st=_ from key];unfold nM apart;rw[show decide (((el fe i).t.size:ax)>400)= !decide (((el fe i).t.size:ax)<=400)by rw[<-decide_not,ca];omega];cases eO (el fe i).k<;>cases decide (((el fe i).t.size:ax)<=400)<;>cases decide (1<=(el fe i).sta/\(el fe i).sta<=3)<;>cases decide (0<=(el fe i).li/\(el fe i).li<=999999)<;>cases decide (0<=(el fe i).st/\(el fe i).st<=i0)<;>cases (b8 i).all (λj=> !lL (el fe i) (el fe j))<;>rfl
end np

namespace oX
open Lib (rr rs re rf rc el En Fe Cl Px II QG QH QI QJ QK QL)
open jz (eO)
open nU (NJ)
open np (nM apart eH)
def IB(now:ax)(nf:aE)(cl:az Cl)(i:aE):aU:=
 decide (1<=(el cl i).id/\(el cl i).id<=9)&&((decide (i=0)||decide ((el cl (i-1)).id<(el cl i).id))&&(eO (el cl i).k&&(decide (1<=(el cl i).sta/\(el cl i).sta<=3)&&(decide (0<=(el cl i).fe/\(el cl i).fe<=(nf:ax))&&(decide (((el cl i).jV.size:ax)<=400)&&(decide (0<=(el cl i).fr/\(el cl i).fr<=now)&&decide (0<=(el cl i).age)))))))
def jb(p:Px):aU:=
 decide (1<=p.now/\p.now<=1000000000)&&(NJ p.en p.w p.m p.s p.a&&(decide (p.fe.length<=20)&&(decide (p.cl.length<=6)&&(decide (0<=p.hits/\p.hits<=1000000000)&&((b8 p.fe.length).all (λi=>nM p.now (el p.fe i)&&apart p.fe i)&&(b8 p.cl.length).all (IB p.now p.fe.length p.cl))))))
theorem step(N:aE)(g k0 k1:aU->ax->ax->aQ->aQ->aQ->aQ->ax->aQ->aQ->ax->aA R)(i0:ax)(q1 q2 q3 q4:aQ)(i5:ax)(fe:az Fe)(cl:az Cl)(i8:ax)(i:aE)(hi:i<cl.length)(hl:cl.length<=1048576):
  r9 N g k0 k1 ak (i:ax) i0 q1 q2 q3 q4 i5 (rf fe) (rc cl) i8=bif IB i0 fe.length cl i then g ak ((i+1:aE):ax) i0 q1 q2 q3 q4 i5 (rf fe) (rc cl) i8 else k0 ak (i:ax) i0 q1 q2 q3 q4 i5 (rf fe) (rc cl) i8:=by
 unfold IB;have e1:decide (((el cl i).jV.size:ax)>400)= !decide (((el cl i).jV.size:ax)<=400):=by rw[<-decide_not,ca];omega
 have e2:decide ((el cl i).age<0)= !decide (0<=(el cl i).age):=by rw[<-decide_not,ca];omega
 by_cases hz:i=0
 ·subst hz;simp only[r9,eI,dD,Lib.c6,hi,aN,Lib.cm,aL,au,Lib.dN,II hi,QG hi,QH hi,QI hi,QJ hi,QK hi,QL hi,bz,bE,eH,jz.iQ,aK (show¬(((0:aE):ax)>0)by omega),aw,e1,e2,Lib.cS hi (by omega:cl.length<=9223372036854775807),AO,ba];cases decide (1<=(el cl 0).id/\(el cl 0).id<=9)<;>cases eO (el cl 0).k<;>cases decide (1<=(el cl 0).sta/\(el cl 0).sta<=3)<;>cases decide (0<=(el cl 0).fe/\(el cl 0).fe<=(fe.length:ax))<;>cases decide (((el cl 0).jV.size:ax)<=400)<;>cases decide (0<=(el cl 0).fr/\(el cl 0).fr<=i0)<;>cases decide (0<=(el cl 0).age)<;>rfl
 ·have kI:i-1<cl.length:=by omega
  have e3:decide ((el cl (i-1)).id≥(el cl i).id)= !decide ((el cl (i-1)).id<(el cl i).id):=by rw[<-decide_not,ca];omega
  simp only[r9,eI,dD,Lib.c6,hi,aN,Lib.cm,aL,au,Lib.dN,II hi,QG hi,QH hi,QI hi,QJ hi,QK hi,QL hi,bz,bE,eH,jz.iQ,aG (show(i:ax)>0 by omega),mf (show 0<i by omega) (by omega),kI,II kI,aw,e1,e2,e3,Lib.cS hi (by omega:cl.length<=9223372036854775807),aK hz,ov];cases decide (1<=(el cl i).id/\(el cl i).id<=9)<;>cases decide ((el cl (i-1)).id<(el cl i).id)<;>cases eO (el cl i).k<;>cases decide (1<=(el cl i).sta/\(el cl i).sta<=3)<;>cases decide (0<=(el cl i).fe/\(el cl i).fe<=(fe.length:ax))<;>cases decide (((el cl i).jV.size:ax)<=400)<;>cases decide (0<=(el cl i).fr/\(el cl i).fr<=i0)<;>cases decide (0<=(el cl i).age)<;>rfl
theorem ok(p:Px)(hp:p.Fit 1048576):c p.now (re p.en) (rs p.w) (rs p.m) (rr p.s) p.a (rf p.fe) (rc p.cl) p.hits=ai/\v p.now (re p.en) (rs p.w) (rs p.m) (rr p.s) p.a (rf p.fe) (rc p.cl) p.hits=jb p:=by
 refine out _ _ _ _ _ _ _ _ _ ?_;have h1:=nU.ok p.now p.en p.w p.m p.s p.a (rf p.fe) (rc p.cl) p.hits hp.en hp.w hp.m ⟨hp.s.1,hp.s.2.1⟩;have FF:=hp.fe;have n_:=hp.cl;unfold vo b;have h2:=λi hi=>np.ok p.now (re p.en) (rs p.w) (rs p.m) (rr p.s) p.a p.fe (rc p.cl) p.hits i hi FF
 have kc:=λ(n:aE) (hn:p.cl.length<n)=>gJ (IB p.now p.fe.length p.cl) p.cl.length (λn (i:aE)=>l9 Lib.cJ (λ(WB:aU) (_ _:ax) (_ _ _ _:aQ) (_:ax) (_ _:aQ) (_:ax)=>ah WB) (λ(_:aU) (_ _:ax) (_ _ _ _:aQ) (_:ax) (_ _:aQ) (_:ax)=>ah ai) n ak (i:ax) p.now (re p.en) (rs p.w) (rs p.m) (rr p.s) p.a (rf p.fe) (rc p.cl) p.hits) (ah ak) (ah ai)
  (λn i hi hq=>by simp only[l9];rw[step _ _ _ _ _ _ _ _ _ _ _ _ _ i hi n_,hq];rfl)
  (λn i hi hq=>by simp only[l9];rw[step _ _ _ _ _ _ _ _ _ _ _ _ _ i hi n_,hq];rfl)
  (λn=>by simp only[l9,r9,eI,Lib.c6,bk,bc,aw]) n hn
 have kf:=gJ (λi=>nM p.now (el p.fe i)&&apart p.fe i) p.fe.length (λn (i:aE)=>l4 Lib.cJ (λ(wC:aU) (_ _:ax) (_ _ _ _:aQ) (_:ax) (_ _:aQ) (_:ax)=>ah wC) (λ(KM:aU) (_ Xe:ax) (Rk Rl IJ Rm:aQ) (Rn:ax) (Ro Rp:aQ) (QN:ax)=>l9 Lib.cJ (λ(WB:aU) (_ _:ax) (_ _ _ _:aQ) (_:ax) (_ _:aQ) (_:ax)=>ah WB) (λ(_:aU) (_ _:ax) (_ _ _ _:aQ) (_:ax) (_ _:aQ) (_:ax)=>ah ai) Lib.cJ KM 0 Xe Rk Rl IJ Rm Rn Ro Rp QN) n ak (i:ax) p.now (re p.en) (rs p.w) (rs p.m) (rr p.s) p.a (rf p.fe) (rc p.cl) p.hits) (ah ak) (ah ((b8 p.cl.length).all (IB p.now p.fe.length p.cl)))
  (λn i hi hq=>by simp only[l4,r4,dD,Lib.c6,hi,aN,au,(h2 i hi).1,(h2 i hi).2,hq,aY,aw,Lib.cS hi (by omega:p.fe.length<=9223372036854775807)])
  (λn i hi hq=>by simp only[l4,r4,dD,Lib.c6,hi,aN,au,(h2 i hi).1,(h2 i hi).2,hq,bP])
  (λn=>by simp only[l4,r4,dD,Lib.c6,bk,bc,aw];refine(kc Lib.cJ (cu (by omega))).trans ?_;cases (b8 p.cl.length).all (IB p.now p.fe.length p.cl)<;>rfl) Lib.cJ (cu (by omega))
 rw[eH,eH,h1.1,h1.2,au,dD,eI];rw[show l4 Lib.cJ _ _ Lib.cJ ak 0 p.now (re p.en) (rs p.w) (rs p.m) (rr p.s) p.a (rf p.fe) (rc p.cl) p.hits=_ from kf];unfold jb;rw[show decide ((p.fe.length:ax)>20)= !decide (p.fe.length<=20)by rw[<-decide_not,ca];omega,show decide ((p.cl.length:ax)>6)= !decide (p.cl.length<=6)by rw[<-decide_not,ca];omega];cases decide (1<=p.now/\p.now<=1000000000)<;>cases NJ p.en p.w p.m p.s p.a<;>cases decide (p.fe.length<=20)<;>cases decide (p.cl.length<=6)<;>cases decide (0<=p.hits/\p.hits<=1000000000)<;>cases (b8 p.fe.length).all (λi=>nM p.now (el p.fe i)&&apart p.fe i)<;>cases (b8 p.cl.length).all (IB p.now p.fe.length p.cl)<;>rfl
end oX

namespace uV
open Lib (Px Cl Fe En el)
def ec(f:aE)(st:ax)(t:aq)(c:Cl):Cl:=bif decide (c.fe=(f:ax)+1)&&decide (c.sta=1)then{c with sta:=st,jV:=t}else c
def nY(cl:az Cl)(f:aE)(st:ax)(t:aq):az Cl:=cl.map (ec f st t)
theorem lB{α:Type}(l:az α)(g:α->α):l.mapIdx (λ_ c=>g c)=l.map g:=by apply jT<;>simp
end uV

namespace gv
open Lib (Px Cl Fe En el)
open oX (jb)
open uV (nY)
def s9(p:Px)(f:ax):aU:=jb p&&(decide (0<=f/\f<=(p.fe.length:ax)-1)&&decide ((el p.fe f.toNat).sta=1))
def told(p:Px)(f:aE)(g:Fe)(st:ax):Px:={p with fe:=p.fe.set f g,cl:=nY p.cl f st g.t}
theorem iR{p:Px}{f:ax}(h:s9 p f=ai):∃n:aE,f=(n:ax)/\n<p.fe.length/\jb p=ai/\(el p.fe n).sta=1:=by unfold s9 at h;simp only[aM,bh]at h;obtain⟨h1,h2,h3⟩:=h;exact⟨f.toNat,by omega,by omega,h1,h3⟩
theorem n7{p:Px}{n f:aE}{g:Fe}{st:ax}(h:p.Fit n):(told p f g st).Fit n:=by
 refine⟨h.en,h.w,h.m,h.s, ?_, ?_⟩
 ·show(p.fe.set f g).length<=n;rw[cD];exact h.fe
 ·show(nY p.cl f st g.t).length<=n;unfold uV.nY;rw[bV];exact h.cl
def Cu(p:Px)(f:ax):Px×aU:=bif s9 p f then(told p f.toNat {el p.fe f.toNat with sta:=3} 3,ai)else(p,ak)
def Di(p:Px)(f:ax)(t:aq):Px×aU:=
 bif s9 p f&&(decide (1<=t.size/\t.size<=40)&&decide ((el p.fe f.toNat).t.size+t.size<=400))then(told p f.toNat {el p.fe f.toNat with t:=(el p.fe f.toNat).t++t} 1,ai)else(p,ak)
theorem iP{l:az Fe}{n:aE}{g:Fe}(h:n<l.length):el (l.set n g) n=g:=by rw[eG (by rw[cD];exact h),kL]
theorem yB(l:az Fe)(n j:aE)(ys:az CV)(g:Fe)(h:n<l.length)(hs:iF (Fe.row (el l n)) j ys=Fe.row g):eC (Lib.rf l) n j ys=Lib.rf (l.set n g):=by rw[eG h]at hs;exact kW Fe.row l n j ys g h hs
theorem abx{p:Px}(h:jb p=ai)(i:aE)(hi:i<p.fe.length):np.nM p.now (el p.fe i)=true:=by unfold oX.jb at h;simp only[aM,bh]at h;obtain⟨_,_,_,_,_,h6,_⟩:=h;rw[bu]at h6;have:=h6 i (by simpa using hi);rw[aM]at this;exact this.1
end gv

namespace gp
theorem anO(x:ax):0<=bH eB x/\bH eB x<4294967296:=by have e:bH eB x=x%4294967296:=rfl;rw[e];omega
theorem ahg(x:ax):0<=jU.rd x/\jU.rd x<4294967296:=by unfold jU.rd;cases decide (cF x 2=1)<;>exact anO _
theorem Ot:∀(n:aE) (x:ax),0<=x/\x<4294967296->0<=jU.nP n x/\jU.nP n x<4294967296
 |0,_,h=>h
 |n+1,x,_=>Ot n _ (ahg x)
theorem Wp(t:aq):∀(d i:aE) (s:ax),0<=s/\s<4294967296->0<=jU.su t d i s/\jU.su t d i s<4294967296
 |0,_,_,h=>h
 |d+1,i,s,h=>Wp t d (i+1) _ (Ot 8 _ (anO _))
def keyed(i:aE)(key:aq):aq:=key++bytesOf [[CV.i bj (i:ax)]]
def sm(i:aE)(key:aq):ax:=jU.su (keyed i key) (keyed i key).size 0 4294967295
def pl(i:aE)(key:aq):aE:=(cF (sm i key) 16).toNat
theorem Mq(i:aE)(key:aq):0<=sm i key/\sm i key<4294967296:=Wp _ _ _ _ (by omega)
theorem pl_int(i:aE)(key:aq):cF (sm i key) 16=(pl i key:ax):=by have:=Mq i key;have h:0<=cF (sm i key) 16:=Xw _ this.1;unfold pl;omega
theorem Dg(i:aE)(key:aq):pl i key<16:=by have:=Mq i key;have h:=Int.tmod_lt_of_pos (sm i key) (show(0:ax)<16 by omega);have h2:0<=cF (sm i key) 16:=Xw _ this.1;unfold pl;omega
theorem Dv(i:aE)(key:aq):(keyed i key).size=key.size+1:=by unfold keyed;rw[dH,Du]
theorem ok(i:aE)(key:aq)(hi:i<3)(hk:key.size<=140737488355328):c (i:ax) key=ai/\v (i:ax) key=(pl i key:ax):=by
 refine out _ _ ?_;unfold vo b;have e:(key++bytesOf (aD (aP [Ck.i bj] 1) 0 [CV.i bj (bH bj (i:ax))]))=keyed i key:=by
  unfold keyed;match i,hi with
  |0,_=>rfl
  |1,_=>rfl
  |2,_=>rfl
 have hs:=Dv i key;have h:=v8.ok (keyed i key) (by omega);have e2:eu key+eu (bytesOf (aD (aP [Ck.i bj] 1) 0 [CV.i bj (bH bj (i:ax))]))=key.size+1:=by rw[pR,Du]
 rw[e2,e,aG (by omega),au,h.1,h.2,au];have hp:=pl_int i key;have hl:=Dg i key;unfold sm at hp;rw[hp,c_ (by omega) (by omega)]
end gp

namespace oa
open Lib (rr)
theorem run(N:aE)(K0:ax->aQ->ax->ax->ax->aA R)(K1:ax->aQ->ax->ax->ax->aQ->aA R)(s:az (az ax))(z y a:ax)(hf:jq.oQ s)(m:aE)(hm:s.length+1<m)(kr:aQ->aA R)
  (h0:s=[]->K0 0 (rr s) z y a=kr []) (h1:K1 s.length (rr s) z y a (rr s)=kr (rr s)):l3 N K0 K1 m 0 (rr s) z y a=kr (rr s):=by
 obtain⟨m,rfl⟩:∃m',m=m'+1:=⟨m-1,by omega⟩
 have hz:∀q:aQ,aP [Ck.i ao] 0++q=q:=λq=>rfl;have hci:∀i (h:i<s.length),cw (bS (aP [Ck.i ao] 0)+bS (Lib.ri s[i])) 8=true:=λi h=>by have:=hf.2 _ (bB h);exact Lib.ch (by rw[Lib.gf];simp[aP];omega) (by rw[Lib.gf];simp[aP];omega)
 by_cases hs:s=[]
 ·subst hs;simp only[l3,r3,gO,jR,WL,Int.lt_irrefl,bc,aw];exact h0 rfl
 ·have hp:0<s.length:=Nb.2 hs;have key:=ml (R:=R) s.length (λm i (x:aQ)=>sR N K0 K1 m (i:ax) (rr s) z y a x) (λi=>rr (s.take i)) (kr (rr s)) (λm i h=>by
   have hl:=hf.1;simp only[sR,zZ,gO,Lib.c6,h,aN,au,Lib.cm,ba,Lib.dN,Ki h,iX,hci i h,hz,pR,bC];rw[Lib.ch (by rw[eL];omega) (by rw[eL];omega),au,Lib.cS h (by omega)];have:=o6 (λq=>[CV.l 3 (Lib.ri q)]) s i h;unfold rr;rw[<-this]) (λm=>by
   simp only[sR,zZ,gO,Lib.c6,bk,bc,aw,dR];exact h1) m 1 hp (by omega)
  have e:=hci 0 hp;have e0:=Ki (l:=s) hp;simp only[l3,r3,aG (show(0:ax)<(s.length:ax)by omega),au,aL,gO,show decide ((0:ax)<=0)=ai from rfl,show aZ 0=0 from rfl,e0,iX,e,hz,au,pR,gF];rw[show bG (0+1)=((1:aE):ax)from rfl];refine KP ?_ key;have:=o6 (λq=>[CV.l 3 (Lib.ri q)]) s 0 hp;unfold rr;rw[show(0+1)=1 from rfl]at this;rw[<-this];rfl
theorem ok(s:az (az ax))(a:ax)(hf:jq.oQ s):c (rr s) a=ai/\v (rr s) a=(rr s,a):=by refine out _ _ ?_;unfold vo b;exact run Lib.cJ (λ_ _ _ _ y=>ah ([],y)) (λ_ _ _ _ wD KL=>ah (KL,wD)) s a 0 a hf Lib.cJ (cu (by have:=hf.1;omega)) (λx=>ah (x,a)) (λ_=>rfl) rfl
end oa

namespace du
open Lib (rr ri)
def bq(p:aE)(q:az ax):az ax:=q.set p (bif decide (q.getD p 0<15)then q.getD p 0+1 else q.getD p 0)
def Eg(s:az (az ax))(key:aq):az (az ax):=s.mapIdx λi q=>bq (gp.pl i key) q
def half(s:az (az ax)):az (az ax):=s.map λq=>q.map λn=>cQ n 2
def val(s:az (az ax))(a:ax)(key:aq):az (az ax)×ax:=
 bif fB.oq s a then(bif decide (a+1=64)then(half (Eg s key),0)else(Eg s key,a+1))else(s,a)
def fR(q:az ax):az CV:=[CV.l 3 (ri q)]
theorem QC(q:az ax)(p:aE)(x:ax)(h:p<q.length):eC (ri q) p 0 [CV.i ao x]=ri (q.set p x):=kW (λn=>[CV.i ao n]) q p 0 _ x h rfl
theorem QD(L:az (az ax))(i:aE)(q:az ax)(h:i<L.length):eC (L.map fR) i 0 [CV.l 3 (ri q)]=(L.set i q).map fR:=kW fR L i 0 _ q h rfl
theorem CA(L:az (az ax))(i:aE)(h:i<L.length):ar (L.map fR) i 0=CV.l 3 (ri L[i]):=fD fR L i 0 h
theorem uN{s:az (az ax)}{a:ax}(h:fB.oq s a=ai):s.length=3/\(0<=a/\a<=63)/\∀q∈s,q.length=16/\∀n∈q,0<=n/\n<=15:=by
 unfold fB.oq at h;rw[aM,aM]at h;refine⟨cq h.1,cq h.2.1,λq hq=> ?_⟩
 have:=bu.1 h.2.2 q hq;unfold fB.sI at this;rw[aM]at this;refine⟨cq this.1,λn hn=> ?_⟩
 have:=bu.1 this.2 n hn;unfold fB.Ob at this;exact cq this
theorem oS{q:az ax}{p:aE}(h:p<q.length):q.getD p 0=q[p]:=by simp[kA,h]
theorem ahk(K:aq->ax->ax->ax->aQ->aA R)(s:az (az ax))(key:aq)(y a:ax)(hs:s.length=3)(hq:∀q∈s,q.length=16/\∀n∈q,0<=n/\n<=15)(hk:key.size<=140737488355328):
  l5 Lib.cJ K Lib.cJ key 0 y a (rr s)=K key 3 y a (rr (Eg s key)):=by
 refine(nR fR s (λi q=>bq (gp.pl i key) q) (λm (i:aE) x=>l5 Lib.cJ K m key (i:ax) y a x) (λx=>K key 3 y a x) (λm i L h h2 hL wh=> ?_) (λm L hL=> ?_) Lib.cJ (cu (by omega)))
 ·have hp:=gp.ok i key (by omega) hk;have s8:=gp.Dg i key;obtain⟨KF,hn⟩:=hq _ (bB h);have e0:ar (L.map fR) i 0=CV.l 3 (ri s[i]):=by rw[CA L i h2,wh]
  have hb:gp.pl i key<s[i].length:=by omega
  have hx:=hn _ (bB hb);simp only[l5,r5,bV,Lib.c6,h2,aN,au,hp.1,hp.2,Lib.cm,aL,Lib.dN,e0,iX,Lib.gf,KF,s8,Rf hb,bE];unfold bq;rw[oS hb];cases hd:decide (s[i][gp.pl i key]<15)with
  |true=>have:=cq hd;rw[au,au,c_ (x:=s[i][gp.pl i key]+1) (by omega) (by omega),QC _ _ _ hb,QD _ _ _ h2,Lib.cS h2 (by omega)]
  |false=>rw[aw,aw,Lib.cS h2 (by omega),fj,<-wh,fj]
 ·simp only[l5,r5,bV,Lib.c6,hL,bk,bc,aw,hs];rfl
theorem tB{s:az (az ax)}{key:aq}(hs:s.length=3)(hq:∀q∈s,q.length=16/\∀n∈q,0<=n/\n<=15):(Eg s key).length=3/\∀q∈Eg s key,q.length=16/\∀n∈q,0<=n/\n<=15:=by
 unfold Eg;refine⟨by simp[hs],λq hm=> ?_⟩
 obtain⟨i,hi,rfl⟩:=List.mem_mapIdx.1 hm;obtain⟨KF,hn⟩:=hq _ (bB hi);unfold bq;have hb:gp.pl i key<s[i].length:=by have:=gp.Dg i key;omega
 refine⟨by rw[cD];exact KF,λn h=> ?_⟩
 rcases jI h with h|h
 ·exact hn n h
 ·rw[oS hb]at h;have hx:=hn _ (bB hb);rw[h];cases hd:decide (s[i][gp.pl i key]<15)with
  |true=>have:=cq hd;rw[au];omega
  |false=>rw[aw];exact hx
theorem am1(K:ax->ax->ax->ax->aQ->aA R)(L:az (az ax))(i:aE)(h:i<L.length)(y a:ax)(hl:L.length<=1048576)(hq:L[i].length=16)(hn:∀n∈L[i],0<=n/\n<=15):
  l17 Lib.cJ K Lib.cJ (i:ax) 0 y a (L.map fR)=K i 16 y a ((L.set i (L[i].map λn=>cQ n 2)).map fR):=by
 have hmi:L[i].mapIdx (λ_ n=>cQ n 2)=L[i].map λn=>cQ n 2:=by apply jT<;>simp
 have key:=ml (L[i].length) (λm (k:aE) x=>l17 Lib.cJ K m (i:ax) (k:ax) y a x) (λk=>(L.set i (ot L[i] (λ_ n=>cQ n 2) k)).map fR) (K i 16 y a ((L.set i (L[i].map λn=>cQ n 2)).map fR)) (λm k hk=> ?_) (λm=> ?_) Lib.cJ 0 (bD _) (cu (by omega))
 ·rw[DD,fj]at key;exact key
 ·have hu:=qV L[i] (λ_ n=>cQ n 2) k (by omega);generalize hU:ot L[i] (λ_ n=>cQ n 2) k=U at hu;have hku:k<U.length:=by omega
  have gi:U[k]=L[i][k]:=by subst hU;exact yG _ _ _ hk _
  have af2:U.set k (cQ L[i][k] 2)=ot L[i] (λ_ n=>cQ n 2) (k+1):=by subst hU;exact uh L[i] (λ_ n=>cQ n 2) k hk
  have h2:i<(L.set i U).length:=by simpa using h
  have e0:ar ((L.set i U).map fR) i 0=CV.l 3 (ri U):=by rw[CA _ _ h2,kL]
  have hx:=hn _ (bB hk);have ht:0<=cQ L[i][k] 2:=Xv hx.1 (by omega);have HK:cQ L[i][k] 2<=15:=Ca (WM _ hx.1) hx.2;simp only[l17,r17,bV,cD,Lib.c6,h,hku,aN,au,Lib.cm,aL,Lib.dN,e0,iX,Lib.gf,Rf hku,bE,gi];rw[c_ (x:=cQ L[i][k] 2) (by omega) (by omega),QC _ _ _ hku,QD _ _ _ h2,af2,pN,Lib.cS hk (by omega)]
 ·have e0:ar ((L.set i (ot L[i] (λ_ n=>cQ n 2) L[i].length)).map fR) i 0=CV.l 3 (ri (L[i].map λn=>cQ n 2)):=by rw[CA _ _ (by simpa using h),kL,qU,hmi]
  simp only[l17,r17,bV,cD,Lib.c6,h,aN,au,Lib.cm,aL,Lib.dN,e0,iX,Lib.gf,bk,bc,aw];rw[qU,hmi,hq];rfl
theorem amZ(K:ax->ax->ax->aQ->aA R)(s:az (az ax))(y a:ax)(hs:s.length=3)(hq:∀q∈s,q.length=16/\∀n∈q,0<=n/\n<=15):
  l14 Lib.cJ K Lib.cJ 0 y a (rr s)=K 3 y a (rr (half s)):=by
 have hmi:s.mapIdx (λ_ q=>q.map λn=>cQ n 2)=half s:=by unfold half;apply jT<;>simp
 rw[<-hmi];refine(nR fR s (λ_ q=>q.map λn=>cQ n 2) (λm (i:aE) x=>l14 Lib.cJ K m (i:ax) y a x) (λx=>K 3 y a x) (λm i L h h2 hL wh=> ?_) (λm L hL=> ?_) Lib.cJ (cu (by omega)))
 ·obtain⟨KF,hn⟩:=hq _ (bB h);simp only[l14,r14,bV,Lib.c6,h2,aN,au];rw[am1 _ L i h2 y a (by omega) (by rw[wh];exact KF) (by rw[wh];exact hn),Lib.cS h2 (by omega),wh]
 ·simp only[l14,r14,bV,Lib.c6,hL,bk,bc,aw,hs];rfl
theorem ok(s:az (az ax))(a:ax)(key:aq)(hf:jq.oQ s)(hk:key.size<=140737488355328):c (rr s) a key=ai/\v (rr s) a key=(rr (val s a key).1,(val s a key).2):=by
 refine out _ _ _ ?_;have h1:=oa.ok s a hf;have h2:=fB.ok s a hf;unfold vo b val;rw[h1.1,h1.2,h2.1,h2.2,au,au];cases cg:fB.oq s a with
 |false=>rfl
 |true=>
  obtain⟨hs,ha,hq⟩:=uN cg;obtain⟨b1,b2⟩:=tB (key:=key) hs hq;rw[aY,aw,au,ahk _ s key _ _ hs hq hk,c_ (x:=a+1) (by omega) (by omega)];cases hd:decide (a+1=64)with
  |false=>rfl
  |true=>rw[au,au,amZ _ _ _ _ b1 b2]
end du

namespace mO
open Lib (rr ri)
def gs(key:aq):aE->az (az ax)->ax->ax
 |_,[],x=>x
 |i,q::r,x=>gs key (i+1) r (bif decide (q.getD (gp.pl i key) 0<x)then q.getD (gp.pl i key) 0 else x)
def val(s:az (az ax))(a:ax)(key:aq):ax:=bif fB.oq s a then gs key 0 s 15 else 0
theorem HD(key:aq)(s:az (az ax))(i:aE)(h:i<s.length)(x:ax):gs key i (s.drop i) x=gs key (i+1) (s.drop (i+1)) (bif decide (s[i].getD (gp.pl i key) 0<x)then s[i].getD (gp.pl i key) 0 else x):=by rw[dC h];rfl
theorem ok(s:az (az ax))(a:ax)(key:aq)(hf:jq.oQ s)(hk:key.size<=140737488355328):c (rr s) a key=ai/\v (rr s) a key=val s a key:=by
 refine out _ _ _ ?_;have h2:=fB.ok s a hf;unfold vo b val;rw[h2.1,h2.2,au];cases cg:fB.oq s a with
 |false=>rfl
 |true=>
  obtain⟨hs,ha,hq⟩:=du.uN cg;rw[aY,aw,au];have:=Lib.fE (λm (t:aE×ax)=>l5 Lib.cJ (λ(_:aq) (y6 _:ax) (_:aQ) (_:ax)=>ah y6) m key t.2 (t.1:ax) (rr s) a) (λt=>s.length-t.1) (λt=>t.1<=s.length) (λt=>ah (gs key t.1 (s.drop t.1) t.2)) (λm t ht=>by
   obtain⟨i,x⟩:=t;dsimp only at ht⊢;by_cases h:i<s.length
   ·right;have hp:=gp.ok i key (by omega) hk;have s8:=gp.Dg i key;obtain⟨KF,hn⟩:=hq _ (bB h);have hb:gp.pl i key<s[i].length:=by omega
    refine⟨(i+1,bif decide (s[i].getD (gp.pl i key) 0<x)then s[i].getD (gp.pl i key) 0 else x),by dsimp only;omega,by dsimp only;omega,by rw[<-HD key s i h x], ?_⟩
    simp only[l5,r5,gO,Lib.c6,h,aN,au,hp.1,hp.2,Lib.cm,aL,Lib.dN,Ki h,iX,Lib.gf,KF,s8,Rf hb,bE,Lib.cS h (by omega:s.length<=9223372036854775807)];rw[du.oS hb];cases decide (s[i][gp.pl i key]<x)<;>rfl
   ·left;have:i=s.length:=by omega
    subst this;simp only[l5,r5,gO,Lib.c6,bk,bc,aw,di,gs]) Lib.cJ (0,15) (bD _) (cu (by dsimp only;omega))
  simpa using this
end mO

namespace gb
open Lib (rr rs)
theorem ok(w m:az aq)(s:az (az ax))(a:ax)(hw:w.length<=1048576)(hm:m.length<=1048576)(hf:jq.oQ s):c (rs w) (rs m) (rr s) a=ai/\v (rs w) (rs m) (rr s) a=(rs w,rs m,rr s,a):=by have h3:=oa.ok s a hf;have r1:cw (bS (aP [Ck.s] 0)+bS (rs w)) 16=true:=Lib.ch (by simp[aP,eJ];omega) (by simp[aP,eJ];omega);have r2:cw (bS (aP [Ck.s] 0)+bS (rs m)) 16=true:=Lib.ch (by simp[aP,eJ];omega) (by simp[aP,eJ];omega);exact out _ _ _ _ (by unfold vo b;rw[r1,r2,h3.1,h3.2,au,au,au];rfl)
end gb

namespace ph
theorem ok(l:az aq)(k:aq)(hl:l.length<=1048576):c (Lib.rs l) k=ai/\v (Lib.rs l) k=Lib.rs (e9.without l k):=by
 refine out _ _ ?_;unfold vo b;have key:=ml l.length (λm (i:aE) (x:aQ)=>l3 Lib.cJ (λ(_:aQ) (_:aq) (_:ax) (y7:aQ)=>ah y7) m (Lib.rs l) k (i:ax) x) (λi=>Lib.rs (e9.without (l.take i) k)) (ah (Lib.rs (e9.without l k))) (λm i h=>by
  have hlen:=e9.iw (l:=l.take i) (k:=k);rw[eL]at hlen;simp only[l3,r3,eJ,Lib.c6,h,aN,Lib.cm,aL,au,Lib.dN,Xc h,bz,Lib.eN,pR,bC,Lib.cS h (by omega:l.length<=9223372036854775807)];rw[Lib.ch (by omega) (by omega),au];have e:e9.without (l.take (i+1)) k=e9.without (l.take i) k++(bif !decide (l[i]=k)then [l[i]]else []):=by unfold e9.without;rw[cE h,iq];cases hd:decide (l[i]=k)<;>simp[hd]
  rw[e];cases hd:decide (l[i]=k)with
  |true=>rw[aY,aw,aw,dj]
  |false=>rw[bP,au,au];unfold Lib.rs;rw[dh];rfl) (λm=>by
  simp only[l3,r3,eJ,Lib.c6,bk,bc,aw,dR]) Lib.cJ 0 (bD _) (cu (by omega))
 exact key
end ph

namespace eT
open Lib (rr rs)
open e9 (has without gM lT wB iw pH)
open jz (eO LS nH sV iQ)
def val(w m:az aq)(s:az (az ax))(a:ax)(key:aq):az aq×az aq×az (az ax)×ax×aq:=
 bif sV w m s a&&eO key then
  bif has w key then(without w key++[key],m,(du.val s a key).1,(du.val s a key).2,⟨#[]⟩)
  else bif has m key then(w,without m key++[key],(du.val s a key).1,(du.val s a key).2,⟨#[]⟩)
  else bif decide ((w++[key]).length<=2)then(w++[key],m,(du.val s a key).1,(du.val s a key).2,⟨#[]⟩)
  else bif decide (m.length<4)then((w++[key]).tail,m++[(w++[key]).getD 0 ⟨#[]⟩],(du.val s a key).1,(du.val s a key).2,⟨#[]⟩)
  else bif decide (mO.val (du.val s a key).1 (du.val s a key).2 ((w++[key]).getD 0 ⟨#[]⟩)>mO.val (du.val s a key).1 (du.val s a key).2 (m.getD 0 ⟨#[]⟩))then
   ((w++[key]).tail,m.tail++[(w++[key]).getD 0 ⟨#[]⟩],(du.val s a key).1,(du.val s a key).2,m.getD 0 ⟨#[]⟩)
  else((w++[key]).tail,m,(du.val s a key).1,(du.val s a key).2,(w++[key]).getD 0 ⟨#[]⟩)
 else(w,m,s,a,⟨#[]⟩)
theorem Dw(l:az aq)(k:aq):rs l++[[CV.s k]]=rs (l++[k]):=by unfold Lib.rs;rw[dh];rfl
theorem zer(l:az aq):aP [Ck.s] 0++rs l=rs l:=rfl
theorem Tx(l:az aq):bz (ar (rs l) (aZ 0) 0)=l.getD 0 ⟨#[]⟩:=by cases l<;>rfl
theorem Wr(l:az aq):eW (rs l) (aZ 1) (aZ (l.length:ax))=rs l.tail:=by unfold eW Lib.rs;rw[show aZ 1=1 from rfl,Lib.dN,List.drop_one,<-List.map_tail,jg (by simp)]
theorem nI{l:az aq}(h:nH l=ai){k:aq}(hk:k∈l):eO k=true:=by
 unfold nH at h;rw[bu]at h;obtain⟨i,hi,rfl⟩:=c8 hk;have:=h i (by simpa using hi);unfold LS at this;rw[aM]at this;have e:l.getD i ⟨#[]⟩=l[i]:=by simp[kA,hi]
 rw[e]at this;exact this.1
theorem wq{l:az aq}:nH l=ai↔(∀k∈l,eO k=ai)/\l.Nodup:=by
 constructor
 ·intro h;refine⟨λk hk=>nI h hk, ?_⟩
  rw[qi,dA];intro i j hi hj PS he;unfold nH at h;rw[bu]at h;have h2:=h j (by simpa using hj);unfold LS at h2;have e:l.getD j ⟨#[]⟩=l[j]:=by simp[kA,hj]
  rw[e,aM,dp,lT]at h2;refine h2.2 ?_;rw[<-he];have:(l.take j)[i]'(by rw[eL];omega)=l[i]:=nC ..;rw[<-this];exact bB _
 ·intro h;unfold nH;rw[bu];intro j hj;have hj:j<l.length:=by simpa using hj
  unfold LS;have e:l.getD j ⟨#[]⟩=l[j]:=by simp[kA,hj]
  rw[e,aM,dp,lT];refine⟨h.1 _ (bB hj),λhm=> ?_⟩
  obtain⟨i,hi,he⟩:=c8 hm;rw[eL]at hi;rw[nC]at he;have h2:=h.2;rw[qi,dA]at h2;exact h2 i j (by omega) hj (by omega) he
theorem kQ{k:aq}(h:eO k=ai):1<=k.size/\k.size<=30:=by unfold eO at h;have:=cq h;omega
theorem Mn{s:az (az ax)}{a:ax}{key:aq}(h:jq.oQ s):jq.oQ (du.val s a key).1:=by
 unfold du.val;cases cg:fB.oq s a with
 |false=>exact h
 |true=>
  obtain⟨hs,_,hq⟩:=du.uN cg;obtain⟨b1,b2⟩:=du.tB (key:=key) hs hq;rw[au];cases decide (a+1=64)with
  |false=>exact⟨by rw[aw];dsimp only;omega,λq h=>by have:=(b2 q h).1;omega⟩
  |true=>
   rw[au];dsimp only;unfold du.half;refine⟨by rw[bV];omega,λq h=> ?_⟩
   obtain⟨q',hq',rfl⟩:=cU.1 h;rw[bV];have:=(b2 q' hq').1;omega
theorem tH{l:az aq}(h:0<l.length):l.getD 0 ⟨#[]⟩∈l:=by
 cases l with
 |nil=>simp at h
 |cons x r=>exact dv ..
theorem Dd{w m:az aq}{s:az (az ax)}{a:ax}(h:sV w m s a=ai):nH (w++m)=ai/\w.length<=2/\m.length<=4/\fB.oq s a=true:=by unfold sV at h;simp only[aM,bh]at h;exact⟨h.1,h.2.1,h.2.2.1,h.2.2.2⟩
theorem ok(w m:az aq)(s:az (az ax))(a:ax)(key:aq)(hw:w.length<=1048576)(hm:m.length<=1048576)(hf:jq.oQ s)(hk:key.size<=140737488355328):
  c (rs w) (rs m) (rr s) a key=ai/\v (rs w) (rs m) (rr s) a key=(rs (val w m s a key).1,rs (val w m s a key).2.1,rr (val w m s a key).2.2.1,(val w m s a key).2.2.2.1,(val w m s a key).2.2.2.2):=by
 refine out _ _ _ _ _ ?_;have h1:=gb.ok w m s a hw hm hf;have h2:=jz.ok w m s a hw hm hf;have h3:=du.ok s a key hf hk;have h4:=e9.ok w key (by omega);have h5:=e9.ok m key (by omega);have h6:=ph.ok w key hw;have h7:=ph.ok m key hm;have sf:=Mn (a:=a) (key:=key) hf;unfold vo b;simp only[Lib.lt,h1.1,h1.2,h2.1,h2.2,au];unfold val;cases hp:sV w m s a with
 |false=>rfl
 |true=>
  obtain⟨p1,p2,p3,p4⟩:=Dd hp;rw[iQ,ba];cases Az:eO key with
  |false=>rfl
  |true=>
   have Bj:=kQ Az;have l6:=iw (l:=w) (k:=key);have l7:=iw (l:=m) (k:=key);simp only[aY,aw,au,h3.1,h3.2,h4.1,h4.2,h5.1,h5.2,h6.1,h6.2,h7.1,h7.2,Dw,zer,eJ,pR,bC];rw[Lib.ch (n:=(without w key).length+1) (by omega) (by omega),Lib.ch (n:=(without m key).length+1) (by omega) (by omega),Lib.ch (n:=w.length+1) (by omega) (by omega)];simp only[au];cases hA:has w key with
   |true=>rfl
   |false=>
    cases hB:has m key with
    |true=>rfl
    |false=>
     simp only[aw];rw[show decide (((w++[key]).length:ax)<=2)=decide ((w++[key]).length<=2)by rw[ca];omega];cases hC:decide ((w++[key]).length<=2)with
     |true=>rfl
     |false=>
      have hlw:(w++[key]).length=3:=by have:=me hC;rw[bU,bC]at this⊢;omega
      have hfm:(w++[key]).getD 0 ⟨#[]⟩∈w++[key]:=tH (by omega);have LI:((w++[key]).getD 0 ⟨#[]⟩).size<=30:=by
       rcases bf.1 hfm with h|h
       ·exact(kQ (nI p1 (bN _ h))).2
       ·rw[a_]at h;rw[h];exact Bj.2
      have g1:=mO.ok (du.val s a key).1 (du.val s a key).2 ((w++[key]).getD 0 ⟨#[]⟩) sf (by omega);have i1:ic 1 ((w++[key]).length:ax) ((w++[key]).length:ax)=true:=by rw[hlw];rfl
      have ht:(w++[key]).tail.length=2:=by rw[Xz];omega
      have rz:cw (bS (aP [Ck.s] 0)+(w++[key]).tail.length) 16=true:=Lib.ch (by rw[ht];decide) (by rw[ht];decide);simp only[aw,aG (show(0:ax)<((w++[key]).length:ax)by omega),i1,au,Tx,Wr,rz,zer,Dw,eJ,Lib.ch (n:=m.length+1) (b:=16) (by omega) (by omega),g1.1,g1.2];rw[show decide ((m.length:ax)<4)=decide (m.length<4)by rw[ca];omega];cases hD:decide (m.length<4)with
      |true=>rfl
      |false=>
       have hm4:m.length=4:=by have:=me hD;omega
       have hmm:m.getD 0 ⟨#[]⟩∈m:=tH (by omega);have hms:=(kQ (nI p1 (bO _ hmm))).2;have g2:=mO.ok (du.val s a key).1 (du.val s a key).2 (m.getD 0 ⟨#[]⟩) sf (by omega);have i2:ic 1 (m.length:ax) (m.length:ax)=true:=by simp[ic];omega
       have HK:m.tail.length=3:=by rw[Xz];omega
       have rz2:cw (bS (aP [Ck.s] 0)+m.tail.length) 16=true:=Lib.ch (by rw[HK];decide) (by rw[HK];decide);simp only[aw,aG (show(0:ax)<(m.length:ax)by omega),i2,au,rz2,Dw,Lib.ch (n:=m.tail.length+1) (b:=16) (by omega) (by omega),g2.1,g2.2];cases decide (mO.val (du.val s a key).1 (du.val s a key).2 ((w++[key]).getD 0 ⟨#[]⟩)>mO.val (du.val s a key).1 (du.val s a key).2 (m.getD 0 ⟨#[]⟩))<;>rfl
def lens(s:az (az ax)):az aE:=s.map bS
theorem FM(s:az (az ax))(key:aq):lens (du.Eg s key)=lens s:=by
 unfold lens du.Eg;apply jT
 ·simp
 ·intro i h1 h2;simp[du.bq]
theorem Qa(s:az (az ax)):lens (du.half s)=lens s:=by unfold lens du.half;rw[mz];apply QS;intro q _;simp
theorem YG(s:az (az ax))(a:ax)(key:aq):lens (du.val s a key).1=lens s:=by
 unfold du.val;cases fB.oq s a with
 |false=>rfl
 |true=>
  cases decide (a+1=64)with
  |false=>exact FM s key
  |true=>exact(Qa _).trans (FM s key)
theorem Mz(w m:az aq)(s:az (az ax))(a:ax)(key:aq):(val w m s a key).1.length<=w.length+1/\(val w m s a key).2.1.length<=m.length+1/\lens (val w m s a key).2.2.1=lens s:=by
 have hw:=iw (l:=w) (k:=key);have hm:=iw (l:=m) (k:=key);have hs:=YG s a key;unfold val;cases sV w m s a&&eO key with
 |false=>exact⟨by rw[aw];exact jx _,by rw[aw];exact jx _,rfl⟩
 |true=>
  rw[au];cases has w key with
  |true=>refine⟨?_, ?_,hs⟩<;>(simp only[au];simp;try omega)
  |false=>
   cases has m key with
   |true=>refine⟨?_, ?_,hs⟩<;>(simp only[au,aw];simp;try omega)
   |false=>
    cases decide ((w++[key]).length<=2)with
    |true=>refine⟨?_, ?_,hs⟩<;>(simp only[au,aw];simp;try omega)
    |false=>
     cases decide (m.length<4)with
     |true=>refine⟨?_, ?_,hs⟩<;>(simp only[au,aw];simp;try omega)
     |false=>
      cases decide (mO.val (du.val s a key).1 (du.val s a key).2 ((w++[key]).getD 0 ⟨#[]⟩)>mO.val (du.val s a key).1 (du.val s a key).2 (m.getD 0 ⟨#[]⟩))with
      |true=>refine⟨?_, ?_,hs⟩<;>(simp only[au,aw];simp;try omega)
      |false=>refine⟨?_, ?_,hs⟩<;>(simp only[au,aw];simp;try omega)
end eT

namespace kZ
open Lib (rr rs re rf rc Px En el)
open e9 (has)
open gd (fc So fV mE xG drop_nil C_ t_ Hq S_ sa)
def yE(p:Px)(e:En):Px:=
 {p with
  w:=(eT.val p.w p.m p.s p.a e.k).1
  m:=(eT.val p.w p.m p.s p.a e.k).2.1
  s:=(eT.val p.w p.m p.s p.a e.k).2.2.1
  a:=(eT.val p.w p.m p.s p.a e.k).2.2.2.1
  en:=bif has (eT.val p.w p.m p.s p.a e.k).1 e.k||has (eT.val p.w p.m p.s p.a e.k).2.1 e.k then mE (fV p.en (eT.val p.w p.m p.s p.a e.k).2.2.2.2) e else fV p.en (eT.val p.w p.m p.s p.a e.k).2.2.2.2}
theorem am4{en:az En}{w m:az aq}(h:(b8 en.length).all (nU.IC en w m)=ai):So en/\∀e∈en,1<=e.k.size:=by
 rw[bu]at h;have h1:∀i (hi:i<en.length),nU.IC en w m i=true:=λi hi=>h i (by simpa using hi);constructor
 ·have adj:∀d i (hi:i+d+1<en.length),fc (el en i).k (el en (i+d+1)).k=true:=by
   intro d;induction d with
   |zero=>
    intro i hi;have:=h1 (i+1) (by omega);unfold nU.IC at this;rw[aM,aM,dJ]at this;rcases this.2.1 with h|h
    ·have:=cq h;omega
    ·exact h
   |succ d ih=>
    intro i hi;have a:=ih i (by omega);have:=h1 (i+d+1+1) (by omega);unfold nU.IC at this;rw[aM,aM,dJ]at this;rcases this.2.1 with h|h
    ·have:=cq h;omega
    ·exact lU.pk _ _ _ a h
  unfold So;rw[dA];intro i j hi hj PS;have:=adj (j-i-1) i (by omega);rw[show i+(j-i-1)+1=j by omega,eG hi,eG hj]at this;exact this
 ·intro e he;obtain⟨i,hi,rfl⟩:=c8 he;have:=h1 i hi;unfold nU.IC nU.vl at this;rw[aM,eG hi]at this;exact(m8.EC this.1).1.1
theorem H7{p:Px}(h:oX.jb p=ai):So p.en/\(∀e∈p.en,1<=e.k.size)/\p.en.length<=6/\p.w.length<=2/\p.m.length<=4/\p.fe.length<=20/\p.cl.length<=6/\(1<=p.now/\p.now<=1000000000)/\(0<=p.hits/\p.hits<=1000000000)/\jz.sV p.w p.m p.s p.a=ai/\(∀i,i<p.fe.length->np.nM p.now (el p.fe i)=ai):=by
 unfold oX.jb at h;simp only[aM,bh]at h;obtain⟨h1,h2,h3,h4,h5,h6,h7⟩:=h;unfold nU.NJ at h2;simp only[aM,bh]at h2;obtain⟨g1,g2,g3⟩:=h2;obtain⟨s1,s2⟩:=am4 g1;obtain⟨_,q2,q3,_⟩:=eT.Dd g2;refine⟨s1,s2,by omega,q2,q3,h3,h4,h1,h5,g2,λi hi=> ?_⟩
 rw[bu]at h6;have:=h6 i (by simpa using hi);rw[aM]at this;exact this.1
theorem jO{p:Px}(h:oX.jb p=ai):p.Fit 48:=by
 obtain⟨_,_,a1,a2,a3,a4,a5,_,_,hp,_⟩:=H7 h;obtain⟨_,_,_,hs⟩:=eT.Dd hp;unfold fB.oq at hs;simp only[aM,bh,bu]at hs;obtain⟨s1,_,s3⟩:=hs;have s4:∀q∈p.s,q.length=16:=λq hq=>by have:=s3 q hq;unfold fB.sI at this;rw[aM,bh]at this;exact this.1
 refine⟨by omega,by omega,by omega,⟨by omega,λq hq=>by rw[s4 q hq];omega, ?_⟩,by omega,by omega⟩
 have:p.s.map bS=List.replicate 3 16:=by
  rw[List.eq_replicate_iff];refine⟨by rw[bV,s1],λx hx=> ?_⟩
  obtain⟨q,hq,rfl⟩:=cU.1 hx;exact s4 q hq
 rw[this];decide
end kZ

namespace s_
open Lib (Px Cl Fe En el)
open gv (s9 told)
def kG(f:Fe):En:=⟨f.k,f.st,f.li,f.t⟩
def cls(p:Px)(f:ax)(life:ax):Px×aU:=
 bif s9 p f&&decide (0<=life/\life<=999999)then
  (bif decide (life>0)then kZ.yE (told p f.toNat {el p.fe f.toNat with sta:=2,li:=life,st:=p.now} 2) (kG {el p.fe f.toNat with sta:=2,li:=life,st:=p.now})
   else told p f.toNat {el p.fe f.toNat with sta:=2,li:=life,st:=p.now} 2,ai)
 else(p,ak)
theorem Jl{p:Px}{f life:ax}:(cls p f life).1.now=p.now/\(cls p f life).1.hits=p.hits:=by
 unfold cls;cases s9 p f&&decide (0<=life/\life<=999999)with
 |false=>exact⟨rfl,rfl⟩
 |true=>cases decide (life>0)<;>exact⟨rfl,rfl⟩
end s_

namespace il
open Lib (Px Cl Fe En el rc rf re)
open e9 (has without)
open jz (eO)
open oX (jb)
open gd (So fV)
def pX(e:En)(now:ax):aU:=Ef.v e.k e.st e.li e.bo now
def jn(l:az Cl)(c:Cl):az Cl:=l.filter (λx=>decide (x.id<c.id))++[c]++l.filter (λx=>decide (x.id>c.id))
def lI(l:az Cl)(id:ax):aU:=l.any λx=>decide (x.id=id)
def ID(l:az En)(key:aq):aA En:=l.find? λe=>decide (e.k=key)
def FU(key:aq)(f:Fe):aU:=decide (f.k=key)&&decide (f.sta=1)
def On(l:az Fe)(key:aq):aA aE:=l.findIdx? (FU key)
def rW(key:aq):Fe:=⟨key,⟨#[]⟩,1,0,0⟩
def put(p:Px)(id:ax)(key:aq)(h:aU)(fe:az Fe)(i:aE):Px:=
 {p with en:=bif h then fV p.en key else p.en,w:=bif h then without p.w key else p.w,m:=bif h then without p.m key else p.m,s:=(du.val p.s p.a key).1,a:=(du.val p.s p.a key).2,fe:=fe,cl:=jn p.cl ⟨id,key,(i:ax)+1,0,1,(el fe i).t,0⟩}
def sS(p:Px)(id:ax)(key:aq)(h:aU):Px×ax:=
 match On p.fe key with
 |some i=>(put p id key h p.fe i,0)
 |none=>bif decide (p.fe.length<20)then(put p id key h (p.fe++[rW key]) p.fe.length,0)else(p,2)
def hit(p:Px)(id:ax)(key:aq)(e:En):Px:=
 {p with w:=(eT.val p.w p.m p.s p.a key).1,m:=(eT.val p.w p.m p.s p.a key).2.1,s:=(eT.val p.w p.m p.s p.a key).2.2.1,a:=(eT.val p.w p.m p.s p.a key).2.2.2.1,cl:=jn p.cl ⟨id,key,0,e.st,2,e.bo,p.now-e.st⟩,hits:=bif decide (p.hits<1000000000)then p.hits+1 else p.hits}
def ask(p:Px)(id:ax)(key:aq):Px×ax:=
 bif jb p&&(decide (1<=id/\id<=9)&&(eO key&&(!lI p.cl id&&decide (p.cl.length<6))))then
  match ID p.en key with
  |some e=>bif pX e p.now then(hit p id key e,0)else sS p id key ai
  |none=>sS p id key ak
 else(p,1)
theorem CI{α:Type}(l:az α)(q:α->aU)(p:aE->aU)(h:∀i (hi:i<l.length),p i=q l[i]):decide (Lib.fi p l.length 0≥0)=l.any q:=by
 rcases Lib.py p l.length 0 with ⟨e,ha⟩|⟨k,_,hk,e,hp,_⟩
 ·rw[e,aK (by omega)];symm;rw[List.any_eq_false];intro x hx;obtain⟨i,hi,rfl⟩:=c8 hx;rw[<-h i hi,ha i (by omega) (by omega)];simp
 ·rw[e,aG (by omega)];symm;rw[Gu];exact⟨_,bB (by omega:k<l.length),by rw[<-h k (by omega)];exact hp⟩
theorem BH{α:Type}[Inhabited α](l:az α)(q:α->aU)(p:aE->aU)(h:∀i (hi:i<l.length),p i=q l[i]):
  (Lib.fi p l.length 0= -1/\l.find? q=aj/\l.findIdx? q=aj)\/∃i,i<l.length/\Lib.fi p l.length 0=(i:ax)/\l.find? q=ah (el l i)/\l.findIdx? q=ah i:=by
 rcases Lib.py p l.length 0 with ⟨e,ha⟩|⟨k,_,hk,e,hp,hb⟩
 ·have hn:∀x∈l,q x=false:=λx hx=>by obtain⟨i,hi,rfl⟩:=c8 hx;rw[<-h i hi,ha i (by omega) (by omega)]
  refine .inl ⟨e,Xx.2 λx hx=>by rw[hn x hx];simp,ER.2 hn⟩
 ·have vv:k<l.length:=by omega
  have f:l.findIdx? q=ah k:=Am.2 ⟨vv,by rw[<-h k vv];exact hp,λj hj=>by rw[<-h j (by omega),hb j (by omega) hj];simp⟩;refine .inr ⟨k,vv,e, ?_,f⟩;rw[AW];exact⟨by rw[eG vv,<-h k vv];exact hp,k,vv,(eG vv).symm,λj hj=>by rw[<-h j (by omega),hb j (by omega) hj];rfl⟩
def lid(id:ax)(y:az CV):aU:=decide (bE (y.getD 0 (.b ak))<id)
theorem T7{l:az Cl}{c:Cl}(cs:l.Pairwise λa b=>a.id<b.id)(hn:lI l c.id=ak):
  (rc l).take ((rc l).takeWhile (lid c.id)).length++[Cl.row c]++(rc l).drop ((rc l).takeWhile (lid c.id)).length=rc (jn l c):=by
 rw[yF,xH];have iz:∀y∈l,y.id≠c.id:=λy hy e=>by unfold lI at hn;rw[List.any_eq_false]at hn;exact hn y hy (aG e)
 obtain⟨t1,t2⟩:=Lib.Ad (λx:Cl=>decide (x.id<c.id)) (λx=>decide (x.id>c.id)) l (λy hy=>by
  have:=iz y hy;by_cases h:y.id<c.id
  ·rw[aG h,aK (by omega)];rfl
  ·rw[aK h,aG (by omega)];rfl) (cs.imp λ{a b} hab h=>aG (by have:=cq h;omega))
 unfold Lib.rc;rw[Pf,Pc];have e:lid c.id∘Cl.row=λx:Cl=>decide (x.id<c.id):=rfl;rw[e,t1,t2];unfold jn;rw[dh,dh];rfl
end il

namespace wV
open Lib (rd el Fi)
open dG (sU j5)
def kN(left:aQ)(i:aE)(f:Fi):ax:=bif decide (i<left.length)then iu ai f.kp (iu ak (bE (ar left i 0)) (f.t.size:ax))else f.kp
def Pv(left:aQ)(i:aE)(f:Fi):Fi:=⟨f.n,f.t.extract 0 (kN left i f).toNat,kN left i f⟩
def LX(d:az Fi)(left:aQ):aA (az Fi):=bif sU d then ah (d.mapIdx (Pv left))else aj
theorem LR(left:aQ)(i:aE){f:Fi}(h:0<=f.kp/\f.kp<=(f.t.size:ax)):f.kp<=kN left i f/\kN left i f<=(f.t.size:ax):=by
 unfold kN iu;cases decide (i<left.length)with
 |false=>rw[aw];omega
 |true=>simp only[au,aw];split<;>split<;>omega
theorem ok(d:az Fi)(left:aQ)(hd:d.length<=1000):c (rd d) left=ai/\v (rd d) left=rL.res (LX d left):=by
 refine out _ _ ?_;unfold vo b LX;have h1:=rL.ZW d (by omega);have h2:=tq.ok (rd d) (by rw[eg];omega);rw[h1.1,h1.2,au];cases hk:sU d with
 |false=>rfl
 |true=>
 rw[aY,aw,h2.1,h2.2,au,au,eg];obtain⟨q1,q2,q3⟩:=j5.1 hk;have rn:∀f∈d,0<=f.kp/\f.kp<=(f.t.size:ax):=λf hf=>by have:=q2 f hf;unfold dG.nM at this;simp only[aM,bh,dp,e_]at this;exact this.2.2
 refine nR Fi.row d (Pv left) (λm (i:aE) (x:aQ)=>l5 Lib.cJ (λ(_ _:aQ) (_ _:ax) (y9:aQ)=>ah (y9,ai)) m left (rd d) (d.length:ax) (i:ax) x) (λx=>ah (x,ai)) (λm i L h h2 hl he=> ?_) (λm L hl=> ?_) Lib.cJ (cu (by omega))
 ·have hr:=LR left i (rn _ (bB h));have h0:=(rn _ (bB h)).1;have hLl:(L.map Fi.row).length=L.length:=bV ..;have hs:∀n:ax,n=kN left i d[i]->eC (L.map Fi.row) i 0 [CV.s d[i].n,CV.s (d[i].t.extract (aZ 0) n.toNat),CV.i ao n]=(L.set i (Pv left i d[i])).map Fi.row:=λn hn=>by subst hn;exact kW Fi.row L i 0 _ (Pv left i d[i]) h2 (by rw[he];rfl)
  have ci:∀k n,bE (CV.i k n)=n:=λ_ _=>rfl;have cs:∀x,bz (CV.s x)=x:=λ_=>rfl;by_cases hi:i<left.length
  ·have e:kN left i d[i]=iu ai d[i].kp (iu ak (bE (ar left i 0)) (d[i].t.size:ax)):=by unfold kN;rw[aG hi];rfl
   have ib:ic 0 (iu ai d[i].kp (iu ak (bE (ar left i 0)) (d[i].t.size:ax))) (d[i].t.size:ax)=true:=by rw[<-e];simp[ic];omega
   simp only[l5,r5,Lib.c6,h,hi,h2,hLl,eg,aN,Lib.cm,aL,au,Lib.dN,Kf h,Xa h,Xb h,cs,ci,ib,hs _ e.symm,Lib.cS h (by omega:d.length<=9223372036854775807)]
  ·have e:kN left i d[i]=d[i].kp:=by unfold kN;rw[aK hi];rfl
   have ib:ic 0 d[i].kp (d[i].t.size:ax)=true:=by have:=rn _ (bB h);simp[ic];omega
   simp only[l5,r5,Lib.c6,h,hi,h2,hLl,eg,aN,bc,Lib.cm,aL,au,aw,Lib.dN,Kf h,Xa h,Xb h,cs,ci,ib,hs _ e.symm,Lib.cS h (by omega:d.length<=9223372036854775807)]
 ·simp only[l5,r5,Lib.c6,bk,bc,aw]
end wV

namespace jL
def eo(l:aQ)(i:aE):aU:=m8.v (bz (ar l i 0)) (bE (ar l i 1)) (bE (ar l i 2)) (bz (ar l i 3))
def tx(l:aQ)(i:aE):aq:=jK.s5 (bz (ar l i 0)) (bE (ar l i 1)) (bE (ar l i 2)) (bz (ar l i 3))
def fs(l:aQ):aE->aE->aq->aA aq
 |0,_,acc=>ah acc
 |d+1,i,acc=>if eo l i=ai then fs l d (i+1) (acc++fH.fr (tx l i))else aj
theorem HA(l:aQ)(d i:aE)(acc:aq):fs l (d+1) i acc=if eo l i=ai then fs l d (i+1) (acc++fH.fr (tx l i))else none:=rfl
def fin(o:aA aq)(kf:aA R)(kt:aq->aA R):aA R:=match o with|some x=>kt x|none=>kf
theorem NC(l:aQ)(hl:l.length<=1048576)(F:aE->aE->aq->aA R)(kf:aA R)(kt:aq->aA R)
  (hT:∀m i acc,i<l.length->acc.size<=2000*i->(fH.fr (tx l i)).size<=2000->eo l i=ai->F (m+1) i acc=F m (i+1) (acc++fH.fr (tx l i)))
  (hF:∀m i acc,i<l.length->eo l i=ak->F (m+1) i acc=kf) (hE:∀m acc,F (m+1) l.length acc=kt acc):F Lib.cJ 0 ⟨#[]⟩=fin (fs l l.length 0 ⟨#[]⟩) kf kt:=by
 have:=Lib.fE (λn (z:aE×aq)=>F n z.1 z.2) (λz=>l.length-z.1) (λz=>z.1<=l.length/\z.2.size<=2000*z.1) (λz=>fin (fs l (l.length-z.1) z.1 z.2) kf kt) (λm z hz=>by
  obtain⟨i,acc⟩:=z;obtain⟨h1,h2⟩:=hz;dsimp only at h1 h2⊢;by_cases h:i<l.length
  ·have e:l.length-i=(l.length-(i+1))+1:=by omega
   cases ho:eo l i with
   |true=>
    right;have hs:=mZ.ug ho;have hf:(fH.fr (tx l i)).size<=2000:=by have:=fH.X8 (t:=tx l i) (by unfold tx;omega);unfold tx at this⊢;omega
    exact⟨(i+1,acc++fH.fr (tx l i)),⟨h,by dsimp only;rw[Lib.km];omega⟩,by dsimp only;omega,by dsimp only;rw[e,HA,bA ho],hT m i acc h h2 hf ho⟩
   |false=>left;rw[hF m i acc h ho,e,HA,bJ (by simp[ho])];rfl
  ·left;have:i=l.length:=by omega
   subst this;rw[hE,Nat.sub_self];rfl) Lib.cJ (0,⟨#[]⟩) ⟨bD _,bD _⟩ (cu (by dsimp only;omega))
 simpa using this
def nm:aq:={data:= #[ay 110,ay 101,ay 119]}
def kl(has:aU)(x:aq):aQ:=(if has=ai then [[CV.i ao 4,CV.s nm,CV.s {data:= #[]},CV.s {data:= #[]}]]else [])++[[CV.i ao 1,CV.s nm,CV.s x,CV.s {data:= #[]}],[CV.i ao 2,CV.s nm,CV.s {data:= #[]},CV.s {data:= #[]}],[CV.i ao 3,CV.s nm,CV.s {data:= #[]},CV.s {data:= #[ay 107,ay 101,ay 112,ay 116]}]]
def val(d l:aQ):aQ×aU:=bif lG.val d then(match fs l l.length 0 ⟨#[]⟩with|some x=>(kl (wb.val d nm).2 x,ai)|none=>([],ak))else([],ak)
theorem ok(d l:aQ)(hd:d.length<=1048576)(hl:l.length<=1048576):c d l=ai/\v d l=val d l:=by
 refine out d l ?_;have k1:=lG.ok d (by omega);have k2:=wb.ok d {data:= #[ay 110,ay 101,ay 119]} (by omega);have e2:wb.val d {data:= #[ay 110,ay 101,ay 119]}=wb.val d nm:=rfl;unfold vo b val;rw[k1.1,k1.2,au];cases lG.val d with
 |false=>rfl
 |true=>
  rw[aY,aw,au,k2.1,au,k2.2,e2];have tr:∀(K0:aQ->aU->aq->ax->aQ->aQ->aA (aQ×aU)) (K1:aQ->aU->aq->ax->aQ->aA (aQ×aU)) (base:aQ) (kt:aq->aA (aQ×aU)) (h0:∀x i,K0 l ak x i [] base=ah ([],ak)) (h1:∀x i,K1 l ak x i base=kt x),l9 Lib.cJ K0 K1 Lib.cJ l ak ⟨#[]⟩ 0 base=fin (fs l l.length 0 ⟨#[]⟩) (ah ([],ak)) kt:=by
   intro K0 K1 base kt h0 h1;refine NC l hl (λm i acc=>l9 Lib.cJ K0 K1 m l ak acc (i:ax) base) _ kt (λm i acc hi ha hf ho=> ?_) (λm i acc hi ho=> ?_) (λm acc=> ?_)
   ·have kI:bG ((i:ax)+1)=((i+1:aE):ax):=c_ (by omega) (by omega);have t1:jK.v (bz (ar l i 0)) (bE (ar l i 1)) (bE (ar l i (1+1))) (bz (ar l i (1+1+1)))=(tx l i,ai):=by unfold jK.v;exact bA ho
    have f1:=fH.ok (tx l i);have f2:fH.val (tx l i)=(fH.fr (tx l i),ai):=by unfold fH.val;have q1:=mZ.BU ho;have q2:=mZ.ug ho;rw[bA ⟨q1,dg q2 (by omega)⟩]
    simp only[l9,r9,Lib.c6,Lib.cm,Lib.dN,hi,aN,aL,au,aw,t1,f1.1,f1.2,f2,aY,aG (show acc.size+(fH.fr (tx l i)).size<=4611686018427387904 by omega),kI]
   ·have t1:jK.v (bz (ar l i 0)) (bE (ar l i 1)) (bE (ar l i (1+1))) (bz (ar l i (1+1+1)))=(⟨#[]⟩,ak):=by unfold jK.v;rw[bJ (by intro h;have h':eo l i=true:=h;rw[ho]at h';cases h')]
    have f1:=fH.ok ⟨#[]⟩;simp only[l9,r9,Lib.c6,Lib.cm,Lib.dN,hi,aN,aL,au,t1,f1.1,bP];exact h0 acc i
   ·simp only[l9,r9,Lib.c6,bk,bc,aw];exact h1 acc _
  cases hh:(wb.val d nm).2 with
  |true=>rw[au];refine(tr _ _ _ (λx=>ah (kl ai x,ai)) (λ_ _=>rfl) (λ_ _=>rfl)).trans ?_;cases fs l l.length 0 ⟨#[]⟩<;>rfl
  |false=>rw[aw];refine(tr _ _ _ (λx=>ah (kl ak x,ai)) (λ_ _=>rfl) (λ_ _=>rfl)).trans ?_;cases fs l l.length 0 ⟨#[]⟩<;>rfl
end jL

namespace pT
open Lib (re rd el En Fi)
open iB (kd kp Ft tx IE base bt qZ awr)
open dG (kl act sU nM put without HX ra Ac)
open gd (So mE fc)
open wV (LX Pv kN LR)
abbrev q_:aq:={data:= #[ay 110,ay 101,ay 119]}
def tv(x:aq):az Ac:=[⟨1,q_,x,⟨#[]⟩⟩,⟨2,q_,⟨#[]⟩,⟨#[]⟩⟩,⟨3,q_,⟨#[]⟩,qZ⟩]
theorem Tg(T:aq):T.extract 0 T.size=T:=Lib.Hr T
theorem Qb{d:az Fi}(h:sU d=ai)(hk:∀f∈d,f.kp=(f.t.size:ax))(left:aQ):LX d left=ah d:=by
 unfold LX;rw[h,au];congr 1;apply jT (by simp);intro i h1 h2;rw[List.getElem_mapIdx];have hf:=hk _ (bB h2);have hr:=LR left i (f:=d[i]) ⟨by omega,by omega⟩;have e:kN left i d[i]=(d[i].t.size:ax):=by omega
 unfold Pv;rw[e,dK,Tg];cases hd:d[i];rw[hd]at hf;dsimp only at hf⊢;rw[hf]
theorem Pp(o:aA aq):∀f∈base o,f.kp=(f.t.size:ax):=λf hf=>by
 cases o with
 |none=>cases hf
 |some t=>rw[a_.1 hf]
theorem less:fc qZ q_=true:=by unfold fc;rw[kD,kD];rfl
theorem as6(t:aq)(k:ax)(h1:t.size<=20000)(h2:0<=k/\k<=(t.size:ax)):nM ⟨q_,t,k⟩=true:=by unfold nM;have:((q_.size:aE):ax)=3:=rfl;rw[this,aG (by omega),aG h2,aK (by dsimp only;omega)];rfl
theorem Io{o:aA aq}{x:aq}{k:ax}(h:(bt o).size<=20000)(hx:x.size<=20000)(hk:0<=k/\k<=(x.size:ax)):sU (base o++[⟨q_,x,k⟩])=true:=by
 refine dG.j5.2 ⟨?_,λf hf=> ?_, ?_⟩
 ·cases o<;>simp[base]
 ·rcases bf.1 hf with hf|hf
  ·exact(dG.j5.1 (iB.uD h)).2.1 f hf
  ·rw[a_.1 hf];exact as6 x k hx hk
 ·cases o with
  |none=>exact Ix ..
  |some t=>exact qE.2 ⟨λy hy=>by rw[a_.1 hy];exact less,Ix ..⟩
theorem nKN:qZ≠q_:=by decide
theorem Tk(o:aA aq)(x:aq)(k:ax):(base o++[(⟨q_,x,k⟩:Fi)]).find? (λy=>decide (y.n=q_))=ah ⟨q_,x,k⟩:=by
 cases o with
 |none=>rfl
 |some t=>rw[show base (ah t)++[(⟨q_,x,k⟩:Fi)]=[⟨qZ,t,t.size⟩,⟨q_,x,k⟩]from rfl,KW (by simp[nKN]),List.find?_cons_of_pos (by simp)]
theorem ak8(o:aA aq):(base o).find? (λy=>decide (y.n=q_))=none:=by
 cases o with
 |none=>rfl
 |some t=>rw[show base (ah t)=[⟨qZ,t,t.size⟩]from rfl,KW (by simp[nKN]),List.find?_nil]
theorem amT(o:aA aq)(x:aq)(k:ax):put (base o) ⟨q_,x,k⟩=base o++[⟨q_,x,k⟩]:=by
 cases o with
 |none=>rfl
 |some t=>unfold put;rw[show base (ah t)=[⟨qZ,t,t.size⟩]from rfl,dB (by simpa using less),cC (by simp[less])];rfl
theorem ahd(o:aA aq)(x y:aq)(k m:ax):put (base o++[⟨q_,y,m⟩]) ⟨q_,x,k⟩=base o++[⟨q_,x,k⟩]:=by
 cases o with
 |none=>exact iB.yo rfl
 |some t=>unfold put;rw[show base (ah t)++[(⟨q_,y,m⟩:Fi)]=[⟨qZ,t,t.size⟩,⟨q_,y,m⟩]from rfl,dB (by simpa using less),cC (by rw[dG.irrefl];simp),cC (by simp[less]),cC (by simp)];rfl
theorem mov(o:aA aq)(x:aq)(k:ax):put (without (base o++[⟨q_,x,k⟩]) q_) ⟨qZ,x,k⟩=[⟨qZ,x,k⟩]:=by
 have:without (base o++[⟨q_,x,k⟩]) q_=base o:=by
  unfold without;rw[iq,cC (by simp),List.filter_nil,dj,eD];intro f hf;cases o with
  |none=>cases hf
  |some t=>rw[a_.1 hf];simp[nKN]
 rw[this];cases o with
 |none=>rfl
 |some t=>exact iB.yo rfl
theorem a1{o:aA aq}{x:aq}(h:(bt o).size<=20000)(hx:x.size<=20000):act (base o) 1 q_ x ⟨#[]⟩=ah (base o++[⟨q_,x,0⟩]):=by
 unfold act;rw[iB.uD h,show dG.kj 1 x ⟨#[]⟩=ai from by unfold dG.kj;simp,aL,au];have hn:HX (base o) 1 q_ x ⟨#[]⟩=ah (base o++[⟨q_,x,0⟩]):=by unfold HX;rw[ak8];dsimp only;rw[bA rfl,amT]
 rw[hn];dsimp only;rw[Io h hx ⟨by omega,by omega⟩];rfl
theorem a2{o:aA aq}{x:aq}(h:(bt o).size<=20000)(hx:x.size<=20000):act (base o++[⟨q_,x,0⟩]) 2 q_ ⟨#[]⟩ ⟨#[]⟩=ah (base o++[⟨q_,x,x.size⟩]):=by
 unfold act;rw[Io h hx ⟨by omega,by omega⟩,show dG.kj 2 ⟨#[]⟩ ⟨#[]⟩=ai from by unfold dG.kj;simp,aL,au];have hn:HX (base o++[⟨q_,x,0⟩]) 2 q_ ⟨#[]⟩ ⟨#[]⟩=ah (base o++[⟨q_,x,x.size⟩]):=by unfold HX;rw[Tk];dsimp only;rw[bJ (by omega),bA rfl,ahd]
 rw[hn];dsimp only;rw[Io h hx ⟨by omega,by omega⟩];rfl
theorem a3{o:aA aq}{x:aq}(h:(bt o).size<=20000)(hx:x.size<=20000):act (base o++[⟨q_,x,x.size⟩]) 3 q_ ⟨#[]⟩ qZ=ah (base (ah x)):=by
 unfold act;rw[Io h hx ⟨by omega,by omega⟩,show dG.kj 3 ⟨#[]⟩ qZ=ai from by unfold dG.kj;simp,aL,au];have hn:HX (base o++[⟨q_,x,x.size⟩]) 3 q_ ⟨#[]⟩ qZ=ah (base (ah x)):=by unfold HX;rw[Tk];dsimp only;rw[bJ (by omega),bJ (by omega),bA rfl,bJ (by rintro (h|h);exact h rfl;exact nKN h),mov];rfl
 rw[hn];dsimp only;rw[iB.uD (o:=ah x) hx];rfl
theorem asX{o:aA aq}{x:aq}(h:(bt o).size<=20000)(hx:x.size<=20000):kl (base o) 0 (tv x)=(base (ah x),3):=by unfold tv kl;dsimp only;rw[a1 h hx];dsimp only;unfold kl;dsimp only;rw[a2 h hx];dsimp only;unfold kl;dsimp only;rw[a3 h hx];rfl
theorem afD(l:az En)(PQ:∀x∈l,Ft x=ai):∀(d i:aE) (acc:aq),d+i=l.length->jL.fs (re l) d i acc=ah (acc++tx (l.drop i)):=by
 intro d;induction d with
 |zero=>
  intro i acc h;have:i=l.length:=by omega
  subst this;rw[di];exact lV ah (qA).symm
 |succ d ih=>
  intro i acc h;have hi:i<l.length:=by omega
  have h0:jL.eo (re l) i=true:=by unfold jL.eo;rw[oD hi,qx hi,show ar (re l) i 2=CV.i ao (el l i).li from qy hi,show ar (re l) i 3=CV.s (el l i).bo from qz hi];exact PQ _ (jY hi)
  have h1:jL.tx (re l) i=iB.s5 l[i]:=by unfold jL.tx;rw[oD hi,qx hi,show ar (re l) i 2=CV.i ao (el l i).li from qy hi,show ar (re l) i 3=CV.s (el l i).bo from qz hi,eG hi];rfl
  rw[jL.HA,bA h0,h1,ih (i+1) _ (by omega),dC hi,DI];rfl
end pT

namespace jS
open Lib (En Fi Px Cl Fe el re rd rf rc rs rr)
open gd (So mE)
open dG (sU kl Ac ra)
open iB (s5 Ft IE tx kp base bt sG)
open pT (tv)
open wV (LX)
def dk(o:aA (az En)):az Fi:=base (o.map tx)
def es(o:aA (az En)):az En:=o.getD []
theorem Jd(o:aA (az En)):bt (o.map tx)=tx (es o):=by cases o<;>rfl
theorem zF(o:aA (az En)):(dk o).length<=1:=by cases o<;>simp[dk,base]
theorem Jp{o:aA (az En)}(h:(tx (es o)).size<=20000):sU (dk o)=true:=iB.uD (by rw[Jd];exact h)
theorem XU{o:aA (az En)}(h:(tx (es o)).size<=20000)(left:aQ):LX (dk o) left=ah (dk o):=pT.Qb (Jp h) (pT.Pp _) left
theorem Ta{o:aA (az En)}(h:(tx (es o)).size<=20000)(he:∀e∈es o,Ft e=ai):(U61.c (rd (dk o))=ai/\U61.v (rd (dk o))=re (kp (es o)))/\(Bv.c (rd (dk o))=ai/\Bv.v (rd (dk o))=re (kp (es o))):=by refine iB.fk (dk o) (es o) ⟨#[]⟩ (Jp h) ?_ he (.inl rfl);unfold dk;rw[iB.Po,Jd];exact(qA).symm
theorem NH{o:aA (az En)}{e:En}(h:(tx (es o)).size+(IE e).size<=20000):kl (dk o) 0 (sG (IE e))=(dk (ah (es o++[e])),2):=by unfold dk;rw[iB.T_ (by rw[Jd];exact h),Jd,ji,iB.aau]
theorem NG{o:aA (az En)}{l:az En}(h:(tx (es o)).size<=20000)(hl:(tx l).size<=20000):kl (dk o) 0 (tv (tx l))=(dk (ah l),3):=pT.asX (by rw[Jd];exact h) hl
theorem abv{o:aA (az En)}{l:az En}(hs:(tx (es o)).size<=20000)(PQ:∀x∈l,Ft x=ai):jL.val (rd (dk o)) (re l)=(ra (tv (tx l)),ai):=by
 unfold jL.val;rw[show lG.val (rd (dk o))=ai from Jp hs,au,de,pT.afD l PQ l.length 0 ⟨#[]⟩ (by omega),fg];have zN:(wb.val (rd (dk o)) jL.nm).2=false:=by unfold dk;rw[iB.fileAt,show jL.nm=pT.q_ from rfl,pT.ak8]
 dsimp only;rw[zN,show(⟨#[]⟩:aq)++tx l=tx l from lW];rfl
end jS

namespace fP
open Lib (rr rs re rf rc Px En el)
open gd (So fV mE fc)
open kZ (yE)
def KB:az ax:=[0,0,0,0,0,0,0,0,0,0,0,0,0,0,0,0]
def p0(now:ax):Px:=⟨now,[],[],[],[KB,KB,KB],0,[],[],0⟩
def pX(e:En)(now:ax):aU:=Ef.v e.k e.st e.li e.bo now
def one(now:ax)(p:Px)(e:En):Px:=bif pX e now then yE p e else p
def qu(now:ax)(l:az En):Px:=l.foldl (one now) (p0 now)
structure Inv (now:ax) (i:aE) (p:Px):Prop where
 so:So p.en
 ks:∀e∈p.en,1<=e.k.size
 en:p.en.length<=i
 w:p.w.length<=i
 m:p.m.length<=i
 s:eT.lens p.s=[16,16,16]
 fe:p.fe=[]
 cl:p.cl=[]
 now:p.now=now
 hits:p.hits=0
theorem aua(now:ax):Inv now 0 (p0 now):=⟨gg,λe h=>(nomatch h),cG _,cG _,cG _,rfl,rfl,rfl,rfl,rfl⟩
theorem Ue{s:az (az ax)}(h:eT.lens s=[16,16,16]):s.length=3/\(∀q∈s,q.length=16)/\(s.map bS).sum=48:=by
 refine⟨?_,λq hq=> ?_, ?_⟩
 ·have:=lV bS h;unfold eT.lens at this;simpa using this
 ·have:q.length∈eT.lens s:=cU.2 ⟨q,hq,rfl⟩;rw[h]at this;simpa using this
 ·rw[show s.map bS=[16,16,16]from h];rfl
theorem Inv.fit{now:ax}{i:aE}{p:Px}(h:Inv now i p){n:aE}(hn:i<=n)(h48:48<=n):p.Fit n:=by
 obtain⟨a,b,c⟩:=Ue h.s;have hq:∀q∈p.s,q.length<=n:=λq hq=>by have:=b q hq;omega
 exact⟨dg h.en hn,dg h.w hn,dg h.m hn,⟨by omega,hq,by omega⟩,by rw[h.fe];exact bD _,by rw[h.cl];exact bD _⟩
theorem Inv.up{now:ax}{i:aE}{p:Px}(h:Inv now i p):Inv now (i+1) p:=⟨h.so,h.ks,nu h.en,nu h.w,nu h.m,h.s,h.fe,h.cl,h.now,h.hits⟩
theorem wz{en:az En}(h:So en)(e:En):So (mE en e):=by have:=(lU.xW (gd.C_ h) e.k e.st e.li e.bo).1.1;rw[gd.t_]at this;unfold Lib.re at this;rw[kY]at this;exact this
theorem Inv.store{now:ax}{i:aE}{p:Px}(h:Inv now i p)(e:En)(he:1<=e.k.size):Inv now (i+1) (yE p e):=by
 obtain⟨b1,b2,b3⟩:=eT.Mz p.w p.m p.s p.a e.k;have hw:=h.w;have hm:=h.m;have hn:=h.en;refine⟨?_, ?_, ?_,dg b1 (by omega),dg b2 (by omega),b3.trans h.s,h.fe,h.cl,h.now,h.hits⟩
 ·show So (bif _ then mE (fV p.en _) e else fV p.en _);cases e9.has (eT.val p.w p.m p.s p.a e.k).1 e.k||e9.has (eT.val p.w p.m p.s p.a e.k).2.1 e.k with
  |true=>exact wz (h.so.drop _) e
  |false=>exact h.so.drop _
 ·show∀x∈(bif _ then mE (fV p.en _) e else fV p.en _),1<=x.k.size;have hd:∀x∈fV p.en (eT.val p.w p.m p.s p.a e.k).2.2.2.2,1<=x.k.size:=λx hx=>h.ks x (dm.1 hx).1;cases e9.has (eT.val p.w p.m p.s p.a e.k).1 e.k||e9.has (eT.val p.w p.m p.s p.a e.k).2.1 e.k with
  |true=>
   intro x hx;rw[au]at hx;unfold mE at hx;rcases bf.1 hx with hx|hx
   ·rcases bf.1 hx with hx|hx
    ·exact hd x (dm.1 hx).1
    ·rw[a_]at hx;rw[hx];exact he
   ·exact hd x (dm.1 hx).1
  |false=>exact hd
 ·show(bif _ then mE (fV p.en _) e else fV p.en _).length<=i+1;have d:=gd.xG p.en (eT.val p.w p.m p.s p.a e.k).2.2.2.2;have q:=gd.sa (fV p.en (eT.val p.w p.m p.s p.a e.k).2.2.2.2) e (h.so.drop _);cases e9.has (eT.val p.w p.m p.s p.a e.k).1 e.k||e9.has (eT.val p.w p.m p.s p.a e.k).2.1 e.k with
  |true=>rw[au];omega
  |false=>rw[aw];omega
theorem zL{e:En}{now:ax}(h:pX e now=ai):m8.v e.k e.st e.li e.bo=true:=by
 unfold pX Ef.v at h;cases hq:m8.v e.k e.st e.li e.bo with
 |true=>rfl
 |false=>rw[show wT.v e.k e.st e.li e.bo=ak from hq]at h;cases h
theorem tO(now:ax)(l:az En):∀i,i<=l.length->Inv now i (qu now (l.take i)):=by
 intro i;induction i with
 |zero=>intro _;exact aua now
 |succ i ih=>
  intro hi;have h:=ih (by omega);have e:qu now (l.take (i+1))=one now (qu now (l.take i)) l[i]:=by unfold qu;rw[cE (by omega),kX];rfl
  rw[e];unfold one;cases hf:pX l[i] now with
  |true=>exact h.store _ (m8.EC (zL hf)).1.1
  |false=>exact h.up
theorem yu(now:ax)(l:az En)(i:aE)(h:i<l.length):qu now (l.take (i+1))=one now (qu now (l.take i)) (el l i):=by unfold qu;rw[cE h,kX,eG h];rfl
end fP

namespace fI
open Lib (rr rs re rf rc Px)
theorem ok(p:Px)(hp:p.Fit 1048576):c p.now (re p.en) (rs p.w) (rs p.m) (rr p.s) p.a (rf p.fe) (rc p.cl) p.hits=ai/\v p.now (re p.en) (rs p.w) (rs p.m) (rr p.s) p.a (rf p.fe) (rc p.cl) p.hits=(p.now,re p.en,rs p.w,rs p.m,rr p.s,p.a,rf p.fe,rc p.cl,p.hits):=by have he:=hp.en;have hf:=hp.fe;have hc:=hp.cl;have h2:=gb.ok p.w p.m p.s p.a hp.w hp.m ⟨hp.s.1,hp.s.2.1⟩;exact out _ _ _ _ _ _ _ _ _ (by unfold vo b;rw[h2.1,h2.2,au,Lib.ch (b:=48) (by simp[aP,de];omega) (by simp[aP,de];omega),Lib.ch (b:=56) (by simp[aP,dD];omega) (by simp[aP,dD];omega),Lib.ch (b:=72) (by simp[aP,eI];omega) (by simp[aP,eI];omega)];rfl)
end fI

namespace qI
open Lib (rr rs re rf rc Px)
def later(now n:ax):ax:=bif decide (now>1000000000-n%1000)then 1000000000 else bG (now+n%1000)
def val(p:Px)(n:ax):Px:={p with now:=later p.now n}
theorem tm(n:ax):(0<=cF n 1000->cF n 1000=n%1000)/\(cF n 1000<0->cF n 1000+1000=n%1000):=by
 rw[Int.tmod_eq_emod];by_cases h:0<=n\/(1000:ax)∣n
 ·rw[bA h];constructor<;>omega
 ·rw[bJ h];have hd:¬(1000:ax)∣n:=λx=>h (.inr x);have:n%1000≠0:=λe=>hd (Int.dvd_of_emod_eq_zero e);constructor<;>simp<;>omega
theorem ok(p:Px)(n:ax)(hp:p.Fit 1048576):c p.now (re p.en) (rs p.w) (rs p.m) (rr p.s) p.a (rf p.fe) (rc p.cl) p.hits n=ai/\v p.now (re p.en) (rs p.w) (rs p.m) (rr p.s) p.a (rf p.fe) (rc p.cl) p.hits n=((val p n).now,re p.en,rs p.w,rs p.m,rr p.s,p.a,rf p.fe,rc p.cl,p.hits):=by
 have h:=fI.ok p hp;refine out _ _ _ _ _ _ _ _ _ _ ?_;have t:=tm n;unfold vo b val later;simp only[Lib.lt,h.1,h.2,au];by_cases hn:cF n 1000<0
 ·have e:=t.2 hn;rw[aG hn,au,e,c_ (x:=n%1000) (by omega) (by omega),c_ (x:=1000000000-n%1000) (by omega) (by omega)];cases decide (p.now>1000000000-n%1000)<;>rfl
 ·have e:=t.1 (by omega);rw[aK hn,aw,e,c_ (x:=1000000000-n%1000) (by omega) (by omega)];cases decide (p.now>1000000000-n%1000)<;>rfl
end qI

namespace tn
open Lib (rr rs re rf rc Px Cl el II QG QH QI QJ QK QL)
def val(p:Px)(id:ax):Px:={p with cl:=p.cl.filter λc=> !decide (c.id=id)}
theorem ok(p:Px)(id:ax)(hp:p.Fit 1048576):c p.now (re p.en) (rs p.w) (rs p.m) (rr p.s) p.a (rf p.fe) (rc p.cl) p.hits id=ai/\v p.now (re p.en) (rs p.w) (rs p.m) (rr p.s) p.a (rf p.fe) (rc p.cl) p.hits id=(p.now,re p.en,rs p.w,rs p.m,rr p.s,p.a,rf p.fe,rc (val p id).cl,p.hits):=by
 have h:=fI.ok p hp;have hc:=hp.cl;refine out _ _ _ _ _ _ _ _ _ _ ?_;unfold vo b;simp only[Lib.lt,h.1,h.2,au];have key:=ml p.cl.length (λn (i:aE) (x:aQ)=>l4 Lib.cJ (λ(_ _ _:ax) (_ _ _ _:aQ) (_:ax) (_ _:aQ) (_ _ _ _ y37 y38 y39:ax) (y40 y41 y42 y43 WB y45:aQ)=>ah (y37,y40,y41,y42,y43,y38,WB,y45,y39)) n id (i:ax) p.now (re p.en) (rs p.w) (rs p.m) (rr p.s) p.a (rf p.fe) (rc p.cl) p.hits 0 0 0 p.now p.a p.hits (re p.en) (rs p.w) (rs p.m) (rr p.s) (rf p.fe) x) (λi=>rc ((p.cl.take i).filter λc=> !decide (c.id=id))) (ah (p.now,re p.en,rs p.w,rs p.m,rr p.s,p.a,rf p.fe,rc (val p id).cl,p.hits)) (λn i hi=>by
  have hlen:((p.cl.take i).filter λc=> !decide (c.id=id)).length<=i:=by refine dg (eS ..) ?_;rw[eL];omega
  have e:(p.cl.take (i+1)).filter (λc=> !decide (c.id=id))=(p.cl.take i).filter (λc=> !decide (c.id=id))++(bif !decide ((el p.cl i).id=id)then [el p.cl i]else []):=by rw[cE hi,iq,eG hi];cases hd:decide (p.cl[i].id=id)<;>simp[hd]
  rw[e];simp only[l4,r4,eI,Lib.c6,hi,aN,Lib.cm,aL,au,Lib.dN,II hi,QG hi,QH hi,QI hi,QJ hi,QK hi,QL hi,bz,bE,pR,bC,Lib.cS hi (by omega:p.cl.length<=9223372036854775807)];rw[Lib.ch (by omega) (by omega),au,show((el p.cl i).id !=id)= !decide ((el p.cl i).id=id)from rfl];cases decide ((el p.cl i).id=id)with
  |true=>rw[aY,aw,aw,dj]
  |false=>rw[bP,au,au];unfold Lib.rc;rw[dh];rfl) (λn=>by
  simp only[l4,r4,eI,Lib.c6,bk,bc,aw,dR];rfl) Lib.cJ 0 (bD _) (cu (by omega))
 exact key
end tn

namespace gz
open Lib (En Fi Px Cl Fe el)
open iB (kp Ft)
open s_ (cls kG)
open gv (Cu Di)
open il (lI)
open jS (dk es)
structure Wo where
 p:Px
 o:aA (az En)
 cd:az ax
 bd:az En
structure Ev where
 k:ax
 id:ax
 t:aq
 n:ax
 l:aQ
def flag(b:aU):ax:=bif b then 0 else 1
def kH(w:Wo):az En:=(kp (es w.o)).filter λe=>fP.pX e w.p.now
def closed(w:Wo)(id life:ax):Wo×ax:=
 let q:=cls w.p id life
 (bif q.2&&decide (life>0)then{w with p:=q.1,o:=ah (es w.o++[kG (el q.1.fe id.toNat)]),bd:=w.bd++[kG (el q.1.fe id.toNat)]}else{w with p:=q.1},flag q.2)
def zJ(w:Wo):Wo:={w with p:=fP.qu w.p.now (kH w),o:=ah (kH w)}
def act(w:Wo)(e:Ev):Wo×ax:=
 bif decide (e.k=1)then({w with p:=(il.ask w.p e.id e.t).1},(il.ask w.p e.id e.t).2)
 else bif decide (e.k=2)then({w with p:=(Di w.p e.id e.t).1},flag (Di w.p e.id e.t).2)
 else bif decide (e.k=3)then closed w e.id (e.n%1000000)
 else bif decide (e.k=4)then({w with p:=(Cu w.p e.id).1},flag (Cu w.p e.id).2)
 else bif decide (e.k=5)then({w with p:=qI.val w.p e.n},0)
 else bif decide (e.k=6)then({w with p:=tn.val w.p e.id},flag (lI w.p.cl e.id))
 else(zJ w,0)
def step(w:Wo)(e:Ev):Wo:={(act w e).1 with cd:=w.cd++[(act w e).2]}
def gG(e:Ev):aU:=decide (1<=e.k/\e.k<=7)&&(decide (0<=e.id/\e.id<=30)&&(decide (e.t.size<=60)&&(decide (0<=e.n)&&decide (e.l.length<=4))))
end gz

namespace uU
open Lib (Px Cl Fe En el)
open e9 (has gM)
open jz (eO sV)
open nU (vl IC NJ)
open np (nM lL apart)
open oX (IB jb)
open gd (So fc)
def Jf(now:ax)(nf:aE)(c:Cl):aU:=
 decide (1<=c.id/\c.id<=9)&&(eO c.k&&(decide (1<=c.sta/\c.sta<=3)&&(decide (0<=c.fe/\c.fe<=(nf:ax))&&(decide ((c.jV.size:ax)<=400)&&(decide (0<=c.fr/\c.fr<=now)&&decide (0<=c.age))))))
structure ij (p:Px):Prop where
 now:1<=p.now/\p.now<=1000000000
 en:∀e∈p.en,vl e=ai
 so:So p.en
 ek:∀e∈p.en,e.k∈p.w\/e.k∈p.m
 pol:sV p.w p.m p.s p.a=ai
 len:p.w.length+p.m.length=p.en.length
 fl:p.fe.length<=20
 fe:∀f∈p.fe,nM p.now f=ai
 ap:p.fe.Pairwise λf g=>lL g f=ak
 cll:p.cl.length<=6
 cl:∀c∈p.cl,Jf p.now p.fe.length c=ai
 cs:p.cl.Pairwise λc d=>c.id<d.id
 hits:0<=p.hits/\p.hits<=1000000000
theorem Vk{α:Type}(R:α->α->Prop)(tr:∀x y z,R x y->R y z->R x z)(l:az α)(h:∀i (hi:i+1<l.length),R (l[i]) (l[i+1])):l.Pairwise R:=by
 rw[dA];have adj:∀d i (hi:i+d+1<l.length),R (l[i]) (l[i+d+1]):=by
  intro d;induction d with
  |zero=>intro i hi;exact h i hi
  |succ d ih=>intro i hi;exact tr _ _ _ (ih i (by omega)) (h (i+d+1) (by omega))
 intro i j hi hj PS;have:=adj (j-i-1) i (by omega);simp only[show i+(j-i-1)+1=j by omega]at this;exact this
theorem LW(x y z:aq)(a:fc x y=ai)(b:fc y z=ai):fc x z=true:=lU.pk _ _ _ a b
theorem amL{p:Px}(h:jb p=ai):ij p:=by
 obtain⟨h1,h2,h3,h4,h5,h6,h7⟩:_/\_/\_/\_/\_/\_/\_:=by unfold jb at h;simpa only[aM,bh,bu,gX]using h
 obtain⟨g1,g2,g3⟩:_/\_/\_:=by unfold NJ at h2;simpa only[aM,bh,bu,gX]using h2
 have e1:∀i (hi:i<p.en.length),vl p.en[i]=ai/\(0<i->fc (el p.en (i-1)).k p.en[i].k=ai)/\(p.en[i].k∈p.w\/p.en[i].k∈p.m):=λi hi=>by have:=g1 i hi;unfold IC at this;simp only[aM,dJ,bh,eG hi,gM]at this;exact⟨this.1,λh0=>this.2.1.resolve_left (by omega),this.2.2⟩
 have c1:∀i (hi:i<p.cl.length),Jf p.now p.fe.length p.cl[i]=ai/\(0<i->(el p.cl (i-1)).id<p.cl[i].id):=λi hi=>by have:=h7 i hi;unfold IB at this;unfold Jf;simp only[aM,dJ,bh,eG hi]at this⊢;exact⟨⟨this.1,this.2.2⟩,λh0=>this.2.1.resolve_left (by omega)⟩
 have f1:∀i (hi:i<p.fe.length),nM p.now p.fe[i]=ai/\∀j (hj:j<i),lL p.fe[i] (p.fe[j]'(by omega))=false:=λi hi=>by
  have:=h6 i hi;unfold apart at this;simp only[bu,gX,eG hi]at this;refine⟨this.1,λj hj=> ?_⟩
  have h:=this.2 j hj;rw[eG (show j<p.fe.length by omega)]at h;simpa using h
 refine⟨h1,λe he=> ?_, ?_,λe he=> ?_,g2,g3,h3,λf hf=> ?_, ?_,h4,λc hc=> ?_, ?_,h5⟩
 ·obtain⟨i,hi,rfl⟩:=c8 he;exact(e1 i hi).1
 ·refine Vk (λx y:En=>fc x.k y.k=ai) (λx y z a b=>LW _ _ _ a b) p.en λi hi=> ?_;have:=(e1 (i+1) hi).2.1 (by omega);rw[QT,eG (show i<p.en.length by omega)]at this;exact this
 ·obtain⟨i,hi,rfl⟩:=c8 he;exact(e1 i hi).2.2
 ·obtain⟨i,hi,rfl⟩:=c8 hf;exact(f1 i hi).1
 ·rw[dA];intro i j hi hj PS;exact(f1 j hj).2 i PS
 ·obtain⟨i,hi,rfl⟩:=c8 hc;exact(c1 i hi).1
 ·refine Vk (λc d:Cl=>c.id<d.id) (λx y z a b=>Int.lt_trans a b) p.cl λi hi=> ?_;have:=(c1 (i+1) hi).2 (by omega);rw[QT,eG (show i<p.cl.length by omega)]at this;exact this
theorem ak_{p:Px}(h:ij p):jb p=true:=by
 unfold jb NJ;simp only[aM,bh,bu,gX];refine⟨h.now,⟨λi hi=> ?_,h.pol,h.len⟩,h.fl,h.cll,h.hits,λi hi=>⟨?_, ?_⟩,λi hi=> ?_⟩
 ·unfold IC;simp only[aM,dJ,bh,eG hi,gM];refine⟨h.en _ (bB hi), ?_,h.ek _ (bB hi)⟩
  by_cases h0:i=0
  ·exact .inl h0
  ·right;rw[eG (show i-1<p.en.length by omega)];exact dA.1 h.so (i-1) i (by omega) hi (by omega)
 ·rw[eG hi];exact h.fe _ (bB hi)
 ·unfold apart;simp only[bu,gX];intro j hj;rw[eG hi,eG (show j<p.fe.length by omega),dA.1 h.ap j i (by omega) hi hj];rfl
 ·have hc:=h.cl _ (bB hi);unfold Jf at hc;unfold IB;simp only[aM,dJ,bh,eG hi]at hc⊢;refine⟨hc.1, ?_,hc.2⟩
  by_cases h0:i=0
  ·exact .inl h0
  ·right;rw[eG (show i-1<p.cl.length by omega)];exact dA.1 h.cs (i-1) i (by omega) hi (by omega)
theorem pD{p:Px}:jb p=ai↔ij p:=⟨amL,ak_⟩
end uU

namespace IK
open e9 (has without gM lT)
open jz (eO nH sV)
open fB (oq Ob sI)
theorem jD{w m:az aq}{s:az (az ax)}{a:ax}:sV w m s a=ai↔((∀k∈w++m,eO k=ai)/\(w++m).Nodup)/\w.length<=2/\m.length<=4/\oq s a=true:=by unfold sV;rw[aM,aM,aM,bh,bh,eT.wq]
theorem Ie{s:az (az ax)}{a:ax}:oq s a=ai↔s.length=3/\(0<=a/\a<=63)/\∀q∈s,q.length=16/\∀n∈q,0<=n/\n<=15:=by unfold oq sI Ob;simp only[aM,bh,bu]
theorem Mo{s:az (az ax)}{a:ax}(key:aq)(h:oq s a=ai):oq (du.val s a key).1 (du.val s a key).2=true:=by
 unfold du.val;rw[h,au];obtain⟨h1,h2,h3⟩:=Ie.1 h;obtain⟨b1,b2⟩:=du.tB (key:=key) h1 h3;by_cases ha:a+1=64
 ·rw[aG ha,au,Ie];unfold du.half;refine⟨by rw[bV];exact b1,by omega,λq hq=> ?_⟩
  obtain⟨r,hr,rfl⟩:=cU.1 hq;refine⟨by rw[bV];exact(b2 r hr).1,λn hn=> ?_⟩
  obtain⟨k,hk,rfl⟩:=cU.1 hn;have:=(b2 r hr).2 k hk;rw[h_ this.1];omega
 ·rw[aK ha,aw,Ie];exact⟨b1,by omega,b2⟩
theorem HW{k:aq}(h:eO k=ai):k≠⟨#[]⟩:=by intro e;rw[e]at h;exact cL h (by decide)
theorem uf{w m:az aq}{s:az (az ax)}{a:ax}{key:aq}(h:sV w m s a=ai)(hk:eO key=ai):
  sV (eT.val w m s a key).1 (eT.val w m s a key).2.1 (eT.val w m s a key).2.2.1 (eT.val w m s a key).2.2.2.1=ai
  /\∀x,x∈(eT.val w m s a key).1\/x∈(eT.val w m s a key).2.1↔(x∈w\/x∈m\/x=key)/\x≠(eT.val w m s a key).2.2.2.2:=by
 obtain⟨⟨k1,nd⟩,l1,l2,hs⟩:=jD.1 h;have N0:=Mo key hs;have kn:=HW hk;have wn:∀x,x∈w\/x∈m->x≠⟨#[]⟩:=λx hx=>HW (k1 x (bf.2 hx));unfold eT.val;rw[h,hk,aL,au];generalize du.val s a key=V at N0;obtain⟨S,A⟩:=V;dsimp only at N0⊢;rw[eM]at nd;obtain⟨n1,n2,n3⟩:=nd;have hwo:∀l:az aq,l.Nodup->(without l key).Nodup/\(∀x,x∈without l key↔x∈l/\x≠key):=λl hl=>by unfold without;exact⟨hl.sublist jQ,λx=>by simp⟩
 cases h1:has w key with
 |true=>
  have hm:=gM.1 h1;obtain⟨o1,o2⟩:=hwo w n1;have o3:=e9.pH h1;dsimp only[au];refine⟨jD.2 ⟨⟨λk hx=> ?_, ?_⟩,by simp;omega,l2,N0⟩,λx=> ?_⟩
  ·simp only[bf,a_,o2]at hx;rcases hx with (hx|rfl)|hx
   ·exact k1 _ (bf.2 (.inl hx.1))
   ·exact hk
   ·exact k1 _ (bf.2 (.inr hx))
  ·simp only[eM,bf,a_,o2];grind
  ·simp only[bf,a_,o2];grind
 |false=>
  rw[aw];have hw:=lT.1 h1;cases h2:has m key with
  |true=>
   have hm:=gM.1 h2;obtain⟨o1,o2⟩:=hwo m n2;have o3:=e9.pH h2;dsimp only[au];refine⟨jD.2 ⟨⟨λk hx=> ?_, ?_⟩,l1,by simp;omega,N0⟩,λx=> ?_⟩
   ·simp only[bf,a_,o2]at hx;rcases hx with hx|hx|rfl
    ·exact k1 _ (bf.2 (.inl hx))
    ·exact k1 _ (bf.2 (.inr hx.1))
    ·exact hk
   ·simp only[eM,bf,a_,o2];grind
   ·simp only[bf,a_,o2];grind
  |false=>
   rw[aw];have hmn:=lT.1 h2;have n5:∀x,x∈w++[key]\/x∈m↔x∈w\/x∈m\/x=key:=λx=>by simp only[bf,a_];grind
   have Tz:∀x,x∈w++[key]\/x∈m->eO x=true:=λx hx=>by
    rcases(n5 x).1 hx with hx|hx|rfl
    ·exact k1 _ (bf.2 (.inl hx))
    ·exact k1 _ (bf.2 (.inr hx))
    ·exact hk
   have JL:(w++[key]).Nodup/\∀x∈w++[key],x∉m:=by simp only[eM,bf,a_];grind
   have hlen:(w++[key]).length=w.length+1:=by simp
   generalize w++[key]=W at n5 Tz JL hlen;obtain⟨d1,d2⟩:=JL;by_cases h3:W.length<=2
   ·rw[aG h3,au];refine⟨jD.2 ⟨⟨λk hx=>Tz k (bf.1 hx), ?_⟩,h3,l2,N0⟩,λx=> ?_⟩
    ·simp only[eM];grind
    ·dsimp only;rw[n5];grind
   ·rw[aK h3,aw];cases W with
    |nil=>simp at hlen
    |cons x0 t=>
     rw[kM]at d1;rw[dc]at hlen;have hg:(x0::t).getD 0 ⟨#[]⟩=x0:=rfl;have ht:(x0::t).tail=t:=rfl;rw[hg,ht];by_cases h4:m.length<4
     ·rw[aG h4,au];refine⟨jD.2 ⟨⟨λk hx=>Tz k ?_, ?_⟩,by dsimp only;omega,by simp;omega,N0⟩,λx=> ?_⟩
      ·simp only[bf,a_,cB]at hx⊢;grind
      ·simp only[eM,bf,a_,cB]at d2⊢;grind
      ·dsimp only;rw[<-n5];simp only[bf,a_,cB];grind
     ·rw[aK h4,aw];cases m with
      |nil=>simp at h4
      |cons y0 u=>
       rw[kM]at n2;rw[dc]at l2 h4;have hg2:(y0::u).getD 0 ⟨#[]⟩=y0:=rfl;have HK:(y0::u).tail=u:=rfl;rw[hg2,HK];cases decide (mO.val S A x0>mO.val S A y0)with
       |true=>
        rw[au];refine⟨jD.2 ⟨⟨λk hx=>Tz k ?_, ?_⟩,by dsimp only;omega,by simp;omega,N0⟩,λx=> ?_⟩
        ·simp only[bf,a_,cB]at hx⊢;grind
        ·simp only[eM,bf,a_,cB]at d2⊢;grind
        ·dsimp only;rw[<-n5];simp only[bf,a_,cB]at d2⊢;grind
       |false=>
        rw[aw];refine⟨jD.2 ⟨⟨λk hx=>Tz k ?_, ?_⟩,by dsimp only;omega,by simp;omega,N0⟩,λx=> ?_⟩
        ·simp only[bf,cB]at hx⊢;grind
        ·simp only[eM,kM,cB]at d2⊢;grind
        ·dsimp only;rw[<-n5];simp only[cB]at d2⊢;grind
end IK

namespace BZ
open Lib (Px Cl Fe En el)
open e9 (has without gM lT)
open jz (eO sV)
open nU (vl)
open np (nM lL)
open oX (jb)
open gd (So fc fV mE)
open kZ (yE)
open uU (ij Jf pD)
open IK (jD uf)
open gv (s9 told Cu Di iR)
theorem abr{p:Px}(h:ij p){n:ax}(h1:p.now<=n)(h2:n<=1000000000):ij {p with now:=n}:=by
 have:=h.now;refine⟨⟨by dsimp only;omega,h2⟩,h.en,h.so,h.ek,h.pol,h.len,h.fl,λf hf=> ?_,h.ap,h.cll,λc hc=> ?_,h.cs,h.hits⟩
 ·have:=h.fe f hf;unfold nM at this⊢;simp only[aM,bh]at this⊢;exact⟨this.1,this.2.1,this.2.2.1,this.2.2.2.1,this.2.2.2.2.1,Ca this.2.2.2.2.2 h1⟩
 ·have:=h.cl c hc;unfold Jf at this⊢;simp only[aM,bh]at this⊢;exact⟨this.1,this.2.1,this.2.2.1,this.2.2.2.1,this.2.2.2.2.1,⟨this.2.2.2.2.2.1.1,Ca this.2.2.2.2.2.1.2 h1⟩,this.2.2.2.2.2.2⟩
theorem BT{p:Px}{n:aE}{g:Fe}{st:ax}(h:ij p)(hn:n<p.fe.length)(hk:g.k=(el p.fe n).k)(hg:nM p.now g=ai)(hs:g.sta=1->(el p.fe n).sta=1)(h1:1<=st/\st<=3):ij (told p n g st):=by
 rw[eG hn]at hk hs;refine⟨h.now,h.en,h.so,h.ek,h.pol,h.len, ?_,λf hf=> ?_, ?_, ?_,λc hc=> ?_, ?_,h.hits⟩
 ·show(p.fe.set n g).length<=20;rw[cD];exact h.fl
 ·rcases jI hf with q|rfl
  ·exact h.fe f q
  ·exact hg
 ·show(p.fe.set n g).Pairwise _;rw[dA];intro i j hi hj PS;rw[cD]at hi hj;have:=dA.1 h.ap i j hi hj PS;rw[SI,SI];unfold lL at this⊢;by_cases e1:n=i
  ·by_cases e2:n=j
   ·omega
   ·subst e1;simp only[if_true,e2,if_false];rw[hk];by_cases e3:g.sta=1
    ·rw[hs e3]at this;rw[e3];exact this
    ·rw[aK e3];simp
  ·by_cases e2:n=j
   ·subst e2;simp only[e1,if_true,if_false];rw[hk];by_cases e3:g.sta=1
    ·rw[hs e3]at this;rw[e3];exact this
    ·rw[aK e3];simp
   ·simp only[e1,e2,if_false];exact this
 ·show(uV.nY p.cl n st g.t).length<=6;unfold uV.nY;rw[bV];exact h.cll
 ·have JD:c∈uV.nY p.cl n st g.t:=hc;unfold uV.nY at JD;obtain⟨d,hd,rfl⟩:=cU.1 JD;have h2:=h.cl d hd;show Jf p.now (p.fe.set n g).length _=ai;rw[cD];unfold uV.ec;cases decide (d.fe=(n:ax)+1)&&decide (d.sta=1)with
  |false=>exact h2
  |true=>rw[au];unfold Jf at h2⊢;unfold nM at hg;simp only[aM,bh]at h2 hg⊢;exact⟨h2.1,h2.2.1,h1,h2.2.2.2.1,hg.2.1,h2.2.2.2.2.2⟩
 ·show(uV.nY p.cl n st g.t).Pairwise _;unfold uV.nY;rw[kY];refine h.cs.imp λ{a b} hab=> ?_;have e:∀d:Cl,(uV.ec n st g.t d).id=d.id:=λd=>by unfold uV.ec;cases decide (d.fe=(n:ax)+1)&&decide (d.sta=1)<;>rfl
  rw[e,e];exact hab
theorem Jv{p:Px}(h:ij p){n:aE}(hn:n<p.fe.length):eO (el p.fe n).k=ai/\((el p.fe n).t.size:ax)<=400/\(1<=(el p.fe n).sta/\(el p.fe n).sta<=3)/\(0<=(el p.fe n).li/\(el p.fe n).li<=999999)/\0<=(el p.fe n).st/\(el p.fe n).st<=p.now:=by have:=h.fe _ (jY hn);unfold nM at this;simpa only[aM,bh]using this
theorem S3{p:Px}(f:ax)(h:ij p):ij (Cu p f).1:=by
 unfold Cu;cases ho:s9 p f with
 |false=>exact h
 |true=>obtain⟨n,rfl,hn,_,h1⟩:=iR ho;obtain⟨g1,g2,g3,g4,g5⟩:=Jv h hn;refine BT h hn rfl ?_ (λe=>cL e (by dsimp only;omega)) (by omega);unfold nM;simp only[aM,bh];exact⟨g1,g2,by omega,g4,g5⟩
theorem Vj{p:Px}(f:ax)(t:aq)(h:ij p):ij (Di p f t).1:=by
 unfold Di;cases ho:s9 p f&&(decide (1<=t.size/\t.size<=40)&&decide ((el p.fe f.toNat).t.size+t.size<=400))with
 |false=>exact h
 |true=>
  simp only[aM,bh]at ho;obtain⟨n,rfl,hn,_,h1⟩:=iR ho.1;obtain⟨g1,g2,g3,g4,g5⟩:=Jv h hn;rw[dK]at ho;refine BT h hn rfl ?_ (λ_=>h1) (by omega);unfold nM;simp only[aM,bh];refine⟨g1, ?_,g3,g4,g5⟩
  show((((el p.fe n).t++t).size:aE):ax)<=400;rw[dH];omega
def Pg(en:az En)(w m:az aq):Prop:=∀k,k∈w\/k∈m↔∃e∈en,e.k=k
theorem Dx{en:az En}(h:So en):(en.map λe=>e.k).Nodup:=by rw[qi,kY];refine h.imp λ{a b} hab e=> ?_;rw[e]at hab;unfold fc at hab;rw[lU.oZ]at hab;cases hab
theorem BQ{p:Px}(h:ij p):Pg p.en p.w p.m:=by
 obtain⟨⟨_,nd⟩,_⟩:=jD.1 h.pol;have ne:=Dx h.so;have sub:(p.en.map λe=>e.k)⊆p.w++p.m:=λx hx=>by obtain⟨e,he,rfl⟩:=cU.1 hx;exact bf.2 (h.ek e he)
 intro k;constructor
 ·intro hk;have hk:k∈p.w++p.m:=bf.2 hk;refine AP λhn=> ?_;have nn:(k::p.en.map λe=>e.k).Nodup:=kM.2 ⟨λhx=>hn (by obtain⟨e,he,q⟩:=cU.1 hx;exact⟨e,he,q⟩),ne⟩;have:=nn.length_le_of_subset (l₂:=p.w++p.m) (λx hx=>by
   rcases cB.1 hx with rfl|hx
   ·exact hk
   ·exact sub hx)
  have hl:=h.len;simp only[dc,bV,bU]at this;omega
 ·rintro ⟨e,he,rfl⟩;exact h.ek e he
theorem of_same{en:az En}{w m:az aq}{s:az (az ax)}{a:ax}(h:Pg en w m)(so:So en)(hp:sV w m s a=ai):(∀e∈en,e.k∈w\/e.k∈m)/\w.length+m.length=en.length:=by
 obtain⟨⟨_,nd⟩,_⟩:=jD.1 hp;refine⟨λe he=>(h _).2 ⟨e,he,rfl⟩, ?_⟩
 have:=((List.perm_ext_iff_of_nodup nd (Dx so)).2 λx=>by rw[bf,h x,cU]).length_eq;rw[bU,bV]at this;exact this
theorem jr{en:az En}{k:aq}{e:En}:e∈fV en k↔e∈en/\e.k≠k:=by unfold fV;simp
theorem j6{en:az En}{x e:En}:x∈mE en e↔x=e\/(x∈en/\x.k≠e.k):=by
 unfold mE;simp only[bf,dm,a_,dp,iH,e_];constructor
 ·rintro ((⟨h1,h2⟩|rfl)|⟨h1,h2⟩)
  ·refine .inr ⟨h1,λe2=> ?_⟩;rw[e2]at h2;unfold fc at h2;rw[lU.oZ]at h2;cases h2
  ·exact .inl rfl
  ·exact .inr ⟨h1,h2.2⟩
 ·rintro (rfl|⟨h1,h2⟩)
  ·exact .inl (.inr rfl)
  ·cases hl:fc x.k e.k with
   |true=>exact .inl (.inl ⟨h1,rfl⟩)
   |false=>exact .inr ⟨h1,rfl,h2⟩
theorem wz{en:az En}(h:So en)(e:En):So (mE en e):=by have:=(lU.xW (gd.C_ h) e.k e.st e.li e.bo).1.1;rw[gd.t_]at this;unfold Lib.re at this;rw[kY]at this;exact this
theorem Mw{p:Px}{e:En}(h:ij p)(he:vl e=ai):ij (yE p e):=by
 have hk:eO e.k=true:=by have:=(m8.EC he).1;unfold eO;exact aG (by omega)
 obtain⟨t1,t2⟩:=uf h.pol hk;have sm:=BQ h;unfold yE;generalize eT.val p.w p.m p.s p.a e.k=V at t1 t2;obtain⟨W,M,S,A,G⟩:=V;dsimp only at t1 t2⊢;have key:∀en',So en'->(∀x∈en',vl x=ai)->Pg en' W M->ij ⟨p.now,en',W,M,S,A,p.fe,p.cl,p.hits⟩:=λen' o1 o2 o3=>by obtain⟨q1,q2⟩:=of_same o3 o1 t1;exact⟨h.now,o2,o1,q1,t1,q2,h.fl,h.fe,h.ap,h.cll,h.cl,h.cs,h.hits⟩
 have d1:So (fV p.en G):=h.so.drop G;have d2:∀x∈fV p.en G,vl x=true:=λx hx=>h.en x (jr.1 hx).1;cases hh:has W e.k||has M e.k with
 |true=>
  rw[au];have gC:e.k∈W\/e.k∈M:=by rwa[dJ,gM,gM]at hh
  refine key _ (wz d1 e) (λx hx=> ?_) λk=> ?_
  ·rcases j6.1 hx with rfl|q
   ·exact he
   ·exact d2 x q.1
  ·rw[t2 k];have hg:=((t2 e.k).1 gC).2;constructor
   ·rintro ⟨q,hn⟩;by_cases e1:k=e.k
    ·exact⟨e,j6.2 (.inl rfl),e1.symm⟩
    ·have q2:k∈p.w\/k∈p.m:=q.elim .inl λq=>q.elim .inr λq=>cL q e1;obtain⟨x,hx,rfl⟩:=(sm k).1 q2;exact⟨x,j6.2 (.inr ⟨jr.2 ⟨hx,hn⟩,e1⟩),rfl⟩
   ·rintro ⟨x,hx,rfl⟩;rcases j6.1 hx with rfl|q
    ·exact⟨.inr (.inr rfl),hg⟩
    ·obtain⟨q1,q2⟩:=jr.1 q.1;exact⟨((sm x.k).2 ⟨x,q1,rfl⟩).elim .inl λz=> .inr (.inl z),q2⟩
 |false=>
  rw[aw];have gC:¬(e.k∈W\/e.k∈M):=by rw[<-gM,<-gM,<-dJ,hh];simp
  have hg:e.k=G:=AP λhn=>gC ((t2 e.k).2 ⟨.inr (.inr rfl),hn⟩);refine key _ d1 d2 λk=> ?_;rw[t2 k];constructor
  ·rintro ⟨q,hn⟩;have q2:k∈p.w\/k∈p.m:=q.elim .inl λq=>q.elim .inr λq=>cL (q.trans hg) hn;obtain⟨x,hx,rfl⟩:=(sm k).1 q2;exact⟨x,jr.2 ⟨hx,hn⟩,rfl⟩
  ·rintro ⟨x,hx,rfl⟩;obtain⟨q1,q2⟩:=jr.1 hx;exact⟨((sm x.k).2 ⟨x,q1,rfl⟩).elim .inl λz=> .inr (.inl z),q2⟩
end BZ

namespace EJ
def fv(k:aq)(s l:ax)(b:aq)(n:ax):aU:=bif m8.v k s l b then bif ki.v n s 1000000000 then decide (bG (n-s)<l)else ak else ak
theorem eq(k:aq)(s l:ax)(b:aq)(n:ax):Ef.v k s l b n=fv k s l b n:=by
 have e:wT.v k s l b=m8.v k s l b:=rfl;unfold Ef.v fv;rw[e];cases h:m8.v k s l b with
 |false=>rfl
 |true=>
  have hs:(0<=s/\s<=1000000000)/\1<=l/\l<=999999:=by unfold m8.v at h;cases h1:th.v k<;>rw[h1]at h<;>simp only[au,aw,dx]at h;cases h2:ki.v s 0 1000000000<;>rw[h2]at h<;>simp only[au,aw,dx]at h;cases h3:ki.v l 1 999999<;>rw[h3]at h<;>simp only[au,aw,dx]at h;simp[ki.v]at h2 h3;omega
  simp only[au,SM.v,lH.v,ki.v,cz,bh];by_cases h1:0<=n/\n<=1000000000
  ·rw[iG (x:=n-s) (by omega) (by omega),iG (x:=s+l) (by omega) (by omega),iG (x:=s+l-1) (by omega) (by omega)];by_cases h2:s<=n<;>by_cases h3:n-s<l<;>simp[h1,h2,h3]<;>omega
  ·by_cases h2:s<=n<;>by_cases h3:0<=n<;>by_cases h4:n<=1000000000<;>simp[h2,h3,h4]<;>omega
end EJ

namespace Gd
open Lib (Px Cl Fe En el)
open e9 (has without gM lT)
open jz (eO sV)
open nU (vl)
open np (nM lL)
open oX (jb)
open gd (So fc fV mE)
open uU (ij Jf pD)
open IK (jD uf Mo HW)
open BZ (Pg BQ of_same jr)
open il (hit sS put ID On FU lI jn rW pX)
theorem aat(l:az Cl)(n:ax):(l.filter λx=>decide (x.id<n)).length+(l.filter λx=>decide (x.id>n)).length<=l.length:=by
 induction l with
 |nil=>exact cG _
 |cons y l ih=>
  simp only[List.filter_cons];by_cases h1:y.id<n
  ·rw[aG h1,aK (show¬y.id>n by omega)];simp only[if_true,dx,if_false,dc];omega
  ·rw[aK h1];by_cases h2:y.id>n
   ·rw[aG h2];simp only[if_true,dx,if_false,dc];omega
   ·rw[aK h2];simp only[dx,if_false,dc];omega
theorem acB{l:az Cl}{c:Cl}(cs:l.Pairwise λa b=>a.id<b.id):(jn l c).length<=l.length+1/\((jn l c).Pairwise λa b=>a.id<b.id)/\∀x∈jn l c,x=c\/x∈l:=by
 unfold jn;refine⟨?_, ?_,λx hx=> ?_⟩
 ·have:=aat l c.id;simp only[bU,dc,jR];omega
 ·rw[cy,vS];refine⟨cs.filter _, ?_,λa ha b hb=> ?_⟩
  ·rw[u5,qE];exact⟨λb hb=>cq (dm.1 hb).2,cs.filter _⟩
  ·have ha:=cq (dm.1 ha).2;rcases bf.1 hb with hb|hb
   ·rw[a_]at hb;rw[hb];exact ha
   ·have hb:=cq (dm.1 hb).2;omega
 ·rcases bf.1 hx with hx|hx
  ·rcases bf.1 hx with hx|hx
   ·exact .inr (dm.1 hx).1
   ·exact .inl (a_.1 hx)
  ·exact .inr (dm.1 hx).1
theorem aas{w m:az aq}{s:az (az ax)}{a:ax}{key:aq}(h:key∈w\/key∈m):(eT.val w m s a key).2.2.2.2=⟨#[]⟩:=by
 unfold eT.val;cases sV w m s a&&eO key with
 |false=>rfl
 |true=>
  rw[au];cases h1:has w key with
  |true=>rfl
  |false=>have h2:has m key=true:=gM.2 (h.resolve_left (lT.1 h1));rw[h2];rfl
theorem Kx{w m:az aq}{s:az (az ax)}{a:ax}{key:aq}(h:sV w m s a=ai)(hk:eO key=ai):(has (eT.val w m s a key).1 key||has (eT.val w m s a key).2.1 key)=true:=by
 obtain⟨⟨k1,nd⟩,l1,l2,hs⟩:=jD.1 h;rw[dJ,gM,gM];refine((uf h hk).2 key).2 ⟨.inr (.inr rfl), ?_⟩;have kn:=HW hk;unfold eT.val;rw[h,hk,aL,au];cases h1:has w key with
 |true=>exact kn
 |false=>
  rw[aw];have hw:=lT.1 h1;cases h2:has m key with
  |true=>exact kn
  |false=>
   rw[aw];have hm:=lT.1 h2;by_cases h3:(w++[key]).length<=2
   ·rw[aG h3];exact kn
   ·rw[aK h3,aw];have iz:(w++[key]).getD 0 ⟨#[]⟩≠key:=by
     cases w with
     |nil=>simp at h3
     |cons x w=>intro e;exact hw (by rw[<-e];simp)
    by_cases h4:m.length<4
    ·rw[aG h4];exact kn
    ·rw[aK h4,aw];cases decide (mO.val (du.val s a key).1 (du.val s a key).2 ((w++[key]).getD 0 ⟨#[]⟩)>mO.val (du.val s a key).1 (du.val s a key).2 (m.getD 0 ⟨#[]⟩))with
     |true=>
      intro e;cases m with
      |nil=>simp at h4
      |cons x m=>exact hm (by rw[e];simp)
     |false=>exact λe=>iz e.symm
theorem afQ{p:Px}{id:ax}{key:aq}{e:En}(h:ij p)(JG:1<=id/\id<=9)(hk:eO key=ai)(hl:p.cl.length<6)(he:e∈p.en)(hek:e.k=key)(LM:e.st<=p.now):ij (hit p id key e):=by
 have gC:key∈p.w\/key∈p.m:=by rw[<-hek];exact h.ek e he
 obtain⟨t1,t2⟩:=uf h.pol hk;have tg:=aas (s:=p.s) (a:=p.a) gC;have sm:=BQ h;have hr:=m8.EC (h.en e he);obtain⟨j1,j2,j3⟩:=acB (c:=⟨id,key,0,e.st,2,e.bo,p.now-e.st⟩) h.cs;unfold hit;generalize eT.val p.w p.m p.s p.a key=V at t1 t2 tg;obtain⟨W,M,S,A,G⟩:=V;dsimp only at t1 t2 tg⊢;subst tg;have sm2:Pg p.en W M:=λk=>by
  rw[t2 k];refine Iff.trans ?_ (sm k);constructor
  ·rintro ⟨q|q|rfl,_⟩
   ·exact .inl q
   ·exact .inr q
   ·exact gC
  ·intro q;refine⟨q.elim .inl λq=> .inr (.inl q), ?_⟩
   obtain⟨x,hx,rfl⟩:=(sm k).1 q;have:=(m8.EC (h.en x hx)).1;intro e;rw[e]at this;exact cL this.1 (by decide)
 obtain⟨q1,q2⟩:=of_same sm2 h.so t1;refine⟨h.now,h.en,h.so,q1,t1,q2,h.fl,h.fe,h.ap,by dsimp only;omega,λc hc=> ?_,j2, ?_⟩
 ·rcases j3 c hc with rfl|hc
  ·unfold Jf;simp only[aM,bh];exact⟨JG,hk,by omega,⟨by omega,by omega⟩,by omega,⟨by omega,LM⟩,by omega⟩
  ·exact h.cl c hc
 ·have:=h.hits;dsimp only;by_cases hh:p.hits<1000000000
  ·rw[aG hh,au];omega
  ·rw[aK hh,aw];exact this
theorem Ip{l:az aq}{k x:aq}:x∈without l k↔x∈l/\x≠k:=by unfold without;simp
theorem H6{p:Px}{id:ax}{key:aq}{h:aU}{fe:az Fe}{i:aE}(ho:ij p)(JG:1<=id/\id<=9)(hk:eO key=ai)(hl:p.cl.length<6)(hn:p.fe.length<=fe.length)(Q8:fe.length<=20)(hf:∀f∈fe,nM p.now f=ai)(hap:fe.Pairwise λf g=>lL g f=ak)(hi:i<fe.length)(hp:h=ak->True):ij (put p id key h fe i):=by
 obtain⟨⟨k1,nd⟩,l1,l2,hs⟩:=jD.1 ho.pol;have N0:=Mo key hs;have sm:=BQ ho;obtain⟨j1,j2,j3⟩:=acB (c:=⟨id,key,(i:ax)+1,0,1,(el fe i).t,0⟩) ho.cs;have hfi:=hf _ (jY hi);have n_:∀c∈jn p.cl ⟨id,key,(i:ax)+1,0,1,(el fe i).t,0⟩,Jf p.now fe.length c=true:=λc hc=>by
  rcases j3 c hc with rfl|hc
  ·unfold nM at hfi;unfold Jf;simp only[aM,bh]at hfi⊢;have:=ho.now;exact⟨JG,hk,by omega,⟨by omega,by omega⟩,hfi.2.1,⟨by omega,by omega⟩,by omega⟩
  ·have:=ho.cl c hc;unfold Jf at this⊢;simp only[aM,bh]at this⊢;exact⟨this.1,this.2.1,this.2.2.1,⟨this.2.2.2.1.1,by omega⟩,this.2.2.2.2⟩
 unfold put;cases h with
 |false=>have Yk:sV p.w p.m (du.val p.s p.a key).1 (du.val p.s p.a key).2=true:=jD.2 ⟨⟨k1,nd⟩,l1,l2,N0⟩;exact⟨ho.now,ho.en,ho.so,ho.ek,Yk,ho.len,Q8,hf,hap,by dsimp only;omega,n_,j2,ho.hits⟩
 |true=>
  have Yk:sV (without p.w key) (without p.m key) (du.val p.s p.a key).1 (du.val p.s p.a key).2=true:=by
   refine jD.2 ⟨⟨λk hx=> ?_, ?_⟩,dg e9.iw l1,dg e9.iw l2,N0⟩
   ·rcases bf.1 hx with q|q
    ·exact k1 k (bf.2 (.inl (Ip.1 q).1))
    ·exact k1 k (bf.2 (.inr (Ip.1 q).1))
   ·have:without p.w key++without p.m key=(p.w++p.m).filter λx=> !decide (x=key):=by unfold without;rw[iq]
    rw[this];exact nd.sublist jQ
  have sm2:Pg (fV p.en key) (without p.w key) (without p.m key):=λk=>by
   rw[Ip,Ip];constructor
   ·intro q;have iz:k≠key:=q.elim (·.2) (·.2);obtain⟨x,hx,rfl⟩:=(sm k).1 (q.elim (λq=> .inl q.1) (λq=> .inr q.1));exact⟨x,jr.2 ⟨hx,iz⟩,rfl⟩
   ·rintro ⟨x,hx,rfl⟩;obtain⟨hx,iz⟩:=jr.1 hx;exact((sm x.k).2 ⟨x,hx,rfl⟩).elim (λq=> .inl ⟨q,iz⟩) (λq=> .inr ⟨q,iz⟩)
  have so:=ho.so.drop key;obtain⟨q1,q2⟩:=of_same sm2 so Yk;exact⟨ho.now,λe he=>ho.en e (jr.1 he).1,so,q1,Yk,q2,Q8,hf,hap,by dsimp only;omega,n_,j2,ho.hits⟩
theorem Oa{p:Px}{id:ax}{key:aq}{h:aU}(ho:ij p)(JG:1<=id/\id<=9)(hk:eO key=ai)(hl:p.cl.length<6):ij (sS p id key h).1:=by
 unfold sS;cases Yh:On p.fe key with
 |some i=>have hi:i<p.fe.length:=(Am.1 Yh).1;exact H6 ho JG hk hl (cG _) ho.fl ho.fe ho.ap hi (λ_=>trivial)
 |none=>
  dsimp only;by_cases Q8:p.fe.length<20
  ·rw[aG Q8,au];have zN:∀f∈p.fe,FU key f=false:=λf hf=>by have:=ER.1 Yh f hf;simpa using this
   have akg:=ho.now;refine H6 ho JG hk hl (by simp) (by simp;omega) (λf hf=> ?_) ?_ (by simp) (λ_=>trivial)
   ·rcases bf.1 hf with q|q
    ·exact ho.fe f q
    ·rw[a_]at q;subst q;unfold nM rW;simp only[aM,bh];exact⟨hk,by show((0:aE):ax)<=400;omega,by omega,by omega,by omega,by omega⟩
   ·rw[vS];refine⟨ho.ap,by simp,λa ha b hb=> ?_⟩
    rw[a_]at hb;subst hb;have:=zN a ha;unfold FU at this;unfold lL rW;dsimp only;revert this;rw[show decide (key=a.k)=decide (a.k=key)from by rw[ca];exact W0];cases decide (a.k=key)<;>cases decide (a.sta=1)<;>simp
  ·rw[aK Q8];exact ho
theorem afg{p:Px}(id:ax)(key:aq)(h:ij p):ij (il.ask p id key).1:=by
 unfold il.ask;cases hg:jb p&&(decide (1<=id/\id<=9)&&(eO key&&(!lI p.cl id&&decide (p.cl.length<6))))with
 |false=>exact h
 |true=>
  simp only[aM,bh]at hg;obtain⟨_,JG,hk,_,hl⟩:=hg;rw[au];cases he:ID p.en key with
  |none=>exact Oa h JG hk hl
  |some e=>
   dsimp only;cases hf:pX e p.now with
   |false=>exact Oa h JG hk hl
   |true=>
    unfold ID at he;have h1:=qD he;have h2:=vn he;refine afQ h JG hk hl h1 (cq h2) ?_;unfold pX at hf;rw[EJ.eq]at hf;unfold EJ.fv at hf;rw[show m8.v e.k e.st e.li e.bo=ai from h.en e h1,au,show ki.v p.now e.st 1000000000=decide (e.st<=p.now/\p.now<=1000000000)from fB.eH _ _ _]at hf;cases hd:decide (e.st<=p.now/\p.now<=1000000000)with
    |true=>exact(cq hd).1
    |false=>rw[hd]at hf;cases hf
end Gd

namespace Ge
open Lib (Px Cl Fe En el)
open uU (ij Jf pD)
open BZ (abr)
theorem zS{now n:ax}(h:1<=now/\now<=1000000000):now<=qI.later now n/\qI.later now n<=1000000000:=by
 unfold qI.later;have:=Xt n (show(1000:ax)≠0 by omega);have:=QQ n (show(0:ax)<1000 by omega);by_cases hc:now>1000000000-n%1000
 ·rw[aG hc,au];omega
 ·rw[aK hc,aw,c_ (by omega) (by omega)];omega
theorem Z2{p:Px}(n:ax)(h:ij p):ij (qI.val p n):=abr h (zS h.now).1 (zS h.now).2
theorem Ud{p:Px}(id:ax)(h:ij p):ij (tn.val p id):=
 ⟨h.now,h.en,h.so,h.ek,h.pol,h.len,h.fl,h.fe,h.ap,dg (eS _ _) h.cll,λc hc=>h.cl c (dm.1 hc).1,h.cs.sublist jQ,h.hits⟩
end Ge

namespace gV
open Lib (Px Cl Fe En el)
open e9 (has gM)
open jz (eO sV)
open nU (vl)
open np (nM lL)
open oX (jb)
open uU (ij Jf pD)
open gv (s9 told Cu Di iR)
open s_ (cls kG)
open kZ (yE)
open iB (Ft IE tx kp s5)
open jS (dk es)
open gz (Wo Ev closed zJ kH gG flag)
open BZ (BT Jv S3 Vj Mw)
def on(l:az Fe):aE:=l.countP λf=>decide (f.sta=1)
theorem vb5{x:ax}(h:x<=1000000000):(bytesOf (Lib.vb x)).size<=5:=by
 rw[Lib.iS]
 exact Lib.BW 4 x (by have:(128:ax)^5=34359738368:=by decide
                      omega)
theorem Lx{e:En}(h:Ft e=ai):(IE e).size<=460:=by
 have hr:=m8.EC h;have z1:=vb5 (x:=(e.k.size:ax)) (by omega);have z2:=vb5 (x:=e.st) (by omega);have z3:=vb5 (x:=e.li) (by omega);have ht:(s5 e).size<=445:=by unfold s5 jK.s5;simp only[Lib.km];omega
 have z4:=vb5 (x:=((s5 e).size:ax)) (by omega);unfold IE fH.fr;rw[Lib.km,Lib.km,pe.size];omega
theorem Wt(l:az En)(h:∀e∈l,Ft e=ai):(tx l).size<=460*l.length:=by
 induction l with
 |nil=>exact cG _
 |cons e l ih=>have h1:=Lx (h e (by simp));have h2:=ih λx hx=>h x (by simp[hx]);have:(tx (e::l)).size=(IE e).size+(tx l).size:=dH;rw[this,dc];omega
structure rN (i:aE) (w:Wo):Prop where
 px:ij w.p
 eo:∀e∈es w.o,Ft e=ai
 ct:2*(es w.o).length+on w.p.fe<=i
 cd:w.cd.length=i
 bd:w.bd.length<=i
 bo:∀e∈w.bd,Ft e=ai
theorem rN.len{i:aE}{w:Wo}(h:rN i w)(hi:i<=71):(es w.o).length<=35:=by have:=h.ct;omega
theorem rN.tx{i:aE}{w:Wo}(h:rN i w)(hi:i<=71):(tx (es w.o)).size<=16100:=by have:=Wt _ h.eo;have:=h.len hi;omega
theorem L9{l:az Fe}{n:aE}{g:Fe}(hn:n<l.length):on (l.set n g)+(if(el l n).sta=1 then 1 else 0)=on l+(if g.sta=1 then 1 else 0):=by
 unfold on;rw[List.countP_set hn,eG hn];have hle:l[n].sta=1->1<=l.countP λf=>decide (f.sta=1):=λh=>List.countP_pos_iff.2 ⟨_,bB hn,aG h⟩;generalize l.countP (λf=>decide (f.sta=1))=m at hle;by_cases h1:l[n].sta=1
 ·have:=hle h1;by_cases h2:g.sta=1
  ·rw[bA h1,bA h2,bA (aG h1),bA (aG h2)];omega
  ·rw[bA h1,bJ h2,bA (aG h1),bJ (by rw[aK h2];simp)];omega
 ·by_cases h2:g.sta=1
  ·rw[bJ h1,bA h2,bJ (by rw[aK h1];simp),bA (aG h2)];omega
  ·rw[bJ h1,bJ h2,bJ (by rw[aK h1];simp),bJ (by rw[aK h2];simp)];omega
theorem Vy{now:ax}(hn:1<=now/\now<=1000000000)(l:az En):ij (fP.qu now l):=by
 have key:∀(l:az En) (p:Px),ij p->ij (l.foldl (fP.one now) p):=by
  intro l;induction l with
  |nil=>intro p h;exact h
  |cons e l ih=>
   intro p h;rw[DX];refine ih _ ?_;unfold fP.one;cases hf:fP.pX e now with
   |true=>exact Mw h (fP.zL hf)
   |false=>exact h
 refine key l _ ⟨hn,λe h=>(by cases h),gg,λe h=>(by cases h), ?_,rfl,bD _,λf h=>(by cases h),gg,bD _,λc h=>(by cases h),gg,by show(0:ax)<=0/\(0:ax)<=1000000000;omega⟩;refine IK.jD.2 ⟨⟨λk h=>(by cases h),List.nodup_nil⟩,bD _,bD _,IK.Ie.2 ⟨rfl,by show(0:ax)<=0/\(0:ax)<=63;omega,λq hq=> ?_⟩⟩;have:q=fP.KB:=by change q∈[fP.KB,fP.KB,fP.KB]at hq;simp at hq;exact hq
 subst this;refine⟨rfl,λn hn=> ?_⟩
 unfold fP.KB at hn;simp at hn;omega
theorem Lh{p:Px}{f life:ax}(h:ij p)(hl:0<=life/\life<=999999):
  ij (cls p f life).1/\(((cls p f life).2=ak/\(cls p f life).1=p)\/((cls p f life).2=ai/\∃n:aE,f=(n:ax)/\n<p.fe.length/\(cls p f life).1.fe=p.fe.set n {el p.fe n with sta:=2,li:=life,st:=p.now}/\(el p.fe n).sta=1/\
   (life>0->Ft (kG {el p.fe n with sta:=2,li:=life,st:=p.now})=ai/\(has (cls p f life).1.w (el p.fe n).k||has (cls p f life).1.m (el p.fe n).k)=ai))):=by
 unfold cls;cases ho:s9 p f&&decide (0<=life/\life<=999999)with
 |false=>exact⟨h, .inl ⟨rfl,rfl⟩⟩
 |true=>
  rw[aM]at ho;obtain⟨n,rfl,hn,_,h1⟩:=iR ho.1;obtain⟨g1,g2,g3,g4,g5⟩:=Jv h hn;have akg:=h.now;rw[au,dK];have ht:ij (told p n {el p.fe n with sta:=2,li:=life,st:=p.now} 2):=by refine BT h hn rfl ?_ (λe=>cL e (by dsimp only;omega)) (by omega);unfold nM;simp only[aM,bh];exact⟨g1,g2,by omega,hl,by omega,by omega⟩
  have he:life>0->Ft (kG {el p.fe n with sta:=2,li:=life,st:=p.now})=true:=λPW=>by unfold Ft kG m8.v;dsimp only;rw[jz.iQ,g1,au,show ki.v p.now 0 1000000000=decide (0<=p.now/\p.now<=1000000000)from fB.eH _ _ _,aG (show 0<=p.now/\p.now<=1000000000 by omega),au,show ki.v life 1 999999=decide (1<=life/\life<=999999)from fB.eH _ _ _,aG (show 1<=life/\life<=999999 by omega),au];exact aG g2
  by_cases PW:life>0
  ·rw[aG PW,au];have gC:=Gd.Kx (key:=(el p.fe n).k) ht.pol g1;exact⟨Mw ht (he PW), .inr ⟨rfl,n,rfl,hn,rfl,h1,λ_=>⟨he PW,gC⟩⟩⟩
  ·rw[aK PW,aw];exact⟨ht, .inr ⟨rfl,n,rfl,hn,rfl,h1,λh=>cL h PW⟩⟩
theorem afh(p:Px)(id:ax)(key:aq):on (il.ask p id key).1.fe<=on p.fe+1:=by
 have hm:∀h,on (il.sS p id key h).1.fe<=on p.fe+1:=λh=>by
  unfold il.sS;cases il.On p.fe key with
  |some i=>exact jx _
  |none=>
   dsimp only;cases decide (p.fe.length<20)with
   |true=>show on (p.fe++[il.rW key])<=_;unfold on;rw[List.countP_append];exact cG _
   |false=>exact jx _
 unfold il.ask;cases jb p&&(decide (1<=id/\id<=9)&&(eO key&&(!il.lI p.cl id&&decide (p.cl.length<6))))with
 |false=>exact jx _
 |true=>
  rw[au];cases il.ID p.en key with
  |none=>exact hm _
  |some e=>
   dsimp only;cases il.pX e p.now with
   |false=>exact hm _
   |true=>exact jx _
theorem CN(w:Wo):(kH w).length<=(es w.o).length:=dg (eS ..) (iB.HO _)
theorem Hz{w:Wo}(h:∀e∈es w.o,Ft e=ai):∀e∈kH w,Ft e=true:=λe he=>h e (iB.LV (dm.1 he).1)
theorem BS{i:aE}{w:Wo}{e:Ev}(h:rN i w)(he:gG e=ai):rN (i+1) (gz.step w e):=by
 unfold gG at he;simp only[aM,bh]at he;obtain⟨hk,JG,ht,hn,hl⟩:=he;have hct:=h.ct;have PN:=h.bd;have cdl:∀n:ax,(w.cd++[n]).length=i+1:=λn=>by rw[bU,h.cd];rfl
 have px':∀(p:Px) (n:ax),ij p->on p.fe<=on w.p.fe+1->rN (i+1) {{w with p:=p}with cd:=w.cd++[n]}:=λp n hp ho=>⟨hp,h.eo,by dsimp only;omega,cdl n,nu h.bd,h.bo⟩
 unfold gz.step gz.act;by_cases k1:e.k=1
 ·rw[aG k1,au];exact px' _ _ (Gd.afg _ _ h.px) (afh ..)
 rw[aK k1,aw];by_cases k2:e.k=2
 ·rw[aG k2,au];refine px' _ _ (Vj _ _ h.px) ?_;unfold Di;cases ho:s9 w.p e.id&&(decide (1<=e.t.size/\e.t.size<=40)&&decide ((el w.p.fe e.id.toNat).t.size+e.t.size<=400))with
  |false=>exact jx _
  |true=>
   rw[aM]at ho;obtain⟨n,en,hn,_,h1⟩:=iR ho.1;rw[en,dK];have q:∀g:Fe,g.sta=(el w.p.fe n).sta->on (w.p.fe.set n g)<=on w.p.fe+1:=λg hg=>by have:=L9 (g:=g) hn;rw[hg]at this;omega
   exact q _ rfl
 rw[aK k2,aw];by_cases k3:e.k=3
 ·rw[aG k3,au];have hlr:0<=e.n%1000000/\e.n%1000000<=999999:=by omega
  obtain⟨q1,q2⟩:=Lh (f:=e.id) h.px hlr;unfold closed;dsimp only;rcases q2 with ⟨r1,r2⟩|⟨r1,n,rn,hn,rf,rs,rl⟩
  ·rw[r1,jf,aw];exact px' _ _ q1 (by rw[r2];exact jx _)
  ·have:=L9 (g:={el w.p.fe n with sta:=2,li:=e.n%1000000,st:=w.p.now}) hn;rw[bA rs,bJ (show¬(2:ax)=1 by omega)]at this;have ho:on (cls w.p e.id (e.n%1000000)).1.fe+1=on w.p.fe:=by rw[rf];exact this
   rw[r1,ba];by_cases PW:e.n%1000000>0
   ·rw[aG PW,au];obtain⟨s1,s2⟩:=rl PW;have hx:Ft (kG (el (cls w.p e.id (e.n%1000000)).1.fe e.id.toNat))=true:=by rw[rn,dK,<-rn,rf,gv.iP hn];exact s1
    refine⟨q1,λy hy=> ?_, ?_,cdl _, ?_,λy hy=> ?_⟩
    ·rcases bf.1 hy with hy|hy
     ·exact h.eo y hy
     ·rw[a_]at hy;rw[hy];exact hx
    ·show 2*(es w.o++[_]).length+on (cls w.p e.id (e.n%1000000)).1.fe<=i+1;rw[bU,bC];omega
    ·show(w.bd++[_]).length<=i+1;rw[bU,bC];omega
    ·rcases bf.1 hy with hy|hy
     ·exact h.bo y hy
     ·rw[a_]at hy;rw[hy];exact hx
   ·rw[aK PW,aw];exact px' _ _ q1 (by omega)
 rw[aK k3,aw];by_cases k4:e.k=4
 ·rw[aG k4,au];refine px' _ _ (S3 _ h.px) ?_;unfold Cu;cases ho:s9 w.p e.id with
  |false=>exact jx _
  |true=>
   obtain⟨n,en,hn,_,h1⟩:=iR ho;rw[en,dK];have q:∀g:Fe,g.sta=3->on (w.p.fe.set n g)<=on w.p.fe+1:=λg hg=>by have:=L9 (g:=g) hn;rw[bA h1,bJ (show¬g.sta=1 by omega)]at this;omega
   exact q _ rfl
 rw[aK k4,aw];by_cases k5:e.k=5
 ·rw[aG k5,au];exact px' _ _ (Ge.Z2 _ h.px) (jx _)
 rw[aK k5,aw];by_cases k6:e.k=6
 ·rw[aG k6,au];exact px' _ _ (Ge.Ud _ h.px) (jx _)
 rw[aK k6,aw];have PR:=CN w;have hinv:=fP.tO w.p.now (kH w) (kH w).length (cG _);rw[dR]at hinv;refine⟨Vy h.px.now _,Hz h.eo, ?_,cdl _,nu h.bd,h.bo⟩
 show 2*(kH w).length+on (fP.qu w.p.now (kH w)).fe<=i+1;rw[hinv.fe];show 2*(kH w).length+0<=i+1;omega
end gV

namespace fA
open Lib (rr rs re rf rc rd Px En el oD qx qy qz)
open gz (Wo Ev)
open jS (dk es)
def ri(l:az ax):aQ:=l.map λn=>[CV.i ao n]
theorem gf(l:az ax):(ri l).length=l.length:=by unfold ri;simp
def uC(w:Wo):ax×aQ×aQ×aQ×aQ×ax×aQ×aQ×ax×aQ×aQ×aQ:=(w.p.now,re w.p.en,rs w.p.w,rs w.p.m,rr w.p.s,w.p.a,rf w.p.fe,rc w.p.cl,w.p.hits,rd (dk w.o),ri w.cd,re w.bd)
theorem ud(l:az En)(e:En):re l++aD (aP [Ck.s,Ck.i ao,Ck.i ao,Ck.s] 1) 0 [CV.s e.k,CV.i ao e.st,CV.i ao e.li,CV.s e.bo]=re (l++[e]):=by unfold Lib.re;rw[dh];rfl
theorem adm(l:az ax)(n:ax):ri l++aD (aP [Ck.i ao] 1) 0 [CV.i ao n]=ri (l++[n]):=by unfold ri;rw[dh];rfl
theorem axr(l:az En):aP [Ck.s,Ck.i ao,Ck.i ao,Ck.s] 0++re l=re l:=rfl
theorem axs(l:az ax):aP [Ck.i ao] 0++ri l=ri l:=rfl
theorem nO(ks:az Ck)(y:az CV):(aD (aP ks 1) 0 y).length=1:=rfl
theorem jO{p:Px}(h:uU.ij p):p.Fit 1048576:=(kZ.jO (uU.pD.2 h)).le (by omega)
theorem lt_eq{α β:Type}(x:α)(f:α->β):Lib.lt x f=f x:=by have h:∀y,y=Lib.lt x f->y=f x:=λy hy=>hy.trans (Eq.refl _);exact h _ (Eq.refl _)
end fA

namespace oE
open Lib (rr rs re rf rc rd Px En el)
open gz (Wo Ev gG)
open jS (dk es)
open gV (rN)
open fA (ri uC)
instance:Inhabited Ev:=⟨⟨0,0,⟨#[]⟩,0,[]⟩⟩
def Evr(e:Ev):az CV:=[CV.i ao e.k,CV.i ao e.id,CV.s e.t,CV.i ao e.n,CV.l 3 e.l]
def rv(l:az Ev):aQ:=l.map Evr
theorem mF(l):(rv l).length=l.length:=by unfold rv;simp
theorem wv0{l:az Ev}{i:aE}(h:i<l.length):ar (rv l) i 0=CV.i ao (el l i).k:=fX _ l i 0 h
theorem wv1{l:az Ev}{i:aE}(h:i<l.length):ar (rv l) i 1=CV.i ao (el l i).id:=fX _ l i 1 h
theorem wv2{l:az Ev}{i:aE}(h:i<l.length):ar (rv l) i (1+1)=CV.s (el l i).t:=fX _ l i 2 h
theorem wv3{l:az Ev}{i:aE}(h:i<l.length):ar (rv l) i (1+1+1)=CV.i ao (el l i).n:=fX _ l i 3 h
theorem wv4{l:az Ev}{i:aE}(h:i<l.length):ar (rv l) i (1+1+1+1)=CV.l 3 (el l i).l:=fX _ l i 4 h
theorem HY(e:Ev):U31.v e.k e.id e.t e.n e.l=gG e:=by unfold U31.v gG;rw[show lH.v e.k 1 7=decide (1<=e.k/\e.k<=7)from fB.eH _ _ _,show lH.v e.id 0 30=decide (0<=e.id/\e.id<=30)from fB.eH _ _ _,show decide (((e.t.size:aE):ax)<=60)=decide (e.t.size<=60)from by rw[ca];omega,show decide (e.n≥0)=decide (0<=e.n)from rfl,show decide (((e.l.length:aE):ax)<=4)=decide (e.l.length<=4)from by rw[ca];omega];cases decide (1<=e.k/\e.k<=7)<;>cases decide (0<=e.id/\e.id<=30)<;>cases decide (e.t.size<=60)<;>cases decide (0<=e.n)<;>rfl
theorem ZV(e:Ev):U56.v e.k e.id e.t e.n e.l=gG e:=HY e
def w0:Wo:=⟨fP.p0 1,aj,[],[]⟩
def run(l:az Ev):Wo:=l.foldl gz.step w0
theorem uc(l:az Ev)(i:aE)(h:i<l.length):run (l.take (i+1))=gz.step (run (l.take i)) (el l i):=by unfold run;rw[cE h,kX,eG h];rfl
theorem anM:rN 0 w0:=by refine⟨gV.Vy (now:=1) (by omega) [],λe h=>(by cases h),cG _,rfl,cG _,λe h=>(by cases h)⟩
theorem Dm{l:az Ev}(h:∀e∈l,gG e=ai):∀i,i<=l.length->rN i (run (l.take i)):=by
 intro i;induction i with
 |zero=>intro _;exact anM
 |succ i ih=>intro hi;rw[uc l i hi];exact gV.BS (ih (by omega)) (h _ (jY hi))
theorem Dt{l:az Ev}(h:∀e∈l,gG e=ai):rN l.length (run l):=by have:=Dm h l.length (cG _);rwa[dR]at this
def W13(w:Wo)(b:aU):ax×aQ×aQ×aQ×aQ×ax×aQ×aQ×ax×aQ×aQ×aQ×aU:=(w.p.now,re w.p.en,rs w.p.w,rs w.p.m,rr w.p.s,w.p.a,rf w.p.fe,rc w.p.cl,w.p.hits,rd (dk w.o),ri w.cd,re w.bd,b)
def Bg(l:az Ev):aU:=decide (l.length<=70)&&(b8 l.length).all λi=>gG (el l i)
def life(l:az Ev):ax×aQ×aQ×aQ×aQ×ax×aQ×aQ×ax×aQ×aQ×aQ×aU:=bif Bg l then W13 (run l) ai else(0,[],[],[],[],0,[],[],0,[],[],[],ak)
theorem tJ{l:az Ev}:Bg l=ai↔l.length<=70/\∀e∈l,gG e=true:=by unfold Bg;rw[aM,bh,bu];refine and_congr Iff.rfl ⟨λh e he=> ?_,λh i hi=>h _ (jY (gX.1 hi))⟩;obtain⟨i,hi,rfl⟩:=c8 he;have:=h i (gX.2 hi);rwa[eG hi]at this
end oE

namespace dr
def I(q:aQ)(a:ax):Prop:=0<=a/\a<=(q.length:ax)/\q.length<=1048576
theorem EC(x:BitVec 64):0<=bG ((dW (ju x (cf 64 255)):aE):ax)/\bG ((dW (ju x (cf 64 255)):aE):ax)<=255:=by
 have h:dW (ju x (cf 64 255))<=255:=by have e:dW (ju x (cf 64 255))=x.toNat&&&255:=BitVec.toNat_and x (cf 64 255);rw[e];exact Nat.and_le_right
 rw[c_ (by omega) (by omega)];omega
theorem ok(q:aQ)(a s:ax)(hI:I q a):∃n a' s',c q a s=ai/\v q a s=(n,q,a',s')/\I q a'/\0<=n/\n<=255:=by
 obtain⟨h0,h1,h2⟩:=hI;by_cases h:a<(q.length:ax)
 ·have hw:bG (a+1)=a+1:=c_ (by omega) (by omega);have hvo:∃n s',vo q a s=ah (n,q,a+1,s')/\0<=n/\n<=255:=by unfold vo b;rw[aG h,aG h0,au,aL,au,hw];exact⟨_,_,rfl,EC _⟩
  obtain⟨n,s',hv,hr⟩:=hvo;obtain⟨e1,e2⟩:=out q a s hv;exact⟨n,a+1,s',e1,e2,⟨by omega,by omega,h2⟩,hr⟩
 ·have hvo:∃n s',vo q a s=ah (n,q,a,s')/\0<=n/\n<=255:=by unfold vo b;rw[aK h,aw];exact⟨_,_,rfl,EC _⟩
  obtain⟨n,s',hv,hr⟩:=hvo;obtain⟨e1,e2⟩:=out q a s hv;exact⟨n,a,s',e1,e2,⟨h0,h1,h2⟩,hr⟩
end dr

namespace n9
theorem ok(q:aQ)(a s k:ax)(hI:dr.I q a):∃n a' s',c q a s k=ai/\v q a s k=(n,q,a',s')/\dr.I q a'/\0<=n/\(0<k->n<k):=by
 by_cases hk:k<=0
 ·obtain⟨e1,e2⟩:=out q a s k (x:=(0,q,a,s)) (by unfold vo b;rw[aG hk,au]);exact⟨0,a,s,e1,e2,hI,by omega,λh=>by omega⟩
 ·have hm:∀x:ax,0<=x->0<=cF x k/\cF x k<k:=λx hx=>by rw[im hx];exact⟨Xt _ (by omega),QQ _ (by omega)⟩
  have hk0:¬k=0:=by omega
  obtain⟨n1,a1,s1,c1,v1,I1,g1,u1⟩:=dr.ok q a s hI;by_cases h2:k<=256
  ·obtain⟨e1,e2⟩:=out q a s k (x:=(cF n1 k,q,a1,s1)) (by unfold vo b;simp only[hk,h2,hk0,c1,v1,aN,bc,au,aw,bP]);exact⟨_,a1,s1,e1,e2,I1,(hm n1 g1).1,λ_=>(hm n1 g1).2⟩
  ·obtain⟨n2,a2,s2,c2,v2,I2,g2,u2⟩:=dr.ok q a1 s1 I1;obtain⟨n3,a3,s3,c3,v3,I3,g3,u3⟩:=dr.ok q a2 s2 I2;obtain⟨n4,a4,s4,c4,v4,I4,g4,u4⟩:=dr.ok q a3 s3 I3;have w1:bG (n1*16777216)=n1*16777216:=c_ (by omega) (by omega);have w2:bG (n2*65536)=n2*65536:=c_ (by omega) (by omega);have w3:bG (n3*256)=n3*256:=c_ (by omega) (by omega);have w4:bG (n1*16777216+n2*65536)=n1*16777216+n2*65536:=c_ (by omega) (by omega);have w5:bG (n1*16777216+n2*65536+n3*256)=n1*16777216+n2*65536+n3*256:=c_ (by omega) (by omega);have w6:bG (n1*16777216+n2*65536+n3*256+n4)=n1*16777216+n2*65536+n3*256+n4:=c_ (by omega) (by omega);obtain⟨e1,e2⟩:=out q a s k (x:=(cF (n1*16777216+n2*65536+n3*256+n4) k,q,a4,s4)) (by unfold vo b;simp only[hk,h2,hk0,c1,v1,c2,v2,c3,v3,c4,v4,w1,w2,w3,w4,w5,w6,aN,bc,au,aw,bP]);have:=hm (n1*16777216+n2*65536+n3*256+n4) (by omega);exact⟨_,a4,s4,e1,e2,I4,this.1,λ_=>this.2⟩
end n9

namespace Iz
theorem ok(q:aQ)(a s k:ax)(hI:dr.I q a):∃x a' s',c q a s k=ai/\v q a s k=(x,q,a',s')/\dr.I q a':=by obtain⟨n1,a1,s1,c1,v1,I1,g1,u1⟩:=n9.ok q a s k hI;obtain⟨e1,e2⟩:=out q a s k (x:=(decide (n1=0),q,a1,s1)) (by unfold vo b;simp only[c1,v1,au]);exact⟨_,a1,s1,e1,e2,I1⟩
end Iz

namespace Ap
theorem ok(q:aQ)(a s:ax)(l:aQ)(hI:dr.I q a)(hl:0<l.length):∃i a' s',c q a s l=ai/\v q a s l=(bE (ar l i 0),q,a',s',l)/\dr.I q a'/\i<l.length:=by obtain⟨n1,a1,s1,c1,v1,I1,g1,u1⟩:=n9.ok q a s (l.length:ax) hI;have hu:=u1 (by omega);obtain⟨e1,e2⟩:=out q a s l (x:=(bE (ar l n1.toNat 0),q,a1,s1,l)) (by unfold vo b;simp only[c1,v1,g1,hu,aN,aL,au]);exact⟨n1.toNat,a1,s1,e1,e2,I1,by omega⟩
end Ap

namespace pO
theorem ok(q:aQ)(a s:ax)(l:aQ)(hI:dr.I q a)(hl:0<l.length):∃i a' s',c q a s l=ai/\v q a s l=(bz (ar l i 0),q,a',s',l)/\dr.I q a'/\i<l.length:=by obtain⟨n1,a1,s1,c1,v1,I1,g1,u1⟩:=n9.ok q a s (l.length:ax) hI;have hu:=u1 (by omega);obtain⟨e1,e2⟩:=out q a s l (x:=(bz (ar l n1.toNat 0),q,a1,s1,l)) (by unfold vo b;simp only[c1,v1,g1,hu,aN,aL,au]);exact⟨n1.toNat,a1,s1,e1,e2,I1,by omega⟩
end pO

namespace u_
theorem ok(q:aQ)(a s:ax)(hI:dr.I q a):∃k a' s',c q a s=ai/\v q a s=(k,q,a',s')/\dr.I q a'/\k.size=2:=by
 obtain⟨i,a1,s1,c1,v1,I1,g1⟩:=pO.ok q a s (aD (aD (aD (aD (aD (aD (aD (aD (aP [Ck.s] 8) 0 [CV.s {data:= #[ay 47,ay 97]}]) 1 [CV.s {data:= #[ay 47,ay 98]}]) 2 [CV.s {data:= #[ay 47,ay 99]}]) 3 [CV.s {data:= #[ay 47,ay 100]}]) 4 [CV.s {data:= #[ay 47,ay 101]}]) 5 [CV.s {data:= #[ay 47,ay 102]}]) 6 [CV.s {data:= #[ay 47,ay 103]}]) 7 [CV.s {data:= #[ay 47,ay 104]}]) hI (by simp[aP]);obtain⟨e1,e2⟩:=out q a s (x:=(_,q,a1,s1)) (by unfold vo b;simp only[c1,v1,au];rfl);refine⟨_,a1,s1,e1,e2,I1, ?_⟩
 have g2:i<8:=by simpa [aP]using g1
 match i,g2 with
 |0,_=>rfl
 |1,_=>rfl
 |2,_=>rfl
 |3,_=>rfl
 |4,_=>rfl
 |5,_=>rfl
 |6,_=>rfl
 |7,_=>rfl
end u_

namespace A_Post
open dr (I)
def jJ{α:Type}(o:aA α)(P:α->Prop):Prop:=∃x,o=ah x/\P x
theorem ret{α:Type}{x:α}{P:α->Prop}(h:P x):jJ (ah x) P:=⟨x,rfl,h⟩
theorem br{α:Type}{b:aU}{A B:aA α}{P:α->Prop}(h1:b=ai->jJ A P)(h2:b=ak->jJ B P):jJ (bif b then A else B) P:=by
 cases b
 ·exact h2 rfl
 ·exact h1 rfl
theorem ck{α:Type}{b:aU}{A B:aA α}{P:α->Prop}(h:b=ai)(h1:jJ A P):jJ (bif b then A else B) P:=by subst h;exact h1
theorem cn{α:Type}{b:aU}{A B:aA α}{P:α->Prop}(h:b=ak)(h1:jJ B P):jJ (bif b then A else B) P:=by subst h;exact h1
theorem eq{α:Type}{o o':aA α}{P:α->Prop}(e:o=o')(h:jJ o' P):jJ o P:=by rw[e];exact h
theorem call{α β:Type}{b:aU}{w u:β}{X:β->aA α}{P:α->Prop}(h:b=ai)(e:w=u)(hx:jJ (X u) P):jJ (bif b then Lib.lt w X else aj) P:=by subst h;rw[au,fA.lt_eq,e];exact hx
theorem below{α:Type}{q:aQ}{a s k:ax}{X:ax×aQ×ax×ax->aA α}{P:α->Prop}(hI:I q a)(hx:∀n a' s',I q a'->0<=n->(0<k->n<k)->jJ (X (n,q,a',s')) P):jJ (bif n9.c q a s k then Lib.lt (n9.v q a s k) X else aj) P:=by obtain⟨n,a',s',h1,h2,h3,h4,h5⟩:=n9.ok q a s k hI;exact call h1 h2 (hx n a' s' h3 h4 h5)
theorem once{α:Type}{q:aQ}{a s k:ax}{X:aU×aQ×ax×ax->aA α}{P:α->Prop}(hI:I q a)(hx:∀n a' s',I q a'->jJ (X (n,q,a',s')) P):jJ (bif Iz.c q a s k then Lib.lt (Iz.v q a s k) X else aj) P:=by obtain⟨n,a',s',h1,h2,h3⟩:=Iz.ok q a s k hI;exact call h1 h2 (hx n a' s' h3)
theorem adh{α:Type}{q:aQ}{a s:ax}{l:aQ}{X:ax×aQ×ax×ax×aQ->aA α}{P:α->Prop}(R:ax->Prop)(hR:0<l.length/\∀i,i<l.length->R (bE (ar l i 0)))(hI:I q a)(hx:∀n a' s',I q a'->R n->jJ (X (n,q,a',s',l)) P):jJ (bif Ap.c q a s l then Lib.lt (Ap.v q a s l) X else aj) P:=by obtain⟨n,a',s',h1,h2,h3,h4⟩:=Ap.ok q a s l hI hR.1;exact call h1 h2 (hx _ a' s' h3 (hR.2 n h4))
theorem amQ{α:Type}{q:aQ}{a s:ax}{l:aQ}{X:aq×aQ×ax×ax×aQ->aA α}{P:α->Prop}(R:aq->Prop)(hR:0<l.length/\∀i,i<l.length->R (bz (ar l i 0)))(hI:I q a)(hx:∀n a' s',I q a'->R n->jJ (X (n,q,a',s',l)) P):jJ (bif pO.c q a s l then Lib.lt (pO.v q a s l) X else aj) P:=by obtain⟨n,a',s',h1,h2,h3,h4⟩:=pO.ok q a s l hI hR.1;exact call h1 h2 (hx _ a' s' h3 (hR.2 n h4))
theorem key{α:Type}{q:aQ}{a s:ax}{X:aq×aQ×ax×ax->aA α}{P:α->Prop}(hI:I q a)(hx:∀n a' s',I q a'->n.size=2->jJ (X (n,q,a',s')) P):jJ (bif u_.c q a s then Lib.lt (u_.v q a s) X else aj) P:=by obtain⟨n,a',s',h1,h2,h3,h4⟩:=u_.ok q a s hI;exact call h1 h2 (hx n a' s' h3 h4)
theorem idx{n:ax}{m:aE}(h0:0<=n)(h1:0<(m:ax)->n<(m:ax))(hm:decide ((m:ax)>0)=ai):(decide (0<=n)&&decide (n<(m:ax)))=true:=by have:=h1 (cq hm);rw[aG h0,aG this,aL]
end A_Post

namespace Q3
theorem ok(q:aQ)(hl:q.length<=1048576):∃h,c q=ai/\v q=(q,0,h):=by
 have key:=zT (λn (s:aE×ax)=>l3 Lib.cJ (λ(y3:aQ) (y4 _:ax)=>ah (y3,(0:ax),y4)) n q s.2 (s.1:ax)) (λs=>q.length-s.1) (λs=>s.1<=q.length) (λr=>∃h,r=(q,0,h)) (λn s hs=>by
  obtain⟨i,h⟩:=s;dsimp only at hs⊢;by_cases hi:i<q.length
  ·by_cases h4:(i:ax)<4000
   ·right;have kI:bG ((i:ax)+1)=((i+1:aE):ax):=c_ (by omega) (by omega)
    have e:∃h',l3 Lib.cJ (λ(y3:aQ) (y4 _:ax)=>ah (y3,(0:ax),y4)) (n+1) q h (i:ax)=l3 Lib.cJ (λ(y3:aQ) (y4 _:ax)=>ah (y3,(0:ax),y4)) n q h' ((i+1:aE):ax):=
     ⟨_,by simp only[l3,r3,Lib.c6,hi,h4,aN,Lib.cm,aL,au,Lib.dN,kI];rfl⟩
    obtain⟨h',e⟩:=e;exact⟨(i+1,h'),hi,by dsimp only;omega,e⟩
   ·left;exact⟨_,by simp only[l3,r3,Lib.c6,hi,h4,aN,bc,au,aw];rfl,_,rfl⟩
  ·left;exact⟨_,by simp only[l3,r3,Lib.c6,hi,bc,aw];rfl,_,rfl⟩) Lib.cJ (0,bG (34901+(q.length:ax))) (bD _) (cu (by omega))
 obtain⟨b',hb,h,rfl⟩:=key;obtain⟨e1,e2⟩:=out q (x:=(q,0,h)) hb;exact⟨h,e1,e2⟩
end Q3

namespace K8
open dr (I)
open A_Post (jJ)
open gz (Ev gG)
def Dr(q e w m s fe cl dk cd bd:aQ)(x:ax×ax×aq×ax×aQ×aQ×ax×ax×aQ×aQ×aQ×aQ×aQ×aQ×aQ×aQ×aQ):Prop:=
 ∃k id t n a' s',x=(k,id,t,n,[],q,a',s',e,w,m,s,fe,cl,dk,cd,bd)/\I q a'/\gG ⟨k,id,t,n,[]⟩=ai/\k<=6
theorem leaf{q e w m s fe cl dk cd bd:aQ}{k id:ax}{t:aq}{n a' s':ax}(hI:I q a')(hk:1<=k/\k<=6)(JG:0<=id/\id<=30)(ht:t.size<=60)(hn:0<=n):jJ (ah (k,id,t,n,([]:aQ),q,a',s',e,w,m,s,fe,cl,dk,cd,bd)) (Dr q e w m s fe cl dk cd bd):=by
 refine⟨_,rfl,k,id,t,n,a',s',rfl,hI, ?_,hk.2⟩
 unfold gG;rw[aG (show 1<=k/\k<=7 by omega),aG JG,aG ht,aG hn];rfl
theorem idA{n:ax}(h0:0<=n)(h1:(0:ax)<3->n<3):0<=n/\n<=30:=by omega
theorem idB{n:ax}(h0:0<=n)(h1:(0:ax)<9->n<9):0<=bG (1+n)/\bG (1+n)<=30:=by rw[c_ (x:=1+n) (by omega) (by omega)];omega
theorem idC{l:aQ}{n:ax}(hl:∀j,j<l.length->0<=bE (ar l j 0)/\bE (ar l j 0)<=30)(h0:0<=n)(h1:0<(l.length:ax)->n<(l.length:ax))(hp:decide ((l.length:ax)>0)=ai):0<=bE (ar l n.toNat 0)/\bE (ar l n.toNat 0)<=30:=by have:=h1 (cq hp);exact hl _ (by omega)
theorem tA{t:aq}(h:t.size=2):t.size<=60:=by omega
theorem opens{P:R->Prop}(N:aE)(K:ax->ax->ax->ax->aQ->ax->ax->aQ->aQ->aQ->aQ->aQ->aQ->aQ->aQ->aQ->ax->ax->ax->ax->ax->aq->ax->ax->ax->aq->ax->aQ->aA R)(x1 x2 x3:ax)(x5:aQ)(x6 x7:ax)(x8 x9 x10 x11 MF x13 x14 x15 x16:aQ)(x17 x18 x19 x20 x21:ax)(x22:aq)(x23 x24 x25:ax)(x26:aq)(x27:ax)(hf:MF.length<=20)
  (hK:∀l:aQ,(∀j,j<l.length->0<=bE (ar l j 0)/\bE (ar l j 0)<=30)->jJ (K x1 x2 x3 (MF.length:ax) x5 x6 x7 x8 x9 x10 x11 MF x13 x14 x15 x16 x17 x18 x19 x20 x21 x22 x23 x24 x25 x26 x27 l) P):
  ∀(d i n:aE) (l:aQ),MF.length-i<=d->i<=MF.length->d<n->l.length<=i->(∀j,j<l.length->0<=bE (ar l j 0)/\bE (ar l j 0)<=30)->
   jJ (l4 N K n x1 x2 x3 (i:ax) x5 x6 x7 x8 x9 x10 x11 MF x13 x14 x15 x16 x17 x18 x19 x20 x21 x22 x23 x24 x25 x26 x27 l) P:=by
 have fin:∀(n:aE) (l:aQ),(∀j,j<l.length->0<=bE (ar l j 0)/\bE (ar l j 0)<=30)->jJ (l4 N K (n+1) x1 x2 x3 (MF.length:ax) x5 x6 x7 x8 x9 x10 x11 MF x13 x14 x15 x16 x17 x18 x19 x20 x21 x22 x23 x24 x25 x26 x27 l) P:=λn l hl=>by refine A_Post.eq ?_ (hK l hl);simp only[l4,r4,Lib.c6,bk,bc,aw]
 intro d;induction d with
 |zero=>
  intro i n l h1 h2 h3 h4 h5;obtain⟨n,rfl⟩:∃k,n=k+1:=⟨n-1,by omega⟩
  have:i=MF.length:=by omega
  subst this;exact fin n l h5
 |succ d ih=>
  intro i n l h1 h2 h3 h4 h5;obtain⟨n,rfl⟩:∃k,n=k+1:=⟨n-1,by omega⟩
  by_cases h:i<MF.length
  ·have kI:bG ((i:ax)+1)=((i+1:aE):ax):=c_ (by omega) (by omega);by_cases hs:bE (ar MF i 2)=1
   ·have hr:cw (l.length+(aD (aP [Ck.i ao] 1) 0 [CV.i ao (i:ax)]).length) 8=true:=by rw[fA.nO];exact Lib.ch (by omega) (by omega)
    refine A_Post.eq (o':=l4 N K n x1 x2 x3 ((i+1:aE):ax) x5 x6 x7 x8 x9 x10 x11 MF x13 x14 x15 x16 x17 x18 x19 x20 x21 x22 x23 x24 x25 x26 x27 (l++aD (aP [Ck.i ao] 1) 0 [CV.i ao (i:ax)])) ?_ (ih (i+1) n _ (by omega) h (by omega) (by rw[bU,fA.nO];omega) λj hj=> ?_)
    ·simp only[l4,r4,Lib.c6,h,aN,Lib.cm,aL,au,Lib.dN,hs,hr,kI]
    ·rw[bU,fA.nO]at hj;by_cases j8:j<l.length
     ·have:ar (l++aD (aP [Ck.i ao] 1) 0 [CV.i ao (i:ax)]) j 0=ar l j 0:=by unfold ar;rw[cY,cY,dF j8];simp only[cY]
      rw[this];exact h5 j j8
     ·have:ar (l++aD (aP [Ck.i ao] 1) 0 [CV.i ao (i:ax)]) j 0=CV.i ao (i:ax):=by unfold ar;rw[cY,cY,db (by omega),show j-l.length=0 by omega];rfl
      rw[this];show 0<=(i:ax)/\(i:ax)<=30;omega
   ·refine A_Post.eq (o':=l4 N K n x1 x2 x3 ((i+1:aE):ax) x5 x6 x7 x8 x9 x10 x11 MF x13 x14 x15 x16 x17 x18 x19 x20 x21 x22 x23 x24 x25 x26 x27 l) ?_ (ih (i+1) n _ (by omega) h (by omega) (by omega) h5);simp only[l4,r4,Lib.c6,h,aN,Lib.cm,aL,au,aw,Lib.dN,hs,bc,kI]
  ·have:i=MF.length:=by omega
   subst this;exact fin n l h5
set_option maxHeartbeats 8000000 in
theorem body(q:aQ)(a s:ax)(now:ax)(en w m sk:aQ)(ag:ax)(fe cl:aQ)(hits:ax)(dk cd bd:aQ)(hI:I q a)(hf:fe.length<=20)(hc:∀j,j<cl.length->0<=bE (ar cl j 0)/\bE (ar cl j 0)<=30):jJ (vo q a s now en w m sk ag fe cl hits dk cd bd) (Dr q en w m sk fe cl dk cd bd):=by
 unfold vo;generalize hN:Lib.cJ=N;have hN1:20<N:=by rw[<-hN];exact cu (by omega)
 unfold b;refine A_Post.adh (λn=>1<=n/\n<=6) ⟨by decide,by decide⟩ hI (λkd a1 s1 I1 hk=> ?_);refine opens N _ _ _ _ _ _ _ _ _ _ _ _ _ _ _ _ _ _ _ _ _ _ _ _ _ _ _ hf (λl hl=> ?_) fe.length 0 N _ (by omega) (by omega) (by omega) (bD _) (λj hj=>cL hj (Nat.not_lt_zero j));dsimp only
 repeat' first
  |refine A_Post.below (by assumption) (λn a s hI h0 h1=> ?_)
  |refine A_Post.once (by assumption) (λn a s hI=> ?_)
  |refine A_Post.key (by assumption) (λn a s hI h0=> ?_)
  |refine A_Post.adh (λn=>0<=n) ⟨by decide,by decide⟩ (by assumption) (λn a s hI h0=> ?_)
  |refine A_Post.amQ (λt=>t.size<=60) ⟨by decide,by decide⟩ (by assumption) (λn a s hI h0=> ?_)
  |refine A_Post.ck (A_Post.idx (by assumption) (by assumption) (by assumption)) ?_
  |refine leaf (by assumption) (by first|exact hk|decide) (by first|exact idA (by assumption) (by assumption)|exact idB (by assumption) (by assumption)|exact idC hl (by assumption) (by assumption) (by assumption)|exact idC hc (by assumption) (by assumption) (by assumption)|decide) (by first|exact bD _|assumption|exact tA (by assumption)) (by first|exact Int.le_refl 0|assumption)
  |refine A_Post.br (λh=> ?_) (λh=> ?_)
end K8

namespace tu
theorem ok(l:aQ)(hl:l.length<=4294967296):c l=ai/\v l=l:=by refine out l ?_;unfold vo b;rw[show bS (aP [Ck.s] 0)+l.length=l.length by simp[aP],Lib.ch (by omega) (by omega)];rfl
end tu

namespace jw
open Lib (rr rs)
theorem ok(w m:az aq)(s:az (az ax))(a:ax)(hw:w.length<=1048576)(hm:m.length<=1048576)(hf:jq.oQ s):c (rs w) (rs m) (rr s) a=ai/\v (rs w) (rs m) (rr s) a=(rs w,rs m,rr s,a):=by have h1:=tu.ok (rs w) (by rw[eJ];omega);have h2:=tu.ok (rs m) (by rw[eJ];omega);have h3:=jq.ok s a hf;exact out _ _ _ _ (by unfold vo b;rw[h1.1,h1.2,h2.1,h2.2,h3.1,h3.2,au,au,au])
end jw

namespace iN
open Lib (rr rs re rf rc Px)
theorem ok(p:Px)(hp:p.Fit 1048576):c p.now (re p.en) (rs p.w) (rs p.m) (rr p.s) p.a (rf p.fe) (rc p.cl) p.hits=ai/\v p.now (re p.en) (rs p.w) (rs p.m) (rr p.s) p.a (rf p.fe) (rc p.cl) p.hits=(p.now,re p.en,rs p.w,rs p.m,rr p.s,p.a,rf p.fe,rc p.cl,p.hits):=by have he:=hp.en;have hf:=hp.fe;have hc:=hp.cl;have h1:=wZ.ok (re p.en) (by rw[de];omega);have h2:=jw.ok p.w p.m p.s p.a hp.w hp.m ⟨hp.s.1,hp.s.2.1⟩;exact out _ _ _ _ _ _ _ _ _ (by unfold vo b;rw[h1.1,h1.2,h2.1,h2.2,au,au,Lib.ch (by simp[aP,dD];omega) (by simp[aP,dD];omega),Lib.ch (by simp[aP,eI];omega) (by simp[aP,eI];omega)];rfl)
end iN

namespace pQ
open Lib (rr)
theorem eH(n a b:ax):lH.v n a b=decide (a<=n/\n<=b):=fB.eH n a b
theorem ok(s:az (az ax))(a:ax)(hf:jq.oQ s):c (rr s) a=ai/\v (rr s) a=fB.oq s a:=by
 refine out _ _ ?_;unfold vo b;have hl:=hf.1;rw[gO]
 have inner:∀i (h:i<s.length) (K0 K1:aU->aQ->aQ->ax->ax->aQ->ax->ax->aQ->ax->aA aU) (kf kt:aA aU) (x:ax)
   (h0:∀j:ax,K0 ak (Lib.ri s[i]) (rr s) s.length i (Lib.ri s[i]) x j (rr s) a=kf) (h1:∀j:ax,K1 ak (Lib.ri s[i]) (rr s) s.length i (Lib.ri s[i]) x j (rr s) a=kt),x=(s[i].length:ax)->l5 Lib.cJ K0 K1 Lib.cJ ak (Lib.ri s[i]) (rr s) s.length (i:ax) (Lib.ri s[i]) x 0 (rr s) a=bif(s[i]).all fB.Ob then kt else kf:=λi h K0 K1 kf kt x h0 h1 hx=>by
  subst hx
  exact pj (s[i]) fB.Ob (λm (j:aE)=>l5 Lib.cJ K0 K1 m ak (Lib.ri s[i]) (rr s) s.length (i:ax) (Lib.ri s[i]) s[i].length (j:ax) (rr s) a) kf kt
   (λm j hj hp=>by have hl:=hf.2 _ (bB h);unfold fB.Ob at hp;simp only[l5,r5,Lib.c6,hj,aN,Lib.cm,aL,au,Lib.dN,Lib.gf,Rf hj,bE,eH,hp,aY,aw,Lib.cS hj (by omega:s[i].length<=9223372036854775807)])
   (λm j hj hp=>by unfold fB.Ob at hp;simp only[l5,r5,Lib.c6,hj,aN,Lib.cm,aL,au,Lib.dN,Lib.gf,Rf hj,bE,eH,hp,bP,h0])
   (λm=>by simp only[l5,r5,Lib.c6,bk,bc,aw,h1]) Lib.cJ (cu (by have:=hf.2 _ (bB h);omega))
 have ro:∀q:az ax,fB.sI q=(q.all fB.Ob&&decide (q.length=16)):=λq=>Bool.and_comm ..
 have key:=pj s fB.sI (λm (i:aE)=>l2 Lib.cJ (λ(y36:aU) (_:aQ) (_ _:ax) (_:aQ) (_:ax)=>ah y36) (λ(_:aU) (_:aQ) (_ _:ax) (y46:aQ) (y47:ax)=>bif(decide ((↑(bS y46):ax)=3))then(ah (lH.v y47 0 63))else(ah ak)) m ak (rr s) s.length (i:ax) (rr s) a) (ah ak) (ah (decide (s.length=3)&&decide (0<=a/\a<=63)))
  (λm i h hp=>by rw[ro,aM]at hp;have KF:=cq hp.2;simp only[l2,r2,gO,Lib.c6,h,aN,Lib.cm,aL,au,Lib.dN,Ki h,iX,Lib.gf];rw[inner i h _ _ (ah ak) _ _ (λ_=>rfl) (λ_=>rfl) rfl,hp.1,au,Lib.gf,KF,show(((16:aE):ax) !=16)=ak from rfl,aw,Lib.cS h (by omega)])
  (λm i h hp=>by
   rw[ro]at hp;simp only[l2,r2,gO,Lib.c6,h,aN,Lib.cm,aL,au,Lib.dN,Ki h,iX,Lib.gf];rw[inner i h _ _ (ah ak) _ _ (λ_=>rfl) (λ_=>rfl) rfl];cases ha:(s[i]).all fB.Ob with
   |false=>rfl
   |true=>rw[ha,ba]at hp;have:=me hp;rw[au,Lib.gf,show((s[i].length:ax) !=16)=ai by simp;omega,au])
  (λm=>by simp only[l2,r2,gO,Lib.c6,bk,bc,aw,eH];rw[show decide ((s.length:ax)=3)=decide (s.length=3)by rw[ca];omega];cases decide (s.length=3)<;>rfl) Lib.cJ (cu (by omega))
 refine key.trans ?_;unfold fB.oq;cases s.all fB.sI<;>cases decide (s.length=3)<;>cases decide (0<=a/\a<=63)<;>rfl
end pQ

namespace Ec
theorem ok(n:ax)(h0:0<=n)(h1:n<=4294967296):c n=ai/\v n=[]:=by
 refine out n ?_;unfold vo b;have e:bG (n-bG (0-0))=n:=by rw[show bG (0-0)=0 from rfl,Int.sub_zero,c_ (by omega) (by omega)]
 rw[e,aK (show¬n<0 by omega),aw];by_cases hn:n>0
 ·rw[aG hn,au,aG h0,aG (show n<=9223372036854775807 by omega),Lib.ch (by simp;omega) (by simp;omega)];simp[eW]
 ·rw[aK hn,aw]
end Ec

namespace wY
theorem ok(p q:aQ)(hp:p.length<=1048576)(hq:q.length<=1048576):c [[CV.l 9 p],[CV.l 9 q]]=ai/\v [[CV.l 9 p],[CV.l 9 q]]=p++q:=by
 refine out _ ?_;have w1:bG (0+(p.length:ax))=(p.length:ax):=by rw[Int.zero_add];exact c_ (by omega) (by omega)
 have w2:bG ((p.length:ax)+(q.length:ax))=(p.length:ax)+(q.length:ax):=c_ (by omega) (by omega);have hg:=Ec.ok ((p.length:ax)+(q.length:ax)) (by omega) (by omega);have d1:decide ((p.length:ax)<0)=false:=aK (by omega);have d2:decide ((p.length:ax)+(q.length:ax)<0)=false:=aK (by omega);have g1:cw (0+p.length) 16=true:=Lib.ch (by omega) (by omega);have g2:cw (p.length+q.length) 16=true:=Lib.ch (by omega) (by omega);have c0:iX (ar [[CV.l 9 p],[CV.l 9 q]] 0 0)=p:=rfl;have c1:iX (ar [[CV.l 9 p],[CV.l 9 q]] 1 0)=q:=rfl;unfold vo b;obtain⟨n,hn⟩:∃n,Lib.cJ=n+3:=⟨18446744073709551613,rfl⟩
 generalize Lib.cJ=B at hn⊢;subst hn;have k3:∀(R:Type) (K:aQ->ax->aQ->ax->ax->aA R) (S:aQ),S=[[CV.l 9 p],[CV.l 9 q]]->l3 (n+3) K (n+3) S 0 S 2 0=K S ((p.length:ax)+(q.length:ax)) S 2 2:=by intro R K S hS;subst hS;simp only[l3,r3,dc,jR,show aZ 0=0 from rfl,c0,w1,d1,show bG (0+1)=1 from rfl,show aZ 1=1 from rfl,c1,w2,d2,show bG (1+1)=2 from rfl,aw,show decide ((0:ax)<2)=ai from rfl,show decide ((1:ax)<2)=ai from rfl,show decide ((2:ax)<2)=ak from rfl,show decide ((0:ax)<=0)=ai from rfl,show decide ((0:ax)<=1)=ai from rfl,show((0+1+1:aE):ax)=2 from rfl,aL,au]
 have k11:∀(R:Type) (K:aQ->ax->ax->aQ->aA R) (S:aQ),S=[[CV.l 9 p],[CV.l 9 q]]->P7 (n+3) K (n+3) S 2 0 []=K S 2 2 (p++q):=by intro R K S hS;subst hS;simp only[P7,wG,dc,jR,show aZ 0=0 from rfl,c0,g1,show bG (0+1)=1 from rfl,show aZ 1=1 from rfl,c1,gF,g2,show bG (1+1)=2 from rfl,aw,show decide ((0:ax)<2)=ai from rfl,show decide ((1:ax)<2)=ai from rfl,show decide ((2:ax)<2)=ak from rfl,show decide ((0:ax)<=0)=ai from rfl,show decide ((0:ax)<=1)=ai from rfl,show((0+1+1:aE):ax)=2 from rfl,aL,au]
 show l3 (n+3) _ (n+3) _ 0 _ 2 0=_;rw[k3 _ _ _ rfl,hg.1,hg.2,au];exact k11 _ _ _ rfl
end wY

namespace qF
theorem ok(w m:az aq)(s:aQ)(a:ax)(hw:w.length<=1048576)(hm:m.length<=1048576):c (Lib.rs w) (Lib.rs m) s a=ai/\v (Lib.rs w) (Lib.rs m) s a=Lib.rs (w++m):=by
 have h:=wY.ok (Lib.rs w) (Lib.rs m) (by rw[eJ];exact hw) (by rw[eJ];exact hm);have e:aD (aD (aP [Ck.l 9] 2) 0 [CV.l 9 (Lib.rs w)]) 1 [CV.l 9 (Lib.rs m)]=[[CV.l 9 (Lib.rs w)],[CV.l 9 (Lib.rs m)]]:=rfl;have e2:Lib.rs w++Lib.rs m=Lib.rs (w++m):=by unfold Lib.rs;rw[dh]
 exact out _ _ _ _ (by unfold vo b;rw[e,h.1,h.2,au,e2])
end qF

namespace Bb
theorem ok(l:az aq)(k:aq)(hl:l.length<=4294967296):c (Lib.rs l) k=ai/\decide (v (Lib.rs l) k≥0)=e9.has l k:=by
 have h:=out (Lib.rs l) k (x:=Lib.fi (λi=>decide ((l.getD i ⟨#[]⟩)=k)) l.length 0) (by
  unfold vo b;rw[eJ];refine lS (λi=>decide ((l.getD i ⟨#[]⟩)=k)) l.length (λm (i:aE)=>l2 Lib.cJ (λ(_:aQ) (_:aq) (y7 _ _:ax)=>ah y7) (λ(_:aQ) (_:aq) (_ _ _:ax)=>ah (-1)) m (Lib.rs l) k 0 (l.length:ax) (i:ax)) ah (λm i hi hp=> ?_) (λm i hi hp=> ?_) (λm=> ?_) Lib.cJ (cu (by omega))
  ·have hg:l.getD i ⟨#[]⟩=l[i]:=by simp[kA,hi]
   rw[hg]at hp;have mR:decide (k=l[i])=true:=by rw[<-hp,ca];exact W0
   simp only[l2,r2,eJ,Lib.c6,hi,aN,Lib.cm,aL,au,Lib.dN,Xc hi,bz,Lib.eN,mR]
  ·have hg:l.getD i ⟨#[]⟩=l[i]:=by simp[kA,hi]
   rw[hg]at hp;have mR:decide (k=l[i])=false:=by rw[<-hp,ca];exact W0
   simp only[l2,r2,eJ,Lib.c6,hi,aN,Lib.cm,aL,au,Lib.dN,Xc hi,bz,Lib.eN,mR,aw,Lib.cS hi (by omega:l.length<=9223372036854775807)]
  ·simp only[l2,r2,Lib.c6,bk,bc,aw])
 refine⟨h.1, ?_⟩
 rw[h.2];exact Lib.CI l (λx=>decide (x=k)) _ (λi hi=>by simp[kA,hi])
end Bb

namespace sN
theorem ok(l:az aq)(k:aq)(hl:l.length<=4294967296):c (Lib.rs l) k=ai/\v (Lib.rs l) k=e9.has l k:=by have h:=Bb.ok l k hl;exact out _ _ (by unfold vo b;rw[h.1,h.2,au])
end sN

namespace pd
open Lib (rr rs)
open e9 (has without gM lT)
open jz (eO LS nH sV yH)
theorem iQ(k:aq):zD.v k=eO k:=fB.eH _ _ _
theorem ok(w m:az aq)(s:az (az ax))(a:ax)(hw:w.length<=1048576)(hm:m.length<=1048576)(hf:jq.oQ s):c (rs w) (rs m) (rr s) a=ai/\v (rs w) (rs m) (rr s) a=sV w m s a:=by
 refine out _ _ _ _ ?_;have h2:=pQ.ok s a hf;have h3:=qF.ok w m (rr s) a hw hm;unfold vo b;rw[h3.1,h3.2,au,eJ];have hl:(w++m).length<=2097152:=by rw[bU];omega
 have gC:∀i,i<(w++m).length->sN.c (rs ((w++m).take i)) ((w++m).getD i ⟨#[]⟩)=ai/\sN.v (rs ((w++m).take i)) ((w++m).getD i ⟨#[]⟩)=has ((w++m).take i) ((w++m).getD i ⟨#[]⟩):=λi hi=>sN.ok _ _ (by rw[eL];omega);have hk:∀i (hi:i<(w++m).length),bz (ar (rs (w++m)) i 0)=(w++m).getD i ⟨#[]⟩:=λi hi=>by rw[Xc hi,show(w++m).getD i ⟨#[]⟩=(w++m)[i]by rw[cY,eR hi];rfl];rfl
 generalize hL:w++m=L at hl gC hk
 have key:=gJ (LS L) L.length (λn (i:aE)=>l3 Lib.cJ (λ(y8:aU) (_ _:ax) (_ _ _:aQ) (_:ax) (_:aQ)=>ah y8) (λ(_:aU) (_ _:ax) (EI wD KL:aQ) (KM:ax) (_:aQ)=>bif(decide ((↑(bS EI):ax)<=2))then(bif(decide ((↑(bS wD):ax)<=4))then(bif(pQ.c KL KM)then(ah (pQ.v KL KM))else(aj))else(ah ak))else(ah ak)) n ak (L.length:ax) (i:ax) (rs w) (rs m) (rr s) a (rs L)) (ah ak) (ah (decide (w.length<=2)&&(decide (m.length<=4)&&fB.oq s a)))
  (λn i hi hp=>by
   unfold LS at hp;rw[aM,dp]at hp;have b1:ic 0 (i:ax) (L.length:ax)=true:=by simp[ic];omega
   simp only[l3,r3,eJ,Lib.c6,hi,aN,Lib.cm,aL,au,Lib.dN,hk i hi,iQ,hp.1,aY,aw,b1,yH,(gC i hi).1,(gC i hi).2,hp.2,Lib.cS hi (by omega:L.length<=9223372036854775807)])
  (λn i hi hp=>by
   have b1:ic 0 (i:ax) (L.length:ax)=true:=by simp[ic];omega
   unfold LS at hp;cases h1:eO (L.getD i ⟨#[]⟩)with
   |false=>simp only[l3,r3,eJ,Lib.c6,hi,aN,Lib.cm,aL,au,Lib.dN,hk i hi,iQ,h1,bP]
   |true=>rw[h1,ba,nk]at hp;simp only[l3,r3,eJ,Lib.c6,hi,aN,Lib.cm,aL,au,Lib.dN,hk i hi,iQ,h1,aY,aw,b1,yH,(gC i hi).1,(gC i hi).2,hp])
  (λn=>by simp only[l3,r3,eJ,Lib.c6,bk,bc,aw,h2.1,h2.2,au];rw[show decide ((w.length:ax)<=2)=decide (w.length<=2)by rw[ca];omega,show decide ((m.length:ax)<=4)=decide (m.length<=4)by rw[ca];omega];cases decide (w.length<=2)<;>cases decide (m.length<=4)<;>rfl) Lib.cJ (cu (by omega))
 refine key.trans ?_;unfold sV nH;rw[hL];cases (b8 L.length).all (LS L)<;>rfl
end pd

namespace sM
open Lib (rr rs)
open e9 (has)
theorem Yb(w m:az aq)(k:aq):has (w++m) k=(has w k||has m k):=by unfold has;rw[List.any_append]
theorem ok(w m:az aq)(s:aQ)(a:ax)(k:aq)(hw:w.length<=1048576)(hm:m.length<=1048576):c (rs w) (rs m) s a k=ai/\v (rs w) (rs m) s a k=(has w k||has m k):=by have h1:=qF.ok w m s a hw hm;have h2:=sN.ok (w++m) k (by rw[bU];omega);exact out _ _ _ _ _ (by unfold vo b;rw[h1.1,h1.2,h2.1,h2.2,au,au,Yb])
end sM

namespace Q5
open Lib (rr rs re el oD qx qy qz En)
open e9 (has)
open jz (sV)
open nU (IC NJ vl)
theorem Fs(k:aq)(s l:ax)(b:aq):wT.v k s l b=m8.v k s l b:=rfl
theorem ok(i0:ax)(en:az En)(w m:az aq)(s:az (az ax))(a:ax)(r6 r7:aQ)(i8:ax)(he:en.length<=1048576)(hw:w.length<=1048576)(hm:m.length<=1048576)(hf:jq.oQ s):
  c i0 (re en) (rs w) (rs m) (rr s) a r6 r7 i8=ai/\v i0 (re en) (rs w) (rs m) (rr s) a r6 r7 i8=NJ en w m s a:=by
 refine out _ _ _ _ _ _ _ _ _ ?_;have h1:=pd.ok w m s a hw hm hf;have h2:=λk=>sM.ok w m (rr s) a k hw hm;have h3:=qF.ok w m (rr s) a hw hm;unfold vo b;rw[de]
 have key:=gJ (IC en w m) en.length (λn (i:aE)=>l2 Lib.cJ (λ(Ir:aU) (_:aQ) (_ _ _:ax) (_ _ _ _:aQ) (_:ax) (_ _:aQ) (_:ax)=>ah Ir) (λ(_:aU) (_:aQ) (_ _ _:ax) (Rp QN WA y34:aQ) (y35:ax) (_ _:aQ) (_:ax)=>bif(pd.c QN WA y34 y35)then(bif(pd.v QN WA y34 y35)then(bif(qF.c QN WA y34 y35)then(ah (decide ((↑(bS (qF.v QN WA y34 y35)):ax)=(↑(bS Rp):ax))))else(aj))else(ah ak))else(aj)) n ak (re en) (en.length:ax) (i:ax) i0 (re en) (rs w) (rs m) (rr s) a r6 r7 i8) (ah ak) (ah (sV w m s a&&decide (w.length+m.length=en.length)))
  (λn i hi hp=>by
   unfold IC vl at hp;rw[aM,aM]at hp;obtain⟨p1,p2,p3⟩:=hp;by_cases hz:i=0
   ·subst hz;simp only[l2,r2,de,Lib.c6,hi,aN,Lib.cm,aL,au,Lib.dN,oD hi,qx hi,qy hi,qz hi,bz,bE,Fs,p1,aY,aw,aK (show¬(((0:aE):ax)>0)by omega),(h2 _).1,(h2 _).2,p3,Lib.cS hi (by omega:en.length<=9223372036854775807)]
   ·rw[aK hz,ov]at p2;have kI:i-1<en.length:=by omega
    simp only[l2,r2,de,Lib.c6,hi,aN,Lib.cm,aL,au,Lib.dN,oD hi,qx hi,qy hi,qz hi,bz,bE,Fs,p1,aY,aw,aG (show(i:ax)>0 by omega),mf (show 0<i by omega) (by omega),kI,oD kI,p2,(h2 _).1,(h2 _).2,p3,Lib.cS hi (by omega:en.length<=9223372036854775807)])
  (λn i hi hp=>by
   unfold IC vl at hp;cases p1:m8.v (el en i).k (el en i).st (el en i).li (el en i).bo with
   |false=>simp only[l2,r2,de,Lib.c6,hi,aN,Lib.cm,aL,au,Lib.dN,oD hi,qx hi,qy hi,qz hi,bz,bE,Fs,p1,bP]
   |true=>
    rw[p1,ba]at hp;by_cases hz:i=0
    ·subst hz;rw[aG rfl,AO,ba]at hp;simp only[l2,r2,de,Lib.c6,hi,aN,Lib.cm,aL,au,Lib.dN,oD hi,qx hi,qy hi,qz hi,bz,bE,Fs,p1,aY,bP,aw,aK (show¬(((0:aE):ax)>0)by omega),(h2 _).1,(h2 _).2,hp]
    ·rw[aK hz,ov]at hp;have kI:i-1<en.length:=by omega
     cases p2:b9 (aC (el en (i-1)).k) (aC (el en i).k)with
     |false=>simp only[l2,r2,de,Lib.c6,hi,aN,Lib.cm,aL,au,Lib.dN,oD hi,qx hi,qy hi,qz hi,bz,bE,Fs,p1,aY,bP,aw,aG (show(i:ax)>0 by omega),mf (show 0<i by omega) (by omega),kI,oD kI,p2]
     |true=>rw[p2,ba]at hp;simp only[l2,r2,de,Lib.c6,hi,aN,Lib.cm,aL,au,Lib.dN,oD hi,qx hi,qy hi,qz hi,bz,bE,Fs,p1,aY,bP,aw,aG (show(i:ax)>0 by omega),mf (show 0<i by omega) (by omega),kI,oD kI,p2,(h2 _).1,(h2 _).2,hp])
  (λn=>by simp only[l2,r2,Lib.c6,bk,bc,aw,h1.1,h1.2,h3.1,h3.2,au,eJ,de,bU];rw[show decide (((w.length+m.length:aE):ax)=(en.length:ax))=decide (w.length+m.length=en.length)by rw[ca];omega];cases sV w m s a<;>rfl) Lib.cJ (cu (by omega))
 refine key.trans ?_;unfold NJ;cases (b8 en.length).all (IC en w m)<;>rfl
end Q5

namespace dZ
def op(r:aQ)(i:aE):aU:=decide (bE (ar r i 2)=1)
def g(r:aQ)(i j:aE):aU:= !(op r i&&(op r j&&bW (aC (bz (ar r i 0))) (aC (bz (ar r j 0)))))
def val(r:aQ):aU:=(b8 r.length).all λi=>(b8 i).all (g r i)
end dZ

namespace qG
def p(s0:aQ)(gQ:aq)(i:aE):aU:=IX.v (bz (ar s0 i 0)) (bz (ar s0 i 1)) (bE (ar s0 i (1+1))) (bE (ar s0 i (1+1+1))) (bE (ar s0 i (1+1+1+1))) gQ
theorem ok(s0:aQ)(gQ:aq)(hl:s0.length<=4294967296):c s0 gQ=ai/\v s0 gQ=Lib.fi (p s0 gQ) s0.length 0:=by
 refine out s0 gQ ?_;unfold vo b;refine lS (p s0 gQ) s0.length (λm (i:aE)=>l2 Lib.cJ (λ(_:aQ) (_:aq) (y7 _ _:ax)=>ah y7) (λ(_:aQ) (_:aq) (_ _ _:ax)=>ah (-1)) m s0 gQ 0 (s0.length:ax) (i:ax)) ah (λm i hi hp=> ?_) (λm i hi hp=> ?_) (λm=> ?_) Lib.cJ (cu (by omega))
 ·unfold p at hp;simp only[l2,r2,Lib.c6,Lib.cm,Lib.dN,hi,aN,aL,au,hp]
 ·unfold p at hp;simp only[l2,r2,Lib.c6,Lib.cm,Lib.dN,hi,aN,aL,au,hp,aw,Lib.cS hi (by omega:s0.length<=9223372036854775807)]
 ·simp only[l2,r2,Lib.c6,bk,bc,aw]
end qG

namespace K7
theorem ok(i0:ax)(r1 r2 r3 r4:aQ)(i5:ax)(r6 r7:aQ)(i8:ax)(key:aq)(hl:r6.length<=4294967296):c i0 r1 r2 r3 r4 i5 r6 r7 i8 key=ai/\v i0 r1 r2 r3 r4 i5 r6 r7 i8 key=Lib.fi (qG.p r6 key) r6.length 0:=by have h:=qG.ok r6 key hl;exact out _ _ _ _ _ _ _ _ _ _ (by unfold vo b;rw[h.1,h.2,au])
end K7

namespace IZ
def q(r:aQ)(i:aE):aU:= !(dZ.op r i&&(Lib.fi (qG.p r (bz (ar r i 0))) r.length 0 !=(i:ax)))
theorem same(r:aQ)(i:aE)(hi:i<r.length):q r i=(b8 i).all (dZ.g r i):=by
 unfold q;cases ho:dZ.op r i with
 |false=>symm;rw[jf,bP,bu];intro j _;unfold dZ.g;rw[ho];rfl
 |true=>
  rw[ba];have hp:∀j,qG.p r (bz (ar r i 0)) j= !dZ.g r i j:=by intro j;unfold qG.p IX.v dZ.g;rw[ho,ba,Bool.not_not,Lib.eN,Lib.eN];unfold dZ.op;rw[show decide (bz (ar r j 0)=bz (ar r i 0))=decide (bz (ar r i 0)=bz (ar r j 0))from by rw[ca];exact W0];cases decide (bz (ar r i 0)=bz (ar r j 0))<;>simp
  have hpi:qG.p r (bz (ar r i 0)) i=true:=by rw[hp];unfold dZ.g;rw[ho,Lib.eN];simp
  rcases Lib.py (qG.p r (bz (ar r i 0))) r.length 0 with ⟨_,h2⟩|⟨k,h1,h2,h3,h4,h5⟩
  ·have:=h2 i (bD _) (by omega);rw[hpi]at this;cases this
  ·rw[h3];by_cases hk:k=i
   ·subst hk;rw[eU,bP];symm;rw[bu];intro j hj;have:=h5 j (bD _) (by simpa using hj);rw[hp]at this;simpa using this
   ·have jt:k<i:=by
     rcases qY k i with h|h
     ·exact h
     ·have:=h5 i (bD _) (by omega);rw[hpi]at this;cases this
    rw[show((k:ax) !=(i:ax))=ai from by simp;omega,aY];symm;rw[List.all_eq_false];refine⟨k,by simpa using jt, ?_⟩
    rw[hp]at h4;simpa using h4
theorem ok(i0:ax)(p1 p2 p3 p4:aQ)(i5:ax)(p6 p7:aQ)(i8:ax)(hl:p6.length<=4294967296):c i0 p1 p2 p3 p4 i5 p6 p7 i8=ai/\v i0 p1 p2 p3 p4 i5 p6 p7 i8=dZ.val p6:=by
 refine out _ _ _ _ _ _ _ _ _ ?_;unfold vo b;have hw:∀i,i<p6.length->bG ((i:ax)+1)=((i+1:aE):ax):=λi h=>Lib.cS h (by omega);have ho:=λkey=>K7.ok i0 p1 p2 p3 p4 i5 p6 p7 i8 key hl
 have key:=gJ (q p6) p6.length (λm (i:aE)=>l2 Lib.cJ (λ(Ir:aU) (_:aQ) (_ _ _:ax) (_ _ _ _:aQ) (_:ax) (_ _:aQ) (_:ax)=>ah Ir) (λ(_:aU) (_:aQ) (_ _ _:ax) (_ _ _ _:aQ) (_:ax) (_ _:aQ) (_:ax)=>ah ai) m ak p6 (p6.length:ax) (i:ax) i0 p1 p2 p3 p4 i5 p6 p7 i8) (ah ak) (ah ai)
  (λm i hi hp=>by
   unfold q dZ.op at hp;cases e1:decide (bE (ar p6 i (1+1))=1)with
   |false=>simp only[l2,r2,Lib.c6,hi,aN,Lib.cm,aL,au,Lib.dN,e1,aw,hw i hi]
   |true=>rw[show decide (bE (ar p6 i 2)=1)=ai from e1,ba,dp]at hp;simp only[l2,r2,Lib.c6,hi,aN,Lib.cm,aL,au,Lib.dN,e1,(ho _).1,(ho _).2,hp,aw,hw i hi])
  (λm i hi hp=>by unfold q dZ.op at hp;rw[nk,aM]at hp;obtain⟨e1,e2⟩:=hp;have e1:decide (bE (ar p6 i (1+1))=1)=true:=e1;simp only[l2,r2,Lib.c6,hi,aN,Lib.cm,aL,au,Lib.dN,e1,(ho _).1,(ho _).2,e2])
  (λm=>by simp only[l2,r2,Lib.c6,bk,bc,aw]) Lib.cJ (cu (by omega))
 refine key.trans ?_;rw[all_congr (λi hi=>same p6 i hi)];unfold dZ.val;cases (b8 p6.length).all λi=>(b8 i).all (dZ.g p6 i)<;>rfl
end IZ

namespace Pj
open Lib (rf el Fe Bl BX MD Ag Rh Ri)
open np (nM apart lL)
theorem eH(n a b:ax):lH.v n a b=decide (a<=n/\n<=b):=fB.eH n a b
theorem one(fe:az Fe):dZ.val (rf fe)=(b8 fe.length).all (apart fe):=by
 unfold dZ.val;rw[dD];refine all_congr (λi hi=> ?_);unfold apart;refine all_congr (λj hj=> ?_);have j8:j<fe.length:=by omega
 unfold dZ.g dZ.op lL;rw[Bl hi,Bl j8,Ag hi,Ag j8];simp only[bz,bE,Lib.eN];rfl
theorem ok(i0:ax)(u1 u2 u3 u4:aQ)(i5:ax)(fe:az Fe)(u7:aQ)(i8:ax)(hf:fe.length<=1048576):
  c i0 u1 u2 u3 u4 i5 (rf fe) u7 i8=ai/\v i0 u1 u2 u3 u4 i5 (rf fe) u7 i8=((b8 fe.length).all (λi=>nM i0 (el fe i))&&(decide (fe.length<=20)&&(b8 fe.length).all (apart fe))):=by
 refine out _ _ _ _ _ _ _ _ _ ?_;have h1:=IZ.ok i0 u1 u2 u3 u4 i5 (rf fe) u7 i8 (by rw[dD];omega);rw[one]at h1;unfold vo b;rw[dD]
 have key:=gJ (λi=>nM i0 (el fe i)) fe.length (λn (i:aE)=>l2 Lib.cJ (λ(Ir:aU) (_:aQ) (_ _ _:ax) (_ _ _ _:aQ) (_:ax) (_ _:aQ) (_:ax)=>ah Ir) (λ(_:aU) (_:aQ) (_ _ Ro:ax) (Rp QN WA y34:aQ) (y35:ax) (y36 y37:aQ) (y38:ax)=>bif(decide ((↑(bS y36):ax)<=20))then(bif(IZ.c Ro Rp QN WA y34 y35 y36 y37 y38)then(ah (IZ.v Ro Rp QN WA y34 y35 y36 y37 y38))else(aj))else(ah ak)) n ak (rf fe) (fe.length:ax) (i:ax) i0 u1 u2 u3 u4 i5 (rf fe) u7 i8) (ah ak) (ah (decide (fe.length<=20)&&(b8 fe.length).all (apart fe)))
  (λn i hi hq=>by
   unfold nM at hq;simp only[aM]at hq;obtain⟨q1,q2,q3,q4,q5⟩:=hq;have e1:decide (((el fe i).t.size:ax)>400)= !decide (((el fe i).t.size:ax)<=400):=by rw[<-decide_not,ca];omega
   simp only[l2,r2,dD,Lib.c6,hi,aN,Lib.cm,aL,au,Lib.dN,Bl hi,BX hi,MD hi,Rh hi,Ri hi,bz,bE,eH,pd.iQ,e1,q1,q2,q3,q4,q5,aY,aw,Lib.cS hi (by omega:fe.length<=9223372036854775807)])
  (λn i hi hq=>by
   unfold nM at hq;have e1:decide (((el fe i).t.size:ax)>400)= !decide (((el fe i).t.size:ax)<=400):=by rw[<-decide_not,ca];omega
   simp only[l2,r2,dD,Lib.c6,hi,aN,Lib.cm,aL,au,Lib.dN,Bl hi,BX hi,MD hi,Rh hi,Ri hi,bz,bE,eH,pd.iQ,e1];revert hq;cases jz.eO (el fe i).k<;>cases decide (((el fe i).t.size:ax)<=400)<;>cases decide (1<=(el fe i).sta/\(el fe i).sta<=3)<;>cases decide (0<=(el fe i).li/\(el fe i).li<=999999)<;>cases decide (0<=(el fe i).st/\(el fe i).st<=i0)<;>intro hq<;>first|rfl|cases hq)
  (λn=>by simp only[l2,r2,Lib.c6,bk,bc,aw,dD,h1.1,h1.2,au];rw[show decide ((fe.length:ax)<=20)=decide (fe.length<=20)by rw[ca];omega];cases decide (fe.length<=20)<;>rfl) Lib.cJ (cu (by omega))
 refine key.trans ?_;cases (b8 fe.length).all (λi=>nM i0 (el fe i))<;>rfl
end Pj

namespace Q6
open Lib (rf rc el Fe Cl II QG QH QI QJ QK QL)
open jz (eO)
open oX (IB)
open Pj (eH)
theorem step(N:aE)(g k0 k1:aU->aQ->ax->ax->ax->aQ->aQ->aQ->aQ->ax->aQ->aQ->ax->aA R)(i0:ax)(q1 q2 q3 q4:aQ)(i5:ax)(fe:az Fe)(cl:az Cl)(i8:ax)(i:aE)(hi:i<cl.length)(hl:cl.length<=1048576):
  r2 N g k0 k1 ak (rc cl) cl.length (i:ax) i0 q1 q2 q3 q4 i5 (rf fe) (rc cl) i8=bif IB i0 fe.length cl i then g ak (rc cl) cl.length ((i+1:aE):ax) i0 q1 q2 q3 q4 i5 (rf fe) (rc cl) i8 else k0 ak (rc cl) cl.length (i:ax) i0 q1 q2 q3 q4 i5 (rf fe) (rc cl) i8:=by
 unfold IB;have e1:decide (((el cl i).jV.size:ax)>400)= !decide (((el cl i).jV.size:ax)<=400):=by rw[<-decide_not,ca];omega
 have e2:decide ((el cl i).age<0)= !decide (0<=(el cl i).age):=by rw[<-decide_not,ca];omega
 by_cases hz:i=0
 ·subst hz;simp only[r2,eI,dD,Lib.c6,hi,aN,Lib.cm,aL,au,Lib.dN,II hi,QG hi,QH hi,QI hi,QJ hi,QK hi,QL hi,bz,bE,eH,pd.iQ,aK (show¬(((0:aE):ax)>0)by omega),aw,e1,e2,Lib.cS hi (by omega:cl.length<=9223372036854775807),AO,ba];cases decide (1<=(el cl 0).id/\(el cl 0).id<=9)<;>cases eO (el cl 0).k<;>cases decide (1<=(el cl 0).sta/\(el cl 0).sta<=3)<;>cases decide (0<=(el cl 0).fe/\(el cl 0).fe<=(fe.length:ax))<;>cases decide (((el cl 0).jV.size:ax)<=400)<;>cases decide (0<=(el cl 0).fr/\(el cl 0).fr<=i0)<;>cases decide (0<=(el cl 0).age)<;>rfl
 ·have kI:i-1<cl.length:=by omega
  have e3:decide ((el cl (i-1)).id≥(el cl i).id)= !decide ((el cl (i-1)).id<(el cl i).id):=by rw[<-decide_not,ca];omega
  simp only[r2,eI,dD,Lib.c6,hi,aN,Lib.cm,aL,au,Lib.dN,II hi,QG hi,QH hi,QI hi,QJ hi,QK hi,QL hi,bz,bE,eH,pd.iQ,aG (show(i:ax)>0 by omega),mf (show 0<i by omega) (by omega),kI,II kI,aw,e1,e2,e3,Lib.cS hi (by omega:cl.length<=9223372036854775807),aK hz,ov];cases decide (1<=(el cl i).id/\(el cl i).id<=9)<;>cases decide ((el cl (i-1)).id<(el cl i).id)<;>cases eO (el cl i).k<;>cases decide (1<=(el cl i).sta/\(el cl i).sta<=3)<;>cases decide (0<=(el cl i).fe/\(el cl i).fe<=(fe.length:ax))<;>cases decide (((el cl i).jV.size:ax)<=400)<;>cases decide (0<=(el cl i).fr/\(el cl i).fr<=i0)<;>cases decide (0<=(el cl i).age)<;>rfl
theorem ok(i0:ax)(q1 q2 q3 q4:aQ)(i5:ax)(fe:az Fe)(cl:az Cl)(i8:ax)(hl:cl.length<=1048576):
  c i0 q1 q2 q3 q4 i5 (rf fe) (rc cl) i8=ai/\v i0 q1 q2 q3 q4 i5 (rf fe) (rc cl) i8=((b8 cl.length).all (IB i0 fe.length cl)&&decide (cl.length<=6)):=by
 refine out _ _ _ _ _ _ _ _ _ ?_;unfold vo b;rw[eI]
 have key:=gJ (IB i0 fe.length cl) cl.length (λn (i:aE)=>l2 Lib.cJ (λ(Ir:aU) (_:aQ) (_ _ _:ax) (_ _ _ _:aQ) (_:ax) (_ _:aQ) (_:ax)=>ah Ir) (λ(_:aU) (_:aQ) (_ _ _:ax) (_ _ _ _:aQ) (_:ax) (_ y37:aQ) (_:ax)=>ah (decide ((↑(bS y37):ax)<=6))) n ak (rc cl) (cl.length:ax) (i:ax) i0 q1 q2 q3 q4 i5 (rf fe) (rc cl) i8) (ah ak) (ah (decide (cl.length<=6)))
  (λn i hi hq=>by simp only[l2];rw[step _ _ _ _ _ _ _ _ _ _ _ _ _ i hi hl,hq];rfl)
  (λn i hi hq=>by simp only[l2];rw[step _ _ _ _ _ _ _ _ _ _ _ _ _ i hi hl,hq];rfl)
  (λn=>by simp only[l2,r2,Lib.c6,bk,bc,aw,eI];rw[show decide ((cl.length:ax)<=6)=decide (cl.length<=6)by rw[ca];omega]) Lib.cJ (cu (by omega))
 refine key.trans ?_;cases (b8 cl.length).all (IB i0 fe.length cl)<;>rfl
end Q6

namespace KE
open Lib (rr rs re rf rc el En Fe Cl Px)
open nU (NJ)
open np (nM apart)
open oX (IB jb)
theorem ok(p:Px)(hp:p.Fit 1048576):c p.now (re p.en) (rs p.w) (rs p.m) (rr p.s) p.a (rf p.fe) (rc p.cl) p.hits=ai/\v p.now (re p.en) (rs p.w) (rs p.m) (rr p.s) p.a (rf p.fe) (rc p.cl) p.hits=jb p:=by refine out _ _ _ _ _ _ _ _ _ ?_;have h1:=Q5.ok p.now p.en p.w p.m p.s p.a (rf p.fe) (rc p.cl) p.hits hp.en hp.w hp.m ⟨hp.s.1,hp.s.2.1⟩;have h2:=Pj.ok p.now (re p.en) (rs p.w) (rs p.m) (rr p.s) p.a p.fe (rc p.cl) p.hits hp.fe;have h3:=Q6.ok p.now (re p.en) (rs p.w) (rs p.m) (rr p.s) p.a p.fe p.cl p.hits hp.cl;unfold vo b jb;have e1:∀n a b,lH.v n a b=decide (a<=n/\n<=b):=λn a b=>fB.eH n a b;have e2:SM.v p.hits=decide (0<=p.hits/\p.hits<=1000000000):=e1 p.hits 0 1000000000;rw[e1,e2,h1.1,h1.2,h2.1,h2.2,h3.1,h3.2,Hc];cases decide (1<=p.now/\p.now<=1000000000)<;>cases NJ p.en p.w p.m p.s p.a<;>cases decide (p.fe.length<=20)<;>cases decide (p.cl.length<=6)<;>cases decide (0<=p.hits/\p.hits<=1000000000)<;>cases (b8 p.fe.length).all (λi=>nM p.now (el p.fe i))<;>cases (b8 p.fe.length).all (apart p.fe)<;>cases (b8 p.cl.length).all (IB p.now p.fe.length p.cl)<;>rfl
end KE

namespace qH
def p(s:aQ)(k:ax)(i:aE):aU:=decide (bE (ar s i 0)=k)
theorem ok(d:aQ)(n:ax)(hl:d.length<=4294967296):c d n=ai/\v d n=Lib.fi (p d n) d.length 0:=by
 refine out d n ?_;unfold vo b;refine lS (p d n) d.length (λm (i:aE)=>l2 Lib.cJ (λ(_:aQ) (_:ax) (y7 _ _:ax)=>ah y7) (λ(_:aQ) (_:ax) (_ _ _:ax)=>ah (-1)) m d n 0 (d.length:ax) (i:ax)) ah (λm i hi hp=> ?_) (λm i hi hp=> ?_) (λm=> ?_) Lib.cJ (cu (by omega))
 ·unfold p at hp;simp only[l2,r2,Lib.c6,Lib.cm,Lib.dN,hi,aN,aL,au,K2.v,hp]
 ·unfold p at hp;simp only[l2,r2,Lib.c6,Lib.cm,Lib.dN,hi,aN,aL,au,K2.v,hp,aw,Lib.cS hi (by omega:d.length<=9223372036854775807)]
 ·simp only[l2,r2,Lib.c6,bk,bc,aw]
end qH

namespace zA
open Lib (rc el Cl)
open il (lI)
theorem ok(i0:ax)(r1 r2 r3 r4:aQ)(i5:ax)(r6:aQ)(cl:az Cl)(i8 id:ax)(hl:cl.length<=1048576):c i0 r1 r2 r3 r4 i5 r6 (rc cl) i8 id=ai/\decide (v i0 r1 r2 r3 r4 i5 r6 (rc cl) i8 id≥0)=lI cl id:=by
 have h:=qH.ok (rc cl) id (by rw[eI];omega);have o:=out i0 r1 r2 r3 r4 i5 r6 (rc cl) i8 id (by unfold vo b;rw[h.1,h.2,au]);refine⟨o.1, ?_⟩
 rw[o.2,eI];exact il.CI cl (λx=>decide (x.id=id)) _ λi hi=>by unfold qH.p;rw[II hi,eG hi];rfl
end zA

namespace pW
def p(s:aQ)(k:aq)(i:aE):aU:=bW (aC (bz (ar s i 0))) (aC k)
theorem ok(d:aQ)(n:aq)(hl:d.length<=4294967296):c d n=ai/\v d n=Lib.fi (p d n) d.length 0:=by
 refine out d n ?_;unfold vo b;refine lS (p d n) d.length (λm (i:aE)=>l2 Lib.cJ (λ(_:aQ) (_:aq) (y7 _ _:ax)=>ah y7) (λ(_:aQ) (_:aq) (_ _ _:ax)=>ah (-1)) m d n 0 (d.length:ax) (i:ax)) ah (λm i hi hp=> ?_) (λm i hi hp=> ?_) (λm=> ?_) Lib.cJ (cu (by omega))
 ·unfold p at hp;simp only[l2,r2,Lib.c6,Lib.cm,Lib.dN,hi,aN,aL,au,KY.v,hp]
 ·unfold p at hp;simp only[l2,r2,Lib.c6,Lib.cm,Lib.dN,hi,aN,aL,au,KY.v,hp,aw,Lib.cS hi (by omega:d.length<=9223372036854775807)]
 ·simp only[l2,r2,Lib.c6,bk,bc,aw]
end pW

namespace qJ
theorem ok(i:aE)(key:aq)(hi:i<3)(hk:key.size<=140737488355328):c (i:ax) key=ai/\v (i:ax) key=(gp.pl i key:ax):=by
 refine out _ _ ?_;unfold vo b;have e:(key++bytesOf (aD (aP [Ck.i bj] 1) 0 [CV.i bj (bH bj (bG (↑(dW (ju (cf 64 (i:ax)) (cf 64 255))):ax)))]))=gp.keyed i key:=by
  unfold gp.keyed;match i,hi with
  |0,_=>rfl
  |1,_=>rfl
  |2,_=>rfl
 have hs:=gp.Dv i key;have h:=vi.ok (gp.keyed i key) (by omega);have e2:eu key+eu (bytesOf (aD (aP [Ck.i bj] 1) 0 [CV.i bj (bH bj (bG (↑(dW (ju (cf 64 (i:ax)) (cf 64 255))):ax)))]))=key.size+1:=by rw[pR,Du]
 rw[e2,e,aG (by omega),au,h.1,h.2,au];have hp:=gp.pl_int i key;have hl:=gp.Dg i key;have hr:=gp.Mq i key;unfold gp.sm at hp hr;rw[c_ (by omega) (by omega),hp]
end qJ

namespace iJ
open Lib (rr ri)
open du (fR bq Eg half CA QC QD oS uN tB)
theorem ahk(K:aq->ax->ax->ax->ax->aQ->aA R)(s:az (az ax))(key:aq)(y a:ax)(hs:s.length=3)(hq:∀q∈s,q.length=16/\∀n∈q,0<=n/\n<=15)(hk:key.size<=140737488355328):
  l5 Lib.cJ K Lib.cJ key 3 0 y a (rr s)=K key 3 3 y a (rr (Eg s key)):=by
 refine(nR fR s (λi q=>bq (gp.pl i key) q) (λm (i:aE) x=>l5 Lib.cJ K m key 3 (i:ax) y a x) (λx=>K key 3 3 y a x) (λm i L h h2 hL wh=> ?_) (λm L hL=> ?_) Lib.cJ (cu (by omega)))
 ·have hp:=qJ.ok i key (by omega) hk;have s8:=gp.Dg i key;obtain⟨KF,hn⟩:=hq _ (bB h);have e0:ar (L.map fR) i 0=CV.l 3 (ri s[i]):=by rw[CA L i h2,wh]
  have hb:gp.pl i key<s[i].length:=by omega
  have hx:=hn _ (bB hb);have e3:decide ((i:ax)<3)=true:=aG (by omega);simp only[l5,r5,bV,Lib.c6,h2,e3,aN,au,hp.1,hp.2,Lib.cm,aL,Lib.dN,e0,iX,Lib.gf,KF,s8,Rf hb,bE];unfold bq iu;rw[oS hb,aw,c_ (x:=s[i][gp.pl i key]+1) (by omega) (by omega)];by_cases hd:s[i][gp.pl i key]<15
  ·rw[bJ (by omega),aG hd,au,QC _ _ _ hb,QD _ _ _ h2,Lib.cS h2 (by omega)]
  ·have e15:s[i][gp.pl i key]=15:=by omega
   rw[bA (by omega),aK hd,aw,e15,QC _ _ _ hb,QD _ _ _ h2,Lib.cS h2 (by omega)]
 ·have e3:decide ((s.length:ax)<3)=false:=aK (by omega);simp only[l5,r5,e3,aw,hs];rfl
theorem am2(K:aE->ax->ax->ax->ax->ax->ax->aQ->aA R)(L:az (az ax))(i:aE)(h:i<L.length)(u w y a:ax)(hl:L.length<=1048576)(hq:L[i].length=16)(hn:∀n∈L[i],0<=n/\n<=15):
  l18 Lib.cJ K Lib.cJ i u w 16 0 y a (L.map fR)=K i u w 16 16 y a ((L.set i (L[i].map λn=>cQ n 2)).map fR):=by
 have hmi:L[i].mapIdx (λ_ n=>cQ n 2)=L[i].map λn=>cQ n 2:=by apply jT<;>simp
 have key:=ml (L[i].length) (λm (k:aE) x=>l18 Lib.cJ K m i u w 16 (k:ax) y a x) (λk=>(L.set i (ot L[i] (λ_ n=>cQ n 2) k)).map fR) (K i u w 16 16 y a ((L.set i (L[i].map λn=>cQ n 2)).map fR)) (λm k hk=> ?_) (λm=> ?_) Lib.cJ 0 (bD _) (cu (by omega))
 ·rw[DD,fj]at key;exact key
 ·have hu:=qV L[i] (λ_ n=>cQ n 2) k (by omega);generalize hU:ot L[i] (λ_ n=>cQ n 2) k=U at hu;have hku:k<U.length:=by omega
  have gi:U[k]=L[i][k]:=by subst hU;exact yG _ _ _ hk _
  have af2:U.set k (cQ L[i][k] 2)=ot L[i] (λ_ n=>cQ n 2) (k+1):=by subst hU;exact uh L[i] (λ_ n=>cQ n 2) k hk
  have h2:i<(L.set i U).length:=by simpa using h
  have e0:ar ((L.set i U).map fR) i 0=CV.l 3 (ri U):=by rw[CA _ _ h2,kL]
  have hx:=hn _ (bB hk);have ht:0<=cQ L[i][k] 2:=Xv hx.1 (by omega);have HK:cQ L[i][k] 2<=15:=Ca (WM _ hx.1) hx.2;have e3:decide ((k:ax)<16)=true:=aG (by omega);simp only[l18,r18,bV,cD,Lib.c6,h,hku,e3,aN,au,Lib.cm,aL,Lib.dN,e0,iX,Lib.gf,Rf hku,bE,gi];rw[c_ (x:=cQ L[i][k] 2) (by omega) (by omega),QC _ _ _ hku,QD _ _ _ h2,af2,pN,Lib.cS hk (by omega)]
 ·have e3:decide ((L[i].length:ax)<16)=false:=aK (by omega);simp only[l18,r18,e3,aw];rw[qU,hmi,hq];rfl
theorem am0(K:ax->ax->ax->ax->aQ->aA R)(s:az (az ax))(y a:ax)(hs:s.length=3)(hq:∀q∈s,q.length=16/\∀n∈q,0<=n/\n<=15):
  l15 Lib.cJ K Lib.cJ 3 0 y a (rr s)=K 3 3 y a (rr (half s)):=by
 have hmi:s.mapIdx (λ_ q=>q.map λn=>cQ n 2)=half s:=by unfold half;apply jT<;>simp
 rw[<-hmi];refine(nR fR s (λ_ q=>q.map λn=>cQ n 2) (λm (i:aE) x=>l15 Lib.cJ K m 3 (i:ax) y a x) (λx=>K 3 3 y a x) (λm i L h h2 hL wh=> ?_) (λm L hL=> ?_) Lib.cJ (cu (by omega)))
 ·obtain⟨KF,hn⟩:=hq _ (bB h);have e3:decide ((i:ax)<3)=true:=aG (by omega);have e0:ar (L.map fR) i 0=CV.l 3 (ri s[i]):=by rw[CA L i h2,wh]
  simp only[l15,r15,bV,Lib.c6,h2,e3,aN,au,Lib.cm,aL,Lib.dN,e0,iX,Lib.gf,KF];rw[show((16:aE):ax)=16 from rfl,am2 _ L i h2 3 i y a (by omega) (by rw[wh];exact KF) (by rw[wh];exact hn),Lib.cS h2 (by omega),wh]
 ·have e3:decide ((s.length:ax)<3)=false:=aK (by omega);simp only[l15,r15,e3,aw,hs];rfl
theorem ok(s:az (az ax))(a:ax)(key:aq)(hf:jq.oQ s)(hk:key.size<=140737488355328):c (rr s) a key=ai/\v (rr s) a key=(rr (du.val s a key).1,(du.val s a key).2):=by
 refine out _ _ _ ?_;have h1:=jq.ok s a hf;have h2:=pQ.ok s a hf;unfold vo b du.val;rw[h1.1,h1.2,h2.1,h2.2,au,au];cases cg:fB.oq s a with
 |false=>rfl
 |true=>
  obtain⟨hs,ha,hq⟩:=uN cg;obtain⟨b1,b2⟩:=tB (key:=key) hs hq;rw[aY,aw,au,gO,hs,show((3:aE):ax)=3 from rfl,ahk _ s key _ _ hs hq hk,c_ (x:=a+1) (by omega) (by omega)];by_cases hd:a+1=64
  ·rw[aK (show¬a+1<64 by omega),aG hd,au,aw,gO,b1,show((3:aE):ax)=3 from rfl,am0 _ _ _ _ b1 b2]
  ·rw[aG (show a+1<64 by omega),aK hd];rfl
end iJ

namespace sP
def p(s:aQ)(k:aq)(i:aE):aU:=bW (aC (bz (ar s i 0))) (aC k)
theorem ok(d:aQ)(n:aq)(hl:d.length<=4294967296):c d n=ai/\v d n=Lib.fi (p d n) d.length 0:=by
 refine out d n ?_;unfold vo b;refine lS (p d n) d.length (λm (i:aE)=>l2 Lib.cJ (λ(_:aQ) (_:aq) (y7 _ _:ax)=>ah y7) (λ(_:aQ) (_:aq) (_ _ _:ax)=>ah (-1)) m d n 0 (d.length:ax) (i:ax)) ah (λm i hi hp=> ?_) (λm i hi hp=> ?_) (λm=> ?_) Lib.cJ (cu (by omega))
 ·unfold p at hp;simp only[l2,r2,Lib.c6,Lib.cm,Lib.dN,hi,aN,aL,au,Bc.v,hp]
 ·unfold p at hp;simp only[l2,r2,Lib.c6,Lib.cm,Lib.dN,hi,aN,aL,au,Bc.v,hp,aw,Lib.cS hi (by omega:d.length<=9223372036854775807)]
 ·simp only[l2,r2,Lib.c6,bk,bc,aw]
end sP

namespace w_
def cn(y:az CV):aU:=match y with|[.s _]=>ai|_=>ak
def cr(y:az CV):az CV:=[CV.s (bz (y.getD 0 (.b ak)))]
theorem tE{y:az CV}(h:cn y=ai):cr y=y:=by
 unfold cn at h;split at h
 ·rfl
 ·cases h
theorem mB{y:az CV}(h:cn y=ai):y.length=1:=by rw[<-tE h];rfl
def keep(d:aq)(y:az CV):aU:= !List.beq (aC (bz (y.getD 0 (.b ak)))) (aC d)
theorem ir(d:aq){s:aQ}{i:aE}(h:i<s.length):(s.take (i+1)).filter (keep d)=(s.take i).filter (keep d)++(bif keep d s[i]then [s[i]]else []):=by rw[cE h,iq];cases hk:keep d s[i]<;>simp[hk]
theorem run(N:aE)(s0:aQ)(d:aq)(hc:s0.all cn=ai)(hn:s0.length<=9223372036854775807)(K:aq->ax->ax->aQ->aA R)(kr:aQ->aA R)
  (hK:∀(j:aE) x,x.length=s0.length->j<=s0.length->K d j s0.length x=kr (x.take j)) (m j i:aE) (x:aQ)
  (hi:j<i/\i<=s0.length/\x.length=s0.length/\(∀y∈x,y.length=1)/\x.take j=(s0.take i).filter (keep d)/\x.drop i=s0.drop i) (hm:s0.length-i<m):
  l5 N K m d j i x=kr (s0.filter (keep d)):=by
 have LF:∀y∈s0,cn y=true:=bu.1 hc
 refine Lib.fE (λm (s:aE×aE×aQ)=>l5 N K m d s.1 s.2.1 s.2.2) (λs=>s0.length-s.2.1)
  (λs=>s.1<s.2.1/\s.2.1<=s0.length/\s.2.2.length=s0.length/\(∀y∈s.2.2,y.length=1)/\s.2.2.take s.1=(s0.take s.2.1).filter (keep d)/\s.2.2.drop s.2.1=s0.drop s.2.1)
  (λ_=>kr (s0.filter (keep d))) (λm s hs=> ?_) m (j,i,x) hi hm
 obtain⟨j,i,x⟩:=s;obtain⟨h1,h2,h3,h4,h5,h6⟩:=hs;simp only at h1 h2 h3 h4 h5 h6⊢;by_cases gC:i<s0.length
 ·right;have oC:i<x.length:=by omega
  have HF:j<x.length:=by omega
  have hx:x[i]=s0[i]:=by have e1:=Lib.eE oC;have e2:=Lib.eE gC;rw[h6,e2]at e1;exact(kC e1).1.symm
  have hd:x.drop (i+1)=s0.drop (i+1):=by have e1:=Lib.eE oC;have e2:=Lib.eE gC;rw[h6,e2]at e1;exact(kC e1).2.symm
  have LH:=LF _ (bB gC);have hf:=ir d gC;cases hk:keep d s0[i]with
  |true=>
   refine⟨(j+1,i+1,x.set j s0[i]), ?_,by simp only;omega,trivial, ?_⟩
   ·rw[hk,au,<-h5]at hf;refine⟨by simp only;omega,by simp only;omega,by simpa using h3, ?_, ?_, ?_⟩
    ·intro y hy;rcases jI hy with h|h
     ·exact h4 y h
     ·rw[h];exact mB LH
    ·rw[hf];rw[cE (by simpa using HF)];simp[wR]
    ·simp only;rw[wQ (by omega)];exact hd
   ·have e:Bc.v (bz (ar x i 0)) d=false:=by
     have:(!Bc.v (bz (ar x i 0)) d)=true:=by rw[Lib.cK oC,hx];exact hk
     simpa using this
    have es:eC x j 0 [CV.s (bz (ar x i 0))]=x.set j s0[i]:=by
     have hl:=h4 _ (bB HF);rw[Lib.BR HF,Lib.cK oC,hx];have:iF x[j] 0 (cr s0[i])=s0[i]:=by rw[tE LH];unfold iF;have:=mB LH;simp[hl,this,gW]
     unfold cr at this;rw[this]
    have b1:(j:ax)<(x.length:ax):=by omega
    simp only[l5,r5,Lib.c6,Lib.cm,Lib.dN,oC,HF,aN,ba,au,e,bP,es,Lib.cS gC hn,Lib.cS (show j<s0.length by omega) hn]
  |false=>
   refine⟨(j,i+1,x), ?_,by simp only;omega,trivial, ?_⟩
   ·rw[hk,aw,dj,<-h5]at hf;exact⟨by simp only;omega,by simp only;omega,h3,h4,hf.symm,hd⟩
   ·have e:Bc.v (bz (ar x i 0)) d=true:=by
     have:(!Bc.v (bz (ar x i 0)) d)=false:=by rw[Lib.cK oC,hx];exact hk
     simpa using this
    simp only[l5,r5,Lib.c6,Lib.cm,Lib.dN,oC,aN,ba,au,e,aY,aw,Lib.cS gC hn]
 ·left;have:i=s0.length:=by omega
  subst this;rw[dR]at h5;have e:=hK j x h3 (by omega);rw[h5]at e;have oC:¬s0.length<x.length:=by omega
  simp only[l5,r5,Lib.c6,oC,bc,aw,e]
theorem ok(s0:aQ)(i9:aq)(hc:s0.all cn=ai)(hn:s0.length<=4294967296):c s0 i9=ai/\v s0 i9=s0.filter (keep i9):=by
 refine out s0 i9 ?_;have hv:=sP.ok s0 i9 hn;unfold vo b;rw[hv.1,hv.2,au];rcases Lib.py (sP.p s0 i9) s0.length 0 with ⟨h,n5⟩|⟨k,_,Az,hk,LJ,LD⟩
 ·rw[h];have:s0.filter (keep i9)=s0:=by rw[eD];intro y hy;obtain⟨i,hi,rfl⟩:=c8 hy;have:=n5 i (bD _) (by omega);unfold sP.p at this;rw[Lib.cK hi]at this;unfold keep;rw[this];rfl
  rw[this];rfl
 ·rw[hk];have Eo:k<s0.length:=by omega
  have iz:decide ((k:ax)=KV 1)=false:=aK (by show¬(k:ax)= -1;omega);rw[iz,aw,Lib.cS Eo (by omega)];have LF:∀y∈s0,cn y=true:=bu.1 hc;refine run _ s0 i9 hc (by omega) _ ah (λj x hx hj=> ?_) _ k (k+1) s0 ⟨by omega,by omega,rfl,λy hy=>mB (LF y hy), ?_,rfl⟩ (cu (by omega))
  ·have b1:ic (j:ax) (s0.length:ax) (s0.length:ax)=true:=by simp[ic];omega
   have e:g7 j x++aP [Ck.s] (s0.length-j)++nt s0.length x=g7 j x++aP [Ck.s] (s0.length-j):=by rw[gW (by omega),dj]
   have hl:(g7 j x).length=j:=by simp;omega
   simp only[hx,Lib.dN,b1,au,e];rw[Lib.tz (by simp[ic];omega)];unfold eW;rw[show aZ 0=0 from rfl,fg,sA,pb (by omega),jg (by omega)]
  ·rw[ir i9 Eo];have e1:keep i9 s0[k]=false:=by unfold sP.p at LJ;rw[Lib.cK Eo]at LJ;unfold keep;rw[LJ];rfl
   have e2:(s0.take k).filter (keep i9)=s0.take k:=by
    rw[eD];intro y hy;obtain⟨i,hi,rfl⟩:=c8 hy;have W7:i<k:=by simp at hi;omega
    have:=LD i (bD _) W7;unfold sP.p at this;rw[Lib.cK (by omega)]at this;rw[nC];unfold keep;rw[this];rfl
   rw[e1,e2,aw,dj]
end w_

namespace kh
theorem ajH(l:az aq):(Lib.rs l).all w_.cn=true:=by rw[bu];intro y hy;unfold Lib.rs at hy;obtain⟨z,_,rfl⟩:=cU.1 hy;rfl
theorem afy(l:az aq)(k:aq):(Lib.rs l).filter (w_.keep k)=Lib.rs (e9.without l k):=by unfold Lib.rs e9.without;rw[o_];congr 1;apply jv;intro x _;show(!List.beq (aC x) (aC k))=_;rw[Lib.eN]
theorem ok(l:az aq)(k:aq)(hl:l.length<=1048576):c (Lib.rs l) k=ai/\v (Lib.rs l) k=Lib.rs (e9.without l k):=by have h1:=tu.ok (Lib.rs l) (by rw[eJ];omega);have h2:=w_.ok (Lib.rs l) k (ajH l) (by rw[eJ];omega);rw[afy]at h2;exact out _ _ (by unfold vo b;rw[h1.1,h1.2,h2.1,h2.2,au,au])
end kh

namespace v9
open Lib (rr ri)
open mO (gs HD)
theorem ok(s:az (az ax))(a:ax)(key:aq)(hf:jq.oQ s)(hk:key.size<=140737488355328):c (rr s) a key=ai/\v (rr s) a key=mO.val s a key:=by
 refine out _ _ _ ?_;have h2:=pQ.ok s a hf;unfold vo b mO.val;rw[h2.1,h2.2,au];cases cg:fB.oq s a with
 |false=>rfl
 |true=>
  obtain⟨hs,ha,hq⟩:=du.uN cg;rw[aY,aw,au,gO];have:=Lib.fE (λm (t:aE×ax)=>l5 Lib.cJ (λ(_:aq) (y6:ax) (_:aQ) (_ _:ax)=>ah y6) m key t.2 (rr s) s.length (t.1:ax)) (λt=>s.length-t.1) (λt=>t.1<=s.length) (λt=>ah (gs key t.1 (s.drop t.1) t.2)) (λm t ht=>by
   obtain⟨i,x⟩:=t;dsimp only at ht⊢;by_cases h:i<s.length
   ·right;have hp:=qJ.ok i key (by omega) hk;have s8:=gp.Dg i key;obtain⟨KF,hn⟩:=hq _ (bB h);have hb:gp.pl i key<s[i].length:=by omega
    refine⟨(i+1,bif decide (s[i].getD (gp.pl i key) 0<x)then s[i].getD (gp.pl i key) 0 else x),by dsimp only;omega,by dsimp only;omega,by rw[<-HD key s i h x], ?_⟩
    simp only[l5,r5,gO,Lib.c6,h,aN,au,hp.1,hp.2,Lib.cm,aL,Lib.dN,Ki h,iX,Lib.gf,KF,s8,Rf hb,bE,Lib.cS h (by omega:s.length<=9223372036854775807)];rw[du.oS hb];unfold iu;rw[aw];by_cases hd:s[i][gp.pl i key]<x
    ·rw[bA hd,aG hd,au]
    ·rw[bJ hd,aK hd,aw]
   ·left;have:i=s.length:=by omega
    subst this;simp only[l5,r5,gO,Lib.c6,bk,bc,aw,di,gs]) Lib.cJ (0,15) (bD _) (cu (by dsimp only;omega))
  simpa using this
end v9

end Go.FG
