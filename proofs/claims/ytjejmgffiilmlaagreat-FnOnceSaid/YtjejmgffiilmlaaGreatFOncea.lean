/- What the functions come to, in plain numbers, texts and lists; last the law itself. No condition but those that each states. -/
import Derived.Test.YtjejmgffiilmlaaGreatPOnce
set_option linter.unusedVariables false
set_option linter.unusedSimpArgs false
set_option maxRecDepth 100000
open Array renaming toList_extract->g8,toList_append->uk,length_toList->dK
open BitVec renaming toNat->dO,xor->lH,ofInt->b_,and->iZ
open Bool renaming false->aq,true->ak,or_eq_true->dE,and_eq_true->aK,or_eq_false_iff->ie,and_self->aP,not_eq_true'->dD,true_and->bj,not_false->bX,not_true->ba,and_assoc->mZ,and_true->ph,not_eq_false'->me,false_or->nK,true_or->ze,false_eq_true->dj,cond_eq_ite->c8,false_and->pG
open ByteArray renaming toList->aL,data_extract->fU,data_append->lP,size_extract->wE,size_append->dz,empty_append->o0,append_assoc->BW,empty->FT,append_empty->pV,size->gh
open Classical renaming byContradiction->zf
open Go.ByteArray renaming toList_eq->jT
open Go.IntKind renaming i64->ar,wrap->bJ,u32->d_,u8->bk
open Go.Op renaming bytesLess->cf
open Int renaming neg->MD,toNat->bc,tmod->cF,tdiv->cS,tmod_eq_emod_of_nonneg->rZ,tdiv_eq_ediv_of_nonneg->gC,pow_succ->tI,toNat_natCast->dx,natCast_zero->TD,tmod_nonneg->Uf,tdiv_nonneg->Ue,le_trans->yK,tdiv_le_self->TE,emod_nonneg->Uc,emod_lt_of_pos->N0
open List renaming length_singleton->bw,length->bW,set->aE,length_map->bP,length_filter_le->eF,nil_append->gg,length_append->bO,map_congr_left->vn,mem_filter->dq,append_assoc->cj,pairwise_append->tJ,filter_sublist->jo,singleton_append->tK,pairwise_cons->qb,mem_append->a_,mem_singleton->aZ,filter_cons_of_pos->dt,filter_cons_of_neg->cm,length_cons->c5,beq->dC,take_succ_eq_append_getElem->c6,filter_append->iN,all_eq_true->bn,getElem_mem->bD,mem_or_eq_of_mem_set->gT,take_set_of_le->uE,drop_set_of_lt->uB,drop_eq_nil_of_le->iz,append_nil->di,take_length->fD,filter_eq_self->eI,getElem_of_mem->c9,take->i_,drop->pj,drop_zero->fm,take_append_of_le_length->nT,take_of_length_le->iJ,getElem_take->mA,pairwise_map->jX,mem_map->cG,filter_map->nS,map_map->jU,map_append->dh,filter_congr->pX,range->cM,getD->jq,pairwise_iff_getElem->dr,length_set->cw,length_drop->hZ,drop_eq_getElem_cons->dG,cons_append->Ar,extract_eq_take_drop->gM,drop_drop->uA,length_take->eg,drop_append_of_le_length->zF,drop_of_length_le->Gq,find?_eq_none->qa,find?_eq_some_iff_getElem->Au,takeWhile_cons_of_pos->pL,takeWhile_cons_of_neg->pK,filter_eq_nil_iff->IC,filter_filter->ME,foldl_append->pY,foldl_cons->Ce,length_nil->jr,drop_length->dm,foldl_nil->Uh,mem_of_find?_eq_some->FW,length_pos_iff->KI,getD_eq_getElem?_getD->cK,getElem?_eq_getElem->eD,ext_getElem->kX,getElem_set_self->j4,set_getElem_self->eT,set_set->o7,nodup_iff_pairwise_ne->o6,mem_cons_self->du,mem_append_left->bN,length_tail->zg,mem_append_right->bH,any_eq_false->Aq,findIdx?_eq_none_iff->pJ,findIdx?_eq_some_iff_getElem->mi,pairwise_singleton->FX,find?_cons_of_neg->ID,mem_range->o4,nodup_append->dX,nodup_cons->j5,mem_cons->cz,getElem_set->PI,getElem_append_left->D4,getElem_append_right->FV
open List.Pairwise renaming nil->gG
open List.cons renaming inj->mb
open Nat renaming lt_irrefl->bu,le_refl->cu,zero_le->bK,sub_zero->uF,zero_add->bT,le_succ->ja,sub_self->wU,le_trans->c_,le_succ_of_le->mG,add_sub_cancel->N2,lt_or_ge->qw
open Option renaming some->aj,none->ao,map_some->iQ
open Option.some renaming inj->aF
open Prod.mk renaming inj->bU
open UInt8 renaming lt_iff_toNat_lt->rT,ofNat->ax,toNat_ofNat'->K3
open _root_ renaming List->az,UInt8->F2,decide_eq_true_eq->bf,absurd->cq,decide_eq_false_iff_not->gK,ByteArray->au,Int->aA,Bool->aY,Nat->aG,decide_true->aR,cond_true->ay,cond_false->aC,decide_false->bm,Option->aD,decide_eq_false->aM,decide_eq_true->aJ,if_pos->bC,if_neg->bL,congrArg->ml,decide_eq_decide->ch,of_decide_eq_true->b9,eq_comm->G1,of_decide_eq_false->lu
namespace Go.FG
open Lib (EG all_congr jS oH AF se uQ e8 zN eQ gL oK oL Dk Lk vQ mn tf cT lx rc0 rc1 rc2 rc3 rc4 rc5 rc6 eN J0 Zo Zp gm dQ dI Oh Iq gu TW eE pe ly BK wv ou Aa H8 nI BR wy qs qt sQ oa dc Ko Th Ti Tj Tk Tl Tm wd0 wd1 wd2 qz tY tZ t_ Ib Ge W4 yD TX TY)
variable {R:Type}
namespace fH
theorem oj:∀x:az F2,cf x x=aq
 |[]=>rfl
 |a::x=>by
  have h:¬a<a:=by rw[rT];omega
  simp[cf,oj x,h]
theorem qi:∀x y z:az F2,cf x y=ak->cf y z=ak->cf x z=ak
 |_,[],_,h,_=>by cases ‹az F2›<;>simp[cf]at h
 |_,_::_,[],_,h=>by simp[cf]at h
 |[],_::_,_::_,_,_=>by simp[cf]
 |a::x,b::y,c::z,h1,h2=>by
  simp only[cf,dE,aK,bf,beq_iff_eq]at h1 h2⊢;simp only[rT]at h1 h2⊢;rcases h1 with h1|⟨rfl,h1⟩
  ·rcases h2 with h2|⟨rfl,h2⟩
   ·left;omega
   ·left;exact h1
  ·rcases h2 with h2|⟨rfl,h2⟩
   ·left;exact h2
   ·right;exact⟨rfl,qi x y z h1 h2⟩
theorem P6:∀x y:az F2,cf x y=aq->x≠y->cf y x=ak
 |[],[],_,h=>cq rfl h
 |[],_::_,h,_=>by simp[cf]at h
 |_::_,[],_,_=>by simp[cf]
 |a::x,b::y,h,hn=>by
  simp only[cf,ie,Bool.and_eq_false_iff,gK,beq_eq_false_iff_ne]at h;simp only[cf,dE,aK,bf,beq_iff_eq];obtain⟨h1,h2⟩:=h;by_cases he:a=b
  ·subst he;right;refine⟨rfl,P6 x y ?_ (λe=>hn (by rw[e]))⟩
   rcases h2 with h2|h2
   ·exact cq rfl h2
   ·exact h2
  ·left;rw[rT]at h1⊢;have:a.toNat≠b.toNat:=λe=>he (UInt8.toNat_inj.1 e);omega
def key(y:az CV):az F2:=aL (bQ (y.getD 0 (.b aq)))
def lt(y z:az CV):Prop:=cf (key y) (key z)=ak
def cr(y:az CV):az CV:=[CV.s (bQ (y.getD 0 (.b aq))),CV.i ar (bY (y.getD 1 (.b aq))),CV.i ar (bY (y.getD 2 (.b aq))),CV.s (bQ (y.getD 3 (.b aq)))]
def nw(k:au)(s l:aA)(b:au):az CV:=[CV.s k,CV.i ar s,CV.i ar l,CV.s b]
def pl(k:au)(y:az CV):aY:=cf (key y) (aL k)
def pg(k:au)(y:az CV):aY:= !(cf (key y) (aL k)||List.beq (key y) (aL k))
def val(r:aX)(k:au)(s l:aA)(b:au):aX:=(r.filter (pl k)).map cr++[nw k s l b]++(r.filter (pg k)).map cr
theorem ok(r:aX)(k:au)(s l:aA)(b0:au)(hl:r.length<=1048576):c r k s l b0=ak/\v r k s l b0=val r k s l b0:=by
 refine out r k s l b0 ?_;unfold vo;have hw:∀i,i<r.length->bM ((i:aA)+1)=((i+1:aG):aA):=λi h=>Lib.db h (by omega)
 have ao7:=λ(aex:aX) (ha:aex.length<=2000000)=>vQ (pg k) cr r 2000000
  (λm (i:aG) (acc:aX)=>l9 Lib.c7 (λ(_:aX) (_:aA) (_:au) (_ _:aA) (_:au) (Gi:aX)=>aj Gi) m r (i:aA) k s l b0 acc) (λacc=>aj acc)
  (λm i acc h h2 hp=>by
   have mD:(!(cf (aL (bQ (aw r i 0))) (aL k)||List.beq (aL (bQ (aw r i 0))) (aL k)))=true:=by rw[Lib.cX h];exact hp
   simp only[l9,r9,Lib.dB,h,aR,Lib.cR,aP,ay,Lib.eB,mD,hw i h,Lib.jK,bw,Lib.cy (n:=acc.length+1) (b:=48) (by omega) (by omega)];have e:[CV.s (bQ (aw r i 0)),CV.i ar (bY (aw r i 1)),CV.i ar (bY (aw r i (1+1))),CV.s (bQ (aw r i (1+1+1)))]=cr r[i]:=by rw[Lib.cX h,Lib.cX h,Lib.cX h,Lib.cX h];rfl
   rw[e])
  (λm i acc h h2 hp=>by
   have mD:(!(cf (aL (bQ (aw r i 0))) (aL k)||List.beq (aL (bQ (aw r i 0))) (aL k)))=false:=by rw[Lib.cX h];exact hp
   simp only[l9,r9,Lib.dB,h,aR,Lib.cR,aP,ay,Lib.eB,mD,aC,hw i h])
  (λm acc=>by simp only[l9,r9,Lib.dB,bu,bm,aC]) Lib.c7 aex ha (cT (by omega))
 have gq:=vQ (pl k) cr r 0
  (λm (i:aG) (acc:aX)=>l3 Lib.c7 (λ(y7:aX) (_:aA) (y9:au) (Mr yE:aA) (Oj:au) (Gf:aX)=>bif(cJ (bW Gf+bW (aE (aT [Ck.s,Ck.i ar,Ck.i ar,Ck.s] 1) 0 [CV.s y9,CV.i ar Mr,CV.i ar yE,CV.s Oj])) 48)then(l9 Lib.c7 (λ(_:aX) (_:aA) (_:au) (_ _:aA) (_:au) (Gi:aX)=>aj Gi) Lib.c7 y7 0 y9 Mr yE Oj (Gf++aE (aT [Ck.s,Ck.i ar,Ck.i ar,Ck.s] 1) 0 [CV.s y9,CV.i ar Mr,CV.i ar yE,CV.s Oj]))else(ao)) m r (i:aA) k s l b0 acc)
  (λacc=>bif(cJ (bW acc+1) 48)then(l9 Lib.c7 (λ(_:aX) (_:aA) (_:au) (_ _:aA) (_:au) (Gi:aX)=>aj Gi) Lib.c7 r 0 k s l b0 (acc++[nw k s l b0]))else ao)
  (λm i acc h h2 hp=>by
   have mD:cf (aL (bQ (aw r i 0))) (aL k)=true:=by rw[Lib.cX h];exact hp
   simp only[l3,r3,Lib.dB,h,aR,Lib.cR,aP,ay,Lib.eB,mD,hw i h,Lib.jK,bw,Lib.cy (n:=acc.length+1) (b:=48) (by omega) (by omega)];have e:[CV.s (bQ (aw r i 0)),CV.i ar (bY (aw r i 1)),CV.i ar (bY (aw r i (1+1))),CV.s (bQ (aw r i (1+1+1)))]=cr r[i]:=by rw[Lib.cX h,Lib.cX h,Lib.cX h,Lib.cX h];rfl
   rw[e])
  (λm i acc h h2 hp=>by
   have mD:cf (aL (bQ (aw r i 0))) (aL k)=false:=by rw[Lib.cX h];exact hp
   simp only[l3,r3,Lib.dB,h,aR,Lib.cR,aP,ay,Lib.eB,mD,aC,hw i h])
  (λm acc=>by simp only[l3,r3,Lib.dB,bu,bm,aC];rfl) Lib.c7 [] (cu _) (cT (by omega))
 unfold b;refine gq.trans ?_;have hf:((r.filter (pl k)).map cr).length<=r.length:=by rw[bP];exact eF _ _
 rw[gg,Lib.cy (by omega) (by omega),ay];exact ao7 _ (by rw[bO,bw];omega)
def Or(r:aX):Prop:=r.Pairwise lt/\∀y∈r,cr y=y
theorem Fh{r:aX}(h:∀y∈r,cr y=y)(q:az CV->aY):(r.filter q).map cr=r.filter q:=by have:=vn (l:=r.filter q) (f:=cr) (g:=λz=>z) (λy hy=>h y (dq.1 hy).1);rw[this];exact List.map_id _
theorem vV{r:aX}(h:Or r)(k:au)(s l:aA)(b:au):Or (val r k s l b)/\(val r k s l b).length<=r.length+1:=by
 unfold val;rw[Fh h.2,Fh h.2];have hg:∀y,pg k y=ak->cf (aL k) (key y)=true:=by intro y hy;unfold pg at hy;simp only[dD,ie]at hy;refine P6 _ _ hy.1 (λe=> ?_);have:=hy.2;rw[e,Lib.qg]at this;cases this
 refine⟨⟨?_, ?_⟩, ?_⟩
 ·rw[cj,tJ];refine⟨h.1.sublist jo, ?_, ?_⟩
  ·rw[tK,qb];exact⟨λy hy=>hg y (dq.1 hy).2,h.1.sublist jo⟩
  ·intro y hy z hz;have h1:cf (key y) (aL k)=true:=(dq.1 hy).2;rcases a_.1 hz with q|q
   ·rw[aZ.1 q];exact h1
   ·exact qi _ _ _ h1 (hg z (dq.1 q).2)
 ·intro y hy;rcases a_.1 hy with q|q
  ·rcases a_.1 q with q|q
   ·exact h.2 y (dq.1 q).1
   ·rw[aZ.1 q];rfl
  ·exact h.2 y (dq.1 q).1
 ·have hlen:∀r:aX,(r.filter (pl k)).length+(r.filter (pg k)).length<=r.length:=by
   intro r;induction r with
   |nil=>exact cu _
   |cons y r ih=>
    have hx:pl k y=ak->pg k y=false:=by intro h;unfold pl at h;unfold pg;rw[h];rfl
    cases h1:pl k y with
    |true=>rw[dt h1,cm (by rw[hx h1];simp)];simp only[c5];omega
    |false=>
     rw[cm (by simp[h1])];cases h2:pg k y with
     |true=>rw[dt h2];simp only[c5];omega
     |false=>rw[cm (by simp[h2])];simp only[c5];omega
  have:=hlen r;simp only[bO,bw];omega
end fH

namespace rP
def p(s:aX)(k:au)(i:aG):aY:=dC (aL (bQ (aw s i 0))) (aL k)
theorem ok(d:aX)(n:au)(hl:d.length<=4294967296):c d n=ak/\v d n=Lib.fi (p d n) d.length 0:=by
 refine out d n ?_;unfold vo b;refine oL (p d n) d.length (λm (i:aG)=>l2 Lib.c7 (λ(_:aX) (_:au) (y7 _ _:aA)=>aj y7) (λ(_:aX) (_:au) (_ _ _:aA)=>aj (-1)) m d n 0 (d.length:aA) (i:aA)) aj (λm i hi hp=> ?_) (λm i hi hp=> ?_) (λm=> ?_) Lib.c7 (cT (by omega))
 ·unfold p at hp;simp only[l2,r2,Lib.dB,Lib.cR,Lib.eB,hi,aR,aP,ay,zk.v,hp]
 ·unfold p at hp;simp only[l2,r2,Lib.dB,Lib.cR,Lib.eB,hi,aR,aP,ay,zk.v,hp,aC,Lib.db hi (by omega:d.length<=9223372036854775807)]
 ·simp only[l2,r2,Lib.dB,bu,bm,aC]
end rP

namespace oG
def cn(y:az CV):aY:=match y with|[.s _, .i .i64 _, .i .i64 _, .s _]=>ak|_=>aq
def cr(y:az CV):az CV:=[CV.s (bQ (y.getD 0 (.b aq))),CV.i ar (bY (y.getD 1 (.b aq))),CV.i ar (bY (y.getD 2 (.b aq))),CV.s (bQ (y.getD 3 (.b aq)))]
theorem yP{y:az CV}(h:cn y=ak):cr y=y:=by
 unfold cn at h;split at h
 ·rfl
 ·cases h
theorem oQ{y:az CV}(h:cn y=ak):y.length=4:=by rw[<-yP h];rfl
def keep(d:au)(y:az CV):aY:= !List.beq (aL (bQ (y.getD 0 (.b aq)))) (aL d)
theorem jv(d:au){s:aX}{i:aG}(h:i<s.length):(s.take (i+1)).filter (keep d)=(s.take i).filter (keep d)++(bif keep d s[i]then [s[i]]else []):=by rw[c6 h,iN];cases hk:keep d s[i]<;>simp[hk]
theorem run(N:aG)(s0:aX)(d:au)(hc:s0.all cn=ak)(hn:s0.length<=9223372036854775807)(K:au->aA->aA->aX->aD R)(kr:aX->aD R)
  (hK:∀(j:aG) x,x.length=s0.length->j<=s0.length->K d j s0.length x=kr (x.take j)) (m j i:aG) (x:aX)
  (hi:j<i/\i<=s0.length/\x.length=s0.length/\(∀y∈x,y.length=4)/\x.take j=(s0.take i).filter (keep d)/\x.drop i=s0.drop i) (hm:s0.length-i<m):
  l5 N K m d j i x=kr (s0.filter (keep d)):=by
 have Qx:∀y∈s0,cn y=true:=bn.1 hc
 refine Lib.ij (λm (s:aG×aG×aX)=>l5 N K m d s.1 s.2.1 s.2.2) (λs=>s0.length-s.2.1)
  (λs=>s.1<s.2.1/\s.2.1<=s0.length/\s.2.2.length=s0.length/\(∀y∈s.2.2,y.length=4)/\s.2.2.take s.1=(s0.take s.2.1).filter (keep d)/\s.2.2.drop s.2.1=s0.drop s.2.1)
  (λ_=>kr (s0.filter (keep d))) (λm s hs=> ?_) m (j,i,x) hi hm
 obtain⟨j,i,x⟩:=s;obtain⟨h1,h2,h3,h4,h5,h6⟩:=hs;simp only at h1 h2 h3 h4 h5 h6⊢;by_cases gO:i<s0.length
 ·right;have rC:i<x.length:=by omega
  have Ly:j<x.length:=by omega
  have hx:x[i]=s0[i]:=by have e1:=Lib.e_ rC;have e2:=Lib.e_ gO;rw[h6,e2]at e1;exact(mb e1).1.symm
  have hd:x.drop (i+1)=s0.drop (i+1):=by have e1:=Lib.e_ rC;have e2:=Lib.e_ gO;rw[h6,e2]at e1;exact(mb e1).2.symm
  have Qz:=Qx _ (bD gO);have hf:=jv d gO;cases hk:keep d s0[i]with
  |true=>
   refine⟨(j+1,i+1,x.set j s0[i]), ?_,by simp only;omega,trivial, ?_⟩
   ·rw[hk,ay,<-h5]at hf;refine⟨by simp only;omega,by simp only;omega,by simpa using h3, ?_, ?_, ?_⟩
    ·intro y hy;rcases gT hy with h|h
     ·exact h4 y h
     ·rw[h];exact oQ Qz
    ·rw[hf];rw[c6 (by simpa using Ly)];simp[uE]
    ·simp only;rw[uB (by omega)];exact hd
   ·have e:zk.v (bQ (aw x i 0)) (bY (aw x i 1)) (bY (aw x i (1+1))) (bQ (aw x i (1+1+1))) d=false:=by
     have:(!zk.v (bQ (aw x i 0)) (bY (aw x i 1)) (bY (aw x i (1+1))) (bQ (aw x i (1+1+1))) d)=true:=by rw[Lib.cX rC,hx];exact hk
     simpa using this
    have es:eh x j 0 [CV.s (bQ (aw x i 0)),CV.i ar (bY (aw x i 1)),CV.i ar (bY (aw x i (1+1))),CV.s (bQ (aw x i (1+1+1)))]=x.set j s0[i]:=by
     have hl:=h4 _ (bD Ly);rw[Lib.FA Ly,Lib.cX rC,Lib.cX rC,Lib.cX rC,Lib.cX rC,hx];have:iF x[j] 0 (cr s0[i])=s0[i]:=by rw[yP Qz];unfold iF;have:=oQ Qz;simp[hl,this,iz]
     unfold cr at this;rw[this]
    have b1:(j:aA)<(x.length:aA):=by omega
    simp only[l5,r5,Lib.dB,Lib.cR,Lib.eB,rC,Ly,aR,bj,ay,e,bX,es,Lib.db gO hn,Lib.db (show j<s0.length by omega) hn]
  |false=>
   refine⟨(j,i+1,x), ?_,by simp only;omega,trivial, ?_⟩
   ·rw[hk,aC,di,<-h5]at hf;exact⟨by simp only;omega,by simp only;omega,h3,h4,hf.symm,hd⟩
   ·have e:zk.v (bQ (aw x i 0)) (bY (aw x i 1)) (bY (aw x i (1+1))) (bQ (aw x i (1+1+1))) d=true:=by
     have:(!zk.v (bQ (aw x i 0)) (bY (aw x i 1)) (bY (aw x i (1+1))) (bQ (aw x i (1+1+1))) d)=false:=by rw[Lib.cX rC,hx];exact hk
     simpa using this
    simp only[l5,r5,Lib.dB,Lib.cR,Lib.eB,rC,aR,bj,ay,e,ba,aC,Lib.db gO hn]
 ·left;have:i=s0.length:=by omega
  subst this;rw[fD]at h5;have e:=hK j x h3 (by omega);rw[h5]at e;have rC:¬s0.length<x.length:=by omega
  simp only[l5,r5,Lib.dB,rC,bm,aC,e]
theorem ok(s0:aX)(j6:au)(hc:s0.all cn=ak)(hn:s0.length<=4294967296):c s0 j6=ak/\v s0 j6=s0.filter (keep j6):=by
 refine out s0 j6 ?_;have hv:=rP.ok s0 j6 hn;unfold vo b;rw[hv.1,hv.2,ay];rcases Lib.pR (rP.p s0 j6) s0.length 0 with ⟨h,n8⟩|⟨k,_,zv,hk,QD,Qw⟩
 ·rw[h];have:s0.filter (keep j6)=s0:=by rw[eI];intro y hy;obtain⟨i,hi,rfl⟩:=c9 hy;have:=n8 i (bK _) (by omega);unfold rP.p at this;rw[Lib.cX hi]at this;unfold keep;rw[this];rfl
  rw[this];rfl
 ·rw[hk];have Im:k<s0.length:=by omega
  have h_:decide ((k:aA)=MD 1)=false:=aM (by show¬(k:aA)= -1;omega);rw[h_,aC,Lib.db Im (by omega)];have Qx:∀y∈s0,cn y=true:=bn.1 hc;refine run _ s0 j6 hc (by omega) _ aj (λj x hx hj=> ?_) _ k (k+1) s0 ⟨by omega,by omega,rfl,λy hy=>oQ (Qx y hy), ?_,rfl⟩ (cT (by omega))
  ·have b1:iO (j:aA) (s0.length:aA) (s0.length:aA)=true:=by simp[iO];omega
   have e:i_ j x++aT [Ck.s,Ck.i ar,Ck.i ar,Ck.s] (s0.length-j)++pj s0.length x=i_ j x++aT [Ck.s,Ck.i ar,Ck.i ar,Ck.s] (s0.length-j):=by rw[iz (by omega),di]
   have hl:(i_ j x).length=j:=by simp;omega
   simp only[hx,Lib.eB,b1,ay,e];rw[Lib.yN (by simp[iO];omega)];unfold eP;rw[show bc 0=0 from rfl,fm,uF,nT (by omega),iJ (by omega)]
  ·rw[jv j6 Im];have e1:keep j6 s0[k]=false:=by unfold rP.p at QD;rw[Lib.cX Im]at QD;unfold keep;rw[QD];rfl
   have e2:(s0.take k).filter (keep j6)=s0.take k:=by
    rw[eI];intro y hy;obtain⟨i,hi,rfl⟩:=c9 hy;have X5:i<k:=by simp at hi;omega
    have:=Qw i (bK _) X5;unfold rP.p at this;rw[Lib.cX (by omega)]at this;rw[mA];unfold keep;rw[this];rfl
   rw[e1,e2,aC,di]
end oG

namespace gE
open Lib (re En)
def fO(x y:au):aY:=cf (aL x) (aL y)
def So(en:az En):Prop:=en.Pairwise λx y=>fO x.k y.k=ak
def fC(en:az En)(k:au):az En:=en.filter λx=> !decide (x.k=k)
def ma(en:az En)(e:En):az En:=en.filter (λx=>fO x.k e.k)++[e]++en.filter (λx=> !(fO x.k e.k||decide (x.k=e.k)))
theorem So.drop{en:az En}(h:So en)(k:au):So (fC en k):=List.Pairwise.filter _ h
theorem vJ(en:az En)(k:au):(fC en k).length<=en.length:=eF ..
theorem drop_nil{en:az En}(h:∀e∈en,1<=e.k.size):fC en ⟨#[]⟩=en:=by unfold fC;rw[eI];intro e he;have:=h e he;simp only[dD,gK];intro e2;rw[e2]at this;exact cq this (by decide)
theorem Bs{en:az En}(h:So en):fH.Or (re en):=by
 constructor
 ·unfold Lib.re;rw[jX];exact h
 ·intro y hy;unfold Lib.re at hy;obtain⟨z,_,rfl⟩:=cG.1 hy;rfl
theorem sL(en:az En)(e:En):fH.val (re en) e.k e.st e.li e.bo=re (ma en e):=by
 unfold fH.val ma Lib.re;rw[nS,nS,jU,jU,dh,dh];have e1:(fH.pl e.k∘En.row)=λx:En=>fO x.k e.k:=rfl;have e2:(fH.pg e.k∘En.row)=λx:En=> !(fO x.k e.k||decide (x.k=e.k)):=by funext x;show(!(cf (aL x.k) (aL e.k)||List.beq (aL x.k) (aL e.k)))=_;rw[Lib.fA];rfl
 rw[e1,e2];rfl
theorem EP(en:az En)(k:au):(re en).filter (oG.keep k)=re (fC en k):=by unfold Lib.re fC;rw[nS];congr 1;apply pX;intro x _;show(!List.beq (aL x.k) (aL k))=_;rw[Lib.fA]
theorem Qd(en:az En):(re en).all oG.cn=true:=by rw[bn];intro y hy;unfold Lib.re at hy;obtain⟨z,_,rfl⟩:=cG.1 hy;rfl
theorem tu(en:az En)(e:En)(h:So en):(ma en e).length<=en.length+1:=by have:=(fH.vV (Bs h) e.k e.st e.li e.bo).2;rw[sL,dQ,dQ]at this;exact this
end gE

namespace fw
def el(r:aX)(i:aG):aY:=decide (1<=((bQ (aw r i 0)).size:aA)/\((bQ (aw r i 0)).size:aA)<=8)&&(!decide (((bQ (aw r i 1)).size:aA)>20000)&&(decide (0<=bY (aw r i 2)/\bY (aw r i 2)<=((bQ (aw r i 1)).size:aA))&&(i==0||Go.Op.bytesLess (aL (bQ (aw r (i-1) 0))) (aL (bQ (aw r i 0))))))
def val(r:aX):aY:=decide (r.length<=30)&&(cM r.length).all (el r)
theorem mr(n a b:aA):kG.v n a b=decide (a<=n/\n<=b):=by unfold kG.v;by_cases h:a<=n<;>by_cases h2:n<=b<;>simp[h,h2]
theorem BT{i:aG}(h:0<i)(hn:i<=9223372036854775807):bM ((i:aA)-1)=((i-1:aG):aA):=by rw[dc (by omega) (by omega)];omega
theorem ok(r:aX)(hl:r.length<=4294967296):c r=ak/\v r=val r:=by
 refine out r ?_;unfold vo b val;by_cases h30:(r.length:aA)>30
 ·rw[aJ h30,ay,aM (show¬r.length<=30 by omega)];rfl
 rw[aM h30,aC,aJ (show r.length<=30 by omega),bj]
 have key:=jS (el r) r.length (λm (i:aG)=>l4 Lib.c7 (λ(y3:aY) (_:aA) (_:aX)=>aj y3) (λ(_:aY) (_:aA) (_:aX)=>aj ak) m aq (i:aA) r) (aj aq) (aj ak)
  (λm i hi hp=>by
   unfold el at hp;simp only[aK]at hp;obtain⟨h1,h2,h3,h4⟩:=hp;have h3:decide (0<=bY (aw r i (1+1))/\bY (aw r i (1+1))<=((bQ (aw r i 1)).size:aA))=true:=h3;have h2:decide (((bQ (aw r i 1)).size:aA)>20000)=false:=by simpa using h2
   by_cases hz:0<i
   ·have e0:decide ((i:aA)>0)=true:=aJ (by omega);have mD:i-1<r.length:=by omega
    have h5:cf (aL (bQ (aw r (i-1) 0))) (aL (bQ (aw r i 0)))=true:=by
     rcases dE _ _▸h4 with q|q
     ·have:i=0:=by simpa using q
      omega
     ·exact q
    simp only[l4,r4,Lib.dB,hi,mD,aR,Lib.cR,aP,ay,aC,Lib.eB,uN.v,mr,h1,h2,h3,h5,e0,BT hz (by omega),ba,Lib.db hi (by omega:r.length<=9223372036854775807)]
   ·have e0:decide ((i:aA)>0)=false:=aM (by omega);simp only[l4,r4,Lib.dB,hi,aR,Lib.cR,aP,ay,aC,Lib.eB,uN.v,mr,h1,h2,h3,e0,ba,Lib.db hi (by omega:r.length<=9223372036854775807)])
  (λm i hi hp=>by
   unfold el at hp;cases h1:decide (1<=((bQ (aw r i 0)).size:aA)/\((bQ (aw r i 0)).size:aA)<=8)with
   |false=>simp only[l4,r4,Lib.dB,hi,aR,Lib.cR,aP,ay,aC,Lib.eB,uN.v,mr,h1,bX]
   |true=>
   cases h2:decide (((bQ (aw r i 1)).size:aA)>20000)with
   |true=>simp only[l4,r4,Lib.dB,hi,aR,Lib.cR,aP,ay,aC,Lib.eB,uN.v,mr,h1,h2,ba]
   |false=>
   cases h3:decide (0<=bY (aw r i (1+1))/\bY (aw r i (1+1))<=((bQ (aw r i 1)).size:aA))with
   |false=>simp only[l4,r4,Lib.dB,hi,aR,Lib.cR,aP,ay,aC,Lib.eB,uN.v,mr,h1,h2,h3,ba,bX]
   |true=>
   rw[h1,h2,show decide (0<=bY (aw r i 2)/\bY (aw r i 2)<=((bQ (aw r i 1)).size:aA))=ak from h3,bX,bj,bj,bj]at hp;rw[ie]at hp;obtain⟨h4,h5⟩:=hp;have hz:0<i:=by
    have:¬i=0:=by simpa using h4
    omega
   have e0:decide ((i:aA)>0)=true:=aJ (by omega);have mD:i-1<r.length:=by omega
   simp only[l4,r4,Lib.dB,hi,mD,aR,Lib.cR,aP,ay,aC,Lib.eB,uN.v,mr,h1,h2,h3,h5,e0,BT hz (by omega),ba,bX])
  (λm=>by simp only[l4,r4,Lib.dB,bu,bm,aC]) Lib.c7 (cT (by omega))
 refine key.trans ?_;cases (cM r.length).all (el r)<;>rfl
end fw

namespace pF
def cn(y:az CV):aY:=match y with|[.s _, .s _, .i .i64 _]=>ak|_=>aq
def cr(y:az CV):az CV:=[CV.s (bQ (y.getD 0 (.b aq))),CV.s (bQ (y.getD 1 (.b aq))),CV.i ar (bY (y.getD 2 (.b aq)))]
def keep(d:au)(y:az CV):aY:= !List.beq (aL (bQ (y.getD 0 (.b aq)))) (aL d)
end pF

namespace eC
open Lib (rd el Fi)
def SoD(l:az Fi):Prop:=l.Pairwise λx y=>gE.fO x.n y.n=ak
def without(l:az Fi)(n:au):az Fi:=l.filter λx=> !decide (x.n=n)
def put(l:az Fi)(f:Fi):az Fi:=l.filter (λx=>gE.fO x.n f.n)++[f]++l.filter (λx=> !(gE.fO x.n f.n||decide (x.n=f.n)))
def nt(f:Fi):aY:=decide (1<=(f.n.size:aA)/\(f.n.size:aA)<=8)&&(!decide ((f.t.size:aA)>20000)&&decide (0<=f.kp/\f.kp<=(f.t.size:aA)))
def u6(l:az Fi):aY:=fw.val (rd l)
theorem irrefl(x:au):gE.fO x x=false:=fH.oj _
theorem kM{l:az Fi}:u6 l=ak↔l.length<=30/\(∀f∈l,nt f=ak)/\SoD l:=by
 unfold u6 fw.val;rw[aK,bf,bn,gm];have e:∀i (h:i<l.length),fw.el (rd l) i=(nt l[i]&&(i==0||gE.fO (l.getD (i-1) default).n l[i].n)):=λi h=>by
  unfold fw.el nt gE.fO;rw[J0 h,Zo h,show aw (rd l) i 2=CV.i ar l[i].kp from Zp h,J0 (show i-1<l.length by omega)];have h5:l.getD (i-1) default=l[i-1]:=by simp[jq,show i-1<l.length by omega]
  rw[h5];simp only[bQ,bY,mZ];rfl
 constructor
 ·rintro ⟨h1,h2⟩;have h3:∀i (h:i<l.length),nt l[i]=ak/\(i=0\/gE.fO (l.getD (i-1) default).n l[i].n=ak):=λi h=>by have:=h2 i (by simpa using h);rw[e i h,aK,dE]at this;exact⟨this.1,this.2.imp (λq=>by simpa using q) id⟩
  refine⟨h1,λf hf=> ?_, ?_⟩
  ·obtain⟨i,hi,rfl⟩:=c9 hf;exact(h3 i hi).1
  ·have adj:∀d i (hi:i+d+1<l.length),gE.fO l[i].n l[i+d+1].n=true:=by
    intro d;induction d with
    |zero=>
     intro i hi;rcases(h3 (i+1) (by omega)).2 with q|q
     ·omega
     ·simpa [jq,show i<l.length by omega]using q
    |succ d ih=>
     intro i hi;have a:=ih i (by omega);rcases(h3 (i+d+1+1) (by omega)).2 with q|q
     ·omega
     ·have q:gE.fO l[i+d+1].n l[i+d+1+1].n=true:=by simpa [jq,show i+d+1<l.length by omega]using q
      exact fH.qi _ _ _ a q
   unfold SoD;rw[dr];intro i j hi hj M8;have:=adj (j-i-1) i (by omega);simpa only[show i+(j-i-1)+1=j by omega]using this
 ·rintro ⟨h1,h2,h3⟩;refine⟨h1,λi hi=> ?_⟩
  have hi:i<l.length:=by simpa using hi
  rw[e i hi,h2 _ (bD hi),bj,dE];by_cases hz:i=0
  ·left;simpa using hz
  ·right;have:=dr.1 h3 (i-1) i (by omega) hi (by omega);simpa [jq,show i-1<l.length by omega]using this
theorem acZ(l:az Fi)(n:au):(without l n).length<=l.length:=eF ..
theorem tu{l:az Fi}(f:Fi):(put l f).length<=l.length+1:=by
 unfold put;have:∀r:az Fi,(r.filter λx=>gE.fO x.n f.n).length+(r.filter λx=> !(gE.fO x.n f.n||decide (x.n=f.n))).length<=r.length:=by
  intro r;induction r with
  |nil=>exact cu _
  |cons y r ih=>
   cases h1:gE.fO y.n f.n with
   |true=>rw[dt (by simpa using h1),cm (by simp[h1])];simp only[c5];omega
   |false=>
    rw[cm (by simp[h1])];by_cases h2:y.n=f.n
    ·rw[cm (by simp[h2])];simp only[c5];omega
    ·rw[dt (by simp[h1,h2])];simp only[c5];omega
 have:=this l;simp only[bO,bw];omega
theorem mW{l:az Fi}{x f:Fi}:x∈put l f↔x=f\/(x∈l/\x.n≠f.n):=by
 unfold put;simp only[a_,dq,aZ,dD,ie,gK];constructor
 ·rintro ((⟨h1,h2⟩|rfl)|⟨h1,h2⟩)
  ·refine .inr ⟨h1,λe2=> ?_⟩;rw[e2,irrefl]at h2;cases h2
  ·exact .inl rfl
  ·exact .inr ⟨h1,h2.2⟩
 ·rintro (rfl|⟨h1,h2⟩)
  ·exact .inl (.inr rfl)
  ·cases hl:gE.fO x.n f.n with
   |true=>exact .inl (.inl ⟨h1,rfl⟩)
   |false=>exact .inr ⟨h1,rfl,h2⟩
def Gb(l:az Fi)(k:aA)(n t o:au):aD (az Fi):=
 match l.find? λx=>decide (x.n=n)with
 |some f=>
  if k=1 then aj (put l ⟨f.n,f.t++t,f.kp⟩)
  else if k=2 then aj (put l ⟨f.n,f.t,f.t.size⟩)
  else if k=3 then(if f.kp≠f.t.size\/o=n then ao else aj (put (without l n) ⟨o,f.t,f.kp⟩))
  else aj (without l n)
 |none=>if k=1 then aj (put l ⟨n,t,0⟩)else ao
def ld(k:aA)(t o:au):aY:=decide (1<=k/\k<=4)&&((decide (t=⟨#[]⟩)||decide (k=1))&&(decide (o=⟨#[]⟩)||decide (k=3)))
def act(l:az Fi)(k:aA)(n t o:au):aD (az Fi):=
 bif u6 l&&ld k t o then(match Gb l k n t o with|some d=>bif u6 d then aj d else ao|none=>ao)else ao
structure Ac where
 k:aA
 n:au
 t:au
 o:au
 deriving DecidableEq
instance:Inhabited Ac:=⟨⟨0,⟨#[]⟩,⟨#[]⟩,⟨#[]⟩⟩⟩
def Ac.row(e:Ac):az CV:=[CV.i ar e.k,CV.s e.n,CV.s e.t,CV.s e.o]
def ra(l:az Ac):aX:=l.map Ac.row
theorem Fv(l):(ra l).length=l.length:=by unfold ra;simp
theorem wa0{l:az Ac}{i:aG}(h:i<l.length):aw (ra l) i 0=CV.i ar (el l i).k:=gL _ l i 0 h
theorem wa1{l:az Ac}{i:aG}(h:i<l.length):aw (ra l) i 1=CV.s (el l i).n:=gL _ l i 1 h
theorem wa2{l:az Ac}{i:aG}(h:i<l.length):aw (ra l) i (1+1)=CV.s (el l i).t:=gL _ l i 2 h
theorem wa3{l:az Ac}{i:aG}(h:i<l.length):aw (ra l) i (1+1+1)=CV.s (el l i).o:=gL _ l i 3 h
def mC:az Fi->aG->az Ac->az Fi×aG
 |l,i,[]=>(l,i)
 |l,i,a::r=>match act l a.k a.n a.t a.o with|some d=>mC d (i+1) r|none=>(l,i)
theorem K4{l d:az Fi}{k:aA}{n t o:au}(h:act l k n t o=aj d):u6 d=ak/\d.length<=30:=by
 unfold act at h;cases hb:u6 l&&ld k t o with
 |false=>rw[hb]at h;cases h
 |true=>
  rw[hb,ay]at h;split at h
  ·rename_i e _;cases ho:u6 e with
   |false=>rw[ho]at h;cases h
   |true=>rw[ho]at h;obtain rfl:=aF h;exact⟨ho,(kM.1 ho).1⟩
  ·cases h
end eC

namespace o_
theorem size(x:aA):(v x).size=4:=by unfold v;rw[Lib.iw];simp only[cw,Lib.vZ]
end o_

namespace jt
def rd(x:aA):aA:=bif decide (cF x 2=1)then(bJ d_ (↑(dO (lH (b_ 32 (bJ d_ (cS x 2))) (b_ 32 3558460437))):aA))else(bJ d_ (cS x 2))
def mX:aG->aA->aA|0,x=>x|n+1,x=>mX n (rd x)
theorem in6(N:aG)(K:aA->au->aA->aA->aD R)(a:au)(b:aA):∀(d n i:aG) (x:aA),d+i=8->d<n->l6 N K n x a b (i:aA)=K (mX d x) a b 8:=by
 intro d;induction d with
 |zero=>
  intro n i x h1 h2;obtain⟨n,rfl⟩:∃m,n=m+1:=⟨n-1,by omega⟩
  have:i=8:=by omega
  subst this;rfl
 |succ d ih=>
  intro n i x h1 h2;obtain⟨n,rfl⟩:∃m,n=m+1:=⟨n-1,by omega⟩
  have lL:bM ((i:aA)+1)=((i+1:aG):aA):=dc (by omega) (by omega);rw[mX,<-ih n (i+1) (rd x) (by omega) (by omega)];simp only[l6,r6,aJ (show(i:aA)<8 by omega),ay,lL,rd];cases decide (cF x 2=1)<;>rfl
def su(t:au):aG->aG->aA->aA
 |0,_,s=>s
 |d+1,i,s=>su t d (i+1) (mX 8 (bJ d_ (↑(dO (lH (b_ 32 s) (b_ 32 (bJ d_ (↑(iH t i):aA))))):aA)))
theorem run(s:aA)(t:au)(ht:t.size<=4611686018427387904):vo s t=aj (su t t.size 0 s):=by
 unfold vo b;have key:∀(d n i:aG) (s:aA),d+i=t.size->d<n->l2 Lib.c7 (λ(yE:aA) (_:au) (_:aA)=>aj yE) n s t (i:aA)=aj (su t d i s):=by
  intro d;induction d with
  |zero=>
   intro n i s h1 h2;obtain⟨n,rfl⟩:∃m,n=m+1:=⟨n-1,by omega⟩
   simp only[l2,r2,Lib.dB,aM (show¬i<t.size by omega),aC];rfl
  |succ d ih=>
   intro n i s h1 h2;obtain⟨n,rfl⟩:∃m,n=m+1:=⟨n-1,by omega⟩
   have lL:bM ((i:aA)+1)=((i+1:aG):aA):=dc (by omega) (by omega);simp only[l2,r2,Lib.dB,aJ (show i<t.size by omega),Lib.cR,aP,ay,Lib.eB];have e:=in6 (R:=aA) Lib.c7 (λy7 y8 y9 _=>l2 Lib.c7 (λyE _ _=>aj yE) n y7 y8 (bM (y9+1))) t (i:aA) 8 Lib.c7 0 (bJ d_ (↑(dO (lH (b_ 32 s) (b_ 32 (bJ d_ (↑(iH t i):aA))))):aA)) rfl (by unfold Lib.c7;omega);refine e.trans ?_;rw[lL,ih n (i+1) _ (by omega) (by omega)];rfl
 exact key t.size Lib.c7 0 s (by omega) (cT (by omega))
theorem ok(s:aA)(t:au)(ht:t.size<=4611686018427387904):c s t=ak/\v s t=su t t.size 0 s:=out s t (run s t ht)
end jt

namespace uL
theorem ok(t:au)(ht:t.size<=4611686018427387904):c t=ak/\v t=jt.su t t.size 0 4294967295:=by have h:=jt.ok 4294967295 t ht;refine out t ?_;unfold vo b;rw[h.1,h.2];rfl
end uL

namespace fP
def fr(t:au):au:=bytesOf (Lib.vb t.size)++o_.v (jt.su t t.size 0 4294967295)++t
def val(t:au):au×aY:=if 1<=t.size/\t.size<=9000 then(fr t,ak)else(⟨#[]⟩,aq)
theorem eM(n a b:aA):kG.v n a b=decide (a<=n/\n<=b):=by unfold kG.v;by_cases h:a<=n<;>by_cases h2:n<=b<;>simp[h,h2]
theorem UO{t:au}(h:t.size<=9000):(fr t).size<=t.size+68:=by unfold fr;have:=Lib.nq (x:=(t.size:aA)) (by omega);rw[Lib.lz,Lib.lz,o_.size];omega
theorem ok(t:au):c t=ak/\v t=val t:=by
 refine out t ?_;unfold vo b val;rw[eM];by_cases h:1<=t.size/\t.size<=9000
 ·have hs:=uL.ok t (by omega);have hc:jW.c (t.size:aA)=true:=aJ (show(t.size:aA)<=9223372036854775807 by omega);have z1:(jW.v (t.size:aA)).size<=64:=Lib.nq (x:=(t.size:aA)) (by omega);rw[aJ (show(1:aA)<=(t.size:aA)/\(t.size:aA)<=9000 by omega),bC h,hs.1,hs.2];simp(disch:=omega) only[ba,aC,ay,hc,Lib.lz,o_.size,Lib.aeJ];rfl
 ·rw[aM (show¬((1:aA)<=(t.size:aA)/\(t.size:aA)<=9000)by omega),bL h];rfl
end fP

namespace jJ
theorem head{t:au}{p:aG}{b:F2}{r:az F2}(h:t.data.toList.drop p=b::r):p<t.size/\iH t p=b.toNat/\t.data.toList.drop (p+1)=r:=by
 have hl:=ml bW h;rw[hZ,c5]at hl;have hs:t.data.toList.length=t.size:=rfl;have hp:p<t.data.toList.length:=by omega
 have hd:=dG hp;rw[hd]at h;injection h with h1 h2;refine⟨by omega, ?_,h2⟩
 unfold iH;have mD:p<t.data.size:=hp;rw[show t.data.getD p 0=t.data[p]by unfold Array.getD;rw[dif_pos mD];rfl];rw[<-h1];rfl
theorem AO(x:aA)(r:aX):(bytesOf ([CV.i bk x]::r)).data.toList=ax x.toNat::(bytesOf r).data.toList:=rfl
theorem Sk(t:au)(a:aG)(rest:az F2):∀(f j:aG) (n y:aA),0<=y->0<=n->n+y*128^j<=1000000000->y<=1000000000->(j>0->0<y)->t.data.toList.drop (a+j)=(bytesOf (Lib.vb y)).data.toList++rest->(Lib.vb y).length<=f->
  Lib.rv t a f j n=(n+y*128^j,((a+j+(Lib.vb y).length:aG):aA),ak)/\t.data.toList.drop (a+j+(Lib.vb y).length)=rest
 |0,j,n,y,h0,hn,hb,hy,hj,hd,hf=>by
  by_cases hc:y>127
  ·rw[Lib.vd hc]at hf;simp at hf
  ·rw[Lib.mw hc]at hf;simp at hf
 |f+1,j,n,y,h0,hn,hb,hy,hj,hd,hf=>by
  by_cases hc:y>127
  ·have e1:cF y 128=y%128:=rZ (by omega);have e2:cS y 128=y/128:=gC (by omega);have e3:bM (y%128+128)=y%128+128:=dc (by omega) (by omega);have e4:bJ bk (y%128+128)=y%128+128:=by show(y%128+128)%256=_;omega
   have e5:bM (y/128)=y/128:=dc (by omega) (by omega);have ev:Lib.vb y=[CV.i bk (y%128+128)]::Lib.vb (y/128):=by rw[Lib.vd hc,e1,e2,e3,e4,e5]
   rw[ev,AO,Ar]at hd;obtain⟨q1,q2,q3⟩:=head hd;have q4:(iH t (a+j):aA)=y%128+128:=by rw[q2,K3];omega
   rw[ev,c5]at hf;have hP:y*128^j=y%128*128^j+y/128*128^(j+1):=by
    have hyd:y=y%128+128*(y/128):=by omega
    rw[tI];generalize (128:aA)^j=P;conv=>lhs;rw[hyd]
    rw[Int.add_mul,Int.mul_comm P 128,<-Int.mul_assoc,Int.mul_comm (y/128) 128]
   have hpp:(0:aA)<=y%128*128^j:=Int.mul_nonneg (by omega) (Int.le_of_lt (Int.pow_pos (by omega)));obtain⟨i1,i2⟩:=Sk t a rest f (j+1) (n+y%128*128^j) (y/128) (by omega) (by omega) (by omega) (by omega) (by omega) (by rw[show a+(j+1)=a+j+1 by omega];exact q3) (by omega);refine⟨?_, ?_⟩
   ·unfold Lib.rv;rw[bC q1,q4,bC (by omega),show(y%128+128)%128=y%128 by omega,i1,hP,ev,c5];refine Prod.ext ?_ (Prod.ext ?_ rfl)
    ·dsimp only;omega
    ·dsimp only;omega
   ·rw[ev,c5,show a+j+((Lib.vb (y/128)).length+1)=a+(j+1)+(Lib.vb (y/128)).length by omega];exact i2
  ·have e4:bJ bk y=y:=by show y%256=_;omega
   have ev:Lib.vb y=[[CV.i bk y]]:=by rw[Lib.mw hc,e4]
   rw[ev,AO,Ar]at hd;obtain⟨q1,q2,q3⟩:=head hd;have q4:(iH t (a+j):aA)=y:=by rw[q2,K3];omega
   refine⟨?_,by rw[ev];exact q3⟩
   unfold Lib.rv;rw[bC q1,q4,bL hc,show y%128=y by omega,bL (by omega),ev];rfl
theorem vb5{y:aA}(h:y<=1000000000):(Lib.vb y).length<=5:=by
 have e:(128:aA)^(4+1)=34359738368:=by decide
 exact Lib.Ae 4 y (by rw[e];omega)
theorem lU(t:au)(p:aG)(y:aA)(rest:az F2)(h0:0<=y)(h1:y<=1000000000)(hd:t.data.toList.drop p=(bytesOf (Lib.vb y)).data.toList++rest):Lib.er t p=(y,((p+(Lib.vb y).length:aG):aA),ak)/\t.data.toList.drop (p+(Lib.vb y).length)=rest:=by
 have hl:=ml bW hd;have h_:0<(Lib.vb y).length:=by
  by_cases hc:y>127
  ·rw[Lib.vd hc];simp
  ·rw[Lib.mw hc];simp
 have hb:(bytesOf (Lib.vb y)).data.toList.length=(Lib.vb y).length:=Lib.iw _;rw[hZ,bO,hb]at hl;have hs:t.data.toList.length=t.size:=rfl;obtain⟨i1,i2⟩:=Sk t p rest 5 0 0 y h0 (by omega) (by simp;omega) h1 (by omega) (by simpa using hd) (vb5 h1);refine⟨?_,by simpa using i2⟩
 unfold Lib.er;rw[bC (by omega),show((p:aG):aA).toNat=p from rfl,i1];simp
theorem Jg(t k:au)(p:aG)(rest:az F2)(hd:t.data.toList.drop p=k.data.toList++rest):t.extract p (p+k.size)=k:=by apply Lib.sd;simp only[fU,g8,gM];rw[hd,show p+k.size-p=k.data.toList.length by show p+k.size-p=k.size;omega,List.take_left]
theorem enc(k:au)(s l:aA)(b:au)(h:iL.v k s l b=ak):v (jN.rV k s l b)=(k,s,l,b,ak):=by
 obtain⟨⟨k1,k2⟩,⟨s1,s2⟩,⟨l1,l2⟩,b1⟩:=iL.Gd h;generalize ht:jN.rV k s l b=t;have hT:t.data.toList=(bytesOf (Lib.vb k.size)).data.toList++(k.data.toList++((bytesOf (Lib.vb s)).data.toList++((bytesOf (Lib.vb l)).data.toList++b.data.toList))):=by rw[<-ht];unfold jN.rV;simp only[lP,uk,cj]
 have hs:t.data.toList.length=t.size:=rfl;have hk:k.data.toList.length=k.size:=rfl;obtain⟨a1,a2⟩:=lU t 0 (k.size:aA) _ (by omega) (by omega) (by rw[fm];exact hT);rw[bT]at a1 a2;generalize (Lib.vb (k.size:aA)).length=n1 at a1 a2;have ao9:=ml bW a2;simp only[hZ,bO,hk,hs]at ao9;have ek:=Jg t k n1 _ a2;have a3:t.data.toList.drop (n1+k.size)=(bytesOf (Lib.vb s)).data.toList++((bytesOf (Lib.vb l)).data.toList++b.data.toList):=by rw[<-uA,a2];exact List.drop_left' (by rw[hk])
 obtain⟨b1',b2⟩:=lU t (n1+k.size) s _ (by omega) (by omega) a3;obtain⟨c1,c2⟩:=lU t (n1+k.size+(Lib.vb s).length) l _ (by omega) (by omega) b2;have hr:Lib.iB t 0=(k,((n1+k.size:aG):aA),ak):=by unfold Lib.iB;rw[show(0:aA)=((0:aG):aA)from rfl,a1];dsimp only;rw[bC (by omega)];rw[show((n1:aG):aA).toNat=n1 from rfl,show((n1:aA)+(k.size:aA)).toNat=n1+k.size by omega,ek];rfl
 have eb:t.extract (n1+k.size+(Lib.vb s).length+(Lib.vb l).length) t.size=b:=by
  have Jx:=ml bW c2;rw[hZ,hs]at Jx;have hbs:b.data.toList.length=b.size:=rfl;by_cases hz:b.size=0
  ·apply Lib.sd;simp only[fU,g8,gM];rw[c2];exact iJ (by omega)
  ·apply Lib.sd;simp only[fU,g8,gM];rw[c2];exact iJ (by omega)
 unfold v;rw[hr];dsimp only;rw[b1'];dsimp only;rw[c1];dsimp only;rw[show((n1+k.size+(Lib.vb s).length+(Lib.vb l).length:aG):aA).toNat=n1+k.size+(Lib.vb s).length+(Lib.vb l).length from rfl,eb,bC h]
end jJ

namespace vA
theorem in6(N:aG)(K:aA->au->aA->aA->aD R)(a:au)(b:aA):∀(d n i:aG) (x:aA),d+i=8->d<n->l6 N K n x a b (i:aA)=K (jt.mX d x) a b 8:=by
 intro d;induction d with
 |zero=>
  intro n i x h1 h2;obtain⟨n,rfl⟩:∃m,n=m+1:=⟨n-1,by omega⟩
  have:i=8:=by omega
  subst this;rfl
 |succ d ih=>
  intro n i x h1 h2;obtain⟨n,rfl⟩:∃m,n=m+1:=⟨n-1,by omega⟩
  have lL:bM ((i:aA)+1)=((i+1:aG):aA):=dc (by omega) (by omega);rw[jt.mX,<-ih n (i+1) (jt.rd x) (by omega) (by omega)];simp only[l6,r6,aJ (show(i:aA)<8 by omega),ay,lL,jt.rd];cases decide (cF x 2=1)<;>rfl
theorem run(s:aA)(t:au)(ht:t.size<=4611686018427387904):vo s t=aj (jt.su t t.size 0 s):=by
 unfold vo b;have key:∀(d n i:aG) (s:aA),d+i=t.size->d<n->l2 Lib.c7 (λ(yE:aA) (_:au) (_:aA)=>aj yE) n s t (i:aA)=aj (jt.su t d i s):=by
  intro d;induction d with
  |zero=>
   intro n i s h1 h2;obtain⟨n,rfl⟩:∃m,n=m+1:=⟨n-1,by omega⟩
   simp only[l2,r2,Lib.dB,aM (show¬i<t.size by omega),aC];rfl
  |succ d ih=>
   intro n i s h1 h2;obtain⟨n,rfl⟩:∃m,n=m+1:=⟨n-1,by omega⟩
   have lL:bM ((i:aA)+1)=((i+1:aG):aA):=dc (by omega) (by omega);simp only[l2,r2,Lib.dB,aJ (show i<t.size by omega),Lib.cR,aP,ay,Lib.eB];have e:=in6 (R:=aA) Lib.c7 (λy7 y8 y9 _=>l2 Lib.c7 (λyE _ _=>aj yE) n y7 y8 (bM (y9+1))) t (i:aA) 8 Lib.c7 0 (bJ d_ (↑(dO (lH (b_ 32 s) (b_ 32 (bJ d_ (↑(iH t i):aA))))):aA)) rfl (by unfold Lib.c7;omega);refine e.trans ?_;rw[lL,ih n (i+1) _ (by omega) (by omega)];rfl
 exact key t.size Lib.c7 0 s (by omega) (cT (by omega))
theorem ok(s:aA)(t:au)(ht:t.size<=4611686018427387904):c s t=ak/\v s t=jt.su t t.size 0 s:=out s t (run s t ht)
end vA

namespace tQ
theorem ok(t:au)(ht:t.size<=4611686018427387904):c t=ak/\v t=jt.su t t.size 0 4294967295:=by have h:=vA.ok 4294967295 t ht;refine out t ?_;unfold vo b;rw[h.1,h.2];rfl
end tQ

namespace EC
theorem ok(t:au)(ht:t.size<=4611686018427387904):c t=ak/\v t=o_.v (jt.su t t.size 0 4294967295):=by have h:=tQ.ok t ht;refine out t ?_;unfold vo b;rw[h.1,h.2];rfl
end EC

namespace rN
theorem cut(a s s' b:au):dC (aL (a++s++b)) (aL (a++s'++b))=dC (aL s) (aL s'):=by
 rw[Lib.fA,Lib.fA,ch];constructor
 ·intro h;have h2:=ml (λx:au=>x.data.toList) h;simp only[lP,uk,cj]at h2;have h3:=List.append_cancel_right (List.append_cancel_left h2);exact Lib.sd h3
 ·intro h;rw[h]
theorem lX(n a b:aA):oe.v n a b=decide (a<=n/\n<=b):=fP.eM n a b
theorem both(t:au)(ht:t.size<=20000):∀(d:aG) (iq:aG) (acc:aX) (n m:aG) (z:aA),t.size-iq<=d->iq<=t.size->acc.length<=iq->d<n->d<m->
  ∃R:aX×aA,U203.l3 Lib.c7 (λ(_:au) (y4:aA) (y5:aX)=>aj (y5,y4)) n t (iq:aA) acc=aj R/\l5 Lib.c7 (λ(_:au) (y5 _:aA) (y7:aX)=>aj (y7,y5)) (λ(_:au) (_ Mr:aA) (yE:aX)=>aj (yE,Mr)) m t z (iq:aA) acc=aj R/\R.1.length<=20000:=by
 intro d;induction d with
 |zero=>
  intro iq acc n m z h1 h2 h3 h4 h5;obtain⟨n,rfl⟩:∃n',n=n'+1:=⟨n-1,by omega⟩
  obtain⟨m,rfl⟩:∃m',m=m'+1:=⟨m-1,by omega⟩
  have jD:decide ((iq:aA)<(t.size:aA))=false:=aM (by omega);have hr:(Lib.er t (iq:aA)).2.2=false:=by
   cases h:Lib.er t (iq:aA)with
   |mk a r=>
    obtain⟨x,o⟩:=r;cases o with
    |false=>rfl
    |true=>have:=Lib.kh h;omega
  have e1:∀a b,gp.v a b=Lib.er a b:=λ_ _=>rfl;refine⟨(acc,(iq:aA)), ?_, ?_,by dsimp only;omega⟩
  ·simp only[U203.l3,U203.r3,e1,hr,aJ (show(t.size:aA)<=20000 by omega),ay,bX]
  ·simp only[l5,r5,jD,aC]
 |succ d ih=>
  intro iq acc n m z h1 h2 h3 h4 h5;obtain⟨n,rfl⟩:∃n',n=n'+1:=⟨n-1,by omega⟩
  obtain⟨m,rfl⟩:∃m',m=m'+1:=⟨m-1,by omega⟩
  have e1:∀a b,gp.v a b=Lib.er a b:=λ_ _=>rfl;have e2:∀a b,fy.v a b=Lib.er a b:=λ_ _=>rfl;have fT:decide ((t.size:aA)<=20000)=true:=aJ (by omega);cases hr:Lib.er t (iq:aA)with
  |mk N r=>
   obtain⟨nx,o⟩:=r;cases o with
   |false=>
    refine⟨(acc,(iq:aA)), ?_, ?_,by dsimp only;omega⟩
    ·simp only[U203.l3,U203.r3,e1,hr,fT,ay,bX]
    ·by_cases jD:(iq:aA)<(t.size:aA)
     ·simp only[l5,r5,e2,hr,aJ jD,ay,bX]
     ·simp only[l5,r5,aM jD,aC]
   |true=>
    obtain⟨q1,q2,q3,q4,q5,q6⟩:=Lib.kh hr;have jD:decide ((iq:aA)<(t.size:aA))=true:=aJ (by omega);have w1:bM (N+4)=N+4:=dc (by omega) (by omega);have w2:bM ((t.size:aA)-nx)=(t.size:aA)-nx:=dc (by omega) (by omega);have w3:bM ((t.size:aA)-nx-4)=(t.size:aA)-nx-4:=dc (by omega) (by omega);have w4:bM (nx+4)=nx+4:=dc (by omega) (by omega);have w5:bM (nx+4+N)=nx+4+N:=dc (by omega) (by omega);by_cases E3:N+4>(t.size:aA)-nx
    ·have Du:N>(t.size:aA)-nx-4:=by omega
     refine⟨(acc,(iq:aA)), ?_, ?_,by dsimp only;omega⟩
     ·cases U6:decide (1<=N/\N<=9000)with
      |false=>simp only[U203.l3,U203.r3,e1,hr,fT,lX,U6,ay,aC,ba,bX]
      |true=>simp only[U203.l3,U203.r3,e1,hr,fT,lX,U6,w1,w2,aJ E3,ay,aC,ba]
     ·simp only[l5,r5,e2,hr,jD,w2,w3,aJ Du,ay,aC,ba]
    ·have Du:¬N>(t.size:aA)-nx-4:=by omega
     have i1:iO (nx+4) (nx+4+N) (t.size:aA)=true:=by simp[iO];omega
     have i2:iO nx (nx+4) (t.size:aA)=true:=by simp[iO];omega
     have i3:iO (iq:aA) (nx+4+N) (t.size:aA)=true:=by simp[iO];omega
     have hts:(t.extract (nx+4).toNat (nx+4+N).toNat).size=N.toNat:=by rw[wE];omega
     generalize Yd:t.extract (nx+4).toNat (nx+4+N).toNat=tx at hts;have f1:=fP.ok tx;have f2:=EC.ok tx (by omega);by_cases U6:1<=N/\N<=9000
     ·have TT:fP.val tx=(fP.fr tx,ak):=by unfold fP.val;rw[bC (by omega)]
      have amS:((tx.size:aG):aA)=N:=by omega
      have CA:fP.fr tx=t.extract iq nx.toNat++o_.v (jt.su tx tx.size 0 4294967295)++tx:=by unfold fP.fr;rw[amS,q6];rfl
      have hwh:t.extract iq (nx+4+N).toNat=t.extract iq nx.toNat++t.extract nx.toNat (nx+4).toNat++tx:=by rw[<-Yd,Lib.vN t (by omega) (by omega),Lib.vN t (by omega) (by omega)]
      have UT:dC (aL (fP.fr tx)) (aL (t.extract iq (nx+4+N).toNat))=dC (aL (o_.v (jt.su tx tx.size 0 4294967295))) (aL (t.extract nx.toNat (nx+4).toNat)):=by rw[CA,hwh];exact cut _ _ _ _
      have Hn:cJ (acc.length+1) 16=true:=Lib.cy (by omega) (by omega);cases hs:dC (aL (o_.v (jt.su tx tx.size 0 4294967295))) (aL (t.extract nx.toNat (nx+4).toNat))with
      |false=>
       rw[hs]at UT;refine⟨(acc,(iq:aA)), ?_, ?_,by dsimp only;omega⟩
       ·simp only[U203.l3,U203.r3,e1,hr,fT,lX,aJ U6,w1,w2,w4,w5,aM E3,i1,i2,Yd,f2.1,f2.2,hs,ay,aC,ba,bX]
       ·simp only[l5,r5,e2,hr,jD,w2,w3,w4,w5,aM Du,i1,i3,Yd,f1.1,f1.2,TT,dx,UT,ay,aC,ba,bX]
      |true=>
       rw[hs]at UT;obtain⟨a2,ha2⟩:∃a2:aG,nx+4+N=(a2:aA):=⟨(nx+4+N).toNat,by omega⟩
       obtain⟨R,g1,g2,g3⟩:=ih a2 (acc++[[CV.s tx]]) n m z (by omega) (by omega) (by rw[bO,bw];omega) (by omega) (by omega);refine⟨R, ?_, ?_,g3⟩
       ·simp only[U203.l3,U203.r3,e1,hr,fT,lX,aJ U6,w1,w2,w4,w5,aM E3,i1,i2,Yd,f2.1,f2.2,hs,Lib.jK,bw,Hn,ay,aC,ba];rw[ha2];exact g1
       ·simp only[l5,r5,e2,hr,jD,w2,w3,w4,w5,aM Du,i1,i3,Yd,f1.1,f1.2,TT,dx,UT,Lib.jK,bw,Hn,ay,aC,ba];rw[ha2];exact g2
     ·have TT:fP.val tx=(⟨#[]⟩,aq):=by unfold fP.val;rw[bL (by omega)]
      refine⟨(acc,(iq:aA)), ?_, ?_,by dsimp only;omega⟩
      ·simp only[U203.l3,U203.r3,e1,hr,fT,lX,aM U6,ay,aC,ba,bX]
      ·simp only[l5,r5,e2,hr,jD,w2,w3,w4,w5,aM Du,i1,Yd,f1.1,f1.2,TT,ay,aC,ba,bX]
theorem same(t:au):∃R:aX×aA,(c t=ak/\v t=R)/\(U203.c t=ak/\U203.v t=R)/\R.1.length<=20000:=by
 by_cases ht:t.size<=20000
 ·obtain⟨R,g1,g2,g3⟩:=both t ht t.size 0 [] Lib.c7 Lib.c7 0 (by omega) (bK _) (cu _) (cT (by omega)) (cT (by omega));refine⟨R,out t ?_,U203.out t ?_,g3⟩
  ·unfold vo b;rw[aM (show¬(t.size:aA)>20000 by omega),aC];exact g2
  ·unfold U203.vo U203.b;exact g1
 ·refine⟨([],0),out t ?_,U203.out t ?_,bK _⟩
  ·unfold vo b;rw[aJ (show(t.size:aA)>20000 by omega)];rfl
  ·unfold U203.vo U203.b;have hb:Lib.c7=18446744073709551615+1:=rfl;have:∀n,U203.l3 Lib.c7 (λ(_:au) (y4:aA) (y5:aX)=>aj (y5,y4)) (n+1) t 0 (aT [Ck.s] 0)=aj ([],0):=by intro n;simp only[U203.l3,U203.r3,aM (show¬(t.size:aA)<=20000 by omega),aC];rfl
   exact this 18446744073709551615
end rN

namespace T2
def fs:az au->au
 |[]=>⟨#[]⟩|x::r=>fP.fr x++fs r
theorem toL(a b:au):(a++b).data.toList=a.data.toList++b.data.toList:=by simp[lP]
theorem EX(x:au):(fP.fr x).data.toList=(bytesOf (Lib.vb x.size)).data.toList++((o_.v (jt.su x x.size 0 4294967295)).data.toList++x.data.toList):=by unfold fP.fr;rw[toL,toL,cj]
theorem Ir(x:au):x.data.toList.length=x.size:=dK
def Stop(z:au):Prop:=z=⟨#[]⟩\/∃(x:au) (w:az F2),x.size<=9000/\(fP.fr x).data.toList=z.data.toList++w/\w≠[]
theorem ot(n:aA):(o_.v n).size=4:=rfl
theorem vbl(n:aA):(bytesOf (Lib.vb n)).data.toList.length=(Lib.vb n).length:=by rw[Ir,Lib.iw]
theorem stop{t z:au}{p:aG}(hz:Stop z)(hp:p<=t.size)(hd:t.data.toList.drop p=z.data.toList){N nx:aA}(h:Lib.er t p=(N,nx,ak)):N+4>(t.size:aA)-nx:=by
 obtain⟨q1,q2,q3,q4,q5,q6⟩:=Lib.kh h;have hl:t.size-p=z.size:=by have:=ml bW hd;rw[hZ,Ir,Ir]at this;exact this
 rcases hz with rfl|⟨x,w,hx,hF,hw⟩
 ·have:(⟨#[]⟩:au).size=0:=rfl;omega
 ·-- the file's next bytes are the number's
  have e1:(t.extract p nx.toNat).data.toList=z.data.toList.take (nx.toNat-p):=by rw[<-hd];simp[fU,g8,List.extract]
  rw[dx]at q6;have JD:nx.toNat-p<=z.data.toList.length:=by rw[Ir];omega
  have e2:(fP.fr x).data.toList.drop 0=(bytesOf (Lib.vb N)).data.toList++(z.data.toList.drop (nx.toNat-p)++w):=by rw[fm,hF,q6,e1,<-cj,List.take_append_drop]
  have e3:(fP.fr x).data.toList.drop 0=(bytesOf (Lib.vb x.size)).data.toList++((o_.v (jt.su x x.size 0 4294967295)).data.toList++x.data.toList):=by rw[fm,EX]
  have r1:=(jJ.lU _ 0 N _ q4 q5 e2).1;have r2:=(jJ.lU _ 0 (x.size:aA) _ (by omega) (by omega) e3).1;rw[r1]at r2;obtain⟨hN,hq⟩:=bU r2;have hlen:(Lib.vb N).length=nx.toNat-p:=by have:=ml bW (ml (λy:au=>y.data.toList) q6);simp only[vbl,e1,eg]at this;omega
  have hFl:=ml bW hF;rw[EX,bO,bO,bO,vbl,Ir,Ir,Ir,ot]at hFl;have hw1:1<=w.length:=by cases w with|nil=>exact cq rfl hw|cons=>simp
  subst hN;omega
theorem go(t:au)(ht:t.size<=20000)(z:au)(hz:Stop z):∀(es:az au),(∀x∈es,1<=x.size/\x.size<=9000)->∀(p n:aG) (acc:aX),p<=t.size->acc.length<=p->t.data.toList.drop p=(fs es++z).data.toList->t.size-p<n->
  U203.l3 Lib.c7 (λ(_:au) (y4:aA) (y5:aX)=>aj (y5,y4)) n t (p:aA) acc=aj (acc++Lib.rs es,((p+(fs es).size:aG):aA)):=by
 have e0:∀a b,gp.v a b=Lib.er a b:=λ_ _=>rfl;have fT:decide ((t.size:aA)<=20000)=true:=aJ (by omega);intro es;induction es with
 |nil=>
  intro hes p n acc hp ha hd hn;obtain⟨n,rfl⟩:∃n',n=n'+1:=⟨n-1,by omega⟩
  have hd:t.data.toList.drop p=z.data.toList:=by rw[hd];unfold fs;rw[toL];rfl
  have e1:acc++Lib.rs []=acc:=di _;have e2:((p+(fs []).size:aG):aA)=(p:aA):=rfl;rw[e1,e2];cases hr:Lib.er t (p:aA)with
  |mk N r=>
   obtain⟨nx,o⟩:=r;cases o with
   |false=>simp only[U203.l3,U203.r3,e0,hr,fT,ay,bX]
   |true=>
    have hs:=stop hz hp hd hr;obtain⟨q1,q2,q3,q4,q5,q6⟩:=Lib.kh hr;have w1:bM (N+4)=N+4:=dc (by omega) (by omega);have w2:bM ((t.size:aA)-nx)=(t.size:aA)-nx:=dc (by omega) (by omega);cases U6:decide (1<=N/\N<=9000)with
    |false=>simp only[U203.l3,U203.r3,e0,hr,fT,rN.lX,U6,ay,aC,ba,bX]
    |true=>simp only[U203.l3,U203.r3,e0,hr,fT,rN.lX,U6,w1,w2,aJ hs,ay,aC,ba]
 |cons x es ih=>
  intro hes p n acc hp ha hd hn;obtain⟨n,rfl⟩:∃n',n=n'+1:=⟨n-1,by omega⟩
  have hx:=hes x (by simp);have hd1:t.data.toList.drop p=(bytesOf (Lib.vb x.size)).data.toList++((o_.v (jt.su x x.size 0 4294967295)).data.toList++(x.data.toList++(fs es++z).data.toList)):=by rw[hd,show fs (x::es)=fP.fr x++fs es from rfl,toL,toL,EX,toL];simp only[cj]
  obtain⟨hr,hd2⟩:=jJ.lU t p (x.size:aA) _ (by omega) (by omega) hd1;have Lv:(fP.fr x).size=(Lib.vb x.size).length+4+x.size:=by rw[<-Ir,EX,bO,bO,vbl,Ir,Ir,ot];omega
  have hlen:=ml bW hd;rw[hZ,Ir,Ir]at hlen;have n8:(fs (x::es)++z).size=(fP.fr x).size+(fs es).size+z.size:=by rw[show fs (x::es)=fP.fr x++fs es from rfl,dz,dz]
  rw[n8,Lv]at hlen;generalize hm:(Lib.vb (x.size:aA)).length=m at*
  have x4:t.extract (p+m) (p+m+4)=o_.v (jt.su x x.size 0 4294967295):=by have:=jJ.Jg t _ (p+m) _ hd2;rwa[ot]at this
  have hd3:t.data.toList.drop (p+m+4)=x.data.toList++(fs es++z).data.toList:=by rw[<-uA,hd2,zF (by rw[Ir,ot];omega),Gq (by rw[Ir,ot];omega),gg]
  have x5:t.extract (p+m+4) (p+m+4+x.size)=x:=jJ.Jg t x (p+m+4) _ hd3;have hd4:t.data.toList.drop (p+m+4+x.size)=(fs es++z).data.toList:=by rw[<-uA,hd3,zF (by rw[Ir];omega),Gq (by rw[Ir];omega),gg]
  have i:=ih (λy hy=>hes y (by simp[hy])) (p+m+4+x.size) n (acc++[[CV.s x]]) (by omega) (by simp;omega) hd4 (by omega);have w1:bM ((x.size:aA)+4)=(x.size:aA)+4:=dc (by omega) (by omega);have w2:bM ((t.size:aA)-((p+m:aG):aA))=(t.size:aA)-((p+m:aG):aA):=dc (by omega) (by omega);have w4:bM (((p+m:aG):aA)+4)=((p+m+4:aG):aA):=by rw[dc (by omega) (by omega)];omega
  have w5:bM (((p+m+4:aG):aA)+(x.size:aA))=((p+m+4+x.size:aG):aA):=by rw[dc (by omega) (by omega)];omega
  have b1:¬(x.size:aA)+4>(t.size:aA)-((p+m:aG):aA):=by omega
  have i1:iO ((p+m+4:aG):aA) ((p+m+4+x.size:aG):aA) (t.size:aA)=true:=by simp[iO];omega
  have i2:iO ((p+m:aG):aA) ((p+m+4:aG):aA) (t.size:aA)=true:=by simp[iO];omega
  have f2:=EC.ok x (by omega);have Hn:cJ (acc.length+1) 16=true:=Lib.cy (by omega) (by omega);simp only[U203.l3,U203.r3,e0,hr,fT,rN.lX,aJ (show 1<=(x.size:aA)/\(x.size:aA)<=9000 by omega),w1,w2,w4,w5,aM b1,i1,i2,dx,x4,x5,f2.1,f2.2,Lib.qg,Lib.jK,bw,Hn,ay,aC,ba];rw[i];have e3:acc++[[CV.s x]]++Lib.rs es=acc++Lib.rs (x::es):=by unfold Lib.rs;simp
  have e4:p+m+4+x.size+(fs es).size=p+(fs (x::es)).size:=by
   have:(fs (x::es)).size=(fP.fr x).size+(fs es).size:=by rw[show fs (x::es)=fP.fr x++fs es from rfl,dz]
   omega
  rw[e3,e4]
theorem ok(es:az au)(hes:∀x∈es,1<=x.size/\x.size<=9000)(z:au)(hz:Stop z)(ht:(fs es++z).size<=20000):
  (U203.c (fs es++z)=ak/\U203.v (fs es++z)=(Lib.rs es,((fs es).size:aA)))/\(rN.c (fs es++z)=ak/\rN.v (fs es++z)=(Lib.rs es,((fs es).size:aA))):=by
 have h1:=U203.out (fs es++z) (x:=(Lib.rs es,((fs es).size:aA))) (by unfold U203.vo U203.b;have:=go (fs es++z) ht z hz es hes 0 Lib.c7 [] (bK _) (bK _) (by rw[fm]) (cT (by omega));rw[bT,gg]at this;exact this);obtain⟨R,s1,s2,_⟩:=rN.same (fs es++z);refine⟨h1,s1.1, ?_⟩
 rw[s1.2,<-s2.2,h1.2]
end T2

namespace ix
theorem wx{k b:au}{s l:aA}(h:iL.v k s l b=ak):(jN.rV k s l b).size<=1000:=by have hr:=iL.Gd h;have z1:(bytesOf (Lib.vb (k.size:aA))).size<=64:=Lib.nq (x:=(k.size:aA)) (by omega);have z2:(bytesOf (Lib.vb s)).size<=64:=Lib.nq (x:=s) (by omega);have z3:(bytesOf (Lib.vb l)).size<=64:=Lib.nq (x:=l) (by omega);unfold jN.rV;simp only[Lib.lz];omega
theorem FK{k b:au}{s l:aA}(h:iL.v k s l b=ak):1<=(jN.rV k s l b).size:=by have hr:=iL.Gd h;unfold jN.rV;simp only[Lib.lz];omega
def val(k:au)(s l:aA)(b:au):au×aY:=if iL.v k s l b=ak then(fP.fr (jN.rV k s l b),ak)else(⟨#[]⟩,aq)
end ix

namespace jV
def p(d:aX)(n:au)(i:aG):aY:=dC (aL (bQ (aw d i 0))) (aL n)
theorem ok(d:aX)(n:au)(hl:d.length<=4294967296):c d n=ak/\v d n=Lib.fi (p d n) d.length 0:=by
 refine out d n ?_;unfold vo b;refine oL (p d n) d.length (λm (i:aG)=>l2 Lib.c7 (λ(_:au) (y5 _:aA) (_:aX)=>aj y5) (λ(_:au) (_ _:aA) (_:aX)=>aj (-1)) m n 0 (i:aA) d) aj (λm i hi hp=> ?_) (λm i hi hp=> ?_) (λm=> ?_) Lib.c7 (cT (by omega))
 ·unfold p at hp;simp only[l2,r2,Lib.dB,Lib.cR,Lib.eB,hi,aR,aP,ay,hp]
 ·unfold p at hp;simp only[l2,r2,Lib.dB,Lib.cR,Lib.eB,hi,aR,aP,ay,hp,aC,Lib.db hi (by omega:d.length<=9223372036854775807)]
 ·simp only[l2,r2,Lib.dB,bu,bm,aC]
end jV

namespace mL
def val(d:aX)(n:au):au×aY:=if Lib.fi (jV.p d n) d.length 0<0 then(⟨#[]⟩,aq)else(bQ (aw d (Lib.fi (jV.p d n) d.length 0).toNat 1),ak)
theorem Gd(d:aX)(n:au)(h:¬Lib.fi (jV.p d n) d.length 0<0):0<=Lib.fi (jV.p d n) d.length 0/\Lib.fi (jV.p d n) d.length 0<(d.length:aA):=by
 rcases Lib.pR (jV.p d n) d.length 0 with ⟨h1,_⟩|⟨k,h1,h2,h3,_,_⟩
 ·rw[h1]at h;omega
 ·rw[h3];omega
theorem ok(d:aX)(n:au)(hl:d.length<=4294967296):c d n=ak/\v d n=val d n:=by
 refine out d n ?_;have h:=jV.ok d n hl;unfold vo b val;rw[h.1,h.2,ay];by_cases hn:Lib.fi (jV.p d n) d.length 0<0
 ·rw[aJ hn,bC hn];rfl
 ·have hr:=Gd d n hn;rw[aM hn,bL hn,aC,aJ hr.1,aJ hr.2];rfl
end mL

namespace zl
theorem ok(r:aX)(hl:r.length<=4294967296):c r=ak/\v r=fw.val r:=by
 refine out r ?_;unfold vo b fw.val;have gO:∀a b c,oe.v a b c=kG.v a b c:=λ_ _ _=>rfl
 have key:=jS (fw.el r) r.length (λm (i:aG)=>l2 Lib.c7 (λ(y5:aY) (_:aX) (_ _:aA) (_:aX)=>aj y5) (λ(_:aY) (_:aX) (_ _:aA) (W8:aX)=>aj (decide ((W8.length:aA)<=30))) m aq r (r.length:aA) (i:aA) r) (aj aq) (aj (decide ((r.length:aA)<=30)))
  (λm i hi hp=>by
   unfold fw.el at hp;simp only[aK]at hp;obtain⟨h1,h2,h3,h4⟩:=hp;have h3:decide (0<=bY (aw r i (1+1))/\bY (aw r i (1+1))<=((bQ (aw r i 1)).size:aA))=true:=h3;have h2:decide (((bQ (aw r i 1)).size:aA)>20000)=false:=by simpa using h2
   by_cases hz:0<i
   ·have e0:decide ((i:aA)>0)=true:=aJ (by omega);have mD:i-1<r.length:=by omega
    have h5:cf (aL (bQ (aw r (i-1) 0))) (aL (bQ (aw r i 0)))=true:=by
     rcases dE _ _▸h4 with q|q
     ·have:i=0:=by simpa using q
      omega
     ·exact q
    simp only[l2,r2,Lib.dB,hi,mD,aR,Lib.cR,aP,ay,aC,Lib.eB,gO,fw.mr,h1,h2,h3,h5,e0,fw.BT hz (by omega),ba,Lib.db hi (by omega:r.length<=9223372036854775807)]
   ·have e0:decide ((i:aA)>0)=false:=aM (by omega);simp only[l2,r2,Lib.dB,hi,aR,Lib.cR,aP,ay,aC,Lib.eB,gO,fw.mr,h1,h2,h3,e0,ba,Lib.db hi (by omega:r.length<=9223372036854775807)])
  (λm i hi hp=>by
   unfold fw.el at hp;cases h1:decide (1<=((bQ (aw r i 0)).size:aA)/\((bQ (aw r i 0)).size:aA)<=8)with
   |false=>simp only[l2,r2,Lib.dB,hi,aR,Lib.cR,aP,ay,aC,Lib.eB,gO,fw.mr,h1,bX]
   |true=>
   cases h2:decide (((bQ (aw r i 1)).size:aA)>20000)with
   |true=>simp only[l2,r2,Lib.dB,hi,aR,Lib.cR,aP,ay,aC,Lib.eB,gO,fw.mr,h1,h2,ba]
   |false=>
   cases h3:decide (0<=bY (aw r i (1+1))/\bY (aw r i (1+1))<=((bQ (aw r i 1)).size:aA))with
   |false=>simp only[l2,r2,Lib.dB,hi,aR,Lib.cR,aP,ay,aC,Lib.eB,gO,fw.mr,h1,h2,h3,ba,bX]
   |true=>
   rw[h1,h2,show decide (0<=bY (aw r i 2)/\bY (aw r i 2)<=((bQ (aw r i 1)).size:aA))=ak from h3,bX,bj,bj,bj]at hp;rw[ie]at hp;obtain⟨h4,h5⟩:=hp;have hz:0<i:=by
    have:¬i=0:=by simpa using h4
    omega
   have e0:decide ((i:aA)>0)=true:=aJ (by omega);have mD:i-1<r.length:=by omega
   simp only[l2,r2,Lib.dB,hi,mD,aR,Lib.cR,aP,ay,aC,Lib.eB,gO,fw.mr,h1,h2,h3,h5,e0,fw.BT hz (by omega),ba,bX])
  (λm=>by simp only[l2,r2,Lib.dB,bu,bm,aC]) Lib.c7 (cT (by omega))
 refine key.trans ?_;rw[show decide ((r.length:aA)<=30)=decide (r.length<=30)from by rw[ch];omega];cases (cM r.length).all (fw.el r)<;>cases decide (r.length<=30)<;>rfl
end zl

namespace kl
open Lib (rd el Fi)
open eC (without put SoD u6 act Gb kM)
def res(o:aD (az Fi)):aX×aY:=match o with|some d=>(rd d,ak)|none=>([],aq)
theorem find(l:az Fi)(n:au):(Lib.fi (jV.p (rd l) n) l.length 0= -1/\l.find? (λx=>decide (x.n=n))=ao)\/∃i,i<l.length/\Lib.fi (jV.p (rd l) n) l.length 0=(i:aA)/\l.find? (λx=>decide (x.n=n))=aj (el l i):=by
 have hq:∀i (hi:i<l.length),jV.p (rd l) n i=decide (l[i].n=n):=λi hi=>by unfold jV.p;rw[J0 hi];exact Lib.fA
 rcases Lib.pR (jV.p (rd l) n) l.length 0 with ⟨e,ha⟩|⟨k,_,hk,e,hp,hb⟩
 ·refine .inl ⟨e,qa.2 λx hx=> ?_⟩;obtain⟨i,hi,rfl⟩:=c9 hx;rw[<-hq i hi,ha i (by omega) (by omega)];simp
 ·have uf:k<l.length:=by omega
  refine .inr ⟨k,uf,e, ?_⟩;rw[Au];exact⟨by rw[eQ uf,<-hq k uf];exact hp,k,uf,(eQ uf).symm,λj hj=>by rw[<-hq j (by omega),hb j (by omega) hj];rfl⟩
theorem okc(d:az Fi)(h:d.length<=1000000):zl.c (rd d)=ak/\zl.v (rd d)=u6 d:=zl.ok (rd d) (by rw[gm];omega)
end kl

namespace vt
theorem ok(l:aX)(hl:l.length<=4294967296):c l=ak/\v l=l:=by refine out l ?_;unfold vo b;rw[show bW (aT [Ck.s,Ck.i ar,Ck.i ar,Ck.s] 0)+l.length=l.length by simp[aT],Lib.cy (by omega) (by omega)];rfl
end vt

namespace B6
theorem ok(l:aX)(k:au)(hc:l.all oG.cn=ak)(hl:l.length<=4294967296):c l k=ak/\v l k=l.filter (oG.keep k):=by have h1:=vt.ok l hl;have h2:=oG.ok l k hc hl;exact out l k (by unfold vo b;rw[h1.1,h1.2,h2.1,h2.2,ay,ay])
end B6

namespace tP
theorem BQ(p q:az CV->aY):∀r:aX,(∀y∈r,q y= !p y)->r.Pairwise (λy z=>p z=ak->p y=ak)->r.takeWhile p=r.filter p/\r.dropWhile p=r.filter q
 |[],_,_=>⟨rfl,rfl⟩
 |y::r,hq,h=>by
  rw[qb]at h;have hy:=hq y (by simp);cases hp:p y with
  |true=>rw[hp]at hy;obtain⟨i1,i2⟩:=BQ p q r (λz hz=>hq z (by simp[hz])) h.2;rw[pL hp,dt hp,List.dropWhile_cons_of_pos hp,cm (by rw[hy];simp),i1,i2];exact⟨rfl,rfl⟩
  |false=>
   rw[hp]at hy;have hn:¬p y=true:=by rw[hp];simp
   have ha:∀z∈r,p z=false:=λz hz=>by
    cases CG:p z with
    |false=>rfl
    |true=>exact cq (h.1 z hz CG) hn
   rw[pK hn,cm hn,List.dropWhile_cons_of_neg hn,dt (by rw[hy];rfl)];refine⟨?_, ?_⟩
   ·symm;rw[IC];intro z hz;rw[ha z hz];simp
   ·congr 1;symm;rw[eI];intro z hz;rw[hq z (by simp[hz]),ha z hz];rfl
theorem aa3{r:aX}(h:∀y∈r,fH.cr y=y):r.all oG.cn=true:=by rw[bn];intro y hy;rw[<-h y hy];rfl
theorem ok(r:aX)(k:au)(s l:aA)(b0:au)(hO:fH.Or r)(hl:r.length<=1048576):c r k s l b0=ak/\v r k s l b0=fH.val r k s l b0:=by
 refine out r k s l b0 ?_;have hd:=B6.ok r k (aa3 hO.2) (by omega);unfold vo b;rw[hd.1,ay,hd.2];have Lv:(r.filter (oG.keep k)).length<=r.length:=eF _ _;have hke:∀y,oG.keep k y= !List.beq (fH.key y) (aL k):=λ_=>rfl;have htw:=BQ (fH.pl k) (fH.pg k) (r.filter (oG.keep k)) (λy hy=>by
  have h2:=(dq.1 hy).2;rw[hke]at h2;have h3:dC (fH.key y) (aL k)=false:=by simpa using h2
  unfold fH.pg fH.pl;rw[h3,Bool.or_false]) ((hO.1.sublist jo).imp (λ{y z} hyz hz=>fH.qi _ _ _ hyz hz))
 have e1:(r.filter (oG.keep k)).filter (fH.pl k)=r.filter (fH.pl k):=by
  rw[ME];apply pX;intro y _;cases h:fH.pl k y with
  |false=>rfl
  |true=>
   rw[hke,bj];cases h2:dC (fH.key y) (aL k)with
   |false=>rfl
   |true=>exfalso;have h3:=Lib.beq_iff.1 h2;unfold fH.pl at h;rw[h3,fH.oj]at h;cases h
 have e2:(r.filter (oG.keep k)).filter (fH.pg k)=r.filter (fH.pg k):=by rw[ME];apply pX;intro y _;rw[hke];unfold fH.pg;cases dC (fH.key y) (aL k)<;>cases cf (fH.key y) (aL k)<;>rfl
 generalize r.filter (oG.keep k)=o at Lv htw e1 e2
 have:=wv (fH.pl k) o (λm (i:aG)=>l3 Lib.c7 (λ(y6:aA) (y7:au) (y8 y9:aA) (Mr:au) (yE:aX)=>bif(decide (0<=y6)&&decide (y6<=(↑(bW yE):aA))&&cJ (bW yE+bW (aE (aT [Ck.s,Ck.i ar,Ck.i ar,Ck.s] 1) 0 [CV.s y7,CV.i ar y8,CV.i ar y9,CV.s Mr])) 48)then(aj (Pu.xW yE (bc y6) (aE (aT [Ck.s,Ck.i ar,Ck.i ar,Ck.s] 1) 0 [CV.s y7,CV.i ar y8,CV.i ar y9,CV.s Mr])))else(ao)) m (i:aA) k s l b0 o)
  (λa=>bif decide ((a:aA)<=(o.length:aA))then aj (Pu.xW o a [fH.nw k s l b0])else ao)
  (λm i h hp=>by
   have mD:cf (aL (bQ (aw o i 0))) (aL k)=true:=by rw[Lib.cX h];exact hp
   simp only[l3,r3,Lib.dB,h,aR,Lib.cR,aP,ay,Lib.eB,mD,Lib.db h (by omega:o.length<=9223372036854775807)])
  (λm i h hp=>by
   have mD:cf (aL (bQ (aw o i 0))) (aL k)=false:=by rw[Lib.cX h];exact hp
   simp only[l3,r3,Lib.dB,h,aR,Lib.cR,aP,bj,ph,ay,aC,Lib.eB,mD,Lib.jK,bw,Lib.cy (n:=o.length+1) (b:=48) (by omega) (by omega)];rfl)
  (λm=>by simp only[l3,r3,Lib.dB,bu,bm,aR,Lib.cR,aP,bj,ph,ay,aC,Lib.eB,Lib.jK,bw,Lib.cy (n:=o.length+1) (b:=48) (by omega) (by omega)];rfl) Lib.c7 (cT (by omega))
 refine this.trans ?_;have hle:=H8 (fH.pl k) o;rw[aJ (by omega),ay];unfold Pu.xW fH.val;rw[Aa,zN,htw.1,htw.2,e1,e2,fH.Fh hO.2,fH.Fh hO.2]
end tP

namespace vC
theorem ok(d:aX)(n:au)(hl:d.length<=4294967296):c d n=ak/\v d n=Lib.fi (jV.p d n) d.length 0:=by
 refine out d n ?_;unfold vo b;refine oL (jV.p d n) d.length (λm (i:aG)=>l2 Lib.c7 (λ(_:aX) (_:au) (y7 _ _:aA)=>aj y7) (λ(_:aX) (_:au) (_ _ _:aA)=>aj (-1)) m d n 0 (d.length:aA) (i:aA)) aj (λm i hi hp=> ?_) (λm i hi hp=> ?_) (λm=> ?_) Lib.c7 (cT (by omega))
 ·unfold jV.p at hp;simp only[l2,r2,Lib.dB,Lib.cR,Lib.eB,hi,aR,aP,ay,PU.v,hp]
 ·unfold jV.p at hp;simp only[l2,r2,Lib.dB,Lib.cR,Lib.eB,hi,aR,aP,ay,PU.v,hp,aC,Lib.db hi (by omega:d.length<=9223372036854775807)]
 ·simp only[l2,r2,Lib.dB,bu,bm,aC]
end vC

namespace AB
theorem ok(d:aX)(n:au)(hl:d.length<=4294967296):c d n=ak/\v d n=Lib.fi (jV.p d n) d.length 0:=by have h:=vC.ok d n hl;exact out d n (by unfold vo b;rw[h.1,h.2,ay])
end AB

namespace Az
theorem ok(d:aX)(n:au)(hl:d.length<=4294967296):c d n=ak/\v d n=mL.val d n:=by
 refine out d n ?_;have h:=AB.ok d n hl;unfold vo b mL.val;rw[h.1,h.2,ay];by_cases hn:Lib.fi (jV.p d n) d.length 0<0
 ·rw[aJ hn,bC hn];rfl
 ·have hr:=mL.Gd d n hn;rw[aM hn,bL hn,aC,aJ hr.1,aJ hr.2];rfl
end Az

namespace rK
def nm:au:={data:= #[ax 107,ax 101,ax 112,ax 116]}
theorem both(rec:aX)(hr:rec.length<=20000):∀(d i:aG) (o:aX) (n m:aG),rec.length-i<=d->i<=rec.length->fH.Or o->o.length<=i->d<n->d<m->
  ∃L:aX,U118.l7 Lib.c7 (λ(_ _:aA) (y6:aX) (_:aX)=>aj y6) n (rec.length:aA) (i:aA) o rec=aj L/\l7 Lib.c7 (λ(_:aA) (y4 _:aX)=>aj y4) m (i:aA) o rec=aj L/\fH.Or L/\L.length<=20000:=by
 have e1:∀t,xQ.v t=jJ.v t:=λ_=>rfl;intro d;induction d with
 |zero=>
  intro i o n m h1 h2 hO h3 h4 h5;obtain⟨n,rfl⟩:∃n',n=n'+1:=⟨n-1,by omega⟩
  obtain⟨m,rfl⟩:∃m',m=m'+1:=⟨m-1,by omega⟩
  have jD:decide ((i:aA)<(rec.length:aA))=false:=aM (by omega);exact⟨o,by simp only[U118.l7,U118.r7,jD,aC],by simp only[l7,r7,jD,aC],hO,by omega⟩
 |succ d ih=>
  intro i o n m h1 h2 hO h3 h4 h5;obtain⟨n,rfl⟩:∃n',n=n'+1:=⟨n-1,by omega⟩
  obtain⟨m,rfl⟩:∃m',m=m'+1:=⟨m-1,by omega⟩
  by_cases hi:i<rec.length
  ·have hw:bM ((i:aA)+1)=((i+1:aG):aA):=dc (by omega) (by omega);cases b8:(jJ.v (bQ (aw rec i 0))).2.2.2.2 with
   |false=>
    obtain⟨L,g1,g2,g3,g4⟩:=ih (i+1) o n m (by omega) hi hO (by omega) (by omega) (by omega);refine⟨L, ?_, ?_,g3,g4⟩
    ·simp only[U118.l7,U118.r7,Lib.dB,hi,aR,Lib.cR,aP,ay,Lib.eB,e1,b8,aC,hw];exact g1
    ·simp only[l7,r7,Lib.dB,hi,aR,Lib.cR,aP,ay,Lib.eB,b8,aC,hw];exact g2
   |true=>
    have p1:=fH.ok o (jJ.v (bQ (aw rec i 0))).1 (jJ.v (bQ (aw rec i 0))).2.1 (jJ.v (bQ (aw rec i 0))).2.2.1 (jJ.v (bQ (aw rec i 0))).2.2.2.1 (by omega);have p2:=tP.ok o (jJ.v (bQ (aw rec i 0))).1 (jJ.v (bQ (aw rec i 0))).2.1 (jJ.v (bQ (aw rec i 0))).2.2.1 (jJ.v (bQ (aw rec i 0))).2.2.2.1 hO (by omega);have p3:=fH.vV hO (jJ.v (bQ (aw rec i 0))).1 (jJ.v (bQ (aw rec i 0))).2.1 (jJ.v (bQ (aw rec i 0))).2.2.1 (jJ.v (bQ (aw rec i 0))).2.2.2.1;obtain⟨L,g1,g2,g3,g4⟩:=ih (i+1) _ n m (by omega) hi p3.1 (by omega) (by omega) (by omega);refine⟨L, ?_, ?_,g3,g4⟩
    ·simp only[U118.l7,U118.r7,Lib.dB,hi,aR,Lib.cR,aP,ay,Lib.eB,e1,b8,p2.1,p2.2,hw];exact g1
    ·simp only[l7,r7,Lib.dB,hi,aR,Lib.cR,aP,ay,Lib.eB,b8,p1.1,p1.2,hw];exact g2
  ·have jD:decide ((i:aA)<(rec.length:aA))=false:=aM (by omega);exact⟨o,by simp only[U118.l7,U118.r7,jD,aC],by simp only[l7,r7,jD,aC],hO,by omega⟩
theorem same(d:aX)(hd:d.length<=1048576):∃L:aX,(c d=ak/\v d=L)/\(U118.c d=ak/\U118.v d=L)/\(∀y∈L,y.length=4)/\L.length<=20000:=by
 have k1:=fw.ok d (by omega);have k2:=zl.ok d (by omega);cases hv:fw.val d with
 |false=>
  refine⟨[],out d ?_,U118.out d ?_,λy hy=>(by cases hy),bK _⟩
  ·unfold vo b;rw[k1.1,k1.2,hv];rfl
  ·unfold U118.vo U118.b;rw[k2.1,k2.2,hv];rfl
 |true=>
  have k3:=mL.ok d nm (by omega);have k4:=Az.ok d nm (by omega);obtain⟨R,u1,u2,u3⟩:=rN.same (mL.val d nm).1;obtain⟨L,g1,g2,g3,g4⟩:=both R.1 u3 R.1.length 0 [] Lib.c7 Lib.c7 (by omega) (bK _) ⟨gG,λy hy=>(by cases hy)⟩ (bK _) (cT (by omega)) (cT (by omega));refine⟨L,out d ?_,U118.out d ?_,λy hy=>(by rw[<-g3.2 y hy];rfl),g4⟩
  ·unfold nm at k3 u1;unfold vo b;rw[k1.1,k1.2,hv,ay,ba,aC,k3.1,ay,k3.2,u1.1,ay,u1.2];exact g2
  ·unfold nm at k4 u2;unfold U118.vo U118.b;rw[k2.1,k2.2,hv,ay,ba,aC,k4.1,ay,k4.2,u2.1,ay,u2.2];exact g1
end rK

namespace jF
def kept:au:={data:= #[ax 107,ax 101,ax 112,ax 116]}
def mC(f:au):aX:=[[CV.i ar 1,CV.s kept,CV.s f,CV.s {data:= #[]}],[CV.i ar 2,CV.s kept,CV.s {data:= #[]},CV.s {data:= #[]}]]
def val(k:au)(s l:aA)(b:au):aX×aY:=if iL.v k s l b=ak then(mC (fP.fr (jN.rV k s l b)),ak)else([],aq)
end jF

namespace jY
open Lib (rd re rs el Fi En)
open eC (u6 kM act mC Gb put without ra Ac nt)
open gE (So ma fO)
open T2 (fs Stop)
abbrev qx:au:={data:= #[ax 107,ax 101,ax 112,ax 116]}
def rV(e:En):au:=jN.rV e.k e.st e.li e.bo
def Di(e:En):aY:=iL.v e.k e.st e.li e.bo
def Jq(e:En):au:=fP.fr (rV e)
def tx(es:az En):au:=fs (es.map rV)
def kp(es:az En):az En:=es.foldl ma []
theorem Vo(es:az En)(e:En):kp (es++[e])=ma (kp es) e:=by unfold kp;rw[pY];rfl
theorem abf(a b:az au):fs (a++b)=fs a++fs b:=by
 induction a with
 |nil=>exact o0.symm
 |cons x a ih=>rw[Ar];show fP.fr x++fs (a++b)=fP.fr x++fs a++fs b;rw[ih,BW]
theorem W1(es:az En)(e:En):tx (es++[e])=tx es++Jq e:=by unfold tx;rw[dh,abf];show fs (es.map rV)++(fP.fr (rV e)++⟨#[]⟩)=_;rw[show(⟨#[]⟩:au)=FT from rfl,pV];rfl
theorem W2{e:En}(h:Di e=ak):1<=(rV e).size/\(rV e).size<=1000:=⟨ix.FK h,ix.wx h⟩
theorem yx{en:az En}(h:So en)(e:En):So (ma en e):=by have:=(fH.vV (gE.Bs h) e.k e.st e.li e.bo).1.1;rw[gE.sL]at this;unfold Lib.re at this;rw[jX]at this;exact this
theorem mW{en:az En}{x e:En}:x∈ma en e↔x=e\/(x∈en/\x.k≠e.k):=by
 unfold ma;simp only[a_,dq,aZ,dD,ie,gK];constructor
 ·rintro ((⟨h1,h2⟩|rfl)|⟨h1,h2⟩)
  ·refine .inr ⟨h1,λe2=> ?_⟩;rw[e2]at h2;unfold fO at h2;rw[fH.oj]at h2;cases h2
  ·exact .inl rfl
  ·exact .inr ⟨h1,h2.2⟩
 ·rintro (rfl|⟨h1,h2⟩)
  ·exact .inl (.inr rfl)
  ·cases hl:fO x.k e.k with
   |true=>exact .inl (.inl ⟨h1,rfl⟩)
   |false=>exact .inr ⟨h1,rfl,h2⟩
theorem JH{es:az En}{x:En}(h:x∈kp es):x∈es:=by
 have:∀(es o:az En),x∈es.foldl ma o->x∈o\/x∈es:=by
  intro es;induction es with
  |nil=>intro o h;exact .inl h
  |cons e es ih=>
   intro o h;rcases ih _ h with h|h
   ·rcases mW.1 h with rfl|h
    ·exact .inr (by simp)
    ·exact .inl h.1
   ·exact .inr (by simp[h])
 rcases this es [] h with h|h
 ·cases h
 ·exact h
theorem Q7(es:az En):(kp es).length<=es.length:=by
 have:∀(es o:az En),So o->(es.foldl ma o).length<=o.length+es.length:=by
  intro es;induction es with
  |nil=>intro o h;exact cu _
  |cons e es ih=>intro o h;have:=ih _ (yx h e);have:=gE.tu o e h;simp only[Ce,c5];omega
 have:=this es [] gG;rw[jr,bT]at this;exact this
theorem fileAt(d:az Fi)(n:au):mL.val (rd d) n=match d.find? (λx=>decide (x.n=n))with|some f=>(f.t,ak)|none=>(⟨#[]⟩,aq):=by
 unfold mL.val;rw[gm];rcases kl.find d n with ⟨e1,e2⟩|⟨i,hi,e1,e2⟩
 ·rw[e1,e2];rfl
 ·rw[e1,e2,bL (by omega),dx,wd1 hi];rfl
theorem apM(es:az En)(he:∀e∈es,Di e=ak)(hl:es.length<=20000):∀(d i n:aG) (o:az En),es.length-i<=d->i<=es.length->So o->o.length<=i->d<n->
  U118.l7 Lib.c7 (λ(_ _:aA) (y6:aX) (_:aX)=>aj y6) n (es.length:aA) (i:aA) (re o) (rs (es.map rV))=aj (re ((es.drop i).foldl ma o)):=by
 have e1:∀t,xQ.v t=jJ.v t:=λ_=>rfl;intro d;induction d with
 |zero=>
  intro i n o h1 h2 hO h3 h5;obtain⟨n,rfl⟩:∃n',n=n'+1:=⟨n-1,by omega⟩
  have:i=es.length:=by omega
  subst this;simp only[U118.l7,U118.r7,Lib.dB,bu,bm,aC,dm,Uh]
 |succ d ih=>
  intro i n o h1 h2 hO h3 h5;obtain⟨n,rfl⟩:∃n',n=n'+1:=⟨n-1,by omega⟩
  by_cases hi:i<es.length
  ·have E4:i<(es.map rV).length:=by simpa using hi
   have hk:=he _ (bD hi);have hr:jJ.v (rV es[i])=(es[i].k,es[i].st,es[i].li,es[i].bo,ak):=jJ.enc _ _ _ _ hk;have hp:=tP.ok (re o) es[i].k es[i].st es[i].li es[i].bo (gE.Bs hO) (by rw[dQ];omega);rw[gE.sL o es[i]]at hp;have hg:(es.map rV)[i]=rV es[i]:=by simp
   simp only[U118.l7,U118.r7,Lib.dB,hi,eE,bP,aR,Lib.cR,aP,ay,Lib.eB,TW E4,hg,bQ,e1,hr,hp.1,hp.2,Lib.db hi (by omega:es.length<=9223372036854775807)];rw[dG hi,Ce];exact ih (i+1) n _ (by omega) hi (yx hO _) (by have:=gE.tu o es[i] hO;omega) (by omega)
  ·have:i=es.length:=by omega
   subst this;simp only[U118.l7,U118.r7,Lib.dB,bu,bm,aC,dm,Uh]
theorem fk(d:az Fi)(es:az En)(z:au)(hd:u6 d=ak)(hf:(mL.val (rd d) qx).1=tx es++z)(he:∀e∈es,Di e=ak)(hz:Stop z):
  (U118.c (rd d)=ak/\U118.v (rd d)=re (kp es))/\(rK.c (rd d)=ak/\rK.v (rd d)=re (kp es)):=by
 obtain⟨q1,q2,q3⟩:=kM.1 hd;have hs:(tx es++z).size<=20000:=by
  rw[<-hf,fileAt];cases h:d.find? (λx=>decide (x.n=qx))with
  |none=>exact bK _
  |some f=>have:=q2 f (FW h);unfold nt at this;simp only[aK,bf,dD,gK]at this;show f.t.size<=20000;omega
 have hl:es.length<=20000:=by
  have:∀es:az En,es.length<=(tx es).size:=by
   intro es;induction es with
   |nil=>exact cu _
   |cons e es ih=>
    have:(tx (e::es)).size=(Jq e).size+(tx es).size:=dz;have h2:4<=(Jq e).size:=by unfold Jq fP.fr;rw[dz,dz,T2.ot];omega
    rw[this,c5];omega
  have h2:=this es;rw[dz]at hs;omega
 have u:=T2.ok (es.map rV) (λx hx=>by obtain⟨e,h,rfl⟩:=cG.1 hx;have:=W2 (he e h);omega) z hz hs;have k2:=kl.okc d (by omega);have k4:=Az.ok (rd d) qx (by rw[gm];omega);have h1:=U118.out (rd d) (x:=re (kp es)) (by unfold U118.vo U118.b;rw[k2.1,k2.2,hd,ay,ba,aC,k4.1,ay,k4.2,hf];have hu:=u.1;rw[show fs (es.map rV)=tx es from rfl]at hu;rw[hu.1,ay,hu.2];dsimp only;rw[eE,bP];have:=apM es he hl es.length 0 Lib.c7 [] (by omega) (bK _) gG (bK _) (cT (by omega));rw[fm]at this;exact this);obtain⟨L,s1,s2,_⟩:=rK.same (rd d) (by rw[gm];omega);refine⟨h1,s1.1, ?_⟩
 rw[s1.2,<-s2.2,h1.2]
def base:aD au->az Fi
 |none=>[]|some t=>[⟨qx,t,t.size⟩]
def bt:aD au->au|none=>⟨#[]⟩|some t=>t
def yV(f:au):az Ac:=[⟨1,qx,f,⟨#[]⟩⟩,⟨2,qx,⟨#[]⟩,⟨#[]⟩⟩]
theorem ok1(f:Fi):u6 [f]=nt f:=by
 cases h:nt f with
 |true=>exact kM.2 ⟨by simp,λg hg=>by rw[aZ.1 hg];exact h,by unfold eC.SoD;simp⟩
 |false=>
  cases h2:u6 [f]with
  |false=>rfl
  |true=>have:=(kM.1 h2).2.1 f (by simp);rw[h]at this;cases this
theorem abe(t:au)(k:aA)(h1:t.size<=20000)(h2:0<=k/\k<=(t.size:aA)):nt ⟨qx,t,k⟩=true:=by unfold nt;have:((qx.size:aG):aA)=4:=rfl;rw[this,aJ (by omega),aJ h2,aM (by dsimp only;omega)];rfl
theorem s6{o:aD au}(h:(bt o).size<=20000):u6 (base o)=true:=by
 cases o with
 |none=>exact kM.2 ⟨bK _,⟨λf hf=>(by cases hf),gG⟩⟩
 |some t=>exact(ok1 _).trans (abe t _ h ⟨by omega,by omega⟩)
theorem v9{g f:Fi}(h:g.n=f.n):put [g] f=[f]:=by unfold put;rw[cm (by rw[h,eC.irrefl];simp),cm (by simp[h])];rfl
theorem aaN{o:aD au}{f:au}(h:(bt o).size+f.size<=20000):act (base o) 1 qx f ⟨#[]⟩=aj [⟨qx,bt o++f,(bt o).size⟩]:=by
 unfold act;rw[s6 (by omega),show eC.ld 1 f ⟨#[]⟩=ak from by unfold eC.ld;simp,aP,ay];have hs:(bt o++f).size<=20000:=by rw[dz];omega
 have hn:Gb (base o) 1 qx f ⟨#[]⟩=aj [⟨qx,bt o++f,(bt o).size⟩]:=by
  cases o with
  |none=>unfold Gb;show(if(1:aA)=1 then aj (put [] ⟨qx,f,0⟩)else ao)=_;rw[bC rfl];show aj [(⟨qx,f,0⟩:Fi)]=aj [⟨qx,(⟨#[]⟩:au)++f,((⟨#[]⟩:au).size:aA)⟩];rw[show(⟨#[]⟩:au)++f=f from o0];rfl
  |some t=>unfold Gb;rw[show(base (aj t)).find? (λx=>decide (x.n=qx))=aj ⟨qx,t,t.size⟩from by unfold base;simp];dsimp only;rw[bC rfl];exact ml aj (v9 rfl)
 rw[hn];dsimp only;rw[ok1,abe _ _ hs ⟨by omega,by rw[dz];omega⟩];rfl
theorem Vn{t:au}{k:aA}(h:t.size<=20000)(hk:0<=k/\k<=(t.size:aA)):act [⟨qx,t,k⟩] 2 qx ⟨#[]⟩ ⟨#[]⟩=aj (base (aj t)):=by
 unfold act;rw[ok1,abe _ _ h hk,show eC.ld 2 ⟨#[]⟩ ⟨#[]⟩=ak from by unfold eC.ld;simp,aP,ay];have hn:Gb [⟨qx,t,k⟩] 2 qx ⟨#[]⟩ ⟨#[]⟩=aj (base (aj t)):=by unfold Gb;rw[show([⟨qx,t,k⟩]:az Fi).find? (λx=>decide (x.n=qx))=aj ⟨qx,t,k⟩from by simp];dsimp only;rw[bL (by omega),bC rfl];exact ml aj (v9 rfl)
 rw[hn];dsimp only;rw[s6 (o:=aj t) h];rfl
theorem Q3{o:aD au}{f:au}(h:(bt o).size+f.size<=20000):mC (base o) 0 (yV f)=(base (aj (bt o++f)),2):=by have hs:(bt o++f).size=(bt o).size+f.size:=dz;unfold yV mC;dsimp only;rw[aaN h];dsimp only;unfold mC;dsimp only;rw[Vn (by omega) ⟨by omega,by omega⟩];rfl
theorem MJ(o:aD au):(mL.val (rd (base o)) qx).1=bt o:=by
 rw[fileAt];cases o with
 |none=>rfl
 |some t=>rw[show(base (aj t)).find? (λx=>decide (x.n=qx))=aj ⟨qx,t,t.size⟩from by unfold base;simp];rfl
def kd(es:az En):az Fi:=base (match es with|[]=>ao|_=>aj (tx es))
theorem ao6(es:az En):∃o,kd es=base o/\bt o=tx es:=by
 cases es with
 |nil=>exact⟨ao,rfl,rfl⟩
 |cons e es=>exact⟨aj (tx (e::es)),rfl,rfl⟩
end jY

namespace eS
def has(l:az au)(k:au):aY:=l.any λx=>decide (x=k)
def without(l:az au)(k:au):az au:=l.filter λx=> !decide (x=k)
theorem gk{l:az au}{k:au}:has l k=ak↔k∈l:=by unfold has;simp
theorem jP{l:az au}{k:au}:has l k=aq↔k∉l:=by rw[<-gk];cases has l k<;>simp
theorem ve{l:az au}{k:au}(h:has l k=aq):without l k=l:=by unfold without;rw[eI];intro x hx;have:=jP.1 h;simp;intro e;subst e;exact this hx
theorem gX{l:az au}{k:au}:(without l k).length<=l.length:=eF ..
theorem oV{l:az au}{k:au}(h:has l k=ak):(without l k).length<l.length:=by unfold without;refine List.length_filter_lt_length_iff_exists.2 ⟨k,gk.1 h,by simp⟩
theorem ok(l:az au)(k:au)(hl:l.length<=4294967296):c (Lib.rs l) k=ak/\v (Lib.rs l) k=has l k:=by
 refine out _ _ ?_;unfold vo b
 have:=AF l (λx=>decide (x=k)) (λm (i:aG)=>l2 Lib.c7 (λ(_:aX) (_:au) (y6:aY) (_:aA)=>aj y6) (λ(_:aX) (_:au) (_:aY) (_:aA)=>aj aq) m (Lib.rs l) k aq (i:aA)) (aj ak) (aj aq)
  (λm i h hp=>by simp only[l2,r2,eE,Lib.dB,h,aR,Lib.cR,aP,ay,Lib.eB,TW h,bQ,Lib.fA,hp])
  (λm i h hp=>by simp only[l2,r2,eE,Lib.dB,h,aR,Lib.cR,aP,ay,Lib.eB,TW h,bQ,Lib.fA,hp,aC,Lib.db h (by omega:l.length<=9223372036854775807)])
  (λm=>by simp only[l2,r2,eE,Lib.dB,bu,bm,aC]) Lib.c7 (cT (by omega))
 refine this.trans ?_;unfold has;cases l.any λx=>decide (x=k)<;>rfl
end eS

namespace uM
theorem ok(l:aX)(hl:l.length<=4294967296):c l=ak/\v l=l:=by refine out l ?_;unfold vo b;rw[show bW (aT [Ck.i ar] 0)+l.length=l.length by simp[aT],Lib.cy (by omega) (by omega)];rfl
end uM

namespace iV
open Lib (rr)
def n6(s:az (az aA)):Prop:=s.length<=1048576/\∀q∈s,q.length<=1048576
theorem run(N:aG)(K0:aX->aA->aA->aA->aA->aD R)(K1:aX->aA->aA->aA->aA->aX->aD R)(s:az (az aA))(z a:aA)(hf:n6 s)(m:aG)(hm:s.length+1<m)(kr:aX->aD R)
  (h0:s=[]->K0 (rr s) 0 0 z a=kr []) (h1:K1 (rr s) s.length s.length z a (rr s)=kr (rr s)):l3 N K0 K1 m (rr s) (s.length:aA) 0 z a=kr (rr s):=by
 obtain⟨m,rfl⟩:∃m',m=m'+1:=⟨m-1,by omega⟩
 have hci:∀i (h:i<s.length),uM.c (Lib.ri s[i])=ak/\uM.v (Lib.ri s[i])=Lib.ri s[i]:=λi h=>uM.ok _ (by rw[Lib.gW];have:=hf.2 _ (bD h);omega);by_cases hs:s=[]
 ·subst hs;simp only[l3,r3,jr,TD,Int.lt_irrefl,bm,aC];exact h0 rfl
 ·have hp:0<s.length:=KI.2 hs;have key:=mn (R:=R) s.length (λm i (x:aX)=>tW N K0 K1 m (rr s) (s.length:aA) (i:aA) z a x) (λi=>rr (s.take i)) (kr (rr s)) (λm i h=>by
   have hl:=hf.1;simp only[tW,z7,Lib.dB,h,aR,ay,Lib.cR,bj,gu,Lib.eB,Iq h,ju,(hci i h).1,(hci i h).2,pe,bw];rw[Lib.cy (by rw[eg];omega) (by rw[eg];omega),ay,Lib.db h (by omega)];have:=ou (λq=>[CV.l 3 (Lib.ri q)]) s i h;unfold rr;rw[<-this]) (λm=>by
   simp only[tW,z7,Lib.dB,bu,bm,aC,fD];exact h1) m 1 hp (by omega)
  simp only[l3,r3,aJ (show(0:aA)<(s.length:aA)by omega),ay,aP,gu,show decide ((0:aA)<=0)=ak from rfl];have e:=hci 0 hp;have e0:=Iq (l:=s) hp;simp only[show bc 0=0 from rfl,e0,ju,e.1,e.2,ay,pe,gg];rw[show bM (0+1)=((1:aG):aA)from rfl];refine Eq.trans ?_ key;have:=ou (λq=>[CV.l 3 (Lib.ri q)]) s 0 hp;unfold rr;rw[show(0+1)=1 from rfl]at this;rw[<-this];rfl
theorem ok(s:az (az aA))(a:aA)(hf:n6 s):c (rr s) a=ak/\v (rr s) a=(rr s,a):=by refine out _ _ ?_;unfold vo b;rw[gu];exact run Lib.c7 (λ_ _ _ _ y=>aj ([],y)) (λ_ _ _ _ tD Gg=>aj (Gg,tD)) s 0 a hf Lib.c7 (cT (by have:=hf.1;omega)) (λx=>aj (x,a)) (λ_=>rfl) rfl
end iV

namespace fg
open Lib (rr)
def LL(n:aA):aY:=decide (0<=n/\n<=15)
def rH(q:az aA):aY:=decide (q.length=16)&&q.all LL
def nH(s:az (az aA))(a:aA):aY:=decide (s.length=3)&&(decide (0<=a/\a<=63)&&s.all rH)
theorem eM(n a b:aA):kG.v n a b=decide (a<=n/\n<=b):=by
 unfold kG.v;by_cases h1:a<=n
 ·rw[aJ (show n≥a from h1),ay];by_cases h2:n<=b<;>simp[h1,h2]
 ·rw[aM (show¬n≥a from h1),aC];simp[h1]
theorem ok(s:az (az aA))(a:aA)(hf:iV.n6 s):c (rr s) a=ak/\v (rr s) a=nH s a:=by
 refine out _ _ ?_;unfold vo b nH;rw[gu];by_cases h3:¬s.length=3
 ·rw[show((s.length:aA) !=3)=ak by simp;omega,aM h3];rfl
 have h3:s.length=3:=Decidable.not_not.1 h3;rw[show((s.length:aA) !=3)=aq by simp;omega,aJ h3,aC,eM];cases h4:decide (0<=a/\a<=63)with
 |false=>rfl
 |true=>
  rw[ba,aC,bj,bj];have inner:∀i (h:i<s.length) (K0 K1:aY->aA->aA->aX->aA->aD aY) (kf kt:aD aY) (h0:∀j:aA,K0 aq i j (rr s) a=kf) (h1:∀j:aA,K1 aq i j (rr s) a=kt),l9 Lib.c7 K0 K1 Lib.c7 aq (i:aA) 0 (rr s) a=bif(s[i]).all LL then kt else kf:=λi h K0 K1 kf kt h0 h1=>
   oH (s[i]) LL (λm (j:aG)=>l9 Lib.c7 K0 K1 m aq (i:aA) (j:aA) (rr s) a) kf kt
    (λm j hj hp=>by have hl:=hf.2 _ (bD h);unfold LL at hp;simp only[l9,r9,gu,Lib.dB,h,aR,Lib.cR,aP,ay,Lib.eB,Iq h,ju,Lib.gW,hj,Oh hj,bY,eM,hp,ba,aC,Lib.db hj (by omega:s[i].length<=9223372036854775807)])
    (λm j hj hp=>by unfold LL at hp;simp only[l9,r9,gu,Lib.dB,h,aR,Lib.cR,aP,ay,Lib.eB,Iq h,ju,Lib.gW,hj,Oh hj,bY,eM,hp,bX,h0])
    (λm=>by simp only[l9,r9,gu,Lib.dB,h,aR,Lib.cR,aP,ay,Lib.eB,Iq h,ju,Lib.gW,bu,bm,aC,h1]) Lib.c7 (cT (by have:=hf.2 _ (bD h);omega))
  have key:=oH s rH (λm (i:aG)=>l4 Lib.c7 (λ(Ca:aY) (_:aA) (_:aX) (_:aA)=>aj Ca) (λ(_:aY) (_:aA) (_:aX) (_:aA)=>aj ak) m aq (i:aA) (rr s) a) (aj aq) (aj ak)
   (λm i h hp=>by unfold rH at hp;rw[aK]at hp;have hl:=b9 hp.1;simp only[l4,r4,gu,Lib.dB,h,aR,Lib.cR,aP,ay,Lib.eB,Iq h,ju,Lib.gW,hl,show(((16:aG):aA) !=16)=aq from rfl,aC];rw[inner i h _ _ _ _ (λ_=>rfl) (λ_=>rfl),hp.2,ay,Lib.db h (by omega)])
   (λm i h hp=>by
    unfold rH at hp;by_cases hl:s[i].length=16
    ·rw[aJ hl,bj]at hp;simp only[l4,r4,gu,Lib.dB,h,aR,Lib.cR,aP,ay,Lib.eB,Iq h,ju,Lib.gW,hl,show(((16:aG):aA) !=16)=aq from rfl,aC];rw[inner i h _ _ _ _ (λ_=>rfl) (λ_=>rfl),hp,aC]
    ·simp only[l4,r4,gu,Lib.dB,h,aR,Lib.cR,aP,ay,Lib.eB,Iq h,ju,Lib.gW,show((s[i].length:aA) !=16)=ak by simp;omega])
   (λm=>by simp only[l4,r4,gu,Lib.dB,bu,bm,aC]) Lib.c7 (cT (by omega))
  refine key.trans ?_;cases s.all rH<;>rfl
end fg

namespace jj
open Lib (rr rs)
open eS (has without gk jP)
def ej(k:au):aY:=decide (1<=(k.size:aA)/\(k.size:aA)<=30)
def JF(l:az au)(i:aG):aY:=ej (l.getD i ⟨#[]⟩)&& !has (l.take i) (l.getD i ⟨#[]⟩)
def mP(l:az au):aY:=(cM l.length).all (JF l)
def rU(w m:az au)(s:az (az aA))(a:aA):aY:=mP (w++m)&&(decide (w.length<=2)&&(decide (m.length<=4)&&fg.nH s a))
theorem iu(k:au):Gx.v k=ej k:=fg.eM _ _ _
theorem wz(l:az au)(i:aG):eP (Lib.rs l) (bc 0) i=Lib.rs (l.take i):=by unfold eP Lib.rs;rw[show bc 0=0 from rfl,fm,uF,List.map_take]
theorem ok(w m:az au)(s:az (az aA))(a:aA)(hw:w.length<=1048576)(hm:m.length<=1048576)(hf:iV.n6 s):c (rs w) (rs m) (rr s) a=ak/\v (rs w) (rs m) (rr s) a=rU w m s a:=by
 refine out _ _ _ _ ?_;have h2:=fg.ok s a hf;unfold vo b;have r1:cJ (bW (aT [Ck.s] 0)+bW (rs w)) 16=true:=Lib.cy (by simp[aT,eE];omega) (by simp[aT,eE];omega);have r2:cJ (bW (aT [Ck.s] 0++rs w)+bW (rs m)) 16=true:=Lib.cy (by simp[aT,eE];omega) (by simp[aT,eE];omega);have e:aT [Ck.s] 0++rs w++rs m=rs (w++m):=by rw[show aT [Ck.s] 0++rs w=rs w from rfl];unfold Lib.rs;rw[dh]
 rw[r1,r2,ay,ay,e];have hl:(w++m).length<=2097152:=by rw[bO];omega
 have gO:∀i,i<(w++m).length->eS.c (rs ((w++m).take i)) ((w++m).getD i ⟨#[]⟩)=ak/\eS.v (rs ((w++m).take i)) ((w++m).getD i ⟨#[]⟩)=has ((w++m).take i) ((w++m).getD i ⟨#[]⟩):=λi hi=>eS.ok _ _ (by rw[eg];omega);have hk:∀i (hi:i<(w++m).length),bQ (aw (rs (w++m)) i 0)=(w++m).getD i ⟨#[]⟩:=λi hi=>by rw[TW hi,show(w++m).getD i ⟨#[]⟩=(w++m)[i]by rw[cK,eD hi];rfl];rfl
 generalize hL:w++m=L at hl gO hk
 have key:=jS (JF L) L.length (λn (i:aG)=>l3 Lib.c7 (λ(y7:aY) (_:aA) (_ _ _:aX) (_:aA) (_:aX)=>aj y7) (λ(_:aY) (_:aA) (Tq FN FP:aX) (Ca:aA) (_:aX)=>bif(decide ((↑(bW Tq):aA)<=2))then(bif(decide ((↑(bW FN):aA)<=4))then(bif(fg.c FP Ca)then(aj (fg.v FP Ca))else(ao))else(aj aq))else(aj aq)) n aq (i:aA) (rs w) (rs m) (rr s) a (rs L)) (aj aq) (aj (decide (w.length<=2)&&(decide (m.length<=4)&&fg.nH s a)))
  (λn i hi hp=>by
   unfold JF at hp;rw[aK,dD]at hp;have b1:iO 0 (i:aA) (L.length:aA)=true:=by simp[iO];omega
   simp only[l3,r3,eE,Lib.dB,hi,aR,Lib.cR,aP,ay,Lib.eB,hk i hi,iu,hp.1,ba,aC,b1,wz,(gO i hi).1,(gO i hi).2,hp.2,Lib.db hi (by omega:L.length<=9223372036854775807)])
  (λn i hi hp=>by
   have b1:iO 0 (i:aA) (L.length:aA)=true:=by simp[iO];omega
   unfold JF at hp;cases h1:ej (L.getD i ⟨#[]⟩)with
   |false=>simp only[l3,r3,eE,Lib.dB,hi,aR,Lib.cR,aP,ay,Lib.eB,hk i hi,iu,h1,bX]
   |true=>rw[h1,bj,me]at hp;simp only[l3,r3,eE,Lib.dB,hi,aR,Lib.cR,aP,ay,Lib.eB,hk i hi,iu,h1,ba,aC,b1,wz,(gO i hi).1,(gO i hi).2,hp])
  (λn=>by simp only[l3,r3,eE,Lib.dB,bu,bm,aC,h2.1,h2.2,ay];rw[show decide ((w.length:aA)<=2)=decide (w.length<=2)by rw[ch];omega,show decide ((m.length:aA)<=4)=decide (m.length<=4)by rw[ch];omega];cases decide (w.length<=2)<;>cases decide (m.length<=4)<;>rfl) Lib.c7 (cT (by omega))
 refine key.trans ?_;unfold rU mP;rw[hL];cases (cM L.length).all (JF L)<;>rfl
end jj

namespace sa
open Lib (rr rs)
open eS (has)
theorem ok(w m:az au)(s:aX)(a:aA)(k:au)(hw:w.length<=1048576)(hm:m.length<=1048576):c (rs w) (rs m) s a k=ak/\v (rs w) (rs m) s a k=(has w k||has m k):=by have h1:=eS.ok w k (by omega);have h2:=eS.ok m k (by omega);exact out _ _ _ _ _ (by unfold vo b;rw[h1.1,h1.2,h2.1,h2.2,ay,ay];cases has w k<;>rfl)
end sa

namespace m8
open Lib (rr rs re el qz tY tZ t_ En)
open eS (has)
open jj (rU)
def tU(e:En):aY:=iL.v e.k e.st e.li e.bo
def F9(en:az En)(w m:az au)(i:aG):aY:=
 tU (el en i)&&((decide (i=0)||Go.Op.bytesLess (aL (el en (i-1)).k) (aL (el en i).k))&&(has w (el en i).k||has m (el en i).k))
def Lc(en:az En)(w m:az au)(s:az (az aA))(a:aA):aY:=(cM en.length).all (F9 en w m)&&(rU w m s a&&decide (w.length+m.length=en.length))
theorem ok(i0:aA)(en:az En)(w m:az au)(s:az (az aA))(a:aA)(r6 r7:aX)(i8:aA)(he:en.length<=1048576)(hw:w.length<=1048576)(hm:m.length<=1048576)(hf:iV.n6 s):
  c i0 (re en) (rs w) (rs m) (rr s) a r6 r7 i8=ak/\v i0 (re en) (rs w) (rs m) (rr s) a r6 r7 i8=Lc en w m s a:=by
 refine out _ _ _ _ _ _ _ _ _ ?_;have h1:=jj.ok w m s a hw hm hf;have h2:=λk=>sa.ok w m (rr s) a k hw hm;unfold vo b
 have key:=jS (F9 en w m) en.length (λn (i:aG)=>l2 Lib.c7 (λ(yE:aY) (_ _:aA) (_ _ _ _:aX) (_:aA) (_ _:aX) (_:aA)=>aj yE) (λ(_:aY) (_ _:aA) (Ol On Gi Oo:aX) (Oq:aA) (_ _:aX) (_:aA)=>bif(jj.c On Gi Oo Oq)then(bif(jj.v On Gi Oo Oq)then(aj (decide ((↑(bW Ol):aA)=bM ((↑(bW On):aA)+(↑(bW Gi):aA)))))else(aj aq))else(ao)) n aq (i:aA) i0 (re en) (rs w) (rs m) (rr s) a r6 r7 i8) (aj aq) (aj (rU w m s a&&decide (w.length+m.length=en.length)))
  (λn i hi hp=>by
   unfold F9 tU at hp;rw[aK,aK]at hp;obtain⟨p1,p2,p3⟩:=hp;by_cases hz:i=0
   ·subst hz;simp only[l2,r2,dQ,Lib.dB,hi,aR,Lib.cR,aP,ay,Lib.eB,qz hi,tY hi,tZ hi,t_ hi,bQ,bY,p1,ba,aC,aM (show¬(((0:aG):aA)>0)by omega),(h2 _).1,(h2 _).2,p3,Lib.db hi (by omega:en.length<=9223372036854775807)]
   ·rw[aM hz,nK]at p2;have lL:i-1<en.length:=by omega
    simp only[l2,r2,dQ,Lib.dB,hi,aR,Lib.cR,aP,ay,Lib.eB,qz hi,tY hi,tZ hi,t_ hi,bQ,bY,p1,ba,aC,aJ (show(i:aA)>0 by omega),lx (show 0<i by omega) (by omega),lL,qz lL,p2,(h2 _).1,(h2 _).2,p3,Lib.db hi (by omega:en.length<=9223372036854775807)])
  (λn i hi hp=>by
   unfold F9 tU at hp;cases p1:iL.v (el en i).k (el en i).st (el en i).li (el en i).bo with
   |false=>simp only[l2,r2,dQ,Lib.dB,hi,aR,Lib.cR,aP,ay,Lib.eB,qz hi,tY hi,tZ hi,t_ hi,bQ,bY,p1,bX]
   |true=>
    rw[p1,bj]at hp;by_cases hz:i=0
    ·subst hz;rw[aJ rfl,ze,bj]at hp;simp only[l2,r2,dQ,Lib.dB,hi,aR,Lib.cR,aP,ay,Lib.eB,qz hi,tY hi,tZ hi,t_ hi,bQ,bY,p1,ba,bX,aC,aM (show¬(((0:aG):aA)>0)by omega),(h2 _).1,(h2 _).2,hp]
    ·rw[aM hz,nK]at hp;have lL:i-1<en.length:=by omega
     cases p2:cf (aL (el en (i-1)).k) (aL (el en i).k)with
     |false=>simp only[l2,r2,dQ,Lib.dB,hi,aR,Lib.cR,aP,ay,Lib.eB,qz hi,tY hi,tZ hi,t_ hi,bQ,bY,p1,ba,bX,aC,aJ (show(i:aA)>0 by omega),lx (show 0<i by omega) (by omega),lL,qz lL,p2]
     |true=>rw[p2,bj]at hp;simp only[l2,r2,dQ,Lib.dB,hi,aR,Lib.cR,aP,ay,Lib.eB,qz hi,tY hi,tZ hi,t_ hi,bQ,bY,p1,ba,bX,aC,aJ (show(i:aA)>0 by omega),lx (show 0<i by omega) (by omega),lL,qz lL,p2,(h2 _).1,(h2 _).2,hp])
  (λn=>by simp only[l2,r2,dQ,Lib.dB,bu,bm,aC,h1.1,h1.2,ay,eE];rw[dc (x:=(w.length:aA)+(m.length:aA)) (by omega) (by omega),show decide ((en.length:aA)=(w.length:aA)+(m.length:aA))=decide (w.length+m.length=en.length)by rw[ch];omega];cases rU w m s a<;>rfl) Lib.c7 (cT (by omega))
 refine key.trans ?_;unfold Lc;cases (cM en.length).all (F9 en w m)<;>rfl
end m8

namespace m9
open Lib (rf el Ib Ge W4 yD TX TY Fe)
open jj (ej)
def nt(now:aA)(f:Fe):aY:=ej f.k&&(decide ((f.t.size:aA)<=400)&&(decide (1<=f.sta/\f.sta<=3)&&(decide (0<=f.li/\f.li<=999999)&&decide (0<=f.st/\f.st<=now))))
def lW(f g:Fe):aY:=decide (f.sta=1)&&(decide (g.sta=1)&&decide (f.k=g.k))
def apart(fe:az Fe)(i:aG):aY:=(cM i).all λj=> !lW (el fe i) (el fe j)
theorem eM(n a b:aA):kG.v n a b=decide (a<=n/\n<=b):=fg.eM n a b
theorem ok(i0:aA)(r1 r2 r3 r4:aX)(i5:aA)(fe:az Fe)(r7:aX)(i8:aA)(i:aG)(hi:i<fe.length)(hf:fe.length<=1048576):
  c i0 r1 r2 r3 r4 i5 (rf fe) r7 i8 (i:aA)=ak/\v i0 r1 r2 r3 r4 i5 (rf fe) r7 i8 (i:aA)=(nt i0 (el fe i)&&apart fe i):=by
 refine out _ _ _ _ _ _ _ _ _ _ ?_;unfold vo b
 have key:=jS (λj=> !lW (el fe i) (el fe j)) i (λn (j:aG)=>l5 Lib.c7 (λ(_:aA) (FP:aY) (_ _:aA) (_ _ _ _:aX) (_:aA) (_ _:aX) (_:aA) (_ _:au) (_ _ _:aA)=>aj FP) (λ(_:aA) (_:aY) (_ _:aA) (_ _ _ _:aX) (_:aA) (_ _:aX) (_:aA) (_ _:au) (_ _ _:aA)=>aj ak) n (i:aA) aq (j:aA) i0 r1 r2 r3 r4 i5 (rf fe) r7 i8 (el fe i).k (el fe i).t (el fe i).sta (el fe i).li (el fe i).st) (aj aq) (aj ak)
  (λn j hj hp=>by
   have jC:j<fe.length:=by omega
   rw[dD]at hp;unfold lW at hp;have e:decide ((el fe j).k=(el fe i).k)=decide ((el fe i).k=(el fe j).k):=by rw[ch];exact G1
   simp only[l5,r5,Lib.dB,hj,aR,Lib.cR,aP,ay,Lib.eB,dI,jC,Ib jC,yD jC,bQ,bY,Lib.fA,e,Lib.db hj (by omega:i<=9223372036854775807)];revert hp;cases decide ((el fe i).k=(el fe j).k)<;>cases decide ((el fe j).sta=1)<;>cases decide ((el fe i).sta=1)<;>intro hp<;>first|rfl|cases hp)
  (λn j hj hp=>by
   have jC:j<fe.length:=by omega
   rw[me]at hp;unfold lW at hp;rw[aK,aK]at hp;have e:decide ((el fe j).k=(el fe i).k)=decide ((el fe i).k=(el fe j).k):=by rw[ch];exact G1
   simp only[l5,r5,Lib.dB,hj,aR,Lib.cR,aP,ay,Lib.eB,dI,jC,Ib jC,yD jC,bQ,bY,Lib.fA,e,hp.1,hp.2.1,hp.2.2])
  (λn=>by simp only[l5,r5,Lib.dB,bu,bm,aC]) Lib.c7 (cT (by omega))
 simp only[dI,Lib.dB,hi,aR,Lib.cR,aP,ay,Lib.eB,Ib hi,Ge hi,W4 hi,TX hi,TY hi,bQ,bY,eM,jj.iu];rw[show l5 Lib.c7 _ _ Lib.c7 (i:aA) aq 0 i0 r1 r2 r3 r4 i5 (rf fe) r7 i8 (el fe i).k (el fe i).t (el fe i).sta (el fe i).li (el fe i).st=_ from key];unfold nt apart;rw[show decide (((el fe i).t.size:aA)>400)= !decide (((el fe i).t.size:aA)<=400)by rw[<-decide_not,ch];omega];cases ej (el fe i).k<;>cases decide (((el fe i).t.size:aA)<=400)<;>cases decide (1<=(el fe i).sta/\(el fe i).sta<=3)<;>cases decide (0<=(el fe i).li/\(el fe i).li<=999999)<;>cases decide (0<=(el fe i).st/\(el fe i).st<=i0)<;>cases (cM i).all (λj=> !lW (el fe i) (el fe j))<;>rfl
end m9

namespace p8
open Lib (rr rs re rf rc el En Fe Cl Px Ko Th Ti Tj Tk Tl Tm)
open jj (ej)
open m8 (Lc)
open m9 (nt apart eM)
def F7(now:aA)(nf:aG)(cl:az Cl)(i:aG):aY:=
 decide (1<=(el cl i).id/\(el cl i).id<=9)&&((decide (i=0)||decide ((el cl (i-1)).id<(el cl i).id))&&(ej (el cl i).k&&(decide (1<=(el cl i).sta/\(el cl i).sta<=3)&&(decide (0<=(el cl i).fe/\(el cl i).fe<=(nf:aA))&&(decide (((el cl i).got.size:aA)<=400)&&(decide (0<=(el cl i).fr/\(el cl i).fr<=now)&&decide (0<=(el cl i).age)))))))
def iX(p:Px):aY:=
 decide (1<=p.now/\p.now<=1000000000)&&(Lc p.en p.w p.m p.s p.a&&(decide (p.fe.length<=20)&&(decide (p.cl.length<=6)&&(decide (0<=p.hits/\p.hits<=1000000000)&&((cM p.fe.length).all (λi=>nt p.now (el p.fe i)&&apart p.fe i)&&(cM p.cl.length).all (F7 p.now p.fe.length p.cl))))))
theorem step(N:aG)(g k0 k1:aY->aA->aA->aX->aX->aX->aX->aA->aX->aX->aA->aD R)(i0:aA)(q1 q2 q3 q4:aX)(i5:aA)(fe:az Fe)(cl:az Cl)(i8:aA)(i:aG)(hi:i<cl.length)(hl:cl.length<=1048576):
  r9 N g k0 k1 aq (i:aA) i0 q1 q2 q3 q4 i5 (rf fe) (rc cl) i8=bif F7 i0 fe.length cl i then g aq ((i+1:aG):aA) i0 q1 q2 q3 q4 i5 (rf fe) (rc cl) i8 else k0 aq (i:aA) i0 q1 q2 q3 q4 i5 (rf fe) (rc cl) i8:=by
 unfold F7;have e1:decide (((el cl i).got.size:aA)>400)= !decide (((el cl i).got.size:aA)<=400):=by rw[<-decide_not,ch];omega
 have e2:decide ((el cl i).age<0)= !decide (0<=(el cl i).age):=by rw[<-decide_not,ch];omega
 by_cases hz:i=0
 ·subst hz;simp only[r9,eN,dI,Lib.dB,hi,aR,Lib.cR,aP,ay,Lib.eB,Ko hi,Th hi,Ti hi,Tj hi,Tk hi,Tl hi,Tm hi,bQ,bY,eM,jj.iu,aM (show¬(((0:aG):aA)>0)by omega),aC,e1,e2,Lib.db hi (by omega:cl.length<=9223372036854775807),ze,bj];cases decide (1<=(el cl 0).id/\(el cl 0).id<=9)<;>cases ej (el cl 0).k<;>cases decide (1<=(el cl 0).sta/\(el cl 0).sta<=3)<;>cases decide (0<=(el cl 0).fe/\(el cl 0).fe<=(fe.length:aA))<;>cases decide (((el cl 0).got.size:aA)<=400)<;>cases decide (0<=(el cl 0).fr/\(el cl 0).fr<=i0)<;>cases decide (0<=(el cl 0).age)<;>rfl
 ·have lL:i-1<cl.length:=by omega
  have e3:decide ((el cl (i-1)).id≥(el cl i).id)= !decide ((el cl (i-1)).id<(el cl i).id):=by rw[<-decide_not,ch];omega
  simp only[r9,eN,dI,Lib.dB,hi,aR,Lib.cR,aP,ay,Lib.eB,Ko hi,Th hi,Ti hi,Tj hi,Tk hi,Tl hi,Tm hi,bQ,bY,eM,jj.iu,aJ (show(i:aA)>0 by omega),lx (show 0<i by omega) (by omega),lL,Ko lL,aC,e1,e2,e3,Lib.db hi (by omega:cl.length<=9223372036854775807),aM hz,nK];cases decide (1<=(el cl i).id/\(el cl i).id<=9)<;>cases decide ((el cl (i-1)).id<(el cl i).id)<;>cases ej (el cl i).k<;>cases decide (1<=(el cl i).sta/\(el cl i).sta<=3)<;>cases decide (0<=(el cl i).fe/\(el cl i).fe<=(fe.length:aA))<;>cases decide (((el cl i).got.size:aA)<=400)<;>cases decide (0<=(el cl i).fr/\(el cl i).fr<=i0)<;>cases decide (0<=(el cl i).age)<;>rfl
theorem ok(p:Px)(hp:p.Fit 1048576):c p.now (re p.en) (rs p.w) (rs p.m) (rr p.s) p.a (rf p.fe) (rc p.cl) p.hits=ak/\v p.now (re p.en) (rs p.w) (rs p.m) (rr p.s) p.a (rf p.fe) (rc p.cl) p.hits=iX p:=by
 refine out _ _ _ _ _ _ _ _ _ ?_;have h1:=m8.ok p.now p.en p.w p.m p.s p.a (rf p.fe) (rc p.cl) p.hits hp.en hp.w hp.m ⟨hp.s.1,hp.s.2.1⟩;have Il:=hp.fe;have nh:=hp.cl;unfold vo b;have h2:=λi hi=>m9.ok p.now (re p.en) (rs p.w) (rs p.m) (rr p.s) p.a p.fe (rc p.cl) p.hits i hi Il
 have kc:=λ(n:aG) (hn:p.cl.length<n)=>jS (F7 p.now p.fe.length p.cl) p.cl.length (λn (i:aG)=>l9 Lib.c7 (λ(NY:aY) (_ _:aA) (_ _ _ _:aX) (_:aA) (_ _:aX) (_:aA)=>aj NY) (λ(_:aY) (_ _:aA) (_ _ _ _:aX) (_:aA) (_ _:aX) (_:aA)=>aj ak) n aq (i:aA) p.now (re p.en) (rs p.w) (rs p.m) (rr p.s) p.a (rf p.fe) (rc p.cl) p.hits) (aj aq) (aj ak)
  (λn i hi hq=>by simp only[l9];rw[step _ _ _ _ _ _ _ _ _ _ _ _ _ i hi nh,hq];rfl)
  (λn i hi hq=>by simp only[l9];rw[step _ _ _ _ _ _ _ _ _ _ _ _ _ i hi nh,hq];rfl)
  (λn=>by simp only[l9,r9,eN,Lib.dB,bu,bm,aC]) n hn
 have kf:=jS (λi=>nt p.now (el p.fe i)&&apart p.fe i) p.fe.length (λn (i:aG)=>l4 Lib.c7 (λ(yE:aY) (_ _:aA) (_ _ _ _:aX) (_:aA) (_ _:aX) (_:aA)=>aj yE) (λ(Gh:aY) (_ TZ:aA) (Ol On Gi Oo:aX) (Oq:aA) (Ot Ms:aX) (Kr:aA)=>l9 Lib.c7 (λ(NY:aY) (_ _:aA) (_ _ _ _:aX) (_:aA) (_ _:aX) (_:aA)=>aj NY) (λ(_:aY) (_ _:aA) (_ _ _ _:aX) (_:aA) (_ _:aX) (_:aA)=>aj ak) Lib.c7 Gh 0 TZ Ol On Gi Oo Oq Ot Ms Kr) n aq (i:aA) p.now (re p.en) (rs p.w) (rs p.m) (rr p.s) p.a (rf p.fe) (rc p.cl) p.hits) (aj aq) (aj ((cM p.cl.length).all (F7 p.now p.fe.length p.cl)))
  (λn i hi hq=>by simp only[l4,r4,dI,Lib.dB,hi,aR,ay,(h2 i hi).1,(h2 i hi).2,hq,ba,aC,Lib.db hi (by omega:p.fe.length<=9223372036854775807)])
  (λn i hi hq=>by simp only[l4,r4,dI,Lib.dB,hi,aR,ay,(h2 i hi).1,(h2 i hi).2,hq,bX])
  (λn=>by simp only[l4,r4,dI,Lib.dB,bu,bm,aC];refine(kc Lib.c7 (cT (by omega))).trans ?_;cases (cM p.cl.length).all (F7 p.now p.fe.length p.cl)<;>rfl) Lib.c7 (cT (by omega))
 rw[eM,eM,h1.1,h1.2,ay,dI,eN];rw[show l4 Lib.c7 _ _ Lib.c7 aq 0 p.now (re p.en) (rs p.w) (rs p.m) (rr p.s) p.a (rf p.fe) (rc p.cl) p.hits=_ from kf];unfold iX;rw[show decide ((p.fe.length:aA)>20)= !decide (p.fe.length<=20)by rw[<-decide_not,ch];omega,show decide ((p.cl.length:aA)>6)= !decide (p.cl.length<=6)by rw[<-decide_not,ch];omega];cases decide (1<=p.now/\p.now<=1000000000)<;>cases Lc p.en p.w p.m p.s p.a<;>cases decide (p.fe.length<=20)<;>cases decide (p.cl.length<=6)<;>cases decide (0<=p.hits/\p.hits<=1000000000)<;>cases (cM p.fe.length).all (λi=>nt p.now (el p.fe i)&&apart p.fe i)<;>cases (cM p.cl.length).all (F7 p.now p.fe.length p.cl)<;>rfl
end p8

namespace rW
open Lib (Px Cl Fe En el)
def ec(f:aG)(st:aA)(t:au)(c:Cl):Cl:=bif decide (c.fe=(f:aA)+1)&&decide (c.sta=1)then{c with sta:=st,got:=t}else c
def j7(cl:az Cl)(f:aG)(st:aA)(t:au):az Cl:=cl.map (ec f st t)
theorem kK{α:Type}(l:az α)(g:α->α):l.mapIdx (λ_ c=>g c)=l.map g:=by apply kX<;>simp
end rW

namespace fZ
open Lib (Px Cl Fe En el)
open p8 (iX)
open rW (j7)
def qZ(p:Px)(f:aA):aY:=iX p&&(decide (0<=f/\f<=(p.fe.length:aA)-1)&&decide ((el p.fe f.toNat).sta=1))
def told(p:Px)(f:aG)(g:Fe)(st:aA):Px:={p with fe:=p.fe.set f g,cl:=j7 p.cl f st g.t}
theorem iv{p:Px}{f:aA}(h:qZ p f=ak):∃n:aG,f=(n:aA)/\n<p.fe.length/\iX p=ak/\(el p.fe n).sta=1:=by unfold qZ at h;simp only[aK,bf]at h;obtain⟨h1,h2,h3⟩:=h;exact⟨f.toNat,by omega,by omega,h1,h3⟩
theorem np{p:Px}{n f:aG}{g:Fe}{st:aA}(h:p.Fit n):(told p f g st).Fit n:=by
 refine⟨h.en,h.w,h.m,h.s, ?_, ?_⟩
 ·show(p.fe.set f g).length<=n;rw[cw];exact h.fe
 ·show(j7 p.cl f st g.t).length<=n;unfold rW.j7;rw[bP];exact h.cl
def rA(p:Px)(f:aA):Px×aY:=bif qZ p f then(told p f.toNat {el p.fe f.toNat with sta:=3} 3,ak)else(p,aq)
def rF(p:Px)(f:aA)(t:au):Px×aY:=
 bif qZ p f&&(decide (1<=t.size/\t.size<=40)&&decide ((el p.fe f.toNat).t.size+t.size<=400))then(told p f.toNat {el p.fe f.toNat with t:=(el p.fe f.toNat).t++t} 1,ak)else(p,aq)
theorem iD{l:az Fe}{n:aG}{g:Fe}(h:n<l.length):el (l.set n g) n=g:=by rw[eQ (by rw[cw];exact h),j4]
theorem wm(l:az Fe)(n j:aG)(ys:az CV)(g:Fe)(h:n<l.length)(hs:iF (Fe.row (el l n)) j ys=Fe.row g):eh (Lib.rf l) n j ys=Lib.rf (l.set n g):=by rw[eQ h]at hs;exact ly Fe.row l n j ys g h hs
theorem XX{p:Px}(h:iX p=ak)(i:aG)(hi:i<p.fe.length):m9.nt p.now (el p.fe i)=true:=by unfold p8.iX at h;simp only[aK,bf]at h;obtain⟨_,_,_,_,_,h6,_⟩:=h;rw[bn]at h6;have:=h6 i (by simpa using hi);rw[aK]at this;exact this.1
end fZ

namespace fW
theorem ah6(x:aA):0<=bJ d_ x/\bJ d_ x<4294967296:=by have e:bJ d_ x=x%4294967296:=rfl;rw[e];omega
theorem acA(x:aA):0<=jt.rd x/\jt.rd x<4294967296:=by unfold jt.rd;cases decide (cF x 2=1)<;>exact ah6 _
theorem LX:∀(n:aG) (x:aA),0<=x/\x<4294967296->0<=jt.mX n x/\jt.mX n x<4294967296
 |0,_,h=>h
 |n+1,x,_=>LX n _ (acA x)
theorem S_(t:au):∀(d i:aG) (s:aA),0<=s/\s<4294967296->0<=jt.su t d i s/\jt.su t d i s<4294967296
 |0,_,_,h=>h
 |d+1,i,s,h=>S_ t d (i+1) _ (LX 8 _ (ah6 _))
def keyed(i:aG)(key:au):au:=key++bytesOf [[CV.i bk (i:aA)]]
def sm(i:aG)(key:au):aA:=jt.su (keyed i key) (keyed i key).size 0 4294967295
def pl(i:aG)(key:au):aG:=(cF (sm i key) 16).toNat
theorem Ka(i:aG)(key:au):0<=sm i key/\sm i key<4294967296:=S_ _ _ _ _ (by omega)
theorem pl_int(i:aG)(key:au):cF (sm i key) 16=(pl i key:aA):=by have:=Ka i key;have h:0<=cF (sm i key) 16:=Uf _ this.1;unfold pl;omega
theorem BA(i:aG)(key:au):pl i key<16:=by have:=Ka i key;have h:=Int.tmod_lt_of_pos (sm i key) (show(0:aA)<16 by omega);have h2:0<=cF (sm i key) 16:=Uf _ this.1;unfold pl;omega
theorem BL(i:aG)(key:au):(keyed i key).size=key.size+1:=by unfold keyed;rw[dz,BK]
theorem ok(i:aG)(key:au)(hi:i<3)(hk:key.size<=140737488355328):c (i:aA) key=ak/\v (i:aA) key=(pl i key:aA):=by
 refine out _ _ ?_;unfold vo b;have e:(key++bytesOf (aE (aT [Ck.i bk] 1) 0 [CV.i bk (bJ bk (i:aA))]))=keyed i key:=by
  unfold keyed;match i,hi with
  |0,_=>rfl
  |1,_=>rfl
  |2,_=>rfl
 have hs:=BL i key;have h:=uL.ok (keyed i key) (by omega);have e2:gh key+gh (bytesOf (aE (aT [Ck.i bk] 1) 0 [CV.i bk (bJ bk (i:aA))]))=key.size+1:=by rw[pe,BK]
 rw[e2,e,aJ (by omega),ay,h.1,h.2,ay];have hp:=pl_int i key;have hl:=BA i key;unfold sm at hp;rw[hp,dc (by omega) (by omega)]
end fW

namespace nz
open Lib (rr)
theorem run(N:aG)(K0:aA->aX->aA->aA->aA->aD R)(K1:aA->aX->aA->aA->aA->aX->aD R)(s:az (az aA))(z y a:aA)(hf:iV.n6 s)(m:aG)(hm:s.length+1<m)(kr:aX->aD R)
  (h0:s=[]->K0 0 (rr s) z y a=kr []) (h1:K1 s.length (rr s) z y a (rr s)=kr (rr s)):l3 N K0 K1 m 0 (rr s) z y a=kr (rr s):=by
 obtain⟨m,rfl⟩:∃m',m=m'+1:=⟨m-1,by omega⟩
 have hz:∀q:aX,aT [Ck.i ar] 0++q=q:=λq=>rfl;have hci:∀i (h:i<s.length),cJ (bW (aT [Ck.i ar] 0)+bW (Lib.ri s[i])) 8=true:=λi h=>by have:=hf.2 _ (bD h);exact Lib.cy (by rw[Lib.gW];simp[aT];omega) (by rw[Lib.gW];simp[aT];omega)
 by_cases hs:s=[]
 ·subst hs;simp only[l3,r3,gu,jr,TD,Int.lt_irrefl,bm,aC];exact h0 rfl
 ·have hp:0<s.length:=KI.2 hs;have key:=mn (R:=R) s.length (λm i (x:aX)=>tW N K0 K1 m (i:aA) (rr s) z y a x) (λi=>rr (s.take i)) (kr (rr s)) (λm i h=>by
   have hl:=hf.1;simp only[tW,z7,gu,Lib.dB,h,aR,ay,Lib.cR,bj,Lib.eB,Iq h,ju,hci i h,hz,pe,bw];rw[Lib.cy (by rw[eg];omega) (by rw[eg];omega),ay,Lib.db h (by omega)];have:=ou (λq=>[CV.l 3 (Lib.ri q)]) s i h;unfold rr;rw[<-this]) (λm=>by
   simp only[tW,z7,gu,Lib.dB,bu,bm,aC,fD];exact h1) m 1 hp (by omega)
  have e:=hci 0 hp;have e0:=Iq (l:=s) hp;simp only[l3,r3,aJ (show(0:aA)<(s.length:aA)by omega),ay,aP,gu,show decide ((0:aA)<=0)=ak from rfl,show bc 0=0 from rfl,e0,ju,e,hz,ay,pe,gg];rw[show bM (0+1)=((1:aG):aA)from rfl];refine Eq.trans ?_ key;have:=ou (λq=>[CV.l 3 (Lib.ri q)]) s 0 hp;unfold rr;rw[show(0+1)=1 from rfl]at this;rw[<-this];rfl
theorem ok(s:az (az aA))(a:aA)(hf:iV.n6 s):c (rr s) a=ak/\v (rr s) a=(rr s,a):=by refine out _ _ ?_;unfold vo b;exact run Lib.c7 (λ_ _ _ _ y=>aj ([],y)) (λ_ _ _ _ tD Gg=>aj (Gg,tD)) s a 0 a hf Lib.c7 (cT (by have:=hf.1;omega)) (λx=>aj (x,a)) (λ_=>rfl) rfl
end nz

namespace fG
open Lib (rr ri)
def bq(p:aG)(q:az aA):az aA:=q.set p (bif decide (q.getD p 0<15)then q.getD p 0+1 else q.getD p 0)
def Cr(s:az (az aA))(key:au):az (az aA):=s.mapIdx λi q=>bq (fW.pl i key) q
def half(s:az (az aA)):az (az aA):=s.map λq=>q.map λn=>cS n 2
def val(s:az (az aA))(a:aA)(key:au):az (az aA)×aA:=
 bif fg.nH s a then(bif decide (a+1=64)then(half (Cr s key),0)else(Cr s key,a+1))else(s,a)
def fR(q:az aA):az CV:=[CV.l 3 (ri q)]
theorem NS(q:az aA)(p:aG)(x:aA)(h:p<q.length):eh (ri q) p 0 [CV.i ar x]=ri (q.set p x):=ly (λn=>[CV.i ar n]) q p 0 _ x h rfl
theorem NT(L:az (az aA))(i:aG)(q:az aA)(h:i<L.length):eh (L.map fR) i 0 [CV.l 3 (ri q)]=(L.set i q).map fR:=ly fR L i 0 _ q h rfl
theorem AP(L:az (az aA))(i:aG)(h:i<L.length):aw (L.map fR) i 0=CV.l 3 (ri L[i]):=e8 fR L i 0 h
theorem tp{s:az (az aA)}{a:aA}(h:fg.nH s a=ak):s.length=3/\(0<=a/\a<=63)/\∀q∈s,q.length=16/\∀n∈q,0<=n/\n<=15:=by
 unfold fg.nH at h;rw[aK,aK]at h;refine⟨b9 h.1,b9 h.2.1,λq hq=> ?_⟩
 have:=bn.1 h.2.2 q hq;unfold fg.rH at this;rw[aK]at this;refine⟨b9 this.1,λn hn=> ?_⟩
 have:=bn.1 this.2 n hn;unfold fg.LL at this;exact b9 this
theorem n7{q:az aA}{p:aG}(h:p<q.length):q.getD p 0=q[p]:=by simp[jq,h]
theorem acD(K:au->aA->aA->aA->aX->aD R)(s:az (az aA))(key:au)(y a:aA)(hs:s.length=3)(hq:∀q∈s,q.length=16/\∀n∈q,0<=n/\n<=15)(hk:key.size<=140737488355328):
  l5 Lib.c7 K Lib.c7 key 0 y a (rr s)=K key 3 y a (rr (Cr s key)):=by
 refine(oa fR s (λi q=>bq (fW.pl i key) q) (λm (i:aG) x=>l5 Lib.c7 K m key (i:aA) y a x) (λx=>K key 3 y a x) (λm i L h h2 hL uT=> ?_) (λm L hL=> ?_) Lib.c7 (cT (by omega)))
 ·have hp:=fW.ok i key (by omega) hk;have rD:=fW.BA i key;obtain⟨Ik,hn⟩:=hq _ (bD h);have e0:aw (L.map fR) i 0=CV.l 3 (ri s[i]):=by rw[AP L i h2,uT]
  have hb:fW.pl i key<s[i].length:=by omega
  have hx:=hn _ (bD hb);simp only[l5,r5,bP,Lib.dB,h2,aR,ay,hp.1,hp.2,Lib.cR,aP,Lib.eB,e0,ju,Lib.gW,Ik,rD,Oh hb,bY];unfold bq;rw[n7 hb];cases hd:decide (s[i][fW.pl i key]<15)with
  |true=>have:=b9 hd;rw[ay,ay,dc (x:=s[i][fW.pl i key]+1) (by omega) (by omega),NS _ _ _ hb,NT _ _ _ h2,Lib.db h2 (by omega)]
  |false=>rw[aC,aC,Lib.db h2 (by omega),eT,<-uT,eT]
 ·simp only[l5,r5,bP,Lib.dB,hL,bu,bm,aC,hs];rfl
theorem sg{s:az (az aA)}{key:au}(hs:s.length=3)(hq:∀q∈s,q.length=16/\∀n∈q,0<=n/\n<=15):(Cr s key).length=3/\∀q∈Cr s key,q.length=16/\∀n∈q,0<=n/\n<=15:=by
 unfold Cr;refine⟨by simp[hs],λq hm=> ?_⟩
 obtain⟨i,hi,rfl⟩:=List.mem_mapIdx.1 hm;obtain⟨Ik,hn⟩:=hq _ (bD hi);unfold bq;have hb:fW.pl i key<s[i].length:=by have:=fW.BA i key;omega
 refine⟨by rw[cw];exact Ik,λn h=> ?_⟩
 rcases gT h with h|h
 ·exact hn n h
 ·rw[n7 hb]at h;have hx:=hn _ (bD hb);rw[h];cases hd:decide (s[i][fW.pl i key]<15)with
  |true=>have:=b9 hd;rw[ay];omega
  |false=>rw[aC];exact hx
theorem ahj(K:aA->aA->aA->aA->aX->aD R)(L:az (az aA))(i:aG)(h:i<L.length)(y a:aA)(hl:L.length<=1048576)(hq:L[i].length=16)(hn:∀n∈L[i],0<=n/\n<=15):
  l17 Lib.c7 K Lib.c7 (i:aA) 0 y a (L.map fR)=K i 16 y a ((L.set i (L[i].map λn=>cS n 2)).map fR):=by
 have X8:L[i].mapIdx (λ_ n=>cS n 2)=L[i].map λn=>cS n 2:=by apply kX<;>simp
 have key:=mn (L[i].length) (λm (k:aG) x=>l17 Lib.c7 K m (i:aA) (k:aA) y a x) (λk=>(L.set i (nI L[i] (λ_ n=>cS n 2) k)).map fR) (K i 16 y a ((L.set i (L[i].map λn=>cS n 2)).map fR)) (λm k hk=> ?_) (λm=> ?_) Lib.c7 0 (bK _) (cT (by omega))
 ·rw[BR,eT]at key;exact key
 ·have hu:=qt L[i] (λ_ n=>cS n 2) k (by omega);generalize hU:nI L[i] (λ_ n=>cS n 2) k=U at hu;have hku:k<U.length:=by omega
  have fS:U[k]=L[i][k]:=by subst hU;exact wy _ _ _ hk _
  have abG:U.set k (cS L[i][k] 2)=nI L[i] (λ_ n=>cS n 2) (k+1):=by subst hU;exact sQ L[i] (λ_ n=>cS n 2) k hk
  have h2:i<(L.set i U).length:=by simpa using h
  have e0:aw ((L.set i U).map fR) i 0=CV.l 3 (ri U):=by rw[AP _ _ h2,j4]
  have hx:=hn _ (bD hk);have ht:0<=cS L[i][k] 2:=Ue hx.1 (by omega);have E8:cS L[i][k] 2<=15:=yK (TE _ hx.1) hx.2;simp only[l17,r17,bP,cw,Lib.dB,h,hku,aR,ay,Lib.cR,aP,Lib.eB,e0,ju,Lib.gW,Oh hku,bY,fS];rw[dc (x:=cS L[i][k] 2) (by omega) (by omega),NS _ _ _ hku,NT _ _ _ h2,abG,o7,Lib.db hk (by omega)]
 ·have e0:aw ((L.set i (nI L[i] (λ_ n=>cS n 2) L[i].length)).map fR) i 0=CV.l 3 (ri (L[i].map λn=>cS n 2)):=by rw[AP _ _ (by simpa using h),j4,qs,X8]
  simp only[l17,r17,bP,cw,Lib.dB,h,aR,ay,Lib.cR,aP,Lib.eB,e0,ju,Lib.gW,bu,bm,aC];rw[qs,X8,hq];rfl
theorem ahh(K:aA->aA->aA->aX->aD R)(s:az (az aA))(y a:aA)(hs:s.length=3)(hq:∀q∈s,q.length=16/\∀n∈q,0<=n/\n<=15):
  l14 Lib.c7 K Lib.c7 0 y a (rr s)=K 3 y a (rr (half s)):=by
 have X8:s.mapIdx (λ_ q=>q.map λn=>cS n 2)=half s:=by unfold half;apply kX<;>simp
 rw[<-X8];refine(oa fR s (λ_ q=>q.map λn=>cS n 2) (λm (i:aG) x=>l14 Lib.c7 K m (i:aA) y a x) (λx=>K 3 y a x) (λm i L h h2 hL uT=> ?_) (λm L hL=> ?_) Lib.c7 (cT (by omega)))
 ·obtain⟨Ik,hn⟩:=hq _ (bD h);simp only[l14,r14,bP,Lib.dB,h2,aR,ay];rw[ahj _ L i h2 y a (by omega) (by rw[uT];exact Ik) (by rw[uT];exact hn),Lib.db h2 (by omega),uT]
 ·simp only[l14,r14,bP,Lib.dB,hL,bu,bm,aC,hs];rfl
theorem ok(s:az (az aA))(a:aA)(key:au)(hf:iV.n6 s)(hk:key.size<=140737488355328):c (rr s) a key=ak/\v (rr s) a key=(rr (val s a key).1,(val s a key).2):=by
 refine out _ _ _ ?_;have h1:=nz.ok s a hf;have h2:=fg.ok s a hf;unfold vo b val;rw[h1.1,h1.2,h2.1,h2.2,ay,ay];cases b8:fg.nH s a with
 |false=>rfl
 |true=>
  obtain⟨hs,ha,hq⟩:=tp b8;obtain⟨b1,b2⟩:=sg (key:=key) hs hq;rw[ba,aC,ay,acD _ s key _ _ hs hq hk,dc (x:=a+1) (by omega) (by omega)];cases hd:decide (a+1=64)with
  |false=>rfl
  |true=>rw[ay,ay,ahh _ _ _ _ b1 b2]
end fG

namespace lY
open Lib (rr ri)
def gs(key:au):aG->az (az aA)->aA->aA
 |_,[],x=>x
 |i,q::r,x=>gs key (i+1) r (bif decide (q.getD (fW.pl i key) 0<x)then q.getD (fW.pl i key) 0 else x)
def val(s:az (az aA))(a:aA)(key:au):aA:=bif fg.nH s a then gs key 0 s 15 else 0
theorem E1(key:au)(s:az (az aA))(i:aG)(h:i<s.length)(x:aA):gs key i (s.drop i) x=gs key (i+1) (s.drop (i+1)) (bif decide (s[i].getD (fW.pl i key) 0<x)then s[i].getD (fW.pl i key) 0 else x):=by rw[dG h];rfl
theorem ok(s:az (az aA))(a:aA)(key:au)(hf:iV.n6 s)(hk:key.size<=140737488355328):c (rr s) a key=ak/\v (rr s) a key=val s a key:=by
 refine out _ _ _ ?_;have h2:=fg.ok s a hf;unfold vo b val;rw[h2.1,h2.2,ay];cases b8:fg.nH s a with
 |false=>rfl
 |true=>
  obtain⟨hs,ha,hq⟩:=fG.tp b8;rw[ba,aC,ay];have:=Lib.ij (λm (t:aG×aA)=>l5 Lib.c7 (λ(_:au) (y6 _:aA) (_:aX) (_:aA)=>aj y6) m key t.2 (t.1:aA) (rr s) a) (λt=>s.length-t.1) (λt=>t.1<=s.length) (λt=>aj (gs key t.1 (s.drop t.1) t.2)) (λm t ht=>by
   obtain⟨i,x⟩:=t;dsimp only at ht⊢;by_cases h:i<s.length
   ·right;have hp:=fW.ok i key (by omega) hk;have rD:=fW.BA i key;obtain⟨Ik,hn⟩:=hq _ (bD h);have hb:fW.pl i key<s[i].length:=by omega
    refine⟨(i+1,bif decide (s[i].getD (fW.pl i key) 0<x)then s[i].getD (fW.pl i key) 0 else x),by dsimp only;omega,by dsimp only;omega,by rw[<-E1 key s i h x], ?_⟩
    simp only[l5,r5,gu,Lib.dB,h,aR,ay,hp.1,hp.2,Lib.cR,aP,Lib.eB,Iq h,ju,Lib.gW,Ik,rD,Oh hb,bY,Lib.db h (by omega:s.length<=9223372036854775807)];rw[fG.n7 hb];cases decide (s[i][fW.pl i key]<x)<;>rfl
   ·left;have:i=s.length:=by omega
    subst this;simp only[l5,r5,gu,Lib.dB,bu,bm,aC,dm,gs]) Lib.c7 (0,15) (bK _) (cT (by dsimp only;omega))
  simpa using this
end lY

namespace fN
open Lib (rr rs)
theorem ok(w m:az au)(s:az (az aA))(a:aA)(hw:w.length<=1048576)(hm:m.length<=1048576)(hf:iV.n6 s):c (rs w) (rs m) (rr s) a=ak/\v (rs w) (rs m) (rr s) a=(rs w,rs m,rr s,a):=by have h3:=nz.ok s a hf;have r1:cJ (bW (aT [Ck.s] 0)+bW (rs w)) 16=true:=Lib.cy (by simp[aT,eE];omega) (by simp[aT,eE];omega);have r2:cJ (bW (aT [Ck.s] 0)+bW (rs m)) 16=true:=Lib.cy (by simp[aT,eE];omega) (by simp[aT,eE];omega);exact out _ _ _ _ (by unfold vo b;rw[r1,r2,h3.1,h3.2,ay,ay,ay];rfl)
end fN

namespace oE
theorem ok(l:az au)(k:au)(hl:l.length<=1048576):c (Lib.rs l) k=ak/\v (Lib.rs l) k=Lib.rs (eS.without l k):=by
 refine out _ _ ?_;unfold vo b;have key:=mn l.length (λm (i:aG) (x:aX)=>l3 Lib.c7 (λ(_:aX) (_:au) (_:aA) (y7:aX)=>aj y7) m (Lib.rs l) k (i:aA) x) (λi=>Lib.rs (eS.without (l.take i) k)) (aj (Lib.rs (eS.without l k))) (λm i h=>by
  have hlen:=eS.gX (l:=l.take i) (k:=k);rw[eg]at hlen;simp only[l3,r3,eE,Lib.dB,h,aR,Lib.cR,aP,ay,Lib.eB,TW h,bQ,Lib.fA,pe,bw,Lib.db h (by omega:l.length<=9223372036854775807)];rw[Lib.cy (by omega) (by omega),ay];have e:eS.without (l.take (i+1)) k=eS.without (l.take i) k++(bif !decide (l[i]=k)then [l[i]]else []):=by unfold eS.without;rw[c6 h,iN];cases hd:decide (l[i]=k)<;>simp[hd]
  rw[e];cases hd:decide (l[i]=k)with
  |true=>rw[ba,aC,aC,di]
  |false=>rw[bX,ay,ay];unfold Lib.rs;rw[dh];rfl) (λm=>by
  simp only[l3,r3,eE,Lib.dB,bu,bm,aC,fD]) Lib.c7 0 (bK _) (cT (by omega))
 exact key
end oE

namespace js
open Lib (rr rs)
open eS (has without gk jP ve gX oV)
open jj (ej JF mP rU iu)
def val(w m:az au)(s:az (az aA))(a:aA)(key:au):az au×az au×az (az aA)×aA×au:=
 bif rU w m s a&&ej key then
  bif has w key then(without w key++[key],m,(fG.val s a key).1,(fG.val s a key).2,⟨#[]⟩)
  else bif has m key then(w,without m key++[key],(fG.val s a key).1,(fG.val s a key).2,⟨#[]⟩)
  else bif decide ((w++[key]).length<=2)then(w++[key],m,(fG.val s a key).1,(fG.val s a key).2,⟨#[]⟩)
  else bif decide (m.length<4)then((w++[key]).tail,m++[(w++[key]).getD 0 ⟨#[]⟩],(fG.val s a key).1,(fG.val s a key).2,⟨#[]⟩)
  else bif decide (lY.val (fG.val s a key).1 (fG.val s a key).2 ((w++[key]).getD 0 ⟨#[]⟩)>lY.val (fG.val s a key).1 (fG.val s a key).2 (m.getD 0 ⟨#[]⟩))then
   ((w++[key]).tail,m.tail++[(w++[key]).getD 0 ⟨#[]⟩],(fG.val s a key).1,(fG.val s a key).2,m.getD 0 ⟨#[]⟩)
  else((w++[key]).tail,m,(fG.val s a key).1,(fG.val s a key).2,(w++[key]).getD 0 ⟨#[]⟩)
 else(w,m,s,a,⟨#[]⟩)
theorem BM(l:az au)(k:au):rs l++[[CV.s k]]=rs (l++[k]):=by unfold Lib.rs;rw[dh];rfl
theorem zer(l:az au):aT [Ck.s] 0++rs l=rs l:=rfl
theorem QA(l:az au):bQ (aw (rs l) (bc 0) 0)=l.getD 0 ⟨#[]⟩:=by cases l<;>rfl
theorem Tc(l:az au):eP (rs l) (bc 1) (bc (l.length:aA))=rs l.tail:=by unfold eP Lib.rs;rw[show bc 1=1 from rfl,Lib.eB,List.drop_one,<-List.map_tail,iJ (by simp)]
theorem mQ{l:az au}(h:mP l=ak){k:au}(hk:k∈l):ej k=true:=by
 unfold mP at h;rw[bn]at h;obtain⟨i,hi,rfl⟩:=c9 hk;have:=h i (by simpa using hi);unfold JF at this;rw[aK]at this;have e:l.getD i ⟨#[]⟩=l[i]:=by simp[jq,hi]
 rw[e]at this;exact this.1
theorem uY{l:az au}:mP l=ak↔(∀k∈l,ej k=ak)/\l.Nodup:=by
 constructor
 ·intro h;refine⟨λk hk=>mQ h hk, ?_⟩
  rw[o6,dr];intro i j hi hj M8 he;unfold mP at h;rw[bn]at h;have h2:=h j (by simpa using hj);unfold JF at h2;have e:l.getD j ⟨#[]⟩=l[j]:=by simp[jq,hj]
  rw[e,aK,dD,jP]at h2;refine h2.2 ?_;rw[<-he];have:(l.take j)[i]'(by rw[eg];omega)=l[i]:=mA ..;rw[<-this];exact bD _
 ·intro h;unfold mP;rw[bn];intro j hj;have hj:j<l.length:=by simpa using hj
  unfold JF;have e:l.getD j ⟨#[]⟩=l[j]:=by simp[jq,hj]
  rw[e,aK,dD,jP];refine⟨h.1 _ (bD hj),λhm=> ?_⟩
  obtain⟨i,hi,he⟩:=c9 hm;rw[eg]at hi;rw[mA]at he;have h2:=h.2;rw[o6,dr]at h2;exact h2 i j (by omega) hj (by omega) he
theorem j_{k:au}(h:ej k=ak):1<=k.size/\k.size<=30:=by unfold ej at h;have:=b9 h;omega
theorem J8{s:az (az aA)}{a:aA}{key:au}(h:iV.n6 s):iV.n6 (fG.val s a key).1:=by
 unfold fG.val;cases b8:fg.nH s a with
 |false=>exact h
 |true=>
  obtain⟨hs,_,hq⟩:=fG.tp b8;obtain⟨b1,b2⟩:=fG.sg (key:=key) hs hq;rw[ay];cases decide (a+1=64)with
  |false=>exact⟨by rw[aC];dsimp only;omega,λq h=>by have:=(b2 q h).1;omega⟩
  |true=>
   rw[ay];dsimp only;unfold fG.half;refine⟨by rw[bP];omega,λq h=> ?_⟩
   obtain⟨q',hq',rfl⟩:=cG.1 h;rw[bP];have:=(b2 q' hq').1;omega
theorem sw{l:az au}(h:0<l.length):l.getD 0 ⟨#[]⟩∈l:=by
 cases l with
 |nil=>simp at h
 |cons x r=>exact du ..
theorem Bw{w m:az au}{s:az (az aA)}{a:aA}(h:rU w m s a=ak):mP (w++m)=ak/\w.length<=2/\m.length<=4/\fg.nH s a=true:=by unfold rU at h;simp only[aK,bf]at h;exact⟨h.1,h.2.1,h.2.2.1,h.2.2.2⟩
theorem ok(w m:az au)(s:az (az aA))(a:aA)(key:au)(hw:w.length<=1048576)(hm:m.length<=1048576)(hf:iV.n6 s)(hk:key.size<=140737488355328):
  c (rs w) (rs m) (rr s) a key=ak/\v (rs w) (rs m) (rr s) a key=(rs (val w m s a key).1,rs (val w m s a key).2.1,rr (val w m s a key).2.2.1,(val w m s a key).2.2.2.1,(val w m s a key).2.2.2.2):=by
 refine out _ _ _ _ _ ?_;have h1:=fN.ok w m s a hw hm hf;have h2:=jj.ok w m s a hw hm hf;have h3:=fG.ok s a key hf hk;have h4:=eS.ok w key (by omega);have h5:=eS.ok m key (by omega);have h6:=oE.ok w key hw;have h7:=oE.ok m key hm;have sf:=J8 (a:=a) (key:=key) hf;unfold vo b;simp only[Lib.lt,h1.1,h1.2,h2.1,h2.2,ay];unfold val;cases hp:rU w m s a with
 |false=>rfl
 |true=>
  obtain⟨p1,p2,p3,p4⟩:=Bw hp;rw[iu,bj];cases zv:ej key with
  |false=>rfl
  |true=>
   have zw:=j_ zv;have l6:=gX (l:=w) (k:=key);have l7:=gX (l:=m) (k:=key);simp only[ba,aC,ay,h3.1,h3.2,h4.1,h4.2,h5.1,h5.2,h6.1,h6.2,h7.1,h7.2,BM,zer,eE,pe,bw];rw[Lib.cy (n:=(without w key).length+1) (by omega) (by omega),Lib.cy (n:=(without m key).length+1) (by omega) (by omega),Lib.cy (n:=w.length+1) (by omega) (by omega)];simp only[ay];cases hA:has w key with
   |true=>rfl
   |false=>
    cases hB:has m key with
    |true=>rfl
    |false=>
     simp only[aC];rw[show decide (((w++[key]).length:aA)<=2)=decide ((w++[key]).length<=2)by rw[ch];omega];cases hC:decide ((w++[key]).length<=2)with
     |true=>rfl
     |false=>
      have hlw:(w++[key]).length=3:=by have:=lu hC;rw[bO,bw]at this⊢;omega
      have hfm:(w++[key]).getD 0 ⟨#[]⟩∈w++[key]:=sw (by omega);have Jw:((w++[key]).getD 0 ⟨#[]⟩).size<=30:=by
       rcases a_.1 hfm with h|h
       ·exact(j_ (mQ p1 (bN _ h))).2
       ·rw[aZ]at h;rw[h];exact zw.2
      have g1:=lY.ok (fG.val s a key).1 (fG.val s a key).2 ((w++[key]).getD 0 ⟨#[]⟩) sf (by omega);have i1:iO 1 ((w++[key]).length:aA) ((w++[key]).length:aA)=true:=by rw[hlw];rfl
      have ht:(w++[key]).tail.length=2:=by rw[zg];omega
      have rz:cJ (bW (aT [Ck.s] 0)+(w++[key]).tail.length) 16=true:=Lib.cy (by rw[ht];decide) (by rw[ht];decide);simp only[aC,aJ (show(0:aA)<((w++[key]).length:aA)by omega),i1,ay,QA,Tc,rz,zer,BM,eE,Lib.cy (n:=m.length+1) (b:=16) (by omega) (by omega),g1.1,g1.2];rw[show decide ((m.length:aA)<4)=decide (m.length<4)by rw[ch];omega];cases hD:decide (m.length<4)with
      |true=>rfl
      |false=>
       have hm4:m.length=4:=by have:=lu hD;omega
       have X9:m.getD 0 ⟨#[]⟩∈m:=sw (by omega);have hms:=(j_ (mQ p1 (bH _ X9))).2;have g2:=lY.ok (fG.val s a key).1 (fG.val s a key).2 (m.getD 0 ⟨#[]⟩) sf (by omega);have i2:iO 1 (m.length:aA) (m.length:aA)=true:=by simp[iO];omega
       have E8:m.tail.length=3:=by rw[zg];omega
       have rz2:cJ (bW (aT [Ck.s] 0)+m.tail.length) 16=true:=Lib.cy (by rw[E8];decide) (by rw[E8];decide);simp only[aC,aJ (show(0:aA)<(m.length:aA)by omega),i2,ay,rz2,BM,Lib.cy (n:=m.tail.length+1) (b:=16) (by omega) (by omega),g2.1,g2.2];cases decide (lY.val (fG.val s a key).1 (fG.val s a key).2 ((w++[key]).getD 0 ⟨#[]⟩)>lY.val (fG.val s a key).1 (fG.val s a key).2 (m.getD 0 ⟨#[]⟩))<;>rfl
def lens(s:az (az aA)):az aG:=s.map bW
theorem DB(s:az (az aA))(key:au):lens (fG.Cr s key)=lens s:=by
 unfold lens fG.Cr;apply kX
 ·simp
 ·intro i h1 h2;simp[fG.bq]
theorem Nm(s:az (az aA)):lens (fG.half s)=lens s:=by unfold lens fG.half;rw[jU];apply vn;intro q _;simp
theorem Vq(s:az (az aA))(a:aA)(key:au):lens (fG.val s a key).1=lens s:=by
 unfold fG.val;cases fg.nH s a with
 |false=>rfl
 |true=>
  cases decide (a+1=64)with
  |false=>exact DB s key
  |true=>exact(Nm _).trans (DB s key)
theorem Kk(w m:az au)(s:az (az aA))(a:aA)(key:au):(val w m s a key).1.length<=w.length+1/\(val w m s a key).2.1.length<=m.length+1/\lens (val w m s a key).2.2.1=lens s:=by
 have hw:=gX (l:=w) (k:=key);have hm:=gX (l:=m) (k:=key);have hs:=Vq s a key;unfold val;cases rU w m s a&&ej key with
 |false=>exact⟨by rw[aC];exact ja _,by rw[aC];exact ja _,rfl⟩
 |true=>
  rw[ay];cases has w key with
  |true=>refine⟨?_, ?_,hs⟩<;>(simp only[ay];simp;try omega)
  |false=>
   cases has m key with
   |true=>refine⟨?_, ?_,hs⟩<;>(simp only[ay,aC];simp;try omega)
   |false=>
    cases decide ((w++[key]).length<=2)with
    |true=>refine⟨?_, ?_,hs⟩<;>(simp only[ay,aC];simp;try omega)
    |false=>
     cases decide (m.length<4)with
     |true=>refine⟨?_, ?_,hs⟩<;>(simp only[ay,aC];simp;try omega)
     |false=>
      cases decide (lY.val (fG.val s a key).1 (fG.val s a key).2 ((w++[key]).getD 0 ⟨#[]⟩)>lY.val (fG.val s a key).1 (fG.val s a key).2 (m.getD 0 ⟨#[]⟩))with
      |true=>refine⟨?_, ?_,hs⟩<;>(simp only[ay,aC];simp;try omega)
      |false=>refine⟨?_, ?_,hs⟩<;>(simp only[ay,aC];simp;try omega)
end js

namespace jR
open Lib (rr rs re rf rc Px En el)
open eS (has)
open gE (fO So fC ma vJ drop_nil Bs sL EP Qd tu)
def zb(p:Px)(e:En):Px:=
 {p with
  w:=(js.val p.w p.m p.s p.a e.k).1
  m:=(js.val p.w p.m p.s p.a e.k).2.1
  s:=(js.val p.w p.m p.s p.a e.k).2.2.1
  a:=(js.val p.w p.m p.s p.a e.k).2.2.2.1
  en:=bif has (js.val p.w p.m p.s p.a e.k).1 e.k||has (js.val p.w p.m p.s p.a e.k).2.1 e.k then ma (fC p.en (js.val p.w p.m p.s p.a e.k).2.2.2.2) e else fC p.en (js.val p.w p.m p.s p.a e.k).2.2.2.2}
theorem ahn{en:az En}{w m:az au}(h:(cM en.length).all (m8.F9 en w m)=ak):So en/\∀e∈en,1<=e.k.size:=by
 rw[bn]at h;have h1:∀i (hi:i<en.length),m8.F9 en w m i=true:=λi hi=>h i (by simpa using hi);constructor
 ·have adj:∀d i (hi:i+d+1<en.length),fO (el en i).k (el en (i+d+1)).k=true:=by
   intro d;induction d with
   |zero=>
    intro i hi;have:=h1 (i+1) (by omega);unfold m8.F9 at this;rw[aK,aK,dE]at this;rcases this.2.1 with h|h
    ·have:=b9 h;omega
    ·exact h
   |succ d ih=>
    intro i hi;have a:=ih i (by omega);have:=h1 (i+d+1+1) (by omega);unfold m8.F9 at this;rw[aK,aK,dE]at this;rcases this.2.1 with h|h
    ·have:=b9 h;omega
    ·exact fH.qi _ _ _ a h
  unfold So;rw[dr];intro i j hi hj M8;have:=adj (j-i-1) i (by omega);rw[show i+(j-i-1)+1=j by omega,eQ hi,eQ hj]at this;exact this
 ·intro e he;obtain⟨i,hi,rfl⟩:=c9 he;have:=h1 i hi;unfold m8.F9 m8.tU at this;rw[aK,eQ hi]at this;exact(iL.Gd this.1).1.1
theorem Fu{p:Px}(h:p8.iX p=ak):So p.en/\(∀e∈p.en,1<=e.k.size)/\p.en.length<=6/\p.w.length<=2/\p.m.length<=4/\p.fe.length<=20/\p.cl.length<=6/\(1<=p.now/\p.now<=1000000000)/\(0<=p.hits/\p.hits<=1000000000)/\jj.rU p.w p.m p.s p.a=ak/\(∀i,i<p.fe.length->m9.nt p.now (el p.fe i)=ak):=by
 unfold p8.iX at h;simp only[aK,bf]at h;obtain⟨h1,h2,h3,h4,h5,h6,h7⟩:=h;unfold m8.Lc at h2;simp only[aK,bf]at h2;obtain⟨g1,g2,g3⟩:=h2;obtain⟨s1,s2⟩:=ahn g1;obtain⟨_,q2,q3,_⟩:=js.Bw g2;refine⟨s1,s2,by omega,q2,q3,h3,h4,h1,h5,g2,λi hi=> ?_⟩
 rw[bn]at h6;have:=h6 i (by simpa using hi);rw[aK]at this;exact this.1
theorem iP{p:Px}(h:p8.iX p=ak):p.Fit 48:=by
 obtain⟨_,_,a1,a2,a3,a4,a5,_,_,hp,_⟩:=Fu h;obtain⟨_,_,_,hs⟩:=js.Bw hp;unfold fg.nH at hs;simp only[aK,bf,bn]at hs;obtain⟨s1,_,s3⟩:=hs;have s4:∀q∈p.s,q.length=16:=λq hq=>by have:=s3 q hq;unfold fg.rH at this;rw[aK,bf]at this;exact this.1
 refine⟨by omega,by omega,by omega,⟨by omega,λq hq=>by rw[s4 q hq];omega, ?_⟩,by omega,by omega⟩
 have:p.s.map bW=List.replicate 3 16:=by
  rw[List.eq_replicate_iff];refine⟨by rw[bP,s1],λx hx=> ?_⟩
  obtain⟨q,hq,rfl⟩:=cG.1 hx;exact s4 q hq
 rw[this];decide
end jR

namespace p9
open Lib (Px Cl Fe En el)
open fZ (qZ told)
def l8(f:Fe):En:=⟨f.k,f.st,f.li,f.t⟩
def cls(p:Px)(f:aA)(life:aA):Px×aY:=
 bif qZ p f&&decide (0<=life/\life<=999999)then
  (bif decide (life>0)then jR.zb (told p f.toNat {el p.fe f.toNat with sta:=2,li:=life,st:=p.now} 2) (l8 {el p.fe f.toNat with sta:=2,li:=life,st:=p.now})
   else told p f.toNat {el p.fe f.toNat with sta:=2,li:=life,st:=p.now} 2,ak)
 else(p,aq)
theorem GU{p:Px}{f life:aA}:(cls p f life).1.now=p.now/\(cls p f life).1.hits=p.hits:=by
 unfold cls;cases qZ p f&&decide (0<=life/\life<=999999)with
 |false=>exact⟨rfl,rfl⟩
 |true=>cases decide (life>0)<;>exact⟨rfl,rfl⟩
end p9

namespace dY
open Lib (Px Cl Fe En el rc rf re)
open eS (has without)
open jj (ej)
open p8 (iX)
open gE (So fC)
def tV(e:En)(now:aA):aY:=IP.v e.k e.st e.li e.bo now
def jn(l:az Cl)(c:Cl):az Cl:=l.filter (λx=>decide (x.id<c.id))++[c]++l.filter (λx=>decide (x.id>c.id))
def jm(l:az Cl)(id:aA):aY:=l.any λx=>decide (x.id=id)
def Cw(l:az En)(key:au):aD En:=l.find? λe=>decide (e.k=key)
def Br(key:au)(f:Fe):aY:=decide (f.k=key)&&decide (f.sta=1)
def CJ(l:az Fe)(key:au):aD aG:=l.findIdx? (Br key)
def qn(key:au):Fe:=⟨key,⟨#[]⟩,1,0,0⟩
def put(p:Px)(id:aA)(key:au)(h:aY)(fe:az Fe)(i:aG):Px:=
 {p with en:=bif h then fC p.en key else p.en,w:=bif h then without p.w key else p.w,m:=bif h then without p.m key else p.m,s:=(fG.val p.s p.a key).1,a:=(fG.val p.s p.a key).2,fe:=fe,cl:=jn p.cl ⟨id,key,(i:aA)+1,0,1,(el fe i).t,0⟩}
def n_(p:Px)(id:aA)(key:au)(h:aY):Px×aA:=
 match CJ p.fe key with
 |some i=>(put p id key h p.fe i,0)
 |none=>bif decide (p.fe.length<20)then(put p id key h (p.fe++[qn key]) p.fe.length,0)else(p,2)
def X6(p:Px)(id:aA)(key:au)(e:En):Px:=
 {p with w:=(js.val p.w p.m p.s p.a key).1,m:=(js.val p.w p.m p.s p.a key).2.1,s:=(js.val p.w p.m p.s p.a key).2.2.1,a:=(js.val p.w p.m p.s p.a key).2.2.2.1,cl:=jn p.cl ⟨id,key,0,e.st,2,e.bo,p.now-e.st⟩,hits:=bif decide (p.hits<1000000000)then p.hits+1 else p.hits}
def ask(p:Px)(id:aA)(key:au):Px×aA:=
 bif iX p&&(decide (1<=id/\id<=9)&&(ej key&&(!jm p.cl id&&decide (p.cl.length<6))))then
  match Cw p.en key with
  |some e=>bif tV e p.now then(X6 p id key e,0)else n_ p id key ak
  |none=>n_ p id key aq
 else(p,1)
theorem Jk{α:Type}(l:az α)(q:α->aY)(p:aG->aY)(h:∀i (hi:i<l.length),p i=q l[i]):decide (Lib.fi p l.length 0≥0)=l.any q:=by
 rcases Lib.pR p l.length 0 with ⟨e,ha⟩|⟨k,_,hk,e,hp,_⟩
 ·rw[e,aM (by omega)];symm;rw[Aq];intro x hx;obtain⟨i,hi,rfl⟩:=c9 hx;rw[<-h i hi,ha i (by omega) (by omega)];simp
 ·rw[e,aJ (by omega)];symm;rw[List.any_eq_true];exact⟨_,bD (by omega:k<l.length),by rw[<-h k (by omega)];exact hp⟩
theorem zQ{α:Type}[Inhabited α](l:az α)(q:α->aY)(p:aG->aY)(h:∀i (hi:i<l.length),p i=q l[i]):
  (Lib.fi p l.length 0= -1/\l.find? q=ao/\l.findIdx? q=ao)\/∃i,i<l.length/\Lib.fi p l.length 0=(i:aA)/\l.find? q=aj (el l i)/\l.findIdx? q=aj i:=by
 rcases Lib.pR p l.length 0 with ⟨e,ha⟩|⟨k,_,hk,e,hp,hb⟩
 ·have hn:∀x∈l,q x=false:=λx hx=>by obtain⟨i,hi,rfl⟩:=c9 hx;rw[<-h i hi,ha i (by omega) (by omega)]
  refine .inl ⟨e,qa.2 λx hx=>by rw[hn x hx];simp,pJ.2 hn⟩
 ·have uf:k<l.length:=by omega
  have f:l.findIdx? q=aj k:=mi.2 ⟨uf,by rw[<-h k uf];exact hp,λj hj=>by rw[<-h j (by omega),hb j (by omega) hj];simp⟩;refine .inr ⟨k,uf,e, ?_,f⟩;rw[Au];exact⟨by rw[eQ uf,<-h k uf];exact hp,k,uf,(eQ uf).symm,λj hj=>by rw[<-h j (by omega),hb j (by omega) hj];rfl⟩
def lid(id:aA)(y:az CV):aY:=decide (bY (y.getD 0 (.b aq))<id)
theorem Q1{l:az Cl}{c:Cl}(cs:l.Pairwise λa b=>a.id<b.id)(hn:jm l c.id=aq):
  (rc l).take ((rc l).takeWhile (lid c.id)).length++[Cl.row c]++(rc l).drop ((rc l).takeWhile (lid c.id)).length=rc (jn l c):=by
 rw[Aa,zN];have h_:∀y∈l,y.id≠c.id:=λy hy e=>by unfold jm at hn;rw[Aq]at hn;exact hn y hy (aJ e)
 obtain⟨t1,t2⟩:=Lib.BQ (λx:Cl=>decide (x.id<c.id)) (λx=>decide (x.id>c.id)) l (λy hy=>by
  have:=h_ y hy;by_cases h:y.id<c.id
  ·rw[aJ h,aM (by omega)];rfl
  ·rw[aM h,aJ (by omega)];rfl) (cs.imp λ{a b} hab h=>aJ (by have:=b9 h;omega))
 unfold Lib.rc;rw[List.takeWhile_map,List.dropWhile_map];have e:lid c.id∘Cl.row=λx:Cl=>decide (x.id<c.id):=rfl;rw[e,t1,t2];unfold jn;rw[dh,dh];rfl
end dY

namespace nu
open Lib (rd el Fi)
open eC (u6 kM)
def kN(left:aX)(i:aG)(f:Fi):aA:=bif decide (i<left.length)then k8 ak f.kp (k8 aq (bY (aw left i 0)) (f.t.size:aA))else f.kp
def aeG(left:aX)(i:aG)(f:Fi):Fi:=⟨f.n,f.t.extract 0 (kN left i f).toNat,kN left i f⟩
def afP(d:az Fi)(left:aX):aD (az Fi):=bif u6 d then aj (d.mapIdx (aeG left))else ao
theorem abR(left:aX)(i:aG){f:Fi}(h:0<=f.kp/\f.kp<=(f.t.size:aA)):f.kp<=kN left i f/\kN left i f<=(f.t.size:aA):=by
 unfold kN k8;cases decide (i<left.length)with
 |false=>rw[aC];omega
 |true=>simp only[ay,aC];split<;>split<;>omega
end nu

namespace mB
def eo(l:aX)(i:aG):aY:=iL.v (bQ (aw l i 0)) (bY (aw l i 1)) (bY (aw l i 2)) (bQ (aw l i 3))
def tx(l:aX)(i:aG):au:=jN.rV (bQ (aw l i 0)) (bY (aw l i 1)) (bY (aw l i 2)) (bQ (aw l i 3))
def fs(l:aX):aG->aG->au->aD au
 |0,_,acc=>aj acc
 |d+1,i,acc=>if eo l i=ak then fs l d (i+1) (acc++fP.fr (tx l i))else ao
theorem EZ(l:aX)(d i:aG)(acc:au):fs l (d+1) i acc=if eo l i=ak then fs l d (i+1) (acc++fP.fr (tx l i))else none:=rfl
def fin(o:aD au)(kf:aD R)(kt:au->aD R):aD R:=match o with|some x=>kt x|none=>kf
theorem Ux(l:aX)(hl:l.length<=1048576)(F:aG->aG->au->aD R)(kf:aD R)(kt:au->aD R)
  (hT:∀m i acc,i<l.length->acc.size<=2000*i->(fP.fr (tx l i)).size<=2000->eo l i=ak->F (m+1) i acc=F m (i+1) (acc++fP.fr (tx l i)))
  (hF:∀m i acc,i<l.length->eo l i=aq->F (m+1) i acc=kf) (hE:∀m acc,F (m+1) l.length acc=kt acc):F Lib.c7 0 ⟨#[]⟩=fin (fs l l.length 0 ⟨#[]⟩) kf kt:=by
 have:=Lib.ij (λn (z:aG×au)=>F n z.1 z.2) (λz=>l.length-z.1) (λz=>z.1<=l.length/\z.2.size<=2000*z.1) (λz=>fin (fs l (l.length-z.1) z.1 z.2) kf kt) (λm z hz=>by
  obtain⟨i,acc⟩:=z;obtain⟨h1,h2⟩:=hz;dsimp only at h1 h2⊢;by_cases h:i<l.length
  ·have e:l.length-i=(l.length-(i+1))+1:=by omega
   cases ho:eo l i with
   |true=>
    right;have hs:=ix.wx ho;have hf:(fP.fr (tx l i)).size<=2000:=by have:=fP.UO (t:=tx l i) (by unfold tx;omega);unfold tx at this⊢;omega
    exact⟨(i+1,acc++fP.fr (tx l i)),⟨h,by dsimp only;rw[Lib.lz];omega⟩,by dsimp only;omega,by dsimp only;rw[e,EZ,bC ho],hT m i acc h h2 hf ho⟩
   |false=>left;rw[hF m i acc h ho,e,EZ,bL (by simp[ho])];rfl
  ·left;have:i=l.length:=by omega
   subst this;rw[hE,wU];rfl) Lib.c7 (0,⟨#[]⟩) ⟨bK _,bK _⟩ (cT (by dsimp only;omega))
 simpa using this
def nm:au:={data:= #[ax 110,ax 101,ax 119]}
def mC(has:aY)(x:au):aX:=(if has=ak then [[CV.i ar 4,CV.s nm,CV.s {data:= #[]},CV.s {data:= #[]}]]else [])++[[CV.i ar 1,CV.s nm,CV.s x,CV.s {data:= #[]}],[CV.i ar 2,CV.s nm,CV.s {data:= #[]},CV.s {data:= #[]}],[CV.i ar 3,CV.s nm,CV.s {data:= #[]},CV.s {data:= #[ax 107,ax 101,ax 112,ax 116]}]]
def val(d l:aX):aX×aY:=bif fw.val d then(match fs l l.length 0 ⟨#[]⟩with|some x=>(mC (mL.val d nm).2 x,ak)|none=>([],aq))else([],aq)
theorem ok(d l:aX)(hd:d.length<=1048576)(hl:l.length<=1048576):c d l=ak/\v d l=val d l:=by
 refine out d l ?_;have k1:=fw.ok d (by omega);have k2:=mL.ok d {data:= #[ax 110,ax 101,ax 119]} (by omega);have e2:mL.val d {data:= #[ax 110,ax 101,ax 119]}=mL.val d nm:=rfl;unfold vo b val;rw[k1.1,k1.2,ay];cases fw.val d with
 |false=>rfl
 |true=>
  rw[ba,aC,ay,k2.1,ay,k2.2,e2];have tr:∀(K0:aX->aY->au->aA->aX->aX->aD (aX×aY)) (K1:aX->aY->au->aA->aX->aD (aX×aY)) (base:aX) (kt:au->aD (aX×aY)) (h0:∀x i,K0 l aq x i [] base=aj ([],aq)) (h1:∀x i,K1 l aq x i base=kt x),l9 Lib.c7 K0 K1 Lib.c7 l aq ⟨#[]⟩ 0 base=fin (fs l l.length 0 ⟨#[]⟩) (aj ([],aq)) kt:=by
   intro K0 K1 base kt h0 h1;refine Ux l hl (λm i acc=>l9 Lib.c7 K0 K1 m l aq acc (i:aA) base) _ kt (λm i acc hi ha hf ho=> ?_) (λm i acc hi ho=> ?_) (λm acc=> ?_)
   ·have lL:bM ((i:aA)+1)=((i+1:aG):aA):=dc (by omega) (by omega);have t1:jN.v (bQ (aw l i 0)) (bY (aw l i 1)) (bY (aw l i (1+1))) (bQ (aw l i (1+1+1)))=(tx l i,ak):=by unfold jN.v;exact bC ho
    have f1:=fP.ok (tx l i);have f2:fP.val (tx l i)=(fP.fr (tx l i),ak):=by unfold fP.val;have q1:=ix.FK ho;have q2:=ix.wx ho;rw[bC ⟨q1,c_ q2 (by omega)⟩]
    simp only[l9,r9,Lib.dB,Lib.cR,Lib.eB,hi,aR,aP,ay,aC,t1,f1.1,f1.2,f2,ba,aJ (show acc.size+(fP.fr (tx l i)).size<=4611686018427387904 by omega),lL]
   ·have t1:jN.v (bQ (aw l i 0)) (bY (aw l i 1)) (bY (aw l i (1+1))) (bQ (aw l i (1+1+1)))=(⟨#[]⟩,aq):=by unfold jN.v;rw[bL (by intro h;have h':eo l i=true:=h;rw[ho]at h';cases h')]
    have f1:=fP.ok ⟨#[]⟩;simp only[l9,r9,Lib.dB,Lib.cR,Lib.eB,hi,aR,aP,ay,t1,f1.1,bX];exact h0 acc i
   ·simp only[l9,r9,Lib.dB,bu,bm,aC];exact h1 acc _
  cases hh:(mL.val d nm).2 with
  |true=>rw[ay];refine(tr _ _ _ (λx=>aj (mC ak x,ak)) (λ_ _=>rfl) (λ_ _=>rfl)).trans ?_;cases fs l l.length 0 ⟨#[]⟩<;>rfl
  |false=>rw[aC];refine(tr _ _ _ (λx=>aj (mC aq x,ak)) (λ_ _=>rfl) (λ_ _=>rfl)).trans ?_;cases fs l l.length 0 ⟨#[]⟩<;>rfl
end mB

namespace vg
open Lib (re rd el En Fi)
open jY (kd kp Di tx Jq base bt qx ao6)
open eC (mC act u6 nt put without Gb ra Ac)
open gE (So ma fO)
open nu (afP aeG kN abR)
abbrev qy:au:={data:= #[ax 110,ax 101,ax 119]}
def yM(x:au):az Ac:=[⟨1,qy,x,⟨#[]⟩⟩,⟨2,qy,⟨#[]⟩,⟨#[]⟩⟩,⟨3,qy,⟨#[]⟩,qx⟩]
theorem less:fO qx qy=true:=by unfold fO;rw[jT,jT];rfl
theorem amf(t:au)(k:aA)(h1:t.size<=20000)(h2:0<=k/\k<=(t.size:aA)):nt ⟨qy,t,k⟩=true:=by unfold nt;have:((qy.size:aG):aA)=3:=rfl;rw[this,aJ (by omega),aJ h2,aM (by dsimp only;omega)];rfl
theorem FJ{o:aD au}{x:au}{k:aA}(h:(bt o).size<=20000)(hx:x.size<=20000)(hk:0<=k/\k<=(x.size:aA)):u6 (base o++[⟨qy,x,k⟩])=true:=by
 refine eC.kM.2 ⟨?_,λf hf=> ?_, ?_⟩
 ·cases o<;>simp[base]
 ·rcases a_.1 hf with hf|hf
  ·exact(eC.kM.1 (jY.s6 h)).2.1 f hf
  ·rw[aZ.1 hf];exact amf x k hx hk
 ·cases o with
  |none=>exact FX ..
  |some t=>exact qb.2 ⟨λy hy=>by rw[aZ.1 hy];exact less,FX ..⟩
theorem nKN:qx≠qy:=by decide
theorem Qk(o:aD au)(x:au)(k:aA):(base o++[(⟨qy,x,k⟩:Fi)]).find? (λy=>decide (y.n=qy))=aj ⟨qy,x,k⟩:=by
 cases o with
 |none=>rfl
 |some t=>rw[show base (aj t)++[(⟨qy,x,k⟩:Fi)]=[⟨qx,t,t.size⟩,⟨qy,x,k⟩]from rfl,ID (by simp[nKN]),List.find?_cons_of_pos (by simp)]
theorem afW(o:aD au):(base o).find? (λy=>decide (y.n=qy))=none:=by
 cases o with
 |none=>rfl
 |some t=>rw[show base (aj t)=[⟨qx,t,t.size⟩]from rfl,ID (by simp[nKN]),List.find?_nil]
theorem ahb(o:aD au)(x:au)(k:aA):put (base o) ⟨qy,x,k⟩=base o++[⟨qy,x,k⟩]:=by
 cases o with
 |none=>rfl
 |some t=>unfold put;rw[show base (aj t)=[⟨qx,t,t.size⟩]from rfl,dt (by simpa using less),cm (by simp[less])];rfl
theorem acx(o:aD au)(x y:au)(k m:aA):put (base o++[⟨qy,y,m⟩]) ⟨qy,x,k⟩=base o++[⟨qy,x,k⟩]:=by
 cases o with
 |none=>exact jY.v9 rfl
 |some t=>unfold put;rw[show base (aj t)++[(⟨qy,y,m⟩:Fi)]=[⟨qx,t,t.size⟩,⟨qy,y,m⟩]from rfl,dt (by simpa using less),cm (by rw[eC.irrefl];simp),cm (by simp[less]),cm (by simp)];rfl
theorem mov(o:aD au)(x:au)(k:aA):put (without (base o++[⟨qy,x,k⟩]) qy) ⟨qx,x,k⟩=[⟨qx,x,k⟩]:=by
 have:without (base o++[⟨qy,x,k⟩]) qy=base o:=by
  unfold without;rw[iN,cm (by simp),List.filter_nil,di,eI];intro f hf;cases o with
  |none=>cases hf
  |some t=>rw[aZ.1 hf];simp[nKN]
 rw[this];cases o with
 |none=>rfl
 |some t=>exact jY.v9 rfl
theorem a1{o:aD au}{x:au}(h:(bt o).size<=20000)(hx:x.size<=20000):act (base o) 1 qy x ⟨#[]⟩=aj (base o++[⟨qy,x,0⟩]):=by
 unfold act;rw[jY.s6 h,show eC.ld 1 x ⟨#[]⟩=ak from by unfold eC.ld;simp,aP,ay];have hn:Gb (base o) 1 qy x ⟨#[]⟩=aj (base o++[⟨qy,x,0⟩]):=by unfold Gb;rw[afW];dsimp only;rw[bC rfl,ahb]
 rw[hn];dsimp only;rw[FJ h hx ⟨by omega,by omega⟩];rfl
theorem a2{o:aD au}{x:au}(h:(bt o).size<=20000)(hx:x.size<=20000):act (base o++[⟨qy,x,0⟩]) 2 qy ⟨#[]⟩ ⟨#[]⟩=aj (base o++[⟨qy,x,x.size⟩]):=by
 unfold act;rw[FJ h hx ⟨by omega,by omega⟩,show eC.ld 2 ⟨#[]⟩ ⟨#[]⟩=ak from by unfold eC.ld;simp,aP,ay];have hn:Gb (base o++[⟨qy,x,0⟩]) 2 qy ⟨#[]⟩ ⟨#[]⟩=aj (base o++[⟨qy,x,x.size⟩]):=by unfold Gb;rw[Qk];dsimp only;rw[bL (by omega),bC rfl,acx]
 rw[hn];dsimp only;rw[FJ h hx ⟨by omega,by omega⟩];rfl
theorem a3{o:aD au}{x:au}(h:(bt o).size<=20000)(hx:x.size<=20000):act (base o++[⟨qy,x,x.size⟩]) 3 qy ⟨#[]⟩ qx=aj (base (aj x)):=by
 unfold act;rw[FJ h hx ⟨by omega,by omega⟩,show eC.ld 3 ⟨#[]⟩ qx=ak from by unfold eC.ld;simp,aP,ay];have hn:Gb (base o++[⟨qy,x,x.size⟩]) 3 qy ⟨#[]⟩ qx=aj (base (aj x)):=by unfold Gb;rw[Qk];dsimp only;rw[bL (by omega),bL (by omega),bC rfl,bL (by rintro (h|h);exact h rfl;exact nKN h),mov];rfl
 rw[hn];dsimp only;rw[jY.s6 (o:=aj x) hx];rfl
theorem al7{o:aD au}{x:au}(h:(bt o).size<=20000)(hx:x.size<=20000):mC (base o) 0 (yM x)=(base (aj x),3):=by unfold yM mC;dsimp only;rw[a1 h hx];dsimp only;unfold mC;dsimp only;rw[a2 h hx];dsimp only;unfold mC;dsimp only;rw[a3 h hx];rfl
theorem abg(l:az En)(TS:∀x∈l,Di x=ak):∀(d i:aG) (acc:au),d+i=l.length->mB.fs (re l) d i acc=aj (acc++tx (l.drop i)):=by
 intro d;induction d with
 |zero=>
  intro i acc h;have:i=l.length:=by omega
  subst this;rw[dm];exact ml aj (pV).symm
 |succ d ih=>
  intro i acc h;have hi:i<l.length:=by omega
  have h0:mB.eo (re l) i=true:=by unfold mB.eo;rw[qz hi,tY hi,show aw (re l) i 2=CV.i ar (el l i).li from tZ hi,show aw (re l) i 3=CV.s (el l i).bo from t_ hi];exact TS _ (oK hi)
  have h1:mB.tx (re l) i=jY.rV l[i]:=by unfold mB.tx;rw[qz hi,tY hi,show aw (re l) i 2=CV.i ar (el l i).li from tZ hi,show aw (re l) i 3=CV.s (el l i).bo from t_ hi,eQ hi];rfl
  rw[mB.EZ,bC h0,h1,ih (i+1) _ (by omega),dG hi,BW];rfl
end vg

namespace ov
open Lib (En Fi Px Cl Fe el re rd rf rc rs rr)
open gE (So ma)
open eC (u6 mC Ac ra)
open jY (rV Di Jq tx kp base bt yV)
open vg (yM)
open nu (afP)
def dk(o:aD (az En)):az Fi:=base (o.map tx)
def es(o:aD (az En)):az En:=o.getD []
theorem GI(o:aD (az En)):bt (o.map tx)=tx (es o):=by cases o<;>rfl
theorem Qe(o:aD (az En)):(dk o).length<=1:=by cases o<;>simp[dk,base]
theorem Lb{o:aD (az En)}(h:(tx (es o)).size<=20000):u6 (dk o)=true:=jY.s6 (by rw[GI];exact h)
theorem aeI{o:aD (az En)}(h:(tx (es o)).size<=20000)(he:∀e∈es o,Di e=ak):(U118.c (rd (dk o))=ak/\U118.v (rd (dk o))=re (kp (es o)))/\(rK.c (rd (dk o))=ak/\rK.v (rd (dk o))=re (kp (es o))):=by refine jY.fk (dk o) (es o) ⟨#[]⟩ (Lb h) ?_ he (.inl rfl);unfold dk;rw[jY.MJ,GI];exact(pV).symm
theorem UA{o:aD (az En)}{e:En}(h:(tx (es o)).size+(Jq e).size<=20000):mC (dk o) 0 (yV (Jq e))=(dk (aj (es o++[e])),2):=by unfold dk;rw[jY.Q3 (by rw[GI];exact h),GI,iQ,jY.W1]
theorem Uz{o:aD (az En)}{l:az En}(h:(tx (es o)).size<=20000)(hl:(tx l).size<=20000):mC (dk o) 0 (yM (tx l))=(dk (aj l),3):=vg.al7 (by rw[GI];exact h) hl
theorem aeH{o:aD (az En)}{l:az En}(hs:(tx (es o)).size<=20000)(TS:∀x∈l,Di x=ak):mB.val (rd (dk o)) (re l)=(ra (yM (tx l)),ak):=by
 unfold mB.val;rw[show fw.val (rd (dk o))=ak from Lb hs,ay,dQ,vg.abg l TS l.length 0 ⟨#[]⟩ (by omega),fm];have uV:(mL.val (rd (dk o)) mB.nm).2=false:=by unfold dk;rw[jY.fileAt,show mB.nm=vg.qy from rfl,vg.afW]
 dsimp only;rw[uV,show(⟨#[]⟩:au)++tx l=tx l from o0];rfl
end ov

namespace gU
open Lib (rr rs re rf rc Px En el)
open gE (So fC ma fO)
open jR (zb)
def Ic:az aA:=[0,0,0,0,0,0,0,0,0,0,0,0,0,0,0,0]
def p0(now:aA):Px:=⟨now,[],[],[],[Ic,Ic,Ic],0,[],[],0⟩
def tV(e:En)(now:aA):aY:=IP.v e.k e.st e.li e.bo now
def one(now:aA)(p:Px)(e:En):Px:=bif tV e now then zb p e else p
def we(now:aA)(l:az En):Px:=l.foldl (one now) (p0 now)
structure Inv (now:aA) (i:aG) (p:Px):Prop where
 so:So p.en
 ks:∀e∈p.en,1<=e.k.size
 en:p.en.length<=i
 w:p.w.length<=i
 m:p.m.length<=i
 s:js.lens p.s=[16,16,16]
 fe:p.fe=[]
 cl:p.cl=[]
 now:p.now=now
 hits:p.hits=0
theorem anh(now:aA):Inv now 0 (p0 now):=⟨gG,λe h=>(nomatch h),cu _,cu _,cu _,rfl,rfl,rfl,rfl,rfl⟩
theorem Q8{s:az (az aA)}(h:js.lens s=[16,16,16]):s.length=3/\(∀q∈s,q.length=16)/\(s.map bW).sum=48:=by
 refine⟨?_,λq hq=> ?_, ?_⟩
 ·have:=ml bW h;unfold js.lens at this;simpa using this
 ·have:q.length∈js.lens s:=cG.2 ⟨q,hq,rfl⟩;rw[h]at this;simpa using this
 ·rw[show s.map bW=[16,16,16]from h];rfl
theorem Inv.fit{now:aA}{i:aG}{p:Px}(h:Inv now i p){n:aG}(hn:i<=n)(h48:48<=n):p.Fit n:=by
 obtain⟨a,b,c⟩:=Q8 h.s;have hq:∀q∈p.s,q.length<=n:=λq hq=>by have:=b q hq;omega
 exact⟨c_ h.en hn,c_ h.w hn,c_ h.m hn,⟨by omega,hq,by omega⟩,by rw[h.fe];exact bK _,by rw[h.cl];exact bK _⟩
theorem Inv.up{now:aA}{i:aG}{p:Px}(h:Inv now i p):Inv now (i+1) p:=⟨h.so,h.ks,mG h.en,mG h.w,mG h.m,h.s,h.fe,h.cl,h.now,h.hits⟩
theorem yx{en:az En}(h:So en)(e:En):So (ma en e):=by have:=(fH.vV (gE.Bs h) e.k e.st e.li e.bo).1.1;rw[gE.sL]at this;unfold Lib.re at this;rw[jX]at this;exact this
theorem Inv.store{now:aA}{i:aG}{p:Px}(h:Inv now i p)(e:En)(he:1<=e.k.size):Inv now (i+1) (zb p e):=by
 obtain⟨b1,b2,b3⟩:=js.Kk p.w p.m p.s p.a e.k;have hw:=h.w;have hm:=h.m;have hn:=h.en;refine⟨?_, ?_, ?_,c_ b1 (by omega),c_ b2 (by omega),b3.trans h.s,h.fe,h.cl,h.now,h.hits⟩
 ·show So (bif _ then ma (fC p.en _) e else fC p.en _);cases eS.has (js.val p.w p.m p.s p.a e.k).1 e.k||eS.has (js.val p.w p.m p.s p.a e.k).2.1 e.k with
  |true=>exact yx (h.so.drop _) e
  |false=>exact h.so.drop _
 ·show∀x∈(bif _ then ma (fC p.en _) e else fC p.en _),1<=x.k.size;have hd:∀x∈fC p.en (js.val p.w p.m p.s p.a e.k).2.2.2.2,1<=x.k.size:=λx hx=>h.ks x (dq.1 hx).1;cases eS.has (js.val p.w p.m p.s p.a e.k).1 e.k||eS.has (js.val p.w p.m p.s p.a e.k).2.1 e.k with
  |true=>
   intro x hx;rw[ay]at hx;unfold ma at hx;rcases a_.1 hx with hx|hx
   ·rcases a_.1 hx with hx|hx
    ·exact hd x (dq.1 hx).1
    ·rw[aZ]at hx;rw[hx];exact he
   ·exact hd x (dq.1 hx).1
  |false=>exact hd
 ·show(bif _ then ma (fC p.en _) e else fC p.en _).length<=i+1;have d:=gE.vJ p.en (js.val p.w p.m p.s p.a e.k).2.2.2.2;have q:=gE.tu (fC p.en (js.val p.w p.m p.s p.a e.k).2.2.2.2) e (h.so.drop _);cases eS.has (js.val p.w p.m p.s p.a e.k).1 e.k||eS.has (js.val p.w p.m p.s p.a e.k).2.1 e.k with
  |true=>rw[ay];omega
  |false=>rw[aC];omega
theorem EY{e:En}{now:aA}(h:tV e now=ak):iL.v e.k e.st e.li e.bo=true:=by
 unfold tV IP.v at h;cases hq:iL.v e.k e.st e.li e.bo with
 |true=>rfl
 |false=>rw[show Ay.v e.k e.st e.li e.bo=aq from hq]at h;cases h
theorem Bd(now:aA)(l:az En):∀i,i<=l.length->Inv now i (we now (l.take i)):=by
 intro i;induction i with
 |zero=>intro _;exact anh now
 |succ i ih=>
  intro hi;have h:=ih (by omega);have e:we now (l.take (i+1))=one now (we now (l.take i)) l[i]:=by unfold we;rw[c6 (by omega),pY];rfl
  rw[e];unfold one;cases hf:tV l[i] now with
  |true=>exact h.store _ (iL.Gd (EY hf)).1.1
  |false=>exact h.up
theorem HS(now:aA)(l:az En)(i:aG)(h:i<l.length):we now (l.take (i+1))=one now (we now (l.take i)) (el l i):=by unfold we;rw[c6 h,pY,eQ h];rfl
end gU

namespace kZ
open Lib (rr rs re rf rc Px)
theorem ok(p:Px)(hp:p.Fit 1048576):c p.now (re p.en) (rs p.w) (rs p.m) (rr p.s) p.a (rf p.fe) (rc p.cl) p.hits=ak/\v p.now (re p.en) (rs p.w) (rs p.m) (rr p.s) p.a (rf p.fe) (rc p.cl) p.hits=(p.now,re p.en,rs p.w,rs p.m,rr p.s,p.a,rf p.fe,rc p.cl,p.hits):=by have he:=hp.en;have hf:=hp.fe;have hc:=hp.cl;have h2:=fN.ok p.w p.m p.s p.a hp.w hp.m ⟨hp.s.1,hp.s.2.1⟩;exact out _ _ _ _ _ _ _ _ _ (by unfold vo b;rw[h2.1,h2.2,ay,Lib.cy (b:=48) (by simp[aT,dQ];omega) (by simp[aT,dQ];omega),Lib.cy (b:=56) (by simp[aT,dI];omega) (by simp[aT,dI];omega),Lib.cy (b:=72) (by simp[aT,eN];omega) (by simp[aT,eN];omega)];rfl)
end kZ

namespace IL
open Lib (rr rs re rf rc Px)
def later(now n:aA):aA:=bif decide (now>1000000000-n%1000)then 1000000000 else bM (now+n%1000)
def val(p:Px)(n:aA):Px:={p with now:=later p.now n}
theorem tm(n:aA):(0<=cF n 1000->cF n 1000=n%1000)/\(cF n 1000<0->cF n 1000+1000=n%1000):=by
 rw[Int.tmod_eq_emod];by_cases h:0<=n\/(1000:aA)∣n
 ·rw[bC h];constructor<;>omega
 ·rw[bL h];have hd:¬(1000:aA)∣n:=λx=>h (.inr x);have:n%1000≠0:=λe=>hd (Int.dvd_of_emod_eq_zero e);constructor<;>simp<;>omega
theorem ok(p:Px)(n:aA)(hp:p.Fit 1048576):c p.now (re p.en) (rs p.w) (rs p.m) (rr p.s) p.a (rf p.fe) (rc p.cl) p.hits n=ak/\v p.now (re p.en) (rs p.w) (rs p.m) (rr p.s) p.a (rf p.fe) (rc p.cl) p.hits n=((val p n).now,re p.en,rs p.w,rs p.m,rr p.s,p.a,rf p.fe,rc p.cl,p.hits):=by
 have h:=kZ.ok p hp;refine out _ _ _ _ _ _ _ _ _ _ ?_;have t:=tm n;unfold vo b val later;simp only[Lib.lt,h.1,h.2,ay];by_cases hn:cF n 1000<0
 ·have e:=t.2 hn;rw[aJ hn,ay,e,dc (x:=n%1000) (by omega) (by omega),dc (x:=1000000000-n%1000) (by omega) (by omega)];cases decide (p.now>1000000000-n%1000)<;>rfl
 ·have e:=t.1 (by omega);rw[aM hn,aC,e,dc (x:=1000000000-n%1000) (by omega) (by omega)];cases decide (p.now>1000000000-n%1000)<;>rfl
end IL

namespace Gw
open Lib (rr rs re rf rc Px Cl el Ko Th Ti Tj Tk Tl Tm)
def val(p:Px)(id:aA):Px:={p with cl:=p.cl.filter λc=> !decide (c.id=id)}
theorem ok(p:Px)(id:aA)(hp:p.Fit 1048576):c p.now (re p.en) (rs p.w) (rs p.m) (rr p.s) p.a (rf p.fe) (rc p.cl) p.hits id=ak/\v p.now (re p.en) (rs p.w) (rs p.m) (rr p.s) p.a (rf p.fe) (rc p.cl) p.hits id=(p.now,re p.en,rs p.w,rs p.m,rr p.s,p.a,rf p.fe,rc (val p id).cl,p.hits):=by
 have h:=kZ.ok p hp;have hc:=hp.cl;refine out _ _ _ _ _ _ _ _ _ _ ?_;unfold vo b;simp only[Lib.lt,h.1,h.2,ay];have key:=mn p.cl.length (λn (i:aG) (x:aX)=>l4 Lib.c7 (λ(_ _ _:aA) (_ _ _ _:aX) (_:aA) (_ _:aX) (_ _ _ _ T0 y38 y39:aA) (y40 y41 Xa Xb NY y45:aX)=>aj (T0,y40,y41,Xa,Xb,y38,NY,y45,y39)) n id (i:aA) p.now (re p.en) (rs p.w) (rs p.m) (rr p.s) p.a (rf p.fe) (rc p.cl) p.hits 0 0 0 p.now p.a p.hits (re p.en) (rs p.w) (rs p.m) (rr p.s) (rf p.fe) x) (λi=>rc ((p.cl.take i).filter λc=> !decide (c.id=id))) (aj (p.now,re p.en,rs p.w,rs p.m,rr p.s,p.a,rf p.fe,rc (val p id).cl,p.hits)) (λn i hi=>by
  have hlen:((p.cl.take i).filter λc=> !decide (c.id=id)).length<=i:=by refine c_ (eF ..) ?_;rw[eg];omega
  have e:(p.cl.take (i+1)).filter (λc=> !decide (c.id=id))=(p.cl.take i).filter (λc=> !decide (c.id=id))++(bif !decide ((el p.cl i).id=id)then [el p.cl i]else []):=by rw[c6 hi,iN,eQ hi];cases hd:decide (p.cl[i].id=id)<;>simp[hd]
  rw[e];simp only[l4,r4,eN,Lib.dB,hi,aR,Lib.cR,aP,ay,Lib.eB,Ko hi,Th hi,Ti hi,Tj hi,Tk hi,Tl hi,Tm hi,bQ,bY,pe,bw,Lib.db hi (by omega:p.cl.length<=9223372036854775807)];rw[Lib.cy (by omega) (by omega),ay,show((el p.cl i).id !=id)= !decide ((el p.cl i).id=id)from rfl];cases decide ((el p.cl i).id=id)with
  |true=>rw[ba,aC,aC,di]
  |false=>rw[bX,ay,ay];unfold Lib.rc;rw[dh];rfl) (λn=>by
  simp only[l4,r4,eN,Lib.dB,bu,bm,aC,fD];rfl) Lib.c7 0 (bK _) (cT (by omega))
 exact key
end Gw

namespace jZ
open Lib (En Fi Px Cl Fe el)
open jY (kp Di)
open p9 (cls l8)
open fZ (rA rF)
open dY (jm)
open ov (dk es)
structure Wo where
 p:Px
 o:aD (az En)
 cd:az aA
 bd:az En
structure Ev where
 k:aA
 id:aA
 t:au
 n:aA
 l:aX
def flag(b:aY):aA:=bif b then 0 else 1
def ng(w:Wo):az En:=(kp (es w.o)).filter λe=>gU.tV e w.p.now
def closed(w:Wo)(id life:aA):Wo×aA:=
 let q:=cls w.p id life
 (bif q.2&&decide (life>0)then{w with p:=q.1,o:=aj (es w.o++[l8 (el q.1.fe id.toNat)]),bd:=w.bd++[l8 (el q.1.fe id.toNat)]}else{w with p:=q.1},flag q.2)
def ES(w:Wo):Wo:={w with p:=gU.we w.p.now (ng w),o:=aj (ng w)}
def act(w:Wo)(e:Ev):Wo×aA:=
 bif decide (e.k=1)then({w with p:=(dY.ask w.p e.id e.t).1},(dY.ask w.p e.id e.t).2)
 else bif decide (e.k=2)then({w with p:=(rF w.p e.id e.t).1},flag (rF w.p e.id e.t).2)
 else bif decide (e.k=3)then closed w e.id (e.n%1000000)
 else bif decide (e.k=4)then({w with p:=(rA w.p e.id).1},flag (rA w.p e.id).2)
 else bif decide (e.k=5)then({w with p:=IL.val w.p e.n},0)
 else bif decide (e.k=6)then({w with p:=Gw.val w.p e.id},flag (jm w.p.cl e.id))
 else(ES w,0)
def step(w:Wo)(e:Ev):Wo:={(act w e).1 with cd:=w.cd++[(act w e).2]}
def pc(e:Ev):aY:=decide (1<=e.k/\e.k<=7)&&(decide (0<=e.id/\e.id<=30)&&(decide (e.t.size<=60)&&(decide (0<=e.n)&&decide (e.l.length<=4))))
end jZ

namespace nP
open Lib (Px Cl Fe En el)
open eS (has gk)
open jj (ej rU)
open m8 (tU F9 Lc)
open m9 (nt lW apart)
open p8 (F7 iX)
open gE (So fO)
def F8(now:aA)(nf:aG)(c:Cl):aY:=
 decide (1<=c.id/\c.id<=9)&&(ej c.k&&(decide (1<=c.sta/\c.sta<=3)&&(decide (0<=c.fe/\c.fe<=(nf:aA))&&(decide ((c.got.size:aA)<=400)&&(decide (0<=c.fr/\c.fr<=now)&&decide (0<=c.age))))))
structure fu (p:Px):Prop where
 now:1<=p.now/\p.now<=1000000000
 en:∀e∈p.en,tU e=ak
 so:So p.en
 ek:∀e∈p.en,e.k∈p.w\/e.k∈p.m
 pol:rU p.w p.m p.s p.a=ak
 len:p.w.length+p.m.length=p.en.length
 fl:p.fe.length<=20
 fe:∀f∈p.fe,nt p.now f=ak
 ap:p.fe.Pairwise λf g=>lW g f=aq
 cll:p.cl.length<=6
 cl:∀c∈p.cl,F8 p.now p.fe.length c=ak
 cs:p.cl.Pairwise λc d=>c.id<d.id
 hits:0<=p.hits/\p.hits<=1000000000
theorem RY{α:Type}(R:α->α->Prop)(tr:∀x y z,R x y->R y z->R x z)(l:az α)(h:∀i (hi:i+1<l.length),R (l[i]) (l[i+1])):l.Pairwise R:=by
 rw[dr];have adj:∀d i (hi:i+d+1<l.length),R (l[i]) (l[i+d+1]):=by
  intro d;induction d with
  |zero=>intro i hi;exact h i hi
  |succ d ih=>intro i hi;exact tr _ _ _ (ih i (by omega)) (h (i+d+1) (by omega))
 intro i j hi hj M8;have:=adj (j-i-1) i (by omega);simp only[show i+(j-i-1)+1=j by omega]at this;exact this
theorem JI(x y z:au)(a:fO x y=ak)(b:fO y z=ak):fO x z=true:=fH.qi _ _ _ a b
theorem ag3{p:Px}(h:iX p=ak):fu p:=by
 obtain⟨h1,h2,h3,h4,h5,h6,h7⟩:_/\_/\_/\_/\_/\_/\_:=by unfold iX at h;simpa only[aK,bf,bn,o4]using h
 obtain⟨g1,g2,g3⟩:_/\_/\_:=by unfold Lc at h2;simpa only[aK,bf,bn,o4]using h2
 have e1:∀i (hi:i<p.en.length),tU p.en[i]=ak/\(0<i->fO (el p.en (i-1)).k p.en[i].k=ak)/\(p.en[i].k∈p.w\/p.en[i].k∈p.m):=λi hi=>by have:=g1 i hi;unfold F9 at this;simp only[aK,dE,bf,eQ hi,gk]at this;exact⟨this.1,λh0=>this.2.1.resolve_left (by omega),this.2.2⟩
 have c1:∀i (hi:i<p.cl.length),F8 p.now p.fe.length p.cl[i]=ak/\(0<i->(el p.cl (i-1)).id<p.cl[i].id):=λi hi=>by have:=h7 i hi;unfold F7 at this;unfold F8;simp only[aK,dE,bf,eQ hi]at this⊢;exact⟨⟨this.1,this.2.2⟩,λh0=>this.2.1.resolve_left (by omega)⟩
 have f1:∀i (hi:i<p.fe.length),nt p.now p.fe[i]=ak/\∀j (hj:j<i),lW p.fe[i] (p.fe[j]'(by omega))=false:=λi hi=>by
  have:=h6 i hi;unfold apart at this;simp only[bn,o4,eQ hi]at this;refine⟨this.1,λj hj=> ?_⟩
  have h:=this.2 j hj;rw[eQ (show j<p.fe.length by omega)]at h;simpa using h
 refine⟨h1,λe he=> ?_, ?_,λe he=> ?_,g2,g3,h3,λf hf=> ?_, ?_,h4,λc hc=> ?_, ?_,h5⟩
 ·obtain⟨i,hi,rfl⟩:=c9 he;exact(e1 i hi).1
 ·refine RY (λx y:En=>fO x.k y.k=ak) (λx y z a b=>JI _ _ _ a b) p.en λi hi=> ?_;have:=(e1 (i+1) hi).2.1 (by omega);rw[N2,eQ (show i<p.en.length by omega)]at this;exact this
 ·obtain⟨i,hi,rfl⟩:=c9 he;exact(e1 i hi).2.2
 ·obtain⟨i,hi,rfl⟩:=c9 hf;exact(f1 i hi).1
 ·rw[dr];intro i j hi hj M8;exact(f1 j hj).2 i M8
 ·obtain⟨i,hi,rfl⟩:=c9 hc;exact(c1 i hi).1
 ·refine RY (λc d:Cl=>c.id<d.id) (λx y z a b=>Int.lt_trans a b) p.cl λi hi=> ?_;have:=(c1 (i+1) hi).2 (by omega);rw[N2,eQ (show i<p.cl.length by omega)]at this;exact this
theorem afY{p:Px}(h:fu p):iX p=true:=by
 unfold iX Lc;simp only[aK,bf,bn,o4];refine⟨h.now,⟨λi hi=> ?_,h.pol,h.len⟩,h.fl,h.cll,h.hits,λi hi=>⟨?_, ?_⟩,λi hi=> ?_⟩
 ·unfold F9;simp only[aK,dE,bf,eQ hi,gk];refine⟨h.en _ (bD hi), ?_,h.ek _ (bD hi)⟩
  by_cases h0:i=0
  ·exact .inl h0
  ·right;rw[eQ (show i-1<p.en.length by omega)];exact dr.1 h.so (i-1) i (by omega) hi (by omega)
 ·rw[eQ hi];exact h.fe _ (bD hi)
 ·unfold apart;simp only[bn,o4];intro j hj;rw[eQ hi,eQ (show j<p.fe.length by omega),dr.1 h.ap j i (by omega) hi hj];rfl
 ·have hc:=h.cl _ (bD hi);unfold F8 at hc;unfold F7;simp only[aK,dE,bf,eQ hi]at hc⊢;refine⟨hc.1, ?_,hc.2⟩
  by_cases h0:i=0
  ·exact .inl h0
  ·right;rw[eQ (show i-1<p.cl.length by omega)];exact dr.1 h.cs (i-1) i (by omega) hi (by omega)
theorem mS{p:Px}:iX p=ak↔fu p:=⟨ag3,afY⟩
end nP

namespace Gj
open eS (has without gk jP)
open jj (ej mP rU)
open fg (nH LL rH)
theorem jg{w m:az au}{s:az (az aA)}{a:aA}:rU w m s a=ak↔((∀k∈w++m,ej k=ak)/\(w++m).Nodup)/\w.length<=2/\m.length<=4/\nH s a=true:=by unfold rU;rw[aK,aK,aK,bf,bf,js.uY]
theorem FC{s:az (az aA)}{a:aA}:nH s a=ak↔s.length=3/\(0<=a/\a<=63)/\∀q∈s,q.length=16/\∀n∈q,0<=n/\n<=15:=by unfold nH rH LL;simp only[aK,bf,bn]
theorem J9{s:az (az aA)}{a:aA}(key:au)(h:nH s a=ak):nH (fG.val s a key).1 (fG.val s a key).2=true:=by
 unfold fG.val;rw[h,ay];obtain⟨h1,h2,h3⟩:=FC.1 h;obtain⟨b1,b2⟩:=fG.sg (key:=key) h1 h3;by_cases ha:a+1=64
 ·rw[aJ ha,ay,FC];unfold fG.half;refine⟨by rw[bP];exact b1,by omega,λq hq=> ?_⟩
  obtain⟨r,hr,rfl⟩:=cG.1 hq;refine⟨by rw[bP];exact(b2 r hr).1,λn hn=> ?_⟩
  obtain⟨k,hk,rfl⟩:=cG.1 hn;have:=(b2 r hr).2 k hk;rw[gC this.1];omega
 ·rw[aM ha,aC,FC];exact⟨b1,by omega,b2⟩
theorem Fk{k:au}(h:ej k=ak):k≠⟨#[]⟩:=by intro e;rw[e]at h;exact cq h (by decide)
theorem sP{w m:az au}{s:az (az aA)}{a:aA}{key:au}(h:rU w m s a=ak)(hk:ej key=ak):
  rU (js.val w m s a key).1 (js.val w m s a key).2.1 (js.val w m s a key).2.2.1 (js.val w m s a key).2.2.2.1=ak
  /\∀x,x∈(js.val w m s a key).1\/x∈(js.val w m s a key).2.1↔(x∈w\/x∈m\/x=key)/\x≠(js.val w m s a key).2.2.2.2:=by
 obtain⟨⟨k1,nd⟩,l1,l2,hs⟩:=jg.1 h;have LB:=J9 key hs;have kn:=Fk hk;have wn:∀x,x∈w\/x∈m->x≠⟨#[]⟩:=λx hx=>Fk (k1 x (a_.2 hx));unfold js.val;rw[h,hk,aP,ay];generalize fG.val s a key=V at LB;obtain⟨S,A⟩:=V;dsimp only at LB⊢;rw[dX]at nd;obtain⟨n1,n2,n3⟩:=nd;have hwo:∀l:az au,l.Nodup->(without l key).Nodup/\(∀x,x∈without l key↔x∈l/\x≠key):=λl hl=>by unfold without;exact⟨hl.sublist jo,λx=>by simp⟩
 cases h1:has w key with
 |true=>
  have hm:=gk.1 h1;obtain⟨o1,o2⟩:=hwo w n1;have o3:=eS.oV h1;dsimp only[ay];refine⟨jg.2 ⟨⟨λk hx=> ?_, ?_⟩,by simp;omega,l2,LB⟩,λx=> ?_⟩
  ·simp only[a_,aZ,o2]at hx;rcases hx with (hx|rfl)|hx
   ·exact k1 _ (a_.2 (.inl hx.1))
   ·exact hk
   ·exact k1 _ (a_.2 (.inr hx))
  ·simp only[dX,a_,aZ,o2];grind
  ·simp only[a_,aZ,o2];grind
 |false=>
  rw[aC];have hw:=jP.1 h1;cases h2:has m key with
  |true=>
   have hm:=gk.1 h2;obtain⟨o1,o2⟩:=hwo m n2;have o3:=eS.oV h2;dsimp only[ay];refine⟨jg.2 ⟨⟨λk hx=> ?_, ?_⟩,l1,by simp;omega,LB⟩,λx=> ?_⟩
   ·simp only[a_,aZ,o2]at hx;rcases hx with hx|hx|rfl
    ·exact k1 _ (a_.2 (.inl hx))
    ·exact k1 _ (a_.2 (.inr hx.1))
    ·exact hk
   ·simp only[dX,a_,aZ,o2];grind
   ·simp only[a_,aZ,o2];grind
  |false=>
   rw[aC];have hmn:=jP.1 h2;have n8:∀x,x∈w++[key]\/x∈m↔x∈w\/x∈m\/x=key:=λx=>by simp only[a_,aZ];grind
   have QC:∀x,x∈w++[key]\/x∈m->ej x=true:=λx hx=>by
    rcases(n8 x).1 hx with hx|hx|rfl
    ·exact k1 _ (a_.2 (.inl hx))
    ·exact k1 _ (a_.2 (.inr hx))
    ·exact hk
   have Hk:(w++[key]).Nodup/\∀x∈w++[key],x∉m:=by simp only[dX,a_,aZ];grind
   have hlen:(w++[key]).length=w.length+1:=by simp
   generalize w++[key]=W at n8 QC Hk hlen;obtain⟨d1,d2⟩:=Hk;by_cases h3:W.length<=2
   ·rw[aJ h3,ay];refine⟨jg.2 ⟨⟨λk hx=>QC k (a_.1 hx), ?_⟩,h3,l2,LB⟩,λx=> ?_⟩
    ·simp only[dX];grind
    ·dsimp only;rw[n8];grind
   ·rw[aM h3,aC];cases W with
    |nil=>simp at hlen
    |cons x0 t=>
     rw[j5]at d1;rw[c5]at hlen;have hg:(x0::t).getD 0 ⟨#[]⟩=x0:=rfl;have ht:(x0::t).tail=t:=rfl;rw[hg,ht];by_cases h4:m.length<4
     ·rw[aJ h4,ay];refine⟨jg.2 ⟨⟨λk hx=>QC k ?_, ?_⟩,by dsimp only;omega,by simp;omega,LB⟩,λx=> ?_⟩
      ·simp only[a_,aZ,cz]at hx⊢;grind
      ·simp only[dX,a_,aZ,cz]at d2⊢;grind
      ·dsimp only;rw[<-n8];simp only[a_,aZ,cz];grind
     ·rw[aM h4,aC];cases m with
      |nil=>simp at h4
      |cons y0 u=>
       rw[j5]at n2;rw[c5]at l2 h4;have X3:(y0::u).getD 0 ⟨#[]⟩=y0:=rfl;have E8:(y0::u).tail=u:=rfl;rw[X3,E8];cases decide (lY.val S A x0>lY.val S A y0)with
       |true=>
        rw[ay];refine⟨jg.2 ⟨⟨λk hx=>QC k ?_, ?_⟩,by dsimp only;omega,by simp;omega,LB⟩,λx=> ?_⟩
        ·simp only[a_,aZ,cz]at hx⊢;grind
        ·simp only[dX,a_,aZ,cz]at d2⊢;grind
        ·dsimp only;rw[<-n8];simp only[a_,aZ,cz]at d2⊢;grind
       |false=>
        rw[aC];refine⟨jg.2 ⟨⟨λk hx=>QC k ?_, ?_⟩,by dsimp only;omega,by simp;omega,LB⟩,λx=> ?_⟩
        ·simp only[a_,cz]at hx⊢;grind
        ·simp only[dX,j5,cz]at d2⊢;grind
        ·dsimp only;rw[<-n8];simp only[cz]at d2⊢;grind
end Gj

namespace yG
open Lib (Px Cl Fe En el)
open eS (has without gk jP)
open jj (ej rU)
open m8 (tU)
open m9 (nt lW)
open p8 (iX)
open gE (So fO fC ma)
open jR (zb)
open nP (fu F8 mS)
open Gj (jg sP)
open fZ (qZ told rA rF iv)
theorem XS{p:Px}(h:fu p){n:aA}(h1:p.now<=n)(h2:n<=1000000000):fu {p with now:=n}:=by
 have:=h.now;refine⟨⟨by dsimp only;omega,h2⟩,h.en,h.so,h.ek,h.pol,h.len,h.fl,λf hf=> ?_,h.ap,h.cll,λc hc=> ?_,h.cs,h.hits⟩
 ·have:=h.fe f hf;unfold nt at this⊢;simp only[aK,bf]at this⊢;exact⟨this.1,this.2.1,this.2.2.1,this.2.2.2.1,this.2.2.2.2.1,yK this.2.2.2.2.2 h1⟩
 ·have:=h.cl c hc;unfold F8 at this⊢;simp only[aK,bf]at this⊢;exact⟨this.1,this.2.1,this.2.2.1,this.2.2.2.1,this.2.2.2.2.1,⟨this.2.2.2.2.2.1.1,yK this.2.2.2.2.2.1.2 h1⟩,this.2.2.2.2.2.2⟩
theorem Ab{p:Px}{n:aG}{g:Fe}{st:aA}(h:fu p)(hn:n<p.fe.length)(hk:g.k=(el p.fe n).k)(hg:nt p.now g=ak)(hs:g.sta=1->(el p.fe n).sta=1)(h1:1<=st/\st<=3):fu (told p n g st):=by
 rw[eQ hn]at hk hs;refine⟨h.now,h.en,h.so,h.ek,h.pol,h.len, ?_,λf hf=> ?_, ?_, ?_,λc hc=> ?_, ?_,h.hits⟩
 ·show(p.fe.set n g).length<=20;rw[cw];exact h.fl
 ·rcases gT hf with q|rfl
  ·exact h.fe f q
  ·exact hg
 ·show(p.fe.set n g).Pairwise _;rw[dr];intro i j hi hj M8;rw[cw]at hi hj;have:=dr.1 h.ap i j hi hj M8;rw[PI,PI];unfold lW at this⊢;by_cases e1:n=i
  ·by_cases e2:n=j
   ·omega
   ·subst e1;simp only[if_true,e2,if_false];rw[hk];by_cases e3:g.sta=1
    ·rw[hs e3]at this;rw[e3];exact this
    ·rw[aM e3];simp
  ·by_cases e2:n=j
   ·subst e2;simp only[e1,if_true,if_false];rw[hk];by_cases e3:g.sta=1
    ·rw[hs e3]at this;rw[e3];exact this
    ·rw[aM e3];simp
   ·simp only[e1,e2,if_false];exact this
 ·show(rW.j7 p.cl n st g.t).length<=6;unfold rW.j7;rw[bP];exact h.cll
 ·have Hc:c∈rW.j7 p.cl n st g.t:=hc;unfold rW.j7 at Hc;obtain⟨d,hd,rfl⟩:=cG.1 Hc;have h2:=h.cl d hd;show F8 p.now (p.fe.set n g).length _=ak;rw[cw];unfold rW.ec;cases decide (d.fe=(n:aA)+1)&&decide (d.sta=1)with
  |false=>exact h2
  |true=>rw[ay];unfold F8 at h2⊢;unfold nt at hg;simp only[aK,bf]at h2 hg⊢;exact⟨h2.1,h2.2.1,h1,h2.2.2.2.1,hg.2.1,h2.2.2.2.2.2⟩
 ·show(rW.j7 p.cl n st g.t).Pairwise _;unfold rW.j7;rw[jX];refine h.cs.imp λ{a b} hab=> ?_;have e:∀d:Cl,(rW.ec n st g.t d).id=d.id:=λd=>by unfold rW.ec;cases decide (d.fe=(n:aA)+1)&&decide (d.sta=1)<;>rfl
  rw[e,e];exact hab
theorem Lh{p:Px}(h:fu p){n:aG}(hn:n<p.fe.length):ej (el p.fe n).k=ak/\((el p.fe n).t.size:aA)<=400/\(1<=(el p.fe n).sta/\(el p.fe n).sta<=3)/\(0<=(el p.fe n).li/\(el p.fe n).li<=999999)/\0<=(el p.fe n).st/\(el p.fe n).st<=p.now:=by have:=h.fe _ (oK hn);unfold nt at this;simpa only[aK,bf]using this
theorem IY{p:Px}(f:aA)(h:fu p):fu (rA p f).1:=by
 unfold rA;cases ho:qZ p f with
 |false=>exact h
 |true=>obtain⟨n,rfl,hn,_,h1⟩:=iv ho;obtain⟨g1,g2,g3,g4,g5⟩:=Lh h hn;refine Ab h hn rfl ?_ (λe=>cq e (by dsimp only;omega)) (by omega);unfold nt;simp only[aK,bf];exact⟨g1,g2,by omega,g4,g5⟩
theorem JZ{p:Px}(f:aA)(t:au)(h:fu p):fu (rF p f t).1:=by
 unfold rF;cases ho:qZ p f&&(decide (1<=t.size/\t.size<=40)&&decide ((el p.fe f.toNat).t.size+t.size<=400))with
 |false=>exact h
 |true=>
  simp only[aK,bf]at ho;obtain⟨n,rfl,hn,_,h1⟩:=iv ho.1;obtain⟨g1,g2,g3,g4,g5⟩:=Lh h hn;rw[dx]at ho;refine Ab h hn rfl ?_ (λ_=>h1) (by omega);unfold nt;simp only[aK,bf];refine⟨g1, ?_,g3,g4,g5⟩
  show((((el p.fe n).t++t).size:aG):aA)<=400;rw[dz];omega
def MF(en:az En)(w m:az au):Prop:=∀k,k∈w\/k∈m↔∃e∈en,e.k=k
theorem H4{en:az En}(h:So en):(en.map λe=>e.k).Nodup:=by rw[o6,jX];refine h.imp λ{a b} hab e=> ?_;rw[e]at hab;unfold fO at hab;rw[fH.oj]at hab;cases hab
theorem z8{p:Px}(h:fu p):MF p.en p.w p.m:=by
 obtain⟨⟨_,nd⟩,_⟩:=jg.1 h.pol;have ne:=H4 h.so;have sub:(p.en.map λe=>e.k)⊆p.w++p.m:=λx hx=>by obtain⟨e,he,rfl⟩:=cG.1 hx;exact a_.2 (h.ek e he)
 intro k;constructor
 ·intro hk;have hk:k∈p.w++p.m:=a_.2 hk;refine zf λhn=> ?_;have nn:(k::p.en.map λe=>e.k).Nodup:=j5.2 ⟨λhx=>hn (by obtain⟨e,he,q⟩:=cG.1 hx;exact⟨e,he,q⟩),ne⟩;have:=nn.length_le_of_subset (l₂:=p.w++p.m) (λx hx=>by
   rcases cz.1 hx with rfl|hx
   ·exact hk
   ·exact sub hx)
  have hl:=h.len;simp only[c5,bP,bO]at this;omega
 ·rintro ⟨e,he,rfl⟩;exact h.ek e he
theorem of_same{en:az En}{w m:az au}{s:az (az aA)}{a:aA}(h:MF en w m)(so:So en)(hp:rU w m s a=ak):(∀e∈en,e.k∈w\/e.k∈m)/\w.length+m.length=en.length:=by
 obtain⟨⟨_,nd⟩,_⟩:=jg.1 hp;refine⟨λe he=>(h _).2 ⟨e,he,rfl⟩, ?_⟩
 have:=((List.perm_ext_iff_of_nodup nd (H4 so)).2 λx=>by rw[a_,h x,cG]).length_eq;rw[bO,bP]at this;exact this
theorem iW{en:az En}{k:au}{e:En}:e∈fC en k↔e∈en/\e.k≠k:=by unfold fC;simp
theorem mW{en:az En}{x e:En}:x∈ma en e↔x=e\/(x∈en/\x.k≠e.k):=by
 unfold ma;simp only[a_,dq,aZ,dD,ie,gK];constructor
 ·rintro ((⟨h1,h2⟩|rfl)|⟨h1,h2⟩)
  ·refine .inr ⟨h1,λe2=> ?_⟩;rw[e2]at h2;unfold fO at h2;rw[fH.oj]at h2;cases h2
  ·exact .inl rfl
  ·exact .inr ⟨h1,h2.2⟩
 ·rintro (rfl|⟨h1,h2⟩)
  ·exact .inl (.inr rfl)
  ·cases hl:fO x.k e.k with
   |true=>exact .inl (.inl ⟨h1,rfl⟩)
   |false=>exact .inr ⟨h1,rfl,h2⟩
theorem yx{en:az En}(h:So en)(e:En):So (ma en e):=by have:=(fH.vV (gE.Bs h) e.k e.st e.li e.bo).1.1;rw[gE.sL]at this;unfold Lib.re at this;rw[jX]at this;exact this
theorem Kh{p:Px}{e:En}(h:fu p)(he:tU e=ak):fu (zb p e):=by
 have hk:ej e.k=true:=by have:=(iL.Gd he).1;unfold ej;exact aJ (by omega)
 obtain⟨t1,t2⟩:=sP h.pol hk;have sm:=z8 h;unfold zb;generalize js.val p.w p.m p.s p.a e.k=V at t1 t2;obtain⟨W,M,S,A,G⟩:=V;dsimp only at t1 t2⊢;have key:∀en',So en'->(∀x∈en',tU x=ak)->MF en' W M->fu ⟨p.now,en',W,M,S,A,p.fe,p.cl,p.hits⟩:=λen' o1 o2 o3=>by obtain⟨q1,q2⟩:=of_same o3 o1 t1;exact⟨h.now,o2,o1,q1,t1,q2,h.fl,h.fe,h.ap,h.cll,h.cl,h.cs,h.hits⟩
 have d1:So (fC p.en G):=h.so.drop G;have d2:∀x∈fC p.en G,tU x=true:=λx hx=>h.en x (iW.1 hx).1;cases hh:has W e.k||has M e.k with
 |true=>
  rw[ay];have gO:e.k∈W\/e.k∈M:=by rwa[dE,gk,gk]at hh
  refine key _ (yx d1 e) (λx hx=> ?_) λk=> ?_
  ·rcases mW.1 hx with rfl|q
   ·exact he
   ·exact d2 x q.1
  ·rw[t2 k];have hg:=((t2 e.k).1 gO).2;constructor
   ·rintro ⟨q,hn⟩;by_cases e1:k=e.k
    ·exact⟨e,mW.2 (.inl rfl),e1.symm⟩
    ·have q2:k∈p.w\/k∈p.m:=q.elim .inl λq=>q.elim .inr λq=>cq q e1;obtain⟨x,hx,rfl⟩:=(sm k).1 q2;exact⟨x,mW.2 (.inr ⟨iW.2 ⟨hx,hn⟩,e1⟩),rfl⟩
   ·rintro ⟨x,hx,rfl⟩;rcases mW.1 hx with rfl|q
    ·exact⟨.inr (.inr rfl),hg⟩
    ·obtain⟨q1,q2⟩:=iW.1 q.1;exact⟨((sm x.k).2 ⟨x,q1,rfl⟩).elim .inl λz=> .inr (.inl z),q2⟩
 |false=>
  rw[aC];have gO:¬(e.k∈W\/e.k∈M):=by rw[<-gk,<-gk,<-dE,hh];simp
  have hg:e.k=G:=zf λhn=>gO ((t2 e.k).2 ⟨.inr (.inr rfl),hn⟩);refine key _ d1 d2 λk=> ?_;rw[t2 k];constructor
  ·rintro ⟨q,hn⟩;have q2:k∈p.w\/k∈p.m:=q.elim .inl λq=>q.elim .inr λq=>cq (q.trans hg) hn;obtain⟨x,hx,rfl⟩:=(sm k).1 q2;exact⟨x,iW.2 ⟨hx,hn⟩,rfl⟩
  ·rintro ⟨x,hx,rfl⟩;obtain⟨q1,q2⟩:=iW.1 hx;exact⟨((sm x.k).2 ⟨x,q1,rfl⟩).elim .inl λz=> .inr (.inl z),q2⟩
end yG

namespace EF
theorem eq(k:au)(s l:aA)(b:au)(n:aA):IP.v k s l b n=EF.v k s l b n:=by
 have e:Ay.v k s l b=iL.v k s l b:=rfl;unfold IP.v EF.v;rw[e];cases h:iL.v k s l b with
 |false=>rfl
 |true=>
  have hs:(0<=s/\s<=1000000000)/\1<=l/\l<=999999:=by unfold iL.v at h;cases h1:Gx.v k<;>rw[h1]at h<;>simp only[ay,aC,dj]at h;cases h2:kG.v s 0 1000000000<;>rw[h2]at h<;>simp only[ay,aC,dj]at h;cases h3:kG.v l 1 999999<;>rw[h3]at h<;>simp only[ay,aC,dj]at h;simp[kG.v]at h2 h3;omega
  simp only[ay,Ax.v,oe.v,kG.v,c8,bf];by_cases h1:0<=n/\n<=1000000000
  ·rw[jQ (x:=n-s) (by omega) (by omega),jQ (x:=s+l) (by omega) (by omega),jQ (x:=s+l-1) (by omega) (by omega)];by_cases h2:s<=n<;>by_cases h3:n-s<l<;>simp[h1,h2,h3]<;>omega
  ·by_cases h2:s<=n<;>by_cases h3:0<=n<;>by_cases h4:n<=1000000000<;>simp[h2,h3,h4]<;>omega
end EF

namespace Af
open Lib (Px Cl Fe En el)
open eS (has without gk jP)
open jj (ej rU)
open m8 (tU)
open m9 (nt lW)
open p8 (iX)
open gE (So fO fC ma)
open nP (fu F8 mS)
open Gj (jg sP J9 Fk)
open yG (MF z8 of_same iW)
open dY (X6 n_ put Cw CJ Br jm jn qn tV)
theorem W0(l:az Cl)(n:aA):(l.filter λx=>decide (x.id<n)).length+(l.filter λx=>decide (x.id>n)).length<=l.length:=by
 induction l with
 |nil=>exact cu _
 |cons y l ih=>
  simp only[List.filter_cons];by_cases h1:y.id<n
  ·rw[aJ h1,aM (show¬y.id>n by omega)];simp only[if_true,dj,if_false,c5];omega
  ·rw[aM h1];by_cases h2:y.id>n
   ·rw[aJ h2];simp only[if_true,dj,if_false,c5];omega
   ·rw[aM h2];simp only[dj,if_false,c5];omega
theorem YN{l:az Cl}{c:Cl}(cs:l.Pairwise λa b=>a.id<b.id):(jn l c).length<=l.length+1/\((jn l c).Pairwise λa b=>a.id<b.id)/\∀x∈jn l c,x=c\/x∈l:=by
 unfold jn;refine⟨?_, ?_,λx hx=> ?_⟩
 ·have:=W0 l c.id;simp only[bO,c5,jr];omega
 ·rw[cj,tJ];refine⟨cs.filter _, ?_,λa ha b hb=> ?_⟩
  ·rw[tK,qb];exact⟨λb hb=>b9 (dq.1 hb).2,cs.filter _⟩
  ·have ha:=b9 (dq.1 ha).2;rcases a_.1 hb with hb|hb
   ·rw[aZ]at hb;rw[hb];exact ha
   ·have hb:=b9 (dq.1 hb).2;omega
 ·rcases a_.1 hx with hx|hx
  ·rcases a_.1 hx with hx|hx
   ·exact .inr (dq.1 hx).1
   ·exact .inl (aZ.1 hx)
  ·exact .inr (dq.1 hx).1
theorem WZ{w m:az au}{s:az (az aA)}{a:aA}{key:au}(h:key∈w\/key∈m):(js.val w m s a key).2.2.2.2=⟨#[]⟩:=by
 unfold js.val;cases rU w m s a&&ej key with
 |false=>rfl
 |true=>
  rw[ay];cases h1:has w key with
  |true=>rfl
  |false=>have h2:has m key=true:=gk.2 (h.resolve_left (jP.1 h1));rw[h2];rfl
theorem Te{w m:az au}{s:az (az aA)}{a:aA}{key:au}(h:rU w m s a=ak)(hk:ej key=ak):(has (js.val w m s a key).1 key||has (js.val w m s a key).2.1 key)=true:=by
 obtain⟨⟨k1,nd⟩,l1,l2,hs⟩:=jg.1 h;rw[dE,gk,gk];refine((sP h hk).2 key).2 ⟨.inr (.inr rfl), ?_⟩;have kn:=Fk hk;unfold js.val;rw[h,hk,aP,ay];cases h1:has w key with
 |true=>exact kn
 |false=>
  rw[aC];have hw:=jP.1 h1;cases h2:has m key with
  |true=>exact kn
  |false=>
   rw[aC];have hm:=jP.1 h2;by_cases h3:(w++[key]).length<=2
   ·rw[aJ h3];exact kn
   ·rw[aM h3,aC];have h_:(w++[key]).getD 0 ⟨#[]⟩≠key:=by
     cases w with
     |nil=>simp at h3
     |cons x w=>intro e;exact hw (by rw[<-e];simp)
    by_cases h4:m.length<4
    ·rw[aJ h4];exact kn
    ·rw[aM h4,aC];cases decide (lY.val (fG.val s a key).1 (fG.val s a key).2 ((w++[key]).getD 0 ⟨#[]⟩)>lY.val (fG.val s a key).1 (fG.val s a key).2 (m.getD 0 ⟨#[]⟩))with
     |true=>
      intro e;cases m with
      |nil=>simp at h4
      |cons x m=>exact hm (by rw[e];simp)
     |false=>exact λe=>h_ e.symm
theorem abu{p:Px}{id:aA}{key:au}{e:En}(h:fu p)(B8:1<=id/\id<=9)(hk:ej key=ak)(hl:p.cl.length<6)(he:e∈p.en)(hek:e.k=key)(JA:e.st<=p.now):fu (X6 p id key e):=by
 have gO:key∈p.w\/key∈p.m:=by rw[<-hek];exact h.ek e he
 obtain⟨t1,t2⟩:=sP h.pol hk;have tg:=WZ (s:=p.s) (a:=p.a) gO;have sm:=z8 h;have hr:=iL.Gd (h.en e he);obtain⟨j1,j2,j3⟩:=YN (c:=⟨id,key,0,e.st,2,e.bo,p.now-e.st⟩) h.cs;unfold X6;generalize js.val p.w p.m p.s p.a key=V at t1 t2 tg;obtain⟨W,M,S,A,G⟩:=V;dsimp only at t1 t2 tg⊢;subst tg;have sm2:MF p.en W M:=λk=>by
  rw[t2 k];refine Iff.trans ?_ (sm k);constructor
  ·rintro ⟨q|q|rfl,_⟩
   ·exact .inl q
   ·exact .inr q
   ·exact gO
  ·intro q;refine⟨q.elim .inl λq=> .inr (.inl q), ?_⟩
   obtain⟨x,hx,rfl⟩:=(sm k).1 q;have:=(iL.Gd (h.en x hx)).1;intro e;rw[e]at this;exact cq this.1 (by decide)
 obtain⟨q1,q2⟩:=of_same sm2 h.so t1;refine⟨h.now,h.en,h.so,q1,t1,q2,h.fl,h.fe,h.ap,by dsimp only;omega,λc hc=> ?_,j2, ?_⟩
 ·rcases j3 c hc with rfl|hc
  ·unfold F8;simp only[aK,bf];exact⟨B8,hk,by omega,⟨by omega,by omega⟩,by omega,⟨by omega,JA⟩,by omega⟩
  ·exact h.cl c hc
 ·have:=h.hits;dsimp only;by_cases hh:p.hits<1000000000
  ·rw[aJ hh,ay];omega
  ·rw[aM hh,aC];exact this
theorem FL{l:az au}{k x:au}:x∈without l k↔x∈l/\x≠k:=by unfold without;simp
theorem Ft{p:Px}{id:aA}{key:au}{h:aY}{fe:az Fe}{i:aG}(ho:fu p)(B8:1<=id/\id<=9)(hk:ej key=ak)(hl:p.cl.length<6)(hn:p.fe.length<=fe.length)(M4:fe.length<=20)(hf:∀f∈fe,nt p.now f=ak)(hap:fe.Pairwise λf g=>lW g f=aq)(hi:i<fe.length)(hp:h=aq->True):fu (put p id key h fe i):=by
 obtain⟨⟨k1,nd⟩,l1,l2,hs⟩:=jg.1 ho.pol;have LB:=J9 key hs;have sm:=z8 ho;obtain⟨j1,j2,j3⟩:=YN (c:=⟨id,key,(i:aA)+1,0,1,(el fe i).t,0⟩) ho.cs;have hfi:=hf _ (oK hi);have nh:∀c∈jn p.cl ⟨id,key,(i:aA)+1,0,1,(el fe i).t,0⟩,F8 p.now fe.length c=true:=λc hc=>by
  rcases j3 c hc with rfl|hc
  ·unfold nt at hfi;unfold F8;simp only[aK,bf]at hfi⊢;have:=ho.now;exact⟨B8,hk,by omega,⟨by omega,by omega⟩,hfi.2.1,⟨by omega,by omega⟩,by omega⟩
  ·have:=ho.cl c hc;unfold F8 at this⊢;simp only[aK,bf]at this⊢;exact⟨this.1,this.2.1,this.2.2.1,⟨this.2.2.2.1.1,by omega⟩,this.2.2.2.2⟩
 unfold put;cases h with
 |false=>have U0:rU p.w p.m (fG.val p.s p.a key).1 (fG.val p.s p.a key).2=true:=jg.2 ⟨⟨k1,nd⟩,l1,l2,LB⟩;exact⟨ho.now,ho.en,ho.so,ho.ek,U0,ho.len,M4,hf,hap,by dsimp only;omega,nh,j2,ho.hits⟩
 |true=>
  have U0:rU (without p.w key) (without p.m key) (fG.val p.s p.a key).1 (fG.val p.s p.a key).2=true:=by
   refine jg.2 ⟨⟨λk hx=> ?_, ?_⟩,c_ eS.gX l1,c_ eS.gX l2,LB⟩
   ·rcases a_.1 hx with q|q
    ·exact k1 k (a_.2 (.inl (FL.1 q).1))
    ·exact k1 k (a_.2 (.inr (FL.1 q).1))
   ·have:without p.w key++without p.m key=(p.w++p.m).filter λx=> !decide (x=key):=by unfold without;rw[iN]
    rw[this];exact nd.sublist jo
  have sm2:MF (fC p.en key) (without p.w key) (without p.m key):=λk=>by
   rw[FL,FL];constructor
   ·intro q;have h_:k≠key:=q.elim (·.2) (·.2);obtain⟨x,hx,rfl⟩:=(sm k).1 (q.elim (λq=> .inl q.1) (λq=> .inr q.1));exact⟨x,iW.2 ⟨hx,h_⟩,rfl⟩
   ·rintro ⟨x,hx,rfl⟩;obtain⟨hx,h_⟩:=iW.1 hx;exact((sm x.k).2 ⟨x,hx,rfl⟩).elim (λq=> .inl ⟨q,h_⟩) (λq=> .inr ⟨q,h_⟩)
  have so:=ho.so.drop key;obtain⟨q1,q2⟩:=of_same sm2 so U0;exact⟨ho.now,λe he=>ho.en e (iW.1 he).1,so,q1,U0,q2,M4,hf,hap,by dsimp only;omega,nh,j2,ho.hits⟩
theorem LK{p:Px}{id:aA}{key:au}{h:aY}(ho:fu p)(B8:1<=id/\id<=9)(hk:ej key=ak)(hl:p.cl.length<6):fu (n_ p id key h).1:=by
 unfold n_;cases hop:CJ p.fe key with
 |some i=>have hi:i<p.fe.length:=(mi.1 hop).1;exact Ft ho B8 hk hl (cu _) ho.fl ho.fe ho.ap hi (λ_=>trivial)
 |none=>
  dsimp only;by_cases M4:p.fe.length<20
  ·rw[aJ M4,ay];have uV:∀f∈p.fe,Br key f=false:=λf hf=>by have:=pJ.1 hop f hf;simpa using this
   have amU:=ho.now;refine Ft ho B8 hk hl (by simp) (by simp;omega) (λf hf=> ?_) ?_ (by simp) (λ_=>trivial)
   ·rcases a_.1 hf with q|q
    ·exact ho.fe f q
    ·rw[aZ]at q;subst q;unfold nt qn;simp only[aK,bf];exact⟨hk,by show((0:aG):aA)<=400;omega,by omega,by omega,by omega,by omega⟩
   ·rw[tJ];refine⟨ho.ap,by simp,λa ha b hb=> ?_⟩
    rw[aZ]at hb;subst hb;have:=uV a ha;unfold Br at this;unfold lW qn;dsimp only;revert this;rw[show decide (key=a.k)=decide (a.k=key)from by rw[ch];exact G1];cases decide (a.k=key)<;>cases decide (a.sta=1)<;>simp
  ·rw[aM M4];exact ho
theorem IV{p:Px}(id:aA)(key:au)(h:fu p):fu (dY.ask p id key).1:=by
 unfold dY.ask;cases hg:iX p&&(decide (1<=id/\id<=9)&&(ej key&&(!jm p.cl id&&decide (p.cl.length<6))))with
 |false=>exact h
 |true=>
  simp only[aK,bf]at hg;obtain⟨_,B8,hk,_,hl⟩:=hg;rw[ay];cases he:Cw p.en key with
  |none=>exact LK h B8 hk hl
  |some e=>
   dsimp only;cases hf:tV e p.now with
   |false=>exact LK h B8 hk hl
   |true=>
    unfold Cw at he;have h1:=FW he;have h2:=List.find?_some he;refine abu h B8 hk hl h1 (b9 h2) ?_;unfold tV at hf;rw[EF.eq]at hf;unfold EF.v at hf;rw[show iL.v e.k e.st e.li e.bo=ak from h.en e h1,ay,show kG.v p.now e.st 1000000000=decide (e.st<=p.now/\p.now<=1000000000)from fg.eM _ _ _]at hf;cases hd:decide (e.st<=p.now/\p.now<=1000000000)with
    |true=>exact(b9 hd).1
    |false=>rw[hd]at hf;cases hf
end Af

namespace DQ
open Lib (Px Cl Fe En el)
open nP (fu F8 mS)
open yG (XS)
theorem DA{now n:aA}(h:1<=now/\now<=1000000000):now<=IL.later now n/\IL.later now n<=1000000000:=by
 unfold IL.later;have:=Uc n (show(1000:aA)≠0 by omega);have:=N0 n (show(0:aA)<1000 by omega);by_cases hc:now>1000000000-n%1000
 ·rw[aJ hc,ay];omega
 ·rw[aM hc,aC,dc (by omega) (by omega)];omega
theorem WB{p:Px}(n:aA)(h:fu p):fu (IL.val p n):=XS h (DA h.now).1 (DA h.now).2
theorem Hw{p:Px}(id:aA)(h:fu p):fu (Gw.val p id):=
 ⟨h.now,h.en,h.so,h.ek,h.pol,h.len,h.fl,h.fe,h.ap,c_ (eF _ _) h.cll,λc hc=>h.cl c (dq.1 hc).1,h.cs.sublist jo,h.hits⟩
end DQ

namespace jx
open Lib (Px Cl Fe En el)
open eS (has gk)
open jj (ej rU)
open m8 (tU)
open m9 (nt lW)
open p8 (iX)
open nP (fu F8 mS)
open fZ (qZ told rA rF iv)
open p9 (cls l8)
open jR (zb)
open jY (Di Jq tx kp rV)
open ov (dk es)
open jZ (Wo Ev closed ES ng pc flag)
open yG (Ab Lh IY JZ Kh)
def on(l:az Fe):aG:=l.countP λf=>decide (f.sta=1)
theorem vb5{x:aA}(h:x<=1000000000):(bytesOf (Lib.vb x)).size<=5:=by
 rw[Lib.iw]
 exact Lib.Ae 4 x (by have:(128:aA)^5=34359738368:=by decide
                      omega)
theorem Qr{e:En}(h:Di e=ak):(Jq e).size<=460:=by
 have hr:=iL.Gd h;have z1:=vb5 (x:=(e.k.size:aA)) (by omega);have z2:=vb5 (x:=e.st) (by omega);have z3:=vb5 (x:=e.li) (by omega);have ht:(rV e).size<=445:=by unfold rV jN.rV;simp only[Lib.lz];omega
 have z4:=vb5 (x:=((rV e).size:aA)) (by omega);unfold Jq fP.fr;rw[Lib.lz,Lib.lz,o_.size];omega
theorem aai(l:az En)(h:∀e∈l,Di e=ak):(tx l).size<=460*l.length:=by
 induction l with
 |nil=>exact cu _
 |cons e l ih=>have h1:=Qr (h e (by simp));have h2:=ih λx hx=>h x (by simp[hx]);have:(tx (e::l)).size=(Jq e).size+(tx l).size:=dz;rw[this,c5];omega
structure zp (i:aG) (w:Wo):Prop where
 px:fu w.p
 eo:∀e∈es w.o,Di e=ak
 ct:2*(es w.o).length+on w.p.fe<=i
 cd:w.cd.length=i
 bd:w.bd.length<=i
 bo:∀e∈w.bd,Di e=ak
theorem zp.len{i:aG}{w:Wo}(h:zp i w)(hi:i<=71):(es w.o).length<=35:=by have:=h.ct;omega
theorem zp.tx{i:aG}{w:Wo}(h:zp i w)(hi:i<=71):(tx (es w.o)).size<=16100:=by have:=aai _ h.eo;have:=h.len hi;omega
theorem JP{l:az Fe}{n:aG}{g:Fe}(hn:n<l.length):on (l.set n g)+(if(el l n).sta=1 then 1 else 0)=on l+(if g.sta=1 then 1 else 0):=by
 unfold on;rw[List.countP_set hn,eQ hn];have hle:l[n].sta=1->1<=l.countP λf=>decide (f.sta=1):=λh=>List.countP_pos_iff.2 ⟨_,bD hn,aJ h⟩;generalize l.countP (λf=>decide (f.sta=1))=m at hle;by_cases h1:l[n].sta=1
 ·have:=hle h1;by_cases h2:g.sta=1
  ·rw[bC h1,bC h2,bC (aJ h1),bC (aJ h2)];omega
  ·rw[bC h1,bL h2,bC (aJ h1),bL (by rw[aM h2];simp)];omega
 ·by_cases h2:g.sta=1
  ·rw[bL h1,bC h2,bL (by rw[aM h1];simp),bC (aJ h2)];omega
  ·rw[bL h1,bL h2,bL (by rw[aM h1];simp),bL (by rw[aM h2];simp)];omega
theorem Sg{now:aA}(hn:1<=now/\now<=1000000000)(l:az En):fu (gU.we now l):=by
 have key:∀(l:az En) (p:Px),fu p->fu (l.foldl (gU.one now) p):=by
  intro l;induction l with
  |nil=>intro p h;exact h
  |cons e l ih=>
   intro p h;rw[Ce];refine ih _ ?_;unfold gU.one;cases hf:gU.tV e now with
   |true=>exact Kh h (gU.EY hf)
   |false=>exact h
 refine key l _ ⟨hn,λe h=>(by cases h),gG,λe h=>(by cases h), ?_,rfl,bK _,λf h=>(by cases h),gG,bK _,λc h=>(by cases h),gG,by show(0:aA)<=0/\(0:aA)<=1000000000;omega⟩;refine Gj.jg.2 ⟨⟨λk h=>(by cases h),List.nodup_nil⟩,bK _,bK _,Gj.FC.2 ⟨rfl,by show(0:aA)<=0/\(0:aA)<=63;omega,λq hq=> ?_⟩⟩;have:q=gU.Ic:=by change q∈[gU.Ic,gU.Ic,gU.Ic]at hq;simp at hq;exact hq
 subst this;refine⟨rfl,λn hn=> ?_⟩
 unfold gU.Ic at hn;simp at hn;omega
theorem I_{p:Px}{f life:aA}(h:fu p)(hl:0<=life/\life<=999999):
  fu (cls p f life).1/\(((cls p f life).2=aq/\(cls p f life).1=p)\/((cls p f life).2=ak/\∃n:aG,f=(n:aA)/\n<p.fe.length/\(cls p f life).1.fe=p.fe.set n {el p.fe n with sta:=2,li:=life,st:=p.now}/\(el p.fe n).sta=1/\
   (life>0->Di (l8 {el p.fe n with sta:=2,li:=life,st:=p.now})=ak/\(has (cls p f life).1.w (el p.fe n).k||has (cls p f life).1.m (el p.fe n).k)=ak))):=by
 unfold cls;cases ho:qZ p f&&decide (0<=life/\life<=999999)with
 |false=>exact⟨h, .inl ⟨rfl,rfl⟩⟩
 |true=>
  rw[aK]at ho;obtain⟨n,rfl,hn,_,h1⟩:=iv ho.1;obtain⟨g1,g2,g3,g4,g5⟩:=Lh h hn;have amU:=h.now;rw[ay,dx];have ht:fu (told p n {el p.fe n with sta:=2,li:=life,st:=p.now} 2):=by refine Ab h hn rfl ?_ (λe=>cq e (by dsimp only;omega)) (by omega);unfold nt;simp only[aK,bf];exact⟨g1,g2,by omega,hl,by omega,by omega⟩
  have he:life>0->Di (l8 {el p.fe n with sta:=2,li:=life,st:=p.now})=true:=λM_=>by unfold Di l8 iL.v;dsimp only;rw[jj.iu,g1,ay,show kG.v p.now 0 1000000000=decide (0<=p.now/\p.now<=1000000000)from fg.eM _ _ _,aJ (show 0<=p.now/\p.now<=1000000000 by omega),ay,show kG.v life 1 999999=decide (1<=life/\life<=999999)from fg.eM _ _ _,aJ (show 1<=life/\life<=999999 by omega),ay];exact aJ g2
  by_cases M_:life>0
  ·rw[aJ M_,ay];have gO:=Af.Te (key:=(el p.fe n).k) ht.pol g1;exact⟨Kh ht (he M_), .inr ⟨rfl,n,rfl,hn,rfl,h1,λ_=>⟨he M_,gO⟩⟩⟩
  ·rw[aM M_,aC];exact⟨ht, .inr ⟨rfl,n,rfl,hn,rfl,h1,λh=>cq h M_⟩⟩
theorem aaW(p:Px)(id:aA)(key:au):on (dY.ask p id key).1.fe<=on p.fe+1:=by
 have hm:∀h,on (dY.n_ p id key h).1.fe<=on p.fe+1:=λh=>by
  unfold dY.n_;cases dY.CJ p.fe key with
  |some i=>exact ja _
  |none=>
   dsimp only;cases decide (p.fe.length<20)with
   |true=>show on (p.fe++[dY.qn key])<=_;unfold on;rw[List.countP_append];exact cu _
   |false=>exact ja _
 unfold dY.ask;cases iX p&&(decide (1<=id/\id<=9)&&(ej key&&(!dY.jm p.cl id&&decide (p.cl.length<6))))with
 |false=>exact ja _
 |true=>
  rw[ay];cases dY.Cw p.en key with
  |none=>exact hm _
  |some e=>
   dsimp only;cases dY.tV e p.now with
   |false=>exact hm _
   |true=>exact ja _
theorem Ha(w:Wo):(ng w).length<=(es w.o).length:=c_ (eF ..) (jY.Q7 _)
theorem Lq{w:Wo}(h:∀e∈es w.o,Di e=ak):∀e∈ng w,Di e=true:=λe he=>h e (jY.JH (dq.1 he).1)
theorem z_{i:aG}{w:Wo}{e:Ev}(h:zp i w)(he:pc e=ak):zp (i+1) (jZ.step w e):=by
 unfold pc at he;simp only[aK,bf]at he;obtain⟨hk,B8,ht,hn,hl⟩:=he;have hct:=h.ct;have hbd:=h.bd;have cdl:∀n:aA,(w.cd++[n]).length=i+1:=λn=>by rw[bO,h.cd];rfl
 have px':∀(p:Px) (n:aA),fu p->on p.fe<=on w.p.fe+1->zp (i+1) {{w with p:=p}with cd:=w.cd++[n]}:=λp n hp ho=>⟨hp,h.eo,by dsimp only;omega,cdl n,mG h.bd,h.bo⟩
 unfold jZ.step jZ.act;by_cases k1:e.k=1
 ·rw[aJ k1,ay];exact px' _ _ (Af.IV _ _ h.px) (aaW ..)
 rw[aM k1,aC];by_cases k2:e.k=2
 ·rw[aJ k2,ay];refine px' _ _ (JZ _ _ h.px) ?_;unfold rF;cases ho:qZ w.p e.id&&(decide (1<=e.t.size/\e.t.size<=40)&&decide ((el w.p.fe e.id.toNat).t.size+e.t.size<=400))with
  |false=>exact ja _
  |true=>
   rw[aK]at ho;obtain⟨n,en,hn,_,h1⟩:=iv ho.1;rw[en,dx];have q:∀g:Fe,g.sta=(el w.p.fe n).sta->on (w.p.fe.set n g)<=on w.p.fe+1:=λg hg=>by have:=JP (g:=g) hn;rw[hg]at this;omega
   exact q _ rfl
 rw[aM k2,aC];by_cases k3:e.k=3
 ·rw[aJ k3,ay];have hlr:0<=e.n%1000000/\e.n%1000000<=999999:=by omega
  obtain⟨q1,q2⟩:=I_ (f:=e.id) h.px hlr;unfold closed;dsimp only;rcases q2 with ⟨r1,r2⟩|⟨r1,n,rn,hn,rf,rs,rl⟩
  ·rw[r1,pG,aC];exact px' _ _ q1 (by rw[r2];exact ja _)
  ·have:=JP (g:={el w.p.fe n with sta:=2,li:=e.n%1000000,st:=w.p.now}) hn;rw[bC rs,bL (show¬(2:aA)=1 by omega)]at this;have ho:on (cls w.p e.id (e.n%1000000)).1.fe+1=on w.p.fe:=by rw[rf];exact this
   rw[r1,bj];by_cases M_:e.n%1000000>0
   ·rw[aJ M_,ay];obtain⟨s1,s2⟩:=rl M_;have hx:Di (l8 (el (cls w.p e.id (e.n%1000000)).1.fe e.id.toNat))=true:=by rw[rn,dx,<-rn,rf,fZ.iD hn];exact s1
    refine⟨q1,λy hy=> ?_, ?_,cdl _, ?_,λy hy=> ?_⟩
    ·rcases a_.1 hy with hy|hy
     ·exact h.eo y hy
     ·rw[aZ]at hy;rw[hy];exact hx
    ·show 2*(es w.o++[_]).length+on (cls w.p e.id (e.n%1000000)).1.fe<=i+1;rw[bO,bw];omega
    ·show(w.bd++[_]).length<=i+1;rw[bO,bw];omega
    ·rcases a_.1 hy with hy|hy
     ·exact h.bo y hy
     ·rw[aZ]at hy;rw[hy];exact hx
   ·rw[aM M_,aC];exact px' _ _ q1 (by omega)
 rw[aM k3,aC];by_cases k4:e.k=4
 ·rw[aJ k4,ay];refine px' _ _ (IY _ h.px) ?_;unfold rA;cases ho:qZ w.p e.id with
  |false=>exact ja _
  |true=>
   obtain⟨n,en,hn,_,h1⟩:=iv ho;rw[en,dx];have q:∀g:Fe,g.sta=3->on (w.p.fe.set n g)<=on w.p.fe+1:=λg hg=>by have:=JP (g:=g) hn;rw[bC h1,bL (show¬g.sta=1 by omega)]at this;omega
   exact q _ rfl
 rw[aM k4,aC];by_cases k5:e.k=5
 ·rw[aJ k5,ay];exact px' _ _ (DQ.WB _ h.px) (ja _)
 rw[aM k5,aC];by_cases k6:e.k=6
 ·rw[aJ k6,ay];exact px' _ _ (DQ.Hw _ h.px) (ja _)
 rw[aM k6,aC];have Lv:=Ha w;have hinv:=gU.Bd w.p.now (ng w) (ng w).length (cu _);rw[fD]at hinv;refine⟨Sg h.px.now _,Lq h.eo, ?_,cdl _,mG h.bd,h.bo⟩
 show 2*(ng w).length+on (gU.we w.p.now (ng w)).fe<=i+1;rw[hinv.fe];show 2*(ng w).length+0<=i+1;omega
end jx

namespace il
open Lib (rr rs re rf rc rd Px En el qz tY tZ t_)
open jZ (Wo Ev)
open ov (dk es)
def ri(l:az aA):aX:=l.map λn=>[CV.i ar n]
theorem gW(l:az aA):(ri l).length=l.length:=by unfold ri;simp
def Cq(w:Wo):aA×aX×aX×aX×aX×aA×aX×aX×aA×aX×aX×aX:=(w.p.now,re w.p.en,rs w.p.w,rs w.p.m,rr w.p.s,w.p.a,rf w.p.fe,rc w.p.cl,w.p.hits,rd (dk w.o),ri w.cd,re w.bd)
theorem DM(l:az En)(e:En):re l++aE (aT [Ck.s,Ck.i ar,Ck.i ar,Ck.s] 1) 0 [CV.s e.k,CV.i ar e.st,CV.i ar e.li,CV.s e.bo]=re (l++[e]):=by unfold Lib.re;rw[dh];rfl
theorem ahm(l:az aA)(n:aA):ri l++aE (aT [Ck.i ar] 1) 0 [CV.i ar n]=ri (l++[n]):=by unfold ri;rw[dh];rfl
theorem ap0(l:az En):aT [Ck.s,Ck.i ar,Ck.i ar,Ck.s] 0++re l=re l:=rfl
theorem ap1(l:az aA):aT [Ck.i ar] 0++ri l=ri l:=rfl
theorem tq(ks:az Ck)(y:az CV):(aE (aT ks 1) 0 y).length=1:=rfl
theorem iP{p:Px}(h:nP.fu p):p.Fit 1048576:=(jR.iP (nP.mS.2 h)).le (by omega)
theorem lt_eq{α β:Type}(x:α)(f:α->β):Lib.lt x f=f x:=by have h:∀y,y=Lib.lt x f->y=f x:=λy hy=>hy.trans (Eq.refl _);exact h _ (Eq.refl _)
end il

namespace bS
def I(q:aX)(a:aA):Prop:=0<=a/\a<=(q.length:aA)/\q.length<=1048576
theorem Gd(x:BitVec 64):0<=bM ((dO (iZ x (b_ 64 255)):aG):aA)/\bM ((dO (iZ x (b_ 64 255)):aG):aA)<=255:=by
 have h:dO (iZ x (b_ 64 255))<=255:=by have e:dO (iZ x (b_ 64 255))=x.toNat&&&255:=BitVec.toNat_and x (b_ 64 255);rw[e];exact Nat.and_le_right
 rw[dc (by omega) (by omega)];omega
theorem ok(q:aX)(a s:aA)(hI:I q a):∃n a' s',c q a s=ak/\v q a s=(n,q,a',s')/\I q a'/\0<=n/\n<=255:=by
 obtain⟨h0,h1,h2⟩:=hI;by_cases h:a<(q.length:aA)
 ·have hw:bM (a+1)=a+1:=dc (by omega) (by omega);have hvo:∃n s',vo q a s=aj (n,q,a+1,s')/\0<=n/\n<=255:=by unfold vo b;rw[aJ h,aJ h0,ay,aP,ay,hw];exact⟨_,_,rfl,Gd _⟩
  obtain⟨n,s',hv,hr⟩:=hvo;obtain⟨e1,e2⟩:=out q a s hv;exact⟨n,a+1,s',e1,e2,⟨by omega,by omega,h2⟩,hr⟩
 ·have hvo:∃n s',vo q a s=aj (n,q,a,s')/\0<=n/\n<=255:=by unfold vo b;rw[aM h,aC];exact⟨_,_,rfl,Gd _⟩
  obtain⟨n,s',hv,hr⟩:=hvo;obtain⟨e1,e2⟩:=out q a s hv;exact⟨n,a,s',e1,e2,⟨h0,h1,h2⟩,hr⟩
end bS

namespace gJ
theorem ok(q:aX)(a s k:aA)(hI:bS.I q a):∃n a' s',c q a s k=ak/\v q a s k=(n,q,a',s')/\bS.I q a'/\0<=n/\(0<k->n<k):=by
 by_cases hk:k<=0
 ·obtain⟨e1,e2⟩:=out q a s k (x:=(0,q,a,s)) (by unfold vo b;rw[aJ hk,ay]);exact⟨0,a,s,e1,e2,hI,by omega,λh=>by omega⟩
 ·have hm:∀x:aA,0<=x->0<=cF x k/\cF x k<k:=λx hx=>by rw[rZ hx];exact⟨Uc _ (by omega),N0 _ (by omega)⟩
  have hk0:¬k=0:=by omega
  obtain⟨n1,a1,s1,c1,v1,I1,g1,u1⟩:=bS.ok q a s hI;by_cases h2:k<=256
  ·obtain⟨e1,e2⟩:=out q a s k (x:=(cF n1 k,q,a1,s1)) (by unfold vo b;simp only[hk,h2,hk0,c1,v1,aR,bm,ay,aC,bX]);exact⟨_,a1,s1,e1,e2,I1,(hm n1 g1).1,λ_=>(hm n1 g1).2⟩
  ·obtain⟨n2,a2,s2,c2,v2,I2,g2,u2⟩:=bS.ok q a1 s1 I1;obtain⟨n3,a3,s3,c3,v3,I3,g3,u3⟩:=bS.ok q a2 s2 I2;obtain⟨n4,a4,s4,c4,v4,I4,g4,u4⟩:=bS.ok q a3 s3 I3;have w1:bM (n1*16777216)=n1*16777216:=dc (by omega) (by omega);have w2:bM (n2*65536)=n2*65536:=dc (by omega) (by omega);have w3:bM (n3*256)=n3*256:=dc (by omega) (by omega);have w4:bM (n1*16777216+n2*65536)=n1*16777216+n2*65536:=dc (by omega) (by omega);have w5:bM (n1*16777216+n2*65536+n3*256)=n1*16777216+n2*65536+n3*256:=dc (by omega) (by omega);have w6:bM (n1*16777216+n2*65536+n3*256+n4)=n1*16777216+n2*65536+n3*256+n4:=dc (by omega) (by omega);obtain⟨e1,e2⟩:=out q a s k (x:=(cF (n1*16777216+n2*65536+n3*256+n4) k,q,a4,s4)) (by unfold vo b;simp only[hk,h2,hk0,c1,v1,c2,v2,c3,v3,c4,v4,w1,w2,w3,w4,w5,w6,aR,bm,ay,aC,bX]);have:=hm (n1*16777216+n2*65536+n3*256+n4) (by omega);exact⟨_,a4,s4,e1,e2,I4,this.1,λ_=>this.2⟩
end gJ

namespace tN
theorem ok(q:aX)(a s k:aA)(hI:bS.I q a):∃x a' s',c q a s k=ak/\v q a s k=(x,q,a',s')/\bS.I q a':=by obtain⟨n1,a1,s1,c1,v1,I1,g1,u1⟩:=gJ.ok q a s k hI;obtain⟨e1,e2⟩:=out q a s k (x:=(decide (n1=0),q,a1,s1)) (by unfold vo b;simp only[c1,v1,ay]);exact⟨_,a1,s1,e1,e2,I1⟩
end tN

namespace yL
theorem ok(q:aX)(a s:aA)(l:aX)(hI:bS.I q a)(hl:0<l.length):∃i a' s',c q a s l=ak/\v q a s l=(bY (aw l i 0),q,a',s',l)/\bS.I q a'/\i<l.length:=by obtain⟨n1,a1,s1,c1,v1,I1,g1,u1⟩:=gJ.ok q a s (l.length:aA) hI;have hu:=u1 (by omega);obtain⟨e1,e2⟩:=out q a s l (x:=(bY (aw l n1.toNat 0),q,a1,s1,l)) (by unfold vo b;simp only[c1,v1,g1,hu,aR,aP,ay]);exact⟨n1.toNat,a1,s1,e1,e2,I1,by omega⟩
end yL

namespace o9
theorem ok(q:aX)(a s:aA)(l:aX)(hI:bS.I q a)(hl:0<l.length):∃i a' s',c q a s l=ak/\v q a s l=(bQ (aw l i 0),q,a',s',l)/\bS.I q a'/\i<l.length:=by obtain⟨n1,a1,s1,c1,v1,I1,g1,u1⟩:=gJ.ok q a s (l.length:aA) hI;have hu:=u1 (by omega);obtain⟨e1,e2⟩:=out q a s l (x:=(bQ (aw l n1.toNat 0),q,a1,s1,l)) (by unfold vo b;simp only[c1,v1,g1,hu,aR,aP,ay]);exact⟨n1.toNat,a1,s1,e1,e2,I1,by omega⟩
end o9

namespace tM
theorem ok(q:aX)(a s:aA)(hI:bS.I q a):∃k a' s',c q a s=ak/\v q a s=(k,q,a',s')/\bS.I q a'/\k.size=2:=by
 obtain⟨i,a1,s1,c1,v1,I1,g1⟩:=o9.ok q a s (aE (aE (aE (aE (aE (aE (aE (aE (aT [Ck.s] 8) 0 [CV.s {data:= #[ax 47,ax 97]}]) 1 [CV.s {data:= #[ax 47,ax 98]}]) 2 [CV.s {data:= #[ax 47,ax 99]}]) 3 [CV.s {data:= #[ax 47,ax 100]}]) 4 [CV.s {data:= #[ax 47,ax 101]}]) 5 [CV.s {data:= #[ax 47,ax 102]}]) 6 [CV.s {data:= #[ax 47,ax 103]}]) 7 [CV.s {data:= #[ax 47,ax 104]}]) hI (by simp[aT]);obtain⟨e1,e2⟩:=out q a s (x:=(_,q,a1,s1)) (by unfold vo b;simp only[c1,v1,ay];rfl);refine⟨_,a1,s1,e1,e2,I1, ?_⟩
 have g2:i<8:=by simpa [aT]using g1
 match i,g2 with
 |0,_=>rfl
 |1,_=>rfl
 |2,_=>rfl
 |3,_=>rfl
 |4,_=>rfl
 |5,_=>rfl
 |6,_=>rfl
 |7,_=>rfl
end tM

namespace A_Post
open bS (I)
def gH{α:Type}(o:aD α)(P:α->Prop):Prop:=∃x,o=aj x/\P x
theorem ret{α:Type}{x:α}{P:α->Prop}(h:P x):gH (aj x) P:=⟨x,rfl,h⟩
theorem br{α:Type}{b:aY}{A B:aD α}{P:α->Prop}(h1:b=ak->gH A P)(h2:b=aq->gH B P):gH (bif b then A else B) P:=by
 cases b
 ·exact h2 rfl
 ·exact h1 rfl
theorem ck{α:Type}{b:aY}{A B:aD α}{P:α->Prop}(h:b=ak)(h1:gH A P):gH (bif b then A else B) P:=by subst h;exact h1
theorem cn{α:Type}{b:aY}{A B:aD α}{P:α->Prop}(h:b=aq)(h1:gH B P):gH (bif b then A else B) P:=by subst h;exact h1
theorem eq{α:Type}{o o':aD α}{P:α->Prop}(e:o=o')(h:gH o' P):gH o P:=by rw[e];exact h
theorem call{α β:Type}{b:aY}{w u:β}{X:β->aD α}{P:α->Prop}(h:b=ak)(e:w=u)(hx:gH (X u) P):gH (bif b then Lib.lt w X else ao) P:=by subst h;rw[ay,il.lt_eq,e];exact hx
theorem below{α:Type}{q:aX}{a s k:aA}{X:aA×aX×aA×aA->aD α}{P:α->Prop}(hI:I q a)(hx:∀n a' s',I q a'->0<=n->(0<k->n<k)->gH (X (n,q,a',s')) P):gH (bif gJ.c q a s k then Lib.lt (gJ.v q a s k) X else ao) P:=by obtain⟨n,a',s',h1,h2,h3,h4,h5⟩:=gJ.ok q a s k hI;exact call h1 h2 (hx n a' s' h3 h4 h5)
theorem once{α:Type}{q:aX}{a s k:aA}{X:aY×aX×aA×aA->aD α}{P:α->Prop}(hI:I q a)(hx:∀n a' s',I q a'->gH (X (n,q,a',s')) P):gH (bif tN.c q a s k then Lib.lt (tN.v q a s k) X else ao) P:=by obtain⟨n,a',s',h1,h2,h3⟩:=tN.ok q a s k hI;exact call h1 h2 (hx n a' s' h3)
theorem Zl{α:Type}{q:aX}{a s:aA}{l:aX}{X:aA×aX×aA×aA×aX->aD α}{P:α->Prop}(R:aA->Prop)(hR:0<l.length/\∀i,i<l.length->R (bY (aw l i 0)))(hI:I q a)(hx:∀n a' s',I q a'->R n->gH (X (n,q,a',s',l)) P):gH (bif yL.c q a s l then Lib.lt (yL.v q a s l) X else ao) P:=by obtain⟨n,a',s',h1,h2,h3,h4⟩:=yL.ok q a s l hI hR.1;exact call h1 h2 (hx _ a' s' h3 (hR.2 n h4))
theorem ag9{α:Type}{q:aX}{a s:aA}{l:aX}{X:au×aX×aA×aA×aX->aD α}{P:α->Prop}(R:au->Prop)(hR:0<l.length/\∀i,i<l.length->R (bQ (aw l i 0)))(hI:I q a)(hx:∀n a' s',I q a'->R n->gH (X (n,q,a',s',l)) P):gH (bif o9.c q a s l then Lib.lt (o9.v q a s l) X else ao) P:=by obtain⟨n,a',s',h1,h2,h3,h4⟩:=o9.ok q a s l hI hR.1;exact call h1 h2 (hx _ a' s' h3 (hR.2 n h4))
theorem key{α:Type}{q:aX}{a s:aA}{X:au×aX×aA×aA->aD α}{P:α->Prop}(hI:I q a)(hx:∀n a' s',I q a'->n.size=2->gH (X (n,q,a',s')) P):gH (bif tM.c q a s then Lib.lt (tM.v q a s) X else ao) P:=by obtain⟨n,a',s',h1,h2,h3,h4⟩:=tM.ok q a s hI;exact call h1 h2 (hx n a' s' h3 h4)
theorem idx{n:aA}{m:aG}(h0:0<=n)(h1:0<(m:aA)->n<(m:aA))(hm:decide ((m:aA)>0)=ak):(decide (0<=n)&&decide (n<(m:aA)))=true:=by have:=h1 (b9 hm);rw[aJ h0,aJ this,aP]
end A_Post

namespace T1
open Lib (rr rs re rf rc rd Px En el)
open jZ (Wo Ev pc)
open ov (dk es)
open jx (zp)
open il (ri Cq)
instance:Inhabited Ev:=⟨⟨0,0,⟨#[]⟩,0,[]⟩⟩
def Evr(e:Ev):az CV:=[CV.i ar e.k,CV.i ar e.id,CV.s e.t,CV.i ar e.n,CV.l 3 e.l]
def rv(l:az Ev):aX:=l.map Evr
def w0:Wo:=⟨gU.p0 1,ao,[],[]⟩
def run(l:az Ev):Wo:=l.foldl jZ.step w0
theorem ah3:zp 0 w0:=by refine⟨jx.Sg (now:=1) (by omega) [],λe h=>(by cases h),cu _,rfl,cu _,λe h=>(by cases h)⟩
def W13(w:Wo)(b:aY):aA×aX×aX×aX×aX×aA×aX×aX×aA×aX×aX×aX×aY:=(w.p.now,re w.p.en,rs w.p.w,rs w.p.m,rr w.p.s,w.p.a,rf w.p.fe,rc w.p.cl,w.p.hits,rd (dk w.o),ri w.cd,re w.bd,b)
def amg(l:az Ev):aY:=decide (l.length<=70)&&(cM l.length).all λi=>pc (el l i)
def life(l:az Ev):aA×aX×aX×aX×aX×aA×aX×aX×aA×aX×aX×aX×aY:=bif amg l then W13 (run l) ak else(0,[],[],[],[],0,[],[],0,[],[],[],aq)
end T1

namespace Ow
open Lib (Px Cl Fe En el)
open jY (kp Vo JH)
open gE (ma fC)
open yG (iW mW)
open p9 (cls l8)
open fZ (rA rF qZ told iD)
open rW (j7 ec)
open dY (X6 n_ put Cw CJ Br jm jn qn)
open gU (tV we one p0)
open jR (zb)
open jZ (Wo Ev closed ES ng pc flag)
open ov (es)
open nP (fu)
open jx (zp)
def Gp(fe:az Fe)(bd:az En)(c:Cl):Prop:=
 (c.fe=0/\c.sta=2/\∃e∈bd,e.k=c.k/\e.st=c.fr/\e.bo=c.got/\e.li>c.age)\/
 ∃n:aG,c.fe=(n:aA)+1/\n<fe.length/\(el fe n).k=c.k/\c.got=(el fe n).t/\(el fe n).sta=c.sta/\(1<=c.sta/\c.sta<=3)
structure Snd (w:Wo):Prop where
 st:∀e∈w.p.en,e.st<=w.p.now
 bd:∀e∈w.p.en,e∈w.bd
 ob:∀e∈es w.o,e∈w.bd
 fr:∀e∈w.p.en,tV e w.p.now=ak->e∈kp (es w.o)
 cl:∀c∈w.p.cl,Gp w.p.fe w.bd c
theorem Gp.bd{fe:az Fe}{b b':az En}{c:Cl}(h:Gp fe b c)(hb:∀e∈b,e∈b'):Gp fe b' c:=by
 rcases h with ⟨h1,h2,e,he,h3⟩|h
 ·exact .inl ⟨h1,h2,e,hb e he,h3⟩
 ·exact .inr h
theorem aio{fe:az Fe}{b:az En}{c:Cl}(h:Gp fe b c)(g:Fe):Gp (fe++[g]) b c:=by
 rcases h with h|⟨n,h1,h2,h3,h4,h5,h6⟩
 ·exact .inl h
 ·have e:el (fe++[g]) n=el fe n:=by rw[eQ (by rw[bO];omega),eQ h2,D4 h2]
  exact .inr ⟨n,h1,by rw[bO];omega,by rw[e];exact h3,by rw[e];exact h4,by rw[e];exact h5,h6⟩
theorem adH{p:Px}{b:az En}{n:aG}{g:Fe}{st:aA}(hn:n<p.fe.length)(ho:(el p.fe n).sta=1)(hk:g.k=(el p.fe n).k)(hg:g.sta=st)(h1:1<=st/\st<=3)(h:∀c∈p.cl,Gp p.fe b c):∀c∈(told p n g st).cl,Gp (told p n g st).fe b c:=by
 intro c hc;obtain⟨x,hx,rfl⟩:=cG.1 (show c∈p.cl.map (ec n st g.t)from hc);have Of:=h x hx;show Gp (p.fe.set n g) b (ec n st g.t x);rcases Of with h0|⟨m,m1,m2,m3,m4,m5,m6⟩
 ·have e:ec n st g.t x=x:=by unfold ec;rw[aM (show¬x.fe=(n:aA)+1 by have:=h0.1;omega)];rfl
  rw[e];exact .inl h0
 ·by_cases hm:m=n
  ·subst hm;have e:ec m st g.t x={x with sta:=st,got:=g.t}:=by unfold ec;rw[aJ m1,aJ (show x.sta=1 by rw[<-m5];exact ho)];rfl
   rw[e];refine .inr ⟨m,m1,by rw[cw];exact m2, ?_, ?_, ?_,h1⟩
   ·rw[iD m2,hk];exact m3
   ·rw[iD m2]
   ·rw[iD m2];exact hg
  ·have e:ec n st g.t x=x:=by unfold ec;rw[aM (show¬x.fe=(n:aA)+1 by omega)];rfl
   have e2:el (p.fe.set n g) m=el p.fe m:=by rw[eQ (by rw[cw];exact m2),eQ m2,List.getElem_set_ne (by omega)]
   rw[e];exact .inr ⟨m,m1,by rw[cw];exact m2,by rw[e2];exact m3,by rw[e2];exact m4,by rw[e2];exact m5,m6⟩
theorem Mi{p:Px}{e x:En}(h:x∈(zb p e).en):x=e\/x∈p.en:=by
 unfold zb at h;dsimp only at h;cases hb:eS.has (js.val p.w p.m p.s p.a e.k).1 e.k||eS.has (js.val p.w p.m p.s p.a e.k).2.1 e.k with
 |true=>
  rw[hb,ay]at h;rcases mW.1 h with h|h
  ·exact .inl h
  ·exact .inr (iW.1 h.1).1
 |false=>rw[hb,aC]at h;exact .inr (iW.1 h).1
theorem WN{now:aA}:∀(l:az En),∀x∈(we now l).en,x∈l/\tV x now=true:=by
 intro l;rw[<-List.reverse_reverse l];generalize l.reverse=r;induction r with
 |nil=>intro x hx;cases hx
 |cons e r ih=>
  intro x hx;rw[List.reverse_cons]at hx⊢;have e1:we now (r.reverse++[e])=one now (we now r.reverse) e:=by unfold we;rw[pY];rfl
  rw[e1]at hx;unfold one at hx;cases hf:tV e now with
  |false=>rw[hf,aC]at hx;exact⟨bN _ (ih x hx).1,(ih x hx).2⟩
  |true=>
   rw[hf,ay]at hx;rcases Mi hx with rfl|hx
   ·exact⟨bH _ du,hf⟩
   ·exact⟨bN _ (ih x hx).1,(ih x hx).2⟩
end Ow

namespace Ou
open Lib (rr rs re rf rc rd Px En Fe el)
open jZ (Wo Ev pc closed ES ng)
open ov (dk es)
open jx (zp)
open il (ri Cq)
open nP (fu)
open p9 (cls l8)
open fZ (rA rF qZ told)
open dY (n_ put Cw CJ jm qn)
open yG (iW)
open bS (I)
open A_Post (gH)
structure K2 (w:Wo):Prop where
 en:∀e∈w.p.en,e.k.size=2
 fe:∀f∈w.p.fe,f.k.size=2
 o:∀e∈es w.o,e.k.size=2
theorem Zn{w:Wo}{id:aA}{key:au}{b:aY}{fe:az Fe}{i:aG}(h:K2 w)(hf:∀f∈fe,f.k.size=2):K2 {w with p:=put w.p id key b fe i}:=by
 refine⟨λx hx=> ?_,hf,h.o⟩
 unfold put at hx;cases b with
 |true=>exact h.en x (iW.1 hx).1
 |false=>exact h.en x hx
theorem Rf{w:Wo}{id:aA}{key:au}{b:aY}(h:K2 w)(hk:key.size=2):K2 {w with p:=(n_ w.p id key b).1}:=by
 unfold n_;cases CJ w.p.fe key with
 |some i=>exact Zn h h.fe
 |none=>
  dsimp only;cases decide (w.p.fe.length<20)with
  |true=>
   refine Zn h λf hf=> ?_;rcases a_.1 hf with hf|hf
   ·exact h.fe f hf
   ·rw[aZ.1 hf];exact hk
  |false=>exact h
theorem aez{w:Wo}{id:aA}{key:au}(h:K2 w)(hk:key.size=2):K2 {w with p:=(dY.ask w.p id key).1}:=by
 unfold dY.ask;cases p8.iX w.p&&(decide (1<=id/\id<=9)&&(jj.ej key&&(!jm w.p.cl id&&decide (w.p.cl.length<6))))with
 |false=>exact h
 |true=>
  rw[ay];cases Cw w.p.en key with
  |none=>exact Rf h hk
  |some e=>
   dsimp only;cases dY.tV e w.p.now with
   |false=>exact Rf h hk
   |true=>exact⟨h.en,h.fe,h.o⟩
theorem FH{w:Wo}{n:aG}{g:Fe}{st:aA}(h:K2 w)(hn:n<w.p.fe.length)(hk:g.k=(el w.p.fe n).k):∀f∈(told w.p n g st).fe,f.k.size=2:=by
 intro f hf;rcases gT hf with hf|rfl
 ·exact h.fe f hf
 ·rw[hk];exact h.fe _ (oK hn)
theorem acP{w:Wo}{e:Ev}(h:K2 w)(ht:e.k=1->e.t.size=2):K2 (jZ.step w e):=by
 have cd:∀{w:Wo} {l:az aA},K2 w->K2 {w with cd:=l}:=λh=>⟨h.en,h.fe,h.o⟩
 unfold jZ.step;refine cd ?_;unfold jZ.act;by_cases k1:e.k=1
 ·rw[aJ k1];exact aez h (ht k1)
 rw[aM k1,aC];cases decide (e.k=2)
 ·cases decide (e.k=3)
  ·cases decide (e.k=4)
   ·cases decide (e.k=5)
    ·cases decide (e.k=6)
     ·have V:=gU.Bd w.p.now (ng w) (ng w).length (cu _);rw[fD]at V;have hm:∀x∈ng w,x.k.size=2:=λx hx=>h.o x (jY.JH (dq.1 hx).1);have Il:∀f∈(gU.we w.p.now (ng w)).fe,f.k.size=2:=λf hf=>by rw[V.fe]at hf;cases hf
      exact⟨λx hx=>hm x (Ow.WN _ x hx).1,Il,hm⟩
     ·exact⟨h.en,h.fe,h.o⟩
    ·exact⟨h.en,h.fe,h.o⟩
   ·show K2 {w with p:=(rA w.p e.id).1};unfold rA;cases ho:qZ w.p e.id with
    |false=>exact h
    |true=>obtain⟨n,en,hn,_,_⟩:=fZ.iv ho;rw[en,dx,ay];exact⟨h.en,FH h hn rfl,h.o⟩
  ·show K2 (closed w e.id (e.n%1000000)).1;unfold closed cls;dsimp only;cases ho:qZ w.p e.id&&decide (0<=e.n%1000000/\e.n%1000000<=999999)with
   |false=>exact h
   |true=>
    rw[aK]at ho;obtain⟨n,en,hn,_,_⟩:=fZ.iv ho.1;rw[en,dx,ay];by_cases M_:e.n%1000000>0
    ·rw[aJ M_,ay];dsimp only[bj,ay];have hE:(l8 {el w.p.fe n with sta:=2,li:=e.n%1000000,st:=w.p.now}).k.size=2:=h.fe _ (oK hn);have ee:el (jR.zb (told w.p n {el w.p.fe n with sta:=2,li:=e.n%1000000,st:=w.p.now} 2) (l8 {el w.p.fe n with sta:=2,li:=e.n%1000000,st:=w.p.now})).fe n={el w.p.fe n with sta:=2,li:=e.n%1000000,st:=w.p.now}:=fZ.iD hn;rw[ee];refine⟨λx hx=> ?_,FH (g:={el w.p.fe n with sta:=2,li:=e.n%1000000,st:=w.p.now}) (st:=2) h hn rfl,λx hx=> ?_⟩
     ·rcases Ow.Mi hx with rfl|hx
      ·exact hE
      ·exact h.en x hx
     ·rcases a_.1 (show x∈es w.o++[_]from hx)with hx|hx
      ·exact h.o x hx
      ·rw[aZ.1 hx];exact hE
    ·rw[aM M_,aC];exact⟨h.en,FH h hn rfl,h.o⟩
 ·show K2 {w with p:=(rF w.p e.id e.t).1};unfold rF;cases ho:qZ w.p e.id&&(decide (1<=e.t.size/\e.t.size<=40)&&decide ((el w.p.fe e.id.toNat).t.size+e.t.size<=400))with
  |false=>exact h
  |true=>rw[aK]at ho;obtain⟨n,en,hn,_,_⟩:=fZ.iv ho.1;rw[en,dx,ay];exact⟨h.en,FH h hn rfl,h.o⟩
end Ou

namespace kS
open Lib (rr rs re rf rc Px En Fe Cl el)
open jZ (Wo)
open nP (fu)
open Ou (K2)
open p9 (cls l8)
open fZ (rA rF qZ told)
open rW (j7 ec)
open dY (n_ put Cw CJ Br jm qn jn)
abbrev nk:au:={data:= #[ax 47,ax 110,ax 101,ax 119]}
abbrev t1:au:={data:= #[ax 104,ax 101,ax 108,ax 108,ax 111]}
abbrev t2:au:={data:= #[ax 32,ax 116,ax 104,ax 101,ax 114,ax 101]}
abbrev t3:au:={data:= #[ax 104,ax 101,ax 108,ax 108,ax 111,ax 32,ax 116,ax 104,ax 101,ax 114,ax 101]}
def gf(t:au):Fe:=⟨nk,t,1,0,0⟩
def mk(n:aG)(st:aA)(t:au)(i:aA):Cl:=⟨i,nk,(n:aA)+1,0,st,t,0⟩
structure St (F:az Fe) (t:au) (L:az aA) (p:Px):Prop where
 ok:fu p
 en:∀e∈p.en,e.k.size=2
 fk:∀f∈F,f.k.size=2
 fe:p.fe=F++[gf t]
 cl:p.cl=L.map (mk F.length 1 t)
theorem G0{en:az En}(h:∀e∈en,e.k.size=2):Cw en nk=none:=by unfold Cw;rw[qa];intro e he q;have:=h e he;rw[b9 q]at this;exact cq this (by decide)
theorem RP{f:Fe}(h:f.k.size=2):Br nk f=false:=by unfold Br;rw[aM (show¬f.k=nk from λe=>by rw[e]at h;exact cq h (by decide))];rfl
theorem RN{fe:az Fe}(h:∀f∈fe,f.k.size=2):CJ fe nk=none:=by unfold CJ;rw[pJ];exact λf hf=>RP (h f hf)
theorem pq{F:az Fe}{g:Fe}:el (F++[g]) F.length=g:=by rw[eQ (by rw[bO];show F.length<F.length+1;omega),FV (cu _)];simp
theorem RO{F:az Fe}{t:au}(h:∀f∈F,f.k.size=2):CJ (F++[gf t]) nk=aj F.length:=by
 unfold CJ;rw[mi];refine⟨by rw[bO];show F.length<F.length+1;omega, ?_,λj hj=> ?_⟩
 ·rw[FV (cu _)];simp only[wU,List.getElem_cons_zero];unfold Br gf;simp
 ·rw[D4 hj,RP (h _ (bD hj))];simp
theorem Vl{L:az Cl}{c:Cl}(h:∀x∈L,x.id<c.id):jn L c=L++[c]:=by unfold jn;rw[eI.2 (λx hx=>aJ (h x hx)),IC.2 (λx hx q=>by have:=h x hx;have:=b9 q;omega),di]
theorem jP{L:az Cl}{id:aA}(h:∀x∈L,x.id<id):jm L id=false:=by unfold jm;rw[Aq];intro x hx q;have:=h x hx;have:=b9 q;omega
theorem guard{p:Px}{id:aA}(ho:fu p)(B8:1<=id/\id<=9)(h:∀x∈p.cl,x.id<id)(hl:p.cl.length<6):(p8.iX p&&(decide (1<=id/\id<=9)&&(jj.ej nk&&(!jm p.cl id&&decide (p.cl.length<6)))))=true:=by rw[nP.mS.2 ho,aJ B8,jP h,aJ hl];rfl
theorem P3{w:Wo}(ho:fu w.p)(h2:K2 w)(hc:w.p.cl=[]):(w.p.fe.length=20/\(dY.ask w.p 1 nk).2=2)\/((dY.ask w.p 1 nk).2=0/\St w.p.fe ⟨#[]⟩ [1] (dY.ask w.p 1 nk).1):=by
 have b8:=Af.IV 1 nk ho;have e:dY.ask w.p 1 nk=n_ w.p 1 nk false:=by unfold dY.ask;rw[guard ho (by omega) (by rw[hc];intro x hx;cases hx) (by rw[hc];decide),ay,G0 h2.en]
 rw[e]at b8⊢;unfold n_ at b8⊢;rw[RN h2.fe]at b8⊢;dsimp only at b8⊢;have Lv:=ho.fl;by_cases M4:w.p.fe.length<20
 ·rw[aJ M4,ay]at b8⊢;refine .inr ⟨rfl,b8,h2.en,h2.fe,rfl, ?_⟩;show jn w.p.cl ⟨1,nk,(w.p.fe.length:aA)+1,0,1,(el (w.p.fe++[qn nk]) w.p.fe.length).t,0⟩=_;rw[hc,pq];rfl
 ·rw[aM M4];exact .inl ⟨by omega,rfl⟩
theorem aaV{F:az Fe}{t:au}{L:az aA}{p:Px}{id:aA}(h:St F t L p)(B8:1<=id/\id<=9)(hL:∀x∈L,x<id)(hl:L.length<6):(dY.ask p id nk).2=0/\St F t (L++[id]) (dY.ask p id nk).1:=by
 have b8:=Af.IV id nk h.ok;have nh:∀x∈p.cl,x.id<id:=by rw[h.cl];intro x hx;obtain⟨y,hy,rfl⟩:=cG.1 hx;exact hL y hy
 have e:dY.ask p id nk=n_ p id nk false:=by unfold dY.ask;rw[guard h.ok B8 nh (by rw[h.cl,bP];exact hl),ay,G0 h.en]
 rw[e]at b8⊢;unfold n_ at b8⊢;have ho:CJ p.fe nk=aj F.length:=by rw[h.fe];exact RO h.fk
 rw[ho]at b8⊢;dsimp only at b8⊢;refine⟨rfl,b8,h.en,h.fk,h.fe, ?_⟩
 show jn p.cl ⟨id,nk,(F.length:aA)+1,0,1,(el p.fe F.length).t,0⟩=_;rw[Vl (λx hx=>nh x hx),h.cl,h.fe,pq,dh];rfl
theorem St.n{F:az Fe}{t:au}{L:az aA}{p:Px}(h:St F t L p):qZ p (F.length:aA)=true:=by unfold qZ;rw[nP.mS.2 h.ok,bj,dx,h.fe,pq,aJ (show 0<=(F.length:aA)/\(F.length:aA)<=((F++[gf t]).length:aA)-1 by rw[bO];show _/\_<=((F.length+1:aG):aA)-1;omega)];rfl
theorem Sm{F:az Fe}{g g':Fe}:(F++[g]).set F.length g'=F++[g']:=by rw[List.set_append_right _ _ (cu _),wU];rfl
theorem Jc{n:aG}{st:aA}{t t':au}(L:az aA):j7 (L.map (mk n 1 t)) n st t'=L.map (mk n st t'):=by unfold j7;rw[jU];refine vn λi _=> ?_;show ec n st t' (mk n 1 t i)=mk n st t' i;unfold ec mk;dsimp only;rw[aJ (Eq.refl ((n:aA)+1))];rfl
theorem part{F:az Fe}{t:au}{L:az aA}{p:Px}(q:au)(h:St F t L p)(hq:1<=q.size/\q.size<=40)(ht:t.size+q.size<=400):rF p (F.length:aA) q=((rF p (F.length:aA) q).1,ak)/\St F (t++q) L (rF p (F.length:aA) q).1/\(rF p (F.length:aA) q).1.now=p.now/\(rF p (F.length:aA) q).1.en=p.en/\(rF p (F.length:aA) q).1.w=p.w/\(rF p (F.length:aA) q).1.m=p.m/\(rF p (F.length:aA) q).1.s=p.s/\(rF p (F.length:aA) q).1.a=p.a/\(rF p (F.length:aA) q).1.hits=p.hits:=by
 have b8:=yG.JZ (F.length:aA) q h.ok;have e:rF p (F.length:aA) q=(told p F.length {el p.fe F.length with t:=(el p.fe F.length).t++q} 1,ak):=by unfold rF;rw[h.n,dx,aJ hq,aJ (show(el p.fe F.length).t.size+q.size<=400 by rw[h.fe,pq];exact ht)];rfl
 rw[e]at b8⊢;refine⟨rfl,⟨b8,h.en,h.fk, ?_, ?_⟩,rfl,rfl,rfl,rfl,rfl,rfl,rfl⟩
 ·show p.fe.set F.length _=_;rw[h.fe,pq,Sm];rfl
 ·show j7 p.cl F.length 1 ((el p.fe F.length).t++q)=_;rw[h.cl,h.fe,pq,Jc];rfl
theorem close{F:az Fe}{t:au}{L:az aA}{p:Px}(life:aA)(h:St F t L p)(hl:0<=life/\life<=999999):(cls p (F.length:aA) life).2=ak/\fu (cls p (F.length:aA) life).1/\(cls p (F.length:aA) life).1.cl=L.map (mk F.length 2 t):=by
 obtain⟨h1,_⟩:=jx.I_ (f:=(F.length:aA)) h.ok hl;have hc:j7 p.cl F.length 2 (el p.fe F.length).t=L.map (mk F.length 2 t):=by rw[h.cl,h.fe,pq,Jc];rfl
 refine⟨?_,h1, ?_⟩
 ·unfold cls;rw[h.n,aJ hl];rfl
 ·unfold cls;rw[h.n,aJ hl,aP,ay,dx];cases decide (life>0)
  ·exact hc
  ·exact hc
theorem amb{F:az Fe}{t:au}{L:az aA}{p:Px}(h:St F t L p):(rA p (F.length:aA)).2=ak/\fu (rA p (F.length:aA)).1/\(rA p (F.length:aA)).1.cl=L.map (mk F.length 3 t):=by
 have h1:=yG.IY (F.length:aA) h.ok;refine⟨?_,h1, ?_⟩
 ·unfold rA;rw[h.n];rfl
 ·unfold rA;rw[h.n,ay,dx];show j7 p.cl F.length 3 (el p.fe F.length).t=_;rw[h.cl,h.fe,pq,Jc];rfl
theorem full:((⟨#[]⟩:au)++t1)++t2=t3:=by decide
end kS

namespace mH
def p(s:aX)(k:aA)(i:aG):aY:=decide (bY (aw s i 0)=k)
theorem ok(d:aX)(n:aA)(hl:d.length<=4294967296):c d n=ak/\v d n=Lib.fi (p d n) d.length 0:=by
 refine out d n ?_;unfold vo b;refine oL (p d n) d.length (λm (i:aG)=>l2 Lib.c7 (λ(_:aX) (_:aA) (y7 _ _:aA)=>aj y7) (λ(_:aX) (_:aA) (_ _ _:aA)=>aj (-1)) m d n 0 (d.length:aA) (i:aA)) aj (λm i hi hp=> ?_) (λm i hi hp=> ?_) (λm=> ?_) Lib.c7 (cT (by omega))
 ·unfold p at hp;simp only[l2,r2,Lib.dB,Lib.cR,Lib.eB,hi,aR,aP,ay,N7.v,hp]
 ·unfold p at hp;simp only[l2,r2,Lib.dB,Lib.cR,Lib.eB,hi,aR,aP,ay,N7.v,hp,aC,Lib.db hi (by omega:d.length<=9223372036854775807)]
 ·simp only[l2,r2,Lib.dB,bu,bm,aC]
end mH

namespace KZ
def cn(y:az CV):aY:=match y with|[.i .i64 _, .s _, .i .i64 _, .i .i64 _, .i .i64 _, .s _, .i .i64 _]=>ak|_=>aq
def cr(y:az CV):az CV:=[CV.i ar (bY (y.getD 0 (.b aq))),CV.s (bQ (y.getD 1 (.b aq))),CV.i ar (bY (y.getD 2 (.b aq))),CV.i ar (bY (y.getD 3 (.b aq))),CV.i ar (bY (y.getD 4 (.b aq))),CV.s (bQ (y.getD 5 (.b aq))),CV.i ar (bY (y.getD 6 (.b aq)))]
theorem yP{y:az CV}(h:cn y=ak):cr y=y:=by
 unfold cn at h;split at h
 ·rfl
 ·cases h
theorem oQ{y:az CV}(h:cn y=ak):y.length=7:=by rw[<-yP h];rfl
def keep(d:aA)(y:az CV):aY:= !decide (bY (y.getD 0 (.b aq))=d)
theorem jv(d:aA){s:aX}{i:aG}(h:i<s.length):(s.take (i+1)).filter (keep d)=(s.take i).filter (keep d)++(bif keep d s[i]then [s[i]]else []):=by rw[c6 h,iN];cases hk:keep d s[i]<;>simp[hk]
theorem run(N:aG)(s0:aX)(d:aA)(hc:s0.all cn=ak)(hn:s0.length<=9223372036854775807)(K:aA->aA->aA->aX->aD R)(kr:aX->aD R)
  (hK:∀(j:aG) x,x.length=s0.length->j<=s0.length->K d j s0.length x=kr (x.take j)) (m j i:aG) (x:aX)
  (hi:j<i/\i<=s0.length/\x.length=s0.length/\(∀y∈x,y.length=7)/\x.take j=(s0.take i).filter (keep d)/\x.drop i=s0.drop i) (hm:s0.length-i<m):
  l5 N K m d j i x=kr (s0.filter (keep d)):=by
 have Qx:∀y∈s0,cn y=true:=bn.1 hc
 refine Lib.ij (λm (s:aG×aG×aX)=>l5 N K m d s.1 s.2.1 s.2.2) (λs=>s0.length-s.2.1)
  (λs=>s.1<s.2.1/\s.2.1<=s0.length/\s.2.2.length=s0.length/\(∀y∈s.2.2,y.length=7)/\s.2.2.take s.1=(s0.take s.2.1).filter (keep d)/\s.2.2.drop s.2.1=s0.drop s.2.1)
  (λ_=>kr (s0.filter (keep d))) (λm s hs=> ?_) m (j,i,x) hi hm
 obtain⟨j,i,x⟩:=s;obtain⟨h1,h2,h3,h4,h5,h6⟩:=hs;simp only at h1 h2 h3 h4 h5 h6⊢;by_cases gO:i<s0.length
 ·right;have rC:i<x.length:=by omega
  have Ly:j<x.length:=by omega
  have hx:x[i]=s0[i]:=by have e1:=Lib.e_ rC;have e2:=Lib.e_ gO;rw[h6,e2]at e1;exact(mb e1).1.symm
  have hd:x.drop (i+1)=s0.drop (i+1):=by have e1:=Lib.e_ rC;have e2:=Lib.e_ gO;rw[h6,e2]at e1;exact(mb e1).2.symm
  have Qz:=Qx _ (bD gO);have hf:=jv d gO;cases hk:keep d s0[i]with
  |true=>
   refine⟨(j+1,i+1,x.set j s0[i]), ?_,by simp only;omega,trivial, ?_⟩
   ·rw[hk,ay,<-h5]at hf;refine⟨by simp only;omega,by simp only;omega,by simpa using h3, ?_, ?_, ?_⟩
    ·intro y hy;rcases gT hy with h|h
     ·exact h4 y h
     ·rw[h];exact oQ Qz
    ·rw[hf];rw[c6 (by simpa using Ly)];simp[uE]
    ·simp only;rw[uB (by omega)];exact hd
   ·have e:N7.v (bY (aw x i 0)) (bQ (aw x i 1)) (bY (aw x i (1+1))) (bY (aw x i (1+1+1))) (bY (aw x i (1+1+1+1))) (bQ (aw x i (1+1+1+1+1))) (bY (aw x i (1+1+1+1+1+1))) d=false:=by
     have:(!N7.v (bY (aw x i 0)) (bQ (aw x i 1)) (bY (aw x i (1+1))) (bY (aw x i (1+1+1))) (bY (aw x i (1+1+1+1))) (bQ (aw x i (1+1+1+1+1))) (bY (aw x i (1+1+1+1+1+1))) d)=true:=by rw[Lib.cX rC,hx];exact hk
     simpa using this
    have es:eh x j 0 [CV.i ar (bY (aw x i 0)),CV.s (bQ (aw x i 1)),CV.i ar (bY (aw x i (1+1))),CV.i ar (bY (aw x i (1+1+1))),CV.i ar (bY (aw x i (1+1+1+1))),CV.s (bQ (aw x i (1+1+1+1+1))),CV.i ar (bY (aw x i (1+1+1+1+1+1)))]=x.set j s0[i]:=by
     have hl:=h4 _ (bD Ly);rw[Lib.FA Ly,Lib.cX rC,Lib.cX rC,Lib.cX rC,Lib.cX rC,Lib.cX rC,Lib.cX rC,Lib.cX rC,hx];have:iF x[j] 0 (cr s0[i])=s0[i]:=by rw[yP Qz];unfold iF;have:=oQ Qz;simp[hl,this,iz]
     unfold cr at this;rw[this]
    have b1:(j:aA)<(x.length:aA):=by omega
    simp only[l5,r5,Lib.dB,Lib.cR,Lib.eB,rC,Ly,aR,bj,ay,e,bX,es,Lib.db gO hn,Lib.db (show j<s0.length by omega) hn]
  |false=>
   refine⟨(j,i+1,x), ?_,by simp only;omega,trivial, ?_⟩
   ·rw[hk,aC,di,<-h5]at hf;exact⟨by simp only;omega,by simp only;omega,h3,h4,hf.symm,hd⟩
   ·have e:N7.v (bY (aw x i 0)) (bQ (aw x i 1)) (bY (aw x i (1+1))) (bY (aw x i (1+1+1))) (bY (aw x i (1+1+1+1))) (bQ (aw x i (1+1+1+1+1))) (bY (aw x i (1+1+1+1+1+1))) d=true:=by
     have:(!N7.v (bY (aw x i 0)) (bQ (aw x i 1)) (bY (aw x i (1+1))) (bY (aw x i (1+1+1))) (bY (aw x i (1+1+1+1))) (bQ (aw x i (1+1+1+1+1))) (bY (aw x i (1+1+1+1+1+1))) d)=false:=by rw[Lib.cX rC,hx];exact hk
     simpa using this
    simp only[l5,r5,Lib.dB,Lib.cR,Lib.eB,rC,aR,bj,ay,e,ba,aC,Lib.db gO hn]
 ·left;have:i=s0.length:=by omega
  subst this;rw[fD]at h5;have e:=hK j x h3 (by omega);rw[h5]at e;have rC:¬s0.length<x.length:=by omega
  simp only[l5,r5,Lib.dB,rC,bm,aC,e]
theorem ok(s0:aX)(j6:aA)(hc:s0.all cn=ak)(hn:s0.length<=4294967296):c s0 j6=ak/\v s0 j6=s0.filter (keep j6):=by
 refine out s0 j6 ?_;have hv:=mH.ok s0 j6 hn;unfold vo b;rw[hv.1,hv.2,ay];rcases Lib.pR (mH.p s0 j6) s0.length 0 with ⟨h,n8⟩|⟨k,_,zv,hk,QD,Qw⟩
 ·rw[h];have:s0.filter (keep j6)=s0:=by rw[eI];intro y hy;obtain⟨i,hi,rfl⟩:=c9 hy;have:=n8 i (bK _) (by omega);unfold mH.p at this;rw[Lib.cX hi]at this;unfold keep;rw[this];rfl
  rw[this];rfl
 ·rw[hk];have Im:k<s0.length:=by omega
  have h_:decide ((k:aA)=MD 1)=false:=aM (by show¬(k:aA)= -1;omega);rw[h_,aC,Lib.db Im (by omega)];have Qx:∀y∈s0,cn y=true:=bn.1 hc;refine run _ s0 j6 hc (by omega) _ aj (λj x hx hj=> ?_) _ k (k+1) s0 ⟨by omega,by omega,rfl,λy hy=>oQ (Qx y hy), ?_,rfl⟩ (cT (by omega))
  ·have b1:iO (j:aA) (s0.length:aA) (s0.length:aA)=true:=by simp[iO];omega
   have e:i_ j x++aT [Ck.i ar,Ck.s,Ck.i ar,Ck.i ar,Ck.i ar,Ck.s,Ck.i ar] (s0.length-j)++pj s0.length x=i_ j x++aT [Ck.i ar,Ck.s,Ck.i ar,Ck.i ar,Ck.i ar,Ck.s,Ck.i ar] (s0.length-j):=by rw[iz (by omega),di]
   have hl:(i_ j x).length=j:=by simp;omega
   simp only[hx,Lib.eB,b1,ay,e];rw[Lib.yN (by simp[iO];omega)];unfold eP;rw[show bc 0=0 from rfl,fm,uF,nT (by omega),iJ (by omega)]
  ·rw[jv j6 Im];have e1:keep j6 s0[k]=false:=by unfold mH.p at QD;rw[Lib.cX Im]at QD;unfold keep;rw[QD];rfl
   have e2:(s0.take k).filter (keep j6)=s0.take k:=by
    rw[eI];intro y hy;obtain⟨i,hi,rfl⟩:=c9 hy;have X5:i<k:=by simp at hi;omega
    have:=Qw i (bK _) X5;unfold mH.p at this;rw[Lib.cX (by omega)]at this;rw[mA];unfold keep;rw[this];rfl
   rw[e1,e2,aC,di]
end KZ

namespace sb
theorem ok(l:aX)(hl:l.length<=4294967296):c l=ak/\v l=l:=by refine out l ?_;unfold vo b;rw[show bW (aT [Ck.s] 0)+l.length=l.length by simp[aT],Lib.cy (by omega) (by omega)];rfl
end sb

namespace i9
open Lib (rr rs)
theorem ok(w m:az au)(s:az (az aA))(a:aA)(hw:w.length<=1048576)(hm:m.length<=1048576)(hf:iV.n6 s):c (rs w) (rs m) (rr s) a=ak/\v (rs w) (rs m) (rr s) a=(rs w,rs m,rr s,a):=by have h1:=sb.ok (rs w) (by rw[eE];omega);have h2:=sb.ok (rs m) (by rw[eE];omega);have h3:=iV.ok s a hf;exact out _ _ _ _ (by unfold vo b;rw[h1.1,h1.2,h2.1,h2.2,h3.1,h3.2,ay,ay,ay])
end i9

namespace uO
open Lib (rr rs re rf rc Px)
theorem ok(p:Px)(hp:p.Fit 1048576):c p.now (re p.en) (rs p.w) (rs p.m) (rr p.s) p.a (rf p.fe) (rc p.cl) p.hits=ak/\v p.now (re p.en) (rs p.w) (rs p.m) (rr p.s) p.a (rf p.fe) (rc p.cl) p.hits=(p.now,re p.en,rs p.w,rs p.m,rr p.s,p.a,rf p.fe,rc p.cl,p.hits):=by have he:=hp.en;have hf:=hp.fe;have hc:=hp.cl;have h1:=vt.ok (re p.en) (by rw[dQ];omega);have h2:=i9.ok p.w p.m p.s p.a hp.w hp.m ⟨hp.s.1,hp.s.2.1⟩;exact out _ _ _ _ _ _ _ _ _ (by unfold vo b;rw[h1.1,h1.2,h2.1,h2.2,ay,ay,Lib.cy (by simp[aT,dI];omega) (by simp[aT,dI];omega),Lib.cy (by simp[aT,eN];omega) (by simp[aT,eN];omega)];rfl)
end uO

namespace FY
open Lib (rr rs re rf rc Px Cl)
theorem aeB(l:az Cl):(rc l).all KZ.cn=true:=by rw[bn];intro y hy;unfold Lib.rc at hy;obtain⟨z,_,rfl⟩:=cG.1 hy;rfl
theorem abb(l:az Cl)(id:aA):(rc l).filter (KZ.keep id)=rc (l.filter λc=> !decide (c.id=id)):=by unfold Lib.rc;rw[nS];rfl
theorem ok(p:Px)(id:aA)(hp:p.Fit 1048576):c p.now (re p.en) (rs p.w) (rs p.m) (rr p.s) p.a (rf p.fe) (rc p.cl) p.hits id=ak/\v p.now (re p.en) (rs p.w) (rs p.m) (rr p.s) p.a (rf p.fe) (rc p.cl) p.hits id=(p.now,re p.en,rs p.w,rs p.m,rr p.s,p.a,rf p.fe,rc (Gw.val p id).cl,p.hits):=by have h:=uO.ok p hp;have hc:=hp.cl;have h2:=KZ.ok (rc p.cl) id (aeB _) (by rw[eN];omega);rw[abb]at h2;exact out _ _ _ _ _ _ _ _ _ _ (by unfold vo b;simp only[Lib.lt,h.1,h.2,h2.1,h2.2,ay];rfl)
end FY

namespace o8
open Lib (rr)
theorem eM(n a b:aA):oe.v n a b=decide (a<=n/\n<=b):=fg.eM n a b
theorem ok(s:az (az aA))(a:aA)(hf:iV.n6 s):c (rr s) a=ak/\v (rr s) a=fg.nH s a:=by
 refine out _ _ ?_;unfold vo b;have hl:=hf.1;rw[gu]
 have inner:∀i (h:i<s.length) (K0 K1:aY->aX->aX->aA->aA->aX->aA->aA->aX->aA->aD aY) (kf kt:aD aY) (x:aA)
   (h0:∀j:aA,K0 aq (Lib.ri s[i]) (rr s) s.length i (Lib.ri s[i]) x j (rr s) a=kf) (h1:∀j:aA,K1 aq (Lib.ri s[i]) (rr s) s.length i (Lib.ri s[i]) x j (rr s) a=kt),x=(s[i].length:aA)->l5 Lib.c7 K0 K1 Lib.c7 aq (Lib.ri s[i]) (rr s) s.length (i:aA) (Lib.ri s[i]) x 0 (rr s) a=bif(s[i]).all fg.LL then kt else kf:=λi h K0 K1 kf kt x h0 h1 hx=>by
  subst hx
  exact oH (s[i]) fg.LL (λm (j:aG)=>l5 Lib.c7 K0 K1 m aq (Lib.ri s[i]) (rr s) s.length (i:aA) (Lib.ri s[i]) s[i].length (j:aA) (rr s) a) kf kt
   (λm j hj hp=>by have hl:=hf.2 _ (bD h);unfold fg.LL at hp;simp only[l5,r5,Lib.dB,hj,aR,Lib.cR,aP,ay,Lib.eB,Lib.gW,Oh hj,bY,eM,hp,ba,aC,Lib.db hj (by omega:s[i].length<=9223372036854775807)])
   (λm j hj hp=>by unfold fg.LL at hp;simp only[l5,r5,Lib.dB,hj,aR,Lib.cR,aP,ay,Lib.eB,Lib.gW,Oh hj,bY,eM,hp,bX,h0])
   (λm=>by simp only[l5,r5,Lib.dB,bu,bm,aC,h1]) Lib.c7 (cT (by have:=hf.2 _ (bD h);omega))
 have ro:∀q:az aA,fg.rH q=(q.all fg.LL&&decide (q.length=16)):=λq=>Bool.and_comm ..
 have key:=oH s fg.rH (λm (i:aG)=>l2 Lib.c7 (λ(W_:aY) (_:aX) (_ _:aA) (_:aX) (_:aA)=>aj W_) (λ(_:aY) (_:aX) (_ _:aA) (y46:aX) (y47:aA)=>bif(decide ((↑(bW y46):aA)=3))then(aj (oe.v y47 0 63))else(aj aq)) m aq (rr s) s.length (i:aA) (rr s) a) (aj aq) (aj (decide (s.length=3)&&decide (0<=a/\a<=63)))
  (λm i h hp=>by rw[ro,aK]at hp;have Ik:=b9 hp.2;simp only[l2,r2,gu,Lib.dB,h,aR,Lib.cR,aP,ay,Lib.eB,Iq h,ju,Lib.gW];rw[inner i h _ _ (aj aq) _ _ (λ_=>rfl) (λ_=>rfl) rfl,hp.1,ay,Lib.gW,Ik,show(((16:aG):aA) !=16)=aq from rfl,aC,Lib.db h (by omega)])
  (λm i h hp=>by
   rw[ro]at hp;simp only[l2,r2,gu,Lib.dB,h,aR,Lib.cR,aP,ay,Lib.eB,Iq h,ju,Lib.gW];rw[inner i h _ _ (aj aq) _ _ (λ_=>rfl) (λ_=>rfl) rfl];cases ha:(s[i]).all fg.LL with
   |false=>rfl
   |true=>rw[ha,bj]at hp;have:=lu hp;rw[ay,Lib.gW,show((s[i].length:aA) !=16)=ak by simp;omega,ay])
  (λm=>by simp only[l2,r2,gu,Lib.dB,bu,bm,aC,eM];rw[show decide ((s.length:aA)=3)=decide (s.length=3)by rw[ch];omega];cases decide (s.length=3)<;>rfl) Lib.c7 (cT (by omega))
 refine key.trans ?_;unfold fg.nH;cases s.all fg.rH<;>cases decide (s.length=3)<;>cases decide (0<=a/\a<=63)<;>rfl
end o8

namespace Cn
theorem ok(n:aA)(h0:0<=n)(h1:n<=4294967296):c n=ak/\v n=[]:=by
 refine out n ?_;unfold vo b;have e:bM (n-bM (0-0))=n:=by rw[show bM (0-0)=0 from rfl,Int.sub_zero,dc (by omega) (by omega)]
 rw[e,aM (show¬n<0 by omega),aC];by_cases hn:n>0
 ·rw[aJ hn,ay,aJ h0,aJ (show n<=9223372036854775807 by omega),Lib.cy (by simp;omega) (by simp;omega)];simp[eP]
 ·rw[aM hn,aC]
end Cn

namespace vv
theorem ok(p q:aX)(hp:p.length<=1048576)(hq:q.length<=1048576):c [[CV.l 9 p],[CV.l 9 q]]=ak/\v [[CV.l 9 p],[CV.l 9 q]]=p++q:=by
 refine out _ ?_;have w1:bM (0+(p.length:aA))=(p.length:aA):=by rw[Int.zero_add];exact dc (by omega) (by omega)
 have w2:bM ((p.length:aA)+(q.length:aA))=(p.length:aA)+(q.length:aA):=dc (by omega) (by omega);have hg:=Cn.ok ((p.length:aA)+(q.length:aA)) (by omega) (by omega);have d1:decide ((p.length:aA)<0)=false:=aM (by omega);have d2:decide ((p.length:aA)+(q.length:aA)<0)=false:=aM (by omega);have g1:cJ (0+p.length) 16=true:=Lib.cy (by omega) (by omega);have g2:cJ (p.length+q.length) 16=true:=Lib.cy (by omega) (by omega);have c0:ju (aw [[CV.l 9 p],[CV.l 9 q]] 0 0)=p:=rfl;have c1:ju (aw [[CV.l 9 p],[CV.l 9 q]] 1 0)=q:=rfl;unfold vo b;obtain⟨n,hn⟩:∃n,Lib.c7=n+3:=⟨18446744073709551613,rfl⟩
 generalize Lib.c7=B at hn⊢;subst hn;have k3:∀(R:Type) (K:aX->aA->aX->aA->aA->aD R) (S:aX),S=[[CV.l 9 p],[CV.l 9 q]]->l3 (n+3) K (n+3) S 0 S 2 0=K S ((p.length:aA)+(q.length:aA)) S 2 2:=by intro R K S hS;subst hS;simp only[l3,r3,c5,jr,show bc 0=0 from rfl,c0,w1,d1,show bM (0+1)=1 from rfl,show bc 1=1 from rfl,c1,w2,d2,show bM (1+1)=2 from rfl,aC,show decide ((0:aA)<2)=ak from rfl,show decide ((1:aA)<2)=ak from rfl,show decide ((2:aA)<2)=aq from rfl,show decide ((0:aA)<=0)=ak from rfl,show decide ((0:aA)<=1)=ak from rfl,show((0+1+1:aG):aA)=2 from rfl,aP,ay]
 have k11:∀(R:Type) (K:aX->aA->aA->aX->aD R) (S:aX),S=[[CV.l 9 p],[CV.l 9 q]]->Fc (n+3) K (n+3) S 2 0 []=K S 2 2 (p++q):=by intro R K S hS;subst hS;simp only[Fc,z5,c5,jr,show bc 0=0 from rfl,c0,g1,show bM (0+1)=1 from rfl,show bc 1=1 from rfl,c1,gg,g2,show bM (1+1)=2 from rfl,aC,show decide ((0:aA)<2)=ak from rfl,show decide ((1:aA)<2)=ak from rfl,show decide ((2:aA)<2)=aq from rfl,show decide ((0:aA)<=0)=ak from rfl,show decide ((0:aA)<=1)=ak from rfl,show((0+1+1:aG):aA)=2 from rfl,aP,ay]
 show l3 (n+3) _ (n+3) _ 0 _ 2 0=_;rw[k3 _ _ _ rfl,hg.1,hg.2,ay];exact k11 _ _ _ rfl
end vv

namespace qf
theorem ok(w m:az au)(s:aX)(a:aA)(hw:w.length<=1048576)(hm:m.length<=1048576):c (Lib.rs w) (Lib.rs m) s a=ak/\v (Lib.rs w) (Lib.rs m) s a=Lib.rs (w++m):=by
 have h:=vv.ok (Lib.rs w) (Lib.rs m) (by rw[eE];exact hw) (by rw[eE];exact hm);have e:aE (aE (aT [Ck.l 9] 2) 0 [CV.l 9 (Lib.rs w)]) 1 [CV.l 9 (Lib.rs m)]=[[CV.l 9 (Lib.rs w)],[CV.l 9 (Lib.rs m)]]:=rfl;have e2:Lib.rs w++Lib.rs m=Lib.rs (w++m):=by unfold Lib.rs;rw[dh]
 exact out _ _ _ _ (by unfold vo b;rw[e,h.1,h.2,ay,e2])
end qf

namespace zm
theorem ok(l:az au)(k:au)(hl:l.length<=4294967296):c (Lib.rs l) k=ak/\decide (v (Lib.rs l) k≥0)=eS.has l k:=by
 have h:=out (Lib.rs l) k (x:=Lib.fi (λi=>decide ((l.getD i ⟨#[]⟩)=k)) l.length 0) (by
  unfold vo b;rw[eE];refine oL (λi=>decide ((l.getD i ⟨#[]⟩)=k)) l.length (λm (i:aG)=>l2 Lib.c7 (λ(_:aX) (_:au) (y7 _ _:aA)=>aj y7) (λ(_:aX) (_:au) (_ _ _:aA)=>aj (-1)) m (Lib.rs l) k 0 (l.length:aA) (i:aA)) aj (λm i hi hp=> ?_) (λm i hi hp=> ?_) (λm=> ?_) Lib.c7 (cT (by omega))
  ·have hg:l.getD i ⟨#[]⟩=l[i]:=by simp[jq,hi]
   rw[hg]at hp;have mD:decide (k=l[i])=true:=by rw[<-hp,ch];exact G1
   simp only[l2,r2,eE,Lib.dB,hi,aR,Lib.cR,aP,ay,Lib.eB,TW hi,bQ,Lib.fA,mD]
  ·have hg:l.getD i ⟨#[]⟩=l[i]:=by simp[jq,hi]
   rw[hg]at hp;have mD:decide (k=l[i])=false:=by rw[<-hp,ch];exact G1
   simp only[l2,r2,eE,Lib.dB,hi,aR,Lib.cR,aP,ay,Lib.eB,TW hi,bQ,Lib.fA,mD,aC,Lib.db hi (by omega:l.length<=9223372036854775807)]
  ·simp only[l2,r2,Lib.dB,bu,bm,aC])
 refine⟨h.1, ?_⟩
 rw[h.2];exact Lib.Jk l (λx=>decide (x=k)) _ (λi hi=>by simp[jq,hi])
end zm

namespace rM
theorem ok(l:az au)(k:au)(hl:l.length<=4294967296):c (Lib.rs l) k=ak/\v (Lib.rs l) k=eS.has l k:=by have h:=zm.ok l k hl;exact out _ _ (by unfold vo b;rw[h.1,h.2,ay])
end rM

namespace oF
open Lib (rr rs)
open eS (has without gk jP)
open jj (ej JF mP rU wz)
theorem iu(k:au):MG.v k=ej k:=fg.eM _ _ _
theorem ok(w m:az au)(s:az (az aA))(a:aA)(hw:w.length<=1048576)(hm:m.length<=1048576)(hf:iV.n6 s):c (rs w) (rs m) (rr s) a=ak/\v (rs w) (rs m) (rr s) a=rU w m s a:=by
 refine out _ _ _ _ ?_;have h2:=o8.ok s a hf;have h3:=qf.ok w m (rr s) a hw hm;unfold vo b;rw[h3.1,h3.2,ay,eE];have hl:(w++m).length<=2097152:=by rw[bO];omega
 have gO:∀i,i<(w++m).length->rM.c (rs ((w++m).take i)) ((w++m).getD i ⟨#[]⟩)=ak/\rM.v (rs ((w++m).take i)) ((w++m).getD i ⟨#[]⟩)=has ((w++m).take i) ((w++m).getD i ⟨#[]⟩):=λi hi=>rM.ok _ _ (by rw[eg];omega);have hk:∀i (hi:i<(w++m).length),bQ (aw (rs (w++m)) i 0)=(w++m).getD i ⟨#[]⟩:=λi hi=>by rw[TW hi,show(w++m).getD i ⟨#[]⟩=(w++m)[i]by rw[cK,eD hi];rfl];rfl
 generalize hL:w++m=L at hl gO hk
 have key:=jS (JF L) L.length (λn (i:aG)=>l3 Lib.c7 (λ(y8:aY) (_ _:aA) (_ _ _:aX) (_:aA) (_:aX)=>aj y8) (λ(_:aY) (_ _:aA) (Ca tD Gg:aX) (Gh:aA) (_:aX)=>bif(decide ((↑(bW Ca):aA)<=2))then(bif(decide ((↑(bW tD):aA)<=4))then(bif(o8.c Gg Gh)then(aj (o8.v Gg Gh))else(ao))else(aj aq))else(aj aq)) n aq (L.length:aA) (i:aA) (rs w) (rs m) (rr s) a (rs L)) (aj aq) (aj (decide (w.length<=2)&&(decide (m.length<=4)&&fg.nH s a)))
  (λn i hi hp=>by
   unfold JF at hp;rw[aK,dD]at hp;have b1:iO 0 (i:aA) (L.length:aA)=true:=by simp[iO];omega
   simp only[l3,r3,eE,Lib.dB,hi,aR,Lib.cR,aP,ay,Lib.eB,hk i hi,iu,hp.1,ba,aC,b1,wz,(gO i hi).1,(gO i hi).2,hp.2,Lib.db hi (by omega:L.length<=9223372036854775807)])
  (λn i hi hp=>by
   have b1:iO 0 (i:aA) (L.length:aA)=true:=by simp[iO];omega
   unfold JF at hp;cases h1:ej (L.getD i ⟨#[]⟩)with
   |false=>simp only[l3,r3,eE,Lib.dB,hi,aR,Lib.cR,aP,ay,Lib.eB,hk i hi,iu,h1,bX]
   |true=>rw[h1,bj,me]at hp;simp only[l3,r3,eE,Lib.dB,hi,aR,Lib.cR,aP,ay,Lib.eB,hk i hi,iu,h1,ba,aC,b1,wz,(gO i hi).1,(gO i hi).2,hp])
  (λn=>by simp only[l3,r3,eE,Lib.dB,bu,bm,aC,h2.1,h2.2,ay];rw[show decide ((w.length:aA)<=2)=decide (w.length<=2)by rw[ch];omega,show decide ((m.length:aA)<=4)=decide (m.length<=4)by rw[ch];omega];cases decide (w.length<=2)<;>cases decide (m.length<=4)<;>rfl) Lib.c7 (cT (by omega))
 refine key.trans ?_;unfold rU mP;rw[hL];cases (cM L.length).all (JF L)<;>rfl
end oF

namespace uK
open Lib (rr rs)
open eS (has)
theorem US(w m:az au)(k:au):has (w++m) k=(has w k||has m k):=by unfold has;rw[List.any_append]
theorem ok(w m:az au)(s:aX)(a:aA)(k:au)(hw:w.length<=1048576)(hm:m.length<=1048576):c (rs w) (rs m) s a k=ak/\v (rs w) (rs m) s a k=(has w k||has m k):=by have h1:=qf.ok w m s a hw hm;have h2:=rM.ok (w++m) k (by rw[bO];omega);exact out _ _ _ _ _ (by unfold vo b;rw[h1.1,h1.2,h2.1,h2.2,ay,ay,US])
end uK

namespace N8
open Lib (rr rs re el qz tY tZ t_ En)
open eS (has)
open jj (rU)
open m8 (F9 Lc tU)
theorem Dh(k:au)(s l:aA)(b:au):Ay.v k s l b=iL.v k s l b:=rfl
theorem ok(i0:aA)(en:az En)(w m:az au)(s:az (az aA))(a:aA)(r6 r7:aX)(i8:aA)(he:en.length<=1048576)(hw:w.length<=1048576)(hm:m.length<=1048576)(hf:iV.n6 s):
  c i0 (re en) (rs w) (rs m) (rr s) a r6 r7 i8=ak/\v i0 (re en) (rs w) (rs m) (rr s) a r6 r7 i8=Lc en w m s a:=by
 refine out _ _ _ _ _ _ _ _ _ ?_;have h1:=oF.ok w m s a hw hm hf;have h2:=λk=>uK.ok w m (rr s) a k hw hm;have h3:=qf.ok w m (rr s) a hw hm;unfold vo b;rw[dQ]
 have key:=jS (F9 en w m) en.length (λn (i:aG)=>l2 Lib.c7 (λ(Gf:aY) (_:aX) (_ _ _:aA) (_ _ _ _:aX) (_:aA) (_ _:aX) (_:aA)=>aj Gf) (λ(_:aY) (_:aX) (_ _ _:aA) (Ms Kr Ks Ts:aX) (Tt:aA) (_ _:aX) (_:aA)=>bif(oF.c Kr Ks Ts Tt)then(bif(oF.v Kr Ks Ts Tt)then(bif(qf.c Kr Ks Ts Tt)then(aj (decide ((↑(bW (qf.v Kr Ks Ts Tt)):aA)=(↑(bW Ms):aA))))else(ao))else(aj aq))else(ao)) n aq (re en) (en.length:aA) (i:aA) i0 (re en) (rs w) (rs m) (rr s) a r6 r7 i8) (aj aq) (aj (rU w m s a&&decide (w.length+m.length=en.length)))
  (λn i hi hp=>by
   unfold F9 tU at hp;rw[aK,aK]at hp;obtain⟨p1,p2,p3⟩:=hp;by_cases hz:i=0
   ·subst hz;simp only[l2,r2,dQ,Lib.dB,hi,aR,Lib.cR,aP,ay,Lib.eB,qz hi,tY hi,tZ hi,t_ hi,bQ,bY,Dh,p1,ba,aC,aM (show¬(((0:aG):aA)>0)by omega),(h2 _).1,(h2 _).2,p3,Lib.db hi (by omega:en.length<=9223372036854775807)]
   ·rw[aM hz,nK]at p2;have lL:i-1<en.length:=by omega
    simp only[l2,r2,dQ,Lib.dB,hi,aR,Lib.cR,aP,ay,Lib.eB,qz hi,tY hi,tZ hi,t_ hi,bQ,bY,Dh,p1,ba,aC,aJ (show(i:aA)>0 by omega),lx (show 0<i by omega) (by omega),lL,qz lL,p2,(h2 _).1,(h2 _).2,p3,Lib.db hi (by omega:en.length<=9223372036854775807)])
  (λn i hi hp=>by
   unfold F9 tU at hp;cases p1:iL.v (el en i).k (el en i).st (el en i).li (el en i).bo with
   |false=>simp only[l2,r2,dQ,Lib.dB,hi,aR,Lib.cR,aP,ay,Lib.eB,qz hi,tY hi,tZ hi,t_ hi,bQ,bY,Dh,p1,bX]
   |true=>
    rw[p1,bj]at hp;by_cases hz:i=0
    ·subst hz;rw[aJ rfl,ze,bj]at hp;simp only[l2,r2,dQ,Lib.dB,hi,aR,Lib.cR,aP,ay,Lib.eB,qz hi,tY hi,tZ hi,t_ hi,bQ,bY,Dh,p1,ba,bX,aC,aM (show¬(((0:aG):aA)>0)by omega),(h2 _).1,(h2 _).2,hp]
    ·rw[aM hz,nK]at hp;have lL:i-1<en.length:=by omega
     cases p2:cf (aL (el en (i-1)).k) (aL (el en i).k)with
     |false=>simp only[l2,r2,dQ,Lib.dB,hi,aR,Lib.cR,aP,ay,Lib.eB,qz hi,tY hi,tZ hi,t_ hi,bQ,bY,Dh,p1,ba,bX,aC,aJ (show(i:aA)>0 by omega),lx (show 0<i by omega) (by omega),lL,qz lL,p2]
     |true=>rw[p2,bj]at hp;simp only[l2,r2,dQ,Lib.dB,hi,aR,Lib.cR,aP,ay,Lib.eB,qz hi,tY hi,tZ hi,t_ hi,bQ,bY,Dh,p1,ba,bX,aC,aJ (show(i:aA)>0 by omega),lx (show 0<i by omega) (by omega),lL,qz lL,p2,(h2 _).1,(h2 _).2,hp])
  (λn=>by simp only[l2,r2,Lib.dB,bu,bm,aC,h1.1,h1.2,h3.1,h3.2,ay,eE,dQ,bO];rw[show decide (((w.length+m.length:aG):aA)=(en.length:aA))=decide (w.length+m.length=en.length)by rw[ch];omega];cases rU w m s a<;>rfl) Lib.c7 (cT (by omega))
 refine key.trans ?_;unfold Lc;cases (cM en.length).all (F9 en w m)<;>rfl
end N8

namespace fF
def op(r:aX)(i:aG):aY:=decide (bY (aw r i 2)=1)
def g(r:aX)(i j:aG):aY:= !(op r i&&(op r j&&dC (aL (bQ (aw r i 0))) (aL (bQ (aw r j 0)))))
def val(r:aX):aY:=(cM r.length).all λi=>(cM i).all (g r i)
end fF

namespace qd
def p(s0:aX)(gq:au)(i:aG):aY:=Gu.v (bQ (aw s0 i 0)) (bQ (aw s0 i 1)) (bY (aw s0 i (1+1))) (bY (aw s0 i (1+1+1))) (bY (aw s0 i (1+1+1+1))) gq
theorem ok(s0:aX)(gq:au)(hl:s0.length<=4294967296):c s0 gq=ak/\v s0 gq=Lib.fi (p s0 gq) s0.length 0:=by
 refine out s0 gq ?_;unfold vo b;refine oL (p s0 gq) s0.length (λm (i:aG)=>l2 Lib.c7 (λ(_:aX) (_:au) (y7 _ _:aA)=>aj y7) (λ(_:aX) (_:au) (_ _ _:aA)=>aj (-1)) m s0 gq 0 (s0.length:aA) (i:aA)) aj (λm i hi hp=> ?_) (λm i hi hp=> ?_) (λm=> ?_) Lib.c7 (cT (by omega))
 ·unfold p at hp;simp only[l2,r2,Lib.dB,Lib.cR,Lib.eB,hi,aR,aP,ay,hp]
 ·unfold p at hp;simp only[l2,r2,Lib.dB,Lib.cR,Lib.eB,hi,aR,aP,ay,hp,aC,Lib.db hi (by omega:s0.length<=9223372036854775807)]
 ·simp only[l2,r2,Lib.dB,bu,bm,aC]
end qd

namespace IQ
theorem ok(i0:aA)(r1 r2 r3 r4:aX)(i5:aA)(r6 r7:aX)(i8:aA)(key:au)(hl:r6.length<=4294967296):c i0 r1 r2 r3 r4 i5 r6 r7 i8 key=ak/\v i0 r1 r2 r3 r4 i5 r6 r7 i8 key=Lib.fi (qd.p r6 key) r6.length 0:=by have h:=qd.ok r6 key hl;exact out _ _ _ _ _ _ _ _ _ _ (by unfold vo b;rw[h.1,h.2,ay])
end IQ

namespace vq
def q(r:aX)(i:aG):aY:= !(fF.op r i&&(Lib.fi (qd.p r (bQ (aw r i 0))) r.length 0 !=(i:aA)))
theorem same(r:aX)(i:aG)(hi:i<r.length):q r i=(cM i).all (fF.g r i):=by
 unfold q;cases ho:fF.op r i with
 |false=>symm;rw[pG,bX,bn];intro j _;unfold fF.g;rw[ho];rfl
 |true=>
  rw[bj];have hp:∀j,qd.p r (bQ (aw r i 0)) j= !fF.g r i j:=by intro j;unfold qd.p Gu.v fF.g;rw[ho,bj,Bool.not_not,Lib.fA,Lib.fA];unfold fF.op;rw[show decide (bQ (aw r j 0)=bQ (aw r i 0))=decide (bQ (aw r i 0)=bQ (aw r j 0))from by rw[ch];exact G1];cases decide (bQ (aw r i 0)=bQ (aw r j 0))<;>simp
  have hpi:qd.p r (bQ (aw r i 0)) i=true:=by rw[hp];unfold fF.g;rw[ho,Lib.fA];simp
  rcases Lib.pR (qd.p r (bQ (aw r i 0))) r.length 0 with ⟨_,h2⟩|⟨k,h1,h2,h3,h4,h5⟩
  ·have:=h2 i (bK _) (by omega);rw[hpi]at this;cases this
  ·rw[h3];by_cases hk:k=i
   ·subst hk;rw[bne_self_eq_false,bX];symm;rw[bn];intro j hj;have:=h5 j (bK _) (by simpa using hj);rw[hp]at this;simpa using this
   ·have jD:k<i:=by
     rcases qw k i with h|h
     ·exact h
     ·have:=h5 i (bK _) (by omega);rw[hpi]at this;cases this
    rw[show((k:aA) !=(i:aA))=ak from by simp;omega,ba];symm;rw[List.all_eq_false];refine⟨k,by simpa using jD, ?_⟩
    rw[hp]at h4;simpa using h4
theorem ok(i0:aA)(p1 p2 p3 p4:aX)(i5:aA)(p6 p7:aX)(i8:aA)(hl:p6.length<=4294967296):c i0 p1 p2 p3 p4 i5 p6 p7 i8=ak/\v i0 p1 p2 p3 p4 i5 p6 p7 i8=fF.val p6:=by
 refine out _ _ _ _ _ _ _ _ _ ?_;unfold vo b;have hw:∀i,i<p6.length->bM ((i:aA)+1)=((i+1:aG):aA):=λi h=>Lib.db h (by omega);have ho:=λkey=>IQ.ok i0 p1 p2 p3 p4 i5 p6 p7 i8 key hl
 have key:=jS (q p6) p6.length (λm (i:aG)=>l2 Lib.c7 (λ(Gf:aY) (_:aX) (_ _ _:aA) (_ _ _ _:aX) (_:aA) (_ _:aX) (_:aA)=>aj Gf) (λ(_:aY) (_:aX) (_ _ _:aA) (_ _ _ _:aX) (_:aA) (_ _:aX) (_:aA)=>aj ak) m aq p6 (p6.length:aA) (i:aA) i0 p1 p2 p3 p4 i5 p6 p7 i8) (aj aq) (aj ak)
  (λm i hi hp=>by
   unfold q fF.op at hp;cases e1:decide (bY (aw p6 i (1+1))=1)with
   |false=>simp only[l2,r2,Lib.dB,hi,aR,Lib.cR,aP,ay,Lib.eB,e1,aC,hw i hi]
   |true=>rw[show decide (bY (aw p6 i 2)=1)=ak from e1,bj,dD]at hp;simp only[l2,r2,Lib.dB,hi,aR,Lib.cR,aP,ay,Lib.eB,e1,(ho _).1,(ho _).2,hp,aC,hw i hi])
  (λm i hi hp=>by unfold q fF.op at hp;rw[me,aK]at hp;obtain⟨e1,e2⟩:=hp;have e1:decide (bY (aw p6 i (1+1))=1)=true:=e1;simp only[l2,r2,Lib.dB,hi,aR,Lib.cR,aP,ay,Lib.eB,e1,(ho _).1,(ho _).2,e2])
  (λm=>by simp only[l2,r2,Lib.dB,bu,bm,aC]) Lib.c7 (cT (by omega))
 refine key.trans ?_;rw[all_congr (λi hi=>same p6 i hi)];unfold fF.val;cases (cM p6.length).all λi=>(cM i).all (fF.g p6 i)<;>rfl
end vq

namespace MI
open Lib (rf el Fe Ib Ge W4 yD TX TY)
open m9 (nt apart lW)
theorem eM(n a b:aA):oe.v n a b=decide (a<=n/\n<=b):=fg.eM n a b
theorem one(fe:az Fe):fF.val (rf fe)=(cM fe.length).all (apart fe):=by
 unfold fF.val;rw[dI];refine all_congr (λi hi=> ?_);unfold apart;refine all_congr (λj hj=> ?_);have jC:j<fe.length:=by omega
 unfold fF.g fF.op lW;rw[Ib hi,Ib jC,yD hi,yD jC];simp only[bQ,bY,Lib.fA];rfl
theorem ok(i0:aA)(u1 u2 u3 u4:aX)(i5:aA)(fe:az Fe)(u7:aX)(i8:aA)(hf:fe.length<=1048576):
  c i0 u1 u2 u3 u4 i5 (rf fe) u7 i8=ak/\v i0 u1 u2 u3 u4 i5 (rf fe) u7 i8=((cM fe.length).all (λi=>nt i0 (el fe i))&&(decide (fe.length<=20)&&(cM fe.length).all (apart fe))):=by
 refine out _ _ _ _ _ _ _ _ _ ?_;have h1:=vq.ok i0 u1 u2 u3 u4 i5 (rf fe) u7 i8 (by rw[dI];omega);rw[one]at h1;unfold vo b;rw[dI]
 have key:=jS (λi=>nt i0 (el fe i)) fe.length (λn (i:aG)=>l2 Lib.c7 (λ(Gf:aY) (_:aX) (_ _ _:aA) (_ _ _ _:aX) (_:aA) (_ _:aX) (_:aA)=>aj Gf) (λ(_:aY) (_:aX) (_ _ Ot:aA) (Ms Kr Ks Ts:aX) (Tt:aA) (W_ T0:aX) (y38:aA)=>bif(decide ((↑(bW W_):aA)<=20))then(bif(vq.c Ot Ms Kr Ks Ts Tt W_ T0 y38)then(aj (vq.v Ot Ms Kr Ks Ts Tt W_ T0 y38))else(ao))else(aj aq)) n aq (rf fe) (fe.length:aA) (i:aA) i0 u1 u2 u3 u4 i5 (rf fe) u7 i8) (aj aq) (aj (decide (fe.length<=20)&&(cM fe.length).all (apart fe)))
  (λn i hi hq=>by
   unfold nt at hq;simp only[aK]at hq;obtain⟨q1,q2,q3,q4,q5⟩:=hq;have e1:decide (((el fe i).t.size:aA)>400)= !decide (((el fe i).t.size:aA)<=400):=by rw[<-decide_not,ch];omega
   simp only[l2,r2,dI,Lib.dB,hi,aR,Lib.cR,aP,ay,Lib.eB,Ib hi,Ge hi,W4 hi,TX hi,TY hi,bQ,bY,eM,oF.iu,e1,q1,q2,q3,q4,q5,ba,aC,Lib.db hi (by omega:fe.length<=9223372036854775807)])
  (λn i hi hq=>by
   unfold nt at hq;have e1:decide (((el fe i).t.size:aA)>400)= !decide (((el fe i).t.size:aA)<=400):=by rw[<-decide_not,ch];omega
   simp only[l2,r2,dI,Lib.dB,hi,aR,Lib.cR,aP,ay,Lib.eB,Ib hi,Ge hi,W4 hi,TX hi,TY hi,bQ,bY,eM,oF.iu,e1];revert hq;cases jj.ej (el fe i).k<;>cases decide (((el fe i).t.size:aA)<=400)<;>cases decide (1<=(el fe i).sta/\(el fe i).sta<=3)<;>cases decide (0<=(el fe i).li/\(el fe i).li<=999999)<;>cases decide (0<=(el fe i).st/\(el fe i).st<=i0)<;>intro hq<;>first|rfl|cases hq)
  (λn=>by simp only[l2,r2,Lib.dB,bu,bm,aC,dI,h1.1,h1.2,ay];rw[show decide ((fe.length:aA)<=20)=decide (fe.length<=20)by rw[ch];omega];cases decide (fe.length<=20)<;>rfl) Lib.c7 (cT (by omega))
 refine key.trans ?_;cases (cM fe.length).all (λi=>nt i0 (el fe i))<;>rfl
end MI

namespace N9
open Lib (rf rc el Fe Cl Ko Th Ti Tj Tk Tl Tm)
open jj (ej)
open p8 (F7)
open MI (eM)
theorem step(N:aG)(g k0 k1:aY->aX->aA->aA->aA->aX->aX->aX->aX->aA->aX->aX->aA->aD R)(i0:aA)(q1 q2 q3 q4:aX)(i5:aA)(fe:az Fe)(cl:az Cl)(i8:aA)(i:aG)(hi:i<cl.length)(hl:cl.length<=1048576):
  r2 N g k0 k1 aq (rc cl) cl.length (i:aA) i0 q1 q2 q3 q4 i5 (rf fe) (rc cl) i8=bif F7 i0 fe.length cl i then g aq (rc cl) cl.length ((i+1:aG):aA) i0 q1 q2 q3 q4 i5 (rf fe) (rc cl) i8 else k0 aq (rc cl) cl.length (i:aA) i0 q1 q2 q3 q4 i5 (rf fe) (rc cl) i8:=by
 unfold F7;have e1:decide (((el cl i).got.size:aA)>400)= !decide (((el cl i).got.size:aA)<=400):=by rw[<-decide_not,ch];omega
 have e2:decide ((el cl i).age<0)= !decide (0<=(el cl i).age):=by rw[<-decide_not,ch];omega
 by_cases hz:i=0
 ·subst hz;simp only[r2,eN,dI,Lib.dB,hi,aR,Lib.cR,aP,ay,Lib.eB,Ko hi,Th hi,Ti hi,Tj hi,Tk hi,Tl hi,Tm hi,bQ,bY,eM,oF.iu,aM (show¬(((0:aG):aA)>0)by omega),aC,e1,e2,Lib.db hi (by omega:cl.length<=9223372036854775807),ze,bj];cases decide (1<=(el cl 0).id/\(el cl 0).id<=9)<;>cases ej (el cl 0).k<;>cases decide (1<=(el cl 0).sta/\(el cl 0).sta<=3)<;>cases decide (0<=(el cl 0).fe/\(el cl 0).fe<=(fe.length:aA))<;>cases decide (((el cl 0).got.size:aA)<=400)<;>cases decide (0<=(el cl 0).fr/\(el cl 0).fr<=i0)<;>cases decide (0<=(el cl 0).age)<;>rfl
 ·have lL:i-1<cl.length:=by omega
  have e3:decide ((el cl (i-1)).id≥(el cl i).id)= !decide ((el cl (i-1)).id<(el cl i).id):=by rw[<-decide_not,ch];omega
  simp only[r2,eN,dI,Lib.dB,hi,aR,Lib.cR,aP,ay,Lib.eB,Ko hi,Th hi,Ti hi,Tj hi,Tk hi,Tl hi,Tm hi,bQ,bY,eM,oF.iu,aJ (show(i:aA)>0 by omega),lx (show 0<i by omega) (by omega),lL,Ko lL,aC,e1,e2,e3,Lib.db hi (by omega:cl.length<=9223372036854775807),aM hz,nK];cases decide (1<=(el cl i).id/\(el cl i).id<=9)<;>cases decide ((el cl (i-1)).id<(el cl i).id)<;>cases ej (el cl i).k<;>cases decide (1<=(el cl i).sta/\(el cl i).sta<=3)<;>cases decide (0<=(el cl i).fe/\(el cl i).fe<=(fe.length:aA))<;>cases decide (((el cl i).got.size:aA)<=400)<;>cases decide (0<=(el cl i).fr/\(el cl i).fr<=i0)<;>cases decide (0<=(el cl i).age)<;>rfl
theorem ok(i0:aA)(q1 q2 q3 q4:aX)(i5:aA)(fe:az Fe)(cl:az Cl)(i8:aA)(hl:cl.length<=1048576):
  c i0 q1 q2 q3 q4 i5 (rf fe) (rc cl) i8=ak/\v i0 q1 q2 q3 q4 i5 (rf fe) (rc cl) i8=((cM cl.length).all (F7 i0 fe.length cl)&&decide (cl.length<=6)):=by
 refine out _ _ _ _ _ _ _ _ _ ?_;unfold vo b;rw[eN]
 have key:=jS (F7 i0 fe.length cl) cl.length (λn (i:aG)=>l2 Lib.c7 (λ(Gf:aY) (_:aX) (_ _ _:aA) (_ _ _ _:aX) (_:aA) (_ _:aX) (_:aA)=>aj Gf) (λ(_:aY) (_:aX) (_ _ _:aA) (_ _ _ _:aX) (_:aA) (_ T0:aX) (_:aA)=>aj (decide ((↑(bW T0):aA)<=6))) n aq (rc cl) (cl.length:aA) (i:aA) i0 q1 q2 q3 q4 i5 (rf fe) (rc cl) i8) (aj aq) (aj (decide (cl.length<=6)))
  (λn i hi hq=>by simp only[l2];rw[step _ _ _ _ _ _ _ _ _ _ _ _ _ i hi hl,hq];rfl)
  (λn i hi hq=>by simp only[l2];rw[step _ _ _ _ _ _ _ _ _ _ _ _ _ i hi hl,hq];rfl)
  (λn=>by simp only[l2,r2,Lib.dB,bu,bm,aC,eN];rw[show decide ((cl.length:aA)<=6)=decide (cl.length<=6)by rw[ch];omega]) Lib.c7 (cT (by omega))
 refine key.trans ?_;cases (cM cl.length).all (F7 i0 fe.length cl)<;>rfl
end N9

namespace ED
open Lib (rr rs re rf rc el En Fe Cl Px)
open m8 (Lc)
open m9 (nt apart)
open p8 (F7 iX)
theorem ok(p:Px)(hp:p.Fit 1048576):c p.now (re p.en) (rs p.w) (rs p.m) (rr p.s) p.a (rf p.fe) (rc p.cl) p.hits=ak/\v p.now (re p.en) (rs p.w) (rs p.m) (rr p.s) p.a (rf p.fe) (rc p.cl) p.hits=iX p:=by refine out _ _ _ _ _ _ _ _ _ ?_;have h1:=N8.ok p.now p.en p.w p.m p.s p.a (rf p.fe) (rc p.cl) p.hits hp.en hp.w hp.m ⟨hp.s.1,hp.s.2.1⟩;have h2:=MI.ok p.now (re p.en) (rs p.w) (rs p.m) (rr p.s) p.a p.fe (rc p.cl) p.hits hp.fe;have h3:=N9.ok p.now (re p.en) (rs p.w) (rs p.m) (rr p.s) p.a p.fe p.cl p.hits hp.cl;unfold vo b iX;have e1:∀n a b,oe.v n a b=decide (a<=n/\n<=b):=λn a b=>fg.eM n a b;have e2:Ax.v p.hits=decide (0<=p.hits/\p.hits<=1000000000):=e1 p.hits 0 1000000000;rw[e1,e2,h1.1,h1.2,h2.1,h2.2,h3.1,h3.2,EG];cases decide (1<=p.now/\p.now<=1000000000)<;>cases Lc p.en p.w p.m p.s p.a<;>cases decide (p.fe.length<=20)<;>cases decide (p.cl.length<=6)<;>cases decide (0<=p.hits/\p.hits<=1000000000)<;>cases (cM p.fe.length).all (λi=>nt p.now (el p.fe i))<;>cases (cM p.fe.length).all (apart p.fe)<;>cases (cM p.cl.length).all (F7 p.now p.fe.length p.cl)<;>rfl
end ED

namespace qc
def p(s:aX)(k:aA)(i:aG):aY:=decide (bY (aw s i 0)=k)
theorem ok(d:aX)(n:aA)(hl:d.length<=4294967296):c d n=ak/\v d n=Lib.fi (p d n) d.length 0:=by
 refine out d n ?_;unfold vo b;refine oL (p d n) d.length (λm (i:aG)=>l2 Lib.c7 (λ(_:aX) (_:aA) (y7 _ _:aA)=>aj y7) (λ(_:aX) (_:aA) (_ _ _:aA)=>aj (-1)) m d n 0 (d.length:aA) (i:aA)) aj (λm i hi hp=> ?_) (λm i hi hp=> ?_) (λm=> ?_) Lib.c7 (cT (by omega))
 ·unfold p at hp;simp only[l2,r2,Lib.dB,Lib.cR,Lib.eB,hi,aR,aP,ay,II.v,hp]
 ·unfold p at hp;simp only[l2,r2,Lib.dB,Lib.cR,Lib.eB,hi,aR,aP,ay,II.v,hp,aC,Lib.db hi (by omega:d.length<=9223372036854775807)]
 ·simp only[l2,r2,Lib.dB,bu,bm,aC]
end qc

namespace TM
open Lib (rc el Cl)
open dY (jm)
theorem ok(i0:aA)(r1 r2 r3 r4:aX)(i5:aA)(r6:aX)(cl:az Cl)(i8 id:aA)(hl:cl.length<=1048576):c i0 r1 r2 r3 r4 i5 r6 (rc cl) i8 id=ak/\decide (v i0 r1 r2 r3 r4 i5 r6 (rc cl) i8 id≥0)=jm cl id:=by
 have h:=qc.ok (rc cl) id (by rw[eN];omega);have o:=out i0 r1 r2 r3 r4 i5 r6 (rc cl) i8 id (by unfold vo b;rw[h.1,h.2,ay]);refine⟨o.1, ?_⟩
 rw[o.2,eN];exact dY.Jk cl (λx=>decide (x.id=id)) _ λi hi=>by unfold qc.p;rw[Ko hi,eQ hi];rfl
end TM

namespace vE
def p(s:aX)(k:au)(i:aG):aY:=dC (aL (bQ (aw s i 0))) (aL k)
theorem ok(d:aX)(n:au)(hl:d.length<=4294967296):c d n=ak/\v d n=Lib.fi (p d n) d.length 0:=by
 refine out d n ?_;unfold vo b;refine oL (p d n) d.length (λm (i:aG)=>l2 Lib.c7 (λ(_:aX) (_:au) (y7 _ _:aA)=>aj y7) (λ(_:aX) (_:au) (_ _ _:aA)=>aj (-1)) m d n 0 (d.length:aA) (i:aA)) aj (λm i hi hp=> ?_) (λm i hi hp=> ?_) (λm=> ?_) Lib.c7 (cT (by omega))
 ·unfold p at hp;simp only[l2,r2,Lib.dB,Lib.cR,Lib.eB,hi,aR,aP,ay,U67.v,hp]
 ·unfold p at hp;simp only[l2,r2,Lib.dB,Lib.cR,Lib.eB,hi,aR,aP,ay,U67.v,hp,aC,Lib.db hi (by omega:d.length<=9223372036854775807)]
 ·simp only[l2,r2,Lib.dB,bu,bm,aC]
end vE

namespace qe
theorem ok(i:aG)(key:au)(hi:i<3)(hk:key.size<=140737488355328):c (i:aA) key=ak/\v (i:aA) key=(fW.pl i key:aA):=by
 refine out _ _ ?_;unfold vo b;have e:(key++bytesOf (aE (aT [Ck.i bk] 1) 0 [CV.i bk (bJ bk (bM (↑(dO (iZ (b_ 64 (i:aA)) (b_ 64 255))):aA)))]))=fW.keyed i key:=by
  unfold fW.keyed;match i,hi with
  |0,_=>rfl
  |1,_=>rfl
  |2,_=>rfl
 have hs:=fW.BL i key;have h:=tQ.ok (fW.keyed i key) (by omega);have e2:gh key+gh (bytesOf (aE (aT [Ck.i bk] 1) 0 [CV.i bk (bJ bk (bM (↑(dO (iZ (b_ 64 (i:aA)) (b_ 64 255))):aA)))]))=key.size+1:=by rw[pe,BK]
 rw[e2,e,aJ (by omega),ay,h.1,h.2,ay];have hp:=fW.pl_int i key;have hl:=fW.BA i key;have hr:=fW.Ka i key;unfold fW.sm at hp hr;rw[dc (by omega) (by omega),hp]
end qe

namespace nM
open Lib (rr ri)
open fG (fR bq Cr half AP NS NT n7 tp sg)
theorem acD(K:au->aA->aA->aA->aA->aX->aD R)(s:az (az aA))(key:au)(y a:aA)(hs:s.length=3)(hq:∀q∈s,q.length=16/\∀n∈q,0<=n/\n<=15)(hk:key.size<=140737488355328):
  l5 Lib.c7 K Lib.c7 key 3 0 y a (rr s)=K key 3 3 y a (rr (Cr s key)):=by
 refine(oa fR s (λi q=>bq (fW.pl i key) q) (λm (i:aG) x=>l5 Lib.c7 K m key 3 (i:aA) y a x) (λx=>K key 3 3 y a x) (λm i L h h2 hL uT=> ?_) (λm L hL=> ?_) Lib.c7 (cT (by omega)))
 ·have hp:=qe.ok i key (by omega) hk;have rD:=fW.BA i key;obtain⟨Ik,hn⟩:=hq _ (bD h);have e0:aw (L.map fR) i 0=CV.l 3 (ri s[i]):=by rw[AP L i h2,uT]
  have hb:fW.pl i key<s[i].length:=by omega
  have hx:=hn _ (bD hb);have e3:decide ((i:aA)<3)=true:=aJ (by omega);simp only[l5,r5,bP,Lib.dB,h2,e3,aR,ay,hp.1,hp.2,Lib.cR,aP,Lib.eB,e0,ju,Lib.gW,Ik,rD,Oh hb,bY];unfold bq k8;rw[n7 hb,aC,dc (x:=s[i][fW.pl i key]+1) (by omega) (by omega)];by_cases hd:s[i][fW.pl i key]<15
  ·rw[bL (by omega),aJ hd,ay,NS _ _ _ hb,NT _ _ _ h2,Lib.db h2 (by omega)]
  ·have e15:s[i][fW.pl i key]=15:=by omega
   rw[bC (by omega),aM hd,aC,e15,NS _ _ _ hb,NT _ _ _ h2,Lib.db h2 (by omega)]
 ·have e3:decide ((s.length:aA)<3)=false:=aM (by omega);simp only[l5,r5,e3,aC,hs];rfl
theorem ahk(K:aG->aA->aA->aA->aA->aA->aA->aX->aD R)(L:az (az aA))(i:aG)(h:i<L.length)(u w y a:aA)(hl:L.length<=1048576)(hq:L[i].length=16)(hn:∀n∈L[i],0<=n/\n<=15):
  l18 Lib.c7 K Lib.c7 i u w 16 0 y a (L.map fR)=K i u w 16 16 y a ((L.set i (L[i].map λn=>cS n 2)).map fR):=by
 have X8:L[i].mapIdx (λ_ n=>cS n 2)=L[i].map λn=>cS n 2:=by apply kX<;>simp
 have key:=mn (L[i].length) (λm (k:aG) x=>l18 Lib.c7 K m i u w 16 (k:aA) y a x) (λk=>(L.set i (nI L[i] (λ_ n=>cS n 2) k)).map fR) (K i u w 16 16 y a ((L.set i (L[i].map λn=>cS n 2)).map fR)) (λm k hk=> ?_) (λm=> ?_) Lib.c7 0 (bK _) (cT (by omega))
 ·rw[BR,eT]at key;exact key
 ·have hu:=qt L[i] (λ_ n=>cS n 2) k (by omega);generalize hU:nI L[i] (λ_ n=>cS n 2) k=U at hu;have hku:k<U.length:=by omega
  have fS:U[k]=L[i][k]:=by subst hU;exact wy _ _ _ hk _
  have abG:U.set k (cS L[i][k] 2)=nI L[i] (λ_ n=>cS n 2) (k+1):=by subst hU;exact sQ L[i] (λ_ n=>cS n 2) k hk
  have h2:i<(L.set i U).length:=by simpa using h
  have e0:aw ((L.set i U).map fR) i 0=CV.l 3 (ri U):=by rw[AP _ _ h2,j4]
  have hx:=hn _ (bD hk);have ht:0<=cS L[i][k] 2:=Ue hx.1 (by omega);have E8:cS L[i][k] 2<=15:=yK (TE _ hx.1) hx.2;have e3:decide ((k:aA)<16)=true:=aJ (by omega);simp only[l18,r18,bP,cw,Lib.dB,h,hku,e3,aR,ay,Lib.cR,aP,Lib.eB,e0,ju,Lib.gW,Oh hku,bY,fS];rw[dc (x:=cS L[i][k] 2) (by omega) (by omega),NS _ _ _ hku,NT _ _ _ h2,abG,o7,Lib.db hk (by omega)]
 ·have e3:decide ((L[i].length:aA)<16)=false:=aM (by omega);simp only[l18,r18,e3,aC];rw[qs,X8,hq];rfl
theorem ahi(K:aA->aA->aA->aA->aX->aD R)(s:az (az aA))(y a:aA)(hs:s.length=3)(hq:∀q∈s,q.length=16/\∀n∈q,0<=n/\n<=15):
  l15 Lib.c7 K Lib.c7 3 0 y a (rr s)=K 3 3 y a (rr (half s)):=by
 have X8:s.mapIdx (λ_ q=>q.map λn=>cS n 2)=half s:=by unfold half;apply kX<;>simp
 rw[<-X8];refine(oa fR s (λ_ q=>q.map λn=>cS n 2) (λm (i:aG) x=>l15 Lib.c7 K m 3 (i:aA) y a x) (λx=>K 3 3 y a x) (λm i L h h2 hL uT=> ?_) (λm L hL=> ?_) Lib.c7 (cT (by omega)))
 ·obtain⟨Ik,hn⟩:=hq _ (bD h);have e3:decide ((i:aA)<3)=true:=aJ (by omega);have e0:aw (L.map fR) i 0=CV.l 3 (ri s[i]):=by rw[AP L i h2,uT]
  simp only[l15,r15,bP,Lib.dB,h2,e3,aR,ay,Lib.cR,aP,Lib.eB,e0,ju,Lib.gW,Ik];rw[show((16:aG):aA)=16 from rfl,ahk _ L i h2 3 i y a (by omega) (by rw[uT];exact Ik) (by rw[uT];exact hn),Lib.db h2 (by omega),uT]
 ·have e3:decide ((s.length:aA)<3)=false:=aM (by omega);simp only[l15,r15,e3,aC,hs];rfl
theorem ok(s:az (az aA))(a:aA)(key:au)(hf:iV.n6 s)(hk:key.size<=140737488355328):c (rr s) a key=ak/\v (rr s) a key=(rr (fG.val s a key).1,(fG.val s a key).2):=by
 refine out _ _ _ ?_;have h1:=iV.ok s a hf;have h2:=o8.ok s a hf;unfold vo b fG.val;rw[h1.1,h1.2,h2.1,h2.2,ay,ay];cases b8:fg.nH s a with
 |false=>rfl
 |true=>
  obtain⟨hs,ha,hq⟩:=tp b8;obtain⟨b1,b2⟩:=sg (key:=key) hs hq;rw[ba,aC,ay,gu,hs,show((3:aG):aA)=3 from rfl,acD _ s key _ _ hs hq hk,dc (x:=a+1) (by omega) (by omega)];by_cases hd:a+1=64
  ·rw[aM (show¬a+1<64 by omega),aJ hd,ay,aC,gu,b1,show((3:aG):aA)=3 from rfl,ahi _ _ _ _ b1 b2]
  ·rw[aJ (show a+1<64 by omega),aM hd];rfl
end nM

namespace rO
def p(s:aX)(k:au)(i:aG):aY:=dC (aL (bQ (aw s i 0))) (aL k)
theorem ok(d:aX)(n:au)(hl:d.length<=4294967296):c d n=ak/\v d n=Lib.fi (p d n) d.length 0:=by
 refine out d n ?_;unfold vo b;refine oL (p d n) d.length (λm (i:aG)=>l2 Lib.c7 (λ(_:aX) (_:au) (y7 _ _:aA)=>aj y7) (λ(_:aX) (_:au) (_ _ _:aA)=>aj (-1)) m d n 0 (d.length:aA) (i:aA)) aj (λm i hi hp=> ?_) (λm i hi hp=> ?_) (λm=> ?_) Lib.c7 (cT (by omega))
 ·unfold p at hp;simp only[l2,r2,Lib.dB,Lib.cR,Lib.eB,hi,aR,aP,ay,zn.v,hp]
 ·unfold p at hp;simp only[l2,r2,Lib.dB,Lib.cR,Lib.eB,hi,aR,aP,ay,zn.v,hp,aC,Lib.db hi (by omega:d.length<=9223372036854775807)]
 ·simp only[l2,r2,Lib.dB,bu,bm,aC]
end rO

namespace vu
def cn(y:az CV):aY:=match y with|[.s _]=>ak|_=>aq
def cr(y:az CV):az CV:=[CV.s (bQ (y.getD 0 (.b aq)))]
theorem yP{y:az CV}(h:cn y=ak):cr y=y:=by
 unfold cn at h;split at h
 ·rfl
 ·cases h
theorem oQ{y:az CV}(h:cn y=ak):y.length=1:=by rw[<-yP h];rfl
def keep(d:au)(y:az CV):aY:= !List.beq (aL (bQ (y.getD 0 (.b aq)))) (aL d)
theorem jv(d:au){s:aX}{i:aG}(h:i<s.length):(s.take (i+1)).filter (keep d)=(s.take i).filter (keep d)++(bif keep d s[i]then [s[i]]else []):=by rw[c6 h,iN];cases hk:keep d s[i]<;>simp[hk]
theorem run(N:aG)(s0:aX)(d:au)(hc:s0.all cn=ak)(hn:s0.length<=9223372036854775807)(K:au->aA->aA->aX->aD R)(kr:aX->aD R)
  (hK:∀(j:aG) x,x.length=s0.length->j<=s0.length->K d j s0.length x=kr (x.take j)) (m j i:aG) (x:aX)
  (hi:j<i/\i<=s0.length/\x.length=s0.length/\(∀y∈x,y.length=1)/\x.take j=(s0.take i).filter (keep d)/\x.drop i=s0.drop i) (hm:s0.length-i<m):
  l5 N K m d j i x=kr (s0.filter (keep d)):=by
 have Qx:∀y∈s0,cn y=true:=bn.1 hc
 refine Lib.ij (λm (s:aG×aG×aX)=>l5 N K m d s.1 s.2.1 s.2.2) (λs=>s0.length-s.2.1)
  (λs=>s.1<s.2.1/\s.2.1<=s0.length/\s.2.2.length=s0.length/\(∀y∈s.2.2,y.length=1)/\s.2.2.take s.1=(s0.take s.2.1).filter (keep d)/\s.2.2.drop s.2.1=s0.drop s.2.1)
  (λ_=>kr (s0.filter (keep d))) (λm s hs=> ?_) m (j,i,x) hi hm
 obtain⟨j,i,x⟩:=s;obtain⟨h1,h2,h3,h4,h5,h6⟩:=hs;simp only at h1 h2 h3 h4 h5 h6⊢;by_cases gO:i<s0.length
 ·right;have rC:i<x.length:=by omega
  have Ly:j<x.length:=by omega
  have hx:x[i]=s0[i]:=by have e1:=Lib.e_ rC;have e2:=Lib.e_ gO;rw[h6,e2]at e1;exact(mb e1).1.symm
  have hd:x.drop (i+1)=s0.drop (i+1):=by have e1:=Lib.e_ rC;have e2:=Lib.e_ gO;rw[h6,e2]at e1;exact(mb e1).2.symm
  have Qz:=Qx _ (bD gO);have hf:=jv d gO;cases hk:keep d s0[i]with
  |true=>
   refine⟨(j+1,i+1,x.set j s0[i]), ?_,by simp only;omega,trivial, ?_⟩
   ·rw[hk,ay,<-h5]at hf;refine⟨by simp only;omega,by simp only;omega,by simpa using h3, ?_, ?_, ?_⟩
    ·intro y hy;rcases gT hy with h|h
     ·exact h4 y h
     ·rw[h];exact oQ Qz
    ·rw[hf];rw[c6 (by simpa using Ly)];simp[uE]
    ·simp only;rw[uB (by omega)];exact hd
   ·have e:zn.v (bQ (aw x i 0)) d=false:=by
     have:(!zn.v (bQ (aw x i 0)) d)=true:=by rw[Lib.cX rC,hx];exact hk
     simpa using this
    have es:eh x j 0 [CV.s (bQ (aw x i 0))]=x.set j s0[i]:=by
     have hl:=h4 _ (bD Ly);rw[Lib.FA Ly,Lib.cX rC,hx];have:iF x[j] 0 (cr s0[i])=s0[i]:=by rw[yP Qz];unfold iF;have:=oQ Qz;simp[hl,this,iz]
     unfold cr at this;rw[this]
    have b1:(j:aA)<(x.length:aA):=by omega
    simp only[l5,r5,Lib.dB,Lib.cR,Lib.eB,rC,Ly,aR,bj,ay,e,bX,es,Lib.db gO hn,Lib.db (show j<s0.length by omega) hn]
  |false=>
   refine⟨(j,i+1,x), ?_,by simp only;omega,trivial, ?_⟩
   ·rw[hk,aC,di,<-h5]at hf;exact⟨by simp only;omega,by simp only;omega,h3,h4,hf.symm,hd⟩
   ·have e:zn.v (bQ (aw x i 0)) d=true:=by
     have:(!zn.v (bQ (aw x i 0)) d)=false:=by rw[Lib.cX rC,hx];exact hk
     simpa using this
    simp only[l5,r5,Lib.dB,Lib.cR,Lib.eB,rC,aR,bj,ay,e,ba,aC,Lib.db gO hn]
 ·left;have:i=s0.length:=by omega
  subst this;rw[fD]at h5;have e:=hK j x h3 (by omega);rw[h5]at e;have rC:¬s0.length<x.length:=by omega
  simp only[l5,r5,Lib.dB,rC,bm,aC,e]
theorem ok(s0:aX)(j6:au)(hc:s0.all cn=ak)(hn:s0.length<=4294967296):c s0 j6=ak/\v s0 j6=s0.filter (keep j6):=by
 refine out s0 j6 ?_;have hv:=rO.ok s0 j6 hn;unfold vo b;rw[hv.1,hv.2,ay];rcases Lib.pR (rO.p s0 j6) s0.length 0 with ⟨h,n8⟩|⟨k,_,zv,hk,QD,Qw⟩
 ·rw[h];have:s0.filter (keep j6)=s0:=by rw[eI];intro y hy;obtain⟨i,hi,rfl⟩:=c9 hy;have:=n8 i (bK _) (by omega);unfold rO.p at this;rw[Lib.cX hi]at this;unfold keep;rw[this];rfl
  rw[this];rfl
 ·rw[hk];have Im:k<s0.length:=by omega
  have h_:decide ((k:aA)=MD 1)=false:=aM (by show¬(k:aA)= -1;omega);rw[h_,aC,Lib.db Im (by omega)];have Qx:∀y∈s0,cn y=true:=bn.1 hc;refine run _ s0 j6 hc (by omega) _ aj (λj x hx hj=> ?_) _ k (k+1) s0 ⟨by omega,by omega,rfl,λy hy=>oQ (Qx y hy), ?_,rfl⟩ (cT (by omega))
  ·have b1:iO (j:aA) (s0.length:aA) (s0.length:aA)=true:=by simp[iO];omega
   have e:i_ j x++aT [Ck.s] (s0.length-j)++pj s0.length x=i_ j x++aT [Ck.s] (s0.length-j):=by rw[iz (by omega),di]
   have hl:(i_ j x).length=j:=by simp;omega
   simp only[hx,Lib.eB,b1,ay,e];rw[Lib.yN (by simp[iO];omega)];unfold eP;rw[show bc 0=0 from rfl,fm,uF,nT (by omega),iJ (by omega)]
  ·rw[jv j6 Im];have e1:keep j6 s0[k]=false:=by unfold rO.p at QD;rw[Lib.cX Im]at QD;unfold keep;rw[QD];rfl
   have e2:(s0.take k).filter (keep j6)=s0.take k:=by
    rw[eI];intro y hy;obtain⟨i,hi,rfl⟩:=c9 hy;have X5:i<k:=by simp at hi;omega
    have:=Qw i (bK _) X5;unfold rO.p at this;rw[Lib.cX (by omega)]at this;rw[mA];unfold keep;rw[this];rfl
   rw[e1,e2,aC,di]
end vu

namespace jI
theorem aeC(l:az au):(Lib.rs l).all vu.cn=true:=by rw[bn];intro y hy;unfold Lib.rs at hy;obtain⟨z,_,rfl⟩:=cG.1 hy;rfl
theorem abb(l:az au)(k:au):(Lib.rs l).filter (vu.keep k)=Lib.rs (eS.without l k):=by unfold Lib.rs eS.without;rw[nS];congr 1;apply pX;intro x _;show(!List.beq (aL x) (aL k))=_;rw[Lib.fA]
theorem ok(l:az au)(k:au)(hl:l.length<=1048576):c (Lib.rs l) k=ak/\v (Lib.rs l) k=Lib.rs (eS.without l k):=by have h1:=sb.ok (Lib.rs l) (by rw[eE];omega);have h2:=vu.ok (Lib.rs l) k (aeC l) (by rw[eE];omega);rw[abb]at h2;exact out _ _ (by unfold vo b;rw[h1.1,h1.2,h2.1,h2.2,ay,ay])
end jI

namespace uI
open Lib (rr ri)
open lY (gs E1)
theorem ok(s:az (az aA))(a:aA)(key:au)(hf:iV.n6 s)(hk:key.size<=140737488355328):c (rr s) a key=ak/\v (rr s) a key=lY.val s a key:=by
 refine out _ _ _ ?_;have h2:=o8.ok s a hf;unfold vo b lY.val;rw[h2.1,h2.2,ay];cases b8:fg.nH s a with
 |false=>rfl
 |true=>
  obtain⟨hs,ha,hq⟩:=fG.tp b8;rw[ba,aC,ay,gu];have:=Lib.ij (λm (t:aG×aA)=>l5 Lib.c7 (λ(_:au) (y6:aA) (_:aX) (_ _:aA)=>aj y6) m key t.2 (rr s) s.length (t.1:aA)) (λt=>s.length-t.1) (λt=>t.1<=s.length) (λt=>aj (gs key t.1 (s.drop t.1) t.2)) (λm t ht=>by
   obtain⟨i,x⟩:=t;dsimp only at ht⊢;by_cases h:i<s.length
   ·right;have hp:=qe.ok i key (by omega) hk;have rD:=fW.BA i key;obtain⟨Ik,hn⟩:=hq _ (bD h);have hb:fW.pl i key<s[i].length:=by omega
    refine⟨(i+1,bif decide (s[i].getD (fW.pl i key) 0<x)then s[i].getD (fW.pl i key) 0 else x),by dsimp only;omega,by dsimp only;omega,by rw[<-E1 key s i h x], ?_⟩
    simp only[l5,r5,gu,Lib.dB,h,aR,ay,hp.1,hp.2,Lib.cR,aP,Lib.eB,Iq h,ju,Lib.gW,Ik,rD,Oh hb,bY,Lib.db h (by omega:s.length<=9223372036854775807)];rw[fG.n7 hb];unfold k8;rw[aC];by_cases hd:s[i][fW.pl i key]<x
    ·rw[bC hd,aJ hd,ay]
    ·rw[bL hd,aM hd,aC]
   ·left;have:i=s.length:=by omega
    subst this;simp only[l5,r5,gu,Lib.dB,bu,bm,aC,dm,gs]) Lib.c7 (0,15) (bK _) (cT (by dsimp only;omega))
  simpa using this
end uI

namespace MH
open Lib (rr rs)
open eS (has without gk jP ve gX oV)
open jj (ej JF mP rU)
open js (BM zer QA Tc mQ uY j_ J8 sw Bw)
theorem ok(w m:az au)(s:az (az aA))(a:aA)(key:au)(hw:w.length<=1048576)(hm:m.length<=1048576)(hf:iV.n6 s)(hk:key.size<=140737488355328):
  c (rs w) (rs m) (rr s) a key=ak/\v (rs w) (rs m) (rr s) a key=(rs (js.val w m s a key).1,rs (js.val w m s a key).2.1,rr (js.val w m s a key).2.2.1,(js.val w m s a key).2.2.2.1,(js.val w m s a key).2.2.2.2):=by
 refine out _ _ _ _ _ ?_;have h1:=i9.ok w m s a hw hm hf;have h2:=oF.ok w m s a hw hm hf;have h3:=nM.ok s a key hf hk;have h5:=rM.ok m key (by omega);have h6:=jI.ok w key hw;have h7:=jI.ok m key hm;have sf:=J8 (a:=a) (key:=key) hf;unfold vo b;simp only[Lib.lt,h1.1,h1.2,h2.1,h2.2,ay];unfold js.val;cases hp:rU w m s a with
 |false=>rfl
 |true=>
  obtain⟨p1,p2,p3,p4⟩:=Bw hp;rw[oF.iu,bj];cases zv:ej key with
  |false=>rfl
  |true=>
   have zw:=j_ zv;have l6:=gX (l:=w) (k:=key);have l7:=gX (l:=m) (k:=key);simp only[ba,aC,ay,h3.1,h3.2,h5.1,h5.2,h6.1,h6.2,h7.1,h7.2,BM,zer,eE,pe,bw];rw[Lib.cy (n:=(without w key).length+1) (by omega) (by omega),Lib.cy (n:=(without m key).length+1) (by omega) (by omega)];simp only[ay];cases hA:has w key with
   |true=>
    have hB:has m key=false:=by rw[jP];intro UW;have:=(uY.1 p1).2;rw[dX]at this;exact this.2.2 key (gk.1 hA) key UW rfl
    have jD:=oV hA;rw[hB,aC,ay,aJ (show((without w key++[key]).length:aA)<=2 by rw[bO,bw];omega)];rfl
   |false=>
    rw[ve hA];cases hB:has m key with
    |true=>rfl
    |false=>
     simp only[aC];rw[show decide (((w++[key]).length:aA)<=2)=decide ((w++[key]).length<=2)by rw[ch];omega];cases hC:decide ((w++[key]).length<=2)with
     |true=>rfl
     |false=>
      have hlw:(w++[key]).length=3:=by have:=lu hC;rw[bO,bw]at this⊢;omega
      have hfm:(w++[key]).getD 0 ⟨#[]⟩∈w++[key]:=sw (by omega);have Jw:((w++[key]).getD 0 ⟨#[]⟩).size<=30:=by
       rcases a_.1 hfm with h|h
       ·exact(j_ (mQ p1 (bN _ h))).2
       ·rw[aZ]at h;rw[h];exact zw.2
      have g1:=uI.ok (fG.val s a key).1 (fG.val s a key).2 ((w++[key]).getD 0 ⟨#[]⟩) sf (by omega);have i1:iO 1 ((w++[key]).length:aA) ((w++[key]).length:aA)=true:=by rw[hlw];rfl
      simp only[aC,aJ (show(0:aA)<((w++[key]).length:aA)by omega),i1,ay,QA,Tc,zer,BM,eE,Lib.cy (n:=m.length+1) (b:=16) (by omega) (by omega),g1.1,g1.2];rw[show decide ((m.length:aA)<4)=decide (m.length<4)by rw[ch];omega];cases hD:decide (m.length<4)with
      |true=>rfl
      |false=>
       have hm4:m.length=4:=by have:=lu hD;omega
       have X9:m.getD 0 ⟨#[]⟩∈m:=sw (by omega);have hms:=(j_ (mQ p1 (bH _ X9))).2;have g2:=uI.ok (fG.val s a key).1 (fG.val s a key).2 (m.getD 0 ⟨#[]⟩) sf (by omega);have i2:iO 1 (m.length:aA) (m.length:aA)=true:=by simp[iO];omega
       have E8:m.tail.length=3:=by rw[zg];omega
       simp only[aC,aJ (show(0:aA)<(m.length:aA)by omega),i2,ay,BM,Lib.cy (n:=m.tail.length+1) (b:=16) (by omega) (by omega),g2.1,g2.2];cases decide (lY.val (fG.val s a key).1 (fG.val s a key).2 ((w++[key]).getD 0 ⟨#[]⟩)>lY.val (fG.val s a key).1 (fG.val s a key).2 (m.getD 0 ⟨#[]⟩))<;>rfl
end MH

namespace Ii
open Lib (rr rs)
open eS (without)
theorem ok(w m:az au)(s:az (az aA))(a:aA)(key:au)(hw:w.length<=1048576)(hm:m.length<=1048576)(hf:iV.n6 s):c (rs w) (rs m) (rr s) a key=ak/\v (rs w) (rs m) (rr s) a key=(rs (without w key),rs (without m key),rr s,a):=by have h1:=i9.ok w m s a hw hm hf;have h2:=jI.ok w key hw;have h3:=jI.ok m key hm;exact out _ _ _ _ _ (by unfold vo b;rw[h1.1,h1.2,h2.1,h2.2,h3.1,h3.2];rfl)
end Ii

namespace po
open Lib (rc Cl)
open dY (jm jn lid Q1)
theorem ok(i0:aA)(q1 q2 q3 q4:aX)(i5:aA)(q6:aX)(cl:az Cl)(i8:aA)(x:Cl)(cs:cl.Pairwise λa b=>a.id<b.id)(hn:jm cl x.id=aq)(hl:cl.length<=1048576):
  c i0 q1 q2 q3 q4 i5 q6 (rc cl) i8 x.id x.k x.fe x.fr x.sta x.got x.age=ak/\v i0 q1 q2 q3 q4 i5 q6 (rc cl) i8 x.id x.k x.fe x.fr x.sta x.got x.age=(i0,q1,q2,q3,q4,i5,q6,rc (jn cl x),i8):=by
 refine out _ _ _ _ _ _ _ _ _ _ _ _ _ _ _ _ ?_;unfold vo b;have hrl:=eN cl
 have:=wv (lid x.id) (rc cl) (λm (i:aG)=>l2 Lib.c7 (λFN FP Ca tD Gg Gh NX TZ Ol On Gi Oo Oq Ot Ms Kr Ks=>bif(decide (0<=FN)&&decide (FN<=(↑(bW Ks):aA))&&cJ (bW Ks+bW (aE (aT [Ck.i ar,Ck.s,Ck.i ar,Ck.i ar,Ck.i ar,Ck.s,Ck.i ar] 1) 0 [CV.i ar Gg,CV.s Gh,CV.i ar NX,CV.i ar TZ,CV.i ar Ol,CV.s On,CV.i ar Gi])) 72)then(aj (FP,Oo,Oq,Ot,Ms,Ca,Kr,(Pu.xW Ks (bc FN) (aE (aT [Ck.i ar,Ck.s,Ck.i ar,Ck.i ar,Ck.i ar,Ck.s,Ck.i ar] 1) 0 [CV.i ar Gg,CV.s Gh,CV.i ar NX,CV.i ar TZ,CV.i ar Ol,CV.s On,CV.i ar Gi])),tD))else(ao)) m (i:aA) i0 i5 i8 x.id x.k x.fe x.fr x.sta x.got x.age q1 q2 q3 q4 q6 (rc cl))
  (λa=>bif decide ((a:aA)<=((rc cl).length:aA))then aj (i0,q1,q2,q3,q4,i5,q6,Pu.xW (rc cl) a [Cl.row x],i8)else ao)
  (λm i h hp=>by
   have mD:decide (bY (aw (rc cl) i 0)<x.id)=true:=by rw[Lib.cX h];exact hp
   simp only[l2,r2,Lib.dB,h,aR,Lib.cR,aP,ay,Lib.eB,mD,Lib.db h (by omega:(rc cl).length<=9223372036854775807)])
  (λm i h hp=>by
   have mD:decide (bY (aw (rc cl) i 0)<x.id)=false:=by rw[Lib.cX h];exact hp
   simp only[l2,r2,Lib.dB,h,aR,Lib.cR,aP,bj,ph,ay,aC,Lib.eB,mD,Lib.jK,bw,Lib.cy (n:=(rc cl).length+1) (b:=72) (by omega) (by omega)];rfl)
  (λm=>by simp only[l2,r2,Lib.dB,bu,bm,aR,Lib.cR,aP,bj,ph,ay,aC,Lib.eB,Lib.jK,bw,Lib.cy (n:=(rc cl).length+1) (b:=72) (by omega) (by omega)];rfl) Lib.c7 (cT (by omega))
 refine this.trans ?_;have hle:=H8 (lid x.id) (rc cl);rw[aJ (by omega),ay];unfold Pu.xW;rw[Q1 cs hn]
end po

end Go.FG
