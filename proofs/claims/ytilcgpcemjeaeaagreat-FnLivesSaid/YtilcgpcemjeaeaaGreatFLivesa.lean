/- What the functions come to, in plain numbers, texts and lists; last the law itself. No condition but those that each states. -/
import Derived.Test.YtilcgpcemjeaeaaGreatPLivesb
set_option linter.unusedVariables false
set_option linter.unusedSimpArgs false
set_option maxRecDepth 100000
open Array renaming toList_extract->iv,toList_append->vn,length_toList->dS
open BitVec renaming toNat->dW,xor->ma,ofInt->b9,and->jo
open Bool renaming false->ak,true->ai,or_eq_true->dM,and_eq_true->aL,or_eq_false_iff->iF,and_self->aM,not_eq_true'->dv,true_and->bh,not_false->bQ,not_true->aY,and_assoc->nF,and_true->jY,not_eq_false'->mH,false_or->n_,true_or->Af,false_eq_true->du,cond_eq_ite->cz,false_and->ly
open ByteArray renaming toList->aF,data_extract->gk,data_append->mo,size_extract->yr,size_append->dI,empty_append->lJ,append_assoc->C0,empty->Hm,append_empty->qi,size->cj
open Classical renaming byContradiction->Ag
open Eq renaming trans->JU
open Go.ByteArray renaming toList_eq->kh
open Go.IntKind renaming i64->ao,wrap->bE,u32->eD,u8->ba
open Go.Op renaming bytesLess->bY
open Int renaming neg->oS,toNat->aZ,tmod->cK,tdiv->cL,tmod_eq_emod_of_nonneg->ij,tdiv_eq_ediv_of_nonneg->g7,pow_succ->uH,toNat_natCast->eQ,natCast_zero->VA,tmod_nonneg->Wm,tdiv_nonneg->Wl,le_trans->zO,tdiv_le_self->VB,emod_nonneg->Wj,emod_lt_of_pos->PQ
open List renaming length_singleton->bz,length->bM,set->aA,length_map->bR,length_filter_le->eS,nil_append->gD,length_append->bV,map_congr_left->PS,mem_filter->dG,append_assoc->cq,pairwise_append->uJ,filter_sublist->jK,singleton_append->uK,pairwise_cons->qn,mem_append->bc,mem_singleton->a_,filter_cons_of_pos->dC,filter_cons_of_neg->cy,length_cons->de,beq->cF,take_succ_eq_append_getElem->cB,filter_append->ik,all_eq_true->bu,getElem_mem->bA,mem_or_eq_of_mem_set->jD,take_set_of_le->wx,drop_set_of_lt->wv,drop_eq_nil_of_le->gT,append_nil->dj,take_length->dK,filter_eq_self->eE,getElem_of_mem->c8,take->gW,drop->m8,drop_zero->fu,take_append_of_le_length->oU,take_of_length_le->ja,getElem_take->nh,pairwise_map->kl,mem_map->cX,filter_map->oT,map_map->mg,map_append->dh,filter_congr->jq,range->cR,getD->j_,pairwise_iff_getElem->dB,length_set->cQ,length_drop->iA,drop_eq_getElem_cons->dD,cons_append->BC,extract_eq_take_drop->g8,drop_drop->vC,length_take->eJ,drop_append_of_le_length->AO,drop_of_length_le->HI,filter_filter->pA,takeWhile_map->Oe,dropWhile_map->Od,find?_eq_none->Wn,find?_eq_some_iff_getElem->Ai,find?_some->Fj,takeWhile_cons_of_pos->pY,takeWhile_cons_of_neg->pX,foldl_cons->Df,length_nil->jL,drop_length->di,foldl_nil->Wp,mem_of_find?_eq_some->Hp,length_pos_iff->Ml,getD_eq_getElem?_getD->cY,getElem?_eq_getElem->eR,ext_getElem->jM,getElem_set_self->kB,set_getElem_self->fw,set_set->pC,nodup_iff_pairwise_ne->pB,mem_cons_self->dL,mem_append_left->bW,length_tail->Wq,mem_append_right->bP,any_eq_false->Z1,findIdx?_eq_none_iff->D1,findIdx?_eq_some_iff_getElem->yt,pairwise_singleton->Hq,find?_cons_of_neg->J0,foldl_append->Aj,mem_range->kW,nodup_append->eK,nodup_cons->kC,mem_cons->cu,getElem_set->Rw,getElem?_append_left->dF,getElem?_append_right->dc
open List.Pairwise renaming filter->AM,nil->gZ
open List.cons renaming inj->kg
open Nat renaming lt_irrefl->bm,le_refl->cw,zero_le->bB,sub_zero->rX,zero_add->bS,le_trans->dg,le_succ->js,le_succ_of_le->m9,add_sub_cancel->PU,lt_or_ge->qJ
open Option renaming some->ah,none->aj,map_some->jc
open Option.some renaming inj->aJ
open Prod.mk renaming inj->bT
open UInt8 renaming lt_iff_toNat_lt->sJ,ofNat->aw,toNat_ofNat'->MD
open _root_ renaming List->aC,UInt8->Hu,decide_eq_true_eq->bg,absurd->cO,decide_eq_false_iff_not->e_,ByteArray->aq,Int->ax,Bool->aW,Nat->aE,decide_true->aP,cond_true->au,cond_false->ay,decide_false->bf,Option->az,decide_eq_false->aK,decide_eq_true->aG,if_pos->bw,if_neg->bG,congrArg->lI,decide_eq_decide->ca,of_decide_eq_true->cm,eq_comm->Im,of_decide_eq_false->oH,bne_self_eq_false->fT
namespace Go.FG
open Lib (Gf all_congr jQ o0 BK kD fE wR fF fY mh nY B3 MX wY lY qz cC lS rc0 rc1 rc2 rc3 rc4 rc5 rc6 e9 Jj VY VZ er dA dP P9 Jm gH V0 eH pF kO CM tL oO xX EW n8 CU xY qF qG tO nE c9 PJ wd0 wd1 wd2 pz rR rS rT Hg E0 Zi zK Qa Qb)
variable {R:Type}
namespace lH
theorem oL:∀x:aC Hu,bY x x=ak
 |[]=>rfl
 |a::x=>by
  have h:¬a<a:=by rw[sJ];omega
  simp[bY,oL x,h]
theorem o4:∀x y z:aC Hu,bY x y=ai->bY y z=ai->bY x z=ai
 |_,[],_,h,_=>by cases ‹aC Hu›<;>simp[bY]at h
 |_,_::_,[],_,h=>by simp[bY]at h
 |[],_::_,_::_,_,_=>by simp[bY]
 |a::x,b::y,c::z,h1,h2=>by
  simp only[bY,dM,aL,bg,beq_iff_eq]at h1 h2⊢;simp only[sJ]at h1 h2⊢;rcases h1 with h1|⟨rfl,h1⟩
  ·rcases h2 with h2|⟨rfl,h2⟩
   ·left;omega
   ·left;exact h1
  ·rcases h2 with h2|⟨rfl,h2⟩
   ·left;exact h2
   ·right;exact⟨rfl,o4 x y z h1 h2⟩
theorem RM:∀x y:aC Hu,bY x y=ak->x≠y->bY y x=ai
 |[],[],_,h=>cO rfl h
 |[],_::_,h,_=>by simp[bY]at h
 |_::_,[],_,_=>by simp[bY]
 |a::x,b::y,h,hn=>by
  simp only[bY,iF,Bool.and_eq_false_iff,e_,beq_eq_false_iff_ne]at h;simp only[bY,dM,aL,bg,beq_iff_eq];obtain⟨h1,h2⟩:=h;by_cases he:a=b
  ·subst he;right;refine⟨rfl,RM x y ?_ (λe=>hn (by rw[e]))⟩
   rcases h2 with h2|h2
   ·exact cO rfl h2
   ·exact h2
  ·left;rw[sJ]at h1⊢;have:a.toNat≠b.toNat:=λe=>he (UInt8.toNat_inj.1 e);omega
def key(y:aC CV):aC Hu:=aF (bn (y.getD 0 (.b ak)))
def lt(y z:aC CV):Prop:=bY (key y) (key z)=ai
def cr(y:aC CV):aC CV:=[CV.s (bn (y.getD 0 (.b ak))),CV.i ao (bI (y.getD 1 (.b ak))),CV.i ao (bI (y.getD 2 (.b ak))),CV.s (bn (y.getD 3 (.b ak)))]
def nw(k:aq)(s l:ax)(b:aq):aC CV:=[CV.s k,CV.i ao s,CV.i ao l,CV.s b]
def pl(k:aq)(y:aC CV):aW:=bY (key y) (aF k)
def pg(k:aq)(y:aC CV):aW:= !(bY (key y) (aF k)||List.beq (key y) (aF k))
def val(r:aQ)(k:aq)(s l:ax)(b:aq):aQ:=(r.filter (pl k)).map cr++[nw k s l b]++(r.filter (pg k)).map cr
theorem ok(r:aQ)(k:aq)(s l:ax)(b0:aq)(hl:r.length<=1048576):c r k s l b0=ai/\v r k s l b0=val r k s l b0:=by
 refine out r k s l b0 ?_;unfold vo;have hw:∀i,i<r.length->bH ((i:ax)+1)=((i+1:aE):ax):=λi h=>Lib.c6 h (by omega)
 have auB:=λ(ah7:aQ) (ha:ah7.length<=2000000)=>wY (pg k) cr r 2000000
  (λm (i:aE) (acc:aQ)=>l9 Lib.cU (λ(_:aQ) (_:ax) (_:aq) (_ _:ax) (_:aq) (HC:aQ)=>ah HC) m r (i:ax) k s l b0 acc) (λacc=>ah acc)
  (λm i acc h h2 hp=>by
   have mE:(!(bY (aF (bn (ar r i 0))) (aF k)||List.beq (aF (bn (ar r i 0))) (aF k)))=true:=by rw[Lib.cD h];exact hp
   simp only[l9,r9,Lib.dn,h,aP,Lib.cE,aM,au,Lib.dZ,mE,hw i h,Lib.iI,bz,Lib.b_ (n:=acc.length+1) (b:=48) (by omega) (by omega)];have e:[CV.s (bn (ar r i 0)),CV.i ao (bI (ar r i 1)),CV.i ao (bI (ar r i (1+1))),CV.s (bn (ar r i (1+1+1)))]=cr r[i]:=by rw[Lib.cD h,Lib.cD h,Lib.cD h,Lib.cD h];rfl
   rw[e])
  (λm i acc h h2 hp=>by
   have mE:(!(bY (aF (bn (ar r i 0))) (aF k)||List.beq (aF (bn (ar r i 0))) (aF k)))=false:=by rw[Lib.cD h];exact hp
   simp only[l9,r9,Lib.dn,h,aP,Lib.cE,aM,au,Lib.dZ,mE,ay,hw i h])
  (λm acc=>by simp only[l9,r9,Lib.dn,bm,bf,ay]) Lib.cU ah7 ha (cC (by omega))
 have gM:=wY (pl k) cr r 0
  (λm (i:aE) (acc:aQ)=>l3 Lib.cU (λ(y7:aQ) (_:ax) (y9:aq) (HB uC:ax) (LP:aq) (Hj:aQ)=>bif(cg (bM Hj+bM (aA (aN [Ck.s,Ck.i ao,Ck.i ao,Ck.s] 1) 0 [CV.s y9,CV.i ao HB,CV.i ao uC,CV.s LP])) 48)then(l9 Lib.cU (λ(_:aQ) (_:ax) (_:aq) (_ _:ax) (_:aq) (HC:aQ)=>ah HC) Lib.cU y7 0 y9 HB uC LP (Hj++aA (aN [Ck.s,Ck.i ao,Ck.i ao,Ck.s] 1) 0 [CV.s y9,CV.i ao HB,CV.i ao uC,CV.s LP]))else(aj)) m r (i:ax) k s l b0 acc)
  (λacc=>bif(cg (bM acc+1) 48)then(l9 Lib.cU (λ(_:aQ) (_:ax) (_:aq) (_ _:ax) (_:aq) (HC:aQ)=>ah HC) Lib.cU r 0 k s l b0 (acc++[nw k s l b0]))else aj)
  (λm i acc h h2 hp=>by
   have mE:bY (aF (bn (ar r i 0))) (aF k)=true:=by rw[Lib.cD h];exact hp
   simp only[l3,r3,Lib.dn,h,aP,Lib.cE,aM,au,Lib.dZ,mE,hw i h,Lib.iI,bz,Lib.b_ (n:=acc.length+1) (b:=48) (by omega) (by omega)];have e:[CV.s (bn (ar r i 0)),CV.i ao (bI (ar r i 1)),CV.i ao (bI (ar r i (1+1))),CV.s (bn (ar r i (1+1+1)))]=cr r[i]:=by rw[Lib.cD h,Lib.cD h,Lib.cD h,Lib.cD h];rfl
   rw[e])
  (λm i acc h h2 hp=>by
   have mE:bY (aF (bn (ar r i 0))) (aF k)=false:=by rw[Lib.cD h];exact hp
   simp only[l3,r3,Lib.dn,h,aP,Lib.cE,aM,au,Lib.dZ,mE,ay,hw i h])
  (λm acc=>by simp only[l3,r3,Lib.dn,bm,bf,ay];rfl) Lib.cU [] (cw _) (cC (by omega))
 unfold b;refine gM.trans ?_;have hf:((r.filter (pl k)).map cr).length<=r.length:=by rw[bR];exact eS _ _
 rw[gD,Lib.b_ (by omega) (by omega),au];exact auB _ (by rw[bV,bz];omega)
def Or(r:aQ):Prop:=r.Pairwise lt/\∀y∈r,cr y=y
theorem GQ{r:aQ}(h:∀y∈r,cr y=y)(q:aC CV->aW):(r.filter q).map cr=r.filter q:=by have:=PS (l:=r.filter q) (f:=cr) (g:=λz=>z) (λy hy=>h y (dG.1 hy).1);rw[this];exact List.map_id _
theorem xE{r:aQ}(h:Or r)(k:aq)(s l:ax)(b:aq):Or (val r k s l b)/\(val r k s l b).length<=r.length+1:=by
 unfold val;rw[GQ h.2,GQ h.2];have hg:∀y,pg k y=ai->bY (aF k) (key y)=true:=by intro y hy;unfold pg at hy;simp only[dv,iF]at hy;refine RM _ _ hy.1 (λe=> ?_);have:=hy.2;rw[e,Lib.qt]at this;cases this
 refine⟨⟨?_, ?_⟩, ?_⟩
 ·rw[cq,uJ];refine⟨h.1.sublist jK, ?_, ?_⟩
  ·rw[uK,qn];exact⟨λy hy=>hg y (dG.1 hy).2,h.1.sublist jK⟩
  ·intro y hy z hz;have h1:bY (key y) (aF k)=true:=(dG.1 hy).2;rcases bc.1 hz with q|q
   ·rw[a_.1 q];exact h1
   ·exact o4 _ _ _ h1 (hg z (dG.1 q).2)
 ·intro y hy;rcases bc.1 hy with q|q
  ·rcases bc.1 q with q|q
   ·exact h.2 y (dG.1 q).1
   ·rw[a_.1 q];rfl
  ·exact h.2 y (dG.1 q).1
 ·have hlen:∀r:aQ,(r.filter (pl k)).length+(r.filter (pg k)).length<=r.length:=by
   intro r;induction r with
   |nil=>exact cw _
   |cons y r ih=>
    have hx:pl k y=ai->pg k y=false:=by intro h;unfold pl at h;unfold pg;rw[h];rfl
    cases h1:pl k y with
    |true=>rw[dC h1,cy (by rw[hx h1];simp)];simp only[de];omega
    |false=>
     rw[cy (by simp[h1])];cases h2:pg k y with
     |true=>rw[dC h2];simp only[de];omega
     |false=>rw[cy (by simp[h2])];simp only[de];omega
  have:=hlen r;simp only[bV,bz];omega
end lH

namespace m_
def p(s:aQ)(k:aq)(i:aE):aW:=cF (aF (bn (ar s i 0))) (aF k)
theorem ok(d:aQ)(n:aq)(hl:d.length<=4294967296):c d n=ai/\v d n=Lib.fi (p d n) d.length 0:=by
 refine out d n ?_;unfold vo b;refine nY (p d n) d.length (λm (i:aE)=>l2 Lib.cU (λ(_:aQ) (_:aq) (y7 _ _:ax)=>ah y7) (λ(_:aQ) (_:aq) (_ _ _:ax)=>ah (-1)) m d n 0 (d.length:ax) (i:ax)) ah (λm i hi hp=> ?_) (λm i hi hp=> ?_) (λm=> ?_) Lib.cU (cC (by omega))
 ·unfold p at hp;simp only[l2,r2,Lib.dn,Lib.cE,Lib.dZ,hi,aP,aM,au,Ax.v,hp]
 ·unfold p at hp;simp only[l2,r2,Lib.dn,Lib.cE,Lib.dZ,hi,aP,aM,au,Ax.v,hp,ay,Lib.c6 hi (by omega:d.length<=9223372036854775807)]
 ·simp only[l2,r2,Lib.dn,bm,bf,ay]
end m_

namespace oY
def cn(y:aC CV):aW:=match y with|[.s _, .i .i64 _, .i .i64 _, .s _]=>ai|_=>ak
def cr(y:aC CV):aC CV:=[CV.s (bn (y.getD 0 (.b ak))),CV.i ao (bI (y.getD 1 (.b ak))),CV.i ao (bI (y.getD 2 (.b ak))),CV.s (bn (y.getD 3 (.b ak)))]
theorem s_{y:aC CV}(h:cn y=ai):cr y=y:=by
 unfold cn at h;split at h
 ·rfl
 ·cases h
theorem mj{y:aC CV}(h:cn y=ai):y.length=4:=by rw[<-s_ h];rfl
def keep(d:aq)(y:aC CV):aW:= !List.beq (aF (bn (y.getD 0 (.b ak)))) (aF d)
theorem il(d:aq){s:aQ}{i:aE}(h:i<s.length):(s.take (i+1)).filter (keep d)=(s.take i).filter (keep d)++(bif keep d s[i]then [s[i]]else []):=by rw[cB h,ik];cases hk:keep d s[i]<;>simp[hk]
theorem run(N:aE)(s0:aQ)(d:aq)(hc:s0.all cn=ai)(hn:s0.length<=9223372036854775807)(K:aq->ax->ax->aQ->az R)(kr:aQ->az R)
  (hK:∀(j:aE) x,x.length=s0.length->j<=s0.length->K d j s0.length x=kr (x.take j)) (m j i:aE) (x:aQ)
  (hi:j<i/\i<=s0.length/\x.length=s0.length/\(∀y∈x,y.length=4)/\x.take j=(s0.take i).filter (keep d)/\x.drop i=s0.drop i) (hm:s0.length-i<m):
  l5 N K m d j i x=kr (s0.filter (keep d)):=by
 have KJ:∀y∈s0,cn y=true:=bu.1 hc
 refine Lib.fQ (λm (s:aE×aE×aQ)=>l5 N K m d s.1 s.2.1 s.2.2) (λs=>s0.length-s.2.1)
  (λs=>s.1<s.2.1/\s.2.1<=s0.length/\s.2.2.length=s0.length/\(∀y∈s.2.2,y.length=4)/\s.2.2.take s.1=(s0.take s.2.1).filter (keep d)/\s.2.2.drop s.2.1=s0.drop s.2.1)
  (λ_=>kr (s0.filter (keep d))) (λm s hs=> ?_) m (j,i,x) hi hm
 obtain⟨j,i,x⟩:=s;obtain⟨h1,h2,h3,h4,h5,h6⟩:=hs;simp only at h1 h2 h3 h4 h5 h6⊢;by_cases gz:i<s0.length
 ·right;have oh:i<x.length:=by omega
  have GG:j<x.length:=by omega
  have hx:x[i]=s0[i]:=by have e1:=Lib.eF oh;have e2:=Lib.eF gz;rw[h6,e2]at e1;exact(kg e1).1.symm
  have hd:x.drop (i+1)=s0.drop (i+1):=by have e1:=Lib.eF oh;have e2:=Lib.eF gz;rw[h6,e2]at e1;exact(kg e1).2.symm
  have KL:=KJ _ (bA gz);have hf:=il d gz;cases hk:keep d s0[i]with
  |true=>
   refine⟨(j+1,i+1,x.set j s0[i]), ?_,by simp only;omega,trivial, ?_⟩
   ·rw[hk,au,<-h5]at hf;refine⟨by simp only;omega,by simp only;omega,by simpa using h3, ?_, ?_, ?_⟩
    ·intro y hy;rcases jD hy with h|h
     ·exact h4 y h
     ·rw[h];exact mj KL
    ·rw[hf];rw[cB (by simpa using GG)];simp[wx]
    ·simp only;rw[wv (by omega)];exact hd
   ·have e:Ax.v (bn (ar x i 0)) (bI (ar x i 1)) (bI (ar x i (1+1))) (bn (ar x i (1+1+1))) d=false:=by
     have:(!Ax.v (bn (ar x i 0)) (bI (ar x i 1)) (bI (ar x i (1+1))) (bn (ar x i (1+1+1))) d)=true:=by rw[Lib.cD oh,hx];exact hk
     simpa using this
    have es:eA x j 0 [CV.s (bn (ar x i 0)),CV.i ao (bI (ar x i 1)),CV.i ao (bI (ar x i (1+1))),CV.s (bn (ar x i (1+1+1)))]=x.set j s0[i]:=by
     have hl:=h4 _ (bA GG);rw[Lib.Bj GG,Lib.cD oh,Lib.cD oh,Lib.cD oh,Lib.cD oh,hx];have:iD x[j] 0 (cr s0[i])=s0[i]:=by rw[s_ KL];unfold iD;have:=mj KL;simp[hl,this,gT]
     unfold cr at this;rw[this]
    have b1:(j:ax)<(x.length:ax):=by omega
    simp only[l5,r5,Lib.dn,Lib.cE,Lib.dZ,oh,GG,aP,bh,au,e,bQ,es,Lib.c6 gz hn,Lib.c6 (show j<s0.length by omega) hn]
  |false=>
   refine⟨(j,i+1,x), ?_,by simp only;omega,trivial, ?_⟩
   ·rw[hk,ay,dj,<-h5]at hf;exact⟨by simp only;omega,by simp only;omega,h3,h4,hf.symm,hd⟩
   ·have e:Ax.v (bn (ar x i 0)) (bI (ar x i 1)) (bI (ar x i (1+1))) (bn (ar x i (1+1+1))) d=true:=by
     have:(!Ax.v (bn (ar x i 0)) (bI (ar x i 1)) (bI (ar x i (1+1))) (bn (ar x i (1+1+1))) d)=false:=by rw[Lib.cD oh,hx];exact hk
     simpa using this
    simp only[l5,r5,Lib.dn,Lib.cE,Lib.dZ,oh,aP,bh,au,e,aY,ay,Lib.c6 gz hn]
 ·left;have:i=s0.length:=by omega
  subst this;rw[dK]at h5;have e:=hK j x h3 (by omega);rw[h5]at e;have oh:¬s0.length<x.length:=by omega
  simp only[l5,r5,Lib.dn,oh,bf,ay,e]
theorem ok(s0:aQ)(iV:aq)(hc:s0.all cn=ai)(hn:s0.length<=4294967296):c s0 iV=ai/\v s0 iV=s0.filter (keep iV):=by
 refine out s0 iV ?_;have hv:=m_.ok s0 iV hn;unfold vo b;rw[hv.1,hv.2,au];rcases Lib.o_ (m_.p s0 iV) s0.length 0 with ⟨h,nN⟩|⟨k,_,zW,hk,KN,KI⟩
 ·rw[h];have:s0.filter (keep iV)=s0:=by rw[eE];intro y hy;obtain⟨i,hi,rfl⟩:=c8 hy;have:=nN i (bB _) (by omega);unfold m_.p at this;rw[Lib.cD hi]at this;unfold keep;rw[this];rfl
  rw[this];rfl
 ·rw[hk];have DD:k<s0.length:=by omega
  have iw:decide ((k:ax)=oS 1)=false:=aK (by show¬(k:ax)= -1;omega);rw[iw,ay,Lib.c6 DD (by omega)];have KJ:∀y∈s0,cn y=true:=bu.1 hc;refine run _ s0 iV hc (by omega) _ ah (λj x hx hj=> ?_) _ k (k+1) s0 ⟨by omega,by omega,rfl,λy hy=>mj (KJ y hy), ?_,rfl⟩ (cC (by omega))
  ·have b1:iy (j:ax) (s0.length:ax) (s0.length:ax)=true:=by simp[iy];omega
   have e:gW j x++aN [Ck.s,Ck.i ao,Ck.i ao,Ck.s] (s0.length-j)++m8 s0.length x=gW j x++aN [Ck.s,Ck.i ao,Ck.i ao,Ck.s] (s0.length-j):=by rw[gT (by omega),dj]
   have hl:(gW j x).length=j:=by simp;omega
   simp only[hx,Lib.dZ,b1,au,e];rw[Lib.s6 (by simp[iy];omega)];unfold eW;rw[show aZ 0=0 from rfl,fu,rX,oU (by omega),ja (by omega)]
  ·rw[il iV DD];have e1:keep iV s0[k]=false:=by unfold m_.p at KN;rw[Lib.cD DD]at KN;unfold keep;rw[KN];rfl
   have e2:(s0.take k).filter (keep iV)=s0.take k:=by
    rw[eE];intro y hy;obtain⟨i,hi,rfl⟩:=c8 hy;have VS:i<k:=by simp at hi;omega
    have:=KI i (bB _) VS;unfold m_.p at this;rw[Lib.cD (by omega)]at this;rw[nh];unfold keep;rw[this];rfl
   rw[e1,e2,ay,dj]
end oY

namespace gj
open Lib (re En)
def fc(x y:aq):aW:=bY (aF x) (aF y)
def So(en:aC En):Prop:=en.Pairwise λx y=>fc x.k y.k=ai
def fX(en:aC En)(k:aq):aC En:=en.filter λx=> !decide (x.k=k)
def mZ(en:aC En)(e:En):aC En:=en.filter (λx=>fc x.k e.k)++[e]++en.filter (λx=> !(fc x.k e.k||decide (x.k=e.k)))
theorem So.drop{en:aC En}(h:So en)(k:aq):So (fX en k):=AM _ h
theorem wQ(en:aC En)(k:aq):(fX en k).length<=en.length:=eS ..
theorem drop_nil{en:aC En}(h:∀e∈en,1<=e.k.size):fX en ⟨#[]⟩=en:=by unfold fX;rw[eE];intro e he;have:=h e he;simp only[dv,e_];intro e2;rw[e2]at this;exact cO this (by decide)
theorem Cv{en:aC En}(h:So en):lH.Or (re en):=by
 constructor
 ·unfold Lib.re;rw[kl];exact h
 ·intro y hy;unfold Lib.re at hy;obtain⟨z,_,rfl⟩:=cX.1 hy;rfl
theorem tG(en:aC En)(e:En):lH.val (re en) e.k e.st e.li e.bo=re (mZ en e):=by
 unfold lH.val mZ Lib.re;rw[oT,oT,mg,mg,dh,dh];have e1:(lH.pl e.k∘En.row)=λx:En=>fc x.k e.k:=rfl;have e2:(lH.pg e.k∘En.row)=λx:En=> !(fc x.k e.k||decide (x.k=e.k)):=by funext x;show(!(bY (aF x.k) (aF e.k)||List.beq (aF x.k) (aF e.k)))=_;rw[Lib.fj];rfl
 rw[e1,e2];rfl
theorem Gq(en:aC En)(k:aq):(re en).filter (oY.keep k)=re (fX en k):=by unfold Lib.re fX;rw[oT];congr 1;apply jq;intro x _;show(!List.beq (aF x.k) (aF k))=_;rw[Lib.fj]
theorem RU(en:aC En):(re en).all oY.cn=true:=by rw[bu];intro y hy;unfold Lib.re at hy;obtain⟨z,_,rfl⟩:=cX.1 hy;rfl
theorem rL(en:aC En)(e:En)(h:So en):(mZ en e).length<=en.length+1:=by have:=(lH.xE (Cv h) e.k e.st e.li e.bo).2;rw[tG,dA,dA]at this;exact this
end gj

namespace gO
def el(r:aQ)(i:aE):aW:=decide (1<=((bn (ar r i 0)).size:ax)/\((bn (ar r i 0)).size:ax)<=8)&&(!decide (((bn (ar r i 1)).size:ax)>20000)&&(decide (0<=bI (ar r i 2)/\bI (ar r i 2)<=((bn (ar r i 1)).size:ax))&&(i==0||Go.Op.bytesLess (aF (bn (ar r (i-1) 0))) (aF (bn (ar r i 0))))))
def val(r:aQ):aW:=decide (r.length<=30)&&(cR r.length).all (el r)
theorem mT(n a b:ax):kj.v n a b=decide (a<=n/\n<=b):=by unfold kj.v;by_cases h:a<=n<;>by_cases h2:n<=b<;>simp[h,h2]
theorem CX{i:aE}(h:0<i)(hn:i<=9223372036854775807):bH ((i:ax)-1)=((i-1:aE):ax):=by rw[c9 (by omega) (by omega)];omega
theorem ok(r:aQ)(hl:r.length<=4294967296):c r=ai/\v r=val r:=by
 refine out r ?_;unfold vo b val;by_cases h30:(r.length:ax)>30
 ·rw[aG h30,au,aK (show¬r.length<=30 by omega)];rfl
 rw[aK h30,ay,aG (show r.length<=30 by omega),bh]
 have key:=jQ (el r) r.length (λm (i:aE)=>l4 Lib.cU (λ(y3:aW) (_:ax) (_:aQ)=>ah y3) (λ(_:aW) (_:ax) (_:aQ)=>ah ai) m ak (i:ax) r) (ah ak) (ah ai)
  (λm i hi hp=>by
   unfold el at hp;simp only[aL]at hp;obtain⟨h1,h2,h3,h4⟩:=hp;have h3:decide (0<=bI (ar r i (1+1))/\bI (ar r i (1+1))<=((bn (ar r i 1)).size:ax))=true:=h3;have h2:decide (((bn (ar r i 1)).size:ax)>20000)=false:=by simpa using h2
   by_cases hz:0<i
   ·have e0:decide ((i:ax)>0)=true:=aG (by omega);have mE:i-1<r.length:=by omega
    have h5:bY (aF (bn (ar r (i-1) 0))) (aF (bn (ar r i 0)))=true:=by
     rcases dM _ _▸h4 with q|q
     ·have:i=0:=by simpa using q
      omega
     ·exact q
    simp only[l4,r4,Lib.dn,hi,mE,aP,Lib.cE,aM,au,ay,Lib.dZ,pZ.v,mT,h1,h2,h3,h5,e0,CX hz (by omega),aY,Lib.c6 hi (by omega:r.length<=9223372036854775807)]
   ·have e0:decide ((i:ax)>0)=false:=aK (by omega);simp only[l4,r4,Lib.dn,hi,aP,Lib.cE,aM,au,ay,Lib.dZ,pZ.v,mT,h1,h2,h3,e0,aY,Lib.c6 hi (by omega:r.length<=9223372036854775807)])
  (λm i hi hp=>by
   unfold el at hp;cases h1:decide (1<=((bn (ar r i 0)).size:ax)/\((bn (ar r i 0)).size:ax)<=8)with
   |false=>simp only[l4,r4,Lib.dn,hi,aP,Lib.cE,aM,au,ay,Lib.dZ,pZ.v,mT,h1,bQ]
   |true=>
   cases h2:decide (((bn (ar r i 1)).size:ax)>20000)with
   |true=>simp only[l4,r4,Lib.dn,hi,aP,Lib.cE,aM,au,ay,Lib.dZ,pZ.v,mT,h1,h2,aY]
   |false=>
   cases h3:decide (0<=bI (ar r i (1+1))/\bI (ar r i (1+1))<=((bn (ar r i 1)).size:ax))with
   |false=>simp only[l4,r4,Lib.dn,hi,aP,Lib.cE,aM,au,ay,Lib.dZ,pZ.v,mT,h1,h2,h3,aY,bQ]
   |true=>
   rw[h1,h2,show decide (0<=bI (ar r i 2)/\bI (ar r i 2)<=((bn (ar r i 1)).size:ax))=ai from h3,bQ,bh,bh,bh]at hp;rw[iF]at hp;obtain⟨h4,h5⟩:=hp;have hz:0<i:=by
    have:¬i=0:=by simpa using h4
    omega
   have e0:decide ((i:ax)>0)=true:=aG (by omega);have mE:i-1<r.length:=by omega
   simp only[l4,r4,Lib.dn,hi,mE,aP,Lib.cE,aM,au,ay,Lib.dZ,pZ.v,mT,h1,h2,h3,h5,e0,CX hz (by omega),aY,bQ])
  (λm=>by simp only[l4,r4,Lib.dn,bm,bf,ay]) Lib.cU (cC (by omega))
 refine key.trans ?_;cases (cR r.length).all (el r)<;>rfl
end gO

namespace nb
def p(s:aQ)(k:aq)(i:aE):aW:=cF (aF (bn (ar s i 0))) (aF k)
theorem ok(d:aQ)(n:aq)(hl:d.length<=4294967296):c d n=ai/\v d n=Lib.fi (p d n) d.length 0:=by
 refine out d n ?_;unfold vo b;refine nY (p d n) d.length (λm (i:aE)=>l2 Lib.cU (λ(_:aQ) (_:aq) (y7 _ _:ax)=>ah y7) (λ(_:aQ) (_:aq) (_ _ _:ax)=>ah (-1)) m d n 0 (d.length:ax) (i:ax)) ah (λm i hi hp=> ?_) (λm i hi hp=> ?_) (λm=> ?_) Lib.cU (cC (by omega))
 ·unfold p at hp;simp only[l2,r2,Lib.dn,Lib.cE,Lib.dZ,hi,aP,aM,au,AB.v,hp]
 ·unfold p at hp;simp only[l2,r2,Lib.dn,Lib.cE,Lib.dZ,hi,aP,aM,au,AB.v,hp,ay,Lib.c6 hi (by omega:d.length<=9223372036854775807)]
 ·simp only[l2,r2,Lib.dn,bm,bf,ay]
end nb

namespace wK
def cn(y:aC CV):aW:=match y with|[.s _, .s _, .i .i64 _]=>ai|_=>ak
def cr(y:aC CV):aC CV:=[CV.s (bn (y.getD 0 (.b ak))),CV.s (bn (y.getD 1 (.b ak))),CV.i ao (bI (y.getD 2 (.b ak)))]
theorem s_{y:aC CV}(h:cn y=ai):cr y=y:=by
 unfold cn at h;split at h
 ·rfl
 ·cases h
theorem mj{y:aC CV}(h:cn y=ai):y.length=3:=by rw[<-s_ h];rfl
def keep(d:aq)(y:aC CV):aW:= !List.beq (aF (bn (y.getD 0 (.b ak)))) (aF d)
theorem il(d:aq){s:aQ}{i:aE}(h:i<s.length):(s.take (i+1)).filter (keep d)=(s.take i).filter (keep d)++(bif keep d s[i]then [s[i]]else []):=by rw[cB h,ik];cases hk:keep d s[i]<;>simp[hk]
theorem run(N:aE)(s0:aQ)(d:aq)(hc:s0.all cn=ai)(hn:s0.length<=9223372036854775807)(K:aq->ax->ax->aQ->az R)(kr:aQ->az R)
  (hK:∀(j:aE) x,x.length=s0.length->j<=s0.length->K d j s0.length x=kr (x.take j)) (m j i:aE) (x:aQ)
  (hi:j<i/\i<=s0.length/\x.length=s0.length/\(∀y∈x,y.length=3)/\x.take j=(s0.take i).filter (keep d)/\x.drop i=s0.drop i) (hm:s0.length-i<m):
  l5 N K m d j i x=kr (s0.filter (keep d)):=by
 have KJ:∀y∈s0,cn y=true:=bu.1 hc
 refine Lib.fQ (λm (s:aE×aE×aQ)=>l5 N K m d s.1 s.2.1 s.2.2) (λs=>s0.length-s.2.1)
  (λs=>s.1<s.2.1/\s.2.1<=s0.length/\s.2.2.length=s0.length/\(∀y∈s.2.2,y.length=3)/\s.2.2.take s.1=(s0.take s.2.1).filter (keep d)/\s.2.2.drop s.2.1=s0.drop s.2.1)
  (λ_=>kr (s0.filter (keep d))) (λm s hs=> ?_) m (j,i,x) hi hm
 obtain⟨j,i,x⟩:=s;obtain⟨h1,h2,h3,h4,h5,h6⟩:=hs;simp only at h1 h2 h3 h4 h5 h6⊢;by_cases gz:i<s0.length
 ·right;have oh:i<x.length:=by omega
  have GG:j<x.length:=by omega
  have hx:x[i]=s0[i]:=by have e1:=Lib.eF oh;have e2:=Lib.eF gz;rw[h6,e2]at e1;exact(kg e1).1.symm
  have hd:x.drop (i+1)=s0.drop (i+1):=by have e1:=Lib.eF oh;have e2:=Lib.eF gz;rw[h6,e2]at e1;exact(kg e1).2.symm
  have KL:=KJ _ (bA gz);have hf:=il d gz;cases hk:keep d s0[i]with
  |true=>
   refine⟨(j+1,i+1,x.set j s0[i]), ?_,by simp only;omega,trivial, ?_⟩
   ·rw[hk,au,<-h5]at hf;refine⟨by simp only;omega,by simp only;omega,by simpa using h3, ?_, ?_, ?_⟩
    ·intro y hy;rcases jD hy with h|h
     ·exact h4 y h
     ·rw[h];exact mj KL
    ·rw[hf];rw[cB (by simpa using GG)];simp[wx]
    ·simp only;rw[wv (by omega)];exact hd
   ·have e:AB.v (bn (ar x i 0)) (bn (ar x i 1)) (bI (ar x i (1+1))) d=false:=by
     have:(!AB.v (bn (ar x i 0)) (bn (ar x i 1)) (bI (ar x i (1+1))) d)=true:=by rw[Lib.cD oh,hx];exact hk
     simpa using this
    have es:eA x j 0 [CV.s (bn (ar x i 0)),CV.s (bn (ar x i 1)),CV.i ao (bI (ar x i (1+1)))]=x.set j s0[i]:=by
     have hl:=h4 _ (bA GG);rw[Lib.Bj GG,Lib.cD oh,Lib.cD oh,Lib.cD oh,hx];have:iD x[j] 0 (cr s0[i])=s0[i]:=by rw[s_ KL];unfold iD;have:=mj KL;simp[hl,this,gT]
     unfold cr at this;rw[this]
    have b1:(j:ax)<(x.length:ax):=by omega
    simp only[l5,r5,Lib.dn,Lib.cE,Lib.dZ,oh,GG,aP,bh,au,e,bQ,es,Lib.c6 gz hn,Lib.c6 (show j<s0.length by omega) hn]
  |false=>
   refine⟨(j,i+1,x), ?_,by simp only;omega,trivial, ?_⟩
   ·rw[hk,ay,dj,<-h5]at hf;exact⟨by simp only;omega,by simp only;omega,h3,h4,hf.symm,hd⟩
   ·have e:AB.v (bn (ar x i 0)) (bn (ar x i 1)) (bI (ar x i (1+1))) d=true:=by
     have:(!AB.v (bn (ar x i 0)) (bn (ar x i 1)) (bI (ar x i (1+1))) d)=false:=by rw[Lib.cD oh,hx];exact hk
     simpa using this
    simp only[l5,r5,Lib.dn,Lib.cE,Lib.dZ,oh,aP,bh,au,e,aY,ay,Lib.c6 gz hn]
 ·left;have:i=s0.length:=by omega
  subst this;rw[dK]at h5;have e:=hK j x h3 (by omega);rw[h5]at e;have oh:¬s0.length<x.length:=by omega
  simp only[l5,r5,Lib.dn,oh,bf,ay,e]
theorem ok(s0:aQ)(iV:aq)(hc:s0.all cn=ai)(hn:s0.length<=4294967296):c s0 iV=ai/\v s0 iV=s0.filter (keep iV):=by
 refine out s0 iV ?_;have hv:=nb.ok s0 iV hn;unfold vo b;rw[hv.1,hv.2,au];rcases Lib.o_ (nb.p s0 iV) s0.length 0 with ⟨h,nN⟩|⟨k,_,zW,hk,KN,KI⟩
 ·rw[h];have:s0.filter (keep iV)=s0:=by rw[eE];intro y hy;obtain⟨i,hi,rfl⟩:=c8 hy;have:=nN i (bB _) (by omega);unfold nb.p at this;rw[Lib.cD hi]at this;unfold keep;rw[this];rfl
  rw[this];rfl
 ·rw[hk];have DD:k<s0.length:=by omega
  have iw:decide ((k:ax)=oS 1)=false:=aK (by show¬(k:ax)= -1;omega);rw[iw,ay,Lib.c6 DD (by omega)];have KJ:∀y∈s0,cn y=true:=bu.1 hc;refine run _ s0 iV hc (by omega) _ ah (λj x hx hj=> ?_) _ k (k+1) s0 ⟨by omega,by omega,rfl,λy hy=>mj (KJ y hy), ?_,rfl⟩ (cC (by omega))
  ·have b1:iy (j:ax) (s0.length:ax) (s0.length:ax)=true:=by simp[iy];omega
   have e:gW j x++aN [Ck.s,Ck.s,Ck.i ao] (s0.length-j)++m8 s0.length x=gW j x++aN [Ck.s,Ck.s,Ck.i ao] (s0.length-j):=by rw[gT (by omega),dj]
   have hl:(gW j x).length=j:=by simp;omega
   simp only[hx,Lib.dZ,b1,au,e];rw[Lib.s6 (by simp[iy];omega)];unfold eW;rw[show aZ 0=0 from rfl,fu,rX,oU (by omega),ja (by omega)]
  ·rw[il iV DD];have e1:keep iV s0[k]=false:=by unfold nb.p at KN;rw[Lib.cD DD]at KN;unfold keep;rw[KN];rfl
   have e2:(s0.take k).filter (keep iV)=s0.take k:=by
    rw[eE];intro y hy;obtain⟨i,hi,rfl⟩:=c8 hy;have VS:i<k:=by simp at hi;omega
    have:=KI i (bB _) VS;unfold nb.p at this;rw[Lib.cD (by omega)]at this;rw[nh];unfold keep;rw[this];rfl
   rw[e1,e2,ay,dj]
end wK

namespace dH
open Lib (rd el Fi)
def VF(l:aC Fi):Prop:=l.Pairwise λx y=>gj.fc x.n y.n=ai
def without(l:aC Fi)(n:aq):aC Fi:=l.filter λx=> !decide (x.n=n)
def put(l:aC Fi)(f:Fi):aC Fi:=l.filter (λx=>gj.fc x.n f.n)++[f]++l.filter (λx=> !(gj.fc x.n f.n||decide (x.n=f.n)))
def nA(f:Fi):aW:=decide (1<=(f.n.size:ax)/\(f.n.size:ax)<=8)&&(!decide ((f.t.size:ax)>20000)&&decide (0<=f.kp/\f.kp<=(f.t.size:ax)))
def sF(l:aC Fi):aW:=gO.val (rd l)
theorem irrefl(x:aq):gj.fc x x=false:=lH.oL _
theorem jU{l:aC Fi}:sF l=ai↔l.length<=30/\(∀f∈l,nA f=ai)/\VF l:=by
 unfold sF gO.val;rw[aL,bg,bu,er];have e:∀i (h:i<l.length),gO.el (rd l) i=(nA l[i]&&(i==0||gj.fc (l.getD (i-1) default).n l[i].n)):=λi h=>by
  unfold gO.el nA gj.fc;rw[Jj h,VY h,show ar (rd l) i 2=CV.i ao l[i].kp from VZ h,Jj (show i-1<l.length by omega)];have h5:l.getD (i-1) default=l[i-1]:=by simp[j_,show i-1<l.length by omega]
  rw[h5];simp only[bn,bI,nF];rfl
 constructor
 ·rintro ⟨h1,h2⟩;have h3:∀i (h:i<l.length),nA l[i]=ai/\(i=0\/gj.fc (l.getD (i-1) default).n l[i].n=ai):=λi h=>by have:=h2 i (by simpa using h);rw[e i h,aL,dM]at this;exact⟨this.1,this.2.imp (λq=>by simpa using q) id⟩
  refine⟨h1,λf hf=> ?_, ?_⟩
  ·obtain⟨i,hi,rfl⟩:=c8 hf;exact(h3 i hi).1
  ·have adj:∀d i (hi:i+d+1<l.length),gj.fc l[i].n l[i+d+1].n=true:=by
    intro d;induction d with
    |zero=>
     intro i hi;rcases(h3 (i+1) (by omega)).2 with q|q
     ·omega
     ·simpa [j_,show i<l.length by omega]using q
    |succ d ih=>
     intro i hi;have a:=ih i (by omega);rcases(h3 (i+d+1+1) (by omega)).2 with q|q
     ·omega
     ·have q:gj.fc l[i+d+1].n l[i+d+1+1].n=true:=by simpa [j_,show i+d+1<l.length by omega]using q
      exact lH.o4 _ _ _ a q
   unfold VF;rw[dB];intro i j hi hj OQ;have:=adj (j-i-1) i (by omega);simpa only[show i+(j-i-1)+1=j by omega]using this
 ·rintro ⟨h1,h2,h3⟩;refine⟨h1,λi hi=> ?_⟩
  have hi:i<l.length:=by simpa using hi
  rw[e i hi,h2 _ (bA hi),bh,dM];by_cases hz:i=0
  ·left;simpa using hz
  ·right;have:=dB.1 h3 (i-1) i (by omega) hi (by omega);simpa [j_,show i-1<l.length by omega]using this
theorem aia(l:aC Fi):(rd l).all wK.cn=true:=by rw[bu];intro y hy;unfold Lib.rd at hy;obtain⟨z,_,rfl⟩:=cX.1 hy;rfl
theorem alU(l:aC Fi)(n:aq):(rd l).filter (wK.keep n)=rd (without l n):=by unfold Lib.rd without;rw[oT];congr 1;apply jq;intro x _;show(!List.beq (aF x.n) (aF n))=_;rw[Lib.fj]
theorem LM(l:aC Fi)(n:aq):(without l n).length<=l.length:=eS ..
theorem adq{l:aC Fi}(h:VF l)(n:aq):VF (without l n):=AM _ h
theorem rL{l:aC Fi}(f:Fi):(put l f).length<=l.length+1:=by
 unfold put;have:∀r:aC Fi,(r.filter λx=>gj.fc x.n f.n).length+(r.filter λx=> !(gj.fc x.n f.n||decide (x.n=f.n))).length<=r.length:=by
  intro r;induction r with
  |nil=>exact cw _
  |cons y r ih=>
   cases h1:gj.fc y.n f.n with
   |true=>rw[dC (by simpa using h1),cy (by simp[h1])];simp only[de];omega
   |false=>
    rw[cy (by simp[h1])];by_cases h2:y.n=f.n
    ·rw[cy (by simp[h2])];simp only[de];omega
    ·rw[dC (by simp[h1,h2])];simp only[de];omega
 have:=this l;simp only[bV,bz];omega
theorem pR{l:aC Fi}{x f:Fi}:x∈put l f↔x=f\/(x∈l/\x.n≠f.n):=by
 unfold put;simp only[bc,dG,a_,dv,iF,e_];constructor
 ·rintro ((⟨h1,h2⟩|rfl)|⟨h1,h2⟩)
  ·refine .inr ⟨h1,λe2=> ?_⟩;rw[e2,irrefl]at h2;cases h2
  ·exact .inl rfl
  ·exact .inr ⟨h1,h2.2⟩
 ·rintro (rfl|⟨h1,h2⟩)
  ·exact .inl (.inr rfl)
  ·cases hl:gj.fc x.n f.n with
   |true=>exact .inl (.inl ⟨h1,rfl⟩)
   |false=>exact .inr ⟨h1,rfl,h2⟩
def GU(l:aC Fi)(k:ax)(n t o:aq):az (aC Fi):=
 match l.find? λx=>decide (x.n=n)with
 |some f=>
  if k=1 then ah (put l ⟨f.n,f.t++t,f.kp⟩)
  else if k=2 then ah (put l ⟨f.n,f.t,f.t.size⟩)
  else if k=3 then(if f.kp≠f.t.size\/o=n then aj else ah (put (without l n) ⟨o,f.t,f.kp⟩))
  else ah (without l n)
 |none=>if k=1 then ah (put l ⟨n,t,0⟩)else aj
def j5(k:ax)(t o:aq):aW:=decide (1<=k/\k<=4)&&((decide (t=⟨#[]⟩)||decide (k=1))&&(decide (o=⟨#[]⟩)||decide (k=3)))
def act(l:aC Fi)(k:ax)(n t o:aq):az (aC Fi):=
 bif sF l&&j5 k t o then(match GU l k n t o with|some d=>bif sF d then ah d else aj|none=>aj)else aj
structure Ac where
 k:ax
 n:aq
 t:aq
 o:aq
 deriving DecidableEq
instance:Inhabited Ac:=⟨⟨0,⟨#[]⟩,⟨#[]⟩,⟨#[]⟩⟩⟩
def Ac.row(e:Ac):aC CV:=[CV.i ao e.k,CV.s e.n,CV.s e.t,CV.s e.o]
def ra(l:aC Ac):aQ:=l.map Ac.row
theorem rM(l):(ra l).length=l.length:=by unfold ra;simp
theorem wa0{l:aC Ac}{i:aE}(h:i<l.length):ar (ra l) i 0=CV.i ao (el l i).k:=fY _ l i 0 h
theorem wa1{l:aC Ac}{i:aE}(h:i<l.length):ar (ra l) i 1=CV.s (el l i).n:=fY _ l i 1 h
theorem wa2{l:aC Ac}{i:aE}(h:i<l.length):ar (ra l) i (1+1)=CV.s (el l i).t:=fY _ l i 2 h
theorem wa3{l:aC Ac}{i:aE}(h:i<l.length):ar (ra l) i (1+1+1)=CV.s (el l i).o:=fY _ l i 3 h
def j6:aC Fi->aE->aC Ac->aC Fi×aE
 |l,i,[]=>(l,i)
 |l,i,a::r=>match act l a.k a.n a.t a.o with|some d=>j6 d (i+1) r|none=>(l,i)
theorem AY{l d:aC Fi}{k:ax}{n t o:aq}(h:act l k n t o=ah d):sF d=ai/\d.length<=30:=by
 unfold act at h;cases hb:sF l&&j5 k t o with
 |false=>rw[hb]at h;cases h
 |true=>
  rw[hb,au]at h;split at h
  ·rename_i e _;cases ho:sF e with
   |false=>rw[ho]at h;cases h
   |true=>rw[ho]at h;obtain rfl:=aJ h;exact⟨ho,(jU.1 ho).1⟩
  ·cases h
end dH

namespace oX
theorem size(x:ax):(v x).size=4:=by unfold v;rw[Lib.gJ];simp only[cQ,Lib.oG]
end oX

namespace jN
def rd(x:ax):ax:=bif decide (cK x 2=1)then(bE eD (↑(dW (ma (b9 32 (bE eD (cL x 2))) (b9 32 3558460437))):ax))else(bE eD (cL x 2))
def nC:aE->ax->ax|0,x=>x|n+1,x=>nC n (rd x)
theorem in6(N:aE)(K:ax->aq->ax->ax->az R)(a:aq)(b:ax):∀(d n i:aE) (x:ax),d+i=8->d<n->l6 N K n x a b (i:ax)=K (nC d x) a b 8:=by
 intro d;induction d with
 |zero=>
  intro n i x h1 h2;obtain⟨n,rfl⟩:∃m,n=m+1:=⟨n-1,by omega⟩
  have:i=8:=by omega
  subst this;rfl
 |succ d ih=>
  intro n i x h1 h2;obtain⟨n,rfl⟩:∃m,n=m+1:=⟨n-1,by omega⟩
  have j7:bH ((i:ax)+1)=((i+1:aE):ax):=c9 (by omega) (by omega);rw[nC,<-ih n (i+1) (rd x) (by omega) (by omega)];simp only[l6,r6,aG (show(i:ax)<8 by omega),au,j7,rd];cases decide (cK x 2=1)<;>rfl
def su(t:aq):aE->aE->ax->ax
 |0,_,s=>s
 |d+1,i,s=>su t d (i+1) (nC 8 (bE eD (↑(dW (ma (b9 32 s) (b9 32 (bE eD (↑(gQ t i):ax))))):ax)))
theorem run(s:ax)(t:aq)(ht:t.size<=4611686018427387904):vo s t=ah (su t t.size 0 s):=by
 unfold vo b;have key:∀(d n i:aE) (s:ax),d+i=t.size->d<n->l2 Lib.cU (λ(uC:ax) (_:aq) (_:ax)=>ah uC) n s t (i:ax)=ah (su t d i s):=by
  intro d;induction d with
  |zero=>
   intro n i s h1 h2;obtain⟨n,rfl⟩:∃m,n=m+1:=⟨n-1,by omega⟩
   simp only[l2,r2,Lib.dn,aK (show¬i<t.size by omega),ay];rfl
  |succ d ih=>
   intro n i s h1 h2;obtain⟨n,rfl⟩:∃m,n=m+1:=⟨n-1,by omega⟩
   have j7:bH ((i:ax)+1)=((i+1:aE):ax):=c9 (by omega) (by omega);simp only[l2,r2,Lib.dn,aG (show i<t.size by omega),Lib.cE,aM,au,Lib.dZ];have e:=in6 (R:=ax) Lib.cU (λy7 y8 y9 _=>l2 Lib.cU (λuC _ _=>ah uC) n y7 y8 (bH (y9+1))) t (i:ax) 8 Lib.cU 0 (bE eD (↑(dW (ma (b9 32 s) (b9 32 (bE eD (↑(gQ t i):ax))))):ax)) rfl (by unfold Lib.cU;omega);refine e.trans ?_;rw[j7,ih n (i+1) _ (by omega) (by omega)];rfl
 exact key t.size Lib.cU 0 s (by omega) (cC (by omega))
theorem ok(s:ax)(t:aq)(ht:t.size<=4611686018427387904):c s t=ai/\v s t=su t t.size 0 s:=out s t (run s t ht)
end jN

namespace vK
theorem ok(t:aq)(ht:t.size<=4611686018427387904):c t=ai/\v t=jN.su t t.size 0 4294967295:=by have h:=jN.ok 4294967295 t ht;refine out t ?_;unfold vo b;rw[h.1,h.2];rfl
end vK

namespace fH
def fr(t:aq):aq:=bytesOf (Lib.vb t.size)++oX.v (jN.su t t.size 0 4294967295)++t
def val(t:aq):aq×aW:=if 1<=t.size/\t.size<=9000 then(fr t,ai)else(⟨#[]⟩,ak)
theorem eL(n a b:ax):kj.v n a b=decide (a<=n/\n<=b):=by unfold kj.v;by_cases h:a<=n<;>by_cases h2:n<=b<;>simp[h,h2]
theorem WW{t:aq}(h:t.size<=9000):(fr t).size<=t.size+68:=by unfold fr;have:=Lib.jJ (x:=(t.size:ax)) (by omega);rw[Lib.j8,Lib.j8,oX.size];omega
theorem ok(t:aq):c t=ai/\v t=val t:=by
 refine out t ?_;unfold vo b val;rw[eL];by_cases h:1<=t.size/\t.size<=9000
 ·have hs:=vK.ok t (by omega);have hc:ki.c (t.size:ax)=true:=aG (show(t.size:ax)<=9223372036854775807 by omega);have z1:(ki.v (t.size:ax)).size<=64:=Lib.jJ (x:=(t.size:ax)) (by omega);rw[aG (show(1:ax)<=(t.size:ax)/\(t.size:ax)<=9000 by omega),bw h,hs.1,hs.2];simp(disch:=omega) only[aY,ay,au,hc,Lib.j8,oX.size,Lib.RW];rfl
 ·rw[aK (show¬((1:ax)<=(t.size:ax)/\(t.size:ax)<=9000)by omega),bG h];rfl
end fH

namespace ru
theorem head{t:aq}{p:aE}{b:Hu}{r:aC Hu}(h:t.data.toList.drop p=b::r):p<t.size/\gQ t p=b.toNat/\t.data.toList.drop (p+1)=r:=by
 have hl:=lI bM h;rw[iA,de]at hl;have hs:t.data.toList.length=t.size:=rfl;have hp:p<t.data.toList.length:=by omega
 have hd:=dD hp;rw[hd]at h;injection h with h1 h2;refine⟨by omega, ?_,h2⟩
 unfold gQ;have mE:p<t.data.size:=hp;rw[show t.data.getD p 0=t.data[p]by unfold Array.getD;rw[dif_pos mE];rfl];rw[<-h1];rfl
theorem BR(x:ax)(r:aQ):(bytesOf ([CV.i ba x]::r)).data.toList=aw x.toNat::(bytesOf r).data.toList:=rfl
theorem Us(t:aq)(a:aE)(rest:aC Hu):∀(f j:aE) (n y:ax),0<=y->0<=n->n+y*128^j<=1000000000->y<=1000000000->(j>0->0<y)->t.data.toList.drop (a+j)=(bytesOf (Lib.vb y)).data.toList++rest->(Lib.vb y).length<=f->
  Lib.rv t a f j n=(n+y*128^j,((a+j+(Lib.vb y).length:aE):ax),ai)/\t.data.toList.drop (a+j+(Lib.vb y).length)=rest
 |0,j,n,y,h0,hn,hb,hy,hj,hd,hf=>by
  by_cases hc:y>127
  ·rw[Lib.wa hc]at hf;simp at hf
  ·rw[Lib.mV hc]at hf;simp at hf
 |f+1,j,n,y,h0,hn,hb,hy,hj,hd,hf=>by
  by_cases hc:y>127
  ·have e1:cK y 128=y%128:=ij (by omega);have e2:cL y 128=y/128:=g7 (by omega);have e3:bH (y%128+128)=y%128+128:=c9 (by omega) (by omega);have e4:bE ba (y%128+128)=y%128+128:=by show(y%128+128)%256=_;omega
   have e5:bH (y/128)=y/128:=c9 (by omega) (by omega);have ev:Lib.vb y=[CV.i ba (y%128+128)]::Lib.vb (y/128):=by rw[Lib.wa hc,e1,e2,e3,e4,e5]
   rw[ev,BR,BC]at hd;obtain⟨q1,q2,q3⟩:=head hd;have q4:(gQ t (a+j):ax)=y%128+128:=by rw[q2,MD];omega
   rw[ev,de]at hf;have hP:y*128^j=y%128*128^j+y/128*128^(j+1):=by
    have hyd:y=y%128+128*(y/128):=by omega
    rw[uH];generalize (128:ax)^j=P;conv=>lhs;rw[hyd]
    rw[Int.add_mul,Int.mul_comm P 128,<-Int.mul_assoc,Int.mul_comm (y/128) 128]
   have hpp:(0:ax)<=y%128*128^j:=Int.mul_nonneg (by omega) (Int.le_of_lt (Int.pow_pos (by omega)));obtain⟨i1,i2⟩:=Us t a rest f (j+1) (n+y%128*128^j) (y/128) (by omega) (by omega) (by omega) (by omega) (by omega) (by rw[show a+(j+1)=a+j+1 by omega];exact q3) (by omega);refine⟨?_, ?_⟩
   ·unfold Lib.rv;rw[bw q1,q4,bw (by omega),show(y%128+128)%128=y%128 by omega,i1,hP,ev,de];refine Prod.ext ?_ (Prod.ext ?_ rfl)
    ·dsimp only;omega
    ·dsimp only;omega
   ·rw[ev,de,show a+j+((Lib.vb (y/128)).length+1)=a+(j+1)+(Lib.vb (y/128)).length by omega];exact i2
  ·have e4:bE ba y=y:=by show y%256=_;omega
   have ev:Lib.vb y=[[CV.i ba y]]:=by rw[Lib.mV hc,e4]
   rw[ev,BR,BC]at hd;obtain⟨q1,q2,q3⟩:=head hd;have q4:(gQ t (a+j):ax)=y:=by rw[q2,MD];omega
   refine⟨?_,by rw[ev];exact q3⟩
   unfold Lib.rv;rw[bw q1,q4,bG hc,show y%128=y by omega,bG (by omega),ev];rfl
theorem vb5{y:ax}(h:y<=1000000000):(Lib.vb y).length<=5:=by
 have e:(128:ax)^(4+1)=34359738368:=by decide
 exact Lib.Bo 4 y (by rw[e];omega)
theorem my(t:aq)(p:aE)(y:ax)(rest:aC Hu)(h0:0<=y)(h1:y<=1000000000)(hd:t.data.toList.drop p=(bytesOf (Lib.vb y)).data.toList++rest):Lib.eB t p=(y,((p+(Lib.vb y).length:aE):ax),ai)/\t.data.toList.drop (p+(Lib.vb y).length)=rest:=by
 have hl:=lI bM hd;have iw:0<(Lib.vb y).length:=by
  by_cases hc:y>127
  ·rw[Lib.wa hc];simp
  ·rw[Lib.mV hc];simp
 have hb:(bytesOf (Lib.vb y)).data.toList.length=(Lib.vb y).length:=Lib.gJ _;rw[iA,bV,hb]at hl;have hs:t.data.toList.length=t.size:=rfl;obtain⟨i1,i2⟩:=Us t p rest 5 0 0 y h0 (by omega) (by simp;omega) h1 (by omega) (by simpa using hd) (vb5 h1);refine⟨?_,by simpa using i2⟩
 unfold Lib.eB;rw[bw (by omega),show((p:aE):ax).toNat=p from rfl,i1];simp
theorem Ks(t k:aq)(p:aE)(rest:aC Hu)(hd:t.data.toList.drop p=k.data.toList++rest):t.extract p (p+k.size)=k:=by apply Lib.sZ;simp only[gk,iv,g8];rw[hd,show p+k.size-p=k.data.toList.length by show p+k.size-p=k.size;omega,List.take_left]
theorem enc(k:aq)(s l:ax)(b:aq)(h:nk.v k s l b=ai):v (jE.sH k s l b)=(k,s,l,b,ai):=by
 obtain⟨⟨k1,k2⟩,⟨s1,s2⟩,⟨l1,l2⟩,b1⟩:=nk.ES h;generalize ht:jE.sH k s l b=t;have hT:t.data.toList=(bytesOf (Lib.vb k.size)).data.toList++(k.data.toList++((bytesOf (Lib.vb s)).data.toList++((bytesOf (Lib.vb l)).data.toList++b.data.toList))):=by rw[<-ht];unfold jE.sH;simp only[mo,vn,cq]
 have hs:t.data.toList.length=t.size:=rfl;have hk:k.data.toList.length=k.size:=rfl;obtain⟨a1,a2⟩:=my t 0 (k.size:ax) _ (by omega) (by omega) (by rw[fu];exact hT);rw[bS]at a1 a2;generalize (Lib.vb (k.size:ax)).length=n1 at a1 a2;have auD:=lI bM a2;simp only[iA,bV,hk,hs]at auD;have ek:=Ks t k n1 _ a2;have a3:t.data.toList.drop (n1+k.size)=(bytesOf (Lib.vb s)).data.toList++((bytesOf (Lib.vb l)).data.toList++b.data.toList):=by rw[<-vC,a2];exact List.drop_left' (by rw[hk])
 obtain⟨b1',b2⟩:=my t (n1+k.size) s _ (by omega) (by omega) a3;obtain⟨c1,c2⟩:=my t (n1+k.size+(Lib.vb s).length) l _ (by omega) (by omega) b2;have hr:Lib.g6 t 0=(k,((n1+k.size:aE):ax),ai):=by unfold Lib.g6;rw[show(0:ax)=((0:aE):ax)from rfl,a1];dsimp only;rw[bw (by omega)];rw[show((n1:aE):ax).toNat=n1 from rfl,show((n1:ax)+(k.size:ax)).toNat=n1+k.size by omega,ek];rfl
 have eb:t.extract (n1+k.size+(Lib.vb s).length+(Lib.vb l).length) t.size=b:=by
  have KO:=lI bM c2;rw[iA,hs]at KO;have hbs:b.data.toList.length=b.size:=rfl;by_cases hz:b.size=0
  ·apply Lib.sZ;simp only[gk,iv,g8];rw[c2];exact ja (by omega)
  ·apply Lib.sZ;simp only[gk,iv,g8];rw[c2];exact ja (by omega)
 unfold v;rw[hr];dsimp only;rw[b1'];dsimp only;rw[c1];dsimp only;rw[show((n1+k.size+(Lib.vb s).length+(Lib.vb l).length:aE):ax).toNat=n1+k.size+(Lib.vb s).length+(Lib.vb l).length from rfl,eb,bw h]
end ru

namespace wJ
theorem in6(N:aE)(K:ax->aq->ax->ax->az R)(a:aq)(b:ax):∀(d n i:aE) (x:ax),d+i=8->d<n->l6 N K n x a b (i:ax)=K (jN.nC d x) a b 8:=by
 intro d;induction d with
 |zero=>
  intro n i x h1 h2;obtain⟨n,rfl⟩:∃m,n=m+1:=⟨n-1,by omega⟩
  have:i=8:=by omega
  subst this;rfl
 |succ d ih=>
  intro n i x h1 h2;obtain⟨n,rfl⟩:∃m,n=m+1:=⟨n-1,by omega⟩
  have j7:bH ((i:ax)+1)=((i+1:aE):ax):=c9 (by omega) (by omega);rw[jN.nC,<-ih n (i+1) (jN.rd x) (by omega) (by omega)];simp only[l6,r6,aG (show(i:ax)<8 by omega),au,j7,jN.rd];cases decide (cK x 2=1)<;>rfl
theorem run(s:ax)(t:aq)(ht:t.size<=4611686018427387904):vo s t=ah (jN.su t t.size 0 s):=by
 unfold vo b;have key:∀(d n i:aE) (s:ax),d+i=t.size->d<n->l2 Lib.cU (λ(uC:ax) (_:aq) (_:ax)=>ah uC) n s t (i:ax)=ah (jN.su t d i s):=by
  intro d;induction d with
  |zero=>
   intro n i s h1 h2;obtain⟨n,rfl⟩:∃m,n=m+1:=⟨n-1,by omega⟩
   simp only[l2,r2,Lib.dn,aK (show¬i<t.size by omega),ay];rfl
  |succ d ih=>
   intro n i s h1 h2;obtain⟨n,rfl⟩:∃m,n=m+1:=⟨n-1,by omega⟩
   have j7:bH ((i:ax)+1)=((i+1:aE):ax):=c9 (by omega) (by omega);simp only[l2,r2,Lib.dn,aG (show i<t.size by omega),Lib.cE,aM,au,Lib.dZ];have e:=in6 (R:=ax) Lib.cU (λy7 y8 y9 _=>l2 Lib.cU (λuC _ _=>ah uC) n y7 y8 (bH (y9+1))) t (i:ax) 8 Lib.cU 0 (bE eD (↑(dW (ma (b9 32 s) (b9 32 (bE eD (↑(gQ t i):ax))))):ax)) rfl (by unfold Lib.cU;omega);refine e.trans ?_;rw[j7,ih n (i+1) _ (by omega) (by omega)];rfl
 exact key t.size Lib.cU 0 s (by omega) (cC (by omega))
theorem ok(s:ax)(t:aq)(ht:t.size<=4611686018427387904):c s t=ai/\v s t=jN.su t t.size 0 s:=out s t (run s t ht)
end wJ

namespace uU
theorem ok(t:aq)(ht:t.size<=4611686018427387904):c t=ai/\v t=jN.su t t.size 0 4294967295:=by have h:=wJ.ok 4294967295 t ht;refine out t ?_;unfold vo b;rw[h.1,h.2];rfl
end uU

namespace uR
theorem ok(t:aq)(ht:t.size<=4611686018427387904):c t=ai/\v t=oX.v (jN.su t t.size 0 4294967295):=by have h:=uU.ok t ht;refine out t ?_;unfold vo b;rw[h.1,h.2];rfl
end uR

namespace Hs
theorem cut(a s s' b:aq):cF (aF (a++s++b)) (aF (a++s'++b))=cF (aF s) (aF s'):=by
 rw[Lib.fj,Lib.fj,ca];constructor
 ·intro h;have h2:=lI (λx:aq=>x.data.toList) h;simp only[mo,vn,cq]at h2;have h3:=List.append_cancel_right (List.append_cancel_left h2);exact Lib.sZ h3
 ·intro h;rw[h]
theorem mB(n a b:ax):lr.v n a b=decide (a<=n/\n<=b):=fH.eL n a b
theorem both(t:aq)(ht:t.size<=20000):∀(d:aE) (gP:aE) (acc:aQ) (n m:aE) (z:ax),t.size-gP<=d->gP<=t.size->acc.length<=gP->d<n->d<m->
  ∃R:aQ×ax,U122.l3 Lib.cU (λ(_:aq) (y4:ax) (y5:aQ)=>ah (y5,y4)) n t (gP:ax) acc=ah R/\l5 Lib.cU (λ(_:aq) (y5 _:ax) (y7:aQ)=>ah (y7,y5)) (λ(_:aq) (_ HB:ax) (uC:aQ)=>ah (uC,HB)) m t z (gP:ax) acc=ah R/\R.1.length<=20000:=by
 intro d;induction d with
 |zero=>
  intro gP acc n m z h1 h2 h3 h4 h5;obtain⟨n,rfl⟩:∃n',n=n'+1:=⟨n-1,by omega⟩
  obtain⟨m,rfl⟩:∃m',m=m'+1:=⟨m-1,by omega⟩
  have jm:decide ((gP:ax)<(t.size:ax))=false:=aK (by omega);have hr:(Lib.eB t (gP:ax)).2.2=false:=by
   cases h:Lib.eB t (gP:ax)with
   |mk a r=>
    obtain⟨x,o⟩:=r;cases o with
    |false=>rfl
    |true=>have:=Lib.jV h;omega
  have e1:∀a b,gn.v a b=Lib.eB a b:=λ_ _=>rfl;refine⟨(acc,(gP:ax)), ?_, ?_,by dsimp only;omega⟩
  ·simp only[U122.l3,U122.r3,e1,hr,aG (show(t.size:ax)<=20000 by omega),au,bQ]
  ·simp only[l5,r5,jm,ay]
 |succ d ih=>
  intro gP acc n m z h1 h2 h3 h4 h5;obtain⟨n,rfl⟩:∃n',n=n'+1:=⟨n-1,by omega⟩
  obtain⟨m,rfl⟩:∃m',m=m'+1:=⟨m-1,by omega⟩
  have e1:∀a b,gn.v a b=Lib.eB a b:=λ_ _=>rfl;have e2:∀a b,fS.v a b=Lib.eB a b:=λ_ _=>rfl;have gi:decide ((t.size:ax)<=20000)=true:=aG (by omega);cases hr:Lib.eB t (gP:ax)with
  |mk N r=>
   obtain⟨nx,o⟩:=r;cases o with
   |false=>
    refine⟨(acc,(gP:ax)), ?_, ?_,by dsimp only;omega⟩
    ·simp only[U122.l3,U122.r3,e1,hr,gi,au,bQ]
    ·by_cases jm:(gP:ax)<(t.size:ax)
     ·simp only[l5,r5,e2,hr,aG jm,au,bQ]
     ·simp only[l5,r5,aK jm,ay]
   |true=>
    obtain⟨q1,q2,q3,q4,q5,q6⟩:=Lib.jV hr;have jm:decide ((gP:ax)<(t.size:ax))=true:=aG (by omega);have w1:bH (N+4)=N+4:=c9 (by omega) (by omega);have w2:bH ((t.size:ax)-nx)=(t.size:ax)-nx:=c9 (by omega) (by omega);have w3:bH ((t.size:ax)-nx-4)=(t.size:ax)-nx-4:=c9 (by omega) (by omega);have w4:bH (nx+4)=nx+4:=c9 (by omega) (by omega);have w5:bH (nx+4+N)=nx+4+N:=c9 (by omega) (by omega);by_cases tn:N+4>(t.size:ax)-nx
    ·have Ez:N>(t.size:ax)-nx-4:=by omega
     refine⟨(acc,(gP:ax)), ?_, ?_,by dsimp only;omega⟩
     ·cases Xe:decide (1<=N/\N<=9000)with
      |false=>simp only[U122.l3,U122.r3,e1,hr,gi,mB,Xe,au,ay,aY,bQ]
      |true=>simp only[U122.l3,U122.r3,e1,hr,gi,mB,Xe,w1,w2,aG tn,au,ay,aY]
     ·simp only[l5,r5,e2,hr,jm,w2,w3,aG Ez,au,ay,aY]
    ·have Ez:¬N>(t.size:ax)-nx-4:=by omega
     have i1:iy (nx+4) (nx+4+N) (t.size:ax)=true:=by simp[iy];omega
     have i2:iy nx (nx+4) (t.size:ax)=true:=by simp[iy];omega
     have i3:iy (gP:ax) (nx+4+N) (t.size:ax)=true:=by simp[iy];omega
     have hts:(t.extract (nx+4).toNat (nx+4+N).toNat).size=N.toNat:=by rw[yr];omega
     generalize VV:t.extract (nx+4).toNat (nx+4+N).toNat=tx at hts;have f1:=fH.ok tx;have f2:=uR.ok tx (by omega);by_cases Xe:1<=N/\N<=9000
     ·have VR:fH.val tx=(fH.fr tx,ai):=by unfold fH.val;rw[bw (by omega)]
      have arS:((tx.size:aE):ax)=N:=by omega
      have C6:fH.fr tx=t.extract gP nx.toNat++oX.v (jN.su tx tx.size 0 4294967295)++tx:=by unfold fH.fr;rw[arS,q6];rfl
      have hwh:t.extract gP (nx+4+N).toNat=t.extract gP nx.toNat++t.extract nx.toNat (nx+4).toNat++tx:=by rw[<-VV,Lib.wV t (by omega) (by omega),Lib.wV t (by omega) (by omega)]
      have W3:cF (aF (fH.fr tx)) (aF (t.extract gP (nx+4+N).toNat))=cF (aF (oX.v (jN.su tx tx.size 0 4294967295))) (aF (t.extract nx.toNat (nx+4).toNat)):=by rw[C6,hwh];exact cut _ _ _ _
      have IL:cg (acc.length+1) 16=true:=Lib.b_ (by omega) (by omega);cases hs:cF (aF (oX.v (jN.su tx tx.size 0 4294967295))) (aF (t.extract nx.toNat (nx+4).toNat))with
      |false=>
       rw[hs]at W3;refine⟨(acc,(gP:ax)), ?_, ?_,by dsimp only;omega⟩
       ·simp only[U122.l3,U122.r3,e1,hr,gi,mB,aG Xe,w1,w2,w4,w5,aK tn,i1,i2,VV,f2.1,f2.2,hs,au,ay,aY,bQ]
       ·simp only[l5,r5,e2,hr,jm,w2,w3,w4,w5,aK Ez,i1,i3,VV,f1.1,f1.2,VR,eQ,W3,au,ay,aY,bQ]
      |true=>
       rw[hs]at W3;obtain⟨a2,ha2⟩:∃a2:aE,nx+4+N=(a2:ax):=⟨(nx+4+N).toNat,by omega⟩
       obtain⟨R,g1,g2,g3⟩:=ih a2 (acc++[[CV.s tx]]) n m z (by omega) (by omega) (by rw[bV,bz];omega) (by omega) (by omega);refine⟨R, ?_, ?_,g3⟩
       ·simp only[U122.l3,U122.r3,e1,hr,gi,mB,aG Xe,w1,w2,w4,w5,aK tn,i1,i2,VV,f2.1,f2.2,hs,Lib.iI,bz,IL,au,ay,aY];rw[ha2];exact g1
       ·simp only[l5,r5,e2,hr,jm,w2,w3,w4,w5,aK Ez,i1,i3,VV,f1.1,f1.2,VR,eQ,W3,Lib.iI,bz,IL,au,ay,aY];rw[ha2];exact g2
     ·have VR:fH.val tx=(⟨#[]⟩,ak):=by unfold fH.val;rw[bG (by omega)]
      refine⟨(acc,(gP:ax)), ?_, ?_,by dsimp only;omega⟩
      ·simp only[U122.l3,U122.r3,e1,hr,gi,mB,aK Xe,au,ay,aY,bQ]
      ·simp only[l5,r5,e2,hr,jm,w2,w3,w4,w5,aK Ez,i1,VV,f1.1,f1.2,VR,au,ay,aY,bQ]
theorem same(t:aq):∃R:aQ×ax,(c t=ai/\v t=R)/\(U122.c t=ai/\U122.v t=R)/\R.1.length<=20000:=by
 by_cases ht:t.size<=20000
 ·obtain⟨R,g1,g2,g3⟩:=both t ht t.size 0 [] Lib.cU Lib.cU 0 (by omega) (bB _) (cw _) (cC (by omega)) (cC (by omega));refine⟨R,out t ?_,U122.out t ?_,g3⟩
  ·unfold vo b;rw[aK (show¬(t.size:ax)>20000 by omega),ay];exact g2
  ·unfold U122.vo U122.b;exact g1
 ·refine⟨([],0),out t ?_,U122.out t ?_,bB _⟩
  ·unfold vo b;rw[aG (show(t.size:ax)>20000 by omega)];rfl
  ·unfold U122.vo U122.b;have hb:Lib.cU=18446744073709551615+1:=rfl;have:∀n,U122.l3 Lib.cU (λ(_:aq) (y4:ax) (y5:aQ)=>ah (y5,y4)) (n+1) t 0 (aN [Ck.s] 0)=ah ([],0):=by intro n;simp only[U122.l3,U122.r3,aK (show¬(t.size:ax)<=20000 by omega),ay];rfl
   exact this 18446744073709551615
end Hs

namespace V4
def fs:aC aq->aq
 |[]=>⟨#[]⟩|x::r=>fH.fr x++fs r
theorem toL(a b:aq):(a++b).data.toList=a.data.toList++b.data.toList:=by simp[mo]
theorem Gx(x:aq):(fH.fr x).data.toList=(bytesOf (Lib.vb x.size)).data.toList++((oX.v (jN.su x x.size 0 4294967295)).data.toList++x.data.toList):=by unfold fH.fr;rw[toL,toL,cq]
theorem JM(x:aq):x.data.toList.length=x.size:=dS
def Stop(z:aq):Prop:=z=⟨#[]⟩\/∃(x:aq) (w:aC Hu),x.size<=9000/\(fH.fr x).data.toList=z.data.toList++w/\w≠[]
theorem oN(n:ax):(oX.v n).size=4:=rfl
theorem vbl(n:ax):(bytesOf (Lib.vb n)).data.toList.length=(Lib.vb n).length:=by rw[JM,Lib.gJ]
theorem stop{t z:aq}{p:aE}(hz:Stop z)(hp:p<=t.size)(hd:t.data.toList.drop p=z.data.toList){N nx:ax}(h:Lib.eB t p=(N,nx,ai)):N+4>(t.size:ax)-nx:=by
 obtain⟨q1,q2,q3,q4,q5,q6⟩:=Lib.jV h;have hl:t.size-p=z.size:=by have:=lI bM hd;rw[iA,JM,JM]at this;exact this
 rcases hz with rfl|⟨x,w,hx,hF,hw⟩
 ·have:(⟨#[]⟩:aq).size=0:=rfl;omega
 ·-- the file's next bytes are the number's
  have e1:(t.extract p nx.toNat).data.toList=z.data.toList.take (nx.toNat-p):=by rw[<-hd];simp[gk,iv,List.extract]
  rw[eQ]at q6;have KU:nx.toNat-p<=z.data.toList.length:=by rw[JM];omega
  have e2:(fH.fr x).data.toList.drop 0=(bytesOf (Lib.vb N)).data.toList++(z.data.toList.drop (nx.toNat-p)++w):=by rw[fu,hF,q6,e1,<-cq,List.take_append_drop]
  have e3:(fH.fr x).data.toList.drop 0=(bytesOf (Lib.vb x.size)).data.toList++((oX.v (jN.su x x.size 0 4294967295)).data.toList++x.data.toList):=by rw[fu,Gx]
  have r1:=(ru.my _ 0 N _ q4 q5 e2).1;have r2:=(ru.my _ 0 (x.size:ax) _ (by omega) (by omega) e3).1;rw[r1]at r2;obtain⟨hN,hq⟩:=bT r2;have hlen:(Lib.vb N).length=nx.toNat-p:=by have:=lI bM (lI (λy:aq=>y.data.toList) q6);simp only[vbl,e1,eJ]at this;omega
  have hFl:=lI bM hF;rw[Gx,bV,bV,bV,vbl,JM,JM,JM,oN]at hFl;have hw1:1<=w.length:=by cases w with|nil=>exact cO rfl hw|cons=>simp
  subst hN;omega
theorem go(t:aq)(ht:t.size<=20000)(z:aq)(hz:Stop z):∀(es:aC aq),(∀x∈es,1<=x.size/\x.size<=9000)->∀(p n:aE) (acc:aQ),p<=t.size->acc.length<=p->t.data.toList.drop p=(fs es++z).data.toList->t.size-p<n->
  U122.l3 Lib.cU (λ(_:aq) (y4:ax) (y5:aQ)=>ah (y5,y4)) n t (p:ax) acc=ah (acc++Lib.rs es,((p+(fs es).size:aE):ax)):=by
 have e0:∀a b,gn.v a b=Lib.eB a b:=λ_ _=>rfl;have gi:decide ((t.size:ax)<=20000)=true:=aG (by omega);intro es;induction es with
 |nil=>
  intro hes p n acc hp ha hd hn;obtain⟨n,rfl⟩:∃n',n=n'+1:=⟨n-1,by omega⟩
  have hd:t.data.toList.drop p=z.data.toList:=by rw[hd];unfold fs;rw[toL];rfl
  have e1:acc++Lib.rs []=acc:=dj _;have e2:((p+(fs []).size:aE):ax)=(p:ax):=rfl;rw[e1,e2];cases hr:Lib.eB t (p:ax)with
  |mk N r=>
   obtain⟨nx,o⟩:=r;cases o with
   |false=>simp only[U122.l3,U122.r3,e0,hr,gi,au,bQ]
   |true=>
    have hs:=stop hz hp hd hr;obtain⟨q1,q2,q3,q4,q5,q6⟩:=Lib.jV hr;have w1:bH (N+4)=N+4:=c9 (by omega) (by omega);have w2:bH ((t.size:ax)-nx)=(t.size:ax)-nx:=c9 (by omega) (by omega);cases Xe:decide (1<=N/\N<=9000)with
    |false=>simp only[U122.l3,U122.r3,e0,hr,gi,Hs.mB,Xe,au,ay,aY,bQ]
    |true=>simp only[U122.l3,U122.r3,e0,hr,gi,Hs.mB,Xe,w1,w2,aG hs,au,ay,aY]
 |cons x es ih=>
  intro hes p n acc hp ha hd hn;obtain⟨n,rfl⟩:∃n',n=n'+1:=⟨n-1,by omega⟩
  have hx:=hes x (by simp);have hd1:t.data.toList.drop p=(bytesOf (Lib.vb x.size)).data.toList++((oX.v (jN.su x x.size 0 4294967295)).data.toList++(x.data.toList++(fs es++z).data.toList)):=by rw[hd,show fs (x::es)=fH.fr x++fs es from rfl,toL,toL,Gx,toL];simp only[cq]
  obtain⟨hr,hd2⟩:=ru.my t p (x.size:ax) _ (by omega) (by omega) hd1;have OP:(fH.fr x).size=(Lib.vb x.size).length+4+x.size:=by rw[<-JM,Gx,bV,bV,vbl,JM,JM,oN];omega
  have hlen:=lI bM hd;rw[iA,JM,JM]at hlen;have nN:(fs (x::es)++z).size=(fH.fr x).size+(fs es).size+z.size:=by rw[show fs (x::es)=fH.fr x++fs es from rfl,dI,dI]
  rw[nN,OP]at hlen;generalize hm:(Lib.vb (x.size:ax)).length=m at*
  have x4:t.extract (p+m) (p+m+4)=oX.v (jN.su x x.size 0 4294967295):=by have:=ru.Ks t _ (p+m) _ hd2;rwa[oN]at this
  have hd3:t.data.toList.drop (p+m+4)=x.data.toList++(fs es++z).data.toList:=by rw[<-vC,hd2,AO (by rw[JM,oN];omega),HI (by rw[JM,oN];omega),gD]
  have x5:t.extract (p+m+4) (p+m+4+x.size)=x:=ru.Ks t x (p+m+4) _ hd3;have hd4:t.data.toList.drop (p+m+4+x.size)=(fs es++z).data.toList:=by rw[<-vC,hd3,AO (by rw[JM];omega),HI (by rw[JM];omega),gD]
  have i:=ih (λy hy=>hes y (by simp[hy])) (p+m+4+x.size) n (acc++[[CV.s x]]) (by omega) (by simp;omega) hd4 (by omega);have w1:bH ((x.size:ax)+4)=(x.size:ax)+4:=c9 (by omega) (by omega);have w2:bH ((t.size:ax)-((p+m:aE):ax))=(t.size:ax)-((p+m:aE):ax):=c9 (by omega) (by omega);have w4:bH (((p+m:aE):ax)+4)=((p+m+4:aE):ax):=by rw[c9 (by omega) (by omega)];omega
  have w5:bH (((p+m+4:aE):ax)+(x.size:ax))=((p+m+4+x.size:aE):ax):=by rw[c9 (by omega) (by omega)];omega
  have b1:¬(x.size:ax)+4>(t.size:ax)-((p+m:aE):ax):=by omega
  have i1:iy ((p+m+4:aE):ax) ((p+m+4+x.size:aE):ax) (t.size:ax)=true:=by simp[iy];omega
  have i2:iy ((p+m:aE):ax) ((p+m+4:aE):ax) (t.size:ax)=true:=by simp[iy];omega
  have f2:=uR.ok x (by omega);have IL:cg (acc.length+1) 16=true:=Lib.b_ (by omega) (by omega);simp only[U122.l3,U122.r3,e0,hr,gi,Hs.mB,aG (show 1<=(x.size:ax)/\(x.size:ax)<=9000 by omega),w1,w2,w4,w5,aK b1,i1,i2,eQ,x4,x5,f2.1,f2.2,Lib.qt,Lib.iI,bz,IL,au,ay,aY];rw[i];have e3:acc++[[CV.s x]]++Lib.rs es=acc++Lib.rs (x::es):=by unfold Lib.rs;simp
  have e4:p+m+4+x.size+(fs es).size=p+(fs (x::es)).size:=by
   have:(fs (x::es)).size=(fH.fr x).size+(fs es).size:=by rw[show fs (x::es)=fH.fr x++fs es from rfl,dI]
   omega
  rw[e3,e4]
theorem ok(es:aC aq)(hes:∀x∈es,1<=x.size/\x.size<=9000)(z:aq)(hz:Stop z)(ht:(fs es++z).size<=20000):
  (U122.c (fs es++z)=ai/\U122.v (fs es++z)=(Lib.rs es,((fs es).size:ax)))/\(Hs.c (fs es++z)=ai/\Hs.v (fs es++z)=(Lib.rs es,((fs es).size:ax))):=by
 have h1:=U122.out (fs es++z) (x:=(Lib.rs es,((fs es).size:ax))) (by unfold U122.vo U122.b;have:=go (fs es++z) ht z hz es hes 0 Lib.cU [] (bB _) (bB _) (by rw[fu]) (cC (by omega));rw[bS,gD]at this;exact this);obtain⟨R,s1,s2,_⟩:=Hs.same (fs es++z);refine⟨h1,s1.1, ?_⟩
 rw[s1.2,<-s2.2,h1.2]
end V4

namespace BH
theorem wi(n a b:ax):lr.v n a b=decide (a<=n/\n<=b):=fH.eL n a b
theorem ok(t:aq):c t=ai/\v t=fH.val t:=by
 refine out t ?_;unfold vo b fH.val;rw[wi];by_cases h:1<=t.size/\t.size<=9000
 ·have hs:=uR.ok t (by omega);have z1:(bytesOf (Lib.vb (t.size:ax))).size<=64:=Lib.jJ (x:=(t.size:ax)) (by omega);have e2:nJ.v (t.size:ax)=(bytesOf (Lib.vb t.size),ai):=by unfold nJ.v;rw[bw (by omega)]
  rw[aG (show(1:ax)<=(t.size:ax)/\(t.size:ax)<=9000 by omega),bw h,hs.1,hs.2,e2];simp(disch:=omega) only[aY,ay,au,Lib.j8,oX.size,Lib.RW];rfl
 ·rw[aK (show¬((1:ax)<=(t.size:ax)/\(t.size:ax)<=9000)by omega),bG h];rfl
end BH

namespace mN
theorem tN{k b:aq}{s l:ax}(h:nk.v k s l b=ai):(jE.sH k s l b).size<=1000:=by have hr:=nk.ES h;have z1:(bytesOf (Lib.vb (k.size:ax))).size<=64:=Lib.jJ (x:=(k.size:ax)) (by omega);have z2:(bytesOf (Lib.vb s)).size<=64:=Lib.jJ (x:=s) (by omega);have z3:(bytesOf (Lib.vb l)).size<=64:=Lib.jJ (x:=l) (by omega);unfold jE.sH;simp only[Lib.j8];omega
theorem Bm{k b:aq}{s l:ax}(h:nk.v k s l b=ai):1<=(jE.sH k s l b).size:=by have hr:=nk.ES h;unfold jE.sH;simp only[Lib.j8];omega
def val(k:aq)(s l:ax)(b:aq):aq×aW:=if nk.v k s l b=ai then(fH.fr (jE.sH k s l b),ai)else(⟨#[]⟩,ak)
theorem ok(k:aq)(s l:ax)(b0:aq):c k s l b0=ai/\v k s l b0=val k s l b0:=by
 refine out k s l b0 ?_;have hf:=BH.ok (Dv.v k s l b0).1;unfold vo b val;rw[hf.1,hf.2];unfold Dv.v jE.v fH.val;by_cases h:nk.v k s l b0=ai
 ·have h1:=tN h;have h2:=Bm h;rw[bw h,bw h,bw (by dsimp only;omega)];rfl
 ·rw[bG h,bG h];rfl
end mN

namespace ju
def p(d:aQ)(n:aq)(i:aE):aW:=cF (aF (bn (ar d i 0))) (aF n)
theorem ok(d:aQ)(n:aq)(hl:d.length<=4294967296):c d n=ai/\v d n=Lib.fi (p d n) d.length 0:=by
 refine out d n ?_;unfold vo b;refine nY (p d n) d.length (λm (i:aE)=>l2 Lib.cU (λ(_:aq) (y5 _:ax) (_:aQ)=>ah y5) (λ(_:aq) (_ _:ax) (_:aQ)=>ah (-1)) m n 0 (i:ax) d) ah (λm i hi hp=> ?_) (λm i hi hp=> ?_) (λm=> ?_) Lib.cU (cC (by omega))
 ·unfold p at hp;simp only[l2,r2,Lib.dn,Lib.cE,Lib.dZ,hi,aP,aM,au,hp]
 ·unfold p at hp;simp only[l2,r2,Lib.dn,Lib.cE,Lib.dZ,hi,aP,aM,au,hp,ay,Lib.c6 hi (by omega:d.length<=9223372036854775807)]
 ·simp only[l2,r2,Lib.dn,bm,bf,ay]
end ju

namespace vO
def val(d:aQ)(n:aq):aq×aW:=if Lib.fi (ju.p d n) d.length 0<0 then(⟨#[]⟩,ak)else(bn (ar d (Lib.fi (ju.p d n) d.length 0).toNat 1),ai)
theorem ES(d:aQ)(n:aq)(h:¬Lib.fi (ju.p d n) d.length 0<0):0<=Lib.fi (ju.p d n) d.length 0/\Lib.fi (ju.p d n) d.length 0<(d.length:ax):=by
 rcases Lib.o_ (ju.p d n) d.length 0 with ⟨h1,_⟩|⟨k,h1,h2,h3,_,_⟩
 ·rw[h1]at h;omega
 ·rw[h3];omega
theorem ok(d:aQ)(n:aq)(hl:d.length<=4294967296):c d n=ai/\v d n=val d n:=by
 refine out d n ?_;have h:=ju.ok d n hl;unfold vo b val;rw[h.1,h.2,au];by_cases hn:Lib.fi (ju.p d n) d.length 0<0
 ·rw[aG hn,bw hn];rfl
 ·have hr:=ES d n hn;rw[aK hn,bG hn,ay,aG hr.1,aG hr.2];rfl
end vO

namespace ia
theorem ok(r:aQ)(hl:r.length<=4294967296):c r=ai/\v r=gO.val r:=by
 refine out r ?_;unfold vo b gO.val;have gz:∀a b c,lr.v a b c=kj.v a b c:=λ_ _ _=>rfl
 have key:=jQ (gO.el r) r.length (λm (i:aE)=>l2 Lib.cU (λ(y5:aW) (_:aQ) (_ _:ax) (_:aQ)=>ah y5) (λ(_:aW) (_:aQ) (_ _:ax) (V1:aQ)=>ah (decide ((V1.length:ax)<=30))) m ak r (r.length:ax) (i:ax) r) (ah ak) (ah (decide ((r.length:ax)<=30)))
  (λm i hi hp=>by
   unfold gO.el at hp;simp only[aL]at hp;obtain⟨h1,h2,h3,h4⟩:=hp;have h3:decide (0<=bI (ar r i (1+1))/\bI (ar r i (1+1))<=((bn (ar r i 1)).size:ax))=true:=h3;have h2:decide (((bn (ar r i 1)).size:ax)>20000)=false:=by simpa using h2
   by_cases hz:0<i
   ·have e0:decide ((i:ax)>0)=true:=aG (by omega);have mE:i-1<r.length:=by omega
    have h5:bY (aF (bn (ar r (i-1) 0))) (aF (bn (ar r i 0)))=true:=by
     rcases dM _ _▸h4 with q|q
     ·have:i=0:=by simpa using q
      omega
     ·exact q
    simp only[l2,r2,Lib.dn,hi,mE,aP,Lib.cE,aM,au,ay,Lib.dZ,gz,gO.mT,h1,h2,h3,h5,e0,gO.CX hz (by omega),aY,Lib.c6 hi (by omega:r.length<=9223372036854775807)]
   ·have e0:decide ((i:ax)>0)=false:=aK (by omega);simp only[l2,r2,Lib.dn,hi,aP,Lib.cE,aM,au,ay,Lib.dZ,gz,gO.mT,h1,h2,h3,e0,aY,Lib.c6 hi (by omega:r.length<=9223372036854775807)])
  (λm i hi hp=>by
   unfold gO.el at hp;cases h1:decide (1<=((bn (ar r i 0)).size:ax)/\((bn (ar r i 0)).size:ax)<=8)with
   |false=>simp only[l2,r2,Lib.dn,hi,aP,Lib.cE,aM,au,ay,Lib.dZ,gz,gO.mT,h1,bQ]
   |true=>
   cases h2:decide (((bn (ar r i 1)).size:ax)>20000)with
   |true=>simp only[l2,r2,Lib.dn,hi,aP,Lib.cE,aM,au,ay,Lib.dZ,gz,gO.mT,h1,h2,aY]
   |false=>
   cases h3:decide (0<=bI (ar r i (1+1))/\bI (ar r i (1+1))<=((bn (ar r i 1)).size:ax))with
   |false=>simp only[l2,r2,Lib.dn,hi,aP,Lib.cE,aM,au,ay,Lib.dZ,gz,gO.mT,h1,h2,h3,aY,bQ]
   |true=>
   rw[h1,h2,show decide (0<=bI (ar r i 2)/\bI (ar r i 2)<=((bn (ar r i 1)).size:ax))=ai from h3,bQ,bh,bh,bh]at hp;rw[iF]at hp;obtain⟨h4,h5⟩:=hp;have hz:0<i:=by
    have:¬i=0:=by simpa using h4
    omega
   have e0:decide ((i:ax)>0)=true:=aG (by omega);have mE:i-1<r.length:=by omega
   simp only[l2,r2,Lib.dn,hi,mE,aP,Lib.cE,aM,au,ay,Lib.dZ,gz,gO.mT,h1,h2,h3,h5,e0,gO.CX hz (by omega),aY,bQ])
  (λm=>by simp only[l2,r2,Lib.dn,bm,bf,ay]) Lib.cU (cC (by omega))
 refine key.trans ?_;rw[show decide ((r.length:ax)<=30)=decide (r.length<=30)from by rw[ca];omega];cases (cR r.length).all (gO.el r)<;>cases decide (r.length<=30)<;>rfl
end ia

namespace rY
theorem ok(d:aQ)(n:aq)(hl:d.length<=4294967296):c d n=ai/\v d n=Lib.fi (ju.p d n) d.length 0:=by
 refine out d n ?_;unfold vo b;refine nY (ju.p d n) d.length (λm (i:aE)=>l2 Lib.cU (λ(_:aQ) (_:aq) (y7 _ _:ax)=>ah y7) (λ(_:aQ) (_:aq) (_ _ _:ax)=>ah (-1)) m d n 0 (d.length:ax) (i:ax)) ah (λm i hi hp=> ?_) (λm i hi hp=> ?_) (λm=> ?_) Lib.cU (cC (by omega))
 ·unfold ju.p at hp;simp only[l2,r2,Lib.dn,Lib.cE,Lib.dZ,hi,aP,aM,au,J8.v,hp]
 ·unfold ju.p at hp;simp only[l2,r2,Lib.dn,Lib.cE,Lib.dZ,hi,aP,aM,au,J8.v,hp,ay,Lib.c6 hi (by omega:d.length<=9223372036854775807)]
 ·simp only[l2,r2,Lib.dn,bm,bf,ay]
end rY

namespace eu
theorem ok(d:aQ)(n:aq)(hl:d.length<=4294967296):c d n=ai/\v d n=Lib.fi (ju.p d n) d.length 0:=by have h:=rY.ok d n hl;exact out d n (by unfold vo b;rw[h.1,h.2,au])
end eu

namespace sU
theorem ok(d:aQ)(h:d.length<=1000000000):c d=ai/\v d=d:=by refine out d ?_;unfold vo b;rw[Lib.oG,Lib.b_ (by omega) (by omega)];rfl
end sU

namespace iU
open Lib (rd Fi)
open dH (without)
theorem ok(l:aC Fi)(n:aq)(hl:l.length<=1000000):c (rd l) n=ai/\v (rd l) n=rd (without l n):=by have h1:=sU.ok (rd l) (by rw[er];omega);have h2:=wK.ok (rd l) n (dH.aia l) (by rw[er];omega);exact out _ _ (by unfold vo b;rw[h1.1,h1.2,h2.1,h2.2,dH.alU];rfl)
end iU

namespace gL
open Lib (rd Fi)
open dH (without put VF)
def nw(n t:aq)(k:ax):aC CV:=[CV.s n,CV.s t,CV.i ao k]
def pn(n:aq)(y:aC CV):aW:=bY (aF (bn (y.getD 0 (.b ak)))) (aF n)
theorem ok(l:aC Fi)(n t:aq)(k:ax)(hs:VF l)(hl:l.length<=1000000):c (rd l) n t k=ai/\v (rd l) n t k=rd (put l ⟨n,t,k⟩):=by
 refine out _ _ _ _ ?_;have hd:=iU.ok l n hl;unfold vo b;rw[hd.1,hd.2,au];have EA:=dH.LM l n;have e1:(without l n).filter (λx=>gj.fc x.n n)=l.filter λx=>gj.fc x.n n:=by
  unfold without;rw[pA];apply jq;intro y _;by_cases h:y.n=n
  ·rw[h,dH.irrefl];rfl
  ·rw[aK h];simp
 have e2:(without l n).filter (λx=> !gj.fc x.n n)=l.filter λx=> !(gj.fc x.n n||decide (x.n=n)):=by unfold without;rw[pA];apply jq;intro y _;cases gj.fc y.n n<;>cases decide (y.n=n)<;>rfl
 have htw:=Lib.zH (λx:Fi=>gj.fc x.n n) (λx=> !gj.fc x.n n) (without l n) (λ_ _=>rfl) ((dH.adq hs n).imp λ{y z} hyz hz=>lH.o4 _ _ _ hyz hz);rw[e1,e2]at htw;generalize without l n=o at EA htw
 have:=tL (pn n) (rd o) (λm (i:aE)=>l3 Lib.cU (λ(y5:ax) (y6 y7:aq) (y8:ax) (y9:aQ)=>bif(decide (0<=y5)&&decide (y5<=(↑(bM y9):ax))&&cg (bM y9+bM (aA (aN [Ck.s,Ck.s,Ck.i ao] 1) 0 [CV.s y6,CV.s y7,CV.i ao y8])) 40)then(ah (Pu.tu y9 (aZ y5) (aA (aN [Ck.s,Ck.s,Ck.i ao] 1) 0 [CV.s y6,CV.s y7,CV.i ao y8])))else(aj)) m (i:ax) n t k (rd o))
  (λa=>bif decide ((a:ax)<=((rd o).length:ax))then ah (Pu.tu (rd o) a [nw n t k])else aj)
  (λm i h hp=>by
   have mE:bY (aF (bn (ar (rd o) i 0))) (aF n)=true:=by rw[Lib.cD h];exact hp
   simp only[l3,r3,Lib.dn,h,aP,Lib.cE,aM,au,Lib.dZ,mE,Lib.c6 h (by rw[er];omega:(rd o).length<=9223372036854775807)])
  (λm i h hp=>by
   have mE:bY (aF (bn (ar (rd o) i 0))) (aF n)=false:=by rw[Lib.cD h];exact hp
   simp only[l3,r3,Lib.dn,h,aP,Lib.cE,aM,bh,jY,au,ay,Lib.dZ,mE,Lib.iI,bz,Lib.b_ (n:=(rd o).length+1) (b:=40) (by rw[er];omega) (by rw[er];omega)];rfl)
  (λm=>by simp only[l3,r3,Lib.dn,bm,bf,aP,Lib.cE,aM,bh,jY,au,ay,Lib.dZ,Lib.iI,bz,Lib.b_ (n:=(rd o).length+1) (b:=40) (by rw[er];omega) (by rw[er];omega)];rfl) Lib.cU (cC (by rw[er];omega))
 refine this.trans ?_;have hle:=EW (pn n) (rd o);rw[aG (by omega),au];unfold Pu.tu;rw[xX,wR];have e3:pn n∘Fi.row=λx:Fi=>gj.fc x.n n:=rfl;unfold Lib.rd;rw[Oe,Od,e3,htw.1,htw.2];unfold put;rw[dh,dh];rfl
end gL

namespace rq
open Lib (rd el Fi)
open dH (without put VF sF act GU jU)
def res(o:az (aC Fi)):aQ×aW:=match o with|some d=>(rd d,ai)|none=>([],ak)
theorem find(l:aC Fi)(n:aq):(Lib.fi (ju.p (rd l) n) l.length 0= -1/\l.find? (λx=>decide (x.n=n))=aj)\/∃i,i<l.length/\Lib.fi (ju.p (rd l) n) l.length 0=(i:ax)/\l.find? (λx=>decide (x.n=n))=ah (el l i):=by
 have hq:∀i (hi:i<l.length),ju.p (rd l) n i=decide (l[i].n=n):=λi hi=>by unfold ju.p;rw[Jj hi];exact Lib.fj
 rcases Lib.o_ (ju.p (rd l) n) l.length 0 with ⟨e,ha⟩|⟨k,_,hk,e,hp,hb⟩
 ·refine .inl ⟨e,Wn.2 λx hx=> ?_⟩;obtain⟨i,hi,rfl⟩:=c8 hx;rw[<-hq i hi,ha i (by omega) (by omega)];simp
 ·have vf:k<l.length:=by omega
  refine .inr ⟨k,vf,e, ?_⟩;rw[Ai];exact⟨by rw[fF vf,<-hq k vf];exact hp,k,vf,(fF vf).symm,λj hj=>by rw[<-hq j (by omega),hb j (by omega) hj];rfl⟩
theorem YL(d:aC Fi)(h:d.length<=1000000):ia.c (rd d)=ai/\ia.v (rd d)=sF d:=ia.ok (rd d) (by rw[er];omega)
theorem RC(k:ax)(n t o:aq):J9.v k n t o=dH.j5 k t o:=by
 unfold J9.v dH.j5 lr.v;rw[Lib.fj,Lib.fj];by_cases h1:1<=k
 ·by_cases h2:k<=4
  ·rw[aG h1,aG h2,aG (⟨h1,h2⟩:1<=k/\k<=4)];cases decide (t=⟨#[]⟩)<;>cases decide (o=⟨#[]⟩)<;>cases decide (k=1)<;>cases decide (k=3)<;>rfl
  ·rw[aG h1,aK h2,aK (show¬(1<=k/\k<=4)by omega)];rfl
 ·rw[aK h1,aK (show¬(1<=k/\k<=4)by omega)];rfl
theorem ok(l:aC Fi)(k:ax)(n t o:aq)(hl:l.length<=1000)(ht:t.size<=2305843009213693952):c (rd l) k n t o=ai/\v (rd l) k n t o=res (act l k n t o):=by
 refine out _ _ _ _ _ ?_;unfold vo b;have h1:=eu.ok (rd l) n (by rw[er];omega);have h2:=YL l (by omega);rw[h1.1,h1.2,h2.1,h2.2,RC,au,au,er];unfold act;cases hk:sF l with
 |false=>rfl
 |true=>
 rw[aY,ay,bh];obtain⟨q1,q2,q3⟩:=jU.1 hk;cases ha:dH.j5 k t o with
 |false=>rfl
 |true=>
 rw[aY,ay,au];have hk4:1<=k/\k<=4:=by unfold dH.j5 at ha;rw[aL]at ha;exact cm ha.1
 have wp:=λ(m:aC Fi) (hm:VF m) (hml:m.length<=1000) (n t:aq) (k:ax)=>gL.ok m n t k hm (by omega);have wo:=iU.ok l n (by omega);have wol:=dH.LM l n;have pl:=λ(m:aC Fi) (f:Fi) (hm:m.length<=1000)=>YL (put m f) (dg (dH.rL f) (by omega));have fin:∀d:aC Fi,(bif !sF d then ah (([]:aQ),ak)else ah (rd d,ai))=ah (res (bif sF d then ah d else aj)):=λd=>by cases sF d<;>rfl
 unfold GU;rcases find l n with ⟨e1,e2⟩|⟨i,hi,e1,e2⟩
 ·rw[e1,e2];by_cases k1:k=1
  ·subst k1;have p:=wp l q3 hl n (⟨#[]⟩++t) 0;have d:=pl l ⟨n,⟨#[]⟩++t,0⟩ hl;have et:(⟨#[]⟩:aq)++t=t:=lJ;rw[show decide ((-1:ax)<0)=ai from rfl,show decide ((-1:ax)≥0)=ak from rfl,show((1:ax) !=1)=ak from rfl,au,ay,ay,aG (show(1:ax)=1 from rfl),au,aG (show(⟨#[]⟩:aq).size+t.size<=4611686018427387904 from by rw[show(⟨#[]⟩:aq).size=0 from rfl];omega),au,p.1,p.2,au,d.1,d.2,au,fin,et];rfl
  ·rw[show decide ((-1:ax)<0)=ai from rfl,au,show(k !=1)=ai from bne_iff_ne.2 k1,au,bG k1];rfl
 ·have hf:(el l i).n=n:=by have:=Fj e2;exact cm this
  have w8:((el l i).t.size:ax)<=20000:=by have:=q2 _ (mh hi);unfold dH.nA at this;simp only[aL,bg,dv,e_]at this;omega
  rw[e1,e2,aK (show¬((i:aE):ax)<0 by omega),aG (show((i:aE):ax)≥0 by omega),ay,au];simp only[Lib.dn,hi,aP,Lib.dZ,wd0 hi,wd1 hi,wd2 hi,bn,bI,aM,bh,au];by_cases k1:k=1
  ·subst k1;have p:=wp l q3 hl (el l i).n ((el l i).t++t) (el l i).kp;have d:=pl l ⟨(el l i).n,(el l i).t++t,(el l i).kp⟩ hl;rw[aG (show(1:ax)=1 from rfl),au,aG (show(el l i).t.size+t.size<=4611686018427387904 by omega),au,p.1,p.2,au,d.1,d.2,au,fin];rfl
  rw[aK k1,ay,bG k1];by_cases k2:k=2
  ·subst k2;have p:=wp l q3 hl (el l i).n (el l i).t ((el l i).t.size:ax);have d:=pl l ⟨(el l i).n,(el l i).t,((el l i).t.size:ax)⟩ hl;rw[aG (show(2:ax)=2 from rfl),au,p.1,p.2,au,d.1,d.2,au,fin];rfl
  rw[aK k2,ay,bG k2];by_cases k3:k=3
  ·subst k3;rw[aG (show(3:ax)=3 from rfl),au,bw rfl];by_cases b1:(el l i).kp=((el l i).t.size:ax)
   ·rw[show((el l i).kp !=((el l i).t.size:ax))=ak from by simp[b1],ay,Lib.fj];by_cases b2:o=n
    ·rw[aG b2,au,bw (.inr b2)];rfl
    ·have p:=wp (without l n) (dH.adq q3 n) (by omega) o (el l i).t (el l i).kp;have d:=pl (without l n) ⟨o,(el l i).t,(el l i).kp⟩ (by omega);rw[aK b2,ay,wo.1,wo.2,au,p.1,p.2,au,d.1,d.2,au,fin,bG (by rintro (h|h);exact h b1;exact b2 h)]
   ·rw[show((el l i).kp !=((el l i).t.size:ax))=ai from bne_iff_ne.2 b1,au,bw (.inl b1)];rfl
  rw[aK k3,ay,bG k3];have d:=YL (without l n) (by omega);rw[wo.1,wo.2,au,d.1,d.2,au,fin]
end rq

namespace wF
theorem ok(l:aQ)(hl:l.length<=4294967296):c l=ai/\v l=l:=by refine out l ?_;unfold vo b;rw[show bM (aN [Ck.s,Ck.i ao,Ck.i ao,Ck.s] 0)+l.length=l.length by simp[aN],Lib.b_ (by omega) (by omega)];rfl
end wF

namespace pD
theorem ok(l:aQ)(k:aq)(hc:l.all oY.cn=ai)(hl:l.length<=4294967296):c l k=ai/\v l k=l.filter (oY.keep k):=by have h1:=wF.ok l hl;have h2:=oY.ok l k hc hl;exact out l k (by unfold vo b;rw[h1.1,h1.2,h2.1,h2.2,au,au])
end pD

namespace uM
theorem zH(p q:aC CV->aW):∀r:aQ,(∀y∈r,q y= !p y)->r.Pairwise (λy z=>p z=ai->p y=ai)->r.takeWhile p=r.filter p/\r.dropWhile p=r.filter q
 |[],_,_=>⟨rfl,rfl⟩
 |y::r,hq,h=>by
  rw[qn]at h;have hy:=hq y (by simp);cases hp:p y with
  |true=>rw[hp]at hy;obtain⟨i1,i2⟩:=zH p q r (λz hz=>hq z (by simp[hz])) h.2;rw[pY hp,dC hp,List.dropWhile_cons_of_pos hp,cy (by rw[hy];simp),i1,i2];exact⟨rfl,rfl⟩
  |false=>
   rw[hp]at hy;have hn:¬p y=true:=by rw[hp];simp
   have ha:∀z∈r,p z=false:=λz hz=>by
    cases DI:p z with
    |false=>rfl
    |true=>exact cO (h.1 z hz DI) hn
   rw[pX hn,cy hn,List.dropWhile_cons_of_neg hn,dC (by rw[hy];rfl)];refine⟨?_, ?_⟩
   ·symm;rw[List.filter_eq_nil_iff];intro z hz;rw[ha z hz];simp
   ·congr 1;symm;rw[eE];intro z hz;rw[hq z (by simp[hz]),ha z hz];rfl
theorem ad4{r:aQ}(h:∀y∈r,lH.cr y=y):r.all oY.cn=true:=by rw[bu];intro y hy;rw[<-h y hy];rfl
theorem ok(r:aQ)(k:aq)(s l:ax)(b0:aq)(hO:lH.Or r)(hl:r.length<=1048576):c r k s l b0=ai/\v r k s l b0=lH.val r k s l b0:=by
 refine out r k s l b0 ?_;have hd:=pD.ok r k (ad4 hO.2) (by omega);unfold vo b;rw[hd.1,au,hd.2];have OP:(r.filter (oY.keep k)).length<=r.length:=eS _ _;have hke:∀y,oY.keep k y= !List.beq (lH.key y) (aF k):=λ_=>rfl;have htw:=zH (lH.pl k) (lH.pg k) (r.filter (oY.keep k)) (λy hy=>by
  have h2:=(dG.1 hy).2;rw[hke]at h2;have h3:cF (lH.key y) (aF k)=false:=by simpa using h2
  unfold lH.pg lH.pl;rw[h3,Bool.or_false]) ((hO.1.sublist jK).imp (λ{y z} hyz hz=>lH.o4 _ _ _ hyz hz))
 have e1:(r.filter (oY.keep k)).filter (lH.pl k)=r.filter (lH.pl k):=by
  rw[pA];apply jq;intro y _;cases h:lH.pl k y with
  |false=>rfl
  |true=>
   rw[hke,bh];cases h2:cF (lH.key y) (aF k)with
   |false=>rfl
   |true=>exfalso;have h3:=Lib.beq_iff.1 h2;unfold lH.pl at h;rw[h3,lH.oL]at h;cases h
 have e2:(r.filter (oY.keep k)).filter (lH.pg k)=r.filter (lH.pg k):=by rw[pA];apply jq;intro y _;rw[hke];unfold lH.pg;cases cF (lH.key y) (aF k)<;>cases bY (lH.key y) (aF k)<;>rfl
 generalize r.filter (oY.keep k)=o at OP htw e1 e2
 have:=tL (lH.pl k) o (λm (i:aE)=>l3 Lib.cU (λ(y6:ax) (y7:aq) (y8 y9:ax) (HB:aq) (uC:aQ)=>bif(decide (0<=y6)&&decide (y6<=(↑(bM uC):ax))&&cg (bM uC+bM (aA (aN [Ck.s,Ck.i ao,Ck.i ao,Ck.s] 1) 0 [CV.s y7,CV.i ao y8,CV.i ao y9,CV.s HB])) 48)then(ah (Pu.tu uC (aZ y6) (aA (aN [Ck.s,Ck.i ao,Ck.i ao,Ck.s] 1) 0 [CV.s y7,CV.i ao y8,CV.i ao y9,CV.s HB])))else(aj)) m (i:ax) k s l b0 o)
  (λa=>bif decide ((a:ax)<=(o.length:ax))then ah (Pu.tu o a [lH.nw k s l b0])else aj)
  (λm i h hp=>by
   have mE:bY (aF (bn (ar o i 0))) (aF k)=true:=by rw[Lib.cD h];exact hp
   simp only[l3,r3,Lib.dn,h,aP,Lib.cE,aM,au,Lib.dZ,mE,Lib.c6 h (by omega:o.length<=9223372036854775807)])
  (λm i h hp=>by
   have mE:bY (aF (bn (ar o i 0))) (aF k)=false:=by rw[Lib.cD h];exact hp
   simp only[l3,r3,Lib.dn,h,aP,Lib.cE,aM,bh,jY,au,ay,Lib.dZ,mE,Lib.iI,bz,Lib.b_ (n:=o.length+1) (b:=48) (by omega) (by omega)];rfl)
  (λm=>by simp only[l3,r3,Lib.dn,bm,bf,aP,Lib.cE,aM,bh,jY,au,ay,Lib.dZ,Lib.iI,bz,Lib.b_ (n:=o.length+1) (b:=48) (by omega) (by omega)];rfl) Lib.cU (cC (by omega))
 refine this.trans ?_;have hle:=EW (lH.pl k) o;rw[aG (by omega),au];unfold Pu.tu lH.val;rw[xX,wR,htw.1,htw.2,e1,e2,lH.GQ hO.2,lH.GQ hO.2]
end uM

namespace uL
theorem ok(d:aQ)(n:aq)(hl:d.length<=4294967296):c d n=ai/\v d n=vO.val d n:=by
 refine out d n ?_;have h:=eu.ok d n hl;unfold vo b vO.val;rw[h.1,h.2,au];by_cases hn:Lib.fi (ju.p d n) d.length 0<0
 ·rw[aG hn,bw hn];rfl
 ·have hr:=vO.ES d n hn;rw[aK hn,bG hn,ay,aG hr.1,aG hr.2];rfl
end uL

namespace Hr
def nm:aq:={data:= #[aw 107,aw 101,aw 112,aw 116]}
theorem both(rec:aQ)(hr:rec.length<=20000):∀(d i:aE) (o:aQ) (n m:aE),rec.length-i<=d->i<=rec.length->lH.Or o->o.length<=i->d<n->d<m->
  ∃L:aQ,U61.l7 Lib.cU (λ(_ _:ax) (y6:aQ) (_:aQ)=>ah y6) n (rec.length:ax) (i:ax) o rec=ah L/\l7 Lib.cU (λ(_:ax) (y4 _:aQ)=>ah y4) m (i:ax) o rec=ah L/\lH.Or L/\L.length<=20000:=by
 have e1:∀t,vH.v t=ru.v t:=λ_=>rfl;intro d;induction d with
 |zero=>
  intro i o n m h1 h2 hO h3 h4 h5;obtain⟨n,rfl⟩:∃n',n=n'+1:=⟨n-1,by omega⟩
  obtain⟨m,rfl⟩:∃m',m=m'+1:=⟨m-1,by omega⟩
  have jm:decide ((i:ax)<(rec.length:ax))=false:=aK (by omega);exact⟨o,by simp only[U61.l7,U61.r7,jm,ay],by simp only[l7,r7,jm,ay],hO,by omega⟩
 |succ d ih=>
  intro i o n m h1 h2 hO h3 h4 h5;obtain⟨n,rfl⟩:∃n',n=n'+1:=⟨n-1,by omega⟩
  obtain⟨m,rfl⟩:∃m',m=m'+1:=⟨m-1,by omega⟩
  by_cases hi:i<rec.length
  ·have hw:bH ((i:ax)+1)=((i+1:aE):ax):=c9 (by omega) (by omega);cases cf:(ru.v (bn (ar rec i 0))).2.2.2.2 with
   |false=>
    obtain⟨L,g1,g2,g3,g4⟩:=ih (i+1) o n m (by omega) hi hO (by omega) (by omega) (by omega);refine⟨L, ?_, ?_,g3,g4⟩
    ·simp only[U61.l7,U61.r7,Lib.dn,hi,aP,Lib.cE,aM,au,Lib.dZ,e1,cf,ay,hw];exact g1
    ·simp only[l7,r7,Lib.dn,hi,aP,Lib.cE,aM,au,Lib.dZ,cf,ay,hw];exact g2
   |true=>
    have p1:=lH.ok o (ru.v (bn (ar rec i 0))).1 (ru.v (bn (ar rec i 0))).2.1 (ru.v (bn (ar rec i 0))).2.2.1 (ru.v (bn (ar rec i 0))).2.2.2.1 (by omega);have p2:=uM.ok o (ru.v (bn (ar rec i 0))).1 (ru.v (bn (ar rec i 0))).2.1 (ru.v (bn (ar rec i 0))).2.2.1 (ru.v (bn (ar rec i 0))).2.2.2.1 hO (by omega);have p3:=lH.xE hO (ru.v (bn (ar rec i 0))).1 (ru.v (bn (ar rec i 0))).2.1 (ru.v (bn (ar rec i 0))).2.2.1 (ru.v (bn (ar rec i 0))).2.2.2.1;obtain⟨L,g1,g2,g3,g4⟩:=ih (i+1) _ n m (by omega) hi p3.1 (by omega) (by omega) (by omega);refine⟨L, ?_, ?_,g3,g4⟩
    ·simp only[U61.l7,U61.r7,Lib.dn,hi,aP,Lib.cE,aM,au,Lib.dZ,e1,cf,p2.1,p2.2,hw];exact g1
    ·simp only[l7,r7,Lib.dn,hi,aP,Lib.cE,aM,au,Lib.dZ,cf,p1.1,p1.2,hw];exact g2
  ·have jm:decide ((i:ax)<(rec.length:ax))=false:=aK (by omega);exact⟨o,by simp only[U61.l7,U61.r7,jm,ay],by simp only[l7,r7,jm,ay],hO,by omega⟩
theorem same(d:aQ)(hd:d.length<=1048576):∃L:aQ,(c d=ai/\v d=L)/\(U61.c d=ai/\U61.v d=L)/\(∀y∈L,y.length=4)/\L.length<=20000:=by
 have k1:=gO.ok d (by omega);have k2:=ia.ok d (by omega);cases hv:gO.val d with
 |false=>
  refine⟨[],out d ?_,U61.out d ?_,λy hy=>(by cases hy),bB _⟩
  ·unfold vo b;rw[k1.1,k1.2,hv];rfl
  ·unfold U61.vo U61.b;rw[k2.1,k2.2,hv];rfl
 |true=>
  have k3:=vO.ok d nm (by omega);have k4:=uL.ok d nm (by omega);obtain⟨R,u1,u2,u3⟩:=Hs.same (vO.val d nm).1;obtain⟨L,g1,g2,g3,g4⟩:=both R.1 u3 R.1.length 0 [] Lib.cU Lib.cU (by omega) (bB _) ⟨gZ,λy hy=>(by cases hy)⟩ (bB _) (cC (by omega)) (cC (by omega));refine⟨L,out d ?_,U61.out d ?_,λy hy=>(by rw[<-g3.2 y hy];rfl),g4⟩
  ·unfold nm at k3 u1;unfold vo b;rw[k1.1,k1.2,hv,au,aY,ay,k3.1,au,k3.2,u1.1,au,u1.2];exact g2
  ·unfold nm at k4 u2;unfold U61.vo U61.b;rw[k2.1,k2.2,hv,au,aY,ay,k4.1,au,k4.2,u2.1,au,u2.2];exact g1
end Hr

namespace uP
def kept:aq:={data:= #[aw 107,aw 101,aw 112,aw 116]}
def j6(f:aq):aQ:=[[CV.i ao 1,CV.s kept,CV.s f,CV.s {data:= #[]}],[CV.i ao 2,CV.s kept,CV.s {data:= #[]},CV.s {data:= #[]}]]
def val(k:aq)(s l:ax)(b:aq):aQ×aW:=if nk.v k s l b=ai then(j6 (fH.fr (jE.sH k s l b)),ai)else([],ak)
theorem ok(k:aq)(s l:ax)(b0:aq):c k s l b0=ai/\v k s l b0=val k s l b0:=by
 refine out k s l b0 ?_;have hf:=mN.ok k s l b0;unfold vo b val;rw[hf.1,hf.2];unfold mN.val;by_cases h:nk.v k s l b0=ai
 ·rw[bw h,bw h];rfl
 ·rw[bG h,bG h];rfl
end uP

namespace iY
open Lib (rd re rs el Fi En)
open dH (sF jU act j6 GU put without ra Ac nA)
open gj (So mZ fc)
open V4 (fs Stop)
abbrev qL:aq:={data:= #[aw 107,aw 101,aw 112,aw 116]}
def sH(e:En):aq:=jE.sH e.k e.st e.li e.bo
def Em(e:En):aW:=nk.v e.k e.st e.li e.bo
def Hy(e:En):aq:=fH.fr (sH e)
def tx(es:aC En):aq:=fs (es.map sH)
def kp(es:aC En):aC En:=es.foldl mZ []
theorem aeg(a b:aC aq):fs (a++b)=fs a++fs b:=by
 induction a with
 |nil=>exact lJ.symm
 |cons x a ih=>rw[BC];show fH.fr x++fs (a++b)=fH.fr x++fs a++fs b;rw[ih,C0]
theorem Zg(es:aC En)(e:En):tx (es++[e])=tx es++Hy e:=by unfold tx;rw[dh,aeg];show fs (es.map sH)++(fH.fr (sH e)++⟨#[]⟩)=_;rw[show(⟨#[]⟩:aq)=Hm from rfl,qi];rfl
theorem Zh{e:En}(h:Em e=ai):1<=(sH e).size/\(sH e).size<=1000:=⟨mN.Bm h,mN.tN h⟩
theorem zE{en:aC En}(h:So en)(e:En):So (mZ en e):=by have:=(lH.xE (gj.Cv h) e.k e.st e.li e.bo).1.1;rw[gj.tG]at this;unfold Lib.re at this;rw[kl]at this;exact this
theorem pR{en:aC En}{x e:En}:x∈mZ en e↔x=e\/(x∈en/\x.k≠e.k):=by
 unfold mZ;simp only[bc,dG,a_,dv,iF,e_];constructor
 ·rintro ((⟨h1,h2⟩|rfl)|⟨h1,h2⟩)
  ·refine .inr ⟨h1,λe2=> ?_⟩;rw[e2]at h2;unfold fc at h2;rw[lH.oL]at h2;cases h2
  ·exact .inl rfl
  ·exact .inr ⟨h1,h2.2⟩
 ·rintro (rfl|⟨h1,h2⟩)
  ·exact .inl (.inr rfl)
  ·cases hl:fc x.k e.k with
   |true=>exact .inl (.inl ⟨h1,rfl⟩)
   |false=>exact .inr ⟨h1,rfl,h2⟩
theorem aeZ{es:aC En}{x:En}(h:x∈kp es):x∈es:=by
 have:∀(es o:aC En),x∈es.foldl mZ o->x∈o\/x∈es:=by
  intro es;induction es with
  |nil=>intro o h;exact .inl h
  |cons e es ih=>
   intro o h;rcases ih _ h with h|h
   ·rcases pR.1 h with rfl|h
    ·exact .inr (by simp)
    ·exact .inl h.1
   ·exact .inr (by simp[h])
 rcases this es [] h with h|h
 ·cases h
 ·exact h
theorem KZ(es:aC En):(kp es).length<=es.length:=by
 have:∀(es o:aC En),So o->(es.foldl mZ o).length<=o.length+es.length:=by
  intro es;induction es with
  |nil=>intro o h;exact cw _
  |cons e es ih=>intro o h;have:=ih _ (zE h e);have:=gj.rL o e h;simp only[Df,de];omega
 have:=this es [] gZ;rw[jL,bS]at this;exact this
theorem fileAt(d:aC Fi)(n:aq):vO.val (rd d) n=match d.find? (λx=>decide (x.n=n))with|some f=>(f.t,ai)|none=>(⟨#[]⟩,ak):=by
 unfold vO.val;rw[er];rcases rq.find d n with ⟨e1,e2⟩|⟨i,hi,e1,e2⟩
 ·rw[e1,e2];rfl
 ·rw[e1,e2,bG (by omega),eQ,wd1 hi];rfl
theorem avd(es:aC En)(he:∀e∈es,Em e=ai)(hl:es.length<=20000):∀(d i n:aE) (o:aC En),es.length-i<=d->i<=es.length->So o->o.length<=i->d<n->
  U61.l7 Lib.cU (λ(_ _:ax) (y6:aQ) (_:aQ)=>ah y6) n (es.length:ax) (i:ax) (re o) (rs (es.map sH))=ah (re ((es.drop i).foldl mZ o)):=by
 have e1:∀t,vH.v t=ru.v t:=λ_=>rfl;intro d;induction d with
 |zero=>
  intro i n o h1 h2 hO h3 h5;obtain⟨n,rfl⟩:∃n',n=n'+1:=⟨n-1,by omega⟩
  have:i=es.length:=by omega
  subst this;simp only[U61.l7,U61.r7,Lib.dn,bm,bf,ay,di,Wp]
 |succ d ih=>
  intro i n o h1 h2 hO h3 h5;obtain⟨n,rfl⟩:∃n',n=n'+1:=⟨n-1,by omega⟩
  by_cases hi:i<es.length
  ·have GF:i<(es.map sH).length:=by simpa using hi
   have hk:=he _ (bA hi);have hr:ru.v (sH es[i])=(es[i].k,es[i].st,es[i].li,es[i].bo,ai):=ru.enc _ _ _ _ hk;have hp:=uM.ok (re o) es[i].k es[i].st es[i].li es[i].bo (gj.Cv hO) (by rw[dA];omega);rw[gj.tG o es[i]]at hp;have hg:(es.map sH)[i]=sH es[i]:=by simp
   simp only[U61.l7,U61.r7,Lib.dn,hi,eH,bR,aP,Lib.cE,aM,au,Lib.dZ,V0 GF,hg,bn,e1,hr,hp.1,hp.2,Lib.c6 hi (by omega:es.length<=9223372036854775807)];rw[dD hi,Df];exact ih (i+1) n _ (by omega) hi (zE hO _) (by have:=gj.rL o es[i] hO;omega) (by omega)
  ·have:i=es.length:=by omega
   subst this;simp only[U61.l7,U61.r7,Lib.dn,bm,bf,ay,di,Wp]
theorem fk(d:aC Fi)(es:aC En)(z:aq)(hd:sF d=ai)(hf:(vO.val (rd d) qL).1=tx es++z)(he:∀e∈es,Em e=ai)(hz:Stop z):
  (U61.c (rd d)=ai/\U61.v (rd d)=re (kp es))/\(Hr.c (rd d)=ai/\Hr.v (rd d)=re (kp es)):=by
 obtain⟨q1,q2,q3⟩:=jU.1 hd;have hs:(tx es++z).size<=20000:=by
  rw[<-hf,fileAt];cases h:d.find? (λx=>decide (x.n=qL))with
  |none=>exact bB _
  |some f=>have:=q2 f (Hp h);unfold nA at this;simp only[aL,bg,dv,e_]at this;show f.t.size<=20000;omega
 have hl:es.length<=20000:=by
  have:∀es:aC En,es.length<=(tx es).size:=by
   intro es;induction es with
   |nil=>exact cw _
   |cons e es ih=>
    have:(tx (e::es)).size=(Hy e).size+(tx es).size:=dI;have h2:4<=(Hy e).size:=by unfold Hy fH.fr;rw[dI,dI,V4.oN];omega
    rw[this,de];omega
  have h2:=this es;rw[dI]at hs;omega
 have u:=V4.ok (es.map sH) (λx hx=>by obtain⟨e,h,rfl⟩:=cX.1 hx;have:=Zh (he e h);omega) z hz hs;have k2:=rq.YL d (by omega);have k4:=uL.ok (rd d) qL (by rw[er];omega);have h1:=U61.out (rd d) (x:=re (kp es)) (by unfold U61.vo U61.b;rw[k2.1,k2.2,hd,au,aY,ay,k4.1,au,k4.2,hf];have hu:=u.1;rw[show fs (es.map sH)=tx es from rfl]at hu;rw[hu.1,au,hu.2];dsimp only;rw[eH,bR];have:=avd es he hl es.length 0 Lib.cU [] (by omega) (bB _) gZ (bB _) (cC (by omega));rw[fu]at this;exact this);obtain⟨L,s1,s2,_⟩:=Hr.same (rd d) (by rw[er];omega);refine⟨h1,s1.1, ?_⟩
 rw[s1.2,<-s2.2,h1.2]
def base:az aq->aC Fi
 |none=>[]|some t=>[⟨qL,t,t.size⟩]
def bt:az aq->aq|none=>⟨#[]⟩|some t=>t
def sa(f:aq):aC Ac:=[⟨1,qL,f,⟨#[]⟩⟩,⟨2,qL,⟨#[]⟩,⟨#[]⟩⟩]
theorem ok1(f:Fi):sF [f]=nA f:=by
 cases h:nA f with
 |true=>exact jU.2 ⟨by simp,λg hg=>by rw[a_.1 hg];exact h,by unfold dH.VF;simp⟩
 |false=>
  cases h2:sF [f]with
  |false=>rfl
  |true=>have:=(jU.1 h2).2.1 f (by simp);rw[h]at this;cases this
theorem aef(t:aq)(k:ax)(h1:t.size<=20000)(h2:0<=k/\k<=(t.size:ax)):nA ⟨qL,t,k⟩=true:=by unfold nA;have:((qL.size:aE):ax)=4:=rfl;rw[this,aG (by omega),aG h2,aK (by dsimp only;omega)];rfl
theorem ue{o:az aq}(h:(bt o).size<=20000):sF (base o)=true:=by
 cases o with
 |none=>exact jU.2 ⟨bB _,⟨λf hf=>(by cases hf),gZ⟩⟩
 |some t=>exact(ok1 _).trans (aef t _ h ⟨by omega,by omega⟩)
theorem xJ{g f:Fi}(h:g.n=f.n):put [g] f=[f]:=by unfold put;rw[cy (by rw[h,dH.irrefl];simp),cy (by simp[h])];rfl
theorem adO{o:az aq}{f:aq}(h:(bt o).size+f.size<=20000):act (base o) 1 qL f ⟨#[]⟩=ah [⟨qL,bt o++f,(bt o).size⟩]:=by
 unfold act;rw[ue (by omega),show dH.j5 1 f ⟨#[]⟩=ai from by unfold dH.j5;simp,aM,au];have hs:(bt o++f).size<=20000:=by rw[dI];omega
 have hn:GU (base o) 1 qL f ⟨#[]⟩=ah [⟨qL,bt o++f,(bt o).size⟩]:=by
  cases o with
  |none=>unfold GU;show(if(1:ax)=1 then ah (put [] ⟨qL,f,0⟩)else aj)=_;rw[bw rfl];show ah [(⟨qL,f,0⟩:Fi)]=ah [⟨qL,(⟨#[]⟩:aq)++f,((⟨#[]⟩:aq).size:ax)⟩];rw[show(⟨#[]⟩:aq)++f=f from lJ];rfl
  |some t=>unfold GU;rw[show(base (ah t)).find? (λx=>decide (x.n=qL))=ah ⟨qL,t,t.size⟩from by unfold base;simp];dsimp only;rw[bw rfl];exact lI ah (xJ rfl)
 rw[hn];dsimp only;rw[ok1,aef _ _ hs ⟨by omega,by rw[dI];omega⟩];rfl
theorem Xt{t:aq}{k:ax}(h:t.size<=20000)(hk:0<=k/\k<=(t.size:ax)):act [⟨qL,t,k⟩] 2 qL ⟨#[]⟩ ⟨#[]⟩=ah (base (ah t)):=by
 unfold act;rw[ok1,aef _ _ h hk,show dH.j5 2 ⟨#[]⟩ ⟨#[]⟩=ai from by unfold dH.j5;simp,aM,au];have hn:GU [⟨qL,t,k⟩] 2 qL ⟨#[]⟩ ⟨#[]⟩=ah (base (ah t)):=by unfold GU;rw[show([⟨qL,t,k⟩]:aC Fi).find? (λx=>decide (x.n=qL))=ah ⟨qL,t,k⟩from by simp];dsimp only;rw[bG (by omega),bw rfl];exact lI ah (xJ rfl)
 rw[hn];dsimp only;rw[ue (o:=ah t) h];rfl
theorem SU{o:az aq}{f:aq}(h:(bt o).size+f.size<=20000):j6 (base o) 0 (sa f)=(base (ah (bt o++f)),2):=by have hs:(bt o++f).size=(bt o).size+f.size:=dI;unfold sa j6;dsimp only;rw[adO h];dsimp only;unfold j6;dsimp only;rw[Xt (by omega) ⟨by omega,by omega⟩];rfl
theorem Oj(o:az aq):(vO.val (rd (base o)) qL).1=bt o:=by
 rw[fileAt];cases o with
 |none=>rfl
 |some t=>rw[show(base (ah t)).find? (λx=>decide (x.n=qL))=ah ⟨qL,t,t.size⟩from by unfold base;simp];rfl
def kd(es:aC En):aC Fi:=base (match es with|[]=>aj|_=>ah (tx es))
theorem auA(es:aC En):∃o,kd es=base o/\bt o=tx es:=by
 cases es with
 |nil=>exact⟨aj,rfl,rfl⟩
 |cons e es=>exact⟨ah (tx (e::es)),rfl,rfl⟩
end iY

namespace fg
def has(l:aC aq)(k:aq):aW:=l.any λx=>decide (x=k)
def without(l:aC aq)(k:aq):aC aq:=l.filter λx=> !decide (x=k)
theorem gG{l:aC aq}{k:aq}:has l k=ai↔k∈l:=by unfold has;simp
theorem lG{l:aC aq}{k:aq}:has l k=ak↔k∉l:=by rw[<-gG];cases has l k<;>simp
theorem wb{l:aC aq}{k:aq}(h:has l k=ak):without l k=l:=by unfold without;rw[eE];intro x hx;have:=lG.1 h;simp;intro e;subst e;exact this hx
theorem ir{l:aC aq}{k:aq}:(without l k).length<=l.length:=eS ..
theorem pk{l:aC aq}{k:aq}(h:has l k=ai):(without l k).length<l.length:=by unfold without;refine List.length_filter_lt_length_iff_exists.2 ⟨k,gG.1 h,by simp⟩
theorem ok(l:aC aq)(k:aq)(hl:l.length<=4294967296):c (Lib.rs l) k=ai/\v (Lib.rs l) k=has l k:=by
 refine out _ _ ?_;unfold vo b
 have:=BK l (λx=>decide (x=k)) (λm (i:aE)=>l2 Lib.cU (λ(_:aQ) (_:aq) (y6:aW) (_:ax)=>ah y6) (λ(_:aQ) (_:aq) (_:aW) (_:ax)=>ah ak) m (Lib.rs l) k ak (i:ax)) (ah ai) (ah ak)
  (λm i h hp=>by simp only[l2,r2,eH,Lib.dn,h,aP,Lib.cE,aM,au,Lib.dZ,V0 h,bn,Lib.fj,hp])
  (λm i h hp=>by simp only[l2,r2,eH,Lib.dn,h,aP,Lib.cE,aM,au,Lib.dZ,V0 h,bn,Lib.fj,hp,ay,Lib.c6 h (by omega:l.length<=9223372036854775807)])
  (λm=>by simp only[l2,r2,eH,Lib.dn,bm,bf,ay]) Lib.cU (cC (by omega))
 refine this.trans ?_;unfold has;cases l.any λx=>decide (x=k)<;>rfl
end fg

namespace vN
theorem ok(l:aQ)(hl:l.length<=4294967296):c l=ai/\v l=l:=by refine out l ?_;unfold vo b;rw[show bM (aN [Ck.i ao] 0)+l.length=l.length by simp[aN],Lib.b_ (by omega) (by omega)];rfl
end vN

namespace jj
open Lib (rr)
def oC(s:aC (aC ax)):Prop:=s.length<=1048576/\∀q∈s,q.length<=1048576
theorem run(N:aE)(K0:aQ->ax->ax->ax->ax->az R)(K1:aQ->ax->ax->ax->ax->aQ->az R)(s:aC (aC ax))(z a:ax)(hf:oC s)(m:aE)(hm:s.length+1<m)(kr:aQ->az R)
  (h0:s=[]->K0 (rr s) 0 0 z a=kr []) (h1:K1 (rr s) s.length s.length z a (rr s)=kr (rr s)):l3 N K0 K1 m (rr s) (s.length:ax) 0 z a=kr (rr s):=by
 obtain⟨m,rfl⟩:∃m',m=m'+1:=⟨m-1,by omega⟩
 have hci:∀i (h:i<s.length),vN.c (Lib.ri s[i])=ai/\vN.v (Lib.ri s[i])=Lib.ri s[i]:=λi h=>vN.ok _ (by rw[Lib.gf];have:=hf.2 _ (bA h);omega);by_cases hs:s=[]
 ·subst hs;simp only[l3,r3,jL,VA,Int.lt_irrefl,bf,ay];exact h0 rfl
 ·have hp:0<s.length:=Ml.2 hs;have key:=lY (R:=R) s.length (λm i (x:aQ)=>sE N K0 K1 m (rr s) (s.length:ax) (i:ax) z a x) (λi=>rr (s.take i)) (kr (rr s)) (λm i h=>by
   have hl:=hf.1;simp only[sE,zw,Lib.dn,h,aP,au,Lib.cE,bh,gH,Lib.dZ,Jm h,iR,(hci i h).1,(hci i h).2,pF,bz];rw[Lib.b_ (by rw[eJ];omega) (by rw[eJ];omega),au,Lib.c6 h (by omega)];have:=oO (λq=>[CV.l 3 (Lib.ri q)]) s i h;unfold rr;rw[<-this]) (λm=>by
   simp only[sE,zw,Lib.dn,bm,bf,ay,dK];exact h1) m 1 hp (by omega)
  simp only[l3,r3,aG (show(0:ax)<(s.length:ax)by omega),au,aM,gH,show decide ((0:ax)<=0)=ai from rfl];have e:=hci 0 hp;have e0:=Jm (l:=s) hp;simp only[show aZ 0=0 from rfl,e0,iR,e.1,e.2,au,pF,gD];rw[show bH (0+1)=((1:aE):ax)from rfl];refine JU ?_ key;have:=oO (λq=>[CV.l 3 (Lib.ri q)]) s 0 hp;unfold rr;rw[show(0+1)=1 from rfl]at this;rw[<-this];rfl
theorem ok(s:aC (aC ax))(a:ax)(hf:oC s):c (rr s) a=ai/\v (rr s) a=(rr s,a):=by refine out _ _ ?_;unfold vo b;rw[gH];exact run Lib.cU (λ_ _ _ _ y=>ah ([],y)) (λ_ _ _ _ wc JO=>ah (JO,wc)) s 0 a hf Lib.cU (cC (by have:=hf.1;omega)) (λx=>ah (x,a)) (λ_=>rfl) rfl
end jj

namespace fJ
open Lib (rr)
def Nl(n:ax):aW:=decide (0<=n/\n<=15)
def sd(q:aC ax):aW:=decide (q.length=16)&&q.all Nl
def n7(s:aC (aC ax))(a:ax):aW:=decide (s.length=3)&&(decide (0<=a/\a<=63)&&s.all sd)
theorem eL(n a b:ax):kj.v n a b=decide (a<=n/\n<=b):=by
 unfold kj.v;by_cases h1:a<=n
 ·rw[aG (show n≥a from h1),au];by_cases h2:n<=b<;>simp[h1,h2]
 ·rw[aK (show¬n≥a from h1),ay];simp[h1]
theorem ok(s:aC (aC ax))(a:ax)(hf:jj.oC s):c (rr s) a=ai/\v (rr s) a=n7 s a:=by
 refine out _ _ ?_;unfold vo b n7;rw[gH];by_cases h3:¬s.length=3
 ·rw[show((s.length:ax) !=3)=ai by simp;omega,aK h3];rfl
 have h3:s.length=3:=Decidable.not_not.1 h3;rw[show((s.length:ax) !=3)=ak by simp;omega,aG h3,ay,eL];cases h4:decide (0<=a/\a<=63)with
 |false=>rfl
 |true=>
  rw[aY,ay,bh,bh];have inner:∀i (h:i<s.length) (K0 K1:aW->ax->ax->aQ->ax->az aW) (kf kt:az aW) (h0:∀j:ax,K0 ak i j (rr s) a=kf) (h1:∀j:ax,K1 ak i j (rr s) a=kt),l9 Lib.cU K0 K1 Lib.cU ak (i:ax) 0 (rr s) a=bif(s[i]).all Nl then kt else kf:=λi h K0 K1 kf kt h0 h1=>
   o0 (s[i]) Nl (λm (j:aE)=>l9 Lib.cU K0 K1 m ak (i:ax) (j:ax) (rr s) a) kf kt
    (λm j hj hp=>by have hl:=hf.2 _ (bA h);unfold Nl at hp;simp only[l9,r9,gH,Lib.dn,h,aP,Lib.cE,aM,au,Lib.dZ,Jm h,iR,Lib.gf,hj,P9 hj,bI,eL,hp,aY,ay,Lib.c6 hj (by omega:s[i].length<=9223372036854775807)])
    (λm j hj hp=>by unfold Nl at hp;simp only[l9,r9,gH,Lib.dn,h,aP,Lib.cE,aM,au,Lib.dZ,Jm h,iR,Lib.gf,hj,P9 hj,bI,eL,hp,bQ,h0])
    (λm=>by simp only[l9,r9,gH,Lib.dn,h,aP,Lib.cE,aM,au,Lib.dZ,Jm h,iR,Lib.gf,bm,bf,ay,h1]) Lib.cU (cC (by have:=hf.2 _ (bA h);omega))
  have key:=o0 s sd (λm (i:aE)=>l4 Lib.cU (λ(DS:aW) (_:ax) (_:aQ) (_:ax)=>ah DS) (λ(_:aW) (_:ax) (_:aQ) (_:ax)=>ah ai) m ak (i:ax) (rr s) a) (ah ak) (ah ai)
   (λm i h hp=>by unfold sd at hp;rw[aL]at hp;have hl:=cm hp.1;simp only[l4,r4,gH,Lib.dn,h,aP,Lib.cE,aM,au,Lib.dZ,Jm h,iR,Lib.gf,hl,show(((16:aE):ax) !=16)=ak from rfl,ay];rw[inner i h _ _ _ _ (λ_=>rfl) (λ_=>rfl),hp.2,au,Lib.c6 h (by omega)])
   (λm i h hp=>by
    unfold sd at hp;by_cases hl:s[i].length=16
    ·rw[aG hl,bh]at hp;simp only[l4,r4,gH,Lib.dn,h,aP,Lib.cE,aM,au,Lib.dZ,Jm h,iR,Lib.gf,hl,show(((16:aE):ax) !=16)=ak from rfl,ay];rw[inner i h _ _ _ _ (λ_=>rfl) (λ_=>rfl),hp,ay]
    ·simp only[l4,r4,gH,Lib.dn,h,aP,Lib.cE,aM,au,Lib.dZ,Jm h,iR,Lib.gf,show((s[i].length:ax) !=16)=ai by simp;omega])
   (λm=>by simp only[l4,r4,gH,Lib.dn,bm,bf,ay]) Lib.cU (cC (by omega))
  refine key.trans ?_;cases s.all sd<;>rfl
end fJ

namespace jP
open Lib (rr rs)
open fg (has without gG lG)
def eU(k:aq):aW:=decide (1<=(k.size:ax)/\(k.size:ax)<=30)
def KX(l:aC aq)(i:aE):aW:=eU (l.getD i ⟨#[]⟩)&& !has (l.take i) (l.getD i ⟨#[]⟩)
def nt(l:aC aq):aW:=(cR l.length).all (KX l)
def sM(w m:aC aq)(s:aC (aC ax))(a:ax):aW:=nt (w++m)&&(decide (w.length<=2)&&(decide (m.length<=4)&&fJ.n7 s a))
theorem iN(k:aq):sQ.v k=eU k:=fJ.eL _ _ _
theorem xZ(l:aC aq)(i:aE):eW (Lib.rs l) (aZ 0) i=Lib.rs (l.take i):=by unfold eW Lib.rs;rw[show aZ 0=0 from rfl,fu,rX,List.map_take]
theorem ok(w m:aC aq)(s:aC (aC ax))(a:ax)(hw:w.length<=1048576)(hm:m.length<=1048576)(hf:jj.oC s):c (rs w) (rs m) (rr s) a=ai/\v (rs w) (rs m) (rr s) a=sM w m s a:=by
 refine out _ _ _ _ ?_;have h2:=fJ.ok s a hf;unfold vo b;have r1:cg (bM (aN [Ck.s] 0)+bM (rs w)) 16=true:=Lib.b_ (by simp[aN,eH];omega) (by simp[aN,eH];omega);have r2:cg (bM (aN [Ck.s] 0++rs w)+bM (rs m)) 16=true:=Lib.b_ (by simp[aN,eH];omega) (by simp[aN,eH];omega);have e:aN [Ck.s] 0++rs w++rs m=rs (w++m):=by rw[show aN [Ck.s] 0++rs w=rs w from rfl];unfold Lib.rs;rw[dh]
 rw[r1,r2,au,au,e];have hl:(w++m).length<=2097152:=by rw[bV];omega
 have gz:∀i,i<(w++m).length->fg.c (rs ((w++m).take i)) ((w++m).getD i ⟨#[]⟩)=ai/\fg.v (rs ((w++m).take i)) ((w++m).getD i ⟨#[]⟩)=has ((w++m).take i) ((w++m).getD i ⟨#[]⟩):=λi hi=>fg.ok _ _ (by rw[eJ];omega);have hk:∀i (hi:i<(w++m).length),bn (ar (rs (w++m)) i 0)=(w++m).getD i ⟨#[]⟩:=λi hi=>by rw[V0 hi,show(w++m).getD i ⟨#[]⟩=(w++m)[i]by rw[cY,eR hi];rfl];rfl
 generalize hL:w++m=L at hl gz hk
 have key:=jQ (KX L) L.length (λn (i:aE)=>l3 Lib.cU (λ(y7:aW) (_:ax) (_ _ _:aQ) (_:ax) (_:aQ)=>ah y7) (λ(_:aW) (_:ax) (Qc C_ E1:aQ) (DS:ax) (_:aQ)=>bif(decide ((↑(bM Qc):ax)<=2))then(bif(decide ((↑(bM C_):ax)<=4))then(bif(fJ.c E1 DS)then(ah (fJ.v E1 DS))else(aj))else(ah ak))else(ah ak)) n ak (i:ax) (rs w) (rs m) (rr s) a (rs L)) (ah ak) (ah (decide (w.length<=2)&&(decide (m.length<=4)&&fJ.n7 s a)))
  (λn i hi hp=>by
   unfold KX at hp;rw[aL,dv]at hp;have b1:iy 0 (i:ax) (L.length:ax)=true:=by simp[iy];omega
   simp only[l3,r3,eH,Lib.dn,hi,aP,Lib.cE,aM,au,Lib.dZ,hk i hi,iN,hp.1,aY,ay,b1,xZ,(gz i hi).1,(gz i hi).2,hp.2,Lib.c6 hi (by omega:L.length<=9223372036854775807)])
  (λn i hi hp=>by
   have b1:iy 0 (i:ax) (L.length:ax)=true:=by simp[iy];omega
   unfold KX at hp;cases h1:eU (L.getD i ⟨#[]⟩)with
   |false=>simp only[l3,r3,eH,Lib.dn,hi,aP,Lib.cE,aM,au,Lib.dZ,hk i hi,iN,h1,bQ]
   |true=>rw[h1,bh,mH]at hp;simp only[l3,r3,eH,Lib.dn,hi,aP,Lib.cE,aM,au,Lib.dZ,hk i hi,iN,h1,aY,ay,b1,xZ,(gz i hi).1,(gz i hi).2,hp])
  (λn=>by simp only[l3,r3,eH,Lib.dn,bm,bf,ay,h2.1,h2.2,au];rw[show decide ((w.length:ax)<=2)=decide (w.length<=2)by rw[ca];omega,show decide ((m.length:ax)<=4)=decide (m.length<=4)by rw[ca];omega];cases decide (w.length<=2)<;>cases decide (m.length<=4)<;>rfl) Lib.cU (cC (by omega))
 refine key.trans ?_;unfold sM nt;rw[hL];cases (cR L.length).all (KX L)<;>rfl
end jP

namespace sR
open Lib (rr rs)
open fg (has)
theorem ok(w m:aC aq)(s:aQ)(a:ax)(k:aq)(hw:w.length<=1048576)(hm:m.length<=1048576):c (rs w) (rs m) s a k=ai/\v (rs w) (rs m) s a k=(has w k||has m k):=by have h1:=fg.ok w k (by omega);have h2:=fg.ok m k (by omega);exact out _ _ _ _ _ (by unfold vo b;rw[h1.1,h1.2,h2.1,h2.2,au,au];cases has w k<;>rfl)
end sR

namespace nH
open Lib (rr rs re el pz rR rS rT En)
open fg (has)
open jP (sM)
def uX(e:En):aW:=nk.v e.k e.st e.li e.bo
def Hw(en:aC En)(w m:aC aq)(i:aE):aW:=
 uX (el en i)&&((decide (i=0)||Go.Op.bytesLess (aF (el en (i-1)).k) (aF (el en i).k))&&(has w (el en i).k||has m (el en i).k))
def MQ(en:aC En)(w m:aC aq)(s:aC (aC ax))(a:ax):aW:=(cR en.length).all (Hw en w m)&&(sM w m s a&&decide (w.length+m.length=en.length))
theorem ok(i0:ax)(en:aC En)(w m:aC aq)(s:aC (aC ax))(a:ax)(r6 r7:aQ)(i8:ax)(he:en.length<=1048576)(hw:w.length<=1048576)(hm:m.length<=1048576)(hf:jj.oC s):
  c i0 (re en) (rs w) (rs m) (rr s) a r6 r7 i8=ai/\v i0 (re en) (rs w) (rs m) (rr s) a r6 r7 i8=MQ en w m s a:=by
 refine out _ _ _ _ _ _ _ _ _ ?_;have h1:=jP.ok w m s a hw hm hf;have h2:=λk=>sR.ok w m (rr s) a k hw hm;unfold vo b
 have key:=jQ (Hw en w m) en.length (λn (i:aE)=>l2 Lib.cU (λ(uC:aW) (_ _:ax) (_ _ _ _:aQ) (_:ax) (_ _:aQ) (_:ax)=>ah uC) (λ(_:aW) (_ _:ax) (Qd Qe HC Qf:aQ) (Qg:ax) (_ _:aQ) (_:ax)=>bif(jP.c Qe HC Qf Qg)then(bif(jP.v Qe HC Qf Qg)then(ah (decide ((↑(bM Qd):ax)=bH ((↑(bM Qe):ax)+(↑(bM HC):ax)))))else(ah ak))else(aj)) n ak (i:ax) i0 (re en) (rs w) (rs m) (rr s) a r6 r7 i8) (ah ak) (ah (sM w m s a&&decide (w.length+m.length=en.length)))
  (λn i hi hp=>by
   unfold Hw uX at hp;rw[aL,aL]at hp;obtain⟨p1,p2,p3⟩:=hp;by_cases hz:i=0
   ·subst hz;simp only[l2,r2,dA,Lib.dn,hi,aP,Lib.cE,aM,au,Lib.dZ,pz hi,rR hi,rS hi,rT hi,bn,bI,p1,aY,ay,aK (show¬(((0:aE):ax)>0)by omega),(h2 _).1,(h2 _).2,p3,Lib.c6 hi (by omega:en.length<=9223372036854775807)]
   ·rw[aK hz,n_]at p2;have j7:i-1<en.length:=by omega
    simp only[l2,r2,dA,Lib.dn,hi,aP,Lib.cE,aM,au,Lib.dZ,pz hi,rR hi,rS hi,rT hi,bn,bI,p1,aY,ay,aG (show(i:ax)>0 by omega),lS (show 0<i by omega) (by omega),j7,pz j7,p2,(h2 _).1,(h2 _).2,p3,Lib.c6 hi (by omega:en.length<=9223372036854775807)])
  (λn i hi hp=>by
   unfold Hw uX at hp;cases p1:nk.v (el en i).k (el en i).st (el en i).li (el en i).bo with
   |false=>simp only[l2,r2,dA,Lib.dn,hi,aP,Lib.cE,aM,au,Lib.dZ,pz hi,rR hi,rS hi,rT hi,bn,bI,p1,bQ]
   |true=>
    rw[p1,bh]at hp;by_cases hz:i=0
    ·subst hz;rw[aG rfl,Af,bh]at hp;simp only[l2,r2,dA,Lib.dn,hi,aP,Lib.cE,aM,au,Lib.dZ,pz hi,rR hi,rS hi,rT hi,bn,bI,p1,aY,bQ,ay,aK (show¬(((0:aE):ax)>0)by omega),(h2 _).1,(h2 _).2,hp]
    ·rw[aK hz,n_]at hp;have j7:i-1<en.length:=by omega
     cases p2:bY (aF (el en (i-1)).k) (aF (el en i).k)with
     |false=>simp only[l2,r2,dA,Lib.dn,hi,aP,Lib.cE,aM,au,Lib.dZ,pz hi,rR hi,rS hi,rT hi,bn,bI,p1,aY,bQ,ay,aG (show(i:ax)>0 by omega),lS (show 0<i by omega) (by omega),j7,pz j7,p2]
     |true=>rw[p2,bh]at hp;simp only[l2,r2,dA,Lib.dn,hi,aP,Lib.cE,aM,au,Lib.dZ,pz hi,rR hi,rS hi,rT hi,bn,bI,p1,aY,bQ,ay,aG (show(i:ax)>0 by omega),lS (show 0<i by omega) (by omega),j7,pz j7,p2,(h2 _).1,(h2 _).2,hp])
  (λn=>by simp only[l2,r2,dA,Lib.dn,bm,bf,ay,h1.1,h1.2,au,eH];rw[c9 (x:=(w.length:ax)+(m.length:ax)) (by omega) (by omega),show decide ((en.length:ax)=(w.length:ax)+(m.length:ax))=decide (w.length+m.length=en.length)by rw[ca];omega];cases sM w m s a<;>rfl) Lib.cU (cC (by omega))
 refine key.trans ?_;unfold MQ;cases (cR en.length).all (Hw en w m)<;>rfl
end nH

namespace nI
open Lib (rf el Hg E0 Zi zK Qa Qb Fe)
open jP (eU)
def nA(now:ax)(f:Fe):aW:=eU f.k&&(decide ((f.t.size:ax)<=400)&&(decide (1<=f.sta/\f.sta<=3)&&(decide (0<=f.li/\f.li<=999999)&&decide (0<=f.st/\f.st<=now))))
def mA(f g:Fe):aW:=decide (f.sta=1)&&(decide (g.sta=1)&&decide (f.k=g.k))
def apart(fe:aC Fe)(i:aE):aW:=(cR i).all λj=> !mA (el fe i) (el fe j)
theorem eL(n a b:ax):kj.v n a b=decide (a<=n/\n<=b):=fJ.eL n a b
theorem ok(i0:ax)(r1 r2 r3 r4:aQ)(i5:ax)(fe:aC Fe)(r7:aQ)(i8:ax)(i:aE)(hi:i<fe.length)(hf:fe.length<=1048576):
  c i0 r1 r2 r3 r4 i5 (rf fe) r7 i8 (i:ax)=ai/\v i0 r1 r2 r3 r4 i5 (rf fe) r7 i8 (i:ax)=(nA i0 (el fe i)&&apart fe i):=by
 refine out _ _ _ _ _ _ _ _ _ _ ?_;unfold vo b
 have key:=jQ (λj=> !mA (el fe i) (el fe j)) i (λn (j:aE)=>l5 Lib.cU (λ(_:ax) (E1:aW) (_ _:ax) (_ _ _ _:aQ) (_:ax) (_ _:aQ) (_:ax) (_ _:aq) (_ _ _:ax)=>ah E1) (λ(_:ax) (_:aW) (_ _:ax) (_ _ _ _:aQ) (_:ax) (_ _:aQ) (_:ax) (_ _:aq) (_ _ _:ax)=>ah ai) n (i:ax) ak (j:ax) i0 r1 r2 r3 r4 i5 (rf fe) r7 i8 (el fe i).k (el fe i).t (el fe i).sta (el fe i).li (el fe i).st) (ah ak) (ah ai)
  (λn j hj hp=>by
   have jW:j<fe.length:=by omega
   rw[dv]at hp;unfold mA at hp;have e:decide ((el fe j).k=(el fe i).k)=decide ((el fe i).k=(el fe j).k):=by rw[ca];exact Im
   simp only[l5,r5,Lib.dn,hj,aP,Lib.cE,aM,au,Lib.dZ,dP,jW,Hg jW,zK jW,bn,bI,Lib.fj,e,Lib.c6 hj (by omega:i<=9223372036854775807)];revert hp;cases decide ((el fe i).k=(el fe j).k)<;>cases decide ((el fe j).sta=1)<;>cases decide ((el fe i).sta=1)<;>intro hp<;>first|rfl|cases hp)
  (λn j hj hp=>by
   have jW:j<fe.length:=by omega
   rw[mH]at hp;unfold mA at hp;rw[aL,aL]at hp;have e:decide ((el fe j).k=(el fe i).k)=decide ((el fe i).k=(el fe j).k):=by rw[ca];exact Im
   simp only[l5,r5,Lib.dn,hj,aP,Lib.cE,aM,au,Lib.dZ,dP,jW,Hg jW,zK jW,bn,bI,Lib.fj,e,hp.1,hp.2.1,hp.2.2])
  (λn=>by simp only[l5,r5,Lib.dn,bm,bf,ay]) Lib.cU (cC (by omega))
 simp only[dP,Lib.dn,hi,aP,Lib.cE,aM,au,Lib.dZ,Hg hi,E0 hi,Zi hi,Qa hi,Qb hi,bn,bI,eL,jP.iN];rw[show l5 Lib.cU _ _ Lib.cU (i:ax) ak 0 i0 r1 r2 r3 r4 i5 (rf fe) r7 i8 (el fe i).k (el fe i).t (el fe i).sta (el fe i).li (el fe i).st=_ from key];unfold nA apart;rw[show decide (((el fe i).t.size:ax)>400)= !decide (((el fe i).t.size:ax)<=400)by rw[<-decide_not,ca];omega];cases eU (el fe i).k<;>cases decide (((el fe i).t.size:ax)<=400)<;>cases decide (1<=(el fe i).sta/\(el fe i).sta<=3)<;>cases decide (0<=(el fe i).li/\(el fe i).li<=999999)<;>cases decide (0<=(el fe i).st/\(el fe i).st<=i0)<;>cases (cR i).all (λj=> !mA (el fe i) (el fe j))<;>rfl
end nI

namespace qK
open Lib (rr rs re rf rc el En Fe Cl Px PJ wc1 wc2 wc3 wc4 wc5 wc6)
open jP (eU)
open nH (MQ)
open nI (nA apart eL)
def Hv(now:ax)(nf:aE)(cl:aC Cl)(i:aE):aW:=
 decide (1<=(el cl i).id/\(el cl i).id<=9)&&((decide (i=0)||decide ((el cl (i-1)).id<(el cl i).id))&&(eU (el cl i).k&&(decide (1<=(el cl i).sta/\(el cl i).sta<=3)&&(decide (0<=(el cl i).fe/\(el cl i).fe<=(nf:ax))&&(decide (((el cl i).got.size:ax)<=400)&&(decide (0<=(el cl i).fr/\(el cl i).fr<=now)&&decide (0<=(el cl i).age)))))))
def jw(p:Px):aW:=
 decide (1<=p.now/\p.now<=1000000000)&&(MQ p.en p.w p.m p.s p.a&&(decide (p.fe.length<=20)&&(decide (p.cl.length<=6)&&(decide (0<=p.hits/\p.hits<=1000000000)&&((cR p.fe.length).all (λi=>nA p.now (el p.fe i)&&apart p.fe i)&&(cR p.cl.length).all (Hv p.now p.fe.length p.cl))))))
theorem step(N:aE)(g k0 k1:aW->ax->ax->aQ->aQ->aQ->aQ->ax->aQ->aQ->ax->az R)(i0:ax)(q1 q2 q3 q4:aQ)(i5:ax)(fe:aC Fe)(cl:aC Cl)(i8:ax)(i:aE)(hi:i<cl.length)(hl:cl.length<=1048576):
  r9 N g k0 k1 ak (i:ax) i0 q1 q2 q3 q4 i5 (rf fe) (rc cl) i8=bif Hv i0 fe.length cl i then g ak ((i+1:aE):ax) i0 q1 q2 q3 q4 i5 (rf fe) (rc cl) i8 else k0 ak (i:ax) i0 q1 q2 q3 q4 i5 (rf fe) (rc cl) i8:=by
 unfold Hv;have e1:decide (((el cl i).got.size:ax)>400)= !decide (((el cl i).got.size:ax)<=400):=by rw[<-decide_not,ca];omega
 have e2:decide ((el cl i).age<0)= !decide (0<=(el cl i).age):=by rw[<-decide_not,ca];omega
 by_cases hz:i=0
 ·subst hz;simp only[r9,e9,dP,Lib.dn,hi,aP,Lib.cE,aM,au,Lib.dZ,PJ hi,wc1 hi,wc2 hi,wc3 hi,wc4 hi,wc5 hi,wc6 hi,bn,bI,eL,jP.iN,aK (show¬(((0:aE):ax)>0)by omega),ay,e1,e2,Lib.c6 hi (by omega:cl.length<=9223372036854775807),Af,bh];cases decide (1<=(el cl 0).id/\(el cl 0).id<=9)<;>cases eU (el cl 0).k<;>cases decide (1<=(el cl 0).sta/\(el cl 0).sta<=3)<;>cases decide (0<=(el cl 0).fe/\(el cl 0).fe<=(fe.length:ax))<;>cases decide (((el cl 0).got.size:ax)<=400)<;>cases decide (0<=(el cl 0).fr/\(el cl 0).fr<=i0)<;>cases decide (0<=(el cl 0).age)<;>rfl
 ·have j7:i-1<cl.length:=by omega
  have e3:decide ((el cl (i-1)).id≥(el cl i).id)= !decide ((el cl (i-1)).id<(el cl i).id):=by rw[<-decide_not,ca];omega
  simp only[r9,e9,dP,Lib.dn,hi,aP,Lib.cE,aM,au,Lib.dZ,PJ hi,wc1 hi,wc2 hi,wc3 hi,wc4 hi,wc5 hi,wc6 hi,bn,bI,eL,jP.iN,aG (show(i:ax)>0 by omega),lS (show 0<i by omega) (by omega),j7,PJ j7,ay,e1,e2,e3,Lib.c6 hi (by omega:cl.length<=9223372036854775807),aK hz,n_];cases decide (1<=(el cl i).id/\(el cl i).id<=9)<;>cases decide ((el cl (i-1)).id<(el cl i).id)<;>cases eU (el cl i).k<;>cases decide (1<=(el cl i).sta/\(el cl i).sta<=3)<;>cases decide (0<=(el cl i).fe/\(el cl i).fe<=(fe.length:ax))<;>cases decide (((el cl i).got.size:ax)<=400)<;>cases decide (0<=(el cl i).fr/\(el cl i).fr<=i0)<;>cases decide (0<=(el cl i).age)<;>rfl
theorem ok(p:Px)(hp:p.Fit 1048576):c p.now (re p.en) (rs p.w) (rs p.m) (rr p.s) p.a (rf p.fe) (rc p.cl) p.hits=ai/\v p.now (re p.en) (rs p.w) (rs p.m) (rr p.s) p.a (rf p.fe) (rc p.cl) p.hits=jw p:=by
 refine out _ _ _ _ _ _ _ _ _ ?_;have h1:=nH.ok p.now p.en p.w p.m p.s p.a (rf p.fe) (rc p.cl) p.hits hp.en hp.w hp.m ⟨hp.s.1,hp.s.2.1⟩;have M6:=hp.fe;have pw:=hp.cl;unfold vo b;have h2:=λi hi=>nI.ok p.now (re p.en) (rs p.w) (rs p.m) (rr p.s) p.a p.fe (rc p.cl) p.hits i hi M6
 have kc:=λ(n:aE) (hn:p.cl.length<n)=>jQ (Hv p.now p.fe.length p.cl) p.cl.length (λn (i:aE)=>l9 Lib.cU (λ(Vr:aW) (_ _:ax) (_ _ _ _:aQ) (_:ax) (_ _:aQ) (_:ax)=>ah Vr) (λ(_:aW) (_ _:ax) (_ _ _ _:aQ) (_:ax) (_ _:aQ) (_:ax)=>ah ai) n ak (i:ax) p.now (re p.en) (rs p.w) (rs p.m) (rr p.s) p.a (rf p.fe) (rc p.cl) p.hits) (ah ak) (ah ai)
  (λn i hi hq=>by simp only[l9];rw[step _ _ _ _ _ _ _ _ _ _ _ _ _ i hi pw,hq];rfl)
  (λn i hi hq=>by simp only[l9];rw[step _ _ _ _ _ _ _ _ _ _ _ _ _ i hi pw,hq];rfl)
  (λn=>by simp only[l9,r9,e9,Lib.dn,bm,bf,ay]) n hn
 have kf:=jQ (λi=>nA p.now (el p.fe i)&&apart p.fe i) p.fe.length (λn (i:aE)=>l4 Lib.cU (λ(uC:aW) (_ _:ax) (_ _ _ _:aQ) (_:ax) (_ _:aQ) (_:ax)=>ah uC) (λ(JP:aW) (_ V3:ax) (Qd Qe HC Qf:aQ) (Qg:ax) (Qh Qi:aQ) (PM:ax)=>l9 Lib.cU (λ(Vr:aW) (_ _:ax) (_ _ _ _:aQ) (_:ax) (_ _:aQ) (_:ax)=>ah Vr) (λ(_:aW) (_ _:ax) (_ _ _ _:aQ) (_:ax) (_ _:aQ) (_:ax)=>ah ai) Lib.cU JP 0 V3 Qd Qe HC Qf Qg Qh Qi PM) n ak (i:ax) p.now (re p.en) (rs p.w) (rs p.m) (rr p.s) p.a (rf p.fe) (rc p.cl) p.hits) (ah ak) (ah ((cR p.cl.length).all (Hv p.now p.fe.length p.cl)))
  (λn i hi hq=>by simp only[l4,r4,dP,Lib.dn,hi,aP,au,(h2 i hi).1,(h2 i hi).2,hq,aY,ay,Lib.c6 hi (by omega:p.fe.length<=9223372036854775807)])
  (λn i hi hq=>by simp only[l4,r4,dP,Lib.dn,hi,aP,au,(h2 i hi).1,(h2 i hi).2,hq,bQ])
  (λn=>by simp only[l4,r4,dP,Lib.dn,bm,bf,ay];refine(kc Lib.cU (cC (by omega))).trans ?_;cases (cR p.cl.length).all (Hv p.now p.fe.length p.cl)<;>rfl) Lib.cU (cC (by omega))
 rw[eL,eL,h1.1,h1.2,au,dP,e9];rw[show l4 Lib.cU _ _ Lib.cU ak 0 p.now (re p.en) (rs p.w) (rs p.m) (rr p.s) p.a (rf p.fe) (rc p.cl) p.hits=_ from kf];unfold jw;rw[show decide ((p.fe.length:ax)>20)= !decide (p.fe.length<=20)by rw[<-decide_not,ca];omega,show decide ((p.cl.length:ax)>6)= !decide (p.cl.length<=6)by rw[<-decide_not,ca];omega];cases decide (1<=p.now/\p.now<=1000000000)<;>cases MQ p.en p.w p.m p.s p.a<;>cases decide (p.fe.length<=20)<;>cases decide (p.cl.length<=6)<;>cases decide (0<=p.hits/\p.hits<=1000000000)<;>cases (cR p.fe.length).all (λi=>nA p.now (el p.fe i)&&apart p.fe i)<;>cases (cR p.cl.length).all (Hv p.now p.fe.length p.cl)<;>rfl
end qK

namespace vm
open Lib (Px Cl Fe En el)
def ec(f:aE)(st:ax)(t:aq)(c:Cl):Cl:=bif decide (c.fe=(f:ax)+1)&&decide (c.sta=1)then{c with sta:=st,got:=t}else c
def od(cl:aC Cl)(f:aE)(st:ax)(t:aq):aC Cl:=cl.map (ec f st t)
theorem ld{α:Type}(l:aC α)(g:α->α):l.mapIdx (λ_ c=>g c)=l.map g:=by apply jM<;>simp
end vm

namespace ig
open Lib (Px Cl Fe En el)
open qK (jw)
open vm (od)
def vk(p:Px)(f:ax):aW:=jw p&&(decide (0<=f/\f<=(p.fe.length:ax)-1)&&decide ((el p.fe f.toNat).sta=1))
def told(p:Px)(f:aE)(g:Fe)(st:ax):Px:={p with fe:=p.fe.set f g,cl:=od p.cl f st g.t}
theorem jy{p:Px}{f:ax}(h:vk p f=ai):∃n:aE,f=(n:ax)/\n<p.fe.length/\jw p=ai/\(el p.fe n).sta=1:=by unfold vk at h;simp only[aL,bg]at h;obtain⟨h1,h2,h3⟩:=h;exact⟨f.toNat,by omega,by omega,h1,h3⟩
theorem nP{p:Px}{n f:aE}{g:Fe}{st:ax}(h:p.Fit n):(told p f g st).Fit n:=by
 refine⟨h.en,h.w,h.m,h.s, ?_, ?_⟩
 ·show(p.fe.set f g).length<=n;rw[cQ];exact h.fe
 ·show(od p.cl f st g.t).length<=n;unfold vm.od;rw[bR];exact h.cl
def Ei(p:Px)(f:ax):Px×aW:=bif vk p f then(told p f.toNat {el p.fe f.toNat with sta:=3} 3,ai)else(p,ak)
def EO(p:Px)(f:ax)(t:aq):Px×aW:=
 bif vk p f&&(decide (1<=t.size/\t.size<=40)&&decide ((el p.fe f.toNat).t.size+t.size<=400))then(told p f.toNat {el p.fe f.toNat with t:=(el p.fe f.toNat).t++t} 1,ai)else(p,ak)
theorem jR{l:aC Fe}{n:aE}{g:Fe}(h:n<l.length):el (l.set n g) n=g:=by rw[fF (by rw[cQ];exact h),kB]
theorem xU(l:aC Fe)(n j:aE)(ys:aC CV)(g:Fe)(h:n<l.length)(hs:iD (Fe.row (el l n)) j ys=Fe.row g):eA (Lib.rf l) n j ys=Lib.rf (l.set n g):=by rw[fF h]at hs;exact kO Fe.row l n j ys g h hs
theorem aab{p:Px}(h:jw p=ai)(i:aE)(hi:i<p.fe.length):nI.nA p.now (el p.fe i)=true:=by unfold qK.jw at h;simp only[aL,bg]at h;obtain⟨_,_,_,_,_,h6,_⟩:=h;rw[bu]at h6;have:=h6 i (by simpa using hi);rw[aL]at this;exact this.1
end ig

namespace gp
theorem alV(x:ax):0<=bE eD x/\bE eD x<4294967296:=by have e:bE eD x=x%4294967296:=rfl;rw[e];omega
theorem afK(x:ax):0<=jN.rd x/\jN.rd x<4294967296:=by unfold jN.rd;cases decide (cK x 2=1)<;>exact alV _
theorem Nx:∀(n:aE) (x:ax),0<=x/\x<4294967296->0<=jN.nC n x/\jN.nC n x<4294967296
 |0,_,h=>h
 |n+1,x,_=>Nx n _ (afK x)
theorem Ve(t:aq):∀(d i:aE) (s:ax),0<=s/\s<4294967296->0<=jN.su t d i s/\jN.su t d i s<4294967296
 |0,_,_,h=>h
 |d+1,i,s,h=>Ve t d (i+1) _ (Nx 8 _ (alV _))
def keyed(i:aE)(key:aq):aq:=key++bytesOf [[CV.i ba (i:ax)]]
def sm(i:aE)(key:aq):ax:=jN.su (keyed i key) (keyed i key).size 0 4294967295
def pl(i:aE)(key:aq):aE:=(cK (sm i key) 16).toNat
theorem Lu(i:aE)(key:aq):0<=sm i key/\sm i key<4294967296:=Ve _ _ _ _ (by omega)
theorem pl_int(i:aE)(key:aq):cK (sm i key) 16=(pl i key:ax):=by have:=Lu i key;have h:0<=cK (sm i key) 16:=Wm _ this.1;unfold pl;omega
theorem CC(i:aE)(key:aq):pl i key<16:=by have:=Lu i key;have h:=Int.tmod_lt_of_pos (sm i key) (show(0:ax)<16 by omega);have h2:0<=cK (sm i key) 16:=Wm _ this.1;unfold pl;omega
theorem CN(i:aE)(key:aq):(keyed i key).size=key.size+1:=by unfold keyed;rw[dI,CM]
theorem ok(i:aE)(key:aq)(hi:i<3)(hk:key.size<=140737488355328):c (i:ax) key=ai/\v (i:ax) key=(pl i key:ax):=by
 refine out _ _ ?_;unfold vo b;have e:(key++bytesOf (aA (aN [Ck.i ba] 1) 0 [CV.i ba (bE ba (i:ax))]))=keyed i key:=by
  unfold keyed;match i,hi with
  |0,_=>rfl
  |1,_=>rfl
  |2,_=>rfl
 have hs:=CN i key;have h:=vK.ok (keyed i key) (by omega);have e2:cj key+cj (bytesOf (aA (aN [Ck.i ba] 1) 0 [CV.i ba (bE ba (i:ax))]))=key.size+1:=by rw[pF,CM]
 rw[e2,e,aG (by omega),au,h.1,h.2,au];have hp:=pl_int i key;have hl:=CC i key;unfold sm at hp;rw[hp,c9 (by omega) (by omega)]
end gp

namespace nU
open Lib (rr)
theorem run(N:aE)(K0:ax->aQ->ax->ax->ax->az R)(K1:ax->aQ->ax->ax->ax->aQ->az R)(s:aC (aC ax))(z y a:ax)(hf:jj.oC s)(m:aE)(hm:s.length+1<m)(kr:aQ->az R)
  (h0:s=[]->K0 0 (rr s) z y a=kr []) (h1:K1 s.length (rr s) z y a (rr s)=kr (rr s)):l3 N K0 K1 m 0 (rr s) z y a=kr (rr s):=by
 obtain⟨m,rfl⟩:∃m',m=m'+1:=⟨m-1,by omega⟩
 have hz:∀q:aQ,aN [Ck.i ao] 0++q=q:=λq=>rfl;have hci:∀i (h:i<s.length),cg (bM (aN [Ck.i ao] 0)+bM (Lib.ri s[i])) 8=true:=λi h=>by have:=hf.2 _ (bA h);exact Lib.b_ (by rw[Lib.gf];simp[aN];omega) (by rw[Lib.gf];simp[aN];omega)
 by_cases hs:s=[]
 ·subst hs;simp only[l3,r3,gH,jL,VA,Int.lt_irrefl,bf,ay];exact h0 rfl
 ·have hp:0<s.length:=Ml.2 hs;have key:=lY (R:=R) s.length (λm i (x:aQ)=>sE N K0 K1 m (i:ax) (rr s) z y a x) (λi=>rr (s.take i)) (kr (rr s)) (λm i h=>by
   have hl:=hf.1;simp only[sE,zw,gH,Lib.dn,h,aP,au,Lib.cE,bh,Lib.dZ,Jm h,iR,hci i h,hz,pF,bz];rw[Lib.b_ (by rw[eJ];omega) (by rw[eJ];omega),au,Lib.c6 h (by omega)];have:=oO (λq=>[CV.l 3 (Lib.ri q)]) s i h;unfold rr;rw[<-this]) (λm=>by
   simp only[sE,zw,gH,Lib.dn,bm,bf,ay,dK];exact h1) m 1 hp (by omega)
  have e:=hci 0 hp;have e0:=Jm (l:=s) hp;simp only[l3,r3,aG (show(0:ax)<(s.length:ax)by omega),au,aM,gH,show decide ((0:ax)<=0)=ai from rfl,show aZ 0=0 from rfl,e0,iR,e,hz,au,pF,gD];rw[show bH (0+1)=((1:aE):ax)from rfl];refine JU ?_ key;have:=oO (λq=>[CV.l 3 (Lib.ri q)]) s 0 hp;unfold rr;rw[show(0+1)=1 from rfl]at this;rw[<-this];rfl
theorem ok(s:aC (aC ax))(a:ax)(hf:jj.oC s):c (rr s) a=ai/\v (rr s) a=(rr s,a):=by refine out _ _ ?_;unfold vo b;exact run Lib.cU (λ_ _ _ _ y=>ah ([],y)) (λ_ _ _ _ wc JO=>ah (JO,wc)) s a 0 a hf Lib.cU (cC (by have:=hf.1;omega)) (λx=>ah (x,a)) (λ_=>rfl) rfl
end nU

namespace dt
open Lib (rr ri)
def bq(p:aE)(q:aC ax):aC ax:=q.set p (bif decide (q.getD p 0<15)then q.getD p 0+1 else q.getD p 0)
def Dx(s:aC (aC ax))(key:aq):aC (aC ax):=s.mapIdx λi q=>bq (gp.pl i key) q
def half(s:aC (aC ax)):aC (aC ax):=s.map λq=>q.map λn=>cL n 2
def val(s:aC (aC ax))(a:ax)(key:aq):aC (aC ax)×ax:=
 bif fJ.n7 s a then(bif decide (a+1=64)then(half (Dx s key),0)else(Dx s key,a+1))else(s,a)
def fR(q:aC ax):aC CV:=[CV.l 3 (ri q)]
theorem PG(q:aC ax)(p:aE)(x:ax)(h:p<q.length):eA (ri q) p 0 [CV.i ao x]=ri (q.set p x):=kO (λn=>[CV.i ao n]) q p 0 _ x h rfl
theorem PH(L:aC (aC ax))(i:aE)(q:aC ax)(h:i<L.length):eA (L.map fR) i 0 [CV.l 3 (ri q)]=(L.set i q).map fR:=kO fR L i 0 _ q h rfl
theorem BS(L:aC (aC ax))(i:aE)(h:i<L.length):ar (L.map fR) i 0=CV.l 3 (ri L[i]):=fE fR L i 0 h
theorem ur{s:aC (aC ax)}{a:ax}(h:fJ.n7 s a=ai):s.length=3/\(0<=a/\a<=63)/\∀q∈s,q.length=16/\∀n∈q,0<=n/\n<=15:=by
 unfold fJ.n7 at h;rw[aL,aL]at h;refine⟨cm h.1,cm h.2.1,λq hq=> ?_⟩
 have:=bu.1 h.2.2 q hq;unfold fJ.sd at this;rw[aL]at this;refine⟨cm this.1,λn hn=> ?_⟩
 have:=bu.1 this.2 n hn;unfold fJ.Nl at this;exact cm this
theorem oD{q:aC ax}{p:aE}(h:p<q.length):q.getD p 0=q[p]:=by simp[j_,h]
theorem afO(K:aq->ax->ax->ax->aQ->az R)(s:aC (aC ax))(key:aq)(y a:ax)(hs:s.length=3)(hq:∀q∈s,q.length=16/\∀n∈q,0<=n/\n<=15)(hk:key.size<=140737488355328):
  l5 Lib.cU K Lib.cU key 0 y a (rr s)=K key 3 y a (rr (Dx s key)):=by
 refine(nE fR s (λi q=>bq (gp.pl i key) q) (λm (i:aE) x=>l5 Lib.cU K m key (i:ax) y a x) (λx=>K key 3 y a x) (λm i L h h2 hL vS=> ?_) (λm L hL=> ?_) Lib.cU (cC (by omega)))
 ·have hp:=gp.ok i key (by omega) hk;have sL:=gp.CC i key;obtain⟨JJ,hn⟩:=hq _ (bA h);have e0:ar (L.map fR) i 0=CV.l 3 (ri s[i]):=by rw[BS L i h2,vS]
  have hb:gp.pl i key<s[i].length:=by omega
  have hx:=hn _ (bA hb);simp only[l5,r5,bR,Lib.dn,h2,aP,au,hp.1,hp.2,Lib.cE,aM,Lib.dZ,e0,iR,Lib.gf,JJ,sL,P9 hb,bI];unfold bq;rw[oD hb];cases hd:decide (s[i][gp.pl i key]<15)with
  |true=>have:=cm hd;rw[au,au,c9 (x:=s[i][gp.pl i key]+1) (by omega) (by omega),PG _ _ _ hb,PH _ _ _ h2,Lib.c6 h2 (by omega)]
  |false=>rw[ay,ay,Lib.c6 h2 (by omega),fw,<-vS,fw]
 ·simp only[l5,r5,bR,Lib.dn,hL,bm,bf,ay,hs];rfl
theorem s7{s:aC (aC ax)}{key:aq}(hs:s.length=3)(hq:∀q∈s,q.length=16/\∀n∈q,0<=n/\n<=15):(Dx s key).length=3/\∀q∈Dx s key,q.length=16/\∀n∈q,0<=n/\n<=15:=by
 unfold Dx;refine⟨by simp[hs],λq hm=> ?_⟩
 obtain⟨i,hi,rfl⟩:=List.mem_mapIdx.1 hm;obtain⟨JJ,hn⟩:=hq _ (bA hi);unfold bq;have hb:gp.pl i key<s[i].length:=by have:=gp.CC i key;omega
 refine⟨by rw[cQ];exact JJ,λn h=> ?_⟩
 rcases jD h with h|h
 ·exact hn n h
 ·rw[oD hb]at h;have hx:=hn _ (bA hb);rw[h];cases hd:decide (s[i][gp.pl i key]<15)with
  |true=>have:=cm hd;rw[au];omega
  |false=>rw[ay];exact hx
theorem alj(K:ax->ax->ax->ax->aQ->az R)(L:aC (aC ax))(i:aE)(h:i<L.length)(y a:ax)(hl:L.length<=1048576)(hq:L[i].length=16)(hn:∀n∈L[i],0<=n/\n<=15):
  l17 Lib.cU K Lib.cU (i:ax) 0 y a (L.map fR)=K i 16 y a ((L.set i (L[i].map λn=>cL n 2)).map fR):=by
 have hmi:L[i].mapIdx (λ_ n=>cL n 2)=L[i].map λn=>cL n 2:=by apply jM<;>simp
 have key:=lY (L[i].length) (λm (k:aE) x=>l17 Lib.cU K m (i:ax) (k:ax) y a x) (λk=>(L.set i (n8 L[i] (λ_ n=>cL n 2) k)).map fR) (K i 16 y a ((L.set i (L[i].map λn=>cL n 2)).map fR)) (λm k hk=> ?_) (λm=> ?_) Lib.cU 0 (bB _) (cC (by omega))
 ·rw[CU,fw]at key;exact key
 ·have hu:=qG L[i] (λ_ n=>cL n 2) k (by omega);generalize hU:n8 L[i] (λ_ n=>cL n 2) k=U at hu;have hku:k<U.length:=by omega
  have gh:U[k]=L[i][k]:=by subst hU;exact xY _ _ _ hk _
  have aeI:U.set k (cL L[i][k] 2)=n8 L[i] (λ_ n=>cL n 2) (k+1):=by subst hU;exact tO L[i] (λ_ n=>cL n 2) k hk
  have h2:i<(L.set i U).length:=by simpa using h
  have e0:ar ((L.set i U).map fR) i 0=CV.l 3 (ri U):=by rw[BS _ _ h2,kB]
  have hx:=hn _ (bA hk);have ht:0<=cL L[i][k] 2:=Wl hx.1 (by omega);have GK:cL L[i][k] 2<=15:=zO (VB _ hx.1) hx.2;simp only[l17,r17,bR,cQ,Lib.dn,h,hku,aP,au,Lib.cE,aM,Lib.dZ,e0,iR,Lib.gf,P9 hku,bI,gh];rw[c9 (x:=cL L[i][k] 2) (by omega) (by omega),PG _ _ _ hku,PH _ _ _ h2,aeI,pC,Lib.c6 hk (by omega)]
 ·have e0:ar ((L.set i (n8 L[i] (λ_ n=>cL n 2) L[i].length)).map fR) i 0=CV.l 3 (ri (L[i].map λn=>cL n 2)):=by rw[BS _ _ (by simpa using h),kB,qF,hmi]
  simp only[l17,r17,bR,cQ,Lib.dn,h,aP,au,Lib.cE,aM,Lib.dZ,e0,iR,Lib.gf,bm,bf,ay];rw[qF,hmi,hq];rfl
theorem alh(K:ax->ax->ax->aQ->az R)(s:aC (aC ax))(y a:ax)(hs:s.length=3)(hq:∀q∈s,q.length=16/\∀n∈q,0<=n/\n<=15):
  l14 Lib.cU K Lib.cU 0 y a (rr s)=K 3 y a (rr (half s)):=by
 have hmi:s.mapIdx (λ_ q=>q.map λn=>cL n 2)=half s:=by unfold half;apply jM<;>simp
 rw[<-hmi];refine(nE fR s (λ_ q=>q.map λn=>cL n 2) (λm (i:aE) x=>l14 Lib.cU K m (i:ax) y a x) (λx=>K 3 y a x) (λm i L h h2 hL vS=> ?_) (λm L hL=> ?_) Lib.cU (cC (by omega)))
 ·obtain⟨JJ,hn⟩:=hq _ (bA h);simp only[l14,r14,bR,Lib.dn,h2,aP,au];rw[alj _ L i h2 y a (by omega) (by rw[vS];exact JJ) (by rw[vS];exact hn),Lib.c6 h2 (by omega),vS]
 ·simp only[l14,r14,bR,Lib.dn,hL,bm,bf,ay,hs];rfl
theorem ok(s:aC (aC ax))(a:ax)(key:aq)(hf:jj.oC s)(hk:key.size<=140737488355328):c (rr s) a key=ai/\v (rr s) a key=(rr (val s a key).1,(val s a key).2):=by
 refine out _ _ _ ?_;have h1:=nU.ok s a hf;have h2:=fJ.ok s a hf;unfold vo b val;rw[h1.1,h1.2,h2.1,h2.2,au,au];cases cf:fJ.n7 s a with
 |false=>rfl
 |true=>
  obtain⟨hs,ha,hq⟩:=ur cf;obtain⟨b1,b2⟩:=s7 (key:=key) hs hq;rw[aY,ay,au,afO _ s key _ _ hs hq hk,c9 (x:=a+1) (by omega) (by omega)];cases hd:decide (a+1=64)with
  |false=>rfl
  |true=>rw[au,au,alh _ _ _ _ b1 b2]
end dt

namespace mC
open Lib (rr ri)
def gs(key:aq):aE->aC (aC ax)->ax->ax
 |_,[],x=>x
 |i,q::r,x=>gs key (i+1) r (bif decide (q.getD (gp.pl i key) 0<x)then q.getD (gp.pl i key) 0 else x)
def val(s:aC (aC ax))(a:ax)(key:aq):ax:=bif fJ.n7 s a then gs key 0 s 15 else 0
theorem GC(key:aq)(s:aC (aC ax))(i:aE)(h:i<s.length)(x:ax):gs key i (s.drop i) x=gs key (i+1) (s.drop (i+1)) (bif decide (s[i].getD (gp.pl i key) 0<x)then s[i].getD (gp.pl i key) 0 else x):=by rw[dD h];rfl
theorem ok(s:aC (aC ax))(a:ax)(key:aq)(hf:jj.oC s)(hk:key.size<=140737488355328):c (rr s) a key=ai/\v (rr s) a key=val s a key:=by
 refine out _ _ _ ?_;have h2:=fJ.ok s a hf;unfold vo b val;rw[h2.1,h2.2,au];cases cf:fJ.n7 s a with
 |false=>rfl
 |true=>
  obtain⟨hs,ha,hq⟩:=dt.ur cf;rw[aY,ay,au];have:=Lib.fQ (λm (t:aE×ax)=>l5 Lib.cU (λ(_:aq) (y6 _:ax) (_:aQ) (_:ax)=>ah y6) m key t.2 (t.1:ax) (rr s) a) (λt=>s.length-t.1) (λt=>t.1<=s.length) (λt=>ah (gs key t.1 (s.drop t.1) t.2)) (λm t ht=>by
   obtain⟨i,x⟩:=t;dsimp only at ht⊢;by_cases h:i<s.length
   ·right;have hp:=gp.ok i key (by omega) hk;have sL:=gp.CC i key;obtain⟨JJ,hn⟩:=hq _ (bA h);have hb:gp.pl i key<s[i].length:=by omega
    refine⟨(i+1,bif decide (s[i].getD (gp.pl i key) 0<x)then s[i].getD (gp.pl i key) 0 else x),by dsimp only;omega,by dsimp only;omega,by rw[<-GC key s i h x], ?_⟩
    simp only[l5,r5,gH,Lib.dn,h,aP,au,hp.1,hp.2,Lib.cE,aM,Lib.dZ,Jm h,iR,Lib.gf,JJ,sL,P9 hb,bI,Lib.c6 h (by omega:s.length<=9223372036854775807)];rw[dt.oD hb];cases decide (s[i][gp.pl i key]<x)<;>rfl
   ·left;have:i=s.length:=by omega
    subst this;simp only[l5,r5,gH,Lib.dn,bm,bf,ay,di,gs]) Lib.cU (0,15) (bB _) (cC (by dsimp only;omega))
  simpa using this
end mC

namespace gd
open Lib (rr rs)
theorem ok(w m:aC aq)(s:aC (aC ax))(a:ax)(hw:w.length<=1048576)(hm:m.length<=1048576)(hf:jj.oC s):c (rs w) (rs m) (rr s) a=ai/\v (rs w) (rs m) (rr s) a=(rs w,rs m,rr s,a):=by have h3:=nU.ok s a hf;have r1:cg (bM (aN [Ck.s] 0)+bM (rs w)) 16=true:=Lib.b_ (by simp[aN,eH];omega) (by simp[aN,eH];omega);have r2:cg (bM (aN [Ck.s] 0)+bM (rs m)) 16=true:=Lib.b_ (by simp[aN,eH];omega) (by simp[aN,eH];omega);exact out _ _ _ _ (by unfold vo b;rw[r1,r2,h3.1,h3.2,au,au,au];rfl)
end gd

namespace oZ
theorem ok(l:aC aq)(k:aq)(hl:l.length<=1048576):c (Lib.rs l) k=ai/\v (Lib.rs l) k=Lib.rs (fg.without l k):=by
 refine out _ _ ?_;unfold vo b;have key:=lY l.length (λm (i:aE) (x:aQ)=>l3 Lib.cU (λ(_:aQ) (_:aq) (_:ax) (y7:aQ)=>ah y7) m (Lib.rs l) k (i:ax) x) (λi=>Lib.rs (fg.without (l.take i) k)) (ah (Lib.rs (fg.without l k))) (λm i h=>by
  have hlen:=fg.ir (l:=l.take i) (k:=k);rw[eJ]at hlen;simp only[l3,r3,eH,Lib.dn,h,aP,Lib.cE,aM,au,Lib.dZ,V0 h,bn,Lib.fj,pF,bz,Lib.c6 h (by omega:l.length<=9223372036854775807)];rw[Lib.b_ (by omega) (by omega),au];have e:fg.without (l.take (i+1)) k=fg.without (l.take i) k++(bif !decide (l[i]=k)then [l[i]]else []):=by unfold fg.without;rw[cB h,ik];cases hd:decide (l[i]=k)<;>simp[hd]
  rw[e];cases hd:decide (l[i]=k)with
  |true=>rw[aY,ay,ay,dj]
  |false=>rw[bQ,au,au];unfold Lib.rs;rw[dh];rfl) (λm=>by
  simp only[l3,r3,eH,Lib.dn,bm,bf,ay,dK]) Lib.cU 0 (bB _) (cC (by omega))
 exact key
end oZ

namespace eV
open Lib (rr rs)
open fg (has without gG lG wb ir pk)
open jP (eU KX nt sM iN)
def val(w m:aC aq)(s:aC (aC ax))(a:ax)(key:aq):aC aq×aC aq×aC (aC ax)×ax×aq:=
 bif sM w m s a&&eU key then
  bif has w key then(without w key++[key],m,(dt.val s a key).1,(dt.val s a key).2,⟨#[]⟩)
  else bif has m key then(w,without m key++[key],(dt.val s a key).1,(dt.val s a key).2,⟨#[]⟩)
  else bif decide ((w++[key]).length<=2)then(w++[key],m,(dt.val s a key).1,(dt.val s a key).2,⟨#[]⟩)
  else bif decide (m.length<4)then((w++[key]).tail,m++[(w++[key]).getD 0 ⟨#[]⟩],(dt.val s a key).1,(dt.val s a key).2,⟨#[]⟩)
  else bif decide (mC.val (dt.val s a key).1 (dt.val s a key).2 ((w++[key]).getD 0 ⟨#[]⟩)>mC.val (dt.val s a key).1 (dt.val s a key).2 (m.getD 0 ⟨#[]⟩))then
   ((w++[key]).tail,m.tail++[(w++[key]).getD 0 ⟨#[]⟩],(dt.val s a key).1,(dt.val s a key).2,m.getD 0 ⟨#[]⟩)
  else((w++[key]).tail,m,(dt.val s a key).1,(dt.val s a key).2,(w++[key]).getD 0 ⟨#[]⟩)
 else(w,m,s,a,⟨#[]⟩)
theorem CO(l:aC aq)(k:aq):rs l++[[CV.s k]]=rs (l++[k]):=by unfold Lib.rs;rw[dh];rfl
theorem zer(l:aC aq):aN [Ck.s] 0++rs l=rs l:=rfl
theorem Sf(l:aC aq):bn (ar (rs l) (aZ 0) 0)=l.getD 0 ⟨#[]⟩:=by cases l<;>rfl
theorem Vg(l:aC aq):eW (rs l) (aZ 1) (aZ (l.length:ax))=rs l.tail:=by unfold eW Lib.rs;rw[show aZ 1=1 from rfl,Lib.dZ,List.drop_one,<-List.map_tail,ja (by simp)]
theorem nu{l:aC aq}(h:nt l=ai){k:aq}(hk:k∈l):eU k=true:=by
 unfold nt at h;rw[bu]at h;obtain⟨i,hi,rfl⟩:=c8 hk;have:=h i (by simpa using hi);unfold KX at this;rw[aL]at this;have e:l.getD i ⟨#[]⟩=l[i]:=by simp[j_,hi]
 rw[e]at this;exact this.1
theorem vW{l:aC aq}:nt l=ai↔(∀k∈l,eU k=ai)/\l.Nodup:=by
 constructor
 ·intro h;refine⟨λk hk=>nu h hk, ?_⟩
  rw[pB,dB];intro i j hi hj OQ he;unfold nt at h;rw[bu]at h;have h2:=h j (by simpa using hj);unfold KX at h2;have e:l.getD j ⟨#[]⟩=l[j]:=by simp[j_,hj]
  rw[e,aL,dv,lG]at h2;refine h2.2 ?_;rw[<-he];have:(l.take j)[i]'(by rw[eJ];omega)=l[i]:=nh ..;rw[<-this];exact bA _
 ·intro h;unfold nt;rw[bu];intro j hj;have hj:j<l.length:=by simpa using hj
  unfold KX;have e:l.getD j ⟨#[]⟩=l[j]:=by simp[j_,hj]
  rw[e,aL,dv,lG];refine⟨h.1 _ (bA hj),λhm=> ?_⟩
  obtain⟨i,hi,he⟩:=c8 hm;rw[eJ]at hi;rw[nh]at he;have h2:=h.2;rw[pB,dB]at h2;exact h2 i j (by omega) hj (by omega) he
theorem kG{k:aq}(h:eU k=ai):1<=k.size/\k.size<=30:=by unfold eU at h;have:=cm h;omega
theorem Lq{s:aC (aC ax)}{a:ax}{key:aq}(h:jj.oC s):jj.oC (dt.val s a key).1:=by
 unfold dt.val;cases cf:fJ.n7 s a with
 |false=>exact h
 |true=>
  obtain⟨hs,_,hq⟩:=dt.ur cf;obtain⟨b1,b2⟩:=dt.s7 (key:=key) hs hq;rw[au];cases decide (a+1=64)with
  |false=>exact⟨by rw[ay];dsimp only;omega,λq h=>by have:=(b2 q h).1;omega⟩
  |true=>
   rw[au];dsimp only;unfold dt.half;refine⟨by rw[bR];omega,λq h=> ?_⟩
   obtain⟨q',hq',rfl⟩:=cX.1 h;rw[bR];have:=(b2 q' hq').1;omega
theorem th{l:aC aq}(h:0<l.length):l.getD 0 ⟨#[]⟩∈l:=by
 cases l with
 |nil=>simp at h
 |cons x r=>exact dL ..
theorem Cz{w m:aC aq}{s:aC (aC ax)}{a:ax}(h:sM w m s a=ai):nt (w++m)=ai/\w.length<=2/\m.length<=4/\fJ.n7 s a=true:=by unfold sM at h;simp only[aL,bg]at h;exact⟨h.1,h.2.1,h.2.2.1,h.2.2.2⟩
theorem ok(w m:aC aq)(s:aC (aC ax))(a:ax)(key:aq)(hw:w.length<=1048576)(hm:m.length<=1048576)(hf:jj.oC s)(hk:key.size<=140737488355328):
  c (rs w) (rs m) (rr s) a key=ai/\v (rs w) (rs m) (rr s) a key=(rs (val w m s a key).1,rs (val w m s a key).2.1,rr (val w m s a key).2.2.1,(val w m s a key).2.2.2.1,(val w m s a key).2.2.2.2):=by
 refine out _ _ _ _ _ ?_;have h1:=gd.ok w m s a hw hm hf;have h2:=jP.ok w m s a hw hm hf;have h3:=dt.ok s a key hf hk;have h4:=fg.ok w key (by omega);have h5:=fg.ok m key (by omega);have h6:=oZ.ok w key hw;have h7:=oZ.ok m key hm;have sf:=Lq (a:=a) (key:=key) hf;unfold vo b;simp only[Lib.lt,h1.1,h1.2,h2.1,h2.2,au];unfold val;cases hp:sM w m s a with
 |false=>rfl
 |true=>
  obtain⟨p1,p2,p3,p4⟩:=Cz hp;rw[iN,bh];cases zW:eU key with
  |false=>rfl
  |true=>
   have AH:=kG zW;have l6:=ir (l:=w) (k:=key);have l7:=ir (l:=m) (k:=key);simp only[aY,ay,au,h3.1,h3.2,h4.1,h4.2,h5.1,h5.2,h6.1,h6.2,h7.1,h7.2,CO,zer,eH,pF,bz];rw[Lib.b_ (n:=(without w key).length+1) (by omega) (by omega),Lib.b_ (n:=(without m key).length+1) (by omega) (by omega),Lib.b_ (n:=w.length+1) (by omega) (by omega)];simp only[au];cases hA:has w key with
   |true=>rfl
   |false=>
    cases hB:has m key with
    |true=>rfl
    |false=>
     simp only[ay];rw[show decide (((w++[key]).length:ax)<=2)=decide ((w++[key]).length<=2)by rw[ca];omega];cases hC:decide ((w++[key]).length<=2)with
     |true=>rfl
     |false=>
      have hlw:(w++[key]).length=3:=by have:=oH hC;rw[bV,bz]at this⊢;omega
      have hfm:(w++[key]).getD 0 ⟨#[]⟩∈w++[key]:=th (by omega);have KM:((w++[key]).getD 0 ⟨#[]⟩).size<=30:=by
       rcases bc.1 hfm with h|h
       ·exact(kG (nu p1 (bW _ h))).2
       ·rw[a_]at h;rw[h];exact AH.2
      have g1:=mC.ok (dt.val s a key).1 (dt.val s a key).2 ((w++[key]).getD 0 ⟨#[]⟩) sf (by omega);have i1:iy 1 ((w++[key]).length:ax) ((w++[key]).length:ax)=true:=by rw[hlw];rfl
      have ht:(w++[key]).tail.length=2:=by rw[Wq];omega
      have rz:cg (bM (aN [Ck.s] 0)+(w++[key]).tail.length) 16=true:=Lib.b_ (by rw[ht];decide) (by rw[ht];decide);simp only[ay,aG (show(0:ax)<((w++[key]).length:ax)by omega),i1,au,Sf,Vg,rz,zer,CO,eH,Lib.b_ (n:=m.length+1) (b:=16) (by omega) (by omega),g1.1,g1.2];rw[show decide ((m.length:ax)<4)=decide (m.length<4)by rw[ca];omega];cases hD:decide (m.length<4)with
      |true=>rfl
      |false=>
       have hm4:m.length=4:=by have:=oH hD;omega
       have hmm:m.getD 0 ⟨#[]⟩∈m:=th (by omega);have hms:=(kG (nu p1 (bP _ hmm))).2;have g2:=mC.ok (dt.val s a key).1 (dt.val s a key).2 (m.getD 0 ⟨#[]⟩) sf (by omega);have i2:iy 1 (m.length:ax) (m.length:ax)=true:=by simp[iy];omega
       have GK:m.tail.length=3:=by rw[Wq];omega
       have rz2:cg (bM (aN [Ck.s] 0)+m.tail.length) 16=true:=Lib.b_ (by rw[GK];decide) (by rw[GK];decide);simp only[ay,aG (show(0:ax)<(m.length:ax)by omega),i2,au,rz2,CO,Lib.b_ (n:=m.tail.length+1) (b:=16) (by omega) (by omega),g2.1,g2.2];cases decide (mC.val (dt.val s a key).1 (dt.val s a key).2 ((w++[key]).getD 0 ⟨#[]⟩)>mC.val (dt.val s a key).1 (dt.val s a key).2 (m.getD 0 ⟨#[]⟩))<;>rfl
def lens(s:aC (aC ax)):aC aE:=s.map bM
theorem EG(s:aC (aC ax))(key:aq):lens (dt.Dx s key)=lens s:=by
 unfold lens dt.Dx;apply jM
 ·simp
 ·intro i h1 h2;simp[dt.bq]
theorem O6(s:aC (aC ax)):lens (dt.half s)=lens s:=by unfold lens dt.half;rw[mg];apply PS;intro q _;simp
theorem Xv(s:aC (aC ax))(a:ax)(key:aq):lens (dt.val s a key).1=lens s:=by
 unfold dt.val;cases fJ.n7 s a with
 |false=>rfl
 |true=>
  cases decide (a+1=64)with
  |false=>exact EG s key
  |true=>exact(O6 _).trans (EG s key)
theorem LI(w m:aC aq)(s:aC (aC ax))(a:ax)(key:aq):(val w m s a key).1.length<=w.length+1/\(val w m s a key).2.1.length<=m.length+1/\lens (val w m s a key).2.2.1=lens s:=by
 have hw:=ir (l:=w) (k:=key);have hm:=ir (l:=m) (k:=key);have hs:=Xv s a key;unfold val;cases sM w m s a&&eU key with
 |false=>exact⟨by rw[ay];exact js _,by rw[ay];exact js _,rfl⟩
 |true=>
  rw[au];cases has w key with
  |true=>refine⟨?_, ?_,hs⟩<;>(simp only[au];simp;try omega)
  |false=>
   cases has m key with
   |true=>refine⟨?_, ?_,hs⟩<;>(simp only[au,ay];simp;try omega)
   |false=>
    cases decide ((w++[key]).length<=2)with
    |true=>refine⟨?_, ?_,hs⟩<;>(simp only[au,ay];simp;try omega)
    |false=>
     cases decide (m.length<4)with
     |true=>refine⟨?_, ?_,hs⟩<;>(simp only[au,ay];simp;try omega)
     |false=>
      cases decide (mC.val (dt.val s a key).1 (dt.val s a key).2 ((w++[key]).getD 0 ⟨#[]⟩)>mC.val (dt.val s a key).1 (dt.val s a key).2 (m.getD 0 ⟨#[]⟩))with
      |true=>refine⟨?_, ?_,hs⟩<;>(simp only[au,ay];simp;try omega)
      |false=>refine⟨?_, ?_,hs⟩<;>(simp only[au,ay];simp;try omega)
end eV

namespace lU
open Lib (rr rs re rf rc Px En el)
open fg (has)
open gj (fc So fX mZ wQ drop_nil Cv tG Gq RU rL)
def C9(p:Px)(e:En):Px:=
 {p with
  w:=(eV.val p.w p.m p.s p.a e.k).1
  m:=(eV.val p.w p.m p.s p.a e.k).2.1
  s:=(eV.val p.w p.m p.s p.a e.k).2.2.1
  a:=(eV.val p.w p.m p.s p.a e.k).2.2.2.1
  en:=bif has (eV.val p.w p.m p.s p.a e.k).1 e.k||has (eV.val p.w p.m p.s p.a e.k).2.1 e.k then mZ (fX p.en (eV.val p.w p.m p.s p.a e.k).2.2.2.2) e else fX p.en (eV.val p.w p.m p.s p.a e.k).2.2.2.2}
theorem aln{en:aC En}{w m:aC aq}(h:(cR en.length).all (nH.Hw en w m)=ai):So en/\∀e∈en,1<=e.k.size:=by
 rw[bu]at h;have h1:∀i (hi:i<en.length),nH.Hw en w m i=true:=λi hi=>h i (by simpa using hi);constructor
 ·have adj:∀d i (hi:i+d+1<en.length),fc (el en i).k (el en (i+d+1)).k=true:=by
   intro d;induction d with
   |zero=>
    intro i hi;have:=h1 (i+1) (by omega);unfold nH.Hw at this;rw[aL,aL,dM]at this;rcases this.2.1 with h|h
    ·have:=cm h;omega
    ·exact h
   |succ d ih=>
    intro i hi;have a:=ih i (by omega);have:=h1 (i+d+1+1) (by omega);unfold nH.Hw at this;rw[aL,aL,dM]at this;rcases this.2.1 with h|h
    ·have:=cm h;omega
    ·exact lH.o4 _ _ _ a h
  unfold So;rw[dB];intro i j hi hj OQ;have:=adj (j-i-1) i (by omega);rw[show i+(j-i-1)+1=j by omega,fF hi,fF hj]at this;exact this
 ·intro e he;obtain⟨i,hi,rfl⟩:=c8 he;have:=h1 i hi;unfold nH.Hw nH.uX at this;rw[aL,fF hi]at this;exact(nk.ES this.1).1.1
theorem G3{p:Px}(h:qK.jw p=ai):So p.en/\(∀e∈p.en,1<=e.k.size)/\p.en.length<=6/\p.w.length<=2/\p.m.length<=4/\p.fe.length<=20/\p.cl.length<=6/\(1<=p.now/\p.now<=1000000000)/\(0<=p.hits/\p.hits<=1000000000)/\jP.sM p.w p.m p.s p.a=ai/\(∀i,i<p.fe.length->nI.nA p.now (el p.fe i)=ai):=by
 unfold qK.jw at h;simp only[aL,bg]at h;obtain⟨h1,h2,h3,h4,h5,h6,h7⟩:=h;unfold nH.MQ at h2;simp only[aL,bg]at h2;obtain⟨g1,g2,g3⟩:=h2;obtain⟨s1,s2⟩:=aln g1;obtain⟨_,q2,q3,_⟩:=eV.Cz g2;refine⟨s1,s2,by omega,q2,q3,h3,h4,h1,h5,g2,λi hi=> ?_⟩
 rw[bu]at h6;have:=h6 i (by simpa using hi);rw[aL]at this;exact this.1
theorem jI{p:Px}(h:qK.jw p=ai):p.Fit 48:=by
 obtain⟨_,_,a1,a2,a3,a4,a5,_,_,hp,_⟩:=G3 h;obtain⟨_,_,_,hs⟩:=eV.Cz hp;unfold fJ.n7 at hs;simp only[aL,bg,bu]at hs;obtain⟨s1,_,s3⟩:=hs;have s4:∀q∈p.s,q.length=16:=λq hq=>by have:=s3 q hq;unfold fJ.sd at this;rw[aL,bg]at this;exact this.1
 refine⟨by omega,by omega,by omega,⟨by omega,λq hq=>by rw[s4 q hq];omega, ?_⟩,by omega,by omega⟩
 have:p.s.map bM=List.replicate 3 16:=by
  rw[List.eq_replicate_iff];refine⟨by rw[bR,s1],λx hx=> ?_⟩
  obtain⟨q,hq,rfl⟩:=cX.1 hx;exact s4 q hq
 rw[this];decide
end lU

namespace u0
open Lib (Px Cl Fe En el)
open ig (vk told)
def lF(f:Fe):En:=⟨f.k,f.st,f.li,f.t⟩
def cls(p:Px)(f:ax)(life:ax):Px×aW:=
 bif vk p f&&decide (0<=life/\life<=999999)then
  (bif decide (life>0)then lU.C9 (told p f.toNat {el p.fe f.toNat with sta:=2,li:=life,st:=p.now} 2) (lF {el p.fe f.toNat with sta:=2,li:=life,st:=p.now})
   else told p f.toNat {el p.fe f.toNat with sta:=2,li:=life,st:=p.now} 2,ai)
 else(p,ak)
theorem Ie{p:Px}{f life:ax}:(cls p f life).1.now=p.now/\(cls p f life).1.hits=p.hits:=by
 unfold cls;cases vk p f&&decide (0<=life/\life<=999999)with
 |false=>exact⟨rfl,rfl⟩
 |true=>cases decide (life>0)<;>exact⟨rfl,rfl⟩
end u0

namespace je
open Lib (Px Cl Fe En el rc rf re)
open fg (has without)
open jP (eU)
open qK (jw)
open gj (So fX)
def tf(e:En)(now:ax):aW:=Ge.v e.k e.st e.li e.bo now
def jn(l:aC Cl)(c:Cl):aC Cl:=l.filter (λx=>decide (x.id<c.id))++[c]++l.filter (λx=>decide (x.id>c.id))
def mr(l:aC Cl)(id:ax):aW:=l.any λx=>decide (x.id=id)
def Kr(l:aC En)(key:aq):az En:=l.find? λe=>decide (e.k=key)
def HA(key:aq)(f:Fe):aW:=decide (f.k=key)&&decide (f.sta=1)
def P8(l:aC Fe)(key:aq):az aE:=l.findIdx? (HA key)
def uY(key:aq):Fe:=⟨key,⟨#[]⟩,1,0,0⟩
def put(p:Px)(id:ax)(key:aq)(h:aW)(fe:aC Fe)(i:aE):Px:=
 {p with en:=bif h then fX p.en key else p.en,w:=bif h then without p.w key else p.w,m:=bif h then without p.m key else p.m,s:=(dt.val p.s p.a key).1,a:=(dt.val p.s p.a key).2,fe:=fe,cl:=jn p.cl ⟨id,key,(i:ax)+1,0,1,(el fe i).t,0⟩}
def vZ(p:Px)(id:ax)(key:aq)(h:aW):Px×ax:=
 match P8 p.fe key with
 |some i=>(put p id key h p.fe i,0)
 |none=>bif decide (p.fe.length<20)then(put p id key h (p.fe++[uY key]) p.fe.length,0)else(p,2)
def hit(p:Px)(id:ax)(key:aq)(e:En):Px:=
 {p with w:=(eV.val p.w p.m p.s p.a key).1,m:=(eV.val p.w p.m p.s p.a key).2.1,s:=(eV.val p.w p.m p.s p.a key).2.2.1,a:=(eV.val p.w p.m p.s p.a key).2.2.2.1,cl:=jn p.cl ⟨id,key,0,e.st,2,e.bo,p.now-e.st⟩,hits:=bif decide (p.hits<1000000000)then p.hits+1 else p.hits}
def ask(p:Px)(id:ax)(key:aq):Px×ax:=
 bif jw p&&(decide (1<=id/\id<=9)&&(eU key&&(!mr p.cl id&&decide (p.cl.length<6))))then
  match Kr p.en key with
  |some e=>bif tf e p.now then(hit p id key e,0)else vZ p id key ai
  |none=>vZ p id key ak
 else(p,1)
theorem Kx{α:Type}(l:aC α)(q:α->aW)(p:aE->aW)(h:∀i (hi:i<l.length),p i=q l[i]):decide (Lib.fi p l.length 0≥0)=l.any q:=by
 rcases Lib.o_ p l.length 0 with ⟨e,ha⟩|⟨k,_,hk,e,hp,_⟩
 ·rw[e,aK (by omega)];symm;rw[Z1];intro x hx;obtain⟨i,hi,rfl⟩:=c8 hx;rw[<-h i hi,ha i (by omega) (by omega)];simp
 ·rw[e,aG (by omega)];symm;rw[List.any_eq_true];exact⟨_,bA (by omega:k<l.length),by rw[<-h k (by omega)];exact hp⟩
theorem A_{α:Type}[Inhabited α](l:aC α)(q:α->aW)(p:aE->aW)(h:∀i (hi:i<l.length),p i=q l[i]):
  (Lib.fi p l.length 0= -1/\l.find? q=aj/\l.findIdx? q=aj)\/∃i,i<l.length/\Lib.fi p l.length 0=(i:ax)/\l.find? q=ah (el l i)/\l.findIdx? q=ah i:=by
 rcases Lib.o_ p l.length 0 with ⟨e,ha⟩|⟨k,_,hk,e,hp,hb⟩
 ·have hn:∀x∈l,q x=false:=λx hx=>by obtain⟨i,hi,rfl⟩:=c8 hx;rw[<-h i hi,ha i (by omega) (by omega)]
  refine .inl ⟨e,Wn.2 λx hx=>by rw[hn x hx];simp,D1.2 hn⟩
 ·have vf:k<l.length:=by omega
  have f:l.findIdx? q=ah k:=yt.2 ⟨vf,by rw[<-h k vf];exact hp,λj hj=>by rw[<-h j (by omega),hb j (by omega) hj];simp⟩;refine .inr ⟨k,vf,e, ?_,f⟩;rw[Ai];exact⟨by rw[fF vf,<-h k vf];exact hp,k,vf,(fF vf).symm,λj hj=>by rw[<-h j (by omega),hb j (by omega) hj];rfl⟩
def lid(id:ax)(y:aC CV):aW:=decide (bI (y.getD 0 (.b ak))<id)
theorem SR{l:aC Cl}{c:Cl}(cs:l.Pairwise λa b=>a.id<b.id)(hn:mr l c.id=ak):
  (rc l).take ((rc l).takeWhile (lid c.id)).length++[Cl.row c]++(rc l).drop ((rc l).takeWhile (lid c.id)).length=rc (jn l c):=by
 rw[xX,wR];have iw:∀y∈l,y.id≠c.id:=λy hy e=>by unfold mr at hn;rw[Z1]at hn;exact hn y hy (aG e)
 obtain⟨t1,t2⟩:=Lib.zH (λx:Cl=>decide (x.id<c.id)) (λx=>decide (x.id>c.id)) l (λy hy=>by
  have:=iw y hy;by_cases h:y.id<c.id
  ·rw[aG h,aK (by omega)];rfl
  ·rw[aK h,aG (by omega)];rfl) (cs.imp λ{a b} hab h=>aG (by have:=cm h;omega))
 unfold Lib.rc;rw[Oe,Od];have e:lid c.id∘Cl.row=λx:Cl=>decide (x.id<c.id):=rfl;rw[e,t1,t2];unfold jn;rw[dh,dh];rfl
end je

namespace wB
open Lib (rd el Fi)
open dH (sF jU)
def kN(left:aQ)(i:aE)(f:Fi):ax:=bif decide (i<left.length)then im ai f.kp (im ak (bI (ar left i 0)) (f.t.size:ax))else f.kp
def Ow(left:aQ)(i:aE)(f:Fi):Fi:=⟨f.n,f.t.extract 0 (kN left i f).toNat,kN left i f⟩
def K3(d:aC Fi)(left:aQ):az (aC Fi):=bif sF d then ah (d.mapIdx (Ow left))else aj
theorem KW(left:aQ)(i:aE){f:Fi}(h:0<=f.kp/\f.kp<=(f.t.size:ax)):f.kp<=kN left i f/\kN left i f<=(f.t.size:ax):=by
 unfold kN im;cases decide (i<left.length)with
 |false=>rw[ay];omega
 |true=>simp only[au,ay];split<;>split<;>omega
theorem ok(d:aC Fi)(left:aQ)(hd:d.length<=1000):c (rd d) left=ai/\v (rd d) left=rq.res (K3 d left):=by
 refine out _ _ ?_;unfold vo b K3;have h1:=rq.YL d (by omega);have h2:=sU.ok (rd d) (by rw[er];omega);rw[h1.1,h1.2,au];cases hk:sF d with
 |false=>rfl
 |true=>
 rw[aY,ay,h2.1,h2.2,au,au,er];obtain⟨q1,q2,q3⟩:=jU.1 hk;have rn:∀f∈d,0<=f.kp/\f.kp<=(f.t.size:ax):=λf hf=>by have:=q2 f hf;unfold dH.nA at this;simp only[aL,bg,dv,e_]at this;exact this.2.2
 refine nE Fi.row d (Ow left) (λm (i:aE) (x:aQ)=>l5 Lib.cU (λ(_ _:aQ) (_ _:ax) (y9:aQ)=>ah (y9,ai)) m left (rd d) (d.length:ax) (i:ax) x) (λx=>ah (x,ai)) (λm i L h h2 hl he=> ?_) (λm L hl=> ?_) Lib.cU (cC (by omega))
 ·have hr:=KW left i (rn _ (bA h));have h0:=(rn _ (bA h)).1;have hLl:(L.map Fi.row).length=L.length:=bR ..;have hs:∀n:ax,n=kN left i d[i]->eA (L.map Fi.row) i 0 [CV.s d[i].n,CV.s (d[i].t.extract (aZ 0) n.toNat),CV.i ao n]=(L.set i (Ow left i d[i])).map Fi.row:=λn hn=>by subst hn;exact kO Fi.row L i 0 _ (Ow left i d[i]) h2 (by rw[he];rfl)
  have ci:∀k n,bI (CV.i k n)=n:=λ_ _=>rfl;have cs:∀x,bn (CV.s x)=x:=λ_=>rfl;by_cases hi:i<left.length
  ·have e:kN left i d[i]=im ai d[i].kp (im ak (bI (ar left i 0)) (d[i].t.size:ax)):=by unfold kN;rw[aG hi];rfl
   have ib:iy 0 (im ai d[i].kp (im ak (bI (ar left i 0)) (d[i].t.size:ax))) (d[i].t.size:ax)=true:=by rw[<-e];simp[iy];omega
   simp only[l5,r5,Lib.dn,h,hi,h2,hLl,er,aP,Lib.cE,aM,au,Lib.dZ,Jj h,VY h,VZ h,cs,ci,ib,hs _ e.symm,Lib.c6 h (by omega:d.length<=9223372036854775807)]
  ·have e:kN left i d[i]=d[i].kp:=by unfold kN;rw[aK hi];rfl
   have ib:iy 0 d[i].kp (d[i].t.size:ax)=true:=by have:=rn _ (bA h);simp[iy];omega
   simp only[l5,r5,Lib.dn,h,hi,h2,hLl,er,aP,bf,Lib.cE,aM,au,ay,Lib.dZ,Jj h,VY h,VZ h,cs,ci,ib,hs _ e.symm,Lib.c6 h (by omega:d.length<=9223372036854775807)]
 ·simp only[l5,r5,Lib.dn,bm,bf,ay]
end wB

namespace jF
def eo(l:aQ)(i:aE):aW:=nk.v (bn (ar l i 0)) (bI (ar l i 1)) (bI (ar l i 2)) (bn (ar l i 3))
def tx(l:aQ)(i:aE):aq:=jE.sH (bn (ar l i 0)) (bI (ar l i 1)) (bI (ar l i 2)) (bn (ar l i 3))
def fs(l:aQ):aE->aE->aq->az aq
 |0,_,acc=>ah acc
 |d+1,i,acc=>if eo l i=ai then fs l d (i+1) (acc++fH.fr (tx l i))else aj
theorem Gz(l:aQ)(d i:aE)(acc:aq):fs l (d+1) i acc=if eo l i=ai then fs l d (i+1) (acc++fH.fr (tx l i))else none:=rfl
def fin(o:az aq)(kf:az R)(kt:aq->az R):az R:=match o with|some x=>kt x|none=>kf
theorem MK(l:aQ)(hl:l.length<=1048576)(F:aE->aE->aq->az R)(kf:az R)(kt:aq->az R)
  (hT:∀m i acc,i<l.length->acc.size<=2000*i->(fH.fr (tx l i)).size<=2000->eo l i=ai->F (m+1) i acc=F m (i+1) (acc++fH.fr (tx l i)))
  (hF:∀m i acc,i<l.length->eo l i=ak->F (m+1) i acc=kf) (hE:∀m acc,F (m+1) l.length acc=kt acc):F Lib.cU 0 ⟨#[]⟩=fin (fs l l.length 0 ⟨#[]⟩) kf kt:=by
 have:=Lib.fQ (λn (z:aE×aq)=>F n z.1 z.2) (λz=>l.length-z.1) (λz=>z.1<=l.length/\z.2.size<=2000*z.1) (λz=>fin (fs l (l.length-z.1) z.1 z.2) kf kt) (λm z hz=>by
  obtain⟨i,acc⟩:=z;obtain⟨h1,h2⟩:=hz;dsimp only at h1 h2⊢;by_cases h:i<l.length
  ·have e:l.length-i=(l.length-(i+1))+1:=by omega
   cases ho:eo l i with
   |true=>
    right;have hs:=mN.tN ho;have hf:(fH.fr (tx l i)).size<=2000:=by have:=fH.WW (t:=tx l i) (by unfold tx;omega);unfold tx at this⊢;omega
    exact⟨(i+1,acc++fH.fr (tx l i)),⟨h,by dsimp only;rw[Lib.j8];omega⟩,by dsimp only;omega,by dsimp only;rw[e,Gz,bw ho],hT m i acc h h2 hf ho⟩
   |false=>left;rw[hF m i acc h ho,e,Gz,bG (by simp[ho])];rfl
  ·left;have:i=l.length:=by omega
   subst this;rw[hE,Nat.sub_self];rfl) Lib.cU (0,⟨#[]⟩) ⟨bB _,bB _⟩ (cC (by dsimp only;omega))
 simpa using this
def nm:aq:={data:= #[aw 110,aw 101,aw 119]}
def j6(has:aW)(x:aq):aQ:=(if has=ai then [[CV.i ao 4,CV.s nm,CV.s {data:= #[]},CV.s {data:= #[]}]]else [])++[[CV.i ao 1,CV.s nm,CV.s x,CV.s {data:= #[]}],[CV.i ao 2,CV.s nm,CV.s {data:= #[]},CV.s {data:= #[]}],[CV.i ao 3,CV.s nm,CV.s {data:= #[]},CV.s {data:= #[aw 107,aw 101,aw 112,aw 116]}]]
def val(d l:aQ):aQ×aW:=bif gO.val d then(match fs l l.length 0 ⟨#[]⟩with|some x=>(j6 (vO.val d nm).2 x,ai)|none=>([],ak))else([],ak)
theorem ok(d l:aQ)(hd:d.length<=1048576)(hl:l.length<=1048576):c d l=ai/\v d l=val d l:=by
 refine out d l ?_;have k1:=gO.ok d (by omega);have k2:=vO.ok d {data:= #[aw 110,aw 101,aw 119]} (by omega);have e2:vO.val d {data:= #[aw 110,aw 101,aw 119]}=vO.val d nm:=rfl;unfold vo b val;rw[k1.1,k1.2,au];cases gO.val d with
 |false=>rfl
 |true=>
  rw[aY,ay,au,k2.1,au,k2.2,e2];have tr:∀(K0:aQ->aW->aq->ax->aQ->aQ->az (aQ×aW)) (K1:aQ->aW->aq->ax->aQ->az (aQ×aW)) (base:aQ) (kt:aq->az (aQ×aW)) (h0:∀x i,K0 l ak x i [] base=ah ([],ak)) (h1:∀x i,K1 l ak x i base=kt x),l9 Lib.cU K0 K1 Lib.cU l ak ⟨#[]⟩ 0 base=fin (fs l l.length 0 ⟨#[]⟩) (ah ([],ak)) kt:=by
   intro K0 K1 base kt h0 h1;refine MK l hl (λm i acc=>l9 Lib.cU K0 K1 m l ak acc (i:ax) base) _ kt (λm i acc hi ha hf ho=> ?_) (λm i acc hi ho=> ?_) (λm acc=> ?_)
   ·have j7:bH ((i:ax)+1)=((i+1:aE):ax):=c9 (by omega) (by omega);have t1:jE.v (bn (ar l i 0)) (bI (ar l i 1)) (bI (ar l i (1+1))) (bn (ar l i (1+1+1)))=(tx l i,ai):=by unfold jE.v;exact bw ho
    have f1:=fH.ok (tx l i);have f2:fH.val (tx l i)=(fH.fr (tx l i),ai):=by unfold fH.val;have q1:=mN.Bm ho;have q2:=mN.tN ho;rw[bw ⟨q1,dg q2 (by omega)⟩]
    simp only[l9,r9,Lib.dn,Lib.cE,Lib.dZ,hi,aP,aM,au,ay,t1,f1.1,f1.2,f2,aY,aG (show acc.size+(fH.fr (tx l i)).size<=4611686018427387904 by omega),j7]
   ·have t1:jE.v (bn (ar l i 0)) (bI (ar l i 1)) (bI (ar l i (1+1))) (bn (ar l i (1+1+1)))=(⟨#[]⟩,ak):=by unfold jE.v;rw[bG (by intro h;have h':eo l i=true:=h;rw[ho]at h';cases h')]
    have f1:=fH.ok ⟨#[]⟩;simp only[l9,r9,Lib.dn,Lib.cE,Lib.dZ,hi,aP,aM,au,t1,f1.1,bQ];exact h0 acc i
   ·simp only[l9,r9,Lib.dn,bm,bf,ay];exact h1 acc _
  cases hh:(vO.val d nm).2 with
  |true=>rw[au];refine(tr _ _ _ (λx=>ah (j6 ai x,ai)) (λ_ _=>rfl) (λ_ _=>rfl)).trans ?_;cases fs l l.length 0 ⟨#[]⟩<;>rfl
  |false=>rw[ay];refine(tr _ _ _ (λx=>ah (j6 ak x,ai)) (λ_ _=>rfl) (λ_ _=>rfl)).trans ?_;cases fs l l.length 0 ⟨#[]⟩<;>rfl
end jF

namespace pH
open Lib (re rd el En Fi)
open iY (kd kp Em tx Hy base bt qL auA)
open dH (j6 act sF nA put without GU ra Ac)
open gj (So mZ fc)
open wB (K3 Ow kN KW)
abbrev qM:aq:={data:= #[aw 110,aw 101,aw 119]}
def sW(x:aq):aC Ac:=[⟨1,qM,x,⟨#[]⟩⟩,⟨2,qM,⟨#[]⟩,⟨#[]⟩⟩,⟨3,qM,⟨#[]⟩,qL⟩]
theorem RZ(T:aq):T.extract 0 T.size=T:=Lib.Gr T
theorem O7{d:aC Fi}(h:sF d=ai)(hk:∀f∈d,f.kp=(f.t.size:ax))(left:aQ):K3 d left=ah d:=by
 unfold K3;rw[h,au];congr 1;apply jM (by simp);intro i h1 h2;rw[List.getElem_mapIdx];have hf:=hk _ (bA h2);have hr:=KW left i (f:=d[i]) ⟨by omega,by omega⟩;have e:kN left i d[i]=(d[i].t.size:ax):=by omega
 unfold Ow;rw[e,eQ,RZ];cases hd:d[i];rw[hd]at hf;dsimp only at hf⊢;rw[hf]
theorem Ol(o:az aq):∀f∈base o,f.kp=(f.t.size:ax):=λf hf=>by
 cases o with
 |none=>cases hf
 |some t=>rw[a_.1 hf]
theorem less:fc qL qM=true:=by unfold fc;rw[kh,kh];rfl
theorem aq_(t:aq)(k:ax)(h1:t.size<=20000)(h2:0<=k/\k<=(t.size:ax)):nA ⟨qM,t,k⟩=true:=by unfold nA;have:((qM.size:aE):ax)=3:=rfl;rw[this,aG (by omega),aG h2,aK (by dsimp only;omega)];rfl
theorem Hf{o:az aq}{x:aq}{k:ax}(h:(bt o).size<=20000)(hx:x.size<=20000)(hk:0<=k/\k<=(x.size:ax)):sF (base o++[⟨qM,x,k⟩])=true:=by
 refine dH.jU.2 ⟨?_,λf hf=> ?_, ?_⟩
 ·cases o<;>simp[base]
 ·rcases bc.1 hf with hf|hf
  ·exact(dH.jU.1 (iY.ue h)).2.1 f hf
  ·rw[a_.1 hf];exact aq_ x k hx hk
 ·cases o with
  |none=>exact Hq ..
  |some t=>exact qn.2 ⟨λy hy=>by rw[a_.1 hy];exact less,Hq ..⟩
theorem nKN:qL≠qM:=by decide
theorem R3(o:az aq)(x:aq)(k:ax):(base o++[(⟨qM,x,k⟩:Fi)]).find? (λy=>decide (y.n=qM))=ah ⟨qM,x,k⟩:=by
 cases o with
 |none=>rfl
 |some t=>rw[show base (ah t)++[(⟨qM,x,k⟩:Fi)]=[⟨qL,t,t.size⟩,⟨qM,x,k⟩]from rfl,J0 (by simp[nKN]),List.find?_cons_of_pos (by simp)]
theorem aju(o:az aq):(base o).find? (λy=>decide (y.n=qM))=none:=by
 cases o with
 |none=>rfl
 |some t=>rw[show base (ah t)=[⟨qL,t,t.size⟩]from rfl,J0 (by simp[nKN]),List.find?_nil]
theorem alb(o:az aq)(x:aq)(k:ax):put (base o) ⟨qM,x,k⟩=base o++[⟨qM,x,k⟩]:=by
 cases o with
 |none=>rfl
 |some t=>unfold put;rw[show base (ah t)=[⟨qL,t,t.size⟩]from rfl,dC (by simpa using less),cy (by simp[less])];rfl
theorem afH(o:az aq)(x y:aq)(k m:ax):put (base o++[⟨qM,y,m⟩]) ⟨qM,x,k⟩=base o++[⟨qM,x,k⟩]:=by
 cases o with
 |none=>exact iY.xJ rfl
 |some t=>unfold put;rw[show base (ah t)++[(⟨qM,y,m⟩:Fi)]=[⟨qL,t,t.size⟩,⟨qM,y,m⟩]from rfl,dC (by simpa using less),cy (by rw[dH.irrefl];simp),cy (by simp[less]),cy (by simp)];rfl
theorem mov(o:az aq)(x:aq)(k:ax):put (without (base o++[⟨qM,x,k⟩]) qM) ⟨qL,x,k⟩=[⟨qL,x,k⟩]:=by
 have:without (base o++[⟨qM,x,k⟩]) qM=base o:=by
  unfold without;rw[ik,cy (by simp),List.filter_nil,dj,eE];intro f hf;cases o with
  |none=>cases hf
  |some t=>rw[a_.1 hf];simp[nKN]
 rw[this];cases o with
 |none=>rfl
 |some t=>exact iY.xJ rfl
theorem a1{o:az aq}{x:aq}(h:(bt o).size<=20000)(hx:x.size<=20000):act (base o) 1 qM x ⟨#[]⟩=ah (base o++[⟨qM,x,0⟩]):=by
 unfold act;rw[iY.ue h,show dH.j5 1 x ⟨#[]⟩=ai from by unfold dH.j5;simp,aM,au];have hn:GU (base o) 1 qM x ⟨#[]⟩=ah (base o++[⟨qM,x,0⟩]):=by unfold GU;rw[aju];dsimp only;rw[bw rfl,alb]
 rw[hn];dsimp only;rw[Hf h hx ⟨by omega,by omega⟩];rfl
theorem a2{o:az aq}{x:aq}(h:(bt o).size<=20000)(hx:x.size<=20000):act (base o++[⟨qM,x,0⟩]) 2 qM ⟨#[]⟩ ⟨#[]⟩=ah (base o++[⟨qM,x,x.size⟩]):=by
 unfold act;rw[Hf h hx ⟨by omega,by omega⟩,show dH.j5 2 ⟨#[]⟩ ⟨#[]⟩=ai from by unfold dH.j5;simp,aM,au];have hn:GU (base o++[⟨qM,x,0⟩]) 2 qM ⟨#[]⟩ ⟨#[]⟩=ah (base o++[⟨qM,x,x.size⟩]):=by unfold GU;rw[R3];dsimp only;rw[bG (by omega),bw rfl,afH]
 rw[hn];dsimp only;rw[Hf h hx ⟨by omega,by omega⟩];rfl
theorem a3{o:az aq}{x:aq}(h:(bt o).size<=20000)(hx:x.size<=20000):act (base o++[⟨qM,x,x.size⟩]) 3 qM ⟨#[]⟩ qL=ah (base (ah x)):=by
 unfold act;rw[Hf h hx ⟨by omega,by omega⟩,show dH.j5 3 ⟨#[]⟩ qL=ai from by unfold dH.j5;simp,aM,au];have hn:GU (base o++[⟨qM,x,x.size⟩]) 3 qM ⟨#[]⟩ qL=ah (base (ah x)):=by unfold GU;rw[R3];dsimp only;rw[bG (by omega),bG (by omega),bw rfl,bG (by rintro (h|h);exact h rfl;exact nKN h),mov];rfl
 rw[hn];dsimp only;rw[iY.ue (o:=ah x) hx];rfl
theorem aq0{o:az aq}{x:aq}(h:(bt o).size<=20000)(hx:x.size<=20000):j6 (base o) 0 (sW x)=(base (ah x),3):=by unfold sW j6;dsimp only;rw[a1 h hx];dsimp only;unfold j6;dsimp only;rw[a2 h hx];dsimp only;unfold j6;dsimp only;rw[a3 h hx];rfl
theorem aeh(l:aC En)(OO:∀x∈l,Em x=ai):∀(d i:aE) (acc:aq),d+i=l.length->jF.fs (re l) d i acc=ah (acc++tx (l.drop i)):=by
 intro d;induction d with
 |zero=>
  intro i acc h;have:i=l.length:=by omega
  subst this;rw[di];exact lI ah (qi).symm
 |succ d ih=>
  intro i acc h;have hi:i<l.length:=by omega
  have h0:jF.eo (re l) i=true:=by unfold jF.eo;rw[pz hi,rR hi,show ar (re l) i 2=CV.i ao (el l i).li from rS hi,show ar (re l) i 3=CV.s (el l i).bo from rT hi];exact OO _ (mh hi)
  have h1:jF.tx (re l) i=iY.sH l[i]:=by unfold jF.tx;rw[pz hi,rR hi,show ar (re l) i 2=CV.i ao (el l i).li from rS hi,show ar (re l) i 3=CV.s (el l i).bo from rT hi,fF hi];rfl
  rw[jF.Gz,bw h0,h1,ih (i+1) _ (by omega),dD hi,C0];rfl
end pH

namespace km
open Lib (En Fi Px Cl Fe el re rd rf rc rs rr)
open gj (So mZ)
open dH (sF j6 Ac ra)
open iY (sH Em Hy tx kp base bt sa)
open pH (sW)
open wB (K3)
def dk(o:az (aC En)):aC Fi:=base (o.map tx)
def es(o:az (aC En)):aC En:=o.getD []
theorem H3(o:az (aC En)):bt (o.map tx)=tx (es o):=by cases o<;>rfl
theorem BV(o:az (aC En)):(dk o).length<=1:=by cases o<;>simp[dk,base]
theorem Ij{o:az (aC En)}(h:(tx (es o)).size<=20000):sF (dk o)=true:=iY.ue (by rw[H3];exact h)
theorem WH{o:az (aC En)}(h:(tx (es o)).size<=20000)(left:aQ):K3 (dk o) left=ah (dk o):=pH.O7 (Ij h) (pH.Ol _) left
theorem Z_{o:az (aC En)}(h:(tx (es o)).size<=20000)(he:∀e∈es o,Em e=ai):(U61.c (rd (dk o))=ai/\U61.v (rd (dk o))=re (kp (es o)))/\(Hr.c (rd (dk o))=ai/\Hr.v (rd (dk o))=re (kp (es o))):=by refine iY.fk (dk o) (es o) ⟨#[]⟩ (Ij h) ?_ he (.inl rfl);unfold dk;rw[iY.Oj,H3];exact(qi).symm
theorem MO{o:az (aC En)}{e:En}(h:(tx (es o)).size+(Hy e).size<=20000):j6 (dk o) 0 (sa (Hy e))=(dk (ah (es o++[e])),2):=by unfold dk;rw[iY.SU (by rw[H3];exact h),H3,jc,iY.Zg]
theorem MN{o:az (aC En)}{l:aC En}(h:(tx (es o)).size<=20000)(hl:(tx l).size<=20000):j6 (dk o) 0 (sW (tx l))=(dk (ah l),3):=pH.aq0 (by rw[H3];exact h) hl
theorem Z9{o:az (aC En)}{l:aC En}(hs:(tx (es o)).size<=20000)(OO:∀x∈l,Em x=ai):jF.val (rd (dk o)) (re l)=(ra (sW (tx l)),ai):=by
 unfold jF.val;rw[show gO.val (rd (dk o))=ai from Ij hs,au,dA,pH.aeh l OO l.length 0 ⟨#[]⟩ (by omega),fu];have xA:(vO.val (rd (dk o)) jF.nm).2=false:=by unfold dk;rw[iY.fileAt,show jF.nm=pH.qM from rfl,pH.aju]
 dsimp only;rw[xA,show(⟨#[]⟩:aq)++tx l=tx l from lJ];rfl
end km

namespace fL
open Lib (rr rs re rf rc Px En el)
open gj (So fX mZ fc)
open lU (C9)
def JE:aC ax:=[0,0,0,0,0,0,0,0,0,0,0,0,0,0,0,0]
def p0(now:ax):Px:=⟨now,[],[],[],[JE,JE,JE],0,[],[],0⟩
def tf(e:En)(now:ax):aW:=Ge.v e.k e.st e.li e.bo now
def one(now:ax)(p:Px)(e:En):Px:=bif tf e now then C9 p e else p
def se(now:ax)(l:aC En):Px:=l.foldl (one now) (p0 now)
structure Inv (now:ax) (i:aE) (p:Px):Prop where
 so:So p.en
 ks:∀e∈p.en,1<=e.k.size
 en:p.en.length<=i
 w:p.w.length<=i
 m:p.m.length<=i
 s:eV.lens p.s=[16,16,16]
 fe:p.fe=[]
 cl:p.cl=[]
 now:p.now=now
 hits:p.hits=0
theorem asg(now:ax):Inv now 0 (p0 now):=⟨gZ,λe h=>(nomatch h),cw _,cw _,cw _,rfl,rfl,rfl,rfl,rfl⟩
theorem S0{s:aC (aC ax)}(h:eV.lens s=[16,16,16]):s.length=3/\(∀q∈s,q.length=16)/\(s.map bM).sum=48:=by
 refine⟨?_,λq hq=> ?_, ?_⟩
 ·have:=lI bM h;unfold eV.lens at this;simpa using this
 ·have:q.length∈eV.lens s:=cX.2 ⟨q,hq,rfl⟩;rw[h]at this;simpa using this
 ·rw[show s.map bM=[16,16,16]from h];rfl
theorem Inv.fit{now:ax}{i:aE}{p:Px}(h:Inv now i p){n:aE}(hn:i<=n)(h48:48<=n):p.Fit n:=by
 obtain⟨a,b,c⟩:=S0 h.s;have hq:∀q∈p.s,q.length<=n:=λq hq=>by have:=b q hq;omega
 exact⟨dg h.en hn,dg h.w hn,dg h.m hn,⟨by omega,hq,by omega⟩,by rw[h.fe];exact bB _,by rw[h.cl];exact bB _⟩
theorem Inv.up{now:ax}{i:aE}{p:Px}(h:Inv now i p):Inv now (i+1) p:=⟨h.so,h.ks,m9 h.en,m9 h.w,m9 h.m,h.s,h.fe,h.cl,h.now,h.hits⟩
theorem zE{en:aC En}(h:So en)(e:En):So (mZ en e):=by have:=(lH.xE (gj.Cv h) e.k e.st e.li e.bo).1.1;rw[gj.tG]at this;unfold Lib.re at this;rw[kl]at this;exact this
theorem Inv.store{now:ax}{i:aE}{p:Px}(h:Inv now i p)(e:En)(he:1<=e.k.size):Inv now (i+1) (C9 p e):=by
 obtain⟨b1,b2,b3⟩:=eV.LI p.w p.m p.s p.a e.k;have hw:=h.w;have hm:=h.m;have hn:=h.en;refine⟨?_, ?_, ?_,dg b1 (by omega),dg b2 (by omega),b3.trans h.s,h.fe,h.cl,h.now,h.hits⟩
 ·show So (bif _ then mZ (fX p.en _) e else fX p.en _);cases fg.has (eV.val p.w p.m p.s p.a e.k).1 e.k||fg.has (eV.val p.w p.m p.s p.a e.k).2.1 e.k with
  |true=>exact zE (h.so.drop _) e
  |false=>exact h.so.drop _
 ·show∀x∈(bif _ then mZ (fX p.en _) e else fX p.en _),1<=x.k.size;have hd:∀x∈fX p.en (eV.val p.w p.m p.s p.a e.k).2.2.2.2,1<=x.k.size:=λx hx=>h.ks x (dG.1 hx).1;cases fg.has (eV.val p.w p.m p.s p.a e.k).1 e.k||fg.has (eV.val p.w p.m p.s p.a e.k).2.1 e.k with
  |true=>
   intro x hx;rw[au]at hx;unfold mZ at hx;rcases bc.1 hx with hx|hx
   ·rcases bc.1 hx with hx|hx
    ·exact hd x (dG.1 hx).1
    ·rw[a_]at hx;rw[hx];exact he
   ·exact hd x (dG.1 hx).1
  |false=>exact hd
 ·show(bif _ then mZ (fX p.en _) e else fX p.en _).length<=i+1;have d:=gj.wQ p.en (eV.val p.w p.m p.s p.a e.k).2.2.2.2;have q:=gj.rL (fX p.en (eV.val p.w p.m p.s p.a e.k).2.2.2.2) e (h.so.drop _);cases fg.has (eV.val p.w p.m p.s p.a e.k).1 e.k||fg.has (eV.val p.w p.m p.s p.a e.k).2.1 e.k with
  |true=>rw[au];omega
  |false=>rw[ay];omega
theorem zl{e:En}{now:ax}(h:tf e now=ai):nk.v e.k e.st e.li e.bo=true:=by
 unfold tf Ge.v at h;cases hq:nk.v e.k e.st e.li e.bo with
 |true=>rfl
 |false=>rw[show wz.v e.k e.st e.li e.bo=ak from hq]at h;cases h
theorem rE(now:ax)(l:aC En):∀i,i<=l.length->Inv now i (se now (l.take i)):=by
 intro i;induction i with
 |zero=>intro _;exact asg now
 |succ i ih=>
  intro hi;have h:=ih (by omega);have e:se now (l.take (i+1))=one now (se now (l.take i)) l[i]:=by unfold se;rw[cB (by omega),Aj];rfl
  rw[e];unfold one;cases hf:tf l[i] now with
  |true=>exact h.store _ (nk.ES (zl hf)).1.1
  |false=>exact h.up
theorem xO(now:ax)(l:aC En)(i:aE)(h:i<l.length):se now (l.take (i+1))=one now (se now (l.take i)) (el l i):=by unfold se;rw[cB h,Aj,fF h];rfl
end fL

namespace fI
open Lib (rr rs re rf rc Px)
theorem ok(p:Px)(hp:p.Fit 1048576):c p.now (re p.en) (rs p.w) (rs p.m) (rr p.s) p.a (rf p.fe) (rc p.cl) p.hits=ai/\v p.now (re p.en) (rs p.w) (rs p.m) (rr p.s) p.a (rf p.fe) (rc p.cl) p.hits=(p.now,re p.en,rs p.w,rs p.m,rr p.s,p.a,rf p.fe,rc p.cl,p.hits):=by have he:=hp.en;have hf:=hp.fe;have hc:=hp.cl;have h2:=gd.ok p.w p.m p.s p.a hp.w hp.m ⟨hp.s.1,hp.s.2.1⟩;exact out _ _ _ _ _ _ _ _ _ (by unfold vo b;rw[h2.1,h2.2,au,Lib.b_ (b:=48) (by simp[aN,dA];omega) (by simp[aN,dA];omega),Lib.b_ (b:=56) (by simp[aN,dP];omega) (by simp[aN,dP];omega),Lib.b_ (b:=72) (by simp[aN,e9];omega) (by simp[aN,e9];omega)];rfl)
end fI

namespace sr
open Lib (rr rs re rf rc Px)
def later(now n:ax):ax:=bif decide (now>1000000000-n%1000)then 1000000000 else bH (now+n%1000)
def val(p:Px)(n:ax):Px:={p with now:=later p.now n}
theorem tm(n:ax):(0<=cK n 1000->cK n 1000=n%1000)/\(cK n 1000<0->cK n 1000+1000=n%1000):=by
 rw[Int.tmod_eq_emod];by_cases h:0<=n\/(1000:ax)∣n
 ·rw[bw h];constructor<;>omega
 ·rw[bG h];have hd:¬(1000:ax)∣n:=λx=>h (.inr x);have:n%1000≠0:=λe=>hd (Int.dvd_of_emod_eq_zero e);constructor<;>simp<;>omega
theorem ok(p:Px)(n:ax)(hp:p.Fit 1048576):c p.now (re p.en) (rs p.w) (rs p.m) (rr p.s) p.a (rf p.fe) (rc p.cl) p.hits n=ai/\v p.now (re p.en) (rs p.w) (rs p.m) (rr p.s) p.a (rf p.fe) (rc p.cl) p.hits n=((val p n).now,re p.en,rs p.w,rs p.m,rr p.s,p.a,rf p.fe,rc p.cl,p.hits):=by
 have h:=fI.ok p hp;refine out _ _ _ _ _ _ _ _ _ _ ?_;have t:=tm n;unfold vo b val later;simp only[Lib.lt,h.1,h.2,au];by_cases hn:cK n 1000<0
 ·have e:=t.2 hn;rw[aG hn,au,e,c9 (x:=n%1000) (by omega) (by omega),c9 (x:=1000000000-n%1000) (by omega) (by omega)];cases decide (p.now>1000000000-n%1000)<;>rfl
 ·have e:=t.1 (by omega);rw[aK hn,ay,e,c9 (x:=1000000000-n%1000) (by omega) (by omega)];cases decide (p.now>1000000000-n%1000)<;>rfl
end sr

namespace uQ
open Lib (rr rs re rf rc Px Cl el PJ wc1 wc2 wc3 wc4 wc5 wc6)
def val(p:Px)(id:ax):Px:={p with cl:=p.cl.filter λc=> !decide (c.id=id)}
theorem ok(p:Px)(id:ax)(hp:p.Fit 1048576):c p.now (re p.en) (rs p.w) (rs p.m) (rr p.s) p.a (rf p.fe) (rc p.cl) p.hits id=ai/\v p.now (re p.en) (rs p.w) (rs p.m) (rr p.s) p.a (rf p.fe) (rc p.cl) p.hits id=(p.now,re p.en,rs p.w,rs p.m,rr p.s,p.a,rf p.fe,rc (val p id).cl,p.hits):=by
 have h:=fI.ok p hp;have hc:=hp.cl;refine out _ _ _ _ _ _ _ _ _ _ ?_;unfold vo b;simp only[Lib.lt,h.1,h.2,au];have key:=lY p.cl.length (λn (i:aE) (x:aQ)=>l4 Lib.cU (λ(_ _ _:ax) (_ _ _ _:aQ) (_:ax) (_ _:aQ) (_ _ _ _ y37 y38 y39:ax) (y40 y41 y42 y43 Vr y45:aQ)=>ah (y37,y40,y41,y42,y43,y38,Vr,y45,y39)) n id (i:ax) p.now (re p.en) (rs p.w) (rs p.m) (rr p.s) p.a (rf p.fe) (rc p.cl) p.hits 0 0 0 p.now p.a p.hits (re p.en) (rs p.w) (rs p.m) (rr p.s) (rf p.fe) x) (λi=>rc ((p.cl.take i).filter λc=> !decide (c.id=id))) (ah (p.now,re p.en,rs p.w,rs p.m,rr p.s,p.a,rf p.fe,rc (val p id).cl,p.hits)) (λn i hi=>by
  have hlen:((p.cl.take i).filter λc=> !decide (c.id=id)).length<=i:=by refine dg (eS ..) ?_;rw[eJ];omega
  have e:(p.cl.take (i+1)).filter (λc=> !decide (c.id=id))=(p.cl.take i).filter (λc=> !decide (c.id=id))++(bif !decide ((el p.cl i).id=id)then [el p.cl i]else []):=by rw[cB hi,ik,fF hi];cases hd:decide (p.cl[i].id=id)<;>simp[hd]
  rw[e];simp only[l4,r4,e9,Lib.dn,hi,aP,Lib.cE,aM,au,Lib.dZ,PJ hi,wc1 hi,wc2 hi,wc3 hi,wc4 hi,wc5 hi,wc6 hi,bn,bI,pF,bz,Lib.c6 hi (by omega:p.cl.length<=9223372036854775807)];rw[Lib.b_ (by omega) (by omega),au,show((el p.cl i).id !=id)= !decide ((el p.cl i).id=id)from rfl];cases decide ((el p.cl i).id=id)with
  |true=>rw[aY,ay,ay,dj]
  |false=>rw[bQ,au,au];unfold Lib.rc;rw[dh];rfl) (λn=>by
  simp only[l4,r4,e9,Lib.dn,bm,bf,ay,dK];rfl) Lib.cU 0 (bB _) (cC (by omega))
 exact key
end uQ

namespace g9
open Lib (En Fi Px Cl Fe el)
open iY (kp Em)
open u0 (cls lF)
open ig (Ei EO)
open je (mr)
open km (dk es)
structure Wo where
 p:Px
 o:az (aC En)
 cd:aC ax
 bd:aC En
structure Ev where
 k:ax
 id:ax
 t:aq
 n:ax
 l:aQ
def flag(b:aW):ax:=bif b then 0 else 1
def mR(w:Wo):aC En:=(kp (es w.o)).filter λe=>fL.tf e w.p.now
def closed(w:Wo)(id life:ax):Wo×ax:=
 let q:=cls w.p id life
 (bif q.2&&decide (life>0)then{w with p:=q.1,o:=ah (es w.o++[lF (el q.1.fe id.toNat)]),bd:=w.bd++[lF (el q.1.fe id.toNat)]}else{w with p:=q.1},flag q.2)
def B2(w:Wo):Wo:={w with p:=fL.se w.p.now (mR w),o:=ah (mR w)}
def act(w:Wo)(e:Ev):Wo×ax:=
 bif decide (e.k=1)then({w with p:=(je.ask w.p e.id e.t).1},(je.ask w.p e.id e.t).2)
 else bif decide (e.k=2)then({w with p:=(EO w.p e.id e.t).1},flag (EO w.p e.id e.t).2)
 else bif decide (e.k=3)then closed w e.id (e.n%1000000)
 else bif decide (e.k=4)then({w with p:=(Ei w.p e.id).1},flag (Ei w.p e.id).2)
 else bif decide (e.k=5)then({w with p:=sr.val w.p e.n},0)
 else bif decide (e.k=6)then({w with p:=uQ.val w.p e.id},flag (mr w.p.cl e.id))
 else(B2 w,0)
def step(w:Wo)(e:Ev):Wo:={(act w e).1 with cd:=w.cd++[(act w e).2]}
def ic(e:Ev):aW:=decide (1<=e.k/\e.k<=7)&&(decide (0<=e.id/\e.id<=30)&&(decide (e.t.size<=60)&&(decide (0<=e.n)&&decide (e.l.length<=4))))
end g9

namespace Ab
open Lib (Px Cl Fe En el)
open fg (has gG)
open jP (eU sM)
open nH (uX Hw MQ)
open nI (nA mA apart)
open qK (Hv jw)
open gj (So fc)
def JI(now:ax)(nf:aE)(c:Cl):aW:=
 decide (1<=c.id/\c.id<=9)&&(eU c.k&&(decide (1<=c.sta/\c.sta<=3)&&(decide (0<=c.fe/\c.fe<=(nf:ax))&&(decide ((c.got.size:ax)<=400)&&(decide (0<=c.fr/\c.fr<=now)&&decide (0<=c.age))))))
structure iT (p:Px):Prop where
 now:1<=p.now/\p.now<=1000000000
 en:∀e∈p.en,uX e=ai
 so:So p.en
 ek:∀e∈p.en,e.k∈p.w\/e.k∈p.m
 pol:sM p.w p.m p.s p.a=ai
 len:p.w.length+p.m.length=p.en.length
 fl:p.fe.length<=20
 fe:∀f∈p.fe,nA p.now f=ai
 ap:p.fe.Pairwise λf g=>mA g f=ak
 cll:p.cl.length<=6
 cl:∀c∈p.cl,JI p.now p.fe.length c=ai
 cs:p.cl.Pairwise λc d=>c.id<d.id
 hits:0<=p.hits/\p.hits<=1000000000
theorem Ua{α:Type}(R:α->α->Prop)(tr:∀x y z,R x y->R y z->R x z)(l:aC α)(h:∀i (hi:i+1<l.length),R (l[i]) (l[i+1])):l.Pairwise R:=by
 rw[dB];have adj:∀d i (hi:i+d+1<l.length),R (l[i]) (l[i+d+1]):=by
  intro d;induction d with
  |zero=>intro i hi;exact h i hi
  |succ d ih=>intro i hi;exact tr _ _ _ (ih i (by omega)) (h (i+d+1) (by omega))
 intro i j hi hj OQ;have:=adj (j-i-1) i (by omega);simp only[show i+(j-i-1)+1=j by omega]at this;exact this
theorem K2(x y z:aq)(a:fc x y=ai)(b:fc y z=ai):fc x z=true:=lH.o4 _ _ _ a b
theorem ak4{p:Px}(h:jw p=ai):iT p:=by
 obtain⟨h1,h2,h3,h4,h5,h6,h7⟩:_/\_/\_/\_/\_/\_/\_:=by unfold jw at h;simpa only[aL,bg,bu,kW]using h
 obtain⟨g1,g2,g3⟩:_/\_/\_:=by unfold MQ at h2;simpa only[aL,bg,bu,kW]using h2
 have e1:∀i (hi:i<p.en.length),uX p.en[i]=ai/\(0<i->fc (el p.en (i-1)).k p.en[i].k=ai)/\(p.en[i].k∈p.w\/p.en[i].k∈p.m):=λi hi=>by have:=g1 i hi;unfold Hw at this;simp only[aL,dM,bg,fF hi,gG]at this;exact⟨this.1,λh0=>this.2.1.resolve_left (by omega),this.2.2⟩
 have c1:∀i (hi:i<p.cl.length),JI p.now p.fe.length p.cl[i]=ai/\(0<i->(el p.cl (i-1)).id<p.cl[i].id):=λi hi=>by have:=h7 i hi;unfold Hv at this;unfold JI;simp only[aL,dM,bg,fF hi]at this⊢;exact⟨⟨this.1,this.2.2⟩,λh0=>this.2.1.resolve_left (by omega)⟩
 have f1:∀i (hi:i<p.fe.length),nA p.now p.fe[i]=ai/\∀j (hj:j<i),mA p.fe[i] (p.fe[j]'(by omega))=false:=λi hi=>by
  have:=h6 i hi;unfold apart at this;simp only[bu,kW,fF hi]at this;refine⟨this.1,λj hj=> ?_⟩
  have h:=this.2 j hj;rw[fF (show j<p.fe.length by omega)]at h;simpa using h
 refine⟨h1,λe he=> ?_, ?_,λe he=> ?_,g2,g3,h3,λf hf=> ?_, ?_,h4,λc hc=> ?_, ?_,h5⟩
 ·obtain⟨i,hi,rfl⟩:=c8 he;exact(e1 i hi).1
 ·refine Ua (λx y:En=>fc x.k y.k=ai) (λx y z a b=>K2 _ _ _ a b) p.en λi hi=> ?_;have:=(e1 (i+1) hi).2.1 (by omega);rw[PU,fF (show i<p.en.length by omega)]at this;exact this
 ·obtain⟨i,hi,rfl⟩:=c8 he;exact(e1 i hi).2.2
 ·obtain⟨i,hi,rfl⟩:=c8 hf;exact(f1 i hi).1
 ·rw[dB];intro i j hi hj OQ;exact(f1 j hj).2 i OQ
 ·obtain⟨i,hi,rfl⟩:=c8 hc;exact(c1 i hi).1
 ·refine Ua (λc d:Cl=>c.id<d.id) (λx y z a b=>Int.lt_trans a b) p.cl λi hi=> ?_;have:=(c1 (i+1) hi).2 (by omega);rw[PU,fF (show i<p.cl.length by omega)]at this;exact this
theorem ajw{p:Px}(h:iT p):jw p=true:=by
 unfold jw MQ;simp only[aL,bg,bu,kW];refine⟨h.now,⟨λi hi=> ?_,h.pol,h.len⟩,h.fl,h.cll,h.hits,λi hi=>⟨?_, ?_⟩,λi hi=> ?_⟩
 ·unfold Hw;simp only[aL,dM,bg,fF hi,gG];refine⟨h.en _ (bA hi), ?_,h.ek _ (bA hi)⟩
  by_cases h0:i=0
  ·exact .inl h0
  ·right;rw[fF (show i-1<p.en.length by omega)];exact dB.1 h.so (i-1) i (by omega) hi (by omega)
 ·rw[fF hi];exact h.fe _ (bA hi)
 ·unfold apart;simp only[bu,kW];intro j hj;rw[fF hi,fF (show j<p.fe.length by omega),dB.1 h.ap j i (by omega) hi hj];rfl
 ·have hc:=h.cl _ (bA hi);unfold JI at hc;unfold Hv;simp only[aL,dM,bg,fF hi]at hc⊢;refine⟨hc.1, ?_,hc.2⟩
  by_cases h0:i=0
  ·exact .inl h0
  ·right;rw[fF (show i-1<p.cl.length by omega)];exact dB.1 h.cs (i-1) i (by omega) hi (by omega)
theorem qf{p:Px}:jw p=ai↔iT p:=⟨ak4,ajw⟩
end Ab

namespace HD
open fg (has without gG lG)
open jP (eU nt sM)
open fJ (n7 Nl sd)
theorem jz{w m:aC aq}{s:aC (aC ax)}{a:ax}:sM w m s a=ai↔((∀k∈w++m,eU k=ai)/\(w++m).Nodup)/\w.length<=2/\m.length<=4/\n7 s a=true:=by unfold sM;rw[aL,aL,aL,bg,bg,eV.vW]
theorem G_{s:aC (aC ax)}{a:ax}:n7 s a=ai↔s.length=3/\(0<=a/\a<=63)/\∀q∈s,q.length=16/\∀n∈q,0<=n/\n<=15:=by unfold n7 sd Nl;simp only[aL,bg,bu]
theorem Ls{s:aC (aC ax)}{a:ax}(key:aq)(h:n7 s a=ai):n7 (dt.val s a key).1 (dt.val s a key).2=true:=by
 unfold dt.val;rw[h,au];obtain⟨h1,h2,h3⟩:=G_.1 h;obtain⟨b1,b2⟩:=dt.s7 (key:=key) h1 h3;by_cases ha:a+1=64
 ·rw[aG ha,au,G_];unfold dt.half;refine⟨by rw[bR];exact b1,by omega,λq hq=> ?_⟩
  obtain⟨r,hr,rfl⟩:=cX.1 hq;refine⟨by rw[bR];exact(b2 r hr).1,λn hn=> ?_⟩
  obtain⟨k,hk,rfl⟩:=cX.1 hn;have:=(b2 r hr).2 k hk;rw[g7 this.1];omega
 ·rw[aK ha,ay,G_];exact⟨b1,by omega,b2⟩
theorem GS{k:aq}(h:eU k=ai):k≠⟨#[]⟩:=by intro e;rw[e]at h;exact cO h (by decide)
theorem tM{w m:aC aq}{s:aC (aC ax)}{a:ax}{key:aq}(h:sM w m s a=ai)(hk:eU key=ai):
  sM (eV.val w m s a key).1 (eV.val w m s a key).2.1 (eV.val w m s a key).2.2.1 (eV.val w m s a key).2.2.2.1=ai
  /\∀x,x∈(eV.val w m s a key).1\/x∈(eV.val w m s a key).2.1↔(x∈w\/x∈m\/x=key)/\x≠(eV.val w m s a key).2.2.2.2:=by
 obtain⟨⟨k1,nd⟩,l1,l2,hs⟩:=jz.1 h;have M9:=Ls key hs;have kn:=GS hk;have wn:∀x,x∈w\/x∈m->x≠⟨#[]⟩:=λx hx=>GS (k1 x (bc.2 hx));unfold eV.val;rw[h,hk,aM,au];generalize dt.val s a key=V at M9;obtain⟨S,A⟩:=V;dsimp only at M9⊢;rw[eK]at nd;obtain⟨n1,n2,n3⟩:=nd;have hwo:∀l:aC aq,l.Nodup->(without l key).Nodup/\(∀x,x∈without l key↔x∈l/\x≠key):=λl hl=>by unfold without;exact⟨hl.sublist jK,λx=>by simp⟩
 cases h1:has w key with
 |true=>
  have hm:=gG.1 h1;obtain⟨o1,o2⟩:=hwo w n1;have o3:=fg.pk h1;dsimp only[au];refine⟨jz.2 ⟨⟨λk hx=> ?_, ?_⟩,by simp;omega,l2,M9⟩,λx=> ?_⟩
  ·simp only[bc,a_,o2]at hx;rcases hx with (hx|rfl)|hx
   ·exact k1 _ (bc.2 (.inl hx.1))
   ·exact hk
   ·exact k1 _ (bc.2 (.inr hx))
  ·simp only[eK,bc,a_,o2];grind
  ·simp only[bc,a_,o2];grind
 |false=>
  rw[ay];have hw:=lG.1 h1;cases h2:has m key with
  |true=>
   have hm:=gG.1 h2;obtain⟨o1,o2⟩:=hwo m n2;have o3:=fg.pk h2;dsimp only[au];refine⟨jz.2 ⟨⟨λk hx=> ?_, ?_⟩,l1,by simp;omega,M9⟩,λx=> ?_⟩
   ·simp only[bc,a_,o2]at hx;rcases hx with hx|hx|rfl
    ·exact k1 _ (bc.2 (.inl hx))
    ·exact k1 _ (bc.2 (.inr hx.1))
    ·exact hk
   ·simp only[eK,bc,a_,o2];grind
   ·simp only[bc,a_,o2];grind
  |false=>
   rw[ay];have hmn:=lG.1 h2;have nN:∀x,x∈w++[key]\/x∈m↔x∈w\/x∈m\/x=key:=λx=>by simp only[bc,a_];grind
   have Sh:∀x,x∈w++[key]\/x∈m->eU x=true:=λx hx=>by
    rcases(nN x).1 hx with hx|hx|rfl
    ·exact k1 _ (bc.2 (.inl hx))
    ·exact k1 _ (bc.2 (.inr hx))
    ·exact hk
   have II:(w++[key]).Nodup/\∀x∈w++[key],x∉m:=by simp only[eK,bc,a_];grind
   have hlen:(w++[key]).length=w.length+1:=by simp
   generalize w++[key]=W at nN Sh II hlen;obtain⟨d1,d2⟩:=II;by_cases h3:W.length<=2
   ·rw[aG h3,au];refine⟨jz.2 ⟨⟨λk hx=>Sh k (bc.1 hx), ?_⟩,h3,l2,M9⟩,λx=> ?_⟩
    ·simp only[eK];grind
    ·dsimp only;rw[nN];grind
   ·rw[aK h3,ay];cases W with
    |nil=>simp at hlen
    |cons x0 t=>
     rw[kC]at d1;rw[de]at hlen;have hg:(x0::t).getD 0 ⟨#[]⟩=x0:=rfl;have ht:(x0::t).tail=t:=rfl;rw[hg,ht];by_cases h4:m.length<4
     ·rw[aG h4,au];refine⟨jz.2 ⟨⟨λk hx=>Sh k ?_, ?_⟩,by dsimp only;omega,by simp;omega,M9⟩,λx=> ?_⟩
      ·simp only[bc,a_,cu]at hx⊢;grind
      ·simp only[eK,bc,a_,cu]at d2⊢;grind
      ·dsimp only;rw[<-nN];simp only[bc,a_,cu];grind
     ·rw[aK h4,ay];cases m with
      |nil=>simp at h4
      |cons y0 u=>
       rw[kC]at n2;rw[de]at l2 h4;have hg2:(y0::u).getD 0 ⟨#[]⟩=y0:=rfl;have GK:(y0::u).tail=u:=rfl;rw[hg2,GK];cases decide (mC.val S A x0>mC.val S A y0)with
       |true=>
        rw[au];refine⟨jz.2 ⟨⟨λk hx=>Sh k ?_, ?_⟩,by dsimp only;omega,by simp;omega,M9⟩,λx=> ?_⟩
        ·simp only[bc,a_,cu]at hx⊢;grind
        ·simp only[eK,bc,a_,cu]at d2⊢;grind
        ·dsimp only;rw[<-nN];simp only[bc,a_,cu]at d2⊢;grind
       |false=>
        rw[ay];refine⟨jz.2 ⟨⟨λk hx=>Sh k ?_, ?_⟩,by dsimp only;omega,by simp;omega,M9⟩,λx=> ?_⟩
        ·simp only[bc,cu]at hx⊢;grind
        ·simp only[eK,kC,cu]at d2⊢;grind
        ·dsimp only;rw[<-nN];simp only[cu]at d2⊢;grind
end HD

namespace LR
open Lib (Px Cl Fe En el)
open fg (has without gG lG)
open jP (eU sM)
open nH (uX)
open nI (nA mA)
open qK (jw)
open gj (So fc fX mZ)
open lU (C9)
open Ab (iT JI qf)
open HD (jz tM)
open ig (vk told Ei EO jy)
theorem Z6{p:Px}(h:iT p){n:ax}(h1:p.now<=n)(h2:n<=1000000000):iT {p with now:=n}:=by
 have:=h.now;refine⟨⟨by dsimp only;omega,h2⟩,h.en,h.so,h.ek,h.pol,h.len,h.fl,λf hf=> ?_,h.ap,h.cll,λc hc=> ?_,h.cs,h.hits⟩
 ·have:=h.fe f hf;unfold nA at this⊢;simp only[aL,bg]at this⊢;exact⟨this.1,this.2.1,this.2.2.1,this.2.2.2.1,this.2.2.2.2.1,zO this.2.2.2.2.2 h1⟩
 ·have:=h.cl c hc;unfold JI at this⊢;simp only[aL,bg]at this⊢;exact⟨this.1,this.2.1,this.2.2.1,this.2.2.2.1,this.2.2.2.2.1,⟨this.2.2.2.2.2.1.1,zO this.2.2.2.2.2.1.2 h1⟩,this.2.2.2.2.2.2⟩
theorem Bl{p:Px}{n:aE}{g:Fe}{st:ax}(h:iT p)(hn:n<p.fe.length)(hk:g.k=(el p.fe n).k)(hg:nA p.now g=ai)(hs:g.sta=1->(el p.fe n).sta=1)(h1:1<=st/\st<=3):iT (told p n g st):=by
 rw[fF hn]at hk hs;refine⟨h.now,h.en,h.so,h.ek,h.pol,h.len, ?_,λf hf=> ?_, ?_, ?_,λc hc=> ?_, ?_,h.hits⟩
 ·show(p.fe.set n g).length<=20;rw[cQ];exact h.fl
 ·rcases jD hf with q|rfl
  ·exact h.fe f q
  ·exact hg
 ·show(p.fe.set n g).Pairwise _;rw[dB];intro i j hi hj OQ;rw[cQ]at hi hj;have:=dB.1 h.ap i j hi hj OQ;rw[Rw,Rw];unfold mA at this⊢;by_cases e1:n=i
  ·by_cases e2:n=j
   ·omega
   ·subst e1;simp only[if_true,e2,if_false];rw[hk];by_cases e3:g.sta=1
    ·rw[hs e3]at this;rw[e3];exact this
    ·rw[aK e3];simp
  ·by_cases e2:n=j
   ·subst e2;simp only[e1,if_true,if_false];rw[hk];by_cases e3:g.sta=1
    ·rw[hs e3]at this;rw[e3];exact this
    ·rw[aK e3];simp
   ·simp only[e1,e2,if_false];exact this
 ·show(vm.od p.cl n st g.t).length<=6;unfold vm.od;rw[bR];exact h.cll
 ·have Iz:c∈vm.od p.cl n st g.t:=hc;unfold vm.od at Iz;obtain⟨d,hd,rfl⟩:=cX.1 Iz;have h2:=h.cl d hd;show JI p.now (p.fe.set n g).length _=ai;rw[cQ];unfold vm.ec;cases decide (d.fe=(n:ax)+1)&&decide (d.sta=1)with
  |false=>exact h2
  |true=>rw[au];unfold JI at h2⊢;unfold nA at hg;simp only[aL,bg]at h2 hg⊢;exact⟨h2.1,h2.2.1,h1,h2.2.2.2.1,hg.2.1,h2.2.2.2.2.2⟩
 ·show(vm.od p.cl n st g.t).Pairwise _;unfold vm.od;rw[kl];refine h.cs.imp λ{a b} hab=> ?_;have e:∀d:Cl,(vm.ec n st g.t d).id=d.id:=λd=>by unfold vm.ec;cases decide (d.fe=(n:ax)+1)&&decide (d.sta=1)<;>rfl
  rw[e,e];exact hab
theorem MU{p:Px}(h:iT p){n:aE}(hn:n<p.fe.length):eU (el p.fe n).k=ai/\((el p.fe n).t.size:ax)<=400/\(1<=(el p.fe n).sta/\(el p.fe n).sta<=3)/\(0<=(el p.fe n).li/\(el p.fe n).li<=999999)/\0<=(el p.fe n).st/\(el p.fe n).st<=p.now:=by have:=h.fe _ (mh hn);unfold nA at this;simpa only[aL,bg]using this
theorem RN{p:Px}(f:ax)(h:iT p):iT (Ei p f).1:=by
 unfold Ei;cases ho:vk p f with
 |false=>exact h
 |true=>obtain⟨n,rfl,hn,_,h1⟩:=jy ho;obtain⟨g1,g2,g3,g4,g5⟩:=MU h hn;refine Bl h hn rfl ?_ (λe=>cO e (by dsimp only;omega)) (by omega);unfold nA;simp only[aL,bg];exact⟨g1,g2,by omega,g4,g5⟩
theorem T_{p:Px}(f:ax)(t:aq)(h:iT p):iT (EO p f t).1:=by
 unfold EO;cases ho:vk p f&&(decide (1<=t.size/\t.size<=40)&&decide ((el p.fe f.toNat).t.size+t.size<=400))with
 |false=>exact h
 |true=>
  simp only[aL,bg]at ho;obtain⟨n,rfl,hn,_,h1⟩:=jy ho.1;obtain⟨g1,g2,g3,g4,g5⟩:=MU h hn;rw[eQ]at ho;refine Bl h hn rfl ?_ (λ_=>h1) (by omega);unfold nA;simp only[aL,bg];refine⟨g1, ?_,g3,g4,g5⟩
  show((((el p.fe n).t++t).size:aE):ax)<=400;rw[dI];omega
def Of(en:aC En)(w m:aC aq):Prop:=∀k,k∈w\/k∈m↔∃e∈en,e.k=k
theorem Jx{en:aC En}(h:So en):(en.map λe=>e.k).Nodup:=by rw[pB,kl];refine h.imp λ{a b} hab e=> ?_;rw[e]at hab;unfold fc at hab;rw[lH.oL]at hab;cases hab
theorem Bi{p:Px}(h:iT p):Of p.en p.w p.m:=by
 obtain⟨⟨_,nd⟩,_⟩:=jz.1 h.pol;have ne:=Jx h.so;have sub:(p.en.map λe=>e.k)⊆p.w++p.m:=λx hx=>by obtain⟨e,he,rfl⟩:=cX.1 hx;exact bc.2 (h.ek e he)
 intro k;constructor
 ·intro hk;have hk:k∈p.w++p.m:=bc.2 hk;refine Ag λhn=> ?_;have nn:(k::p.en.map λe=>e.k).Nodup:=kC.2 ⟨λhx=>hn (by obtain⟨e,he,q⟩:=cX.1 hx;exact⟨e,he,q⟩),ne⟩;have:=nn.length_le_of_subset (l₂:=p.w++p.m) (λx hx=>by
   rcases cu.1 hx with rfl|hx
   ·exact hk
   ·exact sub hx)
  have hl:=h.len;simp only[de,bR,bV]at this;omega
 ·rintro ⟨e,he,rfl⟩;exact h.ek e he
theorem of_same{en:aC En}{w m:aC aq}{s:aC (aC ax)}{a:ax}(h:Of en w m)(so:So en)(hp:sM w m s a=ai):(∀e∈en,e.k∈w\/e.k∈m)/\w.length+m.length=en.length:=by
 obtain⟨⟨_,nd⟩,_⟩:=jz.1 hp;refine⟨λe he=>(h _).2 ⟨e,he,rfl⟩, ?_⟩
 have:=((List.perm_ext_iff_of_nodup nd (Jx so)).2 λx=>by rw[bc,h x,cX]).length_eq;rw[bV,bR]at this;exact this
theorem mO{en:aC En}{k:aq}{e:En}:e∈fX en k↔e∈en/\e.k≠k:=by unfold fX;simp
theorem pR{en:aC En}{x e:En}:x∈mZ en e↔x=e\/(x∈en/\x.k≠e.k):=by
 unfold mZ;simp only[bc,dG,a_,dv,iF,e_];constructor
 ·rintro ((⟨h1,h2⟩|rfl)|⟨h1,h2⟩)
  ·refine .inr ⟨h1,λe2=> ?_⟩;rw[e2]at h2;unfold fc at h2;rw[lH.oL]at h2;cases h2
  ·exact .inl rfl
  ·exact .inr ⟨h1,h2.2⟩
 ·rintro (rfl|⟨h1,h2⟩)
  ·exact .inl (.inr rfl)
  ·cases hl:fc x.k e.k with
   |true=>exact .inl (.inl ⟨h1,rfl⟩)
   |false=>exact .inr ⟨h1,rfl,h2⟩
theorem zE{en:aC En}(h:So en)(e:En):So (mZ en e):=by have:=(lH.xE (gj.Cv h) e.k e.st e.li e.bo).1.1;rw[gj.tG]at this;unfold Lib.re at this;rw[kl]at this;exact this
theorem LF{p:Px}{e:En}(h:iT p)(he:uX e=ai):iT (C9 p e):=by
 have hk:eU e.k=true:=by have:=(nk.ES he).1;unfold eU;exact aG (by omega)
 obtain⟨t1,t2⟩:=tM h.pol hk;have sm:=Bi h;unfold C9;generalize eV.val p.w p.m p.s p.a e.k=V at t1 t2;obtain⟨W,M,S,A,G⟩:=V;dsimp only at t1 t2⊢;have key:∀en',So en'->(∀x∈en',uX x=ai)->Of en' W M->iT ⟨p.now,en',W,M,S,A,p.fe,p.cl,p.hits⟩:=λen' o1 o2 o3=>by obtain⟨q1,q2⟩:=of_same o3 o1 t1;exact⟨h.now,o2,o1,q1,t1,q2,h.fl,h.fe,h.ap,h.cll,h.cl,h.cs,h.hits⟩
 have d1:So (fX p.en G):=h.so.drop G;have d2:∀x∈fX p.en G,uX x=true:=λx hx=>h.en x (mO.1 hx).1;cases hh:has W e.k||has M e.k with
 |true=>
  rw[au];have gz:e.k∈W\/e.k∈M:=by rwa[dM,gG,gG]at hh
  refine key _ (zE d1 e) (λx hx=> ?_) λk=> ?_
  ·rcases pR.1 hx with rfl|q
   ·exact he
   ·exact d2 x q.1
  ·rw[t2 k];have hg:=((t2 e.k).1 gz).2;constructor
   ·rintro ⟨q,hn⟩;by_cases e1:k=e.k
    ·exact⟨e,pR.2 (.inl rfl),e1.symm⟩
    ·have q2:k∈p.w\/k∈p.m:=q.elim .inl λq=>q.elim .inr λq=>cO q e1;obtain⟨x,hx,rfl⟩:=(sm k).1 q2;exact⟨x,pR.2 (.inr ⟨mO.2 ⟨hx,hn⟩,e1⟩),rfl⟩
   ·rintro ⟨x,hx,rfl⟩;rcases pR.1 hx with rfl|q
    ·exact⟨.inr (.inr rfl),hg⟩
    ·obtain⟨q1,q2⟩:=mO.1 q.1;exact⟨((sm x.k).2 ⟨x,q1,rfl⟩).elim .inl λz=> .inr (.inl z),q2⟩
 |false=>
  rw[ay];have gz:¬(e.k∈W\/e.k∈M):=by rw[<-gG,<-gG,<-dM,hh];simp
  have hg:e.k=G:=Ag λhn=>gz ((t2 e.k).2 ⟨.inr (.inr rfl),hn⟩);refine key _ d1 d2 λk=> ?_;rw[t2 k];constructor
  ·rintro ⟨q,hn⟩;have q2:k∈p.w\/k∈p.m:=q.elim .inl λq=>q.elim .inr λq=>cO (q.trans hg) hn;obtain⟨x,hx,rfl⟩:=(sm k).1 q2;exact⟨x,mO.2 ⟨hx,hn⟩,rfl⟩
  ·rintro ⟨x,hx,rfl⟩;obtain⟨q1,q2⟩:=mO.1 hx;exact⟨((sm x.k).2 ⟨x,q1,rfl⟩).elim .inl λz=> .inr (.inl z),q2⟩
end LR

namespace F_
theorem eq(k:aq)(s l:ax)(b:aq)(n:ax):Ge.v k s l b n=F_.v k s l b n:=by
 have e:wz.v k s l b=nk.v k s l b:=rfl;unfold Ge.v F_.v;rw[e];cases h:nk.v k s l b with
 |false=>rfl
 |true=>
  have hs:(0<=s/\s<=1000000000)/\1<=l/\l<=999999:=by unfold nk.v at h;cases h1:sQ.v k<;>rw[h1]at h<;>simp only[au,ay,du]at h;cases h2:kj.v s 0 1000000000<;>rw[h2]at h<;>simp only[au,ay,du]at h;cases h3:kj.v l 1 999999<;>rw[h3]at h<;>simp only[au,ay,du]at h;simp[kj.v]at h2 h3;omega
  simp only[au,RA.v,lr.v,kj.v,cz,bg];by_cases h1:0<=n/\n<=1000000000
  ·rw[iE (x:=n-s) (by omega) (by omega),iE (x:=s+l) (by omega) (by omega),iE (x:=s+l-1) (by omega) (by omega)];by_cases h2:s<=n<;>by_cases h3:n-s<l<;>simp[h1,h2,h3]<;>omega
  ·by_cases h2:s<=n<;>by_cases h3:0<=n<;>by_cases h4:n<=1000000000<;>simp[h2,h3,h4]<;>omega
end F_

namespace JQ
open Lib (Px Cl Fe En el)
open fg (has without gG lG)
open jP (eU sM)
open nH (uX)
open nI (nA mA)
open qK (jw)
open gj (So fc fX mZ)
open Ab (iT JI qf)
open HD (jz tM Ls GS)
open LR (Of Bi of_same mO)
open je (hit vZ put Kr P8 HA mr jn uY tf)
theorem Zf(l:aC Cl)(n:ax):(l.filter λx=>decide (x.id<n)).length+(l.filter λx=>decide (x.id>n)).length<=l.length:=by
 induction l with
 |nil=>exact cw _
 |cons y l ih=>
  simp only[List.filter_cons];by_cases h1:y.id<n
  ·rw[aG h1,aK (show¬y.id>n by omega)];simp only[if_true,du,if_false,de];omega
  ·rw[aK h1];by_cases h2:y.id>n
   ·rw[aG h2];simp only[if_true,du,if_false,de];omega
   ·rw[aK h2];simp only[du,if_false,de];omega
theorem aba{l:aC Cl}{c:Cl}(cs:l.Pairwise λa b=>a.id<b.id):(jn l c).length<=l.length+1/\((jn l c).Pairwise λa b=>a.id<b.id)/\∀x∈jn l c,x=c\/x∈l:=by
 unfold jn;refine⟨?_, ?_,λx hx=> ?_⟩
 ·have:=Zf l c.id;simp only[bV,de,jL];omega
 ·rw[cq,uJ];refine⟨cs.filter _, ?_,λa ha b hb=> ?_⟩
  ·rw[uK,qn];exact⟨λb hb=>cm (dG.1 hb).2,cs.filter _⟩
  ·have ha:=cm (dG.1 ha).2;rcases bc.1 hb with hb|hb
   ·rw[a_]at hb;rw[hb];exact ha
   ·have hb:=cm (dG.1 hb).2;omega
 ·rcases bc.1 hx with hx|hx
  ·rcases bc.1 hx with hx|hx
   ·exact .inr (dG.1 hx).1
   ·exact .inl (a_.1 hx)
  ·exact .inr (dG.1 hx).1
theorem Ze{w m:aC aq}{s:aC (aC ax)}{a:ax}{key:aq}(h:key∈w\/key∈m):(eV.val w m s a key).2.2.2.2=⟨#[]⟩:=by
 unfold eV.val;cases sM w m s a&&eU key with
 |false=>rfl
 |true=>
  rw[au];cases h1:has w key with
  |true=>rfl
  |false=>have h2:has m key=true:=gG.2 (h.resolve_left (lG.1 h1));rw[h2];rfl
theorem Vi{w m:aC aq}{s:aC (aC ax)}{a:ax}{key:aq}(h:sM w m s a=ai)(hk:eU key=ai):(has (eV.val w m s a key).1 key||has (eV.val w m s a key).2.1 key)=true:=by
 obtain⟨⟨k1,nd⟩,l1,l2,hs⟩:=jz.1 h;rw[dM,gG,gG];refine((tM h hk).2 key).2 ⟨.inr (.inr rfl), ?_⟩;have kn:=GS hk;unfold eV.val;rw[h,hk,aM,au];cases h1:has w key with
 |true=>exact kn
 |false=>
  rw[ay];have hw:=lG.1 h1;cases h2:has m key with
  |true=>exact kn
  |false=>
   rw[ay];have hm:=lG.1 h2;by_cases h3:(w++[key]).length<=2
   ·rw[aG h3];exact kn
   ·rw[aK h3,ay];have iw:(w++[key]).getD 0 ⟨#[]⟩≠key:=by
     cases w with
     |nil=>simp at h3
     |cons x w=>intro e;exact hw (by rw[<-e];simp)
    by_cases h4:m.length<4
    ·rw[aG h4];exact kn
    ·rw[aK h4,ay];cases decide (mC.val (dt.val s a key).1 (dt.val s a key).2 ((w++[key]).getD 0 ⟨#[]⟩)>mC.val (dt.val s a key).1 (dt.val s a key).2 (m.getD 0 ⟨#[]⟩))with
     |true=>
      intro e;cases m with
      |nil=>simp at h4
      |cons x m=>exact hm (by rw[e];simp)
     |false=>exact λe=>iw e.symm
theorem aew{p:Px}{id:ax}{key:aq}{e:En}(h:iT p)(IC:1<=id/\id<=9)(hk:eU key=ai)(hl:p.cl.length<6)(he:e∈p.en)(hek:e.k=key)(KR:e.st<=p.now):iT (hit p id key e):=by
 have gz:key∈p.w\/key∈p.m:=by rw[<-hek];exact h.ek e he
 obtain⟨t1,t2⟩:=tM h.pol hk;have tg:=Ze (s:=p.s) (a:=p.a) gz;have sm:=Bi h;have hr:=nk.ES (h.en e he);obtain⟨j1,j2,j3⟩:=aba (c:=⟨id,key,0,e.st,2,e.bo,p.now-e.st⟩) h.cs;unfold hit;generalize eV.val p.w p.m p.s p.a key=V at t1 t2 tg;obtain⟨W,M,S,A,G⟩:=V;dsimp only at t1 t2 tg⊢;subst tg;have sm2:Of p.en W M:=λk=>by
  rw[t2 k];refine Iff.trans ?_ (sm k);constructor
  ·rintro ⟨q|q|rfl,_⟩
   ·exact .inl q
   ·exact .inr q
   ·exact gz
  ·intro q;refine⟨q.elim .inl λq=> .inr (.inl q), ?_⟩
   obtain⟨x,hx,rfl⟩:=(sm k).1 q;have:=(nk.ES (h.en x hx)).1;intro e;rw[e]at this;exact cO this.1 (by decide)
 obtain⟨q1,q2⟩:=of_same sm2 h.so t1;refine⟨h.now,h.en,h.so,q1,t1,q2,h.fl,h.fe,h.ap,by dsimp only;omega,λc hc=> ?_,j2, ?_⟩
 ·rcases j3 c hc with rfl|hc
  ·unfold JI;simp only[aL,bg];exact⟨IC,hk,by omega,⟨by omega,by omega⟩,by omega,⟨by omega,KR⟩,by omega⟩
  ·exact h.cl c hc
 ·have:=h.hits;dsimp only;by_cases hh:p.hits<1000000000
  ·rw[aG hh,au];omega
  ·rw[aK hh,ay];exact this
theorem Hh{l:aC aq}{k x:aq}:x∈without l k↔x∈l/\x≠k:=by unfold without;simp
theorem G2{p:Px}{id:ax}{key:aq}{h:aW}{fe:aC Fe}{i:aE}(ho:iT p)(IC:1<=id/\id<=9)(hk:eU key=ai)(hl:p.cl.length<6)(hn:p.fe.length<=fe.length)(WY:fe.length<=20)(hf:∀f∈fe,nA p.now f=ai)(hap:fe.Pairwise λf g=>mA g f=ak)(hi:i<fe.length)(hp:h=ak->True):iT (put p id key h fe i):=by
 obtain⟨⟨k1,nd⟩,l1,l2,hs⟩:=jz.1 ho.pol;have M9:=Ls key hs;have sm:=Bi ho;obtain⟨j1,j2,j3⟩:=aba (c:=⟨id,key,(i:ax)+1,0,1,(el fe i).t,0⟩) ho.cs;have hfi:=hf _ (mh hi);have pw:∀c∈jn p.cl ⟨id,key,(i:ax)+1,0,1,(el fe i).t,0⟩,JI p.now fe.length c=true:=λc hc=>by
  rcases j3 c hc with rfl|hc
  ·unfold nA at hfi;unfold JI;simp only[aL,bg]at hfi⊢;have:=ho.now;exact⟨IC,hk,by omega,⟨by omega,by omega⟩,hfi.2.1,⟨by omega,by omega⟩,by omega⟩
  ·have:=ho.cl c hc;unfold JI at this⊢;simp only[aL,bg]at this⊢;exact⟨this.1,this.2.1,this.2.2.1,⟨this.2.2.2.1.1,by omega⟩,this.2.2.2.2⟩
 unfold put;cases h with
 |false=>have W9:sM p.w p.m (dt.val p.s p.a key).1 (dt.val p.s p.a key).2=true:=jz.2 ⟨⟨k1,nd⟩,l1,l2,M9⟩;exact⟨ho.now,ho.en,ho.so,ho.ek,W9,ho.len,WY,hf,hap,by dsimp only;omega,pw,j2,ho.hits⟩
 |true=>
  have W9:sM (without p.w key) (without p.m key) (dt.val p.s p.a key).1 (dt.val p.s p.a key).2=true:=by
   refine jz.2 ⟨⟨λk hx=> ?_, ?_⟩,dg fg.ir l1,dg fg.ir l2,M9⟩
   ·rcases bc.1 hx with q|q
    ·exact k1 k (bc.2 (.inl (Hh.1 q).1))
    ·exact k1 k (bc.2 (.inr (Hh.1 q).1))
   ·have:without p.w key++without p.m key=(p.w++p.m).filter λx=> !decide (x=key):=by unfold without;rw[ik]
    rw[this];exact nd.sublist jK
  have sm2:Of (fX p.en key) (without p.w key) (without p.m key):=λk=>by
   rw[Hh,Hh];constructor
   ·intro q;have iw:k≠key:=q.elim (·.2) (·.2);obtain⟨x,hx,rfl⟩:=(sm k).1 (q.elim (λq=> .inl q.1) (λq=> .inr q.1));exact⟨x,mO.2 ⟨hx,iw⟩,rfl⟩
   ·rintro ⟨x,hx,rfl⟩;obtain⟨hx,iw⟩:=mO.1 hx;exact((sm x.k).2 ⟨x,hx,rfl⟩).elim (λq=> .inl ⟨q,iw⟩) (λq=> .inr ⟨q,iw⟩)
  have so:=ho.so.drop key;obtain⟨q1,q2⟩:=of_same sm2 so W9;exact⟨ho.now,λe he=>ho.en e (mO.1 he).1,so,q1,W9,q2,WY,hf,hap,by dsimp only;omega,pw,j2,ho.hits⟩
theorem Nk{p:Px}{id:ax}{key:aq}{h:aW}(ho:iT p)(IC:1<=id/\id<=9)(hk:eU key=ai)(hl:p.cl.length<6):iT (vZ p id key h).1:=by
 unfold vZ;cases hop:P8 p.fe key with
 |some i=>have hi:i<p.fe.length:=(yt.1 hop).1;exact G2 ho IC hk hl (cw _) ho.fl ho.fe ho.ap hi (λ_=>trivial)
 |none=>
  dsimp only;by_cases WY:p.fe.length<20
  ·rw[aG WY,au];have xA:∀f∈p.fe,HA key f=false:=λf hf=>by have:=D1.1 hop f hf;simpa using this
   have arU:=ho.now;refine G2 ho IC hk hl (by simp) (by simp;omega) (λf hf=> ?_) ?_ (by simp) (λ_=>trivial)
   ·rcases bc.1 hf with q|q
    ·exact ho.fe f q
    ·rw[a_]at q;subst q;unfold nA uY;simp only[aL,bg];exact⟨hk,by show((0:aE):ax)<=400;omega,by omega,by omega,by omega,by omega⟩
   ·rw[uJ];refine⟨ho.ap,by simp,λa ha b hb=> ?_⟩
    rw[a_]at hb;subst hb;have:=xA a ha;unfold HA at this;unfold mA uY;dsimp only;revert this;rw[show decide (key=a.k)=decide (a.k=key)from by rw[ca];exact Im];cases decide (a.k=key)<;>cases decide (a.sta=1)<;>simp
  ·rw[aK WY];exact ho
theorem adW{p:Px}(id:ax)(key:aq)(h:iT p):iT (je.ask p id key).1:=by
 unfold je.ask;cases hg:jw p&&(decide (1<=id/\id<=9)&&(eU key&&(!mr p.cl id&&decide (p.cl.length<6))))with
 |false=>exact h
 |true=>
  simp only[aL,bg]at hg;obtain⟨_,IC,hk,_,hl⟩:=hg;rw[au];cases he:Kr p.en key with
  |none=>exact Nk h IC hk hl
  |some e=>
   dsimp only;cases hf:tf e p.now with
   |false=>exact Nk h IC hk hl
   |true=>
    unfold Kr at he;have h1:=Hp he;have h2:=Fj he;refine aew h IC hk hl h1 (cm h2) ?_;unfold tf at hf;rw[F_.eq]at hf;unfold F_.v at hf;rw[show nk.v e.k e.st e.li e.bo=ai from h.en e h1,au,show kj.v p.now e.st 1000000000=decide (e.st<=p.now/\p.now<=1000000000)from fJ.eL _ _ _]at hf;cases hd:decide (e.st<=p.now/\p.now<=1000000000)with
    |true=>exact(cm hd).1
    |false=>rw[hd]at hf;cases hf
end JQ

namespace JR
open Lib (Px Cl Fe En el)
open Ab (iT JI qf)
open LR (Z6)
theorem EF{now n:ax}(h:1<=now/\now<=1000000000):now<=sr.later now n/\sr.later now n<=1000000000:=by
 unfold sr.later;have:=Wj n (show(1000:ax)≠0 by omega);have:=PQ n (show(0:ax)<1000 by omega);by_cases hc:now>1000000000-n%1000
 ·rw[aG hc,au];omega
 ·rw[aK hc,ay,c9 (by omega) (by omega)];omega
theorem YR{p:Px}(n:ax)(h:iT p):iT (sr.val p n):=Z6 h (EF h.now).1 (EF h.now).2
theorem SZ{p:Px}(id:ax)(h:iT p):iT (uQ.val p id):=
 ⟨h.now,h.en,h.so,h.ek,h.pol,h.len,h.fl,h.fe,h.ap,dg (eS _ _) h.cll,λc hc=>h.cl c (dG.1 hc).1,h.cs.sublist jK,h.hits⟩
end JR

namespace ie
open Lib (Px Cl Fe En el)
open fg (has gG)
open jP (eU sM)
open nH (uX)
open nI (nA mA)
open qK (jw)
open Ab (iT JI qf)
open ig (vk told Ei EO jy)
open u0 (cls lF)
open lU (C9)
open iY (Em Hy tx kp sH)
open km (dk es)
open g9 (Wo Ev closed B2 mR ic flag)
open LR (Bl MU RN T_ LF)
def on(l:aC Fe):aE:=l.countP λf=>decide (f.sta=1)
theorem vb5{x:ax}(h:x<=1000000000):(bytesOf (Lib.vb x)).size<=5:=by
 rw[Lib.gJ]
 exact Lib.Bo 4 x (by have:(128:ax)^5=34359738368:=by decide
                      omega)
theorem KD{e:En}(h:Em e=ai):(Hy e).size<=460:=by
 have hr:=nk.ES h;have z1:=vb5 (x:=(e.k.size:ax)) (by omega);have z2:=vb5 (x:=e.st) (by omega);have z3:=vb5 (x:=e.li) (by omega);have ht:(sH e).size<=445:=by unfold sH jE.sH;simp only[Lib.j8];omega
 have z4:=vb5 (x:=((sH e).size:ax)) (by omega);unfold Hy fH.fr;rw[Lib.j8,Lib.j8,oX.size];omega
theorem Vj(l:aC En)(h:∀e∈l,Em e=ai):(tx l).size<=460*l.length:=by
 induction l with
 |nil=>exact cw _
 |cons e l ih=>have h1:=KD (h e (by simp));have h2:=ih λx hx=>h x (by simp[hx]);have:(tx (e::l)).size=(Hy e).size+(tx l).size:=dI;rw[this,de];omega
structure sK (i:aE) (w:Wo):Prop where
 px:iT w.p
 eo:∀e∈es w.o,Em e=ai
 ct:2*(es w.o).length+on w.p.fe<=i
 cd:w.cd.length=i
 bd:w.bd.length<=i
 bo:∀e∈w.bd,Em e=ai
theorem sK.len{i:aE}{w:Wo}(h:sK i w)(hi:i<=71):(es w.o).length<=35:=by have:=h.ct;omega
theorem sK.tx{i:aE}{w:Wo}(h:sK i w)(hi:i<=71):(tx (es w.o)).size<=16100:=by have:=Vj _ h.eo;have:=h.len hi;omega
theorem K_{l:aC Fe}{n:aE}{g:Fe}(hn:n<l.length):on (l.set n g)+(if(el l n).sta=1 then 1 else 0)=on l+(if g.sta=1 then 1 else 0):=by
 unfold on;rw[List.countP_set hn,fF hn];have hle:l[n].sta=1->1<=l.countP λf=>decide (f.sta=1):=λh=>List.countP_pos_iff.2 ⟨_,bA hn,aG h⟩;generalize l.countP (λf=>decide (f.sta=1))=m at hle;by_cases h1:l[n].sta=1
 ·have:=hle h1;by_cases h2:g.sta=1
  ·rw[bw h1,bw h2,bw (aG h1),bw (aG h2)];omega
  ·rw[bw h1,bG h2,bw (aG h1),bG (by rw[aK h2];simp)];omega
 ·by_cases h2:g.sta=1
  ·rw[bG h1,bw h2,bG (by rw[aK h1];simp),bw (aG h2)];omega
  ·rw[bG h1,bG h2,bG (by rw[aK h1];simp),bG (by rw[aK h2];simp)];omega
theorem Uo{now:ax}(hn:1<=now/\now<=1000000000)(l:aC En):iT (fL.se now l):=by
 have key:∀(l:aC En) (p:Px),iT p->iT (l.foldl (fL.one now) p):=by
  intro l;induction l with
  |nil=>intro p h;exact h
  |cons e l ih=>
   intro p h;rw[Df];refine ih _ ?_;unfold fL.one;cases hf:fL.tf e now with
   |true=>exact LF h (fL.zl hf)
   |false=>exact h
 refine key l _ ⟨hn,λe h=>(by cases h),gZ,λe h=>(by cases h), ?_,rfl,bB _,λf h=>(by cases h),gZ,bB _,λc h=>(by cases h),gZ,by show(0:ax)<=0/\(0:ax)<=1000000000;omega⟩;refine HD.jz.2 ⟨⟨λk h=>(by cases h),List.nodup_nil⟩,bB _,bB _,HD.G_.2 ⟨rfl,by show(0:ax)<=0/\(0:ax)<=63;omega,λq hq=> ?_⟩⟩;have:q=fL.JE:=by change q∈[fL.JE,fL.JE,fL.JE]at hq;simp at hq;exact hq
 subst this;refine⟨rfl,λn hn=> ?_⟩
 unfold fL.JE at hn;simp at hn;omega
theorem Km{p:Px}{f life:ax}(h:iT p)(hl:0<=life/\life<=999999):
  iT (cls p f life).1/\(((cls p f life).2=ak/\(cls p f life).1=p)\/((cls p f life).2=ai/\∃n:aE,f=(n:ax)/\n<p.fe.length/\(cls p f life).1.fe=p.fe.set n {el p.fe n with sta:=2,li:=life,st:=p.now}/\(el p.fe n).sta=1/\
   (life>0->Em (lF {el p.fe n with sta:=2,li:=life,st:=p.now})=ai/\(has (cls p f life).1.w (el p.fe n).k||has (cls p f life).1.m (el p.fe n).k)=ai))):=by
 unfold cls;cases ho:vk p f&&decide (0<=life/\life<=999999)with
 |false=>exact⟨h, .inl ⟨rfl,rfl⟩⟩
 |true=>
  rw[aL]at ho;obtain⟨n,rfl,hn,_,h1⟩:=jy ho.1;obtain⟨g1,g2,g3,g4,g5⟩:=MU h hn;have arU:=h.now;rw[au,eQ];have ht:iT (told p n {el p.fe n with sta:=2,li:=life,st:=p.now} 2):=by refine Bl h hn rfl ?_ (λe=>cO e (by dsimp only;omega)) (by omega);unfold nA;simp only[aL,bg];exact⟨g1,g2,by omega,hl,by omega,by omega⟩
  have he:life>0->Em (lF {el p.fe n with sta:=2,li:=life,st:=p.now})=true:=λVU=>by unfold Em lF nk.v;dsimp only;rw[jP.iN,g1,au,show kj.v p.now 0 1000000000=decide (0<=p.now/\p.now<=1000000000)from fJ.eL _ _ _,aG (show 0<=p.now/\p.now<=1000000000 by omega),au,show kj.v life 1 999999=decide (1<=life/\life<=999999)from fJ.eL _ _ _,aG (show 1<=life/\life<=999999 by omega),au];exact aG g2
  by_cases VU:life>0
  ·rw[aG VU,au];have gz:=JQ.Vi (key:=(el p.fe n).k) ht.pol g1;exact⟨LF ht (he VU), .inr ⟨rfl,n,rfl,hn,rfl,h1,λ_=>⟨he VU,gz⟩⟩⟩
  ·rw[aK VU,ay];exact⟨ht, .inr ⟨rfl,n,rfl,hn,rfl,h1,λh=>cO h VU⟩⟩
theorem adX(p:Px)(id:ax)(key:aq):on (je.ask p id key).1.fe<=on p.fe+1:=by
 have hm:∀h,on (je.vZ p id key h).1.fe<=on p.fe+1:=λh=>by
  unfold je.vZ;cases je.P8 p.fe key with
  |some i=>exact js _
  |none=>
   dsimp only;cases decide (p.fe.length<20)with
   |true=>show on (p.fe++[je.uY key])<=_;unfold on;rw[List.countP_append];exact cw _
   |false=>exact js _
 unfold je.ask;cases jw p&&(decide (1<=id/\id<=9)&&(eU key&&(!je.mr p.cl id&&decide (p.cl.length<6))))with
 |false=>exact js _
 |true=>
  rw[au];cases je.Kr p.en key with
  |none=>exact hm _
  |some e=>
   dsimp only;cases je.tf e p.now with
   |false=>exact hm _
   |true=>exact js _
theorem B7(w:Wo):(mR w).length<=(es w.o).length:=dg (eS ..) (iY.KZ _)
theorem Gy{w:Wo}(h:∀e∈es w.o,Em e=ai):∀e∈mR w,Em e=true:=λe he=>h e (iY.aeZ (dG.1 he).1)
theorem Bk{i:aE}{w:Wo}{e:Ev}(h:sK i w)(he:ic e=ai):sK (i+1) (g9.step w e):=by
 unfold ic at he;simp only[aL,bg]at he;obtain⟨hk,IC,ht,hn,hl⟩:=he;have hct:=h.ct;have hbd:=h.bd;have cdl:∀n:ax,(w.cd++[n]).length=i+1:=λn=>by rw[bV,h.cd];rfl
 have px':∀(p:Px) (n:ax),iT p->on p.fe<=on w.p.fe+1->sK (i+1) {{w with p:=p}with cd:=w.cd++[n]}:=λp n hp ho=>⟨hp,h.eo,by dsimp only;omega,cdl n,m9 h.bd,h.bo⟩
 unfold g9.step g9.act;by_cases k1:e.k=1
 ·rw[aG k1,au];exact px' _ _ (JQ.adW _ _ h.px) (adX ..)
 rw[aK k1,ay];by_cases k2:e.k=2
 ·rw[aG k2,au];refine px' _ _ (T_ _ _ h.px) ?_;unfold EO;cases ho:vk w.p e.id&&(decide (1<=e.t.size/\e.t.size<=40)&&decide ((el w.p.fe e.id.toNat).t.size+e.t.size<=400))with
  |false=>exact js _
  |true=>
   rw[aL]at ho;obtain⟨n,en,hn,_,h1⟩:=jy ho.1;rw[en,eQ];have q:∀g:Fe,g.sta=(el w.p.fe n).sta->on (w.p.fe.set n g)<=on w.p.fe+1:=λg hg=>by have:=K_ (g:=g) hn;rw[hg]at this;omega
   exact q _ rfl
 rw[aK k2,ay];by_cases k3:e.k=3
 ·rw[aG k3,au];have hlr:0<=e.n%1000000/\e.n%1000000<=999999:=by omega
  obtain⟨q1,q2⟩:=Km (f:=e.id) h.px hlr;unfold closed;dsimp only;rcases q2 with ⟨r1,r2⟩|⟨r1,n,rn,hn,rf,rs,rl⟩
  ·rw[r1,ly,ay];exact px' _ _ q1 (by rw[r2];exact js _)
  ·have:=K_ (g:={el w.p.fe n with sta:=2,li:=e.n%1000000,st:=w.p.now}) hn;rw[bw rs,bG (show¬(2:ax)=1 by omega)]at this;have ho:on (cls w.p e.id (e.n%1000000)).1.fe+1=on w.p.fe:=by rw[rf];exact this
   rw[r1,bh];by_cases VU:e.n%1000000>0
   ·rw[aG VU,au];obtain⟨s1,s2⟩:=rl VU;have hx:Em (lF (el (cls w.p e.id (e.n%1000000)).1.fe e.id.toNat))=true:=by rw[rn,eQ,<-rn,rf,ig.jR hn];exact s1
    refine⟨q1,λy hy=> ?_, ?_,cdl _, ?_,λy hy=> ?_⟩
    ·rcases bc.1 hy with hy|hy
     ·exact h.eo y hy
     ·rw[a_]at hy;rw[hy];exact hx
    ·show 2*(es w.o++[_]).length+on (cls w.p e.id (e.n%1000000)).1.fe<=i+1;rw[bV,bz];omega
    ·show(w.bd++[_]).length<=i+1;rw[bV,bz];omega
    ·rcases bc.1 hy with hy|hy
     ·exact h.bo y hy
     ·rw[a_]at hy;rw[hy];exact hx
   ·rw[aK VU,ay];exact px' _ _ q1 (by omega)
 rw[aK k3,ay];by_cases k4:e.k=4
 ·rw[aG k4,au];refine px' _ _ (RN _ h.px) ?_;unfold Ei;cases ho:vk w.p e.id with
  |false=>exact js _
  |true=>
   obtain⟨n,en,hn,_,h1⟩:=jy ho;rw[en,eQ];have q:∀g:Fe,g.sta=3->on (w.p.fe.set n g)<=on w.p.fe+1:=λg hg=>by have:=K_ (g:=g) hn;rw[bw h1,bG (show¬g.sta=1 by omega)]at this;omega
   exact q _ rfl
 rw[aK k4,ay];by_cases k5:e.k=5
 ·rw[aG k5,au];exact px' _ _ (JR.YR _ h.px) (js _)
 rw[aK k5,ay];by_cases k6:e.k=6
 ·rw[aG k6,au];exact px' _ _ (JR.SZ _ h.px) (js _)
 rw[aK k6,ay];have OP:=B7 w;have hinv:=fL.rE w.p.now (mR w) (mR w).length (cw _);rw[dK]at hinv;refine⟨Uo h.px.now _,Gy h.eo, ?_,cdl _,m9 h.bd,h.bo⟩
 show 2*(mR w).length+on (fL.se w.p.now (mR w)).fe<=i+1;rw[hinv.fe];show 2*(mR w).length+0<=i+1;omega
end ie

namespace fm
open Lib (rr rs re rf rc rd Px En el pz rR rS rT)
open g9 (Wo Ev)
open km (dk es)
def ri(l:aC ax):aQ:=l.map λn=>[CV.i ao n]
theorem gf(l:aC ax):(ri l).length=l.length:=by unfold ri;simp
def ud(w:Wo):ax×aQ×aQ×aQ×aQ×ax×aQ×aQ×ax×aQ×aQ×aQ:=(w.p.now,re w.p.en,rs w.p.w,rs w.p.m,rr w.p.s,w.p.a,rf w.p.fe,rc w.p.cl,w.p.hits,rd (dk w.o),ri w.cd,re w.bd)
theorem sg(l:aC En)(e:En):re l++aA (aN [Ck.s,Ck.i ao,Ck.i ao,Ck.s] 1) 0 [CV.s e.k,CV.i ao e.st,CV.i ao e.li,CV.s e.bo]=re (l++[e]):=by unfold Lib.re;rw[dh];rfl
theorem abU(l:aC ax)(n:ax):ri l++aA (aN [Ck.i ao] 1) 0 [CV.i ao n]=ri (l++[n]):=by unfold ri;rw[dh];rfl
theorem avp(l:aC En):aN [Ck.s,Ck.i ao,Ck.i ao,Ck.s] 0++re l=re l:=rfl
theorem avq(l:aC ax):aN [Ck.i ao] 0++ri l=ri l:=rfl
theorem lj(ks:aC Ck)(y:aC CV):(aA (aN ks 1) 0 y).length=1:=rfl
theorem jI{p:Px}(h:Ab.iT p):p.Fit 1048576:=(lU.jI (Ab.qf.2 h)).le (by omega)
theorem lt_eq{α β:Type}(x:α)(f:α->β):Lib.lt x f=f x:=by have h:∀y,y=Lib.lt x f->y=f x:=λy hy=>hy.trans (Eq.refl _);exact h _ (Eq.refl _)
end fm

namespace ql
open Lib (rr rs re rf rc rd Px En el)
open g9 (Wo Ev ic)
open km (dk es)
open ie (sK)
open fm (ri ud)
instance:Inhabited Ev:=⟨⟨0,0,⟨#[]⟩,0,[]⟩⟩
def Evr(e:Ev):aC CV:=[CV.i ao e.k,CV.i ao e.id,CV.s e.t,CV.i ao e.n,CV.l 3 e.l]
def rv(l:aC Ev):aQ:=l.map Evr
theorem kL(l):(rv l).length=l.length:=by unfold rv;simp
theorem wv0{l:aC Ev}{i:aE}(h:i<l.length):ar (rv l) i 0=CV.i ao (el l i).k:=fY _ l i 0 h
theorem wv1{l:aC Ev}{i:aE}(h:i<l.length):ar (rv l) i 1=CV.i ao (el l i).id:=fY _ l i 1 h
theorem wv2{l:aC Ev}{i:aE}(h:i<l.length):ar (rv l) i (1+1)=CV.s (el l i).t:=fY _ l i 2 h
theorem wv3{l:aC Ev}{i:aE}(h:i<l.length):ar (rv l) i (1+1+1)=CV.i ao (el l i).n:=fY _ l i 3 h
theorem wv4{l:aC Ev}{i:aE}(h:i<l.length):ar (rv l) i (1+1+1+1)=CV.l 3 (el l i).l:=fY _ l i 4 h
theorem GV(e:Ev):U31.v e.k e.id e.t e.n e.l=ic e:=by unfold U31.v ic;rw[show lr.v e.k 1 7=decide (1<=e.k/\e.k<=7)from fJ.eL _ _ _,show lr.v e.id 0 30=decide (0<=e.id/\e.id<=30)from fJ.eL _ _ _,show decide (((e.t.size:aE):ax)<=60)=decide (e.t.size<=60)from by rw[ca];omega,show decide (e.n≥0)=decide (0<=e.n)from rfl,show decide (((e.l.length:aE):ax)<=4)=decide (e.l.length<=4)from by rw[ca];omega];cases decide (1<=e.k/\e.k<=7)<;>cases decide (0<=e.id/\e.id<=30)<;>cases decide (e.t.size<=60)<;>cases decide (0<=e.n)<;>rfl
theorem YK(e:Ev):U56.v e.k e.id e.t e.n e.l=ic e:=GV e
def w0:Wo:=⟨fL.p0 1,aj,[],[]⟩
def run(l:aC Ev):Wo:=l.foldl g9.step w0
theorem tJ(l:aC Ev)(i:aE)(h:i<l.length):run (l.take (i+1))=g9.step (run (l.take i)) (el l i):=by unfold run;rw[cB h,Aj,fF h];rfl
theorem alT:sK 0 w0:=by refine⟨ie.Uo (now:=1) (by omega) [],λe h=>(by cases h),cw _,rfl,cw _,λe h=>(by cases h)⟩
theorem CH{l:aC Ev}(h:∀e∈l,ic e=ai):∀i,i<=l.length->sK i (run (l.take i)):=by
 intro i;induction i with
 |zero=>intro _;exact alT
 |succ i ih=>intro hi;rw[tJ l i hi];exact ie.Bk (ih (by omega)) (h _ (mh hi))
theorem G6{l:aC Ev}(h:∀e∈l,ic e=ai):sK l.length (run l):=by have:=CH h l.length (cw _);rwa[dK]at this
def W13(w:Wo)(b:aW):ax×aQ×aQ×aQ×aQ×ax×aQ×aQ×ax×aQ×aQ×aQ×aW:=(w.p.now,re w.p.en,rs w.p.w,rs w.p.m,rr w.p.s,w.p.a,rf w.p.fe,rc w.p.cl,w.p.hits,rd (dk w.o),ri w.cd,re w.bd,b)
def w7(l:aC Ev):aW:=decide (l.length<=70)&&(cR l.length).all λi=>ic (el l i)
def life(l:aC Ev):ax×aQ×aQ×aQ×aQ×ax×aQ×aQ×ax×aQ×aQ×aQ×aW:=bif w7 l then W13 (run l) ai else(0,[],[],[],[],0,[],[],0,[],[],[],ak)
theorem qx{l:aC Ev}:w7 l=ai↔l.length<=70/\∀e∈l,ic e=true:=by unfold w7;rw[aL,bg,bu];refine and_congr Iff.rfl ⟨λh e he=> ?_,λh i hi=>h _ (mh (kW.1 hi))⟩;obtain⟨i,hi,rfl⟩:=c8 he;have:=h i (kW.2 hi);rwa[fF hi]at this
end ql

namespace dm
def I(q:aQ)(a:ax):Prop:=0<=a/\a<=(q.length:ax)/\q.length<=1048576
theorem ES(x:BitVec 64):0<=bH ((dW (jo x (b9 64 255)):aE):ax)/\bH ((dW (jo x (b9 64 255)):aE):ax)<=255:=by
 have h:dW (jo x (b9 64 255))<=255:=by have e:dW (jo x (b9 64 255))=x.toNat&&&255:=BitVec.toNat_and x (b9 64 255);rw[e];exact Nat.and_le_right
 rw[c9 (by omega) (by omega)];omega
theorem ok(q:aQ)(a s:ax)(hI:I q a):∃n a' s',c q a s=ai/\v q a s=(n,q,a',s')/\I q a'/\0<=n/\n<=255:=by
 obtain⟨h0,h1,h2⟩:=hI;by_cases h:a<(q.length:ax)
 ·have hw:bH (a+1)=a+1:=c9 (by omega) (by omega);have hvo:∃n s',vo q a s=ah (n,q,a+1,s')/\0<=n/\n<=255:=by unfold vo b;rw[aG h,aG h0,au,aM,au,hw];exact⟨_,_,rfl,ES _⟩
  obtain⟨n,s',hv,hr⟩:=hvo;obtain⟨e1,e2⟩:=out q a s hv;exact⟨n,a+1,s',e1,e2,⟨by omega,by omega,h2⟩,hr⟩
 ·have hvo:∃n s',vo q a s=ah (n,q,a,s')/\0<=n/\n<=255:=by unfold vo b;rw[aK h,ay];exact⟨_,_,rfl,ES _⟩
  obtain⟨n,s',hv,hr⟩:=hvo;obtain⟨e1,e2⟩:=out q a s hv;exact⟨n,a,s',e1,e2,⟨h0,h1,h2⟩,hr⟩
end dm

namespace kP
theorem ok(q:aQ)(a s k:ax)(hI:dm.I q a):∃n a' s',c q a s k=ai/\v q a s k=(n,q,a',s')/\dm.I q a'/\0<=n/\(0<k->n<k):=by
 by_cases hk:k<=0
 ·obtain⟨e1,e2⟩:=out q a s k (x:=(0,q,a,s)) (by unfold vo b;rw[aG hk,au]);exact⟨0,a,s,e1,e2,hI,by omega,λh=>by omega⟩
 ·have hm:∀x:ax,0<=x->0<=cK x k/\cK x k<k:=λx hx=>by rw[ij hx];exact⟨Wj _ (by omega),PQ _ (by omega)⟩
  have hk0:¬k=0:=by omega
  obtain⟨n1,a1,s1,c1,v1,I1,g1,u1⟩:=dm.ok q a s hI;by_cases h2:k<=256
  ·obtain⟨e1,e2⟩:=out q a s k (x:=(cK n1 k,q,a1,s1)) (by unfold vo b;simp only[hk,h2,hk0,c1,v1,aP,bf,au,ay,bQ]);exact⟨_,a1,s1,e1,e2,I1,(hm n1 g1).1,λ_=>(hm n1 g1).2⟩
  ·obtain⟨n2,a2,s2,c2,v2,I2,g2,u2⟩:=dm.ok q a1 s1 I1;obtain⟨n3,a3,s3,c3,v3,I3,g3,u3⟩:=dm.ok q a2 s2 I2;obtain⟨n4,a4,s4,c4,v4,I4,g4,u4⟩:=dm.ok q a3 s3 I3;have w1:bH (n1*16777216)=n1*16777216:=c9 (by omega) (by omega);have w2:bH (n2*65536)=n2*65536:=c9 (by omega) (by omega);have w3:bH (n3*256)=n3*256:=c9 (by omega) (by omega);have w4:bH (n1*16777216+n2*65536)=n1*16777216+n2*65536:=c9 (by omega) (by omega);have w5:bH (n1*16777216+n2*65536+n3*256)=n1*16777216+n2*65536+n3*256:=c9 (by omega) (by omega);have w6:bH (n1*16777216+n2*65536+n3*256+n4)=n1*16777216+n2*65536+n3*256+n4:=c9 (by omega) (by omega);obtain⟨e1,e2⟩:=out q a s k (x:=(cK (n1*16777216+n2*65536+n3*256+n4) k,q,a4,s4)) (by unfold vo b;simp only[hk,h2,hk0,c1,v1,c2,v2,c3,v3,c4,v4,w1,w2,w3,w4,w5,w6,aP,bf,au,ay,bQ]);have:=hm (n1*16777216+n2*65536+n3*256+n4) (by omega);exact⟨_,a4,s4,e1,e2,I4,this.1,λ_=>this.2⟩
end kP

namespace Ht
theorem ok(q:aQ)(a s k:ax)(hI:dm.I q a):∃x a' s',c q a s k=ai/\v q a s k=(x,q,a',s')/\dm.I q a':=by obtain⟨n1,a1,s1,c1,v1,I1,g1,u1⟩:=kP.ok q a s k hI;obtain⟨e1,e2⟩:=out q a s k (x:=(decide (n1=0),q,a1,s1)) (by unfold vo b;simp only[c1,v1,au]);exact⟨_,a1,s1,e1,e2,I1⟩
end Ht

namespace sC
theorem ok(q:aQ)(a s:ax)(l:aQ)(hI:dm.I q a)(hl:0<l.length):∃i a' s',c q a s l=ai/\v q a s l=(bI (ar l i 0),q,a',s',l)/\dm.I q a'/\i<l.length:=by obtain⟨n1,a1,s1,c1,v1,I1,g1,u1⟩:=kP.ok q a s (l.length:ax) hI;have hu:=u1 (by omega);obtain⟨e1,e2⟩:=out q a s l (x:=(bI (ar l n1.toNat 0),q,a1,s1,l)) (by unfold vo b;simp only[c1,v1,g1,hu,aP,aM,au]);exact⟨n1.toNat,a1,s1,e1,e2,I1,by omega⟩
end sC

namespace nT
theorem ok(q:aQ)(a s:ax)(l:aQ)(hI:dm.I q a)(hl:0<l.length):∃i a' s',c q a s l=ai/\v q a s l=(bn (ar l i 0),q,a',s',l)/\dm.I q a'/\i<l.length:=by obtain⟨n1,a1,s1,c1,v1,I1,g1,u1⟩:=kP.ok q a s (l.length:ax) hI;have hu:=u1 (by omega);obtain⟨e1,e2⟩:=out q a s l (x:=(bn (ar l n1.toNat 0),q,a1,s1,l)) (by unfold vo b;simp only[c1,v1,g1,hu,aP,aM,au]);exact⟨n1.toNat,a1,s1,e1,e2,I1,by omega⟩
end nT

namespace rk
theorem ok(q:aQ)(a s:ax)(hI:dm.I q a):∃k a' s',c q a s=ai/\v q a s=(k,q,a',s')/\dm.I q a'/\k.size=2:=by
 obtain⟨i,a1,s1,c1,v1,I1,g1⟩:=nT.ok q a s (aA (aA (aA (aA (aA (aA (aA (aA (aN [Ck.s] 8) 0 [CV.s {data:= #[aw 47,aw 97]}]) 1 [CV.s {data:= #[aw 47,aw 98]}]) 2 [CV.s {data:= #[aw 47,aw 99]}]) 3 [CV.s {data:= #[aw 47,aw 100]}]) 4 [CV.s {data:= #[aw 47,aw 101]}]) 5 [CV.s {data:= #[aw 47,aw 102]}]) 6 [CV.s {data:= #[aw 47,aw 103]}]) 7 [CV.s {data:= #[aw 47,aw 104]}]) hI (by simp[aN]);obtain⟨e1,e2⟩:=out q a s (x:=(_,q,a1,s1)) (by unfold vo b;simp only[c1,v1,au];rfl);refine⟨_,a1,s1,e1,e2,I1, ?_⟩
 have g2:i<8:=by simpa [aN]using g1
 match i,g2 with
 |0,_=>rfl
 |1,_=>rfl
 |2,_=>rfl
 |3,_=>rfl
 |4,_=>rfl
 |5,_=>rfl
 |6,_=>rfl
 |7,_=>rfl
end rk

namespace A_Post
open dm (I)
def jb{α:Type}(o:az α)(P:α->Prop):Prop:=∃x,o=ah x/\P x
theorem ret{α:Type}{x:α}{P:α->Prop}(h:P x):jb (ah x) P:=⟨x,rfl,h⟩
theorem br{α:Type}{b:aW}{A B:az α}{P:α->Prop}(h1:b=ai->jb A P)(h2:b=ak->jb B P):jb (bif b then A else B) P:=by
 cases b
 ·exact h2 rfl
 ·exact h1 rfl
theorem ck{α:Type}{b:aW}{A B:az α}{P:α->Prop}(h:b=ai)(h1:jb A P):jb (bif b then A else B) P:=by subst h;exact h1
theorem cn{α:Type}{b:aW}{A B:az α}{P:α->Prop}(h:b=ak)(h1:jb B P):jb (bif b then A else B) P:=by subst h;exact h1
theorem eq{α:Type}{o o':az α}{P:α->Prop}(e:o=o')(h:jb o' P):jb o P:=by rw[e];exact h
theorem call{α β:Type}{b:aW}{w u:β}{X:β->az α}{P:α->Prop}(h:b=ai)(e:w=u)(hx:jb (X u) P):jb (bif b then Lib.lt w X else aj) P:=by subst h;rw[au,fm.lt_eq,e];exact hx
theorem below{α:Type}{q:aQ}{a s k:ax}{X:ax×aQ×ax×ax->az α}{P:α->Prop}(hI:I q a)(hx:∀n a' s',I q a'->0<=n->(0<k->n<k)->jb (X (n,q,a',s')) P):jb (bif kP.c q a s k then Lib.lt (kP.v q a s k) X else aj) P:=by obtain⟨n,a',s',h1,h2,h3,h4,h5⟩:=kP.ok q a s k hI;exact call h1 h2 (hx n a' s' h3 h4 h5)
theorem once{α:Type}{q:aQ}{a s k:ax}{X:aW×aQ×ax×ax->az α}{P:α->Prop}(hI:I q a)(hx:∀n a' s',I q a'->jb (X (n,q,a',s')) P):jb (bif Ht.c q a s k then Lib.lt (Ht.v q a s k) X else aj) P:=by obtain⟨n,a',s',h1,h2,h3⟩:=Ht.ok q a s k hI;exact call h1 h2 (hx n a' s' h3)
theorem T7{α:Type}{q:aQ}{a s:ax}{l:aQ}{X:ax×aQ×ax×ax×aQ->az α}{P:α->Prop}(R:ax->Prop)(hR:0<l.length/\∀i,i<l.length->R (bI (ar l i 0)))(hI:I q a)(hx:∀n a' s',I q a'->R n->jb (X (n,q,a',s',l)) P):jb (bif sC.c q a s l then Lib.lt (sC.v q a s l) X else aj) P:=by obtain⟨n,a',s',h1,h2,h3,h4⟩:=sC.ok q a s l hI hR.1;exact call h1 h2 (hx _ a' s' h3 (hR.2 n h4))
theorem ak9{α:Type}{q:aQ}{a s:ax}{l:aQ}{X:aq×aQ×ax×ax×aQ->az α}{P:α->Prop}(R:aq->Prop)(hR:0<l.length/\∀i,i<l.length->R (bn (ar l i 0)))(hI:I q a)(hx:∀n a' s',I q a'->R n->jb (X (n,q,a',s',l)) P):jb (bif nT.c q a s l then Lib.lt (nT.v q a s l) X else aj) P:=by obtain⟨n,a',s',h1,h2,h3,h4⟩:=nT.ok q a s l hI hR.1;exact call h1 h2 (hx _ a' s' h3 (hR.2 n h4))
theorem key{α:Type}{q:aQ}{a s:ax}{X:aq×aQ×ax×ax->az α}{P:α->Prop}(hI:I q a)(hx:∀n a' s',I q a'->n.size=2->jb (X (n,q,a',s')) P):jb (bif rk.c q a s then Lib.lt (rk.v q a s) X else aj) P:=by obtain⟨n,a',s',h1,h2,h3,h4⟩:=rk.ok q a s hI;exact call h1 h2 (hx n a' s' h3 h4)
theorem idx{n:ax}{m:aE}(h0:0<=n)(h1:0<(m:ax)->n<(m:ax))(hm:decide ((m:ax)>0)=ai):(decide (0<=n)&&decide (n<(m:ax)))=true:=by have:=h1 (cm hm);rw[aG h0,aG this,aM]
end A_Post

namespace Ke
open dm (I)
open A_Post (jb)
open g9 (Ev ic)
def Dr(q e w m s fe cl dk cd bd:aQ)(x:ax×ax×aq×ax×aQ×aQ×ax×ax×aQ×aQ×aQ×aQ×aQ×aQ×aQ×aQ×aQ):Prop:=
 ∃k id t n a' s',x=(k,id,t,n,[],q,a',s',e,w,m,s,fe,cl,dk,cd,bd)/\I q a'/\ic ⟨k,id,t,n,[]⟩=ai/\k<=6
theorem leaf{q e w m s fe cl dk cd bd:aQ}{k id:ax}{t:aq}{n a' s':ax}(hI:I q a')(hk:1<=k/\k<=6)(IC:0<=id/\id<=30)(ht:t.size<=60)(hn:0<=n):jb (ah (k,id,t,n,([]:aQ),q,a',s',e,w,m,s,fe,cl,dk,cd,bd)) (Dr q e w m s fe cl dk cd bd):=by
 refine⟨_,rfl,k,id,t,n,a',s',rfl,hI, ?_,hk.2⟩
 unfold ic;rw[aG (show 1<=k/\k<=7 by omega),aG IC,aG ht,aG hn];rfl
theorem idA{n:ax}(h0:0<=n)(h1:(0:ax)<3->n<3):0<=n/\n<=30:=by omega
theorem idB{n:ax}(h0:0<=n)(h1:(0:ax)<9->n<9):0<=bH (1+n)/\bH (1+n)<=30:=by rw[c9 (x:=1+n) (by omega) (by omega)];omega
theorem idC{l:aQ}{n:ax}(hl:∀j,j<l.length->0<=bI (ar l j 0)/\bI (ar l j 0)<=30)(h0:0<=n)(h1:0<(l.length:ax)->n<(l.length:ax))(hp:decide ((l.length:ax)>0)=ai):0<=bI (ar l n.toNat 0)/\bI (ar l n.toNat 0)<=30:=by have:=h1 (cm hp);exact hl _ (by omega)
theorem tA{t:aq}(h:t.size=2):t.size<=60:=by omega
theorem opens{P:R->Prop}(N:aE)(K:ax->ax->ax->ax->aQ->ax->ax->aQ->aQ->aQ->aQ->aQ->aQ->aQ->aQ->aQ->ax->ax->ax->ax->ax->aq->ax->ax->ax->aq->ax->aQ->az R)(x1 x2 x3:ax)(x5:aQ)(x6 x7:ax)(x8 x9 x10 x11 LN x13 x14 x15 x16:aQ)(x17 x18 x19 x20 x21:ax)(x22:aq)(x23 x24 x25:ax)(x26:aq)(x27:ax)(hf:LN.length<=20)
  (hK:∀l:aQ,(∀j,j<l.length->0<=bI (ar l j 0)/\bI (ar l j 0)<=30)->jb (K x1 x2 x3 (LN.length:ax) x5 x6 x7 x8 x9 x10 x11 LN x13 x14 x15 x16 x17 x18 x19 x20 x21 x22 x23 x24 x25 x26 x27 l) P):
  ∀(d i n:aE) (l:aQ),LN.length-i<=d->i<=LN.length->d<n->l.length<=i->(∀j,j<l.length->0<=bI (ar l j 0)/\bI (ar l j 0)<=30)->
   jb (l4 N K n x1 x2 x3 (i:ax) x5 x6 x7 x8 x9 x10 x11 LN x13 x14 x15 x16 x17 x18 x19 x20 x21 x22 x23 x24 x25 x26 x27 l) P:=by
 have fin:∀(n:aE) (l:aQ),(∀j,j<l.length->0<=bI (ar l j 0)/\bI (ar l j 0)<=30)->jb (l4 N K (n+1) x1 x2 x3 (LN.length:ax) x5 x6 x7 x8 x9 x10 x11 LN x13 x14 x15 x16 x17 x18 x19 x20 x21 x22 x23 x24 x25 x26 x27 l) P:=λn l hl=>by refine A_Post.eq ?_ (hK l hl);simp only[l4,r4,Lib.dn,bm,bf,ay]
 intro d;induction d with
 |zero=>
  intro i n l h1 h2 h3 h4 h5;obtain⟨n,rfl⟩:∃k,n=k+1:=⟨n-1,by omega⟩
  have:i=LN.length:=by omega
  subst this;exact fin n l h5
 |succ d ih=>
  intro i n l h1 h2 h3 h4 h5;obtain⟨n,rfl⟩:∃k,n=k+1:=⟨n-1,by omega⟩
  by_cases h:i<LN.length
  ·have j7:bH ((i:ax)+1)=((i+1:aE):ax):=c9 (by omega) (by omega);by_cases hs:bI (ar LN i 2)=1
   ·have hr:cg (l.length+(aA (aN [Ck.i ao] 1) 0 [CV.i ao (i:ax)]).length) 8=true:=by rw[fm.lj];exact Lib.b_ (by omega) (by omega)
    refine A_Post.eq (o':=l4 N K n x1 x2 x3 ((i+1:aE):ax) x5 x6 x7 x8 x9 x10 x11 LN x13 x14 x15 x16 x17 x18 x19 x20 x21 x22 x23 x24 x25 x26 x27 (l++aA (aN [Ck.i ao] 1) 0 [CV.i ao (i:ax)])) ?_ (ih (i+1) n _ (by omega) h (by omega) (by rw[bV,fm.lj];omega) λj hj=> ?_)
    ·simp only[l4,r4,Lib.dn,h,aP,Lib.cE,aM,au,Lib.dZ,hs,hr,j7]
    ·rw[bV,fm.lj]at hj;by_cases jW:j<l.length
     ·have:ar (l++aA (aN [Ck.i ao] 1) 0 [CV.i ao (i:ax)]) j 0=ar l j 0:=by unfold ar;rw[cY,cY,dF jW];simp only[cY]
      rw[this];exact h5 j jW
     ·have:ar (l++aA (aN [Ck.i ao] 1) 0 [CV.i ao (i:ax)]) j 0=CV.i ao (i:ax):=by unfold ar;rw[cY,cY,dc (by omega),show j-l.length=0 by omega];rfl
      rw[this];show 0<=(i:ax)/\(i:ax)<=30;omega
   ·refine A_Post.eq (o':=l4 N K n x1 x2 x3 ((i+1:aE):ax) x5 x6 x7 x8 x9 x10 x11 LN x13 x14 x15 x16 x17 x18 x19 x20 x21 x22 x23 x24 x25 x26 x27 l) ?_ (ih (i+1) n _ (by omega) h (by omega) (by omega) h5);simp only[l4,r4,Lib.dn,h,aP,Lib.cE,aM,au,ay,Lib.dZ,hs,bf,j7]
  ·have:i=LN.length:=by omega
   subst this;exact fin n l h5
set_option maxHeartbeats 8000000 in
theorem body(q:aQ)(a s:ax)(now:ax)(en w m sk:aQ)(ag:ax)(fe cl:aQ)(hits:ax)(dk cd bd:aQ)(hI:I q a)(hf:fe.length<=20)(hc:∀j,j<cl.length->0<=bI (ar cl j 0)/\bI (ar cl j 0)<=30):jb (vo q a s now en w m sk ag fe cl hits dk cd bd) (Dr q en w m sk fe cl dk cd bd):=by
 unfold vo;generalize hN:Lib.cU=N;have hN1:20<N:=by rw[<-hN];exact cC (by omega)
 unfold b;refine A_Post.T7 (λn=>1<=n/\n<=6) ⟨by decide,by decide⟩ hI (λkd a1 s1 I1 hk=> ?_);refine opens N _ _ _ _ _ _ _ _ _ _ _ _ _ _ _ _ _ _ _ _ _ _ _ _ _ _ _ hf (λl hl=> ?_) fe.length 0 N _ (by omega) (by omega) (by omega) (bB _) (λj hj=>cO hj (Nat.not_lt_zero j));dsimp only
 repeat' first
  |refine A_Post.below (by assumption) (λn a s hI h0 h1=> ?_)
  |refine A_Post.once (by assumption) (λn a s hI=> ?_)
  |refine A_Post.key (by assumption) (λn a s hI h0=> ?_)
  |refine A_Post.T7 (λn=>0<=n) ⟨by decide,by decide⟩ (by assumption) (λn a s hI h0=> ?_)
  |refine A_Post.ak9 (λt=>t.size<=60) ⟨by decide,by decide⟩ (by assumption) (λn a s hI h0=> ?_)
  |refine A_Post.ck (A_Post.idx (by assumption) (by assumption) (by assumption)) ?_
  |refine leaf (by assumption) (by first|exact hk|decide) (by first|exact idA (by assumption) (by assumption)|exact idB (by assumption) (by assumption)|exact idC hl (by assumption) (by assumption) (by assumption)|exact idC hc (by assumption) (by assumption) (by assumption)|decide) (by first|exact bB _|assumption|exact tA (by assumption)) (by first|exact Int.le_refl 0|assumption)
  |refine A_Post.br (λh=> ?_) (λh=> ?_)
end Ke

namespace sV
theorem ok(l:aQ)(hl:l.length<=4294967296):c l=ai/\v l=l:=by refine out l ?_;unfold vo b;rw[show bM (aN [Ck.s] 0)+l.length=l.length by simp[aN],Lib.b_ (by omega) (by omega)];rfl
end sV

namespace jr
open Lib (rr rs)
theorem ok(w m:aC aq)(s:aC (aC ax))(a:ax)(hw:w.length<=1048576)(hm:m.length<=1048576)(hf:jj.oC s):c (rs w) (rs m) (rr s) a=ai/\v (rs w) (rs m) (rr s) a=(rs w,rs m,rr s,a):=by have h1:=sV.ok (rs w) (by rw[eH];omega);have h2:=sV.ok (rs m) (by rw[eH];omega);have h3:=jj.ok s a hf;exact out _ _ _ _ (by unfold vo b;rw[h1.1,h1.2,h2.1,h2.2,h3.1,h3.2,au,au,au])
end jr

namespace iL
open Lib (rr rs re rf rc Px)
theorem ok(p:Px)(hp:p.Fit 1048576):c p.now (re p.en) (rs p.w) (rs p.m) (rr p.s) p.a (rf p.fe) (rc p.cl) p.hits=ai/\v p.now (re p.en) (rs p.w) (rs p.m) (rr p.s) p.a (rf p.fe) (rc p.cl) p.hits=(p.now,re p.en,rs p.w,rs p.m,rr p.s,p.a,rf p.fe,rc p.cl,p.hits):=by have he:=hp.en;have hf:=hp.fe;have hc:=hp.cl;have h1:=wF.ok (re p.en) (by rw[dA];omega);have h2:=jr.ok p.w p.m p.s p.a hp.w hp.m ⟨hp.s.1,hp.s.2.1⟩;exact out _ _ _ _ _ _ _ _ _ (by unfold vo b;rw[h1.1,h1.2,h2.1,h2.2,au,au,Lib.b_ (by simp[aN,dP];omega) (by simp[aN,dP];omega),Lib.b_ (by simp[aN,e9];omega) (by simp[aN,e9];omega)];rfl)
end iL

namespace pE
open Lib (rr)
theorem eL(n a b:ax):lr.v n a b=decide (a<=n/\n<=b):=fJ.eL n a b
theorem ok(s:aC (aC ax))(a:ax)(hf:jj.oC s):c (rr s) a=ai/\v (rr s) a=fJ.n7 s a:=by
 refine out _ _ ?_;unfold vo b;have hl:=hf.1;rw[gH]
 have inner:∀i (h:i<s.length) (K0 K1:aW->aQ->aQ->ax->ax->aQ->ax->ax->aQ->ax->az aW) (kf kt:az aW) (x:ax)
   (h0:∀j:ax,K0 ak (Lib.ri s[i]) (rr s) s.length i (Lib.ri s[i]) x j (rr s) a=kf) (h1:∀j:ax,K1 ak (Lib.ri s[i]) (rr s) s.length i (Lib.ri s[i]) x j (rr s) a=kt),x=(s[i].length:ax)->l5 Lib.cU K0 K1 Lib.cU ak (Lib.ri s[i]) (rr s) s.length (i:ax) (Lib.ri s[i]) x 0 (rr s) a=bif(s[i]).all fJ.Nl then kt else kf:=λi h K0 K1 kf kt x h0 h1 hx=>by
  subst hx
  exact o0 (s[i]) fJ.Nl (λm (j:aE)=>l5 Lib.cU K0 K1 m ak (Lib.ri s[i]) (rr s) s.length (i:ax) (Lib.ri s[i]) s[i].length (j:ax) (rr s) a) kf kt
   (λm j hj hp=>by have hl:=hf.2 _ (bA h);unfold fJ.Nl at hp;simp only[l5,r5,Lib.dn,hj,aP,Lib.cE,aM,au,Lib.dZ,Lib.gf,P9 hj,bI,eL,hp,aY,ay,Lib.c6 hj (by omega:s[i].length<=9223372036854775807)])
   (λm j hj hp=>by unfold fJ.Nl at hp;simp only[l5,r5,Lib.dn,hj,aP,Lib.cE,aM,au,Lib.dZ,Lib.gf,P9 hj,bI,eL,hp,bQ,h0])
   (λm=>by simp only[l5,r5,Lib.dn,bm,bf,ay,h1]) Lib.cU (cC (by have:=hf.2 _ (bA h);omega))
 have ro:∀q:aC ax,fJ.sd q=(q.all fJ.Nl&&decide (q.length=16)):=λq=>Bool.and_comm ..
 have key:=o0 s fJ.sd (λm (i:aE)=>l2 Lib.cU (λ(y36:aW) (_:aQ) (_ _:ax) (_:aQ) (_:ax)=>ah y36) (λ(_:aW) (_:aQ) (_ _:ax) (y46:aQ) (y47:ax)=>bif(decide ((↑(bM y46):ax)=3))then(ah (lr.v y47 0 63))else(ah ak)) m ak (rr s) s.length (i:ax) (rr s) a) (ah ak) (ah (decide (s.length=3)&&decide (0<=a/\a<=63)))
  (λm i h hp=>by rw[ro,aL]at hp;have JJ:=cm hp.2;simp only[l2,r2,gH,Lib.dn,h,aP,Lib.cE,aM,au,Lib.dZ,Jm h,iR,Lib.gf];rw[inner i h _ _ (ah ak) _ _ (λ_=>rfl) (λ_=>rfl) rfl,hp.1,au,Lib.gf,JJ,show(((16:aE):ax) !=16)=ak from rfl,ay,Lib.c6 h (by omega)])
  (λm i h hp=>by
   rw[ro]at hp;simp only[l2,r2,gH,Lib.dn,h,aP,Lib.cE,aM,au,Lib.dZ,Jm h,iR,Lib.gf];rw[inner i h _ _ (ah ak) _ _ (λ_=>rfl) (λ_=>rfl) rfl];cases ha:(s[i]).all fJ.Nl with
   |false=>rfl
   |true=>rw[ha,bh]at hp;have:=oH hp;rw[au,Lib.gf,show((s[i].length:ax) !=16)=ai by simp;omega,au])
  (λm=>by simp only[l2,r2,gH,Lib.dn,bm,bf,ay,eL];rw[show decide ((s.length:ax)=3)=decide (s.length=3)by rw[ca];omega];cases decide (s.length=3)<;>rfl) Lib.cU (cC (by omega))
 refine key.trans ?_;unfold fJ.n7;cases s.all fJ.sd<;>cases decide (s.length=3)<;>cases decide (0<=a/\a<=63)<;>rfl
end pE

namespace Du
theorem ok(n:ax)(h0:0<=n)(h1:n<=4294967296):c n=ai/\v n=[]:=by
 refine out n ?_;unfold vo b;have e:bH (n-bH (0-0))=n:=by rw[show bH (0-0)=0 from rfl,Int.sub_zero,c9 (by omega) (by omega)]
 rw[e,aK (show¬n<0 by omega),ay];by_cases hn:n>0
 ·rw[aG hn,au,aG h0,aG (show n<=9223372036854775807 by omega),Lib.b_ (by simp;omega) (by simp;omega)];simp[eW]
 ·rw[aK hn,ay]
end Du

namespace wE
theorem ok(p q:aQ)(hp:p.length<=1048576)(hq:q.length<=1048576):c [[CV.l 9 p],[CV.l 9 q]]=ai/\v [[CV.l 9 p],[CV.l 9 q]]=p++q:=by
 refine out _ ?_;have w1:bH (0+(p.length:ax))=(p.length:ax):=by rw[Int.zero_add];exact c9 (by omega) (by omega)
 have w2:bH ((p.length:ax)+(q.length:ax))=(p.length:ax)+(q.length:ax):=c9 (by omega) (by omega);have hg:=Du.ok ((p.length:ax)+(q.length:ax)) (by omega) (by omega);have d1:decide ((p.length:ax)<0)=false:=aK (by omega);have d2:decide ((p.length:ax)+(q.length:ax)<0)=false:=aK (by omega);have g1:cg (0+p.length) 16=true:=Lib.b_ (by omega) (by omega);have g2:cg (p.length+q.length) 16=true:=Lib.b_ (by omega) (by omega);have c0:iR (ar [[CV.l 9 p],[CV.l 9 q]] 0 0)=p:=rfl;have c1:iR (ar [[CV.l 9 p],[CV.l 9 q]] 1 0)=q:=rfl;unfold vo b;obtain⟨n,hn⟩:∃n,Lib.cU=n+3:=⟨18446744073709551613,rfl⟩
 generalize Lib.cU=B at hn⊢;subst hn;have k3:∀(R:Type) (K:aQ->ax->aQ->ax->ax->az R) (S:aQ),S=[[CV.l 9 p],[CV.l 9 q]]->l3 (n+3) K (n+3) S 0 S 2 0=K S ((p.length:ax)+(q.length:ax)) S 2 2:=by intro R K S hS;subst hS;simp only[l3,r3,de,jL,show aZ 0=0 from rfl,c0,w1,d1,show bH (0+1)=1 from rfl,show aZ 1=1 from rfl,c1,w2,d2,show bH (1+1)=2 from rfl,ay,show decide ((0:ax)<2)=ai from rfl,show decide ((1:ax)<2)=ai from rfl,show decide ((2:ax)<2)=ak from rfl,show decide ((0:ax)<=0)=ai from rfl,show decide ((0:ax)<=1)=ai from rfl,show((0+1+1:aE):ax)=2 from rfl,aM,au]
 have k11:∀(R:Type) (K:aQ->ax->ax->aQ->az R) (S:aQ),S=[[CV.l 9 p],[CV.l 9 q]]->O3 (n+3) K (n+3) S 2 0 []=K S 2 2 (p++q):=by intro R K S hS;subst hS;simp only[O3,wg,de,jL,show aZ 0=0 from rfl,c0,g1,show bH (0+1)=1 from rfl,show aZ 1=1 from rfl,c1,gD,g2,show bH (1+1)=2 from rfl,ay,show decide ((0:ax)<2)=ai from rfl,show decide ((1:ax)<2)=ai from rfl,show decide ((2:ax)<2)=ak from rfl,show decide ((0:ax)<=0)=ai from rfl,show decide ((0:ax)<=1)=ai from rfl,show((0+1+1:aE):ax)=2 from rfl,aM,au]
 show l3 (n+3) _ (n+3) _ 0 _ 2 0=_;rw[k3 _ _ _ rfl,hg.1,hg.2,au];exact k11 _ _ _ rfl
end wE

namespace qo
theorem ok(w m:aC aq)(s:aQ)(a:ax)(hw:w.length<=1048576)(hm:m.length<=1048576):c (Lib.rs w) (Lib.rs m) s a=ai/\v (Lib.rs w) (Lib.rs m) s a=Lib.rs (w++m):=by
 have h:=wE.ok (Lib.rs w) (Lib.rs m) (by rw[eH];exact hw) (by rw[eH];exact hm);have e:aA (aA (aN [Ck.l 9] 2) 0 [CV.l 9 (Lib.rs w)]) 1 [CV.l 9 (Lib.rs m)]=[[CV.l 9 (Lib.rs w)],[CV.l 9 (Lib.rs m)]]:=rfl;have e2:Lib.rs w++Lib.rs m=Lib.rs (w++m):=by unfold Lib.rs;rw[dh]
 exact out _ _ _ _ (by unfold vo b;rw[e,h.1,h.2,au,e2])
end qo

namespace Ay
theorem ok(l:aC aq)(k:aq)(hl:l.length<=4294967296):c (Lib.rs l) k=ai/\decide (v (Lib.rs l) k≥0)=fg.has l k:=by
 have h:=out (Lib.rs l) k (x:=Lib.fi (λi=>decide ((l.getD i ⟨#[]⟩)=k)) l.length 0) (by
  unfold vo b;rw[eH];refine nY (λi=>decide ((l.getD i ⟨#[]⟩)=k)) l.length (λm (i:aE)=>l2 Lib.cU (λ(_:aQ) (_:aq) (y7 _ _:ax)=>ah y7) (λ(_:aQ) (_:aq) (_ _ _:ax)=>ah (-1)) m (Lib.rs l) k 0 (l.length:ax) (i:ax)) ah (λm i hi hp=> ?_) (λm i hi hp=> ?_) (λm=> ?_) Lib.cU (cC (by omega))
  ·have hg:l.getD i ⟨#[]⟩=l[i]:=by simp[j_,hi]
   rw[hg]at hp;have mE:decide (k=l[i])=true:=by rw[<-hp,ca];exact Im
   simp only[l2,r2,eH,Lib.dn,hi,aP,Lib.cE,aM,au,Lib.dZ,V0 hi,bn,Lib.fj,mE]
  ·have hg:l.getD i ⟨#[]⟩=l[i]:=by simp[j_,hi]
   rw[hg]at hp;have mE:decide (k=l[i])=false:=by rw[<-hp,ca];exact Im
   simp only[l2,r2,eH,Lib.dn,hi,aP,Lib.cE,aM,au,Lib.dZ,V0 hi,bn,Lib.fj,mE,ay,Lib.c6 hi (by omega:l.length<=9223372036854775807)]
  ·simp only[l2,r2,Lib.dn,bm,bf,ay])
 refine⟨h.1, ?_⟩
 rw[h.2];exact Lib.Kx l (λx=>decide (x=k)) _ (λi hi=>by simp[j_,hi])
end Ay

namespace sw
theorem ok(l:aC aq)(k:aq)(hl:l.length<=4294967296):c (Lib.rs l) k=ai/\v (Lib.rs l) k=fg.has l k:=by have h:=Ay.ok l k hl;exact out _ _ (by unfold vo b;rw[h.1,h.2,au])
end sw

namespace oW
open Lib (rr rs)
open fg (has without gG lG)
open jP (eU KX nt sM xZ)
theorem iN(k:aq):zf.v k=eU k:=fJ.eL _ _ _
theorem ok(w m:aC aq)(s:aC (aC ax))(a:ax)(hw:w.length<=1048576)(hm:m.length<=1048576)(hf:jj.oC s):c (rs w) (rs m) (rr s) a=ai/\v (rs w) (rs m) (rr s) a=sM w m s a:=by
 refine out _ _ _ _ ?_;have h2:=pE.ok s a hf;have h3:=qo.ok w m (rr s) a hw hm;unfold vo b;rw[h3.1,h3.2,au,eH];have hl:(w++m).length<=2097152:=by rw[bV];omega
 have gz:∀i,i<(w++m).length->sw.c (rs ((w++m).take i)) ((w++m).getD i ⟨#[]⟩)=ai/\sw.v (rs ((w++m).take i)) ((w++m).getD i ⟨#[]⟩)=has ((w++m).take i) ((w++m).getD i ⟨#[]⟩):=λi hi=>sw.ok _ _ (by rw[eJ];omega);have hk:∀i (hi:i<(w++m).length),bn (ar (rs (w++m)) i 0)=(w++m).getD i ⟨#[]⟩:=λi hi=>by rw[V0 hi,show(w++m).getD i ⟨#[]⟩=(w++m)[i]by rw[cY,eR hi];rfl];rfl
 generalize hL:w++m=L at hl gz hk
 have key:=jQ (KX L) L.length (λn (i:aE)=>l3 Lib.cU (λ(y8:aW) (_ _:ax) (_ _ _:aQ) (_:ax) (_:aQ)=>ah y8) (λ(_:aW) (_ _:ax) (DS wc JO:aQ) (JP:ax) (_:aQ)=>bif(decide ((↑(bM DS):ax)<=2))then(bif(decide ((↑(bM wc):ax)<=4))then(bif(pE.c JO JP)then(ah (pE.v JO JP))else(aj))else(ah ak))else(ah ak)) n ak (L.length:ax) (i:ax) (rs w) (rs m) (rr s) a (rs L)) (ah ak) (ah (decide (w.length<=2)&&(decide (m.length<=4)&&fJ.n7 s a)))
  (λn i hi hp=>by
   unfold KX at hp;rw[aL,dv]at hp;have b1:iy 0 (i:ax) (L.length:ax)=true:=by simp[iy];omega
   simp only[l3,r3,eH,Lib.dn,hi,aP,Lib.cE,aM,au,Lib.dZ,hk i hi,iN,hp.1,aY,ay,b1,xZ,(gz i hi).1,(gz i hi).2,hp.2,Lib.c6 hi (by omega:L.length<=9223372036854775807)])
  (λn i hi hp=>by
   have b1:iy 0 (i:ax) (L.length:ax)=true:=by simp[iy];omega
   unfold KX at hp;cases h1:eU (L.getD i ⟨#[]⟩)with
   |false=>simp only[l3,r3,eH,Lib.dn,hi,aP,Lib.cE,aM,au,Lib.dZ,hk i hi,iN,h1,bQ]
   |true=>rw[h1,bh,mH]at hp;simp only[l3,r3,eH,Lib.dn,hi,aP,Lib.cE,aM,au,Lib.dZ,hk i hi,iN,h1,aY,ay,b1,xZ,(gz i hi).1,(gz i hi).2,hp])
  (λn=>by simp only[l3,r3,eH,Lib.dn,bm,bf,ay,h2.1,h2.2,au];rw[show decide ((w.length:ax)<=2)=decide (w.length<=2)by rw[ca];omega,show decide ((m.length:ax)<=4)=decide (m.length<=4)by rw[ca];omega];cases decide (w.length<=2)<;>cases decide (m.length<=4)<;>rfl) Lib.cU (cC (by omega))
 refine key.trans ?_;unfold sM nt;rw[hL];cases (cR L.length).all (KX L)<;>rfl
end oW

namespace sq
open Lib (rr rs)
open fg (has)
theorem W1(w m:aC aq)(k:aq):has (w++m) k=(has w k||has m k):=by unfold has;rw[List.any_append]
theorem ok(w m:aC aq)(s:aQ)(a:ax)(k:aq)(hw:w.length<=1048576)(hm:m.length<=1048576):c (rs w) (rs m) s a k=ai/\v (rs w) (rs m) s a k=(has w k||has m k):=by have h1:=qo.ok w m s a hw hm;have h2:=sw.ok (w++m) k (by rw[bV];omega);exact out _ _ _ _ _ (by unfold vo b;rw[h1.1,h1.2,h2.1,h2.2,au,au,W1])
end sq

namespace PY
open Lib (rr rs re el pz rR rS rT En)
open fg (has)
open jP (sM)
open nH (Hw MQ uX)
theorem El(k:aq)(s l:ax)(b:aq):wz.v k s l b=nk.v k s l b:=rfl
theorem ok(i0:ax)(en:aC En)(w m:aC aq)(s:aC (aC ax))(a:ax)(r6 r7:aQ)(i8:ax)(he:en.length<=1048576)(hw:w.length<=1048576)(hm:m.length<=1048576)(hf:jj.oC s):
  c i0 (re en) (rs w) (rs m) (rr s) a r6 r7 i8=ai/\v i0 (re en) (rs w) (rs m) (rr s) a r6 r7 i8=MQ en w m s a:=by
 refine out _ _ _ _ _ _ _ _ _ ?_;have h1:=oW.ok w m s a hw hm hf;have h2:=λk=>sq.ok w m (rr s) a k hw hm;have h3:=qo.ok w m (rr s) a hw hm;unfold vo b;rw[dA]
 have key:=jQ (Hw en w m) en.length (λn (i:aE)=>l2 Lib.cU (λ(Hj:aW) (_:aQ) (_ _ _:ax) (_ _ _ _:aQ) (_:ax) (_ _:aQ) (_:ax)=>ah Hj) (λ(_:aW) (_:aQ) (_ _ _:ax) (Qi PM Vq y34:aQ) (y35:ax) (_ _:aQ) (_:ax)=>bif(oW.c PM Vq y34 y35)then(bif(oW.v PM Vq y34 y35)then(bif(qo.c PM Vq y34 y35)then(ah (decide ((↑(bM (qo.v PM Vq y34 y35)):ax)=(↑(bM Qi):ax))))else(aj))else(ah ak))else(aj)) n ak (re en) (en.length:ax) (i:ax) i0 (re en) (rs w) (rs m) (rr s) a r6 r7 i8) (ah ak) (ah (sM w m s a&&decide (w.length+m.length=en.length)))
  (λn i hi hp=>by
   unfold Hw uX at hp;rw[aL,aL]at hp;obtain⟨p1,p2,p3⟩:=hp;by_cases hz:i=0
   ·subst hz;simp only[l2,r2,dA,Lib.dn,hi,aP,Lib.cE,aM,au,Lib.dZ,pz hi,rR hi,rS hi,rT hi,bn,bI,El,p1,aY,ay,aK (show¬(((0:aE):ax)>0)by omega),(h2 _).1,(h2 _).2,p3,Lib.c6 hi (by omega:en.length<=9223372036854775807)]
   ·rw[aK hz,n_]at p2;have j7:i-1<en.length:=by omega
    simp only[l2,r2,dA,Lib.dn,hi,aP,Lib.cE,aM,au,Lib.dZ,pz hi,rR hi,rS hi,rT hi,bn,bI,El,p1,aY,ay,aG (show(i:ax)>0 by omega),lS (show 0<i by omega) (by omega),j7,pz j7,p2,(h2 _).1,(h2 _).2,p3,Lib.c6 hi (by omega:en.length<=9223372036854775807)])
  (λn i hi hp=>by
   unfold Hw uX at hp;cases p1:nk.v (el en i).k (el en i).st (el en i).li (el en i).bo with
   |false=>simp only[l2,r2,dA,Lib.dn,hi,aP,Lib.cE,aM,au,Lib.dZ,pz hi,rR hi,rS hi,rT hi,bn,bI,El,p1,bQ]
   |true=>
    rw[p1,bh]at hp;by_cases hz:i=0
    ·subst hz;rw[aG rfl,Af,bh]at hp;simp only[l2,r2,dA,Lib.dn,hi,aP,Lib.cE,aM,au,Lib.dZ,pz hi,rR hi,rS hi,rT hi,bn,bI,El,p1,aY,bQ,ay,aK (show¬(((0:aE):ax)>0)by omega),(h2 _).1,(h2 _).2,hp]
    ·rw[aK hz,n_]at hp;have j7:i-1<en.length:=by omega
     cases p2:bY (aF (el en (i-1)).k) (aF (el en i).k)with
     |false=>simp only[l2,r2,dA,Lib.dn,hi,aP,Lib.cE,aM,au,Lib.dZ,pz hi,rR hi,rS hi,rT hi,bn,bI,El,p1,aY,bQ,ay,aG (show(i:ax)>0 by omega),lS (show 0<i by omega) (by omega),j7,pz j7,p2]
     |true=>rw[p2,bh]at hp;simp only[l2,r2,dA,Lib.dn,hi,aP,Lib.cE,aM,au,Lib.dZ,pz hi,rR hi,rS hi,rT hi,bn,bI,El,p1,aY,bQ,ay,aG (show(i:ax)>0 by omega),lS (show 0<i by omega) (by omega),j7,pz j7,p2,(h2 _).1,(h2 _).2,hp])
  (λn=>by simp only[l2,r2,Lib.dn,bm,bf,ay,h1.1,h1.2,h3.1,h3.2,au,eH,dA,bV];rw[show decide (((w.length+m.length:aE):ax)=(en.length:ax))=decide (w.length+m.length=en.length)by rw[ca];omega];cases sM w m s a<;>rfl) Lib.cU (cC (by omega))
 refine key.trans ?_;unfold MQ;cases (cR en.length).all (Hw en w m)<;>rfl
end PY

namespace fW
def op(r:aQ)(i:aE):aW:=decide (bI (ar r i 2)=1)
def g(r:aQ)(i j:aE):aW:= !(op r i&&(op r j&&cF (aF (bn (ar r i 0))) (aF (bn (ar r j 0)))))
def val(r:aQ):aW:=(cR r.length).all λi=>(cR i).all (g r i)
end fW

namespace qp
def p(s0:aQ)(gM:aq)(i:aE):aW:=HN.v (bn (ar s0 i 0)) (bn (ar s0 i 1)) (bI (ar s0 i (1+1))) (bI (ar s0 i (1+1+1))) (bI (ar s0 i (1+1+1+1))) gM
theorem ok(s0:aQ)(gM:aq)(hl:s0.length<=4294967296):c s0 gM=ai/\v s0 gM=Lib.fi (p s0 gM) s0.length 0:=by
 refine out s0 gM ?_;unfold vo b;refine nY (p s0 gM) s0.length (λm (i:aE)=>l2 Lib.cU (λ(_:aQ) (_:aq) (y7 _ _:ax)=>ah y7) (λ(_:aQ) (_:aq) (_ _ _:ax)=>ah (-1)) m s0 gM 0 (s0.length:ax) (i:ax)) ah (λm i hi hp=> ?_) (λm i hi hp=> ?_) (λm=> ?_) Lib.cU (cC (by omega))
 ·unfold p at hp;simp only[l2,r2,Lib.dn,Lib.cE,Lib.dZ,hi,aP,aM,au,hp]
 ·unfold p at hp;simp only[l2,r2,Lib.dn,Lib.cE,Lib.dZ,hi,aP,aM,au,hp,ay,Lib.c6 hi (by omega:s0.length<=9223372036854775807)]
 ·simp only[l2,r2,Lib.dn,bm,bf,ay]
end qp

namespace Kd
theorem ok(i0:ax)(r1 r2 r3 r4:aQ)(i5:ax)(r6 r7:aQ)(i8:ax)(key:aq)(hl:r6.length<=4294967296):c i0 r1 r2 r3 r4 i5 r6 r7 i8 key=ai/\v i0 r1 r2 r3 r4 i5 r6 r7 i8 key=Lib.fi (qp.p r6 key) r6.length 0:=by have h:=qp.ok r6 key hl;exact out _ _ _ _ _ _ _ _ _ _ (by unfold vo b;rw[h.1,h.2,au])
end Kd

namespace MC
def q(r:aQ)(i:aE):aW:= !(fW.op r i&&(Lib.fi (qp.p r (bn (ar r i 0))) r.length 0 !=(i:ax)))
theorem same(r:aQ)(i:aE)(hi:i<r.length):q r i=(cR i).all (fW.g r i):=by
 unfold q;cases ho:fW.op r i with
 |false=>symm;rw[ly,bQ,bu];intro j _;unfold fW.g;rw[ho];rfl
 |true=>
  rw[bh];have hp:∀j,qp.p r (bn (ar r i 0)) j= !fW.g r i j:=by intro j;unfold qp.p HN.v fW.g;rw[ho,bh,Bool.not_not,Lib.fj,Lib.fj];unfold fW.op;rw[show decide (bn (ar r j 0)=bn (ar r i 0))=decide (bn (ar r i 0)=bn (ar r j 0))from by rw[ca];exact Im];cases decide (bn (ar r i 0)=bn (ar r j 0))<;>simp
  have hpi:qp.p r (bn (ar r i 0)) i=true:=by rw[hp];unfold fW.g;rw[ho,Lib.fj];simp
  rcases Lib.o_ (qp.p r (bn (ar r i 0))) r.length 0 with ⟨_,h2⟩|⟨k,h1,h2,h3,h4,h5⟩
  ·have:=h2 i (bB _) (by omega);rw[hpi]at this;cases this
  ·rw[h3];by_cases hk:k=i
   ·subst hk;rw[fT,bQ];symm;rw[bu];intro j hj;have:=h5 j (bB _) (by simpa using hj);rw[hp]at this;simpa using this
   ·have jm:k<i:=by
     rcases qJ k i with h|h
     ·exact h
     ·have:=h5 i (bB _) (by omega);rw[hpi]at this;cases this
    rw[show((k:ax) !=(i:ax))=ai from by simp;omega,aY];symm;rw[List.all_eq_false];refine⟨k,by simpa using jm, ?_⟩
    rw[hp]at h4;simpa using h4
theorem ok(i0:ax)(p1 p2 p3 p4:aQ)(i5:ax)(p6 p7:aQ)(i8:ax)(hl:p6.length<=4294967296):c i0 p1 p2 p3 p4 i5 p6 p7 i8=ai/\v i0 p1 p2 p3 p4 i5 p6 p7 i8=fW.val p6:=by
 refine out _ _ _ _ _ _ _ _ _ ?_;unfold vo b;have hw:∀i,i<p6.length->bH ((i:ax)+1)=((i+1:aE):ax):=λi h=>Lib.c6 h (by omega);have ho:=λkey=>Kd.ok i0 p1 p2 p3 p4 i5 p6 p7 i8 key hl
 have key:=jQ (q p6) p6.length (λm (i:aE)=>l2 Lib.cU (λ(Hj:aW) (_:aQ) (_ _ _:ax) (_ _ _ _:aQ) (_:ax) (_ _:aQ) (_:ax)=>ah Hj) (λ(_:aW) (_:aQ) (_ _ _:ax) (_ _ _ _:aQ) (_:ax) (_ _:aQ) (_:ax)=>ah ai) m ak p6 (p6.length:ax) (i:ax) i0 p1 p2 p3 p4 i5 p6 p7 i8) (ah ak) (ah ai)
  (λm i hi hp=>by
   unfold q fW.op at hp;cases e1:decide (bI (ar p6 i (1+1))=1)with
   |false=>simp only[l2,r2,Lib.dn,hi,aP,Lib.cE,aM,au,Lib.dZ,e1,ay,hw i hi]
   |true=>rw[show decide (bI (ar p6 i 2)=1)=ai from e1,bh,dv]at hp;simp only[l2,r2,Lib.dn,hi,aP,Lib.cE,aM,au,Lib.dZ,e1,(ho _).1,(ho _).2,hp,ay,hw i hi])
  (λm i hi hp=>by unfold q fW.op at hp;rw[mH,aL]at hp;obtain⟨e1,e2⟩:=hp;have e1:decide (bI (ar p6 i (1+1))=1)=true:=e1;simp only[l2,r2,Lib.dn,hi,aP,Lib.cE,aM,au,Lib.dZ,e1,(ho _).1,(ho _).2,e2])
  (λm=>by simp only[l2,r2,Lib.dn,bm,bf,ay]) Lib.cU (cC (by omega))
 refine key.trans ?_;rw[all_congr (λi hi=>same p6 i hi)];unfold fW.val;cases (cR p6.length).all λi=>(cR i).all (fW.g p6 i)<;>rfl
end MC

namespace Og
open Lib (rf el Fe Hg E0 Zi zK Qa Qb)
open nI (nA apart mA)
theorem eL(n a b:ax):lr.v n a b=decide (a<=n/\n<=b):=fJ.eL n a b
theorem one(fe:aC Fe):fW.val (rf fe)=(cR fe.length).all (apart fe):=by
 unfold fW.val;rw[dP];refine all_congr (λi hi=> ?_);unfold apart;refine all_congr (λj hj=> ?_);have jW:j<fe.length:=by omega
 unfold fW.g fW.op mA;rw[Hg hi,Hg jW,zK hi,zK jW];simp only[bn,bI,Lib.fj];rfl
theorem ok(i0:ax)(u1 u2 u3 u4:aQ)(i5:ax)(fe:aC Fe)(u7:aQ)(i8:ax)(hf:fe.length<=1048576):
  c i0 u1 u2 u3 u4 i5 (rf fe) u7 i8=ai/\v i0 u1 u2 u3 u4 i5 (rf fe) u7 i8=((cR fe.length).all (λi=>nA i0 (el fe i))&&(decide (fe.length<=20)&&(cR fe.length).all (apart fe))):=by
 refine out _ _ _ _ _ _ _ _ _ ?_;have h1:=MC.ok i0 u1 u2 u3 u4 i5 (rf fe) u7 i8 (by rw[dP];omega);rw[one]at h1;unfold vo b;rw[dP]
 have key:=jQ (λi=>nA i0 (el fe i)) fe.length (λn (i:aE)=>l2 Lib.cU (λ(Hj:aW) (_:aQ) (_ _ _:ax) (_ _ _ _:aQ) (_:ax) (_ _:aQ) (_:ax)=>ah Hj) (λ(_:aW) (_:aQ) (_ _ Qh:ax) (Qi PM Vq y34:aQ) (y35:ax) (y36 y37:aQ) (y38:ax)=>bif(decide ((↑(bM y36):ax)<=20))then(bif(MC.c Qh Qi PM Vq y34 y35 y36 y37 y38)then(ah (MC.v Qh Qi PM Vq y34 y35 y36 y37 y38))else(aj))else(ah ak)) n ak (rf fe) (fe.length:ax) (i:ax) i0 u1 u2 u3 u4 i5 (rf fe) u7 i8) (ah ak) (ah (decide (fe.length<=20)&&(cR fe.length).all (apart fe)))
  (λn i hi hq=>by
   unfold nA at hq;simp only[aL]at hq;obtain⟨q1,q2,q3,q4,q5⟩:=hq;have e1:decide (((el fe i).t.size:ax)>400)= !decide (((el fe i).t.size:ax)<=400):=by rw[<-decide_not,ca];omega
   simp only[l2,r2,dP,Lib.dn,hi,aP,Lib.cE,aM,au,Lib.dZ,Hg hi,E0 hi,Zi hi,Qa hi,Qb hi,bn,bI,eL,oW.iN,e1,q1,q2,q3,q4,q5,aY,ay,Lib.c6 hi (by omega:fe.length<=9223372036854775807)])
  (λn i hi hq=>by
   unfold nA at hq;have e1:decide (((el fe i).t.size:ax)>400)= !decide (((el fe i).t.size:ax)<=400):=by rw[<-decide_not,ca];omega
   simp only[l2,r2,dP,Lib.dn,hi,aP,Lib.cE,aM,au,Lib.dZ,Hg hi,E0 hi,Zi hi,Qa hi,Qb hi,bn,bI,eL,oW.iN,e1];revert hq;cases jP.eU (el fe i).k<;>cases decide (((el fe i).t.size:ax)<=400)<;>cases decide (1<=(el fe i).sta/\(el fe i).sta<=3)<;>cases decide (0<=(el fe i).li/\(el fe i).li<=999999)<;>cases decide (0<=(el fe i).st/\(el fe i).st<=i0)<;>intro hq<;>first|rfl|cases hq)
  (λn=>by simp only[l2,r2,Lib.dn,bm,bf,ay,dP,h1.1,h1.2,au];rw[show decide ((fe.length:ax)<=20)=decide (fe.length<=20)by rw[ca];omega];cases decide (fe.length<=20)<;>rfl) Lib.cU (cC (by omega))
 refine key.trans ?_;cases (cR fe.length).all (λi=>nA i0 (el fe i))<;>rfl
end Og

namespace PZ
open Lib (rf rc el Fe Cl PJ wc1 wc2 wc3 wc4 wc5 wc6)
open jP (eU)
open qK (Hv)
open Og (eL)
theorem step(N:aE)(g k0 k1:aW->aQ->ax->ax->ax->aQ->aQ->aQ->aQ->ax->aQ->aQ->ax->az R)(i0:ax)(q1 q2 q3 q4:aQ)(i5:ax)(fe:aC Fe)(cl:aC Cl)(i8:ax)(i:aE)(hi:i<cl.length)(hl:cl.length<=1048576):
  r2 N g k0 k1 ak (rc cl) cl.length (i:ax) i0 q1 q2 q3 q4 i5 (rf fe) (rc cl) i8=bif Hv i0 fe.length cl i then g ak (rc cl) cl.length ((i+1:aE):ax) i0 q1 q2 q3 q4 i5 (rf fe) (rc cl) i8 else k0 ak (rc cl) cl.length (i:ax) i0 q1 q2 q3 q4 i5 (rf fe) (rc cl) i8:=by
 unfold Hv;have e1:decide (((el cl i).got.size:ax)>400)= !decide (((el cl i).got.size:ax)<=400):=by rw[<-decide_not,ca];omega
 have e2:decide ((el cl i).age<0)= !decide (0<=(el cl i).age):=by rw[<-decide_not,ca];omega
 by_cases hz:i=0
 ·subst hz;simp only[r2,e9,dP,Lib.dn,hi,aP,Lib.cE,aM,au,Lib.dZ,PJ hi,wc1 hi,wc2 hi,wc3 hi,wc4 hi,wc5 hi,wc6 hi,bn,bI,eL,oW.iN,aK (show¬(((0:aE):ax)>0)by omega),ay,e1,e2,Lib.c6 hi (by omega:cl.length<=9223372036854775807),Af,bh];cases decide (1<=(el cl 0).id/\(el cl 0).id<=9)<;>cases eU (el cl 0).k<;>cases decide (1<=(el cl 0).sta/\(el cl 0).sta<=3)<;>cases decide (0<=(el cl 0).fe/\(el cl 0).fe<=(fe.length:ax))<;>cases decide (((el cl 0).got.size:ax)<=400)<;>cases decide (0<=(el cl 0).fr/\(el cl 0).fr<=i0)<;>cases decide (0<=(el cl 0).age)<;>rfl
 ·have j7:i-1<cl.length:=by omega
  have e3:decide ((el cl (i-1)).id≥(el cl i).id)= !decide ((el cl (i-1)).id<(el cl i).id):=by rw[<-decide_not,ca];omega
  simp only[r2,e9,dP,Lib.dn,hi,aP,Lib.cE,aM,au,Lib.dZ,PJ hi,wc1 hi,wc2 hi,wc3 hi,wc4 hi,wc5 hi,wc6 hi,bn,bI,eL,oW.iN,aG (show(i:ax)>0 by omega),lS (show 0<i by omega) (by omega),j7,PJ j7,ay,e1,e2,e3,Lib.c6 hi (by omega:cl.length<=9223372036854775807),aK hz,n_];cases decide (1<=(el cl i).id/\(el cl i).id<=9)<;>cases decide ((el cl (i-1)).id<(el cl i).id)<;>cases eU (el cl i).k<;>cases decide (1<=(el cl i).sta/\(el cl i).sta<=3)<;>cases decide (0<=(el cl i).fe/\(el cl i).fe<=(fe.length:ax))<;>cases decide (((el cl i).got.size:ax)<=400)<;>cases decide (0<=(el cl i).fr/\(el cl i).fr<=i0)<;>cases decide (0<=(el cl i).age)<;>rfl
theorem ok(i0:ax)(q1 q2 q3 q4:aQ)(i5:ax)(fe:aC Fe)(cl:aC Cl)(i8:ax)(hl:cl.length<=1048576):
  c i0 q1 q2 q3 q4 i5 (rf fe) (rc cl) i8=ai/\v i0 q1 q2 q3 q4 i5 (rf fe) (rc cl) i8=((cR cl.length).all (Hv i0 fe.length cl)&&decide (cl.length<=6)):=by
 refine out _ _ _ _ _ _ _ _ _ ?_;unfold vo b;rw[e9]
 have key:=jQ (Hv i0 fe.length cl) cl.length (λn (i:aE)=>l2 Lib.cU (λ(Hj:aW) (_:aQ) (_ _ _:ax) (_ _ _ _:aQ) (_:ax) (_ _:aQ) (_:ax)=>ah Hj) (λ(_:aW) (_:aQ) (_ _ _:ax) (_ _ _ _:aQ) (_:ax) (_ y37:aQ) (_:ax)=>ah (decide ((↑(bM y37):ax)<=6))) n ak (rc cl) (cl.length:ax) (i:ax) i0 q1 q2 q3 q4 i5 (rf fe) (rc cl) i8) (ah ak) (ah (decide (cl.length<=6)))
  (λn i hi hq=>by simp only[l2];rw[step _ _ _ _ _ _ _ _ _ _ _ _ _ i hi hl,hq];rfl)
  (λn i hi hq=>by simp only[l2];rw[step _ _ _ _ _ _ _ _ _ _ _ _ _ i hi hl,hq];rfl)
  (λn=>by simp only[l2,r2,Lib.dn,bm,bf,ay,e9];rw[show decide ((cl.length:ax)<=6)=decide (cl.length<=6)by rw[ca];omega]) Lib.cU (cC (by omega))
 refine key.trans ?_;cases (cR cl.length).all (Hv i0 fe.length cl)<;>rfl
end PZ

namespace JH
open Lib (rr rs re rf rc el En Fe Cl Px)
open nH (MQ)
open nI (nA apart)
open qK (Hv jw)
theorem ok(p:Px)(hp:p.Fit 1048576):c p.now (re p.en) (rs p.w) (rs p.m) (rr p.s) p.a (rf p.fe) (rc p.cl) p.hits=ai/\v p.now (re p.en) (rs p.w) (rs p.m) (rr p.s) p.a (rf p.fe) (rc p.cl) p.hits=jw p:=by refine out _ _ _ _ _ _ _ _ _ ?_;have h1:=PY.ok p.now p.en p.w p.m p.s p.a (rf p.fe) (rc p.cl) p.hits hp.en hp.w hp.m ⟨hp.s.1,hp.s.2.1⟩;have h2:=Og.ok p.now (re p.en) (rs p.w) (rs p.m) (rr p.s) p.a p.fe (rc p.cl) p.hits hp.fe;have h3:=PZ.ok p.now (re p.en) (rs p.w) (rs p.m) (rr p.s) p.a p.fe p.cl p.hits hp.cl;unfold vo b jw;have e1:∀n a b,lr.v n a b=decide (a<=n/\n<=b):=λn a b=>fJ.eL n a b;have e2:RA.v p.hits=decide (0<=p.hits/\p.hits<=1000000000):=e1 p.hits 0 1000000000;rw[e1,e2,h1.1,h1.2,h2.1,h2.2,h3.1,h3.2,Gf];cases decide (1<=p.now/\p.now<=1000000000)<;>cases MQ p.en p.w p.m p.s p.a<;>cases decide (p.fe.length<=20)<;>cases decide (p.cl.length<=6)<;>cases decide (0<=p.hits/\p.hits<=1000000000)<;>cases (cR p.fe.length).all (λi=>nA p.now (el p.fe i))<;>cases (cR p.fe.length).all (apart p.fe)<;>cases (cR p.cl.length).all (Hv p.now p.fe.length p.cl)<;>rfl
end JH

namespace qq
def p(s:aQ)(k:ax)(i:aE):aW:=decide (bI (ar s i 0)=k)
theorem ok(d:aQ)(n:ax)(hl:d.length<=4294967296):c d n=ai/\v d n=Lib.fi (p d n) d.length 0:=by
 refine out d n ?_;unfold vo b;refine nY (p d n) d.length (λm (i:aE)=>l2 Lib.cU (λ(_:aQ) (_:ax) (y7 _ _:ax)=>ah y7) (λ(_:aQ) (_:ax) (_ _ _:ax)=>ah (-1)) m d n 0 (d.length:ax) (i:ax)) ah (λm i hi hp=> ?_) (λm i hi hp=> ?_) (λm=> ?_) Lib.cU (cC (by omega))
 ·unfold p at hp;simp only[l2,r2,Lib.dn,Lib.cE,Lib.dZ,hi,aP,aM,au,J6.v,hp]
 ·unfold p at hp;simp only[l2,r2,Lib.dn,Lib.cE,Lib.dZ,hi,aP,aM,au,J6.v,hp,ay,Lib.c6 hi (by omega:d.length<=9223372036854775807)]
 ·simp only[l2,r2,Lib.dn,bm,bf,ay]
end qq

namespace ze
open Lib (rc el Cl)
open je (mr)
theorem ok(i0:ax)(r1 r2 r3 r4:aQ)(i5:ax)(r6:aQ)(cl:aC Cl)(i8 id:ax)(hl:cl.length<=1048576):c i0 r1 r2 r3 r4 i5 r6 (rc cl) i8 id=ai/\decide (v i0 r1 r2 r3 r4 i5 r6 (rc cl) i8 id≥0)=mr cl id:=by
 have h:=qq.ok (rc cl) id (by rw[e9];omega);have o:=out i0 r1 r2 r3 r4 i5 r6 (rc cl) i8 id (by unfold vo b;rw[h.1,h.2,au]);refine⟨o.1, ?_⟩
 rw[o.2,e9];exact je.Kx cl (λx=>decide (x.id=id)) _ λi hi=>by unfold qq.p;rw[PJ hi,fF hi];rfl
end ze

namespace pL
def p(s:aQ)(k:aq)(i:aE):aW:=cF (aF (bn (ar s i 0))) (aF k)
theorem ok(d:aQ)(n:aq)(hl:d.length<=4294967296):c d n=ai/\v d n=Lib.fi (p d n) d.length 0:=by
 refine out d n ?_;unfold vo b;refine nY (p d n) d.length (λm (i:aE)=>l2 Lib.cU (λ(_:aQ) (_:aq) (y7 _ _:ax)=>ah y7) (λ(_:aQ) (_:aq) (_ _ _:ax)=>ah (-1)) m d n 0 (d.length:ax) (i:ax)) ah (λm i hi hp=> ?_) (λm i hi hp=> ?_) (λm=> ?_) Lib.cU (cC (by omega))
 ·unfold p at hp;simp only[l2,r2,Lib.dn,Lib.cE,Lib.dZ,hi,aP,aM,au,J4.v,hp]
 ·unfold p at hp;simp only[l2,r2,Lib.dn,Lib.cE,Lib.dZ,hi,aP,aM,au,J4.v,hp,ay,Lib.c6 hi (by omega:d.length<=9223372036854775807)]
 ·simp only[l2,r2,Lib.dn,bm,bf,ay]
end pL

namespace qs
theorem ok(i:aE)(key:aq)(hi:i<3)(hk:key.size<=140737488355328):c (i:ax) key=ai/\v (i:ax) key=(gp.pl i key:ax):=by
 refine out _ _ ?_;unfold vo b;have e:(key++bytesOf (aA (aN [Ck.i ba] 1) 0 [CV.i ba (bE ba (bH (↑(dW (jo (b9 64 (i:ax)) (b9 64 255))):ax)))]))=gp.keyed i key:=by
  unfold gp.keyed;match i,hi with
  |0,_=>rfl
  |1,_=>rfl
  |2,_=>rfl
 have hs:=gp.CN i key;have h:=uU.ok (gp.keyed i key) (by omega);have e2:cj key+cj (bytesOf (aA (aN [Ck.i ba] 1) 0 [CV.i ba (bE ba (bH (↑(dW (jo (b9 64 (i:ax)) (b9 64 255))):ax)))]))=key.size+1:=by rw[pF,CM]
 rw[e2,e,aG (by omega),au,h.1,h.2,au];have hp:=gp.pl_int i key;have hl:=gp.CC i key;have hr:=gp.Lu i key;unfold gp.sm at hp hr;rw[c9 (by omega) (by omega),hp]
end qs

namespace iH
open Lib (rr ri)
open dt (fR bq Dx half BS PG PH oD ur s7)
theorem afO(K:aq->ax->ax->ax->ax->aQ->az R)(s:aC (aC ax))(key:aq)(y a:ax)(hs:s.length=3)(hq:∀q∈s,q.length=16/\∀n∈q,0<=n/\n<=15)(hk:key.size<=140737488355328):
  l5 Lib.cU K Lib.cU key 3 0 y a (rr s)=K key 3 3 y a (rr (Dx s key)):=by
 refine(nE fR s (λi q=>bq (gp.pl i key) q) (λm (i:aE) x=>l5 Lib.cU K m key 3 (i:ax) y a x) (λx=>K key 3 3 y a x) (λm i L h h2 hL vS=> ?_) (λm L hL=> ?_) Lib.cU (cC (by omega)))
 ·have hp:=qs.ok i key (by omega) hk;have sL:=gp.CC i key;obtain⟨JJ,hn⟩:=hq _ (bA h);have e0:ar (L.map fR) i 0=CV.l 3 (ri s[i]):=by rw[BS L i h2,vS]
  have hb:gp.pl i key<s[i].length:=by omega
  have hx:=hn _ (bA hb);have e3:decide ((i:ax)<3)=true:=aG (by omega);simp only[l5,r5,bR,Lib.dn,h2,e3,aP,au,hp.1,hp.2,Lib.cE,aM,Lib.dZ,e0,iR,Lib.gf,JJ,sL,P9 hb,bI];unfold bq im;rw[oD hb,ay,c9 (x:=s[i][gp.pl i key]+1) (by omega) (by omega)];by_cases hd:s[i][gp.pl i key]<15
  ·rw[bG (by omega),aG hd,au,PG _ _ _ hb,PH _ _ _ h2,Lib.c6 h2 (by omega)]
  ·have e15:s[i][gp.pl i key]=15:=by omega
   rw[bw (by omega),aK hd,ay,e15,PG _ _ _ hb,PH _ _ _ h2,Lib.c6 h2 (by omega)]
 ·have e3:decide ((s.length:ax)<3)=false:=aK (by omega);simp only[l5,r5,e3,ay,hs];rfl
theorem alk(K:aE->ax->ax->ax->ax->ax->ax->aQ->az R)(L:aC (aC ax))(i:aE)(h:i<L.length)(u w y a:ax)(hl:L.length<=1048576)(hq:L[i].length=16)(hn:∀n∈L[i],0<=n/\n<=15):
  l18 Lib.cU K Lib.cU i u w 16 0 y a (L.map fR)=K i u w 16 16 y a ((L.set i (L[i].map λn=>cL n 2)).map fR):=by
 have hmi:L[i].mapIdx (λ_ n=>cL n 2)=L[i].map λn=>cL n 2:=by apply jM<;>simp
 have key:=lY (L[i].length) (λm (k:aE) x=>l18 Lib.cU K m i u w 16 (k:ax) y a x) (λk=>(L.set i (n8 L[i] (λ_ n=>cL n 2) k)).map fR) (K i u w 16 16 y a ((L.set i (L[i].map λn=>cL n 2)).map fR)) (λm k hk=> ?_) (λm=> ?_) Lib.cU 0 (bB _) (cC (by omega))
 ·rw[CU,fw]at key;exact key
 ·have hu:=qG L[i] (λ_ n=>cL n 2) k (by omega);generalize hU:n8 L[i] (λ_ n=>cL n 2) k=U at hu;have hku:k<U.length:=by omega
  have gh:U[k]=L[i][k]:=by subst hU;exact xY _ _ _ hk _
  have aeI:U.set k (cL L[i][k] 2)=n8 L[i] (λ_ n=>cL n 2) (k+1):=by subst hU;exact tO L[i] (λ_ n=>cL n 2) k hk
  have h2:i<(L.set i U).length:=by simpa using h
  have e0:ar ((L.set i U).map fR) i 0=CV.l 3 (ri U):=by rw[BS _ _ h2,kB]
  have hx:=hn _ (bA hk);have ht:0<=cL L[i][k] 2:=Wl hx.1 (by omega);have GK:cL L[i][k] 2<=15:=zO (VB _ hx.1) hx.2;have e3:decide ((k:ax)<16)=true:=aG (by omega);simp only[l18,r18,bR,cQ,Lib.dn,h,hku,e3,aP,au,Lib.cE,aM,Lib.dZ,e0,iR,Lib.gf,P9 hku,bI,gh];rw[c9 (x:=cL L[i][k] 2) (by omega) (by omega),PG _ _ _ hku,PH _ _ _ h2,aeI,pC,Lib.c6 hk (by omega)]
 ·have e3:decide ((L[i].length:ax)<16)=false:=aK (by omega);simp only[l18,r18,e3,ay];rw[qF,hmi,hq];rfl
theorem ali(K:ax->ax->ax->ax->aQ->az R)(s:aC (aC ax))(y a:ax)(hs:s.length=3)(hq:∀q∈s,q.length=16/\∀n∈q,0<=n/\n<=15):
  l15 Lib.cU K Lib.cU 3 0 y a (rr s)=K 3 3 y a (rr (half s)):=by
 have hmi:s.mapIdx (λ_ q=>q.map λn=>cL n 2)=half s:=by unfold half;apply jM<;>simp
 rw[<-hmi];refine(nE fR s (λ_ q=>q.map λn=>cL n 2) (λm (i:aE) x=>l15 Lib.cU K m 3 (i:ax) y a x) (λx=>K 3 3 y a x) (λm i L h h2 hL vS=> ?_) (λm L hL=> ?_) Lib.cU (cC (by omega)))
 ·obtain⟨JJ,hn⟩:=hq _ (bA h);have e3:decide ((i:ax)<3)=true:=aG (by omega);have e0:ar (L.map fR) i 0=CV.l 3 (ri s[i]):=by rw[BS L i h2,vS]
  simp only[l15,r15,bR,Lib.dn,h2,e3,aP,au,Lib.cE,aM,Lib.dZ,e0,iR,Lib.gf,JJ];rw[show((16:aE):ax)=16 from rfl,alk _ L i h2 3 i y a (by omega) (by rw[vS];exact JJ) (by rw[vS];exact hn),Lib.c6 h2 (by omega),vS]
 ·have e3:decide ((s.length:ax)<3)=false:=aK (by omega);simp only[l15,r15,e3,ay,hs];rfl
theorem ok(s:aC (aC ax))(a:ax)(key:aq)(hf:jj.oC s)(hk:key.size<=140737488355328):c (rr s) a key=ai/\v (rr s) a key=(rr (dt.val s a key).1,(dt.val s a key).2):=by
 refine out _ _ _ ?_;have h1:=jj.ok s a hf;have h2:=pE.ok s a hf;unfold vo b dt.val;rw[h1.1,h1.2,h2.1,h2.2,au,au];cases cf:fJ.n7 s a with
 |false=>rfl
 |true=>
  obtain⟨hs,ha,hq⟩:=ur cf;obtain⟨b1,b2⟩:=s7 (key:=key) hs hq;rw[aY,ay,au,gH,hs,show((3:aE):ax)=3 from rfl,afO _ s key _ _ hs hq hk,c9 (x:=a+1) (by omega) (by omega)];by_cases hd:a+1=64
  ·rw[aK (show¬a+1<64 by omega),aG hd,au,ay,gH,b1,show((3:aE):ax)=3 from rfl,ali _ _ _ _ b1 b2]
  ·rw[aG (show a+1<64 by omega),aK hd];rfl
end iH

namespace sB
def p(s:aQ)(k:aq)(i:aE):aW:=cF (aF (bn (ar s i 0))) (aF k)
theorem ok(d:aQ)(n:aq)(hl:d.length<=4294967296):c d n=ai/\v d n=Lib.fi (p d n) d.length 0:=by
 refine out d n ?_;unfold vo b;refine nY (p d n) d.length (λm (i:aE)=>l2 Lib.cU (λ(_:aQ) (_:aq) (y7 _ _:ax)=>ah y7) (λ(_:aQ) (_:aq) (_ _ _:ax)=>ah (-1)) m d n 0 (d.length:ax) (i:ax)) ah (λm i hi hp=> ?_) (λm i hi hp=> ?_) (λm=> ?_) Lib.cU (cC (by omega))
 ·unfold p at hp;simp only[l2,r2,Lib.dn,Lib.cE,Lib.dZ,hi,aP,aM,au,Az.v,hp]
 ·unfold p at hp;simp only[l2,r2,Lib.dn,Lib.cE,Lib.dZ,hi,aP,aM,au,Az.v,hp,ay,Lib.c6 hi (by omega:d.length<=9223372036854775807)]
 ·simp only[l2,r2,Lib.dn,bm,bf,ay]
end sB

namespace wI
def cn(y:aC CV):aW:=match y with|[.s _]=>ai|_=>ak
def cr(y:aC CV):aC CV:=[CV.s (bn (y.getD 0 (.b ak)))]
theorem s_{y:aC CV}(h:cn y=ai):cr y=y:=by
 unfold cn at h;split at h
 ·rfl
 ·cases h
theorem mj{y:aC CV}(h:cn y=ai):y.length=1:=by rw[<-s_ h];rfl
def keep(d:aq)(y:aC CV):aW:= !List.beq (aF (bn (y.getD 0 (.b ak)))) (aF d)
theorem il(d:aq){s:aQ}{i:aE}(h:i<s.length):(s.take (i+1)).filter (keep d)=(s.take i).filter (keep d)++(bif keep d s[i]then [s[i]]else []):=by rw[cB h,ik];cases hk:keep d s[i]<;>simp[hk]
theorem run(N:aE)(s0:aQ)(d:aq)(hc:s0.all cn=ai)(hn:s0.length<=9223372036854775807)(K:aq->ax->ax->aQ->az R)(kr:aQ->az R)
  (hK:∀(j:aE) x,x.length=s0.length->j<=s0.length->K d j s0.length x=kr (x.take j)) (m j i:aE) (x:aQ)
  (hi:j<i/\i<=s0.length/\x.length=s0.length/\(∀y∈x,y.length=1)/\x.take j=(s0.take i).filter (keep d)/\x.drop i=s0.drop i) (hm:s0.length-i<m):
  l5 N K m d j i x=kr (s0.filter (keep d)):=by
 have KJ:∀y∈s0,cn y=true:=bu.1 hc
 refine Lib.fQ (λm (s:aE×aE×aQ)=>l5 N K m d s.1 s.2.1 s.2.2) (λs=>s0.length-s.2.1)
  (λs=>s.1<s.2.1/\s.2.1<=s0.length/\s.2.2.length=s0.length/\(∀y∈s.2.2,y.length=1)/\s.2.2.take s.1=(s0.take s.2.1).filter (keep d)/\s.2.2.drop s.2.1=s0.drop s.2.1)
  (λ_=>kr (s0.filter (keep d))) (λm s hs=> ?_) m (j,i,x) hi hm
 obtain⟨j,i,x⟩:=s;obtain⟨h1,h2,h3,h4,h5,h6⟩:=hs;simp only at h1 h2 h3 h4 h5 h6⊢;by_cases gz:i<s0.length
 ·right;have oh:i<x.length:=by omega
  have GG:j<x.length:=by omega
  have hx:x[i]=s0[i]:=by have e1:=Lib.eF oh;have e2:=Lib.eF gz;rw[h6,e2]at e1;exact(kg e1).1.symm
  have hd:x.drop (i+1)=s0.drop (i+1):=by have e1:=Lib.eF oh;have e2:=Lib.eF gz;rw[h6,e2]at e1;exact(kg e1).2.symm
  have KL:=KJ _ (bA gz);have hf:=il d gz;cases hk:keep d s0[i]with
  |true=>
   refine⟨(j+1,i+1,x.set j s0[i]), ?_,by simp only;omega,trivial, ?_⟩
   ·rw[hk,au,<-h5]at hf;refine⟨by simp only;omega,by simp only;omega,by simpa using h3, ?_, ?_, ?_⟩
    ·intro y hy;rcases jD hy with h|h
     ·exact h4 y h
     ·rw[h];exact mj KL
    ·rw[hf];rw[cB (by simpa using GG)];simp[wx]
    ·simp only;rw[wv (by omega)];exact hd
   ·have e:Az.v (bn (ar x i 0)) d=false:=by
     have:(!Az.v (bn (ar x i 0)) d)=true:=by rw[Lib.cD oh,hx];exact hk
     simpa using this
    have es:eA x j 0 [CV.s (bn (ar x i 0))]=x.set j s0[i]:=by
     have hl:=h4 _ (bA GG);rw[Lib.Bj GG,Lib.cD oh,hx];have:iD x[j] 0 (cr s0[i])=s0[i]:=by rw[s_ KL];unfold iD;have:=mj KL;simp[hl,this,gT]
     unfold cr at this;rw[this]
    have b1:(j:ax)<(x.length:ax):=by omega
    simp only[l5,r5,Lib.dn,Lib.cE,Lib.dZ,oh,GG,aP,bh,au,e,bQ,es,Lib.c6 gz hn,Lib.c6 (show j<s0.length by omega) hn]
  |false=>
   refine⟨(j,i+1,x), ?_,by simp only;omega,trivial, ?_⟩
   ·rw[hk,ay,dj,<-h5]at hf;exact⟨by simp only;omega,by simp only;omega,h3,h4,hf.symm,hd⟩
   ·have e:Az.v (bn (ar x i 0)) d=true:=by
     have:(!Az.v (bn (ar x i 0)) d)=false:=by rw[Lib.cD oh,hx];exact hk
     simpa using this
    simp only[l5,r5,Lib.dn,Lib.cE,Lib.dZ,oh,aP,bh,au,e,aY,ay,Lib.c6 gz hn]
 ·left;have:i=s0.length:=by omega
  subst this;rw[dK]at h5;have e:=hK j x h3 (by omega);rw[h5]at e;have oh:¬s0.length<x.length:=by omega
  simp only[l5,r5,Lib.dn,oh,bf,ay,e]
theorem ok(s0:aQ)(iV:aq)(hc:s0.all cn=ai)(hn:s0.length<=4294967296):c s0 iV=ai/\v s0 iV=s0.filter (keep iV):=by
 refine out s0 iV ?_;have hv:=sB.ok s0 iV hn;unfold vo b;rw[hv.1,hv.2,au];rcases Lib.o_ (sB.p s0 iV) s0.length 0 with ⟨h,nN⟩|⟨k,_,zW,hk,KN,KI⟩
 ·rw[h];have:s0.filter (keep iV)=s0:=by rw[eE];intro y hy;obtain⟨i,hi,rfl⟩:=c8 hy;have:=nN i (bB _) (by omega);unfold sB.p at this;rw[Lib.cD hi]at this;unfold keep;rw[this];rfl
  rw[this];rfl
 ·rw[hk];have DD:k<s0.length:=by omega
  have iw:decide ((k:ax)=oS 1)=false:=aK (by show¬(k:ax)= -1;omega);rw[iw,ay,Lib.c6 DD (by omega)];have KJ:∀y∈s0,cn y=true:=bu.1 hc;refine run _ s0 iV hc (by omega) _ ah (λj x hx hj=> ?_) _ k (k+1) s0 ⟨by omega,by omega,rfl,λy hy=>mj (KJ y hy), ?_,rfl⟩ (cC (by omega))
  ·have b1:iy (j:ax) (s0.length:ax) (s0.length:ax)=true:=by simp[iy];omega
   have e:gW j x++aN [Ck.s] (s0.length-j)++m8 s0.length x=gW j x++aN [Ck.s] (s0.length-j):=by rw[gT (by omega),dj]
   have hl:(gW j x).length=j:=by simp;omega
   simp only[hx,Lib.dZ,b1,au,e];rw[Lib.s6 (by simp[iy];omega)];unfold eW;rw[show aZ 0=0 from rfl,fu,rX,oU (by omega),ja (by omega)]
  ·rw[il iV DD];have e1:keep iV s0[k]=false:=by unfold sB.p at KN;rw[Lib.cD DD]at KN;unfold keep;rw[KN];rfl
   have e2:(s0.take k).filter (keep iV)=s0.take k:=by
    rw[eE];intro y hy;obtain⟨i,hi,rfl⟩:=c8 hy;have VS:i<k:=by simp at hi;omega
    have:=KI i (bB _) VS;unfold sB.p at this;rw[Lib.cD (by omega)]at this;rw[nh];unfold keep;rw[this];rfl
   rw[e1,e2,ay,dj]
end wI

namespace j4
theorem aib(l:aC aq):(Lib.rs l).all wI.cn=true:=by rw[bu];intro y hy;unfold Lib.rs at hy;obtain⟨z,_,rfl⟩:=cX.1 hy;rfl
theorem aec(l:aC aq)(k:aq):(Lib.rs l).filter (wI.keep k)=Lib.rs (fg.without l k):=by unfold Lib.rs fg.without;rw[oT];congr 1;apply jq;intro x _;show(!List.beq (aF x) (aF k))=_;rw[Lib.fj]
theorem ok(l:aC aq)(k:aq)(hl:l.length<=1048576):c (Lib.rs l) k=ai/\v (Lib.rs l) k=Lib.rs (fg.without l k):=by have h1:=sV.ok (Lib.rs l) (by rw[eH];omega);have h2:=wI.ok (Lib.rs l) k (aib l) (by rw[eH];omega);rw[aec]at h2;exact out _ _ (by unfold vo b;rw[h1.1,h1.2,h2.1,h2.2,au,au])
end j4

namespace vM
open Lib (rr ri)
open mC (gs GC)
theorem ok(s:aC (aC ax))(a:ax)(key:aq)(hf:jj.oC s)(hk:key.size<=140737488355328):c (rr s) a key=ai/\v (rr s) a key=mC.val s a key:=by
 refine out _ _ _ ?_;have h2:=pE.ok s a hf;unfold vo b mC.val;rw[h2.1,h2.2,au];cases cf:fJ.n7 s a with
 |false=>rfl
 |true=>
  obtain⟨hs,ha,hq⟩:=dt.ur cf;rw[aY,ay,au,gH];have:=Lib.fQ (λm (t:aE×ax)=>l5 Lib.cU (λ(_:aq) (y6:ax) (_:aQ) (_ _:ax)=>ah y6) m key t.2 (rr s) s.length (t.1:ax)) (λt=>s.length-t.1) (λt=>t.1<=s.length) (λt=>ah (gs key t.1 (s.drop t.1) t.2)) (λm t ht=>by
   obtain⟨i,x⟩:=t;dsimp only at ht⊢;by_cases h:i<s.length
   ·right;have hp:=qs.ok i key (by omega) hk;have sL:=gp.CC i key;obtain⟨JJ,hn⟩:=hq _ (bA h);have hb:gp.pl i key<s[i].length:=by omega
    refine⟨(i+1,bif decide (s[i].getD (gp.pl i key) 0<x)then s[i].getD (gp.pl i key) 0 else x),by dsimp only;omega,by dsimp only;omega,by rw[<-GC key s i h x], ?_⟩
    simp only[l5,r5,gH,Lib.dn,h,aP,au,hp.1,hp.2,Lib.cE,aM,Lib.dZ,Jm h,iR,Lib.gf,JJ,sL,P9 hb,bI,Lib.c6 h (by omega:s.length<=9223372036854775807)];rw[dt.oD hb];unfold im;rw[ay];by_cases hd:s[i][gp.pl i key]<x
    ·rw[bw hd,aG hd,au]
    ·rw[bG hd,aK hd,ay]
   ·left;have:i=s.length:=by omega
    subst this;simp only[l5,r5,gH,Lib.dn,bm,bf,ay,di,gs]) Lib.cU (0,15) (bB _) (cC (by dsimp only;omega))
  simpa using this
end vM

end Go.FG
